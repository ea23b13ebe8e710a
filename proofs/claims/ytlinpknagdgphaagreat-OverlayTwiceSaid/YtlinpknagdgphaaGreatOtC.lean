/-
  overlayTwice_holds, part 3 of 7: merged by program from the texts that it needs.
-/
import Derived.Test.YtlinpknagdgphaaGreatOtB
set_option linter.unusedSimpArgs false
set_option linter.unusedVariables false
set_option linter.unnecessarySimpa false
namespace Go.Proofs.YtlinpknagdgphaaGreat
open Go.RowKit
variable {P:Program} {T:aW} {D:List Nat} {w0:World} {K0:World→Prop} {E:List (Nat×AV)} {M:List au} {β:Beta} {F:Nat→aA} {I:aA} {ρ:Operand→Value} {w:World}
variable {d:Option Tmp} {ty:TypeId} {pos:String} {aft:Array Edge} {gd:Option (Nat×Bool)} {oc:Option bj} {out:Out}
theorem Pn {K:World→Prop} {u b c e k m m2 o:Nat} {cells l:List AV} {ys zs:List Value} (hb:β[u]?=some (some ⟨b,0,none⟩,c)) (hl:ys.length=c*k) (hm:cells.length=m*k) (hr:∀ (j:Nat) c y,cells[j]?=some c→ys[j]?=some y→aE K β c y)
  (fw:zs.length=l.length) (hz:∀ (j:Nat) c y,l[j]?=some c→zs[j]?=some y→aE K β c y) (ho:o≤cells.length) (xg:m2≤c) (hlen:(cells.take o++(l++cells.drop (o+l.length))).length=m2*k):
  bK K β u (.fl e k m2 (cells.take o++(l++cells.drop (o+l.length)))) [(b,.cells (cL ys.toArray o zs) e (0,0))]:=by
 have Su:m2*k≤c*k:=Nat.mul_le_mul_right _ xg
 have AH:=hlen
 simp only [List.length_append,List.length_take,List.length_drop] at AH
 have hle:o+zs.length≤ys.toArray.size:=by simp;omega
 have he:(cL ys.toArray o zs)=(cL ys.toArray o zs).toList.toArray:=by simp
 rw [he]
 refine .fl hb _ (by rw [Array.length_toList,j7];simpa using hl) hlen xg ?_
 intro j c z e1 e2
 rw [Array.getElem?_toList,pS _ _ _ _ hle] at e2
 by_cases hj:o≤j∧j<o+zs.length
 ·rw [if_pos hj] at e2
  rw [List.getElem?_append_right (by simp;omega),List.getElem?_append_left (by simp;omega)] at e1
  refine hz (j-o) c z ?_ e2
  rw [← e1];congr 1;simp;omega
 ·rw [if_neg hj] at e2
  rw [List.getElem?_toArray] at e2
  refine hr j c z ?_ e2
  rcases Nat.lt_or_ge j o with nW | nW
  ·rw [List.getElem?_append_left (by simp;omega),List.getElem?_take,if_pos nW] at e1;exact e1
  ·rw [List.getElem?_append_right (by simp;omega),List.getElem?_append_right (by simp;omega),List.getElem?_drop] at e1
   rw [← e1];congr 1;simp;omega
theorem Fs {α:Type} {k:Nat}:∀ {rows:List (List α)},(∀ r ∈ rows,r.length=k)→rows.flatten.length=rows.length*k∧∀ (i j:Nat) r,rows[i]?=some r→j<k→rows.flatten[i*k+j]?=r[j]?
 | [],_=>⟨by simp,by simp⟩
 | r::rs,h=>by
  have hr:=h r (by simp)
  obtain ⟨h1,h2⟩:=Fs (rows:=rs) (fun x hx=>h x (by simp [hx]))
  refine ⟨by simp [h1,hr,Nat.succ_mul,Nat.add_comm],fun i j q hq hj=>?_⟩
  cases i with
  | zero=>simp at hq;subst hq;rw [Nat.zero_mul,Nat.zero_add,List.flatten_cons,List.getElem?_append_left (by omega)]
  | succ i=>
   simp at hq
   rw [List.flatten_cons,List.getElem?_append_right (by rw [Nat.succ_mul];omega),← h2 i j q hq hj]
   congr 1;rw [Nat.succ_mul];omega
theorem N6 {K:World→Prop} {l:List AV} {X:List Value} (h:l.all AV.one=true) (hl:X.length=l.length) (hr:∀ (j:Nat) c z,l[j]?=some c→X[j]?=some z→aE K β c z):∀ q ∈ X,cd q=true:=by
 intro q hq
 obtain ⟨j,hj,rfl⟩:=List.getElem_of_mem hq
 have jt:j<l.length:=by omega
 exact AV.zG (hr j _ _ (List.getElem?_eq_getElem jt) (List.getElem?_eq_getElem hj)) (List.all_eq_true.1 h _ (List.getElem_mem jt))
def z7 (T:aW) (E:List (Nat×AV)) (M:List au) (oc:Option bj) (st:TypeId) (x y:Operand):Option Out:=
 match ju T st,aO E x,aO E y,oc with
 | some (_,k,_,_),some (.sf u k' 0 n _),some (.d (.ro k3 rows)),some (.res (.ag ds))=>(match M[u]? with
  | some (.fl e2 k2 m cells)=>bif k.beq k'&&(k.beq k2&&(k.beq k3&&n.ble m)) then some ⟨[bA rows,(rows.flatten.map AV.d).take (min rows.length n*k)++cells.drop ((rows.flatten.map AV.d).take (min rows.length n*k)).length=ds.map AV.d],.d (.v (.int .i64 ((min rows.length n:Nat):Int))),M.set u (.fl e2 k2 m (ds.map .d)),[u],[],none⟩ else none
  | _=>none)
 | _,_,_,_=>none
theorem KX (hT:bp P T=true) {st xt:TypeId} {x y:Operand} (h:z7 T E M oc st x y=some out):aP P ⟨d,.call ⟨.builtin .copy,#[x,y],#[st,xt]⟩,ty,pos,aft,gd⟩ E M out:=by
 unfold z7 at h
 split at h
 rotate_left
 ·simp at h
 rename_i e k b z u k' n q k3 rows ds he hx hy
 obtain ⟨zv,ok,-,-⟩:=lI hT he
 split at h
 rotate_left
 ·simp at h
 rename_i e2 k2 m cells hM
 cases hc:(k.beq k'&&(k.beq k2&&(k.beq k3&&n.ble m))) with
 | false=>simp [hc] at h
 | true=>
 simp only [hc,cond_true,Option.some.injEq] at h;subst h
 simp only [Bool.and_eq_true] at hc
 obtain ⟨c1,c2,c4,c3⟩:=hc
 obtain rfl:=Nat.eq_of_beq_eq_true c1
 obtain rfl:=Nat.eq_of_beq_eq_true c2
 obtain rfl:=Nat.eq_of_beq_eq_true c4
 have xa:=Nat.le_of_ble_eq_true c3
 intro D w0 K0 β F I ρ w C hv
 obtain ⟨er,tP,-⟩:=hv
 obtain ⟨yx,fN,rx⟩:=C.bS hx
 obtain ⟨yy,tA,ry⟩:=C.bS hy
 obtain ⟨X,ra,hs⟩:=Fb C.now ry
 have hX:∀ i,i<rows.length→(X i).length=k:=fun i hi=>(ra.hl i _ (List.getElem?_eq_getElem hi)).2
 have du:∀ r ∈ rows,r.length=k:=fun r hr=>by
  obtain ⟨i,hi,rfl⟩:=List.getElem_of_mem hr
  exact (ra.hl i _ (List.getElem?_eq_getElem hi)).1
 obtain ⟨f1,f2⟩:=Fs du
 have gO:=e8 hX
 have s2:(lay rows.length X).length=(rows.flatten.map AV.d).length:=by rw [gO,List.length_map,f1]
 have s3:∀ (j:Nat) c z,(rows.flatten.map AV.d)[j]?=some c→(lay rows.length X)[j]?=some z→aE (fun w=>K0 w∧az w I) β c z:=fun j c z e1 e2=>by
  have rD:j<rows.length*k:=by rw [← gO];exact (List.getElem?_eq_some_iff.1 e2).1
  have hk:0<k:=by
   rcases Nat.eq_zero_or_pos k with h0 | h0
   ·subst h0;simp at rD
   ·exact h0
  have hd:j / k<rows.length:=Nat.div_lt_of_lt_mul (by rw [Nat.mul_comm];exact rD)
  have hm:j%k<k:=Nat.mod_lt _ hk
  have e:j / k*k+j%k=j:=by rw [Nat.mul_comm,Nat.div_add_mod]
  have cu:rows[j / k]?=some rows[j / k]:=List.getElem?_eq_getElem hd
  have g1:=lE hX hd hm
  have g2:=f2 _ _ _ cu hm
  rw [e] at g1 g2
  rw [g1] at e2
  rw [List.getElem?_map,g2,Option.map_eq_some_iff] at e1
  obtain ⟨c',e1,rfl⟩:=e1
  exact .d (ra.hr _ _ _ c' z cu e1 e2)
 have Qw:(rows.flatten.map AV.d).all AV.one=true:=by
  unfold bA at er
  rw [List.all_eq_true] at er ⊢
  intro c hc
  obtain ⟨c',h1,rfl⟩:=List.mem_map.1 hc
  obtain ⟨r,h2,h3⟩:=List.mem_flatten.1 h1
  exact List.all_eq_true.1 (er r h2) c' h3
 have AM:=N6 Qw s2 s3
 have wH:min rows.length n≤rows.length:=Nat.min_le_left _ _
 obtain ⟨hlen,qw⟩:=hs.pre (P:=P) wH
 have bI:∀ w:World,(sizeOf e).run P w=.ok k w:=fun w=>by obtain ⟨i,hi,h1,-⟩:=ok.info;simp [sizeOf,typeInfo,Sem.run_bind,hi,h1]
 cases rx with
 | @sf _ _ _ _ bb cc cap _ hb ew hn hq=>
 obtain ⟨H,hF,hB,hH⟩:=C.rm.at hM
 cases hB with
 | fl aV ys hl hm nZ hr=>
 rw [hb] at aV;cases aV
 have hw:=hH.one
 have a1:n*k≤m*k:=Nat.mul_le_mul_right _ xa
 have a2:m*k≤ys.length:=by rw [hl];exact Nat.mul_le_mul_right _ nZ
 have a4:min rows.length n*k≤n*k:=Nat.mul_le_mul_right _ (Nat.min_le_right _ _)
 have a5:min rows.length n*k≤rows.length*k:=Nat.mul_le_mul_right _ wH
 have mE:=rS (P:=P) ((lay rows.length X).take (min rows.length n*k)) w ys.toArray (0*k) 0 hw (by simp;omega) (fun q hq=>AM q (List.mem_of_mem_take hq))
 simp only [Nat.add_zero] at mE
 refine bq.pure (v:=.int .i64 ((min rows.length n:Nat):Int)) (w':=ct w bb (.cells (cL ys.toArray (0*k) ((lay rows.length X).take (min rows.length n*k))) e2 (0,0))) ?_ ?_
 ·have AN:Nat.min rows.length n=min rows.length n:=rfl
  simp only [execOp,resolve,List.map_toArray,List.map,fN,tA,Sem.run_bind,Sem.run_pure,Result.andThen_ok,invoke,builtin,Builtin.copy_,List.getElem?_toArray,List.getElem?_cons_zero,List.getElem?_cons_succ,run_underlying ok.bM,hlen,AN,bI,qw,mE]
  rfl
 ·have c9:=Pn (K:=fun w=>K0 w∧az w I) (e:=e2) (m2:=m) (o:=0*k) (l:=(rows.flatten.map AV.d).take (min rows.length n*k)) (zs:=(lay rows.length X).take (min rows.length n*k)) hb hl hm hr (by rw [List.length_take,List.length_take,s2]) (fun j c z e1 e2=>by
    rw [List.getElem?_take] at e1 e2
    split at e1
    ·rename_i hj;rw [if_pos hj] at e2;exact s3 j c z e1 e2
    ·simp at e1) (by omega) nZ (by
    simp only [List.length_append,List.length_take,List.length_drop]
    omega)
  rw [Nat.zero_mul,List.take_zero,List.nil_append,Nat.zero_add,tP] at c9
  rw [Nat.zero_mul]
  exact ⟨β,_,I,C.rm.set hM hF c9,(Ext.refl β).b _,bL.refl _,fun v hv hn=>by simp only [aS];rw [if_neg (by simpa using hn)],.d (.v _)⟩
def A7 (T:aW) (E:List (Nat×AV)) (M:List au) (oc:Option bj) (t:TypeId) (x ix:Operand):Option Out:=
 match cV T t,aO E x,cS (aO E ix),oc with
 | some (.ar n e),some (.ag l),some (_,z),some (.ix i [c])=>(match fY T e with
  | some k=>some (lk [z=(i:Int),i<n,pw T e l (i*k)=some (.d c)] (.d c) M)
  | none=>none)
 | _,_,_,_=>none
theorem ME (hT:bp P T=true) {t:TypeId} {x ix:Operand} (h:A7 T E M oc t x ix=some out):aP P ⟨d,.index t x ix,ty,pos,aft,gd⟩ E M out:=by
 unfold A7 at h
 split at h
 ·rename_i n e l _ z i c hu hx hz
  split at h
  ·rename_i k hk
   simp only [Option.some.injEq] at h;subst h
   have bI:∀ w:World,(sizeOf e).run P w=.ok k w:=fun w=>by
    have:=ie hT hk
    cases hi:P.info? e with
    | none=>simp [hi] at this
    | some inf=>simp only [hi,Option.map_some,Option.some.injEq] at this;simp [sizeOf,typeInfo,Sem.run_bind,hi,this]
   refine aP.same ?_
   intro D w0 K0 β F I ρ w C hv
   obtain ⟨rfl,aK,hp,-⟩:=hv
   have r:=C.ev hx
   have hi:=C.int hz
   generalize hy:ρ x=y at r
   cases r with
   | ag ys hl hr=>
    obtain ⟨y,h1,h2⟩:=vN hT hp hl hr
    refine ⟨y,fun w' _=>?_,h1⟩
    have fM:=cE hT hu
    have hc:(0:Int)≤(i:Int)∧(i:Int)<(n:Int):=by omega
    simp only [execOp,hy,hi,Instr.index,asIntOf,Sem.run_bind,Sem.run_pure,run_underlying fM,Result.andThen_ok]
    rw [if_pos hc]
    simp only [Sem.run_bind,bI,Result.andThen_ok,Int.toNat_natCast,h2,Sem.run_pure]
  ·simp at h
 ·simp at h
def z8 (T:aW) (E:List (Nat×AV)) (M:List au) (t:TypeId) (x:Operand):Option Out:=
 match aO E x with
 | some (.pt u o)=>(match M[u]? with
  | some (.fl _ _ _ cells)=>(match lT T t cells o with | some v=>some ⟨[],v,M,[],[],some [u]⟩ | none=>none)
  | _=>none)
 | _=>none
theorem KY (hT:bp P T=true) {t:TypeId} {x:Operand} (h:z8 T E M t x=some out):aP P ⟨d,.load t x,ty,pos,aft,gd⟩ E M out:=by
 unfold z8 at h
 split at h
 ·rename_i u o hv
  split at h
  ·rename_i Tt k m cells hM
   split at h
   ·rename_i v jW
    simp only [Option.some.injEq] at h;subst h
    refine aP.look (fun C _=>?_) (by simpa using eB hM)
    obtain ⟨y,hy,r⟩:=C.bS hv
    cases r with
    | pt hb=>
     obtain ⟨H,hF,hB,hH⟩:=C.rm.at hM
     cases hB with
     | fl aV ys hl hm hc hr=>
      rw [hb] at aV;cases aV
      have hlen:cells.length≤ys.length:=by rw [hl,hm];exact Nat.mul_le_mul_right _ hc
      obtain ⟨y',h1,h2⟩:=sw hT (a:=⟨_,0,none⟩) (ys:=ys.take cells.length) (fun l ys=>aE.ag ys) jW (hy.trans (by rw [add_eq,Nat.zero_add])) (by simp;omega) (fun j c z e1 e2=>hr j c z e1 (by
       rw [List.getElem?_take] at e2
       split at e2
       ·exact e2
       ·simp at e2))
      refine ⟨y',h1,fun w' hs=>h2 w' fun j z hj=>?_⟩
      have hw:az w' _:=hs.2 u (by simp)
      rw [hF] at hw
      rw [List.getElem?_take] at hj
      split at hj
      ·rw [add_eq,cell_of hw.one,Nat.zero_add];simpa using hj
      ·simp at hj
   ·simp at h
  ·simp at h
 ·simp at h
def Hw:List Value→Bool
 | .nilFunc::_=>true
 | _=>false
def zc (T:aW) (M:List au) (t:TypeId):Option Out:=
 match cV T t,oU T t with
 | some (.ar n e),some l=>(match fY T e with
  | some k=>bif l.length.beq (n*k)&&!Hw l then some ⟨[],.pt M.length 0,M++[.fl t k n (ki l)],[],[],none⟩ else none
  | none=>none)
 | _,_=>none
theorem JW (hT:bp P T=true) {t:TypeId} (h:zc T M t=some out):aP P ⟨d,.alloc t,ty,pos,aft,gd⟩ E M out:=by
 unfold zc at h
 split at h
 rotate_left
 ·simp at h
 rename_i n e l ht hz
 split at h
 rotate_left
 ·simp at h
 rename_i k hk
 cases hc:(l.length.beq (n*k)&&!Hw l) with
 | false=>simp [hc] at h
 | true=>
  simp only [hc,cond_true,Option.some.injEq] at h;subst h
  have gO:=Nat.eq_of_beq_eq_true (Bool.and_eq_true_iff.1 hc).1
  obtain ⟨z,pv,mP⟩:=uX hT hz
  intro D w0 K0 β F I ρ w C _
  refine Em (mP w) fun b w' g n'=>?_
  rw [pv] at n'
  obtain ⟨h1,h2⟩:=pT (K:=fun w=>K0 w∧az w I) (β:=β++[(some ⟨b,0,none⟩,n)]) l
  exact ⟨_,_,I,C.rm.new (q:=(some ⟨b,0,none⟩,n)) g n' (.fl (fA C.rm _) l gO (by rw [← h1,gO]) (Nat.le_refl _) h2),(Ext.app _ _).b _,bL.refl _,kJ _ _,.pt (fA C.rm _)⟩
def BI (T:aW) (E:List (Nat×AV)) (M:List au) (t:TypeId) (x:Operand) (lo hi mx:Option Operand):Option Out:=
 match cV T t,aO E x,lo,hi,mx with
 | some (.ar n e),some (.pt u 0),none,none,none=>(match fY T e,M[u]? with
  | some k,some (.fl _ k2 m _)=>bif k.beq k2&&(n.ble m&&Nat.blt 0 n) then some (lk [] (.sf u k 0 n (some n)) M) else none
  | _,_=>none)
 | _,_,_,_,_=>none
theorem N7 (hT:bp P T=true) {t:TypeId} {x:Operand} {lo hi mx:Option Operand} (h:BI T E M t x lo hi mx=some out):aP P ⟨d,.slice t x lo hi mx,ty,pos,aft,gd⟩ E M out:=by
 unfold BI at h
 split at h
 rotate_left
 ·simp at h
 rename_i n e u ht hx
 split at h
 rotate_left
 ·simp at h
 rename_i k T2 k2 m cells hk hM
 cases hc:(k.beq k2&&(n.ble m&&Nat.blt 0 n)) with
 | false=>simp [hc] at h
 | true=>
  simp only [hc,cond_true,Option.some.injEq] at h;subst h
  simp only [Bool.and_eq_true] at hc
  obtain ⟨c1,c2,c3⟩:=hc
  obtain rfl:=Nat.eq_of_beq_eq_true c1
  have Ud:=Nat.le_of_ble_eq_true c2
  have mD:0<n:=by simpa [Nat.blt_eq] using c3
  have pC:=cE hT ht
  refine aP.same fun {D w0 K0 β F I ρ w} C _=>?_
  obtain ⟨y,hy,r⟩:=C.bS hx
  cases r with
  | @pt _ _ b c hb=>
   obtain ⟨H,hF,hB,hH⟩:=C.rm.at hM
   cases hB with
   | fl aV ys hl hm nZ hr=>
    rw [hb] at aV;cases aV
    have hs:=aE.sf (K:=fun w=>K0 w∧az w I) (u:=u) (k:=k) (o:=0) (n:=n) (cap:=n) (q:=some n) hb (by omega) (Nat.le_refl _) rfl
    rw [Nat.zero_mul] at hs
    refine ⟨_,fun w' _=>?_,hs⟩
    have bI:(sizeOf e).run P w'=.ok k w':=by
     have:=ie hT hk
     cases fv:P.info? e with
     | none=>simp [fv] at this
     | some inf=>simp only [fv,Option.map_some,Option.some.injEq] at this;simp [sizeOf,typeInfo,Sem.run_bind,fv,this]
    have xd:¬ n=0:=by omega
    simp [execOp,hy,Instr.sliceAt,Instr.sureAddr,Instr.sliceBounds,Sem.run_bind,run_underlying pC,bI,xd,add_eq]
end Go.Proofs.YtlinpknagdgphaaGreat
namespace Go.Proofs.YtlinpknagdgphaaGreat
open Go.RowKit
variable {P:Program} {T:aW} {E:List (Nat×AV)} {M:List au}
variable {d:Option Tmp} {ty:TypeId} {pos:String} {aft:Array Edge} {gd:Option (Nat×Bool)} {oc:Option bj} {out:Out}
inductive SF where
 | fn (f:FuncId)
 | yl (u:Nat)
abbrev gu:=SF→List AV→List au→bj→Option Out
def Gk (P:Program) (f:FuncId) (args:List AV) (M:List au) (out:Out):Prop:=
 fR P f=true∧∀ {D:List Nat} {w0:World} {K0:World→Prop} {β:Beta} {F:Nat→aA} {I:aA} {w:World} (ys:List Value),RM D w0 K0 M β F I w→(∀ w,Kp D w0 w→K0 w)→bw out.vc→ys.length=args.length→(∀ (j:Nat) c y,args[j]?=some c→ys[j]?=some y→aE (fun w=>K0 w∧az w I) β c y)→
  Calls P f ys.toArray w fun e w'=>∃ v,e=.returned v∧∃ aF F' I',RM D w0 K0 out.M aF F' I' w'∧fq out.mv β aF∧bL I I'∧(∀ u,u<M.length→u ∉ out.tc→F' u=F u)∧aE (fun w=>K0 w∧az w I') aF out.av v
def Ft (P:Program) (u:Nat) (args:List AV) (M:List au) (out:Out):Prop:=
 ∀ {D:List Nat} {w0:World} {K0:World→Prop} {β:Beta} {F:Nat→aA} {I:aA} {w:World} (ys:List Value) (l c:Nat),RM D w0 K0 M β F I w→(∀ w,Kp D w0 w→K0 w)→bw out.vc→ys.length=args.length→(∀ (j:Nat) c y,args[j]?=some c→ys[j]?=some y→aE (fun w=>K0 w∧az w I) β c y)→β[u]?=some (some ⟨l,0,none⟩,c)→
  ∃ fn tmps cx body,(Instr.yield l ys.toArray).run P w=.ok (.round l fn tmps cx body) w∧RoundIn Fence.wide 0 P l fn tmps cx body w fun e w'=>∃ v,e=.returned v∧∃ aF F' I',RM D w0 K0 out.M aF F' I' w'∧fq out.mv β aF∧bL I I'∧(∀ u,u<M.length→u ∉ out.tc→F' u=F u)∧aE (fun w=>K0 w∧az w I') aF out.av v
def jS (P:Program) (cl:gu):Prop:=∀ c args M o out,cl c args M o=some out→out.rd=none∧match c with | .fn f=>Gk P f args M out | .yl u=>Ft P u args M out
def A8 (cl:gu) (E:List (Nat×AV)) (M:List au) (o:bj) (g:Operand) (args:Array Operand):Option Out:=
 match aO E g,jN E args.toList with
 | some (.fn f bZ),some l=>cl (.fn f) (l++bZ) M o
 | some (.yl u),some l=>cl (.yl u) l M o
 | _,_=>none
theorem MF {cl:gu} (cG:jS P cl) {o:bj} {g:Operand} {args:Array Operand} {ey:Array TypeId} (h:A8 cl E M o g args=some out):aP P ⟨d,.call ⟨.value g,args,ey⟩,ty,pos,aft,gd⟩ E M out:=by
 unfold A8 at h
 split at h
 ·rename_i f bZ l hg hl
  obtain ⟨eH,iQ,hc⟩:=cG _ _ _ _ _ h
  unfold aP
  rw [eH]
  intro D w0 K0 β F I ρ w C hv
  obtain ⟨y,hy,r⟩:=C.bS hg
  cases r with
  | fn cs RH fO=>
   obtain ⟨dT,iU⟩:=C.k5 hl
   have hm:args.map ρ=(args.toList.map ρ).toArray:=by rw [← Array.toList_map]
   refine pR hy iQ hm ?_
   have jP:((args.toList.map ρ).toArray++cs.toArray:Array Value)=(args.toList.map ρ++cs).toArray:=by simp
   rw [jP]
   refine hc _ C.rm C.k hv (by rw [List.length_append,List.length_append,dT,RH]) ?_
   intro j c y h1 h2
   rcases Nat.lt_or_ge j l.length with hj | hj
   ·rw [List.getElem?_append_left hj] at h1
    rw [List.getElem?_append_left (by omega)] at h2
    exact iU j c y h1 h2
   ·rw [List.getElem?_append_right hj] at h1
    rw [List.getElem?_append_right (by omega),dT] at h2
    exact fO _ c y h1 h2
 ·rename_i u l hg hl
  obtain ⟨eH,hc⟩:=cG _ _ _ _ _ h
  unfold aP
  rw [eH]
  intro D w0 K0 β F I ρ w C hv
  obtain ⟨y,hy,r⟩:=C.bS hg
  cases r with
  | @yl _ bb cc hb=>
   obtain ⟨dT,iU⟩:=C.k5 hl
   obtain ⟨fn,tmps,cx,body,h1,h2⟩:=hc _ _ _ C.rm C.k hv dT iU hb
   have hm:args.map ρ=(args.toList.map ρ).toArray:=by rw [← Array.toList_map]
   unfold bq
   have hr:(execOp ρ ⟨d,.call ⟨.value g,args,ey⟩,ty,pos,aft,gd⟩).run P w=.ok (.round bb fn tmps cx body) w:=by
    simp [execOp,resolve,hy,hm,Deferred.ofValue,invoke,h1]
   rw [hr]
   exact h2
 ·simp at h
def BJ (P:Program) (T:aW) (E:List (Nat×AV)) (M:List au) (oc:Option bj) (op:BinOp) (t:TypeId) (x y:Operand):Option Out:=
 match Aw E M oc op x y with
 | some o=>some o
 | none=>(match Ay E M oc op x y with
  | some o=>some o
  | none=>(match Bv P E M oc op t x y with
   | some o=>some o
   | none=>(match AI P E M oc op t x y with
    | some o=>some o
    | none=>AJ T E M oc op t x y)))
theorem N8 (hT:bp P T=true) {op:BinOp} {t t':TypeId} {x y:Operand} (h:BJ P T E M oc op t x y=some out):aP P ⟨d,.binOp op t x y t',ty,pos,aft,gd⟩ E M out:=by
 unfold BJ at h
 split at h
 ·rename_i hh;simp only [Option.some.injEq] at h;subst h;exact L2 hh
 ·split at h
  ·rename_i hh;simp only [Option.some.injEq] at h;subst h;exact L4 hh
  ·split at h
   ·rename_i hh;simp only [Option.some.injEq] at h;subst h;exact NS hh
   ·split at h
    ·rename_i hh;simp only [Option.some.injEq] at h;subst h;exact Mb hh
    ·exact Mc hT h
def A9 (T:aW) (E:List (Nat×AV)) (M:List au) (oc:Option bj) (t t':TypeId) (x:Operand):Option Out:=
 match zI T E M oc t t' x with
 | some o=>some o
 | none=>(match Bz T E M oc t t' x with
  | some o=>some o
  | none=>zO T E M t t' x)
theorem MG (hT:bp P T=true) {t t':TypeId} {x:Operand} (h:A9 T E M oc t t' x=some out):aP P ⟨d,.convert t t' x,ty,pos,aft,gd⟩ E M out:=by
 unfold A9 at h
 split at h
 ·rename_i hh;simp only [Option.some.injEq] at h;subst h;exact Kx hT hh
 ·split at h
  ·rename_i hh;simp only [Option.some.injEq] at h;subst h;exact NV hT hh
  ·exact KB hT h
def step (P:Program) (T:aW) (cl:gu) (E:List (Nat×AV)) (M:List au) (oc:Option bj):Op→Option Out
 | .move x=>wj E M x
 | .assign x=>wj E M x
 | .nilCheck x=>Bn E M x
 | .extract x i=>yh E M x i
 | .fieldAddr s x f=>zE T E M s x f
 | .indexAddr t x i=>(match zF T E M oc t x i with | some o=>some o | none=>(match yY T E M oc t x i with | some o=>some o | none=>(match y8 T E M oc t x i with | some o=>some o | none=>(match yZ T E M oc t x i with | some o=>some o | none=>(match za T E M oc t x i with | some o=>some o | none=>AW T E M oc t x i)))))
 | .load t x=>(match Av T E M oc t x with | some o=>some o | none=>(match zV T E M oc t x with | some o=>some o | none=>(match AK T E M oc t x with | some o=>some o | none=>z8 T E M t x)))
 | .store t x y=>(match yR T E M t x y with | some o=>some o | none=>yX T E M oc t x y)
 | .box t x=>Bq E M t x
 | .alloc t=>(match oc with | some (.b _)=>zc T M t | _=>zH T M t)
 | .pick c x y=>(match oc with | some (.res (.v r))=>zW E M r c x y | _=>Ax E M oc c x y)
 | .unOp .not _ x=>Br E M oc x
 | .unOp .xor _ x=>Bs E M oc x
 | .binOp op t x y _=>(match BJ P T E M oc op t x y with | some o=>some o | none=>(match AR P E M op t x y with | some o=>some o | none=>(match BE E M op x y with | some o=>some o | none=>(match BG P E M op t x y with | some o=>some o | none=>A5 P E M op t x y))))
 | .convert t t' x=>(match A9 T E M oc t t' x with | some o=>some o | none=>(match AT T E M t t' x with | some o=>some o | none=>zX P E M oc t t' x))
 | .build t parts=>(match zM T E M t parts with | some o=>some o | none=>yW T E M t parts)
 | .field t x f=>BA T E M t x f
 | .index t x i=>(match BB T E M oc t x i with | some o=>some o | none=>(match AQ T E M oc t x i with | some o=>some o | none=>(match AO T E M oc t x i with | some o=>some o | none=>(match AU T E M oc t x i with | some o=>some o | none=>A7 T E M oc t x i))))
 | .slice t x lo hi mx=>(match Cm T E M oc t x lo hi mx with | some o=>some o | none=>(match BC T E M oc t x lo hi mx with | some o=>some o | none=>(match BF T E M oc t x lo hi mx with | some o=>some o | none=>BI T E M t x lo hi mx)))
 | .buildSlice t len parts=>(match A4 T E M oc t len parts with | some o=>some o | none=>wG T E M t len parts)
 | .makeSlice t x y=>(match AG T E M oc t x y with | some o=>some o | none=>zP T E M oc t x y)
 | .makeFunc fn first bZ=>(match Az E M fn first bZ with | some o=>some o | none=>z6 E M fn first bZ)
 | .call ⟨.builtin bi,⟨[x]⟩,⟨[t]⟩⟩=>(match bi with | .len=>Bu T E M oc t x | .clear=>zQ T E M t x | .unsafeSliceData=>zZ E M x | .cap=>AZ T E M t x | _=>none)
 | .call ⟨.builtin bi,⟨[x,y]⟩,⟨[st,xt]⟩⟩=>(match bi with | .append=>(match Bw T E M st xt x y with | some o=>some o | none=>AX T E M st xt x y) | .copy=>(match AL T E M oc st x y with | some o=>some o | none=>z7 T E M oc st x y) | .delete=>y7 P T E M oc st x y | .unsafeString=>AY P E M oc st x y | _=>B7 E M oc bi x y)
 | .call ⟨.value g,args,_⟩=>(match oc with | some (.dt n tb)=>A8 cl E M (.dt n tb) g args | some (.aJ x)=>qS P E M (some (.aJ x)) g args | some (.mem l x M')=>(match AP P E M (some (.mem l x M')) g args with | some o=>some o | none=>A6 P E M (some (.mem l x M')) g args) | some (.stay l x)=>zR P E M (some (.stay l x)) g args | some (.b _)=>zY P E M g args | some (.n2 m e)=>A3 P E M (some (.n2 m e)) g args | _=>AB P E M oc g args)
 | .makeMap t r=>yv T M t r
 | .mapUpdate t m k x=>(match mi P T E M oc t m k x with | some o=>some o | none=>qi P T E M oc t m k x)
 | .insert t m k x=>(match mi P T E M oc t m k x with | some o=>some o | none=>qi P T E M oc t m k x)
 | .lookup t m k ok=>(match sL P T E M oc t m k ok with | some o=>some o | none=>z4 P T E M oc t m k ok)
 | .range t x=>zT T E M t x
 | .entry x=>(match zU E M oc x with | some o=>some o | none=>zb E M oc x)
 | _=>none
theorem qj (hT:bp P T=true) {cl:gu} (cG:jS P cl) {op:Op} (h:step P T cl E M oc op=some out):aP P ⟨d,op,ty,pos,aft,gd⟩ E M out:=by
 unfold step at h
 split at h
 ·exact (En h).1
 ·exact (En h).2
 ·exact NM h
 ·exact Ju h
 ·exact Kt hT h
 ·split at h
  ·rename_i hh;simp only [Option.some.injEq] at h;subst h;exact Ku hT hh
  ·split at h
   ·rename_i hh;simp only [Option.some.injEq] at h;subst h;exact JN hT hh
   ·split at h
    ·rename_i hh;simp only [Option.some.injEq] at h;subst h;exact JR hT hh
    ·split at h
     ·rename_i hh;simp only [Option.some.injEq] at h;subst h;exact JO hT hh
     ·split at h
      ·rename_i hh;simp only [Option.some.injEq] at h;subst h;exact JT hT hh
      ·exact Mt hT h
 ·split at h
  ·rename_i hh;simp only [Option.some.injEq] at h;subst h;exact L0 hT hh
  ·split at h
   ·rename_i hh;simp only [Option.some.injEq] at h;subst h;exact KM hT hh
   ·split at h
    ·rename_i hh;simp only [Option.some.injEq] at h;subst h;exact Md hT hh
    ·exact KY hT h
 ·split at h
  ·rename_i hh;simp only [Option.some.injEq] at h;subst h;exact JK hT hh
  ·exact JM hT h
 ·exact NN h
 ·split at h
  ·exact JW hT h
  ·exact Kw hT h
 ·split at h
  ·exact KO h
  ·exact L3 h
 ·exact NO h
 ·exact NP h
 ·split at h
  ·rename_i hh;simp only [Option.some.injEq] at h;subst h;exact N8 hT hh
  ·split at h
   ·rename_i hh;simp only [Option.some.injEq] at h;subst h;exact Mp hh
   ·split at h
    ·rename_i hh;simp only [Option.some.injEq] at h;subst h;exact N2 hh
    ·split at h
     ·rename_i hh;simp only [Option.some.injEq] at h;subst h;exact N4 hh
     ·exact MB h
 ·split at h
  ·rename_i hh;simp only [Option.some.injEq] at h;subst h;exact MG hT hh
  ·split at h
   ·rename_i hh;simp only [Option.some.injEq] at h;subst h;exact Mq hT hh
   ·exact KP h
 ·split at h
  ·rename_i hh;simp only [Option.some.injEq] at h;subst h;exact Kz hT hh
  ·exact JL hT h
 ·exact NW hT h
 ·split at h
  ·rename_i hh;simp only [Option.some.injEq] at h;subst h;exact NX hT hh
  ·split at h
   ·rename_i hh;simp only [Option.some.injEq] at h;subst h;exact Mn hT hh
   ·split at h
    ·rename_i hh;simp only [Option.some.injEq] at h;subst h;exact Mh hT hh
    ·split at h
     ·rename_i hh;simp only [Option.some.injEq] at h;subst h;exact Mr hT hh
     ·exact ME hT h
 ·split at h
  ·rename_i hh;simp only [Option.some.injEq] at h;subst h;exact Ph hT hh
  ·split at h
   ·rename_i hh;simp only [Option.some.injEq] at h;subst h;exact N0 hT hh
   ·split at h
    ·rename_i hh;simp only [Option.some.injEq] at h;subst h;exact N3 hT hh
    ·exact N7 hT h
 ·split at h
  ·rename_i hh;simp only [Option.some.injEq] at h;subst h;exact MA hT hh
  ·exact Fc hT h
 ·split at h
  ·rename_i hh;simp only [Option.some.injEq] at h;subst h;exact Ma hT hh
  ·exact KD hT h
 ·split at h
  ·rename_i hh;simp only [Option.some.injEq] at h;subst h;exact L5 hh
  ·exact KW h
 ·split at h
  ·exact NQ hT h
  ·exact KF hT h
  ·exact KR h
  ·exact Mx hT h
  ·simp at h
 ·split at h
  ·split at h
   ·rename_i hh;simp only [Option.some.injEq] at h;subst h;exact NT hT hh
   ·exact Mu hT h
  ·split at h
   ·rename_i hh;simp only [Option.some.injEq] at h;subst h;exact Me hT hh
   ·exact KX hT h
  ·exact JQ hT h
  ·exact Mv h
  ·exact Pd h
 ·split at h
  ·exact MF cG h
  ·exact Fa h
  ·split at h
   ·rename_i hh;simp only [Option.some.injEq] at h;subst h;exact Mj hh
   ·exact MD h
  ·exact KG h
  ·exact KQ h
  ·exact Mz h
  ·exact L8 h
 ·exact Jx h
 ·split at h
  ·rename_i hh;simp only [Option.some.injEq] at h;subst h;exact (DY hT hh).1
  ·exact (Dq hT h).1
 ·split at h
  ·rename_i hh;simp only [Option.some.injEq] at h;subst h;exact (DY hT hh).2
  ·exact (Dq hT h).2
 ·split at h
  ·rename_i hh;simp only [Option.some.injEq] at h;subst h;exact Ex hT hh
  ·exact KV hT h
 ·exact KJ hT h
 ·split at h
  ·rename_i hh;simp only [Option.some.injEq] at h;subst h;exact KK hh
  ·exact JV h
 ·simp at h
end Go.Proofs.YtlinpknagdgphaaGreat
namespace Go.Proofs.YtlinpknagdgphaaGreat
open Go.RowKit
def nM:List (Nat×bj)→Nat→Option bj
 | [],_=>none
 | (k,v)::r,s=>bif k.beq s then some v else nM r s
def g7 (E:List (Nat×AV)) (dst:Option Nat) (v:AV):List (Nat×AV):=match dst with | some d=>(d,v)::E | none=>E
def qN (mv:List Nat):List (Nat×AV)→List (Nat×AV)
 | []=>[]
 | (k,v)::r=>(k,bif ik mv v then v else .d .jk)::qN mv r
def qO (mv:List Nat) (E:List (Nat×AV)):List (Nat×AV):=match mv with | []=>E | _=>qN mv E
theorem Dr {mv:List Nat}:∀ {E:List (Nat×AV)} {t:Nat} {v:AV},bO (qN mv E) t=some v→∃ u,bO E t=some u∧v=bif ik mv u then u else .d .jk
 | [],t,v,h=>by simp [qN,bO] at h
 | (k,u)::r,t,v,h=>by
  unfold qN bO at h
  unfold bO
  cases hk:k.beq t with
  | true=>simp only [hk,cond_true,Option.some.injEq] at h ⊢;exact ⟨u,rfl,h.symm⟩
  | false=>simp only [hk,cond_false] at h ⊢;exact Dr h
theorem MH {K:World→Prop} {β aF:Beta} {mv:List Nat} (e:fq mv β aF) {ρ:Operand→Value} {E:List (Nat×AV)} (h:∀ t v,bO E t=some v→aE K β v (ρ (.tmp t))):∀ t v,bO (qN mv E) t=some v→aE K aF v (ρ (.tmp t)):=by
 intro t v hv
 obtain ⟨u,h1,h2⟩:=Dr hv
 cases hc:ik mv u with
 | true=>simp only [hc,cond_true] at h2;subst h2;exact pU e hc (h t _ h1)
 | false=>simp only [hc,cond_false] at h2;subst h2;exact .d (.jk _)
theorem yA {K:World→Prop} {β aF:Beta} {mv:List Nat} (e:fq mv β aF) {E:List (Nat×AV)} {ρ:Operand→Value} (h:∀ t v,bO E t=some v→aE K β v (ρ (.tmp t))):∀ t v,bO (qO mv E) t=some v→aE K aF v (ρ (.tmp t)):=by
 intro t v hx
 unfold qO at hx
 split at hx
 ·exact (h t v hx).mono (fun _ h=>h) fun u z hz=>e u z (by simp) hz
 ·exact MH e h t v hx
def sy:Option AV→Option (Option Bool)
 | some (.d (.v (.bool c)))=>some (some c)
 | some (.d (.v (.tuple _)))=>some none
 | _=>none
def nC (sz:Nat) (ops:Array Oper) (E:List (Nat×AV)):Option (Nat×Bool)→Option Bool
 | none=>some true
 | some (j,want)=>(match sG ops j with
  | some s=>(bif s.blt sz then (match sy (bO E s) with
   | some (some true)=>some want
   | some (some false)=>some (!want)
   | some none=>some false
   | none=>none) else none)
  | none=>none)
def g8 (sz:Nat):Option Nat→Bool
 | some d=>d.blt sz
 | none=>true
structure RS where
 vc:List Prop
 E:List (Nat×AV)
 M:List au
 tc:List Nat
 mv:List Nat
def BK (P:Program) (T:aW) (cl:gu) (E:List (Nat×AV)) (M:List au) (op:Op) (oc:bj):Option (List Prop×List Nat×Value):=
 match oc,op with
 | .aJ (.v x),.call ⟨.value g,args,_⟩=>(match qS P E M (some (.aJ (.v x))) g args with | some out=>some (out.vc,out.tc,x) | none=>none)
 | oc,op=>(match step P T cl E M (some oc) op with | some ⟨vc,.d (.v x),_,tc,_,some _⟩=>some (vc,tc,x) | _=>none)
def Gl (sz:Nat) (ops:Array Oper) (E:List (Nat×AV)):Option (Nat×Bool)→Option (Value×Bool)
 | some (j,want)=>(match sG ops j with
  | some s=>bif s.blt sz then (match bO E s with | some (.d (.v y))=>some (y,want) | _=>none) else none
  | none=>none)
 | none=>none
def vO (y:Value):Option Bool:=match y with | .bool b=>some b | _=>none
def im (P:Program) (T:aW) (cl:gu) (sz:Nat) (ops:Array Oper):List Oper→Nat→List (Nat×bj)→RS→Option RS
 | [],_,_,s=>some s
 | o::r,i,oc,⟨vc,E,M,tc,mv⟩=>
  bif g8 sz o.dst then (match nM oc i with
  | some (.may c oo)=>(match BK P T cl E M o.op oo,Gl sz ops E o.guard with
   | some (n6,tQ,x),some (y,want)=>im P T cl sz ops r (i+1) oc ⟨vc++[(vO y==some want)=c,c=true→bw n6],g7 E o.dst (.d (.v (bif c then x else undef))),M,tQ++tc,mv⟩
   | _,_=>none)
  | _=>(match nC sz ops E o.guard with
   | some true=>(match step P T cl E M (nM oc i) o.op with
    | some out=>(bif Nat.ble M.length out.M.length then im P T cl sz ops r (i+1) oc ⟨vc++out.vc,g7 (qO out.mv E) o.dst out.av,out.M,out.tc++tc,out.mv++mv⟩ else none)
    | none=>none)
   | some false=>im P T cl sz ops r (i+1) oc ⟨vc,g7 E o.dst (.d (.v undef)),M,tc,mv⟩
   | none=>none))
  else none
structure dH where
 β:Beta
 F:Nat→aA
 I:aA
 m:Nat
def nD (b:dH) (mv tc:List Nat) (β:Beta) (F:Nat→aA) (I:aA):Prop:=fq mv b.β β∧bL b.I I∧∀ u,u<b.m→u ∉ tc→F u=b.F u
theorem nD.step {b:dH} {mv tc mv' tQ:List Nat} {β aF:Beta} {F F':Nat→aA} {I I':aA} {n:Nat} (h:nD b mv tc β F I) (hn:b.m≤n) (e:fq mv' β aF) (hI:bL I I') (hF:∀ u,u<n→u ∉ tQ→F' u=F u):nD b (mv'++mv) (tQ++tc) aF F' I':=
 ⟨fun u x hu hx=>e u x (fun h'=>hu (List.mem_append_left _ h')) (h.1 u x (fun h'=>hu (List.mem_append_right _ h')) hx),h.2.1.trans hI,fun u hu ht=>(hF u (by omega) fun h'=>ht (List.mem_append_left _ h')).trans (h.2.2 u hu fun h'=>ht (List.mem_append_right _ h'))⟩
variable {mk:Bool} {ro:Option Nat} {P:Program} {T:aW} {cl:gu} {D:List Nat} {w0:World} {K0:World→Prop} {E:List (Nat×AV)} {M:List au} {β:Beta} {F:Nat→aA} {I:aA} {ρ:Operand→Value} {w:World} {a:Act} {sz:Nat} {ops:Array Oper} {Q:Exit→Act→World→Prop}
def Mk (mk:Bool) (ds:List Deferred) (I:aA):Prop:=match mk with
 | false=>ds=[]
 | true=>ds.Nodup∧∀ d ∈ ds,∃ b,d={ target:=.collected b,args:=#[] }∧(b,Obj.deferred (some [])) ∈ I
theorem Mk.grow {ds:List Deferred} {I I':aA} (h:Mk mk ds I) (g:bL I I'):Mk mk ds I':=by
 cases mk with
 | false=>exact h
 | true=>obtain ⟨J,rfl⟩:=g;exact ⟨h.1,fun d hd=>let ⟨b,h1,h2⟩:=h.2 d hd;⟨b,h1,List.mem_append_right _ h2⟩⟩
theorem Mk.nil (I:aA):Mk mk [] I:=by cases mk with | false=>rfl | true=>exact ⟨List.nodup_nil,fun d hd=>by cases hd⟩
theorem RE.put (size:a.tmps.size=sz) {aF:Beta} {I':aA} (defers:Mk mk a.defers I') (hs:∀ t v,bO E t=some v→aE (fun w=>K0 w∧az w I') aF v (a.eval (.tmp t))) {dst:Option Nat} (hd:g8 sz dst=true) {v:Value} {av:AV} (hv:aE (fun w=>K0 w∧az w I') aF av v):
  (a.put dst v).tmps.size=sz∧Mk mk (a.put dst v).defers I'∧∀ t u,bO (g7 E dst av) t=some u→aE (fun w=>K0 w∧az w I') aF u ((a.put dst v).eval (.tmp t)):=by
 refine ⟨by rw [LO,size],by rw [put_defers];exact defers,?_⟩
 cases dst with
 | none=>exact hs
 | some d=>
  have aK:d<sz:=by simpa [g8,Nat.blt_eq] using hd
  intro t u hx
  unfold g7 bO at hx
  cases hk:d.beq t with
  | true=>
   simp only [hk,cond_true,Option.some.injEq] at hx
   subst hx
   rw [← Nat.eq_of_beq_eq_true hk,ow a d v (by omega)];exact hv
  | false=>
   simp only [hk,cond_false] at hx
   rw [rR a d t v (fun e=>by subst e;simp at hk)];exact hs t u hx
theorem KZ {K:World→Prop} {β:Beta} {av:Option AV} {y:Value} {g:Option Bool} (h:sy av=some g) {v:AV} (hv:av=some v) (r:aE K β v y):vO y=g:=by
 subst hv
 unfold sy at h
 split at h
 ·rename_i hx;cases hx;simp only [Option.some.injEq] at h;subst h
  cases r with | d r=>cases r;rfl
 ·rename_i hx;cases hx;simp only [Option.some.injEq] at h;subst h
  cases r with | d r=>cases r;rfl
 ·simp at h
theorem lz {o:Oper} {b:Bool} (size:a.tmps.size=sz) {K:World→Prop} (hs:∀ t v,bO E t=some v→aE K β v (a.eval (.tmp t))) (h:nC sz ops E o.guard=some b):Region.wanted o (yielded ops a.tmps)=b:=by
 unfold Region.wanted
 cases hg:o.guard with
 | none=>rw [hg] at h;simp only [nC,Option.some.injEq] at h;exact h
 | some g=>
  obtain ⟨j,want⟩:=g
  rw [hg] at h
  unfold nC at h
  cases hj:sG ops j with
  | none=>simp [hj] at h
  | some s=>
   simp only [hj] at h
   cases bI:s.blt sz with
   | false=>simp [bI] at h
   | true=>
    simp only [bI,cond_true] at h
    have aK:s<a.tmps.size:=by rw [size];simpa [Nat.blt_eq] using bI
    have hy:∀ g,sy (bO E s)=some g→yielded ops a.tmps j=g:=by
     intro g iZ
     rw [Dk hj aK]
     show vO _=g
     cases hl:bO E s with
     | none=>rw [hl] at iZ;simp [sy] at iZ
     | some v=>exact KZ iZ hl (hs _ _ hl)
    split at h
    ·rename_i iZ;simp only [Option.some.injEq] at h;subst h;dsimp only;rw [hy _ iZ];cases want<;>rfl
    ·rename_i iZ;simp only [Option.some.injEq] at h;subst h;dsimp only;rw [hy _ iZ];cases want<;>rfl
    ·rename_i iZ;simp only [Option.some.injEq] at h;subst h;dsimp only;rw [hy _ iZ];cases want<;>rfl
    ·simp at h
theorem vP (l:List Oper):∀ (i:Nat) (oc:List (Nat×bj)) (s:RS) {s':RS},im P T cl sz ops l i oc s=some s'→bw s'.vc→bw s.vc:=by
 induction l with
 | nil=>
  intro i oc s s' h
  simp only [im,Option.some.injEq] at h
  subst h;exact id
 | cons o r ih=>
  intro i oc s s' h hv
  obtain ⟨vc,E,M,tc,mv⟩:=s
  unfold im at h
  cases hd:g8 sz o.dst with
  | false=>simp [hd] at h
  | true=>
   simp only [hd,cond_true] at h
   split at h
   ·split at h
    ·exact (bw.app.1 (ih _ _ _ h hv)).1
    ·simp at h
   split at h
   ·split at h
    ·rename_i out _
     cases hb:Nat.ble M.length out.M.length with
     | false=>simp [hb] at h
     | true=>simp only [hb,cond_true] at h;exact (bw.app.1 (ih _ _ _ h hv)).1
    ·simp at h
   ·have:=ih _ _ _ h hv;exact this
   ·simp at h
def ca (mk:Bool) (D:List Nat) (w0:World) (K0:World→Prop) (sz:Nat) (E:List (Nat×AV)) (M:List au) (a:Act) (w:World):Prop:=
 a.tmps.size=sz∧∃ I,Mk mk a.defers I∧∃ β F,RM D w0 K0 M β F I w∧∀ t v,bO E t=some v→aE (fun w=>K0 w∧az w I) β v (a.eval (.tmp t))
abbrev ec (D:List Nat) (w0:World) (K0:World→Prop) (sz:Nat) (E:List (Nat×AV)) (M:List au) (a:Act) (w:World):Prop:=ca false D w0 K0 sz E M a w
def dy (mk:Bool) (D:List Nat) (w0:World) (K0:World→Prop) (sz:Nat) (b:dH) (s:RS) (a:Act) (w:World):Prop:=
 a.tmps.size=sz∧∃ I,Mk mk a.defers I∧b.m≤s.M.length∧∃ β F,RM D w0 K0 s.M β F I w∧nD b s.mv s.tc β F I∧∀ t v,bO s.E t=some v→aE (fun w=>K0 w∧az w I) β v (a.eval (.tmp t))
theorem ca.oV (r:ca false D w0 K0 sz E M a w):a.defers=[]:=let ⟨_,_,h,_⟩:=r;h
theorem dy.oV {b:dH} {s:RS} (r:dy false D w0 K0 sz b s a w):a.defers=[]:=let ⟨_,_,h,_⟩:=r;h
theorem dy.re {b:dH} {s:RS} (r:dy mk D w0 K0 sz b s a w):ca mk D w0 K0 sz s.E s.M a w:=let ⟨h1,I,h2,_,β,F,h3,_,h4⟩:=r;⟨h1,I,h2,β,F,h3,h4⟩
theorem ca.b (r:ca mk D w0 K0 sz E M a w) (vc:List Prop):∃ b,dy mk D w0 K0 sz b ⟨vc,E,M,[],[]⟩ a w:=
 let ⟨h1,I,h2,β,F,h3,h4⟩:=r
 ⟨⟨β,F,I,M.length⟩,h1,I,h2,Nat.le_refl _,β,F,h3,⟨fun _ _ _ h=>h,bL.refl _,fun _ _ _=>rfl⟩,h4⟩
theorem Po {g:Operand} {args:Array Operand} {x:Value} {out:Out} (h:qS P E M (some (.aJ (.v x))) g args=some out):out.av=.d (.v x)∧out.M=M∧out.mv=[]∧out.rd=none:=by
 unfold qS at h
 split at h
 ·rename_i f bZ l y _ _ Cx
  simp only [Option.some.injEq,bj.aJ.injEq] at Cx;subst Cx
  cases fG:(my (DV.v x)&&(l++bZ).all ru) with
  | false=>rw [fG] at h;cases h
  | true=>
   rw [fG] at h
   simp only [cond_true,Option.some.injEq] at h;subst h
   exact ⟨rfl,rfl,rfl,rfl⟩
 ·cases h
theorem N9 (hT:bp P T=true) (cG:jS P cl) {d:Option Tmp} {op:Op} {ty:TypeId} {pos:String} {aft:Array Edge} {gd:Option (Nat×Bool)} {oc:bj} {vc:List Prop} {tc:List Nat} {x:Value} (h:BK P T cl E M op oc=some (vc,tc,x)):
  w5 P ⟨d,op,ty,pos,aft,gd⟩ E M ⟨vc,.d (.v x),M,tc,[],none⟩:=by
 unfold BK at h
 split at h
 ·split at h
  ·rename_i out hs
   simp only [Option.some.injEq,Prod.mk.injEq] at h
   obtain ⟨rfl,rfl,rfl⟩:=h
   obtain ⟨h1,h2,h3,h4⟩:=Po hs
   obtain ⟨vc,av,M2,tc,mv,rd⟩:=out
   dsimp only at h1 h2 h3 h4
   subst h1 h2 h3 h4
   intro D w0 K0 β F I ρ w C hv
   exact Fa hs C hv
  ·cases h
 ·split at h
  ·rename_i hs
   simp only [Option.some.injEq,Prod.mk.injEq] at h
   obtain ⟨rfl,rfl,rfl⟩:=h
   have hd:=qj (P:=P) hT cG (d:=d) (ty:=ty) (pos:=pos) (aft:=aft) (gd:=gd) hs
   have ja:=hd
   obtain ⟨-,h2,h3,-⟩:=ja
   dsimp only at h2 h3
   subst h2 h3
   intro D w0 K0 β F I ρ w C hv
   exact hd.rq C hv
  ·cases h
theorem z9 (hT:bp P T=true) (cG:jS P cl) (hK:∀ w,Kp D w0 w→K0 w) {b:dH}:∀ (l:List Oper) (i:Nat) (oc:List (Nat×bj)) (s:RS) {s':RS} (a:Act) (w:World),im P T cl sz ops l i oc s=some s'→dy mk D w0 K0 sz b s a w→bw s'.vc→(∀ a' w',dy mk D w0 K0 sz b s' a' w'→Q .normal a' w')→dO P ops Q (l.map (·,false)) a w:=by
 intro l
 induction l with
 | nil=>
  intro i oc s s' a w h R _ k
  simp only [im,Option.some.injEq] at h
  subst h
  exact k a w R
 | cons o r ih=>
  intro i oc s s' a w h R hv k
  obtain ⟨vc,E,M,tc,mv⟩:=s
  unfold im at h
  cases hd:g8 sz o.dst with
  | false=>simp [hd] at h
  | true=>
   simp only [hd,cond_true] at h
   obtain ⟨size,I,defers,hm,β,F,Rm,aT,hs⟩:=R
   dsimp only at Rm hs hm aT
   simp only [List.map_cons]
   unfold dO
   simp only [cond_false]
   have Qx:im P T cl sz ops r (i+1) oc ⟨vc,g7 E o.dst (.d (.v undef)),M,tc,mv⟩=some s'→dO P ops Q (r.map (·,false)) (a.put o.dst undef) w:=by
    intro hr
    obtain ⟨e1,e2,e3⟩:=RE.put (E:=E) size defers hs hd (.d (.v undef))
    exact ih _ _ _ _ _ hr ⟨e1,I,e2,hm,β,F,Rm,aT,e3⟩ hv k
   have fc:∀ out:Out,step P T cl E M (nM oc i) o.op=some out→(bif Nat.ble M.length out.M.length then im P T cl sz ops r (i+1) oc ⟨vc++out.vc,g7 (qO out.mv E) o.dst out.av,out.M,out.tc++tc,out.mv++mv⟩ else none)=some s'→bq P o a.eval w fun v w'=>dO P ops Q (r.map (·,false)) (a.put o.dst v) w':=by
    intro out bM hr
    cases hb:Nat.ble M.length out.M.length with
    | false=>simp [hb] at hr
    | true=>
    simp only [hb,cond_true] at hr
    have hlen:=Nat.le_of_ble_eq_true hb
    have C:Ctx D w0 K0 E M β F I a.eval w:=⟨Rm,hs,fun _=>rfl,fun _=>rfl,fun _=>rfl,hK⟩
    have mH:=(bw.app.1 (vP _ _ _ _ hr hv)).2
    have:=(qj (P:=P) hT cG (d:=o.dst) (ty:=o.type) (pos:=o.pos) (aft:=o.after) (gd:=o.guard) bM).rq C mH
    refine bq.mono this fun v w' ⟨aF,F',I',R',e,hI,hF,mX⟩=>?_
    have hk:=yA (ρ:=a.eval) e hs
    obtain ⟨e1,e2,e3⟩:=RE.put size (defers.grow hI) (fun t v hx=>(hk t v hx).mono (fun w hw=>⟨hw.1,hI.holds w hw.2⟩) (Ext.refl _)) hd mX
    exact ih _ _ _ _ _ hr ⟨e1,I',e2,Nat.le_trans hm hlen,aF,F',R',aT.step hm e hI hF,e3⟩ hv k
   split at h
   ·rename_i c oo Cx
    split at h
    rotate_left
    ·simp at h
    rename_i n6 tQ x y want iR ld
    have c8:=(bw.app.1 (vP _ _ _ _ h hv)).2
    obtain ⟨hc,dj,-⟩:=c8
    have C:Ctx D w0 K0 E M β F I a.eval w:=⟨Rm,hs,fun _=>rfl,fun _=>rfl,fun _=>rfl,hK⟩
    unfold Gl at ld
    split at ld
    rotate_left
    ·cases ld
    rename_i j TQ hg
    split at ld
    rotate_left
    ·cases ld
    rename_i s0 hj
    cases bI:s0.blt sz with
    | false=>simp [bI] at ld
    | true=>
    simp only [bI,cond_true] at ld
    split at ld
    rotate_left
    ·cases ld
    rename_i y' Qy
    simp only [Option.some.injEq,Prod.mk.injEq] at ld
    obtain ⟨rfl,rfl⟩:=ld
    have aK:s0<a.tmps.size:=by rw [size];simpa [Nat.blt_eq] using bI
    have B6:yielded ops a.tmps j=vO y':=by
     rw [Dk hj aK]
     have hr:=hs _ _ Qy
     generalize a.eval (.tmp s0)=z at hr
     cases hr with | d hr=>cases hr;rfl
    split
    ·rename_i tR;rw [hg] at tR;cases tR
    ·rename_i j2 TS tR
     rw [hg] at tR;cases tR
     refine ⟨fun hn=>?_,fun hn=>?_⟩
     ·have SG:c=true:=by rw [← hc,beq_iff_eq,← B6];exact hn
      subst SG
      have:=N9 hT cG (d:=o.dst) (ty:=o.type) (pos:=o.pos) (aft:=o.after) (gd:=o.guard) iR C (dj rfl)
      refine bq.mono this fun v w' ⟨aF,F',I',R',e,hI,hF,mX⟩=>?_
      obtain ⟨e1,e2,e3⟩:=RE.put (E:=E) size (defers.grow hI) (fun t v hx=>(hs t v hx).mono (fun w hw=>⟨hw.1,hI.holds w hw.2⟩) (fun u x hx=>e u x (by simp) hx)) hd mX
      exact ih _ _ _ _ _ h ⟨e1,I',e2,hm,aF,F',R',aT.step (mv':=[]) hm e hI hF,e3⟩ hv k
     ·have SH:c=false:=by rw [← hc,beq_eq_false_iff_ne,← B6];exact hn
      subst SH
      obtain ⟨e1,e2,e3⟩:=RE.put (E:=E) size defers hs hd (.d (.v undef))
      exact ih _ _ _ _ _ h ⟨e1,I,e2,hm,β,F,Rm,⟨aT.1,aT.2.1,fun u hu ht=>aT.2.2 u hu fun h'=>ht (List.mem_append_right _ h')⟩,e3⟩ hv k
   split at h
   ·rename_i hw
    have fC:=lz (ops:=ops) size hs hw
    split at h
    ·rename_i out bM
     have Iu:=fc out bM h
     split
     ·exact Iu
     ·rename_i j want hg
      refine ⟨fun _=>Iu,fun hn=>?_⟩
      simp only [Region.wanted,hg,beq_iff_eq] at fC
      exact absurd fC hn
    ·simp at h
   ·rename_i hw
    have fC:=lz (ops:=ops) size hs hw
    split
    ·rename_i hg;simp [Region.wanted,hg] at fC
    ·rename_i j want hg
     refine ⟨fun hn=>?_,fun _=>Qx h⟩
     simp only [Region.wanted,hg,beq_eq_false_iff_ne] at fC
     exact absurd hn fC
   ·simp at h
theorem RI (hT:bp P T=true) (cG:jS P cl) (hK:∀ w,Kp D w0 w→K0 w) {b:dH} {s:RS} (R:dy mk D w0 K0 sz b s a w) (oc:List (Nat×bj)) {id:Nat} {s':RS} (h:im P T cl sz ops ops.toList 0 oc s=some s') (hv:bw s'.vc) (k:∀ a' w',dy mk D w0 K0 sz b s' a' w'→Q .normal a' w'):(Code.region id ops false).wpIn (Fl ro) 0 P Q a w:=
 uA (z9 hT cG hK _ _ _ _ a w h R hv k)
def nj (P:Program) (ops:Array Oper) (Rk:World→Prop) (o:Oper) (v:Value) (a:Act):Prop:=
 (Region.wanted o (yielded ops a.tmps)=true∧∀ w,Rk w→(execOp a.eval o).run P w=.ok (.value v) w)∨(Region.wanted o (yielded ops a.tmps)=false∧v=undef)
theorem nj.wpOp {Rk:World→Prop} {i:Nat} {o:Oper} {v:Value} (hi:ops[i]?=some o) (hy:nj P ops Rk o v a) {K:Act→World→Prop} (hR:Rk w) (h:K (a.put o.dst v) w):Go.wpOpIn (Fl ro) 0 P ops Q i K a w:=by
 unfold Go.wpOpIn
 simp only [hi]
 rcases hy with hy | ⟨hy,rfl⟩
 ·simp only [hy.1,if_true]
  refine ⟨fun _ _=>trivial,?_⟩
  rw [show (Fl ro).round=ro from rfl,NH (hy.2 w hR)];exact h
 ·simp only [hy,Bool.false_eq_true,if_false];exact ⟨fun _ _=>trivial,h⟩
theorem C3 {Rk:World→Prop} {i:Nat} {oi:Oper} {v:Value} (hi:ops[i]?=some oi) (iS:∀ (j:Nat) (o:Oper) cs b,ops[j]?=some o→o.op≠.select cs b)
  (hQ:∀ c a w,Q (.panic c) (a.put oi.dst v) w→Q (.panic c) a w):
  ∀ (fuel:Nat) (L:Array Bool) (a:Act) (w:World),
   (∀ j oj,ops[j]?=some oj→j≠i→L.getD j true=false→(∀ e ∈ oj.after,Region.binds .any e=true→e.on≠i)→oi.apart ops oj=true)→
   i ∈ Region.ready .any ops L→nj P ops Rk oi v a→
   kL ro P ops Q Rk fuel (L.setIfInBounds i true) (a.put oi.dst v) w→kL ro P ops Q Rk (fuel+1) L a w:=by
 intro fuel
 induction fuel with
 | zero=>
  intro L a w _ hr hy H
  refine ⟨H.rk,fun h=>(by rw [h] at hr;cases hr),fun j hj=>?_⟩
  by_cases hO:j=i
  ·subst hO;exact hy.wpOp hi H.rk H
  ·have:=ready_mono hj hO
   rw [H.2.1] at this
   cases this
 | succ fuel ih=>
  intro L a w mC hr hy H
  refine ⟨H.rk,fun h=>(by rw [h] at hr;cases hr),fun j hj=>?_⟩
  by_cases hO:j=i
  ·subst hO;exact hy.wpOp hi H.rk H
  ·have h1:=H.2.2 j (ready_mono hj hO)
   obtain ⟨s6,oj,n7,du⟩:=mem_ready.1 hj
   have wO:∀ e ∈ oj.after,Region.binds .any e=true→e.on≠i:=fun e he hb heq=>by
    have h1:=du e he hb
    have h0:=(mem_ready.1 hr).1
    rw [heq] at h1
    rcases Nat.lt_or_ge i L.size with h' | h'
    ·simp [h'] at h0 h1;rw [h0] at h1;cases h1
    ·simp [Array.getElem?_eq_none h'] at h1
   have kY:=mC j oj n7 hO s6 wO
   obtain ⟨_,_,h3⟩:=Oper.apart_spec kY
   have h2:=C9 (Y:=nj P ops Rk oi v) n7 kY (fun cs b=>iS j oj cs b n7)
    (fun a hy u=>by unfold nj at *;rw [execOp_put oi (fun cs b=>iS i oi cs b hi) a oj.dst u h3,wanted_put oi a oj.dst u h3];exact hy) (fun a d hy=>hy) hQ hy h1
   have Aa:∀ k ok,ops[k]?=some ok→k≠i→(L.setIfInBounds j true).getD k true=false→
     (∀ e ∈ ok.after,Region.binds .any e=true→e.on≠i)→oi.apart ops ok=true:=fun k ok hk Cy mY cY=>by
    refine mC k ok hk Cy ?_ cY
    by_cases lV:j=k
    ·subst lV;exact s6
    ·rw [getD_set_ne true lV] at mY;exact mY
   refine wpOpIn_mono (fun a' w' h3=>ih (L.setIfInBounds j true) a' w' Aa (ready_mono hr (Ne.symm hO)) h3.1 ?_) h2
   rw [Array.setIfInBounds_comm _ _ hO]
   exact h3.2
def mj:Op→Bool
 | .move _=>true
 | .assign _=>true
 | .pick _ _ _=>true
 | .load _ _=>true
 | .nilCheck _=>true
 | .binOp _ _ _ _ _=>true
 | .unOp _ _ _=>true
 | .fieldAddr _ _ _=>true
 | .indexAddr _ _ _=>true
 | .extract _ _=>true
 | .makeFunc _ _ _=>true
 | .build _ _=>true
 | .slice _ _ _ _ _=>true
 | .index _ _ _=>true
 | .field _ _ _=>true
 | .convert _ _ _=>true
 | .call ⟨.builtin .len,_,_⟩=>true
 | _=>false
def m8 (ops:Array Oper) (L:Array Bool):List Nat→Option Nat
 | []=>none
 | i::r=>(match ops[i]? with | some o=>bif mj o.op&&Region.free .any ops L i then some i else m8 ops L r | none=>m8 ops L r)
inductive tS where
 | fin
 | look (i:Nat)
 | one (i:Nat)
 | bad
def s7 (ops:Array Oper) (L:Array Bool):List Nat→tS
 | []=>.fin
 | [i]=>.one i
 | i::k::r=>(match m8 ops L (i::k::r) with
  | some j=>.look j
  | none=>.bad)
def tT (ops:Array Oper) (L:Array Bool):tS:=s7 ops L (Region.ready .any ops L)
def BL (rd tc:List Nat):Bool:=rd.all fun u=>!(tc.elem u)
def nN (ops:Array Oper) (k i:Nat):Bool:=match ops[k]? with
 | some o=>!(mj o.op)&&o.after.any fun e=>Region.binds .any e&&Nat.beq e.on i
 | none=>false
def je (ops:Array Oper) (i:Nat) (L:Array Bool):Bool:=(List.range ops.size).all fun k=>!(nN ops k i&&L.getD k true)
theorem Ds {i:Nat} {L:Array Bool}:je ops i L=true↔∀ k,k<ops.size→nN ops k i=true→L.getD k true=false:=by
 unfold je
 rw [List.all_eq_true]
 constructor
 ·intro h k hk hd
  have:=h k (List.mem_range.2 hk)
  rw [hd] at this;simpa using this
 ·intro h k hk
  cases hd:nN ops k i with
  | false=>rfl
  | true=>rw [h k (List.mem_range.1 hk) hd];rfl
theorem rW {i j:Nat} {L:Array Bool} (hd:nN ops j i=false) (h:je ops i L=true):je ops i (L.setIfInBounds j true)=true:=by
 rw [Ds] at *
 intro k hk fH
 rw [getD_set_ne true (fun e=>by subst e;rw [hd] at fH;cases fH)]
 exact h k hk fH
theorem vk {i j:Nat} {o:Oper} (ho:ops[j]?=some o) (hp:mj o.op=true):nN ops j i=false:=by unfold nN;rw [ho];simp [hp]
theorem Pp {i j:Nat} {o:Oper} (ho:ops[j]?=some o) (cY:∀ e ∈ o.after,Region.binds .any e=true→e.on≠i):nN ops j i=false:=by
 unfold nN;rw [ho]
 simp only [Bool.and_eq_false_iff]
 refine .inr ?_
 rw [Array.any_eq_false]
 intro q hq h
 simp only [Bool.and_eq_true] at h
 exact cY _ (Array.getElem_mem hq) h.1 (Nat.eq_of_beq_eq_true h.2)
def Sub (L L':Array Bool):Prop:=∀ k,L.getD k true=true→L'.getD k true=true
theorem Sub.refl (L:Array Bool):Sub L L:=fun _ h=>h
theorem Sub.vQ {L L':Array Bool} {j:Nat} (h:Sub (L.setIfInBounds j true) L'):Sub L L':=fun k hk=>h k (by
 by_cases e:j=k
 ·subst e
  rcases Nat.lt_or_ge j L.size with h' | h'
  ·simp [h']
  ·simp [h']
 ·rw [getD_set_ne true e];exact hk)
theorem JX {i:Nat} {L L':Array Bool} (h:Sub L L') (ha:je ops i L'=true):je ops i L=true:=by
 rw [Ds] at *
 intro k hk hd
 cases e:L.getD k true with
 | false=>rfl
 | true=>have h1:=ha k hk hd;rw [h k e] at h1;cases h1
def Ba (ops:Array Oper) (L:Array Bool) (rd:List (Nat×Nat)) (tc:List Nat):Bool:=rd.all fun q=>!(tc.elem q.2)||!(je ops q.1 L)
def kN (ro:Option Nat) (P:Program) (ops:Array Oper) (Q:Exit→Act→World→Prop) (Rk:Array Bool→World→Prop):Nat→Array Bool→Act→World→Prop
 | 0,L,a,w=>Rk L w∧Region.ready .any ops L=[]∧Q .normal a w
 | fuel+1,L,a,w=>Rk L w∧(Region.ready .any ops L=[]→Q .normal a w)∧∀ i ∈ Region.ready .any ops L,wpOpIn (Fl ro) 0 P ops Q i (kN ro P ops Q Rk fuel (L.setIfInBounds i true)) a w
theorem kN.rk {Rk:Array Bool→World→Prop} {fuel:Nat} {L:Array Bool} {a:Act} {w:World} (h:kN ro P ops Q Rk fuel L a w):Rk L w:=by cases fuel<;>exact h.1
theorem kN.to {Rk:Array Bool→World→Prop}:∀ {fuel:Nat} {L:Array Bool} {a:Act} {w:World},kN ro P ops Q Rk fuel L a w→wpAnyIn (Fl ro) 0 P .any ops Q fuel L a w
 | 0,_,_,_,h=>h.2
 | _+1,_,_,_,h=>⟨h.2.1,fun i hi=>wpOpIn_mono (fun _ _ h=>kN.to h) (h.2.2 i hi)⟩
theorem De {Rk tt:Array Bool→World→Prop} (h:∀ L w,tt L w→Rk L w):∀ {fuel:Nat} {L:Array Bool} {a:Act} {w:World},kN ro P ops Q tt fuel L a w→kN ro P ops Q Rk fuel L a w
 | 0,_,_,_,k=>⟨h _ _ k.1,k.2⟩
 | _+1,_,_,_,k=>⟨h _ _ k.1,k.2.1,fun i hi=>wpOpIn_mono (fun _ _ k=>De h k) (k.2.2 i hi)⟩
theorem C6 {Rk:Array Bool→World→Prop} {S:World→Prop} {i:Nat} {oi:Oper} {v:Value} (hi:ops[i]?=some oi) (hp:mj oi.op=true) (iS:∀ (j:Nat) (o:Oper) cs b,ops[j]?=some o→o.op≠.select cs b)
  (hQ:∀ c a w,Q (.panic c) (a.put oi.dst v) w→Q (.panic c) a w) (Iv:∀ L w,je ops i L=true→Rk L w→S w) (GS:∀ L w,Rk (L.setIfInBounds i true) w→Rk L w):
  ∀ (fuel:Nat) (L:Array Bool) (a:Act) (w:World),
   (∀ j oj,ops[j]?=some oj→j≠i→L.getD j true=false→(∀ e ∈ oj.after,Region.binds .any e=true→e.on≠i)→oi.apart ops oj=true)→
   i ∈ Region.ready .any ops L→je ops i L=true→nj P ops S oi v a→
   kN ro P ops Q Rk fuel (L.setIfInBounds i true) (a.put oi.dst v) w→kN ro P ops Q Rk (fuel+1) L a w:=by
 intro fuel
 induction fuel with
 | zero=>
  intro L a w _ hr dT hy H
  refine ⟨GS _ _ H.rk,fun h=>(by rw [h] at hr;cases hr),fun j hj=>?_⟩
  by_cases hO:j=i
  ·subst hO;exact hy.wpOp hi (Iv _ _ (rW (vk hi hp) dT) H.rk) H
  ·have:=ready_mono hj hO
   rw [H.2.1] at this
   cases this
 | succ fuel ih=>
  intro L a w mC hr dT hy H
  refine ⟨GS _ _ H.rk,fun h=>(by rw [h] at hr;cases hr),fun j hj=>?_⟩
  by_cases hO:j=i
  ·subst hO;exact hy.wpOp hi (Iv _ _ (rW (vk hi hp) dT) H.rk) H
  ·have h1:=H.2.2 j (ready_mono hj hO)
   obtain ⟨s6,oj,n7,du⟩:=mem_ready.1 hj
   have wO:∀ e ∈ oj.after,Region.binds .any e=true→e.on≠i:=fun e he hb heq=>by
    have h1:=du e he hb
    have h0:=(mem_ready.1 hr).1
    rw [heq] at h1
    rcases Nat.lt_or_ge i L.size with h' | h'
    ·simp [h'] at h0 h1;rw [h0] at h1;cases h1
    ·simp [Array.getElem?_eq_none h'] at h1
   have kY:=mC j oj n7 hO s6 wO
   obtain ⟨_,_,h3⟩:=Oper.apart_spec kY
   have h2:=C9 (Y:=nj P ops S oi v) n7 kY (fun cs b=>iS j oj cs b n7)
    (fun a hy u=>by unfold nj at *;rw [execOp_put oi (fun cs b=>iS i oi cs b hi) a oj.dst u h3,wanted_put oi a oj.dst u h3];exact hy) (fun a d hy=>hy) hQ hy h1
   have Aa:∀ k ok,ops[k]?=some ok→k≠i→(L.setIfInBounds j true).getD k true=false→
     (∀ e ∈ ok.after,Region.binds .any e=true→e.on≠i)→oi.apart ops ok=true:=fun k ok hk Cy mY cY=>by
    refine mC k ok hk Cy ?_ cY
    by_cases lV:j=k
    ·subst lV;exact s6
    ·rw [getD_set_ne true lV] at mY;exact mY
   refine wpOpIn_mono (fun a' w' h3=>ih (L.setIfInBounds j true) a' w' Aa (ready_mono hr (Ne.symm hO)) (rW (Pp n7 wO) dT) h3.1 ?_) h2
   rw [Array.setIfInBounds_comm _ _ hO]
   exact h3.2
def Qz (ops:Array Oper) (K0:World→Prop) (I:aA) (F:Nat→aA) (rd:List (Nat×Nat)) (L:Array Bool) (w:World):Prop:=(K0 w∧az w I)∧∀ q ∈ rd,je ops q.1 L=true→az w (F q.2)
def ku (P:Program) (T:aW) (cl:gu) (sz:Nat) (ops:Array Oper) (oc:List (Nat×bj)):Nat→Array Bool→List (Nat×Nat)→RS→Option RS
 | 0,L,_,s=>(match tT ops L with | .fin=>some s | _=>none)
 | fuel+1,L,rd,⟨vc,E,M,tc,mv⟩=>
  match tT ops L with
  | .fin=>some ⟨vc,E,M,tc,mv⟩
  | .bad=>none
  | .look i=>(match ops[i]? with
   | some o=>(bif g8 sz o.dst&&(mj o.op&&je ops i L) then (match nC sz ops E o.guard with
    | some true=>(match step P T cl E M (nM oc i) o.op with
     | some ⟨n6,av,_,_,_,some lg⟩=>ku P T cl sz ops oc fuel (L.setIfInBounds i true) (lg.map (fun u=>(i,u))++rd) ⟨vc++n6,g7 E o.dst av,M,tc,mv⟩
     | _=>none)
    | some false=>ku P T cl sz ops oc fuel (L.setIfInBounds i true) rd ⟨vc,g7 E o.dst (.d (.v undef)),M,tc,mv⟩
    | none=>none) else none)
   | none=>none)
  | .one i=>(match ops[i]? with
   | some o=>(bif g8 sz o.dst then (match nC sz ops E o.guard with
    | some true=>(match step P T cl E M (nM oc i) o.op with
     | some out=>(bif Ba ops (L.setIfInBounds i true) rd out.tc&&Nat.ble M.length out.M.length then ku P T cl sz ops oc fuel (L.setIfInBounds i true) rd ⟨vc++out.vc,g7 (qO out.mv E) o.dst out.av,out.M,out.tc++tc,out.mv++mv⟩ else none)
     | none=>none)
    | some false=>ku P T cl sz ops oc fuel (L.setIfInBounds i true) rd ⟨vc,g7 E o.dst (.d (.v undef)),M,tc,mv⟩
    | none=>none) else none)
   | none=>none)
theorem pP {L:Array Bool}:∀ {r:List Nat} {i:Nat},m8 ops L r=some i→i ∈ r∧∃ o,ops[i]?=some o∧Region.free .any ops L i=true
 | [],_,h=>by simp [m8] at h
 | j::r,i,h=>by
  unfold m8 at h
  split at h
  ·rename_i o ho
   cases hc:(mj o.op&&Region.free .any ops L j) with
   | true=>simp only [hc,cond_true,Option.some.injEq] at h;subst h;simp only [Bool.and_eq_true] at hc;exact ⟨List.mem_cons_self,o,ho,hc.2⟩
   | false=>simp only [hc,cond_false] at h;exact ⟨List.mem_cons_of_mem _ (pP h).1,(pP h).2⟩
  ·exact ⟨List.mem_cons_of_mem _ (pP h).1,(pP h).2⟩
theorem zd {L:Array Bool} {r:List Nat} {n:tS}:s7 ops L r=n→match n with | .fin=>r=[] | .look i=>i ∈ r∧∃ o,ops[i]?=some o∧Region.free .any ops L i=true | .one i=>r=[i] | .bad=>True:=by
 intro h
 match r,h with
 | [],h=>simp only [s7] at h;subst h;rfl
 | [i],h=>simp only [s7] at h;subst h;rfl
 | i::k::r,h=>
  rw [s7] at h
  cases hf:m8 ops L (i::k::r) with
  | some j=>rw [hf] at h;subst h;exact pP hf
  | none=>rw [hf] at h;subst h;trivial
theorem Fw {L:Array Bool} (h:tT ops L=.fin):Region.ready .any ops L=[]:=zd h
theorem MI {L:Array Bool} {i:Nat} (h:tT ops L=.look i):i ∈ Region.ready .any ops L∧∃ o,ops[i]?=some o∧Region.free .any ops L i=true:=zd h
theorem Oa {L:Array Bool} {i:Nat} (h:tT ops L=.one i):Region.ready .any ops L=[i]:=zd h
theorem ze {oc:List (Nat×bj)}:∀ (fuel:Nat) (L:Array Bool) (rd:List (Nat×Nat)) (s:RS) {s':RS},ku P T cl sz ops oc fuel L rd s=some s'→bw s'.vc→bw s.vc:=by
 intro fuel
 induction fuel with
 | zero=>
  intro L rd s s' h hv
  unfold ku at h
  split at h
  ·simp only [Option.some.injEq] at h;subst h;exact hv
  ·simp at h
 | succ fuel ih=>
  intro L rd s s' h hv
  obtain ⟨vc,E,M,tc,mv⟩:=s
  unfold ku at h
  split at h
  ·simp only [Option.some.injEq] at h;subst h;exact hv
  ·simp at h
  ·rename_i i _
   split at h
   ·rename_i o ho
    cases hd:(g8 sz o.dst&&(mj o.op&&je ops i L)) with
    | false=>simp [hd] at h
    | true=>
     simp only [hd,cond_true] at h
     split at h
     ·split at h
      ·exact (bw.app.1 (ih _ _ _ h hv)).1
      ·simp at h
     ·have:=ih _ _ _ h hv;exact this
     ·simp at h
   ·simp at h
  ·rename_i i _
   split at h
   ·rename_i o ho
    cases hd:g8 sz o.dst with
    | false=>simp [hd] at h
    | true=>
     simp only [hd,cond_true] at h
     split at h
     ·split at h
      ·rename_i out _
       cases hc:(Ba ops (L.setIfInBounds i true) rd out.tc&&Nat.ble M.length out.M.length) with
       | false=>simp [hc] at h
       | true=>simp only [hc,cond_true] at h;exact (bw.app.1 (ih _ _ _ h hv)).1
      ·simp at h
     ·have:=ih _ _ _ h hv;exact this
     ·simp at h
   ·simp at h
theorem Ob (hT:bp P T=true) (cG:jS P cl) {b:dH} (hK:∀ w,Kp D w0 w→K0 w) (iS:Region.noSelect ops=true) (hQ:∀ d v c a w,Q (.panic c) (Act.put a d v) w→Q (.panic c) a w) {oc:List (Nat×bj)}:
  ∀ (fuel:Nat) (L:Array Bool) (rd:List (Nat×Nat)) (s:RS) {s':RS} (Rk:Array Bool→World→Prop) (β:Beta) (F:Nat→aA) (I:aA) (a:Act) (w:World),ku P T cl sz ops oc fuel L rd s=some s'→a.tmps.size=sz→Mk mk a.defers I→b.m≤s.M.length→RM D w0 K0 s.M β F I w→nD b s.mv s.tc β F I→
   (∀ t v,bO s.E t=some v→aE (fun w=>K0 w∧az w I) β v (a.eval (.tmp t)))→(∀ q ∈ rd,q.2<s.M.length)→(∀ L' w,Sub L L'→Qz ops K0 I F rd L' w→Rk L' w)→(∀ (j:Nat) oj,ops[j]?=some oj→mj oj.op=true→∀ L' w,Rk (L'.setIfInBounds j true) w→Rk L' w)→bw s'.vc→(∀ a' w',dy mk D w0 K0 sz b s' a' w'→Q .normal a' w')→kN ro P ops Q Rk fuel L a w:=by
 intro fuel
 induction fuel with
 | zero=>
  intro L rd s s' Rk β F I a w h size defers hm Rm aT hs eH gP pF hv k
  obtain ⟨vc,E,M,tc,mv⟩:=s
  have C:Ctx D w0 K0 E M β F I a.eval w:=⟨Rm,hs,fun _=>rfl,fun _=>rfl,fun _=>rfl,hK⟩
  have hR:=gP L w (Sub.refl L) ⟨C.now,fun q hq _=>C.rm.jE (List.getElem?_eq_getElem (eH q hq))⟩
  unfold ku at h
  split at h
  ·rename_i hn
   simp only [Option.some.injEq] at h;subst h
   exact ⟨hR,Fw hn,k a w ⟨size,I,defers,hm,β,F,Rm,aT,hs⟩⟩
  ·simp at h
 | succ fuel ih=>
  intro L rd s s' Rk β F I a w h size defers hm Rm aT hs eH gP pF hv k
  obtain ⟨vc,E,M,tc,mv⟩:=s
  dsimp only at hm Rm aT hs eH gP
  have C:Ctx D w0 K0 E M β F I a.eval w:=⟨Rm,hs,fun _=>rfl,fun _=>rfl,fun _=>rfl,hK⟩
  have hR:=gP L w (Sub.refl L) ⟨C.now,fun q hq _=>C.rm.jE (List.getElem?_eq_getElem (eH q hq))⟩
  unfold ku at h
  split at h
  ·rename_i hn
   simp only [Option.some.injEq] at h;subst h
   have hn:=Fw hn
   exact ⟨hR,fun _=>k a w ⟨size,I,defers,hm,β,F,Rm,aT,hs⟩,fun i hi=>by rw [hn] at hi;cases hi⟩
  ·simp at h
  ·rename_i i hn
   obtain ⟨tU,o',SI,mC⟩:=MI hn
   split at h
   ·rename_i o ho
    cases eI:(g8 sz o.dst&&(mj o.op&&je ops i L)) with
    | false=>simp [eI] at h
    | true=>
     simp only [eI,cond_true] at h
     simp only [Bool.and_eq_true] at eI
     obtain ⟨hd,tV,dT⟩:=eI
     have iE:=fun j oj hj dN mY cY=>Region.free_spec ho mC j oj hj dN mY cY
     split at h
     ·rename_i hw
      have fC:=lz (ops:=ops) size hs hw
      split at h
      ·rename_i n6 av _ _ _ lg bM
       have pG:=qj (P:=P) hT cG (d:=o.dst) (ty:=o.type) (pos:=o.pos) (aft:=o.after) (gd:=o.guard) bM
       obtain ⟨BM,rfl,-,aK⟩:=pG
       have mH:=(bw.app.1 (ze _ _ _ _ h hv)).2
       obtain ⟨v,kU,kr⟩:=BM C mH
       obtain ⟨e1,e2,e3⟩:=RE.put (E:=E) size defers hs hd kU
       have lL:=ih (L.setIfInBounds i true) _ _ (fun L w=>Rk L w∧(je ops i L=true→gZ K0 I F lg w)) β F I (a.put o.dst v) w h e1 e2 hm Rm aT e3 (fun q hq=>by
         rcases List.mem_append.1 hq with e | e
         ·obtain ⟨u,hu,rfl⟩:=List.mem_map.1 e;exact aK u hu
         ·exact eH q e)
        (fun L' w hL hw=>⟨gP L' w hL.vQ ⟨hw.1,fun q hq=>hw.2 q (List.mem_append_right _ hq)⟩,fun ha=>⟨hw.1,fun u hu=>hw.2 (i,u) (List.mem_append_left _ (List.mem_map.2 ⟨u,hu,rfl⟩)) ha⟩⟩)
        (fun j oj hj Iw L' w hw=>⟨pF j oj hj Iw L' w hw.1,fun ha=>hw.2 (rW (vk hj Iw) ha)⟩) hv k
       exact De (fun L w hw=>hw.1) (C6 ho tV (Region.noSelect_spec iS) (hQ o.dst v) (fun L w ha hw=>hw.2 ha) (fun L w hw=>⟨pF i o ho tV L w hw.1,fun ha=>hw.2 (rW (vk ho tV) ha)⟩) _ L a w iE tU dT (Or.inl ⟨fC,fun w' eb=>kr w' eb⟩) lL)
      ·simp at h
     ·rename_i hw
      have fC:=lz (ops:=ops) size hs hw
      obtain ⟨e1,e2,e3⟩:=RE.put (E:=E) size defers hs hd (.d (.v undef))
      have lL:=ih (L.setIfInBounds i true) _ _ Rk β F I (a.put o.dst undef) w h e1 e2 hm Rm aT e3 eH (fun L' w hL=>gP L' w hL.vQ) pF hv k
      exact C6 (S:=fun _=>True) ho tV (Region.noSelect_spec iS) (hQ o.dst undef) (fun _ _ _ _=>trivial) (pF i o ho tV) _ L a w iE tU dT (Or.inr ⟨fC,rfl⟩) lL
     ·simp at h
   ·simp at h
  ·rename_i i hn
   have er:=Oa hn
   split at h
   ·rename_i o ho
    cases hd:g8 sz o.dst with
    | false=>simp [hd] at h
    | true=>
     simp only [hd,cond_true] at h
     refine ⟨hR,fun h0=>(by rw [er] at h0;simp at h0),fun j hj=>?_⟩
     rw [er] at hj
     obtain rfl:=List.mem_singleton.1 hj
     unfold wpOpIn
     simp only [ho]
     split at h
     ·rename_i hw
      have fC:=lz (ops:=ops) size hs hw
      simp only [fC,if_true]
      split at h
      ·rename_i out bM
       cases hc:(Ba ops (L.setIfInBounds j true) rd out.tc&&Nat.ble M.length out.M.length) with
       | false=>simp [hc] at h
       | true=>
        simp only [hc,cond_true] at h
        simp only [Bool.and_eq_true] at hc
        have hlen:=Nat.le_of_ble_eq_true hc.2
        have mH:=(bw.app.1 (ze _ _ _ _ h hv)).2
        have pG:=(qj (P:=P) hT cG (d:=o.dst) (ty:=o.type) (pos:=o.pos) (aft:=o.after) (gd:=o.guard) bM).rq C mH
        refine bq.wp pG ?_
        rintro v w' ⟨aF,F',I',R',e,hI,hF,mX⟩
        have hk:=yA (ρ:=a.eval) e hs
        obtain ⟨e1,e2,e3⟩:=RE.put size (defers.grow hI) (fun t v hx=>(hk t v hx).mono (fun w hw=>⟨hw.1,hI.holds w hw.2⟩) (Ext.refl _)) hd mX
        refine ih (L.setIfInBounds j true) _ _ Rk aF F' I' (a.put o.dst v) w' h e1 e2 (Nat.le_trans hm hlen) R' (aT.step hm e hI hF) e3 (fun q hq=>Nat.lt_of_lt_of_le (eH q hq) hlen) (fun L' w hL hw=>gP L' w hL.vQ ⟨⟨hw.1.1,hI.holds w hw.1.2⟩,fun q hq ha=>?_⟩) pF hv k
        have Cz:q.2 ∉ out.tc:=by
         have h1:=List.all_eq_true.1 hc.1 q hq
         rw [JX hL ha] at h1
         simpa using h1
        rw [← hF q.2 (eH q hq) Cz];exact hw.2 q hq ha
      ·simp at h
     ·rename_i hw
      have fC:=lz (ops:=ops) size hs hw
      simp only [fC,Bool.false_eq_true,if_false]
      obtain ⟨e1,e2,e3⟩:=RE.put (E:=E) size defers hs hd (.d (.v undef))
      exact ⟨fun _ _=>trivial,ih (L.setIfInBounds j true) _ _ Rk β F I (a.put o.dst undef) w h e1 e2 hm Rm aT e3 eH (fun L' w hL=>gP L' w hL.vQ) pF hv k⟩
     ·simp at h
   ·simp at h
theorem RJ (hT:bp P T=true) (cG:jS P cl) (hm:P.follows .mixedOrders=true) (hK:∀ w,Kp D w0 w→K0 w) (hQ:∀ d v c a w,Q (.panic c) (Act.put a d v) w→Q (.panic c) a w) {b:dH} {s:RS} (R:dy mk D w0 K0 sz b s a w) (oc:List (Nat×bj)) {id:Nat} {s':RS} (iS:Region.noSelect ops=true)
  (h:ku P T cl sz ops oc ops.size (Array.replicate ops.size false) [] s=some s') (hv:bw s'.vc) (k:∀ a' w',dy mk D w0 K0 sz b s' a' w'→Q .normal a' w'):(Code.region id ops true).wpIn (Fl ro) 0 P Q a w:=by
 refine wpIn_region_any hm ?_
 obtain ⟨size,I,defers,hb,β,F,Rm,aT,hs⟩:=R
 have hg:=Gr.drew w
 exact (Ob hT cG hK iS hQ ops.size _ [] s (fun _ _=>True) β F I a w.drew h size defers hb (Rm.gr hg) aT hs (by simp) (fun _ _ _ _=>trivial) (fun _ _ _ _ _ _ _=>trivial) hv k).to
end Go.Proofs.YtlinpknagdgphaaGreat
namespace Go.Proofs.YtlinpknagdgphaaGreat
open Go.RowKit
inductive eT where
 | ends (R:Ending→World→Prop)
 | arr (l:Nat) (k:List Item) (Q:Act→World→Prop)
def eT.ro:eT→Option Nat
 | .ends _=>none
 | .arr l _ _=>some l
def eT.met (P:Program) (f:FuncId) (b:Frame) (cs:List Frame):eT→Machine→Prop
 | .ends R,s=>∃ e w' fr,R e w'∧Comes P s (lone fr cs w') e∧fr.fn=f∧fr.leaving P w' e
 | .arr _ k Q,s=>∃ a' w',Q a' w'∧Steps P s (lone (b.atR a' k) cs w')
theorem eT.met.of {P:Program} {f:FuncId} {b:Frame} {cs:List Frame} {G:eT} {s s':Machine} (h:Steps P s s') (g:G.met P f b cs s'):G.met P f b cs s:=by
 cases G with
 | ends R=>obtain ⟨e,w',fr,h1,h2,h3⟩:=g;exact ⟨e,w',fr,h1,.of_steps h h2,h3⟩
 | arr l k Q=>obtain ⟨a',w',h1,h2⟩:=g;exact ⟨a',w',h1,h.trans h2⟩
def aN (P:Program) (f:FuncId) (todo:List Item) (R:eT) (a:Act) (w:World):Prop:=
 ∀ (b:Frame) (cs:List Frame),b.fn=f→b.kind=.normal→b.roundOf=R.ro→R.met P f b cs (lone (b.atR a todo) cs w)
section
variable {mk:Bool} {P:Program} {f:FuncId} {R:eT} {Re:Ending→World→Prop} {a a':Act} {w w':World} {todo todo':List Item}
theorem aN.step (h:∀ (b:Frame) cs,Go.step P (lone (b.atR a todo) cs w)=.next (lone (b.atR a' todo') cs w')) (g:aN P f todo' R a' w'):aN P f todo R a w:=
 fun b cs hb hk hr=>(g b cs hb hk hr).of (.one (h b cs))
theorem aN.code {c:Code} {k:List Item} (h:c.wpIn (Fl R.ro) 0 P (fun e a w=>e=.normal∧aN P f k R a w) a w):aN P f (.code c::k) R a w:=by
 intro b cs hb hk hr
 obtain ⟨e,a1,w1,⟨rfl,hg⟩,RK⟩:=h b k cs hr trivial (fun d hd=>by cases hd)
 exact (hg b cs hb hk hr).of (stepsIn_wide.1 RK)
theorem aN.ret {fn:Func} {k:List Item} (hf:P.funcs[f]?=some fn) (hd:a.defers=[]) {v:Value} (hr:(results fn a.tmps).run P w=.ok v w) (h:Re (.returned v) w):aN P f (.code .ret::k) (.ends Re) a w:=by
 intro b cs hb hk lh
 rw [Frame.atR_of_none lh]
 exact ⟨.returned v,w,{ b.at a (.code .ret::k) with mode:=.returning },h,.of_steps (.one step_ret) (Steps.refl P _),hb,rfl,hd,hk,fn,by rw [← hb] at hf;exact hf,hr⟩
theorem aN.fin {fn:Func} (hf:P.funcs[f]?=some fn) (hd:a.defers=[]) {v:Value} (hr:(results fn a.tmps).run P w=.ok v w) (h:Re (.returned v) w):aN P f [] (.ends Re) a w:=by
 intro b cs hb hk lh
 rw [Frame.atR_of_none lh]
 exact ⟨.returned v,w,{ b.at a [] with mode:=.returning },h,.of_steps (.one step_end) (Steps.refl P _),hb,rfl,hd,hk,fn,by rw [← hb] at hf;exact hf,hr⟩
theorem aN.Gm {l:Nat} {k:List Item} {Q:Act→World→Prop} (h:Q a w):aN P f k (.arr l k Q) a w:=fun _ _ _ _ _=>⟨a,w,h,Steps.refl P _⟩
theorem pO {fn:Func} {c:Code} {args:Array Value} (hf:P.funcs[f]?=some fn) (hb:fn.body=some c) (h:aN P f [.code c] (.ends Re) { tmps:=args++Array.replicate (fn.ntmps-args.size) undef,defers:=[] } w):Calls P f args w Re:=by
 intro cs
 let b:Frame:={ (default:Frame) with fn:=f,kind:=.normal,roundOf:=none }
 have Pq:Frame.enter P f args .normal=b.atR { tmps:=args++Array.replicate (fn.ntmps-args.size) undef,defers:=[] } [.code c]:=by
  simp [Frame.enter,Frame.atR,hf,hb,b]
 rw [Pq]
 exact h b cs rfl rfl rfl
theorem aN.loop {c:Code} {k:List Item} (h:aN P f (.code c::.inLoop c::k) R a w):aN P f (.code (.loop c)::k) R a w:=aN.step (fun _ _=>stepR_loop) h
theorem aN.again {c:Code} {k:List Item} (h:aN P f (.code c::.inLoop c::k) R a w):aN P f (.inLoop c::k) R a w:=aN.step (fun _ _=>stepR_inLoop) h
theorem aN.rounds {Φ:Nat→Act→World→Prop} (n:Nat) (h:∀ i,i≤n→(i<n→∀ a w,Φ (i+1) a w→aN P f todo R a w)→∀ a w,Φ i a w→aN P f todo R a w) {i:Nat} (hi:i≤n) (h0:Φ i a w):aN P f todo R a w:=by
 have key:∀ m i,i≤n→n-i=m→∀ a w,Φ i a w→aN P f todo R a w:=by
  intro m
  induction m with
  | zero=>intro i hi hm;exact h i hi fun aK=>by omega
  | succ m ih=>intro i hi hm;exact h i hi fun aK=>ih (i+1) aK (by omega)
 exact key _ i hi rfl a w h0
end
abbrev da:=List (Nat×List (Nat×bj))
def o2:da→Nat→List (Nat×bj)
 | [],_=>[]
 | (k,v)::r,s=>bif k.beq s then v else o2 r s
def vR (P:Program) (T:aW) (cl:gu) (sz:Nat) (ops:Array Oper) (draw:Bool) (oc:List (Nat×bj)) (s:RS):Option RS:=
 bif draw then (bif Region.noSelect ops then ku P T cl sz ops oc ops.size (Array.replicate ops.size false) [] s else none)
 else im P T cl sz ops ops.toList 0 oc s
def dw (P:Program) (T:aW) (cl:gu) (sz:Nat) (tb:da):Nat→List Item→RS→Option (List Item×RS)
 | 0,todo,s=>some (todo,s)
 | n+1,todo,s=>
  match todo with
  | .code .skip::k=>dw P T cl sz tb n k s
  | .code (.label _)::k=>dw P T cl sz tb n k s
  | .inBlock _::k=>dw P T cl sz tb n k s
  | .code (.seq x y)::k=>dw P T cl sz tb n (.code x::.code y::k) s
  | .code (.cond c x y)::k=>(match mq (aO s.E c) with
   | some true=>dw P T cl sz tb n (.code x::k) s
   | some false=>dw P T cl sz tb n (.code y::k) s
   | none=>some (todo,s))
  | .code (.block id c)::k=>dw P T cl sz tb n (.code c::.inBlock id::k) s
  | .code (.exit id)::k=>(match exitTo id k with
   | some k'=>dw P T cl sz tb n k' s
   | none=>none)
  | .code (.region id ops draw)::k=>(match vR P T cl sz ops draw (o2 tb id) s with
   | some s'=>dw P T cl sz tb n k s'
   | none=>none)
  | _=>some (todo,s)
variable {mk:Bool} {P:Program} {T:aW} {cl:gu} {f:FuncId} {R:eT} {a:Act} {w:World} {D:List Nat} {w0:World} {K0:World→Prop} {E:List (Nat×AV)} {M:List au} {sz:Nat} {tb:da} {todo todo':List Item}
theorem K1 {ops:Array Oper} {draw:Bool} {oc:List (Nat×bj)} {s s':RS} (h:vR P T cl sz ops draw oc s=some s') (hv:bw s'.vc):bw s.vc:=by
 unfold vR at h
 cases draw with
 | false=>simp only [cond_false] at h;exact vP _ _ _ _ h hv
 | true=>
  simp only [cond_true] at h
  cases hs:Region.noSelect ops with
  | false=>simp [hs] at h
  | true=>simp only [hs,cond_true] at h;exact ze _ _ _ _ h hv
theorem Fx:∀ (n:Nat) (todo:List Item) (s:RS) {todo':List Item} {s':RS},dw P T cl sz tb n todo s=some (todo',s')→bw s'.vc→bw s.vc:=by
 intro n
 induction n with
 | zero=>intro todo s todo' s' h hv;simp only [dw,Option.some.injEq,Prod.mk.injEq] at h;obtain ⟨-,rfl⟩:=h;exact hv
 | succ n ih=>
  intro todo s todo' s' h hv
  unfold dw at h
  split at h
  ·exact ih _ _ h hv
  ·exact ih _ _ h hv
  ·exact ih _ _ h hv
  ·exact ih _ _ h hv
  ·split at h
   ·exact ih _ _ h hv
   ·exact ih _ _ h hv
   ·simp only [Option.some.injEq,Prod.mk.injEq] at h;obtain ⟨-,rfl⟩:=h;exact hv
  ·exact ih _ _ h hv
  ·split at h
   ·exact ih _ _ h hv
   ·simp at h
  ·split at h
   ·rename_i hr;exact K1 hr (ih _ _ h hv)
   ·simp at h
  ·simp only [Option.some.injEq,Prod.mk.injEq] at h;obtain ⟨-,rfl⟩:=h;exact hv
theorem ca.bool (R:ca mk D w0 K0 sz E M a w) {c:Operand} {b:Bool} (h:mq (aO E c)=some b):a.eval c=.bool b:=by
 obtain ⟨-,I,-,β,F,Rm,hs⟩:=R
 unfold mq at h
 split at h
 ·rename_i c' hv
  simp only [Option.some.injEq] at h;subst h
  cases c with
  | tmp t=>
   have:=hs _ _ hv
   generalize a.eval (.tmp t)=y at *
   cases this with | d r=>cases r;rfl
  | const v=>simp only [aO,Option.some.injEq,AV.d.injEq,DV.v.injEq] at hv;rw [← hv];rfl
  | global g=>simp [aO] at hv
  | func f=>simp [aO] at hv
 ·simp at h
theorem iT (hT:bp P T=true) (cG:jS P cl) (hm:P.follows .mixedOrders=true) (hK:∀ w,Kp D w0 w→K0 w) {b:dH}:∀ (n:Nat) {todo:List Item} {s:RS} {a:Act} {w:World} {todo':List Item} {s':RS},dw P T cl sz tb n todo s=some (todo',s')→dy mk D w0 K0 sz b s a w→bw s'.vc→(∀ a' w',dy mk D w0 K0 sz b s' a' w'→aN P f todo' R a' w')→aN P f todo R a w:=by
 intro n
 induction n with
 | zero=>intro todo s a w todo' s' h r hv k;simp only [dw,Option.some.injEq,Prod.mk.injEq] at h;obtain ⟨rfl,rfl⟩:=h;exact k a w r
 | succ n ih=>
  intro todo s a w todo' s' h r hv k
  unfold dw at h
  split at h
  ·exact aN.step (fun _ _=>stepR_skip) (ih h r hv k)
  ·exact aN.step (fun _ _=>stepR_label) (ih h r hv k)
  ·exact aN.step (fun _ _=>stepR_inBlock) (ih h r hv k)
  ·exact aN.step (fun _ _=>stepR_seq) (ih h r hv k)
  ·split at h
   ·rename_i hb;exact aN.step (fun _ _=>stepR_cond (r.re.bool hb)) (ih h r hv k)
   ·rename_i hb;exact aN.step (fun _ _=>stepR_cond (r.re.bool hb)) (ih h r hv k)
   ·simp only [Option.some.injEq,Prod.mk.injEq] at h;obtain ⟨rfl,rfl⟩:=h;exact k a w r
  ·exact aN.step (fun _ _=>stepR_block) (ih h r hv k)
  ·split at h
   ·rename_i hx;exact aN.step (fun _ _=>stepR_exit hx) (ih h r hv k)
   ·simp at h
  ·split at h
   ·rename_i id ops draw k0 _ s1 hr
    refine aN.code ?_
    have bg:=Fx _ _ _ h hv
    unfold vR at hr
    cases draw with
    | false=>
     simp only [cond_false] at hr
     exact RI hT cG hK r _ hr bg fun a' w' r'=>⟨rfl,ih h r' hv k⟩
    | true=>
     simp only [cond_true] at hr
     cases hs:Region.noSelect ops with
     | false=>simp [hs] at hr
     | true=>
      simp only [hs,cond_true] at hr
      exact RJ hT cG hm hK (by rintro d v c a w ⟨h,-⟩;cases h) r _ hs hr bg fun a' w' r'=>⟨rfl,ih h r' hv k⟩
   ·simp at h
  ·simp only [Option.some.injEq,Prod.mk.injEq] at h;obtain ⟨rfl,rfl⟩:=h;exact k a w r
theorem n8 (hT:bp P T=true) (cG:jS P cl) (hm:P.follows .mixedOrders=true) (hK:∀ w,Kp D w0 w→K0 w) (n:Nat) {vc:List Prop} {s':RS} (h:dw P T cl sz tb n todo ⟨vc,E,M,[],[]⟩=some (todo',s')) (r:ca mk D w0 K0 sz E M a w) (hv:bw s'.vc) (k:∀ a' w',ca mk D w0 K0 sz s'.E s'.M a' w'→aN P f todo' R a' w'):aN P f todo R a w:=
 let ⟨_,rb⟩:=r.b vc
 iT hT cG hm hK n h rb hv fun a' w' r'=>k a' w' r'.re
end Go.Proofs.YtlinpknagdgphaaGreat
namespace Go.Proofs.YtlinpknagdgphaaGreat
open Go.RowKit
def GU (w:World) (K:World→Prop) (x:DV):Ending→World→Prop:=Hm w fun r H=>∃ Ho Hi,H=Ho++Hi∧bQ (fun w=>K w∧az w Hi) x r Ho
abbrev mI (w:World) (K:World→Prop) (x:DV):eT:=.ends (GU w K x)
def gV:List AV→Nat→List (Nat×AV)
 | [],_=>[]
 | v::r,i=>(i,v)::gV r (i+1)
theorem pV:∀ (vs:List AV) (i:Nat) (x:Nat×AV),x ∈ gV vs i→i≤x.1∧vs[x.1-i]?=some x.2:=by
 intro vs
 induction vs with
 | nil=>intro i x hx;simp [gV] at hx
 | cons v r ih=>
  intro i x hx
  simp only [gV,List.mem_cons] at hx
  rcases hx with e | e
  ·subst e;simp
  ·obtain ⟨h1,h2⟩:=ih (i+1) x e
   refine ⟨by omega,?_⟩
   rw [show x.1-i=(x.1-(i+1))+1 by omega];simpa using h2
variable {mk:Bool} {P:Program} {T:aW} {cl:gu} {f:FuncId} {R:eT} {a:Act} {w:World} {D:List Nat} {w0:World} {K0:World→Prop} {E:List (Nat×AV)} {M:List au} {β:Beta} {F:Nat→aA} {I X:aA} {sz:Nat} {tb:da} {todo todo':List Item}
theorem aD.intro {fn:Func} {c:Code} {args:List AV} {x:DV} (iQ:fR P f=true) (hf:P.funcs[f]?=some fn) (hb:fn.body=some c) (n:Nat) (hn:fn.ntmps=n) (hle:Nat.ble args.length n=true)
  (h:∀ (w0:World) (K:World→Prop) (a:Act),(∀ w,Kp [] w0 w→K w)→ec [] w0 K n (gV args 0) [] a w0→aN P f [.code c] (mI w0 K x) a w0):aD P f args x:=by
 refine ⟨iQ,fun w K ys hK hl hr=>?_⟩
 have hle:=Nat.le_of_ble_eq_true hle
 refine pO hf hb (h w K _ (fun w' k=>hK w' k.GN) ⟨by simp;omega,[],rfl,[],fun _=>[],⟨rfl,by simp,by simpa using St.none w⟩,?_⟩)
 intro t v hv
 obtain ⟨y,rfl,rfl,hy⟩:∃ y:Nat×AV,y.1=t∧y.2=v∧y ∈ gV args 0:=⟨(t,v),rfl,rfl,lx hv⟩
 obtain ⟨-,h2⟩:=pV args 0 y hy
 simp only [Nat.sub_zero] at h2
 obtain ⟨aK,-⟩:=List.getElem?_eq_some_iff.1 h2
 have iF:ys[y.1]?=some ys[y.1]:=List.getElem?_eq_getElem (by omega)
 have he:({ tmps:=ys.toArray++Array.replicate (fn.ntmps-ys.toArray.size) undef,defers:=[] }:Act).eval (.tmp y.1)=ys[y.1]:=by
  have:y.1<ys.length:=by omega
  simp [Act.eval,Array.getD_eq_getD_getElem?,Array.getElem?_append,this]
 rw [he]
 exact (hr y.1 y.2 _ h2 iF).mono (fun w hw=>hw.1) (Ext.refl _)
def jj (T:aW) (E:List (Nat×AV)) (M:List au):List ResultVar→Option (List AV)
 | []=>some []
 | .tmp t::r=>(match bO E t,jj T E M r with | some v,some l=>some (v::l) | _,_=>none)
 | .cell t ty::r=>(match bO E t,jj T E M r with
  | some (.pt u o),some l=>(match M[u]? with | some (.bx _ cells)=>(match lT T ty cells o with | some v=>some (v::l) | none=>none) | _=>none)
  | _,_=>none)
theorem oK (hT:bp P T=true) (R:RM D w0 K0 M β F I w) (hs:∀ t v,bO E t=some v→aE (fun w=>K0 w∧az w I) β v (a.eval (.tmp t))):∀ {rs:List ResultVar} {l:List AV},jj T E M rs=some l→∃ ys,sH P w a rs ys∧ys.length=l.length∧∀ (j:Nat) c y,l[j]?=some c→ys[j]?=some y→aE (fun w=>K0 w∧az w I) β c y
 | [],l,h=>by simp only [jj,Option.some.injEq] at h;subst h;exact ⟨[],trivial,rfl,by simp⟩
 | .tmp t::r,l,h=>by
  unfold jj at h
  split at h
  ·rename_i v l' h1 h2
   simp only [Option.some.injEq] at h;subst h
   obtain ⟨ys,e1,e2,e3⟩:=oK hT R hs h2
   refine ⟨a.eval (.tmp t)::ys,⟨rfl,e1⟩,by simp [e2],?_⟩
   intro j c y h3 h4
   cases j with
   | zero=>simp at h3 h4;subst h3 h4;exact hs _ _ h1
   | succ j=>simp at h3 h4;exact e3 j c y h3 h4
  ·simp at h
 | .cell t ty::r,l,h=>by
  unfold jj at h
  split at h
  ·rename_i u o l' h1 h2
   split at h
   ·rename_i T0 cells hM
    split at h
    ·rename_i v jW
     simp only [Option.some.injEq] at h;subst h
     obtain ⟨ys,e1,e2,e3⟩:=oK hT R hs h2
     have hr:=hs _ _ h1
     generalize hy:a.eval (.tmp t)=y0 at hr
     cases hr with
     | pt hb=>
      obtain ⟨H,hF,hB,hH⟩:=R.at hM
      cases hB with
      | bx aV zs hl hr=>
       rw [hb] at aV;cases aV
       obtain ⟨y',g1,g2⟩:=sw (d:=none) (ty:=0) (pos := "") (aft:=#[]) (gd:=none) hT (x:=.tmp t) (ρ:=a.eval) (a:=⟨_,0,none⟩) (R:=aE (fun w=>K0 w∧az w I) β) (fun l ys=>aE.ag ys) jW (hy.trans (by rw [add_eq,Nat.zero_add])) hl hr
       have g3:=g2 w fun j z hj=>by rw [add_eq,cell_of hH.one,Nat.zero_add];simpa using hj
       refine ⟨y'::ys,⟨⟨_,hy,?_⟩,e1⟩,by simp [e2],?_⟩
       ·simp only [execOp,hy,Sem.run_bind,Instr.loadAt,Instr.sureAddr] at g3
        cases hv:(loadVar ty _).run P w with
        | ok q w'=>rw [Sem.run_pure,Result.andThen_ok,hv] at g3;simp at g3;obtain ⟨rfl,rfl⟩:=g3;rfl
        | halt q w'=>rw [Sem.run_pure,Result.andThen_ok,hv] at g3;simp [Result.andThen] at g3
       ·intro j c y h3 h4
        cases j with
        | zero=>simp at h3 h4;subst h3 h4;exact g1
        | succ j=>simp at h3 h4;exact e3 j c y h3 h4
    ·simp at h
   ·simp at h
  ·simp at h
def qX:List DV→DV
 | [x]=>x
 | l=>.tu l
theorem back (hT:bp P T=true) {fn:Func} (hf:P.funcs[f]?=some fn) (r:ec [] w0 K0 sz E M a w) {l:List AV} {vc:List Prop} {xs:List DV} {M':List au} {x:DV} (h1:jj T E M fn.results.toList=some l) (h2:mh M l=some (vc,xs,M')) (hv:bw vc) (hx:qX xs=x):
  ∃ v,(results fn a.tmps).run P w=.ok v w∧GU w0 K0 x (.returned v) w:=by
 obtain ⟨-,I,-,β,F,Rm,hs⟩:=r
 obtain ⟨ys,e1,e2,e3⟩:=oK hT Rm hs h1
 obtain ⟨F',H,R',d⟩:=DT Rm.x h2 hv e2 e3
 refine ⟨_,si rfl e1,_,rfl,R'.st.kp.GN,H++I,⟨H,I,rfl,?_⟩,?_⟩
 ·subst hx
  have hl:=d.len
  cases d with
  | nil=>exact .tu [] (fun _=>[]) rfl (by simp)
  | cons h r=>
   cases r with
   | nil=>simpa [qX] using h
   | cons h' r'=>
    have dd:=gv.cons h (gv.cons h' r')
    obtain ⟨F2,hF,hG⟩:=dd.to
    rw [hF]
    exact .tu _ F2 dd.len hG
 ·have:=R'.st.l3
  exact (this.perm (by classical rw [List.perm_iff_count];intro z;simp only [List.count_append,List.count_nil];omega)).Rs
theorem MJ (hT:bp P T=true) {fn:Func} (hf:P.funcs[f]?=some fn) {k:List Item} (r:ec [] w0 K0 sz E M a w) {l:List AV} {vc:List Prop} {xs:List DV} {M':List au} {x:DV} (h1:jj T E M fn.results.toList=some l) (h2:mh M l=some (vc,xs,M')) (hv:bw vc) (hx:qX xs=x):aN P f (.code .ret::k) (mI w0 K0 x) a w:=
 let ⟨_,h3,h4⟩:=back hT hf r h1 h2 hv hx
 aN.ret hf (ca.oV r) h3 h4
theorem ML (hT:bp P T=true) {fn:Func} (hf:P.funcs[f]?=some fn) (r:ec [] w0 K0 sz E M a w) {l:List AV} {vc:List Prop} {xs:List DV} {M':List au} {x:DV} (h1:jj T E M fn.results.toList=some l) (h2:mh M l=some (vc,xs,M')) (hv:bw vc) (hx:qX xs=x):aN P f [] (mI w0 K0 x) a w:=
 let ⟨_,h3,h4⟩:=back hT hf r h1 h2 hv hx
 aN.fin hf (ca.oV r) h3 h4
def BN:List AV→AV
 | [v]=>v
 | l=>.tu l
def o3 (T:aW) (rs:List ResultVar) (s:RS):Option Out:=
 match jj T s.E s.M rs with
 | some l=>some ⟨s.vc,BN l,s.M,s.tc,s.mv,none⟩
 | none=>none
def s8:List Item→Option LS
 | []=>some .ready
 | .code .ret::_=>some .left
 | _=>none
theorem Jh {l:Nat} {tmps:Array Value} {cx body c2:Code} {Φ:Value→World→Prop} {k2:List Item} {s2:LS} (fH:s8 k2=some s2)
  (h:aN P f [.code cx,.beginRound,.code body] (.arr l [.beginRound,.code c2] fun a1 w1=>∃ w2,(Instr.beginRound l).run P w1=.ok () w2∧aN P f [.code c2] (.arr l k2 fun _ w3=>∃ v w4,(Instr.endRound l s2.ji).run P w3=.ok v w4∧Φ v w4) a1 w2) { tmps:=tmps,defers:=[] } w):
  RoundIn Fence.wide 0 P l f tmps cx body w fun e w'=>∃ v,e=.returned v∧Φ v w':=by
 refine ⟨trivial,fun c cs hr=>?_⟩
 let b:Frame:={ (default:Frame) with fn:=f,kind:=.normal,roundOf:=some l }
 have lU:Frame.round l f tmps cx body .normal=b.atR { tmps:=tmps,defers:=[] } [.code cx,.beginRound,.code body]:=by simp [Frame.round,Frame.atR,b]
 obtain ⟨a1,w1,⟨w2,SJ,hg⟩,st⟩:=h b (c::cs) rfl rfl rfl
 obtain ⟨a2,w3,⟨v,w4,nO,aR⟩,SK⟩:=hg b (c::cs) rfl rfl rfl
 have s1:Steps P (lone (b.atR a1 [.beginRound,.code c2]) (c::cs) w1) (lone (b.atR a1 [.code c2]) (c::cs) w2):=.one (stepR_beginRound rfl SJ)
 have s3:Steps P (lone (b.atR a2 k2) (c::cs) w3) (lone (c.finish v) cs w4):=by
  unfold s8 at fH
  split at fH
  ·simp only [Option.some.injEq] at fH;subst fH;exact .one (stepR_round_end rfl rfl nO)
  ·simp only [Option.some.injEq] at fH;subst fH;exact .one (stepR_round_ret rfl rfl nO)
  ·simp at fH
 rw [lU]
 exact ⟨.returned v,w4,⟨v,rfl,aR⟩,stepsIn_wide.2 (((st.trans s1).trans SK).trans s3)⟩
theorem K3 {l:Nat} {r:Loop} (h:w.heap[l]?=some (.loop r)) (hs:r.state=.ready):(Instr.beginRound l).run P w=.ok () (ct w l (.loop { r with state:=.busy })):=by
 unfold Instr.beginRound Instr.getLoop
 simp only [Sem.run_bind,ly h rfl,Result.andThen_ok,Sem.run_pure,sa h rfl,hs]
def LS.on:LS→Bool
 | .left=>false
 | _=>true
theorem MM {l:Nat} {r:Loop} {k2:List Item} {s2:LS} (fH:s8 k2=some s2) (h:w.heap[l]?=some (.loop r)):(Instr.endRound l s2.ji).run P w=.ok (.bool s2.on) (ct w l (.loop { r with state:=s2.state,pending:=s2.ji })):=by
 unfold Instr.endRound Instr.getLoop
 simp only [Sem.run_bind,ly h rfl,Result.andThen_ok,Sem.run_pure,sa h rfl]
 unfold s8 at fH
 split at fH
 ·simp only [Option.some.injEq] at fH;subst fH;rfl
 ·simp only [Option.some.injEq] at fH;subst fH;rfl
 ·simp at fH
def kO:List (Tmp×Value)→Array Value→Array Value
 | [],tm=>tm
 | (t,v)::r,tm=>kO r (tm.setIfInBounds t v)
theorem Dt:∀ (l:List (Tmp×Value)) (tm:Array Value),(kO l tm).size=tm.size
 | [],_=>rfl
 | (t,v)::r,tm=>by rw [kO,Dt r];simp
theorem xx:∀ (l:List (Tmp×Value)) (tm:Array Value) (t:Nat),t ∉ l.map (·.1)→(kO l tm).getD t undef=tm.getD t undef
 | [],_,_,_=>rfl
 | (s,v)::r,tm,t,h=>by
  simp only [List.map_cons,List.mem_cons,not_or] at h
  rw [kO,xx r _ t h.2]
  simp only [Array.getD_eq_getD_getElem?,Array.getElem?_setIfInBounds]
  rw [if_neg (fun e=>h.1 e.symm)]
theorem EB:∀ (l:List (Tmp×Value)) (tm:Array Value) (t:Nat) (v:Value),(l.map (·.1)).Nodup→(∀ x ∈ l,x.1<tm.size)→(t,v) ∈ l→(kO l tm).getD t undef=v
 | (s,u)::r,tm,t,v,hn,aK,h=>by
  simp only [List.map_cons,List.nodup_cons] at hn
  rw [kO]
  rcases List.mem_cons.1 h with e | h
  ·cases e
   rw [xx r _ _ hn.1]
   have hs:=aK (s,u) (by simp)
   simp only at hs
   simp [Array.getD_eq_getD_getElem?,hs]
  ·exact EB r _ t v hn.2 (fun x hx=>by simpa using aK x (List.mem_cons_of_mem _ hx)) h
def Ab (P:Program) (T:aW) (cl:gu) (n:Nat) (tb:da) (u:Nat) (args:List AV) (M:List au):Option Out:=
 match M[u]? with
 | some (.lp .ready f sz E rf)=>bif args.length.beq rf.ps.toList.length&&rf.ps.toList.all (·.blt sz)&&cC rf.ps.toList then
  (match dw P T cl sz tb n [.code rf.cx,.beginRound,.code rf.body] ⟨[],rf.ps.toList.zip args++E,M,[],[]⟩ with
  | some ([.beginRound,.code c2],s1)=>(match s1.M[u]? with
   | some (.lp .ready f2 rE E2 lj)=>bif f2.beq f&&!(s1.mv.elem u) then (match dw P T cl sz tb n [.code c2] ⟨s1.vc,s1.E,s1.M.set u (.lp .busy f2 rE E2 lj),u::s1.tc,s1.mv⟩ with
    | some (k2,s2)=>(match s8 k2,s2.M[u]? with
     | some ls,some (.lp .busy f3 xh E3 rF)=>bif !(s2.mv.elem u) then some ⟨s2.vc,.d (.v (.bool ls.on)),s2.M.set u (.lp ls f3 xh E3 rF),u::s2.tc,s2.mv,none⟩ else none
     | _,_=>none)
    | _=>none) else none
   | _=>none)
  | _=>none) else none
 | _=>none
def walk (P:Program) (T:aW):Nat→gu
 | 0=>fun _ _ _ _=>none
 | d+1=>fun c args M o=>match c,o with
  | .yl u,.dt n tb=>Ab P T (walk P T d) n tb u args M
  | .fn f,.dt n tb=>(bif fR P f then (match P.funcs[f]? with
   | some fn=>(bif Nat.ble args.length fn.ntmps then (match fn.body with
    | some c=>(match dw P T (walk P T d) fn.ntmps tb n [.code c] ⟨[],gV args 0,M,[],[]⟩ with
     | some (.code .ret::_,s)=>o3 T fn.results.toList s
     | some ([],s)=>o3 T fn.results.toList s
     | _=>none)
    | none=>none) else none)
   | none=>none) else none)
  | _,_=>none
theorem Oc (hT:bp P T=true) {fn:Func} {s:RS} {out:Out} (h:o3 T fn.results.toList s=some out) {b:dH} (r:dy mk D w0 K0 sz b s a w):
  out.vc=s.vc∧out.rd=none∧∃ v,(results fn a.tmps).run P w=.ok v w∧∃ aF F' I',RM D w0 K0 out.M aF F' I' w∧fq out.mv b.β aF∧bL b.I I'∧(∀ u,u<b.m→u ∉ out.tc→F' u=b.F u)∧aE (fun w=>K0 w∧az w I') aF out.av v:=by
 unfold o3 at h
 split at h
 ·rename_i l hl
  simp only [Option.some.injEq] at h;subst h
  obtain ⟨-,I,-,-,β,F,Rm,aT,hs⟩:=r
  obtain ⟨ys,e1,e2,e3⟩:=oK hT Rm hs hl
  refine ⟨rfl,rfl,_,si rfl e1,β,F,I,Rm,aT.1,aT.2.1,aT.2.2,?_⟩
  match ys,l,e2,e3 with
  | [],[],_,_=>exact .tu [] rfl (by simp)
  | [y],[v],_,e3=>exact e3 0 v y rfl rfl
  | y::y'::ys,v::v'::l,e2,e3=>exact .tu _ e2 e3
 ·simp at h
theorem CZ:∀ {A E:List (Nat×AV)} {t:Nat} {v:AV},bO (A++E) t=some v→t ∈ A.map (·.1)→(t,v) ∈ A
 | [],_,_,_,_,h=>by simp at h
 | (k,u)::r,E,t,v,h,hm=>by
  rw [List.cons_append] at h
  unfold bO at h
  cases hk:k.beq t with
  | true=>simp only [hk,cond_true,Option.some.injEq] at h;subst h;rw [Nat.eq_of_beq_eq_true hk];exact List.mem_cons_self
  | false=>
   simp only [hk,cond_false] at h
   refine List.mem_cons_of_mem _ (CZ h ?_)
   rcases List.mem_cons.1 hm with e | e
   ·exfalso;simp only at e;rw [e] at hk;simp at hk
   ·exact e
theorem JY {ps:List Nat} {args:List AV} {ys:List Value} {t:Nat} {v:AV} (h:(t,v) ∈ ps.zip args) (hl:ys.length=args.length) (hr:∀ (j:Nat) c y,args[j]?=some c→ys[j]?=some y→aE (fun w=>K0 w∧az w I) β c y):∃ y,(t,y) ∈ ps.zip ys∧aE (fun w=>K0 w∧az w I) β v y:=by
 obtain ⟨j,hj,e⟩:=List.getElem_of_mem h
 have h1:(ps.zip args)[j]?=some (t,v):=by rw [List.getElem?_eq_getElem hj,e]
 obtain ⟨a1,a2⟩:=List.getElem?_zip_eq_some.1 h1
 have aK:=(List.getElem?_eq_some_iff.1 a2).1
 have hy:ys[j]?=some ys[j]:=List.getElem?_eq_getElem (by omega)
 exact ⟨ys[j],List.mem_of_getElem? (List.getElem?_zip_eq_some.2 ⟨a1,hy⟩),hr j v _ a2 hy⟩
theorem Df:∀ (l:List (Tmp×Value)) (tm:Array Value),l.foldl (fun tmps (x:Tmp×Value)=>tmps.setIfInBounds x.1 x.2) tm=kO l tm
 | [],_=>rfl
 | (t,v)::r,tm=>by rw [List.foldl_cons,Df r];rfl
theorem K4 (hT:bp P T=true) (hm:P.follows .mixedOrders=true) (cG:jS P cl) {n:Nat} {tb:da} {u:Nat} {args:List AV} {M:List au} {out:Out} (h:Ab P T cl n tb u args M=some out):out.rd=none∧Ft P u args M out:=by
 unfold Ab at h
 split at h
 rotate_left
 ·simp at h
 rename_i f sz E rf hM
 cases hc:(args.length.beq rf.ps.toList.length&&rf.ps.toList.all (·.blt sz)&&cC rf.ps.toList) with
 | false=>simp only [hc,cond_false,reduceCtorEq] at h
 | true=>
  simp only [hc,cond_true] at h
  simp only [Bool.and_eq_true] at hc
  obtain ⟨⟨mT,tE⟩,SL⟩:=hc
  have mT:=Nat.eq_of_beq_eq_true mT
  split at h
  rotate_left
  ·simp at h
  rename_i c2 s1 SM
  split at h
  rotate_left
  ·simp at h
  rename_i f2 rE E2 lj iY
  cases hf:(f2.beq f&&!(s1.mv.elem u)) with
  | false=>simp only [hf,cond_false,reduceCtorEq] at h
  | true=>
   simp only [hf,cond_true] at h
   simp only [Bool.and_eq_true,Bool.not_eq_true'] at hf
   obtain ⟨tW,RL⟩:=hf
   obtain rfl:=Nat.eq_of_beq_eq_true tW
   split at h
   rotate_left
   ·simp at h
   rename_i k2 s2 iH
   split at h
   rotate_left
   ·simp at h
   rename_i ls f3 xh E3 rF fH nY
   cases BO:(!(s2.mv.elem u)) with
   | false=>simp only [BO,cond_false,reduceCtorEq] at h
   | true=>
    simp only [BO,cond_true,Option.some.injEq] at h;subst h
    refine ⟨rfl,?_⟩
    intro D w0 K0 β F I w ys l c Rm hK hv hl kU CW
    have bg:bw s1.vc:=Fx n [.code c2] ⟨s1.vc,s1.E,s1.M.set u (.lp .busy f2 rE E2 lj),u::s1.tc,s1.mv⟩ iH hv
    obtain ⟨H,hF,hB,hH⟩:=Rm.at hM
    cases hB with
    | @lp b0 cc f0 Ix k4 bz E0 Iy tmps hb bI hr=>
     rw [CW] at hb;cases hb
     have QA:=hH.one
     have hlen:rf.ps.size=ys.toArray.size:=by
      have e:rf.ps.toList.length=rf.ps.size:=Array.length_toList
      have e2:ys.toArray.size=ys.length:=by simp
      omega
     have hy:(Instr.yield l ys.toArray).run P w=.ok (.round l f2 ((rf.ps.zip ys.toArray).foldl (fun tmps (x:Tmp×Value)=>tmps.setIfInBounds x.1 x.2) tmps) rf.cx rf.body) w:=by
      unfold Instr.yield Instr.getLoop
      simp only [Sem.run_bind,ly QA rfl,Result.andThen_ok,Sem.run_pure]
      rw [if_neg (by simp [hlen])]
      rfl
     refine ⟨f2,_,rf.cx,rf.body,hy,?_⟩
     have QB:(rf.ps.zip ys.toArray).foldl (fun tmps (x:Tmp×Value)=>tmps.setIfInBounds x.1 x.2) tmps=kO (rf.ps.toList.zip ys) tmps:=by
      rw [← Df,← Array.foldl_toList];simp
     rw [QB]
     have Bb:(rf.ps.toList.zip ys).map (·.1)=rf.ps.toList:=List.map_fst_zip (by rw [hl,mT];exact Nat.le_refl _)
     have r0:dy false D w0 K0 sz ⟨β,F,I,M.length⟩ ⟨[],rf.ps.toList.zip args++E,M,[],[]⟩ { tmps:=kO (rf.ps.toList.zip ys) tmps,defers:=[] } w:=by
      refine ⟨by rw [Dt,bI],I,rfl,Nat.le_refl _,β,F,Rm,⟨fun _ _ _ h=>h,bL.refl _,fun _ _ _=>rfl⟩,?_⟩
      intro t v iG
      have nK:=lx iG
      show aE _ β v ((kO (rf.ps.toList.zip ys) tmps).getD t undef)
      by_cases ht:t ∈ rf.ps.toList
      ·have hz:(t,v) ∈ rf.ps.toList.zip args:=by
        rcases List.mem_append.1 nK with h1 | h1
        ·exact h1
        ·exact CZ iG (by
          rw [List.map_fst_zip (by omega)];exact ht)
       obtain ⟨y,CA,SN⟩:=JY hz hl kU
       rw [EB _ _ t y (by rw [Bb];exact l4 SL) (fun x hx=>by
        have:x.1 ∈ rf.ps.toList:=by rw [← Bb];exact List.mem_map_of_mem hx
        have:=List.all_eq_true.1 tE _ this
        rw [bI];simpa [Nat.blt_eq] using this) CA]
       exact SN
      ·rcases List.mem_append.1 nK with h1 | h1
       ·exact absurd (by have:=List.mem_map_of_mem (f:=fun x:Nat×AV=>x.1) h1;rwa [List.map_fst_zip (by omega)] at this) ht
       ·rw [xx _ _ _ (by rw [Bb];exact ht)]
        exact hr (t,v) h1
     refine Jh (c2:=c2) fH (iT hT cG hm hK n SM r0 bg fun a1 w1 r1=>aN.Gm ?_)
     obtain ⟨z1,I1,z2,z3,kI,F1,Iz,xj,b6⟩:=r1
     obtain ⟨H1,iV,mU,tX⟩:=Iz.at iY
     have IA:kI[u]?=some (some ⟨l,0,none⟩,c):=xj.1 u _ (by simpa using RL) CW
     cases mU with
     | @lp b1 Ue f1 Uf Hx Ug E1 Uh GV dm RN RO=>
      rw [IA] at dm;cases dm
      refine ⟨_,K3 tX.one rfl,?_⟩
      have RP:=Iz.set iY iV (o':=.loop { state:=.busy,pending:=none,fn:=f2,tmps:=GV,params:=lj.ps,assign:=lj.cx,body:=lj.body,defers:=Hx }) (blk':=.lp .busy f2 rE E2 lj) (.lp (bz:=.busy) (sz:=rE) IA RN RO)
      have SO:dy false D w0 K0 sz ⟨β,F,I,M.length⟩ ⟨s1.vc,s1.E,s1.M.set u (.lp .busy f2 rE E2 lj),u::s1.tc,s1.mv⟩ a1 (ct w1 l (.loop { state:=.busy,pending:=none,fn:=f2,tmps:=GV,params:=lj.ps,assign:=lj.cx,body:=lj.body,defers:=Hx })):=by
       refine ⟨z1,I1,z2,by rw [List.length_set];exact z3,kI,_,RP,⟨xj.1,xj.2.1,fun v iG hn=>?_⟩,b6⟩
       simp only [List.mem_cons,not_or] at hn
       simp only [aS];rw [if_neg hn.1];exact xj.2.2 v iG hn.2
      refine iT hT cG hm hK n iH SO hv fun a2 w2 r2=>aN.Gm ?_
      obtain ⟨y1,I2,y2,y3,iK,F2,IB,xk,gN⟩:=r2
      obtain ⟨H2,fP,mV,mR⟩:=IB.at nY
      have IC:iK[u]?=some (some ⟨l,0,none⟩,c):=xk.1 u _ (by simpa using BO) CW
      cases mV with
      | @lp b2 Ui Uj TW RQ Uk Ul TX QC cH wz Hy=>
       rw [IC] at cH;cases cH
       have RR:=IB.set nY fP (o':=.loop { state:=ls.state,pending:=ls.ji,fn:=f3,tmps:=QC,params:=rF.ps,assign:=rF.cx,body:=rF.body,defers:=RQ }) (blk':=.lp ls f3 xh E3 rF) (.lp (bz:=ls) (sz:=xh) IC wz Hy)
       refine ⟨_,_,MM fH mR.one,iK,_,I2,RR,xk.1,xk.2.1,fun v iG hn=>?_,.d (.v _)⟩
       simp only [List.mem_cons,not_or] at hn
       simp only [aS];rw [if_neg hn.1];exact xk.2.2 v iG hn.2
theorem fo (hT:bp P T=true) (hm:P.follows .mixedOrders=true):∀ d,jS P (walk P T d):=by
 intro d
 induction d with
 | zero=>intro f args M o out h;simp [walk] at h
 | succ d ih=>
  intro f args M o out h
  unfold walk at h
  split at h
  ·exact K4 hT hm ih h
  ·rename_i f n tb
   cases hc:fR P f with
   | false=>simp [hc] at h
   | true=>
    simp only [hc,cond_true] at h
    split at h
    ·rename_i fn hf
     cases hb:Nat.ble args.length fn.ntmps with
     | false=>simp [hb] at h
     | true=>
      simp only [hb,cond_true] at h
      have hle:=Nat.le_of_ble_eq_true hb
      split at h
      ·rename_i c QD
       have key:∀ {todo':List Item} {s:RS},dw P T (walk P T d) fn.ntmps tb n [.code c] ⟨[],gV args 0,M,[],[]⟩=some (todo',s)→o3 T fn.results.toList s=some out→(todo'=[]∨∃ k,todo'=.code .ret::k)→out.rd=none∧Gk P f args M out:=by
        intro todo' s hr he QE
        have eH:out.rd=none:=by
         unfold o3 at he
         split at he
         ·simp only [Option.some.injEq] at he;subst he;rfl
         ·simp at he
        refine ⟨eH,hc,?_⟩
        intro D w0 K0 β F I w ys Rm hK hv hl kU
        have kB:bw s.vc:=by
         unfold o3 at he
         split at he
         ·simp only [Option.some.injEq] at he;subst he;exact hv
         ·simp at he
        refine pO hf QD ?_
        have r0:dy false D w0 K0 fn.ntmps ⟨β,F,I,M.length⟩ ⟨[],gV args 0,M,[],[]⟩ { tmps:=ys.toArray++Array.replicate (fn.ntmps-ys.toArray.size) undef,defers:=[] } w:=by
         refine ⟨by simp;omega,I,rfl,Nat.le_refl _,β,F,Rm,⟨fun _ _ _ h=>h,bL.refl _,fun _ _ _=>rfl⟩,?_⟩
         intro t v iG
         obtain ⟨-,h2⟩:=pV args 0 (t,v) (lx iG)
         simp only [Nat.sub_zero] at h2
         obtain ⟨aK,-⟩:=List.getElem?_eq_some_iff.1 h2
         have iF:ys[t]?=some ys[t]:=List.getElem?_eq_getElem (by omega)
         have he:({ tmps:=ys.toArray++Array.replicate (fn.ntmps-ys.toArray.size) undef,defers:=[] }:Act).eval (.tmp t)=ys[t]:=by
          have:t<ys.length:=by omega
          simp [Act.eval,Array.getD_eq_getD_getElem?,Array.getElem?_append,this]
         rw [he]
         exact kU t v _ h2 iF
        refine iT hT ih hm hK n hr r0 kB fun a' w' r'=>?_
        obtain ⟨-,-,v,h3,h4⟩:=Oc hT he r'
        rcases QE with rfl | ⟨k,rfl⟩
        ·exact aN.fin hf (dy.oV r') h3 ⟨v,rfl,h4⟩
        ·exact aN.ret hf (dy.oV r') h3 ⟨v,rfl,h4⟩
       split at h
       ·rename_i k s hr;exact key hr h (Or.inr ⟨k,rfl⟩)
       ·rename_i s hr;exact key hr h (Or.inl rfl)
       ·simp at h
      ·simp at h
    ·simp at h
  ·simp at h
def Bc (T:aW) (E:List (Nat×AV)) (M:List au) (rs:List ResultVar) (x:DV):Prop:=∃ l vc xs M',jj T E M rs=some l∧mh M l=some (vc,xs,M')∧bw vc∧qX xs=x
theorem ret (hT:bp P T=true) {fn:Func} (hf:P.funcs[f]?=some fn) {k:List Item} {x:DV} (r:ec [] w0 K0 sz E M a w) (h:Bc T E M fn.results.toList x):aN P f (.code .ret::k) (mI w0 K0 x) a w:=
 let ⟨_,_,_,_,h1,h2,h3,h4⟩:=h
 MJ hT hf r h1 h2 h3 h4
theorem fin (hT:bp P T=true) {fn:Func} (hf:P.funcs[f]?=some fn) {x:DV} (r:ec [] w0 K0 sz E M a w) (h:Bc T E M fn.results.toList x):aN P f [] (mI w0 K0 x) a w:=
 let ⟨_,_,_,_,h1,h2,h3,h4⟩:=h
 ML hT hf r h1 h2 h3 h4
theorem aD.empty {k:Nat} {x:DV} {pre post:List AV} (h:∀ a c,aD P f (pre++.d (.v (.slice a 0 c))::post) x):aD P f (pre++.d (.ro k [])::post) x:=by
 refine ⟨(h none 0).1,fun w K ys hK hl hr=>?_⟩
 have hy:∃ a c,ys[pre.length]?=some (.slice a 0 c):=by
  have aK:pre.length<ys.length:=by rw [hl];simp
  have h1:=hr pre.length _ _ (by rw [List.getElem?_append_right (Nat.le_refl _),Nat.sub_self];rfl) (List.getElem?_eq_getElem aK)
  rw [List.getElem?_eq_getElem aK]
  generalize ys[pre.length]=y at h1
  cases h1 with | d h1=>cases h1 with | ro X hl hy hs hr=>obtain ⟨a,c,rfl,-⟩:=hy;exact ⟨a,c,rfl⟩
 obtain ⟨a,c,hy⟩:=hy
 refine (h a c).2 w K ys hK (by rw [hl];simp) fun j v y h1 h2=>?_
 rcases Nat.lt_trichotomy j pre.length with hj | hj | hj
 ·rw [List.getElem?_append_left hj] at h1
  exact hr j v y (by rw [List.getElem?_append_left hj];exact h1) h2
 ·subst hj
  rw [List.getElem?_append_right (Nat.le_refl _),Nat.sub_self] at h1
  simp only [List.getElem?_cons_zero,Option.some.injEq] at h1;subst h1
  rw [hy,Option.some.injEq] at h2;subst h2
  exact .d (.v _)
 ·rw [List.getElem?_append_right (by omega)] at h1
  have e:j-pre.length=(j-pre.length-1)+1:=by omega
  rw [e,List.getElem?_cons_succ] at h1
  exact hr j v y (by rw [List.getElem?_append_right (by omega),e,List.getElem?_cons_succ];exact h1) h2
theorem aD.nil {args:List AV} (T k:Nat) (h:aD P f args (.v (.slice none 0 0))):aD P f args (.em T k []):=by
 refine ⟨h.1,fun w K ys hK hl hr=>(h.2 w K ys hK hl hr).mono ?_⟩
 rintro e w' ⟨v,rfl,g,H,⟨Ho,Hi,rfl,hd⟩,n⟩
 cases hd
 refine ⟨_,rfl,g,_,⟨[],Hi,rfl,?_⟩,n⟩
 have:=bQ.em (K:=fun w=>K w∧az w Hi) (T:=T) (k:=k) (rows:=[]) (H0:=[]) (fun _=>[]) (fun _ _=>[]) (by simp) (by simpa [lay] using eD.nil T k none) (by simp)
 simpa [bW] using this
end Go.Proofs.YtlinpknagdgphaaGreat
namespace Go.Proofs.YtlinpknagdgphaaGreat
open Go.RowKit
variable {mk:Bool} {P:Program} {T:aW} {f:FuncId} {R:eT} {a:Act} {w:World} {D:List Nat} {w0:World} {K0:World→Prop} {E:List (Nat×AV)} {M:List au} {β:Beta} {F:Nat→aA} {I X:aA} {sz:Nat} {tb:da} {todo todo':List Item}
def s9 (T:aW) (rs:List ResultVar) (s:RS):Option (Prop×DV):=
 match jj T s.E s.M rs with
 | some l=>(match mh s.M l with | some (vc,xs,_)=>some (bw (s.vc++vc),qX xs) | none=>none)
 | none=>none
def Gn (P:Program) (T:aW) (sz:Nat) (rs:List ResultVar) (tb:da) (n:Nat) (todo:List Item) (E:List (Nat×AV)) (M:List au):Option (Prop×DV):=
 match dw P T (walk P T 3) sz tb n todo ⟨[],E,M,[],[]⟩ with
 | some (.code .ret::_,s)=>s9 T rs s
 | some ([],s)=>s9 T rs s
 | _=>none
theorem zf {rs:List ResultVar} {s:RS} {A:Prop} {x:DV} (h:s9 T rs s=some (A,x)) (hA:A):bw s.vc∧Bc T s.E s.M rs x:=by
 unfold s9 at h
 split at h
 ·rename_i l hl
  split at h
  ·rename_i vc xs M' hp
   simp only [Option.some.injEq,Prod.mk.injEq] at h
   obtain ⟨rfl,hx⟩:=h
   rw [bw.app] at hA
   exact ⟨hA.1,l,vc,xs,M',hl,hp,hA.2,hx⟩
  ·simp at h
 ·simp at h
theorem aQ (hT:bp P T=true) (hm:P.follows .mixedOrders=true) (hK:∀ w,Kp [] w0 w→K0 w) {fn:Func} (hf:P.funcs[f]?=some fn) (tb:da) (n:Nat) {x:DV} {A:Prop} (r:ec [] w0 K0 sz E M a w)
  (h:Gn P T sz fn.results.toList tb n todo E M=some (A,x)) (hA:A):aN P f todo (mI w0 K0 x) a w:=by
 unfold Gn at h
 split at h
 ·rename_i k s hr
  obtain ⟨h1,h2⟩:=zf h hA
  exact n8 hT (fo hT hm 3) hm hK n hr r h1 fun a' w' r'=>ret hT hf r' h2
 ·rename_i s hr
  obtain ⟨h1,h2⟩:=zf h hA
  exact n8 hT (fo hT hm 3) hm hK n hr r h1 fun a' w' r'=>fin hT hf r' h2
 ·simp at h
theorem ca.kD (r:ca mk D w0 K0 sz E M a w) {l ts:List Nat} {M':List au} {E':List (Nat×AV)} (hn:cC l=true) (hM:eP l M l=some M') (hE:iy l E ts=some E'):ca mk D w0 K0 sz E' M' a w:=by
 obtain ⟨h1,I,h2,β,F,Rm,hs⟩:=r
 obtain ⟨e1,e2⟩:=qf hM
 have aK:∀ u ∈ l,u<M.length:=by
  intro u hu
  obtain ⟨i,hi,rfl⟩:=List.getElem_of_mem hu
  obtain ⟨u',b0,g1,g2,-⟩:=e2 i M'[i] (List.getElem?_eq_getElem (by omega))
  rw [List.getElem?_eq_getElem hi,Option.some.injEq] at g1
  rw [g1];exact eB g2
 obtain ⟨rest,bM⟩:=yr (l4 hn) aK Rm.x
 refine ⟨h1,I,h2,eM β l,mA F l,⟨by rw [uC,e1],?_,?_⟩,y5 hs hE⟩
 ·intro i b hb
  obtain ⟨u,b0,g1,g2,g3⟩:=e2 i b hb
  rw [vg g1];exact vt g1 g3 (Rm.blk u b0 g2)
 ·rw [e1,r9]
  have:=bM.l3
  exact this.perm (by classical rw [List.perm_iff_count];intro z;simp only [List.count_append,List.count_nil];omega)
def oL:Code→List Item→List (List Item)
 | .seq x y,k=>oL x (.code y::k)++oL y k
 | .cond _ x y,k=>oL x k++oL y k
 | .block id c,k=>oL c (.inBlock id::k)
 | .loop c,k=>(.code c::.inLoop c::k)::oL c (.inLoop c::k)
 | _,_=>[]
def hd (fn:Func) (n:Nat):List Item:=
 match fn.body with
 | some c=>(match (oL c [])[n]? with | some t=>t | none=>[])
 | none=>[]
def km (l ts:List Nat) (t:List Item) (s:RS):Option (List Item×Prop×List (Nat×AV)×List au):=
 match eP l s.M l,iy l s.E ts with
 | some M',some E'=>some (t,bw s.vc,E',M')
 | _,_=>none
def GW (P:Program) (T:aW) (sz:Nat) (tb:da) (n:Nat) (l ts:List Nat) (todo:List Item) (E:List (Nat×AV)) (M:List au):Option (List Item×Prop×List (Nat×AV)×List au):=
 bif cC l then (match dw P T (walk P T 3) sz tb n todo ⟨[],E,M,[],[]⟩ with
 | some (.code (.loop c)::k,s)=>km l ts (.code c::.inLoop c::k) s
 | some (.inLoop c::k,s)=>km l ts (.code c::.inLoop c::k) s
 | _=>none) else none
theorem ng {l ts:List Nat} {t t':List Item} {s:RS} {A:Prop} {E':List (Nat×AV)} {M':List au} (h:km l ts t s=some (t',A,E',M')):t=t'∧bw s.vc=A∧eP l s.M l=some M'∧iy l s.E ts=some E':=by
 unfold km at h
 split at h
 ·rename_i h1 h2
  simp only [Option.some.injEq,Prod.mk.injEq] at h
  obtain ⟨rfl,hA,rfl,rfl⟩:=h
  exact ⟨rfl,hA,h1,h2⟩
 ·simp at h
theorem bU (hT:bp P T=true) (hm:P.follows .mixedOrders=true) (hK:∀ w,Kp D w0 w→K0 w) (tb:da) (n:Nat) (l ts:List Nat) {A:Prop} {E':List (Nat×AV)} {M':List au} (r:ca mk D w0 K0 sz E M a w)
  (h:GW P T sz tb n l ts todo E M=some (todo',A,E',M')) (hA:A) (k:∀ a' w',ca mk D w0 K0 sz E' M' a' w'→aN P f todo' R a' w'):aN P f todo R a w:=by
 unfold GW at h
 cases hn:cC l with
 | false=>simp [hn] at h
 | true=>
  simp only [hn,cond_true] at h
  split at h
  ·rename_i c k' s hr
   obtain ⟨rfl,rfl,h3,h4⟩:=ng h
   exact n8 hT (fo hT hm 3) hm hK n hr r hA fun a' w' r'=>aN.loop (k a' w' (r'.kD hn h3 h4))
  ·rename_i c k' s hr
   obtain ⟨rfl,rfl,h3,h4⟩:=ng h
   exact n8 hT (fo hT hm 3) hm hK n hr r hA fun a' w' r'=>aN.again (k a' w' (r'.kD hn h3 h4))
  ·simp at h
end Go.Proofs.YtlinpknagdgphaaGreat
namespace Go.Proofs.YtlinpknagdgphaaGreat
open Go.RowKit
def tb:aW:=[
 (3,⟨.it .i64,1,8,[.int .i64 0]⟩),
 (24,⟨.sr [0,1] [3,22],2,16,[.int .i64 0,.int .u64 0]⟩),
 (29,⟨.sl 24,1,24,[.slice none 0 0]⟩),
 (25,⟨.sl 3,1,24,[.slice none 0 0]⟩),
 (31,⟨.sr [0,2,3] [24,22,29],4,48,[.int .i64 0,.int .u64 0,.int .u64 0,.slice none 0 0]⟩),
 (33,⟨.sr [0,1,3,4,5,6] [3,24,3,27,28,31],10,128,[.int .i64 0,.int .i64 0,.int .u64 0,.int .i64 0,.slice none 0 0,.slice none 0 0,.int .i64 0,.int .u64 0,.int .u64 0,.slice none 0 0]⟩),
 (46,⟨.sr [0,1,2] [42,43,44],3,72,[.slice none 0 0,.slice none 0 0,.slice none 0 0]⟩),
 (58,⟨.sr [0,1,2,3] [3,22,22,22],4,32,[.int .i64 0,.int .u64 0,.int .u64 0,.int .u64 0]⟩),
 (38,⟨.pl,1,8,[.pointer none]⟩),
 (60,⟨.sr [0,1] [3,33],11,136,[.int .i64 0,.int .i64 0,.int .i64 0,.int .u64 0,.int .i64 0,.slice none 0 0,.slice none 0 0,.int .i64 0,.int .u64 0,.int .u64 0,.slice none 0 0]⟩),
 (62,⟨.sr [0,1,3] [3,24,29],4,48,[.int .i64 0,.int .i64 0,.int .u64 0,.slice none 0 0]⟩),
 (42,⟨.sl 60,1,24,[.slice none 0 0]⟩),
 (22,⟨.it .u64,1,8,[.int .u64 0]⟩),
 (27,⟨.sl 58,1,24,[.slice none 0 0]⟩),
 (68,⟨.sl 31,1,24,[.slice none 0 0]⟩),
 (70,⟨.sr [0,2,3,4,5] [24,25,3,68,67],6,80,[.int .i64 0,.int .u64 0,.slice none 0 0,.int .i64 0,.slice none 0 0,.map none]⟩),
 (44,⟨.sl 62,1,24,[.slice none 0 0]⟩),
 (36,⟨.sr [0,1,3,4] [3,24,3,33],14,160,[.int .i64 0,.int .i64 0,.int .u64 0,.int .i64 0,.int .i64 0,.int .i64 0,.int .u64 0,.int .i64 0,.slice none 0 0,.slice none 0 0,.int .i64 0,.int .u64 0,.int .u64 0,.slice none 0 0]⟩),
 (5,⟨.it .u8,1,1,[.int .u8 0]⟩),
 (28,⟨.sl 5,1,24,[.slice none 0 0]⟩),
 (111,⟨.pl,1,8,[.nilFunc]⟩),
 (141,⟨.it .u64,1,8,[.int .u64 0]⟩),
 (43,⟨.sl 33,1,24,[.slice none 0 0]⟩),
 (145,⟨.pl,1,8,[.pointer none]⟩),
 (67,⟨.mp 3 24,1,8,[.map none]⟩),
 (26,⟨.sl 36,1,24,[.slice none 0 0]⟩),
 (92,⟨.mp 24 3,1,8,[.map none]⟩),
 (88,⟨.sr [0,1] [3,27],2,32,[.int .i64 0,.slice none 0 0]⟩),
 (116,⟨.it .u64,1,8,[.int .u64 0]⟩),
 (99,⟨.mp 3 27,1,8,[.map none]⟩),
 (106,⟨.ar 5 31,20,240,[.int .i64 0,.int .u64 0,.int .u64 0,.slice none 0 0,.int .i64 0,.int .u64 0,.int .u64 0,.slice none 0 0,.int .i64 0,.int .u64 0,.int .u64 0,.slice none 0 0,.int .i64 0,.int .u64 0,.int .u64 0,.slice none 0 0,.int .i64 0,.int .u64 0,.int .u64 0,.slice none 0 0]⟩),
 (84,⟨.sl 88,1,24,[.slice none 0 0]⟩),
 (4,⟨.pl,1,1,[.bool false]⟩),
 (9,⟨.st,1,16,[.string .empty]⟩),
 (103,⟨.pl,1,8,[.nilFunc]⟩),
 (131,⟨.it .u32,1,4,[.int .u32 0]⟩),
 (82,⟨.pl,1,8,[.nilFunc]⟩),
 (86,⟨.pl,1,8,[.nilFunc]⟩),
 (117,⟨.pl,1,8,[.nilFunc]⟩)]
theorem tk:bp Tryz.prog tb=true:=by kernel_rfl
theorem tq:Tryz.prog.follows .mixedOrders=true:=by kernel_rfl
end Go.Proofs.YtlinpknagdgphaaGreat
namespace Go.Proofs.YtlinpknagdgphaaGreat
open Go.RowKit
variable {P:Program}
theorem U {a b:Prop} (h:a) (k:b):a∧b:=⟨h,k⟩
theorem bv {a b:Bool} (h:a=b):DV.v (.bool a)=.v (.bool b):=by rw [h]
theorem wi {x y:Int} (h:x=y ∧ -9223372036854775808≤y∧y<9223372036854775808):IntKind.i64.wrap x=y:=by
 obtain ⟨rfl,h1,h2⟩:=h;simp [IntKind.wrap,IntKind.signed,IntKind.bits];omega
theorem wu {x y:Int} (h:x=y∧0≤y∧y<18446744073709551616):IntKind.u64.wrap x=y:=by
 obtain ⟨rfl,h1,h2⟩:=h;simp [IntKind.wrap,IntKind.signed,IntKind.bits];omega
theorem ne_of_beq_false {a b:Int} (h:(a==b)=false):a≠b:=by intro e;subst e;simp at h
theorem gK {a b:Int} (h:(a != b)=false):a=b:=by simpa [bne] using h
theorem DZ {t:TypeId} {k:IntKind} {a b:Int} (w:World) (d:Nat) (ht:P.underlying t=some (.int k)):(Op.equalIn (d+1) t (.int k a) (.int k b)).run P w=.ok (a==b) w:=by
 simp [Op.equalIn,Sem.run_bind,run_underlying ht]
theorem K5 {d:Nat} {t:TypeId} {f0 f1:Field} (hu:P.underlying t=some (.struct #[f0,f1])) (hs:P.stoodInHeld t=false) (n0:f0.name ≠ "_") (n1:f1.name ≠ "_") {w:World} {xs ys:Array Value} {x0 y0 x1 y1:Value} {c0 c1:Bool}
  (p0:(part f0.type xs f0.offset).run P w=.ok x0 w) (q0:(part f0.type ys f0.offset).run P w=.ok y0 w) (p1:(part f1.type xs f1.offset).run P w=.ok x1 w) (q1:(part f1.type ys f1.offset).run P w=.ok y1 w)
  (e0:(Op.equalIn d f0.type x0 y0).run P w=.ok c0 w) (e1:(Op.equalIn d f1.type x1 y1).run P w=.ok c1 w):(Op.equalIn (d+1) t (.agg xs) (.agg ys)).run P w=.ok (c0&&c1) w:=by
 rw [Op.equalIn]
 simp [Sem.run_bind,run_underlying hu,hs,n0,n1,p0,q0,e0]
 cases c0<;>simp [Sem.run_bind,p1,q1,e1]
 cases c1<;>simp
theorem cN (x:DV):x=x:=rfl
theorem cQ (n:Nat):n=n:=rfl
theorem aX (n:Int):n=n:=rfl
end Go.Proofs.YtlinpknagdgphaaGreat
namespace Go.Proofs.YtlinpknagdgphaaGreat
open Go.RowKit
variable {mk:Bool} {P:Program} {T:aW} {f:FuncId} {R:eT} {a:Act} {w:World} {D:List Nat} {w0:World} {K0:World→Prop} {E:List (Nat×AV)} {M:List au} {β:Beta} {F:Nat→aA} {I X:aA} {sz:Nat} {tb:da} {todo todo':List Item} {b:dH}
def bX (mk:Bool) (D:List Nat) (w0:World) (K0:World→Prop) (sz:Nat) (b:dH) (E:List (Nat×AV)) (M:List au) (a:Act) (w:World):Prop:=
 b.β.length=b.m∧∃ tc,dy mk D w0 K0 sz b ⟨[],E,M,tc,[]⟩ a w
abbrev RB (D:List Nat) (w0:World) (K0:World→Prop) (sz:Nat) (b:dH) (E:List (Nat×AV)) (M:List au) (a:Act) (w:World):Prop:=bX false D w0 K0 sz b E M a w
def Bd (D:List Nat) (w0:World) (K0:World→Prop) (b:dH) (x:AV) (M':List au):Ending→World→Prop:=
 fun e w'=>∃ v,e=.returned v∧∃ aF F' I',RM D w0 K0 M' aF F' I' w'∧Ext b.β aF∧bL b.I I'∧aE (fun w=>K0 w∧az w I') aF x v
abbrev qY (D:List Nat) (w0:World) (K0:World→Prop) (b:dH) (x:AV) (M':List au):eT:=.ends (Bd D w0 K0 b x M')
theorem aL.intro {fn:Func} {c:Code} {args:List AV} {x:AV} {M':List au} (iQ:fR P f=true) (hf:P.funcs[f]?=some fn) (hb:fn.body=some c) (n:Nat) (hn:fn.ntmps=n) (hle:Nat.ble args.length n=true)
  (h:∀ (D:List Nat) (w0:World) (K0:World→Prop) (b:dH) (a:Act) (w:World),(∀ w,Kp D w0 w→K0 w)→b.m=M.length→RB D w0 K0 n b (gV args 0) M a w→aN P f [.code c] (qY D w0 K0 b x M') a w):aL P f args M x M':=by
 refine ⟨iQ,?_⟩
 intro D w0 K0 β F I w ys Rm hK hl hr
 have hle:=Nat.le_of_ble_eq_true hle
 refine pO hf hb (h D w0 K0 ⟨β,F,I,M.length⟩ _ w hK rfl ⟨Rm.len,[],by simp;omega,I,rfl,Nat.le_refl _,β,F,Rm,⟨fun _ _ _ h=>h,bL.refl _,fun _ _ _=>rfl⟩,?_⟩)
 intro t v hv
 obtain ⟨y,rfl,rfl,hy⟩:∃ y:Nat×AV,y.1=t∧y.2=v∧y ∈ gV args 0:=⟨(t,v),rfl,rfl,lx hv⟩
 obtain ⟨-,h2⟩:=pV args 0 y hy
 simp only [Nat.sub_zero] at h2
 obtain ⟨aK,-⟩:=List.getElem?_eq_some_iff.1 h2
 have iF:ys[y.1]?=some ys[y.1]:=List.getElem?_eq_getElem (by omega)
 have he:({ tmps:=ys.toArray++Array.replicate (fn.ntmps-ys.toArray.size) undef,defers:=[] }:Act).eval (.tmp y.1)=ys[y.1]:=by
  have:y.1<ys.length:=by omega
  simp [Act.eval,Array.getD_eq_getD_getElem?,Array.getElem?_append,this]
 rw [he]
 exact hr y.1 y.2 _ h2 iF
def fJ (m:Nat) (l:List Nat):Bool:=(List.range m).all fun i=>match l[i]? with | some u=>u.beq i | none=>false
theorem Du {m:Nat} {l:List Nat} (h:fJ m l=true) {i:Nat} (hi:i<m):l[i]?=some i:=by
 have:=List.all_eq_true.1 h i (List.mem_range.2 hi)
 split at this
 ·rename_i u hu;rw [hu,Nat.eq_of_beq_eq_true this]
 ·simp at this
def ff (m:Nat) (mv:List Nat):Bool:=mv.all fun u=>Nat.ble m u
theorem Od {m:Nat} {mv:List Nat} (h:ff m mv=true) {u:Nat} (hu:u<m):u ∉ mv:=fun hm=>by
 have:=Nat.le_of_ble_eq_true (List.all_eq_true.1 h u hm);omega
theorem D0 {l:List Nat} {M':List au} (hn:cC l=true) (hM:eP l M l=some M') (Rm:RM D w0 K0 M β F I w):RM D w0 K0 M' (eM β l) (mA F l) I w:=by
 obtain ⟨e1,e2⟩:=qf hM
 have aK:∀ u ∈ l,u<M.length:=by
  intro u hu
  obtain ⟨i,hi,rfl⟩:=List.getElem_of_mem hu
  obtain ⟨u',b0,g1,g2,-⟩:=e2 i M'[i] (List.getElem?_eq_getElem (by omega))
  rw [List.getElem?_eq_getElem hi,Option.some.injEq] at g1
  rw [g1];exact eB g2
 obtain ⟨rest,bM⟩:=yr (l4 hn) aK Rm.x
 refine ⟨by rw [uC,e1],?_,?_⟩
 ·intro i b hb
  obtain ⟨u,b0,g1,g2,g3⟩:=e2 i b hb
  rw [vg g1];exact vt g1 g3 (Rm.blk u b0 g2)
 ·rw [e1,r9]
  have:=bM.l3
  exact this.perm (by classical rw [List.perm_iff_count];intro z;simp only [List.count_append,List.count_nil];omega)
theorem Fy {l mv tc:List Nat} (hb:b.β.length=b.m) (hs:fJ b.m l=true) (hf:ff b.m mv=true) (h:nD b mv tc β F I):Ext b.β (eM β l):=by
 intro u x hx
 have hu:u<b.m:=by rw [← hb];exact (List.getElem?_eq_some_iff.1 hx).1
 exact fy (Du hs hu) (h.1 u x (Od hf hu) hx)
theorem dy.kD {s:RS} (hb:b.β.length=b.m) (r:dy mk D w0 K0 sz b s a w) {l ts:List Nat} {M':List au} {E':List (Nat×AV)} (hn:cC l=true) (hs:fJ b.m l=true) (hf:ff b.m s.mv=true) (hM:eP l s.M l=some M') (hE:iy l s.E ts=some E'):bX mk D w0 K0 sz b E' M' a w:=by
 obtain ⟨h1,I,h2,h3,β,F,Rm,aT,dL⟩:=r
 refine ⟨hb,List.range b.m,h1,I,h2,?_,eM β l,mA F l,D0 hn hM Rm,⟨(Fy hb hs hf aT).b _,aT.2.1,fun u hu hn=>absurd (List.mem_range.2 hu) hn⟩,y5 dL hE⟩
 rw [(qf hM).1]
 rcases Nat.lt_or_ge l.length b.m with hl | hl
 ·have:=Du hs (i:=l.length) hl
  rw [List.getElem?_eq_none (Nat.le_refl _)] at this;cases this
 ·exact hl
def Gp (P:Program) (T:aW) (sz:Nat) (m:Nat) (tb:da) (n:Nat) (l ts:List Nat) (todo:List Item) (E:List (Nat×AV)) (M:List au):Option (List Item×Prop×List (Nat×AV)×List au):=
 bif cC l&&fJ m l then (match dw P T (walk P T 3) sz tb n todo ⟨[],E,M,[],[]⟩ with
 | some (.code (.loop c)::k,s)=>bif ff m s.mv then km l ts (.code c::.inLoop c::k) s else none
 | some (.inLoop c::k,s)=>bif ff m s.mv then km l ts (.code c::.inLoop c::k) s else none
 | _=>none) else none
theorem bX.re (r:bX mk D w0 K0 sz b E M a w):∃ b',dy mk D w0 K0 sz b' ⟨[],E,M,[],[]⟩ a w∧b'.β.length=b.m∧Ext b.β b'.β∧bL b.I b'.I∧b'.m=b.m:=by
 obtain ⟨hb,tc,h1,I,h2,h3,β,F,Rm,aT,dL⟩:=r
 refine ⟨⟨β.take b.m,F,I,b.m⟩,⟨h1,I,h2,h3,β,F,Rm,⟨fun u x _ hx=>?_,bL.refl _,fun _ _ _=>rfl⟩,dL⟩,?_,fun u x hx=>?_,aT.2.1,rfl⟩
 ·rw [List.getElem?_take] at hx
  split at hx
  ·exact hx
  ·simp at hx
 ·rw [List.length_take,Rm.len];have Um:b.m≤M.length:=h3;omega
 ·have hu:u<b.m:=by rw [← hb];exact (List.getElem?_eq_some_iff.1 hx).1
  rw [List.getElem?_take,if_pos hu]
  exact aT.1 u x (by simp) hx
theorem bX.from {b':dH} (aB:b'.m=b.m) (hb:b.β.length=b.m) (hE:Ext b.β b'.β) (hG:bL b.I b'.I) (r:bX mk D w0 K0 sz b' E M a w):bX mk D w0 K0 sz b E M a w:=by
 obtain ⟨-,tc,h1,I,h2,h3,β,F,Rm,aT,dL⟩:=r
 refine ⟨hb,List.range b.m,h1,I,h2,by rw [← aB];exact h3,β,F,Rm,⟨fun u x _ hx=>aT.1 u x (by simp) (hE u x hx),hG.trans aT.2.1,fun u hu hn=>absurd (List.mem_range.2 hu) hn⟩,dL⟩
theorem b8 (hT:bp P T=true) (hm:P.follows .mixedOrders=true) (hK:∀ w,Kp D w0 w→K0 w) {m:Nat} (aB:b.m=m) (tb:da) (n:Nat) (l ts:List Nat) {A:Prop} {E':List (Nat×AV)} {M':List au} (r:bX mk D w0 K0 sz b E M a w)
  (h:Gp P T sz m tb n l ts todo E M=some (todo',A,E',M')) (hA:A) (k:∀ a' w',bX mk D w0 K0 sz b E' M' a' w'→aN P f todo' R a' w'):aN P f todo R a w:=by
 subst aB
 have hb:=r.1
 obtain ⟨b',rb,aV,hE,hG,c7⟩:=r.re
 unfold Gp at h
 cases hn:(cC l&&fJ b.m l) with
 | false=>simp [hn] at h
 | true=>
  simp only [hn,cond_true] at h
  simp only [Bool.and_eq_true] at hn
  have key:∀ {s:RS} {a':Act} {w':World} {M':List au} {E':List (Nat×AV)},ff b.m s.mv=true→eP l s.M l=some M'→iy l s.E ts=some E'→dy mk D w0 K0 sz b' s a' w'→bX mk D w0 K0 sz b E' M' a' w':=fun hf h3 h4 r'=>
   bX.from c7 hb hE hG (r'.kD (by rw [aV,c7]) hn.1 (by rw [c7];exact hn.2) (by rw [c7];exact hf) h3 h4)
  split at h
  ·rename_i c k' s hr
   cases hf:ff b.m s.mv with
   | false=>simp [hf] at h
   | true=>
    simp only [hf,cond_true] at h
    obtain ⟨rfl,rfl,h3,h4⟩:=ng h
    exact iT hT (fo hT hm 3) hm hK n hr rb hA fun a' w' r'=>aN.loop (k a' w' (key hf h3 h4 r'))
  ·rename_i c k' s hr
   cases hf:ff b.m s.mv with
   | false=>simp [hf] at h
   | true=>
    simp only [hf,cond_true] at h
    obtain ⟨rfl,rfl,h3,h4⟩:=ng h
    exact iT hT (fo hT hm 3) hm hK n hr rb hA fun a' w' r'=>aN.again (k a' w' (key hf h3 h4 r'))
  ·simp at h
def qZ (T:aW) (m:Nat) (bP:List Nat) (rs:List ResultVar) (s:RS):Option (Prop×AV×List au):=
 bif cC bP&&fJ m bP&&ff m s.mv then (match jj T s.E s.M rs with
 | some l=>(match eP bP s.M bP,wK bP (BN l) with
  | some M',some x=>some (bw s.vc,x,M')
  | _,_=>none)
 | none=>none) else none
def FA (P:Program) (T:aW) (sz:Nat) (m:Nat) (rs:List ResultVar) (tb:da) (n:Nat) (bP:List Nat) (todo:List Item) (E:List (Nat×AV)) (M:List au):Option (Prop×AV×List au):=
 match dw P T (walk P T 3) sz tb n todo ⟨[],E,M,[],[]⟩ with
 | some (.code .ret::_,s)=>qZ T m bP rs s
 | some ([],s)=>qZ T m bP rs s
 | _=>none
theorem bC (hT:bp P T=true) (hm:P.follows .mixedOrders=true) (hK:∀ w,Kp D w0 w→K0 w) {fn:Func} (hf:P.funcs[f]?=some fn) {m:Nat} (aB:b.m=m) (tb:da) (n:Nat) (bP:List Nat) {x:AV} {M':List au} {A:Prop} (r:RB D w0 K0 sz b E M a w)
  (h:FA P T sz m fn.results.toList tb n bP todo E M=some (A,x,M')) (hA:A):aN P f todo (qY D w0 K0 b x M') a w:=by
 subst aB
 have hb:=r.1
 obtain ⟨b',rb,aV,hE,hG,c7⟩:=r.re
 have key:∀ {s:RS} {a':Act} {w':World},qZ T b.m bP fn.results.toList s=some (A,x,M')→dy false D w0 K0 sz b' s a' w'→bw s.vc=A∧∃ v,(results fn a'.tmps).run P w'=.ok v w'∧Bd D w0 K0 b x M' (.returned v) w':=by
  intro s a' w' fD r'
  unfold qZ at fD
  cases hc:(cC bP&&fJ b.m bP&&ff b.m s.mv) with
  | false=>simp only [hc,cond_false,reduceCtorEq] at fD
  | true=>
   simp only [hc,cond_true] at fD
   simp only [Bool.and_eq_true] at hc
   split at fD
   ·rename_i l hl
    split at fD
    ·rename_i M1 x1 hM hx
     simp only [Option.some.injEq,Prod.mk.injEq] at fD
     obtain ⟨tY,rfl,rfl⟩:=fD
     refine ⟨tY,?_⟩
     obtain ⟨-,I,-,-,β,F,Rm,aT,hs⟩:=r'
     obtain ⟨ys,e1,e2,e3⟩:=oK hT Rm hs hl
     refine ⟨_,si rfl e1,_,rfl,eM β bP,mA F bP,I,D0 hc.1.1 hM Rm,?_,hG.trans aT.2.1,Ff hx ?_⟩
     ·have:=Fy (b:=b') (by rw [aV,c7]) (by rw [c7];exact hc.1.2) (by rw [c7];exact hc.2) aT
      exact fun u q hq=>this u q (hE u q hq)
     ·match ys,l,e2,e3 with
      | [],[],_,_=>exact .tu [] rfl (by simp)
      | [y],[v],_,e3=>exact e3 0 v y rfl rfl
      | y::y'::ys,v::v'::l,e2,e3=>exact .tu _ e2 e3
    ·simp at fD
   ·simp at fD
 unfold FA at h
 have dj:∀ {s:RS},qZ T b.m bP fn.results.toList s=some (A,x,M')→bw s.vc:=by
  intro s fD
  unfold qZ at fD
  cases hc:(cC bP&&fJ b.m bP&&ff b.m s.mv) with
  | false=>simp only [hc,cond_false,reduceCtorEq] at fD
  | true=>
   simp only [hc,cond_true] at fD
   split at fD
   ·split at fD
    ·simp only [Option.some.injEq,Prod.mk.injEq] at fD
     rw [fD.1];exact hA
    ·simp at fD
   ·simp at fD
 split at h
 ·rename_i k s hr
  refine iT hT (fo hT hm 3) hm hK n hr rb (dj h) fun a' w' r'=>?_
  obtain ⟨-,v,h1,h2⟩:=key h r'
  exact aN.ret hf (dy.oV r') h1 h2
 ·rename_i s hr
  refine iT hT (fo hT hm 3) hm hK n hr rb (dj h) fun a' w' r'=>?_
  obtain ⟨-,v,h1,h2⟩:=key h r'
  exact aN.fin hf (dy.oV r') h1 h2
 ·simp at h
theorem bB {x y:AV} {N N':List au} {todo:List Item} (e1:x=y) (e2:N=N') (h:aN P f todo (qY D w0 K0 b y N') a w):aN P f todo (qY D w0 K0 b x N) a w:=e1▸e2▸h
end Go.Proofs.YtlinpknagdgphaaGreat
namespace Go.Proofs.YtlinpknagdgphaaGreat
open Go.RowKit
variable {mk:Bool} {P:Program} {T:aW} {f:FuncId} {R:eT} {a:Act} {w:World} {D:List Nat} {w0:World} {K0:World→Prop} {E E1:List (Nat×AV)} {M M1 M2:List au} {β:Beta} {F:Nat→aA} {I X:aA} {sz:Nat} {b:dH}
theorem RM.nil (h:RM D w0 K0 M β F I w) (T k:Nat):RM D w0 K0 (M++[.rw T k []]) (β++[(none,0)]) (aS F M.length []) I w:=by
 refine h.new (Gr.refl w) (dG.nil w w) ?_
 have:bK (fun w=>K0 w∧az w I) (β++[(none,0)]) M.length (.rw T k []) ([]++bW ([]:List (List DV)).length k fun _ _=>[]):=
  .rw (c:=0) (a:=none) (by rw [List.getElem?_append_right (by rw [h.len];exact Nat.le_refl _),h.len];simp) (fun _=>[]) (fun _ _=>[]) (by simp) (by simpa [lay] using eD.nil T k none) (by simp)
 simpa [bW] using this
theorem RM.cells (h:RM D w0 K0 M β F I w) {u Tb:Nat} {cells cells':List AV} (hu:M[u]?=some (.bx Tb cells)) (hl:cells'.length=cells.length)
  (hc:∀ (j:Nat) c c0 y,cells'[j]?=some c→cells[j]?=some c0→aE (fun w=>K0 w∧az w I) β c0 y→aE (fun w=>K0 w∧az w I) β c y):RM D w0 K0 (M.set u (.bx Tb cells')) β F I w where
 len:=by rw [h.len,List.length_set]
 blk:=by
  intro v bl hv
  rw [List.getElem?_set] at hv
  split at hv
  ·rename_i xl;subst xl
   split at hv
   ·simp only [Option.some.injEq] at hv;subst hv
    have hr:=h.blk _ _ hu
    generalize F _=H at hr ⊢
    cases hr with
    | bx hb ys dI hr=>
     refine .bx hb ys (by omega) fun j c y h1 h2=>?_
     have hj:j<cells.length:=by rw [← hl];exact (List.getElem?_eq_some_iff.1 h1).1
     exact hc j c _ y h1 (List.getElem?_eq_getElem hj) (hr j _ y (List.getElem?_eq_getElem hj) h2)
   ·cases hv
  ·exact h.blk v bl hv
 st:=by rw [List.length_set];exact h.st
def o4 (E:List (Nat×AV)) (t:Nat) (v:AV):List (Nat×AV):=E.map fun x=>bif x.1.beq t then (x.1,v) else x
theorem vz {t:Nat} {v:AV}:∀ {E:List (Nat×AV)} {s:Nat} {u:AV},bO (o4 E t v) s=some u→(s=t∧u=v∧∃ u0,bO E t=some u0)∨(s≠t∧bO E s=some u)
 | [],s,u,h=>by simp [o4,bO] at h
 | (k,x)::r,s,u,h=>by
  have ih:=vz (t:=t) (v:=v) (E:=r) (s:=s) (u:=u)
  unfold o4 at ih h
  rw [List.map_cons] at h
  cases hk:k.beq t with
  | true=>
   have SP:=Nat.eq_of_beq_eq_true hk;subst SP
   simp only [Nat.beq_refl,cond_true,bO] at h ⊢
   cases hs:k.beq s with
   | true=>
    have:=Nat.eq_of_beq_eq_true hs;subst this
    rw [hs,cond_true,Option.some.injEq] at h
    exact Or.inl ⟨rfl,h.symm,x,rfl⟩
   | false=>
    rw [hs,cond_false] at h
    rcases ih h with ⟨rfl,-,-⟩ | h2
    ·rw [Nat.beq_refl] at hs;cases hs
    ·exact Or.inr h2
  | false=>
   simp only [hk,cond_false,bO] at h ⊢
   cases hs:k.beq s with
   | true=>
    have:=Nat.eq_of_beq_eq_true hs;subst this
    rw [hs,cond_true] at h
    refine Or.inr ⟨?_,h⟩
    rintro rfl;rw [Nat.beq_refl] at hk;cases hk
   | false=>
    rw [hs,cond_false] at h
    exact ih h
def rG:List (Nat×Nat×Nat)→List (Nat×AV)→List au→Option (List (Nat×AV)×List au)
 | [],E,M=>some (E,M)
 | (t,T,k)::r,E,M=>match bO E t with
  | some (.d (.v (.slice none 0 0)))=>rG r (o4 E t (.sl M.length 0)) (M++[.rw T k []])
  | _=>none
def rH:List (Nat×Nat×Nat×Nat)→List au→Option (List au)
 | [],M=>some M
 | (u,o,T,k)::r,M=>match M[u]? with
  | some (.bx Tb cells)=>(match cells[o]? with
   | some (.d (.v (.slice none 0 0)))=>rH r ((M++[au.rw T k []]).set u (.bx Tb (cells.set o (.sl M.length 0))))
   | _=>none)
  | _=>none
theorem Gq (h:RM D w0 K0 M β F I w):(β++[((none:Option Addr),0)])[M.length]?=some (none,0):=by rw [List.getElem?_append_right (by rw [h.len];exact Nat.le_refl _),h.len];simp
theorem Ac {ev:Nat→Value} {n:Nat}:∀ {ls:List (Nat×Nat×Nat)} {E:List (Nat×AV)} {M:List au} {β:Beta} {F:Nat→aA},rG ls E M=some (E1,M1)→n≤M.length→RM D w0 K0 M β F I w→(∀ t v,bO E t=some v→aE (fun w=>K0 w∧az w I) β v (ev t))→
  ∃ aF F',RM D w0 K0 M1 aF F' I w∧Ext β aF∧(∀ u,u<n→F' u=F u)∧n≤M1.length∧∀ t v,bO E1 t=some v→aE (fun w=>K0 w∧az w I) aF v (ev t)
 | [],E,M,β,F,h,hn,hR,hs=>by
  simp only [rG,Option.some.injEq,Prod.mk.injEq] at h;obtain ⟨rfl,rfl⟩:=h
  exact ⟨β,F,hR,fun _ _ h=>h,fun _ _=>rfl,hn,hs⟩
 | (t,T,k)::r,E,M,β,F,h,hn,hR,hs=>by
  unfold rG at h
  split at h
  ·rename_i ht
   obtain ⟨aF,F',h1,h2,h3,h4,h5⟩:=Ac h (n:=n) (ev:=ev) (by simp;omega) (hR.nil T k) fun s v hv=>by
    rcases vz hv with ⟨rfl,rfl,-⟩ | ⟨-,h2⟩
    ·have:=hs s _ ht
     generalize ev s=y at this
     cases this with | d h=>cases h;exact .sl (Gq hR)
    ·exact (hs s v h2).mono (fun _ h=>h) (Ext.app β [((none:Option Addr),0)])
   exact ⟨aF,F',h1,fun u x hx=>h2 u x (Ext.app β [((none:Option Addr),0)] u x hx),fun u hu=>(h3 u hu).trans (kJ (tc:=[]) F [] u (by omega) (by simp)),h4,h5⟩
  ·cases h
theorem Ad {ev:Nat→Value} {n:Nat}:∀ {lc:List (Nat×Nat×Nat×Nat)} {M:List au} {β:Beta} {F:Nat→aA},rH lc M=some M1→n≤M.length→RM D w0 K0 M β F I w→(∀ t v,bO E t=some v→aE (fun w=>K0 w∧az w I) β v (ev t))→
  ∃ aF F',RM D w0 K0 M1 aF F' I w∧Ext β aF∧(∀ u,u<n→F' u=F u)∧n≤M1.length∧∀ t v,bO E t=some v→aE (fun w=>K0 w∧az w I) aF v (ev t)
 | [],M,β,F,h,hn,hR,hs=>by
  simp only [rH,Option.some.injEq] at h;subst h
  exact ⟨β,F,hR,fun _ _ h=>h,fun _ _=>rfl,hn,hs⟩
 | (u,o,T,k)::r,M,β,F,h,hn,hR,hs=>by
  unfold rH at h
  split at h
  ·rename_i Tb cells hu
   split at h
   ·rename_i ho
    have SQ:=hR.nil T k
    have SR:=SQ.cells (cells':=cells.set o (.sl M.length 0)) (by rw [List.getElem?_append_left (List.getElem?_eq_some_iff.1 hu).1];exact hu) (by simp) fun j c c0 y h1 h2 h3=>by
     rw [List.getElem?_set] at h1
     split at h1
     ·rename_i hj;subst hj
      split at h1
      ·simp only [Option.some.injEq] at h1;subst h1
       rw [ho,Option.some.injEq] at h2;subst h2
       cases h3 with | d h=>cases h;exact .sl (Gq hR)
      ·cases h1
     ·rw [h1,Option.some.injEq] at h2;subst h2;exact h3
    obtain ⟨aF,F',h1,h2,h3,h4,h5⟩:=Ad h (n:=n) (ev:=ev) (by simp;omega) SR fun s v hv=>(hs s v hv).mono (fun _ h=>h) (Ext.app β [((none:Option Addr),0)])
    exact ⟨aF,F',h1,fun u x hx=>h2 u x (Ext.app β [((none:Option Addr),0)] u x hx),fun u hu=>(h3 u hu).trans (kJ (tc:=[]) F [] u (by omega) (by simp)),h4,h5⟩
   ·cases h
  ·cases h
theorem ca.gW (r:ca mk D w0 K0 sz E M a w) (ls:List (Nat×Nat×Nat)) (lc:List (Nat×Nat×Nat×Nat)) (h:rG ls E M=some (E1,M1)) (h2:rH lc M1=some M2):ca mk D w0 K0 sz E1 M2 a w:=by
 obtain ⟨g1,I,g2,β,F,hR,hs⟩:=r
 obtain ⟨kI,F1,r1,-,-,-,s1⟩:=Ac (ev:=fun t=>a.eval (.tmp t)) (n:=0) h (Nat.zero_le _) hR hs
 obtain ⟨iK,F2,r2,-,-,-,s2⟩:=Ad (ev:=fun t=>a.eval (.tmp t)) (n:=0) h2 (Nat.zero_le _) r1 s1
 exact ⟨g1,I,g2,iK,F2,r2,s2⟩
theorem ca.cast {E':List (Nat×AV)} {M':List au} (r:ca mk D w0 K0 sz E M a w) (hE:E=E') (hM:M=M'):ca mk D w0 K0 sz E' M' a w:=hE▸hM▸r
theorem bX.cast {E':List (Nat×AV)} {M':List au} (r:bX mk D w0 K0 sz b E M a w) (hE:E=E') (hM:M=M'):bX mk D w0 K0 sz b E' M' a w:=hE▸hM▸r
theorem bX.gW (r:bX mk D w0 K0 sz b E M a w) (ls:List (Nat×Nat×Nat)) (lc:List (Nat×Nat×Nat×Nat)) (h:rG ls E M=some (E1,M1)) (h2:rH lc M1=some M2):bX mk D w0 K0 sz b E1 M2 a w:=by
 obtain ⟨hb,tc,g1,I,g2,g3,β,F,hR,aT,hs⟩:=r
 obtain ⟨kI,F1,r1,e1,f1,l1,s1⟩:=Ac (ev:=fun t=>a.eval (.tmp t)) (n:=b.m) h g3 hR hs
 obtain ⟨iK,F2,r2,e2,f2,l2,s2⟩:=Ad (ev:=fun t=>a.eval (.tmp t)) (n:=b.m) h2 l1 r1 s1
 exact ⟨hb,tc,g1,I,g2,l2,iK,F2,r2,⟨fun u x hu hx=>e2 u x (e1 u x (aT.1 u x hu hx)),aT.2.1,fun u hu hn=>(f2 u hu).trans ((f1 u hu).trans (aT.2.2 u hu hn))⟩,s2⟩
end Go.Proofs.YtlinpknagdgphaaGreat
namespace Go.Proofs.YtlinpknagdgphaaGreat
open Go.RowKit
variable {mk:Bool} {ro:Option Nat} {P:Program} {T:aW} {cl:gu} {f:FuncId} {R:eT} {a:Act} {w:World} {D:List Nat} {w0:World} {K0:World→Prop} {E:List (Nat×AV)} {M:List au} {sz:Nat} {tb:da} {todo todo':List Item} {ops:Array Oper} {Q:Exit→Act→World→Prop}
def wm (P:Program) (T:aW) (cl:gu) (sz:Nat) (ops:Array Oper) (oc:List (Nat×bj)) (rd:List Nat) (i:Nat):RS→Option (List Nat×RS)
 | ⟨vc,E,M,tc,mv⟩=>match ops[i]? with
  | some o=>(bif g8 sz o.dst then (match nC sz ops E o.guard with
   | some true=>(match step P T cl E M (nM oc i) o.op with
    | some ⟨n6,av,_,_,_,some lg⟩=>some (lg++rd,⟨vc++n6,g7 E o.dst av,M,tc,mv⟩)
    | _=>none)
   | some false=>some (rd,⟨vc,g7 E o.dst (.d (.v undef)),M,tc,mv⟩)
   | none=>none) else none)
  | none=>none
def wP (P:Program) (T:aW) (cl:gu) (sz:Nat) (ops:Array Oper) (oc:List (Nat×bj)) (rd:List Nat) (i:Nat):RS→Option RS
 | ⟨vc,E,M,tc,mv⟩=>match ops[i]? with
  | some o=>(bif g8 sz o.dst then (match nC sz ops E o.guard with
   | some true=>(match step P T cl E M (nM oc i) o.op with
    | some out=>(bif BL rd out.tc&&Nat.ble M.length out.M.length then some ⟨vc++out.vc,g7 (qO out.mv E) o.dst out.av,out.M,out.tc++tc,out.mv++mv⟩ else none)
    | none=>none)
   | some false=>some ⟨vc,g7 E o.dst (.d (.v undef)),M,tc,mv⟩
   | none=>none) else none)
  | none=>none
def wQ (g:Nat→Option (List RS)):List Nat→Option (List RS)
 | []=>some []
 | j::r=>match g j,wQ g r with | some l,some l'=>some (l++l') | _,_=>none
theorem zg {g:Nat→Option (List RS)}:∀ {r:List Nat} {l:List RS},wQ g r=some l→∀ j ∈ r,∃ l',g j=some l'∧∀ s ∈ l',s ∈ l
 | [],_,_,j,hj=>by cases hj
 | i::r,l,h,j,hj=>by
  unfold wQ at h
  split at h
  ·rename_i l1 l2 h1 h2
   simp only [Option.some.injEq] at h;subst h
   rcases List.mem_cons.1 hj with rfl | hj
   ·exact ⟨l1,h1,fun s hs=>List.mem_append_left _ hs⟩
   ·obtain ⟨l',h3,h4⟩:=zg h2 j hj
    exact ⟨l',h3,fun s hs=>List.mem_append_right _ (h4 s hs)⟩
  ·cases h
def nP (ops:Array Oper) (nl:List Nat) (L:Array Bool):tS:=match Region.ready .any ops L with
 | []=>.fin
 | i::r=>match m8 ops L ((i::r).filter fun j=>!(nl.elem j)) with
  | some j=>.look j
  | none=>.bad
theorem EC {nl:List Nat} {L:Array Bool} (h:nP ops nl L=.fin):Region.ready .any ops L=[]:=by
 unfold nP at h
 split at h
 ·assumption
 ·split at h<;>cases h
theorem K6 {nl:List Nat} {L:Array Bool} {i:Nat} (h:nP ops nl L=.look i):i ∈ Region.ready .any ops L∧∃ o,ops[i]?=some o∧Region.free .any ops L i=true:=by
 unfold nP at h
 split at h
 ·cases h
 ·rename_i k r hr
  split at h
  ·rename_i j hj
   simp only [tS.look.injEq] at h;subst h
   obtain ⟨h1,h2⟩:=pP hj
   exact ⟨by rw [hr];exact (List.mem_filter.1 h1).1,h2⟩
  ·cases h
def kP (P:Program) (T:aW) (cl:gu) (sz:Nat) (ops:Array Oper) (oc:List (Nat×bj)) (nl:List Nat):Nat→Array Bool→List Nat→RS→Option (List RS)
 | 0,L,_,s=>(match nP ops nl L with | .fin=>some [s] | _=>none)
 | fuel+1,L,rd,s=>match nP ops nl L with
  | .fin=>some [s]
  | .look i=>(match wm P T cl sz ops oc rd i s with
   | some (lg,s1)=>kP P T cl sz ops oc nl fuel (L.setIfInBounds i true) lg s1
   | none=>none)
  | _=>wQ (fun j=>match wP P T cl sz ops oc rd j s with
   | some s1=>kP P T cl sz ops oc nl fuel (L.setIfInBounds j true) rd s1
   | none=>none) (Region.ready .any ops L)
theorem MN {oc:List (Nat×bj)} {rd lg:List Nat} {i:Nat} {s s1:RS} (h:wm P T cl sz ops oc rd i s=some (lg,s1)) (hv:bw s1.vc):bw s.vc:=by
 obtain ⟨vc,E,M,tc,mv⟩:=s
 unfold wm at h
 dsimp only at h
 split at h
 ·rename_i o ho
  cases hd:g8 sz o.dst with
  | false=>simp [hd] at h
  | true=>
   simp only [hd,cond_true] at h
   split at h
   ·split at h
    ·simp only [Option.some.injEq,Prod.mk.injEq] at h;obtain ⟨-,rfl⟩:=h;exact (bw.app.1 hv).1
    ·cases h
   ·simp only [Option.some.injEq,Prod.mk.injEq] at h;obtain ⟨-,rfl⟩:=h;exact hv
   ·cases h
 ·cases h
theorem Oe {oc:List (Nat×bj)} {rd:List Nat} {i:Nat} {s s1:RS} (h:wP P T cl sz ops oc rd i s=some s1) (hv:bw s1.vc):bw s.vc:=by
 obtain ⟨vc,E,M,tc,mv⟩:=s
 unfold wP at h
 dsimp only at h
 split at h
 ·rename_i o ho
  cases hd:g8 sz o.dst with
  | false=>simp [hd] at h
  | true=>
   simp only [hd,cond_true] at h
   split at h
   ·split at h
    ·rename_i out _
     cases hc:(BL rd out.tc&&Nat.ble M.length out.M.length) with
     | false=>simp [hc] at h
     | true=>simp only [hc,cond_true,Option.some.injEq] at h;subst h;exact (bw.app.1 hv).1
    ·cases h
   ·simp only [Option.some.injEq] at h;subst h;exact hv
   ·cases h
 ·cases h
theorem Dv {nl:List Nat} {L:Array Bool} (h:nP ops nl L≠.fin):∃ j r,Region.ready .any ops L=j::r:=by
 unfold nP at h
 cases hr:Region.ready .any ops L with
 | nil=>rw [hr] at h;exact absurd rfl h
 | cons j r=>exact ⟨j,r,rfl⟩
theorem vn {oc:List (Nat×bj)} {nl:List Nat}:∀ (fuel:Nat) (L:Array Bool) (rd:List Nat) (s:RS) {l:List RS},kP P T cl sz ops oc nl fuel L rd s=some l→∃ s' ∈ l,bw s'.vc→bw s.vc:=by
 intro fuel
 induction fuel with
 | zero=>
  intro L rd s l h
  unfold kP at h
  split at h
  ·simp only [Option.some.injEq] at h;subst h;exact ⟨s,by simp,id⟩
  ·cases h
 | succ fuel ih=>
  intro L rd s l h
  unfold kP at h
  split at h
  ·simp only [Option.some.injEq] at h;subst h;exact ⟨s,by simp,id⟩
  ·split at h
   ·rename_i hl
    obtain ⟨s',h1,h2⟩:=ih _ _ _ h
    exact ⟨s',h1,fun hv=>MN hl (h2 hv)⟩
   ·cases h
  ·rename_i hn _
   obtain ⟨j,r,hr⟩:=Dv (ops:=ops) (nl:=nl) (L:=L) (by intro hf;exact hn hf)
   obtain ⟨l',h1,h2⟩:=zg h j (by rw [hr];exact List.mem_cons_self)
   split at h1
   ·rename_i ho
    obtain ⟨s',h3,h4⟩:=ih _ _ _ h1
    exact ⟨s',h2 s' h3,fun hv=>Oe ho (h4 hv)⟩
   ·cases h1
theorem MO (hT:bp P T=true) (cG:jS P cl) {b:dH} (hK:∀ w,Kp D w0 w→K0 w) (iS:Region.noSelect ops=true) (hQ:∀ d v c a w,Q (.panic c) (Act.put a d v) w→Q (.panic c) a w) {oc:List (Nat×bj)} {nl:List Nat}:
  ∀ (fuel:Nat) (L:Array Bool) (rd:List Nat) (s:RS) {l:List RS} (Rk:World→Prop) (β:Beta) (F:Nat→aA) (I:aA) (a:Act) (w:World),kP P T cl sz ops oc nl fuel L rd s=some l→a.tmps.size=sz→Mk mk a.defers I→b.m≤s.M.length→RM D w0 K0 s.M β F I w→nD b s.mv s.tc β F I→
   (∀ t v,bO s.E t=some v→aE (fun w=>K0 w∧az w I) β v (a.eval (.tmp t)))→(∀ u ∈ rd,u<s.M.length)→(∀ w,gZ K0 I F rd w→Rk w)→(∀ s' ∈ l,bw s'.vc∧∀ a' w',dy mk D w0 K0 sz b s' a' w'→Q .normal a' w')→kL ro P ops Q Rk fuel L a w:=by
 intro fuel
 induction fuel with
 | zero=>
  intro L rd s l Rk β F I a w h size defers hm Rm aT hs eH gP k
  have C:Ctx D w0 K0 s.E s.M β F I a.eval w:=⟨Rm,hs,fun _=>rfl,fun _=>rfl,fun _=>rfl,hK⟩
  have hR:=gP w (C.wC eH)
  unfold kP at h
  split at h
  ·rename_i hn
   simp only [Option.some.injEq] at h;subst h
   exact ⟨hR,EC hn,(k s (by simp)).2 a w ⟨size,I,defers,hm,β,F,Rm,aT,hs⟩⟩
  ·cases h
 | succ fuel ih=>
  intro L rd s l Rk β F I a w h size defers hm Rm aT hs eH gP k
  have C:Ctx D w0 K0 s.E s.M β F I a.eval w:=⟨Rm,hs,fun _=>rfl,fun _=>rfl,fun _=>rfl,hK⟩
  have hR:=gP w (C.wC eH)
  unfold kP at h
  split at h
  ·rename_i hn
   simp only [Option.some.injEq] at h;subst h
   have hn:=EC hn
   exact ⟨hR,fun _=>(k s (by simp)).2 a w ⟨size,I,defers,hm,β,F,Rm,aT,hs⟩,fun i hi=>by rw [hn] at hi;cases hi⟩
  ·rename_i i hn
   obtain ⟨tU,o',SI,mC⟩:=K6 hn
   split at h
   ·rename_i Un s1 hl
    obtain ⟨s',dP,dj⟩:=vn _ _ _ _ h
    have bg:=dj (k s' dP).1
    obtain ⟨vc,E,M,tc,mv⟩:=s
    dsimp only at hm Rm aT hs eH gP C
    unfold wm at hl
    dsimp only at hl
    split at hl
    ·rename_i o ho
     cases hd:g8 sz o.dst with
     | false=>simp [hd] at hl
     | true=>
      simp only [hd,cond_true] at hl
      have iE:=fun j oj hj dN mY cY=>Region.free_spec ho mC j oj hj dN mY cY
      split at hl
      ·rename_i hw
       have fC:=lz (ops:=ops) size hs hw
       split at hl
       ·rename_i n6 av _ _ _ lg bM
        simp only [Option.some.injEq,Prod.mk.injEq] at hl;obtain ⟨rfl,rfl⟩:=hl
        have pG:=qj (P:=P) hT cG (d:=o.dst) (ty:=o.type) (pos:=o.pos) (aft:=o.after) (gd:=o.guard) bM
        obtain ⟨BM,rfl,-,aK⟩:=pG
        have mH:=(bw.app.1 bg).2
        obtain ⟨v,kU,kr⟩:=BM C mH
        obtain ⟨e1,e2,e3⟩:=RE.put (E:=E) size defers hs hd kU
        have lL:=ih (L.setIfInBounds i true) _ _ (fun w=>Rk w∧gZ K0 I F lg w) β F I (a.put o.dst v) w h e1 e2 hm Rm aT e3 (fun u hu=>by rcases List.mem_append.1 hu with e | e;exact aK u e;exact eH u e)
         (fun w hw=>⟨gP w ⟨hw.1,fun u hu=>hw.2 u (List.mem_append_right _ hu)⟩,hw.1,fun u hu=>hw.2 u (List.mem_append_left _ hu)⟩) k
        exact Da (fun w hw=>hw.1) (C3 ho (Region.noSelect_spec iS) (hQ o.dst v) _ L a w iE tU (Or.inl ⟨fC,fun w' eb=>kr w' eb.2⟩) lL)
       ·cases hl
      ·rename_i hw
       simp only [Option.some.injEq,Prod.mk.injEq] at hl;obtain ⟨rfl,rfl⟩:=hl
       have fC:=lz (ops:=ops) size hs hw
       obtain ⟨e1,e2,e3⟩:=RE.put (E:=E) size defers hs hd (.d (.v undef))
       have lL:=ih (L.setIfInBounds i true) _ _ Rk β F I (a.put o.dst undef) w h e1 e2 hm Rm aT e3 eH gP k
       exact C3 ho (Region.noSelect_spec iS) (hQ o.dst undef) _ L a w iE tU (Or.inr ⟨fC,rfl⟩) lL
      ·cases hl
    ·cases hl
   ·cases h
  ·rename_i hn _
   obtain ⟨j0,r0,rI⟩:=Dv (ops:=ops) (nl:=nl) (L:=L) (by intro hf;exact hn hf)
   refine ⟨hR,fun h0=>(by rw [rI] at h0;cases h0),fun j hj=>?_⟩
   obtain ⟨l',h1,h2⟩:=zg h j hj
   split at h1
   ·rename_i s1 jb
    obtain ⟨s',dP,dj⟩:=vn _ _ _ _ h1
    have bg:=dj (k s' (h2 s' dP)).1
    obtain ⟨vc,E,M,tc,mv⟩:=s
    dsimp only at hm Rm aT hs eH gP C
    unfold wP at jb
    dsimp only at jb
    unfold wpOpIn
    split at jb
    ·rename_i o ho
     simp only [ho]
     cases hd:g8 sz o.dst with
     | false=>simp [hd] at jb
     | true=>
      simp only [hd,cond_true] at jb
      split at jb
      ·rename_i hw
       have fC:=lz (ops:=ops) size hs hw
       simp only [fC,if_true]
       split at jb
       ·rename_i out bM
        cases hc:(BL rd out.tc&&Nat.ble M.length out.M.length) with
        | false=>simp [hc] at jb
        | true=>
         simp only [hc,cond_true,Option.some.injEq] at jb;subst jb
         simp only [Bool.and_eq_true] at hc
         have hlen:=Nat.le_of_ble_eq_true hc.2
         have mH:=(bw.app.1 bg).2
         have pG:=(qj (P:=P) hT cG (d:=o.dst) (ty:=o.type) (pos:=o.pos) (aft:=o.after) (gd:=o.guard) bM).rq C mH
         refine bq.wp pG ?_
         rintro v w' ⟨aF,F',I',R',e,hI,hF,mX⟩
         have hk:=yA (ρ:=a.eval) e hs
         obtain ⟨e1,e2,e3⟩:=RE.put size (defers.grow hI) (fun t v hx=>(hk t v hx).mono (fun w hw=>⟨hw.1,hI.holds w hw.2⟩) (Ext.refl _)) hd mX
         refine ih (L.setIfInBounds j true) _ _ Rk aF F' I' (a.put o.dst v) w' h1 e1 e2 (Nat.le_trans hm hlen) R' (aT.step hm e hI hF) e3 (fun u hu=>Nat.lt_of_lt_of_le (eH u hu) hlen) (fun w hw=>gP w ⟨⟨hw.1.1,hI.holds w hw.1.2⟩,fun u hu=>?_⟩) fun s' dP=>k s' (h2 s' dP)
         have Cz:u ∉ out.tc:=by
          have:=List.all_eq_true.1 hc.1 u hu
          simpa using this
         rw [← hF u (eH u hu) Cz];exact hw.2 u hu
       ·cases jb
      ·rename_i hw
       simp only [Option.some.injEq] at jb;subst jb
       have fC:=lz (ops:=ops) size hs hw
       simp only [fC,Bool.false_eq_true,if_false]
       obtain ⟨e1,e2,e3⟩:=RE.put (E:=E) size defers hs hd (.d (.v undef))
       exact ⟨fun _ _=>trivial,ih (L.setIfInBounds j true) _ _ Rk β F I (a.put o.dst undef) w h1 e1 e2 hm Rm aT e3 eH gP fun s' dP=>k s' (h2 s' dP)⟩
      ·cases jb
    ·cases jb
   ·cases h1
theorem Hz (hT:bp P T=true) (cG:jS P cl) (hm:P.follows .mixedOrders=true) (hK:∀ w,Kp D w0 w→K0 w) (hQ:∀ d v c a w,Q (.panic c) (Act.put a d v) w→Q (.panic c) a w) {b:dH} {s:RS} (R:dy mk D w0 K0 sz b s a w) (oc:List (Nat×bj)) {nl:List Nat} {id:Nat} {l:List RS} (iS:Region.noSelect ops=true)
  (h:kP P T cl sz ops oc nl ops.size (Array.replicate ops.size false) [] s=some l) (k:∀ s' ∈ l,bw s'.vc∧∀ a' w',dy mk D w0 K0 sz b s' a' w'→Q .normal a' w'):(Code.region id ops true).wpIn (Fl ro) 0 P Q a w:=by
 refine wpIn_region_any hm ?_
 obtain ⟨size,I,defers,hb,β,F,Rm,aT,hs⟩:=R
 have hg:=Gr.drew w
 exact (MO hT cG hK iS hQ ops.size _ [] s (fun _=>True) β F I a w.drew h size defers hb (Rm.gr hg) aT hs (by simp) (fun _ _=>trivial) k).to
def kK (ts:List Nat):List (List Nat)→List RS→Option (List Prop×List (List (Nat×AV)×List au))
 | [],[]=>some ([],[])
 | l::ls,s::r=>bif cC l then (match eP l s.M l,iy l s.E ts,kK ts ls r with
  | some M',some E',some (A,r')=>some (bw s.vc::A,(E',M')::r')
  | _,_,_=>none) else none
 | _,_=>none
theorem Dw {ts:List Nat} {E':List (Nat×AV)} {M':List au}:∀ {ls:List (List Nat)} {r:List RS} {A:List Prop} {o:List (List (Nat×AV)×List au)},kK ts ls r=some (A,o)→(∀ x ∈ o,x=(E',M'))→bw A→∀ s ∈ r,bw s.vc∧∃ l,cC l=true∧eP l s.M l=some M'∧iy l s.E ts=some E'
 | [],[],_,_,_,_,_,s,hs=>by cases hs
 | [],_::_,_,_,h,_,_,_,_=>by simp [kK] at h
 | _::_,[],_,_,h,_,_,_,_=>by simp [kK] at h
 | l::ls,s::r,A,o,h,ho,hA,s',dP=>by
  unfold kK at h
  cases hn:cC l with
  | false=>simp [hn] at h
  | true=>
   simp only [hn,cond_true] at h
   split at h
   ·rename_i M1 E1 A1 r1 h1 h2 h3
    simp only [Option.some.injEq,Prod.mk.injEq] at h;obtain ⟨rfl,rfl⟩:=h
    have e:=ho _ List.mem_cons_self
    simp only [Prod.mk.injEq] at e;obtain ⟨rfl,rfl⟩:=e
    rcases List.mem_cons.1 dP with rfl | dP
    ·exact ⟨hA.1,l,hn,h1,h2⟩
    ·exact Dw h3 (fun x hx=>ho x (List.mem_cons_of_mem _ hx)) hA.2 s' dP
   ·cases h
def FB (P:Program) (T:aW) (sz:Nat) (tb:da) (n:Nat) (nl:List Nat) (mZ:List (List Nat)) (ts:List Nat) (todo:List Item) (E:List (Nat×AV)) (M:List au):Option (List Item×Prop×List (List (Nat×AV)×List au)):=
 match dw P T (walk P T 3) sz tb n todo ⟨[],E,M,[],[]⟩ with
 | some (.code (.region id ops true)::k,s)=>bif Region.noSelect ops then (match kP P T (walk P T 3) sz ops (o2 tb id) nl ops.size (Array.replicate ops.size false) [] s with
  | some Ls=>(match kK ts mZ Ls with | some (A,o)=>some (k,bw A,o) | none=>none)
  | none=>none) else none
 | _=>none
theorem Ae (hT:bp P T=true) (hm:P.follows .mixedOrders=true) (hK:∀ w,Kp D w0 w→K0 w) (tb:da) (n m:Nat) (nl:List Nat) (mZ:List (List Nat)) (ts:List Nat) {A:Prop} {E':List (Nat×AV)} {M':List au} (r:ca mk D w0 K0 sz E M a w)
  (h:FB P T sz tb n nl mZ ts todo E M=some (todo',A,List.replicate m (E',M'))) (hA:A) (k:∀ a' w',ca mk D w0 K0 sz E' M' a' w'→aN P f todo' R a' w'):aN P f todo R a w:=by
 unfold FB at h
 split at h
 ·rename_i id ops k0 s hr
  cases hs:Region.noSelect ops with
  | false=>simp [hs] at h
  | true=>
   simp only [hs,cond_true] at h
   split at h
   ·rename_i Ls hL
    split at h
    ·rename_i A1 o ho
     simp only [Option.some.injEq,Prod.mk.injEq] at h;obtain ⟨rfl,rfl,rfl⟩:=h
     have hl:=Dw ho (fun x hx=>List.eq_of_mem_replicate hx) hA
     obtain ⟨s1,h1,h2⟩:=vn _ _ _ _ hL
     obtain ⟨b,rb⟩:=r.b []
     refine iT hT (fo hT hm 3) hm hK n hr rb (h2 (hl s1 h1).1) fun a1 w1 r1=>aN.code ?_
     refine Hz hT (fo hT hm 3) hm hK (by rintro d v c a w ⟨h,-⟩;cases h) r1 _ hs hL fun s' dP=>⟨(hl s' dP).1,fun a' w' r'=>⟨rfl,?_⟩⟩
     obtain ⟨-,l,g1,g2,g3⟩:=hl s' dP
     exact k a' w' (r'.re.kD g1 g2 g3)
    ·cases h
   ·cases h
 ·cases h
def GX (P:Program) (T:aW) (sz:Nat) (tb:da) (n:Nat) (l ts:List Nat) (todo:List Item) (E:List (Nat×AV)) (M:List au):Option (List Item×Prop×List (Nat×AV)×List au):=
 bif cC l then (match dw P T (walk P T 3) sz tb n todo ⟨[],E,M,[],[]⟩ with
 | some (t,s)=>km l ts t s
 | none=>none) else none
theorem q5 (hT:bp P T=true) (hm:P.follows .mixedOrders=true) (hK:∀ w,Kp D w0 w→K0 w) (tb:da) (n:Nat) (l ts:List Nat) {A:Prop} {E':List (Nat×AV)} {M':List au} (r:ca mk D w0 K0 sz E M a w)
  (h:GX P T sz tb n l ts todo E M=some (todo',A,E',M')) (hA:A) (k:∀ a' w',ca mk D w0 K0 sz E' M' a' w'→aN P f todo' R a' w'):aN P f todo R a w:=by
 unfold GX at h
 cases hn:cC l with
 | false=>simp [hn] at h
 | true=>
  simp only [hn,cond_true] at h
  split at h
  ·rename_i t s hr
   unfold km at h
   split at h
   ·rename_i M1 E1 hM hE
    simp only [Option.some.injEq,Prod.mk.injEq] at h
    obtain ⟨rfl,rfl,rfl,rfl⟩:=h
    exact n8 hT (fo hT hm 3) hm hK n hr r hA fun a' w' r'=>k a' w' (r'.kD hn hM hE)
   ·cases h
  ·cases h
def o5 (id:Nat):Code→List Item→List (List Item)
 | .seq x y,k=>o5 id x (.code y::k)++o5 id y k
 | .cond _ x y,k=>o5 id x k++o5 id y k
 | .block i c,k=>o5 id c (.inBlock i::k)
 | .loop c,k=>o5 id c (.inLoop c::k)
 | .region i _ _,k=>bif i.beq id then [k] else []
 | _,_=>[]
def aft (fn:Func) (id:Nat):List Item:=
 match fn.body with
 | some c=>(match o5 id c [] with | t::_=>t | []=>[])
 | none=>[]
end Go.Proofs.YtlinpknagdgphaaGreat
namespace Go.Proofs.YtlinpknagdgphaaGreat
open Go.RowKit
variable {mk:Bool} {P:Program} {f:FuncId}
def Le (x x':DV):Prop:=∀ (K:World→Prop) (y:Value) (H:aA),bQ K x y H→bQ K x' y H
theorem Le.refl (x:DV):Le x x:=fun _ _ _ h=>h
theorem Le.Be (k:Nat):Le (.v (.slice none 0 0)) (.ro k []):=by
 intro K y H h
 cases h
 exact .ro (fun _=>[]) (by simp) ⟨none,0,rfl,Nat.le_refl _⟩ (fun w _=>by simpa [lay] using (eD.nil 0 k none).src (az.nil w)) (by simp)
inductive j3:List DV→List DV→Prop where
 | nil:j3 [] []
 | cons {x x':DV} {l l':List DV} (h:Le x x') (t:j3 l l'):j3 (x::l) (x'::l')
theorem j3.ok {l l':List DV} (h:j3 l l'):l.length=l'.length∧∀ (j:Nat) c c',l[j]?=some c→l'[j]?=some c'→Le c c':=by
 induction h with
 | nil=>simp
 | cons h t ih=>
  refine ⟨by simp [ih.1],fun j c c' h1 h2=>?_⟩
  cases j with
  | zero=>simp at h1 h2;subst h1 h2;exact h
  | succ j=>exact ih.2 j c c' (by simpa using h1) (by simpa using h2)
end Go.Proofs.YtlinpknagdgphaaGreat
namespace Go.Proofs.YtlinpknagdgphaaGreat
open Go.RowKit
variable {mk:Bool} {P:Program} {T:aW} {f:FuncId} {a:Act} {w:World} {D:List Nat} {w0:World} {K0:World→Prop} {E E1:List (Nat×AV)} {M M1 M2:List au} {β:Beta} {F:Nat→aA} {I X:aA} {sz:Nat} {b:dH}
theorem bR.stay {J Y:aA} (R:bR D w0 K0 M β F I (J++Y) w):bR D w0 K0 M β F (J++I) Y w where
 len:=R.len
 blk:=fun u bl hb=>(R.blk u bl hb).mono (fun w hw=>⟨hw.1,(az.app.1 hw.2).2⟩) (Ext.refl _)
 st:=R.st.perm (List.Perm.append_left _ (by rw [← List.append_assoc];exact List.Perm.append_right _ List.perm_append_comm))
theorem D1 (n k:Nat):bW n k (fun _ _=>([]:aA))=[]:=by simp [bW]
theorem JZ {n k:Nat} {G:Nat→Nat→aA} {w:World} (h:az w (bW n k G)) {i j:Nat} (hi:i<n) (hj:j<k):az w (G i j):=by
 intro x hx
 exact h x (List.mem_flatMap.2 ⟨i,List.mem_range.2 hi,List.mem_flatMap.2 ⟨j,List.mem_range.2 hj,hx⟩⟩)
theorem RM.freeze (R:RM D w0 K0 M β F I w) {u T k:Nat} {rows:List (List DV)} (hu:M[u]?=some (.rw T k rows)):∃ F' I',RM D w0 K0 (M.set u (.rw T k (cg rows))) β F' I' w∧bL I I':=by
 have hb:=R.blk u _ hu
 have aK:=(List.getElem?_eq_some_iff.1 hu).1
 have g:=R.x.ea hu
 generalize F u=Fu at hb g
 cases hb with
 | rw hb X G hl hs hr=>
  rename_i H0
  have g2:=(g.perm (Y:=bW rows.length k G++(H0++[])) (by rw [List.nil_append,List.append_nil];exact List.perm_append_comm)).stay
  have cu:∀ (i:Nat) r,(cg rows)[i]?=some r→∃ r0,rows[i]?=some r0∧r=r0.map cT:=by
   intro i r h;rw [jz,List.getElem?_map,Option.map_eq_some_iff] at h
   obtain ⟨r0,h1,h2⟩:=h;exact ⟨r0,h1,h2.symm⟩
  have hlen:(cg rows).length=rows.length:=by rw [jz,List.length_map]
  have hB:bK (fun w=>K0 w∧az w (bW rows.length k G++I)) β u (.rw T k (cg rows)) (H0++bW (cg rows).length k fun _ _=>[]):=by
   refine .rw hb X (fun _ _=>[]) (fun i r h=>?_) (by rw [hlen];exact hs) fun i r j c x h1 h2 h3=>?_
   ·obtain ⟨r0,h1,rfl⟩:=cu i r h
    rw [List.length_map];exact hl i r0 h1
   ·obtain ⟨r0,g1,rfl⟩:=cu i r h1
    rw [List.getElem?_map,Option.map_eq_some_iff] at h2
    obtain ⟨c0,g2,rfl⟩:=h2
    refine oH (hr i r0 j c0 x g1 g2 h3) fun w hw=>⟨⟨hw.1,(az.app.1 hw.2).2⟩,JZ (az.app.1 hw.2).1 (List.getElem?_eq_some_iff.1 g1).1 ?_⟩
    rw [← (hl i r0 g1).1];exact (List.getElem?_eq_some_iff.1 g2).1
  rw [D1,List.append_nil] at hB
  have g3:=g2.put (by rw [List.length_set];exact aK) (by simp [aS]) hB
  rw [List.set_set] at g3
  exact ⟨_,_,g3.nil rfl,_,rfl⟩
def q6:List Nat→List au→Option (List au)
 | [],M=>some M
 | u::r,M=>match M[u]? with
  | some (.rw T k rows)=>q6 r (M.set u (.rw T k (cg rows)))
  | _=>none
theorem Af:∀ {us:List Nat} {M:List au} {F:Nat→aA} {I:aA},q6 us M=some M1→RM D w0 K0 M β F I w→∃ F' I',RM D w0 K0 M1 β F' I' w∧bL I I'
 | [],M,F,I,h,R=>by simp only [q6,Option.some.injEq] at h;subst h;exact ⟨F,I,R,bL.refl I⟩
 | u::r,M,F,I,h,R=>by
  unfold q6 at h
  split at h
  ·rename_i hu
   obtain ⟨F1,I1,R1,g1⟩:=R.freeze hu
   obtain ⟨F2,I2,R2,g2⟩:=Af h R1
   exact ⟨F2,I2,R2,g1.trans g2⟩
  ·cases h
theorem ca.freeze (r:ca mk D w0 K0 sz E M a w) (us:List Nat) (h:q6 us M=some M1) (e:M1=M2):ca mk D w0 K0 sz E M2 a w:=by
 subst e
 obtain ⟨h1,I,h2,β,F,R,hs⟩:=r
 obtain ⟨F',I',R',g⟩:=Af h R
 exact ⟨h1,I',h2.grow g,β,F',R',fun t v hv=>(hs t v hv).mono (fun w hw=>⟨hw.1,g.holds w hw.2⟩) (Ext.refl _)⟩
theorem RM.GY (R:RM D w0 K0 M β F I w) {v n T k:Nat} {rows:List (List DV)} (hv:M[v]?=some (.rw T k rows)) (hn:n=rows.length):∃ F' I',RM D w0 K0 (M.set v .dead) β F' I' w∧bL I I'∧∀ y,aE (fun w=>K0 w∧az w I) β (.sl v n) y→aE (fun w=>K0 w∧az w I') β (.d (.ro k (cg rows))) y:=by
 have R1:=R.x.ea hv
 rw [List.nil_append] at R1
 have hB:=R.blk v _ hv
 refine ⟨aS F v [],F v++I,⟨R1.len,fun u bl hu=>(R1.blk u bl hu).mono (fun w hw=>⟨hw.1,(az.app.1 hw.2).2⟩) (Ext.refl _),R1.st.perm (List.Perm.append_left _ List.perm_append_comm)⟩,⟨F v,rfl⟩,fun y r=>?_⟩
 generalize F v=Fv at hB ⊢
 cases r with
 | sl hb=>
  cases hB with
  | rw aV X G hl hs hr=>
   rw [hb] at aV;cases aV
   have hd:=bQ.em (K:=fun w=>K0 w∧az w I) X G hl hs hr
   have:=oH (K':=fun w=>K0 w∧az w (_++I)) hd fun w hw=>⟨⟨hw.1,(az.app.1 hw.2).2⟩,(az.app.1 hw.2).1⟩
   rw [cT] at this
   rw [hn]
   exact .d this
def tZ:List Nat→List (Nat×AV)→List au→Option (List Prop×List (Nat×AV)×List au)
 | [],E,M=>some ([],E,M)
 | t::r,E,M=>match bO E t with
  | some (.sl v n)=>(match M[v]? with
   | some (.rw _ k rows)=>(match tZ r (o4 E t (.d (.ro k (cg rows)))) (M.set v .dead) with | some (p,E',M')=>some ((n=rows.length)::p,E',M') | none=>none)
   | _=>none)
  | _=>none
def ua:List (Nat×Nat)→List au→Option (List Prop×List au)
 | [],M=>some ([],M)
 | (u,o)::r,M=>match M[u]? with
  | some (.bx Tb cells)=>(match cells[o]? with
   | some (.sl v n)=>(match M[v]? with
    | some (.rw _ k rows)=>(match ua r ((M.set v .dead).set u (.bx Tb (cells.set o (.d (.ro k (cg rows)))))) with | some (p,M')=>some ((n=rows.length)::p,M') | none=>none)
    | _=>none)
   | _=>none)
  | _=>none
theorem Gs {ev:Nat→Value}:∀ {ls:List Nat} {E:List (Nat×AV)} {M:List au} {F:Nat→aA} {I:aA} {p:List Prop},tZ ls E M=some (p,E1,M1)→bw p→RM D w0 K0 M β F I w→(∀ t v,bO E t=some v→aE (fun w=>K0 w∧az w I) β v (ev t))→
  ∃ F' I',RM D w0 K0 M1 β F' I' w∧bL I I'∧∀ t v,bO E1 t=some v→aE (fun w=>K0 w∧az w I') β v (ev t)
 | [],E,M,F,I,p,h,_,R,hs=>by
  simp only [tZ,Option.some.injEq,Prod.mk.injEq] at h;obtain ⟨-,rfl,rfl⟩:=h
  exact ⟨F,I,R,bL.refl I,hs⟩
 | t::r,E,M,F,I,p,h,hp,R,hs=>by
  unfold tZ at h
  split at h
  ·rename_i v n ht
   split at h
   ·rename_i T k rows hv
    split at h
    ·rename_i p' E' M' hr
     simp only [Option.some.injEq,Prod.mk.injEq] at h;obtain ⟨rfl,e1,e2⟩:=h
     rw [e1,e2] at hr
     obtain ⟨F2,I2,R2,g,hA⟩:=R.GY hv hp.1
     suffices h9:∀ s x,bO (o4 E t (.d (.ro k (cg rows)))) s=some x→aE (fun w=>K0 w∧az w I2) β x (ev s) by
      obtain ⟨F',I',q1,q2,q3⟩:=Gs (ev:=ev) hr hp.2 R2 h9
      exact ⟨F',I',q1,g.trans q2,q3⟩
     intro s x hx
     rcases vz hx with ⟨rfl,rfl,-⟩ | ⟨-,h2⟩
     ·exact hA _ (hs _ _ ht)
     ·exact (hs s x h2).mono (fun w hw=>⟨hw.1,g.holds w hw.2⟩) (Ext.refl _)
    ·cases h
   ·cases h
  ·cases h
theorem Gt:∀ {lc:List (Nat×Nat)} {M:List au} {F:Nat→aA} {I:aA} {p:List Prop},ua lc M=some (p,M1)→bw p→RM D w0 K0 M β F I w→∃ F' I',RM D w0 K0 M1 β F' I' w∧bL I I'
 | [],M,F,I,p,h,_,R=>by
  simp only [ua,Option.some.injEq,Prod.mk.injEq] at h;obtain ⟨-,rfl⟩:=h
  exact ⟨F,I,R,bL.refl I⟩
 | (u,o)::r,M,F,I,p,h,hp,R=>by
  unfold ua at h
  split at h
  ·rename_i Tb cells hu
   split at h
   ·rename_i v n ho
    split at h
    ·rename_i T k rows hv
     split at h
     ·rename_i p' M' hr
      simp only [Option.some.injEq,Prod.mk.injEq] at h;obtain ⟨rfl,e1⟩:=h
      rw [e1] at hr
      have k7:v≠u:=fun e=>by subst e;rw [hu] at hv;cases hv
      obtain ⟨F2,I2,R2,g,hA⟩:=R.GY hv hp.1
      have hB:=R.blk u _ hu
      obtain ⟨aK,-⟩:=List.getElem?_eq_some_iff.1 hu
      have ID:(M.set v .dead)[u]?=some (.bx Tb cells):=by rw [List.getElem?_set,if_neg k7];exact hu
      have hC:=R2.blk u _ ID
      have dY:bK (fun w=>K0 w∧az w I2) β u (.bx Tb (cells.set o (.d (.ro k (cg rows))))) (F2 u):=by
       have bM:∀ {G:aA},bK (fun w=>K0 w∧az w I2) β u (.bx Tb cells) G→G=F2 u→bK (fun w=>K0 w∧az w I) β u (.bx Tb cells) (F u)→F2 u=F u→bK (fun w=>K0 w∧az w I2) β u (.bx Tb (cells.set o (.d (.ro k (cg rows))))) (F2 u):=by
        intro G _ _ h3 h4
        rw [h4]
        generalize F u=Fu at h3 ⊢
        cases h3 with
        | bx hb ys hl iH=>
         refine .bx hb ys (by rw [List.length_set];exact hl) fun j c y h1 h2=>?_
         rw [List.getElem?_set] at h1
         split at h1
         ·rename_i hj;subst hj
          split at h1
          ·simp only [Option.some.injEq] at h1;subst h1
           exact hA _ (iH _ _ _ ho h2)
          ·cases h1
         ·exact (iH j c y h1 h2).mono (fun w hw=>⟨hw.1,g.holds w hw.2⟩) (Ext.refl _)
       have fP:F2 u=F u:=by
        generalize hq:F2 u=q at hC
        generalize rJ:F u=q0 at hB
        cases hC with
        | bx hb ys hl iH=>
         cases hB with
         | bx aV Uo dI Hy=>
          rw [hb] at aV;cases aV
          have h1:az w (F2 u):=R2.jE ID
          have h2:az w (F u):=R.jE hu
          rw [hq] at h1;rw [rJ] at h2
          have e1:=h1.one
          have e2:=h2.one
          rw [e1] at e2
          simp only [Option.some.injEq,Obj.cells.injEq] at e2
          rw [e2.1]
       exact bM hC rfl hB fP
      have R3:RM D w0 K0 ((M.set v .dead).set u (.bx Tb (cells.set o (.d (.ro k (cg rows)))))) β F2 I2 w:=by
       refine ⟨by rw [List.length_set];exact R2.len,fun x bl hx=>?_,by rw [List.length_set];exact R2.st⟩
       rw [List.getElem?_set] at hx
       split at hx
       ·rename_i e;subst e
        split at hx
        ·simp only [Option.some.injEq] at hx;subst hx;exact dY
        ·cases hx
       ·exact R2.blk x bl hx
      obtain ⟨F4,I4,R4,g4⟩:=Gt hr hp.2 R3
      exact ⟨F4,I4,R4,g.trans g4⟩
     ·cases h
    ·cases h
   ·cases h
  ·cases h
def ta:List AV→Option (List DV)
 | []=>some []
 | .d x::r=>(match ta r with | some l=>some (x::l) | none=>none)
 | _=>none
theorem FC:∀ {l:List AV} {ds:List DV},ta l=some ds→l=ds.map .d
 | [],ds,h=>by simp only [ta,Option.some.injEq] at h;subst h;rfl
 | c::r,ds,h=>by
  unfold ta at h
  split at h
  ·simp_all
  ·rename_i x r' heq
   simp only [List.cons.injEq] at heq
   obtain ⟨rfl,rfl⟩:=heq
   split at h
   ·rename_i l hl
    simp only [Option.some.injEq] at h;subst h
    rw [FC hl];rfl
   ·cases h
  ·cases h
theorem D2 {f:AV→AV}:∀ {E:List (Nat×AV)} {t:Nat} {v:AV},bO (E.map fun x=>(x.1,f x.2)) t=some v→∃ v0,bO E t=some v0∧v=f v0
 | [],t,v,h=>by simp [bO] at h
 | (k,x)::r,t,v,h=>by
  rw [List.map_cons] at h
  unfold bO at h ⊢
  cases hk:k.beq t with
  | true=>simp only [hk,cond_true,Option.some.injEq] at h ⊢;exact ⟨x,rfl,h.symm⟩
  | false=>simp only [hk,cond_false] at h ⊢;exact D2 h
end Go.Proofs.YtlinpknagdgphaaGreat
namespace Go.Proofs.YtlinpknagdgphaaGreat
open Go.RowKit Go.Maps
variable {mk:Bool} {P:Program} {T:aW} {f:FuncId} {R:eT} {a:Act} {w:World} {D:List Nat} {w0:World} {K0:World→Prop} {E:List (Nat×AV)} {M:List au} {sz:Nat} {todo:List Item}
def vA (ops:Array Oper):Option (Nat×Nat×Nat):=match ops with
 | ⟨[⟨some d1,.next (.tmp t) false,_,_,_,none⟩,⟨some d2,.extract (.tmp d3) 0,_,_,_,none⟩]⟩=>bif d1.beq d3 then some (t,d1,d2) else none
 | _=>none
theorem Pr (hT:bp P T=true) (hm:P.follows .mixedOrders=true) (hK:∀ w,Kp D w0 w→K0 w) (n:Nat) {id t d1 d2 ui um since c T' ck:Nat} {seen:List Nat} {es:List (Nat×MK×DV)} {k:List Item} {ops:Array Oper} (r:ca mk D w0 K0 sz E M a w)
  (h:dw P T (walk P T 3) sz [] n todo ⟨[],E,M,[],[]⟩=some (.code (.region id ops false)::k,⟨[],E,M,[],[]⟩)) (ho:vA ops=some (t,d1,d2))
  (hd:(Nat.blt d1 sz&&Nat.blt d2 sz&&!(Nat.beq d1 d2)&&!(Nat.beq d1 t))=true) (hx:(bO E d1).isNone=true∧(bO E d2).isNone=true) (he:bO E t=some (.pt ui 0)) (hi:M[ui]?=some (.it (some um) since seen c)) (mW:M[um]?=some (.mp T' ck es))
  (h1:∀ e ∈ es,e.1<since) (h2:since≤c)
  (k0:(∀ e ∈ es,e.1 ∈ seen)→∀ a' w',ca mk D w0 K0 sz ((d2,.d (.v (.bool false)))::E) M a' w'→aN P f k R a' w')
  (k1:∀ (j b:Nat) (key:MK) (x:DV),es[j]?=some (b,key,x)→b ∉ seen→∀ a' w',ca mk D w0 K0 sz ((d2,.d (.v (.bool true)))::E) (M.set ui (.it (some um) since (seen++[b]) ck)) a' w'→aN P f k R a' w'):aN P f todo R a w:=by
 refine n8 hT (fo hT hm 3) hm hK n h r trivial fun a w r=>?_
 clear h
 unfold vA at ho
 split at ho
 ·rename_i hU t' SU p1 SV ia d3 SW p2 SX
  cases c9:hU.beq d3 with
  | false=>simp [c9] at ho
  | true=>
   simp only [c9,cond_true,Option.some.injEq,Prod.mk.injEq] at ho
   obtain ⟨rfl,rfl,rfl⟩:=ho
   obtain rfl:=Nat.eq_of_beq_eq_true c9
   simp only [Bool.and_eq_true,Bool.not_eq_true',Nat.blt_eq] at hd
   obtain ⟨⟨⟨pH,ja⟩,CB⟩,SY⟩:=hd
   have RT:hU≠ia:=fun e=>by subst e;simp at CB
   obtain ⟨bI,I,tf,β,F,Rm,hs⟩:=r
   have hp:=hs _ _ he
   generalize hy:a.eval (.tmp t')=y at hp
   cases hp with
   | @pt _ _ bi ci la=>
    obtain ⟨H1,iV,mU,tX⟩:=Rm.at hi
    obtain ⟨H2,fP,mV,mR⟩:=Rm.at mW
    cases mU with
    | @it b bm c0 _ _ _ _ tg CC=>
     rw [la] at tg;cases tg
     obtain ⟨c',aB⟩:=CC um rfl
     cases mV with
     | mp aV vs G hl hr=>
      rw [aB] at aV;cases aV
      have e1:=tX.one
      have e2:=mR.one
      have eO:∀ (v1 v2:Value) (c2:AV) (aF:Beta) (I':aA) (K':World→Prop),(∀ t v,bO E t=some v→aE K' aF v (a.eval (.tmp t)))→aE K' aF c2 v2→
        (((a.put (some hU) v1).put (some ia) v2).tmps.size=sz∧((a.put (some hU) v1).put (some ia) v2).defers=a.defers∧∀ t v,bO ((ia,c2)::E) t=some v→aE K' aF v (((a.put (some hU) v1).put (some ia) v2).eval (.tmp t))):=by
       intro v1 v2 c2 aF I' K' hh CD
       refine ⟨by simp [Act.put,bI],by simp [Act.put],fun t v hv=>?_⟩
       unfold bO at hv
       cases hk:ia.beq t with
       | true=>
        simp only [hk,cond_true,Option.some.injEq] at hv;subst hv
        rw [← Nat.eq_of_beq_eq_true hk,ow _ ia v2 (by simp [Act.put,bI];exact ja)];exact CD
       | false=>
        simp only [hk,cond_false] at hv
        rw [rR _ ia t v2 (fun e=>by subst e;simp at hk)]
        rw [rR _ hU t v1 (fun e=>by subst e;rw [hv] at hx;simp at hx)]
        exact hh t v hv
      refine aN.code (uA ?_)
      show dO P _ _ [(_,false),(_,false)] a w
      unfold dO
      simp only [cond_false]
      refine Fh hy e1 e2 (fun x jU=>?_) h2 (fun h0=>?_) (fun en k9 w1 g1 SZ=>?_)
      ·obtain ⟨j,hj,rfl⟩:=List.getElem_of_mem jU
       obtain ⟨e,v,a1,a2,a3⟩:=oR (j:=j) hl (List.getElem?_eq_getElem (by simpa using hj))
       rw [show (cq es vs).toArray.toList[j]=(cq es vs)[j]'(by simpa using hj) from rfl,a3]
       exact h1 e (List.mem_of_getElem? a1)
      ·unfold dO
       simp only [cond_false]
       refine uN (vs:=#[.bool false]) (v:=.bool false) (by rw [ow _ hU _ (by rw [bI];exact pH)]) rfl ?_
       unfold dO
       refine ⟨rfl,k0 (fun e rB=>?_) _ _ ?_⟩
       ·obtain ⟨j,hj,rfl⟩:=List.getElem_of_mem rB
        have hv:vs[j]?=some vs[j]:=List.getElem?_eq_getElem (by omega)
        have c7:=qA (List.getElem?_eq_getElem hj) hv
        unfold mB at h0
        have:=Array.filter_eq_empty_iff.1 (Array.eq_empty_of_size_eq_zero h0) _ (by simpa using List.mem_of_getElem? c7)
        simpa using this
       ·obtain ⟨q1,q2,q3⟩:=eO (.tuple #[.bool false]) (.bool false) (.d (.v (.bool false))) β I _ hs (.d (.v _))
        exact ⟨q1,I,by rw [q2];exact tf,β,F,Rm,q3⟩
      ·unfold dO
       simp only [cond_false]
       refine uN (vs:=#[.bool true,en.key,en.val]) (v:=.bool true) (by rw [ow _ hU _ (by rw [bI];exact pH)]) rfl ?_
       unfold dO
       unfold mB at k9
       simp only [Array.toList_filter,List.mem_filter] at k9
       obtain ⟨BP,th⟩:=k9
       obtain ⟨j,hj,rfl⟩:=List.getElem_of_mem BP
       obtain ⟨e,v,a1,a2,a3⟩:=oR (j:=j) hl (List.getElem?_eq_getElem (by simpa using hj))
       have Bf:(cq es vs).toArray.toList[j].born=e.1:=by rw [show (cq es vs).toArray.toList[j]=(cq es vs)[j]'(by simpa using hj) from rfl,a3]
       rw [Bf] at th ⊢
       refine ⟨rfl,k1 j e.1 e.2.1 e.2.2 (by rw [a1]) (by simpa using th) _ _ ?_⟩
       have R1:=Rm.gr g1
       have R2:=R1.set hi iV (o':=.mapIter (some bm) since (seen.toArray.push e.1) ck) (blk':=.it (some um) since (seen++[e.1]) ck) (by
        have:=bK.it (K:=fun w=>K0 w∧az w I) (u:=ui) (b:=bi) (bm:=bm) (since:=since) (ck:=ck) (um:=some um) (seen:=seen++[e.1]) la (fun v hv=>by cases hv;exact ⟨_,aB⟩)
        rw [show (seen++[e.1]).toArray=seen.toArray.push e.1 by simp] at this
        exact this)
       obtain ⟨q1,q2,q3⟩:=eO (.tuple #[.bool true,(cq es vs).toArray.toList[j].key,(cq es vs).toArray.toList[j].val]) (.bool true) (.d (.v (.bool true))) β I _ hs (.d (.v _))
       exact ⟨q1,I,by rw [q2];exact tf,β,_,R2,q3⟩
 ·simp at ho
theorem zh (hT:bp P T=true) (hm:P.follows .mixedOrders=true) (hK:∀ w,Kp D w0 w→K0 w) (n:Nat) {id t d1 d2 ui um since c T' ck:Nat} {seen:List Nat} {es:List (Nat×MK×DV)} {k:List Item} {ops:Array Oper} {bs:dH} (r:bX mk D w0 K0 sz bs E M a w)
  (h:dw P T (walk P T 3) sz [] n todo ⟨[],E,M,[],[]⟩=some (.code (.region id ops false)::k,⟨[],E,M,[],[]⟩)) (ho:vA ops=some (t,d1,d2))
  (hd:(Nat.blt d1 sz&&Nat.blt d2 sz&&!(Nat.beq d1 d2)&&!(Nat.beq d1 t))=true) (hx:(bO E d1).isNone=true∧(bO E d2).isNone=true) (he:bO E t=some (.pt ui 0)) (hi:M[ui]?=some (.it (some um) since seen c)) (mW:M[um]?=some (.mp T' ck es))
  (h1:∀ e ∈ es,e.1<since) (h2:since≤c)
  (k0:(∀ e ∈ es,e.1 ∈ seen)→∀ a' w',bX mk D w0 K0 sz bs ((d2,.d (.v (.bool false)))::E) M a' w'→aN P f k R a' w')
  (k1:∀ (j b:Nat) (key:MK) (x:DV),es[j]?=some (b,key,x)→b ∉ seen→∀ a' w',bX mk D w0 K0 sz bs ((d2,.d (.v (.bool true)))::E) (M.set ui (.it (some um) since (seen++[b]) ck)) a' w'→aN P f k R a' w'):aN P f todo R a w:=by
 have lX:=r.1
 obtain ⟨b',rb,aV,hE,hG,c7⟩:=r.re
 refine iT hT (fo hT hm 3) hm hK n h rb trivial fun a w rb=>?_
 have r:bX mk D w0 K0 sz bs E M a w:=bX.from c7 lX hE hG ⟨by rw [aV,c7],[],rb⟩
 clear h rb
 unfold vA at ho
 split at ho
 ·rename_i hU t' SU p1 SV ia d3 SW p2 SX
  cases c9:hU.beq d3 with
  | false=>simp [c9] at ho
  | true=>
   simp only [c9,cond_true,Option.some.injEq,Prod.mk.injEq] at ho
   obtain ⟨rfl,rfl,rfl⟩:=ho
   obtain rfl:=Nat.eq_of_beq_eq_true c9
   simp only [Bool.and_eq_true,Bool.not_eq_true',Nat.blt_eq] at hd
   obtain ⟨⟨⟨pH,ja⟩,CB⟩,SY⟩:=hd
   have RT:hU≠ia:=fun e=>by subst e;simp at CB
   obtain ⟨lU,tc,bI,I,tf,hlen,β,F,Rm,aT,hs⟩:=r
   dsimp only at Rm hs hlen aT
   have Gu:∀ {F':Nat→aA},nD bs [] (List.range bs.m) β F' I:=fun {F'}=>⟨aT.1,aT.2.1,fun u hu hn=>absurd (List.mem_range.2 hu) hn⟩
   have hp:=hs _ _ he
   generalize hy:a.eval (.tmp t')=y at hp
   cases hp with
   | @pt _ _ bi ci la=>
    obtain ⟨H1,iV,mU,tX⟩:=Rm.at hi
    obtain ⟨H2,fP,mV,mR⟩:=Rm.at mW
    cases mU with
    | @it b bm c0 _ _ _ _ tg CC=>
     rw [la] at tg;cases tg
     obtain ⟨c',aB⟩:=CC um rfl
     cases mV with
     | mp aV vs G hl hr=>
      rw [aB] at aV;cases aV
      have e1:=tX.one
      have e2:=mR.one
      have eO:∀ (v1 v2:Value) (c2:AV) (aF:Beta) (I':aA) (K':World→Prop),(∀ t v,bO E t=some v→aE K' aF v (a.eval (.tmp t)))→aE K' aF c2 v2→
        (((a.put (some hU) v1).put (some ia) v2).tmps.size=sz∧((a.put (some hU) v1).put (some ia) v2).defers=a.defers∧∀ t v,bO ((ia,c2)::E) t=some v→aE K' aF v (((a.put (some hU) v1).put (some ia) v2).eval (.tmp t))):=by
       intro v1 v2 c2 aF I' K' hh CD
       refine ⟨by simp [Act.put,bI],by simp [Act.put],fun t v hv=>?_⟩
       unfold bO at hv
       cases hk:ia.beq t with
       | true=>
        simp only [hk,cond_true,Option.some.injEq] at hv;subst hv
        rw [← Nat.eq_of_beq_eq_true hk,ow _ ia v2 (by simp [Act.put,bI];exact ja)];exact CD
       | false=>
        simp only [hk,cond_false] at hv
        rw [rR _ ia t v2 (fun e=>by subst e;simp at hk)]
        rw [rR _ hU t v1 (fun e=>by subst e;rw [hv] at hx;simp at hx)]
        exact hh t v hv
      refine aN.code (uA ?_)
      show dO P _ _ [(_,false),(_,false)] a w
      unfold dO
      simp only [cond_false]
      refine Fh hy e1 e2 (fun x jU=>?_) h2 (fun h0=>?_) (fun en k9 w1 g1 SZ=>?_)
      ·obtain ⟨j,hj,rfl⟩:=List.getElem_of_mem jU
       obtain ⟨e,v,a1,a2,a3⟩:=oR (j:=j) hl (List.getElem?_eq_getElem (by simpa using hj))
       rw [show (cq es vs).toArray.toList[j]=(cq es vs)[j]'(by simpa using hj) from rfl,a3]
       exact h1 e (List.mem_of_getElem? a1)
      ·unfold dO
       simp only [cond_false]
       refine uN (vs:=#[.bool false]) (v:=.bool false) (by rw [ow _ hU _ (by rw [bI];exact pH)]) rfl ?_
       unfold dO
       refine ⟨rfl,k0 (fun e rB=>?_) _ _ ?_⟩
       ·obtain ⟨j,hj,rfl⟩:=List.getElem_of_mem rB
        have hv:vs[j]?=some vs[j]:=List.getElem?_eq_getElem (by omega)
        have c7:=qA (List.getElem?_eq_getElem hj) hv
        unfold mB at h0
        have:=Array.filter_eq_empty_iff.1 (Array.eq_empty_of_size_eq_zero h0) _ (by simpa using List.mem_of_getElem? c7)
        simpa using this
       ·obtain ⟨q1,q2,q3⟩:=eO (.tuple #[.bool false]) (.bool false) (.d (.v (.bool false))) β I _ hs (.d (.v _))
        exact ⟨lU,List.range bs.m,q1,I,by rw [q2];exact tf,hlen,β,F,Rm,Gu,q3⟩
      ·unfold dO
       simp only [cond_false]
       refine uN (vs:=#[.bool true,en.key,en.val]) (v:=.bool true) (by rw [ow _ hU _ (by rw [bI];exact pH)]) rfl ?_
       unfold dO
       unfold mB at k9
       simp only [Array.toList_filter,List.mem_filter] at k9
       obtain ⟨BP,th⟩:=k9
       obtain ⟨j,hj,rfl⟩:=List.getElem_of_mem BP
       obtain ⟨e,v,a1,a2,a3⟩:=oR (j:=j) hl (List.getElem?_eq_getElem (by simpa using hj))
       have Bf:(cq es vs).toArray.toList[j].born=e.1:=by rw [show (cq es vs).toArray.toList[j]=(cq es vs)[j]'(by simpa using hj) from rfl,a3]
       rw [Bf] at th ⊢
       refine ⟨rfl,k1 j e.1 e.2.1 e.2.2 (by rw [a1]) (by simpa using th) _ _ ?_⟩
       have R1:=Rm.gr g1
       have R2:=R1.set hi iV (o':=.mapIter (some bm) since (seen.toArray.push e.1) ck) (blk':=.it (some um) since (seen++[e.1]) ck) (by
        have:=bK.it (K:=fun w=>K0 w∧az w I) (u:=ui) (b:=bi) (bm:=bm) (since:=since) (ck:=ck) (um:=some um) (seen:=seen++[e.1]) la (fun v hv=>by cases hv;exact ⟨_,aB⟩)
        rw [show (seen++[e.1]).toArray=seen.toArray.push e.1 by simp] at this
        exact this)
       obtain ⟨q1,q2,q3⟩:=eO (.tuple #[.bool true,(cq es vs).toArray.toList[j].key,(cq es vs).toArray.toList[j].val]) (.bool true) (.d (.v (.bool true))) β I _ hs (.d (.v _))
       exact ⟨lU,List.range bs.m,q1,I,by rw [q2];exact tf,by dsimp only;rw [List.length_set];exact hlen,β,_,R2,Gu,q3⟩
 ·simp at ho
end Go.Proofs.YtlinpknagdgphaaGreat
namespace Go.Proofs.YtlinpknagdgphaaGreat
open Go.RowKit
variable {mk:Bool} {P:Program} {T:aW} {f:FuncId} {R:eT} {a:Act} {w:World} {D:List Nat} {w0:World} {K0:World→Prop} {E:List (Nat×AV)} {M:List au} {β:Beta} {F:Nat→aA} {I:aA} {sz:Nat} {todo todo':List Item}
theorem aN.rangeFunc {g:Operand} {ps:Array Tmp} {cx body:Code} {k:List Item} {l:Nat} {mark:List Deferred} {w1 w2 wd:World} {gf:FuncId} {args:Array Value} {dd:Deferred} (lh:R.ro=none)
  (he:(Instr.enterLoop f a.tmps ps cx body none).run P w=.ok (l,mark) w1) (RU:(resolve a.eval (rangeCall g l) 0).run P w1=.ok dd wd) (hinv:(invoke dd.target dd.args).run P wd=.ok (.enter gf args) w2)
  (hc:Calls P gf args w2 fun e w3=>∃ v,e=.returned v∧∃ j w4,(Instr.endLoop l).run P w3=.ok j w4∧aN P f ((j.map Item.code).toList++k) R { a with defers:=mark++a.defers } w4):aN P f (.code (.rangeFunc g ps cx body)::k) R a w:=by
 intro b cs hb hk hr
 have S0:b.roundOf=none:=hr.trans lh
 have s1:=stepR_rangeFunc (P:=P) (b:=b) (a:=a) (k:=k) (cs:=cs) (w:=w) (by rw [hb,S0];exact he) RU hinv
 obtain ⟨e,w3,fr,⟨v,rfl,j,w4,nO,hg⟩,QF,xm,Ps⟩:=hc (b.atR { a with defers:=mark++a.defers } (.inRangeFunc l::k)::cs)
 have s2:=step_leave_returned (P:=P) (c:=b.atR { a with defers:=mark++a.defers } (.inRangeFunc l::k)) (cs:=cs) Ps
 rw [finish_atR_inRangeFunc] at s2
 have s3:=stepR_endRangeFunc (P:=P) (b:=b) (a:={ a with defers:=mark++a.defers }) (k:=k) (cs:=cs) nO
 have hs:Steps P _ _:=QF
 exact (hg b cs hb hk hr).of ((Steps.one s1).trans (hs.trans ((Steps.one s2).trans (.one s3))))
def qP (E:List (Nat×AV)):List Nat→Option (List (Nat×AV))
 | []=>some []
 | t::r=>(match bO E t,qP E r with | some v,some l=>some ((t,v)::l) | _,_=>none)
theorem yB:∀ {ts:List Nat} {E1:List (Nat×AV)},qP E ts=some E1→∀ x ∈ E1,bO E x.1=some x.2
 | [],E1,h,x,hx=>by simp only [qP,Option.some.injEq] at h;subst h;cases hx
 | t::r,E1,h,x,hx=>by
  unfold qP at h
  split at h
  ·rename_i v l h1 h2
   simp only [Option.some.injEq] at h;subst h
   rcases List.mem_cons.1 hx with rfl | hx
   ·exact h1
   ·exact yB h2 x hx
  ·simp at h
def LS.still:LS→Bool
 | .busy=>false
 | _=>true
def LS.then:LS→List Item→List Item
 | .left,k=>.code .ret::k
 | _,k=>k
def yC (P:Program) (T:aW) (f:FuncId) (sz:Nat) (tb:da) (n:Nat) (l ts:List Nat) (x:AV) (M':List au) (bP eO:List Nat) (todo:List Item) (E:List (Nat×AV)) (M:List au):Option (List Item×Prop×List (Nat×AV)×List au):=
 match dw P T (walk P T 3) sz tb n todo ⟨[],E,M,[],[]⟩ with
 | some (.code (.rangeFunc (.tmp g) ps cx body)::k,s)=>(match bO s.E g,qP s.E ts with
  | some (.fn gf bZ),some E1=>(match iP (l++[s.M.length]) (.yl s.M.length::bZ),eP (l++[s.M.length]) (s.M++[.lp .ready f sz E1 ⟨ps,cx,body⟩]) (l++[s.M.length]) with
   | some told,some Ms=>bif cC (l++[s.M.length])&&Nat.ble (l++[s.M.length]).length M'.length&&fR P gf&&cC bP then
    (match (eE (ei (s.M++[.lp .ready f sz E1 ⟨ps,cx,body⟩]) (l++[s.M.length])++(M'.drop (l++[s.M.length]).length).map (cM (outer (l++[s.M.length]) (s.M.length+1)))) (l++[s.M.length]) ((M'.take (l++[s.M.length]).length).map (cM (outer (l++[s.M.length]) (s.M.length+1)))))[s.M.length]? with
    | some (.lp ls _ _ _ _)=>bif ls.still then km bP eO (ls.then k) ⟨aL P gf told Ms x M'::s.vc,s.E,(eE (ei (s.M++[.lp .ready f sz E1 ⟨ps,cx,body⟩]) (l++[s.M.length])++(M'.drop (l++[s.M.length]).length).map (cM (outer (l++[s.M.length]) (s.M.length+1)))) (l++[s.M.length]) ((M'.take (l++[s.M.length]).length).map (cM (outer (l++[s.M.length]) (s.M.length+1))))).set s.M.length .dead,[],[]⟩ else none
    | _=>none) else none
   | _,_=>none)
  | _,_=>none)
 | _=>none
theorem ED {l:Nat} {r:Loop} {ls:LS} (h:w.heap[l]?=some (.loop r)) (bM:ls.still=true) (hs:r.state=ls.state) (hp:r.pending=ls.ji):(Instr.endLoop l).run P w=.ok ls.ji (ct w l (.loop { r with state:=.exhausted })):=by
 unfold Instr.endLoop Instr.getLoop
 simp only [Sem.run_bind,ly h rfl,Result.andThen_ok,Sem.run_pure,hs,hp]
 rw [if_neg (by cases ls<;>first | decide | simp [LS.still] at bM)]
 simp only [Sem.run_bind,sa h rfl,Result.andThen_ok,Sem.run_pure]
theorem LS.then_eq (ls:LS) (k:List Item):(ls.ji.map Item.code).toList++k=ls.then k:=by cases ls<;>rfl
theorem zi (hT:bp P T=true) (hm:P.follows .mixedOrders=true) (hK:∀ w,Kp D w0 w→K0 w) (lh:R.ro=none) (tb:da) (n:Nat) (l ts:List Nat) (x:AV) (M':List au) (bP eO:List Nat) {A:Prop} {E2:List (Nat×AV)} {M2:List au} (r:ca true D w0 K0 sz E M a w)
  (h:yC P T f sz tb n l ts x M' bP eO todo E M=some (todo',A,E2,M2)) (hA:A) (k:∀ a' w',ca true D w0 K0 sz E2 M2 a' w'→aN P f todo' R a' w'):aN P f todo R a w:=by
 unfold yC at h
 split at h
 rotate_left
 ·simp at h
 rename_i g ps cx body k0 s hr
 split at h
 rotate_left
 ·simp at h
 rename_i gf bZ E1 hg n9
 split at h
 rotate_left
 ·simp at h
 rename_i told Ms gU gD
 generalize gO:l++[s.M.length]=l2 at h gU gD
 generalize CE:(au.lp .ready f sz E1 ⟨ps,cx,body⟩)=lp at h gD
 cases hc:(cC l2&&Nat.ble l2.length M'.length&&fR P gf&&cC bP) with
 | false=>simp only [hc,cond_false,reduceCtorEq] at h
 | true=>
  simp only [hc,cond_true] at h
  simp only [Bool.and_eq_true] at hc
  obtain ⟨⟨⟨de,hle⟩,iQ⟩,sM⟩:=hc
  generalize CF:eE (ei (s.M++[lp]) l2++(M'.drop l2.length).map (cM (outer l2 (s.M.length+1)))) l2 ((M'.take l2.length).map (cM (outer l2 (s.M.length+1))))=Mo at h
  split at h
  rotate_left
  ·simp at h
  rename_i ls f9 ub E9 fx nQ
  cases bM:ls.still with
  | false=>simp only [bM,cond_false,reduceCtorEq] at h
  | true=>
  simp only [bM,cond_true] at h
  obtain ⟨rfl,rfl,h3,h4⟩:=ng h
  obtain ⟨dZ,kB⟩:=hA
  refine n8 hT (fo hT hm 3) hm hK n hr r kB fun a w r=>?_
  obtain ⟨bI,I,df,β,F,Rm,hs⟩:=r
  have iZ:=hs g _ hg
  generalize hy:a.eval (.tmp g)=y at iZ
  cases iZ with
  | fn cs cG fO=>
   have he:=run_enterLoop_outer (P:=P) (w:=w) f a.tmps ps cx body
   refine aN.rangeFunc (wd:=(w.alloc (.deferred (some []))).alloc (.loop { state:=.ready,pending:=none,fn:=f,tmps:=a.tmps,params:=ps,assign:=cx,body,defers:=w.heap.size })) (w2:=(w.alloc (.deferred (some []))).alloc (.loop { state:=.ready,pending:=none,fn:=f,tmps:=a.tmps,params:=ps,assign:=cx,body,defers:=w.heap.size })) (gf:=gf) (args:=#[.func (.yield (w.heap.size+1)) #[] #[]]++cs.toArray) (dd:={ target:=.fn (.func gf) cs.toArray,args:=#[.func (.yield (w.heap.size+1)) #[] #[]] }) lh he (by
    simp only [resolve,hy]
    simp [go_sem]) (by simp [invoke,go_sem,uV iQ]) ?_
   have R1:RM D w0 K0 s.M β F ((w.heap.size,.deferred (some []))::I) (w.alloc (.deferred (some []))):=by
    refine ⟨Rm.len,fun u b hb=>(Rm.blk u b hb).mono (fun w hw=>⟨hw.1,(az.app.1 (show az w ([_]++I) from hw.2)).2⟩) (Ext.refl _),?_⟩
    have:=Rm.st.alloc (.deferred (some []))
    exact this.perm (by classical rw [List.perm_iff_count];intro z;simp only [List.count_append,List.count_cons];omega)
   have gI:bL I ((w.heap.size,.deferred (some []))::I):=⟨[_],rfl⟩
   have b6:∀ t v,bO s.E t=some v→aE (fun w'=>K0 w'∧az w' ((w.heap.size,.deferred (some []))::I)) β v (a.eval (.tmp t)):=fun t v hv=>(hs t v hv).mono (fun w hw=>⟨hw.1,gI.holds w hw.2⟩) (Ext.refl _)
   have R2:=R1.new (q:=(some ⟨w.heap.size+1,0,none⟩,0)) (blk:=lp) (Gr.alloc _ (.loop { state:=.ready,pending:=none,fn:=f,tmps:=a.tmps,params:=ps,assign:=cx,body,defers:=w.heap.size })) (by have:=dG.alloc (w.alloc (.deferred (some []))) (.loop { state:=.ready,pending:=none,fn:=f,tmps:=a.tmps,params:=ps,assign:=cx,body,defers:=w.heap.size });rwa [World.size_alloc] at this) (by
    subst CE
    exact .lp (bz:=.ready) (fA R1 _) bI fun x hx=>(b6 x.1 x.2 (yB n9 x hx)).mono (fun _ h=>h) (Ext.app _ _))
   have Bg:(s.M++[lp]).length=s.M.length+1:=by simp
   have cH:=fA R1 (some ⟨w.heap.size+1,0,none⟩,0)
   have cX:=xE (vs:=.yl s.M.length::bZ) (ys:=.func (.yield (w.heap.size+1)) #[] #[]::cs) R2 hK (by simp [cG]) (fun j c y e1 e2=>by
    cases j with
    | zero=>simp at e1 e2;subst e1 e2;exact .yl cH
    | succ j=>simp at e1 e2;exact ((fO j c y e1 e2).mono (fun w hw=>⟨hw.1,gI.holds w hw.2⟩) (Ext.refl _)).mono (fun _ h=>h) (Ext.app _ _)) gU gD (l4 de) (Nat.le_of_ble_eq_true hle) dZ
   rw [Bg,CF] at cX
   have Bh:(#[.func (.yield (w.heap.size+1)) #[] #[]]++cs.toArray:Array Value)=(Value.func (.yield (w.heap.size+1)) #[] #[]::cs).toArray:=by simp
   rw [Bh]
   refine cX.mono ?_
   rintro e w3 ⟨v,rfl,pL,F3,I3,R3,e3,g3,-,-⟩
   refine ⟨v,rfl,?_⟩
   obtain ⟨H,hF,hB,hH⟩:=R3.at nQ
   have CG:pL[s.M.length]?=some (some ⟨w.heap.size+1,0,none⟩,0):=e3 _ _ (by simp) cH
   cases hB with
   | @lp b0 c0 f0 Ix k4 bz E0 Iy tmps hb RV rI=>
    rw [CG] at hb;cases hb
    refine ⟨_,_,ED (ls:=ls) hH.one bM rfl rfl,?_⟩
    rw [LS.then_eq]
    have R4:=R3.x.ea nQ
    rw [List.nil_append,hF] at R4
    have R5:RM D w0 K0 (Mo.set s.M.length .dead) pL (aS F3 s.M.length []) I3 (ct w3 (w.heap.size+1) (.loop { state:=.exhausted,pending:=ls.ji,fn:=f9,tmps,params:=fx.ps,assign:=fx.cx,body:=fx.body,defers:=k4 })):=by
     refine ⟨R4.len,R4.blk,?_⟩
     have s1:=(R4.st.perm (K:=(w.heap.size+1,.loop { state:=ls.state,pending:=ls.ji,fn:=f9,tmps,params:=fx.ps,assign:=fx.cx,body:=fx.body,defers:=k4 })::((List.range (Mo.set s.M.length .dead).length).flatMap (aS F3 s.M.length [])++I3)) (by classical rw [List.perm_iff_count];intro z;simp only [List.count_append,List.count_cons,List.count_nil];omega)).set (.loop { state:=.exhausted,pending:=ls.ji,fn:=f9,tmps,params:=fx.ps,assign:=fx.cx,body:=fx.body,defers:=k4 })
     exact St.l3 (H:=[_]) s1
    refine k _ _ (ca.kD (mk:=true) (a:={ a with defers:=[{ target:=.collected w.heap.size,args:=#[] }]++a.defers }) (E:=s.E) (M:=Mo.set s.M.length .dead) ⟨bI,I3,?_,pL,_,R5,fun t v hv=>?_⟩ sM h3 h4)
    ·have:=Mk.grow df (gI.trans g3)
     refine ⟨List.nodup_cons.2 ⟨fun hd=>?_,this.1⟩,fun d hd=>?_⟩
     ·obtain ⟨b,e1,e2⟩:=df.2 _ hd
      cases e1
      have aK:=(Array.getElem?_eq_some_iff.1 ((az.app.1 Rm.st.holds).2 _ e2)).1
      exact absurd aK (Nat.lt_irrefl _)
     rcases List.mem_append.1 hd with hd | hd
     ·rw [List.mem_singleton] at hd;subst hd
      obtain ⟨J,hJ⟩:=g3
      exact ⟨_,rfl,by rw [hJ];exact List.mem_append_right _ List.mem_cons_self⟩
     ·exact this.2 d hd
    ·exact ((b6 t v hv).mono (fun w hw=>⟨hw.1,g3.holds w hw.2⟩) (Ext.refl _)).mono (fun _ h=>h) (fun u q hq=>e3 u q (by simp) (Ext.app _ _ _ _ hq))
end Go.Proofs.YtlinpknagdgphaaGreat
namespace Go.Proofs.YtlinpknagdgphaaGreat
open Go.RowKit
variable {mk:Bool} {P:Program} {T:aW} {f:FuncId} {R:eT} {Re:Ending→World→Prop} {a:Act} {w:World} {D:List Nat} {w0:World} {K0:World→Prop} {E:List (Nat×AV)} {M:List au} {β:Beta} {F:Nat→aA} {I H:aA} {sz:Nat} {tb:da} {todo todo':List Item}
def fg (x:AV):Prop:=∀ (K K':World→Prop) (β:Beta) (y:Value),aE K β x y→aE K' β x y
def gb (b:au):Prop:=∀ (K K':World→Prop) (β:Beta) (u:Nat) (H:aA),bK K β u b H→bK K' β u b H
theorem fg.v (x:Value):fg (.d (.v x)):=fun K K' β y r=>by cases r with | d r=>cases r with | v=>exact .d (.v _)
theorem fg.mv (u:Nat):fg (.mv u):=fun K K' β y r=>by cases r with | mv h=>exact .mv h
theorem fg.pt (u o:Nat):fg (.pt u o):=fun K K' β y r=>by cases r with | pt h=>exact .pt h
theorem fg.sl (u n:Nat):fg (.sl u n):=fun K K' β y r=>by cases r with | sl h=>exact .sl h
theorem gb.bx {T:Nat} {cells:List AV} (h:∀ c ∈ cells,fg c):gb (.bx T cells):=fun K K' β u H r=>by
 cases r with | bx hb ys hl hr=>exact .bx hb ys hl (fun j c y h1 h2=>h c (List.mem_of_getElem? h1) _ _ _ _ (hr j c y h1 h2))
theorem gb.mu {T c:Nat} {es:List (MK×DV)} (h:∀ e ∈ es,dh e.2):gb (.mu T c es):=fun K K' β u H r=>by
 cases r with | mu es' hp hn aK hb vs G hl hr=>exact .mu es' hp hn aK hb vs G hl (fun j e y h1 h2=>h e.2 (hp.mem_iff.1 (List.mem_map_of_mem (List.mem_of_getElem? h1))) _ _ _ _ (hr j e y h1 h2))
theorem gb.mp {T c:Nat} {es:List (Nat×MK×DV)} (h:∀ e ∈ es,dh e.2.2):gb (.mp T c es):=fun K K' β u H r=>by
 cases r with | mp hb vs G hl hr=>exact .mp hb vs G hl (fun j e y h1 h2=>h e (List.mem_of_getElem? h1) _ _ _ _ (hr j e y h1 h2))
def wR (P:Program):List Deferred→World→World→Prop
 | [],w,w'=>w=w'
 | d::ds,w,w'=>∃ b w1,d.target=.collected b∧(Instr.takeDeferred b).run P w=.ok [] w1∧wR P ds w1 w'
theorem Dx {cs:List Frame}:∀ {ds:List Deferred} {fr:Frame} {w w':World},fr.mode=.returning→fr.defers=ds→wR P ds w w'→Steps P (lone fr cs w) (lone { fr with defers:=[] } cs w')
 | [],fr,w,w',_,hd,h=>by cases h;rw [show ({ fr with defers:=[] }:Frame)=fr by cases fr;simp_all];exact Steps.refl P _
 | d::ds,fr,w,w',hm,hd,⟨b,w1,h1,h2,h3⟩=>by
  have s1:=step_collected (P:=P) (fr:=fr) (cs:=cs) (by rw [hm];simp) hd h1 h2
  have s2:=Dx (cs:=cs) (ds:=ds) (fr:={ fr with defers:=[]++ds }) hm rfl h3
  exact (Steps.one s1).trans s2
theorem aN.HA {fn:Func} {k:List Item} (hf:P.funcs[f]?=some fn) {w':World} (hm:wR P a.defers w w') {v:Value} (hr:(results fn a.tmps).run P w'=.ok v w') (h:Re (.returned v) w'):aN P f (.code .ret::k) (.ends Re) a w:=by
 intro b cs hb hk lh
 rw [Frame.atR_of_none lh]
 have s2:=Dx (P:=P) (cs:=cs) (fr:={ b.at a (.code .ret::k) with mode:=.returning }) rfl rfl hm
 exact ⟨.returned v,w',{ b.at a (.code .ret::k) with mode:=.returning,defers:=[] },h,.of_steps ((Steps.one step_ret).trans s2) (Steps.refl P _),hb,rfl,rfl,hk,fn,by rw [← hb] at hf;exact hf,hr⟩
theorem MP {b:Nat} {w:World} (h:w.heap[b]?=some (.deferred (some []))):(Instr.takeDeferred b).run P w=.ok [] (ct w b (.deferred none)):=by
 unfold Instr.takeDeferred
 simp only [Sem.run_bind,ly h rfl,Result.andThen_ok,Sem.run_pure,sa h rfl]
theorem yD:∀ {ds:List Deferred} {I:aA} {w:World},ds.Nodup→(∀ d ∈ ds,∃ b,d={ target:=.collected b,args:=#[] }∧(b,Obj.deferred (some [])) ∈ I)→St D w0 w (H++I)→∃ w' I',wR P ds w w'∧St D w0 w' (H++I')
 | [],I,w,_,_,s=>⟨w,I,rfl,s⟩
 | d::ds,I,w,hn,h,s=>by
  obtain ⟨b,rfl,hb⟩:=h d List.mem_cons_self
  obtain ⟨s1,s2,rfl⟩:=List.append_of_mem hb
  rw [List.nodup_cons] at hn
  have e1:St D w0 w ((b,.deferred (some []))::(H++(s1++s2))):=s.perm (by classical rw [List.perm_iff_count];intro z;simp only [List.count_append,List.count_cons];omega)
  have e2:=e1.set (.deferred none)
  have e3:St D w0 (ct w b (.deferred none)) (H++((b,.deferred none)::(s1++s2))):=e2.perm (by classical rw [List.perm_iff_count];intro z;simp only [List.count_append,List.count_cons];omega)
  obtain ⟨w',I',g1,g2⟩:=yD (ds:=ds) hn.2 (fun d hd=>by
   obtain ⟨c,rfl,hc⟩:=h d (List.mem_cons_of_mem _ hd)
   refine ⟨c,rfl,?_⟩
   have dN:c≠b:=fun e=>hn.1 (e▸hd)
   rcases List.mem_append.1 hc with hc | hc
   ·exact List.mem_cons_of_mem _ (List.mem_append_left _ hc)
   ·rcases List.mem_cons.1 hc with hc | hc
    ·cases hc;exact absurd rfl dN
    ·exact List.mem_cons_of_mem _ (List.mem_append_right _ hc)) e3
  exact ⟨w',I',⟨b,_,rfl,MP e1.holds.one,g1⟩,g2⟩
def qm (P:Program) (T:aW) (sz:Nat) (tb:da) (n:Nat) (bP ts:List Nat) (todo:List Item) (E:List (Nat×AV)) (M:List au):Option (Prop×List (Nat×AV)×List au):=
 bif cC bP then (match dw P T (walk P T 3) sz tb n todo ⟨[],E,M,[],[]⟩ with
 | some (.code .ret::_,s)=>(match eP bP s.M bP,iy bP s.E ts with
  | some M',some E'=>some (bw s.vc,E',M')
  | _,_=>none)
 | _=>none) else none
theorem Gv (hT:bp P T=true) (hm:P.follows .mixedOrders=true) (hK:∀ w,Kp D w0 w→K0 w) {fn:Func} (hf:P.funcs[f]?=some fn) (tb:da) (n:Nat) (bP ts:List Nat) {A:Prop} {E':List (Nat×AV)} {M':List au} (r:ca true D w0 K0 sz E M a w)
  (h:qm P T sz tb n bP ts todo E M=some (A,E',M')) (hA:A) (hE:∀ x ∈ E',fg x.2) (hM:∀ b ∈ M',gb b)
  (k:∀ a' w',ec D w0 K0 sz E' M' a' w'→∃ v,(results fn a'.tmps).run P w'=.ok v w'∧Re (.returned v) w'):aN P f todo (.ends Re) a w:=by
 unfold qm at h
 cases hk:cC bP with
 | false=>simp [hk] at h
 | true=>
  simp only [hk,cond_true] at h
  split at h
  rotate_left
  ·simp at h
  rename_i k0 s hr
  split at h
  rotate_left
  ·simp at h
  rename_i M1 E1 iY n9
  simp only [Option.some.injEq,Prod.mk.injEq] at h
  obtain ⟨tY,rfl,rfl⟩:=h
  refine n8 hT (fo hT hm 3) hm hK n hr r (by rw [tY];exact hA) fun a w r=>?_
  obtain ⟨bI,I,df,β,F,Rm,hs⟩:=ca.kD r hk iY n9
  obtain ⟨w',I',g1,g2⟩:=yD (P:=P) df.1 df.2 Rm.st
  have r':ec D w0 K0 sz E1 M1 { a with defers:=[] } w':=by
   refine ⟨bI,I',rfl,β,F,⟨Rm.len,fun u b hb=>hM b (List.mem_of_getElem? hb) _ _ _ _ _ (Rm.blk u b hb),g2⟩,fun t v hv=>?_⟩
   exact hE (t,v) (lx hv) _ _ _ _ (hs t v hv)
  obtain ⟨v,h1,h2⟩:=k _ _ r'
  exact aN.HA hf g1 h1 h2
theorem vS (hT:bp P T=true) (hm:P.follows .mixedOrders=true) (hK:∀ w,Kp [] w0 w→K0 w) {fn:Func} (hf:P.funcs[f]?=some fn) (tb:da) (n:Nat) (bP ts:List Nat) {A B:Prop} {E':List (Nat×AV)} {M':List au} {x:DV} (r:ca true [] w0 K0 sz E M a w)
  (h:qm P T sz tb n bP ts todo E M=some (A,E',M')) (h2:s9 T fn.results.toList ⟨[],E',M',[],[]⟩=some (B,x)) (hA:A) (hB:B) (hE:∀ x ∈ E',fg x.2) (hM:∀ b ∈ M',gb b):aN P f todo (mI w0 K0 x) a w:=by
 refine Gv hT hm hK hf tb n bP ts r h hA hE hM fun a' w' r'=>?_
 obtain ⟨-,l,vc,xs,M2,g1,g2,g3,g4⟩:=zf h2 hB
 exact back hT hf r' g1 g2 g3 g4
def QG (w0:World) (K0:World→Prop) (x:AV) (M':List au):Ending→World→Prop:=fun e w'=>∃ v,e=.returned v∧∃ aF F' I',RM [] w0 K0 M' aF F' I' w'∧aE (fun w=>K0 w∧az w I') aF x v
abbrev HB (w0:World) (K0:World→Prop) (x:AV) (M':List au):eT:=.ends (QG w0 K0 x M')
theorem aL.Pt {fn:Func} {c:Code} {args:List AV} {x:AV} {M':List au} (iQ:fR P f=true) (hf:P.funcs[f]?=some fn) (hb:fn.body=some c) (n:Nat) (hn:fn.ntmps=n) (hle:Nat.ble args.length n=true)
  (h:∀ (w0:World) (K0:World→Prop) (a:Act),(∀ w,Kp [] w0 w→K0 w)→ec [] w0 K0 n (gV args 0) [] a w0→aN P f [.code c] (HB w0 K0 x M') a w0):aL P f args [] x M':=by
 refine ⟨iQ,?_⟩
 intro D w0 K0 β F I w ys Rm hK hl hr
 have hle:=Nat.le_of_ble_eq_true hle
 obtain rfl:β=[]:=List.eq_nil_of_length_eq_zero Rm.len
 have bM:St D w0 w ([]++I):=Rm.st
 have py:∀ w',Kp [] w w'→K0 w'∧az w' I:=fun w' k=>by
  have t:St [] w w' []:=⟨k,by simp [keys],by simp [keys],az.nil _⟩
  have s':=St.call bM rfl t
  rw [List.nil_append] at s'
  exact ⟨hK _ s'.kp,s'.holds⟩
 have hg:=h w (fun w=>K0 w∧az w I) { tmps:=ys.toArray++Array.replicate (fn.ntmps-ys.toArray.size) undef,defers:=[] } py ⟨by simp;omega,[],rfl,[],fun _=>[],⟨rfl,by simp,by simpa using St.none w⟩,by
  intro t v hv
  obtain ⟨y,rfl,rfl,hy⟩:∃ y:Nat×AV,y.1=t∧y.2=v∧y ∈ gV args 0:=⟨(t,v),rfl,rfl,lx hv⟩
  obtain ⟨-,h2⟩:=pV args 0 y hy
  simp only [Nat.sub_zero] at h2
  obtain ⟨aK,-⟩:=List.getElem?_eq_some_iff.1 h2
  have iF:ys[y.1]?=some ys[y.1]:=List.getElem?_eq_getElem (by omega)
  have he:({ tmps:=ys.toArray++Array.replicate (fn.ntmps-ys.toArray.size) undef,defers:=[] }:Act).eval (.tmp y.1)=ys[y.1]:=by
   have:y.1<ys.length:=by omega
   simp [Act.eval,Array.getD_eq_getD_getElem?,Array.getElem?_append,this]
  rw [he]
  exact (hr y.1 y.2 _ h2 iF).mono (fun w hw=>hw.1) (Ext.refl _)⟩
 refine (pO hf hb hg).mono ?_
 rintro e w' ⟨v,rfl,aF,F',I',R',hx⟩
 have s2:=St.call bM rfl R'.st
 have b9:∀ w,K0 w∧az w (I'++I)→(K0 w∧az w I)∧az w I':=fun w hw=>⟨⟨hw.1,(az.app.1 hw.2).2⟩,(az.app.1 hw.2).1⟩
 refine ⟨v,rfl,aF,F',I'++I,⟨R'.len,fun u b hb=>(R'.blk u b hb).mono b9 (Ext.refl _),?_⟩,fun u q hq=>by simp at hq,⟨I',rfl⟩,hx.mono b9 (Ext.refl _)⟩
 rw [List.append_assoc] at s2
 exact s2
def wS (T:aW) (rs:List ResultVar) (E:List (Nat×AV)) (M:List au):Option AV:=match jj T E M rs with | some l=>some (BN l) | none=>none
theorem Pu (hT:bp P T=true) (hm:P.follows .mixedOrders=true) (hK:∀ w,Kp [] w0 w→K0 w) {fn:Func} (hf:P.funcs[f]?=some fn) (tb:da) (n:Nat) (bP ts:List Nat) {A:Prop} {E':List (Nat×AV)} {M':List au} {x:AV} (r:ca true [] w0 K0 sz E M a w)
  (h:qm P T sz tb n bP ts todo E M=some (A,E',M')) (h2:wS T fn.results.toList E' M'=some x) (hA:A) (hE:∀ x ∈ E',fg x.2) (hM:∀ b ∈ M',gb b):aN P f todo (HB w0 K0 x M') a w:=by
 refine Gv hT hm hK hf tb n bP ts r h hA hE hM fun a' w' r'=>?_
 obtain ⟨-,I,-,β,F,Rm,hs⟩:=r'
 unfold wS at h2
 split at h2
 ·rename_i l hl
  simp only [Option.some.injEq] at h2;subst h2
  obtain ⟨ys,e1,e2,e3⟩:=oK hT Rm hs hl
  refine ⟨_,si rfl e1,_,rfl,β,F,I,Rm,?_⟩
  match ys,l,e2,e3 with
  | [],[],_,_=>exact .tu [] rfl (by simp)
  | [y],[v],_,e3=>exact e3 0 v y rfl rfl
  | y::y'::ys,v::v'::l,e2,e3=>exact .tu _ e2 e3
 ·simp at h2
theorem ca.mark (r:ca mk D w0 K0 sz E M a w):ca true D w0 K0 sz E M a w:=by
 cases mk with
 | true=>exact r
 | false=>obtain ⟨h1,I,h2,h3⟩:=r;exact ⟨h1,I,by rw [h2];exact Mk.nil I,h3⟩
end Go.Proofs.YtlinpknagdgphaaGreat
namespace Go.Proofs.YtlinpknagdgphaaGreat
open Go.RowKit
variable {mk:Bool} {P:Program} {T:aW} {f:FuncId} {R:eT} {a:Act} {w:World} {D:List Nat} {w0:World} {K0:World→Prop} {E:List (Nat×AV)} {M M2:List au} {β:Beta} {F:Nat→aA} {I H:aA} {sz:Nat} {tb:da} {todo todo':List Item}
theorem ca.word (r:ca mk D w0 K0 sz E M a w) (u:Nat) {b b':au} (hM:M[u]?=some b) (h:∀ (K:World→Prop) (β:Beta) (H:aA),bK K β u b H→bK K β u b' H):ca mk D w0 K0 sz E (M.set u b') a w:=by
 obtain ⟨h1,I,h2,β,F,Rm,hs⟩:=r
 refine ⟨h1,I,h2,β,F,⟨by rw [List.length_set];exact Rm.len,fun v c hv=>?_,by rw [List.length_set];exact Rm.st⟩,hs⟩
 rw [List.getElem?_set] at hv
 split at hv
 ·rename_i e
  subst e
  split at hv
  ·simp only [Option.some.injEq] at hv;subst hv;exact h _ _ _ (Rm.blk u b hM)
  ·simp at hv
 ·exact Rm.blk v c hv
theorem ca.forget (r:ca mk D w0 K0 sz E M a w) (u:Nat) {Tm ck:Nat} {es:List (Nat×MK×DV)} {es2:List (MK×DV)} (hM:M[u]?=some (.mp Tm ck es)) (hp:(es.map fun e=>e.2).Perm es2) (hn:(es.map fun e=>e.1).Nodup) (aK:∀ e ∈ es,e.1<ck):ca mk D w0 K0 sz E (M.set u (.mu Tm ck es2)) a w:=
 r.word u hM fun K β H h=>by cases h with | mp hb vs G hl hr=>exact .mu es hp hn aK hb vs G hl hr
theorem ca.told (r:ca mk D w0 K0 sz E M a w) (u:Nat) {Tm ck:Nat} {es2:List (MK×DV)} (hM:M[u]?=some (.mu Tm ck es2)):∃ es:List (Nat×MK×DV),(es.map fun e=>e.2).Perm es2∧(es.map fun e=>e.1).Nodup∧(∀ e ∈ es,e.1<ck)∧ca mk D w0 K0 sz E (M.set u (.mp Tm ck es)) a w:=by
 obtain ⟨h1,I,h2,β,F,Rm,hs⟩:=r
 have hB:=Rm.blk u _ hM
 generalize hF:F u=Fu at hB
 cases hB with
 | mu es hp hn aK hb vs G hl hr=>
  refine ⟨es,hp,hn,aK,h1,I,h2,β,F,⟨by rw [List.length_set];exact Rm.len,fun v c hv=>?_,by rw [List.length_set];exact Rm.st⟩,hs⟩
  rw [List.getElem?_set] at hv
  split at hv
  ·rename_i e
   subst e
   split at hv
   ·simp only [Option.some.injEq] at hv;subst hv;rw [hF];exact .mp hb vs G hl hr
   ·simp at hv
  ·exact Rm.blk v c hv
inductive lY:List (List DV)→List (List DV)→Prop where
 | nil:lY [] []
 | cons {x x':List DV} {l l':List (List DV)} (h:j3 x x') (t:lY l l'):lY (x::l) (x'::l')
theorem lY.ok {l l':List (List DV)} (h:lY l l'):l.length=l'.length∧∀ (i:Nat) r r',l[i]?=some r→l'[i]?=some r'→j3 r r':=by
 induction h with
 | nil=>simp
 | cons h t ih=>
  refine ⟨by simp [ih.1],fun i r r' h1 h2=>?_⟩
  cases i with
  | zero=>simp at h1 h2;subst h1 h2;exact h
  | succ i=>exact ih.2 i r r' (by simpa using h1) (by simpa using h2)
theorem ca.less (r:ca mk D w0 K0 sz E M a w) (u:Nat) {Tm k:Nat} {rows rows':List (List DV)} (hM:M[u]?=some (.rw Tm k rows)) (h:lY rows rows'):ca mk D w0 K0 sz E (M.set u (.rw Tm k rows')) a w:=
 r.word u hM fun K β H hb=>by
  cases hb with
  | rw hb X G hl hs hr=>
   obtain ⟨e1,e2⟩:=h.ok
   rw [e1] at hs ⊢
   have key:∀ (i:Nat) r',rows'[i]?=some r'→∃ r,rows[i]?=some r∧r.length=r'.length∧∀ (j:Nat) c c',r[j]?=some c→r'[j]?=some c'→Le c c':=fun i r' hi=>by
    have aK:i<rows.length:=by rw [e1];exact (List.getElem?_eq_some_iff.1 hi).1
    have e:=List.getElem?_eq_getElem aK
    exact ⟨_,e,(e2 i _ r' e hi).ok⟩
   refine .rw hb X G (fun i r' hi=>?_) hs fun i r' j c x hi h1 h2=>?_
   ·obtain ⟨r,g1,g2,-⟩:=key i r' hi
    have:=hl i r g1;omega
   ·obtain ⟨r,g1,g2,g3⟩:=key i r' hi
    have hj:j<r.length:=by rw [g2];exact (List.getElem?_eq_some_iff.1 h1).1
    have e:=List.getElem?_eq_getElem hj
    exact g3 j _ c e h1 K x _ (hr i r j _ x g1 e h2)
def GZ (u k:Nat):AV→AV
 | .pt v o=>bif v.beq u then .ep u k 0 o else .pt v o
 | c=>bif ik [u] c then c else .d .jk
def G3 (u k n:Nat) (M:List au):Option (List au):=match M[u]? with
 | some (.bx T cells)=>(match ta cells with | some ds=>bif Nat.beq ds.length (n*k)&&Nat.blt 0 k then some ((M.map (gT [u])).set u (.rw T k ((List.range n).map fun i=>(ds.drop (i*k)).take k))) else none | none=>none)
 | _=>none
theorem ca.Pv {E2:List (Nat×AV)} {M3:List au} (r:ca mk D w0 K0 sz E M a w) (u k n:Nat) (h:G3 u k n M=some M2) (e:(E.map fun x=>(x.1,GZ u k x.2))=E2) (e2:M2=M3):ca mk D w0 K0 sz E2 M3 a w:=by
 subst e e2
 obtain ⟨g1,I,g2,β,F,R,hs⟩:=r
 unfold G3 at h
 split at h
 rotate_left
 ·cases h
 rename_i T cells hM
 split at h
 rotate_left
 ·cases h
 rename_i ds tP
 cases gi:(Nat.beq ds.length (n*k)&&Nat.blt 0 k) with
 | false=>simp [gi] at h
 | true=>
  simp only [gi,cond_true,Option.some.injEq] at h;subst h
  simp only [Bool.and_eq_true,Nat.blt_eq] at gi
  have Up:=Nat.eq_of_beq_eq_true gi.1
  have SB:=gi.2
  obtain rfl:=FC tP
  have hB:=R.blk u _ hM
  have aK:=(List.getElem?_eq_some_iff.1 hM).1
  have R1:=R.x.ea hM
  rw [List.nil_append] at R1
  generalize hC:F u=Fu at hB R1
  cases hB with
  | @bx b c _ _ hb ys hl hr=>
   rw [List.length_map] at hl
   have hq:(β.set u (some ⟨b,0,none⟩,n))[u]?=some (some ⟨b,0,none⟩,n):=by rw [List.getElem?_set,if_pos rfl,if_pos (by rw [R.len];exact aK)]
   have uc:=DW k n ys (by omega)
   have fv:∀ i,i<n→i*k+k≤n*k:=fun i hi=>by have:=Nat.mul_le_mul_right k (show i+1≤n from hi);rw [Nat.succ_mul] at this;exact this
   have cu:∀ (i:Nat) r,((List.range n).map fun i=>(ds.drop (i*k)).take k)[i]?=some r→i<n∧r=(ds.drop (i*k)).take k:=fun i r hi=>by
    rw [List.getElem?_map,Option.map_eq_some_iff] at hi
    obtain ⟨j,h1,rfl⟩:=hi
    obtain ⟨g,rfl⟩:=List.getElem?_eq_some_iff.1 h1
    rw [List.getElem_range]
    exact ⟨by simpa using g,rfl⟩
   have dY:bK (fun w=>K0 w∧az w I) (β.set u (some ⟨b,0,none⟩,n)) u (.rw T k ((List.range n).map fun i=>(ds.drop (i*k)).take k)) [(b,.cells ys.toArray T (0,0))]:=by
    have hlen:((List.range n).map fun i=>(ds.drop (i*k)).take k).length=n:=by simp
    have:=bK.rw (K:=fun w=>K0 w∧az w I) (u:=u) (T:=T) (k:=k) (c:=n) (a:=some ⟨b,0,none⟩) (rows:=(List.range n).map fun i=>(ds.drop (i*k)).take k) (H0:=[(b,.cells ys.toArray T (0,0))]) (β:=β.set u (some ⟨b,0,none⟩,n)) hq (fun i=>(ys.drop (i*k)).take k) (fun _ _=>[]) (fun i r hi=>by
     obtain ⟨h1,rfl⟩:=cu i r hi
     have:=fv i h1
     simp;omega) (by
      rw [hlen,uc]
      exact ⟨by omega,Or.inr ⟨b,n,_,(0,0),rfl,rfl,kZ _,by simp;omega,Nat.le_refl _,by rw [List.take_of_length_le];simp;omega⟩⟩) (fun i r j c x hi h1 h2=>by
      obtain ⟨g1,rfl⟩:=cu i r hi
      rw [List.getElem?_take,List.getElem?_drop] at h1 h2
      split at h1
      ·rename_i hj
       rw [if_pos hj] at h2
       have:=hr (i*k+j) (.d c) x (by rw [List.getElem?_map,h1];rfl) h2
       cases this with | d h=>exact h
      ·simp at h1)
    rw [D1,List.append_nil] at this
    exact this
   have R2:=((R1.perm (Y:=[(b,.cells ys.toArray T (0,0))]++[]) (by rw [List.append_nil])).renew (by rw [List.length_set];exact aK) (by simp [aS]) dY).nil rfl
   rw [uB] at R2
   refine ⟨g1,I,g2,_,_,R2,fun t v hv=>?_⟩
   obtain ⟨v0,h1,rfl⟩:=D2 hv
   have ho:=hs t v0 h1
   have hE:=yn β u (some ⟨b,0,none⟩,n)
   unfold GZ
   split
   ·rename_i v o
    cases xl:v.beq u with
    | true=>
     rw [cond_true]
     obtain rfl:=Nat.eq_of_beq_eq_true xl
     generalize a.eval (.tmp t)=y at ho
     cases ho with
     | pt cH=>
      rw [hb] at cH;cases cH
      have:=aE.ep (K:=fun w=>K0 w∧az w I) (k:=k) (i:=0) (o:=o) hq
      simpa using this
    | false=>
     rw [cond_false]
     generalize a.eval (.tmp t)=y at ho
     cases ho with
     | pt cH=>exact .pt (hE _ _ (by simp;rintro rfl;simp at xl) cH)
   ·cases hc:ik [u] v0 with
    | true=>exact pU hE hc ho
    | false=>exact .d (.jk _)
def nR:Code→List Item→List (RF×List Item)
 | .seq x y,k=>nR x (.code y::k)++nR y k
 | .cond _ x y,k=>nR x k++nR y k
 | .block i c,k=>nR c (.inBlock i::k)
 | .loop c,k=>nR c (.inLoop c::k)
 | .rangeFunc _ ps cx body,k=>[(⟨ps,cx,body⟩,k)]
 | _,_=>[]
def dU (fn:Func) (n:Nat):RF:=match fn.body with | some c=>(match (nR c [])[n]? with | some x=>x.1 | none=>⟨#[],.skip,.skip⟩) | none=>⟨#[],.skip,.skip⟩
def wT (fn:Func) (n:Nat):List Item:=match fn.body with | some c=>(match (nR c [])[n]? with | some x=>x.2 | none=>[]) | none=>[]
def o6 (id:Nat):Code→List (Array Oper)
 | .seq x y=>o6 id x++o6 id y
 | .cond _ x y=>o6 id x++o6 id y
 | .block _ c=>o6 id c
 | .loop c=>o6 id c
 | .region i ops _=>bif i.beq id then [ops] else []
 | _=>[]
def ops (fn:Func) (id:Nat):Array Oper:=match fn.body with | some c=>(match o6 id c with | o::_=>o | []=>#[]) | none=>#[]
end Go.Proofs.YtlinpknagdgphaaGreat
namespace Go.Proofs.YtlinpknagdgphaaGreat
open Go.RowKit
variable {mk:Bool} {P:Program} {T:aW} {f:FuncId} {R:eT} {a:Act} {w:World} {D:List Nat} {w0:World} {K0:World→Prop} {E:List (Nat×AV)} {M:List au} {sz:Nat} {todo todo':List Item} {b:dH}
def ti (m:Nat):List (List Nat)→List RS→Bool
 | [],[]=>true
 | l::ls,s::r=>fJ m l&&ff m s.mv&&ti m ls r
 | _,_=>false
theorem Dy {m:Nat} {ts:List Nat} {E':List (Nat×AV)} {M':List au}:∀ {ls:List (List Nat)} {r:List RS} {A:List Prop} {o:List (List (Nat×AV)×List au)},kK ts ls r=some (A,o)→ti m ls r=true→(∀ x ∈ o,x=(E',M'))→bw A→∀ s ∈ r,bw s.vc∧∃ l,cC l=true∧fJ m l=true∧ff m s.mv=true∧eP l s.M l=some M'∧iy l s.E ts=some E'
 | [],[],_,_,_,_,_,_,s,hs=>by cases hs
 | [],_::_,_,_,h,_,_,_,_,_=>by simp [kK] at h
 | _::_,[],_,_,h,_,_,_,_,_=>by simp [kK] at h
 | l::ls,s::r,A,o,h,hf,ho,hA,s',dP=>by
  unfold kK at h
  simp only [ti,Bool.and_eq_true] at hf
  cases hn:cC l with
  | false=>simp [hn] at h
  | true=>
   simp only [hn,cond_true] at h
   split at h
   ·rename_i M1 E1 A1 r1 h1 h2 h3
    simp only [Option.some.injEq,Prod.mk.injEq] at h;obtain ⟨rfl,rfl⟩:=h
    have e:=ho _ List.mem_cons_self
    simp only [Prod.mk.injEq] at e;obtain ⟨rfl,rfl⟩:=e
    rcases List.mem_cons.1 dP with rfl | dP
    ·exact ⟨hA.1,l,hn,hf.1.1,hf.1.2,h1,h2⟩
    ·exact Dy h3 hf.2 (fun x hx=>ho x (List.mem_cons_of_mem _ hx)) hA.2 s' dP
   ·cases h
def EE (P:Program) (T:aW) (sz mm:Nat) (tb:da) (n:Nat) (nl:List Nat) (mZ:List (List Nat)) (ts:List Nat) (todo:List Item) (E:List (Nat×AV)) (M:List au):Option (List Item×Prop×List (List (Nat×AV)×List au)):=
 match dw P T (walk P T 3) sz tb n todo ⟨[],E,M,[],[]⟩ with
 | some (.code (.region id ops true)::k,s)=>bif Region.noSelect ops then (match kP P T (walk P T 3) sz ops (o2 tb id) nl ops.size (Array.replicate ops.size false) [] s with
  | some Ls=>bif ti mm mZ Ls then (match kK ts mZ Ls with | some (A,o)=>some (k,bw A,o) | none=>none) else none
  | none=>none) else none
 | _=>none
theorem bX.key (r:bX mk D w0 K0 sz b E M a w):∃ b',dy mk D w0 K0 sz b' ⟨[],E,M,[],[]⟩ a w∧∀ {s:RS} {a':Act} {w':World} {M':List au} {E':List (Nat×AV)} {l ts:List Nat},cC l=true→fJ b.m l=true→ff b.m s.mv=true→eP l s.M l=some M'→iy l s.E ts=some E'→dy mk D w0 K0 sz b' s a' w'→bX mk D w0 K0 sz b E' M' a' w':=by
 have hb:=r.1
 obtain ⟨b',rb,aV,hE,hG,c7⟩:=r.re
 exact ⟨b',rb,fun hn hs hf h3 h4 r'=>bX.from c7 hb hE hG (r'.kD (by rw [aV,c7]) hn (by rw [c7];exact hs) (by rw [c7];exact hf) h3 h4)⟩
theorem FD (hT:bp P T=true) (hm:P.follows .mixedOrders=true) (hK:∀ w,Kp D w0 w→K0 w) {mm:Nat} (aB:b.m=mm) (tb:da) (n m:Nat) (nl:List Nat) (mZ:List (List Nat)) (ts:List Nat) {A:Prop} {E':List (Nat×AV)} {M':List au} (r:bX mk D w0 K0 sz b E M a w)
  (h:EE P T sz mm tb n nl mZ ts todo E M=some (todo',A,List.replicate m (E',M'))) (hA:A) (k:∀ a' w',bX mk D w0 K0 sz b E' M' a' w'→aN P f todo' R a' w'):aN P f todo R a w:=by
 subst aB
 obtain ⟨b',rb,key⟩:=r.key
 unfold EE at h
 split at h
 ·rename_i id ops k0 s hr
  cases hs:Region.noSelect ops with
  | false=>simp [hs] at h
  | true=>
   simp only [hs,cond_true] at h
   split at h
   ·rename_i Ls hL
    cases BQ:ti b.m mZ Ls with
    | false=>simp [BQ] at h
    | true=>
    simp only [BQ,cond_true] at h
    split at h
    ·rename_i A1 o ho
     simp only [Option.some.injEq,Prod.mk.injEq] at h;obtain ⟨rfl,rfl,rfl⟩:=h
     have hl:=Dy ho BQ (fun x hx=>List.eq_of_mem_replicate hx) hA
     obtain ⟨s1,h1,h2⟩:=vn _ _ _ _ hL
     refine iT hT (fo hT hm 3) hm hK n hr rb (h2 (hl s1 h1).1) fun a1 w1 r1=>aN.code ?_
     refine Hz hT (fo hT hm 3) hm hK (by rintro d v c a w ⟨h,-⟩;cases h) r1 _ hs hL fun s' dP=>⟨(hl s' dP).1,fun a' w' r'=>⟨rfl,?_⟩⟩
     obtain ⟨-,l,g1,g2,g3,g4,g5⟩:=hl s' dP
     exact k a' w' (key g1 g2 g3 g4 g5 r')
    ·cases h
   ·cases h
 ·cases h
def Gw (P:Program) (T:aW) (sz m:Nat) (tb:da) (n:Nat) (l ts:List Nat) (todo:List Item) (E:List (Nat×AV)) (M:List au):Option (List Item×Prop×List (Nat×AV)×List au):=
 bif cC l&&fJ m l then (match dw P T (walk P T 3) sz tb n todo ⟨[],E,M,[],[]⟩ with
 | some (t,s)=>bif ff m s.mv then km l ts t s else none
 | none=>none) else none
theorem ch (hT:bp P T=true) (hm:P.follows .mixedOrders=true) (hK:∀ w,Kp D w0 w→K0 w) {m:Nat} (aB:b.m=m) (tb:da) (n:Nat) (l ts:List Nat) {A:Prop} {E':List (Nat×AV)} {M':List au} (r:bX mk D w0 K0 sz b E M a w)
  (h:Gw P T sz m tb n l ts todo E M=some (todo',A,E',M')) (hA:A) (k:∀ a' w',bX mk D w0 K0 sz b E' M' a' w'→aN P f todo' R a' w'):aN P f todo R a w:=by
 subst aB
 obtain ⟨b',rb,key⟩:=r.key
 unfold Gw at h
 cases hn:(cC l&&fJ b.m l) with
 | false=>simp [hn] at h
 | true=>
  simp only [hn,cond_true] at h
  simp only [Bool.and_eq_true] at hn
  split at h
  ·rename_i t s hr
   cases hf:ff b.m s.mv with
   | false=>simp [hf] at h
   | true=>
    simp only [hf,cond_true] at h
    obtain ⟨rfl,rfl,hM,hE⟩:=ng h
    exact iT hT (fo hT hm 3) hm hK n hr rb hA fun a' w' r'=>k a' w' (key hn.1 hn.2 hf hM hE r')
  ·cases h
end Go.Proofs.YtlinpknagdgphaaGreat
namespace Go.Proofs.YtlinpknagdgphaaGreat
open Go.RowKit
variable {mk:Bool} {P:Program} {T:aW} {a:Act} {w:World} {D:List Nat} {w0:World} {K0:World→Prop} {E E1 E2:List (Nat×AV)} {M M1 M2 M3:List au} {β:Beta} {F:Nat→aA} {I X:aA} {sz:Nat} {b:dH}
theorem bX.via {ι:Type} {N:ι→List au} (r:bX mk D w0 K0 sz b E M a w) (h:∀ β F I,RM D w0 K0 M β F I w→∃ x aF F' I',RM D w0 K0 (N x) aF F' I' w∧Ext β aF∧bL I I'∧M.length≤(N x).length):∃ x,bX mk D w0 K0 sz b E (N x) a w:=by
 obtain ⟨hb,tc,h1,I,h2,h3,β,F,R,aT,hs⟩:=r
 obtain ⟨x,aF,F',I',R',e,g,hl⟩:=h β F I R
 exact ⟨x,hb,List.range b.m,h1,I',h2.grow g,Nat.le_trans h3 hl,aF,F',R',⟨fun u x hu hx=>e u x (aT.1 u x hu hx),aT.2.1.trans g,fun u hu hn=>absurd (List.mem_range.2 hu) hn⟩,fun t v hv=>(hs t v hv).mono (fun w hw=>⟨hw.1,g.holds w hw.2⟩) e⟩
end Go.Proofs.YtlinpknagdgphaaGreat
namespace Go.Proofs.YtlinpknagdgphaaGreat
open Go.RowKit
variable {mk:Bool} {P:Program} {a:Act} {w:World} {D:List Nat} {w0:World} {K0:World→Prop} {E E1 E2:List (Nat×AV)} {M M1 M2 M3:List au} {sz:Nat} {b:dH}
theorem bX.stay {p1 p2:List Prop} (r:bX mk D w0 K0 sz b E M a w) (ls:List Nat) (lc:List (Nat×Nat)) (h:tZ ls E M=some (p1,E1,M1)) (h2:ua lc M1=some (p2,M2)) (q1:bw p1) (q2:bw p2) (e:E1=E2) (e2:M2=M3) (hl:Nat.ble M.length M2.length=true:=by kernel_rfl):bX mk D w0 K0 sz b E2 M3 a w:=by
 subst e e2
 obtain ⟨hb,tc,h1,I,hg,h3,β,F,R,aT,hs⟩:=r
 obtain ⟨F1,I1,R1,gI,s1⟩:=Gs (ev:=fun t=>a.eval (.tmp t)) h q1 R hs
 obtain ⟨F2,I2,R2,g⟩:=Gt h2 q2 R1
 exact ⟨hb,List.range b.m,h1,I2,(hg.grow gI).grow g,Nat.le_trans h3 (Nat.le_of_ble_eq_true hl),β,F2,R2,⟨aT.1,aT.2.1.trans (gI.trans g),fun u hu hn=>absurd (List.mem_range.2 hu) hn⟩,fun t v hv=>(s1 t v hv).mono (fun w hw=>⟨hw.1,g.holds w hw.2⟩) (Ext.refl _)⟩
theorem bX.freeze (r:bX mk D w0 K0 sz b E M a w) (us:List Nat) (h:q6 us M=some M1) (e:M1=M2) (hl:Nat.ble M.length M1.length=true:=by kernel_rfl):bX mk D w0 K0 sz b E M2 a w:=by
 obtain ⟨-,h'⟩:=r.via (ι:=Unit) (N:=fun _=>M2) fun β _ _ R=>by
  subst e
  obtain ⟨F2,I2,R2,g⟩:=Af h R
  exact ⟨(),β,F2,I2,R2,Ext.refl _,g,Nat.le_of_ble_eq_true hl⟩
 exact h'
theorem bX.told (r:bX mk D w0 K0 sz b E M a w) (u:Nat) {Tm ck:Nat} {es2:List (MK×DV)} (hM:M[u]?=some (.mu Tm ck es2)):∃ es:List (Nat×MK×DV),(es.map fun e=>e.2).Perm es2∧(es.map fun e=>e.1).Nodup∧(∀ e ∈ es,e.1<ck)∧bX mk D w0 K0 sz b E (M.set u (.mp Tm ck es)) a w:=by
 obtain ⟨x,h⟩:=r.via (ι:={es:List (Nat×MK×DV) // (es.map fun e=>e.2).Perm es2∧(es.map fun e=>e.1).Nodup∧∀ e ∈ es,e.1<ck}) (N:=fun x=>M.set u (.mp Tm ck x.1)) fun β F I R=>by
  have hB:=R.blk u _ hM
  generalize hF:F u=Fu at hB
  cases hB with
  | mu es hp hn aK hb vs G hl hr=>
   refine ⟨⟨es,hp,hn,aK⟩,β,F,I,⟨by rw [List.length_set];exact R.len,fun v c hv=>?_,by rw [List.length_set];exact R.st⟩,Ext.refl β,bL.refl I,by simp⟩
   rw [List.getElem?_set] at hv
   split at hv
   ·rename_i e
    subst e
    split at hv
    ·simp only [Option.some.injEq] at hv;subst hv;rw [hF];exact .mp hb vs G hl hr
    ·simp at hv
   ·exact R.blk v c hv
 exact ⟨x.1,x.2.1,x.2.2.1,x.2.2.2,h⟩
end Go.Proofs.YtlinpknagdgphaaGreat
namespace Go.Proofs.YtlinpknagdgphaaGreat
open Go.RowKit
variable {mk:Bool} {P:Program} {T:aW} {a:Act} {w:World} {D:List Nat} {w0:World} {K0:World→Prop} {E:List (Nat×AV)} {M:List au} {β:Beta} {F:Nat→aA} {I:aA} {sz:Nat} {b:dH}
theorem bK.less {K:World→Prop} {u Tm k:Nat} {rows rows':List (List DV)} {H:aA} (hb:bK K β u (.rw Tm k rows) H) (h:lY rows rows'):bK K β u (.rw Tm k rows') H:=by
 cases hb with
 | rw hb X G hl hs hr=>
  obtain ⟨e1,e2⟩:=h.ok
  rw [e1] at hs ⊢
  have key:∀ (i:Nat) r',rows'[i]?=some r'→∃ r,rows[i]?=some r∧r.length=r'.length∧∀ (j:Nat) c c',r[j]?=some c→r'[j]?=some c'→Le c c':=fun i r' hi=>by
   have aK:i<rows.length:=by rw [e1];exact (List.getElem?_eq_some_iff.1 hi).1
   have e:=List.getElem?_eq_getElem aK
   exact ⟨_,e,(e2 i _ r' e hi).ok⟩
  refine .rw hb X G (fun i r' hi=>?_) hs fun i r' j c x hi h1 h2=>?_
  ·obtain ⟨r,g1,g2,-⟩:=key i r' hi
   have:=hl i r g1;omega
  ·obtain ⟨r,g1,g2,g3⟩:=key i r' hi
   have hj:j<r.length:=by rw [g2];exact (List.getElem?_eq_some_iff.1 h1).1
   have e:=List.getElem?_eq_getElem hj
   exact g3 j _ c e h1 K x _ (hr i r j _ x g1 e h2)
theorem bX.less (r:bX mk D w0 K0 sz b E M a w) (u:Nat) {Tm k:Nat} {rows rows':List (List DV)} (hM:M[u]?=some (.rw Tm k rows)) (h:lY rows rows'):bX mk D w0 K0 sz b E (M.set u (.rw Tm k rows')) a w:=by
 obtain ⟨-,r'⟩:=r.via (N:=fun _:Unit=>M.set u (.rw Tm k rows')) fun β F I R=>⟨(),β,F,I,⟨by rw [List.length_set];exact R.len,fun v c hv=>by
  rw [List.getElem?_set] at hv
  split at hv
  ·rename_i e
   subst e
   split at hv
   ·simp only [Option.some.injEq] at hv;subst hv;exact (R.blk u _ hM).less h
   ·simp at hv
  ·exact R.blk v c hv,by rw [List.length_set];exact R.st⟩,Ext.refl β,bL.refl I,by simp⟩
 exact r'
end Go.Proofs.YtlinpknagdgphaaGreat
namespace Go.Proofs.YtlinpknagdgphaaGreat
open Go.RowKit
variable {mk:Bool} {P:Program} {T:aW} {f:FuncId} {R:eT} {a:Act} {w:World} {D:List Nat} {w0:World} {K0:World→Prop} {E:List (Nat×AV)} {M:List au} {β:Beta} {F:Nat→aA} {I:aA} {sz:Nat} {todo todo':List Item} {b:dH}
def TL (P:Program) (T:aW) (f:FuncId) (sz m:Nat) (tb:da) (n:Nat) (l ts:List Nat) (x:AV) (M':List au) (bP eO:List Nat) (todo:List Item) (E:List (Nat×AV)) (M:List au):Option (List Item×Prop×List (Nat×AV)×List au):=
 match dw P T (walk P T 3) sz tb n todo ⟨[],E,M,[],[]⟩ with
 | some (_,s)=>bif fJ m bP&&ff m s.mv then yC P T f sz tb n l ts x M' bP eO todo E M else none
 | _=>none
def EF (P:Program) (T:aW) (sz m:Nat) (tb:da) (n:Nat) (bP ts:List Nat) (todo:List Item) (E:List (Nat×AV)) (M:List au):Option (Prop×List (Nat×AV)×List au):=
 match dw P T (walk P T 3) sz tb n todo ⟨[],E,M,[],[]⟩ with
 | some (_,s)=>bif fJ m bP&&ff m s.mv then qm P T sz tb n bP ts todo E M else none
 | _=>none
theorem Pw (hT:bp P T=true) (hm:P.follows .mixedOrders=true) (hK:∀ w,Kp D w0 w→K0 w) {fn:Func} (hf:P.funcs[f]?=some fn) {m:Nat} (aB:b.m=m) (CH:b.I=[]) (tb:da) (n:Nat) (bP ts:List Nat) {A:Prop} {E':List (Nat×AV)} {M':List au} {x:AV} (r:bX true D w0 K0 sz b E M a w)
  (h:EF P T sz m tb n bP ts todo E M=some (A,E',M')) (h2:wS T fn.results.toList E' M'=some x) (hA:A) (hE:∀ x ∈ E',fg x.2) (hM:∀ b ∈ M',gb b):aN P f todo (qY D w0 K0 b x M') a w:=by
 subst aB
 have hb:=r.1
 obtain ⟨b',rb,aV,ud,uf,c7⟩:=r.re
 unfold EF at h
 split at h
 rotate_left
 ·cases h
 rename_i Uq s0 rI
 cases gi:(fJ b.m bP&&ff b.m s0.mv) with
 | false=>simp only [gi,cond_false,reduceCtorEq] at h
 | true=>
 simp only [gi,cond_true] at h
 simp only [Bool.and_eq_true] at gi
 obtain ⟨BR,Bi⟩:=gi
 unfold qm at h
 cases hk:cC bP with
 | false=>simp [hk] at h
 | true=>
  simp only [hk,cond_true] at h
  split at h
  rotate_left
  ·simp at h
  rename_i k0 s hr
  rw [rI] at hr;simp only [Option.some.injEq,Prod.mk.injEq] at hr
  obtain ⟨S1,S2⟩:=hr;subst S2
  split at h
  rotate_left
  ·simp at h
  rename_i M1 E1 iY n9
  simp only [Option.some.injEq,Prod.mk.injEq] at h
  obtain ⟨tY,rfl,rfl⟩:=h
  refine iT hT (fo hT hm 3) hm hK n (rI.trans (by rw [S1])) rb (by rw [tY];exact hA) fun a w r=>?_
  obtain ⟨-,tc,bI,I,df,IE,β,F,Rm,aT,hs⟩:=bX.from c7 hb ud uf (dy.kD (by rw [aV,c7]) r hk (by rw [c7];exact BR) (by rw [c7];exact Bi) iY n9)
  obtain ⟨w',I',g1,g2⟩:=yD (P:=P) df.1 df.2 Rm.st
  have IF:RM D w0 K0 M1 β F I' w':=⟨Rm.len,fun u b hb=>hM b (List.mem_of_getElem? hb) _ _ _ _ _ (Rm.blk u b hb),g2⟩
  have dP:∀ t v,bO E1 t=some v→aE (fun w=>K0 w∧az w I') β v (a.eval (.tmp t)):=fun t v hv=>hE (t,v) (lx hv) _ _ _ _ (hs t v hv)
  unfold wS at h2
  split at h2
  ·rename_i l hl
   simp only [Option.some.injEq] at h2;subst h2
   obtain ⟨ys,q1,q2,q3⟩:=oK hT IF dP hl
   refine aN.HA hf g1 (si rfl q1) ⟨_,rfl,β,F,I',IF,fun u q hq=>aT.1 u q (by simp) hq,⟨I',by rw [CH];simp⟩,?_⟩
   match ys,l,q2,q3 with
   | [],[],_,_=>exact .tu [] rfl (by simp)
   | [y],[v],_,q3=>exact q3 0 v y rfl rfl
   | y::y'::ys,v::v'::l,q2,q3=>exact .tu _ q2 q3
  ·cases h2
end Go.Proofs.YtlinpknagdgphaaGreat
namespace Go.Proofs.YtlinpknagdgphaaGreat
open Go.RowKit
variable {mk:Bool} {P:Program} {T:aW} {a:Act} {w:World} {D:List Nat} {w0:World} {K0:World→Prop} {E E1 E2:List (Nat×AV)} {M M1 M2:List au} {β:Beta} {F:Nat→aA} {I:aA} {sz:Nat} {b:dH}
def kv (es:List (Nat×MK×DV)):List (Nat×MK×DV):=es.map fun e=>(e.1,e.2.1,cT e.2.2)
theorem RM.yE (R:RM D w0 K0 M β F I w) {u Tm ck:Nat} {es:List (Nat×MK×DV)} (hu:M[u]?=some (.mp Tm ck es)):∃ F' I',RM D w0 K0 (M.set u (.mp Tm ck (kv es))) β F' I' w∧bL I I':=by
 have hb:=R.blk u _ hu
 have aK:=(List.getElem?_eq_some_iff.1 hu).1
 have g:=R.x.ea hu
 generalize F u=Fu at hb g
 cases hb with
 | @mp bm c _ _ _ hb vs G hl hr=>
  have g2:=(g.perm (Y:=(List.range es.length).flatMap G++[(bm,.map (cq es vs).toArray ck)]) (by
   classical
   rw [List.perm_iff_count];intro z
   simp only [List.count_append,List.count_cons,List.count_nil];omega)).stay
  have he:cq (kv es) vs=cq es vs:=by
   apply List.ext_getElem?
   intro i
   unfold kv
   rw [mb,mb,List.getElem?_map]
   cases es[i]? with
   | none=>simp
   | some e=>cases vs[i]?<;>rfl
  have hB:bK (fun w=>K0 w∧az w ((List.range es.length).flatMap G++I)) β u (.mp Tm ck (kv es)) ((bm,.map (cq (kv es) vs).toArray ck)::(List.range (kv es).length).flatMap fun _=>[]):=by
   refine .mp hb vs (fun _=>[]) (by simp [kv,hl]) fun j e y h1 h2=>?_
   unfold kv at h1
   rw [List.getElem?_map,Option.map_eq_some_iff] at h1
   obtain ⟨e0,h0,rfl⟩:=h1
   refine oH (hr j e0 y h0 h2) fun w hw=>⟨⟨hw.1,(az.app.1 hw.2).2⟩,fun x hx=>?_⟩
   exact (az.app.1 hw.2).1 x (List.mem_flatMap.2 ⟨j,List.mem_range.2 (List.getElem?_eq_some_iff.1 h0).1,hx⟩)
  rw [he] at hB
  have hn:(List.range (kv es).length).flatMap (fun _=>([]:aA))=[]:=by simp
  rw [hn] at hB
  have g3:=(g2.perm (Y:=[(bm,.map (cq es vs).toArray ck)]++[]) (by rw [List.append_nil])).put (by rw [List.length_set];exact aK) (by simp [aS]) hB
  rw [List.set_set] at g3
  exact ⟨_,_,g3.nil rfl,_,rfl⟩
theorem bX.yE (r:bX mk D w0 K0 sz b E M a w) (u:Nat) {Tm ck:Nat} {es:List (Nat×MK×DV)} (hu:M[u]?=some (.mp Tm ck es)) (e:M.set u (.mp Tm ck (kv es))=M2):bX mk D w0 K0 sz b E M2 a w:=by
 obtain ⟨-,h'⟩:=r.via (ι:=Unit) (N:=fun _=>M2) fun β _ _ R=>by
  subst e
  obtain ⟨F2,I2,R2,g⟩:=R.yE hu
  exact ⟨(),β,F2,I2,R2,Ext.refl _,g,by simp⟩
 exact h'
theorem bX.eO (r:bX mk D w0 K0 sz b E M a w) (h:∀ (K:World→Prop) (β:Beta) (ev:Nat→Value),(∀ t v,bO E t=some v→aE K β v (ev t))→∀ t v,bO E2 t=some v→aE K β v (ev t)):bX mk D w0 K0 sz b E2 M a w:=by
 obtain ⟨hb,tc,h1,I,hg,h3,β,F,R,aT,hs⟩:=r
 exact ⟨hb,tc,h1,I,hg,h3,β,F,R,aT,h _ _ (fun t=>a.eval (.tmp t)) hs⟩
theorem Gy {K:World→Prop} {y:Value} {H:aA} (k:Nat) (h:bQ K (.v (.slice none 0 0)) y H):bQ K (.ro k []) y H:=by
 cases h
 exact bQ.ro (fun _=>[]) (by simp) ⟨none,0,rfl,Nat.le_refl _⟩ (fun w hw=>⟨by simp [lay],.inl ⟨rfl,none,0,rfl⟩⟩) (by simp)
theorem bX.RW (r:bX mk D w0 K0 sz b E M a w) (t k:Nat) (ht:bO E t=some (.d (.v (.slice none 0 0)))) (e:o4 E t (.d (.ro k []))=E2):bX mk D w0 K0 sz b E2 M a w:=by
 subst e
 refine r.eO fun K β ev hs s x hx=>?_
 rcases vz hx with ⟨rfl,rfl,-⟩ | ⟨-,h2⟩
 ·have:=hs _ _ ht
  cases this with
  | d h=>exact .d (Gy k h)
 ·exact hs s x h2
theorem bX.eU (r:bX mk D w0 K0 sz b E M a w) (u:Nat) {Tb:Nat} {cells:List AV} (hu:M[u]?=some (.bx Tb cells)) (e:M.set u (.bx Tb (List.replicate cells.length (.d .jk)))=M2):bX mk D w0 K0 sz b E M2 a w:=by
 obtain ⟨-,h'⟩:=r.via (ι:=Unit) (N:=fun _=>M2) fun β F I R=>by
  subst e
  have hB:=R.blk u _ hu
  refine ⟨(),β,F,I,⟨by rw [List.length_set];exact R.len,fun v c hv=>?_,by rw [List.length_set];exact R.st⟩,Ext.refl β,bL.refl I,by simp⟩
  rw [List.getElem?_set] at hv
  split at hv
  ·rename_i q
   subst q
   split at hv
   ·simp only [Option.some.injEq] at hv;subst hv
    generalize F u=Fu at hB
    cases hB with
    | bx hb ys hl hr=>
     refine .bx hb ys (by simpa using hl) fun j c y h1 h2=>?_
     rw [List.getElem?_replicate] at h1
     split at h1
     ·simp only [Option.some.injEq] at h1;subst h1;exact .d (.jk _)
     ·cases h1
   ·cases hv
  ·exact R.blk v c hv
 exact h'
end Go.Proofs.YtlinpknagdgphaaGreat
