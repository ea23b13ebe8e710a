/-
  overlayTwice_holds, part 1 of 7: merged by program from the texts that it needs.
-/
import Derived.WalkKit
import Derived.Below
import Derived.OrdersIn
import Derived.RangeFuncOwn
import Derived.Maps.Own
import Derived.Deep.LoopGhost
import Derived.Laws.IdiomStrings
import Derived.Lib.SlBytesConst
import Derived.Laws.IdiomRangeMap
import Derived.Laws.Externs
import Derived.Lib.UnsafeStr
import Derived.Lib.Builder
import Derived.Lib.MakeNoZero
import Derived.Test.YtlinpknagdgphaaGreatProg
import Derived.RangeFuncRecord
import Derived.RangeFuncLeaves
import Derived.Deep.Slices
import Derived.ProofKit
import Derived.Carry
import Derived.Test.YtlinpknagdgphaaGreatRows
import Derived.SizedLaws
import Derived.DeepKeys4
set_option linter.unusedSimpArgs false
set_option linter.unusedVariables false
set_option linter.unnecessarySimpa false
namespace Go.Proofs.YtlinpknagdgphaaGreat
open Go.RowKit
abbrev Gr (w w':World):Prop:=Below w.heap.size w w'
theorem Gr.refl (w:World):Gr w w:=Below.refl _ _
theorem Gr.trans {a b c:World} (h:Gr a b) (k:Gr b c):Gr a c:=Below.trans h (k.mono h.size)
theorem Gr.drew (w:World):Gr w w.drew:=(Below.refl _ _).drew
theorem lD {w:World} {b:Nat} {o:Obj} (h:w.heap[b]?=some o):b<w.heap.size:=by
 rcases Nat.lt_or_ge b w.heap.size with h' | h'
 ·exact h'
 ·simp [Array.getElem?_eq_none h'] at h
theorem NG {w:World} {a:Addr} {v:Value} (h:w.cell? a=some v):a.block<w.heap.size:=by
 rcases Nat.lt_or_ge a.block w.heap.size with h' | h'
 ·exact h'
 ·simp [World.cell?,Array.getElem?_eq_none h'] at h
theorem Gr.P5 {w w':World} (h:Gr w w') {a:Addr} {v:Value} (hc:w.cell? a=some v):w'.cell? a=some v:=by
 rw [Below.cell h (NG hc)];exact hc
theorem Gr.At {w w':World} (h:Gr w w') {b:Nat} {o:Obj} (hc:w.heap[b]?=some o):w'.heap[b]?=some o:=by
 rw [h.block b (lD hc)];exact hc
theorem Gr.alloc (w:World) (o:Obj):Gr w (w.alloc o):=(Below.refl _ _).alloc (Nat.le_refl _) _
theorem El (w:World) (o:Obj):(w.alloc o).heap[w.heap.size]?=some o:=(MapKept.heap_alloc w o).1
theorem cell_of {w:World} {b:Nat} {c:Array Value} {t:TypeId} {fr:Nat×Nat} (h:w.heap[b]?=some (.cells c t fr)) (i:Nat):w.cell? ⟨b,i,none⟩=c[i]?:=by
 simp [World.cell?,h]
abbrev aA:=List (Nat×Obj)
def keys (H:aA):List Nat:=H.map (·.1)
def az (w:World) (H:aA):Prop:=∀ x ∈ H,w.heap[x.1]?=some x.2
theorem az.nil (w:World):az w []:=by intro x hx;simp at hx
theorem az.gr {w w':World} {H:aA} (h:az w H) (g:Gr w w'):az w' H:=fun x hx=>g.At (h x hx)
theorem az.one {w:World} {b:Nat} {o:Obj} {H:aA} (h:az w ((b,o)::H)):w.heap[b]?=some o:=h (b,o) (by simp)
theorem az.tail {w:World} {x:Nat×Obj} {H:aA} (h:az w (x::H)):az w H:=fun y hy=>h y (by simp [hy])
theorem az.app {w:World} {H K:aA}:az w (H++K)↔az w H∧az w K:=by
 constructor
 ·intro h;exact ⟨fun x hx=>h x (by simp [hx]),fun x hx=>h x (by simp [hx])⟩
 ·rintro ⟨h1,h2⟩ x hx
  rcases List.mem_append.1 hx with h | h
  ·exact h1 x h
  ·exact h2 x h
theorem az.lt {w:World} {H:aA} (h:az w H) {b:Nat} (hb:b ∈ keys H):b<w.heap.size:=by
 obtain ⟨x,hx,rfl⟩:=List.mem_map.1 hb
 exact lD (h x hx)
structure dG (w w':World) (H:aA):Prop where
 nd:(keys H).Nodup
 new:∀ b ∈ keys H,w.heap.size≤b
 holds:az w' H
theorem dG.nil (w w':World):dG w w' []:=⟨by simp [keys],by simp [keys],az.nil _⟩
theorem dG.alloc (w:World) (o:Obj):dG w (w.alloc o) [(w.heap.size,o)]:=⟨by simp [keys],by simp [keys],by intro x hx;simp at hx;subst hx;exact El w o⟩
theorem dG.ahead {w0 w w':World} {H:aA} (h:dG w w' H) (g:Gr w0 w):dG w0 w' H:=⟨h.nd,fun b hb=>Nat.le_trans g.size (h.new b hb),h.holds⟩
theorem xO {H K:List Nat} (h:H.Nodup) (k:K.Nodup) (d:∀ b ∈ H,b ∉ K):(H++K).Nodup:=by
 rw [List.nodup_append];exact ⟨h,k,fun a ha b hb e=>d a ha (e▸hb)⟩
theorem iM (H K:aA):keys (H++K)=keys H++keys K:=by simp [keys]
theorem dG.app {w w' iD:World} {H K:aA} (h:dG w w' H) (g0:Gr w w') (k:dG w' iD K) (g:Gr w' iD):dG w iD (K++H) where
 nd:=by
  rw [iM]
  exact xO k.nd h.nd (fun b hb aV=>by have:=k.new b hb;have:=h.holds.lt aV;omega)
 new:=by
  intro b hb
  rw [iM] at hb
  rcases List.mem_append.1 hb with e | e
  ·exact Nat.le_trans g0.size (k.new b e)
  ·exact h.new b e
 holds:=az.app.2 ⟨k.holds,h.holds.gr g⟩
structure Kp (D:List Nat) (w0 w:World):Prop where
 os:w.os=w0.os
 tape:w.tape=w0.tape
 output:w.output=w0.output
 size:w0.heap.size≤w.heap.size
 block:∀ b,b<w0.heap.size→b ∉ D→w.heap[b]?=w0.heap[b]?
theorem Kp.refl (D:List Nat) (w:World):Kp D w w:=⟨rfl,rfl,rfl,Nat.le_refl _,fun _ _ _=>rfl⟩
theorem Kp.gr {D:List Nat} {w0 w w':World} (h:Kp D w0 w) (g:Gr w w'):Kp D w0 w':=
 ⟨g.os.trans h.os,g.tape.trans h.tape,g.output.trans h.output,Nat.le_trans h.size g.size,fun b hb hd=>by rw [g.block b (Nat.lt_of_lt_of_le hb h.size)];exact h.block b hb hd⟩
theorem Kp.GN {w0 w:World} (h:Kp [] w0 w):Gr w0 w:=⟨h.os,h.tape,h.output,h.size,fun b hb=>h.block b hb (by simp)⟩
theorem Kp.At {D:List Nat} {w0 w:World} (h:Kp D w0 w) {b:Nat} {o:Obj} (hb:w0.heap[b]?=some o) (hd:b ∉ D):w.heap[b]?=some o:=by
 rw [h.block b (lD hb) hd];exact hb
theorem Kp.holds {D:List Nat} {w0 w:World} (h:Kp D w0 w) {H:aA} (hH:az w0 H) (hd:∀ b ∈ keys H,b ∉ D):az w H:=
 fun x hx=>h.At (hH x hx) (hd x.1 (List.mem_map_of_mem hx))
def ct (w:World) (b:Nat) (o:Obj):World:={ w with heap:=w.heap.setIfInBounds b o }
theorem DN {w:World} {b:Nat} (o:Obj) (h:b<w.heap.size):(ct w b o).heap[b]?=some o:=by simp [ct,h]
theorem Dj {w:World} {b c:Nat} (o:Obj) (h:b≠c):(ct w b o).heap[c]?=w.heap[c]?:=by
 simp [ct,Array.getElem?_setIfInBounds_ne h]
theorem Kl (w:World) (b:Nat) (o:Obj):(ct w b o).heap.size=w.heap.size:=by simp [ct]
theorem JF {w:World} {b i:Nat} {c:Array Value} {t:TypeId} {fr:Nat×Nat} (h:w.heap[b]?=some (.cells c t fr)) (v:Value):w.setCell ⟨b,i,none⟩ v=ct w b (.cells (c.setIfInBounds i v) t fr):=by
 unfold World.setCell ct
 congr 1
 apply Array.ext_getElem?
 intro j
 have hb:=lD h
 rw [Array.getElem?_modify,Array.getElem?_setIfInBounds]
 by_cases e:b=j
 ·subst e
  have hg:w.heap[b]=.cells c t fr:=by rw [Array.getElem?_eq_getElem hb] at h;exact Option.some.inj h
  simp [hb,hg]
 ·simp [e]
structure St (D:List Nat) (w0 w:World) (H:aA):Prop where
 kp:Kp D w0 w
 nd:(keys H).Nodup
 own:∀ b ∈ keys H,w0.heap.size≤b∨b ∈ D
 holds:az w H
theorem St.start {w:World} {H:aA} (nd:(keys H).Nodup) (h:az w H):St (keys H) w w H:=⟨Kp.refl _ _,nd,fun _ h=>Or.inr h,h⟩
theorem St.none (w:World):St [] w w []:=⟨Kp.refl _ _,by simp [keys],by simp [keys],az.nil _⟩
theorem St.gr {D:List Nat} {w0 w w':World} {H:aA} (s:St D w0 w H) (g:Gr w w'):St D w0 w' H:=⟨s.kp.gr g,s.nd,s.own,s.holds.gr g⟩
theorem St.new {D:List Nat} {w0 w w':World} {H K:aA} (s:St D w0 w H) (g:Gr w w') (n:dG w w' K):St D w0 w' (K++H) where
 kp:=s.kp.gr g
 nd:=by
  rw [iM]
  exact xO n.nd s.nd (fun b hb aV=>by have:=n.new b hb;have:=s.holds.lt aV;omega)
 own:=by
  intro b hb
  rw [iM] at hb
  rcases List.mem_append.1 hb with e | e
  ·exact Or.inl (Nat.le_trans s.kp.size (n.new b e))
  ·exact s.own b e
 holds:=az.app.2 ⟨n.holds,s.holds.gr g⟩
theorem St.alloc {D:List Nat} {w0 w:World} {H:aA} (s:St D w0 w H) (o:Obj):St D w0 (w.alloc o) ((w.heap.size,o)::H):=s.new (Gr.alloc w o) (dG.alloc w o)
theorem St.perm {D:List Nat} {w0 w:World} {H K:aA} (s:St D w0 w H) (p:H.Perm K):St D w0 w K:=
 ⟨s.kp,(List.Perm.map (fun x:Nat×Obj=>x.1) p).nodup_iff.1 s.nd,fun b hb=>s.own b ((List.Perm.map (fun x:Nat×Obj=>x.1) p).mem_iff.2 hb),fun x hx=>s.holds x (p.mem_iff.2 hx)⟩
theorem St.l3 {D:List Nat} {w0 w:World} {H K:aA} (s:St D w0 w (H++K)):St D w0 w K:=
 ⟨s.kp,by have:=s.nd;rw [iM] at this;exact (List.nodup_append.1 this).2.1,fun b hb=>s.own b (by rw [iM];exact List.mem_append.2 (Or.inr hb)),(az.app.1 s.holds).2⟩
theorem St.oA {D:List Nat} {w0 w:World} {H K:aA} (s:St D w0 w (H++K)):St D w0 w H:=
 ⟨s.kp,by have:=s.nd;rw [iM] at this;exact (List.nodup_append.1 this).1,fun b hb=>s.own b (by rw [iM];exact List.mem_append.2 (Or.inl hb)),(az.app.1 s.holds).1⟩
theorem St.set {D:List Nat} {w0 w:World} {b:Nat} {o:Obj} {H:aA} (s:St D w0 w ((b,o)::H)) (o':Obj):St D w0 (ct w b o') ((b,o')::H) where
 kp:=by
  refine ⟨s.kp.os,s.kp.tape,s.kp.output,by rw [Kl];exact s.kp.size,fun c hc hd=>?_⟩
  have dN:b≠c:=by
   intro e;subst e
   rcases s.own b (by simp [keys]) with h | h
   ·omega
   ·exact hd h
  rw [Dj o' dN];exact s.kp.block c hc hd
 nd:=s.nd
 own:=s.own
 holds:=by
  intro x hx
  rcases List.mem_cons.1 hx with e | e
  ·subst e;exact DN o' (lD s.holds.one)
  ·have dN:b≠x.1:=by
    intro e2
    have:=s.nd
    simp only [keys,List.map_cons,List.nodup_cons] at this
    exact this.1 (e2▸List.mem_map_of_mem e)
   rw [Dj o' dN];exact s.holds.tail x e
theorem St.call {D D':List Nat} {w0 w w':World} {H R K:aA} (s:St D w0 w (H++R)) (hD:D'=keys H) (t:St D' w w' K):St D w0 w' (K++R) where
 kp:=by
  refine ⟨t.kp.os.trans s.kp.os,t.kp.tape.trans s.kp.tape,t.kp.output.trans s.kp.output,Nat.le_trans s.kp.size t.kp.size,fun b hb hd=>?_⟩
  rw [t.kp.block b (Nat.lt_of_lt_of_le hb s.kp.size) ?_]
  ·exact s.kp.block b hb hd
  ·intro aV
   rw [hD] at aV
   rcases s.own b (by rw [iM];exact List.mem_append.2 (Or.inl aV)) with h | h
   ·omega
   ·exact hd h
 nd:=by
  rw [iM]
  have h1:=s.l3
  refine xO t.nd h1.nd (fun b hb aV=>?_)
  rcases t.own b hb with h | h
  ·have:=h1.holds.lt aV;omega
  ·rw [hD] at h
   have:=s.nd
   rw [iM] at this
   exact (List.nodup_append.1 this).2.2 b h b aV rfl
 own:=by
  intro b hb
  rw [iM] at hb
  rcases List.mem_append.1 hb with e | e
  ·rcases t.own b e with h | h
   ·exact Or.inl (Nat.le_trans s.kp.size h)
   ·rw [hD] at h;exact s.own b (by rw [iM];exact List.mem_append.2 (Or.inl h))
  ·exact s.own b (by rw [iM];exact List.mem_append.2 (Or.inr e))
 holds:=az.app.2 ⟨t.holds,t.kp.holds s.l3.holds (fun b hb aV=>by
  rw [hD] at aV
  have:=s.nd
  rw [iM] at this
  exact (List.nodup_append.1 this).2.2 b aV b hb rfl)⟩
def Hm (w:World) (Φ:Value→aA→Prop):Ending→World→Prop:=fun e w'=>∃ v,e=.returned v∧Gr w w'∧∃ H,Φ v H∧dG w w' H
structure Sl (n:Nat) (a:Act) (E:List (Nat×Value)):Prop where
 size:a.tmps.size=n
 defers:a.defers=[]
 T7:∀ x ∈ E,a.eval (.tmp x.1)=x.2
theorem ow (a:Act) (d:Nat) (v:Value) (h:d<a.tmps.size):(a.put (some d) v).eval (.tmp d)=v:=by
 simp [Act.put,Act.eval,Array.getD,h]
theorem rR (a:Act) (d s:Nat) (v:Value) (h:d≠s):(a.put (some d) v).eval (.tmp s)=a.eval (.tmp s):=by
 simp only [Act.put,Act.eval,Array.getD_eq_getD_getElem?,Array.getElem?_setIfInBounds,if_neg h]
theorem LO (a:Act) (d:Option Tmp) (v:Value):(a.put d v).tmps.size=a.tmps.size:=by
 cases d<;>simp [Act.put]
theorem put_defers (a:Act) (d:Option Tmp) (v:Value):(a.put d v).defers=a.defers:=by
 cases d<;>simp [Act.put]
def sF:List Value→Nat→List (Nat×Value)
 | [],_=>[]
 | v::r,i=>(i,v)::sF r (i+1)
theorem Km:∀ (vs:List Value) (i:Nat) (x:Nat×Value),x ∈ sF vs i→i≤x.1∧vs[x.1-i]?=some x.2:=by
 intro vs
 induction vs with
 | nil=>intro i x hx;simp [sF] at hx
 | cons v r ih=>
  intro i x hx
  simp only [sF,List.mem_cons] at hx
  rcases hx with e | e
  ·subst e;simp
  ·obtain ⟨h1,h2⟩:=ih (i+1) x e
   refine ⟨by omega,?_⟩
   rw [show x.1-i=(x.1-(i+1))+1 by omega];simpa using h2
theorem enter {P:Program} {f:FuncId} {fn:Func} {c:Code} {args:List Value} {w:World} {R:Ending→World→Prop}
  (hf:P.funcs[f]?=some fn) (hb:fn.body=some c) {n:Nat} (hn:fn.ntmps=n) (hle:args.length≤n)
  (h:∀ a,Sl n a (sF args 0)→c.wp P (bodyPost P fn R) a w):Calls P f args.toArray w R:=by
 refine calls_of_wp hf hb (h _ ⟨?_,rfl,?_⟩)
 ·simp;omega
 ·intro x hx
  obtain ⟨h1,h2⟩:=Km args 0 x hx
  simp only [Nat.sub_zero] at h2
  have aK:x.1<args.length:=by
   rcases Nat.lt_or_ge x.1 args.length with h' | h'
   ·exact h'
   ·simp [List.getElem?_eq_none h'] at h2
  rw [List.getElem?_eq_getElem aK] at h2
  simp [Act.eval,Array.getD_eq_getD_getElem?,Array.getElem?_append,aK,Option.some.inj h2]
end Go.Proofs.YtlinpknagdgphaaGreat
namespace Go.Proofs.YtlinpknagdgphaaGreat
open Go.RowKit
def bq (P:Program) (o:Oper) (ρ:Operand→Value) (w:World) (Φ:Value→World→Prop):Prop:=
 match (execOp ρ o).run P w with
 | .ok (.value v) w'=>Φ v w'
 | .ok .skip w'=>Φ undef w'
 | .ok (.enter f args) w'=>Calls P f args w' fun e iD=>∃ v,e=.returned v∧Φ v iD
 | .ok (.round l f tmps assign body) w'=>RoundIn Fence.wide 0 P l f tmps assign body w' fun e iD=>∃ v,e=.returned v∧Φ v iD
 | _=>False
abbrev Fl (ro:Option Nat):Fence:={ Fence.wide with round:=ro }
theorem JG {ro:Option Nat} {n:Nat} {P:Program} {f:FuncId} {args:Array Value} {w:World} {R:Ending→World→Prop} (h:Calls P f args w R):CallsIn (Fl ro) n P f args w R:=(callsIn_wide (n:=n)).2 h
theorem bq.HZ {ro:Option Nat} {P:Program} {o:Oper} {ρ:Operand→Value} {w:World} {Φ:Value→World→Prop} (h:bq P o ρ w Φ):(o.semAt ro ρ).run P w=(execOp ρ o).run P w:=by
 rw [Oper.semAt_eq]
 intro c hc
 unfold bq at h
 simp only [execOp,hc,Sem.run_bind] at h
 cases hr:(resolve ρ c o.type).run P w with
 | ok v w'=>rw [hr] at h;simp at h
 | halt x w'=>rw [hr] at h;simp [Result.andThen] at h
theorem bq.wp {ro:Option Nat} {P:Program} {o:Oper} {a:Act} {w:World} {Φ:Value→World→Prop} {next:Act→World→Prop} {Q:Exit→Act→World→Prop}
  (h:bq P o a.eval w Φ) (hn:∀ v w',Φ v w'→next (a.put o.dst v) w'):o.wpIn (Fl ro) 0 P a w next Q:=by
 refine ⟨fun _ _=>trivial,?_⟩
 rw [show (Fl ro).round=ro from rfl,h.HZ]
 unfold bq at h
 generalize (execOp a.eval o).run P w=r at *
 cases r with
 | ok n w'=>
  cases n
  case value v=>exact hn _ _ h
  case skip=>exact hn _ _ h
  case enter f args=>
   refine ⟨fun hh=>by simp [Fl,Fence.wide] at hh,JG (Calls.mono h ?_)⟩
   rintro e iD ⟨v,rfl,hv⟩
   exact hn _ _ hv
  case round l f tmps assign body=>
   refine ⟨fun hh=>by simp [Fl,Fence.wide] at hh,?_⟩
   have h':RoundIn (Fl ro) 0 P l f tmps assign body w' fun e iD=>∃ v,e=.returned v∧Φ v iD:=h
   refine RoundIn.mono h' ?_
   rintro e iD ⟨v,rfl,hv⟩
   exact hn _ _ hv
  all_goals exact h.elim
 | halt x w'=>exact h.elim
theorem bq.pure {P:Program} {o:Oper} {ρ:Operand→Value} {w w':World} {Φ:Value→World→Prop} {v:Value} (h:(execOp ρ o).run P w=.ok (.value v) w') (hv:Φ v w'):bq P o ρ w Φ:=by
 unfold bq;rw [h];exact hv
theorem bq.skip {P:Program} {o:Oper} {ρ:Operand→Value} {w w':World} {Φ:Value→World→Prop} (h:(execOp ρ o).run P w=.ok .skip w') (hv:Φ undef w'):bq P o ρ w Φ:=by
 unfold bq;rw [h];exact hv
theorem bq.call {P:Program} {o:Oper} {ρ:Operand→Value} {w:World} {Φ:Value→World→Prop} {f:FuncId} {args:Array Value} (h:(execOp ρ o).run P w=.ok (.enter f args) w) (hv:Calls P f args w fun e w'=>∃ v,e=.returned v∧Φ v w'):bq P o ρ w Φ:=by
 unfold bq;rw [h];exact hv
theorem bq.mono {P:Program} {o:Oper} {ρ:Operand→Value} {w:World} {Φ Ψ:Value→World→Prop} (h:bq P o ρ w Φ) (hi:∀ v w',Φ v w'→Ψ v w'):bq P o ρ w Ψ:=by
  unfold bq at *
  generalize (execOp ρ o).run P w=r at *
  cases r with
  | ok n w'=>
    cases n<;>simp only at h ⊢<;>first
      | exact hi _ _ h
      | (refine Calls.mono h ?_
         rintro e iD ⟨v,rfl,hv⟩
         exact ⟨v,rfl,hi _ _ hv⟩)
      | (refine RoundIn.mono h ?_
         rintro e iD ⟨v,rfl,hv⟩
         exact ⟨v,rfl,hi _ _ hv⟩)
  | halt x w'=>exact h.elim
def sG (ops:Array Oper) (i:Nat):Option Tmp:=(ops[i]?).bind (·.dst)
abbrev pl (f:Value→aA→Prop):List Value→Value→aA→Prop:=fun _=>f
def blk (o:Obj):Value→aA→Prop:=fun v H=>∃ b,v=.pointer (some ⟨b,0,none⟩)∧H=[(b,o)]
def done (L:Array Bool) (i:Nat):Prop:=L.getD i true=true
variable {P:Program} {ops:Array Oper} {Q:Exit→Act→World→Prop} {ro:Option Nat}
theorem Dk {a:Act} {j d:Nat} (hd:sG ops j=some d) (hs:d<a.tmps.size):yielded ops a.tmps j=match a.eval (.tmp d) with | .bool b=>some b | _=>none:=by
 unfold yielded
 unfold sG at hd
 rw [hd]
 simp only [Option.bind_some,Act.eval,Array.getD_eq_getD_getElem?,Array.getElem?_eq_getElem hs,Option.getD_some]
 cases a.tmps[d]<;>rfl
def kL (ro:Option Nat) (P:Program) (ops:Array Oper) (Q:Exit→Act→World→Prop) (Rk:World→Prop):Nat→Array Bool→Act→World→Prop
 | 0,L,a,w=>Rk w∧Region.ready .any ops L=[]∧Q .normal a w
 | fuel+1,L,a,w=>Rk w∧(Region.ready .any ops L=[]→Q .normal a w)∧∀ i ∈ Region.ready .any ops L,wpOpIn (Fl ro) 0 P ops Q i (kL ro P ops Q Rk fuel (L.setIfInBounds i true)) a w
theorem kL.rk {Rk:World→Prop} {fuel:Nat} {L:Array Bool} {a:Act} {w:World} (h:kL ro P ops Q Rk fuel L a w):Rk w:=by cases fuel<;>exact h.1
theorem kL.to {Rk:World→Prop}:∀ {fuel:Nat} {L:Array Bool} {a:Act} {w:World},kL ro P ops Q Rk fuel L a w→wpAnyIn (Fl ro) 0 P .any ops Q fuel L a w
 | 0,_,_,_,h=>h.2
 | _+1,_,_,_,h=>⟨h.2.1,fun i hi=>wpOpIn_mono (fun _ _ h=>kL.to h) (h.2.2 i hi)⟩
theorem NH {o:Oper} {ρ:Operand→Value} {v:Value} {w w':World} (h:(execOp ρ o).run P w=.ok (.value v) w'):(o.semAt ro ρ).run P w=.ok (.value v) w':=by rw [(bq.pure (Φ:=fun _ _=>True) h trivial).HZ];exact h
theorem Kn (o:Oper) (hs:∀ cs b,o.op≠.select cs b) (a:Act) (dst:Option Tmp) (v:Value) (h:∀ d,dst=some d→d ∉ o.looksAt ops):o.semAt ro (a.put dst v).eval=o.semAt ro a.eval:=by
 have e:=execOp_put o hs a dst v h
 unfold Oper.semAt
 cases ro with
 | none=>exact e
 | some l=>
  cases ho:o.op<;>first | exact e | skip
  rename_i c
  have e2:=resolve_congr (ρ:=(a.put dst v).eval) (ρ':=a.eval) c o.type (fun x hx=>Act.eval_put fun d hd Sa=>h d hd (by
   subst Sa
   exact List.mem_append_left _ (List.mem_filterMap.2 ⟨.tmp d,by rw [ho];simpa [Op.operands] using hx,rfl⟩)))
  simp only [e2]
theorem C9 {Y:Act→Prop} {j:Nat} {oi oj:Oper} {v:Value} (hj:ops[j]?=some oj) (kY:oi.apart ops oj=true) (Sb:∀ cs b,oj.op≠.select cs b)
  (bP:∀ a,Y a→∀ u,Y (a.put oj.dst u)) (P6:∀ a d,Y a→Y { a with defers:=d::a.defers })
  (hQ:∀ c a w,Q (.panic c) (a.put oi.dst v) w→Q (.panic c) a w) {K:Act→World→Prop} {a:Act} {w:World}
  (hy:Y a) (h:Go.wpOpIn (Fl ro) 0 P ops Q j K (a.put oi.dst v) w):Go.wpOpIn (Fl ro) 0 P ops Q j (fun a' w'=>Y a'∧K (a'.put oi.dst v) w') a w:=by
 obtain ⟨h1,h2,h3⟩:=Oper.apart_spec kY
 unfold Go.wpOpIn at *
 simp only [hj] at *
 rw [wanted_put oj a oi.dst v h1] at h
 split
 ·rename_i hw
  simp only [hw,if_true] at h
  refine ⟨fun _ _=>trivial,?_⟩
  replace h:=h.2
  rw [Kn oj Sb a oi.dst v h1] at h
  generalize (oj.semAt (Fl ro).round a.eval).run P w=r at *
  cases r with
  | ok n w'=>
   cases n<;>simp only [Oper.uponIn] at h ⊢
   case value u=>exact ⟨bP a hy u,by rw [← Act.put_comm a v u h2];exact h⟩
   case skip=>exact ⟨bP a hy _,by rw [← Act.put_comm a v undef h2];exact h⟩
   case defer d=>
    refine ⟨bP _ (P6 a d hy) _,?_⟩
    rw [← Act.put_comm _ v undef h2,← Act.put_defers]
    exact h
   case enter f args=>
    refine ⟨h.1,CallsIn.mono h.2 fun e iD he=>?_⟩
    cases e with
    | returned u=>exact ⟨bP a hy u,by rw [← Act.put_comm a v u h2];exact he⟩
    | panicked c=>exact hQ _ _ _ he
    | outgrown=>exact he
   case row row args=>exact ⟨h.1,RowsIn.mono h.2 fun u iD he=>⟨bP a hy u,by rw [← Act.put_comm a v u h2];exact he⟩⟩
   case round l f tmps assign body=>
    refine ⟨h.1,RoundIn.mono h.2 fun e iD he=>?_⟩
    cases e with
    | returned u=>exact ⟨bP a hy u,by rw [← Act.put_comm a v u h2];exact he⟩
    | panicked c=>exact hQ _ _ _ he
    | outgrown=>exact he
  | halt x w'=>
   cases x<;>simp only [Oper.uponIn] at h ⊢
   case panic u=>exact hQ _ _ _ h
 ·rename_i hw
  simp only [hw] at h
  exact ⟨fun _ _=>trivial,bP a hy _,by rw [← Act.put_comm a v undef h2];exact h.2⟩
def dO (P:Program) (ops:Array Oper) (Q:Exit→Act→World→Prop):List (Oper×Bool)→Act→World→Prop
 | [],a,w=>Q .normal a w
 | (o,pu)::r,a,w=>bif pu then o.guard=none∧∃ v,(∀ w',(execOp a.eval o).run P w'=.ok (.value v) w')∧dO P ops Q r (a.put o.dst v) w
  else match o.guard with
   | none=>bq P o a.eval w (fun v w'=>dO P ops Q r (a.put o.dst v) w')
   | some (j,want)=>(yielded ops a.tmps j=some want→bq P o a.eval w (fun v w'=>dO P ops Q r (a.put o.dst v) w'))∧(yielded ops a.tmps j≠some want→dO P ops Q r (a.put o.dst undef) w)
def pick (ops:Array Oper):List (Nat×Bool)→List (Oper×Bool)
 | []=>[]
 | (i,pu)::r=>match ops[i]? with
  | some o=>(o,pu)::pick ops r
  | none=>pick ops r
theorem O4 {o:Oper} {pu:Bool} {r:List (Oper×Bool)} {i:Nat} (ho:ops[i]?=some o) {a:Act} {w:World} {K:Act→World→Prop} (hK:∀ a w,dO P ops Q r a w→K a w) (h:dO P ops Q ((o,pu)::r) a w):wpOpIn (Fl ro) 0 P ops Q i K a w:=by
 unfold wpOpIn
 simp only [ho]
 unfold dO at h
 cases pu with
 | true=>
  simp only [cond_true] at h
  obtain ⟨hg,v,hv,h⟩:=h
  simp only [Region.wanted,hg,if_true]
  exact bq.wp (Φ:=fun v w'=>dO P ops Q r (a.put o.dst v) w') (bq.pure (hv w) h) (fun v w' h=>hK _ _ h)
 | false=>
  simp only [cond_false] at h
  cases hg:o.guard with
  | none=>
   rw [hg] at h
   simp only [Region.wanted,hg,if_true]
   exact bq.wp h (fun v w' h=>hK _ _ h)
  | some g=>
   obtain ⟨j,want⟩:=g
   rw [hg] at h
   simp only [Region.wanted,hg]
   by_cases hy:yielded ops a.tmps j=some want
   ·rw [if_pos (by simp [hy])]
    exact bq.wp (h.1 hy) (fun v w' h=>hK _ _ h)
   ·rw [if_neg (by simp [hy])]
    exact ⟨fun _ _=>trivial,hK _ _ (h.2 hy)⟩
theorem Ko:∀ (l:List Nat) (os:List Oper) (a:Act) (w:World),l.map (fun i=>ops[i]?)=os.map some→dO P ops Q (os.map (·,false)) a w→wpOpsIn (Fl ro) 0 P ops Q l a w:=by
 intro l
 induction l with
 | nil=>intro os a w h hl;cases os with
  | nil=>exact hl
  | cons=>simp at h
 | cons i r ih=>
  intro os a w h hl
  cases os with
  | nil=>simp at h
  | cons o os=>
   simp only [List.map_cons,List.cons.injEq] at h
   rw [wpOpsIn_cons]
   exact O4 h.1 (fun a w h'=>ih os a w h.2 h') hl
theorem uA {id:Nat} {a:Act} {w:World} (h:dO P ops Q (ops.toList.map (·,false)) a w):(Code.region id ops false).wpIn (Fl ro) 0 P Q a w:=by
 refine wpIn_region (Ko _ ops.toList a w ?_ h)
 apply List.ext_getElem?
 intro i
 simp only [List.getElem?_map,Array.getElem?_toList]
 rcases Nat.lt_or_ge i ops.size with hi | hi
 ·simp [List.getElem?_range hi,hi]
 ·simp [hi]
end Go.Proofs.YtlinpknagdgphaaGreat
namespace Go.Proofs.YtlinpknagdgphaaGreat
open Go.Maps
section
variable {κ:Type} [DecidableEq κ]
def look (mL:List (κ×Value)) (k:κ):Option Value:=(mL.find? (fun x=>decide (x.1=k))).map (·.2)
def put (mL:List (κ×Value)) (k:κ) (v:Value):List (κ×Value):=
 if mL.any (fun x=>decide (x.1=k)) then mL.map (fun x=>if x.1=k then (k,v) else x) else mL++[(k,v)]
def drop (mL:List (κ×Value)) (k:κ):List (κ×Value):=mL.filter (fun x=>!decide (x.1=k))
end
section
variable {κ:Type} [DecidableEq κ] {P:Program} {K e t:TypeId} {enc:κ→Value} {o:Obj} {mL:List (κ×Value)} {w:World} {r:Nat}
omit [DecidableEq κ] in
end
end Go.Proofs.YtlinpknagdgphaaGreat
namespace Go.Proofs.YtlinpknagdgphaaGreat
open Go.RowKit
section
variable {P:Program} {ρ:Operand→Value} {w:World} {Φ:Value→World→Prop} {d:Option Tmp} {ty:TypeId} {pos:String} {aft:Array Edge} {gd:Option (Nat×Bool)}
theorem uN {x:Operand} {vs:Array Value} {i:Nat} {v:Value} (h:ρ x=.tuple vs) (hv:vs[i]?=some v) (aR:Φ v w):bq P ⟨d,.extract x i,ty,pos,aft,gd⟩ ρ w Φ:=
 .pure (v:=v) (by simp only [execOp,h,Instr.extract,hv];rfl) aR
def oB (P:Program) (s:TypeId) (f:Nat):Option Nat:=
 match P.underlying s with
 | some (.struct fs)=>match fs[f]? with
  | some x=>match P.info? x.type with
   | some i=>if i.size=0 then none else some x.offset
   | none=>none
  | none=>none
 | _=>none
theorem Js {s:TypeId} {f off:Nat} (hf:oB P s f=some off) (a:Addr):(Instr.fieldAt s (.pointer (some a)) f).run P w=.ok (.pointer (some (a.add off))) w:=by
 unfold oB at hf
 cases hu:P.underlying s with
 | none=>simp [hu] at hf
 | some u=>
  cases u<;>simp only [hu] at hf<;>try contradiction
  rename_i fs
  cases hx:fs[f]? with
  | none=>simp [hx] at hf
  | some x=>
   simp only [hx] at hf
   cases hi:P.info? x.type with
   | none=>simp [hi] at hf
   | some i=>
    simp only [hi] at hf
    split at hf
    ·contradiction
    ·rename_i bI
     cases hf
     simp only [Instr.fieldAt,Sem.run_bind,run_underlying hu,Result.andThen_ok,hx,Instr.sureAddr,Sem.run_pure,fieldPlace,sizeOf,typeInfo,run_program,hi,bI,if_false]
theorem add_eq (b i n:Nat):(⟨b,i,none⟩:Addr).add n=⟨b,i+n,none⟩:=by
 unfold Addr.add;split
 ·rename_i h;subst h;rfl
 ·rfl
theorem O5 {x:Operand} {v:Value} (h:ρ x=v):(execOp ρ ⟨d,.move x,ty,pos,aft,gd⟩).run P w=.ok (.value v) w:=by subst h;rfl
theorem LP {x:Operand} {v:Value} (h:ρ x=v):(execOp ρ ⟨d,.assign x,ty,pos,aft,gd⟩).run P w=.ok (.value v) w:=by subst h;rfl
theorem JH {x:Operand} {a:Addr} (h:ρ x=.pointer (some a)):(execOp ρ ⟨d,.nilCheck x,ty,pos,aft,gd⟩).run P w=.ok (.value (.pointer (some a))) w:=by simp only [execOp,h];rfl
theorem Kq {x:Operand} {vs:Array Value} {i:Nat} {v:Value} (h:ρ x=.tuple vs) (hv:vs[i]?=some v):(execOp ρ ⟨d,.extract x i,ty,pos,aft,gd⟩).run P w=.ok (.value v) w:=by simp only [execOp,h,Instr.extract,hv];rfl
def scalar (P:Program) (t:TypeId):Bool:=match P.underlying t with | some (.struct _)=>false | some (.array _ _)=>false | some _=>true | none=>false
theorem CX {t:TypeId} (h:scalar P t=true):(isAgg t).run P w=.ok false w:=by
 unfold scalar at h
 cases hu:P.underlying t with
 | none=>simp [hu] at h
 | some u=>cases u<;>simp [hu] at h<;>simp [isAgg,Sem.run_bind,run_underlying hu]
theorem I7 {t:TypeId} {a:Addr} {v:Value} (ht:scalar P t=true) (hc:w.cell? a=some v):(Instr.loadAt t (.pointer (some a))).run P w=.ok v w:=by
 simp [Instr.loadAt,Instr.sureAddr,loadVar,Sem.run_bind,CX ht,load,Sem.run,hc]
def nv (P:Program) (t:TypeId) (n:Nat):Bool:=(match P.underlying t with | some (.struct _)=>true | some (.array _ _)=>true | _=>false)&&(match P.info? t with | some i=>i.size==n | none=>false)
theorem run_loadCellsFrom {a:Addr} {vs:List Value}:∀ (i:Nat) (acc:Array Value),(∀ j (hj:j<vs.length),w.cell? (a.add (i+j))=some vs[j])→(loadCellsFrom a i vs.length acc).run P w=.ok (acc++vs.toArray) w:=by
 induction vs with
 | nil=>intro i acc _;simp [loadCellsFrom]
 | cons v r ih=>
  intro i acc h
  have h0:=h 0 (by simp)
  simp only [Nat.add_zero,List.getElem_cons_zero] at h0
  have hl:(load (a.add i)).run P w=.ok v w:=by simp [load,Sem.run,h0]
  simp only [List.length_cons,loadCellsFrom,Sem.run_bind,hl,Result.andThen_ok]
  rw [ih (i+1) (acc.push v) (fun j hj=>by have:=h (j+1) (by simp;omega);rw [show i+1+j=i+(j+1) by omega];simpa using this)]
  simp
theorem C2 {t:TypeId} {n:Nat} (h:nv P t n=true):(isAgg t).run P w=.ok true w∧(sizeOf t).run P w=.ok n w:=by
 unfold nv at h
 simp only [Bool.and_eq_true] at h
 constructor
 ·cases hu:P.underlying t with
  | none=>simp [hu] at h
  | some u=>cases u<;>simp [hu] at h<;>simp [isAgg,Sem.run_bind,run_underlying hu]
 ·cases hi:P.info? t with
  | none=>simp [hi] at h
  | some i=>
   simp only [hi,beq_iff_eq] at h
   simp [sizeOf,typeInfo,Sem.run_bind,hi,h.2]
theorem Je {t:TypeId} {a:Addr} {vs:List Value} (ht:nv P t vs.length=true) (hc:∀ j (hj:j<vs.length),w.cell? (a.add j)=some vs[j]):(Instr.loadAt t (.pointer (some a))).run P w=.ok (.agg vs.toArray) w:=by
 have h:=run_loadCellsFrom (P:=P) (w:=w) (a:=a) (vs:=vs) 0 #[] (by simpa using hc)
 simp [Instr.loadAt,Instr.sureAddr,loadVar,Sem.run_bind,(C2 (w:=w) ht).1,(C2 (w:=w) ht).2,loadCells,h]
theorem JI {t:TypeId} {z:Value} (hz:(zeroValue t).run P w=.ok z w):(Instr.alloc t true (.tuple #[])).run P w=.ok (.pointer (some ⟨w.heap.size,0,none⟩)) (w.alloc (.cells z.cells t)):=by
 simp [Instr.alloc,Sem.run_bind,hz,newVar,newRow,newObj,Sem.run]
theorem NI {t:TypeId} {z:Value} (hz:(zeroValue t).run P w=.ok z w) (aR:Φ (.pointer (some ⟨w.heap.size,0,none⟩)) (w.alloc (.cells z.cells t))):bq P ⟨d,.alloc t,ty,pos,aft,gd⟩ ρ w Φ:=
 .pure (by simp only [execOp,Sem.run_bind,JI hz,Result.andThen_ok,Sem.run_pure]) aR
theorem Em {t:TypeId} {z:Value} (hz:(zeroValue t).run P w=.ok z w) (aR:∀ b w',Gr w w'→dG w w' [(b,.cells z.cells t)]→Φ (.pointer (some ⟨b,0,none⟩)) w'):bq P ⟨d,.alloc t,ty,pos,aft,gd⟩ ρ w Φ:=
 NI hz (aR _ _ (Gr.alloc _ _) (dG.alloc _ _))
theorem P7 {t:TypeId} {x:Operand} {v:Value} (h:ρ x=v) (aR:Φ (.pointer (some ⟨w.heap.size,0,none⟩)) (w.alloc (.cells v.cells t))):bq P ⟨d,.box t x,ty,pos,aft,gd⟩ ρ w Φ:=
 .pure (v:=.pointer (some ⟨w.heap.size,0,none⟩)) (w':=w.alloc (.cells v.cells t)) (by simp [execOp,h,Instr.box,Sem.run_bind,newVar,newRow,newObj,Sem.run]) aR
theorem O6 {t:TypeId} {x:Operand} {v:Value} (h:ρ x=v) (aR:∀ b w',Gr w w'→dG w w' [(b,.cells v.cells t)]→Φ (.pointer (some ⟨b,0,none⟩)) w'):bq P ⟨d,.box t x,ty,pos,aft,gd⟩ ρ w Φ:=
 P7 h (aR _ _ (Gr.alloc _ _) (dG.alloc _ _))
def Fz (fz:Nat×Nat) (n:Nat):Prop:=∀ i,i<n→¬ (fz.1≤i∧i<fz.2)
theorem kZ (n:Nat):Fz (0,0) n:=fun i _ h=>by have:=h.2;simp at this
def cd:Value→Bool
 | .agg _ | .tuple _=>false
 | _=>true
theorem run_store {b i:Nat} {c:Array Value} {t:TypeId} {v:Value} {fz:Nat×Nat} (hb:w.heap[b]?=some (.cells c t fz)) (hi:i<c.size) (hv:cd v=true) (hz:Fz fz c.size:=by first | exact kZ _ | assumption):(store ⟨b,i,none⟩ v).run P w=.ok () (ct w b (.cells (c.setIfInBounds i v) t fz)):=by
 have hc:w.cell? ⟨b,i,none⟩=some c[i]:=by rw [cell_of hb];simp [hi]
 have hf:w.frozen? ⟨b,i,none⟩=false:=by
  obtain ⟨lo,jr⟩:=fz
  have:=hz i hi
  simp only [World.frozen?,hb];simpa using this
 rw [← JF hb]
 cases v<;>simp [cd] at hv<;>simp [store,Sem.run,hc,hf]
def cL (c:Array Value):Nat→List Value→Array Value
 | _,[]=>c
 | i,v::r=>cL (c.setIfInBounds i v) (i+1) r
theorem j7 (c:Array Value) (i:Nat) (vs:List Value):(cL c i vs).size=c.size:=by
 induction vs generalizing c i with
 | nil=>rfl
 | cons v r ih=>rw [cL,ih];simp
theorem Kr (w:World) (b:Nat) (o o':Obj):ct (ct w b o) b o'=ct w b o':=by
 simp [ct]
theorem CY {b:Nat} {t:TypeId} {fz:Nat×Nat}:∀ (vs:List Value) (w:World) (c:Array Value) (i j:Nat),w.heap[b]?=some (.cells c t fz)→i+j+vs.length≤c.size→(∀ v ∈ vs,cd v=true)→Fz fz c.size→(storeCells ⟨b,i,none⟩ vs j).run P w=.ok () (ct w b (.cells (cL c (i+j) vs) t fz))
 | [],w,c,i,j,hb,_,_,_=>by
  have:ct w b (.cells c t fz)=w:=by
   unfold ct
   have aK:=lD hb
   have:w.heap.setIfInBounds b (.cells c t fz)=w.heap:=by
    apply Array.ext_getElem?
    intro k
    rw [Array.getElem?_setIfInBounds]
    by_cases e:b=k
    ·subst e;simp [aK];rw [Array.getElem?_eq_getElem aK] at hb;exact (Option.some.inj hb).symm
    ·simp [e]
   rw [this]
  simp [storeCells,cL,this]
 | v::r,w,c,i,j,hb,hl,hv,hz=>by
  simp only [List.length_cons] at hl
  have ha:(⟨b,i,none⟩:Addr).add j=⟨b,i+j,none⟩:=by
   unfold Addr.add;split
   ·rename_i h;subst h;rfl
   ·rfl
  have h1:=run_store (P:=P) hb (show i+j<c.size by omega) (hv v (by simp))
  have h2:=CY r (ct w b (.cells (c.setIfInBounds (i+j) v) t fz)) (c.setIfInBounds (i+j) v) i (j+1) (DN _ (lD hb)) (by simp;omega) (fun x hx=>hv x (by simp [hx])) (by simpa using hz)
  simp only [storeCells,Sem.run_bind,ha,h1,Result.andThen_ok,h2,Kr]
  rfl
theorem rS {b:Nat} {t:TypeId} {fz:Nat×Nat} (vs:List Value) (w:World) (c:Array Value) (i j:Nat) (hb:w.heap[b]?=some (.cells c t fz)) (hl:i+j+vs.length≤c.size) (hv:∀ v ∈ vs,cd v=true) (hz:Fz fz c.size:=by first | exact kZ _ | assumption):(storeCells ⟨b,i,none⟩ vs j).run P w=.ok () (ct w b (.cells (cL c (i+j) vs) t fz)):=CY vs w c i j hb hl hv hz
theorem Jt {b i:Nat} {c:Array Value} {t u:TypeId} {v:Value} {n:Nat} {fz:Nat×Nat} (hn:(P.info? u).map (·.size)=some n) (hb:w.heap[b]?=some (.cells c t fz)) (hv:v.cells.size=n) (hi:i+n≤c.size) (er:∀ x ∈ v.cells.toList,cd x=true) (hz:Fz fz c.size:=by first | exact kZ _ | assumption):
  (Instr.storeAt u (.pointer (some ⟨b,i,none⟩)) v).run P w=.ok () (ct w b (.cells (cL c i v.cells.toList) t fz)):=by
 cases fv:P.info? u with
 | none=>simp [fv] at hn
 | some inf=>
  simp only [fv,Option.map_some,Option.some.injEq] at hn
  have hs:(sizeOf u).run P w=.ok n w:=by simp [sizeOf,typeInfo,Sem.run_bind,fv,hn]
  have h:=rS (P:=P) v.cells.toList w c i 0 hb (by simp [hv];omega) er hz
  simp only [Instr.storeAt,Instr.sureAddr,Sem.run_bind,Sem.run_pure,Result.andThen_ok,storeVar,hs,hv,ne_eq,not_true_eq_false,if_false]
  simpa using h
theorem E6 {u:TypeId} {x y:Operand} {b i:Nat} {c:Array Value} {t:TypeId} {v:Value} {fz:Nat×Nat} (n:Nat) (hn:(P.info? u).map (·.size)=some n) (hx:ρ x=.pointer (some ⟨b,i,none⟩)) (hy:ρ y=v) (hb:w.heap[b]?=some (.cells c t fz)) (hv:v.cells.size=n) (hi:i+n≤c.size) (er:∀ x ∈ v.cells.toList,cd x=true)
  (aR:Φ undef (ct w b (.cells (cL c i v.cells.toList) t fz))) (hz:Fz fz c.size:=by first | exact kZ _ | assumption):bq P ⟨d,.store u x y,ty,pos,aft,gd⟩ ρ w Φ:=
 .skip (by simp only [execOp,hx,hy,Sem.run_bind,Jt hn hb hv hi er hz,Result.andThen_ok,Sem.run_pure]) aR
theorem Jl {f:FuncId} {fn:Func} (hf:P.funcs[f]?=some fn) (hb:fn.body.isSome=true) (hn:(fn.name == "runtime.NumGoroutine")=false) (args:Array Value):(callFunc f args).run P w=.ok (.enter f args) w:=by
 have h1:¬ fn.body=none:=by cases hx:fn.body<;>simp_all
 have h2:¬ fn.name = "runtime.NumGoroutine":=by simpa using hn
 simp [callFunc,Sem.run_bind,hf,h1,h2]
def fR (P:Program) (f:FuncId):Bool:=match P.funcs[f]? with | some fn=>fn.body.isSome&&!(fn.name == "runtime.NumGoroutine") | none=>false
theorem uV {f:FuncId} (h:fR P f=true) (args:Array Value):(callFunc f args).run P w=.ok (.enter f args) w:=by
 unfold fR at h
 cases hf:P.funcs[f]? with
 | none=>simp [hf] at h
 | some fn=>simp only [hf,Bool.and_eq_true,Bool.not_eq_true'] at h;exact Jl hf h.1 h.2 args
theorem pR {g:Operand} {args:Array Operand} {ey:Array TypeId} {f:FuncId} {vs bZ:Array Value} (hg:ρ g=.func (.func f) #[] bZ) (hf:fR P f=true) (ha:args.map ρ=vs)
  (aR:Calls P f (vs++bZ) w fun e w'=>∃ v,e=.returned v∧Φ v w'):bq P ⟨d,.call ⟨.value g,args,ey⟩,ty,pos,aft,gd⟩ ρ w Φ:=
 .call (f:=f) (args:=vs++bZ) (by simp [execOp,resolve,hg,ha,Deferred.ofValue,invoke,uV hf]) aR
theorem P8 {t t':TypeId} {x y:Operand} {k:IntKind} {a b:Int} {c:Bool} (h:ρ x=.int k a) (h':ρ y=.int k b) (hc:(a==b)=c) (aR:Φ (.bool c) w):bq P ⟨d,.binOp .eql t x y t',ty,pos,aft,gd⟩ ρ w Φ:=by
 subst hc;exact .pure (v:=.bool (a==b)) (by simp [execOp,h,h',eqGuard,binOp,Op.intCmp]) aR
theorem P9 {t t':TypeId} {x y:Operand} {k:IntKind} {a b:Int} {c:Bool} (h:ρ x=.int k a) (h':ρ y=.int k b) (hc:(a != b)=c) (aR:Φ (.bool c) w):bq P ⟨d,.binOp .neq t x y t',ty,pos,aft,gd⟩ ρ w Φ:=by
 subst hc;exact .pure (v:=.bool (a != b)) (by simp [execOp,h,h',eqGuard,binOp,Op.intCmp]) aR
theorem Qa {t t':TypeId} {x y:Operand} {k:IntKind} {a b:Int} {c:Bool} (h:ρ x=.int k a) (h':ρ y=.int k b) (hc:(decide (a<b))=c) (aR:Φ (.bool c) w):bq P ⟨d,.binOp .lss t x y t',ty,pos,aft,gd⟩ ρ w Φ:=by
 subst hc;exact .pure (v:=.bool (decide (a<b))) (by simp [execOp,h,h',eqGuard,binOp,Op.intCmp]) aR
theorem Qb {t t':TypeId} {x y:Operand} {k:IntKind} {a b:Int} {c:Bool} (h:ρ x=.int k a) (h':ρ y=.int k b) (hc:(decide (a≤b))=c) (aR:Φ (.bool c) w):bq P ⟨d,.binOp .leq t x y t',ty,pos,aft,gd⟩ ρ w Φ:=by
 subst hc;exact .pure (v:=.bool (decide (a≤b))) (by simp [execOp,h,h',eqGuard,binOp,Op.intCmp]) aR
theorem Qc {t t':TypeId} {x y:Operand} {k:IntKind} {a b:Int} {c:Bool} (h:ρ x=.int k a) (h':ρ y=.int k b) (hc:(decide (b<a))=c) (aR:Φ (.bool c) w):bq P ⟨d,.binOp .gtr t x y t',ty,pos,aft,gd⟩ ρ w Φ:=by
 subst hc;exact .pure (v:=.bool (decide (b<a))) (by simp [execOp,h,h',eqGuard,binOp,Op.intCmp]) aR
theorem Qd {t t':TypeId} {x y:Operand} {k:IntKind} {a b:Int} {c:Bool} (h:ρ x=.int k a) (h':ρ y=.int k b) (hc:(decide (b≤a))=c) (aR:Φ (.bool c) w):bq P ⟨d,.binOp .geq t x y t',ty,pos,aft,gd⟩ ρ w Φ:=by
 subst hc;exact .pure (v:=.bool (decide (b≤a))) (by simp [execOp,h,h',eqGuard,binOp,Op.intCmp]) aR
theorem Qe {t t':TypeId} {x y:Operand} {k:IntKind} {a b c:Int} (h:ρ x=.int k a) (h':ρ y=.int k b) (hc:k.wrap (a+b)=c) (aR:Φ (.int k c) w):bq P ⟨d,.binOp .add t x y t',ty,pos,aft,gd⟩ ρ w Φ:=by
 subst hc;exact .pure (v:=.int k (k.wrap (a+b))) (by simp [execOp,h,h',eqGuard,binOp,Op.intArith]) aR
theorem Qf {t t':TypeId} {x y:Operand} {k:IntKind} {a b c:Int} (h:ρ x=.int k a) (h':ρ y=.int k b) (hc:k.wrap (a-b)=c) (aR:Φ (.int k c) w):bq P ⟨d,.binOp .sub t x y t',ty,pos,aft,gd⟩ ρ w Φ:=by
 subst hc;exact .pure (v:=.int k (k.wrap (a-b))) (by simp [execOp,h,h',eqGuard,binOp,Op.intArith]) aR
theorem Qg {t t':TypeId} {x y:Operand} {k:IntKind} {a b c:Int} (h:ρ x=.int k a) (h':ρ y=.int k b) (hc:min a b=c) (aR:Φ (.int k c) w):bq P ⟨d,.call ⟨.builtin .min,#[x,y],#[t,t']⟩,ty,pos,aft,gd⟩ ρ w Φ:=by
 have:(if b<a then b else a)=c:=by subst hc;split<;>omega
 subst this;exact .pure (v:=.int k (if b<a then b else a)) (by simp [execOp,resolve,h,h',invoke,builtin,Builtin.min_,Builtin.min2]) aR
theorem Qh {t t':TypeId} {x y:Operand} {k:IntKind} {a b c:Int} (h:ρ x=.int k a) (h':ρ y=.int k b) (hc:max a b=c) (aR:Φ (.int k c) w):bq P ⟨d,.call ⟨.builtin .max,#[x,y],#[t,t']⟩,ty,pos,aft,gd⟩ ρ w Φ:=by
 have:(if a<b then b else a)=c:=by subst hc;split<;>omega
 subst this;exact .pure (v:=.int k (if a<b then b else a)) (by simp [execOp,resolve,h,h',invoke,builtin,Builtin.max_,Builtin.max2]) aR
theorem Qi {t:TypeId} {x:Operand} {b c:Bool} (h:ρ x=.bool b) (hc:(!b)=c) (aR:Φ (.bool c) w):bq P ⟨d,.unOp .not t x,ty,pos,aft,gd⟩ ρ w Φ:=by
 subst hc;exact .pure (v:=.bool (!b)) (by simp [execOp,h,Op.unary]) aR
theorem E7 {c x y:Operand} {v:Value} (h:ρ c=.bool true) (hx:ρ x=v) (aR:Φ v w):bq P ⟨d,.pick c x y,ty,pos,aft,gd⟩ ρ w Φ:=
 .pure (by simp [execOp,h,hx,asBool]) aR
theorem E8 {c x y:Operand} {v:Value} (h:ρ c=.bool false) (hx:ρ y=v) (aR:Φ v w):bq P ⟨d,.pick c x y,ty,pos,aft,gd⟩ ρ w Φ:=
 .pure (by simp [execOp,h,hx,asBool]) aR
theorem O7 {c x y:Operand} {b:Bool} {u v:Value} (h:ρ c=.bool b) (hx:ρ x=u) (hy:ρ y=v) (aR:Φ (if b then u else v) w):bq P ⟨d,.pick c x y,ty,pos,aft,gd⟩ ρ w Φ:=
 .pure (by simp [execOp,h,hx,hy,asBool]) aR
theorem O8 {x:Operand} {t e:TypeId} {a:Option Addr} {n c:Nat} (ht:P.underlying t=some (.slice e)) (h:ρ x=.slice a n c) (aR:Φ (.int .i64 n) w):bq P ⟨d,.call ⟨.builtin .len,#[x],#[t]⟩,ty,pos,aft,gd⟩ ρ w Φ:=
 .pure (v:=.int .i64 n) (by simp [execOp,resolve,h,invoke,builtin,Builtin.len_,Sem.run_bind,run_underlying ht,goInt]) aR
theorem xB {x:Operand} {t t' e:TypeId} {o:Option Addr} {n k:Nat} {c:Bool} (ht:P.underlying t=some (.slice e)) (h:ρ x=.slice o n k) (hn:ρ (.const (.slice none 0 0))=.slice none 0 0) (hc:o.isNone=c) (aR:Φ (.bool c) w):bq P ⟨d,.binOp .eql t x (.const (.slice none 0 0)) t',ty,pos,aft,gd⟩ ρ w Φ:=by
 subst hc
 refine .pure (v:=.bool o.isNone) ?_ aR
 have:∀ m,(Op.equalIn (m+1) t (.slice o n k) (.slice none 0 0)).run P w=.ok o.isNone w:=by
  intro m;cases o<;>simp [Op.equalIn,Sem.run_bind,run_underlying ht]
 simp [execOp,h,hn,eqGuard,binOp,Op.equal,Op.maxDepth,this 9999]
theorem LQ {x:Operand} {t t':TypeId} {o:Option Addr} {c:Bool} (ht:P.underlying t=some (.pointer (P.pointee t))) (h:ρ x=.pointer o) (hn:ρ (.const (.pointer none))=.pointer none) (hc:o.isNone=c) (aR:Φ (.bool c) w):bq P ⟨d,.binOp .eql t x (.const (.pointer none)) t',ty,pos,aft,gd⟩ ρ w Φ:=by
 subst hc
 exact .pure (v:=.bool o.isNone) (by simp [execOp,h,hn,eqGuard,binOp,Op.equal,Op.maxDepth,run_equalIn_pointer_nil w 9999 t o ht]) aR
end
section
variable {P:Program} {w:World} {a:Act}
def sH (P:Program) (w:World) (a:Act):List ResultVar→List Value→Prop
 | [],[]=>True
 | .tmp t::r,v::vs=>a.eval (.tmp t)=v∧sH P w a r vs
 | .cell t ty::r,v::vs=>(∃ ad,a.eval (.tmp t)=.pointer (some ad)∧(loadVar ty ad).run P w=.ok v w)∧sH P w a r vs
 | _,_=>False
def wx (t:Array Value):ResultVar→Sem Value
 | .tmp s=>pure (t.getD s undef)
 | .cell s ty=>do loadVar ty (← asAddr (t.getD s undef))
theorem yc:∀ (rs:List ResultVar) (vs:List Value),sH P w a rs vs→(rs.mapM (wx a.tmps)).run P w=.ok vs w
 | [],[],_=>by simp
 | .tmp t::r,v::vs,h=>by
  have h1:a.tmps.getD t undef=v:=h.1
  have ih:=yc r vs h.2
  simp only [List.mapM_cons,Sem.run_bind,wx,h1,Sem.run_pure,Result.andThen_ok,ih]
 | .cell t ty::r,v::vs,h=>by
  obtain ⟨⟨ad,h1,h2⟩,h3⟩:=h
  have H3:a.tmps.getD t undef=.pointer (some ad):=h1
  have ih:=yc r vs h3
  have h4:(asAddr (.pointer (some ad))).run P w=.ok ad w:=rfl
  simp only [List.mapM_cons,Sem.run_bind,wx,H3,h4,Sem.run_pure,Result.andThen_ok,h2,ih]
 | [],_::_,h=>h.elim
 | .tmp _::_,[],h=>h.elim
 | .cell _ _::_,[],h=>h.elim
theorem si {fn:Func} {rs:List ResultVar} {vs:List Value} (hr:fn.results.toList=rs) (h:sH P w a rs vs):(results fn a.tmps).run P w=.ok (match vs with | [v]=>v | vs=>.tuple vs.toArray) w:=by
 have hm:=yc rs vs h
 have he:results fn a.tmps=(do let vs ← fn.results.mapM (wx a.tmps);pure (if h:vs.size=1 then vs[0] else .tuple vs)):=by
  unfold results
  congr 1
 rw [he]
 simp only [Sem.run_bind,Array.mapM_eq_mapM_toList,hr,Sem.run_map,hm,Result.andThen_ok,Sem.run_pure]
 match vs with
 | []=>simp
 | [v]=>simp
 | _::_::_=>simp
end
theorem St.Rs {w0 w:World} {H:aA} (s:St [] w0 w H):dG w0 w H:=⟨s.nd,fun b hb=>(s.own b hb).resolve_right (by simp),s.holds⟩
section
variable {P:Program} {ops:Array Oper} {Q:Exit→Act→World→Prop} {sz d:Nat} {E:List (Nat×Value)} {a:Act} {w:World} {x:Operand} {v:Value} {ty:TypeId} {pos:String} {aft:Array Edge} {r:List (Oper×Bool)}
end
end Go.Proofs.YtlinpknagdgphaaGreat
namespace Go.Proofs.YtlinpknagdgphaaGreat
open Go.RowKit
section
variable {P:Program} {ρ:Operand→Value} {w:World} {d:Option Tmp} {ty:TypeId} {pos:String} {aft:Array Edge} {gd:Option (Nat×Bool)}
theorem F9 {t:TypeId} {x:Operand} {a:Addr} {v:Value} (ht:scalar P t=true) (h:ρ x=.pointer (some a)) (hc:w.cell? a=some v):(execOp ρ ⟨d,.load t x,ty,pos,aft,gd⟩).run P w=.ok (.value v) w:=by
 simp only [execOp,h,Sem.run_bind,I7 ht hc,Result.andThen_ok,Sem.run_pure]
theorem DO {t:TypeId} {x:Operand} {a:Addr} (vs:List Value) (ht:nv P t vs.length=true) (h:ρ x=.pointer (some a)) (hc:∀ j (hj:j<vs.length),w.cell? (a.add j)=some vs[j]):(execOp ρ ⟨d,.load t x,ty,pos,aft,gd⟩).run P w=.ok (.value (.agg vs.toArray)) w:=by
 simp only [execOp,h,Sem.run_bind,Je ht hc,Result.andThen_ok,Sem.run_pure]
end
end Go.Proofs.YtlinpknagdgphaaGreat
namespace Go.Proofs.YtlinpknagdgphaaGreat
open Go.RowKit
section
variable {P:Program} {ro:Option Nat} {ops:Array Oper} {Q:Exit→Act→World→Prop}
theorem Da {Rk tt:World→Prop} (h:∀ w,tt w→Rk w):∀ {fuel:Nat} {L:Array Bool} {a:Act} {w:World},kL ro P ops Q tt fuel L a w→kL ro P ops Q Rk fuel L a w
 | 0,_,_,_,k=>⟨h _ k.1,k.2⟩
 | _+1,_,_,_,k=>⟨h _ k.1,k.2.1,fun i hi=>wpOpIn_mono (fun _ _ k=>Da h k) (k.2.2 i hi)⟩
variable {Rk:World→Prop} {sz d j s:Nat} {E:List (Nat×Value)} {a:Act} {w:World} {o:Oper} {r:List (Oper×Bool)} {want:Bool}
end
end Go.Proofs.YtlinpknagdgphaaGreat
namespace Go.Proofs.YtlinpknagdgphaaGreat
open Go.RowKit
def eD (T:TypeId) (size:Nat) (v:Value) (n:Nat) (xs:List Value) (H:aA):Prop:=
 xs.length=n*size∧((n=0∧H=[]∧∃ a,v=.slice a 0 0)∨
  ∃ b cap cs fz,v=.slice (some ⟨b,0,none⟩) n cap∧H=[(b,.cells cs T fz)]∧Fz fz cs.size∧cs.size=cap*size∧n≤cap∧cs.toList.take (n*size)=xs)
theorem eD.nil (T:TypeId) (size:Nat) (a:Option Addr):eD T size (.slice a 0 0) 0 [] []:=⟨by simp,Or.inl ⟨rfl,rfl,a,rfl⟩⟩
theorem eD.len {T:TypeId} {size:Nat} {v:Value} {n:Nat} {xs:List Value} {H:aA} (h:eD T size v n xs H):∃ a c,v=.slice a n c:=by
 rcases h.2 with ⟨rfl,_,a,rfl⟩ | ⟨b,cap,cs,fz,rfl,_⟩
 ·exact ⟨a,0,rfl⟩
 ·exact ⟨_,_,rfl⟩
def Src (w:World) (size:Nat) (x:Value) (m:Nat) (X:List Value):Prop:=
 X.length=m*size∧((m=0∧∃ a c,x=.slice a 0 c)∨∃ a c,x=.slice (some a) m c∧∀ j (hj:j<X.length),w.cell? (a.add j)=some X[j])
theorem Src.gr {w w':World} {size:Nat} {x:Value} {m:Nat} {X:List Value} (h:Src w size x m X) (g:Gr w w'):Src w' size x m X:=by
 refine ⟨h.1,?_⟩
 rcases h.2 with h2 | ⟨a,c,h2,h3⟩
 ·exact Or.inl h2
 ·exact Or.inr ⟨a,c,h2,fun j hj=>g.P5 (h3 j hj)⟩
variable {P:Program}
theorem run_loadCells {w:World} {a:Addr} {X:List Value} (h:∀ j (hj:j<X.length),w.cell? (a.add j)=some X[j]):(loadCells a X.length).run P w=.ok X.toArray w:=by
 have:=run_loadCellsFrom (P:=P) (w:=w) (a:=a) (vs:=X) 0 #[] (by simpa using h)
 simpa [loadCells] using this
theorem Src.first {w:World} {size:Nat} {x:Value} {m:Nat} {X:List Value} (h:Src w size x m X):(Builtin.lenOf x).run P w=.ok m w∧(Builtin.firstCells size m x).run P w=.ok X.toArray w:=by
 obtain ⟨hl,h⟩:=h
 rcases h with ⟨rfl,a,c,rfl⟩ | ⟨a,c,rfl,h⟩
 ·have:X=[]:=List.eq_nil_of_length_eq_zero (by simpa using hl)
  subst this
  cases a with
  | none=>simp [Builtin.lenOf,Builtin.firstCells]
  | some a=>simp [Builtin.lenOf,Builtin.firstCells,loadCells,loadCellsFrom]
 ·refine ⟨by simp [Builtin.lenOf],?_⟩
  simp only [Builtin.firstCells,← hl]
  exact run_loadCells h
theorem DP (jL:Nat) (Rt:256≤jL):∀ (r c:Nat),c≤jL→Builtin.growBy jL r c≤2*jL+0
 | 0,c,h=>by simp [Builtin.growBy];omega
 | r+1,c,h=>by
  unfold Builtin.growBy
  split
  ·omega
  ·by_cases h2:c+(c+768) / 4≤jL
   ·exact DP jL Rt r _ h2
   ·have key:∀ r c',jL<c'→Builtin.growBy jL r c'=c':=by
     intro r;induction r with
     | zero=>intro c' _;rfl
     | succ r ih=>intro c' H4;unfold Builtin.growBy;rw [if_pos (by omega)]
    rw [key r _ (by omega)];omega
theorem NJ {jL fK:Nat} (h:fK<jL):Builtin.nextslicecap jL fK≤2*jL+0:=by
 unfold Builtin.nextslicecap
 split
 ·omega
 ·split
  ·omega
  ·exact DP jL (by omega) 4 fK (by omega)
structure qI (P:Program) (st T size bytes:Nat) (z:Value):Prop where
 bM:P.underlying st=some (.slice T)
 sI:(P.info? T).map (·.size)=some size
 O9:(P.info? T).map (·.bytes)=some bytes
 hzero:(P.info? T).bind (·.zero)=some z
 Sc:z.cells.size=size
theorem qI.info {st T size bytes:Nat} {z:Value} (h:qI P st T size bytes z):∃ i,P.info? T=some i∧i.size=size∧i.bytes=bytes∧i.zero=some z:=by
 cases hi:P.info? T with
 | none=>have:=h.sI;simp [hi] at this
 | some i=>
  have h1:=h.sI;have h2:=h.O9;have h3:=h.hzero
  simp only [hi,Option.map_some,Option.some.injEq,Option.bind_some] at h1 h2 h3
  exact ⟨i,rfl,h1,h2,h3⟩
theorem Jf (z:Array Value) (n:Nat):(Builtin.zeroCells z n).size=n*z.size:=by simp [Builtin.zeroCells]
theorem Jm (c:Array Value):∀ (vs:List Value) (i:Nat),i+vs.length≤c.size→∀ (d:Array Value),d.size=c.size→(cL d i vs).toList.take (i+vs.length)=d.toList.take i++vs:=by
 intro vs
 induction vs with
 | nil=>intro i h d hd;simp [cL]
 | cons v r ih=>
  intro i h d hd
  simp only [List.length_cons] at h
  have:=ih (i+1) (by omega) (d.setIfInBounds i v) (by simp [hd])
  simp only [cL,List.length_cons]
  rw [show i+(r.length+1)=i+1+r.length by omega,this]
  have hi:i<d.toList.length:=by simp [hd];omega
  simp only [Array.toList_setIfInBounds]
  rw [List.take_succ_eq_append_getElem (by simpa using hi)]
  simp [List.take_set_of_le]
structure lH (P:Program) (xt:TypeId) (w:World) (size:Nat) (u:Value) (m:Nat) (X:List Value):Prop where
 len:X.length=m*size
 ty:(∃ e,P.underlying xt=some (.slice e))∨P.underlying xt=some .string
 rd:∀ w',Gr w w'→(Builtin.lenOf u).run P w'=.ok m w'∧(Builtin.firstCells size m u).run P w'=.ok X.toArray w'
theorem Src.app {xt e:TypeId} {w:World} {size:Nat} {u:Value} {m:Nat} {X:List Value} (h:Src w size u m X) (mM:P.underlying xt=some (.slice e)):lH P xt w size u m X:=⟨h.1,.inl ⟨e,mM⟩,fun _ g=>(h.gr g).first⟩
theorem lH.str {xt:TypeId} {w:World} {bs:List UInt8} (mM:P.underlying xt=some .string):lH P xt w 1 (.string ⟨bs.toArray⟩) bs.length (bs.map fun b:UInt8=>Value.int .u8 (b.toNat:Int)):=by
 refine ⟨by simp,.inr mM,fun w' _=>?_⟩
 have e1:(⟨bs.toArray⟩:ByteArray).size=bs.length:=by simp [ByteArray.size]
 refine ⟨by simp [Builtin.lenOf,e1],?_⟩
 have e2:((⟨bs.toArray⟩:ByteArray).extract 0 bs.length).data=bs.toArray:=by simp [ByteArray.data_extract]
 simp [Builtin.firstCells,e2]
theorem DQ {st T size bytes:Nat} {z:Value} {ρ:Operand→Value} {w w0:World} {D:List Nat} {Φ:Value→World→Prop} {d:Option Tmp} {ty xt:TypeId} {pos:String} {aft:Array Edge} {gd:Option (Nat×Bool)} {x y:Operand} {v u:Value} {n m:Nat} {xs X:List Value} {H R:aA}
    (ok:qI P st T size bytes z) (hx:ρ x=v) (hy:ρ y=u) (S:St D w0 w (H++R)) (hv:eD T size v n xs H) (hu:lH P xt w size u m X) (er:∀ q ∈ X,cd q=true) (sJ:(2*(n+m)+0)*bytes≤281474976710656) (wy:n+m<4611686018427387904)
    (aR:∀ v' w' H',eD T size v' (n+m) (xs++X) H'→St D w0 w' (H'++R)→Φ v' w'):bq P ⟨d,.call ⟨.builtin .append,#[x,y],#[st,xt]⟩,ty,pos,aft,gd⟩ ρ w Φ:=by
  obtain ⟨i,hi,h1,h2,h3⟩:=ok.info
  obtain ⟨hlen,qw⟩:=hu.rd w (Gr.refl w)
  have bI:∀ w:World,(sizeOf T).run P w=.ok size w:=fun w=>by simp [sizeOf,typeInfo,Sem.run_bind,hi,h1]
  have lK:∀ w:World,(typeInfo T).run P w=.ok i w:=fun w=>by simp [typeInfo,Sem.run_bind,hi]
  have hzero:∀ w:World,(zeroValue T).run P w=.ok z w:=fun w=>by simp [zeroValue,Sem.run_bind,lK,h3]
  have T8:n+m≤9223372036854775807:=by omega
  have oT:∀ r:Result Value,(Builtin.append_ #[st,xt] ty #[v,u]).run P w=r→(execOp ρ ⟨d,.call ⟨.builtin .append,#[x,y],#[st,xt]⟩,ty,pos,aft,gd⟩).run P w=r.andThen fun v w'=>.ok (.value v) w':=by
    intro r hr
    simp only [execOp,resolve,List.map_toArray,List.map,hx,hy,Sem.run_bind,Sem.run_pure,Result.andThen_ok,invoke,builtin,hr]
  have vM:∀ (a:Option Addr) (c:Nat) (w':World),v=.slice a n c→n+m≤c→(match a with | some a=>(storeCells (a.add (n*size)) X).run P w | none=>.ok () w)=.ok () w'→(Builtin.append_ #[st,xt] ty #[v,u]).run P w=.ok (.slice a (n+m) c) w':=by
    intro a c w' hv hle bM
    subst hv
    rcases hu.ty with ⟨e,mM⟩ | mM<;>
    (unfold Builtin.append_
     simp only [List.getElem?_toArray,List.getElem?_cons_zero,List.getElem?_cons_succ,Sem.run_bind,run_underlying ok.bM,run_underlying mM,Result.andThen_ok,bI,Sem.run_pure,Bool.false_eq_true,if_false,hlen,hle,if_true,Bool.not_false,qw]
     cases a with
     | none=>simp only at bM;cases bM;simp
     | some a=>simp only at bM;simp [bM])
  have GO:∀ (a:Option Addr) (c:Nat) (fK:List Value),v=.slice a n c→c<n+m→(Builtin.firstCells size n v).run P w.drew=.ok fK.toArray w.drew→fK.length=n*size→∃ k,n+m≤k∧(Builtin.append_ #[st,xt] ty #[v,u]).run P w=.ok (.slice (some ⟨w.heap.size,0,none⟩) (n+m) k) (w.drew.alloc (.cells (fK.toArray++X.toArray++Builtin.zeroCells z.cells (k-(n+m))) T)):=by
    intro a c fK hv aK hold TP
    subst hv
    have NK:=hu.rd w.drew (Gr.drew w)
    have Sd:Builtin.nextslicecap (n+m) c*bytes≤281474976710656:=Nat.le_trans (Nat.mul_le_mul_right _ (NJ aK)) sJ
    refine ⟨(Question.appendCap (n+m) c T).cut (w.tape w.drawn (.appendCap (n+m) c T)),by simp [Question.cut],?_⟩
    have tv:(choose (.appendCap (n+m) c T)).run P w=.ok ((Question.appendCap (n+m) c T).cut (w.tape w.drawn (.appendCap (n+m) c T))) w.drew:=by
      simp [choose,Sem.run,Question.forced]
    have sR:∀ (k:Nat) (w:World),(askRoom k).run P w=.ok () w:=by
      intro k w;unfold askRoom;split<;>simp [mark,Sem.run]
    have Qj:¬ (((n+m:Nat):Int)>IntKind.i64.max∧(False∨i.bytes=0)):=by
      rintro ⟨h,_⟩
      simp [IntKind.max,IntKind.signed,IntKind.bits] at h
      omega
    have Ru:¬ (Builtin.nextslicecap (n+m) c*i.bytes>2 ^ 48):=by rw [h2];omega
    have cu:∀ (cs:Array Value) (w:World),(newRow T cs).run P w=.ok ⟨w.heap.size,0,none⟩ (w.alloc (.cells cs T)):=by
      intro cs w;simp [newRow,newObj,Sem.run]
    rcases hu.ty with ⟨e,mM⟩ | mM<;>
    (unfold Builtin.append_
     simp only [List.getElem?_toArray,List.getElem?_cons_zero,List.getElem?_cons_succ,Sem.run_bind,run_underlying ok.bM,run_underlying mM,Result.andThen_ok,bI,Sem.run_pure,Bool.false_eq_true,if_false,hlen]
     rw [if_neg (by omega)]
     simp only [Sem.run_bind,lK,Result.andThen_ok]
     rw [if_neg Qj]
     simp only [Sem.run_bind,lK,Result.andThen_ok]
     rw [if_neg Ru]
     simp only [Sem.run_bind,lK,Result.andThen_ok,tv,sR,hold,Bool.not_false,if_true,NK.2,hzero,cu,Sem.run_pure]
     rfl)
  have sI:w.drew.heap.size=w.heap.size:=rfl
  have dY:∀ (fK:List Value) (k:Nat),fK.length=n*size→fK=xs→n+m≤k→∀ b cs,cs=fK.toArray++X.toArray++Builtin.zeroCells z.cells (k-(n+m))→eD T size (.slice (some ⟨b,0,none⟩) (n+m) k) (n+m) (xs++X) [(b,.cells cs T (0,0))]:=by
    intro fK k nV wX hk b cs cX
    subst cX
    have tz:=hu.len
    have e1:(n+m)*size=n*size+m*size:=Nat.add_mul n m size
    refine ⟨by rw [List.length_append,← wX,nV,tz,e1],Or.inr ⟨b,k,_,(0,0),rfl,rfl,kZ _,?_,hk,?_⟩⟩
    · simp only [Array.size_append,List.size_toArray,Jf,ok.Sc,nV,tz]
      rw [← e1,← Nat.add_mul];congr 1;omega
    · simp only [Array.toList_append,← wX]
      rw [List.take_append_of_le_length (by simp [nV,tz,e1]),List.take_of_length_le (by simp [nV,tz,e1])]
  have lL:∀ (fK:List Value) (k:Nat),fK.length=n*size→fK=xs→n+m≤k→Φ (.slice (some ⟨w.heap.size,0,none⟩) (n+m) k) (w.drew.alloc (.cells (fK.toArray++X.toArray++Builtin.zeroCells z.cells (k-(n+m))) T)):=by
    intro fK k nV wX hk
    exact aR _ _ _ (dY fK k nV wX hk w.heap.size _ rfl) ((S.l3.gr (Gr.drew w)).alloc _)
  rcases hv.2 with ⟨rfl,rfl,a,rfl⟩ | ⟨b,cap,cs,fz,rfl,rfl,fL,cX,hle,wg⟩
  · have H5:xs=[]:=List.eq_nil_of_length_eq_zero (by simpa using hv.1)
    by_cases hm:m=0
    · have hX:X=[]:=List.eq_nil_of_length_eq_zero (by rw [hu.len,hm];simp)
      refine .pure (v:=.slice a (0+m) 0) (w':=w) (by rw [oT _ (vM a 0 w rfl (by omega) (by subst hX;cases a<;>simp [storeCells]))];rfl) (aR _ _ [] ?_ S)
      subst hm;rw [H5,hX];exact eD.nil T size a
    · obtain ⟨k,hk,fc⟩:=GO a 0 [] rfl (by omega) (by cases a<;>simp [Builtin.firstCells,loadCells,loadCellsFrom]) (by simp)
      exact .pure (by rw [oT _ fc];rfl) (lL [] k (by simp) H5.symm hk)
  · have hb:w.heap[b]?=some (.cells cs T fz):=S.holds (b,_) (by simp)
    by_cases hm:n+m≤cap
    · have wz:n*size+X.length≤cs.size:=by rw [hu.len,cX,← Nat.add_mul];exact Nat.mul_le_mul_right _ hm
      have bM:=rS (P:=P) X w cs (n*size) 0 hb (by omega) er
      refine .pure (v:=.slice (some ⟨b,0,none⟩) (n+m) cap) (w':=ct w b (.cells (cL cs (n*size) X) T fz)) (by rw [oT _ (vM _ cap _ rfl hm (by simp only [add_eq,Nat.zero_add];exact bM))];rfl) (aR _ _ [(b,.cells (cL cs (n*size) X) T fz)] ?_ (S.set _))
      have e1:(n+m)*size=n*size+m*size:=Nat.add_mul n m size
      refine ⟨by rw [List.length_append,hv.1,hu.len,e1],Or.inr ⟨b,cap,_,fz,rfl,rfl,by rw [j7];exact fL,by rw [j7,cX],hm,?_⟩⟩
      have:=Jm cs X (n*size) wz cs rfl
      rw [hu.len] at this
      rw [e1,this,wg]
    · have hold:(Builtin.firstCells size n (.slice (some ⟨b,0,none⟩) n cap)).run P w.drew=.ok xs.toArray w.drew:=by
        simp only [Builtin.firstCells,← hv.1]
        refine run_loadCells (fun j hj=>?_)
        rw [add_eq,Nat.zero_add]
        have aV:w.drew.heap[b]?=some (.cells cs T fz):=hb
        rw [cell_of aV]
        have:(cs.toList.take (n*size))[j]?=some xs[j]:=by rw [wg];simp [hj]
        rw [List.getElem?_take] at this
        split at this
        · simpa using this
        · simp at this
      obtain ⟨k,hk,fc⟩:=GO (some ⟨b,0,none⟩) cap xs rfl (by omega) hold hv.1
      exact .pure (by rw [oT _ fc];rfl) (lL xs k hv.1 rfl hk)
section
variable {ρ:Operand→Value} {w:World} {Φ:Value→World→Prop} {d:Option Tmp} {ty t e:TypeId} {pos:String} {aft:Array Edge} {gd:Option (Nat×Bool)} {x lo hi mx:Operand} {size l h m b o n c:Nat}
theorem jd {v:Nat} {y:Nat} {code:BoundsCode} (h:v≤y):(Instr.sliceBound (.int .i64 v) y code).run P w=.ok v w:=by
 simp only [Instr.sliceBound,Sem.run_bind,asIntOf,Sem.run_pure,Result.andThen_ok]
 rw [if_pos ⟨by omega,by omega⟩];simp
theorem LR {z:Value} {Z:List Value} (ht:P.underlying t=some (.slice e)) (hz:(zeroValue e).run P w=.ok z w) (hx:ρ x=.slice (some ⟨b,o,none⟩) (n+1) c) {cs:Array Value} {T:TypeId} {fz:Nat×Nat} (hb:w.heap[b]?=some (.cells cs T fz)) (hZ:(Builtin.zeroCells z.cells (n+1)).toList=Z) (hl:o+Z.length≤cs.size) (er:∀ q ∈ Z,cd q=true)
  (aR:Φ (.tuple #[]) (ct w b (.cells (cL cs o Z) T fz))) (fL:Fz fz cs.size:=by first | exact kZ _ | assumption):bq P ⟨d,.call ⟨.builtin .clear,#[x],#[t]⟩,ty,pos,aft,gd⟩ ρ w Φ:=
 .pure (by
  have bM:=rS (P:=P) Z w cs o 0 hb (by omega) er
  simp only [Nat.add_zero] at bM
  have:(Builtin.clear_ #[t] ty #[.slice (some ⟨b,o,none⟩) (n+1) c]).run P w=.ok (.tuple #[]) (ct w b (.cells (cL cs o Z) T fz)):=by
   unfold Builtin.clear_
   simp only [List.getElem?_toArray,List.getElem?_cons_zero,Sem.run_bind,run_underlying ht,Result.andThen_ok,hz,hZ,bM,Sem.run_pure]
  simp only [execOp,resolve,List.map_toArray,List.map,hx,Sem.run_bind,Sem.run_pure,Result.andThen_ok,invoke,builtin,this]) aR
end
end Go.Proofs.YtlinpknagdgphaaGreat
namespace Go.Proofs.YtlinpknagdgphaaGreat
open Go.RowKit
inductive TU where
 | pl
 | it (k:IntKind)
 | st
 | sr (jM ey:List Nat)
 | sl (e:Nat)
 | ar (n e:Nat)
 | mp (k e:Nat)
structure TI where
 u:TU
 size:Nat
 bytes:Nat
 zero:List Value
abbrev aW:=List (Nat×TI)
def aW.at (T:aW) (t:Nat):Option TI:=
 match T with
 | []=>none
 | (k,v)::r=>bif k.beq t then some v else aW.at r t
def qx:List UInt8→List UInt8→Bool
 | [],[]=>true
 | a::r,b::s=>a.toNat.beq b.toNat&&qx r s
 | _,_=>false
theorem DR:∀ {a b:List UInt8},qx a b=true→a=b
 | [],[],_=>rfl
 | a::r,b::s,h=>by simp only [qx,Bool.and_eq_true] at h;rw [UInt8.toNat_inj.1 (Nat.eq_of_beq_eq_true h.1),DR h.2]
 | [],_::_,h=>by simp [qx] at h
 | _::_,[],h=>by simp [qx] at h
def Au:Value→Value→Bool
 | .bool a,.bool b=>a==b
 | .int k a,.int k' b=>decide (k=k')&&a==b
 | .string a,.string b=>qx a.data.toList b.data.toList
 | .pointer none,.pointer none=>true
 | .slice none a b,.slice none c d=>a==c&&b==d
 | .map none,.map none=>true
 | .nilFunc,.nilFunc=>true
 | .nilIface,.nilIface=>true
 | _,_=>false
theorem LU {a b:Value} (h:Au a b=true):a=b:=by
 unfold Au at h
 split at h
 ·simp only [beq_iff_eq] at h;rw [h]
 ·simp only [Bool.and_eq_true,decide_eq_true_eq,beq_iff_eq] at h;rw [h.1,h.2]
 ·rename_i a b
  have ha:a=b:=by
   cases a with | mk a=>cases b with | mk b=>
   have e:a=b:=Array.toList_inj.1 (DR h)
   rw [e]
  rw [ha]
 ·rfl
 ·simp only [Bool.and_eq_true,beq_iff_eq] at h;rw [h.1,h.2]
 ·rfl
 ·rfl
 ·rfl
 ·simp at h
def qy:List Value→List Value→Bool
 | [],[]=>true
 | a::r,b::s=>Au a b&&qy r s
 | _,_=>false
theorem DS:∀ {a b:List Value},qy a b=true→a=b
 | [],[],_=>rfl
 | [],_::_,h=>by simp [qy] at h
 | _::_,[],h=>by simp [qy] at h
 | a::r,b::s,h=>by
  simp only [qy,Bool.and_eq_true] at h
  rw [LU h.1,DS h.2]
def wh (P:Program) (t:Nat):List Nat→Nat→Bool
 | [],_=>true
 | o::r,i=>(match oB P t i with | some o'=>o==o' | none=>false)&&wh P t r (i+1)
theorem yd {P:Program} {t:Nat}:∀ {l:List Nat} {i:Nat},wh P t l i=true→∀ (f:Nat) off,l[f]?=some off→oB P t (i+f)=some off
 | [],_,_,_,_,h=>by simp at h
 | o::r,i,hb,f,off,h=>by
  simp only [wh,Bool.and_eq_true] at hb
  cases f with
  | zero=>
   simp only [List.getElem?_cons_zero,Option.some.injEq] at h;subst h
   rw [Nat.add_zero]
   have:=hb.1
   split at this
   ·rename_i o' ho;simp only [beq_iff_eq] at this;rw [ho,this]
   ·simp at this
  | succ f=>
   simp only [List.getElem?_cons_succ] at h
   have:=yd hb.2 f off h
   rw [← this];congr 1;omega
def qb (P:Program):List Field→Option (List (Nat×Nat))
 | []=>some []
 | f::r=>(match P.info? f.type,qb P r with | some i,some l=>some ((f.offset,i.size)::l) | _,_=>none)
def yP:List Nat→Nat→List (Nat×Nat)
 | [],_=>[]
 | [o],n=>[(o,n-o)]
 | o::o'::r,n=>(o,o'-o)::yP (o'::r) n
def mN (P:Program) (t:Nat) (x:TI):Bool:=
 (match P.info? t with
 | some i=>i.size==x.size&&i.bytes==x.bytes&&(match i.zero with | some z=>qy z.cells.toList x.zero | none=>false)
 | none=>false) &&
 (match x.u,P.underlying t with
 | .pl,some _=>scalar P t
 | .it k,some (.int k')=>decide (k=k')
 | .st,some .string=>true
 | .sr jM ey,some (.struct fs)=>(fs.toList.map (·.type)==ey)&&jM.length==fs.size&&(qb P fs.toList==some (yP jM x.size))&&wh P t jM 0
 | .sl e,some (.slice e')=>e==e'
 | .ar n e,some (.array n' e')=>n==n'&&e==e'
 | .mp k e,some (.map k' e')=>k==k'&&e==e'
 | _,_=>false)
def bp (P:Program):aW→Bool
 | []=>true
 | (t,x)::r=>mN P t x&&bp P r
variable {P:Program} {T:aW}
theorem oP (hT:bp P T=true) {t:Nat} {x:TI} (h:T.at t=some x):mN P t x=true:=by
 induction T with
 | nil=>simp [aW.at] at h
 | cons y r ih=>
  obtain ⟨k,v⟩:=y
  simp only [bp,Bool.and_eq_true] at hT
  unfold aW.at at h
  cases hk:k.beq t with
  | true=>simp only [hk,cond_true,Option.some.injEq] at h;subst h;rw [← Nat.eq_of_beq_eq_true hk];exact hT.1
  | false=>simp only [hk,cond_false] at h;exact ih hT.2 h
theorem uW (hT:bp P T=true) {t:Nat} {x:TI} (h:T.at t=some x):∃ i z,P.info? t=some i∧i.size=x.size∧i.bytes=x.bytes∧i.zero=some z∧z.cells.toList=x.zero:=by
 have:=oP hT h
 simp only [mN,Bool.and_eq_true] at this
 have h1:=this.1
 cases hi:P.info? t with
 | none=>simp [hi] at h1
 | some i=>
  simp only [hi,Bool.and_eq_true,beq_iff_eq] at h1
  obtain ⟨⟨ha,hb⟩,hc⟩:=h1
  cases hz:i.zero with
  | none=>simp [hz] at hc
  | some z=>simp only [hz] at hc;exact ⟨i,z,rfl,ha,hb,hz,DS hc⟩
def fY (T:aW) (t:Nat):Option Nat:=match T.at t with | some x=>some x.size | none=>none
theorem ie (hT:bp P T=true) {t n:Nat} (h:fY T t=some n):(P.info? t).map (·.size)=some n:=by
 unfold fY at h
 split at h
 ·rename_i x hx
  obtain ⟨i,z,h1,h2,-⟩:=uW hT hx
  simp only [Option.some.injEq] at h;rw [h1,Option.map_some,h2,h]
 ·simp at h
def oU (T:aW) (t:Nat):Option (List Value):=match T.at t with | some x=>some x.zero | none=>none
theorem uX (hT:bp P T=true) {t:Nat} {l:List Value} (h:oU T t=some l):∃ z,z.cells=l.toArray∧∀ w:World,(zeroValue t).run P w=.ok z w:=by
 unfold oU at h
 split at h
 ·rename_i x hx
  obtain ⟨i,z,h1,-,-,h2,h3⟩:=uW hT hx
  simp only [Option.some.injEq] at h;subst h
  exact ⟨z,by rw [← h3],fun w=>by simp [zeroValue,typeInfo,Sem.run_bind,h1,h2]⟩
 ·simp at h
inductive H6 where
 | one
 | many (n:Nat)
def mO (T:aW) (t:Nat):Option H6:=match T.at t with
 | some x=>(match x.u with | .sr _ _=>some (.many x.size) | .ar _ _=>some (.many x.size) | _=>some .one)
 | none=>none
theorem yQ (hT:bp P T=true) {t:Nat} (h:mO T t=some .one):scalar P t=true:=by
 unfold mO at h
 cases hx:T.at t with
 | none=>simp [hx] at h
 | some x=>
  simp only [hx] at h
  have:=oP hT hx
  simp only [mN,Bool.and_eq_true] at this
  have h2:=this.2
  unfold scalar
  cases hu:x.u<;>simp only [hu,Option.some.injEq,reduceCtorEq] at h h2<;>cases hP:P.underlying t<;>simp only [hP,Bool.false_eq_true] at h2
  ·rename_i u;unfold scalar at h2;rw [hP] at h2;exact h2
  all_goals (rename_i u;cases u<;>simp_all)
theorem ye (hT:bp P T=true) {t n:Nat} (h:mO T t=some (.many n)):nv P t n=true:=by
 unfold mO at h
 cases hx:T.at t with
 | none=>simp [hx] at h
 | some x=>
  simp only [hx] at h
  obtain ⟨i,z,h1,hs,-⟩:=uW hT hx
  have:=oP hT hx
  simp only [mN,Bool.and_eq_true] at this
  have h2:=this.2
  unfold nv
  cases hu:x.u<;>simp only [hu,Option.some.injEq,reduceCtorEq,H6.many.injEq] at h h2<;>cases hP:P.underlying t<;>simp only [hP,Bool.false_eq_true] at h2<;>rename_i u<;>cases u<;>simp_all
def Bm (T:aW) (t f:Nat):Option Nat:=match T.at t with | some ⟨.sr jM _,_,_,_⟩=>jM[f]? | _=>none
theorem NL (hT:bp P T=true) {t f off:Nat} (h:Bm T t f=some off):oB P t f=some off:=by
 unfold Bm at h
 split at h
 ·rename_i jM _ _ _ _ hx
  have:=oP hT hx
  simp only [mN,Bool.and_eq_true] at this
  have h2:=this.2
  cases hP:P.underlying t with
  | none=>simp [hP] at h2
  | some u=>
   simp only [hP] at h2
   cases u<;>simp only [Bool.false_eq_true,Bool.and_eq_true] at h2
   simpa using yd h2.2 f off h
 ·simp at h
def B2 (T:aW) (t:Nat):Option (List (Nat×Nat)):=match T.at t with | some ⟨.sr jM _,n,_,_⟩=>some (yP jM n) | _=>none
theorem Pa (hT:bp P T=true) {t:Nat} {pl:List (Nat×Nat)} (h:B2 T t=some pl):∃ fs,P.underlying t=some (.struct fs)∧qb P fs.toList=some pl:=by
 unfold B2 at h
 split at h
 ·rename_i jM _ n _ _ hx
  have:=oP hT hx
  simp only [mN,Bool.and_eq_true] at this
  have h2:=this.2
  simp only [Option.some.injEq] at h
  cases hP:P.underlying t with
  | none=>simp [hP] at h2
  | some u=>
   simp only [hP] at h2
   cases u<;>simp only [Bool.false_eq_true,Bool.and_eq_true,beq_iff_eq] at h2
   rename_i fs
   exact ⟨fs,rfl,by rw [h2.1.2,h]⟩
 ·simp at h
def B3 (T:aW) (t f:Nat):Option (Nat×Nat):=match T.at t with | some ⟨.sr jM ey,_,_,_⟩=>(match jM[f]?,ey[f]? with | some o,some ty=>some (o,ty) | _,_=>none) | _=>none
theorem Pb (hT:bp P T=true) {t f o ty:Nat} (h:B3 T t f=some (o,ty)):∃ fs x,P.underlying t=some (.struct fs)∧fs[f]?=some x∧x.offset=o∧x.type=ty:=by
 unfold B3 at h
 split at h
 ·rename_i jM ey _ _ _ hx
  have:=oP hT hx
  simp only [mN,Bool.and_eq_true] at this
  have h2:=this.2
  split at h
  ·rename_i o' T9 h3 h4
   simp only [Option.some.injEq,Prod.mk.injEq] at h;obtain ⟨rfl,rfl⟩:=h
   cases hP:P.underlying t with
   | none=>simp [hP] at h2
   | some u=>
    simp only [hP] at h2
    cases u<;>simp only [Bool.false_eq_true,Bool.and_eq_true,beq_iff_eq] at h2
    rename_i fs
    have ho:=yd h2.2 f _ h3
    rw [Nat.zero_add] at ho
    rw [← h2.1.1.1,List.getElem?_map,Option.map_eq_some_iff] at h4
    obtain ⟨x,hx,rfl⟩:=h4
    have jU:fs[f]?=some x:=by rw [← Array.getElem?_toList];exact hx
    refine ⟨fs,x,rfl,jU,?_,rfl⟩
    unfold oB at ho
    rw [hP] at ho
    simp only [jU] at ho
    split at ho
    ·split at ho
     ·simp at ho
     ·simpa using ho
    ·simp at ho
  ·simp at h
 ·simp at h
inductive B4 where
 | sl (e:Nat)
 | ar (n e:Nat)
 | mp (k e:Nat)
 | it (k:IntKind)
 | st
 | ot
def cV (T:aW) (t:Nat):Option B4:=match T.at t with
 | some x=>(match x.u with | .sl e=>some (.sl e) | .ar n e=>some (.ar n e) | .mp k e=>some (.mp k e) | .it k=>some (.it k) | .st=>some .st | _=>some .ot)
 | none=>none
theorem cE (hT:bp P T=true) {t:Nat} {k:B4} (h:cV T t=some k):match k with | .sl e=>P.underlying t=some (.slice e) | .ar n e=>P.underlying t=some (.array n e) | .mp k e=>P.underlying t=some (.map k e) | .it k=>P.underlying t=some (.int k) | .st=>P.underlying t=some .string | .ot=>(P.underlying t).isSome=true:=by
 unfold cV at h
 cases hx:T.at t with
 | none=>simp [hx] at h
 | some x=>
  simp only [hx] at h
  have:=oP hT hx
  simp only [mN,Bool.and_eq_true] at this
  have h2:=this.2
  cases hu:x.u<;>simp only [hu,Option.some.injEq] at h h2<;>subst h<;>cases hP:P.underlying t<;>simp only [hP,Bool.false_eq_true] at h2<;>rename_i u<;>cases u<;>simp_all
theorem LV (hT:bp P T=true) {t:Nat} {k:B4} (h:cV T t=some k):(P.underlying t).isSome=true:=by
 have:=cE hT h
 cases k<;>simp_all
end Go.Proofs.YtlinpknagdgphaaGreat
namespace Go.Proofs.YtlinpknagdgphaaGreat
open Go.RowKit
inductive DV where
 | v (x:Value)
 | ro (k:Nat) (rows:List (List DV))
 | em (T k:Nat) (rows:List (List DV))
 | ag (l:List DV)
 | tu (l:List DV)
 | pb (T:Nat) (cells:List DV)
 | jk
inductive MK where
 | i (k:IntKind) (n:Int)
 | a (l:List (IntKind×Int))
deriving DecidableEq
def MK.val:MK→Value
 | .i k n=>.int k n
 | .a l=>.agg (l.map fun x=>.int x.1 x.2).toArray
structure RF where
 ps:Array Tmp
 cx:Code
 body:Code
inductive AV where
 | d (x:DV)
 | sl (u n:Nat)
 | sb (u k o n:Nat)
 | sf (u k o n:Nat) (q:Option Nat)
 | pt (u o:Nat)
 | mv (u:Nat)
 | yl (u:Nat)
 | ep (u k i o:Nat)
 | rp (row:List DV) (o:Nat)
 | bt (bs:List UInt8)
 | uk
 | fn (f:Nat) (bZ:List AV)
 | fm (f:Nat) (first:List AV)
 | ag (l:List AV)
 | tu (l:List AV)
abbrev DV.u (n:Nat):DV:=.v (.int .u64 ((n:Nat):Int))
abbrev DV.n (n:Nat):DV:=.v (.int .i64 ((n:Nat):Int))
abbrev DV.z (n:Int):DV:=.v (.int .i64 n)
abbrev AV.u (n:Nat):AV:=.d (.u n)
abbrev AV.n (n:Nat):AV:=.d (.n n)
abbrev AV.z (n:Int):AV:=.d (.z n)
inductive LS where
 | ready
 | busy
 | left
def LS.state:LS→LoopState
 | .ready=>.ready
 | .busy=>.busy
 | .left=>.done
def LS.ji:LS→Option Code
 | .left=>some .ret
 | _=>none
inductive au where
 | bx (T:Nat) (cells:List AV)
 | rw (T k:Nat) (rows:List (List DV))
 | tw (a:Option Addr) (c T k:Nat) (rows:List (List DV))
 | mp (T c:Nat) (es:List (Nat×MK×DV))
 | it (um:Option Nat) (since:Nat) (seen:List Nat) (c:Nat)
 | mu (T c:Nat) (es:List (MK×DV))
 | fl (T k m:Nat) (cells:List AV)
 | mf (T c:Nat) (es:List (Nat×MK×AV))
 | il (um:Option Nat) (since last c:Nat)
 | lp (s:LS) (f sz:Nat) (E:List (Nat×AV)) (c:RF)
 | nm (u b:Nat)
 | gw (g:Nat) (row:List DV)
 | dead
def lay (n:Nat) (X:Nat→List Value):List Value:=(List.range n).flatMap X
def bW (n k:Nat) (F:Nat→Nat→aA):aA:=(List.range n).flatMap fun i=>(List.range k).flatMap (F i)
inductive bQ (K:World→Prop):DV→Value→aA→Prop where
 | v (x:Value):bQ K (.v x) x []
 | jk (x:Value):bQ K .jk x []
 | ro {k:Nat} {rows:List (List DV)} {y:Value} (X:Nat→List Value) (hl:∀ (i:Nat) r,rows[i]?=some r→r.length=k∧(X i).length=k)
   (hy:∃ a c,y=.slice a rows.length c∧rows.length≤c) (hs:∀ w,K w→Src w k y rows.length (lay rows.length X))
   (hr:∀ (i:Nat) (r:List DV) (j:Nat) c x,rows[i]?=some r→r[j]?=some c→(X i)[j]?=some x→bQ K c x []):bQ K (.ro k rows) y []
 | em {T k:Nat} {rows:List (List DV)} {y:Value} {H0:aA} (X:Nat→List Value) (F:Nat→Nat→aA) (hl:∀ (i:Nat) r,rows[i]?=some r→r.length=k∧(X i).length=k)
   (hs:eD T k y rows.length (lay rows.length X) H0)
   (hr:∀ (i:Nat) (r:List DV) (j:Nat) c x,rows[i]?=some r→r[j]?=some c→(X i)[j]?=some x→bQ K c x (F i j)):bQ K (.em T k rows) y (H0++bW rows.length k F)
 | ag {l:List DV} (ys:List Value) (F:Nat→aA) (hl:ys.length=l.length) (hr:∀ (j:Nat) c y,l[j]?=some c→ys[j]?=some y→bQ K c y (F j)):bQ K (.ag l) (.agg ys.toArray) ((List.range l.length).flatMap F)
 | tu {l:List DV} (ys:List Value) (F:Nat→aA) (hl:ys.length=l.length) (hr:∀ (j:Nat) c y,l[j]?=some c→ys[j]?=some y→bQ K c y (F j)):bQ K (.tu l) (.tuple ys.toArray) ((List.range l.length).flatMap F)
 | pb {T b:Nat} {l:List DV} (ys:List Value) (F:Nat→aA) (hl:ys.length=l.length) (hr:∀ (j:Nat) c y,l[j]?=some c→ys[j]?=some y→bQ K c y (F j)):bQ K (.pb T l) (.pointer (some ⟨b,0,none⟩)) ((b,.cells ys.toArray T (0,0))::(List.range l.length).flatMap F)
abbrev Beta:=List (Option Addr×Nat)
inductive aE (K:World→Prop) (β:Beta):AV→Value→Prop where
 | d {x:DV} {y:Value} (h:bQ K x y []):aE K β (.d x) y
 | sl {u n c:Nat} {a:Option Addr} (h:β[u]?=some (a,c)):aE K β (.sl u n) (.slice a n c)
 | sb {u k o n b c c':Nat} (h:β[u]?=some (some ⟨b,0,none⟩,c)):aE K β (.sb u k o n) (.slice (some ⟨b,o*k,none⟩) n c')
 | sf {u k o n b c cap:Nat} {q:Option Nat} (h:β[u]?=some (some ⟨b,0,none⟩,c)) (hc:o+cap≤c) (hn:n≤cap) (hq:match q with | none=>o+cap=c | some q=>cap=q):aE K β (.sf u k o n q) (.slice (some ⟨b,o*k,none⟩) n cap)
 | mv {u b c:Nat} (h:β[u]?=some (some ⟨b,0,none⟩,c)):aE K β (.mv u) (.map (some b))
 | yl {u b c:Nat} (h:β[u]?=some (some ⟨b,0,none⟩,c)):aE K β (.yl u) (.func (.yield b) #[] #[])
 | pt {u o b c:Nat} (h:β[u]?=some (some ⟨b,0,none⟩,c)):aE K β (.pt u o) (.pointer (some ⟨b,o,none⟩))
 | ep {u k i o b c:Nat} (h:β[u]?=some (some ⟨b,0,none⟩,c)):aE K β (.ep u k i o) (.pointer (some ⟨b,i*k+o,none⟩))
 | rp {row:List DV} {o:Nat} (a:Addr) (X:List Value) (hl:X.length=row.length) (hc:∀ w,K w→∀ (j:Nat) x,X[j]?=some x→w.cell? (a.add j)=some x)
   (hr:∀ (j:Nat) c x,row[j]?=some c→X[j]?=some x→bQ K c x []):aE K β (.rp row o) (.pointer (some (a.add o)))
 | bt {bs:List UInt8} {y:Value} (h:bQ K (.ro 1 (bs.map fun b=>[DV.v (.int .u8 b.toNat)])) y []) (hn:bs.length≤1048576):aE K β (.bt bs) y
 | uk {y:Value} (h:cd y=true):aE K β .uk y
 | fn {f:Nat} {bZ:List AV} (ys:List Value) (hl:ys.length=bZ.length) (hr:∀ (j:Nat) c y,bZ[j]?=some c→ys[j]?=some y→aE K β c y):aE K β (.fn f bZ) (.func (.func f) #[] ys.toArray)
 | fm {f:Nat} {first:List AV} (ys:List Value) (hl:ys.length=first.length) (hr:∀ (j:Nat) c y,first[j]?=some c→ys[j]?=some y→aE K β c y):aE K β (.fm f first) (.func (.func f) ys.toArray #[])
 | ag {l:List AV} (ys:List Value) (hl:ys.length=l.length) (hr:∀ (j:Nat) c y,l[j]?=some c→ys[j]?=some y→aE K β c y):aE K β (.ag l) (.agg ys.toArray)
 | tu {l:List AV} (ys:List Value) (hl:ys.length=l.length) (hr:∀ (j:Nat) c y,l[j]?=some c→ys[j]?=some y→aE K β c y):aE K β (.tu l) (.tuple ys.toArray)
theorem bQ.mono {K K':World→Prop} (h:∀ w,K' w→K w):∀ {x:DV} {y:Value} {H:aA},bQ K x y H→bQ K' x y H:=by
 intro x y H r
 induction r with
 | v x=>exact .v x
 | jk x=>exact .jk x
 | ro X hl hy hs hr ih=>exact .ro X hl hy (fun w hw=>hs w (h w hw)) (fun i r j c x h1 h2 h3=>ih i r j c x h1 h2 h3)
 | em X F hl hs hr ih=>exact .em X F hl hs (fun i r j c x h1 h2 h3=>ih i r j c x h1 h2 h3)
 | ag ys F hl hr ih=>exact .ag ys F hl ih
 | tu ys F hl hr ih=>exact .tu ys F hl ih
 | pb ys F hl hr ih=>exact .pb ys F hl ih
theorem bQ.slice {K:World→Prop} {x:DV} {y:Value} {H:aA} (r:bQ K x y H) (h:(∃ k rows,x=.ro k rows)∨∃ T k rows,x=.em T k rows):∃ a n c,y=.slice a n c:=by
 cases r with
 | v=>simp at h
 | jk=>simp at h
 | ro X hl hy hs hr=>obtain ⟨a,c,rfl,-⟩:=hy;exact ⟨_,_,_,rfl⟩
 | em X F hl hs hr=>obtain ⟨a,c,rfl⟩:=hs.len;exact ⟨_,_,_,rfl⟩
 | ag=>simp at h
 | tu=>simp at h
 | pb=>simp at h
def Ext (β aF:Beta):Prop:=∀ (u:Nat) x,β[u]?=some x→aF[u]?=some x
theorem Ext.refl (β:Beta):Ext β β:=fun _ _ h=>h
theorem Ext.app (β γ:Beta):Ext β (β++γ):=fun u x h=>by
 obtain ⟨hu,-⟩:=List.getElem?_eq_some_iff.1 h
 rw [List.getElem?_append_left hu];exact h
theorem aE.mono {K K':World→Prop} {β aF:Beta} (h:∀ w,K' w→K w) (e:Ext β aF):∀ {x:AV} {y:Value},aE K β x y→aE K' aF x y:=by
 intro x y r
 induction r with
 | d hd=>exact .d (hd.mono h)
 | sl hb=>exact .sl (e _ _ hb)
 | sb hb=>exact .sb (e _ _ hb)
 | sf hb hc hn hq=>exact .sf (e _ _ hb) hc hn hq
 | mv hb=>exact .mv (e _ _ hb)
 | yl hb=>exact .yl (e _ _ hb)
 | pt hb=>exact .pt (e _ _ hb)
 | ep hb=>exact .ep (e _ _ hb)
 | rp a X hl hc hr=>exact .rp a X hl (fun w hw=>hc w (h w hw)) (fun j c x h1 h2=>(hr j c x h1 h2).mono h)
 | bt hd hn=>exact .bt (hd.mono h) hn
 | uk hu=>exact .uk hu
 | fn ys hl hr ih=>exact .fn ys hl ih
 | fm ys hl hr ih=>exact .fm ys hl ih
 | ag ys hl hr ih=>exact .ag ys hl ih
 | tu ys hl hr ih=>exact .tu ys hl ih
def cq (es:List (Nat×MK×DV)) (vs:List Value):List MapEntry:=(es.zip vs).map fun x=>{ key:=x.1.2.1.val,val:=x.2,born:=x.1.1 }
def wA (es:List (Nat×MK×AV)) (vs:List Value):List MapEntry:=(es.zip vs).map fun x=>{ key:=x.1.2.1.val,val:=x.2,born:=x.1.1 }
theorem yf (g:Nat×MK×AV→Nat×MK×AV) (h:∀ e,(g e).1=e.1∧(g e).2.1=e.2.1):∀ (es:List (Nat×MK×AV)) (vs:List Value),wA (es.map g) vs=wA es vs
 | [],_=>rfl
 | e::r,[]=>rfl
 | e::r,v::vs=>by have:=yf g h r vs;simp only [wA,List.map_cons,List.zip_cons_cons] at this ⊢;rw [this,(h e).1,(h e).2]
inductive bK (K:World→Prop) (β:Beta):Nat→au→aA→Prop where
 | dead (u:Nat):bK K β u .dead []
 | nm {u v b c:Nat} (hb:β[v]?=some (some ⟨b,0,none⟩,c)):bK K β u (.nm v b) []
 | gw {u g:Nat} {row:List DV} (X:List Value) (hl:X.length=row.length) (hc:∀ w,K w→∀ (j:Nat) x,X[j]?=some x→w.cell? ((⟨g,0,none⟩:Addr).add j)=some x)
   (hr:∀ (j:Nat) c x,row[j]?=some c→X[j]?=some x→bQ K c x []):bK K β u (.gw g row) []
 | bx {u b c T:Nat} {cells:List AV} (hb:β[u]?=some (some ⟨b,0,none⟩,c)) (ys:List Value) (hl:ys.length=cells.length) (hr:∀ (j:Nat) c y,cells[j]?=some c→ys[j]?=some y→aE K β c y):
   bK K β u (.bx T cells) [(b,.cells ys.toArray T (0,0))]
 | rw {u c T k:Nat} {a:Option Addr} {rows:List (List DV)} {H0:aA} (hb:β[u]?=some (a,c)) (X:Nat→List Value) (F:Nat→Nat→aA) (hl:∀ (i:Nat) r,rows[i]?=some r→r.length=k∧(X i).length=k)
   (hs:eD T k (.slice a rows.length c) rows.length (lay rows.length X) H0)
   (hr:∀ (i:Nat) (r:List DV) (j:Nat) c x,rows[i]?=some r→r[j]?=some c→(X i)[j]?=some x→bQ K c x (F i j)):
   bK K β u (.rw T k rows) (H0++bW rows.length k F)
 | tw {u c T k:Nat} {a:Option Addr} {rows:List (List DV)} {H0:aA} (hb:β[u]?=some (a,c)) (X:Nat→List Value) (F:Nat→Nat→aA) (hl:∀ (i:Nat) r,rows[i]?=some r→r.length=k∧(X i).length=k)
   (hs:eD T k (.slice a rows.length c) rows.length (lay rows.length X) H0)
   (hr:∀ (i:Nat) (r:List DV) (j:Nat) c x,rows[i]?=some r→r[j]?=some c→(X i)[j]?=some x→bQ K c x (F i j)):
   bK K β u (.tw a c T k rows) (H0++bW rows.length k F)
 | mp {u b c T ck:Nat} {es:List (Nat×MK×DV)} (hb:β[u]?=some (some ⟨b,0,none⟩,c)) (vs:List Value) (G:Nat→aA) (hl:vs.length=es.length) (hr:∀ (j:Nat) e y,es[j]?=some e→vs[j]?=some y→bQ K e.2.2 y (G j)):
   bK K β u (.mp T ck es) ((b,.map (cq es vs).toArray ck)::(List.range es.length).flatMap G)
 | it {u b bm c since ck:Nat} {um:Option Nat} {seen:List Nat} (hb:β[u]?=some (some ⟨b,0,none⟩,c)) (hm:∀ v,um=some v→∃ c',β[v]?=some (some ⟨bm,0,none⟩,c')):
   bK K β u (.it um since seen ck) [(b,.mapIter (some bm) since seen.toArray ck)]
 | mu {u b c T ck:Nat} {es:List (MK×DV)} (es':List (Nat×MK×DV)) (hp:(es'.map fun e=>e.2).Perm es) (hn:(es'.map fun e=>e.1).Nodup) (aK:∀ e ∈ es',e.1<ck) (hb:β[u]?=some (some ⟨b,0,none⟩,c)) (vs:List Value) (G:Nat→aA) (hl:vs.length=es'.length) (hr:∀ (j:Nat) e y,es'[j]?=some e→vs[j]?=some y→bQ K e.2.2 y (G j)):
   bK K β u (.mu T ck es) ((b,.map (cq es' vs).toArray ck)::(List.range es'.length).flatMap G)
 | fl {u b c T k m:Nat} {cells:List AV} (hb:β[u]?=some (some ⟨b,0,none⟩,c)) (ys:List Value) (hl:ys.length=c*k) (hm:cells.length=m*k) (hc:m≤c) (hr:∀ (j:Nat) c y,cells[j]?=some c→ys[j]?=some y→aE K β c y):
   bK K β u (.fl T k m cells) [(b,.cells ys.toArray T (0,0))]
 | mf {u b c T ck:Nat} {es:List (Nat×MK×AV)} (hb:β[u]?=some (some ⟨b,0,none⟩,c)) (vs:List Value) (hl:vs.length=es.length) (hr:∀ (j:Nat) e y,es[j]?=some e→vs[j]?=some y→aE K β e.2.2 y):
   bK K β u (.mf T ck es) [(b,.map (wA es vs).toArray ck)]
 | il {u b bm c since last ck:Nat} {um:Option Nat} {seen:List Nat} (hb:β[u]?=some (some ⟨b,0,none⟩,c)) (hm:∀ v,um=some v→∃ c',β[v]?=some (some ⟨bm,0,none⟩,c')):
   bK K β u (.il um since last ck) [(b,.mapIter (some bm) since (seen++[last]).toArray ck)]
 | lp {u b c f sz k4:Nat} {bz:LS} {E:List (Nat×AV)} {rf:RF} {tmps:Array Value} (hb:β[u]?=some (some ⟨b,0,none⟩,c)) (bI:tmps.size=sz) (hr:∀ x ∈ E,aE K β x.2 (tmps.getD x.1 undef)):
   bK K β u (.lp bz f sz E rf) [(b,.loop { state:=bz.state,pending:=bz.ji,fn:=f,tmps,params:=rf.ps,assign:=rf.cx,body:=rf.body,defers:=k4 })]
structure AS where
 E:List (Nat×AV)
 M:List au
structure RM (D:List Nat) (w0:World) (K0:World→Prop) (M:List au) (β:Beta) (F:Nat→aA) (I:aA) (w:World):Prop where
 len:β.length=M.length
 blk:∀ (u:Nat) blk,M[u]?=some blk→bK (fun w=>K0 w∧az w I) β u blk (F u)
 st:St D w0 w ((List.range M.length).flatMap F++I)
def RE (D:List Nat) (w0:World) (K0:World→Prop) (sz:Nat) (s:AS) (a:Act) (w:World):Prop:=
 a.tmps.size=sz∧a.defers=[]∧∃ β F I,RM D w0 K0 s.M β F I w∧∀ x ∈ s.E,aE (fun w=>K0 w∧az w I) β x.2 (a.eval (.tmp x.1))
end Go.Proofs.YtlinpknagdgphaaGreat
namespace Go.Proofs.YtlinpknagdgphaaGreat
open Go.RowKit Go.Maps
section
variable {κ:Type} [DecidableEq κ]
end
section
variable {κ:Type} [DecidableEq κ] {P:Program} {K e t:TypeId} {enc:κ→Value} {o:Obj} {mL:List (κ×Value)} {w:World} {r:Nat}
theorem rT {es:Array MapEntry} {clock:Nat} (hb:w.heap[r]?=some (.map es clock)):(getObj r).run P w=.ok (.map es clock) w:=by simp [getObj,Sem.run,hb]
theorem xC {es:Array MapEntry} {clock:Nat} {o':Obj} (hb:w.heap[r]?=some (.map es clock)):(setObj r o').run P w=.ok () (ct w r o'):=by simp [setObj,Sem.run,hb,ct]
end
section
variable {P:Program} {ρ:Operand→Value} {w w':World} {Φ:Value→World→Prop} {d:Option Tmp} {ty t u:TypeId} {pos:String} {aft:Array Edge} {gd:Option (Nat×Bool)} {x y z:Operand} {m k v r:Value}
theorem Db (hx:ρ x=m) (hy:ρ y=k) (hz:ρ z=v) (hr:(Instr.mapUpdate t m k v).run P w=.ok () w') (aR:Φ undef w'):bq P ⟨d,.mapUpdate t x y z,ty,pos,aft,gd⟩ ρ w Φ:=
 .skip (by simp only [execOp,hx,hy,hz,Sem.run_bind,hr,Result.andThen_ok,Sem.run_pure]) aR
theorem LW (hx:ρ x=m) (hy:ρ y=k) (hr:(Builtin.delete_ #[t,u] ty #[m,k]).run P w=.ok r w') (aR:Φ r w'):bq P ⟨d,.call ⟨.builtin .delete,#[x,y],#[t,u]⟩,ty,pos,aft,gd⟩ ρ w Φ:=
 .pure (by simp only [execOp,resolve,List.map_toArray,List.map,hx,hy,Sem.run_bind,Sem.run_pure,Result.andThen_ok,invoke,builtin,hr]) aR
end
end Go.Proofs.YtlinpknagdgphaaGreat
namespace Go.Proofs.YtlinpknagdgphaaGreat
open Go.RowKit Go.Maps
section
variable {P:Program} {ρ:Operand→Value} {w:World} {Φ:Value→World→Prop} {d:Option Tmp} {ty t e:TypeId} {pos:String} {aft:Array Edge} {gd:Option (Nat×Bool)} {x:Operand} {a:Addr} {b o n c size:Nat}
theorem JJ (aR:∀ b w',Gr w w'→dG w w' [(b,.map #[] 0)]→Φ (.map (some b)) w'):bq P ⟨d,.makeMap t none,ty,pos,aft,gd⟩ ρ w Φ:=
 .pure (v:=.map (some w.heap.size)) (w':=w.alloc (.map #[] 0)) (by simp [execOp,Instr.makeMap,Sem.run_bind,newObj,Sem.run]) (aR _ _ (Gr.alloc _ _) (dG.alloc _ _))
end
theorem Addr.na (a:Addr) (m n:Nat):(a.add m).add n=a.add (m+n):=by
 unfold Addr.add
 split
 ·rename_i h;subst h;simp
 ·split
  ·rename_i h;subst h;simp;omega
  ·split
   ·omega
   ·cases a;simp;omega
theorem Src.row {w:World} {size m:Nat} {v:Value} {X:List Value} (h:Src w size v m X) {i:Nat} (hi:i<m):∃ a c,v=.slice (some a) m c∧∀ j (hj:j<size) (hk:i*size+j<X.length),w.cell? ((a.add (i*size)).add j)=some X[i*size+j]:=by
 rcases h.2 with ⟨h0,_⟩ | ⟨a,c,hv,hc⟩
 ·omega
 ·refine ⟨a,c,hv,fun j hj hk=>?_⟩
  rw [Addr.na];exact hc _ hk
end Go.Proofs.YtlinpknagdgphaaGreat
namespace Go.Proofs.YtlinpknagdgphaaGreat
open Go.RowKit
section
variable {P:Program} {ρ:Operand→Value} {w:World} {Φ:Value→World→Prop} {d:Option Tmp} {ty t t' e:TypeId} {pos:String} {aft:Array Edge} {gd:Option (Nat×Bool)} {x y:Operand}
theorem Jn {b n k:Nat} {c:Array Value} {fz:Nat×Nat} (ht:P.underlying t=some (.slice e)) (he:P.underlying e=some (.int .u8)) (hx:ρ x=.slice (some ⟨b,0,none⟩) n k) (hb:w.heap[b]?=some (.cells c e fz))
  (aR:∀ jV,Φ (.slice (some ⟨b,0,none⟩) n k) (ct w b (.cells c e jV))):bq P ⟨d,.convert t t x,ty,pos,aft,gd⟩ ρ w Φ:=by
 obtain ⟨lo,hi⟩:=fz
 refine .pure (v:=.slice (some ⟨b,0,none⟩) n k) (w':=ct w b (.cells c e (if lo==hi then (c.size,c.size+1) else (min lo c.size,max hi (c.size+1))))) ?_ (aR _)
 have pq:w.shape? b=some (e,c.size):=by simp [World.shape?,hb]
 have iE:w.freeze ⟨b,c.size,none⟩ 1=ct w b (.cells c e (if lo==hi then (c.size,c.size+1) else (min lo c.size,max hi (c.size+1)))):=by
  unfold World.freeze ct
  rw [if_neg (by decide)]
  congr 1
  apply Array.ext_getElem?
  intro j
  have aK:=lD hb
  rw [Array.getElem?_modify,Array.getElem?_setIfInBounds]
  by_cases e':b=j
  ·subst e'
   have hg:w.heap[b]=.cells c e (lo,hi):=by rw [Array.getElem?_eq_getElem aK] at hb;exact Option.some.inj hb
   simp [aK,hg]
  ·simp [e']
 simp [execOp,hx,convert,Sem.run_bind,run_underlying ht,run_underlying he,markStringish,pq,iE]
theorem Dl {v:Value} {l:List UInt8} (ht:P.underlying t=some (.slice e)) (he:P.underlying e=some (.int .u8)) (hd:P.underlying t'=some .string) (hx:ρ x=v) (hs:Src w 1 v l.length (l.map fun b:UInt8=>.int .u8 b.toNat)) (aR:Φ (.string ⟨l.toArray⟩) w):bq P ⟨d,.convert t t' x,ty,pos,aft,gd⟩ ρ w Φ:=by
 refine .pure (v:=.string ⟨l.toArray⟩) (w':=w) ?_ aR
 have key:(convert t t' v).run P w=.ok (.string ⟨l.toArray⟩) w:=by
  rcases hs.2 with ⟨h0,a,c,rfl⟩ | ⟨a,c,rfl,h⟩
  ·have hl:l=[]:=List.eq_nil_of_length_eq_zero h0
   subst hl
   cases a with
   | none=>rw [run_convert_bytes_string w t t' e none 0 c ht he hd];simp [Conv.bytesToString];rfl
   | some a=>exact run_convert_bytes_back w t t' e a c [] ht he hd (by simp)
  ·exact run_convert_bytes_back w t t' e a c l ht he hd (fun j hj=>by rw [h j (by simpa using hj)];simp)
 simp only [execOp,hx,Sem.run_bind,key,Result.andThen_ok,Sem.run_pure]
theorem LX {a b:List UInt8} {c:Bool} (h:ρ x=.string ⟨a.toArray⟩) (h':ρ y=.string ⟨b.toArray⟩) (hc:(a==b)=c) (aR:Φ (.bool c) w):bq P ⟨d,.binOp .eql t x y t',ty,pos,aft,gd⟩ ρ w Φ:=by
 subst hc;exact .pure (v:=.bool (a==b)) (by simp [execOp,h,h',eqGuard,binOp,Op.stringOp]) aR
theorem LY {a b:List UInt8} {c:Bool} (h:ρ x=.string ⟨a.toArray⟩) (h':ρ y=.string ⟨b.toArray⟩) (hc:(a != b)=c) (aR:Φ (.bool c) w):bq P ⟨d,.binOp .neq t x y t',ty,pos,aft,gd⟩ ρ w Φ:=by
 subst hc;exact .pure (v:=.bool (a != b)) (by simp [execOp,h,h',eqGuard,binOp,Op.stringOp,bne]) aR
end
end Go.Proofs.YtlinpknagdgphaaGreat
namespace Go.Proofs.YtlinpknagdgphaaGreat
open Go.RowKit
section
variable {P:Program} {ρ:Operand→Value} {w:World} {Φ:Value→World→Prop} {d:Option Tmp} {ty t t':TypeId} {pos:String} {aft:Array Edge} {gd:Option (Nat×Bool)} {x y:Operand} {k yk:IntKind} {a b c:Int}
theorem Qk (h:ρ x=.int k a) (h':ρ y=.int k b) (hb:b≠0) (hc:k.wrap (a.tdiv b)=c) (aR:Φ (.int k c) w):bq P ⟨d,.binOp .quo t x y t',ty,pos,aft,gd⟩ ρ w Φ:=by
 subst hc;exact .pure (v:=.int k (k.wrap (a.tdiv b))) (by simp [execOp,h,h',eqGuard,binOp,Op.intDiv,hb]) aR
theorem Ql (h:ρ x=.int k a) (h':ρ y=.int k b) (hb:b≠0) (hc:a.tmod b=c) (aR:Φ (.int k c) w):bq P ⟨d,.binOp .rem t x y t',ty,pos,aft,gd⟩ ρ w Φ:=by
 subst hc;exact .pure (v:=.int k (a.tmod b)) (by simp [execOp,h,h',eqGuard,binOp,Op.intDiv,hb]) aR
theorem Qm (h:ρ x=.int k a) (h':ρ y=.int yk b) (hb:0≤b) (hc:k.wrap (a*2 ^ (min b.toNat k.bits))=c) (aR:Φ (.int k c) w):bq P ⟨d,.binOp .shl t x y t',ty,pos,aft,gd⟩ ρ w Φ:=by
 subst hc;exact .pure (v:=.int k (k.wrap (a*2 ^ (min b.toNat k.bits)))) (by simp [execOp,h,h',eqGuard,binOp,Op.shift,show ¬ b<0 by omega]) aR
theorem Qn (h:ρ x=.int k a) (h':ρ y=.int k b) (hc:k.wrap ((BitVec.ofInt k.bits a ^^^ BitVec.ofInt k.bits b).toNat:Int)=c) (aR:Φ (.int k c) w):bq P ⟨d,.binOp .xor t x y t',ty,pos,aft,gd⟩ ρ w Φ:=by
 subst hc;exact .pure (v:=.int k (k.wrap ((BitVec.ofInt k.bits a ^^^ BitVec.ofInt k.bits b).toNat:Int))) (by simp [execOp,h,h',eqGuard,binOp,Op.intBits]) aR
end
end Go.Proofs.YtlinpknagdgphaaGreat
namespace Go.Proofs.YtlinpknagdgphaaGreat
open Go.RowKit
section
variable {P:Program} {ρ:Operand→Value} {w:World} {Φ:Value→World→Prop} {d:Option Tmp} {ty t t':TypeId} {pos:String} {aft:Array Edge} {gd:Option (Nat×Bool)} {x y:Operand} {k k' yk:IntKind} {a b c:Int}
theorem Qo (h:ρ x=.int k a) (hc:k.wrap ((BitVec.ofInt k.bits (if k.signed then -1 else k.max) ^^^ BitVec.ofInt k.bits a).toNat:Int)=c) (aR:Φ (.int k c) w):bq P ⟨d,.unOp .xor t x,ty,pos,aft,gd⟩ ρ w Φ:=by
 subst hc;exact .pure (v:=.int k (k.wrap ((BitVec.ofInt k.bits (if k.signed then -1 else k.max) ^^^ BitVec.ofInt k.bits a).toNat:Int))) (by simp [execOp,h,Op.unary,Op.intBits]) aR
theorem Rv (h:ρ x=.int k a) (h':ρ y=.int k b) (hc:k.wrap ((BitVec.ofInt k.bits a ||| BitVec.ofInt k.bits b).toNat:Int)=c) (aR:Φ (.int k c) w):bq P ⟨d,.binOp .or t x y t',ty,pos,aft,gd⟩ ρ w Φ:=by
 subst hc;exact .pure (v:=.int k (k.wrap ((BitVec.ofInt k.bits a ||| BitVec.ofInt k.bits b).toNat:Int))) (by simp [execOp,h,h',eqGuard,binOp,Op.intBits]) aR
theorem Qp (h:ρ x=.int k a) (h':ρ y=.int k b) (hc:k.wrap ((BitVec.ofInt k.bits a &&& BitVec.ofInt k.bits b).toNat:Int)=c) (aR:Φ (.int k c) w):bq P ⟨d,.binOp .and t x y t',ty,pos,aft,gd⟩ ρ w Φ:=by
 subst hc;exact .pure (v:=.int k (k.wrap ((BitVec.ofInt k.bits a &&& BitVec.ofInt k.bits b).toNat:Int))) (by simp [execOp,h,h',eqGuard,binOp,Op.intBits]) aR
theorem Qq (h:ρ x=.int k a) (h':ρ y=.int yk b) (hb:0≤b) (hc:a.fdiv (2 ^ (min b.toNat k.bits))=c) (aR:Φ (.int k c) w):bq P ⟨d,.binOp .shr t x y t',ty,pos,aft,gd⟩ ρ w Φ:=by
 subst hc;exact .pure (v:=.int k (a.fdiv (2 ^ (min b.toNat k.bits)))) (by simp [execOp,h,h',eqGuard,binOp,Op.shift,show ¬ b<0 by omega]) aR
theorem Qr (h:ρ x=.int k a) (h':ρ y=.int k b) (hc:k.wrap (a*b)=c) (aR:Φ (.int k c) w):bq P ⟨d,.binOp .mul t x y t',ty,pos,aft,gd⟩ ρ w Φ:=by
 subst hc;exact .pure (v:=.int k (k.wrap (a*b))) (by simp [execOp,h,h',eqGuard,binOp,Op.intArith]) aR
theorem Ks (hs:(P.underlying t).isSome=true) (hd:P.underlying t'=some (.int k)) (h:ρ x=.int k' a) (hc:k.wrap a=c) (aR:Φ (.int k c) w):bq P ⟨d,.convert t t' x,ty,pos,aft,gd⟩ ρ w Φ:=by
 obtain ⟨u,hu⟩:=Option.isSome_iff_exists.1 hs
 subst hc;exact .pure (v:=.int k (k.wrap a)) (w':=w) (by simp [execOp,h,convert,Sem.run_bind,run_underlying hu,run_underlying hd,Conv.intToInt]) aR
theorem LZ {l:List UInt8} (ht:P.underlying t=some .string) (h:ρ x=.string ⟨l.toArray⟩) (aR:Φ (.int .i64 l.length) w):bq P ⟨d,.call ⟨.builtin .len,#[x],#[t]⟩,ty,pos,aft,gd⟩ ρ w Φ:=by
 obtain ⟨s,hs,bI⟩:∃ s:ByteArray,s=⟨l.toArray⟩∧s.size=l.length:=⟨_,rfl,by simp [ByteArray.size]⟩
 rw [← hs] at h
 exact .pure (v:=.int .i64 l.length) (w':=w) (by simp [execOp,resolve,h,invoke,builtin,Builtin.len_,Sem.run_bind,run_underlying ht,goInt,bI]) aR
end
end Go.Proofs.YtlinpknagdgphaaGreat
namespace Go.Proofs.YtlinpknagdgphaaGreat
open Go.RowKit
theorem eD.block {T size n:Nat} {v:Value} {xs:List Value} {H:aA} (h:eD T size v n xs H) (hn:0<n):∃ b cap cs fz,v=.slice (some ⟨b,0,none⟩) n cap∧H=[(b,.cells cs T fz)]∧Fz fz cs.size∧cs.size=cap*size∧n≤cap∧cs.toList.take (n*size)=xs:=by
 rcases h.2 with ⟨h0,_⟩ | h
 ·omega
 ·exact h
inductive bj where
 | b (c:Bool)
 | z (n:Int)
 | ix (i:Nat) (row:List DV)
 | n (i:Nat)
 | n2 (i j:Nat)
 | res (x:DV)
 | call (args:List AV) (x:DV)
 | dt (n:Nat) (tb:List (Nat×List (Nat×bj)))
 | aJ (x:DV)
 | stay (args:List AV) (x:DV)
 | mem (l:List Nat) (x:AV) (M':List au)
 | mk (j:Nat) (k:MK) (x:DV)
 | wY (j:Nat) (k:MK) (x:DV) (i:Nat)
 | may (c:Bool) (o:bj)
def bO:List (Nat×AV)→Nat→Option AV
 | [],_=>none
 | (k,v)::r,s=>bif k.beq s then some v else bO r s
theorem lx:∀ {E:List (Nat×AV)} {s:Nat} {v:AV},bO E s=some v→(s,v) ∈ E
 | [],_,_,h=>by simp [bO] at h
 | (k,u)::r,s,v,h=>by
  unfold bO at h
  cases hk:k.beq s with
  | true=>simp only [hk,cond_true,Option.some.injEq] at h;subst h;rw [Nat.eq_of_beq_eq_true hk];exact List.mem_cons_self
  | false=>simp only [hk,cond_false] at h;exact List.mem_cons_of_mem _ (lx h)
def aO (E:List (Nat×AV)):Operand→Option AV
 | .tmp t=>bO E t
 | .const v=>some (.d (.v v))
 | .func f=>some (.fn f [])
 | .global _=>none
def bw:List Prop→Prop
 | []=>True
 | p::r=>p∧bw r
structure Out where
 vc:List Prop
 av:AV
 M:List au
 tc:List Nat
 mv:List Nat
 rd:Option (List Nat)
structure Ctx (D:List Nat) (w0:World) (K0:World→Prop) (E:List (Nat×AV)) (M:List au) (β:Beta) (F:Nat→aA) (I:aA) (ρ:Operand→Value) (w:World):Prop where
 rm:RM D w0 K0 M β F I w
 sl:∀ t v,bO E t=some v→aE (fun w=>K0 w∧az w I) β v (ρ (.tmp t))
 const:∀ v,ρ (.const v)=v
 func:∀ f,ρ (.func f)=.func (.func f) #[] #[]
 wB:∀ g,ρ (.global g)=.pointer (some ⟨g,0,none⟩)
 k:∀ w,Kp D w0 w→K0 w
variable {P:Program} {T:aW} {D:List Nat} {w0:World} {K0:World→Prop} {E:List (Nat×AV)} {M:List au} {β:Beta} {F:Nat→aA} {I:aA} {ρ:Operand→Value} {w:World}
theorem Ctx.now (C:Ctx D w0 K0 E M β F I ρ w):K0 w∧az w I:=⟨C.k w C.rm.st.kp,(az.app.1 C.rm.st.holds).2⟩
theorem Ctx.ev (C:Ctx D w0 K0 E M β F I ρ w) {x:Operand} {v:AV} (h:aO E x=some v):aE (fun w=>K0 w∧az w I) β v (ρ x):=by
 cases x with
 | tmp t=>exact C.sl _ _ h
 | const c=>simp only [aO,Option.some.injEq] at h;subst h;rw [C.const];exact .d (.v c)
 | global g=>simp [aO] at h
 | func f=>simp only [aO,Option.some.injEq] at h;subst h;rw [C.func];exact .fn [] rfl (by simp)
theorem Ctx.bS (C:Ctx D w0 K0 E M β F I ρ w) {x:Operand} {v:AV} (h:aO E x=some v):∃ y,ρ x=y∧aE (fun w=>K0 w∧az w I) β v y:=⟨_,rfl,C.ev h⟩
def gZ (K0:World→Prop) (I:aA) (F:Nat→aA) (rd:List Nat) (w:World):Prop:=(K0 w∧az w I)∧∀ u ∈ rd,az w (F u)
def wZ (P:Program) (o:Oper) (E:List (Nat×AV)) (M:List au) (vc:List Prop) (av:AV) (rd:List Nat):Prop:=
 ∀ {D:List Nat} {w0:World} {K0:World→Prop} {β:Beta} {F:Nat→aA} {I:aA} {ρ:Operand→Value} {w:World},Ctx D w0 K0 E M β F I ρ w→bw vc→
  ∃ v,aE (fun w=>K0 w∧az w I) β av v∧∀ w',gZ K0 I F rd w'→(execOp ρ o).run P w'=.ok (.value v) w'
def bL (I I':aA):Prop:=∃ J,I'=J++I
theorem bL.refl (I:aA):bL I I:=⟨[],rfl⟩
theorem bL.holds {I I':aA} (h:bL I I'):∀ w,az w I'→az w I:=by obtain ⟨J,rfl⟩:=h;exact fun w hw=>(az.app.1 hw).2
theorem bL.trans {A B C:aA} (h:bL A B) (k:bL B C):bL A C:=by obtain ⟨J,rfl⟩:=h;obtain ⟨L,rfl⟩:=k;exact ⟨L++J,by rw [List.append_assoc]⟩
def fq (mv:List Nat) (β aF:Beta):Prop:=∀ (u:Nat) x,u ∉ mv→β[u]?=some x→aF[u]?=some x
def w5 (P:Program) (o:Oper) (E:List (Nat×AV)) (M:List au) (out:Out):Prop:=
 ∀ {D:List Nat} {w0:World} {K0:World→Prop} {β:Beta} {F:Nat→aA} {I:aA} {ρ:Operand→Value} {w:World},Ctx D w0 K0 E M β F I ρ w→bw out.vc→
  bq P o ρ w fun v w'=>∃ aF F' I',RM D w0 K0 out.M aF F' I' w'∧fq out.mv β aF∧bL I I'∧(∀ u,u<M.length→u ∉ out.tc→F' u=F u)∧aE (fun w=>K0 w∧az w I') aF out.av v
def aP (P:Program) (o:Oper) (E:List (Nat×AV)) (M:List au) (out:Out):Prop:=
 match out.rd with
 | some rd=>wZ P o E M out.vc out.av rd∧out.M=M∧out.mv=[]∧∀ u ∈ rd,u<M.length
 | none=>w5 P o E M out
theorem Ext.b {β aF:Beta} (h:Ext β aF) (mv:List Nat):fq mv β aF:=fun u x _ hx=>h u x hx
theorem RM.jE (R:RM D w0 K0 M β F I w) {u:Nat} {blk:au} (h:M[u]?=some blk):az w (F u):=by
 intro x hx
 obtain ⟨hu,-⟩:=List.getElem?_eq_some_iff.1 h
 exact R.st.holds x (List.mem_append_left _ (List.mem_flatMap.2 ⟨u,List.mem_range.2 hu,hx⟩))
theorem RM.at (R:RM D w0 K0 M β F I w) {u:Nat} {blk:au} (h:M[u]?=some blk):∃ H,F u=H∧bK (fun w=>K0 w∧az w I) β u blk H∧az w H:=⟨_,rfl,R.blk u _ h,R.jE h⟩
theorem Ctx.wC (C:Ctx D w0 K0 E M β F I ρ w) {rd:List Nat} (h:∀ u ∈ rd,u<M.length):gZ K0 I F rd w:=⟨C.now,fun u hu=>C.rm.jE (List.getElem?_eq_getElem (h u hu))⟩
theorem wZ.rq {o:Oper} {vc:List Prop} {av:AV} {rd:List Nat} (h:wZ P o E M vc av rd) (hr:∀ u ∈ rd,u<M.length):w5 P o E M ⟨vc,av,M,[],[],some rd⟩:=by
 intro D w0 K0 β F I ρ w C hv
 obtain ⟨v,h1,h2⟩:=h C hv
 exact bq.pure (h2 w (C.wC hr)) ⟨β,F,I,C.rm,(Ext.refl β).b _,bL.refl _,fun _ _ _=>rfl,h1⟩
theorem aP.rq {o:Oper} {out:Out} (h:aP P o E M out):w5 P o E M out:=by
 obtain ⟨vc,av,M',tc,mv,rd⟩:=out
 unfold aP at h
 cases rd with
 | none=>exact h
 | some rd=>
  obtain ⟨h1,rfl,rfl,h2⟩:=h
  intro D w0 K0 β F I ρ w C hv
  refine bq.mono (h1.rq h2 C hv) fun v w' ⟨aF,F',I',R,e,hI,hF,hr⟩=>⟨aF,F',I',R,e,hI,fun u hu _=>hF u hu (by simp),hr⟩
theorem aP.look {o:Oper} {vc:List Prop} {av:AV} {rd:List Nat} (h:wZ P o E M vc av rd) (hr:∀ u ∈ rd,u<M.length):aP P o E M ⟨vc,av,M,[],[],some rd⟩:=⟨h,rfl,rfl,hr⟩
theorem aP.same {o:Oper} {vc:List Prop} {av:AV} (h:∀ {D:List Nat} {w0:World} {K0:World→Prop} {β:Beta} {F:Nat→aA} {I:aA} {ρ:Operand→Value} {w:World},Ctx D w0 K0 E M β F I ρ w→bw vc→∃ v,(∀ w',K0 w'∧az w' I→(execOp ρ o).run P w'=.ok (.value v) w')∧aE (fun w=>K0 w∧az w I) β av v):aP P o E M ⟨vc,av,M,[],[],some []⟩:=
 aP.look (fun C hv=>let ⟨v,h1,h2⟩:=h C hv;⟨v,h2,fun w' hs=>h1 w' hs.1⟩) (by simp)
section
variable {d:Option Tmp} {ty:TypeId} {pos:String} {aft:Array Edge} {gd:Option (Nat×Bool)} {oc:Option bj} {out:Out}
def lk (vc:List Prop) (av:AV) (M:List au):Out:=⟨vc,av,M,[],[],some []⟩
def wj (E:List (Nat×AV)) (M:List au) (x:Operand):Option Out:=match aO E x with | some v=>some (lk [] v M) | none=>none
theorem En {x:Operand} (h:wj E M x=some out):aP P ⟨d,.move x,ty,pos,aft,gd⟩ E M out∧aP P ⟨d,.assign x,ty,pos,aft,gd⟩ E M out:=by
 unfold wj at h
 split at h
 ·rename_i v hv
  simp only [Option.some.injEq] at h;subst h
  exact ⟨aP.same fun C _=>⟨_,fun _ _=>O5 rfl,C.ev hv⟩,aP.same fun C _=>⟨_,fun _ _=>LP rfl,C.ev hv⟩⟩
 ·simp at h
def Bn (E:List (Nat×AV)) (M:List au) (x:Operand):Option Out:=
 match aO E x with | some (.pt u o)=>some (lk [] (.pt u o) M) | some (.ep u k i o)=>some (lk [] (.ep u k i o) M) | some (.rp r o)=>some (lk [] (.rp r o) M) | _=>none
theorem Pc {K:World→Prop} {v:AV} {y:Value} (h:aE K β v y) (hv:(∃ u o,v=.pt u o)∨(∃ u k i o,v=.ep u k i o)∨∃ r o,v=.rp r o):∃ a,y=.pointer (some a):=by
 cases h with
 | pt h=>exact ⟨_,rfl⟩
 | ep h=>exact ⟨_,rfl⟩
 | rp a X hl hc hr=>exact ⟨_,rfl⟩
 | _=>simp at hv
theorem NM {x:Operand} (h:Bn E M x=some out):aP P ⟨d,.nilCheck x,ty,pos,aft,gd⟩ E M out:=by
 unfold Bn at h
 split at h<;>simp only [Option.some.injEq,reduceCtorEq] at h<;>subst h<;>rename_i hv<;>
  refine aP.same fun C _=>?_<;>obtain ⟨a,ha⟩:=Pc (C.ev hv) (by simp)<;>exact ⟨_,fun _ _=>JH ha,ha▸C.ev hv⟩
def yh (E:List (Nat×AV)) (M:List au) (x:Operand) (i:Nat):Option Out:=
 match aO E x with | some (.tu l)=>(match l[i]? with | some v=>some (lk [] v M) | none=>none) | _=>none
theorem zD {R:AV→Value→Prop} {l:List AV} {ys:List Value} (hl:ys.length=l.length) (hr:∀ (j:Nat) c y,l[j]?=some c→ys[j]?=some y→R c y) {i:Nat} {v:AV} (hv:l[i]?=some v):∃ y,ys[i]?=some y∧R v y:=by
 obtain ⟨hi,-⟩:=List.getElem?_eq_some_iff.1 hv
 exact ⟨_,List.getElem?_eq_getElem (by omega),hr i _ _ hv (List.getElem?_eq_getElem (by omega))⟩
theorem Ju {x:Operand} {i:Nat} (h:yh E M x i=some out):aP P ⟨d,.extract x i,ty,pos,aft,gd⟩ E M out:=by
 unfold yh at h
 split at h
 ·rename_i l hv
  split at h
  ·rename_i v hi
   simp only [Option.some.injEq] at h;subst h
   refine aP.same fun C _=>?_
   obtain ⟨y,sS,r⟩:=C.bS hv
   cases r with
   | tu ys hl hr=>
    obtain ⟨y,h1,h2⟩:=zD hl hr hi
    exact ⟨y,fun _ _=>Kq sS (by simpa using h1),h2⟩
  ·simp at h
 ·simp at h
theorem yi {s:TypeId} {x:Operand} {f off:Nat} {a:Addr} (hf:oB P s f=some off) (h:ρ x=.pointer (some a)):(execOp ρ ⟨d,.fieldAddr s x f,ty,pos,aft,gd⟩).run P w=.ok (.value (.pointer (some (a.add off)))) w:=by
 simp only [execOp,h,Sem.run_bind,Js hf,Result.andThen_ok,Sem.run_pure]
def zE (T:aW) (E:List (Nat×AV)) (M:List au) (s:TypeId) (x:Operand) (f:Nat):Option Out:=
 match Bm T s f with
 | some off=>(match aO E x with | some (.pt u o)=>some (lk [] (.pt u (o+off)) M) | some (.ep u k i o)=>some (lk [] (.ep u k i (o+off)) M) | some (.rp r o)=>some (lk [] (.rp r (o+off)) M) | _=>none)
 | none=>none
theorem Kt (hT:bp P T=true) {s:TypeId} {x:Operand} {f:Nat} (h:zE T E M s x f=some out):aP P ⟨d,.fieldAddr s x f,ty,pos,aft,gd⟩ E M out:=by
 unfold zE at h
 split at h
 ·rename_i off ho
  have Bo:=NL hT ho
  split at h<;>simp only [Option.some.injEq,reduceCtorEq] at h<;>subst h<;>rename_i hv<;>refine aP.same fun C _=>?_<;>obtain ⟨y,sS,r⟩:=C.bS hv
  ·cases r with | pt hb=>exact ⟨_,fun _ _=>yi Bo sS,by rw [add_eq];exact .pt hb⟩
  ·cases r with | ep hb=>exact ⟨_,fun _ _=>yi Bo sS,by rw [add_eq,Nat.add_assoc];exact .ep hb⟩
  ·cases r with | rp a X hl hc hr=>exact ⟨_,fun _ _=>yi Bo sS,by rw [Addr.na];exact .rp a X hl hc hr⟩
 ·simp at h
def DV.cp:DV→Bool
 | .v _=>true
 | .ro _ _=>true
 | .jk=>true
 | .em _ _ _=>false
 | .ag _=>false
 | .tu _=>false
 | .pb _ _=>false
theorem bQ.cp {K:World→Prop} {x:DV} {y:Value} {H:aA} (h:bQ K x y H) (hc:x.cp=true):bQ K x y []:=by
 cases h with
 | v=>exact .v _
 | jk=>exact .jk _
 | ro X hl hy hs hr=>exact .ro X hl hy hs hr
 | em=>simp [DV.cp] at hc
 | ag=>simp [DV.cp] at hc
 | tu=>simp [DV.cp] at hc
 | pb=>simp [DV.cp] at hc
def wD (l:List AV) (o n:Nat):Option AV:=bif (o+n).ble l.length then some (.ag ((l.drop o).take n)) else none
def lT (T:aW) (t:TypeId) (l:List AV) (o:Nat):Option AV:=
 match mO T t with | some .one=>l[o]? | some (.many n)=>wD l o n | none=>none
theorem sw (hT:bp P T=true) {t:TypeId} {l:List AV} {o:Nat} {v:AV} {x:Operand} {a:Addr} {R:AV→Value→Prop} {ys:List Value} (hR:∀ (l:List AV) (ys:List Value),ys.length=l.length→(∀ (j:Nat) c y,l[j]?=some c→ys[j]?=some y→R c y)→R (.ag l) (.agg ys.toArray))
  (h:lT T t l o=some v) (hx:ρ x=.pointer (some (a.add o))) (hl:ys.length=l.length) (hr:∀ (j:Nat) c y,l[j]?=some c→ys[j]?=some y→R c y):
  ∃ y,R v y∧∀ w:World,(∀ (j:Nat) y,ys[j]?=some y→w.cell? (a.add j)=some y)→(execOp ρ ⟨d,.load t x,ty,pos,aft,gd⟩).run P w=.ok (.value y) w:=by
 unfold lT at h
 split at h
 ·rename_i ht
  obtain ⟨y,h1,h2⟩:=zD hl hr h
  exact ⟨y,h2,fun w hc=>F9 (yQ hT ht) hx (hc _ _ h1)⟩
 ·rename_i n ht
  have ha:=ye hT ht
  simp only [wD] at h
  cases hb:(o+n).ble l.length with
  | false=>simp [hb] at h
  | true=>
   simp only [hb,cond_true,Option.some.injEq] at h
   have hle:o+n≤l.length:=Nat.le_of_ble_eq_true hb
   subst h
   have hlen:((ys.drop o).take n).length=n:=by simp;omega
   refine ⟨.agg ((ys.drop o).take n).toArray,hR _ _ (by simp;omega) ?_,fun w hc=>DO ((ys.drop o).take n) (by rw [hlen];exact ha) hx (fun j hj=>?_)⟩
   ·intro j c y h1 h2
    rw [List.getElem?_take,List.getElem?_drop] at h1 h2
    split at h1
    ·rename_i hj;rw [if_pos hj] at h2;exact hr _ _ _ h1 h2
    ·simp at h1
   ·rw [Addr.na]
    refine hc (o+j) _ ?_
    rw [List.getElem_take,List.getElem_drop];exact List.getElem?_eq_getElem _
 ·simp at h
def Av (T:aW) (E:List (Nat×AV)) (M:List au) (oc:Option bj) (t:TypeId) (x:Operand):Option Out:=
 match aO E x with
 | some (.pt u o)=>(match M[u]? with | some (.bx _ cells)=>(match lT T t cells o with | some v=>some ⟨[],v,M,[],[],some [u]⟩ | none=>none) | _=>none)
 | some (.rp row o)=>(match lT T t (row.map .d) o with | some v=>some (lk [] v M) | none=>none)
 | some (.ep u k i o)=>(match oc with
  | some (.ix _ row)=>(match M[u]? with | some (.rw _ k' rows)=>bif k.beq k'&&row.all DV.cp then (match lT T t (row.map .d) o with | some v=>some ⟨[rows[i]?=some row],v,M,[],[],some [u]⟩ | none=>none) else none | _=>none)
  | _=>none)
 | _=>none
theorem lE {n k:Nat} {X:Nat→List Value} (hX:∀ i,i<n→(X i).length=k) {i j:Nat} (hi:i<n) (hj:j<k):(lay n X)[i*k+j]?=(X i)[j]?:=by
 induction n with
 | zero=>omega
 | succ n ih=>
  have hl:(lay n X).length=n*k:=by
   have:∀ m,m≤n→(lay m X).length=m*k:=by
    intro m hm
    induction m with
    | zero=>simp [lay]
    | succ m Se=>
     have:=Se (by omega)
     simp only [lay,List.range_succ,List.flatMap_append,List.length_append,List.flatMap_cons,List.flatMap_nil,List.append_nil] at this ⊢
     rw [this,hX m (by omega),Nat.succ_mul]
   exact this n (Nat.le_refl _)
  have hs:lay (n+1) X=lay n X++X n:=by simp [lay,List.range_succ,List.flatMap_append]
  rw [hs]
  rcases Nat.lt_or_ge i n with h | h
  ·have:i*k+j<n*k:=by
    have:=Nat.mul_le_mul_right k (show i+1≤n from h);rw [Nat.succ_mul] at this;omega
   rw [List.getElem?_append_left (by rw [hl];exact this)]
   exact ih (fun i hi=>hX i (by omega)) h
  ·obtain rfl:i=n:=by omega
   rw [List.getElem?_append_right (by rw [hl];omega),hl]
   congr 1;omega
theorem eB {l:List au} {u:Nat} {b:au} (h:l[u]?=some b):u<l.length:=(List.getElem?_eq_some_iff.1 h).1
theorem L0 (hT:bp P T=true) {t:TypeId} {x:Operand} (h:Av T E M oc t x=some out):aP P ⟨d,.load t x,ty,pos,aft,gd⟩ E M out:=by
 unfold Av at h
 split at h
 ·rename_i u o hv
  split at h
  ·rename_i Tt cells hM
   split at h
   ·rename_i v jW
    simp only [Option.some.injEq] at h;subst h
    refine aP.look (fun C _=>?_) (by simpa using eB hM)
    obtain ⟨y,hy,r⟩:=C.bS hv
    cases r with
    | pt hb=>
     obtain ⟨H,hF,hB,hH⟩:=C.rm.at hM
     cases hB with
     | bx aV ys hl hr=>
      rw [hb] at aV;cases aV
      obtain ⟨y',h1,h2⟩:=sw hT (a:=⟨_,0,none⟩) (fun l ys=>aE.ag ys) jW (hy.trans (by rw [add_eq,Nat.zero_add])) hl hr
      refine ⟨y',h1,fun w' hs=>h2 w' fun j z hj=>?_⟩
      have hw:az w' _:=hs.2 u (by simp)
      rw [hF] at hw
      rw [add_eq,cell_of hw.one,Nat.zero_add];simpa using hj
   ·simp at h
  ·simp at h
 ·rename_i row o hv
  split at h
  ·rename_i v jW
   simp only [Option.some.injEq] at h;subst h
   refine aP.same ?_
   intro D w0 K0 β F I ρ w C _
   obtain ⟨y,hy,r⟩:=C.bS hv
   cases r with
   | rp a X hl hc hr=>
    have dI:X.length=(row.map AV.d).length:=by rw [List.length_map];exact hl
    obtain ⟨y',h1,h2⟩:=sw hT (a:=a) (R:=aE (fun w=>K0 w∧az w I) β) (fun l ys=>aE.ag ys) jW hy dI (fun j c z h1 h2=>by
     simp only [List.getElem?_map,Option.map_eq_some_iff] at h1
     obtain ⟨c',h1,rfl⟩:=h1
     exact .d (hr j c' z h1 h2))
    exact ⟨y',fun w' hs=>h2 w' fun j z hj=>hc w' hs j z hj,h1⟩
  ·simp at h
 ·rename_i u k i o hv
  split at h
  ·rename_i i0 row
   split at h
   rotate_left
   ·simp at h
   rename_i Tt k' rows hM
   cases hk:(k.beq k'&&row.all DV.cp) with
   | false=>simp [hk] at h
   | true=>
    simp only [hk,cond_true] at h
    simp only [Bool.and_eq_true] at hk
    obtain ⟨hk,js⟩:=hk
    obtain rfl:=Nat.eq_of_beq_eq_true hk
    split at h
    ·rename_i v jW
     simp only [Option.some.injEq] at h;subst h
     refine aP.look ?_ (by simpa using eB hM)
     intro D w0 K0 β F I ρ w C dj
     obtain ⟨cu,-⟩:=dj
     obtain ⟨y,hy,r⟩:=C.bS hv
     cases r with
     | ep hb=>
      obtain ⟨H,hF,hB,hH⟩:=C.rm.at hM
      cases hB with
      | rw aV X G hl hs hr=>
       rw [hb] at aV;cases aV
       obtain ⟨H7,H8⟩:=hl i row cu
       obtain ⟨hi,-⟩:=List.getElem?_eq_some_iff.1 cu
       obtain ⟨b',cap,cs,fz,he,rfl,fL,cX,hn,ht⟩:=hs.block (by omega)
       cases he
       have dI:(X i).length=(row.map AV.d).length:=by rw [List.length_map];omega
       obtain ⟨y',h1,h2⟩:=sw hT (a:=⟨_,i*k,none⟩) (R:=aE (fun w=>K0 w∧az w I) β) (fun l ys=>aE.ag ys) jW (hy.trans (by rw [add_eq])) dI (fun j c z h1 h2=>by
        simp only [List.getElem?_map,Option.map_eq_some_iff] at h1
        obtain ⟨c',h1,rfl⟩:=h1
        exact .d ((hr i row j c' z cu h1 h2).cp (List.all_eq_true.1 js c' (List.mem_of_getElem? h1))))
       refine ⟨y',h1,fun w' B5=>h2 w' fun j z hj=>?_⟩
       have eb:az w' _:=B5.2 u (by simp)
       rw [hF] at eb
       have hw:=(az.app.1 eb).1.one
       obtain ⟨jt,-⟩:=List.getElem?_eq_some_iff.1 hj
       rw [add_eq,cell_of hw,← hj,← lE (fun i hi=>(hl i _ (List.getElem?_eq_getElem hi)).2) hi (by omega),← ht,List.getElem?_take,if_pos,Array.getElem?_toList]
       have:=Nat.mul_le_mul_right k (show i+1≤rows.length from hi);rw [Nat.succ_mul] at this;omega
    ·simp at h
  ·simp at h
 ·simp at h
theorem yj {e size n c:Nat} {t:TypeId} {x ix:Operand} {a:Addr} {k:IntKind} {i:Int} (ht:P.underlying t=some (.slice e)) (hs:(P.info? e).map (·.size)=some size) (hx:ρ x=.slice (some a) n c) (hi:ρ ix=.int k i) (h0:0≤i) (h1:i<n):
  (execOp ρ ⟨d,.indexAddr t x ix,ty,pos,aft,gd⟩).run P w=.ok (.value (.pointer (some (a.add (i.toNat*size))))) w:=by
 cases fv:P.info? e with
 | none=>simp [fv] at hs
 | some inf=>
  simp only [fv,Option.map_some,Option.some.injEq] at hs
  have bI:(sizeOf e).run P w=.ok size w:=by simp [sizeOf,typeInfo,Sem.run_bind,fv,hs]
  simp [execOp,hx,hi,Instr.indexAt,asIntOf,Sem.run_bind,run_underlying ht,h0,h1,bI]
theorem oy {e size n:Nat} {t:TypeId} {x ix:Operand} {a:Addr} {k:IntKind} {i:Int} (ht:P.underlying t=some (.array n e)) (hs:(P.info? e).map (·.size)=some size) (hx:ρ x=.pointer (some a)) (hi:ρ ix=.int k i) (h0:0≤i) (h1:i<n):
  (execOp ρ ⟨d,.indexAddr t x ix,ty,pos,aft,gd⟩).run P w=.ok (.value (.pointer (some (a.add (i.toNat*size))))) w:=by
 cases fv:P.info? e with
 | none=>simp [fv] at hs
 | some inf=>
  simp only [fv,Option.map_some,Option.some.injEq] at hs
  have bI:(sizeOf e).run P w=.ok size w:=by simp [sizeOf,typeInfo,Sem.run_bind,fv,hs]
  simp [execOp,hx,hi,Instr.indexAt,Instr.sureAddr,asIntOf,Sem.run_bind,run_underlying ht,h0,h1,bI]
def cS:Option AV→Option (IntKind×Int)
 | some (.d (.v (.int k z)))=>some (k,z)
 | _=>none
theorem Ctx.int (C:Ctx D w0 K0 E M β F I ρ w) {x:Operand} {k:IntKind} {z:Int} (h:cS (aO E x)=some (k,z)):ρ x=.int k z:=by
 unfold cS at h
 split at h
 ·rename_i k' z' hv
  simp only [Option.some.injEq,Prod.mk.injEq] at h;obtain ⟨rfl,rfl⟩:=h
  obtain ⟨y,hy,r⟩:=C.bS hv
  cases r with | d h=>cases h;exact hy
 ·simp at h
def zF (T:aW) (E:List (Nat×AV)) (M:List au) (oc:Option bj) (t:TypeId) (x ix:Operand):Option Out:=
 match cS (aO E ix) with
 | none=>none
 | some (_,z)=>
  match cV T t with
  | some (.sl e)=>(match fY T e with
   | none=>none
   | some k=>(match oc with
    | some (.ix i row)=>(match aO E x with | some (.d (.ro k' rows))=>(bif k.beq k' then some (lk [z=(i:Int),rows[i]?=some row] (.rp row 0) M) else none) | _=>none)
    | some (.n i)=>(match aO E x with | some (.sl u n)=>(match M[u]? with | some (.rw _ _ rows)=>some ⟨[z=(i:Int),i<n,n≤rows.length],.ep u k i 0,M,[],[],some []⟩ | _=>none) | _=>none)
    | _=>none))
  | some (.ar n e)=>(match fY T e with
   | none=>none
   | some k=>(match oc with
    | some (.n i)=>(match aO E x with | some (.pt u o)=>some (lk [z=(i:Int),i<n] (.pt u (o+i*k)) M) | some (.ep u k' j o)=>some (lk [z=(i:Int),i<n] (.ep u k' j (o+i*k)) M) | some (.rp r o)=>some (lk [z=(i:Int),i<n] (.rp r (o+i*k)) M) | _=>none)
    | _=>none))
  | _=>none
theorem add_zero' (a:Addr):a.add 0=a:=by unfold Addr.add;simp
theorem Ku (hT:bp P T=true) {t:TypeId} {x ix:Operand} (h:zF T E M oc t x ix=some out):aP P ⟨d,.indexAddr t x ix,ty,pos,aft,gd⟩ E M out:=by
 unfold zF at h
 split at h
 ·simp at h
 rename_i kk z hz
 split at h
 ·rename_i e ht
  replace ht:=cE hT ht
  split at h
  ·simp at h
  rename_i k hk
  replace hk:=ie hT hk
  split at h
  ·rename_i i row
   split at h
   ·rename_i k' rows hv
    cases b9:k.beq k' with
    | false=>simp [b9] at h
    | true=>
     simp only [b9,cond_true,Option.some.injEq] at h;subst h
     obtain rfl:=Nat.eq_of_beq_eq_true b9
     refine aP.same fun C dj=>?_
     obtain ⟨rfl,cu,-⟩:=dj
     obtain ⟨y,hy,r⟩:=C.bS hv
     cases r with | d r=>
     cases r with
     | ro X hl iF hs hr=>
      obtain ⟨hi,-⟩:=List.getElem?_eq_some_iff.1 cu
      obtain ⟨a,c,w6,-⟩:=(hs _ C.now).row hi
      refine ⟨_,fun _ _=>yj ht hk (hy.trans w6) (C.int hz) (by omega) (by omega),?_⟩
      have e0:a.add (((i:Nat):Int).toNat*k)=(a.add (i*k)).add 0:=by rw [add_zero'];simp
      rw [e0]
      refine .rp _ (X i) (by have:=hl i row cu;omega) (fun w' eb j x hj=>?_) (fun j c x h1 h2=>hr i row j c x cu h1 h2)
      obtain ⟨a',c',Bp,qJ⟩:=(hs w' eb).row hi
      rw [w6] at Bp;simp only [Value.slice.injEq,Option.some.injEq] at Bp;obtain ⟨rfl,-⟩:=Bp
      have tz:=(hl i row cu).2
      obtain ⟨jt,-⟩:=List.getElem?_eq_some_iff.1 hj
      have hg:=lE (fun i hi=>(hl i _ (List.getElem?_eq_getElem hi)).2) hi (show j<k by omega)
      rw [hj] at hg
      obtain ⟨aK,kr⟩:=List.getElem?_eq_some_iff.1 hg
      rw [qJ j (by omega) aK,kr]
   ·simp at h
  ·rename_i i
   split at h
   ·rename_i u n hv
    split at h
    ·rename_i Tt k' rows hM
     simp only [Option.some.injEq] at h;subst h
     refine aP.look (fun C dj=>?_) (by simp)
     obtain ⟨rfl,hi,w7,-⟩:=dj
     obtain ⟨y,hy,r⟩:=C.bS hv
     cases r with
     | sl hb=>
      obtain ⟨H,-,hB,-⟩:=C.rm.at hM
      cases hB with
      | rw aV X G hl hs hr=>
       rw [hb] at aV;cases aV
       obtain ⟨b',cap,cs,fz,he,-⟩:=hs.block (by omega)
       cases he
       exact ⟨_,by rw [add_eq];simpa using aE.ep (k:=k) (i:=i) (o:=0) hb,fun _ _=>yj ht hk hy (C.int hz) (by omega) (by omega)⟩
    ·simp at h
   ·simp at h
  ·simp at h
 ·rename_i n e ht
  replace ht:=cE hT ht
  split at h
  ·simp at h
  rename_i k hk
  replace hk:=ie hT hk
  split at h
  ·rename_i i
   split at h<;>simp only [Option.some.injEq,reduceCtorEq] at h<;>subst h<;>rename_i hv<;>refine aP.same fun C dj=>?_<;>obtain ⟨rfl,hi,-⟩:=dj<;>obtain ⟨y,hy,r⟩:=C.bS hv
   ·cases r with | pt hb=>exact ⟨_,fun _ _=>oy ht hk hy (C.int hz) (by omega) (by omega),by rw [add_eq];exact .pt hb⟩
   ·cases r with | ep hb=>exact ⟨_,fun _ _=>oy ht hk hy (C.int hz) (by omega) (by omega),by rw [add_eq,Nat.add_assoc];exact .ep hb⟩
   ·cases r with | rp a X hl hc hr=>exact ⟨_,fun _ _=>oy ht hk hy (C.int hz) (by omega) (by omega),by rw [Addr.na];exact .rp a X hl hc hr⟩
  ·simp at h
 ·simp at h
end
end Go.Proofs.YtlinpknagdgphaaGreat
namespace Go.Proofs.YtlinpknagdgphaaGreat
open Go.RowKit
variable {P:Program} {T:aW} {D:List Nat} {w0:World} {K0:World→Prop} {E:List (Nat×AV)} {M:List au} {β:Beta} {F:Nat→aA} {I:aA} {ρ:Operand→Value} {w:World}
variable {d:Option Tmp} {ty:TypeId} {pos:String} {aft:Array Edge} {gd:Option (Nat×Bool)} {oc:Option bj} {out:Out}
def AV.i (k:IntKind) (z:Int):AV:=.d (.v (.int k z))
def AV.b (c:Bool):AV:=.d (.v (.bool c))
def mq:Option AV→Option Bool
 | some (.d (.v (.bool c)))=>some c
 | _=>none
theorem Ctx.bool (C:Ctx D w0 K0 E M β F I ρ w) {x:Operand} {c:Bool} (h:mq (aO E x)=some c):ρ x=.bool c:=by
 unfold mq at h
 split at h
 ·rename_i c' hv
  simp only [Option.some.injEq] at h;subst h
  obtain ⟨y,hy,r⟩:=C.bS hv
  cases r with | d h=>cases h;exact hy
 ·simp at h
def kt:Option AV→Option (List UInt8)
 | some (.d (.v (.string s)))=>some s.data.toList
 | _=>none
theorem Ctx.str (C:Ctx D w0 K0 E M β F I ρ w) {x:Operand} {l:List UInt8} (h:kt (aO E x)=some l):ρ x=.string ⟨l.toArray⟩:=by
 unfold kt at h
 split at h
 ·rename_i s hv
  simp only [Option.some.injEq] at h;subst h
  obtain ⟨y,hy,r⟩:=C.bS hv
  cases r with | d h=>cases h;rw [hy]
 ·simp at h
def Hn:BinOp→Int→Int→Option Bool
 | .eql,a,b=>some (a==b)
 | .neq,a,b=>some (a != b)
 | .lss,a,b=>some (decide (a<b))
 | .leq,a,b=>some (decide (a≤b))
 | .gtr,a,b=>some (decide (b<a))
 | .geq,a,b=>some (decide (b≤a))
 | _,_,_=>none
def H9:BinOp→IntKind→Int→Int→Option (List Prop×Int)
 | .add,k,a,b=>some ([],k.wrap (a+b))
 | .sub,k,a,b=>some ([],k.wrap (a-b))
 | .mul,k,a,b=>some ([],k.wrap (a*b))
 | .quo,k,a,b=>some ([b≠0],k.wrap (a.tdiv b))
 | .rem,_,a,b=>some ([b≠0],a.tmod b)
 | .and,k,a,b=>some ([],k.wrap ((BitVec.ofInt k.bits a &&& BitVec.ofInt k.bits b).toNat:Int))
 | .or,k,a,b=>some ([],k.wrap ((BitVec.ofInt k.bits a ||| BitVec.ofInt k.bits b).toNat:Int))
 | .xor,k,a,b=>some ([],k.wrap ((BitVec.ofInt k.bits a ^^^ BitVec.ofInt k.bits b).toNat:Int))
 | _,_,_,_=>none
def Ia:BinOp→IntKind→Int→Int→Option Int
 | .shl,k,a,b=>some (k.wrap (a*2 ^ (min b.toNat k.bits)))
 | .shr,k,a,b=>some (a.fdiv (2 ^ (min b.toNat k.bits)))
 | _,_,_,_=>none
def mr (oc:Option bj) (c0:Bool) (M:List au):Out:=match oc with | some (.b c)=>lk [c0=c] (.b c) M | _=>lk [] (.b c0) M
def mw (oc:Option bj) (vc:List Prop) (k:IntKind) (z0:Int) (M:List au):Out:=match oc with | some (.z z)=>lk ((z0=z)::vc) (.i k z) M | _=>lk vc (.i k z0) M
def pr (P:Program) (o:Oper):Prop:=∀ (ρ:Operand→Value) (w:World),(∃ v w',(execOp ρ o).run P w=.ok (.value v) w')∨∃ h w',(execOp ρ o).run P w=.halt h w'
theorem pr.of {o:Oper} (h:∀ ρ:Operand→Value,∃ s:Sem Value,execOp ρ o=(do pure (Next.value (← s)))):pr P o:=by
 intro ρ w
 obtain ⟨s,hs⟩:=h ρ
 rw [hs]
 simp only [Sem.run_bind]
 cases hr:s.run P w with
 | ok v' w'=>exact Or.inl ⟨v',w',by simp⟩
 | halt x w'=>exact Or.inr ⟨x,w',rfl⟩
theorem uY {o:Oper} {ρ:Operand→Value} {w:World} {v:Value} (hk:pr P o) (h:bq P o ρ w fun v' w'=>v'=v∧w'=w):(execOp ρ o).run P w=.ok (.value v) w:=by
 unfold bq at h
 rcases hk ρ w with ⟨v',w',hr⟩ | ⟨x,w',hr⟩<;>rw [hr] at h ⊢
 ·obtain ⟨rfl,rfl⟩:=h;rfl
 ·exact h.elim
theorem kM {o:Oper} {vc:List Prop} {av:AV} (hk:pr P o) (h:∀ {D:List Nat} {w0:World} {K0:World→Prop} {β:Beta} {F:Nat→aA} {I:aA} {ρ:Operand→Value} {w:World},Ctx D w0 K0 E M β F I ρ w→bw vc→∃ v,aE (fun w=>K0 w∧az w I) β av v∧∀ (w:World) (Φ:Value→World→Prop),Φ v w→bq P o ρ w Φ):aP P o E M (lk vc av M):=
 aP.same fun C hv=>let ⟨v,h1,h2⟩:=h C hv;⟨v,fun w' _=>uY hk (h2 w' _ ⟨rfl,rfl⟩),h1⟩
theorem oC {o:Oper} {c0:Bool} (hk:pr P o) (h:∀ {D:List Nat} {w0:World} {K0:World→Prop} {β:Beta} {F:Nat→aA} {I:aA} {ρ:Operand→Value} {w:World},Ctx D w0 K0 E M β F I ρ w→∀ (w:World) (Φ:Value→World→Prop),Φ (.bool c0) w→bq P o ρ w Φ):aP P o E M (mr oc c0 M):=by
 unfold mr
 split
 ·refine kM hk fun C hv=>?_
  obtain ⟨rfl,-⟩:=hv
  exact ⟨_,.d (.v _),h C⟩
 ·exact kM hk fun C _=>⟨_,.d (.v _),h C⟩
theorem nb {o:Oper} {vc:List Prop} {k:IntKind} {z0:Int} (hk:pr P o) (h:∀ {D:List Nat} {w0:World} {K0:World→Prop} {β:Beta} {F:Nat→aA} {I:aA} {ρ:Operand→Value} {w:World},Ctx D w0 K0 E M β F I ρ w→bw vc→∀ (w:World) (Φ:Value→World→Prop),Φ (.int k z0) w→bq P o ρ w Φ):aP P o E M (mw oc vc k z0 M):=by
 unfold mw
 split
 ·refine kM hk fun C hv=>?_
  obtain ⟨rfl,hv⟩:=hv
  exact ⟨_,.d (.v _),h C hv⟩
 ·exact kM hk fun C hv=>⟨_,.d (.v _),h C hv⟩
def Aw (E:List (Nat×AV)) (M:List au) (oc:Option bj) (op:BinOp) (x y:Operand):Option Out:=
 match cS (aO E x),cS (aO E y) with
 | some (k,a),some (k',b)=>(match Ia op k a b with
  | some z0=>some (mw oc [0≤b] k z0 M)
  | none=>bif decide (k=k') then (match Hn op a b with
   | some c0=>some (mr oc c0 M)
   | none=>match H9 op k a b with | some (vc,z0)=>some (mw oc vc k z0 M) | none=>none) else none)
 | _,_=>none
theorem L2 {op:BinOp} {x y:Operand} {t t':TypeId} (h:Aw E M oc op x y=some out):aP P ⟨d,.binOp op t x y t',ty,pos,aft,gd⟩ E M out:=by
 unfold Aw at h
 split at h
 ·rename_i k a k' b hx hy
  split at h
  ·rename_i z0 hz
   simp only [Option.some.injEq] at h;subst h
   refine nb (.of fun _=>⟨_,rfl⟩) fun C hv w Φ aR=>?_
   obtain ⟨hb,-⟩:=hv
   cases op<;>simp only [Ia,Option.some.injEq,reduceCtorEq] at hz
   ·exact Qm (C.int hx) (C.int hy) hb hz aR
   ·exact Qq (C.int hx) (C.int hy) hb hz aR
  ·cases hk:decide (k=k') with
   | false=>simp [hk] at h
   | true=>
    simp only [hk,cond_true] at h
    obtain rfl:=of_decide_eq_true hk
    split at h
    ·rename_i c0 hc
     simp only [Option.some.injEq] at h;subst h
     refine oC (.of fun _=>⟨_,rfl⟩) fun C w Φ aR=>?_
     cases op<;>simp only [Hn,Option.some.injEq,reduceCtorEq] at hc
     ·exact P8 (C.int hx) (C.int hy) hc aR
     ·exact P9 (C.int hx) (C.int hy) hc aR
     ·exact Qa (C.int hx) (C.int hy) hc aR
     ·exact Qb (C.int hx) (C.int hy) hc aR
     ·exact Qc (C.int hx) (C.int hy) hc aR
     ·exact Qd (C.int hx) (C.int hy) hc aR
    ·split at h
     ·rename_i vc z0 hz
      simp only [Option.some.injEq] at h;subst h
      refine nb (.of fun _=>⟨_,rfl⟩) fun C hv w Φ aR=>?_
      cases op<;>simp only [H9,Option.some.injEq,Prod.mk.injEq,reduceCtorEq] at hz<;>obtain ⟨rfl,hz⟩:=hz
      ·exact Qe (C.int hx) (C.int hy) hz aR
      ·exact Qf (C.int hx) (C.int hy) hz aR
      ·exact Qr (C.int hx) (C.int hy) hz aR
      ·exact Qk (C.int hx) (C.int hy) hv.1 hz aR
      ·exact Ql (C.int hx) (C.int hy) hv.1 hz aR
      ·exact Qp (C.int hx) (C.int hy) hz aR
      ·exact Rv (C.int hx) (C.int hy) hz aR
      ·exact Qn (C.int hx) (C.int hy) hz aR
     ·simp at h
 ·simp at h
end Go.Proofs.YtlinpknagdgphaaGreat
namespace Go.Proofs.YtlinpknagdgphaaGreat
open Go.RowKit
variable {P:Program} {T:aW} {D:List Nat} {w0:World} {K0:World→Prop} {E:List (Nat×AV)} {M:List au} {β:Beta} {F:Nat→aA} {I:aA} {ρ:Operand→Value} {w:World}
variable {d:Option Tmp} {ty:TypeId} {pos:String} {aft:Array Edge} {gd:Option (Nat×Bool)} {oc:Option bj} {out:Out}
theorem pS (vs:List Value):∀ (c:Array Value) (i j:Nat),i+vs.length≤c.size→(cL c i vs)[j]?=if i≤j∧j<i+vs.length then vs[j-i]? else c[j]?:=by
 induction vs with
 | nil=>intro c i j h;simp [cL];intro h1 h2;omega
 | cons v r ih=>
  intro c i j h
  simp only [List.length_cons] at h
  simp only [cL]
  rw [ih _ _ _ (by simp;omega)]
  by_cases h1:i+1≤j∧j<i+1+r.length
  ·rw [if_pos h1,if_pos (by simp;omega)]
   rw [show j-i=(j-(i+1))+1 by omega];simp
  ·rw [if_neg h1,Array.getElem?_setIfInBounds]
   by_cases h2:i=j
   ·subst h2;simp;omega
   ·rw [if_neg h2,if_neg (by simp;omega)]
theorem bK.mono {K K':World→Prop} {β aF:Beta} (h:∀ w,K' w→K w) (e:Ext β aF) {u:Nat} {blk:au} {H:aA} (r:bK K β u blk H):bK K' aF u blk H:=by
 cases r with
 | dead=>exact .dead u
 | bx hb ys hl hr=>exact .bx (e _ _ hb) ys hl (fun j c y h1 h2=>(hr j c y h1 h2).mono h e)
 | rw hb X G hl hs hr=>exact .rw (e _ _ hb) X G hl hs (fun i r j c x h1 h2 h3=>(hr i r j c x h1 h2 h3).mono h)
 | tw hb X G hl hs hr=>exact .tw (e _ _ hb) X G hl hs (fun i r j c x h1 h2 h3=>(hr i r j c x h1 h2 h3).mono h)
 | nm hb=>exact .nm (e _ _ hb)
 | gw X hl hc hr=>exact .gw X hl (fun w hw=>hc w (h w hw)) (fun j c x h1 h2=>(hr j c x h1 h2).mono h)
 | il hb hm=>exact .il (e _ _ hb) (fun v hv=>let ⟨c',h'⟩:=hm v hv;⟨c',e _ _ h'⟩)
 | fl hb ys hl hm hc hr=>exact .fl (e _ _ hb) ys hl hm hc (fun j c y h1 h2=>(hr j c y h1 h2).mono h e)
 | mf hb vs hl hr=>exact .mf (e _ _ hb) vs hl (fun j c y h1 h2=>(hr j c y h1 h2).mono h e)
 | mp hb vs G hl hr=>exact .mp (e _ _ hb) vs G hl (fun j c y h1 h2=>(hr j c y h1 h2).mono h)
 | mu es' hp hn aK hb vs G hl hr=>exact .mu es' hp hn aK (e _ _ hb) vs G hl (fun j c y h1 h2=>(hr j c y h1 h2).mono h)
 | lp hb bI hr=>exact .lp (e _ _ hb) bI (fun x hx=>(hr x hx).mono h e)
 | it hb hm=>exact .it (e _ _ hb) (fun v hv=>let ⟨c',h'⟩:=hm v hv;⟨c',e _ _ h'⟩)
def aS (F:Nat→aA) (u:Nat) (H:aA):Nat→aA:=fun v=>if v=u then H else F v
theorem kJ (F:Nat→aA) (H:aA) {n:Nat} {tc:List Nat}:∀ u,u<n→u ∉ tc→aS F n H u=F u:=fun u hu _=>by simp [aS];omega
theorem xP (F:Nat→aA) (H:aA) (n:Nat):(List.range (n+1)).flatMap (aS F n H)=(List.range n).flatMap F++H:=by
 rw [List.range_succ,List.flatMap_append]
 have:(List.range n).flatMap (aS F n H)=(List.range n).flatMap F:=by
  rw [List.flatMap_def,List.flatMap_def];congr 1
  apply List.map_congr_left;intro a ha;have:=List.mem_range.1 ha;simp [aS];omega
 rw [this];simp [aS]
theorem RM.new (R:RM D w0 K0 M β F I w) {w':World} (g:Gr w w') {q:Option Addr×Nat} {H:aA} {blk:au} (n:dG w w' H) (hb:bK (fun w=>K0 w∧az w I) (β++[q]) M.length blk H):
  RM D w0 K0 (M++[blk]) (β++[q]) (aS F M.length H) I w' where
 len:=by simp [R.len]
 blk:=by
  intro u bl hu
  rcases Nat.lt_or_ge u M.length with h | h
  ·rw [List.getElem?_append_left h] at hu
   have:aS F M.length H u=F u:=by simp [aS];omega
   rw [this];exact (R.blk u bl hu).mono (fun _ h=>h) (Ext.app _ _)
  ·rw [List.getElem?_append_right h] at hu
   have h0:u-M.length=0:=by
    rcases Nat.eq_zero_or_pos (u-M.length) with h0 | h0
    ·exact h0
    ·rw [List.getElem?_eq_none (by simp;omega)] at hu;simp at hu
   obtain rfl:u=M.length:=by omega
   simp at hu;subst hu
   simpa [aS] using hb
 st:=by
  have:=R.st.new g n
  rw [List.length_append,List.length_singleton,xP]
  refine this.perm ?_
  rw [← List.append_assoc]
  exact List.Perm.append_right I List.perm_append_comm
theorem RM.gr (R:RM D w0 K0 M β F I w) {w':World} (g:Gr w w'):RM D w0 K0 M β F I w':=⟨R.len,R.blk,R.st.gr g⟩
theorem fA (R:RM D w0 K0 M β F I w) (x:Option Addr×Nat):(β++[x])[M.length]?=some x:=by rw [← R.len];simp
def AV.one:AV→Bool
 | .d (.v x)=>cd x
 | .d .jk=>false
 | .d (.ag _)=>false
 | .d (.tu _)=>false
 | .ag _=>false
 | .tu _=>false
 | _=>true
theorem AV.zG {K:World→Prop} {c:AV} {y:Value} (h:aE K β c y) (ho:c.one=true):cd y=true:=by
 cases h with
 | d h=>
  rename_i x
  cases x with
  | v x=>cases h;exact ho
  | jk=>simp [AV.one] at ho
  | ro k rows=>obtain ⟨a,n,c,rfl⟩:=h.slice (by simp);rfl
  | em T k rows=>obtain ⟨a,n,c,rfl⟩:=h.slice (by simp);rfl
  | ag l=>simp [AV.one] at ho
  | tu l=>simp [AV.one] at ho
  | pb T l=>cases h
 | sl=>rfl
 | sb=>rfl
 | sf=>rfl
 | mv=>rfl
 | yl=>rfl
 | pt=>rfl
 | ep=>rfl
 | rp=>rfl
 | uk hu=>exact hu
 | bt h hn=>obtain ⟨a,n,c,rfl⟩:=h.slice (by simp);rfl
 | fn=>rfl
 | fm=>rfl
 | ag=>simp [AV.one] at ho
 | tu=>simp [AV.one] at ho
theorem Kv {y:Value} (h:cd y=true):y.cells=#[y]:=by cases y<;>first | rfl | simp [cd] at h
def qz:AV→Option (List AV)
 | .ag l=>bif l.all AV.one then some l else none
 | c=>bif c.one then some [c] else none
theorem uO {K:World→Prop} {v:AV} {y:Value} {l:List AV} (h:qz v=some l) (r:aE K β v y):∃ ys:List Value,y.cells=ys.toArray∧ys.length=l.length∧(∀ (j:Nat) c z,l[j]?=some c→ys[j]?=some z→aE K β c z)∧∀ q ∈ ys,cd q=true:=by
 have single:∀ c:AV,(bif c.one then some [c] else none)=some l→aE K β c y→∃ ys:List Value,y.cells=ys.toArray∧ys.length=l.length∧(∀ (j:Nat) c z,l[j]?=some c→ys[j]?=some z→aE K β c z)∧∀ q ∈ ys,cd q=true:=by
  intro c hc rc
  cases ho:c.one with
  | false=>simp [ho] at hc
  | true=>
   simp only [ho,cond_true,Option.some.injEq] at hc;subst hc
   have h1:=AV.zG rc ho
   refine ⟨[y],Kv h1,rfl,?_,by simpa using h1⟩
   intro j c' z h2 h3
   cases j with
   | zero=>simp at h2 h3;subst h2 h3;exact rc
   | succ j=>simp at h2
 cases v with
 | ag l'=>
  simp only [qz] at h
  cases ho:l'.all AV.one with
  | false=>simp [ho] at h
  | true=>
   simp only [ho,cond_true,Option.some.injEq] at h;subst h
   cases r with
   | ag ys hl hr=>
    refine ⟨ys,rfl,hl,hr,?_⟩
    intro q hq
    obtain ⟨j,hj,rfl⟩:=List.getElem_of_mem hq
    have jt:j<l'.length:=by omega
    exact AV.zG (hr j _ _ (List.getElem?_eq_getElem jt) (List.getElem?_eq_getElem hj)) (List.all_eq_true.1 ho _ (List.getElem_mem jt))
 | _=>(refine single _ ?_ r;exact h)
def Bq (E:List (Nat×AV)) (M:List au) (t:TypeId) (x:Operand):Option Out:=
 match aO E x with
 | some v=>(match qz v with | some l=>some ⟨[],.pt M.length 0,M++[.bx t l],[],[],none⟩ | none=>none)
 | none=>none
theorem NN {t:TypeId} {x:Operand} (h:Bq E M t x=some out):aP P ⟨d,.box t x,ty,pos,aft,gd⟩ E M out:=by
 unfold Bq at h
 split at h
 ·rename_i v hv
  split at h
  ·rename_i l hl
   simp only [Option.some.injEq] at h;subst h
   intro D w0 K0 β F I ρ w C _
   obtain ⟨y,hy,r⟩:=C.bS hv
   obtain ⟨ys,h1,h2,h3,h4⟩:=uO hl r
   refine O6 hy fun b w' g n=>?_
   rw [h1] at n
   exact ⟨_,_,I,C.rm.new (q:=(some ⟨b,0,none⟩,0)) g n (.bx (fA C.rm _) ys h2 fun j c z e1 e2=>(h3 j c z e1 e2).mono (fun _ h=>h) (Ext.app _ _)),(Ext.app _ _).b _,bL.refl _,kJ _ _,.pt (fA C.rm _)⟩
  ·simp at h
 ·simp at h
def ki (l:List Value):List AV:=l.map fun x=>.d (.v x)
theorem pT {K:World→Prop} (l:List Value):l.length=(ki l).length∧∀ (j:Nat) c z,(ki l)[j]?=some c→l[j]?=some z→aE K β c z:=by
 refine ⟨by simp [ki],?_⟩
 intro j c z h1 h2
 simp only [ki,List.getElem?_map,h2,Option.map_some,Option.some.injEq] at h1
 subst h1;exact .d (.v _)
def zH (T:aW) (M:List au) (t:TypeId):Option Out:=
 match oU T t with
 | some l=>some ⟨[],.pt M.length 0,M++[.bx t (ki l)],[],[],none⟩
 | none=>none
theorem Kw (hT:bp P T=true) {t:TypeId} (h:zH T M t=some out):aP P ⟨d,.alloc t,ty,pos,aft,gd⟩ E M out:=by
 unfold zH at h
 split at h
 ·rename_i l hz
  simp only [Option.some.injEq] at h;subst h
  obtain ⟨z,pv,mP⟩:=uX hT hz
  intro D w0 K0 β F I ρ w C _
  refine Em (mP w) fun b w' g n=>?_
  rw [pv] at n
  obtain ⟨h1,h2⟩:=pT (K:=fun w=>K0 w∧az w I) (β:=β++[(some ⟨b,0,none⟩,0)]) l
  exact ⟨_,_,I,C.rm.new (q:=(some ⟨b,0,none⟩,0)) g n (.bx (fA C.rm _) l h1 h2),(Ext.app _ _).b _,bL.refl _,kJ _ _,.pt (fA C.rm _)⟩
 ·simp at h
theorem RM.set (R:RM D w0 K0 M β F I w) {u b:Nat} {o o':Obj} {G:aA} {blk blk':au} (hu:M[u]?=some blk) (hF:F u=(b,o)::G) (hb:bK (fun w=>K0 w∧az w I) β u blk' ((b,o')::G)):
  RM D w0 K0 (M.set u blk') β (aS F u ((b,o')::G)) I (ct w b o') where
 len:=by rw [List.length_set];exact R.len
 blk:=by
  intro v bl hv
  rw [List.getElem?_set] at hv
  by_cases e:u=v
  ·subst e
   obtain ⟨aK,-⟩:=List.getElem?_eq_some_iff.1 hu
   simp only [aK,if_pos,Option.some.injEq] at hv;subst hv
   simpa [aS] using hb
  ·rw [if_neg e] at hv
   have:aS F u ((b,o')::G) v=F v:=by simp only [aS];rw [if_neg (fun h=>e h.symm)]
   rw [this];exact R.blk v bl hv
 st:=by
  obtain ⟨aK,-⟩:=List.getElem?_eq_some_iff.1 hu
  have split:∀ (f:Nat→aA),(List.range M.length).flatMap f++I=(List.range u).flatMap f++(f u++((List.range' (u+1) (M.length-(u+1))).flatMap f++I)):=by
   intro f
   have hr:List.range M.length=List.range u++u::List.range' (u+1) (M.length-(u+1)):=by
    rw [List.range_eq_range',List.range_eq_range']
    have h1:M.length=u+(1+(M.length-(u+1))):=by omega
    conv=>lhs;rw [h1]
    rw [← List.range'_append_1,← List.range'_append_1]
    simp
   rw [hr];simp [List.flatMap_append]
  have other:∀ v,v≠u→aS F u ((b,o')::G) v=F v:=fun v h=>by simp [aS,h]
  have c1:(List.range u).flatMap (aS F u ((b,o')::G))=(List.range u).flatMap F:=by
   rw [List.flatMap_def,List.flatMap_def];congr 1;apply List.map_congr_left;intro a ha;have:=List.mem_range.1 ha;exact other a (by omega)
  have c2:(List.range' (u+1) (M.length-(u+1))).flatMap (aS F u ((b,o')::G))=(List.range' (u+1) (M.length-(u+1))).flatMap F:=by
   rw [List.flatMap_def,List.flatMap_def];congr 1;apply List.map_congr_left;intro a ha;have:=(List.mem_range'_1.1 ha).1;exact other a (by omega)
  have hs:=R.st
  rw [split,hF] at hs
  have gN:St D w0 w ((b,o)::(G++((List.range u).flatMap F++((List.range' (u+1) (M.length-(u+1))).flatMap F++I)))):=hs.perm (by classical rw [List.perm_iff_count];intro x;simp only [List.count_append,List.count_cons]<;>omega)
  rw [List.length_set,split,c1,c2]
  have fM:aS F u ((b,o')::G) u=(b,o')::G:=by simp [aS]
  rw [fM]
  exact (gN.set o').perm (by classical rw [List.perm_iff_count];intro x;simp only [List.count_append,List.count_cons]<;>omega)
def yR (T:aW) (E:List (Nat×AV)) (M:List au) (t:TypeId) (x y:Operand):Option Out:=
 match aO E x,aO E y,fY T t with
 | some (.pt u o),some v,some n=>(match qz v,M[u]? with
  | some l,some (.bx T cells)=>bif l.length.beq n&&(o+n).ble cells.length then some ⟨[],.d .jk,M.set u (.bx T (cells.take o++(l++cells.drop (o+n)))),[u],[],none⟩ else none
  | _,_=>none)
 | _,_,_=>none
theorem JK (hT:bp P T=true) {t:TypeId} {x y:Operand} (h:yR T E M t x y=some out):aP P ⟨d,.store t x y,ty,pos,aft,gd⟩ E M out:=by
 unfold yR at h
 split at h
 ·rename_i u o v n hx hy hn
  split at h
  ·rename_i l Tt cells hl hM
   cases hc:(l.length.beq n&&(o+n).ble cells.length) with
   | false=>simp [hc] at h
   | true=>
    simp only [hc,cond_true,Option.some.injEq] at h;subst h
    simp only [Bool.and_eq_true] at hc
    have w8:=Nat.eq_of_beq_eq_true hc.1
    have hle:=Nat.le_of_ble_eq_true hc.2
    intro D w0 K0 β F I ρ w C _
    obtain ⟨yx,fN,rx⟩:=C.bS hx
    obtain ⟨yy,tA,ry⟩:=C.bS hy
    obtain ⟨zs,h1,h2,h3,h4⟩:=uO hl ry
    cases rx with
    | pt hb=>
     obtain ⟨H,hF,hB,hH⟩:=C.rm.at hM
     cases hB with
     | bx aV ys B6 hr=>
      rw [hb] at aV;cases aV
      have hw:=hH.one
      have Sf:=ie hT hn
      refine E6 n Sf fN tA hw (by rw [h1];simp;omega) (by simp;omega) (by rw [h1];simpa using h4) ?_
      rw [h1]
      refine ⟨β,_,I,C.rm.set hM hF (o':=.cells (cL ys.toArray o zs) Tt (0,0)) (?_:bK _ β u (.bx Tt (cells.take o++(l++cells.drop (o+n)))) _),(Ext.refl β).b _,bL.refl _,fun v hv hn=>by simp only [aS];rw [if_neg (by simpa using hn)],.d (.jk _)⟩
      have he:(cL ys.toArray o zs)=(cL ys.toArray o zs).toList.toArray:=by simp
      rw [he]
      refine .bx hb _ (by rw [Array.length_toList,j7];simp;omega) ?_
      intro j c z e1 e2
      rw [Array.getElem?_toList,pS _ _ _ _ (by simp;omega)] at e2
      by_cases hj:o≤j∧j<o+zs.length
      ·rw [if_pos hj] at e2
       rw [List.getElem?_append_right (by simp;omega),List.getElem?_append_left (by simp;omega)] at e1
       refine h3 (j-o) c z ?_ e2
       rw [← e1];congr 1;simp;omega
      ·rw [if_neg hj] at e2
       rw [List.getElem?_toArray] at e2
       refine hr j c z ?_ e2
       rcases Nat.lt_or_ge j o with nW | nW
       ·rw [List.getElem?_append_left (by simp;omega),List.getElem?_take,if_pos nW] at e1;exact e1
       ·rw [List.getElem?_append_right (by simp;omega),List.getElem?_append_right (by simp;omega),List.getElem?_drop] at e1
        rw [← e1];congr 1;simp;omega
  ·simp at h
 ·simp at h
end Go.Proofs.YtlinpknagdgphaaGreat
namespace Go.Proofs.YtlinpknagdgphaaGreat
open Go.RowKit
variable {P:Program} {T:aW} {D:List Nat} {w0:World} {K0:World→Prop} {E:List (Nat×AV)} {M:List au} {β:Beta} {F:Nat→aA} {I:aA} {ρ:Operand→Value} {w:World}
variable {d:Option Tmp} {ty:TypeId} {pos:String} {aft:Array Edge} {gd:Option (Nat×Bool)} {oc:Option bj} {out:Out}
def Br (E:List (Nat×AV)) (M:List au) (oc:Option bj) (x:Operand):Option Out:=match mq (aO E x) with | some c=>some (mr oc (!c) M) | none=>none
theorem NO {x:Operand} {t:TypeId} (h:Br E M oc x=some out):aP P ⟨d,.unOp .not t x,ty,pos,aft,gd⟩ E M out:=by
 unfold Br at h
 split at h
 ·rename_i c hc
  simp only [Option.some.injEq] at h;subst h
  exact oC (.of fun _=>⟨_,rfl⟩) fun C w Φ aR=>Qi (C.bool hc) rfl aR
 ·simp at h
def Bs (E:List (Nat×AV)) (M:List au) (oc:Option bj) (x:Operand):Option Out:=match cS (aO E x) with | some (k,a)=>some (mw oc [] k (k.wrap ((BitVec.ofInt k.bits (if k.signed then -1 else k.max) ^^^ BitVec.ofInt k.bits a).toNat:Int)) M) | none=>none
theorem NP {x:Operand} {t:TypeId} (h:Bs E M oc x=some out):aP P ⟨d,.unOp .xor t x,ty,pos,aft,gd⟩ E M out:=by
 unfold Bs at h
 split at h
 ·rename_i k a hc
  simp only [Option.some.injEq] at h;subst h
  exact nb (.of fun _=>⟨_,rfl⟩) fun C _ w Φ aR=>Qo (C.int hc) rfl aR
 ·simp at h
def Ax (E:List (Nat×AV)) (M:List au) (oc:Option bj) (c x y:Operand):Option Out:=
 match mq (aO E c),oc with
 | some c0,some (.b b)=>(match aO E (bif b then x else y) with | some v=>some (lk [c0=b] v M) | none=>none)
 | some true,_=>(match aO E x with | some v=>some (lk [] v M) | none=>none)
 | some false,_=>(match aO E y with | some v=>some (lk [] v M) | none=>none)
 | none,_=>none
theorem uZ {c x y:Operand}:pr P ⟨d,.pick c x y,ty,pos,aft,gd⟩:=by
 intro ρ w
 simp only [execOp]
 cases hc:ρ c<;>first | exact Or.inl ⟨_,_,rfl⟩ | exact Or.inr ⟨_,_,rfl⟩
theorem L3 {c x y:Operand} (h:Ax E M oc c x y=some out):aP P ⟨d,.pick c x y,ty,pos,aft,gd⟩ E M out:=by
 unfold Ax at h
 split at h
 ·rename_i c0 b hc
  split at h
  ·rename_i v hv
   simp only [Option.some.injEq] at h;subst h
   refine kM uZ fun C dj=>?_
   obtain ⟨rfl,-⟩:=dj
   cases c0 with
   | true=>exact ⟨_,C.ev hv,fun w Φ aR=>E7 (C.bool hc) rfl aR⟩
   | false=>exact ⟨_,C.ev hv,fun w Φ aR=>E8 (C.bool hc) rfl aR⟩
  ·simp at h
 ·rename_i hc _
  split at h
  ·rename_i v hv
   simp only [Option.some.injEq] at h;subst h
   exact kM uZ fun C _=>⟨_,C.ev hv,fun w Φ aR=>E7 (C.bool hc) rfl aR⟩
  ·simp at h
 ·rename_i hc _
  split at h
  ·rename_i v hv
   simp only [Option.some.injEq] at h;subst h
   exact kM uZ fun C _=>⟨_,C.ev hv,fun w Φ aR=>E8 (C.bool hc) rfl aR⟩
  ·simp at h
 ·simp at h
def Bt:Option AV→Option Nat
 | some (.d (.ro _ rows))=>some rows.length
 | some (.d (.v (.slice _ n _)))=>some n
 | some (.sl _ n)=>some n
 | some (.sb _ _ _ n)=>some n
 | _=>none
theorem Ctx.len (C:Ctx D w0 K0 E M β F I ρ w) {x:Operand} {n:Nat} (h:Bt (aO E x)=some n):∃ a c,ρ x=.slice a n c:=by
 unfold Bt at h
 split at h
 ·rename_i k rows hv
  simp only [Option.some.injEq] at h;subst h
  obtain ⟨y,hy,r⟩:=C.bS hv
  cases r with | d r=>cases r with | ro X hl iF hs hr=>obtain ⟨a,c,rfl,-⟩:=iF;exact ⟨a,c,hy⟩
 ·rename_i a n' c hv
  simp only [Option.some.injEq] at h;subst h
  obtain ⟨y,hy,r⟩:=C.bS hv
  cases r with | d r=>cases r;exact ⟨_,_,hy⟩
 ·rename_i u n' hv
  simp only [Option.some.injEq] at h;subst h
  obtain ⟨y,hy,r⟩:=C.bS hv
  cases r;exact ⟨_,_,hy⟩
 ·rename_i n' hv
  simp only [Option.some.injEq] at h;subst h
  obtain ⟨y,hy,r⟩:=C.bS hv
  cases r;exact ⟨_,_,hy⟩
 ·simp at h
def Bu (T:aW) (E:List (Nat×AV)) (M:List au) (oc:Option bj) (t:TypeId) (x:Operand):Option Out:=
 match cV T t with
 | some (.sl _)=>(match Bt (aO E x) with | some n=>some (mw oc [] .i64 n M) | none=>none)
 | some .st=>(match kt (aO E x) with | some l=>some (mw oc [] .i64 l.length M) | none=>none)
 | _=>none
theorem NQ (hT:bp P T=true) {x:Operand} {t:TypeId} (h:Bu T E M oc t x=some out):aP P ⟨d,.call ⟨.builtin .len,#[x],#[t]⟩,ty,pos,aft,gd⟩ E M out:=by
 unfold Bu at h
 split at h
 ·rename_i e ht
  replace ht:=cE hT ht
  split at h
  ·rename_i n hn
   simp only [Option.some.injEq] at h;subst h
   refine nb (.of fun _=>⟨_,rfl⟩) fun C _ w Φ aR=>?_
   obtain ⟨a,c,hx⟩:=C.len hn
   exact O8 ht hx aR
  ·simp at h
 ·rename_i ht
  replace ht:=cE hT ht
  split at h
  ·rename_i l hl
   simp only [Option.some.injEq] at h;subst h
   exact nb (.of fun _=>⟨_,rfl⟩) fun C _ w Φ aR=>LZ ht (C.str hl) aR
  ·simp at h
 ·simp at h
def Ay (E:List (Nat×AV)) (M:List au) (oc:Option bj) (op:BinOp) (x y:Operand):Option Out:=
 match kt (aO E x),kt (aO E y) with
 | some a,some b=>(match op with | .eql=>some (mr oc (a==b) M) | .neq=>some (mr oc (a != b) M) | _=>none)
 | _,_=>none
theorem L4 {op:BinOp} {x y:Operand} {t t':TypeId} (h:Ay E M oc op x y=some out):aP P ⟨d,.binOp op t x y t',ty,pos,aft,gd⟩ E M out:=by
 unfold Ay at h
 split at h
 ·rename_i a b ha hb
  split at h<;>simp only [Option.some.injEq,reduceCtorEq] at h<;>subst h
  ·exact oC (.of fun _=>⟨_,rfl⟩) fun C w Φ aR=>LX (C.str ha) (C.str hb) rfl aR
  ·exact oC (.of fun _=>⟨_,rfl⟩) fun C w Φ aR=>LY (C.str ha) (C.str hb) rfl aR
 ·simp at h
def zI (T:aW) (E:List (Nat×AV)) (M:List au) (oc:Option bj) (t t':TypeId) (x:Operand):Option Out:=
 match cV T t,cV T t',cS (aO E x) with
 | some _,some (.it k),some (_,a)=>some (mw oc [] k (k.wrap a) M)
 | _,_,_=>none
theorem Kx (hT:bp P T=true) {x:Operand} {t t':TypeId} (h:zI T E M oc t t' x=some out):aP P ⟨d,.convert t t' x,ty,pos,aft,gd⟩ E M out:=by
 unfold zI at h
 split at h
 ·rename_i u k k' a hu hk ha
  replace hk:=cE hT hk
  simp only [Option.some.injEq] at h;subst h
  exact nb (.of fun _=>⟨_,rfl⟩) fun C _ w Φ aR=>Ks (LV hT hu) hk (C.int ha) rfl aR
 ·simp at h
def Ib:Builtin→Int→Int→Option Int
 | .min,a,b=>some (min a b)
 | .max,a,b=>some (max a b)
 | _,_,_=>none
def B7 (E:List (Nat×AV)) (M:List au) (oc:Option bj) (bi:Builtin) (x y:Operand):Option Out:=
 match cS (aO E x),cS (aO E y) with
 | some (k,a),some (k',b)=>bif decide (k=k') then (match Ib bi a b with | some z=>some (mw oc [] k z M) | none=>none) else none
 | _,_=>none
theorem Pd {bi:Builtin} {x y:Operand} {t t':TypeId} (h:B7 E M oc bi x y=some out):aP P ⟨d,.call ⟨.builtin bi,#[x,y],#[t,t']⟩,ty,pos,aft,gd⟩ E M out:=by
 unfold B7 at h
 split at h
 ·rename_i k a k' b hx hy
  cases hk:decide (k=k') with
  | false=>simp [hk] at h
  | true=>
   simp only [hk,cond_true] at h
   obtain rfl:=of_decide_eq_true hk
   split at h
   ·rename_i z hz
    simp only [Option.some.injEq] at h;subst h
    cases bi<;>simp only [Ib,Option.some.injEq,reduceCtorEq] at hz
    ·exact nb (.of fun _=>⟨_,rfl⟩) fun C _ w Φ aR=>Qh (C.int hx) (C.int hy) hz aR
    ·exact nb (.of fun _=>⟨_,rfl⟩) fun C _ w Φ aR=>Qg (C.int hx) (C.int hy) hz aR
   ·simp at h
 ·simp at h
end Go.Proofs.YtlinpknagdgphaaGreat
namespace Go.Proofs.YtlinpknagdgphaaGreat
open Go.RowKit
variable {P:Program} {T:aW} {D:List Nat} {w0:World} {K0:World→Prop} {E:List (Nat×AV)} {M:List au} {β:Beta} {F:Nat→aA} {I:aA} {ρ:Operand→Value} {w:World}
variable {d:Option Tmp} {ty:TypeId} {pos:String} {aft:Array Edge} {gd:Option (Nat×Bool)} {oc:Option bj} {out:Out}
def jN (E:List (Nat×AV)):List Operand→Option (List AV)
 | []=>some []
 | x::r=>match aO E x,jN E r with | some v,some l=>some (v::l) | _,_=>none
theorem Ctx.k5 (C:Ctx D w0 K0 E M β F I ρ w):∀ {xs:List Operand} {l:List AV},jN E xs=some l→(xs.map ρ).length=l.length∧∀ (j:Nat) c y,l[j]?=some c→(xs.map ρ)[j]?=some y→aE (fun w=>K0 w∧az w I) β c y
 | [],l,h=>by simp only [jN,Option.some.injEq] at h;subst h;simp
 | x::r,l,h=>by
  unfold jN at h
  split at h
  ·rename_i v l' hv hl
   simp only [Option.some.injEq] at h;subst h
   obtain ⟨h1,h2⟩:=Ctx.k5 C hl
   refine ⟨by simpa using h1,?_⟩
   intro j c y hc hy
   cases j with
   | zero=>simp at hc hy;subst hc hy;exact C.ev hv
   | succ j=>simp at hc hy;exact h2 j c y hc (by simpa using hy)
  ·simp at h
def Az (E:List (Nat×AV)) (M:List au) (fn:Fn) (first bZ:Array Operand):Option Out:=
 match fn,first with
 | .func f,⟨[]⟩=>(match jN E bZ.toList with | some l=>some (lk [] (.fn f l) M) | none=>none)
 | _,_=>none
theorem L5 {fn:Fn} {first bZ:Array Operand} (h:Az E M fn first bZ=some out):aP P ⟨d,.makeFunc fn first bZ,ty,pos,aft,gd⟩ E M out:=by
 unfold Az at h
 split at h
 ·rename_i f
  split at h
  ·rename_i l hl
   simp only [Option.some.injEq] at h;subst h
   refine aP.same ?_
   intro D w0 K0 β F I ρ w C _
   obtain ⟨h1,h2⟩:=C.k5 hl
   have hm:(bZ.toList.map ρ).toArray=bZ.map ρ:=by rw [← Array.toList_map]
   refine ⟨_,fun w' _=>?_,aE.fn _ h1 h2⟩
   simp [execOp,Instr.makeFunc,hm]
  ·simp at h
 ·simp at h
structure bR (D:List Nat) (w0:World) (K0:World→Prop) (M:List au) (β:Beta) (F:Nat→aA) (I X:aA) (w:World):Prop where
 len:β.length=M.length
 blk:∀ (u:Nat) blk,M[u]?=some blk→bK (fun w=>K0 w∧az w I) β u blk (F u)
 st:St D w0 w ((List.range M.length).flatMap F++(I++X))
theorem bR.nil {X:aA} (R:bR D w0 K0 M β F I X w) (h:X=[]):RM D w0 K0 M β F I w:=⟨R.len,R.blk,by have:=R.st;rw [h,List.append_nil] at this;exact this⟩
theorem RM.x (R:RM D w0 K0 M β F I w):bR D w0 K0 M β F I [] w:=⟨R.len,R.blk,by rw [List.append_nil];exact R.st⟩
theorem bR.perm {X Y:aA} (R:bR D w0 K0 M β F I X w) (p:X.Perm Y):bR D w0 K0 M β F I Y w:=⟨R.len,R.blk,R.st.perm (List.Perm.append_left _ (List.Perm.append_left _ p))⟩
theorem bR.drop {X Y:aA} (R:bR D w0 K0 M β F I (X++Y) w):bR D w0 K0 M β F I X w:=⟨R.len,R.blk,by have:=R.st;rw [← List.append_assoc,← List.append_assoc] at this;have:=this.oA;rw [List.append_assoc] at this;exact this⟩
theorem bR.take {X Y:aA} (R:bR D w0 K0 M β F I (X++Y) w) {q:Option Addr×Nat} {blk:au} (hb:bK (fun w=>K0 w∧az w I) (β++[q]) M.length blk X):
  bR D w0 K0 (M++[blk]) (β++[q]) (aS F M.length X) I Y w where
 len:=by simp [R.len]
 blk:=by
  intro u bl hu
  rcases Nat.lt_or_ge u M.length with h | h
  ·rw [List.getElem?_append_left h] at hu
   have:aS F M.length X u=F u:=by simp [aS];omega
   rw [this];exact (R.blk u bl hu).mono (fun _ h=>h) (Ext.app _ _)
  ·rw [List.getElem?_append_right h] at hu
   have h0:u-M.length=0:=by
    rcases Nat.eq_zero_or_pos (u-M.length) with h0 | h0
    ·exact h0
    ·rw [List.getElem?_eq_none (by simp;omega)] at hu;simp at hu
   obtain rfl:u=M.length:=by omega
   simp at hu;subst hu
   simpa [aS] using hb
 st:=by
  rw [List.length_append,List.length_singleton,xP]
  exact R.st.perm (by classical rw [List.perm_iff_count];intro x;simp only [List.count_append];omega)
inductive gv (K:World→Prop):List DV→List Value→aA→Prop where
 | nil:gv K [] [] []
 | cons {c:DV} {y:Value} {l:List DV} {ys:List Value} {H G:aA} (h:bQ K c y H) (r:gv K l ys G):gv K (c::l) (y::ys) (H++G)
theorem uI {n:Nat} (F:Nat→aA):(List.range (n+1)).flatMap F=F 0++(List.range n).flatMap fun i=>F (i+1):=by
 rw [List.range_succ_eq_map,List.flatMap_cons,List.flatMap_map]
theorem gv.of {K:World→Prop}:∀ {l:List DV} {ys:List Value} {F:Nat→aA},ys.length=l.length→(∀ (j:Nat) c y,l[j]?=some c→ys[j]?=some y→bQ K c y (F j))→gv K l ys ((List.range l.length).flatMap F)
 | [],ys,F,hl,_=>by have:ys=[]:=List.eq_nil_of_length_eq_zero hl;subst this;exact .nil
 | c::l,[],F,hl,_=>by simp at hl
 | c::l,y::ys,F,hl,hr=>by
  rw [List.length_cons,uI]
  exact .cons (hr 0 c y rfl rfl) (gv.of (by simpa using hl) fun j c' y' h1 h2=>hr (j+1) c' y' (by simpa using h1) (by simpa using h2))
theorem gv.len {K:World→Prop} {l:List DV} {ys:List Value} {H:aA} (h:gv K l ys H):ys.length=l.length:=by
 induction h with
 | nil=>rfl
 | cons h r ih=>simp [ih]
def nH (M:List au):DV→AV×List au
 | .em T k rows=>(.sl M.length rows.length,M++[.rw T k rows])
 | x=>(.d x,M)
def jO (M:List au):List DV→List AV×List au
 | []=>([],M)
 | c::r=>((nH M c).1::(jO (nH M c).2 r).1,(jO (nH M c).2 r).2)
def nx:DV→Bool
 | .pb _ _=>false
 | .ag _=>false
 | .tu _=>false
 | _=>true
def oZ (M:List au):DV→AV×List au
 | .ag l=>bif l.all nx then (.ag (jO M l).1,(jO M l).2) else (.d .jk,M)
 | x=>nH M x
def jI (M:List au):List DV→List AV×List au
 | []=>([],M)
 | c::r=>((oZ M c).1::(jI (oZ M c).2 r).1,(jI (oZ M c).2 r).2)
def nX (M:List au):DV→AV×List au
 | .tu l=>(.tu (jI M l).1,(jI M l).2)
 | x=>oZ M x
def zJ (D:List Nat) (w0:World) (K0:World→Prop) (M:List au) (β:Beta) (F:Nat→aA) (I:aA) (w:World) (av:AV) (M':List au) (y:Value) (Y:aA):Prop:=
 ∃ aF F',bR D w0 K0 M' aF F' I Y w∧Ext β aF∧(∀ u,u<M.length→F' u=F u)∧M.length≤M'.length∧aE (fun w=>K0 w∧az w I) aF av y
theorem qc {x:DV} (hx:nx x=true) {y:Value} {H Y:aA} (R:bR D w0 K0 M β F I (H++Y) w) (h:bQ (fun w=>K0 w∧az w I) x y H):zJ D w0 K0 M β F I w (nH M x).1 (nH M x).2 y Y:=by
 cases h with
 | v x=>exact ⟨β,F,R,Ext.refl _,fun _ _=>rfl,Nat.le_refl _,.d (.v _)⟩
 | jk x=>exact ⟨β,F,R,Ext.refl _,fun _ _=>rfl,Nat.le_refl _,.d (.jk _)⟩
 | ro X hl hy hs hr=>exact ⟨β,F,R,Ext.refl _,fun _ _=>rfl,Nat.le_refl _,.d (.ro X hl hy hs hr)⟩
 | pb ys F hl hr=>simp [nx] at hx
 | ag ys F hl hr=>simp [nx] at hx
 | tu ys F hl hr=>simp [nx] at hx
 | em X G hl hs hr=>
  obtain ⟨a,c,rfl⟩:=hs.len
  have dY:(β++[(a,c)])[M.length]?=some (a,c):=by rw [← R.len];simp
  refine ⟨_,_,R.take (.rw dY X G hl hs hr),Ext.app _ _,fun u hu=>by simp [aS];omega,by simp [nH],.sl dY⟩
theorem NR:∀ {l:List DV} {M:List au} {β:Beta} {F:Nat→aA} {ys:List Value} {H Y:aA},l.all nx=true→bR D w0 K0 M β F I (H++Y) w→gv (fun w=>K0 w∧az w I) l ys H→
  ∃ aF F',bR D w0 K0 (jO M l).2 aF F' I Y w∧Ext β aF∧(∀ u,u<M.length→F' u=F u)∧M.length≤(jO M l).2.length∧ys.length=(jO M l).1.length∧∀ (j:Nat) c y,(jO M l).1[j]?=some c→ys[j]?=some y→aE (fun w=>K0 w∧az w I) aF c y:=by
 intro l
 induction l with
 | nil=>
  intro M β F ys H Y _ R h
  cases h
  exact ⟨β,F,R,Ext.refl _,fun _ _=>rfl,Nat.le_refl _,rfl,by simp [jO]⟩
 | cons x r ih=>
  intro M β F ys H Y hf R h
  simp only [List.all_cons,Bool.and_eq_true] at hf
  cases h with
  | cons h hr=>
   rw [List.append_assoc] at R
   obtain ⟨kI,F1,R1,e1,f1,l1,a1⟩:=qc hf.1 R h
   obtain ⟨iK,F2,R2,e2,f2,l2,n2,a2⟩:=ih hf.2 R1 hr
   refine ⟨iK,F2,R2,fun u x hx=>e2 u x (e1 u x hx),fun u hu=>(f2 u (by omega)).trans (f1 u hu),by simp only [jO];omega,by simp [jO,n2],?_⟩
   intro j c y hc hy
   cases j with
   | zero=>simp [jO] at hc hy;subst hc hy;exact a1.mono (fun _ h=>h) e2
   | succ j=>simp [jO] at hc hy;exact a2 j c y hc hy
def ny:DV→Bool
 | .pb _ _=>false
 | .ag l=>l.all nx
 | .tu _=>false
 | _=>true
theorem qd {x:DV} (hx:ny x=true) {y:Value} {H Y:aA} (R:bR D w0 K0 M β F I (H++Y) w) (h:bQ (fun w=>K0 w∧az w I) x y H):zJ D w0 K0 M β F I w (oZ M x).1 (oZ M x).2 y Y:=by
 cases x with
 | ag l=>
  cases h with
  | ag ys G hl hr=>
   have jU:l.all nx=true:=hx
   obtain ⟨iK,F2,R2,e2,f2,l2,n2,a2⟩:=NR jU R (gv.of hl hr)
   simp only [oZ,jU,cond_true]
   exact ⟨iK,F2,R2,e2,f2,l2,.ag ys n2 a2⟩
 | tu l=>simp [ny] at hx
 | v x=>exact qc rfl R h
 | jk=>exact qc rfl R h
 | ro k rows=>exact qc rfl R h
 | em T k rows=>exact qc rfl R h
 | pb T l=>simp [ny] at hx
theorem L6:∀ {l:List DV} {M:List au} {β:Beta} {F:Nat→aA} {ys:List Value} {H Y:aA},l.all ny=true→bR D w0 K0 M β F I (H++Y) w→gv (fun w=>K0 w∧az w I) l ys H→
  ∃ aF F',bR D w0 K0 (jI M l).2 aF F' I Y w∧Ext β aF∧(∀ u,u<M.length→F' u=F u)∧M.length≤(jI M l).2.length∧ys.length=(jI M l).1.length∧∀ (j:Nat) c y,(jI M l).1[j]?=some c→ys[j]?=some y→aE (fun w=>K0 w∧az w I) aF c y:=by
 intro l
 induction l with
 | nil=>
  intro M β F ys H Y _ R h
  cases h
  exact ⟨β,F,R,Ext.refl _,fun _ _=>rfl,Nat.le_refl _,rfl,by simp [jI]⟩
 | cons x r ih=>
  intro M β F ys H Y hf R h
  simp only [List.all_cons,Bool.and_eq_true] at hf
  cases h with
  | cons h hr=>
   rw [List.append_assoc] at R
   obtain ⟨kI,F1,R1,e1,f1,l1,a1⟩:=qd hf.1 R h
   obtain ⟨iK,F2,R2,e2,f2,l2,n2,a2⟩:=ih hf.2 R1 hr
   refine ⟨iK,F2,R2,fun u x hx=>e2 u x (e1 u x hx),fun u hu=>(f2 u (by omega)).trans (f1 u hu),by simp only [jI];omega,by simp [jI,n2],?_⟩
   intro j c y hc hy
   cases j with
   | zero=>simp [jI] at hc hy;subst hc hy;exact a1.mono (fun _ h=>h) e2
   | succ j=>simp [jI] at hc hy;exact a2 j c y hc hy
def my:DV→Bool
 | .tu l=>l.all ny
 | x=>ny x
theorem zK {x:DV} (hx:my x=true) {y:Value} {H Y:aA} (R:bR D w0 K0 M β F I (H++Y) w) (h:bQ (fun w=>K0 w∧az w I) x y H):zJ D w0 K0 M β F I w (nX M x).1 (nX M x).2 y Y:=by
 cases x with
 | tu l=>
  cases h with
  | tu ys G hl hr=>
   have jU:l.all ny=true:=hx
   obtain ⟨iK,F2,R2,e2,f2,l2,n2,a2⟩:=L6 jU R (gv.of hl hr)
   exact ⟨iK,F2,R2,e2,f2,l2,.tu ys n2 a2⟩
 | ag l=>exact qd (x:=.ag l) hx R h
 | v x=>exact qd rfl R h
 | jk=>exact qd rfl R h
 | ro k rows=>exact qd rfl R h
 | em T k rows=>exact qd rfl R h
 | pb T l=>simp [my,ny] at hx
end Go.Proofs.YtlinpknagdgphaaGreat
namespace Go.Proofs.YtlinpknagdgphaaGreat
open Go.RowKit
def aD (P:Program) (f:FuncId) (args:List AV) (x:DV):Prop:=
 fR P f=true∧∀ (w:World) (K:World→Prop) (ys:List Value),(∀ w',Gr w w'→K w')→ys.length=args.length→(∀ (j:Nat) c y,args[j]?=some c→ys[j]?=some y→aE K [] c y)→
  Calls P f ys.toArray w (Hm w fun r H=>∃ Ho Hi,H=Ho++Hi∧bQ (fun w=>K w∧az w Hi) x r Ho)
def dh (x:DV):Prop:=∀ (K K':World→Prop) (y:Value) (H:aA),bQ K x y H→bQ K' x y H
mutual
def cT:DV→DV
 | .v x=>.v x
 | .jk=>.jk
 | .ro k rows=>.ro k rows
 | .em _ k rows=>.ro k (cg rows)
 | .ag l=>.ag (qK l)
 | .tu l=>.tu (qK l)
 | .pb _ _=>.jk
def qK:List DV→List DV
 | []=>[]
 | c::r=>cT c::qK r
def cg:List (List DV)→List (List DV)
 | []=>[]
 | l::r=>qK l::cg r
end
theorem xQ (l:List DV):qK l=l.map cT:=by induction l with | nil=>rfl | cons c r ih=>rw [qK,ih];rfl
theorem jz (l:List (List DV)):cg l=l.map fun r=>r.map cT:=by induction l with | nil=>rfl | cons c r ih=>rw [cg,ih,xQ];rfl
theorem eD.src {T size n:Nat} {v:Value} {xs:List Value} {H:aA} (h:eD T size v n xs H) {w:World} (hw:az w H):Src w size v n xs:=by
 refine ⟨h.1,?_⟩
 rcases h.2 with ⟨rfl,rfl,a,rfl⟩ | ⟨b,cap,cs,fz,rfl,rfl,fL,cX,hle,ht⟩
 ·exact Or.inl ⟨rfl,a,0,rfl⟩
 ·refine Or.inr ⟨_,cap,rfl,fun j hj=>?_⟩
  rw [add_eq,Nat.zero_add,cell_of hw.one]
  have:(cs.toList.take (n*size))[j]?=some xs[j]:=by rw [ht];simp [hj]
  rw [List.getElem?_take] at this
  split at this
  ·simpa using this
  ·simp at this
theorem eD.Pe {T:TypeId} {size:Nat} {v:Value} {n:Nat} {xs:List Value} {H:aA} (h:eD T size v n xs H):∃ a c,v=.slice a n c∧n≤c:=by
 rcases h.2 with ⟨rfl,_,a,rfl⟩ | ⟨b,cap,cs,fz,rfl,_,_,_,hc,_⟩
 ·exact ⟨a,0,rfl,Nat.le_refl _⟩
 ·exact ⟨_,_,rfl,hc⟩
theorem oH {K K':World→Prop} {c:DV} {x:Value} {H:aA} (h:bQ K c x H):(∀ w,K' w→K w∧az w H)→bQ K' (cT c) x []:=by
 have wE:∀ {n:Nat} {G:Nat→aA} {w:World},az w ((List.range n).flatMap G)→∀ j,j<n→az w (G j):=by
  intro n G w hw j hj x hx
  exact hw x (List.mem_flatMap.2 ⟨j,List.mem_range.2 hj,hx⟩)
 have wk:∀ n:Nat,(List.range n).flatMap (fun _=>([]:aA))=[]:=by intro n;simp
 induction h with
 | v x=>intro _;rw [cT];exact .v x
 | jk x=>intro _;rw [cT];exact .jk x
 | pb ys F hl hr ih=>intro _;rw [cT];exact .jk _
 | ro X hl hy hs hr ih=>intro hk;rw [cT];exact .ro X hl hy (fun w hw=>hs w (hk w hw).1) fun i r j c x h1 h2 h3=>(hr i r j c x h1 h2 h3).mono fun w hw=>(hk w hw).1
 | em X F hl hs hr ih=>
  intro hk
  rename_i T k rows y H0
  rw [cT,jz]
  obtain ⟨a,cp,hy,js⟩:∃ a cp,y=.slice a rows.length cp∧rows.length≤cp:=hs.Pe
  refine .ro X (fun i r hi=>?_) ⟨a,cp,by rw [List.length_map];exact ⟨hy,js⟩⟩ (fun w hw=>?_) fun i r j c x h1 h2 h3=>?_
  ·rw [List.getElem?_map,Option.map_eq_some_iff] at hi
   obtain ⟨r',h1,rfl⟩:=hi
   rw [List.length_map];exact hl i r' h1
  ·rw [List.length_map];exact hs.src (az.app.1 (hk w hw).2).1
  ·rw [List.getElem?_map,Option.map_eq_some_iff] at h1
   obtain ⟨r',h1,rfl⟩:=h1
   rw [List.getElem?_map,Option.map_eq_some_iff] at h2
   obtain ⟨c',h2,rfl⟩:=h2
   refine ih i r' j c' x h1 h2 h3 fun w hw=>⟨(hk w hw).1,?_⟩
   have:=(az.app.1 (hk w hw).2).2
   obtain ⟨hi,-⟩:=List.getElem?_eq_some_iff.1 h1
   obtain ⟨hj,-⟩:=List.getElem?_eq_some_iff.1 h2
   have h4:=wE this i hi
   exact wE h4 j (by have:=(hl i r' h1).1;omega)
 | ag ys F hl hr ih=>
  intro hk
  rename_i l
  rw [cT,xQ]
  have:=bQ.ag (K:=K') (l:=l.map cT) ys (fun _=>[]) (by rw [List.length_map];exact hl) (fun j c y h1 h2=>by
   rw [List.getElem?_map,Option.map_eq_some_iff] at h1
   obtain ⟨c',h1,rfl⟩:=h1
   obtain ⟨hj,-⟩:=List.getElem?_eq_some_iff.1 h1
   exact ih j c' y h1 h2 fun w hw=>⟨(hk w hw).1,wE (hk w hw).2 j hj⟩)
  rwa [wk] at this
 | tu ys F hl hr ih=>
  intro hk
  rename_i l
  rw [cT,xQ]
  have:=bQ.tu (K:=K') (l:=l.map cT) ys (fun _=>[]) (by rw [List.length_map];exact hl) (fun j c y h1 h2=>by
   rw [List.getElem?_map,Option.map_eq_some_iff] at h1
   obtain ⟨c',h1,rfl⟩:=h1
   obtain ⟨hj,-⟩:=List.getElem?_eq_some_iff.1 h1
   exact ih j c' y h1 h2 fun w hw=>⟨(hk w hw).1,wE (hk w hw).2 j hj⟩)
  rwa [wk] at this
variable {P:Program} {T:aW} {D:List Nat} {w0:World} {K0:World→Prop} {E:List (Nat×AV)} {M:List au} {β:Beta} {F:Nat→aA} {I:aA} {ρ:Operand→Value} {w:World}
variable {d:Option Tmp} {ty:TypeId} {pos:String} {aft:Array Edge} {gd:Option (Nat×Bool)} {oc:Option bj} {out:Out}
def sK (M:List au):AV→AV→Option (List Prop×List Nat)
 | .d x,.d x'=>some ([x=x'],[])
 | .sl u n,.d (.ro k' rows')=>(match M[u]? with | some (.rw _ k rows)=>some ([k=k',n=rows.length,cg rows=rows'],[u]) | _=>none)
 | .pt u o,.rp row o'=>(match M[u]? with | some (.bx _ cells)=>some ([o=o',cells=row.map .d],[u]) | _=>none)
 | _,_=>none
def nz (M:List au):List AV→List AV→Option (List Prop×List Nat)
 | [],[]=>some ([],[])
 | c::r,c'::r'=>(match sK M c c',nz M r r' with | some (v,b),some (v',b')=>some (v++v',b++b') | _,_=>none)
 | _,_=>none
def AA (M:List au):AV→AV→Option (List Prop×List Nat)
 | .ag l,.ag l'=>nz M l l'
 | .ag l,.d (.ag l')=>nz M l (l'.map .d)
 | .fn f l,.fn f' l'=>(match nz M l l' with | some (v,b)=>some ((f=f')::v,b) | none=>none)
 | c,c'=>sK M c c'
def oQ (M:List au):List AV→List AV→Option (List Prop×List Nat)
 | [],[]=>some ([],[])
 | c::r,c'::r'=>(match AA M c c',oQ M r r' with | some (v,b),some (v',b')=>some (v++v',b++b') | _,_=>none)
 | _,_=>none
theorem bw.app {a b:List Prop}:bw (a++b)↔bw a∧bw b:=by
 induction a with
 | nil=>simp [bw]
 | cons p r ih=>simp only [List.cons_append,bw,ih,and_assoc]
theorem u9 (R:RM D w0 K0 M β F I w) {K':World→Prop} {c c':AV} {vc:List Prop} {b:List Nat} (h:sK M c c'=some (vc,b)) (hv:bw vc) (hK:∀ w,K' w→gZ K0 I F b w) {y:Value} (r:aE (fun w=>K0 w∧az w I) β c y):aE K' [] c' y:=by
 unfold sK at h
 split at h
 ·simp only [Option.some.injEq,Prod.mk.injEq] at h;obtain ⟨rfl,rfl⟩:=h
  obtain ⟨rfl,-⟩:=hv
  cases r with | d r=>exact .d (r.mono fun w hw=>(hK w hw).1)
 ·rename_i u n k' rows'
  split at h
  ·rename_i Tt k rows hM
   simp only [Option.some.injEq,Prod.mk.injEq] at h;obtain ⟨rfl,rfl⟩:=h
   obtain ⟨rfl,rfl,rfl,-⟩:=hv
   cases r with
   | sl hb=>
    obtain ⟨H,hF,hB,-⟩:=R.at hM
    cases hB with
    | rw aV X G hl hs hr=>
     rw [hb] at aV;cases aV
     have:=oH (K':=K') (bQ.em X G hl hs hr) fun w hw=>⟨(hK w hw).1,by have:=(hK w hw).2 u (by simp);rw [hF] at this;exact this⟩
     rw [cT] at this
     exact .d this
  ·simp at h
 ·rename_i u o row o'
  split at h
  ·rename_i Tt cells hM
   simp only [Option.some.injEq,Prod.mk.injEq] at h;obtain ⟨rfl,rfl⟩:=h
   obtain ⟨rfl,rfl,-⟩:=hv
   cases r with
   | pt hb=>
    obtain ⟨H,hF,hB,-⟩:=R.at hM
    cases hB with
    | bx aV ys hl hr=>
     rw [hb] at aV;cases aV
     have ha:∀ (b:Nat),(⟨b,o,none⟩:Addr)=(⟨b,0,none⟩:Addr).add o:=fun b=>by rw [add_eq,Nat.zero_add]
     rw [ha]
     refine .rp _ ys (by rw [hl,List.length_map]) (fun w' eb j x hj=>?_) fun j c x h1 h2=>?_
     ·have:=(hK w' eb).2 u (by simp)
      rw [hF] at this
      rw [add_eq,Nat.zero_add,cell_of this.one];simpa using hj
     ·have:=hr j (.d c) x (by rw [List.getElem?_map,h1];rfl) h2
      cases this with | d h=>exact h.mono fun w hw=>(hK w hw).1
  ·simp at h
 ·simp at h
theorem va (R:RM D w0 K0 M β F I w) {K':World→Prop}:∀ {l l':List AV} {vc:List Prop} {b:List Nat},nz M l l'=some (vc,b)→bw vc→(∀ w,K' w→gZ K0 I F b w)→∀ {ys:List Value},ys.length=l.length→(∀ (j:Nat) c y,l[j]?=some c→ys[j]?=some y→aE (fun w=>K0 w∧az w I) β c y)→
  ys.length=l'.length∧∀ (j:Nat) c y,l'[j]?=some c→ys[j]?=some y→aE K' [] c y
 | [],[],vc,b,h,_,_,ys,hl,_=>by simp at hl;subst hl;simp
 | [],_::_,_,_,h,_,_,_,_,_=>by simp [nz] at h
 | _::_,[],_,_,h,_,_,_,_,_=>by simp [nz] at h
 | c::r,c'::r',vc,b,h,hv,hK,ys,hl,hr=>by
  unfold nz at h
  split at h
  ·rename_i v b1 v' b' h1 h2
   simp only [Option.some.injEq,Prod.mk.injEq] at h;obtain ⟨rfl,rfl⟩:=h
   rw [bw.app] at hv
   cases ys with
   | nil=>simp at hl
   | cons y ys=>
    obtain ⟨e1,e2⟩:=va R h2 hv.2 (fun w hw=>⟨(hK w hw).1,fun u hu=>(hK w hw).2 u (List.mem_append_right _ hu)⟩) (ys:=ys) (by simpa using hl) (fun j c y h3 h4=>hr (j+1) c y (by simpa using h3) (by simpa using h4))
    refine ⟨by simp [e1],?_⟩
    intro j a z h3 h4
    cases j with
    | zero=>simp at h3 h4;subst h3 h4;exact u9 R h1 hv.1 (fun w hw=>⟨(hK w hw).1,fun u hu=>(hK w hw).2 u (List.mem_append_left _ hu)⟩) (hr 0 _ _ rfl rfl)
    | succ j=>simp at h3 h4;exact e2 j a z h3 h4
  ·simp at h
theorem L7 (R:RM D w0 K0 M β F I w) {K':World→Prop} {c c':AV} {vc:List Prop} {b:List Nat} (h:AA M c c'=some (vc,b)) (hv:bw vc) (hK:∀ w,K' w→gZ K0 I F b w) {y:Value} (r:aE (fun w=>K0 w∧az w I) β c y):aE K' [] c' y:=by
 unfold AA at h
 split at h
 ·cases r with
  | ag ys hl hr=>
   obtain ⟨e1,e2⟩:=va R h hv hK hl hr
   exact .ag ys e1 e2
 ·rename_i l l'
  cases r with
  | ag ys hl hr=>
   obtain ⟨e1,e2⟩:=va R h hv hK hl hr
   have:=bQ.ag (K:=K') (l:=l') ys (fun _=>[]) (by rw [e1,List.length_map]) (fun j c y h1 h2=>by
    have:=e2 j (.d c) y (by rw [List.getElem?_map,h1];rfl) h2
    cases this with | d h=>exact h)
   have wk:∀ n:Nat,(List.range n).flatMap (fun _=>([]:aA))=[]:=by intro n;simp
   rw [wk] at this
   exact .d this
 ·rename_i f l f' l'
  split at h
  ·rename_i v b1 h1
   simp only [Option.some.injEq,Prod.mk.injEq] at h;obtain ⟨rfl,rfl⟩:=h
   obtain ⟨rfl,hv⟩:=hv
   cases r with
   | fn ys hl hr=>
    obtain ⟨e1,e2⟩:=va R h1 hv hK hl hr
    exact .fn ys e1 e2
  ·simp at h
 ·exact u9 R h hv hK r
theorem xR (R:RM D w0 K0 M β F I w) {K':World→Prop}:∀ {l l':List AV} {vc:List Prop} {b:List Nat},oQ M l l'=some (vc,b)→bw vc→(∀ w,K' w→gZ K0 I F b w)→∀ {ys:List Value},ys.length=l.length→(∀ (j:Nat) c y,l[j]?=some c→ys[j]?=some y→aE (fun w=>K0 w∧az w I) β c y)→
  ys.length=l'.length∧∀ (j:Nat) c y,l'[j]?=some c→ys[j]?=some y→aE K' [] c y
 | [],[],vc,b,h,_,_,ys,hl,_=>by simp at hl;subst hl;simp
 | [],_::_,_,_,h,_,_,_,_,_=>by simp [oQ] at h
 | _::_,[],_,_,h,_,_,_,_,_=>by simp [oQ] at h
 | c::r,c'::r',vc,b,h,hv,hK,ys,hl,hr=>by
  unfold oQ at h
  split at h
  ·rename_i v b1 v' b' h1 h2
   simp only [Option.some.injEq,Prod.mk.injEq] at h;obtain ⟨rfl,rfl⟩:=h
   rw [bw.app] at hv
   cases ys with
   | nil=>simp at hl
   | cons y ys=>
    obtain ⟨e1,e2⟩:=xR R h2 hv.2 (fun w hw=>⟨(hK w hw).1,fun u hu=>(hK w hw).2 u (List.mem_append_right _ hu)⟩) (ys:=ys) (by simpa using hl) (fun j c y h3 h4=>hr (j+1) c y (by simpa using h3) (by simpa using h4))
    refine ⟨by simp [e1],?_⟩
    intro j a z h3 h4
    cases j with
    | zero=>simp at h3 h4;subst h3 h4;exact L7 R h1 hv.1 (fun w hw=>⟨(hK w hw).1,fun u hu=>(hK w hw).2 u (List.mem_append_left _ hu)⟩) (hr 0 _ _ rfl rfl)
    | succ j=>simp at h3 h4;exact e2 j a z h3 h4
  ·simp at h
def mz (M:List au):List Nat→Bool
 | []=>true
 | u::r=>(Nat.ble (u+1) M.length)&&mz M r
theorem vb:∀ {b:List Nat},mz M b=true→∀ u ∈ b,u<M.length
 | [],_,u,hu=>by simp at hu
 | v::r,h,u,hu=>by
  simp only [mz,Bool.and_eq_true] at h
  rcases List.mem_cons.1 hu with e | e
  ·subst e;exact Nat.le_of_ble_eq_true h.1
  ·exact vb h.2 u e
def Rw (x:DV):List Nat→List Prop
 | []=>[]
 | _::_=>[dh x]
def AB (P:Program) (E:List (Nat×AV)) (M:List au) (oc:Option bj) (g:Operand) (args:Array Operand):Option Out:=
 match aO E g,jN E args.toList,oc with
 | some (.fn f bZ),some l,some (.call told x)=>(match oQ M (l++bZ) told with
  | some (vc,b)=>bif my x&&mz M b then some ⟨aD P f told x::(Rw x b++vc),(nX M x).1,(nX M x).2,[],[],none⟩ else none
  | none=>none)
 | _,_,_=>none
theorem aD.now {f:FuncId} {args:List AV} {x:DV} (h:aD P f args x) (R:RM D w0 K0 M β F I w) (hk:∀ w,Kp D w0 w→K0 w) {b:List Nat} (hb:∀ u ∈ b,u<M.length) {ys:List Value} (hl:ys.length=args.length)
  (hr:∀ (j:Nat) c y,args[j]?=some c→ys[j]?=some y→aE (gZ K0 I F b) [] c y) (hi:b≠[]→dh x):
  Calls P f ys.toArray w fun e w'=>∃ v,e=.returned v∧∃ I' X,bR D w0 K0 M β F I' X w'∧bL I I'∧bQ (fun w=>K0 w∧az w I') x v X:=by
 have Rx:∀ w',Gr w w'→gZ K0 I F b w':=fun w' g=>⟨⟨hk _ (R.st.kp.gr g),(az.app.1 (R.st.gr g).holds).2⟩,fun u hu=>(RM.jE ⟨R.len,R.blk,R.st.gr g⟩ (List.getElem?_eq_getElem (hb u hu)))⟩
 refine (h.2 w (gZ K0 I F b) ys Rx hl hr).mono ?_
 rintro e w' ⟨v,rfl,g,H,⟨Ho,Hi,rfl,hd⟩,n⟩
 have bM:=R.st.new g n
 refine ⟨v,rfl,Hi++I,Ho,⟨R.len,fun u bl hu=>(R.blk u bl hu).mono (fun w hw=>⟨hw.1,(az.app.1 hw.2).2⟩) (Ext.refl _),?_⟩,⟨Hi,rfl⟩,?_⟩
 ·exact bM.perm (by classical rw [List.perm_iff_count];intro z;simp only [List.count_append];omega)
 ·by_cases Ic:b=[]
  ·subst Ic
   exact hd.mono fun w hw=>⟨⟨⟨hw.1,(az.app.1 hw.2).2⟩,by simp⟩,(az.app.1 hw.2).1⟩
  ·exact hi Ic _ _ _ _ hd
theorem L8 {g:Operand} {args:Array Operand} {ey:Array TypeId} (h:AB P E M oc g args=some out):aP P ⟨d,.call ⟨.value g,args,ey⟩,ty,pos,aft,gd⟩ E M out:=by
 unfold AB at h
 split at h
 ·rename_i f bZ l told x hg hl
  split at h
  ·rename_i vc b AD
   cases fG:(my x&&mz M b) with
   | false=>simp [fG] at h
   | true=>
    simp only [fG,cond_true,Option.some.injEq] at h;subst h
    simp only [Bool.and_eq_true] at fG
    have hb:=vb fG.2
    intro D w0 K0 β F I ρ w C hv
    obtain ⟨dZ,hv⟩:=hv
    rw [bw.app] at hv
    obtain ⟨Ry,hv⟩:=hv
    obtain ⟨y,hy,r⟩:=C.bS hg
    cases r with
    | fn cs cG fO=>
     obtain ⟨dT,iU⟩:=C.k5 hl
     have du:(args.toList.map ρ++cs).length=(l++bZ).length:=by rw [List.length_append,List.length_append,dT,cG]
     have kS:∀ (j:Nat) c y,(l++bZ)[j]?=some c→(args.toList.map ρ++cs)[j]?=some y→aE (fun w=>K0 w∧az w I) β c y:=by
      intro j c y h1 h2
      rcases Nat.lt_or_ge j l.length with hj | hj
      ·rw [List.getElem?_append_left hj] at h1
       rw [List.getElem?_append_left (by omega)] at h2
       exact iU j c y h1 h2
      ·rw [List.getElem?_append_right hj] at h1
       rw [List.getElem?_append_right (by omega),dT] at h2
       exact fO _ c y h1 h2
     obtain ⟨e1,e2⟩:=xR C.rm (K':=gZ K0 I F b) AD hv (fun _ h=>h) du kS
     have hm:args.map ρ=(args.toList.map ρ).toArray:=by rw [← Array.toList_map]
     refine pR hy dZ.1 hm ?_
     have jP:((args.toList.map ρ).toArray++cs.toArray:Array Value)=(args.toList.map ρ++cs).toArray:=by simp
     rw [jP]
     refine (dZ.now C.rm C.k hb e1 e2 (fun hn=>by cases b with | nil=>exact absurd rfl hn | cons u r=>exact Ry.1)).mono ?_
     rintro e w' ⟨v,rfl,I',X,R,hI,hd⟩
     refine ⟨v,rfl,?_⟩
     have R':bR D w0 K0 M β F I' (X++[]) w':=by rw [List.append_nil];exact R
     obtain ⟨aF,F',R2,e,f2,-,a2⟩:=zK fG.1 R' hd
     exact ⟨aF,F',I',R2.nil rfl,e.b _,hI,fun u hu _=>f2 u hu,a2⟩
  ·simp at h
 ·simp at h
def rr:AV→Bool
 | .d _=>true
 | .rp _ _=>true
 | _=>false
def ru:AV→Bool
 | .ag l=>l.all rr
 | .fn _ l=>l.all rr
 | c=>rr c
theorem Ga {K:World→Prop} {c:AV} (h:rr c=true) {y:Value} (r:aE K β c y):aE K [] c y:=by
 cases r with
 | d r=>exact .d r
 | rp a X hl hc hr=>exact .rp a X hl hc hr
 | _=>simp [rr] at h
theorem Gb {K:World→Prop} {c:AV} (h:ru c=true) {y:Value} (r:aE K β c y):aE K [] c y:=by
 cases r with
 | d r=>exact .d r
 | rp a X hl hc hr=>exact .rp a X hl hc hr
 | ag ys hl hr=>exact .ag ys hl fun j c y h1 h2=>Ga (List.all_eq_true.1 h c (List.mem_of_getElem? h1)) (hr j c y h1 h2)
 | fn ys hl hr=>exact .fn ys hl fun j c y h1 h2=>Ga (List.all_eq_true.1 h c (List.mem_of_getElem? h1)) (hr j c y h1 h2)
 | _=>simp [ru,rr] at h
def qS (P:Program) (E:List (Nat×AV)) (M:List au) (oc:Option bj) (g:Operand) (args:Array Operand):Option Out:=
 match aO E g,jN E args.toList,oc with
 | some (.fn f bZ),some l,some (.aJ x)=>bif my x&&(l++bZ).all ru then some ⟨[aD P f (l++bZ) x],(nX M x).1,(nX M x).2,[],[],none⟩ else none
 | _,_,_=>none
theorem Fa {g:Operand} {args:Array Operand} {ey:Array TypeId} (h:qS P E M oc g args=some out):aP P ⟨d,.call ⟨.value g,args,ey⟩,ty,pos,aft,gd⟩ E M out:=by
 unfold qS at h
 split at h
 ·rename_i f bZ l x hg hl
  cases fG:(my x&&(l++bZ).all ru) with
  | false=>simp only [fG,cond_false,reduceCtorEq] at h
  | true=>
   simp only [fG,cond_true,Option.some.injEq] at h;subst h
   simp only [Bool.and_eq_true] at fG
   intro D w0 K0 β F I ρ w C hv
   obtain ⟨dZ,-⟩:=hv
   obtain ⟨y,hy,r⟩:=C.bS hg
   cases r with
   | fn cs cG fO=>
    obtain ⟨dT,iU⟩:=C.k5 hl
    have du:(args.toList.map ρ++cs).length=(l++bZ).length:=by rw [List.length_append,List.length_append,dT,cG]
    have kS:∀ (j:Nat) c y,(l++bZ)[j]?=some c→(args.toList.map ρ++cs)[j]?=some y→aE (fun w=>K0 w∧az w I) β c y:=by
     intro j c y h1 h2
     rcases Nat.lt_or_ge j l.length with hj | hj
     ·rw [List.getElem?_append_left hj] at h1
      rw [List.getElem?_append_left (by omega)] at h2
      exact iU j c y h1 h2
     ·rw [List.getElem?_append_right hj] at h1
      rw [List.getElem?_append_right (by omega),dT] at h2
      exact fO _ c y h1 h2
    have hm:args.map ρ=(args.toList.map ρ).toArray:=by rw [← Array.toList_map]
    refine pR hy dZ.1 hm ?_
    have jP:((args.toList.map ρ).toArray++cs.toArray:Array Value)=(args.toList.map ρ++cs).toArray:=by simp
    rw [jP]
    refine (dZ.now C.rm C.k (b:=[]) (by simp) du (fun j c y h1 h2=>(Gb (List.all_eq_true.1 fG.2 c (List.mem_of_getElem? h1)) (kS j c y h1 h2)).mono (fun w hw=>hw.1) (Ext.refl _)) (fun hn=>absurd rfl hn)).mono ?_
    rintro e w' ⟨v,rfl,I',X,R,hI,hd⟩
    refine ⟨v,rfl,?_⟩
    have R':bR D w0 K0 M β F I' (X++[]) w':=by rw [List.append_nil];exact R
    obtain ⟨aF,F',R2,e,f2,-,a2⟩:=zK fG.1 R' hd
    exact ⟨aF,F',I',R2.nil rfl,e.b _,hI,fun u hu _=>f2 u hu,a2⟩
 ·simp at h
end Go.Proofs.YtlinpknagdgphaaGreat
namespace Go.Proofs.YtlinpknagdgphaaGreat
open Go.RowKit
variable {P:Program} {T:aW} {w:World} {D:List Nat} {w0:World} {K0:World→Prop} {M:List au} {β:Beta} {F:Nat→aA} {I X:aA}
theorem range_split {n u:Nat} (h:u<n) (f:Nat→aA):(List.range n).flatMap f=(List.range u).flatMap f++(f u++(List.range' (u+1) (n-(u+1))).flatMap f):=by
 have hr:List.range n=List.range u++u::List.range' (u+1) (n-(u+1)):=by
  rw [List.range_eq_range',List.range_eq_range']
  have h1:n=u+(1+(n-(u+1))):=by omega
  conv=>lhs;rw [h1]
  rw [← List.range'_append_1,← List.range'_append_1]
  simp
 rw [hr];simp [List.flatMap_append]
theorem eL {l:List Nat} {f g:Nat→aA} (h:∀ a ∈ l,f a=g a):l.flatMap f=l.flatMap g:=by
 rw [List.flatMap_def,List.flatMap_def];congr 1;exact List.map_congr_left h
theorem bR.ea (R:bR D w0 K0 M β F I X w) {u:Nat} {blk:au} (hu:M[u]?=some blk):bR D w0 K0 (M.set u .dead) β (aS F u []) I (X++F u) w where
 len:=by rw [List.length_set];exact R.len
 blk:=by
  intro v bl hv
  rw [List.getElem?_set] at hv
  by_cases e:u=v
  ·subst e
   obtain ⟨aK,-⟩:=List.getElem?_eq_some_iff.1 hu
   simp only [aK,if_pos,Option.some.injEq] at hv;subst hv
   simpa [aS] using bK.dead u
  ·rw [if_neg e] at hv
   have:aS F u [] v=F v:=by simp only [aS];rw [if_neg (fun h=>e h.symm)]
   rw [this];exact R.blk v bl hv
 st:=by
  obtain ⟨aK,-⟩:=List.getElem?_eq_some_iff.1 hu
  have hs:=R.st
  rw [List.length_set,range_split aK]
  rw [range_split aK] at hs
  have c1:(List.range u).flatMap (aS F u [])=(List.range u).flatMap F:=eL fun a ha=>by have:=List.mem_range.1 ha;simp [aS];omega
  have c2:(List.range' (u+1) (M.length-(u+1))).flatMap (aS F u [])=(List.range' (u+1) (M.length-(u+1))).flatMap F:=eL fun a ha=>by have:=(List.mem_range'_1.1 ha).1;simp [aS];omega
  have fM:aS F u [] u=[]:=by simp [aS]
  rw [c1,c2,fM]
  exact hs.perm (by classical rw [List.perm_iff_count];intro z;simp only [List.count_append,List.count_nil];omega)
def qL (M:List au):AV→Option (List Prop×DV×List au)
 | .d x=>some ([],x,M)
 | .sl u n=>(match M[u]? with | some (.rw T k rows)=>some ([n=rows.length],.em T k rows,M.set u .dead) | _=>none)
 | _=>none
def lN (M:List au):List AV→Option (List Prop×List DV×List au)
 | []=>some ([],[],M)
 | c::r=>(match qL M c with
  | some (v,x,M')=>(match lN M' r with | some (v',l,B8)=>some (v++v',x::l,B8) | none=>none)
  | none=>none)
def AE (M:List au):AV→Option (List Prop×DV×List au)
 | .ag l=>(match lN M l with | some (v,l',M')=>some (v,.ag l',M') | none=>none)
 | c=>qL M c
def mh (M:List au):List AV→Option (List Prop×List DV×List au)
 | []=>some ([],[],M)
 | c::r=>(match AE M c with
  | some (v,x,M')=>(match mh M' r with | some (v',l,B8)=>some (v++v',x::l,B8) | none=>none)
  | none=>none)
def GP (D:List Nat) (w0:World) (K0:World→Prop) (β:Beta) (I X:aA) (w:World) (y:Value) (x:DV) (M':List au):Prop:=
 ∃ F' H,bR D w0 K0 M' β F' I (X++H) w∧bQ (fun w=>K0 w∧az w I) x y H
theorem Eo (R:bR D w0 K0 M β F I X w) {c:AV} {vc:List Prop} {x:DV} {M':List au} (h:qL M c=some (vc,x,M')) (hv:bw vc) {y:Value} (r:aE (fun w=>K0 w∧az w I) β c y):GP D w0 K0 β I X w y x M':=by
 unfold qL at h
 split at h
 ·simp only [Option.some.injEq,Prod.mk.injEq] at h;obtain ⟨rfl,rfl,rfl⟩:=h
  cases r with | d r=>exact ⟨F,[],by rw [List.append_nil];exact R,r⟩
 ·rename_i u n
  split at h
  ·rename_i Tt k rows hM
   simp only [Option.some.injEq,Prod.mk.injEq] at h;obtain ⟨rfl,rfl,rfl⟩:=h
   obtain ⟨rfl,-⟩:=hv
   cases r with
   | sl hb=>
    have R':=R.ea hM
    have hB:=R.blk u _ hM
    refine ⟨_,F u,R',?_⟩
    generalize F u=G0 at hB ⊢
    cases hB with
    | rw aV X G hl hs hr=>rw [hb] at aV;cases aV;exact .em X G hl hs hr
  ·simp at h
 ·simp at h
theorem Ep:∀ {l:List AV} {M:List au} {F:Nat→aA} {X:aA} {vc:List Prop} {xs:List DV} {M':List au},bR D w0 K0 M β F I X w→lN M l=some (vc,xs,M')→bw vc→∀ {ys:List Value},ys.length=l.length→(∀ (j:Nat) c y,l[j]?=some c→ys[j]?=some y→aE (fun w=>K0 w∧az w I) β c y)→
  ∃ F' H,bR D w0 K0 M' β F' I (X++H) w∧gv (fun w=>K0 w∧az w I) xs ys H
 | [],M,F,X,vc,xs,M',R,h,_,ys,hl,_=>by
  simp only [lN,Option.some.injEq,Prod.mk.injEq] at h;obtain ⟨rfl,rfl,rfl⟩:=h
  have:ys=[]:=List.eq_nil_of_length_eq_zero hl
  subst this
  exact ⟨F,[],by rw [List.append_nil];exact R,.nil⟩
 | c::r,M,F,X,vc,xs,M',R,h,hv,ys,hl,hr=>by
  unfold lN at h
  split at h
  ·rename_i v x M1 h1
   split at h
   ·rename_i v' l' M2 h2
    simp only [Option.some.injEq,Prod.mk.injEq] at h;obtain ⟨rfl,rfl,rfl⟩:=h
    rw [bw.app] at hv
    cases ys with
    | nil=>simp at hl
    | cons y ys=>
     obtain ⟨F1,H1,R1,d1⟩:=Eo R h1 hv.1 (hr 0 c y rfl rfl)
     obtain ⟨F2,H2,R2,d2⟩:=Ep R1 h2 hv.2 (ys:=ys) (by simpa using hl) (fun j c' y' e1 e2=>hr (j+1) c' y' (by simpa using e1) (by simpa using e2))
     exact ⟨F2,H1++H2,by rw [← List.append_assoc];exact R2,.cons d1 d2⟩
   ·simp at h
  ·simp at h
theorem gv.to {K:World→Prop} {l:List DV} {ys:List Value} {H:aA} (h:gv K l ys H):∃ F:Nat→aA,H=(List.range l.length).flatMap F∧∀ (j:Nat) c y,l[j]?=some c→ys[j]?=some y→bQ K c y (F j):=by
 induction h with
 | nil=>exact ⟨fun _=>[],by simp,by simp⟩
 | cons h r ih=>
  rename_i c y l ys H G
  obtain ⟨F,hF,hr⟩:=ih
  refine ⟨fun i=>match i with | 0=>H | i+1=>F i,?_,?_⟩
  ·rw [List.length_cons,uI,hF]
  ·intro j c' y' h1 h2
   cases j with
   | zero=>simp at h1 h2;subst h1 h2;exact h
   | succ j=>simp at h1 h2;exact hr j c' y' h1 h2
theorem L9 (R:bR D w0 K0 M β F I X w) {c:AV} {vc:List Prop} {x:DV} {M':List au} (h:AE M c=some (vc,x,M')) (hv:bw vc) {y:Value} (r:aE (fun w=>K0 w∧az w I) β c y):GP D w0 K0 β I X w y x M':=by
 unfold AE at h
 split at h
 ·split at h
  ·rename_i v l' M1 h1
   simp only [Option.some.injEq,Prod.mk.injEq] at h;obtain ⟨rfl,rfl,rfl⟩:=h
   cases r with
   | ag ys hl hr=>
    obtain ⟨F1,H1,R1,d1⟩:=Ep R h1 hv hl hr
    obtain ⟨G,rfl,hG⟩:=d1.to
    exact ⟨F1,_,R1,.ag ys G d1.len hG⟩
  ·simp at h
 ·exact Eo R h hv r
theorem DT:∀ {l:List AV} {M:List au} {F:Nat→aA} {X:aA} {vc:List Prop} {xs:List DV} {M':List au},bR D w0 K0 M β F I X w→mh M l=some (vc,xs,M')→bw vc→∀ {ys:List Value},ys.length=l.length→(∀ (j:Nat) c y,l[j]?=some c→ys[j]?=some y→aE (fun w=>K0 w∧az w I) β c y)→
  ∃ F' H,bR D w0 K0 M' β F' I (X++H) w∧gv (fun w=>K0 w∧az w I) xs ys H
 | [],M,F,X,vc,xs,M',R,h,_,ys,hl,_=>by
  simp only [mh,Option.some.injEq,Prod.mk.injEq] at h;obtain ⟨rfl,rfl,rfl⟩:=h
  have:ys=[]:=List.eq_nil_of_length_eq_zero hl
  subst this
  exact ⟨F,[],by rw [List.append_nil];exact R,.nil⟩
 | c::r,M,F,X,vc,xs,M',R,h,hv,ys,hl,hr=>by
  unfold mh at h
  split at h
  ·rename_i v x M1 h1
   split at h
   ·rename_i v' l' M2 h2
    simp only [Option.some.injEq,Prod.mk.injEq] at h;obtain ⟨rfl,rfl,rfl⟩:=h
    rw [bw.app] at hv
    cases ys with
    | nil=>simp at hl
    | cons y ys=>
     obtain ⟨F1,H1,R1,d1⟩:=L9 R h1 hv.1 (hr 0 c y rfl rfl)
     obtain ⟨F2,H2,R2,d2⟩:=DT R1 h2 hv.2 (ys:=ys) (by simpa using hl) (fun j c' y' e1 e2=>hr (j+1) c' y' (by simpa using e1) (by simpa using e2))
     exact ⟨F2,H1++H2,by rw [← List.append_assoc];exact R2,.cons d1 d2⟩
   ·simp at h
  ·simp at h
end Go.Proofs.YtlinpknagdgphaaGreat
namespace Go.Proofs.YtlinpknagdgphaaGreat
open Go.RowKit
variable {P:Program} {T:aW} {D:List Nat} {w0:World} {K0:World→Prop} {E:List (Nat×AV)} {M:List au} {β:Beta} {F:Nat→aA} {I:aA} {ρ:Operand→Value} {w:World}
variable {d:Option Tmp} {ty:TypeId} {pos:String} {aft:Array Edge} {gd:Option (Nat×Bool)} {oc:Option bj} {out:Out}
def nA:List AV→Option (List Value)
 | []=>some []
 | .d (.v x)::r=>(match nA r with | some l=>some (x::l) | none=>none)
 | _=>none
theorem r6 {K:World→Prop} {β:Beta}:∀ {l:List AV} {xs ys:List Value},nA l=some xs→ys.length=l.length→(∀ (j:Nat) c y,l[j]?=some c→ys[j]?=some y→aE K β c y)→ys=xs
 | [],xs,ys,h,hl,_=>by simp only [nA,Option.some.injEq] at h;subst h;exact List.eq_nil_of_length_eq_zero hl
 | c::r,xs,[],_,hl,_=>by simp at hl
 | c::r,xs,y::ys,h,hl,hr=>by
  unfold nA at h
  split at h
  ·simp_all
  ·rename_i x r' heq
   simp only [List.cons.injEq] at heq
   obtain ⟨rfl,rfl⟩:=heq
   split at h
   ·rename_i l' dI
    simp only [Option.some.injEq] at h;subst h
    have h0:=hr 0 _ y rfl rfl
    have h1:=r6 (ys:=ys) dI (by simpa using hl) (fun j c y e1 e2=>hr (j+1) c y (by simpa using e1) (by simpa using e2))
    cases h0 with | d h0=>cases h0;rw [h1]
   ·simp at h
  ·simp at h
def dK (P:Program) (t:TypeId) (xs ys:List Value) (c:Bool):Prop:=P.eqGuardType P.depth t=false∧∀ w:World,(Op.equal t (.agg xs.toArray) (.agg ys.toArray)).run P w=.ok c w
def Bv (P:Program) (E:List (Nat×AV)) (M:List au) (oc:Option bj) (op:BinOp) (t:TypeId) (x y:Operand):Option Out:=
 match op,aO E x,aO E y,oc with
 | .eql,some (.ag l),some (.ag l'),some (.b c)=>(match nA l,nA l' with | some xs,some ys=>some (lk [dK P t xs ys c] (.b c) M) | _,_=>none)
 | .neq,some (.ag l),some (.ag l'),some (.b c)=>(match nA l,nA l' with | some xs,some ys=>some (lk [dK P t xs ys c] (.b (!c)) M) | _,_=>none)
 | _,_,_,_=>none
theorem NS {op:BinOp} {t t':TypeId} {x y:Operand} (h:Bv P E M oc op t x y=some out):aP P ⟨d,.binOp op t x y t',ty,pos,aft,gd⟩ E M out:=by
 unfold Bv at h
 split at h
 ·rename_i l l' c hx hy
  split at h
  ·rename_i xs ys h1 h2
   simp only [Option.some.injEq] at h;subst h
   refine aP.same ?_
   intro D w0 K0 β F I ρ w C hv
   obtain ⟨⟨hg,hr⟩,-⟩:=hv
   obtain ⟨u,hu,r⟩:=C.bS hx
   obtain ⟨u',fM,r'⟩:=C.bS hy
   cases r with | ag zs hl hz=>
   cases r' with | ag Sg dI jX=>
   obtain rfl:=r6 h1 hl hz
   obtain rfl:=r6 h2 dI jX
   exact ⟨.bool c,fun w' _=>by simp [execOp,hu,fM,eqGuard,hg,binOp,hr],.d (.v _)⟩
  ·simp at h
 ·rename_i l l' c hx hy
  split at h
  ·rename_i xs ys h1 h2
   simp only [Option.some.injEq] at h;subst h
   refine aP.same ?_
   intro D w0 K0 β F I ρ w C hv
   obtain ⟨⟨hg,hr⟩,-⟩:=hv
   obtain ⟨u,hu,r⟩:=C.bS hx
   obtain ⟨u',fM,r'⟩:=C.bS hy
   cases r with | ag zs hl hz=>
   cases r' with | ag Sg dI jX=>
   obtain rfl:=r6 h1 hl hz
   obtain rfl:=r6 h2 dI jX
   exact ⟨.bool (!c),fun w' _=>by simp [execOp,hu,fM,eqGuard,hg,binOp,hr],.d (.v _)⟩
  ·simp at h
 ·simp at h
def zL (l:List (Nat×Nat)) (i:Nat):Option (Nat×Nat):=l[i]?
def lO (E:List (Nat×AV)) (place:Nat→Option (Nat×Nat)) (cells:List AV):List (Nat×Operand)→Option (List AV)
 | []=>some cells
 | (i,x)::r=>(match place i,aO E x with
  | some (off,size),some v=>(match qz v with
   | some l=>bif l.length.beq size&&(off+size).ble cells.length then lO E place (cells.take off++(l++cells.drop (off+size))) r else none
   | none=>none)
  | _,_=>none)
theorem Ky:∀ (vs:List Value) (off j:Nat) (cs:Array Value),(vs.zipIdx j).foldl (fun cs (cj:Value×Nat)=>cs.setIfInBounds (off+cj.2) cj.1) cs=cL cs (off+j) vs:=by
 intro vs
 induction vs with
 | nil=>intro off j cs;simp [cL]
 | cons v r ih=>intro off j cs;rw [List.zipIdx_cons,List.foldl_cons,ih,cL,Nat.add_assoc]
theorem vd {place:Nat→Option (Nat×Nat)} (C:Ctx D w0 K0 E M β F I ρ w):∀ {parts:List (Nat×Operand)} {cells l:List AV} {cs:Array Value},lO E place cells parts=some l→cs.size=cells.length→(∀ (j:Nat) c y,cells[j]?=some c→cs[j]?=some y→aE (fun w=>K0 w∧az w I) β c y)→
  ∃ cf:Array Value,Instr.fill place cs (parts.map fun p=>(p.1,ρ p.2))=some cf∧cf.size=l.length∧∀ (j:Nat) c y,l[j]?=some c→cf[j]?=some y→aE (fun w=>K0 w∧az w I) β c y
 | [],cells,l,cs,h,hl,hr=>by simp only [lO,Option.some.injEq] at h;subst h;exact ⟨cs,rfl,hl,hr⟩
 | (i,x)::r,cells,l,cs,h,hl,hr=>by
  unfold lO at h
  split at h
  ·rename_i off size v hp hx
   split at h
   ·rename_i lv Ie
    cases hb:(lv.length.beq size&&(off+size).ble cells.length) with
    | false=>simp [hb] at h
    | true=>
     simp only [hb,cond_true] at h
     simp only [Bool.and_eq_true] at hb
     have h1:=Nat.eq_of_beq_eq_true hb.1
     have h2:=Nat.le_of_ble_eq_true hb.2
     obtain ⟨y,hy,ry⟩:=C.bS hx
     obtain ⟨zs,e1,e2,e3,-⟩:=uO Ie ry
     have sI:(cL cs off zs).size=(cells.take off++(lv++cells.drop (off+size))).length:=by rw [j7];simp;omega
     obtain ⟨cf,g1,g2,g3⟩:=vd C (cs:=cL cs off zs) h sI (by
      intro j c z f1 f2
      rw [pS _ _ _ _ (by omega)] at f2
      by_cases hj:off≤j∧j<off+zs.length
      ·rw [if_pos hj] at f2
       rw [List.getElem?_append_right (by simp;omega),List.getElem?_append_left (by simp;omega)] at f1
       refine e3 (j-off) c z ?_ f2
       rw [← f1];congr 1;simp;omega
      ·rw [if_neg hj] at f2
       refine hr j c z ?_ f2
       rcases Nat.lt_or_ge j off with nW | nW
       ·rw [List.getElem?_append_left (by simp;omega),List.getElem?_take,if_pos nW] at f1;exact f1
       ·rw [List.getElem?_append_right (by simp;omega),List.getElem?_append_right (by simp;omega),List.getElem?_drop] at f1
        rw [← f1];congr 1;simp;omega)
     refine ⟨cf,?_,g2,g3⟩
     rw [List.map_cons,Instr.fill]
     simp only [hp,hy,e1]
     rw [if_neg (by simp;omega)]
     have hz:=Ky zs off 0 cs
     have tB:zs.toArray.zipIdx.foldl (fun cs (cj:Value×Nat)=>cs.setIfInBounds (off+cj.2) cj.1) cs=cL cs off zs:=by
      rw [← Array.foldl_toList,Array.toList_zipIdx];simpa using hz
     rw [← g1];congr 1
   ·simp at h
  ·simp at h
def zM (T:aW) (E:List (Nat×AV)) (M:List au) (t:TypeId) (parts:Array (Nat×Operand)):Option Out:=
 match B2 T t,oU T t with
 | some pl,some z=>(match lO E (zL pl) (ki z) parts.toList with
  | some l=>some (lk [] (.ag l) M)
  | none=>none)
 | _,_=>none
theorem Dm:∀ {fs:List Field} {pl:List (Nat×Nat)} (w:World),qb P fs=some pl→(fs.mapM fun f=>(do pure (f.offset,← sizeOf f.type):Sem (Nat×Nat))).run P w=.ok pl w
 | [],pl,w,h=>by simp only [qb,Option.some.injEq] at h;subst h;simp
 | f::r,pl,w,h=>by
  unfold qb at h
  split at h
  ·rename_i i l hi hl
   simp only [Option.some.injEq] at h;subst h
   have ih:=Dm w hl
   have hs:(sizeOf f.type).run P w=.ok i.size w:=by simp [sizeOf,typeInfo,Sem.run_bind,hi]
   simp only [List.mapM_cons,Sem.run_bind,hs,Result.andThen_ok,Sem.run_pure,ih]
  ·simp at h
theorem Kz (hT:bp P T=true) {t:TypeId} {parts:Array (Nat×Operand)} (h:zM T E M t parts=some out):aP P ⟨d,.build t parts,ty,pos,aft,gd⟩ E M out:=by
 unfold zM at h
 split at h
 ·rename_i pl z w9 hz
  split at h
  ·rename_i l hl
   simp only [Option.some.injEq] at h;subst h
   obtain ⟨fs,hu,Sh⟩:=Pa hT w9
   obtain ⟨zv,pv,mP⟩:=uX hT hz
   refine aP.same ?_
   intro D w0 K0 β F I ρ w C _
   obtain ⟨p1,p2⟩:=pT (K:=fun w=>K0 w∧az w I) (β:=β) z
   obtain ⟨cf,g1,g2,g3⟩:=vd C (cs:=z.toArray) hl (by simpa using p1) (by intro j c y e1 e2;exact p2 j c y e1 (by simpa using e2))
   refine ⟨.agg cf,fun w' _=>?_,?_⟩
   ·have Si:=Dm w' Sh
    have Sj:(fs.mapM fun f=>(do pure (f.offset,← sizeOf f.type):Sem (Nat×Nat))).run P w'=.ok pl.toArray w':=by
     rw [Array.mapM_eq_mapM_toList,Sem.run_map,Si];rfl
    have rv:(parts.map fun (p:Nat×Operand)=>(p.1,ρ p.2)).toList=parts.toList.map fun p=>(p.1,ρ p.2):=by simp
    have vM:(fun i=>pl.toArray[i]?)=zL pl:=by funext i;simp [zL]
    have hb:(Instr.build t (parts.map fun (p:Nat×Operand)=>(p.1,ρ p.2))).run P w'=.ok (.agg cf) w':=by
     simp only [Instr.build,Sem.run_bind,mP,Result.andThen_ok,run_underlying hu,Sj,pv,rv,vM,g1,Sem.run_pure]
    simp only [execOp,Sem.run_bind]
    have:(parts.map fun (i,x)=>(i,ρ x))=parts.map fun (p:Nat×Operand)=>(p.1,ρ p.2):=rfl
    rw [this,hb];rfl
   ·have:(aE (fun w=>K0 w∧az w I) β (.ag l) (.agg cf.toList.toArray)):=.ag cf.toList (by simpa using g2) (by intro j c y e1 e2;exact g3 j c y e1 (by simpa using e2))
    simpa using this
  ·simp at h
 ·simp at h
end Go.Proofs.YtlinpknagdgphaaGreat
namespace Go.Proofs.YtlinpknagdgphaaGreat
open Go.RowKit
variable {P:Program} {T:aW} {D:List Nat} {w0:World} {K0:World→Prop} {E:List (Nat×AV)} {M:List au} {β:Beta} {F:Nat→aA} {I:aA} {ρ:Operand→Value} {w:World}
variable {d:Option Tmp} {ty:TypeId} {pos:String} {aft:Array Edge} {gd:Option (Nat×Bool)} {oc:Option bj} {out:Out}
def ju (T:aW) (t:Nat):Option (Nat×Nat×Nat×List Value):=match cV T t with
 | some (.sl e)=>(match T.at e with | some x=>bif x.zero.length.beq x.size then some (e,x.size,x.bytes,x.zero) else none | none=>none)
 | _=>none
theorem lI (hT:bp P T=true) {t e k b:Nat} {z:List Value} (h:ju T t=some (e,k,b,z)):∃ zv,qI P t e k b zv∧zv.cells=z.toArray∧z.length=k:=by
 unfold ju at h
 split at h
 ·rename_i e' hu
  split at h
  ·rename_i x hx
   cases hz:x.zero.length.beq x.size with
   | false=>simp [hz] at h
   | true=>
    simp only [hz,cond_true,Option.some.injEq,Prod.mk.injEq] at h
    obtain ⟨rfl,rfl,rfl,rfl⟩:=h
    obtain ⟨i,zv,h1,h2,h3,h4,h5⟩:=uW hT hx
    have hc:zv.cells=x.zero.toArray:=by rw [← h5]
    exact ⟨zv,⟨cE hT hu,by rw [h1,Option.map_some,h2],by rw [h1,Option.map_some,h3],by rw [h1,Option.bind_some,h4],by rw [hc];simpa using Nat.eq_of_beq_eq_true hz⟩,hc,Nat.eq_of_beq_eq_true hz⟩
  ·simp at h
 ·simp at h
theorem e8 {n k:Nat} {X:Nat→List Value} (hX:∀ i,i<n→(X i).length=k):(lay n X).length=n*k:=by
 induction n with
 | zero=>simp [lay]
 | succ n ih=>
  have:=ih (fun i hi=>hX i (by omega))
  simp only [lay,List.range_succ,List.flatMap_append,List.length_append,List.flatMap_cons,List.flatMap_nil,List.append_nil] at this ⊢
  rw [this,hX n (by omega),Nat.succ_mul]
theorem ve (z:List Value) (n k:Nat) (hz:z.length=k):((Array.range (n*k)).map fun i=>z.toArray[i%z.toArray.size]!).toList=lay n fun _=>z:=by
 subst hz
 apply List.ext_getElem?
 intro p
 have hl:=e8 (n:=n) (k:=z.length) (X:=fun _=>z) (fun _ _=>rfl)
 rcases Nat.lt_or_ge p (n*z.length) with hp | hp
 ·have hk:0<z.length:=by
   rcases Nat.eq_zero_or_pos z.length with h0 | h0
   ·rw [h0] at hp;simp at hp
   ·exact h0
  have hd:p / z.length<n:=Nat.div_lt_of_lt_mul (by rw [Nat.mul_comm];exact hp)
  have hm:p%z.length<z.length:=Nat.mod_lt _ hk
  have hg:=lE (n:=n) (k:=z.length) (X:=fun _=>z) (fun _ _=>rfl) hd hm
  rw [Nat.mul_comm,Nat.div_add_mod] at hg
  rw [hg]
  have tB:z[p%z.length]?=some z[p%z.length]:=List.getElem?_eq_getElem hm
  rw [tB,Array.toList_map,List.getElem?_map,Array.toList_range,List.getElem?_range hp,Option.map_some]
  congr 1
  have:(z.toArray)[p%z.toArray.size]?=some z[p%z.length]:=by rw [List.getElem?_toArray];exact tB
  rw [getElem!_def,this]
 ·rw [List.getElem?_eq_none (by simpa using hp),List.getElem?_eq_none (by omega)]
set_option maxRecDepth 20000 in
theorem run_makeSlice {t e k b:Nat} {z:List Value} {zv:Value} (ok:qI P t e k b zv) (hz:zv.cells=z.toArray) (fw:z.length=k) {m:Nat} (hb:b*m≤281474976710656) (hm:m<4611686018427387904):
  (Instr.makeSlice t (.int .i64 m) (.int .i64 m)).run P w=.ok (.slice (some ⟨w.heap.size,0,none⟩) m m) (w.alloc (.cells (lay m fun _=>z).toArray e)):=by
 obtain ⟨i,hi,h1,h2,h3⟩:=ok.info
 have hw:IntKind.i64.wrap (m:Int)=m:=by
  simp [IntKind.wrap,IntKind.signed,IntKind.bits];omega
 have bI:∀ w:World,(sizeOf e).run P w=.ok k w:=fun w=>by simp [sizeOf,typeInfo,Sem.run_bind,hi,h1]
 have lK:∀ w:World,(typeInfo e).run P w=.ok i w:=fun w=>by simp [typeInfo,Sem.run_bind,hi]
 have hzero:∀ w:World,(zeroValue e).run P w=.ok zv w:=fun w=>by simp [zeroValue,Sem.run_bind,lK,h3]
 have sR:∀ (k:Nat) (w:World),(askRoom k).run P w=.ok () w:=by
  intro k w;unfold askRoom;split<;>simp [mark,Sem.run]
 have B9:∀ n:Int,asInt (.int .i64 n)=pure n:=fun n=>rfl
 have cu:∀ (cs:Array Value) (w:World),(newRow e cs).run P w=.ok ⟨w.heap.size,0,none⟩ (w.alloc (.cells cs e)):=by
  intro cs w;simp [newRow,newObj,Sem.run]
 have Ca:¬ ((i.bytes:Int)*(m:Int)>2 ^ 48):=by
  rw [h2]
  have e:((b*m:Nat):Int)=(b:Int)*(m:Int):=Int.natCast_mul b m
  rw [← e]
  generalize b*m=q at hb
  omega
 have zN:∀ n,n=m*k→(if n=0 then ((Array.range n).map fun i=>(#[]:Array Value)[i%(#[]:Array Value).size]!) else ((Array.range n).map fun i=>z.toArray[i%z.toArray.size]!))=(lay m fun _=>z).toArray:=by
  intro n hn
  subst hn
  rw [← ve z m k fw]
  by_cases h0:m*k=0
  ·rw [if_pos h0,h0];simp
  ·rw [if_neg h0]
 unfold Instr.makeSlice
 simp only [Sem.run_bind,run_underlying ok.bM,Result.andThen_ok,B9,Sem.run_pure,lK,hw,bI]
 have AF:¬ ((((m:Int)<0:Bool)||decide ((i.bytes:Int)*(m:Int)>2 ^ 48))=true∨(m:Int)<0∨(m:Int)>m):=by
  simp only [Bool.or_eq_true,decide_eq_true_eq]
  omega
 rw [if_neg (by simpa using AF)]
 simp only [Sem.run_bind,Result.andThen_ok,sR,bI,Int.toNat_natCast]
 have:=zN (m*k) rfl
 by_cases h0:m*k=0
 ·rw [if_pos h0] at this ⊢
  simp only [Sem.run_pure,Result.andThen_ok,Sem.run_bind,cu,this]
 ·rw [if_neg h0] at this ⊢
  simp only [Sem.run_pure,Result.andThen_ok,Sem.run_bind,hzero,hz,cu,this]
def AG (T:aW) (E:List (Nat×AV)) (M:List au) (oc:Option bj) (t:TypeId) (x y:Operand):Option Out:=
 match ju T t,cS (aO E x),cS (aO E y),oc with
 | some (e,k,b,z),some (.i64,n),some (.i64,n'),some (.n m)=>some ⟨[n=(m:Int),n'=(m:Int),b*m≤281474976710656,m<4611686018427387904],.sl M.length m,M++[.rw e k (List.replicate m (z.map .v))],[],[],none⟩
 | _,_,_,_=>none
theorem xD {K:World→Prop} {z:List Value} {j:Nat} {c:DV} {x:Value} (h1:(z.map DV.v)[j]?=some c) (h2:z[j]?=some x):bQ K c x []:=by
 rw [List.getElem?_map,h2,Option.map_some,Option.some.injEq] at h1
 subst h1;exact .v x
theorem l8 (n k:Nat):bW n k (fun _ _=>[])=[]:=by simp [bW]
theorem Ma (hT:bp P T=true) {t:TypeId} {x y:Operand} (h:AG T E M oc t x y=some out):aP P ⟨d,.makeSlice t x y,ty,pos,aft,gd⟩ E M out:=by
 unfold AG at h
 split at h
 ·rename_i e k b z n n' m he hx hy
  simp only [Option.some.injEq] at h;subst h
  obtain ⟨zv,ok,hz,fw⟩:=lI hT he
  intro D w0 K0 β F I ρ w C hv
  obtain ⟨rfl,rfl,hb,hm,-⟩:=hv
  refine bq.pure (v:=.slice (some ⟨w.heap.size,0,none⟩) m m) (w':=w.alloc (.cells (lay m fun _=>z).toArray e)) (by simp only [execOp,C.int hx,C.int hy,Sem.run_bind,run_makeSlice ok hz fw hb hm,Result.andThen_ok,Sem.run_pure]) ?_
  have gO:=e8 (n:=m) (k:=k) (X:=fun _=>z) (fun _ _=>fw)
  refine ⟨_,_,I,C.rm.new (q:=(some ⟨w.heap.size,0,none⟩,m)) (Gr.alloc w _) (dG.alloc w _) ?_,(Ext.app _ _).b _,bL.refl _,kJ _ _,.sl (fA C.rm _)⟩
  have:=bK.rw (K:=fun w=>K0 w∧az w I) (β:=β++[(some ⟨w.heap.size,0,none⟩,m)]) (u:=M.length) (T:=e) (k:=k) (rows:=List.replicate m (z.map .v)) (H0:=[(w.heap.size,.cells (lay m fun _=>z).toArray e (0,0))]) (fA C.rm _) (fun _=>z) (fun _ _=>[]) (fun i r hi=>by
   rw [List.getElem?_replicate] at hi
   split at hi
   ·simp only [Option.some.injEq] at hi;subst hi;rw [List.length_map];exact ⟨fw,fw⟩
   ·simp at hi) (by
    rw [List.length_replicate]
    exact ⟨gO,Or.inr ⟨w.heap.size,m,_,(0,0),rfl,rfl,kZ _,by simpa using gO,Nat.le_refl _,by rw [← gO];simp⟩⟩) (fun i r j c x hi h1 h2=>by
    rw [List.getElem?_replicate] at hi
    split at hi
    ·simp only [Option.some.injEq] at hi;subst hi;exact xD h1 h2
    ·simp at hi)
  rw [l8,List.append_nil] at this
  exact this
 ·simp at h
theorem yS {n:Nat} {X Y:Nat→List Value} (h:∀ i,i<n→X i=Y i):lay n X=lay n Y:=by
 simp only [lay,List.flatMap_def];congr 1
 exact List.map_congr_left fun i hi=>h i (List.mem_range.1 hi)
theorem qe (n m:Nat) (X Y:Nat→List Value):lay (n+m) (fun i=>if i<n then X i else Y (i-n))=lay n X++lay m Y:=by
 simp only [lay]
 rw [List.range_add,List.flatMap_append,List.flatMap_map]
 congr 1
 ·simp only [List.flatMap_def];congr 1;exact List.map_congr_left fun i hi=>by have:=List.mem_range.1 hi;simp [this]
 ·simp only [List.flatMap_def];congr 1;exact List.map_congr_left fun i hi=>by
   show (if n+i<n then X (n+i) else Y (n+i-n))=Y i
   rw [if_neg (by omega),Nat.add_sub_cancel_left]
theorem r7 (n m k:Nat) (X Y:Nat→Nat→aA):bW (n+m) k (fun i=>if i<n then X i else Y (i-n))=bW n k X++bW m k Y:=by
 simp only [bW]
 rw [List.range_add,List.flatMap_append,List.flatMap_map]
 congr 1
 ·simp only [List.flatMap_def];congr 1;exact List.map_congr_left fun i hi=>by have:=List.mem_range.1 hi;simp [this]
 ·simp only [List.flatMap_def];congr 1;exact List.map_congr_left fun i hi=>by
   show (List.range k).flatMap (if n+i<n then X (n+i) else Y (n+i-n))=(List.range k).flatMap (Y i)
   rw [if_neg (by omega),Nat.add_sub_cancel_left]
structure dW (K:World→Prop) (k:Nat) (rows:List (List DV)) (X:Nat→List Value) (G:Nat→Nat→aA):Prop where
 hl:∀ (i:Nat) r,rows[i]?=some r→r.length=k∧(X i).length=k
 hr:∀ (i:Nat) (r:List DV) (j:Nat) c x,rows[i]?=some r→r[j]?=some c→(X i)[j]?=some x→bQ K c x (G i j)
theorem dW.app {K:World→Prop} {k:Nat} {r1 r2:List (List DV)} {X Y:Nat→List Value} {G H:Nat→Nat→aA} (h1:dW K k r1 X G) (h2:dW K k r2 Y H):dW K k (r1++r2) (fun i=>if i<r1.length then X i else Y (i-r1.length)) (fun i=>if i<r1.length then G i else H (i-r1.length)):=by
 constructor
 ·intro i r hi
  rcases Nat.lt_or_ge i r1.length with h | h
  ·rw [List.getElem?_append_left h] at hi;simpa [h] using h1.hl i r hi
  ·rw [List.getElem?_append_right h] at hi;have h':¬ i<r1.length:=by omega
   simpa [h'] using h2.hl _ r hi
 ·intro i r j c x hi hj hx
  rcases Nat.lt_or_ge i r1.length with h | h
  ·rw [List.getElem?_append_left h] at hi;simp only [h,if_true] at hx ⊢;exact h1.hr i r j c x hi hj hx
  ·rw [List.getElem?_append_right h] at hi;have h':¬ i<r1.length:=by omega
   simp only [h',if_false] at hx ⊢;exact h2.hr _ r j c x hi hj hx
theorem dW.one {K:World→Prop} {k:Nat} {rows:List (List DV)} {X:Nat→List Value} {G:Nat→Nat→aA} (h:dW K k rows X G) (ho:(rows.all fun r=>r.all fun c=>AV.one (.d c))=true):∀ q ∈ lay rows.length X,cd q=true:=by
 intro q hq
 simp only [lay,List.mem_flatMap,List.mem_range] at hq
 obtain ⟨i,hi,hq⟩:=hq
 obtain ⟨j,hj,rfl⟩:=List.getElem_of_mem hq
 have cu:=List.getElem?_eq_getElem hi
 obtain ⟨e1,e2⟩:=h.hl i _ cu
 have hc:rows[i][j]?=some rows[i][j]:=List.getElem?_eq_getElem (by omega)
 have hd:=h.hr i _ j _ _ cu hc (List.getElem?_eq_getElem hj)
 have er:=List.all_eq_true.1 (List.all_eq_true.1 ho _ (List.mem_of_getElem? cu)) _ (List.mem_of_getElem? hc)
 generalize rows[i][j]=c at hd er
 generalize G i j=GG at hd
 cases c with
 | v x=>cases hd;exact er
 | jk=>simp [AV.one] at er
 | ro k rows=>obtain ⟨a,n,c,hx⟩:=hd.slice (by simp);rw [hx];rfl
 | em T k rows=>obtain ⟨a,n,c,hx⟩:=hd.slice (by simp);rw [hx];rfl
 | ag l=>simp [AV.one] at er
 | tu l=>simp [AV.one] at er
 | pb T l=>generalize (X i)[j]=z at hd;cases hd;rfl
def bA (rows:List (List DV)):Prop:=(rows.all fun r=>r.all fun c=>AV.one (.d c))=true
def qT (M:List au) (e k:Nat):AV→Option (Option Nat×Nat×List (List DV))
 | .sl u n=>(match M[u]? with | some (.rw e' k' rows)=>bif e.beq e'&&k.beq k' then some (some u,n,rows) else none | _=>none)
 | .d (.v (.slice none 0 0))=>some (none,0,[])
 | _=>none
def qU (M:List au) (k:Nat):AV→Option (Option Nat×Nat×List (List DV))
 | .sl v m=>(match M[v]? with | some (.rw _ k' rows)=>bif k.beq k' then some (some v,m,rows) else none | _=>none)
 | .d (.ro k' rows)=>bif k.beq k' then some (none,rows.length,rows) else none
 | .d (.v (.slice _ 0 _))=>some (none,0,[])
 | _=>none
def gM (mv:List Nat):AV→Bool
 | .d _=>true
 | .sl u _=>!(mv.elem u)
 | .sb u _ _ _=>!(mv.elem u)
 | .sf u _ _ _ _=>!(mv.elem u)
 | .pt u _=>!(mv.elem u)
 | .mv u=>!(mv.elem u)
 | .yl u=>!(mv.elem u)
 | .ep u _ _ _=>!(mv.elem u)
 | .rp _ _=>true
 | .bt _=>true
 | .uk=>true
 | _=>false
def ik (mv:List Nat):AV→Bool
 | .fn _ l=>l.all (gM mv)
 | .fm _ l=>l.all (gM mv)
 | .ag l=>l.all (gM mv)
 | .tu l=>l.all (gM mv)
 | c=>gM mv c
theorem m7 {K:World→Prop} {β aF:Beta} {mv:List Nat} (e:fq mv β aF) {v:AV} (hc:gM mv v=true) {y:Value} (r:aE K β v y):aE K aF v y:=by
 cases r with
 | d h=>exact .d h
 | sl h=>refine .sl (e _ _ ?_ h);intro hm;simp [gM,hm] at hc
 | sb h=>refine .sb (e _ _ ?_ h);intro hm;simp [gM,hm] at hc
 | sf h h1 h2 h3=>refine .sf (e _ _ ?_ h) h1 h2 h3;intro hm;simp [gM,hm] at hc
 | pt h=>refine .pt (e _ _ ?_ h);intro hm;simp [gM,hm] at hc
 | mv h=>refine .mv (e _ _ ?_ h);intro hm;simp [gM,hm] at hc
 | yl h=>refine .yl (e _ _ ?_ h);intro hm;simp [gM,hm] at hc
 | ep h=>refine .ep (e _ _ ?_ h);intro hm;simp [gM,hm] at hc
 | rp a X hl kx hr=>exact .rp a X hl kx hr
 | bt hd hn=>exact .bt hd hn
 | uk hu=>exact .uk hu
 | fn=>simp [gM] at hc
 | fm=>simp [gM] at hc
 | ag=>simp [gM] at hc
 | tu=>simp [gM] at hc
theorem pU {K:World→Prop} {β aF:Beta} {mv:List Nat} (e:fq mv β aF) {v:AV} (hc:ik mv v=true) {y:Value} (r:aE K β v y):aE K aF v y:=by
 have key:∀ {l:List AV} {ys:List Value},l.all (gM mv)=true→(∀ (j:Nat) c y,l[j]?=some c→ys[j]?=some y→aE K β c y)→∀ (j:Nat) c y,l[j]?=some c→ys[j]?=some y→aE K aF c y:=by
  intro l ys ha h j c y h1 h2
  exact m7 e (List.all_eq_true.1 ha c (List.mem_of_getElem? h1)) (h j c y h1 h2)
 cases r with
 | fn ys hl hr=>exact .fn ys hl (key hc hr)
 | fm ys hl hr=>exact .fm ys hl (key hc hr)
 | ag ys hl hr=>exact .ag ys hl (key hc hr)
 | tu ys hl hr=>exact .tu ys hl (key hc hr)
 | d h=>exact .d h
 | sl h=>exact m7 (v:=.sl _ _) e hc (.sl h)
 | sb h=>exact m7 (v:=.sb _ _ _ _) e hc (.sb h)
 | sf h h1 h2 h3=>exact m7 (v:=.sf _ _ _ _ _) e hc (.sf h h1 h2 h3)
 | pt h=>exact m7 (v:=.pt _ _) e hc (.pt h)
 | mv h=>exact m7 (v:=.mv _) e hc (.mv h)
 | yl h=>exact m7 (v:=.yl _) e hc (.yl h)
 | ep h=>exact m7 (v:=.ep _ _ _ _) e hc (.ep h)
 | rp a X hl kx hr=>exact .rp a X hl kx hr
 | bt hd hn=>exact .bt hd hn
 | uk hu=>exact .uk hu
def gT (mv:List Nat):au→au
 | .bx T cs=>.bx T (cs.map fun c=>bif ik mv c then c else .d .jk)
 | .rw T k rows=>.rw T k rows
 | .tw a c T k rows=>.tw a c T k rows
 | .mp T c es=>.mp T c es
 | .mu T c es=>.mu T c es
 | .it (some v) a s c=>bif mv.elem v then .it none a s c else .it (some v) a s c
 | .it none a s c=>.it none a s c
 | .lp b f sz E rf=>.lp b f sz (E.map fun x=>(x.1,bif ik mv x.2 then x.2 else .d .jk)) rf
 | .nm v b=>bif mv.elem v then .dead else .nm v b
 | .gw g row=>.gw g row
 | .il (some v) s l c=>bif mv.elem v then .il none s l c else .il (some v) s l c
 | .il none s l c=>.il none s l c
 | .fl T k m cs=>.fl T k m (cs.map fun c=>bif ik mv c then c else .d .jk)
 | .mf T c es=>.mf T c (es.map fun e=>(e.1,e.2.1,bif ik mv e.2.2 then e.2.2 else .d .jk))
 | .dead=>.dead
theorem bK.kill {K:World→Prop} {β aF:Beta} {mv:List Nat} (e:fq mv β aF) {u:Nat} (hu:u ∉ mv) {blk:au} {H:aA} (r:bK K β u blk H):bK K aF u (gT mv blk) H:=by
 cases r with
 | dead=>exact .dead u
 | bx hb ys hl hr=>
  refine .bx (e _ _ hu hb) ys (by rw [List.length_map];exact hl) fun j c y h1 h2=>?_
  rw [List.getElem?_map,Option.map_eq_some_iff] at h1
  obtain ⟨c',h1,rfl⟩:=h1
  cases hc:ik mv c' with
  | true=>exact pU e hc (hr j c' y h1 h2)
  | false=>exact .d (.jk _)
 | rw hb X G hl hs hr=>exact .rw (e _ _ hu hb) X G hl hs hr
 | tw hb X G hl hs hr=>exact .tw (e _ _ hu hb) X G hl hs hr
 | gw X hl hc hr=>exact .gw X hl hc hr
 | @nm v b c hb=>
  cases hv:mv.elem v with
  | true=>simp only [gT,hv,cond_true];exact .dead u
  | false=>simp only [gT,hv,cond_false];exact .nm (e _ _ (by simpa using hv) hb)
 | fl hb ys hl hm gi hr=>
  refine .fl (e _ _ hu hb) ys hl (by rw [List.length_map];exact hm) gi fun j c y h1 h2=>?_
  rw [List.getElem?_map,Option.map_eq_some_iff] at h1
  obtain ⟨c',h1,rfl⟩:=h1
  cases hc:ik mv c' with
  | true=>exact pU e hc (hr j c' y h1 h2)
  | false=>exact .d (.jk _)
 | @mf _ _ Tm Cb Cc hb vs hl hr=>
  have hh:=bK.mf (K:=K) (T:=Tm) (ck:=Cb) (u:=u) (e _ _ hu hb) vs (by rw [List.length_map];exact hl) (es:=List.map (fun (e:Nat×MK×AV)=>(e.1,e.2.1,bif ik mv e.2.2 then e.2.2 else AV.d .jk)) Cc) (fun j c y h1 h2=>by
   rw [List.getElem?_map,Option.map_eq_some_iff] at h1
   obtain ⟨c',h1,rfl⟩:=h1
   dsimp only
   cases hc:ik mv c'.2.2 with
   | true=>exact pU e hc (hr j c' y h1 h2)
   | false=>exact .d (.jk _))
  rw [yf (fun (e:Nat×MK×AV)=>(e.1,e.2.1,bif ik mv e.2.2 then e.2.2 else AV.d .jk)) (fun _=>⟨rfl,rfl⟩)] at hh
  exact hh
 | mp hb vs G hl hr=>exact .mp (e _ _ hu hb) vs G hl hr
 | mu es' hp hn aK hb vs G hl hr=>exact .mu es' hp hn aK (e _ _ hu hb) vs G hl hr
 | lp hb bI hr=>
  refine .lp (e _ _ hu hb) bI fun x hx=>?_
  obtain ⟨x0,Cd,rfl⟩:=List.mem_map.1 hx
  cases hc:ik mv x0.2 with
  | true=>simp only [hc,cond_true];exact pU e hc (hr x0 Cd)
  | false=>simp only [hc,cond_false];exact .d (.jk _)
 | @il b bm c since last ck um seen hb hm=>
  cases um with
  | none=>exact .il (bm:=bm) (seen:=seen) (e _ _ hu hb) (fun v hv=>by cases hv)
  | some v=>
   cases hv:mv.elem v with
   | true=>
    have e1:gT mv (.il (some v) since last ck)=.il none since last ck:=by simp only [gT,hv,cond_true]
    rw [e1]
    exact .il (bm:=bm) (seen:=seen) (e _ _ hu hb) (fun v hv=>by cases hv)
   | false=>
    have e1:gT mv (.il (some v) since last ck)=.il (some v) since last ck:=by simp only [gT,hv,cond_false]
    rw [e1]
    refine .il (bm:=bm) (seen:=seen) (e _ _ hu hb) (fun v' iG=>?_)
    cases iG
    obtain ⟨c',h'⟩:=hm v rfl
    exact ⟨c',e _ _ (fun c7=>by simp [c7] at hv) h'⟩
 | @it b bm c since ck um seen hb hm=>
  cases um with
  | none=>exact .it (bm:=bm) (e _ _ hu hb) (fun v hv=>by cases hv)
  | some v=>
   cases hv:mv.elem v with
   | true=>
    have e1:gT mv (.it (some v) since seen ck)=.it none since seen ck:=by simp only [gT,hv,cond_true]
    rw [e1]
    exact .it (bm:=bm) (e _ _ hu hb) (fun v hv=>by cases hv)
   | false=>
    have e1:gT mv (.it (some v) since seen ck)=.it (some v) since seen ck:=by simp only [gT,hv,cond_false]
    rw [e1]
    refine .it (bm:=bm) (e _ _ hu hb) (fun v' iG=>?_)
    cases iG
    obtain ⟨c',h'⟩:=hm v rfl
    exact ⟨c',e _ _ (fun c7=>by simp [c7] at hv) h'⟩
theorem bR.move {X Y:aA} (R:bR D w0 K0 M β F I X w) {w':World} (st:St D w0 w' ((List.range M.length).flatMap F++(I++Y))):bR D w0 K0 M β F I Y w':=⟨R.len,R.blk,st⟩
theorem yn (β:Beta) (u:Nat) (q:Option Addr×Nat):fq [u] β (β.set u q):=by
 intro v x hv hx
 rw [List.getElem?_set,if_neg (fun e=>hv (by simp [e]))];exact hx
theorem bR.renew {X Y:aA} (R:bR D w0 K0 M β F I (X++Y) w) {u:Nat} (hu:u<M.length) (hF:F u=[]) {q:Option Addr×Nat} {blk:au} (hb:bK (fun w=>K0 w∧az w I) (β.set u q) u blk X):
  bR D w0 K0 ((M.map (gT [u])).set u blk) (β.set u q) (aS F u X) I Y w where
 len:=by rw [List.length_set,List.length_set,List.length_map];exact R.len
 blk:=by
  intro v bl hv
  rw [List.getElem?_set] at hv
  by_cases e:u=v
  ·subst e
   simp only [List.length_map,hu,if_pos,Option.some.injEq] at hv;subst hv
   simpa [aS] using hb
  ·rw [if_neg e,List.getElem?_map,Option.map_eq_some_iff] at hv
   obtain ⟨b0,h1,rfl⟩:=hv
   have:aS F u X v=F v:=by simp only [aS];rw [if_neg (fun h=>e h.symm)]
   rw [this]
   exact (R.blk v b0 h1).kill (yn β u q) (by simp;exact fun h=>e h.symm)
 st:=by
  have hs:=R.st
  rw [List.length_set,List.length_map,range_split hu]
  rw [range_split hu,hF] at hs
  have c1:(List.range u).flatMap (aS F u X)=(List.range u).flatMap F:=eL fun a ha=>by have:=List.mem_range.1 ha;simp [aS];omega
  have c2:(List.range' (u+1) (M.length-(u+1))).flatMap (aS F u X)=(List.range' (u+1) (M.length-(u+1))).flatMap F:=eL fun a ha=>by have:=(List.mem_range'_1.1 ha).1;simp [aS];omega
  have fM:aS F u X u=X:=by simp [aS]
  rw [c1,c2,fM]
  exact hs.perm (by classical rw [List.perm_iff_count];intro z;simp only [List.count_append,List.count_nil];omega)
def wF (n m b:Nat) (cr:List (List DV)):List Prop:=[(2*(n+m)+0)*b≤281474976710656,n+m<4611686018427387904,bA cr]
def Bw (T:aW) (E:List (Nat×AV)) (M:List au) (st xt:TypeId) (x y:Operand):Option Out:=
 match ju T st,cV T xt,aO E x,aO E y with
 | some (e,k,b,_),some (.sl e'),some vx,some vy=>bif e.beq e' then (match qT M e k vx,qU M k vy with
  | some (some u,n,rows),some (none,m,cr)=>some ⟨[n=rows.length]++wF n m b cr,.sl u (n+m),(M.map (gT [u])).set u (.rw e k (rows++cr)),[u],[u],none⟩
  | some (none,_,_),some (none,m,cr)=>some ⟨wF 0 m b cr,.sl M.length m,M++[.rw e k cr],[],[],none⟩
  | some (some u,n,rows),some (some v,m,cr)=>bif !(u.beq v) then some ⟨[n=rows.length,m=cr.length]++wF n m b cr,.sl u (n+m),((M.set v .dead).map (gT [u])).set u (.rw e k (rows++cr)),[u,v],[u],none⟩ else none
  | some (none,_,_),some (some v,m,cr)=>some ⟨[m=cr.length]++wF 0 m b cr,.sl M.length m,(M.set v .dead)++[.rw e k cr],[v],[],none⟩
  | _,_=>none) else none
 | _,_,_,_=>none
theorem xS {e k u n:Nat} {rows:List (List DV)} {v:AV} (h:qT M e k v=some (some u,n,rows)):v=.sl u n∧M[u]?=some (.rw e k rows):=by
 unfold qT at h
 split at h
 ·rename_i u' n'
  split at h
  ·rename_i e' k' rows' hM
   cases hb:(e.beq e'&&k.beq k') with
   | false=>simp [hb] at h
   | true=>
    simp only [hb,cond_true,Option.some.injEq,Prod.mk.injEq] at h
    obtain ⟨rfl,rfl,rfl⟩:=h
    simp only [Bool.and_eq_true] at hb
    obtain rfl:=Nat.eq_of_beq_eq_true hb.1
    obtain rfl:=Nat.eq_of_beq_eq_true hb.2
    exact ⟨rfl,hM⟩
  ·simp at h
 ·simp at h
 ·simp at h
theorem xT {e k n:Nat} {rows:List (List DV)} {v:AV} (h:qT M e k v=some (none,n,rows)):v=.d (.v (.slice none 0 0)):=by
 unfold qT at h
 split at h
 ·split at h
  ·rename_i e' k' rows' hM
   cases hb:(e.beq e'&&k.beq k')<;>simp [hb] at h
  ·simp at h
 ·rfl
 ·simp at h
theorem DU {k u m:Nat} {rows:List (List DV)} {v:AV} (h:qU M k v=some (some u,m,rows)):v=.sl u m∧∃ T,M[u]?=some (.rw T k rows):=by
 unfold qU at h
 split at h
 ·split at h
  ·rename_i T k' rows' hM
   cases hb:k.beq k' with
   | false=>simp [hb] at h
   | true=>
    simp only [hb,cond_true,Option.some.injEq,Prod.mk.injEq] at h
    obtain ⟨rfl,rfl,rfl⟩:=h
    obtain rfl:=Nat.eq_of_beq_eq_true hb
    exact ⟨rfl,T,hM⟩
  ·simp at h
 ·rename_i k' rows'
  cases hb:k.beq k'<;>simp [hb] at h
 ·simp at h
 ·simp at h
theorem xU {k m:Nat} {rows:List (List DV)} {v:AV} (h:qU M k v=some (none,m,rows)):(v=.d (.ro k rows)∨rows=[]∧∃ a c,v=.d (.v (.slice a 0 c)))∧m=rows.length:=by
 unfold qU at h
 split at h
 ·split at h
  ·rename_i T k' rows' hM
   cases hb:k.beq k'<;>simp [hb] at h
  ·simp at h
 ·rename_i k' rows'
  cases hb:k.beq k' with
  | false=>simp [hb] at h
  | true=>
   simp only [hb,cond_true,Option.some.injEq,Prod.mk.injEq] at h
   obtain ⟨-,rfl,rfl⟩:=h
   obtain rfl:=Nat.eq_of_beq_eq_true hb
   exact ⟨Or.inl rfl,rfl⟩
 ·simp only [Option.some.injEq,Prod.mk.injEq] at h
  obtain ⟨-,rfl,rfl⟩:=h
  exact ⟨Or.inr ⟨rfl,_,_,rfl⟩,rfl⟩
 ·simp at h
theorem yT (hT:bp P T=true) {st xt e k b:Nat} {z:List Value} (he:ju T st=some (e,k,b,z)) {x y:Operand} {v u':Value} {n m u:Nat} {H0 L1 S:aA} {rows cr:List (List DV)} {X1 X2:Nat→List Value} {G1 G2:Nat→Nat→aA}
  (mQ:ρ x=v) (tC:ρ y=u') (R:bR D w0 K0 M β F I ((H0++L1)++S) w) (hu:u<M.length) (hF:F u=[])
  (hs:eD e k v n (lay n X1) H0) (hn:n=rows.length) (hm:m=cr.length) (a1:dW (fun w=>K0 w∧az w I) k rows X1 G1) (hL:L1=bW n k G1) (a2:dW (fun w=>K0 w∧az w I) k cr X2 G2) (hS:S=bW m k G2) (g6:lH P xt w k u' m (lay m X2))
  (sJ:(2*(n+m)+0)*b≤281474976710656) (wy:n+m<4611686018427387904) (er:bA cr):
  bq P ⟨d,.call ⟨.builtin .append,#[x,y],#[st,xt]⟩,ty,pos,aft,gd⟩ ρ w fun v' w'=>∃ aF F',RM D w0 K0 ((M.map (gT [u])).set u (.rw e k (rows++cr))) aF F' I w'∧fq [u] β aF∧(∀ x,x≠u→F' x=F x)∧aE (fun w=>K0 w∧az w I) aF (.sl u (n+m)) v':=by
 obtain ⟨zv,ok,-,-⟩:=lI hT he
 subst hn hm
 have bM:St D w0 w (H0++(L1++(S++((List.range M.length).flatMap F++I)))):=R.st.perm (by classical rw [List.perm_iff_count];intro z;simp only [List.count_append];omega)
 refine DQ ok mQ tC bM hs g6 (a2.one er) sJ wy fun v' w' H' dP Ce=>?_
 obtain ⟨a,c,rfl⟩:=dP.len
 have aa:=a1.app a2
 have nI:=qe rows.length cr.length X1 X2
 rw [← nI] at dP
 have Sk:=r7 rows.length cr.length k G1 G2
 have hq:(β.set u (a,c))[u]?=some (a,c):=by rw [List.getElem?_set];simp [R.len,hu]
 have hb:bK (fun w=>K0 w∧az w I) (β.set u (a,c)) u (.rw e k (rows++cr)) (H'++bW (rows++cr).length k (fun i=>if i<rows.length then G1 i else G2 (i-rows.length))):=
  .rw hq _ _ aa.hl (by rw [List.length_append];exact dP) aa.hr
 rw [List.length_append,Sk,← hL,← hS] at hb
 have R2:bR D w0 K0 M β F I ((H'++(L1++S))++[]) w':=R.move (Ce.perm (by classical rw [List.perm_iff_count];intro z;simp only [List.count_append,List.count_nil];omega))
 have R3:=R2.renew hu hF hb
 exact ⟨_,_,R3.nil rfl,yn β u _,fun x hx=>by simp only [aS];rw [if_neg hx],.sl hq⟩
theorem yU (hT:bp P T=true) {st xt e k b:Nat} {z:List Value} (he:ju T st=some (e,k,b,z)) {x y:Operand} {u':Value} {m:Nat} {S:aA} {cr:List (List DV)} {X2:Nat→List Value} {G2:Nat→Nat→aA}
  (mQ:ρ x=.slice none 0 0) (tC:ρ y=u') (R:bR D w0 K0 M β F I S w) (hm:m=cr.length) (a2:dW (fun w=>K0 w∧az w I) k cr X2 G2) (hS:S=bW m k G2) (g6:lH P xt w k u' m (lay m X2))
  (sJ:(2*(0+m)+0)*b≤281474976710656) (wy:0+m<4611686018427387904) (er:bA cr):
  bq P ⟨d,.call ⟨.builtin .append,#[x,y],#[st,xt]⟩,ty,pos,aft,gd⟩ ρ w fun v' w'=>∃ aF F',RM D w0 K0 (M++[.rw e k cr]) aF F' I w'∧Ext β aF∧(∀ x,x<M.length→F' x=F x)∧aE (fun w=>K0 w∧az w I) aF (.sl M.length m) v':=by
 obtain ⟨zv,ok,-,-⟩:=lI hT he
 subst hm
 have bM:St D w0 w ([]++(S++((List.range M.length).flatMap F++I))):=R.st.perm (by classical rw [List.perm_iff_count];intro z;simp only [List.count_append,List.nil_append];omega)
 refine DQ ok mQ tC bM (eD.nil e k none) g6 (a2.one er) sJ wy fun v' w' H' dP Ce=>?_
 obtain ⟨a,c,rfl⟩:=dP.len
 rw [List.nil_append,Nat.zero_add] at dP
 rw [Nat.zero_add]
 have hq:(β++[(a,c)])[M.length]?=some (a,c):=by rw [← R.len];simp
 have hb:bK (fun w=>K0 w∧az w I) (β++[(a,c)]) M.length (.rw e k cr) (H'++bW cr.length k G2):=.rw hq _ _ a2.hl dP a2.hr
 rw [← hS] at hb
 have R2:bR D w0 K0 M β F I ((H'++S)++[]) w':=R.move (Ce.perm (by classical rw [List.perm_iff_count];intro z;simp only [List.count_append,List.count_nil];omega))
 have R3:=R2.take hb
 exact ⟨_,_,R3.nil rfl,Ext.app _ _,fun x hx=>by simp [aS];omega,.sl hq⟩
theorem uB {u:Nat} {f:au→au} {b b':au}:((M.set u b).map f).set u b'=(M.map f).set u b':=by rw [List.map_set,List.set_set]
theorem nc (R:RM D w0 K0 M β F I w) {u n e k:Nat} {rows:List (List DV)} (hM:M[u]?=some (.rw e k rows)) (hn:n=rows.length) {y:Value} (r:aE (fun w=>K0 w∧az w I) β (.sl u n) y):
  ∃ X G H0,F u=H0++bW n k G∧eD e k y n (lay n X) H0∧dW (fun w=>K0 w∧az w I) k rows X G∧az w H0:=by
 subst hn
 obtain ⟨H,hF,hB,hH⟩:=R.at hM
 cases r with
 | sl hb=>
  cases hB with
  | rw aV X G hl hs hr=>
   rw [hb] at aV;cases aV
   exact ⟨X,G,_,hF,hs,⟨hl,hr⟩,(az.app.1 hH).1⟩
theorem Fb {K:World→Prop} (hk:K w) {k:Nat} {rows:List (List DV)} {y:Value} (r:aE K β (.d (.ro k rows)) y):∃ X,dW K k rows X (fun _ _=>[])∧Src w k y rows.length (lay rows.length X):=by
 cases r with | d r=>cases r with | ro X hl hy hs hr=>exact ⟨X,⟨hl,hr⟩,hs w hk⟩
theorem yo {K:World→Prop} (hk:K w) {k:Nat} {rows:List (List DV)} {v:AV} (hv:v=.d (.ro k rows)∨rows=[]∧∃ a c,v=.d (.v (.slice a 0 c))) {y:Value} (r:aE K β v y):∃ X,dW K k rows X (fun _ _=>[])∧Src w k y rows.length (lay rows.length X):=by
 rcases hv with rfl | ⟨rfl,a,c,rfl⟩
 ·exact Fb hk r
 ·cases r with | d r=>cases r;exact ⟨fun _=>[],⟨by simp,by simp⟩,by simp [lay],Or.inl ⟨rfl,a,c,rfl⟩⟩
theorem NT (hT:bp P T=true) {st xt:TypeId} {x y:Operand} (h:Bw T E M st xt x y=some out):aP P ⟨d,.call ⟨.builtin .append,#[x,y],#[st,xt]⟩,ty,pos,aft,gd⟩ E M out:=by
 unfold Bw at h
 split at h
 ·rename_i e k b z e' vx vy he hu hx hy
  cases Cf:e.beq e' with
  | false=>simp [Cf] at h
  | true=>
   simp only [Cf,cond_true] at h
   obtain rfl:=Nat.eq_of_beq_eq_true Cf
   split at h
   ·rename_i u n rows m cr hd hs
    simp only [Option.some.injEq] at h;subst h
    obtain ⟨rfl,hM⟩:=xS hd
    obtain ⟨k6,hm⟩:=xU hs
    intro D w0 K0 β F I ρ w C hv
    obtain ⟨hn,h1,h2,h3,-⟩:=hv
    obtain ⟨X1,G1,H0,hF,dL,a1,-⟩:=nc C.rm hM hn (C.ev hx)
    obtain ⟨X2,a2,g6⟩:=yo C.now k6 (C.ev hy)
    subst hm
    have R1:=C.rm.x.ea hM
    rw [hF,List.nil_append] at R1
    have aK:u<(M.set u .dead).length:=by rw [List.length_set];exact eB hM
    refine (yT hT he rfl rfl (R1.perm (Y:=(H0++bW n k G1)++[]) (by rw [List.append_nil])) aK (by simp [aS]) dL hn rfl a1 rfl a2 (by rw [l8]) (g6.app (cE hT hu)) h1 h2 h3).mono ?_
    rintro v' w' ⟨aF,F',R',hE,ky,hr⟩
    rw [uB] at R'
    exact ⟨aF,F',I,R',hE,bL.refl _,fun q _ hq=>by have rA:q≠u:=(by simpa using hq);rw [ky q rA];simp only [aS];rw [if_neg rA],hr⟩
   ·rename_i n0 r0 m cr hd hs
    simp only [Option.some.injEq] at h;subst h
    obtain rfl:=xT hd
    obtain ⟨k6,hm⟩:=xU hs
    intro D w0 K0 β F I ρ w C hv
    obtain ⟨h1,h2,h3,-⟩:=hv
    obtain ⟨X2,a2,g6⟩:=yo C.now k6 (C.ev hy)
    subst hm
    have mQ:ρ x=.slice none 0 0:=by have:=C.ev hx;generalize ρ x=q at this;cases this with | d r=>cases r;rfl
    refine (yU hT he mQ rfl C.rm.x rfl a2 (by rw [l8]) (g6.app (cE hT hu)) h1 h2 h3).mono ?_
    rintro v' w' ⟨aF,F',R',hE,ky,hr⟩
    exact ⟨aF,F',I,R',hE.b _,bL.refl _,fun q hq _=>ky q hq,hr⟩
   ·rename_i u n rows v m cr hd hs
    cases k7:u.beq v with
    | true=>simp [k7] at h
    | false=>
     simp only [k7,Bool.not_false,cond_true,Option.some.injEq] at h;subst h
     have dN:u≠v:=fun e=>by subst e;simp at k7
     obtain ⟨rfl,hM⟩:=xS hd
     obtain ⟨rfl,T2,nY⟩:=DU hs
     intro D w0 K0 β F I ρ w C hv
     obtain ⟨hn,hm,h1,h2,h3,-⟩:=hv
     obtain ⟨X1,G1,H0,hF,dL,a1,-⟩:=nc C.rm hM hn (C.ev hx)
     obtain ⟨X2,G2,H2,fP,Bx,a2,mR⟩:=nc C.rm nY hm (C.ev hy)
     have g6:=Bx.src mR
     have R1:=C.rm.x.ea nY
     have Sm:(M.set v .dead)[u]?=some (.rw e k rows):=by rw [List.getElem?_set,if_neg (fun e=>dN e.symm)];exact hM
     have R2:=R1.ea Sm
     have hC:aS F v [] u=F u:=by simp only [aS];rw [if_neg dN]
     rw [hC,hF,fP,List.nil_append] at R2
     have R3:=(R2.perm (Y:=(H0++bW n k G1)++(bW m k G2)++H2) (by classical rw [List.perm_iff_count];intro z;simp only [List.count_append];omega)).drop
     have aK:u<((M.set v .dead).set u .dead).length:=by rw [List.length_set,List.length_set];exact eB hM
     refine (yT hT he rfl rfl R3 aK (by simp [aS]) dL hn hm a1 rfl a2 rfl (g6.app (cE hT hu)) h1 h2 h3).mono ?_
     rintro v' w' ⟨aF,F',R',hE,ky,hr⟩
     rw [uB] at R'
     refine ⟨aF,F',I,R',hE,bL.refl _,fun q _ hq=>?_,hr⟩
     simp only [List.mem_cons,List.not_mem_nil,or_false,not_or] at hq
     rw [ky q hq.1];simp only [aS];rw [if_neg hq.1,if_neg hq.2]
   ·rename_i n0 r0 v m cr hd hs
    simp only [Option.some.injEq] at h;subst h
    obtain rfl:=xT hd
    obtain ⟨rfl,T2,nY⟩:=DU hs
    intro D w0 K0 β F I ρ w C hv
    obtain ⟨hm,h1,h2,h3,-⟩:=hv
    obtain ⟨X2,G2,H2,fP,Bx,a2,mR⟩:=nc C.rm nY hm (C.ev hy)
    have g6:=Bx.src mR
    have R1:=C.rm.x.ea nY
    rw [fP,List.nil_append] at R1
    have R3:=(R1.perm (Y:=bW m k G2++H2) List.perm_append_comm).drop
    have mQ:ρ x=.slice none 0 0:=by have:=C.ev hx;generalize ρ x=q at this;cases this with | d r=>cases r;rfl
    refine (yU hT he mQ rfl R3 hm a2 rfl (g6.app (cE hT hu)) h1 h2 h3).mono ?_
    rintro v' w' ⟨aF,F',R',hE,ky,hr⟩
    rw [List.length_set] at hr ky
    refine ⟨aF,F',I,R',hE.b _,bL.refl _,fun q hq Sn=>?_,hr⟩
    rw [ky q hq];simp only [aS];rw [if_neg (by simpa using Sn)]
   ·simp at h
 ·simp at h
end Go.Proofs.YtlinpknagdgphaaGreat
namespace Go.Proofs.YtlinpknagdgphaaGreat
open Go.RowKit
variable {P:Program} {T:aW} {D:List Nat} {w0:World} {K0:World→Prop} {E:List (Nat×AV)} {M:List au} {β:Beta} {F:Nat→aA} {I X:aA} {ρ:Operand→Value} {w:World}
variable {d:Option Tmp} {ty:TypeId} {pos:String} {aft:Array Edge} {gd:Option (Nat×Bool)} {oc:Option bj} {out:Out}
def By:AV→List Nat
 | .sl u _=>[u]
 | _=>[]
def sT:List AV→List Nat
 | []=>[]
 | c::r=>By c++sT r
theorem NU (R:bR D w0 K0 M β F I X w) {c:AV} {vc:List Prop} {x:DV} {M':List au} (h:qL M c=some (vc,x,M')) (hv:bw vc) {y:Value} (r:aE (fun w=>K0 w∧az w I) β c y):
  M'.length=M.length∧∃ F' H,bR D w0 K0 M' β F' I (X++H) w∧bQ (fun w=>K0 w∧az w I) x y H∧∀ u,u ∉ By c→F' u=F u:=by
 unfold qL at h
 split at h
 ·simp only [Option.some.injEq,Prod.mk.injEq] at h;obtain ⟨rfl,rfl,rfl⟩:=h
  cases r with | d r=>exact ⟨rfl,F,[],by rw [List.append_nil];exact R,r,fun _ _=>rfl⟩
 ·rename_i u n
  split at h
  ·rename_i Tt k rows hM
   simp only [Option.some.injEq,Prod.mk.injEq] at h;obtain ⟨rfl,rfl,rfl⟩:=h
   obtain ⟨rfl,-⟩:=hv
   cases r with
   | sl hb=>
    have R':=R.ea hM
    have hB:=R.blk u _ hM
    refine ⟨by rw [List.length_set],_,F u,R',?_,fun v hv=>by simp only [aS];rw [if_neg (by simpa [By] using hv)]⟩
    generalize F u=G0 at hB ⊢
    cases hB with
    | rw aV X G hl hs hr=>rw [hb] at aV;cases aV;exact .em X G hl hs hr
  ·simp at h
 ·simp at h
theorem yV:∀ {l:List AV} {M:List au} {F:Nat→aA} {X:aA} {vc:List Prop} {xs:List DV} {M':List au},bR D w0 K0 M β F I X w→lN M l=some (vc,xs,M')→bw vc→∀ {ys:List Value},ys.length=l.length→(∀ (j:Nat) c y,l[j]?=some c→ys[j]?=some y→aE (fun w=>K0 w∧az w I) β c y)→
  M'.length=M.length∧∃ F' H,bR D w0 K0 M' β F' I (X++H) w∧gv (fun w=>K0 w∧az w I) xs ys H∧∀ u,u ∉ sT l→F' u=F u
 | [],M,F,X,vc,xs,M',R,h,_,ys,hl,_=>by
  simp only [lN,Option.some.injEq,Prod.mk.injEq] at h;obtain ⟨rfl,rfl,rfl⟩:=h
  have:ys=[]:=List.eq_nil_of_length_eq_zero hl
  subst this
  exact ⟨rfl,F,[],by rw [List.append_nil];exact R,.nil,fun _ _=>rfl⟩
 | c::r,M,F,X,vc,xs,M',R,h,hv,ys,hl,hr=>by
  unfold lN at h
  split at h
  ·rename_i v x M1 h1
   split at h
   ·rename_i v' l' M2 h2
    simp only [Option.some.injEq,Prod.mk.injEq] at h;obtain ⟨rfl,rfl,rfl⟩:=h
    rw [bw.app] at hv
    cases ys with
    | nil=>simp at hl
    | cons y ys=>
     obtain ⟨l1,F1,H1,R1,d1,f1⟩:=NU R h1 hv.1 (hr 0 c y rfl rfl)
     obtain ⟨l2,F2,H2,R2,d2,f2⟩:=yV R1 h2 hv.2 (ys:=ys) (by simpa using hl) (fun j c' y' e1 e2=>hr (j+1) c' y' (by simpa using e1) (by simpa using e2))
     refine ⟨by omega,F2,H1++H2,by rw [← List.append_assoc];exact R2,.cons d1 d2,fun u hu=>?_⟩
     simp only [sT,List.mem_append,not_or] at hu
     exact (f2 u hu.2).trans (f1 u hu.1)
   ·simp at h
  ·simp at h
def chunk (k:Nat):Nat→List DV→List (List DV)
 | 0,_=>[]
 | n+1,l=>l.take k::chunk k n (l.drop k)
theorem uP (k:Nat):∀ (n:Nat) (l:List DV),(chunk k n l).length=n
 | 0,_=>rfl
 | n+1,l=>by simp [chunk,uP k n]
theorem Er (k:Nat):∀ (n:Nat) (l:List DV) (i:Nat),i<n→(chunk k n l)[i]?=some ((l.drop (i*k)).take k)
 | 0,_,_,h=>by omega
 | n+1,l,0,_=>by simp [chunk]
 | n+1,l,i+1,h=>by
  simp only [chunk,List.getElem?_cons_succ]
  rw [Er k n _ i (by omega),List.drop_drop,Nat.succ_mul,Nat.add_comm]
theorem KA (k:Nat) (G:Nat→aA):∀ n,bW n k (fun i j=>G (i*k+j))=(List.range (n*k)).flatMap G:=by
 intro n
 induction n with
 | zero=>simp [bW]
 | succ n ih=>
  have:bW (n+1) k (fun i j=>G (i*k+j))=bW n k (fun i j=>G (i*k+j))++(List.range k).flatMap fun j=>G (n*k+j):=by simp [bW,List.range_succ,List.flatMap_append]
  rw [this,ih,Nat.succ_mul,List.range_add,List.flatMap_append,List.flatMap_map]
theorem DW (k:Nat):∀ (n:Nat) (ys:List Value),ys.length=n*k→lay n (fun i=>(ys.drop (i*k)).take k)=ys:=by
 intro n ys hl
 apply List.ext_getElem?
 intro p
 have hX:∀ i,i<n→((ys.drop (i*k)).take k).length=k:=fun i hi=>by
  have:=Nat.mul_le_mul_right k (show i+1≤n from hi);rw [Nat.succ_mul] at this
  simp;omega
 have gO:=e8 hX
 rcases Nat.lt_or_ge p (n*k) with hp | hp
 ·have hk:0<k:=by
   rcases Nat.eq_zero_or_pos k with h0 | h0
   ·subst h0;simp at hp
   ·exact h0
  have hd:p / k<n:=Nat.div_lt_of_lt_mul (by rw [Nat.mul_comm];exact hp)
  have hm:p%k<k:=Nat.mod_lt _ hk
  have hg:=lE hX hd hm
  have e:p / k*k+p%k=p:=by rw [Nat.mul_comm,Nat.div_add_mod]
  rw [e] at hg
  rw [hg,List.getElem?_take,if_pos hm,List.getElem?_drop,e]
 ·rw [List.getElem?_eq_none (by omega),List.getElem?_eq_none (by omega)]
def kT (z:List Value):Nat→List Value
 | 0=>[]
 | n+1=>z++kT z n
theorem yp (z:List Value):∀ n,kT z n=lay n fun _=>z
 | 0=>by simp [kT,lay]
 | n+1=>by
  rw [kT,yp z n]
  simp only [lay,List.range_succ_eq_map,List.flatMap_cons,List.flatMap_map]
def wG (T:aW) (E:List (Nat×AV)) (M:List au) (t:TypeId) (len:Nat) (parts:Array (Nat×Operand)):Option Out:=
 match ju T t with
 | some (e,k,_,z)=>bif Nat.ble (len*k) 16777216 then (match lO E (fun i=>some (i*k,k)) (ki (kT z len)) parts.toList with
  | some l=>(match lN M l with
   | some (vc,xs,M')=>some ⟨vc,.sl M.length len,M'++[.rw e k (chunk k len xs)],sT l,[],none⟩
   | none=>none)
  | none=>none) else none
 | none=>none
theorem Fc (hT:bp P T=true) {t:TypeId} {len:Nat} {parts:Array (Nat×Operand)} (h:wG T E M t len parts=some out):aP P ⟨d,.buildSlice t len parts,ty,pos,aft,gd⟩ E M out:=by
 unfold wG at h
 split at h
 ·rename_i e k b z he
  cases hle:Nat.ble (len*k) 16777216 with
  | false=>simp [hle] at h
  | true=>
   simp only [hle,cond_true] at h
   have hle:=Nat.le_of_ble_eq_true hle
   split at h
   ·rename_i l GQ
    split at h
    ·rename_i vc xs M' hp
     simp only [Option.some.injEq] at h;subst h
     obtain ⟨zv,ok,hz,fw⟩:=lI hT he
     intro D w0 K0 β F I ρ w C hv
     obtain ⟨p1,p2⟩:=pT (K:=fun w=>K0 w∧az w I) (β:=β) (kT z len)
     obtain ⟨cf,g1,g2,g3⟩:=vd C (cs:=(kT z len).toArray) GQ (by simpa using p1) (by intro j c y e1 e2;exact p2 j c y e1 (by simpa using e2))
     obtain ⟨lM,F',H,R',dd,hF⟩:=yV C.rm.x hp hv (ys:=cf.toList) (by simpa using g2) (by intro j c y e1 e2;exact g3 j c y e1 (by simpa using e2))
     have jY:(kT z len).length=len*k:=by rw [yp];exact e8 fun _ _=>fw
     have fG:∀ (parts:List (Nat×AV)) ,True:=fun _=>trivial
     have Cg:xs.length=len*k:=by
      have h1:=dd.len
      have h2:l.length=len*k:=by
       have:∀ {ps:List (Nat×Operand)} {cs r:List AV},lO E (fun i=>some (i*k,k)) cs ps=some r→r.length=cs.length:=by
        intro ps
        induction ps with
        | nil=>intro cs r hh;simp only [lO,Option.some.injEq] at hh;rw [hh]
        | cons q ps ih=>
         intro cs r hh
         obtain ⟨i,x⟩:=q
         unfold lO at hh
         split at hh
         ·rename_i off size v Ua hx
          split at hh
          ·rename_i lv Ie
           cases hb:(lv.length.beq size&&(off+size).ble cs.length) with
           | false=>simp [hb] at hh
           | true=>
            simp only [hb,cond_true] at hh
            simp only [Bool.and_eq_true] at hb
            have e1:=Nat.eq_of_beq_eq_true hb.1
            have e2:=Nat.le_of_ble_eq_true hb.2
            rw [ih hh];simp;omega
          ·simp at hh
         ·simp at hh
       rw [this GQ,← p1,jY]
      have h3:cf.toList.length=cf.size:=by simp
      omega
     have cX:cf.toList.length=len*k:=by rw [← Cg];exact dd.len
     have TT:cf.size=len*k:=by simpa using cX
     have bI:∀ w:World,(sizeOf e).run P w=.ok k w:=fun w=>by obtain ⟨i,hi,h1,-⟩:=ok.info;simp [sizeOf,typeInfo,Sem.run_bind,hi,h1]
     have hzero:∀ w:World,(zeroValue e).run P w=.ok zv w:=fun w=>by obtain ⟨i,hi,-,-,h3⟩:=ok.info;simp [zeroValue,typeInfo,Sem.run_bind,hi,h3]
     have cu:∀ (cs:Array Value) (w:World),(newRow e cs).run P w=.ok ⟨w.heap.size,0,none⟩ (w.alloc (.cells cs e)):=by
      intro cs w;simp [newRow,newObj,Sem.run]
     have rv:(parts.map fun (p:Nat×Operand)=>(p.1,ρ p.2)).toList=parts.toList.map fun p=>(p.1,ρ p.2):=by simp
     have So:(Array.range (len*k)).map (fun i=>z.toArray[i%z.toArray.size]!)=(kT z len).toArray:=by
      rw [yp,← ve z len k fw]
     have fc:(Instr.buildSlice t len (parts.map fun (p:Nat×Operand)=>(p.1,ρ p.2))).run P w=.ok (.slice (some ⟨w.heap.size,0,none⟩) len len) (w.alloc (.cells cf e)):=by
      unfold Instr.buildSlice
      simp only [Sem.run_bind,run_underlying ok.bM,Result.andThen_ok,bI]
      rw [if_neg (by omega)]
      by_cases h0:len*k=0
      ·have Rz:(kT z len).toArray=#[]:=by
        have:kT z len=[]:=List.eq_nil_of_length_eq_zero (by omega)
        rw [this]
       rw [Rz] at g1
       have RA:(Array.range (len*k)).map (fun i=>(#[]:Array Value)[i%(#[]:Array Value).size]!)=#[]:=by rw [h0];apply Array.ext<;>simp
       rw [if_pos h0]
       simp only [Sem.run_bind,Sem.run_pure,Result.andThen_ok,RA,rv,g1,cu]
      ·rw [if_neg h0]
       simp only [Sem.run_bind,Sem.run_pure,Result.andThen_ok,hzero,hz,So,rv,g1,cu]
     refine bq.pure (v:=.slice (some ⟨w.heap.size,0,none⟩) len len) (w':=w.alloc (.cells cf e)) ?_ ?_
     ·simp only [execOp,Sem.run_bind]
      have:(parts.map fun (i,x)=>(i,ρ x))=parts.map fun (p:Nat×Operand)=>(p.1,ρ p.2):=rfl
      rw [this,fc];rfl
     ·obtain ⟨G,hG,Ch⟩:=dd.to
      have R1:bR D w0 K0 M' β F' I (([(w.heap.size,.cells cf e (0,0))]++H)++[]) (w.alloc (.cells cf e)):=by
       refine R'.move ?_
       have:=R'.st.new (Gr.alloc w (.cells cf e)) (dG.alloc w (.cells cf e))
       exact this.perm (by classical rw [List.perm_iff_count];intro z;simp only [List.count_append,List.count_nil];omega)
      have AH:M'.length=M.length:=lM
      have hq:(β++[((some ⟨w.heap.size,0,none⟩:Option Addr),len)])[M'.length]?=some (some ⟨w.heap.size,0,none⟩,len):=by rw [← R'.len];simp
      have GR:∀ (i:Nat) r,(chunk k len xs)[i]?=some r→i<len∧r=(xs.drop (i*k)).take k:=by
       intro i r hi
       have aK:i<len:=by have:=(List.getElem?_eq_some_iff.1 hi).1;rwa [uP] at this
       rw [Er k len xs i aK,Option.some.injEq] at hi
       exact ⟨aK,hi.symm⟩
      have hb:=bK.rw (K:=fun w=>K0 w∧az w I) (u:=M'.length) (T:=e) (k:=k) (rows:=chunk k len xs) (H0:=[(w.heap.size,.cells cf e (0,0))]) hq (fun i=>(cf.toList.drop (i*k)).take k) (fun i j=>G (i*k+j)) (fun i r hi=>by
       obtain ⟨aK,rfl⟩:=GR i r hi
       have:=Nat.mul_le_mul_right k (show i+1≤len from aK);rw [Nat.succ_mul] at this
       constructor<;>simp<;>omega) (by
        rw [uP,DW k len _ cX]
        exact ⟨cX,Or.inr ⟨w.heap.size,len,cf,(0,0),rfl,rfl,kZ _,by simpa using cX,Nat.le_refl _,List.take_of_length_le (by omega)⟩⟩) (fun i r j c x hi h1 h2=>by
       obtain ⟨aK,rfl⟩:=GR i r hi
       rw [List.getElem?_take] at h1 h2
       split at h1
       ·rename_i hj
        rw [if_pos hj] at h2
        rw [List.getElem?_drop] at h1 h2
        exact Ch _ c x h1 h2
       ·simp at h1)
      rw [uP,KA,← Cg,← hG] at hb
      have R2:=(R1.take hb).nil rfl
      rw [AH] at R2 hq
      refine ⟨_,_,I,R2,(Ext.app _ _).b _,bL.refl _,fun u hu hn=>?_,.sl hq⟩
      rw [show aS F' M.length _ u=F' u by simp [aS];omega]
      exact hF u hn
    ·simp at h
   ·simp at h
 ·simp at h
end Go.Proofs.YtlinpknagdgphaaGreat
