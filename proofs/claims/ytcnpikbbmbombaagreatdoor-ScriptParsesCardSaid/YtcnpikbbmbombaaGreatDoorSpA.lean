/-
  scriptParses_card, part 1 of 6: merged by program from the texts that it needs.
-/
import Derived.WalkKit
import Derived.Below
import Derived.OrdersIn
import Derived.RangeFuncOwn
import Derived.Maps.Own
import Derived.Deep.LoopGhost
import Derived.Laws.IdiomStrings
import Derived.Lib.SlBytesConst
import Derived.Laws.IdiomRangeMap
import Derived.Laws.Externs
import Derived.Lib.UnsafeStr
import Derived.Lib.Builder
import Derived.Lib.MakeNoZero
import Derived.Test.YtcnpikbbmbombaaGreatDoorProg
import Derived.Deep.Slices
import Derived.ProofKit
import Derived.Carry
import Derived.Shelf.Small.Strs
import Derived.Shelf.Strconv.Itoa0
import Derived.Shelf.Strconv.Itoa1
import Derived.Shelf.LaysM
import Derived.Shelf.Strconv.Itoa2
import Derived.Shelf.Strconv.Itoa3
import Derived.Shelf.Strings.Search1
import Derived.Shelf.Strings.Search2
import Derived.Shelf.Strings.Search3
import Derived.Shelf.Strings.Cut
import Derived.Shelf.Strings.Count
import Derived.Shelf.Strings.Shaped
import Derived.Shelf.Strings.Split
import Derived.Shelf.Unicode.DecodeSlow
import Derived.RangeFuncRecord
import Derived.RangeFuncLeaves
import Derived.Lib.Walk
import Derived.Lib.ItoaMem
import Derived.BigCall
import Derived.BigGuard
import Derived.Test.YtcnpikbbmbombaaGreatDoorRows
import Derived.OpenVars
import Derived.OpenShut
import Derived.LaidMore
import Derived.Lay
import Derived.LaidOnce
import Derived.SizedLaws
import Derived.Test.YtcnpikbbmbombaaGreatDoorTie
import Derived.Test.YtcnpikbbmbombaaGreatDoorCards
import Derived.SevenTiedAt
set_option linter.unusedSimpArgs false
set_option linter.unusedVariables false
set_option linter.unnecessarySimpa false
namespace Go.Proofs.YtcnpikbbmbombaaGreatDoor
open Go.RowKit
abbrev Gr (w w':World):Prop:=Below w.heap.size w w'
theorem Gr.refl (w:World):Gr w w:=Below.refl _ _
theorem Gr.trans {a b c:World} (h:Gr a b) (k:Gr b c):Gr a c:=Below.trans h (k.mono h.size)
theorem Gr.drew (w:World):Gr w w.drew:=(Below.refl _ _).drew
theorem lb {w:World} {b:Nat} {o:Obj} (h:w.heap[b]?=some o):b<w.heap.size:=by
 rcases Nat.lt_or_ge b w.heap.size with h' | h'
 ·exact h'
 ·simp [Array.getElem?_eq_none h'] at h
theorem Jb {w:World} {a:Addr} {v:Value} (h:w.cell? a=some v):a.block<w.heap.size:=by
 rcases Nat.lt_or_ge a.block w.heap.size with h' | h'
 ·exact h'
 ·simp [World.cell?,Array.getElem?_eq_none h'] at h
theorem Gr.tJ {w w':World} (h:Gr w w') {a:Addr} {v:Value} (hc:w.cell? a=some v):w'.cell? a=some v:=by
 rw [Below.cell h (Jb hc)];exact hc
theorem Gr.xD {w w':World} (h:Gr w w') {b:Nat} {o:Obj} (hc:w.heap[b]?=some o):w'.heap[b]?=some o:=by
 rw [h.block b (lb hc)];exact hc
theorem Gr.alloc (w:World) (o:Obj):Gr w (w.alloc o):=(Below.refl _ _).alloc (Nat.le_refl _) _
theorem A4 (w:World) (o:Obj):(w.alloc o).heap[w.heap.size]?=some o:=(MapKept.heap_alloc w o).1
theorem cell_of {w:World} {b:Nat} {c:Array Value} {t:TypeId} {fr:Nat×Nat} (h:w.heap[b]?=some (.cells c t fr)) (i:Nat):w.cell? ⟨b,i,none⟩=c[i]?:=by
 simp [World.cell?,h]
abbrev aq:=List (Nat×Obj)
def keys (H:aq):List Nat:=H.map (·.1)
def Holds (w:World) (H:aq):Prop:=∀ x ∈ H,w.heap[x.1]?=some x.2
theorem Holds.nil (w:World):Holds w []:=by intro x hx;simp at hx
theorem Holds.gr {w w':World} {H:aq} (h:Holds w H) (g:Gr w w'):Holds w' H:=fun x hx=>g.xD (h x hx)
theorem Holds.one {w:World} {b:Nat} {o:Obj} {H:aq} (h:Holds w ((b,o)::H)):w.heap[b]?=some o:=h (b,o) (by simp)
theorem Holds.tail {w:World} {x:Nat×Obj} {H:aq} (h:Holds w (x::H)):Holds w H:=fun y hy=>h y (by simp [hy])
theorem Holds.app {w:World} {H K:aq}:Holds w (H++K)↔Holds w H∧Holds w K:=by
 constructor
 ·intro h;exact ⟨fun x hx=>h x (by simp [hx]),fun x hx=>h x (by simp [hx])⟩
 ·rintro ⟨h1,h2⟩ x hx
  rcases List.mem_append.1 hx with h | h
  ·exact h1 x h
  ·exact h2 x h
theorem Holds.lt {w:World} {H:aq} (h:Holds w H) {b:Nat} (hb:b ∈ keys H):b<w.heap.size:=by
 obtain ⟨x,hx,rfl⟩:=List.mem_map.1 hb
 exact lb (h x hx)
structure dW (w w':World) (H:aq):Prop where
 nd:(keys H).Nodup
 new:∀ b ∈ keys H,w.heap.size≤b
 holds:Holds w' H
theorem dW.nil (w w':World):dW w w' []:=⟨by simp [keys],by simp [keys],Holds.nil _⟩
theorem dW.alloc (w:World) (o:Obj):dW w (w.alloc o) [(w.heap.size,o)]:=⟨by simp [keys],by simp [keys],by intro x hx;simp at hx;subst hx;exact A4 w o⟩
theorem dW.ahead {w0 w w':World} {H:aq} (h:dW w w' H) (g:Gr w0 w):dW w0 w' H:=⟨h.nd,fun b hb=>Nat.le_trans g.size (h.new b hb),h.holds⟩
theorem vn {H K:List Nat} (h:H.Nodup) (k:K.Nodup) (d:∀ b ∈ H,b ∉ K):(H++K).Nodup:=by
 rw [List.nodup_append];exact ⟨h,k,fun a ha b hb e=>d a ha (e▸hb)⟩
theorem iS (H K:aq):keys (H++K)=keys H++keys K:=by simp [keys]
theorem dW.app {w w' iF:World} {H K:aq} (h:dW w w' H) (g0:Gr w w') (k:dW w' iF K) (g:Gr w' iF):dW w iF (K++H) where
 nd:=by
  rw [iS]
  exact vn k.nd h.nd (fun b hb aQ=>by have:=k.new b hb;have:=h.holds.lt aQ;omega)
 new:=by
  intro b hb
  rw [iS] at hb
  rcases List.mem_append.1 hb with e | e
  ·exact Nat.le_trans g0.size (k.new b e)
  ·exact h.new b e
 holds:=Holds.app.2 ⟨k.holds,h.holds.gr g⟩
structure Kp (D:List Nat) (w0 w:World):Prop where
 os:w.os=w0.os
 tape:w.tape=w0.tape
 output:w.output=w0.output
 size:w0.heap.size≤w.heap.size
 block:∀ b,b<w0.heap.size→b ∉ D→w.heap[b]?=w0.heap[b]?
theorem Kp.refl (D:List Nat) (w:World):Kp D w w:=⟨rfl,rfl,rfl,Nat.le_refl _,fun _ _ _=>rfl⟩
theorem Kp.gr {D:List Nat} {w0 w w':World} (h:Kp D w0 w) (g:Gr w w'):Kp D w0 w':=
 ⟨g.os.trans h.os,g.tape.trans h.tape,g.output.trans h.output,Nat.le_trans h.size g.size,fun b hb hd=>by rw [g.block b (Nat.lt_of_lt_of_le hb h.size)];exact h.block b hb hd⟩
theorem Kp.tK {w0 w:World} (h:Kp [] w0 w):Gr w0 w:=⟨h.os,h.tape,h.output,h.size,fun b hb=>h.block b hb (by simp)⟩
theorem Kp.xD {D:List Nat} {w0 w:World} (h:Kp D w0 w) {b:Nat} {o:Obj} (hb:w0.heap[b]?=some o) (hd:b ∉ D):w.heap[b]?=some o:=by
 rw [h.block b (lb hb) hd];exact hb
theorem Kp.holds {D:List Nat} {w0 w:World} (h:Kp D w0 w) {H:aq} (hH:Holds w0 H) (hd:∀ b ∈ keys H,b ∉ D):Holds w H:=
 fun x hx=>h.xD (hH x hx) (hd x.1 (List.mem_map_of_mem hx))
def cC (w:World) (b:Nat) (o:Obj):World:={ w with heap:=w.heap.setIfInBounds b o }
theorem AI {w:World} {b:Nat} (o:Obj) (h:b<w.heap.size):(cC w b o).heap[b]?=some o:=by simp [cC,h]
theorem Ak {w:World} {b c:Nat} (o:Obj) (h:b≠c):(cC w b o).heap[c]?=w.heap[c]?:=by
 simp [cC,Array.getElem?_setIfInBounds_ne h]
theorem Gl (w:World) (b:Nat) (o:Obj):(cC w b o).heap.size=w.heap.size:=by simp [cC]
theorem setCell_eq {w:World} {b i:Nat} {c:Array Value} {t:TypeId} {fr:Nat×Nat} (h:w.heap[b]?=some (.cells c t fr)) (v:Value):w.setCell ⟨b,i,none⟩ v=cC w b (.cells (c.setIfInBounds i v) t fr):=by
 unfold World.setCell cC
 congr 1
 apply Array.ext_getElem?
 intro j
 have hb:=lb h
 rw [Array.getElem?_modify,Array.getElem?_setIfInBounds]
 by_cases e:b=j
 ·subst e
  have hg:w.heap[b]=.cells c t fr:=by rw [Array.getElem?_eq_getElem hb] at h;exact Option.some.inj h
  simp [hb,hg]
 ·simp [e]
structure St (D:List Nat) (w0 w:World) (H:aq):Prop where
 kp:Kp D w0 w
 nd:(keys H).Nodup
 own:∀ b ∈ keys H,w0.heap.size≤b∨b ∈ D
 holds:Holds w H
theorem St.start {w:World} {H:aq} (nd:(keys H).Nodup) (h:Holds w H):St (keys H) w w H:=⟨Kp.refl _ _,nd,fun _ h=>Or.inr h,h⟩
theorem St.none (w:World):St [] w w []:=⟨Kp.refl _ _,by simp [keys],by simp [keys],Holds.nil _⟩
theorem St.gr {D:List Nat} {w0 w w':World} {H:aq} (s:St D w0 w H) (g:Gr w w'):St D w0 w' H:=⟨s.kp.gr g,s.nd,s.own,s.holds.gr g⟩
theorem St.new {D:List Nat} {w0 w w':World} {H K:aq} (s:St D w0 w H) (g:Gr w w') (n:dW w w' K):St D w0 w' (K++H) where
 kp:=s.kp.gr g
 nd:=by
  rw [iS]
  exact vn n.nd s.nd (fun b hb aQ=>by have:=n.new b hb;have:=s.holds.lt aQ;omega)
 own:=by
  intro b hb
  rw [iS] at hb
  rcases List.mem_append.1 hb with e | e
  ·exact Or.inl (Nat.le_trans s.kp.size (n.new b e))
  ·exact s.own b e
 holds:=Holds.app.2 ⟨n.holds,s.holds.gr g⟩
theorem St.alloc {D:List Nat} {w0 w:World} {H:aq} (s:St D w0 w H) (o:Obj):St D w0 (w.alloc o) ((w.heap.size,o)::H):=s.new (Gr.alloc w o) (dW.alloc w o)
theorem St.perm {D:List Nat} {w0 w:World} {H K:aq} (s:St D w0 w H) (p:H.Perm K):St D w0 w K:=
 ⟨s.kp,(List.Perm.map (fun x:Nat×Obj=>x.1) p).nodup_iff.1 s.nd,fun b hb=>s.own b ((List.Perm.map (fun x:Nat×Obj=>x.1) p).mem_iff.2 hb),fun x hx=>s.holds x (p.mem_iff.2 hx)⟩
theorem St.mO {D:List Nat} {w0 w:World} {H K:aq} (s:St D w0 w (H++K)):St D w0 w K:=
 ⟨s.kp,by have:=s.nd;rw [iS] at this;exact (List.nodup_append.1 this).2.1,fun b hb=>s.own b (by rw [iS];exact List.mem_append.2 (Or.inr hb)),(Holds.app.1 s.holds).2⟩
theorem St.vE {D:List Nat} {w0 w:World} {H K:aq} (s:St D w0 w (H++K)):St D w0 w H:=
 ⟨s.kp,by have:=s.nd;rw [iS] at this;exact (List.nodup_append.1 this).1,fun b hb=>s.own b (by rw [iS];exact List.mem_append.2 (Or.inl hb)),(Holds.app.1 s.holds).1⟩
theorem St.set {D:List Nat} {w0 w:World} {b:Nat} {o:Obj} {H:aq} (s:St D w0 w ((b,o)::H)) (o':Obj):St D w0 (cC w b o') ((b,o')::H) where
 kp:=by
  refine ⟨s.kp.os,s.kp.tape,s.kp.output,by rw [Gl];exact s.kp.size,fun c hc hd=>?_⟩
  have kl:b≠c:=by
   intro e;subst e
   rcases s.own b (by simp [keys]) with h | h
   ·omega
   ·exact hd h
  rw [Ak o' kl];exact s.kp.block c hc hd
 nd:=s.nd
 own:=s.own
 holds:=by
  intro x hx
  rcases List.mem_cons.1 hx with e | e
  ·subst e;exact AI o' (lb s.holds.one)
  ·have kl:b≠x.1:=by
    intro e2
    have:=s.nd
    simp only [keys,List.map_cons,List.nodup_cons] at this
    exact this.1 (e2▸List.mem_map_of_mem e)
   rw [Ak o' kl];exact s.holds.tail x e
theorem St.call {D D':List Nat} {w0 w w':World} {H R K:aq} (s:St D w0 w (H++R)) (hD:D'=keys H) (t:St D' w w' K):St D w0 w' (K++R) where
 kp:=by
  refine ⟨t.kp.os.trans s.kp.os,t.kp.tape.trans s.kp.tape,t.kp.output.trans s.kp.output,Nat.le_trans s.kp.size t.kp.size,fun b hb hd=>?_⟩
  rw [t.kp.block b (Nat.lt_of_lt_of_le hb s.kp.size) ?_]
  ·exact s.kp.block b hb hd
  ·intro aQ
   rw [hD] at aQ
   rcases s.own b (by rw [iS];exact List.mem_append.2 (Or.inl aQ)) with h | h
   ·omega
   ·exact hd h
 nd:=by
  rw [iS]
  have h1:=s.mO
  refine vn t.nd h1.nd (fun b hb aQ=>?_)
  rcases t.own b hb with h | h
  ·have:=h1.holds.lt aQ;omega
  ·rw [hD] at h
   have:=s.nd
   rw [iS] at this
   exact (List.nodup_append.1 this).2.2 b h b aQ rfl
 own:=by
  intro b hb
  rw [iS] at hb
  rcases List.mem_append.1 hb with e | e
  ·rcases t.own b e with h | h
   ·exact Or.inl (Nat.le_trans s.kp.size h)
   ·rw [hD] at h;exact s.own b (by rw [iS];exact List.mem_append.2 (Or.inl h))
  ·exact s.own b (by rw [iS];exact List.mem_append.2 (Or.inr e))
 holds:=Holds.app.2 ⟨t.holds,t.kp.holds s.mO.holds (fun b hb aQ=>by
  rw [hD] at aQ
  have:=s.nd
  rw [iS] at this
  exact (List.nodup_append.1 this).2.2 b aQ b hb rfl)⟩
def Dz (w:World) (Φ:Value→aq→Prop):Ending→World→Prop:=fun e w'=>∃ v,e=.returned v∧Gr w w'∧∃ H,Φ v H∧dW w w' H
structure Sl (n:Nat) (a:Act) (E:List (Nat×Value)):Prop where
 size:a.tmps.size=n
 defers:a.defers=[]
 at':∀ x ∈ E,a.eval (.tmp x.1)=x.2
theorem Fm (a:Act) (d:Nat) (v:Value) (h:d<a.tmps.size):(a.put (some d) v).eval (.tmp d)=v:=by
 simp [Act.put,Act.eval,Array.getD,h]
theorem Fh (a:Act) (d s:Nat) (v:Value) (h:d≠s):(a.put (some d) v).eval (.tmp s)=a.eval (.tmp s):=by
 simp only [Act.put,Act.eval,Array.getD_eq_getD_getElem?,Array.getElem?_setIfInBounds,if_neg h]
theorem Hx (a:Act) (d:Option Tmp) (v:Value):(a.put d v).tmps.size=a.tmps.size:=by
 cases d<;>simp [Act.put]
theorem put_defers (a:Act) (d:Option Tmp) (v:Value):(a.put d v).defers=a.defers:=by
 cases d<;>simp [Act.put]
def rq:List Value→Nat→List (Nat×Value)
 | [],_=>[]
 | v::r,i=>(i,v)::rq r (i+1)
theorem Gm:∀ (vs:List Value) (i:Nat) (x:Nat×Value),x ∈ rq vs i→i≤x.1∧vs[x.1-i]?=some x.2:=by
 intro vs
 induction vs with
 | nil=>intro i x hx;simp [rq] at hx
 | cons v r ih=>
  intro i x hx
  simp only [rq,List.mem_cons] at hx
  rcases hx with e | e
  ·subst e;simp
  ·obtain ⟨h1,h2⟩:=ih (i+1) x e
   refine ⟨by omega,?_⟩
   rw [show x.1-i=(x.1-(i+1))+1 by omega];simpa using h2
theorem enter {P:Program} {f:FuncId} {fn:Func} {c:Code} {args:List Value} {w:World} {R:Ending→World→Prop}
  (hf:P.funcs[f]?=some fn) (hb:fn.body=some c) {n:Nat} (hn:fn.ntmps=n) (hle:args.length≤n)
  (h:∀ a,Sl n a (rq args 0)→c.wp P (bodyPost P fn R) a w):Calls P f args.toArray w R:=by
 refine calls_of_wp hf hb (h _ ⟨?_,rfl,?_⟩)
 ·simp;omega
 ·intro x hx
  obtain ⟨h1,h2⟩:=Gm args 0 x hx
  simp only [Nat.sub_zero] at h2
  have aO:x.1<args.length:=by
   rcases Nat.lt_or_ge x.1 args.length with h' | h'
   ·exact h'
   ·simp [List.getElem?_eq_none h'] at h2
  rw [List.getElem?_eq_getElem aO] at h2
  simp [Act.eval,Array.getD_eq_getD_getElem?,Array.getElem?_append,aO,Option.some.inj h2]
end Go.Proofs.YtcnpikbbmbombaaGreatDoor
namespace Go.Proofs.YtcnpikbbmbombaaGreatDoor
open Go.RowKit
def a8 (P:Program) (o:Oper) (ρ:Operand→Value) (w:World) (Φ:Value→World→Prop):Prop:=
 match (execOp ρ o).run P w with
 | .ok (.value v) w'=>Φ v w'
 | .ok .skip w'=>Φ undef w'
 | .ok (.enter f args) w'=>Calls P f args w' fun e iF=>∃ v,e=.returned v∧Φ v iF
 | .ok (.round l f tmps assign body) w'=>RoundIn Fence.wide 0 P l f tmps assign body w' fun e iF=>∃ v,e=.returned v∧Φ v iF
 | _=>False
abbrev Fl (ro:Option Nat):Fence:={ Fence.wide with round:=ro }
theorem FQ {ro:Option Nat} {n:Nat} {P:Program} {f:FuncId} {args:Array Value} {w:World} {R:Ending→World→Prop} (h:Calls P f args w R):CallsIn (Fl ro) n P f args w R:=(callsIn_wide (n:=n)).2 h
theorem a8.D9 {ro:Option Nat} {P:Program} {o:Oper} {ρ:Operand→Value} {w:World} {Φ:Value→World→Prop} (h:a8 P o ρ w Φ):(o.semAt ro ρ).run P w=(execOp ρ o).run P w:=by
 rw [Oper.semAt_eq]
 intro c hc
 unfold a8 at h
 simp only [execOp,hc,Sem.run_bind] at h
 cases hr:(resolve ρ c o.type).run P w with
 | ok v w'=>rw [hr] at h;simp at h
 | halt x w'=>rw [hr] at h;simp [Result.andThen] at h
theorem a8.wp {ro:Option Nat} {P:Program} {o:Oper} {a:Act} {w:World} {Φ:Value→World→Prop} {next:Act→World→Prop} {Q:Exit→Act→World→Prop}
  (h:a8 P o a.eval w Φ) (hn:∀ v w',Φ v w'→next (a.put o.dst v) w'):o.wpIn (Fl ro) 0 P a w next Q:=by
 refine ⟨fun _ _=>trivial,?_⟩
 rw [show (Fl ro).round=ro from rfl,h.D9]
 unfold a8 at h
 generalize (execOp a.eval o).run P w=r at *
 cases r with
 | ok n w'=>
  cases n
  case value v=>exact hn _ _ h
  case skip=>exact hn _ _ h
  case enter f args=>
   refine ⟨fun hh=>by simp [Fl,Fence.wide] at hh,FQ (Calls.mono h ?_)⟩
   rintro e iF ⟨v,rfl,hv⟩
   exact hn _ _ hv
  case round l f tmps assign body=>
   refine ⟨fun hh=>by simp [Fl,Fence.wide] at hh,?_⟩
   have h':RoundIn (Fl ro) 0 P l f tmps assign body w' fun e iF=>∃ v,e=.returned v∧Φ v iF:=h
   refine RoundIn.mono h' ?_
   rintro e iF ⟨v,rfl,hv⟩
   exact hn _ _ hv
  all_goals exact h.elim
 | halt x w'=>exact h.elim
theorem a8.pure {P:Program} {o:Oper} {ρ:Operand→Value} {w w':World} {Φ:Value→World→Prop} {v:Value} (h:(execOp ρ o).run P w=.ok (.value v) w') (hv:Φ v w'):a8 P o ρ w Φ:=by
 unfold a8;rw [h];exact hv
theorem a8.skip {P:Program} {o:Oper} {ρ:Operand→Value} {w w':World} {Φ:Value→World→Prop} (h:(execOp ρ o).run P w=.ok .skip w') (hv:Φ undef w'):a8 P o ρ w Φ:=by
 unfold a8;rw [h];exact hv
theorem a8.call {P:Program} {o:Oper} {ρ:Operand→Value} {w:World} {Φ:Value→World→Prop} {f:FuncId} {args:Array Value} (h:(execOp ρ o).run P w=.ok (.enter f args) w) (hv:Calls P f args w fun e w'=>∃ v,e=.returned v∧Φ v w'):a8 P o ρ w Φ:=by
 unfold a8;rw [h];exact hv
theorem a8.mono {P:Program} {o:Oper} {ρ:Operand→Value} {w:World} {Φ Ψ:Value→World→Prop} (h:a8 P o ρ w Φ) (hi:∀ v w',Φ v w'→Ψ v w'):a8 P o ρ w Ψ:=by
  unfold a8 at *
  generalize (execOp ρ o).run P w=r at *
  cases r with
  | ok n w'=>
    cases n<;>simp only at h ⊢<;>first
      | exact hi _ _ h
      | (refine Calls.mono h ?_
         rintro e iF ⟨v,rfl,hv⟩
         exact ⟨v,rfl,hi _ _ hv⟩)
      | (refine RoundIn.mono h ?_
         rintro e iF ⟨v,rfl,hv⟩
         exact ⟨v,rfl,hi _ _ hv⟩)
  | halt x w'=>exact h.elim
def rr (ops:Array Oper) (i:Nat):Option Tmp:=(ops[i]?).bind (·.dst)
abbrev pl (f:Value→aq→Prop):List Value→Value→aq→Prop:=fun _=>f
def blk (o:Obj):Value→aq→Prop:=fun v H=>∃ b,v=.pointer (some ⟨b,0,none⟩)∧H=[(b,o)]
def done (L:Array Bool) (i:Nat):Prop:=L.getD i true=true
variable {P:Program} {ops:Array Oper} {Q:Exit→Act→World→Prop} {ro:Option Nat}
theorem Al {a:Act} {j d:Nat} (hd:rr ops j=some d) (hs:d<a.tmps.size):yielded ops a.tmps j=match a.eval (.tmp d) with | .bool b=>some b | _=>none:=by
 unfold yielded
 unfold rr at hd
 rw [hd]
 simp only [Option.bind_some,Act.eval,Array.getD_eq_getD_getElem?,Array.getElem?_eq_getElem hs,Option.getD_some]
 cases a.tmps[d]<;>rfl
def kC (ro:Option Nat) (P:Program) (ops:Array Oper) (Q:Exit→Act→World→Prop) (Rk:World→Prop):Nat→Array Bool→Act→World→Prop
 | 0,L,a,w=>Rk w∧Region.ready .any ops L=[]∧Q .normal a w
 | fuel+1,L,a,w=>Rk w∧(Region.ready .any ops L=[]→Q .normal a w)∧∀ i ∈ Region.ready .any ops L,wpOpIn (Fl ro) 0 P ops Q i (kC ro P ops Q Rk fuel (L.setIfInBounds i true)) a w
theorem kC.rk {Rk:World→Prop} {fuel:Nat} {L:Array Bool} {a:Act} {w:World} (h:kC ro P ops Q Rk fuel L a w):Rk w:=by cases fuel<;>exact h.1
theorem kC.to {Rk:World→Prop}:∀ {fuel:Nat} {L:Array Bool} {a:Act} {w:World},kC ro P ops Q Rk fuel L a w→wpAnyIn (Fl ro) 0 P .any ops Q fuel L a w
 | 0,_,_,_,h=>h.2
 | _+1,_,_,_,h=>⟨h.2.1,fun i hi=>wpOpIn_mono (fun _ _ h=>kC.to h) (h.2.2 i hi)⟩
theorem Jc {o:Oper} {ρ:Operand→Value} {v:Value} {w w':World} (h:(execOp ρ o).run P w=.ok (.value v) w'):(o.semAt ro ρ).run P w=.ok (.value v) w':=by rw [(a8.pure (Φ:=fun _ _=>True) h trivial).D9];exact h
theorem Gn (o:Oper) (hs:∀ cs b,o.op≠.select cs b) (a:Act) (dst:Option Tmp) (v:Value) (h:∀ d,dst=some d→d ∉ o.looksAt ops):o.semAt ro (a.put dst v).eval=o.semAt ro a.eval:=by
 have e:=execOp_put o hs a dst v h
 unfold Oper.semAt
 cases ro with
 | none=>exact e
 | some l=>
  cases ho:o.op<;>first | exact e | skip
  rename_i c
  have e2:=resolve_congr (ρ:=(a.put dst v).eval) (ρ':=a.eval) c o.type (fun x hx=>Act.eval_put fun d hd Oe=>h d hd (by
   subst Oe
   exact List.mem_append_left _ (List.mem_filterMap.2 ⟨.tmp d,by rw [ho];simpa [Op.operands] using hx,rfl⟩)))
  simp only [e2]
theorem z8 {Y:Act→Prop} {j:Nat} {oi oj:Oper} {v:Value} (hj:ops[j]?=some oj) (mw:oi.apart ops oj=true) (Of:∀ cs b,oj.op≠.select cs b)
  (cL:∀ a,Y a→∀ u,Y (a.put oj.dst u)) (LM:∀ a d,Y a→Y { a with defers:=d::a.defers })
  (hQ:∀ c a w,Q (.panic c) (a.put oi.dst v) w→Q (.panic c) a w) {K:Act→World→Prop} {a:Act} {w:World}
  (hy:Y a) (h:Go.wpOpIn (Fl ro) 0 P ops Q j K (a.put oi.dst v) w):Go.wpOpIn (Fl ro) 0 P ops Q j (fun a' w'=>Y a'∧K (a'.put oi.dst v) w') a w:=by
 obtain ⟨h1,h2,h3⟩:=Oper.apart_spec mw
 unfold Go.wpOpIn at *
 simp only [hj] at *
 rw [wanted_put oj a oi.dst v h1] at h
 split
 ·rename_i hw
  simp only [hw,if_true] at h
  refine ⟨fun _ _=>trivial,?_⟩
  replace h:=h.2
  rw [Gn oj Of a oi.dst v h1] at h
  generalize (oj.semAt (Fl ro).round a.eval).run P w=r at *
  cases r with
  | ok n w'=>
   cases n<;>simp only [Oper.uponIn] at h ⊢
   case value u=>exact ⟨cL a hy u,by rw [← Act.put_comm a v u h2];exact h⟩
   case skip=>exact ⟨cL a hy _,by rw [← Act.put_comm a v undef h2];exact h⟩
   case defer d=>
    refine ⟨cL _ (LM a d hy) _,?_⟩
    rw [← Act.put_comm _ v undef h2,← Act.put_defers]
    exact h
   case enter f args=>
    refine ⟨h.1,CallsIn.mono h.2 fun e iF he=>?_⟩
    cases e with
    | returned u=>exact ⟨cL a hy u,by rw [← Act.put_comm a v u h2];exact he⟩
    | panicked c=>exact hQ _ _ _ he
    | outgrown=>exact he
   case row row args=>exact ⟨h.1,RowsIn.mono h.2 fun u iF he=>⟨cL a hy u,by rw [← Act.put_comm a v u h2];exact he⟩⟩
   case round l f tmps assign body=>
    refine ⟨h.1,RoundIn.mono h.2 fun e iF he=>?_⟩
    cases e with
    | returned u=>exact ⟨cL a hy u,by rw [← Act.put_comm a v u h2];exact he⟩
    | panicked c=>exact hQ _ _ _ he
    | outgrown=>exact he
  | halt x w'=>
   cases x<;>simp only [Oper.uponIn] at h ⊢
   case panic u=>exact hQ _ _ _ h
 ·rename_i hw
  simp only [hw] at h
  exact ⟨fun _ _=>trivial,cL a hy _,by rw [← Act.put_comm a v undef h2];exact h.2⟩
def jx (P:Program) (ops:Array Oper) (Q:Exit→Act→World→Prop):List (Oper×Bool)→Act→World→Prop
 | [],a,w=>Q .normal a w
 | (o,pu)::r,a,w=>bif pu then o.guard=none∧∃ v,(∀ w',(execOp a.eval o).run P w'=.ok (.value v) w')∧jx P ops Q r (a.put o.dst v) w
  else match o.guard with
   | none=>a8 P o a.eval w (fun v w'=>jx P ops Q r (a.put o.dst v) w')
   | some (j,want)=>(yielded ops a.tmps j=some want→a8 P o a.eval w (fun v w'=>jx P ops Q r (a.put o.dst v) w'))∧(yielded ops a.tmps j≠some want→jx P ops Q r (a.put o.dst undef) w)
def pick (ops:Array Oper):List (Nat×Bool)→List (Oper×Bool)
 | []=>[]
 | (i,pu)::r=>match ops[i]? with
  | some o=>(o,pu)::pick ops r
  | none=>pick ops r
theorem KK {o:Oper} {pu:Bool} {r:List (Oper×Bool)} {i:Nat} (ho:ops[i]?=some o) {a:Act} {w:World} {K:Act→World→Prop} (hK:∀ a w,jx P ops Q r a w→K a w) (h:jx P ops Q ((o,pu)::r) a w):wpOpIn (Fl ro) 0 P ops Q i K a w:=by
 unfold wpOpIn
 simp only [ho]
 unfold jx at h
 cases pu with
 | true=>
  simp only [cond_true] at h
  obtain ⟨hg,v,hv,h⟩:=h
  simp only [Region.wanted,hg,if_true]
  exact a8.wp (Φ:=fun v w'=>jx P ops Q r (a.put o.dst v) w') (a8.pure (hv w) h) (fun v w' h=>hK _ _ h)
 | false=>
  simp only [cond_false] at h
  cases hg:o.guard with
  | none=>
   rw [hg] at h
   simp only [Region.wanted,hg,if_true]
   exact a8.wp h (fun v w' h=>hK _ _ h)
  | some g=>
   obtain ⟨j,want⟩:=g
   rw [hg] at h
   simp only [Region.wanted,hg]
   by_cases hy:yielded ops a.tmps j=some want
   ·rw [if_pos (by simp [hy])]
    exact a8.wp (h.1 hy) (fun v w' h=>hK _ _ h)
   ·rw [if_neg (by simp [hy])]
    exact ⟨fun _ _=>trivial,hK _ _ (h.2 hy)⟩
theorem Gp:∀ (l:List Nat) (os:List Oper) (a:Act) (w:World),l.map (fun i=>ops[i]?)=os.map some→jx P ops Q (os.map (·,false)) a w→wpOpsIn (Fl ro) 0 P ops Q l a w:=by
 intro l
 induction l with
 | nil=>intro os a w h hl;cases os with
  | nil=>exact hl
  | cons=>simp at h
 | cons i r ih=>
  intro os a w h hl
  cases os with
  | nil=>simp at h
  | cons o os=>
   simp only [List.map_cons,List.cons.injEq] at h
   rw [wpOpsIn_cons]
   exact KK h.1 (fun a w h'=>ih os a w h.2 h') hl
theorem Fz {id:Nat} {a:Act} {w:World} (h:jx P ops Q (ops.toList.map (·,false)) a w):(Code.region id ops false).wpIn (Fl ro) 0 P Q a w:=by
 refine wpIn_region (Gp _ ops.toList a w ?_ h)
 apply List.ext_getElem?
 intro i
 simp only [List.getElem?_map,Array.getElem?_toList]
 rcases Nat.lt_or_ge i ops.size with hi | hi
 ·simp [List.getElem?_range hi,hi]
 ·simp [hi]
end Go.Proofs.YtcnpikbbmbombaaGreatDoor
namespace Go.Proofs.YtcnpikbbmbombaaGreatDoor
open Go.Maps
section
variable {κ:Type} [DecidableEq κ]
def look (uJ:List (κ×Value)) (k:κ):Option Value:=(uJ.find? (fun x=>decide (x.1=k))).map (·.2)
def drop (uJ:List (κ×Value)) (k:κ):List (κ×Value):=uJ.filter (fun x=>!decide (x.1=k))
end
section
variable {κ:Type} [DecidableEq κ] {P:Program} {K e t:TypeId} {enc:κ→Value} {o:Obj} {uJ:List (κ×Value)} {w:World} {r:Nat}
omit [DecidableEq κ] in
end
end Go.Proofs.YtcnpikbbmbombaaGreatDoor
namespace Go.Proofs.YtcnpikbbmbombaaGreatDoor
open Go.RowKit
section
variable {P:Program} {ρ:Operand→Value} {w:World} {Φ:Value→World→Prop} {d:Option Tmp} {ty:TypeId} {pos:String} {aft:Array Edge} {gd:Option (Nat×Bool)}
def n1 (P:Program) (s:TypeId) (f:Nat):Option Nat:=
 match P.underlying s with
 | some (.struct fs)=>match fs[f]? with
  | some x=>match P.info? x.type with
   | some i=>if i.size=0 then none else some x.offset
   | none=>none
  | none=>none
 | _=>none
theorem FA {s:TypeId} {f off:Nat} (hf:n1 P s f=some off) (a:Addr):(Instr.fieldAt s (.pointer (some a)) f).run P w=.ok (.pointer (some (a.add off))) w:=by
 unfold n1 at hf
 cases hu:P.underlying s with
 | none=>simp [hu] at hf
 | some u=>
  cases u<;>simp only [hu] at hf<;>try contradiction
  rename_i fs
  cases hx:fs[f]? with
  | none=>simp [hx] at hf
  | some x=>
   simp only [hx] at hf
   cases hi:P.info? x.type with
   | none=>simp [hi] at hf
   | some i=>
    simp only [hi] at hf
    split at hf
    ·contradiction
    ·rename_i bJ
     cases hf
     simp only [Instr.fieldAt,Sem.run_bind,run_underlying hu,Result.andThen_ok,hx,Instr.sureAddr,Sem.run_pure,fieldPlace,sizeOf,typeInfo,run_program,hi,bJ,if_false]
theorem add_eq (b i n:Nat):(⟨b,i,none⟩:Addr).add n=⟨b,i+n,none⟩:=by
 unfold Addr.add;split
 ·rename_i h;subst h;rfl
 ·rfl
theorem KL {x:Operand} {v:Value} (h:ρ x=v):(execOp ρ ⟨d,.move x,ty,pos,aft,gd⟩).run P w=.ok (.value v) w:=by subst h;rfl
theorem Hy {x:Operand} {v:Value} (h:ρ x=v):(execOp ρ ⟨d,.assign x,ty,pos,aft,gd⟩).run P w=.ok (.value v) w:=by subst h;rfl
theorem FR {x:Operand} {a:Addr} (h:ρ x=.pointer (some a)):(execOp ρ ⟨d,.nilCheck x,ty,pos,aft,gd⟩).run P w=.ok (.value (.pointer (some a))) w:=by simp only [execOp,h];rfl
theorem Gq {x:Operand} {vs:Array Value} {i:Nat} {v:Value} (h:ρ x=.tuple vs) (hv:vs[i]?=some v):(execOp ρ ⟨d,.extract x i,ty,pos,aft,gd⟩).run P w=.ok (.value v) w:=by simp only [execOp,h,Instr.extract,hv];rfl
def scalar (P:Program) (t:TypeId):Bool:=match P.underlying t with | some (.struct _)=>false | some (.array _ _)=>false | some _=>true | none=>false
theorem zX {t:TypeId} (h:scalar P t=true):(isAgg t).run P w=.ok false w:=by
 unfold scalar at h
 cases hu:P.underlying t with
 | none=>simp [hu] at h
 | some u=>cases u<;>simp [hu] at h<;>simp [isAgg,Sem.run_bind,run_underlying hu]
theorem Fc {t:TypeId} {a:Addr} {v:Value} (ht:scalar P t=true) (hc:w.cell? a=some v):(Instr.loadAt t (.pointer (some a))).run P w=.ok v w:=by
 simp [Instr.loadAt,Instr.sureAddr,loadVar,Sem.run_bind,zX ht,load,Sem.run,hc]
def ng (P:Program) (t:TypeId) (n:Nat):Bool:=(match P.underlying t with | some (.struct _)=>true | some (.array _ _)=>true | _=>false)&&(match P.info? t with | some i=>i.size==n | none=>false)
theorem run_loadCellsFrom {a:Addr} {vs:List Value}:∀ (i:Nat) (acc:Array Value),(∀ j (hj:j<vs.length),w.cell? (a.add (i+j))=some vs[j])→(loadCellsFrom a i vs.length acc).run P w=.ok (acc++vs.toArray) w:=by
 induction vs with
 | nil=>intro i acc _;simp [loadCellsFrom]
 | cons v r ih=>
  intro i acc h
  have h0:=h 0 (by simp)
  simp only [Nat.add_zero,List.getElem_cons_zero] at h0
  have hl:(load (a.add i)).run P w=.ok v w:=by simp [load,Sem.run,h0]
  simp only [List.length_cons,loadCellsFrom,Sem.run_bind,hl,Result.andThen_ok]
  rw [ih (i+1) (acc.push v) (fun j hj=>by have:=h (j+1) (by simp;omega);rw [show i+1+j=i+(j+1) by omega];simpa using this)]
  simp
theorem zZ {t:TypeId} {n:Nat} (h:ng P t n=true):(isAgg t).run P w=.ok true w∧(sizeOf t).run P w=.ok n w:=by
 unfold ng at h
 simp only [Bool.and_eq_true] at h
 constructor
 ·cases hu:P.underlying t with
  | none=>simp [hu] at h
  | some u=>cases u<;>simp [hu] at h<;>simp [isAgg,Sem.run_bind,run_underlying hu]
 ·cases hi:P.info? t with
  | none=>simp [hi] at h
  | some i=>
   simp only [hi,beq_iff_eq] at h
   simp [sizeOf,typeInfo,Sem.run_bind,hi,h.2]
theorem Fi {t:TypeId} {a:Addr} {vs:List Value} (ht:ng P t vs.length=true) (hc:∀ j (hj:j<vs.length),w.cell? (a.add j)=some vs[j]):(Instr.loadAt t (.pointer (some a))).run P w=.ok (.agg vs.toArray) w:=by
 have h:=run_loadCellsFrom (P:=P) (w:=w) (a:=a) (vs:=vs) 0 #[] (by simpa using hc)
 simp [Instr.loadAt,Instr.sureAddr,loadVar,Sem.run_bind,(zZ (w:=w) ht).1,(zZ (w:=w) ht).2,loadCells,h]
theorem FT {t:TypeId} {z:Value} (hz:(zeroValue t).run P w=.ok z w):(Instr.alloc t true (.tuple #[])).run P w=.ok (.pointer (some ⟨w.heap.size,0,none⟩)) (w.alloc (.cells z.cells t)):=by
 simp [Instr.alloc,Sem.run_bind,hz,newVar,newRow,newObj,Sem.run]
theorem Jd {t:TypeId} {z:Value} (hz:(zeroValue t).run P w=.ok z w) (aH:Φ (.pointer (some ⟨w.heap.size,0,none⟩)) (w.alloc (.cells z.cells t))):a8 P ⟨d,.alloc t,ty,pos,aft,gd⟩ ρ w Φ:=
 .pure (by simp only [execOp,Sem.run_bind,FT hz,Result.andThen_ok,Sem.run_pure]) aH
theorem A5 {t:TypeId} {z:Value} (hz:(zeroValue t).run P w=.ok z w) (aH:∀ b w',Gr w w'→dW w w' [(b,.cells z.cells t)]→Φ (.pointer (some ⟨b,0,none⟩)) w'):a8 P ⟨d,.alloc t,ty,pos,aft,gd⟩ ρ w Φ:=
 Jd hz (aH _ _ (Gr.alloc _ _) (dW.alloc _ _))
theorem LN {t:TypeId} {x:Operand} {v:Value} (h:ρ x=v) (aH:Φ (.pointer (some ⟨w.heap.size,0,none⟩)) (w.alloc (.cells v.cells t))):a8 P ⟨d,.box t x,ty,pos,aft,gd⟩ ρ w Φ:=
 .pure (v:=.pointer (some ⟨w.heap.size,0,none⟩)) (w':=w.alloc (.cells v.cells t)) (by simp [execOp,h,Instr.box,Sem.run_bind,newVar,newRow,newObj,Sem.run]) aH
theorem KM {t:TypeId} {x:Operand} {v:Value} (h:ρ x=v) (aH:∀ b w',Gr w w'→dW w w' [(b,.cells v.cells t)]→Φ (.pointer (some ⟨b,0,none⟩)) w'):a8 P ⟨d,.box t x,ty,pos,aft,gd⟩ ρ w Φ:=
 LN h (aH _ _ (Gr.alloc _ _) (dW.alloc _ _))
def bQ:Value→Bool
 | .agg _ | .tuple _=>false
 | _=>true
theorem run_store {b i:Nat} {c:Array Value} {t:TypeId} {v:Value} (hb:w.heap[b]?=some (.cells c t (0,0))) (hi:i<c.size) (hv:bQ v=true):(store ⟨b,i,none⟩ v).run P w=.ok () (cC w b (.cells (c.setIfInBounds i v) t (0,0))):=by
 have hc:w.cell? ⟨b,i,none⟩=some c[i]:=by rw [cell_of hb];simp [hi]
 have hf:w.frozen? ⟨b,i,none⟩=false:=by simp [World.frozen?,hb]
 rw [← setCell_eq hb]
 cases v<;>simp [bQ] at hv<;>simp [store,Sem.run,hc,hf]
def cA (c:Array Value):Nat→List Value→Array Value
 | _,[]=>c
 | i,v::r=>cA (c.setIfInBounds i v) (i+1) r
theorem lS (c:Array Value) (i:Nat) (vs:List Value):(cA c i vs).size=c.size:=by
 induction vs generalizing c i with
 | nil=>rfl
 | cons v r ih=>rw [cA,ih];simp
theorem Gs (w:World) (b:Nat) (o o':Obj):cC (cC w b o) b o'=cC w b o':=by
 simp [cC]
theorem o3 {b:Nat} {t:TypeId}:∀ (vs:List Value) (w:World) (c:Array Value) (i j:Nat),w.heap[b]?=some (.cells c t (0,0))→i+j+vs.length≤c.size→(∀ v ∈ vs,bQ v=true)→(storeCells ⟨b,i,none⟩ vs j).run P w=.ok () (cC w b (.cells (cA c (i+j) vs) t (0,0)))
 | [],w,c,i,j,hb,_,_=>by
  have:cC w b (.cells c t (0,0))=w:=by
   unfold cC
   have aO:=lb hb
   have:w.heap.setIfInBounds b (.cells c t (0,0))=w.heap:=by
    apply Array.ext_getElem?
    intro k
    rw [Array.getElem?_setIfInBounds]
    by_cases e:b=k
    ·subst e;simp [aO];rw [Array.getElem?_eq_getElem aO] at hb;exact (Option.some.inj hb).symm
    ·simp [e]
   rw [this]
  simp [storeCells,cA,this]
 | v::r,w,c,i,j,hb,hl,hv=>by
  simp only [List.length_cons] at hl
  have ha:(⟨b,i,none⟩:Addr).add j=⟨b,i+j,none⟩:=by
   unfold Addr.add;split
   ·rename_i h;subst h;rfl
   ·rfl
  have h1:=run_store (P:=P) hb (show i+j<c.size by omega) (hv v (by simp))
  have h2:=o3 r (cC w b (.cells (c.setIfInBounds (i+j) v) t (0,0))) (c.setIfInBounds (i+j) v) i (j+1) (AI _ (lb hb)) (by simp;omega) (fun x hx=>hv x (by simp [hx]))
  simp only [storeCells,Sem.run_bind,ha,h1,Result.andThen_ok,h2,Gs]
  rfl
theorem FB {b i:Nat} {c:Array Value} {t u:TypeId} {v:Value} {n:Nat} (hn:(P.info? u).map (·.size)=some n) (hb:w.heap[b]?=some (.cells c t (0,0))) (hv:v.cells.size=n) (hi:i+n≤c.size) (ez:∀ x ∈ v.cells.toList,bQ x=true):
  (Instr.storeAt u (.pointer (some ⟨b,i,none⟩)) v).run P w=.ok () (cC w b (.cells (cA c i v.cells.toList) t (0,0))):=by
 cases fV:P.info? u with
 | none=>simp [fV] at hn
 | some inf=>
  simp only [fV,Option.map_some,Option.some.injEq] at hn
  have hs:(sizeOf u).run P w=.ok n w:=by simp [sizeOf,typeInfo,Sem.run_bind,fV,hn]
  have h:=o3 (P:=P) v.cells.toList w c i 0 hb (by simp [hv];omega) ez
  simp only [Instr.storeAt,Instr.sureAddr,Sem.run_bind,Sem.run_pure,Result.andThen_ok,storeVar,hs,hv,ne_eq,not_true_eq_false,if_false]
  simpa using h
theorem vZ {u:TypeId} {x y:Operand} {b i:Nat} {c:Array Value} {t:TypeId} {v:Value} (n:Nat) (hn:(P.info? u).map (·.size)=some n) (hx:ρ x=.pointer (some ⟨b,i,none⟩)) (hy:ρ y=v) (hb:w.heap[b]?=some (.cells c t (0,0))) (hv:v.cells.size=n) (hi:i+n≤c.size) (ez:∀ x ∈ v.cells.toList,bQ x=true)
  (aH:Φ undef (cC w b (.cells (cA c i v.cells.toList) t (0,0)))):a8 P ⟨d,.store u x y,ty,pos,aft,gd⟩ ρ w Φ:=
 .skip (by simp only [execOp,hx,hy,Sem.run_bind,FB hn hb hv hi ez,Result.andThen_ok,Sem.run_pure]) aH
theorem Fq {f:FuncId} {fn:Func} (hf:P.funcs[f]?=some fn) (hb:fn.body.isSome=true) (hn:(fn.name == "runtime.NumGoroutine")=false) (args:Array Value):(callFunc f args).run P w=.ok (.enter f args) w:=by
 have h1:¬ fn.body=none:=by cases hx:fn.body<;>simp_all
 have h2:¬ fn.name = "runtime.NumGoroutine":=by simpa using hn
 simp [callFunc,Sem.run_bind,hf,h1,h2]
def iT (P:Program) (f:FuncId):Bool:=match P.funcs[f]? with | some fn=>fn.body.isSome&&!(fn.name == "runtime.NumGoroutine") | none=>false
theorem A6 {f:FuncId} (h:iT P f=true) (args:Array Value):(callFunc f args).run P w=.ok (.enter f args) w:=by
 unfold iT at h
 cases hf:P.funcs[f]? with
 | none=>simp [hf] at h
 | some fn=>simp only [hf,Bool.and_eq_true,Bool.not_eq_true'] at h;exact Fq hf h.1 h.2 args
theorem qH {g:Operand} {args:Array Operand} {fG:Array TypeId} {f:FuncId} {vs cD:Array Value} (hg:ρ g=.func (.func f) #[] cD) (hf:iT P f=true) (ha:args.map ρ=vs)
  (aH:Calls P f (vs++cD) w fun e w'=>∃ v,e=.returned v∧Φ v w'):a8 P ⟨d,.call ⟨.value g,args,fG⟩,ty,pos,aft,gd⟩ ρ w Φ:=
 .call (f:=f) (args:=vs++cD) (by simp [execOp,resolve,hg,ha,Deferred.ofValue,invoke,A6 hf]) aH
theorem LO {t t':TypeId} {x y:Operand} {k:IntKind} {a b:Int} {c:Bool} (h:ρ x=.int k a) (h':ρ y=.int k b) (hc:(a==b)=c) (aH:Φ (.bool c) w):a8 P ⟨d,.binOp .eql t x y t',ty,pos,aft,gd⟩ ρ w Φ:=by
 subst hc;exact .pure (v:=.bool (a==b)) (by simp [execOp,h,h',eqGuard,binOp,Op.intCmp]) aH
theorem LP {t t':TypeId} {x y:Operand} {k:IntKind} {a b:Int} {c:Bool} (h:ρ x=.int k a) (h':ρ y=.int k b) (hc:(a != b)=c) (aH:Φ (.bool c) w):a8 P ⟨d,.binOp .neq t x y t',ty,pos,aft,gd⟩ ρ w Φ:=by
 subst hc;exact .pure (v:=.bool (a != b)) (by simp [execOp,h,h',eqGuard,binOp,Op.intCmp]) aH
theorem LQ {t t':TypeId} {x y:Operand} {k:IntKind} {a b:Int} {c:Bool} (h:ρ x=.int k a) (h':ρ y=.int k b) (hc:(decide (a<b))=c) (aH:Φ (.bool c) w):a8 P ⟨d,.binOp .lss t x y t',ty,pos,aft,gd⟩ ρ w Φ:=by
 subst hc;exact .pure (v:=.bool (decide (a<b))) (by simp [execOp,h,h',eqGuard,binOp,Op.intCmp]) aH
theorem LR {t t':TypeId} {x y:Operand} {k:IntKind} {a b:Int} {c:Bool} (h:ρ x=.int k a) (h':ρ y=.int k b) (hc:(decide (a≤b))=c) (aH:Φ (.bool c) w):a8 P ⟨d,.binOp .leq t x y t',ty,pos,aft,gd⟩ ρ w Φ:=by
 subst hc;exact .pure (v:=.bool (decide (a≤b))) (by simp [execOp,h,h',eqGuard,binOp,Op.intCmp]) aH
theorem LU {t t':TypeId} {x y:Operand} {k:IntKind} {a b:Int} {c:Bool} (h:ρ x=.int k a) (h':ρ y=.int k b) (hc:(decide (b<a))=c) (aH:Φ (.bool c) w):a8 P ⟨d,.binOp .gtr t x y t',ty,pos,aft,gd⟩ ρ w Φ:=by
 subst hc;exact .pure (v:=.bool (decide (b<a))) (by simp [execOp,h,h',eqGuard,binOp,Op.intCmp]) aH
theorem LV {t t':TypeId} {x y:Operand} {k:IntKind} {a b:Int} {c:Bool} (h:ρ x=.int k a) (h':ρ y=.int k b) (hc:(decide (b≤a))=c) (aH:Φ (.bool c) w):a8 P ⟨d,.binOp .geq t x y t',ty,pos,aft,gd⟩ ρ w Φ:=by
 subst hc;exact .pure (v:=.bool (decide (b≤a))) (by simp [execOp,h,h',eqGuard,binOp,Op.intCmp]) aH
theorem LW {t t':TypeId} {x y:Operand} {k:IntKind} {a b c:Int} (h:ρ x=.int k a) (h':ρ y=.int k b) (hc:k.wrap (a+b)=c) (aH:Φ (.int k c) w):a8 P ⟨d,.binOp .add t x y t',ty,pos,aft,gd⟩ ρ w Φ:=by
 subst hc;exact .pure (v:=.int k (k.wrap (a+b))) (by simp [execOp,h,h',eqGuard,binOp,Op.intArith]) aH
theorem LX {t t':TypeId} {x y:Operand} {k:IntKind} {a b c:Int} (h:ρ x=.int k a) (h':ρ y=.int k b) (hc:k.wrap (a-b)=c) (aH:Φ (.int k c) w):a8 P ⟨d,.binOp .sub t x y t',ty,pos,aft,gd⟩ ρ w Φ:=by
 subst hc;exact .pure (v:=.int k (k.wrap (a-b))) (by simp [execOp,h,h',eqGuard,binOp,Op.intArith]) aH
theorem LY {t t':TypeId} {x y:Operand} {k:IntKind} {a b c:Int} (h:ρ x=.int k a) (h':ρ y=.int k b) (hc:min a b=c) (aH:Φ (.int k c) w):a8 P ⟨d,.call ⟨.builtin .min,#[x,y],#[t,t']⟩,ty,pos,aft,gd⟩ ρ w Φ:=by
 have:(if b<a then b else a)=c:=by subst hc;split<;>omega
 subst this;exact .pure (v:=.int k (if b<a then b else a)) (by simp [execOp,resolve,h,h',invoke,builtin,Builtin.min_,Builtin.min2]) aH
theorem LZ {t t':TypeId} {x y:Operand} {k:IntKind} {a b c:Int} (h:ρ x=.int k a) (h':ρ y=.int k b) (hc:max a b=c) (aH:Φ (.int k c) w):a8 P ⟨d,.call ⟨.builtin .max,#[x,y],#[t,t']⟩,ty,pos,aft,gd⟩ ρ w Φ:=by
 have:(if a<b then b else a)=c:=by subst hc;split<;>omega
 subst this;exact .pure (v:=.int k (if a<b then b else a)) (by simp [execOp,resolve,h,h',invoke,builtin,Builtin.max_,Builtin.max2]) aH
theorem L0 {t:TypeId} {x:Operand} {b c:Bool} (h:ρ x=.bool b) (hc:(!b)=c) (aH:Φ (.bool c) w):a8 P ⟨d,.unOp .not t x,ty,pos,aft,gd⟩ ρ w Φ:=by
 subst hc;exact .pure (v:=.bool (!b)) (by simp [execOp,h,Op.unary]) aH
theorem BK {c x y:Operand} {v:Value} (h:ρ c=.bool true) (hx:ρ x=v) (aH:Φ v w):a8 P ⟨d,.pick c x y,ty,pos,aft,gd⟩ ρ w Φ:=
 .pure (by simp [execOp,h,hx,asBool]) aH
theorem BL {c x y:Operand} {v:Value} (h:ρ c=.bool false) (hx:ρ y=v) (aH:Φ v w):a8 P ⟨d,.pick c x y,ty,pos,aft,gd⟩ ρ w Φ:=
 .pure (by simp [execOp,h,hx,asBool]) aH
theorem KN {c x y:Operand} {b:Bool} {u v:Value} (h:ρ c=.bool b) (hx:ρ x=u) (hy:ρ y=v) (aH:Φ (if b then u else v) w):a8 P ⟨d,.pick c x y,ty,pos,aft,gd⟩ ρ w Φ:=
 .pure (by simp [execOp,h,hx,hy,asBool]) aH
theorem KO {x:Operand} {t e:TypeId} {a:Option Addr} {n c:Nat} (ht:P.underlying t=some (.slice e)) (h:ρ x=.slice a n c) (aH:Φ (.int .i64 n) w):a8 P ⟨d,.call ⟨.builtin .len,#[x],#[t]⟩,ty,pos,aft,gd⟩ ρ w Φ:=
 .pure (v:=.int .i64 n) (by simp [execOp,resolve,h,invoke,builtin,Builtin.len_,Sem.run_bind,run_underlying ht,goInt]) aH
theorem vi {x:Operand} {t t' e:TypeId} {o:Option Addr} {n k:Nat} {c:Bool} (ht:P.underlying t=some (.slice e)) (h:ρ x=.slice o n k) (hn:ρ (.const (.slice none 0 0))=.slice none 0 0) (hc:o.isNone=c) (aH:Φ (.bool c) w):a8 P ⟨d,.binOp .eql t x (.const (.slice none 0 0)) t',ty,pos,aft,gd⟩ ρ w Φ:=by
 subst hc
 refine .pure (v:=.bool o.isNone) ?_ aH
 have:∀ m,(Op.equalIn (m+1) t (.slice o n k) (.slice none 0 0)).run P w=.ok o.isNone w:=by
  intro m;cases o<;>simp [Op.equalIn,Sem.run_bind,run_underlying ht]
 simp [execOp,h,hn,eqGuard,binOp,Op.equal,Op.maxDepth,this 9999]
theorem Hz {x:Operand} {t t':TypeId} {o:Option Addr} {c:Bool} (ht:P.underlying t=some (.pointer (P.pointee t))) (h:ρ x=.pointer o) (hn:ρ (.const (.pointer none))=.pointer none) (hc:o.isNone=c) (aH:Φ (.bool c) w):a8 P ⟨d,.binOp .eql t x (.const (.pointer none)) t',ty,pos,aft,gd⟩ ρ w Φ:=by
 subst hc
 exact .pure (v:=.bool o.isNone) (by simp [execOp,h,hn,eqGuard,binOp,Op.equal,Op.maxDepth,run_equalIn_pointer_nil w 9999 t o ht]) aH
end
section
variable {P:Program} {w:World} {a:Act}
def ru (P:Program) (w:World) (a:Act):List ResultVar→List Value→Prop
 | [],[]=>True
 | .tmp t::r,v::vs=>a.eval (.tmp t)=v∧ru P w a r vs
 | .cell t ty::r,v::vs=>(∃ ad,a.eval (.tmp t)=.pointer (some ad)∧(loadVar ty ad).run P w=.ok v w)∧ru P w a r vs
 | _,_=>False
def tZ (t:Array Value):ResultVar→Sem Value
 | .tmp s=>pure (t.getD s undef)
 | .cell s ty=>do loadVar ty (← asAddr (t.getD s undef))
theorem vF:∀ (rs:List ResultVar) (vs:List Value),ru P w a rs vs→(rs.mapM (tZ a.tmps)).run P w=.ok vs w
 | [],[],_=>by simp
 | .tmp t::r,v::vs,h=>by
  have h1:a.tmps.getD t undef=v:=h.1
  have ih:=vF r vs h.2
  simp only [List.mapM_cons,Sem.run_bind,tZ,h1,Sem.run_pure,Result.andThen_ok,ih]
 | .cell t ty::r,v::vs,h=>by
  obtain ⟨⟨ad,h1,h2⟩,h3⟩:=h
  have Og:a.tmps.getD t undef=.pointer (some ad):=h1
  have ih:=vF r vs h3
  have h4:(asAddr (.pointer (some ad))).run P w=.ok ad w:=rfl
  simp only [List.mapM_cons,Sem.run_bind,tZ,Og,h4,Sem.run_pure,Result.andThen_ok,h2,ih]
 | [],_::_,h=>h.elim
 | .tmp _::_,[],h=>h.elim
 | .cell _ _::_,[],h=>h.elim
theorem td {fn:Func} {rs:List ResultVar} {vs:List Value} (hr:fn.results.toList=rs) (h:ru P w a rs vs):(results fn a.tmps).run P w=.ok (match vs with | [v]=>v | vs=>.tuple vs.toArray) w:=by
 have hm:=vF rs vs h
 have he:results fn a.tmps=(do let vs ← fn.results.mapM (tZ a.tmps);pure (if h:vs.size=1 then vs[0] else .tuple vs)):=by
  unfold results
  congr 1
 rw [he]
 simp only [Sem.run_bind,Array.mapM_eq_mapM_toList,hr,Sem.run_map,hm,Result.andThen_ok,Sem.run_pure]
 match vs with
 | []=>simp
 | [v]=>simp
 | _::_::_=>simp
end
theorem St.Ns {w0 w:World} {H:aq} (s:St [] w0 w H):dW w0 w H:=⟨s.nd,fun b hb=>(s.own b hb).resolve_right (by simp),s.holds⟩
section
variable {P:Program} {ops:Array Oper} {Q:Exit→Act→World→Prop} {sz d:Nat} {E:List (Nat×Value)} {a:Act} {w:World} {x:Operand} {v:Value} {ty:TypeId} {pos:String} {aft:Array Edge} {r:List (Oper×Bool)}
end
end Go.Proofs.YtcnpikbbmbombaaGreatDoor
namespace Go.Proofs.YtcnpikbbmbombaaGreatDoor
open Go.RowKit
section
variable {P:Program} {ρ:Operand→Value} {w:World} {d:Option Tmp} {ty:TypeId} {pos:String} {aft:Array Edge} {gd:Option (Nat×Bool)}
theorem Cn {t:TypeId} {x:Operand} {a:Addr} {v:Value} (ht:scalar P t=true) (h:ρ x=.pointer (some a)) (hc:w.cell? a=some v):(execOp ρ ⟨d,.load t x,ty,pos,aft,gd⟩).run P w=.ok (.value v) w:=by
 simp only [execOp,h,Sem.run_bind,Fc ht hc,Result.andThen_ok,Sem.run_pure]
theorem Gt {t:TypeId} {x:Operand} {a:Addr} (vs:List Value) (ht:ng P t vs.length=true) (h:ρ x=.pointer (some a)) (hc:∀ j (hj:j<vs.length),w.cell? (a.add j)=some vs[j]):(execOp ρ ⟨d,.load t x,ty,pos,aft,gd⟩).run P w=.ok (.value (.agg vs.toArray)) w:=by
 simp only [execOp,h,Sem.run_bind,Fi ht hc,Result.andThen_ok,Sem.run_pure]
end
end Go.Proofs.YtcnpikbbmbombaaGreatDoor
namespace Go.Proofs.YtcnpikbbmbombaaGreatDoor
open Go.RowKit
section
variable {P:Program} {ro:Option Nat} {ops:Array Oper} {Q:Exit→Act→World→Prop}
theorem Aa {Rk rY:World→Prop} (h:∀ w,rY w→Rk w):∀ {fuel:Nat} {L:Array Bool} {a:Act} {w:World},kC ro P ops Q rY fuel L a w→kC ro P ops Q Rk fuel L a w
 | 0,_,_,_,k=>⟨h _ k.1,k.2⟩
 | _+1,_,_,_,k=>⟨h _ k.1,k.2.1,fun i hi=>wpOpIn_mono (fun _ _ k=>Aa h k) (k.2.2 i hi)⟩
variable {Rk:World→Prop} {sz d j s:Nat} {E:List (Nat×Value)} {a:Act} {w:World} {o:Oper} {r:List (Oper×Bool)} {want:Bool}
end
end Go.Proofs.YtcnpikbbmbombaaGreatDoor
namespace Go.Proofs.YtcnpikbbmbombaaGreatDoor
open Go.RowKit
def eQ (T:TypeId) (size:Nat) (v:Value) (n:Nat) (xs:List Value) (H:aq):Prop:=
 xs.length=n*size∧((n=0∧H=[]∧∃ a,v=.slice a 0 0)∨
  ∃ b cap cs,v=.slice (some ⟨b,0,none⟩) n cap∧H=[(b,.cells cs T (0,0))]∧cs.size=cap*size∧n≤cap∧cs.toList.take (n*size)=xs)
theorem eQ.nil (T:TypeId) (size:Nat) (a:Option Addr):eQ T size (.slice a 0 0) 0 [] []:=⟨by simp,Or.inl ⟨rfl,rfl,a,rfl⟩⟩
theorem eQ.len {T:TypeId} {size:Nat} {v:Value} {n:Nat} {xs:List Value} {H:aq} (h:eQ T size v n xs H):∃ a c,v=.slice a n c:=by
 rcases h.2 with ⟨rfl,_,a,rfl⟩ | ⟨b,cap,cs,rfl,_⟩
 ·exact ⟨a,0,rfl⟩
 ·exact ⟨_,_,rfl⟩
def Src (w:World) (size:Nat) (x:Value) (m:Nat) (X:List Value):Prop:=
 X.length=m*size∧((m=0∧∃ a c,x=.slice a 0 c)∨∃ a c,x=.slice (some a) m c∧∀ j (hj:j<X.length),w.cell? (a.add j)=some X[j])
theorem Src.gr {w w':World} {size:Nat} {x:Value} {m:Nat} {X:List Value} (h:Src w size x m X) (g:Gr w w'):Src w' size x m X:=by
 refine ⟨h.1,?_⟩
 rcases h.2 with h2 | ⟨a,c,h2,h3⟩
 ·exact Or.inl h2
 ·exact Or.inr ⟨a,c,h2,fun j hj=>g.tJ (h3 j hj)⟩
variable {P:Program}
theorem run_loadCells {w:World} {a:Addr} {X:List Value} (h:∀ j (hj:j<X.length),w.cell? (a.add j)=some X[j]):(loadCells a X.length).run P w=.ok X.toArray w:=by
 have:=run_loadCellsFrom (P:=P) (w:=w) (a:=a) (vs:=X) 0 #[] (by simpa using h)
 simpa [loadCells] using this
theorem Src.first {w:World} {size:Nat} {x:Value} {m:Nat} {X:List Value} (h:Src w size x m X):(Builtin.lenOf x).run P w=.ok m w∧(Builtin.firstCells size m x).run P w=.ok X.toArray w:=by
 obtain ⟨hl,h⟩:=h
 rcases h with ⟨rfl,a,c,rfl⟩ | ⟨a,c,rfl,h⟩
 ·have:X=[]:=List.eq_nil_of_length_eq_zero (by simpa using hl)
  subst this
  cases a with
  | none=>simp [Builtin.lenOf,Builtin.firstCells]
  | some a=>simp [Builtin.lenOf,Builtin.firstCells,loadCells,loadCellsFrom]
 ·refine ⟨by simp [Builtin.lenOf],?_⟩
  simp only [Builtin.firstCells,← hl]
  exact run_loadCells h
theorem AJ (kf:Nat):∀ (r c:Nat),c≤kf→Builtin.growBy kf r c≤2*kf+192
 | 0,c,h=>by simp [Builtin.growBy];omega
 | r+1,c,h=>by
  unfold Builtin.growBy
  split
  ·omega
  ·by_cases h2:c+(c+768) / 4≤kf
   ·exact AJ kf r _ h2
   ·have key:∀ r c',kf<c'→Builtin.growBy kf r c'=c':=by
     intro r;induction r with
     | zero=>intro c' _;rfl
     | succ r ih=>intro c' P2;unfold Builtin.growBy;rw [if_pos (by omega)]
    rw [key r _ (by omega)];omega
theorem Je {kf gq:Nat} (h:gq<kf):Builtin.nextslicecap kf gq≤2*kf+192:=by
 unfold Builtin.nextslicecap
 split
 ·omega
 ·split
  ·omega
  ·exact AJ kf 4 gq (by omega)
structure pO (P:Program) (st T size bytes:Nat) (z:Value):Prop where
 bC:P.underlying st=some (.slice T)
 rv:(P.info? T).map (·.size)=some size
 KP:(P.info? T).map (·.bytes)=some bytes
 hzero:(P.info? T).bind (·.zero)=some z
 Oh:z.cells.size=size
theorem pO.info {st T size bytes:Nat} {z:Value} (h:pO P st T size bytes z):∃ i,P.info? T=some i∧i.size=size∧i.bytes=bytes∧i.zero=some z:=by
 cases hi:P.info? T with
 | none=>have:=h.rv;simp [hi] at this
 | some i=>
  have h1:=h.rv;have h2:=h.KP;have h3:=h.hzero
  simp only [hi,Option.map_some,Option.some.injEq,Option.bind_some] at h1 h2 h3
  exact ⟨i,rfl,h1,h2,h3⟩
theorem Fj (z:Array Value) (n:Nat):(Builtin.zeroCells z n).size=n*z.size:=by simp [Builtin.zeroCells]
theorem Fs (c:Array Value):∀ (vs:List Value) (i:Nat),i+vs.length≤c.size→∀ (d:Array Value),d.size=c.size→(cA d i vs).toList.take (i+vs.length)=d.toList.take i++vs:=by
 intro vs
 induction vs with
 | nil=>intro i h d hd;simp [cA]
 | cons v r ih=>
  intro i h d hd
  simp only [List.length_cons] at h
  have:=ih (i+1) (by omega) (d.setIfInBounds i v) (by simp [hd])
  simp only [cA,List.length_cons]
  rw [show i+(r.length+1)=i+1+r.length by omega,this]
  have hi:i<d.toList.length:=by simp [hd];omega
  simp only [Array.toList_setIfInBounds]
  rw [List.take_succ_eq_append_getElem (by simpa using hi)]
  simp [List.take_set_of_le]
structure lf (P:Program) (xt:TypeId) (w:World) (size:Nat) (u:Value) (m:Nat) (X:List Value):Prop where
 len:X.length=m*size
 ty:(∃ e,P.underlying xt=some (.slice e))∨P.underlying xt=some .string
 rd:∀ w',Gr w w'→(Builtin.lenOf u).run P w'=.ok m w'∧(Builtin.firstCells size m u).run P w'=.ok X.toArray w'
theorem Src.app {xt e:TypeId} {w:World} {size:Nat} {u:Value} {m:Nat} {X:List Value} (h:Src w size u m X) (lG:P.underlying xt=some (.slice e)):lf P xt w size u m X:=⟨h.1,.inl ⟨e,lG⟩,fun _ g=>(h.gr g).first⟩
theorem lf.str {xt:TypeId} {w:World} {bs:List UInt8} (lG:P.underlying xt=some .string):lf P xt w 1 (.string ⟨bs.toArray⟩) bs.length (bs.map fun b:UInt8=>Value.int .u8 (b.toNat:Int)):=by
 refine ⟨by simp,.inr lG,fun w' _=>?_⟩
 have e1:(⟨bs.toArray⟩:ByteArray).size=bs.length:=by simp [ByteArray.size]
 refine ⟨by simp [Builtin.lenOf,e1],?_⟩
 have e2:((⟨bs.toArray⟩:ByteArray).extract 0 bs.length).data=bs.toArray:=by simp [ByteArray.data_extract]
 simp [Builtin.firstCells,e2]
theorem AK {st T size bytes:Nat} {z:Value} {ρ:Operand→Value} {w w0:World} {D:List Nat} {Φ:Value→World→Prop} {d:Option Tmp} {ty xt:TypeId} {pos:String} {aft:Array Edge} {gd:Option (Nat×Bool)} {x y:Operand} {v u:Value} {n m:Nat} {xs X:List Value} {H R:aq}
    (ok:pO P st T size bytes z) (hx:ρ x=v) (hy:ρ y=u) (S:St D w0 w (H++R)) (hv:eQ T size v n xs H) (hu:lf P xt w size u m X) (ez:∀ q ∈ X,bQ q=true) (rA:(2*(n+m)+192)*bytes≤281474976710656) (ua:n+m<4611686018427387904)
    (aH:∀ v' w' H',eQ T size v' (n+m) (xs++X) H'→St D w0 w' (H'++R)→Φ v' w'):a8 P ⟨d,.call ⟨.builtin .append,#[x,y],#[st,xt]⟩,ty,pos,aft,gd⟩ ρ w Φ:=by
  obtain ⟨i,hi,h1,h2,h3⟩:=ok.info
  obtain ⟨hlen,pD⟩:=hu.rd w (Gr.refl w)
  have bJ:∀ w:World,(sizeOf T).run P w=.ok size w:=fun w=>by simp [sizeOf,typeInfo,Sem.run_bind,hi,h1]
  have ln:∀ w:World,(typeInfo T).run P w=.ok i w:=fun w=>by simp [typeInfo,Sem.run_bind,hi]
  have hzero:∀ w:World,(zeroValue T).run P w=.ok z w:=fun w=>by simp [zeroValue,Sem.run_bind,ln,h3]
  have P3:n+m≤9223372036854775807:=by omega
  have oh:∀ r:Result Value,(Builtin.append_ #[st,xt] ty #[v,u]).run P w=r→(execOp ρ ⟨d,.call ⟨.builtin .append,#[x,y],#[st,xt]⟩,ty,pos,aft,gd⟩).run P w=r.andThen fun v w'=>.ok (.value v) w':=by
    intro r hr
    simp only [execOp,resolve,List.map_toArray,List.map,hx,hy,Sem.run_bind,Sem.run_pure,Result.andThen_ok,invoke,builtin,hr]
  have tv:∀ (a:Option Addr) (c:Nat) (w':World),v=.slice a n c→n+m≤c→(match a with | some a=>(storeCells (a.add (n*size)) X).run P w | none=>.ok () w)=.ok () w'→(Builtin.append_ #[st,xt] ty #[v,u]).run P w=.ok (.slice a (n+m) c) w':=by
    intro a c w' hv hle bC
    subst hv
    rcases hu.ty with ⟨e,lG⟩ | lG<;>
    (unfold Builtin.append_
     simp only [List.getElem?_toArray,List.getElem?_cons_zero,List.getElem?_cons_succ,Sem.run_bind,run_underlying ok.bC,run_underlying lG,Result.andThen_ok,bJ,Sem.run_pure,Bool.false_eq_true,if_false,hlen,hle,if_true,Bool.not_false,pD]
     cases a with
     | none=>simp only at bC;cases bC;simp
     | some a=>simp only at bC;simp [bC])
  have C2:∀ (a:Option Addr) (c:Nat) (gq:List Value),v=.slice a n c→c<n+m→(Builtin.firstCells size n v).run P w.drew=.ok gq.toArray w.drew→gq.length=n*size→∃ k,n+m≤k∧(Builtin.append_ #[st,xt] ty #[v,u]).run P w=.ok (.slice (some ⟨w.heap.size,0,none⟩) (n+m) k) (w.drew.alloc (.cells (gq.toArray++X.toArray++Builtin.zeroCells z.cells (k-(n+m))) T)):=by
    intro a c gq hv aO hold PJ
    subst hv
    have Jf:=hu.rd w.drew (Gr.drew w)
    have P4:Builtin.nextslicecap (n+m) c*bytes≤281474976710656:=Nat.le_trans (Nat.mul_le_mul_right _ (Je aO)) rA
    refine ⟨(Question.appendCap (n+m) c T).cut (w.tape w.drawn (.appendCap (n+m) c T)),by simp [Question.cut],?_⟩
    have zb:(choose (.appendCap (n+m) c T)).run P w=.ok ((Question.appendCap (n+m) c T).cut (w.tape w.drawn (.appendCap (n+m) c T))) w.drew:=by
      simp [choose,Sem.run,Question.forced]
    have rJ:∀ (k:Nat) (w:World),(askRoom k).run P w=.ok () w:=by
      intro k w;unfold askRoom;split<;>simp [mark,Sem.run]
    have L3:¬ (((n+m:Nat):Int)>IntKind.i64.max∧(False∨i.bytes=0)):=by
      rintro ⟨h,_⟩
      simp [IntKind.max,IntKind.signed,IntKind.bits] at h
      omega
    have Nt:¬ (Builtin.nextslicecap (n+m) c*i.bytes>2 ^ 48):=by rw [h2];omega
    have cf:∀ (cs:Array Value) (w:World),(newRow T cs).run P w=.ok ⟨w.heap.size,0,none⟩ (w.alloc (.cells cs T)):=by
      intro cs w;simp [newRow,newObj,Sem.run]
    rcases hu.ty with ⟨e,lG⟩ | lG<;>
    (unfold Builtin.append_
     simp only [List.getElem?_toArray,List.getElem?_cons_zero,List.getElem?_cons_succ,Sem.run_bind,run_underlying ok.bC,run_underlying lG,Result.andThen_ok,bJ,Sem.run_pure,Bool.false_eq_true,if_false,hlen]
     rw [if_neg (by omega)]
     simp only [Sem.run_bind,ln,Result.andThen_ok]
     rw [if_neg L3]
     simp only [Sem.run_bind,ln,Result.andThen_ok]
     rw [if_neg Nt]
     simp only [Sem.run_bind,ln,Result.andThen_ok,zb,rJ,hold,Bool.not_false,if_true,Jf.2,hzero,cf,Sem.run_pure]
     rfl)
  have rv:w.drew.heap.size=w.heap.size:=rfl
  have gP:∀ (gq:List Value) (k:Nat),gq.length=n*size→gq=xs→n+m≤k→∀ b cs,cs=gq.toArray++X.toArray++Builtin.zeroCells z.cells (k-(n+m))→eQ T size (.slice (some ⟨b,0,none⟩) (n+m) k) (n+m) (xs++X) [(b,.cells cs T (0,0))]:=by
    intro gq k lH uK hk b cs cS
    subst cS
    have rZ:=hu.len
    have e1:(n+m)*size=n*size+m*size:=Nat.add_mul n m size
    refine ⟨by rw [List.length_append,← uK,lH,rZ,e1],Or.inr ⟨b,k,_,rfl,rfl,?_,hk,?_⟩⟩
    · simp only [Array.size_append,List.size_toArray,Fj,ok.Oh,lH,rZ]
      rw [← e1,← Nat.add_mul];congr 1;omega
    · simp only [Array.toList_append,← uK]
      rw [List.take_append_of_le_length (by simp [lH,rZ,e1]),List.take_of_length_le (by simp [lH,rZ,e1])]
  have lq:∀ (gq:List Value) (k:Nat),gq.length=n*size→gq=xs→n+m≤k→Φ (.slice (some ⟨w.heap.size,0,none⟩) (n+m) k) (w.drew.alloc (.cells (gq.toArray++X.toArray++Builtin.zeroCells z.cells (k-(n+m))) T)):=by
    intro gq k lH uK hk
    exact aH _ _ _ (gP gq k lH uK hk w.heap.size _ rfl) ((S.mO.gr (Gr.drew w)).alloc _)
  rcases hv.2 with ⟨rfl,rfl,a,rfl⟩ | ⟨b,cap,cs,rfl,rfl,cS,hle,tL⟩
  · have Ea:xs=[]:=List.eq_nil_of_length_eq_zero (by simpa using hv.1)
    by_cases hm:m=0
    · have hX:X=[]:=List.eq_nil_of_length_eq_zero (by rw [hu.len,hm];simp)
      refine .pure (v:=.slice a (0+m) 0) (w':=w) (by rw [oh _ (tv a 0 w rfl (by omega) (by subst hX;cases a<;>simp [storeCells]))];rfl) (aH _ _ [] ?_ S)
      subst hm;rw [Ea,hX];exact eQ.nil T size a
    · obtain ⟨k,hk,gQ⟩:=C2 a 0 [] rfl (by omega) (by cases a<;>simp [Builtin.firstCells,loadCells,loadCellsFrom]) (by simp)
      exact .pure (by rw [oh _ gQ];rfl) (lq [] k (by simp) Ea.symm hk)
  · have hb:w.heap[b]?=some (.cells cs T (0,0)):=S.holds (b,_) (by simp)
    by_cases hm:n+m≤cap
    · have ub:n*size+X.length≤cs.size:=by rw [hu.len,cS,← Nat.add_mul];exact Nat.mul_le_mul_right _ hm
      have bC:=o3 (P:=P) X w cs (n*size) 0 hb (by omega) ez
      refine .pure (v:=.slice (some ⟨b,0,none⟩) (n+m) cap) (w':=cC w b (.cells (cA cs (n*size) X) T (0,0))) (by rw [oh _ (tv _ cap _ rfl hm (by simp only [add_eq,Nat.zero_add];exact bC))];rfl) (aH _ _ [(b,.cells (cA cs (n*size) X) T (0,0))] ?_ (S.set _))
      have e1:(n+m)*size=n*size+m*size:=Nat.add_mul n m size
      refine ⟨by rw [List.length_append,hv.1,hu.len,e1],Or.inr ⟨b,cap,_,rfl,rfl,by rw [lS,cS],hm,?_⟩⟩
      have:=Fs cs X (n*size) ub cs rfl
      rw [hu.len] at this
      rw [e1,this,tL]
    · have hold:(Builtin.firstCells size n (.slice (some ⟨b,0,none⟩) n cap)).run P w.drew=.ok xs.toArray w.drew:=by
        simp only [Builtin.firstCells,← hv.1]
        refine run_loadCells (fun j hj=>?_)
        rw [add_eq,Nat.zero_add]
        have aQ:w.drew.heap[b]?=some (.cells cs T (0,0)):=hb
        rw [cell_of aQ]
        have:(cs.toList.take (n*size))[j]?=some xs[j]:=by rw [tL];simp [hj]
        rw [List.getElem?_take] at this
        split at this
        · simpa using this
        · simp at this
      obtain ⟨k,hk,gQ⟩:=C2 (some ⟨b,0,none⟩) cap xs rfl (by omega) hold hv.1
      exact .pure (by rw [oh _ gQ];rfl) (lq xs k hv.1 rfl hk)
section
variable {ρ:Operand→Value} {w:World} {Φ:Value→World→Prop} {d:Option Tmp} {ty t e:TypeId} {pos:String} {aft:Array Edge} {gd:Option (Nat×Bool)} {x lo hi mx:Operand} {size l h m b o n c:Nat}
theorem ji {v:Nat} {y:Nat} {code:BoundsCode} (h:v≤y):(Instr.sliceBound (.int .i64 v) y code).run P w=.ok v w:=by
 simp only [Instr.sliceBound,Sem.run_bind,asIntOf,Sem.run_pure,Result.andThen_ok]
 rw [if_pos ⟨by omega,by omega⟩];simp
theorem HA {z:Value} {Z:List Value} (ht:P.underlying t=some (.slice e)) (hz:(zeroValue e).run P w=.ok z w) (hx:ρ x=.slice (some ⟨b,o,none⟩) (n+1) c) {cs:Array Value} {T:TypeId} (hb:w.heap[b]?=some (.cells cs T (0,0))) (hZ:(Builtin.zeroCells z.cells (n+1)).toList=Z) (hl:o+Z.length≤cs.size) (ez:∀ q ∈ Z,bQ q=true)
  (aH:Φ (.tuple #[]) (cC w b (.cells (cA cs o Z) T (0,0)))):a8 P ⟨d,.call ⟨.builtin .clear,#[x],#[t]⟩,ty,pos,aft,gd⟩ ρ w Φ:=
 .pure (by
  have bC:=o3 (P:=P) Z w cs o 0 hb (by omega) ez
  simp only [Nat.add_zero] at bC
  have:(Builtin.clear_ #[t] ty #[.slice (some ⟨b,o,none⟩) (n+1) c]).run P w=.ok (.tuple #[]) (cC w b (.cells (cA cs o Z) T (0,0))):=by
   unfold Builtin.clear_
   simp only [List.getElem?_toArray,List.getElem?_cons_zero,Sem.run_bind,run_underlying ht,Result.andThen_ok,hz,hZ,bC,Sem.run_pure]
  simp only [execOp,resolve,List.map_toArray,List.map,hx,Sem.run_bind,Sem.run_pure,Result.andThen_ok,invoke,builtin,this]) aH
end
end Go.Proofs.YtcnpikbbmbombaaGreatDoor
namespace Go.Proofs.YtcnpikbbmbombaaGreatDoor
open Go.RowKit
inductive TU where
 | pl
 | it (k:IntKind)
 | st
 | sr (jL fG:List Nat)
 | sl (e:Nat)
 | ar (n e:Nat)
 | mp (k e:Nat)
structure TI where
 u:TU
 size:Nat
 bytes:Nat
 zero:List Value
abbrev aN:=List (Nat×TI)
def aN.at (T:aN) (t:Nat):Option TI:=
 match T with
 | []=>none
 | (k,v)::r=>bif k.beq t then some v else aN.at r t
def pE:List UInt8→List UInt8→Bool
 | [],[]=>true
 | a::r,b::s=>a.toNat.beq b.toNat&&pE r s
 | _,_=>false
theorem AL:∀ {a b:List UInt8},pE a b=true→a=b
 | [],[],_=>rfl
 | a::r,b::s,h=>by simp only [pE,Bool.and_eq_true] at h;rw [UInt8.toNat_inj.1 (Nat.eq_of_beq_eq_true h.1),AL h.2]
 | [],_::_,h=>by simp [pE] at h
 | _::_,[],h=>by simp [pE] at h
def xE:Value→Value→Bool
 | .bool a,.bool b=>a==b
 | .int k a,.int k' b=>decide (k=k')&&a==b
 | .string a,.string b=>pE a.data.toList b.data.toList
 | .pointer none,.pointer none=>true
 | .slice none a b,.slice none c d=>a==c&&b==d
 | .map none,.map none=>true
 | .nilFunc,.nilFunc=>true
 | .nilIface,.nilIface=>true
 | _,_=>false
theorem HB {a b:Value} (h:xE a b=true):a=b:=by
 unfold xE at h
 split at h
 ·simp only [beq_iff_eq] at h;rw [h]
 ·simp only [Bool.and_eq_true,decide_eq_true_eq,beq_iff_eq] at h;rw [h.1,h.2]
 ·rename_i a b
  have ha:a=b:=by
   cases a with | mk a=>cases b with | mk b=>
   have e:a=b:=Array.toList_inj.1 (AL h)
   rw [e]
  rw [ha]
 ·rfl
 ·simp only [Bool.and_eq_true,beq_iff_eq] at h;rw [h.1,h.2]
 ·rfl
 ·rfl
 ·rfl
 ·simp at h
def pF:List Value→List Value→Bool
 | [],[]=>true
 | a::r,b::s=>xE a b&&pF r s
 | _,_=>false
theorem AM:∀ {a b:List Value},pF a b=true→a=b
 | [],[],_=>rfl
 | [],_::_,h=>by simp [pF] at h
 | _::_,[],h=>by simp [pF] at h
 | a::r,b::s,h=>by
  simp only [pF,Bool.and_eq_true] at h
  rw [HB h.1,AM h.2]
def tM (P:Program) (t:Nat):List Nat→Nat→Bool
 | [],_=>true
 | o::r,i=>(match n1 P t i with | some o'=>o==o' | none=>false)&&tM P t r (i+1)
theorem vG {P:Program} {t:Nat}:∀ {l:List Nat} {i:Nat},tM P t l i=true→∀ (f:Nat) off,l[f]?=some off→n1 P t (i+f)=some off
 | [],_,_,_,_,h=>by simp at h
 | o::r,i,hb,f,off,h=>by
  simp only [tM,Bool.and_eq_true] at hb
  cases f with
  | zero=>
   simp only [List.getElem?_cons_zero,Option.some.injEq] at h;subst h
   rw [Nat.add_zero]
   have:=hb.1
   split at this
   ·rename_i o' ho;simp only [beq_iff_eq] at this;rw [ho,this]
   ·simp at this
  | succ f=>
   simp only [List.getElem?_cons_succ] at h
   have:=vG hb.2 f off h
   rw [← this];congr 1;omega
def pk (P:Program):List Field→Option (List (Nat×Nat))
 | []=>some []
 | f::r=>(match P.info? f.type,pk P r with | some i,some l=>some ((f.offset,i.size)::l) | _,_=>none)
def v7:List Nat→Nat→List (Nat×Nat)
 | [],_=>[]
 | [o],n=>[(o,n-o)]
 | o::o'::r,n=>(o,o'-o)::v7 (o'::r) n
def my (P:Program) (t:Nat) (x:TI):Bool:=
 (match P.info? t with
 | some i=>i.size==x.size&&i.bytes==x.bytes&&(match i.zero with | some z=>pF z.cells.toList x.zero | none=>false)
 | none=>false) &&
 (match x.u,P.underlying t with
 | .pl,some _=>scalar P t
 | .it k,some (.int k')=>decide (k=k')
 | .st,some .string=>true
 | .sr jL fG,some (.struct fs)=>(fs.toList.map (·.type)==fG)&&jL.length==fs.size&&(pk P fs.toList==some (v7 jL x.size))&&tM P t jL 0
 | .sl e,some (.slice e')=>e==e'
 | .ar n e,some (.array n' e')=>n==n'&&e==e'
 | .mp k e,some (.map k' e')=>k==k'&&e==e'
 | _,_=>false)
def bc (P:Program):aN→Bool
 | []=>true
 | (t,x)::r=>my P t x&&bc P r
variable {P:Program} {T:aN}
theorem n9 (hT:bc P T=true) {t:Nat} {x:TI} (h:T.at t=some x):my P t x=true:=by
 induction T with
 | nil=>simp [aN.at] at h
 | cons y r ih=>
  obtain ⟨k,v⟩:=y
  simp only [bc,Bool.and_eq_true] at hT
  unfold aN.at at h
  cases hk:k.beq t with
  | true=>simp only [hk,cond_true,Option.some.injEq] at h;subst h;rw [← Nat.eq_of_beq_eq_true hk];exact hT.1
  | false=>simp only [hk,cond_false] at h;exact ih hT.2 h
theorem sQ (hT:bc P T=true) {t:Nat} {x:TI} (h:T.at t=some x):∃ i z,P.info? t=some i∧i.size=x.size∧i.bytes=x.bytes∧i.zero=some z∧z.cells.toList=x.zero:=by
 have:=n9 hT h
 simp only [my,Bool.and_eq_true] at this
 have h1:=this.1
 cases hi:P.info? t with
 | none=>simp [hi] at h1
 | some i=>
  simp only [hi,Bool.and_eq_true,beq_iff_eq] at h1
  obtain ⟨⟨ha,hb⟩,hc⟩:=h1
  cases hz:i.zero with
  | none=>simp [hz] at hc
  | some z=>simp only [hz] at hc;exact ⟨i,z,rfl,ha,hb,hz,AM hc⟩
def gi (T:aN) (t:Nat):Option Nat:=match T.at t with | some x=>some x.size | none=>none
theorem iz (hT:bc P T=true) {t n:Nat} (h:gi T t=some n):(P.info? t).map (·.size)=some n:=by
 unfold gi at h
 split at h
 ·rename_i x hx
  obtain ⟨i,z,h1,h2,-⟩:=sQ hT hx
  simp only [Option.some.injEq] at h;rw [h1,Option.map_some,h2,h]
 ·simp at h
def pP (T:aN) (t:Nat):Option (List Value):=match T.at t with | some x=>some x.zero | none=>none
theorem sR (hT:bc P T=true) {t:Nat} {l:List Value} (h:pP T t=some l):∃ z,z.cells=l.toArray∧∀ w:World,(zeroValue t).run P w=.ok z w:=by
 unfold pP at h
 split at h
 ·rename_i x hx
  obtain ⟨i,z,h1,-,-,h2,h3⟩:=sQ hT hx
  simp only [Option.some.injEq] at h;subst h
  exact ⟨z,by rw [← h3],fun w=>by simp [zeroValue,typeInfo,Sem.run_bind,h1,h2]⟩
 ·simp at h
inductive Eb where
 | one
 | many (n:Nat)
def qg (T:aN) (t:Nat):Option Eb:=match T.at t with
 | some x=>(match x.u with | .sr _ _=>some (.many x.size) | .ar _ _=>some (.many x.size) | _=>some .one)
 | none=>none
theorem wa (hT:bc P T=true) {t:Nat} (h:qg T t=some .one):scalar P t=true:=by
 unfold qg at h
 cases hx:T.at t with
 | none=>simp [hx] at h
 | some x=>
  simp only [hx] at h
  have:=n9 hT hx
  simp only [my,Bool.and_eq_true] at this
  have h2:=this.2
  unfold scalar
  cases hu:x.u<;>simp only [hu,Option.some.injEq,reduceCtorEq] at h h2<;>cases hP:P.underlying t<;>simp only [hP,Bool.false_eq_true] at h2
  ·rename_i u;unfold scalar at h2;rw [hP] at h2;exact h2
  all_goals (rename_i u;cases u<;>simp_all)
theorem A7 (hT:bc P T=true) {t n:Nat} (h:qg T t=some (.many n)):ng P t n=true:=by
 unfold qg at h
 cases hx:T.at t with
 | none=>simp [hx] at h
 | some x=>
  simp only [hx] at h
  obtain ⟨i,z,h1,hs,-⟩:=sQ hT hx
  have:=n9 hT hx
  simp only [my,Bool.and_eq_true] at this
  have h2:=this.2
  unfold ng
  cases hu:x.u<;>simp only [hu,Option.some.injEq,reduceCtorEq,Eb.many.injEq] at h h2<;>cases hP:P.underlying t<;>simp only [hP,Bool.false_eq_true] at h2<;>rename_i u<;>cases u<;>simp_all
def yv (T:aN) (t f:Nat):Option Nat:=match T.at t with | some ⟨.sr jL _,_,_,_⟩=>jL[f]? | _=>none
theorem Jg (hT:bc P T=true) {t f off:Nat} (h:yv T t f=some off):n1 P t f=some off:=by
 unfold yv at h
 split at h
 ·rename_i jL _ _ _ _ hx
  have:=n9 hT hx
  simp only [my,Bool.and_eq_true] at this
  have h2:=this.2
  cases hP:P.underlying t with
  | none=>simp [hP] at h2
  | some u=>
   simp only [hP] at h2
   cases u<;>simp only [Bool.false_eq_true,Bool.and_eq_true] at h2
   simpa using vG h2.2 f off h
 ·simp at h
def zc (T:aN) (t:Nat):Option (List (Nat×Nat)):=match T.at t with | some ⟨.sr jL _,n,_,_⟩=>some (v7 jL n) | _=>none
theorem KQ (hT:bc P T=true) {t:Nat} {pl:List (Nat×Nat)} (h:zc T t=some pl):∃ fs,P.underlying t=some (.struct fs)∧pk P fs.toList=some pl:=by
 unfold zc at h
 split at h
 ·rename_i jL _ n _ _ hx
  have:=n9 hT hx
  simp only [my,Bool.and_eq_true] at this
  have h2:=this.2
  simp only [Option.some.injEq] at h
  cases hP:P.underlying t with
  | none=>simp [hP] at h2
  | some u=>
   simp only [hP] at h2
   cases u<;>simp only [Bool.false_eq_true,Bool.and_eq_true,beq_iff_eq] at h2
   rename_i fs
   exact ⟨fs,rfl,by rw [h2.1.2,h]⟩
 ·simp at h
def zd (T:aN) (t f:Nat):Option (Nat×Nat):=match T.at t with | some ⟨.sr jL fG,_,_,_⟩=>(match jL[f]?,fG[f]? with | some o,some ty=>some (o,ty) | _,_=>none) | _=>none
theorem KR (hT:bc P T=true) {t f o ty:Nat} (h:zd T t f=some (o,ty)):∃ fs x,P.underlying t=some (.struct fs)∧fs[f]?=some x∧x.offset=o∧x.type=ty:=by
 unfold zd at h
 split at h
 ·rename_i jL fG _ _ _ hx
  have:=n9 hT hx
  simp only [my,Bool.and_eq_true] at this
  have h2:=this.2
  split at h
  ·rename_i o' P5 h3 h4
   simp only [Option.some.injEq,Prod.mk.injEq] at h;obtain ⟨rfl,rfl⟩:=h
   cases hP:P.underlying t with
   | none=>simp [hP] at h2
   | some u=>
    simp only [hP] at h2
    cases u<;>simp only [Bool.false_eq_true,Bool.and_eq_true,beq_iff_eq] at h2
    rename_i fs
    have ho:=vG h2.2 f _ h3
    rw [Nat.zero_add] at ho
    rw [← h2.1.1.1,List.getElem?_map,Option.map_eq_some_iff] at h4
    obtain ⟨x,hx,rfl⟩:=h4
    have nG:fs[f]?=some x:=by rw [← Array.getElem?_toList];exact hx
    refine ⟨fs,x,rfl,nG,?_,rfl⟩
    unfold n1 at ho
    rw [hP] at ho
    simp only [nG] at ho
    split at ho
    ·split at ho
     ·simp at ho
     ·simpa using ho
    ·simp at ho
  ·simp at h
 ·simp at h
inductive ze where
 | sl (e:Nat)
 | ar (n e:Nat)
 | mp (k e:Nat)
 | it (k:IntKind)
 | st
 | ot
def dv (T:aN) (t:Nat):Option ze:=match T.at t with
 | some x=>(match x.u with | .sl e=>some (.sl e) | .ar n e=>some (.ar n e) | .mp k e=>some (.mp k e) | .it k=>some (.it k) | .st=>some .st | _=>some .ot)
 | none=>none
theorem c8 (hT:bc P T=true) {t:Nat} {k:ze} (h:dv T t=some k):match k with | .sl e=>P.underlying t=some (.slice e) | .ar n e=>P.underlying t=some (.array n e) | .mp k e=>P.underlying t=some (.map k e) | .it k=>P.underlying t=some (.int k) | .st=>P.underlying t=some .string | .ot=>(P.underlying t).isSome=true:=by
 unfold dv at h
 cases hx:T.at t with
 | none=>simp [hx] at h
 | some x=>
  simp only [hx] at h
  have:=n9 hT hx
  simp only [my,Bool.and_eq_true] at this
  have h2:=this.2
  cases hu:x.u<;>simp only [hu,Option.some.injEq] at h h2<;>subst h<;>cases hP:P.underlying t<;>simp only [hP,Bool.false_eq_true] at h2<;>rename_i u<;>cases u<;>simp_all
theorem HC (hT:bc P T=true) {t:Nat} {k:ze} (h:dv T t=some k):(P.underlying t).isSome=true:=by
 have:=c8 hT h
 cases k<;>simp_all
end Go.Proofs.YtcnpikbbmbombaaGreatDoor
namespace Go.Proofs.YtcnpikbbmbombaaGreatDoor
open Go.RowKit
inductive DV where
 | v (x:Value)
 | ro (k:Nat) (rows:List (List DV))
 | em (T k:Nat) (rows:List (List DV))
 | ag (l:List DV)
 | tu (l:List DV)
 | pb (T:Nat) (cells:List DV)
 | jk
inductive MK where
 | i (k:IntKind) (n:Int)
 | a (l:List (IntKind×Int))
deriving DecidableEq
def MK.val:MK→Value
 | .i k n=>.int k n
 | .a l=>.agg (l.map fun x=>.int x.1 x.2).toArray
structure RF where
 ps:Array Tmp
 dm:Code
 body:Code
inductive AV where
 | d (x:DV)
 | sl (u n:Nat)
 | sb (u k o n:Nat)
 | sf (u k o n:Nat) (q:Option Nat)
 | pt (u o:Nat)
 | mv (u:Nat)
 | yl (u:Nat)
 | ep (u k i o:Nat)
 | rp (row:List DV) (o:Nat)
 | bt (bs:List UInt8)
 | uk
 | fn (f:Nat) (cD:List AV)
 | fm (f:Nat) (first:List AV)
 | ag (l:List AV)
 | tu (l:List AV)
abbrev DV.u (n:Nat):DV:=.v (.int .u64 ((n:Nat):Int))
abbrev DV.n (n:Nat):DV:=.v (.int .i64 ((n:Nat):Int))
abbrev DV.z (n:Int):DV:=.v (.int .i64 n)
abbrev AV.u (n:Nat):AV:=.d (.u n)
abbrev AV.n (n:Nat):AV:=.d (.n n)
abbrev AV.z (n:Int):AV:=.d (.z n)
inductive LS where
 | ready
 | busy
 | left
def LS.state:LS→LoopState
 | .ready=>.ready
 | .busy=>.busy
 | .left=>.done
def LS.kM:LS→Option Code
 | .left=>some .ret
 | _=>none
inductive aj where
 | bx (T:Nat) (cells:List AV)
 | rw (T k:Nat) (rows:List (List DV))
 | tw (a:Option Addr) (c T k:Nat) (rows:List (List DV))
 | mp (T c:Nat) (es:List (Nat×MK×DV))
 | it (um:Option Nat) (since:Nat) (seen:List Nat) (c:Nat)
 | mu (T c:Nat) (es:List (MK×DV))
 | fl (T k m:Nat) (cells:List AV)
 | mf (T c:Nat) (es:List (Nat×MK×AV))
 | il (um:Option Nat) (since last c:Nat)
 | lp (s:LS) (f sz:Nat) (E:List (Nat×AV)) (c:RF)
 | nm (u b:Nat)
 | gw (g:Nat) (row:List DV)
 | dead
def lay (n:Nat) (X:Nat→List Value):List Value:=(List.range n).flatMap X
def bL (n k:Nat) (F:Nat→Nat→aq):aq:=(List.range n).flatMap fun i=>(List.range k).flatMap (F i)
inductive bV (K:World→Prop):DV→Value→aq→Prop where
 | v (x:Value):bV K (.v x) x []
 | jk (x:Value):bV K .jk x []
 | ro {k:Nat} {rows:List (List DV)} {y:Value} (X:Nat→List Value) (hl:∀ (i:Nat) r,rows[i]?=some r→r.length=k∧(X i).length=k)
   (hy:∃ a c,y=.slice a rows.length c∧rows.length≤c) (hs:∀ w,K w→Src w k y rows.length (lay rows.length X))
   (hr:∀ (i:Nat) (r:List DV) (j:Nat) c x,rows[i]?=some r→r[j]?=some c→(X i)[j]?=some x→bV K c x []):bV K (.ro k rows) y []
 | em {T k:Nat} {rows:List (List DV)} {y:Value} {H0:aq} (X:Nat→List Value) (F:Nat→Nat→aq) (hl:∀ (i:Nat) r,rows[i]?=some r→r.length=k∧(X i).length=k)
   (hs:eQ T k y rows.length (lay rows.length X) H0)
   (hr:∀ (i:Nat) (r:List DV) (j:Nat) c x,rows[i]?=some r→r[j]?=some c→(X i)[j]?=some x→bV K c x (F i j)):bV K (.em T k rows) y (H0++bL rows.length k F)
 | ag {l:List DV} (ys:List Value) (F:Nat→aq) (hl:ys.length=l.length) (hr:∀ (j:Nat) c y,l[j]?=some c→ys[j]?=some y→bV K c y (F j)):bV K (.ag l) (.agg ys.toArray) ((List.range l.length).flatMap F)
 | tu {l:List DV} (ys:List Value) (F:Nat→aq) (hl:ys.length=l.length) (hr:∀ (j:Nat) c y,l[j]?=some c→ys[j]?=some y→bV K c y (F j)):bV K (.tu l) (.tuple ys.toArray) ((List.range l.length).flatMap F)
 | pb {T b:Nat} {l:List DV} (ys:List Value) (F:Nat→aq) (hl:ys.length=l.length) (hr:∀ (j:Nat) c y,l[j]?=some c→ys[j]?=some y→bV K c y (F j)):bV K (.pb T l) (.pointer (some ⟨b,0,none⟩)) ((b,.cells ys.toArray T (0,0))::(List.range l.length).flatMap F)
abbrev Beta:=List (Option Addr×Nat)
inductive az (K:World→Prop) (β:Beta):AV→Value→Prop where
 | d {x:DV} {y:Value} (h:bV K x y []):az K β (.d x) y
 | sl {u n c:Nat} {a:Option Addr} (h:β[u]?=some (a,c)):az K β (.sl u n) (.slice a n c)
 | sb {u k o n b c c':Nat} (h:β[u]?=some (some ⟨b,0,none⟩,c)):az K β (.sb u k o n) (.slice (some ⟨b,o*k,none⟩) n c')
 | sf {u k o n b c cap:Nat} {q:Option Nat} (h:β[u]?=some (some ⟨b,0,none⟩,c)) (hc:o+cap≤c) (hn:n≤cap) (hq:match q with | none=>o+cap=c | some q=>cap=q):az K β (.sf u k o n q) (.slice (some ⟨b,o*k,none⟩) n cap)
 | mv {u b c:Nat} (h:β[u]?=some (some ⟨b,0,none⟩,c)):az K β (.mv u) (.map (some b))
 | yl {u b c:Nat} (h:β[u]?=some (some ⟨b,0,none⟩,c)):az K β (.yl u) (.func (.yield b) #[] #[])
 | pt {u o b c:Nat} (h:β[u]?=some (some ⟨b,0,none⟩,c)):az K β (.pt u o) (.pointer (some ⟨b,o,none⟩))
 | ep {u k i o b c:Nat} (h:β[u]?=some (some ⟨b,0,none⟩,c)):az K β (.ep u k i o) (.pointer (some ⟨b,i*k+o,none⟩))
 | rp {row:List DV} {o:Nat} (a:Addr) (X:List Value) (hl:X.length=row.length) (hc:∀ w,K w→∀ (j:Nat) x,X[j]?=some x→w.cell? (a.add j)=some x)
   (hr:∀ (j:Nat) c x,row[j]?=some c→X[j]?=some x→bV K c x []):az K β (.rp row o) (.pointer (some (a.add o)))
 | bt {bs:List UInt8} {y:Value} (h:bV K (.ro 1 (bs.map fun b=>[DV.v (.int .u8 b.toNat)])) y []) (hn:bs.length≤1048576):az K β (.bt bs) y
 | uk {y:Value} (h:bQ y=true):az K β .uk y
 | fn {f:Nat} {cD:List AV} (ys:List Value) (hl:ys.length=cD.length) (hr:∀ (j:Nat) c y,cD[j]?=some c→ys[j]?=some y→az K β c y):az K β (.fn f cD) (.func (.func f) #[] ys.toArray)
 | fm {f:Nat} {first:List AV} (ys:List Value) (hl:ys.length=first.length) (hr:∀ (j:Nat) c y,first[j]?=some c→ys[j]?=some y→az K β c y):az K β (.fm f first) (.func (.func f) ys.toArray #[])
 | ag {l:List AV} (ys:List Value) (hl:ys.length=l.length) (hr:∀ (j:Nat) c y,l[j]?=some c→ys[j]?=some y→az K β c y):az K β (.ag l) (.agg ys.toArray)
 | tu {l:List AV} (ys:List Value) (hl:ys.length=l.length) (hr:∀ (j:Nat) c y,l[j]?=some c→ys[j]?=some y→az K β c y):az K β (.tu l) (.tuple ys.toArray)
theorem bV.mono {K K':World→Prop} (h:∀ w,K' w→K w):∀ {x:DV} {y:Value} {H:aq},bV K x y H→bV K' x y H:=by
 intro x y H r
 induction r with
 | v x=>exact .v x
 | jk x=>exact .jk x
 | ro X hl hy hs hr ih=>exact .ro X hl hy (fun w hw=>hs w (h w hw)) (fun i r j c x h1 h2 h3=>ih i r j c x h1 h2 h3)
 | em X F hl hs hr ih=>exact .em X F hl hs (fun i r j c x h1 h2 h3=>ih i r j c x h1 h2 h3)
 | ag ys F hl hr ih=>exact .ag ys F hl ih
 | tu ys F hl hr ih=>exact .tu ys F hl ih
 | pb ys F hl hr ih=>exact .pb ys F hl ih
theorem bV.slice {K:World→Prop} {x:DV} {y:Value} {H:aq} (r:bV K x y H) (h:(∃ k rows,x=.ro k rows)∨∃ T k rows,x=.em T k rows):∃ a n c,y=.slice a n c:=by
 cases r with
 | v=>simp at h
 | jk=>simp at h
 | ro X hl hy hs hr=>obtain ⟨a,c,rfl,-⟩:=hy;exact ⟨_,_,_,rfl⟩
 | em X F hl hs hr=>obtain ⟨a,c,rfl⟩:=hs.len;exact ⟨_,_,_,rfl⟩
 | ag=>simp at h
 | tu=>simp at h
 | pb=>simp at h
def Ext (β aE:Beta):Prop:=∀ (u:Nat) x,β[u]?=some x→aE[u]?=some x
theorem Ext.refl (β:Beta):Ext β β:=fun _ _ h=>h
theorem Ext.app (β γ:Beta):Ext β (β++γ):=fun u x h=>by
 obtain ⟨hu,-⟩:=List.getElem?_eq_some_iff.1 h
 rw [List.getElem?_append_left hu];exact h
theorem az.mono {K K':World→Prop} {β aE:Beta} (h:∀ w,K' w→K w) (e:Ext β aE):∀ {x:AV} {y:Value},az K β x y→az K' aE x y:=by
 intro x y r
 induction r with
 | d hd=>exact .d (hd.mono h)
 | sl hb=>exact .sl (e _ _ hb)
 | sb hb=>exact .sb (e _ _ hb)
 | sf hb hc hn hq=>exact .sf (e _ _ hb) hc hn hq
 | mv hb=>exact .mv (e _ _ hb)
 | yl hb=>exact .yl (e _ _ hb)
 | pt hb=>exact .pt (e _ _ hb)
 | ep hb=>exact .ep (e _ _ hb)
 | rp a X hl hc hr=>exact .rp a X hl (fun w hw=>hc w (h w hw)) (fun j c x h1 h2=>(hr j c x h1 h2).mono h)
 | bt hd hn=>exact .bt (hd.mono h) hn
 | uk hu=>exact .uk hu
 | fn ys hl hr ih=>exact .fn ys hl ih
 | fm ys hl hr ih=>exact .fm ys hl ih
 | ag ys hl hr ih=>exact .ag ys hl ih
 | tu ys hl hr ih=>exact .tu ys hl ih
def Ec (es:List (Nat×MK×DV)) (vs:List Value):List MapEntry:=(es.zip vs).map fun x=>{ key:=x.1.2.1.val,val:=x.2,born:=x.1.1 }
def uc (es:List (Nat×MK×AV)) (vs:List Value):List MapEntry:=(es.zip vs).map fun x=>{ key:=x.1.2.1.val,val:=x.2,born:=x.1.1 }
theorem vH (g:Nat×MK×AV→Nat×MK×AV) (h:∀ e,(g e).1=e.1∧(g e).2.1=e.2.1):∀ (es:List (Nat×MK×AV)) (vs:List Value),uc (es.map g) vs=uc es vs
 | [],_=>rfl
 | e::r,[]=>rfl
 | e::r,v::vs=>by have:=vH g h r vs;simp only [uc,List.map_cons,List.zip_cons_cons] at this ⊢;rw [this,(h e).1,(h e).2]
inductive bB (K:World→Prop) (β:Beta):Nat→aj→aq→Prop where
 | dead (u:Nat):bB K β u .dead []
 | nm {u v b c:Nat} (hb:β[v]?=some (some ⟨b,0,none⟩,c)):bB K β u (.nm v b) []
 | gw {u g:Nat} {row:List DV} (X:List Value) (hl:X.length=row.length) (hc:∀ w,K w→∀ (j:Nat) x,X[j]?=some x→w.cell? ((⟨g,0,none⟩:Addr).add j)=some x)
   (hr:∀ (j:Nat) c x,row[j]?=some c→X[j]?=some x→bV K c x []):bB K β u (.gw g row) []
 | bx {u b c T:Nat} {cells:List AV} (hb:β[u]?=some (some ⟨b,0,none⟩,c)) (ys:List Value) (hl:ys.length=cells.length) (hr:∀ (j:Nat) c y,cells[j]?=some c→ys[j]?=some y→az K β c y):
   bB K β u (.bx T cells) [(b,.cells ys.toArray T (0,0))]
 | rw {u c T k:Nat} {a:Option Addr} {rows:List (List DV)} {H0:aq} (hb:β[u]?=some (a,c)) (X:Nat→List Value) (F:Nat→Nat→aq) (hl:∀ (i:Nat) r,rows[i]?=some r→r.length=k∧(X i).length=k)
   (hs:eQ T k (.slice a rows.length c) rows.length (lay rows.length X) H0)
   (hr:∀ (i:Nat) (r:List DV) (j:Nat) c x,rows[i]?=some r→r[j]?=some c→(X i)[j]?=some x→bV K c x (F i j)):
   bB K β u (.rw T k rows) (H0++bL rows.length k F)
 | tw {u c T k:Nat} {a:Option Addr} {rows:List (List DV)} {H0:aq} (hb:β[u]?=some (a,c)) (X:Nat→List Value) (F:Nat→Nat→aq) (hl:∀ (i:Nat) r,rows[i]?=some r→r.length=k∧(X i).length=k)
   (hs:eQ T k (.slice a rows.length c) rows.length (lay rows.length X) H0)
   (hr:∀ (i:Nat) (r:List DV) (j:Nat) c x,rows[i]?=some r→r[j]?=some c→(X i)[j]?=some x→bV K c x (F i j)):
   bB K β u (.tw a c T k rows) (H0++bL rows.length k F)
 | mp {u b c T ck:Nat} {es:List (Nat×MK×DV)} (hb:β[u]?=some (some ⟨b,0,none⟩,c)) (vs:List Value) (G:Nat→aq) (hl:vs.length=es.length) (hr:∀ (j:Nat) e y,es[j]?=some e→vs[j]?=some y→bV K e.2.2 y (G j)):
   bB K β u (.mp T ck es) ((b,.map (Ec es vs).toArray ck)::(List.range es.length).flatMap G)
 | it {u b bm c since ck:Nat} {um:Option Nat} {seen:List Nat} (hb:β[u]?=some (some ⟨b,0,none⟩,c)) (hm:∀ v,um=some v→∃ c',β[v]?=some (some ⟨bm,0,none⟩,c')):
   bB K β u (.it um since seen ck) [(b,.mapIter (some bm) since seen.toArray ck)]
 | mu {u b c T ck:Nat} {es:List (MK×DV)} (jd:List (Nat×MK×DV)) (hp:(jd.map fun e=>e.2).Perm es) (hn:(jd.map fun e=>e.1).Nodup) (aO:∀ e ∈ jd,e.1<ck) (hb:β[u]?=some (some ⟨b,0,none⟩,c)) (vs:List Value) (G:Nat→aq) (hl:vs.length=jd.length) (hr:∀ (j:Nat) e y,jd[j]?=some e→vs[j]?=some y→bV K e.2.2 y (G j)):
   bB K β u (.mu T ck es) ((b,.map (Ec jd vs).toArray ck)::(List.range jd.length).flatMap G)
 | fl {u b c T k m:Nat} {cells:List AV} (hb:β[u]?=some (some ⟨b,0,none⟩,c)) (ys:List Value) (hl:ys.length=c*k) (hm:cells.length=m*k) (hc:m≤c) (hr:∀ (j:Nat) c y,cells[j]?=some c→ys[j]?=some y→az K β c y):
   bB K β u (.fl T k m cells) [(b,.cells ys.toArray T (0,0))]
 | mf {u b c T ck:Nat} {es:List (Nat×MK×AV)} (hb:β[u]?=some (some ⟨b,0,none⟩,c)) (vs:List Value) (hl:vs.length=es.length) (hr:∀ (j:Nat) e y,es[j]?=some e→vs[j]?=some y→az K β e.2.2 y):
   bB K β u (.mf T ck es) [(b,.map (uc es vs).toArray ck)]
 | il {u b bm c since last ck:Nat} {um:Option Nat} {seen:List Nat} (hb:β[u]?=some (some ⟨b,0,none⟩,c)) (hm:∀ v,um=some v→∃ c',β[v]?=some (some ⟨bm,0,none⟩,c')):
   bB K β u (.il um since last ck) [(b,.mapIter (some bm) since (seen++[last]).toArray ck)]
 | lp {u b c f sz oG:Nat} {bz:LS} {E:List (Nat×AV)} {rf:RF} {tmps:Array Value} (hb:β[u]?=some (some ⟨b,0,none⟩,c)) (bJ:tmps.size=sz) (hr:∀ x ∈ E,az K β x.2 (tmps.getD x.1 undef)):
   bB K β u (.lp bz f sz E rf) [(b,.loop { state:=bz.state,pending:=bz.kM,fn:=f,tmps,params:=rf.ps,assign:=rf.dm,body:=rf.body,defers:=oG })]
structure AS where
 E:List (Nat×AV)
 M:List aj
structure RM (D:List Nat) (w0:World) (K0:World→Prop) (M:List aj) (β:Beta) (F:Nat→aq) (I:aq) (w:World):Prop where
 len:β.length=M.length
 blk:∀ (u:Nat) blk,M[u]?=some blk→bB (fun w=>K0 w∧Holds w I) β u blk (F u)
 st:St D w0 w ((List.range M.length).flatMap F++I)
def RE (D:List Nat) (w0:World) (K0:World→Prop) (sz:Nat) (s:AS) (a:Act) (w:World):Prop:=
 a.tmps.size=sz∧a.defers=[]∧∃ β F I,RM D w0 K0 s.M β F I w∧∀ x ∈ s.E,az (fun w=>K0 w∧Holds w I) β x.2 (a.eval (.tmp x.1))
end Go.Proofs.YtcnpikbbmbombaaGreatDoor
namespace Go.Proofs.YtcnpikbbmbombaaGreatDoor
open Go.RowKit Go.Maps
section
variable {P:Program} {ρ:Operand→Value} {w:World} {Φ:Value→World→Prop} {d:Option Tmp} {ty t e:TypeId} {pos:String} {aft:Array Edge} {gd:Option (Nat×Bool)} {x:Operand} {a:Addr} {b o n c size:Nat}
end
theorem Addr.pc (a:Addr) (m n:Nat):(a.add m).add n=a.add (m+n):=by
 unfold Addr.add
 split
 ·rename_i h;subst h;simp
 ·split
  ·rename_i h;subst h;simp;omega
  ·split
   ·omega
   ·cases a;simp;omega
theorem Src.row {w:World} {size m:Nat} {v:Value} {X:List Value} (h:Src w size v m X) {i:Nat} (hi:i<m):∃ a c,v=.slice (some a) m c∧∀ j (hj:j<size) (hk:i*size+j<X.length),w.cell? ((a.add (i*size)).add j)=some X[i*size+j]:=by
 rcases h.2 with ⟨h0,_⟩ | ⟨a,c,hv,hc⟩
 ·omega
 ·refine ⟨a,c,hv,fun j hj hk=>?_⟩
  rw [Addr.pc];exact hc _ hk
end Go.Proofs.YtcnpikbbmbombaaGreatDoor
namespace Go.Proofs.YtcnpikbbmbombaaGreatDoor
open Go.RowKit
section
variable {P:Program} {ρ:Operand→Value} {w:World} {Φ:Value→World→Prop} {d:Option Tmp} {ty t t' e:TypeId} {pos:String} {aft:Array Edge} {gd:Option (Nat×Bool)} {x y:Operand}
theorem Ft {b n k:Nat} {c:Array Value} (ht:P.underlying t=some (.slice e)) (he:P.underlying e=some (.int .u8)) (hx:ρ x=.slice (some ⟨b,0,none⟩) n k) (hb:w.heap[b]?=some (.cells c e (0,0)))
  (aH:Φ (.slice (some ⟨b,0,none⟩) n k) (cC w b (.cells c e (c.size,c.size+1)))):a8 P ⟨d,.convert t t x,ty,pos,aft,gd⟩ ρ w Φ:=by
 refine .pure (v:=.slice (some ⟨b,0,none⟩) n k) (w':=cC w b (.cells c e (c.size,c.size+1))) ?_ aH
 have oH:w.shape? b=some (e,c.size):=by simp [World.shape?,hb]
 have oI:w.freeze ⟨b,c.size,none⟩ 1=cC w b (.cells c e (c.size,c.size+1)):=by
  unfold World.freeze cC
  rw [if_neg (by decide)]
  congr 1
  apply Array.ext_getElem?
  intro j
  have aO:=lb hb
  rw [Array.getElem?_modify,Array.getElem?_setIfInBounds]
  by_cases e':b=j
  ·subst e'
   have hg:w.heap[b]=.cells c e (0,0):=by rw [Array.getElem?_eq_getElem aO] at hb;exact Option.some.inj hb
   simp [aO,hg]
  ·simp [e']
 simp [execOp,hx,convert,Sem.run_bind,run_underlying ht,run_underlying he,markStringish,oH,oI]
theorem Am {v:Value} {l:List UInt8} (ht:P.underlying t=some (.slice e)) (he:P.underlying e=some (.int .u8)) (hd:P.underlying t'=some .string) (hx:ρ x=v) (hs:Src w 1 v l.length (l.map fun b:UInt8=>.int .u8 b.toNat)) (aH:Φ (.string ⟨l.toArray⟩) w):a8 P ⟨d,.convert t t' x,ty,pos,aft,gd⟩ ρ w Φ:=by
 refine .pure (v:=.string ⟨l.toArray⟩) (w':=w) ?_ aH
 have key:(convert t t' v).run P w=.ok (.string ⟨l.toArray⟩) w:=by
  rcases hs.2 with ⟨h0,a,c,rfl⟩ | ⟨a,c,rfl,h⟩
  ·have hl:l=[]:=List.eq_nil_of_length_eq_zero h0
   subst hl
   cases a with
   | none=>rw [run_convert_bytes_string w t t' e none 0 c ht he hd];simp [Conv.bytesToString];rfl
   | some a=>exact run_convert_bytes_back w t t' e a c [] ht he hd (by simp)
  ·exact run_convert_bytes_back w t t' e a c l ht he hd (fun j hj=>by rw [h j (by simpa using hj)];simp)
 simp only [execOp,hx,Sem.run_bind,key,Result.andThen_ok,Sem.run_pure]
theorem HD {a b:List UInt8} {c:Bool} (h:ρ x=.string ⟨a.toArray⟩) (h':ρ y=.string ⟨b.toArray⟩) (hc:(a==b)=c) (aH:Φ (.bool c) w):a8 P ⟨d,.binOp .eql t x y t',ty,pos,aft,gd⟩ ρ w Φ:=by
 subst hc;exact .pure (v:=.bool (a==b)) (by simp [execOp,h,h',eqGuard,binOp,Op.stringOp]) aH
theorem HE {a b:List UInt8} {c:Bool} (h:ρ x=.string ⟨a.toArray⟩) (h':ρ y=.string ⟨b.toArray⟩) (hc:(a != b)=c) (aH:Φ (.bool c) w):a8 P ⟨d,.binOp .neq t x y t',ty,pos,aft,gd⟩ ρ w Φ:=by
 subst hc;exact .pure (v:=.bool (a != b)) (by simp [execOp,h,h',eqGuard,binOp,Op.stringOp,bne]) aH
theorem Fw {dp:Nat} {k:IntKind} {a b c d':Int} (ht:P.underlying t=some (.array 2 e)) (he:P.underlying e=some (.int k)) (hs:(P.info? e).map (·.size)=some 1):(Op.equalIn (dp+1+1) t (.agg #[.int k a,.int k b]) (.agg #[.int k c,.int k d'])).run P w=.ok (a==c&&b==d') w:=by
 cases fV:P.info? e with
 | none=>simp [fV] at hs
 | some inf=>
  simp only [fV,Option.map_some,Option.some.injEq] at hs
  have bJ:(sizeOf e).run P w=.ok 1 w:=by simp [sizeOf,typeInfo,Sem.run_bind,fV,hs]
  have hi:∀ a b:Int,(Op.equalIn (dp+1) e (.int k a) (.int k b)).run P w=.ok (a==b) w:=fun a b=>run_equalIn_int w dp e k k a b he
  rw [Op.equalIn]
  simp only [Sem.run_bind,run_underlying ht,Result.andThen_ok,bJ]
  have hp:∀ (xs:Array Value) (i:Nat) (x:Int),xs[i]?=some (.int k x)→(part e xs i).run P w=.ok (.int k x) w:=by
   intro xs i x hx
   simp [part,isAgg,Sem.run_bind,run_underlying he,hx]
  simp [Std.Legacy.Range.forIn_eq_forIn_range',Std.Legacy.Range.size,List.range',Sem.run_bind,hi,hp #[.int k a,.int k b] 0 a rfl,hp #[.int k c,.int k d'] 0 c rfl,hp #[.int k a,.int k b] 1 b rfl,hp #[.int k c,.int k d'] 1 d' rfl]
  cases h1:(a==c)<;>cases h2:(b==d')<;>simp_all
end
end Go.Proofs.YtcnpikbbmbombaaGreatDoor
namespace Go.Proofs.YtcnpikbbmbombaaGreatDoor
open Go.RowKit
section
variable {P:Program} {ρ:Operand→Value} {w:World} {Φ:Value→World→Prop} {d:Option Tmp} {ty t t':TypeId} {pos:String} {aft:Array Edge} {gd:Option (Nat×Bool)} {x y:Operand} {k yk:IntKind} {a b c:Int}
theorem L4 (h:ρ x=.int k a) (h':ρ y=.int k b) (hb:b≠0) (hc:k.wrap (a.tdiv b)=c) (aH:Φ (.int k c) w):a8 P ⟨d,.binOp .quo t x y t',ty,pos,aft,gd⟩ ρ w Φ:=by
 subst hc;exact .pure (v:=.int k (k.wrap (a.tdiv b))) (by simp [execOp,h,h',eqGuard,binOp,Op.intDiv,hb]) aH
theorem L5 (h:ρ x=.int k a) (h':ρ y=.int k b) (hb:b≠0) (hc:a.tmod b=c) (aH:Φ (.int k c) w):a8 P ⟨d,.binOp .rem t x y t',ty,pos,aft,gd⟩ ρ w Φ:=by
 subst hc;exact .pure (v:=.int k (a.tmod b)) (by simp [execOp,h,h',eqGuard,binOp,Op.intDiv,hb]) aH
theorem L6 (h:ρ x=.int k a) (h':ρ y=.int yk b) (hb:0≤b) (hc:k.wrap (a*2 ^ (min b.toNat k.bits))=c) (aH:Φ (.int k c) w):a8 P ⟨d,.binOp .shl t x y t',ty,pos,aft,gd⟩ ρ w Φ:=by
 subst hc;exact .pure (v:=.int k (k.wrap (a*2 ^ (min b.toNat k.bits)))) (by simp [execOp,h,h',eqGuard,binOp,Op.shift,show ¬ b<0 by omega]) aH
theorem L7 (h:ρ x=.int k a) (h':ρ y=.int k b) (hc:k.wrap ((BitVec.ofInt k.bits a ^^^ BitVec.ofInt k.bits b).toNat:Int)=c) (aH:Φ (.int k c) w):a8 P ⟨d,.binOp .xor t x y t',ty,pos,aft,gd⟩ ρ w Φ:=by
 subst hc;exact .pure (v:=.int k (k.wrap ((BitVec.ofInt k.bits a ^^^ BitVec.ofInt k.bits b).toNat:Int))) (by simp [execOp,h,h',eqGuard,binOp,Op.intBits]) aH
end
end Go.Proofs.YtcnpikbbmbombaaGreatDoor
namespace Go.Proofs.YtcnpikbbmbombaaGreatDoor
open Go.RowKit
section
variable {P:Program} {ρ:Operand→Value} {w:World} {Φ:Value→World→Prop} {d:Option Tmp} {ty t t':TypeId} {pos:String} {aft:Array Edge} {gd:Option (Nat×Bool)} {x y:Operand} {k k' yk:IntKind} {a b c:Int}
theorem L8 (h:ρ x=.int k a) (hc:k.wrap ((BitVec.ofInt k.bits (if k.signed then -1 else k.max) ^^^ BitVec.ofInt k.bits a).toNat:Int)=c) (aH:Φ (.int k c) w):a8 P ⟨d,.unOp .xor t x,ty,pos,aft,gd⟩ ρ w Φ:=by
 subst hc;exact .pure (v:=.int k (k.wrap ((BitVec.ofInt k.bits (if k.signed then -1 else k.max) ^^^ BitVec.ofInt k.bits a).toNat:Int))) (by simp [execOp,h,Op.unary,Op.intBits]) aH
theorem Nu (h:ρ x=.int k a) (h':ρ y=.int k b) (hc:k.wrap ((BitVec.ofInt k.bits a ||| BitVec.ofInt k.bits b).toNat:Int)=c) (aH:Φ (.int k c) w):a8 P ⟨d,.binOp .or t x y t',ty,pos,aft,gd⟩ ρ w Φ:=by
 subst hc;exact .pure (v:=.int k (k.wrap ((BitVec.ofInt k.bits a ||| BitVec.ofInt k.bits b).toNat:Int))) (by simp [execOp,h,h',eqGuard,binOp,Op.intBits]) aH
theorem L9 (h:ρ x=.int k a) (h':ρ y=.int k b) (hc:k.wrap ((BitVec.ofInt k.bits a &&& BitVec.ofInt k.bits b).toNat:Int)=c) (aH:Φ (.int k c) w):a8 P ⟨d,.binOp .and t x y t',ty,pos,aft,gd⟩ ρ w Φ:=by
 subst hc;exact .pure (v:=.int k (k.wrap ((BitVec.ofInt k.bits a &&& BitVec.ofInt k.bits b).toNat:Int))) (by simp [execOp,h,h',eqGuard,binOp,Op.intBits]) aH
theorem Ma (h:ρ x=.int k a) (h':ρ y=.int yk b) (hb:0≤b) (hc:a.fdiv (2 ^ (min b.toNat k.bits))=c) (aH:Φ (.int k c) w):a8 P ⟨d,.binOp .shr t x y t',ty,pos,aft,gd⟩ ρ w Φ:=by
 subst hc;exact .pure (v:=.int k (a.fdiv (2 ^ (min b.toNat k.bits)))) (by simp [execOp,h,h',eqGuard,binOp,Op.shift,show ¬ b<0 by omega]) aH
theorem Mb (h:ρ x=.int k a) (h':ρ y=.int k b) (hc:k.wrap (a*b)=c) (aH:Φ (.int k c) w):a8 P ⟨d,.binOp .mul t x y t',ty,pos,aft,gd⟩ ρ w Φ:=by
 subst hc;exact .pure (v:=.int k (k.wrap (a*b))) (by simp [execOp,h,h',eqGuard,binOp,Op.intArith]) aH
theorem Gu (hs:(P.underlying t).isSome=true) (hd:P.underlying t'=some (.int k)) (h:ρ x=.int k' a) (hc:k.wrap a=c) (aH:Φ (.int k c) w):a8 P ⟨d,.convert t t' x,ty,pos,aft,gd⟩ ρ w Φ:=by
 obtain ⟨u,hu⟩:=Option.isSome_iff_exists.1 hs
 subst hc;exact .pure (v:=.int k (k.wrap a)) (w':=w) (by simp [execOp,h,convert,Sem.run_bind,run_underlying hu,run_underlying hd,Conv.intToInt]) aH
theorem HF {l:List UInt8} (ht:P.underlying t=some .string) (h:ρ x=.string ⟨l.toArray⟩) (aH:Φ (.int .i64 l.length) w):a8 P ⟨d,.call ⟨.builtin .len,#[x],#[t]⟩,ty,pos,aft,gd⟩ ρ w Φ:=by
 obtain ⟨s,hs,bJ⟩:∃ s:ByteArray,s=⟨l.toArray⟩∧s.size=l.length:=⟨_,rfl,by simp [ByteArray.size]⟩
 rw [← hs] at h
 exact .pure (v:=.int .i64 l.length) (w':=w) (by simp [execOp,resolve,h,invoke,builtin,Builtin.len_,Sem.run_bind,run_underlying ht,goInt,bJ]) aH
end
end Go.Proofs.YtcnpikbbmbombaaGreatDoor
namespace Go.Proofs.YtcnpikbbmbombaaGreatDoor
open Go.RowKit
theorem eQ.block {T size n:Nat} {v:Value} {xs:List Value} {H:aq} (h:eQ T size v n xs H) (hn:0<n):∃ b cap cs,v=.slice (some ⟨b,0,none⟩) n cap∧H=[(b,.cells cs T (0,0))]∧cs.size=cap*size∧n≤cap∧cs.toList.take (n*size)=xs:=by
 rcases h.2 with ⟨h0,_⟩ | h
 ·omega
 ·exact h
inductive a7 where
 | b (c:Bool)
 | z (n:Int)
 | ix (i:Nat) (row:List DV)
 | n (i:Nat)
 | n2 (i j:Nat)
 | res (x:DV)
 | call (args:List AV) (x:DV)
 | bw (n:Nat) (tb:List (Nat×List (Nat×a7)))
 | aG (x:DV)
 | stay (args:List AV) (x:DV)
 | mem (l:List Nat) (x:AV) (M':List aj)
 | mk (j:Nat) (k:MK) (x:DV)
 | P6 (j:Nat) (k:MK) (x:DV) (i:Nat)
 | may (c:Bool) (o:a7)
def b9:List (Nat×AV)→Nat→Option AV
 | [],_=>none
 | (k,v)::r,s=>bif k.beq s then some v else b9 r s
theorem mP:∀ {E:List (Nat×AV)} {s:Nat} {v:AV},b9 E s=some v→(s,v) ∈ E
 | [],_,_,h=>by simp [b9] at h
 | (k,u)::r,s,v,h=>by
  unfold b9 at h
  cases hk:k.beq s with
  | true=>simp only [hk,cond_true,Option.some.injEq] at h;subst h;rw [Nat.eq_of_beq_eq_true hk];exact List.mem_cons_self
  | false=>simp only [hk,cond_false] at h;exact List.mem_cons_of_mem _ (mP h)
def aJ (E:List (Nat×AV)):Operand→Option AV
 | .tmp t=>b9 E t
 | .const v=>some (.d (.v v))
 | .func f=>some (.fn f [])
 | .global _=>none
def bn:List Prop→Prop
 | []=>True
 | p::r=>p∧bn r
structure Out where
 vc:List Prop
 av:AV
 M:List aj
 tc:List Nat
 mv:List Nat
 rd:Option (List Nat)
structure Ctx (D:List Nat) (w0:World) (K0:World→Prop) (E:List (Nat×AV)) (M:List aj) (β:Beta) (F:Nat→aq) (I:aq) (ρ:Operand→Value) (w:World):Prop where
 rm:RM D w0 K0 M β F I w
 sl:∀ t v,b9 E t=some v→az (fun w=>K0 w∧Holds w I) β v (ρ (.tmp t))
 const:∀ v,ρ (.const v)=v
 func:∀ f,ρ (.func f)=.func (.func f) #[] #[]
 DA:∀ g,ρ (.global g)=.pointer (some ⟨g,0,none⟩)
 k:∀ w,Kp D w0 w→K0 w
variable {P:Program} {T:aN} {D:List Nat} {w0:World} {K0:World→Prop} {E:List (Nat×AV)} {M:List aj} {β:Beta} {F:Nat→aq} {I:aq} {ρ:Operand→Value} {w:World}
theorem Ctx.now (C:Ctx D w0 K0 E M β F I ρ w):K0 w∧Holds w I:=⟨C.k w C.rm.st.kp,(Holds.app.1 C.rm.st.holds).2⟩
theorem Ctx.ev (C:Ctx D w0 K0 E M β F I ρ w) {x:Operand} {v:AV} (h:aJ E x=some v):az (fun w=>K0 w∧Holds w I) β v (ρ x):=by
 cases x with
 | tmp t=>exact C.sl _ _ h
 | const c=>simp only [aJ,Option.some.injEq] at h;subst h;rw [C.const];exact .d (.v c)
 | global g=>simp [aJ] at h
 | func f=>simp only [aJ,Option.some.injEq] at h;subst h;rw [C.func];exact .fn [] rfl (by simp)
theorem Ctx.bW (C:Ctx D w0 K0 E M β F I ρ w) {x:Operand} {v:AV} (h:aJ E x=some v):∃ y,ρ x=y∧az (fun w=>K0 w∧Holds w I) β v y:=⟨_,rfl,C.ev h⟩
def jr (K0:World→Prop) (I:aq) (F:Nat→aq) (rd:List Nat) (w:World):Prop:=(K0 w∧Holds w I)∧∀ u ∈ rd,Holds w (F u)
def uL (P:Program) (o:Oper) (E:List (Nat×AV)) (M:List aj) (vc:List Prop) (av:AV) (rd:List Nat):Prop:=
 ∀ {D:List Nat} {w0:World} {K0:World→Prop} {β:Beta} {F:Nat→aq} {I:aq} {ρ:Operand→Value} {w:World},Ctx D w0 K0 E M β F I ρ w→bn vc→
  ∃ v,az (fun w=>K0 w∧Holds w I) β av v∧∀ w',jr K0 I F rd w'→(execOp ρ o).run P w'=.ok (.value v) w'
def bU (I I':aq):Prop:=∃ J,I'=J++I
theorem bU.refl (I:aq):bU I I:=⟨[],rfl⟩
theorem bU.holds {I I':aq} (h:bU I I'):∀ w,Holds w I'→Holds w I:=by obtain ⟨J,rfl⟩:=h;exact fun w hw=>(Holds.app.1 hw).2
theorem bU.trans {A B C:aq} (h:bU A B) (k:bU B C):bU A C:=by obtain ⟨J,rfl⟩:=h;obtain ⟨L,rfl⟩:=k;exact ⟨L++J,by rw [List.append_assoc]⟩
def ib (mv:List Nat) (β aE:Beta):Prop:=∀ (u:Nat) x,u ∉ mv→β[u]?=some x→aE[u]?=some x
def uM (P:Program) (o:Oper) (E:List (Nat×AV)) (M:List aj) (out:Out):Prop:=
 ∀ {D:List Nat} {w0:World} {K0:World→Prop} {β:Beta} {F:Nat→aq} {I:aq} {ρ:Operand→Value} {w:World},Ctx D w0 K0 E M β F I ρ w→bn out.vc→
  a8 P o ρ w fun v w'=>∃ aE F' I',RM D w0 K0 out.M aE F' I' w'∧ib out.mv β aE∧bU I I'∧(∀ u,u<M.length→u ∉ out.tc→F' u=F u)∧az (fun w=>K0 w∧Holds w I') aE out.av v
def aK (P:Program) (o:Oper) (E:List (Nat×AV)) (M:List aj) (out:Out):Prop:=
 match out.rd with
 | some rd=>uL P o E M out.vc out.av rd∧out.M=M∧out.mv=[]∧∀ u ∈ rd,u<M.length
 | none=>uM P o E M out
theorem Ext.b {β aE:Beta} (h:Ext β aE) (mv:List Nat):ib mv β aE:=fun u x _ hx=>h u x hx
theorem RM.jl (R:RM D w0 K0 M β F I w) {u:Nat} {blk:aj} (h:M[u]?=some blk):Holds w (F u):=by
 intro x hx
 obtain ⟨hu,-⟩:=List.getElem?_eq_some_iff.1 h
 exact R.st.holds x (List.mem_append_left _ (List.mem_flatMap.2 ⟨u,List.mem_range.2 hu,hx⟩))
theorem RM.at (R:RM D w0 K0 M β F I w) {u:Nat} {blk:aj} (h:M[u]?=some blk):∃ H,F u=H∧bB (fun w=>K0 w∧Holds w I) β u blk H∧Holds w H:=⟨_,rfl,R.blk u _ h,R.jl h⟩
theorem Ctx.yw (C:Ctx D w0 K0 E M β F I ρ w) {rd:List Nat} (h:∀ u ∈ rd,u<M.length):jr K0 I F rd w:=⟨C.now,fun u hu=>C.rm.jl (List.getElem?_eq_getElem (h u hu))⟩
theorem uL.qh {o:Oper} {vc:List Prop} {av:AV} {rd:List Nat} (h:uL P o E M vc av rd) (hr:∀ u ∈ rd,u<M.length):uM P o E M ⟨vc,av,M,[],[],some rd⟩:=by
 intro D w0 K0 β F I ρ w C hv
 obtain ⟨v,h1,h2⟩:=h C hv
 exact a8.pure (h2 w (C.yw hr)) ⟨β,F,I,C.rm,(Ext.refl β).b _,bU.refl _,fun _ _ _=>rfl,h1⟩
theorem aK.qh {o:Oper} {out:Out} (h:aK P o E M out):uM P o E M out:=by
 obtain ⟨vc,av,M',tc,mv,rd⟩:=out
 unfold aK at h
 cases rd with
 | none=>exact h
 | some rd=>
  obtain ⟨h1,rfl,rfl,h2⟩:=h
  intro D w0 K0 β F I ρ w C hv
  refine a8.mono (h1.qh h2 C hv) fun v w' ⟨aE,F',I',R,e,hI,hF,hr⟩=>⟨aE,F',I',R,e,hI,fun u hu _=>hF u hu (by simp),hr⟩
theorem aK.look {o:Oper} {vc:List Prop} {av:AV} {rd:List Nat} (h:uL P o E M vc av rd) (hr:∀ u ∈ rd,u<M.length):aK P o E M ⟨vc,av,M,[],[],some rd⟩:=⟨h,rfl,rfl,hr⟩
theorem aK.same {o:Oper} {vc:List Prop} {av:AV} (h:∀ {D:List Nat} {w0:World} {K0:World→Prop} {β:Beta} {F:Nat→aq} {I:aq} {ρ:Operand→Value} {w:World},Ctx D w0 K0 E M β F I ρ w→bn vc→∃ v,(∀ w',K0 w'∧Holds w' I→(execOp ρ o).run P w'=.ok (.value v) w')∧az (fun w=>K0 w∧Holds w I) β av v):aK P o E M ⟨vc,av,M,[],[],some []⟩:=
 aK.look (fun C hv=>let ⟨v,h1,h2⟩:=h C hv;⟨v,h2,fun w' hs=>h1 w' hs.1⟩) (by simp)
section
variable {d:Option Tmp} {ty:TypeId} {pos:String} {aft:Array Edge} {gd:Option (Nat×Bool)} {oc:Option a7} {out:Out}
def lk (vc:List Prop) (av:AV) (M:List aj):Out:=⟨vc,av,M,[],[],some []⟩
def tN (E:List (Nat×AV)) (M:List aj) (x:Operand):Option Out:=match aJ E x with | some v=>some (lk [] v M) | none=>none
theorem A8 {x:Operand} (h:tN E M x=some out):aK P ⟨d,.move x,ty,pos,aft,gd⟩ E M out∧aK P ⟨d,.assign x,ty,pos,aft,gd⟩ E M out:=by
 unfold tN at h
 split at h
 ·rename_i v hv
  simp only [Option.some.injEq] at h;subst h
  exact ⟨aK.same fun C _=>⟨_,fun _ _=>KL rfl,C.ev hv⟩,aK.same fun C _=>⟨_,fun _ _=>Hy rfl,C.ev hv⟩⟩
 ·simp at h
def yz (E:List (Nat×AV)) (M:List aj) (x:Operand):Option Out:=
 match aJ E x with | some (.pt u o)=>some (lk [] (.pt u o) M) | some (.ep u k i o)=>some (lk [] (.ep u k i o) M) | some (.rp r o)=>some (lk [] (.rp r o) M) | _=>none
theorem KS {K:World→Prop} {v:AV} {y:Value} (h:az K β v y) (hv:(∃ u o,v=.pt u o)∨(∃ u k i o,v=.ep u k i o)∨∃ r o,v=.rp r o):∃ a,y=.pointer (some a):=by
 cases h with
 | pt h=>exact ⟨_,rfl⟩
 | ep h=>exact ⟨_,rfl⟩
 | rp a X hl hc hr=>exact ⟨_,rfl⟩
 | _=>simp at hv
theorem Jh {x:Operand} (h:yz E M x=some out):aK P ⟨d,.nilCheck x,ty,pos,aft,gd⟩ E M out:=by
 unfold yz at h
 split at h<;>simp only [Option.some.injEq,reduceCtorEq] at h<;>subst h<;>rename_i hv<;>
  refine aK.same fun C _=>?_<;>obtain ⟨a,ha⟩:=KS (C.ev hv) (by simp)<;>exact ⟨_,fun _ _=>FR ha,ha▸C.ev hv⟩
def vI (E:List (Nat×AV)) (M:List aj) (x:Operand) (i:Nat):Option Out:=
 match aJ E x with | some (.tu l)=>(match l[i]? with | some v=>some (lk [] v M) | none=>none) | _=>none
theorem wR {R:AV→Value→Prop} {l:List AV} {ys:List Value} (hl:ys.length=l.length) (hr:∀ (j:Nat) c y,l[j]?=some c→ys[j]?=some y→R c y) {i:Nat} {v:AV} (hv:l[i]?=some v):∃ y,ys[i]?=some y∧R v y:=by
 obtain ⟨hi,-⟩:=List.getElem?_eq_some_iff.1 hv
 exact ⟨_,List.getElem?_eq_getElem (by omega),hr i _ _ hv (List.getElem?_eq_getElem (by omega))⟩
theorem FC {x:Operand} {i:Nat} (h:vI E M x i=some out):aK P ⟨d,.extract x i,ty,pos,aft,gd⟩ E M out:=by
 unfold vI at h
 split at h
 ·rename_i l hv
  split at h
  ·rename_i v hi
   simp only [Option.some.injEq] at h;subst h
   refine aK.same fun C _=>?_
   obtain ⟨y,rK,r⟩:=C.bW hv
   cases r with
   | tu ys hl hr=>
    obtain ⟨y,h1,h2⟩:=wR hl hr hi
    exact ⟨y,fun _ _=>Gq rK (by simpa using h1),h2⟩
  ·simp at h
 ·simp at h
theorem vJ {s:TypeId} {x:Operand} {f off:Nat} {a:Addr} (hf:n1 P s f=some off) (h:ρ x=.pointer (some a)):(execOp ρ ⟨d,.fieldAddr s x f,ty,pos,aft,gd⟩).run P w=.ok (.value (.pointer (some (a.add off)))) w:=by
 simp only [execOp,h,Sem.run_bind,FA hf,Result.andThen_ok,Sem.run_pure]
def wS (T:aN) (E:List (Nat×AV)) (M:List aj) (s:TypeId) (x:Operand) (f:Nat):Option Out:=
 match yv T s f with
 | some off=>(match aJ E x with | some (.pt u o)=>some (lk [] (.pt u (o+off)) M) | some (.ep u k i o)=>some (lk [] (.ep u k i (o+off)) M) | some (.rp r o)=>some (lk [] (.rp r (o+off)) M) | _=>none)
 | none=>none
theorem Gv (hT:bc P T=true) {s:TypeId} {x:Operand} {f:Nat} (h:wS T E M s x f=some out):aK P ⟨d,.fieldAddr s x f,ty,pos,aft,gd⟩ E M out:=by
 unfold wS at h
 split at h
 ·rename_i off ho
  have yA:=Jg hT ho
  split at h<;>simp only [Option.some.injEq,reduceCtorEq] at h<;>subst h<;>rename_i hv<;>refine aK.same fun C _=>?_<;>obtain ⟨y,rK,r⟩:=C.bW hv
  ·cases r with | pt hb=>exact ⟨_,fun _ _=>vJ yA rK,by rw [add_eq];exact .pt hb⟩
  ·cases r with | ep hb=>exact ⟨_,fun _ _=>vJ yA rK,by rw [add_eq,Nat.add_assoc];exact .ep hb⟩
  ·cases r with | rp a X hl hc hr=>exact ⟨_,fun _ _=>vJ yA rK,by rw [Addr.pc];exact .rp a X hl hc hr⟩
 ·simp at h
def DV.cp:DV→Bool
 | .v _=>true
 | .ro _ _=>true
 | .jk=>true
 | .em _ _ _=>false
 | .ag _=>false
 | .tu _=>false
 | .pb _ _=>false
theorem bV.cp {K:World→Prop} {x:DV} {y:Value} {H:aq} (h:bV K x y H) (hc:x.cp=true):bV K x y []:=by
 cases h with
 | v=>exact .v _
 | jk=>exact .jk _
 | ro X hl hy hs hr=>exact .ro X hl hy hs hr
 | em=>simp [DV.cp] at hc
 | ag=>simp [DV.cp] at hc
 | tu=>simp [DV.cp] at hc
 | pb=>simp [DV.cp] at hc
def yB (l:List AV) (o n:Nat):Option AV:=bif (o+n).ble l.length then some (.ag ((l.drop o).take n)) else none
def lI (T:aN) (t:TypeId) (l:List AV) (o:Nat):Option AV:=
 match qg T t with | some .one=>l[o]? | some (.many n)=>yB l o n | none=>none
theorem pG (hT:bc P T=true) {t:TypeId} {l:List AV} {o:Nat} {v:AV} {x:Operand} {a:Addr} {R:AV→Value→Prop} {ys:List Value} (hR:∀ (l:List AV) (ys:List Value),ys.length=l.length→(∀ (j:Nat) c y,l[j]?=some c→ys[j]?=some y→R c y)→R (.ag l) (.agg ys.toArray))
  (h:lI T t l o=some v) (hx:ρ x=.pointer (some (a.add o))) (hl:ys.length=l.length) (hr:∀ (j:Nat) c y,l[j]?=some c→ys[j]?=some y→R c y):
  ∃ y,R v y∧∀ w:World,(∀ (j:Nat) y,ys[j]?=some y→w.cell? (a.add j)=some y)→(execOp ρ ⟨d,.load t x,ty,pos,aft,gd⟩).run P w=.ok (.value y) w:=by
 unfold lI at h
 split at h
 ·rename_i ht
  obtain ⟨y,h1,h2⟩:=wR hl hr h
  exact ⟨y,h2,fun w hc=>Cn (wa hT ht) hx (hc _ _ h1)⟩
 ·rename_i n ht
  have ha:=A7 hT ht
  simp only [yB] at h
  cases hb:(o+n).ble l.length with
  | false=>simp [hb] at h
  | true=>
   simp only [hb,cond_true,Option.some.injEq] at h
   have hle:o+n≤l.length:=Nat.le_of_ble_eq_true hb
   subst h
   have hlen:((ys.drop o).take n).length=n:=by simp;omega
   refine ⟨.agg ((ys.drop o).take n).toArray,hR _ _ (by simp;omega) ?_,fun w hc=>Gt ((ys.drop o).take n) (by rw [hlen];exact ha) hx (fun j hj=>?_)⟩
   ·intro j c y h1 h2
    rw [List.getElem?_take,List.getElem?_drop] at h1 h2
    split at h1
    ·rename_i hj;rw [if_pos hj] at h2;exact hr _ _ _ h1 h2
    ·simp at h1
   ·rw [Addr.pc]
    refine hc (o+j) _ ?_
    rw [List.getElem_take,List.getElem_drop];exact List.getElem?_eq_getElem _
 ·simp at h
def xF (T:aN) (E:List (Nat×AV)) (M:List aj) (oc:Option a7) (t:TypeId) (x:Operand):Option Out:=
 match aJ E x with
 | some (.pt u o)=>(match M[u]? with | some (.bx _ cells)=>(match lI T t cells o with | some v=>some ⟨[],v,M,[],[],some [u]⟩ | none=>none) | _=>none)
 | some (.rp row o)=>(match lI T t (row.map .d) o with | some v=>some (lk [] v M) | none=>none)
 | some (.ep u k i o)=>(match oc with
  | some (.ix _ row)=>(match M[u]? with | some (.rw _ k' rows)=>bif k.beq k'&&row.all DV.cp then (match lI T t (row.map .d) o with | some v=>some ⟨[rows[i]?=some row],v,M,[],[],some [u]⟩ | none=>none) else none | _=>none)
  | _=>none)
 | _=>none
theorem kA {n k:Nat} {X:Nat→List Value} (hX:∀ i,i<n→(X i).length=k) {i j:Nat} (hi:i<n) (hj:j<k):(lay n X)[i*k+j]?=(X i)[j]?:=by
 induction n with
 | zero=>omega
 | succ n ih=>
  have hl:(lay n X).length=n*k:=by
   have:∀ m,m≤n→(lay m X).length=m*k:=by
    intro m hm
    induction m with
    | zero=>simp [lay]
    | succ m Oi=>
     have:=Oi (by omega)
     simp only [lay,List.range_succ,List.flatMap_append,List.length_append,List.flatMap_cons,List.flatMap_nil,List.append_nil] at this ⊢
     rw [this,hX m (by omega),Nat.succ_mul]
   exact this n (Nat.le_refl _)
  have hs:lay (n+1) X=lay n X++X n:=by simp [lay,List.range_succ,List.flatMap_append]
  rw [hs]
  rcases Nat.lt_or_ge i n with h | h
  ·have:i*k+j<n*k:=by
    have:=Nat.mul_le_mul_right k (show i+1≤n from h);rw [Nat.succ_mul] at this;omega
   rw [List.getElem?_append_left (by rw [hl];exact this)]
   exact ih (fun i hi=>hX i (by omega)) h
  ·obtain rfl:i=n:=by omega
   rw [List.getElem?_append_right (by rw [hl];omega),hl]
   congr 1;omega
theorem fK {l:List aj} {u:Nat} {b:aj} (h:l[u]?=some b):u<l.length:=(List.getElem?_eq_some_iff.1 h).1
theorem HG (hT:bc P T=true) {t:TypeId} {x:Operand} (h:xF T E M oc t x=some out):aK P ⟨d,.load t x,ty,pos,aft,gd⟩ E M out:=by
 unfold xF at h
 split at h
 ·rename_i u o hv
  split at h
  ·rename_i Tt cells hM
   split at h
   ·rename_i v jZ
    simp only [Option.some.injEq] at h;subst h
    refine aK.look (fun C _=>?_) (by simpa using fK hM)
    obtain ⟨y,hy,r⟩:=C.bW hv
    cases r with
    | pt hb=>
     obtain ⟨H,hF,hB,hH⟩:=C.rm.at hM
     cases hB with
     | bx aQ ys hl hr=>
      rw [hb] at aQ;cases aQ
      obtain ⟨y',h1,h2⟩:=pG hT (a:=⟨_,0,none⟩) (fun l ys=>az.ag ys) jZ (hy.trans (by rw [add_eq,Nat.zero_add])) hl hr
      refine ⟨y',h1,fun w' hs=>h2 w' fun j z hj=>?_⟩
      have hw:Holds w' _:=hs.2 u (by simp)
      rw [hF] at hw
      rw [add_eq,cell_of hw.one,Nat.zero_add];simpa using hj
   ·simp at h
  ·simp at h
 ·rename_i row o hv
  split at h
  ·rename_i v jZ
   simp only [Option.some.injEq] at h;subst h
   refine aK.same ?_
   intro D w0 K0 β F I ρ w C _
   obtain ⟨y,hy,r⟩:=C.bW hv
   cases r with
   | rp a X hl hc hr=>
    have de:X.length=(row.map AV.d).length:=by rw [List.length_map];exact hl
    obtain ⟨y',h1,h2⟩:=pG hT (a:=a) (R:=az (fun w=>K0 w∧Holds w I) β) (fun l ys=>az.ag ys) jZ hy de (fun j c z h1 h2=>by
     simp only [List.getElem?_map,Option.map_eq_some_iff] at h1
     obtain ⟨c',h1,rfl⟩:=h1
     exact .d (hr j c' z h1 h2))
    exact ⟨y',fun w' hs=>h2 w' fun j z hj=>hc w' hs j z hj,h1⟩
  ·simp at h
 ·rename_i u k i o hv
  split at h
  ·rename_i i0 row
   split at h
   rotate_left
   ·simp at h
   rename_i Tt k' rows hM
   cases hk:(k.beq k'&&row.all DV.cp) with
   | false=>simp [hk] at h
   | true=>
    simp only [hk,cond_true] at h
    simp only [Bool.and_eq_true] at hk
    obtain ⟨hk,r3⟩:=hk
    obtain rfl:=Nat.eq_of_beq_eq_true hk
    split at h
    ·rename_i v jZ
     simp only [Option.some.injEq] at h;subst h
     refine aK.look ?_ (by simpa using fK hM)
     intro D w0 K0 β F I ρ w C dE
     obtain ⟨cf,-⟩:=dE
     obtain ⟨y,hy,r⟩:=C.bW hv
     cases r with
     | ep hb=>
      obtain ⟨H,hF,hB,hH⟩:=C.rm.at hM
      cases hB with
      | rw aQ X G hl hs hr=>
       rw [hb] at aQ;cases aQ
       obtain ⟨zf,zg⟩:=hl i row cf
       obtain ⟨hi,-⟩:=List.getElem?_eq_some_iff.1 cf
       obtain ⟨b',cap,cs,he,rfl,cS,hn,ht⟩:=hs.block (by omega)
       cases he
       have de:(X i).length=(row.map AV.d).length:=by rw [List.length_map];omega
       obtain ⟨y',h1,h2⟩:=pG hT (a:=⟨_,i*k,none⟩) (R:=az (fun w=>K0 w∧Holds w I) β) (fun l ys=>az.ag ys) jZ (hy.trans (by rw [add_eq])) de (fun j c z h1 h2=>by
        simp only [List.getElem?_map,Option.map_eq_some_iff] at h1
        obtain ⟨c',h1,rfl⟩:=h1
        exact .d ((hr i row j c' z cf h1 h2).cp (List.all_eq_true.1 r3 c' (List.mem_of_getElem? h1))))
       refine ⟨y',h1,fun w' zh=>h2 w' fun j z hj=>?_⟩
       have eT:Holds w' _:=zh.2 u (by simp)
       rw [hF] at eT
       have hw:=(Holds.app.1 eT).1.one
       obtain ⟨jy,-⟩:=List.getElem?_eq_some_iff.1 hj
       rw [add_eq,cell_of hw,← hj,← kA (fun i hi=>(hl i _ (List.getElem?_eq_getElem hi)).2) hi (by omega),← ht,List.getElem?_take,if_pos,Array.getElem?_toList]
       have:=Nat.mul_le_mul_right k (show i+1≤rows.length from hi);rw [Nat.succ_mul] at this;omega
    ·simp at h
  ·simp at h
 ·simp at h
theorem sS {e size n c:Nat} {t:TypeId} {x ix:Operand} {a:Addr} {k:IntKind} {i:Int} (ht:P.underlying t=some (.slice e)) (hs:(P.info? e).map (·.size)=some size) (hx:ρ x=.slice (some a) n c) (hi:ρ ix=.int k i) (h0:0≤i) (h1:i<n):
  (execOp ρ ⟨d,.indexAddr t x ix,ty,pos,aft,gd⟩).run P w=.ok (.value (.pointer (some (a.add (i.toNat*size))))) w:=by
 cases fV:P.info? e with
 | none=>simp [fV] at hs
 | some inf=>
  simp only [fV,Option.map_some,Option.some.injEq] at hs
  have bJ:(sizeOf e).run P w=.ok size w:=by simp [sizeOf,typeInfo,Sem.run_bind,fV,hs]
  simp [execOp,hx,hi,Instr.indexAt,asIntOf,Sem.run_bind,run_underlying ht,h0,h1,bJ]
theorem o7 {e size n:Nat} {t:TypeId} {x ix:Operand} {a:Addr} {k:IntKind} {i:Int} (ht:P.underlying t=some (.array n e)) (hs:(P.info? e).map (·.size)=some size) (hx:ρ x=.pointer (some a)) (hi:ρ ix=.int k i) (h0:0≤i) (h1:i<n):
  (execOp ρ ⟨d,.indexAddr t x ix,ty,pos,aft,gd⟩).run P w=.ok (.value (.pointer (some (a.add (i.toNat*size))))) w:=by
 cases fV:P.info? e with
 | none=>simp [fV] at hs
 | some inf=>
  simp only [fV,Option.map_some,Option.some.injEq] at hs
  have bJ:(sizeOf e).run P w=.ok size w:=by simp [sizeOf,typeInfo,Sem.run_bind,fV,hs]
  simp [execOp,hx,hi,Instr.indexAt,Instr.sureAddr,asIntOf,Sem.run_bind,run_underlying ht,h0,h1,bJ]
def cU:Option AV→Option (IntKind×Int)
 | some (.d (.v (.int k z)))=>some (k,z)
 | _=>none
theorem Ctx.int (C:Ctx D w0 K0 E M β F I ρ w) {x:Operand} {k:IntKind} {z:Int} (h:cU (aJ E x)=some (k,z)):ρ x=.int k z:=by
 unfold cU at h
 split at h
 ·rename_i k' z' hv
  simp only [Option.some.injEq,Prod.mk.injEq] at h;obtain ⟨rfl,rfl⟩:=h
  obtain ⟨y,hy,r⟩:=C.bW hv
  cases r with | d h=>cases h;exact hy
 ·simp at h
def wT (T:aN) (E:List (Nat×AV)) (M:List aj) (oc:Option a7) (t:TypeId) (x ix:Operand):Option Out:=
 match cU (aJ E ix) with
 | none=>none
 | some (_,z)=>
  match dv T t with
  | some (.sl e)=>(match gi T e with
   | none=>none
   | some k=>(match oc with
    | some (.ix i row)=>(match aJ E x with | some (.d (.ro k' rows))=>(bif k.beq k' then some (lk [z=(i:Int),rows[i]?=some row] (.rp row 0) M) else none) | _=>none)
    | some (.n i)=>(match aJ E x with | some (.sl u n)=>(match M[u]? with | some (.rw _ _ rows)=>some ⟨[z=(i:Int),i<n,n≤rows.length],.ep u k i 0,M,[],[],some []⟩ | _=>none) | _=>none)
    | _=>none))
  | some (.ar n e)=>(match gi T e with
   | none=>none
   | some k=>(match oc with
    | some (.n i)=>(match aJ E x with | some (.pt u o)=>some (lk [z=(i:Int),i<n] (.pt u (o+i*k)) M) | some (.ep u k' j o)=>some (lk [z=(i:Int),i<n] (.ep u k' j (o+i*k)) M) | some (.rp r o)=>some (lk [z=(i:Int),i<n] (.rp r (o+i*k)) M) | _=>none)
    | _=>none))
  | _=>none
theorem add_zero' (a:Addr):a.add 0=a:=by unfold Addr.add;simp
theorem Gw (hT:bc P T=true) {t:TypeId} {x ix:Operand} (h:wT T E M oc t x ix=some out):aK P ⟨d,.indexAddr t x ix,ty,pos,aft,gd⟩ E M out:=by
 unfold wT at h
 split at h
 ·simp at h
 rename_i kk z hz
 split at h
 ·rename_i e ht
  replace ht:=c8 hT ht
  split at h
  ·simp at h
  rename_i k hk
  replace hk:=iz hT hk
  split at h
  ·rename_i i row
   split at h
   ·rename_i k' rows hv
    cases cy:k.beq k' with
    | false=>simp [cy] at h
    | true=>
     simp only [cy,cond_true,Option.some.injEq] at h;subst h
     obtain rfl:=Nat.eq_of_beq_eq_true cy
     refine aK.same fun C dE=>?_
     obtain ⟨rfl,cf,-⟩:=dE
     obtain ⟨y,hy,r⟩:=C.bW hv
     cases r with | d r=>
     cases r with
     | ro X hl jz hs hr=>
      obtain ⟨hi,-⟩:=List.getElem?_eq_some_iff.1 cf
      obtain ⟨a,c,uN,-⟩:=(hs _ C.now).row hi
      refine ⟨_,fun _ _=>sS ht hk (hy.trans uN) (C.int hz) (by omega) (by omega),?_⟩
      have e0:a.add (((i:Nat):Int).toNat*k)=(a.add (i*k)).add 0:=by rw [add_zero'];simp
      rw [e0]
      refine .rp _ (X i) (by have:=hl i row cf;omega) (fun w' eT j x hj=>?_) (fun j c x h1 h2=>hr i row j c x cf h1 h2)
      obtain ⟨a',c',yC,kG⟩:=(hs w' eT).row hi
      rw [uN] at yC;simp only [Value.slice.injEq,Option.some.injEq] at yC;obtain ⟨rfl,-⟩:=yC
      have rZ:=(hl i row cf).2
      obtain ⟨jy,-⟩:=List.getElem?_eq_some_iff.1 hj
      have hg:=kA (fun i hi=>(hl i _ (List.getElem?_eq_getElem hi)).2) hi (show j<k by omega)
      rw [hj] at hg
      obtain ⟨aO,nt⟩:=List.getElem?_eq_some_iff.1 hg
      rw [kG j (by omega) aO,nt]
   ·simp at h
  ·rename_i i
   split at h
   ·rename_i u n hv
    split at h
    ·rename_i Tt k' rows hM
     simp only [Option.some.injEq] at h;subst h
     refine aK.look (fun C dE=>?_) (by simp)
     obtain ⟨rfl,hi,Ed,-⟩:=dE
     obtain ⟨y,hy,r⟩:=C.bW hv
     cases r with
     | sl hb=>
      obtain ⟨H,-,hB,-⟩:=C.rm.at hM
      cases hB with
      | rw aQ X G hl hs hr=>
       rw [hb] at aQ;cases aQ
       obtain ⟨b',cap,cs,he,-⟩:=hs.block (by omega)
       cases he
       exact ⟨_,by rw [add_eq];simpa using az.ep (k:=k) (i:=i) (o:=0) hb,fun _ _=>sS ht hk hy (C.int hz) (by omega) (by omega)⟩
    ·simp at h
   ·simp at h
  ·simp at h
 ·rename_i n e ht
  replace ht:=c8 hT ht
  split at h
  ·simp at h
  rename_i k hk
  replace hk:=iz hT hk
  split at h
  ·rename_i i
   split at h<;>simp only [Option.some.injEq,reduceCtorEq] at h<;>subst h<;>rename_i hv<;>refine aK.same fun C dE=>?_<;>obtain ⟨rfl,hi,-⟩:=dE<;>obtain ⟨y,hy,r⟩:=C.bW hv
   ·cases r with | pt hb=>exact ⟨_,fun _ _=>o7 ht hk hy (C.int hz) (by omega) (by omega),by rw [add_eq];exact .pt hb⟩
   ·cases r with | ep hb=>exact ⟨_,fun _ _=>o7 ht hk hy (C.int hz) (by omega) (by omega),by rw [add_eq,Nat.add_assoc];exact .ep hb⟩
   ·cases r with | rp a X hl hc hr=>exact ⟨_,fun _ _=>o7 ht hk hy (C.int hz) (by omega) (by omega),by rw [Addr.pc];exact .rp a X hl hc hr⟩
  ·simp at h
 ·simp at h
end
end Go.Proofs.YtcnpikbbmbombaaGreatDoor
namespace Go.Proofs.YtcnpikbbmbombaaGreatDoor
open Go.RowKit
variable {P:Program} {T:aN} {D:List Nat} {w0:World} {K0:World→Prop} {E:List (Nat×AV)} {M:List aj} {β:Beta} {F:Nat→aq} {I:aq} {ρ:Operand→Value} {w:World}
variable {d:Option Tmp} {ty:TypeId} {pos:String} {aft:Array Edge} {gd:Option (Nat×Bool)} {oc:Option a7} {out:Out}
def AV.i (k:IntKind) (z:Int):AV:=.d (.v (.int k z))
def AV.b (c:Bool):AV:=.d (.v (.bool c))
def l5:Option AV→Option Bool
 | some (.d (.v (.bool c)))=>some c
 | _=>none
theorem Ctx.bool (C:Ctx D w0 K0 E M β F I ρ w) {x:Operand} {c:Bool} (h:l5 (aJ E x)=some c):ρ x=.bool c:=by
 unfold l5 at h
 split at h
 ·rename_i c' hv
  simp only [Option.some.injEq] at h;subst h
  obtain ⟨y,hy,r⟩:=C.bW hv
  cases r with | d h=>cases h;exact hy
 ·simp at h
def kg:Option AV→Option (List UInt8)
 | some (.d (.v (.string s)))=>some s.data.toList
 | _=>none
theorem Ctx.str (C:Ctx D w0 K0 E M β F I ρ w) {x:Operand} {l:List UInt8} (h:kg (aJ E x)=some l):ρ x=.string ⟨l.toArray⟩:=by
 unfold kg at h
 split at h
 ·rename_i s hv
  simp only [Option.some.injEq] at h;subst h
  obtain ⟨y,hy,r⟩:=C.bW hv
  cases r with | d h=>cases h;rw [hy]
 ·simp at h
def DB:BinOp→Int→Int→Option Bool
 | .eql,a,b=>some (a==b)
 | .neq,a,b=>some (a != b)
 | .lss,a,b=>some (decide (a<b))
 | .leq,a,b=>some (decide (a≤b))
 | .gtr,a,b=>some (decide (b<a))
 | .geq,a,b=>some (decide (b≤a))
 | _,_,_=>none
def Ee:BinOp→IntKind→Int→Int→Option (List Prop×Int)
 | .add,k,a,b=>some ([],k.wrap (a+b))
 | .sub,k,a,b=>some ([],k.wrap (a-b))
 | .mul,k,a,b=>some ([],k.wrap (a*b))
 | .quo,k,a,b=>some ([b≠0],k.wrap (a.tdiv b))
 | .rem,_,a,b=>some ([b≠0],a.tmod b)
 | .and,k,a,b=>some ([],k.wrap ((BitVec.ofInt k.bits a &&& BitVec.ofInt k.bits b).toNat:Int))
 | .or,k,a,b=>some ([],k.wrap ((BitVec.ofInt k.bits a ||| BitVec.ofInt k.bits b).toNat:Int))
 | .xor,k,a,b=>some ([],k.wrap ((BitVec.ofInt k.bits a ^^^ BitVec.ofInt k.bits b).toNat:Int))
 | _,_,_,_=>none
def Ef:BinOp→IntKind→Int→Int→Option Int
 | .shl,k,a,b=>some (k.wrap (a*2 ^ (min b.toNat k.bits)))
 | .shr,k,a,b=>some (a.fdiv (2 ^ (min b.toNat k.bits)))
 | _,_,_,_=>none
def l6 (oc:Option a7) (c0:Bool) (M:List aj):Out:=match oc with | some (.b c)=>lk [c0=c] (.b c) M | _=>lk [] (.b c0) M
def l7 (oc:Option a7) (vc:List Prop) (k:IntKind) (z0:Int) (M:List aj):Out:=match oc with | some (.z z)=>lk ((z0=z)::vc) (.i k z) M | _=>lk vc (.i k z0) M
def oJ (P:Program) (o:Oper):Prop:=∀ (ρ:Operand→Value) (w:World),(∃ v w',(execOp ρ o).run P w=.ok (.value v) w')∨∃ h w',(execOp ρ o).run P w=.halt h w'
theorem oJ.of {o:Oper} (h:∀ ρ:Operand→Value,∃ s:Sem Value,execOp ρ o=(do pure (Next.value (← s)))):oJ P o:=by
 intro ρ w
 obtain ⟨s,hs⟩:=h ρ
 rw [hs]
 simp only [Sem.run_bind]
 cases hr:s.run P w with
 | ok v' w'=>exact Or.inl ⟨v',w',by simp⟩
 | halt x w'=>exact Or.inr ⟨x,w',rfl⟩
theorem sT {o:Oper} {ρ:Operand→Value} {w:World} {v:Value} (hk:oJ P o) (h:a8 P o ρ w fun v' w'=>v'=v∧w'=w):(execOp ρ o).run P w=.ok (.value v) w:=by
 unfold a8 at h
 rcases hk ρ w with ⟨v',w',hr⟩ | ⟨x,w',hr⟩<;>rw [hr] at h ⊢
 ·obtain ⟨rfl,rfl⟩:=h;rfl
 ·exact h.elim
theorem kD {o:Oper} {vc:List Prop} {av:AV} (hk:oJ P o) (h:∀ {D:List Nat} {w0:World} {K0:World→Prop} {β:Beta} {F:Nat→aq} {I:aq} {ρ:Operand→Value} {w:World},Ctx D w0 K0 E M β F I ρ w→bn vc→∃ v,az (fun w=>K0 w∧Holds w I) β av v∧∀ (w:World) (Φ:Value→World→Prop),Φ v w→a8 P o ρ w Φ):aK P o E M (lk vc av M):=
 aK.same fun C hv=>let ⟨v,h1,h2⟩:=h C hv;⟨v,fun w' _=>sT hk (h2 w' _ ⟨rfl,rfl⟩),h1⟩
theorem n3 {o:Oper} {c0:Bool} (hk:oJ P o) (h:∀ {D:List Nat} {w0:World} {K0:World→Prop} {β:Beta} {F:Nat→aq} {I:aq} {ρ:Operand→Value} {w:World},Ctx D w0 K0 E M β F I ρ w→∀ (w:World) (Φ:Value→World→Prop),Φ (.bool c0) w→a8 P o ρ w Φ):aK P o E M (l6 oc c0 M):=by
 unfold l6
 split
 ·refine kD hk fun C hv=>?_
  obtain ⟨rfl,-⟩:=hv
  exact ⟨_,.d (.v _),h C⟩
 ·exact kD hk fun C _=>⟨_,.d (.v _),h C⟩
theorem mT {o:Oper} {vc:List Prop} {k:IntKind} {z0:Int} (hk:oJ P o) (h:∀ {D:List Nat} {w0:World} {K0:World→Prop} {β:Beta} {F:Nat→aq} {I:aq} {ρ:Operand→Value} {w:World},Ctx D w0 K0 E M β F I ρ w→bn vc→∀ (w:World) (Φ:Value→World→Prop),Φ (.int k z0) w→a8 P o ρ w Φ):aK P o E M (l7 oc vc k z0 M):=by
 unfold l7
 split
 ·refine kD hk fun C hv=>?_
  obtain ⟨rfl,hv⟩:=hv
  exact ⟨_,.d (.v _),h C hv⟩
 ·exact kD hk fun C hv=>⟨_,.d (.v _),h C hv⟩
def xG (E:List (Nat×AV)) (M:List aj) (oc:Option a7) (op:BinOp) (x y:Operand):Option Out:=
 match cU (aJ E x),cU (aJ E y) with
 | some (k,a),some (k',b)=>(match Ef op k a b with
  | some z0=>some (l7 oc [0≤b] k z0 M)
  | none=>bif decide (k=k') then (match DB op a b with
   | some c0=>some (l6 oc c0 M)
   | none=>match Ee op k a b with | some (vc,z0)=>some (l7 oc vc k z0 M) | none=>none) else none)
 | _,_=>none
theorem HH {op:BinOp} {x y:Operand} {t t':TypeId} (h:xG E M oc op x y=some out):aK P ⟨d,.binOp op t x y t',ty,pos,aft,gd⟩ E M out:=by
 unfold xG at h
 split at h
 ·rename_i k a k' b hx hy
  split at h
  ·rename_i z0 hz
   simp only [Option.some.injEq] at h;subst h
   refine mT (.of fun _=>⟨_,rfl⟩) fun C hv w Φ aH=>?_
   obtain ⟨hb,-⟩:=hv
   cases op<;>simp only [Ef,Option.some.injEq,reduceCtorEq] at hz
   ·exact L6 (C.int hx) (C.int hy) hb hz aH
   ·exact Ma (C.int hx) (C.int hy) hb hz aH
  ·cases hk:decide (k=k') with
   | false=>simp [hk] at h
   | true=>
    simp only [hk,cond_true] at h
    obtain rfl:=of_decide_eq_true hk
    split at h
    ·rename_i c0 hc
     simp only [Option.some.injEq] at h;subst h
     refine n3 (.of fun _=>⟨_,rfl⟩) fun C w Φ aH=>?_
     cases op<;>simp only [DB,Option.some.injEq,reduceCtorEq] at hc
     ·exact LO (C.int hx) (C.int hy) hc aH
     ·exact LP (C.int hx) (C.int hy) hc aH
     ·exact LQ (C.int hx) (C.int hy) hc aH
     ·exact LR (C.int hx) (C.int hy) hc aH
     ·exact LU (C.int hx) (C.int hy) hc aH
     ·exact LV (C.int hx) (C.int hy) hc aH
    ·split at h
     ·rename_i vc z0 hz
      simp only [Option.some.injEq] at h;subst h
      refine mT (.of fun _=>⟨_,rfl⟩) fun C hv w Φ aH=>?_
      cases op<;>simp only [Ee,Option.some.injEq,Prod.mk.injEq,reduceCtorEq] at hz<;>obtain ⟨rfl,hz⟩:=hz
      ·exact LW (C.int hx) (C.int hy) hz aH
      ·exact LX (C.int hx) (C.int hy) hz aH
      ·exact Mb (C.int hx) (C.int hy) hz aH
      ·exact L4 (C.int hx) (C.int hy) hv.1 hz aH
      ·exact L5 (C.int hx) (C.int hy) hv.1 hz aH
      ·exact L9 (C.int hx) (C.int hy) hz aH
      ·exact Nu (C.int hx) (C.int hy) hz aH
      ·exact L7 (C.int hx) (C.int hy) hz aH
     ·simp at h
 ·simp at h
end Go.Proofs.YtcnpikbbmbombaaGreatDoor
namespace Go.Proofs.YtcnpikbbmbombaaGreatDoor
open Go.RowKit
variable {P:Program} {T:aN} {D:List Nat} {w0:World} {K0:World→Prop} {E:List (Nat×AV)} {M:List aj} {β:Beta} {F:Nat→aq} {I:aq} {ρ:Operand→Value} {w:World}
variable {d:Option Tmp} {ty:TypeId} {pos:String} {aft:Array Edge} {gd:Option (Nat×Bool)} {oc:Option a7} {out:Out}
theorem o8 (vs:List Value):∀ (c:Array Value) (i j:Nat),i+vs.length≤c.size→(cA c i vs)[j]?=if i≤j∧j<i+vs.length then vs[j-i]? else c[j]?:=by
 induction vs with
 | nil=>intro c i j h;simp [cA];intro h1 h2;omega
 | cons v r ih=>
  intro c i j h
  simp only [List.length_cons] at h
  simp only [cA]
  rw [ih _ _ _ (by simp;omega)]
  by_cases h1:i+1≤j∧j<i+1+r.length
  ·rw [if_pos h1,if_pos (by simp;omega)]
   rw [show j-i=(j-(i+1))+1 by omega];simp
  ·rw [if_neg h1,Array.getElem?_setIfInBounds]
   by_cases h2:i=j
   ·subst h2;simp;omega
   ·rw [if_neg h2,if_neg (by simp;omega)]
theorem bB.mono {K K':World→Prop} {β aE:Beta} (h:∀ w,K' w→K w) (e:Ext β aE) {u:Nat} {blk:aj} {H:aq} (r:bB K β u blk H):bB K' aE u blk H:=by
 cases r with
 | dead=>exact .dead u
 | bx hb ys hl hr=>exact .bx (e _ _ hb) ys hl (fun j c y h1 h2=>(hr j c y h1 h2).mono h e)
 | rw hb X G hl hs hr=>exact .rw (e _ _ hb) X G hl hs (fun i r j c x h1 h2 h3=>(hr i r j c x h1 h2 h3).mono h)
 | tw hb X G hl hs hr=>exact .tw (e _ _ hb) X G hl hs (fun i r j c x h1 h2 h3=>(hr i r j c x h1 h2 h3).mono h)
 | nm hb=>exact .nm (e _ _ hb)
 | gw X hl hc hr=>exact .gw X hl (fun w hw=>hc w (h w hw)) (fun j c x h1 h2=>(hr j c x h1 h2).mono h)
 | il hb hm=>exact .il (e _ _ hb) (fun v hv=>let ⟨c',h'⟩:=hm v hv;⟨c',e _ _ h'⟩)
 | fl hb ys hl hm hc hr=>exact .fl (e _ _ hb) ys hl hm hc (fun j c y h1 h2=>(hr j c y h1 h2).mono h e)
 | mf hb vs hl hr=>exact .mf (e _ _ hb) vs hl (fun j c y h1 h2=>(hr j c y h1 h2).mono h e)
 | mp hb vs G hl hr=>exact .mp (e _ _ hb) vs G hl (fun j c y h1 h2=>(hr j c y h1 h2).mono h)
 | mu jd hp hn aO hb vs G hl hr=>exact .mu jd hp hn aO (e _ _ hb) vs G hl (fun j c y h1 h2=>(hr j c y h1 h2).mono h)
 | lp hb bJ hr=>exact .lp (e _ _ hb) bJ (fun x hx=>(hr x hx).mono h e)
 | it hb hm=>exact .it (e _ _ hb) (fun v hv=>let ⟨c',h'⟩:=hm v hv;⟨c',e _ _ h'⟩)
def aM (F:Nat→aq) (u:Nat) (H:aq):Nat→aq:=fun v=>if v=u then H else F v
theorem mX (F:Nat→aq) (H:aq) {n:Nat} {tc:List Nat}:∀ u,u<n→u ∉ tc→aM F n H u=F u:=fun u hu _=>by simp [aM];omega
theorem AN (F:Nat→aq) (H:aq) (n:Nat):(List.range (n+1)).flatMap (aM F n H)=(List.range n).flatMap F++H:=by
 rw [List.range_succ,List.flatMap_append]
 have:(List.range n).flatMap (aM F n H)=(List.range n).flatMap F:=by
  rw [List.flatMap_def,List.flatMap_def];congr 1
  apply List.map_congr_left;intro a ha;have:=List.mem_range.1 ha;simp [aM];omega
 rw [this];simp [aM]
theorem RM.new (R:RM D w0 K0 M β F I w) {w':World} (g:Gr w w') {q:Option Addr×Nat} {H:aq} {blk:aj} (n:dW w w' H) (hb:bB (fun w=>K0 w∧Holds w I) (β++[q]) M.length blk H):
  RM D w0 K0 (M++[blk]) (β++[q]) (aM F M.length H) I w' where
 len:=by simp [R.len]
 blk:=by
  intro u bl hu
  rcases Nat.lt_or_ge u M.length with h | h
  ·rw [List.getElem?_append_left h] at hu
   have:aM F M.length H u=F u:=by simp [aM];omega
   rw [this];exact (R.blk u bl hu).mono (fun _ h=>h) (Ext.app _ _)
  ·rw [List.getElem?_append_right h] at hu
   have h0:u-M.length=0:=by
    rcases Nat.eq_zero_or_pos (u-M.length) with h0 | h0
    ·exact h0
    ·rw [List.getElem?_eq_none (by simp;omega)] at hu;simp at hu
   obtain rfl:u=M.length:=by omega
   simp at hu;subst hu
   simpa [aM] using hb
 st:=by
  have:=R.st.new g n
  rw [List.length_append,List.length_singleton,AN]
  refine this.perm ?_
  rw [← List.append_assoc]
  exact List.Perm.append_right I List.perm_append_comm
theorem RM.gr (R:RM D w0 K0 M β F I w) {w':World} (g:Gr w w'):RM D w0 K0 M β F I w':=⟨R.len,R.blk,R.st.gr g⟩
theorem jm (R:RM D w0 K0 M β F I w) (x:Option Addr×Nat):(β++[x])[M.length]?=some x:=by rw [← R.len];simp
def AV.one:AV→Bool
 | .d (.v x)=>bQ x
 | .d .jk=>false
 | .d (.ag _)=>false
 | .d (.tu _)=>false
 | .ag _=>false
 | .tu _=>false
 | _=>true
theorem AV.wU {K:World→Prop} {c:AV} {y:Value} (h:az K β c y) (ho:c.one=true):bQ y=true:=by
 cases h with
 | d h=>
  rename_i x
  cases x with
  | v x=>cases h;exact ho
  | jk=>simp [AV.one] at ho
  | ro k rows=>obtain ⟨a,n,c,rfl⟩:=h.slice (by simp);rfl
  | em T k rows=>obtain ⟨a,n,c,rfl⟩:=h.slice (by simp);rfl
  | ag l=>simp [AV.one] at ho
  | tu l=>simp [AV.one] at ho
  | pb T l=>cases h
 | sl=>rfl
 | sb=>rfl
 | sf=>rfl
 | mv=>rfl
 | yl=>rfl
 | pt=>rfl
 | ep=>rfl
 | rp=>rfl
 | uk hu=>exact hu
 | bt h hn=>obtain ⟨a,n,c,rfl⟩:=h.slice (by simp);rfl
 | fn=>rfl
 | fm=>rfl
 | ag=>simp [AV.one] at ho
 | tu=>simp [AV.one] at ho
theorem Gy {y:Value} (h:bQ y=true):y.cells=#[y]:=by cases y<;>first | rfl | simp [bQ] at h
def oa:AV→Option (List AV)
 | .ag l=>bif l.all AV.one then some l else none
 | c=>bif c.one then some [c] else none
theorem qI {K:World→Prop} {v:AV} {y:Value} {l:List AV} (h:oa v=some l) (r:az K β v y):∃ ys:List Value,y.cells=ys.toArray∧ys.length=l.length∧(∀ (j:Nat) c z,l[j]?=some c→ys[j]?=some z→az K β c z)∧∀ q ∈ ys,bQ q=true:=by
 have single:∀ c:AV,(bif c.one then some [c] else none)=some l→az K β c y→∃ ys:List Value,y.cells=ys.toArray∧ys.length=l.length∧(∀ (j:Nat) c z,l[j]?=some c→ys[j]?=some z→az K β c z)∧∀ q ∈ ys,bQ q=true:=by
  intro c hc rc
  cases ho:c.one with
  | false=>simp [ho] at hc
  | true=>
   simp only [ho,cond_true,Option.some.injEq] at hc;subst hc
   have h1:=AV.wU rc ho
   refine ⟨[y],Gy h1,rfl,?_,by simpa using h1⟩
   intro j c' z h2 h3
   cases j with
   | zero=>simp at h2 h3;subst h2 h3;exact rc
   | succ j=>simp at h2
 cases v with
 | ag l'=>
  simp only [oa] at h
  cases ho:l'.all AV.one with
  | false=>simp [ho] at h
  | true=>
   simp only [ho,cond_true,Option.some.injEq] at h;subst h
   cases r with
   | ag ys hl hr=>
    refine ⟨ys,rfl,hl,hr,?_⟩
    intro q hq
    obtain ⟨j,hj,rfl⟩:=List.getElem_of_mem hq
    have jy:j<l'.length:=by omega
    exact AV.wU (hr j _ _ (List.getElem?_eq_getElem jy) (List.getElem?_eq_getElem hj)) (List.all_eq_true.1 ho _ (List.getElem_mem jy))
 | _=>(refine single _ ?_ r;exact h)
def yD (E:List (Nat×AV)) (M:List aj) (t:TypeId) (x:Operand):Option Out:=
 match aJ E x with
 | some v=>(match oa v with | some l=>some ⟨[],.pt M.length 0,M++[.bx t l],[],[],none⟩ | none=>none)
 | none=>none
theorem Ji {t:TypeId} {x:Operand} (h:yD E M t x=some out):aK P ⟨d,.box t x,ty,pos,aft,gd⟩ E M out:=by
 unfold yD at h
 split at h
 ·rename_i v hv
  split at h
  ·rename_i l hl
   simp only [Option.some.injEq] at h;subst h
   intro D w0 K0 β F I ρ w C _
   obtain ⟨y,hy,r⟩:=C.bW hv
   obtain ⟨ys,h1,h2,h3,h4⟩:=qI hl r
   refine KM hy fun b w' g n=>?_
   rw [h1] at n
   exact ⟨_,_,I,C.rm.new (q:=(some ⟨b,0,none⟩,0)) g n (.bx (jm C.rm _) ys h2 fun j c z e1 e2=>(h3 j c z e1 e2).mono (fun _ h=>h) (Ext.app _ _)),(Ext.app _ _).b _,bU.refl _,mX _ _,.pt (jm C.rm _)⟩
  ·simp at h
 ·simp at h
def lZ (l:List Value):List AV:=l.map fun x=>.d (.v x)
theorem qJ {K:World→Prop} (l:List Value):l.length=(lZ l).length∧∀ (j:Nat) c z,(lZ l)[j]?=some c→l[j]?=some z→az K β c z:=by
 refine ⟨by simp [lZ],?_⟩
 intro j c z h1 h2
 simp only [lZ,List.getElem?_map,h2,Option.map_some,Option.some.injEq] at h1
 subst h1;exact .d (.v _)
def wV (T:aN) (M:List aj) (t:TypeId):Option Out:=
 match pP T t with
 | some l=>some ⟨[],.pt M.length 0,M++[.bx t (lZ l)],[],[],none⟩
 | none=>none
theorem Gz (hT:bc P T=true) {t:TypeId} (h:wV T M t=some out):aK P ⟨d,.alloc t,ty,pos,aft,gd⟩ E M out:=by
 unfold wV at h
 split at h
 ·rename_i l hz
  simp only [Option.some.injEq] at h;subst h
  obtain ⟨z,oK,oL⟩:=sR hT hz
  intro D w0 K0 β F I ρ w C _
  refine A5 (oL w) fun b w' g n=>?_
  rw [oK] at n
  obtain ⟨h1,h2⟩:=qJ (K:=fun w=>K0 w∧Holds w I) (β:=β++[(some ⟨b,0,none⟩,0)]) l
  exact ⟨_,_,I,C.rm.new (q:=(some ⟨b,0,none⟩,0)) g n (.bx (jm C.rm _) l h1 h2),(Ext.app _ _).b _,bU.refl _,mX _ _,.pt (jm C.rm _)⟩
 ·simp at h
theorem RM.set (R:RM D w0 K0 M β F I w) {u b:Nat} {o o':Obj} {G:aq} {blk blk':aj} (hu:M[u]?=some blk) (hF:F u=(b,o)::G) (hb:bB (fun w=>K0 w∧Holds w I) β u blk' ((b,o')::G)):
  RM D w0 K0 (M.set u blk') β (aM F u ((b,o')::G)) I (cC w b o') where
 len:=by rw [List.length_set];exact R.len
 blk:=by
  intro v bl hv
  rw [List.getElem?_set] at hv
  by_cases e:u=v
  ·subst e
   obtain ⟨aO,-⟩:=List.getElem?_eq_some_iff.1 hu
   simp only [aO,if_pos,Option.some.injEq] at hv;subst hv
   simpa [aM] using hb
  ·rw [if_neg e] at hv
   have:aM F u ((b,o')::G) v=F v:=by simp only [aM];rw [if_neg (fun h=>e h.symm)]
   rw [this];exact R.blk v bl hv
 st:=by
  obtain ⟨aO,-⟩:=List.getElem?_eq_some_iff.1 hu
  have split:∀ (f:Nat→aq),(List.range M.length).flatMap f++I=(List.range u).flatMap f++(f u++((List.range' (u+1) (M.length-(u+1))).flatMap f++I)):=by
   intro f
   have hr:List.range M.length=List.range u++u::List.range' (u+1) (M.length-(u+1)):=by
    rw [List.range_eq_range',List.range_eq_range']
    have h1:M.length=u+(1+(M.length-(u+1))):=by omega
    conv=>lhs;rw [h1]
    rw [← List.range'_append_1,← List.range'_append_1]
    simp
   rw [hr];simp [List.flatMap_append]
  have other:∀ v,v≠u→aM F u ((b,o')::G) v=F v:=fun v h=>by simp [aM,h]
  have c1:(List.range u).flatMap (aM F u ((b,o')::G))=(List.range u).flatMap F:=by
   rw [List.flatMap_def,List.flatMap_def];congr 1;apply List.map_congr_left;intro a ha;have:=List.mem_range.1 ha;exact other a (by omega)
  have c2:(List.range' (u+1) (M.length-(u+1))).flatMap (aM F u ((b,o')::G))=(List.range' (u+1) (M.length-(u+1))).flatMap F:=by
   rw [List.flatMap_def,List.flatMap_def];congr 1;apply List.map_congr_left;intro a ha;have:=(List.mem_range'_1.1 ha).1;exact other a (by omega)
  have hs:=R.st
  rw [split,hF] at hs
  have kQ:St D w0 w ((b,o)::(G++((List.range u).flatMap F++((List.range' (u+1) (M.length-(u+1))).flatMap F++I)))):=hs.perm (by classical rw [List.perm_iff_count];intro x;simp only [List.count_append,List.count_cons]<;>omega)
  rw [List.length_set,split,c1,c2]
  have iq:aM F u ((b,o')::G) u=(b,o')::G:=by simp [aM]
  rw [iq]
  exact (kQ.set o').perm (by classical rw [List.perm_iff_count];intro x;simp only [List.count_append,List.count_cons]<;>omega)
def wb (T:aN) (E:List (Nat×AV)) (M:List aj) (t:TypeId) (x y:Operand):Option Out:=
 match aJ E x,aJ E y,gi T t with
 | some (.pt u o),some v,some n=>(match oa v,M[u]? with
  | some l,some (.bx T cells)=>bif l.length.beq n&&(o+n).ble cells.length then some ⟨[],.d .jk,M.set u (.bx T (cells.take o++(l++cells.drop (o+n)))),[u],[],none⟩ else none
  | _,_=>none)
 | _,_,_=>none
theorem FU (hT:bc P T=true) {t:TypeId} {x y:Operand} (h:wb T E M t x y=some out):aK P ⟨d,.store t x y,ty,pos,aft,gd⟩ E M out:=by
 unfold wb at h
 split at h
 ·rename_i u o v n hx hy hn
  split at h
  ·rename_i l Tt cells hl hM
   cases hc:(l.length.beq n&&(o+n).ble cells.length) with
   | false=>simp [hc] at h
   | true=>
    simp only [hc,cond_true,Option.some.injEq] at h;subst h
    simp only [Bool.and_eq_true] at hc
    have r4:=Nat.eq_of_beq_eq_true hc.1
    have hle:=Nat.le_of_ble_eq_true hc.2
    intro D w0 K0 β F I ρ w C _
    obtain ⟨yx,jA,rx⟩:=C.bW hx
    obtain ⟨yy,oM,ry⟩:=C.bW hy
    obtain ⟨zs,h1,h2,h3,h4⟩:=qI hl ry
    cases rx with
    | pt hb=>
     obtain ⟨H,hF,hB,hH⟩:=C.rm.at hM
     cases hB with
     | bx aQ ys r5 hr=>
      rw [hb] at aQ;cases aQ
      have hw:=hH.one
      have Oj:=iz hT hn
      refine vZ n Oj jA oM hw (by rw [h1];simp;omega) (by simp;omega) (by rw [h1];simpa using h4) ?_
      rw [h1]
      refine ⟨β,_,I,C.rm.set hM hF (o':=.cells (cA ys.toArray o zs) Tt (0,0)) (?_:bB _ β u (.bx Tt (cells.take o++(l++cells.drop (o+n)))) _),(Ext.refl β).b _,bU.refl _,fun v hv hn=>by simp only [aM];rw [if_neg (by simpa using hn)],.d (.jk _)⟩
      have he:(cA ys.toArray o zs)=(cA ys.toArray o zs).toList.toArray:=by simp
      rw [he]
      refine .bx hb _ (by rw [Array.length_toList,lS];simp;omega) ?_
      intro j c z e1 e2
      rw [Array.getElem?_toList,o8 _ _ _ _ (by simp;omega)] at e2
      by_cases hj:o≤j∧j<o+zs.length
      ·rw [if_pos hj] at e2
       rw [List.getElem?_append_right (by simp;omega),List.getElem?_append_left (by simp;omega)] at e1
       refine h3 (j-o) c z ?_ e2
       rw [← e1];congr 1;simp;omega
      ·rw [if_neg hj] at e2
       rw [List.getElem?_toArray] at e2
       refine hr j c z ?_ e2
       rcases Nat.lt_or_ge j o with nH | nH
       ·rw [List.getElem?_append_left (by simp;omega),List.getElem?_take,if_pos nH] at e1;exact e1
       ·rw [List.getElem?_append_right (by simp;omega),List.getElem?_append_right (by simp;omega),List.getElem?_drop] at e1
        rw [← e1];congr 1;simp;omega
  ·simp at h
 ·simp at h
end Go.Proofs.YtcnpikbbmbombaaGreatDoor
namespace Go.Proofs.YtcnpikbbmbombaaGreatDoor
open Go.RowKit
variable {P:Program} {T:aN} {D:List Nat} {w0:World} {K0:World→Prop} {E:List (Nat×AV)} {M:List aj} {β:Beta} {F:Nat→aq} {I:aq} {ρ:Operand→Value} {w:World}
variable {d:Option Tmp} {ty:TypeId} {pos:String} {aft:Array Edge} {gd:Option (Nat×Bool)} {oc:Option a7} {out:Out}
def yE (E:List (Nat×AV)) (M:List aj) (oc:Option a7) (x:Operand):Option Out:=match l5 (aJ E x) with | some c=>some (l6 oc (!c) M) | none=>none
theorem Jj {x:Operand} {t:TypeId} (h:yE E M oc x=some out):aK P ⟨d,.unOp .not t x,ty,pos,aft,gd⟩ E M out:=by
 unfold yE at h
 split at h
 ·rename_i c hc
  simp only [Option.some.injEq] at h;subst h
  exact n3 (.of fun _=>⟨_,rfl⟩) fun C w Φ aH=>L0 (C.bool hc) rfl aH
 ·simp at h
def yF (E:List (Nat×AV)) (M:List aj) (oc:Option a7) (x:Operand):Option Out:=match cU (aJ E x) with | some (k,a)=>some (l7 oc [] k (k.wrap ((BitVec.ofInt k.bits (if k.signed then -1 else k.max) ^^^ BitVec.ofInt k.bits a).toNat:Int)) M) | none=>none
theorem Jk {x:Operand} {t:TypeId} (h:yF E M oc x=some out):aK P ⟨d,.unOp .xor t x,ty,pos,aft,gd⟩ E M out:=by
 unfold yF at h
 split at h
 ·rename_i k a hc
  simp only [Option.some.injEq] at h;subst h
  exact mT (.of fun _=>⟨_,rfl⟩) fun C _ w Φ aH=>L8 (C.int hc) rfl aH
 ·simp at h
def xH (E:List (Nat×AV)) (M:List aj) (oc:Option a7) (c x y:Operand):Option Out:=
 match l5 (aJ E c),oc with
 | some c0,some (.b b)=>(match aJ E (bif b then x else y) with | some v=>some (lk [c0=b] v M) | none=>none)
 | some true,_=>(match aJ E x with | some v=>some (lk [] v M) | none=>none)
 | some false,_=>(match aJ E y with | some v=>some (lk [] v M) | none=>none)
 | none,_=>none
theorem sU {c x y:Operand}:oJ P ⟨d,.pick c x y,ty,pos,aft,gd⟩:=by
 intro ρ w
 simp only [execOp]
 cases hc:ρ c<;>first | exact Or.inl ⟨_,_,rfl⟩ | exact Or.inr ⟨_,_,rfl⟩
theorem HI {c x y:Operand} (h:xH E M oc c x y=some out):aK P ⟨d,.pick c x y,ty,pos,aft,gd⟩ E M out:=by
 unfold xH at h
 split at h
 ·rename_i c0 b hc
  split at h
  ·rename_i v hv
   simp only [Option.some.injEq] at h;subst h
   refine kD sU fun C dE=>?_
   obtain ⟨rfl,-⟩:=dE
   cases c0 with
   | true=>exact ⟨_,C.ev hv,fun w Φ aH=>BK (C.bool hc) rfl aH⟩
   | false=>exact ⟨_,C.ev hv,fun w Φ aH=>BL (C.bool hc) rfl aH⟩
  ·simp at h
 ·rename_i hc _
  split at h
  ·rename_i v hv
   simp only [Option.some.injEq] at h;subst h
   exact kD sU fun C _=>⟨_,C.ev hv,fun w Φ aH=>BK (C.bool hc) rfl aH⟩
  ·simp at h
 ·rename_i hc _
  split at h
  ·rename_i v hv
   simp only [Option.some.injEq] at h;subst h
   exact kD sU fun C _=>⟨_,C.ev hv,fun w Φ aH=>BL (C.bool hc) rfl aH⟩
  ·simp at h
 ·simp at h
def yG:Option AV→Option Nat
 | some (.d (.ro _ rows))=>some rows.length
 | some (.d (.v (.slice _ n _)))=>some n
 | some (.sl _ n)=>some n
 | some (.sb _ _ _ n)=>some n
 | _=>none
theorem Ctx.len (C:Ctx D w0 K0 E M β F I ρ w) {x:Operand} {n:Nat} (h:yG (aJ E x)=some n):∃ a c,ρ x=.slice a n c:=by
 unfold yG at h
 split at h
 ·rename_i k rows hv
  simp only [Option.some.injEq] at h;subst h
  obtain ⟨y,hy,r⟩:=C.bW hv
  cases r with | d r=>cases r with | ro X hl jz hs hr=>obtain ⟨a,c,rfl,-⟩:=jz;exact ⟨a,c,hy⟩
 ·rename_i a n' c hv
  simp only [Option.some.injEq] at h;subst h
  obtain ⟨y,hy,r⟩:=C.bW hv
  cases r with | d r=>cases r;exact ⟨_,_,hy⟩
 ·rename_i u n' hv
  simp only [Option.some.injEq] at h;subst h
  obtain ⟨y,hy,r⟩:=C.bW hv
  cases r;exact ⟨_,_,hy⟩
 ·rename_i n' hv
  simp only [Option.some.injEq] at h;subst h
  obtain ⟨y,hy,r⟩:=C.bW hv
  cases r;exact ⟨_,_,hy⟩
 ·simp at h
def yH (T:aN) (E:List (Nat×AV)) (M:List aj) (oc:Option a7) (t:TypeId) (x:Operand):Option Out:=
 match dv T t with
 | some (.sl _)=>(match yG (aJ E x) with | some n=>some (l7 oc [] .i64 n M) | none=>none)
 | some .st=>(match kg (aJ E x) with | some l=>some (l7 oc [] .i64 l.length M) | none=>none)
 | _=>none
theorem Jl (hT:bc P T=true) {x:Operand} {t:TypeId} (h:yH T E M oc t x=some out):aK P ⟨d,.call ⟨.builtin .len,#[x],#[t]⟩,ty,pos,aft,gd⟩ E M out:=by
 unfold yH at h
 split at h
 ·rename_i e ht
  replace ht:=c8 hT ht
  split at h
  ·rename_i n hn
   simp only [Option.some.injEq] at h;subst h
   refine mT (.of fun _=>⟨_,rfl⟩) fun C _ w Φ aH=>?_
   obtain ⟨a,c,hx⟩:=C.len hn
   exact KO ht hx aH
  ·simp at h
 ·rename_i ht
  replace ht:=c8 hT ht
  split at h
  ·rename_i l hl
   simp only [Option.some.injEq] at h;subst h
   exact mT (.of fun _=>⟨_,rfl⟩) fun C _ w Φ aH=>HF ht (C.str hl) aH
  ·simp at h
 ·simp at h
def xI (E:List (Nat×AV)) (M:List aj) (oc:Option a7) (op:BinOp) (x y:Operand):Option Out:=
 match kg (aJ E x),kg (aJ E y) with
 | some a,some b=>(match op with | .eql=>some (l6 oc (a==b) M) | .neq=>some (l6 oc (a != b) M) | _=>none)
 | _,_=>none
theorem HJ {op:BinOp} {x y:Operand} {t t':TypeId} (h:xI E M oc op x y=some out):aK P ⟨d,.binOp op t x y t',ty,pos,aft,gd⟩ E M out:=by
 unfold xI at h
 split at h
 ·rename_i a b ha hb
  split at h<;>simp only [Option.some.injEq,reduceCtorEq] at h<;>subst h
  ·exact n3 (.of fun _=>⟨_,rfl⟩) fun C w Φ aH=>HD (C.str ha) (C.str hb) rfl aH
  ·exact n3 (.of fun _=>⟨_,rfl⟩) fun C w Φ aH=>HE (C.str ha) (C.str hb) rfl aH
 ·simp at h
def wW (T:aN) (E:List (Nat×AV)) (M:List aj) (oc:Option a7) (t t':TypeId) (x:Operand):Option Out:=
 match dv T t,dv T t',cU (aJ E x) with
 | some _,some (.it k),some (_,a)=>some (l7 oc [] k (k.wrap a) M)
 | _,_,_=>none
theorem GA (hT:bc P T=true) {x:Operand} {t t':TypeId} (h:wW T E M oc t t' x=some out):aK P ⟨d,.convert t t' x,ty,pos,aft,gd⟩ E M out:=by
 unfold wW at h
 split at h
 ·rename_i u k k' a hu hk ha
  replace hk:=c8 hT hk
  simp only [Option.some.injEq] at h;subst h
  exact mT (.of fun _=>⟨_,rfl⟩) fun C _ w Φ aH=>Gu (HC hT hu) hk (C.int ha) rfl aH
 ·simp at h
def Eg:Builtin→Int→Int→Option Int
 | .min,a,b=>some (min a b)
 | .max,a,b=>some (max a b)
 | _,_,_=>none
def zi (E:List (Nat×AV)) (M:List aj) (oc:Option a7) (bi:Builtin) (x y:Operand):Option Out:=
 match cU (aJ E x),cU (aJ E y) with
 | some (k,a),some (k',b)=>bif decide (k=k') then (match Eg bi a b with | some z=>some (l7 oc [] k z M) | none=>none) else none
 | _,_=>none
theorem KT {bi:Builtin} {x y:Operand} {t t':TypeId} (h:zi E M oc bi x y=some out):aK P ⟨d,.call ⟨.builtin bi,#[x,y],#[t,t']⟩,ty,pos,aft,gd⟩ E M out:=by
 unfold zi at h
 split at h
 ·rename_i k a k' b hx hy
  cases hk:decide (k=k') with
  | false=>simp [hk] at h
  | true=>
   simp only [hk,cond_true] at h
   obtain rfl:=of_decide_eq_true hk
   split at h
   ·rename_i z hz
    simp only [Option.some.injEq] at h;subst h
    cases bi<;>simp only [Eg,Option.some.injEq,reduceCtorEq] at hz
    ·exact mT (.of fun _=>⟨_,rfl⟩) fun C _ w Φ aH=>LZ (C.int hx) (C.int hy) hz aH
    ·exact mT (.of fun _=>⟨_,rfl⟩) fun C _ w Φ aH=>LY (C.int hx) (C.int hy) hz aH
   ·simp at h
 ·simp at h
end Go.Proofs.YtcnpikbbmbombaaGreatDoor
namespace Go.Proofs.YtcnpikbbmbombaaGreatDoor
open Go.RowKit
variable {P:Program} {T:aN} {D:List Nat} {w0:World} {K0:World→Prop} {E:List (Nat×AV)} {M:List aj} {β:Beta} {F:Nat→aq} {I:aq} {ρ:Operand→Value} {w:World}
variable {d:Option Tmp} {ty:TypeId} {pos:String} {aft:Array Edge} {gd:Option (Nat×Bool)} {oc:Option a7} {out:Out}
def lD (E:List (Nat×AV)):List Operand→Option (List AV)
 | []=>some []
 | x::r=>match aJ E x,lD E r with | some v,some l=>some (v::l) | _,_=>none
theorem Ctx.nI (C:Ctx D w0 K0 E M β F I ρ w):∀ {xs:List Operand} {l:List AV},lD E xs=some l→(xs.map ρ).length=l.length∧∀ (j:Nat) c y,l[j]?=some c→(xs.map ρ)[j]?=some y→az (fun w=>K0 w∧Holds w I) β c y
 | [],l,h=>by simp only [lD,Option.some.injEq] at h;subst h;simp
 | x::r,l,h=>by
  unfold lD at h
  split at h
  ·rename_i v l' hv hl
   simp only [Option.some.injEq] at h;subst h
   obtain ⟨h1,h2⟩:=Ctx.nI C hl
   refine ⟨by simpa using h1,?_⟩
   intro j c y hc hy
   cases j with
   | zero=>simp at hc hy;subst hc hy;exact C.ev hv
   | succ j=>simp at hc hy;exact h2 j c y hc (by simpa using hy)
  ·simp at h
def xJ (E:List (Nat×AV)) (M:List aj) (fn:Fn) (first cD:Array Operand):Option Out:=
 match fn,first with
 | .func f,⟨[]⟩=>(match lD E cD.toList with | some l=>some (lk [] (.fn f l) M) | none=>none)
 | _,_=>none
theorem HK {fn:Fn} {first cD:Array Operand} (h:xJ E M fn first cD=some out):aK P ⟨d,.makeFunc fn first cD,ty,pos,aft,gd⟩ E M out:=by
 unfold xJ at h
 split at h
 ·rename_i f
  split at h
  ·rename_i l hl
   simp only [Option.some.injEq] at h;subst h
   refine aK.same ?_
   intro D w0 K0 β F I ρ w C _
   obtain ⟨h1,h2⟩:=C.nI hl
   have hm:(cD.toList.map ρ).toArray=cD.map ρ:=by rw [← Array.toList_map]
   refine ⟨_,fun w' _=>?_,az.fn _ h1 h2⟩
   simp [execOp,Instr.makeFunc,hm]
  ·simp at h
 ·simp at h
structure bN (D:List Nat) (w0:World) (K0:World→Prop) (M:List aj) (β:Beta) (F:Nat→aq) (I X:aq) (w:World):Prop where
 len:β.length=M.length
 blk:∀ (u:Nat) blk,M[u]?=some blk→bB (fun w=>K0 w∧Holds w I) β u blk (F u)
 st:St D w0 w ((List.range M.length).flatMap F++(I++X))
theorem bN.nil {X:aq} (R:bN D w0 K0 M β F I X w) (h:X=[]):RM D w0 K0 M β F I w:=⟨R.len,R.blk,by have:=R.st;rw [h,List.append_nil] at this;exact this⟩
theorem RM.x (R:RM D w0 K0 M β F I w):bN D w0 K0 M β F I [] w:=⟨R.len,R.blk,by rw [List.append_nil];exact R.st⟩
theorem bN.perm {X Y:aq} (R:bN D w0 K0 M β F I X w) (p:X.Perm Y):bN D w0 K0 M β F I Y w:=⟨R.len,R.blk,R.st.perm (List.Perm.append_left _ (List.Perm.append_left _ p))⟩
theorem bN.drop {X Y:aq} (R:bN D w0 K0 M β F I (X++Y) w):bN D w0 K0 M β F I X w:=⟨R.len,R.blk,by have:=R.st;rw [← List.append_assoc,← List.append_assoc] at this;have:=this.vE;rw [List.append_assoc] at this;exact this⟩
theorem bN.take {X Y:aq} (R:bN D w0 K0 M β F I (X++Y) w) {q:Option Addr×Nat} {blk:aj} (hb:bB (fun w=>K0 w∧Holds w I) (β++[q]) M.length blk X):
  bN D w0 K0 (M++[blk]) (β++[q]) (aM F M.length X) I Y w where
 len:=by simp [R.len]
 blk:=by
  intro u bl hu
  rcases Nat.lt_or_ge u M.length with h | h
  ·rw [List.getElem?_append_left h] at hu
   have:aM F M.length X u=F u:=by simp [aM];omega
   rw [this];exact (R.blk u bl hu).mono (fun _ h=>h) (Ext.app _ _)
  ·rw [List.getElem?_append_right h] at hu
   have h0:u-M.length=0:=by
    rcases Nat.eq_zero_or_pos (u-M.length) with h0 | h0
    ·exact h0
    ·rw [List.getElem?_eq_none (by simp;omega)] at hu;simp at hu
   obtain rfl:u=M.length:=by omega
   simp at hu;subst hu
   simpa [aM] using hb
 st:=by
  rw [List.length_append,List.length_singleton,AN]
  exact R.st.perm (by classical rw [List.perm_iff_count];intro x;simp only [List.count_append];omega)
inductive gn (K:World→Prop):List DV→List Value→aq→Prop where
 | nil:gn K [] [] []
 | cons {c:DV} {y:Value} {l:List DV} {ys:List Value} {H G:aq} (h:bV K c y H) (r:gn K l ys G):gn K (c::l) (y::ys) (H++G)
theorem sI {n:Nat} (F:Nat→aq):(List.range (n+1)).flatMap F=F 0++(List.range n).flatMap fun i=>F (i+1):=by
 rw [List.range_succ_eq_map,List.flatMap_cons,List.flatMap_map]
theorem gn.of {K:World→Prop}:∀ {l:List DV} {ys:List Value} {F:Nat→aq},ys.length=l.length→(∀ (j:Nat) c y,l[j]?=some c→ys[j]?=some y→bV K c y (F j))→gn K l ys ((List.range l.length).flatMap F)
 | [],ys,F,hl,_=>by have:ys=[]:=List.eq_nil_of_length_eq_zero hl;subst this;exact .nil
 | c::l,[],F,hl,_=>by simp at hl
 | c::l,y::ys,F,hl,hr=>by
  rw [List.length_cons,sI]
  exact .cons (hr 0 c y rfl rfl) (gn.of (by simpa using hl) fun j c' y' h1 h2=>hr (j+1) c' y' (by simpa using h1) (by simpa using h2))
theorem gn.len {K:World→Prop} {l:List DV} {ys:List Value} {H:aq} (h:gn K l ys H):ys.length=l.length:=by
 induction h with
 | nil=>rfl
 | cons h r ih=>simp [ih]
def ow (M:List aj):DV→AV×List aj
 | .em T k rows=>(.sl M.length rows.length,M++[.rw T k rows])
 | x=>(.d x,M)
def jM (M:List aj):List DV→List AV×List aj
 | []=>([],M)
 | c::r=>((ow M c).1::(jM (ow M c).2 r).1,(jM (ow M c).2 r).2)
def nh:DV→Bool
 | .pb _ _=>false
 | .ag _=>false
 | .tu _=>false
 | _=>true
def ox (M:List aj):DV→AV×List aj
 | .ag l=>bif l.all nh then (.ag (jM M l).1,(jM M l).2) else (.d .jk,M)
 | x=>ow M x
def jG (M:List aj):List DV→List AV×List aj
 | []=>([],M)
 | c::r=>((ox M c).1::(jG (ox M c).2 r).1,(jG (ox M c).2 r).2)
def nJ (M:List aj):DV→AV×List aj
 | .tu l=>(.tu (jG M l).1,(jG M l).2)
 | x=>ox M x
def wX (D:List Nat) (w0:World) (K0:World→Prop) (M:List aj) (β:Beta) (F:Nat→aq) (I:aq) (w:World) (av:AV) (M':List aj) (y:Value) (Y:aq):Prop:=
 ∃ aE F',bN D w0 K0 M' aE F' I Y w∧Ext β aE∧(∀ u,u<M.length→F' u=F u)∧M.length≤M'.length∧az (fun w=>K0 w∧Holds w I) aE av y
theorem qY {x:DV} (hx:nh x=true) {y:Value} {H Y:aq} (R:bN D w0 K0 M β F I (H++Y) w) (h:bV (fun w=>K0 w∧Holds w I) x y H):wX D w0 K0 M β F I w (ow M x).1 (ow M x).2 y Y:=by
 cases h with
 | v x=>exact ⟨β,F,R,Ext.refl _,fun _ _=>rfl,Nat.le_refl _,.d (.v _)⟩
 | jk x=>exact ⟨β,F,R,Ext.refl _,fun _ _=>rfl,Nat.le_refl _,.d (.jk _)⟩
 | ro X hl hy hs hr=>exact ⟨β,F,R,Ext.refl _,fun _ _=>rfl,Nat.le_refl _,.d (.ro X hl hy hs hr)⟩
 | pb ys F hl hr=>simp [nh] at hx
 | ag ys F hl hr=>simp [nh] at hx
 | tu ys F hl hr=>simp [nh] at hx
 | em X G hl hs hr=>
  obtain ⟨a,c,rfl⟩:=hs.len
  have gP:(β++[(a,c)])[M.length]?=some (a,c):=by rw [← R.len];simp
  refine ⟨_,_,R.take (.rw gP X G hl hs hr),Ext.app _ _,fun u hu=>by simp [aM];omega,by simp [ow],.sl gP⟩
theorem Jm:∀ {l:List DV} {M:List aj} {β:Beta} {F:Nat→aq} {ys:List Value} {H Y:aq},l.all nh=true→bN D w0 K0 M β F I (H++Y) w→gn (fun w=>K0 w∧Holds w I) l ys H→
  ∃ aE F',bN D w0 K0 (jM M l).2 aE F' I Y w∧Ext β aE∧(∀ u,u<M.length→F' u=F u)∧M.length≤(jM M l).2.length∧ys.length=(jM M l).1.length∧∀ (j:Nat) c y,(jM M l).1[j]?=some c→ys[j]?=some y→az (fun w=>K0 w∧Holds w I) aE c y:=by
 intro l
 induction l with
 | nil=>
  intro M β F ys H Y _ R h
  cases h
  exact ⟨β,F,R,Ext.refl _,fun _ _=>rfl,Nat.le_refl _,rfl,by simp [jM]⟩
 | cons x r ih=>
  intro M β F ys H Y hf R h
  simp only [List.all_cons,Bool.and_eq_true] at hf
  cases h with
  | cons h hr=>
   rw [List.append_assoc] at R
   obtain ⟨qE,F1,R1,e1,f1,l1,a1⟩:=qY hf.1 R h
   obtain ⟨jE,F2,R2,e2,f2,l2,n2,a2⟩:=ih hf.2 R1 hr
   refine ⟨jE,F2,R2,fun u x hx=>e2 u x (e1 u x hx),fun u hu=>(f2 u (by omega)).trans (f1 u hu),by simp only [jM];omega,by simp [jM,n2],?_⟩
   intro j c y hc hy
   cases j with
   | zero=>simp [jM] at hc hy;subst hc hy;exact a1.mono (fun _ h=>h) e2
   | succ j=>simp [jM] at hc hy;exact a2 j c y hc hy
def ni:DV→Bool
 | .pb _ _=>false
 | .ag l=>l.all nh
 | .tu _=>false
 | _=>true
theorem pn {x:DV} (hx:ni x=true) {y:Value} {H Y:aq} (R:bN D w0 K0 M β F I (H++Y) w) (h:bV (fun w=>K0 w∧Holds w I) x y H):wX D w0 K0 M β F I w (ox M x).1 (ox M x).2 y Y:=by
 cases x with
 | ag l=>
  cases h with
  | ag ys G hl hr=>
   have nG:l.all nh=true:=hx
   obtain ⟨jE,F2,R2,e2,f2,l2,n2,a2⟩:=Jm nG R (gn.of hl hr)
   simp only [ox,nG,cond_true]
   exact ⟨jE,F2,R2,e2,f2,l2,.ag ys n2 a2⟩
 | tu l=>simp [ni] at hx
 | v x=>exact qY rfl R h
 | jk=>exact qY rfl R h
 | ro k rows=>exact qY rfl R h
 | em T k rows=>exact qY rfl R h
 | pb T l=>simp [ni] at hx
theorem HL:∀ {l:List DV} {M:List aj} {β:Beta} {F:Nat→aq} {ys:List Value} {H Y:aq},l.all ni=true→bN D w0 K0 M β F I (H++Y) w→gn (fun w=>K0 w∧Holds w I) l ys H→
  ∃ aE F',bN D w0 K0 (jG M l).2 aE F' I Y w∧Ext β aE∧(∀ u,u<M.length→F' u=F u)∧M.length≤(jG M l).2.length∧ys.length=(jG M l).1.length∧∀ (j:Nat) c y,(jG M l).1[j]?=some c→ys[j]?=some y→az (fun w=>K0 w∧Holds w I) aE c y:=by
 intro l
 induction l with
 | nil=>
  intro M β F ys H Y _ R h
  cases h
  exact ⟨β,F,R,Ext.refl _,fun _ _=>rfl,Nat.le_refl _,rfl,by simp [jG]⟩
 | cons x r ih=>
  intro M β F ys H Y hf R h
  simp only [List.all_cons,Bool.and_eq_true] at hf
  cases h with
  | cons h hr=>
   rw [List.append_assoc] at R
   obtain ⟨qE,F1,R1,e1,f1,l1,a1⟩:=pn hf.1 R h
   obtain ⟨jE,F2,R2,e2,f2,l2,n2,a2⟩:=ih hf.2 R1 hr
   refine ⟨jE,F2,R2,fun u x hx=>e2 u x (e1 u x hx),fun u hu=>(f2 u (by omega)).trans (f1 u hu),by simp only [jG];omega,by simp [jG,n2],?_⟩
   intro j c y hc hy
   cases j with
   | zero=>simp [jG] at hc hy;subst hc hy;exact a1.mono (fun _ h=>h) e2
   | succ j=>simp [jG] at hc hy;exact a2 j c y hc hy
def l8:DV→Bool
 | .tu l=>l.all ni
 | x=>ni x
theorem wY {x:DV} (hx:l8 x=true) {y:Value} {H Y:aq} (R:bN D w0 K0 M β F I (H++Y) w) (h:bV (fun w=>K0 w∧Holds w I) x y H):wX D w0 K0 M β F I w (nJ M x).1 (nJ M x).2 y Y:=by
 cases x with
 | tu l=>
  cases h with
  | tu ys G hl hr=>
   have nG:l.all ni=true:=hx
   obtain ⟨jE,F2,R2,e2,f2,l2,n2,a2⟩:=HL nG R (gn.of hl hr)
   exact ⟨jE,F2,R2,e2,f2,l2,.tu ys n2 a2⟩
 | ag l=>exact pn (x:=.ag l) hx R h
 | v x=>exact pn rfl R h
 | jk=>exact pn rfl R h
 | ro k rows=>exact pn rfl R h
 | em T k rows=>exact pn rfl R h
 | pb T l=>simp [l8,ni] at hx
end Go.Proofs.YtcnpikbbmbombaaGreatDoor
namespace Go.Proofs.YtcnpikbbmbombaaGreatDoor
open Go.RowKit
def ay (P:Program) (f:FuncId) (args:List AV) (x:DV):Prop:=
 iT P f=true∧∀ (w:World) (K:World→Prop) (ys:List Value),(∀ w',Gr w w'→K w')→ys.length=args.length→(∀ (j:Nat) c y,args[j]?=some c→ys[j]?=some y→az K [] c y)→
  Calls P f ys.toArray w (Dz w fun r H=>∃ Ho Hi,H=Ho++Hi∧bV (fun w=>K w∧Holds w Hi) x r Ho)
def fe (x:DV):Prop:=∀ (K K':World→Prop) (y:Value) (H:aq),bV K x y H→bV K' x y H
mutual
def fa:DV→DV
 | .v x=>.v x
 | .jk=>.jk
 | .ro k rows=>.ro k rows
 | .em _ k rows=>.ro k (b5 rows)
 | .ag l=>.ag (pQ l)
 | .tu l=>.tu (pQ l)
 | .pb _ _=>.jk
def pQ:List DV→List DV
 | []=>[]
 | c::r=>fa c::pQ r
def b5:List (List DV)→List (List DV)
 | []=>[]
 | l::r=>pQ l::b5 r
end
theorem vo (l:List DV):pQ l=l.map fa:=by induction l with | nil=>rfl | cons c r ih=>rw [pQ,ih];rfl
theorem kx (l:List (List DV)):b5 l=l.map fun r=>r.map fa:=by induction l with | nil=>rfl | cons c r ih=>rw [b5,ih,vo];rfl
theorem eQ.src {T size n:Nat} {v:Value} {xs:List Value} {H:aq} (h:eQ T size v n xs H) {w:World} (hw:Holds w H):Src w size v n xs:=by
 refine ⟨h.1,?_⟩
 rcases h.2 with ⟨rfl,rfl,a,rfl⟩ | ⟨b,cap,cs,rfl,rfl,cS,hle,ht⟩
 ·exact Or.inl ⟨rfl,a,0,rfl⟩
 ·refine Or.inr ⟨_,cap,rfl,fun j hj=>?_⟩
  rw [add_eq,Nat.zero_add,cell_of hw.one]
  have:(cs.toList.take (n*size))[j]?=some xs[j]:=by rw [ht];simp [hj]
  rw [List.getElem?_take] at this
  split at this
  ·simpa using this
  ·simp at this
theorem eQ.KU {T:TypeId} {size:Nat} {v:Value} {n:Nat} {xs:List Value} {H:aq} (h:eQ T size v n xs H):∃ a c,v=.slice a n c∧n≤c:=by
 rcases h.2 with ⟨rfl,_,a,rfl⟩ | ⟨b,cap,cs,rfl,_,_,hc,_⟩
 ·exact ⟨a,0,rfl,Nat.le_refl _⟩
 ·exact ⟨_,_,rfl,hc⟩
theorem tf {K K':World→Prop} {c:DV} {x:Value} {H:aq} (h:bV K c x H):(∀ w,K' w→K w∧Holds w H)→bV K' (fa c) x []:=by
 have ud:∀ {n:Nat} {G:Nat→aq} {w:World},Holds w ((List.range n).flatMap G)→∀ j,j<n→Holds w (G j):=by
  intro n G w hw j hj x hx
  exact hw x (List.mem_flatMap.2 ⟨j,List.mem_range.2 hj,hx⟩)
 have tO:∀ n:Nat,(List.range n).flatMap (fun _=>([]:aq))=[]:=by intro n;simp
 induction h with
 | v x=>intro _;rw [fa];exact .v x
 | jk x=>intro _;rw [fa];exact .jk x
 | pb ys F hl hr ih=>intro _;rw [fa];exact .jk _
 | ro X hl hy hs hr ih=>intro hk;rw [fa];exact .ro X hl hy (fun w hw=>hs w (hk w hw).1) fun i r j c x h1 h2 h3=>(hr i r j c x h1 h2 h3).mono fun w hw=>(hk w hw).1
 | em X F hl hs hr ih=>
  intro hk
  rename_i T k rows y H0
  rw [fa,kx]
  obtain ⟨a,cp,hy,r3⟩:∃ a cp,y=.slice a rows.length cp∧rows.length≤cp:=hs.KU
  refine .ro X (fun i r hi=>?_) ⟨a,cp,by rw [List.length_map];exact ⟨hy,r3⟩⟩ (fun w hw=>?_) fun i r j c x h1 h2 h3=>?_
  ·rw [List.getElem?_map,Option.map_eq_some_iff] at hi
   obtain ⟨r',h1,rfl⟩:=hi
   rw [List.length_map];exact hl i r' h1
  ·rw [List.length_map];exact hs.src (Holds.app.1 (hk w hw).2).1
  ·rw [List.getElem?_map,Option.map_eq_some_iff] at h1
   obtain ⟨r',h1,rfl⟩:=h1
   rw [List.getElem?_map,Option.map_eq_some_iff] at h2
   obtain ⟨c',h2,rfl⟩:=h2
   refine ih i r' j c' x h1 h2 h3 fun w hw=>⟨(hk w hw).1,?_⟩
   have:=(Holds.app.1 (hk w hw).2).2
   obtain ⟨hi,-⟩:=List.getElem?_eq_some_iff.1 h1
   obtain ⟨hj,-⟩:=List.getElem?_eq_some_iff.1 h2
   have h4:=ud this i hi
   exact ud h4 j (by have:=(hl i r' h1).1;omega)
 | ag ys F hl hr ih=>
  intro hk
  rename_i l
  rw [fa,vo]
  have:=bV.ag (K:=K') (l:=l.map fa) ys (fun _=>[]) (by rw [List.length_map];exact hl) (fun j c y h1 h2=>by
   rw [List.getElem?_map,Option.map_eq_some_iff] at h1
   obtain ⟨c',h1,rfl⟩:=h1
   obtain ⟨hj,-⟩:=List.getElem?_eq_some_iff.1 h1
   exact ih j c' y h1 h2 fun w hw=>⟨(hk w hw).1,ud (hk w hw).2 j hj⟩)
  rwa [tO] at this
 | tu ys F hl hr ih=>
  intro hk
  rename_i l
  rw [fa,vo]
  have:=bV.tu (K:=K') (l:=l.map fa) ys (fun _=>[]) (by rw [List.length_map];exact hl) (fun j c y h1 h2=>by
   rw [List.getElem?_map,Option.map_eq_some_iff] at h1
   obtain ⟨c',h1,rfl⟩:=h1
   obtain ⟨hj,-⟩:=List.getElem?_eq_some_iff.1 h1
   exact ih j c' y h1 h2 fun w hw=>⟨(hk w hw).1,ud (hk w hw).2 j hj⟩)
  rwa [tO] at this
variable {P:Program} {T:aN} {D:List Nat} {w0:World} {K0:World→Prop} {E:List (Nat×AV)} {M:List aj} {β:Beta} {F:Nat→aq} {I:aq} {ρ:Operand→Value} {w:World}
variable {d:Option Tmp} {ty:TypeId} {pos:String} {aft:Array Edge} {gd:Option (Nat×Bool)} {oc:Option a7} {out:Out}
def tP (M:List aj):AV→AV→Option (List Prop×List Nat)
 | .d x,.d x'=>some ([x=x'],[])
 | .sl u n,.d (.ro k' rows')=>(match M[u]? with | some (.rw _ k rows)=>some ([k=k',n=rows.length,b5 rows=rows'],[u]) | _=>none)
 | .pt u o,.rp row o'=>(match M[u]? with | some (.bx _ cells)=>some ([o=o',cells=row.map .d],[u]) | _=>none)
 | _,_=>none
def nj (M:List aj):List AV→List AV→Option (List Prop×List Nat)
 | [],[]=>some ([],[])
 | c::r,c'::r'=>(match tP M c c',nj M r r' with | some (v,b),some (v',b')=>some (v++v',b++b') | _,_=>none)
 | _,_=>none
def xK (M:List aj):AV→AV→Option (List Prop×List Nat)
 | .ag l,.ag l'=>nj M l l'
 | .ag l,.d (.ag l')=>nj M l (l'.map .d)
 | .fn f l,.fn f' l'=>(match nj M l l' with | some (v,b)=>some ((f=f')::v,b) | none=>none)
 | c,c'=>tP M c c'
def ob (M:List aj):List AV→List AV→Option (List Prop×List Nat)
 | [],[]=>some ([],[])
 | c::r,c'::r'=>(match xK M c c',ob M r r' with | some (v,b),some (v',b')=>some (v++v',b++b') | _,_=>none)
 | _,_=>none
theorem bn.app {a b:List Prop}:bn (a++b)↔bn a∧bn b:=by
 induction a with
 | nil=>simp [bn]
 | cons p r ih=>simp only [List.cons_append,bn,ih,and_assoc]
theorem A9 (R:RM D w0 K0 M β F I w) {K':World→Prop} {c c':AV} {vc:List Prop} {b:List Nat} (h:tP M c c'=some (vc,b)) (hv:bn vc) (hK:∀ w,K' w→jr K0 I F b w) {y:Value} (r:az (fun w=>K0 w∧Holds w I) β c y):az K' [] c' y:=by
 unfold tP at h
 split at h
 ·simp only [Option.some.injEq,Prod.mk.injEq] at h;obtain ⟨rfl,rfl⟩:=h
  obtain ⟨rfl,-⟩:=hv
  cases r with | d r=>exact .d (r.mono fun w hw=>(hK w hw).1)
 ·rename_i u n k' rows'
  split at h
  ·rename_i Tt k rows hM
   simp only [Option.some.injEq,Prod.mk.injEq] at h;obtain ⟨rfl,rfl⟩:=h
   obtain ⟨rfl,rfl,rfl,-⟩:=hv
   cases r with
   | sl hb=>
    obtain ⟨H,hF,hB,-⟩:=R.at hM
    cases hB with
    | rw aQ X G hl hs hr=>
     rw [hb] at aQ;cases aQ
     have:=tf (K':=K') (bV.em X G hl hs hr) fun w hw=>⟨(hK w hw).1,by have:=(hK w hw).2 u (by simp);rw [hF] at this;exact this⟩
     rw [fa] at this
     exact .d this
  ·simp at h
 ·rename_i u o row o'
  split at h
  ·rename_i Tt cells hM
   simp only [Option.some.injEq,Prod.mk.injEq] at h;obtain ⟨rfl,rfl⟩:=h
   obtain ⟨rfl,rfl,-⟩:=hv
   cases r with
   | pt hb=>
    obtain ⟨H,hF,hB,-⟩:=R.at hM
    cases hB with
    | bx aQ ys hl hr=>
     rw [hb] at aQ;cases aQ
     have ha:∀ (b:Nat),(⟨b,o,none⟩:Addr)=(⟨b,0,none⟩:Addr).add o:=fun b=>by rw [add_eq,Nat.zero_add]
     rw [ha]
     refine .rp _ ys (by rw [hl,List.length_map]) (fun w' eT j x hj=>?_) fun j c x h1 h2=>?_
     ·have:=(hK w' eT).2 u (by simp)
      rw [hF] at this
      rw [add_eq,Nat.zero_add,cell_of this.one];simpa using hj
     ·have:=hr j (.d c) x (by rw [List.getElem?_map,h1];rfl) h2
      cases this with | d h=>exact h.mono fun w hw=>(hK w hw).1
  ·simp at h
 ·simp at h
theorem sV (R:RM D w0 K0 M β F I w) {K':World→Prop}:∀ {l l':List AV} {vc:List Prop} {b:List Nat},nj M l l'=some (vc,b)→bn vc→(∀ w,K' w→jr K0 I F b w)→∀ {ys:List Value},ys.length=l.length→(∀ (j:Nat) c y,l[j]?=some c→ys[j]?=some y→az (fun w=>K0 w∧Holds w I) β c y)→
  ys.length=l'.length∧∀ (j:Nat) c y,l'[j]?=some c→ys[j]?=some y→az K' [] c y
 | [],[],vc,b,h,_,_,ys,hl,_=>by simp at hl;subst hl;simp
 | [],_::_,_,_,h,_,_,_,_,_=>by simp [nj] at h
 | _::_,[],_,_,h,_,_,_,_,_=>by simp [nj] at h
 | c::r,c'::r',vc,b,h,hv,hK,ys,hl,hr=>by
  unfold nj at h
  split at h
  ·rename_i v b1 v' b' h1 h2
   simp only [Option.some.injEq,Prod.mk.injEq] at h;obtain ⟨rfl,rfl⟩:=h
   rw [bn.app] at hv
   cases ys with
   | nil=>simp at hl
   | cons y ys=>
    obtain ⟨e1,e2⟩:=sV R h2 hv.2 (fun w hw=>⟨(hK w hw).1,fun u hu=>(hK w hw).2 u (List.mem_append_right _ hu)⟩) (ys:=ys) (by simpa using hl) (fun j c y h3 h4=>hr (j+1) c y (by simpa using h3) (by simpa using h4))
    refine ⟨by simp [e1],?_⟩
    intro j a z h3 h4
    cases j with
    | zero=>simp at h3 h4;subst h3 h4;exact A9 R h1 hv.1 (fun w hw=>⟨(hK w hw).1,fun u hu=>(hK w hw).2 u (List.mem_append_left _ hu)⟩) (hr 0 _ _ rfl rfl)
    | succ j=>simp at h3 h4;exact e2 j a z h3 h4
  ·simp at h
theorem HM (R:RM D w0 K0 M β F I w) {K':World→Prop} {c c':AV} {vc:List Prop} {b:List Nat} (h:xK M c c'=some (vc,b)) (hv:bn vc) (hK:∀ w,K' w→jr K0 I F b w) {y:Value} (r:az (fun w=>K0 w∧Holds w I) β c y):az K' [] c' y:=by
 unfold xK at h
 split at h
 ·cases r with
  | ag ys hl hr=>
   obtain ⟨e1,e2⟩:=sV R h hv hK hl hr
   exact .ag ys e1 e2
 ·rename_i l l'
  cases r with
  | ag ys hl hr=>
   obtain ⟨e1,e2⟩:=sV R h hv hK hl hr
   have:=bV.ag (K:=K') (l:=l') ys (fun _=>[]) (by rw [e1,List.length_map]) (fun j c y h1 h2=>by
    have:=e2 j (.d c) y (by rw [List.getElem?_map,h1];rfl) h2
    cases this with | d h=>exact h)
   have tO:∀ n:Nat,(List.range n).flatMap (fun _=>([]:aq))=[]:=by intro n;simp
   rw [tO] at this
   exact .d this
 ·rename_i f l f' l'
  split at h
  ·rename_i v b1 h1
   simp only [Option.some.injEq,Prod.mk.injEq] at h;obtain ⟨rfl,rfl⟩:=h
   obtain ⟨rfl,hv⟩:=hv
   cases r with
   | fn ys hl hr=>
    obtain ⟨e1,e2⟩:=sV R h1 hv hK hl hr
    exact .fn ys e1 e2
  ·simp at h
 ·exact A9 R h hv hK r
theorem vp (R:RM D w0 K0 M β F I w) {K':World→Prop}:∀ {l l':List AV} {vc:List Prop} {b:List Nat},ob M l l'=some (vc,b)→bn vc→(∀ w,K' w→jr K0 I F b w)→∀ {ys:List Value},ys.length=l.length→(∀ (j:Nat) c y,l[j]?=some c→ys[j]?=some y→az (fun w=>K0 w∧Holds w I) β c y)→
  ys.length=l'.length∧∀ (j:Nat) c y,l'[j]?=some c→ys[j]?=some y→az K' [] c y
 | [],[],vc,b,h,_,_,ys,hl,_=>by simp at hl;subst hl;simp
 | [],_::_,_,_,h,_,_,_,_,_=>by simp [ob] at h
 | _::_,[],_,_,h,_,_,_,_,_=>by simp [ob] at h
 | c::r,c'::r',vc,b,h,hv,hK,ys,hl,hr=>by
  unfold ob at h
  split at h
  ·rename_i v b1 v' b' h1 h2
   simp only [Option.some.injEq,Prod.mk.injEq] at h;obtain ⟨rfl,rfl⟩:=h
   rw [bn.app] at hv
   cases ys with
   | nil=>simp at hl
   | cons y ys=>
    obtain ⟨e1,e2⟩:=vp R h2 hv.2 (fun w hw=>⟨(hK w hw).1,fun u hu=>(hK w hw).2 u (List.mem_append_right _ hu)⟩) (ys:=ys) (by simpa using hl) (fun j c y h3 h4=>hr (j+1) c y (by simpa using h3) (by simpa using h4))
    refine ⟨by simp [e1],?_⟩
    intro j a z h3 h4
    cases j with
    | zero=>simp at h3 h4;subst h3 h4;exact HM R h1 hv.1 (fun w hw=>⟨(hK w hw).1,fun u hu=>(hK w hw).2 u (List.mem_append_left _ hu)⟩) (hr 0 _ _ rfl rfl)
    | succ j=>simp at h3 h4;exact e2 j a z h3 h4
  ·simp at h
def om (M:List aj):List Nat→Bool
 | []=>true
 | u::r=>(Nat.ble (u+1) M.length)&&om M r
theorem vK:∀ {b:List Nat},om M b=true→∀ u ∈ b,u<M.length
 | [],_,u,hu=>by simp at hu
 | v::r,h,u,hu=>by
  simp only [om,Bool.and_eq_true] at h
  rcases List.mem_cons.1 hu with e | e
  ·subst e;exact Nat.le_of_ble_eq_true h.1
  ·exact vK h.2 u e
def Nv (x:DV):List Nat→List Prop
 | []=>[]
 | _::_=>[fe x]
def xL (P:Program) (E:List (Nat×AV)) (M:List aj) (oc:Option a7) (g:Operand) (args:Array Operand):Option Out:=
 match aJ E g,lD E args.toList,oc with
 | some (.fn f cD),some l,some (.call told x)=>(match ob M (l++cD) told with
  | some (vc,b)=>bif l8 x&&om M b then some ⟨ay P f told x::(Nv x b++vc),(nJ M x).1,(nJ M x).2,[],[],none⟩ else none
  | none=>none)
 | _,_,_=>none
theorem ay.now {f:FuncId} {args:List AV} {x:DV} (h:ay P f args x) (R:RM D w0 K0 M β F I w) (hk:∀ w,Kp D w0 w→K0 w) {b:List Nat} (hb:∀ u ∈ b,u<M.length) {ys:List Value} (hl:ys.length=args.length)
  (hr:∀ (j:Nat) c y,args[j]?=some c→ys[j]?=some y→az (jr K0 I F b) [] c y) (hi:b≠[]→fe x):
  Calls P f ys.toArray w fun e w'=>∃ v,e=.returned v∧∃ I' X,bN D w0 K0 M β F I' X w'∧bU I I'∧bV (fun w=>K0 w∧Holds w I') x v X:=by
 have Nw:∀ w',Gr w w'→jr K0 I F b w':=fun w' g=>⟨⟨hk _ (R.st.kp.gr g),(Holds.app.1 (R.st.gr g).holds).2⟩,fun u hu=>(RM.jl ⟨R.len,R.blk,R.st.gr g⟩ (List.getElem?_eq_getElem (hb u hu)))⟩
 refine (h.2 w (jr K0 I F b) ys Nw hl hr).mono ?_
 rintro e w' ⟨v,rfl,g,H,⟨Ho,Hi,rfl,hd⟩,n⟩
 have bC:=R.st.new g n
 refine ⟨v,rfl,Hi++I,Ho,⟨R.len,fun u bl hu=>(R.blk u bl hu).mono (fun w hw=>⟨hw.1,(Holds.app.1 hw.2).2⟩) (Ext.refl _),?_⟩,⟨Hi,rfl⟩,?_⟩
 ·exact bC.perm (by classical rw [List.perm_iff_count];intro z;simp only [List.count_append];omega)
 ·by_cases uO:b=[]
  ·subst uO
   exact hd.mono fun w hw=>⟨⟨⟨hw.1,(Holds.app.1 hw.2).2⟩,by simp⟩,(Holds.app.1 hw.2).1⟩
  ·exact hi uO _ _ _ _ hd
theorem HN {g:Operand} {args:Array Operand} {fG:Array TypeId} (h:xL P E M oc g args=some out):aK P ⟨d,.call ⟨.value g,args,fG⟩,ty,pos,aft,gd⟩ E M out:=by
 unfold xL at h
 split at h
 ·rename_i f cD l told x hg hl
  split at h
  ·rename_i vc b xM
   cases eX:(l8 x&&om M b) with
   | false=>simp [eX] at h
   | true=>
    simp only [eX,cond_true,Option.some.injEq] at h;subst h
    simp only [Bool.and_eq_true] at eX
    have hb:=vK eX.2
    intro D w0 K0 β F I ρ w C hv
    obtain ⟨ic,hv⟩:=hv
    rw [bn.app] at hv
    obtain ⟨Nx,hv⟩:=hv
    obtain ⟨y,hy,r⟩:=C.bW hg
    cases r with
    | fn cs cX ir=>
     obtain ⟨eC,kR⟩:=C.nI hl
     have iD:(args.toList.map ρ++cs).length=(l++cD).length:=by rw [List.length_append,List.length_append,eC,cX]
     have oy:∀ (j:Nat) c y,(l++cD)[j]?=some c→(args.toList.map ρ++cs)[j]?=some y→az (fun w=>K0 w∧Holds w I) β c y:=by
      intro j c y h1 h2
      rcases Nat.lt_or_ge j l.length with hj | hj
      ·rw [List.getElem?_append_left hj] at h1
       rw [List.getElem?_append_left (by omega)] at h2
       exact kR j c y h1 h2
      ·rw [List.getElem?_append_right hj] at h1
       rw [List.getElem?_append_right (by omega),eC] at h2
       exact ir _ c y h1 h2
     obtain ⟨e1,e2⟩:=vp C.rm (K':=jr K0 I F b) xM hv (fun _ h=>h) iD oy
     have hm:args.map ρ=(args.toList.map ρ).toArray:=by rw [← Array.toList_map]
     refine qH hy ic.1 hm ?_
     have ma:((args.toList.map ρ).toArray++cs.toArray:Array Value)=(args.toList.map ρ++cs).toArray:=by simp
     rw [ma]
     refine (ic.now C.rm C.k hb e1 e2 (fun hn=>by cases b with | nil=>exact absurd rfl hn | cons u r=>exact Nx.1)).mono ?_
     rintro e w' ⟨v,rfl,I',X,R,hI,hd⟩
     refine ⟨v,rfl,?_⟩
     have R':bN D w0 K0 M β F I' (X++[]) w':=by rw [List.append_nil];exact R
     obtain ⟨aE,F',R2,e,f2,-,a2⟩:=wY eX.1 R' hd
     exact ⟨aE,F',I',R2.nil rfl,e.b _,hI,fun u hu _=>f2 u hu,a2⟩
  ·simp at h
 ·simp at h
def qi:AV→Bool
 | .d _=>true
 | .rp _ _=>true
 | _=>false
def r6:AV→Bool
 | .ag l=>l.all qi
 | .fn _ l=>l.all qi
 | c=>qi c
theorem Co {K:World→Prop} {c:AV} (h:qi c=true) {y:Value} (r:az K β c y):az K [] c y:=by
 cases r with
 | d r=>exact .d r
 | rp a X hl hc hr=>exact .rp a X hl hc hr
 | _=>simp [qi] at h
theorem KV {K:World→Prop} {c:AV} (h:r6 c=true) {y:Value} (r:az K β c y):az K [] c y:=by
 cases r with
 | d r=>exact .d r
 | rp a X hl hc hr=>exact .rp a X hl hc hr
 | ag ys hl hr=>exact .ag ys hl fun j c y h1 h2=>Co (List.all_eq_true.1 h c (List.mem_of_getElem? h1)) (hr j c y h1 h2)
 | fn ys hl hr=>exact .fn ys hl fun j c y h1 h2=>Co (List.all_eq_true.1 h c (List.mem_of_getElem? h1)) (hr j c y h1 h2)
 | _=>simp [r6,qi] at h
def p3 (P:Program) (E:List (Nat×AV)) (M:List aj) (oc:Option a7) (g:Operand) (args:Array Operand):Option Out:=
 match aJ E g,lD E args.toList,oc with
 | some (.fn f cD),some l,some (.aG x)=>bif l8 x&&(l++cD).all r6 then some ⟨[ay P f (l++cD) x],(nJ M x).1,(nJ M x).2,[],[],none⟩ else none
 | _,_,_=>none
theorem BM {g:Operand} {args:Array Operand} {fG:Array TypeId} (h:p3 P E M oc g args=some out):aK P ⟨d,.call ⟨.value g,args,fG⟩,ty,pos,aft,gd⟩ E M out:=by
 unfold p3 at h
 split at h
 ·rename_i f cD l x hg hl
  cases eX:(l8 x&&(l++cD).all r6) with
  | false=>simp only [eX,cond_false,reduceCtorEq] at h
  | true=>
   simp only [eX,cond_true,Option.some.injEq] at h;subst h
   simp only [Bool.and_eq_true] at eX
   intro D w0 K0 β F I ρ w C hv
   obtain ⟨ic,-⟩:=hv
   obtain ⟨y,hy,r⟩:=C.bW hg
   cases r with
   | fn cs cX ir=>
    obtain ⟨eC,kR⟩:=C.nI hl
    have iD:(args.toList.map ρ++cs).length=(l++cD).length:=by rw [List.length_append,List.length_append,eC,cX]
    have oy:∀ (j:Nat) c y,(l++cD)[j]?=some c→(args.toList.map ρ++cs)[j]?=some y→az (fun w=>K0 w∧Holds w I) β c y:=by
     intro j c y h1 h2
     rcases Nat.lt_or_ge j l.length with hj | hj
     ·rw [List.getElem?_append_left hj] at h1
      rw [List.getElem?_append_left (by omega)] at h2
      exact kR j c y h1 h2
     ·rw [List.getElem?_append_right hj] at h1
      rw [List.getElem?_append_right (by omega),eC] at h2
      exact ir _ c y h1 h2
    have hm:args.map ρ=(args.toList.map ρ).toArray:=by rw [← Array.toList_map]
    refine qH hy ic.1 hm ?_
    have ma:((args.toList.map ρ).toArray++cs.toArray:Array Value)=(args.toList.map ρ++cs).toArray:=by simp
    rw [ma]
    refine (ic.now C.rm C.k (b:=[]) (by simp) iD (fun j c y h1 h2=>(KV (List.all_eq_true.1 eX.2 c (List.mem_of_getElem? h1)) (oy j c y h1 h2)).mono (fun w hw=>hw.1) (Ext.refl _)) (fun hn=>absurd rfl hn)).mono ?_
    rintro e w' ⟨v,rfl,I',X,R,hI,hd⟩
    refine ⟨v,rfl,?_⟩
    have R':bN D w0 K0 M β F I' (X++[]) w':=by rw [List.append_nil];exact R
    obtain ⟨aE,F',R2,e,f2,-,a2⟩:=wY eX.1 R' hd
    exact ⟨aE,F',I',R2.nil rfl,e.b _,hI,fun u hu _=>f2 u hu,a2⟩
 ·simp at h
end Go.Proofs.YtcnpikbbmbombaaGreatDoor
namespace Go.Proofs.YtcnpikbbmbombaaGreatDoor
open Go.RowKit
variable {P:Program} {T:aN} {w:World} {D:List Nat} {w0:World} {K0:World→Prop} {M:List aj} {β:Beta} {F:Nat→aq} {I X:aq}
theorem range_split {n u:Nat} (h:u<n) (f:Nat→aq):(List.range n).flatMap f=(List.range u).flatMap f++(f u++(List.range' (u+1) (n-(u+1))).flatMap f):=by
 have hr:List.range n=List.range u++u::List.range' (u+1) (n-(u+1)):=by
  rw [List.range_eq_range',List.range_eq_range']
  have h1:n=u+(1+(n-(u+1))):=by omega
  conv=>lhs;rw [h1]
  rw [← List.range'_append_1,← List.range'_append_1]
  simp
 rw [hr];simp [List.flatMap_append]
theorem fN {l:List Nat} {f g:Nat→aq} (h:∀ a ∈ l,f a=g a):l.flatMap f=l.flatMap g:=by
 rw [List.flatMap_def,List.flatMap_def];congr 1;exact List.map_congr_left h
theorem bN.fS (R:bN D w0 K0 M β F I X w) {u:Nat} {blk:aj} (hu:M[u]?=some blk):bN D w0 K0 (M.set u .dead) β (aM F u []) I (X++F u) w where
 len:=by rw [List.length_set];exact R.len
 blk:=by
  intro v bl hv
  rw [List.getElem?_set] at hv
  by_cases e:u=v
  ·subst e
   obtain ⟨aO,-⟩:=List.getElem?_eq_some_iff.1 hu
   simp only [aO,if_pos,Option.some.injEq] at hv;subst hv
   simpa [aM] using bB.dead u
  ·rw [if_neg e] at hv
   have:aM F u [] v=F v:=by simp only [aM];rw [if_neg (fun h=>e h.symm)]
   rw [this];exact R.blk v bl hv
 st:=by
  obtain ⟨aO,-⟩:=List.getElem?_eq_some_iff.1 hu
  have hs:=R.st
  rw [List.length_set,range_split aO]
  rw [range_split aO] at hs
  have c1:(List.range u).flatMap (aM F u [])=(List.range u).flatMap F:=fN fun a ha=>by have:=List.mem_range.1 ha;simp [aM];omega
  have c2:(List.range' (u+1) (M.length-(u+1))).flatMap (aM F u [])=(List.range' (u+1) (M.length-(u+1))).flatMap F:=fN fun a ha=>by have:=(List.mem_range'_1.1 ha).1;simp [aM];omega
  have iq:aM F u [] u=[]:=by simp [aM]
  rw [c1,c2,iq]
  exact hs.perm (by classical rw [List.perm_iff_count];intro z;simp only [List.count_append,List.count_nil];omega)
def pR (M:List aj):AV→Option (List Prop×DV×List aj)
 | .d x=>some ([],x,M)
 | .sl u n=>(match M[u]? with | some (.rw T k rows)=>some ([n=rows.length],.em T k rows,M.set u .dead) | _=>none)
 | _=>none
def kH (M:List aj):List AV→Option (List Prop×List DV×List aj)
 | []=>some ([],[],M)
 | c::r=>(match pR M c with
  | some (v,x,M')=>(match kH M' r with | some (v',l,zj)=>some (v++v',x::l,zj) | none=>none)
  | none=>none)
def xN (M:List aj):AV→Option (List Prop×DV×List aj)
 | .ag l=>(match kH M l with | some (v,l',M')=>some (v,.ag l',M') | none=>none)
 | c=>pR M c
def l0 (M:List aj):List AV→Option (List Prop×List DV×List aj)
 | []=>some ([],[],M)
 | c::r=>(match xN M c with
  | some (v,x,M')=>(match l0 M' r with | some (v',l,zj)=>some (v++v',x::l,zj) | none=>none)
  | none=>none)
def C3 (D:List Nat) (w0:World) (K0:World→Prop) (β:Beta) (I X:aq) (w:World) (y:Value) (x:DV) (M':List aj):Prop:=
 ∃ F' H,bN D w0 K0 M' β F' I (X++H) w∧bV (fun w=>K0 w∧Holds w I) x y H
theorem Ba (R:bN D w0 K0 M β F I X w) {c:AV} {vc:List Prop} {x:DV} {M':List aj} (h:pR M c=some (vc,x,M')) (hv:bn vc) {y:Value} (r:az (fun w=>K0 w∧Holds w I) β c y):C3 D w0 K0 β I X w y x M':=by
 unfold pR at h
 split at h
 ·simp only [Option.some.injEq,Prod.mk.injEq] at h;obtain ⟨rfl,rfl,rfl⟩:=h
  cases r with | d r=>exact ⟨F,[],by rw [List.append_nil];exact R,r⟩
 ·rename_i u n
  split at h
  ·rename_i Tt k rows hM
   simp only [Option.some.injEq,Prod.mk.injEq] at h;obtain ⟨rfl,rfl,rfl⟩:=h
   obtain ⟨rfl,-⟩:=hv
   cases r with
   | sl hb=>
    have R':=R.fS hM
    have hB:=R.blk u _ hM
    refine ⟨_,F u,R',?_⟩
    generalize F u=G0 at hB ⊢
    cases hB with
    | rw aQ X G hl hs hr=>rw [hb] at aQ;cases aQ;exact .em X G hl hs hr
  ·simp at h
 ·simp at h
theorem Bb:∀ {l:List AV} {M:List aj} {F:Nat→aq} {X:aq} {vc:List Prop} {xs:List DV} {M':List aj},bN D w0 K0 M β F I X w→kH M l=some (vc,xs,M')→bn vc→∀ {ys:List Value},ys.length=l.length→(∀ (j:Nat) c y,l[j]?=some c→ys[j]?=some y→az (fun w=>K0 w∧Holds w I) β c y)→
  ∃ F' H,bN D w0 K0 M' β F' I (X++H) w∧gn (fun w=>K0 w∧Holds w I) xs ys H
 | [],M,F,X,vc,xs,M',R,h,_,ys,hl,_=>by
  simp only [kH,Option.some.injEq,Prod.mk.injEq] at h;obtain ⟨rfl,rfl,rfl⟩:=h
  have:ys=[]:=List.eq_nil_of_length_eq_zero hl
  subst this
  exact ⟨F,[],by rw [List.append_nil];exact R,.nil⟩
 | c::r,M,F,X,vc,xs,M',R,h,hv,ys,hl,hr=>by
  unfold kH at h
  split at h
  ·rename_i v x M1 h1
   split at h
   ·rename_i v' l' M2 h2
    simp only [Option.some.injEq,Prod.mk.injEq] at h;obtain ⟨rfl,rfl,rfl⟩:=h
    rw [bn.app] at hv
    cases ys with
    | nil=>simp at hl
    | cons y ys=>
     obtain ⟨F1,H1,R1,d1⟩:=Ba R h1 hv.1 (hr 0 c y rfl rfl)
     obtain ⟨F2,H2,R2,d2⟩:=Bb R1 h2 hv.2 (ys:=ys) (by simpa using hl) (fun j c' y' e1 e2=>hr (j+1) c' y' (by simpa using e1) (by simpa using e2))
     exact ⟨F2,H1++H2,by rw [← List.append_assoc];exact R2,.cons d1 d2⟩
   ·simp at h
  ·simp at h
theorem gn.to {K:World→Prop} {l:List DV} {ys:List Value} {H:aq} (h:gn K l ys H):∃ F:Nat→aq,H=(List.range l.length).flatMap F∧∀ (j:Nat) c y,l[j]?=some c→ys[j]?=some y→bV K c y (F j):=by
 induction h with
 | nil=>exact ⟨fun _=>[],by simp,by simp⟩
 | cons h r ih=>
  rename_i c y l ys H G
  obtain ⟨F,hF,hr⟩:=ih
  refine ⟨fun i=>match i with | 0=>H | i+1=>F i,?_,?_⟩
  ·rw [List.length_cons,sI,hF]
  ·intro j c' y' h1 h2
   cases j with
   | zero=>simp at h1 h2;subst h1 h2;exact h
   | succ j=>simp at h1 h2;exact hr j c' y' h1 h2
theorem HO (R:bN D w0 K0 M β F I X w) {c:AV} {vc:List Prop} {x:DV} {M':List aj} (h:xN M c=some (vc,x,M')) (hv:bn vc) {y:Value} (r:az (fun w=>K0 w∧Holds w I) β c y):C3 D w0 K0 β I X w y x M':=by
 unfold xN at h
 split at h
 ·split at h
  ·rename_i v l' M1 h1
   simp only [Option.some.injEq,Prod.mk.injEq] at h;obtain ⟨rfl,rfl,rfl⟩:=h
   cases r with
   | ag ys hl hr=>
    obtain ⟨F1,H1,R1,d1⟩:=Bb R h1 hv hl hr
    obtain ⟨G,rfl,hG⟩:=d1.to
    exact ⟨F1,_,R1,.ag ys G d1.len hG⟩
  ·simp at h
 ·exact Ba R h hv r
theorem AO:∀ {l:List AV} {M:List aj} {F:Nat→aq} {X:aq} {vc:List Prop} {xs:List DV} {M':List aj},bN D w0 K0 M β F I X w→l0 M l=some (vc,xs,M')→bn vc→∀ {ys:List Value},ys.length=l.length→(∀ (j:Nat) c y,l[j]?=some c→ys[j]?=some y→az (fun w=>K0 w∧Holds w I) β c y)→
  ∃ F' H,bN D w0 K0 M' β F' I (X++H) w∧gn (fun w=>K0 w∧Holds w I) xs ys H
 | [],M,F,X,vc,xs,M',R,h,_,ys,hl,_=>by
  simp only [l0,Option.some.injEq,Prod.mk.injEq] at h;obtain ⟨rfl,rfl,rfl⟩:=h
  have:ys=[]:=List.eq_nil_of_length_eq_zero hl
  subst this
  exact ⟨F,[],by rw [List.append_nil];exact R,.nil⟩
 | c::r,M,F,X,vc,xs,M',R,h,hv,ys,hl,hr=>by
  unfold l0 at h
  split at h
  ·rename_i v x M1 h1
   split at h
   ·rename_i v' l' M2 h2
    simp only [Option.some.injEq,Prod.mk.injEq] at h;obtain ⟨rfl,rfl,rfl⟩:=h
    rw [bn.app] at hv
    cases ys with
    | nil=>simp at hl
    | cons y ys=>
     obtain ⟨F1,H1,R1,d1⟩:=HO R h1 hv.1 (hr 0 c y rfl rfl)
     obtain ⟨F2,H2,R2,d2⟩:=AO R1 h2 hv.2 (ys:=ys) (by simpa using hl) (fun j c' y' e1 e2=>hr (j+1) c' y' (by simpa using e1) (by simpa using e2))
     exact ⟨F2,H1++H2,by rw [← List.append_assoc];exact R2,.cons d1 d2⟩
   ·simp at h
  ·simp at h
end Go.Proofs.YtcnpikbbmbombaaGreatDoor
namespace Go.Proofs.YtcnpikbbmbombaaGreatDoor
open Go.RowKit
variable {P:Program} {T:aN} {D:List Nat} {w0:World} {K0:World→Prop} {E:List (Nat×AV)} {M:List aj} {β:Beta} {F:Nat→aq} {I:aq} {ρ:Operand→Value} {w:World}
variable {d:Option Tmp} {ty:TypeId} {pos:String} {aft:Array Edge} {gd:Option (Nat×Bool)} {oc:Option a7} {out:Out}
def nk:List AV→Option (List Value)
 | []=>some []
 | .d (.v x)::r=>(match nk r with | some l=>some (x::l) | none=>none)
 | _=>none
theorem qR {K:World→Prop} {β:Beta}:∀ {l:List AV} {xs ys:List Value},nk l=some xs→ys.length=l.length→(∀ (j:Nat) c y,l[j]?=some c→ys[j]?=some y→az K β c y)→ys=xs
 | [],xs,ys,h,hl,_=>by simp only [nk,Option.some.injEq] at h;subst h;exact List.eq_nil_of_length_eq_zero hl
 | c::r,xs,[],_,hl,_=>by simp at hl
 | c::r,xs,y::ys,h,hl,hr=>by
  unfold nk at h
  split at h
  ·simp_all
  ·rename_i x r' heq
   simp only [List.cons.injEq] at heq
   obtain ⟨rfl,rfl⟩:=heq
   split at h
   ·rename_i l' de
    simp only [Option.some.injEq] at h;subst h
    have h0:=hr 0 _ y rfl rfl
    have h1:=qR (ys:=ys) de (by simpa using hl) (fun j c y e1 e2=>hr (j+1) c y (by simpa using e1) (by simpa using e2))
    cases h0 with | d h0=>cases h0;rw [h1]
   ·simp at h
  ·simp at h
def kI (P:Program) (t:TypeId) (xs ys:List Value) (c:Bool):Prop:=P.eqGuardType P.depth t=false∧∀ w:World,(Op.equal t (.agg xs.toArray) (.agg ys.toArray)).run P w=.ok c w
def yI (P:Program) (E:List (Nat×AV)) (M:List aj) (oc:Option a7) (op:BinOp) (t:TypeId) (x y:Operand):Option Out:=
 match op,aJ E x,aJ E y,oc with
 | .eql,some (.ag l),some (.ag l'),some (.b c)=>(match nk l,nk l' with | some xs,some ys=>some (lk [kI P t xs ys c] (.b c) M) | _,_=>none)
 | .neq,some (.ag l),some (.ag l'),some (.b c)=>(match nk l,nk l' with | some xs,some ys=>some (lk [kI P t xs ys c] (.b (!c)) M) | _,_=>none)
 | _,_,_,_=>none
theorem Jn {op:BinOp} {t t':TypeId} {x y:Operand} (h:yI P E M oc op t x y=some out):aK P ⟨d,.binOp op t x y t',ty,pos,aft,gd⟩ E M out:=by
 unfold yI at h
 split at h
 ·rename_i l l' c hx hy
  split at h
  ·rename_i xs ys h1 h2
   simp only [Option.some.injEq] at h;subst h
   refine aK.same ?_
   intro D w0 K0 β F I ρ w C hv
   obtain ⟨⟨hg,hr⟩,-⟩:=hv
   obtain ⟨u,hu,r⟩:=C.bW hx
   obtain ⟨u',iq,r'⟩:=C.bW hy
   cases r with | ag zs hl hz=>
   cases r' with | ag Ok de j1=>
   obtain rfl:=qR h1 hl hz
   obtain rfl:=qR h2 de j1
   exact ⟨.bool c,fun w' _=>by simp [execOp,hu,iq,eqGuard,hg,binOp,hr],.d (.v _)⟩
  ·simp at h
 ·rename_i l l' c hx hy
  split at h
  ·rename_i xs ys h1 h2
   simp only [Option.some.injEq] at h;subst h
   refine aK.same ?_
   intro D w0 K0 β F I ρ w C hv
   obtain ⟨⟨hg,hr⟩,-⟩:=hv
   obtain ⟨u,hu,r⟩:=C.bW hx
   obtain ⟨u',iq,r'⟩:=C.bW hy
   cases r with | ag zs hl hz=>
   cases r' with | ag Ok de j1=>
   obtain rfl:=qR h1 hl hz
   obtain rfl:=qR h2 de j1
   exact ⟨.bool (!c),fun w' _=>by simp [execOp,hu,iq,eqGuard,hg,binOp,hr],.d (.v _)⟩
  ·simp at h
 ·simp at h
def wZ (l:List (Nat×Nat)) (i:Nat):Option (Nat×Nat):=l[i]?
def lr (E:List (Nat×AV)) (place:Nat→Option (Nat×Nat)) (cells:List AV):List (Nat×Operand)→Option (List AV)
 | []=>some cells
 | (i,x)::r=>(match place i,aJ E x with
  | some (off,size),some v=>(match oa v with
   | some l=>bif l.length.beq size&&(off+size).ble cells.length then lr E place (cells.take off++(l++cells.drop (off+size))) r else none
   | none=>none)
  | _,_=>none)
theorem GB:∀ (vs:List Value) (off j:Nat) (cs:Array Value),(vs.zipIdx j).foldl (fun cs (cj:Value×Nat)=>cs.setIfInBounds (off+cj.2) cj.1) cs=cA cs (off+j) vs:=by
 intro vs
 induction vs with
 | nil=>intro off j cs;simp [cA]
 | cons v r ih=>intro off j cs;rw [List.zipIdx_cons,List.foldl_cons,ih,cA,Nat.add_assoc]
theorem sW {place:Nat→Option (Nat×Nat)} (C:Ctx D w0 K0 E M β F I ρ w):∀ {parts:List (Nat×Operand)} {cells l:List AV} {cs:Array Value},lr E place cells parts=some l→cs.size=cells.length→(∀ (j:Nat) c y,cells[j]?=some c→cs[j]?=some y→az (fun w=>K0 w∧Holds w I) β c y)→
  ∃ b8:Array Value,Instr.fill place cs (parts.map fun p=>(p.1,ρ p.2))=some b8∧b8.size=l.length∧∀ (j:Nat) c y,l[j]?=some c→b8[j]?=some y→az (fun w=>K0 w∧Holds w I) β c y
 | [],cells,l,cs,h,hl,hr=>by simp only [lr,Option.some.injEq] at h;subst h;exact ⟨cs,rfl,hl,hr⟩
 | (i,x)::r,cells,l,cs,h,hl,hr=>by
  unfold lr at h
  split at h
  ·rename_i off size v hp hx
   split at h
   ·rename_i lv Eh
    cases hb:(lv.length.beq size&&(off+size).ble cells.length) with
    | false=>simp [hb] at h
    | true=>
     simp only [hb,cond_true] at h
     simp only [Bool.and_eq_true] at hb
     have h1:=Nat.eq_of_beq_eq_true hb.1
     have h2:=Nat.le_of_ble_eq_true hb.2
     obtain ⟨y,hy,ry⟩:=C.bW hx
     obtain ⟨zs,e1,e2,e3,-⟩:=qI Eh ry
     have rv:(cA cs off zs).size=(cells.take off++(lv++cells.drop (off+size))).length:=by rw [lS];simp;omega
     obtain ⟨b8,g1,g2,g3⟩:=sW C (cs:=cA cs off zs) h rv (by
      intro j c z f1 f2
      rw [o8 _ _ _ _ (by omega)] at f2
      by_cases hj:off≤j∧j<off+zs.length
      ·rw [if_pos hj] at f2
       rw [List.getElem?_append_right (by simp;omega),List.getElem?_append_left (by simp;omega)] at f1
       refine e3 (j-off) c z ?_ f2
       rw [← f1];congr 1;simp;omega
      ·rw [if_neg hj] at f2
       refine hr j c z ?_ f2
       rcases Nat.lt_or_ge j off with nH | nH
       ·rw [List.getElem?_append_left (by simp;omega),List.getElem?_take,if_pos nH] at f1;exact f1
       ·rw [List.getElem?_append_right (by simp;omega),List.getElem?_append_right (by simp;omega),List.getElem?_drop] at f1
        rw [← f1];congr 1;simp;omega)
     refine ⟨b8,?_,g2,g3⟩
     rw [List.map_cons,Instr.fill]
     simp only [hp,hy,e1]
     rw [if_neg (by simp;omega)]
     have hz:=GB zs off 0 cs
     have zk:zs.toArray.zipIdx.foldl (fun cs (cj:Value×Nat)=>cs.setIfInBounds (off+cj.2) cj.1) cs=cA cs off zs:=by
      rw [← Array.foldl_toList,Array.toList_zipIdx];simpa using hz
     rw [← g1];congr 1
   ·simp at h
  ·simp at h
def w5 (T:aN) (E:List (Nat×AV)) (M:List aj) (t:TypeId) (parts:Array (Nat×Operand)):Option Out:=
 match zc T t,pP T t with
 | some pl,some z=>(match lr E (wZ pl) (lZ z) parts.toList with
  | some l=>some (lk [] (.ag l) M)
  | none=>none)
 | _,_=>none
theorem An:∀ {fs:List Field} {pl:List (Nat×Nat)} (w:World),pk P fs=some pl→(fs.mapM fun f=>(do pure (f.offset,← sizeOf f.type):Sem (Nat×Nat))).run P w=.ok pl w
 | [],pl,w,h=>by simp only [pk,Option.some.injEq] at h;subst h;simp
 | f::r,pl,w,h=>by
  unfold pk at h
  split at h
  ·rename_i i l hi hl
   simp only [Option.some.injEq] at h;subst h
   have ih:=An w hl
   have hs:(sizeOf f.type).run P w=.ok i.size w:=by simp [sizeOf,typeInfo,Sem.run_bind,hi]
   simp only [List.mapM_cons,Sem.run_bind,hs,Result.andThen_ok,Sem.run_pure,ih]
  ·simp at h
theorem GC (hT:bc P T=true) {t:TypeId} {parts:Array (Nat×Operand)} (h:w5 T E M t parts=some out):aK P ⟨d,.build t parts,ty,pos,aft,gd⟩ E M out:=by
 unfold w5 at h
 split at h
 ·rename_i pl z Ol hz
  split at h
  ·rename_i l hl
   simp only [Option.some.injEq] at h;subst h
   obtain ⟨fs,hu,Om⟩:=KQ hT Ol
   obtain ⟨zv,oK,oL⟩:=sR hT hz
   refine aK.same ?_
   intro D w0 K0 β F I ρ w C _
   obtain ⟨p1,p2⟩:=qJ (K:=fun w=>K0 w∧Holds w I) (β:=β) z
   obtain ⟨b8,g1,g2,g3⟩:=sW C (cs:=z.toArray) hl (by simpa using p1) (by intro j c y e1 e2;exact p2 j c y e1 (by simpa using e2))
   refine ⟨.agg b8,fun w' _=>?_,?_⟩
   ·have On:=An w' Om
    have Oo:(fs.mapM fun f=>(do pure (f.offset,← sizeOf f.type):Sem (Nat×Nat))).run P w'=.ok pl.toArray w':=by
     rw [Array.mapM_eq_mapM_toList,Sem.run_map,On];rfl
    have qj:(parts.map fun (p:Nat×Operand)=>(p.1,ρ p.2)).toList=parts.toList.map fun p=>(p.1,ρ p.2):=by simp
    have tv:(fun i=>pl.toArray[i]?)=wZ pl:=by funext i;simp [wZ]
    have hb:(Instr.build t (parts.map fun (p:Nat×Operand)=>(p.1,ρ p.2))).run P w'=.ok (.agg b8) w':=by
     simp only [Instr.build,Sem.run_bind,oL,Result.andThen_ok,run_underlying hu,Oo,oK,qj,tv,g1,Sem.run_pure]
    simp only [execOp,Sem.run_bind]
    have:(parts.map fun (i,x)=>(i,ρ x))=parts.map fun (p:Nat×Operand)=>(p.1,ρ p.2):=rfl
    rw [this,hb];rfl
   ·have:(az (fun w=>K0 w∧Holds w I) β (.ag l) (.agg b8.toList.toArray)):=.ag b8.toList (by simpa using g2) (by intro j c y e1 e2;exact g3 j c y e1 (by simpa using e2))
    simpa using this
  ·simp at h
 ·simp at h
end Go.Proofs.YtcnpikbbmbombaaGreatDoor
namespace Go.Proofs.YtcnpikbbmbombaaGreatDoor
open Go.RowKit
variable {P:Program} {T:aN} {D:List Nat} {w0:World} {K0:World→Prop} {E:List (Nat×AV)} {M:List aj} {β:Beta} {F:Nat→aq} {I:aq} {ρ:Operand→Value} {w:World}
variable {d:Option Tmp} {ty:TypeId} {pos:String} {aft:Array Edge} {gd:Option (Nat×Bool)} {oc:Option a7} {out:Out}
def jB (T:aN) (t:Nat):Option (Nat×Nat×Nat×List Value):=match dv T t with
 | some (.sl e)=>(match T.at e with | some x=>bif x.zero.length.beq x.size then some (e,x.size,x.bytes,x.zero) else none | none=>none)
 | _=>none
theorem lg (hT:bc P T=true) {t e k b:Nat} {z:List Value} (h:jB T t=some (e,k,b,z)):∃ zv,pO P t e k b zv∧zv.cells=z.toArray∧z.length=k:=by
 unfold jB at h
 split at h
 ·rename_i e' hu
  split at h
  ·rename_i x hx
   cases hz:x.zero.length.beq x.size with
   | false=>simp [hz] at h
   | true=>
    simp only [hz,cond_true,Option.some.injEq,Prod.mk.injEq] at h
    obtain ⟨rfl,rfl,rfl,rfl⟩:=h
    obtain ⟨i,zv,h1,h2,h3,h4,h5⟩:=sQ hT hx
    have hc:zv.cells=x.zero.toArray:=by rw [← h5]
    exact ⟨zv,⟨c8 hT hu,by rw [h1,Option.map_some,h2],by rw [h1,Option.map_some,h3],by rw [h1,Option.bind_some,h4],by rw [hc];simpa using Nat.eq_of_beq_eq_true hz⟩,hc,Nat.eq_of_beq_eq_true hz⟩
  ·simp at h
 ·simp at h
theorem fi {n k:Nat} {X:Nat→List Value} (hX:∀ i,i<n→(X i).length=k):(lay n X).length=n*k:=by
 induction n with
 | zero=>simp [lay]
 | succ n ih=>
  have:=ih (fun i hi=>hX i (by omega))
  simp only [lay,List.range_succ,List.flatMap_append,List.length_append,List.flatMap_cons,List.flatMap_nil,List.append_nil] at this ⊢
  rw [this,hX n (by omega),Nat.succ_mul]
theorem sX (z:List Value) (n k:Nat) (hz:z.length=k):((Array.range (n*k)).map fun i=>z.toArray[i%z.toArray.size]!).toList=lay n fun _=>z:=by
 subst hz
 apply List.ext_getElem?
 intro p
 have hl:=fi (n:=n) (k:=z.length) (X:=fun _=>z) (fun _ _=>rfl)
 rcases Nat.lt_or_ge p (n*z.length) with hp | hp
 ·have hk:0<z.length:=by
   rcases Nat.eq_zero_or_pos z.length with h0 | h0
   ·rw [h0] at hp;simp at hp
   ·exact h0
  have hd:p / z.length<n:=Nat.div_lt_of_lt_mul (by rw [Nat.mul_comm];exact hp)
  have hm:p%z.length<z.length:=Nat.mod_lt _ hk
  have hg:=kA (n:=n) (k:=z.length) (X:=fun _=>z) (fun _ _=>rfl) hd hm
  rw [Nat.mul_comm,Nat.div_add_mod] at hg
  rw [hg]
  have zk:z[p%z.length]?=some z[p%z.length]:=List.getElem?_eq_getElem hm
  rw [zk,Array.toList_map,List.getElem?_map,Array.toList_range,List.getElem?_range hp,Option.map_some]
  congr 1
  have:(z.toArray)[p%z.toArray.size]?=some z[p%z.length]:=by rw [List.getElem?_toArray];exact zk
  rw [getElem!_def,this]
 ·rw [List.getElem?_eq_none (by simpa using hp),List.getElem?_eq_none (by omega)]
set_option maxRecDepth 20000 in
theorem run_makeSlice {t e k b:Nat} {z:List Value} {zv:Value} (ok:pO P t e k b zv) (hz:zv.cells=z.toArray) (fx:z.length=k) {m:Nat} (hb:b*m≤281474976710656) (hm:m<4611686018427387904):
  (Instr.makeSlice t (.int .i64 m) (.int .i64 m)).run P w=.ok (.slice (some ⟨w.heap.size,0,none⟩) m m) (w.alloc (.cells (lay m fun _=>z).toArray e)):=by
 obtain ⟨i,hi,h1,h2,h3⟩:=ok.info
 have hw:IntKind.i64.wrap (m:Int)=m:=by
  simp [IntKind.wrap,IntKind.signed,IntKind.bits];omega
 have bJ:∀ w:World,(sizeOf e).run P w=.ok k w:=fun w=>by simp [sizeOf,typeInfo,Sem.run_bind,hi,h1]
 have ln:∀ w:World,(typeInfo e).run P w=.ok i w:=fun w=>by simp [typeInfo,Sem.run_bind,hi]
 have hzero:∀ w:World,(zeroValue e).run P w=.ok zv w:=fun w=>by simp [zeroValue,Sem.run_bind,ln,h3]
 have rJ:∀ (k:Nat) (w:World),(askRoom k).run P w=.ok () w:=by
  intro k w;unfold askRoom;split<;>simp [mark,Sem.run]
 have zl:∀ n:Int,asInt (.int .i64 n)=pure n:=fun n=>rfl
 have cf:∀ (cs:Array Value) (w:World),(newRow e cs).run P w=.ok ⟨w.heap.size,0,none⟩ (w.alloc (.cells cs e)):=by
  intro cs w;simp [newRow,newObj,Sem.run]
 have Ei:¬ ((i.bytes:Int)*(m:Int)>2 ^ 48):=by
  rw [h2]
  have e:((b*m:Nat):Int)=(b:Int)*(m:Int):=Int.natCast_mul b m
  rw [← e]
  generalize b*m=q at hb
  omega
 have w6:∀ n,n=m*k→(if n=0 then ((Array.range n).map fun i=>(#[]:Array Value)[i%(#[]:Array Value).size]!) else ((Array.range n).map fun i=>z.toArray[i%z.toArray.size]!))=(lay m fun _=>z).toArray:=by
  intro n hn
  subst hn
  rw [← sX z m k fx]
  by_cases h0:m*k=0
  ·rw [if_pos h0,h0];simp
  ·rw [if_neg h0]
 unfold Instr.makeSlice
 simp only [Sem.run_bind,run_underlying ok.bC,Result.andThen_ok,zl,Sem.run_pure,ln,hw,bJ]
 have xO:¬ ((((m:Int)<0:Bool)||decide ((i.bytes:Int)*(m:Int)>2 ^ 48))=true∨(m:Int)<0∨(m:Int)>m):=by
  simp only [Bool.or_eq_true,decide_eq_true_eq]
  omega
 rw [if_neg (by simpa using xO)]
 simp only [Sem.run_bind,Result.andThen_ok,rJ,bJ,Int.toNat_natCast]
 have:=w6 (m*k) rfl
 by_cases h0:m*k=0
 ·rw [if_pos h0] at this ⊢
  simp only [Sem.run_pure,Result.andThen_ok,Sem.run_bind,cf,this]
 ·rw [if_neg h0] at this ⊢
  simp only [Sem.run_pure,Result.andThen_ok,Sem.run_bind,hzero,hz,cf,this]
def xP (T:aN) (E:List (Nat×AV)) (M:List aj) (oc:Option a7) (t:TypeId) (x y:Operand):Option Out:=
 match jB T t,cU (aJ E x),cU (aJ E y),oc with
 | some (e,k,b,z),some (.i64,n),some (.i64,n'),some (.n m)=>some ⟨[n=(m:Int),n'=(m:Int),b*m≤281474976710656,m<4611686018427387904],.sl M.length m,M++[.rw e k (List.replicate m (z.map .v))],[],[],none⟩
 | _,_,_,_=>none
theorem vj {K:World→Prop} {z:List Value} {j:Nat} {c:DV} {x:Value} (h1:(z.map DV.v)[j]?=some c) (h2:z[j]?=some x):bV K c x []:=by
 rw [List.getElem?_map,h2,Option.map_some,Option.some.injEq] at h1
 subst h1;exact .v x
theorem lU (n k:Nat):bL n k (fun _ _=>[])=[]:=by simp [bL]
theorem HP (hT:bc P T=true) {t:TypeId} {x y:Operand} (h:xP T E M oc t x y=some out):aK P ⟨d,.makeSlice t x y,ty,pos,aft,gd⟩ E M out:=by
 unfold xP at h
 split at h
 ·rename_i e k b z n n' m he hx hy
  simp only [Option.some.injEq] at h;subst h
  obtain ⟨zv,ok,hz,fx⟩:=lg hT he
  intro D w0 K0 β F I ρ w C hv
  obtain ⟨rfl,rfl,hb,hm,-⟩:=hv
  refine a8.pure (v:=.slice (some ⟨w.heap.size,0,none⟩) m m) (w':=w.alloc (.cells (lay m fun _=>z).toArray e)) (by simp only [execOp,C.int hx,C.int hy,Sem.run_bind,run_makeSlice ok hz fx hb hm,Result.andThen_ok,Sem.run_pure]) ?_
  have iG:=fi (n:=m) (k:=k) (X:=fun _=>z) (fun _ _=>fx)
  refine ⟨_,_,I,C.rm.new (q:=(some ⟨w.heap.size,0,none⟩,m)) (Gr.alloc w _) (dW.alloc w _) ?_,(Ext.app _ _).b _,bU.refl _,mX _ _,.sl (jm C.rm _)⟩
  have:=bB.rw (K:=fun w=>K0 w∧Holds w I) (β:=β++[(some ⟨w.heap.size,0,none⟩,m)]) (u:=M.length) (T:=e) (k:=k) (rows:=List.replicate m (z.map .v)) (H0:=[(w.heap.size,.cells (lay m fun _=>z).toArray e (0,0))]) (jm C.rm _) (fun _=>z) (fun _ _=>[]) (fun i r hi=>by
   rw [List.getElem?_replicate] at hi
   split at hi
   ·simp only [Option.some.injEq] at hi;subst hi;rw [List.length_map];exact ⟨fx,fx⟩
   ·simp at hi) (by
    rw [List.length_replicate]
    exact ⟨iG,Or.inr ⟨w.heap.size,m,_,rfl,rfl,by simpa using iG,Nat.le_refl _,by rw [← iG];simp⟩⟩) (fun i r j c x hi h1 h2=>by
    rw [List.getElem?_replicate] at hi
    split at hi
    ·simp only [Option.some.injEq] at hi;subst hi;exact vj h1 h2
    ·simp at hi)
  rw [lU,List.append_nil] at this
  exact this
 ·simp at h
theorem wc {n:Nat} {X Y:Nat→List Value} (h:∀ i,i<n→X i=Y i):lay n X=lay n Y:=by
 simp only [lay,List.flatMap_def];congr 1
 exact List.map_congr_left fun i hi=>h i (List.mem_range.1 hi)
theorem po (n m:Nat) (X Y:Nat→List Value):lay (n+m) (fun i=>if i<n then X i else Y (i-n))=lay n X++lay m Y:=by
 simp only [lay]
 rw [List.range_add,List.flatMap_append,List.flatMap_map]
 congr 1
 ·simp only [List.flatMap_def];congr 1;exact List.map_congr_left fun i hi=>by have:=List.mem_range.1 hi;simp [this]
 ·simp only [List.flatMap_def];congr 1;exact List.map_congr_left fun i hi=>by
   show (if n+i<n then X (n+i) else Y (n+i-n))=Y i
   rw [if_neg (by omega),Nat.add_sub_cancel_left]
theorem qS (n m k:Nat) (X Y:Nat→Nat→aq):bL (n+m) k (fun i=>if i<n then X i else Y (i-n))=bL n k X++bL m k Y:=by
 simp only [bL]
 rw [List.range_add,List.flatMap_append,List.flatMap_map]
 congr 1
 ·simp only [List.flatMap_def];congr 1;exact List.map_congr_left fun i hi=>by have:=List.mem_range.1 hi;simp [this]
 ·simp only [List.flatMap_def];congr 1;exact List.map_congr_left fun i hi=>by
   show (List.range k).flatMap (if n+i<n then X (n+i) else Y (n+i-n))=(List.range k).flatMap (Y i)
   rw [if_neg (by omega),Nat.add_sub_cancel_left]
structure dU (K:World→Prop) (k:Nat) (rows:List (List DV)) (X:Nat→List Value) (G:Nat→Nat→aq):Prop where
 hl:∀ (i:Nat) r,rows[i]?=some r→r.length=k∧(X i).length=k
 hr:∀ (i:Nat) (r:List DV) (j:Nat) c x,rows[i]?=some r→r[j]?=some c→(X i)[j]?=some x→bV K c x (G i j)
theorem dU.app {K:World→Prop} {k:Nat} {r1 r2:List (List DV)} {X Y:Nat→List Value} {G H:Nat→Nat→aq} (h1:dU K k r1 X G) (h2:dU K k r2 Y H):dU K k (r1++r2) (fun i=>if i<r1.length then X i else Y (i-r1.length)) (fun i=>if i<r1.length then G i else H (i-r1.length)):=by
 constructor
 ·intro i r hi
  rcases Nat.lt_or_ge i r1.length with h | h
  ·rw [List.getElem?_append_left h] at hi;simpa [h] using h1.hl i r hi
  ·rw [List.getElem?_append_right h] at hi;have h':¬ i<r1.length:=by omega
   simpa [h'] using h2.hl _ r hi
 ·intro i r j c x hi hj hx
  rcases Nat.lt_or_ge i r1.length with h | h
  ·rw [List.getElem?_append_left h] at hi;simp only [h,if_true] at hx ⊢;exact h1.hr i r j c x hi hj hx
  ·rw [List.getElem?_append_right h] at hi;have h':¬ i<r1.length:=by omega
   simp only [h',if_false] at hx ⊢;exact h2.hr _ r j c x hi hj hx
theorem dU.one {K:World→Prop} {k:Nat} {rows:List (List DV)} {X:Nat→List Value} {G:Nat→Nat→aq} (h:dU K k rows X G) (ho:(rows.all fun r=>r.all fun c=>AV.one (.d c))=true):∀ q ∈ lay rows.length X,bQ q=true:=by
 intro q hq
 simp only [lay,List.mem_flatMap,List.mem_range] at hq
 obtain ⟨i,hi,hq⟩:=hq
 obtain ⟨j,hj,rfl⟩:=List.getElem_of_mem hq
 have cf:=List.getElem?_eq_getElem hi
 obtain ⟨e1,e2⟩:=h.hl i _ cf
 have hc:rows[i][j]?=some rows[i][j]:=List.getElem?_eq_getElem (by omega)
 have hd:=h.hr i _ j _ _ cf hc (List.getElem?_eq_getElem hj)
 have ez:=List.all_eq_true.1 (List.all_eq_true.1 ho _ (List.mem_of_getElem? cf)) _ (List.mem_of_getElem? hc)
 generalize rows[i][j]=c at hd ez
 generalize G i j=GG at hd
 cases c with
 | v x=>cases hd;exact ez
 | jk=>simp [AV.one] at ez
 | ro k rows=>obtain ⟨a,n,c,hx⟩:=hd.slice (by simp);rw [hx];rfl
 | em T k rows=>obtain ⟨a,n,c,hx⟩:=hd.slice (by simp);rw [hx];rfl
 | ag l=>simp [AV.one] at ez
 | tu l=>simp [AV.one] at ez
 | pb T l=>generalize (X i)[j]=z at hd;cases hd;rfl
def aW (rows:List (List DV)):Prop:=(rows.all fun r=>r.all fun c=>AV.one (.d c))=true
def p4 (M:List aj) (e k:Nat):AV→Option (Option Nat×Nat×List (List DV))
 | .sl u n=>(match M[u]? with | some (.rw e' k' rows)=>bif e.beq e'&&k.beq k' then some (some u,n,rows) else none | _=>none)
 | .d (.v (.slice none 0 0))=>some (none,0,[])
 | _=>none
def p5 (M:List aj) (k:Nat):AV→Option (Option Nat×Nat×List (List DV))
 | .sl v m=>(match M[v]? with | some (.rw _ k' rows)=>bif k.beq k' then some (some v,m,rows) else none | _=>none)
 | .d (.ro k' rows)=>bif k.beq k' then some (none,rows.length,rows) else none
 | .d (.v (.slice _ 0 _))=>some (none,0,[])
 | _=>none
def gJ (mv:List Nat):AV→Bool
 | .d _=>true
 | .sl u _=>!(mv.elem u)
 | .sb u _ _ _=>!(mv.elem u)
 | .sf u _ _ _ _=>!(mv.elem u)
 | .pt u _=>!(mv.elem u)
 | .mv u=>!(mv.elem u)
 | .yl u=>!(mv.elem u)
 | .ep u _ _ _=>!(mv.elem u)
 | .rp _ _=>true
 | .bt _=>true
 | .uk=>true
 | _=>false
def jn (mv:List Nat):AV→Bool
 | .fn _ l=>l.all (gJ mv)
 | .fm _ l=>l.all (gJ mv)
 | .ag l=>l.all (gJ mv)
 | .tu l=>l.all (gJ mv)
 | c=>gJ mv c
theorem mQ {K:World→Prop} {β aE:Beta} {mv:List Nat} (e:ib mv β aE) {v:AV} (hc:gJ mv v=true) {y:Value} (r:az K β v y):az K aE v y:=by
 cases r with
 | d h=>exact .d h
 | sl h=>refine .sl (e _ _ ?_ h);intro hm;simp [gJ,hm] at hc
 | sb h=>refine .sb (e _ _ ?_ h);intro hm;simp [gJ,hm] at hc
 | sf h h1 h2 h3=>refine .sf (e _ _ ?_ h) h1 h2 h3;intro hm;simp [gJ,hm] at hc
 | pt h=>refine .pt (e _ _ ?_ h);intro hm;simp [gJ,hm] at hc
 | mv h=>refine .mv (e _ _ ?_ h);intro hm;simp [gJ,hm] at hc
 | yl h=>refine .yl (e _ _ ?_ h);intro hm;simp [gJ,hm] at hc
 | ep h=>refine .ep (e _ _ ?_ h);intro hm;simp [gJ,hm] at hc
 | rp a X hl km hr=>exact .rp a X hl km hr
 | bt hd hn=>exact .bt hd hn
 | uk hu=>exact .uk hu
 | fn=>simp [gJ] at hc
 | fm=>simp [gJ] at hc
 | ag=>simp [gJ] at hc
 | tu=>simp [gJ] at hc
theorem qK {K:World→Prop} {β aE:Beta} {mv:List Nat} (e:ib mv β aE) {v:AV} (hc:jn mv v=true) {y:Value} (r:az K β v y):az K aE v y:=by
 have key:∀ {l:List AV} {ys:List Value},l.all (gJ mv)=true→(∀ (j:Nat) c y,l[j]?=some c→ys[j]?=some y→az K β c y)→∀ (j:Nat) c y,l[j]?=some c→ys[j]?=some y→az K aE c y:=by
  intro l ys ha h j c y h1 h2
  exact mQ e (List.all_eq_true.1 ha c (List.mem_of_getElem? h1)) (h j c y h1 h2)
 cases r with
 | fn ys hl hr=>exact .fn ys hl (key hc hr)
 | fm ys hl hr=>exact .fm ys hl (key hc hr)
 | ag ys hl hr=>exact .ag ys hl (key hc hr)
 | tu ys hl hr=>exact .tu ys hl (key hc hr)
 | d h=>exact .d h
 | sl h=>exact mQ (v:=.sl _ _) e hc (.sl h)
 | sb h=>exact mQ (v:=.sb _ _ _ _) e hc (.sb h)
 | sf h h1 h2 h3=>exact mQ (v:=.sf _ _ _ _ _) e hc (.sf h h1 h2 h3)
 | pt h=>exact mQ (v:=.pt _ _) e hc (.pt h)
 | mv h=>exact mQ (v:=.mv _) e hc (.mv h)
 | yl h=>exact mQ (v:=.yl _) e hc (.yl h)
 | ep h=>exact mQ (v:=.ep _ _ _ _) e hc (.ep h)
 | rp a X hl km hr=>exact .rp a X hl km hr
 | bt hd hn=>exact .bt hd hn
 | uk hu=>exact .uk hu
def iC (mv:List Nat):aj→aj
 | .bx T cs=>.bx T (cs.map fun c=>bif jn mv c then c else .d .jk)
 | .rw T k rows=>.rw T k rows
 | .tw a c T k rows=>.tw a c T k rows
 | .mp T c es=>.mp T c es
 | .mu T c es=>.mu T c es
 | .it (some v) a s c=>bif mv.elem v then .it none a s c else .it (some v) a s c
 | .it none a s c=>.it none a s c
 | .lp b f sz E rf=>.lp b f sz (E.map fun x=>(x.1,bif jn mv x.2 then x.2 else .d .jk)) rf
 | .nm v b=>bif mv.elem v then .dead else .nm v b
 | .gw g row=>.gw g row
 | .il (some v) s l c=>bif mv.elem v then .il none s l c else .il (some v) s l c
 | .il none s l c=>.il none s l c
 | .fl T k m cs=>.fl T k m (cs.map fun c=>bif jn mv c then c else .d .jk)
 | .mf T c es=>.mf T c (es.map fun e=>(e.1,e.2.1,bif jn mv e.2.2 then e.2.2 else .d .jk))
 | .dead=>.dead
theorem bB.kill {K:World→Prop} {β aE:Beta} {mv:List Nat} (e:ib mv β aE) {u:Nat} (hu:u ∉ mv) {blk:aj} {H:aq} (r:bB K β u blk H):bB K aE u (iC mv blk) H:=by
 cases r with
 | dead=>exact .dead u
 | bx hb ys hl hr=>
  refine .bx (e _ _ hu hb) ys (by rw [List.length_map];exact hl) fun j c y h1 h2=>?_
  rw [List.getElem?_map,Option.map_eq_some_iff] at h1
  obtain ⟨c',h1,rfl⟩:=h1
  cases hc:jn mv c' with
  | true=>exact qK e hc (hr j c' y h1 h2)
  | false=>exact .d (.jk _)
 | rw hb X G hl hs hr=>exact .rw (e _ _ hu hb) X G hl hs hr
 | tw hb X G hl hs hr=>exact .tw (e _ _ hu hb) X G hl hs hr
 | gw X hl hc hr=>exact .gw X hl hc hr
 | @nm v b c hb=>
  cases hv:mv.elem v with
  | true=>simp only [iC,hv,cond_true];exact .dead u
  | false=>simp only [iC,hv,cond_false];exact .nm (e _ _ (by simpa using hv) hb)
 | fl hb ys hl hm zm hr=>
  refine .fl (e _ _ hu hb) ys hl (by rw [List.length_map];exact hm) zm fun j c y h1 h2=>?_
  rw [List.getElem?_map,Option.map_eq_some_iff] at h1
  obtain ⟨c',h1,rfl⟩:=h1
  cases hc:jn mv c' with
  | true=>exact qK e hc (hr j c' y h1 h2)
  | false=>exact .d (.jk _)
 | @mf _ _ Tm zn zo hb vs hl hr=>
  have hh:=bB.mf (K:=K) (T:=Tm) (ck:=zn) (u:=u) (e _ _ hu hb) vs (by rw [List.length_map];exact hl) (es:=List.map (fun (e:Nat×MK×AV)=>(e.1,e.2.1,bif jn mv e.2.2 then e.2.2 else AV.d .jk)) zo) (fun j c y h1 h2=>by
   rw [List.getElem?_map,Option.map_eq_some_iff] at h1
   obtain ⟨c',h1,rfl⟩:=h1
   dsimp only
   cases hc:jn mv c'.2.2 with
   | true=>exact qK e hc (hr j c' y h1 h2)
   | false=>exact .d (.jk _))
  rw [vH (fun (e:Nat×MK×AV)=>(e.1,e.2.1,bif jn mv e.2.2 then e.2.2 else AV.d .jk)) (fun _=>⟨rfl,rfl⟩)] at hh
  exact hh
 | mp hb vs G hl hr=>exact .mp (e _ _ hu hb) vs G hl hr
 | mu jd hp hn aO hb vs G hl hr=>exact .mu jd hp hn aO (e _ _ hu hb) vs G hl hr
 | lp hb bJ hr=>
  refine .lp (e _ _ hu hb) bJ fun x hx=>?_
  obtain ⟨x0,iu,rfl⟩:=List.mem_map.1 hx
  cases hc:jn mv x0.2 with
  | true=>simp only [hc,cond_true];exact qK e hc (hr x0 iu)
  | false=>simp only [hc,cond_false];exact .d (.jk _)
 | @il b bm c since last ck um seen hb hm=>
  cases um with
  | none=>exact .il (bm:=bm) (seen:=seen) (e _ _ hu hb) (fun v hv=>by cases hv)
  | some v=>
   cases hv:mv.elem v with
   | true=>
    have e1:iC mv (.il (some v) since last ck)=.il none since last ck:=by simp only [iC,hv,cond_true]
    rw [e1]
    exact .il (bm:=bm) (seen:=seen) (e _ _ hu hb) (fun v hv=>by cases hv)
   | false=>
    have e1:iC mv (.il (some v) since last ck)=.il (some v) since last ck:=by simp only [iC,hv,cond_false]
    rw [e1]
    refine .il (bm:=bm) (seen:=seen) (e _ _ hu hb) (fun v' iH=>?_)
    cases iH
    obtain ⟨c',h'⟩:=hm v rfl
    exact ⟨c',e _ _ (fun iv=>by simp [iv] at hv) h'⟩
 | @it b bm c since ck um seen hb hm=>
  cases um with
  | none=>exact .it (bm:=bm) (e _ _ hu hb) (fun v hv=>by cases hv)
  | some v=>
   cases hv:mv.elem v with
   | true=>
    have e1:iC mv (.it (some v) since seen ck)=.it none since seen ck:=by simp only [iC,hv,cond_true]
    rw [e1]
    exact .it (bm:=bm) (e _ _ hu hb) (fun v hv=>by cases hv)
   | false=>
    have e1:iC mv (.it (some v) since seen ck)=.it (some v) since seen ck:=by simp only [iC,hv,cond_false]
    rw [e1]
    refine .it (bm:=bm) (e _ _ hu hb) (fun v' iH=>?_)
    cases iH
    obtain ⟨c',h'⟩:=hm v rfl
    exact ⟨c',e _ _ (fun iv=>by simp [iv] at hv) h'⟩
theorem bN.move {X Y:aq} (R:bN D w0 K0 M β F I X w) {w':World} (st:St D w0 w' ((List.range M.length).flatMap F++(I++Y))):bN D w0 K0 M β F I Y w':=⟨R.len,R.blk,st⟩
theorem Bc (β:Beta) (u:Nat) (q:Option Addr×Nat):ib [u] β (β.set u q):=by
 intro v x hv hx
 rw [List.getElem?_set,if_neg (fun e=>hv (by simp [e]))];exact hx
theorem bN.renew {X Y:aq} (R:bN D w0 K0 M β F I (X++Y) w) {u:Nat} (hu:u<M.length) (hF:F u=[]) {q:Option Addr×Nat} {blk:aj} (hb:bB (fun w=>K0 w∧Holds w I) (β.set u q) u blk X):
  bN D w0 K0 ((M.map (iC [u])).set u blk) (β.set u q) (aM F u X) I Y w where
 len:=by rw [List.length_set,List.length_set,List.length_map];exact R.len
 blk:=by
  intro v bl hv
  rw [List.getElem?_set] at hv
  by_cases e:u=v
  ·subst e
   simp only [List.length_map,hu,if_pos,Option.some.injEq] at hv;subst hv
   simpa [aM] using hb
  ·rw [if_neg e,List.getElem?_map,Option.map_eq_some_iff] at hv
   obtain ⟨b0,h1,rfl⟩:=hv
   have:aM F u X v=F v:=by simp only [aM];rw [if_neg (fun h=>e h.symm)]
   rw [this]
   exact (R.blk v b0 h1).kill (Bc β u q) (by simp;exact fun h=>e h.symm)
 st:=by
  have hs:=R.st
  rw [List.length_set,List.length_map,range_split hu]
  rw [range_split hu,hF] at hs
  have c1:(List.range u).flatMap (aM F u X)=(List.range u).flatMap F:=fN fun a ha=>by have:=List.mem_range.1 ha;simp [aM];omega
  have c2:(List.range' (u+1) (M.length-(u+1))).flatMap (aM F u X)=(List.range' (u+1) (M.length-(u+1))).flatMap F:=fN fun a ha=>by have:=(List.mem_range'_1.1 ha).1;simp [aM];omega
  have iq:aM F u X u=X:=by simp [aM]
  rw [c1,c2,iq]
  exact hs.perm (by classical rw [List.perm_iff_count];intro z;simp only [List.count_append,List.count_nil];omega)
def uf (n m b:Nat) (b7:List (List DV)):List Prop:=[(2*(n+m)+192)*b≤281474976710656,n+m<4611686018427387904,aW b7]
def yJ (T:aN) (E:List (Nat×AV)) (M:List aj) (st xt:TypeId) (x y:Operand):Option Out:=
 match jB T st,dv T xt,aJ E x,aJ E y with
 | some (e,k,b,_),some (.sl e'),some vx,some vy=>bif e.beq e' then (match p4 M e k vx,p5 M k vy with
  | some (some u,n,rows),some (none,m,b7)=>some ⟨[n=rows.length]++uf n m b b7,.sl u (n+m),(M.map (iC [u])).set u (.rw e k (rows++b7)),[u],[u],none⟩
  | some (none,_,_),some (none,m,b7)=>some ⟨uf 0 m b b7,.sl M.length m,M++[.rw e k b7],[],[],none⟩
  | some (some u,n,rows),some (some v,m,b7)=>bif !(u.beq v) then some ⟨[n=rows.length,m=b7.length]++uf n m b b7,.sl u (n+m),((M.set v .dead).map (iC [u])).set u (.rw e k (rows++b7)),[u,v],[u],none⟩ else none
  | some (none,_,_),some (some v,m,b7)=>some ⟨[m=b7.length]++uf 0 m b b7,.sl M.length m,(M.set v .dead)++[.rw e k b7],[v],[],none⟩
  | _,_=>none) else none
 | _,_,_,_=>none
theorem vq {e k u n:Nat} {rows:List (List DV)} {v:AV} (h:p4 M e k v=some (some u,n,rows)):v=.sl u n∧M[u]?=some (.rw e k rows):=by
 unfold p4 at h
 split at h
 ·rename_i u' n'
  split at h
  ·rename_i e' k' rows' hM
   cases hb:(e.beq e'&&k.beq k') with
   | false=>simp [hb] at h
   | true=>
    simp only [hb,cond_true,Option.some.injEq,Prod.mk.injEq] at h
    obtain ⟨rfl,rfl,rfl⟩:=h
    simp only [Bool.and_eq_true] at hb
    obtain rfl:=Nat.eq_of_beq_eq_true hb.1
    obtain rfl:=Nat.eq_of_beq_eq_true hb.2
    exact ⟨rfl,hM⟩
  ·simp at h
 ·simp at h
 ·simp at h
theorem vr {e k n:Nat} {rows:List (List DV)} {v:AV} (h:p4 M e k v=some (none,n,rows)):v=.d (.v (.slice none 0 0)):=by
 unfold p4 at h
 split at h
 ·split at h
  ·rename_i e' k' rows' hM
   cases hb:(e.beq e'&&k.beq k')<;>simp [hb] at h
  ·simp at h
 ·rfl
 ·simp at h
theorem AP {k u m:Nat} {rows:List (List DV)} {v:AV} (h:p5 M k v=some (some u,m,rows)):v=.sl u m∧∃ T,M[u]?=some (.rw T k rows):=by
 unfold p5 at h
 split at h
 ·split at h
  ·rename_i T k' rows' hM
   cases hb:k.beq k' with
   | false=>simp [hb] at h
   | true=>
    simp only [hb,cond_true,Option.some.injEq,Prod.mk.injEq] at h
    obtain ⟨rfl,rfl,rfl⟩:=h
    obtain rfl:=Nat.eq_of_beq_eq_true hb
    exact ⟨rfl,T,hM⟩
  ·simp at h
 ·rename_i k' rows'
  cases hb:k.beq k'<;>simp [hb] at h
 ·simp at h
 ·simp at h
theorem vt {k m:Nat} {rows:List (List DV)} {v:AV} (h:p5 M k v=some (none,m,rows)):(v=.d (.ro k rows)∨rows=[]∧∃ a c,v=.d (.v (.slice a 0 c)))∧m=rows.length:=by
 unfold p5 at h
 split at h
 ·split at h
  ·rename_i T k' rows' hM
   cases hb:k.beq k'<;>simp [hb] at h
  ·simp at h
 ·rename_i k' rows'
  cases hb:k.beq k' with
  | false=>simp [hb] at h
  | true=>
   simp only [hb,cond_true,Option.some.injEq,Prod.mk.injEq] at h
   obtain ⟨-,rfl,rfl⟩:=h
   obtain rfl:=Nat.eq_of_beq_eq_true hb
   exact ⟨Or.inl rfl,rfl⟩
 ·simp only [Option.some.injEq,Prod.mk.injEq] at h
  obtain ⟨-,rfl,rfl⟩:=h
  exact ⟨Or.inr ⟨rfl,_,_,rfl⟩,rfl⟩
 ·simp at h
theorem we (hT:bc P T=true) {st xt e k b:Nat} {z:List Value} (he:jB T st=some (e,k,b,z)) {x y:Operand} {v u':Value} {n m u:Nat} {H0 L1 S:aq} {rows b7:List (List DV)} {X1 X2:Nat→List Value} {G1 G2:Nat→Nat→aq}
  (mz:ρ x=v) (zp:ρ y=u') (R:bN D w0 K0 M β F I ((H0++L1)++S) w) (hu:u<M.length) (hF:F u=[])
  (hs:eQ e k v n (lay n X1) H0) (hn:n=rows.length) (hm:m=b7.length) (a1:dU (fun w=>K0 w∧Holds w I) k rows X1 G1) (hL:L1=bL n k G1) (a2:dU (fun w=>K0 w∧Holds w I) k b7 X2 G2) (hS:S=bL m k G2) (ie:lf P xt w k u' m (lay m X2))
  (rA:(2*(n+m)+192)*b≤281474976710656) (ua:n+m<4611686018427387904) (ez:aW b7):
  a8 P ⟨d,.call ⟨.builtin .append,#[x,y],#[st,xt]⟩,ty,pos,aft,gd⟩ ρ w fun v' w'=>∃ aE F',RM D w0 K0 ((M.map (iC [u])).set u (.rw e k (rows++b7))) aE F' I w'∧ib [u] β aE∧(∀ x,x≠u→F' x=F x)∧az (fun w=>K0 w∧Holds w I) aE (.sl u (n+m)) v':=by
 obtain ⟨zv,ok,-,-⟩:=lg hT he
 subst hn hm
 have bC:St D w0 w (H0++(L1++(S++((List.range M.length).flatMap F++I)))):=R.st.perm (by classical rw [List.perm_iff_count];intro z;simp only [List.count_append];omega)
 refine AK ok mz zp bC hs ie (a2.one ez) rA ua fun v' w' H' fk zq=>?_
 obtain ⟨a,c,rfl⟩:=fk.len
 have aa:=a1.app a2
 have nu:=po rows.length b7.length X1 X2
 rw [← nu] at fk
 have Oq:=qS rows.length b7.length k G1 G2
 have hq:(β.set u (a,c))[u]?=some (a,c):=by rw [List.getElem?_set];simp [R.len,hu]
 have hb:bB (fun w=>K0 w∧Holds w I) (β.set u (a,c)) u (.rw e k (rows++b7)) (H'++bL (rows++b7).length k (fun i=>if i<rows.length then G1 i else G2 (i-rows.length))):=
  .rw hq _ _ aa.hl (by rw [List.length_append];exact fk) aa.hr
 rw [List.length_append,Oq,← hL,← hS] at hb
 have R2:bN D w0 K0 M β F I ((H'++(L1++S))++[]) w':=R.move (zq.perm (by classical rw [List.perm_iff_count];intro z;simp only [List.count_append,List.count_nil];omega))
 have R3:=R2.renew hu hF hb
 exact ⟨_,_,R3.nil rfl,Bc β u _,fun x hx=>by simp only [aM];rw [if_neg hx],.sl hq⟩
theorem wg (hT:bc P T=true) {st xt e k b:Nat} {z:List Value} (he:jB T st=some (e,k,b,z)) {x y:Operand} {u':Value} {m:Nat} {S:aq} {b7:List (List DV)} {X2:Nat→List Value} {G2:Nat→Nat→aq}
  (mz:ρ x=.slice none 0 0) (zp:ρ y=u') (R:bN D w0 K0 M β F I S w) (hm:m=b7.length) (a2:dU (fun w=>K0 w∧Holds w I) k b7 X2 G2) (hS:S=bL m k G2) (ie:lf P xt w k u' m (lay m X2))
  (rA:(2*(0+m)+192)*b≤281474976710656) (ua:0+m<4611686018427387904) (ez:aW b7):
  a8 P ⟨d,.call ⟨.builtin .append,#[x,y],#[st,xt]⟩,ty,pos,aft,gd⟩ ρ w fun v' w'=>∃ aE F',RM D w0 K0 (M++[.rw e k b7]) aE F' I w'∧Ext β aE∧(∀ x,x<M.length→F' x=F x)∧az (fun w=>K0 w∧Holds w I) aE (.sl M.length m) v':=by
 obtain ⟨zv,ok,-,-⟩:=lg hT he
 subst hm
 have bC:St D w0 w ([]++(S++((List.range M.length).flatMap F++I))):=R.st.perm (by classical rw [List.perm_iff_count];intro z;simp only [List.count_append,List.nil_append];omega)
 refine AK ok mz zp bC (eQ.nil e k none) ie (a2.one ez) rA ua fun v' w' H' fk zq=>?_
 obtain ⟨a,c,rfl⟩:=fk.len
 rw [List.nil_append,Nat.zero_add] at fk
 rw [Nat.zero_add]
 have hq:(β++[(a,c)])[M.length]?=some (a,c):=by rw [← R.len];simp
 have hb:bB (fun w=>K0 w∧Holds w I) (β++[(a,c)]) M.length (.rw e k b7) (H'++bL b7.length k G2):=.rw hq _ _ a2.hl fk a2.hr
 rw [← hS] at hb
 have R2:bN D w0 K0 M β F I ((H'++S)++[]) w':=R.move (zq.perm (by classical rw [List.perm_iff_count];intro z;simp only [List.count_append,List.count_nil];omega))
 have R3:=R2.take hb
 exact ⟨_,_,R3.nil rfl,Ext.app _ _,fun x hx=>by simp [aM];omega,.sl hq⟩
theorem u9 {u:Nat} {f:aj→aj} {b b':aj}:((M.set u b).map f).set u b'=(M.map f).set u b':=by rw [List.map_set,List.set_set]
theorem mU (R:RM D w0 K0 M β F I w) {u n e k:Nat} {rows:List (List DV)} (hM:M[u]?=some (.rw e k rows)) (hn:n=rows.length) {y:Value} (r:az (fun w=>K0 w∧Holds w I) β (.sl u n) y):
  ∃ X G H0,F u=H0++bL n k G∧eQ e k y n (lay n X) H0∧dU (fun w=>K0 w∧Holds w I) k rows X G∧Holds w H0:=by
 subst hn
 obtain ⟨H,hF,hB,hH⟩:=R.at hM
 cases r with
 | sl hb=>
  cases hB with
  | rw aQ X G hl hs hr=>
   rw [hb] at aQ;cases aQ
   exact ⟨X,G,_,hF,hs,⟨hl,hr⟩,(Holds.app.1 hH).1⟩
theorem BN {K:World→Prop} (hk:K w) {k:Nat} {rows:List (List DV)} {y:Value} (r:az K β (.d (.ro k rows)) y):∃ X,dU K k rows X (fun _ _=>[])∧Src w k y rows.length (lay rows.length X):=by
 cases r with | d r=>cases r with | ro X hl hy hs hr=>exact ⟨X,⟨hl,hr⟩,hs w hk⟩
theorem vL {K:World→Prop} (hk:K w) {k:Nat} {rows:List (List DV)} {v:AV} (hv:v=.d (.ro k rows)∨rows=[]∧∃ a c,v=.d (.v (.slice a 0 c))) {y:Value} (r:az K β v y):∃ X,dU K k rows X (fun _ _=>[])∧Src w k y rows.length (lay rows.length X):=by
 rcases hv with rfl | ⟨rfl,a,c,rfl⟩
 ·exact BN hk r
 ·cases r with | d r=>cases r;exact ⟨fun _=>[],⟨by simp,by simp⟩,by simp [lay],Or.inl ⟨rfl,a,c,rfl⟩⟩
theorem Jo (hT:bc P T=true) {st xt:TypeId} {x y:Operand} (h:yJ T E M st xt x y=some out):aK P ⟨d,.call ⟨.builtin .append,#[x,y],#[st,xt]⟩,ty,pos,aft,gd⟩ E M out:=by
 unfold yJ at h
 split at h
 ·rename_i e k b z e' vx vy he hu hx hy
  cases zr:e.beq e' with
  | false=>simp [zr] at h
  | true=>
   simp only [zr,cond_true] at h
   obtain rfl:=Nat.eq_of_beq_eq_true zr
   split at h
   ·rename_i u n rows m b7 hd hs
    simp only [Option.some.injEq] at h;subst h
    obtain ⟨rfl,hM⟩:=vq hd
    obtain ⟨r7,hm⟩:=vt hs
    intro D w0 K0 β F I ρ w C hv
    obtain ⟨hn,h1,h2,h3,-⟩:=hv
    obtain ⟨X1,G1,H0,hF,eU,a1,-⟩:=mU C.rm hM hn (C.ev hx)
    obtain ⟨X2,a2,ie⟩:=vL C.now r7 (C.ev hy)
    subst hm
    have R1:=C.rm.x.fS hM
    rw [hF,List.nil_append] at R1
    have aO:u<(M.set u .dead).length:=by rw [List.length_set];exact fK hM
    refine (we hT he rfl rfl (R1.perm (Y:=(H0++bL n k G1)++[]) (by rw [List.append_nil])) aO (by simp [aM]) eU hn rfl a1 rfl a2 (by rw [lU]) (ie.app (c8 hT hu)) h1 h2 h3).mono ?_
    rintro v' w' ⟨aE,F',R',hE,kn,hr⟩
    rw [u9] at R'
    exact ⟨aE,F',I,R',hE,bU.refl _,fun q _ hq=>by have qk:q≠u:=(by simpa using hq);rw [kn q qk];simp only [aM];rw [if_neg qk],hr⟩
   ·rename_i n0 r0 m b7 hd hs
    simp only [Option.some.injEq] at h;subst h
    obtain rfl:=vr hd
    obtain ⟨r7,hm⟩:=vt hs
    intro D w0 K0 β F I ρ w C hv
    obtain ⟨h1,h2,h3,-⟩:=hv
    obtain ⟨X2,a2,ie⟩:=vL C.now r7 (C.ev hy)
    subst hm
    have mz:ρ x=.slice none 0 0:=by have:=C.ev hx;generalize ρ x=q at this;cases this with | d r=>cases r;rfl
    refine (wg hT he mz rfl C.rm.x rfl a2 (by rw [lU]) (ie.app (c8 hT hu)) h1 h2 h3).mono ?_
    rintro v' w' ⟨aE,F',R',hE,kn,hr⟩
    exact ⟨aE,F',I,R',hE.b _,bU.refl _,fun q hq _=>kn q hq,hr⟩
   ·rename_i u n rows v m b7 hd hs
    cases r8:u.beq v with
    | true=>simp [r8] at h
    | false=>
     simp only [r8,Bool.not_false,cond_true,Option.some.injEq] at h;subst h
     have kl:u≠v:=fun e=>by subst e;simp at r8
     obtain ⟨rfl,hM⟩:=vq hd
     obtain ⟨rfl,T2,nK⟩:=AP hs
     intro D w0 K0 β F I ρ w C hv
     obtain ⟨hn,hm,h1,h2,h3,-⟩:=hv
     obtain ⟨X1,G1,H0,hF,eU,a1,-⟩:=mU C.rm hM hn (C.ev hx)
     obtain ⟨X2,G2,H2,lJ,yK,a2,r9⟩:=mU C.rm nK hm (C.ev hy)
     have ie:=yK.src r9
     have R1:=C.rm.x.fS nK
     have Ot:(M.set v .dead)[u]?=some (.rw e k rows):=by rw [List.getElem?_set,if_neg (fun e=>kl e.symm)];exact hM
     have R2:=R1.fS Ot
     have j3:aM F v [] u=F u:=by simp only [aM];rw [if_neg kl]
     rw [j3,hF,lJ,List.nil_append] at R2
     have R3:=(R2.perm (Y:=(H0++bL n k G1)++(bL m k G2)++H2) (by classical rw [List.perm_iff_count];intro z;simp only [List.count_append];omega)).drop
     have aO:u<((M.set v .dead).set u .dead).length:=by rw [List.length_set,List.length_set];exact fK hM
     refine (we hT he rfl rfl R3 aO (by simp [aM]) eU hn hm a1 rfl a2 rfl (ie.app (c8 hT hu)) h1 h2 h3).mono ?_
     rintro v' w' ⟨aE,F',R',hE,kn,hr⟩
     rw [u9] at R'
     refine ⟨aE,F',I,R',hE,bU.refl _,fun q _ hq=>?_,hr⟩
     simp only [List.mem_cons,List.not_mem_nil,or_false,not_or] at hq
     rw [kn q hq.1];simp only [aM];rw [if_neg hq.1,if_neg hq.2]
   ·rename_i n0 r0 v m b7 hd hs
    simp only [Option.some.injEq] at h;subst h
    obtain rfl:=vr hd
    obtain ⟨rfl,T2,nK⟩:=AP hs
    intro D w0 K0 β F I ρ w C hv
    obtain ⟨hm,h1,h2,h3,-⟩:=hv
    obtain ⟨X2,G2,H2,lJ,yK,a2,r9⟩:=mU C.rm nK hm (C.ev hy)
    have ie:=yK.src r9
    have R1:=C.rm.x.fS nK
    rw [lJ,List.nil_append] at R1
    have R3:=(R1.perm (Y:=bL m k G2++H2) List.perm_append_comm).drop
    have mz:ρ x=.slice none 0 0:=by have:=C.ev hx;generalize ρ x=q at this;cases this with | d r=>cases r;rfl
    refine (wg hT he mz rfl R3 hm a2 rfl (ie.app (c8 hT hu)) h1 h2 h3).mono ?_
    rintro v' w' ⟨aE,F',R',hE,kn,hr⟩
    rw [List.length_set] at hr kn
    refine ⟨aE,F',I,R',hE.b _,bU.refl _,fun q hq Ou=>?_,hr⟩
    rw [kn q hq];simp only [aM];rw [if_neg (by simpa using Ou)]
   ·simp at h
 ·simp at h
end Go.Proofs.YtcnpikbbmbombaaGreatDoor
namespace Go.Proofs.YtcnpikbbmbombaaGreatDoor
open Go.RowKit
variable {P:Program} {T:aN} {D:List Nat} {w0:World} {K0:World→Prop} {E:List (Nat×AV)} {M:List aj} {β:Beta} {F:Nat→aq} {I X:aq} {ρ:Operand→Value} {w:World}
variable {d:Option Tmp} {ty:TypeId} {pos:String} {aft:Array Edge} {gd:Option (Nat×Bool)} {oc:Option a7} {out:Out}
def yL:AV→List Nat
 | .sl u _=>[u]
 | _=>[]
def p6:List AV→List Nat
 | []=>[]
 | c::r=>yL c++p6 r
theorem Jp (R:bN D w0 K0 M β F I X w) {c:AV} {vc:List Prop} {x:DV} {M':List aj} (h:pR M c=some (vc,x,M')) (hv:bn vc) {y:Value} (r:az (fun w=>K0 w∧Holds w I) β c y):
  M'.length=M.length∧∃ F' H,bN D w0 K0 M' β F' I (X++H) w∧bV (fun w=>K0 w∧Holds w I) x y H∧∀ u,u ∉ yL c→F' u=F u:=by
 unfold pR at h
 split at h
 ·simp only [Option.some.injEq,Prod.mk.injEq] at h;obtain ⟨rfl,rfl,rfl⟩:=h
  cases r with | d r=>exact ⟨rfl,F,[],by rw [List.append_nil];exact R,r,fun _ _=>rfl⟩
 ·rename_i u n
  split at h
  ·rename_i Tt k rows hM
   simp only [Option.some.injEq,Prod.mk.injEq] at h;obtain ⟨rfl,rfl,rfl⟩:=h
   obtain ⟨rfl,-⟩:=hv
   cases r with
   | sl hb=>
    have R':=R.fS hM
    have hB:=R.blk u _ hM
    refine ⟨by rw [List.length_set],_,F u,R',?_,fun v hv=>by simp only [aM];rw [if_neg (by simpa [yL] using hv)]⟩
    generalize F u=G0 at hB ⊢
    cases hB with
    | rw aQ X G hl hs hr=>rw [hb] at aQ;cases aQ;exact .em X G hl hs hr
  ·simp at h
 ·simp at h
theorem tg:∀ {l:List AV} {M:List aj} {F:Nat→aq} {X:aq} {vc:List Prop} {xs:List DV} {M':List aj},bN D w0 K0 M β F I X w→kH M l=some (vc,xs,M')→bn vc→∀ {ys:List Value},ys.length=l.length→(∀ (j:Nat) c y,l[j]?=some c→ys[j]?=some y→az (fun w=>K0 w∧Holds w I) β c y)→
  M'.length=M.length∧∃ F' H,bN D w0 K0 M' β F' I (X++H) w∧gn (fun w=>K0 w∧Holds w I) xs ys H∧∀ u,u ∉ p6 l→F' u=F u
 | [],M,F,X,vc,xs,M',R,h,_,ys,hl,_=>by
  simp only [kH,Option.some.injEq,Prod.mk.injEq] at h;obtain ⟨rfl,rfl,rfl⟩:=h
  have:ys=[]:=List.eq_nil_of_length_eq_zero hl
  subst this
  exact ⟨rfl,F,[],by rw [List.append_nil];exact R,.nil,fun _ _=>rfl⟩
 | c::r,M,F,X,vc,xs,M',R,h,hv,ys,hl,hr=>by
  unfold kH at h
  split at h
  ·rename_i v x M1 h1
   split at h
   ·rename_i v' l' M2 h2
    simp only [Option.some.injEq,Prod.mk.injEq] at h;obtain ⟨rfl,rfl,rfl⟩:=h
    rw [bn.app] at hv
    cases ys with
    | nil=>simp at hl
    | cons y ys=>
     obtain ⟨l1,F1,H1,R1,d1,f1⟩:=Jp R h1 hv.1 (hr 0 c y rfl rfl)
     obtain ⟨l2,F2,H2,R2,d2,f2⟩:=tg R1 h2 hv.2 (ys:=ys) (by simpa using hl) (fun j c' y' e1 e2=>hr (j+1) c' y' (by simpa using e1) (by simpa using e2))
     refine ⟨by omega,F2,H1++H2,by rw [← List.append_assoc];exact R2,.cons d1 d2,fun u hu=>?_⟩
     simp only [p6,List.mem_append,not_or] at hu
     exact (f2 u hu.2).trans (f1 u hu.1)
   ·simp at h
  ·simp at h
def chunk (k:Nat):Nat→List DV→List (List DV)
 | 0,_=>[]
 | n+1,l=>l.take k::chunk k n (l.drop k)
theorem sK (k:Nat):∀ (n:Nat) (l:List DV),(chunk k n l).length=n
 | 0,_=>rfl
 | n+1,l=>by simp [chunk,sK k n]
theorem Bd (k:Nat):∀ (n:Nat) (l:List DV) (i:Nat),i<n→(chunk k n l)[i]?=some ((l.drop (i*k)).take k)
 | 0,_,_,h=>by omega
 | n+1,l,0,_=>by simp [chunk]
 | n+1,l,i+1,h=>by
  simp only [chunk,List.getElem?_cons_succ]
  rw [Bd k n _ i (by omega),List.drop_drop,Nat.succ_mul,Nat.add_comm]
theorem GD (k:Nat) (G:Nat→aq):∀ n,bL n k (fun i j=>G (i*k+j))=(List.range (n*k)).flatMap G:=by
 intro n
 induction n with
 | zero=>simp [bL]
 | succ n ih=>
  have:bL (n+1) k (fun i j=>G (i*k+j))=bL n k (fun i j=>G (i*k+j))++(List.range k).flatMap fun j=>G (n*k+j):=by simp [bL,List.range_succ,List.flatMap_append]
  rw [this,ih,Nat.succ_mul,List.range_add,List.flatMap_append,List.flatMap_map]
theorem GF (k:Nat):∀ (n:Nat) (ys:List Value),ys.length=n*k→lay n (fun i=>(ys.drop (i*k)).take k)=ys:=by
 intro n ys hl
 apply List.ext_getElem?
 intro p
 have hX:∀ i,i<n→((ys.drop (i*k)).take k).length=k:=fun i hi=>by
  have:=Nat.mul_le_mul_right k (show i+1≤n from hi);rw [Nat.succ_mul] at this
  simp;omega
 have iG:=fi hX
 rcases Nat.lt_or_ge p (n*k) with hp | hp
 ·have hk:0<k:=by
   rcases Nat.eq_zero_or_pos k with h0 | h0
   ·subst h0;simp at hp
   ·exact h0
  have hd:p / k<n:=Nat.div_lt_of_lt_mul (by rw [Nat.mul_comm];exact hp)
  have hm:p%k<k:=Nat.mod_lt _ hk
  have hg:=kA hX hd hm
  have e:p / k*k+p%k=p:=by rw [Nat.mul_comm,Nat.div_add_mod]
  rw [e] at hg
  rw [hg,List.getElem?_take,if_pos hm,List.getElem?_drop,e]
 ·rw [List.getElem?_eq_none (by omega),List.getElem?_eq_none (by omega)]
def kN (z:List Value):Nat→List Value
 | 0=>[]
 | n+1=>z++kN z n
theorem vM (z:List Value):∀ n,kN z n=lay n fun _=>z
 | 0=>by simp [kN,lay]
 | n+1=>by
  rw [kN,vM z n]
  simp only [lay,List.range_succ_eq_map,List.flatMap_cons,List.flatMap_map]
def yM (T:aN) (E:List (Nat×AV)) (M:List aj) (t:TypeId) (len:Nat) (parts:Array (Nat×Operand)):Option Out:=
 match jB T t with
 | some (e,k,_,z)=>bif Nat.ble (len*k) 16777216 then (match lr E (fun i=>some (i*k,k)) (lZ (kN z len)) parts.toList with
  | some l=>(match kH M l with
   | some (vc,xs,M')=>some ⟨vc,.sl M.length len,M'++[.rw e k (chunk k len xs)],p6 l,[],none⟩
   | none=>none)
  | none=>none) else none
 | none=>none
theorem Jq (hT:bc P T=true) {t:TypeId} {len:Nat} {parts:Array (Nat×Operand)} (h:yM T E M t len parts=some out):aK P ⟨d,.buildSlice t len parts,ty,pos,aft,gd⟩ E M out:=by
 unfold yM at h
 split at h
 ·rename_i e k b z he
  cases hle:Nat.ble (len*k) 16777216 with
  | false=>simp [hle] at h
  | true=>
   simp only [hle,cond_true] at h
   have hle:=Nat.le_of_ble_eq_true hle
   split at h
   ·rename_i l C4
    split at h
    ·rename_i vc xs M' hp
     simp only [Option.some.injEq] at h;subst h
     obtain ⟨zv,ok,hz,fx⟩:=lg hT he
     intro D w0 K0 β F I ρ w C hv
     obtain ⟨p1,p2⟩:=qJ (K:=fun w=>K0 w∧Holds w I) (β:=β) (kN z len)
     obtain ⟨b8,g1,g2,g3⟩:=sW C (cs:=(kN z len).toArray) C4 (by simpa using p1) (by intro j c y e1 e2;exact p2 j c y e1 (by simpa using e2))
     obtain ⟨lM,F',H,R',dd,hF⟩:=tg C.rm.x hp hv (ys:=b8.toList) (by simpa using g2) (by intro j c y e1 e2;exact g3 j c y e1 (by simpa using e2))
     have lK:(kN z len).length=len*k:=by rw [vM];exact fi fun _ _=>fx
     have eX:∀ (parts:List (Nat×AV)) ,True:=fun _=>trivial
     have ko:xs.length=len*k:=by
      have h1:=dd.len
      have h2:l.length=len*k:=by
       have:∀ {ps:List (Nat×Operand)} {cs r:List AV},lr E (fun i=>some (i*k,k)) cs ps=some r→r.length=cs.length:=by
        intro ps
        induction ps with
        | nil=>intro cs r hh;simp only [lr,Option.some.injEq] at hh;rw [hh]
        | cons q ps ih=>
         intro cs r hh
         obtain ⟨i,x⟩:=q
         unfold lr at hh
         split at hh
         ·rename_i off size v P7 hx
          split at hh
          ·rename_i lv Eh
           cases hb:(lv.length.beq size&&(off+size).ble cs.length) with
           | false=>simp [hb] at hh
           | true=>
            simp only [hb,cond_true] at hh
            simp only [Bool.and_eq_true] at hb
            have e1:=Nat.eq_of_beq_eq_true hb.1
            have e2:=Nat.le_of_ble_eq_true hb.2
            rw [ih hh];simp;omega
          ·simp at hh
         ·simp at hh
       rw [this C4,← p1,lK]
      have h3:b8.toList.length=b8.size:=by simp
      omega
     have cS:b8.toList.length=len*k:=by rw [← ko];exact dd.len
     have PN:b8.size=len*k:=by simpa using cS
     have bJ:∀ w:World,(sizeOf e).run P w=.ok k w:=fun w=>by obtain ⟨i,hi,h1,-⟩:=ok.info;simp [sizeOf,typeInfo,Sem.run_bind,hi,h1]
     have hzero:∀ w:World,(zeroValue e).run P w=.ok zv w:=fun w=>by obtain ⟨i,hi,-,-,h3⟩:=ok.info;simp [zeroValue,typeInfo,Sem.run_bind,hi,h3]
     have cf:∀ (cs:Array Value) (w:World),(newRow e cs).run P w=.ok ⟨w.heap.size,0,none⟩ (w.alloc (.cells cs e)):=by
      intro cs w;simp [newRow,newObj,Sem.run]
     have qj:(parts.map fun (p:Nat×Operand)=>(p.1,ρ p.2)).toList=parts.toList.map fun p=>(p.1,ρ p.2):=by simp
     have Ov:(Array.range (len*k)).map (fun i=>z.toArray[i%z.toArray.size]!)=(kN z len).toArray:=by
      rw [vM,← sX z len k fx]
     have gQ:(Instr.buildSlice t len (parts.map fun (p:Nat×Operand)=>(p.1,ρ p.2))).run P w=.ok (.slice (some ⟨w.heap.size,0,none⟩) len len) (w.alloc (.cells b8 e)):=by
      unfold Instr.buildSlice
      simp only [Sem.run_bind,run_underlying ok.bC,Result.andThen_ok,bJ]
      rw [if_neg (by omega)]
      by_cases h0:len*k=0
      ·have Ny:(kN z len).toArray=#[]:=by
        have:kN z len=[]:=List.eq_nil_of_length_eq_zero (by omega)
        rw [this]
       rw [Ny] at g1
       have Nz:(Array.range (len*k)).map (fun i=>(#[]:Array Value)[i%(#[]:Array Value).size]!)=#[]:=by rw [h0];apply Array.ext<;>simp
       rw [if_pos h0]
       simp only [Sem.run_bind,Sem.run_pure,Result.andThen_ok,Nz,qj,g1,cf]
      ·rw [if_neg h0]
       simp only [Sem.run_bind,Sem.run_pure,Result.andThen_ok,hzero,hz,Ov,qj,g1,cf]
     refine a8.pure (v:=.slice (some ⟨w.heap.size,0,none⟩) len len) (w':=w.alloc (.cells b8 e)) ?_ ?_
     ·simp only [execOp,Sem.run_bind]
      have:(parts.map fun (i,x)=>(i,ρ x))=parts.map fun (p:Nat×Operand)=>(p.1,ρ p.2):=rfl
      rw [this,gQ];rfl
     ·obtain ⟨G,hG,sa⟩:=dd.to
      have R1:bN D w0 K0 M' β F' I (([(w.heap.size,.cells b8 e (0,0))]++H)++[]) (w.alloc (.cells b8 e)):=by
       refine R'.move ?_
       have:=R'.st.new (Gr.alloc w (.cells b8 e)) (dW.alloc w (.cells b8 e))
       exact this.perm (by classical rw [List.perm_iff_count];intro z;simp only [List.count_append,List.count_nil];omega)
      have xQ:M'.length=M.length:=lM
      have hq:(β++[((some ⟨w.heap.size,0,none⟩:Option Addr),len)])[M'.length]?=some (some ⟨w.heap.size,0,none⟩,len):=by rw [← R'.len];simp
      have C5:∀ (i:Nat) r,(chunk k len xs)[i]?=some r→i<len∧r=(xs.drop (i*k)).take k:=by
       intro i r hi
       have aO:i<len:=by have:=(List.getElem?_eq_some_iff.1 hi).1;rwa [sK] at this
       rw [Bd k len xs i aO,Option.some.injEq] at hi
       exact ⟨aO,hi.symm⟩
      have hb:=bB.rw (K:=fun w=>K0 w∧Holds w I) (u:=M'.length) (T:=e) (k:=k) (rows:=chunk k len xs) (H0:=[(w.heap.size,.cells b8 e (0,0))]) hq (fun i=>(b8.toList.drop (i*k)).take k) (fun i j=>G (i*k+j)) (fun i r hi=>by
       obtain ⟨aO,rfl⟩:=C5 i r hi
       have:=Nat.mul_le_mul_right k (show i+1≤len from aO);rw [Nat.succ_mul] at this
       constructor<;>simp<;>omega) (by
        rw [sK,GF k len _ cS]
        exact ⟨cS,Or.inr ⟨w.heap.size,len,b8,rfl,rfl,by simpa using cS,Nat.le_refl _,List.take_of_length_le (by omega)⟩⟩) (fun i r j c x hi h1 h2=>by
       obtain ⟨aO,rfl⟩:=C5 i r hi
       rw [List.getElem?_take] at h1 h2
       split at h1
       ·rename_i hj
        rw [if_pos hj] at h2
        rw [List.getElem?_drop] at h1 h2
        exact sa _ c x h1 h2
       ·simp at h1)
      rw [sK,GD,← ko,← hG] at hb
      have R2:=(R1.take hb).nil rfl
      rw [xQ] at R2 hq
      refine ⟨_,_,I,R2,(Ext.app _ _).b _,bU.refl _,fun u hu hn=>?_,.sl hq⟩
      rw [show aM F' M.length _ u=F' u by simp [aM];omega]
      exact hF u hn
    ·simp at h
   ·simp at h
 ·simp at h
end Go.Proofs.YtcnpikbbmbombaaGreatDoor
