/-
  vsyncAlone_holds, part 1 of 7: merged by program from the texts that it needs.
-/
import Derived.WalkKit
import Derived.Below
import Derived.OrdersIn
import Derived.RangeFuncOwn
import Derived.Maps.Own
import Derived.Deep.LoopGhost
import Derived.Laws.IdiomStrings
import Derived.Lib.SlBytesConst
import Derived.Laws.IdiomRangeMap
import Derived.Laws.Externs
import Derived.Lib.UnsafeStr
import Derived.Lib.Builder
import Derived.Lib.MakeNoZero
import Derived.Test.YtgkdnnmcjjabdaaGreatProg
import Derived.RangeFuncRecord
import Derived.RangeFuncLeaves
import Derived.Deep.Slices
import Derived.ProofKit
import Derived.Carry
import Derived.Test.YtgkdnnmcjjabdaaGreatRows
set_option linter.unusedSimpArgs false
set_option linter.unusedVariables false
set_option linter.unnecessarySimpa false
namespace Go.Proofs.YtgkdnnmcjjabdaaGreat
open Go.RowKit
abbrev Gr (w w':World):Prop:=Below w.heap.size w w'
theorem Gr.refl (w:World):Gr w w:=Below.refl _ _
theorem Gr.trans {a b c:World} (h:Gr a b) (k:Gr b c):Gr a c:=Below.trans h (k.mono h.size)
theorem Gr.drew (w:World):Gr w w.drew:=(Below.refl _ _).drew
theorem jK {w:World} {b:Nat} {o:Obj} (h:w.heap[b]?=some o):b<w.heap.size:=by
 rcases Nat.lt_or_ge b w.heap.size with h' | h'
 ·exact h'
 ·simp [Array.getElem?_eq_none h'] at h
theorem Pm {w:World} {a:Addr} {v:Value} (h:w.cell? a=some v):a.block<w.heap.size:=by
 rcases Nat.lt_or_ge a.block w.heap.size with h' | h'
 ·exact h'
 ·simp [World.cell?,Array.getElem?_eq_none h'] at h
theorem Gr.RJ {w w':World} (h:Gr w w') {a:Addr} {v:Value} (hc:w.cell? a=some v):w'.cell? a=some v:=by
 rw [Below.cell h (Pm hc)];exact hc
theorem Gr.Bk {w w':World} (h:Gr w w') {b:Nat} {o:Obj} (hc:w.heap[b]?=some o):w'.heap[b]?=some o:=by
 rw [h.block b (jK hc)];exact hc
theorem Gr.alloc (w:World) (o:Obj):Gr w (w.alloc o):=(Below.refl _ _).alloc (Nat.le_refl _) _
theorem y6 (w:World) (o:Obj):(w.alloc o).heap[w.heap.size]?=some o:=(MapKept.heap_alloc w o).1
theorem cell_of {w:World} {b:Nat} {c:Array Value} {t:TypeId} {fr:Nat×Nat} (h:w.heap[b]?=some (.cells c t fr)) (i:Nat):w.cell? ⟨b,i,none⟩=c[i]?:=by
 simp [World.cell?,h]
abbrev ah:=List (Nat×Obj)
def keys (H:ah):List Nat:=H.map (·.1)
def ai (w:World) (H:ah):Prop:=∀ x ∈ H,w.heap[x.1]?=some x.2
theorem ai.nil (w:World):ai w []:=by intro x hx;simp at hx
theorem ai.gr {w w':World} {H:ah} (h:ai w H) (g:Gr w w'):ai w' H:=fun x hx=>g.Bk (h x hx)
theorem ai.one {w:World} {b:Nat} {o:Obj} {H:ah} (h:ai w ((b,o)::H)):w.heap[b]?=some o:=h (b,o) (by simp)
theorem ai.tail {w:World} {x:Nat×Obj} {H:ah} (h:ai w (x::H)):ai w H:=fun y hy=>h y (by simp [hy])
theorem ai.app {w:World} {H K:ah}:ai w (H++K)↔ai w H∧ai w K:=by
 constructor
 ·intro h;exact ⟨fun x hx=>h x (by simp [hx]),fun x hx=>h x (by simp [hx])⟩
 ·rintro ⟨h1,h2⟩ x hx
  rcases List.mem_append.1 hx with h | h
  ·exact h1 x h
  ·exact h2 x h
theorem ai.lt {w:World} {H:ah} (h:ai w H) {b:Nat} (hb:b ∈ keys H):b<w.heap.size:=by
 obtain ⟨x,hx,rfl⟩:=List.mem_map.1 hb
 exact jK (h x hx)
structure cQ (w w':World) (H:ah):Prop where
 nd:(keys H).Nodup
 new:∀ b ∈ keys H,w.heap.size≤b
 holds:ai w' H
theorem cQ.nil (w w':World):cQ w w' []:=⟨by simp [keys],by simp [keys],ai.nil _⟩
theorem cQ.alloc (w:World) (o:Obj):cQ w (w.alloc o) [(w.heap.size,o)]:=⟨by simp [keys],by simp [keys],by intro x hx;simp at hx;subst hx;exact y6 w o⟩
theorem cQ.ahead {w0 w w':World} {H:ah} (h:cQ w w' H) (g:Gr w0 w):cQ w0 w' H:=⟨h.nd,fun b hb=>Nat.le_trans g.size (h.new b hb),h.holds⟩
theorem yN {H K:List Nat} (h:H.Nodup) (k:K.Nodup) (d:∀ b ∈ H,b ∉ K):(H++K).Nodup:=by
 rw [List.nodup_append];exact ⟨h,k,fun a ha b hb e=>d a ha (e▸hb)⟩
theorem gV (H K:ah):keys (H++K)=keys H++keys K:=by simp [keys]
theorem cQ.app {w w' gJ:World} {H K:ah} (h:cQ w w' H) (g0:Gr w w') (k:cQ w' gJ K) (g:Gr w' gJ):cQ w gJ (K++H) where
 nd:=by
  rw [gV]
  exact yN k.nd h.nd (fun b hb aE=>by have:=k.new b hb;have:=h.holds.lt aE;omega)
 new:=by
  intro b hb
  rw [gV] at hb
  rcases List.mem_append.1 hb with e | e
  ·exact Nat.le_trans g0.size (k.new b e)
  ·exact h.new b e
 holds:=ai.app.2 ⟨k.holds,h.holds.gr g⟩
structure Kp (D:List Nat) (w0 w:World):Prop where
 os:w.os=w0.os
 tape:w.tape=w0.tape
 output:w.output=w0.output
 size:w0.heap.size≤w.heap.size
 block:∀ b,b<w0.heap.size→b ∉ D→w.heap[b]?=w0.heap[b]?
theorem Kp.refl (D:List Nat) (w:World):Kp D w w:=⟨rfl,rfl,rfl,Nat.le_refl _,fun _ _ _=>rfl⟩
theorem Kp.gr {D:List Nat} {w0 w w':World} (h:Kp D w0 w) (g:Gr w w'):Kp D w0 w':=
 ⟨g.os.trans h.os,g.tape.trans h.tape,g.output.trans h.output,Nat.le_trans h.size g.size,fun b hb hd=>by rw [g.block b (Nat.lt_of_lt_of_le hb h.size)];exact h.block b hb hd⟩
theorem Kp.ID {w0 w:World} (h:Kp [] w0 w):Gr w0 w:=⟨h.os,h.tape,h.output,h.size,fun b hb=>h.block b hb (by simp)⟩
theorem Kp.Bk {D:List Nat} {w0 w:World} (h:Kp D w0 w) {b:Nat} {o:Obj} (hb:w0.heap[b]?=some o) (hd:b ∉ D):w.heap[b]?=some o:=by
 rw [h.block b (jK hb) hd];exact hb
theorem Kp.holds {D:List Nat} {w0 w:World} (h:Kp D w0 w) {H:ah} (hH:ai w0 H) (hd:∀ b ∈ keys H,b ∉ D):ai w H:=
 fun x hx=>h.Bk (hH x hx) (hd x.1 (List.mem_map_of_mem hx))
def bB (w:World) (b:Nat) (o:Obj):World:={ w with heap:=w.heap.setIfInBounds b o }
theorem Fi {w:World} {b:Nat} (o:Obj) (h:b<w.heap.size):(bB w b o).heap[b]?=some o:=by simp [bB,h]
theorem EH {w:World} {b c:Nat} (o:Obj) (h:b≠c):(bB w b o).heap[c]?=w.heap[c]?:=by
 simp [bB,Array.getElem?_setIfInBounds_ne h]
theorem Mq (w:World) (b:Nat) (o:Obj):(bB w b o).heap.size=w.heap.size:=by simp [bB]
theorem LN {w:World} {b i:Nat} {c:Array Value} {t:TypeId} {fr:Nat×Nat} (h:w.heap[b]?=some (.cells c t fr)) (v:Value):w.setCell ⟨b,i,none⟩ v=bB w b (.cells (c.setIfInBounds i v) t fr):=by
 unfold World.setCell bB
 congr 1
 apply Array.ext_getElem?
 intro j
 have hb:=jK h
 rw [Array.getElem?_modify,Array.getElem?_setIfInBounds]
 by_cases e:b=j
 ·subst e
  have hg:w.heap[b]=.cells c t fr:=by rw [Array.getElem?_eq_getElem hb] at h;exact Option.some.inj h
  simp [hb,hg]
 ·simp [e]
structure St (D:List Nat) (w0 w:World) (H:ah):Prop where
 kp:Kp D w0 w
 nd:(keys H).Nodup
 own:∀ b ∈ keys H,w0.heap.size≤b∨b ∈ D
 holds:ai w H
theorem St.start {w:World} {H:ah} (nd:(keys H).Nodup) (h:ai w H):St (keys H) w w H:=⟨Kp.refl _ _,nd,fun _ h=>Or.inr h,h⟩
theorem St.none (w:World):St [] w w []:=⟨Kp.refl _ _,by simp [keys],by simp [keys],ai.nil _⟩
theorem St.gr {D:List Nat} {w0 w w':World} {H:ah} (s:St D w0 w H) (g:Gr w w'):St D w0 w' H:=⟨s.kp.gr g,s.nd,s.own,s.holds.gr g⟩
theorem St.new {D:List Nat} {w0 w w':World} {H K:ah} (s:St D w0 w H) (g:Gr w w') (n:cQ w w' K):St D w0 w' (K++H) where
 kp:=s.kp.gr g
 nd:=by
  rw [gV]
  exact yN n.nd s.nd (fun b hb aE=>by have:=n.new b hb;have:=s.holds.lt aE;omega)
 own:=by
  intro b hb
  rw [gV] at hb
  rcases List.mem_append.1 hb with e | e
  ·exact Or.inl (Nat.le_trans s.kp.size (n.new b e))
  ·exact s.own b e
 holds:=ai.app.2 ⟨n.holds,s.holds.gr g⟩
theorem St.alloc {D:List Nat} {w0 w:World} {H:ah} (s:St D w0 w H) (o:Obj):St D w0 (w.alloc o) ((w.heap.size,o)::H):=s.new (Gr.alloc w o) (cQ.alloc w o)
theorem St.perm {D:List Nat} {w0 w:World} {H K:ah} (s:St D w0 w H) (p:H.Perm K):St D w0 w K:=
 ⟨s.kp,(List.Perm.map (fun x:Nat×Obj=>x.1) p).nodup_iff.1 s.nd,fun b hb=>s.own b ((List.Perm.map (fun x:Nat×Obj=>x.1) p).mem_iff.2 hb),fun x hx=>s.holds x (p.mem_iff.2 hx)⟩
theorem St.je {D:List Nat} {w0 w:World} {H K:ah} (s:St D w0 w (H++K)):St D w0 w K:=
 ⟨s.kp,by have:=s.nd;rw [gV] at this;exact (List.nodup_append.1 this).2.1,fun b hb=>s.own b (by rw [gV];exact List.mem_append.2 (Or.inr hb)),(ai.app.1 s.holds).2⟩
theorem St.rN {D:List Nat} {w0 w:World} {H K:ah} (s:St D w0 w (H++K)):St D w0 w H:=
 ⟨s.kp,by have:=s.nd;rw [gV] at this;exact (List.nodup_append.1 this).1,fun b hb=>s.own b (by rw [gV];exact List.mem_append.2 (Or.inl hb)),(ai.app.1 s.holds).1⟩
theorem St.set {D:List Nat} {w0 w:World} {b:Nat} {o:Obj} {H:ah} (s:St D w0 w ((b,o)::H)) (o':Obj):St D w0 (bB w b o') ((b,o')::H) where
 kp:=by
  refine ⟨s.kp.os,s.kp.tape,s.kp.output,by rw [Mq];exact s.kp.size,fun c hc hd=>?_⟩
  have dD:b≠c:=by
   intro e;subst e
   rcases s.own b (by simp [keys]) with h | h
   ·omega
   ·exact hd h
  rw [EH o' dD];exact s.kp.block c hc hd
 nd:=s.nd
 own:=s.own
 holds:=by
  intro x hx
  rcases List.mem_cons.1 hx with e | e
  ·subst e;exact Fi o' (jK s.holds.one)
  ·have dD:b≠x.1:=by
    intro e2
    have:=s.nd
    simp only [keys,List.map_cons,List.nodup_cons] at this
    exact this.1 (e2▸List.mem_map_of_mem e)
   rw [EH o' dD];exact s.holds.tail x e
theorem St.call {D D':List Nat} {w0 w w':World} {H R K:ah} (s:St D w0 w (H++R)) (hD:D'=keys H) (t:St D' w w' K):St D w0 w' (K++R) where
 kp:=by
  refine ⟨t.kp.os.trans s.kp.os,t.kp.tape.trans s.kp.tape,t.kp.output.trans s.kp.output,Nat.le_trans s.kp.size t.kp.size,fun b hb hd=>?_⟩
  rw [t.kp.block b (Nat.lt_of_lt_of_le hb s.kp.size) ?_]
  ·exact s.kp.block b hb hd
  ·intro aE
   rw [hD] at aE
   rcases s.own b (by rw [gV];exact List.mem_append.2 (Or.inl aE)) with h | h
   ·omega
   ·exact hd h
 nd:=by
  rw [gV]
  have h1:=s.je
  refine yN t.nd h1.nd (fun b hb aE=>?_)
  rcases t.own b hb with h | h
  ·have:=h1.holds.lt aE;omega
  ·rw [hD] at h
   have:=s.nd
   rw [gV] at this
   exact (List.nodup_append.1 this).2.2 b h b aE rfl
 own:=by
  intro b hb
  rw [gV] at hb
  rcases List.mem_append.1 hb with e | e
  ·rcases t.own b e with h | h
   ·exact Or.inl (Nat.le_trans s.kp.size h)
   ·rw [hD] at h;exact s.own b (by rw [gV];exact List.mem_append.2 (Or.inl h))
  ·exact s.own b (by rw [gV];exact List.mem_append.2 (Or.inr e))
 holds:=ai.app.2 ⟨t.holds,t.kp.holds s.je.holds (fun b hb aE=>by
  rw [hD] at aE
  have:=s.nd
  rw [gV] at this
  exact (List.nodup_append.1 this).2.2 b aE b hb rfl)⟩
def IV (w:World) (Φ:Value→ah→Prop):Ending→World→Prop:=fun e w'=>∃ v,e=.returned v∧Gr w w'∧∃ H,Φ v H∧cQ w w' H
structure Sl (n:Nat) (a:Act) (E:List (Nat×Value)):Prop where
 size:a.tmps.size=n
 defers:a.defers=[]
 V6:∀ x ∈ E,a.eval (.tmp x.1)=x.2
theorem uA (a:Act) (d:Nat) (v:Value) (h:d<a.tmps.size):(a.put (some d) v).eval (.tmp d)=v:=by
 simp [Act.put,Act.eval,Array.getD,h]
theorem uw (a:Act) (d s:Nat) (v:Value) (h:d≠s):(a.put (some d) v).eval (.tmp s)=a.eval (.tmp s):=by
 simp only [Act.put,Act.eval,Array.getD_eq_getD_getElem?,Array.getElem?_setIfInBounds,if_neg h]
theorem ND (a:Act) (d:Option Tmp) (v:Value):(a.put d v).tmps.size=a.tmps.size:=by
 cases d<;>simp [Act.put]
theorem put_defers (a:Act) (d:Option Tmp) (v:Value):(a.put d v).defers=a.defers:=by
 cases d<;>simp [Act.put]
def sm:List Value→Nat→List (Nat×Value)
 | [],_=>[]
 | v::r,i=>(i,v)::sm r (i+1)
theorem Mr:∀ (vs:List Value) (i:Nat) (x:Nat×Value),x ∈ sm vs i→i≤x.1∧vs[x.1-i]?=some x.2:=by
 intro vs
 induction vs with
 | nil=>intro i x hx;simp [sm] at hx
 | cons v r ih=>
  intro i x hx
  simp only [sm,List.mem_cons] at hx
  rcases hx with e | e
  ·subst e;simp
  ·obtain ⟨h1,h2⟩:=ih (i+1) x e
   refine ⟨by omega,?_⟩
   rw [show x.1-i=(x.1-(i+1))+1 by omega];simpa using h2
theorem enter {P:Program} {f:FuncId} {fn:Func} {c:Code} {args:List Value} {w:World} {R:Ending→World→Prop}
  (hf:P.funcs[f]?=some fn) (hb:fn.body=some c) {n:Nat} (hn:fn.ntmps=n) (hle:args.length≤n)
  (h:∀ a,Sl n a (sm args 0)→c.wp P (bodyPost P fn R) a w):Calls P f args.toArray w R:=by
 refine calls_of_wp hf hb (h _ ⟨?_,rfl,?_⟩)
 ·simp;omega
 ·intro x hx
  obtain ⟨h1,h2⟩:=Mr args 0 x hx
  simp only [Nat.sub_zero] at h2
  have aH:x.1<args.length:=by
   rcases Nat.lt_or_ge x.1 args.length with h' | h'
   ·exact h'
   ·simp [List.getElem?_eq_none h'] at h2
  rw [List.getElem?_eq_getElem aH] at h2
  simp [Act.eval,Array.getD_eq_getD_getElem?,Array.getElem?_append,aH,Option.some.inj h2]
end Go.Proofs.YtgkdnnmcjjabdaaGreat
namespace Go.Proofs.YtgkdnnmcjjabdaaGreat
open Go.RowKit
def aS (P:Program) (o:Oper) (ρ:Operand→Value) (w:World) (Φ:Value→World→Prop):Prop:=
 match (execOp ρ o).run P w with
 | .ok (.value v) w'=>Φ v w'
 | .ok .skip w'=>Φ undef w'
 | .ok (.enter f args) w'=>Calls P f args w' fun e gJ=>∃ v,e=.returned v∧Φ v gJ
 | .ok (.round l f tmps assign body) w'=>RoundIn Fence.wide 0 P l f tmps assign body w' fun e gJ=>∃ v,e=.returned v∧Φ v gJ
 | _=>False
abbrev Fl (ro:Option Nat):Fence:={ Fence.wide with round:=ro }
theorem LO {ro:Option Nat} {n:Nat} {P:Program} {f:FuncId} {args:Array Value} {w:World} {R:Ending→World→Prop} (h:Calls P f args w R):CallsIn (Fl ro) n P f args w R:=(callsIn_wide (n:=n)).2 h
theorem aS.JT {ro:Option Nat} {P:Program} {o:Oper} {ρ:Operand→Value} {w:World} {Φ:Value→World→Prop} (h:aS P o ρ w Φ):(o.semAt ro ρ).run P w=(execOp ρ o).run P w:=by
 rw [Oper.semAt_eq]
 intro c hc
 unfold aS at h
 simp only [execOp,hc,Sem.run_bind] at h
 cases hr:(resolve ρ c o.type).run P w with
 | ok v w'=>rw [hr] at h;simp at h
 | halt x w'=>rw [hr] at h;simp [Result.andThen] at h
theorem aS.wp {ro:Option Nat} {P:Program} {o:Oper} {a:Act} {w:World} {Φ:Value→World→Prop} {next:Act→World→Prop} {Q:Exit→Act→World→Prop}
  (h:aS P o a.eval w Φ) (hn:∀ v w',Φ v w'→next (a.put o.dst v) w'):o.wpIn (Fl ro) 0 P a w next Q:=by
 refine ⟨fun _ _=>trivial,?_⟩
 rw [show (Fl ro).round=ro from rfl,h.JT]
 unfold aS at h
 generalize (execOp a.eval o).run P w=r at *
 cases r with
 | ok n w'=>
  cases n
  case value v=>exact hn _ _ h
  case skip=>exact hn _ _ h
  case enter f args=>
   refine ⟨fun hh=>by simp [Fl,Fence.wide] at hh,LO (Calls.mono h ?_)⟩
   rintro e gJ ⟨v,rfl,hv⟩
   exact hn _ _ hv
  case round l f tmps assign body=>
   refine ⟨fun hh=>by simp [Fl,Fence.wide] at hh,?_⟩
   have h':RoundIn (Fl ro) 0 P l f tmps assign body w' fun e gJ=>∃ v,e=.returned v∧Φ v gJ:=h
   refine RoundIn.mono h' ?_
   rintro e gJ ⟨v,rfl,hv⟩
   exact hn _ _ hv
  all_goals exact h.elim
 | halt x w'=>exact h.elim
theorem aS.pure {P:Program} {o:Oper} {ρ:Operand→Value} {w w':World} {Φ:Value→World→Prop} {v:Value} (h:(execOp ρ o).run P w=.ok (.value v) w') (hv:Φ v w'):aS P o ρ w Φ:=by
 unfold aS;rw [h];exact hv
theorem aS.skip {P:Program} {o:Oper} {ρ:Operand→Value} {w w':World} {Φ:Value→World→Prop} (h:(execOp ρ o).run P w=.ok .skip w') (hv:Φ undef w'):aS P o ρ w Φ:=by
 unfold aS;rw [h];exact hv
theorem aS.call {P:Program} {o:Oper} {ρ:Operand→Value} {w:World} {Φ:Value→World→Prop} {f:FuncId} {args:Array Value} (h:(execOp ρ o).run P w=.ok (.enter f args) w) (hv:Calls P f args w fun e w'=>∃ v,e=.returned v∧Φ v w'):aS P o ρ w Φ:=by
 unfold aS;rw [h];exact hv
theorem aS.mono {P:Program} {o:Oper} {ρ:Operand→Value} {w:World} {Φ Ψ:Value→World→Prop} (h:aS P o ρ w Φ) (hi:∀ v w',Φ v w'→Ψ v w'):aS P o ρ w Ψ:=by
  unfold aS at *
  generalize (execOp ρ o).run P w=r at *
  cases r with
  | ok n w'=>
    cases n<;>simp only at h ⊢<;>first
      | exact hi _ _ h
      | (refine Calls.mono h ?_
         rintro e gJ ⟨v,rfl,hv⟩
         exact ⟨v,rfl,hi _ _ hv⟩)
      | (refine RoundIn.mono h ?_
         rintro e gJ ⟨v,rfl,hv⟩
         exact ⟨v,rfl,hi _ _ hv⟩)
  | halt x w'=>exact h.elim
def so (ops:Array Oper) (i:Nat):Option Tmp:=(ops[i]?).bind (·.dst)
abbrev pl (f:Value→ah→Prop):List Value→Value→ah→Prop:=fun _=>f
def blk (o:Obj):Value→ah→Prop:=fun v H=>∃ b,v=.pointer (some ⟨b,0,none⟩)∧H=[(b,o)]
def done (L:Array Bool) (i:Nat):Prop:=L.getD i true=true
variable {P:Program} {ops:Array Oper} {Q:Exit→Act→World→Prop} {ro:Option Nat}
theorem EI {a:Act} {j d:Nat} (hd:so ops j=some d) (hs:d<a.tmps.size):yielded ops a.tmps j=match a.eval (.tmp d) with | .bool b=>some b | _=>none:=by
 unfold yielded
 unfold so at hd
 rw [hd]
 simp only [Option.bind_some,Act.eval,Array.getD_eq_getD_getElem?,Array.getElem?_eq_getElem hs,Option.getD_some]
 cases a.tmps[d]<;>rfl
def jl (ro:Option Nat) (P:Program) (ops:Array Oper) (Q:Exit→Act→World→Prop) (Rk:World→Prop):Nat→Array Bool→Act→World→Prop
 | 0,L,a,w=>Rk w∧Region.ready .any ops L=[]∧Q .normal a w
 | fuel+1,L,a,w=>Rk w∧(Region.ready .any ops L=[]→Q .normal a w)∧∀ i ∈ Region.ready .any ops L,wpOpIn (Fl ro) 0 P ops Q i (jl ro P ops Q Rk fuel (L.setIfInBounds i true)) a w
theorem jl.rk {Rk:World→Prop} {fuel:Nat} {L:Array Bool} {a:Act} {w:World} (h:jl ro P ops Q Rk fuel L a w):Rk w:=by cases fuel<;>exact h.1
theorem jl.to {Rk:World→Prop}:∀ {fuel:Nat} {L:Array Bool} {a:Act} {w:World},jl ro P ops Q Rk fuel L a w→wpAnyIn (Fl ro) 0 P .any ops Q fuel L a w
 | 0,_,_,_,h=>h.2
 | _+1,_,_,_,h=>⟨h.2.1,fun i hi=>wpOpIn_mono (fun _ _ h=>jl.to h) (h.2.2 i hi)⟩
theorem Pn {o:Oper} {ρ:Operand→Value} {v:Value} {w w':World} (h:(execOp ρ o).run P w=.ok (.value v) w'):(o.semAt ro ρ).run P w=.ok (.value v) w':=by rw [(aS.pure (Φ:=fun _ _=>True) h trivial).JT];exact h
theorem Mt (o:Oper) (hs:∀ cs b,o.op≠.select cs b) (a:Act) (dst:Option Tmp) (v:Value) (h:∀ d,dst=some d→d ∉ o.looksAt ops):o.semAt ro (a.put dst v).eval=o.semAt ro a.eval:=by
 have e:=execOp_put o hs a dst v h
 unfold Oper.semAt
 cases ro with
 | none=>exact e
 | some l=>
  cases ho:o.op<;>first | exact e | skip
  rename_i c
  have e2:=resolve_congr (ρ:=(a.put dst v).eval) (ρ':=a.eval) c o.type (fun x hx=>Act.eval_put fun d hd T8=>h d hd (by
   subst T8
   exact List.mem_append_left _ (List.mem_filterMap.2 ⟨.tmp d,by rw [ho];simpa [Op.operands] using hx,rfl⟩)))
  simp only [e2]
theorem Ey {Y:Act→Prop} {j:Nat} {oi oj:Oper} {v:Value} (hj:ops[j]?=some oj) (fC:oi.apart ops oj=true) (T9:∀ cs b,oj.op≠.select cs b)
  (dW:∀ a,Y a→∀ u,Y (a.put oj.dst u)) (RK:∀ a d,Y a→Y { a with defers:=d::a.defers })
  (hQ:∀ c a w,Q (.panic c) (a.put oi.dst v) w→Q (.panic c) a w) {K:Act→World→Prop} {a:Act} {w:World}
  (hy:Y a) (h:Go.wpOpIn (Fl ro) 0 P ops Q j K (a.put oi.dst v) w):Go.wpOpIn (Fl ro) 0 P ops Q j (fun a' w'=>Y a'∧K (a'.put oi.dst v) w') a w:=by
 obtain ⟨h1,h2,h3⟩:=Oper.apart_spec fC
 unfold Go.wpOpIn at *
 simp only [hj] at *
 rw [wanted_put oj a oi.dst v h1] at h
 split
 ·rename_i hw
  simp only [hw,if_true] at h
  refine ⟨fun _ _=>trivial,?_⟩
  replace h:=h.2
  rw [Mt oj T9 a oi.dst v h1] at h
  generalize (oj.semAt (Fl ro).round a.eval).run P w=r at *
  cases r with
  | ok n w'=>
   cases n<;>simp only [Oper.uponIn] at h ⊢
   case value u=>exact ⟨dW a hy u,by rw [← Act.put_comm a v u h2];exact h⟩
   case skip=>exact ⟨dW a hy _,by rw [← Act.put_comm a v undef h2];exact h⟩
   case defer d=>
    refine ⟨dW _ (RK a d hy) _,?_⟩
    rw [← Act.put_comm _ v undef h2,← Act.put_defers]
    exact h
   case enter f args=>
    refine ⟨h.1,CallsIn.mono h.2 fun e gJ he=>?_⟩
    cases e with
    | returned u=>exact ⟨dW a hy u,by rw [← Act.put_comm a v u h2];exact he⟩
    | panicked c=>exact hQ _ _ _ he
    | outgrown=>exact he
   case row row args=>exact ⟨h.1,RowsIn.mono h.2 fun u gJ he=>⟨dW a hy u,by rw [← Act.put_comm a v u h2];exact he⟩⟩
   case round l f tmps assign body=>
    refine ⟨h.1,RoundIn.mono h.2 fun e gJ he=>?_⟩
    cases e with
    | returned u=>exact ⟨dW a hy u,by rw [← Act.put_comm a v u h2];exact he⟩
    | panicked c=>exact hQ _ _ _ he
    | outgrown=>exact he
  | halt x w'=>
   cases x<;>simp only [Oper.uponIn] at h ⊢
   case panic u=>exact hQ _ _ _ h
 ·rename_i hw
  simp only [hw] at h
  exact ⟨fun _ _=>trivial,dW a hy _,by rw [← Act.put_comm a v undef h2];exact h.2⟩
def eC (P:Program) (ops:Array Oper) (Q:Exit→Act→World→Prop):List (Oper×Bool)→Act→World→Prop
 | [],a,w=>Q .normal a w
 | (o,pu)::r,a,w=>bif pu then o.guard=none∧∃ v,(∀ w',(execOp a.eval o).run P w'=.ok (.value v) w')∧eC P ops Q r (a.put o.dst v) w
  else match o.guard with
   | none=>aS P o a.eval w (fun v w'=>eC P ops Q r (a.put o.dst v) w')
   | some (j,want)=>(yielded ops a.tmps j=some want→aS P o a.eval w (fun v w'=>eC P ops Q r (a.put o.dst v) w'))∧(yielded ops a.tmps j≠some want→eC P ops Q r (a.put o.dst undef) w)
def pick (ops:Array Oper):List (Nat×Bool)→List (Oper×Bool)
 | []=>[]
 | (i,pu)::r=>match ops[i]? with
  | some o=>(o,pu)::pick ops r
  | none=>pick ops r
theorem QO {o:Oper} {pu:Bool} {r:List (Oper×Bool)} {i:Nat} (ho:ops[i]?=some o) {a:Act} {w:World} {K:Act→World→Prop} (hK:∀ a w,eC P ops Q r a w→K a w) (h:eC P ops Q ((o,pu)::r) a w):wpOpIn (Fl ro) 0 P ops Q i K a w:=by
 unfold wpOpIn
 simp only [ho]
 unfold eC at h
 cases pu with
 | true=>
  simp only [cond_true] at h
  obtain ⟨hg,v,hv,h⟩:=h
  simp only [Region.wanted,hg,if_true]
  exact aS.wp (Φ:=fun v w'=>eC P ops Q r (a.put o.dst v) w') (aS.pure (hv w) h) (fun v w' h=>hK _ _ h)
 | false=>
  simp only [cond_false] at h
  cases hg:o.guard with
  | none=>
   rw [hg] at h
   simp only [Region.wanted,hg,if_true]
   exact aS.wp h (fun v w' h=>hK _ _ h)
  | some g=>
   obtain ⟨j,want⟩:=g
   rw [hg] at h
   simp only [Region.wanted,hg]
   by_cases hy:yielded ops a.tmps j=some want
   ·rw [if_pos (by simp [hy])]
    exact aS.wp (h.1 hy) (fun v w' h=>hK _ _ h)
   ·rw [if_neg (by simp [hy])]
    exact ⟨fun _ _=>trivial,hK _ _ (h.2 hy)⟩
theorem Mu:∀ (l:List Nat) (os:List Oper) (a:Act) (w:World),l.map (fun i=>ops[i]?)=os.map some→eC P ops Q (os.map (·,false)) a w→wpOpsIn (Fl ro) 0 P ops Q l a w:=by
 intro l
 induction l with
 | nil=>intro os a w h hl;cases os with
  | nil=>exact hl
  | cons=>simp at h
 | cons i r ih=>
  intro os a w h hl
  cases os with
  | nil=>simp at h
  | cons o os=>
   simp only [List.map_cons,List.cons.injEq] at h
   rw [wpOpsIn_cons]
   exact QO h.1 (fun a w h'=>ih os a w h.2 h') hl
theorem yq {id:Nat} {a:Act} {w:World} (h:eC P ops Q (ops.toList.map (·,false)) a w):(Code.region id ops false).wpIn (Fl ro) 0 P Q a w:=by
 refine wpIn_region (Mu _ ops.toList a w ?_ h)
 apply List.ext_getElem?
 intro i
 simp only [List.getElem?_map,Array.getElem?_toList]
 rcases Nat.lt_or_ge i ops.size with hi | hi
 ·simp [List.getElem?_range hi,hi]
 ·simp [hi]
end Go.Proofs.YtgkdnnmcjjabdaaGreat
namespace Go.Proofs.YtgkdnnmcjjabdaaGreat
open Go.Maps
section
variable {κ:Type} [DecidableEq κ]
def look (l8:List (κ×Value)) (k:κ):Option Value:=(l8.find? (fun x=>decide (x.1=k))).map (·.2)
def put (l8:List (κ×Value)) (k:κ) (v:Value):List (κ×Value):=
 if l8.any (fun x=>decide (x.1=k)) then l8.map (fun x=>if x.1=k then (k,v) else x) else l8++[(k,v)]
def drop (l8:List (κ×Value)) (k:κ):List (κ×Value):=l8.filter (fun x=>!decide (x.1=k))
end
section
variable {κ:Type} [DecidableEq κ] {P:Program} {K e t:TypeId} {enc:κ→Value} {o:Obj} {l8:List (κ×Value)} {w:World} {r:Nat}
omit [DecidableEq κ] in
end
end Go.Proofs.YtgkdnnmcjjabdaaGreat
namespace Go.Proofs.YtgkdnnmcjjabdaaGreat
open Go.RowKit
section
variable {P:Program} {ρ:Operand→Value} {w:World} {Φ:Value→World→Prop} {d:Option Tmp} {ty:TypeId} {pos:String} {aft:Array Edge} {gd:Option (Nat×Bool)}
theorem Fj {x:Operand} {vs:Array Value} {i:Nat} {v:Value} (h:ρ x=.tuple vs) (hv:vs[i]?=some v) (aI:Φ v w):aS P ⟨d,.extract x i,ty,pos,aft,gd⟩ ρ w Φ:=
 .pure (v:=v) (by simp only [execOp,h,Instr.extract,hv];rfl) aI
def n8 (P:Program) (s:TypeId) (f:Nat):Option Nat:=
 match P.underlying s with
 | some (.struct fs)=>match fs[f]? with
  | some x=>match P.info? x.type with
   | some i=>if i.size=0 then none else some x.offset
   | none=>none
  | none=>none
 | _=>none
theorem LC {s:TypeId} {f off:Nat} (hf:n8 P s f=some off) (a:Addr):(Instr.fieldAt s (.pointer (some a)) f).run P w=.ok (.pointer (some (a.add off))) w:=by
 unfold n8 at hf
 cases hu:P.underlying s with
 | none=>simp [hu] at hf
 | some u=>
  cases u<;>simp only [hu] at hf<;>try contradiction
  rename_i fs
  cases hx:fs[f]? with
  | none=>simp [hx] at hf
  | some x=>
   simp only [hx] at hf
   cases hi:P.info? x.type with
   | none=>simp [hi] at hf
   | some i=>
    simp only [hi] at hf
    split at hf
    ·contradiction
    ·rename_i aX
     cases hf
     simp only [Instr.fieldAt,Sem.run_bind,run_underlying hu,Result.andThen_ok,hx,Instr.sureAddr,Sem.run_pure,fieldPlace,sizeOf,typeInfo,run_program,hi,aX,if_false]
theorem add_eq (b i n:Nat):(⟨b,i,none⟩:Addr).add n=⟨b,i+n,none⟩:=by
 unfold Addr.add;split
 ·rename_i h;subst h;rfl
 ·rfl
theorem QP {x:Operand} {v:Value} (h:ρ x=v):(execOp ρ ⟨d,.move x,ty,pos,aft,gd⟩).run P w=.ok (.value v) w:=by subst h;rfl
theorem NF {x:Operand} {v:Value} (h:ρ x=v):(execOp ρ ⟨d,.assign x,ty,pos,aft,gd⟩).run P w=.ok (.value v) w:=by subst h;rfl
theorem LP {x:Operand} {a:Addr} (h:ρ x=.pointer (some a)):(execOp ρ ⟨d,.nilCheck x,ty,pos,aft,gd⟩).run P w=.ok (.value (.pointer (some a))) w:=by simp only [execOp,h];rfl
theorem Mv {x:Operand} {vs:Array Value} {i:Nat} {v:Value} (h:ρ x=.tuple vs) (hv:vs[i]?=some v):(execOp ρ ⟨d,.extract x i,ty,pos,aft,gd⟩).run P w=.ok (.value v) w:=by simp only [execOp,h,Instr.extract,hv];rfl
def scalar (P:Program) (t:TypeId):Bool:=match P.underlying t with | some (.struct _)=>false | some (.array _ _)=>false | some _=>true | none=>false
theorem Ep {t:TypeId} (h:scalar P t=true):(isAgg t).run P w=.ok false w:=by
 unfold scalar at h
 cases hu:P.underlying t with
 | none=>simp [hu] at h
 | some u=>cases u<;>simp [hu] at h<;>simp [isAgg,Sem.run_bind,run_underlying hu]
theorem K6 {t:TypeId} {a:Addr} {v:Value} (ht:scalar P t=true) (hc:w.cell? a=some v):(Instr.loadAt t (.pointer (some a))).run P w=.ok v w:=by
 simp [Instr.loadAt,Instr.sureAddr,loadVar,Sem.run_bind,Ep ht,load,Sem.run,hc]
def m4 (P:Program) (t:TypeId) (n:Nat):Bool:=(match P.underlying t with | some (.struct _)=>true | some (.array _ _)=>true | _=>false)&&(match P.info? t with | some i=>i.size==n | none=>false)
theorem run_loadCellsFrom {a:Addr} {vs:List Value}:∀ (i:Nat) (acc:Array Value),(∀ j (hj:j<vs.length),w.cell? (a.add (i+j))=some vs[j])→(loadCellsFrom a i vs.length acc).run P w=.ok (acc++vs.toArray) w:=by
 induction vs with
 | nil=>intro i acc _;simp [loadCellsFrom]
 | cons v r ih=>
  intro i acc h
  have h0:=h 0 (by simp)
  simp only [Nat.add_zero,List.getElem_cons_zero] at h0
  have hl:(load (a.add i)).run P w=.ok v w:=by simp [load,Sem.run,h0]
  simp only [List.length_cons,loadCellsFrom,Sem.run_bind,hl,Result.andThen_ok]
  rw [ih (i+1) (acc.push v) (fun j hj=>by have:=h (j+1) (by simp;omega);rw [show i+1+j=i+(j+1) by omega];simpa using this)]
  simp
theorem Et {t:TypeId} {n:Nat} (h:m4 P t n=true):(isAgg t).run P w=.ok true w∧(sizeOf t).run P w=.ok n w:=by
 unfold m4 at h
 simp only [Bool.and_eq_true] at h
 constructor
 ·cases hu:P.underlying t with
  | none=>simp [hu] at h
  | some u=>cases u<;>simp [hu] at h<;>simp [isAgg,Sem.run_bind,run_underlying hu]
 ·cases hi:P.info? t with
  | none=>simp [hi] at h
  | some i=>
   simp only [hi,beq_iff_eq] at h
   simp [sizeOf,typeInfo,Sem.run_bind,hi,h.2]
theorem Lg {t:TypeId} {a:Addr} {vs:List Value} (ht:m4 P t vs.length=true) (hc:∀ j (hj:j<vs.length),w.cell? (a.add j)=some vs[j]):(Instr.loadAt t (.pointer (some a))).run P w=.ok (.agg vs.toArray) w:=by
 have h:=run_loadCellsFrom (P:=P) (w:=w) (a:=a) (vs:=vs) 0 #[] (by simpa using hc)
 simp [Instr.loadAt,Instr.sureAddr,loadVar,Sem.run_bind,(Et (w:=w) ht).1,(Et (w:=w) ht).2,loadCells,h]
theorem LQ {t:TypeId} {z:Value} (hz:(zeroValue t).run P w=.ok z w):(Instr.alloc t true (.tuple #[])).run P w=.ok (.pointer (some ⟨w.heap.size,0,none⟩)) (w.alloc (.cells z.cells t)):=by
 simp [Instr.alloc,Sem.run_bind,hz,newVar,newRow,newObj,Sem.run]
theorem Po {t:TypeId} {z:Value} (hz:(zeroValue t).run P w=.ok z w) (aI:Φ (.pointer (some ⟨w.heap.size,0,none⟩)) (w.alloc (.cells z.cells t))):aS P ⟨d,.alloc t,ty,pos,aft,gd⟩ ρ w Φ:=
 .pure (by simp only [execOp,Sem.run_bind,LQ hz,Result.andThen_ok,Sem.run_pure]) aI
theorem F7 {t:TypeId} {z:Value} (hz:(zeroValue t).run P w=.ok z w) (aI:∀ b w',Gr w w'→cQ w w' [(b,.cells z.cells t)]→Φ (.pointer (some ⟨b,0,none⟩)) w'):aS P ⟨d,.alloc t,ty,pos,aft,gd⟩ ρ w Φ:=
 Po hz (aI _ _ (Gr.alloc _ _) (cQ.alloc _ _))
theorem RL {t:TypeId} {x:Operand} {v:Value} (h:ρ x=v) (aI:Φ (.pointer (some ⟨w.heap.size,0,none⟩)) (w.alloc (.cells v.cells t))):aS P ⟨d,.box t x,ty,pos,aft,gd⟩ ρ w Φ:=
 .pure (v:=.pointer (some ⟨w.heap.size,0,none⟩)) (w':=w.alloc (.cells v.cells t)) (by simp [execOp,h,Instr.box,Sem.run_bind,newVar,newRow,newObj,Sem.run]) aI
theorem QQ {t:TypeId} {x:Operand} {v:Value} (h:ρ x=v) (aI:∀ b w',Gr w w'→cQ w w' [(b,.cells v.cells t)]→Φ (.pointer (some ⟨b,0,none⟩)) w'):aS P ⟨d,.box t x,ty,pos,aft,gd⟩ ρ w Φ:=
 RL h (aI _ _ (Gr.alloc _ _) (cQ.alloc _ _))
def Fz (fz:Nat×Nat) (n:Nat):Prop:=∀ i,i<n→¬ (fz.1≤i∧i<fz.2)
theorem la (n:Nat):Fz (0,0) n:=fun i _ h=>by have:=h.2;simp at this
def cD:Value→Bool
 | .agg _ | .tuple _=>false
 | _=>true
theorem run_store {b i:Nat} {c:Array Value} {t:TypeId} {v:Value} {fz:Nat×Nat} (hb:w.heap[b]?=some (.cells c t fz)) (hi:i<c.size) (hv:cD v=true) (hz:Fz fz c.size:=by first | exact la _ | assumption):(store ⟨b,i,none⟩ v).run P w=.ok () (bB w b (.cells (c.setIfInBounds i v) t fz)):=by
 have hc:w.cell? ⟨b,i,none⟩=some c[i]:=by rw [cell_of hb];simp [hi]
 have hf:w.frozen? ⟨b,i,none⟩=false:=by
  obtain ⟨lo,jz⟩:=fz
  have:=hz i hi
  simp only [World.frozen?,hb];simpa using this
 rw [← LN hb]
 cases v<;>simp [cD] at hv<;>simp [store,Sem.run,hc,hf]
def bS (c:Array Value):Nat→List Value→Array Value
 | _,[]=>c
 | i,v::r=>bS (c.setIfInBounds i v) (i+1) r
theorem ib (c:Array Value) (i:Nat) (vs:List Value):(bS c i vs).size=c.size:=by
 induction vs generalizing c i with
 | nil=>rfl
 | cons v r ih=>rw [bS,ih];simp
theorem Mw (w:World) (b:Nat) (o o':Obj):bB (bB w b o) b o'=bB w b o':=by
 simp [bB]
theorem Er {b:Nat} {t:TypeId} {fz:Nat×Nat}:∀ (vs:List Value) (w:World) (c:Array Value) (i j:Nat),w.heap[b]?=some (.cells c t fz)→i+j+vs.length≤c.size→(∀ v ∈ vs,cD v=true)→Fz fz c.size→(storeCells ⟨b,i,none⟩ vs j).run P w=.ok () (bB w b (.cells (bS c (i+j) vs) t fz))
 | [],w,c,i,j,hb,_,_,_=>by
  have:bB w b (.cells c t fz)=w:=by
   unfold bB
   have aH:=jK hb
   have:w.heap.setIfInBounds b (.cells c t fz)=w.heap:=by
    apply Array.ext_getElem?
    intro k
    rw [Array.getElem?_setIfInBounds]
    by_cases e:b=k
    ·subst e;simp [aH];rw [Array.getElem?_eq_getElem aH] at hb;exact (Option.some.inj hb).symm
    ·simp [e]
   rw [this]
  simp [storeCells,bS,this]
 | v::r,w,c,i,j,hb,hl,hv,hz=>by
  simp only [List.length_cons] at hl
  have ha:(⟨b,i,none⟩:Addr).add j=⟨b,i+j,none⟩:=by
   unfold Addr.add;split
   ·rename_i h;subst h;rfl
   ·rfl
  have h1:=run_store (P:=P) hb (show i+j<c.size by omega) (hv v (by simp))
  have h2:=Er r (bB w b (.cells (c.setIfInBounds (i+j) v) t fz)) (c.setIfInBounds (i+j) v) i (j+1) (Fi _ (jK hb)) (by simp;omega) (fun x hx=>hv x (by simp [hx])) (by simpa using hz)
  simp only [storeCells,Sem.run_bind,ha,h1,Result.andThen_ok,h2,Mw]
  rfl
theorem n4 {b:Nat} {t:TypeId} {fz:Nat×Nat} (vs:List Value) (w:World) (c:Array Value) (i j:Nat) (hb:w.heap[b]?=some (.cells c t fz)) (hl:i+j+vs.length≤c.size) (hv:∀ v ∈ vs,cD v=true) (hz:Fz fz c.size:=by first | exact la _ | assumption):(storeCells ⟨b,i,none⟩ vs j).run P w=.ok () (bB w b (.cells (bS c (i+j) vs) t fz)):=Er vs w c i j hb hl hv hz
theorem LD {b i:Nat} {c:Array Value} {t u:TypeId} {v:Value} {n:Nat} {fz:Nat×Nat} (hn:(P.info? u).map (·.size)=some n) (hb:w.heap[b]?=some (.cells c t fz)) (hv:v.cells.size=n) (hi:i+n≤c.size) (db:∀ x ∈ v.cells.toList,cD x=true) (hz:Fz fz c.size:=by first | exact la _ | assumption):
  (Instr.storeAt u (.pointer (some ⟨b,i,none⟩)) v).run P w=.ok () (bB w b (.cells (bS c i v.cells.toList) t fz)):=by
 cases dy:P.info? u with
 | none=>simp [dy] at hn
 | some inf=>
  simp only [dy,Option.map_some,Option.some.injEq] at hn
  have hs:(sizeOf u).run P w=.ok n w:=by simp [sizeOf,typeInfo,Sem.run_bind,dy,hn]
  have h:=n4 (P:=P) v.cells.toList w c i 0 hb (by simp [hv];omega) db hz
  simp only [Instr.storeAt,Instr.sureAddr,Sem.run_bind,Sem.run_pure,Result.andThen_ok,storeVar,hs,hv,ne_eq,not_true_eq_false,if_false]
  simpa using h
theorem vB {u:TypeId} {x y:Operand} {b i:Nat} {c:Array Value} {t:TypeId} {v:Value} {fz:Nat×Nat} (n:Nat) (hn:(P.info? u).map (·.size)=some n) (hx:ρ x=.pointer (some ⟨b,i,none⟩)) (hy:ρ y=v) (hb:w.heap[b]?=some (.cells c t fz)) (hv:v.cells.size=n) (hi:i+n≤c.size) (db:∀ x ∈ v.cells.toList,cD x=true)
  (aI:Φ undef (bB w b (.cells (bS c i v.cells.toList) t fz))) (hz:Fz fz c.size:=by first | exact la _ | assumption):aS P ⟨d,.store u x y,ty,pos,aft,gd⟩ ρ w Φ:=
 .skip (by simp only [execOp,hx,hy,Sem.run_bind,LD hn hb hv hi db hz,Result.andThen_ok,Sem.run_pure]) aI
theorem Lr {f:FuncId} {fn:Func} (hf:P.funcs[f]?=some fn) (hb:fn.body.isSome=true) (hn:(fn.name == "runtime.NumGoroutine")=false) (args:Array Value):(callFunc f args).run P w=.ok (.enter f args) w:=by
 have h1:¬ fn.body=none:=by cases hx:fn.body<;>simp_all
 have h2:¬ fn.name = "runtime.NumGoroutine":=by simpa using hn
 simp [callFunc,Sem.run_bind,hf,h1,h2]
def fJ (P:Program) (f:FuncId):Bool:=match P.funcs[f]? with | some fn=>fn.body.isSome&&!(fn.name == "runtime.NumGoroutine") | none=>false
theorem y7 {f:FuncId} (h:fJ P f=true) (args:Array Value):(callFunc f args).run P w=.ok (.enter f args) w:=by
 unfold fJ at h
 cases hf:P.funcs[f]? with
 | none=>simp [hf] at h
 | some fn=>simp only [hf,Bool.and_eq_true,Bool.not_eq_true'] at h;exact Lr hf h.1 h.2 args
theorem rG {g:Operand} {args:Array Operand} {ea:Array TypeId} {f:FuncId} {vs bP:Array Value} (hg:ρ g=.func (.func f) #[] bP) (hf:fJ P f=true) (ha:args.map ρ=vs)
  (aI:Calls P f (vs++bP) w fun e w'=>∃ v,e=.returned v∧Φ v w'):aS P ⟨d,.call ⟨.value g,args,ea⟩,ty,pos,aft,gd⟩ ρ w Φ:=
 .call (f:=f) (args:=vs++bP) (by simp [execOp,resolve,hg,ha,Deferred.ofValue,invoke,y7 hf]) aI
theorem RN {t t':TypeId} {x y:Operand} {k:IntKind} {a b:Int} {c:Bool} (h:ρ x=.int k a) (h':ρ y=.int k b) (hc:(a==b)=c) (aI:Φ (.bool c) w):aS P ⟨d,.binOp .eql t x y t',ty,pos,aft,gd⟩ ρ w Φ:=by
 subst hc;exact .pure (v:=.bool (a==b)) (by simp [execOp,h,h',eqGuard,binOp,Op.intCmp]) aI
theorem RO {t t':TypeId} {x y:Operand} {k:IntKind} {a b:Int} {c:Bool} (h:ρ x=.int k a) (h':ρ y=.int k b) (hc:(a != b)=c) (aI:Φ (.bool c) w):aS P ⟨d,.binOp .neq t x y t',ty,pos,aft,gd⟩ ρ w Φ:=by
 subst hc;exact .pure (v:=.bool (a != b)) (by simp [execOp,h,h',eqGuard,binOp,Op.intCmp]) aI
theorem RP {t t':TypeId} {x y:Operand} {k:IntKind} {a b:Int} {c:Bool} (h:ρ x=.int k a) (h':ρ y=.int k b) (hc:(decide (a<b))=c) (aI:Φ (.bool c) w):aS P ⟨d,.binOp .lss t x y t',ty,pos,aft,gd⟩ ρ w Φ:=by
 subst hc;exact .pure (v:=.bool (decide (a<b))) (by simp [execOp,h,h',eqGuard,binOp,Op.intCmp]) aI
theorem RQ {t t':TypeId} {x y:Operand} {k:IntKind} {a b:Int} {c:Bool} (h:ρ x=.int k a) (h':ρ y=.int k b) (hc:(decide (a≤b))=c) (aI:Φ (.bool c) w):aS P ⟨d,.binOp .leq t x y t',ty,pos,aft,gd⟩ ρ w Φ:=by
 subst hc;exact .pure (v:=.bool (decide (a≤b))) (by simp [execOp,h,h',eqGuard,binOp,Op.intCmp]) aI
theorem RR {t t':TypeId} {x y:Operand} {k:IntKind} {a b:Int} {c:Bool} (h:ρ x=.int k a) (h':ρ y=.int k b) (hc:(decide (b<a))=c) (aI:Φ (.bool c) w):aS P ⟨d,.binOp .gtr t x y t',ty,pos,aft,gd⟩ ρ w Φ:=by
 subst hc;exact .pure (v:=.bool (decide (b<a))) (by simp [execOp,h,h',eqGuard,binOp,Op.intCmp]) aI
theorem RT {t t':TypeId} {x y:Operand} {k:IntKind} {a b:Int} {c:Bool} (h:ρ x=.int k a) (h':ρ y=.int k b) (hc:(decide (b≤a))=c) (aI:Φ (.bool c) w):aS P ⟨d,.binOp .geq t x y t',ty,pos,aft,gd⟩ ρ w Φ:=by
 subst hc;exact .pure (v:=.bool (decide (b≤a))) (by simp [execOp,h,h',eqGuard,binOp,Op.intCmp]) aI
theorem RU {t t':TypeId} {x y:Operand} {k:IntKind} {a b c:Int} (h:ρ x=.int k a) (h':ρ y=.int k b) (hc:k.wrap (a+b)=c) (aI:Φ (.int k c) w):aS P ⟨d,.binOp .add t x y t',ty,pos,aft,gd⟩ ρ w Φ:=by
 subst hc;exact .pure (v:=.int k (k.wrap (a+b))) (by simp [execOp,h,h',eqGuard,binOp,Op.intArith]) aI
theorem RV {t t':TypeId} {x y:Operand} {k:IntKind} {a b c:Int} (h:ρ x=.int k a) (h':ρ y=.int k b) (hc:k.wrap (a-b)=c) (aI:Φ (.int k c) w):aS P ⟨d,.binOp .sub t x y t',ty,pos,aft,gd⟩ ρ w Φ:=by
 subst hc;exact .pure (v:=.int k (k.wrap (a-b))) (by simp [execOp,h,h',eqGuard,binOp,Op.intArith]) aI
theorem RW {t t':TypeId} {x y:Operand} {k:IntKind} {a b c:Int} (h:ρ x=.int k a) (h':ρ y=.int k b) (hc:min a b=c) (aI:Φ (.int k c) w):aS P ⟨d,.call ⟨.builtin .min,#[x,y],#[t,t']⟩,ty,pos,aft,gd⟩ ρ w Φ:=by
 have:(if b<a then b else a)=c:=by subst hc;split<;>omega
 subst this;exact .pure (v:=.int k (if b<a then b else a)) (by simp [execOp,resolve,h,h',invoke,builtin,Builtin.min_,Builtin.min2]) aI
theorem RX {t t':TypeId} {x y:Operand} {k:IntKind} {a b c:Int} (h:ρ x=.int k a) (h':ρ y=.int k b) (hc:max a b=c) (aI:Φ (.int k c) w):aS P ⟨d,.call ⟨.builtin .max,#[x,y],#[t,t']⟩,ty,pos,aft,gd⟩ ρ w Φ:=by
 have:(if a<b then b else a)=c:=by subst hc;split<;>omega
 subst this;exact .pure (v:=.int k (if a<b then b else a)) (by simp [execOp,resolve,h,h',invoke,builtin,Builtin.max_,Builtin.max2]) aI
theorem RY {t:TypeId} {x:Operand} {b c:Bool} (h:ρ x=.bool b) (hc:(!b)=c) (aI:Φ (.bool c) w):aS P ⟨d,.unOp .not t x,ty,pos,aft,gd⟩ ρ w Φ:=by
 subst hc;exact .pure (v:=.bool (!b)) (by simp [execOp,h,Op.unary]) aI
theorem G7 {c x y:Operand} {v:Value} (h:ρ c=.bool true) (hx:ρ x=v) (aI:Φ v w):aS P ⟨d,.pick c x y,ty,pos,aft,gd⟩ ρ w Φ:=
 .pure (by simp [execOp,h,hx,asBool]) aI
theorem G8 {c x y:Operand} {v:Value} (h:ρ c=.bool false) (hx:ρ y=v) (aI:Φ v w):aS P ⟨d,.pick c x y,ty,pos,aft,gd⟩ ρ w Φ:=
 .pure (by simp [execOp,h,hx,asBool]) aI
theorem QR {c x y:Operand} {b:Bool} {u v:Value} (h:ρ c=.bool b) (hx:ρ x=u) (hy:ρ y=v) (aI:Φ (if b then u else v) w):aS P ⟨d,.pick c x y,ty,pos,aft,gd⟩ ρ w Φ:=
 .pure (by simp [execOp,h,hx,hy,asBool]) aI
theorem QS {x:Operand} {t e:TypeId} {a:Option Addr} {n c:Nat} (ht:P.underlying t=some (.slice e)) (h:ρ x=.slice a n c) (aI:Φ (.int .i64 n) w):aS P ⟨d,.call ⟨.builtin .len,#[x],#[t]⟩,ty,pos,aft,gd⟩ ρ w Φ:=
 .pure (v:=.int .i64 n) (by simp [execOp,resolve,h,invoke,builtin,Builtin.len_,Sem.run_bind,run_underlying ht,goInt]) aI
theorem yC {x:Operand} {t t' e:TypeId} {o:Option Addr} {n k:Nat} {c:Bool} (ht:P.underlying t=some (.slice e)) (h:ρ x=.slice o n k) (hn:ρ (.const (.slice none 0 0))=.slice none 0 0) (hc:o.isNone=c) (aI:Φ (.bool c) w):aS P ⟨d,.binOp .eql t x (.const (.slice none 0 0)) t',ty,pos,aft,gd⟩ ρ w Φ:=by
 subst hc
 refine .pure (v:=.bool o.isNone) ?_ aI
 have:∀ m,(Op.equalIn (m+1) t (.slice o n k) (.slice none 0 0)).run P w=.ok o.isNone w:=by
  intro m;cases o<;>simp [Op.equalIn,Sem.run_bind,run_underlying ht]
 simp [execOp,h,hn,eqGuard,binOp,Op.equal,Op.maxDepth,this 9999]
theorem NG {x:Operand} {t t':TypeId} {o:Option Addr} {c:Bool} (ht:P.underlying t=some (.pointer (P.pointee t))) (h:ρ x=.pointer o) (hn:ρ (.const (.pointer none))=.pointer none) (hc:o.isNone=c) (aI:Φ (.bool c) w):aS P ⟨d,.binOp .eql t x (.const (.pointer none)) t',ty,pos,aft,gd⟩ ρ w Φ:=by
 subst hc
 exact .pure (v:=.bool o.isNone) (by simp [execOp,h,hn,eqGuard,binOp,Op.equal,Op.maxDepth,run_equalIn_pointer_nil w 9999 t o ht]) aI
end
section
variable {P:Program} {w:World} {a:Act}
def sq (P:Program) (w:World) (a:Act):List ResultVar→List Value→Prop
 | [],[]=>True
 | .tmp t::r,v::vs=>a.eval (.tmp t)=v∧sq P w a r vs
 | .cell t ty::r,v::vs=>(∃ ad,a.eval (.tmp t)=.pointer (some ad)∧(loadVar ty ad).run P w=.ok v w)∧sq P w a r vs
 | _,_=>False
def wT (t:Array Value):ResultVar→Sem Value
 | .tmp s=>pure (t.getD s undef)
 | .cell s ty=>do loadVar ty (← asAddr (t.getD s undef))
theorem y8:∀ (rs:List ResultVar) (vs:List Value),sq P w a rs vs→(rs.mapM (wT a.tmps)).run P w=.ok vs w
 | [],[],_=>by simp
 | .tmp t::r,v::vs,h=>by
  have h1:a.tmps.getD t undef=v:=h.1
  have ih:=y8 r vs h.2
  simp only [List.mapM_cons,Sem.run_bind,wT,h1,Sem.run_pure,Result.andThen_ok,ih]
 | .cell t ty::r,v::vs,h=>by
  obtain ⟨⟨ad,h1,h2⟩,h3⟩:=h
  have Ua:a.tmps.getD t undef=.pointer (some ad):=h1
  have ih:=y8 r vs h3
  have h4:(asAddr (.pointer (some ad))).run P w=.ok ad w:=rfl
  simp only [List.mapM_cons,Sem.run_bind,wT,Ua,h4,Sem.run_pure,Result.andThen_ok,h2,ih]
 | [],_::_,h=>h.elim
 | .tmp _::_,[],h=>h.elim
 | .cell _ _::_,[],h=>h.elim
theorem zL {fn:Func} {rs:List ResultVar} {vs:List Value} (hr:fn.results.toList=rs) (h:sq P w a rs vs):(results fn a.tmps).run P w=.ok (match vs with | [v]=>v | vs=>.tuple vs.toArray) w:=by
 have hm:=y8 rs vs h
 have he:results fn a.tmps=(do let vs ← fn.results.mapM (wT a.tmps);pure (if h:vs.size=1 then vs[0] else .tuple vs)):=by
  unfold results
  congr 1
 rw [he]
 simp only [Sem.run_bind,Array.mapM_eq_mapM_toList,hr,Sem.run_map,hm,Result.andThen_ok,Sem.run_pure]
 match vs with
 | []=>simp
 | [v]=>simp
 | _::_::_=>simp
end
theorem St.SR {w0 w:World} {H:ah} (s:St [] w0 w H):cQ w0 w H:=⟨s.nd,fun b hb=>(s.own b hb).resolve_right (by simp),s.holds⟩
section
variable {P:Program} {ops:Array Oper} {Q:Exit→Act→World→Prop} {sz d:Nat} {E:List (Nat×Value)} {a:Act} {w:World} {x:Operand} {v:Value} {ty:TypeId} {pos:String} {aft:Array Edge} {r:List (Oper×Bool)}
end
end Go.Proofs.YtgkdnnmcjjabdaaGreat
namespace Go.Proofs.YtgkdnnmcjjabdaaGreat
open Go.RowKit
section
variable {P:Program} {ρ:Operand→Value} {w:World} {d:Option Tmp} {ty:TypeId} {pos:String} {aft:Array Edge} {gd:Option (Nat×Bool)}
theorem Ia {t:TypeId} {x:Operand} {a:Addr} {v:Value} (ht:scalar P t=true) (h:ρ x=.pointer (some a)) (hc:w.cell? a=some v):(execOp ρ ⟨d,.load t x,ty,pos,aft,gd⟩).run P w=.ok (.value v) w:=by
 simp only [execOp,h,Sem.run_bind,K6 ht hc,Result.andThen_ok,Sem.run_pure]
theorem Fk {t:TypeId} {x:Operand} {a:Addr} (vs:List Value) (ht:m4 P t vs.length=true) (h:ρ x=.pointer (some a)) (hc:∀ j (hj:j<vs.length),w.cell? (a.add j)=some vs[j]):(execOp ρ ⟨d,.load t x,ty,pos,aft,gd⟩).run P w=.ok (.value (.agg vs.toArray)) w:=by
 simp only [execOp,h,Sem.run_bind,Lg ht hc,Result.andThen_ok,Sem.run_pure]
end
end Go.Proofs.YtgkdnnmcjjabdaaGreat
namespace Go.Proofs.YtgkdnnmcjjabdaaGreat
open Go.RowKit
section
variable {P:Program} {ro:Option Nat} {ops:Array Oper} {Q:Exit→Act→World→Prop}
theorem yr {Rk tA:World→Prop} (h:∀ w,tA w→Rk w):∀ {fuel:Nat} {L:Array Bool} {a:Act} {w:World},jl ro P ops Q tA fuel L a w→jl ro P ops Q Rk fuel L a w
 | 0,_,_,_,k=>⟨h _ k.1,k.2⟩
 | _+1,_,_,_,k=>⟨h _ k.1,k.2.1,fun i hi=>wpOpIn_mono (fun _ _ k=>yr h k) (k.2.2 i hi)⟩
variable {Rk:World→Prop} {sz d j s:Nat} {E:List (Nat×Value)} {a:Act} {w:World} {o:Oper} {r:List (Oper×Bool)} {want:Bool}
end
end Go.Proofs.YtgkdnnmcjjabdaaGreat
namespace Go.Proofs.YtgkdnnmcjjabdaaGreat
open Go.RowKit
def dI (T:TypeId) (size:Nat) (v:Value) (n:Nat) (xs:List Value) (H:ah):Prop:=
 xs.length=n*size∧((n=0∧H=[]∧∃ a,v=.slice a 0 0)∨
  ∃ b cap cs fz,v=.slice (some ⟨b,0,none⟩) n cap∧H=[(b,.cells cs T fz)]∧Fz fz cs.size∧cs.size=cap*size∧n≤cap∧cs.toList.take (n*size)=xs)
theorem dI.nil (T:TypeId) (size:Nat) (a:Option Addr):dI T size (.slice a 0 0) 0 [] []:=⟨by simp,Or.inl ⟨rfl,rfl,a,rfl⟩⟩
theorem dI.len {T:TypeId} {size:Nat} {v:Value} {n:Nat} {xs:List Value} {H:ah} (h:dI T size v n xs H):∃ a c,v=.slice a n c:=by
 rcases h.2 with ⟨rfl,_,a,rfl⟩ | ⟨b,cap,cs,fz,rfl,_⟩
 ·exact ⟨a,0,rfl⟩
 ·exact ⟨_,_,rfl⟩
def Src (w:World) (size:Nat) (x:Value) (m:Nat) (X:List Value):Prop:=
 X.length=m*size∧((m=0∧∃ a c,x=.slice a 0 c)∨∃ a c,x=.slice (some a) m c∧∀ j (hj:j<X.length),w.cell? (a.add j)=some X[j])
theorem Src.gr {w w':World} {size:Nat} {x:Value} {m:Nat} {X:List Value} (h:Src w size x m X) (g:Gr w w'):Src w' size x m X:=by
 refine ⟨h.1,?_⟩
 rcases h.2 with h2 | ⟨a,c,h2,h3⟩
 ·exact Or.inl h2
 ·exact Or.inr ⟨a,c,h2,fun j hj=>g.RJ (h3 j hj)⟩
variable {P:Program}
theorem run_loadCells {w:World} {a:Addr} {X:List Value} (h:∀ j (hj:j<X.length),w.cell? (a.add j)=some X[j]):(loadCells a X.length).run P w=.ok X.toArray w:=by
 have:=run_loadCellsFrom (P:=P) (w:=w) (a:=a) (vs:=X) 0 #[] (by simpa using h)
 simpa [loadCells] using this
theorem Src.first {w:World} {size:Nat} {x:Value} {m:Nat} {X:List Value} (h:Src w size x m X):(Builtin.lenOf x).run P w=.ok m w∧(Builtin.firstCells size m x).run P w=.ok X.toArray w:=by
 obtain ⟨hl,h⟩:=h
 rcases h with ⟨rfl,a,c,rfl⟩ | ⟨a,c,rfl,h⟩
 ·have:X=[]:=List.eq_nil_of_length_eq_zero (by simpa using hl)
  subst this
  cases a with
  | none=>simp [Builtin.lenOf,Builtin.firstCells]
  | some a=>simp [Builtin.lenOf,Builtin.firstCells,loadCells,loadCellsFrom]
 ·refine ⟨by simp [Builtin.lenOf],?_⟩
  simp only [Builtin.firstCells,← hl]
  exact run_loadCells h
theorem Fm (js:Nat):∀ (r c:Nat),c≤js→Builtin.growBy js r c≤2*js+192
 | 0,c,h=>by simp [Builtin.growBy];omega
 | r+1,c,h=>by
  unfold Builtin.growBy
  split
  ·omega
  ·by_cases h2:c+(c+768) / 4≤js
   ·exact Fm js r _ h2
   ·have key:∀ r c',js<c'→Builtin.growBy js r c'=c':=by
     intro r;induction r with
     | zero=>intro c' _;rfl
     | succ r ih=>intro c' Df;unfold Builtin.growBy;rw [if_pos (by omega)]
    rw [key r _ (by omega)];omega
theorem zM {js old:Nat} (h:old<js):Builtin.nextslicecap js old≤2*js+192:=by
 unfold Builtin.nextslicecap
 split
 ·omega
 ·split
  ·omega
  ·exact Fm js 4 old (by omega)
structure m5 (P:Program) (st T size bytes:Nat) (z:Value):Prop where
 aU:P.underlying st=some (.slice T)
 ss:(P.info? T).map (·.size)=some size
 QT:(P.info? T).map (·.bytes)=some bytes
 hzero:(P.info? T).bind (·.zero)=some z
 lb:z.cells.size=size
theorem m5.info {st T size bytes:Nat} {z:Value} (h:m5 P st T size bytes z):∃ i,P.info? T=some i∧i.size=size∧i.bytes=bytes∧i.zero=some z:=by
 cases hi:P.info? T with
 | none=>have:=h.ss;simp [hi] at this
 | some i=>
  have h1:=h.ss;have h2:=h.QT;have h3:=h.hzero
  simp only [hi,Option.map_some,Option.some.injEq,Option.bind_some] at h1 h2 h3
  exact ⟨i,rfl,h1,h2,h3⟩
theorem n5 (z:Array Value) (n:Nat):(Builtin.zeroCells z n).size=n*z.size:=by simp [Builtin.zeroCells]
theorem Lt (c:Array Value):∀ (vs:List Value) (i:Nat),i+vs.length≤c.size→∀ (d:Array Value),d.size=c.size→(bS d i vs).toList.take (i+vs.length)=d.toList.take i++vs:=by
 intro vs
 induction vs with
 | nil=>intro i h d hd;simp [bS]
 | cons v r ih=>
  intro i h d hd
  simp only [List.length_cons] at h
  have:=ih (i+1) (by omega) (d.setIfInBounds i v) (by simp [hd])
  simp only [bS,List.length_cons]
  rw [show i+(r.length+1)=i+1+r.length by omega,this]
  have hi:i<d.toList.length:=by simp [hd];omega
  simp only [Array.toList_setIfInBounds]
  rw [List.take_succ_eq_append_getElem (by simpa using hi)]
  simp [List.take_set_of_le]
structure kK (P:Program) (xt:TypeId) (w:World) (size:Nat) (u:Value) (m:Nat) (X:List Value):Prop where
 len:X.length=m*size
 ty:(∃ e,P.underlying xt=some (.slice e))∨P.underlying xt=some .string
 rd:∀ w',Gr w w'→(Builtin.lenOf u).run P w'=.ok m w'∧(Builtin.firstCells size m u).run P w'=.ok X.toArray w'
theorem Src.app {xt e:TypeId} {w:World} {size:Nat} {u:Value} {m:Nat} {X:List Value} (h:Src w size u m X) (fk:P.underlying xt=some (.slice e)):kK P xt w size u m X:=⟨h.1,.inl ⟨e,fk⟩,fun _ g=>(h.gr g).first⟩
theorem kK.str {xt:TypeId} {w:World} {bs:List UInt8} (fk:P.underlying xt=some .string):kK P xt w 1 (.string ⟨bs.toArray⟩) bs.length (bs.map fun b:UInt8=>Value.int .u8 (b.toNat:Int)):=by
 refine ⟨by simp,.inr fk,fun w' _=>?_⟩
 have e1:(⟨bs.toArray⟩:ByteArray).size=bs.length:=by simp [ByteArray.size]
 refine ⟨by simp [Builtin.lenOf,e1],?_⟩
 have e2:((⟨bs.toArray⟩:ByteArray).extract 0 bs.length).data=bs.toArray:=by simp [ByteArray.data_extract]
 simp [Builtin.firstCells,e2]
theorem Fo {st T size bytes:Nat} {z:Value} {ρ:Operand→Value} {w w0:World} {D:List Nat} {Φ:Value→World→Prop} {d:Option Tmp} {ty xt:TypeId} {pos:String} {aft:Array Edge} {gd:Option (Nat×Bool)} {x y:Operand} {v u:Value} {n m:Nat} {xs X:List Value} {H R:ah}
    (ok:m5 P st T size bytes z) (hx:ρ x=v) (hy:ρ y=u) (S:St D w0 w (H++R)) (hv:dI T size v n xs H) (hu:kK P xt w size u m X) (db:∀ q ∈ X,cD q=true) (gB:(2*(n+m)+192)*bytes≤281474976710656) (iM:n+m<4611686018427387904)
    (aI:∀ v' w' H',dI T size v' (n+m) (xs++X) H'→St D w0 w' (H'++R)→Φ v' w'):aS P ⟨d,.call ⟨.builtin .append,#[x,y],#[st,xt]⟩,ty,pos,aft,gd⟩ ρ w Φ:=by
  obtain ⟨i,hi,h1,h2,h3⟩:=ok.info
  obtain ⟨hlen,ij⟩:=hu.rd w (Gr.refl w)
  have aX:∀ w:World,(sizeOf T).run P w=.ok size w:=fun w=>by simp [sizeOf,typeInfo,Sem.run_bind,hi,h1]
  have e6:∀ w:World,(typeInfo T).run P w=.ok i w:=fun w=>by simp [typeInfo,Sem.run_bind,hi]
  have hzero:∀ w:World,(zeroValue T).run P w=.ok z w:=fun w=>by simp [zeroValue,Sem.run_bind,e6,h3]
  have Ub:n+m≤9223372036854775807:=by omega
  have jn:∀ r:Result Value,(Builtin.append_ #[st,xt] ty #[v,u]).run P w=r→(execOp ρ ⟨d,.call ⟨.builtin .append,#[x,y],#[st,xt]⟩,ty,pos,aft,gd⟩).run P w=r.andThen fun v w'=>.ok (.value v) w':=by
    intro r hr
    simp only [execOp,resolve,List.map_toArray,List.map,hx,hy,Sem.run_bind,Sem.run_pure,Result.andThen_ok,invoke,builtin,hr]
  have vW:∀ (a:Option Addr) (c:Nat) (w':World),v=.slice a n c→n+m≤c→(match a with | some a=>(storeCells (a.add (n*size)) X).run P w | none=>.ok () w)=.ok () w'→(Builtin.append_ #[st,xt] ty #[v,u]).run P w=.ok (.slice a (n+m) c) w':=by
    intro a c w' hv hle aU
    subst hv
    rcases hu.ty with ⟨e,fk⟩ | fk<;>
    (unfold Builtin.append_
     simp only [List.getElem?_toArray,List.getElem?_cons_zero,List.getElem?_cons_succ,Sem.run_bind,run_underlying ok.aU,run_underlying fk,Result.andThen_ok,aX,Sem.run_pure,Bool.false_eq_true,if_false,hlen,hle,if_true,Bool.not_false,ij]
     cases a with
     | none=>simp only at aU;cases aU;simp
     | some a=>simp only at aU;simp [aU])
  have su:∀ (a:Option Addr) (c:Nat) (old:List Value),v=.slice a n c→c<n+m→(Builtin.firstCells size n v).run P w.drew=.ok old.toArray w.drew→old.length=n*size→∃ k,n+m≤k∧(Builtin.append_ #[st,xt] ty #[v,u]).run P w=.ok (.slice (some ⟨w.heap.size,0,none⟩) (n+m) k) (w.drew.alloc (.cells (old.toArray++X.toArray++Builtin.zeroCells z.cells (k-(n+m))) T)):=by
    intro a c old hv aH hold VP
    subst hv
    have zN:=hu.rd w.drew (Gr.drew w)
    have Dg:Builtin.nextslicecap (n+m) c*bytes≤281474976710656:=Nat.le_trans (Nat.mul_le_mul_right _ (zM aH)) gB
    refine ⟨(Question.appendCap (n+m) c T).cut (w.tape w.drawn (.appendCap (n+m) c T)),by simp [Question.cut],?_⟩
    have kc:(choose (.appendCap (n+m) c T)).run P w=.ok ((Question.appendCap (n+m) c T).cut (w.tape w.drawn (.appendCap (n+m) c T))) w.drew:=by
      simp [choose,Sem.run,Question.forced]
    have lW:∀ (k:Nat) (w:World),(askRoom k).run P w=.ok () w:=by
      intro k w;unfold askRoom;split<;>simp [mark,Sem.run]
    have sv:¬ (((n+m:Nat):Int)>IntKind.i64.max∧(False∨i.bytes=0)):=by
      rintro ⟨h,_⟩
      simp [IntKind.max,IntKind.signed,IntKind.bits] at h
      omega
    have sT:¬ (Builtin.nextslicecap (n+m) c*i.bytes>2 ^ 48):=by rw [h2];omega
    have bu:∀ (cs:Array Value) (w:World),(newRow T cs).run P w=.ok ⟨w.heap.size,0,none⟩ (w.alloc (.cells cs T)):=by
      intro cs w;simp [newRow,newObj,Sem.run]
    rcases hu.ty with ⟨e,fk⟩ | fk<;>
    (unfold Builtin.append_
     simp only [List.getElem?_toArray,List.getElem?_cons_zero,List.getElem?_cons_succ,Sem.run_bind,run_underlying ok.aU,run_underlying fk,Result.andThen_ok,aX,Sem.run_pure,Bool.false_eq_true,if_false,hlen]
     rw [if_neg (by omega)]
     simp only [Sem.run_bind,e6,Result.andThen_ok]
     rw [if_neg sv]
     simp only [Sem.run_bind,e6,Result.andThen_ok]
     rw [if_neg sT]
     simp only [Sem.run_bind,e6,Result.andThen_ok,kc,lW,hold,Bool.not_false,if_true,zN.2,hzero,bu,Sem.run_pure]
     rfl)
  have ss:w.drew.heap.size=w.heap.size:=rfl
  have dw:∀ (old:List Value) (k:Nat),old.length=n*size→old=xs→n+m≤k→∀ b cs,cs=old.toArray++X.toArray++Builtin.zeroCells z.cells (k-(n+m))→dI T size (.slice (some ⟨b,0,none⟩) (n+m) k) (n+m) (xs++X) [(b,.cells cs T (0,0))]:=by
    intro old k nA xG hk b cs cd
    subst cd
    have tB:=hu.len
    have e1:(n+m)*size=n*size+m*size:=Nat.add_mul n m size
    refine ⟨by rw [List.length_append,← xG,nA,tB,e1],Or.inr ⟨b,k,_,(0,0),rfl,rfl,la _,?_,hk,?_⟩⟩
    · simp only [Array.size_append,List.size_toArray,n5,ok.lb,nA,tB]
      rw [← e1,← Nat.add_mul];congr 1;omega
    · simp only [Array.toList_append,← xG]
      rw [List.take_append_of_le_length (by simp [nA,tB,e1]),List.take_of_length_le (by simp [nA,tB,e1])]
  have fZ:∀ (old:List Value) (k:Nat),old.length=n*size→old=xs→n+m≤k→Φ (.slice (some ⟨w.heap.size,0,none⟩) (n+m) k) (w.drew.alloc (.cells (old.toArray++X.toArray++Builtin.zeroCells z.cells (k-(n+m))) T)):=by
    intro old k nA xG hk
    exact aI _ _ _ (dw old k nA xG hk w.heap.size _ rfl) ((S.je.gr (Gr.drew w)).alloc _)
  rcases hv.2 with ⟨rfl,rfl,a,rfl⟩ | ⟨b,cap,cs,fz,rfl,rfl,et,cd,hle,wy⟩
  · have JU:xs=[]:=List.eq_nil_of_length_eq_zero (by simpa using hv.1)
    by_cases hm:m=0
    · have hX:X=[]:=List.eq_nil_of_length_eq_zero (by rw [hu.len,hm];simp)
      refine .pure (v:=.slice a (0+m) 0) (w':=w) (by rw [jn _ (vW a 0 w rfl (by omega) (by subst hX;cases a<;>simp [storeCells]))];rfl) (aI _ _ [] ?_ S)
      subst hm;rw [JU,hX];exact dI.nil T size a
    · obtain ⟨k,hk,ct⟩:=su a 0 [] rfl (by omega) (by cases a<;>simp [Builtin.firstCells,loadCells,loadCellsFrom]) (by simp)
      exact .pure (by rw [jn _ ct];rfl) (fZ [] k (by simp) JU.symm hk)
  · have hb:w.heap[b]?=some (.cells cs T fz):=S.holds (b,_) (by simp)
    by_cases hm:n+m≤cap
    · have qF:n*size+X.length≤cs.size:=by rw [hu.len,cd,← Nat.add_mul];exact Nat.mul_le_mul_right _ hm
      have aU:=n4 (P:=P) X w cs (n*size) 0 hb (by omega) db
      refine .pure (v:=.slice (some ⟨b,0,none⟩) (n+m) cap) (w':=bB w b (.cells (bS cs (n*size) X) T fz)) (by rw [jn _ (vW _ cap _ rfl hm (by simp only [add_eq,Nat.zero_add];exact aU))];rfl) (aI _ _ [(b,.cells (bS cs (n*size) X) T fz)] ?_ (S.set _))
      have e1:(n+m)*size=n*size+m*size:=Nat.add_mul n m size
      refine ⟨by rw [List.length_append,hv.1,hu.len,e1],Or.inr ⟨b,cap,_,fz,rfl,rfl,by rw [ib];exact et,by rw [ib,cd],hm,?_⟩⟩
      have:=Lt cs X (n*size) qF cs rfl
      rw [hu.len] at this
      rw [e1,this,wy]
    · have hold:(Builtin.firstCells size n (.slice (some ⟨b,0,none⟩) n cap)).run P w.drew=.ok xs.toArray w.drew:=by
        simp only [Builtin.firstCells,← hv.1]
        refine run_loadCells (fun j hj=>?_)
        rw [add_eq,Nat.zero_add]
        have aE:w.drew.heap[b]?=some (.cells cs T fz):=hb
        rw [cell_of aE]
        have:(cs.toList.take (n*size))[j]?=some xs[j]:=by rw [wy];simp [hj]
        rw [List.getElem?_take] at this
        split at this
        · simpa using this
        · simp at this
      obtain ⟨k,hk,ct⟩:=su (some ⟨b,0,none⟩) cap xs rfl (by omega) hold hv.1
      exact .pure (by rw [jn _ ct];rfl) (fZ xs k hv.1 rfl hk)
section
variable {ρ:Operand→Value} {w:World} {Φ:Value→World→Prop} {d:Option Tmp} {ty t e:TypeId} {pos:String} {aft:Array Edge} {gd:Option (Nat×Bool)} {x lo hi mx:Operand} {size l h m b o n c:Nat}
def sliced (b o l h m size:Nat):Value:=.slice (some (if m=l then ⟨b,o,none⟩ else ⟨b,o+l*size,none⟩)) (h-l) (m-l)
theorem yD (ht:P.underlying t=some (.slice e)) (hs:(P.info? e).map (·.size)=some size) {vl vh vm:Option Value} (hb:(Instr.sliceBounds true n c vl vh vm).run P w=.ok (l,h,m) w):
  (Instr.sliceAt t (.slice (some ⟨b,o,none⟩) n c) vl vh vm).run P w=.ok (sliced b o l h m size) w:=by
 cases hi:P.info? e with
 | none=>simp [hi] at hs
 | some inf=>
  simp only [hi,Option.map_some,Option.some.injEq] at hs
  have aX:(sizeOf e).run P w=.ok size w:=by simp [sizeOf,typeInfo,Sem.run_bind,hi,hs]
  simp only [Instr.sliceAt,Instr.slice,Sem.run_bind,run_underlying ht,Result.andThen_ok,hb,aX,Sem.run_pure,sliced,Option.map_some,add_eq]
  split<;>rfl
theorem fI {v:Nat} {y:Nat} {code:BoundsCode} (h:v≤y):(Instr.sliceBound (.int .i64 v) y code).run P w=.ok v w:=by
 simp only [Instr.sliceBound,Sem.run_bind,asIntOf,Sem.run_pure,Result.andThen_ok]
 rw [if_pos ⟨by omega,by omega⟩];simp
theorem F8 {z:Value} {Z:List Value} (ht:P.underlying t=some (.slice e)) (hz:(zeroValue e).run P w=.ok z w) (hx:ρ x=.slice (some ⟨b,o,none⟩) (n+1) c) {cs:Array Value} {T:TypeId} {fz:Nat×Nat} (hb:w.heap[b]?=some (.cells cs T fz)) (hZ:(Builtin.zeroCells z.cells (n+1)).toList=Z) (hl:o+Z.length≤cs.size) (db:∀ q ∈ Z,cD q=true)
  (aI:Φ (.tuple #[]) (bB w b (.cells (bS cs o Z) T fz))) (et:Fz fz cs.size:=by first | exact la _ | assumption):aS P ⟨d,.call ⟨.builtin .clear,#[x],#[t]⟩,ty,pos,aft,gd⟩ ρ w Φ:=
 .pure (by
  have aU:=n4 (P:=P) Z w cs o 0 hb (by omega) db
  simp only [Nat.add_zero] at aU
  have:(Builtin.clear_ #[t] ty #[.slice (some ⟨b,o,none⟩) (n+1) c]).run P w=.ok (.tuple #[]) (bB w b (.cells (bS cs o Z) T fz)):=by
   unfold Builtin.clear_
   simp only [List.getElem?_toArray,List.getElem?_cons_zero,Sem.run_bind,run_underlying ht,Result.andThen_ok,hz,hZ,aU,Sem.run_pure]
  simp only [execOp,resolve,List.map_toArray,List.map,hx,Sem.run_bind,Sem.run_pure,Result.andThen_ok,invoke,builtin,this]) aI
end
end Go.Proofs.YtgkdnnmcjjabdaaGreat
namespace Go.Proofs.YtgkdnnmcjjabdaaGreat
open Go.RowKit
inductive TU where
 | pl
 | it (k:IntKind)
 | st
 | sr (iN ea:List Nat)
 | sl (e:Nat)
 | ar (n e:Nat)
 | mp (k e:Nat)
structure TI where
 u:TU
 size:Nat
 bytes:Nat
 zero:List Value
abbrev aD:=List (Nat×TI)
def aD.at (T:aD) (t:Nat):Option TI:=
 match T with
 | []=>none
 | (k,v)::r=>bif k.beq t then some v else aD.at r t
def p9:List UInt8→List UInt8→Bool
 | [],[]=>true
 | a::r,b::s=>a.toNat.beq b.toNat&&p9 r s
 | _,_=>false
theorem Fp:∀ {a b:List UInt8},p9 a b=true→a=b
 | [],[],_=>rfl
 | a::r,b::s,h=>by simp only [p9,Bool.and_eq_true] at h;rw [UInt8.toNat_inj.1 (Nat.eq_of_beq_eq_true h.1),Fp h.2]
 | [],_::_,h=>by simp [p9] at h
 | _::_,[],h=>by simp [p9] at h
def sw:Value→Value→Bool
 | .bool a,.bool b=>a==b
 | .int k a,.int k' b=>decide (k=k')&&a==b
 | .string a,.string b=>p9 a.data.toList b.data.toList
 | .pointer none,.pointer none=>true
 | .slice none a b,.slice none c d=>a==c&&b==d
 | .map none,.map none=>true
 | .nilFunc,.nilFunc=>true
 | .nilIface,.nilIface=>true
 | _,_=>false
theorem y9 {a b:Value} (h:sw a b=true):a=b:=by
 unfold sw at h
 split at h
 ·simp only [beq_iff_eq] at h;rw [h]
 ·simp only [Bool.and_eq_true,decide_eq_true_eq,beq_iff_eq] at h;rw [h.1,h.2]
 ·rename_i a b
  have ha:a=b:=by
   cases a with | mk a=>cases b with | mk b=>
   have e:a=b:=Array.toList_inj.1 (Fp h)
   rw [e]
  rw [ha]
 ·rfl
 ·simp only [Bool.and_eq_true,beq_iff_eq] at h;rw [h.1,h.2]
 ·rfl
 ·rfl
 ·rfl
 ·simp at h
def qa:List Value→List Value→Bool
 | [],[]=>true
 | a::r,b::s=>sw a b&&qa r s
 | _,_=>false
theorem Fq:∀ {a b:List Value},qa a b=true→a=b
 | [],[],_=>rfl
 | [],_::_,h=>by simp [qa] at h
 | _::_,[],h=>by simp [qa] at h
 | a::r,b::s,h=>by
  simp only [qa,Bool.and_eq_true] at h
  rw [y9 h.1,Fq h.2]
def wz (P:Program) (t:Nat):List Nat→Nat→Bool
 | [],_=>true
 | o::r,i=>(match n8 P t i with | some o'=>o==o' | none=>false)&&wz P t r (i+1)
theorem za {P:Program} {t:Nat}:∀ {l:List Nat} {i:Nat},wz P t l i=true→∀ (f:Nat) off,l[f]?=some off→n8 P t (i+f)=some off
 | [],_,_,_,_,h=>by simp at h
 | o::r,i,hb,f,off,h=>by
  simp only [wz,Bool.and_eq_true] at hb
  cases f with
  | zero=>
   simp only [List.getElem?_cons_zero,Option.some.injEq] at h;subst h
   rw [Nat.add_zero]
   have:=hb.1
   split at this
   ·rename_i o' ho;simp only [beq_iff_eq] at this;rw [ho,this]
   ·simp at this
  | succ f=>
   simp only [List.getElem?_cons_succ] at h
   have:=za hb.2 f off h
   rw [← this];congr 1;omega
def pS (P:Program):List Field→Option (List (Nat×Nat))
 | []=>some []
 | f::r=>(match P.info? f.type,pS P r with | some i,some l=>some ((f.offset,i.size)::l) | _,_=>none)
def zO:List Nat→Nat→List (Nat×Nat)
 | [],_=>[]
 | [o],n=>[(o,n-o)]
 | o::o'::r,n=>(o,o'-o)::zO (o'::r) n
def l9 (P:Program) (t:Nat) (x:TI):Bool:=
 (match P.info? t with
 | some i=>i.size==x.size&&i.bytes==x.bytes&&(match i.zero with | some z=>qa z.cells.toList x.zero | none=>false)
 | none=>false) &&
 (match x.u,P.underlying t with
 | .pl,some _=>scalar P t
 | .it k,some (.int k')=>decide (k=k')
 | .st,some .string=>true
 | .sr iN ea,some (.struct fs)=>(fs.toList.map (·.type)==ea)&&iN.length==fs.size&&(pS P fs.toList==some (zO iN x.size))&&wz P t iN 0
 | .sl e,some (.slice e')=>e==e'
 | .ar n e,some (.array n' e')=>n==n'&&e==e'
 | .mp k e,some (.map k' e')=>k==k'&&e==e'
 | _,_=>false)
def aP (P:Program):aD→Bool
 | []=>true
 | (t,x)::r=>l9 P t x&&aP P r
variable {P:Program} {T:aD}
theorem oq (hT:aP P T=true) {t:Nat} {x:TI} (h:T.at t=some x):l9 P t x=true:=by
 induction T with
 | nil=>simp [aD.at] at h
 | cons y r ih=>
  obtain ⟨k,v⟩:=y
  simp only [aP,Bool.and_eq_true] at hT
  unfold aD.at at h
  cases hk:k.beq t with
  | true=>simp only [hk,cond_true,Option.some.injEq] at h;subst h;rw [← Nat.eq_of_beq_eq_true hk];exact hT.1
  | false=>simp only [hk,cond_false] at h;exact ih hT.2 h
theorem u9 (hT:aP P T=true) {t:Nat} {x:TI} (h:T.at t=some x):∃ i z,P.info? t=some i∧i.size=x.size∧i.bytes=x.bytes∧i.zero=some z∧z.cells.toList=x.zero:=by
 have:=oq hT h
 simp only [l9,Bool.and_eq_true] at this
 have h1:=this.1
 cases hi:P.info? t with
 | none=>simp [hi] at h1
 | some i=>
  simp only [hi,Bool.and_eq_true,beq_iff_eq] at h1
  obtain ⟨⟨ha,hb⟩,hc⟩:=h1
  cases hz:i.zero with
  | none=>simp [hz] at hc
  | some z=>simp only [hz] at hc;exact ⟨i,z,rfl,ha,hb,hz,Fq hc⟩
def dB (T:aD) (t:Nat):Option Nat:=match T.at t with | some x=>some x.size | none=>none
theorem dV (hT:aP P T=true) {t n:Nat} (h:dB T t=some n):(P.info? t).map (·.size)=some n:=by
 unfold dB at h
 split at h
 ·rename_i x hx
  obtain ⟨i,z,h1,h2,-⟩:=u9 hT hx
  simp only [Option.some.injEq] at h;rw [h1,Option.map_some,h2,h]
 ·simp at h
def ox (T:aD) (t:Nat):Option (List Value):=match T.at t with | some x=>some x.zero | none=>none
theorem va (hT:aP P T=true) {t:Nat} {l:List Value} (h:ox T t=some l):∃ z,z.cells=l.toArray∧∀ w:World,(zeroValue t).run P w=.ok z w:=by
 unfold ox at h
 split at h
 ·rename_i x hx
  obtain ⟨i,z,h1,-,-,h2,h3⟩:=u9 hT hx
  simp only [Option.some.injEq] at h;subst h
  exact ⟨z,by rw [← h3],fun w=>by simp [zeroValue,typeInfo,Sem.run_bind,h1,h2]⟩
 ·simp at h
inductive JV where
 | one
 | many (n:Nat)
def ma (T:aD) (t:Nat):Option JV:=match T.at t with
 | some x=>(match x.u with | .sr _ _=>some (.many x.size) | .ar _ _=>some (.many x.size) | _=>some .one)
 | none=>none
theorem zP (hT:aP P T=true) {t:Nat} (h:ma T t=some .one):scalar P t=true:=by
 unfold ma at h
 cases hx:T.at t with
 | none=>simp [hx] at h
 | some x=>
  simp only [hx] at h
  have:=oq hT hx
  simp only [l9,Bool.and_eq_true] at this
  have h2:=this.2
  unfold scalar
  cases hu:x.u<;>simp only [hu,Option.some.injEq,reduceCtorEq] at h h2<;>cases hP:P.underlying t<;>simp only [hP,Bool.false_eq_true] at h2
  ·rename_i u;unfold scalar at h2;rw [hP] at h2;exact h2
  all_goals (rename_i u;cases u<;>simp_all)
theorem zb (hT:aP P T=true) {t n:Nat} (h:ma T t=some (.many n)):m4 P t n=true:=by
 unfold ma at h
 cases hx:T.at t with
 | none=>simp [hx] at h
 | some x=>
  simp only [hx] at h
  obtain ⟨i,z,h1,hs,-⟩:=u9 hT hx
  have:=oq hT hx
  simp only [l9,Bool.and_eq_true] at this
  have h2:=this.2
  unfold m4
  cases hu:x.u<;>simp only [hu,Option.some.injEq,reduceCtorEq,JV.many.injEq] at h h2<;>cases hP:P.underlying t<;>simp only [hP,Bool.false_eq_true] at h2<;>rename_i u<;>cases u<;>simp_all
def Cj (T:aD) (t f:Nat):Option Nat:=match T.at t with | some ⟨.sr iN _,_,_,_⟩=>iN[f]? | _=>none
theorem Pp (hT:aP P T=true) {t f off:Nat} (h:Cj T t f=some off):n8 P t f=some off:=by
 unfold Cj at h
 split at h
 ·rename_i iN _ _ _ _ hx
  have:=oq hT hx
  simp only [l9,Bool.and_eq_true] at this
  have h2:=this.2
  cases hP:P.underlying t with
  | none=>simp [hP] at h2
  | some u=>
   simp only [hP] at h2
   cases u<;>simp only [Bool.false_eq_true,Bool.and_eq_true] at h2
   simpa using za h2.2 f off h
 ·simp at h
def Dh (T:aD) (t:Nat):Option (List (Nat×Nat)):=match T.at t with | some ⟨.sr iN _,n,_,_⟩=>some (zO iN n) | _=>none
theorem QU (hT:aP P T=true) {t:Nat} {pl:List (Nat×Nat)} (h:Dh T t=some pl):∃ fs,P.underlying t=some (.struct fs)∧pS P fs.toList=some pl:=by
 unfold Dh at h
 split at h
 ·rename_i iN _ n _ _ hx
  have:=oq hT hx
  simp only [l9,Bool.and_eq_true] at this
  have h2:=this.2
  simp only [Option.some.injEq] at h
  cases hP:P.underlying t with
  | none=>simp [hP] at h2
  | some u=>
   simp only [hP] at h2
   cases u<;>simp only [Bool.false_eq_true,Bool.and_eq_true,beq_iff_eq] at h2
   rename_i fs
   exact ⟨fs,rfl,by rw [h2.1.2,h]⟩
 ·simp at h
def Di (T:aD) (t f:Nat):Option (Nat×Nat):=match T.at t with | some ⟨.sr iN ea,_,_,_⟩=>(match iN[f]?,ea[f]? with | some o,some ty=>some (o,ty) | _,_=>none) | _=>none
theorem QV (hT:aP P T=true) {t f o ty:Nat} (h:Di T t f=some (o,ty)):∃ fs x,P.underlying t=some (.struct fs)∧fs[f]?=some x∧x.offset=o∧x.type=ty:=by
 unfold Di at h
 split at h
 ·rename_i iN ea _ _ _ hx
  have:=oq hT hx
  simp only [l9,Bool.and_eq_true] at this
  have h2:=this.2
  split at h
  ·rename_i o' V7 h3 h4
   simp only [Option.some.injEq,Prod.mk.injEq] at h;obtain ⟨rfl,rfl⟩:=h
   cases hP:P.underlying t with
   | none=>simp [hP] at h2
   | some u=>
    simp only [hP] at h2
    cases u<;>simp only [Bool.false_eq_true,Bool.and_eq_true,beq_iff_eq] at h2
    rename_i fs
    have ho:=za h2.2 f _ h3
    rw [Nat.zero_add] at ho
    rw [← h2.1.1.1,List.getElem?_map,Option.map_eq_some_iff] at h4
    obtain ⟨x,hx,rfl⟩:=h4
    have kd:fs[f]?=some x:=by rw [← Array.getElem?_toList];exact hx
    refine ⟨fs,x,rfl,kd,?_,rfl⟩
    unfold n8 at ho
    rw [hP] at ho
    simp only [kd] at ho
    split at ho
    ·split at ho
     ·simp at ho
     ·simpa using ho
    ·simp at ho
  ·simp at h
 ·simp at h
inductive Dj where
 | sl (e:Nat)
 | ar (n e:Nat)
 | mp (k e:Nat)
 | it (k:IntKind)
 | st
 | ot
def bE (T:aD) (t:Nat):Option Dj:=match T.at t with
 | some x=>(match x.u with | .sl e=>some (.sl e) | .ar n e=>some (.ar n e) | .mp k e=>some (.mp k e) | .it k=>some (.it k) | .st=>some .st | _=>some .ot)
 | none=>none
theorem bj (hT:aP P T=true) {t:Nat} {k:Dj} (h:bE T t=some k):match k with | .sl e=>P.underlying t=some (.slice e) | .ar n e=>P.underlying t=some (.array n e) | .mp k e=>P.underlying t=some (.map k e) | .it k=>P.underlying t=some (.int k) | .st=>P.underlying t=some .string | .ot=>(P.underlying t).isSome=true:=by
 unfold bE at h
 cases hx:T.at t with
 | none=>simp [hx] at h
 | some x=>
  simp only [hx] at h
  have:=oq hT hx
  simp only [l9,Bool.and_eq_true] at this
  have h2:=this.2
  cases hu:x.u<;>simp only [hu,Option.some.injEq] at h h2<;>subst h<;>cases hP:P.underlying t<;>simp only [hP,Bool.false_eq_true] at h2<;>rename_i u<;>cases u<;>simp_all
theorem NH (hT:aP P T=true) {t:Nat} {k:Dj} (h:bE T t=some k):(P.underlying t).isSome=true:=by
 have:=bj hT h
 cases k<;>simp_all
end Go.Proofs.YtgkdnnmcjjabdaaGreat
namespace Go.Proofs.YtgkdnnmcjjabdaaGreat
open Go.RowKit
inductive DV where
 | v (x:Value)
 | ro (k:Nat) (rows:List (List DV))
 | em (T k:Nat) (rows:List (List DV))
 | ag (l:List DV)
 | tu (l:List DV)
 | pb (T:Nat) (cells:List DV)
 | jk
inductive MK where
 | i (k:IntKind) (n:Int)
 | a (l:List (IntKind×Int))
deriving DecidableEq
def MK.val:MK→Value
 | .i k n=>.int k n
 | .a l=>.agg (l.map fun x=>.int x.1 x.2).toArray
structure RF where
 ps:Array Tmp
 cm:Code
 body:Code
inductive AV where
 | d (x:DV)
 | sl (u n:Nat)
 | sb (u k o n:Nat)
 | sf (u k o n:Nat) (q:Option Nat)
 | pt (u o:Nat)
 | mv (u:Nat)
 | yl (u:Nat)
 | ep (u k i o:Nat)
 | rp (row:List DV) (o:Nat)
 | bt (bs:List UInt8)
 | uk
 | fn (f:Nat) (bP:List AV)
 | fm (f:Nat) (first:List AV)
 | ag (l:List AV)
 | tu (l:List AV)
abbrev DV.u (n:Nat):DV:=.v (.int .u64 ((n:Nat):Int))
abbrev DV.n (n:Nat):DV:=.v (.int .i64 ((n:Nat):Int))
abbrev DV.z (n:Int):DV:=.v (.int .i64 n)
abbrev AV.u (n:Nat):AV:=.d (.u n)
abbrev AV.n (n:Nat):AV:=.d (.n n)
abbrev AV.z (n:Int):AV:=.d (.z n)
inductive LS where
 | ready
 | busy
 | left
def LS.state:LS→LoopState
 | .ready=>.ready
 | .busy=>.busy
 | .left=>.done
def LS.jt:LS→Option Code
 | .left=>some .ret
 | _=>none
inductive af where
 | bx (T:Nat) (cells:List AV)
 | rw (T k:Nat) (rows:List (List DV))
 | tw (a:Option Addr) (c T k:Nat) (rows:List (List DV))
 | mp (T c:Nat) (es:List (Nat×MK×DV))
 | it (um:Option Nat) (since:Nat) (seen:List Nat) (c:Nat)
 | mu (T c:Nat) (es:List (MK×DV))
 | fl (T k m:Nat) (cells:List AV)
 | mf (T c:Nat) (es:List (Nat×MK×AV))
 | il (um:Option Nat) (since last c:Nat)
 | lp (s:LS) (f sz:Nat) (E:List (Nat×AV)) (c:RF)
 | nm (u b:Nat)
 | gw (g:Nat) (row:List DV)
 | dead
def lay (n:Nat) (X:Nat→List Value):List Value:=(List.range n).flatMap X
def bq (n k:Nat) (F:Nat→Nat→ah):ah:=(List.range n).flatMap fun i=>(List.range k).flatMap (F i)
inductive bw (K:World→Prop):DV→Value→ah→Prop where
 | v (x:Value):bw K (.v x) x []
 | jk (x:Value):bw K .jk x []
 | ro {k:Nat} {rows:List (List DV)} {y:Value} (X:Nat→List Value) (hl:∀ (i:Nat) r,rows[i]?=some r→r.length=k∧(X i).length=k)
   (hy:∃ a c,y=.slice a rows.length c∧rows.length≤c) (hs:∀ w,K w→Src w k y rows.length (lay rows.length X))
   (hr:∀ (i:Nat) (r:List DV) (j:Nat) c x,rows[i]?=some r→r[j]?=some c→(X i)[j]?=some x→bw K c x []):bw K (.ro k rows) y []
 | em {T k:Nat} {rows:List (List DV)} {y:Value} {H0:ah} (X:Nat→List Value) (F:Nat→Nat→ah) (hl:∀ (i:Nat) r,rows[i]?=some r→r.length=k∧(X i).length=k)
   (hs:dI T k y rows.length (lay rows.length X) H0)
   (hr:∀ (i:Nat) (r:List DV) (j:Nat) c x,rows[i]?=some r→r[j]?=some c→(X i)[j]?=some x→bw K c x (F i j)):bw K (.em T k rows) y (H0++bq rows.length k F)
 | ag {l:List DV} (ys:List Value) (F:Nat→ah) (hl:ys.length=l.length) (hr:∀ (j:Nat) c y,l[j]?=some c→ys[j]?=some y→bw K c y (F j)):bw K (.ag l) (.agg ys.toArray) ((List.range l.length).flatMap F)
 | tu {l:List DV} (ys:List Value) (F:Nat→ah) (hl:ys.length=l.length) (hr:∀ (j:Nat) c y,l[j]?=some c→ys[j]?=some y→bw K c y (F j)):bw K (.tu l) (.tuple ys.toArray) ((List.range l.length).flatMap F)
 | pb {T b:Nat} {l:List DV} (ys:List Value) (F:Nat→ah) (hl:ys.length=l.length) (hr:∀ (j:Nat) c y,l[j]?=some c→ys[j]?=some y→bw K c y (F j)):bw K (.pb T l) (.pointer (some ⟨b,0,none⟩)) ((b,.cells ys.toArray T (0,0))::(List.range l.length).flatMap F)
abbrev Beta:=List (Option Addr×Nat)
inductive aq (K:World→Prop) (β:Beta):AV→Value→Prop where
 | d {x:DV} {y:Value} (h:bw K x y []):aq K β (.d x) y
 | sl {u n c:Nat} {a:Option Addr} (h:β[u]?=some (a,c)):aq K β (.sl u n) (.slice a n c)
 | sb {u k o n b c c':Nat} (h:β[u]?=some (some ⟨b,0,none⟩,c)):aq K β (.sb u k o n) (.slice (some ⟨b,o*k,none⟩) n c')
 | sf {u k o n b c cap:Nat} {q:Option Nat} (h:β[u]?=some (some ⟨b,0,none⟩,c)) (hc:o+cap≤c) (hn:n≤cap) (hq:match q with | none=>o+cap=c | some q=>cap=q):aq K β (.sf u k o n q) (.slice (some ⟨b,o*k,none⟩) n cap)
 | mv {u b c:Nat} (h:β[u]?=some (some ⟨b,0,none⟩,c)):aq K β (.mv u) (.map (some b))
 | yl {u b c:Nat} (h:β[u]?=some (some ⟨b,0,none⟩,c)):aq K β (.yl u) (.func (.yield b) #[] #[])
 | pt {u o b c:Nat} (h:β[u]?=some (some ⟨b,0,none⟩,c)):aq K β (.pt u o) (.pointer (some ⟨b,o,none⟩))
 | ep {u k i o b c:Nat} (h:β[u]?=some (some ⟨b,0,none⟩,c)):aq K β (.ep u k i o) (.pointer (some ⟨b,i*k+o,none⟩))
 | rp {row:List DV} {o:Nat} (a:Addr) (X:List Value) (hl:X.length=row.length) (hc:∀ w,K w→∀ (j:Nat) x,X[j]?=some x→w.cell? (a.add j)=some x)
   (hr:∀ (j:Nat) c x,row[j]?=some c→X[j]?=some x→bw K c x []):aq K β (.rp row o) (.pointer (some (a.add o)))
 | bt {bs:List UInt8} {y:Value} (h:bw K (.ro 1 (bs.map fun b=>[DV.v (.int .u8 b.toNat)])) y []) (hn:bs.length≤1048576):aq K β (.bt bs) y
 | uk {y:Value} (h:cD y=true):aq K β .uk y
 | fn {f:Nat} {bP:List AV} (ys:List Value) (hl:ys.length=bP.length) (hr:∀ (j:Nat) c y,bP[j]?=some c→ys[j]?=some y→aq K β c y):aq K β (.fn f bP) (.func (.func f) #[] ys.toArray)
 | fm {f:Nat} {first:List AV} (ys:List Value) (hl:ys.length=first.length) (hr:∀ (j:Nat) c y,first[j]?=some c→ys[j]?=some y→aq K β c y):aq K β (.fm f first) (.func (.func f) ys.toArray #[])
 | ag {l:List AV} (ys:List Value) (hl:ys.length=l.length) (hr:∀ (j:Nat) c y,l[j]?=some c→ys[j]?=some y→aq K β c y):aq K β (.ag l) (.agg ys.toArray)
 | tu {l:List AV} (ys:List Value) (hl:ys.length=l.length) (hr:∀ (j:Nat) c y,l[j]?=some c→ys[j]?=some y→aq K β c y):aq K β (.tu l) (.tuple ys.toArray)
theorem bw.mono {K K':World→Prop} (h:∀ w,K' w→K w):∀ {x:DV} {y:Value} {H:ah},bw K x y H→bw K' x y H:=by
 intro x y H r
 induction r with
 | v x=>exact .v x
 | jk x=>exact .jk x
 | ro X hl hy hs hr ih=>exact .ro X hl hy (fun w hw=>hs w (h w hw)) (fun i r j c x h1 h2 h3=>ih i r j c x h1 h2 h3)
 | em X F hl hs hr ih=>exact .em X F hl hs (fun i r j c x h1 h2 h3=>ih i r j c x h1 h2 h3)
 | ag ys F hl hr ih=>exact .ag ys F hl ih
 | tu ys F hl hr ih=>exact .tu ys F hl ih
 | pb ys F hl hr ih=>exact .pb ys F hl ih
theorem bw.slice {K:World→Prop} {x:DV} {y:Value} {H:ah} (r:bw K x y H) (h:(∃ k rows,x=.ro k rows)∨∃ T k rows,x=.em T k rows):∃ a n c,y=.slice a n c:=by
 cases r with
 | v=>simp at h
 | jk=>simp at h
 | ro X hl hy hs hr=>obtain ⟨a,c,rfl,-⟩:=hy;exact ⟨_,_,_,rfl⟩
 | em X F hl hs hr=>obtain ⟨a,c,rfl⟩:=hs.len;exact ⟨_,_,_,rfl⟩
 | ag=>simp at h
 | tu=>simp at h
 | pb=>simp at h
def Ext (β β':Beta):Prop:=∀ (u:Nat) x,β[u]?=some x→β'[u]?=some x
theorem Ext.refl (β:Beta):Ext β β:=fun _ _ h=>h
theorem Ext.app (β γ:Beta):Ext β (β++γ):=fun u x h=>by
 obtain ⟨hu,-⟩:=List.getElem?_eq_some_iff.1 h
 rw [List.getElem?_append_left hu];exact h
theorem aq.mono {K K':World→Prop} {β β':Beta} (h:∀ w,K' w→K w) (e:Ext β β'):∀ {x:AV} {y:Value},aq K β x y→aq K' β' x y:=by
 intro x y r
 induction r with
 | d hd=>exact .d (hd.mono h)
 | sl hb=>exact .sl (e _ _ hb)
 | sb hb=>exact .sb (e _ _ hb)
 | sf hb hc hn hq=>exact .sf (e _ _ hb) hc hn hq
 | mv hb=>exact .mv (e _ _ hb)
 | yl hb=>exact .yl (e _ _ hb)
 | pt hb=>exact .pt (e _ _ hb)
 | ep hb=>exact .ep (e _ _ hb)
 | rp a X hl hc hr=>exact .rp a X hl (fun w hw=>hc w (h w hw)) (fun j c x h1 h2=>(hr j c x h1 h2).mono h)
 | bt hd hn=>exact .bt (hd.mono h) hn
 | uk hu=>exact .uk hu
 | fn ys hl hr ih=>exact .fn ys hl ih
 | fm ys hl hr ih=>exact .fm ys hl ih
 | ag ys hl hr ih=>exact .ag ys hl ih
 | tu ys hl hr ih=>exact .tu ys hl ih
def cV (es:List (Nat×MK×DV)) (vs:List Value):List MapEntry:=(es.zip vs).map fun x=>{ key:=x.1.2.1.val,val:=x.2,born:=x.1.1 }
def dC (es:List (Nat×MK×AV)) (vs:List Value):List MapEntry:=(es.zip vs).map fun x=>{ key:=x.1.2.1.val,val:=x.2,born:=x.1.1 }
theorem vb (g:Nat×MK×AV→Nat×MK×AV) (h:∀ e,(g e).1=e.1∧(g e).2.1=e.2.1):∀ (es:List (Nat×MK×AV)) (vs:List Value),dC (es.map g) vs=dC es vs
 | [],_=>rfl
 | e::r,[]=>rfl
 | e::r,v::vs=>by have:=vb g h r vs;simp only [dC,List.map_cons,List.zip_cons_cons] at this ⊢;rw [this,(h e).1,(h e).2]
inductive bn (K:World→Prop) (β:Beta):Nat→af→ah→Prop where
 | dead (u:Nat):bn K β u .dead []
 | nm {u v b c:Nat} (hb:β[v]?=some (some ⟨b,0,none⟩,c)):bn K β u (.nm v b) []
 | gw {u g:Nat} {row:List DV} (X:List Value) (hl:X.length=row.length) (hc:∀ w,K w→∀ (j:Nat) x,X[j]?=some x→w.cell? ((⟨g,0,none⟩:Addr).add j)=some x)
   (hr:∀ (j:Nat) c x,row[j]?=some c→X[j]?=some x→bw K c x []):bn K β u (.gw g row) []
 | bx {u b c T:Nat} {cells:List AV} (hb:β[u]?=some (some ⟨b,0,none⟩,c)) (ys:List Value) (hl:ys.length=cells.length) (hr:∀ (j:Nat) c y,cells[j]?=some c→ys[j]?=some y→aq K β c y):
   bn K β u (.bx T cells) [(b,.cells ys.toArray T (0,0))]
 | rw {u c T k:Nat} {a:Option Addr} {rows:List (List DV)} {H0:ah} (hb:β[u]?=some (a,c)) (X:Nat→List Value) (F:Nat→Nat→ah) (hl:∀ (i:Nat) r,rows[i]?=some r→r.length=k∧(X i).length=k)
   (hs:dI T k (.slice a rows.length c) rows.length (lay rows.length X) H0)
   (hr:∀ (i:Nat) (r:List DV) (j:Nat) c x,rows[i]?=some r→r[j]?=some c→(X i)[j]?=some x→bw K c x (F i j)):
   bn K β u (.rw T k rows) (H0++bq rows.length k F)
 | tw {u c T k:Nat} {a:Option Addr} {rows:List (List DV)} {H0:ah} (hb:β[u]?=some (a,c)) (X:Nat→List Value) (F:Nat→Nat→ah) (hl:∀ (i:Nat) r,rows[i]?=some r→r.length=k∧(X i).length=k)
   (hs:dI T k (.slice a rows.length c) rows.length (lay rows.length X) H0)
   (hr:∀ (i:Nat) (r:List DV) (j:Nat) c x,rows[i]?=some r→r[j]?=some c→(X i)[j]?=some x→bw K c x (F i j)):
   bn K β u (.tw a c T k rows) (H0++bq rows.length k F)
 | mp {u b c T ck:Nat} {es:List (Nat×MK×DV)} (hb:β[u]?=some (some ⟨b,0,none⟩,c)) (vs:List Value) (G:Nat→ah) (hl:vs.length=es.length) (hr:∀ (j:Nat) e y,es[j]?=some e→vs[j]?=some y→bw K e.2.2 y (G j)):
   bn K β u (.mp T ck es) ((b,.map (cV es vs).toArray ck)::(List.range es.length).flatMap G)
 | it {u b bm c since ck:Nat} {um:Option Nat} {seen:List Nat} (hb:β[u]?=some (some ⟨b,0,none⟩,c)) (hm:∀ v,um=some v→∃ c',β[v]?=some (some ⟨bm,0,none⟩,c')):
   bn K β u (.it um since seen ck) [(b,.mapIter (some bm) since seen.toArray ck)]
 | mu {u b c T ck:Nat} {es:List (MK×DV)} (fo:List (Nat×MK×DV)) (hp:(fo.map fun e=>e.2).Perm es) (hn:(fo.map fun e=>e.1).Nodup) (aH:∀ e ∈ fo,e.1<ck) (hb:β[u]?=some (some ⟨b,0,none⟩,c)) (vs:List Value) (G:Nat→ah) (hl:vs.length=fo.length) (hr:∀ (j:Nat) e y,fo[j]?=some e→vs[j]?=some y→bw K e.2.2 y (G j)):
   bn K β u (.mu T ck es) ((b,.map (cV fo vs).toArray ck)::(List.range fo.length).flatMap G)
 | fl {u b c T k m:Nat} {cells:List AV} (hb:β[u]?=some (some ⟨b,0,none⟩,c)) (ys:List Value) (hl:ys.length=c*k) (hm:cells.length=m*k) (hc:m≤c) (hr:∀ (j:Nat) c y,cells[j]?=some c→ys[j]?=some y→aq K β c y):
   bn K β u (.fl T k m cells) [(b,.cells ys.toArray T (0,0))]
 | mf {u b c T ck:Nat} {es:List (Nat×MK×AV)} (hb:β[u]?=some (some ⟨b,0,none⟩,c)) (vs:List Value) (hl:vs.length=es.length) (hr:∀ (j:Nat) e y,es[j]?=some e→vs[j]?=some y→aq K β e.2.2 y):
   bn K β u (.mf T ck es) [(b,.map (dC es vs).toArray ck)]
 | il {u b bm c since last ck:Nat} {um:Option Nat} {seen:List Nat} (hb:β[u]?=some (some ⟨b,0,none⟩,c)) (hm:∀ v,um=some v→∃ c',β[v]?=some (some ⟨bm,0,none⟩,c')):
   bn K β u (.il um since last ck) [(b,.mapIter (some bm) since (seen++[last]).toArray ck)]
 | lp {u b c f sz nB:Nat} {bz:LS} {E:List (Nat×AV)} {rf:RF} {tmps:Array Value} (hb:β[u]?=some (some ⟨b,0,none⟩,c)) (aX:tmps.size=sz) (hr:∀ x ∈ E,aq K β x.2 (tmps.getD x.1 undef)):
   bn K β u (.lp bz f sz E rf) [(b,.loop { state:=bz.state,pending:=bz.jt,fn:=f,tmps,params:=rf.ps,assign:=rf.cm,body:=rf.body,defers:=nB })]
structure AS where
 E:List (Nat×AV)
 M:List af
structure RM (D:List Nat) (w0:World) (K0:World→Prop) (M:List af) (β:Beta) (F:Nat→ah) (I:ah) (w:World):Prop where
 len:β.length=M.length
 blk:∀ (u:Nat) blk,M[u]?=some blk→bn (fun w=>K0 w∧ai w I) β u blk (F u)
 st:St D w0 w ((List.range M.length).flatMap F++I)
def RE (D:List Nat) (w0:World) (K0:World→Prop) (sz:Nat) (s:AS) (a:Act) (w:World):Prop:=
 a.tmps.size=sz∧a.defers=[]∧∃ β F I,RM D w0 K0 s.M β F I w∧∀ x ∈ s.E,aq (fun w=>K0 w∧ai w I) β x.2 (a.eval (.tmp x.1))
end Go.Proofs.YtgkdnnmcjjabdaaGreat
namespace Go.Proofs.YtgkdnnmcjjabdaaGreat
open Go.RowKit Go.Maps
section
variable {κ:Type} [DecidableEq κ]
end
section
variable {κ:Type} [DecidableEq κ] {P:Program} {K e t:TypeId} {enc:κ→Value} {o:Obj} {l8:List (κ×Value)} {w:World} {r:Nat}
theorem mL {es:Array MapEntry} {clock:Nat} (hb:w.heap[r]?=some (.map es clock)):(getObj r).run P w=.ok (.map es clock) w:=by simp [getObj,Sem.run,hb]
theorem rD {es:Array MapEntry} {clock:Nat} {o':Obj} (hb:w.heap[r]?=some (.map es clock)):(setObj r o').run P w=.ok () (bB w r o'):=by simp [setObj,Sem.run,hb,bB]
end
section
variable {P:Program} {ρ:Operand→Value} {w w':World} {Φ:Value→World→Prop} {d:Option Tmp} {ty t u:TypeId} {pos:String} {aft:Array Edge} {gd:Option (Nat×Bool)} {x y z:Operand} {m k v r:Value}
theorem Ez (hx:ρ x=m) (hy:ρ y=k) (hz:ρ z=v) (hr:(Instr.mapUpdate t m k v).run P w=.ok () w') (aI:Φ undef w'):aS P ⟨d,.mapUpdate t x y z,ty,pos,aft,gd⟩ ρ w Φ:=
 .skip (by simp only [execOp,hx,hy,hz,Sem.run_bind,hr,Result.andThen_ok,Sem.run_pure]) aI
theorem NI (hx:ρ x=m) (hy:ρ y=k) (hr:(Builtin.delete_ #[t,u] ty #[m,k]).run P w=.ok r w') (aI:Φ r w'):aS P ⟨d,.call ⟨.builtin .delete,#[x,y],#[t,u]⟩,ty,pos,aft,gd⟩ ρ w Φ:=
 .pure (by simp only [execOp,resolve,List.map_toArray,List.map,hx,hy,Sem.run_bind,Sem.run_pure,Result.andThen_ok,invoke,builtin,hr]) aI
end
theorem St.swap {D:List Nat} {w0 w:World} {A B C:ah} (s:St D w0 w (A++(B++C))):St D w0 w (B++(A++C)):=s.perm (List.perm_append_comm_assoc A B C)
end Go.Proofs.YtgkdnnmcjjabdaaGreat
namespace Go.Proofs.YtgkdnnmcjjabdaaGreat
open Go.RowKit Go.Maps
section
variable {P:Program} {ρ:Operand→Value} {w:World} {Φ:Value→World→Prop} {d:Option Tmp} {ty t e:TypeId} {pos:String} {aft:Array Edge} {gd:Option (Nat×Bool)} {x:Operand} {a:Addr} {b o n c size:Nat}
theorem EJ (aI:∀ b w',Gr w w'→cQ w w' [(b,.map #[] 0)]→Φ (.map (some b)) w'):aS P ⟨d,.makeMap t none,ty,pos,aft,gd⟩ ρ w Φ:=
 .pure (v:=.map (some w.heap.size)) (w':=w.alloc (.map #[] 0)) (by simp [execOp,Instr.makeMap,Sem.run_bind,newObj,Sem.run]) (aI _ _ (Gr.alloc _ _) (cQ.alloc _ _))
end
theorem Addr.n9 (a:Addr) (m n:Nat):(a.add m).add n=a.add (m+n):=by
 unfold Addr.add
 split
 ·rename_i h;subst h;simp
 ·split
  ·rename_i h;subst h;simp;omega
  ·split
   ·omega
   ·cases a;simp;omega
theorem Src.row {w:World} {size m:Nat} {v:Value} {X:List Value} (h:Src w size v m X) {i:Nat} (hi:i<m):∃ a c,v=.slice (some a) m c∧∀ j (hj:j<size) (hk:i*size+j<X.length),w.cell? ((a.add (i*size)).add j)=some X[i*size+j]:=by
 rcases h.2 with ⟨h0,_⟩ | ⟨a,c,hv,hc⟩
 ·omega
 ·refine ⟨a,c,hv,fun j hj hk=>?_⟩
  rw [Addr.n9];exact hc _ hk
end Go.Proofs.YtgkdnnmcjjabdaaGreat
namespace Go.Proofs.YtgkdnnmcjjabdaaGreat
open Go.RowKit
section
variable {P:Program} {ρ:Operand→Value} {w:World} {Φ:Value→World→Prop} {d:Option Tmp} {ty t t' e:TypeId} {pos:String} {aft:Array Edge} {gd:Option (Nat×Bool)} {x y:Operand}
theorem Ew {b n k:Nat} {c:Array Value} {fz:Nat×Nat} (ht:P.underlying t=some (.slice e)) (he:P.underlying e=some (.int .u8)) (hx:ρ x=.slice (some ⟨b,0,none⟩) n k) (hb:w.heap[b]?=some (.cells c e fz))
  (aI:∀ fT,Φ (.slice (some ⟨b,0,none⟩) n k) (bB w b (.cells c e fT))):aS P ⟨d,.convert t t x,ty,pos,aft,gd⟩ ρ w Φ:=by
 obtain ⟨lo,hi⟩:=fz
 refine .pure (v:=.slice (some ⟨b,0,none⟩) n k) (w':=bB w b (.cells c e (if lo==hi then (c.size,c.size+1) else (min lo c.size,max hi (c.size+1))))) ?_ (aI _)
 have mb:w.shape? b=some (e,c.size):=by simp [World.shape?,hb]
 have iA:w.freeze ⟨b,c.size,none⟩ 1=bB w b (.cells c e (if lo==hi then (c.size,c.size+1) else (min lo c.size,max hi (c.size+1)))):=by
  unfold World.freeze bB
  rw [if_neg (by decide)]
  congr 1
  apply Array.ext_getElem?
  intro j
  have aH:=jK hb
  rw [Array.getElem?_modify,Array.getElem?_setIfInBounds]
  by_cases e':b=j
  ·subst e'
   have hg:w.heap[b]=.cells c e (lo,hi):=by rw [Array.getElem?_eq_getElem aH] at hb;exact Option.some.inj hb
   simp [aH,hg]
  ·simp [e']
 simp [execOp,hx,convert,Sem.run_bind,run_underlying ht,run_underlying he,markStringish,mb,iA]
theorem yE {v:Value} {l:List UInt8} (ht:P.underlying t=some (.slice e)) (he:P.underlying e=some (.int .u8)) (hd:P.underlying t'=some .string) (hx:ρ x=v) (hs:Src w 1 v l.length (l.map fun b:UInt8=>.int .u8 b.toNat)) (aI:Φ (.string ⟨l.toArray⟩) w):aS P ⟨d,.convert t t' x,ty,pos,aft,gd⟩ ρ w Φ:=by
 refine .pure (v:=.string ⟨l.toArray⟩) (w':=w) ?_ aI
 have key:(convert t t' v).run P w=.ok (.string ⟨l.toArray⟩) w:=by
  rcases hs.2 with ⟨h0,a,c,rfl⟩ | ⟨a,c,rfl,h⟩
  ·have hl:l=[]:=List.eq_nil_of_length_eq_zero h0
   subst hl
   cases a with
   | none=>rw [run_convert_bytes_string w t t' e none 0 c ht he hd];simp [Conv.bytesToString];rfl
   | some a=>exact run_convert_bytes_back w t t' e a c [] ht he hd (by simp)
  ·exact run_convert_bytes_back w t t' e a c l ht he hd (fun j hj=>by rw [h j (by simpa using hj)];simp)
 simp only [execOp,hx,Sem.run_bind,key,Result.andThen_ok,Sem.run_pure]
theorem NJ {a b:List UInt8} {c:Bool} (h:ρ x=.string ⟨a.toArray⟩) (h':ρ y=.string ⟨b.toArray⟩) (hc:(a==b)=c) (aI:Φ (.bool c) w):aS P ⟨d,.binOp .eql t x y t',ty,pos,aft,gd⟩ ρ w Φ:=by
 subst hc;exact .pure (v:=.bool (a==b)) (by simp [execOp,h,h',eqGuard,binOp,Op.stringOp]) aI
theorem NK {a b:List UInt8} {c:Bool} (h:ρ x=.string ⟨a.toArray⟩) (h':ρ y=.string ⟨b.toArray⟩) (hc:(a != b)=c) (aI:Φ (.bool c) w):aS P ⟨d,.binOp .neq t x y t',ty,pos,aft,gd⟩ ρ w Φ:=by
 subst hc;exact .pure (v:=.bool (a != b)) (by simp [execOp,h,h',eqGuard,binOp,Op.stringOp,bne]) aI
end
end Go.Proofs.YtgkdnnmcjjabdaaGreat
namespace Go.Proofs.YtgkdnnmcjjabdaaGreat
open Go.RowKit
section
variable {P:Program} {ρ:Operand→Value} {w:World} {Φ:Value→World→Prop} {d:Option Tmp} {ty t t':TypeId} {pos:String} {aft:Array Edge} {gd:Option (Nat×Bool)} {x y:Operand} {k yk:IntKind} {a b c:Int}
theorem RZ (h:ρ x=.int k a) (h':ρ y=.int k b) (hb:b≠0) (hc:k.wrap (a.tdiv b)=c) (aI:Φ (.int k c) w):aS P ⟨d,.binOp .quo t x y t',ty,pos,aft,gd⟩ ρ w Φ:=by
 subst hc;exact .pure (v:=.int k (k.wrap (a.tdiv b))) (by simp [execOp,h,h',eqGuard,binOp,Op.intDiv,hb]) aI
theorem R6 (h:ρ x=.int k a) (h':ρ y=.int k b) (hb:b≠0) (hc:a.tmod b=c) (aI:Φ (.int k c) w):aS P ⟨d,.binOp .rem t x y t',ty,pos,aft,gd⟩ ρ w Φ:=by
 subst hc;exact .pure (v:=.int k (a.tmod b)) (by simp [execOp,h,h',eqGuard,binOp,Op.intDiv,hb]) aI
theorem R7 (h:ρ x=.int k a) (h':ρ y=.int yk b) (hb:0≤b) (hc:k.wrap (a*2 ^ (min b.toNat k.bits))=c) (aI:Φ (.int k c) w):aS P ⟨d,.binOp .shl t x y t',ty,pos,aft,gd⟩ ρ w Φ:=by
 subst hc;exact .pure (v:=.int k (k.wrap (a*2 ^ (min b.toNat k.bits)))) (by simp [execOp,h,h',eqGuard,binOp,Op.shift,show ¬ b<0 by omega]) aI
theorem R8 (h:ρ x=.int k a) (h':ρ y=.int k b) (hc:k.wrap ((BitVec.ofInt k.bits a ^^^ BitVec.ofInt k.bits b).toNat:Int)=c) (aI:Φ (.int k c) w):aS P ⟨d,.binOp .xor t x y t',ty,pos,aft,gd⟩ ρ w Φ:=by
 subst hc;exact .pure (v:=.int k (k.wrap ((BitVec.ofInt k.bits a ^^^ BitVec.ofInt k.bits b).toNat:Int))) (by simp [execOp,h,h',eqGuard,binOp,Op.intBits]) aI
end
end Go.Proofs.YtgkdnnmcjjabdaaGreat
namespace Go.Proofs.YtgkdnnmcjjabdaaGreat
open Go.RowKit
section
variable {P:Program} {ρ:Operand→Value} {w:World} {Φ:Value→World→Prop} {d:Option Tmp} {ty t t':TypeId} {pos:String} {aft:Array Edge} {gd:Option (Nat×Bool)} {x y:Operand} {k k' yk:IntKind} {a b c:Int}
theorem R9 (h:ρ x=.int k a) (hc:k.wrap ((BitVec.ofInt k.bits (if k.signed then -1 else k.max) ^^^ BitVec.ofInt k.bits a).toNat:Int)=c) (aI:Φ (.int k c) w):aS P ⟨d,.unOp .xor t x,ty,pos,aft,gd⟩ ρ w Φ:=by
 subst hc;exact .pure (v:=.int k (k.wrap ((BitVec.ofInt k.bits (if k.signed then -1 else k.max) ^^^ BitVec.ofInt k.bits a).toNat:Int))) (by simp [execOp,h,Op.unary,Op.intBits]) aI
theorem SS (h:ρ x=.int k a) (h':ρ y=.int k b) (hc:k.wrap ((BitVec.ofInt k.bits a ||| BitVec.ofInt k.bits b).toNat:Int)=c) (aI:Φ (.int k c) w):aS P ⟨d,.binOp .or t x y t',ty,pos,aft,gd⟩ ρ w Φ:=by
 subst hc;exact .pure (v:=.int k (k.wrap ((BitVec.ofInt k.bits a ||| BitVec.ofInt k.bits b).toNat:Int))) (by simp [execOp,h,h',eqGuard,binOp,Op.intBits]) aI
theorem Sa (h:ρ x=.int k a) (h':ρ y=.int k b) (hc:k.wrap ((BitVec.ofInt k.bits a &&& BitVec.ofInt k.bits b).toNat:Int)=c) (aI:Φ (.int k c) w):aS P ⟨d,.binOp .and t x y t',ty,pos,aft,gd⟩ ρ w Φ:=by
 subst hc;exact .pure (v:=.int k (k.wrap ((BitVec.ofInt k.bits a &&& BitVec.ofInt k.bits b).toNat:Int))) (by simp [execOp,h,h',eqGuard,binOp,Op.intBits]) aI
theorem Sb (h:ρ x=.int k a) (h':ρ y=.int yk b) (hb:0≤b) (hc:a.fdiv (2 ^ (min b.toNat k.bits))=c) (aI:Φ (.int k c) w):aS P ⟨d,.binOp .shr t x y t',ty,pos,aft,gd⟩ ρ w Φ:=by
 subst hc;exact .pure (v:=.int k (a.fdiv (2 ^ (min b.toNat k.bits)))) (by simp [execOp,h,h',eqGuard,binOp,Op.shift,show ¬ b<0 by omega]) aI
theorem Sc (h:ρ x=.int k a) (h':ρ y=.int k b) (hc:k.wrap (a*b)=c) (aI:Φ (.int k c) w):aS P ⟨d,.binOp .mul t x y t',ty,pos,aft,gd⟩ ρ w Φ:=by
 subst hc;exact .pure (v:=.int k (k.wrap (a*b))) (by simp [execOp,h,h',eqGuard,binOp,Op.intArith]) aI
theorem Mx (hs:(P.underlying t).isSome=true) (hd:P.underlying t'=some (.int k)) (h:ρ x=.int k' a) (hc:k.wrap a=c) (aI:Φ (.int k c) w):aS P ⟨d,.convert t t' x,ty,pos,aft,gd⟩ ρ w Φ:=by
 obtain ⟨u,hu⟩:=Option.isSome_iff_exists.1 hs
 subst hc;exact .pure (v:=.int k (k.wrap a)) (w':=w) (by simp [execOp,h,convert,Sem.run_bind,run_underlying hu,run_underlying hd,Conv.intToInt]) aI
theorem NL {l:List UInt8} (ht:P.underlying t=some .string) (h:ρ x=.string ⟨l.toArray⟩) (aI:Φ (.int .i64 l.length) w):aS P ⟨d,.call ⟨.builtin .len,#[x],#[t]⟩,ty,pos,aft,gd⟩ ρ w Φ:=by
 obtain ⟨s,hs,aX⟩:∃ s:ByteArray,s=⟨l.toArray⟩∧s.size=l.length:=⟨_,rfl,by simp [ByteArray.size]⟩
 rw [← hs] at h
 exact .pure (v:=.int .i64 l.length) (w':=w) (by simp [execOp,resolve,h,invoke,builtin,Builtin.len_,Sem.run_bind,run_underlying ht,goInt,aX]) aI
end
end Go.Proofs.YtgkdnnmcjjabdaaGreat
namespace Go.Proofs.YtgkdnnmcjjabdaaGreat
open Go.RowKit
theorem dI.block {T size n:Nat} {v:Value} {xs:List Value} {H:ah} (h:dI T size v n xs H) (hn:0<n):∃ b cap cs fz,v=.slice (some ⟨b,0,none⟩) n cap∧H=[(b,.cells cs T fz)]∧Fz fz cs.size∧cs.size=cap*size∧n≤cap∧cs.toList.take (n*size)=xs:=by
 rcases h.2 with ⟨h0,_⟩ | h
 ·omega
 ·exact h
inductive aW where
 | b (c:Bool)
 | z (n:Int)
 | ix (i:Nat) (row:List DV)
 | n (i:Nat)
 | n2 (i j:Nat)
 | res (x:DV)
 | call (args:List AV) (x:DV)
 | cg (n:Nat) (tb:List (Nat×List (Nat×aW)))
 | aM (x:DV)
 | stay (args:List AV) (x:DV)
 | mem (l:List Nat) (x:AV) (M':List af)
 | mk (j:Nat) (k:MK) (x:DV)
 | JW (j:Nat) (k:MK) (x:DV) (i:Nat)
 | may (c:Bool) (o:aW)
def a9:List (Nat×AV)→Nat→Option AV
 | [],_=>none
 | (k,v)::r,s=>bif k.beq s then some v else a9 r s
theorem jG:∀ {E:List (Nat×AV)} {s:Nat} {v:AV},a9 E s=some v→(s,v) ∈ E
 | [],_,_,h=>by simp [a9] at h
 | (k,u)::r,s,v,h=>by
  unfold a9 at h
  cases hk:k.beq s with
  | true=>simp only [hk,cond_true,Option.some.injEq] at h;subst h;rw [Nat.eq_of_beq_eq_true hk];exact List.mem_cons_self
  | false=>simp only [hk,cond_false] at h;exact List.mem_cons_of_mem _ (jG h)
def aC (E:List (Nat×AV)):Operand→Option AV
 | .tmp t=>a9 E t
 | .const v=>some (.d (.v v))
 | .func f=>some (.fn f [])
 | .global _=>none
def bg:List Prop→Prop
 | []=>True
 | p::r=>p∧bg r
structure Out where
 vc:List Prop
 av:AV
 M:List af
 tc:List Nat
 mv:List Nat
 rd:Option (List Nat)
structure Ctx (D:List Nat) (w0:World) (K0:World→Prop) (E:List (Nat×AV)) (M:List af) (β:Beta) (F:Nat→ah) (I:ah) (ρ:Operand→Value) (w:World):Prop where
 rm:RM D w0 K0 M β F I w
 sl:∀ t v,a9 E t=some v→aq (fun w=>K0 w∧ai w I) β v (ρ (.tmp t))
 const:∀ v,ρ (.const v)=v
 func:∀ f,ρ (.func f)=.func (.func f) #[] #[]
 Ck:∀ g,ρ (.global g)=.pointer (some ⟨g,0,none⟩)
 k:∀ w,Kp D w0 w→K0 w
variable {P:Program} {T:aD} {D:List Nat} {w0:World} {K0:World→Prop} {E:List (Nat×AV)} {M:List af} {β:Beta} {F:Nat→ah} {I:ah} {ρ:Operand→Value} {w:World}
theorem Ctx.now (C:Ctx D w0 K0 E M β F I ρ w):K0 w∧ai w I:=⟨C.k w C.rm.st.kp,(ai.app.1 C.rm.st.holds).2⟩
theorem Ctx.ev (C:Ctx D w0 K0 E M β F I ρ w) {x:Operand} {v:AV} (h:aC E x=some v):aq (fun w=>K0 w∧ai w I) β v (ρ x):=by
 cases x with
 | tmp t=>exact C.sl _ _ h
 | const c=>simp only [aC,Option.some.injEq] at h;subst h;rw [C.const];exact .d (.v c)
 | global g=>simp [aC] at h
 | func f=>simp only [aC,Option.some.injEq] at h;subst h;rw [C.func];exact .fn [] rfl (by simp)
theorem Ctx.aR (C:Ctx D w0 K0 E M β F I ρ w) {x:Operand} {v:AV} (h:aC E x=some v):∃ y,ρ x=y∧aq (fun w=>K0 w∧ai w I) β v y:=⟨_,rfl,C.ev h⟩
def fx (K0:World→Prop) (I:ah) (F:Nat→ah) (rd:List Nat) (w:World):Prop:=(K0 w∧ai w I)∧∀ u ∈ rd,ai w (F u)
def xH (P:Program) (o:Oper) (E:List (Nat×AV)) (M:List af) (vc:List Prop) (av:AV) (rd:List Nat):Prop:=
 ∀ {D:List Nat} {w0:World} {K0:World→Prop} {β:Beta} {F:Nat→ah} {I:ah} {ρ:Operand→Value} {w:World},Ctx D w0 K0 E M β F I ρ w→bg vc→
  ∃ v,aq (fun w=>K0 w∧ai w I) β av v∧∀ w',fx K0 I F rd w'→(execOp ρ o).run P w'=.ok (.value v) w'
def aZ (I I':ah):Prop:=∃ J,I'=J++I
theorem aZ.refl (I:ah):aZ I I:=⟨[],rfl⟩
theorem aZ.holds {I I':ah} (h:aZ I I'):∀ w,ai w I'→ai w I:=by obtain ⟨J,rfl⟩:=h;exact fun w hw=>(ai.app.1 hw).2
theorem aZ.trans {A B C:ah} (h:aZ A B) (k:aZ B C):aZ A C:=by obtain ⟨J,rfl⟩:=h;obtain ⟨L,rfl⟩:=k;exact ⟨L++J,by rw [List.append_assoc]⟩
def dS (mv:List Nat) (β β':Beta):Prop:=∀ (u:Nat) x,u ∉ mv→β[u]?=some x→β'[u]?=some x
def xI (P:Program) (o:Oper) (E:List (Nat×AV)) (M:List af) (out:Out):Prop:=
 ∀ {D:List Nat} {w0:World} {K0:World→Prop} {β:Beta} {F:Nat→ah} {I:ah} {ρ:Operand→Value} {w:World},Ctx D w0 K0 E M β F I ρ w→bg out.vc→
  aS P o ρ w fun v w'=>∃ β' F' I',RM D w0 K0 out.M β' F' I' w'∧dS out.mv β β'∧aZ I I'∧(∀ u,u<M.length→u ∉ out.tc→F' u=F u)∧aq (fun w=>K0 w∧ai w I') β' out.av v
def aB (P:Program) (o:Oper) (E:List (Nat×AV)) (M:List af) (out:Out):Prop:=
 match out.rd with
 | some rd=>xH P o E M out.vc out.av rd∧out.M=M∧out.mv=[]∧∀ u ∈ rd,u<M.length
 | none=>xI P o E M out
theorem Ext.b {β β':Beta} (h:Ext β β') (mv:List Nat):dS mv β β':=fun u x _ hx=>h u x hx
theorem RM.jm (R:RM D w0 K0 M β F I w) {u:Nat} {blk:af} (h:M[u]?=some blk):ai w (F u):=by
 intro x hx
 obtain ⟨hu,-⟩:=List.getElem?_eq_some_iff.1 h
 exact R.st.holds x (List.mem_append_left _ (List.mem_flatMap.2 ⟨u,List.mem_range.2 hu,hx⟩))
theorem RM.at (R:RM D w0 K0 M β F I w) {u:Nat} {blk:af} (h:M[u]?=some blk):∃ H,F u=H∧bn (fun w=>K0 w∧ai w I) β u blk H∧ai w H:=⟨_,rfl,R.blk u _ h,R.jm h⟩
theorem Ctx.sU (C:Ctx D w0 K0 E M β F I ρ w) {rd:List Nat} (h:∀ u ∈ rd,u<M.length):fx K0 I F rd w:=⟨C.now,fun u hu=>C.rm.jm (List.getElem?_eq_getElem (h u hu))⟩
theorem xH.nC {o:Oper} {vc:List Prop} {av:AV} {rd:List Nat} (h:xH P o E M vc av rd) (hr:∀ u ∈ rd,u<M.length):xI P o E M ⟨vc,av,M,[],[],some rd⟩:=by
 intro D w0 K0 β F I ρ w C hv
 obtain ⟨v,h1,h2⟩:=h C hv
 exact aS.pure (h2 w (C.sU hr)) ⟨β,F,I,C.rm,(Ext.refl β).b _,aZ.refl _,fun _ _ _=>rfl,h1⟩
theorem aB.nC {o:Oper} {out:Out} (h:aB P o E M out):xI P o E M out:=by
 obtain ⟨vc,av,M',tc,mv,rd⟩:=out
 unfold aB at h
 cases rd with
 | none=>exact h
 | some rd=>
  obtain ⟨h1,rfl,rfl,h2⟩:=h
  intro D w0 K0 β F I ρ w C hv
  refine aS.mono (h1.nC h2 C hv) fun v w' ⟨β',F',I',R,e,hI,hF,hr⟩=>⟨β',F',I',R,e,hI,fun u hu _=>hF u hu (by simp),hr⟩
theorem aB.look {o:Oper} {vc:List Prop} {av:AV} {rd:List Nat} (h:xH P o E M vc av rd) (hr:∀ u ∈ rd,u<M.length):aB P o E M ⟨vc,av,M,[],[],some rd⟩:=⟨h,rfl,rfl,hr⟩
theorem aB.same {o:Oper} {vc:List Prop} {av:AV} (h:∀ {D:List Nat} {w0:World} {K0:World→Prop} {β:Beta} {F:Nat→ah} {I:ah} {ρ:Operand→Value} {w:World},Ctx D w0 K0 E M β F I ρ w→bg vc→∃ v,(∀ w',K0 w'∧ai w' I→(execOp ρ o).run P w'=.ok (.value v) w')∧aq (fun w=>K0 w∧ai w I) β av v):aB P o E M ⟨vc,av,M,[],[],some []⟩:=
 aB.look (fun C hv=>let ⟨v,h1,h2⟩:=h C hv;⟨v,h2,fun w' hs=>h1 w' hs.1⟩) (by simp)
section
variable {d:Option Tmp} {ty:TypeId} {pos:String} {aft:Array Edge} {gd:Option (Nat×Bool)} {oc:Option aW} {out:Out}
def lk (vc:List Prop) (av:AV) (M:List af):Out:=⟨vc,av,M,[],[],some []⟩
def qm (E:List (Nat×AV)) (M:List af) (x:Operand):Option Out:=match aC E x with | some v=>some (lk [] v M) | none=>none
theorem vd {x:Operand} (h:qm E M x=some out):aB P ⟨d,.move x,ty,pos,aft,gd⟩ E M out∧aB P ⟨d,.assign x,ty,pos,aft,gd⟩ E M out:=by
 unfold qm at h
 split at h
 ·rename_i v hv
  simp only [Option.some.injEq] at h;subst h
  exact ⟨aB.same fun C _=>⟨_,fun _ _=>QP rfl,C.ev hv⟩,aB.same fun C _=>⟨_,fun _ _=>NF rfl,C.ev hv⟩⟩
 ·simp at h
def wU (E:List (Nat×AV)) (M:List af) (x:Operand):Option Out:=
 match aC E x with | some (.pt u o)=>some (lk [] (.pt u o) M) | some (.ep u k i o)=>some (lk [] (.ep u k i o) M) | some (.rp r o)=>some (lk [] (.rp r o) M) | _=>none
theorem QW {K:World→Prop} {v:AV} {y:Value} (h:aq K β v y) (hv:(∃ u o,v=.pt u o)∨(∃ u k i o,v=.ep u k i o)∨∃ r o,v=.rp r o):∃ a,y=.pointer (some a):=by
 cases h with
 | pt h=>exact ⟨_,rfl⟩
 | ep h=>exact ⟨_,rfl⟩
 | rp a X hl hc hr=>exact ⟨_,rfl⟩
 | _=>simp at hv
theorem G9 {x:Operand} (h:wU E M x=some out):aB P ⟨d,.nilCheck x,ty,pos,aft,gd⟩ E M out:=by
 unfold wU at h
 split at h<;>simp only [Option.some.injEq,reduceCtorEq] at h<;>subst h<;>rename_i hv<;>
  refine aB.same fun C _=>?_<;>obtain ⟨a,ha⟩:=QW (C.ev hv) (by simp)<;>exact ⟨_,fun _ _=>LP ha,ha▸C.ev hv⟩
def ve (E:List (Nat×AV)) (M:List af) (x:Operand) (i:Nat):Option Out:=
 match aC E x with | some (.tu l)=>(match l[i]? with | some v=>some (lk [] v M) | none=>none) | _=>none
theorem Ay {R:AV→Value→Prop} {l:List AV} {ys:List Value} (hl:ys.length=l.length) (hr:∀ (j:Nat) c y,l[j]?=some c→ys[j]?=some y→R c y) {i:Nat} {v:AV} (hv:l[i]?=some v):∃ y,ys[i]?=some y∧R v y:=by
 obtain ⟨hi,-⟩:=List.getElem?_eq_some_iff.1 hv
 exact ⟨_,List.getElem?_eq_getElem (by omega),hr i _ _ hv (List.getElem?_eq_getElem (by omega))⟩
theorem EA {x:Operand} {i:Nat} (h:ve E M x i=some out):aB P ⟨d,.extract x i,ty,pos,aft,gd⟩ E M out:=by
 unfold ve at h
 split at h
 ·rename_i l hv
  split at h
  ·rename_i v hi
   simp only [Option.some.injEq] at h;subst h
   refine aB.same fun C _=>?_
   obtain ⟨y,sV,r⟩:=C.aR hv
   cases r with
   | tu ys hl hr=>
    obtain ⟨y,h1,h2⟩:=Ay hl hr hi
    exact ⟨y,fun _ _=>Mv sV (by simpa using h1),h2⟩
  ·simp at h
 ·simp at h
theorem zc {s:TypeId} {x:Operand} {f off:Nat} {a:Addr} (hf:n8 P s f=some off) (h:ρ x=.pointer (some a)):(execOp ρ ⟨d,.fieldAddr s x f,ty,pos,aft,gd⟩).run P w=.ok (.value (.pointer (some (a.add off)))) w:=by
 simp only [execOp,h,Sem.run_bind,LC hf,Result.andThen_ok,Sem.run_pure]
def vX (T:aD) (E:List (Nat×AV)) (M:List af) (s:TypeId) (x:Operand) (f:Nat):Option Out:=
 match Cj T s f with
 | some off=>(match aC E x with | some (.pt u o)=>some (lk [] (.pt u (o+off)) M) | some (.ep u k i o)=>some (lk [] (.ep u k i (o+off)) M) | some (.rp r o)=>some (lk [] (.rp r (o+off)) M) | _=>none)
 | none=>none
theorem Fs (hT:aP P T=true) {s:TypeId} {x:Operand} {f:Nat} (h:vX T E M s x f=some out):aB P ⟨d,.fieldAddr s x f,ty,pos,aft,gd⟩ E M out:=by
 unfold vX at h
 split at h
 ·rename_i off ho
  have Cl:=Pp hT ho
  split at h<;>simp only [Option.some.injEq,reduceCtorEq] at h<;>subst h<;>rename_i hv<;>refine aB.same fun C _=>?_<;>obtain ⟨y,sV,r⟩:=C.aR hv
  ·cases r with | pt hb=>exact ⟨_,fun _ _=>zc Cl sV,by rw [add_eq];exact .pt hb⟩
  ·cases r with | ep hb=>exact ⟨_,fun _ _=>zc Cl sV,by rw [add_eq,Nat.add_assoc];exact .ep hb⟩
  ·cases r with | rp a X hl hc hr=>exact ⟨_,fun _ _=>zc Cl sV,by rw [Addr.n9];exact .rp a X hl hc hr⟩
 ·simp at h
def DV.cp:DV→Bool
 | .v _=>true
 | .ro _ _=>true
 | .jk=>true
 | .em _ _ _=>false
 | .ag _=>false
 | .tu _=>false
 | .pb _ _=>false
theorem bw.cp {K:World→Prop} {x:DV} {y:Value} {H:ah} (h:bw K x y H) (hc:x.cp=true):bw K x y []:=by
 cases h with
 | v=>exact .v _
 | jk=>exact .jk _
 | ro X hl hy hs hr=>exact .ro X hl hy hs hr
 | em=>simp [DV.cp] at hc
 | ag=>simp [DV.cp] at hc
 | tu=>simp [DV.cp] at hc
 | pb=>simp [DV.cp] at hc
def wV (l:List AV) (o n:Nat):Option AV:=bif (o+n).ble l.length then some (.ag ((l.drop o).take n)) else none
def iB (T:aD) (t:TypeId) (l:List AV) (o:Nat):Option AV:=
 match ma T t with | some .one=>l[o]? | some (.many n)=>wV l o n | none=>none
theorem ou (hT:aP P T=true) {t:TypeId} {l:List AV} {o:Nat} {v:AV} {x:Operand} {a:Addr} {R:AV→Value→Prop} {ys:List Value} (hR:∀ (l:List AV) (ys:List Value),ys.length=l.length→(∀ (j:Nat) c y,l[j]?=some c→ys[j]?=some y→R c y)→R (.ag l) (.agg ys.toArray))
  (h:iB T t l o=some v) (hx:ρ x=.pointer (some (a.add o))) (hl:ys.length=l.length) (hr:∀ (j:Nat) c y,l[j]?=some c→ys[j]?=some y→R c y):
  ∃ y,R v y∧∀ w:World,(∀ (j:Nat) y,ys[j]?=some y→w.cell? (a.add j)=some y)→(execOp ρ ⟨d,.load t x,ty,pos,aft,gd⟩).run P w=.ok (.value y) w:=by
 unfold iB at h
 split at h
 ·rename_i ht
  obtain ⟨y,h1,h2⟩:=Ay hl hr h
  exact ⟨y,h2,fun w hc=>Ia (zP hT ht) hx (hc _ _ h1)⟩
 ·rename_i n ht
  have ha:=zb hT ht
  simp only [wV] at h
  cases hb:(o+n).ble l.length with
  | false=>simp [hb] at h
  | true=>
   simp only [hb,cond_true,Option.some.injEq] at h
   have hle:o+n≤l.length:=Nat.le_of_ble_eq_true hb
   subst h
   have hlen:((ys.drop o).take n).length=n:=by simp;omega
   refine ⟨.agg ((ys.drop o).take n).toArray,hR _ _ (by simp;omega) ?_,fun w hc=>Fk ((ys.drop o).take n) (by rw [hlen];exact ha) hx (fun j hj=>?_)⟩
   ·intro j c y h1 h2
    rw [List.getElem?_take,List.getElem?_drop] at h1 h2
    split at h1
    ·rename_i hj;rw [if_pos hj] at h2;exact hr _ _ _ h1 h2
    ·simp at h1
   ·rw [Addr.n9]
    refine hc (o+j) _ ?_
    rw [List.getElem_take,List.getElem_drop];exact List.getElem?_eq_getElem _
 ·simp at h
def sx (T:aD) (E:List (Nat×AV)) (M:List af) (oc:Option aW) (t:TypeId) (x:Operand):Option Out:=
 match aC E x with
 | some (.pt u o)=>(match M[u]? with | some (.bx _ cells)=>(match iB T t cells o with | some v=>some ⟨[],v,M,[],[],some [u]⟩ | none=>none) | _=>none)
 | some (.rp row o)=>(match iB T t (row.map .d) o with | some v=>some (lk [] v M) | none=>none)
 | some (.ep u k i o)=>(match oc with
  | some (.ix _ row)=>(match M[u]? with | some (.rw _ k' rows)=>bif k.beq k'&&row.all DV.cp then (match iB T t (row.map .d) o with | some v=>some ⟨[rows[i]?=some row],v,M,[],[],some [u]⟩ | none=>none) else none | _=>none)
  | _=>none)
 | _=>none
theorem jh {n k:Nat} {X:Nat→List Value} (hX:∀ i,i<n→(X i).length=k) {i j:Nat} (hi:i<n) (hj:j<k):(lay n X)[i*k+j]?=(X i)[j]?:=by
 induction n with
 | zero=>omega
 | succ n ih=>
  have hl:(lay n X).length=n*k:=by
   have:∀ m,m≤n→(lay m X).length=m*k:=by
    intro m hm
    induction m with
    | zero=>simp [lay]
    | succ m Uc=>
     have:=Uc (by omega)
     simp only [lay,List.range_succ,List.flatMap_append,List.length_append,List.flatMap_cons,List.flatMap_nil,List.append_nil] at this ⊢
     rw [this,hX m (by omega),Nat.succ_mul]
   exact this n (Nat.le_refl _)
  have hs:lay (n+1) X=lay n X++X n:=by simp [lay,List.range_succ,List.flatMap_append]
  rw [hs]
  rcases Nat.lt_or_ge i n with h | h
  ·have:i*k+j<n*k:=by
    have:=Nat.mul_le_mul_right k (show i+1≤n from h);rw [Nat.succ_mul] at this;omega
   rw [List.getElem?_append_left (by rw [hl];exact this)]
   exact ih (fun i hi=>hX i (by omega)) h
  ·obtain rfl:i=n:=by omega
   rw [List.getElem?_append_right (by rw [hl];omega),hl]
   congr 1;omega
theorem cT {l:List af} {u:Nat} {b:af} (h:l[u]?=some b):u<l.length:=(List.getElem?_eq_some_iff.1 h).1
theorem zd (hT:aP P T=true) {t:TypeId} {x:Operand} (h:sx T E M oc t x=some out):aB P ⟨d,.load t x,ty,pos,aft,gd⟩ E M out:=by
 unfold sx at h
 split at h
 ·rename_i u o hv
  split at h
  ·rename_i Tt cells hM
   split at h
   ·rename_i v e8
    simp only [Option.some.injEq] at h;subst h
    refine aB.look (fun C _=>?_) (by simpa using cT hM)
    obtain ⟨y,hy,r⟩:=C.aR hv
    cases r with
    | pt hb=>
     obtain ⟨H,hF,hB,hH⟩:=C.rm.at hM
     cases hB with
     | bx aE ys hl hr=>
      rw [hb] at aE;cases aE
      obtain ⟨y',h1,h2⟩:=ou hT (a:=⟨_,0,none⟩) (fun l ys=>aq.ag ys) e8 (hy.trans (by rw [add_eq,Nat.zero_add])) hl hr
      refine ⟨y',h1,fun w' hs=>h2 w' fun j z hj=>?_⟩
      have hw:ai w' _:=hs.2 u (by simp)
      rw [hF] at hw
      rw [add_eq,cell_of hw.one,Nat.zero_add];simpa using hj
   ·simp at h
  ·simp at h
 ·rename_i row o hv
  split at h
  ·rename_i v e8
   simp only [Option.some.injEq] at h;subst h
   refine aB.same ?_
   intro D w0 K0 β F I ρ w C _
   obtain ⟨y,hy,r⟩:=C.aR hv
   cases r with
   | rp a X hl hc hr=>
    have cM:X.length=(row.map AV.d).length:=by rw [List.length_map];exact hl
    obtain ⟨y',h1,h2⟩:=ou hT (a:=a) (R:=aq (fun w=>K0 w∧ai w I) β) (fun l ys=>aq.ag ys) e8 hy cM (fun j c z h1 h2=>by
     simp only [List.getElem?_map,Option.map_eq_some_iff] at h1
     obtain ⟨c',h1,rfl⟩:=h1
     exact .d (hr j c' z h1 h2))
    exact ⟨y',fun w' hs=>h2 w' fun j z hj=>hc w' hs j z hj,h1⟩
  ·simp at h
 ·rename_i u k i o hv
  split at h
  ·rename_i i0 row
   split at h
   rotate_left
   ·simp at h
   rename_i Tt k' rows hM
   cases hk:(k.beq k'&&row.all DV.cp) with
   | false=>simp [hk] at h
   | true=>
    simp only [hk,cond_true] at h
    simp only [Bool.and_eq_true] at hk
    obtain ⟨hk,iW⟩:=hk
    obtain rfl:=Nat.eq_of_beq_eq_true hk
    split at h
    ·rename_i v e8
     simp only [Option.some.injEq] at h;subst h
     refine aB.look ?_ (by simpa using cT hM)
     intro D w0 K0 β F I ρ w C bJ
     obtain ⟨bu,-⟩:=bJ
     obtain ⟨y,hy,r⟩:=C.aR hv
     cases r with
     | ep hb=>
      obtain ⟨H,hF,hB,hH⟩:=C.rm.at hM
      cases hB with
      | rw aE X G hl hs hr=>
       rw [hb] at aE;cases aE
       obtain ⟨qZ,Dk⟩:=hl i row bu
       obtain ⟨hi,-⟩:=List.getElem?_eq_some_iff.1 bu
       obtain ⟨b',cap,cs,fz,he,rfl,et,cd,hn,ht⟩:=hs.block (by omega)
       cases he
       have cM:(X i).length=(row.map AV.d).length:=by rw [List.length_map];omega
       obtain ⟨y',h1,h2⟩:=ou hT (a:=⟨_,i*k,none⟩) (R:=aq (fun w=>K0 w∧ai w I) β) (fun l ys=>aq.ag ys) e8 (hy.trans (by rw [add_eq])) cM (fun j c z h1 h2=>by
        simp only [List.getElem?_map,Option.map_eq_some_iff] at h1
        obtain ⟨c',h1,rfl⟩:=h1
        exact .d ((hr i row j c' z bu h1 h2).cp (List.all_eq_true.1 iW c' (List.mem_of_getElem? h1))))
       refine ⟨y',h1,fun w' tC=>h2 w' fun j z hj=>?_⟩
       have c8:ai w' _:=tC.2 u (by simp)
       rw [hF] at c8
       have hw:=(ai.app.1 c8).1.one
       obtain ⟨eu,-⟩:=List.getElem?_eq_some_iff.1 hj
       rw [add_eq,cell_of hw,← hj,← jh (fun i hi=>(hl i _ (List.getElem?_eq_getElem hi)).2) hi (by omega),← ht,List.getElem?_take,if_pos,Array.getElem?_toList]
       have:=Nat.mul_le_mul_right k (show i+1≤rows.length from hi);rw [Nat.succ_mul] at this;omega
    ·simp at h
  ·simp at h
 ·simp at h
theorem rO {e size n c:Nat} {t:TypeId} {x ix:Operand} {a:Addr} {k:IntKind} {i:Int} (ht:P.underlying t=some (.slice e)) (hs:(P.info? e).map (·.size)=some size) (hx:ρ x=.slice (some a) n c) (hi:ρ ix=.int k i) (h0:0≤i) (h1:i<n):
  (execOp ρ ⟨d,.indexAddr t x ix,ty,pos,aft,gd⟩).run P w=.ok (.value (.pointer (some (a.add (i.toNat*size))))) w:=by
 cases dy:P.info? e with
 | none=>simp [dy] at hs
 | some inf=>
  simp only [dy,Option.map_some,Option.some.injEq] at hs
  have aX:(sizeOf e).run P w=.ok size w:=by simp [sizeOf,typeInfo,Sem.run_bind,dy,hs]
  simp [execOp,hx,hi,Instr.indexAt,asIntOf,Sem.run_bind,run_underlying ht,h0,h1,aX]
theorem mM {e size n:Nat} {t:TypeId} {x ix:Operand} {a:Addr} {k:IntKind} {i:Int} (ht:P.underlying t=some (.array n e)) (hs:(P.info? e).map (·.size)=some size) (hx:ρ x=.pointer (some a)) (hi:ρ ix=.int k i) (h0:0≤i) (h1:i<n):
  (execOp ρ ⟨d,.indexAddr t x ix,ty,pos,aft,gd⟩).run P w=.ok (.value (.pointer (some (a.add (i.toNat*size))))) w:=by
 cases dy:P.info? e with
 | none=>simp [dy] at hs
 | some inf=>
  simp only [dy,Option.map_some,Option.some.injEq] at hs
  have aX:(sizeOf e).run P w=.ok size w:=by simp [sizeOf,typeInfo,Sem.run_bind,dy,hs]
  simp [execOp,hx,hi,Instr.indexAt,Instr.sureAddr,asIntOf,Sem.run_bind,run_underlying ht,h0,h1,aX]
def bN:Option AV→Option (IntKind×Int)
 | some (.d (.v (.int k z)))=>some (k,z)
 | _=>none
theorem Ctx.int (C:Ctx D w0 K0 E M β F I ρ w) {x:Operand} {k:IntKind} {z:Int} (h:bN (aC E x)=some (k,z)):ρ x=.int k z:=by
 unfold bN at h
 split at h
 ·rename_i k' z' hv
  simp only [Option.some.injEq,Prod.mk.injEq] at h;obtain ⟨rfl,rfl⟩:=h
  obtain ⟨y,hy,r⟩:=C.aR hv
  cases r with | d h=>cases h;exact hy
 ·simp at h
def lF (T:aD) (E:List (Nat×AV)) (M:List af) (oc:Option aW) (t:TypeId) (x ix:Operand):Option Out:=
 match bN (aC E ix) with
 | none=>none
 | some (_,z)=>
  match bE T t with
  | some (.sl e)=>(match dB T e with
   | none=>none
   | some k=>(match oc with
    | some (.ix i row)=>(match aC E x with | some (.d (.ro k' rows))=>(bif k.beq k' then some (lk [z=(i:Int),rows[i]?=some row] (.rp row 0) M) else none) | _=>none)
    | some (.n i)=>(match aC E x with | some (.sl u n)=>(match M[u]? with | some (.rw _ _ rows)=>some ⟨[z=(i:Int),i<n,n≤rows.length],.ep u k i 0,M,[],[],some []⟩ | _=>none) | _=>none)
    | _=>none))
  | some (.ar n e)=>(match dB T e with
   | none=>none
   | some k=>(match oc with
    | some (.n i)=>(match aC E x with | some (.pt u o)=>some (lk [z=(i:Int),i<n] (.pt u (o+i*k)) M) | some (.ep u k' j o)=>some (lk [z=(i:Int),i<n] (.ep u k' j (o+i*k)) M) | some (.rp r o)=>some (lk [z=(i:Int),i<n] (.rp r (o+i*k)) M) | _=>none)
    | _=>none))
  | _=>none
theorem add_zero' (a:Addr):a.add 0=a:=by unfold Addr.add;simp
theorem uP (hT:aP P T=true) {t:TypeId} {x ix:Operand} (h:lF T E M oc t x ix=some out):aB P ⟨d,.indexAddr t x ix,ty,pos,aft,gd⟩ E M out:=by
 unfold lF at h
 split at h
 ·simp at h
 rename_i kk z hz
 split at h
 ·rename_i e ht
  replace ht:=bj hT ht
  split at h
  ·simp at h
  rename_i k hk
  replace hk:=dV hT hk
  split at h
  ·rename_i i row
   split at h
   ·rename_i k' rows hv
    cases bp:k.beq k' with
    | false=>simp [bp] at h
    | true=>
     simp only [bp,cond_true,Option.some.injEq] at h;subst h
     obtain rfl:=Nat.eq_of_beq_eq_true bp
     refine aB.same fun C bJ=>?_
     obtain ⟨rfl,bu,-⟩:=bJ
     obtain ⟨y,hy,r⟩:=C.aR hv
     cases r with | d r=>
     cases r with
     | ro X hl gK hs hr=>
      obtain ⟨hi,-⟩:=List.getElem?_eq_some_iff.1 bu
      obtain ⟨a,c,q5,-⟩:=(hs _ C.now).row hi
      refine ⟨_,fun _ _=>rO ht hk (hy.trans q5) (C.int hz) (by omega) (by omega),?_⟩
      have e0:a.add (((i:Nat):Int).toNat*k)=(a.add (i*k)).add 0:=by rw [add_zero'];simp
      rw [e0]
      refine .rp _ (X i) (by have:=hl i row bu;omega) (fun w' c8 j x hj=>?_) (fun j c x h1 h2=>hr i row j c x bu h1 h2)
      obtain ⟨a',c',Cm,qn⟩:=(hs w' c8).row hi
      rw [q5] at Cm;simp only [Value.slice.injEq,Option.some.injEq] at Cm;obtain ⟨rfl,-⟩:=Cm
      have tB:=(hl i row bu).2
      obtain ⟨eu,-⟩:=List.getElem?_eq_some_iff.1 hj
      have hg:=jh (fun i hi=>(hl i _ (List.getElem?_eq_getElem hi)).2) hi (show j<k by omega)
      rw [hj] at hg
      obtain ⟨aH,j4⟩:=List.getElem?_eq_some_iff.1 hg
      rw [qn j (by omega) aH,j4]
   ·simp at h
  ·rename_i i
   split at h
   ·rename_i u n hv
    split at h
    ·rename_i Tt k' rows hM
     simp only [Option.some.injEq] at h;subst h
     refine aB.look (fun C bJ=>?_) (by simp)
     obtain ⟨rfl,hi,JX,-⟩:=bJ
     obtain ⟨y,hy,r⟩:=C.aR hv
     cases r with
     | sl hb=>
      obtain ⟨H,-,hB,-⟩:=C.rm.at hM
      cases hB with
      | rw aE X G hl hs hr=>
       rw [hb] at aE;cases aE
       obtain ⟨b',cap,cs,fz,he,-⟩:=hs.block (by omega)
       cases he
       exact ⟨_,by rw [add_eq];simpa using aq.ep (k:=k) (i:=i) (o:=0) hb,fun _ _=>rO ht hk hy (C.int hz) (by omega) (by omega)⟩
    ·simp at h
   ·simp at h
  ·simp at h
 ·rename_i n e ht
  replace ht:=bj hT ht
  split at h
  ·simp at h
  rename_i k hk
  replace hk:=dV hT hk
  split at h
  ·rename_i i
   split at h<;>simp only [Option.some.injEq,reduceCtorEq] at h<;>subst h<;>rename_i hv<;>refine aB.same fun C bJ=>?_<;>obtain ⟨rfl,hi,-⟩:=bJ<;>obtain ⟨y,hy,r⟩:=C.aR hv
   ·cases r with | pt hb=>exact ⟨_,fun _ _=>mM ht hk hy (C.int hz) (by omega) (by omega),by rw [add_eq];exact .pt hb⟩
   ·cases r with | ep hb=>exact ⟨_,fun _ _=>mM ht hk hy (C.int hz) (by omega) (by omega),by rw [add_eq,Nat.add_assoc];exact .ep hb⟩
   ·cases r with | rp a X hl hc hr=>exact ⟨_,fun _ _=>mM ht hk hy (C.int hz) (by omega) (by omega),by rw [Addr.n9];exact .rp a X hl hc hr⟩
  ·simp at h
 ·simp at h
end
end Go.Proofs.YtgkdnnmcjjabdaaGreat
namespace Go.Proofs.YtgkdnnmcjjabdaaGreat
open Go.RowKit
variable {P:Program} {T:aD} {D:List Nat} {w0:World} {K0:World→Prop} {E:List (Nat×AV)} {M:List af} {β:Beta} {F:Nat→ah} {I:ah} {ρ:Operand→Value} {w:World}
variable {d:Option Tmp} {ty:TypeId} {pos:String} {aft:Array Edge} {gd:Option (Nat×Bool)} {oc:Option aW} {out:Out}
def AV.i (k:IntKind) (z:Int):AV:=.d (.v (.int k z))
def AV.b (c:Bool):AV:=.d (.v (.bool c))
def kO:Option AV→Option Bool
 | some (.d (.v (.bool c)))=>some c
 | _=>none
theorem Ctx.bool (C:Ctx D w0 K0 E M β F I ρ w) {x:Operand} {c:Bool} (h:kO (aC E x)=some c):ρ x=.bool c:=by
 unfold kO at h
 split at h
 ·rename_i c' hv
  simp only [Option.some.injEq] at h;subst h
  obtain ⟨y,hy,r⟩:=C.aR hv
  cases r with | d h=>cases h;exact hy
 ·simp at h
def gi:Option AV→Option (List UInt8)
 | some (.d (.v (.string s)))=>some s.data.toList
 | _=>none
theorem Ctx.str (C:Ctx D w0 K0 E M β F I ρ w) {x:Operand} {l:List UInt8} (h:gi (aC E x)=some l):ρ x=.string ⟨l.toArray⟩:=by
 unfold gi at h
 split at h
 ·rename_i s hv
  simp only [Option.some.injEq] at h;subst h
  obtain ⟨y,hy,r⟩:=C.aR hv
  cases r with | d h=>cases h;rw [hy]
 ·simp at h
def wW:BinOp→Int→Int→Option Bool
 | .eql,a,b=>some (a==b)
 | .neq,a,b=>some (a != b)
 | .lss,a,b=>some (decide (a<b))
 | .leq,a,b=>some (decide (a≤b))
 | .gtr,a,b=>some (decide (b<a))
 | .geq,a,b=>some (decide (b≤a))
 | _,_,_=>none
def Dl:BinOp→IntKind→Int→Int→Option (List Prop×Int)
 | .add,k,a,b=>some ([],k.wrap (a+b))
 | .sub,k,a,b=>some ([],k.wrap (a-b))
 | .mul,k,a,b=>some ([],k.wrap (a*b))
 | .quo,k,a,b=>some ([b≠0],k.wrap (a.tdiv b))
 | .rem,_,a,b=>some ([b≠0],a.tmod b)
 | .and,k,a,b=>some ([],k.wrap ((BitVec.ofInt k.bits a &&& BitVec.ofInt k.bits b).toNat:Int))
 | .or,k,a,b=>some ([],k.wrap ((BitVec.ofInt k.bits a ||| BitVec.ofInt k.bits b).toNat:Int))
 | .xor,k,a,b=>some ([],k.wrap ((BitVec.ofInt k.bits a ^^^ BitVec.ofInt k.bits b).toNat:Int))
 | _,_,_,_=>none
def xJ:BinOp→IntKind→Int→Int→Option Int
 | .shl,k,a,b=>some (k.wrap (a*2 ^ (min b.toNat k.bits)))
 | .shr,k,a,b=>some (a.fdiv (2 ^ (min b.toNat k.bits)))
 | _,_,_,_=>none
def jS (oc:Option aW) (c0:Bool) (M:List af):Out:=match oc with | some (.b c)=>lk [c0=c] (.b c) M | _=>lk [] (.b c0) M
def jT (oc:Option aW) (vc:List Prop) (k:IntKind) (z0:Int) (M:List af):Out:=match oc with | some (.z z)=>lk ((z0=z)::vc) (.i k z) M | _=>lk vc (.i k z0) M
def o0 (P:Program) (o:Oper):Prop:=∀ (ρ:Operand→Value) (w:World),(∃ v w',(execOp ρ o).run P w=.ok (.value v) w')∨∃ h w',(execOp ρ o).run P w=.halt h w'
theorem o0.of {o:Oper} (h:∀ ρ:Operand→Value,∃ s:Sem Value,execOp ρ o=(do pure (Next.value (← s)))):o0 P o:=by
 intro ρ w
 obtain ⟨s,hs⟩:=h ρ
 rw [hs]
 simp only [Sem.run_bind]
 cases hr:s.run P w with
 | ok v' w'=>exact Or.inl ⟨v',w',by simp⟩
 | halt x w'=>exact Or.inr ⟨x,w',rfl⟩
theorem vf {o:Oper} {ρ:Operand→Value} {w:World} {v:Value} (hk:o0 P o) (h:aS P o ρ w fun v' w'=>v'=v∧w'=w):(execOp ρ o).run P w=.ok (.value v) w:=by
 unfold aS at h
 rcases hk ρ w with ⟨v',w',hr⟩ | ⟨x,w',hr⟩<;>rw [hr] at h ⊢
 ·obtain ⟨rfl,rfl⟩:=h;rfl
 ·exact h.elim
theorem jM {o:Oper} {vc:List Prop} {av:AV} (hk:o0 P o) (h:∀ {D:List Nat} {w0:World} {K0:World→Prop} {β:Beta} {F:Nat→ah} {I:ah} {ρ:Operand→Value} {w:World},Ctx D w0 K0 E M β F I ρ w→bg vc→∃ v,aq (fun w=>K0 w∧ai w I) β av v∧∀ (w:World) (Φ:Value→World→Prop),Φ v w→aS P o ρ w Φ):aB P o E M (lk vc av M):=
 aB.same fun C hv=>let ⟨v,h1,h2⟩:=h C hv;⟨v,fun w' _=>vf hk (h2 w' _ ⟨rfl,rfl⟩),h1⟩
theorem oa {o:Oper} {c0:Bool} (hk:o0 P o) (h:∀ {D:List Nat} {w0:World} {K0:World→Prop} {β:Beta} {F:Nat→ah} {I:ah} {ρ:Operand→Value} {w:World},Ctx D w0 K0 E M β F I ρ w→∀ (w:World) (Φ:Value→World→Prop),Φ (.bool c0) w→aS P o ρ w Φ):aB P o E M (jS oc c0 M):=by
 unfold jS
 split
 ·refine jM hk fun C hv=>?_
  obtain ⟨rfl,-⟩:=hv
  exact ⟨_,.d (.v _),h C⟩
 ·exact jM hk fun C _=>⟨_,.d (.v _),h C⟩
theorem mR {o:Oper} {vc:List Prop} {k:IntKind} {z0:Int} (hk:o0 P o) (h:∀ {D:List Nat} {w0:World} {K0:World→Prop} {β:Beta} {F:Nat→ah} {I:ah} {ρ:Operand→Value} {w:World},Ctx D w0 K0 E M β F I ρ w→bg vc→∀ (w:World) (Φ:Value→World→Prop),Φ (.int k z0) w→aS P o ρ w Φ):aB P o E M (jT oc vc k z0 M):=by
 unfold jT
 split
 ·refine jM hk fun C hv=>?_
  obtain ⟨rfl,hv⟩:=hv
  exact ⟨_,.d (.v _),h C hv⟩
 ·exact jM hk fun C hv=>⟨_,.d (.v _),h C hv⟩
def oy (E:List (Nat×AV)) (M:List af) (oc:Option aW) (op:BinOp) (x y:Operand):Option Out:=
 match bN (aC E x),bN (aC E y) with
 | some (k,a),some (k',b)=>(match xJ op k a b with
  | some z0=>some (jT oc [0≤b] k z0 M)
  | none=>bif decide (k=k') then (match wW op a b with
   | some c0=>some (jS oc c0 M)
   | none=>match Dl op k a b with | some (vc,z0)=>some (jT oc vc k z0 M) | none=>none) else none)
 | _,_=>none
theorem ze {op:BinOp} {x y:Operand} {t t':TypeId} (h:oy E M oc op x y=some out):aB P ⟨d,.binOp op t x y t',ty,pos,aft,gd⟩ E M out:=by
 unfold oy at h
 split at h
 ·rename_i k a k' b hx hy
  split at h
  ·rename_i z0 hz
   simp only [Option.some.injEq] at h;subst h
   refine mR (.of fun _=>⟨_,rfl⟩) fun C hv w Φ aI=>?_
   obtain ⟨hb,-⟩:=hv
   cases op<;>simp only [xJ,Option.some.injEq,reduceCtorEq] at hz
   ·exact R7 (C.int hx) (C.int hy) hb hz aI
   ·exact Sb (C.int hx) (C.int hy) hb hz aI
  ·cases hk:decide (k=k') with
   | false=>simp [hk] at h
   | true=>
    simp only [hk,cond_true] at h
    obtain rfl:=of_decide_eq_true hk
    split at h
    ·rename_i c0 hc
     simp only [Option.some.injEq] at h;subst h
     refine oa (.of fun _=>⟨_,rfl⟩) fun C w Φ aI=>?_
     cases op<;>simp only [wW,Option.some.injEq,reduceCtorEq] at hc
     ·exact RN (C.int hx) (C.int hy) hc aI
     ·exact RO (C.int hx) (C.int hy) hc aI
     ·exact RP (C.int hx) (C.int hy) hc aI
     ·exact RQ (C.int hx) (C.int hy) hc aI
     ·exact RR (C.int hx) (C.int hy) hc aI
     ·exact RT (C.int hx) (C.int hy) hc aI
    ·split at h
     ·rename_i vc z0 hz
      simp only [Option.some.injEq] at h;subst h
      refine mR (.of fun _=>⟨_,rfl⟩) fun C hv w Φ aI=>?_
      cases op<;>simp only [Dl,Option.some.injEq,Prod.mk.injEq,reduceCtorEq] at hz<;>obtain ⟨rfl,hz⟩:=hz
      ·exact RU (C.int hx) (C.int hy) hz aI
      ·exact RV (C.int hx) (C.int hy) hz aI
      ·exact Sc (C.int hx) (C.int hy) hz aI
      ·exact RZ (C.int hx) (C.int hy) hv.1 hz aI
      ·exact R6 (C.int hx) (C.int hy) hv.1 hz aI
      ·exact Sa (C.int hx) (C.int hy) hz aI
      ·exact SS (C.int hx) (C.int hy) hz aI
      ·exact R8 (C.int hx) (C.int hy) hz aI
     ·simp at h
 ·simp at h
end Go.Proofs.YtgkdnnmcjjabdaaGreat
namespace Go.Proofs.YtgkdnnmcjjabdaaGreat
open Go.RowKit
variable {P:Program} {T:aD} {D:List Nat} {w0:World} {K0:World→Prop} {E:List (Nat×AV)} {M:List af} {β:Beta} {F:Nat→ah} {I:ah} {ρ:Operand→Value} {w:World}
variable {d:Option Tmp} {ty:TypeId} {pos:String} {aft:Array Edge} {gd:Option (Nat×Bool)} {oc:Option aW} {out:Out}
theorem pD (vs:List Value):∀ (c:Array Value) (i j:Nat),i+vs.length≤c.size→(bS c i vs)[j]?=if i≤j∧j<i+vs.length then vs[j-i]? else c[j]?:=by
 induction vs with
 | nil=>intro c i j h;simp [bS];intro h1 h2;omega
 | cons v r ih=>
  intro c i j h
  simp only [List.length_cons] at h
  simp only [bS]
  rw [ih _ _ _ (by simp;omega)]
  by_cases h1:i+1≤j∧j<i+1+r.length
  ·rw [if_pos h1,if_pos (by simp;omega)]
   rw [show j-i=(j-(i+1))+1 by omega];simp
  ·rw [if_neg h1,Array.getElem?_setIfInBounds]
   by_cases h2:i=j
   ·subst h2;simp;omega
   ·rw [if_neg h2,if_neg (by simp;omega)]
theorem bn.mono {K K':World→Prop} {β β':Beta} (h:∀ w,K' w→K w) (e:Ext β β') {u:Nat} {blk:af} {H:ah} (r:bn K β u blk H):bn K' β' u blk H:=by
 cases r with
 | dead=>exact .dead u
 | bx hb ys hl hr=>exact .bx (e _ _ hb) ys hl (fun j c y h1 h2=>(hr j c y h1 h2).mono h e)
 | rw hb X G hl hs hr=>exact .rw (e _ _ hb) X G hl hs (fun i r j c x h1 h2 h3=>(hr i r j c x h1 h2 h3).mono h)
 | tw hb X G hl hs hr=>exact .tw (e _ _ hb) X G hl hs (fun i r j c x h1 h2 h3=>(hr i r j c x h1 h2 h3).mono h)
 | nm hb=>exact .nm (e _ _ hb)
 | gw X hl hc hr=>exact .gw X hl (fun w hw=>hc w (h w hw)) (fun j c x h1 h2=>(hr j c x h1 h2).mono h)
 | il hb hm=>exact .il (e _ _ hb) (fun v hv=>let ⟨c',h'⟩:=hm v hv;⟨c',e _ _ h'⟩)
 | fl hb ys hl hm hc hr=>exact .fl (e _ _ hb) ys hl hm hc (fun j c y h1 h2=>(hr j c y h1 h2).mono h e)
 | mf hb vs hl hr=>exact .mf (e _ _ hb) vs hl (fun j c y h1 h2=>(hr j c y h1 h2).mono h e)
 | mp hb vs G hl hr=>exact .mp (e _ _ hb) vs G hl (fun j c y h1 h2=>(hr j c y h1 h2).mono h)
 | mu fo hp hn aH hb vs G hl hr=>exact .mu fo hp hn aH (e _ _ hb) vs G hl (fun j c y h1 h2=>(hr j c y h1 h2).mono h)
 | lp hb aX hr=>exact .lp (e _ _ hb) aX (fun x hx=>(hr x hx).mono h e)
 | it hb hm=>exact .it (e _ _ hb) (fun v hv=>let ⟨c',h'⟩:=hm v hv;⟨c',e _ _ h'⟩)
def aL (F:Nat→ah) (u:Nat) (H:ah):Nat→ah:=fun v=>if v=u then H else F v
theorem ft (F:Nat→ah) (H:ah) {n:Nat} {tc:List Nat}:∀ u,u<n→u ∉ tc→aL F n H u=F u:=fun u hu _=>by simp [aL];omega
theorem yO (F:Nat→ah) (H:ah) (n:Nat):(List.range (n+1)).flatMap (aL F n H)=(List.range n).flatMap F++H:=by
 rw [List.range_succ,List.flatMap_append]
 have:(List.range n).flatMap (aL F n H)=(List.range n).flatMap F:=by
  rw [List.flatMap_def,List.flatMap_def];congr 1
  apply List.map_congr_left;intro a ha;have:=List.mem_range.1 ha;simp [aL];omega
 rw [this];simp [aL]
theorem RM.new (R:RM D w0 K0 M β F I w) {w':World} (g:Gr w w') {q:Option Addr×Nat} {H:ah} {blk:af} (n:cQ w w' H) (hb:bn (fun w=>K0 w∧ai w I) (β++[q]) M.length blk H):
  RM D w0 K0 (M++[blk]) (β++[q]) (aL F M.length H) I w' where
 len:=by simp [R.len]
 blk:=by
  intro u bl hu
  rcases Nat.lt_or_ge u M.length with h | h
  ·rw [List.getElem?_append_left h] at hu
   have:aL F M.length H u=F u:=by simp [aL];omega
   rw [this];exact (R.blk u bl hu).mono (fun _ h=>h) (Ext.app _ _)
  ·rw [List.getElem?_append_right h] at hu
   have h0:u-M.length=0:=by
    rcases Nat.eq_zero_or_pos (u-M.length) with h0 | h0
    ·exact h0
    ·rw [List.getElem?_eq_none (by simp;omega)] at hu;simp at hu
   obtain rfl:u=M.length:=by omega
   simp at hu;subst hu
   simpa [aL] using hb
 st:=by
  have:=R.st.new g n
  rw [List.length_append,List.length_singleton,yO]
  refine this.perm ?_
  rw [← List.append_assoc]
  exact List.Perm.append_right I List.perm_append_comm
theorem RM.gr (R:RM D w0 K0 M β F I w) {w':World} (g:Gr w w'):RM D w0 K0 M β F I w':=⟨R.len,R.blk,R.st.gr g⟩
theorem cH (R:RM D w0 K0 M β F I w) (x:Option Addr×Nat):(β++[x])[M.length]?=some x:=by rw [← R.len];simp
def AV.one:AV→Bool
 | .d (.v x)=>cD x
 | .d .jk=>false
 | .d (.ag _)=>false
 | .d (.tu _)=>false
 | .ag _=>false
 | .tu _=>false
 | _=>true
theorem AV.Az {K:World→Prop} {c:AV} {y:Value} (h:aq K β c y) (ho:c.one=true):cD y=true:=by
 cases h with
 | d h=>
  rename_i x
  cases x with
  | v x=>cases h;exact ho
  | jk=>simp [AV.one] at ho
  | ro k rows=>obtain ⟨a,n,c,rfl⟩:=h.slice (by simp);rfl
  | em T k rows=>obtain ⟨a,n,c,rfl⟩:=h.slice (by simp);rfl
  | ag l=>simp [AV.one] at ho
  | tu l=>simp [AV.one] at ho
  | pb T l=>cases h
 | sl=>rfl
 | sb=>rfl
 | sf=>rfl
 | mv=>rfl
 | yl=>rfl
 | pt=>rfl
 | ep=>rfl
 | rp=>rfl
 | uk hu=>exact hu
 | bt h hn=>obtain ⟨a,n,c,rfl⟩:=h.slice (by simp);rfl
 | fn=>rfl
 | fm=>rfl
 | ag=>simp [AV.one] at ho
 | tu=>simp [AV.one] at ho
theorem My {y:Value} (h:cD y=true):y.cells=#[y]:=by cases y<;>first | rfl | simp [cD] at h
def mV:AV→Option (List AV)
 | .ag l=>bif l.all AV.one then some l else none
 | c=>bif c.one then some [c] else none
theorem pE {K:World→Prop} {v:AV} {y:Value} {l:List AV} (h:mV v=some l) (r:aq K β v y):∃ ys:List Value,y.cells=ys.toArray∧ys.length=l.length∧(∀ (j:Nat) c z,l[j]?=some c→ys[j]?=some z→aq K β c z)∧∀ q ∈ ys,cD q=true:=by
 have single:∀ c:AV,(bif c.one then some [c] else none)=some l→aq K β c y→∃ ys:List Value,y.cells=ys.toArray∧ys.length=l.length∧(∀ (j:Nat) c z,l[j]?=some c→ys[j]?=some z→aq K β c z)∧∀ q ∈ ys,cD q=true:=by
  intro c hc rc
  cases ho:c.one with
  | false=>simp [ho] at hc
  | true=>
   simp only [ho,cond_true,Option.some.injEq] at hc;subst hc
   have h1:=AV.Az rc ho
   refine ⟨[y],My h1,rfl,?_,by simpa using h1⟩
   intro j c' z h2 h3
   cases j with
   | zero=>simp at h2 h3;subst h2 h3;exact rc
   | succ j=>simp at h2
 cases v with
 | ag l'=>
  simp only [mV] at h
  cases ho:l'.all AV.one with
  | false=>simp [ho] at h
  | true=>
   simp only [ho,cond_true,Option.some.injEq] at h;subst h
   cases r with
   | ag ys hl hr=>
    refine ⟨ys,rfl,hl,hr,?_⟩
    intro q hq
    obtain ⟨j,hj,rfl⟩:=List.getElem_of_mem hq
    have eu:j<l'.length:=by omega
    exact AV.Az (hr j _ _ (List.getElem?_eq_getElem eu) (List.getElem?_eq_getElem hj)) (List.all_eq_true.1 ho _ (List.getElem_mem eu))
 | _=>(refine single _ ?_ r;exact h)
def wX (E:List (Nat×AV)) (M:List af) (t:TypeId) (x:Operand):Option Out:=
 match aC E x with
 | some v=>(match mV v with | some l=>some ⟨[],.pt M.length 0,M++[.bx t l],[],[],none⟩ | none=>none)
 | none=>none
theorem Ha {t:TypeId} {x:Operand} (h:wX E M t x=some out):aB P ⟨d,.box t x,ty,pos,aft,gd⟩ E M out:=by
 unfold wX at h
 split at h
 ·rename_i v hv
  split at h
  ·rename_i l hl
   simp only [Option.some.injEq] at h;subst h
   intro D w0 K0 β F I ρ w C _
   obtain ⟨y,hy,r⟩:=C.aR hv
   obtain ⟨ys,h1,h2,h3,h4⟩:=pE hl r
   refine QQ hy fun b w' g n=>?_
   rw [h1] at n
   exact ⟨_,_,I,C.rm.new (q:=(some ⟨b,0,none⟩,0)) g n (.bx (cH C.rm _) ys h2 fun j c z e1 e2=>(h3 j c z e1 e2).mono (fun _ h=>h) (Ext.app _ _)),(Ext.app _ _).b _,aZ.refl _,ft _ _,.pt (cH C.rm _)⟩
  ·simp at h
 ·simp at h
def fM (l:List Value):List AV:=l.map fun x=>.d (.v x)
theorem iG {K:World→Prop} (l:List Value):l.length=(fM l).length∧∀ (j:Nat) c z,(fM l)[j]?=some c→l[j]?=some z→aq K β c z:=by
 refine ⟨by simp [fM],?_⟩
 intro j c z h1 h2
 simp only [fM,List.getElem?_map,h2,Option.map_some,Option.some.injEq] at h1
 subst h1;exact .d (.v _)
def vY (T:aD) (M:List af) (t:TypeId):Option Out:=
 match ox T t with
 | some l=>some ⟨[],.pt M.length 0,M++[.bx t (fM l)],[],[],none⟩
 | none=>none
theorem Ft (hT:aP P T=true) {t:TypeId} (h:vY T M t=some out):aB P ⟨d,.alloc t,ty,pos,aft,gd⟩ E M out:=by
 unfold vY at h
 split at h
 ·rename_i l hz
  simp only [Option.some.injEq] at h;subst h
  obtain ⟨z,o4,ke⟩:=va hT hz
  intro D w0 K0 β F I ρ w C _
  refine F7 (ke w) fun b w' g n=>?_
  rw [o4] at n
  obtain ⟨h1,h2⟩:=iG (K:=fun w=>K0 w∧ai w I) (β:=β++[(some ⟨b,0,none⟩,0)]) l
  exact ⟨_,_,I,C.rm.new (q:=(some ⟨b,0,none⟩,0)) g n (.bx (cH C.rm _) l h1 h2),(Ext.app _ _).b _,aZ.refl _,ft _ _,.pt (cH C.rm _)⟩
 ·simp at h
theorem RM.set (R:RM D w0 K0 M β F I w) {u b:Nat} {o o':Obj} {G:ah} {blk blk':af} (hu:M[u]?=some blk) (hF:F u=(b,o)::G) (hb:bn (fun w=>K0 w∧ai w I) β u blk' ((b,o')::G)):
  RM D w0 K0 (M.set u blk') β (aL F u ((b,o')::G)) I (bB w b o') where
 len:=by rw [List.length_set];exact R.len
 blk:=by
  intro v bl hv
  rw [List.getElem?_set] at hv
  by_cases e:u=v
  ·subst e
   obtain ⟨aH,-⟩:=List.getElem?_eq_some_iff.1 hu
   simp only [aH,if_pos,Option.some.injEq] at hv;subst hv
   simpa [aL] using hb
  ·rw [if_neg e] at hv
   have:aL F u ((b,o')::G) v=F v:=by simp only [aL];rw [if_neg (fun h=>e h.symm)]
   rw [this];exact R.blk v bl hv
 st:=by
  obtain ⟨aH,-⟩:=List.getElem?_eq_some_iff.1 hu
  have split:∀ (f:Nat→ah),(List.range M.length).flatMap f++I=(List.range u).flatMap f++(f u++((List.range' (u+1) (M.length-(u+1))).flatMap f++I)):=by
   intro f
   have hr:List.range M.length=List.range u++u::List.range' (u+1) (M.length-(u+1)):=by
    rw [List.range_eq_range',List.range_eq_range']
    have h1:M.length=u+(1+(M.length-(u+1))):=by omega
    conv=>lhs;rw [h1]
    rw [← List.range'_append_1,← List.range'_append_1]
    simp
   rw [hr];simp [List.flatMap_append]
  have other:∀ v,v≠u→aL F u ((b,o')::G) v=F v:=fun v h=>by simp [aL,h]
  have c1:(List.range u).flatMap (aL F u ((b,o')::G))=(List.range u).flatMap F:=by
   rw [List.flatMap_def,List.flatMap_def];congr 1;apply List.map_congr_left;intro a ha;have:=List.mem_range.1 ha;exact other a (by omega)
  have c2:(List.range' (u+1) (M.length-(u+1))).flatMap (aL F u ((b,o')::G))=(List.range' (u+1) (M.length-(u+1))).flatMap F:=by
   rw [List.flatMap_def,List.flatMap_def];congr 1;apply List.map_congr_left;intro a ha;have:=(List.mem_range'_1.1 ha).1;exact other a (by omega)
  have hs:=R.st
  rw [split,hF] at hs
  have nD:St D w0 w ((b,o)::(G++((List.range u).flatMap F++((List.range' (u+1) (M.length-(u+1))).flatMap F++I)))):=hs.perm (by classical rw [List.perm_iff_count];intro x;simp only [List.count_append,List.count_cons]<;>omega)
  rw [List.length_set,split,c1,c2]
  have c9:aL F u ((b,o')::G) u=(b,o')::G:=by simp [aL]
  rw [c9]
  exact (nD.set o').perm (by classical rw [List.perm_iff_count];intro x;simp only [List.count_append,List.count_cons]<;>omega)
def vC (T:aD) (E:List (Nat×AV)) (M:List af) (t:TypeId) (x y:Operand):Option Out:=
 match aC E x,aC E y,dB T t with
 | some (.pt u o),some v,some n=>(match mV v,M[u]? with
  | some l,some (.bx T cells)=>bif l.length.beq n&&(o+n).ble cells.length then some ⟨[],.d .jk,M.set u (.bx T (cells.take o++(l++cells.drop (o+n)))),[u],[],none⟩ else none
  | _,_=>none)
 | _,_,_=>none
theorem EK (hT:aP P T=true) {t:TypeId} {x y:Operand} (h:vC T E M t x y=some out):aB P ⟨d,.store t x y,ty,pos,aft,gd⟩ E M out:=by
 unfold vC at h
 split at h
 ·rename_i u o v n hx hy hn
  split at h
  ·rename_i l Tt cells hl hM
   cases hc:(l.length.beq n&&(o+n).ble cells.length) with
   | false=>simp [hc] at h
   | true=>
    simp only [hc,cond_true,Option.some.injEq] at h;subst h
    simp only [Bool.and_eq_true] at hc
    have mc:=Nat.eq_of_beq_eq_true hc.1
    have hle:=Nat.le_of_ble_eq_true hc.2
    intro D w0 K0 β F I ρ w C _
    obtain ⟨yx,da,rx⟩:=C.aR hx
    obtain ⟨yy,eS,ry⟩:=C.aR hy
    obtain ⟨zs,h1,h2,h3,h4⟩:=pE hl ry
    cases rx with
    | pt hb=>
     obtain ⟨H,hF,hB,hH⟩:=C.rm.at hM
     cases hB with
     | bx aE ys q6 hr=>
      rw [hb] at aE;cases aE
      have hw:=hH.one
      have o5:=dV hT hn
      refine vB n o5 da eS hw (by rw [h1];simp;omega) (by simp;omega) (by rw [h1];simpa using h4) ?_
      rw [h1]
      refine ⟨β,_,I,C.rm.set hM hF (o':=.cells (bS ys.toArray o zs) Tt (0,0)) (?_:bn _ β u (.bx Tt (cells.take o++(l++cells.drop (o+n)))) _),(Ext.refl β).b _,aZ.refl _,fun v hv hn=>by simp only [aL];rw [if_neg (by simpa using hn)],.d (.jk _)⟩
      have he:(bS ys.toArray o zs)=(bS ys.toArray o zs).toList.toArray:=by simp
      rw [he]
      refine .bx hb _ (by rw [Array.length_toList,ib];simp;omega) ?_
      intro j c z e1 e2
      rw [Array.getElem?_toList,pD _ _ _ _ (by simp;omega)] at e2
      by_cases hj:o≤j∧j<o+zs.length
      ·rw [if_pos hj] at e2
       rw [List.getElem?_append_right (by simp;omega),List.getElem?_append_left (by simp;omega)] at e1
       refine h3 (j-o) c z ?_ e2
       rw [← e1];congr 1;simp;omega
      ·rw [if_neg hj] at e2
       rw [List.getElem?_toArray] at e2
       refine hr j c z ?_ e2
       rcases Nat.lt_or_ge j o with nE | nE
       ·rw [List.getElem?_append_left (by simp;omega),List.getElem?_take,if_pos nE] at e1;exact e1
       ·rw [List.getElem?_append_right (by simp;omega),List.getElem?_append_right (by simp;omega),List.getElem?_drop] at e1
        rw [← e1];congr 1;simp;omega
  ·simp at h
 ·simp at h
end Go.Proofs.YtgkdnnmcjjabdaaGreat
namespace Go.Proofs.YtgkdnnmcjjabdaaGreat
open Go.RowKit
variable {P:Program} {T:aD} {D:List Nat} {w0:World} {K0:World→Prop} {E:List (Nat×AV)} {M:List af} {β:Beta} {F:Nat→ah} {I:ah} {ρ:Operand→Value} {w:World}
variable {d:Option Tmp} {ty:TypeId} {pos:String} {aft:Array Edge} {gd:Option (Nat×Bool)} {oc:Option aW} {out:Out}
def wY (E:List (Nat×AV)) (M:List af) (oc:Option aW) (x:Operand):Option Out:=match kO (aC E x) with | some c=>some (jS oc (!c) M) | none=>none
theorem Hb {x:Operand} {t:TypeId} (h:wY E M oc x=some out):aB P ⟨d,.unOp .not t x,ty,pos,aft,gd⟩ E M out:=by
 unfold wY at h
 split at h
 ·rename_i c hc
  simp only [Option.some.injEq] at h;subst h
  exact oa (.of fun _=>⟨_,rfl⟩) fun C w Φ aI=>RY (C.bool hc) rfl aI
 ·simp at h
def wZ (E:List (Nat×AV)) (M:List af) (oc:Option aW) (x:Operand):Option Out:=match bN (aC E x) with | some (k,a)=>some (jT oc [] k (k.wrap ((BitVec.ofInt k.bits (if k.signed then -1 else k.max) ^^^ BitVec.ofInt k.bits a).toNat:Int)) M) | none=>none
theorem Hc {x:Operand} {t:TypeId} (h:wZ E M oc x=some out):aB P ⟨d,.unOp .xor t x,ty,pos,aft,gd⟩ E M out:=by
 unfold wZ at h
 split at h
 ·rename_i k a hc
  simp only [Option.some.injEq] at h;subst h
  exact mR (.of fun _=>⟨_,rfl⟩) fun C _ w Φ aI=>R9 (C.int hc) rfl aI
 ·simp at h
def wA (E:List (Nat×AV)) (M:List af) (oc:Option aW) (c x y:Operand):Option Out:=
 match kO (aC E c),oc with
 | some c0,some (.b b)=>(match aC E (bif b then x else y) with | some v=>some (lk [c0=b] v M) | none=>none)
 | some true,_=>(match aC E x with | some v=>some (lk [] v M) | none=>none)
 | some false,_=>(match aC E y with | some v=>some (lk [] v M) | none=>none)
 | none,_=>none
theorem vg {c x y:Operand}:o0 P ⟨d,.pick c x y,ty,pos,aft,gd⟩:=by
 intro ρ w
 simp only [execOp]
 cases hc:ρ c<;>first | exact Or.inl ⟨_,_,rfl⟩ | exact Or.inr ⟨_,_,rfl⟩
theorem F9 {c x y:Operand} (h:wA E M oc c x y=some out):aB P ⟨d,.pick c x y,ty,pos,aft,gd⟩ E M out:=by
 unfold wA at h
 split at h
 ·rename_i c0 b hc
  split at h
  ·rename_i v hv
   simp only [Option.some.injEq] at h;subst h
   refine jM vg fun C bJ=>?_
   obtain ⟨rfl,-⟩:=bJ
   cases c0 with
   | true=>exact ⟨_,C.ev hv,fun w Φ aI=>G7 (C.bool hc) rfl aI⟩
   | false=>exact ⟨_,C.ev hv,fun w Φ aI=>G8 (C.bool hc) rfl aI⟩
  ·simp at h
 ·rename_i hc _
  split at h
  ·rename_i v hv
   simp only [Option.some.injEq] at h;subst h
   exact jM vg fun C _=>⟨_,C.ev hv,fun w Φ aI=>G7 (C.bool hc) rfl aI⟩
  ·simp at h
 ·rename_i hc _
  split at h
  ·rename_i v hv
   simp only [Option.some.injEq] at h;subst h
   exact jM vg fun C _=>⟨_,C.ev hv,fun w Φ aI=>G8 (C.bool hc) rfl aI⟩
  ·simp at h
 ·simp at h
def Cn:Option AV→Option Nat
 | some (.d (.ro _ rows))=>some rows.length
 | some (.d (.v (.slice _ n _)))=>some n
 | some (.sl _ n)=>some n
 | some (.sb _ _ _ n)=>some n
 | _=>none
theorem Ctx.len (C:Ctx D w0 K0 E M β F I ρ w) {x:Operand} {n:Nat} (h:Cn (aC E x)=some n):∃ a c,ρ x=.slice a n c:=by
 unfold Cn at h
 split at h
 ·rename_i k rows hv
  simp only [Option.some.injEq] at h;subst h
  obtain ⟨y,hy,r⟩:=C.aR hv
  cases r with | d r=>cases r with | ro X hl gK hs hr=>obtain ⟨a,c,rfl,-⟩:=gK;exact ⟨a,c,hy⟩
 ·rename_i a n' c hv
  simp only [Option.some.injEq] at h;subst h
  obtain ⟨y,hy,r⟩:=C.aR hv
  cases r with | d r=>cases r;exact ⟨_,_,hy⟩
 ·rename_i u n' hv
  simp only [Option.some.injEq] at h;subst h
  obtain ⟨y,hy,r⟩:=C.aR hv
  cases r;exact ⟨_,_,hy⟩
 ·rename_i n' hv
  simp only [Option.some.injEq] at h;subst h
  obtain ⟨y,hy,r⟩:=C.aR hv
  cases r;exact ⟨_,_,hy⟩
 ·simp at h
def w5 (T:aD) (E:List (Nat×AV)) (M:List af) (oc:Option aW) (t:TypeId) (x:Operand):Option Out:=
 match bE T t with
 | some (.sl _)=>(match Cn (aC E x) with | some n=>some (jT oc [] .i64 n M) | none=>none)
 | some .st=>(match gi (aC E x) with | some l=>some (jT oc [] .i64 l.length M) | none=>none)
 | _=>none
theorem Hd (hT:aP P T=true) {x:Operand} {t:TypeId} (h:w5 T E M oc t x=some out):aB P ⟨d,.call ⟨.builtin .len,#[x],#[t]⟩,ty,pos,aft,gd⟩ E M out:=by
 unfold w5 at h
 split at h
 ·rename_i e ht
  replace ht:=bj hT ht
  split at h
  ·rename_i n hn
   simp only [Option.some.injEq] at h;subst h
   refine mR (.of fun _=>⟨_,rfl⟩) fun C _ w Φ aI=>?_
   obtain ⟨a,c,hx⟩:=C.len hn
   exact QS ht hx aI
  ·simp at h
 ·rename_i ht
  replace ht:=bj hT ht
  split at h
  ·rename_i l hl
   simp only [Option.some.injEq] at h;subst h
   exact mR (.of fun _=>⟨_,rfl⟩) fun C _ w Φ aI=>NL ht (C.str hl) aI
  ·simp at h
 ·simp at h
def wB (E:List (Nat×AV)) (M:List af) (oc:Option aW) (op:BinOp) (x y:Operand):Option Out:=
 match gi (aC E x),gi (aC E y) with
 | some a,some b=>(match op with | .eql=>some (jS oc (a==b) M) | .neq=>some (jS oc (a != b) M) | _=>none)
 | _,_=>none
theorem Ga {op:BinOp} {x y:Operand} {t t':TypeId} (h:wB E M oc op x y=some out):aB P ⟨d,.binOp op t x y t',ty,pos,aft,gd⟩ E M out:=by
 unfold wB at h
 split at h
 ·rename_i a b ha hb
  split at h<;>simp only [Option.some.injEq,reduceCtorEq] at h<;>subst h
  ·exact oa (.of fun _=>⟨_,rfl⟩) fun C w Φ aI=>NJ (C.str ha) (C.str hb) rfl aI
  ·exact oa (.of fun _=>⟨_,rfl⟩) fun C w Φ aI=>NK (C.str ha) (C.str hb) rfl aI
 ·simp at h
def vZ (T:aD) (E:List (Nat×AV)) (M:List af) (oc:Option aW) (t t':TypeId) (x:Operand):Option Out:=
 match bE T t,bE T t',bN (aC E x) with
 | some _,some (.it k),some (_,a)=>some (jT oc [] k (k.wrap a) M)
 | _,_,_=>none
theorem Fv (hT:aP P T=true) {x:Operand} {t t':TypeId} (h:vZ T E M oc t t' x=some out):aB P ⟨d,.convert t t' x,ty,pos,aft,gd⟩ E M out:=by
 unfold vZ at h
 split at h
 ·rename_i u k k' a hu hk ha
  replace hk:=bj hT hk
  simp only [Option.some.injEq] at h;subst h
  exact mR (.of fun _=>⟨_,rfl⟩) fun C _ w Φ aI=>Mx (NH hT hu) hk (C.int ha) rfl aI
 ·simp at h
def JY:Builtin→Int→Int→Option Int
 | .min,a,b=>some (min a b)
 | .max,a,b=>some (max a b)
 | _,_,_=>none
def xK (E:List (Nat×AV)) (M:List af) (oc:Option aW) (bi:Builtin) (x y:Operand):Option Out:=
 match bN (aC E x),bN (aC E y) with
 | some (k,a),some (k',b)=>bif decide (k=k') then (match JY bi a b with | some z=>some (jT oc [] k z M) | none=>none) else none
 | _,_=>none
theorem Ib {bi:Builtin} {x y:Operand} {t t':TypeId} (h:xK E M oc bi x y=some out):aB P ⟨d,.call ⟨.builtin bi,#[x,y],#[t,t']⟩,ty,pos,aft,gd⟩ E M out:=by
 unfold xK at h
 split at h
 ·rename_i k a k' b hx hy
  cases hk:decide (k=k') with
  | false=>simp [hk] at h
  | true=>
   simp only [hk,cond_true] at h
   obtain rfl:=of_decide_eq_true hk
   split at h
   ·rename_i z hz
    simp only [Option.some.injEq] at h;subst h
    cases bi<;>simp only [JY,Option.some.injEq,reduceCtorEq] at hz
    ·exact mR (.of fun _=>⟨_,rfl⟩) fun C _ w Φ aI=>RX (C.int hx) (C.int hy) hz aI
    ·exact mR (.of fun _=>⟨_,rfl⟩) fun C _ w Φ aI=>RW (C.int hx) (C.int hy) hz aI
   ·simp at h
 ·simp at h
end Go.Proofs.YtgkdnnmcjjabdaaGreat
namespace Go.Proofs.YtgkdnnmcjjabdaaGreat
open Go.RowKit
variable {P:Program} {T:aD} {D:List Nat} {w0:World} {K0:World→Prop} {E:List (Nat×AV)} {M:List af} {β:Beta} {F:Nat→ah} {I:ah} {ρ:Operand→Value} {w:World}
variable {d:Option Tmp} {ty:TypeId} {pos:String} {aft:Array Edge} {gd:Option (Nat×Bool)} {oc:Option aW} {out:Out}
def ju (E:List (Nat×AV)):List Operand→Option (List AV)
 | []=>some []
 | x::r=>match aC E x,ju E r with | some v,some l=>some (v::l) | _,_=>none
theorem Ctx.ld (C:Ctx D w0 K0 E M β F I ρ w):∀ {xs:List Operand} {l:List AV},ju E xs=some l→(xs.map ρ).length=l.length∧∀ (j:Nat) c y,l[j]?=some c→(xs.map ρ)[j]?=some y→aq (fun w=>K0 w∧ai w I) β c y
 | [],l,h=>by simp only [ju,Option.some.injEq] at h;subst h;simp
 | x::r,l,h=>by
  unfold ju at h
  split at h
  ·rename_i v l' hv hl
   simp only [Option.some.injEq] at h;subst h
   obtain ⟨h1,h2⟩:=Ctx.ld C hl
   refine ⟨by simpa using h1,?_⟩
   intro j c y hc hy
   cases j with
   | zero=>simp at hc hy;subst hc hy;exact C.ev hv
   | succ j=>simp at hc hy;exact h2 j c y hc (by simpa using hy)
  ·simp at h
def wC (E:List (Nat×AV)) (M:List af) (fn:Fn) (first bP:Array Operand):Option Out:=
 match fn,first with
 | .func f,⟨[]⟩=>(match ju E bP.toList with | some l=>some (lk [] (.fn f l) M) | none=>none)
 | _,_=>none
theorem Gb {fn:Fn} {first bP:Array Operand} (h:wC E M fn first bP=some out):aB P ⟨d,.makeFunc fn first bP,ty,pos,aft,gd⟩ E M out:=by
 unfold wC at h
 split at h
 ·rename_i f
  split at h
  ·rename_i l hl
   simp only [Option.some.injEq] at h;subst h
   refine aB.same ?_
   intro D w0 K0 β F I ρ w C _
   obtain ⟨h1,h2⟩:=C.ld hl
   have hm:(bP.toList.map ρ).toArray=bP.map ρ:=by rw [← Array.toList_map]
   refine ⟨_,fun w' _=>?_,aq.fn _ h1 h2⟩
   simp [execOp,Instr.makeFunc,hm]
  ·simp at h
 ·simp at h
structure bA (D:List Nat) (w0:World) (K0:World→Prop) (M:List af) (β:Beta) (F:Nat→ah) (I X:ah) (w:World):Prop where
 len:β.length=M.length
 blk:∀ (u:Nat) blk,M[u]?=some blk→bn (fun w=>K0 w∧ai w I) β u blk (F u)
 st:St D w0 w ((List.range M.length).flatMap F++(I++X))
theorem bA.nil {X:ah} (R:bA D w0 K0 M β F I X w) (h:X=[]):RM D w0 K0 M β F I w:=⟨R.len,R.blk,by have:=R.st;rw [h,List.append_nil] at this;exact this⟩
theorem RM.x (R:RM D w0 K0 M β F I w):bA D w0 K0 M β F I [] w:=⟨R.len,R.blk,by rw [List.append_nil];exact R.st⟩
theorem bA.perm {X Y:ah} (R:bA D w0 K0 M β F I X w) (p:X.Perm Y):bA D w0 K0 M β F I Y w:=⟨R.len,R.blk,R.st.perm (List.Perm.append_left _ (List.Perm.append_left _ p))⟩
theorem bA.drop {X Y:ah} (R:bA D w0 K0 M β F I (X++Y) w):bA D w0 K0 M β F I X w:=⟨R.len,R.blk,by have:=R.st;rw [← List.append_assoc,← List.append_assoc] at this;have:=this.rN;rw [List.append_assoc] at this;exact this⟩
theorem bA.take {X Y:ah} (R:bA D w0 K0 M β F I (X++Y) w) {q:Option Addr×Nat} {blk:af} (hb:bn (fun w=>K0 w∧ai w I) (β++[q]) M.length blk X):
  bA D w0 K0 (M++[blk]) (β++[q]) (aL F M.length X) I Y w where
 len:=by simp [R.len]
 blk:=by
  intro u bl hu
  rcases Nat.lt_or_ge u M.length with h | h
  ·rw [List.getElem?_append_left h] at hu
   have:aL F M.length X u=F u:=by simp [aL];omega
   rw [this];exact (R.blk u bl hu).mono (fun _ h=>h) (Ext.app _ _)
  ·rw [List.getElem?_append_right h] at hu
   have h0:u-M.length=0:=by
    rcases Nat.eq_zero_or_pos (u-M.length) with h0 | h0
    ·exact h0
    ·rw [List.getElem?_eq_none (by simp;omega)] at hu;simp at hu
   obtain rfl:u=M.length:=by omega
   simp at hu;subst hu
   simpa [aL] using hb
 st:=by
  rw [List.length_append,List.length_singleton,yO]
  exact R.st.perm (by classical rw [List.perm_iff_count];intro x;simp only [List.count_append];omega)
inductive fv (K:World→Prop):List DV→List Value→ah→Prop where
 | nil:fv K [] [] []
 | cons {c:DV} {y:Value} {l:List DV} {ys:List Value} {H G:ah} (h:bw K c y H) (r:fv K l ys G):fv K (c::l) (y::ys) (H++G)
theorem uI {n:Nat} (F:Nat→ah):(List.range (n+1)).flatMap F=F 0++(List.range n).flatMap fun i=>F (i+1):=by
 rw [List.range_succ_eq_map,List.flatMap_cons,List.flatMap_map]
theorem fv.of {K:World→Prop}:∀ {l:List DV} {ys:List Value} {F:Nat→ah},ys.length=l.length→(∀ (j:Nat) c y,l[j]?=some c→ys[j]?=some y→bw K c y (F j))→fv K l ys ((List.range l.length).flatMap F)
 | [],ys,F,hl,_=>by have:ys=[]:=List.eq_nil_of_length_eq_zero hl;subst this;exact .nil
 | c::l,[],F,hl,_=>by simp at hl
 | c::l,y::ys,F,hl,hr=>by
  rw [List.length_cons,uI]
  exact .cons (hr 0 c y rfl rfl) (fv.of (by simpa using hl) fun j c' y' h1 h2=>hr (j+1) c' y' (by simpa using h1) (by simpa using h2))
theorem fv.len {K:World→Prop} {l:List DV} {ys:List Value} {H:ah} (h:fv K l ys H):ys.length=l.length:=by
 induction h with
 | nil=>rfl
 | cons h r ih=>simp [ih]
def oM (M:List af):DV→AV×List af
 | .em T k rows=>(.sl M.length rows.length,M++[.rw T k rows])
 | x=>(.d x,M)
def iO (M:List af):List DV→List AV×List af
 | []=>([],M)
 | c::r=>((oM M c).1::(iO (oM M c).2 r).1,(iO (oM M c).2 r).2)
def m6:DV→Bool
 | .pb _ _=>false
 | .ag _=>false
 | .tu _=>false
 | _=>true
def oN (M:List af):DV→AV×List af
 | .ag l=>bif l.all m6 then (.ag (iO M l).1,(iO M l).2) else (.d .jk,M)
 | x=>oM M x
def iL (M:List af):List DV→List AV×List af
 | []=>([],M)
 | c::r=>((oN M c).1::(iL (oN M c).2 r).1,(iL (oN M c).2 r).2)
def nF (M:List af):DV→AV×List af
 | .tu l=>(.tu (iL M l).1,(iL M l).2)
 | x=>oN M x
def AA (D:List Nat) (w0:World) (K0:World→Prop) (M:List af) (β:Beta) (F:Nat→ah) (I:ah) (w:World) (av:AV) (M':List af) (y:Value) (Y:ah):Prop:=
 ∃ β' F',bA D w0 K0 M' β' F' I Y w∧Ext β β'∧(∀ u,u<M.length→F' u=F u)∧M.length≤M'.length∧aq (fun w=>K0 w∧ai w I) β' av y
theorem r4 {x:DV} (hx:m6 x=true) {y:Value} {H Y:ah} (R:bA D w0 K0 M β F I (H++Y) w) (h:bw (fun w=>K0 w∧ai w I) x y H):AA D w0 K0 M β F I w (oM M x).1 (oM M x).2 y Y:=by
 cases h with
 | v x=>exact ⟨β,F,R,Ext.refl _,fun _ _=>rfl,Nat.le_refl _,.d (.v _)⟩
 | jk x=>exact ⟨β,F,R,Ext.refl _,fun _ _=>rfl,Nat.le_refl _,.d (.jk _)⟩
 | ro X hl hy hs hr=>exact ⟨β,F,R,Ext.refl _,fun _ _=>rfl,Nat.le_refl _,.d (.ro X hl hy hs hr)⟩
 | pb ys F hl hr=>simp [m6] at hx
 | ag ys F hl hr=>simp [m6] at hx
 | tu ys F hl hr=>simp [m6] at hx
 | em X G hl hs hr=>
  obtain ⟨a,c,rfl⟩:=hs.len
  have dw:(β++[(a,c)])[M.length]?=some (a,c):=by rw [← R.len];simp
  refine ⟨_,_,R.take (.rw dw X G hl hs hr),Ext.app _ _,fun u hu=>by simp [aL];omega,by simp [oM],.sl dw⟩
theorem Pq:∀ {l:List DV} {M:List af} {β:Beta} {F:Nat→ah} {ys:List Value} {H Y:ah},l.all m6=true→bA D w0 K0 M β F I (H++Y) w→fv (fun w=>K0 w∧ai w I) l ys H→
  ∃ β' F',bA D w0 K0 (iO M l).2 β' F' I Y w∧Ext β β'∧(∀ u,u<M.length→F' u=F u)∧M.length≤(iO M l).2.length∧ys.length=(iO M l).1.length∧∀ (j:Nat) c y,(iO M l).1[j]?=some c→ys[j]?=some y→aq (fun w=>K0 w∧ai w I) β' c y:=by
 intro l
 induction l with
 | nil=>
  intro M β F ys H Y _ R h
  cases h
  exact ⟨β,F,R,Ext.refl _,fun _ _=>rfl,Nat.le_refl _,rfl,by simp [iO]⟩
 | cons x r ih=>
  intro M β F ys H Y hf R h
  simp only [List.all_cons,Bool.and_eq_true] at hf
  cases h with
  | cons h hr=>
   rw [List.append_assoc] at R
   obtain ⟨jD,F1,R1,e1,f1,l1,a1⟩:=r4 hf.1 R h
   obtain ⟨cr,F2,R2,e2,f2,l2,n2,a2⟩:=ih hf.2 R1 hr
   refine ⟨cr,F2,R2,fun u x hx=>e2 u x (e1 u x hx),fun u hu=>(f2 u (by omega)).trans (f1 u hu),by simp only [iO];omega,by simp [iO,n2],?_⟩
   intro j c y hc hy
   cases j with
   | zero=>simp [iO] at hc hy;subst hc hy;exact a1.mono (fun _ h=>h) e2
   | succ j=>simp [iO] at hc hy;exact a2 j c y hc hy
def m7:DV→Bool
 | .pb _ _=>false
 | .ag l=>l.all m6
 | .tu _=>false
 | _=>true
theorem pT {x:DV} (hx:m7 x=true) {y:Value} {H Y:ah} (R:bA D w0 K0 M β F I (H++Y) w) (h:bw (fun w=>K0 w∧ai w I) x y H):AA D w0 K0 M β F I w (oN M x).1 (oN M x).2 y Y:=by
 cases x with
 | ag l=>
  cases h with
  | ag ys G hl hr=>
   have kd:l.all m6=true:=hx
   obtain ⟨cr,F2,R2,e2,f2,l2,n2,a2⟩:=Pq kd R (fv.of hl hr)
   simp only [oN,kd,cond_true]
   exact ⟨cr,F2,R2,e2,f2,l2,.ag ys n2 a2⟩
 | tu l=>simp [m7] at hx
 | v x=>exact r4 rfl R h
 | jk=>exact r4 rfl R h
 | ro k rows=>exact r4 rfl R h
 | em T k rows=>exact r4 rfl R h
 | pb T l=>simp [m7] at hx
theorem NM:∀ {l:List DV} {M:List af} {β:Beta} {F:Nat→ah} {ys:List Value} {H Y:ah},l.all m7=true→bA D w0 K0 M β F I (H++Y) w→fv (fun w=>K0 w∧ai w I) l ys H→
  ∃ β' F',bA D w0 K0 (iL M l).2 β' F' I Y w∧Ext β β'∧(∀ u,u<M.length→F' u=F u)∧M.length≤(iL M l).2.length∧ys.length=(iL M l).1.length∧∀ (j:Nat) c y,(iL M l).1[j]?=some c→ys[j]?=some y→aq (fun w=>K0 w∧ai w I) β' c y:=by
 intro l
 induction l with
 | nil=>
  intro M β F ys H Y _ R h
  cases h
  exact ⟨β,F,R,Ext.refl _,fun _ _=>rfl,Nat.le_refl _,rfl,by simp [iL]⟩
 | cons x r ih=>
  intro M β F ys H Y hf R h
  simp only [List.all_cons,Bool.and_eq_true] at hf
  cases h with
  | cons h hr=>
   rw [List.append_assoc] at R
   obtain ⟨jD,F1,R1,e1,f1,l1,a1⟩:=pT hf.1 R h
   obtain ⟨cr,F2,R2,e2,f2,l2,n2,a2⟩:=ih hf.2 R1 hr
   refine ⟨cr,F2,R2,fun u x hx=>e2 u x (e1 u x hx),fun u hu=>(f2 u (by omega)).trans (f1 u hu),by simp only [iL];omega,by simp [iL,n2],?_⟩
   intro j c y hc hy
   cases j with
   | zero=>simp [iL] at hc hy;subst hc hy;exact a1.mono (fun _ h=>h) e2
   | succ j=>simp [iL] at hc hy;exact a2 j c y hc hy
def lO:DV→Bool
 | .tu l=>l.all m7
 | x=>m7 x
theorem AB {x:DV} (hx:lO x=true) {y:Value} {H Y:ah} (R:bA D w0 K0 M β F I (H++Y) w) (h:bw (fun w=>K0 w∧ai w I) x y H):AA D w0 K0 M β F I w (nF M x).1 (nF M x).2 y Y:=by
 cases x with
 | tu l=>
  cases h with
  | tu ys G hl hr=>
   have kd:l.all m7=true:=hx
   obtain ⟨cr,F2,R2,e2,f2,l2,n2,a2⟩:=NM kd R (fv.of hl hr)
   exact ⟨cr,F2,R2,e2,f2,l2,.tu ys n2 a2⟩
 | ag l=>exact pT (x:=.ag l) hx R h
 | v x=>exact pT rfl R h
 | jk=>exact pT rfl R h
 | ro k rows=>exact pT rfl R h
 | em T k rows=>exact pT rfl R h
 | pb T l=>simp [lO,m7] at hx
end Go.Proofs.YtgkdnnmcjjabdaaGreat
namespace Go.Proofs.YtgkdnnmcjjabdaaGreat
open Go.RowKit
def al (P:Program) (f:FuncId) (args:List AV) (x:DV):Prop:=
 fJ P f=true∧∀ (w:World) (K:World→Prop) (ys:List Value),(∀ w',Gr w w'→K w')→ys.length=args.length→(∀ (j:Nat) c y,args[j]?=some c→ys[j]?=some y→aq K [] c y)→
  Calls P f ys.toArray w (IV w fun r H=>∃ Ho Hi,H=Ho++Hi∧bw (fun w=>K w∧ai w Hi) x r Ho)
def de (x:DV):Prop:=∀ (K K':World→Prop) (y:Value) (H:ah),bw K x y H→bw K' x y H
mutual
def bd:DV→DV
 | .v x=>.v x
 | .jk=>.jk
 | .ro k rows=>.ro k rows
 | .em _ k rows=>.ro k (bO rows)
 | .ag l=>.ag (ir l)
 | .tu l=>.tu (ir l)
 | .pb _ _=>.jk
def ir:List DV→List DV
 | []=>[]
 | c::r=>bd c::ir r
def bO:List (List DV)→List (List DV)
 | []=>[]
 | l::r=>ir l::bO r
end
theorem yP (l:List DV):ir l=l.map bd:=by induction l with | nil=>rfl | cons c r ih=>rw [ir,ih];rfl
theorem b8 (l:List (List DV)):bO l=l.map fun r=>r.map bd:=by induction l with | nil=>rfl | cons c r ih=>rw [bO,ih,yP];rfl
theorem dI.src {T size n:Nat} {v:Value} {xs:List Value} {H:ah} (h:dI T size v n xs H) {w:World} (hw:ai w H):Src w size v n xs:=by
 refine ⟨h.1,?_⟩
 rcases h.2 with ⟨rfl,rfl,a,rfl⟩ | ⟨b,cap,cs,fz,rfl,rfl,et,cd,hle,ht⟩
 ·exact Or.inl ⟨rfl,a,0,rfl⟩
 ·refine Or.inr ⟨_,cap,rfl,fun j hj=>?_⟩
  rw [add_eq,Nat.zero_add,cell_of hw.one]
  have:(cs.toList.take (n*size))[j]?=some xs[j]:=by rw [ht];simp [hj]
  rw [List.getElem?_take] at this
  split at this
  ·simpa using this
  ·simp at this
theorem dI.QX {T:TypeId} {size:Nat} {v:Value} {n:Nat} {xs:List Value} {H:ah} (h:dI T size v n xs H):∃ a c,v=.slice a n c∧n≤c:=by
 rcases h.2 with ⟨rfl,_,a,rfl⟩ | ⟨b,cap,cs,fz,rfl,_,_,_,hc,_⟩
 ·exact ⟨a,0,rfl,Nat.le_refl _⟩
 ·exact ⟨_,_,rfl,hc⟩
theorem vD {K K':World→Prop} {c:DV} {x:Value} {H:ah} (h:bw K c x H):(∀ w,K' w→K w∧ai w H)→bw K' (bd c) x []:=by
 have w6:∀ {n:Nat} {G:Nat→ah} {w:World},ai w ((List.range n).flatMap G)→∀ j,j<n→ai w (G j):=by
  intro n G w hw j hj x hx
  exact hw x (List.mem_flatMap.2 ⟨j,List.mem_range.2 hj,hx⟩)
 have wD:∀ n:Nat,(List.range n).flatMap (fun _=>([]:ah))=[]:=by intro n;simp
 induction h with
 | v x=>intro _;rw [bd];exact .v x
 | jk x=>intro _;rw [bd];exact .jk x
 | pb ys F hl hr ih=>intro _;rw [bd];exact .jk _
 | ro X hl hy hs hr ih=>intro hk;rw [bd];exact .ro X hl hy (fun w hw=>hs w (hk w hw).1) fun i r j c x h1 h2 h3=>(hr i r j c x h1 h2 h3).mono fun w hw=>(hk w hw).1
 | em X F hl hs hr ih=>
  intro hk
  rename_i T k rows y H0
  rw [bd,b8]
  obtain ⟨a,cp,hy,iW⟩:∃ a cp,y=.slice a rows.length cp∧rows.length≤cp:=hs.QX
  refine .ro X (fun i r hi=>?_) ⟨a,cp,by rw [List.length_map];exact ⟨hy,iW⟩⟩ (fun w hw=>?_) fun i r j c x h1 h2 h3=>?_
  ·rw [List.getElem?_map,Option.map_eq_some_iff] at hi
   obtain ⟨r',h1,rfl⟩:=hi
   rw [List.length_map];exact hl i r' h1
  ·rw [List.length_map];exact hs.src (ai.app.1 (hk w hw).2).1
  ·rw [List.getElem?_map,Option.map_eq_some_iff] at h1
   obtain ⟨r',h1,rfl⟩:=h1
   rw [List.getElem?_map,Option.map_eq_some_iff] at h2
   obtain ⟨c',h2,rfl⟩:=h2
   refine ih i r' j c' x h1 h2 h3 fun w hw=>⟨(hk w hw).1,?_⟩
   have:=(ai.app.1 (hk w hw).2).2
   obtain ⟨hi,-⟩:=List.getElem?_eq_some_iff.1 h1
   obtain ⟨hj,-⟩:=List.getElem?_eq_some_iff.1 h2
   have h4:=w6 this i hi
   exact w6 h4 j (by have:=(hl i r' h1).1;omega)
 | ag ys F hl hr ih=>
  intro hk
  rename_i l
  rw [bd,yP]
  have:=bw.ag (K:=K') (l:=l.map bd) ys (fun _=>[]) (by rw [List.length_map];exact hl) (fun j c y h1 h2=>by
   rw [List.getElem?_map,Option.map_eq_some_iff] at h1
   obtain ⟨c',h1,rfl⟩:=h1
   obtain ⟨hj,-⟩:=List.getElem?_eq_some_iff.1 h1
   exact ih j c' y h1 h2 fun w hw=>⟨(hk w hw).1,w6 (hk w hw).2 j hj⟩)
  rwa [wD] at this
 | tu ys F hl hr ih=>
  intro hk
  rename_i l
  rw [bd,yP]
  have:=bw.tu (K:=K') (l:=l.map bd) ys (fun _=>[]) (by rw [List.length_map];exact hl) (fun j c y h1 h2=>by
   rw [List.getElem?_map,Option.map_eq_some_iff] at h1
   obtain ⟨c',h1,rfl⟩:=h1
   obtain ⟨hj,-⟩:=List.getElem?_eq_some_iff.1 h1
   exact ih j c' y h1 h2 fun w hw=>⟨(hk w hw).1,w6 (hk w hw).2 j hj⟩)
  rwa [wD] at this
variable {P:Program} {T:aD} {D:List Nat} {w0:World} {K0:World→Prop} {E:List (Nat×AV)} {M:List af} {β:Beta} {F:Nat→ah} {I:ah} {ρ:Operand→Value} {w:World}
variable {d:Option Tmp} {ty:TypeId} {pos:String} {aft:Array Edge} {gd:Option (Nat×Bool)} {oc:Option aW} {out:Out}
def wE (M:List af):AV→AV→Option (List Prop×List Nat)
 | .d x,.d x'=>some ([x=x'],[])
 | .sl u n,.d (.ro k' jo)=>(match M[u]? with | some (.rw _ k rows)=>some ([k=k',n=rows.length,bO rows=jo],[u]) | _=>none)
 | .pt u o,.rp row o'=>(match M[u]? with | some (.bx _ cells)=>some ([o=o',cells=row.map .d],[u]) | _=>none)
 | _,_=>none
def m8 (M:List af):List AV→List AV→Option (List Prop×List Nat)
 | [],[]=>some ([],[])
 | c::r,c'::r'=>(match wE M c c',m8 M r r' with | some (v,b),some (v',b')=>some (v++v',b++b') | _,_=>none)
 | _,_=>none
def Bl (M:List af):AV→AV→Option (List Prop×List Nat)
 | .ag l,.ag l'=>m8 M l l'
 | .ag l,.d (.ag l')=>m8 M l (l'.map .d)
 | .fn f l,.fn f' l'=>(match m8 M l l' with | some (v,b)=>some ((f=f')::v,b) | none=>none)
 | c,c'=>wE M c c'
def ov (M:List af):List AV→List AV→Option (List Prop×List Nat)
 | [],[]=>some ([],[])
 | c::r,c'::r'=>(match Bl M c c',ov M r r' with | some (v,b),some (v',b')=>some (v++v',b++b') | _,_=>none)
 | _,_=>none
theorem bg.app {a b:List Prop}:bg (a++b)↔bg a∧bg b:=by
 induction a with
 | nil=>simp [bg]
 | cons p r ih=>simp only [List.cons_append,bg,ih,and_assoc]
theorem Gc (R:RM D w0 K0 M β F I w) {K':World→Prop} {c c':AV} {vc:List Prop} {b:List Nat} (h:wE M c c'=some (vc,b)) (hv:bg vc) (hK:∀ w,K' w→fx K0 I F b w) {y:Value} (r:aq (fun w=>K0 w∧ai w I) β c y):aq K' [] c' y:=by
 unfold wE at h
 split at h
 ·simp only [Option.some.injEq,Prod.mk.injEq] at h;obtain ⟨rfl,rfl⟩:=h
  obtain ⟨rfl,-⟩:=hv
  cases r with | d r=>exact .d (r.mono fun w hw=>(hK w hw).1)
 ·rename_i u n k' jo
  split at h
  ·rename_i Tt k rows hM
   simp only [Option.some.injEq,Prod.mk.injEq] at h;obtain ⟨rfl,rfl⟩:=h
   obtain ⟨rfl,rfl,rfl,-⟩:=hv
   cases r with
   | sl hb=>
    obtain ⟨H,hF,hB,-⟩:=R.at hM
    cases hB with
    | rw aE X G hl hs hr=>
     rw [hb] at aE;cases aE
     have:=vD (K':=K') (bw.em X G hl hs hr) fun w hw=>⟨(hK w hw).1,by have:=(hK w hw).2 u (by simp);rw [hF] at this;exact this⟩
     rw [bd] at this
     exact .d this
  ·simp at h
 ·rename_i u o row o'
  split at h
  ·rename_i Tt cells hM
   simp only [Option.some.injEq,Prod.mk.injEq] at h;obtain ⟨rfl,rfl⟩:=h
   obtain ⟨rfl,rfl,-⟩:=hv
   cases r with
   | pt hb=>
    obtain ⟨H,hF,hB,-⟩:=R.at hM
    cases hB with
    | bx aE ys hl hr=>
     rw [hb] at aE;cases aE
     have ha:∀ (b:Nat),(⟨b,o,none⟩:Addr)=(⟨b,0,none⟩:Addr).add o:=fun b=>by rw [add_eq,Nat.zero_add]
     rw [ha]
     refine .rp _ ys (by rw [hl,List.length_map]) (fun w' c8 j x hj=>?_) fun j c x h1 h2=>?_
     ·have:=(hK w' c8).2 u (by simp)
      rw [hF] at this
      rw [add_eq,Nat.zero_add,cell_of this.one];simpa using hj
     ·have:=hr j (.d c) x (by rw [List.getElem?_map,h1];rfl) h2
      cases this with | d h=>exact h.mono fun w hw=>(hK w hw).1
  ·simp at h
 ·simp at h
theorem vi (R:RM D w0 K0 M β F I w) {K':World→Prop}:∀ {l l':List AV} {vc:List Prop} {b:List Nat},m8 M l l'=some (vc,b)→bg vc→(∀ w,K' w→fx K0 I F b w)→∀ {ys:List Value},ys.length=l.length→(∀ (j:Nat) c y,l[j]?=some c→ys[j]?=some y→aq (fun w=>K0 w∧ai w I) β c y)→
  ys.length=l'.length∧∀ (j:Nat) c y,l'[j]?=some c→ys[j]?=some y→aq K' [] c y
 | [],[],vc,b,h,_,_,ys,hl,_=>by simp at hl;subst hl;simp
 | [],_::_,_,_,h,_,_,_,_,_=>by simp [m8] at h
 | _::_,[],_,_,h,_,_,_,_,_=>by simp [m8] at h
 | c::r,c'::r',vc,b,h,hv,hK,ys,hl,hr=>by
  unfold m8 at h
  split at h
  ·rename_i v b1 v' b' h1 h2
   simp only [Option.some.injEq,Prod.mk.injEq] at h;obtain ⟨rfl,rfl⟩:=h
   rw [bg.app] at hv
   cases ys with
   | nil=>simp at hl
   | cons y ys=>
    obtain ⟨e1,e2⟩:=vi R h2 hv.2 (fun w hw=>⟨(hK w hw).1,fun u hu=>(hK w hw).2 u (List.mem_append_right _ hu)⟩) (ys:=ys) (by simpa using hl) (fun j c y h3 h4=>hr (j+1) c y (by simpa using h3) (by simpa using h4))
    refine ⟨by simp [e1],?_⟩
    intro j a z h3 h4
    cases j with
    | zero=>simp at h3 h4;subst h3 h4;exact Gc R h1 hv.1 (fun w hw=>⟨(hK w hw).1,fun u hu=>(hK w hw).2 u (List.mem_append_left _ hu)⟩) (hr 0 _ _ rfl rfl)
    | succ j=>simp at h3 h4;exact e2 j a z h3 h4
  ·simp at h
theorem NN (R:RM D w0 K0 M β F I w) {K':World→Prop} {c c':AV} {vc:List Prop} {b:List Nat} (h:Bl M c c'=some (vc,b)) (hv:bg vc) (hK:∀ w,K' w→fx K0 I F b w) {y:Value} (r:aq (fun w=>K0 w∧ai w I) β c y):aq K' [] c' y:=by
 unfold Bl at h
 split at h
 ·cases r with
  | ag ys hl hr=>
   obtain ⟨e1,e2⟩:=vi R h hv hK hl hr
   exact .ag ys e1 e2
 ·rename_i l l'
  cases r with
  | ag ys hl hr=>
   obtain ⟨e1,e2⟩:=vi R h hv hK hl hr
   have:=bw.ag (K:=K') (l:=l') ys (fun _=>[]) (by rw [e1,List.length_map]) (fun j c y h1 h2=>by
    have:=e2 j (.d c) y (by rw [List.getElem?_map,h1];rfl) h2
    cases this with | d h=>exact h)
   have wD:∀ n:Nat,(List.range n).flatMap (fun _=>([]:ah))=[]:=by intro n;simp
   rw [wD] at this
   exact .d this
 ·rename_i f l f' l'
  split at h
  ·rename_i v b1 h1
   simp only [Option.some.injEq,Prod.mk.injEq] at h;obtain ⟨rfl,rfl⟩:=h
   obtain ⟨rfl,hv⟩:=hv
   cases r with
   | fn ys hl hr=>
    obtain ⟨e1,e2⟩:=vi R h1 hv hK hl hr
    exact .fn ys e1 e2
  ·simp at h
 ·exact Gc R h hv hK r
theorem yQ (R:RM D w0 K0 M β F I w) {K':World→Prop}:∀ {l l':List AV} {vc:List Prop} {b:List Nat},ov M l l'=some (vc,b)→bg vc→(∀ w,K' w→fx K0 I F b w)→∀ {ys:List Value},ys.length=l.length→(∀ (j:Nat) c y,l[j]?=some c→ys[j]?=some y→aq (fun w=>K0 w∧ai w I) β c y)→
  ys.length=l'.length∧∀ (j:Nat) c y,l'[j]?=some c→ys[j]?=some y→aq K' [] c y
 | [],[],vc,b,h,_,_,ys,hl,_=>by simp at hl;subst hl;simp
 | [],_::_,_,_,h,_,_,_,_,_=>by simp [ov] at h
 | _::_,[],_,_,h,_,_,_,_,_=>by simp [ov] at h
 | c::r,c'::r',vc,b,h,hv,hK,ys,hl,hr=>by
  unfold ov at h
  split at h
  ·rename_i v b1 v' b' h1 h2
   simp only [Option.some.injEq,Prod.mk.injEq] at h;obtain ⟨rfl,rfl⟩:=h
   rw [bg.app] at hv
   cases ys with
   | nil=>simp at hl
   | cons y ys=>
    obtain ⟨e1,e2⟩:=yQ R h2 hv.2 (fun w hw=>⟨(hK w hw).1,fun u hu=>(hK w hw).2 u (List.mem_append_right _ hu)⟩) (ys:=ys) (by simpa using hl) (fun j c y h3 h4=>hr (j+1) c y (by simpa using h3) (by simpa using h4))
    refine ⟨by simp [e1],?_⟩
    intro j a z h3 h4
    cases j with
    | zero=>simp at h3 h4;subst h3 h4;exact NN R h1 hv.1 (fun w hw=>⟨(hK w hw).1,fun u hu=>(hK w hw).2 u (List.mem_append_left _ hu)⟩) (hr 0 _ _ rfl rfl)
    | succ j=>simp at h3 h4;exact e2 j a z h3 h4
  ·simp at h
def oz (M:List af):List Nat→Bool
 | []=>true
 | u::r=>(Nat.ble (u+1) M.length)&&oz M r
theorem zf:∀ {b:List Nat},oz M b=true→∀ u ∈ b,u<M.length
 | [],_,u,hu=>by simp at hu
 | v::r,h,u,hu=>by
  simp only [oz,Bool.and_eq_true] at h
  rcases List.mem_cons.1 hu with e | e
  ·subst e;exact Nat.le_of_ble_eq_true h.1
  ·exact zf h.2 u e
def SU (x:DV):List Nat→List Prop
 | []=>[]
 | _::_=>[de x]
def Bm (P:Program) (E:List (Nat×AV)) (M:List af) (oc:Option aW) (g:Operand) (args:Array Operand):Option Out:=
 match aC E g,ju E args.toList,oc with
 | some (.fn f bP),some l,some (.call told x)=>(match ov M (l++bP) told with
  | some (vc,b)=>bif lO x&&oz M b then some ⟨al P f told x::(SU x b++vc),(nF M x).1,(nF M x).2,[],[],none⟩ else none
  | none=>none)
 | _,_,_=>none
theorem al.now {f:FuncId} {args:List AV} {x:DV} (h:al P f args x) (R:RM D w0 K0 M β F I w) (hk:∀ w,Kp D w0 w→K0 w) {b:List Nat} (hb:∀ u ∈ b,u<M.length) {ys:List Value} (hl:ys.length=args.length)
  (hr:∀ (j:Nat) c y,args[j]?=some c→ys[j]?=some y→aq (fx K0 I F b) [] c y) (hi:b≠[]→de x):
  Calls P f ys.toArray w fun e w'=>∃ v,e=.returned v∧∃ I' X,bA D w0 K0 M β F I' X w'∧aZ I I'∧bw (fun w=>K0 w∧ai w I') x v X:=by
 have SV:∀ w',Gr w w'→fx K0 I F b w':=fun w' g=>⟨⟨hk _ (R.st.kp.gr g),(ai.app.1 (R.st.gr g).holds).2⟩,fun u hu=>(RM.jm ⟨R.len,R.blk,R.st.gr g⟩ (List.getElem?_eq_getElem (hb u hu)))⟩
 refine (h.2 w (fx K0 I F b) ys SV hl hr).mono ?_
 rintro e w' ⟨v,rfl,g,H,⟨Ho,Hi,rfl,hd⟩,n⟩
 have aU:=R.st.new g n
 refine ⟨v,rfl,Hi++I,Ho,⟨R.len,fun u bl hu=>(R.blk u bl hu).mono (fun w hw=>⟨hw.1,(ai.app.1 hw.2).2⟩) (Ext.refl _),?_⟩,⟨Hi,rfl⟩,?_⟩
 ·exact aU.perm (by classical rw [List.perm_iff_count];intro z;simp only [List.count_append];omega)
 ·by_cases JZ:b=[]
  ·subst JZ
   exact hd.mono fun w hw=>⟨⟨⟨hw.1,(ai.app.1 hw.2).2⟩,by simp⟩,(ai.app.1 hw.2).1⟩
  ·exact hi JZ _ _ _ _ hd
theorem NO {g:Operand} {args:Array Operand} {ea:Array TypeId} (h:Bm P E M oc g args=some out):aB P ⟨d,.call ⟨.value g,args,ea⟩,ty,pos,aft,gd⟩ E M out:=by
 unfold Bm at h
 split at h
 ·rename_i f bP l told x hg hl
  split at h
  ·rename_i vc b Bn
   cases e9:(lO x&&oz M b) with
   | false=>simp [e9] at h
   | true=>
    simp only [e9,cond_true,Option.some.injEq] at h;subst h
    simp only [Bool.and_eq_true] at e9
    have hb:=zf e9.2
    intro D w0 K0 β F I ρ w C hv
    obtain ⟨fy,hv⟩:=hv
    rw [bg.app] at hv
    obtain ⟨Co,hv⟩:=hv
    obtain ⟨y,hy,r⟩:=C.aR hg
    cases r with
    | fn cs bC gl=>
     obtain ⟨eb,iX⟩:=C.ld hl
     have dc:(args.toList.map ρ++cs).length=(l++bP).length:=by rw [List.length_append,List.length_append,eb,bC]
     have oO:∀ (j:Nat) c y,(l++bP)[j]?=some c→(args.toList.map ρ++cs)[j]?=some y→aq (fun w=>K0 w∧ai w I) β c y:=by
      intro j c y h1 h2
      rcases Nat.lt_or_ge j l.length with hj | hj
      ·rw [List.getElem?_append_left hj] at h1
       rw [List.getElem?_append_left (by omega)] at h2
       exact iX j c y h1 h2
      ·rw [List.getElem?_append_right hj] at h1
       rw [List.getElem?_append_right (by omega),eb] at h2
       exact gl _ c y h1 h2
     obtain ⟨e1,e2⟩:=yQ C.rm (K':=fx K0 I F b) Bn hv (fun _ h=>h) dc oO
     have hm:args.map ρ=(args.toList.map ρ).toArray:=by rw [← Array.toList_map]
     refine rG hy fy.1 hm ?_
     have j5:((args.toList.map ρ).toArray++cs.toArray:Array Value)=(args.toList.map ρ++cs).toArray:=by simp
     rw [j5]
     refine (fy.now C.rm C.k hb e1 e2 (fun hn=>by cases b with | nil=>exact absurd rfl hn | cons u r=>exact Co.1)).mono ?_
     rintro e w' ⟨v,rfl,I',X,R,hI,hd⟩
     refine ⟨v,rfl,?_⟩
     have R':bA D w0 K0 M β F I' (X++[]) w':=by rw [List.append_nil];exact R
     obtain ⟨β',F',R2,e,f2,-,a2⟩:=AB e9.1 R' hd
     exact ⟨β',F',I',R2.nil rfl,e.b _,hI,fun u hu _=>f2 u hu,a2⟩
  ·simp at h
 ·simp at h
def q7:AV→Bool
 | .d _=>true
 | .rp _ _=>true
 | _=>false
def tD:AV→Bool
 | .ag l=>l.all q7
 | .fn _ l=>l.all q7
 | c=>q7 c
theorem Ic {K:World→Prop} {c:AV} (h:q7 c=true) {y:Value} (r:aq K β c y):aq K [] c y:=by
 cases r with
 | d r=>exact .d r
 | rp a X hl hc hr=>exact .rp a X hl hc hr
 | _=>simp [q7] at h
theorem QY {K:World→Prop} {c:AV} (h:tD c=true) {y:Value} (r:aq K β c y):aq K [] c y:=by
 cases r with
 | d r=>exact .d r
 | rp a X hl hc hr=>exact .rp a X hl hc hr
 | ag ys hl hr=>exact .ag ys hl fun j c y h1 h2=>Ic (List.all_eq_true.1 h c (List.mem_of_getElem? h1)) (hr j c y h1 h2)
 | fn ys hl hr=>exact .fn ys hl fun j c y h1 h2=>Ic (List.all_eq_true.1 h c (List.mem_of_getElem? h1)) (hr j c y h1 h2)
 | _=>simp [tD,q7] at h
def qG (P:Program) (E:List (Nat×AV)) (M:List af) (oc:Option aW) (g:Operand) (args:Array Operand):Option Out:=
 match aC E g,ju E args.toList,oc with
 | some (.fn f bP),some l,some (.aM x)=>bif lO x&&(l++bP).all tD then some ⟨[al P f (l++bP) x],(nF M x).1,(nF M x).2,[],[],none⟩ else none
 | _,_,_=>none
theorem He {g:Operand} {args:Array Operand} {ea:Array TypeId} (h:qG P E M oc g args=some out):aB P ⟨d,.call ⟨.value g,args,ea⟩,ty,pos,aft,gd⟩ E M out:=by
 unfold qG at h
 split at h
 ·rename_i f bP l x hg hl
  cases e9:(lO x&&(l++bP).all tD) with
  | false=>simp only [e9,cond_false,reduceCtorEq] at h
  | true=>
   simp only [e9,cond_true,Option.some.injEq] at h;subst h
   simp only [Bool.and_eq_true] at e9
   intro D w0 K0 β F I ρ w C hv
   obtain ⟨fy,-⟩:=hv
   obtain ⟨y,hy,r⟩:=C.aR hg
   cases r with
   | fn cs bC gl=>
    obtain ⟨eb,iX⟩:=C.ld hl
    have dc:(args.toList.map ρ++cs).length=(l++bP).length:=by rw [List.length_append,List.length_append,eb,bC]
    have oO:∀ (j:Nat) c y,(l++bP)[j]?=some c→(args.toList.map ρ++cs)[j]?=some y→aq (fun w=>K0 w∧ai w I) β c y:=by
     intro j c y h1 h2
     rcases Nat.lt_or_ge j l.length with hj | hj
     ·rw [List.getElem?_append_left hj] at h1
      rw [List.getElem?_append_left (by omega)] at h2
      exact iX j c y h1 h2
     ·rw [List.getElem?_append_right hj] at h1
      rw [List.getElem?_append_right (by omega),eb] at h2
      exact gl _ c y h1 h2
    have hm:args.map ρ=(args.toList.map ρ).toArray:=by rw [← Array.toList_map]
    refine rG hy fy.1 hm ?_
    have j5:((args.toList.map ρ).toArray++cs.toArray:Array Value)=(args.toList.map ρ++cs).toArray:=by simp
    rw [j5]
    refine (fy.now C.rm C.k (b:=[]) (by simp) dc (fun j c y h1 h2=>(QY (List.all_eq_true.1 e9.2 c (List.mem_of_getElem? h1)) (oO j c y h1 h2)).mono (fun w hw=>hw.1) (Ext.refl _)) (fun hn=>absurd rfl hn)).mono ?_
    rintro e w' ⟨v,rfl,I',X,R,hI,hd⟩
    refine ⟨v,rfl,?_⟩
    have R':bA D w0 K0 M β F I' (X++[]) w':=by rw [List.append_nil];exact R
    obtain ⟨β',F',R2,e,f2,-,a2⟩:=AB e9.1 R' hd
    exact ⟨β',F',I',R2.nil rfl,e.b _,hI,fun u hu _=>f2 u hu,a2⟩
 ·simp at h
end Go.Proofs.YtgkdnnmcjjabdaaGreat
namespace Go.Proofs.YtgkdnnmcjjabdaaGreat
open Go.RowKit
variable {P:Program} {T:aD} {w:World} {D:List Nat} {w0:World} {K0:World→Prop} {M:List af} {β:Beta} {F:Nat→ah} {I X:ah}
theorem range_split {n u:Nat} (h:u<n) (f:Nat→ah):(List.range n).flatMap f=(List.range u).flatMap f++(f u++(List.range' (u+1) (n-(u+1))).flatMap f):=by
 have hr:List.range n=List.range u++u::List.range' (u+1) (n-(u+1)):=by
  rw [List.range_eq_range',List.range_eq_range']
  have h1:n=u+(1+(n-(u+1))):=by omega
  conv=>lhs;rw [h1]
  rw [← List.range'_append_1,← List.range'_append_1]
  simp
 rw [hr];simp [List.flatMap_append]
theorem eG {l:List Nat} {f g:Nat→ah} (h:∀ a ∈ l,f a=g a):l.flatMap f=l.flatMap g:=by
 rw [List.flatMap_def,List.flatMap_def];congr 1;exact List.map_congr_left h
theorem bA.dX (R:bA D w0 K0 M β F I X w) {u:Nat} {blk:af} (hu:M[u]?=some blk):bA D w0 K0 (M.set u .dead) β (aL F u []) I (X++F u) w where
 len:=by rw [List.length_set];exact R.len
 blk:=by
  intro v bl hv
  rw [List.getElem?_set] at hv
  by_cases e:u=v
  ·subst e
   obtain ⟨aH,-⟩:=List.getElem?_eq_some_iff.1 hu
   simp only [aH,if_pos,Option.some.injEq] at hv;subst hv
   simpa [aL] using bn.dead u
  ·rw [if_neg e] at hv
   have:aL F u [] v=F v:=by simp only [aL];rw [if_neg (fun h=>e h.symm)]
   rw [this];exact R.blk v bl hv
 st:=by
  obtain ⟨aH,-⟩:=List.getElem?_eq_some_iff.1 hu
  have hs:=R.st
  rw [List.length_set,range_split aH]
  rw [range_split aH] at hs
  have c1:(List.range u).flatMap (aL F u [])=(List.range u).flatMap F:=eG fun a ha=>by have:=List.mem_range.1 ha;simp [aL];omega
  have c2:(List.range' (u+1) (M.length-(u+1))).flatMap (aL F u [])=(List.range' (u+1) (M.length-(u+1))).flatMap F:=eG fun a ha=>by have:=(List.mem_range'_1.1 ha).1;simp [aL];omega
  have c9:aL F u [] u=[]:=by simp [aL]
  rw [c1,c2,c9]
  exact hs.perm (by classical rw [List.perm_iff_count];intro z;simp only [List.count_append,List.count_nil];omega)
def qo (M:List af):AV→Option (List Prop×DV×List af)
 | .d x=>some ([],x,M)
 | .sl u n=>(match M[u]? with | some (.rw T k rows)=>some ([n=rows.length],.em T k rows,M.set u .dead) | _=>none)
 | _=>none
def jU (M:List af):List AV→Option (List Prop×List DV×List af)
 | []=>some ([],[],M)
 | c::r=>(match qo M c with
  | some (v,x,M')=>(match jU M' r with | some (v',l,Dm)=>some (v++v',x::l,Dm) | none=>none)
  | none=>none)
def Bo (M:List af):AV→Option (List Prop×DV×List af)
 | .ag l=>(match jU M l with | some (v,l',M')=>some (v,.ag l',M') | none=>none)
 | c=>qo M c
def lG (M:List af):List AV→Option (List Prop×List DV×List af)
 | []=>some ([],[],M)
 | c::r=>(match Bo M c with
  | some (v,x,M')=>(match lG M' r with | some (v',l,Dm)=>some (v++v',x::l,Dm) | none=>none)
  | none=>none)
def IE (D:List Nat) (w0:World) (K0:World→Prop) (β:Beta) (I X:ah) (w:World) (y:Value) (x:DV) (M':List af):Prop:=
 ∃ F' H,bA D w0 K0 M' β F' I (X++H) w∧bw (fun w=>K0 w∧ai w I) x y H
theorem Gd (R:bA D w0 K0 M β F I X w) {c:AV} {vc:List Prop} {x:DV} {M':List af} (h:qo M c=some (vc,x,M')) (hv:bg vc) {y:Value} (r:aq (fun w=>K0 w∧ai w I) β c y):IE D w0 K0 β I X w y x M':=by
 unfold qo at h
 split at h
 ·simp only [Option.some.injEq,Prod.mk.injEq] at h;obtain ⟨rfl,rfl,rfl⟩:=h
  cases r with | d r=>exact ⟨F,[],by rw [List.append_nil];exact R,r⟩
 ·rename_i u n
  split at h
  ·rename_i Tt k rows hM
   simp only [Option.some.injEq,Prod.mk.injEq] at h;obtain ⟨rfl,rfl,rfl⟩:=h
   obtain ⟨rfl,-⟩:=hv
   cases r with
   | sl hb=>
    have R':=R.dX hM
    have hB:=R.blk u _ hM
    refine ⟨_,F u,R',?_⟩
    generalize F u=G0 at hB ⊢
    cases hB with
    | rw aE X G hl hs hr=>rw [hb] at aE;cases aE;exact .em X G hl hs hr
  ·simp at h
 ·simp at h
theorem Ge:∀ {l:List AV} {M:List af} {F:Nat→ah} {X:ah} {vc:List Prop} {xs:List DV} {M':List af},bA D w0 K0 M β F I X w→jU M l=some (vc,xs,M')→bg vc→∀ {ys:List Value},ys.length=l.length→(∀ (j:Nat) c y,l[j]?=some c→ys[j]?=some y→aq (fun w=>K0 w∧ai w I) β c y)→
  ∃ F' H,bA D w0 K0 M' β F' I (X++H) w∧fv (fun w=>K0 w∧ai w I) xs ys H
 | [],M,F,X,vc,xs,M',R,h,_,ys,hl,_=>by
  simp only [jU,Option.some.injEq,Prod.mk.injEq] at h;obtain ⟨rfl,rfl,rfl⟩:=h
  have:ys=[]:=List.eq_nil_of_length_eq_zero hl
  subst this
  exact ⟨F,[],by rw [List.append_nil];exact R,.nil⟩
 | c::r,M,F,X,vc,xs,M',R,h,hv,ys,hl,hr=>by
  unfold jU at h
  split at h
  ·rename_i v x M1 h1
   split at h
   ·rename_i v' l' M2 h2
    simp only [Option.some.injEq,Prod.mk.injEq] at h;obtain ⟨rfl,rfl,rfl⟩:=h
    rw [bg.app] at hv
    cases ys with
    | nil=>simp at hl
    | cons y ys=>
     obtain ⟨F1,H1,R1,d1⟩:=Gd R h1 hv.1 (hr 0 c y rfl rfl)
     obtain ⟨F2,H2,R2,d2⟩:=Ge R1 h2 hv.2 (ys:=ys) (by simpa using hl) (fun j c' y' e1 e2=>hr (j+1) c' y' (by simpa using e1) (by simpa using e2))
     exact ⟨F2,H1++H2,by rw [← List.append_assoc];exact R2,.cons d1 d2⟩
   ·simp at h
  ·simp at h
theorem fv.to {K:World→Prop} {l:List DV} {ys:List Value} {H:ah} (h:fv K l ys H):∃ F:Nat→ah,H=(List.range l.length).flatMap F∧∀ (j:Nat) c y,l[j]?=some c→ys[j]?=some y→bw K c y (F j):=by
 induction h with
 | nil=>exact ⟨fun _=>[],by simp,by simp⟩
 | cons h r ih=>
  rename_i c y l ys H G
  obtain ⟨F,hF,hr⟩:=ih
  refine ⟨fun i=>match i with | 0=>H | i+1=>F i,?_,?_⟩
  ·rw [List.length_cons,uI,hF]
  ·intro j c' y' h1 h2
   cases j with
   | zero=>simp at h1 h2;subst h1 h2;exact h
   | succ j=>simp at h1 h2;exact hr j c' y' h1 h2
theorem NP (R:bA D w0 K0 M β F I X w) {c:AV} {vc:List Prop} {x:DV} {M':List af} (h:Bo M c=some (vc,x,M')) (hv:bg vc) {y:Value} (r:aq (fun w=>K0 w∧ai w I) β c y):IE D w0 K0 β I X w y x M':=by
 unfold Bo at h
 split at h
 ·split at h
  ·rename_i v l' M1 h1
   simp only [Option.some.injEq,Prod.mk.injEq] at h;obtain ⟨rfl,rfl,rfl⟩:=h
   cases r with
   | ag ys hl hr=>
    obtain ⟨F1,H1,R1,d1⟩:=Ge R h1 hv hl hr
    obtain ⟨G,rfl,hG⟩:=d1.to
    exact ⟨F1,_,R1,.ag ys G d1.len hG⟩
  ·simp at h
 ·exact Gd R h hv r
theorem Fw:∀ {l:List AV} {M:List af} {F:Nat→ah} {X:ah} {vc:List Prop} {xs:List DV} {M':List af},bA D w0 K0 M β F I X w→lG M l=some (vc,xs,M')→bg vc→∀ {ys:List Value},ys.length=l.length→(∀ (j:Nat) c y,l[j]?=some c→ys[j]?=some y→aq (fun w=>K0 w∧ai w I) β c y)→
  ∃ F' H,bA D w0 K0 M' β F' I (X++H) w∧fv (fun w=>K0 w∧ai w I) xs ys H
 | [],M,F,X,vc,xs,M',R,h,_,ys,hl,_=>by
  simp only [lG,Option.some.injEq,Prod.mk.injEq] at h;obtain ⟨rfl,rfl,rfl⟩:=h
  have:ys=[]:=List.eq_nil_of_length_eq_zero hl
  subst this
  exact ⟨F,[],by rw [List.append_nil];exact R,.nil⟩
 | c::r,M,F,X,vc,xs,M',R,h,hv,ys,hl,hr=>by
  unfold lG at h
  split at h
  ·rename_i v x M1 h1
   split at h
   ·rename_i v' l' M2 h2
    simp only [Option.some.injEq,Prod.mk.injEq] at h;obtain ⟨rfl,rfl,rfl⟩:=h
    rw [bg.app] at hv
    cases ys with
    | nil=>simp at hl
    | cons y ys=>
     obtain ⟨F1,H1,R1,d1⟩:=NP R h1 hv.1 (hr 0 c y rfl rfl)
     obtain ⟨F2,H2,R2,d2⟩:=Fw R1 h2 hv.2 (ys:=ys) (by simpa using hl) (fun j c' y' e1 e2=>hr (j+1) c' y' (by simpa using e1) (by simpa using e2))
     exact ⟨F2,H1++H2,by rw [← List.append_assoc];exact R2,.cons d1 d2⟩
   ·simp at h
  ·simp at h
end Go.Proofs.YtgkdnnmcjjabdaaGreat
namespace Go.Proofs.YtgkdnnmcjjabdaaGreat
open Go.RowKit
variable {P:Program} {T:aD} {D:List Nat} {w0:World} {K0:World→Prop} {E:List (Nat×AV)} {M:List af} {β:Beta} {F:Nat→ah} {I:ah} {ρ:Operand→Value} {w:World}
variable {d:Option Tmp} {ty:TypeId} {pos:String} {aft:Array Edge} {gd:Option (Nat×Bool)} {oc:Option aW} {out:Out}
def lP:List AV→Option (List Value)
 | []=>some []
 | .d (.v x)::r=>(match lP r with | some l=>some (x::l) | none=>none)
 | _=>none
theorem pJ {K:World→Prop} {β:Beta}:∀ {l:List AV} {xs ys:List Value},lP l=some xs→ys.length=l.length→(∀ (j:Nat) c y,l[j]?=some c→ys[j]?=some y→aq K β c y)→ys=xs
 | [],xs,ys,h,hl,_=>by simp only [lP,Option.some.injEq] at h;subst h;exact List.eq_nil_of_length_eq_zero hl
 | c::r,xs,[],_,hl,_=>by simp at hl
 | c::r,xs,y::ys,h,hl,hr=>by
  unfold lP at h
  split at h
  ·simp_all
  ·rename_i x r' heq
   simp only [List.cons.injEq] at heq
   obtain ⟨rfl,rfl⟩:=heq
   split at h
   ·rename_i l' cM
    simp only [Option.some.injEq] at h;subst h
    have h0:=hr 0 _ y rfl rfl
    have h1:=pJ (ys:=ys) cM (by simpa using hl) (fun j c y e1 e2=>hr (j+1) c y (by simpa using e1) (by simpa using e2))
    cases h0 with | d h0=>cases h0;rw [h1]
   ·simp at h
  ·simp at h
def eh (P:Program) (t:TypeId) (xs ys:List Value) (c:Bool):Prop:=P.eqGuardType P.depth t=false∧∀ w:World,(Op.equal t (.agg xs.toArray) (.agg ys.toArray)).run P w=.ok c w
def Cp (P:Program) (E:List (Nat×AV)) (M:List af) (oc:Option aW) (op:BinOp) (t:TypeId) (x y:Operand):Option Out:=
 match op,aC E x,aC E y,oc with
 | .eql,some (.ag l),some (.ag l'),some (.b c)=>(match lP l,lP l' with | some xs,some ys=>some (lk [eh P t xs ys c] (.b c) M) | _,_=>none)
 | .neq,some (.ag l),some (.ag l'),some (.b c)=>(match lP l,lP l' with | some xs,some ys=>some (lk [eh P t xs ys c] (.b (!c)) M) | _,_=>none)
 | _,_,_,_=>none
theorem Pr {op:BinOp} {t t':TypeId} {x y:Operand} (h:Cp P E M oc op t x y=some out):aB P ⟨d,.binOp op t x y t',ty,pos,aft,gd⟩ E M out:=by
 unfold Cp at h
 split at h
 ·rename_i l l' c hx hy
  split at h
  ·rename_i xs ys h1 h2
   simp only [Option.some.injEq] at h;subst h
   refine aB.same ?_
   intro D w0 K0 β F I ρ w C hv
   obtain ⟨⟨hg,hr⟩,-⟩:=hv
   obtain ⟨u,hu,r⟩:=C.aR hx
   obtain ⟨u',c9,r'⟩:=C.aR hy
   cases r with | ag zs hl hz=>
   cases r' with | ag Ud cM fD=>
   obtain rfl:=pJ h1 hl hz
   obtain rfl:=pJ h2 cM fD
   exact ⟨.bool c,fun w' _=>by simp [execOp,hu,c9,eqGuard,hg,binOp,hr],.d (.v _)⟩
  ·simp at h
 ·rename_i l l' c hx hy
  split at h
  ·rename_i xs ys h1 h2
   simp only [Option.some.injEq] at h;subst h
   refine aB.same ?_
   intro D w0 K0 β F I ρ w C hv
   obtain ⟨⟨hg,hr⟩,-⟩:=hv
   obtain ⟨u,hu,r⟩:=C.aR hx
   obtain ⟨u',c9,r'⟩:=C.aR hy
   cases r with | ag zs hl hz=>
   cases r' with | ag Ud cM fD=>
   obtain rfl:=pJ h1 hl hz
   obtain rfl:=pJ h2 cM fD
   exact ⟨.bool (!c),fun w' _=>by simp [execOp,hu,c9,eqGuard,hg,binOp,hr],.d (.v _)⟩
  ·simp at h
 ·simp at h
def AD (l:List (Nat×Nat)) (i:Nat):Option (Nat×Nat):=l[i]?
def jV (E:List (Nat×AV)) (place:Nat→Option (Nat×Nat)) (cells:List AV):List (Nat×Operand)→Option (List AV)
 | []=>some cells
 | (i,x)::r=>(match place i,aC E x with
  | some (off,size),some v=>(match mV v with
   | some l=>bif l.length.beq size&&(off+size).ble cells.length then jV E place (cells.take off++(l++cells.drop (off+size))) r else none
   | none=>none)
  | _,_=>none)
theorem Mz:∀ (vs:List Value) (off j:Nat) (cs:Array Value),(vs.zipIdx j).foldl (fun cs (cj:Value×Nat)=>cs.setIfInBounds (off+cj.2) cj.1) cs=bS cs (off+j) vs:=by
 intro vs
 induction vs with
 | nil=>intro off j cs;simp [bS]
 | cons v r ih=>intro off j cs;rw [List.zipIdx_cons,List.foldl_cons,ih,bS,Nat.add_assoc]
theorem rP {place:Nat→Option (Nat×Nat)} (C:Ctx D w0 K0 E M β F I ρ w):∀ {parts:List (Nat×Operand)} {cells l:List AV} {cs:Array Value},jV E place cells parts=some l→cs.size=cells.length→(∀ (j:Nat) c y,cells[j]?=some c→cs[j]?=some y→aq (fun w=>K0 w∧ai w I) β c y)→
  ∃ bH:Array Value,Instr.fill place cs (parts.map fun p=>(p.1,ρ p.2))=some bH∧bH.size=l.length∧∀ (j:Nat) c y,l[j]?=some c→bH[j]?=some y→aq (fun w=>K0 w∧ai w I) β c y
 | [],cells,l,cs,h,hl,hr=>by simp only [jV,Option.some.injEq] at h;subst h;exact ⟨cs,rfl,hl,hr⟩
 | (i,x)::r,cells,l,cs,h,hl,hr=>by
  unfold jV at h
  split at h
  ·rename_i off size v hp hx
   split at h
   ·rename_i lv J0
    cases hb:(lv.length.beq size&&(off+size).ble cells.length) with
    | false=>simp [hb] at h
    | true=>
     simp only [hb,cond_true] at h
     simp only [Bool.and_eq_true] at hb
     have h1:=Nat.eq_of_beq_eq_true hb.1
     have h2:=Nat.le_of_ble_eq_true hb.2
     obtain ⟨y,hy,ry⟩:=C.aR hx
     obtain ⟨zs,e1,e2,e3,-⟩:=pE J0 ry
     have ss:(bS cs off zs).size=(cells.take off++(lv++cells.drop (off+size))).length:=by rw [ib];simp;omega
     obtain ⟨bH,g1,g2,g3⟩:=rP C (cs:=bS cs off zs) h ss (by
      intro j c z f1 f2
      rw [pD _ _ _ _ (by omega)] at f2
      by_cases hj:off≤j∧j<off+zs.length
      ·rw [if_pos hj] at f2
       rw [List.getElem?_append_right (by simp;omega),List.getElem?_append_left (by simp;omega)] at f1
       refine e3 (j-off) c z ?_ f2
       rw [← f1];congr 1;simp;omega
      ·rw [if_neg hj] at f2
       refine hr j c z ?_ f2
       rcases Nat.lt_or_ge j off with nE | nE
       ·rw [List.getElem?_append_left (by simp;omega),List.getElem?_take,if_pos nE] at f1;exact f1
       ·rw [List.getElem?_append_right (by simp;omega),List.getElem?_append_right (by simp;omega),List.getElem?_drop] at f1
        rw [← f1];congr 1;simp;omega)
     refine ⟨bH,?_,g2,g3⟩
     rw [List.map_cons,Instr.fill]
     simp only [hp,hy,e1]
     rw [if_neg (by simp;omega)]
     have hz:=Mz zs off 0 cs
     have tE:zs.toArray.zipIdx.foldl (fun cs (cj:Value×Nat)=>cs.setIfInBounds (off+cj.2) cj.1) cs=bS cs off zs:=by
      rw [← Array.foldl_toList,Array.toList_zipIdx];simpa using hz
     rw [← g1];congr 1
   ·simp at h
  ·simp at h
def v3 (T:aD) (E:List (Nat×AV)) (M:List af) (t:TypeId) (parts:Array (Nat×Operand)):Option Out:=
 match Dh T t,ox T t with
 | some pl,some z=>(match jV E (AD pl) (fM z) parts.toList with
  | some l=>some (lk [] (.ag l) M)
  | none=>none)
 | _,_=>none
theorem EL:∀ {fs:List Field} {pl:List (Nat×Nat)} (w:World),pS P fs=some pl→(fs.mapM fun f=>(do pure (f.offset,← sizeOf f.type):Sem (Nat×Nat))).run P w=.ok pl w
 | [],pl,w,h=>by simp only [pS,Option.some.injEq] at h;subst h;simp
 | f::r,pl,w,h=>by
  unfold pS at h
  split at h
  ·rename_i i l hi hl
   simp only [Option.some.injEq] at h;subst h
   have ih:=EL w hl
   have hs:(sizeOf f.type).run P w=.ok i.size w:=by simp [sizeOf,typeInfo,Sem.run_bind,hi]
   simp only [List.mapM_cons,Sem.run_bind,hs,Result.andThen_ok,Sem.run_pure,ih]
  ·simp at h
theorem Fx (hT:aP P T=true) {t:TypeId} {parts:Array (Nat×Operand)} (h:v3 T E M t parts=some out):aB P ⟨d,.build t parts,ty,pos,aft,gd⟩ E M out:=by
 unfold v3 at h
 split at h
 ·rename_i pl z Ue hz
  split at h
  ·rename_i l hl
   simp only [Option.some.injEq] at h;subst h
   obtain ⟨fs,hu,Uf⟩:=QU hT Ue
   obtain ⟨zv,o4,ke⟩:=va hT hz
   refine aB.same ?_
   intro D w0 K0 β F I ρ w C _
   obtain ⟨p1,p2⟩:=iG (K:=fun w=>K0 w∧ai w I) (β:=β) z
   obtain ⟨bH,g1,g2,g3⟩:=rP C (cs:=z.toArray) hl (by simpa using p1) (by intro j c y e1 e2;exact p2 j c y e1 (by simpa using e2))
   refine ⟨.agg bH,fun w' _=>?_,?_⟩
   ·have Ug:=EL w' Uf
    have Uh:(fs.mapM fun f=>(do pure (f.offset,← sizeOf f.type):Sem (Nat×Nat))).run P w'=.ok pl.toArray w':=by
     rw [Array.mapM_eq_mapM_toList,Sem.run_map,Ug];rfl
    have me:(parts.map fun (p:Nat×Operand)=>(p.1,ρ p.2)).toList=parts.toList.map fun p=>(p.1,ρ p.2):=by simp
    have vW:(fun i=>pl.toArray[i]?)=AD pl:=by funext i;simp [AD]
    have hb:(Instr.build t (parts.map fun (p:Nat×Operand)=>(p.1,ρ p.2))).run P w'=.ok (.agg bH) w':=by
     simp only [Instr.build,Sem.run_bind,ke,Result.andThen_ok,run_underlying hu,Uh,o4,me,vW,g1,Sem.run_pure]
    simp only [execOp,Sem.run_bind]
    have:(parts.map fun (i,x)=>(i,ρ x))=parts.map fun (p:Nat×Operand)=>(p.1,ρ p.2):=rfl
    rw [this,hb];rfl
   ·have:(aq (fun w=>K0 w∧ai w I) β (.ag l) (.agg bH.toList.toArray)):=.ag bH.toList (by simpa using g2) (by intro j c y e1 e2;exact g3 j c y e1 (by simpa using e2))
    simpa using this
  ·simp at h
 ·simp at h
end Go.Proofs.YtgkdnnmcjjabdaaGreat
namespace Go.Proofs.YtgkdnnmcjjabdaaGreat
open Go.RowKit
variable {P:Program} {T:aD} {D:List Nat} {w0:World} {K0:World→Prop} {E:List (Nat×AV)} {M:List af} {β:Beta} {F:Nat→ah} {I:ah} {ρ:Operand→Value} {w:World}
variable {d:Option Tmp} {ty:TypeId} {pos:String} {aft:Array Edge} {gd:Option (Nat×Bool)} {oc:Option aW} {out:Out}
def eL (T:aD) (t:Nat):Option (Nat×Nat×Nat×List Value):=match bE T t with
 | some (.sl e)=>(match T.at e with | some x=>bif x.zero.length.beq x.size then some (e,x.size,x.bytes,x.zero) else none | none=>none)
 | _=>none
theorem fN (hT:aP P T=true) {t e k b:Nat} {z:List Value} (h:eL T t=some (e,k,b,z)):∃ zv,m5 P t e k b zv∧zv.cells=z.toArray∧z.length=k:=by
 unfold eL at h
 split at h
 ·rename_i e' hu
  split at h
  ·rename_i x hx
   cases hz:x.zero.length.beq x.size with
   | false=>simp [hz] at h
   | true=>
    simp only [hz,cond_true,Option.some.injEq,Prod.mk.injEq] at h
    obtain ⟨rfl,rfl,rfl,rfl⟩:=h
    obtain ⟨i,zv,h1,h2,h3,h4,h5⟩:=u9 hT hx
    have hc:zv.cells=x.zero.toArray:=by rw [← h5]
    exact ⟨zv,⟨bj hT hu,by rw [h1,Option.map_some,h2],by rw [h1,Option.map_some,h3],by rw [h1,Option.bind_some,h4],by rw [hc];simpa using Nat.eq_of_beq_eq_true hz⟩,hc,Nat.eq_of_beq_eq_true hz⟩
  ·simp at h
 ·simp at h
theorem dA {n k:Nat} {X:Nat→List Value} (hX:∀ i,i<n→(X i).length=k):(lay n X).length=n*k:=by
 induction n with
 | zero=>simp [lay]
 | succ n ih=>
  have:=ih (fun i hi=>hX i (by omega))
  simp only [lay,List.range_succ,List.flatMap_append,List.length_append,List.flatMap_cons,List.flatMap_nil,List.append_nil] at this ⊢
  rw [this,hX n (by omega),Nat.succ_mul]
theorem rQ (z:List Value) (n k:Nat) (hz:z.length=k):((Array.range (n*k)).map fun i=>z.toArray[i%z.toArray.size]!).toList=lay n fun _=>z:=by
 subst hz
 apply List.ext_getElem?
 intro p
 have hl:=dA (n:=n) (k:=z.length) (X:=fun _=>z) (fun _ _=>rfl)
 rcases Nat.lt_or_ge p (n*z.length) with hp | hp
 ·have hk:0<z.length:=by
   rcases Nat.eq_zero_or_pos z.length with h0 | h0
   ·rw [h0] at hp;simp at hp
   ·exact h0
  have hd:p / z.length<n:=Nat.div_lt_of_lt_mul (by rw [Nat.mul_comm];exact hp)
  have hm:p%z.length<z.length:=Nat.mod_lt _ hk
  have hg:=jh (n:=n) (k:=z.length) (X:=fun _=>z) (fun _ _=>rfl) hd hm
  rw [Nat.mul_comm,Nat.div_add_mod] at hg
  rw [hg]
  have tE:z[p%z.length]?=some z[p%z.length]:=List.getElem?_eq_getElem hm
  rw [tE,Array.toList_map,List.getElem?_map,Array.toList_range,List.getElem?_range hp,Option.map_some]
  congr 1
  have:(z.toArray)[p%z.toArray.size]?=some z[p%z.length]:=by rw [List.getElem?_toArray];exact tE
  rw [getElem!_def,this]
 ·rw [List.getElem?_eq_none (by simpa using hp),List.getElem?_eq_none (by omega)]
set_option maxRecDepth 20000 in
theorem run_makeSlice {t e k b:Nat} {z:List Value} {zv:Value} (ok:m5 P t e k b zv) (hz:zv.cells=z.toArray) (di:z.length=k) {m:Nat} (hb:b*m≤281474976710656) (hm:m<4611686018427387904):
  (Instr.makeSlice t (.int .i64 m) (.int .i64 m)).run P w=.ok (.slice (some ⟨w.heap.size,0,none⟩) m m) (w.alloc (.cells (lay m fun _=>z).toArray e)):=by
 obtain ⟨i,hi,h1,h2,h3⟩:=ok.info
 have hw:IntKind.i64.wrap (m:Int)=m:=by
  simp [IntKind.wrap,IntKind.signed,IntKind.bits];omega
 have aX:∀ w:World,(sizeOf e).run P w=.ok k w:=fun w=>by simp [sizeOf,typeInfo,Sem.run_bind,hi,h1]
 have e6:∀ w:World,(typeInfo e).run P w=.ok i w:=fun w=>by simp [typeInfo,Sem.run_bind,hi]
 have hzero:∀ w:World,(zeroValue e).run P w=.ok zv w:=fun w=>by simp [zeroValue,Sem.run_bind,e6,h3]
 have lW:∀ (k:Nat) (w:World),(askRoom k).run P w=.ok () w:=by
  intro k w;unfold askRoom;split<;>simp [mark,Sem.run]
 have tF:∀ n:Int,asInt (.int .i64 n)=pure n:=fun n=>rfl
 have bu:∀ (cs:Array Value) (w:World),(newRow e cs).run P w=.ok ⟨w.heap.size,0,none⟩ (w.alloc (.cells cs e)):=by
  intro cs w;simp [newRow,newObj,Sem.run]
 have xL:¬ ((i.bytes:Int)*(m:Int)>2 ^ 48):=by
  rw [h2]
  have e:((b*m:Nat):Int)=(b:Int)*(m:Int):=Int.natCast_mul b m
  rw [← e]
  generalize b*m=q at hb
  omega
 have AE:∀ n,n=m*k→(if n=0 then ((Array.range n).map fun i=>(#[]:Array Value)[i%(#[]:Array Value).size]!) else ((Array.range n).map fun i=>z.toArray[i%z.toArray.size]!))=(lay m fun _=>z).toArray:=by
  intro n hn
  subst hn
  rw [← rQ z m k di]
  by_cases h0:m*k=0
  ·rw [if_pos h0,h0];simp
  ·rw [if_neg h0]
 unfold Instr.makeSlice
 simp only [Sem.run_bind,run_underlying ok.aU,Result.andThen_ok,tF,Sem.run_pure,e6,hw,aX]
 have Bp:¬ ((((m:Int)<0:Bool)||decide ((i.bytes:Int)*(m:Int)>2 ^ 48))=true∨(m:Int)<0∨(m:Int)>m):=by
  simp only [Bool.or_eq_true,decide_eq_true_eq]
  omega
 rw [if_neg (by simpa using Bp)]
 simp only [Sem.run_bind,Result.andThen_ok,lW,aX,Int.toNat_natCast]
 have:=AE (m*k) rfl
 by_cases h0:m*k=0
 ·rw [if_pos h0] at this ⊢
  simp only [Sem.run_pure,Result.andThen_ok,Sem.run_bind,bu,this]
 ·rw [if_neg h0] at this ⊢
  simp only [Sem.run_pure,Result.andThen_ok,Sem.run_bind,hzero,hz,bu,this]
def Bq (T:aD) (E:List (Nat×AV)) (M:List af) (oc:Option aW) (t:TypeId) (x y:Operand):Option Out:=
 match eL T t,bN (aC E x),bN (aC E y),oc with
 | some (e,k,b,z),some (.i64,n),some (.i64,n'),some (.n m)=>some ⟨[n=(m:Int),n'=(m:Int),b*m≤281474976710656,m<4611686018427387904],.sl M.length m,M++[.rw e k (List.replicate m (z.map .v))],[],[],none⟩
 | _,_,_,_=>none
theorem yF {K:World→Prop} {z:List Value} {j:Nat} {c:DV} {x:Value} (h1:(z.map DV.v)[j]?=some c) (h2:z[j]?=some x):bw K c x []:=by
 rw [List.getElem?_map,h2,Option.map_some,Option.some.injEq] at h1
 subst h1;exact .v x
theorem jI (n k:Nat):bq n k (fun _ _=>[])=[]:=by simp [bq]
theorem NQ (hT:aP P T=true) {t:TypeId} {x y:Operand} (h:Bq T E M oc t x y=some out):aB P ⟨d,.makeSlice t x y,ty,pos,aft,gd⟩ E M out:=by
 unfold Bq at h
 split at h
 ·rename_i e k b z n n' m he hx hy
  simp only [Option.some.injEq] at h;subst h
  obtain ⟨zv,ok,hz,di⟩:=fN hT he
  intro D w0 K0 β F I ρ w C hv
  obtain ⟨rfl,rfl,hb,hm,-⟩:=hv
  refine aS.pure (v:=.slice (some ⟨w.heap.size,0,none⟩) m m) (w':=w.alloc (.cells (lay m fun _=>z).toArray e)) (by simp only [execOp,C.int hx,C.int hy,Sem.run_bind,run_makeSlice ok hz di hb hm,Result.andThen_ok,Sem.run_pure]) ?_
  have cI:=dA (n:=m) (k:=k) (X:=fun _=>z) (fun _ _=>di)
  refine ⟨_,_,I,C.rm.new (q:=(some ⟨w.heap.size,0,none⟩,m)) (Gr.alloc w _) (cQ.alloc w _) ?_,(Ext.app _ _).b _,aZ.refl _,ft _ _,.sl (cH C.rm _)⟩
  have:=bn.rw (K:=fun w=>K0 w∧ai w I) (β:=β++[(some ⟨w.heap.size,0,none⟩,m)]) (u:=M.length) (T:=e) (k:=k) (rows:=List.replicate m (z.map .v)) (H0:=[(w.heap.size,.cells (lay m fun _=>z).toArray e (0,0))]) (cH C.rm _) (fun _=>z) (fun _ _=>[]) (fun i r hi=>by
   rw [List.getElem?_replicate] at hi
   split at hi
   ·simp only [Option.some.injEq] at hi;subst hi;rw [List.length_map];exact ⟨di,di⟩
   ·simp at hi) (by
    rw [List.length_replicate]
    exact ⟨cI,Or.inr ⟨w.heap.size,m,_,(0,0),rfl,rfl,la _,by simpa using cI,Nat.le_refl _,by rw [← cI];simp⟩⟩) (fun i r j c x hi h1 h2=>by
    rw [List.getElem?_replicate] at hi
    split at hi
    ·simp only [Option.some.injEq] at hi;subst hi;exact yF h1 h2
    ·simp at hi)
  rw [jI,List.append_nil] at this
  exact this
 ·simp at h
theorem zQ {n:Nat} {X Y:Nat→List Value} (h:∀ i,i<n→X i=Y i):lay n X=lay n Y:=by
 simp only [lay,List.flatMap_def];congr 1
 exact List.map_congr_left fun i hi=>h i (List.mem_range.1 hi)
theorem pU (n m:Nat) (X Y:Nat→List Value):lay (n+m) (fun i=>if i<n then X i else Y (i-n))=lay n X++lay m Y:=by
 simp only [lay]
 rw [List.range_add,List.flatMap_append,List.flatMap_map]
 congr 1
 ·simp only [List.flatMap_def];congr 1;exact List.map_congr_left fun i hi=>by have:=List.mem_range.1 hi;simp [this]
 ·simp only [List.flatMap_def];congr 1;exact List.map_congr_left fun i hi=>by
   show (if n+i<n then X (n+i) else Y (n+i-n))=Y i
   rw [if_neg (by omega),Nat.add_sub_cancel_left]
theorem rR (n m k:Nat) (X Y:Nat→Nat→ah):bq (n+m) k (fun i=>if i<n then X i else Y (i-n))=bq n k X++bq m k Y:=by
 simp only [bq]
 rw [List.range_add,List.flatMap_append,List.flatMap_map]
 congr 1
 ·simp only [List.flatMap_def];congr 1;exact List.map_congr_left fun i hi=>by have:=List.mem_range.1 hi;simp [this]
 ·simp only [List.flatMap_def];congr 1;exact List.map_congr_left fun i hi=>by
   show (List.range k).flatMap (if n+i<n then X (n+i) else Y (n+i-n))=(List.range k).flatMap (Y i)
   rw [if_neg (by omega),Nat.add_sub_cancel_left]
structure dt (K:World→Prop) (k:Nat) (rows:List (List DV)) (X:Nat→List Value) (G:Nat→Nat→ah):Prop where
 hl:∀ (i:Nat) r,rows[i]?=some r→r.length=k∧(X i).length=k
 hr:∀ (i:Nat) (r:List DV) (j:Nat) c x,rows[i]?=some r→r[j]?=some c→(X i)[j]?=some x→bw K c x (G i j)
theorem dt.app {K:World→Prop} {k:Nat} {r1 r2:List (List DV)} {X Y:Nat→List Value} {G H:Nat→Nat→ah} (h1:dt K k r1 X G) (h2:dt K k r2 Y H):dt K k (r1++r2) (fun i=>if i<r1.length then X i else Y (i-r1.length)) (fun i=>if i<r1.length then G i else H (i-r1.length)):=by
 constructor
 ·intro i r hi
  rcases Nat.lt_or_ge i r1.length with h | h
  ·rw [List.getElem?_append_left h] at hi;simpa [h] using h1.hl i r hi
  ·rw [List.getElem?_append_right h] at hi;have h':¬ i<r1.length:=by omega
   simpa [h'] using h2.hl _ r hi
 ·intro i r j c x hi hj hx
  rcases Nat.lt_or_ge i r1.length with h | h
  ·rw [List.getElem?_append_left h] at hi;simp only [h,if_true] at hx ⊢;exact h1.hr i r j c x hi hj hx
  ·rw [List.getElem?_append_right h] at hi;have h':¬ i<r1.length:=by omega
   simp only [h',if_false] at hx ⊢;exact h2.hr _ r j c x hi hj hx
theorem dt.one {K:World→Prop} {k:Nat} {rows:List (List DV)} {X:Nat→List Value} {G:Nat→Nat→ah} (h:dt K k rows X G) (ho:(rows.all fun r=>r.all fun c=>AV.one (.d c))=true):∀ q ∈ lay rows.length X,cD q=true:=by
 intro q hq
 simp only [lay,List.mem_flatMap,List.mem_range] at hq
 obtain ⟨i,hi,hq⟩:=hq
 obtain ⟨j,hj,rfl⟩:=List.getElem_of_mem hq
 have bu:=List.getElem?_eq_getElem hi
 obtain ⟨e1,e2⟩:=h.hl i _ bu
 have hc:rows[i][j]?=some rows[i][j]:=List.getElem?_eq_getElem (by omega)
 have hd:=h.hr i _ j _ _ bu hc (List.getElem?_eq_getElem hj)
 have db:=List.all_eq_true.1 (List.all_eq_true.1 ho _ (List.mem_of_getElem? bu)) _ (List.mem_of_getElem? hc)
 generalize rows[i][j]=c at hd db
 generalize G i j=GG at hd
 cases c with
 | v x=>cases hd;exact db
 | jk=>simp [AV.one] at db
 | ro k rows=>obtain ⟨a,n,c,hx⟩:=hd.slice (by simp);rw [hx];rfl
 | em T k rows=>obtain ⟨a,n,c,hx⟩:=hd.slice (by simp);rw [hx];rfl
 | ag l=>simp [AV.one] at db
 | tu l=>simp [AV.one] at db
 | pb T l=>generalize (X i)[j]=z at hd;cases hd;rfl
def bY (rows:List (List DV)):Prop:=(rows.all fun r=>r.all fun c=>AV.one (.d c))=true
def oP (M:List af) (e k:Nat):AV→Option (Option Nat×Nat×List (List DV))
 | .sl u n=>(match M[u]? with | some (.rw e' k' rows)=>bif e.beq e'&&k.beq k' then some (some u,n,rows) else none | _=>none)
 | .d (.v (.slice none 0 0))=>some (none,0,[])
 | _=>none
def qH (M:List af) (k:Nat):AV→Option (Option Nat×Nat×List (List DV))
 | .sl v m=>(match M[v]? with | some (.rw _ k' rows)=>bif k.beq k' then some (some v,m,rows) else none | _=>none)
 | .d (.ro k' rows)=>bif k.beq k' then some (none,rows.length,rows) else none
 | .d (.v (.slice _ 0 _))=>some (none,0,[])
 | _=>none
def fO (mv:List Nat):AV→Bool
 | .d _=>true
 | .sl u _=>!(mv.elem u)
 | .sb u _ _ _=>!(mv.elem u)
 | .sf u _ _ _ _=>!(mv.elem u)
 | .pt u _=>!(mv.elem u)
 | .mv u=>!(mv.elem u)
 | .yl u=>!(mv.elem u)
 | .ep u _ _ _=>!(mv.elem u)
 | .rp _ _=>true
 | .bt _=>true
 | .uk=>true
 | _=>false
def ik (mv:List Nat):AV→Bool
 | .fn _ l=>l.all (fO mv)
 | .fm _ l=>l.all (fO mv)
 | .ag l=>l.all (fO mv)
 | .tu l=>l.all (fO mv)
 | c=>fO mv c
theorem mN {K:World→Prop} {β β':Beta} {mv:List Nat} (e:dS mv β β') {v:AV} (hc:fO mv v=true) {y:Value} (r:aq K β v y):aq K β' v y:=by
 cases r with
 | d h=>exact .d h
 | sl h=>refine .sl (e _ _ ?_ h);intro hm;simp [fO,hm] at hc
 | sb h=>refine .sb (e _ _ ?_ h);intro hm;simp [fO,hm] at hc
 | sf h h1 h2 h3=>refine .sf (e _ _ ?_ h) h1 h2 h3;intro hm;simp [fO,hm] at hc
 | pt h=>refine .pt (e _ _ ?_ h);intro hm;simp [fO,hm] at hc
 | mv h=>refine .mv (e _ _ ?_ h);intro hm;simp [fO,hm] at hc
 | yl h=>refine .yl (e _ _ ?_ h);intro hm;simp [fO,hm] at hc
 | ep h=>refine .ep (e _ _ ?_ h);intro hm;simp [fO,hm] at hc
 | rp a X hl eT hr=>exact .rp a X hl eT hr
 | bt hd hn=>exact .bt hd hn
 | uk hu=>exact .uk hu
 | fn=>simp [fO] at hc
 | fm=>simp [fO] at hc
 | ag=>simp [fO] at hc
 | tu=>simp [fO] at hc
theorem rH {K:World→Prop} {β β':Beta} {mv:List Nat} (e:dS mv β β') {v:AV} (hc:ik mv v=true) {y:Value} (r:aq K β v y):aq K β' v y:=by
 have key:∀ {l:List AV} {ys:List Value},l.all (fO mv)=true→(∀ (j:Nat) c y,l[j]?=some c→ys[j]?=some y→aq K β c y)→∀ (j:Nat) c y,l[j]?=some c→ys[j]?=some y→aq K β' c y:=by
  intro l ys ha h j c y h1 h2
  exact mN e (List.all_eq_true.1 ha c (List.mem_of_getElem? h1)) (h j c y h1 h2)
 cases r with
 | fn ys hl hr=>exact .fn ys hl (key hc hr)
 | fm ys hl hr=>exact .fm ys hl (key hc hr)
 | ag ys hl hr=>exact .ag ys hl (key hc hr)
 | tu ys hl hr=>exact .tu ys hl (key hc hr)
 | d h=>exact .d h
 | sl h=>exact mN (v:=.sl _ _) e hc (.sl h)
 | sb h=>exact mN (v:=.sb _ _ _ _) e hc (.sb h)
 | sf h h1 h2 h3=>exact mN (v:=.sf _ _ _ _ _) e hc (.sf h h1 h2 h3)
 | pt h=>exact mN (v:=.pt _ _) e hc (.pt h)
 | mv h=>exact mN (v:=.mv _) e hc (.mv h)
 | yl h=>exact mN (v:=.yl _) e hc (.yl h)
 | ep h=>exact mN (v:=.ep _ _ _ _) e hc (.ep h)
 | rp a X hl eT hr=>exact .rp a X hl eT hr
 | bt hd hn=>exact .bt hd hn
 | uk hu=>exact .uk hu
def ga (mv:List Nat):af→af
 | .bx T cs=>.bx T (cs.map fun c=>bif ik mv c then c else .d .jk)
 | .rw T k rows=>.rw T k rows
 | .tw a c T k rows=>.tw a c T k rows
 | .mp T c es=>.mp T c es
 | .mu T c es=>.mu T c es
 | .it (some v) a s c=>bif mv.elem v then .it none a s c else .it (some v) a s c
 | .it none a s c=>.it none a s c
 | .lp b f sz E rf=>.lp b f sz (E.map fun x=>(x.1,bif ik mv x.2 then x.2 else .d .jk)) rf
 | .nm v b=>bif mv.elem v then .dead else .nm v b
 | .gw g row=>.gw g row
 | .il (some v) s l c=>bif mv.elem v then .il none s l c else .il (some v) s l c
 | .il none s l c=>.il none s l c
 | .fl T k m cs=>.fl T k m (cs.map fun c=>bif ik mv c then c else .d .jk)
 | .mf T c es=>.mf T c (es.map fun e=>(e.1,e.2.1,bif ik mv e.2.2 then e.2.2 else .d .jk))
 | .dead=>.dead
theorem bn.kill {K:World→Prop} {β β':Beta} {mv:List Nat} (e:dS mv β β') {u:Nat} (hu:u ∉ mv) {blk:af} {H:ah} (r:bn K β u blk H):bn K β' u (ga mv blk) H:=by
 cases r with
 | dead=>exact .dead u
 | bx hb ys hl hr=>
  refine .bx (e _ _ hu hb) ys (by rw [List.length_map];exact hl) fun j c y h1 h2=>?_
  rw [List.getElem?_map,Option.map_eq_some_iff] at h1
  obtain ⟨c',h1,rfl⟩:=h1
  cases hc:ik mv c' with
  | true=>exact rH e hc (hr j c' y h1 h2)
  | false=>exact .d (.jk _)
 | rw hb X G hl hs hr=>exact .rw (e _ _ hu hb) X G hl hs hr
 | tw hb X G hl hs hr=>exact .tw (e _ _ hu hb) X G hl hs hr
 | gw X hl hc hr=>exact .gw X hl hc hr
 | @nm v b c hb=>
  cases hv:mv.elem v with
  | true=>simp only [ga,hv,cond_true];exact .dead u
  | false=>simp only [ga,hv,cond_false];exact .nm (e _ _ (by simpa using hv) hb)
 | fl hb ys hl hm Dn hr=>
  refine .fl (e _ _ hu hb) ys hl (by rw [List.length_map];exact hm) Dn fun j c y h1 h2=>?_
  rw [List.getElem?_map,Option.map_eq_some_iff] at h1
  obtain ⟨c',h1,rfl⟩:=h1
  cases hc:ik mv c' with
  | true=>exact rH e hc (hr j c' y h1 h2)
  | false=>exact .d (.jk _)
 | @mf _ _ Tm tG tH hb vs hl hr=>
  have hh:=bn.mf (K:=K) (T:=Tm) (ck:=tG) (u:=u) (e _ _ hu hb) vs (by rw [List.length_map];exact hl) (es:=List.map (fun (e:Nat×MK×AV)=>(e.1,e.2.1,bif ik mv e.2.2 then e.2.2 else AV.d .jk)) tH) (fun j c y h1 h2=>by
   rw [List.getElem?_map,Option.map_eq_some_iff] at h1
   obtain ⟨c',h1,rfl⟩:=h1
   dsimp only
   cases hc:ik mv c'.2.2 with
   | true=>exact rH e hc (hr j c' y h1 h2)
   | false=>exact .d (.jk _))
  rw [vb (fun (e:Nat×MK×AV)=>(e.1,e.2.1,bif ik mv e.2.2 then e.2.2 else AV.d .jk)) (fun _=>⟨rfl,rfl⟩)] at hh
  exact hh
 | mp hb vs G hl hr=>exact .mp (e _ _ hu hb) vs G hl hr
 | mu fo hp hn aH hb vs G hl hr=>exact .mu fo hp hn aH (e _ _ hu hb) vs G hl hr
 | lp hb aX hr=>
  refine .lp (e _ _ hu hb) aX fun x hx=>?_
  obtain ⟨x0,q8,rfl⟩:=List.mem_map.1 hx
  cases hc:ik mv x0.2 with
  | true=>simp only [hc,cond_true];exact rH e hc (hr x0 q8)
  | false=>simp only [hc,cond_false];exact .d (.jk _)
 | @il b bm c since last ck um seen hb hm=>
  cases um with
  | none=>exact .il (bm:=bm) (seen:=seen) (e _ _ hu hb) (fun v hv=>by cases hv)
  | some v=>
   cases hv:mv.elem v with
   | true=>
    have e1:ga mv (.il (some v) since last ck)=.il none since last ck:=by simp only [ga,hv,cond_true]
    rw [e1]
    exact .il (bm:=bm) (seen:=seen) (e _ _ hu hb) (fun v hv=>by cases hv)
   | false=>
    have e1:ga mv (.il (some v) since last ck)=.il (some v) since last ck:=by simp only [ga,hv,cond_false]
    rw [e1]
    refine .il (bm:=bm) (seen:=seen) (e _ _ hu hb) (fun v' cW=>?_)
    cases cW
    obtain ⟨c',h'⟩:=hm v rfl
    exact ⟨c',e _ _ (fun cR=>by simp [cR] at hv) h'⟩
 | @it b bm c since ck um seen hb hm=>
  cases um with
  | none=>exact .it (bm:=bm) (e _ _ hu hb) (fun v hv=>by cases hv)
  | some v=>
   cases hv:mv.elem v with
   | true=>
    have e1:ga mv (.it (some v) since seen ck)=.it none since seen ck:=by simp only [ga,hv,cond_true]
    rw [e1]
    exact .it (bm:=bm) (e _ _ hu hb) (fun v hv=>by cases hv)
   | false=>
    have e1:ga mv (.it (some v) since seen ck)=.it (some v) since seen ck:=by simp only [ga,hv,cond_false]
    rw [e1]
    refine .it (bm:=bm) (e _ _ hu hb) (fun v' cW=>?_)
    cases cW
    obtain ⟨c',h'⟩:=hm v rfl
    exact ⟨c',e _ _ (fun cR=>by simp [cR] at hv) h'⟩
theorem bA.move {X Y:ah} (R:bA D w0 K0 M β F I X w) {w':World} (st:St D w0 w' ((List.range M.length).flatMap F++(I++Y))):bA D w0 K0 M β F I Y w':=⟨R.len,R.blk,st⟩
theorem Gf (β:Beta) (u:Nat) (q:Option Addr×Nat):dS [u] β (β.set u q):=by
 intro v x hv hx
 rw [List.getElem?_set,if_neg (fun e=>hv (by simp [e]))];exact hx
theorem bA.renew {X Y:ah} (R:bA D w0 K0 M β F I (X++Y) w) {u:Nat} (hu:u<M.length) (hF:F u=[]) {q:Option Addr×Nat} {blk:af} (hb:bn (fun w=>K0 w∧ai w I) (β.set u q) u blk X):
  bA D w0 K0 ((M.map (ga [u])).set u blk) (β.set u q) (aL F u X) I Y w where
 len:=by rw [List.length_set,List.length_set,List.length_map];exact R.len
 blk:=by
  intro v bl hv
  rw [List.getElem?_set] at hv
  by_cases e:u=v
  ·subst e
   simp only [List.length_map,hu,if_pos,Option.some.injEq] at hv;subst hv
   simpa [aL] using hb
  ·rw [if_neg e,List.getElem?_map,Option.map_eq_some_iff] at hv
   obtain ⟨b0,h1,rfl⟩:=hv
   have:aL F u X v=F v:=by simp only [aL];rw [if_neg (fun h=>e h.symm)]
   rw [this]
   exact (R.blk v b0 h1).kill (Gf β u q) (by simp;exact fun h=>e h.symm)
 st:=by
  have hs:=R.st
  rw [List.length_set,List.length_map,range_split hu]
  rw [range_split hu,hF] at hs
  have c1:(List.range u).flatMap (aL F u X)=(List.range u).flatMap F:=eG fun a ha=>by have:=List.mem_range.1 ha;simp [aL];omega
  have c2:(List.range' (u+1) (M.length-(u+1))).flatMap (aL F u X)=(List.range' (u+1) (M.length-(u+1))).flatMap F:=eG fun a ha=>by have:=(List.mem_range'_1.1 ha).1;simp [aL];omega
  have c9:aL F u X u=X:=by simp [aL]
  rw [c1,c2,c9]
  exact hs.perm (by classical rw [List.perm_iff_count];intro z;simp only [List.count_append,List.count_nil];omega)
def sW (n m b:Nat) (bL:List (List DV)):List Prop:=[(2*(n+m)+192)*b≤281474976710656,n+m<4611686018427387904,bY bL]
def Cq (T:aD) (E:List (Nat×AV)) (M:List af) (st xt:TypeId) (x y:Operand):Option Out:=
 match eL T st,bE T xt,aC E x,aC E y with
 | some (e,k,b,_),some (.sl e'),some vx,some vy=>bif e.beq e' then (match oP M e k vx,qH M k vy with
  | some (some u,n,rows),some (none,m,bL)=>some ⟨[n=rows.length]++sW n m b bL,.sl u (n+m),(M.map (ga [u])).set u (.rw e k (rows++bL)),[u],[u],none⟩
  | some (none,_,_),some (none,m,bL)=>some ⟨sW 0 m b bL,.sl M.length m,M++[.rw e k bL],[],[],none⟩
  | some (some u,n,rows),some (some v,m,bL)=>bif !(u.beq v) then some ⟨[n=rows.length,m=bL.length]++sW n m b bL,.sl u (n+m),((M.set v .dead).map (ga [u])).set u (.rw e k (rows++bL)),[u,v],[u],none⟩ else none
  | some (none,_,_),some (some v,m,bL)=>some ⟨[m=bL.length]++sW 0 m b bL,.sl M.length m,(M.set v .dead)++[.rw e k bL],[v],[],none⟩
  | _,_=>none) else none
 | _,_,_,_=>none
theorem uQ {e k u n:Nat} {rows:List (List DV)} {v:AV} (h:oP M e k v=some (some u,n,rows)):v=.sl u n∧M[u]?=some (.rw e k rows):=by
 unfold oP at h
 split at h
 ·rename_i u' n'
  split at h
  ·rename_i e' k' jo hM
   cases hb:(e.beq e'&&k.beq k') with
   | false=>simp [hb] at h
   | true=>
    simp only [hb,cond_true,Option.some.injEq,Prod.mk.injEq] at h
    obtain ⟨rfl,rfl,rfl⟩:=h
    simp only [Bool.and_eq_true] at hb
    obtain rfl:=Nat.eq_of_beq_eq_true hb.1
    obtain rfl:=Nat.eq_of_beq_eq_true hb.2
    exact ⟨rfl,hM⟩
  ·simp at h
 ·simp at h
 ·simp at h
theorem yR {e k n:Nat} {rows:List (List DV)} {v:AV} (h:oP M e k v=some (none,n,rows)):v=.d (.v (.slice none 0 0)):=by
 unfold oP at h
 split at h
 ·split at h
  ·rename_i e' k' jo hM
   cases hb:(e.beq e'&&k.beq k')<;>simp [hb] at h
  ·simp at h
 ·rfl
 ·simp at h
theorem Fy {k u m:Nat} {rows:List (List DV)} {v:AV} (h:qH M k v=some (some u,m,rows)):v=.sl u m∧∃ T,M[u]?=some (.rw T k rows):=by
 unfold qH at h
 split at h
 ·split at h
  ·rename_i T k' jo hM
   cases hb:k.beq k' with
   | false=>simp [hb] at h
   | true=>
    simp only [hb,cond_true,Option.some.injEq,Prod.mk.injEq] at h
    obtain ⟨rfl,rfl,rfl⟩:=h
    obtain rfl:=Nat.eq_of_beq_eq_true hb
    exact ⟨rfl,T,hM⟩
  ·simp at h
 ·rename_i k' jo
  cases hb:k.beq k'<;>simp [hb] at h
 ·simp at h
 ·simp at h
theorem yS {k m:Nat} {rows:List (List DV)} {v:AV} (h:qH M k v=some (none,m,rows)):(v=.d (.ro k rows)∨rows=[]∧∃ a c,v=.d (.v (.slice a 0 c)))∧m=rows.length:=by
 unfold qH at h
 split at h
 ·split at h
  ·rename_i T k' jo hM
   cases hb:k.beq k'<;>simp [hb] at h
  ·simp at h
 ·rename_i k' jo
  cases hb:k.beq k' with
  | false=>simp [hb] at h
  | true=>
   simp only [hb,cond_true,Option.some.injEq,Prod.mk.injEq] at h
   obtain ⟨-,rfl,rfl⟩:=h
   obtain rfl:=Nat.eq_of_beq_eq_true hb
   exact ⟨Or.inl rfl,rfl⟩
 ·simp only [Option.some.injEq,Prod.mk.injEq] at h
  obtain ⟨-,rfl,rfl⟩:=h
  exact ⟨Or.inr ⟨rfl,_,_,rfl⟩,rfl⟩
 ·simp at h
theorem vE (hT:aP P T=true) {st xt e k b:Nat} {z:List Value} (he:eL T st=some (e,k,b,z)) {x y:Operand} {v u':Value} {n m u:Nat} {H0 L1 S:ah} {rows bL:List (List DV)} {X1 X2:Nat→List Value} {G1 G2:Nat→Nat→ah}
  (mg:ρ x=v) (Dp:ρ y=u') (R:bA D w0 K0 M β F I ((H0++L1)++S) w) (hu:u<M.length) (hF:F u=[])
  (hs:dI e k v n (lay n X1) H0) (hn:n=rows.length) (hm:m=bL.length) (a1:dt (fun w=>K0 w∧ai w I) k rows X1 G1) (hL:L1=bq n k G1) (a2:dt (fun w=>K0 w∧ai w I) k bL X2 G2) (hS:S=bq m k G2) (dL:kK P xt w k u' m (lay m X2))
  (gB:(2*(n+m)+192)*b≤281474976710656) (iM:n+m<4611686018427387904) (db:bY bL):
  aS P ⟨d,.call ⟨.builtin .append,#[x,y],#[st,xt]⟩,ty,pos,aft,gd⟩ ρ w fun v' w'=>∃ β' F',RM D w0 K0 ((M.map (ga [u])).set u (.rw e k (rows++bL))) β' F' I w'∧dS [u] β β'∧(∀ x,x≠u→F' x=F x)∧aq (fun w=>K0 w∧ai w I) β' (.sl u (n+m)) v':=by
 obtain ⟨zv,ok,-,-⟩:=fN hT he
 subst hn hm
 have aU:St D w0 w (H0++(L1++(S++((List.range M.length).flatMap F++I)))):=R.st.perm (by classical rw [List.perm_iff_count];intro z;simp only [List.count_append];omega)
 refine Fo ok mg Dp aU hs dL (a2.one db) gB iM fun v' w' H' cX Dq=>?_
 obtain ⟨a,c,rfl⟩:=cX.len
 have aa:=a1.app a2
 have nh:=pU rows.length bL.length X1 X2
 rw [← nh] at cX
 have Ui:=rR rows.length bL.length k G1 G2
 have hq:(β.set u (a,c))[u]?=some (a,c):=by rw [List.getElem?_set];simp [R.len,hu]
 have hb:bn (fun w=>K0 w∧ai w I) (β.set u (a,c)) u (.rw e k (rows++bL)) (H'++bq (rows++bL).length k (fun i=>if i<rows.length then G1 i else G2 (i-rows.length))):=
  .rw hq _ _ aa.hl (by rw [List.length_append];exact cX) aa.hr
 rw [List.length_append,Ui,← hL,← hS] at hb
 have R2:bA D w0 K0 M β F I ((H'++(L1++S))++[]) w':=R.move (Dq.perm (by classical rw [List.perm_iff_count];intro z;simp only [List.count_append,List.count_nil];omega))
 have R3:=R2.renew hu hF hb
 exact ⟨_,_,R3.nil rfl,Gf β u _,fun x hx=>by simp only [aL];rw [if_neg hx],.sl hq⟩
theorem zR (hT:aP P T=true) {st xt e k b:Nat} {z:List Value} (he:eL T st=some (e,k,b,z)) {x y:Operand} {u':Value} {m:Nat} {S:ah} {bL:List (List DV)} {X2:Nat→List Value} {G2:Nat→Nat→ah}
  (mg:ρ x=.slice none 0 0) (Dp:ρ y=u') (R:bA D w0 K0 M β F I S w) (hm:m=bL.length) (a2:dt (fun w=>K0 w∧ai w I) k bL X2 G2) (hS:S=bq m k G2) (dL:kK P xt w k u' m (lay m X2))
  (gB:(2*(0+m)+192)*b≤281474976710656) (iM:0+m<4611686018427387904) (db:bY bL):
  aS P ⟨d,.call ⟨.builtin .append,#[x,y],#[st,xt]⟩,ty,pos,aft,gd⟩ ρ w fun v' w'=>∃ β' F',RM D w0 K0 (M++[.rw e k bL]) β' F' I w'∧Ext β β'∧(∀ x,x<M.length→F' x=F x)∧aq (fun w=>K0 w∧ai w I) β' (.sl M.length m) v':=by
 obtain ⟨zv,ok,-,-⟩:=fN hT he
 subst hm
 have aU:St D w0 w ([]++(S++((List.range M.length).flatMap F++I))):=R.st.perm (by classical rw [List.perm_iff_count];intro z;simp only [List.count_append,List.nil_append];omega)
 refine Fo ok mg Dp aU (dI.nil e k none) dL (a2.one db) gB iM fun v' w' H' cX Dq=>?_
 obtain ⟨a,c,rfl⟩:=cX.len
 rw [List.nil_append,Nat.zero_add] at cX
 rw [Nat.zero_add]
 have hq:(β++[(a,c)])[M.length]?=some (a,c):=by rw [← R.len];simp
 have hb:bn (fun w=>K0 w∧ai w I) (β++[(a,c)]) M.length (.rw e k bL) (H'++bq bL.length k G2):=.rw hq _ _ a2.hl cX a2.hr
 rw [← hS] at hb
 have R2:bA D w0 K0 M β F I ((H'++S)++[]) w':=R.move (Dq.perm (by classical rw [List.perm_iff_count];intro z;simp only [List.count_append,List.count_nil];omega))
 have R3:=R2.take hb
 exact ⟨_,_,R3.nil rfl,Ext.app _ _,fun x hx=>by simp [aL];omega,.sl hq⟩
theorem uE {u:Nat} {f:af→af} {b b':af}:((M.set u b).map f).set u b'=(M.map f).set u b':=by rw [List.map_set,List.set_set]
theorem lz (R:RM D w0 K0 M β F I w) {u n e k:Nat} {rows:List (List DV)} (hM:M[u]?=some (.rw e k rows)) (hn:n=rows.length) {y:Value} (r:aq (fun w=>K0 w∧ai w I) β (.sl u n) y):
  ∃ X G H0,F u=H0++bq n k G∧dI e k y n (lay n X) H0∧dt (fun w=>K0 w∧ai w I) k rows X G∧ai w H0:=by
 subst hn
 obtain ⟨H,hF,hB,hH⟩:=R.at hM
 cases r with
 | sl hb=>
  cases hB with
  | rw aE X G hl hs hr=>
   rw [hb] at aE;cases aE
   exact ⟨X,G,_,hF,hs,⟨hl,hr⟩,(ai.app.1 hH).1⟩
theorem zS {K:World→Prop} (hk:K w) {k:Nat} {rows:List (List DV)} {y:Value} (r:aq K β (.d (.ro k rows)) y):∃ X,dt K k rows X (fun _ _=>[])∧Src w k y rows.length (lay rows.length X):=by
 cases r with | d r=>cases r with | ro X hl hy hs hr=>exact ⟨X,⟨hl,hr⟩,hs w hk⟩
theorem zg {K:World→Prop} (hk:K w) {k:Nat} {rows:List (List DV)} {v:AV} (hv:v=.d (.ro k rows)∨rows=[]∧∃ a c,v=.d (.v (.slice a 0 c))) {y:Value} (r:aq K β v y):∃ X,dt K k rows X (fun _ _=>[])∧Src w k y rows.length (lay rows.length X):=by
 rcases hv with rfl | ⟨rfl,a,c,rfl⟩
 ·exact zS hk r
 ·cases r with | d r=>cases r;exact ⟨fun _=>[],⟨by simp,by simp⟩,by simp [lay],Or.inl ⟨rfl,a,c,rfl⟩⟩
theorem Ps (hT:aP P T=true) {st xt:TypeId} {x y:Operand} (h:Cq T E M st xt x y=some out):aB P ⟨d,.call ⟨.builtin .append,#[x,y],#[st,xt]⟩,ty,pos,aft,gd⟩ E M out:=by
 unfold Cq at h
 split at h
 ·rename_i e k b z e' vx vy he hu hx hy
  cases jA:e.beq e' with
  | false=>simp [jA] at h
  | true=>
   simp only [jA,cond_true] at h
   obtain rfl:=Nat.eq_of_beq_eq_true jA
   split at h
   ·rename_i u n rows m bL hd hs
    simp only [Option.some.injEq] at h;subst h
    obtain ⟨rfl,hM⟩:=uQ hd
    obtain ⟨tI,hm⟩:=yS hs
    intro D w0 K0 β F I ρ w C hv
    obtain ⟨hn,h1,h2,h3,-⟩:=hv
    obtain ⟨X1,G1,H0,hF,cn,a1,-⟩:=lz C.rm hM hn (C.ev hx)
    obtain ⟨X2,a2,dL⟩:=zg C.now tI (C.ev hy)
    subst hm
    have R1:=C.rm.x.dX hM
    rw [hF,List.nil_append] at R1
    have aH:u<(M.set u .dead).length:=by rw [List.length_set];exact cT hM
    refine (vE hT he rfl rfl (R1.perm (Y:=(H0++bq n k G1)++[]) (by rw [List.append_nil])) aH (by simp [aL]) cn hn rfl a1 rfl a2 (by rw [jI]) (dL.app (bj hT hu)) h1 h2 h3).mono ?_
    rintro v' w' ⟨β',F',R',hE,iC,hr⟩
    rw [uE] at R'
    exact ⟨β',F',I,R',hE,aZ.refl _,fun q _ hq=>by have mh:q≠u:=(by simpa using hq);rw [iC q mh];simp only [aL];rw [if_neg mh],hr⟩
   ·rename_i n0 r0 m bL hd hs
    simp only [Option.some.injEq] at h;subst h
    obtain rfl:=yR hd
    obtain ⟨tI,hm⟩:=yS hs
    intro D w0 K0 β F I ρ w C hv
    obtain ⟨h1,h2,h3,-⟩:=hv
    obtain ⟨X2,a2,dL⟩:=zg C.now tI (C.ev hy)
    subst hm
    have mg:ρ x=.slice none 0 0:=by have:=C.ev hx;generalize ρ x=q at this;cases this with | d r=>cases r;rfl
    refine (zR hT he mg rfl C.rm.x rfl a2 (by rw [jI]) (dL.app (bj hT hu)) h1 h2 h3).mono ?_
    rintro v' w' ⟨β',F',R',hE,iC,hr⟩
    exact ⟨β',F',I,R',hE.b _,aZ.refl _,fun q hq _=>iC q hq,hr⟩
   ·rename_i u n rows v m bL hd hs
    cases o6:u.beq v with
    | true=>simp [o6] at h
    | false=>
     simp only [o6,Bool.not_false,cond_true,Option.some.injEq] at h;subst h
     have dD:u≠v:=fun e=>by subst e;simp at o6
     obtain ⟨rfl,hM⟩:=uQ hd
     obtain ⟨rfl,T2,gL⟩:=Fy hs
     intro D w0 K0 β F I ρ w C hv
     obtain ⟨hn,hm,h1,h2,h3,-⟩:=hv
     obtain ⟨X1,G1,H0,hF,cn,a1,-⟩:=lz C.rm hM hn (C.ev hx)
     obtain ⟨X2,G2,H2,g8,Cr,a2,mi⟩:=lz C.rm gL hm (C.ev hy)
     have dL:=Cr.src mi
     have R1:=C.rm.x.dX gL
     have Uj:(M.set v .dead)[u]?=some (.rw e k rows):=by rw [List.getElem?_set,if_neg (fun e=>dD e.symm)];exact hM
     have R2:=R1.dX Uj
     have mj:aL F v [] u=F u:=by simp only [aL];rw [if_neg dD]
     rw [mj,hF,g8,List.nil_append] at R2
     have R3:=(R2.perm (Y:=(H0++bq n k G1)++(bq m k G2)++H2) (by classical rw [List.perm_iff_count];intro z;simp only [List.count_append];omega)).drop
     have aH:u<((M.set v .dead).set u .dead).length:=by rw [List.length_set,List.length_set];exact cT hM
     refine (vE hT he rfl rfl R3 aH (by simp [aL]) cn hn hm a1 rfl a2 rfl (dL.app (bj hT hu)) h1 h2 h3).mono ?_
     rintro v' w' ⟨β',F',R',hE,iC,hr⟩
     rw [uE] at R'
     refine ⟨β',F',I,R',hE,aZ.refl _,fun q _ hq=>?_,hr⟩
     simp only [List.mem_cons,List.not_mem_nil,or_false,not_or] at hq
     rw [iC q hq.1];simp only [aL];rw [if_neg hq.1,if_neg hq.2]
   ·rename_i n0 r0 v m bL hd hs
    simp only [Option.some.injEq] at h;subst h
    obtain rfl:=yR hd
    obtain ⟨rfl,T2,gL⟩:=Fy hs
    intro D w0 K0 β F I ρ w C hv
    obtain ⟨hm,h1,h2,h3,-⟩:=hv
    obtain ⟨X2,G2,H2,g8,Cr,a2,mi⟩:=lz C.rm gL hm (C.ev hy)
    have dL:=Cr.src mi
    have R1:=C.rm.x.dX gL
    rw [g8,List.nil_append] at R1
    have R3:=(R1.perm (Y:=bq m k G2++H2) List.perm_append_comm).drop
    have mg:ρ x=.slice none 0 0:=by have:=C.ev hx;generalize ρ x=q at this;cases this with | d r=>cases r;rfl
    refine (zR hT he mg rfl R3 hm a2 rfl (dL.app (bj hT hu)) h1 h2 h3).mono ?_
    rintro v' w' ⟨β',F',R',hE,iC,hr⟩
    rw [List.length_set] at hr iC
    refine ⟨β',F',I,R',hE.b _,aZ.refl _,fun q hq Uk=>?_,hr⟩
    rw [iC q hq];simp only [aL];rw [if_neg (by simpa using Uk)]
   ·simp at h
 ·simp at h
end Go.Proofs.YtgkdnnmcjjabdaaGreat
namespace Go.Proofs.YtgkdnnmcjjabdaaGreat
open Go.RowKit
variable {P:Program} {T:aD} {D:List Nat} {w0:World} {K0:World→Prop} {E:List (Nat×AV)} {M:List af} {β:Beta} {F:Nat→ah} {I X:ah} {ρ:Operand→Value} {w:World}
variable {d:Option Tmp} {ty:TypeId} {pos:String} {aft:Array Edge} {gd:Option (Nat×Bool)} {oc:Option aW} {out:Out}
def Cs:AV→List Nat
 | .sl u _=>[u]
 | _=>[]
def qI:List AV→List Nat
 | []=>[]
 | c::r=>Cs c++qI r
theorem Pt (R:bA D w0 K0 M β F I X w) {c:AV} {vc:List Prop} {x:DV} {M':List af} (h:qo M c=some (vc,x,M')) (hv:bg vc) {y:Value} (r:aq (fun w=>K0 w∧ai w I) β c y):
  M'.length=M.length∧∃ F' H,bA D w0 K0 M' β F' I (X++H) w∧bw (fun w=>K0 w∧ai w I) x y H∧∀ u,u ∉ Cs c→F' u=F u:=by
 unfold qo at h
 split at h
 ·simp only [Option.some.injEq,Prod.mk.injEq] at h;obtain ⟨rfl,rfl,rfl⟩:=h
  cases r with | d r=>exact ⟨rfl,F,[],by rw [List.append_nil];exact R,r,fun _ _=>rfl⟩
 ·rename_i u n
  split at h
  ·rename_i Tt k rows hM
   simp only [Option.some.injEq,Prod.mk.injEq] at h;obtain ⟨rfl,rfl,rfl⟩:=h
   obtain ⟨rfl,-⟩:=hv
   cases r with
   | sl hb=>
    have R':=R.dX hM
    have hB:=R.blk u _ hM
    refine ⟨by rw [List.length_set],_,F u,R',?_,fun v hv=>by simp only [aL];rw [if_neg (by simpa [Cs] using hv)]⟩
    generalize F u=G0 at hB ⊢
    cases hB with
    | rw aE X G hl hs hr=>rw [hb] at aE;cases aE;exact .em X G hl hs hr
  ·simp at h
 ·simp at h
theorem vF:∀ {l:List AV} {M:List af} {F:Nat→ah} {X:ah} {vc:List Prop} {xs:List DV} {M':List af},bA D w0 K0 M β F I X w→jU M l=some (vc,xs,M')→bg vc→∀ {ys:List Value},ys.length=l.length→(∀ (j:Nat) c y,l[j]?=some c→ys[j]?=some y→aq (fun w=>K0 w∧ai w I) β c y)→
  M'.length=M.length∧∃ F' H,bA D w0 K0 M' β F' I (X++H) w∧fv (fun w=>K0 w∧ai w I) xs ys H∧∀ u,u ∉ qI l→F' u=F u
 | [],M,F,X,vc,xs,M',R,h,_,ys,hl,_=>by
  simp only [jU,Option.some.injEq,Prod.mk.injEq] at h;obtain ⟨rfl,rfl,rfl⟩:=h
  have:ys=[]:=List.eq_nil_of_length_eq_zero hl
  subst this
  exact ⟨rfl,F,[],by rw [List.append_nil];exact R,.nil,fun _ _=>rfl⟩
 | c::r,M,F,X,vc,xs,M',R,h,hv,ys,hl,hr=>by
  unfold jU at h
  split at h
  ·rename_i v x M1 h1
   split at h
   ·rename_i v' l' M2 h2
    simp only [Option.some.injEq,Prod.mk.injEq] at h;obtain ⟨rfl,rfl,rfl⟩:=h
    rw [bg.app] at hv
    cases ys with
    | nil=>simp at hl
    | cons y ys=>
     obtain ⟨l1,F1,H1,R1,d1,f1⟩:=Pt R h1 hv.1 (hr 0 c y rfl rfl)
     obtain ⟨l2,F2,H2,R2,d2,f2⟩:=vF R1 h2 hv.2 (ys:=ys) (by simpa using hl) (fun j c' y' e1 e2=>hr (j+1) c' y' (by simpa using e1) (by simpa using e2))
     refine ⟨by omega,F2,H1++H2,by rw [← List.append_assoc];exact R2,.cons d1 d2,fun u hu=>?_⟩
     simp only [qI,List.mem_append,not_or] at hu
     exact (f2 u hu.2).trans (f1 u hu.1)
   ·simp at h
  ·simp at h
def chunk (k:Nat):Nat→List DV→List (List DV)
 | 0,_=>[]
 | n+1,l=>l.take k::chunk k n (l.drop k)
theorem uR (k:Nat):∀ (n:Nat) (l:List DV),(chunk k n l).length=n
 | 0,_=>rfl
 | n+1,l=>by simp [chunk,uR k n]
theorem Gg (k:Nat):∀ (n:Nat) (l:List DV) (i:Nat),i<n→(chunk k n l)[i]?=some ((l.drop (i*k)).take k)
 | 0,_,_,h=>by omega
 | n+1,l,0,_=>by simp [chunk]
 | n+1,l,i+1,h=>by
  simp only [chunk,List.getElem?_cons_succ]
  rw [Gg k n _ i (by omega),List.drop_drop,Nat.succ_mul,Nat.add_comm]
theorem MA (k:Nat) (G:Nat→ah):∀ n,bq n k (fun i j=>G (i*k+j))=(List.range (n*k)).flatMap G:=by
 intro n
 induction n with
 | zero=>simp [bq]
 | succ n ih=>
  have:bq (n+1) k (fun i j=>G (i*k+j))=bq n k (fun i j=>G (i*k+j))++(List.range k).flatMap fun j=>G (n*k+j):=by simp [bq,List.range_succ,List.flatMap_append]
  rw [this,ih,Nat.succ_mul,List.range_add,List.flatMap_append,List.flatMap_map]
theorem MB (k:Nat):∀ (n:Nat) (ys:List Value),ys.length=n*k→lay n (fun i=>(ys.drop (i*k)).take k)=ys:=by
 intro n ys hl
 apply List.ext_getElem?
 intro p
 have hX:∀ i,i<n→((ys.drop (i*k)).take k).length=k:=fun i hi=>by
  have:=Nat.mul_le_mul_right k (show i+1≤n from hi);rw [Nat.succ_mul] at this
  simp;omega
 have cI:=dA hX
 rcases Nat.lt_or_ge p (n*k) with hp | hp
 ·have hk:0<k:=by
   rcases Nat.eq_zero_or_pos k with h0 | h0
   ·subst h0;simp at hp
   ·exact h0
  have hd:p / k<n:=Nat.div_lt_of_lt_mul (by rw [Nat.mul_comm];exact hp)
  have hm:p%k<k:=Nat.mod_lt _ hk
  have hg:=jh hX hd hm
  have e:p / k*k+p%k=p:=by rw [Nat.mul_comm,Nat.div_add_mod]
  rw [e] at hg
  rw [hg,List.getElem?_take,if_pos hm,List.getElem?_drop,e]
 ·rw [List.getElem?_eq_none (by omega),List.getElem?_eq_none (by omega)]
def ff (z:List Value):Nat→List Value
 | 0=>[]
 | n+1=>z++ff z n
theorem pK (z:List Value):∀ n,ff z n=lay n fun _=>z
 | 0=>by simp [ff,lay]
 | n+1=>by
  rw [ff,pK z n]
  simp only [lay,List.range_succ_eq_map,List.flatMap_cons,List.flatMap_map]
def Ct (T:aD) (E:List (Nat×AV)) (M:List af) (t:TypeId) (len:Nat) (parts:Array (Nat×Operand)):Option Out:=
 match eL T t with
 | some (e,k,_,z)=>bif Nat.ble (len*k) 16777216 then (match jV E (fun i=>some (i*k,k)) (fM (ff z len)) parts.toList with
  | some l=>(match jU M l with
   | some (vc,xs,M')=>some ⟨vc,.sl M.length len,M'++[.rw e k (chunk k len xs)],qI l,[],none⟩
   | none=>none)
  | none=>none) else none
 | none=>none
theorem Pu (hT:aP P T=true) {t:TypeId} {len:Nat} {parts:Array (Nat×Operand)} (h:Ct T E M t len parts=some out):aB P ⟨d,.buildSlice t len parts,ty,pos,aft,gd⟩ E M out:=by
 unfold Ct at h
 split at h
 ·rename_i e k b z he
  cases hle:Nat.ble (len*k) 16777216 with
  | false=>simp [hle] at h
  | true=>
   simp only [hle,cond_true] at h
   have hle:=Nat.le_of_ble_eq_true hle
   split at h
   ·rename_i l wF
    split at h
    ·rename_i vc xs M' hp
     simp only [Option.some.injEq] at h;subst h
     obtain ⟨zv,ok,hz,di⟩:=fN hT he
     intro D w0 K0 β F I ρ w C hv
     obtain ⟨p1,p2⟩:=iG (K:=fun w=>K0 w∧ai w I) (β:=β) (ff z len)
     obtain ⟨bH,g1,g2,g3⟩:=rP C (cs:=(ff z len).toArray) wF (by simpa using p1) (by intro j c y e1 e2;exact p2 j c y e1 (by simpa using e2))
     obtain ⟨lM,F',H,R',dd,hF⟩:=vF C.rm.x hp hv (ys:=bH.toList) (by simpa using g2) (by intro j c y e1 e2;exact g3 j c y e1 (by simpa using e2))
     have iD:(ff z len).length=len*k:=by rw [pK];exact dA fun _ _=>di
     have e9:∀ (parts:List (Nat×AV)) ,True:=fun _=>trivial
     have J1:xs.length=len*k:=by
      have h1:=dd.len
      have h2:l.length=len*k:=by
       have:∀ {ps:List (Nat×Operand)} {cs r:List AV},jV E (fun i=>some (i*k,k)) cs ps=some r→r.length=cs.length:=by
        intro ps
        induction ps with
        | nil=>intro cs r hh;simp only [jV,Option.some.injEq] at hh;rw [hh]
        | cons q ps ih=>
         intro cs r hh
         obtain ⟨i,x⟩:=q
         unfold jV at hh
         split at hh
         ·rename_i off size v J2 hx
          split at hh
          ·rename_i lv J0
           cases hb:(lv.length.beq size&&(off+size).ble cs.length) with
           | false=>simp [hb] at hh
           | true=>
            simp only [hb,cond_true] at hh
            simp only [Bool.and_eq_true] at hb
            have e1:=Nat.eq_of_beq_eq_true hb.1
            have e2:=Nat.le_of_ble_eq_true hb.2
            rw [ih hh];simp;omega
          ·simp at hh
         ·simp at hh
       rw [this wF,← p1,iD]
      have h3:bH.toList.length=bH.size:=by simp
      omega
     have cd:bH.toList.length=len*k:=by rw [← J1];exact dd.len
     have VV:bH.size=len*k:=by simpa using cd
     have aX:∀ w:World,(sizeOf e).run P w=.ok k w:=fun w=>by obtain ⟨i,hi,h1,-⟩:=ok.info;simp [sizeOf,typeInfo,Sem.run_bind,hi,h1]
     have hzero:∀ w:World,(zeroValue e).run P w=.ok zv w:=fun w=>by obtain ⟨i,hi,-,-,h3⟩:=ok.info;simp [zeroValue,typeInfo,Sem.run_bind,hi,h3]
     have bu:∀ (cs:Array Value) (w:World),(newRow e cs).run P w=.ok ⟨w.heap.size,0,none⟩ (w.alloc (.cells cs e)):=by
      intro cs w;simp [newRow,newObj,Sem.run]
     have me:(parts.map fun (p:Nat×Operand)=>(p.1,ρ p.2)).toList=parts.toList.map fun p=>(p.1,ρ p.2):=by simp
     have tJ:(Array.range (len*k)).map (fun i=>z.toArray[i%z.toArray.size]!)=(ff z len).toArray:=by
      rw [pK,← rQ z len k di]
     have ct:(Instr.buildSlice t len (parts.map fun (p:Nat×Operand)=>(p.1,ρ p.2))).run P w=.ok (.slice (some ⟨w.heap.size,0,none⟩) len len) (w.alloc (.cells bH e)):=by
      unfold Instr.buildSlice
      simp only [Sem.run_bind,run_underlying ok.aU,Result.andThen_ok,aX]
      rw [if_neg (by omega)]
      by_cases h0:len*k=0
      ·have Cu:(ff z len).toArray=#[]:=by
        have:ff z len=[]:=List.eq_nil_of_length_eq_zero (by omega)
        rw [this]
       rw [Cu] at g1
       have Cv:(Array.range (len*k)).map (fun i=>(#[]:Array Value)[i%(#[]:Array Value).size]!)=#[]:=by rw [h0];apply Array.ext<;>simp
       rw [if_pos h0]
       simp only [Sem.run_bind,Sem.run_pure,Result.andThen_ok,Cv,me,g1,bu]
      ·rw [if_neg h0]
       simp only [Sem.run_bind,Sem.run_pure,Result.andThen_ok,hzero,hz,tJ,me,g1,bu]
     refine aS.pure (v:=.slice (some ⟨w.heap.size,0,none⟩) len len) (w':=w.alloc (.cells bH e)) ?_ ?_
     ·simp only [execOp,Sem.run_bind]
      have:(parts.map fun (i,x)=>(i,ρ x))=parts.map fun (p:Nat×Operand)=>(p.1,ρ p.2):=rfl
      rw [this,ct];rfl
     ·obtain ⟨G,hG,tK⟩:=dd.to
      have R1:bA D w0 K0 M' β F' I (([(w.heap.size,.cells bH e (0,0))]++H)++[]) (w.alloc (.cells bH e)):=by
       refine R'.move ?_
       have:=R'.st.new (Gr.alloc w (.cells bH e)) (cQ.alloc w (.cells bH e))
       exact this.perm (by classical rw [List.perm_iff_count];intro z;simp only [List.count_append,List.count_nil];omega)
      have Br:M'.length=M.length:=lM
      have hq:(β++[((some ⟨w.heap.size,0,none⟩:Option Addr),len)])[M'.length]?=some (some ⟨w.heap.size,0,none⟩,len):=by rw [← R'.len];simp
      have wG:∀ (i:Nat) r,(chunk k len xs)[i]?=some r→i<len∧r=(xs.drop (i*k)).take k:=by
       intro i r hi
       have aH:i<len:=by have:=(List.getElem?_eq_some_iff.1 hi).1;rwa [uR] at this
       rw [Gg k len xs i aH,Option.some.injEq] at hi
       exact ⟨aH,hi.symm⟩
      have hb:=bn.rw (K:=fun w=>K0 w∧ai w I) (u:=M'.length) (T:=e) (k:=k) (rows:=chunk k len xs) (H0:=[(w.heap.size,.cells bH e (0,0))]) hq (fun i=>(bH.toList.drop (i*k)).take k) (fun i j=>G (i*k+j)) (fun i r hi=>by
       obtain ⟨aH,rfl⟩:=wG i r hi
       have:=Nat.mul_le_mul_right k (show i+1≤len from aH);rw [Nat.succ_mul] at this
       constructor<;>simp<;>omega) (by
        rw [uR,MB k len _ cd]
        exact ⟨cd,Or.inr ⟨w.heap.size,len,bH,(0,0),rfl,rfl,la _,by simpa using cd,Nat.le_refl _,List.take_of_length_le (by omega)⟩⟩) (fun i r j c x hi h1 h2=>by
       obtain ⟨aH,rfl⟩:=wG i r hi
       rw [List.getElem?_take] at h1 h2
       split at h1
       ·rename_i hj
        rw [if_pos hj] at h2
        rw [List.getElem?_drop] at h1 h2
        exact tK _ c x h1 h2
       ·simp at h1)
      rw [uR,MA,← J1,← hG] at hb
      have R2:=(R1.take hb).nil rfl
      rw [Br] at R2 hq
      refine ⟨_,_,I,R2,(Ext.app _ _).b _,aZ.refl _,fun u hu hn=>?_,.sl hq⟩
      rw [show aL F' M.length _ u=F' u by simp [aL];omega]
      exact hF u hn
    ·simp at h
   ·simp at h
 ·simp at h
end Go.Proofs.YtgkdnnmcjjabdaaGreat
