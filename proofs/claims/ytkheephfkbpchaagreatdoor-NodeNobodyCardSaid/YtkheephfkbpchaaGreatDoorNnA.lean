/-
  nodeNobody_card, part 1 of 25: merged by program from the texts that it needs.
-/
import Derived.WalkKit
import Derived.Below
import Derived.OrdersIn
import Derived.RangeFuncOwn
import Derived.Maps.Own
import Derived.Deep.LoopGhost
import Derived.Laws.IdiomStrings
import Derived.Lib.SlBytesConst
import Derived.Laws.IdiomRangeMap
import Derived.Laws.Externs
import Derived.Lib.UnsafeStr
import Derived.Lib.Builder
import Derived.Lib.MakeNoZero
import Derived.Test.YtkheephfkbpchaaGreatDoorProg
import Derived.RangeFuncRecord
import Derived.RangeFuncLeaves
import Derived.Deep.Slices
import Derived.ProofKit
import Derived.Carry
import Derived.DeepKeys4
import Derived.Test.YtkheephfkbpchaaGreatDoorRows
import Derived.SizedLaws
import Derived.JoinedOf
import Derived.Test.YtkheephfkbpchaaGreatDoorTie
import Derived.Test.YtkheephfkbpchaaGreatDoorCards
import Derived.OpenVars
import Derived.OpenShut
import Derived.LaidMore
import Derived.Lay
import Derived.LaidOnce
import Derived.SevenTiedAt
set_option linter.unusedSimpArgs false
set_option linter.unusedVariables false
set_option linter.unnecessarySimpa false
namespace Go.Proofs.YtkheephfkbpchaaGreatDoor
open Go.RowKit
abbrev Gr (w w':World):Prop:=Below w.heap.size w w'
theorem Gr.refl (w:World):Gr w w:=Below.refl _ _
theorem Gr.trans {a b c:World} (h:Gr a b) (k:Gr b c):Gr a c:=Below.trans h (k.mono h.size)
theorem Gr.drew (w:World):Gr w w.drew:=(Below.refl _ _).drew
theorem kz {w:World} {b:Nat} {o:Obj} (h:w.heap[b]?=some o):b<w.heap.size:=by
 rcases Nat.lt_or_ge b w.heap.size with h' | h'
 ·exact h'
 ·simp [Array.getElem?_eq_none h'] at h
theorem WH {w:World} {a:Addr} {v:Value} (h:w.cell? a=some v):a.block<w.heap.size:=by
 rcases Nat.lt_or_ge a.block w.heap.size with h' | h'
 ·exact h'
 ·simp [World.cell?,Array.getElem?_eq_none h'] at h
theorem Gr.LJ {w w':World} (h:Gr w w') {a:Addr} {v:Value} (hc:w.cell? a=some v):w'.cell? a=some v:=by
 rw [Below.cell h (WH hc)];exact hc
theorem Gr.Dc {w w':World} (h:Gr w w') {b:Nat} {o:Obj} (hc:w.heap[b]?=some o):w'.heap[b]?=some o:=by
 rw [h.block b (kz hc)];exact hc
theorem Gr.alloc (w:World) (o:Obj):Gr w (w.alloc o):=(Below.refl _ _).alloc (Nat.le_refl _) _
theorem Bi (w:World) (o:Obj):(w.alloc o).heap[w.heap.size]?=some o:=(MapKept.heap_alloc w o).1
theorem cell_of {w:World} {b:Nat} {c:Array Value} {t:TypeId} {fr:Nat×Nat} (h:w.heap[b]?=some (.cells c t fr)) (i:Nat):w.cell? ⟨b,i,none⟩=c[i]?:=by
 simp [World.cell?,h]
abbrev ai:=List (Nat×Obj)
def keys (H:ai):List Nat:=H.map (·.1)
def aj (w:World) (H:ai):Prop:=∀ x ∈ H,w.heap[x.1]?=some x.2
theorem aj.nil (w:World):aj w []:=by intro x hx;simp at hx
theorem aj.gr {w w':World} {H:ai} (h:aj w H) (g:Gr w w'):aj w' H:=fun x hx=>g.Dc (h x hx)
theorem aj.one {w:World} {b:Nat} {o:Obj} {H:ai} (h:aj w ((b,o)::H)):w.heap[b]?=some o:=h (b,o) (by simp)
theorem aj.tail {w:World} {x:Nat×Obj} {H:ai} (h:aj w (x::H)):aj w H:=fun y hy=>h y (by simp [hy])
theorem aj.app {w:World} {H K:ai}:aj w (H++K)↔aj w H∧aj w K:=by
 constructor
 ·intro h;exact ⟨fun x hx=>h x (by simp [hx]),fun x hx=>h x (by simp [hx])⟩
 ·rintro ⟨h1,h2⟩ x hx
  rcases List.mem_append.1 hx with h | h
  ·exact h1 x h
  ·exact h2 x h
theorem aj.lt {w:World} {H:ai} (h:aj w H) {b:Nat} (hb:b ∈ keys H):b<w.heap.size:=by
 obtain ⟨x,hx,rfl⟩:=List.mem_map.1 hb
 exact kz (h x hx)
structure cV (w w':World) (H:ai):Prop where
 nd:(keys H).Nodup
 new:∀ b ∈ keys H,w.heap.size≤b
 holds:aj w' H
theorem cV.alloc (w:World) (o:Obj):cV w (w.alloc o) [(w.heap.size,o)]:=⟨by simp [keys],by simp [keys],by intro x hx;simp at hx;subst hx;exact Bi w o⟩
theorem cV.ahead {w0 w w':World} {H:ai} (h:cV w w' H) (g:Gr w0 w):cV w0 w' H:=⟨h.nd,fun b hb=>Nat.le_trans g.size (h.new b hb),h.holds⟩
theorem Ba {H K:List Nat} (h:H.Nodup) (k:K.Nodup) (d:∀ b ∈ H,b ∉ K):(H++K).Nodup:=by
 rw [List.nodup_append];exact ⟨h,k,fun a ha b hb e=>d a ha (e▸hb)⟩
theorem gQ (H K:ai):keys (H++K)=keys H++keys K:=by simp [keys]
theorem cV.app {w w' gH:World} {H K:ai} (h:cV w w' H) (g0:Gr w w') (k:cV w' gH K) (g:Gr w' gH):cV w gH (K++H) where
 nd:=by
  rw [gQ]
  exact Ba k.nd h.nd (fun b hb aD=>by have:=k.new b hb;have:=h.holds.lt aD;omega)
 new:=by
  intro b hb
  rw [gQ] at hb
  rcases List.mem_append.1 hb with e | e
  ·exact Nat.le_trans g0.size (k.new b e)
  ·exact h.new b e
 holds:=aj.app.2 ⟨k.holds,h.holds.gr g⟩
structure Kp (D:List Nat) (w0 w:World):Prop where
 os:w.os=w0.os
 tape:w.tape=w0.tape
 output:w.output=w0.output
 size:w0.heap.size≤w.heap.size
 block:∀ b,b<w0.heap.size→b ∉ D→w.heap[b]?=w0.heap[b]?
theorem Kp.refl (D:List Nat) (w:World):Kp D w w:=⟨rfl,rfl,rfl,Nat.le_refl _,fun _ _ _=>rfl⟩
theorem Kp.gr {D:List Nat} {w0 w w':World} (h:Kp D w0 w) (g:Gr w w'):Kp D w0 w':=
 ⟨g.os.trans h.os,g.tape.trans h.tape,g.output.trans h.output,Nat.le_trans h.size g.size,fun b hb hd=>by rw [g.block b (Nat.lt_of_lt_of_le hb h.size)];exact h.block b hb hd⟩
theorem Kp.Dd {w0 w:World} (h:Kp [] w0 w):Gr w0 w:=⟨h.os,h.tape,h.output,h.size,fun b hb=>h.block b hb (by simp)⟩
theorem Kp.Dc {D:List Nat} {w0 w:World} (h:Kp D w0 w) {b:Nat} {o:Obj} (hb:w0.heap[b]?=some o) (hd:b ∉ D):w.heap[b]?=some o:=by
 rw [h.block b (kz hb) hd];exact hb
theorem Kp.holds {D:List Nat} {w0 w:World} (h:Kp D w0 w) {H:ai} (hH:aj w0 H) (hd:∀ b ∈ keys H,b ∉ D):aj w H:=
 fun x hx=>h.Dc (hH x hx) (hd x.1 (List.mem_map_of_mem hx))
def bk (w:World) (b:Nat) (o:Obj):World:={ w with heap:=w.heap.setIfInBounds b o }
theorem HY {w:World} {b:Nat} (o:Obj) (h:b<w.heap.size):(bk w b o).heap[b]?=some o:=by simp [bk,h]
theorem HD {w:World} {b c:Nat} (o:Obj) (h:b≠c):(bk w b o).heap[c]?=w.heap[c]?:=by
 simp [bk,Array.getElem?_setIfInBounds_ne h]
theorem Uk (w:World) (b:Nat) (o:Obj):(bk w b o).heap.size=w.heap.size:=by simp [bk]
theorem TQ {w:World} {b i:Nat} {c:Array Value} {t:TypeId} {fr:Nat×Nat} (h:w.heap[b]?=some (.cells c t fr)) (v:Value):w.setCell ⟨b,i,none⟩ v=bk w b (.cells (c.setIfInBounds i v) t fr):=by
 unfold World.setCell bk
 congr 1
 apply Array.ext_getElem?
 intro j
 have hb:=kz h
 rw [Array.getElem?_modify,Array.getElem?_setIfInBounds]
 by_cases e:b=j
 ·subst e
  have hg:w.heap[b]=.cells c t fr:=by rw [Array.getElem?_eq_getElem hb] at h;exact Option.some.inj h
  simp [hb,hg]
 ·simp [e]
structure St (D:List Nat) (w0 w:World) (H:ai):Prop where
 kp:Kp D w0 w
 nd:(keys H).Nodup
 own:∀ b ∈ keys H,w0.heap.size≤b∨b ∈ D
 holds:aj w H
theorem St.start {w:World} {H:ai} (nd:(keys H).Nodup) (h:aj w H):St (keys H) w w H:=⟨Kp.refl _ _,nd,fun _ h=>Or.inr h,h⟩
theorem St.none (w:World):St [] w w []:=⟨Kp.refl _ _,by simp [keys],by simp [keys],aj.nil _⟩
theorem St.gr {D:List Nat} {w0 w w':World} {H:ai} (s:St D w0 w H) (g:Gr w w'):St D w0 w' H:=⟨s.kp.gr g,s.nd,s.own,s.holds.gr g⟩
theorem St.new {D:List Nat} {w0 w w':World} {H K:ai} (s:St D w0 w H) (g:Gr w w') (n:cV w w' K):St D w0 w' (K++H) where
 kp:=s.kp.gr g
 nd:=by
  rw [gQ]
  exact Ba n.nd s.nd (fun b hb aD=>by have:=n.new b hb;have:=s.holds.lt aD;omega)
 own:=by
  intro b hb
  rw [gQ] at hb
  rcases List.mem_append.1 hb with e | e
  ·exact Or.inl (Nat.le_trans s.kp.size (n.new b e))
  ·exact s.own b e
 holds:=aj.app.2 ⟨n.holds,s.holds.gr g⟩
theorem St.alloc {D:List Nat} {w0 w:World} {H:ai} (s:St D w0 w H) (o:Obj):St D w0 (w.alloc o) ((w.heap.size,o)::H):=s.new (Gr.alloc w o) (cV.alloc w o)
theorem St.perm {D:List Nat} {w0 w:World} {H K:ai} (s:St D w0 w H) (p:H.Perm K):St D w0 w K:=
 ⟨s.kp,(List.Perm.map (fun x:Nat×Obj=>x.1) p).nodup_iff.1 s.nd,fun b hb=>s.own b ((List.Perm.map (fun x:Nat×Obj=>x.1) p).mem_iff.2 hb),fun x hx=>s.holds x (p.mem_iff.2 hx)⟩
theorem St.jA {D:List Nat} {w0 w:World} {H K:ai} (s:St D w0 w (H++K)):St D w0 w K:=
 ⟨s.kp,by have:=s.nd;rw [gQ] at this;exact (List.nodup_append.1 this).2.1,fun b hb=>s.own b (by rw [gQ];exact List.mem_append.2 (Or.inr hb)),(aj.app.1 s.holds).2⟩
theorem St.tN {D:List Nat} {w0 w:World} {H K:ai} (s:St D w0 w (H++K)):St D w0 w H:=
 ⟨s.kp,by have:=s.nd;rw [gQ] at this;exact (List.nodup_append.1 this).1,fun b hb=>s.own b (by rw [gQ];exact List.mem_append.2 (Or.inl hb)),(aj.app.1 s.holds).1⟩
theorem St.set {D:List Nat} {w0 w:World} {b:Nat} {o:Obj} {H:ai} (s:St D w0 w ((b,o)::H)) (o':Obj):St D w0 (bk w b o') ((b,o')::H) where
 kp:=by
  refine ⟨s.kp.os,s.kp.tape,s.kp.output,by rw [Uk];exact s.kp.size,fun c hc hd=>?_⟩
  have dM:b≠c:=by
   intro e;subst e
   rcases s.own b (by simp [keys]) with h | h
   ·omega
   ·exact hd h
  rw [HD o' dM];exact s.kp.block c hc hd
 nd:=s.nd
 own:=s.own
 holds:=by
  intro x hx
  rcases List.mem_cons.1 hx with e | e
  ·subst e;exact HY o' (kz s.holds.one)
  ·have dM:b≠x.1:=by
    intro e2
    have:=s.nd
    simp only [keys,List.map_cons,List.nodup_cons] at this
    exact this.1 (e2▸List.mem_map_of_mem e)
   rw [HD o' dM];exact s.holds.tail x e
theorem St.call {D D':List Nat} {w0 w w':World} {H R K:ai} (s:St D w0 w (H++R)) (hD:D'=keys H) (t:St D' w w' K):St D w0 w' (K++R) where
 kp:=by
  refine ⟨t.kp.os.trans s.kp.os,t.kp.tape.trans s.kp.tape,t.kp.output.trans s.kp.output,Nat.le_trans s.kp.size t.kp.size,fun b hb hd=>?_⟩
  rw [t.kp.block b (Nat.lt_of_lt_of_le hb s.kp.size) ?_]
  ·exact s.kp.block b hb hd
  ·intro aD
   rw [hD] at aD
   rcases s.own b (by rw [gQ];exact List.mem_append.2 (Or.inl aD)) with h | h
   ·omega
   ·exact hd h
 nd:=by
  rw [gQ]
  have h1:=s.jA
  refine Ba t.nd h1.nd (fun b hb aD=>?_)
  rcases t.own b hb with h | h
  ·have:=h1.holds.lt aD;omega
  ·rw [hD] at h
   have:=s.nd
   rw [gQ] at this
   exact (List.nodup_append.1 this).2.2 b h b aD rfl
 own:=by
  intro b hb
  rw [gQ] at hb
  rcases List.mem_append.1 hb with e | e
  ·rcases t.own b e with h | h
   ·exact Or.inl (Nat.le_trans s.kp.size h)
   ·rw [hD] at h;exact s.own b (by rw [gQ];exact List.mem_append.2 (Or.inl h))
  ·exact s.own b (by rw [gQ];exact List.mem_append.2 (Or.inr e))
 holds:=aj.app.2 ⟨t.holds,t.kp.holds s.jA.holds (fun b hb aD=>by
  rw [hD] at aD
  have:=s.nd
  rw [gQ] at this
  exact (List.nodup_append.1 this).2.2 b aD b hb rfl)⟩
def Ef (w:World) (Φ:Value→ai→Prop):Ending→World→Prop:=fun e w'=>∃ v,e=.returned v∧Gr w w'∧∃ H,Φ v H∧cV w w' H
structure Sl (n:Nat) (a:Act) (E:List (Nat×Value)):Prop where
 size:a.tmps.size=n
 defers:a.defers=[]
 at':∀ x ∈ E,a.eval (.tmp x.1)=x.2
theorem wo (a:Act) (d:Nat) (v:Value) (h:d<a.tmps.size):(a.put (some d) v).eval (.tmp d)=v:=by
 simp [Act.put,Act.eval,Array.getD,h]
theorem wk (a:Act) (d s:Nat) (v:Value) (h:d≠s):(a.put (some d) v).eval (.tmp s)=a.eval (.tmp s):=by
 simp only [Act.put,Act.eval,Array.getD_eq_getD_getElem?,Array.getElem?_setIfInBounds,if_neg h]
theorem Vk (a:Act) (d:Option Tmp) (v:Value):(a.put d v).tmps.size=a.tmps.size:=by
 cases d<;>simp [Act.put]
theorem put_defers (a:Act) (d:Option Tmp) (v:Value):(a.put d v).defers=a.defers:=by
 cases d<;>simp [Act.put]
def ux:List Value→Nat→List (Nat×Value)
 | [],_=>[]
 | v::r,i=>(i,v)::ux r (i+1)
theorem Ul:∀ (vs:List Value) (i:Nat) (x:Nat×Value),x ∈ ux vs i→i≤x.1∧vs[x.1-i]?=some x.2:=by
 intro vs
 induction vs with
 | nil=>intro i x hx;simp [ux] at hx
 | cons v r ih=>
  intro i x hx
  simp only [ux,List.mem_cons] at hx
  rcases hx with e | e
  ·subst e;simp
  ·obtain ⟨h1,h2⟩:=ih (i+1) x e
   refine ⟨by omega,?_⟩
   rw [show x.1-i=(x.1-(i+1))+1 by omega];simpa using h2
theorem enter {P:Program} {f:FuncId} {fn:Func} {c:Code} {args:List Value} {w:World} {R:Ending→World→Prop}
  (hf:P.funcs[f]?=some fn) (hb:fn.body=some c) {n:Nat} (hn:fn.ntmps=n) (hle:args.length≤n)
  (h:∀ a,Sl n a (ux args 0)→c.wp P (bodyPost P fn R) a w):Calls P f args.toArray w R:=by
 refine calls_of_wp hf hb (h _ ⟨?_,rfl,?_⟩)
 ·simp;omega
 ·intro x hx
  obtain ⟨h1,h2⟩:=Ul args 0 x hx
  simp only [Nat.sub_zero] at h2
  have aG:x.1<args.length:=by
   rcases Nat.lt_or_ge x.1 args.length with h' | h'
   ·exact h'
   ·simp [List.getElem?_eq_none h'] at h2
  rw [List.getElem?_eq_getElem aG] at h2
  simp [Act.eval,Array.getD_eq_getD_getElem?,Array.getElem?_append,aG,Option.some.inj h2]
end Go.Proofs.YtkheephfkbpchaaGreatDoor
namespace Go.Proofs.YtkheephfkbpchaaGreatDoor
open Go.RowKit
def aM (P:Program) (o:Oper) (ρ:Operand→Value) (w:World) (Φ:Value→World→Prop):Prop:=
 match (execOp ρ o).run P w with
 | .ok (.value v) w'=>Φ v w'
 | .ok .skip w'=>Φ undef w'
 | .ok (.enter f args) w'=>Calls P f args w' fun e gH=>∃ v,e=.returned v∧Φ v gH
 | .ok (.round l f tmps assign body) w'=>RoundIn Fence.wide 0 P l f tmps assign body w' fun e gH=>∃ v,e=.returned v∧Φ v gH
 | _=>False
abbrev Fl (ro:Option Nat):Fence:={ Fence.wide with round:=ro }
theorem TS {ro:Option Nat} {n:Nat} {P:Program} {f:FuncId} {args:Array Value} {w:World} {R:Ending→World→Prop} (h:Calls P f args w R):CallsIn (Fl ro) n P f args w R:=(callsIn_wide (n:=n)).2 h
theorem aM.Sc {ro:Option Nat} {P:Program} {o:Oper} {ρ:Operand→Value} {w:World} {Φ:Value→World→Prop} (h:aM P o ρ w Φ):(o.semAt ro ρ).run P w=(execOp ρ o).run P w:=by
 rw [Oper.semAt_eq]
 intro c hc
 unfold aM at h
 simp only [execOp,hc,Sem.run_bind] at h
 cases hr:(resolve ρ c o.type).run P w with
 | ok v w'=>rw [hr] at h;simp at h
 | halt x w'=>rw [hr] at h;simp [Result.andThen] at h
theorem aM.wp {ro:Option Nat} {P:Program} {o:Oper} {a:Act} {w:World} {Φ:Value→World→Prop} {next:Act→World→Prop} {Q:Exit→Act→World→Prop}
  (h:aM P o a.eval w Φ) (hn:∀ v w',Φ v w'→next (a.put o.dst v) w'):o.wpIn (Fl ro) 0 P a w next Q:=by
 refine ⟨fun _ _=>trivial,?_⟩
 rw [show (Fl ro).round=ro from rfl,h.Sc]
 unfold aM at h
 generalize (execOp a.eval o).run P w=r at *
 cases r with
 | ok n w'=>
  cases n
  case value v=>exact hn _ _ h
  case skip=>exact hn _ _ h
  case enter f args=>
   refine ⟨fun hh=>by simp [Fl,Fence.wide] at hh,TS (Calls.mono h ?_)⟩
   rintro e gH ⟨v,rfl,hv⟩
   exact hn _ _ hv
  case round l f tmps assign body=>
   refine ⟨fun hh=>by simp [Fl,Fence.wide] at hh,?_⟩
   have h':RoundIn (Fl ro) 0 P l f tmps assign body w' fun e gH=>∃ v,e=.returned v∧Φ v gH:=h
   refine RoundIn.mono h' ?_
   rintro e gH ⟨v,rfl,hv⟩
   exact hn _ _ hv
  all_goals exact h.elim
 | halt x w'=>exact h.elim
theorem aM.pure {P:Program} {o:Oper} {ρ:Operand→Value} {w w':World} {Φ:Value→World→Prop} {v:Value} (h:(execOp ρ o).run P w=.ok (.value v) w') (hv:Φ v w'):aM P o ρ w Φ:=by
 unfold aM;rw [h];exact hv
theorem aM.skip {P:Program} {o:Oper} {ρ:Operand→Value} {w w':World} {Φ:Value→World→Prop} (h:(execOp ρ o).run P w=.ok .skip w') (hv:Φ undef w'):aM P o ρ w Φ:=by
 unfold aM;rw [h];exact hv
theorem aM.call {P:Program} {o:Oper} {ρ:Operand→Value} {w:World} {Φ:Value→World→Prop} {f:FuncId} {args:Array Value} (h:(execOp ρ o).run P w=.ok (.enter f args) w) (hv:Calls P f args w fun e w'=>∃ v,e=.returned v∧Φ v w'):aM P o ρ w Φ:=by
 unfold aM;rw [h];exact hv
theorem aM.mono {P:Program} {o:Oper} {ρ:Operand→Value} {w:World} {Φ Ψ:Value→World→Prop} (h:aM P o ρ w Φ) (hi:∀ v w',Φ v w'→Ψ v w'):aM P o ρ w Ψ:=by
  unfold aM at *
  generalize (execOp ρ o).run P w=r at *
  cases r with
  | ok n w'=>
    cases n<;>simp only at h ⊢<;>first
      | exact hi _ _ h
      | (refine Calls.mono h ?_
         rintro e gH ⟨v,rfl,hv⟩
         exact ⟨v,rfl,hi _ _ hv⟩)
      | (refine RoundIn.mono h ?_
         rintro e gH ⟨v,rfl,hv⟩
         exact ⟨v,rfl,hi _ _ hv⟩)
  | halt x w'=>exact h.elim
def uz (ops:Array Oper) (i:Nat):Option Tmp:=(ops[i]?).bind (·.dst)
abbrev pl (f:Value→ai→Prop):List Value→Value→ai→Prop:=fun _=>f
def blk (o:Obj):Value→ai→Prop:=fun v H=>∃ b,v=.pointer (some ⟨b,0,none⟩)∧H=[(b,o)]
def done (L:Array Bool) (i:Nat):Prop:=L.getD i true=true
variable {P:Program} {ops:Array Oper} {Q:Exit→Act→World→Prop} {ro:Option Nat}
theorem HE {a:Act} {j d:Nat} (hd:uz ops j=some d) (hs:d<a.tmps.size):yielded ops a.tmps j=match a.eval (.tmp d) with | .bool b=>some b | _=>none:=by
 unfold yielded
 unfold uz at hd
 rw [hd]
 simp only [Option.bind_some,Act.eval,Array.getD_eq_getD_getElem?,Array.getElem?_eq_getElem hs,Option.getD_some]
 cases a.tmps[d]<;>rfl
def kA (ro:Option Nat) (P:Program) (ops:Array Oper) (Q:Exit→Act→World→Prop) (Rk:World→Prop):Nat→Array Bool→Act→World→Prop
 | 0,L,a,w=>Rk w∧Region.ready .any ops L=[]∧Q .normal a w
 | fuel+1,L,a,w=>Rk w∧(Region.ready .any ops L=[]→Q .normal a w)∧∀ i ∈ Region.ready .any ops L,wpOpIn (Fl ro) 0 P ops Q i (kA ro P ops Q Rk fuel (L.setIfInBounds i true)) a w
theorem kA.rk {Rk:World→Prop} {fuel:Nat} {L:Array Bool} {a:Act} {w:World} (h:kA ro P ops Q Rk fuel L a w):Rk w:=by cases fuel<;>exact h.1
theorem kA.to {Rk:World→Prop}:∀ {fuel:Nat} {L:Array Bool} {a:Act} {w:World},kA ro P ops Q Rk fuel L a w→wpAnyIn (Fl ro) 0 P .any ops Q fuel L a w
 | 0,_,_,_,h=>h.2
 | _+1,_,_,_,h=>⟨h.2.1,fun i hi=>wpOpIn_mono (fun _ _ h=>kA.to h) (h.2.2 i hi)⟩
theorem WI {o:Oper} {ρ:Operand→Value} {v:Value} {w w':World} (h:(execOp ρ o).run P w=.ok (.value v) w'):(o.semAt ro ρ).run P w=.ok (.value v) w':=by rw [(aM.pure (Φ:=fun _ _=>True) h trivial).Sc];exact h
theorem Um (o:Oper) (hs:∀ cs b,o.op≠.select cs b) (a:Act) (dst:Option Tmp) (v:Value) (h:∀ d,dst=some d→d ∉ o.looksAt ops):o.semAt ro (a.put dst v).eval=o.semAt ro a.eval:=by
 have e:=execOp_put o hs a dst v h
 unfold Oper.semAt
 cases ro with
 | none=>exact e
 | some l=>
  cases ho:o.op<;>first | exact e | skip
  rename_i c
  have e2:=resolve_congr (ρ:=(a.put dst v).eval) (ρ':=a.eval) c o.type (fun x hx=>Act.eval_put fun d hd hxd=>h d hd (by
   subst hxd
   exact List.mem_append_left _ (List.mem_filterMap.2 ⟨.tmp d,by rw [ho];simpa [Op.operands] using hx,rfl⟩)))
  simp only [e2]
theorem Hq {Y:Act→Prop} {j:Nat} {oi oj:Oper} {v:Value} (hj:ops[j]?=some oj) (fx:oi.apart ops oj=true) (hsj:∀ cs b,oj.op≠.select cs b)
  (dT:∀ a,Y a→∀ u,Y (a.put oj.dst u)) (Zq:∀ a d,Y a→Y { a with defers:=d::a.defers })
  (hQ:∀ c a w,Q (.panic c) (a.put oi.dst v) w→Q (.panic c) a w) {K:Act→World→Prop} {a:Act} {w:World}
  (hy:Y a) (h:Go.wpOpIn (Fl ro) 0 P ops Q j K (a.put oi.dst v) w):Go.wpOpIn (Fl ro) 0 P ops Q j (fun a' w'=>Y a'∧K (a'.put oi.dst v) w') a w:=by
 obtain ⟨h1,h2,h3⟩:=Oper.apart_spec fx
 unfold Go.wpOpIn at *
 simp only [hj] at *
 rw [wanted_put oj a oi.dst v h1] at h
 split
 ·rename_i hw
  simp only [hw,if_true] at h
  refine ⟨fun _ _=>trivial,?_⟩
  replace h:=h.2
  rw [Um oj hsj a oi.dst v h1] at h
  generalize (oj.semAt (Fl ro).round a.eval).run P w=r at *
  cases r with
  | ok n w'=>
   cases n<;>simp only [Oper.uponIn] at h ⊢
   case value u=>exact ⟨dT a hy u,by rw [← Act.put_comm a v u h2];exact h⟩
   case skip=>exact ⟨dT a hy _,by rw [← Act.put_comm a v undef h2];exact h⟩
   case defer d=>
    refine ⟨dT _ (Zq a d hy) _,?_⟩
    rw [← Act.put_comm _ v undef h2,← Act.put_defers]
    exact h
   case enter f args=>
    refine ⟨h.1,CallsIn.mono h.2 fun e gH he=>?_⟩
    cases e with
    | returned u=>exact ⟨dT a hy u,by rw [← Act.put_comm a v u h2];exact he⟩
    | panicked c=>exact hQ _ _ _ he
    | outgrown=>exact he
   case row row args=>exact ⟨h.1,RowsIn.mono h.2 fun u gH he=>⟨dT a hy u,by rw [← Act.put_comm a v u h2];exact he⟩⟩
   case round l f tmps assign body=>
    refine ⟨h.1,RoundIn.mono h.2 fun e gH he=>?_⟩
    cases e with
    | returned u=>exact ⟨dT a hy u,by rw [← Act.put_comm a v u h2];exact he⟩
    | panicked c=>exact hQ _ _ _ he
    | outgrown=>exact he
  | halt x w'=>
   cases x<;>simp only [Oper.uponIn] at h ⊢
   case panic u=>exact hQ _ _ _ h
 ·rename_i hw
  simp only [hw] at h
  exact ⟨fun _ _=>trivial,dT a hy _,by rw [← Act.put_comm a v undef h2];exact h.2⟩
def eB (P:Program) (ops:Array Oper) (Q:Exit→Act→World→Prop):List (Oper×Bool)→Act→World→Prop
 | [],a,w=>Q .normal a w
 | (o,pu)::r,a,w=>bif pu then o.guard=none∧∃ v,(∀ w',(execOp a.eval o).run P w'=.ok (.value v) w')∧eB P ops Q r (a.put o.dst v) w
  else match o.guard with
   | none=>aM P o a.eval w (fun v w'=>eB P ops Q r (a.put o.dst v) w')
   | some (j,want)=>(yielded ops a.tmps j=some want→aM P o a.eval w (fun v w'=>eB P ops Q r (a.put o.dst v) w'))∧(yielded ops a.tmps j≠some want→eB P ops Q r (a.put o.dst undef) w)
def pick (ops:Array Oper):List (Nat×Bool)→List (Oper×Bool)
 | []=>[]
 | (i,pu)::r=>match ops[i]? with
  | some o=>(o,pu)::pick ops r
  | none=>pick ops r
theorem Ym {o:Oper} {pu:Bool} {r:List (Oper×Bool)} {i:Nat} (ho:ops[i]?=some o) {a:Act} {w:World} {K:Act→World→Prop} (hK:∀ a w,eB P ops Q r a w→K a w) (h:eB P ops Q ((o,pu)::r) a w):wpOpIn (Fl ro) 0 P ops Q i K a w:=by
 unfold wpOpIn
 simp only [ho]
 unfold eB at h
 cases pu with
 | true=>
  simp only [cond_true] at h
  obtain ⟨hg,v,hv,h⟩:=h
  simp only [Region.wanted,hg,if_true]
  exact aM.wp (Φ:=fun v w'=>eB P ops Q r (a.put o.dst v) w') (aM.pure (hv w) h) (fun v w' h=>hK _ _ h)
 | false=>
  simp only [cond_false] at h
  cases hg:o.guard with
  | none=>
   rw [hg] at h
   simp only [Region.wanted,hg,if_true]
   exact aM.wp h (fun v w' h=>hK _ _ h)
  | some g=>
   obtain ⟨j,want⟩:=g
   rw [hg] at h
   simp only [Region.wanted,hg]
   by_cases hy:yielded ops a.tmps j=some want
   ·rw [if_pos (by simp [hy])]
    exact aM.wp (h.1 hy) (fun v w' h=>hK _ _ h)
   ·rw [if_neg (by simp [hy])]
    exact ⟨fun _ _=>trivial,hK _ _ (h.2 hy)⟩
theorem Un:∀ (l:List Nat) (os:List Oper) (a:Act) (w:World),l.map (fun i=>ops[i]?)=os.map some→eB P ops Q (os.map (·,false)) a w→wpOpsIn (Fl ro) 0 P ops Q l a w:=by
 intro l
 induction l with
 | nil=>intro os a w h hl;cases os with
  | nil=>exact hl
  | cons=>simp at h
 | cons i r ih=>
  intro os a w h hl
  cases os with
  | nil=>simp at h
  | cons o os=>
   simp only [List.map_cons,List.cons.injEq] at h
   rw [wpOpsIn_cons]
   exact Ym h.1 (fun a w h'=>ih os a w h.2 h') hl
theorem AU {id:Nat} {a:Act} {w:World} (h:eB P ops Q (ops.toList.map (·,false)) a w):(Code.region id ops false).wpIn (Fl ro) 0 P Q a w:=by
 refine wpIn_region (Un _ ops.toList a w ?_ h)
 apply List.ext_getElem?
 intro i
 simp only [List.getElem?_map,Array.getElem?_toList]
 rcases Nat.lt_or_ge i ops.size with hi | hi
 ·simp [List.getElem?_range hi,hi]
 ·simp [hi]
end Go.Proofs.YtkheephfkbpchaaGreatDoor
namespace Go.Proofs.YtkheephfkbpchaaGreatDoor
open Go.Maps
section
variable {κ:Type} [DecidableEq κ]
def look (mL:List (κ×Value)) (k:κ):Option Value:=(mL.find? (fun x=>decide (x.1=k))).map (·.2)
def put (mL:List (κ×Value)) (k:κ) (v:Value):List (κ×Value):=
 if mL.any (fun x=>decide (x.1=k)) then mL.map (fun x=>if x.1=k then (k,v) else x) else mL++[(k,v)]
def drop (mL:List (κ×Value)) (k:κ):List (κ×Value):=mL.filter (fun x=>!decide (x.1=k))
end
section
variable {κ:Type} [DecidableEq κ] {P:Program} {K e t:TypeId} {enc:κ→Value} {o:Obj} {mL:List (κ×Value)} {w:World} {r:Nat}
omit [DecidableEq κ] in
end
end Go.Proofs.YtkheephfkbpchaaGreatDoor
namespace Go.Proofs.YtkheephfkbpchaaGreatDoor
open Go.RowKit
section
variable {P:Program} {ρ:Operand→Value} {w:World} {Φ:Value→World→Prop} {d:Option Tmp} {ty:TypeId} {pos:String} {aft:Array Edge} {gd:Option (Nat×Bool)}
theorem HZ {x:Operand} {vs:Array Value} {i:Nat} {v:Value} (h:ρ x=.tuple vs) (hv:vs[i]?=some v) (aE:Φ v w):aM P ⟨d,.extract x i,ty,pos,aft,gd⟩ ρ w Φ:=
 .pure (v:=v) (by simp only [execOp,h,Instr.extract,hv];rfl) aE
def pB (P:Program) (s:TypeId) (f:Nat):Option Nat:=
 match P.underlying s with
 | some (.struct fs)=>match fs[f]? with
  | some x=>match P.info? x.type with
   | some i=>if i.size=0 then none else some x.offset
   | none=>none
  | none=>none
 | _=>none
theorem TG {s:TypeId} {f off:Nat} (hf:pB P s f=some off) (a:Addr):(Instr.fieldAt s (.pointer (some a)) f).run P w=.ok (.pointer (some (a.add off))) w:=by
 unfold pB at hf
 cases hu:P.underlying s with
 | none=>simp [hu] at hf
 | some u=>
  cases u<;>simp only [hu] at hf<;>try contradiction
  rename_i fs
  cases hx:fs[f]? with
  | none=>simp [hx] at hf
  | some x=>
   simp only [hx] at hf
   cases hi:P.info? x.type with
   | none=>simp [hi] at hf
   | some i=>
    simp only [hi] at hf
    split at hf
    ·contradiction
    ·rename_i aP
     cases hf
     simp only [Instr.fieldAt,Sem.run_bind,run_underlying hu,Result.andThen_ok,hx,Instr.sureAddr,Sem.run_pure,fieldPlace,sizeOf,typeInfo,run_program,hi,aP,if_false]
theorem add_eq (b i n:Nat):(⟨b,i,none⟩:Addr).add n=⟨b,i+n,none⟩:=by
 unfold Addr.add;split
 ·rename_i h;subst h;rfl
 ·rfl
theorem Yn {x:Operand} {v:Value} (h:ρ x=v):(execOp ρ ⟨d,.move x,ty,pos,aft,gd⟩).run P w=.ok (.value v) w:=by subst h;rfl
theorem Vl {x:Operand} {v:Value} (h:ρ x=v):(execOp ρ ⟨d,.assign x,ty,pos,aft,gd⟩).run P w=.ok (.value v) w:=by subst h;rfl
theorem TT {x:Operand} {a:Addr} (h:ρ x=.pointer (some a)):(execOp ρ ⟨d,.nilCheck x,ty,pos,aft,gd⟩).run P w=.ok (.value (.pointer (some a))) w:=by simp only [execOp,h];rfl
theorem Uo {x:Operand} {vs:Array Value} {i:Nat} {v:Value} (h:ρ x=.tuple vs) (hv:vs[i]?=some v):(execOp ρ ⟨d,.extract x i,ty,pos,aft,gd⟩).run P w=.ok (.value v) w:=by simp only [execOp,h,Instr.extract,hv];rfl
def scalar (P:Program) (t:TypeId):Bool:=match P.underlying t with | some (.struct _)=>false | some (.array _ _)=>false | some _=>true | none=>false
theorem Hf {t:TypeId} (h:scalar P t=true):(isAgg t).run P w=.ok false w:=by
 unfold scalar at h
 cases hu:P.underlying t with
 | none=>simp [hu] at h
 | some u=>cases u<;>simp [hu] at h<;>simp [isAgg,Sem.run_bind,run_underlying hu]
theorem Ts {t:TypeId} {a:Addr} {v:Value} (ht:scalar P t=true) (hc:w.cell? a=some v):(Instr.loadAt t (.pointer (some a))).run P w=.ok v w:=by
 simp [Instr.loadAt,Instr.sureAddr,loadVar,Sem.run_bind,Hf ht,load,Sem.run,hc]
def nC (P:Program) (t:TypeId) (n:Nat):Bool:=(match P.underlying t with | some (.struct _)=>true | some (.array _ _)=>true | _=>false)&&(match P.info? t with | some i=>i.size==n | none=>false)
theorem run_loadCellsFrom {a:Addr} {vs:List Value}:∀ (i:Nat) (acc:Array Value),(∀ j (hj:j<vs.length),w.cell? (a.add (i+j))=some vs[j])→(loadCellsFrom a i vs.length acc).run P w=.ok (acc++vs.toArray) w:=by
 induction vs with
 | nil=>intro i acc _;simp [loadCellsFrom]
 | cons v r ih=>
  intro i acc h
  have h0:=h 0 (by simp)
  simp only [Nat.add_zero,List.getElem_cons_zero] at h0
  have hl:(load (a.add i)).run P w=.ok v w:=by simp [load,Sem.run,h0]
  simp only [List.length_cons,loadCellsFrom,Sem.run_bind,hl,Result.andThen_ok]
  rw [ih (i+1) (acc.push v) (fun j hj=>by have:=h (j+1) (by simp;omega);rw [show i+1+j=i+(j+1) by omega];simpa using this)]
  simp
theorem Hj {t:TypeId} {n:Nat} (h:nC P t n=true):(isAgg t).run P w=.ok true w∧(sizeOf t).run P w=.ok n w:=by
 unfold nC at h
 simp only [Bool.and_eq_true] at h
 constructor
 ·cases hu:P.underlying t with
  | none=>simp [hu] at h
  | some u=>cases u<;>simp [hu] at h<;>simp [isAgg,Sem.run_bind,run_underlying hu]
 ·cases hi:P.info? t with
  | none=>simp [hi] at h
  | some i=>
   simp only [hi,beq_iff_eq] at h
   simp [sizeOf,typeInfo,Sem.run_bind,hi,h.2]
theorem TA {t:TypeId} {a:Addr} {vs:List Value} (ht:nC P t vs.length=true) (hc:∀ j (hj:j<vs.length),w.cell? (a.add j)=some vs[j]):(Instr.loadAt t (.pointer (some a))).run P w=.ok (.agg vs.toArray) w:=by
 have h:=run_loadCellsFrom (P:=P) (w:=w) (a:=a) (vs:=vs) 0 #[] (by simpa using hc)
 simp [Instr.loadAt,Instr.sureAddr,loadVar,Sem.run_bind,(Hj (w:=w) ht).1,(Hj (w:=w) ht).2,loadCells,h]
theorem TV {t:TypeId} {z:Value} (hz:(zeroValue t).run P w=.ok z w):(Instr.alloc t true (.tuple #[])).run P w=.ok (.pointer (some ⟨w.heap.size,0,none⟩)) (w.alloc (.cells z.cells t)):=by
 simp [Instr.alloc,Sem.run_bind,hz,newVar,newRow,newObj,Sem.run]
theorem WJ {t:TypeId} {z:Value} (hz:(zeroValue t).run P w=.ok z w) (aE:Φ (.pointer (some ⟨w.heap.size,0,none⟩)) (w.alloc (.cells z.cells t))):aM P ⟨d,.alloc t,ty,pos,aft,gd⟩ ρ w Φ:=
 .pure (by simp only [execOp,Sem.run_bind,TV hz,Result.andThen_ok,Sem.run_pure]) aE
theorem Iv {t:TypeId} {z:Value} (hz:(zeroValue t).run P w=.ok z w) (aE:∀ b w',Gr w w'→cV w w' [(b,.cells z.cells t)]→Φ (.pointer (some ⟨b,0,none⟩)) w'):aM P ⟨d,.alloc t,ty,pos,aft,gd⟩ ρ w Φ:=
 WJ hz (aE _ _ (Gr.alloc _ _) (cV.alloc _ _))
theorem Zr {t:TypeId} {x:Operand} {v:Value} (h:ρ x=v) (aE:Φ (.pointer (some ⟨w.heap.size,0,none⟩)) (w.alloc (.cells v.cells t))):aM P ⟨d,.box t x,ty,pos,aft,gd⟩ ρ w Φ:=
 .pure (v:=.pointer (some ⟨w.heap.size,0,none⟩)) (w':=w.alloc (.cells v.cells t)) (by simp [execOp,h,Instr.box,Sem.run_bind,newVar,newRow,newObj,Sem.run]) aE
theorem Yo {t:TypeId} {x:Operand} {v:Value} (h:ρ x=v) (aE:∀ b w',Gr w w'→cV w w' [(b,.cells v.cells t)]→Φ (.pointer (some ⟨b,0,none⟩)) w'):aM P ⟨d,.box t x,ty,pos,aft,gd⟩ ρ w Φ:=
 Zr h (aE _ _ (Gr.alloc _ _) (cV.alloc _ _))
def Fz (fz:Nat×Nat) (n:Nat):Prop:=∀ i,i<n→¬ (fz.1≤i∧i<fz.2)
theorem lY (n:Nat):Fz (0,0) n:=fun i _ h=>by have:=h.2;simp at this
def dU:Value→Bool
 | .agg _ | .tuple _=>false
 | _=>true
theorem run_store {b i:Nat} {c:Array Value} {t:TypeId} {v:Value} {fz:Nat×Nat} (hb:w.heap[b]?=some (.cells c t fz)) (hi:i<c.size) (hv:dU v=true) (hz:Fz fz c.size:=by first | exact lY _ | assumption):(store ⟨b,i,none⟩ v).run P w=.ok () (bk w b (.cells (c.setIfInBounds i v) t fz)):=by
 have hc:w.cell? ⟨b,i,none⟩=some c[i]:=by rw [cell_of hb];simp [hi]
 have hf:w.frozen? ⟨b,i,none⟩=false:=by
  obtain ⟨lo,iz⟩:=fz
  have:=hz i hi
  simp only [World.frozen?,hb];simpa using this
 rw [← TQ hb]
 cases v<;>simp [dU] at hv<;>simp [store,Sem.run,hc,hf]
def bV (c:Array Value):Nat→List Value→Array Value
 | _,[]=>c
 | i,v::r=>bV (c.setIfInBounds i v) (i+1) r
theorem hU (c:Array Value) (i:Nat) (vs:List Value):(bV c i vs).size=c.size:=by
 induction vs generalizing c i with
 | nil=>rfl
 | cons v r ih=>rw [bV,ih];simp
theorem Up (w:World) (b:Nat) (o o':Obj):bk (bk w b o) b o'=bk w b o':=by
 simp [bk]
theorem Hg {b:Nat} {t:TypeId} {fz:Nat×Nat}:∀ (vs:List Value) (w:World) (c:Array Value) (i j:Nat),w.heap[b]?=some (.cells c t fz)→i+j+vs.length≤c.size→(∀ v ∈ vs,dU v=true)→Fz fz c.size→(storeCells ⟨b,i,none⟩ vs j).run P w=.ok () (bk w b (.cells (bV c (i+j) vs) t fz))
 | [],w,c,i,j,hb,_,_,_=>by
  have:bk w b (.cells c t fz)=w:=by
   unfold bk
   have aG:=kz hb
   have:w.heap.setIfInBounds b (.cells c t fz)=w.heap:=by
    apply Array.ext_getElem?
    intro k
    rw [Array.getElem?_setIfInBounds]
    by_cases e:b=k
    ·subst e;simp [aG];rw [Array.getElem?_eq_getElem aG] at hb;exact (Option.some.inj hb).symm
    ·simp [e]
   rw [this]
  simp [storeCells,bV,this]
 | v::r,w,c,i,j,hb,hl,hv,hz=>by
  simp only [List.length_cons] at hl
  have ha:(⟨b,i,none⟩:Addr).add j=⟨b,i+j,none⟩:=by
   unfold Addr.add;split
   ·rename_i h;subst h;rfl
   ·rfl
  have h1:=run_store (P:=P) hb (show i+j<c.size by omega) (hv v (by simp))
  have h2:=Hg r (bk w b (.cells (c.setIfInBounds (i+j) v) t fz)) (c.setIfInBounds (i+j) v) i (j+1) (HY _ (kz hb)) (by simp;omega) (fun x hx=>hv x (by simp [hx])) (by simpa using hz)
  simp only [storeCells,Sem.run_bind,ha,h1,Result.andThen_ok,h2,Up]
  rfl
theorem pz {b:Nat} {t:TypeId} {fz:Nat×Nat} (vs:List Value) (w:World) (c:Array Value) (i j:Nat) (hb:w.heap[b]?=some (.cells c t fz)) (hl:i+j+vs.length≤c.size) (hv:∀ v ∈ vs,dU v=true) (hz:Fz fz c.size:=by first | exact lY _ | assumption):(storeCells ⟨b,i,none⟩ vs j).run P w=.ok () (bk w b (.cells (bV c (i+j) vs) t fz)):=Hg vs w c i j hb hl hv hz
theorem TH {b i:Nat} {c:Array Value} {t u:TypeId} {v:Value} {n:Nat} {fz:Nat×Nat} (hn:(P.info? u).map (·.size)=some n) (hb:w.heap[b]?=some (.cells c t fz)) (hv:v.cells.size=n) (hi:i+n≤c.size) (cW:∀ x ∈ v.cells.toList,dU x=true) (hz:Fz fz c.size:=by first | exact lY _ | assumption):
  (Instr.storeAt u (.pointer (some ⟨b,i,none⟩)) v).run P w=.ok () (bk w b (.cells (bV c i v.cells.toList) t fz)):=by
 cases dm:P.info? u with
 | none=>simp [dm] at hn
 | some inf=>
  simp only [dm,Option.map_some,Option.some.injEq] at hn
  have hs:(sizeOf u).run P w=.ok n w:=by simp [sizeOf,typeInfo,Sem.run_bind,dm,hn]
  have h:=pz (P:=P) v.cells.toList w c i 0 hb (by simp [hv];omega) cW hz
  simp only [Instr.storeAt,Instr.sureAddr,Sem.run_bind,Sem.run_pure,Result.andThen_ok,storeVar,hs,hv,ne_eq,not_true_eq_false,if_false]
  simpa using h
theorem xg {u:TypeId} {x y:Operand} {b i:Nat} {c:Array Value} {t:TypeId} {v:Value} {fz:Nat×Nat} (n:Nat) (hn:(P.info? u).map (·.size)=some n) (hx:ρ x=.pointer (some ⟨b,i,none⟩)) (hy:ρ y=v) (hb:w.heap[b]?=some (.cells c t fz)) (hv:v.cells.size=n) (hi:i+n≤c.size) (cW:∀ x ∈ v.cells.toList,dU x=true)
  (aE:Φ undef (bk w b (.cells (bV c i v.cells.toList) t fz))) (hz:Fz fz c.size:=by first | exact lY _ | assumption):aM P ⟨d,.store u x y,ty,pos,aft,gd⟩ ρ w Φ:=
 .skip (by simp only [execOp,hx,hy,Sem.run_bind,TH hn hb hv hi cW hz,Result.andThen_ok,Sem.run_pure]) aE
theorem TD {f:FuncId} {fn:Func} (hf:P.funcs[f]?=some fn) (hb:fn.body.isSome=true) (hn:(fn.name == "runtime.NumGoroutine")=false) (args:Array Value):(callFunc f args).run P w=.ok (.enter f args) w:=by
 have h1:¬ fn.body=none:=by cases hx:fn.body<;>simp_all
 have h2:¬ fn.name = "runtime.NumGoroutine":=by simpa using hn
 simp [callFunc,Sem.run_bind,hf,h1,h2]
def eu (P:Program) (f:FuncId):Bool:=match P.funcs[f]? with | some fn=>fn.body.isSome&&!(fn.name == "runtime.NumGoroutine") | none=>false
theorem Bj {f:FuncId} (h:eu P f=true) (args:Array Value):(callFunc f args).run P w=.ok (.enter f args) w:=by
 unfold eu at h
 cases hf:P.funcs[f]? with
 | none=>simp [hf] at h
 | some fn=>simp only [hf,Bool.and_eq_true,Bool.not_eq_true'] at h;exact TD hf h.1 h.2 args
theorem tJ {g:Operand} {args:Array Operand} {dW:Array TypeId} {f:FuncId} {vs bQ:Array Value} (hg:ρ g=.func (.func f) #[] bQ) (hf:eu P f=true) (ha:args.map ρ=vs)
  (aE:Calls P f (vs++bQ) w fun e w'=>∃ v,e=.returned v∧Φ v w'):aM P ⟨d,.call ⟨.value g,args,dW⟩,ty,pos,aft,gd⟩ ρ w Φ:=
 .call (f:=f) (args:=vs++bQ) (by simp [execOp,resolve,hg,ha,Deferred.ofValue,invoke,Bj hf]) aE
theorem Zs {t t':TypeId} {x y:Operand} {k:IntKind} {a b:Int} {c:Bool} (h:ρ x=.int k a) (h':ρ y=.int k b) (hc:(a==b)=c) (aE:Φ (.bool c) w):aM P ⟨d,.binOp .eql t x y t',ty,pos,aft,gd⟩ ρ w Φ:=by
 subst hc;exact .pure (v:=.bool (a==b)) (by simp [execOp,h,h',eqGuard,binOp,Op.intCmp]) aE
theorem Zt {t t':TypeId} {x y:Operand} {k:IntKind} {a b:Int} {c:Bool} (h:ρ x=.int k a) (h':ρ y=.int k b) (hc:(a != b)=c) (aE:Φ (.bool c) w):aM P ⟨d,.binOp .neq t x y t',ty,pos,aft,gd⟩ ρ w Φ:=by
 subst hc;exact .pure (v:=.bool (a != b)) (by simp [execOp,h,h',eqGuard,binOp,Op.intCmp]) aE
theorem Zu {t t':TypeId} {x y:Operand} {k:IntKind} {a b:Int} {c:Bool} (h:ρ x=.int k a) (h':ρ y=.int k b) (hc:(decide (a<b))=c) (aE:Φ (.bool c) w):aM P ⟨d,.binOp .lss t x y t',ty,pos,aft,gd⟩ ρ w Φ:=by
 subst hc;exact .pure (v:=.bool (decide (a<b))) (by simp [execOp,h,h',eqGuard,binOp,Op.intCmp]) aE
theorem Zv {t t':TypeId} {x y:Operand} {k:IntKind} {a b:Int} {c:Bool} (h:ρ x=.int k a) (h':ρ y=.int k b) (hc:(decide (a≤b))=c) (aE:Φ (.bool c) w):aM P ⟨d,.binOp .leq t x y t',ty,pos,aft,gd⟩ ρ w Φ:=by
 subst hc;exact .pure (v:=.bool (decide (a≤b))) (by simp [execOp,h,h',eqGuard,binOp,Op.intCmp]) aE
theorem Zw {t t':TypeId} {x y:Operand} {k:IntKind} {a b:Int} {c:Bool} (h:ρ x=.int k a) (h':ρ y=.int k b) (hc:(decide (b<a))=c) (aE:Φ (.bool c) w):aM P ⟨d,.binOp .gtr t x y t',ty,pos,aft,gd⟩ ρ w Φ:=by
 subst hc;exact .pure (v:=.bool (decide (b<a))) (by simp [execOp,h,h',eqGuard,binOp,Op.intCmp]) aE
theorem Zx {t t':TypeId} {x y:Operand} {k:IntKind} {a b:Int} {c:Bool} (h:ρ x=.int k a) (h':ρ y=.int k b) (hc:(decide (b≤a))=c) (aE:Φ (.bool c) w):aM P ⟨d,.binOp .geq t x y t',ty,pos,aft,gd⟩ ρ w Φ:=by
 subst hc;exact .pure (v:=.bool (decide (b≤a))) (by simp [execOp,h,h',eqGuard,binOp,Op.intCmp]) aE
theorem Zy {t t':TypeId} {x y:Operand} {k:IntKind} {a b c:Int} (h:ρ x=.int k a) (h':ρ y=.int k b) (hc:k.wrap (a+b)=c) (aE:Φ (.int k c) w):aM P ⟨d,.binOp .add t x y t',ty,pos,aft,gd⟩ ρ w Φ:=by
 subst hc;exact .pure (v:=.int k (k.wrap (a+b))) (by simp [execOp,h,h',eqGuard,binOp,Op.intArith]) aE
theorem Zz {t t':TypeId} {x y:Operand} {k:IntKind} {a b c:Int} (h:ρ x=.int k a) (h':ρ y=.int k b) (hc:k.wrap (a-b)=c) (aE:Φ (.int k c) w):aM P ⟨d,.binOp .sub t x y t',ty,pos,aft,gd⟩ ρ w Φ:=by
 subst hc;exact .pure (v:=.int k (k.wrap (a-b))) (by simp [execOp,h,h',eqGuard,binOp,Op.intArith]) aE
theorem ZA {t t':TypeId} {x y:Operand} {k:IntKind} {a b c:Int} (h:ρ x=.int k a) (h':ρ y=.int k b) (hc:min a b=c) (aE:Φ (.int k c) w):aM P ⟨d,.call ⟨.builtin .min,#[x,y],#[t,t']⟩,ty,pos,aft,gd⟩ ρ w Φ:=by
 have:(if b<a then b else a)=c:=by subst hc;split<;>omega
 subst this;exact .pure (v:=.int k (if b<a then b else a)) (by simp [execOp,resolve,h,h',invoke,builtin,Builtin.min_,Builtin.min2]) aE
theorem ZB {t t':TypeId} {x y:Operand} {k:IntKind} {a b c:Int} (h:ρ x=.int k a) (h':ρ y=.int k b) (hc:max a b=c) (aE:Φ (.int k c) w):aM P ⟨d,.call ⟨.builtin .max,#[x,y],#[t,t']⟩,ty,pos,aft,gd⟩ ρ w Φ:=by
 have:(if a<b then b else a)=c:=by subst hc;split<;>omega
 subst this;exact .pure (v:=.int k (if a<b then b else a)) (by simp [execOp,resolve,h,h',invoke,builtin,Builtin.max_,Builtin.max2]) aE
theorem ZC {t:TypeId} {x:Operand} {b c:Bool} (h:ρ x=.bool b) (hc:(!b)=c) (aE:Φ (.bool c) w):aM P ⟨d,.unOp .not t x,ty,pos,aft,gd⟩ ρ w Φ:=by
 subst hc;exact .pure (v:=.bool (!b)) (by simp [execOp,h,Op.unary]) aE
theorem JJ {c x y:Operand} {v:Value} (h:ρ c=.bool true) (hx:ρ x=v) (aE:Φ v w):aM P ⟨d,.pick c x y,ty,pos,aft,gd⟩ ρ w Φ:=
 .pure (by simp [execOp,h,hx,asBool]) aE
theorem JK {c x y:Operand} {v:Value} (h:ρ c=.bool false) (hx:ρ y=v) (aE:Φ v w):aM P ⟨d,.pick c x y,ty,pos,aft,gd⟩ ρ w Φ:=
 .pure (by simp [execOp,h,hx,asBool]) aE
theorem Yp {c x y:Operand} {b:Bool} {u v:Value} (h:ρ c=.bool b) (hx:ρ x=u) (hy:ρ y=v) (aE:Φ (if b then u else v) w):aM P ⟨d,.pick c x y,ty,pos,aft,gd⟩ ρ w Φ:=
 .pure (by simp [execOp,h,hx,hy,asBool]) aE
theorem Yq {x:Operand} {t e:TypeId} {a:Option Addr} {n c:Nat} (ht:P.underlying t=some (.slice e)) (h:ρ x=.slice a n c) (aE:Φ (.int .i64 n) w):aM P ⟨d,.call ⟨.builtin .len,#[x],#[t]⟩,ty,pos,aft,gd⟩ ρ w Φ:=
 .pure (v:=.int .i64 n) (by simp [execOp,resolve,h,invoke,builtin,Builtin.len_,Sem.run_bind,run_underlying ht,goInt]) aE
theorem A1 {x:Operand} {t t' e:TypeId} {o:Option Addr} {n k:Nat} {c:Bool} (ht:P.underlying t=some (.slice e)) (h:ρ x=.slice o n k) (hn:ρ (.const (.slice none 0 0))=.slice none 0 0) (hc:o.isNone=c) (aE:Φ (.bool c) w):aM P ⟨d,.binOp .eql t x (.const (.slice none 0 0)) t',ty,pos,aft,gd⟩ ρ w Φ:=by
 subst hc
 refine .pure (v:=.bool o.isNone) ?_ aE
 have:∀ m,(Op.equalIn (m+1) t (.slice o n k) (.slice none 0 0)).run P w=.ok o.isNone w:=by
  intro m;cases o<;>simp [Op.equalIn,Sem.run_bind,run_underlying ht]
 simp [execOp,h,hn,eqGuard,binOp,Op.equal,Op.maxDepth,this 9999]
theorem Vm {x:Operand} {t t':TypeId} {o:Option Addr} {c:Bool} (ht:P.underlying t=some (.pointer (P.pointee t))) (h:ρ x=.pointer o) (hn:ρ (.const (.pointer none))=.pointer none) (hc:o.isNone=c) (aE:Φ (.bool c) w):aM P ⟨d,.binOp .eql t x (.const (.pointer none)) t',ty,pos,aft,gd⟩ ρ w Φ:=by
 subst hc
 exact .pure (v:=.bool o.isNone) (by simp [execOp,h,hn,eqGuard,binOp,Op.equal,Op.maxDepth,run_equalIn_pointer_nil w 9999 t o ht]) aE
end
section
variable {P:Program} {w:World} {a:Act}
def uA (P:Program) (w:World) (a:Act):List ResultVar→List Value→Prop
 | [],[]=>True
 | .tmp t::r,v::vs=>a.eval (.tmp t)=v∧uA P w a r vs
 | .cell t ty::r,v::vs=>(∃ ad,a.eval (.tmp t)=.pointer (some ad)∧(loadVar ty ad).run P w=.ok v w)∧uA P w a r vs
 | _,_=>False
def zi (t:Array Value):ResultVar→Sem Value
 | .tmp s=>pure (t.getD s undef)
 | .cell s ty=>do loadVar ty (← asAddr (t.getD s undef))
theorem Bk:∀ (rs:List ResultVar) (vs:List Value),uA P w a rs vs→(rs.mapM (zi a.tmps)).run P w=.ok vs w
 | [],[],_=>by simp
 | .tmp t::r,v::vs,h=>by
  have h1:a.tmps.getD t undef=v:=h.1
  have ih:=Bk r vs h.2
  simp only [List.mapM_cons,Sem.run_bind,zi,h1,Sem.run_pure,Result.andThen_ok,ih]
 | .cell t ty::r,v::vs,h=>by
  obtain ⟨⟨ad,h1,h2⟩,h3⟩:=h
  have h1':a.tmps.getD t undef=.pointer (some ad):=h1
  have ih:=Bk r vs h3
  have h4:(asAddr (.pointer (some ad))).run P w=.ok ad w:=rfl
  simp only [List.mapM_cons,Sem.run_bind,zi,h1',h4,Sem.run_pure,Result.andThen_ok,h2,ih]
 | [],_::_,h=>h.elim
 | .tmp _::_,[],h=>h.elim
 | .cell _ _::_,[],h=>h.elim
theorem BQ {fn:Func} {rs:List ResultVar} {vs:List Value} (hr:fn.results.toList=rs) (h:uA P w a rs vs):(results fn a.tmps).run P w=.ok (match vs with | [v]=>v | vs=>.tuple vs.toArray) w:=by
 have hm:=Bk rs vs h
 have he:results fn a.tmps=(do let vs ← fn.results.mapM (zi a.tmps);pure (if h:vs.size=1 then vs[0] else .tuple vs)):=by
  unfold results
  congr 1
 rw [he]
 simp only [Sem.run_bind,Array.mapM_eq_mapM_toList,hr,Sem.run_map,hm,Result.andThen_ok,Sem.run_pure]
 match vs with
 | []=>simp
 | [v]=>simp
 | _::_::_=>simp
end
theorem St.adb {w0 w:World} {H:ai} (s:St [] w0 w H):cV w0 w H:=⟨s.nd,fun b hb=>(s.own b hb).resolve_right (by simp),s.holds⟩
section
variable {P:Program} {ops:Array Oper} {Q:Exit→Act→World→Prop} {sz d:Nat} {E:List (Nat×Value)} {a:Act} {w:World} {x:Operand} {v:Value} {ty:TypeId} {pos:String} {aft:Array Edge} {r:List (Oper×Bool)}
end
end Go.Proofs.YtkheephfkbpchaaGreatDoor
namespace Go.Proofs.YtkheephfkbpchaaGreatDoor
open Go.RowKit
section
variable {P:Program} {ρ:Operand→Value} {w:World} {d:Option Tmp} {ty:TypeId} {pos:String} {aft:Array Edge} {gd:Option (Nat×Bool)}
theorem Lf {t:TypeId} {x:Operand} {a:Addr} {v:Value} (ht:scalar P t=true) (h:ρ x=.pointer (some a)) (hc:w.cell? a=some v):(execOp ρ ⟨d,.load t x,ty,pos,aft,gd⟩).run P w=.ok (.value v) w:=by
 simp only [execOp,h,Sem.run_bind,Ts ht hc,Result.andThen_ok,Sem.run_pure]
theorem H3 {t:TypeId} {x:Operand} {a:Addr} (vs:List Value) (ht:nC P t vs.length=true) (h:ρ x=.pointer (some a)) (hc:∀ j (hj:j<vs.length),w.cell? (a.add j)=some vs[j]):(execOp ρ ⟨d,.load t x,ty,pos,aft,gd⟩).run P w=.ok (.value (.agg vs.toArray)) w:=by
 simp only [execOp,h,Sem.run_bind,TA ht hc,Result.andThen_ok,Sem.run_pure]
end
end Go.Proofs.YtkheephfkbpchaaGreatDoor
namespace Go.Proofs.YtkheephfkbpchaaGreatDoor
open Go.RowKit
section
variable {P:Program} {ro:Option Nat} {ops:Array Oper} {Q:Exit→Act→World→Prop}
theorem Hr {Rk vv:World→Prop} (h:∀ w,vv w→Rk w):∀ {fuel:Nat} {L:Array Bool} {a:Act} {w:World},kA ro P ops Q vv fuel L a w→kA ro P ops Q Rk fuel L a w
 | 0,_,_,_,k=>⟨h _ k.1,k.2⟩
 | _+1,_,_,_,k=>⟨h _ k.1,k.2.1,fun i hi=>wpOpIn_mono (fun _ _ k=>Hr h k) (k.2.2 i hi)⟩
variable {Rk:World→Prop} {sz d j s:Nat} {E:List (Nat×Value)} {a:Act} {w:World} {o:Oper} {r:List (Oper×Bool)} {want:Bool}
end
end Go.Proofs.YtkheephfkbpchaaGreatDoor
namespace Go.Proofs.YtkheephfkbpchaaGreatDoor
open Go.RowKit
def eb (T:TypeId) (size:Nat) (v:Value) (n:Nat) (xs:List Value) (H:ai):Prop:=
 xs.length=n*size∧((n=0∧H=[]∧∃ a,v=.slice a 0 0)∨
  ∃ b cap cs fz,v=.slice (some ⟨b,0,none⟩) n cap∧H=[(b,.cells cs T fz)]∧Fz fz cs.size∧cs.size=cap*size∧n≤cap∧cs.toList.take (n*size)=xs)
theorem eb.nil (T:TypeId) (size:Nat) (a:Option Addr):eb T size (.slice a 0 0) 0 [] []:=⟨by simp,Or.inl ⟨rfl,rfl,a,rfl⟩⟩
theorem eb.len {T:TypeId} {size:Nat} {v:Value} {n:Nat} {xs:List Value} {H:ai} (h:eb T size v n xs H):∃ a c,v=.slice a n c:=by
 rcases h.2 with ⟨rfl,_,a,rfl⟩ | ⟨b,cap,cs,fz,rfl,_⟩
 ·exact ⟨a,0,rfl⟩
 ·exact ⟨_,_,rfl⟩
def Src (w:World) (size:Nat) (x:Value) (m:Nat) (X:List Value):Prop:=
 X.length=m*size∧((m=0∧∃ a c,x=.slice a 0 c)∨∃ a c,x=.slice (some a) m c∧∀ j (hj:j<X.length),w.cell? (a.add j)=some X[j])
theorem Src.gr {w w':World} {size:Nat} {x:Value} {m:Nat} {X:List Value} (h:Src w size x m X) (g:Gr w w'):Src w' size x m X:=by
 refine ⟨h.1,?_⟩
 rcases h.2 with h2 | ⟨a,c,h2,h3⟩
 ·exact Or.inl h2
 ·exact Or.inr ⟨a,c,h2,fun j hj=>g.LJ (h3 j hj)⟩
variable {P:Program}
theorem run_loadCells {w:World} {a:Addr} {X:List Value} (h:∀ j (hj:j<X.length),w.cell? (a.add j)=some X[j]):(loadCells a X.length).run P w=.ok X.toArray w:=by
 have:=run_loadCellsFrom (P:=P) (w:=w) (a:=a) (vs:=X) 0 #[] (by simpa using h)
 simpa [loadCells] using this
theorem Src.first {w:World} {size:Nat} {x:Value} {m:Nat} {X:List Value} (h:Src w size x m X):(Builtin.lenOf x).run P w=.ok m w∧(Builtin.firstCells size m x).run P w=.ok X.toArray w:=by
 obtain ⟨hl,h⟩:=h
 rcases h with ⟨rfl,a,c,rfl⟩ | ⟨a,c,rfl,h⟩
 ·have:X=[]:=List.eq_nil_of_length_eq_zero (by simpa using hl)
  subst this
  cases a with
  | none=>simp [Builtin.lenOf,Builtin.firstCells]
  | some a=>simp [Builtin.lenOf,Builtin.firstCells,loadCells,loadCellsFrom]
 ·refine ⟨by simp [Builtin.lenOf],?_⟩
  simp only [Builtin.firstCells,← hl]
  exact run_loadCells h
theorem H4 (jL:Nat):∀ (r c:Nat),c≤jL→Builtin.growBy jL r c≤2*jL+192
 | 0,c,h=>by simp [Builtin.growBy];omega
 | r+1,c,h=>by
  unfold Builtin.growBy
  split
  ·omega
  ·by_cases h2:c+(c+768) / 4≤jL
   ·exact H4 jL r _ h2
   ·have key:∀ r c',jL<c'→Builtin.growBy jL r c'=c':=by
     intro r;induction r with
     | zero=>intro c' _;rfl
     | succ r ih=>intro c' FM;unfold Builtin.growBy;rw [if_pos (by omega)]
    rw [key r _ (by omega)];omega
theorem BR {jL old:Nat} (h:old<jL):Builtin.nextslicecap jL old≤2*jL+192:=by
 unfold Builtin.nextslicecap
 split
 ·omega
 ·split
  ·omega
  ·exact H4 jL 4 old (by omega)
structure nD (P:Program) (st T size bytes:Nat) (z:Value):Prop where
 aQ:P.underlying st=some (.slice T)
 uB:(P.info? T).map (·.size)=some size
 Yr:(P.info? T).map (·.bytes)=some bytes
 hzero:(P.info? T).bind (·.zero)=some z
 lZ:z.cells.size=size
theorem nD.info {st T size bytes:Nat} {z:Value} (h:nD P st T size bytes z):∃ i,P.info? T=some i∧i.size=size∧i.bytes=bytes∧i.zero=some z:=by
 cases hi:P.info? T with
 | none=>have:=h.uB;simp [hi] at this
 | some i=>
  have h1:=h.uB;have h2:=h.Yr;have h3:=h.hzero
  simp only [hi,Option.map_some,Option.some.injEq,Option.bind_some] at h1 h2 h3
  exact ⟨i,rfl,h1,h2,h3⟩
theorem pA (z:Array Value) (n:Nat):(Builtin.zeroCells z n).size=n*z.size:=by simp [Builtin.zeroCells]
theorem TE (c:Array Value):∀ (vs:List Value) (i:Nat),i+vs.length≤c.size→∀ (d:Array Value),d.size=c.size→(bV d i vs).toList.take (i+vs.length)=d.toList.take i++vs:=by
 intro vs
 induction vs with
 | nil=>intro i h d hd;simp [bV]
 | cons v r ih=>
  intro i h d hd
  simp only [List.length_cons] at h
  have:=ih (i+1) (by omega) (d.setIfInBounds i v) (by simp [hd])
  simp only [bV,List.length_cons]
  rw [show i+(r.length+1)=i+1+r.length by omega,this]
  have hi:i<d.toList.length:=by simp [hd];omega
  simp only [Array.toList_setIfInBounds]
  rw [List.take_succ_eq_append_getElem (by simpa using hi)]
  simp [List.take_set_of_le]
structure lC (P:Program) (xt:TypeId) (w:World) (size:Nat) (u:Value) (m:Nat) (X:List Value):Prop where
 len:X.length=m*size
 ty:(∃ e,P.underlying xt=some (.slice e))∨P.underlying xt=some .string
 rd:∀ w',Gr w w'→(Builtin.lenOf u).run P w'=.ok m w'∧(Builtin.firstCells size m u).run P w'=.ok X.toArray w'
theorem Src.app {xt e:TypeId} {w:World} {size:Nat} {u:Value} {m:Nat} {X:List Value} (h:Src w size u m X) (fk:P.underlying xt=some (.slice e)):lC P xt w size u m X:=⟨h.1,.inl ⟨e,fk⟩,fun _ g=>(h.gr g).first⟩
theorem lC.str {xt:TypeId} {w:World} {bs:List UInt8} (fk:P.underlying xt=some .string):lC P xt w 1 (.string ⟨bs.toArray⟩) bs.length (bs.map fun b:UInt8=>Value.int .u8 (b.toNat:Int)):=by
 refine ⟨by simp,.inr fk,fun w' _=>?_⟩
 have e1:(⟨bs.toArray⟩:ByteArray).size=bs.length:=by simp [ByteArray.size]
 refine ⟨by simp [Builtin.lenOf,e1],?_⟩
 have e2:((⟨bs.toArray⟩:ByteArray).extract 0 bs.length).data=bs.toArray:=by simp [ByteArray.data_extract]
 simp [Builtin.firstCells,e2]
theorem H5 {st T size bytes:Nat} {z:Value} {ρ:Operand→Value} {w w0:World} {D:List Nat} {Φ:Value→World→Prop} {d:Option Tmp} {ty xt:TypeId} {pos:String} {aft:Array Edge} {gd:Option (Nat×Bool)} {x y:Operand} {v u:Value} {n m:Nat} {xs X:List Value} {H R:ai}
    (ok:nD P st T size bytes z) (hx:ρ x=v) (hy:ρ y=u) (S:St D w0 w (H++R)) (hv:eb T size v n xs H) (hu:lC P xt w size u m X) (cW:∀ q ∈ X,dU q=true) (gA:(2*(n+m)+192)*bytes≤281474976710656) (jc:n+m<4611686018427387904)
    (aE:∀ v' w' H',eb T size v' (n+m) (xs++X) H'→St D w0 w' (H'++R)→Φ v' w'):aM P ⟨d,.call ⟨.builtin .append,#[x,y],#[st,xt]⟩,ty,pos,aft,gd⟩ ρ w Φ:=by
  obtain ⟨i,hi,h1,h2,h3⟩:=ok.info
  obtain ⟨hlen,ia⟩:=hu.rd w (Gr.refl w)
  have aP:∀ w:World,(sizeOf T).run P w=.ok size w:=fun w=>by simp [sizeOf,typeInfo,Sem.run_bind,hi,h1]
  have eZ:∀ w:World,(typeInfo T).run P w=.ok i w:=fun w=>by simp [typeInfo,Sem.run_bind,hi]
  have hzero:∀ w:World,(zeroValue T).run P w=.ok z w:=fun w=>by simp [zeroValue,Sem.run_bind,eZ,h3]
  have hnx:n+m≤9223372036854775807:=by omega
  have jF:∀ r:Result Value,(Builtin.append_ #[st,xt] ty #[v,u]).run P w=r→(execOp ρ ⟨d,.call ⟨.builtin .append,#[x,y],#[st,xt]⟩,ty,pos,aft,gd⟩).run P w=r.andThen fun v w'=>.ok (.value v) w':=by
    intro r hr
    simp only [execOp,resolve,List.map_toArray,List.map,hx,hy,Sem.run_bind,Sem.run_pure,Result.andThen_ok,invoke,builtin,hr]
  have yj:∀ (a:Option Addr) (c:Nat) (w':World),v=.slice a n c→n+m≤c→(match a with | some a=>(storeCells (a.add (n*size)) X).run P w | none=>.ok () w)=.ok () w'→(Builtin.append_ #[st,xt] ty #[v,u]).run P w=.ok (.slice a (n+m) c) w':=by
    intro a c w' hv hle aQ
    subst hv
    rcases hu.ty with ⟨e,fk⟩ | fk<;>
    (unfold Builtin.append_
     simp only [List.getElem?_toArray,List.getElem?_cons_zero,List.getElem?_cons_succ,Sem.run_bind,run_underlying ok.aQ,run_underlying fk,Result.andThen_ok,aP,Sem.run_pure,Bool.false_eq_true,if_false,hlen,hle,if_true,Bool.not_false,ia]
     cases a with
     | none=>simp only at aQ;cases aQ;simp
     | some a=>simp only at aQ;simp [aQ])
  have uD:∀ (a:Option Addr) (c:Nat) (old:List Value),v=.slice a n c→c<n+m→(Builtin.firstCells size n v).run P w.drew=.ok old.toArray w.drew→old.length=n*size→∃ k,n+m≤k∧(Builtin.append_ #[st,xt] ty #[v,u]).run P w=.ok (.slice (some ⟨w.heap.size,0,none⟩) (n+m) k) (w.drew.alloc (.cells (old.toArray++X.toArray++Builtin.zeroCells z.cells (k-(n+m))) T)):=by
    intro a c old hv aG hold afK
    subst hv
    have BS:=hu.rd w.drew (Gr.drew w)
    have FN:Builtin.nextslicecap (n+m) c*bytes≤281474976710656:=Nat.le_trans (Nat.mul_le_mul_right _ (BR aG)) gA
    refine ⟨(Question.appendCap (n+m) c T).cut (w.tape w.drawn (.appendCap (n+m) c T)),by simp [Question.cut],?_⟩
    have kU:(choose (.appendCap (n+m) c T)).run P w=.ok ((Question.appendCap (n+m) c T).cut (w.tape w.drawn (.appendCap (n+m) c T))) w.drew:=by
      simp [choose,Sem.run,Question.forced]
    have mB:∀ (k:Nat) (w:World),(askRoom k).run P w=.ok () w:=by
      intro k w;unfold askRoom;split<;>simp [mark,Sem.run]
    have uE:¬ (((n+m:Nat):Int)>IntKind.i64.max∧(False∨i.bytes=0)):=by
      rintro ⟨h,_⟩
      simp [IntKind.max,IntKind.signed,IntKind.bits] at h
      omega
    have uX:¬ (Builtin.nextslicecap (n+m) c*i.bytes>2 ^ 48):=by rw [h2];omega
    have bn:∀ (cs:Array Value) (w:World),(newRow T cs).run P w=.ok ⟨w.heap.size,0,none⟩ (w.alloc (.cells cs T)):=by
      intro cs w;simp [newRow,newObj,Sem.run]
    rcases hu.ty with ⟨e,fk⟩ | fk<;>
    (unfold Builtin.append_
     simp only [List.getElem?_toArray,List.getElem?_cons_zero,List.getElem?_cons_succ,Sem.run_bind,run_underlying ok.aQ,run_underlying fk,Result.andThen_ok,aP,Sem.run_pure,Bool.false_eq_true,if_false,hlen]
     rw [if_neg (by omega)]
     simp only [Sem.run_bind,eZ,Result.andThen_ok]
     rw [if_neg uE]
     simp only [Sem.run_bind,eZ,Result.andThen_ok]
     rw [if_neg uX]
     simp only [Sem.run_bind,eZ,Result.andThen_ok,kU,mB,hold,Bool.not_false,if_true,BS.2,hzero,bn,Sem.run_pure]
     rfl)
  have uB:w.drew.heap.size=w.heap.size:=rfl
  have di:∀ (old:List Value) (k:Nat),old.length=n*size→old=xs→n+m≤k→∀ b cs,cs=old.toArray++X.toArray++Builtin.zeroCells z.cells (k-(n+m))→eb T size (.slice (some ⟨b,0,none⟩) (n+m) k) (n+m) (xs++X) [(b,.cells cs T (0,0))]:=by
    intro old k sW Af hk b cs b7
    subst b7
    have vw:=hu.len
    have e1:(n+m)*size=n*size+m*size:=Nat.add_mul n m size
    refine ⟨by rw [List.length_append,← Af,sW,vw,e1],Or.inr ⟨b,k,_,(0,0),rfl,rfl,lY _,?_,hk,?_⟩⟩
    · simp only [Array.size_append,List.size_toArray,pA,ok.lZ,sW,vw]
      rw [← e1,← Nat.add_mul];congr 1;omega
    · simp only [Array.toList_append,← Af]
      rw [List.take_append_of_le_length (by simp [sW,vw,e1]),List.take_of_length_le (by simp [sW,vw,e1])]
  have iX:∀ (old:List Value) (k:Nat),old.length=n*size→old=xs→n+m≤k→Φ (.slice (some ⟨w.heap.size,0,none⟩) (n+m) k) (w.drew.alloc (.cells (old.toArray++X.toArray++Builtin.zeroCells z.cells (k-(n+m))) T)):=by
    intro old k sW Af hk
    exact aE _ _ _ (di old k sW Af hk w.heap.size _ rfl) ((S.jA.gr (Gr.drew w)).alloc _)
  rcases hv.2 with ⟨rfl,rfl,a,rfl⟩ | ⟨b,cap,cs,fz,rfl,rfl,ej,b7,hle,yS⟩
  · have Sd:xs=[]:=List.eq_nil_of_length_eq_zero (by simpa using hv.1)
    by_cases hm:m=0
    · have hX:X=[]:=List.eq_nil_of_length_eq_zero (by rw [hu.len,hm];simp)
      refine .pure (v:=.slice a (0+m) 0) (w':=w) (by rw [jF _ (yj a 0 w rfl (by omega) (by subst hX;cases a<;>simp [storeCells]))];rfl) (aE _ _ [] ?_ S)
      subst hm;rw [Sd,hX];exact eb.nil T size a
    · obtain ⟨k,hk,ch⟩:=uD a 0 [] rfl (by omega) (by cases a<;>simp [Builtin.firstCells,loadCells,loadCellsFrom]) (by simp)
      exact .pure (by rw [jF _ ch];rfl) (iX [] k (by simp) Sd.symm hk)
  · have hb:w.heap[b]?=some (.cells cs T fz):=S.holds (b,_) (by simp)
    by_cases hm:n+m≤cap
    · have sa:n*size+X.length≤cs.size:=by rw [hu.len,b7,← Nat.add_mul];exact Nat.mul_le_mul_right _ hm
      have aQ:=pz (P:=P) X w cs (n*size) 0 hb (by omega) cW
      refine .pure (v:=.slice (some ⟨b,0,none⟩) (n+m) cap) (w':=bk w b (.cells (bV cs (n*size) X) T fz)) (by rw [jF _ (yj _ cap _ rfl hm (by simp only [add_eq,Nat.zero_add];exact aQ))];rfl) (aE _ _ [(b,.cells (bV cs (n*size) X) T fz)] ?_ (S.set _))
      have e1:(n+m)*size=n*size+m*size:=Nat.add_mul n m size
      refine ⟨by rw [List.length_append,hv.1,hu.len,e1],Or.inr ⟨b,cap,_,fz,rfl,rfl,by rw [hU];exact ej,by rw [hU,b7],hm,?_⟩⟩
      have:=TE cs X (n*size) sa cs rfl
      rw [hu.len] at this
      rw [e1,this,yS]
    · have hold:(Builtin.firstCells size n (.slice (some ⟨b,0,none⟩) n cap)).run P w.drew=.ok xs.toArray w.drew:=by
        simp only [Builtin.firstCells,← hv.1]
        refine run_loadCells (fun j hj=>?_)
        rw [add_eq,Nat.zero_add]
        have aD:w.drew.heap[b]?=some (.cells cs T fz):=hb
        rw [cell_of aD]
        have:(cs.toList.take (n*size))[j]?=some xs[j]:=by rw [yS];simp [hj]
        rw [List.getElem?_take] at this
        split at this
        · simpa using this
        · simp at this
      obtain ⟨k,hk,ch⟩:=uD (some ⟨b,0,none⟩) cap xs rfl (by omega) hold hv.1
      exact .pure (by rw [jF _ ch];rfl) (iX xs k hv.1 rfl hk)
section
variable {ρ:Operand→Value} {w:World} {Φ:Value→World→Prop} {d:Option Tmp} {ty t e:TypeId} {pos:String} {aft:Array Edge} {gd:Option (Nat×Bool)} {x lo hi mx:Operand} {size l h m b o n c:Nat}
def sliced (b o l h m size:Nat):Value:=.slice (some (if m=l then ⟨b,o,none⟩ else ⟨b,o+l*size,none⟩)) (h-l) (m-l)
theorem A2 (ht:P.underlying t=some (.slice e)) (hs:(P.info? e).map (·.size)=some size) {vl vh vm:Option Value} (hb:(Instr.sliceBounds true n c vl vh vm).run P w=.ok (l,h,m) w):
  (Instr.sliceAt t (.slice (some ⟨b,o,none⟩) n c) vl vh vm).run P w=.ok (sliced b o l h m size) w:=by
 cases hi:P.info? e with
 | none=>simp [hi] at hs
 | some inf=>
  simp only [hi,Option.map_some,Option.some.injEq] at hs
  have aP:(sizeOf e).run P w=.ok size w:=by simp [sizeOf,typeInfo,Sem.run_bind,hi,hs]
  simp only [Instr.sliceAt,Instr.slice,Sem.run_bind,run_underlying ht,Result.andThen_ok,hb,aP,Sem.run_pure,sliced,Option.map_some,add_eq]
  split<;>rfl
theorem fG {v:Nat} {y:Nat} {code:BoundsCode} (h:v≤y):(Instr.sliceBound (.int .i64 v) y code).run P w=.ok v w:=by
 simp only [Instr.sliceBound,Sem.run_bind,asIntOf,Sem.run_pure,Result.andThen_ok]
 rw [if_pos ⟨by omega,by omega⟩];simp
theorem Iw {z:Value} {Z:List Value} (ht:P.underlying t=some (.slice e)) (hz:(zeroValue e).run P w=.ok z w) (hx:ρ x=.slice (some ⟨b,o,none⟩) (n+1) c) {cs:Array Value} {T:TypeId} {fz:Nat×Nat} (hb:w.heap[b]?=some (.cells cs T fz)) (hZ:(Builtin.zeroCells z.cells (n+1)).toList=Z) (hl:o+Z.length≤cs.size) (cW:∀ q ∈ Z,dU q=true)
  (aE:Φ (.tuple #[]) (bk w b (.cells (bV cs o Z) T fz))) (ej:Fz fz cs.size:=by first | exact lY _ | assumption):aM P ⟨d,.call ⟨.builtin .clear,#[x],#[t]⟩,ty,pos,aft,gd⟩ ρ w Φ:=
 .pure (by
  have aQ:=pz (P:=P) Z w cs o 0 hb (by omega) cW
  simp only [Nat.add_zero] at aQ
  have:(Builtin.clear_ #[t] ty #[.slice (some ⟨b,o,none⟩) (n+1) c]).run P w=.ok (.tuple #[]) (bk w b (.cells (bV cs o Z) T fz)):=by
   unfold Builtin.clear_
   simp only [List.getElem?_toArray,List.getElem?_cons_zero,Sem.run_bind,run_underlying ht,Result.andThen_ok,hz,hZ,aQ,Sem.run_pure]
  simp only [execOp,resolve,List.map_toArray,List.map,hx,Sem.run_bind,Sem.run_pure,Result.andThen_ok,invoke,builtin,this]) aE
end
end Go.Proofs.YtkheephfkbpchaaGreatDoor
namespace Go.Proofs.YtkheephfkbpchaaGreatDoor
open Go.RowKit
inductive TU where
 | pl
 | it (k:IntKind)
 | st
 | sr (jd dW:List Nat)
 | sl (e:Nat)
 | ar (n e:Nat)
 | mp (k e:Nat)
structure TI where
 u:TU
 size:Nat
 bytes:Nat
 zero:List Value
abbrev aC:=List (Nat×TI)
def aC.at (T:aC) (t:Nat):Option TI:=
 match T with
 | []=>none
 | (k,v)::r=>bif k.beq t then some v else aC.at r t
def rC:List UInt8→List UInt8→Bool
 | [],[]=>true
 | a::r,b::s=>a.toNat.beq b.toNat&&rC r s
 | _,_=>false
theorem H6:∀ {a b:List UInt8},rC a b=true→a=b
 | [],[],_=>rfl
 | a::r,b::s,h=>by simp only [rC,Bool.and_eq_true] at h;rw [UInt8.toNat_inj.1 (Nat.eq_of_beq_eq_true h.1),H6 h.2]
 | [],_::_,h=>by simp [rC] at h
 | _::_,[],h=>by simp [rC] at h
def uF:Value→Value→Bool
 | .bool a,.bool b=>a==b
 | .int k a,.int k' b=>decide (k=k')&&a==b
 | .string a,.string b=>rC a.data.toList b.data.toList
 | .pointer none,.pointer none=>true
 | .slice none a b,.slice none c d=>a==c&&b==d
 | .map none,.map none=>true
 | .nilFunc,.nilFunc=>true
 | .nilIface,.nilIface=>true
 | _,_=>false
theorem Bl {a b:Value} (h:uF a b=true):a=b:=by
 unfold uF at h
 split at h
 ·simp only [beq_iff_eq] at h;rw [h]
 ·simp only [Bool.and_eq_true,decide_eq_true_eq,beq_iff_eq] at h;rw [h.1,h.2]
 ·rename_i a b
  have ha:a=b:=by
   cases a with | mk a=>cases b with | mk b=>
   have e:a=b:=Array.toList_inj.1 (H6 h)
   rw [e]
  rw [ha]
 ·rfl
 ·simp only [Bool.and_eq_true,beq_iff_eq] at h;rw [h.1,h.2]
 ·rfl
 ·rfl
 ·rfl
 ·simp at h
def rD:List Value→List Value→Bool
 | [],[]=>true
 | a::r,b::s=>uF a b&&rD r s
 | _,_=>false
theorem H7:∀ {a b:List Value},rD a b=true→a=b
 | [],[],_=>rfl
 | [],_::_,h=>by simp [rD] at h
 | _::_,[],h=>by simp [rD] at h
 | a::r,b::s,h=>by
  simp only [rD,Bool.and_eq_true] at h
  rw [Bl h.1,H7 h.2]
def yT (P:Program) (t:Nat):List Nat→Nat→Bool
 | [],_=>true
 | o::r,i=>(match pB P t i with | some o'=>o==o' | none=>false)&&yT P t r (i+1)
theorem Bm {P:Program} {t:Nat}:∀ {l:List Nat} {i:Nat},yT P t l i=true→∀ (f:Nat) off,l[f]?=some off→pB P t (i+f)=some off
 | [],_,_,_,_,h=>by simp at h
 | o::r,i,hb,f,off,h=>by
  simp only [yT,Bool.and_eq_true] at hb
  cases f with
  | zero=>
   simp only [List.getElem?_cons_zero,Option.some.injEq] at h;subst h
   rw [Nat.add_zero]
   have:=hb.1
   split at this
   ·rename_i o' ho;simp only [beq_iff_eq] at this;rw [ho,this]
   ·simp at this
  | succ f=>
   simp only [List.getElem?_cons_succ] at h
   have:=Bm hb.2 f off h
   rw [← this];congr 1;omega
def q8 (P:Program):List Field→Option (List (Nat×Nat))
 | []=>some []
 | f::r=>(match P.info? f.type,q8 P r with | some i,some l=>some ((f.offset,i.size)::l) | _,_=>none)
def BT:List Nat→Nat→List (Nat×Nat)
 | [],_=>[]
 | [o],n=>[(o,n-o)]
 | o::o'::r,n=>(o,o'-o)::BT (o'::r) n
def mM (P:Program) (t:Nat) (x:TI):Bool:=
 (match P.info? t with
 | some i=>i.size==x.size&&i.bytes==x.bytes&&(match i.zero with | some z=>rD z.cells.toList x.zero | none=>false)
 | none=>false) &&
 (match x.u,P.underlying t with
 | .pl,some _=>scalar P t
 | .it k,some (.int k')=>decide (k=k')
 | .st,some .string=>true
 | .sr jd dW,some (.struct fs)=>(fs.toList.map (·.type)==dW)&&jd.length==fs.size&&(q8 P fs.toList==some (BT jd x.size))&&yT P t jd 0
 | .sl e,some (.slice e')=>e==e'
 | .ar n e,some (.array n' e')=>n==n'&&e==e'
 | .mp k e,some (.map k' e')=>k==k'&&e==e'
 | _,_=>false)
def aI (P:Program):aC→Bool
 | []=>true
 | (t,x)::r=>mM P t x&&aI P r
variable {P:Program} {T:aC}
theorem pI (hT:aI P T=true) {t:Nat} {x:TI} (h:T.at t=some x):mM P t x=true:=by
 induction T with
 | nil=>simp [aC.at] at h
 | cons y r ih=>
  obtain ⟨k,v⟩:=y
  simp only [aI,Bool.and_eq_true] at hT
  unfold aC.at at h
  cases hk:k.beq t with
  | true=>simp only [hk,cond_true,Option.some.injEq] at h;subst h;rw [← Nat.eq_of_beq_eq_true hk];exact hT.1
  | false=>simp only [hk,cond_false] at h;exact ih hT.2 h
theorem wL (hT:aI P T=true) {t:Nat} {x:TI} (h:T.at t=some x):∃ i z,P.info? t=some i∧i.size=x.size∧i.bytes=x.bytes∧i.zero=some z∧z.cells.toList=x.zero:=by
 have:=pI hT h
 simp only [mM,Bool.and_eq_true] at this
 have h1:=this.1
 cases hi:P.info? t with
 | none=>simp [hi] at h1
 | some i=>
  simp only [hi,Bool.and_eq_true,beq_iff_eq] at h1
  obtain ⟨⟨ha,hb⟩,hc⟩:=h1
  cases hz:i.zero with
  | none=>simp [hz] at hc
  | some z=>simp only [hz] at hc;exact ⟨i,z,rfl,ha,hb,hz,H7 hc⟩
def dw (T:aC) (t:Nat):Option Nat:=match T.at t with | some x=>some x.size | none=>none
theorem dR (hT:aI P T=true) {t n:Nat} (h:dw T t=some n):(P.info? t).map (·.size)=some n:=by
 unfold dw at h
 split at h
 ·rename_i x hx
  obtain ⟨i,z,h1,h2,-⟩:=wL hT hx
  simp only [Option.some.injEq] at h;rw [h1,Option.map_some,h2,h]
 ·simp at h
def pL (T:aC) (t:Nat):Option (List Value):=match T.at t with | some x=>some x.zero | none=>none
theorem wM (hT:aI P T=true) {t:Nat} {l:List Value} (h:pL T t=some l):∃ z,z.cells=l.toArray∧∀ w:World,(zeroValue t).run P w=.ok z w:=by
 unfold pL at h
 split at h
 ·rename_i x hx
  obtain ⟨i,z,h1,-,-,h2,h3⟩:=wL hT hx
  simp only [Option.some.injEq] at h;subst h
  exact ⟨z,by rw [← h3],fun w=>by simp [zeroValue,typeInfo,Sem.run_bind,h1,h2]⟩
 ·simp at h
inductive Se where
 | one
 | many (n:Nat)
def mN (T:aC) (t:Nat):Option Se:=match T.at t with
 | some x=>(match x.u with | .sr _ _=>some (.many x.size) | .ar _ _=>some (.many x.size) | _=>some .one)
 | none=>none
theorem BU (hT:aI P T=true) {t:Nat} (h:mN T t=some .one):scalar P t=true:=by
 unfold mN at h
 cases hx:T.at t with
 | none=>simp [hx] at h
 | some x=>
  simp only [hx] at h
  have:=pI hT hx
  simp only [mM,Bool.and_eq_true] at this
  have h2:=this.2
  unfold scalar
  cases hu:x.u<;>simp only [hu,Option.some.injEq,reduceCtorEq] at h h2<;>cases hP:P.underlying t<;>simp only [hP,Bool.false_eq_true] at h2
  ·rename_i u;unfold scalar at h2;rw [hP] at h2;exact h2
  all_goals (rename_i u;cases u<;>simp_all)
theorem Bn (hT:aI P T=true) {t n:Nat} (h:mN T t=some (.many n)):nC P t n=true:=by
 unfold mN at h
 cases hx:T.at t with
 | none=>simp [hx] at h
 | some x=>
  simp only [hx] at h
  obtain ⟨i,z,h1,hs,-⟩:=wL hT hx
  have:=pI hT hx
  simp only [mM,Bool.and_eq_true] at this
  have h2:=this.2
  unfold nC
  cases hu:x.u<;>simp only [hu,Option.some.injEq,reduceCtorEq,Se.many.injEq] at h h2<;>cases hP:P.underlying t<;>simp only [hP,Bool.false_eq_true] at h2<;>rename_i u<;>cases u<;>simp_all
def Eg (T:aC) (t f:Nat):Option Nat:=match T.at t with | some ⟨.sr jd _,_,_,_⟩=>jd[f]? | _=>none
theorem WK (hT:aI P T=true) {t f off:Nat} (h:Eg T t f=some off):pB P t f=some off:=by
 unfold Eg at h
 split at h
 ·rename_i jd _ _ _ _ hx
  have:=pI hT hx
  simp only [mM,Bool.and_eq_true] at this
  have h2:=this.2
  cases hP:P.underlying t with
  | none=>simp [hP] at h2
  | some u=>
   simp only [hP] at h2
   cases u<;>simp only [Bool.false_eq_true,Bool.and_eq_true] at h2
   simpa using Bm h2.2 f off h
 ·simp at h
def FO (T:aC) (t:Nat):Option (List (Nat×Nat)):=match T.at t with | some ⟨.sr jd _,n,_,_⟩=>some (BT jd n) | _=>none
theorem Ys (hT:aI P T=true) {t:Nat} {pl:List (Nat×Nat)} (h:FO T t=some pl):∃ fs,P.underlying t=some (.struct fs)∧q8 P fs.toList=some pl:=by
 unfold FO at h
 split at h
 ·rename_i jd _ n _ _ hx
  have:=pI hT hx
  simp only [mM,Bool.and_eq_true] at this
  have h2:=this.2
  simp only [Option.some.injEq] at h
  cases hP:P.underlying t with
  | none=>simp [hP] at h2
  | some u=>
   simp only [hP] at h2
   cases u<;>simp only [Bool.false_eq_true,Bool.and_eq_true,beq_iff_eq] at h2
   rename_i fs
   exact ⟨fs,rfl,by rw [h2.1.2,h]⟩
 ·simp at h
def FP (T:aC) (t f:Nat):Option (Nat×Nat):=match T.at t with | some ⟨.sr jd dW,_,_,_⟩=>(match jd[f]?,dW[f]? with | some o,some ty=>some (o,ty) | _,_=>none) | _=>none
theorem Yt (hT:aI P T=true) {t f o ty:Nat} (h:FP T t f=some (o,ty)):∃ fs x,P.underlying t=some (.struct fs)∧fs[f]?=some x∧x.offset=o∧x.type=ty:=by
 unfold FP at h
 split at h
 ·rename_i jd dW _ _ _ hx
  have:=pI hT hx
  simp only [mM,Bool.and_eq_true] at this
  have h2:=this.2
  split at h
  ·rename_i o' ty' h3 h4
   simp only [Option.some.injEq,Prod.mk.injEq] at h;obtain ⟨rfl,rfl⟩:=h
   cases hP:P.underlying t with
   | none=>simp [hP] at h2
   | some u=>
    simp only [hP] at h2
    cases u<;>simp only [Bool.false_eq_true,Bool.and_eq_true,beq_iff_eq] at h2
    rename_i fs
    have ho:=Bm h2.2 f _ h3
    rw [Nat.zero_add] at ho
    rw [← h2.1.1.1,List.getElem?_map,Option.map_eq_some_iff] at h4
    obtain ⟨x,hx,rfl⟩:=h4
    have kV:fs[f]?=some x:=by rw [← Array.getElem?_toList];exact hx
    refine ⟨fs,x,rfl,kV,?_,rfl⟩
    unfold pB at ho
    rw [hP] at ho
    simp only [kV] at ho
    split at ho
    ·split at ho
     ·simp at ho
     ·simpa using ho
    ·simp at ho
  ·simp at h
 ·simp at h
inductive FQ where
 | sl (e:Nat)
 | ar (n e:Nat)
 | mp (k e:Nat)
 | it (k:IntKind)
 | st
 | ot
def bB (T:aC) (t:Nat):Option FQ:=match T.at t with
 | some x=>(match x.u with | .sl e=>some (.sl e) | .ar n e=>some (.ar n e) | .mp k e=>some (.mp k e) | .it k=>some (.it k) | .st=>some .st | _=>some .ot)
 | none=>none
theorem a7 (hT:aI P T=true) {t:Nat} {k:FQ} (h:bB T t=some k):match k with | .sl e=>P.underlying t=some (.slice e) | .ar n e=>P.underlying t=some (.array n e) | .mp k e=>P.underlying t=some (.map k e) | .it k=>P.underlying t=some (.int k) | .st=>P.underlying t=some .string | .ot=>(P.underlying t).isSome=true:=by
 unfold bB at h
 cases hx:T.at t with
 | none=>simp [hx] at h
 | some x=>
  simp only [hx] at h
  have:=pI hT hx
  simp only [mM,Bool.and_eq_true] at this
  have h2:=this.2
  cases hu:x.u<;>simp only [hu,Option.some.injEq] at h h2<;>subst h<;>cases hP:P.underlying t<;>simp only [hP,Bool.false_eq_true] at h2<;>rename_i u<;>cases u<;>simp_all
theorem Vn (hT:aI P T=true) {t:Nat} {k:FQ} (h:bB T t=some k):(P.underlying t).isSome=true:=by
 have:=a7 hT h
 cases k<;>simp_all
end Go.Proofs.YtkheephfkbpchaaGreatDoor
namespace Go.Proofs.YtkheephfkbpchaaGreatDoor
open Go.RowKit
inductive DV where
 | v (x:Value)
 | ro (k:Nat) (rows:List (List DV))
 | em (T k:Nat) (rows:List (List DV))
 | ag (l:List DV)
 | tu (l:List DV)
 | pb (T:Nat) (cells:List DV)
 | jk
inductive MK where
 | i (k:IntKind) (n:Int)
 | a (l:List (IntKind×Int))
deriving DecidableEq
def MK.val:MK→Value
 | .i k n=>.int k n
 | .a l=>.agg (l.map fun x=>.int x.1 x.2).toArray
structure RF where
 ps:Array Tmp
 cf:Code
 body:Code
inductive AV where
 | d (x:DV)
 | sl (u n:Nat)
 | sb (u k o n:Nat)
 | sf (u k o n:Nat) (q:Option Nat)
 | pt (u o:Nat)
 | mv (u:Nat)
 | yl (u:Nat)
 | ep (u k i o:Nat)
 | rp (row:List DV) (o:Nat)
 | bt (bs:List UInt8)
 | uk
 | fn (f:Nat) (bQ:List AV)
 | fm (f:Nat) (first:List AV)
 | ag (l:List AV)
 | tu (l:List AV)
abbrev DV.u (n:Nat):DV:=.v (.int .u64 ((n:Nat):Int))
abbrev DV.n (n:Nat):DV:=.v (.int .i64 ((n:Nat):Int))
abbrev DV.z (n:Int):DV:=.v (.int .i64 n)
abbrev AV.n (n:Nat):AV:=.d (.n n)
abbrev AV.z (n:Int):AV:=.d (.z n)
inductive LS where
 | ready
 | busy
 | left
def LS.state:LS→LoopState
 | .ready=>.ready
 | .busy=>.busy
 | .left=>.done
def LS.jM:LS→Option Code
 | .left=>some .ret
 | _=>none
inductive ae where
 | bx (T:Nat) (cells:List AV)
 | rw (T k:Nat) (rows:List (List DV))
 | tw (a:Option Addr) (c T k:Nat) (rows:List (List DV))
 | mp (T c:Nat) (es:List (Nat×MK×DV))
 | it (um:Option Nat) (since:Nat) (seen:List Nat) (c:Nat)
 | mu (T c:Nat) (es:List (MK×DV))
 | fl (T k m:Nat) (cells:List AV)
 | mf (T c:Nat) (es:List (Nat×MK×AV))
 | il (um:Option Nat) (since last c:Nat)
 | lp (s:LS) (f sz:Nat) (E:List (Nat×AV)) (c:RF)
 | nm (u b:Nat)
 | gw (g:Nat) (row:List DV)
 | dead
def lay (n:Nat) (X:Nat→List Value):List Value:=(List.range n).flatMap X
def bA (n k:Nat) (F:Nat→Nat→ai):ai:=(List.range n).flatMap fun i=>(List.range k).flatMap (F i)
inductive bj (K:World→Prop):DV→Value→ai→Prop where
 | v (x:Value):bj K (.v x) x []
 | jk (x:Value):bj K .jk x []
 | ro {k:Nat} {rows:List (List DV)} {y:Value} (X:Nat→List Value) (hl:∀ (i:Nat) r,rows[i]?=some r→r.length=k∧(X i).length=k)
   (hy:∃ a c,y=.slice a rows.length c∧rows.length≤c) (hs:∀ w,K w→Src w k y rows.length (lay rows.length X))
   (hr:∀ (i:Nat) (r:List DV) (j:Nat) c x,rows[i]?=some r→r[j]?=some c→(X i)[j]?=some x→bj K c x []):bj K (.ro k rows) y []
 | em {T k:Nat} {rows:List (List DV)} {y:Value} {H0:ai} (X:Nat→List Value) (F:Nat→Nat→ai) (hl:∀ (i:Nat) r,rows[i]?=some r→r.length=k∧(X i).length=k)
   (hs:eb T k y rows.length (lay rows.length X) H0)
   (hr:∀ (i:Nat) (r:List DV) (j:Nat) c x,rows[i]?=some r→r[j]?=some c→(X i)[j]?=some x→bj K c x (F i j)):bj K (.em T k rows) y (H0++bA rows.length k F)
 | ag {l:List DV} (ys:List Value) (F:Nat→ai) (hl:ys.length=l.length) (hr:∀ (j:Nat) c y,l[j]?=some c→ys[j]?=some y→bj K c y (F j)):bj K (.ag l) (.agg ys.toArray) ((List.range l.length).flatMap F)
 | tu {l:List DV} (ys:List Value) (F:Nat→ai) (hl:ys.length=l.length) (hr:∀ (j:Nat) c y,l[j]?=some c→ys[j]?=some y→bj K c y (F j)):bj K (.tu l) (.tuple ys.toArray) ((List.range l.length).flatMap F)
 | pb {T b:Nat} {l:List DV} (ys:List Value) (F:Nat→ai) (hl:ys.length=l.length) (hr:∀ (j:Nat) c y,l[j]?=some c→ys[j]?=some y→bj K c y (F j)):bj K (.pb T l) (.pointer (some ⟨b,0,none⟩)) ((b,.cells ys.toArray T (0,0))::(List.range l.length).flatMap F)
abbrev Beta:=List (Option Addr×Nat)
inductive au (K:World→Prop) (β:Beta):AV→Value→Prop where
 | d {x:DV} {y:Value} (h:bj K x y []):au K β (.d x) y
 | sl {u n c:Nat} {a:Option Addr} (h:β[u]?=some (a,c)):au K β (.sl u n) (.slice a n c)
 | sb {u k o n b c c':Nat} (h:β[u]?=some (some ⟨b,0,none⟩,c)):au K β (.sb u k o n) (.slice (some ⟨b,o*k,none⟩) n c')
 | sf {u k o n b c cap:Nat} {q:Option Nat} (h:β[u]?=some (some ⟨b,0,none⟩,c)) (hc:o+cap≤c) (hn:n≤cap) (hq:match q with | none=>o+cap=c | some q=>cap=q):au K β (.sf u k o n q) (.slice (some ⟨b,o*k,none⟩) n cap)
 | mv {u b c:Nat} (h:β[u]?=some (some ⟨b,0,none⟩,c)):au K β (.mv u) (.map (some b))
 | yl {u b c:Nat} (h:β[u]?=some (some ⟨b,0,none⟩,c)):au K β (.yl u) (.func (.yield b) #[] #[])
 | pt {u o b c:Nat} (h:β[u]?=some (some ⟨b,0,none⟩,c)):au K β (.pt u o) (.pointer (some ⟨b,o,none⟩))
 | ep {u k i o b c:Nat} (h:β[u]?=some (some ⟨b,0,none⟩,c)):au K β (.ep u k i o) (.pointer (some ⟨b,i*k+o,none⟩))
 | rp {row:List DV} {o:Nat} (a:Addr) (X:List Value) (hl:X.length=row.length) (hc:∀ w,K w→∀ (j:Nat) x,X[j]?=some x→w.cell? (a.add j)=some x)
   (hr:∀ (j:Nat) c x,row[j]?=some c→X[j]?=some x→bj K c x []):au K β (.rp row o) (.pointer (some (a.add o)))
 | bt {bs:List UInt8} {y:Value} (h:bj K (.ro 1 (bs.map fun b=>[DV.v (.int .u8 b.toNat)])) y []) (hn:bs.length≤1048576):au K β (.bt bs) y
 | uk {y:Value} (h:dU y=true):au K β .uk y
 | fn {f:Nat} {bQ:List AV} (ys:List Value) (hl:ys.length=bQ.length) (hr:∀ (j:Nat) c y,bQ[j]?=some c→ys[j]?=some y→au K β c y):au K β (.fn f bQ) (.func (.func f) #[] ys.toArray)
 | fm {f:Nat} {first:List AV} (ys:List Value) (hl:ys.length=first.length) (hr:∀ (j:Nat) c y,first[j]?=some c→ys[j]?=some y→au K β c y):au K β (.fm f first) (.func (.func f) ys.toArray #[])
 | ag {l:List AV} (ys:List Value) (hl:ys.length=l.length) (hr:∀ (j:Nat) c y,l[j]?=some c→ys[j]?=some y→au K β c y):au K β (.ag l) (.agg ys.toArray)
 | tu {l:List AV} (ys:List Value) (hl:ys.length=l.length) (hr:∀ (j:Nat) c y,l[j]?=some c→ys[j]?=some y→au K β c y):au K β (.tu l) (.tuple ys.toArray)
theorem bj.mono {K K':World→Prop} (h:∀ w,K' w→K w):∀ {x:DV} {y:Value} {H:ai},bj K x y H→bj K' x y H:=by
 intro x y H r
 induction r with
 | v x=>exact .v x
 | jk x=>exact .jk x
 | ro X hl hy hs hr ih=>exact .ro X hl hy (fun w hw=>hs w (h w hw)) (fun i r j c x h1 h2 h3=>ih i r j c x h1 h2 h3)
 | em X F hl hs hr ih=>exact .em X F hl hs (fun i r j c x h1 h2 h3=>ih i r j c x h1 h2 h3)
 | ag ys F hl hr ih=>exact .ag ys F hl ih
 | tu ys F hl hr ih=>exact .tu ys F hl ih
 | pb ys F hl hr ih=>exact .pb ys F hl ih
theorem bj.slice {K:World→Prop} {x:DV} {y:Value} {H:ai} (r:bj K x y H) (h:(∃ k rows,x=.ro k rows)∨∃ T k rows,x=.em T k rows):∃ a n c,y=.slice a n c:=by
 cases r with
 | v=>simp at h
 | jk=>simp at h
 | ro X hl hy hs hr=>obtain ⟨a,c,rfl,-⟩:=hy;exact ⟨_,_,_,rfl⟩
 | em X F hl hs hr=>obtain ⟨a,c,rfl⟩:=hs.len;exact ⟨_,_,_,rfl⟩
 | ag=>simp at h
 | tu=>simp at h
 | pb=>simp at h
def Ext (β β':Beta):Prop:=∀ (u:Nat) x,β[u]?=some x→β'[u]?=some x
theorem Ext.refl (β:Beta):Ext β β:=fun _ _ h=>h
theorem Ext.app (β γ:Beta):Ext β (β++γ):=fun u x h=>by
 obtain ⟨hu,-⟩:=List.getElem?_eq_some_iff.1 h
 rw [List.getElem?_append_left hu];exact h
theorem au.mono {K K':World→Prop} {β β':Beta} (h:∀ w,K' w→K w) (e:Ext β β'):∀ {x:AV} {y:Value},au K β x y→au K' β' x y:=by
 intro x y r
 induction r with
 | d hd=>exact .d (hd.mono h)
 | sl hb=>exact .sl (e _ _ hb)
 | sb hb=>exact .sb (e _ _ hb)
 | sf hb hc hn hq=>exact .sf (e _ _ hb) hc hn hq
 | mv hb=>exact .mv (e _ _ hb)
 | yl hb=>exact .yl (e _ _ hb)
 | pt hb=>exact .pt (e _ _ hb)
 | ep hb=>exact .ep (e _ _ hb)
 | rp a X hl hc hr=>exact .rp a X hl (fun w hw=>hc w (h w hw)) (fun j c x h1 h2=>(hr j c x h1 h2).mono h)
 | bt hd hn=>exact .bt (hd.mono h) hn
 | uk hu=>exact .uk hu
 | fn ys hl hr ih=>exact .fn ys hl ih
 | fm ys hl hr ih=>exact .fm ys hl ih
 | ag ys hl hr ih=>exact .ag ys hl ih
 | tu ys hl hr ih=>exact .tu ys hl ih
def cP (es:List (Nat×MK×DV)) (vs:List Value):List MapEntry:=(es.zip vs).map fun x=>{ key:=x.1.2.1.val,val:=x.2,born:=x.1.1 }
def dx (es:List (Nat×MK×AV)) (vs:List Value):List MapEntry:=(es.zip vs).map fun x=>{ key:=x.1.2.1.val,val:=x.2,born:=x.1.1 }
theorem wN (g:Nat×MK×AV→Nat×MK×AV) (h:∀ e,(g e).1=e.1∧(g e).2.1=e.2.1):∀ (es:List (Nat×MK×AV)) (vs:List Value),dx (es.map g) vs=dx es vs
 | [],_=>rfl
 | e::r,[]=>rfl
 | e::r,v::vs=>by have:=wN g h r vs;simp only [dx,List.map_cons,List.zip_cons_cons] at this ⊢;rw [this,(h e).1,(h e).2]
inductive bf (K:World→Prop) (β:Beta):Nat→ae→ai→Prop where
 | dead (u:Nat):bf K β u .dead []
 | nm {u v b c:Nat} (hb:β[v]?=some (some ⟨b,0,none⟩,c)):bf K β u (.nm v b) []
 | gw {u g:Nat} {row:List DV} (X:List Value) (hl:X.length=row.length) (hc:∀ w,K w→∀ (j:Nat) x,X[j]?=some x→w.cell? ((⟨g,0,none⟩:Addr).add j)=some x)
   (hr:∀ (j:Nat) c x,row[j]?=some c→X[j]?=some x→bj K c x []):bf K β u (.gw g row) []
 | bx {u b c T:Nat} {cells:List AV} (hb:β[u]?=some (some ⟨b,0,none⟩,c)) (ys:List Value) (hl:ys.length=cells.length) (hr:∀ (j:Nat) c y,cells[j]?=some c→ys[j]?=some y→au K β c y):
   bf K β u (.bx T cells) [(b,.cells ys.toArray T (0,0))]
 | rw {u c T k:Nat} {a:Option Addr} {rows:List (List DV)} {H0:ai} (hb:β[u]?=some (a,c)) (X:Nat→List Value) (F:Nat→Nat→ai) (hl:∀ (i:Nat) r,rows[i]?=some r→r.length=k∧(X i).length=k)
   (hs:eb T k (.slice a rows.length c) rows.length (lay rows.length X) H0)
   (hr:∀ (i:Nat) (r:List DV) (j:Nat) c x,rows[i]?=some r→r[j]?=some c→(X i)[j]?=some x→bj K c x (F i j)):
   bf K β u (.rw T k rows) (H0++bA rows.length k F)
 | tw {u c T k:Nat} {a:Option Addr} {rows:List (List DV)} {H0:ai} (hb:β[u]?=some (a,c)) (X:Nat→List Value) (F:Nat→Nat→ai) (hl:∀ (i:Nat) r,rows[i]?=some r→r.length=k∧(X i).length=k)
   (hs:eb T k (.slice a rows.length c) rows.length (lay rows.length X) H0)
   (hr:∀ (i:Nat) (r:List DV) (j:Nat) c x,rows[i]?=some r→r[j]?=some c→(X i)[j]?=some x→bj K c x (F i j)):
   bf K β u (.tw a c T k rows) (H0++bA rows.length k F)
 | mp {u b c T ck:Nat} {es:List (Nat×MK×DV)} (hb:β[u]?=some (some ⟨b,0,none⟩,c)) (vs:List Value) (G:Nat→ai) (hl:vs.length=es.length) (hr:∀ (j:Nat) e y,es[j]?=some e→vs[j]?=some y→bj K e.2.2 y (G j)):
   bf K β u (.mp T ck es) ((b,.map (cP es vs).toArray ck)::(List.range es.length).flatMap G)
 | it {u b bm c since ck:Nat} {um:Option Nat} {seen:List Nat} (hb:β[u]?=some (some ⟨b,0,none⟩,c)) (hm:∀ v,um=some v→∃ c',β[v]?=some (some ⟨bm,0,none⟩,c')):
   bf K β u (.it um since seen ck) [(b,.mapIter (some bm) since seen.toArray ck)]
 | mu {u b c T ck:Nat} {es:List (MK×DV)} (fo:List (Nat×MK×DV)) (hp:(fo.map fun e=>e.2).Perm es) (hn:(fo.map fun e=>e.1).Nodup) (aG:∀ e ∈ fo,e.1<ck) (hb:β[u]?=some (some ⟨b,0,none⟩,c)) (vs:List Value) (G:Nat→ai) (hl:vs.length=fo.length) (hr:∀ (j:Nat) e y,fo[j]?=some e→vs[j]?=some y→bj K e.2.2 y (G j)):
   bf K β u (.mu T ck es) ((b,.map (cP fo vs).toArray ck)::(List.range fo.length).flatMap G)
 | fl {u b c T k m:Nat} {cells:List AV} (hb:β[u]?=some (some ⟨b,0,none⟩,c)) (ys:List Value) (hl:ys.length=c*k) (hm:cells.length=m*k) (hc:m≤c) (hr:∀ (j:Nat) c y,cells[j]?=some c→ys[j]?=some y→au K β c y):
   bf K β u (.fl T k m cells) [(b,.cells ys.toArray T (0,0))]
 | mf {u b c T ck:Nat} {es:List (Nat×MK×AV)} (hb:β[u]?=some (some ⟨b,0,none⟩,c)) (vs:List Value) (hl:vs.length=es.length) (hr:∀ (j:Nat) e y,es[j]?=some e→vs[j]?=some y→au K β e.2.2 y):
   bf K β u (.mf T ck es) [(b,.map (dx es vs).toArray ck)]
 | il {u b bm c since last ck:Nat} {um:Option Nat} {seen:List Nat} (hb:β[u]?=some (some ⟨b,0,none⟩,c)) (hm:∀ v,um=some v→∃ c',β[v]?=some (some ⟨bm,0,none⟩,c')):
   bf K β u (.il um since last ck) [(b,.mapIter (some bm) since (seen++[last]).toArray ck)]
 | lp {u b c f sz oN:Nat} {bz:LS} {E:List (Nat×AV)} {rf:RF} {tmps:Array Value} (hb:β[u]?=some (some ⟨b,0,none⟩,c)) (aP:tmps.size=sz) (hr:∀ x ∈ E,au K β x.2 (tmps.getD x.1 undef)):
   bf K β u (.lp bz f sz E rf) [(b,.loop { state:=bz.state,pending:=bz.jM,fn:=f,tmps,params:=rf.ps,assign:=rf.cf,body:=rf.body,defers:=oN })]
structure AS where
 E:List (Nat×AV)
 M:List ae
structure RM (D:List Nat) (w0:World) (K0:World→Prop) (M:List ae) (β:Beta) (F:Nat→ai) (I:ai) (w:World):Prop where
 len:β.length=M.length
 blk:∀ (u:Nat) blk,M[u]?=some blk→bf (fun w=>K0 w∧aj w I) β u blk (F u)
 st:St D w0 w ((List.range M.length).flatMap F++I)
def RE (D:List Nat) (w0:World) (K0:World→Prop) (sz:Nat) (s:AS) (a:Act) (w:World):Prop:=
 a.tmps.size=sz∧a.defers=[]∧∃ β F I,RM D w0 K0 s.M β F I w∧∀ x ∈ s.E,au (fun w=>K0 w∧aj w I) β x.2 (a.eval (.tmp x.1))
end Go.Proofs.YtkheephfkbpchaaGreatDoor
namespace Go.Proofs.YtkheephfkbpchaaGreatDoor
open Go.RowKit Go.Maps
section
variable {κ:Type} [DecidableEq κ]
end
section
variable {κ:Type} [DecidableEq κ] {P:Program} {K e t:TypeId} {enc:κ→Value} {o:Obj} {mL:List (κ×Value)} {w:World} {r:Nat}
theorem ni {es:Array MapEntry} {clock:Nat} (hb:w.heap[r]?=some (.map es clock)):(getObj r).run P w=.ok (.map es clock) w:=by simp [getObj,Sem.run,hb]
theorem tH {es:Array MapEntry} {clock:Nat} {o':Obj} (hb:w.heap[r]?=some (.map es clock)):(setObj r o').run P w=.ok () (bk w r o'):=by simp [setObj,Sem.run,hb,bk]
end
section
variable {P:Program} {ρ:Operand→Value} {w w':World} {Φ:Value→World→Prop} {d:Option Tmp} {ty t u:TypeId} {pos:String} {aft:Array Edge} {gd:Option (Nat×Bool)} {x y z:Operand} {m k v r:Value}
theorem Hs (hx:ρ x=m) (hy:ρ y=k) (hz:ρ z=v) (hr:(Instr.mapUpdate t m k v).run P w=.ok () w') (aE:Φ undef w'):aM P ⟨d,.mapUpdate t x y z,ty,pos,aft,gd⟩ ρ w Φ:=
 .skip (by simp only [execOp,hx,hy,hz,Sem.run_bind,hr,Result.andThen_ok,Sem.run_pure]) aE
theorem Vo (hx:ρ x=m) (hy:ρ y=k) (hr:(Builtin.delete_ #[t,u] ty #[m,k]).run P w=.ok r w') (aE:Φ r w'):aM P ⟨d,.call ⟨.builtin .delete,#[x,y],#[t,u]⟩,ty,pos,aft,gd⟩ ρ w Φ:=
 .pure (by simp only [execOp,resolve,List.map_toArray,List.map,hx,hy,Sem.run_bind,Sem.run_pure,Result.andThen_ok,invoke,builtin,hr]) aE
end
theorem St.swap {D:List Nat} {w0 w:World} {A B C:ai} (s:St D w0 w (A++(B++C))):St D w0 w (B++(A++C)):=s.perm (List.perm_append_comm_assoc A B C)
end Go.Proofs.YtkheephfkbpchaaGreatDoor
namespace Go.Proofs.YtkheephfkbpchaaGreatDoor
open Go.RowKit Go.Maps
section
variable {P:Program} {ρ:Operand→Value} {w:World} {Φ:Value→World→Prop} {d:Option Tmp} {ty t e:TypeId} {pos:String} {aft:Array Edge} {gd:Option (Nat×Bool)} {x:Operand} {a:Addr} {b o n c size:Nat}
theorem HF (aE:∀ b w',Gr w w'→cV w w' [(b,.map #[] 0)]→Φ (.map (some b)) w'):aM P ⟨d,.makeMap t none,ty,pos,aft,gd⟩ ρ w Φ:=
 .pure (v:=.map (some w.heap.size)) (w':=w.alloc (.map #[] 0)) (by simp [execOp,Instr.makeMap,Sem.run_bind,newObj,Sem.run]) (aE _ _ (Gr.alloc _ _) (cV.alloc _ _))
end
theorem Addr.pC (a:Addr) (m n:Nat):(a.add m).add n=a.add (m+n):=by
 unfold Addr.add
 split
 ·rename_i h;subst h;simp
 ·split
  ·rename_i h;subst h;simp;omega
  ·split
   ·omega
   ·cases a;simp;omega
theorem Src.row {w:World} {size m:Nat} {v:Value} {X:List Value} (h:Src w size v m X) {i:Nat} (hi:i<m):∃ a c,v=.slice (some a) m c∧∀ j (hj:j<size) (hk:i*size+j<X.length),w.cell? ((a.add (i*size)).add j)=some X[i*size+j]:=by
 rcases h.2 with ⟨h0,_⟩ | ⟨a,c,hv,hc⟩
 ·omega
 ·refine ⟨a,c,hv,fun j hj hk=>?_⟩
  rw [Addr.pC];exact hc _ hk
end Go.Proofs.YtkheephfkbpchaaGreatDoor
namespace Go.Proofs.YtkheephfkbpchaaGreatDoor
open Go.RowKit
section
variable {P:Program} {ρ:Operand→Value} {w:World} {Φ:Value→World→Prop} {d:Option Tmp} {ty t t' e:TypeId} {pos:String} {aft:Array Edge} {gd:Option (Nat×Bool)} {x y:Operand}
theorem Hm {b n k:Nat} {c:Array Value} {fz:Nat×Nat} (ht:P.underlying t=some (.slice e)) (he:P.underlying e=some (.int .u8)) (hx:ρ x=.slice (some ⟨b,0,none⟩) n k) (hb:w.heap[b]?=some (.cells c e fz))
  (aE:∀ fQ,Φ (.slice (some ⟨b,0,none⟩) n k) (bk w b (.cells c e fQ))):aM P ⟨d,.convert t t x,ty,pos,aft,gd⟩ ρ w Φ:=by
 obtain ⟨lo,hi⟩:=fz
 refine .pure (v:=.slice (some ⟨b,0,none⟩) n k) (w':=bk w b (.cells c e (if lo==hi then (c.size,c.size+1) else (min lo c.size,max hi (c.size+1))))) ?_ (aE _)
 have mO:w.shape? b=some (e,c.size):=by simp [World.shape?,hb]
 have kW:w.freeze ⟨b,c.size,none⟩ 1=bk w b (.cells c e (if lo==hi then (c.size,c.size+1) else (min lo c.size,max hi (c.size+1)))):=by
  unfold World.freeze bk
  rw [if_neg (by decide)]
  congr 1
  apply Array.ext_getElem?
  intro j
  have aG:=kz hb
  rw [Array.getElem?_modify,Array.getElem?_setIfInBounds]
  by_cases e':b=j
  ·subst e'
   have hg:w.heap[b]=.cells c e (lo,hi):=by rw [Array.getElem?_eq_getElem aG] at hb;exact Option.some.inj hb
   simp [aG,hg]
  ·simp [e']
 simp [execOp,hx,convert,Sem.run_bind,run_underlying ht,run_underlying he,markStringish,mO,kW]
theorem A3 {v:Value} {l:List UInt8} (ht:P.underlying t=some (.slice e)) (he:P.underlying e=some (.int .u8)) (hd:P.underlying t'=some .string) (hx:ρ x=v) (hs:Src w 1 v l.length (l.map fun b:UInt8=>.int .u8 b.toNat)) (aE:Φ (.string ⟨l.toArray⟩) w):aM P ⟨d,.convert t t' x,ty,pos,aft,gd⟩ ρ w Φ:=by
 refine .pure (v:=.string ⟨l.toArray⟩) (w':=w) ?_ aE
 have key:(convert t t' v).run P w=.ok (.string ⟨l.toArray⟩) w:=by
  rcases hs.2 with ⟨h0,a,c,rfl⟩ | ⟨a,c,rfl,h⟩
  ·have hl:l=[]:=List.eq_nil_of_length_eq_zero h0
   subst hl
   cases a with
   | none=>rw [run_convert_bytes_string w t t' e none 0 c ht he hd];simp [Conv.bytesToString];rfl
   | some a=>exact run_convert_bytes_back w t t' e a c [] ht he hd (by simp)
  ·exact run_convert_bytes_back w t t' e a c l ht he hd (fun j hj=>by rw [h j (by simpa using hj)];simp)
 simp only [execOp,hx,Sem.run_bind,key,Result.andThen_ok,Sem.run_pure]
theorem Vp {a b:List UInt8} {c:Bool} (h:ρ x=.string ⟨a.toArray⟩) (h':ρ y=.string ⟨b.toArray⟩) (hc:(a==b)=c) (aE:Φ (.bool c) w):aM P ⟨d,.binOp .eql t x y t',ty,pos,aft,gd⟩ ρ w Φ:=by
 subst hc;exact .pure (v:=.bool (a==b)) (by simp [execOp,h,h',eqGuard,binOp,Op.stringOp]) aE
theorem Vq {a b:List UInt8} {c:Bool} (h:ρ x=.string ⟨a.toArray⟩) (h':ρ y=.string ⟨b.toArray⟩) (hc:(a != b)=c) (aE:Φ (.bool c) w):aM P ⟨d,.binOp .neq t x y t',ty,pos,aft,gd⟩ ρ w Φ:=by
 subst hc;exact .pure (v:=.bool (a != b)) (by simp [execOp,h,h',eqGuard,binOp,Op.stringOp,bne]) aE
end
end Go.Proofs.YtkheephfkbpchaaGreatDoor
namespace Go.Proofs.YtkheephfkbpchaaGreatDoor
open Go.RowKit
section
variable {P:Program} {ρ:Operand→Value} {w:World} {Φ:Value→World→Prop} {d:Option Tmp} {ty t t':TypeId} {pos:String} {aft:Array Edge} {gd:Option (Nat×Bool)} {x y:Operand} {k yk:IntKind} {a b c:Int}
theorem ZD (h:ρ x=.int k a) (h':ρ y=.int k b) (hb:b≠0) (hc:k.wrap (a.tdiv b)=c) (aE:Φ (.int k c) w):aM P ⟨d,.binOp .quo t x y t',ty,pos,aft,gd⟩ ρ w Φ:=by
 subst hc;exact .pure (v:=.int k (k.wrap (a.tdiv b))) (by simp [execOp,h,h',eqGuard,binOp,Op.intDiv,hb]) aE
theorem ZE (h:ρ x=.int k a) (h':ρ y=.int k b) (hb:b≠0) (hc:a.tmod b=c) (aE:Φ (.int k c) w):aM P ⟨d,.binOp .rem t x y t',ty,pos,aft,gd⟩ ρ w Φ:=by
 subst hc;exact .pure (v:=.int k (a.tmod b)) (by simp [execOp,h,h',eqGuard,binOp,Op.intDiv,hb]) aE
theorem ZF (h:ρ x=.int k a) (h':ρ y=.int yk b) (hb:0≤b) (hc:k.wrap (a*2 ^ (min b.toNat k.bits))=c) (aE:Φ (.int k c) w):aM P ⟨d,.binOp .shl t x y t',ty,pos,aft,gd⟩ ρ w Φ:=by
 subst hc;exact .pure (v:=.int k (k.wrap (a*2 ^ (min b.toNat k.bits)))) (by simp [execOp,h,h',eqGuard,binOp,Op.shift,show ¬ b<0 by omega]) aE
theorem ZG (h:ρ x=.int k a) (h':ρ y=.int k b) (hc:k.wrap ((BitVec.ofInt k.bits a ^^^ BitVec.ofInt k.bits b).toNat:Int)=c) (aE:Φ (.int k c) w):aM P ⟨d,.binOp .xor t x y t',ty,pos,aft,gd⟩ ρ w Φ:=by
 subst hc;exact .pure (v:=.int k (k.wrap ((BitVec.ofInt k.bits a ^^^ BitVec.ofInt k.bits b).toNat:Int))) (by simp [execOp,h,h',eqGuard,binOp,Op.intBits]) aE
end
end Go.Proofs.YtkheephfkbpchaaGreatDoor
namespace Go.Proofs.YtkheephfkbpchaaGreatDoor
open Go.RowKit
section
variable {P:Program} {ρ:Operand→Value} {w:World} {Φ:Value→World→Prop} {d:Option Tmp} {ty t t':TypeId} {pos:String} {aft:Array Edge} {gd:Option (Nat×Bool)} {x y:Operand} {k k' yk:IntKind} {a b c:Int}
theorem ZH (h:ρ x=.int k a) (hc:k.wrap ((BitVec.ofInt k.bits (if k.signed then -1 else k.max) ^^^ BitVec.ofInt k.bits a).toNat:Int)=c) (aE:Φ (.int k c) w):aM P ⟨d,.unOp .xor t x,ty,pos,aft,gd⟩ ρ w Φ:=by
 subst hc;exact .pure (v:=.int k (k.wrap ((BitVec.ofInt k.bits (if k.signed then -1 else k.max) ^^^ BitVec.ofInt k.bits a).toNat:Int))) (by simp [execOp,h,Op.unary,Op.intBits]) aE
theorem ade (h:ρ x=.int k a) (h':ρ y=.int k b) (hc:k.wrap ((BitVec.ofInt k.bits a ||| BitVec.ofInt k.bits b).toNat:Int)=c) (aE:Φ (.int k c) w):aM P ⟨d,.binOp .or t x y t',ty,pos,aft,gd⟩ ρ w Φ:=by
 subst hc;exact .pure (v:=.int k (k.wrap ((BitVec.ofInt k.bits a ||| BitVec.ofInt k.bits b).toNat:Int))) (by simp [execOp,h,h',eqGuard,binOp,Op.intBits]) aE
theorem ZI (h:ρ x=.int k a) (h':ρ y=.int k b) (hc:k.wrap ((BitVec.ofInt k.bits a &&& BitVec.ofInt k.bits b).toNat:Int)=c) (aE:Φ (.int k c) w):aM P ⟨d,.binOp .and t x y t',ty,pos,aft,gd⟩ ρ w Φ:=by
 subst hc;exact .pure (v:=.int k (k.wrap ((BitVec.ofInt k.bits a &&& BitVec.ofInt k.bits b).toNat:Int))) (by simp [execOp,h,h',eqGuard,binOp,Op.intBits]) aE
theorem ZJ (h:ρ x=.int k a) (h':ρ y=.int yk b) (hb:0≤b) (hc:a.fdiv (2 ^ (min b.toNat k.bits))=c) (aE:Φ (.int k c) w):aM P ⟨d,.binOp .shr t x y t',ty,pos,aft,gd⟩ ρ w Φ:=by
 subst hc;exact .pure (v:=.int k (a.fdiv (2 ^ (min b.toNat k.bits)))) (by simp [execOp,h,h',eqGuard,binOp,Op.shift,show ¬ b<0 by omega]) aE
theorem ZK (h:ρ x=.int k a) (h':ρ y=.int k b) (hc:k.wrap (a*b)=c) (aE:Φ (.int k c) w):aM P ⟨d,.binOp .mul t x y t',ty,pos,aft,gd⟩ ρ w Φ:=by
 subst hc;exact .pure (v:=.int k (k.wrap (a*b))) (by simp [execOp,h,h',eqGuard,binOp,Op.intArith]) aE
theorem Uq (hs:(P.underlying t).isSome=true) (hd:P.underlying t'=some (.int k)) (h:ρ x=.int k' a) (hc:k.wrap a=c) (aE:Φ (.int k c) w):aM P ⟨d,.convert t t' x,ty,pos,aft,gd⟩ ρ w Φ:=by
 obtain ⟨u,hu⟩:=Option.isSome_iff_exists.1 hs
 subst hc;exact .pure (v:=.int k (k.wrap a)) (w':=w) (by simp [execOp,h,convert,Sem.run_bind,run_underlying hu,run_underlying hd,Conv.intToInt]) aE
theorem Vr {l:List UInt8} (ht:P.underlying t=some .string) (h:ρ x=.string ⟨l.toArray⟩) (aE:Φ (.int .i64 l.length) w):aM P ⟨d,.call ⟨.builtin .len,#[x],#[t]⟩,ty,pos,aft,gd⟩ ρ w Φ:=by
 obtain ⟨s,hs,aP⟩:∃ s:ByteArray,s=⟨l.toArray⟩∧s.size=l.length:=⟨_,rfl,by simp [ByteArray.size]⟩
 rw [← hs] at h
 exact .pure (v:=.int .i64 l.length) (w':=w) (by simp [execOp,resolve,h,invoke,builtin,Builtin.len_,Sem.run_bind,run_underlying ht,goInt,aP]) aE
end
end Go.Proofs.YtkheephfkbpchaaGreatDoor
namespace Go.Proofs.YtkheephfkbpchaaGreatDoor
open Go.RowKit
theorem eb.block {T size n:Nat} {v:Value} {xs:List Value} {H:ai} (h:eb T size v n xs H) (hn:0<n):∃ b cap cs fz,v=.slice (some ⟨b,0,none⟩) n cap∧H=[(b,.cells cs T fz)]∧Fz fz cs.size∧cs.size=cap*size∧n≤cap∧cs.toList.take (n*size)=xs:=by
 rcases h.2 with ⟨h0,_⟩ | h
 ·omega
 ·exact h
inductive aS where
 | b (c:Bool)
 | z (n:Int)
 | ix (i:Nat) (row:List DV)
 | n (i:Nat)
 | n2 (i j:Nat)
 | res (x:DV)
 | call (args:List AV) (x:DV)
 | zj (n:Nat) (tb:List (Nat×List (Nat×aS)))
 | dX (x:DV)
 | stay (args:List AV) (x:DV)
 | mem (l:List Nat) (x:AV) (M':List ae)
 | mk (j:Nat) (k:MK) (x:DV)
 | Sf (j:Nat) (k:MK) (x:DV) (i:Nat)
 | may (c:Bool) (o:aS)
def a8:List (Nat×AV)→Nat→Option AV
 | [],_=>none
 | (k,v)::r,s=>bif k.beq s then some v else a8 r s
theorem ku:∀ {E:List (Nat×AV)} {s:Nat} {v:AV},a8 E s=some v→(s,v) ∈ E
 | [],_,_,h=>by simp [a8] at h
 | (k,u)::r,s,v,h=>by
  unfold a8 at h
  cases hk:k.beq s with
  | true=>simp only [hk,cond_true,Option.some.injEq] at h;subst h;rw [Nat.eq_of_beq_eq_true hk];exact List.mem_cons_self
  | false=>simp only [hk,cond_false] at h;exact List.mem_cons_of_mem _ (ku h)
def aB (E:List (Nat×AV)):Operand→Option AV
 | .tmp t=>a8 E t
 | .const v=>some (.d (.v v))
 | .func f=>some (.fn f [])
 | .global _=>none
def br:List Prop→Prop
 | []=>True
 | p::r=>p∧br r
structure Out where
 vc:List Prop
 av:AV
 M:List ae
 tc:List Nat
 mv:List Nat
 rd:Option (List Nat)
structure Ctx (D:List Nat) (w0:World) (K0:World→Prop) (E:List (Nat×AV)) (M:List ae) (β:Beta) (F:Nat→ai) (I:ai) (ρ:Operand→Value) (w:World):Prop where
 rm:RM D w0 K0 M β F I w
 sl:∀ t v,a8 E t=some v→au (fun w=>K0 w∧aj w I) β v (ρ (.tmp t))
 const:∀ v,ρ (.const v)=v
 func:∀ f,ρ (.func f)=.func (.func f) #[] #[]
 Eh:∀ g,ρ (.global g)=.pointer (some ⟨g,0,none⟩)
 k:∀ w,Kp D w0 w→K0 w
variable {P:Program} {T:aC} {D:List Nat} {w0:World} {K0:World→Prop} {E:List (Nat×AV)} {M:List ae} {β:Beta} {F:Nat→ai} {I:ai} {ρ:Operand→Value} {w:World}
theorem Ctx.now (C:Ctx D w0 K0 E M β F I ρ w):K0 w∧aj w I:=⟨C.k w C.rm.st.kp,(aj.app.1 C.rm.st.holds).2⟩
theorem Ctx.ev (C:Ctx D w0 K0 E M β F I ρ w) {x:Operand} {v:AV} (h:aB E x=some v):au (fun w=>K0 w∧aj w I) β v (ρ x):=by
 cases x with
 | tmp t=>exact C.sl _ _ h
 | const c=>simp only [aB,Option.some.injEq] at h;subst h;rw [C.const];exact .d (.v c)
 | global g=>simp [aB] at h
 | func f=>simp only [aB,Option.some.injEq] at h;subst h;rw [C.func];exact .fn [] rfl (by simp)
theorem Ctx.aJ (C:Ctx D w0 K0 E M β F I ρ w) {x:Operand} {v:AV} (h:aB E x=some v):∃ y,ρ x=y∧au (fun w=>K0 w∧aj w I) β v y:=⟨_,rfl,C.ev h⟩
def fZ (K0:World→Prop) (I:ai) (F:Nat→ai) (rd:List Nat) (w:World):Prop:=(K0 w∧aj w I)∧∀ u ∈ rd,aj w (F u)
def Ag (P:Program) (o:Oper) (E:List (Nat×AV)) (M:List ae) (vc:List Prop) (av:AV) (rd:List Nat):Prop:=
 ∀ {D:List Nat} {w0:World} {K0:World→Prop} {β:Beta} {F:Nat→ai} {I:ai} {ρ:Operand→Value} {w:World},Ctx D w0 K0 E M β F I ρ w→br vc→
  ∃ v,au (fun w=>K0 w∧aj w I) β av v∧∀ w',fZ K0 I F rd w'→(execOp ρ o).run P w'=.ok (.value v) w'
def aV (I I':ai):Prop:=∃ J,I'=J++I
theorem aV.refl (I:ai):aV I I:=⟨[],rfl⟩
theorem aV.holds {I I':ai} (h:aV I I'):∀ w,aj w I'→aj w I:=by obtain ⟨J,rfl⟩:=h;exact fun w hw=>(aj.app.1 hw).2
theorem aV.trans {A B C:ai} (h:aV A B) (k:aV B C):aV A C:=by obtain ⟨J,rfl⟩:=h;obtain ⟨L,rfl⟩:=k;exact ⟨L++J,by rw [List.append_assoc]⟩
def dH (mv:List Nat) (β β':Beta):Prop:=∀ (u:Nat) x,u ∉ mv→β[u]?=some x→β'[u]?=some x
def Ah (P:Program) (o:Oper) (E:List (Nat×AV)) (M:List ae) (out:Out):Prop:=
 ∀ {D:List Nat} {w0:World} {K0:World→Prop} {β:Beta} {F:Nat→ai} {I:ai} {ρ:Operand→Value} {w:World},Ctx D w0 K0 E M β F I ρ w→br out.vc→
  aM P o ρ w fun v w'=>∃ β' F' I',RM D w0 K0 out.M β' F' I' w'∧dH out.mv β β'∧aV I I'∧(∀ u,u<M.length→u ∉ out.tc→F' u=F u)∧au (fun w=>K0 w∧aj w I') β' out.av v
def aA (P:Program) (o:Oper) (E:List (Nat×AV)) (M:List ae) (out:Out):Prop:=
 match out.rd with
 | some rd=>Ag P o E M out.vc out.av rd∧out.M=M∧out.mv=[]∧∀ u ∈ rd,u<M.length
 | none=>Ah P o E M out
theorem Ext.b {β β':Beta} (h:Ext β β') (mv:List Nat):dH mv β β':=fun u x _ hx=>h u x hx
theorem RM.jE (R:RM D w0 K0 M β F I w) {u:Nat} {blk:ae} (h:M[u]?=some blk):aj w (F u):=by
 intro x hx
 obtain ⟨hu,-⟩:=List.getElem?_eq_some_iff.1 h
 exact R.st.holds x (List.mem_append_left _ (List.mem_flatMap.2 ⟨u,List.mem_range.2 hu,hx⟩))
theorem RM.at (R:RM D w0 K0 M β F I w) {u:Nat} {blk:ae} (h:M[u]?=some blk):∃ H,F u=H∧bf (fun w=>K0 w∧aj w I) β u blk H∧aj w H:=⟨_,rfl,R.blk u _ h,R.jE h⟩
theorem Ctx.Ei (C:Ctx D w0 K0 E M β F I ρ w) {rd:List Nat} (h:∀ u ∈ rd,u<M.length):fZ K0 I F rd w:=⟨C.now,fun u hu=>C.rm.jE (List.getElem?_eq_getElem (h u hu))⟩
theorem Ag.qn {o:Oper} {vc:List Prop} {av:AV} {rd:List Nat} (h:Ag P o E M vc av rd) (hr:∀ u ∈ rd,u<M.length):Ah P o E M ⟨vc,av,M,[],[],some rd⟩:=by
 intro D w0 K0 β F I ρ w C hv
 obtain ⟨v,h1,h2⟩:=h C hv
 exact aM.pure (h2 w (C.Ei hr)) ⟨β,F,I,C.rm,(Ext.refl β).b _,aV.refl _,fun _ _ _=>rfl,h1⟩
theorem aA.qn {o:Oper} {out:Out} (h:aA P o E M out):Ah P o E M out:=by
 obtain ⟨vc,av,M',tc,mv,rd⟩:=out
 unfold aA at h
 cases rd with
 | none=>exact h
 | some rd=>
  obtain ⟨h1,rfl,rfl,h2⟩:=h
  intro D w0 K0 β F I ρ w C hv
  refine aM.mono (h1.qn h2 C hv) fun v w' ⟨β',F',I',R,e,hI,hF,hr⟩=>⟨β',F',I',R,e,hI,fun u hu _=>hF u hu (by simp),hr⟩
theorem aA.look {o:Oper} {vc:List Prop} {av:AV} {rd:List Nat} (h:Ag P o E M vc av rd) (hr:∀ u ∈ rd,u<M.length):aA P o E M ⟨vc,av,M,[],[],some rd⟩:=⟨h,rfl,rfl,hr⟩
theorem aA.same {o:Oper} {vc:List Prop} {av:AV} (h:∀ {D:List Nat} {w0:World} {K0:World→Prop} {β:Beta} {F:Nat→ai} {I:ai} {ρ:Operand→Value} {w:World},Ctx D w0 K0 E M β F I ρ w→br vc→∃ v,(∀ w',K0 w'∧aj w' I→(execOp ρ o).run P w'=.ok (.value v) w')∧au (fun w=>K0 w∧aj w I) β av v):aA P o E M ⟨vc,av,M,[],[],some []⟩:=
 aA.look (fun C hv=>let ⟨v,h1,h2⟩:=h C hv;⟨v,h2,fun w' hs=>h1 w' hs.1⟩) (by simp)
section
variable {d:Option Tmp} {ty:TypeId} {pos:String} {aft:Array Edge} {gd:Option (Nat×Bool)} {oc:Option aS} {out:Out}
def lk (vc:List Prop) (av:AV) (M:List ae):Out:=⟨vc,av,M,[],[],some []⟩
def rL (E:List (Nat×AV)) (M:List ae) (x:Operand):Option Out:=match aB E x with | some v=>some (lk [] v M) | none=>none
theorem wO {x:Operand} (h:rL E M x=some out):aA P ⟨d,.move x,ty,pos,aft,gd⟩ E M out∧aA P ⟨d,.assign x,ty,pos,aft,gd⟩ E M out:=by
 unfold rL at h
 split at h
 ·rename_i v hv
  simp only [Option.some.injEq] at h;subst h
  exact ⟨aA.same fun C _=>⟨_,fun _ _=>Yn rfl,C.ev hv⟩,aA.same fun C _=>⟨_,fun _ _=>Vl rfl,C.ev hv⟩⟩
 ·simp at h
def zk (E:List (Nat×AV)) (M:List ae) (x:Operand):Option Out:=
 match aB E x with | some (.pt u o)=>some (lk [] (.pt u o) M) | some (.ep u k i o)=>some (lk [] (.ep u k i o) M) | some (.rp r o)=>some (lk [] (.rp r o) M) | _=>none
theorem Yu {K:World→Prop} {v:AV} {y:Value} (h:au K β v y) (hv:(∃ u o,v=.pt u o)∨(∃ u k i o,v=.ep u k i o)∨∃ r o,v=.rp r o):∃ a,y=.pointer (some a):=by
 cases h with
 | pt h=>exact ⟨_,rfl⟩
 | ep h=>exact ⟨_,rfl⟩
 | rp a X hl hc hr=>exact ⟨_,rfl⟩
 | _=>simp at hv
theorem JL {x:Operand} (h:zk E M x=some out):aA P ⟨d,.nilCheck x,ty,pos,aft,gd⟩ E M out:=by
 unfold zk at h
 split at h<;>simp only [Option.some.injEq,reduceCtorEq] at h<;>subst h<;>rename_i hv<;>
  refine aA.same fun C _=>?_<;>obtain ⟨a,ha⟩:=Yu (C.ev hv) (by simp)<;>exact ⟨_,fun _ _=>TT ha,ha▸C.ev hv⟩
def wP (E:List (Nat×AV)) (M:List ae) (x:Operand) (i:Nat):Option Out:=
 match aB E x with | some (.tu l)=>(match l[i]? with | some v=>some (lk [] v M) | none=>none) | _=>none
theorem Cy {R:AV→Value→Prop} {l:List AV} {ys:List Value} (hl:ys.length=l.length) (hr:∀ (j:Nat) c y,l[j]?=some c→ys[j]?=some y→R c y) {i:Nat} {v:AV} (hv:l[i]?=some v):∃ y,ys[i]?=some y∧R v y:=by
 obtain ⟨hi,-⟩:=List.getElem?_eq_some_iff.1 hv
 exact ⟨_,List.getElem?_eq_getElem (by omega),hr i _ _ hv (List.getElem?_eq_getElem (by omega))⟩
theorem Ht {x:Operand} {i:Nat} (h:wP E M x i=some out):aA P ⟨d,.extract x i,ty,pos,aft,gd⟩ E M out:=by
 unfold wP at h
 split at h
 ·rename_i l hv
  split at h
  ·rename_i v hi
   simp only [Option.some.injEq] at h;subst h
   refine aA.same fun C _=>?_
   obtain ⟨y,uZ,r⟩:=C.aJ hv
   cases r with
   | tu ys hl hr=>
    obtain ⟨y,h1,h2⟩:=Cy hl hr hi
    exact ⟨y,fun _ _=>Uo uZ (by simpa using h1),h2⟩
  ·simp at h
 ·simp at h
theorem Bo {s:TypeId} {x:Operand} {f off:Nat} {a:Addr} (hf:pB P s f=some off) (h:ρ x=.pointer (some a)):(execOp ρ ⟨d,.fieldAddr s x f,ty,pos,aft,gd⟩).run P w=.ok (.value (.pointer (some (a.add off)))) w:=by
 simp only [execOp,h,Sem.run_bind,TG hf,Result.andThen_ok,Sem.run_pure]
def yn (T:aC) (E:List (Nat×AV)) (M:List ae) (s:TypeId) (x:Operand) (f:Nat):Option Out:=
 match Eg T s f with
 | some off=>(match aB E x with | some (.pt u o)=>some (lk [] (.pt u (o+off)) M) | some (.ep u k i o)=>some (lk [] (.ep u k i (o+off)) M) | some (.rp r o)=>some (lk [] (.rp r (o+off)) M) | _=>none)
 | none=>none
theorem H8 (hT:aI P T=true) {s:TypeId} {x:Operand} {f:Nat} (h:yn T E M s x f=some out):aA P ⟨d,.fieldAddr s x f,ty,pos,aft,gd⟩ E M out:=by
 unfold yn at h
 split at h
 ·rename_i off ho
  have Ej:=WK hT ho
  split at h<;>simp only [Option.some.injEq,reduceCtorEq] at h<;>subst h<;>rename_i hv<;>refine aA.same fun C _=>?_<;>obtain ⟨y,uZ,r⟩:=C.aJ hv
  ·cases r with | pt hb=>exact ⟨_,fun _ _=>Bo Ej uZ,by rw [add_eq];exact .pt hb⟩
  ·cases r with | ep hb=>exact ⟨_,fun _ _=>Bo Ej uZ,by rw [add_eq,Nat.add_assoc];exact .ep hb⟩
  ·cases r with | rp a X hl hc hr=>exact ⟨_,fun _ _=>Bo Ej uZ,by rw [Addr.pC];exact .rp a X hl hc hr⟩
 ·simp at h
def DV.cp:DV→Bool
 | .v _=>true
 | .ro _ _=>true
 | .jk=>true
 | .em _ _ _=>false
 | .ag _=>false
 | .tu _=>false
 | .pb _ _=>false
theorem bj.cp {K:World→Prop} {x:DV} {y:Value} {H:ai} (h:bj K x y H) (hc:x.cp=true):bj K x y []:=by
 cases h with
 | v=>exact .v _
 | jk=>exact .jk _
 | ro X hl hy hs hr=>exact .ro X hl hy hs hr
 | em=>simp [DV.cp] at hc
 | ag=>simp [DV.cp] at hc
 | tu=>simp [DV.cp] at hc
 | pb=>simp [DV.cp] at hc
def zl (l:List AV) (o n:Nat):Option AV:=bif (o+n).ble l.length then some (.ag ((l.drop o).take n)) else none
def iA (T:aC) (t:TypeId) (l:List AV) (o:Nat):Option AV:=
 match mN T t with | some .one=>l[o]? | some (.many n)=>zl l o n | none=>none
theorem pJ (hT:aI P T=true) {t:TypeId} {l:List AV} {o:Nat} {v:AV} {x:Operand} {a:Addr} {R:AV→Value→Prop} {ys:List Value} (hR:∀ (l:List AV) (ys:List Value),ys.length=l.length→(∀ (j:Nat) c y,l[j]?=some c→ys[j]?=some y→R c y)→R (.ag l) (.agg ys.toArray))
  (h:iA T t l o=some v) (hx:ρ x=.pointer (some (a.add o))) (hl:ys.length=l.length) (hr:∀ (j:Nat) c y,l[j]?=some c→ys[j]?=some y→R c y):
  ∃ y,R v y∧∀ w:World,(∀ (j:Nat) y,ys[j]?=some y→w.cell? (a.add j)=some y)→(execOp ρ ⟨d,.load t x,ty,pos,aft,gd⟩).run P w=.ok (.value y) w:=by
 unfold iA at h
 split at h
 ·rename_i ht
  obtain ⟨y,h1,h2⟩:=Cy hl hr h
  exact ⟨y,h2,fun w hc=>Lf (BU hT ht) hx (hc _ _ h1)⟩
 ·rename_i n ht
  have ha:=Bn hT ht
  simp only [zl] at h
  cases hb:(o+n).ble l.length with
  | false=>simp [hb] at h
  | true=>
   simp only [hb,cond_true,Option.some.injEq] at h
   have hle:o+n≤l.length:=Nat.le_of_ble_eq_true hb
   subst h
   have hlen:((ys.drop o).take n).length=n:=by simp;omega
   refine ⟨.agg ((ys.drop o).take n).toArray,hR _ _ (by simp;omega) ?_,fun w hc=>H3 ((ys.drop o).take n) (by rw [hlen];exact ha) hx (fun j hj=>?_)⟩
   ·intro j c y h1 h2
    rw [List.getElem?_take,List.getElem?_drop] at h1 h2
    split at h1
    ·rename_i hj;rw [if_pos hj] at h2;exact hr _ _ _ h1 h2
    ·simp at h1
   ·rw [Addr.pC]
    refine hc (o+j) _ ?_
    rw [List.getElem_take,List.getElem_drop];exact List.getElem?_eq_getElem _
 ·simp at h
def uG (T:aC) (E:List (Nat×AV)) (M:List ae) (oc:Option aS) (t:TypeId) (x:Operand):Option Out:=
 match aB E x with
 | some (.pt u o)=>(match M[u]? with | some (.bx _ cells)=>(match iA T t cells o with | some v=>some ⟨[],v,M,[],[],some [u]⟩ | none=>none) | _=>none)
 | some (.rp row o)=>(match iA T t (row.map .d) o with | some v=>some (lk [] v M) | none=>none)
 | some (.ep u k i o)=>(match oc with
  | some (.ix _ row)=>(match M[u]? with | some (.rw _ k' rows)=>bif k.beq k'&&row.all DV.cp then (match iA T t (row.map .d) o with | some v=>some ⟨[rows[i]?=some row],v,M,[],[],some [u]⟩ | none=>none) else none | _=>none)
  | _=>none)
 | _=>none
theorem jD {n k:Nat} {X:Nat→List Value} (hX:∀ i,i<n→(X i).length=k) {i j:Nat} (hi:i<n) (hj:j<k):(lay n X)[i*k+j]?=(X i)[j]?:=by
 induction n with
 | zero=>omega
 | succ n ih=>
  have hl:(lay n X).length=n*k:=by
   have:∀ m,m≤n→(lay m X).length=m*k:=by
    intro m hm
    induction m with
    | zero=>simp [lay]
    | succ m ihm=>
     have:=ihm (by omega)
     simp only [lay,List.range_succ,List.flatMap_append,List.length_append,List.flatMap_cons,List.flatMap_nil,List.append_nil] at this ⊢
     rw [this,hX m (by omega),Nat.succ_mul]
   exact this n (Nat.le_refl _)
  have hs:lay (n+1) X=lay n X++X n:=by simp [lay,List.range_succ,List.flatMap_append]
  rw [hs]
  rcases Nat.lt_or_ge i n with h | h
  ·have:i*k+j<n*k:=by
    have:=Nat.mul_le_mul_right k (show i+1≤n from h);rw [Nat.succ_mul] at this;omega
   rw [List.getElem?_append_left (by rw [hl];exact this)]
   exact ih (fun i hi=>hX i (by omega)) h
  ·obtain rfl:i=n:=by omega
   rw [List.getElem?_append_right (by rw [hl];omega),hl]
   congr 1;omega
theorem cM {l:List ae} {u:Nat} {b:ae} (h:l[u]?=some b):u<l.length:=(List.getElem?_eq_some_iff.1 h).1
theorem Bp (hT:aI P T=true) {t:TypeId} {x:Operand} (h:uG T E M oc t x=some out):aA P ⟨d,.load t x,ty,pos,aft,gd⟩ E M out:=by
 unfold uG at h
 split at h
 ·rename_i u o hv
  split at h
  ·rename_i Tt cells hM
   split at h
   ·rename_i v e9
    simp only [Option.some.injEq] at h;subst h
    refine aA.look (fun C _=>?_) (by simpa using cM hM)
    obtain ⟨y,hy,r⟩:=C.aJ hv
    cases r with
    | pt hb=>
     obtain ⟨H,hF,hB,hH⟩:=C.rm.at hM
     cases hB with
     | bx aD ys hl hr=>
      rw [hb] at aD;cases aD
      obtain ⟨y',h1,h2⟩:=pJ hT (a:=⟨_,0,none⟩) (fun l ys=>au.ag ys) e9 (hy.trans (by rw [add_eq,Nat.zero_add])) hl hr
      refine ⟨y',h1,fun w' hs=>h2 w' fun j z hj=>?_⟩
      have hw:aj w' _:=hs.2 u (by simp)
      rw [hF] at hw
      rw [add_eq,cell_of hw.one,Nat.zero_add];simpa using hj
   ·simp at h
  ·simp at h
 ·rename_i row o hv
  split at h
  ·rename_i v e9
   simp only [Option.some.injEq] at h;subst h
   refine aA.same ?_
   intro D w0 K0 β F I ρ w C _
   obtain ⟨y,hy,r⟩:=C.aJ hv
   cases r with
   | rp a X hl hc hr=>
    have cH:X.length=(row.map AV.d).length:=by rw [List.length_map];exact hl
    obtain ⟨y',h1,h2⟩:=pJ hT (a:=a) (R:=au (fun w=>K0 w∧aj w I) β) (fun l ys=>au.ag ys) e9 hy cH (fun j c z h1 h2=>by
     simp only [List.getElem?_map,Option.map_eq_some_iff] at h1
     obtain ⟨c',h1,rfl⟩:=h1
     exact .d (hr j c' z h1 h2))
    exact ⟨y',fun w' hs=>h2 w' fun j z hj=>hc w' hs j z hj,h1⟩
  ·simp at h
 ·rename_i u k i o hv
  split at h
  ·rename_i i0 row
   split at h
   rotate_left
   ·simp at h
   rename_i Tt k' rows hM
   cases hk:(k.beq k'&&row.all DV.cp) with
   | false=>simp [hk] at h
   | true=>
    simp only [hk,cond_true] at h
    simp only [Bool.and_eq_true] at hk
    obtain ⟨hk,jq⟩:=hk
    obtain rfl:=Nat.eq_of_beq_eq_true hk
    split at h
    ·rename_i v e9
     simp only [Option.some.injEq] at h;subst h
     refine aA.look ?_ (by simpa using cM hM)
     intro D w0 K0 β F I ρ w C bP
     obtain ⟨bn,-⟩:=bP
     obtain ⟨y,hy,r⟩:=C.aJ hv
     cases r with
     | ep hb=>
      obtain ⟨H,hF,hB,hH⟩:=C.rm.at hM
      cases hB with
      | rw aD X G hl hs hr=>
       rw [hb] at aD;cases aD
       obtain ⟨sX,FR⟩:=hl i row bn
       obtain ⟨hi,-⟩:=List.getElem?_eq_some_iff.1 bn
       obtain ⟨b',cap,cs,fz,he,rfl,ej,b7,hn,ht⟩:=hs.block (by omega)
       cases he
       have cH:(X i).length=(row.map AV.d).length:=by rw [List.length_map];omega
       obtain ⟨y',h1,h2⟩:=pJ hT (a:=⟨_,i*k,none⟩) (R:=au (fun w=>K0 w∧aj w I) β) (fun l ys=>au.ag ys) e9 (hy.trans (by rw [add_eq])) cH (fun j c z h1 h2=>by
        simp only [List.getElem?_map,Option.map_eq_some_iff] at h1
        obtain ⟨c',h1,rfl⟩:=h1
        exact .d ((hr i row j c' z bn h1 h2).cp (List.all_eq_true.1 jq c' (List.mem_of_getElem? h1))))
       refine ⟨y',h1,fun w' vz=>h2 w' fun j z hj=>?_⟩
       have cQ:aj w' _:=vz.2 u (by simp)
       rw [hF] at cQ
       have hw:=(aj.app.1 cQ).1.one
       obtain ⟨dN,-⟩:=List.getElem?_eq_some_iff.1 hj
       rw [add_eq,cell_of hw,← hj,← jD (fun i hi=>(hl i _ (List.getElem?_eq_getElem hi)).2) hi (by omega),← ht,List.getElem?_take,if_pos,Array.getElem?_toList]
       have:=Nat.mul_le_mul_right k (show i+1≤rows.length from hi);rw [Nat.succ_mul] at this;omega
    ·simp at h
  ·simp at h
 ·simp at h
theorem tO {e size n c:Nat} {t:TypeId} {x ix:Operand} {a:Addr} {k:IntKind} {i:Int} (ht:P.underlying t=some (.slice e)) (hs:(P.info? e).map (·.size)=some size) (hx:ρ x=.slice (some a) n c) (hi:ρ ix=.int k i) (h0:0≤i) (h1:i<n):
  (execOp ρ ⟨d,.indexAddr t x ix,ty,pos,aft,gd⟩).run P w=.ok (.value (.pointer (some (a.add (i.toNat*size))))) w:=by
 cases dm:P.info? e with
 | none=>simp [dm] at hs
 | some inf=>
  simp only [dm,Option.map_some,Option.some.injEq] at hs
  have aP:(sizeOf e).run P w=.ok size w:=by simp [sizeOf,typeInfo,Sem.run_bind,dm,hs]
  simp [execOp,hx,hi,Instr.indexAt,asIntOf,Sem.run_bind,run_underlying ht,h0,h1,aP]
theorem nj {e size n:Nat} {t:TypeId} {x ix:Operand} {a:Addr} {k:IntKind} {i:Int} (ht:P.underlying t=some (.array n e)) (hs:(P.info? e).map (·.size)=some size) (hx:ρ x=.pointer (some a)) (hi:ρ ix=.int k i) (h0:0≤i) (h1:i<n):
  (execOp ρ ⟨d,.indexAddr t x ix,ty,pos,aft,gd⟩).run P w=.ok (.value (.pointer (some (a.add (i.toNat*size))))) w:=by
 cases dm:P.info? e with
 | none=>simp [dm] at hs
 | some inf=>
  simp only [dm,Option.map_some,Option.some.injEq] at hs
  have aP:(sizeOf e).run P w=.ok size w:=by simp [sizeOf,typeInfo,Sem.run_bind,dm,hs]
  simp [execOp,hx,hi,Instr.indexAt,Instr.sureAddr,asIntOf,Sem.run_bind,run_underlying ht,h0,h1,aP]
def bN:Option AV→Option (IntKind×Int)
 | some (.d (.v (.int k z)))=>some (k,z)
 | _=>none
theorem Ctx.int (C:Ctx D w0 K0 E M β F I ρ w) {x:Operand} {k:IntKind} {z:Int} (h:bN (aB E x)=some (k,z)):ρ x=.int k z:=by
 unfold bN at h
 split at h
 ·rename_i k' z' hv
  simp only [Option.some.injEq,Prod.mk.injEq] at h;obtain ⟨rfl,rfl⟩:=h
  obtain ⟨y,hy,r⟩:=C.aJ hv
  cases r with | d h=>cases h;exact hy
 ·simp at h
def mh (T:aC) (E:List (Nat×AV)) (M:List ae) (oc:Option aS) (t:TypeId) (x ix:Operand):Option Out:=
 match bN (aB E ix) with
 | none=>none
 | some (_,z)=>
  match bB T t with
  | some (.sl e)=>(match dw T e with
   | none=>none
   | some k=>(match oc with
    | some (.ix i row)=>(match aB E x with | some (.d (.ro k' rows))=>(bif k.beq k' then some (lk [z=(i:Int),rows[i]?=some row] (.rp row 0) M) else none) | _=>none)
    | some (.n i)=>(match aB E x with | some (.sl u n)=>(match M[u]? with | some (.rw _ _ rows)=>some ⟨[z=(i:Int),i<n,n≤rows.length],.ep u k i 0,M,[],[],some []⟩ | _=>none) | _=>none)
    | _=>none))
  | some (.ar n e)=>(match dw T e with
   | none=>none
   | some k=>(match oc with
    | some (.n i)=>(match aB E x with | some (.pt u o)=>some (lk [z=(i:Int),i<n] (.pt u (o+i*k)) M) | some (.ep u k' j o)=>some (lk [z=(i:Int),i<n] (.ep u k' j (o+i*k)) M) | some (.rp r o)=>some (lk [z=(i:Int),i<n] (.rp r (o+i*k)) M) | _=>none)
    | _=>none))
  | _=>none
theorem add_zero' (a:Addr):a.add 0=a:=by unfold Addr.add;simp
theorem wC (hT:aI P T=true) {t:TypeId} {x ix:Operand} (h:mh T E M oc t x ix=some out):aA P ⟨d,.indexAddr t x ix,ty,pos,aft,gd⟩ E M out:=by
 unfold mh at h
 split at h
 ·simp at h
 rename_i kk z hz
 split at h
 ·rename_i e ht
  replace ht:=a7 hT ht
  split at h
  ·simp at h
  rename_i k hk
  replace hk:=dR hT hk
  split at h
  ·rename_i i row
   split at h
   ·rename_i k' rows hv
    cases bh:k.beq k' with
    | false=>simp [bh] at h
    | true=>
     simp only [bh,cond_true,Option.some.injEq] at h;subst h
     obtain rfl:=Nat.eq_of_beq_eq_true bh
     refine aA.same fun C bP=>?_
     obtain ⟨rfl,bn,-⟩:=bP
     obtain ⟨y,hy,r⟩:=C.aJ hv
     cases r with | d r=>
     cases r with
     | ro X hl gJ hs hr=>
      obtain ⟨hi,-⟩:=List.getElem?_eq_some_iff.1 bn
      obtain ⟨a,c,sY,-⟩:=(hs _ C.now).row hi
      refine ⟨_,fun _ _=>tO ht hk (hy.trans sY) (C.int hz) (by omega) (by omega),?_⟩
      have e0:a.add (((i:Nat):Int).toNat*k)=(a.add (i*k)).add 0:=by rw [add_zero'];simp
      rw [e0]
      refine .rp _ (X i) (by have:=hl i row bn;omega) (fun w' cQ j x hj=>?_) (fun j c x h1 h2=>hr i row j c x bn h1 h2)
      obtain ⟨a',c',Ek,rM⟩:=(hs w' cQ).row hi
      rw [sY] at Ek;simp only [Value.slice.injEq,Option.some.injEq] at Ek;obtain ⟨rfl,-⟩:=Ek
      have vw:=(hl i row bn).2
      obtain ⟨dN,-⟩:=List.getElem?_eq_some_iff.1 hj
      have hg:=jD (fun i hi=>(hl i _ (List.getElem?_eq_getElem hi)).2) hi (show j<k by omega)
      rw [hj] at hg
      obtain ⟨aG,nQ⟩:=List.getElem?_eq_some_iff.1 hg
      rw [rM j (by omega) aG,nQ]
   ·simp at h
  ·rename_i i
   split at h
   ·rename_i u n hv
    split at h
    ·rename_i Tt k' rows hM
     simp only [Option.some.injEq] at h;subst h
     refine aA.look (fun C bP=>?_) (by simp)
     obtain ⟨rfl,hi,Sg,-⟩:=bP
     obtain ⟨y,hy,r⟩:=C.aJ hv
     cases r with
     | sl hb=>
      obtain ⟨H,-,hB,-⟩:=C.rm.at hM
      cases hB with
      | rw aD X G hl hs hr=>
       rw [hb] at aD;cases aD
       obtain ⟨b',cap,cs,fz,he,-⟩:=hs.block (by omega)
       cases he
       exact ⟨_,by rw [add_eq];simpa using au.ep (k:=k) (i:=i) (o:=0) hb,fun _ _=>tO ht hk hy (C.int hz) (by omega) (by omega)⟩
    ·simp at h
   ·simp at h
  ·simp at h
 ·rename_i n e ht
  replace ht:=a7 hT ht
  split at h
  ·simp at h
  rename_i k hk
  replace hk:=dR hT hk
  split at h
  ·rename_i i
   split at h<;>simp only [Option.some.injEq,reduceCtorEq] at h<;>subst h<;>rename_i hv<;>refine aA.same fun C bP=>?_<;>obtain ⟨rfl,hi,-⟩:=bP<;>obtain ⟨y,hy,r⟩:=C.aJ hv
   ·cases r with | pt hb=>exact ⟨_,fun _ _=>nj ht hk hy (C.int hz) (by omega) (by omega),by rw [add_eq];exact .pt hb⟩
   ·cases r with | ep hb=>exact ⟨_,fun _ _=>nj ht hk hy (C.int hz) (by omega) (by omega),by rw [add_eq,Nat.add_assoc];exact .ep hb⟩
   ·cases r with | rp a X hl hc hr=>exact ⟨_,fun _ _=>nj ht hk hy (C.int hz) (by omega) (by omega),by rw [Addr.pC];exact .rp a X hl hc hr⟩
  ·simp at h
 ·simp at h
end
end Go.Proofs.YtkheephfkbpchaaGreatDoor
namespace Go.Proofs.YtkheephfkbpchaaGreatDoor
open Go.RowKit
variable {P:Program} {T:aC} {D:List Nat} {w0:World} {K0:World→Prop} {E:List (Nat×AV)} {M:List ae} {β:Beta} {F:Nat→ai} {I:ai} {ρ:Operand→Value} {w:World}
variable {d:Option Tmp} {ty:TypeId} {pos:String} {aft:Array Edge} {gd:Option (Nat×Bool)} {oc:Option aS} {out:Out}
def AV.i (k:IntKind) (z:Int):AV:=.d (.v (.int k z))
def AV.b (c:Bool):AV:=.d (.v (.bool c))
def jG:Option AV→Option Bool
 | some (.d (.v (.bool c)))=>some c
 | _=>none
theorem Ctx.bool (C:Ctx D w0 K0 E M β F I ρ w) {x:Operand} {c:Bool} (h:jG (aB E x)=some c):ρ x=.bool c:=by
 unfold jG at h
 split at h
 ·rename_i c' hv
  simp only [Option.some.injEq] at h;subst h
  obtain ⟨y,hy,r⟩:=C.aJ hv
  cases r with | d h=>cases h;exact hy
 ·simp at h
def ga:Option AV→Option (List UInt8)
 | some (.d (.v (.string s)))=>some s.data.toList
 | _=>none
theorem Ctx.str (C:Ctx D w0 K0 E M β F I ρ w) {x:Operand} {l:List UInt8} (h:ga (aB E x)=some l):ρ x=.string ⟨l.toArray⟩:=by
 unfold ga at h
 split at h
 ·rename_i s hv
  simp only [Option.some.injEq] at h;subst h
  obtain ⟨y,hy,r⟩:=C.aJ hv
  cases r with | d h=>cases h;rw [hy]
 ·simp at h
def zm:BinOp→Int→Int→Option Bool
 | .eql,a,b=>some (a==b)
 | .neq,a,b=>some (a != b)
 | .lss,a,b=>some (decide (a<b))
 | .leq,a,b=>some (decide (a≤b))
 | .gtr,a,b=>some (decide (b<a))
 | .geq,a,b=>some (decide (b≤a))
 | _,_,_=>none
def FT:BinOp→IntKind→Int→Int→Option (List Prop×Int)
 | .add,k,a,b=>some ([],k.wrap (a+b))
 | .sub,k,a,b=>some ([],k.wrap (a-b))
 | .mul,k,a,b=>some ([],k.wrap (a*b))
 | .quo,k,a,b=>some ([b≠0],k.wrap (a.tdiv b))
 | .rem,_,a,b=>some ([b≠0],a.tmod b)
 | .and,k,a,b=>some ([],k.wrap ((BitVec.ofInt k.bits a &&& BitVec.ofInt k.bits b).toNat:Int))
 | .or,k,a,b=>some ([],k.wrap ((BitVec.ofInt k.bits a ||| BitVec.ofInt k.bits b).toNat:Int))
 | .xor,k,a,b=>some ([],k.wrap ((BitVec.ofInt k.bits a ^^^ BitVec.ofInt k.bits b).toNat:Int))
 | _,_,_,_=>none
def Ai:BinOp→IntKind→Int→Int→Option Int
 | .shl,k,a,b=>some (k.wrap (a*2 ^ (min b.toNat k.bits)))
 | .shr,k,a,b=>some (a.fdiv (2 ^ (min b.toNat k.bits)))
 | _,_,_,_=>none
def kF (oc:Option aS) (c0:Bool) (M:List ae):Out:=match oc with | some (.b c)=>lk [c0=c] (.b c) M | _=>lk [] (.b c0) M
def kG (oc:Option aS) (vc:List Prop) (k:IntKind) (z0:Int) (M:List ae):Out:=match oc with | some (.z z)=>lk ((z0=z)::vc) (.i k z) M | _=>lk vc (.i k z0) M
def qo (P:Program) (o:Oper):Prop:=∀ (ρ:Operand→Value) (w:World),(∃ v w',(execOp ρ o).run P w=.ok (.value v) w')∨∃ h w',(execOp ρ o).run P w=.halt h w'
theorem qo.of {o:Oper} (h:∀ ρ:Operand→Value,∃ s:Sem Value,execOp ρ o=(do pure (Next.value (← s)))):qo P o:=by
 intro ρ w
 obtain ⟨s,hs⟩:=h ρ
 rw [hs]
 simp only [Sem.run_bind]
 cases hr:s.run P w with
 | ok v' w'=>exact Or.inl ⟨v',w',by simp⟩
 | halt x w'=>exact Or.inr ⟨x,w',rfl⟩
theorem wQ {o:Oper} {ρ:Operand→Value} {w:World} {v:Value} (hk:qo P o) (h:aM P o ρ w fun v' w'=>v'=v∧w'=w):(execOp ρ o).run P w=.ok (.value v) w:=by
 unfold aM at h
 rcases hk ρ w with ⟨v',w',hr⟩ | ⟨x,w',hr⟩<;>rw [hr] at h ⊢
 ·obtain ⟨rfl,rfl⟩:=h;rfl
 ·exact h.elim
theorem kB {o:Oper} {vc:List Prop} {av:AV} (hk:qo P o) (h:∀ {D:List Nat} {w0:World} {K0:World→Prop} {β:Beta} {F:Nat→ai} {I:ai} {ρ:Operand→Value} {w:World},Ctx D w0 K0 E M β F I ρ w→br vc→∃ v,au (fun w=>K0 w∧aj w I) β av v∧∀ (w:World) (Φ:Value→World→Prop),Φ v w→aM P o ρ w Φ):aA P o E M (lk vc av M):=
 aA.same fun C hv=>let ⟨v,h1,h2⟩:=h C hv;⟨v,fun w' _=>wQ hk (h2 w' _ ⟨rfl,rfl⟩),h1⟩
theorem pD {o:Oper} {c0:Bool} (hk:qo P o) (h:∀ {D:List Nat} {w0:World} {K0:World→Prop} {β:Beta} {F:Nat→ai} {I:ai} {ρ:Operand→Value} {w:World},Ctx D w0 K0 E M β F I ρ w→∀ (w:World) (Φ:Value→World→Prop),Φ (.bool c0) w→aM P o ρ w Φ):aA P o E M (kF oc c0 M):=by
 unfold kF
 split
 ·refine kB hk fun C hv=>?_
  obtain ⟨rfl,-⟩:=hv
  exact ⟨_,.d (.v _),h C⟩
 ·exact kB hk fun C _=>⟨_,.d (.v _),h C⟩
theorem nq {o:Oper} {vc:List Prop} {k:IntKind} {z0:Int} (hk:qo P o) (h:∀ {D:List Nat} {w0:World} {K0:World→Prop} {β:Beta} {F:Nat→ai} {I:ai} {ρ:Operand→Value} {w:World},Ctx D w0 K0 E M β F I ρ w→br vc→∀ (w:World) (Φ:Value→World→Prop),Φ (.int k z0) w→aM P o ρ w Φ):aA P o E M (kG oc vc k z0 M):=by
 unfold kG
 split
 ·refine kB hk fun C hv=>?_
  obtain ⟨rfl,hv⟩:=hv
  exact ⟨_,.d (.v _),h C hv⟩
 ·exact kB hk fun C hv=>⟨_,.d (.v _),h C hv⟩
def pM (E:List (Nat×AV)) (M:List ae) (oc:Option aS) (op:BinOp) (x y:Operand):Option Out:=
 match bN (aB E x),bN (aB E y) with
 | some (k,a),some (k',b)=>(match Ai op k a b with
  | some z0=>some (kG oc [0≤b] k z0 M)
  | none=>bif decide (k=k') then (match zm op a b with
   | some c0=>some (kF oc c0 M)
   | none=>match FT op k a b with | some (vc,z0)=>some (kG oc vc k z0 M) | none=>none) else none)
 | _,_=>none
theorem Bq {op:BinOp} {x y:Operand} {t t':TypeId} (h:pM E M oc op x y=some out):aA P ⟨d,.binOp op t x y t',ty,pos,aft,gd⟩ E M out:=by
 unfold pM at h
 split at h
 ·rename_i k a k' b hx hy
  split at h
  ·rename_i z0 hz
   simp only [Option.some.injEq] at h;subst h
   refine nq (.of fun _=>⟨_,rfl⟩) fun C hv w Φ aE=>?_
   obtain ⟨hb,-⟩:=hv
   cases op<;>simp only [Ai,Option.some.injEq,reduceCtorEq] at hz
   ·exact ZF (C.int hx) (C.int hy) hb hz aE
   ·exact ZJ (C.int hx) (C.int hy) hb hz aE
  ·cases hk:decide (k=k') with
   | false=>simp [hk] at h
   | true=>
    simp only [hk,cond_true] at h
    obtain rfl:=of_decide_eq_true hk
    split at h
    ·rename_i c0 hc
     simp only [Option.some.injEq] at h;subst h
     refine pD (.of fun _=>⟨_,rfl⟩) fun C w Φ aE=>?_
     cases op<;>simp only [zm,Option.some.injEq,reduceCtorEq] at hc
     ·exact Zs (C.int hx) (C.int hy) hc aE
     ·exact Zt (C.int hx) (C.int hy) hc aE
     ·exact Zu (C.int hx) (C.int hy) hc aE
     ·exact Zv (C.int hx) (C.int hy) hc aE
     ·exact Zw (C.int hx) (C.int hy) hc aE
     ·exact Zx (C.int hx) (C.int hy) hc aE
    ·split at h
     ·rename_i vc z0 hz
      simp only [Option.some.injEq] at h;subst h
      refine nq (.of fun _=>⟨_,rfl⟩) fun C hv w Φ aE=>?_
      cases op<;>simp only [FT,Option.some.injEq,Prod.mk.injEq,reduceCtorEq] at hz<;>obtain ⟨rfl,hz⟩:=hz
      ·exact Zy (C.int hx) (C.int hy) hz aE
      ·exact Zz (C.int hx) (C.int hy) hz aE
      ·exact ZK (C.int hx) (C.int hy) hz aE
      ·exact ZD (C.int hx) (C.int hy) hv.1 hz aE
      ·exact ZE (C.int hx) (C.int hy) hv.1 hz aE
      ·exact ZI (C.int hx) (C.int hy) hz aE
      ·exact ade (C.int hx) (C.int hy) hz aE
      ·exact ZG (C.int hx) (C.int hy) hz aE
     ·simp at h
 ·simp at h
end Go.Proofs.YtkheephfkbpchaaGreatDoor
namespace Go.Proofs.YtkheephfkbpchaaGreatDoor
open Go.RowKit
variable {P:Program} {T:aC} {D:List Nat} {w0:World} {K0:World→Prop} {E:List (Nat×AV)} {M:List ae} {β:Beta} {F:Nat→ai} {I:ai} {ρ:Operand→Value} {w:World}
variable {d:Option Tmp} {ty:TypeId} {pos:String} {aft:Array Edge} {gd:Option (Nat×Bool)} {oc:Option aS} {out:Out}
theorem qU (vs:List Value):∀ (c:Array Value) (i j:Nat),i+vs.length≤c.size→(bV c i vs)[j]?=if i≤j∧j<i+vs.length then vs[j-i]? else c[j]?:=by
 induction vs with
 | nil=>intro c i j h;simp [bV];intro h1 h2;omega
 | cons v r ih=>
  intro c i j h
  simp only [List.length_cons] at h
  simp only [bV]
  rw [ih _ _ _ (by simp;omega)]
  by_cases h1:i+1≤j∧j<i+1+r.length
  ·rw [if_pos h1,if_pos (by simp;omega)]
   rw [show j-i=(j-(i+1))+1 by omega];simp
  ·rw [if_neg h1,Array.getElem?_setIfInBounds]
   by_cases h2:i=j
   ·subst h2;simp;omega
   ·rw [if_neg h2,if_neg (by simp;omega)]
theorem bf.mono {K K':World→Prop} {β β':Beta} (h:∀ w,K' w→K w) (e:Ext β β') {u:Nat} {blk:ae} {H:ai} (r:bf K β u blk H):bf K' β' u blk H:=by
 cases r with
 | dead=>exact .dead u
 | bx hb ys hl hr=>exact .bx (e _ _ hb) ys hl (fun j c y h1 h2=>(hr j c y h1 h2).mono h e)
 | rw hb X G hl hs hr=>exact .rw (e _ _ hb) X G hl hs (fun i r j c x h1 h2 h3=>(hr i r j c x h1 h2 h3).mono h)
 | tw hb X G hl hs hr=>exact .tw (e _ _ hb) X G hl hs (fun i r j c x h1 h2 h3=>(hr i r j c x h1 h2 h3).mono h)
 | nm hb=>exact .nm (e _ _ hb)
 | gw X hl hc hr=>exact .gw X hl (fun w hw=>hc w (h w hw)) (fun j c x h1 h2=>(hr j c x h1 h2).mono h)
 | il hb hm=>exact .il (e _ _ hb) (fun v hv=>let ⟨c',h'⟩:=hm v hv;⟨c',e _ _ h'⟩)
 | fl hb ys hl hm hc hr=>exact .fl (e _ _ hb) ys hl hm hc (fun j c y h1 h2=>(hr j c y h1 h2).mono h e)
 | mf hb vs hl hr=>exact .mf (e _ _ hb) vs hl (fun j c y h1 h2=>(hr j c y h1 h2).mono h e)
 | mp hb vs G hl hr=>exact .mp (e _ _ hb) vs G hl (fun j c y h1 h2=>(hr j c y h1 h2).mono h)
 | mu fo hp hn aG hb vs G hl hr=>exact .mu fo hp hn aG (e _ _ hb) vs G hl (fun j c y h1 h2=>(hr j c y h1 h2).mono h)
 | lp hb aP hr=>exact .lp (e _ _ hb) aP (fun x hx=>(hr x hx).mono h e)
 | it hb hm=>exact .it (e _ _ hb) (fun v hv=>let ⟨c',h'⟩:=hm v hv;⟨c',e _ _ h'⟩)
def aF (F:Nat→ai) (u:Nat) (H:ai):Nat→ai:=fun v=>if v=u then H else F v
theorem fW (F:Nat→ai) (H:ai) {n:Nat} {tc:List Nat}:∀ u,u<n→u ∉ tc→aF F n H u=F u:=fun u hu _=>by simp [aF];omega
theorem Bb (F:Nat→ai) (H:ai) (n:Nat):(List.range (n+1)).flatMap (aF F n H)=(List.range n).flatMap F++H:=by
 rw [List.range_succ,List.flatMap_append]
 have:(List.range n).flatMap (aF F n H)=(List.range n).flatMap F:=by
  rw [List.flatMap_def,List.flatMap_def];congr 1
  apply List.map_congr_left;intro a ha;have:=List.mem_range.1 ha;simp [aF];omega
 rw [this];simp [aF]
theorem RM.new (R:RM D w0 K0 M β F I w) {w':World} (g:Gr w w') {q:Option Addr×Nat} {H:ai} {blk:ae} (n:cV w w' H) (hb:bf (fun w=>K0 w∧aj w I) (β++[q]) M.length blk H):
  RM D w0 K0 (M++[blk]) (β++[q]) (aF F M.length H) I w' where
 len:=by simp [R.len]
 blk:=by
  intro u bl hu
  rcases Nat.lt_or_ge u M.length with h | h
  ·rw [List.getElem?_append_left h] at hu
   have:aF F M.length H u=F u:=by simp [aF];omega
   rw [this];exact (R.blk u bl hu).mono (fun _ h=>h) (Ext.app _ _)
  ·rw [List.getElem?_append_right h] at hu
   have h0:u-M.length=0:=by
    rcases Nat.eq_zero_or_pos (u-M.length) with h0 | h0
    ·exact h0
    ·rw [List.getElem?_eq_none (by simp;omega)] at hu;simp at hu
   obtain rfl:u=M.length:=by omega
   simp at hu;subst hu
   simpa [aF] using hb
 st:=by
  have:=R.st.new g n
  rw [List.length_append,List.length_singleton,Bb]
  refine this.perm ?_
  rw [← List.append_assoc]
  exact List.Perm.append_right I List.perm_append_comm
theorem RM.gr (R:RM D w0 K0 M β F I w) {w':World} (g:Gr w w'):RM D w0 K0 M β F I w':=⟨R.len,R.blk,R.st.gr g⟩
theorem cu (R:RM D w0 K0 M β F I w) (x:Option Addr×Nat):(β++[x])[M.length]?=some x:=by rw [← R.len];simp
def AV.one:AV→Bool
 | .d (.v x)=>dU x
 | .d .jk=>false
 | .d (.ag _)=>false
 | .d (.tu _)=>false
 | .ag _=>false
 | .tu _=>false
 | _=>true
theorem AV.yo {K:World→Prop} {c:AV} {y:Value} (h:au K β c y) (ho:c.one=true):dU y=true:=by
 cases h with
 | d h=>
  rename_i x
  cases x with
  | v x=>cases h;exact ho
  | jk=>simp [AV.one] at ho
  | ro k rows=>obtain ⟨a,n,c,rfl⟩:=h.slice (by simp);rfl
  | em T k rows=>obtain ⟨a,n,c,rfl⟩:=h.slice (by simp);rfl
  | ag l=>simp [AV.one] at ho
  | tu l=>simp [AV.one] at ho
  | pb T l=>cases h
 | sl=>rfl
 | sb=>rfl
 | sf=>rfl
 | mv=>rfl
 | yl=>rfl
 | pt=>rfl
 | ep=>rfl
 | rp=>rfl
 | uk hu=>exact hu
 | bt h hn=>obtain ⟨a,n,c,rfl⟩:=h.slice (by simp);rfl
 | fn=>rfl
 | fm=>rfl
 | ag=>simp [AV.one] at ho
 | tu=>simp [AV.one] at ho
theorem Ur {y:Value} (h:dU y=true):y.cells=#[y]:=by cases y<;>first | rfl | simp [dU] at h
def nz:AV→Option (List AV)
 | .ag l=>bif l.all AV.one then some l else none
 | c=>bif c.one then some [c] else none
theorem qV {K:World→Prop} {v:AV} {y:Value} {l:List AV} (h:nz v=some l) (r:au K β v y):∃ ys:List Value,y.cells=ys.toArray∧ys.length=l.length∧(∀ (j:Nat) c z,l[j]?=some c→ys[j]?=some z→au K β c z)∧∀ q ∈ ys,dU q=true:=by
 have single:∀ c:AV,(bif c.one then some [c] else none)=some l→au K β c y→∃ ys:List Value,y.cells=ys.toArray∧ys.length=l.length∧(∀ (j:Nat) c z,l[j]?=some c→ys[j]?=some z→au K β c z)∧∀ q ∈ ys,dU q=true:=by
  intro c hc rc
  cases ho:c.one with
  | false=>simp [ho] at hc
  | true=>
   simp only [ho,cond_true,Option.some.injEq] at hc;subst hc
   have h1:=AV.yo rc ho
   refine ⟨[y],Ur h1,rfl,?_,by simpa using h1⟩
   intro j c' z h2 h3
   cases j with
   | zero=>simp at h2 h3;subst h2 h3;exact rc
   | succ j=>simp at h2
 cases v with
 | ag l'=>
  simp only [nz] at h
  cases ho:l'.all AV.one with
  | false=>simp [ho] at h
  | true=>
   simp only [ho,cond_true,Option.some.injEq] at h;subst h
   cases r with
   | ag ys hl hr=>
    refine ⟨ys,rfl,hl,hr,?_⟩
    intro q hq
    obtain ⟨j,hj,rfl⟩:=List.getElem_of_mem hq
    have dN:j<l'.length:=by omega
    exact AV.yo (hr j _ _ (List.getElem?_eq_getElem dN) (List.getElem?_eq_getElem hj)) (List.all_eq_true.1 ho _ (List.getElem_mem dN))
 | _=>(refine single _ ?_ r;exact h)
def zn (E:List (Nat×AV)) (M:List ae) (t:TypeId) (x:Operand):Option Out:=
 match aB E x with
 | some v=>(match nz v with | some l=>some ⟨[],.pt M.length 0,M++[.bx t l],[],[],none⟩ | none=>none)
 | none=>none
theorem JM {t:TypeId} {x:Operand} (h:zn E M t x=some out):aA P ⟨d,.box t x,ty,pos,aft,gd⟩ E M out:=by
 unfold zn at h
 split at h
 ·rename_i v hv
  split at h
  ·rename_i l hl
   simp only [Option.some.injEq] at h;subst h
   intro D w0 K0 β F I ρ w C _
   obtain ⟨y,hy,r⟩:=C.aJ hv
   obtain ⟨ys,h1,h2,h3,h4⟩:=qV hl r
   refine Yo hy fun b w' g n=>?_
   rw [h1] at n
   exact ⟨_,_,I,C.rm.new (q:=(some ⟨b,0,none⟩,0)) g n (.bx (cu C.rm _) ys h2 fun j c z e1 e2=>(h3 j c z e1 e2).mono (fun _ h=>h) (Ext.app _ _)),(Ext.app _ _).b _,aV.refl _,fW _ _,.pt (cu C.rm _)⟩
  ·simp at h
 ·simp at h
def fJ (l:List Value):List AV:=l.map fun x=>.d (.v x)
theorem iS {K:World→Prop} (l:List Value):l.length=(fJ l).length∧∀ (j:Nat) c z,(fJ l)[j]?=some c→l[j]?=some z→au K β c z:=by
 refine ⟨by simp [fJ],?_⟩
 intro j c z h1 h2
 simp only [fJ,List.getElem?_map,h2,Option.map_some,Option.some.injEq] at h1
 subst h1;exact .d (.v _)
def yp (T:aC) (M:List ae) (t:TypeId):Option Out:=
 match pL T t with
 | some l=>some ⟨[],.pt M.length 0,M++[.bx t (fJ l)],[],[],none⟩
 | none=>none
theorem H9 (hT:aI P T=true) {t:TypeId} (h:yp T M t=some out):aA P ⟨d,.alloc t,ty,pos,aft,gd⟩ E M out:=by
 unfold yp at h
 split at h
 ·rename_i l hz
  simp only [Option.some.injEq] at h;subst h
  obtain ⟨z,qp,kX⟩:=wM hT hz
  intro D w0 K0 β F I ρ w C _
  refine Iv (kX w) fun b w' g n=>?_
  rw [qp] at n
  obtain ⟨h1,h2⟩:=iS (K:=fun w=>K0 w∧aj w I) (β:=β++[(some ⟨b,0,none⟩,0)]) l
  exact ⟨_,_,I,C.rm.new (q:=(some ⟨b,0,none⟩,0)) g n (.bx (cu C.rm _) l h1 h2),(Ext.app _ _).b _,aV.refl _,fW _ _,.pt (cu C.rm _)⟩
 ·simp at h
theorem RM.set (R:RM D w0 K0 M β F I w) {u b:Nat} {o o':Obj} {G:ai} {blk blk':ae} (hu:M[u]?=some blk) (hF:F u=(b,o)::G) (hb:bf (fun w=>K0 w∧aj w I) β u blk' ((b,o')::G)):
  RM D w0 K0 (M.set u blk') β (aF F u ((b,o')::G)) I (bk w b o') where
 len:=by rw [List.length_set];exact R.len
 blk:=by
  intro v bl hv
  rw [List.getElem?_set] at hv
  by_cases e:u=v
  ·subst e
   obtain ⟨aG,-⟩:=List.getElem?_eq_some_iff.1 hu
   simp only [aG,if_pos,Option.some.injEq] at hv;subst hv
   simpa [aF] using hb
  ·rw [if_neg e] at hv
   have:aF F u ((b,o')::G) v=F v:=by simp only [aF];rw [if_neg (fun h=>e h.symm)]
   rw [this];exact R.blk v bl hv
 st:=by
  obtain ⟨aG,-⟩:=List.getElem?_eq_some_iff.1 hu
  have split:∀ (f:Nat→ai),(List.range M.length).flatMap f++I=(List.range u).flatMap f++(f u++((List.range' (u+1) (M.length-(u+1))).flatMap f++I)):=by
   intro f
   have hr:List.range M.length=List.range u++u::List.range' (u+1) (M.length-(u+1)):=by
    rw [List.range_eq_range',List.range_eq_range']
    have h1:M.length=u+(1+(M.length-(u+1))):=by omega
    conv=>lhs;rw [h1]
    rw [← List.range'_append_1,← List.range'_append_1]
    simp
   rw [hr];simp [List.flatMap_append]
  have other:∀ v,v≠u→aF F u ((b,o')::G) v=F v:=fun v h=>by simp [aF,h]
  have c1:(List.range u).flatMap (aF F u ((b,o')::G))=(List.range u).flatMap F:=by
   rw [List.flatMap_def,List.flatMap_def];congr 1;apply List.map_congr_left;intro a ha;have:=List.mem_range.1 ha;exact other a (by omega)
  have c2:(List.range' (u+1) (M.length-(u+1))).flatMap (aF F u ((b,o')::G))=(List.range' (u+1) (M.length-(u+1))).flatMap F:=by
   rw [List.flatMap_def,List.flatMap_def];congr 1;apply List.map_congr_left;intro a ha;have:=(List.mem_range'_1.1 ha).1;exact other a (by omega)
  have hs:=R.st
  rw [split,hF] at hs
  have oO:St D w0 w ((b,o)::(G++((List.range u).flatMap F++((List.range' (u+1) (M.length-(u+1))).flatMap F++I)))):=hs.perm (by classical rw [List.perm_iff_count];intro x;simp only [List.count_append,List.count_cons]<;>omega)
  rw [List.length_set,split,c1,c2]
  have cS:aF F u ((b,o')::G) u=(b,o')::G:=by simp [aF]
  rw [cS]
  exact (oO.set o').perm (by classical rw [List.perm_iff_count];intro x;simp only [List.count_append,List.count_cons]<;>omega)
def xh (T:aC) (E:List (Nat×AV)) (M:List ae) (t:TypeId) (x y:Operand):Option Out:=
 match aB E x,aB E y,dw T t with
 | some (.pt u o),some v,some n=>(match nz v,M[u]? with
  | some l,some (.bx T cells)=>bif l.length.beq n&&(o+n).ble cells.length then some ⟨[],.d .jk,M.set u (.bx T (cells.take o++(l++cells.drop (o+n)))),[u],[],none⟩ else none
  | _,_=>none)
 | _,_,_=>none
theorem HG (hT:aI P T=true) {t:TypeId} {x y:Operand} (h:xh T E M t x y=some out):aA P ⟨d,.store t x y,ty,pos,aft,gd⟩ E M out:=by
 unfold xh at h
 split at h
 ·rename_i u o v n hx hy hn
  split at h
  ·rename_i l Tt cells hl hM
   cases hc:(l.length.beq n&&(o+n).ble cells.length) with
   | false=>simp [hc] at h
   | true=>
    simp only [hc,cond_true,Option.some.injEq] at h;subst h
    simp only [Bool.and_eq_true] at hc
    have mP:=Nat.eq_of_beq_eq_true hc.1
    have hle:=Nat.le_of_ble_eq_true hc.2
    intro D w0 K0 β F I ρ w C _
    obtain ⟨yx,cT,rx⟩:=C.aJ hx
    obtain ⟨yy,eP,ry⟩:=C.aJ hy
    obtain ⟨zs,h1,h2,h3,h4⟩:=qV hl ry
    cases rx with
    | pt hb=>
     obtain ⟨H,hF,hB,hH⟩:=C.rm.at hM
     cases hB with
     | bx aD ys oP hr=>
      rw [hb] at aD;cases aD
      have hw:=hH.one
      have qq:=dR hT hn
      refine xg n qq cT eP hw (by rw [h1];simp;omega) (by simp;omega) (by rw [h1];simpa using h4) ?_
      rw [h1]
      refine ⟨β,_,I,C.rm.set hM hF (o':=.cells (bV ys.toArray o zs) Tt (0,0)) (?_:bf _ β u (.bx Tt (cells.take o++(l++cells.drop (o+n)))) _),(Ext.refl β).b _,aV.refl _,fun v hv hn=>by simp only [aF];rw [if_neg (by simpa using hn)],.d (.jk _)⟩
      have he:(bV ys.toArray o zs)=(bV ys.toArray o zs).toList.toArray:=by simp
      rw [he]
      refine .bx hb _ (by rw [Array.length_toList,hU];simp;omega) ?_
      intro j c z e1 e2
      rw [Array.getElem?_toList,qU _ _ _ _ (by simp;omega)] at e2
      by_cases hj:o≤j∧j<o+zs.length
      ·rw [if_pos hj] at e2
       rw [List.getElem?_append_right (by simp;omega),List.getElem?_append_left (by simp;omega)] at e1
       refine h3 (j-o) c z ?_ e2
       rw [← e1];congr 1;simp;omega
      ·rw [if_neg hj] at e2
       rw [List.getElem?_toArray] at e2
       refine hr j c z ?_ e2
       rcases Nat.lt_or_ge j o with oQ | oQ
       ·rw [List.getElem?_append_left (by simp;omega),List.getElem?_take,if_pos oQ] at e1;exact e1
       ·rw [List.getElem?_append_right (by simp;omega),List.getElem?_append_right (by simp;omega),List.getElem?_drop] at e1
        rw [← e1];congr 1;simp;omega
  ·simp at h
 ·simp at h
end Go.Proofs.YtkheephfkbpchaaGreatDoor
namespace Go.Proofs.YtkheephfkbpchaaGreatDoor
open Go.RowKit
variable {P:Program} {T:aC} {D:List Nat} {w0:World} {K0:World→Prop} {E:List (Nat×AV)} {M:List ae} {β:Beta} {F:Nat→ai} {I:ai} {ρ:Operand→Value} {w:World}
variable {d:Option Tmp} {ty:TypeId} {pos:String} {aft:Array Edge} {gd:Option (Nat×Bool)} {oc:Option aS} {out:Out}
def zo (E:List (Nat×AV)) (M:List ae) (oc:Option aS) (x:Operand):Option Out:=match jG (aB E x) with | some c=>some (kF oc (!c) M) | none=>none
theorem JN {x:Operand} {t:TypeId} (h:zo E M oc x=some out):aA P ⟨d,.unOp .not t x,ty,pos,aft,gd⟩ E M out:=by
 unfold zo at h
 split at h
 ·rename_i c hc
  simp only [Option.some.injEq] at h;subst h
  exact pD (.of fun _=>⟨_,rfl⟩) fun C w Φ aE=>ZC (C.bool hc) rfl aE
 ·simp at h
def zp (E:List (Nat×AV)) (M:List ae) (oc:Option aS) (x:Operand):Option Out:=match bN (aB E x) with | some (k,a)=>some (kG oc [] k (k.wrap ((BitVec.ofInt k.bits (if k.signed then -1 else k.max) ^^^ BitVec.ofInt k.bits a).toNat:Int)) M) | none=>none
theorem JO {x:Operand} {t:TypeId} (h:zp E M oc x=some out):aA P ⟨d,.unOp .xor t x,ty,pos,aft,gd⟩ E M out:=by
 unfold zp at h
 split at h
 ·rename_i k a hc
  simp only [Option.some.injEq] at h;subst h
  exact nq (.of fun _=>⟨_,rfl⟩) fun C _ w Φ aE=>ZH (C.int hc) rfl aE
 ·simp at h
def yU (E:List (Nat×AV)) (M:List ae) (oc:Option aS) (c x y:Operand):Option Out:=
 match jG (aB E c),oc with
 | some c0,some (.b b)=>(match aB E (bif b then x else y) with | some v=>some (lk [c0=b] v M) | none=>none)
 | some true,_=>(match aB E x with | some v=>some (lk [] v M) | none=>none)
 | some false,_=>(match aB E y with | some v=>some (lk [] v M) | none=>none)
 | none,_=>none
theorem wR {c x y:Operand}:qo P ⟨d,.pick c x y,ty,pos,aft,gd⟩:=by
 intro ρ w
 simp only [execOp]
 cases hc:ρ c<;>first | exact Or.inl ⟨_,_,rfl⟩ | exact Or.inr ⟨_,_,rfl⟩
theorem Ix {c x y:Operand} (h:yU E M oc c x y=some out):aA P ⟨d,.pick c x y,ty,pos,aft,gd⟩ E M out:=by
 unfold yU at h
 split at h
 ·rename_i c0 b hc
  split at h
  ·rename_i v hv
   simp only [Option.some.injEq] at h;subst h
   refine kB wR fun C bP=>?_
   obtain ⟨rfl,-⟩:=bP
   cases c0 with
   | true=>exact ⟨_,C.ev hv,fun w Φ aE=>JJ (C.bool hc) rfl aE⟩
   | false=>exact ⟨_,C.ev hv,fun w Φ aE=>JK (C.bool hc) rfl aE⟩
  ·simp at h
 ·rename_i hc _
  split at h
  ·rename_i v hv
   simp only [Option.some.injEq] at h;subst h
   exact kB wR fun C _=>⟨_,C.ev hv,fun w Φ aE=>JJ (C.bool hc) rfl aE⟩
  ·simp at h
 ·rename_i hc _
  split at h
  ·rename_i v hv
   simp only [Option.some.injEq] at h;subst h
   exact kB wR fun C _=>⟨_,C.ev hv,fun w Φ aE=>JK (C.bool hc) rfl aE⟩
  ·simp at h
 ·simp at h
def El:Option AV→Option Nat
 | some (.d (.ro _ rows))=>some rows.length
 | some (.d (.v (.slice _ n _)))=>some n
 | some (.sl _ n)=>some n
 | some (.sb _ _ _ n)=>some n
 | _=>none
theorem Ctx.len (C:Ctx D w0 K0 E M β F I ρ w) {x:Operand} {n:Nat} (h:El (aB E x)=some n):∃ a c,ρ x=.slice a n c:=by
 unfold El at h
 split at h
 ·rename_i k rows hv
  simp only [Option.some.injEq] at h;subst h
  obtain ⟨y,hy,r⟩:=C.aJ hv
  cases r with | d r=>cases r with | ro X hl gJ hs hr=>obtain ⟨a,c,rfl,-⟩:=gJ;exact ⟨a,c,hy⟩
 ·rename_i a n' c hv
  simp only [Option.some.injEq] at h;subst h
  obtain ⟨y,hy,r⟩:=C.aJ hv
  cases r with | d r=>cases r;exact ⟨_,_,hy⟩
 ·rename_i u n' hv
  simp only [Option.some.injEq] at h;subst h
  obtain ⟨y,hy,r⟩:=C.aJ hv
  cases r;exact ⟨_,_,hy⟩
 ·rename_i n' hv
  simp only [Option.some.injEq] at h;subst h
  obtain ⟨y,hy,r⟩:=C.aJ hv
  cases r;exact ⟨_,_,hy⟩
 ·simp at h
def zq (T:aC) (E:List (Nat×AV)) (M:List ae) (oc:Option aS) (t:TypeId) (x:Operand):Option Out:=
 match bB T t with
 | some (.sl _)=>(match El (aB E x) with | some n=>some (kG oc [] .i64 n M) | none=>none)
 | some .st=>(match ga (aB E x) with | some l=>some (kG oc [] .i64 l.length M) | none=>none)
 | _=>none
theorem JP (hT:aI P T=true) {x:Operand} {t:TypeId} (h:zq T E M oc t x=some out):aA P ⟨d,.call ⟨.builtin .len,#[x],#[t]⟩,ty,pos,aft,gd⟩ E M out:=by
 unfold zq at h
 split at h
 ·rename_i e ht
  replace ht:=a7 hT ht
  split at h
  ·rename_i n hn
   simp only [Option.some.injEq] at h;subst h
   refine nq (.of fun _=>⟨_,rfl⟩) fun C _ w Φ aE=>?_
   obtain ⟨a,c,hx⟩:=C.len hn
   exact Yq ht hx aE
  ·simp at h
 ·rename_i ht
  replace ht:=a7 hT ht
  split at h
  ·rename_i l hl
   simp only [Option.some.injEq] at h;subst h
   exact nq (.of fun _=>⟨_,rfl⟩) fun C _ w Φ aE=>Vr ht (C.str hl) aE
  ·simp at h
 ·simp at h
def yV (E:List (Nat×AV)) (M:List ae) (oc:Option aS) (op:BinOp) (x y:Operand):Option Out:=
 match ga (aB E x),ga (aB E y) with
 | some a,some b=>(match op with | .eql=>some (kF oc (a==b) M) | .neq=>some (kF oc (a != b) M) | _=>none)
 | _,_=>none
theorem Iy {op:BinOp} {x y:Operand} {t t':TypeId} (h:yV E M oc op x y=some out):aA P ⟨d,.binOp op t x y t',ty,pos,aft,gd⟩ E M out:=by
 unfold yV at h
 split at h
 ·rename_i a b ha hb
  split at h<;>simp only [Option.some.injEq,reduceCtorEq] at h<;>subst h
  ·exact pD (.of fun _=>⟨_,rfl⟩) fun C w Φ aE=>Vp (C.str ha) (C.str hb) rfl aE
  ·exact pD (.of fun _=>⟨_,rfl⟩) fun C w Φ aE=>Vq (C.str ha) (C.str hb) rfl aE
 ·simp at h
def yq (T:aC) (E:List (Nat×AV)) (M:List ae) (oc:Option aS) (t t':TypeId) (x:Operand):Option Out:=
 match bB T t,bB T t',bN (aB E x) with
 | some _,some (.it k),some (_,a)=>some (kG oc [] k (k.wrap a) M)
 | _,_,_=>none
theorem Ia (hT:aI P T=true) {x:Operand} {t t':TypeId} (h:yq T E M oc t t' x=some out):aA P ⟨d,.convert t t' x,ty,pos,aft,gd⟩ E M out:=by
 unfold yq at h
 split at h
 ·rename_i u k k' a hu hk ha
  replace hk:=a7 hT hk
  simp only [Option.some.injEq] at h;subst h
  exact nq (.of fun _=>⟨_,rfl⟩) fun C _ w Φ aE=>Uq (Vn hT hu) hk (C.int ha) rfl aE
 ·simp at h
def Sh:Builtin→Int→Int→Option Int
 | .min,a,b=>some (min a b)
 | .max,a,b=>some (max a b)
 | _,_,_=>none
def Aj (E:List (Nat×AV)) (M:List ae) (oc:Option aS) (bi:Builtin) (x y:Operand):Option Out:=
 match bN (aB E x),bN (aB E y) with
 | some (k,a),some (k',b)=>bif decide (k=k') then (match Sh bi a b with | some z=>some (kG oc [] k z M) | none=>none) else none
 | _,_=>none
theorem Lg {bi:Builtin} {x y:Operand} {t t':TypeId} (h:Aj E M oc bi x y=some out):aA P ⟨d,.call ⟨.builtin bi,#[x,y],#[t,t']⟩,ty,pos,aft,gd⟩ E M out:=by
 unfold Aj at h
 split at h
 ·rename_i k a k' b hx hy
  cases hk:decide (k=k') with
  | false=>simp [hk] at h
  | true=>
   simp only [hk,cond_true] at h
   obtain rfl:=of_decide_eq_true hk
   split at h
   ·rename_i z hz
    simp only [Option.some.injEq] at h;subst h
    cases bi<;>simp only [Sh,Option.some.injEq,reduceCtorEq] at hz
    ·exact nq (.of fun _=>⟨_,rfl⟩) fun C _ w Φ aE=>ZB (C.int hx) (C.int hy) hz aE
    ·exact nq (.of fun _=>⟨_,rfl⟩) fun C _ w Φ aE=>ZA (C.int hx) (C.int hy) hz aE
   ·simp at h
 ·simp at h
end Go.Proofs.YtkheephfkbpchaaGreatDoor
namespace Go.Proofs.YtkheephfkbpchaaGreatDoor
open Go.RowKit
variable {P:Program} {T:aC} {D:List Nat} {w0:World} {K0:World→Prop} {E:List (Nat×AV)} {M:List ae} {β:Beta} {F:Nat→ai} {I:ai} {ρ:Operand→Value} {w:World}
variable {d:Option Tmp} {ty:TypeId} {pos:String} {aft:Array Edge} {gd:Option (Nat×Bool)} {oc:Option aS} {out:Out}
def jN (E:List (Nat×AV)):List Operand→Option (List AV)
 | []=>some []
 | x::r=>match aB E x,jN E r with | some v,some l=>some (v::l) | _,_=>none
theorem Ctx.l3 (C:Ctx D w0 K0 E M β F I ρ w):∀ {xs:List Operand} {l:List AV},jN E xs=some l→(xs.map ρ).length=l.length∧∀ (j:Nat) c y,l[j]?=some c→(xs.map ρ)[j]?=some y→au (fun w=>K0 w∧aj w I) β c y
 | [],l,h=>by simp only [jN,Option.some.injEq] at h;subst h;simp
 | x::r,l,h=>by
  unfold jN at h
  split at h
  ·rename_i v l' hv hl
   simp only [Option.some.injEq] at h;subst h
   obtain ⟨h1,h2⟩:=Ctx.l3 C hl
   refine ⟨by simpa using h1,?_⟩
   intro j c y hc hy
   cases j with
   | zero=>simp at hc hy;subst hc hy;exact C.ev hv
   | succ j=>simp at hc hy;exact h2 j c y hc (by simpa using hy)
  ·simp at h
def yW (E:List (Nat×AV)) (M:List ae) (fn:Fn) (first bQ:Array Operand):Option Out:=
 match fn,first with
 | .func f,⟨[]⟩=>(match jN E bQ.toList with | some l=>some (lk [] (.fn f l) M) | none=>none)
 | _,_=>none
theorem Iz {fn:Fn} {first bQ:Array Operand} (h:yW E M fn first bQ=some out):aA P ⟨d,.makeFunc fn first bQ,ty,pos,aft,gd⟩ E M out:=by
 unfold yW at h
 split at h
 ·rename_i f
  split at h
  ·rename_i l hl
   simp only [Option.some.injEq] at h;subst h
   refine aA.same ?_
   intro D w0 K0 β F I ρ w C _
   obtain ⟨h1,h2⟩:=C.l3 hl
   have hm:(bQ.toList.map ρ).toArray=bQ.map ρ:=by rw [← Array.toList_map]
   refine ⟨_,fun w' _=>?_,au.fn _ h1 h2⟩
   simp [execOp,Instr.makeFunc,hm]
  ·simp at h
 ·simp at h
structure bq (D:List Nat) (w0:World) (K0:World→Prop) (M:List ae) (β:Beta) (F:Nat→ai) (I X:ai) (w:World):Prop where
 len:β.length=M.length
 blk:∀ (u:Nat) blk,M[u]?=some blk→bf (fun w=>K0 w∧aj w I) β u blk (F u)
 st:St D w0 w ((List.range M.length).flatMap F++(I++X))
theorem bq.nil {X:ai} (R:bq D w0 K0 M β F I X w) (h:X=[]):RM D w0 K0 M β F I w:=⟨R.len,R.blk,by have:=R.st;rw [h,List.append_nil] at this;exact this⟩
theorem RM.x (R:RM D w0 K0 M β F I w):bq D w0 K0 M β F I [] w:=⟨R.len,R.blk,by rw [List.append_nil];exact R.st⟩
theorem bq.perm {X Y:ai} (R:bq D w0 K0 M β F I X w) (p:X.Perm Y):bq D w0 K0 M β F I Y w:=⟨R.len,R.blk,R.st.perm (List.Perm.append_left _ (List.Perm.append_left _ p))⟩
theorem bq.drop {X Y:ai} (R:bq D w0 K0 M β F I (X++Y) w):bq D w0 K0 M β F I X w:=⟨R.len,R.blk,by have:=R.st;rw [← List.append_assoc,← List.append_assoc] at this;have:=this.tN;rw [List.append_assoc] at this;exact this⟩
theorem bq.take {X Y:ai} (R:bq D w0 K0 M β F I (X++Y) w) {q:Option Addr×Nat} {blk:ae} (hb:bf (fun w=>K0 w∧aj w I) (β++[q]) M.length blk X):
  bq D w0 K0 (M++[blk]) (β++[q]) (aF F M.length X) I Y w where
 len:=by simp [R.len]
 blk:=by
  intro u bl hu
  rcases Nat.lt_or_ge u M.length with h | h
  ·rw [List.getElem?_append_left h] at hu
   have:aF F M.length X u=F u:=by simp [aF];omega
   rw [this];exact (R.blk u bl hu).mono (fun _ h=>h) (Ext.app _ _)
  ·rw [List.getElem?_append_right h] at hu
   have h0:u-M.length=0:=by
    rcases Nat.eq_zero_or_pos (u-M.length) with h0 | h0
    ·exact h0
    ·rw [List.getElem?_eq_none (by simp;omega)] at hu;simp at hu
   obtain rfl:u=M.length:=by omega
   simp at hu;subst hu
   simpa [aF] using hb
 st:=by
  rw [List.length_append,List.length_singleton,Bb]
  exact R.st.perm (by classical rw [List.perm_iff_count];intro x;simp only [List.count_append];omega)
inductive fu (K:World→Prop):List DV→List Value→ai→Prop where
 | nil:fu K [] [] []
 | cons {c:DV} {y:Value} {l:List DV} {ys:List Value} {H G:ai} (h:bj K c y H) (r:fu K l ys G):fu K (c::l) (y::ys) (H++G)
theorem wy {n:Nat} (F:Nat→ai):(List.range (n+1)).flatMap F=F 0++(List.range n).flatMap fun i=>F (i+1):=by
 rw [List.range_succ_eq_map,List.flatMap_cons,List.flatMap_map]
theorem fu.of {K:World→Prop}:∀ {l:List DV} {ys:List Value} {F:Nat→ai},ys.length=l.length→(∀ (j:Nat) c y,l[j]?=some c→ys[j]?=some y→bj K c y (F j))→fu K l ys ((List.range l.length).flatMap F)
 | [],ys,F,hl,_=>by have:ys=[]:=List.eq_nil_of_length_eq_zero hl;subst this;exact .nil
 | c::l,[],F,hl,_=>by simp at hl
 | c::l,y::ys,F,hl,hr=>by
  rw [List.length_cons,wy]
  exact .cons (hr 0 c y rfl rfl) (fu.of (by simpa using hl) fun j c' y' h1 h2=>hr (j+1) c' y' (by simpa using h1) (by simpa using h2))
theorem fu.len {K:World→Prop} {l:List DV} {ys:List Value} {H:ai} (h:fu K l ys H):ys.length=l.length:=by
 induction h with
 | nil=>rfl
 | cons h r ih=>simp [ih]
def pZ (M:List ae):DV→AV×List ae
 | .em T k rows=>(.sl M.length rows.length,M++[.rw T k rows])
 | x=>(.d x,M)
def je (M:List ae):List DV→List AV×List ae
 | []=>([],M)
 | c::r=>((pZ M c).1::(je (pZ M c).2 r).1,(je (pZ M c).2 r).2)
def nE:DV→Bool
 | .pb _ _=>false
 | .ag _=>false
 | .tu _=>false
 | _=>true
def p5 (M:List ae):DV→AV×List ae
 | .ag l=>bif l.all nE then (.ag (je M l).1,(je M l).2) else (.d .jk,M)
 | x=>pZ M x
def iY (M:List ae):List DV→List AV×List ae
 | []=>([],M)
 | c::r=>((p5 M c).1::(iY (p5 M c).2 r).1,(iY (p5 M c).2 r).2)
def oR (M:List ae):DV→AV×List ae
 | .tu l=>(.tu (iY M l).1,(iY M l).2)
 | x=>p5 M x
def Cz (D:List Nat) (w0:World) (K0:World→Prop) (M:List ae) (β:Beta) (F:Nat→ai) (I:ai) (w:World) (av:AV) (M':List ae) (y:Value) (Y:ai):Prop:=
 ∃ β' F',bq D w0 K0 M' β' F' I Y w∧Ext β β'∧(∀ u,u<M.length→F' u=F u)∧M.length≤M'.length∧au (fun w=>K0 w∧aj w I) β' av y
theorem tX {x:DV} (hx:nE x=true) {y:Value} {H Y:ai} (R:bq D w0 K0 M β F I (H++Y) w) (h:bj (fun w=>K0 w∧aj w I) x y H):Cz D w0 K0 M β F I w (pZ M x).1 (pZ M x).2 y Y:=by
 cases h with
 | v x=>exact ⟨β,F,R,Ext.refl _,fun _ _=>rfl,Nat.le_refl _,.d (.v _)⟩
 | jk x=>exact ⟨β,F,R,Ext.refl _,fun _ _=>rfl,Nat.le_refl _,.d (.jk _)⟩
 | ro X hl hy hs hr=>exact ⟨β,F,R,Ext.refl _,fun _ _=>rfl,Nat.le_refl _,.d (.ro X hl hy hs hr)⟩
 | pb ys F hl hr=>simp [nE] at hx
 | ag ys F hl hr=>simp [nE] at hx
 | tu ys F hl hr=>simp [nE] at hx
 | em X G hl hs hr=>
  obtain ⟨a,c,rfl⟩:=hs.len
  have di:(β++[(a,c)])[M.length]?=some (a,c):=by rw [← R.len];simp
  refine ⟨_,_,R.take (.rw di X G hl hs hr),Ext.app _ _,fun u hu=>by simp [aF];omega,by simp [pZ],.sl di⟩
theorem WL:∀ {l:List DV} {M:List ae} {β:Beta} {F:Nat→ai} {ys:List Value} {H Y:ai},l.all nE=true→bq D w0 K0 M β F I (H++Y) w→fu (fun w=>K0 w∧aj w I) l ys H→
  ∃ β' F',bq D w0 K0 (je M l).2 β' F' I Y w∧Ext β β'∧(∀ u,u<M.length→F' u=F u)∧M.length≤(je M l).2.length∧ys.length=(je M l).1.length∧∀ (j:Nat) c y,(je M l).1[j]?=some c→ys[j]?=some y→au (fun w=>K0 w∧aj w I) β' c y:=by
 intro l
 induction l with
 | nil=>
  intro M β F ys H Y _ R h
  cases h
  exact ⟨β,F,R,Ext.refl _,fun _ _=>rfl,Nat.le_refl _,rfl,by simp [je]⟩
 | cons x r ih=>
  intro M β F ys H Y hf R h
  simp only [List.all_cons,Bool.and_eq_true] at hf
  cases h with
  | cons h hr=>
   rw [List.append_assoc] at R
   obtain ⟨lu,F1,R1,e1,f1,l1,a1⟩:=tX hf.1 R h
   obtain ⟨cq,F2,R2,e2,f2,l2,n2,a2⟩:=ih hf.2 R1 hr
   refine ⟨cq,F2,R2,fun u x hx=>e2 u x (e1 u x hx),fun u hu=>(f2 u (by omega)).trans (f1 u hu),by simp only [je];omega,by simp [je,n2],?_⟩
   intro j c y hc hy
   cases j with
   | zero=>simp [je] at hc hy;subst hc hy;exact a1.mono (fun _ h=>h) e2
   | succ j=>simp [je] at hc hy;exact a2 j c y hc hy
def nF:DV→Bool
 | .pb _ _=>false
 | .ag l=>l.all nE
 | .tu _=>false
 | _=>true
theorem q9 {x:DV} (hx:nF x=true) {y:Value} {H Y:ai} (R:bq D w0 K0 M β F I (H++Y) w) (h:bj (fun w=>K0 w∧aj w I) x y H):Cz D w0 K0 M β F I w (p5 M x).1 (p5 M x).2 y Y:=by
 cases x with
 | ag l=>
  cases h with
  | ag ys G hl hr=>
   have kV:l.all nE=true:=hx
   obtain ⟨cq,F2,R2,e2,f2,l2,n2,a2⟩:=WL kV R (fu.of hl hr)
   simp only [p5,kV,cond_true]
   exact ⟨cq,F2,R2,e2,f2,l2,.ag ys n2 a2⟩
 | tu l=>simp [nF] at hx
 | v x=>exact tX rfl R h
 | jk=>exact tX rfl R h
 | ro k rows=>exact tX rfl R h
 | em T k rows=>exact tX rfl R h
 | pb T l=>simp [nF] at hx
theorem Vs:∀ {l:List DV} {M:List ae} {β:Beta} {F:Nat→ai} {ys:List Value} {H Y:ai},l.all nF=true→bq D w0 K0 M β F I (H++Y) w→fu (fun w=>K0 w∧aj w I) l ys H→
  ∃ β' F',bq D w0 K0 (iY M l).2 β' F' I Y w∧Ext β β'∧(∀ u,u<M.length→F' u=F u)∧M.length≤(iY M l).2.length∧ys.length=(iY M l).1.length∧∀ (j:Nat) c y,(iY M l).1[j]?=some c→ys[j]?=some y→au (fun w=>K0 w∧aj w I) β' c y:=by
 intro l
 induction l with
 | nil=>
  intro M β F ys H Y _ R h
  cases h
  exact ⟨β,F,R,Ext.refl _,fun _ _=>rfl,Nat.le_refl _,rfl,by simp [iY]⟩
 | cons x r ih=>
  intro M β F ys H Y hf R h
  simp only [List.all_cons,Bool.and_eq_true] at hf
  cases h with
  | cons h hr=>
   rw [List.append_assoc] at R
   obtain ⟨lu,F1,R1,e1,f1,l1,a1⟩:=q9 hf.1 R h
   obtain ⟨cq,F2,R2,e2,f2,l2,n2,a2⟩:=ih hf.2 R1 hr
   refine ⟨cq,F2,R2,fun u x hx=>e2 u x (e1 u x hx),fun u hu=>(f2 u (by omega)).trans (f1 u hu),by simp only [iY];omega,by simp [iY,n2],?_⟩
   intro j c y hc hy
   cases j with
   | zero=>simp [iY] at hc hy;subst hc hy;exact a1.mono (fun _ h=>h) e2
   | succ j=>simp [iY] at hc hy;exact a2 j c y hc hy
def ml:DV→Bool
 | .tu l=>l.all nF
 | x=>nF x
theorem CA {x:DV} (hx:ml x=true) {y:Value} {H Y:ai} (R:bq D w0 K0 M β F I (H++Y) w) (h:bj (fun w=>K0 w∧aj w I) x y H):Cz D w0 K0 M β F I w (oR M x).1 (oR M x).2 y Y:=by
 cases x with
 | tu l=>
  cases h with
  | tu ys G hl hr=>
   have kV:l.all nF=true:=hx
   obtain ⟨cq,F2,R2,e2,f2,l2,n2,a2⟩:=Vs kV R (fu.of hl hr)
   exact ⟨cq,F2,R2,e2,f2,l2,.tu ys n2 a2⟩
 | ag l=>exact q9 (x:=.ag l) hx R h
 | v x=>exact q9 rfl R h
 | jk=>exact q9 rfl R h
 | ro k rows=>exact q9 rfl R h
 | em T k rows=>exact q9 rfl R h
 | pb T l=>simp [ml,nF] at hx
end Go.Proofs.YtkheephfkbpchaaGreatDoor
namespace Go.Proofs.YtkheephfkbpchaaGreatDoor
open Go.RowKit
def cb (P:Program) (f:FuncId) (args:List AV) (x:DV):Prop:=
 eu P f=true∧∀ (w:World) (K:World→Prop) (ys:List Value),(∀ w',Gr w w'→K w')→ys.length=args.length→(∀ (j:Nat) c y,args[j]?=some c→ys[j]?=some y→au K [] c y)→
  Calls P f ys.toArray w (Ef w fun r H=>∃ Ho Hi,H=Ho++Hi∧bj (fun w=>K w∧aj w Hi) x r Ho)
def Ak (x:DV):Prop:=∀ (K K':World→Prop) (y:Value) (H:ai),bj K x y H→bj K' x y H
mutual
def gb:DV→DV
 | .v x=>.v x
 | .jk=>.jk
 | .ro k rows=>.ro k rows
 | .em _ k rows=>.ro k (mn rows)
 | .ag l=>.ag (rN l)
 | .tu l=>.tu (rN l)
 | .pb _ _=>.jk
def rN:List DV→List DV
 | []=>[]
 | c::r=>gb c::rN r
def mn:List (List DV)→List (List DV)
 | []=>[]
 | l::r=>rN l::mn r
end
theorem Bc (l:List DV):rN l=l.map gb:=by induction l with | nil=>rfl | cons c r ih=>rw [rN,ih];rfl
theorem Ib (l:List (List DV)):mn l=l.map fun r=>r.map gb:=by induction l with | nil=>rfl | cons c r ih=>rw [mn,ih,Bc];rfl
theorem eb.src {T size n:Nat} {v:Value} {xs:List Value} {H:ai} (h:eb T size v n xs H) {w:World} (hw:aj w H):Src w size v n xs:=by
 refine ⟨h.1,?_⟩
 rcases h.2 with ⟨rfl,rfl,a,rfl⟩ | ⟨b,cap,cs,fz,rfl,rfl,ej,b7,hle,ht⟩
 ·exact Or.inl ⟨rfl,a,0,rfl⟩
 ·refine Or.inr ⟨_,cap,rfl,fun j hj=>?_⟩
  rw [add_eq,Nat.zero_add,cell_of hw.one]
  have:(cs.toList.take (n*size))[j]?=some xs[j]:=by rw [ht];simp [hj]
  rw [List.getElem?_take] at this
  split at this
  ·simpa using this
  ·simp at this
theorem eb.Yv {T:TypeId} {size:Nat} {v:Value} {n:Nat} {xs:List Value} {H:ai} (h:eb T size v n xs H):∃ a c,v=.slice a n c∧n≤c:=by
 rcases h.2 with ⟨rfl,_,a,rfl⟩ | ⟨b,cap,cs,fz,rfl,_,_,_,hc,_⟩
 ·exact ⟨a,0,rfl,Nat.le_refl _⟩
 ·exact ⟨_,_,rfl,hc⟩
theorem xi {K K':World→Prop} {c:DV} {x:Value} {H:ai} (h:bj K c x H):(∀ w,K' w→K w∧aj w H)→bj K' (gb c) x []:=by
 have zr:∀ {n:Nat} {G:Nat→ai} {w:World},aj w ((List.range n).flatMap G)→∀ j,j<n→aj w (G j):=by
  intro n G w hw j hj x hx
  exact hw x (List.mem_flatMap.2 ⟨j,List.mem_range.2 hj,hx⟩)
 have yX:∀ n:Nat,(List.range n).flatMap (fun _=>([]:ai))=[]:=by intro n;simp
 induction h with
 | v x=>intro _;rw [gb];exact .v x
 | jk x=>intro _;rw [gb];exact .jk x
 | pb ys F hl hr ih=>intro _;rw [gb];exact .jk _
 | ro X hl hy hs hr ih=>intro hk;rw [gb];exact .ro X hl hy (fun w hw=>hs w (hk w hw).1) fun i r j c x h1 h2 h3=>(hr i r j c x h1 h2 h3).mono fun w hw=>(hk w hw).1
 | em X F hl hs hr ih=>
  intro hk
  rename_i T k rows y H0
  rw [gb,Ib]
  obtain ⟨a,cp,hy,jq⟩:∃ a cp,y=.slice a rows.length cp∧rows.length≤cp:=hs.Yv
  refine .ro X (fun i r hi=>?_) ⟨a,cp,by rw [List.length_map];exact ⟨hy,jq⟩⟩ (fun w hw=>?_) fun i r j c x h1 h2 h3=>?_
  ·rw [List.getElem?_map,Option.map_eq_some_iff] at hi
   obtain ⟨r',h1,rfl⟩:=hi
   rw [List.length_map];exact hl i r' h1
  ·rw [List.length_map];exact hs.src (aj.app.1 (hk w hw).2).1
  ·rw [List.getElem?_map,Option.map_eq_some_iff] at h1
   obtain ⟨r',h1,rfl⟩:=h1
   rw [List.getElem?_map,Option.map_eq_some_iff] at h2
   obtain ⟨c',h2,rfl⟩:=h2
   refine ih i r' j c' x h1 h2 h3 fun w hw=>⟨(hk w hw).1,?_⟩
   have:=(aj.app.1 (hk w hw).2).2
   obtain ⟨hi,-⟩:=List.getElem?_eq_some_iff.1 h1
   obtain ⟨hj,-⟩:=List.getElem?_eq_some_iff.1 h2
   have h4:=zr this i hi
   exact zr h4 j (by have:=(hl i r' h1).1;omega)
 | ag ys F hl hr ih=>
  intro hk
  rename_i l
  rw [gb,Bc]
  have:=bj.ag (K:=K') (l:=l.map gb) ys (fun _=>[]) (by rw [List.length_map];exact hl) (fun j c y h1 h2=>by
   rw [List.getElem?_map,Option.map_eq_some_iff] at h1
   obtain ⟨c',h1,rfl⟩:=h1
   obtain ⟨hj,-⟩:=List.getElem?_eq_some_iff.1 h1
   exact ih j c' y h1 h2 fun w hw=>⟨(hk w hw).1,zr (hk w hw).2 j hj⟩)
  rwa [yX] at this
 | tu ys F hl hr ih=>
  intro hk
  rename_i l
  rw [gb,Bc]
  have:=bj.tu (K:=K') (l:=l.map gb) ys (fun _=>[]) (by rw [List.length_map];exact hl) (fun j c y h1 h2=>by
   rw [List.getElem?_map,Option.map_eq_some_iff] at h1
   obtain ⟨c',h1,rfl⟩:=h1
   obtain ⟨hj,-⟩:=List.getElem?_eq_some_iff.1 h1
   exact ih j c' y h1 h2 fun w hw=>⟨(hk w hw).1,zr (hk w hw).2 j hj⟩)
  rwa [yX] at this
variable {P:Program} {T:aC} {D:List Nat} {w0:World} {K0:World→Prop} {E:List (Nat×AV)} {M:List ae} {β:Beta} {F:Nat→ai} {I:ai} {ρ:Operand→Value} {w:World}
variable {d:Option Tmp} {ty:TypeId} {pos:String} {aft:Array Edge} {gd:Option (Nat×Bool)} {oc:Option aS} {out:Out}
def yY (M:List ae):AV→AV→Option (List Prop×List Nat)
 | .d x,.d x'=>some ([x=x'],[])
 | .sl u n,.d (.ro k' nG)=>(match M[u]? with | some (.rw _ k rows)=>some ([k=k',n=rows.length,mn rows=nG],[u]) | _=>none)
 | .pt u o,.rp row o'=>(match M[u]? with | some (.bx _ cells)=>some ([o=o',cells=row.map .d],[u]) | _=>none)
 | _,_=>none
def nH (M:List ae):List AV→List AV→Option (List Prop×List Nat)
 | [],[]=>some ([],[])
 | c::r,c'::r'=>(match yY M c c',nH M r r' with | some (v,b),some (v',b')=>some (v++v',b++b') | _,_=>none)
 | _,_=>none
def De (M:List ae):AV→AV→Option (List Prop×List Nat)
 | .ag l,.ag l'=>nH M l l'
 | .ag l,.d (.ag l')=>nH M l (l'.map .d)
 | .fn f l,.fn f' l'=>(match nH M l l' with | some (v,b)=>some ((f=f')::v,b) | none=>none)
 | c,c'=>yY M c c'
def pK (M:List ae):List AV→List AV→Option (List Prop×List Nat)
 | [],[]=>some ([],[])
 | c::r,c'::r'=>(match De M c c',pK M r r' with | some (v,b),some (v',b')=>some (v++v',b++b') | _,_=>none)
 | _,_=>none
theorem br.app {a b:List Prop}:br (a++b)↔br a∧br b:=by
 induction a with
 | nil=>simp [br]
 | cons p r ih=>simp only [List.cons_append,br,ih,and_assoc]
theorem IA (R:RM D w0 K0 M β F I w) {K':World→Prop} {c c':AV} {vc:List Prop} {b:List Nat} (h:yY M c c'=some (vc,b)) (hv:br vc) (hK:∀ w,K' w→fZ K0 I F b w) {y:Value} (r:au (fun w=>K0 w∧aj w I) β c y):au K' [] c' y:=by
 unfold yY at h
 split at h
 ·simp only [Option.some.injEq,Prod.mk.injEq] at h;obtain ⟨rfl,rfl⟩:=h
  obtain ⟨rfl,-⟩:=hv
  cases r with | d r=>exact .d (r.mono fun w hw=>(hK w hw).1)
 ·rename_i u n k' nG
  split at h
  ·rename_i Tt k rows hM
   simp only [Option.some.injEq,Prod.mk.injEq] at h;obtain ⟨rfl,rfl⟩:=h
   obtain ⟨rfl,rfl,rfl,-⟩:=hv
   cases r with
   | sl hb=>
    obtain ⟨H,hF,hB,-⟩:=R.at hM
    cases hB with
    | rw aD X G hl hs hr=>
     rw [hb] at aD;cases aD
     have:=xi (K':=K') (bj.em X G hl hs hr) fun w hw=>⟨(hK w hw).1,by have:=(hK w hw).2 u (by simp);rw [hF] at this;exact this⟩
     rw [gb] at this
     exact .d this
  ·simp at h
 ·rename_i u o row o'
  split at h
  ·rename_i Tt cells hM
   simp only [Option.some.injEq,Prod.mk.injEq] at h;obtain ⟨rfl,rfl⟩:=h
   obtain ⟨rfl,rfl,-⟩:=hv
   cases r with
   | pt hb=>
    obtain ⟨H,hF,hB,-⟩:=R.at hM
    cases hB with
    | bx aD ys hl hr=>
     rw [hb] at aD;cases aD
     have ha:∀ (b:Nat),(⟨b,o,none⟩:Addr)=(⟨b,0,none⟩:Addr).add o:=fun b=>by rw [add_eq,Nat.zero_add]
     rw [ha]
     refine .rp _ ys (by rw [hl,List.length_map]) (fun w' cQ j x hj=>?_) fun j c x h1 h2=>?_
     ·have:=(hK w' cQ).2 u (by simp)
      rw [hF] at this
      rw [add_eq,Nat.zero_add,cell_of this.one];simpa using hj
     ·have:=hr j (.d c) x (by rw [List.getElem?_map,h1];rfl) h2
      cases this with | d h=>exact h.mono fun w hw=>(hK w hw).1
  ·simp at h
 ·simp at h
theorem wS (R:RM D w0 K0 M β F I w) {K':World→Prop}:∀ {l l':List AV} {vc:List Prop} {b:List Nat},nH M l l'=some (vc,b)→br vc→(∀ w,K' w→fZ K0 I F b w)→∀ {ys:List Value},ys.length=l.length→(∀ (j:Nat) c y,l[j]?=some c→ys[j]?=some y→au (fun w=>K0 w∧aj w I) β c y)→
  ys.length=l'.length∧∀ (j:Nat) c y,l'[j]?=some c→ys[j]?=some y→au K' [] c y
 | [],[],vc,b,h,_,_,ys,hl,_=>by simp at hl;subst hl;simp
 | [],_::_,_,_,h,_,_,_,_,_=>by simp [nH] at h
 | _::_,[],_,_,h,_,_,_,_,_=>by simp [nH] at h
 | c::r,c'::r',vc,b,h,hv,hK,ys,hl,hr=>by
  unfold nH at h
  split at h
  ·rename_i v b1 v' b' h1 h2
   simp only [Option.some.injEq,Prod.mk.injEq] at h;obtain ⟨rfl,rfl⟩:=h
   rw [br.app] at hv
   cases ys with
   | nil=>simp at hl
   | cons y ys=>
    obtain ⟨e1,e2⟩:=wS R h2 hv.2 (fun w hw=>⟨(hK w hw).1,fun u hu=>(hK w hw).2 u (List.mem_append_right _ hu)⟩) (ys:=ys) (by simpa using hl) (fun j c y h3 h4=>hr (j+1) c y (by simpa using h3) (by simpa using h4))
    refine ⟨by simp [e1],?_⟩
    intro j a z h3 h4
    cases j with
    | zero=>simp at h3 h4;subst h3 h4;exact IA R h1 hv.1 (fun w hw=>⟨(hK w hw).1,fun u hu=>(hK w hw).2 u (List.mem_append_left _ hu)⟩) (hr 0 _ _ rfl rfl)
    | succ j=>simp at h3 h4;exact e2 j a z h3 h4
  ·simp at h
theorem Vt (R:RM D w0 K0 M β F I w) {K':World→Prop} {c c':AV} {vc:List Prop} {b:List Nat} (h:De M c c'=some (vc,b)) (hv:br vc) (hK:∀ w,K' w→fZ K0 I F b w) {y:Value} (r:au (fun w=>K0 w∧aj w I) β c y):au K' [] c' y:=by
 unfold De at h
 split at h
 ·cases r with
  | ag ys hl hr=>
   obtain ⟨e1,e2⟩:=wS R h hv hK hl hr
   exact .ag ys e1 e2
 ·rename_i l l'
  cases r with
  | ag ys hl hr=>
   obtain ⟨e1,e2⟩:=wS R h hv hK hl hr
   have:=bj.ag (K:=K') (l:=l') ys (fun _=>[]) (by rw [e1,List.length_map]) (fun j c y h1 h2=>by
    have:=e2 j (.d c) y (by rw [List.getElem?_map,h1];rfl) h2
    cases this with | d h=>exact h)
   have yX:∀ n:Nat,(List.range n).flatMap (fun _=>([]:ai))=[]:=by intro n;simp
   rw [yX] at this
   exact .d this
 ·rename_i f l f' l'
  split at h
  ·rename_i v b1 h1
   simp only [Option.some.injEq,Prod.mk.injEq] at h;obtain ⟨rfl,rfl⟩:=h
   obtain ⟨rfl,hv⟩:=hv
   cases r with
   | fn ys hl hr=>
    obtain ⟨e1,e2⟩:=wS R h1 hv hK hl hr
    exact .fn ys e1 e2
  ·simp at h
 ·exact IA R h hv hK r
theorem Bd (R:RM D w0 K0 M β F I w) {K':World→Prop}:∀ {l l':List AV} {vc:List Prop} {b:List Nat},pK M l l'=some (vc,b)→br vc→(∀ w,K' w→fZ K0 I F b w)→∀ {ys:List Value},ys.length=l.length→(∀ (j:Nat) c y,l[j]?=some c→ys[j]?=some y→au (fun w=>K0 w∧aj w I) β c y)→
  ys.length=l'.length∧∀ (j:Nat) c y,l'[j]?=some c→ys[j]?=some y→au K' [] c y
 | [],[],vc,b,h,_,_,ys,hl,_=>by simp at hl;subst hl;simp
 | [],_::_,_,_,h,_,_,_,_,_=>by simp [pK] at h
 | _::_,[],_,_,h,_,_,_,_,_=>by simp [pK] at h
 | c::r,c'::r',vc,b,h,hv,hK,ys,hl,hr=>by
  unfold pK at h
  split at h
  ·rename_i v b1 v' b' h1 h2
   simp only [Option.some.injEq,Prod.mk.injEq] at h;obtain ⟨rfl,rfl⟩:=h
   rw [br.app] at hv
   cases ys with
   | nil=>simp at hl
   | cons y ys=>
    obtain ⟨e1,e2⟩:=Bd R h2 hv.2 (fun w hw=>⟨(hK w hw).1,fun u hu=>(hK w hw).2 u (List.mem_append_right _ hu)⟩) (ys:=ys) (by simpa using hl) (fun j c y h3 h4=>hr (j+1) c y (by simpa using h3) (by simpa using h4))
    refine ⟨by simp [e1],?_⟩
    intro j a z h3 h4
    cases j with
    | zero=>simp at h3 h4;subst h3 h4;exact Vt R h1 hv.1 (fun w hw=>⟨(hK w hw).1,fun u hu=>(hK w hw).2 u (List.mem_append_left _ hu)⟩) (hr 0 _ _ rfl rfl)
    | succ j=>simp at h3 h4;exact e2 j a z h3 h4
  ·simp at h
def pN (M:List ae):List Nat→Bool
 | []=>true
 | u::r=>(Nat.ble (u+1) M.length)&&pN M r
theorem Br:∀ {b:List Nat},pN M b=true→∀ u ∈ b,u<M.length
 | [],_,u,hu=>by simp at hu
 | v::r,h,u,hu=>by
  simp only [pN,Bool.and_eq_true] at h
  rcases List.mem_cons.1 hu with e | e
  ·subst e;exact Nat.le_of_ble_eq_true h.1
  ·exact Br h.2 u e
def adf (x:DV):List Nat→List Prop
 | []=>[]
 | _::_=>[Ak x]
def Df (P:Program) (E:List (Nat×AV)) (M:List ae) (oc:Option aS) (g:Operand) (args:Array Operand):Option Out:=
 match aB E g,jN E args.toList,oc with
 | some (.fn f bQ),some l,some (.call told x)=>(match pK M (l++bQ) told with
  | some (vc,b)=>bif ml x&&pN M b then some ⟨cb P f told x::(adf x b++vc),(oR M x).1,(oR M x).2,[],[],none⟩ else none
  | none=>none)
 | _,_,_=>none
theorem cb.now {f:FuncId} {args:List AV} {x:DV} (h:cb P f args x) (R:RM D w0 K0 M β F I w) (hk:∀ w,Kp D w0 w→K0 w) {b:List Nat} (hb:∀ u ∈ b,u<M.length) {ys:List Value} (hl:ys.length=args.length)
  (hr:∀ (j:Nat) c y,args[j]?=some c→ys[j]?=some y→au (fZ K0 I F b) [] c y) (hi:b≠[]→Ak x):
  Calls P f ys.toArray w fun e w'=>∃ v,e=.returned v∧∃ I' X,bq D w0 K0 M β F I' X w'∧aV I I'∧bj (fun w=>K0 w∧aj w I') x v X:=by
 have adg:∀ w',Gr w w'→fZ K0 I F b w':=fun w' g=>⟨⟨hk _ (R.st.kp.gr g),(aj.app.1 (R.st.gr g).holds).2⟩,fun u hu=>(RM.jE ⟨R.len,R.blk,R.st.gr g⟩ (List.getElem?_eq_getElem (hb u hu)))⟩
 refine (h.2 w (fZ K0 I F b) ys adg hl hr).mono ?_
 rintro e w' ⟨v,rfl,g,H,⟨Ho,Hi,rfl,hd⟩,n⟩
 have aQ:=R.st.new g n
 refine ⟨v,rfl,Hi++I,Ho,⟨R.len,fun u bl hu=>(R.blk u bl hu).mono (fun w hw=>⟨hw.1,(aj.app.1 hw.2).2⟩) (Ext.refl _),?_⟩,⟨Hi,rfl⟩,?_⟩
 ·exact aQ.perm (by classical rw [List.perm_iff_count];intro z;simp only [List.count_append];omega)
 ·by_cases Si:b=[]
  ·subst Si
   exact hd.mono fun w hw=>⟨⟨⟨hw.1,(aj.app.1 hw.2).2⟩,by simp⟩,(aj.app.1 hw.2).1⟩
  ·exact hi Si _ _ _ _ hd
theorem Vu {g:Operand} {args:Array Operand} {dW:Array TypeId} (h:Df P E M oc g args=some out):aA P ⟨d,.call ⟨.value g,args,dW⟩,ty,pos,aft,gd⟩ E M out:=by
 unfold Df at h
 split at h
 ·rename_i f bQ l told x hg hl
  split at h
  ·rename_i vc b Dg
   cases eQ:(ml x&&pN M b) with
   | false=>simp [eQ] at h
   | true=>
    simp only [eQ,cond_true,Option.some.injEq] at h;subst h
    simp only [Bool.and_eq_true] at eQ
    have hb:=Br eQ.2
    intro D w0 K0 β F I ρ w C hv
    obtain ⟨e6,hv⟩:=hv
    rw [br.app] at hv
    obtain ⟨Em,hv⟩:=hv
    obtain ⟨y,hy,r⟩:=C.aJ hg
    cases r with
    | fn cs bC gk=>
     obtain ⟨dY,jr⟩:=C.l3 hl
     have dj:(args.toList.map ρ++cs).length=(l++bQ).length:=by rw [List.length_append,List.length_append,dY,bC]
     have p6:∀ (j:Nat) c y,(l++bQ)[j]?=some c→(args.toList.map ρ++cs)[j]?=some y→au (fun w=>K0 w∧aj w I) β c y:=by
      intro j c y h1 h2
      rcases Nat.lt_or_ge j l.length with hj | hj
      ·rw [List.getElem?_append_left hj] at h1
       rw [List.getElem?_append_left (by omega)] at h2
       exact jr j c y h1 h2
      ·rw [List.getElem?_append_right hj] at h1
       rw [List.getElem?_append_right (by omega),dY] at h2
       exact gk _ c y h1 h2
     obtain ⟨e1,e2⟩:=Bd C.rm (K':=fZ K0 I F b) Dg hv (fun _ h=>h) dj p6
     have hm:args.map ρ=(args.toList.map ρ).toArray:=by rw [← Array.toList_map]
     refine tJ hy e6.1 hm ?_
     have kN:((args.toList.map ρ).toArray++cs.toArray:Array Value)=(args.toList.map ρ++cs).toArray:=by simp
     rw [kN]
     refine (e6.now C.rm C.k hb e1 e2 (fun hn=>by cases b with | nil=>exact absurd rfl hn | cons u r=>exact Em.1)).mono ?_
     rintro e w' ⟨v,rfl,I',X,R,hI,hd⟩
     refine ⟨v,rfl,?_⟩
     have R':bq D w0 K0 M β F I' (X++[]) w':=by rw [List.append_nil];exact R
     obtain ⟨β',F',R2,e,f2,-,a2⟩:=CA eQ.1 R' hd
     exact ⟨β',F',I',R2.nil rfl,e.b _,hI,fun u hu _=>f2 u hu,a2⟩
  ·simp at h
 ·simp at h
def sZ:AV→Bool
 | .d _=>true
 | .rp _ _=>true
 | _=>false
def vA:AV→Bool
 | .ag l=>l.all sZ
 | .fn _ l=>l.all sZ
 | c=>sZ c
theorem Lh {K:World→Prop} {c:AV} (h:sZ c=true) {y:Value} (r:au K β c y):au K [] c y:=by
 cases r with
 | d r=>exact .d r
 | rp a X hl hc hr=>exact .rp a X hl hc hr
 | _=>simp [sZ] at h
theorem Yw {K:World→Prop} {c:AV} (h:vA c=true) {y:Value} (r:au K β c y):au K [] c y:=by
 cases r with
 | d r=>exact .d r
 | rp a X hl hc hr=>exact .rp a X hl hc hr
 | ag ys hl hr=>exact .ag ys hl fun j c y h1 h2=>Lh (List.all_eq_true.1 h c (List.mem_of_getElem? h1)) (hr j c y h1 h2)
 | fn ys hl hr=>exact .fn ys hl fun j c y h1 h2=>Lh (List.all_eq_true.1 h c (List.mem_of_getElem? h1)) (hr j c y h1 h2)
 | _=>simp [vA,sZ] at h
def sc (P:Program) (E:List (Nat×AV)) (M:List ae) (oc:Option aS) (g:Operand) (args:Array Operand):Option Out:=
 match aB E g,jN E args.toList,oc with
 | some (.fn f bQ),some l,some (.dX x)=>bif ml x&&(l++bQ).all vA then some ⟨[cb P f (l++bQ) x],(oR M x).1,(oR M x).2,[],[],none⟩ else none
 | _,_,_=>none
theorem JQ {g:Operand} {args:Array Operand} {dW:Array TypeId} (h:sc P E M oc g args=some out):aA P ⟨d,.call ⟨.value g,args,dW⟩,ty,pos,aft,gd⟩ E M out:=by
 unfold sc at h
 split at h
 ·rename_i f bQ l x hg hl
  cases eQ:(ml x&&(l++bQ).all vA) with
  | false=>simp only [eQ,cond_false,reduceCtorEq] at h
  | true=>
   simp only [eQ,cond_true,Option.some.injEq] at h;subst h
   simp only [Bool.and_eq_true] at eQ
   intro D w0 K0 β F I ρ w C hv
   obtain ⟨e6,-⟩:=hv
   obtain ⟨y,hy,r⟩:=C.aJ hg
   cases r with
   | fn cs bC gk=>
    obtain ⟨dY,jr⟩:=C.l3 hl
    have dj:(args.toList.map ρ++cs).length=(l++bQ).length:=by rw [List.length_append,List.length_append,dY,bC]
    have p6:∀ (j:Nat) c y,(l++bQ)[j]?=some c→(args.toList.map ρ++cs)[j]?=some y→au (fun w=>K0 w∧aj w I) β c y:=by
     intro j c y h1 h2
     rcases Nat.lt_or_ge j l.length with hj | hj
     ·rw [List.getElem?_append_left hj] at h1
      rw [List.getElem?_append_left (by omega)] at h2
      exact jr j c y h1 h2
     ·rw [List.getElem?_append_right hj] at h1
      rw [List.getElem?_append_right (by omega),dY] at h2
      exact gk _ c y h1 h2
    have hm:args.map ρ=(args.toList.map ρ).toArray:=by rw [← Array.toList_map]
    refine tJ hy e6.1 hm ?_
    have kN:((args.toList.map ρ).toArray++cs.toArray:Array Value)=(args.toList.map ρ++cs).toArray:=by simp
    rw [kN]
    refine (e6.now C.rm C.k (b:=[]) (by simp) dj (fun j c y h1 h2=>(Yw (List.all_eq_true.1 eQ.2 c (List.mem_of_getElem? h1)) (p6 j c y h1 h2)).mono (fun w hw=>hw.1) (Ext.refl _)) (fun hn=>absurd rfl hn)).mono ?_
    rintro e w' ⟨v,rfl,I',X,R,hI,hd⟩
    refine ⟨v,rfl,?_⟩
    have R':bq D w0 K0 M β F I' (X++[]) w':=by rw [List.append_nil];exact R
    obtain ⟨β',F',R2,e,f2,-,a2⟩:=CA eQ.1 R' hd
    exact ⟨β',F',I',R2.nil rfl,e.b _,hI,fun u hu _=>f2 u hu,a2⟩
 ·simp at h
end Go.Proofs.YtkheephfkbpchaaGreatDoor
namespace Go.Proofs.YtkheephfkbpchaaGreatDoor
open Go.RowKit
variable {P:Program} {T:aC} {w:World} {D:List Nat} {w0:World} {K0:World→Prop} {M:List ae} {β:Beta} {F:Nat→ai} {I X:ai}
theorem range_split {n u:Nat} (h:u<n) (f:Nat→ai):(List.range n).flatMap f=(List.range u).flatMap f++(f u++(List.range' (u+1) (n-(u+1))).flatMap f):=by
 have hr:List.range n=List.range u++u::List.range' (u+1) (n-(u+1)):=by
  rw [List.range_eq_range',List.range_eq_range']
  have h1:n=u+(1+(n-(u+1))):=by omega
  conv=>lhs;rw [h1]
  rw [← List.range'_append_1,← List.range'_append_1]
  simp
 rw [hr];simp [List.flatMap_append]
theorem eG {l:List Nat} {f g:Nat→ai} (h:∀ a ∈ l,f a=g a):l.flatMap f=l.flatMap g:=by
 rw [List.flatMap_def,List.flatMap_def];congr 1;exact List.map_congr_left h
theorem bq.ec (R:bq D w0 K0 M β F I X w) {u:Nat} {blk:ae} (hu:M[u]?=some blk):bq D w0 K0 (M.set u .dead) β (aF F u []) I (X++F u) w where
 len:=by rw [List.length_set];exact R.len
 blk:=by
  intro v bl hv
  rw [List.getElem?_set] at hv
  by_cases e:u=v
  ·subst e
   obtain ⟨aG,-⟩:=List.getElem?_eq_some_iff.1 hu
   simp only [aG,if_pos,Option.some.injEq] at hv;subst hv
   simpa [aF] using bf.dead u
  ·rw [if_neg e] at hv
   have:aF F u [] v=F v:=by simp only [aF];rw [if_neg (fun h=>e h.symm)]
   rw [this];exact R.blk v bl hv
 st:=by
  obtain ⟨aG,-⟩:=List.getElem?_eq_some_iff.1 hu
  have hs:=R.st
  rw [List.length_set,range_split aG]
  rw [range_split aG] at hs
  have c1:(List.range u).flatMap (aF F u [])=(List.range u).flatMap F:=eG fun a ha=>by have:=List.mem_range.1 ha;simp [aF];omega
  have c2:(List.range' (u+1) (M.length-(u+1))).flatMap (aF F u [])=(List.range' (u+1) (M.length-(u+1))).flatMap F:=eG fun a ha=>by have:=(List.mem_range'_1.1 ha).1;simp [aF];omega
  have cS:aF F u [] u=[]:=by simp [aF]
  rw [c1,c2,cS]
  exact hs.perm (by classical rw [List.perm_iff_count];intro z;simp only [List.count_append,List.count_nil];omega)
def rO (M:List ae):AV→Option (List Prop×DV×List ae)
 | .d x=>some ([],x,M)
 | .sl u n=>(match M[u]? with | some (.rw T k rows)=>some ([n=rows.length],.em T k rows,M.set u .dead) | _=>none)
 | _=>none
def kH (M:List ae):List AV→Option (List Prop×List DV×List ae)
 | []=>some ([],[],M)
 | c::r=>(match rO M c with
  | some (v,x,M')=>(match kH M' r with | some (v',l,FU)=>some (v++v',x::l,FU) | none=>none)
  | none=>none)
def Dh (M:List ae):AV→Option (List Prop×DV×List ae)
 | .ag l=>(match kH M l with | some (v,l',M')=>some (v,.ag l',M') | none=>none)
 | c=>rO M c
def mi (M:List ae):List AV→Option (List Prop×List DV×List ae)
 | []=>some ([],[],M)
 | c::r=>(match Dh M c with
  | some (v,x,M')=>(match mi M' r with | some (v',l,FU)=>some (v++v',x::l,FU) | none=>none)
  | none=>none)
def LK (D:List Nat) (w0:World) (K0:World→Prop) (β:Beta) (I X:ai) (w:World) (y:Value) (x:DV) (M':List ae):Prop:=
 ∃ F' H,bq D w0 K0 M' β F' I (X++H) w∧bj (fun w=>K0 w∧aj w I) x y H
theorem IB (R:bq D w0 K0 M β F I X w) {c:AV} {vc:List Prop} {x:DV} {M':List ae} (h:rO M c=some (vc,x,M')) (hv:br vc) {y:Value} (r:au (fun w=>K0 w∧aj w I) β c y):LK D w0 K0 β I X w y x M':=by
 unfold rO at h
 split at h
 ·simp only [Option.some.injEq,Prod.mk.injEq] at h;obtain ⟨rfl,rfl,rfl⟩:=h
  cases r with | d r=>exact ⟨F,[],by rw [List.append_nil];exact R,r⟩
 ·rename_i u n
  split at h
  ·rename_i Tt k rows hM
   simp only [Option.some.injEq,Prod.mk.injEq] at h;obtain ⟨rfl,rfl,rfl⟩:=h
   obtain ⟨rfl,-⟩:=hv
   cases r with
   | sl hb=>
    have R':=R.ec hM
    have hB:=R.blk u _ hM
    refine ⟨_,F u,R',?_⟩
    generalize F u=G0 at hB ⊢
    cases hB with
    | rw aD X G hl hs hr=>rw [hb] at aD;cases aD;exact .em X G hl hs hr
  ·simp at h
 ·simp at h
theorem IC:∀ {l:List AV} {M:List ae} {F:Nat→ai} {X:ai} {vc:List Prop} {xs:List DV} {M':List ae},bq D w0 K0 M β F I X w→kH M l=some (vc,xs,M')→br vc→∀ {ys:List Value},ys.length=l.length→(∀ (j:Nat) c y,l[j]?=some c→ys[j]?=some y→au (fun w=>K0 w∧aj w I) β c y)→
  ∃ F' H,bq D w0 K0 M' β F' I (X++H) w∧fu (fun w=>K0 w∧aj w I) xs ys H
 | [],M,F,X,vc,xs,M',R,h,_,ys,hl,_=>by
  simp only [kH,Option.some.injEq,Prod.mk.injEq] at h;obtain ⟨rfl,rfl,rfl⟩:=h
  have:ys=[]:=List.eq_nil_of_length_eq_zero hl
  subst this
  exact ⟨F,[],by rw [List.append_nil];exact R,.nil⟩
 | c::r,M,F,X,vc,xs,M',R,h,hv,ys,hl,hr=>by
  unfold kH at h
  split at h
  ·rename_i v x M1 h1
   split at h
   ·rename_i v' l' M2 h2
    simp only [Option.some.injEq,Prod.mk.injEq] at h;obtain ⟨rfl,rfl,rfl⟩:=h
    rw [br.app] at hv
    cases ys with
    | nil=>simp at hl
    | cons y ys=>
     obtain ⟨F1,H1,R1,d1⟩:=IB R h1 hv.1 (hr 0 c y rfl rfl)
     obtain ⟨F2,H2,R2,d2⟩:=IC R1 h2 hv.2 (ys:=ys) (by simpa using hl) (fun j c' y' e1 e2=>hr (j+1) c' y' (by simpa using e1) (by simpa using e2))
     exact ⟨F2,H1++H2,by rw [← List.append_assoc];exact R2,.cons d1 d2⟩
   ·simp at h
  ·simp at h
theorem fu.to {K:World→Prop} {l:List DV} {ys:List Value} {H:ai} (h:fu K l ys H):∃ F:Nat→ai,H=(List.range l.length).flatMap F∧∀ (j:Nat) c y,l[j]?=some c→ys[j]?=some y→bj K c y (F j):=by
 induction h with
 | nil=>exact ⟨fun _=>[],by simp,by simp⟩
 | cons h r ih=>
  rename_i c y l ys H G
  obtain ⟨F,hF,hr⟩:=ih
  refine ⟨fun i=>match i with | 0=>H | i+1=>F i,?_,?_⟩
  ·rw [List.length_cons,wy,hF]
  ·intro j c' y' h1 h2
   cases j with
   | zero=>simp at h1 h2;subst h1 h2;exact h
   | succ j=>simp at h1 h2;exact hr j c' y' h1 h2
theorem Vv (R:bq D w0 K0 M β F I X w) {c:AV} {vc:List Prop} {x:DV} {M':List ae} (h:Dh M c=some (vc,x,M')) (hv:br vc) {y:Value} (r:au (fun w=>K0 w∧aj w I) β c y):LK D w0 K0 β I X w y x M':=by
 unfold Dh at h
 split at h
 ·split at h
  ·rename_i v l' M1 h1
   simp only [Option.some.injEq,Prod.mk.injEq] at h;obtain ⟨rfl,rfl,rfl⟩:=h
   cases r with
   | ag ys hl hr=>
    obtain ⟨F1,H1,R1,d1⟩:=IC R h1 hv hl hr
    obtain ⟨G,rfl,hG⟩:=d1.to
    exact ⟨F1,_,R1,.ag ys G d1.len hG⟩
  ·simp at h
 ·exact IB R h hv r
theorem Ic:∀ {l:List AV} {M:List ae} {F:Nat→ai} {X:ai} {vc:List Prop} {xs:List DV} {M':List ae},bq D w0 K0 M β F I X w→mi M l=some (vc,xs,M')→br vc→∀ {ys:List Value},ys.length=l.length→(∀ (j:Nat) c y,l[j]?=some c→ys[j]?=some y→au (fun w=>K0 w∧aj w I) β c y)→
  ∃ F' H,bq D w0 K0 M' β F' I (X++H) w∧fu (fun w=>K0 w∧aj w I) xs ys H
 | [],M,F,X,vc,xs,M',R,h,_,ys,hl,_=>by
  simp only [mi,Option.some.injEq,Prod.mk.injEq] at h;obtain ⟨rfl,rfl,rfl⟩:=h
  have:ys=[]:=List.eq_nil_of_length_eq_zero hl
  subst this
  exact ⟨F,[],by rw [List.append_nil];exact R,.nil⟩
 | c::r,M,F,X,vc,xs,M',R,h,hv,ys,hl,hr=>by
  unfold mi at h
  split at h
  ·rename_i v x M1 h1
   split at h
   ·rename_i v' l' M2 h2
    simp only [Option.some.injEq,Prod.mk.injEq] at h;obtain ⟨rfl,rfl,rfl⟩:=h
    rw [br.app] at hv
    cases ys with
    | nil=>simp at hl
    | cons y ys=>
     obtain ⟨F1,H1,R1,d1⟩:=Vv R h1 hv.1 (hr 0 c y rfl rfl)
     obtain ⟨F2,H2,R2,d2⟩:=Ic R1 h2 hv.2 (ys:=ys) (by simpa using hl) (fun j c' y' e1 e2=>hr (j+1) c' y' (by simpa using e1) (by simpa using e2))
     exact ⟨F2,H1++H2,by rw [← List.append_assoc];exact R2,.cons d1 d2⟩
   ·simp at h
  ·simp at h
end Go.Proofs.YtkheephfkbpchaaGreatDoor
namespace Go.Proofs.YtkheephfkbpchaaGreatDoor
open Go.RowKit
variable {P:Program} {T:aC} {D:List Nat} {w0:World} {K0:World→Prop} {E:List (Nat×AV)} {M:List ae} {β:Beta} {F:Nat→ai} {I:ai} {ρ:Operand→Value} {w:World}
variable {d:Option Tmp} {ty:TypeId} {pos:String} {aft:Array Edge} {gd:Option (Nat×Bool)} {oc:Option aS} {out:Out}
def mq:List AV→Option (List Value)
 | []=>some []
 | .d (.v x)::r=>(match mq r with | some l=>some (x::l) | none=>none)
 | _=>none
theorem qY {K:World→Prop} {β:Beta}:∀ {l:List AV} {xs ys:List Value},mq l=some xs→ys.length=l.length→(∀ (j:Nat) c y,l[j]?=some c→ys[j]?=some y→au K β c y)→ys=xs
 | [],xs,ys,h,hl,_=>by simp only [mq,Option.some.injEq] at h;subst h;exact List.eq_nil_of_length_eq_zero hl
 | c::r,xs,[],_,hl,_=>by simp at hl
 | c::r,xs,y::ys,h,hl,hr=>by
  unfold mq at h
  split at h
  ·simp_all
  ·rename_i x r' heq
   simp only [List.cons.injEq] at heq
   obtain ⟨rfl,rfl⟩:=heq
   split at h
   ·rename_i l' cH
    simp only [Option.some.injEq] at h;subst h
    have h0:=hr 0 _ y rfl rfl
    have h1:=qY (ys:=ys) cH (by simpa using hl) (fun j c y e1 e2=>hr (j+1) c y (by simpa using e1) (by simpa using e2))
    cases h0 with | d h0=>cases h0;rw [h1]
   ·simp at h
  ·simp at h
def LL (P:Program) (t:TypeId) (xs ys:List Value) (c:Bool):Prop:=P.eqGuardType P.depth t=false∧∀ w:World,(Op.equal t (.agg xs.toArray) (.agg ys.toArray)).run P w=.ok c w
def En (P:Program) (E:List (Nat×AV)) (M:List ae) (oc:Option aS) (op:BinOp) (t:TypeId) (x y:Operand):Option Out:=
 match op,aB E x,aB E y,oc with
 | .eql,some (.ag l),some (.ag l'),some (.b c)=>(match mq l,mq l' with | some xs,some ys=>some (lk [LL P t xs ys c] (.b c) M) | _,_=>none)
 | .neq,some (.ag l),some (.ag l'),some (.b c)=>(match mq l,mq l' with | some xs,some ys=>some (lk [LL P t xs ys c] (.b (!c)) M) | _,_=>none)
 | _,_,_,_=>none
theorem WM {op:BinOp} {t t':TypeId} {x y:Operand} (h:En P E M oc op t x y=some out):aA P ⟨d,.binOp op t x y t',ty,pos,aft,gd⟩ E M out:=by
 unfold En at h
 split at h
 ·rename_i l l' c hx hy
  split at h
  ·rename_i xs ys h1 h2
   simp only [Option.some.injEq] at h;subst h
   refine aA.same ?_
   intro D w0 K0 β F I ρ w C hv
   obtain ⟨⟨hg,hr⟩,-⟩:=hv
   obtain ⟨u,hu,r⟩:=C.aJ hx
   obtain ⟨u',cS,r'⟩:=C.aJ hy
   cases r with | ag zs hl hz=>
   cases r' with | ag zs' cH fy=>
   obtain rfl:=qY h1 hl hz
   obtain rfl:=qY h2 cH fy
   exact ⟨.bool c,fun w' _=>by simp [execOp,hu,cS,eqGuard,hg,binOp,hr],.d (.v _)⟩
  ·simp at h
 ·rename_i l l' c hx hy
  split at h
  ·rename_i xs ys h1 h2
   simp only [Option.some.injEq] at h;subst h
   refine aA.same ?_
   intro D w0 K0 β F I ρ w C hv
   obtain ⟨⟨hg,hr⟩,-⟩:=hv
   obtain ⟨u,hu,r⟩:=C.aJ hx
   obtain ⟨u',cS,r'⟩:=C.aJ hy
   cases r with | ag zs hl hz=>
   cases r' with | ag zs' cH fy=>
   obtain rfl:=qY h1 hl hz
   obtain rfl:=qY h2 cH fy
   exact ⟨.bool (!c),fun w' _=>by simp [execOp,hu,cS,eqGuard,hg,binOp,hr],.d (.v _)⟩
  ·simp at h
 ·simp at h
def CB (l:List (Nat×Nat)) (i:Nat):Option (Nat×Nat):=l[i]?
def kJ (E:List (Nat×AV)) (place:Nat→Option (Nat×Nat)) (cells:List AV):List (Nat×Operand)→Option (List AV)
 | []=>some cells
 | (i,x)::r=>(match place i,aB E x with
  | some (off,size),some v=>(match nz v with
   | some l=>bif l.length.beq size&&(off+size).ble cells.length then kJ E place (cells.take off++(l++cells.drop (off+size))) r else none
   | none=>none)
  | _,_=>none)
theorem Us:∀ (vs:List Value) (off j:Nat) (cs:Array Value),(vs.zipIdx j).foldl (fun cs (cj:Value×Nat)=>cs.setIfInBounds (off+cj.2) cj.1) cs=bV cs (off+j) vs:=by
 intro vs
 induction vs with
 | nil=>intro off j cs;simp [bV]
 | cons v r ih=>intro off j cs;rw [List.zipIdx_cons,List.foldl_cons,ih,bV,Nat.add_assoc]
theorem tP {place:Nat→Option (Nat×Nat)} (C:Ctx D w0 K0 E M β F I ρ w):∀ {parts:List (Nat×Operand)} {cells l:List AV} {cs:Array Value},kJ E place cells parts=some l→cs.size=cells.length→(∀ (j:Nat) c y,cells[j]?=some c→cs[j]?=some y→au (fun w=>K0 w∧aj w I) β c y)→
  ∃ bD:Array Value,Instr.fill place cs (parts.map fun p=>(p.1,ρ p.2))=some bD∧bD.size=l.length∧∀ (j:Nat) c y,l[j]?=some c→bD[j]?=some y→au (fun w=>K0 w∧aj w I) β c y
 | [],cells,l,cs,h,hl,hr=>by simp only [kJ,Option.some.injEq] at h;subst h;exact ⟨cs,rfl,hl,hr⟩
 | (i,x)::r,cells,l,cs,h,hl,hr=>by
  unfold kJ at h
  split at h
  ·rename_i off size v hp hx
   split at h
   ·rename_i lv Sj
    cases hb:(lv.length.beq size&&(off+size).ble cells.length) with
    | false=>simp [hb] at h
    | true=>
     simp only [hb,cond_true] at h
     simp only [Bool.and_eq_true] at hb
     have h1:=Nat.eq_of_beq_eq_true hb.1
     have h2:=Nat.le_of_ble_eq_true hb.2
     obtain ⟨y,hy,ry⟩:=C.aJ hx
     obtain ⟨zs,e1,e2,e3,-⟩:=qV Sj ry
     have uB:(bV cs off zs).size=(cells.take off++(lv++cells.drop (off+size))).length:=by rw [hU];simp;omega
     obtain ⟨bD,g1,g2,g3⟩:=tP C (cs:=bV cs off zs) h uB (by
      intro j c z f1 f2
      rw [qU _ _ _ _ (by omega)] at f2
      by_cases hj:off≤j∧j<off+zs.length
      ·rw [if_pos hj] at f2
       rw [List.getElem?_append_right (by simp;omega),List.getElem?_append_left (by simp;omega)] at f1
       refine e3 (j-off) c z ?_ f2
       rw [← f1];congr 1;simp;omega
      ·rw [if_neg hj] at f2
       refine hr j c z ?_ f2
       rcases Nat.lt_or_ge j off with oQ | oQ
       ·rw [List.getElem?_append_left (by simp;omega),List.getElem?_take,if_pos oQ] at f1;exact f1
       ·rw [List.getElem?_append_right (by simp;omega),List.getElem?_append_right (by simp;omega),List.getElem?_drop] at f1
        rw [← f1];congr 1;simp;omega)
     refine ⟨bD,?_,g2,g3⟩
     rw [List.map_cons,Instr.fill]
     simp only [hp,hy,e1]
     rw [if_neg (by simp;omega)]
     have hz:=Us zs off 0 cs
     have vB:zs.toArray.zipIdx.foldl (fun cs (cj:Value×Nat)=>cs.setIfInBounds (off+cj.2) cj.1) cs=bV cs off zs:=by
      rw [← Array.foldl_toList,Array.toList_zipIdx];simpa using hz
     rw [← g1];congr 1
   ·simp at h
  ·simp at h
def yr (T:aC) (E:List (Nat×AV)) (M:List ae) (t:TypeId) (parts:Array (Nat×Operand)):Option Out:=
 match FO T t,pL T t with
 | some pl,some z=>(match kJ E (CB pl) (fJ z) parts.toList with
  | some l=>some (lk [] (.ag l) M)
  | none=>none)
 | _,_=>none
theorem HH:∀ {fs:List Field} {pl:List (Nat×Nat)} (w:World),q8 P fs=some pl→(fs.mapM fun f=>(do pure (f.offset,← sizeOf f.type):Sem (Nat×Nat))).run P w=.ok pl w
 | [],pl,w,h=>by simp only [q8,Option.some.injEq] at h;subst h;simp
 | f::r,pl,w,h=>by
  unfold q8 at h
  split at h
  ·rename_i i l hi hl
   simp only [Option.some.injEq] at h;subst h
   have ih:=HH w hl
   have hs:(sizeOf f.type).run P w=.ok i.size w:=by simp [sizeOf,typeInfo,Sem.run_bind,hi]
   simp only [List.mapM_cons,Sem.run_bind,hs,Result.andThen_ok,Sem.run_pure,ih]
  ·simp at h
theorem Ie (hT:aI P T=true) {t:TypeId} {parts:Array (Nat×Operand)} (h:yr T E M t parts=some out):aA P ⟨d,.build t parts,ty,pos,aft,gd⟩ E M out:=by
 unfold yr at h
 split at h
 ·rename_i pl z hpl hz
  split at h
  ·rename_i l hl
   simp only [Option.some.injEq] at h;subst h
   obtain ⟨fs,hu,hfs⟩:=Ys hT hpl
   obtain ⟨zv,qp,kX⟩:=wM hT hz
   refine aA.same ?_
   intro D w0 K0 β F I ρ w C _
   obtain ⟨p1,p2⟩:=iS (K:=fun w=>K0 w∧aj w I) (β:=β) z
   obtain ⟨bD,g1,g2,g3⟩:=tP C (cs:=z.toArray) hl (by simpa using p1) (by intro j c y e1 e2;exact p2 j c y e1 (by simpa using e2))
   refine ⟨.agg bD,fun w' _=>?_,?_⟩
   ·have hpr:=HH w' hfs
    have hpa:(fs.mapM fun f=>(do pure (f.offset,← sizeOf f.type):Sem (Nat×Nat))).run P w'=.ok pl.toArray w':=by
     rw [Array.mapM_eq_mapM_toList,Sem.run_map,hpr];rfl
    have mQ:(parts.map fun (p:Nat×Operand)=>(p.1,ρ p.2)).toList=parts.toList.map fun p=>(p.1,ρ p.2):=by simp
    have yj:(fun i=>pl.toArray[i]?)=CB pl:=by funext i;simp [CB]
    have hb:(Instr.build t (parts.map fun (p:Nat×Operand)=>(p.1,ρ p.2))).run P w'=.ok (.agg bD) w':=by
     simp only [Instr.build,Sem.run_bind,kX,Result.andThen_ok,run_underlying hu,hpa,qp,mQ,yj,g1,Sem.run_pure]
    simp only [execOp,Sem.run_bind]
    have:(parts.map fun (i,x)=>(i,ρ x))=parts.map fun (p:Nat×Operand)=>(p.1,ρ p.2):=rfl
    rw [this,hb];rfl
   ·have:(au (fun w=>K0 w∧aj w I) β (.ag l) (.agg bD.toList.toArray)):=.ag bD.toList (by simpa using g2) (by intro j c y e1 e2;exact g3 j c y e1 (by simpa using e2))
    simpa using this
  ·simp at h
 ·simp at h
end Go.Proofs.YtkheephfkbpchaaGreatDoor
namespace Go.Proofs.YtkheephfkbpchaaGreatDoor
open Go.RowKit
variable {P:Program} {T:aC} {D:List Nat} {w0:World} {K0:World→Prop} {E:List (Nat×AV)} {M:List ae} {β:Beta} {F:Nat→ai} {I:ai} {ρ:Operand→Value} {w:World}
variable {d:Option Tmp} {ty:TypeId} {pos:String} {aft:Array Edge} {gd:Option (Nat×Bool)} {oc:Option aS} {out:Out}
def eJ (T:aC) (t:Nat):Option (Nat×Nat×Nat×List Value):=match bB T t with
 | some (.sl e)=>(match T.at e with | some x=>bif x.zero.length.beq x.size then some (e,x.size,x.bytes,x.zero) else none | none=>none)
 | _=>none
theorem fK (hT:aI P T=true) {t e k b:Nat} {z:List Value} (h:eJ T t=some (e,k,b,z)):∃ zv,nD P t e k b zv∧zv.cells=z.toArray∧z.length=k:=by
 unfold eJ at h
 split at h
 ·rename_i e' hu
  split at h
  ·rename_i x hx
   cases hz:x.zero.length.beq x.size with
   | false=>simp [hz] at h
   | true=>
    simp only [hz,cond_true,Option.some.injEq,Prod.mk.injEq] at h
    obtain ⟨rfl,rfl,rfl,rfl⟩:=h
    obtain ⟨i,zv,h1,h2,h3,h4,h5⟩:=wL hT hx
    have hc:zv.cells=x.zero.toArray:=by rw [← h5]
    exact ⟨zv,⟨a7 hT hu,by rw [h1,Option.map_some,h2],by rw [h1,Option.map_some,h3],by rw [h1,Option.bind_some,h4],by rw [hc];simpa using Nat.eq_of_beq_eq_true hz⟩,hc,Nat.eq_of_beq_eq_true hz⟩
  ·simp at h
 ·simp at h
theorem du {n k:Nat} {X:Nat→List Value} (hX:∀ i,i<n→(X i).length=k):(lay n X).length=n*k:=by
 induction n with
 | zero=>simp [lay]
 | succ n ih=>
  have:=ih (fun i hi=>hX i (by omega))
  simp only [lay,List.range_succ,List.flatMap_append,List.length_append,List.flatMap_cons,List.flatMap_nil,List.append_nil] at this ⊢
  rw [this,hX n (by omega),Nat.succ_mul]
theorem tQ (z:List Value) (n k:Nat) (hz:z.length=k):((Array.range (n*k)).map fun i=>z.toArray[i%z.toArray.size]!).toList=lay n fun _=>z:=by
 subst hz
 apply List.ext_getElem?
 intro p
 have hl:=du (n:=n) (k:=z.length) (X:=fun _=>z) (fun _ _=>rfl)
 rcases Nat.lt_or_ge p (n*z.length) with hp | hp
 ·have hk:0<z.length:=by
   rcases Nat.eq_zero_or_pos z.length with h0 | h0
   ·rw [h0] at hp;simp at hp
   ·exact h0
  have hd:p / z.length<n:=Nat.div_lt_of_lt_mul (by rw [Nat.mul_comm];exact hp)
  have hm:p%z.length<z.length:=Nat.mod_lt _ hk
  have hg:=jD (n:=n) (k:=z.length) (X:=fun _=>z) (fun _ _=>rfl) hd hm
  rw [Nat.mul_comm,Nat.div_add_mod] at hg
  rw [hg]
  have vB:z[p%z.length]?=some z[p%z.length]:=List.getElem?_eq_getElem hm
  rw [vB,Array.toList_map,List.getElem?_map,Array.toList_range,List.getElem?_range hp,Option.map_some]
  congr 1
  have:(z.toArray)[p%z.toArray.size]?=some z[p%z.length]:=by rw [List.getElem?_toArray];exact vB
  rw [getElem!_def,this]
 ·rw [List.getElem?_eq_none (by simpa using hp),List.getElem?_eq_none (by omega)]
set_option maxRecDepth 20000 in
theorem run_makeSlice {t e k b:Nat} {z:List Value} {zv:Value} (ok:nD P t e k b zv) (hz:zv.cells=z.toArray) (cY:z.length=k) {m:Nat} (hb:b*m≤281474976710656) (hm:m<4611686018427387904):
  (Instr.makeSlice t (.int .i64 m) (.int .i64 m)).run P w=.ok (.slice (some ⟨w.heap.size,0,none⟩) m m) (w.alloc (.cells (lay m fun _=>z).toArray e)):=by
 obtain ⟨i,hi,h1,h2,h3⟩:=ok.info
 have hw:IntKind.i64.wrap (m:Int)=m:=by
  simp [IntKind.wrap,IntKind.signed,IntKind.bits];omega
 have aP:∀ w:World,(sizeOf e).run P w=.ok k w:=fun w=>by simp [sizeOf,typeInfo,Sem.run_bind,hi,h1]
 have eZ:∀ w:World,(typeInfo e).run P w=.ok i w:=fun w=>by simp [typeInfo,Sem.run_bind,hi]
 have hzero:∀ w:World,(zeroValue e).run P w=.ok zv w:=fun w=>by simp [zeroValue,Sem.run_bind,eZ,h3]
 have mB:∀ (k:Nat) (w:World),(askRoom k).run P w=.ok () w:=by
  intro k w;unfold askRoom;split<;>simp [mark,Sem.run]
 have vC:∀ n:Int,asInt (.int .i64 n)=pure n:=fun n=>rfl
 have bn:∀ (cs:Array Value) (w:World),(newRow e cs).run P w=.ok ⟨w.heap.size,0,none⟩ (w.alloc (.cells cs e)):=by
  intro cs w;simp [newRow,newObj,Sem.run]
 have FV:¬ ((i.bytes:Int)*(m:Int)>2 ^ 48):=by
  rw [h2]
  have e:((b*m:Nat):Int)=(b:Int)*(m:Int):=Int.natCast_mul b m
  rw [← e]
  generalize b*m=q at hb
  omega
 have CC:∀ n,n=m*k→(if n=0 then ((Array.range n).map fun i=>(#[]:Array Value)[i%(#[]:Array Value).size]!) else ((Array.range n).map fun i=>z.toArray[i%z.toArray.size]!))=(lay m fun _=>z).toArray:=by
  intro n hn
  subst hn
  rw [← tQ z m k cY]
  by_cases h0:m*k=0
  ·rw [if_pos h0,h0];simp
  ·rw [if_neg h0]
 unfold Instr.makeSlice
 simp only [Sem.run_bind,run_underlying ok.aQ,Result.andThen_ok,vC,Sem.run_pure,eZ,hw,aP]
 have Di:¬ ((((m:Int)<0:Bool)||decide ((i.bytes:Int)*(m:Int)>2 ^ 48))=true∨(m:Int)<0∨(m:Int)>m):=by
  simp only [Bool.or_eq_true,decide_eq_true_eq]
  omega
 rw [if_neg (by simpa using Di)]
 simp only [Sem.run_bind,Result.andThen_ok,mB,aP,Int.toNat_natCast]
 have:=CC (m*k) rfl
 by_cases h0:m*k=0
 ·rw [if_pos h0] at this ⊢
  simp only [Sem.run_pure,Result.andThen_ok,Sem.run_bind,bn,this]
 ·rw [if_neg h0] at this ⊢
  simp only [Sem.run_pure,Result.andThen_ok,Sem.run_bind,hzero,hz,bn,this]
def Dj (T:aC) (E:List (Nat×AV)) (M:List ae) (oc:Option aS) (t:TypeId) (x y:Operand):Option Out:=
 match eJ T t,bN (aB E x),bN (aB E y),oc with
 | some (e,k,b,z),some (.i64,n),some (.i64,n'),some (.n m)=>some ⟨[n=(m:Int),n'=(m:Int),b*m≤281474976710656,m<4611686018427387904],.sl M.length m,M++[.rw e k (List.replicate m (z.map .v))],[],[],none⟩
 | _,_,_,_=>none
theorem A4 {K:World→Prop} {z:List Value} {j:Nat} {c:DV} {x:Value} (h1:(z.map DV.v)[j]?=some c) (h2:z[j]?=some x):bj K c x []:=by
 rw [List.getElem?_map,h2,Option.map_some,Option.some.injEq] at h1
 subst h1;exact .v x
theorem kv (n k:Nat):bA n k (fun _ _=>[])=[]:=by simp [bA]
theorem Vw (hT:aI P T=true) {t:TypeId} {x y:Operand} (h:Dj T E M oc t x y=some out):aA P ⟨d,.makeSlice t x y,ty,pos,aft,gd⟩ E M out:=by
 unfold Dj at h
 split at h
 ·rename_i e k b z n n' m he hx hy
  simp only [Option.some.injEq] at h;subst h
  obtain ⟨zv,ok,hz,cY⟩:=fK hT he
  intro D w0 K0 β F I ρ w C hv
  obtain ⟨rfl,rfl,hb,hm,-⟩:=hv
  refine aM.pure (v:=.slice (some ⟨w.heap.size,0,none⟩) m m) (w':=w.alloc (.cells (lay m fun _=>z).toArray e)) (by simp only [execOp,C.int hx,C.int hy,Sem.run_bind,run_makeSlice ok hz cY hb hm,Result.andThen_ok,Sem.run_pure]) ?_
  have cn:=du (n:=m) (k:=k) (X:=fun _=>z) (fun _ _=>cY)
  refine ⟨_,_,I,C.rm.new (q:=(some ⟨w.heap.size,0,none⟩,m)) (Gr.alloc w _) (cV.alloc w _) ?_,(Ext.app _ _).b _,aV.refl _,fW _ _,.sl (cu C.rm _)⟩
  have:=bf.rw (K:=fun w=>K0 w∧aj w I) (β:=β++[(some ⟨w.heap.size,0,none⟩,m)]) (u:=M.length) (T:=e) (k:=k) (rows:=List.replicate m (z.map .v)) (H0:=[(w.heap.size,.cells (lay m fun _=>z).toArray e (0,0))]) (cu C.rm _) (fun _=>z) (fun _ _=>[]) (fun i r hi=>by
   rw [List.getElem?_replicate] at hi
   split at hi
   ·simp only [Option.some.injEq] at hi;subst hi;rw [List.length_map];exact ⟨cY,cY⟩
   ·simp at hi) (by
    rw [List.length_replicate]
    exact ⟨cn,Or.inr ⟨w.heap.size,m,_,(0,0),rfl,rfl,lY _,by simpa using cn,Nat.le_refl _,by rw [← cn];simp⟩⟩) (fun i r j c x hi h1 h2=>by
    rw [List.getElem?_replicate] at hi
    split at hi
    ·simp only [Option.some.injEq] at hi;subst hi;exact A4 h1 h2
    ·simp at hi)
  rw [kv,List.append_nil] at this
  exact this
 ·simp at h
theorem BV {n:Nat} {X Y:Nat→List Value} (h:∀ i,i<n→X i=Y i):lay n X=lay n Y:=by
 simp only [lay,List.flatMap_def];congr 1
 exact List.map_congr_left fun i hi=>h i (List.mem_range.1 hi)
theorem rh (n m:Nat) (X Y:Nat→List Value):lay (n+m) (fun i=>if i<n then X i else Y (i-n))=lay n X++lay m Y:=by
 simp only [lay]
 rw [List.range_add,List.flatMap_append,List.flatMap_map]
 congr 1
 ·simp only [List.flatMap_def];congr 1;exact List.map_congr_left fun i hi=>by have:=List.mem_range.1 hi;simp [this]
 ·simp only [List.flatMap_def];congr 1;exact List.map_congr_left fun i hi=>by
   show (if n+i<n then X (n+i) else Y (n+i-n))=Y i
   rw [if_neg (by omega),Nat.add_sub_cancel_left]
theorem tR (n m k:Nat) (X Y:Nat→Nat→ai):bA (n+m) k (fun i=>if i<n then X i else Y (i-n))=bA n k X++bA m k Y:=by
 simp only [bA]
 rw [List.range_add,List.flatMap_append,List.flatMap_map]
 congr 1
 ·simp only [List.flatMap_def];congr 1;exact List.map_congr_left fun i hi=>by have:=List.mem_range.1 hi;simp [this]
 ·simp only [List.flatMap_def];congr 1;exact List.map_congr_left fun i hi=>by
   show (List.range k).flatMap (if n+i<n then X (n+i) else Y (n+i-n))=(List.range k).flatMap (Y i)
   rw [if_neg (by omega),Nat.add_sub_cancel_left]
structure dh (K:World→Prop) (k:Nat) (rows:List (List DV)) (X:Nat→List Value) (G:Nat→Nat→ai):Prop where
 hl:∀ (i:Nat) r,rows[i]?=some r→r.length=k∧(X i).length=k
 hr:∀ (i:Nat) (r:List DV) (j:Nat) c x,rows[i]?=some r→r[j]?=some c→(X i)[j]?=some x→bj K c x (G i j)
theorem dh.app {K:World→Prop} {k:Nat} {r1 r2:List (List DV)} {X Y:Nat→List Value} {G H:Nat→Nat→ai} (h1:dh K k r1 X G) (h2:dh K k r2 Y H):dh K k (r1++r2) (fun i=>if i<r1.length then X i else Y (i-r1.length)) (fun i=>if i<r1.length then G i else H (i-r1.length)):=by
 constructor
 ·intro i r hi
  rcases Nat.lt_or_ge i r1.length with h | h
  ·rw [List.getElem?_append_left h] at hi;simpa [h] using h1.hl i r hi
  ·rw [List.getElem?_append_right h] at hi;have h':¬ i<r1.length:=by omega
   simpa [h'] using h2.hl _ r hi
 ·intro i r j c x hi hj hx
  rcases Nat.lt_or_ge i r1.length with h | h
  ·rw [List.getElem?_append_left h] at hi;simp only [h,if_true] at hx ⊢;exact h1.hr i r j c x hi hj hx
  ·rw [List.getElem?_append_right h] at hi;have h':¬ i<r1.length:=by omega
   simp only [h',if_false] at hx ⊢;exact h2.hr _ r j c x hi hj hx
theorem dh.one {K:World→Prop} {k:Nat} {rows:List (List DV)} {X:Nat→List Value} {G:Nat→Nat→ai} (h:dh K k rows X G) (ho:(rows.all fun r=>r.all fun c=>AV.one (.d c))=true):∀ q ∈ lay rows.length X,dU q=true:=by
 intro q hq
 simp only [lay,List.mem_flatMap,List.mem_range] at hq
 obtain ⟨i,hi,hq⟩:=hq
 obtain ⟨j,hj,rfl⟩:=List.getElem_of_mem hq
 have bn:=List.getElem?_eq_getElem hi
 obtain ⟨e1,e2⟩:=h.hl i _ bn
 have hc:rows[i][j]?=some rows[i][j]:=List.getElem?_eq_getElem (by omega)
 have hd:=h.hr i _ j _ _ bn hc (List.getElem?_eq_getElem hj)
 have cW:=List.all_eq_true.1 (List.all_eq_true.1 ho _ (List.mem_of_getElem? bn)) _ (List.mem_of_getElem? hc)
 generalize rows[i][j]=c at hd cW
 generalize G i j=GG at hd
 cases c with
 | v x=>cases hd;exact cW
 | jk=>simp [AV.one] at cW
 | ro k rows=>obtain ⟨a,n,c,hx⟩:=hd.slice (by simp);rw [hx];rfl
 | em T k rows=>obtain ⟨a,n,c,hx⟩:=hd.slice (by simp);rw [hx];rfl
 | ag l=>simp [AV.one] at cW
 | tu l=>simp [AV.one] at cW
 | pb T l=>generalize (X i)[j]=z at hd;cases hd;rfl
def gC (rows:List (List DV)):Prop:=(rows.all fun r=>r.all fun c=>AV.one (.d c))=true
def p7 (M:List ae) (e k:Nat):AV→Option (Option Nat×Nat×List (List DV))
 | .sl u n=>(match M[u]? with | some (.rw e' k' rows)=>bif e.beq e'&&k.beq k' then some (some u,n,rows) else none | _=>none)
 | .d (.v (.slice none 0 0))=>some (none,0,[])
 | _=>none
def sd (M:List ae) (k:Nat):AV→Option (Option Nat×Nat×List (List DV))
 | .sl v m=>(match M[v]? with | some (.rw _ k' rows)=>bif k.beq k' then some (some v,m,rows) else none | _=>none)
 | .d (.ro k' rows)=>bif k.beq k' then some (none,rows.length,rows) else none
 | .d (.v (.slice _ 0 _))=>some (none,0,[])
 | _=>none
def fL (mv:List Nat):AV→Bool
 | .d _=>true
 | .sl u _=>!(mv.elem u)
 | .sb u _ _ _=>!(mv.elem u)
 | .sf u _ _ _ _=>!(mv.elem u)
 | .pt u _=>!(mv.elem u)
 | .mv u=>!(mv.elem u)
 | .yl u=>!(mv.elem u)
 | .ep u _ _ _=>!(mv.elem u)
 | .rp _ _=>true
 | .bt _=>true
 | .uk=>true
 | _=>false
def ib (mv:List Nat):AV→Bool
 | .fn _ l=>l.all (fL mv)
 | .fm _ l=>l.all (fL mv)
 | .ag l=>l.all (fL mv)
 | .tu l=>l.all (fL mv)
 | c=>fL mv c
theorem nk {K:World→Prop} {β β':Beta} {mv:List Nat} (e:dH mv β β') {v:AV} (hc:fL mv v=true) {y:Value} (r:au K β v y):au K β' v y:=by
 cases r with
 | d h=>exact .d h
 | sl h=>refine .sl (e _ _ ?_ h);intro hm;simp [fL,hm] at hc
 | sb h=>refine .sb (e _ _ ?_ h);intro hm;simp [fL,hm] at hc
 | sf h h1 h2 h3=>refine .sf (e _ _ ?_ h) h1 h2 h3;intro hm;simp [fL,hm] at hc
 | pt h=>refine .pt (e _ _ ?_ h);intro hm;simp [fL,hm] at hc
 | mv h=>refine .mv (e _ _ ?_ h);intro hm;simp [fL,hm] at hc
 | yl h=>refine .yl (e _ _ ?_ h);intro hm;simp [fL,hm] at hc
 | ep h=>refine .ep (e _ _ ?_ h);intro hm;simp [fL,hm] at hc
 | rp a X hl eR hr=>exact .rp a X hl eR hr
 | bt hd hn=>exact .bt hd hn
 | uk hu=>exact .uk hu
 | fn=>simp [fL] at hc
 | fm=>simp [fL] at hc
 | ag=>simp [fL] at hc
 | tu=>simp [fL] at hc
theorem tK {K:World→Prop} {β β':Beta} {mv:List Nat} (e:dH mv β β') {v:AV} (hc:ib mv v=true) {y:Value} (r:au K β v y):au K β' v y:=by
 have key:∀ {l:List AV} {ys:List Value},l.all (fL mv)=true→(∀ (j:Nat) c y,l[j]?=some c→ys[j]?=some y→au K β c y)→∀ (j:Nat) c y,l[j]?=some c→ys[j]?=some y→au K β' c y:=by
  intro l ys ha h j c y h1 h2
  exact nk e (List.all_eq_true.1 ha c (List.mem_of_getElem? h1)) (h j c y h1 h2)
 cases r with
 | fn ys hl hr=>exact .fn ys hl (key hc hr)
 | fm ys hl hr=>exact .fm ys hl (key hc hr)
 | ag ys hl hr=>exact .ag ys hl (key hc hr)
 | tu ys hl hr=>exact .tu ys hl (key hc hr)
 | d h=>exact .d h
 | sl h=>exact nk (v:=.sl _ _) e hc (.sl h)
 | sb h=>exact nk (v:=.sb _ _ _ _) e hc (.sb h)
 | sf h h1 h2 h3=>exact nk (v:=.sf _ _ _ _ _) e hc (.sf h h1 h2 h3)
 | pt h=>exact nk (v:=.pt _ _) e hc (.pt h)
 | mv h=>exact nk (v:=.mv _) e hc (.mv h)
 | yl h=>exact nk (v:=.yl _) e hc (.yl h)
 | ep h=>exact nk (v:=.ep _ _ _ _) e hc (.ep h)
 | rp a X hl eR hr=>exact .rp a X hl eR hr
 | bt hd hn=>exact .bt hd hn
 | uk hu=>exact .uk hu
def fX (mv:List Nat):ae→ae
 | .bx T cs=>.bx T (cs.map fun c=>bif ib mv c then c else .d .jk)
 | .rw T k rows=>.rw T k rows
 | .tw a c T k rows=>.tw a c T k rows
 | .mp T c es=>.mp T c es
 | .mu T c es=>.mu T c es
 | .it (some v) a s c=>bif mv.elem v then .it none a s c else .it (some v) a s c
 | .it none a s c=>.it none a s c
 | .lp b f sz E rf=>.lp b f sz (E.map fun x=>(x.1,bif ib mv x.2 then x.2 else .d .jk)) rf
 | .nm v b=>bif mv.elem v then .dead else .nm v b
 | .gw g row=>.gw g row
 | .il (some v) s l c=>bif mv.elem v then .il none s l c else .il (some v) s l c
 | .il none s l c=>.il none s l c
 | .fl T k m cs=>.fl T k m (cs.map fun c=>bif ib mv c then c else .d .jk)
 | .mf T c es=>.mf T c (es.map fun e=>(e.1,e.2.1,bif ib mv e.2.2 then e.2.2 else .d .jk))
 | .dead=>.dead
theorem bf.kill {K:World→Prop} {β β':Beta} {mv:List Nat} (e:dH mv β β') {u:Nat} (hu:u ∉ mv) {blk:ae} {H:ai} (r:bf K β u blk H):bf K β' u (fX mv blk) H:=by
 cases r with
 | dead=>exact .dead u
 | bx hb ys hl hr=>
  refine .bx (e _ _ hu hb) ys (by rw [List.length_map];exact hl) fun j c y h1 h2=>?_
  rw [List.getElem?_map,Option.map_eq_some_iff] at h1
  obtain ⟨c',h1,rfl⟩:=h1
  cases hc:ib mv c' with
  | true=>exact tK e hc (hr j c' y h1 h2)
  | false=>exact .d (.jk _)
 | rw hb X G hl hs hr=>exact .rw (e _ _ hu hb) X G hl hs hr
 | tw hb X G hl hs hr=>exact .tw (e _ _ hu hb) X G hl hs hr
 | gw X hl hc hr=>exact .gw X hl hc hr
 | @nm v b c hb=>
  cases hv:mv.elem v with
  | true=>simp only [fX,hv,cond_true];exact .dead u
  | false=>simp only [fX,hv,cond_false];exact .nm (e _ _ (by simpa using hv) hb)
 | fl hb ys hl hm FW hr=>
  refine .fl (e _ _ hu hb) ys hl (by rw [List.length_map];exact hm) FW fun j c y h1 h2=>?_
  rw [List.getElem?_map,Option.map_eq_some_iff] at h1
  obtain ⟨c',h1,rfl⟩:=h1
  cases hc:ib mv c' with
  | true=>exact tK e hc (hr j c' y h1 h2)
  | false=>exact .d (.jk _)
 | @mf _ _ Tm qs vD hb vs hl hr=>
  have hh:=bf.mf (K:=K) (T:=Tm) (ck:=qs) (u:=u) (e _ _ hu hb) vs (by rw [List.length_map];exact hl) (es:=List.map (fun (e:Nat×MK×AV)=>(e.1,e.2.1,bif ib mv e.2.2 then e.2.2 else AV.d .jk)) vD) (fun j c y h1 h2=>by
   rw [List.getElem?_map,Option.map_eq_some_iff] at h1
   obtain ⟨c',h1,rfl⟩:=h1
   dsimp only
   cases hc:ib mv c'.2.2 with
   | true=>exact tK e hc (hr j c' y h1 h2)
   | false=>exact .d (.jk _))
  rw [wN (fun (e:Nat×MK×AV)=>(e.1,e.2.1,bif ib mv e.2.2 then e.2.2 else AV.d .jk)) (fun _=>⟨rfl,rfl⟩)] at hh
  exact hh
 | mp hb vs G hl hr=>exact .mp (e _ _ hu hb) vs G hl hr
 | mu fo hp hn aG hb vs G hl hr=>exact .mu fo hp hn aG (e _ _ hu hb) vs G hl hr
 | lp hb aP hr=>
  refine .lp (e _ _ hu hb) aP fun x hx=>?_
  obtain ⟨x0,s4,rfl⟩:=List.mem_map.1 hx
  cases hc:ib mv x0.2 with
  | true=>simp only [hc,cond_true];exact tK e hc (hr x0 s4)
  | false=>simp only [hc,cond_false];exact .d (.jk _)
 | @il b bm c since last ck um seen hb hm=>
  cases um with
  | none=>exact .il (bm:=bm) (seen:=seen) (e _ _ hu hb) (fun v hv=>by cases hv)
  | some v=>
   cases hv:mv.elem v with
   | true=>
    have e1:fX mv (.il (some v) since last ck)=.il none since last ck:=by simp only [fX,hv,cond_true]
    rw [e1]
    exact .il (bm:=bm) (seen:=seen) (e _ _ hu hb) (fun v hv=>by cases hv)
   | false=>
    have e1:fX mv (.il (some v) since last ck)=.il (some v) since last ck:=by simp only [fX,hv,cond_false]
    rw [e1]
    refine .il (bm:=bm) (seen:=seen) (e _ _ hu hb) (fun v' cR=>?_)
    cases cR
    obtain ⟨c',h'⟩:=hm v rfl
    exact ⟨c',e _ _ (fun da=>by simp [da] at hv) h'⟩
 | @it b bm c since ck um seen hb hm=>
  cases um with
  | none=>exact .it (bm:=bm) (e _ _ hu hb) (fun v hv=>by cases hv)
  | some v=>
   cases hv:mv.elem v with
   | true=>
    have e1:fX mv (.it (some v) since seen ck)=.it none since seen ck:=by simp only [fX,hv,cond_true]
    rw [e1]
    exact .it (bm:=bm) (e _ _ hu hb) (fun v hv=>by cases hv)
   | false=>
    have e1:fX mv (.it (some v) since seen ck)=.it (some v) since seen ck:=by simp only [fX,hv,cond_false]
    rw [e1]
    refine .it (bm:=bm) (e _ _ hu hb) (fun v' cR=>?_)
    cases cR
    obtain ⟨c',h'⟩:=hm v rfl
    exact ⟨c',e _ _ (fun da=>by simp [da] at hv) h'⟩
theorem bq.move {X Y:ai} (R:bq D w0 K0 M β F I X w) {w':World} (st:St D w0 w' ((List.range M.length).flatMap F++(I++Y))):bq D w0 K0 M β F I Y w':=⟨R.len,R.blk,st⟩
theorem ID (β:Beta) (u:Nat) (q:Option Addr×Nat):dH [u] β (β.set u q):=by
 intro v x hv hx
 rw [List.getElem?_set,if_neg (fun e=>hv (by simp [e]))];exact hx
theorem bq.renew {X Y:ai} (R:bq D w0 K0 M β F I (X++Y) w) {u:Nat} (hu:u<M.length) (hF:F u=[]) {q:Option Addr×Nat} {blk:ae} (hb:bf (fun w=>K0 w∧aj w I) (β.set u q) u blk X):
  bq D w0 K0 ((M.map (fX [u])).set u blk) (β.set u q) (aF F u X) I Y w where
 len:=by rw [List.length_set,List.length_set,List.length_map];exact R.len
 blk:=by
  intro v bl hv
  rw [List.getElem?_set] at hv
  by_cases e:u=v
  ·subst e
   simp only [List.length_map,hu,if_pos,Option.some.injEq] at hv;subst hv
   simpa [aF] using hb
  ·rw [if_neg e,List.getElem?_map,Option.map_eq_some_iff] at hv
   obtain ⟨b0,h1,rfl⟩:=hv
   have:aF F u X v=F v:=by simp only [aF];rw [if_neg (fun h=>e h.symm)]
   rw [this]
   exact (R.blk v b0 h1).kill (ID β u q) (by simp;exact fun h=>e h.symm)
 st:=by
  have hs:=R.st
  rw [List.length_set,List.length_map,range_split hu]
  rw [range_split hu,hF] at hs
  have c1:(List.range u).flatMap (aF F u X)=(List.range u).flatMap F:=eG fun a ha=>by have:=List.mem_range.1 ha;simp [aF];omega
  have c2:(List.range' (u+1) (M.length-(u+1))).flatMap (aF F u X)=(List.range' (u+1) (M.length-(u+1))).flatMap F:=eG fun a ha=>by have:=(List.mem_range'_1.1 ha).1;simp [aF];omega
  have cS:aF F u X u=X:=by simp [aF]
  rw [c1,c2,cS]
  exact hs.perm (by classical rw [List.perm_iff_count];intro z;simp only [List.count_append,List.count_nil];omega)
def u0 (n m b:Nat) (bM:List (List DV)):List Prop:=[(2*(n+m)+192)*b≤281474976710656,n+m<4611686018427387904,gC bM]
def Eo (T:aC) (E:List (Nat×AV)) (M:List ae) (st xt:TypeId) (x y:Operand):Option Out:=
 match eJ T st,bB T xt,aB E x,aB E y with
 | some (e,k,b,_),some (.sl e'),some vx,some vy=>bif e.beq e' then (match p7 M e k vx,sd M k vy with
  | some (some u,n,rows),some (none,m,bM)=>some ⟨[n=rows.length]++u0 n m b bM,.sl u (n+m),(M.map (fX [u])).set u (.rw e k (rows++bM)),[u],[u],none⟩
  | some (none,_,_),some (none,m,bM)=>some ⟨u0 0 m b bM,.sl M.length m,M++[.rw e k bM],[],[],none⟩
  | some (some u,n,rows),some (some v,m,bM)=>bif !(u.beq v) then some ⟨[n=rows.length,m=bM.length]++u0 n m b bM,.sl u (n+m),((M.set v .dead).map (fX [u])).set u (.rw e k (rows++bM)),[u,v],[u],none⟩ else none
  | some (none,_,_),some (some v,m,bM)=>some ⟨[m=bM.length]++u0 0 m b bM,.sl M.length m,(M.set v .dead)++[.rw e k bM],[v],[],none⟩
  | _,_=>none) else none
 | _,_,_,_=>none
theorem wD {e k u n:Nat} {rows:List (List DV)} {v:AV} (h:p7 M e k v=some (some u,n,rows)):v=.sl u n∧M[u]?=some (.rw e k rows):=by
 unfold p7 at h
 split at h
 ·rename_i u' n'
  split at h
  ·rename_i e' k' nG hM
   cases hb:(e.beq e'&&k.beq k') with
   | false=>simp [hb] at h
   | true=>
    simp only [hb,cond_true,Option.some.injEq,Prod.mk.injEq] at h
    obtain ⟨rfl,rfl,rfl⟩:=h
    simp only [Bool.and_eq_true] at hb
    obtain rfl:=Nat.eq_of_beq_eq_true hb.1
    obtain rfl:=Nat.eq_of_beq_eq_true hb.2
    exact ⟨rfl,hM⟩
  ·simp at h
 ·simp at h
 ·simp at h
theorem Be {e k n:Nat} {rows:List (List DV)} {v:AV} (h:p7 M e k v=some (none,n,rows)):v=.d (.v (.slice none 0 0)):=by
 unfold p7 at h
 split at h
 ·split at h
  ·rename_i e' k' nG hM
   cases hb:(e.beq e'&&k.beq k')<;>simp [hb] at h
  ·simp at h
 ·rfl
 ·simp at h
theorem Ig {k u m:Nat} {rows:List (List DV)} {v:AV} (h:sd M k v=some (some u,m,rows)):v=.sl u m∧∃ T,M[u]?=some (.rw T k rows):=by
 unfold sd at h
 split at h
 ·split at h
  ·rename_i T k' nG hM
   cases hb:k.beq k' with
   | false=>simp [hb] at h
   | true=>
    simp only [hb,cond_true,Option.some.injEq,Prod.mk.injEq] at h
    obtain ⟨rfl,rfl,rfl⟩:=h
    obtain rfl:=Nat.eq_of_beq_eq_true hb
    exact ⟨rfl,T,hM⟩
  ·simp at h
 ·rename_i k' nG
  cases hb:k.beq k'<;>simp [hb] at h
 ·simp at h
 ·simp at h
theorem Bf {k m:Nat} {rows:List (List DV)} {v:AV} (h:sd M k v=some (none,m,rows)):(v=.d (.ro k rows)∨rows=[]∧∃ a c,v=.d (.v (.slice a 0 c)))∧m=rows.length:=by
 unfold sd at h
 split at h
 ·split at h
  ·rename_i T k' nG hM
   cases hb:k.beq k'<;>simp [hb] at h
  ·simp at h
 ·rename_i k' nG
  cases hb:k.beq k' with
  | false=>simp [hb] at h
  | true=>
   simp only [hb,cond_true,Option.some.injEq,Prod.mk.injEq] at h
   obtain ⟨-,rfl,rfl⟩:=h
   obtain rfl:=Nat.eq_of_beq_eq_true hb
   exact ⟨Or.inl rfl,rfl⟩
 ·simp only [Option.some.injEq,Prod.mk.injEq] at h
  obtain ⟨-,rfl,rfl⟩:=h
  exact ⟨Or.inr ⟨rfl,_,_,rfl⟩,rfl⟩
 ·simp at h
theorem xj (hT:aI P T=true) {st xt e k b:Nat} {z:List Value} (he:eJ T st=some (e,k,b,z)) {x y:Operand} {v u':Value} {n m u:Nat} {H0 L1 S:ai} {rows bM:List (List DV)} {X1 X2:Nat→List Value} {G1 G2:Nat→Nat→ai}
  (mR:ρ x=v) (FX:ρ y=u') (R:bq D w0 K0 M β F I ((H0++L1)++S) w) (hu:u<M.length) (hF:F u=[])
  (hs:eb e k v n (lay n X1) H0) (hn:n=rows.length) (hm:m=bM.length) (a1:dh (fun w=>K0 w∧aj w I) k rows X1 G1) (hL:L1=bA n k G1) (a2:dh (fun w=>K0 w∧aj w I) k bM X2 G2) (hS:S=bA m k G2) (dD:lC P xt w k u' m (lay m X2))
  (gA:(2*(n+m)+192)*b≤281474976710656) (jc:n+m<4611686018427387904) (cW:gC bM):
  aM P ⟨d,.call ⟨.builtin .append,#[x,y],#[st,xt]⟩,ty,pos,aft,gd⟩ ρ w fun v' w'=>∃ β' F',RM D w0 K0 ((M.map (fX [u])).set u (.rw e k (rows++bM))) β' F' I w'∧dH [u] β β'∧(∀ x,x≠u→F' x=F x)∧au (fun w=>K0 w∧aj w I) β' (.sl u (n+m)) v':=by
 obtain ⟨zv,ok,-,-⟩:=fK hT he
 subst hn hm
 have aQ:St D w0 w (H0++(L1++(S++((List.range M.length).flatMap F++I)))):=R.st.perm (by classical rw [List.perm_iff_count];intro z;simp only [List.count_append];omega)
 refine H5 ok mR FX aQ hs dD (a2.one cW) gA jc fun v' w' H' iB FY=>?_
 obtain ⟨a,c,rfl⟩:=iB.len
 have aa:=a1.app a2
 have nR:=rh rows.length bM.length X1 X2
 rw [← nR] at iB
 have hlf:=tR rows.length bM.length k G1 G2
 have hq:(β.set u (a,c))[u]?=some (a,c):=by rw [List.getElem?_set];simp [R.len,hu]
 have hb:bf (fun w=>K0 w∧aj w I) (β.set u (a,c)) u (.rw e k (rows++bM)) (H'++bA (rows++bM).length k (fun i=>if i<rows.length then G1 i else G2 (i-rows.length))):=
  .rw hq _ _ aa.hl (by rw [List.length_append];exact iB) aa.hr
 rw [List.length_append,hlf,← hL,← hS] at hb
 have R2:bq D w0 K0 M β F I ((H'++(L1++S))++[]) w':=R.move (FY.perm (by classical rw [List.perm_iff_count];intro z;simp only [List.count_append,List.count_nil];omega))
 have R3:=R2.renew hu hF hb
 exact ⟨_,_,R3.nil rfl,ID β u _,fun x hx=>by simp only [aF];rw [if_neg hx],.sl hq⟩
theorem BW (hT:aI P T=true) {st xt e k b:Nat} {z:List Value} (he:eJ T st=some (e,k,b,z)) {x y:Operand} {u':Value} {m:Nat} {S:ai} {bM:List (List DV)} {X2:Nat→List Value} {G2:Nat→Nat→ai}
  (mR:ρ x=.slice none 0 0) (FX:ρ y=u') (R:bq D w0 K0 M β F I S w) (hm:m=bM.length) (a2:dh (fun w=>K0 w∧aj w I) k bM X2 G2) (hS:S=bA m k G2) (dD:lC P xt w k u' m (lay m X2))
  (gA:(2*(0+m)+192)*b≤281474976710656) (jc:0+m<4611686018427387904) (cW:gC bM):
  aM P ⟨d,.call ⟨.builtin .append,#[x,y],#[st,xt]⟩,ty,pos,aft,gd⟩ ρ w fun v' w'=>∃ β' F',RM D w0 K0 (M++[.rw e k bM]) β' F' I w'∧Ext β β'∧(∀ x,x<M.length→F' x=F x)∧au (fun w=>K0 w∧aj w I) β' (.sl M.length m) v':=by
 obtain ⟨zv,ok,-,-⟩:=fK hT he
 subst hm
 have aQ:St D w0 w ([]++(S++((List.range M.length).flatMap F++I))):=R.st.perm (by classical rw [List.perm_iff_count];intro z;simp only [List.count_append,List.nil_append];omega)
 refine H5 ok mR FX aQ (eb.nil e k none) dD (a2.one cW) gA jc fun v' w' H' iB FY=>?_
 obtain ⟨a,c,rfl⟩:=iB.len
 rw [List.nil_append,Nat.zero_add] at iB
 rw [Nat.zero_add]
 have hq:(β++[(a,c)])[M.length]?=some (a,c):=by rw [← R.len];simp
 have hb:bf (fun w=>K0 w∧aj w I) (β++[(a,c)]) M.length (.rw e k bM) (H'++bA bM.length k G2):=.rw hq _ _ a2.hl iB a2.hr
 rw [← hS] at hb
 have R2:bq D w0 K0 M β F I ((H'++S)++[]) w':=R.move (FY.perm (by classical rw [List.perm_iff_count];intro z;simp only [List.count_append,List.count_nil];omega))
 have R3:=R2.take hb
 exact ⟨_,_,R3.nil rfl,Ext.app _ _,fun x hx=>by simp [aF];omega,.sl hq⟩
theorem wu {u:Nat} {f:ae→ae} {b b':ae}:((M.set u b).map f).set u b'=(M.map f).set u b':=by rw [List.map_set,List.set_set]
theorem mb (R:RM D w0 K0 M β F I w) {u n e k:Nat} {rows:List (List DV)} (hM:M[u]?=some (.rw e k rows)) (hn:n=rows.length) {y:Value} (r:au (fun w=>K0 w∧aj w I) β (.sl u n) y):
  ∃ X G H0,F u=H0++bA n k G∧eb e k y n (lay n X) H0∧dh (fun w=>K0 w∧aj w I) k rows X G∧aj w H0:=by
 subst hn
 obtain ⟨H,hF,hB,hH⟩:=R.at hM
 cases r with
 | sl hb=>
  cases hB with
  | rw aD X G hl hs hr=>
   rw [hb] at aD;cases aD
   exact ⟨X,G,_,hF,hs,⟨hl,hr⟩,(aj.app.1 hH).1⟩
theorem BX {K:World→Prop} (hk:K w) {k:Nat} {rows:List (List DV)} {y:Value} (r:au K β (.d (.ro k rows)) y):∃ X,dh K k rows X (fun _ _=>[])∧Src w k y rows.length (lay rows.length X):=by
 cases r with | d r=>cases r with | ro X hl hy hs hr=>exact ⟨X,⟨hl,hr⟩,hs w hk⟩
theorem Bs {K:World→Prop} (hk:K w) {k:Nat} {rows:List (List DV)} {v:AV} (hv:v=.d (.ro k rows)∨rows=[]∧∃ a c,v=.d (.v (.slice a 0 c))) {y:Value} (r:au K β v y):∃ X,dh K k rows X (fun _ _=>[])∧Src w k y rows.length (lay rows.length X):=by
 rcases hv with rfl | ⟨rfl,a,c,rfl⟩
 ·exact BX hk r
 ·cases r with | d r=>cases r;exact ⟨fun _=>[],⟨by simp,by simp⟩,by simp [lay],Or.inl ⟨rfl,a,c,rfl⟩⟩
theorem WN (hT:aI P T=true) {st xt:TypeId} {x y:Operand} (h:Eo T E M st xt x y=some out):aA P ⟨d,.call ⟨.builtin .append,#[x,y],#[st,xt]⟩,ty,pos,aft,gd⟩ E M out:=by
 unfold Eo at h
 split at h
 ·rename_i e k b z e' vx vy he hu hx hy
  cases ke:e.beq e' with
  | false=>simp [ke] at h
  | true=>
   simp only [ke,cond_true] at h
   obtain rfl:=Nat.eq_of_beq_eq_true ke
   split at h
   ·rename_i u n rows m bM hd hs
    simp only [Option.some.injEq] at h;subst h
    obtain ⟨rfl,hM⟩:=wD hd
    obtain ⟨vE,hm⟩:=Bf hs
    intro D w0 K0 β F I ρ w C hv
    obtain ⟨hn,h1,h2,h3,-⟩:=hv
    obtain ⟨X1,G1,H0,hF,cm,a1,-⟩:=mb C.rm hM hn (C.ev hx)
    obtain ⟨X2,a2,dD⟩:=Bs C.now vE (C.ev hy)
    subst hm
    have R1:=C.rm.x.ec hM
    rw [hF,List.nil_append] at R1
    have aG:u<(M.set u .dead).length:=by rw [List.length_set];exact cM hM
    refine (xj hT he rfl rfl (R1.perm (Y:=(H0++bA n k G1)++[]) (by rw [List.append_nil])) aG (by simp [aF]) cm hn rfl a1 rfl a2 (by rw [kv]) (dD.app (a7 hT hu)) h1 h2 h3).mono ?_
    rintro v' w' ⟨β',F',R',hE,iC,hr⟩
    rw [wu] at R'
    exact ⟨β',F',I,R',hE,aV.refl _,fun q _ hq=>by have mS:q≠u:=(by simpa using hq);rw [iC q mS];simp only [aF];rw [if_neg mS],hr⟩
   ·rename_i n0 r0 m bM hd hs
    simp only [Option.some.injEq] at h;subst h
    obtain rfl:=Be hd
    obtain ⟨vE,hm⟩:=Bf hs
    intro D w0 K0 β F I ρ w C hv
    obtain ⟨h1,h2,h3,-⟩:=hv
    obtain ⟨X2,a2,dD⟩:=Bs C.now vE (C.ev hy)
    subst hm
    have mR:ρ x=.slice none 0 0:=by have:=C.ev hx;generalize ρ x=q at this;cases this with | d r=>cases r;rfl
    refine (BW hT he mR rfl C.rm.x rfl a2 (by rw [kv]) (dD.app (a7 hT hu)) h1 h2 h3).mono ?_
    rintro v' w' ⟨β',F',R',hE,iC,hr⟩
    exact ⟨β',F',I,R',hE.b _,aV.refl _,fun q hq _=>iC q hq,hr⟩
   ·rename_i u n rows v m bM hd hs
    cases qt:u.beq v with
    | true=>simp [qt] at h
    | false=>
     simp only [qt,Bool.not_false,cond_true,Option.some.injEq] at h;subst h
     have dM:u≠v:=fun e=>by subst e;simp at qt
     obtain ⟨rfl,hM⟩:=wD hd
     obtain ⟨rfl,T2,gK⟩:=Ig hs
     intro D w0 K0 β F I ρ w C hv
     obtain ⟨hn,hm,h1,h2,h3,-⟩:=hv
     obtain ⟨X1,G1,H0,hF,cm,a1,-⟩:=mb C.rm hM hn (C.ev hx)
     obtain ⟨X2,G2,H2,gV,Ep,a2,mT⟩:=mb C.rm gK hm (C.ev hy)
     have dD:=Ep.src mT
     have R1:=C.rm.x.ec gK
     have hMu:(M.set v .dead)[u]?=some (.rw e k rows):=by rw [List.getElem?_set,if_neg (fun e=>dM e.symm)];exact hM
     have R2:=R1.ec hMu
     have mU:aF F v [] u=F u:=by simp only [aF];rw [if_neg dM]
     rw [mU,hF,gV,List.nil_append] at R2
     have R3:=(R2.perm (Y:=(H0++bA n k G1)++(bA m k G2)++H2) (by classical rw [List.perm_iff_count];intro z;simp only [List.count_append];omega)).drop
     have aG:u<((M.set v .dead).set u .dead).length:=by rw [List.length_set,List.length_set];exact cM hM
     refine (xj hT he rfl rfl R3 aG (by simp [aF]) cm hn hm a1 rfl a2 rfl (dD.app (a7 hT hu)) h1 h2 h3).mono ?_
     rintro v' w' ⟨β',F',R',hE,iC,hr⟩
     rw [wu] at R'
     refine ⟨β',F',I,R',hE,aV.refl _,fun q _ hq=>?_,hr⟩
     simp only [List.mem_cons,List.not_mem_nil,or_false,not_or] at hq
     rw [iC q hq.1];simp only [aF];rw [if_neg hq.1,if_neg hq.2]
   ·rename_i n0 r0 v m bM hd hs
    simp only [Option.some.injEq] at h;subst h
    obtain rfl:=Be hd
    obtain ⟨rfl,T2,gK⟩:=Ig hs
    intro D w0 K0 β F I ρ w C hv
    obtain ⟨hm,h1,h2,h3,-⟩:=hv
    obtain ⟨X2,G2,H2,gV,Ep,a2,mT⟩:=mb C.rm gK hm (C.ev hy)
    have dD:=Ep.src mT
    have R1:=C.rm.x.ec gK
    rw [gV,List.nil_append] at R1
    have R3:=(R1.perm (Y:=bA m k G2++H2) List.perm_append_comm).drop
    have mR:ρ x=.slice none 0 0:=by have:=C.ev hx;generalize ρ x=q at this;cases this with | d r=>cases r;rfl
    refine (BW hT he mR rfl R3 hm a2 rfl (dD.app (a7 hT hu)) h1 h2 h3).mono ?_
    rintro v' w' ⟨β',F',R',hE,iC,hr⟩
    rw [List.length_set] at hr iC
    refine ⟨β',F',I,R',hE.b _,aV.refl _,fun q hq hqv=>?_,hr⟩
    rw [iC q hq];simp only [aF];rw [if_neg (by simpa using hqv)]
   ·simp at h
 ·simp at h
end Go.Proofs.YtkheephfkbpchaaGreatDoor
namespace Go.Proofs.YtkheephfkbpchaaGreatDoor
open Go.RowKit
variable {P:Program} {T:aC} {D:List Nat} {w0:World} {K0:World→Prop} {E:List (Nat×AV)} {M:List ae} {β:Beta} {F:Nat→ai} {I X:ai} {ρ:Operand→Value} {w:World}
variable {d:Option Tmp} {ty:TypeId} {pos:String} {aft:Array Edge} {gd:Option (Nat×Bool)} {oc:Option aS} {out:Out}
def Er:AV→List Nat
 | .sl u _=>[u]
 | _=>[]
def se:List AV→List Nat
 | []=>[]
 | c::r=>Er c++se r
theorem WO (R:bq D w0 K0 M β F I X w) {c:AV} {vc:List Prop} {x:DV} {M':List ae} (h:rO M c=some (vc,x,M')) (hv:br vc) {y:Value} (r:au (fun w=>K0 w∧aj w I) β c y):
  M'.length=M.length∧∃ F' H,bq D w0 K0 M' β F' I (X++H) w∧bj (fun w=>K0 w∧aj w I) x y H∧∀ u,u ∉ Er c→F' u=F u:=by
 unfold rO at h
 split at h
 ·simp only [Option.some.injEq,Prod.mk.injEq] at h;obtain ⟨rfl,rfl,rfl⟩:=h
  cases r with | d r=>exact ⟨rfl,F,[],by rw [List.append_nil];exact R,r,fun _ _=>rfl⟩
 ·rename_i u n
  split at h
  ·rename_i Tt k rows hM
   simp only [Option.some.injEq,Prod.mk.injEq] at h;obtain ⟨rfl,rfl,rfl⟩:=h
   obtain ⟨rfl,-⟩:=hv
   cases r with
   | sl hb=>
    have R':=R.ec hM
    have hB:=R.blk u _ hM
    refine ⟨by rw [List.length_set],_,F u,R',?_,fun v hv=>by simp only [aF];rw [if_neg (by simpa [Er] using hv)]⟩
    generalize F u=G0 at hB ⊢
    cases hB with
    | rw aD X G hl hs hr=>rw [hb] at aD;cases aD;exact .em X G hl hs hr
  ·simp at h
 ·simp at h
theorem xk:∀ {l:List AV} {M:List ae} {F:Nat→ai} {X:ai} {vc:List Prop} {xs:List DV} {M':List ae},bq D w0 K0 M β F I X w→kH M l=some (vc,xs,M')→br vc→∀ {ys:List Value},ys.length=l.length→(∀ (j:Nat) c y,l[j]?=some c→ys[j]?=some y→au (fun w=>K0 w∧aj w I) β c y)→
  M'.length=M.length∧∃ F' H,bq D w0 K0 M' β F' I (X++H) w∧fu (fun w=>K0 w∧aj w I) xs ys H∧∀ u,u ∉ se l→F' u=F u
 | [],M,F,X,vc,xs,M',R,h,_,ys,hl,_=>by
  simp only [kH,Option.some.injEq,Prod.mk.injEq] at h;obtain ⟨rfl,rfl,rfl⟩:=h
  have:ys=[]:=List.eq_nil_of_length_eq_zero hl
  subst this
  exact ⟨rfl,F,[],by rw [List.append_nil];exact R,.nil,fun _ _=>rfl⟩
 | c::r,M,F,X,vc,xs,M',R,h,hv,ys,hl,hr=>by
  unfold kH at h
  split at h
  ·rename_i v x M1 h1
   split at h
   ·rename_i v' l' M2 h2
    simp only [Option.some.injEq,Prod.mk.injEq] at h;obtain ⟨rfl,rfl,rfl⟩:=h
    rw [br.app] at hv
    cases ys with
    | nil=>simp at hl
    | cons y ys=>
     obtain ⟨l1,F1,H1,R1,d1,f1⟩:=WO R h1 hv.1 (hr 0 c y rfl rfl)
     obtain ⟨l2,F2,H2,R2,d2,f2⟩:=xk R1 h2 hv.2 (ys:=ys) (by simpa using hl) (fun j c' y' e1 e2=>hr (j+1) c' y' (by simpa using e1) (by simpa using e2))
     refine ⟨by omega,F2,H1++H2,by rw [← List.append_assoc];exact R2,.cons d1 d2,fun u hu=>?_⟩
     simp only [se,List.mem_append,not_or] at hu
     exact (f2 u hu.2).trans (f1 u hu.1)
   ·simp at h
  ·simp at h
def chunk (k:Nat):Nat→List DV→List (List DV)
 | 0,_=>[]
 | n+1,l=>l.take k::chunk k n (l.drop k)
theorem wE (k:Nat):∀ (n:Nat) (l:List DV),(chunk k n l).length=n
 | 0,_=>rfl
 | n+1,l=>by simp [chunk,wE k n]
theorem IE (k:Nat):∀ (n:Nat) (l:List DV) (i:Nat),i<n→(chunk k n l)[i]?=some ((l.drop (i*k)).take k)
 | 0,_,_,h=>by omega
 | n+1,l,0,_=>by simp [chunk]
 | n+1,l,i+1,h=>by
  simp only [chunk,List.getElem?_cons_succ]
  rw [IE k n _ i (by omega),List.drop_drop,Nat.succ_mul,Nat.add_comm]
theorem Ut (k:Nat) (G:Nat→ai):∀ n,bA n k (fun i j=>G (i*k+j))=(List.range (n*k)).flatMap G:=by
 intro n
 induction n with
 | zero=>simp [bA]
 | succ n ih=>
  have:bA (n+1) k (fun i j=>G (i*k+j))=bA n k (fun i j=>G (i*k+j))++(List.range k).flatMap fun j=>G (n*k+j):=by simp [bA,List.range_succ,List.flatMap_append]
  rw [this,ih,Nat.succ_mul,List.range_add,List.flatMap_append,List.flatMap_map]
theorem Uu (k:Nat):∀ (n:Nat) (ys:List Value),ys.length=n*k→lay n (fun i=>(ys.drop (i*k)).take k)=ys:=by
 intro n ys hl
 apply List.ext_getElem?
 intro p
 have hX:∀ i,i<n→((ys.drop (i*k)).take k).length=k:=fun i hi=>by
  have:=Nat.mul_le_mul_right k (show i+1≤n from hi);rw [Nat.succ_mul] at this
  simp;omega
 have cn:=du hX
 rcases Nat.lt_or_ge p (n*k) with hp | hp
 ·have hk:0<k:=by
   rcases Nat.eq_zero_or_pos k with h0 | h0
   ·subst h0;simp at hp
   ·exact h0
  have hd:p / k<n:=Nat.div_lt_of_lt_mul (by rw [Nat.mul_comm];exact hp)
  have hm:p%k<k:=Nat.mod_lt _ hk
  have hg:=jD hX hd hm
  have e:p / k*k+p%k=p:=by rw [Nat.mul_comm,Nat.div_add_mod]
  rw [e] at hg
  rw [hg,List.getElem?_take,if_pos hm,List.getElem?_drop,e]
 ·rw [List.getElem?_eq_none (by omega),List.getElem?_eq_none (by omega)]
def fg (z:List Value):Nat→List Value
 | 0=>[]
 | n+1=>z++fg z n
theorem qZ (z:List Value):∀ n,fg z n=lay n fun _=>z
 | 0=>by simp [fg,lay]
 | n+1=>by
  rw [fg,qZ z n]
  simp only [lay,List.range_succ_eq_map,List.flatMap_cons,List.flatMap_map]
def Es (T:aC) (E:List (Nat×AV)) (M:List ae) (t:TypeId) (len:Nat) (parts:Array (Nat×Operand)):Option Out:=
 match eJ T t with
 | some (e,k,_,z)=>bif Nat.ble (len*k) 16777216 then (match kJ E (fun i=>some (i*k,k)) (fJ (fg z len)) parts.toList with
  | some l=>(match kH M l with
   | some (vc,xs,M')=>some ⟨vc,.sl M.length len,M'++[.rw e k (chunk k len xs)],se l,[],none⟩
   | none=>none)
  | none=>none) else none
 | none=>none
theorem WQ (hT:aI P T=true) {t:TypeId} {len:Nat} {parts:Array (Nat×Operand)} (h:Es T E M t len parts=some out):aA P ⟨d,.buildSlice t len parts,ty,pos,aft,gd⟩ E M out:=by
 unfold Es at h
 split at h
 ·rename_i e k b z he
  cases hle:Nat.ble (len*k) 16777216 with
  | false=>simp [hle] at h
  | true=>
   simp only [hle,cond_true] at h
   have hle:=Nat.le_of_ble_eq_true hle
   split at h
   ·rename_i l yZ
    split at h
    ·rename_i vc xs M' hp
     simp only [Option.some.injEq] at h;subst h
     obtain ⟨zv,ok,hz,cY⟩:=fK hT he
     intro D w0 K0 β F I ρ w C hv
     obtain ⟨p1,p2⟩:=iS (K:=fun w=>K0 w∧aj w I) (β:=β) (fg z len)
     obtain ⟨bD,g1,g2,g3⟩:=tP C (cs:=(fg z len).toArray) yZ (by simpa using p1) (by intro j c y e1 e2;exact p2 j c y e1 (by simpa using e2))
     obtain ⟨lM,F',H,R',dd,hF⟩:=xk C.rm.x hp hv (ys:=bD.toList) (by simpa using g2) (by intro j c y e1 e2;exact g3 j c y e1 (by simpa using e2))
     have iD:(fg z len).length=len*k:=by rw [qZ];exact du fun _ _=>cY
     have eQ:∀ (parts:List (Nat×AV)) ,True:=fun _=>trivial
     have FZ:xs.length=len*k:=by
      have h1:=dd.len
      have h2:l.length=len*k:=by
       have:∀ {ps:List (Nat×Operand)} {cs r:List AV},kJ E (fun i=>some (i*k,k)) cs ps=some r→r.length=cs.length:=by
        intro ps
        induction ps with
        | nil=>intro cs r hh;simp only [kJ,Option.some.injEq] at hh;rw [hh]
        | cons q ps ih=>
         intro cs r hh
         obtain ⟨i,x⟩:=q
         unfold kJ at hh
         split at hh
         ·rename_i off size v Sk hx
          split at hh
          ·rename_i lv Sj
           cases hb:(lv.length.beq size&&(off+size).ble cs.length) with
           | false=>simp [hb] at hh
           | true=>
            simp only [hb,cond_true] at hh
            simp only [Bool.and_eq_true] at hb
            have e1:=Nat.eq_of_beq_eq_true hb.1
            have e2:=Nat.le_of_ble_eq_true hb.2
            rw [ih hh];simp;omega
          ·simp at hh
         ·simp at hh
       rw [this yZ,← p1,iD]
      have h3:bD.toList.length=bD.size:=by simp
      omega
     have b7:bD.toList.length=len*k:=by rw [← FZ];exact dd.len
     have afP:bD.size=len*k:=by simpa using b7
     have aP:∀ w:World,(sizeOf e).run P w=.ok k w:=fun w=>by obtain ⟨i,hi,h1,-⟩:=ok.info;simp [sizeOf,typeInfo,Sem.run_bind,hi,h1]
     have hzero:∀ w:World,(zeroValue e).run P w=.ok zv w:=fun w=>by obtain ⟨i,hi,-,-,h3⟩:=ok.info;simp [zeroValue,typeInfo,Sem.run_bind,hi,h3]
     have bn:∀ (cs:Array Value) (w:World),(newRow e cs).run P w=.ok ⟨w.heap.size,0,none⟩ (w.alloc (.cells cs e)):=by
      intro cs w;simp [newRow,newObj,Sem.run]
     have mQ:(parts.map fun (p:Nat×Operand)=>(p.1,ρ p.2)).toList=parts.toList.map fun p=>(p.1,ρ p.2):=by simp
     have qu:(Array.range (len*k)).map (fun i=>z.toArray[i%z.toArray.size]!)=(fg z len).toArray:=by
      rw [qZ,← tQ z len k cY]
     have ch:(Instr.buildSlice t len (parts.map fun (p:Nat×Operand)=>(p.1,ρ p.2))).run P w=.ok (.slice (some ⟨w.heap.size,0,none⟩) len len) (w.alloc (.cells bD e)):=by
      unfold Instr.buildSlice
      simp only [Sem.run_bind,run_underlying ok.aQ,Result.andThen_ok,aP]
      rw [if_neg (by omega)]
      by_cases h0:len*k=0
      ·have Et:(fg z len).toArray=#[]:=by
        have:fg z len=[]:=List.eq_nil_of_length_eq_zero (by omega)
        rw [this]
       rw [Et] at g1
       have Eu:(Array.range (len*k)).map (fun i=>(#[]:Array Value)[i%(#[]:Array Value).size]!)=#[]:=by rw [h0];apply Array.ext<;>simp
       rw [if_pos h0]
       simp only [Sem.run_bind,Sem.run_pure,Result.andThen_ok,Eu,mQ,g1,bn]
      ·rw [if_neg h0]
       simp only [Sem.run_bind,Sem.run_pure,Result.andThen_ok,hzero,hz,qu,mQ,g1,bn]
     refine aM.pure (v:=.slice (some ⟨w.heap.size,0,none⟩) len len) (w':=w.alloc (.cells bD e)) ?_ ?_
     ·simp only [execOp,Sem.run_bind]
      have:(parts.map fun (i,x)=>(i,ρ x))=parts.map fun (p:Nat×Operand)=>(p.1,ρ p.2):=rfl
      rw [this,ch];rfl
     ·obtain ⟨G,hG,vF⟩:=dd.to
      have R1:bq D w0 K0 M' β F' I (([(w.heap.size,.cells bD e (0,0))]++H)++[]) (w.alloc (.cells bD e)):=by
       refine R'.move ?_
       have:=R'.st.new (Gr.alloc w (.cells bD e)) (cV.alloc w (.cells bD e))
       exact this.perm (by classical rw [List.perm_iff_count];intro z;simp only [List.count_append,List.count_nil];omega)
      have Dk:M'.length=M.length:=lM
      have hq:(β++[((some ⟨w.heap.size,0,none⟩:Option Addr),len)])[M'.length]?=some (some ⟨w.heap.size,0,none⟩,len):=by rw [← R'.len];simp
      have y4:∀ (i:Nat) r,(chunk k len xs)[i]?=some r→i<len∧r=(xs.drop (i*k)).take k:=by
       intro i r hi
       have aG:i<len:=by have:=(List.getElem?_eq_some_iff.1 hi).1;rwa [wE] at this
       rw [IE k len xs i aG,Option.some.injEq] at hi
       exact ⟨aG,hi.symm⟩
      have hb:=bf.rw (K:=fun w=>K0 w∧aj w I) (u:=M'.length) (T:=e) (k:=k) (rows:=chunk k len xs) (H0:=[(w.heap.size,.cells bD e (0,0))]) hq (fun i=>(bD.toList.drop (i*k)).take k) (fun i j=>G (i*k+j)) (fun i r hi=>by
       obtain ⟨aG,rfl⟩:=y4 i r hi
       have:=Nat.mul_le_mul_right k (show i+1≤len from aG);rw [Nat.succ_mul] at this
       constructor<;>simp<;>omega) (by
        rw [wE,Uu k len _ b7]
        exact ⟨b7,Or.inr ⟨w.heap.size,len,bD,(0,0),rfl,rfl,lY _,by simpa using b7,Nat.le_refl _,List.take_of_length_le (by omega)⟩⟩) (fun i r j c x hi h1 h2=>by
       obtain ⟨aG,rfl⟩:=y4 i r hi
       rw [List.getElem?_take] at h1 h2
       split at h1
       ·rename_i hj
        rw [if_pos hj] at h2
        rw [List.getElem?_drop] at h1 h2
        exact vF _ c x h1 h2
       ·simp at h1)
      rw [wE,Ut,← FZ,← hG] at hb
      have R2:=(R1.take hb).nil rfl
      rw [Dk] at R2 hq
      refine ⟨_,_,I,R2,(Ext.app _ _).b _,aV.refl _,fun u hu hn=>?_,.sl hq⟩
      rw [show aF F' M.length _ u=F' u by simp [aF];omega]
      exact hF u hn
    ·simp at h
   ·simp at h
 ·simp at h
end Go.Proofs.YtkheephfkbpchaaGreatDoor
