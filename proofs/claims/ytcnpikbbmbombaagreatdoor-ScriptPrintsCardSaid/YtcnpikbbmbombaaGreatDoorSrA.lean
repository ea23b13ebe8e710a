/-
  scriptPrints_card, part 1 of 7: merged by program from the texts that it needs.
-/
import Derived.WalkKit
import Derived.Below
import Derived.OrdersIn
import Derived.RangeFuncOwn
import Derived.Maps.Own
import Derived.Deep.LoopGhost
import Derived.Laws.IdiomStrings
import Derived.Lib.SlBytesConst
import Derived.Laws.IdiomRangeMap
import Derived.Laws.Externs
import Derived.Lib.UnsafeStr
import Derived.Lib.Builder
import Derived.Lib.MakeNoZero
import Derived.Test.YtcnpikbbmbombaaGreatDoorProg
import Derived.Deep.Slices
import Derived.ProofKit
import Derived.Carry
import Derived.Shelf.Strings.Builder1
import Derived.Shelf.Strings.Builder2
import Derived.Shelf.Small.Strs
import Derived.Shelf.Utf8.RuneCount
import Derived.Shelf.Strconv.Itoa0
import Derived.Shelf.Strconv.Itoa1
import Derived.Shelf.LaysM
import Derived.Shelf.Strconv.Itoa2
import Derived.Shelf.Strconv.Itoa3
import Derived.Shelf.Strings.Search1
import Derived.Shelf.Strings.Search2
import Derived.Shelf.Strings.Search3
import Derived.Shelf.Strings.Cut
import Derived.Shelf.Strings.Count
import Derived.Shelf.Strings.Shaped
import Derived.Shelf.Strings.Split
import Derived.Shelf.Strings.SplitShaped
import Derived.Shelf.Unicode.Decode
import Derived.Shelf.Strings.RuneCount
import Derived.Shelf.Strings.Explode
import Derived.Shelf.Unicode.DecodeSlow
import Derived.Shelf.Unicode.DecodeAny
import Derived.RangeFuncRecord
import Derived.RangeFuncLeaves
import Derived.Lib.Walk
import Derived.Lib.ItoaMem
import Derived.BigCall
import Derived.BigGuard
import Derived.Test.YtcnpikbbmbombaaGreatDoorRows
import Derived.OpenVars
import Derived.OpenShut
import Derived.LaidMore
import Derived.Lay
import Derived.LaidOnce
import Derived.SizedLaws
import Derived.Test.YtcnpikbbmbombaaGreatDoorTie
import Derived.Test.YtcnpikbbmbombaaGreatDoorCards
import Derived.SevenTiedAt
set_option linter.unusedSimpArgs false
set_option linter.unusedVariables false
set_option linter.unnecessarySimpa false
namespace Go.Proofs.YtcnpikbbmbombaaGreatDoor
open Go.RowKit
abbrev Gr (w w':World):Prop:=Below w.heap.size w w'
theorem Gr.refl (w:World):Gr w w:=Below.refl _ _
theorem Gr.trans {a b c:World} (h:Gr a b) (k:Gr b c):Gr a c:=Below.trans h (k.mono h.size)
theorem Gr.drew (w:World):Gr w w.drew:=(Below.refl _ _).drew
theorem kC {w:World} {b:Nat} {o:Obj} (h:w.heap[b]?=some o):b<w.heap.size:=by
 rcases Nat.lt_or_ge b w.heap.size with h' | h'
 ·exact h'
 ·simp [Array.getElem?_eq_none h'] at h
theorem HR {w:World} {a:Addr} {v:Value} (h:w.cell? a=some v):a.block<w.heap.size:=by
 rcases Nat.lt_or_ge a.block w.heap.size with h' | h'
 ·exact h'
 ·simp [World.cell?,Array.getElem?_eq_none h'] at h
theorem Gr.sF {w w':World} (h:Gr w w') {a:Addr} {v:Value} (hc:w.cell? a=some v):w'.cell? a=some v:=by
 rw [Below.cell h (HR hc)];exact hc
theorem Gr.wj {w w':World} (h:Gr w w') {b:Nat} {o:Obj} (hc:w.heap[b]?=some o):w'.heap[b]?=some o:=by
 rw [h.block b (kC hc)];exact hc
theorem Gr.alloc (w:World) (o:Obj):Gr w (w.alloc o):=(Below.refl _ _).alloc (Nat.le_refl _) _
theorem zW (w:World) (o:Obj):(w.alloc o).heap[w.heap.size]?=some o:=(MapKept.heap_alloc w o).1
theorem cell_of {w:World} {b:Nat} {c:Array Value} {t:TypeId} {fr:Nat×Nat} (h:w.heap[b]?=some (.cells c t fr)) (i:Nat):w.cell? ⟨b,i,none⟩=c[i]?:=by
 simp [World.cell?,h]
abbrev ak:=List (Nat×Obj)
def keys (H:ak):List Nat:=H.map (·.1)
def Holds (w:World) (H:ak):Prop:=∀ x ∈ H,w.heap[x.1]?=some x.2
theorem Holds.nil (w:World):Holds w []:=by intro x hx;simp at hx
theorem Holds.gr {w w':World} {H:ak} (h:Holds w H) (g:Gr w w'):Holds w' H:=fun x hx=>g.wj (h x hx)
theorem Holds.one {w:World} {b:Nat} {o:Obj} {H:ak} (h:Holds w ((b,o)::H)):w.heap[b]?=some o:=h (b,o) (by simp)
theorem Holds.tail {w:World} {x:Nat×Obj} {H:ak} (h:Holds w (x::H)):Holds w H:=fun y hy=>h y (by simp [hy])
theorem Holds.app {w:World} {H K:ak}:Holds w (H++K)↔Holds w H∧Holds w K:=by
 constructor
 ·intro h;exact ⟨fun x hx=>h x (by simp [hx]),fun x hx=>h x (by simp [hx])⟩
 ·rintro ⟨h1,h2⟩ x hx
  rcases List.mem_append.1 hx with h | h
  ·exact h1 x h
  ·exact h2 x h
theorem Holds.lt {w:World} {H:ak} (h:Holds w H) {b:Nat} (hb:b ∈ keys H):b<w.heap.size:=by
 obtain ⟨x,hx,rfl⟩:=List.mem_map.1 hb
 exact kC (h x hx)
structure du (w w':World) (H:ak):Prop where
 nd:(keys H).Nodup
 new:∀ b ∈ keys H,w.heap.size≤b
 holds:Holds w' H
theorem du.nil (w w':World):du w w' []:=⟨by simp [keys],by simp [keys],Holds.nil _⟩
theorem du.alloc (w:World) (o:Obj):du w (w.alloc o) [(w.heap.size,o)]:=⟨by simp [keys],by simp [keys],by intro x hx;simp at hx;subst hx;exact zW w o⟩
theorem du.ahead {w0 w w':World} {H:ak} (h:du w w' H) (g:Gr w0 w):du w0 w' H:=⟨h.nd,fun b hb=>Nat.le_trans g.size (h.new b hb),h.holds⟩
theorem tZ {H K:List Nat} (h:H.Nodup) (k:K.Nodup) (d:∀ b ∈ H,b ∉ K):(H++K).Nodup:=by
 rw [List.nodup_append];exact ⟨h,k,fun a ha b hb e=>d a ha (e▸hb)⟩
theorem ie (H K:ak):keys (H++K)=keys H++keys K:=by simp [keys]
theorem du.app {w w' gW:World} {H K:ak} (h:du w w' H) (g0:Gr w w') (k:du w' gW K) (g:Gr w' gW):du w gW (K++H) where
 nd:=by
  rw [ie]
  exact tZ k.nd h.nd (fun b hb aS=>by have:=k.new b hb;have:=h.holds.lt aS;omega)
 new:=by
  intro b hb
  rw [ie] at hb
  rcases List.mem_append.1 hb with e | e
  ·exact Nat.le_trans g0.size (k.new b e)
  ·exact h.new b e
 holds:=Holds.app.2 ⟨k.holds,h.holds.gr g⟩
structure Kp (D:List Nat) (w0 w:World):Prop where
 os:w.os=w0.os
 tape:w.tape=w0.tape
 output:w.output=w0.output
 size:w0.heap.size≤w.heap.size
 block:∀ b,b<w0.heap.size→b ∉ D→w.heap[b]?=w0.heap[b]?
theorem Kp.refl (D:List Nat) (w:World):Kp D w w:=⟨rfl,rfl,rfl,Nat.le_refl _,fun _ _ _=>rfl⟩
theorem Kp.gr {D:List Nat} {w0 w w':World} (h:Kp D w0 w) (g:Gr w w'):Kp D w0 w':=
 ⟨g.os.trans h.os,g.tape.trans h.tape,g.output.trans h.output,Nat.le_trans h.size g.size,fun b hb hd=>by rw [g.block b (Nat.lt_of_lt_of_le hb h.size)];exact h.block b hb hd⟩
theorem Kp.sG {w0 w:World} (h:Kp [] w0 w):Gr w0 w:=⟨h.os,h.tape,h.output,h.size,fun b hb=>h.block b hb (by simp)⟩
theorem Kp.wj {D:List Nat} {w0 w:World} (h:Kp D w0 w) {b:Nat} {o:Obj} (hb:w0.heap[b]?=some o) (hd:b ∉ D):w.heap[b]?=some o:=by
 rw [h.block b (kC hb) hd];exact hb
theorem Kp.holds {D:List Nat} {w0 w:World} (h:Kp D w0 w) {H:ak} (hH:Holds w0 H) (hd:∀ b ∈ keys H,b ∉ D):Holds w H:=
 fun x hx=>h.wj (hH x hx) (hd x.1 (List.mem_map_of_mem hx))
def cg (w:World) (b:Nat) (o:Obj):World:={ w with heap:=w.heap.setIfInBounds b o }
theorem zE {w:World} {b:Nat} (o:Obj) (h:b<w.heap.size):(cg w b o).heap[b]?=some o:=by simp [cg,h]
theorem zg {w:World} {b c:Nat} (o:Obj) (h:b≠c):(cg w b o).heap[c]?=w.heap[c]?:=by
 simp [cg,Array.getElem?_setIfInBounds_ne h]
theorem EY (w:World) (b:Nat) (o:Obj):(cg w b o).heap.size=w.heap.size:=by simp [cg]
theorem setCell_eq {w:World} {b i:Nat} {c:Array Value} {t:TypeId} {fr:Nat×Nat} (h:w.heap[b]?=some (.cells c t fr)) (v:Value):w.setCell ⟨b,i,none⟩ v=cg w b (.cells (c.setIfInBounds i v) t fr):=by
 unfold World.setCell cg
 congr 1
 apply Array.ext_getElem?
 intro j
 have hb:=kC h
 rw [Array.getElem?_modify,Array.getElem?_setIfInBounds]
 by_cases e:b=j
 ·subst e
  have hg:w.heap[b]=.cells c t fr:=by rw [Array.getElem?_eq_getElem hb] at h;exact Option.some.inj h
  simp [hb,hg]
 ·simp [e]
structure St (D:List Nat) (w0 w:World) (H:ak):Prop where
 kp:Kp D w0 w
 nd:(keys H).Nodup
 own:∀ b ∈ keys H,w0.heap.size≤b∨b ∈ D
 holds:Holds w H
theorem St.start {w:World} {H:ak} (nd:(keys H).Nodup) (h:Holds w H):St (keys H) w w H:=⟨Kp.refl _ _,nd,fun _ h=>Or.inr h,h⟩
theorem St.none (w:World):St [] w w []:=⟨Kp.refl _ _,by simp [keys],by simp [keys],Holds.nil _⟩
theorem St.gr {D:List Nat} {w0 w w':World} {H:ak} (s:St D w0 w H) (g:Gr w w'):St D w0 w' H:=⟨s.kp.gr g,s.nd,s.own,s.holds.gr g⟩
theorem St.new {D:List Nat} {w0 w w':World} {H K:ak} (s:St D w0 w H) (g:Gr w w') (n:du w w' K):St D w0 w' (K++H) where
 kp:=s.kp.gr g
 nd:=by
  rw [ie]
  exact tZ n.nd s.nd (fun b hb aS=>by have:=n.new b hb;have:=s.holds.lt aS;omega)
 own:=by
  intro b hb
  rw [ie] at hb
  rcases List.mem_append.1 hb with e | e
  ·exact Or.inl (Nat.le_trans s.kp.size (n.new b e))
  ·exact s.own b e
 holds:=Holds.app.2 ⟨n.holds,s.holds.gr g⟩
theorem St.alloc {D:List Nat} {w0 w:World} {H:ak} (s:St D w0 w H) (o:Obj):St D w0 (w.alloc o) ((w.heap.size,o)::H):=s.new (Gr.alloc w o) (du.alloc w o)
theorem St.perm {D:List Nat} {w0 w:World} {H K:ak} (s:St D w0 w H) (p:H.Perm K):St D w0 w K:=
 ⟨s.kp,(List.Perm.map (fun x:Nat×Obj=>x.1) p).nodup_iff.1 s.nd,fun b hb=>s.own b ((List.Perm.map (fun x:Nat×Obj=>x.1) p).mem_iff.2 hb),fun x hx=>s.holds x (p.mem_iff.2 hx)⟩
theorem St.ma {D:List Nat} {w0 w:World} {H K:ak} (s:St D w0 w (H++K)):St D w0 w K:=
 ⟨s.kp,by have:=s.nd;rw [ie] at this;exact (List.nodup_append.1 this).2.1,fun b hb=>s.own b (by rw [ie];exact List.mem_append.2 (Or.inr hb)),(Holds.app.1 s.holds).2⟩
theorem St.uj {D:List Nat} {w0 w:World} {H K:ak} (s:St D w0 w (H++K)):St D w0 w H:=
 ⟨s.kp,by have:=s.nd;rw [ie] at this;exact (List.nodup_append.1 this).1,fun b hb=>s.own b (by rw [ie];exact List.mem_append.2 (Or.inl hb)),(Holds.app.1 s.holds).1⟩
theorem St.set {D:List Nat} {w0 w:World} {b:Nat} {o:Obj} {H:ak} (s:St D w0 w ((b,o)::H)) (o':Obj):St D w0 (cg w b o') ((b,o')::H) where
 kp:=by
  refine ⟨s.kp.os,s.kp.tape,s.kp.output,by rw [EY];exact s.kp.size,fun c hc hd=>?_⟩
  have jT:b≠c:=by
   intro e;subst e
   rcases s.own b (by simp [keys]) with h | h
   ·omega
   ·exact hd h
  rw [zg o' jT];exact s.kp.block c hc hd
 nd:=s.nd
 own:=s.own
 holds:=by
  intro x hx
  rcases List.mem_cons.1 hx with e | e
  ·subst e;exact zE o' (kC s.holds.one)
  ·have jT:b≠x.1:=by
    intro e2
    have:=s.nd
    simp only [keys,List.map_cons,List.nodup_cons] at this
    exact this.1 (e2▸List.mem_map_of_mem e)
   rw [zg o' jT];exact s.holds.tail x e
theorem St.call {D D':List Nat} {w0 w w':World} {H R K:ak} (s:St D w0 w (H++R)) (hD:D'=keys H) (t:St D' w w' K):St D w0 w' (K++R) where
 kp:=by
  refine ⟨t.kp.os.trans s.kp.os,t.kp.tape.trans s.kp.tape,t.kp.output.trans s.kp.output,Nat.le_trans s.kp.size t.kp.size,fun b hb hd=>?_⟩
  rw [t.kp.block b (Nat.lt_of_lt_of_le hb s.kp.size) ?_]
  ·exact s.kp.block b hb hd
  ·intro aS
   rw [hD] at aS
   rcases s.own b (by rw [ie];exact List.mem_append.2 (Or.inl aS)) with h | h
   ·omega
   ·exact hd h
 nd:=by
  rw [ie]
  have h1:=s.ma
  refine tZ t.nd h1.nd (fun b hb aS=>?_)
  rcases t.own b hb with h | h
  ·have:=h1.holds.lt aS;omega
  ·rw [hD] at h
   have:=s.nd
   rw [ie] at this
   exact (List.nodup_append.1 this).2.2 b h b aS rfl
 own:=by
  intro b hb
  rw [ie] at hb
  rcases List.mem_append.1 hb with e | e
  ·rcases t.own b e with h | h
   ·exact Or.inl (Nat.le_trans s.kp.size h)
   ·rw [hD] at h;exact s.own b (by rw [ie];exact List.mem_append.2 (Or.inl h))
  ·exact s.own b (by rw [ie];exact List.mem_append.2 (Or.inr e))
 holds:=Holds.app.2 ⟨t.holds,t.kp.holds s.ma.holds (fun b hb aS=>by
  rw [hD] at aS
  have:=s.nd
  rw [ie] at this
  exact (List.nodup_append.1 this).2.2 b aS b hb rfl)⟩
def Cn (w:World) (Φ:Value→ak→Prop):Ending→World→Prop:=fun e w'=>∃ v,e=.returned v∧Gr w w'∧∃ H,Φ v H∧du w w' H
structure Sl (n:Nat) (a:Act) (E:List (Nat×Value)):Prop where
 size:a.tmps.size=n
 defers:a.defers=[]
 at':∀ x ∈ E,a.eval (.tmp x.1)=x.2
theorem D7 (a:Act) (d:Nat) (v:Value) (h:d<a.tmps.size):(a.put (some d) v).eval (.tmp d)=v:=by
 simp [Act.put,Act.eval,Array.getD,h]
theorem D3 (a:Act) (d s:Nat) (v:Value) (h:d≠s):(a.put (some d) v).eval (.tmp s)=a.eval (.tmp s):=by
 simp only [Act.put,Act.eval,Array.getD_eq_getD_getElem?,Array.getElem?_setIfInBounds,if_neg h]
theorem Gg (a:Act) (d:Option Tmp) (v:Value):(a.put d v).tmps.size=a.tmps.size:=by
 cases d<;>simp [Act.put]
theorem put_defers (a:Act) (d:Option Tmp) (v:Value):(a.put d v).defers=a.defers:=by
 cases d<;>simp [Act.put]
def qo:List Value→Nat→List (Nat×Value)
 | [],_=>[]
 | v::r,i=>(i,v)::qo r (i+1)
theorem EZ:∀ (vs:List Value) (i:Nat) (x:Nat×Value),x ∈ qo vs i→i≤x.1∧vs[x.1-i]?=some x.2:=by
 intro vs
 induction vs with
 | nil=>intro i x hx;simp [qo] at hx
 | cons v r ih=>
  intro i x hx
  simp only [qo,List.mem_cons] at hx
  rcases hx with e | e
  ·subst e;simp
  ·obtain ⟨h1,h2⟩:=ih (i+1) x e
   refine ⟨by omega,?_⟩
   rw [show x.1-i=(x.1-(i+1))+1 by omega];simpa using h2
theorem enter {P:Program} {f:FuncId} {fn:Func} {c:Code} {args:List Value} {w:World} {R:Ending→World→Prop}
  (hf:P.funcs[f]?=some fn) (hb:fn.body=some c) {n:Nat} (hn:fn.ntmps=n) (hle:args.length≤n)
  (h:∀ a,Sl n a (qo args 0)→c.wp P (bodyPost P fn R) a w):Calls P f args.toArray w R:=by
 refine calls_of_wp hf hb (h _ ⟨?_,rfl,?_⟩)
 ·simp;omega
 ·intro x hx
  obtain ⟨h1,h2⟩:=EZ args 0 x hx
  simp only [Nat.sub_zero] at h2
  have aO:x.1<args.length:=by
   rcases Nat.lt_or_ge x.1 args.length with h' | h'
   ·exact h'
   ·simp [List.getElem?_eq_none h'] at h2
  rw [List.getElem?_eq_getElem aO] at h2
  simp [Act.eval,Array.getD_eq_getD_getElem?,Array.getElem?_append,aO,Option.some.inj h2]
end Go.Proofs.YtcnpikbbmbombaaGreatDoor
namespace Go.Proofs.YtcnpikbbmbombaaGreatDoor
open Go.RowKit
def aY (P:Program) (o:Oper) (ρ:Operand→Value) (w:World) (Φ:Value→World→Prop):Prop:=
 match (execOp ρ o).run P w with
 | .ok (.value v) w'=>Φ v w'
 | .ok .skip w'=>Φ undef w'
 | .ok (.enter f args) w'=>Calls P f args w' fun e gW=>∃ v,e=.returned v∧Φ v gW
 | .ok (.round l f tmps assign body) w'=>RoundIn Fence.wide 0 P l f tmps assign body w' fun e gW=>∃ v,e=.returned v∧Φ v gW
 | _=>False
abbrev Fl (ro:Option Nat):Fence:={ Fence.wide with round:=ro }
theorem EA {ro:Option Nat} {n:Nat} {P:Program} {f:FuncId} {args:Array Value} {w:World} {R:Ending→World→Prop} (h:Calls P f args w R):CallsIn (Fl ro) n P f args w R:=(callsIn_wide (n:=n)).2 h
theorem aY.CU {ro:Option Nat} {P:Program} {o:Oper} {ρ:Operand→Value} {w:World} {Φ:Value→World→Prop} (h:aY P o ρ w Φ):(o.semAt ro ρ).run P w=(execOp ρ o).run P w:=by
 rw [Oper.semAt_eq]
 intro c hc
 unfold aY at h
 simp only [execOp,hc,Sem.run_bind] at h
 cases hr:(resolve ρ c o.type).run P w with
 | ok v w'=>rw [hr] at h;simp at h
 | halt x w'=>rw [hr] at h;simp [Result.andThen] at h
theorem aY.wp {ro:Option Nat} {P:Program} {o:Oper} {a:Act} {w:World} {Φ:Value→World→Prop} {next:Act→World→Prop} {Q:Exit→Act→World→Prop}
  (h:aY P o a.eval w Φ) (hn:∀ v w',Φ v w'→next (a.put o.dst v) w'):o.wpIn (Fl ro) 0 P a w next Q:=by
 refine ⟨fun _ _=>trivial,?_⟩
 rw [show (Fl ro).round=ro from rfl,h.CU]
 unfold aY at h
 generalize (execOp a.eval o).run P w=r at *
 cases r with
 | ok n w'=>
  cases n
  case value v=>exact hn _ _ h
  case skip=>exact hn _ _ h
  case enter f args=>
   refine ⟨fun hh=>by simp [Fl,Fence.wide] at hh,EA (Calls.mono h ?_)⟩
   rintro e gW ⟨v,rfl,hv⟩
   exact hn _ _ hv
  case round l f tmps assign body=>
   refine ⟨fun hh=>by simp [Fl,Fence.wide] at hh,?_⟩
   have h':RoundIn (Fl ro) 0 P l f tmps assign body w' fun e gW=>∃ v,e=.returned v∧Φ v gW:=h
   refine RoundIn.mono h' ?_
   rintro e gW ⟨v,rfl,hv⟩
   exact hn _ _ hv
  all_goals exact h.elim
 | halt x w'=>exact h.elim
theorem aY.pure {P:Program} {o:Oper} {ρ:Operand→Value} {w w':World} {Φ:Value→World→Prop} {v:Value} (h:(execOp ρ o).run P w=.ok (.value v) w') (hv:Φ v w'):aY P o ρ w Φ:=by
 unfold aY;rw [h];exact hv
theorem aY.skip {P:Program} {o:Oper} {ρ:Operand→Value} {w w':World} {Φ:Value→World→Prop} (h:(execOp ρ o).run P w=.ok .skip w') (hv:Φ undef w'):aY P o ρ w Φ:=by
 unfold aY;rw [h];exact hv
theorem aY.call {P:Program} {o:Oper} {ρ:Operand→Value} {w:World} {Φ:Value→World→Prop} {f:FuncId} {args:Array Value} (h:(execOp ρ o).run P w=.ok (.enter f args) w) (hv:Calls P f args w fun e w'=>∃ v,e=.returned v∧Φ v w'):aY P o ρ w Φ:=by
 unfold aY;rw [h];exact hv
theorem aY.mono {P:Program} {o:Oper} {ρ:Operand→Value} {w:World} {Φ Ψ:Value→World→Prop} (h:aY P o ρ w Φ) (hi:∀ v w',Φ v w'→Ψ v w'):aY P o ρ w Ψ:=by
  unfold aY at *
  generalize (execOp ρ o).run P w=r at *
  cases r with
  | ok n w'=>
    cases n<;>simp only at h ⊢<;>first
      | exact hi _ _ h
      | (refine Calls.mono h ?_
         rintro e gW ⟨v,rfl,hv⟩
         exact ⟨v,rfl,hi _ _ hv⟩)
      | (refine RoundIn.mono h ?_
         rintro e gW ⟨v,rfl,hv⟩
         exact ⟨v,rfl,hi _ _ hv⟩)
  | halt x w'=>exact h.elim
def qp (ops:Array Oper) (i:Nat):Option Tmp:=(ops[i]?).bind (·.dst)
abbrev pl (f:Value→ak→Prop):List Value→Value→ak→Prop:=fun _=>f
def blk (o:Obj):Value→ak→Prop:=fun v H=>∃ b,v=.pointer (some ⟨b,0,none⟩)∧H=[(b,o)]
def done (L:Array Bool) (i:Nat):Prop:=L.getD i true=true
variable {P:Program} {ops:Array Oper} {Q:Exit→Act→World→Prop} {ro:Option Nat}
theorem zh {a:Act} {j d:Nat} (hd:qp ops j=some d) (hs:d<a.tmps.size):yielded ops a.tmps j=match a.eval (.tmp d) with | .bool b=>some b | _=>none:=by
 unfold yielded
 unfold qp at hd
 rw [hd]
 simp only [Option.bind_some,Act.eval,Array.getD_eq_getD_getElem?,Array.getElem?_eq_getElem hs,Option.getD_some]
 cases a.tmps[d]<;>rfl
def j6 (ro:Option Nat) (P:Program) (ops:Array Oper) (Q:Exit→Act→World→Prop) (Rk:World→Prop):Nat→Array Bool→Act→World→Prop
 | 0,L,a,w=>Rk w∧Region.ready .any ops L=[]∧Q .normal a w
 | fuel+1,L,a,w=>Rk w∧(Region.ready .any ops L=[]→Q .normal a w)∧∀ i ∈ Region.ready .any ops L,wpOpIn (Fl ro) 0 P ops Q i (j6 ro P ops Q Rk fuel (L.setIfInBounds i true)) a w
theorem j6.rk {Rk:World→Prop} {fuel:Nat} {L:Array Bool} {a:Act} {w:World} (h:j6 ro P ops Q Rk fuel L a w):Rk w:=by cases fuel<;>exact h.1
theorem j6.to {Rk:World→Prop}:∀ {fuel:Nat} {L:Array Bool} {a:Act} {w:World},j6 ro P ops Q Rk fuel L a w→wpAnyIn (Fl ro) 0 P .any ops Q fuel L a w
 | 0,_,_,_,h=>h.2
 | _+1,_,_,_,h=>⟨h.2.1,fun i hi=>wpOpIn_mono (fun _ _ h=>j6.to h) (h.2.2 i hi)⟩
theorem HS {o:Oper} {ρ:Operand→Value} {v:Value} {w w':World} (h:(execOp ρ o).run P w=.ok (.value v) w'):(o.semAt ro ρ).run P w=.ok (.value v) w':=by rw [(aY.pure (Φ:=fun _ _=>True) h trivial).CU];exact h
theorem E4 (o:Oper) (hs:∀ cs b,o.op≠.select cs b) (a:Act) (dst:Option Tmp) (v:Value) (h:∀ d,dst=some d→d ∉ o.looksAt ops):o.semAt ro (a.put dst v).eval=o.semAt ro a.eval:=by
 have e:=execOp_put o hs a dst v h
 unfold Oper.semAt
 cases ro with
 | none=>exact e
 | some l=>
  cases ho:o.op<;>first | exact e | skip
  rename_i c
  have e2:=resolve_congr (ρ:=(a.put dst v).eval) (ρ':=a.eval) c o.type (fun x hx=>Act.eval_put fun d hd Nq=>h d hd (by
   subst Nq
   exact List.mem_append_left _ (List.mem_filterMap.2 ⟨.tmp d,by rw [ho];simpa [Op.operands] using hx,rfl⟩)))
  simp only [e2]
theorem y5 {Y:Act→Prop} {j:Nat} {oi oj:Oper} {v:Value} (hj:ops[j]?=some oj) (lP:oi.apart ops oj=true) (Nr:∀ cs b,oj.op≠.select cs b)
  (cE:∀ a,Y a→∀ u,Y (a.put oj.dst u)) (KM:∀ a d,Y a→Y { a with defers:=d::a.defers })
  (hQ:∀ c a w,Q (.panic c) (a.put oi.dst v) w→Q (.panic c) a w) {K:Act→World→Prop} {a:Act} {w:World}
  (hy:Y a) (h:Go.wpOpIn (Fl ro) 0 P ops Q j K (a.put oi.dst v) w):Go.wpOpIn (Fl ro) 0 P ops Q j (fun a' w'=>Y a'∧K (a'.put oi.dst v) w') a w:=by
 obtain ⟨h1,h2,h3⟩:=Oper.apart_spec lP
 unfold Go.wpOpIn at *
 simp only [hj] at *
 rw [wanted_put oj a oi.dst v h1] at h
 split
 ·rename_i hw
  simp only [hw,if_true] at h
  refine ⟨fun _ _=>trivial,?_⟩
  replace h:=h.2
  rw [E4 oj Nr a oi.dst v h1] at h
  generalize (oj.semAt (Fl ro).round a.eval).run P w=r at *
  cases r with
  | ok n w'=>
   cases n<;>simp only [Oper.uponIn] at h ⊢
   case value u=>exact ⟨cE a hy u,by rw [← Act.put_comm a v u h2];exact h⟩
   case skip=>exact ⟨cE a hy _,by rw [← Act.put_comm a v undef h2];exact h⟩
   case defer d=>
    refine ⟨cE _ (KM a d hy) _,?_⟩
    rw [← Act.put_comm _ v undef h2,← Act.put_defers]
    exact h
   case enter f args=>
    refine ⟨h.1,CallsIn.mono h.2 fun e gW he=>?_⟩
    cases e with
    | returned u=>exact ⟨cE a hy u,by rw [← Act.put_comm a v u h2];exact he⟩
    | panicked c=>exact hQ _ _ _ he
    | outgrown=>exact he
   case row row args=>exact ⟨h.1,RowsIn.mono h.2 fun u gW he=>⟨cE a hy u,by rw [← Act.put_comm a v u h2];exact he⟩⟩
   case round l f tmps assign body=>
    refine ⟨h.1,RoundIn.mono h.2 fun e gW he=>?_⟩
    cases e with
    | returned u=>exact ⟨cE a hy u,by rw [← Act.put_comm a v u h2];exact he⟩
    | panicked c=>exact hQ _ _ _ he
    | outgrown=>exact he
  | halt x w'=>
   cases x<;>simp only [Oper.uponIn] at h ⊢
   case panic u=>exact hQ _ _ _ h
 ·rename_i hw
  simp only [hw] at h
  exact ⟨fun _ _=>trivial,cE a hy _,by rw [← Act.put_comm a v undef h2];exact h.2⟩
def iU (P:Program) (ops:Array Oper) (Q:Exit→Act→World→Prop):List (Oper×Bool)→Act→World→Prop
 | [],a,w=>Q .normal a w
 | (o,pu)::r,a,w=>bif pu then o.guard=none∧∃ v,(∀ w',(execOp a.eval o).run P w'=.ok (.value v) w')∧iU P ops Q r (a.put o.dst v) w
  else match o.guard with
   | none=>aY P o a.eval w (fun v w'=>iU P ops Q r (a.put o.dst v) w')
   | some (j,want)=>(yielded ops a.tmps j=some want→aY P o a.eval w (fun v w'=>iU P ops Q r (a.put o.dst v) w'))∧(yielded ops a.tmps j≠some want→iU P ops Q r (a.put o.dst undef) w)
def pick (ops:Array Oper):List (Nat×Bool)→List (Oper×Bool)
 | []=>[]
 | (i,pu)::r=>match ops[i]? with
  | some o=>(o,pu)::pick ops r
  | none=>pick ops r
theorem Js {o:Oper} {pu:Bool} {r:List (Oper×Bool)} {i:Nat} (ho:ops[i]?=some o) {a:Act} {w:World} {K:Act→World→Prop} (hK:∀ a w,iU P ops Q r a w→K a w) (h:iU P ops Q ((o,pu)::r) a w):wpOpIn (Fl ro) 0 P ops Q i K a w:=by
 unfold wpOpIn
 simp only [ho]
 unfold iU at h
 cases pu with
 | true=>
  simp only [cond_true] at h
  obtain ⟨hg,v,hv,h⟩:=h
  simp only [Region.wanted,hg,if_true]
  exact aY.wp (Φ:=fun v w'=>iU P ops Q r (a.put o.dst v) w') (aY.pure (hv w) h) (fun v w' h=>hK _ _ h)
 | false=>
  simp only [cond_false] at h
  cases hg:o.guard with
  | none=>
   rw [hg] at h
   simp only [Region.wanted,hg,if_true]
   exact aY.wp h (fun v w' h=>hK _ _ h)
  | some g=>
   obtain ⟨j,want⟩:=g
   rw [hg] at h
   simp only [Region.wanted,hg]
   by_cases hy:yielded ops a.tmps j=some want
   ·rw [if_pos (by simp [hy])]
    exact aY.wp (h.1 hy) (fun v w' h=>hK _ _ h)
   ·rw [if_neg (by simp [hy])]
    exact ⟨fun _ _=>trivial,hK _ _ (h.2 hy)⟩
theorem E5:∀ (l:List Nat) (os:List Oper) (a:Act) (w:World),l.map (fun i=>ops[i]?)=os.map some→iU P ops Q (os.map (·,false)) a w→wpOpsIn (Fl ro) 0 P ops Q l a w:=by
 intro l
 induction l with
 | nil=>intro os a w h hl;cases os with
  | nil=>exact hl
  | cons=>simp at h
 | cons i r ih=>
  intro os a w h hl
  cases os with
  | nil=>simp at h
  | cons o os=>
   simp only [List.map_cons,List.cons.injEq] at h
   rw [wpOpsIn_cons]
   exact Js h.1 (fun a w h'=>ih os a w h.2 h') hl
theorem Eh {id:Nat} {a:Act} {w:World} (h:iU P ops Q (ops.toList.map (·,false)) a w):(Code.region id ops false).wpIn (Fl ro) 0 P Q a w:=by
 refine wpIn_region (E5 _ ops.toList a w ?_ h)
 apply List.ext_getElem?
 intro i
 simp only [List.getElem?_map,Array.getElem?_toList]
 rcases Nat.lt_or_ge i ops.size with hi | hi
 ·simp [List.getElem?_range hi,hi]
 ·simp [hi]
end Go.Proofs.YtcnpikbbmbombaaGreatDoor
namespace Go.Proofs.YtcnpikbbmbombaaGreatDoor
open Go.Maps
section
variable {κ:Type} [DecidableEq κ]
def look (tq:List (κ×Value)) (k:κ):Option Value:=(tq.find? (fun x=>decide (x.1=k))).map (·.2)
def drop (tq:List (κ×Value)) (k:κ):List (κ×Value):=tq.filter (fun x=>!decide (x.1=k))
end
section
variable {κ:Type} [DecidableEq κ] {P:Program} {K e t:TypeId} {enc:κ→Value} {o:Obj} {tq:List (κ×Value)} {w:World} {r:Nat}
omit [DecidableEq κ] in
end
end Go.Proofs.YtcnpikbbmbombaaGreatDoor
namespace Go.Proofs.YtcnpikbbmbombaaGreatDoor
open Go.RowKit
section
variable {P:Program} {ρ:Operand→Value} {w:World} {Φ:Value→World→Prop} {d:Option Tmp} {ty:TypeId} {pos:String} {aft:Array Edge} {gd:Option (Nat×Bool)}
def nq (P:Program) (s:TypeId) (f:Nat):Option Nat:=
 match P.underlying s with
 | some (.struct fs)=>match fs[f]? with
  | some x=>match P.info? x.type with
   | some i=>if i.size=0 then none else some x.offset
   | none=>none
  | none=>none
 | _=>none
theorem Ei {s:TypeId} {f off:Nat} (hf:nq P s f=some off) (a:Addr):(Instr.fieldAt s (.pointer (some a)) f).run P w=.ok (.pointer (some (a.add off))) w:=by
 unfold nq at hf
 cases hu:P.underlying s with
 | none=>simp [hu] at hf
 | some u=>
  cases u<;>simp only [hu] at hf<;>try contradiction
  rename_i fs
  cases hx:fs[f]? with
  | none=>simp [hx] at hf
  | some x=>
   simp only [hx] at hf
   cases hi:P.info? x.type with
   | none=>simp [hi] at hf
   | some i=>
    simp only [hi] at hf
    split at hf
    ·contradiction
    ·rename_i bA
     cases hf
     simp only [Instr.fieldAt,Sem.run_bind,run_underlying hu,Result.andThen_ok,hx,Instr.sureAddr,Sem.run_pure,fieldPlace,sizeOf,typeInfo,run_program,hi,bA,if_false]
theorem add_eq (b i n:Nat):(⟨b,i,none⟩:Addr).add n=⟨b,i+n,none⟩:=by
 unfold Addr.add;split
 ·rename_i h;subst h;rfl
 ·rfl
theorem Jt {x:Operand} {v:Value} (h:ρ x=v):(execOp ρ ⟨d,.move x,ty,pos,aft,gd⟩).run P w=.ok (.value v) w:=by subst h;rfl
theorem Gh {x:Operand} {v:Value} (h:ρ x=v):(execOp ρ ⟨d,.assign x,ty,pos,aft,gd⟩).run P w=.ok (.value v) w:=by subst h;rfl
theorem EB {x:Operand} {a:Addr} (h:ρ x=.pointer (some a)):(execOp ρ ⟨d,.nilCheck x,ty,pos,aft,gd⟩).run P w=.ok (.value (.pointer (some a))) w:=by simp only [execOp,h];rfl
theorem E6 {x:Operand} {vs:Array Value} {i:Nat} {v:Value} (h:ρ x=.tuple vs) (hv:vs[i]?=some v):(execOp ρ ⟨d,.extract x i,ty,pos,aft,gd⟩).run P w=.ok (.value v) w:=by simp only [execOp,h,Instr.extract,hv];rfl
def scalar (P:Program) (t:TypeId):Bool:=match P.underlying t with | some (.struct _)=>false | some (.array _ _)=>false | some _=>true | none=>false
theorem yV {t:TypeId} (h:scalar P t=true):(isAgg t).run P w=.ok false w:=by
 unfold scalar at h
 cases hu:P.underlying t with
 | none=>simp [hu] at h
 | some u=>cases u<;>simp [hu] at h<;>simp [isAgg,Sem.run_bind,run_underlying hu]
theorem DY {t:TypeId} {a:Addr} {v:Value} (ht:scalar P t=true) (hc:w.cell? a=some v):(Instr.loadAt t (.pointer (some a))).run P w=.ok v w:=by
 simp [Instr.loadAt,Instr.sureAddr,loadVar,Sem.run_bind,yV ht,load,Sem.run,hc]
def mn (P:Program) (t:TypeId) (n:Nat):Bool:=(match P.underlying t with | some (.struct _)=>true | some (.array _ _)=>true | _=>false)&&(match P.info? t with | some i=>i.size==n | none=>false)
theorem run_loadCellsFrom {a:Addr} {vs:List Value}:∀ (i:Nat) (acc:Array Value),(∀ j (hj:j<vs.length),w.cell? (a.add (i+j))=some vs[j])→(loadCellsFrom a i vs.length acc).run P w=.ok (acc++vs.toArray) w:=by
 induction vs with
 | nil=>intro i acc _;simp [loadCellsFrom]
 | cons v r ih=>
  intro i acc h
  have h0:=h 0 (by simp)
  simp only [Nat.add_zero,List.getElem_cons_zero] at h0
  have hl:(load (a.add i)).run P w=.ok v w:=by simp [load,Sem.run,h0]
  simp only [List.length_cons,loadCellsFrom,Sem.run_bind,hl,Result.andThen_ok]
  rw [ih (i+1) (acc.push v) (fun j hj=>by have:=h (j+1) (by simp;omega);rw [show i+1+j=i+(j+1) by omega];simpa using this)]
  simp
theorem yY {t:TypeId} {n:Nat} (h:mn P t n=true):(isAgg t).run P w=.ok true w∧(sizeOf t).run P w=.ok n w:=by
 unfold mn at h
 simp only [Bool.and_eq_true] at h
 constructor
 ·cases hu:P.underlying t with
  | none=>simp [hu] at h
  | some u=>cases u<;>simp [hu] at h<;>simp [isAgg,Sem.run_bind,run_underlying hu]
 ·cases hi:P.info? t with
  | none=>simp [hi] at h
  | some i=>
   simp only [hi,beq_iff_eq] at h
   simp [sizeOf,typeInfo,Sem.run_bind,hi,h.2]
theorem D4 {t:TypeId} {a:Addr} {vs:List Value} (ht:mn P t vs.length=true) (hc:∀ j (hj:j<vs.length),w.cell? (a.add j)=some vs[j]):(Instr.loadAt t (.pointer (some a))).run P w=.ok (.agg vs.toArray) w:=by
 have h:=run_loadCellsFrom (P:=P) (w:=w) (a:=a) (vs:=vs) 0 #[] (by simpa using hc)
 simp [Instr.loadAt,Instr.sureAddr,loadVar,Sem.run_bind,(yY (w:=w) ht).1,(yY (w:=w) ht).2,loadCells,h]
theorem EC {t:TypeId} {z:Value} (hz:(zeroValue t).run P w=.ok z w):(Instr.alloc t true (.tuple #[])).run P w=.ok (.pointer (some ⟨w.heap.size,0,none⟩)) (w.alloc (.cells z.cells t)):=by
 simp [Instr.alloc,Sem.run_bind,hz,newVar,newRow,newObj,Sem.run]
theorem HT {t:TypeId} {z:Value} (hz:(zeroValue t).run P w=.ok z w) (aG:Φ (.pointer (some ⟨w.heap.size,0,none⟩)) (w.alloc (.cells z.cells t))):aY P ⟨d,.alloc t,ty,pos,aft,gd⟩ ρ w Φ:=
 .pure (by simp only [execOp,Sem.run_bind,EC hz,Result.andThen_ok,Sem.run_pure]) aG
theorem zX {t:TypeId} {z:Value} (hz:(zeroValue t).run P w=.ok z w) (aG:∀ b w',Gr w w'→du w w' [(b,.cells z.cells t)]→Φ (.pointer (some ⟨b,0,none⟩)) w'):aY P ⟨d,.alloc t,ty,pos,aft,gd⟩ ρ w Φ:=
 HT hz (aG _ _ (Gr.alloc _ _) (du.alloc _ _))
theorem KN {t:TypeId} {x:Operand} {v:Value} (h:ρ x=v) (aG:Φ (.pointer (some ⟨w.heap.size,0,none⟩)) (w.alloc (.cells v.cells t))):aY P ⟨d,.box t x,ty,pos,aft,gd⟩ ρ w Φ:=
 .pure (v:=.pointer (some ⟨w.heap.size,0,none⟩)) (w':=w.alloc (.cells v.cells t)) (by simp [execOp,h,Instr.box,Sem.run_bind,newVar,newRow,newObj,Sem.run]) aG
theorem Ju {t:TypeId} {x:Operand} {v:Value} (h:ρ x=v) (aG:∀ b w',Gr w w'→du w w' [(b,.cells v.cells t)]→Φ (.pointer (some ⟨b,0,none⟩)) w'):aY P ⟨d,.box t x,ty,pos,aft,gd⟩ ρ w Φ:=
 KN h (aG _ _ (Gr.alloc _ _) (du.alloc _ _))
def Fz (fz:Nat×Nat) (n:Nat):Prop:=∀ i,i<n→¬ (fz.1≤i∧i<fz.2)
theorem kl (n:Nat):Fz (0,0) n:=fun i _ h=>by have:=h.2;simp at this
def bf:Value→Bool
 | .agg _ | .tuple _=>false
 | _=>true
theorem run_store {b i:Nat} {c:Array Value} {t:TypeId} {v:Value} {fz:Nat×Nat} (hb:w.heap[b]?=some (.cells c t fz)) (hi:i<c.size) (hv:bf v=true) (hz:Fz fz c.size:=by first | exact kl _ | assumption):(store ⟨b,i,none⟩ v).run P w=.ok () (cg w b (.cells (c.setIfInBounds i v) t fz)):=by
 have hc:w.cell? ⟨b,i,none⟩=some c[i]:=by rw [cell_of hb];simp [hi]
 have hf:w.frozen? ⟨b,i,none⟩=false:=by
  obtain ⟨lo,pj⟩:=fz
  have:=hz i hi
  simp only [World.frozen?,hb];simpa using this
 rw [← setCell_eq hb]
 cases v<;>simp [bf] at hv<;>simp [store,Sem.run,hc,hf]
def cm (c:Array Value):Nat→List Value→Array Value
 | _,[]=>c
 | i,v::r=>cm (c.setIfInBounds i v) (i+1) r
theorem iE (c:Array Value) (i:Nat) (vs:List Value):(cm c i vs).size=c.size:=by
 induction vs generalizing c i with
 | nil=>rfl
 | cons v r ih=>rw [cm,ih];simp
theorem E7 (w:World) (b:Nat) (o o':Obj):cg (cg w b o) b o'=cg w b o':=by
 simp [cg]
theorem yW {b:Nat} {t:TypeId} {fz:Nat×Nat}:∀ (vs:List Value) (w:World) (c:Array Value) (i j:Nat),w.heap[b]?=some (.cells c t fz)→i+j+vs.length≤c.size→(∀ v ∈ vs,bf v=true)→Fz fz c.size→(storeCells ⟨b,i,none⟩ vs j).run P w=.ok () (cg w b (.cells (cm c (i+j) vs) t fz))
 | [],w,c,i,j,hb,_,_,_=>by
  have:cg w b (.cells c t fz)=w:=by
   unfold cg
   have aO:=kC hb
   have:w.heap.setIfInBounds b (.cells c t fz)=w.heap:=by
    apply Array.ext_getElem?
    intro k
    rw [Array.getElem?_setIfInBounds]
    by_cases e:b=k
    ·subst e;simp [aO];rw [Array.getElem?_eq_getElem aO] at hb;exact (Option.some.inj hb).symm
    ·simp [e]
   rw [this]
  simp [storeCells,cm,this]
 | v::r,w,c,i,j,hb,hl,hv,hz=>by
  simp only [List.length_cons] at hl
  have ha:(⟨b,i,none⟩:Addr).add j=⟨b,i+j,none⟩:=by
   unfold Addr.add;split
   ·rename_i h;subst h;rfl
   ·rfl
  have h1:=run_store (P:=P) hb (show i+j<c.size by omega) (hv v (by simp))
  have h2:=yW r (cg w b (.cells (c.setIfInBounds (i+j) v) t fz)) (c.setIfInBounds (i+j) v) i (j+1) (zE _ (kC hb)) (by simp;omega) (fun x hx=>hv x (by simp [hx])) (by simpa using hz)
  simp only [storeCells,Sem.run_bind,ha,h1,Result.andThen_ok,h2,E7]
  rfl
theorem pR {b:Nat} {t:TypeId} {fz:Nat×Nat} (vs:List Value) (w:World) (c:Array Value) (i j:Nat) (hb:w.heap[b]?=some (.cells c t fz)) (hl:i+j+vs.length≤c.size) (hv:∀ v ∈ vs,bf v=true) (hz:Fz fz c.size:=by first | exact kl _ | assumption):(storeCells ⟨b,i,none⟩ vs j).run P w=.ok () (cg w b (.cells (cm c (i+j) vs) t fz)):=yW vs w c i j hb hl hv hz
theorem Ej {b i:Nat} {c:Array Value} {t u:TypeId} {v:Value} {n:Nat} {fz:Nat×Nat} (hn:(P.info? u).map (·.size)=some n) (hb:w.heap[b]?=some (.cells c t fz)) (hv:v.cells.size=n) (hi:i+n≤c.size) (dK:∀ x ∈ v.cells.toList,bf x=true) (hz:Fz fz c.size:=by first | exact kl _ | assumption):
  (Instr.storeAt u (.pointer (some ⟨b,i,none⟩)) v).run P w=.ok () (cg w b (.cells (cm c i v.cells.toList) t fz)):=by
 cases eH:P.info? u with
 | none=>simp [eH] at hn
 | some inf=>
  simp only [eH,Option.map_some,Option.some.injEq] at hn
  have hs:(sizeOf u).run P w=.ok n w:=by simp [sizeOf,typeInfo,Sem.run_bind,eH,hn]
  have h:=pR (P:=P) v.cells.toList w c i 0 hb (by simp [hv];omega) dK hz
  simp only [Instr.storeAt,Instr.sureAddr,Sem.run_bind,Sem.run_pure,Result.andThen_ok,storeVar,hs,hv,ne_eq,not_true_eq_false,if_false]
  simpa using h
theorem uN {u:TypeId} {x y:Operand} {b i:Nat} {c:Array Value} {t:TypeId} {v:Value} {fz:Nat×Nat} (n:Nat) (hn:(P.info? u).map (·.size)=some n) (hx:ρ x=.pointer (some ⟨b,i,none⟩)) (hy:ρ y=v) (hb:w.heap[b]?=some (.cells c t fz)) (hv:v.cells.size=n) (hi:i+n≤c.size) (dK:∀ x ∈ v.cells.toList,bf x=true)
  (aG:Φ undef (cg w b (.cells (cm c i v.cells.toList) t fz))) (hz:Fz fz c.size:=by first | exact kl _ | assumption):aY P ⟨d,.store u x y,ty,pos,aft,gd⟩ ρ w Φ:=
 .skip (by simp only [execOp,hx,hy,Sem.run_bind,Ej hn hb hv hi dK hz,Result.andThen_ok,Sem.run_pure]) aG
theorem Eb {f:FuncId} {fn:Func} (hf:P.funcs[f]?=some fn) (hb:fn.body.isSome=true) (hn:(fn.name == "runtime.NumGoroutine")=false) (args:Array Value):(callFunc f args).run P w=.ok (.enter f args) w:=by
 have h1:¬ fn.body=none:=by cases hx:fn.body<;>simp_all
 have h2:¬ fn.name = "runtime.NumGoroutine":=by simpa using hn
 simp [callFunc,Sem.run_bind,hf,h1,h2]
def ig (P:Program) (f:FuncId):Bool:=match P.funcs[f]? with | some fn=>fn.body.isSome&&!(fn.name == "runtime.NumGoroutine") | none=>false
theorem zY {f:FuncId} (h:ig P f=true) (args:Array Value):(callFunc f args).run P w=.ok (.enter f args) w:=by
 unfold ig at h
 cases hf:P.funcs[f]? with
 | none=>simp [hf] at h
 | some fn=>simp only [hf,Bool.and_eq_true,Bool.not_eq_true'] at h;exact Eb hf h.1 h.2 args
theorem pX {g:Operand} {args:Array Operand} {e7:Array TypeId} {f:FuncId} {vs cu:Array Value} (hg:ρ g=.func (.func f) #[] cu) (hf:ig P f=true) (ha:args.map ρ=vs)
  (aG:Calls P f (vs++cu) w fun e w'=>∃ v,e=.returned v∧Φ v w'):aY P ⟨d,.call ⟨.value g,args,e7⟩,ty,pos,aft,gd⟩ ρ w Φ:=
 .call (f:=f) (args:=vs++cu) (by simp [execOp,resolve,hg,ha,Deferred.ofValue,invoke,zY hf]) aG
theorem KO {t t':TypeId} {x y:Operand} {k:IntKind} {a b:Int} {c:Bool} (h:ρ x=.int k a) (h':ρ y=.int k b) (hc:(a==b)=c) (aG:Φ (.bool c) w):aY P ⟨d,.binOp .eql t x y t',ty,pos,aft,gd⟩ ρ w Φ:=by
 subst hc;exact .pure (v:=.bool (a==b)) (by simp [execOp,h,h',eqGuard,binOp,Op.intCmp]) aG
theorem KP {t t':TypeId} {x y:Operand} {k:IntKind} {a b:Int} {c:Bool} (h:ρ x=.int k a) (h':ρ y=.int k b) (hc:(a != b)=c) (aG:Φ (.bool c) w):aY P ⟨d,.binOp .neq t x y t',ty,pos,aft,gd⟩ ρ w Φ:=by
 subst hc;exact .pure (v:=.bool (a != b)) (by simp [execOp,h,h',eqGuard,binOp,Op.intCmp]) aG
theorem KQ {t t':TypeId} {x y:Operand} {k:IntKind} {a b:Int} {c:Bool} (h:ρ x=.int k a) (h':ρ y=.int k b) (hc:(decide (a<b))=c) (aG:Φ (.bool c) w):aY P ⟨d,.binOp .lss t x y t',ty,pos,aft,gd⟩ ρ w Φ:=by
 subst hc;exact .pure (v:=.bool (decide (a<b))) (by simp [execOp,h,h',eqGuard,binOp,Op.intCmp]) aG
theorem KR {t t':TypeId} {x y:Operand} {k:IntKind} {a b:Int} {c:Bool} (h:ρ x=.int k a) (h':ρ y=.int k b) (hc:(decide (a≤b))=c) (aG:Φ (.bool c) w):aY P ⟨d,.binOp .leq t x y t',ty,pos,aft,gd⟩ ρ w Φ:=by
 subst hc;exact .pure (v:=.bool (decide (a≤b))) (by simp [execOp,h,h',eqGuard,binOp,Op.intCmp]) aG
theorem KS {t t':TypeId} {x y:Operand} {k:IntKind} {a b:Int} {c:Bool} (h:ρ x=.int k a) (h':ρ y=.int k b) (hc:(decide (b<a))=c) (aG:Φ (.bool c) w):aY P ⟨d,.binOp .gtr t x y t',ty,pos,aft,gd⟩ ρ w Φ:=by
 subst hc;exact .pure (v:=.bool (decide (b<a))) (by simp [execOp,h,h',eqGuard,binOp,Op.intCmp]) aG
theorem KT {t t':TypeId} {x y:Operand} {k:IntKind} {a b:Int} {c:Bool} (h:ρ x=.int k a) (h':ρ y=.int k b) (hc:(decide (b≤a))=c) (aG:Φ (.bool c) w):aY P ⟨d,.binOp .geq t x y t',ty,pos,aft,gd⟩ ρ w Φ:=by
 subst hc;exact .pure (v:=.bool (decide (b≤a))) (by simp [execOp,h,h',eqGuard,binOp,Op.intCmp]) aG
theorem KU {t t':TypeId} {x y:Operand} {k:IntKind} {a b c:Int} (h:ρ x=.int k a) (h':ρ y=.int k b) (hc:k.wrap (a+b)=c) (aG:Φ (.int k c) w):aY P ⟨d,.binOp .add t x y t',ty,pos,aft,gd⟩ ρ w Φ:=by
 subst hc;exact .pure (v:=.int k (k.wrap (a+b))) (by simp [execOp,h,h',eqGuard,binOp,Op.intArith]) aG
theorem KV {t t':TypeId} {x y:Operand} {k:IntKind} {a b c:Int} (h:ρ x=.int k a) (h':ρ y=.int k b) (hc:k.wrap (a-b)=c) (aG:Φ (.int k c) w):aY P ⟨d,.binOp .sub t x y t',ty,pos,aft,gd⟩ ρ w Φ:=by
 subst hc;exact .pure (v:=.int k (k.wrap (a-b))) (by simp [execOp,h,h',eqGuard,binOp,Op.intArith]) aG
theorem KW {t t':TypeId} {x y:Operand} {k:IntKind} {a b c:Int} (h:ρ x=.int k a) (h':ρ y=.int k b) (hc:min a b=c) (aG:Φ (.int k c) w):aY P ⟨d,.call ⟨.builtin .min,#[x,y],#[t,t']⟩,ty,pos,aft,gd⟩ ρ w Φ:=by
 have:(if b<a then b else a)=c:=by subst hc;split<;>omega
 subst this;exact .pure (v:=.int k (if b<a then b else a)) (by simp [execOp,resolve,h,h',invoke,builtin,Builtin.min_,Builtin.min2]) aG
theorem KX {t t':TypeId} {x y:Operand} {k:IntKind} {a b c:Int} (h:ρ x=.int k a) (h':ρ y=.int k b) (hc:max a b=c) (aG:Φ (.int k c) w):aY P ⟨d,.call ⟨.builtin .max,#[x,y],#[t,t']⟩,ty,pos,aft,gd⟩ ρ w Φ:=by
 have:(if a<b then b else a)=c:=by subst hc;split<;>omega
 subst this;exact .pure (v:=.int k (if a<b then b else a)) (by simp [execOp,resolve,h,h',invoke,builtin,Builtin.max_,Builtin.max2]) aG
theorem KY {t:TypeId} {x:Operand} {b c:Bool} (h:ρ x=.bool b) (hc:(!b)=c) (aG:Φ (.bool c) w):aY P ⟨d,.unOp .not t x,ty,pos,aft,gd⟩ ρ w Φ:=by
 subst hc;exact .pure (v:=.bool (!b)) (by simp [execOp,h,Op.unary]) aG
theorem AH {c x y:Operand} {v:Value} (h:ρ c=.bool true) (hx:ρ x=v) (aG:Φ v w):aY P ⟨d,.pick c x y,ty,pos,aft,gd⟩ ρ w Φ:=
 .pure (by simp [execOp,h,hx,asBool]) aG
theorem AI {c x y:Operand} {v:Value} (h:ρ c=.bool false) (hx:ρ y=v) (aG:Φ v w):aY P ⟨d,.pick c x y,ty,pos,aft,gd⟩ ρ w Φ:=
 .pure (by simp [execOp,h,hx,asBool]) aG
theorem Jv {c x y:Operand} {b:Bool} {u v:Value} (h:ρ c=.bool b) (hx:ρ x=u) (hy:ρ y=v) (aG:Φ (if b then u else v) w):aY P ⟨d,.pick c x y,ty,pos,aft,gd⟩ ρ w Φ:=
 .pure (by simp [execOp,h,hx,hy,asBool]) aG
theorem Jw {x:Operand} {t e:TypeId} {a:Option Addr} {n c:Nat} (ht:P.underlying t=some (.slice e)) (h:ρ x=.slice a n c) (aG:Φ (.int .i64 n) w):aY P ⟨d,.call ⟨.builtin .len,#[x],#[t]⟩,ty,pos,aft,gd⟩ ρ w Φ:=
 .pure (v:=.int .i64 n) (by simp [execOp,resolve,h,invoke,builtin,Builtin.len_,Sem.run_bind,run_underlying ht,goInt]) aG
theorem tU {x:Operand} {t t' e:TypeId} {o:Option Addr} {n k:Nat} {c:Bool} (ht:P.underlying t=some (.slice e)) (h:ρ x=.slice o n k) (hn:ρ (.const (.slice none 0 0))=.slice none 0 0) (hc:o.isNone=c) (aG:Φ (.bool c) w):aY P ⟨d,.binOp .eql t x (.const (.slice none 0 0)) t',ty,pos,aft,gd⟩ ρ w Φ:=by
 subst hc
 refine .pure (v:=.bool o.isNone) ?_ aG
 have:∀ m,(Op.equalIn (m+1) t (.slice o n k) (.slice none 0 0)).run P w=.ok o.isNone w:=by
  intro m;cases o<;>simp [Op.equalIn,Sem.run_bind,run_underlying ht]
 simp [execOp,h,hn,eqGuard,binOp,Op.equal,Op.maxDepth,this 9999]
theorem Gi {x:Operand} {t t':TypeId} {o:Option Addr} {c:Bool} (ht:P.underlying t=some (.pointer (P.pointee t))) (h:ρ x=.pointer o) (hn:ρ (.const (.pointer none))=.pointer none) (hc:o.isNone=c) (aG:Φ (.bool c) w):aY P ⟨d,.binOp .eql t x (.const (.pointer none)) t',ty,pos,aft,gd⟩ ρ w Φ:=by
 subst hc
 exact .pure (v:=.bool o.isNone) (by simp [execOp,h,hn,eqGuard,binOp,Op.equal,Op.maxDepth,run_equalIn_pointer_nil w 9999 t o ht]) aG
end
section
variable {P:Program} {w:World} {a:Act}
def qq (P:Program) (w:World) (a:Act):List ResultVar→List Value→Prop
 | [],[]=>True
 | .tmp t::r,v::vs=>a.eval (.tmp t)=v∧qq P w a r vs
 | .cell t ty::r,v::vs=>(∃ ad,a.eval (.tmp t)=.pointer (some ad)∧(loadVar ty ad).run P w=.ok v w)∧qq P w a r vs
 | _,_=>False
def sV (t:Array Value):ResultVar→Sem Value
 | .tmp s=>pure (t.getD s undef)
 | .cell s ty=>do loadVar ty (← asAddr (t.getD s undef))
theorem uo:∀ (rs:List ResultVar) (vs:List Value),qq P w a rs vs→(rs.mapM (sV a.tmps)).run P w=.ok vs w
 | [],[],_=>by simp
 | .tmp t::r,v::vs,h=>by
  have h1:a.tmps.getD t undef=v:=h.1
  have ih:=uo r vs h.2
  simp only [List.mapM_cons,Sem.run_bind,sV,h1,Sem.run_pure,Result.andThen_ok,ih]
 | .cell t ty::r,v::vs,h=>by
  obtain ⟨⟨ad,h1,h2⟩,h3⟩:=h
  have Ns:a.tmps.getD t undef=.pointer (some ad):=h1
  have ih:=uo r vs h3
  have h4:(asAddr (.pointer (some ad))).run P w=.ok ad w:=rfl
  simp only [List.mapM_cons,Sem.run_bind,sV,Ns,h4,Sem.run_pure,Result.andThen_ok,h2,ih]
 | [],_::_,h=>h.elim
 | .tmp _::_,[],h=>h.elim
 | .cell _ _::_,[],h=>h.elim
theorem sa {fn:Func} {rs:List ResultVar} {vs:List Value} (hr:fn.results.toList=rs) (h:qq P w a rs vs):(results fn a.tmps).run P w=.ok (match vs with | [v]=>v | vs=>.tuple vs.toArray) w:=by
 have hm:=uo rs vs h
 have he:results fn a.tmps=(do let vs ← fn.results.mapM (sV a.tmps);pure (if h:vs.size=1 then vs[0] else .tuple vs)):=by
  unfold results
  congr 1
 rw [he]
 simp only [Sem.run_bind,Array.mapM_eq_mapM_toList,hr,Sem.run_map,hm,Result.andThen_ok,Sem.run_pure]
 match vs with
 | []=>simp
 | [v]=>simp
 | _::_::_=>simp
end
theorem St.Mv {w0 w:World} {H:ak} (s:St [] w0 w H):du w0 w H:=⟨s.nd,fun b hb=>(s.own b hb).resolve_right (by simp),s.holds⟩
section
variable {P:Program} {ops:Array Oper} {Q:Exit→Act→World→Prop} {sz d:Nat} {E:List (Nat×Value)} {a:Act} {w:World} {x:Operand} {v:Value} {ty:TypeId} {pos:String} {aft:Array Edge} {r:List (Oper×Bool)}
end
end Go.Proofs.YtcnpikbbmbombaaGreatDoor
namespace Go.Proofs.YtcnpikbbmbombaaGreatDoor
open Go.RowKit
section
variable {P:Program} {ρ:Operand→Value} {w:World} {d:Option Tmp} {ty:TypeId} {pos:String} {aft:Array Edge} {gd:Option (Nat×Bool)}
theorem Bh {t:TypeId} {x:Operand} {a:Addr} {v:Value} (ht:scalar P t=true) (h:ρ x=.pointer (some a)) (hc:w.cell? a=some v):(execOp ρ ⟨d,.load t x,ty,pos,aft,gd⟩).run P w=.ok (.value v) w:=by
 simp only [execOp,h,Sem.run_bind,DY ht hc,Result.andThen_ok,Sem.run_pure]
theorem E8 {t:TypeId} {x:Operand} {a:Addr} (vs:List Value) (ht:mn P t vs.length=true) (h:ρ x=.pointer (some a)) (hc:∀ j (hj:j<vs.length),w.cell? (a.add j)=some vs[j]):(execOp ρ ⟨d,.load t x,ty,pos,aft,gd⟩).run P w=.ok (.value (.agg vs.toArray)) w:=by
 simp only [execOp,h,Sem.run_bind,D4 ht hc,Result.andThen_ok,Sem.run_pure]
end
end Go.Proofs.YtcnpikbbmbombaaGreatDoor
namespace Go.Proofs.YtcnpikbbmbombaaGreatDoor
open Go.RowKit
section
variable {P:Program} {ro:Option Nat} {ops:Array Oper} {Q:Exit→Act→World→Prop}
theorem y6 {Rk qN:World→Prop} (h:∀ w,qN w→Rk w):∀ {fuel:Nat} {L:Array Bool} {a:Act} {w:World},j6 ro P ops Q qN fuel L a w→j6 ro P ops Q Rk fuel L a w
 | 0,_,_,_,k=>⟨h _ k.1,k.2⟩
 | _+1,_,_,_,k=>⟨h _ k.1,k.2.1,fun i hi=>wpOpIn_mono (fun _ _ k=>y6 h k) (k.2.2 i hi)⟩
variable {Rk:World→Prop} {sz d j s:Nat} {E:List (Nat×Value)} {a:Act} {w:World} {o:Oper} {r:List (Oper×Bool)} {want:Bool}
end
end Go.Proofs.YtcnpikbbmbombaaGreatDoor
namespace Go.Proofs.YtcnpikbbmbombaaGreatDoor
open Go.RowKit
def dY (T:TypeId) (size:Nat) (v:Value) (n:Nat) (xs:List Value) (H:ak):Prop:=
 xs.length=n*size∧((n=0∧H=[]∧∃ a,v=.slice a 0 0)∨
  ∃ b cap cs fz,v=.slice (some ⟨b,0,none⟩) n cap∧H=[(b,.cells cs T fz)]∧Fz fz cs.size∧cs.size=cap*size∧n≤cap∧cs.toList.take (n*size)=xs)
theorem dY.nil (T:TypeId) (size:Nat) (a:Option Addr):dY T size (.slice a 0 0) 0 [] []:=⟨by simp,Or.inl ⟨rfl,rfl,a,rfl⟩⟩
theorem dY.len {T:TypeId} {size:Nat} {v:Value} {n:Nat} {xs:List Value} {H:ak} (h:dY T size v n xs H):∃ a c,v=.slice a n c:=by
 rcases h.2 with ⟨rfl,_,a,rfl⟩ | ⟨b,cap,cs,fz,rfl,_⟩
 ·exact ⟨a,0,rfl⟩
 ·exact ⟨_,_,rfl⟩
def Src (w:World) (size:Nat) (x:Value) (m:Nat) (X:List Value):Prop:=
 X.length=m*size∧((m=0∧∃ a c,x=.slice a 0 c)∨∃ a c,x=.slice (some a) m c∧∀ j (hj:j<X.length),w.cell? (a.add j)=some X[j])
theorem Src.gr {w w':World} {size:Nat} {x:Value} {m:Nat} {X:List Value} (h:Src w size x m X) (g:Gr w w'):Src w' size x m X:=by
 refine ⟨h.1,?_⟩
 rcases h.2 with h2 | ⟨a,c,h2,h3⟩
 ·exact Or.inl h2
 ·exact Or.inr ⟨a,c,h2,fun j hj=>g.sF (h3 j hj)⟩
variable {P:Program}
theorem run_loadCells {w:World} {a:Addr} {X:List Value} (h:∀ j (hj:j<X.length),w.cell? (a.add j)=some X[j]):(loadCells a X.length).run P w=.ok X.toArray w:=by
 have:=run_loadCellsFrom (P:=P) (w:=w) (a:=a) (vs:=X) 0 #[] (by simpa using h)
 simpa [loadCells] using this
theorem Src.first {w:World} {size:Nat} {x:Value} {m:Nat} {X:List Value} (h:Src w size x m X):(Builtin.lenOf x).run P w=.ok m w∧(Builtin.firstCells size m x).run P w=.ok X.toArray w:=by
 obtain ⟨hl,h⟩:=h
 rcases h with ⟨rfl,a,c,rfl⟩ | ⟨a,c,rfl,h⟩
 ·have:X=[]:=List.eq_nil_of_length_eq_zero (by simpa using hl)
  subst this
  cases a with
  | none=>simp [Builtin.lenOf,Builtin.firstCells]
  | some a=>simp [Builtin.lenOf,Builtin.firstCells,loadCells,loadCellsFrom]
 ·refine ⟨by simp [Builtin.lenOf],?_⟩
  simp only [Builtin.firstCells,← hl]
  exact run_loadCells h
theorem zF (jO:Nat):∀ (r c:Nat),c≤jO→Builtin.growBy jO r c≤2*jO+192
 | 0,c,h=>by simp [Builtin.growBy];omega
 | r+1,c,h=>by
  unfold Builtin.growBy
  split
  ·omega
  ·by_cases h2:c+(c+768) / 4≤jO
   ·exact zF jO r _ h2
   ·have key:∀ r c',jO<c'→Builtin.growBy jO r c'=c':=by
     intro r;induction r with
     | zero=>intro c' _;rfl
     | succ r ih=>intro c' O7;unfold Builtin.growBy;rw [if_pos (by omega)]
    rw [key r _ (by omega)];omega
theorem HU {jO fJ:Nat} (h:fJ<jO):Builtin.nextslicecap jO fJ≤2*jO+192:=by
 unfold Builtin.nextslicecap
 split
 ·omega
 ·split
  ·omega
  ·exact zF jO 4 fJ (by omega)
structure oU (P:Program) (st T size bytes:Nat) (z:Value):Prop where
 bB:P.underlying st=some (.slice T)
 qs:(P.info? T).map (·.size)=some size
 Jx:(P.info? T).map (·.bytes)=some bytes
 hzero:(P.info? T).bind (·.zero)=some z
 Nt:z.cells.size=size
theorem oU.info {st T size bytes:Nat} {z:Value} (h:oU P st T size bytes z):∃ i,P.info? T=some i∧i.size=size∧i.bytes=bytes∧i.zero=some z:=by
 cases hi:P.info? T with
 | none=>have:=h.qs;simp [hi] at this
 | some i=>
  have h1:=h.qs;have h2:=h.Jx;have h3:=h.hzero
  simp only [hi,Option.map_some,Option.some.injEq,Option.bind_some] at h1 h2 h3
  exact ⟨i,rfl,h1,h2,h3⟩
theorem D5 (z:Array Value) (n:Nat):(Builtin.zeroCells z n).size=n*z.size:=by simp [Builtin.zeroCells]
theorem Ec (c:Array Value):∀ (vs:List Value) (i:Nat),i+vs.length≤c.size→∀ (d:Array Value),d.size=c.size→(cm d i vs).toList.take (i+vs.length)=d.toList.take i++vs:=by
 intro vs
 induction vs with
 | nil=>intro i h d hd;simp [cm]
 | cons v r ih=>
  intro i h d hd
  simp only [List.length_cons] at h
  have:=ih (i+1) (by omega) (d.setIfInBounds i v) (by simp [hd])
  simp only [cm,List.length_cons]
  rw [show i+(r.length+1)=i+1+r.length by omega,this]
  have hi:i<d.toList.length:=by simp [hd];omega
  simp only [Array.toList_setIfInBounds]
  rw [List.take_succ_eq_append_getElem (by simpa using hi)]
  simp [List.take_set_of_le]
structure kE (P:Program) (xt:TypeId) (w:World) (size:Nat) (u:Value) (m:Nat) (X:List Value):Prop where
 len:X.length=m*size
 ty:(∃ e,P.underlying xt=some (.slice e))∨P.underlying xt=some .string
 rd:∀ w',Gr w w'→(Builtin.lenOf u).run P w'=.ok m w'∧(Builtin.firstCells size m u).run P w'=.ok X.toArray w'
theorem Src.app {xt e:TypeId} {w:World} {size:Nat} {u:Value} {m:Nat} {X:List Value} (h:Src w size u m X) (kV:P.underlying xt=some (.slice e)):kE P xt w size u m X:=⟨h.1,.inl ⟨e,kV⟩,fun _ g=>(h.gr g).first⟩
theorem kE.str {xt:TypeId} {w:World} {bs:List UInt8} (kV:P.underlying xt=some .string):kE P xt w 1 (.string ⟨bs.toArray⟩) bs.length (bs.map fun b:UInt8=>Value.int .u8 (b.toNat:Int)):=by
 refine ⟨by simp,.inr kV,fun w' _=>?_⟩
 have e1:(⟨bs.toArray⟩:ByteArray).size=bs.length:=by simp [ByteArray.size]
 refine ⟨by simp [Builtin.lenOf,e1],?_⟩
 have e2:((⟨bs.toArray⟩:ByteArray).extract 0 bs.length).data=bs.toArray:=by simp [ByteArray.data_extract]
 simp [Builtin.firstCells,e2]
theorem zG {st T size bytes:Nat} {z:Value} {ρ:Operand→Value} {w w0:World} {D:List Nat} {Φ:Value→World→Prop} {d:Option Tmp} {ty xt:TypeId} {pos:String} {aft:Array Edge} {gd:Option (Nat×Bool)} {x y:Operand} {v u:Value} {n m:Nat} {xs X:List Value} {H R:ak}
    (ok:oU P st T size bytes z) (hx:ρ x=v) (hy:ρ y=u) (S:St D w0 w (H++R)) (hv:dY T size v n xs H) (hu:kE P xt w size u m X) (dK:∀ q ∈ X,bf q=true) (qt:(2*(n+m)+192)*bytes≤281474976710656) (sW:n+m<4611686018427387904)
    (aG:∀ v' w' H',dY T size v' (n+m) (xs++X) H'→St D w0 w' (H'++R)→Φ v' w'):aY P ⟨d,.call ⟨.builtin .append,#[x,y],#[st,xt]⟩,ty,pos,aft,gd⟩ ρ w Φ:=by
  obtain ⟨i,hi,h1,h2,h3⟩:=ok.info
  obtain ⟨hlen,oN⟩:=hu.rd w (Gr.refl w)
  have bA:∀ w:World,(sizeOf T).run P w=.ok size w:=fun w=>by simp [sizeOf,typeInfo,Sem.run_bind,hi,h1]
  have kI:∀ w:World,(typeInfo T).run P w=.ok i w:=fun w=>by simp [typeInfo,Sem.run_bind,hi]
  have hzero:∀ w:World,(zeroValue T).run P w=.ok z w:=fun w=>by simp [zeroValue,Sem.run_bind,kI,h3]
  have O8:n+m≤9223372036854775807:=by omega
  have nC:∀ r:Result Value,(Builtin.append_ #[st,xt] ty #[v,u]).run P w=r→(execOp ρ ⟨d,.call ⟨.builtin .append,#[x,y],#[st,xt]⟩,ty,pos,aft,gd⟩).run P w=r.andThen fun v w'=>.ok (.value v) w':=by
    intro r hr
    simp only [execOp,resolve,List.map_toArray,List.map,hx,hy,Sem.run_bind,Sem.run_pure,Result.andThen_ok,invoke,builtin,hr]
  have ss:∀ (a:Option Addr) (c:Nat) (w':World),v=.slice a n c→n+m≤c→(match a with | some a=>(storeCells (a.add (n*size)) X).run P w | none=>.ok () w)=.ok () w'→(Builtin.append_ #[st,xt] ty #[v,u]).run P w=.ok (.slice a (n+m) c) w':=by
    intro a c w' hv hle bB
    subst hv
    rcases hu.ty with ⟨e,kV⟩ | kV<;>
    (unfold Builtin.append_
     simp only [List.getElem?_toArray,List.getElem?_cons_zero,List.getElem?_cons_succ,Sem.run_bind,run_underlying ok.bB,run_underlying kV,Result.andThen_ok,bA,Sem.run_pure,Bool.false_eq_true,if_false,hlen,hle,if_true,Bool.not_false,oN]
     cases a with
     | none=>simp only at bB;cases bB;simp
     | some a=>simp only at bB;simp [bB])
  have BS:∀ (a:Option Addr) (c:Nat) (fJ:List Value),v=.slice a n c→c<n+m→(Builtin.firstCells size n v).run P w.drew=.ok fJ.toArray w.drew→fJ.length=n*size→∃ k,n+m≤k∧(Builtin.append_ #[st,xt] ty #[v,u]).run P w=.ok (.slice (some ⟨w.heap.size,0,none⟩) (n+m) k) (w.drew.alloc (.cells (fJ.toArray++X.toArray++Builtin.zeroCells z.cells (k-(n+m))) T)):=by
    intro a c fJ hv aO hold OP
    subst hv
    have HV:=hu.rd w.drew (Gr.drew w)
    have O9:Builtin.nextslicecap (n+m) c*bytes≤281474976710656:=Nat.le_trans (Nat.mul_le_mul_right _ (HU aO)) qt
    refine ⟨(Question.appendCap (n+m) c T).cut (w.tape w.drawn (.appendCap (n+m) c T)),by simp [Question.cut],?_⟩
    have x3:(choose (.appendCap (n+m) c T)).run P w=.ok ((Question.appendCap (n+m) c T).cut (w.tape w.drawn (.appendCap (n+m) c T))) w.drew:=by
      simp [choose,Sem.run,Question.forced]
    have qC:∀ (k:Nat) (w:World),(askRoom k).run P w=.ok () w:=by
      intro k w;unfold askRoom;split<;>simp [mark,Sem.run]
    have KZ:¬ (((n+m:Nat):Int)>IntKind.i64.max∧(False∨i.bytes=0)):=by
      rintro ⟨h,_⟩
      simp [IntKind.max,IntKind.signed,IntKind.bits] at h
      omega
    have Mw:¬ (Builtin.nextslicecap (n+m) c*i.bytes>2 ^ 48):=by rw [h2];omega
    have b9:∀ (cs:Array Value) (w:World),(newRow T cs).run P w=.ok ⟨w.heap.size,0,none⟩ (w.alloc (.cells cs T)):=by
      intro cs w;simp [newRow,newObj,Sem.run]
    rcases hu.ty with ⟨e,kV⟩ | kV<;>
    (unfold Builtin.append_
     simp only [List.getElem?_toArray,List.getElem?_cons_zero,List.getElem?_cons_succ,Sem.run_bind,run_underlying ok.bB,run_underlying kV,Result.andThen_ok,bA,Sem.run_pure,Bool.false_eq_true,if_false,hlen]
     rw [if_neg (by omega)]
     simp only [Sem.run_bind,kI,Result.andThen_ok]
     rw [if_neg KZ]
     simp only [Sem.run_bind,kI,Result.andThen_ok]
     rw [if_neg Mw]
     simp only [Sem.run_bind,kI,Result.andThen_ok,x3,qC,hold,Bool.not_false,if_true,HV.2,hzero,b9,Sem.run_pure]
     rfl)
  have qs:w.drew.heap.size=w.heap.size:=rfl
  have fW:∀ (fJ:List Value) (k:Nat),fJ.length=n*size→fJ=xs→n+m≤k→∀ b cs,cs=fJ.toArray++X.toArray++Builtin.zeroCells z.cells (k-(n+m))→dY T size (.slice (some ⟨b,0,none⟩) (n+m) k) (n+m) (xs++X) [(b,.cells cs T (0,0))]:=by
    intro fJ k mS tt hk b cs cF
    subst cF
    have qO:=hu.len
    have e1:(n+m)*size=n*size+m*size:=Nat.add_mul n m size
    refine ⟨by rw [List.length_append,← tt,mS,qO,e1],Or.inr ⟨b,k,_,(0,0),rfl,rfl,kl _,?_,hk,?_⟩⟩
    · simp only [Array.size_append,List.size_toArray,D5,ok.Nt,mS,qO]
      rw [← e1,← Nat.add_mul];congr 1;omega
    · simp only [Array.toList_append,← tt]
      rw [List.take_append_of_le_length (by simp [mS,qO,e1]),List.take_of_length_le (by simp [mS,qO,e1])]
  have kJ:∀ (fJ:List Value) (k:Nat),fJ.length=n*size→fJ=xs→n+m≤k→Φ (.slice (some ⟨w.heap.size,0,none⟩) (n+m) k) (w.drew.alloc (.cells (fJ.toArray++X.toArray++Builtin.zeroCells z.cells (k-(n+m))) T)):=by
    intro fJ k mS tt hk
    exact aG _ _ _ (fW fJ k mS tt hk w.heap.size _ rfl) ((S.ma.gr (Gr.drew w)).alloc _)
  rcases hv.2 with ⟨rfl,rfl,a,rfl⟩ | ⟨b,cap,cs,fz,rfl,rfl,ey,cF,hle,sH⟩
  · have CV:xs=[]:=List.eq_nil_of_length_eq_zero (by simpa using hv.1)
    by_cases hm:m=0
    · have hX:X=[]:=List.eq_nil_of_length_eq_zero (by rw [hu.len,hm];simp)
      refine .pure (v:=.slice a (0+m) 0) (w':=w) (by rw [nC _ (ss a 0 w rfl (by omega) (by subst hX;cases a<;>simp [storeCells]))];rfl) (aG _ _ [] ?_ S)
      subst hm;rw [CV,hX];exact dY.nil T size a
    · obtain ⟨k,hk,fk⟩:=BS a 0 [] rfl (by omega) (by cases a<;>simp [Builtin.firstCells,loadCells,loadCellsFrom]) (by simp)
      exact .pure (by rw [nC _ fk];rfl) (kJ [] k (by simp) CV.symm hk)
  · have hb:w.heap[b]?=some (.cells cs T fz):=S.holds (b,_) (by simp)
    by_cases hm:n+m≤cap
    · have sX:n*size+X.length≤cs.size:=by rw [hu.len,cF,← Nat.add_mul];exact Nat.mul_le_mul_right _ hm
      have bB:=pR (P:=P) X w cs (n*size) 0 hb (by omega) dK
      refine .pure (v:=.slice (some ⟨b,0,none⟩) (n+m) cap) (w':=cg w b (.cells (cm cs (n*size) X) T fz)) (by rw [nC _ (ss _ cap _ rfl hm (by simp only [add_eq,Nat.zero_add];exact bB))];rfl) (aG _ _ [(b,.cells (cm cs (n*size) X) T fz)] ?_ (S.set _))
      have e1:(n+m)*size=n*size+m*size:=Nat.add_mul n m size
      refine ⟨by rw [List.length_append,hv.1,hu.len,e1],Or.inr ⟨b,cap,_,fz,rfl,rfl,by rw [iE];exact ey,by rw [iE,cF],hm,?_⟩⟩
      have:=Ec cs X (n*size) sX cs rfl
      rw [hu.len] at this
      rw [e1,this,sH]
    · have hold:(Builtin.firstCells size n (.slice (some ⟨b,0,none⟩) n cap)).run P w.drew=.ok xs.toArray w.drew:=by
        simp only [Builtin.firstCells,← hv.1]
        refine run_loadCells (fun j hj=>?_)
        rw [add_eq,Nat.zero_add]
        have aS:w.drew.heap[b]?=some (.cells cs T fz):=hb
        rw [cell_of aS]
        have:(cs.toList.take (n*size))[j]?=some xs[j]:=by rw [sH];simp [hj]
        rw [List.getElem?_take] at this
        split at this
        · simpa using this
        · simp at this
      obtain ⟨k,hk,fk⟩:=BS (some ⟨b,0,none⟩) cap xs rfl (by omega) hold hv.1
      exact .pure (by rw [nC _ fk];rfl) (kJ xs k hv.1 rfl hk)
section
variable {ρ:Operand→Value} {w:World} {Φ:Value→World→Prop} {d:Option Tmp} {ty t e:TypeId} {pos:String} {aft:Array Edge} {gd:Option (Nat×Bool)} {x lo hi mx:Operand} {size l h m b o n c:Nat}
theorem iF {v:Nat} {y:Nat} {code:BoundsCode} (h:v≤y):(Instr.sliceBound (.int .i64 v) y code).run P w=.ok v w:=by
 simp only [Instr.sliceBound,Sem.run_bind,asIntOf,Sem.run_pure,Result.andThen_ok]
 rw [if_pos ⟨by omega,by omega⟩];simp
theorem Gj {z:Value} {Z:List Value} (ht:P.underlying t=some (.slice e)) (hz:(zeroValue e).run P w=.ok z w) (hx:ρ x=.slice (some ⟨b,o,none⟩) (n+1) c) {cs:Array Value} {T:TypeId} {fz:Nat×Nat} (hb:w.heap[b]?=some (.cells cs T fz)) (hZ:(Builtin.zeroCells z.cells (n+1)).toList=Z) (hl:o+Z.length≤cs.size) (dK:∀ q ∈ Z,bf q=true)
  (aG:Φ (.tuple #[]) (cg w b (.cells (cm cs o Z) T fz))) (ey:Fz fz cs.size:=by first | exact kl _ | assumption):aY P ⟨d,.call ⟨.builtin .clear,#[x],#[t]⟩,ty,pos,aft,gd⟩ ρ w Φ:=
 .pure (by
  have bB:=pR (P:=P) Z w cs o 0 hb (by omega) dK
  simp only [Nat.add_zero] at bB
  have:(Builtin.clear_ #[t] ty #[.slice (some ⟨b,o,none⟩) (n+1) c]).run P w=.ok (.tuple #[]) (cg w b (.cells (cm cs o Z) T fz)):=by
   unfold Builtin.clear_
   simp only [List.getElem?_toArray,List.getElem?_cons_zero,Sem.run_bind,run_underlying ht,Result.andThen_ok,hz,hZ,bB,Sem.run_pure]
  simp only [execOp,resolve,List.map_toArray,List.map,hx,Sem.run_bind,Sem.run_pure,Result.andThen_ok,invoke,builtin,this]) aG
end
end Go.Proofs.YtcnpikbbmbombaaGreatDoor
namespace Go.Proofs.YtcnpikbbmbombaaGreatDoor
open Go.RowKit
inductive TU where
 | pl
 | it (k:IntKind)
 | st
 | sr (jm e7:List Nat)
 | sl (e:Nat)
 | ar (n e:Nat)
 | mp (k e:Nat)
structure TI where
 u:TU
 size:Nat
 bytes:Nat
 zero:List Value
abbrev aP:=List (Nat×TI)
def aP.at (T:aP) (t:Nat):Option TI:=
 match T with
 | []=>none
 | (k,v)::r=>bif k.beq t then some v else aP.at r t
def oO:List UInt8→List UInt8→Bool
 | [],[]=>true
 | a::r,b::s=>a.toNat.beq b.toNat&&oO r s
 | _,_=>false
theorem zH:∀ {a b:List UInt8},oO a b=true→a=b
 | [],[],_=>rfl
 | a::r,b::s,h=>by simp only [oO,Bool.and_eq_true] at h;rw [UInt8.toNat_inj.1 (Nat.eq_of_beq_eq_true h.1),zH h.2]
 | [],_::_,h=>by simp [oO] at h
 | _::_,[],h=>by simp [oO] at h
def wk:Value→Value→Bool
 | .bool a,.bool b=>a==b
 | .int k a,.int k' b=>decide (k=k')&&a==b
 | .string a,.string b=>oO a.data.toList b.data.toList
 | .pointer none,.pointer none=>true
 | .slice none a b,.slice none c d=>a==c&&b==d
 | .map none,.map none=>true
 | .nilFunc,.nilFunc=>true
 | .nilIface,.nilIface=>true
 | _,_=>false
theorem Gk {a b:Value} (h:wk a b=true):a=b:=by
 unfold wk at h
 split at h
 ·simp only [beq_iff_eq] at h;rw [h]
 ·simp only [Bool.and_eq_true,decide_eq_true_eq,beq_iff_eq] at h;rw [h.1,h.2]
 ·rename_i a b
  have ha:a=b:=by
   cases a with | mk a=>cases b with | mk b=>
   have e:a=b:=Array.toList_inj.1 (zH h)
   rw [e]
  rw [ha]
 ·rfl
 ·simp only [Bool.and_eq_true,beq_iff_eq] at h;rw [h.1,h.2]
 ·rfl
 ·rfl
 ·rfl
 ·simp at h
def oP:List Value→List Value→Bool
 | [],[]=>true
 | a::r,b::s=>wk a b&&oP r s
 | _,_=>false
theorem zI:∀ {a b:List Value},oP a b=true→a=b
 | [],[],_=>rfl
 | [],_::_,h=>by simp [oP] at h
 | _::_,[],h=>by simp [oP] at h
 | a::r,b::s,h=>by
  simp only [oP,Bool.and_eq_true] at h
  rw [Gk h.1,zI h.2]
def sI (P:Program) (t:Nat):List Nat→Nat→Bool
 | [],_=>true
 | o::r,i=>(match nq P t i with | some o'=>o==o' | none=>false)&&sI P t r (i+1)
theorem uq {P:Program} {t:Nat}:∀ {l:List Nat} {i:Nat},sI P t l i=true→∀ (f:Nat) off,l[f]?=some off→nq P t (i+f)=some off
 | [],_,_,_,_,h=>by simp at h
 | o::r,i,hb,f,off,h=>by
  simp only [sI,Bool.and_eq_true] at hb
  cases f with
  | zero=>
   simp only [List.getElem?_cons_zero,Option.some.injEq] at h;subst h
   rw [Nat.add_zero]
   have:=hb.1
   split at this
   ·rename_i o' ho;simp only [beq_iff_eq] at this;rw [ho,this]
   ·simp at this
  | succ f=>
   simp only [List.getElem?_cons_succ] at h
   have:=uq hb.2 f off h
   rw [← this];congr 1;omega
def oF (P:Program):List Field→Option (List (Nat×Nat))
 | []=>some []
 | f::r=>(match P.info? f.type,oF P r with | some i,some l=>some ((f.offset,i.size)::l) | _,_=>none)
def uO:List Nat→Nat→List (Nat×Nat)
 | [],_=>[]
 | [o],n=>[(o,n-o)]
 | o::o'::r,n=>(o,o'-o)::uO (o'::r) n
def lQ (P:Program) (t:Nat) (x:TI):Bool:=
 (match P.info? t with
 | some i=>i.size==x.size&&i.bytes==x.bytes&&(match i.zero with | some z=>oP z.cells.toList x.zero | none=>false)
 | none=>false) &&
 (match x.u,P.underlying t with
 | .pl,some _=>scalar P t
 | .it k,some (.int k')=>decide (k=k')
 | .st,some .string=>true
 | .sr jm e7,some (.struct fs)=>(fs.toList.map (·.type)==e7)&&jm.length==fs.size&&(oF P fs.toList==some (uO jm x.size))&&sI P t jm 0
 | .sl e,some (.slice e')=>e==e'
 | .ar n e,some (.array n' e')=>n==n'&&e==e'
 | .mp k e,some (.map k' e')=>k==k'&&e==e'
 | _,_=>false)
def aZ (P:Program):aP→Bool
 | []=>true
 | (t,x)::r=>lQ P t x&&aZ P r
variable {P:Program} {T:aP}
theorem nx (hT:aZ P T=true) {t:Nat} {x:TI} (h:T.at t=some x):lQ P t x=true:=by
 induction T with
 | nil=>simp [aP.at] at h
 | cons y r ih=>
  obtain ⟨k,v⟩:=y
  simp only [aZ,Bool.and_eq_true] at hT
  unfold aP.at at h
  cases hk:k.beq t with
  | true=>simp only [hk,cond_true,Option.some.injEq] at h;subst h;rw [← Nat.eq_of_beq_eq_true hk];exact hT.1
  | false=>simp only [hk,cond_false] at h;exact ih hT.2 h
theorem rR (hT:aZ P T=true) {t:Nat} {x:TI} (h:T.at t=some x):∃ i z,P.info? t=some i∧i.size=x.size∧i.bytes=x.bytes∧i.zero=some z∧z.cells.toList=x.zero:=by
 have:=nx hT h
 simp only [lQ,Bool.and_eq_true] at this
 have h1:=this.1
 cases hi:P.info? t with
 | none=>simp [hi] at h1
 | some i=>
  simp only [hi,Bool.and_eq_true,beq_iff_eq] at h1
  obtain ⟨⟨ha,hb⟩,hc⟩:=h1
  cases hz:i.zero with
  | none=>simp [hz] at hc
  | some z=>simp only [hz] at hc;exact ⟨i,z,rfl,ha,hb,hz,zI hc⟩
def fA (T:aP) (t:Nat):Option Nat:=match T.at t with | some x=>some x.size | none=>none
theorem gO (hT:aZ P T=true) {t n:Nat} (h:fA T t=some n):(P.info? t).map (·.size)=some n:=by
 unfold fA at h
 split at h
 ·rename_i x hx
  obtain ⟨i,z,h1,h2,-⟩:=rR hT hx
  simp only [Option.some.injEq] at h;rw [h1,Option.map_some,h2,h]
 ·simp at h
def oV (T:aP) (t:Nat):Option (List Value):=match T.at t with | some x=>some x.zero | none=>none
theorem rS (hT:aZ P T=true) {t:Nat} {l:List Value} (h:oV T t=some l):∃ z,z.cells=l.toArray∧∀ w:World,(zeroValue t).run P w=.ok z w:=by
 unfold oV at h
 split at h
 ·rename_i x hx
  obtain ⟨i,z,h1,-,-,h2,h3⟩:=rR hT hx
  simp only [Option.some.injEq] at h;subst h
  exact ⟨z,by rw [← h3],fun w=>by simp [zeroValue,typeInfo,Sem.run_bind,h1,h2]⟩
 ·simp at h
inductive CW where
 | one
 | many (n:Nat)
def pk (T:aP) (t:Nat):Option CW:=match T.at t with
 | some x=>(match x.u with | .sr _ _=>some (.many x.size) | .ar _ _=>some (.many x.size) | _=>some .one)
 | none=>none
theorem uP (hT:aZ P T=true) {t:Nat} (h:pk T t=some .one):scalar P t=true:=by
 unfold pk at h
 cases hx:T.at t with
 | none=>simp [hx] at h
 | some x=>
  simp only [hx] at h
  have:=nx hT hx
  simp only [lQ,Bool.and_eq_true] at this
  have h2:=this.2
  unfold scalar
  cases hu:x.u<;>simp only [hu,Option.some.injEq,reduceCtorEq] at h h2<;>cases hP:P.underlying t<;>simp only [hP,Bool.false_eq_true] at h2
  ·rename_i u;unfold scalar at h2;rw [hP] at h2;exact h2
  all_goals (rename_i u;cases u<;>simp_all)
theorem zZ (hT:aZ P T=true) {t n:Nat} (h:pk T t=some (.many n)):mn P t n=true:=by
 unfold pk at h
 cases hx:T.at t with
 | none=>simp [hx] at h
 | some x=>
  simp only [hx] at h
  obtain ⟨i,z,h1,hs,-⟩:=rR hT hx
  have:=nx hT hx
  simp only [lQ,Bool.and_eq_true] at this
  have h2:=this.2
  unfold mn
  cases hu:x.u<;>simp only [hu,Option.some.injEq,reduceCtorEq,CW.many.injEq] at h h2<;>cases hP:P.underlying t<;>simp only [hP,Bool.false_eq_true] at h2<;>rename_i u<;>cases u<;>simp_all
def xi (T:aP) (t f:Nat):Option Nat:=match T.at t with | some ⟨.sr jm _,_,_,_⟩=>jm[f]? | _=>none
theorem HW (hT:aZ P T=true) {t f off:Nat} (h:xi T t f=some off):nq P t f=some off:=by
 unfold xi at h
 split at h
 ·rename_i jm _ _ _ _ hx
  have:=nx hT hx
  simp only [lQ,Bool.and_eq_true] at this
  have h2:=this.2
  cases hP:P.underlying t with
  | none=>simp [hP] at h2
  | some u=>
   simp only [hP] at h2
   cases u<;>simp only [Bool.false_eq_true,Bool.and_eq_true] at h2
   simpa using uq h2.2 f off h
 ·simp at h
def x4 (T:aP) (t:Nat):Option (List (Nat×Nat)):=match T.at t with | some ⟨.sr jm _,n,_,_⟩=>some (uO jm n) | _=>none
theorem Jy (hT:aZ P T=true) {t:Nat} {pl:List (Nat×Nat)} (h:x4 T t=some pl):∃ fs,P.underlying t=some (.struct fs)∧oF P fs.toList=some pl:=by
 unfold x4 at h
 split at h
 ·rename_i jm _ n _ _ hx
  have:=nx hT hx
  simp only [lQ,Bool.and_eq_true] at this
  have h2:=this.2
  simp only [Option.some.injEq] at h
  cases hP:P.underlying t with
  | none=>simp [hP] at h2
  | some u=>
   simp only [hP] at h2
   cases u<;>simp only [Bool.false_eq_true,Bool.and_eq_true,beq_iff_eq] at h2
   rename_i fs
   exact ⟨fs,rfl,by rw [h2.1.2,h]⟩
 ·simp at h
def x5 (T:aP) (t f:Nat):Option (Nat×Nat):=match T.at t with | some ⟨.sr jm e7,_,_,_⟩=>(match jm[f]?,e7[f]? with | some o,some ty=>some (o,ty) | _,_=>none) | _=>none
theorem Jz (hT:aZ P T=true) {t f o ty:Nat} (h:x5 T t f=some (o,ty)):∃ fs x,P.underlying t=some (.struct fs)∧fs[f]?=some x∧x.offset=o∧x.type=ty:=by
 unfold x5 at h
 split at h
 ·rename_i jm e7 _ _ _ hx
  have:=nx hT hx
  simp only [lQ,Bool.and_eq_true] at this
  have h2:=this.2
  split at h
  ·rename_i o' Pa h3 h4
   simp only [Option.some.injEq,Prod.mk.injEq] at h;obtain ⟨rfl,rfl⟩:=h
   cases hP:P.underlying t with
   | none=>simp [hP] at h2
   | some u=>
    simp only [hP] at h2
    cases u<;>simp only [Bool.false_eq_true,Bool.and_eq_true,beq_iff_eq] at h2
    rename_i fs
    have ho:=uq h2.2 f _ h3
    rw [Nat.zero_add] at ho
    rw [← h2.1.1.1,List.getElem?_map,Option.map_eq_some_iff] at h4
    obtain ⟨x,hx,rfl⟩:=h4
    have nQ:fs[f]?=some x:=by rw [← Array.getElem?_toList];exact hx
    refine ⟨fs,x,rfl,nQ,?_,rfl⟩
    unfold nq at ho
    rw [hP] at ho
    simp only [nQ] at ho
    split at ho
    ·split at ho
     ·simp at ho
     ·simpa using ho
    ·simp at ho
  ·simp at h
 ·simp at h
inductive x6 where
 | sl (e:Nat)
 | ar (n e:Nat)
 | mp (k e:Nat)
 | it (k:IntKind)
 | st
 | ot
def cV (T:aP) (t:Nat):Option x6:=match T.at t with
 | some x=>(match x.u with | .sl e=>some (.sl e) | .ar n e=>some (.ar n e) | .mp k e=>some (.mp k e) | .it k=>some (.it k) | .st=>some .st | _=>some .ot)
 | none=>none
theorem cH (hT:aZ P T=true) {t:Nat} {k:x6} (h:cV T t=some k):match k with | .sl e=>P.underlying t=some (.slice e) | .ar n e=>P.underlying t=some (.array n e) | .mp k e=>P.underlying t=some (.map k e) | .it k=>P.underlying t=some (.int k) | .st=>P.underlying t=some .string | .ot=>(P.underlying t).isSome=true:=by
 unfold cV at h
 cases hx:T.at t with
 | none=>simp [hx] at h
 | some x=>
  simp only [hx] at h
  have:=nx hT hx
  simp only [lQ,Bool.and_eq_true] at this
  have h2:=this.2
  cases hu:x.u<;>simp only [hu,Option.some.injEq] at h h2<;>subst h<;>cases hP:P.underlying t<;>simp only [hP,Bool.false_eq_true] at h2<;>rename_i u<;>cases u<;>simp_all
theorem Gl (hT:aZ P T=true) {t:Nat} {k:x6} (h:cV T t=some k):(P.underlying t).isSome=true:=by
 have:=cH hT h
 cases k<;>simp_all
end Go.Proofs.YtcnpikbbmbombaaGreatDoor
namespace Go.Proofs.YtcnpikbbmbombaaGreatDoor
open Go.RowKit
inductive DV where
 | v (x:Value)
 | ro (k:Nat) (rows:List (List DV))
 | em (T k:Nat) (rows:List (List DV))
 | ag (l:List DV)
 | tu (l:List DV)
 | pb (T:Nat) (cells:List DV)
 | jk
inductive MK where
 | i (k:IntKind) (n:Int)
 | a (l:List (IntKind×Int))
deriving DecidableEq
def MK.val:MK→Value
 | .i k n=>.int k n
 | .a l=>.agg (l.map fun x=>.int x.1 x.2).toArray
structure RF where
 ps:Array Tmp
 cY:Code
 body:Code
inductive AV where
 | d (x:DV)
 | sl (u n:Nat)
 | sb (u k o n:Nat)
 | sf (u k o n:Nat) (q:Option Nat)
 | pt (u o:Nat)
 | mv (u:Nat)
 | yl (u:Nat)
 | ep (u k i o:Nat)
 | rp (row:List DV) (o:Nat)
 | bt (bs:List UInt8)
 | uk
 | fn (f:Nat) (cu:List AV)
 | fm (f:Nat) (first:List AV)
 | ag (l:List AV)
 | tu (l:List AV)
abbrev DV.u (n:Nat):DV:=.v (.int .u64 ((n:Nat):Int))
abbrev DV.n (n:Nat):DV:=.v (.int .i64 ((n:Nat):Int))
abbrev DV.z (n:Int):DV:=.v (.int .i64 n)
abbrev AV.u (n:Nat):AV:=.d (.u n)
abbrev AV.n (n:Nat):AV:=.d (.n n)
abbrev AV.z (n:Int):AV:=.d (.z n)
inductive LS where
 | ready
 | busy
 | left
def LS.state:LS→LoopState
 | .ready=>.ready
 | .busy=>.busy
 | .left=>.done
def LS.kf:LS→Option Code
 | .left=>some .ret
 | _=>none
inductive ai where
 | bx (T:Nat) (cells:List AV)
 | rw (T k:Nat) (rows:List (List DV))
 | tw (a:Option Addr) (c T k:Nat) (rows:List (List DV))
 | mp (T c:Nat) (es:List (Nat×MK×DV))
 | it (um:Option Nat) (since:Nat) (seen:List Nat) (c:Nat)
 | mu (T c:Nat) (es:List (MK×DV))
 | fl (T k m:Nat) (cells:List AV)
 | mf (T c:Nat) (es:List (Nat×MK×AV))
 | il (um:Option Nat) (since last c:Nat)
 | lp (s:LS) (f sz:Nat) (E:List (Nat×AV)) (c:RF)
 | nm (u b:Nat)
 | gw (g:Nat) (row:List DV)
 | dead
def lay (n:Nat) (X:Nat→List Value):List Value:=(List.range n).flatMap X
def bI (n k:Nat) (F:Nat→Nat→ak):ak:=(List.range n).flatMap fun i=>(List.range k).flatMap (F i)
inductive bM (K:World→Prop):DV→Value→ak→Prop where
 | v (x:Value):bM K (.v x) x []
 | jk (x:Value):bM K .jk x []
 | ro {k:Nat} {rows:List (List DV)} {y:Value} (X:Nat→List Value) (hl:∀ (i:Nat) r,rows[i]?=some r→r.length=k∧(X i).length=k)
   (hy:∃ a c,y=.slice a rows.length c∧rows.length≤c) (hs:∀ w,K w→Src w k y rows.length (lay rows.length X))
   (hr:∀ (i:Nat) (r:List DV) (j:Nat) c x,rows[i]?=some r→r[j]?=some c→(X i)[j]?=some x→bM K c x []):bM K (.ro k rows) y []
 | em {T k:Nat} {rows:List (List DV)} {y:Value} {H0:ak} (X:Nat→List Value) (F:Nat→Nat→ak) (hl:∀ (i:Nat) r,rows[i]?=some r→r.length=k∧(X i).length=k)
   (hs:dY T k y rows.length (lay rows.length X) H0)
   (hr:∀ (i:Nat) (r:List DV) (j:Nat) c x,rows[i]?=some r→r[j]?=some c→(X i)[j]?=some x→bM K c x (F i j)):bM K (.em T k rows) y (H0++bI rows.length k F)
 | ag {l:List DV} (ys:List Value) (F:Nat→ak) (hl:ys.length=l.length) (hr:∀ (j:Nat) c y,l[j]?=some c→ys[j]?=some y→bM K c y (F j)):bM K (.ag l) (.agg ys.toArray) ((List.range l.length).flatMap F)
 | tu {l:List DV} (ys:List Value) (F:Nat→ak) (hl:ys.length=l.length) (hr:∀ (j:Nat) c y,l[j]?=some c→ys[j]?=some y→bM K c y (F j)):bM K (.tu l) (.tuple ys.toArray) ((List.range l.length).flatMap F)
 | pb {T b:Nat} {l:List DV} (ys:List Value) (F:Nat→ak) (hl:ys.length=l.length) (hr:∀ (j:Nat) c y,l[j]?=some c→ys[j]?=some y→bM K c y (F j)):bM K (.pb T l) (.pointer (some ⟨b,0,none⟩)) ((b,.cells ys.toArray T (0,0))::(List.range l.length).flatMap F)
abbrev Beta:=List (Option Addr×Nat)
inductive ax (K:World→Prop) (β:Beta):AV→Value→Prop where
 | d {x:DV} {y:Value} (h:bM K x y []):ax K β (.d x) y
 | sl {u n c:Nat} {a:Option Addr} (h:β[u]?=some (a,c)):ax K β (.sl u n) (.slice a n c)
 | sb {u k o n b c c':Nat} (h:β[u]?=some (some ⟨b,0,none⟩,c)):ax K β (.sb u k o n) (.slice (some ⟨b,o*k,none⟩) n c')
 | sf {u k o n b c cap:Nat} {q:Option Nat} (h:β[u]?=some (some ⟨b,0,none⟩,c)) (hc:o+cap≤c) (hn:n≤cap) (hq:match q with | none=>o+cap=c | some q=>cap=q):ax K β (.sf u k o n q) (.slice (some ⟨b,o*k,none⟩) n cap)
 | mv {u b c:Nat} (h:β[u]?=some (some ⟨b,0,none⟩,c)):ax K β (.mv u) (.map (some b))
 | yl {u b c:Nat} (h:β[u]?=some (some ⟨b,0,none⟩,c)):ax K β (.yl u) (.func (.yield b) #[] #[])
 | pt {u o b c:Nat} (h:β[u]?=some (some ⟨b,0,none⟩,c)):ax K β (.pt u o) (.pointer (some ⟨b,o,none⟩))
 | ep {u k i o b c:Nat} (h:β[u]?=some (some ⟨b,0,none⟩,c)):ax K β (.ep u k i o) (.pointer (some ⟨b,i*k+o,none⟩))
 | rp {row:List DV} {o:Nat} (a:Addr) (X:List Value) (hl:X.length=row.length) (hc:∀ w,K w→∀ (j:Nat) x,X[j]?=some x→w.cell? (a.add j)=some x)
   (hr:∀ (j:Nat) c x,row[j]?=some c→X[j]?=some x→bM K c x []):ax K β (.rp row o) (.pointer (some (a.add o)))
 | bt {bs:List UInt8} {y:Value} (h:bM K (.ro 1 (bs.map fun b=>[DV.v (.int .u8 b.toNat)])) y []) (hn:bs.length≤1048576):ax K β (.bt bs) y
 | uk {y:Value} (h:bf y=true):ax K β .uk y
 | fn {f:Nat} {cu:List AV} (ys:List Value) (hl:ys.length=cu.length) (hr:∀ (j:Nat) c y,cu[j]?=some c→ys[j]?=some y→ax K β c y):ax K β (.fn f cu) (.func (.func f) #[] ys.toArray)
 | fm {f:Nat} {first:List AV} (ys:List Value) (hl:ys.length=first.length) (hr:∀ (j:Nat) c y,first[j]?=some c→ys[j]?=some y→ax K β c y):ax K β (.fm f first) (.func (.func f) ys.toArray #[])
 | ag {l:List AV} (ys:List Value) (hl:ys.length=l.length) (hr:∀ (j:Nat) c y,l[j]?=some c→ys[j]?=some y→ax K β c y):ax K β (.ag l) (.agg ys.toArray)
 | tu {l:List AV} (ys:List Value) (hl:ys.length=l.length) (hr:∀ (j:Nat) c y,l[j]?=some c→ys[j]?=some y→ax K β c y):ax K β (.tu l) (.tuple ys.toArray)
theorem bM.mono {K K':World→Prop} (h:∀ w,K' w→K w):∀ {x:DV} {y:Value} {H:ak},bM K x y H→bM K' x y H:=by
 intro x y H r
 induction r with
 | v x=>exact .v x
 | jk x=>exact .jk x
 | ro X hl hy hs hr ih=>exact .ro X hl hy (fun w hw=>hs w (h w hw)) (fun i r j c x h1 h2 h3=>ih i r j c x h1 h2 h3)
 | em X F hl hs hr ih=>exact .em X F hl hs (fun i r j c x h1 h2 h3=>ih i r j c x h1 h2 h3)
 | ag ys F hl hr ih=>exact .ag ys F hl ih
 | tu ys F hl hr ih=>exact .tu ys F hl ih
 | pb ys F hl hr ih=>exact .pb ys F hl ih
theorem bM.slice {K:World→Prop} {x:DV} {y:Value} {H:ak} (r:bM K x y H) (h:(∃ k rows,x=.ro k rows)∨∃ T k rows,x=.em T k rows):∃ a n c,y=.slice a n c:=by
 cases r with
 | v=>simp at h
 | jk=>simp at h
 | ro X hl hy hs hr=>obtain ⟨a,c,rfl,-⟩:=hy;exact ⟨_,_,_,rfl⟩
 | em X F hl hs hr=>obtain ⟨a,c,rfl⟩:=hs.len;exact ⟨_,_,_,rfl⟩
 | ag=>simp at h
 | tu=>simp at h
 | pb=>simp at h
def Ext (β aB:Beta):Prop:=∀ (u:Nat) x,β[u]?=some x→aB[u]?=some x
theorem Ext.refl (β:Beta):Ext β β:=fun _ _ h=>h
theorem Ext.app (β γ:Beta):Ext β (β++γ):=fun u x h=>by
 obtain ⟨hu,-⟩:=List.getElem?_eq_some_iff.1 h
 rw [List.getElem?_append_left hu];exact h
theorem ax.mono {K K':World→Prop} {β aB:Beta} (h:∀ w,K' w→K w) (e:Ext β aB):∀ {x:AV} {y:Value},ax K β x y→ax K' aB x y:=by
 intro x y r
 induction r with
 | d hd=>exact .d (hd.mono h)
 | sl hb=>exact .sl (e _ _ hb)
 | sb hb=>exact .sb (e _ _ hb)
 | sf hb hc hn hq=>exact .sf (e _ _ hb) hc hn hq
 | mv hb=>exact .mv (e _ _ hb)
 | yl hb=>exact .yl (e _ _ hb)
 | pt hb=>exact .pt (e _ _ hb)
 | ep hb=>exact .ep (e _ _ hb)
 | rp a X hl hc hr=>exact .rp a X hl (fun w hw=>hc w (h w hw)) (fun j c x h1 h2=>(hr j c x h1 h2).mono h)
 | bt hd hn=>exact .bt (hd.mono h) hn
 | uk hu=>exact .uk hu
 | fn ys hl hr ih=>exact .fn ys hl ih
 | fm ys hl hr ih=>exact .fm ys hl ih
 | ag ys hl hr ih=>exact .ag ys hl ih
 | tu ys hl hr ih=>exact .tu ys hl ih
def CX (es:List (Nat×MK×DV)) (vs:List Value):List MapEntry:=(es.zip vs).map fun x=>{ key:=x.1.2.1.val,val:=x.2,born:=x.1.1 }
def sY (es:List (Nat×MK×AV)) (vs:List Value):List MapEntry:=(es.zip vs).map fun x=>{ key:=x.1.2.1.val,val:=x.2,born:=x.1.1 }
theorem ur (g:Nat×MK×AV→Nat×MK×AV) (h:∀ e,(g e).1=e.1∧(g e).2.1=e.2.1):∀ (es:List (Nat×MK×AV)) (vs:List Value),sY (es.map g) vs=sY es vs
 | [],_=>rfl
 | e::r,[]=>rfl
 | e::r,v::vs=>by have:=ur g h r vs;simp only [sY,List.map_cons,List.zip_cons_cons] at this ⊢;rw [this,(h e).1,(h e).2]
inductive bF (K:World→Prop) (β:Beta):Nat→ai→ak→Prop where
 | dead (u:Nat):bF K β u .dead []
 | nm {u v b c:Nat} (hb:β[v]?=some (some ⟨b,0,none⟩,c)):bF K β u (.nm v b) []
 | gw {u g:Nat} {row:List DV} (X:List Value) (hl:X.length=row.length) (hc:∀ w,K w→∀ (j:Nat) x,X[j]?=some x→w.cell? ((⟨g,0,none⟩:Addr).add j)=some x)
   (hr:∀ (j:Nat) c x,row[j]?=some c→X[j]?=some x→bM K c x []):bF K β u (.gw g row) []
 | bx {u b c T:Nat} {cells:List AV} (hb:β[u]?=some (some ⟨b,0,none⟩,c)) (ys:List Value) (hl:ys.length=cells.length) (hr:∀ (j:Nat) c y,cells[j]?=some c→ys[j]?=some y→ax K β c y):
   bF K β u (.bx T cells) [(b,.cells ys.toArray T (0,0))]
 | rw {u c T k:Nat} {a:Option Addr} {rows:List (List DV)} {H0:ak} (hb:β[u]?=some (a,c)) (X:Nat→List Value) (F:Nat→Nat→ak) (hl:∀ (i:Nat) r,rows[i]?=some r→r.length=k∧(X i).length=k)
   (hs:dY T k (.slice a rows.length c) rows.length (lay rows.length X) H0)
   (hr:∀ (i:Nat) (r:List DV) (j:Nat) c x,rows[i]?=some r→r[j]?=some c→(X i)[j]?=some x→bM K c x (F i j)):
   bF K β u (.rw T k rows) (H0++bI rows.length k F)
 | tw {u c T k:Nat} {a:Option Addr} {rows:List (List DV)} {H0:ak} (hb:β[u]?=some (a,c)) (X:Nat→List Value) (F:Nat→Nat→ak) (hl:∀ (i:Nat) r,rows[i]?=some r→r.length=k∧(X i).length=k)
   (hs:dY T k (.slice a rows.length c) rows.length (lay rows.length X) H0)
   (hr:∀ (i:Nat) (r:List DV) (j:Nat) c x,rows[i]?=some r→r[j]?=some c→(X i)[j]?=some x→bM K c x (F i j)):
   bF K β u (.tw a c T k rows) (H0++bI rows.length k F)
 | mp {u b c T ck:Nat} {es:List (Nat×MK×DV)} (hb:β[u]?=some (some ⟨b,0,none⟩,c)) (vs:List Value) (G:Nat→ak) (hl:vs.length=es.length) (hr:∀ (j:Nat) e y,es[j]?=some e→vs[j]?=some y→bM K e.2.2 y (G j)):
   bF K β u (.mp T ck es) ((b,.map (CX es vs).toArray ck)::(List.range es.length).flatMap G)
 | it {u b bm c since ck:Nat} {um:Option Nat} {seen:List Nat} (hb:β[u]?=some (some ⟨b,0,none⟩,c)) (hm:∀ v,um=some v→∃ c',β[v]?=some (some ⟨bm,0,none⟩,c')):
   bF K β u (.it um since seen ck) [(b,.mapIter (some bm) since seen.toArray ck)]
 | mu {u b c T ck:Nat} {es:List (MK×DV)} (iy:List (Nat×MK×DV)) (hp:(iy.map fun e=>e.2).Perm es) (hn:(iy.map fun e=>e.1).Nodup) (aO:∀ e ∈ iy,e.1<ck) (hb:β[u]?=some (some ⟨b,0,none⟩,c)) (vs:List Value) (G:Nat→ak) (hl:vs.length=iy.length) (hr:∀ (j:Nat) e y,iy[j]?=some e→vs[j]?=some y→bM K e.2.2 y (G j)):
   bF K β u (.mu T ck es) ((b,.map (CX iy vs).toArray ck)::(List.range iy.length).flatMap G)
 | fl {u b c T k m:Nat} {cells:List AV} (hb:β[u]?=some (some ⟨b,0,none⟩,c)) (ys:List Value) (hl:ys.length=c*k) (hm:cells.length=m*k) (hc:m≤c) (hr:∀ (j:Nat) c y,cells[j]?=some c→ys[j]?=some y→ax K β c y):
   bF K β u (.fl T k m cells) [(b,.cells ys.toArray T (0,0))]
 | mf {u b c T ck:Nat} {es:List (Nat×MK×AV)} (hb:β[u]?=some (some ⟨b,0,none⟩,c)) (vs:List Value) (hl:vs.length=es.length) (hr:∀ (j:Nat) e y,es[j]?=some e→vs[j]?=some y→ax K β e.2.2 y):
   bF K β u (.mf T ck es) [(b,.map (sY es vs).toArray ck)]
 | il {u b bm c since last ck:Nat} {um:Option Nat} {seen:List Nat} (hb:β[u]?=some (some ⟨b,0,none⟩,c)) (hm:∀ v,um=some v→∃ c',β[v]?=some (some ⟨bm,0,none⟩,c')):
   bF K β u (.il um since last ck) [(b,.mapIter (some bm) since (seen++[last]).toArray ck)]
 | lp {u b c f sz nR:Nat} {bz:LS} {E:List (Nat×AV)} {rf:RF} {tmps:Array Value} (hb:β[u]?=some (some ⟨b,0,none⟩,c)) (bA:tmps.size=sz) (hr:∀ x ∈ E,ax K β x.2 (tmps.getD x.1 undef)):
   bF K β u (.lp bz f sz E rf) [(b,.loop { state:=bz.state,pending:=bz.kf,fn:=f,tmps,params:=rf.ps,assign:=rf.cY,body:=rf.body,defers:=nR })]
structure AS where
 E:List (Nat×AV)
 M:List ai
structure RM (D:List Nat) (w0:World) (K0:World→Prop) (M:List ai) (β:Beta) (F:Nat→ak) (I:ak) (w:World):Prop where
 len:β.length=M.length
 blk:∀ (u:Nat) blk,M[u]?=some blk→bF (fun w=>K0 w∧Holds w I) β u blk (F u)
 st:St D w0 w ((List.range M.length).flatMap F++I)
def RE (D:List Nat) (w0:World) (K0:World→Prop) (sz:Nat) (s:AS) (a:Act) (w:World):Prop:=
 a.tmps.size=sz∧a.defers=[]∧∃ β F I,RM D w0 K0 s.M β F I w∧∀ x ∈ s.E,ax (fun w=>K0 w∧Holds w I) β x.2 (a.eval (.tmp x.1))
end Go.Proofs.YtcnpikbbmbombaaGreatDoor
namespace Go.Proofs.YtcnpikbbmbombaaGreatDoor
open Go.RowKit Go.Maps
section
variable {P:Program} {ρ:Operand→Value} {w:World} {Φ:Value→World→Prop} {d:Option Tmp} {ty t e:TypeId} {pos:String} {aft:Array Edge} {gd:Option (Nat×Bool)} {x:Operand} {a:Addr} {b o n c size:Nat}
end
theorem Addr.nr (a:Addr) (m n:Nat):(a.add m).add n=a.add (m+n):=by
 unfold Addr.add
 split
 ·rename_i h;subst h;simp
 ·split
  ·rename_i h;subst h;simp;omega
  ·split
   ·omega
   ·cases a;simp;omega
theorem Src.row {w:World} {size m:Nat} {v:Value} {X:List Value} (h:Src w size v m X) {i:Nat} (hi:i<m):∃ a c,v=.slice (some a) m c∧∀ j (hj:j<size) (hk:i*size+j<X.length),w.cell? ((a.add (i*size)).add j)=some X[i*size+j]:=by
 rcases h.2 with ⟨h0,_⟩ | ⟨a,c,hv,hc⟩
 ·omega
 ·refine ⟨a,c,hv,fun j hj hk=>?_⟩
  rw [Addr.nr];exact hc _ hk
end Go.Proofs.YtcnpikbbmbombaaGreatDoor
namespace Go.Proofs.YtcnpikbbmbombaaGreatDoor
open Go.RowKit
section
variable {P:Program} {ρ:Operand→Value} {w:World} {Φ:Value→World→Prop} {d:Option Tmp} {ty t t' e:TypeId} {pos:String} {aft:Array Edge} {gd:Option (Nat×Bool)} {x y:Operand}
theorem Ed {b n k:Nat} {c:Array Value} {fz:Nat×Nat} (ht:P.underlying t=some (.slice e)) (he:P.underlying e=some (.int .u8)) (hx:ρ x=.slice (some ⟨b,0,none⟩) n k) (hb:w.heap[b]?=some (.cells c e fz))
  (aG:∀ jv,Φ (.slice (some ⟨b,0,none⟩) n k) (cg w b (.cells c e jv))):aY P ⟨d,.convert t t x,ty,pos,aft,gd⟩ ρ w Φ:=by
 obtain ⟨lo,hi⟩:=fz
 refine .pure (v:=.slice (some ⟨b,0,none⟩) n k) (w':=cg w b (.cells c e (if lo==hi then (c.size,c.size+1) else (min lo c.size,max hi (c.size+1))))) ?_ (aG _)
 have nS:w.shape? b=some (e,c.size):=by simp [World.shape?,hb]
 have lR:w.freeze ⟨b,c.size,none⟩ 1=cg w b (.cells c e (if lo==hi then (c.size,c.size+1) else (min lo c.size,max hi (c.size+1)))):=by
  unfold World.freeze cg
  rw [if_neg (by decide)]
  congr 1
  apply Array.ext_getElem?
  intro j
  have aO:=kC hb
  rw [Array.getElem?_modify,Array.getElem?_setIfInBounds]
  by_cases e':b=j
  ·subst e'
   have hg:w.heap[b]=.cells c e (lo,hi):=by rw [Array.getElem?_eq_getElem aO] at hb;exact Option.some.inj hb
   simp [aO,hg]
  ·simp [e']
 simp [execOp,hx,convert,Sem.run_bind,run_underlying ht,run_underlying he,markStringish,nS,lR]
theorem zi {v:Value} {l:List UInt8} (ht:P.underlying t=some (.slice e)) (he:P.underlying e=some (.int .u8)) (hd:P.underlying t'=some .string) (hx:ρ x=v) (hs:Src w 1 v l.length (l.map fun b:UInt8=>.int .u8 b.toNat)) (aG:Φ (.string ⟨l.toArray⟩) w):aY P ⟨d,.convert t t' x,ty,pos,aft,gd⟩ ρ w Φ:=by
 refine .pure (v:=.string ⟨l.toArray⟩) (w':=w) ?_ aG
 have key:(convert t t' v).run P w=.ok (.string ⟨l.toArray⟩) w:=by
  rcases hs.2 with ⟨h0,a,c,rfl⟩ | ⟨a,c,rfl,h⟩
  ·have hl:l=[]:=List.eq_nil_of_length_eq_zero h0
   subst hl
   cases a with
   | none=>rw [run_convert_bytes_string w t t' e none 0 c ht he hd];simp [Conv.bytesToString];rfl
   | some a=>exact run_convert_bytes_back w t t' e a c [] ht he hd (by simp)
  ·exact run_convert_bytes_back w t t' e a c l ht he hd (fun j hj=>by rw [h j (by simpa using hj)];simp)
 simp only [execOp,hx,Sem.run_bind,key,Result.andThen_ok,Sem.run_pure]
theorem Gm {a b:List UInt8} {c:Bool} (h:ρ x=.string ⟨a.toArray⟩) (h':ρ y=.string ⟨b.toArray⟩) (hc:(a==b)=c) (aG:Φ (.bool c) w):aY P ⟨d,.binOp .eql t x y t',ty,pos,aft,gd⟩ ρ w Φ:=by
 subst hc;exact .pure (v:=.bool (a==b)) (by simp [execOp,h,h',eqGuard,binOp,Op.stringOp]) aG
theorem Gn {a b:List UInt8} {c:Bool} (h:ρ x=.string ⟨a.toArray⟩) (h':ρ y=.string ⟨b.toArray⟩) (hc:(a != b)=c) (aG:Φ (.bool c) w):aY P ⟨d,.binOp .neq t x y t',ty,pos,aft,gd⟩ ρ w Φ:=by
 subst hc;exact .pure (v:=.bool (a != b)) (by simp [execOp,h,h',eqGuard,binOp,Op.stringOp,bne]) aG
theorem Ee {dp:Nat} {k:IntKind} {a b c d':Int} (ht:P.underlying t=some (.array 2 e)) (he:P.underlying e=some (.int k)) (hs:(P.info? e).map (·.size)=some 1):(Op.equalIn (dp+1+1) t (.agg #[.int k a,.int k b]) (.agg #[.int k c,.int k d'])).run P w=.ok (a==c&&b==d') w:=by
 cases eH:P.info? e with
 | none=>simp [eH] at hs
 | some inf=>
  simp only [eH,Option.map_some,Option.some.injEq] at hs
  have bA:(sizeOf e).run P w=.ok 1 w:=by simp [sizeOf,typeInfo,Sem.run_bind,eH,hs]
  have hi:∀ a b:Int,(Op.equalIn (dp+1) e (.int k a) (.int k b)).run P w=.ok (a==b) w:=fun a b=>run_equalIn_int w dp e k k a b he
  rw [Op.equalIn]
  simp only [Sem.run_bind,run_underlying ht,Result.andThen_ok,bA]
  have hp:∀ (xs:Array Value) (i:Nat) (x:Int),xs[i]?=some (.int k x)→(part e xs i).run P w=.ok (.int k x) w:=by
   intro xs i x hx
   simp [part,isAgg,Sem.run_bind,run_underlying he,hx]
  simp [Std.Legacy.Range.forIn_eq_forIn_range',Std.Legacy.Range.size,List.range',Sem.run_bind,hi,hp #[.int k a,.int k b] 0 a rfl,hp #[.int k c,.int k d'] 0 c rfl,hp #[.int k a,.int k b] 1 b rfl,hp #[.int k c,.int k d'] 1 d' rfl]
  cases h1:(a==c)<;>cases h2:(b==d')<;>simp_all
end
end Go.Proofs.YtcnpikbbmbombaaGreatDoor
namespace Go.Proofs.YtcnpikbbmbombaaGreatDoor
open Go.RowKit
section
variable {P:Program} {ρ:Operand→Value} {w:World} {Φ:Value→World→Prop} {d:Option Tmp} {ty t t':TypeId} {pos:String} {aft:Array Edge} {gd:Option (Nat×Bool)} {x y:Operand} {k yk:IntKind} {a b c:Int}
theorem K1 (h:ρ x=.int k a) (h':ρ y=.int k b) (hb:b≠0) (hc:k.wrap (a.tdiv b)=c) (aG:Φ (.int k c) w):aY P ⟨d,.binOp .quo t x y t',ty,pos,aft,gd⟩ ρ w Φ:=by
 subst hc;exact .pure (v:=.int k (k.wrap (a.tdiv b))) (by simp [execOp,h,h',eqGuard,binOp,Op.intDiv,hb]) aG
theorem K3 (h:ρ x=.int k a) (h':ρ y=.int k b) (hb:b≠0) (hc:a.tmod b=c) (aG:Φ (.int k c) w):aY P ⟨d,.binOp .rem t x y t',ty,pos,aft,gd⟩ ρ w Φ:=by
 subst hc;exact .pure (v:=.int k (a.tmod b)) (by simp [execOp,h,h',eqGuard,binOp,Op.intDiv,hb]) aG
theorem K4 (h:ρ x=.int k a) (h':ρ y=.int yk b) (hb:0≤b) (hc:k.wrap (a*2 ^ (min b.toNat k.bits))=c) (aG:Φ (.int k c) w):aY P ⟨d,.binOp .shl t x y t',ty,pos,aft,gd⟩ ρ w Φ:=by
 subst hc;exact .pure (v:=.int k (k.wrap (a*2 ^ (min b.toNat k.bits)))) (by simp [execOp,h,h',eqGuard,binOp,Op.shift,show ¬ b<0 by omega]) aG
theorem K5 (h:ρ x=.int k a) (h':ρ y=.int k b) (hc:k.wrap ((BitVec.ofInt k.bits a ^^^ BitVec.ofInt k.bits b).toNat:Int)=c) (aG:Φ (.int k c) w):aY P ⟨d,.binOp .xor t x y t',ty,pos,aft,gd⟩ ρ w Φ:=by
 subst hc;exact .pure (v:=.int k (k.wrap ((BitVec.ofInt k.bits a ^^^ BitVec.ofInt k.bits b).toNat:Int))) (by simp [execOp,h,h',eqGuard,binOp,Op.intBits]) aG
end
end Go.Proofs.YtcnpikbbmbombaaGreatDoor
namespace Go.Proofs.YtcnpikbbmbombaaGreatDoor
open Go.RowKit
section
variable {P:Program} {ρ:Operand→Value} {w:World} {Φ:Value→World→Prop} {d:Option Tmp} {ty t t':TypeId} {pos:String} {aft:Array Edge} {gd:Option (Nat×Bool)} {x y:Operand} {k k' yk:IntKind} {a b c:Int}
theorem K6 (h:ρ x=.int k a) (hc:k.wrap ((BitVec.ofInt k.bits (if k.signed then -1 else k.max) ^^^ BitVec.ofInt k.bits a).toNat:Int)=c) (aG:Φ (.int k c) w):aY P ⟨d,.unOp .xor t x,ty,pos,aft,gd⟩ ρ w Φ:=by
 subst hc;exact .pure (v:=.int k (k.wrap ((BitVec.ofInt k.bits (if k.signed then -1 else k.max) ^^^ BitVec.ofInt k.bits a).toNat:Int))) (by simp [execOp,h,Op.unary,Op.intBits]) aG
theorem Mx (h:ρ x=.int k a) (h':ρ y=.int k b) (hc:k.wrap ((BitVec.ofInt k.bits a ||| BitVec.ofInt k.bits b).toNat:Int)=c) (aG:Φ (.int k c) w):aY P ⟨d,.binOp .or t x y t',ty,pos,aft,gd⟩ ρ w Φ:=by
 subst hc;exact .pure (v:=.int k (k.wrap ((BitVec.ofInt k.bits a ||| BitVec.ofInt k.bits b).toNat:Int))) (by simp [execOp,h,h',eqGuard,binOp,Op.intBits]) aG
theorem K7 (h:ρ x=.int k a) (h':ρ y=.int k b) (hc:k.wrap ((BitVec.ofInt k.bits a &&& BitVec.ofInt k.bits b).toNat:Int)=c) (aG:Φ (.int k c) w):aY P ⟨d,.binOp .and t x y t',ty,pos,aft,gd⟩ ρ w Φ:=by
 subst hc;exact .pure (v:=.int k (k.wrap ((BitVec.ofInt k.bits a &&& BitVec.ofInt k.bits b).toNat:Int))) (by simp [execOp,h,h',eqGuard,binOp,Op.intBits]) aG
theorem K8 (h:ρ x=.int k a) (h':ρ y=.int yk b) (hb:0≤b) (hc:a.fdiv (2 ^ (min b.toNat k.bits))=c) (aG:Φ (.int k c) w):aY P ⟨d,.binOp .shr t x y t',ty,pos,aft,gd⟩ ρ w Φ:=by
 subst hc;exact .pure (v:=.int k (a.fdiv (2 ^ (min b.toNat k.bits)))) (by simp [execOp,h,h',eqGuard,binOp,Op.shift,show ¬ b<0 by omega]) aG
theorem K9 (h:ρ x=.int k a) (h':ρ y=.int k b) (hc:k.wrap (a*b)=c) (aG:Φ (.int k c) w):aY P ⟨d,.binOp .mul t x y t',ty,pos,aft,gd⟩ ρ w Φ:=by
 subst hc;exact .pure (v:=.int k (k.wrap (a*b))) (by simp [execOp,h,h',eqGuard,binOp,Op.intArith]) aG
theorem Fa (hs:(P.underlying t).isSome=true) (hd:P.underlying t'=some (.int k)) (h:ρ x=.int k' a) (hc:k.wrap a=c) (aG:Φ (.int k c) w):aY P ⟨d,.convert t t' x,ty,pos,aft,gd⟩ ρ w Φ:=by
 obtain ⟨u,hu⟩:=Option.isSome_iff_exists.1 hs
 subst hc;exact .pure (v:=.int k (k.wrap a)) (w':=w) (by simp [execOp,h,convert,Sem.run_bind,run_underlying hu,run_underlying hd,Conv.intToInt]) aG
theorem Gp {l:List UInt8} (ht:P.underlying t=some .string) (h:ρ x=.string ⟨l.toArray⟩) (aG:Φ (.int .i64 l.length) w):aY P ⟨d,.call ⟨.builtin .len,#[x],#[t]⟩,ty,pos,aft,gd⟩ ρ w Φ:=by
 obtain ⟨s,hs,bA⟩:∃ s:ByteArray,s=⟨l.toArray⟩∧s.size=l.length:=⟨_,rfl,by simp [ByteArray.size]⟩
 rw [← hs] at h
 exact .pure (v:=.int .i64 l.length) (w':=w) (by simp [execOp,resolve,h,invoke,builtin,Builtin.len_,Sem.run_bind,run_underlying ht,goInt,bA]) aG
end
end Go.Proofs.YtcnpikbbmbombaaGreatDoor
namespace Go.Proofs.YtcnpikbbmbombaaGreatDoor
open Go.RowKit
theorem dY.block {T size n:Nat} {v:Value} {xs:List Value} {H:ak} (h:dY T size v n xs H) (hn:0<n):∃ b cap cs fz,v=.slice (some ⟨b,0,none⟩) n cap∧H=[(b,.cells cs T fz)]∧Fz fz cs.size∧cs.size=cap*size∧n≤cap∧cs.toList.take (n*size)=xs:=by
 rcases h.2 with ⟨h0,_⟩ | h
 ·omega
 ·exact h
inductive aX where
 | b (c:Bool)
 | z (n:Int)
 | ix (i:Nat) (row:List DV)
 | n (i:Nat)
 | n2 (i j:Nat)
 | res (x:DV)
 | call (args:List AV) (x:DV)
 | bX (n:Nat) (tb:List (Nat×List (Nat×aX)))
 | au (x:DV)
 | stay (args:List AV) (x:DV)
 | mem (l:List Nat) (x:AV) (M':List ai)
 | mk (j:Nat) (k:MK) (x:DV)
 | Pb (j:Nat) (k:MK) (x:DV) (i:Nat)
 | may (c:Bool) (o:aX)
def b5:List (Nat×AV)→Nat→Option AV
 | [],_=>none
 | (k,v)::r,s=>bif k.beq s then some v else b5 r s
theorem mb:∀ {E:List (Nat×AV)} {s:Nat} {v:AV},b5 E s=some v→(s,v) ∈ E
 | [],_,_,h=>by simp [b5] at h
 | (k,u)::r,s,v,h=>by
  unfold b5 at h
  cases hk:k.beq s with
  | true=>simp only [hk,cond_true,Option.some.injEq] at h;subst h;rw [Nat.eq_of_beq_eq_true hk];exact List.mem_cons_self
  | false=>simp only [hk,cond_false] at h;exact List.mem_cons_of_mem _ (mb h)
def aI (E:List (Nat×AV)):Operand→Option AV
 | .tmp t=>b5 E t
 | .const v=>some (.d (.v v))
 | .func f=>some (.fn f [])
 | .global _=>none
def bk:List Prop→Prop
 | []=>True
 | p::r=>p∧bk r
structure Out where
 vc:List Prop
 av:AV
 M:List ai
 tc:List Nat
 mv:List Nat
 rd:Option (List Nat)
structure Ctx (D:List Nat) (w0:World) (K0:World→Prop) (E:List (Nat×AV)) (M:List ai) (β:Beta) (F:Nat→ak) (I:ak) (ρ:Operand→Value) (w:World):Prop where
 rm:RM D w0 K0 M β F I w
 sl:∀ t v,b5 E t=some v→ax (fun w=>K0 w∧Holds w I) β v (ρ (.tmp t))
 const:∀ v,ρ (.const v)=v
 func:∀ f,ρ (.func f)=.func (.func f) #[] #[]
 Co:∀ g,ρ (.global g)=.pointer (some ⟨g,0,none⟩)
 k:∀ w,Kp D w0 w→K0 w
variable {P:Program} {T:aP} {D:List Nat} {w0:World} {K0:World→Prop} {E:List (Nat×AV)} {M:List ai} {β:Beta} {F:Nat→ak} {I:ak} {ρ:Operand→Value} {w:World}
theorem Ctx.now (C:Ctx D w0 K0 E M β F I ρ w):K0 w∧Holds w I:=⟨C.k w C.rm.st.kp,(Holds.app.1 C.rm.st.holds).2⟩
theorem Ctx.ev (C:Ctx D w0 K0 E M β F I ρ w) {x:Operand} {v:AV} (h:aI E x=some v):ax (fun w=>K0 w∧Holds w I) β v (ρ x):=by
 cases x with
 | tmp t=>exact C.sl _ _ h
 | const c=>simp only [aI,Option.some.injEq] at h;subst h;rw [C.const];exact .d (.v c)
 | global g=>simp [aI] at h
 | func f=>simp only [aI,Option.some.injEq] at h;subst h;rw [C.func];exact .fn [] rfl (by simp)
theorem Ctx.bR (C:Ctx D w0 K0 E M β F I ρ w) {x:Operand} {v:AV} (h:aI E x=some v):∃ y,ρ x=y∧ax (fun w=>K0 w∧Holds w I) β v y:=⟨_,rfl,C.ev h⟩
def iO (K0:World→Prop) (I:ak) (F:Nat→ak) (rd:List Nat) (w:World):Prop:=(K0 w∧Holds w I)∧∀ u ∈ rd,Holds w (F u)
def tv (P:Program) (o:Oper) (E:List (Nat×AV)) (M:List ai) (vc:List Prop) (av:AV) (rd:List Nat):Prop:=
 ∀ {D:List Nat} {w0:World} {K0:World→Prop} {β:Beta} {F:Nat→ak} {I:ak} {ρ:Operand→Value} {w:World},Ctx D w0 K0 E M β F I ρ w→bk vc→
  ∃ v,ax (fun w=>K0 w∧Holds w I) β av v∧∀ w',iO K0 I F rd w'→(execOp ρ o).run P w'=.ok (.value v) w'
def bS (I I':ak):Prop:=∃ J,I'=J++I
theorem bS.refl (I:ak):bS I I:=⟨[],rfl⟩
theorem bS.holds {I I':ak} (h:bS I I'):∀ w,Holds w I'→Holds w I:=by obtain ⟨J,rfl⟩:=h;exact fun w hw=>(Holds.app.1 hw).2
theorem bS.trans {A B C:ak} (h:bS A B) (k:bS B C):bS A C:=by obtain ⟨J,rfl⟩:=h;obtain ⟨L,rfl⟩:=k;exact ⟨L++J,by rw [List.append_assoc]⟩
def gk (mv:List Nat) (β aB:Beta):Prop:=∀ (u:Nat) x,u ∉ mv→β[u]?=some x→aB[u]?=some x
def tx (P:Program) (o:Oper) (E:List (Nat×AV)) (M:List ai) (out:Out):Prop:=
 ∀ {D:List Nat} {w0:World} {K0:World→Prop} {β:Beta} {F:Nat→ak} {I:ak} {ρ:Operand→Value} {w:World},Ctx D w0 K0 E M β F I ρ w→bk out.vc→
  aY P o ρ w fun v w'=>∃ aB F' I',RM D w0 K0 out.M aB F' I' w'∧gk out.mv β aB∧bS I I'∧(∀ u,u<M.length→u ∉ out.tc→F' u=F u)∧ax (fun w=>K0 w∧Holds w I') aB out.av v
def aJ (P:Program) (o:Oper) (E:List (Nat×AV)) (M:List ai) (out:Out):Prop:=
 match out.rd with
 | some rd=>tv P o E M out.vc out.av rd∧out.M=M∧out.mv=[]∧∀ u ∈ rd,u<M.length
 | none=>tx P o E M out
theorem Ext.b {β aB:Beta} (h:Ext β aB) (mv:List Nat):gk mv β aB:=fun u x _ hx=>h u x hx
theorem RM.iK (R:RM D w0 K0 M β F I w) {u:Nat} {blk:ai} (h:M[u]?=some blk):Holds w (F u):=by
 intro x hx
 obtain ⟨hu,-⟩:=List.getElem?_eq_some_iff.1 h
 exact R.st.holds x (List.mem_append_left _ (List.mem_flatMap.2 ⟨u,List.mem_range.2 hu,hx⟩))
theorem RM.at (R:RM D w0 K0 M β F I w) {u:Nat} {blk:ai} (h:M[u]?=some blk):∃ H,F u=H∧bF (fun w=>K0 w∧Holds w I) β u blk H∧Holds w H:=⟨_,rfl,R.blk u _ h,R.iK h⟩
theorem Ctx.xj (C:Ctx D w0 K0 E M β F I ρ w) {rd:List Nat} (h:∀ u ∈ rd,u<M.length):iO K0 I F rd w:=⟨C.now,fun u hu=>C.rm.iK (List.getElem?_eq_getElem (h u hu))⟩
theorem tv.pn {o:Oper} {vc:List Prop} {av:AV} {rd:List Nat} (h:tv P o E M vc av rd) (hr:∀ u ∈ rd,u<M.length):tx P o E M ⟨vc,av,M,[],[],some rd⟩:=by
 intro D w0 K0 β F I ρ w C hv
 obtain ⟨v,h1,h2⟩:=h C hv
 exact aY.pure (h2 w (C.xj hr)) ⟨β,F,I,C.rm,(Ext.refl β).b _,bS.refl _,fun _ _ _=>rfl,h1⟩
theorem aJ.pn {o:Oper} {out:Out} (h:aJ P o E M out):tx P o E M out:=by
 obtain ⟨vc,av,M',tc,mv,rd⟩:=out
 unfold aJ at h
 cases rd with
 | none=>exact h
 | some rd=>
  obtain ⟨h1,rfl,rfl,h2⟩:=h
  intro D w0 K0 β F I ρ w C hv
  refine aY.mono (h1.pn h2 C hv) fun v w' ⟨aB,F',I',R,e,hI,hF,hr⟩=>⟨aB,F',I',R,e,hI,fun u hu _=>hF u hu (by simp),hr⟩
theorem aJ.look {o:Oper} {vc:List Prop} {av:AV} {rd:List Nat} (h:tv P o E M vc av rd) (hr:∀ u ∈ rd,u<M.length):aJ P o E M ⟨vc,av,M,[],[],some rd⟩:=⟨h,rfl,rfl,hr⟩
theorem aJ.same {o:Oper} {vc:List Prop} {av:AV} (h:∀ {D:List Nat} {w0:World} {K0:World→Prop} {β:Beta} {F:Nat→ak} {I:ak} {ρ:Operand→Value} {w:World},Ctx D w0 K0 E M β F I ρ w→bk vc→∃ v,(∀ w',K0 w'∧Holds w' I→(execOp ρ o).run P w'=.ok (.value v) w')∧ax (fun w=>K0 w∧Holds w I) β av v):aJ P o E M ⟨vc,av,M,[],[],some []⟩:=
 aJ.look (fun C hv=>let ⟨v,h1,h2⟩:=h C hv;⟨v,h2,fun w' hs=>h1 w' hs.1⟩) (by simp)
section
variable {d:Option Tmp} {ty:TypeId} {pos:String} {aft:Array Edge} {gd:Option (Nat×Bool)} {oc:Option aX} {out:Out}
def lk (vc:List Prop) (av:AV) (M:List ai):Out:=⟨vc,av,M,[],[],some []⟩
def sJ (E:List (Nat×AV)) (M:List ai) (x:Operand):Option Out:=match aI E x with | some v=>some (lk [] v M) | none=>none
theorem z6 {x:Operand} (h:sJ E M x=some out):aJ P ⟨d,.move x,ty,pos,aft,gd⟩ E M out∧aJ P ⟨d,.assign x,ty,pos,aft,gd⟩ E M out:=by
 unfold sJ at h
 split at h
 ·rename_i v hv
  simp only [Option.some.injEq] at h;subst h
  exact ⟨aJ.same fun C _=>⟨_,fun _ _=>Jt rfl,C.ev hv⟩,aJ.same fun C _=>⟨_,fun _ _=>Gh rfl,C.ev hv⟩⟩
 ·simp at h
def xk (E:List (Nat×AV)) (M:List ai) (x:Operand):Option Out:=
 match aI E x with | some (.pt u o)=>some (lk [] (.pt u o) M) | some (.ep u k i o)=>some (lk [] (.ep u k i o) M) | some (.rp r o)=>some (lk [] (.rp r o) M) | _=>none
theorem JA {K:World→Prop} {v:AV} {y:Value} (h:ax K β v y) (hv:(∃ u o,v=.pt u o)∨(∃ u k i o,v=.ep u k i o)∨∃ r o,v=.rp r o):∃ a,y=.pointer (some a):=by
 cases h with
 | pt h=>exact ⟨_,rfl⟩
 | ep h=>exact ⟨_,rfl⟩
 | rp a X hl hc hr=>exact ⟨_,rfl⟩
 | _=>simp at hv
theorem HX {x:Operand} (h:xk E M x=some out):aJ P ⟨d,.nilCheck x,ty,pos,aft,gd⟩ E M out:=by
 unfold xk at h
 split at h<;>simp only [Option.some.injEq,reduceCtorEq] at h<;>subst h<;>rename_i hv<;>
  refine aJ.same fun C _=>?_<;>obtain ⟨a,ha⟩:=JA (C.ev hv) (by simp)<;>exact ⟨_,fun _ _=>EB ha,ha▸C.ev hv⟩
def uu (E:List (Nat×AV)) (M:List ai) (x:Operand) (i:Nat):Option Out:=
 match aI E x with | some (.tu l)=>(match l[i]? with | some v=>some (lk [] v M) | none=>none) | _=>none
theorem vp {R:AV→Value→Prop} {l:List AV} {ys:List Value} (hl:ys.length=l.length) (hr:∀ (j:Nat) c y,l[j]?=some c→ys[j]?=some y→R c y) {i:Nat} {v:AV} (hv:l[i]?=some v):∃ y,ys[i]?=some y∧R v y:=by
 obtain ⟨hi,-⟩:=List.getElem?_eq_some_iff.1 hv
 exact ⟨_,List.getElem?_eq_getElem (by omega),hr i _ _ hv (List.getElem?_eq_getElem (by omega))⟩
theorem Ek {x:Operand} {i:Nat} (h:uu E M x i=some out):aJ P ⟨d,.extract x i,ty,pos,aft,gd⟩ E M out:=by
 unfold uu at h
 split at h
 ·rename_i l hv
  split at h
  ·rename_i v hi
   simp only [Option.some.injEq] at h;subst h
   refine aJ.same fun C _=>?_
   obtain ⟨y,qD,r⟩:=C.bR hv
   cases r with
   | tu ys hl hr=>
    obtain ⟨y,h1,h2⟩:=vp hl hr hi
    exact ⟨y,fun _ _=>E6 qD (by simpa using h1),h2⟩
  ·simp at h
 ·simp at h
theorem uv {s:TypeId} {x:Operand} {f off:Nat} {a:Addr} (hf:nq P s f=some off) (h:ρ x=.pointer (some a)):(execOp ρ ⟨d,.fieldAddr s x f,ty,pos,aft,gd⟩).run P w=.ok (.value (.pointer (some (a.add off)))) w:=by
 simp only [execOp,h,Sem.run_bind,Ei hf,Result.andThen_ok,Sem.run_pure]
def vq (T:aP) (E:List (Nat×AV)) (M:List ai) (s:TypeId) (x:Operand) (f:Nat):Option Out:=
 match xi T s f with
 | some off=>(match aI E x with | some (.pt u o)=>some (lk [] (.pt u (o+off)) M) | some (.ep u k i o)=>some (lk [] (.ep u k i (o+off)) M) | some (.rp r o)=>some (lk [] (.rp r (o+off)) M) | _=>none)
 | none=>none
theorem Fb (hT:aZ P T=true) {s:TypeId} {x:Operand} {f:Nat} (h:vq T E M s x f=some out):aJ P ⟨d,.fieldAddr s x f,ty,pos,aft,gd⟩ E M out:=by
 unfold vq at h
 split at h
 ·rename_i off ho
  have xl:=HW hT ho
  split at h<;>simp only [Option.some.injEq,reduceCtorEq] at h<;>subst h<;>rename_i hv<;>refine aJ.same fun C _=>?_<;>obtain ⟨y,qD,r⟩:=C.bR hv
  ·cases r with | pt hb=>exact ⟨_,fun _ _=>uv xl qD,by rw [add_eq];exact .pt hb⟩
  ·cases r with | ep hb=>exact ⟨_,fun _ _=>uv xl qD,by rw [add_eq,Nat.add_assoc];exact .ep hb⟩
  ·cases r with | rp a X hl hc hr=>exact ⟨_,fun _ _=>uv xl qD,by rw [Addr.nr];exact .rp a X hl hc hr⟩
 ·simp at h
def DV.cp:DV→Bool
 | .v _=>true
 | .ro _ _=>true
 | .jk=>true
 | .em _ _ _=>false
 | .ag _=>false
 | .tu _=>false
 | .pb _ _=>false
theorem bM.cp {K:World→Prop} {x:DV} {y:Value} {H:ak} (h:bM K x y H) (hc:x.cp=true):bM K x y []:=by
 cases h with
 | v=>exact .v _
 | jk=>exact .jk _
 | ro X hl hy hs hr=>exact .ro X hl hy hs hr
 | em=>simp [DV.cp] at hc
 | ag=>simp [DV.cp] at hc
 | tu=>simp [DV.cp] at hc
 | pb=>simp [DV.cp] at hc
def xm (l:List AV) (o n:Nat):Option AV:=bif (o+n).ble l.length then some (.ag ((l.drop o).take n)) else none
def kW (T:aP) (t:TypeId) (l:List AV) (o:Nat):Option AV:=
 match pk T t with | some .one=>l[o]? | some (.many n)=>xm l o n | none=>none
theorem oQ (hT:aZ P T=true) {t:TypeId} {l:List AV} {o:Nat} {v:AV} {x:Operand} {a:Addr} {R:AV→Value→Prop} {ys:List Value} (hR:∀ (l:List AV) (ys:List Value),ys.length=l.length→(∀ (j:Nat) c y,l[j]?=some c→ys[j]?=some y→R c y)→R (.ag l) (.agg ys.toArray))
  (h:kW T t l o=some v) (hx:ρ x=.pointer (some (a.add o))) (hl:ys.length=l.length) (hr:∀ (j:Nat) c y,l[j]?=some c→ys[j]?=some y→R c y):
  ∃ y,R v y∧∀ w:World,(∀ (j:Nat) y,ys[j]?=some y→w.cell? (a.add j)=some y)→(execOp ρ ⟨d,.load t x,ty,pos,aft,gd⟩).run P w=.ok (.value y) w:=by
 unfold kW at h
 split at h
 ·rename_i ht
  obtain ⟨y,h1,h2⟩:=vp hl hr h
  exact ⟨y,h2,fun w hc=>Bh (uP hT ht) hx (hc _ _ h1)⟩
 ·rename_i n ht
  have ha:=zZ hT ht
  simp only [xm] at h
  cases hb:(o+n).ble l.length with
  | false=>simp [hb] at h
  | true=>
   simp only [hb,cond_true,Option.some.injEq] at h
   have hle:o+n≤l.length:=Nat.le_of_ble_eq_true hb
   subst h
   have hlen:((ys.drop o).take n).length=n:=by simp;omega
   refine ⟨.agg ((ys.drop o).take n).toArray,hR _ _ (by simp;omega) ?_,fun w hc=>E8 ((ys.drop o).take n) (by rw [hlen];exact ha) hx (fun j hj=>?_)⟩
   ·intro j c y h1 h2
    rw [List.getElem?_take,List.getElem?_drop] at h1 h2
    split at h1
    ·rename_i hj;rw [if_pos hj] at h2;exact hr _ _ _ h1 h2
    ·simp at h1
   ·rw [Addr.nr]
    refine hc (o+j) _ ?_
    rw [List.getElem_take,List.getElem_drop];exact List.getElem?_eq_getElem _
 ·simp at h
def wm (T:aP) (E:List (Nat×AV)) (M:List ai) (oc:Option aX) (t:TypeId) (x:Operand):Option Out:=
 match aI E x with
 | some (.pt u o)=>(match M[u]? with | some (.bx _ cells)=>(match kW T t cells o with | some v=>some ⟨[],v,M,[],[],some [u]⟩ | none=>none) | _=>none)
 | some (.rp row o)=>(match kW T t (row.map .d) o with | some v=>some (lk [] v M) | none=>none)
 | some (.ep u k i o)=>(match oc with
  | some (.ix _ row)=>(match M[u]? with | some (.rw _ k' rows)=>bif k.beq k'&&row.all DV.cp then (match kW T t (row.map .d) o with | some v=>some ⟨[rows[i]?=some row],v,M,[],[],some [u]⟩ | none=>none) else none | _=>none)
  | _=>none)
 | _=>none
theorem j4 {n k:Nat} {X:Nat→List Value} (hX:∀ i,i<n→(X i).length=k) {i j:Nat} (hi:i<n) (hj:j<k):(lay n X)[i*k+j]?=(X i)[j]?:=by
 induction n with
 | zero=>omega
 | succ n ih=>
  have hl:(lay n X).length=n*k:=by
   have:∀ m,m≤n→(lay m X).length=m*k:=by
    intro m hm
    induction m with
    | zero=>simp [lay]
    | succ m Nu=>
     have:=Nu (by omega)
     simp only [lay,List.range_succ,List.flatMap_append,List.length_append,List.flatMap_cons,List.flatMap_nil,List.append_nil] at this ⊢
     rw [this,hX m (by omega),Nat.succ_mul]
   exact this n (Nat.le_refl _)
  have hs:lay (n+1) X=lay n X++X n:=by simp [lay,List.range_succ,List.flatMap_append]
  rw [hs]
  rcases Nat.lt_or_ge i n with h | h
  ·have:i*k+j<n*k:=by
    have:=Nat.mul_le_mul_right k (show i+1≤n from h);rw [Nat.succ_mul] at this;omega
   rw [List.getElem?_append_left (by rw [hl];exact this)]
   exact ih (fun i hi=>hX i (by omega)) h
  ·obtain rfl:i=n:=by omega
   rw [List.getElem?_append_right (by rw [hl];omega),hl]
   congr 1;omega
theorem ff {l:List ai} {u:Nat} {b:ai} (h:l[u]?=some b):u<l.length:=(List.getElem?_eq_some_iff.1 h).1
theorem Gq (hT:aZ P T=true) {t:TypeId} {x:Operand} (h:wm T E M oc t x=some out):aJ P ⟨d,.load t x,ty,pos,aft,gd⟩ E M out:=by
 unfold wm at h
 split at h
 ·rename_i u o hv
  split at h
  ·rename_i Tt cells hM
   split at h
   ·rename_i v jw
    simp only [Option.some.injEq] at h;subst h
    refine aJ.look (fun C _=>?_) (by simpa using ff hM)
    obtain ⟨y,hy,r⟩:=C.bR hv
    cases r with
    | pt hb=>
     obtain ⟨H,hF,hB,hH⟩:=C.rm.at hM
     cases hB with
     | bx aS ys hl hr=>
      rw [hb] at aS;cases aS
      obtain ⟨y',h1,h2⟩:=oQ hT (a:=⟨_,0,none⟩) (fun l ys=>ax.ag ys) jw (hy.trans (by rw [add_eq,Nat.zero_add])) hl hr
      refine ⟨y',h1,fun w' hs=>h2 w' fun j z hj=>?_⟩
      have hw:Holds w' _:=hs.2 u (by simp)
      rw [hF] at hw
      rw [add_eq,cell_of hw.one,Nat.zero_add];simpa using hj
   ·simp at h
  ·simp at h
 ·rename_i row o hv
  split at h
  ·rename_i v jw
   simp only [Option.some.injEq] at h;subst h
   refine aJ.same ?_
   intro D w0 K0 β F I ρ w C _
   obtain ⟨y,hy,r⟩:=C.bR hv
   cases r with
   | rp a X hl hc hr=>
    have cS:X.length=(row.map AV.d).length:=by rw [List.length_map];exact hl
    obtain ⟨y',h1,h2⟩:=oQ hT (a:=a) (R:=ax (fun w=>K0 w∧Holds w I) β) (fun l ys=>ax.ag ys) jw hy cS (fun j c z h1 h2=>by
     simp only [List.getElem?_map,Option.map_eq_some_iff] at h1
     obtain ⟨c',h1,rfl⟩:=h1
     exact .d (hr j c' z h1 h2))
    exact ⟨y',fun w' hs=>h2 w' fun j z hj=>hc w' hs j z hj,h1⟩
  ·simp at h
 ·rename_i u k i o hv
  split at h
  ·rename_i i0 row
   split at h
   rotate_left
   ·simp at h
   rename_i Tt k' rows hM
   cases hk:(k.beq k'&&row.all DV.cp) with
   | false=>simp [hk] at h
   | true=>
    simp only [hk,cond_true] at h
    simp only [Bool.and_eq_true] at hk
    obtain ⟨hk,qP⟩:=hk
    obtain rfl:=Nat.eq_of_beq_eq_true hk
    split at h
    ·rename_i v jw
     simp only [Option.some.injEq] at h;subst h
     refine aJ.look ?_ (by simpa using ff hM)
     intro D w0 K0 β F I ρ w C da
     obtain ⟨b9,-⟩:=da
     obtain ⟨y,hy,r⟩:=C.bR hv
     cases r with
     | ep hb=>
      obtain ⟨H,hF,hB,hH⟩:=C.rm.at hM
      cases hB with
      | rw aS X G hl hs hr=>
       rw [hb] at aS;cases aS
       obtain ⟨x7,x8⟩:=hl i row b9
       obtain ⟨hi,-⟩:=List.getElem?_eq_some_iff.1 b9
       obtain ⟨b',cap,cs,fz,he,rfl,ey,cF,hn,ht⟩:=hs.block (by omega)
       cases he
       have cS:(X i).length=(row.map AV.d).length:=by rw [List.length_map];omega
       obtain ⟨y',h1,h2⟩:=oQ hT (a:=⟨_,i*k,none⟩) (R:=ax (fun w=>K0 w∧Holds w I) β) (fun l ys=>ax.ag ys) jw (hy.trans (by rw [add_eq])) cS (fun j c z h1 h2=>by
        simp only [List.getElem?_map,Option.map_eq_some_iff] at h1
        obtain ⟨c',h1,rfl⟩:=h1
        exact .d ((hr i row j c' z b9 h1 h2).cp (List.all_eq_true.1 qP c' (List.mem_of_getElem? h1))))
       refine ⟨y',h1,fun w' x9=>h2 w' fun j z hj=>?_⟩
       have dC:Holds w' _:=x9.2 u (by simp)
       rw [hF] at dC
       have hw:=(Holds.app.1 dC).1.one
       obtain ⟨gq,-⟩:=List.getElem?_eq_some_iff.1 hj
       rw [add_eq,cell_of hw,← hj,← j4 (fun i hi=>(hl i _ (List.getElem?_eq_getElem hi)).2) hi (by omega),← ht,List.getElem?_take,if_pos,Array.getElem?_toList]
       have:=Nat.mul_le_mul_right k (show i+1≤rows.length from hi);rw [Nat.succ_mul] at this;omega
    ·simp at h
  ·simp at h
 ·simp at h
theorem rT {e size n c:Nat} {t:TypeId} {x ix:Operand} {a:Addr} {k:IntKind} {i:Int} (ht:P.underlying t=some (.slice e)) (hs:(P.info? e).map (·.size)=some size) (hx:ρ x=.slice (some a) n c) (hi:ρ ix=.int k i) (h0:0≤i) (h1:i<n):
  (execOp ρ ⟨d,.indexAddr t x ix,ty,pos,aft,gd⟩).run P w=.ok (.value (.pointer (some (a.add (i.toNat*size))))) w:=by
 cases eH:P.info? e with
 | none=>simp [eH] at hs
 | some inf=>
  simp only [eH,Option.map_some,Option.some.injEq] at hs
  have bA:(sizeOf e).run P w=.ok size w:=by simp [sizeOf,typeInfo,Sem.run_bind,eH,hs]
  simp [execOp,hx,hi,Instr.indexAt,asIntOf,Sem.run_bind,run_underlying ht,h0,h1,bA]
theorem ow {e size n:Nat} {t:TypeId} {x ix:Operand} {a:Addr} {k:IntKind} {i:Int} (ht:P.underlying t=some (.array n e)) (hs:(P.info? e).map (·.size)=some size) (hx:ρ x=.pointer (some a)) (hi:ρ ix=.int k i) (h0:0≤i) (h1:i<n):
  (execOp ρ ⟨d,.indexAddr t x ix,ty,pos,aft,gd⟩).run P w=.ok (.value (.pointer (some (a.add (i.toNat*size))))) w:=by
 cases eH:P.info? e with
 | none=>simp [eH] at hs
 | some inf=>
  simp only [eH,Option.map_some,Option.some.injEq] at hs
  have bA:(sizeOf e).run P w=.ok size w:=by simp [sizeOf,typeInfo,Sem.run_bind,eH,hs]
  simp [execOp,hx,hi,Instr.indexAt,Instr.sureAddr,asIntOf,Sem.run_bind,run_underlying ht,h0,h1,bA]
def cL:Option AV→Option (IntKind×Int)
 | some (.d (.v (.int k z)))=>some (k,z)
 | _=>none
theorem Ctx.int (C:Ctx D w0 K0 E M β F I ρ w) {x:Operand} {k:IntKind} {z:Int} (h:cL (aI E x)=some (k,z)):ρ x=.int k z:=by
 unfold cL at h
 split at h
 ·rename_i k' z' hv
  simp only [Option.some.injEq,Prod.mk.injEq] at h;obtain ⟨rfl,rfl⟩:=h
  obtain ⟨y,hy,r⟩:=C.bR hv
  cases r with | d h=>cases h;exact hy
 ·simp at h
def vr (T:aP) (E:List (Nat×AV)) (M:List ai) (oc:Option aX) (t:TypeId) (x ix:Operand):Option Out:=
 match cL (aI E ix) with
 | none=>none
 | some (_,z)=>
  match cV T t with
  | some (.sl e)=>(match fA T e with
   | none=>none
   | some k=>(match oc with
    | some (.ix i row)=>(match aI E x with | some (.d (.ro k' rows))=>(bif k.beq k' then some (lk [z=(i:Int),rows[i]?=some row] (.rp row 0) M) else none) | _=>none)
    | some (.n i)=>(match aI E x with | some (.sl u n)=>(match M[u]? with | some (.rw _ _ rows)=>some ⟨[z=(i:Int),i<n,n≤rows.length],.ep u k i 0,M,[],[],some []⟩ | _=>none) | _=>none)
    | _=>none))
  | some (.ar n e)=>(match fA T e with
   | none=>none
   | some k=>(match oc with
    | some (.n i)=>(match aI E x with | some (.pt u o)=>some (lk [z=(i:Int),i<n] (.pt u (o+i*k)) M) | some (.ep u k' j o)=>some (lk [z=(i:Int),i<n] (.ep u k' j (o+i*k)) M) | some (.rp r o)=>some (lk [z=(i:Int),i<n] (.rp r (o+i*k)) M) | _=>none)
    | _=>none))
  | _=>none
theorem add_zero' (a:Addr):a.add 0=a:=by unfold Addr.add;simp
theorem Fc (hT:aZ P T=true) {t:TypeId} {x ix:Operand} (h:vr T E M oc t x ix=some out):aJ P ⟨d,.indexAddr t x ix,ty,pos,aft,gd⟩ E M out:=by
 unfold vr at h
 split at h
 ·simp at h
 rename_i kk z hz
 split at h
 ·rename_i e ht
  replace ht:=cH hT ht
  split at h
  ·simp at h
  rename_i k hk
  replace hk:=gO hT hk
  split at h
  ·rename_i i row
   split at h
   ·rename_i k' rows hv
    cases cn:k.beq k' with
    | false=>simp [cn] at h
    | true=>
     simp only [cn,cond_true,Option.some.injEq] at h;subst h
     obtain rfl:=Nat.eq_of_beq_eq_true cn
     refine aJ.same fun C da=>?_
     obtain ⟨rfl,b9,-⟩:=da
     obtain ⟨y,hy,r⟩:=C.bR hv
     cases r with | d r=>
     cases r with
     | ro X hl iV hs hr=>
      obtain ⟨hi,-⟩:=List.getElem?_eq_some_iff.1 b9
      obtain ⟨a,c,tz,-⟩:=(hs _ C.now).row hi
      refine ⟨_,fun _ _=>rT ht hk (hy.trans tz) (C.int hz) (by omega) (by omega),?_⟩
      have e0:a.add (((i:Nat):Int).toNat*k)=(a.add (i*k)).add 0:=by rw [add_zero'];simp
      rw [e0]
      refine .rp _ (X i) (by have:=hl i row b9;omega) (fun w' dC j x hj=>?_) (fun j c x h1 h2=>hr i row j c x b9 h1 h2)
      obtain ⟨a',c',xn,ka⟩:=(hs w' dC).row hi
      rw [tz] at xn;simp only [Value.slice.injEq,Option.some.injEq] at xn;obtain ⟨rfl,-⟩:=xn
      have qO:=(hl i row b9).2
      obtain ⟨gq,-⟩:=List.getElem?_eq_some_iff.1 hj
      have hg:=j4 (fun i hi=>(hl i _ (List.getElem?_eq_getElem hi)).2) hi (show j<k by omega)
      rw [hj] at hg
      obtain ⟨aO,lz⟩:=List.getElem?_eq_some_iff.1 hg
      rw [ka j (by omega) aO,lz]
   ·simp at h
  ·rename_i i
   split at h
   ·rename_i u n hv
    split at h
    ·rename_i Tt k' rows hM
     simp only [Option.some.injEq] at h;subst h
     refine aJ.look (fun C da=>?_) (by simp)
     obtain ⟨rfl,hi,CY,-⟩:=da
     obtain ⟨y,hy,r⟩:=C.bR hv
     cases r with
     | sl hb=>
      obtain ⟨H,-,hB,-⟩:=C.rm.at hM
      cases hB with
      | rw aS X G hl hs hr=>
       rw [hb] at aS;cases aS
       obtain ⟨b',cap,cs,fz,he,-⟩:=hs.block (by omega)
       cases he
       exact ⟨_,by rw [add_eq];simpa using ax.ep (k:=k) (i:=i) (o:=0) hb,fun _ _=>rT ht hk hy (C.int hz) (by omega) (by omega)⟩
    ·simp at h
   ·simp at h
  ·simp at h
 ·rename_i n e ht
  replace ht:=cH hT ht
  split at h
  ·simp at h
  rename_i k hk
  replace hk:=gO hT hk
  split at h
  ·rename_i i
   split at h<;>simp only [Option.some.injEq,reduceCtorEq] at h<;>subst h<;>rename_i hv<;>refine aJ.same fun C da=>?_<;>obtain ⟨rfl,hi,-⟩:=da<;>obtain ⟨y,hy,r⟩:=C.bR hv
   ·cases r with | pt hb=>exact ⟨_,fun _ _=>ow ht hk hy (C.int hz) (by omega) (by omega),by rw [add_eq];exact .pt hb⟩
   ·cases r with | ep hb=>exact ⟨_,fun _ _=>ow ht hk hy (C.int hz) (by omega) (by omega),by rw [add_eq,Nat.add_assoc];exact .ep hb⟩
   ·cases r with | rp a X hl hc hr=>exact ⟨_,fun _ _=>ow ht hk hy (C.int hz) (by omega) (by omega),by rw [Addr.nr];exact .rp a X hl hc hr⟩
  ·simp at h
 ·simp at h
end
end Go.Proofs.YtcnpikbbmbombaaGreatDoor
namespace Go.Proofs.YtcnpikbbmbombaaGreatDoor
open Go.RowKit
variable {P:Program} {T:aP} {D:List Nat} {w0:World} {K0:World→Prop} {E:List (Nat×AV)} {M:List ai} {β:Beta} {F:Nat→ak} {I:ak} {ρ:Operand→Value} {w:World}
variable {d:Option Tmp} {ty:TypeId} {pos:String} {aft:Array Edge} {gd:Option (Nat×Bool)} {oc:Option aX} {out:Out}
def AV.i (k:IntKind) (z:Int):AV:=.d (.v (.int k z))
def AV.b (c:Bool):AV:=.d (.v (.bool c))
def ln:Option AV→Option Bool
 | some (.d (.v (.bool c)))=>some c
 | _=>none
theorem Ctx.bool (C:Ctx D w0 K0 E M β F I ρ w) {x:Operand} {c:Bool} (h:ln (aI E x)=some c):ρ x=.bool c:=by
 unfold ln at h
 split at h
 ·rename_i c' hv
  simp only [Option.some.injEq] at h;subst h
  obtain ⟨y,hy,r⟩:=C.bR hv
  cases r with | d h=>cases h;exact hy
 ·simp at h
def jn:Option AV→Option (List UInt8)
 | some (.d (.v (.string s)))=>some s.data.toList
 | _=>none
theorem Ctx.str (C:Ctx D w0 K0 E M β F I ρ w) {x:Operand} {l:List UInt8} (h:jn (aI E x)=some l):ρ x=.string ⟨l.toArray⟩:=by
 unfold jn at h
 split at h
 ·rename_i s hv
  simp only [Option.some.injEq] at h;subst h
  obtain ⟨y,hy,r⟩:=C.bR hv
  cases r with | d h=>cases h;rw [hy]
 ·simp at h
def Cp:BinOp→Int→Int→Option Bool
 | .eql,a,b=>some (a==b)
 | .neq,a,b=>some (a != b)
 | .lss,a,b=>some (decide (a<b))
 | .leq,a,b=>some (decide (a≤b))
 | .gtr,a,b=>some (decide (b<a))
 | .geq,a,b=>some (decide (b≤a))
 | _,_,_=>none
def CZ:BinOp→IntKind→Int→Int→Option (List Prop×Int)
 | .add,k,a,b=>some ([],k.wrap (a+b))
 | .sub,k,a,b=>some ([],k.wrap (a-b))
 | .mul,k,a,b=>some ([],k.wrap (a*b))
 | .quo,k,a,b=>some ([b≠0],k.wrap (a.tdiv b))
 | .rem,_,a,b=>some ([b≠0],a.tmod b)
 | .and,k,a,b=>some ([],k.wrap ((BitVec.ofInt k.bits a &&& BitVec.ofInt k.bits b).toNat:Int))
 | .or,k,a,b=>some ([],k.wrap ((BitVec.ofInt k.bits a ||| BitVec.ofInt k.bits b).toNat:Int))
 | .xor,k,a,b=>some ([],k.wrap ((BitVec.ofInt k.bits a ^^^ BitVec.ofInt k.bits b).toNat:Int))
 | _,_,_,_=>none
def C0:BinOp→IntKind→Int→Int→Option Int
 | .shl,k,a,b=>some (k.wrap (a*2 ^ (min b.toNat k.bits)))
 | .shr,k,a,b=>some (a.fdiv (2 ^ (min b.toNat k.bits)))
 | _,_,_,_=>none
def lq (oc:Option aX) (c0:Bool) (M:List ai):Out:=match oc with | some (.b c)=>lk [c0=c] (.b c) M | _=>lk [] (.b c0) M
def lr (oc:Option aX) (vc:List Prop) (k:IntKind) (z0:Int) (M:List ai):Out:=match oc with | some (.z z)=>lk ((z0=z)::vc) (.i k z) M | _=>lk vc (.i k z0) M
def nT (P:Program) (o:Oper):Prop:=∀ (ρ:Operand→Value) (w:World),(∃ v w',(execOp ρ o).run P w=.ok (.value v) w')∨∃ h w',(execOp ρ o).run P w=.halt h w'
theorem nT.of {o:Oper} (h:∀ ρ:Operand→Value,∃ s:Sem Value,execOp ρ o=(do pure (Next.value (← s)))):nT P o:=by
 intro ρ w
 obtain ⟨s,hs⟩:=h ρ
 rw [hs]
 simp only [Sem.run_bind]
 cases hr:s.run P w with
 | ok v' w'=>exact Or.inl ⟨v',w',by simp⟩
 | halt x w'=>exact Or.inr ⟨x,w',rfl⟩
theorem rV {o:Oper} {ρ:Operand→Value} {w:World} {v:Value} (hk:nT P o) (h:aY P o ρ w fun v' w'=>v'=v∧w'=w):(execOp ρ o).run P w=.ok (.value v) w:=by
 unfold aY at h
 rcases hk ρ w with ⟨v',w',hr⟩ | ⟨x,w',hr⟩<;>rw [hr] at h ⊢
 ·obtain ⟨rfl,rfl⟩:=h;rfl
 ·exact h.elim
theorem j7 {o:Oper} {vc:List Prop} {av:AV} (hk:nT P o) (h:∀ {D:List Nat} {w0:World} {K0:World→Prop} {β:Beta} {F:Nat→ak} {I:ak} {ρ:Operand→Value} {w:World},Ctx D w0 K0 E M β F I ρ w→bk vc→∃ v,ax (fun w=>K0 w∧Holds w I) β av v∧∀ (w:World) (Φ:Value→World→Prop),Φ v w→aY P o ρ w Φ):aJ P o E M (lk vc av M):=
 aJ.same fun C hv=>let ⟨v,h1,h2⟩:=h C hv;⟨v,fun w' _=>rV hk (h2 w' _ ⟨rfl,rfl⟩),h1⟩
theorem ns {o:Oper} {c0:Bool} (hk:nT P o) (h:∀ {D:List Nat} {w0:World} {K0:World→Prop} {β:Beta} {F:Nat→ak} {I:ak} {ρ:Operand→Value} {w:World},Ctx D w0 K0 E M β F I ρ w→∀ (w:World) (Φ:Value→World→Prop),Φ (.bool c0) w→aY P o ρ w Φ):aJ P o E M (lq oc c0 M):=by
 unfold lq
 split
 ·refine j7 hk fun C hv=>?_
  obtain ⟨rfl,-⟩:=hv
  exact ⟨_,.d (.v _),h C⟩
 ·exact j7 hk fun C _=>⟨_,.d (.v _),h C⟩
theorem mg {o:Oper} {vc:List Prop} {k:IntKind} {z0:Int} (hk:nT P o) (h:∀ {D:List Nat} {w0:World} {K0:World→Prop} {β:Beta} {F:Nat→ak} {I:ak} {ρ:Operand→Value} {w:World},Ctx D w0 K0 E M β F I ρ w→bk vc→∀ (w:World) (Φ:Value→World→Prop),Φ (.int k z0) w→aY P o ρ w Φ):aJ P o E M (lr oc vc k z0 M):=by
 unfold lr
 split
 ·refine j7 hk fun C hv=>?_
  obtain ⟨rfl,hv⟩:=hv
  exact ⟨_,.d (.v _),h C hv⟩
 ·exact j7 hk fun C hv=>⟨_,.d (.v _),h C hv⟩
def wo (E:List (Nat×AV)) (M:List ai) (oc:Option aX) (op:BinOp) (x y:Operand):Option Out:=
 match cL (aI E x),cL (aI E y) with
 | some (k,a),some (k',b)=>(match C0 op k a b with
  | some z0=>some (lr oc [0≤b] k z0 M)
  | none=>bif decide (k=k') then (match Cp op a b with
   | some c0=>some (lq oc c0 M)
   | none=>match CZ op k a b with | some (vc,z0)=>some (lr oc vc k z0 M) | none=>none) else none)
 | _,_=>none
theorem Gs {op:BinOp} {x y:Operand} {t t':TypeId} (h:wo E M oc op x y=some out):aJ P ⟨d,.binOp op t x y t',ty,pos,aft,gd⟩ E M out:=by
 unfold wo at h
 split at h
 ·rename_i k a k' b hx hy
  split at h
  ·rename_i z0 hz
   simp only [Option.some.injEq] at h;subst h
   refine mg (.of fun _=>⟨_,rfl⟩) fun C hv w Φ aG=>?_
   obtain ⟨hb,-⟩:=hv
   cases op<;>simp only [C0,Option.some.injEq,reduceCtorEq] at hz
   ·exact K4 (C.int hx) (C.int hy) hb hz aG
   ·exact K8 (C.int hx) (C.int hy) hb hz aG
  ·cases hk:decide (k=k') with
   | false=>simp [hk] at h
   | true=>
    simp only [hk,cond_true] at h
    obtain rfl:=of_decide_eq_true hk
    split at h
    ·rename_i c0 hc
     simp only [Option.some.injEq] at h;subst h
     refine ns (.of fun _=>⟨_,rfl⟩) fun C w Φ aG=>?_
     cases op<;>simp only [Cp,Option.some.injEq,reduceCtorEq] at hc
     ·exact KO (C.int hx) (C.int hy) hc aG
     ·exact KP (C.int hx) (C.int hy) hc aG
     ·exact KQ (C.int hx) (C.int hy) hc aG
     ·exact KR (C.int hx) (C.int hy) hc aG
     ·exact KS (C.int hx) (C.int hy) hc aG
     ·exact KT (C.int hx) (C.int hy) hc aG
    ·split at h
     ·rename_i vc z0 hz
      simp only [Option.some.injEq] at h;subst h
      refine mg (.of fun _=>⟨_,rfl⟩) fun C hv w Φ aG=>?_
      cases op<;>simp only [CZ,Option.some.injEq,Prod.mk.injEq,reduceCtorEq] at hz<;>obtain ⟨rfl,hz⟩:=hz
      ·exact KU (C.int hx) (C.int hy) hz aG
      ·exact KV (C.int hx) (C.int hy) hz aG
      ·exact K9 (C.int hx) (C.int hy) hz aG
      ·exact K1 (C.int hx) (C.int hy) hv.1 hz aG
      ·exact K3 (C.int hx) (C.int hy) hv.1 hz aG
      ·exact K7 (C.int hx) (C.int hy) hz aG
      ·exact Mx (C.int hx) (C.int hy) hz aG
      ·exact K5 (C.int hx) (C.int hy) hz aG
     ·simp at h
 ·simp at h
end Go.Proofs.YtcnpikbbmbombaaGreatDoor
namespace Go.Proofs.YtcnpikbbmbombaaGreatDoor
open Go.RowKit
variable {P:Program} {T:aP} {D:List Nat} {w0:World} {K0:World→Prop} {E:List (Nat×AV)} {M:List ai} {β:Beta} {F:Nat→ak} {I:ak} {ρ:Operand→Value} {w:World}
variable {d:Option Tmp} {ty:TypeId} {pos:String} {aft:Array Edge} {gd:Option (Nat×Bool)} {oc:Option aX} {out:Out}
theorem ox (vs:List Value):∀ (c:Array Value) (i j:Nat),i+vs.length≤c.size→(cm c i vs)[j]?=if i≤j∧j<i+vs.length then vs[j-i]? else c[j]?:=by
 induction vs with
 | nil=>intro c i j h;simp [cm];intro h1 h2;omega
 | cons v r ih=>
  intro c i j h
  simp only [List.length_cons] at h
  simp only [cm]
  rw [ih _ _ _ (by simp;omega)]
  by_cases h1:i+1≤j∧j<i+1+r.length
  ·rw [if_pos h1,if_pos (by simp;omega)]
   rw [show j-i=(j-(i+1))+1 by omega];simp
  ·rw [if_neg h1,Array.getElem?_setIfInBounds]
   by_cases h2:i=j
   ·subst h2;simp;omega
   ·rw [if_neg h2,if_neg (by simp;omega)]
theorem bF.mono {K K':World→Prop} {β aB:Beta} (h:∀ w,K' w→K w) (e:Ext β aB) {u:Nat} {blk:ai} {H:ak} (r:bF K β u blk H):bF K' aB u blk H:=by
 cases r with
 | dead=>exact .dead u
 | bx hb ys hl hr=>exact .bx (e _ _ hb) ys hl (fun j c y h1 h2=>(hr j c y h1 h2).mono h e)
 | rw hb X G hl hs hr=>exact .rw (e _ _ hb) X G hl hs (fun i r j c x h1 h2 h3=>(hr i r j c x h1 h2 h3).mono h)
 | tw hb X G hl hs hr=>exact .tw (e _ _ hb) X G hl hs (fun i r j c x h1 h2 h3=>(hr i r j c x h1 h2 h3).mono h)
 | nm hb=>exact .nm (e _ _ hb)
 | gw X hl hc hr=>exact .gw X hl (fun w hw=>hc w (h w hw)) (fun j c x h1 h2=>(hr j c x h1 h2).mono h)
 | il hb hm=>exact .il (e _ _ hb) (fun v hv=>let ⟨c',h'⟩:=hm v hv;⟨c',e _ _ h'⟩)
 | fl hb ys hl hm hc hr=>exact .fl (e _ _ hb) ys hl hm hc (fun j c y h1 h2=>(hr j c y h1 h2).mono h e)
 | mf hb vs hl hr=>exact .mf (e _ _ hb) vs hl (fun j c y h1 h2=>(hr j c y h1 h2).mono h e)
 | mp hb vs G hl hr=>exact .mp (e _ _ hb) vs G hl (fun j c y h1 h2=>(hr j c y h1 h2).mono h)
 | mu iy hp hn aO hb vs G hl hr=>exact .mu iy hp hn aO (e _ _ hb) vs G hl (fun j c y h1 h2=>(hr j c y h1 h2).mono h)
 | lp hb bA hr=>exact .lp (e _ _ hb) bA (fun x hx=>(hr x hx).mono h e)
 | it hb hm=>exact .it (e _ _ hb) (fun v hv=>let ⟨c',h'⟩:=hm v hv;⟨c',e _ _ h'⟩)
def aN (F:Nat→ak) (u:Nat) (H:ak):Nat→ak:=fun v=>if v=u then H else F v
theorem lb (F:Nat→ak) (H:ak) {n:Nat} {tc:List Nat}:∀ u,u<n→u ∉ tc→aN F n H u=F u:=fun u hu _=>by simp [aN];omega
theorem zJ (F:Nat→ak) (H:ak) (n:Nat):(List.range (n+1)).flatMap (aN F n H)=(List.range n).flatMap F++H:=by
 rw [List.range_succ,List.flatMap_append]
 have:(List.range n).flatMap (aN F n H)=(List.range n).flatMap F:=by
  rw [List.flatMap_def,List.flatMap_def];congr 1
  apply List.map_congr_left;intro a ha;have:=List.mem_range.1 ha;simp [aN];omega
 rw [this];simp [aN]
theorem RM.new (R:RM D w0 K0 M β F I w) {w':World} (g:Gr w w') {q:Option Addr×Nat} {H:ak} {blk:ai} (n:du w w' H) (hb:bF (fun w=>K0 w∧Holds w I) (β++[q]) M.length blk H):
  RM D w0 K0 (M++[blk]) (β++[q]) (aN F M.length H) I w' where
 len:=by simp [R.len]
 blk:=by
  intro u bl hu
  rcases Nat.lt_or_ge u M.length with h | h
  ·rw [List.getElem?_append_left h] at hu
   have:aN F M.length H u=F u:=by simp [aN];omega
   rw [this];exact (R.blk u bl hu).mono (fun _ h=>h) (Ext.app _ _)
  ·rw [List.getElem?_append_right h] at hu
   have h0:u-M.length=0:=by
    rcases Nat.eq_zero_or_pos (u-M.length) with h0 | h0
    ·exact h0
    ·rw [List.getElem?_eq_none (by simp;omega)] at hu;simp at hu
   obtain rfl:u=M.length:=by omega
   simp at hu;subst hu
   simpa [aN] using hb
 st:=by
  have:=R.st.new g n
  rw [List.length_append,List.length_singleton,zJ]
  refine this.perm ?_
  rw [← List.append_assoc]
  exact List.Perm.append_right I List.perm_append_comm
theorem RM.gr (R:RM D w0 K0 M β F I w) {w':World} (g:Gr w w'):RM D w0 K0 M β F I w':=⟨R.len,R.blk,R.st.gr g⟩
theorem gQ (R:RM D w0 K0 M β F I w) (x:Option Addr×Nat):(β++[x])[M.length]?=some x:=by rw [← R.len];simp
def AV.one:AV→Bool
 | .d (.v x)=>bf x
 | .d .jk=>false
 | .d (.ag _)=>false
 | .d (.tu _)=>false
 | .ag _=>false
 | .tu _=>false
 | _=>true
theorem AV.vt {K:World→Prop} {c:AV} {y:Value} (h:ax K β c y) (ho:c.one=true):bf y=true:=by
 cases h with
 | d h=>
  rename_i x
  cases x with
  | v x=>cases h;exact ho
  | jk=>simp [AV.one] at ho
  | ro k rows=>obtain ⟨a,n,c,rfl⟩:=h.slice (by simp);rfl
  | em T k rows=>obtain ⟨a,n,c,rfl⟩:=h.slice (by simp);rfl
  | ag l=>simp [AV.one] at ho
  | tu l=>simp [AV.one] at ho
  | pb T l=>cases h
 | sl=>rfl
 | sb=>rfl
 | sf=>rfl
 | mv=>rfl
 | yl=>rfl
 | pt=>rfl
 | ep=>rfl
 | rp=>rfl
 | uk hu=>exact hu
 | bt h hn=>obtain ⟨a,n,c,rfl⟩:=h.slice (by simp);rfl
 | fn=>rfl
 | fm=>rfl
 | ag=>simp [AV.one] at ho
 | tu=>simp [AV.one] at ho
theorem Fe {y:Value} (h:bf y=true):y.cells=#[y]:=by cases y<;>first | rfl | simp [bf] at h
def ny:AV→Option (List AV)
 | .ag l=>bif l.all AV.one then some l else none
 | c=>bif c.one then some [c] else none
theorem pY {K:World→Prop} {v:AV} {y:Value} {l:List AV} (h:ny v=some l) (r:ax K β v y):∃ ys:List Value,y.cells=ys.toArray∧ys.length=l.length∧(∀ (j:Nat) c z,l[j]?=some c→ys[j]?=some z→ax K β c z)∧∀ q ∈ ys,bf q=true:=by
 have single:∀ c:AV,(bif c.one then some [c] else none)=some l→ax K β c y→∃ ys:List Value,y.cells=ys.toArray∧ys.length=l.length∧(∀ (j:Nat) c z,l[j]?=some c→ys[j]?=some z→ax K β c z)∧∀ q ∈ ys,bf q=true:=by
  intro c hc rc
  cases ho:c.one with
  | false=>simp [ho] at hc
  | true=>
   simp only [ho,cond_true,Option.some.injEq] at hc;subst hc
   have h1:=AV.vt rc ho
   refine ⟨[y],Fe h1,rfl,?_,by simpa using h1⟩
   intro j c' z h2 h3
   cases j with
   | zero=>simp at h2 h3;subst h2 h3;exact rc
   | succ j=>simp at h2
 cases v with
 | ag l'=>
  simp only [ny] at h
  cases ho:l'.all AV.one with
  | false=>simp [ho] at h
  | true=>
   simp only [ho,cond_true,Option.some.injEq] at h;subst h
   cases r with
   | ag ys hl hr=>
    refine ⟨ys,rfl,hl,hr,?_⟩
    intro q hq
    obtain ⟨j,hj,rfl⟩:=List.getElem_of_mem hq
    have gq:j<l'.length:=by omega
    exact AV.vt (hr j _ _ (List.getElem?_eq_getElem gq) (List.getElem?_eq_getElem hj)) (List.all_eq_true.1 ho _ (List.getElem_mem gq))
 | _=>(refine single _ ?_ r;exact h)
def xo (E:List (Nat×AV)) (M:List ai) (t:TypeId) (x:Operand):Option Out:=
 match aI E x with
 | some v=>(match ny v with | some l=>some ⟨[],.pt M.length 0,M++[.bx t l],[],[],none⟩ | none=>none)
 | none=>none
theorem HY {t:TypeId} {x:Operand} (h:xo E M t x=some out):aJ P ⟨d,.box t x,ty,pos,aft,gd⟩ E M out:=by
 unfold xo at h
 split at h
 ·rename_i v hv
  split at h
  ·rename_i l hl
   simp only [Option.some.injEq] at h;subst h
   intro D w0 K0 β F I ρ w C _
   obtain ⟨y,hy,r⟩:=C.bR hv
   obtain ⟨ys,h1,h2,h3,h4⟩:=pY hl r
   refine Ju hy fun b w' g n=>?_
   rw [h1] at n
   exact ⟨_,_,I,C.rm.new (q:=(some ⟨b,0,none⟩,0)) g n (.bx (gQ C.rm _) ys h2 fun j c z e1 e2=>(h3 j c z e1 e2).mono (fun _ h=>h) (Ext.app _ _)),(Ext.app _ _).b _,bS.refl _,lb _ _,.pt (gQ C.rm _)⟩
  ·simp at h
 ·simp at h
def lg (l:List Value):List AV:=l.map fun x=>.d (.v x)
theorem pZ {K:World→Prop} (l:List Value):l.length=(lg l).length∧∀ (j:Nat) c z,(lg l)[j]?=some c→l[j]?=some z→ax K β c z:=by
 refine ⟨by simp [lg],?_⟩
 intro j c z h1 h2
 simp only [lg,List.getElem?_map,h2,Option.map_some,Option.some.injEq] at h1
 subst h1;exact .d (.v _)
def vu (T:aP) (M:List ai) (t:TypeId):Option Out:=
 match oV T t with
 | some l=>some ⟨[],.pt M.length 0,M++[.bx t (lg l)],[],[],none⟩
 | none=>none
theorem Ff (hT:aZ P T=true) {t:TypeId} (h:vu T M t=some out):aJ P ⟨d,.alloc t,ty,pos,aft,gd⟩ E M out:=by
 unfold vu at h
 split at h
 ·rename_i l hz
  simp only [Option.some.injEq] at h;subst h
  obtain ⟨z,nU,nV⟩:=rS hT hz
  intro D w0 K0 β F I ρ w C _
  refine zX (nV w) fun b w' g n=>?_
  rw [nU] at n
  obtain ⟨h1,h2⟩:=pZ (K:=fun w=>K0 w∧Holds w I) (β:=β++[(some ⟨b,0,none⟩,0)]) l
  exact ⟨_,_,I,C.rm.new (q:=(some ⟨b,0,none⟩,0)) g n (.bx (gQ C.rm _) l h1 h2),(Ext.app _ _).b _,bS.refl _,lb _ _,.pt (gQ C.rm _)⟩
 ·simp at h
theorem RM.set (R:RM D w0 K0 M β F I w) {u b:Nat} {o o':Obj} {G:ak} {blk blk':ai} (hu:M[u]?=some blk) (hF:F u=(b,o)::G) (hb:bF (fun w=>K0 w∧Holds w I) β u blk' ((b,o')::G)):
  RM D w0 K0 (M.set u blk') β (aN F u ((b,o')::G)) I (cg w b o') where
 len:=by rw [List.length_set];exact R.len
 blk:=by
  intro v bl hv
  rw [List.getElem?_set] at hv
  by_cases e:u=v
  ·subst e
   obtain ⟨aO,-⟩:=List.getElem?_eq_some_iff.1 hu
   simp only [aO,if_pos,Option.some.injEq] at hv;subst hv
   simpa [aN] using hb
  ·rw [if_neg e] at hv
   have:aN F u ((b,o')::G) v=F v:=by simp only [aN];rw [if_neg (fun h=>e h.symm)]
   rw [this];exact R.blk v bl hv
 st:=by
  obtain ⟨aO,-⟩:=List.getElem?_eq_some_iff.1 hu
  have split:∀ (f:Nat→ak),(List.range M.length).flatMap f++I=(List.range u).flatMap f++(f u++((List.range' (u+1) (M.length-(u+1))).flatMap f++I)):=by
   intro f
   have hr:List.range M.length=List.range u++u::List.range' (u+1) (M.length-(u+1)):=by
    rw [List.range_eq_range',List.range_eq_range']
    have h1:M.length=u+(1+(M.length-(u+1))):=by omega
    conv=>lhs;rw [h1]
    rw [← List.range'_append_1,← List.range'_append_1]
    simp
   rw [hr];simp [List.flatMap_append]
  have other:∀ v,v≠u→aN F u ((b,o')::G) v=F v:=fun v h=>by simp [aN,h]
  have c1:(List.range u).flatMap (aN F u ((b,o')::G))=(List.range u).flatMap F:=by
   rw [List.flatMap_def,List.flatMap_def];congr 1;apply List.map_congr_left;intro a ha;have:=List.mem_range.1 ha;exact other a (by omega)
  have c2:(List.range' (u+1) (M.length-(u+1))).flatMap (aN F u ((b,o')::G))=(List.range' (u+1) (M.length-(u+1))).flatMap F:=by
   rw [List.flatMap_def,List.flatMap_def];congr 1;apply List.map_congr_left;intro a ha;have:=(List.mem_range'_1.1 ha).1;exact other a (by omega)
  have hs:=R.st
  rw [split,hF] at hs
  have kX:St D w0 w ((b,o)::(G++((List.range u).flatMap F++((List.range' (u+1) (M.length-(u+1))).flatMap F++I)))):=hs.perm (by classical rw [List.perm_iff_count];intro x;simp only [List.count_append,List.count_cons]<;>omega)
  rw [List.length_set,split,c1,c2]
  have gu:aN F u ((b,o')::G) u=(b,o')::G:=by simp [aN]
  rw [gu]
  exact (kX.set o').perm (by classical rw [List.perm_iff_count];intro x;simp only [List.count_append,List.count_cons]<;>omega)
def uQ (T:aP) (E:List (Nat×AV)) (M:List ai) (t:TypeId) (x y:Operand):Option Out:=
 match aI E x,aI E y,fA T t with
 | some (.pt u o),some v,some n=>(match ny v,M[u]? with
  | some l,some (.bx T cells)=>bif l.length.beq n&&(o+n).ble cells.length then some ⟨[],.d .jk,M.set u (.bx T (cells.take o++(l++cells.drop (o+n)))),[u],[],none⟩ else none
  | _,_=>none)
 | _,_,_=>none
theorem ED (hT:aZ P T=true) {t:TypeId} {x y:Operand} (h:uQ T E M t x y=some out):aJ P ⟨d,.store t x y,ty,pos,aft,gd⟩ E M out:=by
 unfold uQ at h
 split at h
 ·rename_i u o v n hx hy hn
  split at h
  ·rename_i l Tt cells hl hM
   cases hc:(l.length.beq n&&(o+n).ble cells.length) with
   | false=>simp [hc] at h
   | true=>
    simp only [hc,cond_true,Option.some.injEq] at h;subst h
    simp only [Bool.and_eq_true] at hc
    have qQ:=Nat.eq_of_beq_eq_true hc.1
    have hle:=Nat.le_of_ble_eq_true hc.2
    intro D w0 K0 β F I ρ w C _
    obtain ⟨yx,iW,rx⟩:=C.bR hx
    obtain ⟨yy,nW,ry⟩:=C.bR hy
    obtain ⟨zs,h1,h2,h3,h4⟩:=pY hl ry
    cases rx with
    | pt hb=>
     obtain ⟨H,hF,hB,hH⟩:=C.rm.at hM
     cases hB with
     | bx aS ys ya hr=>
      rw [hb] at aS;cases aS
      have hw:=hH.one
      have Nv:=gO hT hn
      refine uN n Nv iW nW hw (by rw [h1];simp;omega) (by simp;omega) (by rw [h1];simpa using h4) ?_
      rw [h1]
      refine ⟨β,_,I,C.rm.set hM hF (o':=.cells (cm ys.toArray o zs) Tt (0,0)) (?_:bF _ β u (.bx Tt (cells.take o++(l++cells.drop (o+n)))) _),(Ext.refl β).b _,bS.refl _,fun v hv hn=>by simp only [aN];rw [if_neg (by simpa using hn)],.d (.jk _)⟩
      have he:(cm ys.toArray o zs)=(cm ys.toArray o zs).toList.toArray:=by simp
      rw [he]
      refine .bx hb _ (by rw [Array.length_toList,iE];simp;omega) ?_
      intro j c z e1 e2
      rw [Array.getElem?_toList,ox _ _ _ _ (by simp;omega)] at e2
      by_cases hj:o≤j∧j<o+zs.length
      ·rw [if_pos hj] at e2
       rw [List.getElem?_append_right (by simp;omega),List.getElem?_append_left (by simp;omega)] at e1
       refine h3 (j-o) c z ?_ e2
       rw [← e1];congr 1;simp;omega
      ·rw [if_neg hj] at e2
       rw [List.getElem?_toArray] at e2
       refine hr j c z ?_ e2
       rcases Nat.lt_or_ge j o with mT | mT
       ·rw [List.getElem?_append_left (by simp;omega),List.getElem?_take,if_pos mT] at e1;exact e1
       ·rw [List.getElem?_append_right (by simp;omega),List.getElem?_append_right (by simp;omega),List.getElem?_drop] at e1
        rw [← e1];congr 1;simp;omega
  ·simp at h
 ·simp at h
end Go.Proofs.YtcnpikbbmbombaaGreatDoor
namespace Go.Proofs.YtcnpikbbmbombaaGreatDoor
open Go.RowKit
variable {P:Program} {T:aP} {D:List Nat} {w0:World} {K0:World→Prop} {E:List (Nat×AV)} {M:List ai} {β:Beta} {F:Nat→ak} {I:ak} {ρ:Operand→Value} {w:World}
variable {d:Option Tmp} {ty:TypeId} {pos:String} {aft:Array Edge} {gd:Option (Nat×Bool)} {oc:Option aX} {out:Out}
def xp (E:List (Nat×AV)) (M:List ai) (oc:Option aX) (x:Operand):Option Out:=match ln (aI E x) with | some c=>some (lq oc (!c) M) | none=>none
theorem HZ {x:Operand} {t:TypeId} (h:xp E M oc x=some out):aJ P ⟨d,.unOp .not t x,ty,pos,aft,gd⟩ E M out:=by
 unfold xp at h
 split at h
 ·rename_i c hc
  simp only [Option.some.injEq] at h;subst h
  exact ns (.of fun _=>⟨_,rfl⟩) fun C w Φ aG=>KY (C.bool hc) rfl aG
 ·simp at h
def xq (E:List (Nat×AV)) (M:List ai) (oc:Option aX) (x:Operand):Option Out:=match cL (aI E x) with | some (k,a)=>some (lr oc [] k (k.wrap ((BitVec.ofInt k.bits (if k.signed then -1 else k.max) ^^^ BitVec.ofInt k.bits a).toNat:Int)) M) | none=>none
theorem H3 {x:Operand} {t:TypeId} (h:xq E M oc x=some out):aJ P ⟨d,.unOp .xor t x,ty,pos,aft,gd⟩ E M out:=by
 unfold xq at h
 split at h
 ·rename_i k a hc
  simp only [Option.some.injEq] at h;subst h
  exact mg (.of fun _=>⟨_,rfl⟩) fun C _ w Φ aG=>K6 (C.int hc) rfl aG
 ·simp at h
def wq (E:List (Nat×AV)) (M:List ai) (oc:Option aX) (c x y:Operand):Option Out:=
 match ln (aI E c),oc with
 | some c0,some (.b b)=>(match aI E (bif b then x else y) with | some v=>some (lk [c0=b] v M) | none=>none)
 | some true,_=>(match aI E x with | some v=>some (lk [] v M) | none=>none)
 | some false,_=>(match aI E y with | some v=>some (lk [] v M) | none=>none)
 | none,_=>none
theorem rW {c x y:Operand}:nT P ⟨d,.pick c x y,ty,pos,aft,gd⟩:=by
 intro ρ w
 simp only [execOp]
 cases hc:ρ c<;>first | exact Or.inl ⟨_,_,rfl⟩ | exact Or.inr ⟨_,_,rfl⟩
theorem Gt {c x y:Operand} (h:wq E M oc c x y=some out):aJ P ⟨d,.pick c x y,ty,pos,aft,gd⟩ E M out:=by
 unfold wq at h
 split at h
 ·rename_i c0 b hc
  split at h
  ·rename_i v hv
   simp only [Option.some.injEq] at h;subst h
   refine j7 rW fun C da=>?_
   obtain ⟨rfl,-⟩:=da
   cases c0 with
   | true=>exact ⟨_,C.ev hv,fun w Φ aG=>AH (C.bool hc) rfl aG⟩
   | false=>exact ⟨_,C.ev hv,fun w Φ aG=>AI (C.bool hc) rfl aG⟩
  ·simp at h
 ·rename_i hc _
  split at h
  ·rename_i v hv
   simp only [Option.some.injEq] at h;subst h
   exact j7 rW fun C _=>⟨_,C.ev hv,fun w Φ aG=>AH (C.bool hc) rfl aG⟩
  ·simp at h
 ·rename_i hc _
  split at h
  ·rename_i v hv
   simp only [Option.some.injEq] at h;subst h
   exact j7 rW fun C _=>⟨_,C.ev hv,fun w Φ aG=>AI (C.bool hc) rfl aG⟩
  ·simp at h
 ·simp at h
def xr:Option AV→Option Nat
 | some (.d (.ro _ rows))=>some rows.length
 | some (.d (.v (.slice _ n _)))=>some n
 | some (.sl _ n)=>some n
 | some (.sb _ _ _ n)=>some n
 | _=>none
theorem Ctx.len (C:Ctx D w0 K0 E M β F I ρ w) {x:Operand} {n:Nat} (h:xr (aI E x)=some n):∃ a c,ρ x=.slice a n c:=by
 unfold xr at h
 split at h
 ·rename_i k rows hv
  simp only [Option.some.injEq] at h;subst h
  obtain ⟨y,hy,r⟩:=C.bR hv
  cases r with | d r=>cases r with | ro X hl iV hs hr=>obtain ⟨a,c,rfl,-⟩:=iV;exact ⟨a,c,hy⟩
 ·rename_i a n' c hv
  simp only [Option.some.injEq] at h;subst h
  obtain ⟨y,hy,r⟩:=C.bR hv
  cases r with | d r=>cases r;exact ⟨_,_,hy⟩
 ·rename_i u n' hv
  simp only [Option.some.injEq] at h;subst h
  obtain ⟨y,hy,r⟩:=C.bR hv
  cases r;exact ⟨_,_,hy⟩
 ·rename_i n' hv
  simp only [Option.some.injEq] at h;subst h
  obtain ⟨y,hy,r⟩:=C.bR hv
  cases r;exact ⟨_,_,hy⟩
 ·simp at h
def xu (T:aP) (E:List (Nat×AV)) (M:List ai) (oc:Option aX) (t:TypeId) (x:Operand):Option Out:=
 match cV T t with
 | some (.sl _)=>(match xr (aI E x) with | some n=>some (lr oc [] .i64 n M) | none=>none)
 | some .st=>(match jn (aI E x) with | some l=>some (lr oc [] .i64 l.length M) | none=>none)
 | _=>none
theorem H4 (hT:aZ P T=true) {x:Operand} {t:TypeId} (h:xu T E M oc t x=some out):aJ P ⟨d,.call ⟨.builtin .len,#[x],#[t]⟩,ty,pos,aft,gd⟩ E M out:=by
 unfold xu at h
 split at h
 ·rename_i e ht
  replace ht:=cH hT ht
  split at h
  ·rename_i n hn
   simp only [Option.some.injEq] at h;subst h
   refine mg (.of fun _=>⟨_,rfl⟩) fun C _ w Φ aG=>?_
   obtain ⟨a,c,hx⟩:=C.len hn
   exact Jw ht hx aG
  ·simp at h
 ·rename_i ht
  replace ht:=cH hT ht
  split at h
  ·rename_i l hl
   simp only [Option.some.injEq] at h;subst h
   exact mg (.of fun _=>⟨_,rfl⟩) fun C _ w Φ aG=>Gp ht (C.str hl) aG
  ·simp at h
 ·simp at h
def wv (E:List (Nat×AV)) (M:List ai) (oc:Option aX) (op:BinOp) (x y:Operand):Option Out:=
 match jn (aI E x),jn (aI E y) with
 | some a,some b=>(match op with | .eql=>some (lq oc (a==b) M) | .neq=>some (lq oc (a != b) M) | _=>none)
 | _,_=>none
theorem Gu {op:BinOp} {x y:Operand} {t t':TypeId} (h:wv E M oc op x y=some out):aJ P ⟨d,.binOp op t x y t',ty,pos,aft,gd⟩ E M out:=by
 unfold wv at h
 split at h
 ·rename_i a b ha hb
  split at h<;>simp only [Option.some.injEq,reduceCtorEq] at h<;>subst h
  ·exact ns (.of fun _=>⟨_,rfl⟩) fun C w Φ aG=>Gm (C.str ha) (C.str hb) rfl aG
  ·exact ns (.of fun _=>⟨_,rfl⟩) fun C w Φ aG=>Gn (C.str ha) (C.str hb) rfl aG
 ·simp at h
def vv (T:aP) (E:List (Nat×AV)) (M:List ai) (oc:Option aX) (t t':TypeId) (x:Operand):Option Out:=
 match cV T t,cV T t',cL (aI E x) with
 | some _,some (.it k),some (_,a)=>some (lr oc [] k (k.wrap a) M)
 | _,_,_=>none
theorem Fg (hT:aZ P T=true) {x:Operand} {t t':TypeId} (h:vv T E M oc t t' x=some out):aJ P ⟨d,.convert t t' x,ty,pos,aft,gd⟩ E M out:=by
 unfold vv at h
 split at h
 ·rename_i u k k' a hu hk ha
  replace hk:=cH hT hk
  simp only [Option.some.injEq] at h;subst h
  exact mg (.of fun _=>⟨_,rfl⟩) fun C _ w Φ aG=>Fa (Gl hT hu) hk (C.int ha) rfl aG
 ·simp at h
def C1:Builtin→Int→Int→Option Int
 | .min,a,b=>some (min a b)
 | .max,a,b=>some (max a b)
 | _,_,_=>none
def yb (E:List (Nat×AV)) (M:List ai) (oc:Option aX) (bi:Builtin) (x y:Operand):Option Out:=
 match cL (aI E x),cL (aI E y) with
 | some (k,a),some (k',b)=>bif decide (k=k') then (match C1 bi a b with | some z=>some (lr oc [] k z M) | none=>none) else none
 | _,_=>none
theorem JB {bi:Builtin} {x y:Operand} {t t':TypeId} (h:yb E M oc bi x y=some out):aJ P ⟨d,.call ⟨.builtin bi,#[x,y],#[t,t']⟩,ty,pos,aft,gd⟩ E M out:=by
 unfold yb at h
 split at h
 ·rename_i k a k' b hx hy
  cases hk:decide (k=k') with
  | false=>simp [hk] at h
  | true=>
   simp only [hk,cond_true] at h
   obtain rfl:=of_decide_eq_true hk
   split at h
   ·rename_i z hz
    simp only [Option.some.injEq] at h;subst h
    cases bi<;>simp only [C1,Option.some.injEq,reduceCtorEq] at hz
    ·exact mg (.of fun _=>⟨_,rfl⟩) fun C _ w Φ aG=>KX (C.int hx) (C.int hy) hz aG
    ·exact mg (.of fun _=>⟨_,rfl⟩) fun C _ w Φ aG=>KW (C.int hx) (C.int hy) hz aG
   ·simp at h
 ·simp at h
end Go.Proofs.YtcnpikbbmbombaaGreatDoor
namespace Go.Proofs.YtcnpikbbmbombaaGreatDoor
open Go.RowKit
variable {P:Program} {T:aP} {D:List Nat} {w0:World} {K0:World→Prop} {E:List (Nat×AV)} {M:List ai} {β:Beta} {F:Nat→ak} {I:ak} {ρ:Operand→Value} {w:World}
variable {d:Option Tmp} {ty:TypeId} {pos:String} {aft:Array Edge} {gd:Option (Nat×Bool)} {oc:Option aX} {out:Out}
def kR (E:List (Nat×AV)):List Operand→Option (List AV)
 | []=>some []
 | x::r=>match aI E x,kR E r with | some v,some l=>some (v::l) | _,_=>none
theorem Ctx.mU (C:Ctx D w0 K0 E M β F I ρ w):∀ {xs:List Operand} {l:List AV},kR E xs=some l→(xs.map ρ).length=l.length∧∀ (j:Nat) c y,l[j]?=some c→(xs.map ρ)[j]?=some y→ax (fun w=>K0 w∧Holds w I) β c y
 | [],l,h=>by simp only [kR,Option.some.injEq] at h;subst h;simp
 | x::r,l,h=>by
  unfold kR at h
  split at h
  ·rename_i v l' hv hl
   simp only [Option.some.injEq] at h;subst h
   obtain ⟨h1,h2⟩:=Ctx.mU C hl
   refine ⟨by simpa using h1,?_⟩
   intro j c y hc hy
   cases j with
   | zero=>simp at hc hy;subst hc hy;exact C.ev hv
   | succ j=>simp at hc hy;exact h2 j c y hc (by simpa using hy)
  ·simp at h
def wx (E:List (Nat×AV)) (M:List ai) (fn:Fn) (first cu:Array Operand):Option Out:=
 match fn,first with
 | .func f,⟨[]⟩=>(match kR E cu.toList with | some l=>some (lk [] (.fn f l) M) | none=>none)
 | _,_=>none
theorem Gv {fn:Fn} {first cu:Array Operand} (h:wx E M fn first cu=some out):aJ P ⟨d,.makeFunc fn first cu,ty,pos,aft,gd⟩ E M out:=by
 unfold wx at h
 split at h
 ·rename_i f
  split at h
  ·rename_i l hl
   simp only [Option.some.injEq] at h;subst h
   refine aJ.same ?_
   intro D w0 K0 β F I ρ w C _
   obtain ⟨h1,h2⟩:=C.mU hl
   have hm:(cu.toList.map ρ).toArray=cu.map ρ:=by rw [← Array.toList_map]
   refine ⟨_,fun w' _=>?_,ax.fn _ h1 h2⟩
   simp [execOp,Instr.makeFunc,hm]
  ·simp at h
 ·simp at h
structure bK (D:List Nat) (w0:World) (K0:World→Prop) (M:List ai) (β:Beta) (F:Nat→ak) (I X:ak) (w:World):Prop where
 len:β.length=M.length
 blk:∀ (u:Nat) blk,M[u]?=some blk→bF (fun w=>K0 w∧Holds w I) β u blk (F u)
 st:St D w0 w ((List.range M.length).flatMap F++(I++X))
theorem bK.nil {X:ak} (R:bK D w0 K0 M β F I X w) (h:X=[]):RM D w0 K0 M β F I w:=⟨R.len,R.blk,by have:=R.st;rw [h,List.append_nil] at this;exact this⟩
theorem RM.x (R:RM D w0 K0 M β F I w):bK D w0 K0 M β F I [] w:=⟨R.len,R.blk,by rw [List.append_nil];exact R.st⟩
theorem bK.perm {X Y:ak} (R:bK D w0 K0 M β F I X w) (p:X.Perm Y):bK D w0 K0 M β F I Y w:=⟨R.len,R.blk,R.st.perm (List.Perm.append_left _ (List.Perm.append_left _ p))⟩
theorem bK.drop {X Y:ak} (R:bK D w0 K0 M β F I (X++Y) w):bK D w0 K0 M β F I X w:=⟨R.len,R.blk,by have:=R.st;rw [← List.append_assoc,← List.append_assoc] at this;have:=this.uj;rw [List.append_assoc] at this;exact this⟩
theorem bK.take {X Y:ak} (R:bK D w0 K0 M β F I (X++Y) w) {q:Option Addr×Nat} {blk:ai} (hb:bF (fun w=>K0 w∧Holds w I) (β++[q]) M.length blk X):
  bK D w0 K0 (M++[blk]) (β++[q]) (aN F M.length X) I Y w where
 len:=by simp [R.len]
 blk:=by
  intro u bl hu
  rcases Nat.lt_or_ge u M.length with h | h
  ·rw [List.getElem?_append_left h] at hu
   have:aN F M.length X u=F u:=by simp [aN];omega
   rw [this];exact (R.blk u bl hu).mono (fun _ h=>h) (Ext.app _ _)
  ·rw [List.getElem?_append_right h] at hu
   have h0:u-M.length=0:=by
    rcases Nat.eq_zero_or_pos (u-M.length) with h0 | h0
    ·exact h0
    ·rw [List.getElem?_eq_none (by simp;omega)] at hu;simp at hu
   obtain rfl:u=M.length:=by omega
   simp at hu;subst hu
   simpa [aN] using hb
 st:=by
  rw [List.length_append,List.length_singleton,zJ]
  exact R.st.perm (by classical rw [List.perm_iff_count];intro x;simp only [List.count_append];omega)
inductive fF (K:World→Prop):List DV→List Value→ak→Prop where
 | nil:fF K [] [] []
 | cons {c:DV} {y:Value} {l:List DV} {ys:List Value} {H G:ak} (h:bM K c y H) (r:fF K l ys G):fF K (c::l) (y::ys) (H++G)
theorem rG {n:Nat} (F:Nat→ak):(List.range (n+1)).flatMap F=F 0++(List.range n).flatMap fun i=>F (i+1):=by
 rw [List.range_succ_eq_map,List.flatMap_cons,List.flatMap_map]
theorem fF.of {K:World→Prop}:∀ {l:List DV} {ys:List Value} {F:Nat→ak},ys.length=l.length→(∀ (j:Nat) c y,l[j]?=some c→ys[j]?=some y→bM K c y (F j))→fF K l ys ((List.range l.length).flatMap F)
 | [],ys,F,hl,_=>by have:ys=[]:=List.eq_nil_of_length_eq_zero hl;subst this;exact .nil
 | c::l,[],F,hl,_=>by simp at hl
 | c::l,y::ys,F,hl,hr=>by
  rw [List.length_cons,rG]
  exact .cons (hr 0 c y rfl rfl) (fF.of (by simpa using hl) fun j c' y' h1 h2=>hr (j+1) c' y' (by simpa using h1) (by simpa using h2))
theorem fF.len {K:World→Prop} {l:List DV} {ys:List Value} {H:ak} (h:fF K l ys H):ys.length=l.length:=by
 induction h with
 | nil=>rfl
 | cons h r ih=>simp [ih]
def nH (M:List ai):DV→AV×List ai
 | .em T k rows=>(.sl M.length rows.length,M++[.rw T k rows])
 | x=>(.d x,M)
def jo (M:List ai):List DV→List AV×List ai
 | []=>([],M)
 | c::r=>((nH M c).1::(jo (nH M c).2 r).1,(jo (nH M c).2 r).2)
def mq:DV→Bool
 | .pb _ _=>false
 | .ag _=>false
 | .tu _=>false
 | _=>true
def nI (M:List ai):DV→AV×List ai
 | .ag l=>bif l.all mq then (.ag (jo M l).1,(jo M l).2) else (.d .jk,M)
 | x=>nH M x
def jf (M:List ai):List DV→List AV×List ai
 | []=>([],M)
 | c::r=>((nI M c).1::(jf (nI M c).2 r).1,(jf (nI M c).2 r).2)
def mV (M:List ai):DV→AV×List ai
 | .tu l=>(.tu (jf M l).1,(jf M l).2)
 | x=>nI M x
def vw (D:List Nat) (w0:World) (K0:World→Prop) (M:List ai) (β:Beta) (F:Nat→ak) (I:ak) (w:World) (av:AV) (M':List ai) (y:Value) (Y:ak):Prop:=
 ∃ aB F',bK D w0 K0 M' aB F' I Y w∧Ext β aB∧(∀ u,u<M.length→F' u=F u)∧M.length≤M'.length∧ax (fun w=>K0 w∧Holds w I) aB av y
theorem qf {x:DV} (hx:mq x=true) {y:Value} {H Y:ak} (R:bK D w0 K0 M β F I (H++Y) w) (h:bM (fun w=>K0 w∧Holds w I) x y H):vw D w0 K0 M β F I w (nH M x).1 (nH M x).2 y Y:=by
 cases h with
 | v x=>exact ⟨β,F,R,Ext.refl _,fun _ _=>rfl,Nat.le_refl _,.d (.v _)⟩
 | jk x=>exact ⟨β,F,R,Ext.refl _,fun _ _=>rfl,Nat.le_refl _,.d (.jk _)⟩
 | ro X hl hy hs hr=>exact ⟨β,F,R,Ext.refl _,fun _ _=>rfl,Nat.le_refl _,.d (.ro X hl hy hs hr)⟩
 | pb ys F hl hr=>simp [mq] at hx
 | ag ys F hl hr=>simp [mq] at hx
 | tu ys F hl hr=>simp [mq] at hx
 | em X G hl hs hr=>
  obtain ⟨a,c,rfl⟩:=hs.len
  have fW:(β++[(a,c)])[M.length]?=some (a,c):=by rw [← R.len];simp
  refine ⟨_,_,R.take (.rw fW X G hl hs hr),Ext.app _ _,fun u hu=>by simp [aN];omega,by simp [nH],.sl fW⟩
theorem H5:∀ {l:List DV} {M:List ai} {β:Beta} {F:Nat→ak} {ys:List Value} {H Y:ak},l.all mq=true→bK D w0 K0 M β F I (H++Y) w→fF (fun w=>K0 w∧Holds w I) l ys H→
  ∃ aB F',bK D w0 K0 (jo M l).2 aB F' I Y w∧Ext β aB∧(∀ u,u<M.length→F' u=F u)∧M.length≤(jo M l).2.length∧ys.length=(jo M l).1.length∧∀ (j:Nat) c y,(jo M l).1[j]?=some c→ys[j]?=some y→ax (fun w=>K0 w∧Holds w I) aB c y:=by
 intro l
 induction l with
 | nil=>
  intro M β F ys H Y _ R h
  cases h
  exact ⟨β,F,R,Ext.refl _,fun _ _=>rfl,Nat.le_refl _,rfl,by simp [jo]⟩
 | cons x r ih=>
  intro M β F ys H Y hf R h
  simp only [List.all_cons,Bool.and_eq_true] at hf
  cases h with
  | cons h hr=>
   rw [List.append_assoc] at R
   obtain ⟨pQ,F1,R1,e1,f1,l1,a1⟩:=qf hf.1 R h
   obtain ⟨ja,F2,R2,e2,f2,l2,n2,a2⟩:=ih hf.2 R1 hr
   refine ⟨ja,F2,R2,fun u x hx=>e2 u x (e1 u x hx),fun u hu=>(f2 u (by omega)).trans (f1 u hu),by simp only [jo];omega,by simp [jo,n2],?_⟩
   intro j c y hc hy
   cases j with
   | zero=>simp [jo] at hc hy;subst hc hy;exact a1.mono (fun _ h=>h) e2
   | succ j=>simp [jo] at hc hy;exact a2 j c y hc hy
def mr:DV→Bool
 | .pb _ _=>false
 | .ag l=>l.all mq
 | .tu _=>false
 | _=>true
theorem oG {x:DV} (hx:mr x=true) {y:Value} {H Y:ak} (R:bK D w0 K0 M β F I (H++Y) w) (h:bM (fun w=>K0 w∧Holds w I) x y H):vw D w0 K0 M β F I w (nI M x).1 (nI M x).2 y Y:=by
 cases x with
 | ag l=>
  cases h with
  | ag ys G hl hr=>
   have nQ:l.all mq=true:=hx
   obtain ⟨ja,F2,R2,e2,f2,l2,n2,a2⟩:=H5 nQ R (fF.of hl hr)
   simp only [nI,nQ,cond_true]
   exact ⟨ja,F2,R2,e2,f2,l2,.ag ys n2 a2⟩
 | tu l=>simp [mr] at hx
 | v x=>exact qf rfl R h
 | jk=>exact qf rfl R h
 | ro k rows=>exact qf rfl R h
 | em T k rows=>exact qf rfl R h
 | pb T l=>simp [mr] at hx
theorem Gw:∀ {l:List DV} {M:List ai} {β:Beta} {F:Nat→ak} {ys:List Value} {H Y:ak},l.all mr=true→bK D w0 K0 M β F I (H++Y) w→fF (fun w=>K0 w∧Holds w I) l ys H→
  ∃ aB F',bK D w0 K0 (jf M l).2 aB F' I Y w∧Ext β aB∧(∀ u,u<M.length→F' u=F u)∧M.length≤(jf M l).2.length∧ys.length=(jf M l).1.length∧∀ (j:Nat) c y,(jf M l).1[j]?=some c→ys[j]?=some y→ax (fun w=>K0 w∧Holds w I) aB c y:=by
 intro l
 induction l with
 | nil=>
  intro M β F ys H Y _ R h
  cases h
  exact ⟨β,F,R,Ext.refl _,fun _ _=>rfl,Nat.le_refl _,rfl,by simp [jf]⟩
 | cons x r ih=>
  intro M β F ys H Y hf R h
  simp only [List.all_cons,Bool.and_eq_true] at hf
  cases h with
  | cons h hr=>
   rw [List.append_assoc] at R
   obtain ⟨pQ,F1,R1,e1,f1,l1,a1⟩:=oG hf.1 R h
   obtain ⟨ja,F2,R2,e2,f2,l2,n2,a2⟩:=ih hf.2 R1 hr
   refine ⟨ja,F2,R2,fun u x hx=>e2 u x (e1 u x hx),fun u hu=>(f2 u (by omega)).trans (f1 u hu),by simp only [jf];omega,by simp [jf,n2],?_⟩
   intro j c y hc hy
   cases j with
   | zero=>simp [jf] at hc hy;subst hc hy;exact a1.mono (fun _ h=>h) e2
   | succ j=>simp [jf] at hc hy;exact a2 j c y hc hy
def lu:DV→Bool
 | .tu l=>l.all mr
 | x=>mr x
theorem vz {x:DV} (hx:lu x=true) {y:Value} {H Y:ak} (R:bK D w0 K0 M β F I (H++Y) w) (h:bM (fun w=>K0 w∧Holds w I) x y H):vw D w0 K0 M β F I w (mV M x).1 (mV M x).2 y Y:=by
 cases x with
 | tu l=>
  cases h with
  | tu ys G hl hr=>
   have nQ:l.all mr=true:=hx
   obtain ⟨ja,F2,R2,e2,f2,l2,n2,a2⟩:=Gw nQ R (fF.of hl hr)
   exact ⟨ja,F2,R2,e2,f2,l2,.tu ys n2 a2⟩
 | ag l=>exact oG (x:=.ag l) hx R h
 | v x=>exact oG rfl R h
 | jk=>exact oG rfl R h
 | ro k rows=>exact oG rfl R h
 | em T k rows=>exact oG rfl R h
 | pb T l=>simp [lu,mr] at hx
end Go.Proofs.YtcnpikbbmbombaaGreatDoor
namespace Go.Proofs.YtcnpikbbmbombaaGreatDoor
open Go.RowKit
def al (P:Program) (f:FuncId) (args:List AV) (x:DV):Prop:=
 ig P f=true∧∀ (w:World) (K:World→Prop) (ys:List Value),(∀ w',Gr w w'→K w')→ys.length=args.length→(∀ (j:Nat) c y,args[j]?=some c→ys[j]?=some y→ax K [] c y)→
  Calls P f ys.toArray w (Cn w fun r H=>∃ Ho Hi,H=Ho++Hi∧bM (fun w=>K w∧Holds w Hi) x r Ho)
def gv (x:DV):Prop:=∀ (K K':World→Prop) (y:Value) (H:ak),bM K x y H→bM K' x y H
mutual
def ew:DV→DV
 | .v x=>.v x
 | .jk=>.jk
 | .ro k rows=>.ro k rows
 | .em _ k rows=>.ro k (c6 rows)
 | .ag l=>.ag (nD l)
 | .tu l=>.tu (nD l)
 | .pb _ _=>.jk
def nD:List DV→List DV
 | []=>[]
 | c::r=>ew c::nD r
def c6:List (List DV)→List (List DV)
 | []=>[]
 | l::r=>nD l::c6 r
end
theorem ua (l:List DV):nD l=l.map ew:=by induction l with | nil=>rfl | cons c r ih=>rw [nD,ih];rfl
theorem kx (l:List (List DV)):c6 l=l.map fun r=>r.map ew:=by induction l with | nil=>rfl | cons c r ih=>rw [c6,ih,ua];rfl
theorem dY.src {T size n:Nat} {v:Value} {xs:List Value} {H:ak} (h:dY T size v n xs H) {w:World} (hw:Holds w H):Src w size v n xs:=by
 refine ⟨h.1,?_⟩
 rcases h.2 with ⟨rfl,rfl,a,rfl⟩ | ⟨b,cap,cs,fz,rfl,rfl,ey,cF,hle,ht⟩
 ·exact Or.inl ⟨rfl,a,0,rfl⟩
 ·refine Or.inr ⟨_,cap,rfl,fun j hj=>?_⟩
  rw [add_eq,Nat.zero_add,cell_of hw.one]
  have:(cs.toList.take (n*size))[j]?=some xs[j]:=by rw [ht];simp [hj]
  rw [List.getElem?_take] at this
  split at this
  ·simpa using this
  ·simp at this
theorem dY.JC {T:TypeId} {size:Nat} {v:Value} {n:Nat} {xs:List Value} {H:ak} (h:dY T size v n xs H):∃ a c,v=.slice a n c∧n≤c:=by
 rcases h.2 with ⟨rfl,_,a,rfl⟩ | ⟨b,cap,cs,fz,rfl,_,_,_,hc,_⟩
 ·exact ⟨a,0,rfl,Nat.le_refl _⟩
 ·exact ⟨_,_,rfl,hc⟩
theorem sc {K K':World→Prop} {c:DV} {x:Value} {H:ak} (h:bM K c x H):(∀ w,K' w→K w∧Holds w H)→bM K' (ew c) x []:=by
 have sZ:∀ {n:Nat} {G:Nat→ak} {w:World},Holds w ((List.range n).flatMap G)→∀ j,j<n→Holds w (G j):=by
  intro n G w hw j hj x hx
  exact hw x (List.mem_flatMap.2 ⟨j,List.mem_range.2 hj,hx⟩)
 have sK:∀ n:Nat,(List.range n).flatMap (fun _=>([]:ak))=[]:=by intro n;simp
 induction h with
 | v x=>intro _;rw [ew];exact .v x
 | jk x=>intro _;rw [ew];exact .jk x
 | pb ys F hl hr ih=>intro _;rw [ew];exact .jk _
 | ro X hl hy hs hr ih=>intro hk;rw [ew];exact .ro X hl hy (fun w hw=>hs w (hk w hw).1) fun i r j c x h1 h2 h3=>(hr i r j c x h1 h2 h3).mono fun w hw=>(hk w hw).1
 | em X F hl hs hr ih=>
  intro hk
  rename_i T k rows y H0
  rw [ew,kx]
  obtain ⟨a,cp,hy,qP⟩:∃ a cp,y=.slice a rows.length cp∧rows.length≤cp:=hs.JC
  refine .ro X (fun i r hi=>?_) ⟨a,cp,by rw [List.length_map];exact ⟨hy,qP⟩⟩ (fun w hw=>?_) fun i r j c x h1 h2 h3=>?_
  ·rw [List.getElem?_map,Option.map_eq_some_iff] at hi
   obtain ⟨r',h1,rfl⟩:=hi
   rw [List.length_map];exact hl i r' h1
  ·rw [List.length_map];exact hs.src (Holds.app.1 (hk w hw).2).1
  ·rw [List.getElem?_map,Option.map_eq_some_iff] at h1
   obtain ⟨r',h1,rfl⟩:=h1
   rw [List.getElem?_map,Option.map_eq_some_iff] at h2
   obtain ⟨c',h2,rfl⟩:=h2
   refine ih i r' j c' x h1 h2 h3 fun w hw=>⟨(hk w hw).1,?_⟩
   have:=(Holds.app.1 (hk w hw).2).2
   obtain ⟨hi,-⟩:=List.getElem?_eq_some_iff.1 h1
   obtain ⟨hj,-⟩:=List.getElem?_eq_some_iff.1 h2
   have h4:=sZ this i hi
   exact sZ h4 j (by have:=(hl i r' h1).1;omega)
 | ag ys F hl hr ih=>
  intro hk
  rename_i l
  rw [ew,ua]
  have:=bM.ag (K:=K') (l:=l.map ew) ys (fun _=>[]) (by rw [List.length_map];exact hl) (fun j c y h1 h2=>by
   rw [List.getElem?_map,Option.map_eq_some_iff] at h1
   obtain ⟨c',h1,rfl⟩:=h1
   obtain ⟨hj,-⟩:=List.getElem?_eq_some_iff.1 h1
   exact ih j c' y h1 h2 fun w hw=>⟨(hk w hw).1,sZ (hk w hw).2 j hj⟩)
  rwa [sK] at this
 | tu ys F hl hr ih=>
  intro hk
  rename_i l
  rw [ew,ua]
  have:=bM.tu (K:=K') (l:=l.map ew) ys (fun _=>[]) (by rw [List.length_map];exact hl) (fun j c y h1 h2=>by
   rw [List.getElem?_map,Option.map_eq_some_iff] at h1
   obtain ⟨c',h1,rfl⟩:=h1
   obtain ⟨hj,-⟩:=List.getElem?_eq_some_iff.1 h1
   exact ih j c' y h1 h2 fun w hw=>⟨(hk w hw).1,sZ (hk w hw).2 j hj⟩)
  rwa [sK] at this
variable {P:Program} {T:aP} {D:List Nat} {w0:World} {K0:World→Prop} {E:List (Nat×AV)} {M:List ai} {β:Beta} {F:Nat→ak} {I:ak} {ρ:Operand→Value} {w:World}
variable {d:Option Tmp} {ty:TypeId} {pos:String} {aft:Array Edge} {gd:Option (Nat×Bool)} {oc:Option aX} {out:Out}
def sL (M:List ai):AV→AV→Option (List Prop×List Nat)
 | .d x,.d x'=>some ([x=x'],[])
 | .sl u n,.d (.ro k' rows')=>(match M[u]? with | some (.rw _ k rows)=>some ([k=k',n=rows.length,c6 rows=rows'],[u]) | _=>none)
 | .pt u o,.rp row o'=>(match M[u]? with | some (.bx _ cells)=>some ([o=o',cells=row.map .d],[u]) | _=>none)
 | _,_=>none
def mw (M:List ai):List AV→List AV→Option (List Prop×List Nat)
 | [],[]=>some ([],[])
 | c::r,c'::r'=>(match sL M c c',mw M r r' with | some (v,b),some (v',b')=>some (v++v',b++b') | _,_=>none)
 | _,_=>none
def wy (M:List ai):AV→AV→Option (List Prop×List Nat)
 | .ag l,.ag l'=>mw M l l'
 | .ag l,.d (.ag l')=>mw M l (l'.map .d)
 | .fn f l,.fn f' l'=>(match mw M l l' with | some (v,b)=>some ((f=f')::v,b) | none=>none)
 | c,c'=>sL M c c'
def nz (M:List ai):List AV→List AV→Option (List Prop×List Nat)
 | [],[]=>some ([],[])
 | c::r,c'::r'=>(match wy M c c',nz M r r' with | some (v,b),some (v',b')=>some (v++v',b++b') | _,_=>none)
 | _,_=>none
theorem bk.app {a b:List Prop}:bk (a++b)↔bk a∧bk b:=by
 induction a with
 | nil=>simp [bk]
 | cons p r ih=>simp only [List.cons_append,bk,ih,and_assoc]
theorem z7 (R:RM D w0 K0 M β F I w) {K':World→Prop} {c c':AV} {vc:List Prop} {b:List Nat} (h:sL M c c'=some (vc,b)) (hv:bk vc) (hK:∀ w,K' w→iO K0 I F b w) {y:Value} (r:ax (fun w=>K0 w∧Holds w I) β c y):ax K' [] c' y:=by
 unfold sL at h
 split at h
 ·simp only [Option.some.injEq,Prod.mk.injEq] at h;obtain ⟨rfl,rfl⟩:=h
  obtain ⟨rfl,-⟩:=hv
  cases r with | d r=>exact .d (r.mono fun w hw=>(hK w hw).1)
 ·rename_i u n k' rows'
  split at h
  ·rename_i Tt k rows hM
   simp only [Option.some.injEq,Prod.mk.injEq] at h;obtain ⟨rfl,rfl⟩:=h
   obtain ⟨rfl,rfl,rfl,-⟩:=hv
   cases r with
   | sl hb=>
    obtain ⟨H,hF,hB,-⟩:=R.at hM
    cases hB with
    | rw aS X G hl hs hr=>
     rw [hb] at aS;cases aS
     have:=sc (K':=K') (bM.em X G hl hs hr) fun w hw=>⟨(hK w hw).1,by have:=(hK w hw).2 u (by simp);rw [hF] at this;exact this⟩
     rw [ew] at this
     exact .d this
  ·simp at h
 ·rename_i u o row o'
  split at h
  ·rename_i Tt cells hM
   simp only [Option.some.injEq,Prod.mk.injEq] at h;obtain ⟨rfl,rfl⟩:=h
   obtain ⟨rfl,rfl,-⟩:=hv
   cases r with
   | pt hb=>
    obtain ⟨H,hF,hB,-⟩:=R.at hM
    cases hB with
    | bx aS ys hl hr=>
     rw [hb] at aS;cases aS
     have ha:∀ (b:Nat),(⟨b,o,none⟩:Addr)=(⟨b,0,none⟩:Addr).add o:=fun b=>by rw [add_eq,Nat.zero_add]
     rw [ha]
     refine .rp _ ys (by rw [hl,List.length_map]) (fun w' dC j x hj=>?_) fun j c x h1 h2=>?_
     ·have:=(hK w' dC).2 u (by simp)
      rw [hF] at this
      rw [add_eq,Nat.zero_add,cell_of this.one];simpa using hj
     ·have:=hr j (.d c) x (by rw [List.getElem?_map,h1];rfl) h2
      cases this with | d h=>exact h.mono fun w hw=>(hK w hw).1
  ·simp at h
 ·simp at h
theorem rX (R:RM D w0 K0 M β F I w) {K':World→Prop}:∀ {l l':List AV} {vc:List Prop} {b:List Nat},mw M l l'=some (vc,b)→bk vc→(∀ w,K' w→iO K0 I F b w)→∀ {ys:List Value},ys.length=l.length→(∀ (j:Nat) c y,l[j]?=some c→ys[j]?=some y→ax (fun w=>K0 w∧Holds w I) β c y)→
  ys.length=l'.length∧∀ (j:Nat) c y,l'[j]?=some c→ys[j]?=some y→ax K' [] c y
 | [],[],vc,b,h,_,_,ys,hl,_=>by simp at hl;subst hl;simp
 | [],_::_,_,_,h,_,_,_,_,_=>by simp [mw] at h
 | _::_,[],_,_,h,_,_,_,_,_=>by simp [mw] at h
 | c::r,c'::r',vc,b,h,hv,hK,ys,hl,hr=>by
  unfold mw at h
  split at h
  ·rename_i v b1 v' b' h1 h2
   simp only [Option.some.injEq,Prod.mk.injEq] at h;obtain ⟨rfl,rfl⟩:=h
   rw [bk.app] at hv
   cases ys with
   | nil=>simp at hl
   | cons y ys=>
    obtain ⟨e1,e2⟩:=rX R h2 hv.2 (fun w hw=>⟨(hK w hw).1,fun u hu=>(hK w hw).2 u (List.mem_append_right _ hu)⟩) (ys:=ys) (by simpa using hl) (fun j c y h3 h4=>hr (j+1) c y (by simpa using h3) (by simpa using h4))
    refine ⟨by simp [e1],?_⟩
    intro j a z h3 h4
    cases j with
    | zero=>simp at h3 h4;subst h3 h4;exact z7 R h1 hv.1 (fun w hw=>⟨(hK w hw).1,fun u hu=>(hK w hw).2 u (List.mem_append_left _ hu)⟩) (hr 0 _ _ rfl rfl)
    | succ j=>simp at h3 h4;exact e2 j a z h3 h4
  ·simp at h
theorem Gy (R:RM D w0 K0 M β F I w) {K':World→Prop} {c c':AV} {vc:List Prop} {b:List Nat} (h:wy M c c'=some (vc,b)) (hv:bk vc) (hK:∀ w,K' w→iO K0 I F b w) {y:Value} (r:ax (fun w=>K0 w∧Holds w I) β c y):ax K' [] c' y:=by
 unfold wy at h
 split at h
 ·cases r with
  | ag ys hl hr=>
   obtain ⟨e1,e2⟩:=rX R h hv hK hl hr
   exact .ag ys e1 e2
 ·rename_i l l'
  cases r with
  | ag ys hl hr=>
   obtain ⟨e1,e2⟩:=rX R h hv hK hl hr
   have:=bM.ag (K:=K') (l:=l') ys (fun _=>[]) (by rw [e1,List.length_map]) (fun j c y h1 h2=>by
    have:=e2 j (.d c) y (by rw [List.getElem?_map,h1];rfl) h2
    cases this with | d h=>exact h)
   have sK:∀ n:Nat,(List.range n).flatMap (fun _=>([]:ak))=[]:=by intro n;simp
   rw [sK] at this
   exact .d this
 ·rename_i f l f' l'
  split at h
  ·rename_i v b1 h1
   simp only [Option.some.injEq,Prod.mk.injEq] at h;obtain ⟨rfl,rfl⟩:=h
   obtain ⟨rfl,hv⟩:=hv
   cases r with
   | fn ys hl hr=>
    obtain ⟨e1,e2⟩:=rX R h1 hv hK hl hr
    exact .fn ys e1 e2
  ·simp at h
 ·exact z7 R h hv hK r
theorem ub (R:RM D w0 K0 M β F I w) {K':World→Prop}:∀ {l l':List AV} {vc:List Prop} {b:List Nat},nz M l l'=some (vc,b)→bk vc→(∀ w,K' w→iO K0 I F b w)→∀ {ys:List Value},ys.length=l.length→(∀ (j:Nat) c y,l[j]?=some c→ys[j]?=some y→ax (fun w=>K0 w∧Holds w I) β c y)→
  ys.length=l'.length∧∀ (j:Nat) c y,l'[j]?=some c→ys[j]?=some y→ax K' [] c y
 | [],[],vc,b,h,_,_,ys,hl,_=>by simp at hl;subst hl;simp
 | [],_::_,_,_,h,_,_,_,_,_=>by simp [nz] at h
 | _::_,[],_,_,h,_,_,_,_,_=>by simp [nz] at h
 | c::r,c'::r',vc,b,h,hv,hK,ys,hl,hr=>by
  unfold nz at h
  split at h
  ·rename_i v b1 v' b' h1 h2
   simp only [Option.some.injEq,Prod.mk.injEq] at h;obtain ⟨rfl,rfl⟩:=h
   rw [bk.app] at hv
   cases ys with
   | nil=>simp at hl
   | cons y ys=>
    obtain ⟨e1,e2⟩:=ub R h2 hv.2 (fun w hw=>⟨(hK w hw).1,fun u hu=>(hK w hw).2 u (List.mem_append_right _ hu)⟩) (ys:=ys) (by simpa using hl) (fun j c y h3 h4=>hr (j+1) c y (by simpa using h3) (by simpa using h4))
    refine ⟨by simp [e1],?_⟩
    intro j a z h3 h4
    cases j with
    | zero=>simp at h3 h4;subst h3 h4;exact Gy R h1 hv.1 (fun w hw=>⟨(hK w hw).1,fun u hu=>(hK w hw).2 u (List.mem_append_left _ hu)⟩) (hr 0 _ _ rfl rfl)
    | succ j=>simp at h3 h4;exact e2 j a z h3 h4
  ·simp at h
def nE (M:List ai):List Nat→Bool
 | []=>true
 | u::r=>(Nat.ble (u+1) M.length)&&nE M r
theorem uw:∀ {b:List Nat},nE M b=true→∀ u ∈ b,u<M.length
 | [],_,u,hu=>by simp at hu
 | v::r,h,u,hu=>by
  simp only [nE,Bool.and_eq_true] at h
  rcases List.mem_cons.1 hu with e | e
  ·subst e;exact Nat.le_of_ble_eq_true h.1
  ·exact uw h.2 u e
def My (x:DV):List Nat→List Prop
 | []=>[]
 | _::_=>[gv x]
def wz (P:Program) (E:List (Nat×AV)) (M:List ai) (oc:Option aX) (g:Operand) (args:Array Operand):Option Out:=
 match aI E g,kR E args.toList,oc with
 | some (.fn f cu),some l,some (.call told x)=>(match nz M (l++cu) told with
  | some (vc,b)=>bif lu x&&nE M b then some ⟨al P f told x::(My x b++vc),(mV M x).1,(mV M x).2,[],[],none⟩ else none
  | none=>none)
 | _,_,_=>none
theorem al.now {f:FuncId} {args:List AV} {x:DV} (h:al P f args x) (R:RM D w0 K0 M β F I w) (hk:∀ w,Kp D w0 w→K0 w) {b:List Nat} (hb:∀ u ∈ b,u<M.length) {ys:List Value} (hl:ys.length=args.length)
  (hr:∀ (j:Nat) c y,args[j]?=some c→ys[j]?=some y→ax (iO K0 I F b) [] c y) (hi:b≠[]→gv x):
  Calls P f ys.toArray w fun e w'=>∃ v,e=.returned v∧∃ I' X,bK D w0 K0 M β F I' X w'∧bS I I'∧bM (fun w=>K0 w∧Holds w I') x v X:=by
 have Mz:∀ w',Gr w w'→iO K0 I F b w':=fun w' g=>⟨⟨hk _ (R.st.kp.gr g),(Holds.app.1 (R.st.gr g).holds).2⟩,fun u hu=>(RM.iK ⟨R.len,R.blk,R.st.gr g⟩ (List.getElem?_eq_getElem (hb u hu)))⟩
 refine (h.2 w (iO K0 I F b) ys Mz hl hr).mono ?_
 rintro e w' ⟨v,rfl,g,H,⟨Ho,Hi,rfl,hd⟩,n⟩
 have bB:=R.st.new g n
 refine ⟨v,rfl,Hi++I,Ho,⟨R.len,fun u bl hu=>(R.blk u bl hu).mono (fun w hw=>⟨hw.1,(Holds.app.1 hw.2).2⟩) (Ext.refl _),?_⟩,⟨Hi,rfl⟩,?_⟩
 ·exact bB.perm (by classical rw [List.perm_iff_count];intro z;simp only [List.count_append];omega)
 ·by_cases C2:b=[]
  ·subst C2
   exact hd.mono fun w hw=>⟨⟨⟨hw.1,(Holds.app.1 hw.2).2⟩,by simp⟩,(Holds.app.1 hw.2).1⟩
  ·exact hi C2 _ _ _ _ hd
theorem Gz {g:Operand} {args:Array Operand} {e7:Array TypeId} (h:wz P E M oc g args=some out):aJ P ⟨d,.call ⟨.value g,args,e7⟩,ty,pos,aft,gd⟩ E M out:=by
 unfold wz at h
 split at h
 ·rename_i f cu l told x hg hl
  split at h
  ·rename_i vc b wA
   cases en:(lu x&&nE M b) with
   | false=>simp [en] at h
   | true=>
    simp only [en,cond_true,Option.some.injEq] at h;subst h
    simp only [Bool.and_eq_true] at en
    have hb:=uw en.2
    intro D w0 K0 β F I ρ w C hv
    obtain ⟨gl,hv⟩:=hv
    rw [bk.app] at hv
    obtain ⟨MA,hv⟩:=hv
    obtain ⟨y,hy,r⟩:=C.bR hg
    cases r with
    | fn cs cG gx=>
     obtain ⟨dN,km⟩:=C.mU hl
     have gS:(args.toList.map ρ++cs).length=(l++cu).length:=by rw [List.length_append,List.length_append,dN,cG]
     have nJ:∀ (j:Nat) c y,(l++cu)[j]?=some c→(args.toList.map ρ++cs)[j]?=some y→ax (fun w=>K0 w∧Holds w I) β c y:=by
      intro j c y h1 h2
      rcases Nat.lt_or_ge j l.length with hj | hj
      ·rw [List.getElem?_append_left hj] at h1
       rw [List.getElem?_append_left (by omega)] at h2
       exact km j c y h1 h2
      ·rw [List.getElem?_append_right hj] at h1
       rw [List.getElem?_append_right (by omega),dN] at h2
       exact gx _ c y h1 h2
     obtain ⟨e1,e2⟩:=ub C.rm (K':=iO K0 I F b) wA hv (fun _ h=>h) gS nJ
     have hm:args.map ρ=(args.toList.map ρ).toArray:=by rw [← Array.toList_map]
     refine pX hy gl.1 hm ?_
     have lA:((args.toList.map ρ).toArray++cs.toArray:Array Value)=(args.toList.map ρ++cs).toArray:=by simp
     rw [lA]
     refine (gl.now C.rm C.k hb e1 e2 (fun hn=>by cases b with | nil=>exact absurd rfl hn | cons u r=>exact MA.1)).mono ?_
     rintro e w' ⟨v,rfl,I',X,R,hI,hd⟩
     refine ⟨v,rfl,?_⟩
     have R':bK D w0 K0 M β F I' (X++[]) w':=by rw [List.append_nil];exact R
     obtain ⟨aB,F',R2,e,f2,-,a2⟩:=vz en.1 R' hd
     exact ⟨aB,F',I',R2.nil rfl,e.b _,hI,fun u hu _=>f2 u hu,a2⟩
  ·simp at h
 ·simp at h
def po:AV→Bool
 | .d _=>true
 | .rp _ _=>true
 | _=>false
def qR:AV→Bool
 | .ag l=>l.all po
 | .fn _ l=>l.all po
 | c=>po c
theorem Bi {K:World→Prop} {c:AV} (h:po c=true) {y:Value} (r:ax K β c y):ax K [] c y:=by
 cases r with
 | d r=>exact .d r
 | rp a X hl hc hr=>exact .rp a X hl hc hr
 | _=>simp [po] at h
theorem JD {K:World→Prop} {c:AV} (h:qR c=true) {y:Value} (r:ax K β c y):ax K [] c y:=by
 cases r with
 | d r=>exact .d r
 | rp a X hl hc hr=>exact .rp a X hl hc hr
 | ag ys hl hr=>exact .ag ys hl fun j c y h1 h2=>Bi (List.all_eq_true.1 h c (List.mem_of_getElem? h1)) (hr j c y h1 h2)
 | fn ys hl hr=>exact .fn ys hl fun j c y h1 h2=>Bi (List.all_eq_true.1 h c (List.mem_of_getElem? h1)) (hr j c y h1 h2)
 | _=>simp [qR,po] at h
def o4 (P:Program) (E:List (Nat×AV)) (M:List ai) (oc:Option aX) (g:Operand) (args:Array Operand):Option Out:=
 match aI E g,kR E args.toList,oc with
 | some (.fn f cu),some l,some (.au x)=>bif lu x&&(l++cu).all qR then some ⟨[al P f (l++cu) x],(mV M x).1,(mV M x).2,[],[],none⟩ else none
 | _,_,_=>none
theorem AJ {g:Operand} {args:Array Operand} {e7:Array TypeId} (h:o4 P E M oc g args=some out):aJ P ⟨d,.call ⟨.value g,args,e7⟩,ty,pos,aft,gd⟩ E M out:=by
 unfold o4 at h
 split at h
 ·rename_i f cu l x hg hl
  cases en:(lu x&&(l++cu).all qR) with
  | false=>simp only [en,cond_false,reduceCtorEq] at h
  | true=>
   simp only [en,cond_true,Option.some.injEq] at h;subst h
   simp only [Bool.and_eq_true] at en
   intro D w0 K0 β F I ρ w C hv
   obtain ⟨gl,-⟩:=hv
   obtain ⟨y,hy,r⟩:=C.bR hg
   cases r with
   | fn cs cG gx=>
    obtain ⟨dN,km⟩:=C.mU hl
    have gS:(args.toList.map ρ++cs).length=(l++cu).length:=by rw [List.length_append,List.length_append,dN,cG]
    have nJ:∀ (j:Nat) c y,(l++cu)[j]?=some c→(args.toList.map ρ++cs)[j]?=some y→ax (fun w=>K0 w∧Holds w I) β c y:=by
     intro j c y h1 h2
     rcases Nat.lt_or_ge j l.length with hj | hj
     ·rw [List.getElem?_append_left hj] at h1
      rw [List.getElem?_append_left (by omega)] at h2
      exact km j c y h1 h2
     ·rw [List.getElem?_append_right hj] at h1
      rw [List.getElem?_append_right (by omega),dN] at h2
      exact gx _ c y h1 h2
    have hm:args.map ρ=(args.toList.map ρ).toArray:=by rw [← Array.toList_map]
    refine pX hy gl.1 hm ?_
    have lA:((args.toList.map ρ).toArray++cs.toArray:Array Value)=(args.toList.map ρ++cs).toArray:=by simp
    rw [lA]
    refine (gl.now C.rm C.k (b:=[]) (by simp) gS (fun j c y h1 h2=>(JD (List.all_eq_true.1 en.2 c (List.mem_of_getElem? h1)) (nJ j c y h1 h2)).mono (fun w hw=>hw.1) (Ext.refl _)) (fun hn=>absurd rfl hn)).mono ?_
    rintro e w' ⟨v,rfl,I',X,R,hI,hd⟩
    refine ⟨v,rfl,?_⟩
    have R':bK D w0 K0 M β F I' (X++[]) w':=by rw [List.append_nil];exact R
    obtain ⟨aB,F',R2,e,f2,-,a2⟩:=vz en.1 R' hd
    exact ⟨aB,F',I',R2.nil rfl,e.b _,hI,fun u hu _=>f2 u hu,a2⟩
 ·simp at h
end Go.Proofs.YtcnpikbbmbombaaGreatDoor
namespace Go.Proofs.YtcnpikbbmbombaaGreatDoor
open Go.RowKit
variable {P:Program} {T:aP} {w:World} {D:List Nat} {w0:World} {K0:World→Prop} {M:List ai} {β:Beta} {F:Nat→ak} {I X:ak}
theorem range_split {n u:Nat} (h:u<n) (f:Nat→ak):(List.range n).flatMap f=(List.range u).flatMap f++(f u++(List.range' (u+1) (n-(u+1))).flatMap f):=by
 have hr:List.range n=List.range u++u::List.range' (u+1) (n-(u+1)):=by
  rw [List.range_eq_range',List.range_eq_range']
  have h1:n=u+(1+(n-(u+1))):=by omega
  conv=>lhs;rw [h1]
  rw [← List.range'_append_1,← List.range'_append_1]
  simp
 rw [hr];simp [List.flatMap_append]
theorem fh {l:List Nat} {f g:Nat→ak} (h:∀ a ∈ l,f a=g a):l.flatMap f=l.flatMap g:=by
 rw [List.flatMap_def,List.flatMap_def];congr 1;exact List.map_congr_left h
theorem bK.fo (R:bK D w0 K0 M β F I X w) {u:Nat} {blk:ai} (hu:M[u]?=some blk):bK D w0 K0 (M.set u .dead) β (aN F u []) I (X++F u) w where
 len:=by rw [List.length_set];exact R.len
 blk:=by
  intro v bl hv
  rw [List.getElem?_set] at hv
  by_cases e:u=v
  ·subst e
   obtain ⟨aO,-⟩:=List.getElem?_eq_some_iff.1 hu
   simp only [aO,if_pos,Option.some.injEq] at hv;subst hv
   simpa [aN] using bF.dead u
  ·rw [if_neg e] at hv
   have:aN F u [] v=F v:=by simp only [aN];rw [if_neg (fun h=>e h.symm)]
   rw [this];exact R.blk v bl hv
 st:=by
  obtain ⟨aO,-⟩:=List.getElem?_eq_some_iff.1 hu
  have hs:=R.st
  rw [List.length_set,range_split aO]
  rw [range_split aO] at hs
  have c1:(List.range u).flatMap (aN F u [])=(List.range u).flatMap F:=fh fun a ha=>by have:=List.mem_range.1 ha;simp [aN];omega
  have c2:(List.range' (u+1) (M.length-(u+1))).flatMap (aN F u [])=(List.range' (u+1) (M.length-(u+1))).flatMap F:=fh fun a ha=>by have:=(List.mem_range'_1.1 ha).1;simp [aN];omega
  have gu:aN F u [] u=[]:=by simp [aN]
  rw [c1,c2,gu]
  exact hs.perm (by classical rw [List.perm_iff_count];intro z;simp only [List.count_append,List.count_nil];omega)
def oW (M:List ai):AV→Option (List Prop×DV×List ai)
 | .d x=>some ([],x,M)
 | .sl u n=>(match M[u]? with | some (.rw T k rows)=>some ([n=rows.length],.em T k rows,M.set u .dead) | _=>none)
 | _=>none
def kb (M:List ai):List AV→Option (List Prop×List DV×List ai)
 | []=>some ([],[],M)
 | c::r=>(match oW M c with
  | some (v,x,M')=>(match kb M' r with | some (v',l,yc)=>some (v++v',x::l,yc) | none=>none)
  | none=>none)
def wB (M:List ai):AV→Option (List Prop×DV×List ai)
 | .ag l=>(match kb M l with | some (v,l',M')=>some (v,.ag l',M') | none=>none)
 | c=>oW M c
def lh (M:List ai):List AV→Option (List Prop×List DV×List ai)
 | []=>some ([],[],M)
 | c::r=>(match wB M c with
  | some (v,x,M')=>(match lh M' r with | some (v',l,yc)=>some (v++v',x::l,yc) | none=>none)
  | none=>none)
def BT (D:List Nat) (w0:World) (K0:World→Prop) (β:Beta) (I X:ak) (w:World) (y:Value) (x:DV) (M':List ai):Prop:=
 ∃ F' H,bK D w0 K0 M' β F' I (X++H) w∧bM (fun w=>K0 w∧Holds w I) x y H
theorem z8 (R:bK D w0 K0 M β F I X w) {c:AV} {vc:List Prop} {x:DV} {M':List ai} (h:oW M c=some (vc,x,M')) (hv:bk vc) {y:Value} (r:ax (fun w=>K0 w∧Holds w I) β c y):BT D w0 K0 β I X w y x M':=by
 unfold oW at h
 split at h
 ·simp only [Option.some.injEq,Prod.mk.injEq] at h;obtain ⟨rfl,rfl,rfl⟩:=h
  cases r with | d r=>exact ⟨F,[],by rw [List.append_nil];exact R,r⟩
 ·rename_i u n
  split at h
  ·rename_i Tt k rows hM
   simp only [Option.some.injEq,Prod.mk.injEq] at h;obtain ⟨rfl,rfl,rfl⟩:=h
   obtain ⟨rfl,-⟩:=hv
   cases r with
   | sl hb=>
    have R':=R.fo hM
    have hB:=R.blk u _ hM
    refine ⟨_,F u,R',?_⟩
    generalize F u=G0 at hB ⊢
    cases hB with
    | rw aS X G hl hs hr=>rw [hb] at aS;cases aS;exact .em X G hl hs hr
  ·simp at h
 ·simp at h
theorem Aa:∀ {l:List AV} {M:List ai} {F:Nat→ak} {X:ak} {vc:List Prop} {xs:List DV} {M':List ai},bK D w0 K0 M β F I X w→kb M l=some (vc,xs,M')→bk vc→∀ {ys:List Value},ys.length=l.length→(∀ (j:Nat) c y,l[j]?=some c→ys[j]?=some y→ax (fun w=>K0 w∧Holds w I) β c y)→
  ∃ F' H,bK D w0 K0 M' β F' I (X++H) w∧fF (fun w=>K0 w∧Holds w I) xs ys H
 | [],M,F,X,vc,xs,M',R,h,_,ys,hl,_=>by
  simp only [kb,Option.some.injEq,Prod.mk.injEq] at h;obtain ⟨rfl,rfl,rfl⟩:=h
  have:ys=[]:=List.eq_nil_of_length_eq_zero hl
  subst this
  exact ⟨F,[],by rw [List.append_nil];exact R,.nil⟩
 | c::r,M,F,X,vc,xs,M',R,h,hv,ys,hl,hr=>by
  unfold kb at h
  split at h
  ·rename_i v x M1 h1
   split at h
   ·rename_i v' l' M2 h2
    simp only [Option.some.injEq,Prod.mk.injEq] at h;obtain ⟨rfl,rfl,rfl⟩:=h
    rw [bk.app] at hv
    cases ys with
    | nil=>simp at hl
    | cons y ys=>
     obtain ⟨F1,H1,R1,d1⟩:=z8 R h1 hv.1 (hr 0 c y rfl rfl)
     obtain ⟨F2,H2,R2,d2⟩:=Aa R1 h2 hv.2 (ys:=ys) (by simpa using hl) (fun j c' y' e1 e2=>hr (j+1) c' y' (by simpa using e1) (by simpa using e2))
     exact ⟨F2,H1++H2,by rw [← List.append_assoc];exact R2,.cons d1 d2⟩
   ·simp at h
  ·simp at h
theorem fF.to {K:World→Prop} {l:List DV} {ys:List Value} {H:ak} (h:fF K l ys H):∃ F:Nat→ak,H=(List.range l.length).flatMap F∧∀ (j:Nat) c y,l[j]?=some c→ys[j]?=some y→bM K c y (F j):=by
 induction h with
 | nil=>exact ⟨fun _=>[],by simp,by simp⟩
 | cons h r ih=>
  rename_i c y l ys H G
  obtain ⟨F,hF,hr⟩:=ih
  refine ⟨fun i=>match i with | 0=>H | i+1=>F i,?_,?_⟩
  ·rw [List.length_cons,rG,hF]
  ·intro j c' y' h1 h2
   cases j with
   | zero=>simp at h1 h2;subst h1 h2;exact h
   | succ j=>simp at h1 h2;exact hr j c' y' h1 h2
theorem GA (R:bK D w0 K0 M β F I X w) {c:AV} {vc:List Prop} {x:DV} {M':List ai} (h:wB M c=some (vc,x,M')) (hv:bk vc) {y:Value} (r:ax (fun w=>K0 w∧Holds w I) β c y):BT D w0 K0 β I X w y x M':=by
 unfold wB at h
 split at h
 ·split at h
  ·rename_i v l' M1 h1
   simp only [Option.some.injEq,Prod.mk.injEq] at h;obtain ⟨rfl,rfl,rfl⟩:=h
   cases r with
   | ag ys hl hr=>
    obtain ⟨F1,H1,R1,d1⟩:=Aa R h1 hv hl hr
    obtain ⟨G,rfl,hG⟩:=d1.to
    exact ⟨F1,_,R1,.ag ys G d1.len hG⟩
  ·simp at h
 ·exact z8 R h hv r
theorem zK:∀ {l:List AV} {M:List ai} {F:Nat→ak} {X:ak} {vc:List Prop} {xs:List DV} {M':List ai},bK D w0 K0 M β F I X w→lh M l=some (vc,xs,M')→bk vc→∀ {ys:List Value},ys.length=l.length→(∀ (j:Nat) c y,l[j]?=some c→ys[j]?=some y→ax (fun w=>K0 w∧Holds w I) β c y)→
  ∃ F' H,bK D w0 K0 M' β F' I (X++H) w∧fF (fun w=>K0 w∧Holds w I) xs ys H
 | [],M,F,X,vc,xs,M',R,h,_,ys,hl,_=>by
  simp only [lh,Option.some.injEq,Prod.mk.injEq] at h;obtain ⟨rfl,rfl,rfl⟩:=h
  have:ys=[]:=List.eq_nil_of_length_eq_zero hl
  subst this
  exact ⟨F,[],by rw [List.append_nil];exact R,.nil⟩
 | c::r,M,F,X,vc,xs,M',R,h,hv,ys,hl,hr=>by
  unfold lh at h
  split at h
  ·rename_i v x M1 h1
   split at h
   ·rename_i v' l' M2 h2
    simp only [Option.some.injEq,Prod.mk.injEq] at h;obtain ⟨rfl,rfl,rfl⟩:=h
    rw [bk.app] at hv
    cases ys with
    | nil=>simp at hl
    | cons y ys=>
     obtain ⟨F1,H1,R1,d1⟩:=GA R h1 hv.1 (hr 0 c y rfl rfl)
     obtain ⟨F2,H2,R2,d2⟩:=zK R1 h2 hv.2 (ys:=ys) (by simpa using hl) (fun j c' y' e1 e2=>hr (j+1) c' y' (by simpa using e1) (by simpa using e2))
     exact ⟨F2,H1++H2,by rw [← List.append_assoc];exact R2,.cons d1 d2⟩
   ·simp at h
  ·simp at h
end Go.Proofs.YtcnpikbbmbombaaGreatDoor
namespace Go.Proofs.YtcnpikbbmbombaaGreatDoor
open Go.RowKit
variable {P:Program} {T:aP} {D:List Nat} {w0:World} {K0:World→Prop} {E:List (Nat×AV)} {M:List ai} {β:Beta} {F:Nat→ak} {I:ak} {ρ:Operand→Value} {w:World}
variable {d:Option Tmp} {ty:TypeId} {pos:String} {aft:Array Edge} {gd:Option (Nat×Bool)} {oc:Option aX} {out:Out}
def my:List AV→Option (List Value)
 | []=>some []
 | .d (.v x)::r=>(match my r with | some l=>some (x::l) | none=>none)
 | _=>none
theorem p7 {K:World→Prop} {β:Beta}:∀ {l:List AV} {xs ys:List Value},my l=some xs→ys.length=l.length→(∀ (j:Nat) c y,l[j]?=some c→ys[j]?=some y→ax K β c y)→ys=xs
 | [],xs,ys,h,hl,_=>by simp only [my,Option.some.injEq] at h;subst h;exact List.eq_nil_of_length_eq_zero hl
 | c::r,xs,[],_,hl,_=>by simp at hl
 | c::r,xs,y::ys,h,hl,hr=>by
  unfold my at h
  split at h
  ·simp_all
  ·rename_i x r' heq
   simp only [List.cons.injEq] at heq
   obtain ⟨rfl,rfl⟩:=heq
   split at h
   ·rename_i l' cS
    simp only [Option.some.injEq] at h;subst h
    have h0:=hr 0 _ y rfl rfl
    have h1:=p7 (ys:=ys) cS (by simpa using hl) (fun j c y e1 e2=>hr (j+1) c y (by simpa using e1) (by simpa using e2))
    cases h0 with | d h0=>cases h0;rw [h1]
   ·simp at h
  ·simp at h
def lx (P:Program) (t:TypeId) (xs ys:List Value) (c:Bool):Prop:=P.eqGuardType P.depth t=false∧∀ w:World,(Op.equal t (.agg xs.toArray) (.agg ys.toArray)).run P w=.ok c w
def xv (P:Program) (E:List (Nat×AV)) (M:List ai) (oc:Option aX) (op:BinOp) (t:TypeId) (x y:Operand):Option Out:=
 match op,aI E x,aI E y,oc with
 | .eql,some (.ag l),some (.ag l'),some (.b c)=>(match my l,my l' with | some xs,some ys=>some (lk [lx P t xs ys c] (.b c) M) | _,_=>none)
 | .neq,some (.ag l),some (.ag l'),some (.b c)=>(match my l,my l' with | some xs,some ys=>some (lk [lx P t xs ys c] (.b (!c)) M) | _,_=>none)
 | _,_,_,_=>none
theorem H6 {op:BinOp} {t t':TypeId} {x y:Operand} (h:xv P E M oc op t x y=some out):aJ P ⟨d,.binOp op t x y t',ty,pos,aft,gd⟩ E M out:=by
 unfold xv at h
 split at h
 ·rename_i l l' c hx hy
  split at h
  ·rename_i xs ys h1 h2
   simp only [Option.some.injEq] at h;subst h
   refine aJ.same ?_
   intro D w0 K0 β F I ρ w C hv
   obtain ⟨⟨hg,hr⟩,-⟩:=hv
   obtain ⟨u,hu,r⟩:=C.bR hx
   obtain ⟨u',gu,r'⟩:=C.bR hy
   cases r with | ag zs hl hz=>
   cases r' with | ag Nw cS jx=>
   obtain rfl:=p7 h1 hl hz
   obtain rfl:=p7 h2 cS jx
   exact ⟨.bool c,fun w' _=>by simp [execOp,hu,gu,eqGuard,hg,binOp,hr],.d (.v _)⟩
  ·simp at h
 ·rename_i l l' c hx hy
  split at h
  ·rename_i xs ys h1 h2
   simp only [Option.some.injEq] at h;subst h
   refine aJ.same ?_
   intro D w0 K0 β F I ρ w C hv
   obtain ⟨⟨hg,hr⟩,-⟩:=hv
   obtain ⟨u,hu,r⟩:=C.bR hx
   obtain ⟨u',gu,r'⟩:=C.bR hy
   cases r with | ag zs hl hz=>
   cases r' with | ag Nw cS jx=>
   obtain rfl:=p7 h1 hl hz
   obtain rfl:=p7 h2 cS jx
   exact ⟨.bool (!c),fun w' _=>by simp [execOp,hu,gu,eqGuard,hg,binOp,hr],.d (.v _)⟩
  ·simp at h
 ·simp at h
def vA (l:List (Nat×Nat)) (i:Nat):Option (Nat×Nat):=l[i]?
def kK (E:List (Nat×AV)) (place:Nat→Option (Nat×Nat)) (cells:List AV):List (Nat×Operand)→Option (List AV)
 | []=>some cells
 | (i,x)::r=>(match place i,aI E x with
  | some (off,size),some v=>(match ny v with
   | some l=>bif l.length.beq size&&(off+size).ble cells.length then kK E place (cells.take off++(l++cells.drop (off+size))) r else none
   | none=>none)
  | _,_=>none)
theorem Fh:∀ (vs:List Value) (off j:Nat) (cs:Array Value),(vs.zipIdx j).foldl (fun cs (cj:Value×Nat)=>cs.setIfInBounds (off+cj.2) cj.1) cs=cm cs (off+j) vs:=by
 intro vs
 induction vs with
 | nil=>intro off j cs;simp [cm]
 | cons v r ih=>intro off j cs;rw [List.zipIdx_cons,List.foldl_cons,ih,cm,Nat.add_assoc]
theorem rY {place:Nat→Option (Nat×Nat)} (C:Ctx D w0 K0 E M β F I ρ w):∀ {parts:List (Nat×Operand)} {cells l:List AV} {cs:Array Value},kK E place cells parts=some l→cs.size=cells.length→(∀ (j:Nat) c y,cells[j]?=some c→cs[j]?=some y→ax (fun w=>K0 w∧Holds w I) β c y)→
  ∃ bW:Array Value,Instr.fill place cs (parts.map fun p=>(p.1,ρ p.2))=some bW∧bW.size=l.length∧∀ (j:Nat) c y,l[j]?=some c→bW[j]?=some y→ax (fun w=>K0 w∧Holds w I) β c y
 | [],cells,l,cs,h,hl,hr=>by simp only [kK,Option.some.injEq] at h;subst h;exact ⟨cs,rfl,hl,hr⟩
 | (i,x)::r,cells,l,cs,h,hl,hr=>by
  unfold kK at h
  split at h
  ·rename_i off size v hp hx
   split at h
   ·rename_i lv C3
    cases hb:(lv.length.beq size&&(off+size).ble cells.length) with
    | false=>simp [hb] at h
    | true=>
     simp only [hb,cond_true] at h
     simp only [Bool.and_eq_true] at hb
     have h1:=Nat.eq_of_beq_eq_true hb.1
     have h2:=Nat.le_of_ble_eq_true hb.2
     obtain ⟨y,hy,ry⟩:=C.bR hx
     obtain ⟨zs,e1,e2,e3,-⟩:=pY C3 ry
     have qs:(cm cs off zs).size=(cells.take off++(lv++cells.drop (off+size))).length:=by rw [iE];simp;omega
     obtain ⟨bW,g1,g2,g3⟩:=rY C (cs:=cm cs off zs) h qs (by
      intro j c z f1 f2
      rw [ox _ _ _ _ (by omega)] at f2
      by_cases hj:off≤j∧j<off+zs.length
      ·rw [if_pos hj] at f2
       rw [List.getElem?_append_right (by simp;omega),List.getElem?_append_left (by simp;omega)] at f1
       refine e3 (j-off) c z ?_ f2
       rw [← f1];congr 1;simp;omega
      ·rw [if_neg hj] at f2
       refine hr j c z ?_ f2
       rcases Nat.lt_or_ge j off with mT | mT
       ·rw [List.getElem?_append_left (by simp;omega),List.getElem?_take,if_pos mT] at f1;exact f1
       ·rw [List.getElem?_append_right (by simp;omega),List.getElem?_append_right (by simp;omega),List.getElem?_drop] at f1
        rw [← f1];congr 1;simp;omega)
     refine ⟨bW,?_,g2,g3⟩
     rw [List.map_cons,Instr.fill]
     simp only [hp,hy,e1]
     rw [if_neg (by simp;omega)]
     have hz:=Fh zs off 0 cs
     have yd:zs.toArray.zipIdx.foldl (fun cs (cj:Value×Nat)=>cs.setIfInBounds (off+cj.2) cj.1) cs=cm cs off zs:=by
      rw [← Array.foldl_toList,Array.toList_zipIdx];simpa using hz
     rw [← g1];congr 1
   ·simp at h
  ·simp at h
def vB (T:aP) (E:List (Nat×AV)) (M:List ai) (t:TypeId) (parts:Array (Nat×Operand)):Option Out:=
 match x4 T t,oV T t with
 | some pl,some z=>(match kK E (vA pl) (lg z) parts.toList with
  | some l=>some (lk [] (.ag l) M)
  | none=>none)
 | _,_=>none
theorem zj:∀ {fs:List Field} {pl:List (Nat×Nat)} (w:World),oF P fs=some pl→(fs.mapM fun f=>(do pure (f.offset,← sizeOf f.type):Sem (Nat×Nat))).run P w=.ok pl w
 | [],pl,w,h=>by simp only [oF,Option.some.injEq] at h;subst h;simp
 | f::r,pl,w,h=>by
  unfold oF at h
  split at h
  ·rename_i i l hi hl
   simp only [Option.some.injEq] at h;subst h
   have ih:=zj w hl
   have hs:(sizeOf f.type).run P w=.ok i.size w:=by simp [sizeOf,typeInfo,Sem.run_bind,hi]
   simp only [List.mapM_cons,Sem.run_bind,hs,Result.andThen_ok,Sem.run_pure,ih]
  ·simp at h
theorem Fi (hT:aZ P T=true) {t:TypeId} {parts:Array (Nat×Operand)} (h:vB T E M t parts=some out):aJ P ⟨d,.build t parts,ty,pos,aft,gd⟩ E M out:=by
 unfold vB at h
 split at h
 ·rename_i pl z Nx hz
  split at h
  ·rename_i l hl
   simp only [Option.some.injEq] at h;subst h
   obtain ⟨fs,hu,Ny⟩:=Jy hT Nx
   obtain ⟨zv,nU,nV⟩:=rS hT hz
   refine aJ.same ?_
   intro D w0 K0 β F I ρ w C _
   obtain ⟨p1,p2⟩:=pZ (K:=fun w=>K0 w∧Holds w I) (β:=β) z
   obtain ⟨bW,g1,g2,g3⟩:=rY C (cs:=z.toArray) hl (by simpa using p1) (by intro j c y e1 e2;exact p2 j c y e1 (by simpa using e2))
   refine ⟨.agg bW,fun w' _=>?_,?_⟩
   ·have Nz:=zj w' Ny
    have NA:(fs.mapM fun f=>(do pure (f.offset,← sizeOf f.type):Sem (Nat×Nat))).run P w'=.ok pl.toArray w':=by
     rw [Array.mapM_eq_mapM_toList,Sem.run_map,Nz];rfl
    have pq:(parts.map fun (p:Nat×Operand)=>(p.1,ρ p.2)).toList=parts.toList.map fun p=>(p.1,ρ p.2):=by simp
    have ss:(fun i=>pl.toArray[i]?)=vA pl:=by funext i;simp [vA]
    have hb:(Instr.build t (parts.map fun (p:Nat×Operand)=>(p.1,ρ p.2))).run P w'=.ok (.agg bW) w':=by
     simp only [Instr.build,Sem.run_bind,nV,Result.andThen_ok,run_underlying hu,NA,nU,pq,ss,g1,Sem.run_pure]
    simp only [execOp,Sem.run_bind]
    have:(parts.map fun (i,x)=>(i,ρ x))=parts.map fun (p:Nat×Operand)=>(p.1,ρ p.2):=rfl
    rw [this,hb];rfl
   ·have:(ax (fun w=>K0 w∧Holds w I) β (.ag l) (.agg bW.toList.toArray)):=.ag bW.toList (by simpa using g2) (by intro j c y e1 e2;exact g3 j c y e1 (by simpa using e2))
    simpa using this
  ·simp at h
 ·simp at h
end Go.Proofs.YtcnpikbbmbombaaGreatDoor
namespace Go.Proofs.YtcnpikbbmbombaaGreatDoor
open Go.RowKit
variable {P:Program} {T:aP} {D:List Nat} {w0:World} {K0:World→Prop} {E:List (Nat×AV)} {M:List ai} {β:Beta} {F:Nat→ak} {I:ak} {ρ:Operand→Value} {w:World}
variable {d:Option Tmp} {ty:TypeId} {pos:String} {aft:Array Edge} {gd:Option (Nat×Bool)} {oc:Option aX} {out:Out}
def iX (T:aP) (t:Nat):Option (Nat×Nat×Nat×List Value):=match cV T t with
 | some (.sl e)=>(match T.at e with | some x=>bif x.zero.length.beq x.size then some (e,x.size,x.bytes,x.zero) else none | none=>none)
 | _=>none
theorem kF (hT:aZ P T=true) {t e k b:Nat} {z:List Value} (h:iX T t=some (e,k,b,z)):∃ zv,oU P t e k b zv∧zv.cells=z.toArray∧z.length=k:=by
 unfold iX at h
 split at h
 ·rename_i e' hu
  split at h
  ·rename_i x hx
   cases hz:x.zero.length.beq x.size with
   | false=>simp [hz] at h
   | true=>
    simp only [hz,cond_true,Option.some.injEq,Prod.mk.injEq] at h
    obtain ⟨rfl,rfl,rfl,rfl⟩:=h
    obtain ⟨i,zv,h1,h2,h3,h4,h5⟩:=rR hT hx
    have hc:zv.cells=x.zero.toArray:=by rw [← h5]
    exact ⟨zv,⟨cH hT hu,by rw [h1,Option.map_some,h2],by rw [h1,Option.map_some,h3],by rw [h1,Option.bind_some,h4],by rw [hc];simpa using Nat.eq_of_beq_eq_true hz⟩,hc,Nat.eq_of_beq_eq_true hz⟩
  ·simp at h
 ·simp at h
theorem eu {n k:Nat} {X:Nat→List Value} (hX:∀ i,i<n→(X i).length=k):(lay n X).length=n*k:=by
 induction n with
 | zero=>simp [lay]
 | succ n ih=>
  have:=ih (fun i hi=>hX i (by omega))
  simp only [lay,List.range_succ,List.flatMap_append,List.length_append,List.flatMap_cons,List.flatMap_nil,List.append_nil] at this ⊢
  rw [this,hX n (by omega),Nat.succ_mul]
theorem rZ (z:List Value) (n k:Nat) (hz:z.length=k):((Array.range (n*k)).map fun i=>z.toArray[i%z.toArray.size]!).toList=lay n fun _=>z:=by
 subst hz
 apply List.ext_getElem?
 intro p
 have hl:=eu (n:=n) (k:=z.length) (X:=fun _=>z) (fun _ _=>rfl)
 rcases Nat.lt_or_ge p (n*z.length) with hp | hp
 ·have hk:0<z.length:=by
   rcases Nat.eq_zero_or_pos z.length with h0 | h0
   ·rw [h0] at hp;simp at hp
   ·exact h0
  have hd:p / z.length<n:=Nat.div_lt_of_lt_mul (by rw [Nat.mul_comm];exact hp)
  have hm:p%z.length<z.length:=Nat.mod_lt _ hk
  have hg:=j4 (n:=n) (k:=z.length) (X:=fun _=>z) (fun _ _=>rfl) hd hm
  rw [Nat.mul_comm,Nat.div_add_mod] at hg
  rw [hg]
  have yd:z[p%z.length]?=some z[p%z.length]:=List.getElem?_eq_getElem hm
  rw [yd,Array.toList_map,List.getElem?_map,Array.toList_range,List.getElem?_range hp,Option.map_some]
  congr 1
  have:(z.toArray)[p%z.toArray.size]?=some z[p%z.length]:=by rw [List.getElem?_toArray];exact yd
  rw [getElem!_def,this]
 ·rw [List.getElem?_eq_none (by simpa using hp),List.getElem?_eq_none (by omega)]
set_option maxRecDepth 20000 in
theorem run_makeSlice {t e k b:Nat} {z:List Value} {zv:Value} (ok:oU P t e k b zv) (hz:zv.cells=z.toArray) (eI:z.length=k) {m:Nat} (hb:b*m≤281474976710656) (hm:m<4611686018427387904):
  (Instr.makeSlice t (.int .i64 m) (.int .i64 m)).run P w=.ok (.slice (some ⟨w.heap.size,0,none⟩) m m) (w.alloc (.cells (lay m fun _=>z).toArray e)):=by
 obtain ⟨i,hi,h1,h2,h3⟩:=ok.info
 have hw:IntKind.i64.wrap (m:Int)=m:=by
  simp [IntKind.wrap,IntKind.signed,IntKind.bits];omega
 have bA:∀ w:World,(sizeOf e).run P w=.ok k w:=fun w=>by simp [sizeOf,typeInfo,Sem.run_bind,hi,h1]
 have kI:∀ w:World,(typeInfo e).run P w=.ok i w:=fun w=>by simp [typeInfo,Sem.run_bind,hi]
 have hzero:∀ w:World,(zeroValue e).run P w=.ok zv w:=fun w=>by simp [zeroValue,Sem.run_bind,kI,h3]
 have qC:∀ (k:Nat) (w:World),(askRoom k).run P w=.ok () w:=by
  intro k w;unfold askRoom;split<;>simp [mark,Sem.run]
 have ye:∀ n:Int,asInt (.int .i64 n)=pure n:=fun n=>rfl
 have b9:∀ (cs:Array Value) (w:World),(newRow e cs).run P w=.ok ⟨w.heap.size,0,none⟩ (w.alloc (.cells cs e)):=by
  intro cs w;simp [newRow,newObj,Sem.run]
 have C4:¬ ((i.bytes:Int)*(m:Int)>2 ^ 48):=by
  rw [h2]
  have e:((b*m:Nat):Int)=(b:Int)*(m:Int):=Int.natCast_mul b m
  rw [← e]
  generalize b*m=q at hb
  omega
 have vC:∀ n,n=m*k→(if n=0 then ((Array.range n).map fun i=>(#[]:Array Value)[i%(#[]:Array Value).size]!) else ((Array.range n).map fun i=>z.toArray[i%z.toArray.size]!))=(lay m fun _=>z).toArray:=by
  intro n hn
  subst hn
  rw [← rZ z m k eI]
  by_cases h0:m*k=0
  ·rw [if_pos h0,h0];simp
  ·rw [if_neg h0]
 unfold Instr.makeSlice
 simp only [Sem.run_bind,run_underlying ok.bB,Result.andThen_ok,ye,Sem.run_pure,kI,hw,bA]
 have wC:¬ ((((m:Int)<0:Bool)||decide ((i.bytes:Int)*(m:Int)>2 ^ 48))=true∨(m:Int)<0∨(m:Int)>m):=by
  simp only [Bool.or_eq_true,decide_eq_true_eq]
  omega
 rw [if_neg (by simpa using wC)]
 simp only [Sem.run_bind,Result.andThen_ok,qC,bA,Int.toNat_natCast]
 have:=vC (m*k) rfl
 by_cases h0:m*k=0
 ·rw [if_pos h0] at this ⊢
  simp only [Sem.run_pure,Result.andThen_ok,Sem.run_bind,b9,this]
 ·rw [if_neg h0] at this ⊢
  simp only [Sem.run_pure,Result.andThen_ok,Sem.run_bind,hzero,hz,b9,this]
def wD (T:aP) (E:List (Nat×AV)) (M:List ai) (oc:Option aX) (t:TypeId) (x y:Operand):Option Out:=
 match iX T t,cL (aI E x),cL (aI E y),oc with
 | some (e,k,b,z),some (.i64,n),some (.i64,n'),some (.n m)=>some ⟨[n=(m:Int),n'=(m:Int),b*m≤281474976710656,m<4611686018427387904],.sl M.length m,M++[.rw e k (List.replicate m (z.map .v))],[],[],none⟩
 | _,_,_,_=>none
theorem tV {K:World→Prop} {z:List Value} {j:Nat} {c:DV} {x:Value} (h1:(z.map DV.v)[j]?=some c) (h2:z[j]?=some x):bM K c x []:=by
 rw [List.getElem?_map,h2,Option.map_some,Option.some.injEq] at h1
 subst h1;exact .v x
theorem ky (n k:Nat):bI n k (fun _ _=>[])=[]:=by simp [bI]
theorem GB (hT:aZ P T=true) {t:TypeId} {x y:Operand} (h:wD T E M oc t x y=some out):aJ P ⟨d,.makeSlice t x y,ty,pos,aft,gd⟩ E M out:=by
 unfold wD at h
 split at h
 ·rename_i e k b z n n' m he hx hy
  simp only [Option.some.injEq] at h;subst h
  obtain ⟨zv,ok,hz,eI⟩:=kF hT he
  intro D w0 K0 β F I ρ w C hv
  obtain ⟨rfl,rfl,hb,hm,-⟩:=hv
  refine aY.pure (v:=.slice (some ⟨w.heap.size,0,none⟩) m m) (w':=w.alloc (.cells (lay m fun _=>z).toArray e)) (by simp only [execOp,C.int hx,C.int hy,Sem.run_bind,run_makeSlice ok hz eI hb hm,Result.andThen_ok,Sem.run_pure]) ?_
  have hC:=eu (n:=m) (k:=k) (X:=fun _=>z) (fun _ _=>eI)
  refine ⟨_,_,I,C.rm.new (q:=(some ⟨w.heap.size,0,none⟩,m)) (Gr.alloc w _) (du.alloc w _) ?_,(Ext.app _ _).b _,bS.refl _,lb _ _,.sl (gQ C.rm _)⟩
  have:=bF.rw (K:=fun w=>K0 w∧Holds w I) (β:=β++[(some ⟨w.heap.size,0,none⟩,m)]) (u:=M.length) (T:=e) (k:=k) (rows:=List.replicate m (z.map .v)) (H0:=[(w.heap.size,.cells (lay m fun _=>z).toArray e (0,0))]) (gQ C.rm _) (fun _=>z) (fun _ _=>[]) (fun i r hi=>by
   rw [List.getElem?_replicate] at hi
   split at hi
   ·simp only [Option.some.injEq] at hi;subst hi;rw [List.length_map];exact ⟨eI,eI⟩
   ·simp at hi) (by
    rw [List.length_replicate]
    exact ⟨hC,Or.inr ⟨w.heap.size,m,_,(0,0),rfl,rfl,kl _,by simpa using hC,Nat.le_refl _,by rw [← hC];simp⟩⟩) (fun i r j c x hi h1 h2=>by
    rw [List.getElem?_replicate] at hi
    split at hi
    ·simp only [Option.some.injEq] at hi;subst hi;exact tV h1 h2
    ·simp at hi)
  rw [ky,List.append_nil] at this
  exact this
 ·simp at h
theorem uR {n:Nat} {X Y:Nat→List Value} (h:∀ i,i<n→X i=Y i):lay n X=lay n Y:=by
 simp only [lay,List.flatMap_def];congr 1
 exact List.map_congr_left fun i hi=>h i (List.mem_range.1 hi)
theorem oH (n m:Nat) (X Y:Nat→List Value):lay (n+m) (fun i=>if i<n then X i else Y (i-n))=lay n X++lay m Y:=by
 simp only [lay]
 rw [List.range_add,List.flatMap_append,List.flatMap_map]
 congr 1
 ·simp only [List.flatMap_def];congr 1;exact List.map_congr_left fun i hi=>by have:=List.mem_range.1 hi;simp [this]
 ·simp only [List.flatMap_def];congr 1;exact List.map_congr_left fun i hi=>by
   show (if n+i<n then X (n+i) else Y (n+i-n))=Y i
   rw [if_neg (by omega),Nat.add_sub_cancel_left]
theorem p9 (n m k:Nat) (X Y:Nat→Nat→ak):bI (n+m) k (fun i=>if i<n then X i else Y (i-n))=bI n k X++bI m k Y:=by
 simp only [bI]
 rw [List.range_add,List.flatMap_append,List.flatMap_map]
 congr 1
 ·simp only [List.flatMap_def];congr 1;exact List.map_congr_left fun i hi=>by have:=List.mem_range.1 hi;simp [this]
 ·simp only [List.flatMap_def];congr 1;exact List.map_congr_left fun i hi=>by
   show (List.range k).flatMap (if n+i<n then X (n+i) else Y (n+i-n))=(List.range k).flatMap (Y i)
   rw [if_neg (by omega),Nat.add_sub_cancel_left]
structure dt (K:World→Prop) (k:Nat) (rows:List (List DV)) (X:Nat→List Value) (G:Nat→Nat→ak):Prop where
 hl:∀ (i:Nat) r,rows[i]?=some r→r.length=k∧(X i).length=k
 hr:∀ (i:Nat) (r:List DV) (j:Nat) c x,rows[i]?=some r→r[j]?=some c→(X i)[j]?=some x→bM K c x (G i j)
theorem dt.app {K:World→Prop} {k:Nat} {r1 r2:List (List DV)} {X Y:Nat→List Value} {G H:Nat→Nat→ak} (h1:dt K k r1 X G) (h2:dt K k r2 Y H):dt K k (r1++r2) (fun i=>if i<r1.length then X i else Y (i-r1.length)) (fun i=>if i<r1.length then G i else H (i-r1.length)):=by
 constructor
 ·intro i r hi
  rcases Nat.lt_or_ge i r1.length with h | h
  ·rw [List.getElem?_append_left h] at hi;simpa [h] using h1.hl i r hi
  ·rw [List.getElem?_append_right h] at hi;have h':¬ i<r1.length:=by omega
   simpa [h'] using h2.hl _ r hi
 ·intro i r j c x hi hj hx
  rcases Nat.lt_or_ge i r1.length with h | h
  ·rw [List.getElem?_append_left h] at hi;simp only [h,if_true] at hx ⊢;exact h1.hr i r j c x hi hj hx
  ·rw [List.getElem?_append_right h] at hi;have h':¬ i<r1.length:=by omega
   simp only [h',if_false] at hx ⊢;exact h2.hr _ r j c x hi hj hx
theorem dt.one {K:World→Prop} {k:Nat} {rows:List (List DV)} {X:Nat→List Value} {G:Nat→Nat→ak} (h:dt K k rows X G) (ho:(rows.all fun r=>r.all fun c=>AV.one (.d c))=true):∀ q ∈ lay rows.length X,bf q=true:=by
 intro q hq
 simp only [lay,List.mem_flatMap,List.mem_range] at hq
 obtain ⟨i,hi,hq⟩:=hq
 obtain ⟨j,hj,rfl⟩:=List.getElem_of_mem hq
 have b9:=List.getElem?_eq_getElem hi
 obtain ⟨e1,e2⟩:=h.hl i _ b9
 have hc:rows[i][j]?=some rows[i][j]:=List.getElem?_eq_getElem (by omega)
 have hd:=h.hr i _ j _ _ b9 hc (List.getElem?_eq_getElem hj)
 have dK:=List.all_eq_true.1 (List.all_eq_true.1 ho _ (List.mem_of_getElem? b9)) _ (List.mem_of_getElem? hc)
 generalize rows[i][j]=c at hd dK
 generalize G i j=GG at hd
 cases c with
 | v x=>cases hd;exact dK
 | jk=>simp [AV.one] at dK
 | ro k rows=>obtain ⟨a,n,c,hx⟩:=hd.slice (by simp);rw [hx];rfl
 | em T k rows=>obtain ⟨a,n,c,hx⟩:=hd.slice (by simp);rw [hx];rfl
 | ag l=>simp [AV.one] at dK
 | tu l=>simp [AV.one] at dK
 | pb T l=>generalize (X i)[j]=z at hd;cases hd;rfl
def aD (rows:List (List DV)):Prop:=(rows.all fun r=>r.all fun c=>AV.one (.d c))=true
def o5 (M:List ai) (e k:Nat):AV→Option (Option Nat×Nat×List (List DV))
 | .sl u n=>(match M[u]? with | some (.rw e' k' rows)=>bif e.beq e'&&k.beq k' then some (some u,n,rows) else none | _=>none)
 | .d (.v (.slice none 0 0))=>some (none,0,[])
 | _=>none
def o6 (M:List ai) (k:Nat):AV→Option (Option Nat×Nat×List (List DV))
 | .sl v m=>(match M[v]? with | some (.rw _ k' rows)=>bif k.beq k' then some (some v,m,rows) else none | _=>none)
 | .d (.ro k' rows)=>bif k.beq k' then some (none,rows.length,rows) else none
 | .d (.v (.slice _ 0 _))=>some (none,0,[])
 | _=>none
def fS (mv:List Nat):AV→Bool
 | .d _=>true
 | .sl u _=>!(mv.elem u)
 | .sb u _ _ _=>!(mv.elem u)
 | .sf u _ _ _ _=>!(mv.elem u)
 | .pt u _=>!(mv.elem u)
 | .mv u=>!(mv.elem u)
 | .yl u=>!(mv.elem u)
 | .ep u _ _ _=>!(mv.elem u)
 | .rp _ _=>true
 | .bt _=>true
 | .uk=>true
 | _=>false
def iL (mv:List Nat):AV→Bool
 | .fn _ l=>l.all (fS mv)
 | .fm _ l=>l.all (fS mv)
 | .ag l=>l.all (fS mv)
 | .tu l=>l.all (fS mv)
 | c=>fS mv c
theorem mc {K:World→Prop} {β aB:Beta} {mv:List Nat} (e:gk mv β aB) {v:AV} (hc:fS mv v=true) {y:Value} (r:ax K β v y):ax K aB v y:=by
 cases r with
 | d h=>exact .d h
 | sl h=>refine .sl (e _ _ ?_ h);intro hm;simp [fS,hm] at hc
 | sb h=>refine .sb (e _ _ ?_ h);intro hm;simp [fS,hm] at hc
 | sf h h1 h2 h3=>refine .sf (e _ _ ?_ h) h1 h2 h3;intro hm;simp [fS,hm] at hc
 | pt h=>refine .pt (e _ _ ?_ h);intro hm;simp [fS,hm] at hc
 | mv h=>refine .mv (e _ _ ?_ h);intro hm;simp [fS,hm] at hc
 | yl h=>refine .yl (e _ _ ?_ h);intro hm;simp [fS,hm] at hc
 | ep h=>refine .ep (e _ _ ?_ h);intro hm;simp [fS,hm] at hc
 | rp a X hl jU hr=>exact .rp a X hl jU hr
 | bt hd hn=>exact .bt hd hn
 | uk hu=>exact .uk hu
 | fn=>simp [fS] at hc
 | fm=>simp [fS] at hc
 | ag=>simp [fS] at hc
 | tu=>simp [fS] at hc
theorem p3 {K:World→Prop} {β aB:Beta} {mv:List Nat} (e:gk mv β aB) {v:AV} (hc:iL mv v=true) {y:Value} (r:ax K β v y):ax K aB v y:=by
 have key:∀ {l:List AV} {ys:List Value},l.all (fS mv)=true→(∀ (j:Nat) c y,l[j]?=some c→ys[j]?=some y→ax K β c y)→∀ (j:Nat) c y,l[j]?=some c→ys[j]?=some y→ax K aB c y:=by
  intro l ys ha h j c y h1 h2
  exact mc e (List.all_eq_true.1 ha c (List.mem_of_getElem? h1)) (h j c y h1 h2)
 cases r with
 | fn ys hl hr=>exact .fn ys hl (key hc hr)
 | fm ys hl hr=>exact .fm ys hl (key hc hr)
 | ag ys hl hr=>exact .ag ys hl (key hc hr)
 | tu ys hl hr=>exact .tu ys hl (key hc hr)
 | d h=>exact .d h
 | sl h=>exact mc (v:=.sl _ _) e hc (.sl h)
 | sb h=>exact mc (v:=.sb _ _ _ _) e hc (.sb h)
 | sf h h1 h2 h3=>exact mc (v:=.sf _ _ _ _ _) e hc (.sf h h1 h2 h3)
 | pt h=>exact mc (v:=.pt _ _) e hc (.pt h)
 | mv h=>exact mc (v:=.mv _) e hc (.mv h)
 | yl h=>exact mc (v:=.yl _) e hc (.yl h)
 | ep h=>exact mc (v:=.ep _ _ _ _) e hc (.ep h)
 | rp a X hl jU hr=>exact .rp a X hl jU hr
 | bt hd hn=>exact .bt hd hn
 | uk hu=>exact .uk hu
def gR (mv:List Nat):ai→ai
 | .bx T cs=>.bx T (cs.map fun c=>bif iL mv c then c else .d .jk)
 | .rw T k rows=>.rw T k rows
 | .tw a c T k rows=>.tw a c T k rows
 | .mp T c es=>.mp T c es
 | .mu T c es=>.mu T c es
 | .it (some v) a s c=>bif mv.elem v then .it none a s c else .it (some v) a s c
 | .it none a s c=>.it none a s c
 | .lp b f sz E rf=>.lp b f sz (E.map fun x=>(x.1,bif iL mv x.2 then x.2 else .d .jk)) rf
 | .nm v b=>bif mv.elem v then .dead else .nm v b
 | .gw g row=>.gw g row
 | .il (some v) s l c=>bif mv.elem v then .il none s l c else .il (some v) s l c
 | .il none s l c=>.il none s l c
 | .fl T k m cs=>.fl T k m (cs.map fun c=>bif iL mv c then c else .d .jk)
 | .mf T c es=>.mf T c (es.map fun e=>(e.1,e.2.1,bif iL mv e.2.2 then e.2.2 else .d .jk))
 | .dead=>.dead
theorem bF.kill {K:World→Prop} {β aB:Beta} {mv:List Nat} (e:gk mv β aB) {u:Nat} (hu:u ∉ mv) {blk:ai} {H:ak} (r:bF K β u blk H):bF K aB u (gR mv blk) H:=by
 cases r with
 | dead=>exact .dead u
 | bx hb ys hl hr=>
  refine .bx (e _ _ hu hb) ys (by rw [List.length_map];exact hl) fun j c y h1 h2=>?_
  rw [List.getElem?_map,Option.map_eq_some_iff] at h1
  obtain ⟨c',h1,rfl⟩:=h1
  cases hc:iL mv c' with
  | true=>exact p3 e hc (hr j c' y h1 h2)
  | false=>exact .d (.jk _)
 | rw hb X G hl hs hr=>exact .rw (e _ _ hu hb) X G hl hs hr
 | tw hb X G hl hs hr=>exact .tw (e _ _ hu hb) X G hl hs hr
 | gw X hl hc hr=>exact .gw X hl hc hr
 | @nm v b c hb=>
  cases hv:mv.elem v with
  | true=>simp only [gR,hv,cond_true];exact .dead u
  | false=>simp only [gR,hv,cond_false];exact .nm (e _ _ (by simpa using hv) hb)
 | fl hb ys hl hm yf hr=>
  refine .fl (e _ _ hu hb) ys hl (by rw [List.length_map];exact hm) yf fun j c y h1 h2=>?_
  rw [List.getElem?_map,Option.map_eq_some_iff] at h1
  obtain ⟨c',h1,rfl⟩:=h1
  cases hc:iL mv c' with
  | true=>exact p3 e hc (hr j c' y h1 h2)
  | false=>exact .d (.jk _)
 | @mf _ _ Tm yh yi hb vs hl hr=>
  have hh:=bF.mf (K:=K) (T:=Tm) (ck:=yh) (u:=u) (e _ _ hu hb) vs (by rw [List.length_map];exact hl) (es:=List.map (fun (e:Nat×MK×AV)=>(e.1,e.2.1,bif iL mv e.2.2 then e.2.2 else AV.d .jk)) yi) (fun j c y h1 h2=>by
   rw [List.getElem?_map,Option.map_eq_some_iff] at h1
   obtain ⟨c',h1,rfl⟩:=h1
   dsimp only
   cases hc:iL mv c'.2.2 with
   | true=>exact p3 e hc (hr j c' y h1 h2)
   | false=>exact .d (.jk _))
  rw [ur (fun (e:Nat×MK×AV)=>(e.1,e.2.1,bif iL mv e.2.2 then e.2.2 else AV.d .jk)) (fun _=>⟨rfl,rfl⟩)] at hh
  exact hh
 | mp hb vs G hl hr=>exact .mp (e _ _ hu hb) vs G hl hr
 | mu iy hp hn aO hb vs G hl hr=>exact .mu iy hp hn aO (e _ _ hu hb) vs G hl hr
 | lp hb bA hr=>
  refine .lp (e _ _ hu hb) bA fun x hx=>?_
  obtain ⟨x0,tA,rfl⟩:=List.mem_map.1 hx
  cases hc:iL mv x0.2 with
  | true=>simp only [hc,cond_true];exact p3 e hc (hr x0 tA)
  | false=>simp only [hc,cond_false];exact .d (.jk _)
 | @il b bm c since last ck um seen hb hm=>
  cases um with
  | none=>exact .il (bm:=bm) (seen:=seen) (e _ _ hu hb) (fun v hv=>by cases hv)
  | some v=>
   cases hv:mv.elem v with
   | true=>
    have e1:gR mv (.il (some v) since last ck)=.il none since last ck:=by simp only [gR,hv,cond_true]
    rw [e1]
    exact .il (bm:=bm) (seen:=seen) (e _ _ hu hb) (fun v hv=>by cases hv)
   | false=>
    have e1:gR mv (.il (some v) since last ck)=.il (some v) since last ck:=by simp only [gR,hv,cond_false]
    rw [e1]
    refine .il (bm:=bm) (seen:=seen) (e _ _ hu hb) (fun v' hU=>?_)
    cases hU
    obtain ⟨c',h'⟩:=hm v rfl
    exact ⟨c',e _ _ (fun gA=>by simp [gA] at hv) h'⟩
 | @it b bm c since ck um seen hb hm=>
  cases um with
  | none=>exact .it (bm:=bm) (e _ _ hu hb) (fun v hv=>by cases hv)
  | some v=>
   cases hv:mv.elem v with
   | true=>
    have e1:gR mv (.it (some v) since seen ck)=.it none since seen ck:=by simp only [gR,hv,cond_true]
    rw [e1]
    exact .it (bm:=bm) (e _ _ hu hb) (fun v hv=>by cases hv)
   | false=>
    have e1:gR mv (.it (some v) since seen ck)=.it (some v) since seen ck:=by simp only [gR,hv,cond_false]
    rw [e1]
    refine .it (bm:=bm) (e _ _ hu hb) (fun v' hU=>?_)
    cases hU
    obtain ⟨c',h'⟩:=hm v rfl
    exact ⟨c',e _ _ (fun gA=>by simp [gA] at hv) h'⟩
theorem bK.move {X Y:ak} (R:bK D w0 K0 M β F I X w) {w':World} (st:St D w0 w' ((List.range M.length).flatMap F++(I++Y))):bK D w0 K0 M β F I Y w':=⟨R.len,R.blk,st⟩
theorem Ab (β:Beta) (u:Nat) (q:Option Addr×Nat):gk [u] β (β.set u q):=by
 intro v x hv hx
 rw [List.getElem?_set,if_neg (fun e=>hv (by simp [e]))];exact hx
theorem bK.renew {X Y:ak} (R:bK D w0 K0 M β F I (X++Y) w) {u:Nat} (hu:u<M.length) (hF:F u=[]) {q:Option Addr×Nat} {blk:ai} (hb:bF (fun w=>K0 w∧Holds w I) (β.set u q) u blk X):
  bK D w0 K0 ((M.map (gR [u])).set u blk) (β.set u q) (aN F u X) I Y w where
 len:=by rw [List.length_set,List.length_set,List.length_map];exact R.len
 blk:=by
  intro v bl hv
  rw [List.getElem?_set] at hv
  by_cases e:u=v
  ·subst e
   simp only [List.length_map,hu,if_pos,Option.some.injEq] at hv;subst hv
   simpa [aN] using hb
  ·rw [if_neg e,List.getElem?_map,Option.map_eq_some_iff] at hv
   obtain ⟨b0,h1,rfl⟩:=hv
   have:aN F u X v=F v:=by simp only [aN];rw [if_neg (fun h=>e h.symm)]
   rw [this]
   exact (R.blk v b0 h1).kill (Ab β u q) (by simp;exact fun h=>e h.symm)
 st:=by
  have hs:=R.st
  rw [List.length_set,List.length_map,range_split hu]
  rw [range_split hu,hF] at hs
  have c1:(List.range u).flatMap (aN F u X)=(List.range u).flatMap F:=fh fun a ha=>by have:=List.mem_range.1 ha;simp [aN];omega
  have c2:(List.range' (u+1) (M.length-(u+1))).flatMap (aN F u X)=(List.range' (u+1) (M.length-(u+1))).flatMap F:=fh fun a ha=>by have:=(List.mem_range'_1.1 ha).1;simp [aN];omega
  have gu:aN F u X u=X:=by simp [aN]
  rw [c1,c2,gu]
  exact hs.perm (by classical rw [List.perm_iff_count];intro z;simp only [List.count_append,List.count_nil];omega)
def s4 (n m b:Nat) (b3:List (List DV)):List Prop:=[(2*(n+m)+192)*b≤281474976710656,n+m<4611686018427387904,aD b3]
def xw (T:aP) (E:List (Nat×AV)) (M:List ai) (st xt:TypeId) (x y:Operand):Option Out:=
 match iX T st,cV T xt,aI E x,aI E y with
 | some (e,k,b,_),some (.sl e'),some vx,some vy=>bif e.beq e' then (match o5 M e k vx,o6 M k vy with
  | some (some u,n,rows),some (none,m,b3)=>some ⟨[n=rows.length]++s4 n m b b3,.sl u (n+m),(M.map (gR [u])).set u (.rw e k (rows++b3)),[u],[u],none⟩
  | some (none,_,_),some (none,m,b3)=>some ⟨s4 0 m b b3,.sl M.length m,M++[.rw e k b3],[],[],none⟩
  | some (some u,n,rows),some (some v,m,b3)=>bif !(u.beq v) then some ⟨[n=rows.length,m=b3.length]++s4 n m b b3,.sl u (n+m),((M.set v .dead).map (gR [u])).set u (.rw e k (rows++b3)),[u,v],[u],none⟩ else none
  | some (none,_,_),some (some v,m,b3)=>some ⟨[m=b3.length]++s4 0 m b b3,.sl M.length m,(M.set v .dead)++[.rw e k b3],[v],[],none⟩
  | _,_=>none) else none
 | _,_,_,_=>none
theorem uc {e k u n:Nat} {rows:List (List DV)} {v:AV} (h:o5 M e k v=some (some u,n,rows)):v=.sl u n∧M[u]?=some (.rw e k rows):=by
 unfold o5 at h
 split at h
 ·rename_i u' n'
  split at h
  ·rename_i e' k' rows' hM
   cases hb:(e.beq e'&&k.beq k') with
   | false=>simp [hb] at h
   | true=>
    simp only [hb,cond_true,Option.some.injEq,Prod.mk.injEq] at h
    obtain ⟨rfl,rfl,rfl⟩:=h
    simp only [Bool.and_eq_true] at hb
    obtain rfl:=Nat.eq_of_beq_eq_true hb.1
    obtain rfl:=Nat.eq_of_beq_eq_true hb.2
    exact ⟨rfl,hM⟩
  ·simp at h
 ·simp at h
 ·simp at h
theorem ud {e k n:Nat} {rows:List (List DV)} {v:AV} (h:o5 M e k v=some (none,n,rows)):v=.d (.v (.slice none 0 0)):=by
 unfold o5 at h
 split at h
 ·split at h
  ·rename_i e' k' rows' hM
   cases hb:(e.beq e'&&k.beq k')<;>simp [hb] at h
  ·simp at h
 ·rfl
 ·simp at h
theorem zL {k u m:Nat} {rows:List (List DV)} {v:AV} (h:o6 M k v=some (some u,m,rows)):v=.sl u m∧∃ T,M[u]?=some (.rw T k rows):=by
 unfold o6 at h
 split at h
 ·split at h
  ·rename_i T k' rows' hM
   cases hb:k.beq k' with
   | false=>simp [hb] at h
   | true=>
    simp only [hb,cond_true,Option.some.injEq,Prod.mk.injEq] at h
    obtain ⟨rfl,rfl,rfl⟩:=h
    obtain rfl:=Nat.eq_of_beq_eq_true hb
    exact ⟨rfl,T,hM⟩
  ·simp at h
 ·rename_i k' rows'
  cases hb:k.beq k'<;>simp [hb] at h
 ·simp at h
 ·simp at h
theorem uf {k m:Nat} {rows:List (List DV)} {v:AV} (h:o6 M k v=some (none,m,rows)):(v=.d (.ro k rows)∨rows=[]∧∃ a c,v=.d (.v (.slice a 0 c)))∧m=rows.length:=by
 unfold o6 at h
 split at h
 ·split at h
  ·rename_i T k' rows' hM
   cases hb:k.beq k'<;>simp [hb] at h
  ·simp at h
 ·rename_i k' rows'
  cases hb:k.beq k' with
  | false=>simp [hb] at h
  | true=>
   simp only [hb,cond_true,Option.some.injEq,Prod.mk.injEq] at h
   obtain ⟨-,rfl,rfl⟩:=h
   obtain rfl:=Nat.eq_of_beq_eq_true hb
   exact ⟨Or.inl rfl,rfl⟩
 ·simp only [Option.some.injEq,Prod.mk.injEq] at h
  obtain ⟨-,rfl,rfl⟩:=h
  exact ⟨Or.inr ⟨rfl,_,_,rfl⟩,rfl⟩
 ·simp at h
theorem uS (hT:aZ P T=true) {st xt e k b:Nat} {z:List Value} (he:iX T st=some (e,k,b,z)) {x y:Operand} {v u':Value} {n m u:Nat} {H0 L1 S:ak} {rows b3:List (List DV)} {X1 X2:Nat→List Value} {G1 G2:Nat→Nat→ak}
  (lS:ρ x=v) (yj:ρ y=u') (R:bK D w0 K0 M β F I ((H0++L1)++S) w) (hu:u<M.length) (hF:F u=[])
  (hs:dY e k v n (lay n X1) H0) (hn:n=rows.length) (hm:m=b3.length) (a1:dt (fun w=>K0 w∧Holds w I) k rows X1 G1) (hL:L1=bI n k G1) (a2:dt (fun w=>K0 w∧Holds w I) k b3 X2 G2) (hS:S=bI m k G2) (gm:kE P xt w k u' m (lay m X2))
  (qt:(2*(n+m)+192)*b≤281474976710656) (sW:n+m<4611686018427387904) (dK:aD b3):
  aY P ⟨d,.call ⟨.builtin .append,#[x,y],#[st,xt]⟩,ty,pos,aft,gd⟩ ρ w fun v' w'=>∃ aB F',RM D w0 K0 ((M.map (gR [u])).set u (.rw e k (rows++b3))) aB F' I w'∧gk [u] β aB∧(∀ x,x≠u→F' x=F x)∧ax (fun w=>K0 w∧Holds w I) aB (.sl u (n+m)) v':=by
 obtain ⟨zv,ok,-,-⟩:=kF hT he
 subst hn hm
 have bB:St D w0 w (H0++(L1++(S++((List.range M.length).flatMap F++I)))):=R.st.perm (by classical rw [List.perm_iff_count];intro z;simp only [List.count_append];omega)
 refine zG ok lS yj bB hs gm (a2.one dK) qt sW fun v' w' H' ez ym=>?_
 obtain ⟨a,c,rfl⟩:=ez.len
 have aa:=a1.app a2
 have mD:=oH rows.length b3.length X1 X2
 rw [← mD] at ez
 have C5:=p9 rows.length b3.length k G1 G2
 have hq:(β.set u (a,c))[u]?=some (a,c):=by rw [List.getElem?_set];simp [R.len,hu]
 have hb:bF (fun w=>K0 w∧Holds w I) (β.set u (a,c)) u (.rw e k (rows++b3)) (H'++bI (rows++b3).length k (fun i=>if i<rows.length then G1 i else G2 (i-rows.length))):=
  .rw hq _ _ aa.hl (by rw [List.length_append];exact ez) aa.hr
 rw [List.length_append,C5,← hL,← hS] at hb
 have R2:bK D w0 K0 M β F I ((H'++(L1++S))++[]) w':=R.move (ym.perm (by classical rw [List.perm_iff_count];intro z;simp only [List.count_append,List.count_nil];omega))
 have R3:=R2.renew hu hF hb
 exact ⟨_,_,R3.nil rfl,Ab β u _,fun x hx=>by simp only [aN];rw [if_neg hx],.sl hq⟩
theorem uT (hT:aZ P T=true) {st xt e k b:Nat} {z:List Value} (he:iX T st=some (e,k,b,z)) {x y:Operand} {u':Value} {m:Nat} {S:ak} {b3:List (List DV)} {X2:Nat→List Value} {G2:Nat→Nat→ak}
  (lS:ρ x=.slice none 0 0) (yj:ρ y=u') (R:bK D w0 K0 M β F I S w) (hm:m=b3.length) (a2:dt (fun w=>K0 w∧Holds w I) k b3 X2 G2) (hS:S=bI m k G2) (gm:kE P xt w k u' m (lay m X2))
  (qt:(2*(0+m)+192)*b≤281474976710656) (sW:0+m<4611686018427387904) (dK:aD b3):
  aY P ⟨d,.call ⟨.builtin .append,#[x,y],#[st,xt]⟩,ty,pos,aft,gd⟩ ρ w fun v' w'=>∃ aB F',RM D w0 K0 (M++[.rw e k b3]) aB F' I w'∧Ext β aB∧(∀ x,x<M.length→F' x=F x)∧ax (fun w=>K0 w∧Holds w I) aB (.sl M.length m) v':=by
 obtain ⟨zv,ok,-,-⟩:=kF hT he
 subst hm
 have bB:St D w0 w ([]++(S++((List.range M.length).flatMap F++I))):=R.st.perm (by classical rw [List.perm_iff_count];intro z;simp only [List.count_append,List.nil_append];omega)
 refine zG ok lS yj bB (dY.nil e k none) gm (a2.one dK) qt sW fun v' w' H' ez ym=>?_
 obtain ⟨a,c,rfl⟩:=ez.len
 rw [List.nil_append,Nat.zero_add] at ez
 rw [Nat.zero_add]
 have hq:(β++[(a,c)])[M.length]?=some (a,c):=by rw [← R.len];simp
 have hb:bF (fun w=>K0 w∧Holds w I) (β++[(a,c)]) M.length (.rw e k b3) (H'++bI b3.length k G2):=.rw hq _ _ a2.hl ez a2.hr
 rw [← hS] at hb
 have R2:bK D w0 K0 M β F I ((H'++S)++[]) w':=R.move (ym.perm (by classical rw [List.perm_iff_count];intro z;simp only [List.count_append,List.count_nil];omega))
 have R3:=R2.take hb
 exact ⟨_,_,R3.nil rfl,Ext.app _ _,fun x hx=>by simp [aN];omega,.sl hq⟩
theorem tO {u:Nat} {f:ai→ai} {b b':ai}:((M.set u b).map f).set u b'=(M.map f).set u b':=by rw [List.map_set,List.set_set]
theorem mh (R:RM D w0 K0 M β F I w) {u n e k:Nat} {rows:List (List DV)} (hM:M[u]?=some (.rw e k rows)) (hn:n=rows.length) {y:Value} (r:ax (fun w=>K0 w∧Holds w I) β (.sl u n) y):
  ∃ X G H0,F u=H0++bI n k G∧dY e k y n (lay n X) H0∧dt (fun w=>K0 w∧Holds w I) k rows X G∧Holds w H0:=by
 subst hn
 obtain ⟨H,hF,hB,hH⟩:=R.at hM
 cases r with
 | sl hb=>
  cases hB with
  | rw aS X G hl hs hr=>
   rw [hb] at aS;cases aS
   exact ⟨X,G,_,hF,hs,⟨hl,hr⟩,(Holds.app.1 hH).1⟩
theorem AK {K:World→Prop} (hk:K w) {k:Nat} {rows:List (List DV)} {y:Value} (r:ax K β (.d (.ro k rows)) y):∃ X,dt K k rows X (fun _ _=>[])∧Src w k y rows.length (lay rows.length X):=by
 cases r with | d r=>cases r with | ro X hl hy hs hr=>exact ⟨X,⟨hl,hr⟩,hs w hk⟩
theorem ux {K:World→Prop} (hk:K w) {k:Nat} {rows:List (List DV)} {v:AV} (hv:v=.d (.ro k rows)∨rows=[]∧∃ a c,v=.d (.v (.slice a 0 c))) {y:Value} (r:ax K β v y):∃ X,dt K k rows X (fun _ _=>[])∧Src w k y rows.length (lay rows.length X):=by
 rcases hv with rfl | ⟨rfl,a,c,rfl⟩
 ·exact AK hk r
 ·cases r with | d r=>cases r;exact ⟨fun _=>[],⟨by simp,by simp⟩,by simp [lay],Or.inl ⟨rfl,a,c,rfl⟩⟩
theorem H7 (hT:aZ P T=true) {st xt:TypeId} {x y:Operand} (h:xw T E M st xt x y=some out):aJ P ⟨d,.call ⟨.builtin .append,#[x,y],#[st,xt]⟩,ty,pos,aft,gd⟩ E M out:=by
 unfold xw at h
 split at h
 ·rename_i e k b z e' vx vy he hu hx hy
  cases yn:e.beq e' with
  | false=>simp [yn] at h
  | true=>
   simp only [yn,cond_true] at h
   obtain rfl:=Nat.eq_of_beq_eq_true yn
   split at h
   ·rename_i u n rows m b3 hd hs
    simp only [Option.some.injEq] at h;subst h
    obtain ⟨rfl,hM⟩:=uc hd
    obtain ⟨qS,hm⟩:=uf hs
    intro D w0 K0 β F I ρ w C hv
    obtain ⟨hn,h1,h2,h3,-⟩:=hv
    obtain ⟨X1,G1,H0,hF,dO,a1,-⟩:=mh C.rm hM hn (C.ev hx)
    obtain ⟨X2,a2,gm⟩:=ux C.now qS (C.ev hy)
    subst hm
    have R1:=C.rm.x.fo hM
    rw [hF,List.nil_append] at R1
    have aO:u<(M.set u .dead).length:=by rw [List.length_set];exact ff hM
    refine (uS hT he rfl rfl (R1.perm (Y:=(H0++bI n k G1)++[]) (by rw [List.append_nil])) aO (by simp [aN]) dO hn rfl a1 rfl a2 (by rw [ky]) (gm.app (cH hT hu)) h1 h2 h3).mono ?_
    rintro v' w' ⟨aB,F',R',hE,jV,hr⟩
    rw [tO] at R'
    exact ⟨aB,F',I,R',hE,bS.refl _,fun q _ hq=>by have pr:q≠u:=(by simpa using hq);rw [jV q pr];simp only [aN];rw [if_neg pr],hr⟩
   ·rename_i n0 r0 m b3 hd hs
    simp only [Option.some.injEq] at h;subst h
    obtain rfl:=ud hd
    obtain ⟨qS,hm⟩:=uf hs
    intro D w0 K0 β F I ρ w C hv
    obtain ⟨h1,h2,h3,-⟩:=hv
    obtain ⟨X2,a2,gm⟩:=ux C.now qS (C.ev hy)
    subst hm
    have lS:ρ x=.slice none 0 0:=by have:=C.ev hx;generalize ρ x=q at this;cases this with | d r=>cases r;rfl
    refine (uT hT he lS rfl C.rm.x rfl a2 (by rw [ky]) (gm.app (cH hT hu)) h1 h2 h3).mono ?_
    rintro v' w' ⟨aB,F',R',hE,jV,hr⟩
    exact ⟨aB,F',I,R',hE.b _,bS.refl _,fun q hq _=>jV q hq,hr⟩
   ·rename_i u n rows v m b3 hd hs
    cases qT:u.beq v with
    | true=>simp [qT] at h
    | false=>
     simp only [qT,Bool.not_false,cond_true,Option.some.injEq] at h;subst h
     have jT:u≠v:=fun e=>by subst e;simp at qT
     obtain ⟨rfl,hM⟩:=uc hd
     obtain ⟨rfl,T2,mW⟩:=zL hs
     intro D w0 K0 β F I ρ w C hv
     obtain ⟨hn,hm,h1,h2,h3,-⟩:=hv
     obtain ⟨X1,G1,H0,hF,dO,a1,-⟩:=mh C.rm hM hn (C.ev hx)
     obtain ⟨X2,G2,H2,kY,xx,a2,qU⟩:=mh C.rm mW hm (C.ev hy)
     have gm:=xx.src qU
     have R1:=C.rm.x.fo mW
     have NB:(M.set v .dead)[u]?=some (.rw e k rows):=by rw [List.getElem?_set,if_neg (fun e=>jT e.symm)];exact hM
     have R2:=R1.fo NB
     have jy:aN F v [] u=F u:=by simp only [aN];rw [if_neg jT]
     rw [jy,hF,kY,List.nil_append] at R2
     have R3:=(R2.perm (Y:=(H0++bI n k G1)++(bI m k G2)++H2) (by classical rw [List.perm_iff_count];intro z;simp only [List.count_append];omega)).drop
     have aO:u<((M.set v .dead).set u .dead).length:=by rw [List.length_set,List.length_set];exact ff hM
     refine (uS hT he rfl rfl R3 aO (by simp [aN]) dO hn hm a1 rfl a2 rfl (gm.app (cH hT hu)) h1 h2 h3).mono ?_
     rintro v' w' ⟨aB,F',R',hE,jV,hr⟩
     rw [tO] at R'
     refine ⟨aB,F',I,R',hE,bS.refl _,fun q _ hq=>?_,hr⟩
     simp only [List.mem_cons,List.not_mem_nil,or_false,not_or] at hq
     rw [jV q hq.1];simp only [aN];rw [if_neg hq.1,if_neg hq.2]
   ·rename_i n0 r0 v m b3 hd hs
    simp only [Option.some.injEq] at h;subst h
    obtain rfl:=ud hd
    obtain ⟨rfl,T2,mW⟩:=zL hs
    intro D w0 K0 β F I ρ w C hv
    obtain ⟨hm,h1,h2,h3,-⟩:=hv
    obtain ⟨X2,G2,H2,kY,xx,a2,qU⟩:=mh C.rm mW hm (C.ev hy)
    have gm:=xx.src qU
    have R1:=C.rm.x.fo mW
    rw [kY,List.nil_append] at R1
    have R3:=(R1.perm (Y:=bI m k G2++H2) List.perm_append_comm).drop
    have lS:ρ x=.slice none 0 0:=by have:=C.ev hx;generalize ρ x=q at this;cases this with | d r=>cases r;rfl
    refine (uT hT he lS rfl R3 hm a2 rfl (gm.app (cH hT hu)) h1 h2 h3).mono ?_
    rintro v' w' ⟨aB,F',R',hE,jV,hr⟩
    rw [List.length_set] at hr jV
    refine ⟨aB,F',I,R',hE.b _,bS.refl _,fun q hq NC=>?_,hr⟩
    rw [jV q hq];simp only [aN];rw [if_neg (by simpa using NC)]
   ·simp at h
 ·simp at h
end Go.Proofs.YtcnpikbbmbombaaGreatDoor
namespace Go.Proofs.YtcnpikbbmbombaaGreatDoor
open Go.RowKit
variable {P:Program} {T:aP} {D:List Nat} {w0:World} {K0:World→Prop} {E:List (Nat×AV)} {M:List ai} {β:Beta} {F:Nat→ak} {I X:ak} {ρ:Operand→Value} {w:World}
variable {d:Option Tmp} {ty:TypeId} {pos:String} {aft:Array Edge} {gd:Option (Nat×Bool)} {oc:Option aX} {out:Out}
def xy:AV→List Nat
 | .sl u _=>[u]
 | _=>[]
def o7:List AV→List Nat
 | []=>[]
 | c::r=>xy c++o7 r
theorem H8 (R:bK D w0 K0 M β F I X w) {c:AV} {vc:List Prop} {x:DV} {M':List ai} (h:oW M c=some (vc,x,M')) (hv:bk vc) {y:Value} (r:ax (fun w=>K0 w∧Holds w I) β c y):
  M'.length=M.length∧∃ F' H,bK D w0 K0 M' β F' I (X++H) w∧bM (fun w=>K0 w∧Holds w I) x y H∧∀ u,u ∉ xy c→F' u=F u:=by
 unfold oW at h
 split at h
 ·simp only [Option.some.injEq,Prod.mk.injEq] at h;obtain ⟨rfl,rfl,rfl⟩:=h
  cases r with | d r=>exact ⟨rfl,F,[],by rw [List.append_nil];exact R,r,fun _ _=>rfl⟩
 ·rename_i u n
  split at h
  ·rename_i Tt k rows hM
   simp only [Option.some.injEq,Prod.mk.injEq] at h;obtain ⟨rfl,rfl,rfl⟩:=h
   obtain ⟨rfl,-⟩:=hv
   cases r with
   | sl hb=>
    have R':=R.fo hM
    have hB:=R.blk u _ hM
    refine ⟨by rw [List.length_set],_,F u,R',?_,fun v hv=>by simp only [aN];rw [if_neg (by simpa [xy] using hv)]⟩
    generalize F u=G0 at hB ⊢
    cases hB with
    | rw aS X G hl hs hr=>rw [hb] at aS;cases aS;exact .em X G hl hs hr
  ·simp at h
 ·simp at h
theorem sd:∀ {l:List AV} {M:List ai} {F:Nat→ak} {X:ak} {vc:List Prop} {xs:List DV} {M':List ai},bK D w0 K0 M β F I X w→kb M l=some (vc,xs,M')→bk vc→∀ {ys:List Value},ys.length=l.length→(∀ (j:Nat) c y,l[j]?=some c→ys[j]?=some y→ax (fun w=>K0 w∧Holds w I) β c y)→
  M'.length=M.length∧∃ F' H,bK D w0 K0 M' β F' I (X++H) w∧fF (fun w=>K0 w∧Holds w I) xs ys H∧∀ u,u ∉ o7 l→F' u=F u
 | [],M,F,X,vc,xs,M',R,h,_,ys,hl,_=>by
  simp only [kb,Option.some.injEq,Prod.mk.injEq] at h;obtain ⟨rfl,rfl,rfl⟩:=h
  have:ys=[]:=List.eq_nil_of_length_eq_zero hl
  subst this
  exact ⟨rfl,F,[],by rw [List.append_nil];exact R,.nil,fun _ _=>rfl⟩
 | c::r,M,F,X,vc,xs,M',R,h,hv,ys,hl,hr=>by
  unfold kb at h
  split at h
  ·rename_i v x M1 h1
   split at h
   ·rename_i v' l' M2 h2
    simp only [Option.some.injEq,Prod.mk.injEq] at h;obtain ⟨rfl,rfl,rfl⟩:=h
    rw [bk.app] at hv
    cases ys with
    | nil=>simp at hl
    | cons y ys=>
     obtain ⟨l1,F1,H1,R1,d1,f1⟩:=H8 R h1 hv.1 (hr 0 c y rfl rfl)
     obtain ⟨l2,F2,H2,R2,d2,f2⟩:=sd R1 h2 hv.2 (ys:=ys) (by simpa using hl) (fun j c' y' e1 e2=>hr (j+1) c' y' (by simpa using e1) (by simpa using e2))
     refine ⟨by omega,F2,H1++H2,by rw [← List.append_assoc];exact R2,.cons d1 d2,fun u hu=>?_⟩
     simp only [o7,List.mem_append,not_or] at hu
     exact (f2 u hu.2).trans (f1 u hu.1)
   ·simp at h
  ·simp at h
def chunk (k:Nat):Nat→List DV→List (List DV)
 | 0,_=>[]
 | n+1,l=>l.take k::chunk k n (l.drop k)
theorem rI (k:Nat):∀ (n:Nat) (l:List DV),(chunk k n l).length=n
 | 0,_=>rfl
 | n+1,l=>by simp [chunk,rI k n]
theorem Ac (k:Nat):∀ (n:Nat) (l:List DV) (i:Nat),i<n→(chunk k n l)[i]?=some ((l.drop (i*k)).take k)
 | 0,_,_,h=>by omega
 | n+1,l,0,_=>by simp [chunk]
 | n+1,l,i+1,h=>by
  simp only [chunk,List.getElem?_cons_succ]
  rw [Ac k n _ i (by omega),List.drop_drop,Nat.succ_mul,Nat.add_comm]
theorem Fj (k:Nat) (G:Nat→ak):∀ n,bI n k (fun i j=>G (i*k+j))=(List.range (n*k)).flatMap G:=by
 intro n
 induction n with
 | zero=>simp [bI]
 | succ n ih=>
  have:bI (n+1) k (fun i j=>G (i*k+j))=bI n k (fun i j=>G (i*k+j))++(List.range k).flatMap fun j=>G (n*k+j):=by simp [bI,List.range_succ,List.flatMap_append]
  rw [this,ih,Nat.succ_mul,List.range_add,List.flatMap_append,List.flatMap_map]
theorem Fk (k:Nat):∀ (n:Nat) (ys:List Value),ys.length=n*k→lay n (fun i=>(ys.drop (i*k)).take k)=ys:=by
 intro n ys hl
 apply List.ext_getElem?
 intro p
 have hX:∀ i,i<n→((ys.drop (i*k)).take k).length=k:=fun i hi=>by
  have:=Nat.mul_le_mul_right k (show i+1≤n from hi);rw [Nat.succ_mul] at this
  simp;omega
 have hC:=eu hX
 rcases Nat.lt_or_ge p (n*k) with hp | hp
 ·have hk:0<k:=by
   rcases Nat.eq_zero_or_pos k with h0 | h0
   ·subst h0;simp at hp
   ·exact h0
  have hd:p / k<n:=Nat.div_lt_of_lt_mul (by rw [Nat.mul_comm];exact hp)
  have hm:p%k<k:=Nat.mod_lt _ hk
  have hg:=j4 hX hd hm
  have e:p / k*k+p%k=p:=by rw [Nat.mul_comm,Nat.div_add_mod]
  rw [e] at hg
  rw [hg,List.getElem?_take,if_pos hm,List.getElem?_drop,e]
 ·rw [List.getElem?_eq_none (by omega),List.getElem?_eq_none (by omega)]
def kg (z:List Value):Nat→List Value
 | 0=>[]
 | n+1=>z++kg z n
theorem uy (z:List Value):∀ n,kg z n=lay n fun _=>z
 | 0=>by simp [kg,lay]
 | n+1=>by
  rw [kg,uy z n]
  simp only [lay,List.range_succ_eq_map,List.flatMap_cons,List.flatMap_map]
def xA (T:aP) (E:List (Nat×AV)) (M:List ai) (t:TypeId) (len:Nat) (parts:Array (Nat×Operand)):Option Out:=
 match iX T t with
 | some (e,k,_,z)=>bif Nat.ble (len*k) 16777216 then (match kK E (fun i=>some (i*k,k)) (lg (kg z len)) parts.toList with
  | some l=>(match kb M l with
   | some (vc,xs,M')=>some ⟨vc,.sl M.length len,M'++[.rw e k (chunk k len xs)],o7 l,[],none⟩
   | none=>none)
  | none=>none) else none
 | none=>none
theorem H9 (hT:aZ P T=true) {t:TypeId} {len:Nat} {parts:Array (Nat×Operand)} (h:xA T E M t len parts=some out):aJ P ⟨d,.buildSlice t len parts,ty,pos,aft,gd⟩ E M out:=by
 unfold xA at h
 split at h
 ·rename_i e k b z he
  cases hle:Nat.ble (len*k) 16777216 with
  | false=>simp [hle] at h
  | true=>
   simp only [hle,cond_true] at h
   have hle:=Nat.le_of_ble_eq_true hle
   split at h
   ·rename_i l BU
    split at h
    ·rename_i vc xs M' hp
     simp only [Option.some.injEq] at h;subst h
     obtain ⟨zv,ok,hz,eI⟩:=kF hT he
     intro D w0 K0 β F I ρ w C hv
     obtain ⟨p1,p2⟩:=pZ (K:=fun w=>K0 w∧Holds w I) (β:=β) (kg z len)
     obtain ⟨bW,g1,g2,g3⟩:=rY C (cs:=(kg z len).toArray) BU (by simpa using p1) (by intro j c y e1 e2;exact p2 j c y e1 (by simpa using e2))
     obtain ⟨lM,F',H,R',dd,hF⟩:=sd C.rm.x hp hv (ys:=bW.toList) (by simpa using g2) (by intro j c y e1 e2;exact g3 j c y e1 (by simpa using e2))
     have kZ:(kg z len).length=len*k:=by rw [uy];exact eu fun _ _=>eI
     have en:∀ (parts:List (Nat×AV)) ,True:=fun _=>trivial
     have C6:xs.length=len*k:=by
      have h1:=dd.len
      have h2:l.length=len*k:=by
       have:∀ {ps:List (Nat×Operand)} {cs r:List AV},kK E (fun i=>some (i*k,k)) cs ps=some r→r.length=cs.length:=by
        intro ps
        induction ps with
        | nil=>intro cs r hh;simp only [kK,Option.some.injEq] at hh;rw [hh]
        | cons q ps ih=>
         intro cs r hh
         obtain ⟨i,x⟩:=q
         unfold kK at hh
         split at hh
         ·rename_i off size v Pc hx
          split at hh
          ·rename_i lv C3
           cases hb:(lv.length.beq size&&(off+size).ble cs.length) with
           | false=>simp [hb] at hh
           | true=>
            simp only [hb,cond_true] at hh
            simp only [Bool.and_eq_true] at hb
            have e1:=Nat.eq_of_beq_eq_true hb.1
            have e2:=Nat.le_of_ble_eq_true hb.2
            rw [ih hh];simp;omega
          ·simp at hh
         ·simp at hh
       rw [this BU,← p1,kZ]
      have h3:bW.toList.length=bW.size:=by simp
      omega
     have cF:bW.toList.length=len*k:=by rw [← C6];exact dd.len
     have OT:bW.size=len*k:=by simpa using cF
     have bA:∀ w:World,(sizeOf e).run P w=.ok k w:=fun w=>by obtain ⟨i,hi,h1,-⟩:=ok.info;simp [sizeOf,typeInfo,Sem.run_bind,hi,h1]
     have hzero:∀ w:World,(zeroValue e).run P w=.ok zv w:=fun w=>by obtain ⟨i,hi,-,-,h3⟩:=ok.info;simp [zeroValue,typeInfo,Sem.run_bind,hi,h3]
     have b9:∀ (cs:Array Value) (w:World),(newRow e cs).run P w=.ok ⟨w.heap.size,0,none⟩ (w.alloc (.cells cs e)):=by
      intro cs w;simp [newRow,newObj,Sem.run]
     have pq:(parts.map fun (p:Nat×Operand)=>(p.1,ρ p.2)).toList=parts.toList.map fun p=>(p.1,ρ p.2):=by simp
     have yo:(Array.range (len*k)).map (fun i=>z.toArray[i%z.toArray.size]!)=(kg z len).toArray:=by
      rw [uy,← rZ z len k eI]
     have fk:(Instr.buildSlice t len (parts.map fun (p:Nat×Operand)=>(p.1,ρ p.2))).run P w=.ok (.slice (some ⟨w.heap.size,0,none⟩) len len) (w.alloc (.cells bW e)):=by
      unfold Instr.buildSlice
      simp only [Sem.run_bind,run_underlying ok.bB,Result.andThen_ok,bA]
      rw [if_neg (by omega)]
      by_cases h0:len*k=0
      ·have MB:(kg z len).toArray=#[]:=by
        have:kg z len=[]:=List.eq_nil_of_length_eq_zero (by omega)
        rw [this]
       rw [MB] at g1
       have MC:(Array.range (len*k)).map (fun i=>(#[]:Array Value)[i%(#[]:Array Value).size]!)=#[]:=by rw [h0];apply Array.ext<;>simp
       rw [if_pos h0]
       simp only [Sem.run_bind,Sem.run_pure,Result.andThen_ok,MC,pq,g1,b9]
      ·rw [if_neg h0]
       simp only [Sem.run_bind,Sem.run_pure,Result.andThen_ok,hzero,hz,yo,pq,g1,b9]
     refine aY.pure (v:=.slice (some ⟨w.heap.size,0,none⟩) len len) (w':=w.alloc (.cells bW e)) ?_ ?_
     ·simp only [execOp,Sem.run_bind]
      have:(parts.map fun (i,x)=>(i,ρ x))=parts.map fun (p:Nat×Operand)=>(p.1,ρ p.2):=rfl
      rw [this,fk];rfl
     ·obtain ⟨G,hG,qV⟩:=dd.to
      have R1:bK D w0 K0 M' β F' I (([(w.heap.size,.cells bW e (0,0))]++H)++[]) (w.alloc (.cells bW e)):=by
       refine R'.move ?_
       have:=R'.st.new (Gr.alloc w (.cells bW e)) (du.alloc w (.cells bW e))
       exact this.perm (by classical rw [List.perm_iff_count];intro z;simp only [List.count_append,List.count_nil];omega)
      have wE:M'.length=M.length:=lM
      have hq:(β++[((some ⟨w.heap.size,0,none⟩:Option Addr),len)])[M'.length]?=some (some ⟨w.heap.size,0,none⟩,len):=by rw [← R'.len];simp
      have BV:∀ (i:Nat) r,(chunk k len xs)[i]?=some r→i<len∧r=(xs.drop (i*k)).take k:=by
       intro i r hi
       have aO:i<len:=by have:=(List.getElem?_eq_some_iff.1 hi).1;rwa [rI] at this
       rw [Ac k len xs i aO,Option.some.injEq] at hi
       exact ⟨aO,hi.symm⟩
      have hb:=bF.rw (K:=fun w=>K0 w∧Holds w I) (u:=M'.length) (T:=e) (k:=k) (rows:=chunk k len xs) (H0:=[(w.heap.size,.cells bW e (0,0))]) hq (fun i=>(bW.toList.drop (i*k)).take k) (fun i j=>G (i*k+j)) (fun i r hi=>by
       obtain ⟨aO,rfl⟩:=BV i r hi
       have:=Nat.mul_le_mul_right k (show i+1≤len from aO);rw [Nat.succ_mul] at this
       constructor<;>simp<;>omega) (by
        rw [rI,Fk k len _ cF]
        exact ⟨cF,Or.inr ⟨w.heap.size,len,bW,(0,0),rfl,rfl,kl _,by simpa using cF,Nat.le_refl _,List.take_of_length_le (by omega)⟩⟩) (fun i r j c x hi h1 h2=>by
       obtain ⟨aO,rfl⟩:=BV i r hi
       rw [List.getElem?_take] at h1 h2
       split at h1
       ·rename_i hj
        rw [if_pos hj] at h2
        rw [List.getElem?_drop] at h1 h2
        exact qV _ c x h1 h2
       ·simp at h1)
      rw [rI,Fj,← C6,← hG] at hb
      have R2:=(R1.take hb).nil rfl
      rw [wE] at R2 hq
      refine ⟨_,_,I,R2,(Ext.app _ _).b _,bS.refl _,fun u hu hn=>?_,.sl hq⟩
      rw [show aN F' M.length _ u=F' u by simp [aN];omega]
      exact hF u hn
    ·simp at h
   ·simp at h
 ·simp at h
end Go.Proofs.YtcnpikbbmbombaaGreatDoor
