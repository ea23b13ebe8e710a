/-
  specJudges_holds, part 6 of 6: merged by program from the texts that it needs.
-/
import Derived.Test.YtilhbhpldkjkaaaGreatJuE
set_option linter.unusedSimpArgs false
set_option linter.unusedVariables false
set_option linter.unnecessarySimpa false
namespace Go.Proofs.YtilhbhpldkjkaaaGreat
open Go.RowKit
structure RfS where
 on : Bool
 begun : Bool
 view : View
 stop : Int
 sent : Nat
 frm : Nat
def View.zero : View := ⟨⟨0, ⟨0, 0⟩⟩, [], []⟩
def RfS.zero : RfS := ⟨false, false, View.zero, 0, 0, 0⟩
def RfS.step (s : RfS) (i : Nat) (e : Ev) : RfS :=
 if e.kind = 6 then ⟨true, true, View.first e.who, 0, 0, i⟩
 else if e.kind = 7 then { s with on := false }
 else if e.kind = 1 then { s with sent := s.sent + 1 }
 else if e.kind = 3 then { s with stop := s.stop + 1 }
 else if e.kind = 4 then { s with stop := s.stop + 1 }
 else if e.kind = 5 then { s with view := e.view, stop := 0, sent := 0, frm := i }
 else s
def rof (l : List Ev) (p : Proc) : Nat → RfS
 | 0 => .zero
 | i + 1 => match l[i]? with
  | some e => if e.who = p then (rof l p i).step i e else rof l p i
  | none => rof l p i
def hitD (p m : Proc) (e : Ev) : Bool := decide (e.kind = 2) && (decide (e.who = p) && decide (e.frm = m))
def handC (l : List Ev) (a b : Nat) (p m : Proc) : Nat := ((l.take b).drop a).countP (hitD p m)
def hitS (l : List Ev) (id : Vid) (p : Proc) (n j : Nat) : Bool := match l[j]? with
 | some e => decide (e.who = p) && (decide (e.kind = 1) && ((rof l p j).begun && (decide ((rof l p j).view.id = id) && decide (e.n = n))))
 | none => false
def sentR (l : List Ev) (k : Nat) (id : Vid) (p : Proc) (n : Nat) : Option (List UInt8) := ((List.range k).find? (hitS l id p n)).bind fun j => l[j]?.map (·.body)
def begErr (l : List Ev) (p : Proc) : Int :=
 if p.may = false then 230 else if l.any (fun e => decide (e.kind = 6) && (decide (e.who.node = p.node) && (decide (p.inc ≤ e.who.inc) || (rof l e.who l.length).on))) = true then 230 else 0
def sameBad (l : List Ev) (s : RfS) (x : Ev) (j : Nat) : Bool := match l[j]? with
 | some e => decide (e.kind = 5) && (decide (e.view.id = x.view.id) && (decide ((rof l e.who j).view.id = s.view.id) && (s.view.members ++ (rof l e.who j).view.members).any fun m => decide (handC l s.frm l.length x.who m ≠ handC l (rof l e.who j).frm j e.who m)))
 | none => false
def alongBad (l : List Ev) (s : RfS) (x : Ev) (j : Nat) : Bool := match l[j]? with
 | some e => decide (e.kind = 5) && (decide (e.view.id = x.view.id) && ((decide (e.who ∈ s.view.members) && (decide (e.who ∈ x.transit) != decide ((rof l e.who j).view.id = s.view.id))) || (decide (x.who ∈ (rof l e.who j).view.members) && (decide (x.who ∈ e.transit) != decide ((rof l e.who j).view.id = s.view.id)))))
 | none => false
def keptR (a b : List Proc) (c : Bool) : List Proc := srt (a.filter fun p => decide (p ∈ b) == c)
def alongErr (l : List Ev) (s : RfS) (x : Ev) : Int :=
 if (!(isSet x.transit) || (!(decide (x.who ∈ x.transit)) || decide (0 < (keptR x.transit (keptR s.view.members x.view.members true) false).length))) = true then 237
 else if (List.range l.length).any (alongBad l s x) = true then 237 else 0
def movesErr (l : List Ev) (s : RfS) (x : Ev) : Int :=
 if s.stop ≠ 2 then 231
 else if (!(x.view.may) || (decide (x.view.id.round = 0) || (!(decide (x.who ∈ x.view.members)) || decide (x.view.id.cmp s.view.id ≤ 0)))) = true then 234
 else if l.any (fun e => decide (e.kind = 5) && (decide (e.view.id = x.view.id) && !(decide (e.view = x.view)))) = true then 234
 else if handC l s.frm l.length x.who x.who ≠ s.sent then 235
 else if (List.range l.length).any (sameBad l s x) = true then 236
 else alongErr l s x
def refErr (l : List Ev) (x : Ev) : Int :=
 if x.kind = 6 then begErr l x.who
 else if (rof l x.who l.length).on = false then 230
 else if x.kind = 1 then (if (rof l x.who l.length).stop = 2 then 231 else if x.n ≠ (rof l x.who l.length).sent + 1 then 232 else 0)
 else if x.kind = 2 then
  (if x.frm ∉ (rof l x.who l.length).view.members then 233
  else if x.n ≠ handC l (rof l x.who l.length).frm l.length x.who x.frm + 1 then 232
  else if sentR l l.length (rof l x.who l.length).view.id x.frm x.n = some x.body then 0 else 233)
 else if x.kind = 3 then (if (rof l x.who l.length).stop ≠ 0 then 231 else 0)
 else if x.kind = 4 then (if (rof l x.who l.length).stop ≠ 1 then 231 else 0)
 else if x.kind = 5 then movesErr l (rof l x.who l.length) x
 else if x.kind = 7 then 0 else 230
section
variable {l : List Ev} {i : Nat} {e : Ev} {p m : Proc}
theorem rof_other (h : l[i]? = some e) (hp : e.who ≠ p) : rof l p (i + 1) = rof l p i := by rw [rof, h]; dsimp only; rw [if_neg hp]
theorem rof_who (h : l[i]? = some e) (hp : e.who = p) : rof l p (i + 1) = (rof l p i).step i e := by rw [rof, h]; dsimp only; rw [if_pos hp]
theorem handC_self (l : List Ev) (a : Nat) (p m : Proc) : handC l a a p m = 0 := by
 unfold handC
 rw [List.drop_eq_nil_of_le (by rw [List.length_take]; omega)]; rfl
theorem handC_succ {a : Nat} (h : l[i]? = some e) (ha : a ≤ i) : handC l a (i + 1) p m = handC l a i p m + (if hitD p m e = true then 1 else 0) := by
 obtain ⟨hi, rfl⟩ := List.getElem?_eq_some_iff.1 h
 unfold handC
 rw [List.take_succ_eq_append_getElem hi, List.drop_append_of_le_length (by rw [List.length_take]; omega), List.countP_append, List.countP_cons]
 simp
theorem handC_no {a : Nat} (h : l[i]? = some e) (ha : a ≤ i) (hn : hitD p m e = false) : handC l a (i + 1) p m = handC l a i p m := by
 rw [handC_succ h ha, hn]; simp
theorem hitD_kind (h : e.kind ≠ 2) : hitD p m e = false := by unfold hitD; rw [decide_eq_false h]; rfl
theorem hitD_who (h : e.who ≠ p) : hitD p m e = false := by unfold hitD; rw [decide_eq_false h]; simp
theorem handC_le (l : List Ev) (a b : Nat) (p m : Proc) : handC l a b p m ≤ l.length := by
 unfold handC
 refine Nat.le_trans List.countP_le_length ?_
 rw [List.length_drop, List.length_take]; omega
theorem sentR_succ (h : l[i]? = some e) (id : Vid) (p : Proc) (n : Nat) : sentR l (i + 1) id p n = (sentR l i id p n).or (if hitS l id p n i = true then some e.body else none) := by
 unfold sentR
 rw [List.range_succ, List.find?_append]
 cases hf : (List.range i).find? (hitS l id p n) with
 | some j =>
  have hj := List.mem_range.1 (List.mem_of_find?_eq_some hf)
  have hl : i < l.length := (List.getElem?_eq_some_iff.1 h).1
  rw [Option.some_or, Option.bind_some, List.getElem?_eq_getElem (by omega)]; simp
 | none =>
  rw [Option.none_or, Option.bind_none, Option.none_or, List.find?_cons]
  cases hitS l id p n i with
  | true => rw [if_pos rfl]; simp [h]
  | false => rw [if_neg (by decide)]; simp
theorem hitS_kind (h : l[i]? = some e) (hk : e.kind ≠ 1) (id : Vid) (p : Proc) (n : Nat) : hitS l id p n i = false := by unfold hitS; rw [h]; dsimp only; rw [decide_eq_false hk]; simp
theorem sentR_no {id : Vid} {n : Nat} (h : l[i]? = some e) (hs : hitS l id p n i = false) : sentR l (i + 1) id p n = sentR l i id p n := by
 rw [sentR_succ h, hs, if_neg (by decide), Option.or_none]
theorem rof_take {k : Nat} : ∀ {i : Nat}, i ≤ k → rof (l.take k) p i = rof l p i
 | 0, _ => rfl
 | i + 1, h => by
  have e1 : (l.take k)[i]? = l[i]? := by rw [List.getElem?_take, if_pos (by omega)]
  rw [rof, rof, e1, rof_take (show i ≤ k by omega)]
theorem handC_take {a b k : Nat} (h : b ≤ k) : handC (l.take k) a b p m = handC l a b p m := by
 unfold handC; rw [List.take_take, Nat.min_eq_left h]
end
def comerAt (l : List Ev) (id : Vid) (j : Nat) : Option Comer := match l[j]? with
 | some e => if e.kind = 5 ∧ e.view.id = id then some ⟨e.who, (rof l e.who j).view, e.transit⟩ else none
 | none => none
def comersR (l : List Ev) (i : Nat) (id : Vid) : List Comer := (List.range i).filterMap (comerAt l id)
theorem comersR_succ (l : List Ev) (i : Nat) (id : Vid) : comersR l (i + 1) id = comersR l i id ++ (comerAt l id i).toList := by
 unfold comersR; rw [List.range_succ, List.filterMap_append, List.filterMap_cons]
 cases comerAt l id i <;> rfl
theorem comerAt_no {l : List Ev} {i : Nat} {e : Ev} (h : l[i]? = some e) (hk : e.kind ≠ 5) (id : Vid) : comerAt l id i = none := by unfold comerAt; rw [h]; dsimp only; rw [if_neg (fun g => hk g.1)]
def goneVec (l : List Ev) (j : Nat) (e : Ev) : List Nat := (rof l e.who j).view.members.map (handC l (rof l e.who j).frm j e.who)
structure LifeI (l : List Ev) (i : Nat) (L : Lives) : Prop where
 life : ∀ p f, getK L p = some f → ∃ fr, rof l p i = ⟨f.on, true, f.view, f.stands, f.sent, fr⟩ ∧ fr ≤ i ∧ f.handed = f.view.members.map (handC l fr i p)
 none : ∀ p, getK L p = none → (rof l p i).on = false ∧ ((rof l p i).begun = true → ∃ q f, getK L q = some f ∧ q.node = p.node ∧ p.inc < q.inc)
 beg : ∀ p, (rof l p i).begun = true ↔ ∃ j e, j < i ∧ l[j]? = some e ∧ e.kind = 6 ∧ e.who = p
structure SentI (l : List Ev) (i : Nat) (L : Lives) (A : Sent) : Prop where
 eq : ∀ id p n, getK A (id, p, n) = sentR l i id p n
 beg : ∀ id p n, (sentR l i id p n).isSome = true → (rof l p i).begun = true
 low : ∀ id p n f, getK L p = some f → (sentR l i id p n).isSome = true → id.cmp f.view.id < 0 ∨ (id = f.view.id ∧ n ≤ f.sent)
structure CameI (l : List Ev) (i : Nat) (C : Camed) : Prop where
 yes : ∀ id c, getK C id = some c → c.came = comersR l i id ∧ ∃ j e, j < i ∧ l[j]? = some e ∧ e.kind = 5 ∧ e.view = c.view ∧ e.view.id = id
 has : ∀ j e, j < i → l[j]? = some e → e.kind = 5 → ∃ c, getK C e.view.id = some c ∧ c.view = e.view
def ViewI (C : Camed) (p : Proc) (v : View) : Prop := (v.id.round = 0 → v = View.first p) ∧ (v.id.round ≠ 0 → ∃ c, getK C v.id = some c ∧ c.view = v)
structure GoneI (l : List Ev) (i : Nat) (G : Goned) : Prop where
 has : ∀ j e, j < i → l[j]? = some e → e.kind = 5 → getK G ((rof l e.who j).view.id, e.view.id) = some (goneVec l j e)
 yes : ∀ a b h, getK G (a, b) = some h → ∃ j e, j < i ∧ l[j]? = some e ∧ e.kind = 5 ∧ e.view.id = b ∧ (rof l e.who j).view.id = a
structure InvR (l : List Ev) (i : Nat) (s : JS) : Prop where
 lives : LifeI l i s.L
 sent : SentI l i s.L s.A
 came : CameI l i s.C
 gone : GoneI l i s.G
 vw : ∀ p f, getK s.L p = some f → ViewI s.C p f.view
 vj : ∀ j e, j < i → l[j]? = some e → e.kind = 5 → ViewI s.C e.who (rof l e.who j).view
theorem ViewI.mono {C C' : Camed} {p : Proc} {v : View} (h : ViewI C p v) (hC : ∀ id c, getK C id = some c → ∃ c', getK C' id = some c' ∧ c'.view = c.view) : ViewI C' p v := ⟨h.1, fun hr => by
 obtain ⟨c, h1, h2⟩ := h.2 hr
 obtain ⟨c', h3, h4⟩ := hC _ _ h1
 exact ⟨c', h3, h4.trans h2⟩⟩
theorem ViewI.eq {C : Camed} {p q : Proc} {v w : View} (h : ViewI C p v) (k : ViewI C q w) (e : v.id = w.id) : v = w := by
 by_cases h0 : v.id.round = 0
 ·have h1 := h.1 h0
  have h2 := k.1 (by rw [← e]; exact h0)
  rw [h1, h2] at e
  have : p = q := by have := congrArg Vid.server e; exact this
  rw [h1, h2, this]
 ·obtain ⟨c, c1, c2⟩ := h.2 h0
  obtain ⟨d, d1, d2⟩ := k.2 (by rw [← e]; exact h0)
  rw [e, d1] at c1; cases c1
  rw [← c2, ← d2]
theorem cmpI3 (x y : Int) : (cmpI x y = -1 ∧ x < y) ∨ (cmpI x y = 0 ∧ x = y) ∨ (cmpI x y = 1 ∧ y < x) := by
 unfold cmpI
 rcases Int.lt_trichotomy x y with h | h | h
 ·exact .inl ⟨if_pos h, h⟩
 ·exact .inr (.inl ⟨by rw [if_neg (by omega), if_neg (by omega)], h⟩)
 ·exact .inr (.inr ⟨by rw [if_neg (by omega), if_pos h], h⟩)
def Vid.before (a b : Vid) : Prop := a.round < b.round ∨ (a.round = b.round ∧ (a.server.node < b.server.node ∨ (a.server.node = b.server.node ∧ a.server.inc < b.server.inc)))
theorem vcmp_cases (a b : Vid) : (a.cmp b < 0 ∧ a.before b) ∨ (a.cmp b = 0 ∧ a = b) ∨ (0 < a.cmp b ∧ b.before a) := by
 unfold Vid.cmp Proc.cmp Vid.before
 rcases cmpI3 a.round b.round with ⟨h, k⟩ | ⟨h, k⟩ | ⟨h, k⟩
 ·rw [h, if_pos (by decide)]; exact .inl ⟨by decide, .inl (by omega)⟩
 ·rw [h, if_neg (by decide)]
  rcases cmpI3 a.server.node b.server.node with ⟨h2, k2⟩ | ⟨h2, k2⟩ | ⟨h2, k2⟩
  ·rw [h2, if_pos (by decide)]; exact .inl ⟨by decide, .inr ⟨by omega, .inl k2⟩⟩
  ·rw [h2, if_neg (by decide)]
   rcases cmpI3 a.server.inc b.server.inc with ⟨h3, k3⟩ | ⟨h3, k3⟩ | ⟨h3, k3⟩
   ·rw [h3]; exact .inl ⟨by decide, .inr ⟨by omega, .inr ⟨k2, by omega⟩⟩⟩
   ·rw [h3]; exact .inr (.inl ⟨rfl, Vid.ext' k k2 k3⟩)
   ·rw [h3]; exact .inr (.inr ⟨by decide, .inr ⟨by omega, .inr ⟨k2.symm, by omega⟩⟩⟩)
  ·rw [h2, if_pos (by decide)]; exact .inr (.inr ⟨by decide, .inr ⟨by omega, .inl k2⟩⟩)
 ·rw [h, if_pos (by decide)]; exact .inr (.inr ⟨by decide, .inl (by omega)⟩)
theorem before_trans {a b c : Vid} (h : a.before b) (k : b.before c) : a.before c := by unfold Vid.before at *; omega
theorem before_irrefl {a b : Vid} (h : a.before b) (k : b.before a) : False := by unfold Vid.before at *; omega
theorem cmp_before {a b : Vid} (h : a.before b) : a.cmp b < 0 := by
 rcases vcmp_cases a b with ⟨g, -⟩ | ⟨-, rfl⟩ | ⟨-, g⟩
 ·exact g
 ·exact absurd h (fun h => before_irrefl h h)
 ·exact absurd h (fun h => before_irrefl h g)
theorem cmp_lt_trans {a b c : Vid} (h : a.cmp b < 0 ∨ a = b) (k : 0 < c.cmp b) : a.cmp c < 0 := by
 have kb : b.before c := by
  rcases vcmp_cases c b with ⟨g, -⟩ | ⟨g, -⟩ | ⟨-, g⟩
  ·omega
  ·omega
  ·exact g
 rcases h with h | rfl
 ·refine cmp_before (before_trans ?_ kb)
  rcases vcmp_cases a b with ⟨-, g⟩ | ⟨g, -⟩ | ⟨g, -⟩
  ·exact g
  ·omega
  ·omega
 ·exact cmp_before kb
section
variable {l : List Ev} {i : Nat} {e : Ev} {s : JS}
theorem rof_begun {p : Proc} (h : l[i]? = some e) (h6 : e.kind ≠ 6) : (rof l p (i + 1)).begun = (rof l p i).begun := by
 by_cases hp : e.who = p
 ·rw [rof_who h hp]; unfold RfS.step; rw [if_neg h6]; (repeat' split) <;> rfl
 ·rw [rof_other h hp]
theorem beg_succ {p : Proc} (h : l[i]? = some e) (h6 : e.kind ≠ 6) (hb : (rof l p i).begun = true ↔ ∃ j e, j < i ∧ l[j]? = some e ∧ e.kind = 6 ∧ e.who = p) : (rof l p (i + 1)).begun = true ↔ ∃ j e, j < i + 1 ∧ l[j]? = some e ∧ e.kind = 6 ∧ e.who = p := by
 rw [rof_begun h h6, hb]
 constructor
 ·rintro ⟨j, x, h1, h2⟩; exact ⟨j, x, by omega, h2⟩
 ·rintro ⟨j, x, h1, h2, h3, h4⟩
  rcases Nat.lt_succ_iff_lt_or_eq.1 h1 with g | rfl
  ·exact ⟨j, x, g, h2, h3, h4⟩
  ·rw [h] at h2; cases h2; exact absurd h3 h6
theorem LifeI.set {L : Lives} (I : LifeI l i L) (h : l[i]? = some e) (h6 : e.kind ≠ 6) {f f' : Life} (hf : getK L e.who = some f) {fr : Nat} (h1 : rof l e.who (i + 1) = ⟨f'.on, true, f'.view, f'.stands, f'.sent, fr⟩) (h2 : fr ≤ i + 1) (h3 : f'.handed = f'.view.members.map (handC l fr (i + 1) e.who)) : LifeI l (i + 1) (setK L e.who f') where
 life := fun p g hg => by
  rw [getK_setK] at hg
  by_cases hp : p = e.who
  ·subst hp; rw [if_pos rfl, hf, Option.map_some, Option.some.injEq] at hg; subst hg
   exact ⟨fr, h1, h2, h3⟩
  ·rw [if_neg hp] at hg
   obtain ⟨fr', g1, g2, g3⟩ := I.life p g hg
   refine ⟨fr', by rw [rof_other h (fun e => hp e.symm)]; exact g1, by omega, ?_⟩
   rw [g3]; exact List.map_congr_left fun m _ => (handC_no h g2 (hitD_who fun e => hp e.symm)).symm
 none := fun p hp => by
  rw [getK_setK] at hp
  by_cases hq : p = e.who
  ·subst hq; rw [if_pos rfl, hf] at hp; cases hp
  ·rw [if_neg hq] at hp
   obtain ⟨g1, g2⟩ := I.none p hp
   rw [rof_other h (fun e => hq e.symm)]
   refine ⟨g1, fun hb => ?_⟩
   obtain ⟨q, g, k1, k2⟩ := g2 hb
   by_cases hqq : q = e.who
   ·subst hqq; exact ⟨_, f', by rw [getK_setK, if_pos rfl, hf]; rfl, k2⟩
   ·exact ⟨q, g, by rw [getK_setK, if_neg hqq]; exact k1, k2⟩
 beg := fun p => beg_succ h h6 (I.beg p)
theorem setK_look {L : Lives} {q : Proc} {f f' : Life} (hf : getK L q = some f) {p : Proc} {g : Life} (h : getK (setK L q f') p = some g) : (p = q ∧ g = f') ∨ (p ≠ q ∧ getK L p = some g) := by
 rw [getK_setK] at h
 by_cases hp : p = q
 ·rw [if_pos hp, hf, Option.map_some, Option.some.injEq] at h; exact .inl ⟨hp, h.symm⟩
 ·rw [if_neg hp] at h; exact .inr ⟨hp, h⟩
theorem SentI.set {L : Lives} {A : Sent} (I : SentI l i L A) (h : l[i]? = some e) (h1 : e.kind ≠ 1) (h6 : e.kind ≠ 6) {f f' : Life} (hf : getK L e.who = some f) (hv : (f'.view.id = f.view.id ∧ f'.sent = f.sent) ∨ 0 < f'.view.id.cmp f.view.id) : SentI l (i + 1) (setK L e.who f') A where
 eq := fun id p n => by rw [sentR_no h (hitS_kind h h1 id p n)]; exact I.eq id p n
 beg := fun id p n hs => by rw [sentR_no h (hitS_kind h h1 id p n)] at hs; rw [rof_begun h h6]; exact I.beg id p n hs
 low := fun id p n g hg hs => by
  rw [sentR_no h (hitS_kind h h1 id p n)] at hs
  rcases setK_look hf hg with ⟨rfl, rfl⟩ | ⟨-, hg⟩
  ·have := I.low id _ n f hf hs
   rcases hv with ⟨v1, v2⟩ | hv
   ·rw [v1, v2]; exact this
   ·exact .inl (cmp_lt_trans (this.imp (fun x => x) (fun x => x.1)) hv)
  ·exact I.low id p n g hg hs
theorem CameI.same {C : Camed} (I : CameI l i C) (h : l[i]? = some e) (h5 : e.kind ≠ 5) : CameI l (i + 1) C where
 yes := fun id c hc => by
  obtain ⟨g1, j, x, g2, g3⟩ := I.yes id c hc
  exact ⟨by rw [comersR_succ, comerAt_no h h5]; simpa using g1, j, x, by omega, g3⟩
 has := fun j x hj hx h5' => by
  rcases Nat.lt_succ_iff_lt_or_eq.1 hj with g | rfl
  ·exact I.has j x g hx h5'
  ·rw [h] at hx; cases hx; exact absurd h5' h5
theorem GoneI.same {G : Goned} (I : GoneI l i G) (h : l[i]? = some e) (h5 : e.kind ≠ 5) : GoneI l (i + 1) G where
 yes := fun a b k hk => by
  obtain ⟨j, x, g2, g3⟩ := I.yes a b k hk
  exact ⟨j, x, by omega, g3⟩
 has := fun j x hj hx h5' => by
  rcases Nat.lt_succ_iff_lt_or_eq.1 hj with g | rfl
  ·exact I.has j x g hx h5'
  ·rw [h] at hx; cases hx; exact absurd h5' h5
theorem InvR.vj_same (I : InvR l i s) (h : l[i]? = some e) (h5 : e.kind ≠ 5) : ∀ j x, j < i + 1 → l[j]? = some x → x.kind = 5 → ViewI s.C x.who (rof l x.who j).view := fun j x hj hx h5' => by
 rcases Nat.lt_succ_iff_lt_or_eq.1 hj with g | rfl
 ·exact I.vj j x g hx h5'
 ·rw [h] at hx; cases hx; exact absurd h5' h5
theorem InvR.plain (I : InvR l i s) (h : l[i]? = some e) (h1 : e.kind ≠ 1) (h5 : e.kind ≠ 5) (h6 : e.kind ≠ 6) {f f' : Life} (hf : getK s.L e.who = some f) {fr : Nat} (g1 : rof l e.who (i + 1) = ⟨f'.on, true, f'.view, f'.stands, f'.sent, fr⟩) (g2 : fr ≤ i + 1) (g3 : f'.handed = f'.view.members.map (handC l fr (i + 1) e.who)) (hv : f'.view = f.view) (hs : f'.sent = f.sent) : InvR l (i + 1) { s with L := setK s.L e.who f' } where
 lives := I.lives.set h h6 hf g1 g2 g3
 sent := I.sent.set h h1 h6 hf (.inl ⟨by rw [hv], hs⟩)
 came := I.came.same h h5
 gone := I.gone.same h h5
 vw := fun p g hg => by
  rcases setK_look hf hg with ⟨rfl, rfl⟩ | ⟨-, hg⟩
  ·rw [hv]; exact I.vw _ _ hf
  ·exact I.vw p g hg
 vj := I.vj_same h h5
theorem InvR.begin (I : InvR l i s) (h : l[i]? = some e) (h6 : e.kind = 6) (h0 : (nextJ s e).1 = 0) : InvR l (i + 1) (nextJ s e).2 := by
 rw [nextJ6 h6] at h0 ⊢
 obtain ⟨hm, he, hb⟩ := begin_zero (L := s.L) (nl := s.nl) (p := e.who) h0
 rw [hb]; dsimp only
 have hlook : ∀ q, getK (others s.L e.who ++ [(s.nl, e.who, Life.new e.who)]) q = if q = e.who then some (Life.new e.who) else if q.node = e.who.node then none else getK s.L q := fun q => by
  rw [getK_app, getK_others, getK_cons]
  by_cases hq : q = e.who
  ·subst hq; rw [if_pos rfl, if_pos rfl, if_pos rfl]; rfl
  ·rw [if_neg hq, if_neg (show ¬ (s.nl, e.who, Life.new e.who).2.1 = q from fun g => hq g.symm)]
   by_cases hn : q.node = e.who.node
   ·rw [if_pos hn]; rfl
   ·rw [if_neg hn]; cases getK s.L q <;> rfl
 have hself : rof l e.who (i + 1) = ⟨true, true, View.first e.who, 0, 0, i⟩ := by rw [rof_who h rfl]; unfold RfS.step; rw [if_pos h6]
 have hnb : (rof l e.who i).begun = false := by
  cases hc : (rof l e.who i).begun with
  | false => rfl
  | true =>
   cases hg : getK s.L e.who with
   | some f => have := (ends_off he hg rfl).2; omega
   | none =>
    obtain ⟨q, f, k1, k2, k3⟩ := (I.lives.none _ hg).2 hc
    have := (ends_off he k1 k2).2; omega
 have hns : ∀ id n, sentR l i id e.who n = none := fun id n => by
  cases hc : sentR l i id e.who n with
  | none => rfl
  | some b => have := I.sent.beg id e.who n (by rw [hc]; rfl); rw [hnb] at this; cases this
 have hk1 : e.kind ≠ 1 := by omega
 have hk5 : e.kind ≠ 5 := by omega
 refine ⟨⟨fun p f hf => ?_, fun p hp => ?_, fun p => ?_⟩, ⟨fun id p n => ?_, fun id p n hs => ?_, fun id p n f hf hs => ?_⟩, I.came.same h hk5, I.gone.same h hk5, fun p f hf => ?_, I.vj_same h hk5⟩
 ·dsimp only at hf; rw [hlook] at hf
  by_cases hp : p = e.who
  ·subst hp; rw [if_pos rfl, Option.some.injEq] at hf; subst hf
   refine ⟨i, hself, by omega, ?_⟩
   show [0] = [e.who].map _
   rw [List.map_singleton, handC_no h (Nat.le_refl i) (hitD_kind (by omega)), handC_self]
  ·rw [if_neg hp] at hf
   split at hf
   ·cases hf
   ·obtain ⟨fr, g1, g2, g3⟩ := I.lives.life p f hf
    refine ⟨fr, by rw [rof_other h (fun g => hp g.symm)]; exact g1, by omega, ?_⟩
    rw [g3]; exact List.map_congr_left fun m _ => (handC_no h g2 (hitD_kind (by omega))).symm
 ·dsimp only at hp; rw [hlook] at hp
  by_cases hq : p = e.who
  ·rw [if_pos hq] at hp; cases hp
  ·rw [if_neg hq] at hp
   rw [rof_other h (fun g => hq g.symm)]
   by_cases hn : p.node = e.who.node
   ·rw [if_pos hn] at hp
    cases hg : getK s.L p with
    | some f =>
     obtain ⟨o1, o2⟩ := ends_off he hg hn
     obtain ⟨fr, g1, -⟩ := I.lives.life p f hg
     refine ⟨by rw [g1]; exact o1, fun _ => ⟨e.who, Life.new e.who, by dsimp only; rw [hlook, if_pos rfl], hn.symm, o2⟩⟩
    | none =>
     obtain ⟨g1, g2⟩ := I.lives.none p hg
     refine ⟨g1, fun hb => ⟨e.who, Life.new e.who, by dsimp only; rw [hlook, if_pos rfl], hn.symm, ?_⟩⟩
     obtain ⟨q, f, k1, k2, k3⟩ := g2 hb
     have := (ends_off he k1 (k2.trans hn)).2; omega
   ·rw [if_neg hn] at hp
    obtain ⟨g1, g2⟩ := I.lives.none p hp
    refine ⟨g1, fun hb => ?_⟩
    obtain ⟨q, f, k1, k2, k3⟩ := g2 hb
    refine ⟨q, f, ?_, k2, k3⟩
    dsimp only; rw [hlook, if_neg (fun g => hn (by rw [← k2, g])), if_neg (fun g => hn (k2.symm.trans g))]; exact k1
 ·by_cases hp : e.who = p
  ·subst hp; rw [hself]; exact ⟨fun _ => ⟨i, e, by omega, h, h6, rfl⟩, fun _ => rfl⟩
  ·rw [rof_other h hp, I.lives.beg p]
   constructor
   ·rintro ⟨j, x, k1, k2⟩; exact ⟨j, x, by omega, k2⟩
   ·rintro ⟨j, x, k1, k2, k3, k4⟩
    rcases Nat.lt_succ_iff_lt_or_eq.1 k1 with g | rfl
    ·exact ⟨j, x, g, k2, k3, k4⟩
    ·rw [h] at k2; cases k2; exact absurd k4 hp
 ·rw [sentR_no h (hitS_kind h hk1 id p n)]; exact I.sent.eq id p n
 ·rw [sentR_no h (hitS_kind h hk1 id p n)] at hs
  by_cases hp : e.who = p
  ·subst hp; rw [hns] at hs; cases hs
  ·rw [rof_other h hp]; exact I.sent.beg id p n hs
 ·rw [sentR_no h (hitS_kind h hk1 id p n)] at hs
  dsimp only at hf; rw [hlook] at hf
  by_cases hp : p = e.who
  ·subst hp; rw [hns] at hs; cases hs
  ·rw [if_neg hp] at hf
   split at hf
   ·cases hf
   ·exact I.sent.low id p n f hf hs
 ·dsimp only at hf; rw [hlook] at hf
  by_cases hp : p = e.who
  ·subst hp; rw [if_pos rfl, Option.some.injEq] at hf; subst hf
   exact ⟨fun _ => rfl, fun hr => absurd rfl hr⟩
  ·rw [if_neg hp] at hf
   split at hf
   ·cases hf
   ·exact I.vw p f hf
theorem InvR.look (I : InvR l i s) {p : Proc} {f : Life} (hf : getK s.L p = some f) : ∃ fr, rof l p i = ⟨f.on, true, f.view, f.stands, f.sent, fr⟩ ∧ fr ≤ i ∧ f.handed = f.view.members.map (handC l fr i p) := I.lives.life p f hf
theorem InvR.turn (I : InvR l i s) (h : l[i]? = some e) {f : Life} (hf : getK s.L e.who = some f) {a b : Int} (hk : (e.kind = 3 ∧ b = f.stands + 1) ∨ (e.kind = 4 ∧ b = f.stands + 1)) : InvR l (i + 1) { s with L := setK s.L e.who { f with stands := b } } := by
 obtain ⟨fr, g1, g2, g3⟩ := I.look hf
 refine I.plain (f' := { f with stands := b }) h (by omega) (by omega) (by omega) hf (fr := fr) ?_ (by omega) ?_ rfl rfl
 ·rw [rof_who h rfl, g1]; unfold RfS.step
  rcases hk with ⟨hk, hb⟩ | ⟨hk, hb⟩
  ·rw [if_neg (by omega), if_neg (by omega), if_neg (by omega), if_pos hk, hb]
  ·rw [if_neg (by omega), if_neg (by omega), if_neg (by omega), if_neg (by omega), if_pos hk, hb]
 ·show f.handed = _
  rw [g3]; exact List.map_congr_left fun m _ => (handC_no h g2 (hitD_kind (by omega))).symm
theorem InvR.ends (I : InvR l i s) (h : l[i]? = some e) {f : Life} (hf : getK s.L e.who = some f) (hk : e.kind = 7) : InvR l (i + 1) { s with L := setK s.L e.who { f with on := false } } := by
 obtain ⟨fr, g1, g2, g3⟩ := I.look hf
 refine I.plain (f' := { f with on := false }) h (by omega) (by omega) (by omega) hf (fr := fr) ?_ (by omega) ?_ rfl rfl
 ·rw [rof_who h rfl, g1]; unfold RfS.step
  rw [if_neg (by omega), if_pos hk]
 ·show f.handed = _
  rw [g3]; exact List.map_congr_left fun m _ => (handC_no h g2 (hitD_kind (by omega))).symm
theorem map_set {α β : Type} (g g' : α → β) : ∀ {l : List α} {k : Nat} {x : α}, l[k]? = some x → l.Nodup → (∀ m ∈ l, m ≠ x → g' m = g m) → (l.map g).set k (g' x) = l.map g'
 | [], k, x, h, _, _ => by simp at h
 | y :: r, 0, x, h, hn, hg => by
  simp only [List.getElem?_cons_zero, Option.some.injEq] at h; subst h
  rw [List.nodup_cons] at hn
  rw [List.map_cons, List.map_cons, List.set_cons_zero, List.map_congr_left fun m hm => (hg m (List.mem_cons_of_mem _ hm) (fun e => hn.1 (e ▸ hm))).symm]
 | y :: r, k + 1, x, h, hn, hg => by
  rw [List.nodup_cons] at hn
  rw [List.getElem?_cons_succ] at h
  rw [List.map_cons, List.map_cons, List.set_cons_succ, map_set g g' h hn.2 fun m hm => hg m (List.mem_cons_of_mem _ hm)]
  rw [hg y List.mem_cons_self (fun e => hn.1 (e ▸ List.mem_of_getElem? h))]
theorem handedAt_eq {f : Life} {fr : Nat} {p m : Proc} (h : f.handed = f.view.members.map (handC l fr i p)) (hm : placeB f.view.members m = true) : handedAt f m = handC l fr i p m := by
 unfold handedAt
 rw [h, List.getElem?_map, place_at hm]; rfl
theorem InvR.deliver (I : InvR l i s) (h : l[i]? = some e) {f : Life} (hf : getK s.L e.who = some f) (hk : e.kind = 2) (hv : f.view.may = true) (h0 : (deliverJ s.A f e).err = 0) : InvR l (i + 1) { s with L := setK s.L e.who (deliverJ s.A f e).f } := by
 obtain ⟨fr, g1, g2, g3⟩ := I.look hf
 have hd : placeB f.view.members e.frm = true ∧ e.n ≠ 0 ∧ e.n - 1 = handedAt f e.frm ∧ deliverJ s.A f e = ⟨0, { f with handed := f.handed.set (placeN f.view.members e.frm) e.n }⟩ := by
  unfold deliverJ at h0 ⊢
  split at h0
  ·cases h0
  ·rename_i h1
   split at h0
   ·cases h0
   ·rename_i h2
    split at h0
    ·rename_i h3
     rw [if_neg h1, if_neg h2, if_pos h3]
     exact ⟨by simpa using h1, by omega, by omega, rfl⟩
    ·cases h0
 obtain ⟨d1, d2, d3, d4⟩ := hd
 rw [d4]
 rw [handedAt_eq g3 d1] at d3
 refine I.plain (f' := { f with handed := f.handed.set (placeN f.view.members e.frm) e.n }) h (by omega) (by omega) (by omega) hf (fr := fr) ?_ (by omega) ?_ rfl rfl
 ·rw [rof_who h rfl, g1]; unfold RfS.step
  rw [if_neg (by omega), if_neg (by omega), if_neg (by omega), if_neg (by omega), if_neg (by omega), if_neg (by omega)]
 ·show f.handed.set _ e.n = f.view.members.map _
  have hx : e.n = handC l fr (i + 1) e.who e.frm := by
   rw [handC_succ h g2, if_pos (by unfold hitD; simp [hk])]; omega
  rw [g3, hx]
  exact map_set _ _ (place_at d1) (View.may_ss hv).1.nodup fun m _ hm => handC_no h g2 (by unfold hitD; rw [decide_eq_false (show ¬ e.frm = m from fun g => hm g.symm)]; simp)
theorem InvR.send (I : InvR l i s) (h : l[i]? = some e) {f : Life} (hf : getK s.L e.who = some f) (hk : e.kind = 1) (h0 : (sendJ s.A s.ns f e).err = 0) : InvR l (i + 1) { s with A := (sendJ s.A s.ns f e).A, ns := (sendJ s.A s.ns f e).ns, L := setK s.L e.who (sendJ s.A s.ns f e).f } := by
 obtain ⟨fr, g1, g2, g3⟩ := I.look hf
 have hd : e.n ≠ 0 ∧ e.n - 1 = f.sent ∧ sendJ s.A s.ns f e = ⟨0, putK s.A s.ns (f.view.id, e.who, e.n) e.body, putC s.A s.ns (f.view.id, e.who, e.n), { f with sent := e.n }⟩ := by
  unfold sendJ at h0 ⊢
  split at h0
  ·cases h0
  ·rename_i h1
   split at h0
   ·cases h0
   ·rename_i h2
    rw [if_neg h1, if_neg h2]
    exact ⟨by omega, by omega, rfl⟩
 obtain ⟨d1, d2, d3⟩ := hd
 rw [d3]
 have hh : ∀ id p n, hitS l id p n i = true ↔ (id, p, n) = (f.view.id, e.who, e.n) := fun id p n => by
  unfold hitS; rw [h]; dsimp only
  simp only [Bool.and_eq_true, decide_eq_true_eq, Prod.mk.injEq]
  constructor
  ·rintro ⟨rfl, -, -, k1, k2⟩; rw [g1] at k1; exact ⟨k1.symm, rfl, k2.symm⟩
  ·rintro ⟨rfl, rfl, rfl⟩; rw [g1]; exact ⟨rfl, hk, rfl, rfl, rfl⟩
 have hnew : sentR l i f.view.id e.who e.n = none := by
  cases hc : sentR l i f.view.id e.who e.n with
  | none => rfl
  | some b =>
   rcases I.sent.low _ _ _ f hf (by rw [hc]; rfl) with k | ⟨-, k⟩
   ·rcases vcmp_cases f.view.id f.view.id with ⟨-, g⟩ | ⟨g, -⟩ | ⟨-, g⟩
    ·exact (before_irrefl g g).elim
    ·omega
    ·exact (before_irrefl g g).elim
   ·omega
 have hgrow : ∀ id p n, (sentR l (i + 1) id p n).isSome = true → (sentR l i id p n).isSome = true ∨ (id, p, n) = (f.view.id, e.who, e.n) := fun id p n hs => by
  rw [sentR_succ h] at hs
  cases hc : hitS l id p n i with
  | true => exact .inr ((hh id p n).1 hc)
  | false => rw [hc, if_neg (by decide), Option.or_none] at hs; exact .inl hs
 refine ⟨I.lives.set (f' := { f with sent := e.n }) h (by omega) hf (fr := fr) ?_ (by omega) ?_, ⟨fun id p n => ?_, fun id p n hs => ?_, fun id p n g hg hs => ?_⟩, I.came.same h (by omega), I.gone.same h (by omega), fun p g hg => ?_, I.vj_same h (by omega)⟩
 ·rw [rof_who h rfl, g1]; unfold RfS.step
  rw [if_neg (by omega), if_neg (by omega), if_pos hk]; simp; omega
 ·show f.handed = _
  rw [g3]; exact List.map_congr_left fun m _ => (handC_no h g2 (hitD_kind (by omega))).symm
 ·show getK (putK s.A s.ns _ _) _ = _
  rw [getK_putK, sentR_succ h]
  by_cases hq : (id, p, n) = (f.view.id, e.who, e.n)
  ·rw [if_pos hq, if_pos ((hh id p n).2 hq)]
   simp only [Prod.mk.injEq] at hq
   obtain ⟨rfl, rfl, rfl⟩ := hq
   rw [hnew]; rfl
  ·rw [if_neg hq, if_neg (fun k => hq ((hh id p n).1 k)), Option.or_none]; exact I.sent.eq id p n
 ·rw [rof_begun h (by omega)]
  rcases hgrow id p n hs with k | k
  ·exact I.sent.beg id p n k
  ·simp only [Prod.mk.injEq] at k
   rw [k.2.1, g1]
 ·dsimp only at hg
  rcases setK_look hf hg with ⟨rfl, rfl⟩ | ⟨hp, hg⟩
  ·rcases hgrow id _ n hs with k | k
   ·rcases I.sent.low id _ n f hf k with k | ⟨k1, k2⟩
    ·exact .inl k
    ·exact .inr ⟨k1, by show n ≤ e.n; omega⟩
   ·simp only [Prod.mk.injEq] at k; exact .inr ⟨k.1, by show n ≤ e.n; omega⟩
  ·rcases hgrow id p n hs with k | k
   ·exact I.sent.low id p n g hg k
   ·simp only [Prod.mk.injEq] at k; exact absurd k.2.1 hp
 ·dsimp only at hg
  rcases setK_look hf hg with ⟨rfl, rfl⟩ | ⟨-, hg⟩
  ·exact (I.vw _ f hf : ViewI s.C _ f.view)
  ·exact I.vw p g hg
theorem cameL_eq (I : InvR l i s) (id : Vid) : cameL s.C id = comersR l i id := by
 unfold cameL
 cases hc : getK s.C id with
 | some c => exact (I.came.yes id c hc).1
 | none =>
  dsimp only
  unfold comersR
  rw [eq_comm, List.filterMap_eq_nil_iff]
  intro j hj
  have hj := List.mem_range.1 hj
  unfold comerAt
  cases hx : l[j]? with
  | none => rfl
  | some x =>
   dsimp only
   by_cases hk : x.kind = 5 ∧ x.view.id = id
   ·obtain ⟨c, h1, -⟩ := I.came.has j x hj hx hk.1
    rw [hk.2, hc] at h1; cases h1
   ·rw [if_neg hk]
theorem InvR.view (I : InvR l i s) (h : l[i]? = some e) {f : Life} (hf : getK s.L e.who = some f) (hk : e.kind = 5) (hb : viewBad s.C f e = false) (hg : goneBad s.G f e = false) : InvR l (i + 1) { s with C := (viewOkJ s.C s.nc s.G s.ng f e).C, nc := (viewOkJ s.C s.nc s.G s.ng f e).nc, G := (viewOkJ s.C s.nc s.G s.ng f e).G, ng := (viewOkJ s.C s.nc s.G s.ng f e).ng, L := setK s.L e.who (viewOkJ s.C s.nc s.G s.ng f e).f } := by
 obtain ⟨fr, g1, g2, g3⟩ := I.look hf
 obtain ⟨b1, b2, b3, b4, b5⟩ := viewBad_no hb
 unfold viewOkJ; dsimp only
 have hC : ∀ id c, getK s.C id = some c → ∃ c', getK (putK s.C s.nc e.view.id ⟨e.view, cameL s.C e.view.id ++ [⟨e.who, f.view, e.transit⟩]⟩) id = some c' ∧ c'.view = c.view := fun id c hc => by
  rw [getK_putK]
  by_cases hid : id = e.view.id
  ·rw [if_pos hid]; exact ⟨_, rfl, (b5 c (hid ▸ hc)).symm⟩
  ·rw [if_neg hid]; exact ⟨c, hc, rfl⟩
 have hcom : comerAt l e.view.id i = some ⟨e.who, f.view, e.transit⟩ := by unfold comerAt; rw [h]; dsimp only; rw [if_pos ⟨hk, rfl⟩, g1]
 have hcom' : ∀ id, id ≠ e.view.id → comerAt l id i = none := fun id hid => by unfold comerAt; rw [h]; dsimp only; rw [if_neg (fun k => hid k.2.symm)]
 have hvec : goneVec l i e = f.handed := by unfold goneVec; rw [g1]; exact g3.symm
 refine ⟨I.lives.set (f' := f.enter e.view) h (by omega) hf (fr := i) ?_ (by omega) ?_, I.sent.set h (by omega) (by omega) hf (.inr b4), ⟨fun id c hc => ?_, fun j x hj hx h5 => ?_⟩, ⟨fun j x hj hx h5 => ?_, fun a b k hk' => ?_⟩, fun p g hg' => ?_, fun j x hj hx h5 => ?_⟩
 ·rw [rof_who h rfl, g1]; unfold RfS.step Life.enter
  rw [if_neg (by omega), if_neg (by omega), if_neg (by omega), if_neg (by omega), if_neg (by omega), if_pos hk]
 ·show List.replicate e.view.members.length 0 = e.view.members.map _
  rw [eq_comm, List.map_eq_replicate_iff]
  intro m _
  rw [handC_no h (Nat.le_refl i) (hitD_kind (by omega)), handC_self]
 ·dsimp only at hc; rw [getK_putK] at hc
  rw [comersR_succ]
  by_cases hid : id = e.view.id
  ·subst hid; rw [if_pos rfl, Option.some.injEq] at hc; subst hc
   refine ⟨?_, i, e, by omega, h, hk, rfl, rfl⟩
   dsimp only; rw [cameL_eq I, hcom]; rfl
  ·rw [if_neg hid] at hc
   obtain ⟨k1, j, x, k2, k3⟩ := I.came.yes id c hc
   exact ⟨by rw [k1, hcom' id hid]; simp, j, x, by omega, k3⟩
 ·rcases Nat.lt_succ_iff_lt_or_eq.1 hj with hj | rfl
  ·obtain ⟨c, k1, k2⟩ := I.came.has j x hj hx h5
   obtain ⟨c', k3, k4⟩ := hC _ _ k1
   exact ⟨c', k3, k4.trans k2⟩
  ·rw [h] at hx; cases hx
   exact ⟨_, by dsimp only; rw [getK_putK, if_pos rfl], rfl⟩
 ·dsimp only; rw [getK_putK]
  rcases Nat.lt_succ_iff_lt_or_eq.1 hj with hj | rfl
  ·have k1 := I.gone.has j x hj hx h5
   by_cases hid : ((rof l x.who j).view.id, x.view.id) = (f.view.id, e.view.id)
   ·rw [if_pos hid]
    rw [hid] at k1
    unfold goneBad at hg; rw [k1] at hg
    have : goneVec l j x = f.handed := by simpa using hg
    rw [this]
   ·rw [if_neg hid]; exact k1
  ·rw [h] at hx; cases hx
   rw [g1, if_pos rfl, hvec]
 ·dsimp only at hk'; rw [getK_putK] at hk'
  by_cases hid : (a, b) = (f.view.id, e.view.id)
  ·simp only [Prod.mk.injEq] at hid; obtain ⟨rfl, rfl⟩ := hid
   exact ⟨i, e, by omega, h, hk, rfl, by rw [g1]⟩
  ·rw [if_neg hid] at hk'
   obtain ⟨j, x, k1, k2⟩ := I.gone.yes a b k hk'
   exact ⟨j, x, by omega, k2⟩
 ·dsimp only at hg'
  rcases setK_look hf hg' with ⟨rfl, rfl⟩ | ⟨-, hg'⟩
  ·exact ⟨fun hr => absurd hr b2, fun _ => ⟨_, (getK_putK _ _ _ _ _).trans (if_pos rfl), rfl⟩⟩
  ·exact (I.vw p g hg').mono hC
 ·rcases Nat.lt_succ_iff_lt_or_eq.1 hj with hj | rfl
  ·exact (I.vj j x hj hx h5).mono hC
  ·rw [h] at hx; cases hx
   rw [g1]; exact (I.vw _ _ hf).mono hC
theorem InvR.next (I : InvR l i s) (h : l[i]? = some e) {k : Nat} (hs : s.Ok k) (h0 : (nextJ s e).1 = 0) : InvR l (i + 1) (nextJ s e).2 := by
 by_cases h6 : e.kind = 6
 ·exact I.begin h h6 h0
 ·obtain ⟨f, hf, hon, hn⟩ := life_zero h0 h6
  obtain ⟨b, hb⟩ := getK_mem hf
  have hfo : f.Ok e.who := hs.lives.life _ hb
  rw [hn] at h0 ⊢
  unfold lifeJ at h0 ⊢
  split at h0
  ·rename_i h1; rw [if_pos h1]; exact I.send h hf h1 h0
  ·rename_i h1; rw [if_neg h1]
   split at h0
   ·rename_i h2; rw [if_pos h2]; exact I.deliver h hf h2 hfo.may h0
   ·rename_i h2; rw [if_neg h2]
    split at h0
    ·rename_i h3; rw [if_pos h3]
     unfold Life.turn at h0 ⊢
     split at h0
     ·cases h0
     ·rename_i h3'; rw [if_neg h3']; exact I.turn (a := 0) h hf (.inl ⟨h3, by simp at h3'; omega⟩)
    ·rename_i h3; rw [if_neg h3]
     split at h0
     ·rename_i h4; rw [if_pos h4]
      unfold Life.turn at h0 ⊢
      split at h0
      ·cases h0
      ·rename_i h4'; rw [if_neg h4']; exact I.turn (a := 0) h hf (.inr ⟨h4, by simp at h4'; omega⟩)
     ·rename_i h4; rw [if_neg h4]
      split at h0
      ·rename_i h5; rw [if_pos h5]
       rcases viewJ_cases (C := s.C) (nc := s.nc) (G := s.G) (ng := s.ng) (f := f) (e := e) with ⟨c1, -⟩ | ⟨c1, c2, c3, c4, c5, c6⟩
       ·exact absurd h0 c1
       ·rw [c1]; exact I.view h hf h5 c3 c5
      ·rename_i h5; rw [if_neg h5]
       split at h0
       ·rename_i h7; rw [if_pos h7]; exact I.ends h hf h7
       ·cases h0
theorem InvR.zero (l : List Ev) : InvR l 0 JS.zero where
 lives := { life := fun p f h => (by cases h), none := fun p _ => ⟨rfl, fun h => (by cases h)⟩, beg := fun p => ⟨fun h => (by cases h), fun ⟨_, _, h, _⟩ => absurd h (Nat.not_lt_zero _)⟩ }
 sent := { eq := fun id p n => rfl, beg := fun id p n h => (by cases h), low := fun id p n f h => (by cases h) }
 came := { yes := fun id c h => (by cases h), has := fun j x h => absurd h (Nat.not_lt_zero _) }
 gone := { has := fun j x h => absurd h (Nat.not_lt_zero _), yes := fun a b k h => (by cases h) }
 vw := fun p f h => (by cases h)
 vj := fun j x h => absurd h (Nat.not_lt_zero _)
end
end Go.Proofs.YtilhbhpldkjkaaaGreat
namespace Go.Proofs.YtilhbhpldkjkaaaGreat
open Go.RowKit
theorem inv_to {l : List Ev} (ho : ∀ e ∈ l, e.Ok) (hl : l.length ≤ 250) : ∀ {i : Nat}, i ≤ l.length → (∀ j, j < i → errAt l j = 0) → InvR l i (stF l i)
 | 0, _, _ => InvR.zero l
 | i + 1, h, h0 => by
  have e := List.getElem?_eq_getElem (show i < l.length by omega)
  have ih := inv_to ho hl (i := i) (by omega) fun j hj => h0 j (by omega)
  have h1 := h0 i (by omega)
  rw [errAt_some e] at h1
  rw [stF_succ e]
  exact ih.next e (stF_ok ho (by omega) (by omega)) h1
section
variable {l : List Ev} {s : JS} {x : Ev}
theorem rof_off (I : InvR l l.length s) {p : Proc} (h : getK s.L p = none) : (rof l p l.length).on = false := (I.lives.none p h).1
theorem getK_in {κ α : Type} [DecidableEq κ] {l : List (Nat × κ × α)} (hn : keysN l) {b : Nat} {q : κ} {x : α} (h : (b, q, x) ∈ l) : getK l q = some x := by
 obtain ⟨j, hj, e⟩ := List.getElem_of_mem h
 exact getK_of hn (j := j) (b := b) (by rw [List.getElem?_eq_getElem hj, e])
theorem beg_same (I : InvR l l.length s) (hn : keysN s.L) {p : Proc} : begErr l p = (beginJ s.L s.nl p).err := by
 have : l.any (fun e => decide (e.kind = 6) && (decide (e.who.node = p.node) && (decide (p.inc ≤ e.who.inc) || (rof l e.who l.length).on))) = endsB s.L p := by
  rw [Bool.eq_iff_iff]; unfold endsB
  rw [List.any_eq_true, List.any_eq_true]
  simp only [Bool.and_eq_true, Bool.or_eq_true, decide_eq_true_eq]
  constructor
  ·rintro ⟨e, he, h6, hn, ho⟩
   cases hg : getK s.L e.who with
   | some f =>
    obtain ⟨b, hb⟩ := getK_mem hg
    obtain ⟨fr, g1, -⟩ := I.lives.life _ f hg
    rw [g1] at ho
    exact ⟨_, hb, hn, ho.symm⟩
   | none =>
    obtain ⟨g1, g2⟩ := I.lives.none _ hg
    obtain ⟨j, hj, he'⟩ := List.getElem_of_mem he
    obtain ⟨q, f, k1, k2, k3⟩ := g2 ((I.lives.beg _).2 ⟨j, e, hj, by rw [List.getElem?_eq_getElem hj, he'], h6, rfl⟩)
    obtain ⟨b, hb⟩ := getK_mem k1
    rcases ho with ho | ho
    ·exact ⟨_, hb, k2.trans hn, .inr (by show p.inc ≤ q.inc; omega)⟩
    ·rw [g1] at ho; cases ho
  ·rintro ⟨y, hy, hn', ho⟩
   obtain ⟨b, q, f⟩ := y
   have hg := getK_in hn hy
   obtain ⟨fr, g1, -⟩ := I.lives.life _ f hg
   obtain ⟨j, e, hj, he, h6, hw⟩ := (I.lives.beg q).1 (by rw [g1])
   refine ⟨e, List.mem_of_getElem? he, h6, by rw [hw]; exact hn', ?_⟩
   rw [hw, g1]; exact ho.symm
 unfold begErr beginJ
 rw [this]
 cases hm : p.may with
 | false => simp
 | true => cases he : endsB s.L p <;> simp
theorem kept_len {a b : List Proc} {c : Bool} : decide (0 < (keptR a b c).length) = !(decide ((chs a b c).length = 0)) := by
 have h : (keptR a b c).length = 0 ↔ (chs a b c).length = 0 := by
  rw [List.length_eq_zero_iff, List.length_eq_zero_iff, List.eq_nil_iff_forall_not_mem, List.eq_nil_iff_forall_not_mem]
  unfold keptR; simp only [mem_srt]; rfl
 rw [Bool.eq_iff_iff, Bool.not_eq_true', decide_eq_true_eq, decide_eq_false_iff_not, ← h]; omega
theorem chs_congr {a b b' : List Proc} {c : Bool} (h : ∀ q, q ∈ b ↔ q ∈ b') : chs a b c = chs a b' c := by
 unfold chs; apply List.filter_congr; intro q _
 rw [show decide (q ∈ b) = decide (q ∈ b') from by rw [Bool.eq_iff_iff, decide_eq_true_eq, decide_eq_true_eq, h]]
theorem along_same (I : InvR l l.length s) {f : Life} (hf : getK s.L x.who = some f) : alongErr l (rof l x.who l.length) x = if transitBad s.C f x = true then 237 else 0 := by
 obtain ⟨fr, g1, g2, g3⟩ := I.look hf
 have e1 : (!(isSet x.transit) || (!(decide (x.who ∈ x.transit)) || decide (0 < (keptR x.transit (keptR f.view.members x.view.members true) false).length))) = !(mayT f.view x) := by
  rw [kept_len, chs_congr (b' := common f.view x.view) fun q => by unfold keptR common chs; rw [mem_srt]]
  unfold mayT
  cases isSet x.transit <;> cases decide (x.who ∈ x.transit) <;> simp
 have e2 : (List.range l.length).any (alongBad l (rof l x.who l.length) x) = !((comersR l l.length x.view.id).all (okO f.view x)) := by
  rw [Bool.eq_iff_iff, List.any_eq_true, Bool.not_eq_true', List.all_eq_false]
  unfold comersR alongBad
  simp only [List.mem_range, List.mem_filterMap]
  constructor
  ·rintro ⟨j, hj, hb⟩
   cases he : l[j]? with
   | none => rw [he] at hb; cases hb
   | some e =>
    rw [he] at hb
    simp only [Bool.and_eq_true, decide_eq_true_eq] at hb
    obtain ⟨h5, hid, hb⟩ := hb
    refine ⟨⟨e.who, (rof l e.who j).view, e.transit⟩, ⟨j, hj, by unfold comerAt; rw [he]; dsimp only; rw [if_pos ⟨h5, hid⟩]⟩, ?_⟩
    unfold okO; rw [g1] at hb; dsimp only at hb ⊢
    revert hb
    cases decide (e.who ∈ f.view.members) <;> cases decide (e.who ∈ x.transit) <;> cases decide ((rof l e.who j).view.id = f.view.id) <;> cases decide (x.who ∈ (rof l e.who j).view.members) <;> cases decide (x.who ∈ e.transit) <;> decide
  ·rintro ⟨o, ⟨j, hj, ho⟩, hb⟩
   refine ⟨j, hj, ?_⟩
   unfold comerAt at ho
   cases he : l[j]? with
   | none => rw [he] at ho; cases ho
   | some e =>
    rw [he] at ho; dsimp only at ho
    split at ho
    ·rename_i hk
     cases ho
     dsimp only
     rw [decide_eq_true hk.1, decide_eq_true hk.2, g1]
     unfold okO at hb; dsimp only at hb ⊢
     revert hb
     cases decide (e.who ∈ f.view.members) <;> cases decide (e.who ∈ x.transit) <;> cases decide ((rof l e.who j).view.id = f.view.id) <;> cases decide (x.who ∈ (rof l e.who j).view.members) <;> cases decide (x.who ∈ e.transit) <;> decide
    ·cases ho
 unfold alongErr
 rw [e2]
 rw [show (rof l x.who l.length).view.members = f.view.members by rw [g1], e1]
 have e4 := cameL_eq I x.view.id
 unfold cameL at e4
 have e5 : transitBad s.C f x = (!(mayT f.view x) || !((comersR l l.length x.view.id).all (okO f.view x))) := by
  unfold transitBad agreesB
  rw [← e4]
  cases getK s.C x.view.id with
  | none => simp
  | some c => rfl
 rw [e5]
 cases mayT f.view x <;> cases (comersR l l.length x.view.id).all (okO f.view x) <;> rfl
theorem gone_same (I : InvR l l.length s) {f : Life} (hf : getK s.L x.who = some f) : (List.range l.length).any (sameBad l (rof l x.who l.length) x) = goneBad s.G f x := by
 obtain ⟨fr, g1, g2, g3⟩ := I.look hf
 have key : ∀ j e, l[j]? = some e → e.kind = 5 → (rof l e.who j).view.id = f.view.id → ((f.view.members ++ (rof l e.who j).view.members).any fun m => decide (handC l fr l.length x.who m ≠ handC l (rof l e.who j).frm j e.who m)) = !(decide (goneVec l j e = f.handed)) := by
  intro j e he h5 hid
  have hj := (List.getElem?_eq_some_iff.1 he).1
  have hv : (rof l e.who j).view = f.view := (I.vj j e hj he h5).eq (I.vw _ f hf) hid
  unfold goneVec; rw [hv, g3, Bool.eq_iff_iff, List.any_eq_true, Bool.not_eq_true', decide_eq_false_iff_not]
  constructor
  ·rintro ⟨m, hm, hb⟩ hc
   have hm : m ∈ f.view.members := by rcases List.mem_append.1 hm with h | h <;> exact h
   rw [List.map_inj_left] at hc
   exact of_decide_eq_true hb (hc m hm).symm
  ·intro hc
   rw [List.map_inj_left] at hc
   obtain ⟨m, hm⟩ := Classical.not_forall.1 hc
   obtain ⟨hm1, hm2⟩ := Classical.not_imp.1 hm
   exact ⟨m, List.mem_append_left _ hm1, decide_eq_true fun g => hm2 g.symm⟩
 rw [Bool.eq_iff_iff, List.any_eq_true]
 unfold goneBad
 constructor
 ·rintro ⟨j, hj, hb⟩
  unfold sameBad at hb
  cases he : l[j]? with
  | none => rw [he] at hb; cases hb
  | some e =>
   rw [he] at hb
   simp only [Bool.and_eq_true, decide_eq_true_eq] at hb
   obtain ⟨h5, hid, hidf, hb⟩ := hb
   rw [g1] at hidf hb
   have k := key j e he h5 hidf
   dsimp only at hb
   rw [hb] at k
   have := I.gone.has j e (List.mem_range.1 hj) he h5
   rw [hidf, hid] at this
   rw [this]; dsimp only; exact k.symm
 ·intro hb
  cases hg : getK s.G (f.view.id, x.view.id) with
  | none => rw [hg] at hb; cases hb
  | some h =>
   rw [hg] at hb; dsimp only at hb
   obtain ⟨j, e, hj, he, h5, hid, hidf⟩ := I.gone.yes _ _ h hg
   have k1 := I.gone.has j e hj he h5
   rw [hid, hidf, hg, Option.some.injEq] at k1
   refine ⟨j, List.mem_range.2 hj, ?_⟩
   have k := key j e he h5 hidf
   unfold sameBad; rw [he]; dsimp only
   rw [g1]; dsimp only
   rw [k, decide_eq_true h5, decide_eq_true hid, decide_eq_true hidf, ← k1, hb]; rfl
theorem view_none (I : InvR l l.length s) (hg : getK s.C x.view.id = none) : (l.any fun e => decide (e.kind = 5) && (decide (e.view.id = x.view.id) && !(decide (e.view = x.view)))) = false := by
 rw [List.any_eq_false]
 intro e he hb
 simp only [Bool.and_eq_true, decide_eq_true_eq] at hb
 obtain ⟨j, hj, he'⟩ := List.getElem_of_mem he
 obtain ⟨c, h1, h2⟩ := I.came.has j e hj (by rw [List.getElem?_eq_getElem hj, he']) hb.1
 rw [hb.2.1, hg] at h1; cases h1
theorem view_some (I : InvR l l.length s) {c : Come} (hg : getK s.C x.view.id = some c) : (l.any fun e => decide (e.kind = 5) && (decide (e.view.id = x.view.id) && !(decide (e.view = x.view)))) = !(decide (c.view = x.view)) := by
 rw [Bool.eq_iff_iff, List.any_eq_true]
 simp only [Bool.and_eq_true, decide_eq_true_eq, Bool.not_eq_true', decide_eq_false_iff_not]
 constructor
 ·rintro ⟨e, he, h5, hid, hne⟩
  obtain ⟨j, hj, he'⟩ := List.getElem_of_mem he
  obtain ⟨c', h1, h2⟩ := I.came.has j e hj (by rw [List.getElem?_eq_getElem hj, he']) h5
  rw [hid, hg] at h1; cases h1; rw [h2]; exact hne
 ·intro hb
  obtain ⟨-, j, e, hj, he, h5, hv, hid⟩ := I.came.yes _ c hg
  exact ⟨e, List.mem_of_getElem? he, h5, hid, by rw [hv]; exact hb⟩
theorem moves_same (I : InvR l l.length s) {f : Life} (hf : getK s.L x.who = some f) (hm : x.who ∈ f.view.members) : movesErr l (rof l x.who l.length) x = (viewJ s.C s.nc s.G s.ng f x).err := by
 obtain ⟨fr, g1, g2, g3⟩ := I.look hf
 have h4 : handC l (rof l x.who l.length).frm l.length x.who x.who = handedAt f x.who := by rw [g1, handedAt_eq g3 (place_mem.2 hm)]
 unfold movesErr
 rw [gone_same I hf, along_same I hf, h4, show (rof l x.who l.length).stop = f.stands by rw [g1], show (rof l x.who l.length).view.id = f.view.id by rw [g1], show (rof l x.who l.length).sent = f.sent by rw [g1]]
 by_cases hst : f.stands = 2
 ·rw [if_neg (fun h => h hst)]
  have hvb : viewBad s.C f x = ((!(x.view.may) || (decide (x.view.id.round = 0) || (!(decide (x.who ∈ x.view.members)) || decide (x.view.id.cmp f.view.id ≤ 0)))) || (l.any fun e => decide (e.kind = 5) && (decide (e.view.id = x.view.id) && !(decide (e.view = x.view))))) := by
   unfold viewBad
   cases hg : getK s.C x.view.id with
   | none => rw [view_none I hg]; simp only [Bool.or_false]
   | some c => rw [view_some I hg]; simp only [Bool.or_assoc]
  generalize (!(x.view.may) || (decide (x.view.id.round = 0) || (!(decide (x.who ∈ x.view.members)) || decide (x.view.id.cmp f.view.id ≤ 0)))) = A at *
  generalize (l.any fun e => decide (e.kind = 5) && (decide (e.view.id = x.view.id) && !(decide (e.view = x.view)))) = B at *
  cases hA : A with
  | true => rw [if_pos rfl, viewJ2 hst (by rw [hvb, hA]; rfl)]
  | false =>
   rw [if_neg (by decide)]
   cases hB : B with
   | true => rw [if_pos rfl, viewJ2 hst (by rw [hvb, hA, hB]; rfl)]
   | false =>
    have hv0 : viewBad s.C f x = false := by rw [hvb, hA, hB]; rfl
    rw [if_neg (by decide)]
    by_cases h5 : handedAt f x.who = f.sent
    ·rw [if_neg (fun h => h h5)]
     cases h6 : goneBad s.G f x with
     | true => rw [if_pos rfl, viewJ4 hst hv0 h5 h6]
     | false =>
      rw [if_neg (by decide)]
      cases h7 : transitBad s.C f x with
      | true => rw [if_pos rfl, viewJ5 hst hv0 h5 h6 h7]
      | false => rw [if_neg (by decide), viewJ6 hst hv0 h5 h6 h7]; rfl
    ·rw [if_pos h5, viewJ3 hst hv0 h5]
 ·rw [if_pos hst, viewJ1 hst]
theorem ref_same (I : InvR l l.length s) {k : Nat} (hs : s.Ok k) (hx : x.Ok) : refErr l x = (nextJ s x).1 := by
 unfold refErr
 by_cases h6 : x.kind = 6
 ·rw [if_pos h6, nextJ6 h6]; exact beg_same I hs.lives.n
 ·rw [if_neg h6]
  cases hg : getK s.L x.who with
  | none => rw [nextJn h6 hg, rof_off I hg, if_pos rfl]
  | some f =>
   obtain ⟨fr, g1, g2, g3⟩ := I.look hg
   obtain ⟨b, hb⟩ := getK_mem hg
   have hfo : f.Ok x.who := hs.lives.life _ hb
   cases ho : f.on with
   | false => rw [nextJo h6 hg ho, g1, if_pos ho]
   | true =>
    rw [nextJl h6 hg ho, show (rof l x.who l.length).on = true by rw [g1]; exact ho, if_neg (by decide)]
    unfold lifeJ
    by_cases h1 : x.kind = 1
    ·rw [if_pos h1, if_pos h1, g1]; unfold sendJ; dsimp only
     by_cases h2 : f.stands = 2
     ·rw [if_pos h2, if_pos h2]
     ·rw [if_neg h2, if_neg h2]
      by_cases h3 : x.n = f.sent + 1
      ·rw [if_neg (by omega), if_neg (by omega)]
      ·rw [if_pos (by omega), if_pos (by omega)]
    ·rw [if_neg h1, if_neg h1]
     by_cases h2 : x.kind = 2
     ·rw [if_pos h2, if_pos h2]
      rw [show (rof l x.who l.length).view = f.view by rw [g1], ← I.sent.eq]
      unfold deliverJ; dsimp only
      cases hp : placeB f.view.members x.frm with
      | false =>
       rw [if_pos (fun h => by rw [place_mem.2 h] at hp; cases hp), if_pos rfl]
      | true =>
       rw [if_neg (fun h => h (place_mem.1 hp)), show (rof l x.who l.length).frm = fr by rw [g1], if_neg (show ¬ (true = false) by decide), handedAt_eq g3 hp]
       by_cases h3 : x.n = handC l fr l.length x.who x.frm + 1
       ·rw [if_neg (show ¬ (x.n ≠ handC l fr l.length x.who x.frm + 1) by omega), if_neg (show ¬ (x.n = 0 ∨ x.n - 1 ≠ handC l fr l.length x.who x.frm) by omega)]; split <;> rfl
       ·rw [if_pos (show x.n ≠ handC l fr l.length x.who x.frm + 1 from h3), if_pos (show x.n = 0 ∨ x.n - 1 ≠ handC l fr l.length x.who x.frm by omega)]
     ·rw [if_neg h2, if_neg h2]
      by_cases h3 : x.kind = 3
      ·rw [if_pos h3, if_pos h3, g1]; unfold Life.turn; dsimp only; split <;> rfl
      ·rw [if_neg h3, if_neg h3]
       by_cases h4 : x.kind = 4
       ·rw [if_pos h4, if_pos h4, g1]; unfold Life.turn; dsimp only; split <;> rfl
       ·rw [if_neg h4, if_neg h4]
        by_cases h5 : x.kind = 5
        ·rw [if_pos h5, if_pos h5]; exact moves_same I hg hfo.mem
        ·rw [if_neg h5, if_neg h5]; split <;> rfl
end
theorem errR_eq {l : List Ev} (ho : ∀ e ∈ l, e.Ok) (hl : l.length ≤ 250) {i : Nat} {e : Ev} (h : l[i]? = some e) (h0 : ∀ j, j < i → errAt l j = 0) : refErr (l.take i) e = (nextJ (stF l i) e).1 := by
 have hi := (List.getElem?_eq_some_iff.1 h).1
 have hlen : (l.take i).length = i := by rw [List.length_take]; omega
 have ho' : ∀ e ∈ l.take i, e.Ok := fun e he => ho e (List.mem_of_mem_take he)
 have I := inv_to ho' (by omega) (Nat.le_refl (l.take i).length) fun j hj => by rw [errAt_take (by omega)]; exact h0 j (by omega)
 have hs := stF_ok ho' (by omega) (Nat.le_refl (l.take i).length)
 rw [ref_same I hs (ho e (List.mem_of_getElem? h)), hlen, stF_take l i (Nat.le_refl i)]
end Go.Proofs.YtilhbhpldkjkaaaGreat
namespace Go.Proofs.YtilhbhpldkjkaaaGreat
open Go.RowKit
inductive LeA : List AV → List AV → Prop where
 | nil : LeA [] []
 | cons {x x' : AV} {l l' : List AV} (h : ∀ (K : World → Prop) (β : Beta) (y : Value), ARel K β x y → ARel K β x' y) (t : LeA l l') : LeA (x :: l) (x' :: l')
theorem LeA.ok {l l' : List AV} (h : LeA l l') : l.length = l'.length ∧ ∀ (j : Nat) c c', l[j]? = some c → l'[j]? = some c' → ∀ (K : World → Prop) (β : Beta) (y : Value), ARel K β c y → ARel K β c' y := by
 induction h with
 | nil => simp
 | cons h t ih =>
  refine ⟨by simp [ih.1], fun j c c' h1 h2 => ?_⟩
  cases j with
  | zero => simp at h1 h2; subst h1 h2; exact h
  | succ j => exact ih.2 j c c' (by simpa using h1) (by simpa using h2)
theorem LeA.same {x : AV} {l l' : List AV} (t : LeA l l') : LeA (x :: l) (x :: l') := .cons (fun _ _ _ h => h) t
theorem LeA.nilRo {l l' : List AV} (k : Nat) (t : LeA l l') : LeA (.d (.v (.slice none 0 0)) :: l) (.d (.ro k []) :: l') := .cons (fun K β y h => by cases h with | d h => exact .d (Le.nilRo k K y [] h)) t
theorem REg.lessB {mk : Bool} {D : List Nat} {w0 w : World} {K0 : World → Prop} {sz : Nat} {E : List (Nat × AV)} {M : List Blk} {a : Act} (r : REg mk D w0 K0 sz E M a w) (u : Nat) {T : Nat} {cells cells' : List AV} (hM : M[u]? = some (.bx T cells)) (h : LeA cells cells') : REg mk D w0 K0 sz E (M.set u (.bx T cells')) a w :=
 r.word u hM fun K β H hb => by
  cases hb with
  | bx hb ys hl hr =>
   refine .bx hb ys (by rw [hl]; exact h.ok.1) fun j c y h1 h2 => ?_
   have hj : j < cells.length := by rw [h.ok.1]; exact (List.getElem?_eq_some_iff.1 h1).1
   exact h.ok.2 j _ c (List.getElem?_eq_getElem hj) h1 K β y (hr j _ y (List.getElem?_eq_getElem hj) h2)
abbrev RfS.cells (s : RfS) : List DV := [.v (.bool (s.on)), .v (.bool (s.begun)), .u s.view.id.round, .z s.view.id.server.node, .u s.view.id.server.inc, .ro 2 (procs s.view.members), .ro 1 (nums s.view.starts), .z s.stop, .u s.sent, .n s.frm]
abbrev RfS.av (s : RfS) : List AV := [.d (.v (.bool (s.on))), .d (.v (.bool (s.begun))), .u s.view.id.round, .z s.view.id.server.node, .u s.view.id.server.inc, .d (.ro 2 (procs s.view.members)), .d (.ro 1 (nums s.view.starts)), .z s.stop, .u s.sent, .n s.frm]
abbrev RfS.cel (s : RfS) (b : Bool) : List DV := .v (.bool b) :: s.cells.tail
theorem step6 {s : RfS} {i : Nat} {e : Ev} (h : e.kind = 6) : s.step i e = ⟨true, true, View.first e.who, 0, 0, i⟩ := by unfold RfS.step; rw [if_pos h]
theorem step7 {s : RfS} {i : Nat} {e : Ev} (h : e.kind = 7) : s.step i e = { s with on := false } := by unfold RfS.step; rw [if_neg (by omega), if_pos h]
theorem step1 {s : RfS} {i : Nat} {e : Ev} (h : e.kind = 1) : s.step i e = { s with sent := s.sent + 1 } := by unfold RfS.step; rw [if_neg (by omega), if_neg (by omega), if_pos h]
theorem step34 {s : RfS} {i : Nat} {e : Ev} (h : e.kind = 3 ∨ e.kind = 4) : s.step i e = { s with stop := s.stop + 1 } := by
 unfold RfS.step; rw [if_neg (by omega), if_neg (by omega), if_neg (by omega)]
 rcases h with h | h
 ·rw [if_pos h]
 ·rw [if_neg (by omega), if_pos h]
theorem step5 {s : RfS} {i : Nat} {e : Ev} (h : e.kind = 5) : s.step i e = { s with view := e.view, stop := 0, sent := 0, frm := i } := by unfold RfS.step; rw [if_neg (by omega), if_neg (by omega), if_neg (by omega), if_neg (by omega), if_neg (by omega), if_pos h]
theorem step0 {s : RfS} {i : Nat} {e : Ev} (h6 : e.kind ≠ 6) (h7 : e.kind ≠ 7) (h1 : e.kind ≠ 1) (h3 : e.kind ≠ 3) (h4 : e.kind ≠ 4) (h5 : e.kind ≠ 5) : s.step i e = s := by unfold RfS.step; rw [if_neg h6, if_neg h7, if_neg h1, if_neg h3, if_neg h4, if_neg h5]
theorem rof_small (l : List Ev) (p : Proc) : ∀ i, (rof l p i).sent ≤ i ∧ 0 ≤ (rof l p i).stop ∧ (rof l p i).stop ≤ i ∧ (rof l p i).frm ≤ i
 | 0 => by simp [rof, RfS.zero]
 | i + 1 => by
  obtain ⟨h1, h2, h3, h4⟩ := rof_small l p i
  rw [rof]
  split
  ·split
   ·unfold RfS.step
    (repeat' split) <;> (first | omega | (dsimp only; omega))
   ·omega
  ·omega
theorem rof_none {l : List Ev} {p : Proc} : ∀ {i : Nat}, l.length ≤ i → rof l p i = rof l p l.length := by
 intro i h
 obtain ⟨k, rfl⟩ : ∃ k, i = l.length + k := ⟨i - l.length, by omega⟩
 clear h
 induction k with
 | zero => rfl
 | succ k ih => rw [show l.length + (k + 1) = (l.length + k) + 1 from rfl, rof, List.getElem?_eq_none (by omega)]; exact ih
set_option maxRecDepth 100000 in
theorem refOf (l : List Ev) (p : Proc) (hb : l.length ≤ 1000) : Con Tryz.prog 21 [.d (.ro 13 (evs l)), .ag [.z p.node, .u p.inc]] (.ag [.v (.bool ((rof l p l.length).on)), .v (.bool ((rof l p l.length).begun)), .u ((rof l p l.length).view.id.round), .z ((rof l p l.length).view.id.server.node), .u ((rof l p l.length).view.id.server.inc), .ro 2 (procs (rof l p l.length).view.members), .ro 1 (nums (rof l p l.length).view.starts), .z ((rof l p l.length).stop), .u ((rof l p l.length).sent), .n ((rof l p l.length).frm)]) := by
 refine Con.intro (by kernel_rfl) rfl rfl 57 rfl rfl fun w0 K ac hK r => ?_
 refine toAt (todo' := aft Tryz.f21 1) (E' := [(0, .d (.ro 13 (evs l))), (3, .pt 0 0), (4, .pt 1 0), (5, .pt 2 0)]) (M' := [.bx 38 [.z p.node, .u p.inc], .bx 87 [.d (.v (.bool false)), .d (.v (.bool false)), .d (.v (.int .u64 0)), .z 0, .d (.v (.int .u64 0)), .d (.v (.slice none 0 0)), .d (.v (.slice none 0 0)), .z 0, .d (.v (.int .u64 0)), .z 0], .bx 87 [.d (.v (.bool false)), .d (.v (.bool false)), .d (.v (.int .u64 0)), .z 0, .d (.v (.int .u64 0)), .d (.v (.slice none 0 0)), .d (.v (.slice none 0 0)), .z 0, .d (.v (.int .u64 0)), .z 0]]) tk mo hK [] 4 [0, 1, 2] [0, 3, 4, 5] r (by kernel_rfl) trivial fun ac wd r => ?_
 have r := (r.lessB 2 rfl (LeA.same (LeA.same (LeA.same (LeA.same (LeA.same (LeA.nilRo 2 (LeA.nilRo 1 (LeA.same (LeA.same (LeA.same (LeA.nil)))))))))))).cast (M' := [.bx 38 [.z p.node, .u p.inc], .bx 87 [.d (.v (.bool false)), .d (.v (.bool false)), .d (.v (.int .u64 0)), .z 0, .d (.v (.int .u64 0)), .d (.v (.slice none 0 0)), .d (.v (.slice none 0 0)), .z 0, .d (.v (.int .u64 0)), .z 0], .bx 87 (rof l p 0).av]) rfl rfl
 refine toHead (todo' := hd Tryz.f21 0) (E' := [(0, .d (.ro 13 (evs l))), (3, .pt 0 0), (4, .pt 1 0), (5, .pt 2 0), (6, .n 0)]) (M' := [.bx 38 [.z p.node, .u p.inc], .bx 87 [.d (.v (.bool false)), .d (.v (.bool false)), .d (.v (.int .u64 0)), .z 0, .d (.v (.int .u64 0)), .d (.v (.slice none 0 0)), .d (.v (.slice none 0 0)), .z 0, .d (.v (.int .u64 0)), .z 0], .bx 87 (rof l p 0).av]) tk mo hK [] 2000 [0, 1, 2] [0, 3, 4, 5, 6] r (by kernel_rfl) trivial fun ac wd r => ?_
 refine Goes.rounds (Φ := fun (i : Nat) ac wd => (i ≤ l.length) ∧ RE' [] w0 K 57 [(0, .d (.ro 13 (evs l))), (3, .pt 0 0), (4, .pt 1 0), (5, .pt 2 0), (6, .n i)] [.bx 38 [.z p.node, .u p.inc], .bx 87 [.d (.v (.bool false)), .d (.v (.bool false)), .d (.v (.int .u64 0)), .z 0, .d (.v (.int .u64 0)), .d (.v (.slice none 0 0)), .d (.v (.slice none 0 0)), .z 0, .d (.v (.int .u64 0)), .z 0], .bx 87 (rof l p i).av] ac wd) (l.length) ?_ (Nat.zero_le _) ⟨(Nat.zero_le _), r⟩
 clear r
 rintro i hi0 again0 ac wd ⟨hv0, r⟩
 have hsm := rof_small l p i
 have u0 := ((by first | rfl | simp [bytesR]) : (((evs l).length : Nat) : Int) = ((l.length : Nat) : Int))
 cases h0 : (decide (((i : Nat) : Int) < ((l.length : Nat) : Int))) with
 | false =>
  have qh0 := of_decide_eq_false h0
  rw [show (.ag (rof l p l.length).cells : DV) = .ag (rof l p i).cells from (by rw [rof_none (i := i) (by omega)])]
  exact toRet tk mo hK rfl [(3, [(2, .z (((l.length : Nat) : Int))), (3, .b false)])] 2000 r (by kernel_rfl) (an u0 (an h0 trivial))
 | true =>
  have qh0 := of_decide_eq_true h0
  obtain ⟨e_l_i, ge_l_i⟩ : ∃ x, l[i]? = some x := ⟨_, List.getElem?_eq_getElem (by omega)⟩
  cases h1 : (decide (e_l_i.who = p)) with
  | false =>
   have qh1 := of_decide_eq_false h1
   exact toHead (todo' := hd Tryz.f21 0) (E' := [(0, .d (.ro 13 (evs l))), (3, .pt 0 0), (4, .pt 1 0), (5, .pt 2 0), (6, .n (i + 1))]) (M' := [.bx 38 [.z p.node, .u p.inc], .bx 87 [.d (.v (.bool false)), .d (.v (.bool false)), .d (.v (.int .u64 0)), .z 0, .d (.v (.int .u64 0)), .d (.v (.slice none 0 0)), .d (.v (.slice none 0 0)), .z 0, .d (.v (.int .u64 0)), .z 0], .bx 87 (rof l p i).av]) tk mo hK [(3, [(2, .z (((l.length : Nat) : Int))), (3, .b true)]), (4, [(1, .z (((i + 1 : Nat) : Int)))]), (5, [(2, .ix (i) e_l_i.row)]), (6, [(3, .b false)])] 2000 [0, 1, 2] [0, 3, 4, 5, 6] r (by kernel_rfl) (an u0 (an h0 (an (rfI ((i : Nat) : Int)) (an (evs_at ge_l_i) (an ((eqT (eqProcD _ _) h1) : EqAgg Tryz.prog 38 [(.int .i64 (e_l_i.who.node)), (.int .u64 (((e_l_i.who.inc : Nat) : Int)))] [(.int .i64 (p.node)), (.int .u64 (((p.inc : Nat) : Int)))] false) (an ((by first | exact wi (by omega) | exact wu (by omega)) : IntKind.i64.wrap (((i : Nat) : Int) + 1) = ((i + 1 : Nat) : Int)) trivial)))))) fun ac wd r => again0 (by omega) ac wd ⟨(by omega), r.cast rfl (by rw [rof_other ge_l_i (of_decide_eq_false (by assumption))])⟩
  | true =>
   have qh1 := of_decide_eq_true h1
   have u1 := ((eqT (eqProcD _ _) h1) : EqAgg Tryz.prog 38 [(.int .i64 (e_l_i.who.node)), (.int .u64 (((e_l_i.who.inc : Nat) : Int)))] [(.int .i64 (p.node)), (.int .u64 (((p.inc : Nat) : Int)))] true)
   cases h2 : ((e_l_i.kind : Int) == 6) with
   | false =>
    have qh2 := ne_of_beq_false h2
    cases h3 : ((e_l_i.kind : Int) == 7) with
    | false =>
     have qh3 := ne_of_beq_false h3
     cases h4 : ((e_l_i.kind : Int) == 1) with
     | false =>
      have qh4 := ne_of_beq_false h4
      cases h5 : ((e_l_i.kind : Int) == 3) with
      | false =>
       have qh5 := ne_of_beq_false h5
       cases h6 : ((e_l_i.kind : Int) == 4) with
       | false =>
        have qh6 := ne_of_beq_false h6
        cases h7 : ((e_l_i.kind : Int) == 5) with
        | false =>
         have qh7 := ne_of_beq_false h7
         exact toHead (todo' := hd Tryz.f21 0) (E' := [(0, .d (.ro 13 (evs l))), (3, .pt 0 0), (4, .pt 1 0), (5, .pt 2 0), (6, .n (i + 1))]) (M' := [.bx 38 [.z p.node, .u p.inc], .bx 87 [.d (.v (.bool false)), .d (.v (.bool false)), .d (.v (.int .u64 0)), .z 0, .d (.v (.int .u64 0)), .d (.v (.slice none 0 0)), .d (.v (.slice none 0 0)), .z 0, .d (.v (.int .u64 0)), .z 0], .bx 87 (rof l p i).av]) tk mo hK [(3, [(2, .z (((l.length : Nat) : Int))), (3, .b true)]), (4, [(1, .z (((i + 1 : Nat) : Int)))]), (5, [(2, .ix (i) e_l_i.row)]), (6, [(3, .b true)]), (8, [(0, .b false)]), (10, [(0, .b false)]), (12, [(0, .b false)]), (14, [(0, .b false)]), (15, [(0, .b false)]), (17, [(0, .b false)])] 2000 [0, 1, 2] [0, 3, 4, 5, 6] r (by kernel_rfl) (an u0 (an h0 (an (rfI ((i : Nat) : Int)) (an (evs_at ge_l_i) (an u1 (an h2 (an h3 (an h4 (an h5 (an h6 (an h7 (an ((by first | exact wi (by omega) | exact wu (by omega)) : IntKind.i64.wrap (((i : Nat) : Int) + 1) = ((i + 1 : Nat) : Int)) trivial)))))))))))) fun ac wd r => again0 (by omega) ac wd ⟨(by omega), r.cast rfl (by rw [rof_who ge_l_i (of_decide_eq_true (by assumption)), step0 (by omega) (by omega) (by omega) (by omega) (by omega) (by omega)])⟩
        | true =>
         have qh7 := eq_of_beq h7
         exact toHead (todo' := hd Tryz.f21 0) (E' := [(0, .d (.ro 13 (evs l))), (3, .pt 0 0), (4, .pt 1 0), (5, .pt 2 0), (6, .n (i + 1))]) (M' := [.bx 38 [.z p.node, .u p.inc], .bx 87 [.d (.v (.bool false)), .d (.v (.bool false)), .d (.v (.int .u64 0)), .z 0, .d (.v (.int .u64 0)), .d (.v (.slice none 0 0)), .d (.v (.slice none 0 0)), .z 0, .d (.v (.int .u64 0)), .z 0], .bx 87 [.d (.v (.bool ((rof l p i).on))), .d (.v (.bool ((rof l p i).begun))), .u e_l_i.view.id.round, .z e_l_i.view.id.server.node, .u e_l_i.view.id.server.inc, .d (.ro 2 (procs e_l_i.view.members)), .d (.ro 1 (nums e_l_i.view.starts)), .z 0, .d (.v (.int .u64 0)), .n i]]) tk mo hK [(3, [(2, .z (((l.length : Nat) : Int))), (3, .b true)]), (4, [(1, .z (((i + 1 : Nat) : Int)))]), (5, [(2, .ix (i) e_l_i.row)]), (6, [(3, .b true)]), (8, [(0, .b false)]), (10, [(0, .b false)]), (12, [(0, .b false)]), (14, [(0, .b false)]), (15, [(0, .b false)]), (17, [(0, .b true)])] 2000 [0, 1, 2] [0, 3, 4, 5, 6] r (by kernel_rfl) (an u0 (an h0 (an (rfI ((i : Nat) : Int)) (an (evs_at ge_l_i) (an u1 (an h2 (an h3 (an h4 (an h5 (an h6 (an h7 (an ((by first | exact wi (by omega) | exact wu (by omega)) : IntKind.i64.wrap (((i : Nat) : Int) + 1) = ((i + 1 : Nat) : Int)) trivial)))))))))))) fun ac wd r => again0 (by omega) ac wd ⟨(by omega), r.cast rfl (by rw [rof_who ge_l_i (of_decide_eq_true (by assumption)), step5 (by omega)]; rfl)⟩
       | true =>
        have qh6 := eq_of_beq h6
        exact toHead (todo' := hd Tryz.f21 0) (E' := [(0, .d (.ro 13 (evs l))), (3, .pt 0 0), (4, .pt 1 0), (5, .pt 2 0), (6, .n (i + 1))]) (M' := [.bx 38 [.z p.node, .u p.inc], .bx 87 [.d (.v (.bool false)), .d (.v (.bool false)), .d (.v (.int .u64 0)), .z 0, .d (.v (.int .u64 0)), .d (.v (.slice none 0 0)), .d (.v (.slice none 0 0)), .z 0, .d (.v (.int .u64 0)), .z 0], .bx 87 [.d (.v (.bool ((rof l p i).on))), .d (.v (.bool ((rof l p i).begun))), .u ((rof l p i).view.id.round), .z ((rof l p i).view.id.server.node), .u ((rof l p i).view.id.server.inc), .d (.ro 2 (procs (rof l p i).view.members)), .d (.ro 1 (nums (rof l p i).view.starts)), .z ((rof l p i).stop + 1), .u ((rof l p i).sent), .n ((rof l p i).frm)]]) tk mo hK [(3, [(2, .z (((l.length : Nat) : Int))), (3, .b true)]), (4, [(1, .z (((i + 1 : Nat) : Int)))]), (5, [(2, .ix (i) e_l_i.row)]), (6, [(3, .b true)]), (8, [(0, .b false)]), (10, [(0, .b false)]), (12, [(0, .b false)]), (14, [(0, .b false)]), (15, [(0, .b true)]), (16, [(2, .z ((rof l p i).stop + 1))])] 2000 [0, 1, 2] [0, 3, 4, 5, 6] r (by kernel_rfl) (an u0 (an h0 (an (rfI ((i : Nat) : Int)) (an (evs_at ge_l_i) (an u1 (an h2 (an h3 (an h4 (an h5 (an h6 (an ((by first | exact wi (by omega) | exact wu (by omega)) : IntKind.i64.wrap (((rof l p i).stop : Int) + 1) = (rof l p i).stop + 1) (an ((by first | exact wi (by omega) | exact wu (by omega)) : IntKind.i64.wrap (((i : Nat) : Int) + 1) = ((i + 1 : Nat) : Int)) trivial)))))))))))) fun ac wd r => again0 (by omega) ac wd ⟨(by omega), r.cast rfl (by rw [rof_who ge_l_i (of_decide_eq_true (by assumption)), step34 (by omega)])⟩
      | true =>
       have qh5 := eq_of_beq h5
       exact toHead (todo' := hd Tryz.f21 0) (E' := [(0, .d (.ro 13 (evs l))), (3, .pt 0 0), (4, .pt 1 0), (5, .pt 2 0), (6, .n (i + 1))]) (M' := [.bx 38 [.z p.node, .u p.inc], .bx 87 [.d (.v (.bool false)), .d (.v (.bool false)), .d (.v (.int .u64 0)), .z 0, .d (.v (.int .u64 0)), .d (.v (.slice none 0 0)), .d (.v (.slice none 0 0)), .z 0, .d (.v (.int .u64 0)), .z 0], .bx 87 [.d (.v (.bool ((rof l p i).on))), .d (.v (.bool ((rof l p i).begun))), .u ((rof l p i).view.id.round), .z ((rof l p i).view.id.server.node), .u ((rof l p i).view.id.server.inc), .d (.ro 2 (procs (rof l p i).view.members)), .d (.ro 1 (nums (rof l p i).view.starts)), .z ((rof l p i).stop + 1), .u ((rof l p i).sent), .n ((rof l p i).frm)]]) tk mo hK [(3, [(2, .z (((l.length : Nat) : Int))), (3, .b true)]), (4, [(1, .z (((i + 1 : Nat) : Int)))]), (5, [(2, .ix (i) e_l_i.row)]), (6, [(3, .b true)]), (8, [(0, .b false)]), (10, [(0, .b false)]), (12, [(0, .b false)]), (14, [(0, .b true)]), (16, [(2, .z ((rof l p i).stop + 1))])] 2000 [0, 1, 2] [0, 3, 4, 5, 6] r (by kernel_rfl) (an u0 (an h0 (an (rfI ((i : Nat) : Int)) (an (evs_at ge_l_i) (an u1 (an h2 (an h3 (an h4 (an h5 (an ((by first | exact wi (by omega) | exact wu (by omega)) : IntKind.i64.wrap (((rof l p i).stop : Int) + 1) = (rof l p i).stop + 1) (an ((by first | exact wi (by omega) | exact wu (by omega)) : IntKind.i64.wrap (((i : Nat) : Int) + 1) = ((i + 1 : Nat) : Int)) trivial))))))))))) fun ac wd r => again0 (by omega) ac wd ⟨(by omega), r.cast rfl (by rw [rof_who ge_l_i (of_decide_eq_true (by assumption)), step34 (by omega)])⟩
     | true =>
      have qh4 := eq_of_beq h4
      exact toHead (todo' := hd Tryz.f21 0) (E' := [(0, .d (.ro 13 (evs l))), (3, .pt 0 0), (4, .pt 1 0), (5, .pt 2 0), (6, .n (i + 1))]) (M' := [.bx 38 [.z p.node, .u p.inc], .bx 87 [.d (.v (.bool false)), .d (.v (.bool false)), .d (.v (.int .u64 0)), .z 0, .d (.v (.int .u64 0)), .d (.v (.slice none 0 0)), .d (.v (.slice none 0 0)), .z 0, .d (.v (.int .u64 0)), .z 0], .bx 87 [.d (.v (.bool ((rof l p i).on))), .d (.v (.bool ((rof l p i).begun))), .u ((rof l p i).view.id.round), .z ((rof l p i).view.id.server.node), .u ((rof l p i).view.id.server.inc), .d (.ro 2 (procs (rof l p i).view.members)), .d (.ro 1 (nums (rof l p i).view.starts)), .z ((rof l p i).stop), .u ((rof l p i).sent + 1), .n ((rof l p i).frm)]]) tk mo hK [(3, [(2, .z (((l.length : Nat) : Int))), (3, .b true)]), (4, [(1, .z (((i + 1 : Nat) : Int)))]), (5, [(2, .ix (i) e_l_i.row)]), (6, [(3, .b true)]), (8, [(0, .b false)]), (10, [(0, .b false)]), (12, [(0, .b true)]), (13, [(2, .z ((((rof l p i).sent + 1 : Nat) : Int)))])] 2000 [0, 1, 2] [0, 3, 4, 5, 6] r (by kernel_rfl) (an u0 (an h0 (an (rfI ((i : Nat) : Int)) (an (evs_at ge_l_i) (an u1 (an h2 (an h3 (an h4 (an ((by first | exact wi (by omega) | exact wu (by omega)) : IntKind.u64.wrap ((((rof l p i).sent : Nat) : Int) + 1) = (((rof l p i).sent + 1 : Nat) : Int)) (an ((by first | exact wi (by omega) | exact wu (by omega)) : IntKind.i64.wrap (((i : Nat) : Int) + 1) = ((i + 1 : Nat) : Int)) trivial)))))))))) fun ac wd r => again0 (by omega) ac wd ⟨(by omega), r.cast rfl (by rw [rof_who ge_l_i (of_decide_eq_true (by assumption)), step1 (by omega)])⟩
    | true =>
     have qh3 := eq_of_beq h3
     exact toHead (todo' := hd Tryz.f21 0) (E' := [(0, .d (.ro 13 (evs l))), (3, .pt 0 0), (4, .pt 1 0), (5, .pt 2 0), (6, .n (i + 1))]) (M' := [.bx 38 [.z p.node, .u p.inc], .bx 87 [.d (.v (.bool false)), .d (.v (.bool false)), .d (.v (.int .u64 0)), .z 0, .d (.v (.int .u64 0)), .d (.v (.slice none 0 0)), .d (.v (.slice none 0 0)), .z 0, .d (.v (.int .u64 0)), .z 0], .bx 87 [.d (.v (.bool false)), .d (.v (.bool ((rof l p i).begun))), .u ((rof l p i).view.id.round), .z ((rof l p i).view.id.server.node), .u ((rof l p i).view.id.server.inc), .d (.ro 2 (procs (rof l p i).view.members)), .d (.ro 1 (nums (rof l p i).view.starts)), .z ((rof l p i).stop), .u ((rof l p i).sent), .n ((rof l p i).frm)]]) tk mo hK [(3, [(2, .z (((l.length : Nat) : Int))), (3, .b true)]), (4, [(1, .z (((i + 1 : Nat) : Int)))]), (5, [(2, .ix (i) e_l_i.row)]), (6, [(3, .b true)]), (8, [(0, .b false)]), (10, [(0, .b true)])] 2000 [0, 1, 2] [0, 3, 4, 5, 6] r (by kernel_rfl) (an u0 (an h0 (an (rfI ((i : Nat) : Int)) (an (evs_at ge_l_i) (an u1 (an h2 (an h3 (an ((by first | exact wi (by omega) | exact wu (by omega)) : IntKind.i64.wrap (((i : Nat) : Int) + 1) = ((i + 1 : Nat) : Int)) trivial)))))))) fun ac wd r => again0 (by omega) ac wd ⟨(by omega), r.cast rfl (by rw [rof_who ge_l_i (of_decide_eq_true (by assumption)), step7 (by omega)])⟩
   | true =>
    have qh2 := eq_of_beq h2
    refine toAt (todo' := aft Tryz.f21 9) (E' := [(0, .d (.ro 13 (evs l))), (3, .pt 0 0), (4, .pt 1 0), (5, .pt 2 0), (6, .n i), (9, .n i), (10, .d (.ro 13 (evs l))), (11, .n l.length), (12, .d (.v (.bool true))), (15, .d (.ro 13 (evs l))), (16, .n i), (17, .rp e_l_i.row 0), (18, .ag e_l_i.av), (7, .pt 3 0), (19, .pt 3 1), (20, .ag [.z e_l_i.who.node, .u e_l_i.who.inc]), (21, .ag [.z p.node, .u p.inc]), (22, .d (.v (.bool false))), (23, .pt 3 0), (24, .z e_l_i.kind), (26, .d (.v (.bool true))), (25, .d (.v (.bool true))), (27, .ag [.z p.node, .u p.inc]), (28, .ag [.d (.v (.int .u64 0)), .z p.node, .u p.inc, .sl 4 ((procs [p]).length), .sl 5 ((nums [0]).length)]), (29, .n i), (30, .ag [.d (.v (.bool true)), .d (.v (.bool true)), .d (.v (.int .u64 0)), .z p.node, .u p.inc, .sl 4 ((procs [p]).length), .sl 5 ((nums [0]).length), .z 0, .d (.v (.int .u64 0)), .n i])]) (M' := [.bx 38 [.z p.node, .u p.inc], .bx 87 [.d (.v (.bool false)), .d (.v (.bool false)), .d (.v (.int .u64 0)), .z 0, .d (.v (.int .u64 0)), .d (.v (.slice none 0 0)), .d (.v (.slice none 0 0)), .z 0, .d (.v (.int .u64 0)), .z 0], .bx 87 [.d (.v (.bool true)), .d (.v (.bool true)), .d (.v (.int .u64 0)), .z p.node, .u p.inc, .sl 4 ((procs [p]).length), .sl 5 ((nums [0]).length), .z 0, .d (.v (.int .u64 0)), .n i], .bx 46 e_l_i.av, .rw 38 2 (procs [p]), .rw 36 1 (nums [0])]) tk mo hK [(3, [(2, .z (((l.length : Nat) : Int))), (3, .b true)]), (5, [(2, .ix (i) e_l_i.row)]), (6, [(3, .b true)]), (8, [(0, .b true)]), (9, [(1, .con (.ag [.v (.int .u64 0), .z p.node, .u p.inc, .em 38 2 (procs [p]), .em 36 1 (nums [0])]))])] 21 [0, 1, 2, 3, 4, 5] [0, 3, 4, 5, 6, 9, 10, 11, 12, 15, 16, 17, 18, 7, 19, 20, 21, 22, 23, 24, 26, 25, 27, 28, 29, 30] r (by kernel_rfl) (an u0 (an h0 (an (rfI ((i : Nat) : Int)) (an (evs_at ge_l_i) (an u1 (an h2 (an (refFirst p) trivial))))))) fun ac wd r => ?_
    have r := r.stay (p1 := []) (p2 := [((procs [p]).length) = (procs [p]).length, ((nums [0]).length) = (nums [0]).length]) (E1 := [(0, .d (.ro 13 (evs l))), (3, .pt 0 0), (4, .pt 1 0), (5, .pt 2 0), (6, .n i), (9, .n i), (10, .d (.ro 13 (evs l))), (11, .n l.length), (12, .d (.v (.bool true))), (15, .d (.ro 13 (evs l))), (16, .n i), (17, .rp e_l_i.row 0), (18, .ag e_l_i.av), (7, .pt 3 0), (19, .pt 3 1), (20, .ag [.z e_l_i.who.node, .u e_l_i.who.inc]), (21, .ag [.z p.node, .u p.inc]), (22, .d (.v (.bool false))), (23, .pt 3 0), (24, .z e_l_i.kind), (26, .d (.v (.bool true))), (25, .d (.v (.bool true))), (27, .ag [.z p.node, .u p.inc]), (28, .ag [.d (.v (.int .u64 0)), .z p.node, .u p.inc, .sl 4 ((procs [p]).length), .sl 5 ((nums [0]).length)]), (29, .n i), (30, .ag [.d (.v (.bool true)), .d (.v (.bool true)), .d (.v (.int .u64 0)), .z p.node, .u p.inc, .sl 4 ((procs [p]).length), .sl 5 ((nums [0]).length), .z 0, .d (.v (.int .u64 0)), .n i])]) (M1 := [.bx 38 [.z p.node, .u p.inc], .bx 87 [.d (.v (.bool false)), .d (.v (.bool false)), .d (.v (.int .u64 0)), .z 0, .d (.v (.int .u64 0)), .d (.v (.slice none 0 0)), .d (.v (.slice none 0 0)), .z 0, .d (.v (.int .u64 0)), .z 0], .bx 87 [.d (.v (.bool true)), .d (.v (.bool true)), .d (.v (.int .u64 0)), .z p.node, .u p.inc, .sl 4 ((procs [p]).length), .sl 5 ((nums [0]).length), .z 0, .d (.v (.int .u64 0)), .n i], .bx 46 e_l_i.av, .rw 38 2 (procs [p]), .rw 36 1 (nums [0])]) (M2 := [.bx 38 [.z p.node, .u p.inc], .bx 87 [.d (.v (.bool false)), .d (.v (.bool false)), .d (.v (.int .u64 0)), .z 0, .d (.v (.int .u64 0)), .d (.v (.slice none 0 0)), .d (.v (.slice none 0 0)), .z 0, .d (.v (.int .u64 0)), .z 0], .bx 87 [.d (.v (.bool true)), .d (.v (.bool true)), .d (.v (.int .u64 0)), .z p.node, .u p.inc, .d (.ro 2 (frozR (procs [p]))), .d (.ro 1 (frozR (nums [0]))), .z 0, .d (.v (.int .u64 0)), .n i], .bx 46 e_l_i.av, .dead, .dead]) (E2 := [(0, .d (.ro 13 (evs l))), (3, .pt 0 0), (4, .pt 1 0), (5, .pt 2 0), (6, .n i), (9, .n i), (10, .d (.ro 13 (evs l))), (11, .n l.length), (12, .d (.v (.bool true))), (15, .d (.ro 13 (evs l))), (16, .n i), (17, .rp e_l_i.row 0), (18, .ag e_l_i.av), (7, .pt 3 0), (19, .pt 3 1), (20, .ag [.z e_l_i.who.node, .u e_l_i.who.inc]), (21, .ag [.z p.node, .u p.inc]), (22, .d (.v (.bool false))), (23, .pt 3 0), (24, .z e_l_i.kind), (26, .d (.v (.bool true))), (25, .d (.v (.bool true))), (27, .ag [.z p.node, .u p.inc]), (28, .ag [.d (.v (.int .u64 0)), .z p.node, .u p.inc, .sl 4 ((procs [p]).length), .sl 5 ((nums [0]).length)]), (29, .n i), (30, .ag [.d (.v (.bool true)), .d (.v (.bool true)), .d (.v (.int .u64 0)), .z p.node, .u p.inc, .sl 4 ((procs [p]).length), .sl 5 ((nums [0]).length), .z 0, .d (.v (.int .u64 0)), .n i])]) (M3 := [.bx 38 [.z p.node, .u p.inc], .bx 87 [.d (.v (.bool false)), .d (.v (.bool false)), .d (.v (.int .u64 0)), .z 0, .d (.v (.int .u64 0)), .d (.v (.slice none 0 0)), .d (.v (.slice none 0 0)), .z 0, .d (.v (.int .u64 0)), .z 0], .bx 87 [.d (.v (.bool true)), .d (.v (.bool true)), .d (.v (.int .u64 0)), .z p.node, .u p.inc, .d (.ro 2 (procs [p])), .d (.ro 1 (nums [0])), .z 0, .d (.v (.int .u64 0)), .n i], .bx 46 e_l_i.av, .dead, .dead]) [] [(2, 5), (2, 6)] (by kernel_rfl) (by kernel_rfl) trivial (an (rfN ((procs [p]).length)) (an (rfN ((nums [0]).length)) trivial)) rfl (by simp only [froz_procs, froz_numsE])
    exact toHead (todo' := hd Tryz.f21 0) (E' := [(0, .d (.ro 13 (evs l))), (3, .pt 0 0), (4, .pt 1 0), (5, .pt 2 0), (6, .n (i + 1))]) (M' := [.bx 38 [.z p.node, .u p.inc], .bx 87 [.d (.v (.bool false)), .d (.v (.bool false)), .d (.v (.int .u64 0)), .z 0, .d (.v (.int .u64 0)), .d (.v (.slice none 0 0)), .d (.v (.slice none 0 0)), .z 0, .d (.v (.int .u64 0)), .z 0], .bx 87 [.d (.v (.bool true)), .d (.v (.bool true)), .d (.v (.int .u64 0)), .z p.node, .u p.inc, .d (.ro 2 (procs [p])), .d (.ro 1 (nums [0])), .z 0, .d (.v (.int .u64 0)), .n i]]) tk mo hK [(4, [(1, .z (((i + 1 : Nat) : Int)))])] 2000 [0, 1, 2] [0, 3, 4, 5, 6] r (by kernel_rfl) (an ((by first | exact wi (by omega) | exact wu (by omega)) : IntKind.i64.wrap (((i : Nat) : Int) + 1) = ((i + 1 : Nat) : Int)) trivial) fun ac wd r => again0 (by omega) ac wd ⟨(by omega), r.cast rfl (by rw [rof_who ge_l_i (of_decide_eq_true (by assumption)), step6 (by omega), of_decide_eq_true (show decide (e_l_i.who = p) = true by assumption)]; rfl)⟩
end Go.Proofs.YtilhbhpldkjkaaaGreat
namespace Go.Proofs.YtilhbhpldkjkaaaGreat
open Go.RowKit
section
variable {l : List Ev} {i a n : Nat} {e : Ev} {p m : Proc} {id : Vid}
theorem handC_yes (h : l[i]? = some e) (ha : a ≤ i) (h2 : e.kind = 2) (hw : e.who = p) (hm : e.frm = m) : handC l a (i + 1) p m = handC l a i p m + 1 := by
 rw [handC_succ h ha, if_pos (by unfold hitD; simp [h2, hw, hm])]
theorem hitD_frm (h : e.frm ≠ m) : hitD p m e = false := by unfold hitD; rw [decide_eq_false h]; simp
theorem sent_hit (h0 : ∀ j, j < i → hitS l id p n j = false) (h : l[i]? = some e) (hh : hitS l id p n i = true) : sentR l l.length id p n = some e.body := by
 have hi := (List.getElem?_eq_some_iff.1 h).1
 unfold sentR
 have : (List.range l.length).find? (hitS l id p n) = some i := by
  rw [List.find?_range_eq_some]
  exact ⟨hh, by simpa using hi, fun j hj => by rw [h0 j hj]; rfl⟩
 rw [this, Option.bind_some, h]; rfl
theorem sent_miss (hi : l.length ≤ i) (h0 : ∀ j, j < i → hitS l id p n j = false) : sentR l l.length id p n = none := by
 unfold sentR
 have : (List.range l.length).find? (hitS l id p n) = none := by
  rw [List.find?_eq_none]; intro j hj; rw [h0 j (by have := List.mem_range.1 hj; omega)]; decide
 rw [this]; rfl
def sentD (o : Option (List UInt8)) : DV := match o with
 | some b => .tu [.v (.string ⟨b.toArray⟩), .v (.bool true)]
 | none => .tu [.v (.string .empty), .v (.bool false)]
theorem begErr_may (h : p.may = false) : begErr l p = 230 := by unfold begErr; rw [if_pos h]
theorem begErr_hit (hm : p.may = true) (h : l[i]? = some e) (h6 : e.kind = 6) (hn : e.who.node = p.node) (ho : p.inc ≤ e.who.inc ∨ (rof l e.who l.length).on = true) : begErr l p = 230 := by
 unfold begErr
 rw [if_neg (by rw [hm]; decide), if_pos]
 rw [List.any_eq_true]
 exact ⟨e, List.mem_of_getElem? h, by simp only [Bool.and_eq_true, Bool.or_eq_true, decide_eq_true_eq]; exact ⟨h6, hn, ho⟩⟩
def begB (l : List Ev) (p : Proc) (e : Ev) : Bool := decide (e.kind = 6) && (decide (e.who.node = p.node) && (decide (p.inc ≤ e.who.inc) || (rof l e.who l.length).on))
theorem begErr_no (hm : p.may = true) (hi : l.length ≤ i) (h0 : ∀ j e, j < i → l[j]? = some e → begB l p e = false) : begErr l p = 0 := by
 unfold begErr
 rw [if_neg (by rw [hm]; decide), if_neg]
 rw [List.any_eq_true]
 rintro ⟨e, he, hb⟩
 obtain ⟨j, hj, rfl⟩ := List.getElem_of_mem he
 have := h0 j _ (by omega) (List.getElem?_eq_getElem hj)
 unfold begB at this; rw [hb] at this; cases this
end
set_option maxRecDepth 100000 in
theorem refHanded (l : List Ev) (s : RfS) (p m : Proc) (hb : l.length ≤ 1000) (hf : s.frm ≤ l.length) : Con Tryz.prog 23 [.d (.ro 13 (evs l)), .ag s.av, .ag [.z p.node, .u p.inc], .ag [.z m.node, .u m.inc]] (.v (.int .u64 ((handC l s.frm l.length p m : Nat) : Int))) := by
 refine Con.intro (by kernel_rfl) rfl rfl 46 rfl rfl fun w0 K ac hK r => ?_
 refine toHead (todo' := hd Tryz.f23 0) (E' := [(0, .d (.ro 13 (evs l))), (5, .pt 0 0), (6, .pt 1 0), (7, .pt 2 0), (9, .d (.v (.int .u64 0))), (10, .n s.frm)]) (M' := [.bx 87 s.av, .bx 38 [.z p.node, .u p.inc], .bx 38 [.z m.node, .u m.inc]]) tk mo hK [] 2000 [0, 1, 2] [0, 5, 6, 7, 9, 10] r (by kernel_rfl) trivial fun ac wd r => ?_
 refine Goes.rounds (Φ := fun (k : Nat) ac wd => (s.frm + k ≤ l.length) ∧ RE' [] w0 K 46 [(0, .d (.ro 13 (evs l))), (5, .pt 0 0), (6, .pt 1 0), (7, .pt 2 0), (9, .u (handC l s.frm (s.frm + k) p m)), (10, .n (s.frm + k))] [.bx 87 s.av, .bx 38 [.z p.node, .u p.inc], .bx 38 [.z m.node, .u m.inc]] ac wd) (l.length) ?_ (Nat.zero_le _) ⟨(by omega), (r).cast (by rw [show s.frm + 0 = s.frm from rfl, handC_self]; rfl) rfl⟩
 clear r
 rintro k hi0 again0 ac wd ⟨hv0, r⟩
 have hle := handC_le l s.frm (s.frm + k) p m
 have u0 := ((by first | rfl | simp [bytesR]) : (((evs l).length : Nat) : Int) = ((l.length : Nat) : Int))
 cases h0 : (decide (((s.frm + k : Nat) : Int) < ((l.length : Nat) : Int))) with
 | false =>
  have qh0 := of_decide_eq_false h0
  rw [show (.v (.int .u64 ((handC l s.frm l.length p m : Nat) : Int)) : DV) = .u (handC l s.frm (s.frm + k) p m) from (by rw [show s.frm + k = l.length by omega])]
  exact toRet tk mo hK rfl [(3, [(2, .z (((l.length : Nat) : Int))), (3, .b false)])] 2000 r (by kernel_rfl) (an u0 (an h0 trivial))
 | true =>
  have qh0 := of_decide_eq_true h0
  obtain ⟨e_l_sfrmk, ge_l_sfrmk⟩ : ∃ x, l[s.frm + k]? = some x := ⟨_, List.getElem?_eq_getElem (by omega)⟩
  cases h1 : ((e_l_sfrmk.kind : Int) == 2) with
  | false =>
   have qh1 := ne_of_beq_false h1
   exact toHead (todo' := hd Tryz.f23 0) (E' := [(0, .d (.ro 13 (evs l))), (5, .pt 0 0), (6, .pt 1 0), (7, .pt 2 0), (9, .u (handC l s.frm (s.frm + k) p m)), (10, .n (s.frm + k + 1))]) (M' := [.bx 87 s.av, .bx 38 [.z p.node, .u p.inc], .bx 38 [.z m.node, .u m.inc]]) tk mo hK [(3, [(2, .z (((l.length : Nat) : Int))), (3, .b true)]), (4, [(1, .z (((s.frm + k + 1 : Nat) : Int)))]), (5, [(2, .ix (s.frm + k) e_l_sfrmk.row), (5, .b false)])] 2000 [0, 1, 2] [0, 5, 6, 7, 9, 10] r (by kernel_rfl) (an u0 (an h0 (an (rfI ((s.frm + k : Nat) : Int)) (an (evs_at ge_l_sfrmk) (an h1 (an ((by first | exact wi (by omega) | exact wu (by omega)) : IntKind.i64.wrap (((s.frm + k : Nat) : Int) + 1) = ((s.frm + k + 1 : Nat) : Int)) trivial)))))) fun ac wd r => again0 (by omega) ac wd ⟨(by omega), r.cast (by rw [show s.frm + (k + 1) = s.frm + k + 1 from rfl, handC_no ge_l_sfrmk (by omega) (hitD_kind (by omega))]; try rfl) rfl⟩
  | true =>
   have qh1 := eq_of_beq h1
   cases h2 : (decide (e_l_sfrmk.who = p)) with
   | false =>
    have qh2 := of_decide_eq_false h2
    exact toHead (todo' := hd Tryz.f23 0) (E' := [(0, .d (.ro 13 (evs l))), (5, .pt 0 0), (6, .pt 1 0), (7, .pt 2 0), (9, .u (handC l s.frm (s.frm + k) p m)), (10, .n (s.frm + k + 1))]) (M' := [.bx 87 s.av, .bx 38 [.z p.node, .u p.inc], .bx 38 [.z m.node, .u m.inc]]) tk mo hK [(3, [(2, .z (((l.length : Nat) : Int))), (3, .b true)]), (4, [(1, .z (((s.frm + k + 1 : Nat) : Int)))]), (5, [(2, .ix (s.frm + k) e_l_sfrmk.row), (5, .b true), (9, .ix (s.frm + k) e_l_sfrmk.row), (13, .b false)])] 2000 [0, 1, 2] [0, 5, 6, 7, 9, 10] r (by kernel_rfl) (an u0 (an h0 (an (rfI ((s.frm + k : Nat) : Int)) (an (evs_at ge_l_sfrmk) (an h1 (an (rfI ((s.frm + k : Nat) : Int)) (an (evs_at ge_l_sfrmk) (an ((eqT (eqProcD _ _) h2) : EqAgg Tryz.prog 38 [(.int .i64 (e_l_sfrmk.who.node)), (.int .u64 (((e_l_sfrmk.who.inc : Nat) : Int)))] [(.int .i64 (p.node)), (.int .u64 (((p.inc : Nat) : Int)))] false) (an ((by first | exact wi (by omega) | exact wu (by omega)) : IntKind.i64.wrap (((s.frm + k : Nat) : Int) + 1) = ((s.frm + k + 1 : Nat) : Int)) trivial))))))))) fun ac wd r => again0 (by omega) ac wd ⟨(by omega), r.cast (by rw [show s.frm + (k + 1) = s.frm + k + 1 from rfl, handC_no ge_l_sfrmk (by omega) (hitD_who (of_decide_eq_false (by assumption)))]; try rfl) rfl⟩
   | true =>
    have qh2 := of_decide_eq_true h2
    have u1 := ((eqT (eqProcD _ _) h2) : EqAgg Tryz.prog 38 [(.int .i64 (e_l_sfrmk.who.node)), (.int .u64 (((e_l_sfrmk.who.inc : Nat) : Int)))] [(.int .i64 (p.node)), (.int .u64 (((p.inc : Nat) : Int)))] true)
    cases h3 : (decide (e_l_sfrmk.frm = m)) with
    | false =>
     have qh3 := of_decide_eq_false h3
     exact toHead (todo' := hd Tryz.f23 0) (E' := [(0, .d (.ro 13 (evs l))), (5, .pt 0 0), (6, .pt 1 0), (7, .pt 2 0), (9, .u (handC l s.frm (s.frm + k) p m)), (10, .n (s.frm + k + 1))]) (M' := [.bx 87 s.av, .bx 38 [.z p.node, .u p.inc], .bx 38 [.z m.node, .u m.inc]]) tk mo hK [(3, [(2, .z (((l.length : Nat) : Int))), (3, .b true)]), (4, [(1, .z (((s.frm + k + 1 : Nat) : Int)))]), (5, [(2, .ix (s.frm + k) e_l_sfrmk.row), (5, .b true), (9, .ix (s.frm + k) e_l_sfrmk.row), (13, .b true), (18, .ix (s.frm + k) e_l_sfrmk.row), (22, .b false)])] 2000 [0, 1, 2] [0, 5, 6, 7, 9, 10] r (by kernel_rfl) (an u0 (an h0 (an (rfI ((s.frm + k : Nat) : Int)) (an (evs_at ge_l_sfrmk) (an h1 (an (rfI ((s.frm + k : Nat) : Int)) (an (evs_at ge_l_sfrmk) (an u1 (an (rfI ((s.frm + k : Nat) : Int)) (an (evs_at ge_l_sfrmk) (an ((eqT (eqProcD _ _) h3) : EqAgg Tryz.prog 38 [(.int .i64 (e_l_sfrmk.frm.node)), (.int .u64 (((e_l_sfrmk.frm.inc : Nat) : Int)))] [(.int .i64 (m.node)), (.int .u64 (((m.inc : Nat) : Int)))] false) (an ((by first | exact wi (by omega) | exact wu (by omega)) : IntKind.i64.wrap (((s.frm + k : Nat) : Int) + 1) = ((s.frm + k + 1 : Nat) : Int)) trivial)))))))))))) fun ac wd r => again0 (by omega) ac wd ⟨(by omega), r.cast (by rw [show s.frm + (k + 1) = s.frm + k + 1 from rfl, handC_no ge_l_sfrmk (by omega) (hitD_frm (of_decide_eq_false (by assumption)))]; try rfl) rfl⟩
    | true =>
     have qh3 := of_decide_eq_true h3
     exact toHead (todo' := hd Tryz.f23 0) (E' := [(0, .d (.ro 13 (evs l))), (5, .pt 0 0), (6, .pt 1 0), (7, .pt 2 0), (9, .u (handC l s.frm (s.frm + k) p m + 1)), (10, .n (s.frm + k + 1))]) (M' := [.bx 87 s.av, .bx 38 [.z p.node, .u p.inc], .bx 38 [.z m.node, .u m.inc]]) tk mo hK [(3, [(2, .z (((l.length : Nat) : Int))), (3, .b true)]), (4, [(1, .z (((s.frm + k + 1 : Nat) : Int)))]), (5, [(2, .ix (s.frm + k) e_l_sfrmk.row), (5, .b true), (9, .ix (s.frm + k) e_l_sfrmk.row), (13, .b true), (18, .ix (s.frm + k) e_l_sfrmk.row), (22, .b true)]), (6, [(1, .z (((handC l s.frm (s.frm + k) p m + 1 : Nat) : Int)))])] 2000 [0, 1, 2] [0, 5, 6, 7, 9, 10] r (by kernel_rfl) (an u0 (an h0 (an (rfI ((s.frm + k : Nat) : Int)) (an (evs_at ge_l_sfrmk) (an h1 (an (rfI ((s.frm + k : Nat) : Int)) (an (evs_at ge_l_sfrmk) (an u1 (an (rfI ((s.frm + k : Nat) : Int)) (an (evs_at ge_l_sfrmk) (an ((eqT (eqProcD _ _) h3) : EqAgg Tryz.prog 38 [(.int .i64 (e_l_sfrmk.frm.node)), (.int .u64 (((e_l_sfrmk.frm.inc : Nat) : Int)))] [(.int .i64 (m.node)), (.int .u64 (((m.inc : Nat) : Int)))] true) (an ((by first | exact wi (by omega) | exact wu (by omega)) : IntKind.u64.wrap (((handC l s.frm (s.frm + k) p m : Nat) : Int) + 1) = ((handC l s.frm (s.frm + k) p m + 1 : Nat) : Int)) (an ((by first | exact wi (by omega) | exact wu (by omega)) : IntKind.i64.wrap (((s.frm + k : Nat) : Int) + 1) = ((s.frm + k + 1 : Nat) : Int)) trivial))))))))))))) fun ac wd r => again0 (by omega) ac wd ⟨(by omega), r.cast (by rw [show s.frm + (k + 1) = s.frm + k + 1 from rfl, handC_yes ge_l_sfrmk (by omega) (by omega) (of_decide_eq_true (by assumption)) (of_decide_eq_true (by assumption))]; try rfl) rfl⟩
theorem step_sent {s : RfS} {i : Nat} {e : Ev} (h6 : e.kind ≠ 6) (h5 : e.kind ≠ 5) : (s.step i e).view = s.view := by unfold RfS.step; rw [if_neg h6]; (repeat' split) <;> first | rfl | contradiction
theorem step_begun {s : RfS} {i : Nat} {e : Ev} (h6 : e.kind ≠ 6) : (s.step i e).begun = s.begun := by unfold RfS.step; rw [if_neg h6]; (repeat' split) <;> rfl
set_option maxRecDepth 100000 in
theorem refSent (l : List Ev) (id : Vid) (p : Proc) (n : Nat) (hb : l.length ≤ 1000) : Con Tryz.prog 24 [.d (.ro 13 (evs l)), .ag [.u id.round, .z id.server.node, .u id.server.inc], .ag [.z p.node, .u p.inc], .u n] (sentD (sentR l l.length id p n)) := by
 refine Con.intro (by kernel_rfl) rfl rfl 68 rfl rfl fun w0 K ac hK r => ?_
 refine toHead (todo' := hd Tryz.f24 0) (E' := [(0, .d (.ro 13 (evs l))), (3, .u n), (5, .pt 0 0), (6, .pt 1 0), (10, .pt 2 0), (11, .d (.v (.bool false))), (12, .n 0)]) (M' := [.bx 40 [.u id.round, .z id.server.node, .u id.server.inc], .bx 38 [.z p.node, .u p.inc], .bx 40 [.u ((rof l p 0).view.id.round), .z ((rof l p 0).view.id.server.node), .u ((rof l p 0).view.id.server.inc)]]) tk mo hK [] 2000 [0, 1, 2] [0, 3, 5, 6, 10, 11, 12] r (by kernel_rfl) trivial fun ac wd r => ?_
 refine Goes.rounds (Φ := fun (i : Nat) ac wd => ∃ bg : Bool, (i ≤ l.length ∧ (∀ j, j < i → hitS l id p n j = false) ∧ bg = (rof l p i).begun) ∧ RE' [] w0 K 68 [(0, .d (.ro 13 (evs l))), (3, .u n), (5, .pt 0 0), (6, .pt 1 0), (10, .pt 2 0), (11, .d (.v (.bool bg))), (12, .n i)] [.bx 40 [.u id.round, .z id.server.node, .u id.server.inc], .bx 38 [.z p.node, .u p.inc], .bx 40 [.u ((rof l p i).view.id.round), .z ((rof l p i).view.id.server.node), .u ((rof l p i).view.id.server.inc)]] ac wd) (l.length) ?_ (Nat.zero_le _) ⟨false, ⟨Nat.zero_le _, fun j hj => absurd hj (Nat.not_lt_zero _), rfl⟩, r⟩
 clear r
 rintro i hi0 again0 ac wd ⟨bg, hv0, r⟩
 obtain ⟨hi1, hv0, hbg⟩ := hv0
 cases bg with
 | false =>
  have u0 := ((by first | rfl | simp [bytesR]) : (((evs l).length : Nat) : Int) = ((l.length : Nat) : Int))
  cases h0 : (decide (((i : Nat) : Int) < ((l.length : Nat) : Int))) with
  | false =>
   have qh0 := of_decide_eq_false h0
   rw [show (sentD (sentR l l.length id p n) : DV) = .tu [.v (.string .empty), .v (.bool false)] from (by rw [sent_miss (i := i) (by omega) hv0]; rfl)]
   exact toRet tk mo hK rfl [(4, [(2, .z (((l.length : Nat) : Int))), (3, .b false)])] 2000 r (by kernel_rfl) (an u0 (an h0 trivial))
  | true =>
   have qh0 := of_decide_eq_true h0
   obtain ⟨e_l_i, ge_l_i⟩ : ∃ x, l[i]? = some x := ⟨_, List.getElem?_eq_getElem (by omega)⟩
   cases h1 : (decide (e_l_i.who = p)) with
   | false =>
    have qh1 := of_decide_eq_false h1
    exact toHead (todo' := hd Tryz.f24 0) (E' := [(0, .d (.ro 13 (evs l))), (3, .u n), (5, .pt 0 0), (6, .pt 1 0), (10, .pt 2 0), (11, .d (.v (.bool false))), (12, .n (i + 1))]) (M' := [.bx 40 [.u id.round, .z id.server.node, .u id.server.inc], .bx 38 [.z p.node, .u p.inc], .bx 40 [.u ((rof l p i).view.id.round), .z ((rof l p i).view.id.server.node), .u ((rof l p i).view.id.server.inc)]]) tk mo hK [(4, [(2, .z (((l.length : Nat) : Int))), (3, .b true)]), (5, [(1, .z (((i + 1 : Nat) : Int)))]), (6, [(2, .ix (i) e_l_i.row), (6, .b false)])] 2000 [0, 1, 2] [0, 3, 5, 6, 10, 11, 12] r (by kernel_rfl) (an u0 (an h0 (an (rfI ((i : Nat) : Int)) (an (evs_at ge_l_i) (an ((eqT (eqProcD _ _) h1) : EqAgg Tryz.prog 38 [(.int .i64 (e_l_i.who.node)), (.int .u64 (((e_l_i.who.inc : Nat) : Int)))] [(.int .i64 (p.node)), (.int .u64 (((p.inc : Nat) : Int)))] false) (an (wiS i (by omega)) trivial)))))) fun ac wd r => again0 (by omega) ac wd ⟨false, ⟨by omega, fun j hj => by rcases Nat.lt_succ_iff_lt_or_eq.1 hj with h | rfl; exact hv0 j h; unfold hitS; rw [ge_l_i]; dsimp only; first | (simp [h1, qh1, ← hbg]; done) | (simp [h1, qh1, ← hbg]; omega) | (simp [h1, qh1, ← hbg]; intros; omega), (by rw [rof_other ge_l_i (of_decide_eq_false (by assumption))]; exact hbg)⟩, r.cast rfl (by rw [rof_other ge_l_i (of_decide_eq_false (by assumption))])⟩
   | true =>
    have qh1 := of_decide_eq_true h1
    have u1 := ((eqT (eqProcD _ _) h1) : EqAgg Tryz.prog 38 [(.int .i64 (e_l_i.who.node)), (.int .u64 (((e_l_i.who.inc : Nat) : Int)))] [(.int .i64 (p.node)), (.int .u64 (((p.inc : Nat) : Int)))] true)
    cases h2 : ((e_l_i.kind : Int) == 6) with
    | false =>
     have qh2 := ne_of_beq_false h2
     cases h3 : ((e_l_i.kind : Int) == 5) with
     | false =>
      have qh3 := ne_of_beq_false h3
      cases h4 : ((e_l_i.kind : Int) == 1) with
      | false =>
       have qh4 := ne_of_beq_false h4
       exact toHead (todo' := hd Tryz.f24 0) (E' := [(0, .d (.ro 13 (evs l))), (3, .u n), (5, .pt 0 0), (6, .pt 1 0), (10, .pt 2 0), (11, .d (.v (.bool false))), (12, .n (i + 1))]) (M' := [.bx 40 [.u id.round, .z id.server.node, .u id.server.inc], .bx 38 [.z p.node, .u p.inc], .bx 40 [.u ((rof l p i).view.id.round), .z ((rof l p i).view.id.server.node), .u ((rof l p i).view.id.server.inc)]]) tk mo hK [(4, [(2, .z (((l.length : Nat) : Int))), (3, .b true)]), (5, [(1, .z (((i + 1 : Nat) : Int)))]), (6, [(2, .ix (i) e_l_i.row), (6, .b true)]), (7, [(2, .ix (i) e_l_i.row)]), (8, [(0, .b false)]), (11, [(0, .b false)]), (13, [(0, .b false)])] 2000 [0, 1, 2] [0, 3, 5, 6, 10, 11, 12] r (by kernel_rfl) (an u0 (an h0 (an (rfI ((i : Nat) : Int)) (an (evs_at ge_l_i) (an u1 (an (rfI ((i : Nat) : Int)) (an (evs_at ge_l_i) (an h2 (an h3 (an h4 (an (wiS i (by omega)) trivial))))))))))) fun ac wd r => again0 (by omega) ac wd ⟨false, ⟨by omega, fun j hj => by rcases Nat.lt_succ_iff_lt_or_eq.1 hj with h | rfl; exact hv0 j h; unfold hitS; rw [ge_l_i]; dsimp only; first | (simp [h1, qh1, h2, qh2, h3, qh3, h4, qh4, ← hbg]; done) | (simp [h1, qh1, h2, qh2, h3, qh3, h4, qh4, ← hbg]; omega) | (simp [h1, qh1, h2, qh2, h3, qh3, h4, qh4, ← hbg]; intros; omega), (by rw [rof_who ge_l_i (of_decide_eq_true (by assumption)), step_begun (by omega)]; exact hbg)⟩, r.cast rfl (by rw [rof_who ge_l_i (of_decide_eq_true (by assumption)), step_sent (by omega) (by omega)])⟩
      | true =>
       have qh4 := eq_of_beq h4
       exact toHead (todo' := hd Tryz.f24 0) (E' := [(0, .d (.ro 13 (evs l))), (3, .u n), (5, .pt 0 0), (6, .pt 1 0), (10, .pt 2 0), (11, .d (.v (.bool false))), (12, .n (i + 1))]) (M' := [.bx 40 [.u id.round, .z id.server.node, .u id.server.inc], .bx 38 [.z p.node, .u p.inc], .bx 40 [.u ((rof l p i).view.id.round), .z ((rof l p i).view.id.server.node), .u ((rof l p i).view.id.server.inc)]]) tk mo hK [(4, [(2, .z (((l.length : Nat) : Int))), (3, .b true)]), (5, [(1, .z (((i + 1 : Nat) : Int)))]), (6, [(2, .ix (i) e_l_i.row), (6, .b true)]), (7, [(2, .ix (i) e_l_i.row)]), (8, [(0, .b false)]), (11, [(0, .b false)]), (13, [(0, .b true)])] 2000 [0, 1, 2] [0, 3, 5, 6, 10, 11, 12] r (by kernel_rfl) (an u0 (an h0 (an (rfI ((i : Nat) : Int)) (an (evs_at ge_l_i) (an u1 (an (rfI ((i : Nat) : Int)) (an (evs_at ge_l_i) (an h2 (an h3 (an h4 (an (wiS i (by omega)) trivial))))))))))) fun ac wd r => again0 (by omega) ac wd ⟨false, ⟨by omega, fun j hj => by rcases Nat.lt_succ_iff_lt_or_eq.1 hj with h | rfl; exact hv0 j h; unfold hitS; rw [ge_l_i]; dsimp only; first | (simp [h1, qh1, h2, qh2, h3, qh3, h4, qh4, ← hbg]; done) | (simp [h1, qh1, h2, qh2, h3, qh3, h4, qh4, ← hbg]; omega) | (simp [h1, qh1, h2, qh2, h3, qh3, h4, qh4, ← hbg]; intros; omega), (by rw [rof_who ge_l_i (of_decide_eq_true (by assumption)), step_begun (by omega)]; exact hbg)⟩, r.cast rfl (by rw [rof_who ge_l_i (of_decide_eq_true (by assumption)), step_sent (by omega) (by omega)])⟩
     | true =>
      have qh3 := eq_of_beq h3
      exact toHead (todo' := hd Tryz.f24 0) (E' := [(0, .d (.ro 13 (evs l))), (3, .u n), (5, .pt 0 0), (6, .pt 1 0), (10, .pt 2 0), (11, .d (.v (.bool false))), (12, .n (i + 1))]) (M' := [.bx 40 [.u id.round, .z id.server.node, .u id.server.inc], .bx 38 [.z p.node, .u p.inc], .bx 40 [.u e_l_i.view.id.round, .z e_l_i.view.id.server.node, .u e_l_i.view.id.server.inc]]) tk mo hK [(4, [(2, .z (((l.length : Nat) : Int))), (3, .b true)]), (5, [(1, .z (((i + 1 : Nat) : Int)))]), (6, [(2, .ix (i) e_l_i.row), (6, .b true)]), (7, [(2, .ix (i) e_l_i.row)]), (8, [(0, .b false)]), (11, [(0, .b true)]), (12, [(2, .ix (i) e_l_i.row)])] 2000 [0, 1, 2] [0, 3, 5, 6, 10, 11, 12] r (by kernel_rfl) (an u0 (an h0 (an (rfI ((i : Nat) : Int)) (an (evs_at ge_l_i) (an u1 (an (rfI ((i : Nat) : Int)) (an (evs_at ge_l_i) (an h2 (an h3 (an (rfI ((i : Nat) : Int)) (an (evs_at ge_l_i) (an (wiS i (by omega)) trivial)))))))))))) fun ac wd r => again0 (by omega) ac wd ⟨false, ⟨by omega, fun j hj => by rcases Nat.lt_succ_iff_lt_or_eq.1 hj with h | rfl; exact hv0 j h; unfold hitS; rw [ge_l_i]; dsimp only; first | (simp [h1, qh1, h2, qh2, h3, qh3, ← hbg]; done) | (simp [h1, qh1, h2, qh2, h3, qh3, ← hbg]; omega) | (simp [h1, qh1, h2, qh2, h3, qh3, ← hbg]; intros; omega), (by rw [rof_who ge_l_i (of_decide_eq_true (by assumption)), step_begun (by omega)]; exact hbg)⟩, r.cast rfl (by rw [rof_who ge_l_i (of_decide_eq_true (by assumption)), step5 (by omega)])⟩
    | true =>
     have qh2 := eq_of_beq h2
     exact toHead (todo' := hd Tryz.f24 0) (E' := [(0, .d (.ro 13 (evs l))), (3, .u n), (5, .pt 0 0), (6, .pt 1 0), (10, .pt 2 0), (11, .d (.v (.bool true))), (12, .n (i + 1))]) (M' := [.bx 40 [.u id.round, .z id.server.node, .u id.server.inc], .bx 38 [.z p.node, .u p.inc], .bx 40 [.d (.v (.int .u64 0)), .z p.node, .u p.inc]]) tk mo hK [(4, [(2, .z (((l.length : Nat) : Int))), (3, .b true)]), (5, [(1, .z (((i + 1 : Nat) : Int)))]), (6, [(2, .ix (i) e_l_i.row), (6, .b true)]), (7, [(2, .ix (i) e_l_i.row)]), (8, [(0, .b true)]), (9, [(1, .con (.ag [.v (.int .u64 0), .z p.node, .u p.inc, .em 38 2 (procs [p]), .em 36 1 (nums [0])]))])] 2000 [0, 1, 2] [0, 3, 5, 6, 10, 11, 12] r (by kernel_rfl) (an u0 (an h0 (an (rfI ((i : Nat) : Int)) (an (evs_at ge_l_i) (an u1 (an (rfI ((i : Nat) : Int)) (an (evs_at ge_l_i) (an h2 (an (refFirst p) (an (wiS i (by omega)) trivial)))))))))) fun ac wd r => again0 (by omega) ac wd ⟨true, ⟨by omega, fun j hj => by rcases Nat.lt_succ_iff_lt_or_eq.1 hj with h | rfl; exact hv0 j h; unfold hitS; rw [ge_l_i]; dsimp only; first | (simp [h1, qh1, h2, qh2, ← hbg]; done) | (simp [h1, qh1, h2, qh2, ← hbg]; omega) | (simp [h1, qh1, h2, qh2, ← hbg]; intros; omega), (by rw [rof_who ge_l_i (of_decide_eq_true (by assumption)), step6 (by omega)])⟩, r.cast rfl (by rw [rof_who ge_l_i (of_decide_eq_true (by assumption)), step6 (by omega), of_decide_eq_true (show decide (e_l_i.who = p) = true by assumption)]; rfl)⟩
 | true =>
  have u2 := ((by first | rfl | simp [bytesR]) : (((evs l).length : Nat) : Int) = ((l.length : Nat) : Int))
  cases h5 : (decide (((i : Nat) : Int) < ((l.length : Nat) : Int))) with
  | false =>
   have qh5 := of_decide_eq_false h5
   rw [show (sentD (sentR l l.length id p n) : DV) = .tu [.v (.string .empty), .v (.bool false)] from (by rw [sent_miss (i := i) (by omega) hv0]; rfl)]
   exact toRet tk mo hK rfl [(4, [(2, .z (((l.length : Nat) : Int))), (3, .b false)])] 2000 r (by kernel_rfl) (an u2 (an h5 trivial))
  | true =>
   have qh5 := of_decide_eq_true h5
   obtain ⟨e_l_i, ge_l_i⟩ : ∃ x, l[i]? = some x := ⟨_, List.getElem?_eq_getElem (by omega)⟩
   cases h6 : (decide (e_l_i.who = p)) with
   | false =>
    have qh6 := of_decide_eq_false h6
    exact toHead (todo' := hd Tryz.f24 0) (E' := [(0, .d (.ro 13 (evs l))), (3, .u n), (5, .pt 0 0), (6, .pt 1 0), (10, .pt 2 0), (11, .d (.v (.bool true))), (12, .n (i + 1))]) (M' := [.bx 40 [.u id.round, .z id.server.node, .u id.server.inc], .bx 38 [.z p.node, .u p.inc], .bx 40 [.u ((rof l p i).view.id.round), .z ((rof l p i).view.id.server.node), .u ((rof l p i).view.id.server.inc)]]) tk mo hK [(4, [(2, .z (((l.length : Nat) : Int))), (3, .b true)]), (5, [(1, .z (((i + 1 : Nat) : Int)))]), (6, [(2, .ix (i) e_l_i.row), (6, .b false)])] 2000 [0, 1, 2] [0, 3, 5, 6, 10, 11, 12] r (by kernel_rfl) (an u2 (an h5 (an (rfI ((i : Nat) : Int)) (an (evs_at ge_l_i) (an ((eqT (eqProcD _ _) h6) : EqAgg Tryz.prog 38 [(.int .i64 (e_l_i.who.node)), (.int .u64 (((e_l_i.who.inc : Nat) : Int)))] [(.int .i64 (p.node)), (.int .u64 (((p.inc : Nat) : Int)))] false) (an (wiS i (by omega)) trivial)))))) fun ac wd r => again0 (by omega) ac wd ⟨true, ⟨by omega, fun j hj => by rcases Nat.lt_succ_iff_lt_or_eq.1 hj with h | rfl; exact hv0 j h; unfold hitS; rw [ge_l_i]; dsimp only; first | (simp [h6, qh6, ← hbg]; done) | (simp [h6, qh6, ← hbg]; omega) | (simp [h6, qh6, ← hbg]; intros; omega), (by rw [rof_other ge_l_i (of_decide_eq_false (by assumption))]; exact hbg)⟩, r.cast rfl (by rw [rof_other ge_l_i (of_decide_eq_false (by assumption))])⟩
   | true =>
    have qh6 := of_decide_eq_true h6
    have u3 := ((eqT (eqProcD _ _) h6) : EqAgg Tryz.prog 38 [(.int .i64 (e_l_i.who.node)), (.int .u64 (((e_l_i.who.inc : Nat) : Int)))] [(.int .i64 (p.node)), (.int .u64 (((p.inc : Nat) : Int)))] true)
    cases h7 : ((e_l_i.kind : Int) == 6) with
    | false =>
     have qh7 := ne_of_beq_false h7
     cases h8 : ((e_l_i.kind : Int) == 5) with
     | false =>
      have qh8 := ne_of_beq_false h8
      cases h9 : ((e_l_i.kind : Int) == 1) with
      | false =>
       have qh9 := ne_of_beq_false h9
       exact toHead (todo' := hd Tryz.f24 0) (E' := [(0, .d (.ro 13 (evs l))), (3, .u n), (5, .pt 0 0), (6, .pt 1 0), (10, .pt 2 0), (11, .d (.v (.bool true))), (12, .n (i + 1))]) (M' := [.bx 40 [.u id.round, .z id.server.node, .u id.server.inc], .bx 38 [.z p.node, .u p.inc], .bx 40 [.u ((rof l p i).view.id.round), .z ((rof l p i).view.id.server.node), .u ((rof l p i).view.id.server.inc)]]) tk mo hK [(4, [(2, .z (((l.length : Nat) : Int))), (3, .b true)]), (5, [(1, .z (((i + 1 : Nat) : Int)))]), (6, [(2, .ix (i) e_l_i.row), (6, .b true)]), (7, [(2, .ix (i) e_l_i.row)]), (8, [(0, .b false)]), (11, [(0, .b false)]), (13, [(0, .b false)])] 2000 [0, 1, 2] [0, 3, 5, 6, 10, 11, 12] r (by kernel_rfl) (an u2 (an h5 (an (rfI ((i : Nat) : Int)) (an (evs_at ge_l_i) (an u3 (an (rfI ((i : Nat) : Int)) (an (evs_at ge_l_i) (an h7 (an h8 (an h9 (an (wiS i (by omega)) trivial))))))))))) fun ac wd r => again0 (by omega) ac wd ⟨true, ⟨by omega, fun j hj => by rcases Nat.lt_succ_iff_lt_or_eq.1 hj with h | rfl; exact hv0 j h; unfold hitS; rw [ge_l_i]; dsimp only; first | (simp [h6, qh6, h7, qh7, h8, qh8, h9, qh9, ← hbg]; done) | (simp [h6, qh6, h7, qh7, h8, qh8, h9, qh9, ← hbg]; omega) | (simp [h6, qh6, h7, qh7, h8, qh8, h9, qh9, ← hbg]; intros; omega), (by rw [rof_who ge_l_i (of_decide_eq_true (by assumption)), step_begun (by omega)]; exact hbg)⟩, r.cast rfl (by rw [rof_who ge_l_i (of_decide_eq_true (by assumption)), step_sent (by omega) (by omega)])⟩
      | true =>
       have qh9 := eq_of_beq h9
       cases h10 : (decide ((rof l p i).view.id = id)) with
       | false =>
        have qh10 := of_decide_eq_false h10
        exact toHead (todo' := hd Tryz.f24 0) (E' := [(0, .d (.ro 13 (evs l))), (3, .u n), (5, .pt 0 0), (6, .pt 1 0), (10, .pt 2 0), (11, .d (.v (.bool true))), (12, .n (i + 1))]) (M' := [.bx 40 [.u id.round, .z id.server.node, .u id.server.inc], .bx 38 [.z p.node, .u p.inc], .bx 40 [.u ((rof l p i).view.id.round), .z ((rof l p i).view.id.server.node), .u ((rof l p i).view.id.server.inc)]]) tk mo hK [(4, [(2, .z (((l.length : Nat) : Int))), (3, .b true)]), (5, [(1, .z (((i + 1 : Nat) : Int)))]), (6, [(2, .ix (i) e_l_i.row), (6, .b true)]), (7, [(2, .ix (i) e_l_i.row)]), (8, [(0, .b false)]), (11, [(0, .b false)]), (13, [(0, .b true)]), (14, [(4, .b false)])] 2000 [0, 1, 2] [0, 3, 5, 6, 10, 11, 12] r (by kernel_rfl) (an u2 (an h5 (an (rfI ((i : Nat) : Int)) (an (evs_at ge_l_i) (an u3 (an (rfI ((i : Nat) : Int)) (an (evs_at ge_l_i) (an h7 (an h8 (an h9 (an ((eqT (eqVid _ _) h10) : EqAgg Tryz.prog 40 [(.int .u64 ((((rof l p i).view.id.round : Nat) : Int))), (.int .i64 ((rof l p i).view.id.server.node)), (.int .u64 ((((rof l p i).view.id.server.inc : Nat) : Int)))] [(.int .u64 (((id.round : Nat) : Int))), (.int .i64 (id.server.node)), (.int .u64 (((id.server.inc : Nat) : Int)))] false) (an (wiS i (by omega)) trivial)))))))))))) fun ac wd r => again0 (by omega) ac wd ⟨true, ⟨by omega, fun j hj => by rcases Nat.lt_succ_iff_lt_or_eq.1 hj with h | rfl; exact hv0 j h; unfold hitS; rw [ge_l_i]; dsimp only; first | (simp [h6, qh6, h7, qh7, h8, qh8, h9, qh9, h10, qh10, ← hbg]; done) | (simp [h6, qh6, h7, qh7, h8, qh8, h9, qh9, h10, qh10, ← hbg]; omega) | (simp [h6, qh6, h7, qh7, h8, qh8, h9, qh9, h10, qh10, ← hbg]; intros; omega), (by rw [rof_who ge_l_i (of_decide_eq_true (by assumption)), step_begun (by omega)]; exact hbg)⟩, r.cast rfl (by rw [rof_who ge_l_i (of_decide_eq_true (by assumption)), step_sent (by omega) (by omega)])⟩
       | true =>
        have qh10 := of_decide_eq_true h10
        have u4 := ((eqT (eqVid _ _) h10) : EqAgg Tryz.prog 40 [(.int .u64 ((((rof l p i).view.id.round : Nat) : Int))), (.int .i64 ((rof l p i).view.id.server.node)), (.int .u64 ((((rof l p i).view.id.server.inc : Nat) : Int)))] [(.int .u64 (((id.round : Nat) : Int))), (.int .i64 (id.server.node)), (.int .u64 (((id.server.inc : Nat) : Int)))] true)
        cases h11 : (((e_l_i.n : Nat) : Int) == ((n : Nat) : Int)) with
        | false =>
         have qh11 := ne_of_beq_false h11
         exact toHead (todo' := hd Tryz.f24 0) (E' := [(0, .d (.ro 13 (evs l))), (3, .u n), (5, .pt 0 0), (6, .pt 1 0), (10, .pt 2 0), (11, .d (.v (.bool true))), (12, .n (i + 1))]) (M' := [.bx 40 [.u id.round, .z id.server.node, .u id.server.inc], .bx 38 [.z p.node, .u p.inc], .bx 40 [.u ((rof l p i).view.id.round), .z ((rof l p i).view.id.server.node), .u ((rof l p i).view.id.server.inc)]]) tk mo hK [(4, [(2, .z (((l.length : Nat) : Int))), (3, .b true)]), (5, [(1, .z (((i + 1 : Nat) : Int)))]), (6, [(2, .ix (i) e_l_i.row), (6, .b true)]), (7, [(2, .ix (i) e_l_i.row)]), (8, [(0, .b false)]), (11, [(0, .b false)]), (13, [(0, .b true)]), (14, [(4, .b true), (9, .ix (i) e_l_i.row), (13, .b false)])] 2000 [0, 1, 2] [0, 3, 5, 6, 10, 11, 12] r (by kernel_rfl) (an u2 (an h5 (an (rfI ((i : Nat) : Int)) (an (evs_at ge_l_i) (an u3 (an (rfI ((i : Nat) : Int)) (an (evs_at ge_l_i) (an h7 (an h8 (an h9 (an u4 (an (rfI ((i : Nat) : Int)) (an (evs_at ge_l_i) (an h11 (an (wiS i (by omega)) trivial))))))))))))))) fun ac wd r => again0 (by omega) ac wd ⟨true, ⟨by omega, fun j hj => by rcases Nat.lt_succ_iff_lt_or_eq.1 hj with h | rfl; exact hv0 j h; unfold hitS; rw [ge_l_i]; dsimp only; first | (simp [h6, qh6, h7, qh7, h8, qh8, h9, qh9, h10, qh10, h11, qh11, ← hbg]; done) | (simp [h6, qh6, h7, qh7, h8, qh8, h9, qh9, h10, qh10, h11, qh11, ← hbg]; omega) | (simp [h6, qh6, h7, qh7, h8, qh8, h9, qh9, h10, qh10, h11, qh11, ← hbg]; intros; omega), (by rw [rof_who ge_l_i (of_decide_eq_true (by assumption)), step_begun (by omega)]; exact hbg)⟩, r.cast rfl (by rw [rof_who ge_l_i (of_decide_eq_true (by assumption)), step_sent (by omega) (by omega)])⟩
        | true =>
         have qh11 := eq_of_beq h11
         rw [show (sentD (sentR l l.length id p n) : DV) = .tu [.v (.string ⟨(e_l_i.body).toArray⟩), .v (.bool true)] from (by rw [sent_hit hv0 ge_l_i (by unfold hitS; rw [ge_l_i]; dsimp only; first | (simp [h6, qh6, h7, qh7, h8, qh8, h9, qh9, h10, qh10, h11, qh11, ← hbg]; done) | (simp [h6, qh6, h7, qh7, h8, qh8, h9, qh9, h10, qh10, h11, qh11, ← hbg]; omega) | (simp [h6, qh6, h7, qh7, h8, qh8, h9, qh9, h10, qh10, h11, qh11, ← hbg]; intros; omega))]; rfl)]
         exact toRet tk mo hK rfl [(4, [(2, .z (((l.length : Nat) : Int))), (3, .b true)]), (6, [(2, .ix (i) e_l_i.row), (6, .b true)]), (7, [(2, .ix (i) e_l_i.row)]), (8, [(0, .b false)]), (11, [(0, .b false)]), (13, [(0, .b true)]), (14, [(4, .b true), (9, .ix (i) e_l_i.row), (13, .b true)]), (15, [(2, .ix (i) e_l_i.row), (5, .res (.v (.string ⟨(e_l_i.body).toArray⟩)))])] 2000 r (by kernel_rfl) (an u2 (an h5 (an (rfI ((i : Nat) : Int)) (an (evs_at ge_l_i) (an u3 (an (rfI ((i : Nat) : Int)) (an (evs_at ge_l_i) (an h7 (an h8 (an h9 (an u4 (an (rfI ((i : Nat) : Int)) (an (evs_at ge_l_i) (an h11 (an (rfI ((i : Nat) : Int)) (an (evs_at ge_l_i) (an (rfl : bytesR e_l_i.body = bytesR (e_l_i.body)) trivial)))))))))))))))))
     | true =>
      have qh8 := eq_of_beq h8
      exact toHead (todo' := hd Tryz.f24 0) (E' := [(0, .d (.ro 13 (evs l))), (3, .u n), (5, .pt 0 0), (6, .pt 1 0), (10, .pt 2 0), (11, .d (.v (.bool true))), (12, .n (i + 1))]) (M' := [.bx 40 [.u id.round, .z id.server.node, .u id.server.inc], .bx 38 [.z p.node, .u p.inc], .bx 40 [.u e_l_i.view.id.round, .z e_l_i.view.id.server.node, .u e_l_i.view.id.server.inc]]) tk mo hK [(4, [(2, .z (((l.length : Nat) : Int))), (3, .b true)]), (5, [(1, .z (((i + 1 : Nat) : Int)))]), (6, [(2, .ix (i) e_l_i.row), (6, .b true)]), (7, [(2, .ix (i) e_l_i.row)]), (8, [(0, .b false)]), (11, [(0, .b true)]), (12, [(2, .ix (i) e_l_i.row)])] 2000 [0, 1, 2] [0, 3, 5, 6, 10, 11, 12] r (by kernel_rfl) (an u2 (an h5 (an (rfI ((i : Nat) : Int)) (an (evs_at ge_l_i) (an u3 (an (rfI ((i : Nat) : Int)) (an (evs_at ge_l_i) (an h7 (an h8 (an (rfI ((i : Nat) : Int)) (an (evs_at ge_l_i) (an (wiS i (by omega)) trivial)))))))))))) fun ac wd r => again0 (by omega) ac wd ⟨true, ⟨by omega, fun j hj => by rcases Nat.lt_succ_iff_lt_or_eq.1 hj with h | rfl; exact hv0 j h; unfold hitS; rw [ge_l_i]; dsimp only; first | (simp [h6, qh6, h7, qh7, h8, qh8, ← hbg]; done) | (simp [h6, qh6, h7, qh7, h8, qh8, ← hbg]; omega) | (simp [h6, qh6, h7, qh7, h8, qh8, ← hbg]; intros; omega), (by rw [rof_who ge_l_i (of_decide_eq_true (by assumption)), step_begun (by omega)]; exact hbg)⟩, r.cast rfl (by rw [rof_who ge_l_i (of_decide_eq_true (by assumption)), step5 (by omega)])⟩
    | true =>
     have qh7 := eq_of_beq h7
     exact toHead (todo' := hd Tryz.f24 0) (E' := [(0, .d (.ro 13 (evs l))), (3, .u n), (5, .pt 0 0), (6, .pt 1 0), (10, .pt 2 0), (11, .d (.v (.bool true))), (12, .n (i + 1))]) (M' := [.bx 40 [.u id.round, .z id.server.node, .u id.server.inc], .bx 38 [.z p.node, .u p.inc], .bx 40 [.d (.v (.int .u64 0)), .z p.node, .u p.inc]]) tk mo hK [(4, [(2, .z (((l.length : Nat) : Int))), (3, .b true)]), (5, [(1, .z (((i + 1 : Nat) : Int)))]), (6, [(2, .ix (i) e_l_i.row), (6, .b true)]), (7, [(2, .ix (i) e_l_i.row)]), (8, [(0, .b true)]), (9, [(1, .con (.ag [.v (.int .u64 0), .z p.node, .u p.inc, .em 38 2 (procs [p]), .em 36 1 (nums [0])]))])] 2000 [0, 1, 2] [0, 3, 5, 6, 10, 11, 12] r (by kernel_rfl) (an u2 (an h5 (an (rfI ((i : Nat) : Int)) (an (evs_at ge_l_i) (an u3 (an (rfI ((i : Nat) : Int)) (an (evs_at ge_l_i) (an h7 (an (refFirst p) (an (wiS i (by omega)) trivial)))))))))) fun ac wd r => again0 (by omega) ac wd ⟨true, ⟨by omega, fun j hj => by rcases Nat.lt_succ_iff_lt_or_eq.1 hj with h | rfl; exact hv0 j h; unfold hitS; rw [ge_l_i]; dsimp only; first | (simp [h6, qh6, h7, qh7, ← hbg]; done) | (simp [h6, qh6, h7, qh7, ← hbg]; omega) | (simp [h6, qh6, h7, qh7, ← hbg]; intros; omega), (by rw [rof_who ge_l_i (of_decide_eq_true (by assumption)), step6 (by omega)])⟩, r.cast rfl (by rw [rof_who ge_l_i (of_decide_eq_true (by assumption)), step6 (by omega), of_decide_eq_true (show decide (e_l_i.who = p) = true by assumption)]; rfl)⟩
set_option maxRecDepth 100000 in
theorem refBegin (l : List Ev) (p : Proc) (hb : l.length ≤ 1000) : Con Tryz.prog 20 [.d (.ro 13 (evs l)), .ag [.z p.node, .u p.inc]] (.v (.int .i64 (begErr l p))) := by
 refine Con.intro (by kernel_rfl) rfl rfl 47 rfl rfl fun w0 K ac hK r => ?_
 cases h0 : (p.may) with
 | false =>
  rw [show (.v (.int .i64 (begErr l p)) : DV) = .z 230 from (by rw [begErr_may (by assumption)])]
  exact toRet tk mo hK rfl [(1, [(1, .con (.v (.bool false)))])] 2000 r (by kernel_rfl) (an ((by have k := refProcMay p; rw [h0] at k; exact k) : Con Tryz.prog 48 [.ag [.z p.node, .u p.inc]] (.v (.bool false))) trivial)
 | true =>
  refine toHead (todo' := hd Tryz.f20 0) (E' := [(0, .d (.ro 13 (evs l))), (3, .pt 0 0), (5, .n 0)]) (M' := [.bx 38 [.z p.node, .u p.inc]]) tk mo hK [(1, [(1, .con (.v (.bool true)))])] 2000 [0] [0, 3, 5] r (by kernel_rfl) (an ((by have k := refProcMay p; rw [h0] at k; exact k) : Con Tryz.prog 48 [.ag [.z p.node, .u p.inc]] (.v (.bool true))) trivial) fun ac wd r => ?_
  refine Goes.rounds (Φ := fun (i : Nat) ac wd => (i ≤ l.length ∧ ∀ j o, j < i → l[j]? = some o → begB l p o = false) ∧ RE' [] w0 K 47 [(0, .d (.ro 13 (evs l))), (3, .pt 0 0), (5, .n i)] [.bx 38 [.z p.node, .u p.inc]] ac wd) (l.length) ?_ (Nat.zero_le _) ⟨⟨Nat.zero_le _, fun j o hj => absurd hj (Nat.not_lt_zero _)⟩, r⟩
  clear r
  rintro i hi0 again0 ac wd ⟨hv0, r⟩
  obtain ⟨hi1, hv0⟩ := hv0
  have u0 := ((by first | rfl | simp [bytesR]) : (((evs l).length : Nat) : Int) = ((l.length : Nat) : Int))
  cases h1 : (decide (((i : Nat) : Int) < ((l.length : Nat) : Int))) with
  | false =>
   have qh1 := of_decide_eq_false h1
   rw [show (.v (.int .i64 (begErr l p)) : DV) = .z 0 from (by rw [begErr_no (by assumption) (i := i) (by omega) hv0])]
   exact toRet tk mo hK rfl [(4, [(2, .z (((l.length : Nat) : Int))), (3, .b false)])] 2000 r (by kernel_rfl) (an u0 (an h1 trivial))
  | true =>
   have qh1 := of_decide_eq_true h1
   obtain ⟨e_l_i, ge_l_i⟩ : ∃ x, l[i]? = some x := ⟨_, List.getElem?_eq_getElem (by omega)⟩
   cases h2 : ((e_l_i.kind : Int) == 6) with
   | false =>
    have qh2 := ne_of_beq_false h2
    exact toHead (todo' := hd Tryz.f20 0) tk mo hK [(4, [(2, .z (((l.length : Nat) : Int))), (3, .b true)]), (5, [(1, .z (((i + 1 : Nat) : Int)))]), (6, [(2, .ix (i) e_l_i.row)]), (7, [(2, .ix (i) e_l_i.row), (5, .b false)])] 2000 [0] [0, 3, 5] r (by kernel_rfl) (an u0 (an h1 (an (rfI ((i : Nat) : Int)) (an (evs_at ge_l_i) (an (rfI ((i : Nat) : Int)) (an (evs_at ge_l_i) (an h2 (an (wiS i (by omega)) trivial)))))))) fun ac wd r => again0 (by omega) ac wd ⟨⟨by omega, fun j o hj ho => by rcases Nat.lt_succ_iff_lt_or_eq.1 hj with h | rfl; exact hv0 j o h ho; rw [ge_l_i] at ho; cases ho; unfold begB; first | (simp [h2, qh2]; done) | (simp [h2, qh2]; omega) | (simp [h2, qh2]; intros; omega)⟩, r⟩
   | true =>
    have qh2 := eq_of_beq h2
    cases h3 : ((e_l_i.who.node : Int) == p.node) with
    | false =>
     have qh3 := ne_of_beq_false h3
     exact toHead (todo' := hd Tryz.f20 0) tk mo hK [(4, [(2, .z (((l.length : Nat) : Int))), (3, .b true)]), (5, [(1, .z (((i + 1 : Nat) : Int)))]), (6, [(2, .ix (i) e_l_i.row)]), (7, [(2, .ix (i) e_l_i.row), (5, .b true), (11, .b false)])] 2000 [0] [0, 3, 5] r (by kernel_rfl) (an u0 (an h1 (an (rfI ((i : Nat) : Int)) (an (evs_at ge_l_i) (an (rfI ((i : Nat) : Int)) (an (evs_at ge_l_i) (an h2 (an h3 (an (wiS i (by omega)) trivial))))))))) fun ac wd r => again0 (by omega) ac wd ⟨⟨by omega, fun j o hj ho => by rcases Nat.lt_succ_iff_lt_or_eq.1 hj with h | rfl; exact hv0 j o h ho; rw [ge_l_i] at ho; cases ho; unfold begB; first | (simp [h2, qh2, h3, qh3]; done) | (simp [h2, qh2, h3, qh3]; omega) | (simp [h2, qh2, h3, qh3]; intros; omega)⟩, r⟩
    | true =>
     have qh3 := eq_of_beq h3
     cases h4 : (decide (((p.inc : Nat) : Int) ≤ ((e_l_i.who.inc : Nat) : Int))) with
     | false =>
      have qh4 := of_decide_eq_false h4
      cases h5 : ((rof l e_l_i.who l.length).on) with
      | false =>
       exact toHead (todo' := hd Tryz.f20 0) tk mo hK [(4, [(2, .z (((l.length : Nat) : Int))), (3, .b true)]), (5, [(1, .z (((i + 1 : Nat) : Int)))]), (6, [(2, .ix (i) e_l_i.row)]), (7, [(2, .ix (i) e_l_i.row), (5, .b true), (11, .b true), (18, .b false), (22, .con (.ag ((rof l e_l_i.who l.length).cel false)))])] 2000 [0] [0, 3, 5] r (by kernel_rfl) (an u0 (an h1 (an (rfI ((i : Nat) : Int)) (an (evs_at ge_l_i) (an (rfI ((i : Nat) : Int)) (an (evs_at ge_l_i) (an h2 (an h3 (an h4 (an ((by have k := refOf l e_l_i.who (by omega); rw [h5] at k; exact k) : Con Tryz.prog 21 [.d (.ro 13 (evs l)), .ag [.z e_l_i.who.node, .u e_l_i.who.inc]] (.ag ((rof l e_l_i.who l.length).cel false))) (an (wiS i (by omega)) trivial))))))))))) fun ac wd r => again0 (by omega) ac wd ⟨⟨by omega, fun j o hj ho => by rcases Nat.lt_succ_iff_lt_or_eq.1 hj with h | rfl; exact hv0 j o h ho; rw [ge_l_i] at ho; cases ho; unfold begB; first | (simp [h2, qh2, h3, qh3, h4, qh4, h5]; done) | (simp [h2, qh2, h3, qh3, h4, qh4, h5]; omega) | (simp [h2, qh2, h3, qh3, h4, qh4, h5]; intros; omega)⟩, r⟩
      | true =>
       rw [show (.v (.int .i64 (begErr l p)) : DV) = .z 230 from (by rw [begErr_hit (by assumption) ge_l_i (by omega) (by omega) (.inr (by assumption))])]
       exact toRet tk mo hK rfl [(4, [(2, .z (((l.length : Nat) : Int))), (3, .b true)]), (6, [(2, .ix (i) e_l_i.row)]), (7, [(2, .ix (i) e_l_i.row), (5, .b true), (11, .b true), (18, .b false), (22, .con (.ag ((rof l e_l_i.who l.length).cel true)))])] 2000 r (by kernel_rfl) (an u0 (an h1 (an (rfI ((i : Nat) : Int)) (an (evs_at ge_l_i) (an (rfI ((i : Nat) : Int)) (an (evs_at ge_l_i) (an h2 (an h3 (an h4 (an ((by have k := refOf l e_l_i.who (by omega); rw [h5] at k; exact k) : Con Tryz.prog 21 [.d (.ro 13 (evs l)), .ag [.z e_l_i.who.node, .u e_l_i.who.inc]] (.ag ((rof l e_l_i.who l.length).cel true))) trivial))))))))))
     | true =>
      have qh4 := of_decide_eq_true h4
      rw [show (.v (.int .i64 (begErr l p)) : DV) = .z 230 from (by rw [begErr_hit (by assumption) ge_l_i (by omega) (by omega) (.inl (by omega))])]
      exact toRet tk mo hK rfl [(4, [(2, .z (((l.length : Nat) : Int))), (3, .b true)]), (6, [(2, .ix (i) e_l_i.row)]), (7, [(2, .ix (i) e_l_i.row), (5, .b true), (11, .b true), (18, .b true)])] 2000 r (by kernel_rfl) (an u0 (an h1 (an (rfI ((i : Nat) : Int)) (an (evs_at ge_l_i) (an (rfI ((i : Nat) : Int)) (an (evs_at ge_l_i) (an h2 (an h3 (an h4 trivial)))))))))
theorem lt_cmp {p q : Proc} : p.lt q = true → p.cmp q = -1 := by
 unfold Proc.lt Proc.cmp cmpI; simp only [decide_eq_true_eq]; intro h
 (repeat' split) <;> omega
theorem lt_cmp' {p q : Proc} : q.lt p = true → p.cmp q = 1 := by
 unfold Proc.lt Proc.cmp cmpI; simp only [decide_eq_true_eq]; intro h
 (repeat' split) <;> omega
theorem lt_cmp0 {p q : Proc} : p.lt q = false → q.lt p = false → p.cmp q = 0 := by
 unfold Proc.lt Proc.cmp cmpI; simp only [decide_eq_false_iff_not]; intro h k
 (repeat' split) <;> omega
theorem vcmp_lt {v u : Vid} (h : v.round < u.round) : v.cmp u = -1 := by unfold Vid.cmp cmpI; rw [if_pos (show ((v.round : Nat) : Int) < u.round by omega)]; rfl
theorem vcmp_gt {v u : Vid} (h : u.round < v.round) : v.cmp u = 1 := by unfold Vid.cmp cmpI; rw [if_neg (show ¬ ((v.round : Nat) : Int) < u.round by omega), if_pos (show ((u.round : Nat) : Int) < v.round by omega)]; rfl
theorem vcmp_eq {v u : Vid} (h : v.round = u.round) : v.cmp u = v.server.cmp u.server := by unfold Vid.cmp; rw [show cmpI v.round u.round = 0 by unfold cmpI; rw [if_neg (by omega), if_neg (by omega)]]; rfl
set_option maxRecDepth 100000 in
theorem refProcCmp (p q : Proc) : Con Tryz.prog 94 [.ag [.z p.node, .u p.inc], .ag [.z q.node, .u q.inc]] (.v (.int .i64 (p.cmp q))) := by
 refine Con.intro (by kernel_rfl) rfl rfl 11 rfl rfl fun w0 K ac hK r => ?_
 cases h0 : (p.lt q) with
 | false =>
  have u0 := ((by have k := refBefore p q; rw [h0] at k; exact k) : Con Tryz.prog 132 [.ag [.z p.node, .u p.inc], .ag [.z q.node, .u q.inc]] (.v (.bool false)))
  cases h1 : (q.lt p) with
  | false =>
   rw [show (.v (.int .i64 (p.cmp q)) : DV) = .z 0 from (by rw [lt_cmp0 (by assumption) (by assumption)])]
   exact toRet tk mo hK rfl [(1, [(2, .con (.v (.bool false)))]), (3, [(2, .con (.v (.bool false)))])] 2000 r (by kernel_rfl) (an u0 (an ((by have k := refBefore q p; rw [h1] at k; exact k) : Con Tryz.prog 132 [.ag [.z q.node, .u q.inc], .ag [.z p.node, .u p.inc]] (.v (.bool false))) trivial))
  | true =>
   rw [show (.v (.int .i64 (p.cmp q)) : DV) = .z 1 from (by rw [lt_cmp' (by assumption)])]
   exact toRet tk mo hK rfl [(1, [(2, .con (.v (.bool false)))]), (3, [(2, .con (.v (.bool true)))])] 2000 r (by kernel_rfl) (an u0 (an ((by have k := refBefore q p; rw [h1] at k; exact k) : Con Tryz.prog 132 [.ag [.z q.node, .u q.inc], .ag [.z p.node, .u p.inc]] (.v (.bool true))) trivial))
 | true =>
  rw [show (.v (.int .i64 (p.cmp q)) : DV) = .z (-1) from (by rw [lt_cmp (by assumption)])]
  exact toRet tk mo hK rfl [(1, [(2, .con (.v (.bool true)))])] 2000 r (by kernel_rfl) (an ((by have k := refBefore p q; rw [h0] at k; exact k) : Con Tryz.prog 132 [.ag [.z p.node, .u p.inc], .ag [.z q.node, .u q.inc]] (.v (.bool true))) trivial)
set_option maxRecDepth 100000 in
theorem refVidCmp (v u : Vid) : Con Tryz.prog 51 [.ag [.u v.round, .z v.server.node, .u v.server.inc], .ag [.u u.round, .z u.server.node, .u u.server.inc]] (.v (.int .i64 (v.cmp u))) := by
 refine Con.intro (by kernel_rfl) rfl rfl 20 rfl rfl fun w0 K ac hK r => ?_
 cases h0 : (((v.round : Nat) : Int) != ((u.round : Nat) : Int)) with
 | false =>
  have qh0 := eq_of_bne h0
  rw [show (.v (.int .i64 (v.cmp u)) : DV) = .z (v.server.cmp u.server) from (by rw [vcmp_eq (by omega)])]
  exact toRet tk mo hK rfl [(1, [(4, .b false)]), (5, [(4, .con (.z (v.server.cmp u.server)))])] 2000 r (by kernel_rfl) (an h0 (an (refProcCmp v.server u.server) trivial))
 | true =>
  have qh0 : ¬ _ = _ := bne_iff_ne.1 h0
  cases h1 : (decide (((v.round : Nat) : Int) < ((u.round : Nat) : Int))) with
  | false =>
   have qh1 := of_decide_eq_false h1
   rw [show (.v (.int .i64 (v.cmp u)) : DV) = .z 1 from (by rw [vcmp_gt (by omega)])]
   exact toRet tk mo hK rfl [(1, [(4, .b true)]), (2, [(4, .b false)])] 2000 r (by kernel_rfl) (an h0 (an h1 trivial))
  | true =>
   have qh1 := of_decide_eq_true h1
   rw [show (.v (.int .i64 (v.cmp u)) : DV) = .z (-1) from (by rw [vcmp_lt (by omega)])]
   exact toRet tk mo hK rfl [(1, [(4, .b true)]), (2, [(4, .b true)])] 2000 r (by kernel_rfl) (an h0 (an h1 trivial))
set_option maxRecDepth 100000 in
theorem refKept_true (a b : List Proc) (ha : a.length ≤ 1000) (hb : b.length ≤ 1000) : Con Tryz.prog 61 [.d (.ro 2 (procs a)), .d (.ro 2 (procs b)), .d (.v (.bool true))] (.em 38 2 (procs (keptR a b true))) := by
 refine Con.intro (by kernel_rfl) rfl rfl 32 rfl rfl fun w0 K ac hK r => ?_
 refine toHead (todo' := hd Tryz.f61 0) (E' := [(0, .d (.ro 2 (procs a))), (1, .d (.ro 2 (procs b))), (2, .d (.v (.bool true))), (7, .d (.v (.slice none 0 0))), (8, .z 0)]) (M' := []) tk mo hK [] 2000 [] [0, 1, 2, 7, 8] r (by kernel_rfl) trivial fun ac wd r => ?_
 refine Goes.rounds (Φ := fun (i : Nat) ac wd => (i ≤ a.length) ∧ RE' [] w0 K 32 [(0, .d (.ro 2 (procs a))), (1, .d (.ro 2 (procs b))), (2, .d (.v (.bool true))), (7, .sl 0 ((chsTo a b true i).length)), (8, .n i)] [.rw 38 2 (procs (chsTo a b true i))] ac wd) (a.length) ?_ (Nat.zero_le _) ⟨(Nat.zero_le _), (r.adopt (M1 := [.rw 38 2 []]) [(7, 38, 2)] [] (by kernel_rfl) (by kernel_rfl)).cast rfl rfl⟩
 clear r
 rintro i hi0 again0 ac wd ⟨hv0, r⟩
 have u0 := ((by first | rfl | simp [bytesR]) : (((procs a).length : Nat) : Int) = ((a.length : Nat) : Int))
 cases h0 : (decide (((i : Nat) : Int) < ((a.length : Nat) : Int))) with
 | false =>
  have qh0 := of_decide_eq_false h0
  exact toRet tk mo hK rfl [(3, [(2, .z (((a.length : Nat) : Int))), (3, .b false)]), (7, [(1, .call [.d (.ro 2 (procs (chs a b true)))] (.em 38 2 (procs (srt (chs a b true)))))])] 2000 r (by kernel_rfl) (an u0 (an h0 (an (refSorted (chs a b true) (by have := chs_len a b true; omega)) (an ((ind_procsL _ _) : Ind (.em 38 2 (procs (srt (chs a b true))))) (an (rfN (2)) (an ((by first | rfl | (simp; done) | (simp <;> omega)) : ((chsTo a b true i).length) = (procs (chsTo a b true i)).length) (an ((by rw [froz_procs, chsTo_all (by omega)]) : frozR (procs (chsTo a b true i)) = procs (chs a b true)) (an (rfN ((procs (srt (chs a b true))).length)) trivial))))))))
 | true =>
  have qh0 := of_decide_eq_true h0
  obtain ⟨e_a_i, ge_a_i⟩ : ∃ x, a[i]? = some x := ⟨_, List.getElem?_eq_getElem (by omega)⟩
  cases h1 : (decide (e_a_i ∈ b)) with
  | false =>
   have qh1 := of_decide_eq_false h1
   exact toHead (todo' := hd Tryz.f61 0) (E' := [(0, .d (.ro 2 (procs a))), (1, .d (.ro 2 (procs b))), (2, .d (.v (.bool true))), (7, .sl 0 ((chsTo a b true i).length)), (8, .n (i + 1))]) (M' := [.rw 38 2 (procs (chsTo a b true i))]) tk mo hK [(3, [(2, .z (((a.length : Nat) : Int))), (3, .b true)]), (4, [(1, .z (((i + 1 : Nat) : Int)))]), (5, [(3, .ix (i) [.z e_a_i.node, .u e_a_i.inc]), (5, .con (.v (.bool false)))])] 2000 [0] [0, 1, 2, 7, 8] r (by kernel_rfl) (an u0 (an h0 (an (rfI ((i : Nat) : Int)) (an (procs_at ge_a_i) (an ((by have k := refHas b e_a_i (by omega); rw [h1] at k; exact k) : Con Tryz.prog 22 [.d (.ro 2 (procs b)), .ag [.z e_a_i.node, .u e_a_i.inc]] (.v (.bool false))) (an (wiS i (by omega)) trivial)))))) fun ac wd r => again0 (by omega) ac wd ⟨(by omega), r.cast (by rw [chsTo_no ge_a_i (by assumption)]) (by rw [chsTo_no ge_a_i (by assumption)])⟩
  | true =>
   have qh1 := of_decide_eq_true h1
   exact toHead (todo' := hd Tryz.f61 0) (E' := [(0, .d (.ro 2 (procs a))), (1, .d (.ro 2 (procs b))), (2, .d (.v (.bool true))), (7, .sl 0 ((chsTo a b true i).length + (1))), (8, .n (i + 1))]) (M' := [.rw 38 2 (procs (chsTo a b true i) ++ [[.z e_a_i.node, .u e_a_i.inc]])]) tk mo hK [(3, [(2, .z (((a.length : Nat) : Int))), (3, .b true)]), (4, [(1, .z (((i + 1 : Nat) : Int)))]), (5, [(3, .ix (i) [.z e_a_i.node, .u e_a_i.inc]), (5, .con (.v (.bool true)))]), (6, [(3, .ix (i) [.z e_a_i.node, .u e_a_i.inc])])] 2000 [0] [0, 1, 2, 7, 8] r (by kernel_rfl) (an u0 (an h0 (an (rfI ((i : Nat) : Int)) (an (procs_at ge_a_i) (an ((by have k := refHas b e_a_i (by omega); rw [h1] at k; exact k) : Con Tryz.prog 22 [.d (.ro 2 (procs b)), .ag [.z e_a_i.node, .u e_a_i.inc]] (.v (.bool true))) (an (rfI ((i : Nat) : Int)) (an (procs_at ge_a_i) (an ((by first | rfl | (simp; done) | (simp <;> omega)) : ((chsTo a b true i).length) = (procs (chsTo a b true i)).length) (an ((by first | rfl | (simp; done) | (simp <;> omega)) : (1) = ([[.z e_a_i.node, .u e_a_i.inc]] : List (List DV)).length) (an ((by have := chsTo_len a b true i; first | omega | (simp <;> omega)) : (2 * (((chsTo a b true i).length) + (1)) + 192) * 16 ≤ 281474976710656) (an ((by have := chsTo_len a b true i; first | omega | (simp <;> omega)) : ((chsTo a b true i).length) + (1) < 4611686018427387904) (an ((by first | exact one_procsL _ | (simp [OneR, AV.one, oneC]; done)) : OneR ([[.z e_a_i.node, .u e_a_i.inc]])) (an (wiS i (by omega)) trivial))))))))))))) fun ac wd r => again0 (by omega) ac wd ⟨(by omega), r.cast (by rw [← chsTo_more ge_a_i (by assumption)]) (by rw [← chsTo_procs ge_a_i (by assumption)])⟩
set_option maxRecDepth 100000 in
theorem refKept_false (a b : List Proc) (ha : a.length ≤ 1000) (hb : b.length ≤ 1000) : Con Tryz.prog 61 [.d (.ro 2 (procs a)), .d (.ro 2 (procs b)), .d (.v (.bool false))] (.em 38 2 (procs (keptR a b false))) := by
 refine Con.intro (by kernel_rfl) rfl rfl 32 rfl rfl fun w0 K ac hK r => ?_
 refine toHead (todo' := hd Tryz.f61 0) (E' := [(0, .d (.ro 2 (procs a))), (1, .d (.ro 2 (procs b))), (2, .d (.v (.bool false))), (7, .d (.v (.slice none 0 0))), (8, .z 0)]) (M' := []) tk mo hK [] 2000 [] [0, 1, 2, 7, 8] r (by kernel_rfl) trivial fun ac wd r => ?_
 refine Goes.rounds (Φ := fun (i : Nat) ac wd => (i ≤ a.length) ∧ RE' [] w0 K 32 [(0, .d (.ro 2 (procs a))), (1, .d (.ro 2 (procs b))), (2, .d (.v (.bool false))), (7, .sl 0 ((chsTo a b false i).length)), (8, .n i)] [.rw 38 2 (procs (chsTo a b false i))] ac wd) (a.length) ?_ (Nat.zero_le _) ⟨(Nat.zero_le _), (r.adopt (M1 := [.rw 38 2 []]) [(7, 38, 2)] [] (by kernel_rfl) (by kernel_rfl)).cast rfl rfl⟩
 clear r
 rintro i hi0 again0 ac wd ⟨hv0, r⟩
 have u0 := ((by first | rfl | simp [bytesR]) : (((procs a).length : Nat) : Int) = ((a.length : Nat) : Int))
 cases h0 : (decide (((i : Nat) : Int) < ((a.length : Nat) : Int))) with
 | false =>
  have qh0 := of_decide_eq_false h0
  exact toRet tk mo hK rfl [(3, [(2, .z (((a.length : Nat) : Int))), (3, .b false)]), (7, [(1, .call [.d (.ro 2 (procs (chs a b false)))] (.em 38 2 (procs (srt (chs a b false)))))])] 2000 r (by kernel_rfl) (an u0 (an h0 (an (refSorted (chs a b false) (by have := chs_len a b false; omega)) (an ((ind_procsL _ _) : Ind (.em 38 2 (procs (srt (chs a b false))))) (an (rfN (2)) (an ((by first | rfl | (simp; done) | (simp <;> omega)) : ((chsTo a b false i).length) = (procs (chsTo a b false i)).length) (an ((by rw [froz_procs, chsTo_all (by omega)]) : frozR (procs (chsTo a b false i)) = procs (chs a b false)) (an (rfN ((procs (srt (chs a b false))).length)) trivial))))))))
 | true =>
  have qh0 := of_decide_eq_true h0
  obtain ⟨e_a_i, ge_a_i⟩ : ∃ x, a[i]? = some x := ⟨_, List.getElem?_eq_getElem (by omega)⟩
  cases h1 : (decide (e_a_i ∈ b)) with
  | false =>
   have qh1 := of_decide_eq_false h1
   exact toHead (todo' := hd Tryz.f61 0) (E' := [(0, .d (.ro 2 (procs a))), (1, .d (.ro 2 (procs b))), (2, .d (.v (.bool false))), (7, .sl 0 ((chsTo a b false i).length + (1))), (8, .n (i + 1))]) (M' := [.rw 38 2 (procs (chsTo a b false i) ++ [[.z e_a_i.node, .u e_a_i.inc]])]) tk mo hK [(3, [(2, .z (((a.length : Nat) : Int))), (3, .b true)]), (4, [(1, .z (((i + 1 : Nat) : Int)))]), (5, [(3, .ix (i) [.z e_a_i.node, .u e_a_i.inc]), (5, .con (.v (.bool false)))]), (6, [(3, .ix (i) [.z e_a_i.node, .u e_a_i.inc])])] 2000 [0] [0, 1, 2, 7, 8] r (by kernel_rfl) (an u0 (an h0 (an (rfI ((i : Nat) : Int)) (an (procs_at ge_a_i) (an ((by have k := refHas b e_a_i (by omega); rw [h1] at k; exact k) : Con Tryz.prog 22 [.d (.ro 2 (procs b)), .ag [.z e_a_i.node, .u e_a_i.inc]] (.v (.bool false))) (an (rfI ((i : Nat) : Int)) (an (procs_at ge_a_i) (an ((by first | rfl | (simp; done) | (simp <;> omega)) : ((chsTo a b false i).length) = (procs (chsTo a b false i)).length) (an ((by first | rfl | (simp; done) | (simp <;> omega)) : (1) = ([[.z e_a_i.node, .u e_a_i.inc]] : List (List DV)).length) (an ((by have := chsTo_len a b false i; first | omega | (simp <;> omega)) : (2 * (((chsTo a b false i).length) + (1)) + 192) * 16 ≤ 281474976710656) (an ((by have := chsTo_len a b false i; first | omega | (simp <;> omega)) : ((chsTo a b false i).length) + (1) < 4611686018427387904) (an ((by first | exact one_procsL _ | (simp [OneR, AV.one, oneC]; done)) : OneR ([[.z e_a_i.node, .u e_a_i.inc]])) (an (wiS i (by omega)) trivial))))))))))))) fun ac wd r => again0 (by omega) ac wd ⟨(by omega), r.cast (by rw [← chsTo_more ge_a_i (by assumption)]) (by rw [← chsTo_procs ge_a_i (by assumption)])⟩
  | true =>
   have qh1 := of_decide_eq_true h1
   exact toHead (todo' := hd Tryz.f61 0) (E' := [(0, .d (.ro 2 (procs a))), (1, .d (.ro 2 (procs b))), (2, .d (.v (.bool false))), (7, .sl 0 ((chsTo a b false i).length)), (8, .n (i + 1))]) (M' := [.rw 38 2 (procs (chsTo a b false i))]) tk mo hK [(3, [(2, .z (((a.length : Nat) : Int))), (3, .b true)]), (4, [(1, .z (((i + 1 : Nat) : Int)))]), (5, [(3, .ix (i) [.z e_a_i.node, .u e_a_i.inc]), (5, .con (.v (.bool true)))])] 2000 [0] [0, 1, 2, 7, 8] r (by kernel_rfl) (an u0 (an h0 (an (rfI ((i : Nat) : Int)) (an (procs_at ge_a_i) (an ((by have k := refHas b e_a_i (by omega); rw [h1] at k; exact k) : Con Tryz.prog 22 [.d (.ro 2 (procs b)), .ag [.z e_a_i.node, .u e_a_i.inc]] (.v (.bool true))) (an (wiS i (by omega)) trivial)))))) fun ac wd r => again0 (by omega) ac wd ⟨(by omega), r.cast (by rw [chsTo_no ge_a_i (by assumption)]) (by rw [chsTo_no ge_a_i (by assumption)])⟩
end Go.Proofs.YtilhbhpldkjkaaaGreat
namespace Go.Proofs.YtilhbhpldkjkaaaGreat
open Go.RowKit
section
variable {l : List Ev} {i n : Nat} {e x : Ev} {p m : Proc} {s : RfS}
theorem refOfT (l : List Ev) (p : Proc) (i : Nat) (hb : l.length ≤ 1000) (hi : i ≤ l.length) : Con Tryz.prog 21 [.d (.ro 13 (List.take (i) (evs l))), .ag [.z p.node, .u p.inc]] (.ag [.v (.bool ((rof l p i).on)), .v (.bool ((rof l p i).begun)), .u ((rof l p i).view.id.round), .z ((rof l p i).view.id.server.node), .u ((rof l p i).view.id.server.inc), .ro 2 (procs (rof l p i).view.members), .ro 1 (nums (rof l p i).view.starts), .z ((rof l p i).stop), .u ((rof l p i).sent), .n ((rof l p i).frm)]) := by
 have k := refOf (l.take i) p (by rw [List.length_take]; omega)
 have e : (l.take i).length = i := by rw [List.length_take]; omega
 rw [e, rof_take (Nat.le_refl i)] at k
 rw [evs_take]; exact k
theorem refHandedT (l : List Ev) (s : RfS) (p m : Proc) (i : Nat) (hb : l.length ≤ 1000) (hi : i ≤ l.length) (hf : s.frm ≤ i) : Con Tryz.prog 23 [.d (.ro 13 (List.take (i) (evs l))), .ag [.d (.v (.bool (s.on))), .d (.v (.bool (s.begun))), .u s.view.id.round, .z s.view.id.server.node, .u s.view.id.server.inc, .d (.ro 2 (procs s.view.members)), .d (.ro 1 (nums s.view.starts)), .z s.stop, .u s.sent, .n s.frm], .ag [.z p.node, .u p.inc], .ag [.z m.node, .u m.inc]] (.v (.int .u64 ((handC l s.frm i p m : Nat) : Int))) := by
 have e : (l.take i).length = i := by rw [List.length_take]; omega
 have k := refHanded (l.take i) s p m (by omega) (by omega)
 rw [e, handC_take (Nat.le_refl i)] at k
 rw [evs_take]; exact k
theorem rof_mem (ho : ∀ e ∈ l, e.Ok) (p : Proc) : ∀ i, (rof l p i).view.members.length ≤ 50
 | 0 => by simp [rof, RfS.zero, View.zero]
 | i + 1 => by
  have ih := rof_mem ho p i
  rw [rof]
  split
  ·rename_i e he
   split
   ·unfold RfS.step
    split
    ·simp [View.first]
    ·(repeat' split) <;> first | exact ih | exact (ho _ (List.mem_of_getElem? he)).members
   ·exact ih
  ·exact ih
def alongC (s : RfS) (x : Ev) : Bool := !(isSet x.transit) || (!(decide (x.who ∈ x.transit)) || decide (0 < (keptR x.transit (keptR s.view.members x.view.members true) false).length))
theorem alongC_no (h1 : isSet x.transit = true) (h2 : decide (x.who ∈ x.transit) = true) (h3 : decide ((0 : Int) < (((keptR x.transit (keptR s.view.members x.view.members true) false).length : Nat) : Int)) = false) : alongC s x = false := by
 have h4 := of_decide_eq_false h3
 unfold alongC; rw [h1, h2, decide_eq_false (by omega)]; rfl
theorem along_yes (h : alongC s x = true) : alongErr l s x = 237 := by unfold alongErr; unfold alongC at h; rw [if_pos h]
theorem along_hit (h : alongC s x = false) (hi : i < l.length) (hb : alongBad l s x i = true) : alongErr l s x = 237 := by
 unfold alongErr; unfold alongC at h
 rw [if_neg (by rw [h]; decide), if_pos (List.any_eq_true.2 ⟨i, List.mem_range.2 hi, hb⟩)]
theorem along_no (h : alongC s x = false) (hi : l.length ≤ i) (hb : ∀ j, j < i → alongBad l s x j = false) : alongErr l s x = 0 := by
 unfold alongErr; unfold alongC at h
 rw [if_neg (by rw [h]; decide), if_neg]
 rw [List.any_eq_true]; rintro ⟨j, hj, h2⟩
 rw [hb j (by have := List.mem_range.1 hj; omega)] at h2; cases h2
theorem keptR_len (a b : List Proc) (c : Bool) : (keptR a b c).length ≤ a.length := by
 unfold keptR srt
 refine Nat.le_trans (srtTo_len _ _) (List.length_filter_le _ _)
end
set_option maxRecDepth 100000 in
theorem refCommon (v u : View) (hv : v.members.length ≤ 1000) (hu : u.members.length ≤ 1000) : Con Tryz.prog 96 [.ag (v.avs []), .ag (u.avs [])] (.em 38 2 (procs (keptR v.members u.members true))) := by
 refine Con.intro (by kernel_rfl) rfl rfl 10 rfl rfl fun w0 K ac hK r => ?_
 exact toRet tk mo hK rfl [(1, [(4, .con (.em 38 2 (procs (keptR v.members u.members true))))])] 2000 r (by kernel_rfl) (an (refKept_true v.members u.members (by omega) (by omega)) (an (rfN ((procs (keptR v.members u.members true)).length)) trivial))
set_option maxRecDepth 100000 in
theorem refAlong (l : List Ev) (s : RfS) (x : Ev) (hb : l.length ≤ 250) (ho : ∀ e ∈ l, e.Ok) (hx : x.Ok) (hs : s.view.members.length ≤ 50) : Con Tryz.prog 54 [.d (.ro 13 (evs l)), .ag s.av, .ag x.av] (.v (.int .i64 (alongErr l s x))) := by
 have hmx := hx.members
 have htx := hx.transit
 refine Con.intro (by kernel_rfl) rfl rfl 111 rfl rfl fun w0 K ac hK r => ?_
 cases h0 : (isSet x.transit) with
 | false =>
  rw [show (.v (.int .i64 (alongErr l s x)) : DV) = .z 237 from (by rw [along_yes (by unfold alongC; first | (simp [h0]; done) | (simp [h0]; omega) | (simp [h0]; intros; omega))])]
  exact toRet tk mo hK rfl [(1, [(4, .con (.em 38 2 (procs (keptR s.view.members x.view.members true))))]), (2, [(2, .con (.v (.bool false)))])] 2000 r (by kernel_rfl) (an (refCommon s.view x.view (by omega) (by omega)) (an ((by have k := refSet x.transit (by omega); rw [h0] at k; exact k) : Con Tryz.prog 92 [.d (.ro 2 (procs x.transit))] (.v (.bool false))) trivial))
 | true =>
  have u0 := ((by have k := refSet x.transit (by omega); rw [h0] at k; exact k) : Con Tryz.prog 92 [.d (.ro 2 (procs x.transit))] (.v (.bool true)))
  cases h1 : (decide (x.who ∈ x.transit)) with
  | false =>
   have qh1 := of_decide_eq_false h1
   rw [show (.v (.int .i64 (alongErr l s x)) : DV) = .z 237 from (by rw [along_yes (by unfold alongC; first | (simp [h0, h1, qh1]; done) | (simp [h0, h1, qh1]; omega) | (simp [h0, h1, qh1]; intros; omega))])]
   exact toRet tk mo hK rfl [(1, [(4, .con (.em 38 2 (procs (keptR s.view.members x.view.members true))))]), (2, [(2, .con (.v (.bool true))), (9, .con (.v (.bool false)))])] 2000 r (by kernel_rfl) (an (refCommon s.view x.view (by omega) (by omega)) (an u0 (an ((by have k := refHas x.transit x.who (by omega); rw [h1] at k; exact k) : Con Tryz.prog 22 [.d (.ro 2 (procs x.transit)), .ag [.z x.who.node, .u x.who.inc]] (.v (.bool false))) trivial)))
  | true =>
   have qh1 := of_decide_eq_true h1
   have u1 := ((by have k := refHas x.transit x.who (by omega); rw [h1] at k; exact k) : Con Tryz.prog 22 [.d (.ro 2 (procs x.transit)), .ag [.z x.who.node, .u x.who.inc]] (.v (.bool true)))
   have u2 := (refKept_false x.transit (keptR s.view.members x.view.members true) (by omega) (by have := keptR_len s.view.members x.view.members true; omega))
   have u3 := ((ind_procsL _ _) : Ind (.em 38 2 (procs (keptR x.transit (keptR s.view.members x.view.members true) false))))
   have u4 := ((by first | exact froz_procs _ | rfl) : frozR (procs (keptR s.view.members x.view.members true)) = procs (keptR s.view.members x.view.members true))
   have u5 := ((by first | rfl | simp [bytesR]) : (((procs (keptR x.transit (keptR s.view.members x.view.members true) false)).length : Nat) : Int) = (((keptR x.transit (keptR s.view.members x.view.members true) false).length : Nat) : Int))
   cases h2 : (decide ((0 : Int) < (((keptR x.transit (keptR s.view.members x.view.members true) false).length : Nat) : Int))) with
   | false =>
    have qh2 := of_decide_eq_false h2
    refine toHead (todo' := hd Tryz.f54 0) (E' := [(0, .d (.ro 13 (evs l))), (4, .pt 0 0), (5, .pt 1 0), (8, .n 0)]) (M' := [.bx 87 s.av, .bx 46 x.av]) tk mo hK [(1, [(4, .con (.em 38 2 (procs (keptR s.view.members x.view.members true))))]), (2, [(2, .con (.v (.bool true))), (9, .con (.v (.bool true))), (16, .call [.d (.ro 2 (procs x.transit)), .d (.ro 2 (procs (keptR s.view.members x.view.members true))), .d (.v (.bool false))] (.em 38 2 (procs (keptR x.transit (keptR s.view.members x.view.members true) false)))), (17, .z ((((keptR x.transit (keptR s.view.members x.view.members true) false).length : Nat) : Int))), (18, .b false)])] 2000 [0, 1] [0, 4, 5, 8] r (by kernel_rfl) (an (refCommon s.view x.view (by omega) (by omega)) (an u0 (an u1 (an u2 (an u3 (an (rfD (.ro 2 (procs x.transit))) (an (rfN (2)) (an (rfN ((procs (keptR s.view.members x.view.members true)).length)) (an u4 (an (rfD (.v (.bool false))) (an u5 (an h2 trivial)))))))))))) fun ac wd r => ?_
    refine Goes.rounds (Φ := fun (i : Nat) ac wd => (i ≤ l.length ∧ ∀ j, j < i → alongBad l s x j = false) ∧ RE' [] w0 K 111 [(0, .d (.ro 13 (evs l))), (4, .pt 0 0), (5, .pt 1 0), (8, .n i)] [.bx 87 s.av, .bx 46 x.av] ac wd) (l.length) ?_ (Nat.zero_le _) ⟨⟨Nat.zero_le _, fun j hj => absurd hj (Nat.not_lt_zero _)⟩, r⟩
    clear r
    rintro i hi0 again0 ac wd ⟨hv0, r⟩
    obtain ⟨hi1, hv0⟩ := hv0
    have u6 := ((by first | rfl | simp [bytesR]) : (((evs l).length : Nat) : Int) = ((l.length : Nat) : Int))
    cases h3 : (decide (((i : Nat) : Int) < ((l.length : Nat) : Int))) with
    | false =>
     have qh3 := of_decide_eq_false h3
     rw [show (.v (.int .i64 (alongErr l s x)) : DV) = .z 0 from (by rw [along_no (i := i) (alongC_no (by assumption) (by assumption) (by assumption)) (by omega) hv0])]
     exact toRet tk mo hK rfl [(5, [(2, .z (((l.length : Nat) : Int))), (3, .b false)])] 2000 r (by kernel_rfl) (an u6 (an h3 trivial))
    | true =>
     have qh3 := of_decide_eq_true h3
     obtain ⟨e_l_i, ge_l_i⟩ : ∃ x, l[i]? = some x := ⟨_, List.getElem?_eq_getElem (by omega)⟩
     have hte := (ho _ (List.mem_of_getElem? ge_l_i)).transit
     have hrm := rof_mem ho e_l_i.who i
     cases h4 : ((e_l_i.kind : Int) != 5) with
     | false =>
      have qh4 := eq_of_bne h4
      cases h5 : (decide (e_l_i.view.id = x.view.id)) with
      | false =>
       have qh5 := of_decide_eq_false h5
       exact toHead (todo' := hd Tryz.f54 0) tk mo hK [(5, [(2, .z (((l.length : Nat) : Int))), (3, .b true)]), (6, [(1, .z (((i + 1 : Nat) : Int)))]), (7, [(2, .ix (i) e_l_i.row), (5, .b false), (9, .ix (i) e_l_i.row), (16, .b false)])] 2000 [0, 1] [0, 4, 5, 8] r (by kernel_rfl) (an u6 (an h3 (an (rfI ((i : Nat) : Int)) (an (evs_at ge_l_i) (an h4 (an (rfI ((i : Nat) : Int)) (an (evs_at ge_l_i) (an ((eqT (eqVid _ _) h5) : EqAgg Tryz.prog 40 [(.int .u64 (((e_l_i.view.id.round : Nat) : Int))), (.int .i64 (e_l_i.view.id.server.node)), (.int .u64 (((e_l_i.view.id.server.inc : Nat) : Int)))] [(.int .u64 (((x.view.id.round : Nat) : Int))), (.int .i64 (x.view.id.server.node)), (.int .u64 (((x.view.id.server.inc : Nat) : Int)))] false) (an (wiS i (by omega)) trivial))))))))) fun ac wd r => again0 (by omega) ac wd ⟨⟨by omega, fun j hj => by rcases Nat.lt_succ_iff_lt_or_eq.1 hj with h | rfl; exact hv0 j h; exact (by unfold alongBad; rw [ge_l_i]; dsimp only; first | (simp [h4, qh4, h5, qh5]; done) | (simp [h4, qh4, h5, qh5]; omega) | (simp [h4, qh4, h5, qh5]; intros; omega))⟩, r⟩
      | true =>
       have qh5 := of_decide_eq_true h5
       have v9_0 := ((by first | rfl | simp [bytesR]) : (((evs l).length : Nat) : Int) = ((l.length : Nat) : Int))
       have v9_1 := ((eqT (eqVid _ _) h5) : EqAgg Tryz.prog 40 [(.int .u64 (((e_l_i.view.id.round : Nat) : Int))), (.int .i64 (e_l_i.view.id.server.node)), (.int .u64 (((e_l_i.view.id.server.inc : Nat) : Int)))] [(.int .u64 (((x.view.id.round : Nat) : Int))), (.int .i64 (x.view.id.server.node)), (.int .u64 (((x.view.id.server.inc : Nat) : Int)))] true)
       have v9_2 := ((by simp; omega) : (i) ≤ (evs l : List (List DV)).length)
       have v9_3 := (refOfT l e_l_i.who i (by omega) (by omega))
       refine toDraw (todo' := aft Tryz.f54 9) (E' := [(0, .d (.ro 13 (evs l))), (4, .pt 0 0), (5, .pt 1 0), (8, .n i), (37, .n i), (38, .d (.ro 13 (evs l))), (39, .n l.length), (40, .d (.v (.bool true))), (43, .d (.ro 13 (evs l))), (44, .n i), (45, .rp e_l_i.row 0), (46, .rp e_l_i.row 0), (47, .z e_l_i.kind), (48, .d (.v (.bool false))), (49, .d (.v (.bool false))), (50, .d (.ro 13 (evs l))), (51, .n i), (52, .rp e_l_i.row 0), (53, .rp e_l_i.row 7), (54, .rp e_l_i.row 7), (55, .ag [.u e_l_i.view.id.round, .z e_l_i.view.id.server.node, .u e_l_i.view.id.server.inc]), (56, .pt 1 7), (57, .pt 1 7), (58, .ag [.u x.view.id.round, .z x.view.id.server.node, .u x.view.id.server.inc]), (59, .d (.v (.bool false))), (60, .d (.v (.bool false))), (61, .d (.ro 13 (evs l))), (62, .n i), (63, .rp e_l_i.row 0), (64, .rp e_l_i.row 1), (65, .ag [.z e_l_i.who.node, .u e_l_i.who.inc]), (9, .pt 2 0), (66, .d (.ro 13 (evs l))), (67, .n i), (68, .d (.ro 13 (List.take (i) (evs l)))), (69, .ag [.z e_l_i.who.node, .u e_l_i.who.inc]), (70, .ag (rof l e_l_i.who i).av), (10, .pt 3 0)]) (M' := [.bx 87 s.av, .bx 46 x.av, .bx 38 [.z e_l_i.who.node, .u e_l_i.who.inc], .bx 87 (rof l e_l_i.who i).av]) tk mo hK [(5, [(2, .z (((l.length : Nat) : Int))), (3, .b true)]), (7, [(2, .ix (i) e_l_i.row), (5, .b false), (9, .ix (i) e_l_i.row), (16, .b true)]), (8, [(2, .ix (i) e_l_i.row)]), (9, [(2, .n2 (i) (0)), (4, .con (.ag (rof l e_l_i.who i).cells))])] 15 2 [] [[0, 1, 2, 3], [0, 1, 2, 3]] [0, 4, 5, 8, 37, 38, 39, 40, 43, 44, 45, 46, 47, 48, 49, 50, 51, 52, 53, 54, 55, 56, 57, 58, 59, 60, 61, 62, 63, 64, 65, 9, 66, 67, 68, 69, 70, 10] r (by kernel_rfl) (an (an v9_0 (an h3 (an (rfI ((i : Nat) : Int)) (an (evs_at ge_l_i) (an h4 (an (rfI ((i : Nat) : Int)) (an (evs_at ge_l_i) (an v9_1 (an (rfI ((i : Nat) : Int)) (an (evs_at ge_l_i) (an (rfI ((i : Nat) : Int)) (an v9_2 (an v9_3 trivial))))))))))))) (an (an v9_0 (an h3 (an (rfI ((i : Nat) : Int)) (an (evs_at ge_l_i) (an h4 (an (rfI ((i : Nat) : Int)) (an (evs_at ge_l_i) (an v9_1 (an (rfI ((i : Nat) : Int)) (an (evs_at ge_l_i) (an (rfI ((i : Nat) : Int)) (an v9_2 (an v9_3 trivial))))))))))))) trivial)) fun ac wd r => ?_
       cases h6 : (decide ((rof l e_l_i.who i).view.id = s.view.id)) with
       | false =>
        have qh6 := of_decide_eq_false h6
        have u7 := ((eqT (eqVid _ _) h6) : EqAgg Tryz.prog 40 [(.int .u64 ((((rof l e_l_i.who i).view.id.round : Nat) : Int))), (.int .i64 ((rof l e_l_i.who i).view.id.server.node)), (.int .u64 ((((rof l e_l_i.who i).view.id.server.inc : Nat) : Int)))] [(.int .u64 (((s.view.id.round : Nat) : Int))), (.int .i64 (s.view.id.server.node)), (.int .u64 (((s.view.id.server.inc : Nat) : Int)))] false)
        cases h7 : (decide (e_l_i.who ∈ s.view.members)) with
        | false =>
         have qh7 := of_decide_eq_false h7
         have u8 := ((by have k := refHas s.view.members e_l_i.who (by omega); rw [h7] at k; exact k) : Con Tryz.prog 22 [.d (.ro 2 (procs s.view.members)), .ag [.z e_l_i.who.node, .u e_l_i.who.inc]] (.v (.bool false)))
         cases h8 : (decide (x.who ∈ ((rof l e_l_i.who i).view.members))) with
         | false =>
          have qh8 := of_decide_eq_false h8
          exact toHead (todo' := hd Tryz.f54 0) tk mo hK [(6, [(1, .z (((i + 1 : Nat) : Int)))]), (10, [(6, .b false)]), (11, [(4, .con (.v (.bool false))), (19, .con (.v (.bool false)))])] 2000 [0, 1] [0, 4, 5, 8] r (by kernel_rfl) (an u7 (an u8 (an ((by have k := refHas ((rof l e_l_i.who i).view.members) x.who (by omega); rw [h8] at k; exact k) : Con Tryz.prog 22 [.d (.ro 2 (procs (rof l e_l_i.who i).view.members)), .ag [.z x.who.node, .u x.who.inc]] (.v (.bool false))) (an (wiS i (by omega)) trivial)))) fun ac wd r => again0 (by omega) ac wd ⟨⟨by omega, fun j hj => by rcases Nat.lt_succ_iff_lt_or_eq.1 hj with h | rfl; exact hv0 j h; exact (by unfold alongBad; rw [ge_l_i]; dsimp only; first | (simp [h4, qh4, h5, qh5, h6, qh6, h7, qh7, h8, qh8]; done) | (simp [h4, qh4, h5, qh5, h6, qh6, h7, qh7, h8, qh8]; omega) | (simp [h4, qh4, h5, qh5, h6, qh6, h7, qh7, h8, qh8]; intros; omega))⟩, r⟩
         | true =>
          have qh8 := of_decide_eq_true h8
          have u9 := ((by have k := refHas ((rof l e_l_i.who i).view.members) x.who (by omega); rw [h8] at k; exact k) : Con Tryz.prog 22 [.d (.ro 2 (procs (rof l e_l_i.who i).view.members)), .ag [.z x.who.node, .u x.who.inc]] (.v (.bool true)))
          cases h9 : (decide (x.who ∈ e_l_i.transit)) with
          | false =>
           have qh9 := of_decide_eq_false h9
           exact toHead (todo' := hd Tryz.f54 0) tk mo hK [(6, [(1, .z (((i + 1 : Nat) : Int)))]), (10, [(6, .b false)]), (11, [(4, .con (.v (.bool false))), (19, .con (.v (.bool true))), (23, .ix (i) e_l_i.row), (28, .con (.v (.bool false)))])] 2000 [0, 1] [0, 4, 5, 8] r (by kernel_rfl) (an u7 (an u8 (an u9 (an (rfI ((i : Nat) : Int)) (an (evs_at ge_l_i) (an ((by have k := refHas e_l_i.transit x.who (by omega); rw [h9] at k; exact k) : Con Tryz.prog 22 [.d (.ro 2 (procs e_l_i.transit)), .ag [.z x.who.node, .u x.who.inc]] (.v (.bool false))) (an (wiS i (by omega)) trivial))))))) fun ac wd r => again0 (by omega) ac wd ⟨⟨by omega, fun j hj => by rcases Nat.lt_succ_iff_lt_or_eq.1 hj with h | rfl; exact hv0 j h; exact (by unfold alongBad; rw [ge_l_i]; dsimp only; first | (simp [h4, qh4, h5, qh5, h6, qh6, h7, qh7, h8, qh8, h9, qh9]; done) | (simp [h4, qh4, h5, qh5, h6, qh6, h7, qh7, h8, qh8, h9, qh9]; omega) | (simp [h4, qh4, h5, qh5, h6, qh6, h7, qh7, h8, qh8, h9, qh9]; intros; omega))⟩, r⟩
          | true =>
           have qh9 := of_decide_eq_true h9
           rw [show (.v (.int .i64 (alongErr l s x)) : DV) = .z 237 from (by rw [along_hit (i := i) (alongC_no (by assumption) (by assumption) (by assumption)) (by omega) (by unfold alongBad; rw [ge_l_i]; dsimp only; first | (simp [h4, qh4, h5, qh5, h6, qh6, h7, qh7, h8, qh8, h9, qh9]; done) | (simp [h4, qh4, h5, qh5, h6, qh6, h7, qh7, h8, qh8, h9, qh9]; omega) | (simp [h4, qh4, h5, qh5, h6, qh6, h7, qh7, h8, qh8, h9, qh9]; intros; omega))])]
           exact toRet tk mo hK rfl [(10, [(6, .b false)]), (11, [(4, .con (.v (.bool false))), (19, .con (.v (.bool true))), (23, .ix (i) e_l_i.row), (28, .con (.v (.bool true)))])] 2000 r (by kernel_rfl) (an u7 (an u8 (an u9 (an (rfI ((i : Nat) : Int)) (an (evs_at ge_l_i) (an ((by have k := refHas e_l_i.transit x.who (by omega); rw [h9] at k; exact k) : Con Tryz.prog 22 [.d (.ro 2 (procs e_l_i.transit)), .ag [.z x.who.node, .u x.who.inc]] (.v (.bool true))) trivial))))))
        | true =>
         have qh7 := of_decide_eq_true h7
         have u10 := ((by have k := refHas s.view.members e_l_i.who (by omega); rw [h7] at k; exact k) : Con Tryz.prog 22 [.d (.ro 2 (procs s.view.members)), .ag [.z e_l_i.who.node, .u e_l_i.who.inc]] (.v (.bool true)))
         cases h10 : (decide (e_l_i.who ∈ x.transit)) with
         | false =>
          have qh10 := of_decide_eq_false h10
          have u11 := ((by have k := refHas x.transit e_l_i.who (by omega); rw [h10] at k; exact k) : Con Tryz.prog 22 [.d (.ro 2 (procs x.transit)), .ag [.z e_l_i.who.node, .u e_l_i.who.inc]] (.v (.bool false)))
          cases h11 : (decide (x.who ∈ ((rof l e_l_i.who i).view.members))) with
          | false =>
           have qh11 := of_decide_eq_false h11
           exact toHead (todo' := hd Tryz.f54 0) tk mo hK [(6, [(1, .z (((i + 1 : Nat) : Int)))]), (10, [(6, .b false)]), (11, [(4, .con (.v (.bool true))), (9, .con (.v (.bool false))), (19, .con (.v (.bool false)))])] 2000 [0, 1] [0, 4, 5, 8] r (by kernel_rfl) (an u7 (an u10 (an u11 (an ((by have k := refHas ((rof l e_l_i.who i).view.members) x.who (by omega); rw [h11] at k; exact k) : Con Tryz.prog 22 [.d (.ro 2 (procs (rof l e_l_i.who i).view.members)), .ag [.z x.who.node, .u x.who.inc]] (.v (.bool false))) (an (wiS i (by omega)) trivial))))) fun ac wd r => again0 (by omega) ac wd ⟨⟨by omega, fun j hj => by rcases Nat.lt_succ_iff_lt_or_eq.1 hj with h | rfl; exact hv0 j h; exact (by unfold alongBad; rw [ge_l_i]; dsimp only; first | (simp [h4, qh4, h5, qh5, h6, qh6, h7, qh7, h10, qh10, h11, qh11]; done) | (simp [h4, qh4, h5, qh5, h6, qh6, h7, qh7, h10, qh10, h11, qh11]; omega) | (simp [h4, qh4, h5, qh5, h6, qh6, h7, qh7, h10, qh10, h11, qh11]; intros; omega))⟩, r⟩
          | true =>
           have qh11 := of_decide_eq_true h11
           have u12 := ((by have k := refHas ((rof l e_l_i.who i).view.members) x.who (by omega); rw [h11] at k; exact k) : Con Tryz.prog 22 [.d (.ro 2 (procs (rof l e_l_i.who i).view.members)), .ag [.z x.who.node, .u x.who.inc]] (.v (.bool true)))
           cases h12 : (decide (x.who ∈ e_l_i.transit)) with
           | false =>
            have qh12 := of_decide_eq_false h12
            exact toHead (todo' := hd Tryz.f54 0) tk mo hK [(6, [(1, .z (((i + 1 : Nat) : Int)))]), (10, [(6, .b false)]), (11, [(4, .con (.v (.bool true))), (9, .con (.v (.bool false))), (19, .con (.v (.bool true))), (23, .ix (i) e_l_i.row), (28, .con (.v (.bool false)))])] 2000 [0, 1] [0, 4, 5, 8] r (by kernel_rfl) (an u7 (an u10 (an u11 (an u12 (an (rfI ((i : Nat) : Int)) (an (evs_at ge_l_i) (an ((by have k := refHas e_l_i.transit x.who (by omega); rw [h12] at k; exact k) : Con Tryz.prog 22 [.d (.ro 2 (procs e_l_i.transit)), .ag [.z x.who.node, .u x.who.inc]] (.v (.bool false))) (an (wiS i (by omega)) trivial)))))))) fun ac wd r => again0 (by omega) ac wd ⟨⟨by omega, fun j hj => by rcases Nat.lt_succ_iff_lt_or_eq.1 hj with h | rfl; exact hv0 j h; exact (by unfold alongBad; rw [ge_l_i]; dsimp only; first | (simp [h4, qh4, h5, qh5, h6, qh6, h7, qh7, h10, qh10, h11, qh11, h12, qh12]; done) | (simp [h4, qh4, h5, qh5, h6, qh6, h7, qh7, h10, qh10, h11, qh11, h12, qh12]; omega) | (simp [h4, qh4, h5, qh5, h6, qh6, h7, qh7, h10, qh10, h11, qh11, h12, qh12]; intros; omega))⟩, r⟩
           | true =>
            have qh12 := of_decide_eq_true h12
            rw [show (.v (.int .i64 (alongErr l s x)) : DV) = .z 237 from (by rw [along_hit (i := i) (alongC_no (by assumption) (by assumption) (by assumption)) (by omega) (by unfold alongBad; rw [ge_l_i]; dsimp only; first | (simp [h4, qh4, h5, qh5, h6, qh6, h7, qh7, h10, qh10, h11, qh11, h12, qh12]; done) | (simp [h4, qh4, h5, qh5, h6, qh6, h7, qh7, h10, qh10, h11, qh11, h12, qh12]; omega) | (simp [h4, qh4, h5, qh5, h6, qh6, h7, qh7, h10, qh10, h11, qh11, h12, qh12]; intros; omega))])]
            exact toRet tk mo hK rfl [(10, [(6, .b false)]), (11, [(4, .con (.v (.bool true))), (9, .con (.v (.bool false))), (19, .con (.v (.bool true))), (23, .ix (i) e_l_i.row), (28, .con (.v (.bool true)))])] 2000 r (by kernel_rfl) (an u7 (an u10 (an u11 (an u12 (an (rfI ((i : Nat) : Int)) (an (evs_at ge_l_i) (an ((by have k := refHas e_l_i.transit x.who (by omega); rw [h12] at k; exact k) : Con Tryz.prog 22 [.d (.ro 2 (procs e_l_i.transit)), .ag [.z x.who.node, .u x.who.inc]] (.v (.bool true))) trivial)))))))
         | true =>
          have qh10 := of_decide_eq_true h10
          rw [show (.v (.int .i64 (alongErr l s x)) : DV) = .z 237 from (by rw [along_hit (i := i) (alongC_no (by assumption) (by assumption) (by assumption)) (by omega) (by unfold alongBad; rw [ge_l_i]; dsimp only; first | (simp [h4, qh4, h5, qh5, h6, qh6, h7, qh7, h10, qh10]; done) | (simp [h4, qh4, h5, qh5, h6, qh6, h7, qh7, h10, qh10]; omega) | (simp [h4, qh4, h5, qh5, h6, qh6, h7, qh7, h10, qh10]; intros; omega))])]
          exact toRet tk mo hK rfl [(10, [(6, .b false)]), (11, [(4, .con (.v (.bool true))), (9, .con (.v (.bool true)))])] 2000 r (by kernel_rfl) (an u7 (an u10 (an ((by have k := refHas x.transit e_l_i.who (by omega); rw [h10] at k; exact k) : Con Tryz.prog 22 [.d (.ro 2 (procs x.transit)), .ag [.z e_l_i.who.node, .u e_l_i.who.inc]] (.v (.bool true))) trivial)))
       | true =>
        have qh6 := of_decide_eq_true h6
        have u13 := ((eqT (eqVid _ _) h6) : EqAgg Tryz.prog 40 [(.int .u64 ((((rof l e_l_i.who i).view.id.round : Nat) : Int))), (.int .i64 ((rof l e_l_i.who i).view.id.server.node)), (.int .u64 ((((rof l e_l_i.who i).view.id.server.inc : Nat) : Int)))] [(.int .u64 (((s.view.id.round : Nat) : Int))), (.int .i64 (s.view.id.server.node)), (.int .u64 (((s.view.id.server.inc : Nat) : Int)))] true)
        cases h13 : (decide (e_l_i.who ∈ s.view.members)) with
        | false =>
         have qh13 := of_decide_eq_false h13
         have u14 := ((by have k := refHas s.view.members e_l_i.who (by omega); rw [h13] at k; exact k) : Con Tryz.prog 22 [.d (.ro 2 (procs s.view.members)), .ag [.z e_l_i.who.node, .u e_l_i.who.inc]] (.v (.bool false)))
         cases h14 : (decide (x.who ∈ ((rof l e_l_i.who i).view.members))) with
         | false =>
          have qh14 := of_decide_eq_false h14
          exact toHead (todo' := hd Tryz.f54 0) tk mo hK [(6, [(1, .z (((i + 1 : Nat) : Int)))]), (10, [(6, .b true)]), (11, [(4, .con (.v (.bool false))), (19, .con (.v (.bool false)))])] 2000 [0, 1] [0, 4, 5, 8] r (by kernel_rfl) (an u13 (an u14 (an ((by have k := refHas ((rof l e_l_i.who i).view.members) x.who (by omega); rw [h14] at k; exact k) : Con Tryz.prog 22 [.d (.ro 2 (procs (rof l e_l_i.who i).view.members)), .ag [.z x.who.node, .u x.who.inc]] (.v (.bool false))) (an (wiS i (by omega)) trivial)))) fun ac wd r => again0 (by omega) ac wd ⟨⟨by omega, fun j hj => by rcases Nat.lt_succ_iff_lt_or_eq.1 hj with h | rfl; exact hv0 j h; exact (by unfold alongBad; rw [ge_l_i]; dsimp only; first | (simp [h4, qh4, h5, qh5, h6, qh6, h13, qh13, h14, qh14]; done) | (simp [h4, qh4, h5, qh5, h6, qh6, h13, qh13, h14, qh14]; omega) | (simp [h4, qh4, h5, qh5, h6, qh6, h13, qh13, h14, qh14]; intros; omega))⟩, r⟩
         | true =>
          have qh14 := of_decide_eq_true h14
          have u15 := ((by have k := refHas ((rof l e_l_i.who i).view.members) x.who (by omega); rw [h14] at k; exact k) : Con Tryz.prog 22 [.d (.ro 2 (procs (rof l e_l_i.who i).view.members)), .ag [.z x.who.node, .u x.who.inc]] (.v (.bool true)))
          cases h15 : (decide (x.who ∈ e_l_i.transit)) with
          | false =>
           have qh15 := of_decide_eq_false h15
           rw [show (.v (.int .i64 (alongErr l s x)) : DV) = .z 237 from (by rw [along_hit (i := i) (alongC_no (by assumption) (by assumption) (by assumption)) (by omega) (by unfold alongBad; rw [ge_l_i]; dsimp only; first | (simp [h4, qh4, h5, qh5, h6, qh6, h13, qh13, h14, qh14, h15, qh15]; done) | (simp [h4, qh4, h5, qh5, h6, qh6, h13, qh13, h14, qh14, h15, qh15]; omega) | (simp [h4, qh4, h5, qh5, h6, qh6, h13, qh13, h14, qh14, h15, qh15]; intros; omega))])]
           exact toRet tk mo hK rfl [(10, [(6, .b true)]), (11, [(4, .con (.v (.bool false))), (19, .con (.v (.bool true))), (23, .ix (i) e_l_i.row), (28, .con (.v (.bool false)))])] 2000 r (by kernel_rfl) (an u13 (an u14 (an u15 (an (rfI ((i : Nat) : Int)) (an (evs_at ge_l_i) (an ((by have k := refHas e_l_i.transit x.who (by omega); rw [h15] at k; exact k) : Con Tryz.prog 22 [.d (.ro 2 (procs e_l_i.transit)), .ag [.z x.who.node, .u x.who.inc]] (.v (.bool false))) trivial))))))
          | true =>
           have qh15 := of_decide_eq_true h15
           exact toHead (todo' := hd Tryz.f54 0) tk mo hK [(6, [(1, .z (((i + 1 : Nat) : Int)))]), (10, [(6, .b true)]), (11, [(4, .con (.v (.bool false))), (19, .con (.v (.bool true))), (23, .ix (i) e_l_i.row), (28, .con (.v (.bool true)))])] 2000 [0, 1] [0, 4, 5, 8] r (by kernel_rfl) (an u13 (an u14 (an u15 (an (rfI ((i : Nat) : Int)) (an (evs_at ge_l_i) (an ((by have k := refHas e_l_i.transit x.who (by omega); rw [h15] at k; exact k) : Con Tryz.prog 22 [.d (.ro 2 (procs e_l_i.transit)), .ag [.z x.who.node, .u x.who.inc]] (.v (.bool true))) (an (wiS i (by omega)) trivial))))))) fun ac wd r => again0 (by omega) ac wd ⟨⟨by omega, fun j hj => by rcases Nat.lt_succ_iff_lt_or_eq.1 hj with h | rfl; exact hv0 j h; exact (by unfold alongBad; rw [ge_l_i]; dsimp only; first | (simp [h4, qh4, h5, qh5, h6, qh6, h13, qh13, h14, qh14, h15, qh15]; done) | (simp [h4, qh4, h5, qh5, h6, qh6, h13, qh13, h14, qh14, h15, qh15]; omega) | (simp [h4, qh4, h5, qh5, h6, qh6, h13, qh13, h14, qh14, h15, qh15]; intros; omega))⟩, r⟩
        | true =>
         have qh13 := of_decide_eq_true h13
         have u16 := ((by have k := refHas s.view.members e_l_i.who (by omega); rw [h13] at k; exact k) : Con Tryz.prog 22 [.d (.ro 2 (procs s.view.members)), .ag [.z e_l_i.who.node, .u e_l_i.who.inc]] (.v (.bool true)))
         cases h16 : (decide (e_l_i.who ∈ x.transit)) with
         | false =>
          have qh16 := of_decide_eq_false h16
          rw [show (.v (.int .i64 (alongErr l s x)) : DV) = .z 237 from (by rw [along_hit (i := i) (alongC_no (by assumption) (by assumption) (by assumption)) (by omega) (by unfold alongBad; rw [ge_l_i]; dsimp only; first | (simp [h4, qh4, h5, qh5, h6, qh6, h13, qh13, h16, qh16]; done) | (simp [h4, qh4, h5, qh5, h6, qh6, h13, qh13, h16, qh16]; omega) | (simp [h4, qh4, h5, qh5, h6, qh6, h13, qh13, h16, qh16]; intros; omega))])]
          exact toRet tk mo hK rfl [(10, [(6, .b true)]), (11, [(4, .con (.v (.bool true))), (9, .con (.v (.bool false)))])] 2000 r (by kernel_rfl) (an u13 (an u16 (an ((by have k := refHas x.transit e_l_i.who (by omega); rw [h16] at k; exact k) : Con Tryz.prog 22 [.d (.ro 2 (procs x.transit)), .ag [.z e_l_i.who.node, .u e_l_i.who.inc]] (.v (.bool false))) trivial)))
         | true =>
          have qh16 := of_decide_eq_true h16
          have u17 := ((by have k := refHas x.transit e_l_i.who (by omega); rw [h16] at k; exact k) : Con Tryz.prog 22 [.d (.ro 2 (procs x.transit)), .ag [.z e_l_i.who.node, .u e_l_i.who.inc]] (.v (.bool true)))
          cases h17 : (decide (x.who ∈ ((rof l e_l_i.who i).view.members))) with
          | false =>
           have qh17 := of_decide_eq_false h17
           exact toHead (todo' := hd Tryz.f54 0) tk mo hK [(6, [(1, .z (((i + 1 : Nat) : Int)))]), (10, [(6, .b true)]), (11, [(4, .con (.v (.bool true))), (9, .con (.v (.bool true))), (19, .con (.v (.bool false)))])] 2000 [0, 1] [0, 4, 5, 8] r (by kernel_rfl) (an u13 (an u16 (an u17 (an ((by have k := refHas ((rof l e_l_i.who i).view.members) x.who (by omega); rw [h17] at k; exact k) : Con Tryz.prog 22 [.d (.ro 2 (procs (rof l e_l_i.who i).view.members)), .ag [.z x.who.node, .u x.who.inc]] (.v (.bool false))) (an (wiS i (by omega)) trivial))))) fun ac wd r => again0 (by omega) ac wd ⟨⟨by omega, fun j hj => by rcases Nat.lt_succ_iff_lt_or_eq.1 hj with h | rfl; exact hv0 j h; exact (by unfold alongBad; rw [ge_l_i]; dsimp only; first | (simp [h4, qh4, h5, qh5, h6, qh6, h13, qh13, h16, qh16, h17, qh17]; done) | (simp [h4, qh4, h5, qh5, h6, qh6, h13, qh13, h16, qh16, h17, qh17]; omega) | (simp [h4, qh4, h5, qh5, h6, qh6, h13, qh13, h16, qh16, h17, qh17]; intros; omega))⟩, r⟩
          | true =>
           have qh17 := of_decide_eq_true h17
           have u18 := ((by have k := refHas ((rof l e_l_i.who i).view.members) x.who (by omega); rw [h17] at k; exact k) : Con Tryz.prog 22 [.d (.ro 2 (procs (rof l e_l_i.who i).view.members)), .ag [.z x.who.node, .u x.who.inc]] (.v (.bool true)))
           cases h18 : (decide (x.who ∈ e_l_i.transit)) with
           | false =>
            have qh18 := of_decide_eq_false h18
            rw [show (.v (.int .i64 (alongErr l s x)) : DV) = .z 237 from (by rw [along_hit (i := i) (alongC_no (by assumption) (by assumption) (by assumption)) (by omega) (by unfold alongBad; rw [ge_l_i]; dsimp only; first | (simp [h4, qh4, h5, qh5, h6, qh6, h13, qh13, h16, qh16, h17, qh17, h18, qh18]; done) | (simp [h4, qh4, h5, qh5, h6, qh6, h13, qh13, h16, qh16, h17, qh17, h18, qh18]; omega) | (simp [h4, qh4, h5, qh5, h6, qh6, h13, qh13, h16, qh16, h17, qh17, h18, qh18]; intros; omega))])]
            exact toRet tk mo hK rfl [(10, [(6, .b true)]), (11, [(4, .con (.v (.bool true))), (9, .con (.v (.bool true))), (19, .con (.v (.bool true))), (23, .ix (i) e_l_i.row), (28, .con (.v (.bool false)))])] 2000 r (by kernel_rfl) (an u13 (an u16 (an u17 (an u18 (an (rfI ((i : Nat) : Int)) (an (evs_at ge_l_i) (an ((by have k := refHas e_l_i.transit x.who (by omega); rw [h18] at k; exact k) : Con Tryz.prog 22 [.d (.ro 2 (procs e_l_i.transit)), .ag [.z x.who.node, .u x.who.inc]] (.v (.bool false))) trivial)))))))
           | true =>
            have qh18 := of_decide_eq_true h18
            exact toHead (todo' := hd Tryz.f54 0) tk mo hK [(6, [(1, .z (((i + 1 : Nat) : Int)))]), (10, [(6, .b true)]), (11, [(4, .con (.v (.bool true))), (9, .con (.v (.bool true))), (19, .con (.v (.bool true))), (23, .ix (i) e_l_i.row), (28, .con (.v (.bool true)))])] 2000 [0, 1] [0, 4, 5, 8] r (by kernel_rfl) (an u13 (an u16 (an u17 (an u18 (an (rfI ((i : Nat) : Int)) (an (evs_at ge_l_i) (an ((by have k := refHas e_l_i.transit x.who (by omega); rw [h18] at k; exact k) : Con Tryz.prog 22 [.d (.ro 2 (procs e_l_i.transit)), .ag [.z x.who.node, .u x.who.inc]] (.v (.bool true))) (an (wiS i (by omega)) trivial)))))))) fun ac wd r => again0 (by omega) ac wd ⟨⟨by omega, fun j hj => by rcases Nat.lt_succ_iff_lt_or_eq.1 hj with h | rfl; exact hv0 j h; exact (by unfold alongBad; rw [ge_l_i]; dsimp only; first | (simp [h4, qh4, h5, qh5, h6, qh6, h13, qh13, h16, qh16, h17, qh17, h18, qh18]; done) | (simp [h4, qh4, h5, qh5, h6, qh6, h13, qh13, h16, qh16, h17, qh17, h18, qh18]; omega) | (simp [h4, qh4, h5, qh5, h6, qh6, h13, qh13, h16, qh16, h17, qh17, h18, qh18]; intros; omega))⟩, r⟩
     | true =>
      have qh4 : ¬ _ = _ := bne_iff_ne.1 h4
      exact toHead (todo' := hd Tryz.f54 0) tk mo hK [(5, [(2, .z (((l.length : Nat) : Int))), (3, .b true)]), (6, [(1, .z (((i + 1 : Nat) : Int)))]), (7, [(2, .ix (i) e_l_i.row), (5, .b true)])] 2000 [0, 1] [0, 4, 5, 8] r (by kernel_rfl) (an u6 (an h3 (an (rfI ((i : Nat) : Int)) (an (evs_at ge_l_i) (an h4 (an (wiS i (by omega)) trivial)))))) fun ac wd r => again0 (by omega) ac wd ⟨⟨by omega, fun j hj => by rcases Nat.lt_succ_iff_lt_or_eq.1 hj with h | rfl; exact hv0 j h; exact (by unfold alongBad; rw [ge_l_i]; dsimp only; first | (simp [h4, qh4]; done) | (simp [h4, qh4]; omega) | (simp [h4, qh4]; intros; omega))⟩, r⟩
   | true =>
    have qh2 := of_decide_eq_true h2
    rw [show (.v (.int .i64 (alongErr l s x)) : DV) = .z 237 from (by rw [along_yes (by unfold alongC; first | (simp [h0, h1, qh1, h2, qh2]; done) | (simp [h0, h1, qh1, h2, qh2]; omega) | (simp [h0, h1, qh1, h2, qh2]; intros; omega))])]
    exact toRet tk mo hK rfl [(1, [(4, .con (.em 38 2 (procs (keptR s.view.members x.view.members true))))]), (2, [(2, .con (.v (.bool true))), (9, .con (.v (.bool true))), (16, .call [.d (.ro 2 (procs x.transit)), .d (.ro 2 (procs (keptR s.view.members x.view.members true))), .d (.v (.bool false))] (.em 38 2 (procs (keptR x.transit (keptR s.view.members x.view.members true) false)))), (17, .z ((((keptR x.transit (keptR s.view.members x.view.members true) false).length : Nat) : Int))), (18, .b true)])] 2000 r (by kernel_rfl) (an (refCommon s.view x.view (by omega) (by omega)) (an u0 (an u1 (an u2 (an u3 (an (rfD (.ro 2 (procs x.transit))) (an (rfN (2)) (an (rfN ((procs (keptR s.view.members x.view.members true)).length)) (an u4 (an (rfD (.v (.bool false))) (an u5 (an h2 trivial))))))))))))
end Go.Proofs.YtilhbhpldkjkaaaGreat
namespace Go.Proofs.YtilhbhpldkjkaaaGreat
open Go.RowKit
section
variable {l : List Ev} {i n : Nat} {e x : Ev} {p m : Proc} {s : RfS}
def movC (s : RfS) (x : Ev) : Bool := !(x.view.may) || (decide (x.view.id.round = 0) || (!(decide (x.who ∈ x.view.members)) || decide (x.view.id.cmp s.view.id ≤ 0)))
def movV (x e : Ev) : Bool := decide (e.kind = 5) && (decide (e.view.id = x.view.id) && !(decide (e.view = x.view)))
theorem mov1 (h : ¬ s.stop = 2) : movesErr l s x = 231 := by unfold movesErr; rw [if_pos h]
theorem mov2 (h : s.stop = 2) (h2 : movC s x = true) : movesErr l s x = 234 := by unfold movesErr; unfold movC at h2; rw [if_neg (fun g => g h), if_pos h2]
theorem mov3 (h : s.stop = 2) (h2 : movC s x = false) (he : l[i]? = some e) (hb : movV x e = true) : movesErr l s x = 234 := by
 unfold movesErr; unfold movC at h2; unfold movV at hb
 rw [if_neg (fun g => g h), if_neg (by rw [h2]; decide), if_pos (List.any_eq_true.2 ⟨e, List.mem_of_getElem? he, hb⟩)]
theorem mov_any (h : ∀ j e, j < i → l[j]? = some e → movV x e = false) (hi : l.length ≤ i) : (l.any fun e => decide (e.kind = 5) && (decide (e.view.id = x.view.id) && !(decide (e.view = x.view)))) = false := by
 rw [List.any_eq_false]; intro e he hb
 obtain ⟨j, hj, rfl⟩ := List.getElem_of_mem he
 have := h j _ (by omega) (List.getElem?_eq_getElem hj)
 unfold movV at this; rw [hb] at this; cases this
structure MovA (l : List Ev) (s : RfS) (x : Ev) : Prop where
 st : s.stop = 2
 c : movC s x = false
 v : (l.any fun e => decide (e.kind = 5) && (decide (e.view.id = x.view.id) && !(decide (e.view = x.view)))) = false
theorem mov4 (h : MovA l s x) (h2 : handC l s.frm l.length x.who x.who ≠ s.sent) : movesErr l s x = 235 := by
 obtain ⟨h1, hc, hv⟩ := h
 unfold movesErr; unfold movC at hc
 rw [if_neg (fun g => g h1), if_neg (by rw [hc]; decide), if_neg (by rw [hv]; decide), if_pos h2]
theorem mov5 (h : MovA l s x) (h2 : handC l s.frm l.length x.who x.who = s.sent) (hi : i < l.length) (hb : sameBad l s x i = true) : movesErr l s x = 236 := by
 obtain ⟨h1, hc, hv⟩ := h
 unfold movesErr; unfold movC at hc
 rw [if_neg (fun g => g h1), if_neg (by rw [hc]; decide), if_neg (by rw [hv]; decide), if_neg (fun g => g h2), if_pos (List.any_eq_true.2 ⟨i, List.mem_range.2 hi, hb⟩)]
theorem mov6 (h : MovA l s x) (h2 : handC l s.frm l.length x.who x.who = s.sent) (hi : l.length ≤ i) (hb : ∀ j, j < i → sameBad l s x j = false) : movesErr l s x = alongErr l s x := by
 obtain ⟨h1, hc, hv⟩ := h
 unfold movesErr; unfold movC at hc
 rw [if_neg (fun g => g h1), if_neg (by rw [hc]; decide), if_neg (by rw [hv]; decide), if_neg (fun g => g h2), if_neg]
 rw [List.any_eq_true]; rintro ⟨j, hj, hj2⟩
 rw [hb j (by have := List.mem_range.1 hj; omega)] at hj2; cases hj2
theorem same_one (h : l[i]? = some e) (hn : e.kind ≠ 5 ∨ e.view.id ≠ x.view.id ∨ (rof l e.who i).view.id ≠ s.view.id) : sameBad l s x i = false := by
 unfold sameBad; rw [h]; dsimp only
 rcases hn with hn | hn | hn <;> rw [decide_eq_false hn] <;> simp
theorem same_all (h : l[i]? = some e) (hk : ∀ j m, j < n → (s.view.members ++ (rof l e.who i).view.members)[j]? = some m → handC l s.frm l.length x.who m = handC l (rof l e.who i).frm i e.who m) (hn : (s.view.members ++ (rof l e.who i).view.members).length ≤ n) : sameBad l s x i = false := by
 unfold sameBad; rw [h]; dsimp only
 have : ((s.view.members ++ (rof l e.who i).view.members).any fun m => decide (handC l s.frm l.length x.who m ≠ handC l (rof l e.who i).frm i e.who m)) = false := by
  rw [List.any_eq_false]; intro m hm hb
  obtain ⟨j, hj, rfl⟩ := List.getElem_of_mem hm
  exact of_decide_eq_true hb (hk j _ (by omega) (List.getElem?_eq_getElem hj))
 rw [this]; simp
theorem same_bad (h : l[i]? = some e) (h5 : e.kind = 5) (hid : e.view.id = x.view.id) (hs : (rof l e.who i).view.id = s.view.id) (hm : (s.view.members ++ (rof l e.who i).view.members)[n]? = some m) (hb : handC l s.frm l.length x.who m ≠ handC l (rof l e.who i).frm i e.who m) : sameBad l s x i = true := by
 unfold sameBad; rw [h]; dsimp only
 rw [decide_eq_true h5, decide_eq_true hid, decide_eq_true hs, Bool.true_and, Bool.true_and, Bool.true_and, List.any_eq_true]
 exact ⟨m, List.mem_of_getElem? hm, decide_eq_true hb⟩
theorem movC_no (h1 : x.view.may = true) (h2 : x.view.id.round ≠ 0) (h3 : decide (x.who ∈ x.view.members) = true) (h4 : ¬ x.view.id.cmp s.view.id ≤ 0) : movC s x = false := by
 unfold movC; rw [h1, decide_eq_false h2, h3, decide_eq_false h4]; rfl
end
set_option maxRecDepth 100000 in
theorem refBoth (a b : List Proc) (ha : a.length ≤ 1000) (hb : b.length ≤ 1000) : Con Tryz.prog 53 [.d (.ro 2 (procs a)), .d (.ro 2 (procs b))] (.em 38 2 (procs (a ++ b))) := by
 refine Con.intro (by kernel_rfl) rfl rfl 10 rfl rfl fun w0 K ac hK r => ?_
 rw [show (.em 38 2 (procs (a ++ b)) : DV) = .em 38 2 ([] ++ (procs a) ++ (procs b)) from (by simp [procs, List.map_append])]
 exact toRet tk mo hK rfl [] 2000 r (by kernel_rfl) (an ((by first | rfl | (simp; done) | (simp <;> omega)) : (0) = ([] : List (List DV)).length) (an ((by first | omega | (simp; done) | (simp <;> omega)) : (2 * ((0) + (procs a).length) + 192) * 16 ≤ 281474976710656) (an ((by first | omega | (simp; done) | (simp <;> omega)) : (0) + (procs a).length < 4611686018427387904) (an ((by first | exact one_procsL _ | (simp [OneR, AV.one, oneC]; done)) : OneR (procs a)) (an ((by first | rfl | (simp; done) | (simp <;> omega)) : (0 + (procs a).length) = ([] ++ (procs a) : List (List DV)).length) (an ((by first | omega | (simp; done) | (simp <;> omega)) : (2 * ((0 + (procs a).length) + (procs b).length) + 192) * 16 ≤ 281474976710656) (an ((by first | omega | (simp; done) | (simp <;> omega)) : (0 + (procs a).length) + (procs b).length < 4611686018427387904) (an ((by first | exact one_procsL _ | (simp [OneR, AV.one, oneC]; done)) : OneR (procs b)) (an ((by first | rfl | (simp; done) | (simp <;> omega)) : (0 + (procs a).length + (procs b).length) = ([] ++ (procs a) ++ (procs b) : List (List DV)).length) trivial)))))))))
set_option maxHeartbeats 1000000 in
set_option maxRecDepth 100000 in
theorem refMoves (l : List Ev) (s : RfS) (x : Ev) (hb : l.length ≤ 250) (ho : ∀ e ∈ l, e.Ok) (hx : x.Ok) (hs : s.view.members.length ≤ 50) (hf : s.frm ≤ l.length) : Con Tryz.prog 25 [.d (.ro 13 (evs l)), .ag s.av, .ag x.av] (.v (.int .i64 (movesErr l s x))) := by
 have hmx := hx.members
 have hbx : x.view.bounded := ⟨by have := hx.members; omega, by have := hx.starts; omega⟩
 have htx := hx.transit
 refine Con.intro (by kernel_rfl) rfl rfl 165 rfl rfl fun w0 K ac hK r => ?_
 cases h0 : ((s.stop : Int) != 2) with
 | false =>
  have qh0 := eq_of_bne h0
  cases h1 : (x.view.may) with
  | false =>
   rw [show (.v (.int .i64 (movesErr l s x)) : DV) = .z 234 from (by rw [mov2 (by omega) (by unfold movC; first | (simp [h1]; done) | (simp [h1]; omega) | (simp [h1]; intros; omega))])]
   exact toRet tk mo hK rfl [(1, [(2, .b false)]), (4, [(1, .con (.v (.bool false)))])] 2000 r (by kernel_rfl) (an h0 (an ((by have k := refViewMay x.view hbx; rw [h1] at k; exact k) : Con Tryz.prog 50 [.ag (x.view.avs [])] (.v (.bool false))) trivial))
  | true =>
   have u0 := ((by have k := refViewMay x.view hbx; rw [h1] at k; exact k) : Con Tryz.prog 50 [.ag (x.view.avs [])] (.v (.bool true)))
   cases h2 : (((x.view.id.round : Nat) : Int) == 0) with
   | false =>
    have qh2 := ne_of_beq_false h2
    cases h3 : (decide (x.who ∈ x.view.members)) with
    | false =>
     have qh3 := of_decide_eq_false h3
     rw [show (.v (.int .i64 (movesErr l s x)) : DV) = .z 234 from (by rw [mov2 (by omega) (by unfold movC; first | (simp [h1, h2, qh2, h3, qh3]; done) | (simp [h1, h2, qh2, h3, qh3]; omega) | (simp [h1, h2, qh2, h3, qh3]; intros; omega))])]
     exact toRet tk mo hK rfl [(1, [(2, .b false)]), (4, [(1, .con (.v (.bool true))), (7, .b false), (14, .con (.v (.bool false)))])] 2000 r (by kernel_rfl) (an h0 (an u0 (an h2 (an ((by have k := refHas x.view.members x.who (by omega); rw [h3] at k; exact k) : Con Tryz.prog 22 [.d (.ro 2 (procs x.view.members)), .ag [.z x.who.node, .u x.who.inc]] (.v (.bool false))) trivial))))
    | true =>
     have qh3 := of_decide_eq_true h3
     have u1 := ((by have k := refHas x.view.members x.who (by omega); rw [h3] at k; exact k) : Con Tryz.prog 22 [.d (.ro 2 (procs x.view.members)), .ag [.z x.who.node, .u x.who.inc]] (.v (.bool true)))
     cases h4 : (decide ((x.view.id.cmp s.view.id : Int) ≤ 0)) with
     | false =>
      have qh4 := of_decide_eq_false h4
      refine toHead (todo' := hd Tryz.f25 0) (E' := [(0, .d (.ro 13 (evs l))), (4, .pt 0 0), (5, .pt 1 0), (7, .pt 2 0), (8, .n 0)]) (M' := [.bx 87 s.av, .bx 46 x.av, .bx 44 (x.view.avs [])]) tk mo hK [(1, [(2, .b false)]), (4, [(1, .con (.v (.bool true))), (7, .b false), (14, .con (.v (.bool true))), (23, .con (.z (x.view.id.cmp s.view.id))), (24, .b false)])] 2000 [0, 1, 2] [0, 4, 5, 7, 8] r (by kernel_rfl) (an h0 (an u0 (an h2 (an u1 (an (refVidCmp x.view.id s.view.id) (an h4 trivial)))))) fun ac wd r => ?_
      refine Goes.rounds (Φ := fun (i : Nat) ac wd => (i ≤ l.length ∧ ∀ j e, j < i → l[j]? = some e → movV x e = false) ∧ RE' [] w0 K 165 [(0, .d (.ro 13 (evs l))), (4, .pt 0 0), (5, .pt 1 0), (7, .pt 2 0), (8, .n i)] [.bx 87 s.av, .bx 46 x.av, .bx 44 (x.view.avs [])] ac wd) (l.length) ?_ (Nat.zero_le _) ⟨⟨Nat.zero_le _, fun j e hj => absurd hj (Nat.not_lt_zero _)⟩, r⟩
      clear r
      rintro i hi0 again0 ac wd ⟨hv0, r⟩
      obtain ⟨hi1, hv0⟩ := hv0
      have u2 := ((by first | rfl | simp [bytesR]) : (((evs l).length : Nat) : Int) = ((l.length : Nat) : Int))
      cases h5 : (decide (((i : Nat) : Int) < ((l.length : Nat) : Int))) with
      | false =>
       have qh5 := of_decide_eq_false h5
       have hany := mov_any hv0 (by omega)
       cases h6 : (((handC l s.frm l.length x.who x.who : Nat) : Int) != ((s.sent : Nat) : Int)) with
       | false =>
        have qh6 := eq_of_bne h6
        refine toHead (todo' := hd Tryz.f25 1) (E' := [(0, .d (.ro 13 (evs l))), (4, .pt 0 0), (5, .pt 1 0), (7, .pt 2 0), (9, .n 0)]) (M' := [.bx 87 s.av, .bx 46 x.av, .bx 44 (x.view.avs [])]) tk mo hK [(7, [(2, .z (((l.length : Nat) : Int))), (3, .b false)]), (11, [(6, .con (.u (handC l s.frm l.length x.who x.who))), (9, .b false)])] 2000 [0, 1, 2] [0, 4, 5, 7, 9] r (by kernel_rfl) (an u2 (an h5 (an (refHanded l s x.who x.who (by omega) hf) (an h6 trivial)))) fun ac wd r => ?_
        refine Goes.rounds (Φ := fun (n : Nat) ac wd => (n ≤ l.length ∧ ∀ j, j < n → sameBad l s x j = false) ∧ RE' [] w0 K 165 [(0, .d (.ro 13 (evs l))), (4, .pt 0 0), (5, .pt 1 0), (7, .pt 2 0), (9, .n n)] [.bx 87 s.av, .bx 46 x.av, .bx 44 (x.view.avs [])] ac wd) (l.length) ?_ (Nat.zero_le _) ⟨⟨Nat.zero_le _, fun j hj => absurd hj (Nat.not_lt_zero _)⟩, r⟩
        clear r
        rintro n hi1 again1 ac wd ⟨hv1, r⟩
        obtain ⟨hi1, hv1⟩ := hv1
        cases h7 : (decide (((n : Nat) : Int) < ((l.length : Nat) : Int))) with
        | false =>
         have qh7 := of_decide_eq_false h7
         rw [show (.v (.int .i64 (movesErr l s x)) : DV) = .z (alongErr l s x) from (by rw [mov6 (i := n) ⟨by omega, (movC_no (by assumption) (by omega) (by assumption) (by omega)), hany⟩ (by omega) (by omega) hv1])]
         exact toRet tk mo hK rfl [(14, [(2, .z (((l.length : Nat) : Int))), (3, .b false)]), (26, [(3, .con (.z (alongErr l s x)))])] 2000 r (by kernel_rfl) (an u2 (an h7 (an (refAlong l s x hb ho hx hs) trivial)))
        | true =>
         have qh7 := of_decide_eq_true h7
         obtain ⟨e_l_n, ge_l_n⟩ : ∃ x, l[n]? = some x := ⟨_, List.getElem?_eq_getElem (by omega)⟩
         have hrm := rof_mem ho e_l_n.who n
         cases h8 : ((e_l_n.kind : Int) != 5) with
         | false =>
          have qh8 := eq_of_bne h8
          cases h9 : (decide (e_l_n.view.id = x.view.id)) with
          | false =>
           have qh9 := of_decide_eq_false h9
           exact toHead (todo' := hd Tryz.f25 1) tk mo hK [(14, [(2, .z (((l.length : Nat) : Int))), (3, .b true)]), (15, [(1, .z (((n + 1 : Nat) : Int)))]), (16, [(2, .ix (n) e_l_n.row), (5, .b false), (9, .ix (n) e_l_n.row), (15, .b false)])] 2000 [0, 1, 2] [0, 4, 5, 7, 9] r (by kernel_rfl) (an u2 (an h7 (an (rfI ((n : Nat) : Int)) (an (evs_at ge_l_n) (an h8 (an (rfI ((n : Nat) : Int)) (an (evs_at ge_l_n) (an ((eqT (eqVid _ _) h9) : EqAgg Tryz.prog 40 [(.int .u64 (((e_l_n.view.id.round : Nat) : Int))), (.int .i64 (e_l_n.view.id.server.node)), (.int .u64 (((e_l_n.view.id.server.inc : Nat) : Int)))] [(.int .u64 (((x.view.id.round : Nat) : Int))), (.int .i64 (x.view.id.server.node)), (.int .u64 (((x.view.id.server.inc : Nat) : Int)))] false) (an (wiS n (by omega)) trivial))))))))) fun ac wd r => again1 (by omega) ac wd ⟨⟨by omega, fun j hj => by rcases Nat.lt_succ_iff_lt_or_eq.1 hj with h | rfl; exact hv1 j h; exact same_one ge_l_n (.inr (.inl (of_decide_eq_false (by assumption))))⟩, r⟩
          | true =>
           have qh9 := of_decide_eq_true h9
           have v18_0 := ((by first | rfl | simp [bytesR]) : (((evs l).length : Nat) : Int) = ((l.length : Nat) : Int))
           have v18_1 := ((eqT (eqVid _ _) h9) : EqAgg Tryz.prog 40 [(.int .u64 (((e_l_n.view.id.round : Nat) : Int))), (.int .i64 (e_l_n.view.id.server.node)), (.int .u64 (((e_l_n.view.id.server.inc : Nat) : Int)))] [(.int .u64 (((x.view.id.round : Nat) : Int))), (.int .i64 (x.view.id.server.node)), (.int .u64 (((x.view.id.server.inc : Nat) : Int)))] true)
           have v18_2 := ((by simp; omega) : (n) ≤ (evs l : List (List DV)).length)
           have v18_3 := (refOfT l e_l_n.who n (by omega) (by omega))
           refine toDraw (todo' := aft Tryz.f25 18) (E' := [(0, .d (.ro 13 (evs l))), (4, .pt 0 0), (5, .pt 1 0), (7, .pt 2 0), (9, .n n), (88, .n n), (89, .d (.ro 13 (evs l))), (90, .n l.length), (91, .d (.v (.bool true))), (94, .d (.ro 13 (evs l))), (95, .n n), (96, .rp e_l_n.row 0), (97, .rp e_l_n.row 0), (98, .z e_l_n.kind), (99, .d (.v (.bool false))), (100, .d (.v (.bool false))), (101, .d (.ro 13 (evs l))), (102, .n n), (103, .rp e_l_n.row 0), (104, .rp e_l_n.row 7), (105, .rp e_l_n.row 7), (106, .ag [.u e_l_n.view.id.round, .z e_l_n.view.id.server.node, .u e_l_n.view.id.server.inc]), (107, .pt 2 0), (108, .ag [.u x.view.id.round, .z x.view.id.server.node, .u x.view.id.server.inc]), (109, .d (.v (.bool false))), (110, .d (.v (.bool false))), (111, .d (.ro 13 (evs l))), (112, .n n), (113, .rp e_l_n.row 0), (114, .rp e_l_n.row 1), (115, .ag [.z e_l_n.who.node, .u e_l_n.who.inc]), (10, .pt 3 0), (116, .d (.ro 13 (evs l))), (117, .n n), (118, .d (.ro 13 (List.take (n) (evs l)))), (119, .ag [.z e_l_n.who.node, .u e_l_n.who.inc]), (120, .ag (rof l e_l_n.who n).av), (11, .pt 4 0)]) (M' := [.bx 87 s.av, .bx 46 x.av, .bx 44 (x.view.avs []), .bx 38 [.z e_l_n.who.node, .u e_l_n.who.inc], .bx 87 (rof l e_l_n.who n).av]) tk mo hK [(14, [(2, .z (((l.length : Nat) : Int))), (3, .b true)]), (16, [(2, .ix (n) e_l_n.row), (5, .b false), (9, .ix (n) e_l_n.row), (15, .b true)]), (17, [(2, .ix (n) e_l_n.row)]), (18, [(2, .n2 (n) (0)), (4, .con (.ag (rof l e_l_n.who n).cells))])] 15 2 [] [[0, 1, 2, 3, 4], [0, 1, 2, 3, 4]] [0, 4, 5, 7, 9, 88, 89, 90, 91, 94, 95, 96, 97, 98, 99, 100, 101, 102, 103, 104, 105, 106, 107, 108, 109, 110, 111, 112, 113, 114, 115, 10, 116, 117, 118, 119, 120, 11] r (by kernel_rfl) (an (an v18_0 (an h7 (an (rfI ((n : Nat) : Int)) (an (evs_at ge_l_n) (an h8 (an (rfI ((n : Nat) : Int)) (an (evs_at ge_l_n) (an v18_1 (an (rfI ((n : Nat) : Int)) (an (evs_at ge_l_n) (an (rfI ((n : Nat) : Int)) (an v18_2 (an v18_3 trivial))))))))))))) (an (an v18_0 (an h7 (an (rfI ((n : Nat) : Int)) (an (evs_at ge_l_n) (an h8 (an (rfI ((n : Nat) : Int)) (an (evs_at ge_l_n) (an v18_1 (an (rfI ((n : Nat) : Int)) (an (evs_at ge_l_n) (an (rfI ((n : Nat) : Int)) (an v18_2 (an v18_3 trivial))))))))))))) trivial)) fun ac wd r => ?_
           cases h10 : (decide ((rof l e_l_n.who n).view.id = s.view.id)) with
           | false =>
            have qh10 := of_decide_eq_false h10
            exact toHead (todo' := hd Tryz.f25 1) tk mo hK [(15, [(1, .z (((n + 1 : Nat) : Int)))]), (19, [(6, .b false)])] 2000 [0, 1, 2] [0, 4, 5, 7, 9] r (by kernel_rfl) (an ((eqT (eqVid _ _) h10) : EqAgg Tryz.prog 40 [(.int .u64 ((((rof l e_l_n.who n).view.id.round : Nat) : Int))), (.int .i64 ((rof l e_l_n.who n).view.id.server.node)), (.int .u64 ((((rof l e_l_n.who n).view.id.server.inc : Nat) : Int)))] [(.int .u64 (((s.view.id.round : Nat) : Int))), (.int .i64 (s.view.id.server.node)), (.int .u64 (((s.view.id.server.inc : Nat) : Int)))] false) (an (wiS n (by omega)) trivial)) fun ac wd r => again1 (by omega) ac wd ⟨⟨by omega, fun j hj => by rcases Nat.lt_succ_iff_lt_or_eq.1 hj with h | rfl; exact hv1 j h; exact same_one ge_l_n (.inr (.inr (of_decide_eq_false (by assumption))))⟩, r⟩
           | true =>
            have qh10 := of_decide_eq_true h10
            refine toHead (todo' := hd Tryz.f25 2) (E' := [(0, .d (.ro 13 (evs l))), (4, .pt 0 0), (5, .pt 1 0), (7, .pt 2 0), (9, .n n), (10, .pt 3 0), (11, .pt 4 0), (12, .sl 5 ((procs (s.view.members ++ (rof l e_l_n.who n).view.members) : List (List DV)).length)), (13, .z 0)]) (M' := [.bx 87 s.av, .bx 46 x.av, .bx 44 (x.view.avs []), .bx 38 [.z e_l_n.who.node, .u e_l_n.who.inc], .bx 87 (rof l e_l_n.who n).av, .rw 38 2 (procs (s.view.members ++ (rof l e_l_n.who n).view.members))]) tk mo hK [(19, [(6, .b true)]), (20, [(6, .con (.em 38 2 (procs (s.view.members ++ (rof l e_l_n.who n).view.members))))])] 2000 [0, 1, 2, 3, 4, 5] [0, 4, 5, 7, 9, 10, 11, 12, 13] r (by kernel_rfl) (an ((eqT (eqVid _ _) h10) : EqAgg Tryz.prog 40 [(.int .u64 ((((rof l e_l_n.who n).view.id.round : Nat) : Int))), (.int .i64 ((rof l e_l_n.who n).view.id.server.node)), (.int .u64 ((((rof l e_l_n.who n).view.id.server.inc : Nat) : Int)))] [(.int .u64 (((s.view.id.round : Nat) : Int))), (.int .i64 (s.view.id.server.node)), (.int .u64 (((s.view.id.server.inc : Nat) : Int)))] true) (an (refBoth s.view.members (rof l e_l_n.who n).view.members (by omega) (by omega)) trivial)) fun ac wd r => ?_
            refine Goes.rounds (Φ := fun (k : Nat) ac wd => (k ≤ (s.view.members ++ (rof l e_l_n.who n).view.members).length ∧ ∀ j m, j < k → (s.view.members ++ (rof l e_l_n.who n).view.members)[j]? = some m → handC l s.frm l.length x.who m = handC l (rof l e_l_n.who n).frm n e_l_n.who m) ∧ RE' [] w0 K 165 [(0, .d (.ro 13 (evs l))), (4, .pt 0 0), (5, .pt 1 0), (7, .pt 2 0), (9, .n n), (10, .pt 3 0), (11, .pt 4 0), (12, .sl 5 ((s.view.members ++ (rof l e_l_n.who n).view.members).length)), (13, .n k)] [.bx 87 s.av, .bx 46 x.av, .bx 44 (x.view.avs []), .bx 38 [.z e_l_n.who.node, .u e_l_n.who.inc], .bx 87 (rof l e_l_n.who n).av, .rw 38 2 (procs (s.view.members ++ (rof l e_l_n.who n).view.members))] ac wd) ((s.view.members ++ (rof l e_l_n.who n).view.members).length) ?_ (Nat.zero_le _) ⟨⟨Nat.zero_le _, fun j m hj => absurd hj (Nat.not_lt_zero _)⟩, (r).cast (by simp) rfl⟩
            clear r
            rintro k hi2 again2 ac wd ⟨hv2, r⟩
            obtain ⟨hi2, hv2⟩ := hv2
            have habl : (s.view.members ++ (rof l e_l_n.who n).view.members).length ≤ 100 := by rw [List.length_append]; omega
            cases h11 : (decide (((k : Nat) : Int) < (((s.view.members ++ (rof l e_l_n.who n).view.members).length : Nat) : Int))) with
            | false =>
             have qh11 := of_decide_eq_false h11
             exact toHead (todo' := hd Tryz.f25 1) tk mo hK [(15, [(1, .z (((n + 1 : Nat) : Int)))]), (22, [(3, .b false)])] 2000 [0, 1, 2] [0, 4, 5, 7, 9] r (by kernel_rfl) (an h11 (an (wiS n (by omega)) trivial)) fun ac wd r => again1 (by omega) ac wd ⟨⟨by omega, fun j hj => by rcases Nat.lt_succ_iff_lt_or_eq.1 hj with h | rfl; exact hv1 j h; exact same_all ge_l_n hv2 (by omega)⟩, r⟩
            | true =>
             have qh11 := of_decide_eq_true h11
             obtain ⟨e_63073, ge_63073⟩ : ∃ x, (s.view.members ++ (rof l e_l_n.who n).view.members)[k]? = some x := ⟨_, List.getElem?_eq_getElem (by omega)⟩
             have u3 := ((by first | omega | decide | (simp; done) | (simp; omega)) : (k) < ((s.view.members ++ (rof l e_l_n.who n).view.members).length))
             have u4 := ((by first | rfl | (simp; done) | (simp <;> omega)) : ((s.view.members ++ (rof l e_l_n.who n).view.members).length) ≤ (procs (s.view.members ++ (rof l e_l_n.who n).view.members) : List (List DV)).length)
             have u5 := (refHandedT l (rof l e_l_n.who n) e_l_n.who e_63073 n (by omega) (by omega) (rof_small l e_l_n.who n).2.2.2)
             cases h12 : (((handC l s.frm l.length x.who e_63073 : Nat) : Int) != ((handC l (rof l e_l_n.who n).frm n e_l_n.who e_63073 : Nat) : Int)) with
             | false =>
              have qh12 := eq_of_bne h12
              exact toHead (todo' := hd Tryz.f25 2) (E' := [(0, .d (.ro 13 (evs l))), (4, .pt 0 0), (5, .pt 1 0), (7, .pt 2 0), (9, .n n), (10, .pt 3 0), (11, .pt 4 0), (12, .sl 5 ((s.view.members ++ (rof l e_l_n.who n).view.members).length)), (13, .n (k + 1))]) (M' := [.bx 87 s.av, .bx 46 x.av, .bx 44 (x.view.avs []), .bx 38 [.z e_l_n.who.node, .u e_l_n.who.inc], .bx 87 (rof l e_l_n.who n).av, .rw 38 2 (procs (s.view.members ++ (rof l e_l_n.who n).view.members))]) tk mo hK [(22, [(3, .b true)]), (23, [(1, .z (((k + 1 : Nat) : Int)))]), (24, [(6, .n (k)), (7, .ix 0 [.z e_63073.node, .u e_63073.inc]), (11, .n2 (n) (0)), (16, .n (k)), (17, .ix 0 [.z e_63073.node, .u e_63073.inc]), (8, .con (.u (handC l s.frm l.length x.who e_63073))), (18, .con (.u (handC l (rof l e_l_n.who n).frm n e_l_n.who e_63073))), (19, .b false)])] 2000 [0, 1, 2, 3, 4, 5] [0, 4, 5, 7, 9, 10, 11, 12, 13] r (by kernel_rfl) (an h11 (an (rfI ((k : Nat) : Int)) (an u3 (an u4 (an (procs_at ge_63073) (an (rfI ((n : Nat) : Int)) (an ((by simp; omega) : (n) ≤ (evs l : List (List DV)).length) (an (rfI ((k : Nat) : Int)) (an u3 (an u4 (an (procs_at ge_63073) (an (refHanded l s x.who e_63073 (by omega) hf) (an u5 (an h12 (an (wiS k (by omega)) trivial))))))))))))))) fun ac wd r => again2 (by omega) ac wd ⟨⟨by omega, fun j m hj hm => by rcases Nat.lt_succ_iff_lt_or_eq.1 hj with h | rfl; exact hv2 j m h hm; rw [ge_63073] at hm; cases hm; omega⟩, r.cast rfl rfl⟩
             | true =>
              have qh12 : ¬ _ = _ := bne_iff_ne.1 h12
              rw [show (.v (.int .i64 (movesErr l s x)) : DV) = .z 236 from (by rw [mov5 (i := n) ⟨by omega, (movC_no (by assumption) (by omega) (by assumption) (by omega)), hany⟩ (by omega) (by omega) (same_bad ge_l_n (by omega) (of_decide_eq_true (by assumption)) (of_decide_eq_true (by assumption)) ge_63073 (by omega))])]
              exact toRet tk mo hK rfl [(22, [(3, .b true)]), (24, [(6, .n (k)), (7, .ix 0 [.z e_63073.node, .u e_63073.inc]), (11, .n2 (n) (0)), (16, .n (k)), (17, .ix 0 [.z e_63073.node, .u e_63073.inc]), (8, .con (.u (handC l s.frm l.length x.who e_63073))), (18, .con (.u (handC l (rof l e_l_n.who n).frm n e_l_n.who e_63073))), (19, .b true)])] 2000 r (by kernel_rfl) (an h11 (an (rfI ((k : Nat) : Int)) (an u3 (an u4 (an (procs_at ge_63073) (an (rfI ((n : Nat) : Int)) (an ((by simp; omega) : (n) ≤ (evs l : List (List DV)).length) (an (rfI ((k : Nat) : Int)) (an u3 (an u4 (an (procs_at ge_63073) (an (refHanded l s x.who e_63073 (by omega) hf) (an u5 (an h12 trivial))))))))))))))
         | true =>
          have qh8 : ¬ _ = _ := bne_iff_ne.1 h8
          exact toHead (todo' := hd Tryz.f25 1) tk mo hK [(14, [(2, .z (((l.length : Nat) : Int))), (3, .b true)]), (15, [(1, .z (((n + 1 : Nat) : Int)))]), (16, [(2, .ix (n) e_l_n.row), (5, .b true)])] 2000 [0, 1, 2] [0, 4, 5, 7, 9] r (by kernel_rfl) (an u2 (an h7 (an (rfI ((n : Nat) : Int)) (an (evs_at ge_l_n) (an h8 (an (wiS n (by omega)) trivial)))))) fun ac wd r => again1 (by omega) ac wd ⟨⟨by omega, fun j hj => by rcases Nat.lt_succ_iff_lt_or_eq.1 hj with h | rfl; exact hv1 j h; exact same_one ge_l_n (.inl (by omega))⟩, r⟩
       | true =>
        have qh6 : ¬ _ = _ := bne_iff_ne.1 h6
        rw [show (.v (.int .i64 (movesErr l s x)) : DV) = .z 235 from (by rw [mov4 ⟨by omega, (movC_no (by assumption) (by omega) (by assumption) (by omega)), hany⟩ (by omega)])]
        exact toRet tk mo hK rfl [(7, [(2, .z (((l.length : Nat) : Int))), (3, .b false)]), (11, [(6, .con (.u (handC l s.frm l.length x.who x.who))), (9, .b true)])] 2000 r (by kernel_rfl) (an u2 (an h5 (an (refHanded l s x.who x.who (by omega) hf) (an h6 trivial))))
      | true =>
       have qh5 := of_decide_eq_true h5
       obtain ⟨e_l_i, ge_l_i⟩ : ∃ x, l[i]? = some x := ⟨_, List.getElem?_eq_getElem (by omega)⟩
       have hbe : e_l_i.view.bounded := ⟨by have := (ho _ (List.mem_of_getElem? ge_l_i)).members; omega, by have := (ho _ (List.mem_of_getElem? ge_l_i)).starts; omega⟩
       cases h13 : ((e_l_i.kind : Int) == 5) with
       | false =>
        have qh13 := ne_of_beq_false h13
        exact toHead (todo' := hd Tryz.f25 0) tk mo hK [(7, [(2, .z (((l.length : Nat) : Int))), (3, .b true)]), (8, [(1, .z (((i + 1 : Nat) : Int)))]), (9, [(2, .ix (i) e_l_i.row), (5, .b false)])] 2000 [0, 1, 2] [0, 4, 5, 7, 8] r (by kernel_rfl) (an u2 (an h5 (an (rfI ((i : Nat) : Int)) (an (evs_at ge_l_i) (an h13 (an (wiS i (by omega)) trivial)))))) fun ac wd r => again0 (by omega) ac wd ⟨⟨by omega, fun j o hj ho2 => by rcases Nat.lt_succ_iff_lt_or_eq.1 hj with h | rfl; exact hv0 j o h ho2; rw [ge_l_i] at ho2; cases ho2; unfold movV; first | (simp [h13, qh13]; done) | (simp [h13, qh13]; omega) | (simp [h13, qh13]; intros; omega)⟩, r⟩
       | true =>
        have qh13 := eq_of_beq h13
        cases h14 : (decide (e_l_i.view.id = x.view.id)) with
        | false =>
         have qh14 := of_decide_eq_false h14
         exact toHead (todo' := hd Tryz.f25 0) tk mo hK [(7, [(2, .z (((l.length : Nat) : Int))), (3, .b true)]), (8, [(1, .z (((i + 1 : Nat) : Int)))]), (9, [(2, .ix (i) e_l_i.row), (5, .b true), (9, .ix (i) e_l_i.row), (15, .b false)])] 2000 [0, 1, 2] [0, 4, 5, 7, 8] r (by kernel_rfl) (an u2 (an h5 (an (rfI ((i : Nat) : Int)) (an (evs_at ge_l_i) (an h13 (an (rfI ((i : Nat) : Int)) (an (evs_at ge_l_i) (an ((eqT (eqVid _ _) h14) : EqAgg Tryz.prog 40 [(.int .u64 (((e_l_i.view.id.round : Nat) : Int))), (.int .i64 (e_l_i.view.id.server.node)), (.int .u64 (((e_l_i.view.id.server.inc : Nat) : Int)))] [(.int .u64 (((x.view.id.round : Nat) : Int))), (.int .i64 (x.view.id.server.node)), (.int .u64 (((x.view.id.server.inc : Nat) : Int)))] false) (an (wiS i (by omega)) trivial))))))))) fun ac wd r => again0 (by omega) ac wd ⟨⟨by omega, fun j o hj ho2 => by rcases Nat.lt_succ_iff_lt_or_eq.1 hj with h | rfl; exact hv0 j o h ho2; rw [ge_l_i] at ho2; cases ho2; unfold movV; first | (simp [h13, qh13, h14, qh14]; done) | (simp [h13, qh13, h14, qh14]; omega) | (simp [h13, qh13, h14, qh14]; intros; omega)⟩, r⟩
        | true =>
         have qh14 := of_decide_eq_true h14
         have u6 := ((eqT (eqVid _ _) h14) : EqAgg Tryz.prog 40 [(.int .u64 (((e_l_i.view.id.round : Nat) : Int))), (.int .i64 (e_l_i.view.id.server.node)), (.int .u64 (((e_l_i.view.id.server.inc : Nat) : Int)))] [(.int .u64 (((x.view.id.round : Nat) : Int))), (.int .i64 (x.view.id.server.node)), (.int .u64 (((x.view.id.server.inc : Nat) : Int)))] true)
         cases h15 : (decide (e_l_i.view = x.view)) with
         | false =>
          have qh15 := of_decide_eq_false h15
          rw [show (.v (.int .i64 (movesErr l s x)) : DV) = .z 234 from (by rw [mov3 (by omega) (movC_no (by assumption) (by omega) (by assumption) (by omega)) ge_l_i (by unfold movV; first | (simp [h13, qh13, h14, qh14, h15, qh15]; done) | (simp [h13, qh13, h14, qh14, h15, qh15]; omega) | (simp [h13, qh13, h14, qh14, h15, qh15]; intros; omega))])]
          exact toRet tk mo hK rfl [(7, [(2, .z (((l.length : Nat) : Int))), (3, .b true)]), (9, [(2, .ix (i) e_l_i.row), (5, .b true), (9, .ix (i) e_l_i.row), (15, .b true), (20, .ix (i) e_l_i.row), (24, .con (.v (.bool false)))])] 2000 r (by kernel_rfl) (an u2 (an h5 (an (rfI ((i : Nat) : Int)) (an (evs_at ge_l_i) (an h13 (an (rfI ((i : Nat) : Int)) (an (evs_at ge_l_i) (an u6 (an (rfI ((i : Nat) : Int)) (an (evs_at ge_l_i) (an ((by have k := refViewSame e_l_i.view x.view hbe; rw [h15] at k; exact k) : Con Tryz.prog 52 [.ag (e_l_i.view.avs []), .ag (x.view.avs [])] (.v (.bool false))) trivial)))))))))))
         | true =>
          have qh15 := of_decide_eq_true h15
          exact toHead (todo' := hd Tryz.f25 0) tk mo hK [(7, [(2, .z (((l.length : Nat) : Int))), (3, .b true)]), (8, [(1, .z (((i + 1 : Nat) : Int)))]), (9, [(2, .ix (i) e_l_i.row), (5, .b true), (9, .ix (i) e_l_i.row), (15, .b true), (20, .ix (i) e_l_i.row), (24, .con (.v (.bool true)))])] 2000 [0, 1, 2] [0, 4, 5, 7, 8] r (by kernel_rfl) (an u2 (an h5 (an (rfI ((i : Nat) : Int)) (an (evs_at ge_l_i) (an h13 (an (rfI ((i : Nat) : Int)) (an (evs_at ge_l_i) (an u6 (an (rfI ((i : Nat) : Int)) (an (evs_at ge_l_i) (an ((by have k := refViewSame e_l_i.view x.view hbe; rw [h15] at k; exact k) : Con Tryz.prog 52 [.ag (e_l_i.view.avs []), .ag (x.view.avs [])] (.v (.bool true))) (an (wiS i (by omega)) trivial)))))))))))) fun ac wd r => again0 (by omega) ac wd ⟨⟨by omega, fun j o hj ho2 => by rcases Nat.lt_succ_iff_lt_or_eq.1 hj with h | rfl; exact hv0 j o h ho2; rw [ge_l_i] at ho2; cases ho2; unfold movV; first | (simp [h13, qh13, h14, qh14, h15, qh15]; done) | (simp [h13, qh13, h14, qh14, h15, qh15]; omega) | (simp [h13, qh13, h14, qh14, h15, qh15]; intros; omega)⟩, r⟩
     | true =>
      have qh4 := of_decide_eq_true h4
      rw [show (.v (.int .i64 (movesErr l s x)) : DV) = .z 234 from (by rw [mov2 (by omega) (by unfold movC; first | (simp [h1, h2, qh2, h3, qh3, h4, qh4]; done) | (simp [h1, h2, qh2, h3, qh3, h4, qh4]; omega) | (simp [h1, h2, qh2, h3, qh3, h4, qh4]; intros; omega))])]
      exact toRet tk mo hK rfl [(1, [(2, .b false)]), (4, [(1, .con (.v (.bool true))), (7, .b false), (14, .con (.v (.bool true))), (23, .con (.z (x.view.id.cmp s.view.id))), (24, .b true)])] 2000 r (by kernel_rfl) (an h0 (an u0 (an h2 (an u1 (an (refVidCmp x.view.id s.view.id) (an h4 trivial))))))
   | true =>
    have qh2 := eq_of_beq h2
    rw [show (.v (.int .i64 (movesErr l s x)) : DV) = .z 234 from (by rw [mov2 (by omega) (by unfold movC; first | (simp [h1, h2, qh2]; done) | (simp [h1, h2, qh2]; omega) | (simp [h1, h2, qh2]; intros; omega))])]
    exact toRet tk mo hK rfl [(1, [(2, .b false)]), (4, [(1, .con (.v (.bool true))), (7, .b true)])] 2000 r (by kernel_rfl) (an h0 (an u0 (an h2 trivial)))
 | true =>
  have qh0 : ¬ _ = _ := bne_iff_ne.1 h0
  rw [show (.v (.int .i64 (movesErr l s x)) : DV) = .z 231 from (by rw [mov1 (by omega)])]
  exact toRet tk mo hK rfl [(1, [(2, .b true)])] 2000 r (by kernel_rfl) (an h0 trivial)
end Go.Proofs.YtilhbhpldkjkaaaGreat
namespace Go.Proofs.YtilhbhpldkjkaaaGreat
open Go.RowKit
section
variable {l : List Ev} {x : Ev}
theorem ref6 (h : x.kind = 6) : refErr l x = begErr l x.who := by unfold refErr; rw [if_pos h]
theorem refOff (h : ¬ x.kind = 6) (ho : (rof l x.who l.length).on = false) : refErr l x = 230 := by unfold refErr; rw [if_neg h, if_pos ho]
theorem ref1 (h : ¬ x.kind = 6) (ho : (rof l x.who l.length).on = true) (h1 : x.kind = 1) : refErr l x = if (rof l x.who l.length).stop = 2 then 231 else if x.n ≠ (rof l x.who l.length).sent + 1 then 232 else 0 := by unfold refErr; rw [if_neg h, if_neg (by rw [ho]; decide), if_pos h1]
theorem ref2 (h : ¬ x.kind = 6) (ho : (rof l x.who l.length).on = true) (h2 : x.kind = 2) : refErr l x = if x.frm ∉ (rof l x.who l.length).view.members then 233 else if x.n ≠ handC l (rof l x.who l.length).frm l.length x.who x.frm + 1 then 232 else if sentR l l.length (rof l x.who l.length).view.id x.frm x.n = some x.body then 0 else 233 := by
 unfold refErr; rw [if_neg h, if_neg (by rw [ho]; decide), if_neg (by omega), if_pos h2]
theorem ref3 (h : ¬ x.kind = 6) (ho : (rof l x.who l.length).on = true) (h3 : x.kind = 3) : refErr l x = if (rof l x.who l.length).stop ≠ 0 then 231 else 0 := by
 unfold refErr; rw [if_neg h, if_neg (by rw [ho]; decide), if_neg (by omega), if_neg (by omega), if_pos h3]
theorem ref4 (h : ¬ x.kind = 6) (ho : (rof l x.who l.length).on = true) (h4 : x.kind = 4) : refErr l x = if (rof l x.who l.length).stop ≠ 1 then 231 else 0 := by
 unfold refErr; rw [if_neg h, if_neg (by rw [ho]; decide), if_neg (by omega), if_neg (by omega), if_neg (by omega), if_pos h4]
theorem ref5 (h : ¬ x.kind = 6) (ho : (rof l x.who l.length).on = true) (h5 : x.kind = 5) : refErr l x = movesErr l (rof l x.who l.length) x := by
 unfold refErr; rw [if_neg h, if_neg (by rw [ho]; decide), if_neg (by omega), if_neg (by omega), if_neg (by omega), if_neg (by omega), if_pos h5]
theorem ref7 (h : ¬ x.kind = 6) (ho : (rof l x.who l.length).on = true) (h7 : x.kind = 7) : refErr l x = 0 := by
 unfold refErr; rw [if_neg h, if_neg (by rw [ho]; decide), if_neg (by omega), if_neg (by omega), if_neg (by omega), if_neg (by omega), if_neg (by omega), if_pos h7]
theorem ref0 (h : ¬ x.kind = 6) (ho : (rof l x.who l.length).on = true) (h1 : ¬ x.kind = 1) (h2 : ¬ x.kind = 2) (h3 : ¬ x.kind = 3) (h4 : ¬ x.kind = 4) (h5 : ¬ x.kind = 5) (h7 : ¬ x.kind = 7) : refErr l x = 230 := by
 unfold refErr; rw [if_neg h, if_neg (by rw [ho]; decide), if_neg h1, if_neg h2, if_neg h3, if_neg h4, if_neg h5, if_neg h7]
end
set_option maxRecDepth 100000 in
theorem refEvent (l : List Ev) (x : Ev) (hb : l.length ≤ 250) (ho : ∀ e ∈ l, e.Ok) (hx : x.Ok) : Con Tryz.prog 12 [.d (.ro 13 (evs l)), .ag x.av] (.v (.int .i64 (refErr l x))) := by
 have hsm := rof_small l x.who l.length
 have hf := hsm.2.2.2
 have hs := rof_mem ho x.who l.length
 have hhc := handC_le l (rof l x.who l.length).frm l.length x.who x.frm
 refine Con.intro (by kernel_rfl) rfl rfl 94 rfl rfl fun w0 K ac hK r => ?_
 cases h0 : ((x.kind : Int) == 6) with
 | false =>
  have qh0 := ne_of_beq_false h0
  cases h1 : ((rof l x.who l.length).on) with
  | false =>
   rw [show (.v (.int .i64 (refErr l x)) : DV) = .z 230 from (by rw [refOff (by omega) (by assumption)])]
   exact toRet tk mo hK rfl [(1, [(2, .b false)]), (3, [(3, .con (.ag ((rof l x.who l.length).cel false)))])] 2000 r (by kernel_rfl) (an h0 (an ((by have k := refOf l x.who (by omega); rw [h1] at k; exact k) : Con Tryz.prog 21 [.d (.ro 13 (evs l)), .ag [.z x.who.node, .u x.who.inc]] (.ag ((rof l x.who l.length).cel false))) trivial))
  | true =>
   have u0 := ((by have k := refOf l x.who (by omega); rw [h1] at k; exact k) : Con Tryz.prog 21 [.d (.ro 13 (evs l)), .ag [.z x.who.node, .u x.who.inc]] (.ag ((rof l x.who l.length).cel true)))
   cases h2 : ((x.kind : Int) == 1) with
   | false =>
    have qh2 := ne_of_beq_false h2
    cases h3 : ((x.kind : Int) == 2) with
    | false =>
     have qh3 := ne_of_beq_false h3
     cases h4 : ((x.kind : Int) == 3) with
     | false =>
      have qh4 := ne_of_beq_false h4
      cases h5 : ((x.kind : Int) == 4) with
      | false =>
       have qh5 := ne_of_beq_false h5
       cases h6 : ((x.kind : Int) == 5) with
       | false =>
        have qh6 := ne_of_beq_false h6
        cases h7 : ((x.kind : Int) == 7) with
        | false =>
         have qh7 := ne_of_beq_false h7
         rw [show (.v (.int .i64 (refErr l x)) : DV) = .z 230 from (by rw [ref0 (by omega) (by assumption) (by omega) (by omega) (by omega) (by omega) (by omega) (by omega)])]
         exact toRet tk mo hK rfl [(1, [(2, .b false)]), (3, [(3, .con (.ag ((rof l x.who l.length).cel true)))]), (8, [(0, .b false)]), (13, [(0, .b false)]), (21, [(0, .b false)]), (24, [(0, .b false)]), (27, [(0, .b false)]), (29, [(0, .b false)])] 2000 r (by kernel_rfl) (an h0 (an u0 (an h2 (an h3 (an h4 (an h5 (an h6 (an h7 trivial))))))))
        | true =>
         have qh7 := eq_of_beq h7
         rw [show (.v (.int .i64 (refErr l x)) : DV) = .z 0 from (by rw [ref7 (by omega) (by assumption) (by omega)])]
         exact toRet tk mo hK rfl [(1, [(2, .b false)]), (3, [(3, .con (.ag ((rof l x.who l.length).cel true)))]), (8, [(0, .b false)]), (13, [(0, .b false)]), (21, [(0, .b false)]), (24, [(0, .b false)]), (27, [(0, .b false)]), (29, [(0, .b true)])] 2000 r (by kernel_rfl) (an h0 (an u0 (an h2 (an h3 (an h4 (an h5 (an h6 (an h7 trivial))))))))
       | true =>
        have qh6 := eq_of_beq h6
        rw [show (.v (.int .i64 (refErr l x)) : DV) = .z (movesErr l (rof l x.who l.length) x) from (by rw [ref5 (by omega) (by assumption) (by omega)])]
        exact toRet tk mo hK rfl [(1, [(2, .b false)]), (3, [(3, .con (.ag ((rof l x.who l.length).cel true)))]), (8, [(0, .b false)]), (13, [(0, .b false)]), (21, [(0, .b false)]), (24, [(0, .b false)]), (27, [(0, .b true)]), (28, [(3, .con (.z (movesErr l (rof l x.who l.length) x)))])] 2000 r (by kernel_rfl) (an h0 (an u0 (an h2 (an h3 (an h4 (an h5 (an h6 (an ((by have k := refMoves l (rof l x.who l.length) x hb ho hx hs hf; simp only [RfS.av, h1] at k; exact k) : Con Tryz.prog 25 [.d (.ro 13 (evs l)), .ag [.d (.v (.bool true)), .d (.v (.bool ((rof l x.who l.length).begun))), .u ((rof l x.who l.length).view.id.round), .z ((rof l x.who l.length).view.id.server.node), .u ((rof l x.who l.length).view.id.server.inc), .d (.ro 2 (procs (rof l x.who l.length).view.members)), .d (.ro 1 (nums (rof l x.who l.length).view.starts)), .z ((rof l x.who l.length).stop), .u ((rof l x.who l.length).sent), .n ((rof l x.who l.length).frm)], .ag x.av] (.z (movesErr l (rof l x.who l.length) x))) trivial))))))))
      | true =>
       have qh5 := eq_of_beq h5
       cases h8 : (((rof l x.who l.length).stop : Int) != 1) with
       | false =>
        have qh8 := eq_of_bne h8
        rw [show (.v (.int .i64 (refErr l x)) : DV) = .z 0 from (by rw [ref4 (by omega) (by assumption) (by omega)]; rw [if_neg (by omega)])]
        exact toRet tk mo hK rfl [(1, [(2, .b false)]), (3, [(3, .con (.ag ((rof l x.who l.length).cel true)))]), (8, [(0, .b false)]), (13, [(0, .b false)]), (21, [(0, .b false)]), (24, [(0, .b true)]), (25, [(2, .b false)])] 2000 r (by kernel_rfl) (an h0 (an u0 (an h2 (an h3 (an h4 (an h5 (an h8 trivial)))))))
       | true =>
        have qh8 : ¬ _ = _ := bne_iff_ne.1 h8
        rw [show (.v (.int .i64 (refErr l x)) : DV) = .z 231 from (by rw [ref4 (by omega) (by assumption) (by omega)]; rw [if_pos (by omega)])]
        exact toRet tk mo hK rfl [(1, [(2, .b false)]), (3, [(3, .con (.ag ((rof l x.who l.length).cel true)))]), (8, [(0, .b false)]), (13, [(0, .b false)]), (21, [(0, .b false)]), (24, [(0, .b true)]), (25, [(2, .b true)])] 2000 r (by kernel_rfl) (an h0 (an u0 (an h2 (an h3 (an h4 (an h5 (an h8 trivial)))))))
     | true =>
      have qh4 := eq_of_beq h4
      cases h9 : (((rof l x.who l.length).stop : Int) != 0) with
      | false =>
       have qh9 := eq_of_bne h9
       rw [show (.v (.int .i64 (refErr l x)) : DV) = .z 0 from (by rw [ref3 (by omega) (by assumption) (by omega)]; rw [if_neg (by omega)])]
       exact toRet tk mo hK rfl [(1, [(2, .b false)]), (3, [(3, .con (.ag ((rof l x.who l.length).cel true)))]), (8, [(0, .b false)]), (13, [(0, .b false)]), (21, [(0, .b true)]), (22, [(2, .b false)])] 2000 r (by kernel_rfl) (an h0 (an u0 (an h2 (an h3 (an h4 (an h9 trivial))))))
      | true =>
       have qh9 : ¬ _ = _ := bne_iff_ne.1 h9
       rw [show (.v (.int .i64 (refErr l x)) : DV) = .z 231 from (by rw [ref3 (by omega) (by assumption) (by omega)]; rw [if_pos (by omega)])]
       exact toRet tk mo hK rfl [(1, [(2, .b false)]), (3, [(3, .con (.ag ((rof l x.who l.length).cel true)))]), (8, [(0, .b false)]), (13, [(0, .b false)]), (21, [(0, .b true)]), (22, [(2, .b true)])] 2000 r (by kernel_rfl) (an h0 (an u0 (an h2 (an h3 (an h4 (an h9 trivial))))))
    | true =>
     have qh3 := eq_of_beq h3
     cases h10 : (decide (x.frm ∈ ((rof l x.who l.length).view.members))) with
     | false =>
      have qh10 := of_decide_eq_false h10
      rw [show (.v (.int .i64 (refErr l x)) : DV) = .z 233 from (by rw [ref2 (by omega) (by assumption) (by omega)]; rw [if_pos (of_decide_eq_false (by assumption))])]
      exact toRet tk mo hK rfl [(1, [(2, .b false)]), (3, [(3, .con (.ag ((rof l x.who l.length).cel true)))]), (8, [(0, .b false)]), (13, [(0, .b true)]), (14, [(5, .con (.v (.bool false)))])] 2000 r (by kernel_rfl) (an h0 (an u0 (an h2 (an h3 (an ((by have k := refHas ((rof l x.who l.length).view.members) x.frm (by omega); rw [h10] at k; exact k) : Con Tryz.prog 22 [.d (.ro 2 (procs (rof l x.who l.length).view.members)), .ag [.z x.frm.node, .u x.frm.inc]] (.v (.bool false))) trivial)))))
     | true =>
      have qh10 := of_decide_eq_true h10
      have u1 := ((by have k := refHas ((rof l x.who l.length).view.members) x.frm (by omega); rw [h10] at k; exact k) : Con Tryz.prog 22 [.d (.ro 2 (procs (rof l x.who l.length).view.members)), .ag [.z x.frm.node, .u x.frm.inc]] (.v (.bool true)))
      have u2 := ((by have k := refHanded l (rof l x.who l.length) x.who x.frm (by omega) hf; simp only [RfS.av, h1] at k; exact k) : Con Tryz.prog 23 [.d (.ro 13 (evs l)), .ag [.d (.v (.bool true)), .d (.v (.bool ((rof l x.who l.length).begun))), .u ((rof l x.who l.length).view.id.round), .z ((rof l x.who l.length).view.id.server.node), .u ((rof l x.who l.length).view.id.server.inc), .d (.ro 2 (procs (rof l x.who l.length).view.members)), .d (.ro 1 (nums (rof l x.who l.length).view.starts)), .z ((rof l x.who l.length).stop), .u ((rof l x.who l.length).sent), .n ((rof l x.who l.length).frm)], .ag [.z x.who.node, .u x.who.inc], .ag [.z x.frm.node, .u x.frm.inc]] (.u (handC l (rof l x.who l.length).frm l.length x.who x.frm)))
      have u3 := ((by first | exact wi (by omega) | exact wu (by omega)) : IntKind.u64.wrap (((handC l (rof l x.who l.length).frm l.length x.who x.frm : Nat) : Int) + 1) = ((handC l (rof l x.who l.length).frm l.length x.who x.frm + 1 : Nat) : Int))
      cases h11 : (((x.n : Nat) : Int) != ((handC l (rof l x.who l.length).frm l.length x.who x.frm + 1 : Nat) : Int)) with
      | false =>
       have qh11 := eq_of_bne h11
       cases h12 : ((sentR l l.length (rof l x.who l.length).view.id x.frm x.n).isSome) with
       | false =>
        have hsn : (sentR l l.length (rof l x.who l.length).view.id x.frm x.n) = none := by simpa using (show (sentR l l.length (rof l x.who l.length).view.id x.frm x.n).isSome = false by assumption)
        rw [show (.v (.int .i64 (refErr l x)) : DV) = .z 233 from (by rw [ref2 (by omega) (by assumption) (by omega)]; rw [if_neg (fun h => h (of_decide_eq_true (show decide (x.frm ∈ ((rof l x.who l.length).view.members)) = true by assumption))), if_neg (show ¬ (x.n ≠ handC l (rof l x.who l.length).frm l.length x.who x.frm + 1) by omega), hsn, if_neg (by intro h; cases h)])]
        exact toRet tk mo hK rfl [(1, [(2, .b false)]), (3, [(3, .con (.ag ((rof l x.who l.length).cel true)))]), (8, [(0, .b false)]), (13, [(0, .b true)]), (14, [(5, .con (.v (.bool true)))]), (16, [(8, .con (.u (handC l (rof l x.who l.length).frm l.length x.who x.frm))), (9, .z (((handC l (rof l x.who l.length).frm l.length x.who x.frm + 1 : Nat) : Int))), (10, .b false)]), (18, [(8, .con (.tu [.v (.string .empty), .v (.bool false)]))])] 2000 r (by kernel_rfl) (an h0 (an u0 (an h2 (an h3 (an u1 (an u2 (an u3 (an h11 (an ((by have k := refSent l (rof l x.who l.length).view.id x.frm x.n (by omega); rw [hsn] at k; exact k) : Con Tryz.prog 24 [.d (.ro 13 (evs l)), .ag [.u ((rof l x.who l.length).view.id.round), .z ((rof l x.who l.length).view.id.server.node), .u ((rof l x.who l.length).view.id.server.inc)], .ag [.z x.frm.node, .u x.frm.inc], .u x.n] (.tu [.v (.string .empty), .v (.bool false)])) trivial)))))))))
       | true =>
        obtain ⟨sb, hsb⟩ := Option.isSome_iff_exists.1 (show (sentR l l.length (rof l x.who l.length).view.id x.frm x.n).isSome = true by assumption)
        have u4 := ((by have k := refSent l (rof l x.who l.length).view.id x.frm x.n (by omega); rw [hsb] at k; exact k) : Con Tryz.prog 24 [.d (.ro 13 (evs l)), .ag [.u ((rof l x.who l.length).view.id.round), .z ((rof l x.who l.length).view.id.server.node), .u ((rof l x.who l.length).view.id.server.inc)], .ag [.z x.frm.node, .u x.frm.inc], .u x.n] (.tu [.v (.string ⟨(sb).toArray⟩), .v (.bool true)]))
        cases h13 : (sb == x.body) with
        | false =>
         have qh13 : sb ≠ x.body := by simpa using h13
         rw [show (.v (.int .i64 (refErr l x)) : DV) = .z 233 from (by rw [ref2 (by omega) (by assumption) (by omega)]; rw [if_neg (fun h => h (of_decide_eq_true (show decide (x.frm ∈ ((rof l x.who l.length).view.members)) = true by assumption))), if_neg (show ¬ (x.n ≠ handC l (rof l x.who l.length).frm l.length x.who x.frm + 1) by omega), hsb, if_neg (show ¬ (some sb = some x.body) from fun h => qh13 (Option.some.inj h))])]
         exact toRet tk mo hK rfl [(1, [(2, .b false)]), (3, [(3, .con (.ag ((rof l x.who l.length).cel true)))]), (8, [(0, .b false)]), (13, [(0, .b true)]), (14, [(5, .con (.v (.bool true)))]), (16, [(8, .con (.u (handC l (rof l x.who l.length).frm l.length x.who x.frm))), (9, .z (((handC l (rof l x.who l.length).frm l.length x.who x.frm + 1 : Nat) : Int))), (10, .b false)]), (18, [(8, .con (.tu [.v (.string ⟨(sb).toArray⟩), .v (.bool true)]))]), (19, [(6, .res (.v (.string ⟨(x.body).toArray⟩))), (7, .b true)])] 2000 r (by kernel_rfl) (an h0 (an u0 (an h2 (an h3 (an u1 (an u2 (an u3 (an h11 (an u4 (an (rfl : bytesR x.body = bytesR (x.body)) (an ((by simpa [bne] using h13) : (sb != x.body) = true) trivial)))))))))))
        | true =>
         have qh13 : sb = x.body := by simpa using h13
         rw [show (.v (.int .i64 (refErr l x)) : DV) = .z 0 from (by rw [ref2 (by omega) (by assumption) (by omega)]; rw [if_neg (fun h => h (of_decide_eq_true (show decide (x.frm ∈ ((rof l x.who l.length).view.members)) = true by assumption))), if_neg (show ¬ (x.n ≠ handC l (rof l x.who l.length).frm l.length x.who x.frm + 1) by omega), hsb, if_pos (by rw [eq_of_beq (show (sb == x.body) = true by assumption)])])]
         exact toRet tk mo hK rfl [(1, [(2, .b false)]), (3, [(3, .con (.ag ((rof l x.who l.length).cel true)))]), (8, [(0, .b false)]), (13, [(0, .b true)]), (14, [(5, .con (.v (.bool true)))]), (16, [(8, .con (.u (handC l (rof l x.who l.length).frm l.length x.who x.frm))), (9, .z (((handC l (rof l x.who l.length).frm l.length x.who x.frm + 1 : Nat) : Int))), (10, .b false)]), (18, [(8, .con (.tu [.v (.string ⟨(sb).toArray⟩), .v (.bool true)]))]), (19, [(6, .res (.v (.string ⟨(x.body).toArray⟩))), (7, .b false)])] 2000 r (by kernel_rfl) (an h0 (an u0 (an h2 (an h3 (an u1 (an u2 (an u3 (an h11 (an u4 (an (rfl : bytesR x.body = bytesR (x.body)) (an ((by simpa [bne] using h13) : (sb != x.body) = false) trivial)))))))))))
      | true =>
       have qh11 : ¬ _ = _ := bne_iff_ne.1 h11
       rw [show (.v (.int .i64 (refErr l x)) : DV) = .z 232 from (by rw [ref2 (by omega) (by assumption) (by omega)]; rw [if_neg (fun h => h (of_decide_eq_true (show decide (x.frm ∈ ((rof l x.who l.length).view.members)) = true by assumption))), if_pos (show x.n ≠ handC l (rof l x.who l.length).frm l.length x.who x.frm + 1 by omega)])]
       exact toRet tk mo hK rfl [(1, [(2, .b false)]), (3, [(3, .con (.ag ((rof l x.who l.length).cel true)))]), (8, [(0, .b false)]), (13, [(0, .b true)]), (14, [(5, .con (.v (.bool true)))]), (16, [(8, .con (.u (handC l (rof l x.who l.length).frm l.length x.who x.frm))), (9, .z (((handC l (rof l x.who l.length).frm l.length x.who x.frm + 1 : Nat) : Int))), (10, .b true)])] 2000 r (by kernel_rfl) (an h0 (an u0 (an h2 (an h3 (an u1 (an u2 (an u3 (an h11 trivial))))))))
   | true =>
    have qh2 := eq_of_beq h2
    cases h14 : (((rof l x.who l.length).stop : Int) == 2) with
    | false =>
     have qh14 := ne_of_beq_false h14
     have u5 := ((by first | exact wi (by omega) | exact wu (by omega)) : IntKind.u64.wrap ((((rof l x.who l.length).sent : Nat) : Int) + 1) = (((rof l x.who l.length).sent + 1 : Nat) : Int))
     cases h15 : (((x.n : Nat) : Int) != (((rof l x.who l.length).sent + 1 : Nat) : Int)) with
     | false =>
      have qh15 := eq_of_bne h15
      rw [show (.v (.int .i64 (refErr l x)) : DV) = .z 0 from (by rw [ref1 (by omega) (by assumption) (by omega)]; rw [if_neg (by omega), if_neg (by omega)])]
      exact toRet tk mo hK rfl [(1, [(2, .b false)]), (3, [(3, .con (.ag ((rof l x.who l.length).cel true)))]), (8, [(0, .b true)]), (9, [(2, .b false)]), (11, [(4, .z ((((rof l x.who l.length).sent + 1 : Nat) : Int))), (5, .b false)])] 2000 r (by kernel_rfl) (an h0 (an u0 (an h2 (an h14 (an u5 (an h15 trivial))))))
     | true =>
      have qh15 : ¬ _ = _ := bne_iff_ne.1 h15
      rw [show (.v (.int .i64 (refErr l x)) : DV) = .z 232 from (by rw [ref1 (by omega) (by assumption) (by omega)]; rw [if_neg (by omega), if_pos (by omega)])]
      exact toRet tk mo hK rfl [(1, [(2, .b false)]), (3, [(3, .con (.ag ((rof l x.who l.length).cel true)))]), (8, [(0, .b true)]), (9, [(2, .b false)]), (11, [(4, .z ((((rof l x.who l.length).sent + 1 : Nat) : Int))), (5, .b true)])] 2000 r (by kernel_rfl) (an h0 (an u0 (an h2 (an h14 (an u5 (an h15 trivial))))))
    | true =>
     have qh14 := eq_of_beq h14
     rw [show (.v (.int .i64 (refErr l x)) : DV) = .z 231 from (by rw [ref1 (by omega) (by assumption) (by omega)]; rw [if_pos (by omega)])]
     exact toRet tk mo hK rfl [(1, [(2, .b false)]), (3, [(3, .con (.ag ((rof l x.who l.length).cel true)))]), (8, [(0, .b true)]), (9, [(2, .b true)])] 2000 r (by kernel_rfl) (an h0 (an u0 (an h2 (an h14 trivial))))
 | true =>
  have qh0 := eq_of_beq h0
  rw [show (.v (.int .i64 (refErr l x)) : DV) = .z (begErr l x.who) from (by rw [ref6 (by omega)])]
  exact toRet tk mo hK rfl [(1, [(2, .b true)]), (2, [(3, .con (.z (begErr l x.who)))])] 2000 r (by kernel_rfl) (an h0 (an (refBegin l x.who (by omega)) trivial))
theorem refEventT (l : List Ev) (i : Nat) (e : Ev) (hb : l.length ≤ 250) (ho : ∀ e ∈ l, e.Ok) (h : l[i]? = some e) (h0 : ∀ j, j < i → errAt l j = 0) : Con Tryz.prog 12 [.d (.ro 13 (List.take (i) (evs l))), .ag [.z e.kind, .z e.who.node, .u e.who.inc, .z e.frm.node, .u e.frm.inc, .u e.n, .d (.ro 1 (bytesR e.body)), .u e.view.id.round, .z e.view.id.server.node, .u e.view.id.server.inc, .d (.ro 2 (procs e.view.members)), .d (.ro 1 (nums e.view.starts)), .d (.ro 2 (procs e.transit))]] (.v (.int .i64 (errAt l i))) := by
 have k := refEvent (l.take i) e (by rw [List.length_take]; omega) (fun e he => ho e (List.mem_of_mem_take he)) (ho _ (List.mem_of_getElem? h))
 rw [errAt_some h, ← errR_eq ho hb h h0, evs_take]; exact k
set_option maxRecDepth 100000 in
theorem refJudge (l : List Ev) (hb : l.length ≤ 250) (ho : ∀ e ∈ l, e.Ok) : Con Tryz.prog 9 [.d (.ro 13 (evs l))] (.tu [.v (.int .i64 (((judge l).1 : Nat) : Int)), .v (.int .i64 (judge l).2)]) := by
 refine Con.intro (by kernel_rfl) rfl rfl 26 rfl rfl fun w0 K ac hK r => ?_
 refine toHead (todo' := hd Tryz.f9 0) (E' := [(0, .d (.ro 13 (evs l))), (4, .n 0)]) (M' := []) tk mo hK [] 2000 [] [0, 4] r (by kernel_rfl) trivial fun ac wd r => ?_
 refine Goes.rounds (Φ := fun (i : Nat) ac wd => (i ≤ l.length ∧ ∀ j, j < i → errAt l j = 0) ∧ RE' [] w0 K 26 [(0, .d (.ro 13 (evs l))), (4, .n i)] [] ac wd) (l.length) ?_ (Nat.zero_le _) ⟨⟨Nat.zero_le _, fun j hj => absurd hj (Nat.not_lt_zero _)⟩, r⟩
 clear r
 rintro i hi0 again0 ac wd ⟨hv0, r⟩
 obtain ⟨hi1, hv0⟩ := hv0
 have u0 := ((by first | rfl | simp [bytesR]) : (((evs l).length : Nat) : Int) = ((l.length : Nat) : Int))
 cases h0 : (decide (((i : Nat) : Int) < ((l.length : Nat) : Int))) with
 | false =>
  have qh0 := of_decide_eq_false h0
  rw [show (.tu [.v (.int .i64 (((judge l).1 : Nat) : Int)), .v (.int .i64 (judge l).2)] : DV) = .tu [.n l.length, .z 0] from (by rw [judge_all fun j hj => hv0 j (by omega)])]
  exact toRet tk mo hK rfl [(2, [(2, .z (((l.length : Nat) : Int))), (3, .b false)]), (7, [(1, .z (((l.length : Nat) : Int)))])] 2000 r (by kernel_rfl) (an u0 (an h0 (an u0 trivial)))
 | true =>
  have qh0 := of_decide_eq_true h0
  obtain ⟨e_l_i, ge_l_i⟩ : ∃ x, l[i]? = some x := ⟨_, List.getElem?_eq_getElem (by omega)⟩
  cases h1 : ((errAt l i : Int) != 0) with
  | false =>
   have qh1 := eq_of_bne h1
   exact toHead (todo' := hd Tryz.f9 0) tk mo hK [(2, [(2, .z (((l.length : Nat) : Int))), (3, .b true)]), (3, [(1, .z (((i + 1 : Nat) : Int)))]), (4, [(2, .n2 (i) (0)), (5, .ix (i) e_l_i.row), (7, .con (.z (errAt l i)))]), (5, [(1, .b false)])] 2000 [] [0, 4] r (by kernel_rfl) (an u0 (an h0 (an (rfI ((i : Nat) : Int)) (an ((by simp; omega) : (i) ≤ (evs l : List (List DV)).length) (an (rfI ((i : Nat) : Int)) (an (evs_at ge_l_i) (an (refEventT l i e_l_i hb ho ge_l_i hv0) (an h1 (an (wiS i (by omega)) trivial))))))))) fun ac wd r => again0 (by omega) ac wd ⟨⟨by omega, fun j hj => by rcases Nat.lt_succ_iff_lt_or_eq.1 hj with h | rfl; exact hv0 j h; omega⟩, r⟩
  | true =>
   have qh1 : ¬ _ = _ := bne_iff_ne.1 h1
   rw [show (.tu [.v (.int .i64 (((judge l).1 : Nat) : Int)), .v (.int .i64 (judge l).2)] : DV) = .tu [.n i, .z (errAt l i)] from (by rw [judge_at ge_l_i hv0 (by rw [← errAt_some ge_l_i]; omega), errAt_some ge_l_i])]
   exact toRet tk mo hK rfl [(2, [(2, .z (((l.length : Nat) : Int))), (3, .b true)]), (4, [(2, .n2 (i) (0)), (5, .ix (i) e_l_i.row), (7, .con (.z (errAt l i)))]), (5, [(1, .b true)])] 2000 r (by kernel_rfl) (an u0 (an h0 (an (rfI ((i : Nat) : Int)) (an ((by simp; omega) : (i) ≤ (evs l : List (List DV)).length) (an (rfI ((i : Nat) : Int)) (an (evs_at ge_l_i) (an (refEventT l i e_l_i hb ho ge_l_i hv0) (an h1 trivial))))))))
theorem one_evsJ (l : List Ev) : OneR (evs l) := by
 simp only [OneR, evs, List.all_eq_true, List.mem_map]
 rintro r ⟨p, -, rfl⟩ c hc
 simp only [Ev.row, List.mem_cons, List.not_mem_nil, or_false] at hc
 rcases hc with rfl | rfl | rfl | rfl | rfl | rfl | rfl | rfl | rfl | rfl | rfl | rfl | rfl <;> rfl
set_option maxRecDepth 100000 in
theorem judgesLaw (l : List Ev) (hl : l.length ≤ 9223372036854775807) (hr : ∀ e ∈ l, e.Rd) : Con Tryz.prog 3 [.d (.ro 13 (evs l))] (.v (.bool true)) := by
 refine Con.intro (by kernel_rfl) rfl rfl 33 rfl rfl fun w0 K ac hK r => ?_
 cases h0 : (heavyL l) with
 | false =>
  obtain ⟨hl2, hok⟩ := heavy_ok hr (by assumption)
  exact toRet tk mo hK rfl [(1, [(1, .con (.v (.bool false)))]), (3, [(3, .call [.d (.ro 13 (evs l))] (.tu [.n ((judge l).1), .z ((judge l).2)]))]), (4, [(1, .con (.tu [.n ((judge l).1), .z ((judge l).2)]))]), (5, [(2, .b true), (6, .b true), (9, .con (.v (.bool true)))])] 2000 r (by kernel_rfl) (an ((by have k := heavyOk l hl hr; rw [h0] at k; exact k) : Con Tryz.prog 6 [.d (.ro 13 (evs l))] (.v (.bool false))) (an ((by first | rfl | (simp; done) | (simp <;> omega)) : (0) = ([] : List (List DV)).length) (an ((by first | omega | (simp; done) | (simp <;> omega)) : (2 * ((0) + (evs l : List (List DV)).length) + 192) * 168 ≤ 281474976710656) (an ((by first | omega | (simp; done) | (simp <;> omega)) : (0) + (evs l : List (List DV)).length < 4611686018427387904) (an ((by first | exact one_evsJ _ | (simp [OneR, AV.one, oneC, bytesR]; done)) : OneR (evs l)) (an (judgeOk l hok (by omega)) (an ((ind_two _ _) : Ind (.tu [.n ((judge l).1), .z ((judge l).2)])) (an (rfN (13)) (an ((by first | rfl | (simp; done) | (simp <;> omega)) : (0 + (evs l : List (List DV)).length) = ([] ++ (evs l) : List (List DV)).length) (an ((by simpa using froz_evs l) : frozR ([] ++ (evs l)) = evs l) (an (refJudge l hl2 hok) (an ((by simp) : ((((judge l).1 : Nat) : Int) == (((judge l).1 : Nat) : Int)) = true) (an ((by simp) : (((judge l).2 : Int) == (judge l).2) = true) (an (awakeOk) trivial))))))))))))))
 | true =>
  exact toRet tk mo hK rfl [(1, [(1, .con (.v (.bool true)))]), (2, [(0, .con (.v (.bool true)))])] 2000 r (by kernel_rfl) (an ((by have k := heavyOk l hl hr; rw [h0] at k; exact k) : Con Tryz.prog 6 [.d (.ro 13 (evs l))] (.v (.bool true))) (an (awakeOk) trivial))
end Go.Proofs.YtilhbhpldkjkaaaGreat
namespace Go.Proofs.YtilhbhpldkjkaaaGreat
open Go.ChangeShapes Go.WideShapes Go.ChangeAt Go.RowKit
set_option maxRecDepth 100000 in
theorem specJudges_lifted (os : Os) (started : os.Started) (H : Type) (enc : TypeId × Value → H) :
  ReturnsInHanded {} Tryz.checked os 3 .any (Rows.specJudgesSpec.pre6 enc Tryz.prog Tryz.f3 Rows.specJudgesRow.domain false) (Rows.specJudgesSpec.post enc Tryz.prog Tryz.f3 false true false false) := by
 refine returnsInHanded_of_change (C := Tryz.checked) Tryz.own started (by kernel_rfl) Tryz.func3
  (ChangeSpec.witness6 (enc := enc) (C := Tryz.checked) false ⟨#[], #[.slice none 0 0], []⟩ 8 (by kernel_rfl) (by kernel_rfl) (by kernel_rfl) (by kernel_rfl)) ?_
 intro W base args ds gs before hval0 hW hcnd _
 have hW0 : DataW.Whole enc Tryz.prog Tryz.f3.params.toList Rows.specJudgesSpec.vars false W args.toList ds gs before := hW
 have hW' := hW0
 obtain ⟨p, q, hA0, hV, rfl, hfz, hnd⟩ := hW
 have hA : DataW.TrodAll enc Tryz.prog W 0 (fun _ => true) true Tryz.f3.params.toList args.toList ds p := hA0
 have hval : ∀ (j : Nat) t v, Tryz.f3.params[j]? = some t → args[j]? = some v → Value.okWide Tryz.prog W .any base t v := hval0
 rw [Tryz.params3] at hA hval
 obtain ⟨v0, vs0, d0, ds0, p0, q0, hargs0, rfl, rfl, h0, r0⟩ := trodAll_cons hA
 obtain ⟨rfl, rfl, rfl⟩ := trodAll_nil r0
 obtain rfl : args = #[v0] := by cases args; simp_all
 obtain ⟨rfl, rfl⟩ := trodVars_none hV
 obtain ⟨a0, n0, c0, rfl⟩ := okWide_slice (P := Tryz.prog) (e := 46) (by kernel_rfl) (hval 0 22 v0 rfl rfl)
 obtain ⟨l, hl, g0⟩ := rd_evs _ (TR.of h0)
 refine (Con.holds (w := W) (judgesLaw l hl.1 hl.2) (ys := [_]) rfl fun j c y e1 e2 => ?_).mono fun e W' ⟨he, hg⟩ => ?_
 ·match j, e1, e2 with
  | 0, e1, e2 => simp at e1 e2; subst e1 e2; exact DRs.v g0
  | k + 1, e1, _ => simp at e1
 ·subst he
  exact ⟨_, rfl, law_post Tryz.laidOut (by kernel_rfl) (by kernel_rfl) Tryz.underlying4 rfl hW' rfl hg⟩
theorem specJudges_holds : Rows.SpecJudgesSaid :=
 OpenClaim.holds_of_wide 3 Tryz.f3 rfl rfl rfl rfl rfl rfl rfl ⟨rfl, rfl, rfl, rfl, rfl⟩ rfl rfl rfl rfl rfl (by kernel_rfl) Tryz.func3 (by kernel_rfl)
  (of_decide_eq_true (by kernel_rfl)) (by unfold Func.isWrapper; first | (rw [if_pos (by decide +kernel)]; kernel_rfl) | (rw [if_neg (by decide +kernel)]; exact ⟨rfl, rfl⟩))
  (fun os started H enc _ => specJudges_lifted os started H enc)
end Go.Proofs.YtilhbhpldkjkaaaGreat
