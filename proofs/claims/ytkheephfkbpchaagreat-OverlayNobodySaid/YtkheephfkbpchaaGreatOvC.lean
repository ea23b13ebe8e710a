/-
  overlayNobody_holds, part 3 of 3: merged by program from the texts that it needs.
-/
import Derived.Test.YtkheephfkbpchaaGreatOvB
set_option linter.unusedSimpArgs false
set_option linter.unusedVariables false
set_option linter.unnecessarySimpa false
namespace Go.Proofs.YtkheephfkbpchaaGreat
open Go.RowKit
open Go.Maps
variable {mk : Bool} {P : Program} {T : Tab} {cl : Walker} {f : FuncId} {R : Tgt} {D : List Nat} {w0 : World} {K0 : World → Prop} {E : List (Nat × AV)} {M : List Blk} {β : Beta} {F : Nat → Frag} {I : Frag} {w : World} {a : Act} {sz : Nat}
def reachU (M : List Blk) : Nat → List Nat → List Nat → List Nat
 | n + 1, u :: r, seen => bif seen.elem u then reachU M n r seen else (match M[u]? with | some b => reachU M n (idBU b ++ r) (u :: seen) | none => reachU M n r seen)
 | _, _, seen => seen
def lostU (m0 : Nat) (seen : List Nat) : Nat → List Blk → List Nat
 | _, [] => []
 | i, .dead :: r => lostU m0 seen (i + 1) r
 | i, _ :: r => bif i.blt m0 || seen.elem i then lostU m0 seen (i + 1) r else i :: lostU m0 seen (i + 1) r
theorem lostU_lt {m0 : Nat} {seen : List Nat} : ∀ {i : Nat} {M : List Blk} {u : Nat}, u ∈ lostU m0 seen i M → m0 ≤ u ∧ u < i + M.length
 | i, [], u, h => by simp [lostU] at h
 | i, b :: r, u, h => by
  have key : u ∈ lostU m0 seen (i + 1) r → m0 ≤ u ∧ u < i + (b :: r).length := fun h => by
   obtain ⟨h1, h2⟩ := lostU_lt h
   exact ⟨h1, by simp only [List.length_cons]; omega⟩
  have key2 : u ∈ (bif i.blt m0 || seen.elem i then lostU m0 seen (i + 1) r else i :: lostU m0 seen (i + 1) r) → m0 ≤ u ∧ u < i + (b :: r).length := fun h => by
   cases hc : (i.blt m0 || seen.elem i) with
   | true => simp only [hc, cond_true] at h; exact key h
   | false =>
    simp only [hc, cond_false] at h
    rcases List.mem_cons.1 h with rfl | h
    ·simp only [Bool.or_eq_false_iff] at hc
     refine ⟨?_, by simp⟩
     have h1 := hc.1
     rcases Nat.lt_or_ge u m0 with hl | hl
     ·rw [show u.blt m0 = true by simpa [Nat.blt_eq] using hl] at h1; cases h1
     ·exact hl
    ·exact key h
  cases b <;> first | exact key h | exact key2 h
def gcU (m0 : Nat) (o : Out) : List Nat := lostU m0 (reachU o.M 100000 (idsU o.av ++ o.tc) []) 0 o.M
def indD : DV → Bool
 | .v _ => true
 | .jk => true
 | .ro _ [] => false
 | _ => false
mutual
def indAB : AV → Bool
 | .d x => indD x
 | .sl _ _ => true
 | .sf _ _ _ _ _ => true
 | .pt _ _ => true
 | .mv _ => true
 | .yl _ => true
 | .fn _ l => indLB l
 | .fm _ l => indLB l
 | .ag l => indLB l
 | .tu l => indLB l
 | _ => false
def indLB : List AV → Bool
 | [] => true
 | x :: r => indAB x && indLB r
end
def indBB : Blk → Bool
 | .dead => true
 | .bx _ l => indLB l
 | .fl _ _ _ l => indLB l
 | .mf _ _ es => indLB (es.map fun e => e.2.2)
 | .it _ _ _ _ => true
 | .il _ _ _ _ => true
 | .lp _ _ _ E _ => indLB (E.map fun x => x.2)
 | _ => false
theorem indD_ok {x : DV} (h : indD x = true) : Ind x := by
 cases x with
 | v y => exact fun K K' y H r => by cases r with | v => exact .v _
 | jk => exact fun K K' y H r => by cases r with | jk => exact .jk _
 | ro k l => cases l <;> simp [indD] at h
 | _ => simp [indD] at h
theorem indLB_all : ∀ {l : List AV}, indLB l = true → ∀ x ∈ l, indAB x = true
 | [], _, x, hx => by cases hx
 | y :: r, h, x, hx => by
  simp only [indLB, Bool.and_eq_true] at h
  rcases List.mem_cons.1 hx with e | hx
  ·rw [e]; exact h.1
  ·exact indLB_all h.2 x hx
theorem indAB_ok : ∀ {x : AV}, indAB x = true → IndA x
 | .d x, h => IndA.d (indD_ok (by simpa only [indAB] using h))
 | .sl u n, _ => IndA.sl u n
 | .sf u k o n q, _ => fun K K' β y r => by cases r with | sf hb h1 h2 h3 => exact .sf hb h1 h2 h3
 | .pt u o, _ => IndA.pt u o
 | .mv u, _ => IndA.mv u
 | .yl u, _ => fun K K' β y r => by cases r with | yl h => exact .yl h
 | .fn f l, h => by
  have ih : ∀ x ∈ l, IndA x := fun x hx => indAB_ok (indLB_all (by simpa only [indAB] using h) x hx)
  exact fun K K' β y r => by cases r with | fn ys hl hr => exact .fn ys hl fun j c y h1 h2 => ih c (List.mem_of_getElem? h1) _ _ _ _ (hr j c y h1 h2)
 | .fm f l, h => by
  have ih : ∀ x ∈ l, IndA x := fun x hx => indAB_ok (indLB_all (by simpa only [indAB] using h) x hx)
  exact fun K K' β y r => by cases r with | fm ys hl hr => exact .fm ys hl fun j c y h1 h2 => ih c (List.mem_of_getElem? h1) _ _ _ _ (hr j c y h1 h2)
 | .ag l, h => by
  have ih : ∀ x ∈ l, IndA x := fun x hx => indAB_ok (indLB_all (by simpa only [indAB] using h) x hx)
  exact fun K K' β y r => by cases r with | ag ys hl hr => exact .ag ys hl fun j c y h1 h2 => ih c (List.mem_of_getElem? h1) _ _ _ _ (hr j c y h1 h2)
 | .tu l, h => by
  have ih : ∀ x ∈ l, IndA x := fun x hx => indAB_ok (indLB_all (by simpa only [indAB] using h) x hx)
  exact fun K K' β y r => by cases r with | tu ys hl hr => exact .tu ys hl fun j c y h1 h2 => ih c (List.mem_of_getElem? h1) _ _ _ _ (hr j c y h1 h2)
 | .sb _ _ _ _, h => by simp [indAB] at h
 | .ep _ _ _ _, h => by simp [indAB] at h
 | .rp _ _, h => by simp [indAB] at h
theorem indLB_ok {l : List AV} (h : indLB l = true) : ∀ x ∈ l, IndA x := fun x hx => indAB_ok (indLB_all h x hx)
theorem indBB_ok {b : Blk} (h : indBB b = true) : IndB b := by
 cases b with
 | dead => exact IndB.dead
 | bx T l => exact IndB.bx (indLB_ok h)
 | fl T k m l => exact fun K K' β u H r => by cases r with | fl hb ys hl hm hc hr => exact .fl hb ys hl hm hc fun j c y h1 h2 => indLB_ok h c (List.mem_of_getElem? h1) _ _ _ _ (hr j c y h1 h2)
 | mf T c es => exact fun K K' β u H r => by cases r with | mf hb vs hl hr => exact .mf hb vs hl fun j e y h1 h2 => indLB_ok h e.2.2 (List.mem_map_of_mem (f := fun e : Nat × MK × AV => e.2.2) (List.mem_of_getElem? h1)) _ _ _ _ (hr j e y h1 h2)
 | it um s l c => exact fun K K' β u H r => by cases r with | it hb hm => exact .it hb hm
 | il um s l c => exact fun K K' β u H r => by cases r with | il hb hm => exact .il hb hm
 | lp s f sz E rf => exact fun K K' β u H r => by cases r with | lp hb hsz hr => exact .lp hb hsz fun x hx => indLB_ok h x.2 (List.mem_map_of_mem (f := fun x : Nat × AV => x.2) hx) _ _ _ _ (hr x hx)
 | _ => simp [indBB] at h
def endT : List Item → Bool
 | [] => true
 | .code .ret :: _ => true
 | _ => false
def indE (E : List (Nat × AV)) : List (Nat × AV) := (dedE [] E).filter fun x => indAB x.2
theorem indE_ok {E : List (Nat × AV)} {t : Nat} {v : AV} (h : lookA (indE E) t = some v) : lookA E t = some v ∧ IndA v := by
 have hm := lookA_mem h
 obtain ⟨h1, h2⟩ := List.mem_filter.1 hm
 exact ⟨(dedE_look (dedE_self h1).1).1, indAB_ok h2⟩
def endE (mk : Bool) (E : List (Nat × AV)) : List (Nat × AV) := bif mk then indE E else E
def mixU (tc : List Nat) : Nat → List Blk → List Blk → List Blk
 | i, b0 :: r0, b :: r => (bif tc.elem i then b else b0) :: mixU tc (i + 1) r0 r
 | _, _, r => r
theorem mixU_len (tc : List Nat) : ∀ (i : Nat) (M0 M : List Blk), (mixU tc i M0 M).length = M.length
 | _, [], M => by simp [mixU]
 | _, b0 :: r0, [] => by simp [mixU]
 | i, b0 :: r0, b :: r => by simp [mixU, mixU_len tc (i + 1) r0 r]
theorem mixU_at (tc : List Nat) : ∀ (i : Nat) (M0 M : List Blk) (u : Nat) (b : Blk), (mixU tc i M0 M)[u]? = some b → (u < M0.length ∧ (i + u) ∉ tc ∧ M0[u]? = some b) ∨ (M[u]? = some b ∧ (u < M0.length → (i + u) ∈ tc))
 | _, [], M, u, b, h => by simp [mixU] at h; exact Or.inr ⟨h, by simp⟩
 | _, b0 :: r0, [], u, b, h => by simp [mixU] at h
 | i, b0 :: r0, c :: r, u, b, h => by
  unfold mixU at h
  cases u with
  | zero =>
   simp only [List.getElem?_cons_zero, Option.some.injEq] at h
   cases ht : tc.elem i with
   | true => rw [ht, cond_true] at h; subst h; exact Or.inr ⟨rfl, fun _ => by simpa using ht⟩
   | false => rw [ht, cond_false] at h; subst h; exact Or.inl ⟨by simp, by simpa using ht, rfl⟩
  | succ u =>
   simp only [List.getElem?_cons_succ] at h ⊢
   rcases mixU_at tc (i + 1) r0 r u b h with ⟨h1, h2, h3⟩ | ⟨h1, h2⟩
   ·exact Or.inl ⟨by simp; omega, by rwa [show i + (u + 1) = i + 1 + u by omega], h3⟩
   ·exact Or.inr ⟨h1, fun hu => by rw [show i + (u + 1) = i + 1 + u by omega]; exact h2 (by simp at hu; omega)⟩
def endM (mk : Bool) (M0 : List Blk) (s : US) : List Blk := bif mk then mixU s.tc 0 M0 s.M else s.M
def indM (tc : List Nat) (m0 : Nat) : Nat → List Blk → Bool
 | _, [] => true
 | i, b :: r => (i.blt m0 && !(tc.elem i) || indBB b) && indM tc m0 (i + 1) r
theorem indM_ok {tc : List Nat} {m0 : Nat} : ∀ {i : Nat} {M : List Blk}, indM tc m0 i M = true → ∀ (u : Nat) b, M[u]? = some b → (m0 ≤ i + u ∨ (i + u) ∈ tc) → IndB b
 | _, [], _, u, b, h, _ => by simp at h
 | i, c :: r, hi, u, b, h, hu => by
  simp only [indM, Bool.and_eq_true] at hi
  cases u with
  | zero =>
   simp at h; subst h
   have h1 := hi.1
   rw [Bool.or_eq_true] at h1
   rcases h1 with h1 | h1
   ·rw [Bool.and_eq_true, Nat.blt_eq] at h1
    rcases hu with hu | hu
    ·omega
    ·have h2 := h1.2
     rw [Nat.add_zero] at hu
     simp [hu] at h2
   ·exact indBB_ok h1
  | succ u =>
   simp at h
   exact indM_ok hi.2 u b h (by rw [show i + 1 + u = i + (u + 1) by omega]; exact hu)
def outsU (T : Tab) (mk : Bool) (M0 : List Blk) (rs : List ResultVar) : List (List Item × US) → Option (List Out)
 | [] => some []
 | (todo, s) :: r => bif endT todo && (!mk || indM s.tc M0.length 0 (endM mk M0 s)) then (match endA T rs ⟨[], endE mk s.E, endM mk M0 s, s.tc, []⟩, outsU T mk M0 rs r with | some o, some l => some (o :: l) | _, _ => none) else none
theorem outsU_ok {T : Tab} {mk : Bool} {M0 : List Blk} {rs : List ResultVar} : ∀ {l : List (List Item × US)} {os : List Out}, outsU T mk M0 rs l = some os → ∀ x ∈ l, endT x.1 = true ∧ (mk = true → indM x.2.tc M0.length 0 (endM mk M0 x.2) = true) ∧ ∃ o, endA T rs ⟨[], endE mk x.2.E, endM mk M0 x.2, x.2.tc, []⟩ = some o ∧ o ∈ os
 | [], _, _, x, hx => by cases hx
 | (todo, s) :: r, os, h, x, hx => by
  unfold outsU at h
  cases ht : (endT todo && (!mk || indM s.tc M0.length 0 (endM mk M0 s))) with
  | false => simp only [ht, cond_false, reduceCtorEq] at h
  | true =>
   simp only [ht, cond_true] at h
   obtain ⟨ht1, ht2⟩ := Bool.and_eq_true_iff.1 ht
   split at h
   ·rename_i o l h1 h2
    simp only [Option.some.injEq] at h; subst h
    rcases List.mem_cons.1 hx with rfl | hx
    ·refine ⟨ht1, fun hmk => ?_, o, h1, List.mem_cons_self⟩
     have ht3 := ht2
     rw [Bool.or_eq_true] at ht3
     rcases ht3 with h | h
     ·rw [hmk] at h; cases h
     ·exact h
    ·obtain ⟨h3, h3', o', h4, h5⟩ := outsU_ok h2 x hx
     exact ⟨h3, h3', o', h4, List.mem_cons_of_mem _ h5⟩
   ·simp at h
theorem outsU_form {T : Tab} {mk : Bool} {M0 : List Blk} {rs : List ResultVar} : ∀ {l : List (List Item × US)} {os : List Out}, outsU T mk M0 rs l = some os → ∀ o ∈ os, o.vc = [] ∧ o.mv = [] ∧ o.rd = none
 | [], os, h, o, ho => by simp only [outsU, Option.some.injEq] at h; subst h; cases ho
 | (todo, s) :: r, os, h, o, ho => by
  unfold outsU at h
  cases ht : (endT todo && (!mk || indM s.tc M0.length 0 (endM mk M0 s))) with
  | false => simp only [ht, cond_false, reduceCtorEq] at h
  | true =>
   simp only [ht, cond_true] at h
   split at h
   ·rename_i o' l h1 h2
    simp only [Option.some.injEq] at h; subst h
    rcases List.mem_cons.1 ho with rfl | ho
    ·unfold endA at h1
     split at h1
     ·simp only [Option.some.injEq] at h1; subst h1; exact ⟨rfl, rfl, rfl⟩
     ·simp at h1
    ·exact outsU_form h2 o ho
   ·simp at h
def mergeU (m0 : Nat) : List Out → Option Out
 | [o] => some o
 | o :: r => bif r.all (fun o' => avQ o'.av o.av && blksQ (dieL o'.M (gcU m0 o')) (dieL o.M (gcU m0 o))) then some ⟨[], o.av, dieL o.M (gcU m0 o), (o :: r).flatMap (fun o => o.tc), [], none⟩ else none
 | [] => none
def Ends1 (m0 : Nat) (o out : Out) : Prop := out.av = o.av ∧ (∀ u ∈ o.tc, u ∈ out.tc) ∧ ∃ b, (∀ u ∈ b, m0 ≤ u ∧ u < o.M.length) ∧ out.M = dieL o.M b
theorem mergeU_ok {m0 : Nat} {os : List Out} {out : Out} (h0 : ∀ o ∈ os, o.vc = [] ∧ o.mv = [] ∧ o.rd = none) (h : mergeU m0 os = some out) : out.vc = [] ∧ out.mv = [] ∧ out.rd = none ∧ ∀ o ∈ os, Ends1 m0 o out := by
 unfold mergeU at h
 split at h
 ·simp only [Option.some.injEq] at h; subst h
  obtain ⟨h1, h2, h3⟩ := h0 _ List.mem_cons_self
  refine ⟨h1, h2, h3, fun o ho => ?_⟩
  rw [List.mem_singleton] at ho; subst ho
  exact ⟨rfl, fun u hu => hu, [], by simp, rfl⟩
 ·rename_i o r hne
  cases hc : r.all (fun o' => avQ o'.av o.av && blksQ (dieL o'.M (gcU m0 o')) (dieL o.M (gcU m0 o))) with
  | false => simp [hc] at h
  | true =>
   simp only [hc, cond_true, Option.some.injEq] at h; subst h
   refine ⟨rfl, rfl, rfl, fun o' ho' => ⟨?_, fun u hu => List.mem_flatMap.2 ⟨o', ho', hu⟩, gcU m0 o', fun u hu => by have := lostU_lt hu; omega, ?_⟩⟩
   ·rcases List.mem_cons.1 ho' with rfl | ho'
    ·rfl
    ·have := List.all_eq_true.1 hc o' ho'
     simp only [Bool.and_eq_true] at this
     exact (avQ_eq this.1).symm
   ·rcases List.mem_cons.1 ho' with rfl | ho'
    ·rfl
    ·have := List.all_eq_true.1 hc o' ho'
     simp only [Bool.and_eq_true] at this
     exact (blksQ_eq this.2).symm
 ·simp at h
def hasRF : Code → Bool
 | .seq x y => hasRF x || hasRF y
 | .cond _ x y => hasRF x || hasRF y
 | .block _ c => hasRF c
 | .loop c => hasRF c
 | .rangeFunc _ _ _ _ => true
 | _ => false
end Go.Proofs.YtkheephfkbpchaaGreat
namespace Go.Proofs.YtkheephfkbpchaaGreat
open Go.RowKit
open Go.Maps
variable {mk : Bool} {P : Program} {T : Tab} {cl : Walker} {f : FuncId} {R : Tgt} {D : List Nat} {w0 : World} {K0 : World → Prop} {E : List (Nat × AV)} {M : List Blk} {β : Beta} {F : Nat → Frag} {I : Frag} {w : World} {a : Act} {sz : Nat}
theorem idLU_mem {c : AV} {u : Nat} : ∀ {l : List AV}, c ∈ l → u ∈ idsU c → u ∈ idLU l
 | x :: r, h, hu => by
  unfold idLU
  rcases List.mem_cons.1 h with rfl | h
  ·exact List.mem_append_left _ hu
  ·exact List.mem_append_right _ (idLU_mem h hu)
theorem mapA_in {K : World → Prop} {β β' : Beta} {σ : Nat → Nat} {v : AV} {y : Value} (r : ARel K β v y) : (∀ u ∈ idsU v, ∀ x, β[u]? = some x → β'[σ u]? = some x) → ARel K β' (mapA σ v) y := by
 have key : ∀ {l : List AV} {ys : List Value}, (∀ u ∈ idLU l, ∀ x, β[u]? = some x → β'[σ u]? = some x) → (∀ (j : Nat) c y, l[j]? = some c → ys[j]? = some y → (∀ u ∈ idsU c, ∀ x, β[u]? = some x → β'[σ u]? = some x) → ARel K β' (mapA σ c) y) → ∀ (j : Nat) c y, (mapL σ l)[j]? = some c → ys[j]? = some y → ARel K β' c y := by
  intro l ys h hh j c y h1 h2
  rw [mapL_map, List.getElem?_map, Option.map_eq_some_iff] at h1
  obtain ⟨c', h1, rfl⟩ := h1
  exact hh j c' y h1 h2 fun u hu => h u (idLU_mem (List.mem_of_getElem? h1) hu)
 induction r with
 | d h => exact fun _ => .d h
 | sl hb => exact fun h => .sl (h _ (by simp [idsU]) _ hb)
 | pt hb => exact fun h => .pt (h _ (by simp [idsU]) _ hb)
 | mv hb => exact fun h => .mv (h _ (by simp [idsU]) _ hb)
 | yl hb => exact fun h => .yl (h _ (by simp [idsU]) _ hb)
 | sb hb => exact fun h => .sb (h _ (by simp [idsU]) _ hb)
 | sf hb h1 h2 h3 => exact fun h => .sf (h _ (by simp [idsU]) _ hb) h1 h2 h3
 | ep hb => exact fun h => .ep (h _ (by simp [idsU]) _ hb)
 | rp a X hl hc hr => exact fun _ => .rp a X hl hc hr
 | fn ys hl hr ih => exact fun h => .fn ys (by rw [mapL_map, List.length_map]; exact hl) (key (by simpa [idsU] using h) ih)
 | fm ys hl hr ih => exact fun h => .fm ys (by rw [mapL_map, List.length_map]; exact hl) (key (by simpa [idsU] using h) ih)
 | ag ys hl hr ih => exact fun h => .ag ys (by rw [mapL_map, List.length_map]; exact hl) (key (by simpa [idsU] using h) ih)
 | tu ys hl hr ih => exact fun h => .tu ys (by rw [mapL_map, List.length_map]; exact hl) (key (by simpa [idsU] using h) ih)
theorem mapB_in {K : World → Prop} {β β' : Beta} {σ : Nat → Nat} {u : Nat} {b : Blk} {H : Frag} (r : BRel K β u b H) (h0 : ∀ x, β[u]? = some x → β'[σ u]? = some x) (h : ∀ v ∈ idBU b, ∀ x, β[v]? = some x → β'[σ v]? = some x) : BRel K β' (σ u) (mapB σ b) H := by
 have hm : ∀ {l : List AV} {c : AV}, (∀ v ∈ idLU l, ∀ x, β[v]? = some x → β'[σ v]? = some x) → c ∈ l → ∀ v ∈ idsU c, ∀ x, β[v]? = some x → β'[σ v]? = some x := fun hl hc v hv => hl v (idLU_mem hc hv)
 cases r with
 | dead => exact .dead _
 | bx hb ys hl hr =>
  refine .bx (h0 _ hb) ys (by rw [mapL_map, List.length_map]; exact hl) fun j c y h1 h2 => ?_
  rw [mapL_map, List.getElem?_map, Option.map_eq_some_iff] at h1
  obtain ⟨c', h1, rfl⟩ := h1
  exact mapA_in (hr j c' y h1 h2) (hm h (List.mem_of_getElem? h1))
 | rw hb X G hl hs hr => exact .rw (h0 _ hb) X G hl hs hr
 | tw hb X G hl hs hr => exact .tw (h0 _ hb) X G hl hs hr
 | nm hb => exact .nm (h _ (by simp [idBU]) _ hb)
 | fl hb ys hl hmm hc hr =>
  refine .fl (h0 _ hb) ys hl (by rw [mapL_map, List.length_map]; exact hmm) hc fun j c y h1 h2 => ?_
  rw [mapL_map, List.getElem?_map, Option.map_eq_some_iff] at h1
  obtain ⟨c', h1, rfl⟩ := h1
  exact mapA_in (hr j c' y h1 h2) (hm h (List.mem_of_getElem? h1))
 | @mf _ _ Tm ck0 es0 hb vs hl hr =>
  have hh := BRel.mf (K := K) (T := Tm) (ck := ck0) (u := σ u) (h0 _ hb) vs (by rw [List.length_map]; exact hl) (es := List.map (fun (e : Nat × MK × AV) => (e.1, e.2.1, mapA σ e.2.2)) es0) (fun j c y h1 h2 => by
   rw [List.getElem?_map, Option.map_eq_some_iff] at h1
   obtain ⟨c', h1, rfl⟩ := h1
   exact mapA_in (hr j c' y h1 h2) (hm h (List.mem_map_of_mem (f := fun e : Nat × MK × AV => e.2.2) (List.mem_of_getElem? h1))))
  rw [mEsA_map (fun (e : Nat × MK × AV) => (e.1, e.2.1, mapA σ e.2.2)) (fun _ => ⟨rfl, rfl⟩)] at hh
  exact hh
 | mp hb vs G hl hr => exact .mp (h0 _ hb) vs G hl hr
 | mu es' hp hn hlt hb vs G hl hr => exact .mu es' hp hn hlt (h0 _ hb) vs G hl hr
 | lp hb hsz hr =>
  refine .lp (h0 _ hb) hsz fun x hx => ?_
  obtain ⟨x0, hx0, rfl⟩ := List.mem_map.1 hx
  exact mapA_in (hr x0 hx0) (hm h (List.mem_map_of_mem (f := fun x : Nat × AV => x.2) hx0))
 | @il b bm c since last ck um seen hb hmm =>
  refine .il (bm := bm) (seen := seen) (h0 _ hb) (fun v hv => ?_)
  cases um with
  | none => cases hv
  | some v0 => cases hv; obtain ⟨c', h'⟩ := hmm v0 rfl; exact ⟨c', h _ (by simp [idBU]) _ h'⟩
 | @it b bm c since ck um seen hb hmm =>
  refine .it (bm := bm) (h0 _ hb) (fun v hv => ?_)
  cases um with
  | none => cases hv
  | some v0 => cases hv; obtain ⟨c', h'⟩ := hmm v0 rfl; exact ⟨c', h _ (by simp [idBU]) _ h'⟩
def trim2 (M0 : List Blk) (o : Out) (old : List (Nat × Blk)) (l : List Nat) (nb : List Blk) : Out :=
 bif nodupB l && (l.all (fun u => M0.length.ble u && u.blt o.M.length) && ((idsU o.av).all (fun u => u.blt M0.length || l.elem u) && (old.all (fun x => x.1.blt M0.length && (idBU x.2).all (fun u => u.blt M0.length || l.elem u)) && nb.all (fun b => (idBU b).all (fun u => u.blt M0.length || l.elem u))))) then
  ⟨[], mapA (sigD M0.length l) o.av, setL M0 (old.map fun x => (x.1, mapB (sigD M0.length l) x.2)) ++ nb.map (mapB (sigD M0.length l)), old.map (fun x => x.1), [], none⟩ else o
def trim1 (M0 : List Blk) (o : Out) (old : List (Nat × Blk)) (l : List Nat) : Out := match newB o.M l with
 | some nb => trim2 M0 o old l nb
 | none => o
def trimU (M0 : List Blk) (o : Out) : Out :=
 bif Nat.ble (M0.length + 2) o.M.length then (match oldB o.M (sortU M0.length o.tc) with
  | some old => trim1 M0 o old (reachD o.M M0.length 100000 (idsU o.av ++ old.flatMap fun x => idBU x.2) []).reverse
  | none => o) else o
theorem trim2_form {M0 : List Blk} {o : Out} {old : List (Nat × Blk)} {l : List Nat} {nb : List Blk} (h : o.vc = [] ∧ o.mv = [] ∧ o.rd = none) : (trim2 M0 o old l nb).vc = [] ∧ (trim2 M0 o old l nb).mv = [] ∧ (trim2 M0 o old l nb).rd = none := by
 unfold trim2
 cases (nodupB l && (l.all (fun u => M0.length.ble u && u.blt o.M.length) && ((idsU o.av).all (fun u => u.blt M0.length || l.elem u) && (old.all (fun x => x.1.blt M0.length && (idBU x.2).all (fun u => u.blt M0.length || l.elem u)) && nb.all (fun b => (idBU b).all (fun u => u.blt M0.length || l.elem u)))))) with
 | true => exact ⟨rfl, rfl, rfl⟩
 | false => exact h
theorem trimU_form {M0 : List Blk} {o : Out} (h : o.vc = [] ∧ o.mv = [] ∧ o.rd = none) : (trimU M0 o).vc = [] ∧ (trimU M0 o).mv = [] ∧ (trimU M0 o).rd = none := by
 unfold trimU
 cases Nat.ble (M0.length + 2) o.M.length with
 | false => exact h
 | true =>
  simp only [cond_true]
  split
  ·unfold trim1
   split
   ·exact trim2_form h
   ·exact h
  ·exact h
theorem trim2_ok {M0 : List Blk} {β0 : Beta} {F0 : Nat → Frag} {I0 : Frag} {ws : World} {o : Out} {old : List (Nat × Blk)} {l : List Nat} {nb : List Blk} {v : Value} (R0 : RM D w0 K0 M0 β0 F0 I0 ws) (ho : oldB o.M (sortU M0.length o.tc) = some old) (hnb : newB o.M l = some nb)
  (R : RM D w0 K0 o.M β F I w) (e : ExtB [] β0 β) (hI : Grows I0 I) (hF : ∀ u, u < M0.length → u ∉ o.tc → F u = F0 u) (r : ARel (fun w => K0 w ∧ Holds w I) β o.av v) :
  ∃ β' F', RM D w0 K0 (trim2 M0 o old l nb).M β' F' I w ∧ ExtB [] β0 β' ∧ (∀ u, u < M0.length → u ∉ (trim2 M0 o old l nb).tc → F' u = F0 u) ∧ ARel (fun w => K0 w ∧ Holds w I) β' (trim2 M0 o old l nb).av v := by
 unfold trim2
 cases hc : (nodupB l && (l.all (fun u => M0.length.ble u && u.blt o.M.length) && ((idsU o.av).all (fun u => u.blt M0.length || l.elem u) && (old.all (fun x => x.1.blt M0.length && (idBU x.2).all (fun u => u.blt M0.length || l.elem u)) && nb.all (fun b => (idBU b).all (fun u => u.blt M0.length || l.elem u)))))) with
 | false => exact ⟨β, F, R, e, hF, r⟩
 | true =>
 simp only [cond_true]
 obtain ⟨c1, hc⟩ := Bool.and_eq_true_iff.1 hc
 obtain ⟨c2, hc⟩ := Bool.and_eq_true_iff.1 hc
 obtain ⟨c3, hc⟩ := Bool.and_eq_true_iff.1 hc
 obtain ⟨c4, c5⟩ := Bool.and_eq_true_iff.1 hc
 have pn := nodupB_ok c1
 have hlr : ∀ u ∈ l, M0.length ≤ u ∧ u < o.M.length := fun u hu => by
  have := List.all_eq_true.1 c2 u hu
  rw [Bool.and_eq_true] at this
  exact ⟨Nat.le_of_ble_eq_true this.1, by simpa [Nat.blt_eq] using this.2⟩
 generalize hm : M0.length = m at *
 have hin : ∀ {us : List Nat}, us.all (fun u => u.blt m || l.elem u) = true → ∀ u ∈ us, u < m ∨ u ∈ l := fun h u hu => by
  have := List.all_eq_true.1 h u hu
  rw [Bool.or_eq_true] at this
  rcases this with h | h
  ·exact Or.inl (by simpa [Nat.blt_eq] using h)
  ·exact Or.inr (by simpa using h)
 obtain ⟨o1, o2⟩ := oldB_ok ho
 obtain ⟨n1, n2⟩ := newB_ok hnb
 have hβ0 : β0.length = m := by rw [R0.len]; exact hm
 have hβ : β.length = o.M.length := R.len
 have ext0 : Ext β0 β := fun u x hx => e u x (by simp) hx
 let β2 : Beta := β0 ++ l.map fun u => β.getD u (none, 0)
 have hb2 : ∀ i u, l[i]? = some u → β2[m + i]? = some (β.getD u (none, 0)) := fun i u hu => by
  show (β0 ++ l.map _)[m + i]? = _
  rw [List.getElem?_append_right (by omega), hβ0, show m + i - m = i by omega, List.getElem?_map, hu]; rfl
 have ext2 : Ext β0 β2 := Ext.app _ _
 have hml : m ≤ o.M.length := by
  rcases Nat.lt_or_ge o.M.length m with h | h
  ·have h1 := ext0 o.M.length β0[o.M.length] (List.getElem?_eq_getElem (by omega))
   rw [List.getElem?_eq_none (by omega)] at h1; cases h1
  ·exact h
 have hsig : ∀ u, (u < m ∨ u ∈ l) → ∀ q, β[u]? = some q → β2[sigD m l u]? = some q := by
  intro u hu q hq
  unfold sigD
  rcases Nat.lt_or_ge u m with hu' | hu'
  ·rw [show u.blt m = true by simpa [Nat.blt_eq] using hu', cond_true]
   have h1 : β0[u]? = some β0[u] := List.getElem?_eq_getElem (by omega)
   have h2 := ext0 u _ h1
   rw [hq] at h2; simp only [Option.some.injEq] at h2
   rw [h2]; exact ext2 u _ h1
  ·rw [show u.blt m = false by
    cases hb : u.blt m with
    | false => rfl
    | true => rw [Nat.blt_eq] at hb; omega, cond_false]
   have hmem : u ∈ l := hu.resolve_left (by omega)
   rw [hb2 _ u (idxN_at hmem)]
   simp [List.getD_eq_getElem?_getD, hq]
 have hsl : ∀ u, u < m → sigD m l u = u := fun u hu => by unfold sigD; rw [show u.blt m = true by simpa [Nat.blt_eq] using hu, cond_true]
 have hsn : ∀ i u, l[i]? = some u → sigD m l u = m + i := fun i u hu => by
  have := (hlr u (List.mem_of_getElem? hu)).1
  unfold sigD
  rw [show u.blt m = false by
   cases hb : u.blt m with
   | false => rfl
   | true => rw [Nat.blt_eq] at hb; omega, cond_false, idxN_get pn hu]
 let F2 : Nat → Frag := fun v => bif v.blt m then F v else match l[v - m]? with | some u => F u | none => []
 have hF2l : ∀ v, v < m → F2 v = F v := fun v hv => by show (bif v.blt m then F v else _) = F v; rw [show v.blt m = true by simpa [Nat.blt_eq] using hv]; rfl
 have hF2n : ∀ i, F2 (m + i) = (match l[i]? with | some u => F u | none => []) := fun i => by
  show (bif (m + i).blt m then F (m + i) else match l[m + i - m]? with | some u => F u | none => []) = _
  rw [show (m + i).blt m = false by
   cases hb : (m + i).blt m with
   | false => rfl
   | true => rw [Nat.blt_eq] at hb; omega, show m + i - m = i by omega]; rfl
 have kI : ∀ w, (K0 w ∧ Holds w I) → (K0 w ∧ Holds w I0) := fun w hw => ⟨hw.1, hI.holds w hw.2⟩
 have hll : (setL M0 (old.map fun x => (x.1, mapB (sigD m l) x.2))).length = m := by rw [setL_len, hm]
 refine ⟨β2, F2, ⟨?_, ?_, ?_⟩, fun u x hu hx => ext2 u x hx, fun v hv hnt => ?_, mapA_in r fun u hu => hsig u (hin c3 u hu)⟩
 ·show (β0 ++ l.map _).length = _
  simp only [List.length_append, List.length_map, hll, n1, hβ0]
 ·intro v b0 hb0
  rcases Nat.lt_or_ge v m with hvm | hvm
  ·rw [List.getElem?_append_left (by omega)] at hb0
   rw [hF2l v hvm]
   rcases setL_at hb0 with e' | ⟨e1, e2⟩
   ·obtain ⟨x, hx, he⟩ := List.mem_map.1 e'
    simp only [Prod.mk.injEq] at he
    obtain ⟨rfl, rfl⟩ := he
    have hcx := List.all_eq_true.1 c4 x hx
    rw [Bool.and_eq_true] at hcx
    have := mapB_in (σ := sigD m l) (R.blk _ _ (o1 x hx)) (hsig _ (Or.inl hvm)) fun u hu => hsig u (hin hcx.2 u hu)
    rw [hsl _ hvm] at this; exact this
   ·have hnt : v ∉ o.tc := fun ht => e2 (by
     rw [List.map_map]
     show v ∈ List.map (fun x => x.1) old
     rw [o2]; exact sortU_mem ht hvm)
    rw [hF v hvm hnt]
    exact (R0.blk v b0 e1).mono kI ext2
  ·obtain ⟨i, rfl⟩ : ∃ i, v = m + i := ⟨v - m, by omega⟩
   rw [List.getElem?_append_right (by omega), hll, show m + i - m = i by omega] at hb0
   rw [hF2n]
   rw [List.getElem?_map, Option.map_eq_some_iff] at hb0
   obtain ⟨b1, hb1, rfl⟩ := hb0
   obtain ⟨u, hu1, hu2⟩ := n2 i b1 hb1
   rw [hu1]
   have := mapB_in (σ := sigD m l) (R.blk _ _ hu2) (hsig _ (Or.inr (List.mem_of_getElem? hu1))) fun u hu => hsig u (hin (List.all_eq_true.1 c5 b1 (List.mem_of_getElem? hb1)) u hu)
   rw [hsn i u hu1] at this; exact this
 ·have hst := R.st
  obtain ⟨k, hk⟩ : ∃ k, o.M.length = m + k := ⟨o.M.length - m, by omega⟩
  have e2 : (setL M0 (old.map fun x => (x.1, mapB (sigD m l) x.2)) ++ nb.map (mapB (sigD m l))).length = m + l.length := by
   simp only [List.length_append, hll, List.length_map, n1]
  rw [e2]
  rw [hk, ranN_range, List.flatMap_append] at hst
  have hpp : (l ++ (ranN m k).filter fun u => !(l.elem u)).Perm (ranN m k) := by
   refine (List.perm_ext_iff_of_nodup ?_ ranN_nodup).2 fun u => ?_
   ·rw [List.nodup_append]
    refine ⟨pn, List.Pairwise.filter _ ranN_nodup, fun x hx y hy hxy => ?_⟩
    subst hxy
    have := (List.mem_filter.1 hy).2
    simp [hx] at this
   ·rw [List.mem_append, List.mem_filter, ranN_mem]
    constructor
    ·rintro (h | h)
     ·have := hlr u h; omega
     ·exact h.1
    ·intro h
     by_cases hu : u ∈ l
     ·exact Or.inl hu
     ·exact Or.inr ⟨h, by simpa using hu⟩
  have hp2 : ((ranN m k).flatMap F).Perm (l.flatMap F ++ ((ranN m k).filter fun u => !(l.elem u)).flatMap F) := by
   rw [← List.flatMap_append]
   exact (hpp.symm.flatMap_right F)
  have e3 : (List.range m).flatMap F2 = (List.range m).flatMap F := flat_congr fun v hv => hF2l v (List.mem_range.1 hv)
  have e5 : (ranN m l.length).flatMap F2 = l.flatMap F := by
   have := flat_new hF2n l.length 0 l (fun i => by simp)
   rw [Nat.add_zero] at this
   rw [this, List.take_length]
  rw [ranN_range, List.flatMap_append, e3, e5]
  have hst2 : St D w0 w (((ranN m k).filter fun u => !(l.elem u)).flatMap F ++ ((List.range m).flatMap F ++ l.flatMap F ++ I)) := by
   refine hst.perm ?_
   have := (List.Perm.append_left ((List.range m).flatMap F) hp2).append_right I
   refine this.trans ?_
   classical rw [List.perm_iff_count]; intro z; simp only [List.count_append]; omega
  exact hst2.app_right
 ·rw [hF2l v hv]
  refine hF v hv fun ht => hnt ?_
  rw [o2]; exact sortU_mem ht hv
theorem trimU_ok {M0 : List Blk} {β0 : Beta} {F0 : Nat → Frag} {I0 : Frag} {ws : World} {o : Out} {v : Value} (R0 : RM D w0 K0 M0 β0 F0 I0 ws)
  (R : RM D w0 K0 o.M β F I w) (e : ExtB [] β0 β) (hI : Grows I0 I) (hF : ∀ u, u < M0.length → u ∉ o.tc → F u = F0 u) (r : ARel (fun w => K0 w ∧ Holds w I) β o.av v) :
  ∃ β' F', RM D w0 K0 (trimU M0 o).M β' F' I w ∧ ExtB [] β0 β' ∧ (∀ u, u < M0.length → u ∉ (trimU M0 o).tc → F' u = F0 u) ∧ ARel (fun w => K0 w ∧ Holds w I) β' (trimU M0 o).av v := by
 unfold trimU
 cases Nat.ble (M0.length + 2) o.M.length with
 | false => exact ⟨β, F, R, e, hF, r⟩
 | true =>
  simp only [cond_true]
  split
  ·rename_i old ho
   unfold trim1
   split
   ·rename_i nb hnb
    exact trim2_ok R0 ho hnb R e hI hF r
   ·exact ⟨β, F, R, e, hF, r⟩
  ·exact ⟨β, F, R, e, hF, r⟩
end Go.Proofs.YtkheephfkbpchaaGreat
namespace Go.Proofs.YtkheephfkbpchaaGreat
open Go.RowKit
open Go.Maps
variable {mk : Bool} {P : Program} {T : Tab} {cl : Walker} {f : FuncId} {R : Tgt} {D : List Nat} {w0 : World} {K0 : World → Prop} {E : List (Nat × AV)} {M : List Blk} {β : Beta} {F : Nat → Frag} {I : Frag} {w : World} {a : Act} {sz : Nat}
def uY (P : Program) (T : Tab) (KL : List TypeId) (cl : Walker) (fuel : Nat) (u : Nat) (args : List AV) (M : List Blk) : Option Out :=
 match M[u]? with
 | some (.lp .ready f sz E rf) => bif args.length.beq rf.ps.toList.length && rf.ps.toList.all (·.blt sz) && nodupB rf.ps.toList then
  (match only1 (uC P T KL cl false f sz fuel M.length [.code rf.asg, .beginRound, .code rf.body] ⟨rf.ps.toList.zip args ++ E, M, []⟩) with
  | some ([.beginRound, .code c2], s1) => (match s1.M[u]? with
   | some (.lp .ready f2 sz2 E2 rf2) => bif f2.beq f then (match only1 (uC P T KL cl false f sz fuel M.length [.code c2] ⟨s1.E, s1.M.set u (.lp .busy f2 sz2 E2 rf2), u :: s1.tc⟩) with
    | some (k2, s2) => (match endL k2, s2.M[u]? with
     | some ls, some (.lp .busy f3 sz3 E3 rf3) => some ⟨[], .d (.v (.bool ls.on)), s2.M.set u (.lp ls f3 sz3 E3 rf3), u :: s2.tc, [], none⟩
     | _, _ => none)
    | _ => none) else none
   | _ => none)
  | _ => none) else none
 | _ => none
theorem uY_ok (hT : tabB P T = true) {KL : List TypeId} (hL : LawsOk P KL) (hm : P.follows .mixedOrders = true) (hcl : ClOk P cl) {n : Nat} {u : Nat} {args : List AV} {M : List Blk} {out : Out} (h : uY P T KL cl n u args M = some out) : out.rd = none ∧ YieldsA P u args M out := by
 unfold uY at h
 split at h
 rotate_left
 ·simp at h
 rename_i f sz E rf hM
 cases hc : (args.length.beq rf.ps.toList.length && rf.ps.toList.all (·.blt sz) && nodupB rf.ps.toList) with
 | false => simp only [hc, cond_false, reduceCtorEq] at h
 | true =>
  simp only [hc, cond_true] at h
  simp only [Bool.and_eq_true] at hc
  obtain ⟨⟨hc1, hc2⟩, hc3⟩ := hc
  have hc1 := Nat.eq_of_beq_eq_true hc1
  split at h
  rotate_left
  ·simp at h
  rename_i c2 s1 hr1
  have hr1 := only1_ok hr1
  split at h
  rotate_left
  ·simp at h
  rename_i f2 sz2 E2 rf2 hM1
  cases hf : (f2.beq f) with
  | false => simp only [hf, cond_false, reduceCtorEq] at h
  | true =>
   simp only [hf, cond_true] at h
   obtain rfl := Nat.eq_of_beq_eq_true hf
   split at h
   rotate_left
   ·simp at h
   rename_i k2 s2 hr2
   have hr2 := only1_ok hr2
   split at h
   rotate_left
   ·simp at h
   rename_i ls f3 sz3 E3 rf3 hk2 hM2
   simp only [Option.some.injEq] at h; subst h
   refine ⟨rfl, ?_⟩
   intro D w0 K0 β F I w ys l c Rm hK hv hl hrel hβ
   obtain ⟨H, hF, hB, hH⟩ := Rm.at hM
   cases hB with
   | @lp b0 cc f0 sz0 dfr bz E0 rf0 tmps hb hsz hr =>
    rw [hβ] at hb; cases hb
    have hheap := hH.one
    have hlen : rf.ps.size = ys.toArray.size := by
     have e : rf.ps.toList.length = rf.ps.size := Array.length_toList
     have e2 : ys.toArray.size = ys.length := by simp
     omega
    have hy : (Instr.yield l ys.toArray).run P w = .ok (.round l f2 ((rf.ps.zip ys.toArray).foldl (fun tmps (x : Tmp × Value) => tmps.setIfInBounds x.1 x.2) tmps) rf.asg rf.body) w := by
     unfold Instr.yield Instr.getLoop
     simp only [Sem.run_bind, run_getA hheap rfl, Result.andThen_ok, Sem.run_pure]
     rw [if_neg (by simp [hlen])]
     rfl
    refine ⟨f2, _, rf.asg, rf.body, hy, ?_⟩
    have hfold : (rf.ps.zip ys.toArray).foldl (fun tmps (x : Tmp × Value) => tmps.setIfInBounds x.1 x.2) tmps = setPs (rf.ps.toList.zip ys) tmps := by
     rw [← foldl_setPs, ← Array.foldl_toList]; simp
    rw [hfold]
    have hkeys : (rf.ps.toList.zip ys).map (·.1) = rf.ps.toList := List.map_fst_zip (by rw [hl, hc1]; exact Nat.le_refl _)
    have r0 : REu false D w0 K0 sz ⟨β, F, I, M.length⟩ ⟨rf.ps.toList.zip args ++ E, M, []⟩ { tmps := setPs (rf.ps.toList.zip ys) tmps, defers := [] } w := by
     refine ⟨by rw [setPs_size, hsz], I, rfl, Nat.le_refl _, β, F, Rm, ⟨fun _ _ _ h => h, Grows.refl _, fun _ _ _ => rfl⟩, ?_⟩
     intro t v hv'
     have hmem := lookA_mem hv'
     show ARel _ β v ((setPs (rf.ps.toList.zip ys) tmps).getD t undef)
     by_cases ht : t ∈ rf.ps.toList
     ·have hz : (t, v) ∈ rf.ps.toList.zip args := by
       rcases List.mem_append.1 hmem with h1 | h1
       ·exact h1
       ·exact lookA_app_left hv' (by
         rw [List.map_fst_zip (by omega)]; exact ht)
      obtain ⟨y, hy1, hy2⟩ := mem_zip_of hz hl hrel
      rw [setPs_at _ _ t y (by rw [hkeys]; exact nodupB_ok hc3) (fun x hx => by
       have : x.1 ∈ rf.ps.toList := by rw [← hkeys]; exact List.mem_map_of_mem hx
       have := List.all_eq_true.1 hc2 _ this
       rw [hsz]; simpa [Nat.blt_eq] using this) hy1]
      exact hy2
     ·rcases List.mem_append.1 hmem with h1 | h1
      ·exact absurd (by have := List.mem_map_of_mem (f := fun x : Nat × AV => x.1) h1; rwa [List.map_fst_zip (by omega)] at this) ht
      ·rw [setPs_other _ _ _ (by rw [hkeys]; exact ht)]
       exact hr (t, v) h1
    refine round_of_goes (c2 := c2) hk2 (segU hT hL hcl hm hK (by simp) n hr1 r0 fun o ho a1 w1 r1 => ?_)
    rw [List.mem_singleton] at ho; subst ho
    refine Goes.arrive ?_
    obtain ⟨z1, I1, z2, z3, β1, F1, Rm1, sn1, hs1⟩ := r1
    obtain ⟨H1, hF1, hB1, hH1⟩ := Rm1.at hM1
    have hβ1 : β1[u]? = some (some ⟨l, 0, none⟩, c) := sn1.1 u _ (by simp) hβ
    cases hB1 with
    | @lp b1 cc1 f1 sz1 dfr1 bz1 E1 rf1 tmps1 hb1 hsz1 hr1' =>
     rw [hβ1] at hb1; cases hb1
     refine ⟨_, run_begin hH1.one rfl, ?_⟩
     have Rm1' := Rm1.set hM1 hF1 (o' := .loop { state := .busy, pending := none, fn := f2, tmps := tmps1, params := rf2.ps, assign := rf2.asg, body := rf2.body, defers := dfr1 }) (blk' := .lp .busy f2 sz2 E2 rf2) (.lp (bz := .busy) (sz := sz2) hβ1 hsz1 hr1')
     have r1' : REu false D w0 K0 sz ⟨β, F, I, M.length⟩ ⟨s1.E, s1.M.set u (.lp .busy f2 sz2 E2 rf2), u :: s1.tc⟩ a1 (setB w1 l (.loop { state := .busy, pending := none, fn := f2, tmps := tmps1, params := rf2.ps, assign := rf2.asg, body := rf2.body, defers := dfr1 })) := by
      refine ⟨z1, I1, z2, by rw [List.length_set]; exact z3, β1, _, Rm1', ⟨sn1.1, sn1.2.1, fun v hv' hn => ?_⟩, hs1⟩
      simp only [List.mem_cons, not_or] at hn
      simp only [updF]; rw [if_neg hn.1]; exact sn1.2.2 v hv' hn.2
     refine segU hT hL hcl hm hK (by simp) n hr2 r1' fun o ho a2 w2 r2 => ?_
     rw [List.mem_singleton] at ho; subst ho
     refine Goes.arrive ?_
     obtain ⟨y1, I2, y2, y3, β2, F2, Rm2, sn2, hs2⟩ := r2
     obtain ⟨H2, hF2, hB2, hH2⟩ := Rm2.at hM2
     have hβ2 : β2[u]? = some (some ⟨l, 0, none⟩, c) := sn2.1 u _ (by simp) hβ
     cases hB2 with
     | @lp b2 cc2 f2' sz2' dfr2 bz2 E2' rf2' tmps2 hb2 hsz2 hr2' =>
      rw [hβ2] at hb2; cases hb2
      have Rm2' := Rm2.set hM2 hF2 (o' := .loop { state := ls.state, pending := ls.pend, fn := f3, tmps := tmps2, params := rf3.ps, assign := rf3.asg, body := rf3.body, defers := dfr2 }) (blk' := .lp ls f3 sz3 E3 rf3) (.lp (bz := ls) (sz := sz3) hβ2 hsz2 hr2')
      refine ⟨_, _, run_endR hk2 hH2.one, β2, _, I2, Rm2', sn2.1, sn2.2.1, fun v hv' hn => ?_, .d (.v _)⟩
      simp only [List.mem_cons, not_or] at hn
      simp only [updF]; rw [if_neg hn.1]; exact sn2.2.2 v hv' hn.2
theorem Goes.finK {Re : Ending → World → Prop} {fn : Func} (hf : P.funcs[f]? = some fn) {w' : World} (hm : Shut P a.defers w w') {v : Value} (hr : (results fn a.tmps).run P w' = .ok v w') (h : Re (.returned v) w') : Goes P f [] (.ends Re) a w := by
 intro b cs hb hk hro
 rw [Frame.atR_of_none hro]
 have s2 := shut_steps (P := P) (cs := cs) (fr := { b.at a [] with mode := .returning }) rfl rfl hm
 exact ⟨.returned v, w', { b.at a [] with mode := .returning, defers := [] }, h, .of_steps ((Steps.one step_end).trans s2) (Steps.refl P _), hb, rfl, rfl, hk, fn, by rw [← hb] at hf; exact hf, hr⟩
theorem lendAll (Rm : RM D w0 K0 M β F I w) (hK : ∀ w, Kp D w0 w → K0 w) : RM (keys ((List.range M.length).flatMap F)) w (fun w => K0 w ∧ Holds w I) M β F [] w ∧ ∀ w', Kp (keys ((List.range M.length).flatMap F)) w w' → K0 w' ∧ Holds w' I := by
 refine ⟨⟨Rm.len, fun u b hb => (Rm.blk u b hb).mono (fun w hw => hw.1) (Ext.refl _), ?_⟩, fun w' k => ?_⟩
 ·rw [List.append_nil]
  exact St.start Rm.st.app_left.nd Rm.st.app_left.holds
 ·have t : St (keys ((List.range M.length).flatMap F)) w w' [] := ⟨k, by simp [keys], by simp [keys], Holds.nil _⟩
  have s' := St.call Rm.st rfl t
  rw [List.nil_append] at s'
  exact ⟨hK _ s'.kp, s'.holds⟩
theorem backAll {M2 : List Blk} {β2 : Beta} {F2 : Nat → Frag} {I2 : Frag} {w2 : World} (Rm : RM D w0 K0 M β F I w) (R2 : RM (keys ((List.range M.length).flatMap F)) w (fun w => K0 w ∧ Holds w I) M2 β2 F2 I2 w2) : RM D w0 K0 M2 β2 F2 (I2 ++ I) w2 := by
 have s2 := St.call Rm.st rfl R2.st
 refine ⟨R2.len, fun u b hb => (R2.blk u b hb).mono (fun w hw => ⟨⟨hw.1, (Holds.app.1 hw.2).2⟩, (Holds.app.1 hw.2).1⟩) (Ext.refl _), ?_⟩
 rw [List.append_assoc] at s2
 exact s2
theorem Ends1.post {m0 : Nat} {o out : Out} (h : Ends1 m0 o out) (hmv : out.mv = []) {v : Value} (R : RM D w0 K0 o.M β F I w) (r : ARel (fun w => K0 w ∧ Holds w I) β o.av v) {F0 : Nat → Frag} (hF : ∀ u, u < m0 → u ∉ o.tc → F u = F0 u) :
  ∃ F' I', RM D w0 K0 out.M β F' I' w ∧ Grows I I' ∧ (∀ u, u < m0 → u ∉ out.tc → F' u = F0 u) ∧ ARel (fun w => K0 w ∧ Holds w I') β out.av v := by
 obtain ⟨h1, h2, b, h3, h4⟩ := h
 obtain ⟨F', I', g1, g2, -, g4⟩ := R.die (b := b) (fun u hu => (h3 u hu).2)
 refine ⟨F', I', by rw [h4]; exact g1, g2, fun u hu hn => ?_, by rw [h1]; exact r.mono (fun w hw => ⟨hw.1, g2.holds w hw.2⟩) (Ext.refl _)⟩
 rw [g4 u fun hm => by have := (h3 u hm).1; omega]
 exact hF u hu fun hm => hn (h2 u hm)
theorem args_rel {fn : Func} {args : List AV} {ys : List Value} {K : World → Prop} (hle : args.length ≤ fn.ntmps) (hl : ys.length = args.length) (hrel : ∀ (j : Nat) c y, args[j]? = some c → ys[j]? = some y → ARel K β c y) :
  ∀ t v, lookA (argsA args 0) t = some v → ARel K β v (({ tmps := ys.toArray ++ Array.replicate (fn.ntmps - ys.toArray.size) undef, defers := [] } : Act).eval (.tmp t)) := by
 intro t v hv'
 obtain ⟨-, h2⟩ := argsA_mem args 0 (t, v) (lookA_mem hv')
 simp only [Nat.sub_zero] at h2
 obtain ⟨hlt, -⟩ := List.getElem?_eq_some_iff.1 h2
 have hys : ys[t]? = some ys[t] := List.getElem?_eq_getElem (by omega)
 have he : ({ tmps := ys.toArray ++ Array.replicate (fn.ntmps - ys.toArray.size) undef, defers := [] } : Act).eval (.tmp t) = ys[t] := by
  have : t < ys.length := by omega
  simp [Act.eval, Array.getD_eq_getD_getElem?, Array.getElem?_append, this]
 rw [he]
 exact hrel t v _ h2 hys
theorem endT_ok {todo : List Item} (h : endT todo = true) : todo = [] ∨ ∃ k, todo = .code .ret :: k := by
 unfold endT at h
 split at h
 ·exact Or.inl rfl
 ·exact Or.inr ⟨_, rfl⟩
 ·cases h
def uFn (P : Program) (T : Tab) (KL : List TypeId) (cl : Walker) (fuel : Nat) (f : FuncId) (fn : Func) (c : Code) (mk : Bool) (args : List AV) (M : List Blk) : Option Out :=
 match uC P T KL cl mk f fn.ntmps fuel M.length [.code c] ⟨argsA args 0, M, []⟩ with
 | some l => (match outsU T mk M fn.results.toList l with
  | some os => (match mergeU M.length os with | some o => some (trimU M o) | none => none)
  | none => none)
 | none => none
theorem uFn_ok (hT : tabB P T = true) {KL : List TypeId} (hL : LawsOk P KL) (hm : P.follows .mixedOrders = true) (hcl : ClOk P cl) {fuel : Nat} {fn : Func} {c : Code} {args : List AV} {out : Out} (hc : callable P f = true) (hf : P.funcs[f]? = some fn) (hbody : fn.body = some c) (hle : args.length ≤ fn.ntmps)
  (h : uFn P T KL cl fuel f fn c mk args M = some out) : out.rd = none ∧ CallsA P f args M out := by
 unfold uFn at h
 split at h
 rotate_left
 ·simp at h
 rename_i l hr
 split at h
 rotate_left
 ·simp at h
 rename_i os hos
 split at h
 rotate_left
 ·simp at h
 rename_i o1 ho1
 simp only [Option.some.injEq] at h; subst h
 obtain ⟨hvc, hmv, hrd, hall⟩ := mergeU_ok (outsU_form hos) ho1
 obtain ⟨tvc, tmv, trd⟩ := trimU_form (M0 := M) ⟨hvc, hmv, hrd⟩
 refine ⟨trd, hc, ?_⟩
 intro D w0 K0 β F I w ys Rm hK hv hl hrel
 refine calls_of_goes hf hbody ?_
 cases mk with
 | false =>
  have r0 : REu false D w0 K0 fn.ntmps ⟨β, F, I, M.length⟩ ⟨argsA args 0, M, []⟩ { tmps := ys.toArray ++ Array.replicate (fn.ntmps - ys.toArray.size) undef, defers := [] } w :=
   ⟨by simp; omega, I, rfl, Nat.le_refl _, β, F, Rm, ⟨fun _ _ _ h => h, Grows.refl _, fun _ _ _ => rfl⟩, args_rel hle hl hrel⟩
  refine segU (b := ⟨β, F, I, M.length⟩) hT hL hcl hm hK (by simp) fuel hr r0 fun x hx a' w' r' => ?_
  obtain ⟨ht, -, o, ho, hmem⟩ := outsU_ok hos x hx
  obtain ⟨-, -, v, h3, β', F', I', h4, h5, h6, h7, h8⟩ := endA_ok hT ho r'
  obtain ⟨F2, I2, g1, g2, g3, g4⟩ := (hall o hmem).post hmv h4 h8 h7
  have omv : o.mv = [] := (outsU_form hos o hmem).2.1
  obtain ⟨β3, F3, t1, t2, t3, t4⟩ := trimU_ok Rm g1 (by rw [omv] at h5; exact h5) (h6.trans g2) g3 g4
  have hP : ∃ v', Ending.returned v = .returned v' ∧ ∃ β' F' I', RM D w0 K0 (trimU M o1).M β' F' I' w' ∧ ExtB (trimU M o1).mv β β' ∧ Grows I I' ∧ (∀ u, u < M.length → u ∉ (trimU M o1).tc → F' u = F u) ∧ ARel (fun w => K0 w ∧ Holds w I') β' (trimU M o1).av v' :=
   ⟨v, rfl, β3, F3, I2, t1, by rw [tmv]; exact t2, h6.trans g2, t3, t4⟩
  rcases endT_ok ht with e | ⟨k, e⟩
  ·rw [e]; exact Goes.fin hf (REb.nodef r') h3 hP
  ·rw [e]; exact Goes.ret hf (REb.nodef r') h3 hP
 | true =>
  obtain ⟨Rl, hKl⟩ := lendAll Rm hK
  have r0 : REu true (keys ((List.range M.length).flatMap F)) w (fun w => K0 w ∧ Holds w I) fn.ntmps ⟨β, F, [], M.length⟩ ⟨argsA args 0, M, []⟩ { tmps := ys.toArray ++ Array.replicate (fn.ntmps - ys.toArray.size) undef, defers := [] } w :=
   ⟨by simp; omega, [], Mk.nil _, Nat.le_refl _, β, F, Rl, ⟨fun _ _ _ h => h, Grows.refl _, fun _ _ _ => rfl⟩, args_rel hle hl fun j c y h1 h2 => (hrel j c y h1 h2).mono (fun w hw => hw.1) (Ext.refl _)⟩
  refine segU (b := ⟨β, F, [], M.length⟩) hT hL hcl hm hKl (fun _ => rfl) fuel hr r0 fun x hx a' w' r' => ?_
  obtain ⟨ht, hind, o, ho, hmem⟩ := outsU_ok hos x hx
  obtain ⟨q1, I1, q2, q3, β1, F1, R1, sn1, q4⟩ := r'
  dsimp only at R1 sn1 q3 q4
  obtain ⟨w2, I2, g1, g2⟩ := shut_all (P := P) q2.1 q2.2 R1.st
  have ext1 : Ext β β1 := fun u x hx => sn1.1 u x (by simp) hx
  have R2 : RM (keys ((List.range M.length).flatMap F)) w (fun w => K0 w ∧ Holds w I) (endM true M x.2) β1 F1 I2 w2 := by
   have hl2 : (endM true M x.2).length = x.2.M.length := mixU_len _ _ _ _
   refine ⟨by rw [hl2]; exact R1.len, fun u b hb => ?_, by rw [hl2]; exact g2⟩
   rcases mixU_at _ _ _ _ _ _ hb with ⟨e1, e2, e3⟩ | ⟨e1, e2⟩
   ·rw [Nat.zero_add] at e2
    rw [sn1.2.2 u e1 e2]
    exact (Rl.blk u b e3).mono (fun w hw => ⟨hw.1, Holds.nil w⟩) ext1
   ·have := indM_ok (hind rfl) u b hb (by
     rcases Nat.lt_or_ge u M.length with h | h
     ·exact Or.inr (e2 h)
     ·exact Or.inl (by omega))
    exact this _ _ _ _ _ (R1.blk u b e1)
  have r2 : REu false (keys ((List.range M.length).flatMap F)) w (fun w => K0 w ∧ Holds w I) fn.ntmps ⟨β, F, [], M.length⟩ ⟨endE true x.2.E, endM true M x.2, x.2.tc⟩ { a' with defers := [] } w2 :=
   ⟨q1, I2, rfl, by rw [show (endM true M x.2).length = x.2.M.length from mixU_len _ _ _ _]; exact q3, β1, F1, R2, ⟨sn1.1, ⟨I2, by simp⟩, sn1.2.2⟩, fun t v hv' => by
    obtain ⟨e1, e2⟩ := indE_ok hv'
    exact e2 _ _ _ _ (q4 t v e1)⟩
  obtain ⟨-, -, v, h3, β', F', I', h4, h5, h6, h7, h8⟩ := endA_ok hT ho r2
  obtain ⟨F3, I3, k1, k2, k3, k4⟩ := (hall o hmem).post hmv h4 h8 h7
  have omv : o.mv = [] := (outsU_form hos o hmem).2.1
  obtain ⟨β3, F4, t1, t2, t3, t4⟩ := trimU_ok Rl k1 (by rw [omv] at h5; exact h5) ⟨I3, by simp⟩ k3 k4
  have hP : ∃ v', Ending.returned v = .returned v' ∧ ∃ β' F' I', RM D w0 K0 (trimU M o1).M β' F' I' w2 ∧ ExtB (trimU M o1).mv β β' ∧ Grows I I' ∧ (∀ u, u < M.length → u ∉ (trimU M o1).tc → F' u = F u) ∧ ARel (fun w => K0 w ∧ Holds w I') β' (trimU M o1).av v' :=
   ⟨v, rfl, β3, F4, I3 ++ I, backAll Rm t1, by rw [tmv]; exact t2, ⟨I3, rfl⟩, t3, t4.mono (fun w hw => ⟨⟨hw.1, (Holds.app.1 hw.2).2⟩, (Holds.app.1 hw.2).1⟩) (Ext.refl _)⟩
  rcases endT_ok ht with e | ⟨k, e⟩
  ·rw [e]; exact Goes.finK hf g1 h3 hP
  ·rw [e]; exact Goes.retK hf g1 h3 hP
def uW (P : Program) (T : Tab) (KL : List TypeId) (X : Walker) (fuel : Nat) : Nat → Walker
 | 0 => fun _ _ _ _ => none
 | d + 1 => fun c args M o => match X c args M o with
  | some out => some out
  | none => (match c with
   | .yl u => uY P T KL (uW P T KL X fuel d) fuel u args M
   | .fn f => (bif callable P f then (match P.funcs[f]? with
    | some fn => (bif Nat.ble args.length fn.ntmps then (match fn.body with
     | some c => uFn P T KL (uW P T KL X fuel d) fuel f fn c (hasRF c) args M
     | none => none) else none)
    | none => none) else none))
theorem uW_ok (hT : tabB P T = true) {KL : List TypeId} (hL : LawsOk P KL) (hm : P.follows .mixedOrders = true) {X : Walker} (hX : ClOk P X) {fuel : Nat} : ∀ d, ClOk P (uW P T KL X fuel d) := by
 intro d
 induction d with
 | zero => intro f args M o out h; simp [uW] at h
 | succ d ih =>
  intro c args M o out h
  unfold uW at h
  split at h
  ·rename_i out' hx
   simp only [Option.some.injEq] at h; subst h
   exact hX _ _ _ _ _ hx
  cases c with
  | yl u => exact uY_ok hT hL hm ih h
  | fn f =>
  simp only at h
  cases hc : callable P f with
  | false => simp [hc] at h
  | true =>
   simp only [hc, cond_true] at h
   split at h
   ·rename_i fn hf
    cases hb : Nat.ble args.length fn.ntmps with
    | false => simp [hb] at h
    | true =>
     simp only [hb, cond_true] at h
     split at h
     ·rename_i c hbody
      exact uFn_ok hT hL hm ih hc hf hbody (Nat.le_of_ble_eq_true hb) h
     ·simp at h
   ·simp at h
def noX : Walker := fun _ _ _ _ => none
theorem noX_ok : ClOk P noX := by intro c args M o out h; cases h
def resU (T : Tab) (rs : List ResultVar) : List (List Item × US) → Option DV
 | [] => none
 | (todo, s) :: r => bif endT todo then (match resA T s.E s.M rs with
  | some [.d x] => (match r with
   | [] => some x
   | _ => (match resU T rs r with | some y => bif dvQ x y then some y else none | none => none))
  | _ => none) else none
theorem resU_ok {rs : List ResultVar} : ∀ {l : List (List Item × US)} {x : DV}, resU T rs l = some x → ∀ o ∈ l, endT o.1 = true ∧ resA T o.2.E o.2.M rs = some [.d x]
 | [], _, h, _, _ => by simp [resU] at h
 | (todo, s) :: r, x, h, o, ho => by
  unfold resU at h
  cases ht : endT todo with
  | false => simp [ht] at h
  | true =>
   simp only [ht, cond_true] at h
   split at h
   ·rename_i y hy
    split at h
    ·simp only [Option.some.injEq] at h; subst h
     rw [List.mem_singleton] at ho; subst ho
     exact ⟨ht, hy⟩
    ·split at h
     ·rename_i z hz
      cases hq : dvQ y z with
      | false => simp [hq] at h
      | true =>
       simp only [hq, cond_true, Option.some.injEq] at h; subst h
       obtain rfl := dvQ_eq hq
       rcases List.mem_cons.1 ho with rfl | ho
       ·exact ⟨ht, hy⟩
       ·exact resU_ok hz o ho
     ·simp at h
   ·simp at h
end Go.Proofs.YtkheephfkbpchaaGreat
namespace Go.Proofs.YtkheephfkbpchaaGreat
open Go.RowKit
open Go.Maps
variable {P : Program} {T : Tab} {cl : Walker} {f : FuncId} {R : Tgt} {D : List Nat} {w0 : World} {K0 : World → Prop} {E : List (Nat × AV)} {M : List Blk} {β : Beta} {F : Nat → Frag} {I : Frag} {w : World} {a : Act} {sz : Nat}
def isB : Option AV → Bool
 | some (.d (.v (.bool _))) => true
 | _ => false
def fin1 (T : Tab) (rs : List ResultVar) : Option (List (List Item × US)) → Option DV
 | some l => resU T rs l
 | none => none
def topF (P : Program) (T : Tab) (KL : List TypeId) (X : Walker) (fuel d n1 : Nat) (f : FuncId) (args : List AV) : Option DV :=
 bif callable P f then (match P.funcs[f]? with
 | some fn => (bif Nat.ble args.length fn.ntmps then (match fn.body with
  | some c => (match uC P T KL (uW P T KL X fuel d) false f fn.ntmps n1 0 [.code c] ⟨argsA args 0, [], []⟩ with
   | some [(.code (.cond g x y) :: k, s)] => bif isB (evA s.E g) then (match fin1 T fn.results.toList (uC P T KL (uW P T KL X fuel d) false f fn.ntmps fuel 0 (.code x :: k) s), fin1 T fn.results.toList (uC P T KL (uW P T KL X fuel d) false f fn.ntmps fuel 0 (.code y :: k) s) with
    | some a, some b => bif dvQ a b then some a else none
    | _, _ => none) else none
   | _ => none)
  | none => none) else none)
 | none => none) else none
theorem topF_ok (hT : tabB P T = true) {KL : List TypeId} (hL : LawsOk P KL) (hm : P.follows .mixedOrders = true) {X : Walker} (hX : ClOk P X) {fuel d n1 : Nat} {args : List AV} {x : DV} (h : topF P T KL X fuel d n1 f args = some x) : Con P f args x := by
 unfold topF at h
 cases hc : callable P f with
 | false => simp [hc] at h
 | true =>
  simp only [hc, cond_true] at h
  split at h
  rotate_left
  ·simp at h
  rename_i fn hf
  cases hle : Nat.ble args.length fn.ntmps with
  | false => simp [hle] at h
  | true =>
  simp only [hle, cond_true] at h
  split at h
  rotate_left
  ·simp at h
  rename_i c hbody
  split at h
  rotate_left
  ·simp at h
  rename_i g cx cy k s hr
  cases hb : isB (evA s.E g) with
  | false => simp [hb] at h
  | true =>
  simp only [hb, cond_true] at h
  split at h
  rotate_left
  ·simp at h
  rename_i d1 d2 h1 h2
  cases hq : dvQ d1 d2 with
  | false => simp [hq] at h
  | true =>
  simp only [hq, cond_true, Option.some.injEq] at h; subst h
  obtain rfl := dvQ_eq hq
  obtain ⟨bb, hbb⟩ : ∃ bb, boolA (evA s.E g) = some bb := by
   unfold isB at hb
   split at hb
   ·rename_i b he; exact ⟨b, by rw [he]; rfl⟩
   ·cases hb
  refine Con.intro hc hf hbody fn.ntmps rfl hle fun w0 K a hK r => ?_
  obtain ⟨q1, I, q2, β, F, q3, q4⟩ := r
  have r0 : REu false [] w0 K fn.ntmps ⟨β, F, I, 0⟩ ⟨argsA args 0, [], []⟩ a w0 := ⟨q1, I, q2, Nat.le_refl _, β, F, q3, ⟨fun _ _ _ h => h, Grows.refl _, fun _ _ _ => rfl⟩, q4⟩
  refine segU (b := ⟨β, F, I, 0⟩) hT hL (uW_ok hT hL hm hX d) hm hK (by simp) n1 hr r0 fun o ho a' w' r' => ?_
  rw [List.mem_singleton] at ho; subst ho
  have fin : ∀ {todo : List Item} {y : DV} {s : US} {a' : Act} {w' : World}, fin1 T fn.results.toList (uC P T KL (uW P T KL X fuel d) false f fn.ntmps fuel 0 todo s) = some y → REu false [] w0 K fn.ntmps ⟨β, F, I, 0⟩ s a' w' → Goes P f todo (RetA w0 K y) a' w' := by
   intro todo y s a' w' hh r'
   unfold fin1 at hh
   split at hh
   ·rename_i l hr
    refine segU (b := ⟨β, F, I, 0⟩) hT hL (uW_ok hT hL hm hX d) hm hK (by simp) fuel hr r' fun o ho a' w' r' => ?_
    obtain ⟨ht, hres⟩ := resU_ok hh o ho
    rcases endT_ok ht with e | ⟨k, e⟩
    ·rw [e]; exact Go.Proofs.YtkheephfkbpchaaGreat.fin hT hf r'.re (Gives.one hres rfl)
    ·rw [e]; exact ret hT hf r'.re (Gives.one hres rfl)
   ·simp at hh
  cases bb with
  | true => exact Goes.step (fun _ _ => stepR_cond (r'.re.bool hbb)) (fin h1 r')
  | false => exact Goes.step (fun _ _ => stepR_cond (r'.re.bool hbb)) (fin h2 r')
def tellX (f : Nat) (y : Value) (X : Walker) : Walker := fun c args M o => match c, args with
 | .fn g, [] => bif Nat.beq g f then some ⟨[], .d (.v y), M, [], [], none⟩ else X c args M o
 | _, _ => X c args M o
theorem tellX_ok {y : Value} {X : Walker} (h : Con P f [] (.v y)) (hX : ClOk P X) : ClOk P (tellX f y X) := by
 intro c args M o out ho
 unfold tellX at ho
 split at ho
 ·rename_i g
  cases hg : Nat.beq g f with
  | false => simp only [hg, cond_false] at ho; exact hX _ _ _ _ _ ho
  | true =>
   simp only [hg, cond_true, Option.some.injEq] at ho; subst ho
   obtain rfl := Nat.eq_of_beq_eq_true hg
   refine ⟨rfl, h.1, ?_⟩
   intro D w0 K0 β F I w ys Rm hK hv hl hrel
   obtain rfl : ys = [] := List.eq_nil_of_length_eq_zero (by simpa using hl)
   refine (h.now Rm hK (b := []) (by simp) rfl (by simp) (fun hn => absurd rfl hn)).mono ?_
   rintro e w' ⟨v, rfl, I', X', R, hI, hd⟩
   cases hd with
   | v => exact ⟨_, rfl, β, F, I', R.nil rfl, fun _ _ _ h => h, hI, fun _ _ _ => rfl, .d (.v _)⟩
 ·exact hX _ _ _ _ _ ho
def befR (id : Nat) : Code → List Item → Option (List Item)
 | .region i ops d, k => bif Nat.beq i id then some (.code (.region i ops d) :: k) else none
 | .seq x y, k => (match befR id x (.code y :: k) with | some t => some t | none => befR id y k)
 | .cond _ x y, k => (match befR id x k with | some t => some t | none => befR id y k)
 | .block b c, k => befR id c (.inBlock b :: k)
 | .loop c, k => befR id c (.inLoop c :: k)
 | _, _ => none
def bef (P : Program) (f id : Nat) : List Item := match P.funcs[f]? with
 | some fn => (match fn.body with | some c => (match befR id c [] with | some t => t | none => []) | none => [])
 | none => []
def stepN (P : Program) (T : Tab) (KL : List TypeId) (cl : Walker) (f sz n : Nat) (todo : List Item) (s : US) : Option (List Item × US) :=
 match uC P T KL cl false f sz n 0 todo s with
 | some [(t, ⟨E, M, tc⟩)] => some (t, ⟨dedE [] E, M, tc⟩)
 | _ => none
def EndsAs (P : Program) (f sz : Nat) (todo : List Item) (s : US) (x : DV) : Prop :=
 ∀ {w0 : World} {K : World → Prop} {β : Beta} {F : Nat → Frag} {I : Frag} {a : Act} {w : World}, (∀ w, Kp [] w0 w → K w) → REu false [] w0 K sz ⟨β, F, I, 0⟩ s a w → Goes P f todo (RetA w0 K x) a w
theorem EndsAs.step (hT : tabB P T = true) {KL : List TypeId} (hL : LawsOk P KL) (hm : P.follows .mixedOrders = true) (hcl : ClOk P cl) {n : Nat} {todo t : List Item} {s s1 : US} {x : DV} (h : stepN P T KL cl f sz n todo s = some (t, s1)) (k : EndsAs P f sz t s1 x) : EndsAs P f sz todo s x := by
 intro w0 K β F I a w hK r
 unfold stepN at h
 split at h
 ·rename_i t0 E M tc hr
  simp only [Option.some.injEq, Prod.mk.injEq] at h
  obtain ⟨rfl, rfl⟩ := h
  refine segU (b := ⟨β, F, I, 0⟩) hT hL hcl hm hK (by simp) n hr r fun o ho a' w' r' => ?_
  rw [List.mem_singleton] at ho; subst ho
  obtain ⟨h1, I', h2, h3, β', F', h4, h5, h6⟩ := r'
  exact k hK ⟨h1, I', h2, h3, β', F', h4, h5, fun t v hv => h6 t v (dedE_look hv).1⟩
 ·simp at h
theorem EndsAs.fin (hT : tabB P T = true) {KL : List TypeId} (hL : LawsOk P KL) (hm : P.follows .mixedOrders = true) (hcl : ClOk P cl) {fn : Func} (hf : P.funcs[f]? = some fn) {n : Nat} {todo : List Item} {s : US} {x : DV} (h : fin1 T fn.results.toList (uC P T KL cl false f sz n 0 todo s) = some x) : EndsAs P f sz todo s x := by
 intro w0 K β F I a w hK r
 unfold fin1 at h
 split at h
 ·rename_i l hr
  refine segU (b := ⟨β, F, I, 0⟩) hT hL hcl hm hK (by simp) n hr r fun o ho a' w' r' => ?_
  obtain ⟨ht, hres⟩ := resU_ok h o ho
  rcases endT_ok ht with e | ⟨k, e⟩
  ·rw [e]; exact Go.Proofs.YtkheephfkbpchaaGreat.fin hT hf r'.re (Gives.one hres rfl)
  ·rw [e]; exact ret hT hf r'.re (Gives.one hres rfl)
 ·simp at h
theorem EndsAs.con {fn : Func} {c : Code} {args : List AV} {x : DV} (hc : callable P f = true) (hf : P.funcs[f]? = some fn) (hb : fn.body = some c) (n : Nat) (hn : fn.ntmps = n) (hle : Nat.ble args.length n = true) (h : EndsAs P f n [.code c] ⟨argsA args 0, [], []⟩ x) : Con P f args x := by
 refine Con.intro hc hf hb n hn hle fun w0 K a hK r => ?_
 obtain ⟨q1, I, q2, β, F, q3, q4⟩ := r
 exact h (β := β) (F := F) (I := I) hK ⟨q1, I, q2, Nat.le_refl _, β, F, q3, ⟨fun _ _ _ h => h, Grows.refl _, fun _ _ _ => rfl⟩, q4⟩
end Go.Proofs.YtkheephfkbpchaaGreat
namespace Go.Proofs.YtkheephfkbpchaaGreat
open Go.RowKit
def tb : Tab := [
 (3, ⟨.it .i64, 1, 8, [.int .i64 0]⟩),
 (24, ⟨.sr [0, 1] [3, 22], 2, 16, [.int .i64 0, .int .u64 0]⟩),
 (27, ⟨.sl 24, 1, 24, [.slice none 0 0]⟩),
 (38, ⟨.sl 3, 1, 24, [.slice none 0 0]⟩),
 (29, ⟨.sr [0, 2, 3] [24, 22, 27], 4, 48, [.int .i64 0, .int .u64 0, .int .u64 0, .slice none 0 0]⟩),
 (49, ⟨.sr [0, 1, 2] [45, 46, 47], 3, 72, [.slice none 0 0, .slice none 0 0, .slice none 0 0]⟩),
 (31, ⟨.sr [0, 1, 3, 4, 5, 6] [3, 24, 3, 25, 26, 29], 10, 128, [.int .i64 0, .int .i64 0, .int .u64 0, .int .i64 0, .slice none 0 0, .slice none 0 0, .int .i64 0, .int .u64 0, .int .u64 0, .slice none 0 0]⟩),
 (62, ⟨.sr [0, 1, 2, 3] [3, 22, 22, 22], 4, 32, [.int .i64 0, .int .u64 0, .int .u64 0, .int .u64 0]⟩),
 (37, ⟨.pl, 1, 8, [.pointer none]⟩),
 (64, ⟨.sr [0, 1] [3, 31], 11, 136, [.int .i64 0, .int .i64 0, .int .i64 0, .int .u64 0, .int .i64 0, .slice none 0 0, .slice none 0 0, .int .i64 0, .int .u64 0, .int .u64 0, .slice none 0 0]⟩),
 (66, ⟨.sr [0, 1, 3] [3, 24, 27], 4, 48, [.int .i64 0, .int .i64 0, .int .u64 0, .slice none 0 0]⟩),
 (45, ⟨.sl 64, 1, 24, [.slice none 0 0]⟩),
 (22, ⟨.it .u64, 1, 8, [.int .u64 0]⟩),
 (25, ⟨.sl 62, 1, 24, [.slice none 0 0]⟩),
 (39, ⟨.sl 29, 1, 24, [.slice none 0 0]⟩),
 (42, ⟨.sr [0, 2, 3, 4, 5] [24, 38, 3, 39, 40], 6, 80, [.int .i64 0, .int .u64 0, .slice none 0 0, .int .i64 0, .slice none 0 0, .map none]⟩),
 (47, ⟨.sl 66, 1, 24, [.slice none 0 0]⟩),
 (5, ⟨.it .u8, 1, 1, [.int .u8 0]⟩),
 (26, ⟨.sl 5, 1, 24, [.slice none 0 0]⟩),
 (97, ⟨.pl, 1, 8, [.nilFunc]⟩),
 (135, ⟨.it .u64, 1, 8, [.int .u64 0]⟩),
 (33, ⟨.sr [0, 1, 3, 4] [3, 24, 3, 31], 14, 160, [.int .i64 0, .int .i64 0, .int .u64 0, .int .i64 0, .int .i64 0, .int .i64 0, .int .u64 0, .int .i64 0, .slice none 0 0, .slice none 0 0, .int .i64 0, .int .u64 0, .int .u64 0, .slice none 0 0]⟩),
 (46, ⟨.sl 31, 1, 24, [.slice none 0 0]⟩),
 (139, ⟨.pl, 1, 8, [.pointer none]⟩),
 (40, ⟨.mp 3 24, 1, 8, [.map none]⟩),
 (94, ⟨.mp 24 3, 1, 8, [.map none]⟩),
 (91, ⟨.sr [0, 1] [3, 25], 2, 32, [.int .i64 0, .slice none 0 0]⟩),
 (115, ⟨.it .u64, 1, 8, [.int .u64 0]⟩),
 (102, ⟨.mp 3 25, 1, 8, [.map none]⟩),
 (35, ⟨.sl 33, 1, 24, [.slice none 0 0]⟩),
 (109, ⟨.ar 5 29, 20, 240, [.int .i64 0, .int .u64 0, .int .u64 0, .slice none 0 0, .int .i64 0, .int .u64 0, .int .u64 0, .slice none 0 0, .int .i64 0, .int .u64 0, .int .u64 0, .slice none 0 0, .int .i64 0, .int .u64 0, .int .u64 0, .slice none 0 0, .int .i64 0, .int .u64 0, .int .u64 0, .slice none 0 0]⟩),
 (87, ⟨.sl 91, 1, 24, [.slice none 0 0]⟩),
 (4, ⟨.pl, 1, 1, [.bool false]⟩),
 (9, ⟨.st, 1, 16, [.string .empty]⟩),
 (43, ⟨.sl 37, 1, 24, [.slice none 0 0]⟩),
 (106, ⟨.pl, 1, 8, [.nilFunc]⟩),
 (130, ⟨.it .u32, 1, 4, [.int .u32 0]⟩),
 (85, ⟨.pl, 1, 8, [.nilFunc]⟩),
 (89, ⟨.pl, 1, 8, [.nilFunc]⟩),
 (116, ⟨.pl, 1, 8, [.nilFunc]⟩)]
theorem tk : tabB Tryz.prog tb = true := by kernel_rfl
theorem mo : Tryz.prog.follows .mixedOrders = true := by kernel_rfl
end Go.Proofs.YtkheephfkbpchaaGreat
namespace Go.Proofs.YtkheephfkbpchaaGreat
open Go.RowKit
def st5_1 : US := (US.mk [(Prod.mk 24 (AV.d (DV.v (Value.bool false)))), (Prod.mk 23 (AV.d (DV.v (Value.bool false)))), (Prod.mk 22 (AV.d (DV.v (Value.int IntKind.i64 (Int.ofNat 1))))), (Prod.mk 21 (AV.sf 6 2 0 1 (Option.some 1))), (Prod.mk 20 (AV.pt 2 0)), (Prod.mk 19 (AV.d (DV.v (Value.bool false)))), (Prod.mk 18 (AV.d (DV.v (Value.bool false)))), (Prod.mk 17 (AV.d (DV.v (Value.bool false)))), (Prod.mk 16 (AV.pt 2 0)), (Prod.mk 15 (AV.d (DV.v (Value.bool false)))), (Prod.mk 14 (AV.d (DV.v (Value.bool false)))), (Prod.mk 13 (AV.d (DV.v (Value.int IntKind.i64 (Int.ofNat 0))))), (Prod.mk 2 (AV.d (DV.v (Value.int IntKind.i64 (Int.ofNat 0))))), (Prod.mk 1 (AV.pt 2 0)), (Prod.mk 12 (AV.d (DV.v (Value.int IntKind.i64 (Int.ofNat 0))))), (Prod.mk 11 (AV.pt 2 0)), (Prod.mk 7 (AV.tu [(AV.pt 2 0), (AV.d (DV.v (Value.int IntKind.i64 (Int.ofNat 0))))])), (Prod.mk 10 (AV.tu [(AV.pt 2 0), (AV.d (DV.v (Value.int IntKind.i64 (Int.ofNat 0))))])), (Prod.mk 9 (AV.sf 1 1 0 4 (Option.some 4))), (Prod.mk 8 (AV.ag [(AV.d (DV.v (Value.int IntKind.i64 (Int.ofNat 1)))), (AV.d (DV.v (Value.int IntKind.u64 (Int.ofNat 1))))])), (Prod.mk 0 (AV.d (DV.v (Value.bool false))))] [(Blk.bx 24 [(AV.d (DV.v (Value.int IntKind.i64 (Int.ofNat 1)))), (AV.d (DV.v (Value.int IntKind.u64 (Int.ofNat 1))))]), (Blk.fl 3 1 4 [(AV.d (DV.v (Value.int IntKind.i64 (Int.ofNat 0)))), (AV.d (DV.v (Value.int IntKind.i64 (Int.ofNat 0)))), (AV.d (DV.v (Value.int IntKind.i64 (Int.ofNat 1)))), (AV.d (DV.v (Value.int IntKind.i64 (Int.ofNat 2))))]), (Blk.bx 42 [(AV.d (DV.v (Value.int IntKind.i64 (Int.ofNat 1)))), (AV.d (DV.v (Value.int IntKind.u64 (Int.ofNat 1)))), (AV.sf 3 1 0 4 Option.none), (AV.d (DV.v (Value.int IntKind.i64 (Int.ofNat 2)))), (AV.sf 4 4 0 1 (Option.some 1)), (AV.mv 5)]), (Blk.fl 3 1 4 [(AV.d (DV.v (Value.int IntKind.i64 (Int.ofNat 0)))), (AV.d (DV.v (Value.int IntKind.i64 (Int.ofNat 0)))), (AV.d (DV.v (Value.int IntKind.i64 (Int.ofNat 1)))), (AV.d (DV.v (Value.int IntKind.i64 (Int.ofNat 2))))]), (Blk.fl 29 4 1 [(AV.d (DV.v (Value.int IntKind.i64 (Int.ofNat 1)))), (AV.d (DV.v (Value.int IntKind.u64 (Int.ofNat 1)))), (AV.d (DV.v (Value.int IntKind.u64 (Int.ofNat 1)))), (AV.d (DV.v (Value.slice Option.none 0 0)))]), (Blk.mf 40 0 []), (Blk.fl 24 2 1 [(AV.d (DV.v (Value.int IntKind.i64 (Int.ofNat 1)))), (AV.d (DV.v (Value.int IntKind.u64 (Int.ofNat 1))))])] [])
def st5_2 : US := (US.mk [(Prod.mk 3 (AV.pt 11 0)), (Prod.mk 27 (AV.ag [(AV.sf 8 11 0 1 Option.none), (AV.d (DV.v (Value.slice Option.none 0 0))), (AV.d (DV.v (Value.slice Option.none 0 0)))])), (Prod.mk 26 (AV.ag [(AV.d (DV.v (Value.int IntKind.i64 (Int.ofNat 2)))), (AV.d (DV.v (Value.int IntKind.u64 (Int.ofNat 5))))])), (Prod.mk 25 (AV.pt 2 0)), (Prod.mk 24 (AV.d (DV.v (Value.bool false)))), (Prod.mk 23 (AV.d (DV.v (Value.bool false)))), (Prod.mk 22 (AV.d (DV.v (Value.int IntKind.i64 (Int.ofNat 1))))), (Prod.mk 21 (AV.sf 6 2 0 1 (Option.some 1))), (Prod.mk 20 (AV.pt 2 0)), (Prod.mk 19 (AV.d (DV.v (Value.bool false)))), (Prod.mk 18 (AV.d (DV.v (Value.bool false)))), (Prod.mk 17 (AV.d (DV.v (Value.bool false)))), (Prod.mk 16 (AV.pt 2 0)), (Prod.mk 15 (AV.d (DV.v (Value.bool false)))), (Prod.mk 14 (AV.d (DV.v (Value.bool false)))), (Prod.mk 13 (AV.d (DV.v (Value.int IntKind.i64 (Int.ofNat 0))))), (Prod.mk 2 (AV.d (DV.v (Value.int IntKind.i64 (Int.ofNat 0))))), (Prod.mk 1 (AV.pt 2 0)), (Prod.mk 12 (AV.d (DV.v (Value.int IntKind.i64 (Int.ofNat 0))))), (Prod.mk 11 (AV.pt 2 0)), (Prod.mk 7 (AV.tu [(AV.pt 2 0), (AV.d (DV.v (Value.int IntKind.i64 (Int.ofNat 0))))])), (Prod.mk 10 (AV.tu [(AV.pt 2 0), (AV.d (DV.v (Value.int IntKind.i64 (Int.ofNat 0))))])), (Prod.mk 9 (AV.sf 1 1 0 4 (Option.some 4))), (Prod.mk 8 (AV.ag [(AV.d (DV.v (Value.int IntKind.i64 (Int.ofNat 1)))), (AV.d (DV.v (Value.int IntKind.u64 (Int.ofNat 1))))])), (Prod.mk 0 (AV.d (DV.v (Value.bool false))))] [(Blk.bx 24 [(AV.d (DV.v (Value.int IntKind.i64 (Int.ofNat 1)))), (AV.d (DV.v (Value.int IntKind.u64 (Int.ofNat 1))))]), (Blk.fl 3 1 4 [(AV.d (DV.v (Value.int IntKind.i64 (Int.ofNat 0)))), (AV.d (DV.v (Value.int IntKind.i64 (Int.ofNat 0)))), (AV.d (DV.v (Value.int IntKind.i64 (Int.ofNat 1)))), (AV.d (DV.v (Value.int IntKind.i64 (Int.ofNat 2))))]), (Blk.bx 42 [(AV.d (DV.v (Value.int IntKind.i64 (Int.ofNat 1)))), (AV.d (DV.v (Value.int IntKind.u64 (Int.ofNat 1)))), (AV.sf 3 1 0 4 Option.none), (AV.d (DV.v (Value.int IntKind.i64 (Int.ofNat 2)))), (AV.sf 4 4 0 1 (Option.some 1)), (AV.mv 5)]), (Blk.fl 3 1 4 [(AV.d (DV.v (Value.int IntKind.i64 (Int.ofNat 0)))), (AV.d (DV.v (Value.int IntKind.i64 (Int.ofNat 0)))), (AV.d (DV.v (Value.int IntKind.i64 (Int.ofNat 1)))), (AV.d (DV.v (Value.int IntKind.i64 (Int.ofNat 2))))]), (Blk.fl 29 4 1 [(AV.d (DV.v (Value.int IntKind.i64 (Int.ofNat 1)))), (AV.d (DV.v (Value.int IntKind.u64 (Int.ofNat 1)))), (AV.d (DV.v (Value.int IntKind.u64 (Int.ofNat 2)))), (AV.sf 10 2 0 1 Option.none)]), (Blk.mf 40 1 [(Prod.mk 0 (Prod.mk (MK.i IntKind.i64 (Int.ofNat 2)) (AV.ag [(AV.d (DV.v (Value.int IntKind.i64 (Int.ofNat 2)))), (AV.d (DV.v (Value.int IntKind.u64 (Int.ofNat 5))))])))]), (Blk.fl 24 2 1 [(AV.d (DV.v (Value.int IntKind.i64 (Int.ofNat 1)))), (AV.d (DV.v (Value.int IntKind.u64 (Int.ofNat 1))))]), (Blk.bx 24 [(AV.d (DV.v (Value.int IntKind.i64 (Int.ofNat 2)))), (AV.d (DV.v (Value.int IntKind.u64 (Int.ofNat 5))))]), (Blk.fl 64 11 1 [(AV.d (DV.v (Value.int IntKind.i64 (Int.ofNat 2)))), (AV.d (DV.v (Value.int IntKind.i64 (Int.ofNat 1)))), (AV.d (DV.v (Value.int IntKind.i64 (Int.ofNat 0)))), (AV.d (DV.v (Value.int IntKind.u64 (Int.ofNat 0)))), (AV.d (DV.v (Value.int IntKind.i64 (Int.ofNat 0)))), (AV.d (DV.v (Value.slice Option.none 0 0))), (AV.d (DV.v (Value.slice Option.none 0 0))), (AV.d (DV.v (Value.int IntKind.i64 (Int.ofNat 1)))), (AV.d (DV.v (Value.int IntKind.u64 (Int.ofNat 1)))), (AV.d (DV.v (Value.int IntKind.u64 (Int.ofNat 2)))), (AV.sf 9 2 0 1 Option.none)]), (Blk.fl 24 2 1 [(AV.d (DV.v (Value.int IntKind.i64 (Int.ofNat 2)))), (AV.d (DV.v (Value.int IntKind.u64 (Int.ofNat 5))))]), (Blk.fl 24 2 1 [(AV.d (DV.v (Value.int IntKind.i64 (Int.ofNat 2)))), (AV.d (DV.v (Value.int IntKind.u64 (Int.ofNat 5))))]), (Blk.bx 49 [(AV.sf 8 11 0 1 Option.none), (AV.d (DV.v (Value.slice Option.none 0 0))), (AV.d (DV.v (Value.slice Option.none 0 0)))])] [])
def st5_3 : US := (US.mk [(Prod.mk 4 (AV.pt 20 0)), (Prod.mk 34 (AV.ag [(AV.d (DV.v (Value.slice Option.none 0 0))), (AV.d (DV.v (Value.slice Option.none 0 0))), (AV.sf 15 4 0 1 Option.none)])), (Prod.mk 33 (AV.ag [(AV.d (DV.v (Value.int IntKind.i64 (Int.ofNat 1)))), (AV.d (DV.v (Value.int IntKind.i64 (Int.ofNat 0)))), (AV.d (DV.v (Value.int IntKind.u64 (Int.ofNat 0)))), (AV.d (DV.v (Value.int IntKind.i64 (Int.ofNat 0)))), (AV.d (DV.v (Value.slice Option.none 0 0))), (AV.d (DV.v (Value.slice Option.none 0 0))), (AV.d (DV.v (Value.int IntKind.i64 (Int.ofNat 2)))), (AV.d (DV.v (Value.int IntKind.u64 (Int.ofNat 5)))), (AV.d (DV.v (Value.int IntKind.u64 (Int.ofNat 1)))), (AV.sf 14 2 0 1 (Option.some 1))])), (Prod.mk 32 (AV.ag [(AV.d (DV.v (Value.int IntKind.i64 (Int.ofNat 2)))), (AV.d (DV.v (Value.int IntKind.u64 (Int.ofNat 5)))), (AV.d (DV.v (Value.int IntKind.u64 (Int.ofNat 1)))), (AV.sf 14 2 0 1 (Option.some 1))])), (Prod.mk 31 (AV.sf 14 2 0 1 (Option.some 1))), (Prod.mk 30 (AV.ag [(AV.d (DV.v (Value.int IntKind.i64 (Int.ofNat 1)))), (AV.d (DV.v (Value.int IntKind.u64 (Int.ofNat 1))))])), (Prod.mk 29 (AV.ag [(AV.d (DV.v (Value.int IntKind.i64 (Int.ofNat 2)))), (AV.d (DV.v (Value.int IntKind.u64 (Int.ofNat 5))))])), (Prod.mk 28 (AV.pt 2 0)), (Prod.mk 3 (AV.pt 11 0)), (Prod.mk 27 (AV.ag [(AV.sf 8 11 0 1 Option.none), (AV.d (DV.v (Value.slice Option.none 0 0))), (AV.d (DV.v (Value.slice Option.none 0 0)))])), (Prod.mk 26 (AV.ag [(AV.d (DV.v (Value.int IntKind.i64 (Int.ofNat 2)))), (AV.d (DV.v (Value.int IntKind.u64 (Int.ofNat 5))))])), (Prod.mk 25 (AV.pt 2 0)), (Prod.mk 24 (AV.d (DV.v (Value.bool false)))), (Prod.mk 23 (AV.d (DV.v (Value.bool false)))), (Prod.mk 22 (AV.d (DV.v (Value.int IntKind.i64 (Int.ofNat 1))))), (Prod.mk 21 (AV.sf 6 2 0 1 (Option.some 1))), (Prod.mk 20 (AV.pt 2 0)), (Prod.mk 19 (AV.d (DV.v (Value.bool false)))), (Prod.mk 18 (AV.d (DV.v (Value.bool false)))), (Prod.mk 17 (AV.d (DV.v (Value.bool false)))), (Prod.mk 16 (AV.pt 2 0)), (Prod.mk 15 (AV.d (DV.v (Value.bool false)))), (Prod.mk 14 (AV.d (DV.v (Value.bool false)))), (Prod.mk 13 (AV.d (DV.v (Value.int IntKind.i64 (Int.ofNat 0))))), (Prod.mk 2 (AV.d (DV.v (Value.int IntKind.i64 (Int.ofNat 0))))), (Prod.mk 1 (AV.pt 2 0)), (Prod.mk 12 (AV.d (DV.v (Value.int IntKind.i64 (Int.ofNat 0))))), (Prod.mk 11 (AV.pt 2 0)), (Prod.mk 7 (AV.tu [(AV.pt 2 0), (AV.d (DV.v (Value.int IntKind.i64 (Int.ofNat 0))))])), (Prod.mk 10 (AV.tu [(AV.pt 2 0), (AV.d (DV.v (Value.int IntKind.i64 (Int.ofNat 0))))])), (Prod.mk 9 (AV.sf 1 1 0 4 (Option.some 4))), (Prod.mk 8 (AV.ag [(AV.d (DV.v (Value.int IntKind.i64 (Int.ofNat 1)))), (AV.d (DV.v (Value.int IntKind.u64 (Int.ofNat 1))))])), (Prod.mk 0 (AV.d (DV.v (Value.bool false))))] [(Blk.bx 24 [(AV.d (DV.v (Value.int IntKind.i64 (Int.ofNat 1)))), (AV.d (DV.v (Value.int IntKind.u64 (Int.ofNat 1))))]), (Blk.fl 3 1 4 [(AV.d (DV.v (Value.int IntKind.i64 (Int.ofNat 0)))), (AV.d (DV.v (Value.int IntKind.i64 (Int.ofNat 0)))), (AV.d (DV.v (Value.int IntKind.i64 (Int.ofNat 1)))), (AV.d (DV.v (Value.int IntKind.i64 (Int.ofNat 2))))]), (Blk.bx 42 [(AV.d (DV.v (Value.int IntKind.i64 (Int.ofNat 1)))), (AV.d (DV.v (Value.int IntKind.u64 (Int.ofNat 1)))), (AV.sf 3 1 0 4 Option.none), (AV.d (DV.v (Value.int IntKind.i64 (Int.ofNat 2)))), (AV.sf 17 4 0 2 Option.none), (AV.mv 5)]), (Blk.fl 3 1 4 [(AV.d (DV.v (Value.int IntKind.i64 (Int.ofNat 0)))), (AV.d (DV.v (Value.int IntKind.i64 (Int.ofNat 0)))), (AV.d (DV.v (Value.int IntKind.i64 (Int.ofNat 1)))), (AV.d (DV.v (Value.int IntKind.i64 (Int.ofNat 2))))]), (Blk.fl 29 4 1 [(AV.d (DV.v (Value.int IntKind.i64 (Int.ofNat 1)))), (AV.d (DV.v (Value.int IntKind.u64 (Int.ofNat 1)))), (AV.d (DV.v (Value.int IntKind.u64 (Int.ofNat 2)))), (AV.sf 10 2 0 1 Option.none)]), (Blk.mf 40 1 [(Prod.mk 0 (Prod.mk (MK.i IntKind.i64 (Int.ofNat 2)) (AV.ag [(AV.d (DV.v (Value.int IntKind.i64 (Int.ofNat 2)))), (AV.d (DV.v (Value.int IntKind.u64 (Int.ofNat 5))))])))]), (Blk.fl 24 2 1 [(AV.d (DV.v (Value.int IntKind.i64 (Int.ofNat 1)))), (AV.d (DV.v (Value.int IntKind.u64 (Int.ofNat 1))))]), (Blk.bx 24 [(AV.d (DV.v (Value.int IntKind.i64 (Int.ofNat 2)))), (AV.d (DV.v (Value.int IntKind.u64 (Int.ofNat 5))))]), (Blk.fl 64 11 1 [(AV.d (DV.v (Value.int IntKind.i64 (Int.ofNat 2)))), (AV.d (DV.v (Value.int IntKind.i64 (Int.ofNat 1)))), (AV.d (DV.v (Value.int IntKind.i64 (Int.ofNat 0)))), (AV.d (DV.v (Value.int IntKind.u64 (Int.ofNat 0)))), (AV.d (DV.v (Value.int IntKind.i64 (Int.ofNat 0)))), (AV.d (DV.v (Value.slice Option.none 0 0))), (AV.d (DV.v (Value.slice Option.none 0 0))), (AV.d (DV.v (Value.int IntKind.i64 (Int.ofNat 1)))), (AV.d (DV.v (Value.int IntKind.u64 (Int.ofNat 1)))), (AV.d (DV.v (Value.int IntKind.u64 (Int.ofNat 2)))), (AV.sf 9 2 0 1 Option.none)]), (Blk.fl 24 2 1 [(AV.d (DV.v (Value.int IntKind.i64 (Int.ofNat 2)))), (AV.d (DV.v (Value.int IntKind.u64 (Int.ofNat 5))))]), (Blk.fl 24 2 1 [(AV.d (DV.v (Value.int IntKind.i64 (Int.ofNat 2)))), (AV.d (DV.v (Value.int IntKind.u64 (Int.ofNat 5))))]), (Blk.bx 49 [(AV.sf 8 11 0 1 Option.none), (AV.d (DV.v (Value.slice Option.none 0 0))), (AV.d (DV.v (Value.slice Option.none 0 0)))]), (Blk.bx 24 [(AV.d (DV.v (Value.int IntKind.i64 (Int.ofNat 2)))), (AV.d (DV.v (Value.int IntKind.u64 (Int.ofNat 5))))]), (Blk.bx 24 [(AV.d (DV.v (Value.int IntKind.i64 (Int.ofNat 1)))), (AV.d (DV.v (Value.int IntKind.u64 (Int.ofNat 1))))]), (Blk.fl 24 2 1 [(AV.d (DV.v (Value.int IntKind.i64 (Int.ofNat 1)))), (AV.d (DV.v (Value.int IntKind.u64 (Int.ofNat 1))))]), (Blk.fl 66 4 1 [(AV.d (DV.v (Value.int IntKind.i64 (Int.ofNat 1)))), (AV.d (DV.v (Value.int IntKind.i64 (Int.ofNat 0)))), (AV.d (DV.v (Value.int IntKind.u64 (Int.ofNat 0)))), (AV.sf 16 2 0 2 (Option.some 2))]), (Blk.fl 24 2 2 [(AV.d (DV.v (Value.int IntKind.i64 (Int.ofNat 1)))), (AV.d (DV.v (Value.int IntKind.u64 (Int.ofNat 1)))), (AV.d (DV.v (Value.int IntKind.i64 (Int.ofNat 2)))), (AV.d (DV.v (Value.int IntKind.u64 (Int.ofNat 5))))]), (Blk.fl 29 4 2 [(AV.d (DV.v (Value.int IntKind.i64 (Int.ofNat 1)))), (AV.d (DV.v (Value.int IntKind.u64 (Int.ofNat 1)))), (AV.d (DV.v (Value.int IntKind.u64 (Int.ofNat 2)))), (AV.sf 18 2 0 1 Option.none), (AV.d (DV.v (Value.int IntKind.i64 (Int.ofNat 2)))), (AV.d (DV.v (Value.int IntKind.u64 (Int.ofNat 5)))), (AV.d (DV.v (Value.int IntKind.u64 (Int.ofNat 1)))), (AV.sf 19 2 0 1 Option.none)]), (Blk.fl 24 2 1 [(AV.d (DV.v (Value.int IntKind.i64 (Int.ofNat 2)))), (AV.d (DV.v (Value.int IntKind.u64 (Int.ofNat 5))))]), (Blk.fl 24 2 1 [(AV.d (DV.v (Value.int IntKind.i64 (Int.ofNat 1)))), (AV.d (DV.v (Value.int IntKind.u64 (Int.ofNat 1))))]), (Blk.bx 49 [(AV.d (DV.v (Value.slice Option.none 0 0))), (AV.d (DV.v (Value.slice Option.none 0 0))), (AV.sf 15 4 0 1 Option.none)])] [])
def st5_4 : US := (US.mk [(Prod.mk 5 (AV.pt 23 0)), (Prod.mk 37 (AV.ag [(AV.d (DV.v (Value.slice Option.none 0 0))), (AV.d (DV.v (Value.slice Option.none 0 0))), (AV.sf 22 4 0 1 Option.none)])), (Prod.mk 36 (AV.ag [(AV.d (DV.v (Value.int IntKind.i64 (Int.ofNat 3)))), (AV.d (DV.v (Value.int IntKind.u64 (Int.ofNat 1))))])), (Prod.mk 35 (AV.pt 2 0)), (Prod.mk 4 (AV.pt 20 0)), (Prod.mk 34 (AV.ag [(AV.d (DV.v (Value.slice Option.none 0 0))), (AV.d (DV.v (Value.slice Option.none 0 0))), (AV.sf 15 4 0 1 Option.none)])), (Prod.mk 33 (AV.ag [(AV.d (DV.v (Value.int IntKind.i64 (Int.ofNat 1)))), (AV.d (DV.v (Value.int IntKind.i64 (Int.ofNat 0)))), (AV.d (DV.v (Value.int IntKind.u64 (Int.ofNat 0)))), (AV.d (DV.v (Value.int IntKind.i64 (Int.ofNat 0)))), (AV.d (DV.v (Value.slice Option.none 0 0))), (AV.d (DV.v (Value.slice Option.none 0 0))), (AV.d (DV.v (Value.int IntKind.i64 (Int.ofNat 2)))), (AV.d (DV.v (Value.int IntKind.u64 (Int.ofNat 5)))), (AV.d (DV.v (Value.int IntKind.u64 (Int.ofNat 1)))), (AV.sf 14 2 0 1 (Option.some 1))])), (Prod.mk 32 (AV.ag [(AV.d (DV.v (Value.int IntKind.i64 (Int.ofNat 2)))), (AV.d (DV.v (Value.int IntKind.u64 (Int.ofNat 5)))), (AV.d (DV.v (Value.int IntKind.u64 (Int.ofNat 1)))), (AV.sf 14 2 0 1 (Option.some 1))])), (Prod.mk 31 (AV.sf 14 2 0 1 (Option.some 1))), (Prod.mk 30 (AV.ag [(AV.d (DV.v (Value.int IntKind.i64 (Int.ofNat 1)))), (AV.d (DV.v (Value.int IntKind.u64 (Int.ofNat 1))))])), (Prod.mk 29 (AV.ag [(AV.d (DV.v (Value.int IntKind.i64 (Int.ofNat 2)))), (AV.d (DV.v (Value.int IntKind.u64 (Int.ofNat 5))))])), (Prod.mk 28 (AV.pt 2 0)), (Prod.mk 3 (AV.pt 11 0)), (Prod.mk 27 (AV.ag [(AV.sf 8 11 0 1 Option.none), (AV.d (DV.v (Value.slice Option.none 0 0))), (AV.d (DV.v (Value.slice Option.none 0 0)))])), (Prod.mk 26 (AV.ag [(AV.d (DV.v (Value.int IntKind.i64 (Int.ofNat 2)))), (AV.d (DV.v (Value.int IntKind.u64 (Int.ofNat 5))))])), (Prod.mk 25 (AV.pt 2 0)), (Prod.mk 24 (AV.d (DV.v (Value.bool false)))), (Prod.mk 23 (AV.d (DV.v (Value.bool false)))), (Prod.mk 22 (AV.d (DV.v (Value.int IntKind.i64 (Int.ofNat 1))))), (Prod.mk 21 (AV.sf 6 2 0 1 (Option.some 1))), (Prod.mk 20 (AV.pt 2 0)), (Prod.mk 19 (AV.d (DV.v (Value.bool false)))), (Prod.mk 18 (AV.d (DV.v (Value.bool false)))), (Prod.mk 17 (AV.d (DV.v (Value.bool false)))), (Prod.mk 16 (AV.pt 2 0)), (Prod.mk 15 (AV.d (DV.v (Value.bool false)))), (Prod.mk 14 (AV.d (DV.v (Value.bool false)))), (Prod.mk 13 (AV.d (DV.v (Value.int IntKind.i64 (Int.ofNat 0))))), (Prod.mk 2 (AV.d (DV.v (Value.int IntKind.i64 (Int.ofNat 0))))), (Prod.mk 1 (AV.pt 2 0)), (Prod.mk 12 (AV.d (DV.v (Value.int IntKind.i64 (Int.ofNat 0))))), (Prod.mk 11 (AV.pt 2 0)), (Prod.mk 7 (AV.tu [(AV.pt 2 0), (AV.d (DV.v (Value.int IntKind.i64 (Int.ofNat 0))))])), (Prod.mk 10 (AV.tu [(AV.pt 2 0), (AV.d (DV.v (Value.int IntKind.i64 (Int.ofNat 0))))])), (Prod.mk 9 (AV.sf 1 1 0 4 (Option.some 4))), (Prod.mk 8 (AV.ag [(AV.d (DV.v (Value.int IntKind.i64 (Int.ofNat 1)))), (AV.d (DV.v (Value.int IntKind.u64 (Int.ofNat 1))))])), (Prod.mk 0 (AV.d (DV.v (Value.bool false))))] [(Blk.bx 24 [(AV.d (DV.v (Value.int IntKind.i64 (Int.ofNat 1)))), (AV.d (DV.v (Value.int IntKind.u64 (Int.ofNat 1))))]), (Blk.fl 3 1 4 [(AV.d (DV.v (Value.int IntKind.i64 (Int.ofNat 0)))), (AV.d (DV.v (Value.int IntKind.i64 (Int.ofNat 0)))), (AV.d (DV.v (Value.int IntKind.i64 (Int.ofNat 1)))), (AV.d (DV.v (Value.int IntKind.i64 (Int.ofNat 2))))]), (Blk.bx 42 [(AV.d (DV.v (Value.int IntKind.i64 (Int.ofNat 1)))), (AV.d (DV.v (Value.int IntKind.u64 (Int.ofNat 1)))), (AV.sf 3 1 0 4 Option.none), (AV.d (DV.v (Value.int IntKind.i64 (Int.ofNat 2)))), (AV.sf 17 4 0 2 Option.none), (AV.mv 5)]), (Blk.fl 3 1 4 [(AV.d (DV.v (Value.int IntKind.i64 (Int.ofNat 0)))), (AV.d (DV.v (Value.int IntKind.i64 (Int.ofNat 0)))), (AV.d (DV.v (Value.int IntKind.i64 (Int.ofNat 1)))), (AV.d (DV.v (Value.int IntKind.i64 (Int.ofNat 2))))]), (Blk.fl 29 4 1 [(AV.d (DV.v (Value.int IntKind.i64 (Int.ofNat 1)))), (AV.d (DV.v (Value.int IntKind.u64 (Int.ofNat 1)))), (AV.d (DV.v (Value.int IntKind.u64 (Int.ofNat 2)))), (AV.sf 10 2 0 1 Option.none)]), (Blk.mf 40 2 [(Prod.mk 0 (Prod.mk (MK.i IntKind.i64 (Int.ofNat 2)) (AV.ag [(AV.d (DV.v (Value.int IntKind.i64 (Int.ofNat 2)))), (AV.d (DV.v (Value.int IntKind.u64 (Int.ofNat 5))))]))), (Prod.mk 1 (Prod.mk (MK.i IntKind.i64 (Int.ofNat 3)) (AV.ag [(AV.d (DV.v (Value.int IntKind.i64 (Int.ofNat 3)))), (AV.d (DV.v (Value.int IntKind.u64 (Int.ofNat 1))))])))]), (Blk.fl 24 2 1 [(AV.d (DV.v (Value.int IntKind.i64 (Int.ofNat 1)))), (AV.d (DV.v (Value.int IntKind.u64 (Int.ofNat 1))))]), (Blk.bx 24 [(AV.d (DV.v (Value.int IntKind.i64 (Int.ofNat 2)))), (AV.d (DV.v (Value.int IntKind.u64 (Int.ofNat 5))))]), (Blk.fl 64 11 1 [(AV.d (DV.v (Value.int IntKind.i64 (Int.ofNat 2)))), (AV.d (DV.v (Value.int IntKind.i64 (Int.ofNat 1)))), (AV.d (DV.v (Value.int IntKind.i64 (Int.ofNat 0)))), (AV.d (DV.v (Value.int IntKind.u64 (Int.ofNat 0)))), (AV.d (DV.v (Value.int IntKind.i64 (Int.ofNat 0)))), (AV.d (DV.v (Value.slice Option.none 0 0))), (AV.d (DV.v (Value.slice Option.none 0 0))), (AV.d (DV.v (Value.int IntKind.i64 (Int.ofNat 1)))), (AV.d (DV.v (Value.int IntKind.u64 (Int.ofNat 1)))), (AV.d (DV.v (Value.int IntKind.u64 (Int.ofNat 2)))), (AV.sf 9 2 0 1 Option.none)]), (Blk.fl 24 2 1 [(AV.d (DV.v (Value.int IntKind.i64 (Int.ofNat 2)))), (AV.d (DV.v (Value.int IntKind.u64 (Int.ofNat 5))))]), (Blk.fl 24 2 1 [(AV.d (DV.v (Value.int IntKind.i64 (Int.ofNat 2)))), (AV.d (DV.v (Value.int IntKind.u64 (Int.ofNat 5))))]), (Blk.bx 49 [(AV.sf 8 11 0 1 Option.none), (AV.d (DV.v (Value.slice Option.none 0 0))), (AV.d (DV.v (Value.slice Option.none 0 0)))]), (Blk.bx 24 [(AV.d (DV.v (Value.int IntKind.i64 (Int.ofNat 2)))), (AV.d (DV.v (Value.int IntKind.u64 (Int.ofNat 5))))]), (Blk.bx 24 [(AV.d (DV.v (Value.int IntKind.i64 (Int.ofNat 1)))), (AV.d (DV.v (Value.int IntKind.u64 (Int.ofNat 1))))]), (Blk.fl 24 2 1 [(AV.d (DV.v (Value.int IntKind.i64 (Int.ofNat 1)))), (AV.d (DV.v (Value.int IntKind.u64 (Int.ofNat 1))))]), (Blk.fl 66 4 1 [(AV.d (DV.v (Value.int IntKind.i64 (Int.ofNat 1)))), (AV.d (DV.v (Value.int IntKind.i64 (Int.ofNat 0)))), (AV.d (DV.v (Value.int IntKind.u64 (Int.ofNat 0)))), (AV.sf 16 2 0 2 (Option.some 2))]), (Blk.fl 24 2 2 [(AV.d (DV.v (Value.int IntKind.i64 (Int.ofNat 1)))), (AV.d (DV.v (Value.int IntKind.u64 (Int.ofNat 1)))), (AV.d (DV.v (Value.int IntKind.i64 (Int.ofNat 2)))), (AV.d (DV.v (Value.int IntKind.u64 (Int.ofNat 5))))]), (Blk.fl 29 4 2 [(AV.d (DV.v (Value.int IntKind.i64 (Int.ofNat 1)))), (AV.d (DV.v (Value.int IntKind.u64 (Int.ofNat 1)))), (AV.d (DV.v (Value.int IntKind.u64 (Int.ofNat 2)))), (AV.sf 18 2 0 1 Option.none), (AV.d (DV.v (Value.int IntKind.i64 (Int.ofNat 2)))), (AV.d (DV.v (Value.int IntKind.u64 (Int.ofNat 5)))), (AV.d (DV.v (Value.int IntKind.u64 (Int.ofNat 1)))), (AV.sf 19 2 0 1 Option.none)]), (Blk.fl 24 2 1 [(AV.d (DV.v (Value.int IntKind.i64 (Int.ofNat 2)))), (AV.d (DV.v (Value.int IntKind.u64 (Int.ofNat 5))))]), (Blk.fl 24 2 1 [(AV.d (DV.v (Value.int IntKind.i64 (Int.ofNat 1)))), (AV.d (DV.v (Value.int IntKind.u64 (Int.ofNat 1))))]), (Blk.bx 49 [(AV.d (DV.v (Value.slice Option.none 0 0))), (AV.d (DV.v (Value.slice Option.none 0 0))), (AV.sf 15 4 0 1 Option.none)]), (Blk.bx 24 [(AV.d (DV.v (Value.int IntKind.i64 (Int.ofNat 3)))), (AV.d (DV.v (Value.int IntKind.u64 (Int.ofNat 1))))]), (Blk.fl 66 4 1 [(AV.d (DV.v (Value.int IntKind.i64 (Int.ofNat 2)))), (AV.d (DV.v (Value.int IntKind.i64 (Int.ofNat 3)))), (AV.d (DV.v (Value.int IntKind.u64 (Int.ofNat 1)))), (AV.d (DV.v (Value.slice Option.none 0 0)))]), (Blk.bx 49 [(AV.d (DV.v (Value.slice Option.none 0 0))), (AV.d (DV.v (Value.slice Option.none 0 0))), (AV.sf 22 4 0 1 Option.none)])] [])
def st5_5 : US := (US.mk [(Prod.mk 6 (AV.pt 33 0)), (Prod.mk 46 (AV.ag [(AV.sf 27 11 0 1 Option.none), (AV.sf 30 10 0 1 Option.none), (AV.d (DV.v (Value.slice Option.none 0 0)))])), (Prod.mk 45 (AV.ag [(AV.d (DV.v (Value.int IntKind.i64 (Int.ofNat 2)))), (AV.d (DV.v (Value.int IntKind.i64 (Int.ofNat 3)))), (AV.d (DV.v (Value.int IntKind.u64 (Int.ofNat 1)))), (AV.d (DV.v (Value.int IntKind.i64 (Int.ofNat 8)))), (AV.sf 25 4 0 2 (Option.some 2)), (AV.d (DV.ro 1 [[(DV.v (Value.int IntKind.u8 (Int.ofNat 120)))]])), (AV.d (DV.v (Value.int IntKind.i64 (Int.ofNat 0)))), (AV.d (DV.v (Value.int IntKind.u64 (Int.ofNat 0)))), (AV.d (DV.v (Value.int IntKind.u64 (Int.ofNat 0)))), (AV.d (DV.v (Value.slice Option.none 0 0)))])), (Prod.mk 44 (AV.d (DV.ro 1 [[(DV.v (Value.int IntKind.u8 (Int.ofNat 120)))]]))), (Prod.mk 43 (AV.sf 26 1 0 1 (Option.some 1))), (Prod.mk 42 (AV.sf 25 4 0 2 (Option.some 2))), (Prod.mk 41 (AV.ag [(AV.d (DV.v (Value.int IntKind.i64 (Int.ofNat 4)))), (AV.d (DV.v (Value.int IntKind.u64 (Int.ofNat 1)))), (AV.d (DV.v (Value.int IntKind.u64 (Int.ofNat 1)))), (AV.d (DV.v (Value.int IntKind.u64 (Int.ofNat 0))))])), (Prod.mk 40 (AV.ag [(AV.d (DV.v (Value.int IntKind.i64 (Int.ofNat 1)))), (AV.d (DV.v (Value.int IntKind.u64 (Int.ofNat 1)))), (AV.d (DV.v (Value.int IntKind.u64 (Int.ofNat 1)))), (AV.d (DV.v (Value.int IntKind.u64 (Int.ofNat 0))))])), (Prod.mk 39 (AV.ag [(AV.d (DV.v (Value.int IntKind.i64 (Int.ofNat 3)))), (AV.d (DV.v (Value.int IntKind.u64 (Int.ofNat 1))))])), (Prod.mk 38 (AV.pt 2 0)), (Prod.mk 5 (AV.pt 23 0)), (Prod.mk 37 (AV.ag [(AV.d (DV.v (Value.slice Option.none 0 0))), (AV.d (DV.v (Value.slice Option.none 0 0))), (AV.sf 22 4 0 1 Option.none)])), (Prod.mk 36 (AV.ag [(AV.d (DV.v (Value.int IntKind.i64 (Int.ofNat 3)))), (AV.d (DV.v (Value.int IntKind.u64 (Int.ofNat 1))))])), (Prod.mk 35 (AV.pt 2 0)), (Prod.mk 4 (AV.pt 20 0)), (Prod.mk 34 (AV.ag [(AV.d (DV.v (Value.slice Option.none 0 0))), (AV.d (DV.v (Value.slice Option.none 0 0))), (AV.sf 15 4 0 1 Option.none)])), (Prod.mk 33 (AV.ag [(AV.d (DV.v (Value.int IntKind.i64 (Int.ofNat 1)))), (AV.d (DV.v (Value.int IntKind.i64 (Int.ofNat 0)))), (AV.d (DV.v (Value.int IntKind.u64 (Int.ofNat 0)))), (AV.d (DV.v (Value.int IntKind.i64 (Int.ofNat 0)))), (AV.d (DV.v (Value.slice Option.none 0 0))), (AV.d (DV.v (Value.slice Option.none 0 0))), (AV.d (DV.v (Value.int IntKind.i64 (Int.ofNat 2)))), (AV.d (DV.v (Value.int IntKind.u64 (Int.ofNat 5)))), (AV.d (DV.v (Value.int IntKind.u64 (Int.ofNat 1)))), (AV.sf 14 2 0 1 (Option.some 1))])), (Prod.mk 32 (AV.ag [(AV.d (DV.v (Value.int IntKind.i64 (Int.ofNat 2)))), (AV.d (DV.v (Value.int IntKind.u64 (Int.ofNat 5)))), (AV.d (DV.v (Value.int IntKind.u64 (Int.ofNat 1)))), (AV.sf 14 2 0 1 (Option.some 1))])), (Prod.mk 31 (AV.sf 14 2 0 1 (Option.some 1))), (Prod.mk 30 (AV.ag [(AV.d (DV.v (Value.int IntKind.i64 (Int.ofNat 1)))), (AV.d (DV.v (Value.int IntKind.u64 (Int.ofNat 1))))])), (Prod.mk 29 (AV.ag [(AV.d (DV.v (Value.int IntKind.i64 (Int.ofNat 2)))), (AV.d (DV.v (Value.int IntKind.u64 (Int.ofNat 5))))])), (Prod.mk 28 (AV.pt 2 0)), (Prod.mk 3 (AV.pt 11 0)), (Prod.mk 27 (AV.ag [(AV.sf 8 11 0 1 Option.none), (AV.d (DV.v (Value.slice Option.none 0 0))), (AV.d (DV.v (Value.slice Option.none 0 0)))])), (Prod.mk 26 (AV.ag [(AV.d (DV.v (Value.int IntKind.i64 (Int.ofNat 2)))), (AV.d (DV.v (Value.int IntKind.u64 (Int.ofNat 5))))])), (Prod.mk 25 (AV.pt 2 0)), (Prod.mk 24 (AV.d (DV.v (Value.bool false)))), (Prod.mk 23 (AV.d (DV.v (Value.bool false)))), (Prod.mk 22 (AV.d (DV.v (Value.int IntKind.i64 (Int.ofNat 1))))), (Prod.mk 21 (AV.sf 6 2 0 1 (Option.some 1))), (Prod.mk 20 (AV.pt 2 0)), (Prod.mk 19 (AV.d (DV.v (Value.bool false)))), (Prod.mk 18 (AV.d (DV.v (Value.bool false)))), (Prod.mk 17 (AV.d (DV.v (Value.bool false)))), (Prod.mk 16 (AV.pt 2 0)), (Prod.mk 15 (AV.d (DV.v (Value.bool false)))), (Prod.mk 14 (AV.d (DV.v (Value.bool false)))), (Prod.mk 13 (AV.d (DV.v (Value.int IntKind.i64 (Int.ofNat 0))))), (Prod.mk 2 (AV.d (DV.v (Value.int IntKind.i64 (Int.ofNat 0))))), (Prod.mk 1 (AV.pt 2 0)), (Prod.mk 12 (AV.d (DV.v (Value.int IntKind.i64 (Int.ofNat 0))))), (Prod.mk 11 (AV.pt 2 0)), (Prod.mk 7 (AV.tu [(AV.pt 2 0), (AV.d (DV.v (Value.int IntKind.i64 (Int.ofNat 0))))])), (Prod.mk 10 (AV.tu [(AV.pt 2 0), (AV.d (DV.v (Value.int IntKind.i64 (Int.ofNat 0))))])), (Prod.mk 9 (AV.sf 1 1 0 4 (Option.some 4))), (Prod.mk 8 (AV.ag [(AV.d (DV.v (Value.int IntKind.i64 (Int.ofNat 1)))), (AV.d (DV.v (Value.int IntKind.u64 (Int.ofNat 1))))])), (Prod.mk 0 (AV.d (DV.v (Value.bool false))))] [(Blk.bx 24 [(AV.d (DV.v (Value.int IntKind.i64 (Int.ofNat 1)))), (AV.d (DV.v (Value.int IntKind.u64 (Int.ofNat 1))))]), (Blk.fl 3 1 4 [(AV.d (DV.v (Value.int IntKind.i64 (Int.ofNat 0)))), (AV.d (DV.v (Value.int IntKind.i64 (Int.ofNat 0)))), (AV.d (DV.v (Value.int IntKind.i64 (Int.ofNat 1)))), (AV.d (DV.v (Value.int IntKind.i64 (Int.ofNat 2))))]), (Blk.bx 42 [(AV.d (DV.v (Value.int IntKind.i64 (Int.ofNat 1)))), (AV.d (DV.v (Value.int IntKind.u64 (Int.ofNat 1)))), (AV.sf 3 1 0 4 Option.none), (AV.d (DV.v (Value.int IntKind.i64 (Int.ofNat 2)))), (AV.sf 17 4 0 2 Option.none), (AV.mv 5)]), (Blk.fl 3 1 4 [(AV.d (DV.v (Value.int IntKind.i64 (Int.ofNat 0)))), (AV.d (DV.v (Value.int IntKind.i64 (Int.ofNat 0)))), (AV.d (DV.v (Value.int IntKind.i64 (Int.ofNat 1)))), (AV.d (DV.v (Value.int IntKind.i64 (Int.ofNat 2))))]), (Blk.fl 29 4 1 [(AV.d (DV.v (Value.int IntKind.i64 (Int.ofNat 1)))), (AV.d (DV.v (Value.int IntKind.u64 (Int.ofNat 1)))), (AV.d (DV.v (Value.int IntKind.u64 (Int.ofNat 2)))), (AV.sf 10 2 0 1 Option.none)]), (Blk.mf 40 2 [(Prod.mk 0 (Prod.mk (MK.i IntKind.i64 (Int.ofNat 2)) (AV.ag [(AV.d (DV.v (Value.int IntKind.i64 (Int.ofNat 2)))), (AV.d (DV.v (Value.int IntKind.u64 (Int.ofNat 5))))]))), (Prod.mk 1 (Prod.mk (MK.i IntKind.i64 (Int.ofNat 3)) (AV.ag [(AV.d (DV.v (Value.int IntKind.i64 (Int.ofNat 3)))), (AV.d (DV.v (Value.int IntKind.u64 (Int.ofNat 1))))])))]), (Blk.fl 24 2 1 [(AV.d (DV.v (Value.int IntKind.i64 (Int.ofNat 1)))), (AV.d (DV.v (Value.int IntKind.u64 (Int.ofNat 1))))]), (Blk.bx 24 [(AV.d (DV.v (Value.int IntKind.i64 (Int.ofNat 2)))), (AV.d (DV.v (Value.int IntKind.u64 (Int.ofNat 5))))]), (Blk.fl 64 11 1 [(AV.d (DV.v (Value.int IntKind.i64 (Int.ofNat 2)))), (AV.d (DV.v (Value.int IntKind.i64 (Int.ofNat 1)))), (AV.d (DV.v (Value.int IntKind.i64 (Int.ofNat 0)))), (AV.d (DV.v (Value.int IntKind.u64 (Int.ofNat 0)))), (AV.d (DV.v (Value.int IntKind.i64 (Int.ofNat 0)))), (AV.d (DV.v (Value.slice Option.none 0 0))), (AV.d (DV.v (Value.slice Option.none 0 0))), (AV.d (DV.v (Value.int IntKind.i64 (Int.ofNat 1)))), (AV.d (DV.v (Value.int IntKind.u64 (Int.ofNat 1)))), (AV.d (DV.v (Value.int IntKind.u64 (Int.ofNat 2)))), (AV.sf 9 2 0 1 Option.none)]), (Blk.fl 24 2 1 [(AV.d (DV.v (Value.int IntKind.i64 (Int.ofNat 2)))), (AV.d (DV.v (Value.int IntKind.u64 (Int.ofNat 5))))]), (Blk.fl 24 2 1 [(AV.d (DV.v (Value.int IntKind.i64 (Int.ofNat 2)))), (AV.d (DV.v (Value.int IntKind.u64 (Int.ofNat 5))))]), (Blk.bx 49 [(AV.sf 8 11 0 1 Option.none), (AV.d (DV.v (Value.slice Option.none 0 0))), (AV.d (DV.v (Value.slice Option.none 0 0)))]), (Blk.bx 24 [(AV.d (DV.v (Value.int IntKind.i64 (Int.ofNat 2)))), (AV.d (DV.v (Value.int IntKind.u64 (Int.ofNat 5))))]), (Blk.bx 24 [(AV.d (DV.v (Value.int IntKind.i64 (Int.ofNat 1)))), (AV.d (DV.v (Value.int IntKind.u64 (Int.ofNat 1))))]), (Blk.fl 24 2 1 [(AV.d (DV.v (Value.int IntKind.i64 (Int.ofNat 1)))), (AV.d (DV.v (Value.int IntKind.u64 (Int.ofNat 1))))]), (Blk.fl 66 4 1 [(AV.d (DV.v (Value.int IntKind.i64 (Int.ofNat 1)))), (AV.d (DV.v (Value.int IntKind.i64 (Int.ofNat 0)))), (AV.d (DV.v (Value.int IntKind.u64 (Int.ofNat 0)))), (AV.sf 16 2 0 2 (Option.some 2))]), (Blk.fl 24 2 2 [(AV.d (DV.v (Value.int IntKind.i64 (Int.ofNat 1)))), (AV.d (DV.v (Value.int IntKind.u64 (Int.ofNat 1)))), (AV.d (DV.v (Value.int IntKind.i64 (Int.ofNat 2)))), (AV.d (DV.v (Value.int IntKind.u64 (Int.ofNat 5))))]), (Blk.fl 29 4 2 [(AV.d (DV.v (Value.int IntKind.i64 (Int.ofNat 1)))), (AV.d (DV.v (Value.int IntKind.u64 (Int.ofNat 1)))), (AV.d (DV.v (Value.int IntKind.u64 (Int.ofNat 2)))), (AV.sf 18 2 0 1 Option.none), (AV.d (DV.v (Value.int IntKind.i64 (Int.ofNat 2)))), (AV.d (DV.v (Value.int IntKind.u64 (Int.ofNat 5)))), (AV.d (DV.v (Value.int IntKind.u64 (Int.ofNat 1)))), (AV.sf 19 2 0 1 Option.none)]), (Blk.fl 24 2 1 [(AV.d (DV.v (Value.int IntKind.i64 (Int.ofNat 2)))), (AV.d (DV.v (Value.int IntKind.u64 (Int.ofNat 5))))]), (Blk.fl 24 2 1 [(AV.d (DV.v (Value.int IntKind.i64 (Int.ofNat 1)))), (AV.d (DV.v (Value.int IntKind.u64 (Int.ofNat 1))))]), (Blk.bx 49 [(AV.d (DV.v (Value.slice Option.none 0 0))), (AV.d (DV.v (Value.slice Option.none 0 0))), (AV.sf 15 4 0 1 Option.none)]), (Blk.bx 24 [(AV.d (DV.v (Value.int IntKind.i64 (Int.ofNat 3)))), (AV.d (DV.v (Value.int IntKind.u64 (Int.ofNat 1))))]), (Blk.fl 66 4 1 [(AV.d (DV.v (Value.int IntKind.i64 (Int.ofNat 2)))), (AV.d (DV.v (Value.int IntKind.i64 (Int.ofNat 3)))), (AV.d (DV.v (Value.int IntKind.u64 (Int.ofNat 1)))), (AV.d (DV.v (Value.slice Option.none 0 0)))]), (Blk.bx 49 [(AV.d (DV.v (Value.slice Option.none 0 0))), (AV.d (DV.v (Value.slice Option.none 0 0))), (AV.sf 22 4 0 1 Option.none)]), (Blk.bx 24 [(AV.d (DV.v (Value.int IntKind.i64 (Int.ofNat 3)))), (AV.d (DV.v (Value.int IntKind.u64 (Int.ofNat 1))))]), (Blk.fl 62 4 2 [(AV.d (DV.v (Value.int IntKind.i64 (Int.ofNat 1)))), (AV.d (DV.v (Value.int IntKind.u64 (Int.ofNat 1)))), (AV.d (DV.v (Value.int IntKind.u64 (Int.ofNat 1)))), (AV.d (DV.v (Value.int IntKind.u64 (Int.ofNat 0)))), (AV.d (DV.v (Value.int IntKind.i64 (Int.ofNat 4)))), (AV.d (DV.v (Value.int IntKind.u64 (Int.ofNat 1)))), (AV.d (DV.v (Value.int IntKind.u64 (Int.ofNat 1)))), (AV.d (DV.v (Value.int IntKind.u64 (Int.ofNat 0))))]), Blk.dead, (Blk.fl 64 11 1 [(AV.d (DV.v (Value.int IntKind.i64 (Int.ofNat 2)))), (AV.d (DV.v (Value.int IntKind.i64 (Int.ofNat 2)))), (AV.d (DV.v (Value.int IntKind.i64 (Int.ofNat 3)))), (AV.d (DV.v (Value.int IntKind.u64 (Int.ofNat 1)))), (AV.d (DV.v (Value.int IntKind.i64 (Int.ofNat 7)))), (AV.sf 28 4 0 1 Option.none), (AV.sf 29 1 0 1 Option.none), (AV.d (DV.v (Value.int IntKind.i64 (Int.ofNat 0)))), (AV.d (DV.v (Value.int IntKind.u64 (Int.ofNat 0)))), (AV.d (DV.v (Value.int IntKind.u64 (Int.ofNat 0)))), (AV.d (DV.v (Value.slice Option.none 0 0)))]), (Blk.fl 62 4 1 [(AV.d (DV.v (Value.int IntKind.i64 (Int.ofNat 4)))), (AV.d (DV.v (Value.int IntKind.u64 (Int.ofNat 1)))), (AV.d (DV.v (Value.int IntKind.u64 (Int.ofNat 1)))), (AV.d (DV.v (Value.int IntKind.u64 (Int.ofNat 0))))]), (Blk.fl 5 1 1 [(AV.d (DV.v (Value.int IntKind.u8 (Int.ofNat 120))))]), (Blk.fl 31 10 1 [(AV.d (DV.v (Value.int IntKind.i64 (Int.ofNat 2)))), (AV.d (DV.v (Value.int IntKind.i64 (Int.ofNat 3)))), (AV.d (DV.v (Value.int IntKind.u64 (Int.ofNat 1)))), (AV.d (DV.v (Value.int IntKind.i64 (Int.ofNat 8)))), (AV.sf 31 4 0 1 (Option.some 1)), (AV.sf 32 1 0 1 Option.none), (AV.d (DV.v (Value.int IntKind.i64 (Int.ofNat 0)))), (AV.d (DV.v (Value.int IntKind.u64 (Int.ofNat 0)))), (AV.d (DV.v (Value.int IntKind.u64 (Int.ofNat 0)))), (AV.d (DV.v (Value.slice Option.none 0 0)))]), (Blk.fl 62 4 1 [(AV.d (DV.v (Value.int IntKind.i64 (Int.ofNat 1)))), (AV.d (DV.v (Value.int IntKind.u64 (Int.ofNat 1)))), (AV.d (DV.v (Value.int IntKind.u64 (Int.ofNat 1)))), (AV.d (DV.v (Value.int IntKind.u64 (Int.ofNat 0))))]), (Blk.fl 5 1 1 [(AV.d (DV.v (Value.int IntKind.u8 (Int.ofNat 120))))]), (Blk.bx 49 [(AV.sf 27 11 0 1 Option.none), (AV.sf 30 10 0 1 Option.none), (AV.d (DV.v (Value.slice Option.none 0 0)))])] [])
end Go.Proofs.YtkheephfkbpchaaGreat
namespace Go.Proofs.YtkheephfkbpchaaGreat
open Go.RowKit
theorem piece5_0 : stepN Tryz.prog tb [3,24] (uW Tryz.prog tb [3,24] noX 100000 60) 5 127 10 (match Tryz.f5.body with | some c => [.code c] | none => []) ⟨[], [], []⟩ = some (bef Tryz.prog 5 4, st5_1) := by kernel_rfl
end Go.Proofs.YtkheephfkbpchaaGreat
namespace Go.Proofs.YtkheephfkbpchaaGreat
open Go.RowKit
theorem piece5_1 : stepN Tryz.prog tb [3,24] (uW Tryz.prog tb [3,24] noX 100000 60) 5 127 2 (bef Tryz.prog 5 4) st5_1 = some (bef Tryz.prog 5 5, st5_2) := by kernel_rfl
end Go.Proofs.YtkheephfkbpchaaGreat
namespace Go.Proofs.YtkheephfkbpchaaGreat
open Go.RowKit
theorem piece5_2 : stepN Tryz.prog tb [3,24] (uW Tryz.prog tb [3,24] noX 100000 60) 5 127 2 (bef Tryz.prog 5 5) st5_2 = some (bef Tryz.prog 5 6, st5_3) := by kernel_rfl
end Go.Proofs.YtkheephfkbpchaaGreat
namespace Go.Proofs.YtkheephfkbpchaaGreat
open Go.RowKit
theorem piece5_3 : stepN Tryz.prog tb [3,24] (uW Tryz.prog tb [3,24] noX 100000 60) 5 127 2 (bef Tryz.prog 5 6) st5_3 = some (bef Tryz.prog 5 7, st5_4) := by kernel_rfl
end Go.Proofs.YtkheephfkbpchaaGreat
namespace Go.Proofs.YtkheephfkbpchaaGreat
open Go.RowKit
theorem piece5_4 : stepN Tryz.prog tb [3,24] (uW Tryz.prog tb [3,24] noX 100000 60) 5 127 2 (bef Tryz.prog 5 7) st5_4 = some (bef Tryz.prog 5 8, st5_5) := by kernel_rfl
end Go.Proofs.YtkheephfkbpchaaGreat
namespace Go.Proofs.YtkheephfkbpchaaGreat
open Go.RowKit
theorem piece5_5 : fin1 tb Tryz.f5.results.toList (uC Tryz.prog tb [3,24] (uW Tryz.prog tb [3,24] noX 100000 60) false 5 127 100000 0 (bef Tryz.prog 5 8) st5_5) = some (.v (.bool true)) := by kernel_rfl
end Go.Proofs.YtkheephfkbpchaaGreat
namespace Go.Proofs.YtkheephfkbpchaaGreat
open Go.RowKit
open Go.Maps Go.WideMaps
theorem Tryz.laidOut : laidOutB Tryz.prog = true := by kernel_rfl
theorem keyRowP : (24 : TypeId) < Tryz.prog.types.size := of_decide_eq_true (by kernel_rfl)
theorem keyWideP : (match Tryz.prog.underlying 24 with | some (.array _ _) | some (.struct _) => true | _ => false) = true := by kernel_rfl
set_option maxRecDepth 100000 in
theorem lawP : Keyed Tryz.prog 24 := Keyed.of_law (deep_law_laid Tryz.laidOut (m := 2) (by omega) keyRowP (by kernel_rfl) keyWideP)
theorem keysL : LawsOk Tryz.prog [3, 24] := by
 intro K hK
 rcases List.mem_cons.1 hK with rfl | hK
 ·exact int_keyed (q := .i64) (by kernel_rfl)
 ·rcases List.mem_cons.1 hK with rfl | hK
  ·exact lawP
  ·cases hK
end Go.Proofs.YtkheephfkbpchaaGreat
namespace Go.Proofs.YtkheephfkbpchaaGreat
open Go.RowKit
theorem awakeOk : Con Tryz.prog 5 [] (.v (.bool true)) := EndsAs.con (by kernel_rfl) Tryz.func5 rfl 127 rfl rfl (EndsAs.step tk keysL mo (uW_ok tk keysL mo noX_ok 60) piece5_0 (EndsAs.step tk keysL mo (uW_ok tk keysL mo noX_ok 60) piece5_1 (EndsAs.step tk keysL mo (uW_ok tk keysL mo noX_ok 60) piece5_2 (EndsAs.step tk keysL mo (uW_ok tk keysL mo noX_ok 60) piece5_3 (EndsAs.step tk keysL mo (uW_ok tk keysL mo noX_ok 60) piece5_4 (EndsAs.fin tk keysL mo (uW_ok tk keysL mo noX_ok 60) Tryz.func5 piece5_5))))))
end Go.Proofs.YtkheephfkbpchaaGreat
namespace Go.Proofs.YtkheephfkbpchaaGreat
open Go.RowKit Go.Deep
theorem trodAll_gr {H : Type} {enc : TypeId × Value → H} {P : Program} (hl : laidOutB P = true) {W W' : World} (g : Gr W W') : ∀ {ts : List TypeId} {vs : List Value} {ds : List (DataW H)} {ps : List MemPlace}, (∀ t ∈ ts, P.readableRec t = true ∧ t < P.types.size) → DataW.TrodAll enc P W 0 (fun _ => true) true ts vs ds ps → (∀ x ∈ ps, x.block < W.heap.size) → DataW.TrodAll enc P W' 0 (fun b => decide (b < W.heap.size)) true ts vs ds ps
 | [], [], [], _, _, h, _ => h
 | [], _ :: _, _, _, _, h, _ => h.elim
 | [], [], _ :: _, _, _, h, _ => h.elim
 | _ :: _, [], _, _, _, h, _ => h.elim
 | _ :: _, _ :: _, [], _, _, h, _ => h.elim
 | t :: ts, v :: vs, d :: ds, ps, ht, h, hp => by
  obtain ⟨p, q, h1, h2, rfl⟩ := h
  refine ⟨p, q, Below.trod hl (ht t (by simp)).1 (ht t (by simp)).2 h1 g (fun x hx => hp x (by simp [hx])), trodAll_gr hl g (fun t' h' => ht t' (by simp [h'])) h2 (fun x hx => hp x (by simp [hx])), rfl⟩
theorem law_post {H : Type} {enc : TypeId × Value → H} {P : Program} {f : Func} {s : ChangeSpec} {W W' : World} {args : Array Value} {ds gs : List (DataW H)} {before : List MemPlace} {tb : TypeId} (hl : laidOutB P = true)
  (hp : f.params.toList.all (fun t => P.readableRec t && decide (t < P.types.size)) = true) (hr : f.resultTypes = #[tb]) (ht : P.underlying tb = some .bool) (hv : s.vars = [])
  (hW : DataW.Whole enc P f.params.toList s.vars false W args.toList ds gs before) (hfn : s.fn H (ds ++ gs) = { results := [.lit (.bool true)], args := ds }) (g : Gr W W') : s.post enc P f false true false false W args (.bool true) W' := by
 have hW' := hW
 have hlt := hW.lt
 obtain ⟨p, q, hA, hV, rfl, hfz, hnd⟩ := hW
 rw [hv] at hV
 match gs, hV with
 | [], hV =>
  cases hV
  refine ⟨ds, [], _, [], p, [], hW', ?_, ?_, ?_, ?_, fun h => by cases h⟩
  ·rw [hfn, hr]
   exact ⟨[], [], ⟨1, by simp [DataW.trod, ht, Value.cells]⟩, rfl, rfl⟩
  ·rw [hfn]
   refine trodAll_gr hl g (fun t h => ?_) hA (fun x hx => hlt x (by simp [hx]))
   have := List.all_eq_true.1 hp t h
   simpa using this
  ·rw [hfn, hv]; rfl
  ·exact Below.frame g _
def TR (P : Program) (w : World) (t : TypeId) (cs : List Value) : Prop := ∃ (H : Type) (enc : TypeId × Value → H) (base : Nat) (sp : Nat → Bool) (held : Bool) (fuel : Nat) (x : DataW H × List MemPlace), DataW.trod enc P w base sp held fuel t cs = some x
theorem TR.of {H : Type} {enc : TypeId × Value → H} {P : Program} {w : World} {base : Nat} {sp : Nat → Bool} {held : Bool} {t : TypeId} {v : Value} {d : DataW H} {ps : List MemPlace} (h : DataW.Trod enc P w base sp held t v d ps) : TR P w t v.cells.toList := by
 obtain ⟨n, h⟩ := h; exact ⟨H, enc, base, sp, held, n, _, h⟩
section
variable {P : Program} {w : World} {t e : TypeId} {cs : List Value}
theorem TR.int {k : IntKind} (ht : P.underlying t = some (.int k)) (h : TR P w t cs) : ∃ n, cs = [.int k n] ∧ (Lit.int k n).wf = true := by
 obtain ⟨H, enc, base, sp, held, fuel, x, h⟩ := h
 cases fuel with
 | zero => simp [DataW.trod] at h
 | succ fuel =>
  rw [DataW.trod_step] at h; unfold DataW.trodStep at h; simp only [ht] at h
  split at h <;> simp_all
theorem cells?_some {base : Nat} {a : Addr} {n : Nat} {X : List Value} (h : w.cells? base a n = some X) : X.length = n ∧ ∀ j (hj : j < X.length), w.cell? (a.add j) = some X[j] := by
 obtain ⟨_, h1, h2⟩ := World.cells?_some h
 exact ⟨h1, fun j hj => by rw [h2 j (by omega)]; exact List.getElem?_eq_getElem hj⟩
theorem mapM_each {α β : Type} {f : α → Option β} : ∀ {l : List α} {r : List β}, l.mapM f = some r → ∀ x ∈ l, ∃ y, f x = some y
 | [], _, _, x, hx => by simp at hx
 | z :: l, r, h, x, hx => by
  rw [List.mapM_cons] at h
  obtain ⟨y, h1, h2⟩ := Option.bind_eq_some_iff.1 h
  obtain ⟨ys, h3, _⟩ := Option.bind_eq_some_iff.1 h2
  rcases List.mem_cons.1 hx with rfl | hx
  ·exact ⟨y, h1⟩
  ·exact mapM_each h3 x hx
theorem flat_len {X : Nat → List Value} {c : Nat} : ∀ {n : Nat}, (∀ i, i < n → (X i).length = c) → ((List.range n).flatMap X).length = n * c
 | 0, _ => by simp
 | k + 1, h => by rw [List.range_succ, List.flatMap_append, List.length_append, flat_len (n := k) (fun i hi => h i (by omega))]; simp [h k (by omega), Nat.succ_mul]
theorem TR.sliceCap (ht : P.underlying t = some (.slice e)) (h : TR P w t cs) : ∃ (v : Value) (n : Nat) (X : Nat → List Value), cs = [v] ∧ n ≤ maxLen ∧ (∀ i, i < n → (X i).length = P.cellsOf e ∧ TR P w e (X i)) ∧ Src w (P.cellsOf e) v n ((List.range n).flatMap X) ∧ ∃ a c, v = .slice a n c ∧ n ≤ c := by
 obtain ⟨H, enc, base, sp, held, fuel, x, h⟩ := h
 rcases open_slice ht h with ⟨rfl, _⟩ | ⟨a, len, cap, m, n, D, Pl, rfl, _, hlc, hmax, hm, _, hx⟩
 ·exact ⟨_, 0, fun _ => [], rfl, by simp [maxLen], fun i hi => by omega, by simp [Src], _, _, rfl, Nat.zero_le _⟩
 ·have hle : len ≤ m := by rw [hm]; split <;> omega
  obtain ⟨X, hX⟩ := choose_lt (n := len) (α := List Value) (p := fun i c => w.cells? base (a.add (i * P.cellsOf e)) (P.cellsOf e) = some c ∧ DataW.trod enc P w base sp held n e c = some (D i, Pl i)) (fun i hi => hx i (by omega))
  have hlen : ∀ i, i < len → (X i).length = P.cellsOf e := fun i hi => (cells?_some (hX i hi).1).1
  refine ⟨_, len, X, rfl, by omega, fun i hi => ⟨hlen i hi, H, enc, base, sp, held, n, _, (hX i hi).2⟩, ⟨?_, ?_⟩, ⟨a, cap, rfl, hlc⟩⟩
  ·exact flat_len hlen
  ·refine Or.inr ⟨a, cap, rfl, ?_⟩
   have key : ∀ k, k ≤ len → ∀ j (hj : j < ((List.range k).flatMap X).length), w.cell? (a.add j) = some ((List.range k).flatMap X)[j] := by
    intro k
    induction k with
    | zero => intro _ j hj; simp at hj
    | succ k ih =>
     intro hk j hj
     have hl0 : ((List.range k).flatMap X).length = k * P.cellsOf e := flat_len (fun i hi => hlen i (by omega))
     have hE : (List.range (k + 1)).flatMap X = (List.range k).flatMap X ++ X k := by rw [List.range_succ, List.flatMap_append]; simp
     have hj2 : j < ((List.range k).flatMap X ++ X k).length := by rw [← hE]; exact hj
     have hgoal : ((List.range (k + 1)).flatMap X)[j] = ((List.range k).flatMap X ++ X k)[j] := by congr 1
     rw [hgoal]
     by_cases h1 : j < ((List.range k).flatMap X).length
     ·rw [List.getElem_append_left h1]; exact ih (by omega) j h1
     ·rw [List.getElem_append_right (by omega)]
      have h2 := (cells?_some (hX k (by omega)).1).2 (j - ((List.range k).flatMap X).length) (by rw [List.length_append] at hj2; omega)
      rw [← h2, Addr.add_add']
      congr 2
      omega
   exact key len (Nat.le_refl _)
theorem TR.struct {fs : Array Field} (ht : P.underlying t = some (.struct fs)) (h : TR P w t cs) : cs.length = P.cellsOf t ∧ ∀ f ∈ fs.toList, TR P w f.type ((cs.drop f.offset).take (P.cellsOf f.type)) := by
 obtain ⟨H, enc, base, sp, held, fuel, x, h⟩ := h
 cases fuel with
 | zero => simp [DataW.trod] at h
 | succ fuel =>
  rw [DataW.trod_step] at h; unfold DataW.trodStep at h; simp only [ht] at h
  split at h
  ·rename_i hlen
   refine ⟨hlen, fun f hf => ?_⟩
   obtain ⟨xs, h1, _⟩ := Option.map_eq_some_iff.1 h
   obtain ⟨y, hy⟩ := mapM_each h1 f hf
   exact ⟨H, enc, base, sp, held, fuel, _, hy⟩
  ·simp at h
end
end Go.Proofs.YtkheephfkbpchaaGreat
namespace Go.Proofs.YtkheephfkbpchaaGreat
open Go.RowKit Go.Deep
def DRs (w : World) (l : List DV) (cs : List Value) : Prop := cs.length = l.length ∧ ∀ (j : Nat) c v, l[j]? = some c → cs[j]? = some v → DRel (Gr w) c v []
theorem DRs.one {w : World} {c : DV} {v : Value} (h : DRel (Gr w) c v []) : DRs w [c] [v] := ⟨rfl, fun j c' v' h1 h2 => by
 cases j with
 | zero => simp at h1 h2; subst h1 h2; exact h
 | succ j => simp at h1⟩
theorem DRs.app {w : World} {l l' : List DV} {cs cs' : List Value} (h : DRs w l cs) (h' : DRs w l' cs') : DRs w (l ++ l') (cs ++ cs') := ⟨by simp [h.1, h'.1], fun j c v h1 h2 => by
 have e := h.1
 by_cases hj : j < l.length
 ·rw [List.getElem?_append_left hj] at h1; rw [List.getElem?_append_left (by omega)] at h2; exact h.2 j c v h1 h2
 ·rw [List.getElem?_append_right (by omega)] at h1; rw [List.getElem?_append_right (by omega), e] at h2; exact h'.2 _ c v h1 h2⟩
def Rd (P : Program) (w : World) (t : TypeId) {α : Type} (row : α → List DV) (ok : α → Prop) : Prop := ∀ cs, TR P w t cs → ∃ x, ok x ∧ DRs w (row x) cs
variable {P : Program} {w : World} {t e : TypeId} {α β γ : Type}
theorem Rd.u64 (h : P.underlying t = some (.int .u64)) : Rd P w t (fun n : Nat => [.u n]) fun n => n ≤ 18446744073709551615 := fun cs hc => by
 obtain ⟨n, rfl, hw⟩ := hc.int h
 have hw' : (0 : Int) ≤ n ∧ n ≤ 18446744073709551615 := by simpa [Lit.wf, IntKind.min, IntKind.max, IntKind.signed, IntKind.bits] using hw
 have e : n = ((n.toNat : Nat) : Int) := by omega
 refine ⟨n.toNat, by omega, .one ?_⟩
 show DRel _ (.v (.int .u64 ((n.toNat : Nat) : Int))) _ _
 rw [← e]; exact .v _
theorem Rd.byte (h : P.underlying t = some (.int .u8)) : Rd P w t (fun b : UInt8 => [.v (.int .u8 (b.toNat : Int))]) fun _ => True := fun cs hc => by
 obtain ⟨n, rfl, hw⟩ := hc.int h
 have hw' : (0 : Int) ≤ n ∧ n ≤ 255 := by simpa [Lit.wf, IntKind.min, IntKind.max, IntKind.signed, IntKind.bits] using hw
 have e : n = (((UInt8.ofNat n.toNat).toNat : Nat) : Int) := by simp; omega
 refine ⟨UInt8.ofNat n.toNat, trivial, .one ?_⟩
 rw [← e]; exact .v _
theorem Rd.slice [Inhabited α] {k : Nat} {row : α → List DV} {ok : α → Prop} (h : P.underlying t = some (.slice e)) (hk : P.cellsOf e = k) (hr : Rd P w e row ok) : Rd P w t (fun l : List α => [.ro k (l.map row)]) fun l => l.length ≤ 9223372036854775807 ∧ ∀ x ∈ l, ok x := fun cs hc => by
 subst hk
 obtain ⟨v, n, X, rfl, hn, hX, hs, hcap⟩ := TR.sliceCap h hc
 obtain ⟨Y, hY⟩ := choose_lt (n := n) (α := α) (p := fun i x => ok x ∧ DRs w (row x) (X i)) fun i hi => hr _ (hX i hi).2
 have hg : ∀ (i : Nat) r, (((List.range n).map Y).map row)[i]? = some r → i < n ∧ r = row (Y i) := fun i r hi => by
  have hlt := (List.getElem?_eq_some_iff.1 hi).1
  simp at hlt
  simp [hlt] at hi
  exact ⟨hlt, hi.symm⟩
 have hl : (((List.range n).map Y).map row).length = n := by simp
 refine ⟨(List.range n).map Y, ⟨by simp; exact Nat.le_trans hn (by decide), ?_⟩, .one (.ro X (fun i r hi => ?_) ?_ (fun w' g => ?_) fun i r j c x h1 h2 h3 => ?_)⟩
 ·intro x hx
  obtain ⟨i, hi, rfl⟩ := List.mem_map.1 hx
  exact (hY i (by simpa using hi)).1
 ·obtain ⟨hi', rfl⟩ := hg i r hi
  refine ⟨?_, (hX i hi').1⟩
  rw [← (hX i hi').1]; exact (hY i hi').2.1.symm
 ·rw [hl]; exact hcap
 ·rw [hl]; exact hs.gr g
 ·obtain ⟨hi', rfl⟩ := hg i r h1
  exact (hY i hi').2.2 j c x h2 h3
theorem DRs.agg {l : List DV} {cs : Array Value} (h : DRs w l cs.toList) : ARel (Gr w) [] (.ag (l.map .d)) (.agg cs) := by
 have := ARel.ag (K := Gr w) (β := []) (l := l.map .d) cs.toList (by simpa using h.1) fun j c y h1 h2 => by
  rw [List.getElem?_map] at h1
  cases hc : l[j]? with
  | none => rw [hc] at h1; cases h1
  | some c' => rw [hc] at h1; simp at h1; subst h1; exact .d (h.2 j c' y hc h2)
 simpa using this
theorem Con.holds {f : FuncId} {args : List AV} (h : Con P f args (.v (.bool true))) {ys : List Value} (hl : ys.length = args.length) (hr : ∀ (j : Nat) c y, args[j]? = some c → ys[j]? = some y → ARel (Gr w) [] c y) : Calls P f ys.toArray w fun e w' => e = .returned (.bool true) ∧ Gr w w' :=
 (h.2 w (Gr w) ys (fun _ g => g) hl hr).mono fun e w' ⟨r, he, hg, H, ⟨Ho, Hi, _, hd⟩, _⟩ => by
  cases hd with
  | v x => exact ⟨he, hg⟩
end Go.Proofs.YtkheephfkbpchaaGreat
namespace Go.Proofs.YtkheephfkbpchaaGreat
open Go.ChangeShapes Go.WideShapes Go.ChangeAt Go.RowKit
theorem Tryz.own : ownKnob Tryz.prog.godebug = none := by kernel_rfl
variable {w : World}
theorem rdInt {P : Program} {t : TypeId} (h : P.underlying t = some (.int .i64)) : Rd P w t (fun n : Int => [.z n]) fun n => -9223372036854775808 ≤ n ∧ n ≤ 9223372036854775807 := fun cs hc => by
 obtain ⟨n, rfl, hw⟩ := hc.int h
 have hw' : -9223372036854775808 ≤ n ∧ n ≤ 9223372036854775807 := by simpa [Lit.wf, IntKind.min, IntKind.max, IntKind.signed, IntKind.bits] using hw
 exact ⟨n, hw', .one (.v _)⟩
def Rs (P : Program) (w : World) (fs : List Field) (off tot : Nat) {α : Type} (row : α → List DV) (ok : α → Prop) : Prop := ∀ cs : List Value, cs.length = tot → (∀ f ∈ fs, TR P w f.type ((cs.drop f.offset).take (P.cellsOf f.type))) → ∃ x, ok x ∧ DRs w (row x) (cs.drop off)
theorem Rs.nil {P : Program} {tot : Nat} : Rs P w [] tot tot (fun _ : Unit => []) fun _ => True := fun cs hl _ => ⟨(), trivial, by rw [List.drop_of_length_le (by omega)]; exact ⟨rfl, by simp⟩⟩
theorem Rs.cons {P : Program} {f : Field} {fs : List Field} {off k tot : Nat} {α β : Type} {row0 : α → List DV} {row1 : β → List DV} {ok0 : α → Prop} {ok1 : β → Prop} (h0 : f.offset = off) (hk : P.cellsOf f.type = k) (r : Rd P w f.type row0 ok0) (rs : Rs P w fs (off + k) tot row1 ok1) : Rs P w (f :: fs) off tot (fun x : α × β => row0 x.1 ++ row1 x.2) fun x => ok0 x.1 ∧ ok1 x.2 := fun cs hl hf => by
 have a0 := hf f List.mem_cons_self
 rw [h0, hk] at a0
 obtain ⟨x, b0, c0⟩ := r _ a0
 obtain ⟨y, b1, c1⟩ := rs cs hl fun g hg => hf g (List.mem_cons_of_mem _ hg)
 refine ⟨(x, y), ⟨b0, b1⟩, ?_⟩
 have := c0.app c1
 rwa [← List.drop_drop, List.take_append_drop] at this
theorem Rd.struct {P : Program} {t tot : Nat} {fs : List Field} {α : Type} {row : α → List DV} {ok : α → Prop} (h : P.underlying t = some (.struct fs.toArray)) (ht : P.cellsOf t = tot) (rs : Rs P w fs 0 tot row ok) : Rd P w t row ok := fun cs hc => by
 obtain ⟨hl, hf⟩ := hc.struct h
 obtain ⟨x, h1, h2⟩ := rs cs (by omega) (by simpa using hf)
 exact ⟨x, h1, by simpa using h2⟩
abbrev T24 := Int × Nat × Unit
abbrev row24 : T24 → List DV := (fun x => (fun n : Int => [DV.z n]) x.1 ++ (fun x => (fun n : Nat => [DV.u n]) x.1 ++ (fun _ : Unit => ([] : List DV)) x.2) x.2)
abbrev ok24 : T24 → Prop := (fun x => (fun n : Int => -9223372036854775808 ≤ n ∧ n ≤ 9223372036854775807) x.1 ∧ (fun x => (fun n : Nat => n ≤ 18446744073709551615) x.1 ∧ (fun _ : Unit => True) x.2) x.2)
theorem rd24 {w : World} : Rd Tryz.prog w 24 row24 ok24 := Rd.struct (fs := [⟨"Node", 3, 0, false, "", "", 0⟩, ⟨"Inc", 22, 1, false, "", "", 8⟩]) (tot := 2) (by kernel_rfl) (by kernel_rfl) (Rs.cons rfl (k := 1) (by kernel_rfl) (rdInt (by kernel_rfl)) (Rs.cons rfl (k := 1) (by kernel_rfl) (Rd.u64 (by kernel_rfl)) Rs.nil))
abbrev T62 := Int × Nat × Nat × Nat × Unit
abbrev row62 : T62 → List DV := (fun x => (fun n : Int => [DV.z n]) x.1 ++ (fun x => (fun n : Nat => [DV.u n]) x.1 ++ (fun x => (fun n : Nat => [DV.u n]) x.1 ++ (fun x => (fun n : Nat => [DV.u n]) x.1 ++ (fun _ : Unit => ([] : List DV)) x.2) x.2) x.2) x.2)
abbrev ok62 : T62 → Prop := (fun x => (fun n : Int => -9223372036854775808 ≤ n ∧ n ≤ 9223372036854775807) x.1 ∧ (fun x => (fun n : Nat => n ≤ 18446744073709551615) x.1 ∧ (fun x => (fun n : Nat => n ≤ 18446744073709551615) x.1 ∧ (fun x => (fun n : Nat => n ≤ 18446744073709551615) x.1 ∧ (fun _ : Unit => True) x.2) x.2) x.2) x.2)
theorem rd62 {w : World} : Rd Tryz.prog w 62 row62 ok62 := Rd.struct (fs := [⟨"Dst", 3, 0, false, "", "", 0⟩, ⟨"Conn", 22, 1, false, "", "", 8⟩, ⟨"Seq", 22, 2, false, "", "", 16⟩, ⟨"Inc", 22, 3, false, "", "", 24⟩]) (tot := 4) (by kernel_rfl) (by kernel_rfl) (Rs.cons rfl (k := 1) (by kernel_rfl) (rdInt (by kernel_rfl)) (Rs.cons rfl (k := 1) (by kernel_rfl) (Rd.u64 (by kernel_rfl)) (Rs.cons rfl (k := 1) (by kernel_rfl) (Rd.u64 (by kernel_rfl)) (Rs.cons rfl (k := 1) (by kernel_rfl) (Rd.u64 (by kernel_rfl)) Rs.nil))))
abbrev T29 := T24 × Nat × (List T24) × Unit
abbrev row29 : T29 → List DV := (fun x => row24 x.1 ++ (fun x => (fun n : Nat => [DV.u n]) x.1 ++ (fun x => (fun l : List T24 => [DV.ro 2 (l.map row24)]) x.1 ++ (fun _ : Unit => ([] : List DV)) x.2) x.2) x.2)
abbrev ok29 : T29 → Prop := (fun x => ok24 x.1 ∧ (fun x => (fun n : Nat => n ≤ 18446744073709551615) x.1 ∧ (fun x => (fun l : List T24 => l.length ≤ 9223372036854775807 ∧ ∀ x ∈ l, ok24 x) x.1 ∧ (fun _ : Unit => True) x.2) x.2) x.2)
theorem rd29 {w : World} : Rd Tryz.prog w 29 row29 ok29 := Rd.struct (fs := [⟨"Server", 24, 0, false, "", "", 0⟩, ⟨"Seq", 22, 2, false, "", "", 16⟩, ⟨"Peers", 27, 3, false, "", "", 24⟩]) (tot := 4) (by kernel_rfl) (by kernel_rfl) (Rs.cons rfl (k := 2) (by kernel_rfl) rd24 (Rs.cons rfl (k := 1) (by kernel_rfl) (Rd.u64 (by kernel_rfl)) (Rs.cons rfl (k := 1) (by kernel_rfl) (Rd.slice (e := 24) (by kernel_rfl) (by kernel_rfl) rd24) Rs.nil)))
abbrev T31 := Int × T24 × Int × (List T62) × (List UInt8) × T29 × Unit
abbrev row31 : T31 → List DV := (fun x => (fun n : Int => [DV.z n]) x.1 ++ (fun x => row24 x.1 ++ (fun x => (fun n : Int => [DV.z n]) x.1 ++ (fun x => (fun l : List T62 => [DV.ro 4 (l.map row62)]) x.1 ++ (fun x => (fun l : List UInt8 => [DV.ro 1 (l.map (fun b : UInt8 => [DV.v (.int .u8 (b.toNat : Int))]))]) x.1 ++ (fun x => row29 x.1 ++ (fun _ : Unit => ([] : List DV)) x.2) x.2) x.2) x.2) x.2) x.2)
abbrev ok31 : T31 → Prop := (fun x => (fun n : Int => -9223372036854775808 ≤ n ∧ n ≤ 9223372036854775807) x.1 ∧ (fun x => ok24 x.1 ∧ (fun x => (fun n : Int => -9223372036854775808 ≤ n ∧ n ≤ 9223372036854775807) x.1 ∧ (fun x => (fun l : List T62 => l.length ≤ 9223372036854775807 ∧ ∀ x ∈ l, ok62 x) x.1 ∧ (fun x => (fun l : List UInt8 => l.length ≤ 9223372036854775807 ∧ ∀ x ∈ l, (fun _ : UInt8 => True) x) x.1 ∧ (fun x => ok29 x.1 ∧ (fun _ : Unit => True) x.2) x.2) x.2) x.2) x.2) x.2)
theorem rd31 {w : World} : Rd Tryz.prog w 31 row31 ok31 := Rd.struct (fs := [⟨"Kind", 3, 0, false, "", "", 0⟩, ⟨"Src", 24, 1, false, "", "", 8⟩, ⟨"Hops", 3, 3, false, "", "", 24⟩, ⟨"Heads", 25, 4, false, "", "", 32⟩, ⟨"Body", 26, 5, false, "", "", 56⟩, ⟨"Advert", 29, 6, false, "", "", 80⟩]) (tot := 10) (by kernel_rfl) (by kernel_rfl) (Rs.cons rfl (k := 1) (by kernel_rfl) (rdInt (by kernel_rfl)) (Rs.cons rfl (k := 2) (by kernel_rfl) rd24 (Rs.cons rfl (k := 1) (by kernel_rfl) (rdInt (by kernel_rfl)) (Rs.cons rfl (k := 1) (by kernel_rfl) (Rd.slice (e := 62) (by kernel_rfl) (by kernel_rfl) rd62) (Rs.cons rfl (k := 1) (by kernel_rfl) (Rd.slice (e := 5) (by kernel_rfl) (by kernel_rfl) (Rd.byte (by kernel_rfl))) (Rs.cons rfl (k := 4) (by kernel_rfl) rd29 Rs.nil))))))
abbrev T33 := Int × T24 × Int × T31 × Unit
abbrev row33 : T33 → List DV := (fun x => (fun n : Int => [DV.z n]) x.1 ++ (fun x => row24 x.1 ++ (fun x => (fun n : Int => [DV.z n]) x.1 ++ (fun x => row31 x.1 ++ (fun _ : Unit => ([] : List DV)) x.2) x.2) x.2) x.2)
abbrev ok33 : T33 → Prop := (fun x => (fun n : Int => -9223372036854775808 ≤ n ∧ n ≤ 9223372036854775807) x.1 ∧ (fun x => ok24 x.1 ∧ (fun x => (fun n : Int => -9223372036854775808 ≤ n ∧ n ≤ 9223372036854775807) x.1 ∧ (fun x => ok31 x.1 ∧ (fun _ : Unit => True) x.2) x.2) x.2) x.2)
theorem rd33 {w : World} : Rd Tryz.prog w 33 row33 ok33 := Rd.struct (fs := [⟨"Do", 3, 0, false, "", "", 0⟩, ⟨"Peer", 24, 1, false, "", "", 8⟩, ⟨"Node", 3, 3, false, "", "", 24⟩, ⟨"P", 31, 4, false, "", "", 32⟩]) (tot := 14) (by kernel_rfl) (by kernel_rfl) (Rs.cons rfl (k := 1) (by kernel_rfl) (rdInt (by kernel_rfl)) (Rs.cons rfl (k := 2) (by kernel_rfl) rd24 (Rs.cons rfl (k := 1) (by kernel_rfl) (rdInt (by kernel_rfl)) (Rs.cons rfl (k := 10) (by kernel_rfl) rd31 Rs.nil))))
theorem nobodyOk (x : T33) : Con Tryz.prog 3 [.ag ((row33 x).map .d)] (.v (.bool true)) := topF_ok (T := tb) (KL := [3, 24]) (X := tellX 5 (.bool true) noX) (fuel := 100000) (d := 60) (n1 := 5) tk keysL mo (tellX_ok awakeOk noX_ok) (by kernel_rfl)
set_option maxRecDepth 100000 in
theorem overlayNobody_lifted (os : Os) (started : os.Started) (H : Type) (enc : TypeId × Value → H) :
  ReturnsInHanded {} Tryz.checked os 3 .any (Rows.overlayNobodySpec.pre6 enc Tryz.prog Tryz.f3 Rows.overlayNobodyRow.domain false) (Rows.overlayNobodySpec.post enc Tryz.prog Tryz.f3 false true false false) := by
 refine returnsInHanded_of_change (C := Tryz.checked) Tryz.own started (by kernel_rfl) Tryz.func3
  (ChangeSpec.witness6 (enc := enc) (C := Tryz.checked) false ⟨#[], #[.agg #[.int .i64 0, .int .i64 0, .int .u64 0, .int .i64 0, .int .i64 0, .int .i64 0, .int .u64 0, .int .i64 0, .slice none 0 0, .slice none 0 0, .int .i64 0, .int .u64 0, .int .u64 0, .slice none 0 0]], []⟩ 8 (by kernel_rfl) (by kernel_rfl) (by kernel_rfl) (by kernel_rfl)) ?_
 intro W base args ds gs before hval0 hW hcnd _
 have hW0 : DataW.Whole enc Tryz.prog Tryz.f3.params.toList Rows.overlayNobodySpec.vars false W args.toList ds gs before := hW
 have hW' := hW0
 obtain ⟨p, q, hA0, hV, rfl, hfz, hnd⟩ := hW
 have hA : DataW.TrodAll enc Tryz.prog W 0 (fun _ => true) true Tryz.f3.params.toList args.toList ds p := hA0
 have hval : ∀ (j : Nat) t v, Tryz.f3.params[j]? = some t → args[j]? = some v → Value.okWide Tryz.prog W .any base t v := hval0
 rw [Tryz.params3] at hA hval
 obtain ⟨v0, vs0, d0, ds0, p0, q0, hargs0, rfl, rfl, h0, r0⟩ := trodAll_cons hA
 obtain ⟨rfl, rfl, rfl⟩ := trodAll_nil r0
 obtain rfl : args = #[v0] := by cases args; simp_all
 obtain ⟨rfl, rfl⟩ := trodVars_none hV
 obtain ⟨cs0, rfl, -, -⟩ : ∃ cs, v0 = .agg cs ∧ _ ∧ _ := by have := hval 0 33 v0 rfl rfl; rw [Value.okWide, Tryz.underlying33] at this; exact this
 obtain ⟨x, _, g0⟩ := rd33 _ (TR.of h0)
 refine (Con.holds (w := W) (nobodyOk x) (ys := [_]) rfl fun j c y e1 e2 => ?_).mono fun e W' ⟨he, hg⟩ => ?_
 ·match j, e1, e2 with
  | 0, e1, e2 => simp at e1 e2; subst e1 e2; exact g0.agg
  | k + 1, e1, _ => simp at e1
 ·subst he
  exact ⟨_, rfl, law_post Tryz.laidOut (by kernel_rfl) (by kernel_rfl) Tryz.underlying4 rfl hW' rfl hg⟩
theorem overlayNobody_holds : Rows.OverlayNobodySaid :=
 OpenClaim.holds_of_wide 3 Tryz.f3 rfl rfl rfl rfl rfl rfl rfl ⟨rfl, rfl, rfl, rfl, rfl⟩ rfl rfl rfl rfl rfl (by kernel_rfl) Tryz.func3 (by kernel_rfl)
  (of_decide_eq_true (by kernel_rfl)) (by unfold Func.isWrapper; first | (rw [if_pos (by decide +kernel)]; kernel_rfl) | (rw [if_neg (by decide +kernel)]; exact ⟨rfl, rfl⟩))
  (fun os started H enc _ => overlayNobody_lifted os started H enc)
end Go.Proofs.YtkheephfkbpchaaGreat
