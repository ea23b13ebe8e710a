/-
  streamOnce_holds, part 5 of 5: merged by program from the texts that it needs.
-/
import Derived.Test.YtoijfmfkkmbabaaOnceD
set_option linter.unusedSimpArgs false
set_option linter.unusedVariables false
set_option linter.unnecessarySimpa false
namespace Go.Proofs.Ytoijfmfkkmbabaa
open Go.RowKit
abbrev bools (l : List Bool) : List (List DV) := l.map fun b => [.v (.bool b)]
abbrev strs (l : List (List UInt8)) : List (List DV) := l.map fun s => [.v (.string ⟨s.toArray⟩)]
theorem bools_at {l : List Bool} {i : Nat} {b : Bool} (h : l[i]? = some b) : (bools l)[i]? = some [.v (.bool b)] := by simp [bools, h]
theorem strs_at {l : List (List UInt8)} {i : Nat} {s : List UInt8} (h : l[i]? = some s) : (strs l)[i]? = some [.v (.string ⟨s.toArray⟩)] := by simp [strs, h]
theorem bools_set (l : List Bool) (i : Nat) (b : Bool) : List.set (bools l) i [.v (.bool b)] = bools (l.set i b) := by unfold bools; rw [List.map_set]
theorem strs_set (l : List (List UInt8)) (i : Nat) (s : List UInt8) : List.set (strs l) i [.v (.string ⟨s.toArray⟩)] = strs (l.set i s) := by unfold strs; rw [List.map_set]
def upAt (z : List (List Nat)) (i : Nat) : List Nat := (z[i]?).getD []
def flA (l : List Msg) (z : List (List Nat)) : Nat → Flow
  | 0 => Flow.fresh View.pair
  | i + 1 => match l[i]? with | some m => ((flA l z i).take m).hand (upAt z i) | none => flA l z i
def flB (l : List Msg) (z : List (List Nat)) (i : Nat) : Flow := match l[i]? with | some m => (flA l z i).take m | none => flA l z i
abbrev pN (m : Msg) : Nat := placeN View.pair.members m.src
def cmA (l : List Msg) (z : List (List Nat)) : Nat → List Bool
  | 0 => List.replicate 34 false
  | i + 1 => match l[i]? with | some m => if (flA l z i).takes m then (cmA l z i).set (0 + pN m * 17 + m.n * 1) true else cmA l z i | none => cmA l z i
def fsA (l : List Msg) (z : List (List Nat)) : Nat → List (List UInt8)
  | 0 => List.replicate 34 []
  | i + 1 => match l[i]? with | some m => if (flA l z i).takes m then (fsA l z i).set (0 + pN m * 17 + m.n * 1) m.body else fsA l z i | none => fsA l z i
def outN (l : List Msg) (z : List (List Nat)) (i : Nat) : List Msg := handTo (flB l z i) (upAt z i) 2
def firstN (g : Flow) (u : List Nat) : Nat := endN (streamAt g 0) u 0 - nthN g.handed 0
def nxtL (g : Flow) (u : List Nat) (n : Nat) : List Nat := [nthN g.handed 0 + min n (firstN g u), nthN g.handed 1 + (n - firstN g u)]
def nxA (l : List Msg) (z : List (List Nat)) (i n : Nat) : List Nat := nxtL (flB l z i) (upAt z i) n
structure Once (f : Flow) (c : List Bool) (s : List (List UInt8)) : Prop where
  may : f.may = true
  view : f.view = View.pair
  cl : c.length = 34
  sl : s.length = 34
  came : ∀ (k : Nat) l n, f.streams[k]? = some l → 1 ≤ n → n ≤ 16 → c[0 + k * 17 + n * 1]? = some (decide (0 ≤ findS l n))
  first : ∀ (k : Nat) l (j : Nat) x, f.streams[k]? = some l → l[j]? = some x → s[0 + k * 17 + x.n * 1]? = some x.body
theorem Flow.may_ok {f : Flow} (h : f.may = true) : f.Ok := by unfold Flow.may at h; exact @of_decide_eq_true _ (Classical.propDecidable _) h
theorem Flow.ok_may {f : Flow} (h : f.Ok) : f.may = true := by unfold Flow.may; exact @decide_eq_true _ (Classical.propDecidable _) h
theorem find_iff {l : List Slot} {n : Nat} : 0 ≤ findS l n ↔ ∃ x ∈ l, x.n = n := by
  constructor
  · intro h
    have := findS_mem h
    rw [List.mem_map] at this
    exact this
  · rintro ⟨x, hx, rfl⟩
    unfold findS
    exact idx_mem (List.mem_map_of_mem hx)
theorem find_get {l : List Slot} {n : Nat} (h : 0 ≤ findS l n) : ∃ x : Slot, l[(findS l n).toNat]? = some x ∧ x.n = n := by
  unfold findS at h ⊢
  obtain ⟨i, h1, h2⟩ := idx_some h
  rw [List.getElem?_map] at h2
  cases hx : l[i]? with
  | none => rw [hx] at h2; cases h2
  | some x =>
    rw [hx] at h2; simp at h2
    refine ⟨x, ?_, h2⟩
    rw [h1]; simpa using hx
theorem good_iff {l : List Slot} : Good l l.length ↔ (∀ x ∈ l, 1 ≤ x.n ∧ x.n ≤ 16 ∧ x.body.length ≤ 64) ∧ l.Pairwise fun x y => x.n < y.n := by
  constructor
  · intro g
    refine ⟨fun x hx => ?_, ?_⟩
    · obtain ⟨i, hi, rfl⟩ := List.getElem_of_mem hx
      obtain ⟨h1, h2, h3, -⟩ := g i _ hi (List.getElem?_eq_getElem hi)
      exact ⟨h1, h2, h3⟩
    · rw [List.pairwise_iff_getElem]
      intro i j hi hj hij
      exact good_lt g (List.getElem?_eq_getElem hi) (List.getElem?_eq_getElem hj) hij
  · rintro ⟨h1, h2⟩ k x hk hx
    obtain ⟨a, b, c⟩ := h1 x (List.mem_of_getElem? hx)
    refine ⟨a, b, c, fun y h0 hy => ?_⟩
    rw [List.pairwise_iff_getElem] at h2
    obtain ⟨e1, rfl⟩ := List.getElem?_eq_some_iff.1 hx
    obtain ⟨e2, rfl⟩ := List.getElem?_eq_some_iff.1 hy
    exact h2 _ _ e2 e1 (by omega)
theorem ins_mem {l : List Slot} {n : Nat} {b : List UInt8} (hf : findS l n < 0) {x : Slot} : x ∈ insF l n b ↔ x = ⟨n, b⟩ ∨ x ∈ l := by
  rw [insF_at hf]
  conv => rhs; rw [← List.take_append_drop (fromN l n) l]
  simp only [List.mem_append, List.mem_singleton]
  constructor
  · rintro (h | h | h)
    · exact .inr (.inl h)
    · exact .inl h
    · exact .inr (.inr h)
  · rintro (h | h | h)
    · exact .inr (.inl h)
    · exact .inl h
    · exact .inr (.inr h)
theorem ins_good {l : List Slot} {n : Nat} {b : List UInt8} (g : Good l l.length) (hf : findS l n < 0) (h1 : 1 ≤ n) (h2 : n ≤ 16) (h3 : b.length ≤ 64) : Good (insF l n b) (insF l n b).length := by
  obtain ⟨g1, g2⟩ := good_iff.1 g
  refine good_iff.2 ⟨fun x hx => ?_, ?_⟩
  · rcases (ins_mem hf).1 hx with rfl | hx
    · exact ⟨h1, h2, h3⟩
    · exact g1 x hx
  · have ne : ∀ x ∈ l, x.n ≠ n := fun x hx e => by have := find_iff.2 ⟨x, hx, e⟩; omega
    have lo : ∀ x ∈ l.take (fromN l n), x.n < n := by
      intro x hx
      obtain ⟨j, hj, rfl⟩ := List.getElem_of_mem hx
      rw [List.length_take] at hj
      rcases fromN_cases l n with ⟨-, h⟩ | ⟨y, -, -, h⟩
      · exact h j _ (by rw [List.getElem_take]; exact List.getElem?_eq_getElem (by omega))
      · exact h j _ (by omega) (by rw [List.getElem_take]; exact List.getElem?_eq_getElem (by omega))
    have hi : ∀ x ∈ l.drop (fromN l n), n < x.n := by
      intro x hx
      have hm := List.mem_of_mem_drop hx
      obtain ⟨j, hj, rfl⟩ := List.getElem_of_mem hx
      rw [List.length_drop] at hj
      rcases fromN_cases l n with ⟨h, -⟩ | ⟨y, hy, hn, -⟩
      · omega
      · have := ne _ hm
        rw [List.getElem_drop] at this ⊢
        rcases Nat.eq_zero_or_pos j with rfl | hp
        · obtain ⟨e1, e2⟩ := List.getElem?_eq_some_iff.1 hy
          simp only [Nat.add_zero] at this ⊢
          rw [e2] at this ⊢; omega
        · have := good_lt g hy (List.getElem?_eq_getElem (show fromN l n + j < l.length by omega)) (by omega)
          omega
    rw [insF_at hf]
    rw [← List.take_append_drop (fromN l n) l, List.pairwise_append] at g2
    obtain ⟨p1, p2, p3⟩ := g2
    rw [List.pairwise_append]
    refine ⟨p1, ?_, ?_⟩
    · rw [List.pairwise_append]
      refine ⟨List.pairwise_singleton _ _, p2, fun x hx y hy => ?_⟩
      rw [List.mem_singleton] at hx; subst hx; exact hi y hy
    · intro x hx y hy
      rcases List.mem_append.1 hy with hy | hy
      · rw [List.mem_singleton] at hy; subst hy; exact lo x hx
      · exact p3 x hx y hy
theorem ins_count {l : List Slot} {n : Nat} {b : List UInt8} (hf : findS l n < 0) : countS l ≤ countS (insF l n b) := by
  rcases Nat.lt_or_ge (countS (insF l n b)) (countS l) with h | h
  · exfalso
    obtain ⟨x, hx, e⟩ := find_iff.1 (count_find h)
    have := find_iff.2 ⟨x, (ins_mem (b := b) hf).2 (.inr hx), e⟩
    have := count_none (l := insF l n b)
    omega
  · exact h
theorem Flow.may_two {f : Flow} (h : f.may = true) (hv : f.view = View.pair) : ∃ l0 l1 h0 h1, f.streams = [l0, l1] ∧ f.handed = [h0, h1] ∧ Good l0 l0.length ∧ Good l1 l1.length ∧ h0 ≤ countS l0 ∧ h1 ≤ countS l1 := by
  obtain ⟨-, hs, hh, ok⟩ := Flow.may_ok h
  rw [hv] at hs hh
  match hS : f.streams, hH : f.handed, hs, hh with
  | [l0, l1], [h0, h1], _, _ =>
    rw [hS, hH] at ok
    obtain ⟨a1, a2⟩ := ok 0 l0 h0 rfl rfl
    obtain ⟨b1, b2⟩ := ok 1 l1 h1 rfl rfl
    exact ⟨l0, l1, h0, h1, rfl, rfl, a1, b1, a2, b2⟩
theorem Flow.two_may {f : Flow} (hv : f.view = View.pair) {l0 l1 : List Slot} {h0 h1 : Nat} (hs : f.streams = [l0, l1]) (hh : f.handed = [h0, h1]) (g0 : Good l0 l0.length) (g1 : Good l1 l1.length) (c0 : h0 ≤ countS l0) (c1 : h1 ≤ countS l1) : f.may = true := by
  refine Flow.ok_may ⟨by rw [hv]; decide, by rw [hv, hs]; rfl, by rw [hv, hh]; rfl, fun i l h e1 e2 => ?_⟩
  rw [hs] at e1; rw [hh] at e2
  match i with
  | 0 => simp at e1 e2; subst e1 e2; exact ⟨g0, c0⟩
  | 1 => simp at e1 e2; subst e1 e2; exact ⟨g1, c1⟩
  | i + 2 => simp at e1
theorem Once.bounded {f : Flow} {c : List Bool} {s : List (List UInt8)} (o : Once f c s) : f.bounded := by
  obtain ⟨l0, l1, h0, h1, e1, e2, g0, g1, -, -⟩ := Flow.may_two o.may o.view
  refine ⟨by rw [o.view]; exact ⟨by decide, by decide⟩, by rw [e1]; simp, by rw [e2]; simp, fun l hl => ?_⟩
  have g : Good l l.length := by rw [e1] at hl; simp at hl; rcases hl with rfl | rfl <;> assumption
  refine ⟨by have := good_len g; omega, fun x hx => ?_⟩
  have := ((good_iff.1 g).1 x hx).2.2
  omega
theorem Once.owned {f : Flow} {c : List Bool} {s : List (List UInt8)} (o : Once f c s) : f.owned = f := Flow.owned_yes o.may
theorem pN_lt {m : Msg} (h : placeB View.pair.members m.src = true) : pN m < 2 := placeN_lt h
theorem Once.taken {f : Flow} {c : List Bool} {s : List (List UInt8)} (o : Once f c s) {m : Msg} (h : f.takes m) : placeB View.pair.members m.src = true ∧ pN m < 2 ∧ 1 ≤ m.n ∧ m.n ≤ 16 ∧ m.body.length ≤ 64 ∧ c[0 + pN m * 17 + m.n * 1]? = some false := by
  obtain ⟨h1, h2, h3, h4, h5⟩ := id h
  rw [o.view] at h1 h5
  have hp := pN_lt h1
  obtain ⟨l0, l1, a0, a1, e1, -⟩ := Flow.may_two o.may o.view
  have e : f.streams[pN m]? = some (streamAt f (pN m)) := by
    unfold streamAt; rw [e1]; match pN m, hp with | 0, _ => rfl | 1, _ => rfl
  refine ⟨h1, hp, h2, h3, h4, ?_⟩
  rw [o.came _ _ m.n e h2 h3, decide_eq_false]
  show ¬ 0 ≤ findS (streamAt f (placeN View.pair.members m.src)) m.n
  omega
theorem Once.untaken {f : Flow} {c : List Bool} {s : List (List UInt8)} (o : Once f c s) {m : Msg} (h : ¬ f.takes m) (h1 : placeB View.pair.members m.src = true) (h2 : 1 ≤ m.n) (h3 : m.n ≤ 16) (h4 : m.body.length ≤ 64) : c[0 + pN m * 17 + m.n * 1]? = some true := by
  have hp := pN_lt h1
  obtain ⟨l0, l1, a0, a1, e1, -⟩ := Flow.may_two o.may o.view
  have e : f.streams[pN m]? = some (streamAt f (pN m)) := by
    unfold streamAt; rw [e1]; match pN m, hp with | 0, _ => rfl | 1, _ => rfl
  rw [o.came _ _ m.n e h2 h3, decide_eq_true]
  refine Classical.byContradiction fun k => h ⟨by rw [o.view]; exact h1, h2, h3, h4, ?_⟩
  rw [o.view]
  show findS (streamAt f (pN m)) m.n < 0
  omega
theorem Once.put {f : Flow} {c : List Bool} {s : List (List UInt8)} (o : Once f c s) {m : Msg} (h : f.takes m) : Once (f.put m) (c.set (0 + pN m * 17 + m.n * 1) true) (s.set (0 + pN m * 17 + m.n * 1) m.body) := by
  obtain ⟨hp, hlt, h2, h3, h4, -⟩ := o.taken h
  obtain ⟨-, -, -, -, h5⟩ := id h
  rw [o.view] at h5
  have hk : ∃ l, f.streams[pN m]? = some l ∧ findS l m.n < 0 ∧ (f.put m).streams = f.streams.set (pN m) (insF l m.n m.body) := by
    obtain ⟨l0, l1, a0, a1, e1, -⟩ := Flow.may_two o.may o.view
    have e : f.streams[pN m]? = some (streamAt f (pN m)) := by
      unfold streamAt; rw [e1]; match pN m, hlt with | 0, _ => rfl | 1, _ => rfl
    exact ⟨_, e, h5, by unfold Flow.put; rw [o.view]⟩
  obtain ⟨l, hl, hf, hs⟩ := hk
  have hpl := (List.getElem?_eq_some_iff.1 hl).1
  obtain ⟨-, ok1, ok2, ok3⟩ := Flow.may_ok o.may
  refine ⟨?_, o.view, by simp [o.cl], by simp [o.sl], ?_, ?_⟩
  · refine Flow.ok_may ⟨by show f.view.may = true; exact (Flow.may_ok o.may).1, by rw [hs, List.length_set]; exact ok1, ok2, fun i l' h' e1 e2 => ?_⟩
    rw [hs, List.getElem?_set] at e1
    have e2' : f.handed[i]? = some h' := e2
    split at e1
    · rename_i hi; subst hi
      cases e1
      obtain ⟨g, hc⟩ := ok3 _ l h' hl e2'
      exact ⟨ins_good g hf h2 h3 h4, Nat.le_trans hc (ins_count hf)⟩
    · exact ok3 i l' h' e1 e2'
  · intro k l' n e1 n1 n2
    rw [hs, List.getElem?_set] at e1
    split at e1
    · rename_i hi; subst hi
      cases e1
      by_cases hn : n = m.n
      · subst hn
        rw [List.getElem?_set_self (by rw [o.cl]; omega), decide_eq_true]
        exact find_iff.2 ⟨⟨m.n, m.body⟩, (ins_mem hf).2 (.inl rfl), rfl⟩
      · rw [List.getElem?_set_ne (by omega), o.came _ l n hl n1 n2]
        congr 1
        rw [decide_eq_decide, find_iff, find_iff]
        constructor
        · rintro ⟨x, hx, e⟩; exact ⟨x, (ins_mem hf).2 (.inr hx), e⟩
        · rintro ⟨x, hx, e⟩
          rcases (ins_mem hf).1 hx with rfl | hx
          · exact absurd e.symm hn
          · exact ⟨x, hx, e⟩
    · rename_i hi
      rw [List.getElem?_set_ne (by omega)]
      exact o.came k l' n e1 n1 n2
  · intro k l' j x e1 e2
    rw [hs, List.getElem?_set] at e1
    split at e1
    · rename_i hi; subst hi
      cases e1
      rcases (ins_mem hf).1 (List.mem_of_getElem? e2) with rfl | hx
      · rw [List.getElem?_set_self (by rw [o.sl]; omega)]
      · have hn : x.n ≠ m.n := fun e => by have := find_iff.2 ⟨x, hx, e⟩; omega
        obtain ⟨j', hj', rfl⟩ := List.getElem_of_mem hx
        rw [List.getElem?_set_ne (by omega)]
        exact o.first _ l j' _ hl (List.getElem?_eq_getElem hj')
    · rename_i hi
      have hx : x.n ≤ 16 := by
        have e3 : k < f.handed.length := by have := (List.getElem?_eq_some_iff.1 e1).1; omega
        obtain ⟨g, -⟩ := ok3 k l' _ e1 (List.getElem?_eq_getElem e3)
        exact ((good_iff.1 g).1 x (List.mem_of_getElem? e2)).2.1
      rw [List.getElem?_set_ne (by omega)]
      exact o.first k l' j x e1 e2
theorem Once.hand {f : Flow} {c : List Bool} {s : List (List UInt8)} (o : Once f c s) (u : List Nat) : Once (f.hand u) c s := by
  obtain ⟨l0, l1, h0, h1, e1, e2, g0, g1, c0, c1⟩ := Flow.may_two o.may o.view
  have e3 : (f.hand u).handed = [max h0 (endN l0 u 0), max h1 (endN l1 u 1)] := by
    show newH f u f.streams.length = _
    rw [e1]
    show newH f u 2 = _
    rw [newH_next (i := 1) (l := l1) (h := h1) (by rw [e1]; rfl) (by rw [e2]; rfl), newH_next (i := 0) (l := l0) (h := h0) (by rw [e1]; rfl) (by rw [e2]; rfl)]
    show ((f.handed.set 0 _).set 1 _) = _
    rw [e2]; rfl
  refine ⟨Flow.two_may (f := f.hand u) o.view (l0 := l0) (l1 := l1) e1 e3 g0 g1 ?_ ?_, o.view, o.cl, o.sl, o.came, o.first⟩
  · have := endN_le l0 u 0; omega
  · have := endN_le l1 u 1; omega
theorem hand_two {f : Flow} {l0 l1 : List Slot} {h0 h1 : Nat} (hv : f.view = View.pair) (e1 : f.streams = [l0, l1]) (e2 : f.handed = [h0, h1]) (u : List Nat) : handTo f u 2 = handRow ⟨5, 2⟩ l0 h0 (endN l0 u 0 - h0) ++ handRow ⟨6, 1⟩ l1 h1 (endN l1 u 1 - h1) := by
  rw [handTo_next (i := 1) (l := l1) (p := ⟨6, 1⟩) (h := h1) (by rw [e1]; rfl) (by rw [hv]; rfl) (by rw [e2]; rfl), handTo_next (i := 0) (l := l0) (p := ⟨5, 2⟩) (h := h0) (by rw [e1]; rfl) (by rw [hv]; rfl) (by rw [e2]; rfl)]
  rfl
theorem nxtL_zero {f : Flow} {c : List Bool} {s : List (List UInt8)} (o : Once f c s) (u : List Nat) : f.handed = nxtL f u 0 := by
  obtain ⟨l0, l1, h0, h1, e1, e2, -⟩ := Flow.may_two o.may o.view
  unfold nxtL; rw [e2]; simp [nthN]
theorem nxtL_all {f : Flow} {c : List Bool} {s : List (List UInt8)} (o : Once f c s) (u : List Nat) : nxtL f u (handTo f u 2).length = (f.hand u).handed := by
  obtain ⟨l0, l1, h0, h1, e1, e2, -⟩ := Flow.may_two o.may o.view
  have e3 : (f.hand u).handed = [max h0 (endN l0 u 0), max h1 (endN l1 u 1)] := by
    show newH f u f.streams.length = _
    rw [e1]
    show newH f u 2 = _
    rw [newH_next (i := 1) (l := l1) (h := h1) (by rw [e1]; rfl) (by rw [e2]; rfl), newH_next (i := 0) (l := l0) (h := h0) (by rw [e1]; rfl) (by rw [e2]; rfl)]
    show ((f.handed.set 0 _).set 1 _) = _
    rw [e2]; rfl
  rw [e3, hand_two o.view e1 e2, List.length_append, handRow_len, handRow_len]
  have s0 : streamAt f 0 = l0 := streamAt_get (by rw [e1]; rfl)
  have n0 : nthN f.handed 0 = h0 := by rw [e2]; rfl
  have n1 : nthN f.handed 1 = h1 := by rw [e2]; rfl
  unfold nxtL firstN
  rw [s0, n0, n1]
  congr 1
  · omega
  · congr 1; omega
theorem handRow_at {p : Proc} {l : List Slot} {h k n : Nat} {x : Msg} (hx : (handRow p l h k)[n]? = some x) : n < k ∧ x = msgAt p l (h + 1 + n) := by
  unfold handRow at hx
  rw [List.getElem?_map] at hx
  have hn : n < k := by
    rcases Nat.lt_or_ge n k with h | h
    · exact h
    · rw [List.getElem?_eq_none (by simpa using h)] at hx; cases hx
  rw [List.getElem?_range hn] at hx
  simp at hx
  exact ⟨hn, hx.symm⟩
theorem msgAt_law {l : List Slot} (g : Good l l.length) {p : Proc} {n : Nat} (h1 : 1 ≤ n) (h2 : n ≤ countS l) : n ≤ 16 ∧ ∃ (j : Nat) (x : Slot), l[j]? = some x ∧ x.n = n ∧ 0 ≤ findS l n ∧ x.body.length ≤ 64 ∧ msgAt p l n = ⟨p, n, x.body⟩ := by
  have hf : 0 ≤ findS l n := by have := count_find (l := l) (k := n - 1) (by omega); rwa [show n - 1 + 1 = n by omega] at this
  obtain ⟨x, hx, e⟩ := find_get hf
  have := (good_iff.1 g).1 x (List.mem_of_getElem? hx)
  refine ⟨by have := count_16 g; omega, _, x, hx, e, hf, this.2.2, ?_⟩
  unfold msgAt; rw [hx]; rfl
theorem Once.out {f : Flow} {c : List Bool} {s : List (List UInt8)} (o : Once f c s) {u : List Nat} {n : Nat} {x : Msg} (hx : (handTo f u 2)[n]? = some x) : placeB View.pair.members x.src = true ∧ pN x < 2 ∧ 1 ≤ x.n ∧ x.n ≤ 16 ∧ x.body.length ≤ 64 ∧
    (nxtL f u n)[0 + pN x * 1]? = some (x.n - 1) ∧ c[0 + pN x * 17 + x.n * 1]? = some true ∧ s[0 + pN x * 17 + x.n * 1]? = some x.body ∧ (nxtL f u n).set (0 + pN x * 1) x.n = nxtL f u (n + 1) := by
  obtain ⟨l0, l1, h0, h1, e1, e2, g0, g1, c0, c1⟩ := Flow.may_two o.may o.view
  have s0 : streamAt f 0 = l0 := streamAt_get (by rw [e1]; rfl)
  have n0 : nthN f.handed 0 = h0 := by rw [e2]; rfl
  have n1 : nthN f.handed 1 = h1 := by rw [e2]; rfl
  have m0 := endN_le l0 u 0
  have m1 := endN_le l1 u 1
  rw [hand_two o.view e1 e2] at hx
  have k0 : nxtL f u n = [h0 + min n (endN l0 u 0 - h0), h1 + (n - (endN l0 u 0 - h0))] := by unfold nxtL firstN; rw [s0, n0, n1]
  have k1 : nxtL f u (n + 1) = [h0 + min (n + 1) (endN l0 u 0 - h0), h1 + (n + 1 - (endN l0 u 0 - h0))] := by unfold nxtL firstN; rw [s0, n0, n1]
  rw [k0, k1]
  rcases Nat.lt_or_ge n (endN l0 u 0 - h0) with h | h
  · rw [List.getElem?_append_left (by rw [handRow_len]; exact h)] at hx
    obtain ⟨-, rfl⟩ := handRow_at hx
    obtain ⟨b1, j, y, hy, e, hf, b2, hm⟩ := msgAt_law (p := ⟨5, 2⟩) g0 (n := h0 + 1 + n) (by omega) (by omega)
    rw [hm]
    have hp : pN ⟨⟨5, 2⟩, h0 + 1 + n, y.body⟩ = 0 := rfl
    rw [hp]
    have a1 := o.came 0 l0 (h0 + 1 + n) (by rw [e1]; rfl) (by omega) b1
    have a2 := o.first 0 l0 j y (by rw [e1]; rfl) hy
    rw [decide_eq_true hf] at a1; rw [e] at a2
    refine ⟨rfl, by omega, by show 1 ≤ h0 + 1 + n; omega, b1, b2, ?_, a1, a2, ?_⟩
    · show some (h0 + min n (endN l0 u 0 - h0)) = some (h0 + 1 + n - 1)
      congr 1; omega
    · show [h0 + 1 + n, h1 + (n - (endN l0 u 0 - h0))] = _
      congr 1
      · omega
      · congr 1; omega
  · rw [List.getElem?_append_right (by rw [handRow_len]; exact h), handRow_len] at hx
    obtain ⟨hn, rfl⟩ := handRow_at hx
    obtain ⟨b1, j, y, hy, e, hf, b2, hm⟩ := msgAt_law (p := ⟨6, 1⟩) g1 (n := h1 + 1 + (n - (endN l0 u 0 - h0))) (by omega) (by omega)
    rw [hm]
    have hp : pN ⟨⟨6, 1⟩, h1 + 1 + (n - (endN l0 u 0 - h0)), y.body⟩ = 1 := rfl
    rw [hp]
    have a1 := o.came 1 l1 _ (by rw [e1]; rfl) (show 1 ≤ h1 + 1 + (n - (endN l0 u 0 - h0)) by omega) b1
    have a2 := o.first 1 l1 j y (by rw [e1]; rfl) hy
    rw [decide_eq_true hf] at a1; rw [e] at a2
    refine ⟨rfl, by omega, by show 1 ≤ h1 + 1 + (n - (endN l0 u 0 - h0)); omega, b1, b2, ?_, a1, a2, ?_⟩
    · show some (h1 + (n - (endN l0 u 0 - h0))) = some (h1 + 1 + (n - (endN l0 u 0 - h0)) - 1)
      congr 1; omega
    · show [h0 + min n (endN l0 u 0 - h0), h1 + 1 + (n - (endN l0 u 0 - h0))] = _
      congr 1
      · omega
      · congr 1; omega
variable {l : List Msg} {z : List (List Nat)} {i : Nat} {m : Msg}
theorem once_zero : Once (flA l z 0) (cmA l z 0) (fsA l z 0) := by
  refine ⟨Flow.two_may (f := Flow.fresh View.pair) rfl (l0 := []) (l1 := []) (h0 := 0) (h1 := 0) rfl rfl (fun k x h => by simp at h) (fun k x h => by simp at h) (by omega) (by omega), rfl, rfl, rfl, ?_, ?_⟩
  · intro k r n e1 n1 n2
    have e1' : ([[], []] : List (List Slot))[k]? = some r := e1
    match k with
    | 0 =>
      simp at e1'; subst e1'
      show (List.replicate 34 false)[_]? = _
      rw [List.getElem?_replicate, if_pos (by omega)]; rfl
    | 1 =>
      simp at e1'; subst e1'
      show (List.replicate 34 false)[_]? = _
      rw [List.getElem?_replicate, if_pos (by omega)]; rfl
    | k + 2 => simp at e1'
  · intro k r j x e1 e2
    have e1' : ([[], []] : List (List Slot))[k]? = some r := e1
    match k with
    | 0 => simp at e1'; subst e1'; simp at e2
    | 1 => simp at e1'; subst e1'; simp at e2
    | k + 2 => simp at e1'
theorem flB_at (h : l[i]? = some m) : flB l z i = (flA l z i).take m := by unfold flB; rw [h]
theorem flA_next (h : l[i]? = some m) : flA l z (i + 1) = (flB l z i).hand (upAt z i) := by rw [flA, flB_at h, h]
theorem cmA_yes (h : l[i]? = some m) (ht : (flA l z i).takes m) : cmA l z (i + 1) = (cmA l z i).set (0 + pN m * 17 + m.n * 1) true := by rw [cmA, h]; exact if_pos ht
theorem cmA_no (h : l[i]? = some m) (ht : ¬ (flA l z i).takes m) : cmA l z (i + 1) = cmA l z i := by rw [cmA, h]; exact if_neg ht
theorem fsA_yes (h : l[i]? = some m) (ht : (flA l z i).takes m) : fsA l z (i + 1) = (fsA l z i).set (0 + pN m * 17 + m.n * 1) m.body := by rw [fsA, h]; exact if_pos ht
theorem fsA_no (h : l[i]? = some m) (ht : ¬ (flA l z i).takes m) : fsA l z (i + 1) = fsA l z i := by rw [fsA, h]; exact if_neg ht
theorem once_take (h : l[i]? = some m) (o : Once (flA l z i) (cmA l z i) (fsA l z i)) : Once (flB l z i) (cmA l z (i + 1)) (fsA l z (i + 1)) := by
  rw [flB_at h]
  by_cases ht : (flA l z i).takes m
  · rw [cmA_yes h ht, fsA_yes h ht, Flow.take_yes ht]; exact o.put ht
  · rw [cmA_no h ht, fsA_no h ht, Flow.take_no ht]; exact o
theorem once_hand (h : l[i]? = some m) (o : Once (flB l z i) (cmA l z (i + 1)) (fsA l z (i + 1))) : Once (flA l z (i + 1)) (cmA l z (i + 1)) (fsA l z (i + 1)) := by
  rw [flA_next h]; exact o.hand _
theorem flB_handed (h : l[i]? = some m) : (flB l z i).handed = (flA l z i).handed := by
  rw [flB_at h]; unfold Flow.take; split <;> rfl
theorem outN_len (o : Once (flB l z i) (cmA l z (i + 1)) (fsA l z (i + 1))) : (outN l z i).length ≤ 32 := by
  refine handTo_len (f := flB l z i) (fun k r h e1 e2 => ?_) 2
  exact ((Flow.may_ok o.may).2.2.2 k r h e1 e2).1
theorem upAt_len (hz : ∀ s ∈ z, s.length ≤ 9223372036854775807) : (upAt z i).length ≤ 9223372036854775807 := by
  unfold upAt
  cases h : z[i]? with
  | none => simp
  | some s => exact hz s (List.mem_of_getElem? h)
end Go.Proofs.Ytoijfmfkkmbabaa
namespace Go.Proofs.Ytoijfmfkkmbabaa
open Go.RowKit
abbrev uptos (z : List (List Nat)) : List (List DV) := z.map fun s => [.ro 1 (nums s)]
theorem uptos_at {z : List (List Nat)} {i : Nat} {s : List Nat} (h : z[i]? = some s) : (uptos z)[i]? = some [.ro 1 (nums s)] := by simp [uptos, h]
theorem upAt_some {z : List (List Nat)} {i : Nat} {s : List Nat} (h : z[i]? = some s) : upAt z i = s := by simp [upAt, h]
theorem upAt_none {z : List (List Nat)} {i : Nat} (h : ¬ i < z.length) : upAt z i = [] := by simp [upAt, List.getElem?_eq_none (Nat.le_of_not_lt h)]
section
variable {l : List Msg} {z : List (List Nat)} {i : Nat} {m : Msg}
theorem open5 : Con Try.prog 14 [.ag [.u View.pair.id.round, .z View.pair.id.server.node, .u View.pair.id.server.inc, .d (.ro 2 (procs View.pair.members)), .d (.ro 1 (nums View.pair.starts))]] (.ag [.u ((flA l z 0).view.id.round), .z ((flA l z 0).view.id.server.node), .u ((flA l z 0).view.id.server.inc), .em 24 2 (procs (flA l z 0).view.members), .em 22 1 (nums (flA l z 0).view.starts), .em 67 1 (streamsO (flA l z 0).streams), .em 22 1 (nums (flA l z 0).handed)]) := openOk View.pair ⟨by decide, by decide⟩
theorem take5 (h : l[i]? = some m) (o : Once (flA l z i) (cmA l z i) (fsA l z i)) (hm : m.body.length ≤ 500) : Con Try.prog 9 [.ag [.u ((flA l z i).view.id.round), .z ((flA l z i).view.id.server.node), .u ((flA l z i).view.id.server.inc), .d (.ro 2 (procs (flA l z i).view.members)), .d (.ro 1 (nums (flA l z i).view.starts)), .d (.ro 1 (streams (flA l z i).streams)), .d (.ro 1 (nums (flA l z i).handed))], .ag [.z m.src.node, .u m.src.inc, .u m.n, .d (.ro 1 (bytesR m.body))]] (.tu [.ag [.u ((flB l z i).view.id.round), .z ((flB l z i).view.id.server.node), .u ((flB l z i).view.id.server.inc), .em 24 2 (procs (flB l z i).view.members), .em 22 1 (nums (flB l z i).view.starts), .em 67 1 (streams (flB l z i).streams), .em 22 1 (nums (flB l z i).handed)], .v (.bool (decide ((flA l z i).takes m)))]) := by
  have k := takeOk viewMay insertOk (flA l z i) m o.bounded (by omega)
  rw [o.owned] at k; rw [flB_at h]; exact k
theorem hand5 (h : l[i]? = some m) (o : Once (flB l z i) (cmA l z (i + 1)) (fsA l z (i + 1))) {u : List Nat} (hu : upAt z i = u) (hz : ∀ s ∈ z, s.length ≤ 9223372036854775807) : Con Try.prog 16 [.ag [.u ((flB l z i).view.id.round), .z ((flB l z i).view.id.server.node), .u ((flB l z i).view.id.server.inc), .d (.ro 2 (procs (flB l z i).view.members)), .d (.ro 1 (nums (flB l z i).view.starts)), .d (.ro 1 (streams (flB l z i).streams)), .d (.ro 1 (nums (flB l z i).handed))], .d (.ro 1 (nums u))] (.tu [.ag [.u ((flA l z (i + 1)).view.id.round), .z ((flA l z (i + 1)).view.id.server.node), .u ((flA l z (i + 1)).view.id.server.inc), .em 24 2 (procs (flA l z (i + 1)).view.members), .em 22 1 (nums (flA l z (i + 1)).view.starts), .em 67 1 (streams (flA l z (i + 1)).streams), .em 22 1 (nums (flA l z (i + 1)).handed)], .em 36 4 (msgsO (outN l z i))]) := by
  subst hu
  have k := handOk viewMay (flB l z i) (upAt z i) o.bounded (upAt_len hz)
  obtain ⟨l0, l1, h0, h1, e1, -⟩ := Flow.may_two o.may o.view
  rw [o.owned, show (flB l z i).streams.length = 2 by rw [e1]; rfl] at k
  rw [flA_next h]; exact k
theorem may5 {f : Flow} {c : List Bool} {s : List (List UInt8)} (o : Once f c s) : Con Try.prog 12 [.ag [.u f.view.id.round, .z f.view.id.server.node, .u f.view.id.server.inc, .d (.ro 2 (procs f.view.members)), .d (.ro 1 (nums f.view.starts)), .d (.ro 1 (streams f.streams)), .d (.ro 1 (nums f.handed))]] (.v (.bool true)) := by
  have k := flowMay viewMay f o.bounded
  rw [o.may] at k; exact k
theorem place5 (p : Proc) : Con Try.prog 25 [.ag [.u View.pair.id.round, .z View.pair.id.server.node, .u View.pair.id.server.inc, .d (.ro 2 (procs View.pair.members)), .d (.ro 1 (nums View.pair.starts))], .ag [.z p.node, .u p.inc]] (.tu [.n (placeN View.pair.members p), .v (.bool (placeB View.pair.members p))]) := refPlace View.pair p ⟨by decide, by decide⟩
theorem place5t {p : Proc} (h : placeB View.pair.members p = true) : Con Try.prog 25 [.ag [.u View.pair.id.round, .z View.pair.id.server.node, .u View.pair.id.server.inc, .d (.ro 2 (procs View.pair.members)), .d (.ro 1 (nums View.pair.starts))], .ag [.z p.node, .u p.inc]] (.tu [.n (placeN View.pair.members p), .v (.bool true)]) := by have k := place5 p; rw [h] at k; exact k
theorem once_first (h : l[i]? = some m) (o : Once (flA l z i) (cmA l z i) (fsA l z i)) (h1 : placeB View.pair.members m.src = true) (h2 : m.n ≤ 16) : ∃ s, (fsA l z i)[0 + placeN View.pair.members m.src * 17 + m.n * 1]? = some s := ⟨_, List.getElem?_eq_getElem (by have k : placeN View.pair.members m.src < 2 := pN_lt h1; rw [o.sl]; omega)⟩
end
set_option maxRecDepth 100000 in
theorem onceLaw (l : List Msg) (z : List (List Nat)) (hl : l.length ≤ 9223372036854775807) (hz : z.length ≤ 9223372036854775807) (hzb : ∀ s ∈ z, s.length ≤ 9223372036854775807) : Con Try.prog 5 [.d (.ro 4 (msgs l)), .d (.ro 1 (uptos z))] (.v (.bool true)) := by
  refine Con.intro (by kernel_rfl) rfl rfl 176 rfl rfl fun w0 K ac hK r => ?_
  cases h0 : (decide ((120 : Int) < ((l.length : Nat) : Int))) with
  | false =>
    have qh0 := of_decide_eq_false h0
    refine toAt (todo' := aft Try.f5 3) (E' := [(0, .d (.ro 4 (msgs l))), (1, .d (.ro 1 (uptos z))), (4, .d (.v (.bool false))), (5, .pt 2 0)]) (M' := [.rw 24 2 (procs View.pair.members), .rw 22 1 (nums View.pair.starts), .bx 30 [.u View.pair.id.round, .z View.pair.id.server.node, .u View.pair.id.server.inc, .sl 0 ((procs View.pair.members).length), .sl 1 ((nums View.pair.starts).length)]]) tb_ok mixed_ok hK [(1, [(1, .z (((l.length : Nat) : Int))), (2, .b false)]), (3, [(0, .con (.ag [.u View.pair.id.round, .z View.pair.id.server.node, .u View.pair.id.server.inc, .em 24 2 (procs View.pair.members), .em 22 1 (nums View.pair.starts)]))])] 9 [0, 1, 2] [0, 1, 4, 5] r (by kernel_rfl) (an ((by first | rfl | simp [bytesR]) : (((msgs l).length : Nat) : Int) = ((l.length : Nat) : Int)) (an h0 (an (pairOk) trivial))) fun ac wd r => ?_
    have r := r.stay (p1 := []) (p2 := [((procs View.pair.members).length) = (procs View.pair.members).length, ((nums View.pair.starts).length) = (nums View.pair.starts).length]) (E1 := [(0, .d (.ro 4 (msgs l))), (1, .d (.ro 1 (uptos z))), (4, .d (.v (.bool false))), (5, .pt 2 0)]) (M1 := [.rw 24 2 (procs View.pair.members), .rw 22 1 (nums View.pair.starts), .bx 30 [.u View.pair.id.round, .z View.pair.id.server.node, .u View.pair.id.server.inc, .sl 0 ((procs View.pair.members).length), .sl 1 ((nums View.pair.starts).length)]]) (M2 := [.dead, .dead, .bx 30 [.u View.pair.id.round, .z View.pair.id.server.node, .u View.pair.id.server.inc, .d (.ro 2 (frozR (procs View.pair.members))), .d (.ro 1 (frozR (nums View.pair.starts)))]]) (E2 := [(0, .d (.ro 4 (msgs l))), (1, .d (.ro 1 (uptos z))), (4, .d (.v (.bool false))), (5, .pt 2 0)]) (M3 := [.dead, .dead, .bx 30 [.u View.pair.id.round, .z View.pair.id.server.node, .u View.pair.id.server.inc, .d (.ro 2 (procs View.pair.members)), .d (.ro 1 (nums View.pair.starts))]]) [] [(2, 3), (2, 4)] (by kernel_rfl) (by kernel_rfl) trivial (an (rfN ((procs View.pair.members).length)) (an (rfN ((nums View.pair.starts).length)) trivial)) rfl (by simp only [froz_procs, froz_nums, froz_streams, froz_strm, froz_msgs, froz_msgs', froz_slots, froz_slots', froz_bytes, froz_ebytes, froz_enums])
    refine toAt (todo' := aft Try.f5 4) (E' := [(0, .d (.ro 4 (msgs l))), (1, .d (.ro 1 (uptos z))), (4, .d (.v (.bool false))), (5, .pt 2 0), (6, .pt 7 0)]) (M' := [.dead, .dead, .bx 30 [.u View.pair.id.round, .z View.pair.id.server.node, .u View.pair.id.server.inc, .d (.ro 2 (procs View.pair.members)), .d (.ro 1 (nums View.pair.starts))], .rw 24 2 (procs (flA l z 0).view.members), .rw 22 1 (nums (flA l z 0).view.starts), .rw 67 1 (streamsO (flA l z 0).streams), .rw 22 1 (nums (flA l z 0).handed), .bx 33 [.u ((flA l z 0).view.id.round), .z ((flA l z 0).view.id.server.node), .u ((flA l z 0).view.id.server.inc), .sl 3 ((procs (flA l z 0).view.members).length), .sl 4 ((nums (flA l z 0).view.starts).length), .sl 5 ((streamsO (flA l z 0).streams).length), .sl 6 ((nums (flA l z 0).handed).length)]]) tb_ok mixed_ok hK [(4, [(1, .stay [.ag [.u View.pair.id.round, .z View.pair.id.server.node, .u View.pair.id.server.inc, .d (.ro 2 (procs View.pair.members)), .d (.ro 1 (nums View.pair.starts))]] (.ag [.u ((flA l z 0).view.id.round), .z ((flA l z 0).view.id.server.node), .u ((flA l z 0).view.id.server.inc), .em 24 2 (procs (flA l z 0).view.members), .em 22 1 (nums (flA l z 0).view.starts), .em 67 1 (streamsO (flA l z 0).streams), .em 22 1 (nums (flA l z 0).handed)]))])] 2 [0, 1, 2, 3, 4, 5, 6, 7] [0, 1, 4, 5, 6] r (by kernel_rfl) (an (open5 (l := l) (z := z)) (an (rfD (.u View.pair.id.round)) (an (rfD (.z View.pair.id.server.node)) (an (rfD (.u View.pair.id.server.inc)) (an (rfD (.ro 2 (procs View.pair.members))) (an (rfD (.ro 1 (nums View.pair.starts))) trivial)))))) fun ac wd r => ?_
    have r := r.stay (p1 := []) (p2 := [((procs (flA l z 0).view.members).length) = (procs (flA l z 0).view.members).length, ((nums (flA l z 0).view.starts).length) = (nums (flA l z 0).view.starts).length, ((streamsO (flA l z 0).streams).length) = (streamsO (flA l z 0).streams).length, ((nums (flA l z 0).handed).length) = (nums (flA l z 0).handed).length]) (E1 := [(0, .d (.ro 4 (msgs l))), (1, .d (.ro 1 (uptos z))), (4, .d (.v (.bool false))), (5, .pt 2 0), (6, .pt 7 0)]) (M1 := [.dead, .dead, .bx 30 [.u View.pair.id.round, .z View.pair.id.server.node, .u View.pair.id.server.inc, .d (.ro 2 (procs View.pair.members)), .d (.ro 1 (nums View.pair.starts))], .rw 24 2 (procs (flA l z 0).view.members), .rw 22 1 (nums (flA l z 0).view.starts), .rw 67 1 (streamsO (flA l z 0).streams), .rw 22 1 (nums (flA l z 0).handed), .bx 33 [.u ((flA l z 0).view.id.round), .z ((flA l z 0).view.id.server.node), .u ((flA l z 0).view.id.server.inc), .sl 3 ((procs (flA l z 0).view.members).length), .sl 4 ((nums (flA l z 0).view.starts).length), .sl 5 ((streamsO (flA l z 0).streams).length), .sl 6 ((nums (flA l z 0).handed).length)]]) (M2 := [.dead, .dead, .bx 30 [.u View.pair.id.round, .z View.pair.id.server.node, .u View.pair.id.server.inc, .d (.ro 2 (procs View.pair.members)), .d (.ro 1 (nums View.pair.starts))], .dead, .dead, .dead, .dead, .bx 33 [.u ((flA l z 0).view.id.round), .z ((flA l z 0).view.id.server.node), .u ((flA l z 0).view.id.server.inc), .d (.ro 2 (frozR (procs (flA l z 0).view.members))), .d (.ro 1 (frozR (nums (flA l z 0).view.starts))), .d (.ro 1 (frozR (streamsO (flA l z 0).streams))), .d (.ro 1 (frozR (nums (flA l z 0).handed)))]]) (E2 := [(0, .d (.ro 4 (msgs l))), (1, .d (.ro 1 (uptos z))), (4, .d (.v (.bool false))), (5, .pt 2 0), (6, .pt 7 0)]) (M3 := [.dead, .dead, .bx 30 [.u View.pair.id.round, .z View.pair.id.server.node, .u View.pair.id.server.inc, .d (.ro 2 (procs View.pair.members)), .d (.ro 1 (nums View.pair.starts))], .dead, .dead, .dead, .dead, .bx 33 [.u ((flA l z 0).view.id.round), .z ((flA l z 0).view.id.server.node), .u ((flA l z 0).view.id.server.inc), .d (.ro 2 (procs (flA l z 0).view.members)), .d (.ro 1 (nums (flA l z 0).view.starts)), .d (.ro 1 (streams (flA l z 0).streams)), .d (.ro 1 (nums (flA l z 0).handed))]]) [] [(7, 3), (7, 4), (7, 5), (7, 6)] (by kernel_rfl) (by kernel_rfl) trivial (an (rfN ((procs (flA l z 0).view.members).length)) (an (rfN ((nums (flA l z 0).view.starts).length)) (an (rfN ((streamsO (flA l z 0).streams).length)) (an (rfN ((nums (flA l z 0).handed).length)) trivial)))) rfl (by simp only [froz_procs, froz_nums, froz_streams, froz_strm, froz_msgs, froz_msgs', froz_slots, froz_slots', froz_bytes, froz_ebytes, froz_enums])
    refine toAt (todo' := aft Try.f5 7) (E' := [(0, .d (.ro 4 (msgs l))), (1, .d (.ro 1 (uptos z))), (4, .d (.v (.bool false))), (5, .pt 2 0), (6, .pt 7 0), (7, .pt 8 0), (8, .pt 9 0), (9, .pt 10 0)]) (M' := [.dead, .dead, .bx 30 [.u View.pair.id.round, .z View.pair.id.server.node, .u View.pair.id.server.inc, .d (.ro 2 (procs View.pair.members)), .d (.ro 1 (nums View.pair.starts))], .dead, .dead, .dead, .dead, .bx 33 [.u ((flA l z 0).view.id.round), .z ((flA l z 0).view.id.server.node), .u ((flA l z 0).view.id.server.inc), .d (.ro 2 (procs (flA l z 0).view.members)), .d (.ro 1 (nums (flA l z 0).view.starts)), .d (.ro 1 (streams (flA l z 0).streams)), .d (.ro 1 (nums (flA l z 0).handed))], .bx 58 [.d (.v (.string .empty)), .d (.v (.string .empty)), .d (.v (.string .empty)), .d (.v (.string .empty)), .d (.v (.string .empty)), .d (.v (.string .empty)), .d (.v (.string .empty)), .d (.v (.string .empty)), .d (.v (.string .empty)), .d (.v (.string .empty)), .d (.v (.string .empty)), .d (.v (.string .empty)), .d (.v (.string .empty)), .d (.v (.string .empty)), .d (.v (.string .empty)), .d (.v (.string .empty)), .d (.v (.string .empty)), .d (.v (.string .empty)), .d (.v (.string .empty)), .d (.v (.string .empty)), .d (.v (.string .empty)), .d (.v (.string .empty)), .d (.v (.string .empty)), .d (.v (.string .empty)), .d (.v (.string .empty)), .d (.v (.string .empty)), .d (.v (.string .empty)), .d (.v (.string .empty)), .d (.v (.string .empty)), .d (.v (.string .empty)), .d (.v (.string .empty)), .d (.v (.string .empty)), .d (.v (.string .empty)), .d (.v (.string .empty))], .bx 60 [.d (.v (.bool false)), .d (.v (.bool false)), .d (.v (.bool false)), .d (.v (.bool false)), .d (.v (.bool false)), .d (.v (.bool false)), .d (.v (.bool false)), .d (.v (.bool false)), .d (.v (.bool false)), .d (.v (.bool false)), .d (.v (.bool false)), .d (.v (.bool false)), .d (.v (.bool false)), .d (.v (.bool false)), .d (.v (.bool false)), .d (.v (.bool false)), .d (.v (.bool false)), .d (.v (.bool false)), .d (.v (.bool false)), .d (.v (.bool false)), .d (.v (.bool false)), .d (.v (.bool false)), .d (.v (.bool false)), .d (.v (.bool false)), .d (.v (.bool false)), .d (.v (.bool false)), .d (.v (.bool false)), .d (.v (.bool false)), .d (.v (.bool false)), .d (.v (.bool false)), .d (.v (.bool false)), .d (.v (.bool false)), .d (.v (.bool false)), .d (.v (.bool false))], .bx 61 [.d (.v (.int .u64 0)), .d (.v (.int .u64 0))]]) tb_ok mixed_ok hK [] 6 [0, 1, 2, 3, 4, 5, 6, 7, 8, 9, 10] [0, 1, 4, 5, 6, 7, 8, 9] r (by kernel_rfl) trivial fun ac wd r => ?_
    have r := r.rowed (M2 := [.dead, .dead, .bx 30 [.u View.pair.id.round, .z View.pair.id.server.node, .u View.pair.id.server.inc, .d (.ro 2 (procs View.pair.members)), .d (.ro 1 (nums View.pair.starts))], .dead, .dead, .dead, .dead, .bx 33 [.u ((flA l z 0).view.id.round), .z ((flA l z 0).view.id.server.node), .u ((flA l z 0).view.id.server.inc), .d (.ro 2 (procs (flA l z 0).view.members)), .d (.ro 1 (nums (flA l z 0).view.starts)), .d (.ro 1 (streams (flA l z 0).streams)), .d (.ro 1 (nums (flA l z 0).handed))], .rw 58 1 ([[.v (.string .empty)], [.v (.string .empty)], [.v (.string .empty)], [.v (.string .empty)], [.v (.string .empty)], [.v (.string .empty)], [.v (.string .empty)], [.v (.string .empty)], [.v (.string .empty)], [.v (.string .empty)], [.v (.string .empty)], [.v (.string .empty)], [.v (.string .empty)], [.v (.string .empty)], [.v (.string .empty)], [.v (.string .empty)], [.v (.string .empty)], [.v (.string .empty)], [.v (.string .empty)], [.v (.string .empty)], [.v (.string .empty)], [.v (.string .empty)], [.v (.string .empty)], [.v (.string .empty)], [.v (.string .empty)], [.v (.string .empty)], [.v (.string .empty)], [.v (.string .empty)], [.v (.string .empty)], [.v (.string .empty)], [.v (.string .empty)], [.v (.string .empty)], [.v (.string .empty)], [.v (.string .empty)]]), .bx 60 [.d (.v (.bool false)), .d (.v (.bool false)), .d (.v (.bool false)), .d (.v (.bool false)), .d (.v (.bool false)), .d (.v (.bool false)), .d (.v (.bool false)), .d (.v (.bool false)), .d (.v (.bool false)), .d (.v (.bool false)), .d (.v (.bool false)), .d (.v (.bool false)), .d (.v (.bool false)), .d (.v (.bool false)), .d (.v (.bool false)), .d (.v (.bool false)), .d (.v (.bool false)), .d (.v (.bool false)), .d (.v (.bool false)), .d (.v (.bool false)), .d (.v (.bool false)), .d (.v (.bool false)), .d (.v (.bool false)), .d (.v (.bool false)), .d (.v (.bool false)), .d (.v (.bool false)), .d (.v (.bool false)), .d (.v (.bool false)), .d (.v (.bool false)), .d (.v (.bool false)), .d (.v (.bool false)), .d (.v (.bool false)), .d (.v (.bool false)), .d (.v (.bool false))], .bx 61 [.d (.v (.int .u64 0)), .d (.v (.int .u64 0))]]) (E2 := [(0, .d (.ro 4 (msgs l))), (1, .d (.ro 1 (uptos z))), (4, .d (.v (.bool false))), (5, .pt 2 0), (6, .pt 7 0), (7, .ep 8 1 (0) 0), (8, .pt 9 0), (9, .pt 10 0)]) (M3 := [.dead, .dead, .bx 30 [.u View.pair.id.round, .z View.pair.id.server.node, .u View.pair.id.server.inc, .d (.ro 2 (procs View.pair.members)), .d (.ro 1 (nums View.pair.starts))], .dead, .dead, .dead, .dead, .bx 33 [.u ((flA l z 0).view.id.round), .z ((flA l z 0).view.id.server.node), .u ((flA l z 0).view.id.server.inc), .d (.ro 2 (procs (flA l z 0).view.members)), .d (.ro 1 (nums (flA l z 0).view.starts)), .d (.ro 1 (streams (flA l z 0).streams)), .d (.ro 1 (nums (flA l z 0).handed))], .rw 58 1 (strs (fsA l z 0)), .bx 60 [.d (.v (.bool false)), .d (.v (.bool false)), .d (.v (.bool false)), .d (.v (.bool false)), .d (.v (.bool false)), .d (.v (.bool false)), .d (.v (.bool false)), .d (.v (.bool false)), .d (.v (.bool false)), .d (.v (.bool false)), .d (.v (.bool false)), .d (.v (.bool false)), .d (.v (.bool false)), .d (.v (.bool false)), .d (.v (.bool false)), .d (.v (.bool false)), .d (.v (.bool false)), .d (.v (.bool false)), .d (.v (.bool false)), .d (.v (.bool false)), .d (.v (.bool false)), .d (.v (.bool false)), .d (.v (.bool false)), .d (.v (.bool false)), .d (.v (.bool false)), .d (.v (.bool false)), .d (.v (.bool false)), .d (.v (.bool false)), .d (.v (.bool false)), .d (.v (.bool false)), .d (.v (.bool false)), .d (.v (.bool false)), .d (.v (.bool false)), .d (.v (.bool false))], .bx 61 [.d (.v (.int .u64 0)), .d (.v (.int .u64 0))]]) 8 (by kernel_rfl) (by kernel_rfl) rfl
    have r := r.rowed (M2 := [.dead, .dead, .bx 30 [.u View.pair.id.round, .z View.pair.id.server.node, .u View.pair.id.server.inc, .d (.ro 2 (procs View.pair.members)), .d (.ro 1 (nums View.pair.starts))], .dead, .dead, .dead, .dead, .bx 33 [.u ((flA l z 0).view.id.round), .z ((flA l z 0).view.id.server.node), .u ((flA l z 0).view.id.server.inc), .d (.ro 2 (procs (flA l z 0).view.members)), .d (.ro 1 (nums (flA l z 0).view.starts)), .d (.ro 1 (streams (flA l z 0).streams)), .d (.ro 1 (nums (flA l z 0).handed))], .rw 58 1 (strs (fsA l z 0)), .rw 60 1 ([[.v (.bool false)], [.v (.bool false)], [.v (.bool false)], [.v (.bool false)], [.v (.bool false)], [.v (.bool false)], [.v (.bool false)], [.v (.bool false)], [.v (.bool false)], [.v (.bool false)], [.v (.bool false)], [.v (.bool false)], [.v (.bool false)], [.v (.bool false)], [.v (.bool false)], [.v (.bool false)], [.v (.bool false)], [.v (.bool false)], [.v (.bool false)], [.v (.bool false)], [.v (.bool false)], [.v (.bool false)], [.v (.bool false)], [.v (.bool false)], [.v (.bool false)], [.v (.bool false)], [.v (.bool false)], [.v (.bool false)], [.v (.bool false)], [.v (.bool false)], [.v (.bool false)], [.v (.bool false)], [.v (.bool false)], [.v (.bool false)]]), .bx 61 [.d (.v (.int .u64 0)), .d (.v (.int .u64 0))]]) (E2 := [(0, .d (.ro 4 (msgs l))), (1, .d (.ro 1 (uptos z))), (4, .d (.v (.bool false))), (5, .pt 2 0), (6, .pt 7 0), (7, .ep 8 1 (0) 0), (8, .ep 9 1 (0) 0), (9, .pt 10 0)]) (M3 := [.dead, .dead, .bx 30 [.u View.pair.id.round, .z View.pair.id.server.node, .u View.pair.id.server.inc, .d (.ro 2 (procs View.pair.members)), .d (.ro 1 (nums View.pair.starts))], .dead, .dead, .dead, .dead, .bx 33 [.u ((flA l z 0).view.id.round), .z ((flA l z 0).view.id.server.node), .u ((flA l z 0).view.id.server.inc), .d (.ro 2 (procs (flA l z 0).view.members)), .d (.ro 1 (nums (flA l z 0).view.starts)), .d (.ro 1 (streams (flA l z 0).streams)), .d (.ro 1 (nums (flA l z 0).handed))], .rw 58 1 (strs (fsA l z 0)), .rw 60 1 (bools (cmA l z 0)), .bx 61 [.d (.v (.int .u64 0)), .d (.v (.int .u64 0))]]) 9 (by kernel_rfl) (by kernel_rfl) rfl
    have r := r.rowed (M2 := [.dead, .dead, .bx 30 [.u View.pair.id.round, .z View.pair.id.server.node, .u View.pair.id.server.inc, .d (.ro 2 (procs View.pair.members)), .d (.ro 1 (nums View.pair.starts))], .dead, .dead, .dead, .dead, .bx 33 [.u ((flA l z 0).view.id.round), .z ((flA l z 0).view.id.server.node), .u ((flA l z 0).view.id.server.inc), .d (.ro 2 (procs (flA l z 0).view.members)), .d (.ro 1 (nums (flA l z 0).view.starts)), .d (.ro 1 (streams (flA l z 0).streams)), .d (.ro 1 (nums (flA l z 0).handed))], .rw 58 1 (strs (fsA l z 0)), .rw 60 1 (bools (cmA l z 0)), .rw 61 1 ([[.v (.int .u64 0)], [.v (.int .u64 0)]])]) (E2 := [(0, .d (.ro 4 (msgs l))), (1, .d (.ro 1 (uptos z))), (4, .d (.v (.bool false))), (5, .pt 2 0), (6, .pt 7 0), (7, .ep 8 1 (0) 0), (8, .ep 9 1 (0) 0), (9, .ep 10 1 (0) 0)]) (M3 := [.dead, .dead, .bx 30 [.u View.pair.id.round, .z View.pair.id.server.node, .u View.pair.id.server.inc, .d (.ro 2 (procs View.pair.members)), .d (.ro 1 (nums View.pair.starts))], .dead, .dead, .dead, .dead, .bx 33 [.u ((flA l z 0).view.id.round), .z ((flA l z 0).view.id.server.node), .u ((flA l z 0).view.id.server.inc), .d (.ro 2 (procs (flA l z 0).view.members)), .d (.ro 1 (nums (flA l z 0).view.starts)), .d (.ro 1 (streams (flA l z 0).streams)), .d (.ro 1 (nums (flA l z 0).handed))], .rw 58 1 (strs (fsA l z 0)), .rw 60 1 (bools (cmA l z 0)), .rw 61 1 (nums (flA l z 0).handed)]) 10 (by kernel_rfl) (by kernel_rfl) rfl
    refine toHead (todo' := hd Try.f5 0) (E' := [(0, .d (.ro 4 (msgs l))), (1, .d (.ro 1 (uptos z))), (5, .pt 0 0), (6, .pt 1 0), (7, .ep 2 1 (0) 0), (8, .ep 3 1 (0) 0), (9, .ep 4 1 (0) 0), (10, .n 0)]) (M' := [.bx 30 [.u View.pair.id.round, .z View.pair.id.server.node, .u View.pair.id.server.inc, .d (.ro 2 (procs View.pair.members)), .d (.ro 1 (nums View.pair.starts))], .bx 33 [.u ((flA l z 0).view.id.round), .z ((flA l z 0).view.id.server.node), .u ((flA l z 0).view.id.server.inc), .d (.ro 2 (procs (flA l z 0).view.members)), .d (.ro 1 (nums (flA l z 0).view.starts)), .d (.ro 1 (streams (flA l z 0).streams)), .d (.ro 1 (nums (flA l z 0).handed))], .rw 58 1 (strs (fsA l z 0)), .rw 60 1 (bools (cmA l z 0)), .rw 61 1 (nums (flA l z 0).handed)]) tb_ok mixed_ok hK [] 2000 [2, 7, 8, 9, 10] [0, 1, 5, 6, 7, 8, 9, 10] r (by kernel_rfl) trivial fun ac wd r => ?_
    refine Goes.rounds (Φ := fun (i : Nat) ac wd => (Once (flA l z i) (cmA l z i) (fsA l z i)) ∧ RE' [] w0 K 176 [(0, .d (.ro 4 (msgs l))), (1, .d (.ro 1 (uptos z))), (5, .pt 0 0), (6, .pt 1 0), (7, .ep 2 1 (0) 0), (8, .ep 3 1 (0) 0), (9, .ep 4 1 (0) 0), (10, .n i)] [.bx 30 [.u View.pair.id.round, .z View.pair.id.server.node, .u View.pair.id.server.inc, .d (.ro 2 (procs View.pair.members)), .d (.ro 1 (nums View.pair.starts))], .bx 33 [.u ((flA l z i).view.id.round), .z ((flA l z i).view.id.server.node), .u ((flA l z i).view.id.server.inc), .d (.ro 2 (procs (flA l z i).view.members)), .d (.ro 1 (nums (flA l z i).view.starts)), .d (.ro 1 (streams (flA l z i).streams)), .d (.ro 1 (nums (flA l z i).handed))], .rw 58 1 (strs (fsA l z i)), .rw 60 1 (bools (cmA l z i)), .rw 61 1 (nums (flA l z i).handed)] ac wd) (l.length) ?_ (Nat.zero_le _) ⟨once_zero, r⟩
    clear r
    rintro i hi0 again0 ac wd ⟨hv0, r⟩
    cases h1 : (decide ((((i : Nat) : Int) : Int) < ((l.length : Nat) : Int))) with
    | false =>
      have qh1 := of_decide_eq_false h1
      exact toRet tb_ok mixed_ok hK rfl [(9, [(2, .z (((l.length : Nat) : Int))), (3, .b false)]), (38, [(0, .con (.v (.bool true)))])] 2000 r (by kernel_rfl) (an ((by first | rfl | simp [bytesR]) : (((msgs l).length : Nat) : Int) = ((l.length : Nat) : Int)) (an h1 (an (awakeOk) trivial)))
    | true =>
      have qh1 := of_decide_eq_true h1
      obtain ⟨e_l_i, ge_l_i⟩ : ∃ x, l[i]? = some x := ⟨_, List.getElem?_eq_getElem (by omega)⟩
      have oG := once_take (z := z) ge_l_i hv0
      have oH := once_hand ge_l_i oG
      have oL := outN_len oG
      refine toAt (todo' := aft Try.f5 11) (E' := [(0, .d (.ro 4 (msgs l))), (1, .d (.ro 1 (uptos z))), (5, .pt 0 0), (6, .pt 1 0), (7, .ep 2 1 (0) 0), (8, .ep 3 1 (0) 0), (9, .ep 4 1 (0) 0), (10, .n i), (31, .n i), (32, .d (.ro 4 (msgs l))), (33, .n l.length), (34, .d (.v (.bool true))), (37, .d (.ro 4 (msgs l))), (38, .n i), (39, .rp [.z e_l_i.src.node, .u e_l_i.src.inc, .u e_l_i.n, .ro 1 (bytesR e_l_i.body)] 0), (40, .ag [.z e_l_i.src.node, .u e_l_i.src.inc, .u e_l_i.n, .d (.ro 1 (bytesR e_l_i.body))]), (11, .pt 5 0)]) (M' := [.bx 30 [.u View.pair.id.round, .z View.pair.id.server.node, .u View.pair.id.server.inc, .d (.ro 2 (procs View.pair.members)), .d (.ro 1 (nums View.pair.starts))], .bx 33 [.u ((flA l z i).view.id.round), .z ((flA l z i).view.id.server.node), .u ((flA l z i).view.id.server.inc), .d (.ro 2 (procs (flA l z i).view.members)), .d (.ro 1 (nums (flA l z i).view.starts)), .d (.ro 1 (streams (flA l z i).streams)), .d (.ro 1 (nums (flA l z i).handed))], .rw 58 1 (strs (fsA l z i)), .rw 60 1 (bools (cmA l z i)), .rw 61 1 (nums (flA l z i).handed), .bx 36 [.z e_l_i.src.node, .u e_l_i.src.inc, .u e_l_i.n, .d (.ro 1 (bytesR e_l_i.body))]]) tb_ok mixed_ok hK [(9, [(2, .z (((l.length : Nat) : Int))), (3, .b true)]), (11, [(2, .ix (i) [.z e_l_i.src.node, .u e_l_i.src.inc, .u e_l_i.n, .ro 1 (bytesR e_l_i.body)])])] 9 [0, 1, 2, 3, 4, 5] [0, 1, 5, 6, 7, 8, 9, 10, 31, 32, 33, 34, 37, 38, 39, 40, 11] r (by kernel_rfl) (an ((by first | rfl | simp [bytesR]) : (((msgs l).length : Nat) : Int) = ((l.length : Nat) : Int)) (an h1 (an (rfI ((i : Nat) : Int)) (an (msgs_at ge_l_i) trivial)))) fun ac wd r => ?_
      suffices J23 : ∀ ac wd, RE' [] w0 K 176 [(0, .d (.ro 4 (msgs l))), (1, .d (.ro 1 (uptos z))), (5, .pt 0 0), (6, .pt 1 0), (7, .ep 2 1 (0) 0), (8, .ep 3 1 (0) 0), (9, .ep 4 1 (0) 0), (10, .n i), (17, .d (.v (.slice none 0 0)))] [.bx 30 [.u View.pair.id.round, .z View.pair.id.server.node, .u View.pair.id.server.inc, .d (.ro 2 (procs View.pair.members)), .d (.ro 1 (nums View.pair.starts))], .bx 33 [.u ((flB l z i).view.id.round), .z ((flB l z i).view.id.server.node), .u ((flB l z i).view.id.server.inc), .d (.ro 2 (procs (flB l z i).view.members)), .d (.ro 1 (nums (flB l z i).view.starts)), .d (.ro 1 (streams (flB l z i).streams)), .d (.ro 1 (nums (flB l z i).handed))], .rw 58 1 (strs (fsA l z (i + 1))), .rw 60 1 (bools (cmA l z (i + 1))), .rw 61 1 (nums (flA l z i).handed)] ac wd → Goes Try.prog 5 (aft Try.f5 23) (RetA w0 K (.v (.bool true))) ac wd by
        cases h2 : (decide ((500 : Int) < ((e_l_i.body.length : Nat) : Int))) with
        | false =>
          have qh2 := of_decide_eq_false h2
          cases h3 : (decide ((flA l z i).takes e_l_i)) with
          | false =>
            have qh3 := of_decide_eq_false h3
            refine toAt (todo' := aft Try.f5 14) (E' := [(0, .d (.ro 4 (msgs l))), (1, .d (.ro 1 (uptos z))), (5, .pt 0 0), (6, .pt 1 0), (7, .ep 2 1 (0) 0), (8, .ep 3 1 (0) 0), (9, .ep 4 1 (0) 0), (10, .n i), (31, .n i), (32, .d (.ro 4 (msgs l))), (33, .n l.length), (34, .d (.v (.bool true))), (37, .d (.ro 4 (msgs l))), (38, .n i), (39, .rp [.z e_l_i.src.node, .u e_l_i.src.inc, .u e_l_i.n, .ro 1 (bytesR e_l_i.body)] 0), (40, .ag [.z e_l_i.src.node, .u e_l_i.src.inc, .u e_l_i.n, .d (.ro 1 (bytesR e_l_i.body))]), (11, .pt 5 0), (41, .pt 5 3), (42, .d (.ro 1 (bytesR e_l_i.body))), (43, .n e_l_i.body.length), (44, .d (.v (.bool false))), (47, .ag [.u ((flA l z i).view.id.round), .z ((flA l z i).view.id.server.node), .u ((flA l z i).view.id.server.inc), .d (.ro 2 (procs (flA l z i).view.members)), .d (.ro 1 (nums (flA l z i).view.starts)), .d (.ro 1 (streams (flA l z i).streams)), .d (.ro 1 (nums (flA l z i).handed))]), (48, .ag [.z e_l_i.src.node, .u e_l_i.src.inc, .u e_l_i.n, .d (.ro 1 (bytesR e_l_i.body))]), (49, .tu [.ag [.u ((flB l z i).view.id.round), .z ((flB l z i).view.id.server.node), .u ((flB l z i).view.id.server.inc), .sl 6 ((procs (flB l z i).view.members).length), .sl 7 ((nums (flB l z i).view.starts).length), .sl 8 ((streams (flB l z i).streams).length), .sl 9 ((nums (flB l z i).handed).length)], .d (.v (.bool false))]), (46, .tu [.ag [.u ((flB l z i).view.id.round), .z ((flB l z i).view.id.server.node), .u ((flB l z i).view.id.server.inc), .sl 6 ((procs (flB l z i).view.members).length), .sl 7 ((nums (flB l z i).view.starts).length), .sl 8 ((streams (flB l z i).streams).length), .sl 9 ((nums (flB l z i).handed).length)], .d (.v (.bool false))]), (50, .ag [.u ((flB l z i).view.id.round), .z ((flB l z i).view.id.server.node), .u ((flB l z i).view.id.server.inc), .sl 6 ((procs (flB l z i).view.members).length), .sl 7 ((nums (flB l z i).view.starts).length), .sl 8 ((streams (flB l z i).streams).length), .sl 9 ((nums (flB l z i).handed).length)]), (51, .d (.v (.bool false))), (12, .pt 10 0), (13, .d (.v (.bool false)))]) (M' := [.bx 30 [.u View.pair.id.round, .z View.pair.id.server.node, .u View.pair.id.server.inc, .d (.ro 2 (procs View.pair.members)), .d (.ro 1 (nums View.pair.starts))], .bx 33 [.u ((flA l z i).view.id.round), .z ((flA l z i).view.id.server.node), .u ((flA l z i).view.id.server.inc), .d (.ro 2 (procs (flA l z i).view.members)), .d (.ro 1 (nums (flA l z i).view.starts)), .d (.ro 1 (streams (flA l z i).streams)), .d (.ro 1 (nums (flA l z i).handed))], .rw 58 1 (strs (fsA l z i)), .rw 60 1 (bools (cmA l z i)), .rw 61 1 (nums (flA l z i).handed), .bx 36 [.z e_l_i.src.node, .u e_l_i.src.inc, .u e_l_i.n, .d (.ro 1 (bytesR e_l_i.body))], .rw 24 2 (procs (flB l z i).view.members), .rw 22 1 (nums (flB l z i).view.starts), .rw 67 1 (streams (flB l z i).streams), .rw 22 1 (nums (flB l z i).handed), .bx 33 [.u ((flB l z i).view.id.round), .z ((flB l z i).view.id.server.node), .u ((flB l z i).view.id.server.inc), .sl 6 ((procs (flB l z i).view.members).length), .sl 7 ((nums (flB l z i).view.starts).length), .sl 8 ((streams (flB l z i).streams).length), .sl 9 ((nums (flB l z i).handed).length)]]) tb_ok mixed_ok hK [(12, [(2, .z (((e_l_i.body.length : Nat) : Int))), (3, .b false)]), (14, [(2, .stay [.ag [.u ((flA l z i).view.id.round), .z ((flA l z i).view.id.server.node), .u ((flA l z i).view.id.server.inc), .d (.ro 2 (procs (flA l z i).view.members)), .d (.ro 1 (nums (flA l z i).view.starts)), .d (.ro 1 (streams (flA l z i).streams)), .d (.ro 1 (nums (flA l z i).handed))], .ag [.z e_l_i.src.node, .u e_l_i.src.inc, .u e_l_i.n, .d (.ro 1 (bytesR e_l_i.body))]] (.tu [.ag [.u ((flB l z i).view.id.round), .z ((flB l z i).view.id.server.node), .u ((flB l z i).view.id.server.inc), .em 24 2 (procs (flB l z i).view.members), .em 22 1 (nums (flB l z i).view.starts), .em 67 1 (streams (flB l z i).streams), .em 22 1 (nums (flB l z i).handed)], .v (.bool false)]))])] 7 [0, 1, 2, 3, 4, 5, 6, 7, 8, 9, 10] [0, 1, 5, 6, 7, 8, 9, 10, 31, 32, 33, 34, 37, 38, 39, 40, 11, 41, 42, 43, 44, 47, 48, 49, 46, 50, 51, 12, 13] r (by kernel_rfl) (an ((by first | rfl | simp [bytesR]) : (((bytesR e_l_i.body).length : Nat) : Int) = ((e_l_i.body.length : Nat) : Int)) (an h2 (an ((by have k := take5 ge_l_i hv0 (by omega); rw [h3] at k; exact k) : Con Try.prog 9 [.ag [.u ((flA l z i).view.id.round), .z ((flA l z i).view.id.server.node), .u ((flA l z i).view.id.server.inc), .d (.ro 2 (procs (flA l z i).view.members)), .d (.ro 1 (nums (flA l z i).view.starts)), .d (.ro 1 (streams (flA l z i).streams)), .d (.ro 1 (nums (flA l z i).handed))], .ag [.z e_l_i.src.node, .u e_l_i.src.inc, .u e_l_i.n, .d (.ro 1 (bytesR e_l_i.body))]] (.tu [.ag [.u ((flB l z i).view.id.round), .z ((flB l z i).view.id.server.node), .u ((flB l z i).view.id.server.inc), .em 24 2 (procs (flB l z i).view.members), .em 22 1 (nums (flB l z i).view.starts), .em 67 1 (streams (flB l z i).streams), .em 22 1 (nums (flB l z i).handed)], .v (.bool false)])) (an (rfD (.u ((flA l z i).view.id.round))) (an (rfD (.z ((flA l z i).view.id.server.node))) (an (rfD (.u ((flA l z i).view.id.server.inc))) (an (rfD (.ro 2 (procs (flA l z i).view.members))) (an (rfD (.ro 1 (nums (flA l z i).view.starts))) (an (rfD (.ro 1 (streams (flA l z i).streams))) (an (rfD (.ro 1 (nums (flA l z i).handed))) (an (rfD (.z e_l_i.src.node)) (an (rfD (.u e_l_i.src.inc)) (an (rfD (.u e_l_i.n)) (an (rfD (.ro 1 (bytesR e_l_i.body))) trivial)))))))))))))) fun ac wd r => ?_
            have r := r.stay (p1 := []) (p2 := [((procs (flB l z i).view.members).length) = (procs (flB l z i).view.members).length, ((nums (flB l z i).view.starts).length) = (nums (flB l z i).view.starts).length, ((streams (flB l z i).streams).length) = (streams (flB l z i).streams).length, ((nums (flB l z i).handed).length) = (nums (flB l z i).handed).length]) (E1 := [(0, .d (.ro 4 (msgs l))), (1, .d (.ro 1 (uptos z))), (5, .pt 0 0), (6, .pt 1 0), (7, .ep 2 1 (0) 0), (8, .ep 3 1 (0) 0), (9, .ep 4 1 (0) 0), (10, .n i), (31, .n i), (32, .d (.ro 4 (msgs l))), (33, .n l.length), (34, .d (.v (.bool true))), (37, .d (.ro 4 (msgs l))), (38, .n i), (39, .rp [.z e_l_i.src.node, .u e_l_i.src.inc, .u e_l_i.n, .ro 1 (bytesR e_l_i.body)] 0), (40, .ag [.z e_l_i.src.node, .u e_l_i.src.inc, .u e_l_i.n, .d (.ro 1 (bytesR e_l_i.body))]), (11, .pt 5 0), (41, .pt 5 3), (42, .d (.ro 1 (bytesR e_l_i.body))), (43, .n e_l_i.body.length), (44, .d (.v (.bool false))), (47, .ag [.u ((flA l z i).view.id.round), .z ((flA l z i).view.id.server.node), .u ((flA l z i).view.id.server.inc), .d (.ro 2 (procs (flA l z i).view.members)), .d (.ro 1 (nums (flA l z i).view.starts)), .d (.ro 1 (streams (flA l z i).streams)), .d (.ro 1 (nums (flA l z i).handed))]), (48, .ag [.z e_l_i.src.node, .u e_l_i.src.inc, .u e_l_i.n, .d (.ro 1 (bytesR e_l_i.body))]), (49, .tu [.ag [.u ((flB l z i).view.id.round), .z ((flB l z i).view.id.server.node), .u ((flB l z i).view.id.server.inc), .sl 6 ((procs (flB l z i).view.members).length), .sl 7 ((nums (flB l z i).view.starts).length), .sl 8 ((streams (flB l z i).streams).length), .sl 9 ((nums (flB l z i).handed).length)], .d (.v (.bool false))]), (46, .tu [.ag [.u ((flB l z i).view.id.round), .z ((flB l z i).view.id.server.node), .u ((flB l z i).view.id.server.inc), .sl 6 ((procs (flB l z i).view.members).length), .sl 7 ((nums (flB l z i).view.starts).length), .sl 8 ((streams (flB l z i).streams).length), .sl 9 ((nums (flB l z i).handed).length)], .d (.v (.bool false))]), (50, .ag [.u ((flB l z i).view.id.round), .z ((flB l z i).view.id.server.node), .u ((flB l z i).view.id.server.inc), .sl 6 ((procs (flB l z i).view.members).length), .sl 7 ((nums (flB l z i).view.starts).length), .sl 8 ((streams (flB l z i).streams).length), .sl 9 ((nums (flB l z i).handed).length)]), (51, .d (.v (.bool false))), (12, .pt 10 0), (13, .d (.v (.bool false)))]) (M1 := [.bx 30 [.u View.pair.id.round, .z View.pair.id.server.node, .u View.pair.id.server.inc, .d (.ro 2 (procs View.pair.members)), .d (.ro 1 (nums View.pair.starts))], .bx 33 [.u ((flA l z i).view.id.round), .z ((flA l z i).view.id.server.node), .u ((flA l z i).view.id.server.inc), .d (.ro 2 (procs (flA l z i).view.members)), .d (.ro 1 (nums (flA l z i).view.starts)), .d (.ro 1 (streams (flA l z i).streams)), .d (.ro 1 (nums (flA l z i).handed))], .rw 58 1 (strs (fsA l z i)), .rw 60 1 (bools (cmA l z i)), .rw 61 1 (nums (flA l z i).handed), .bx 36 [.z e_l_i.src.node, .u e_l_i.src.inc, .u e_l_i.n, .d (.ro 1 (bytesR e_l_i.body))], .rw 24 2 (procs (flB l z i).view.members), .rw 22 1 (nums (flB l z i).view.starts), .rw 67 1 (streams (flB l z i).streams), .rw 22 1 (nums (flB l z i).handed), .bx 33 [.u ((flB l z i).view.id.round), .z ((flB l z i).view.id.server.node), .u ((flB l z i).view.id.server.inc), .sl 6 ((procs (flB l z i).view.members).length), .sl 7 ((nums (flB l z i).view.starts).length), .sl 8 ((streams (flB l z i).streams).length), .sl 9 ((nums (flB l z i).handed).length)]]) (M2 := [.bx 30 [.u View.pair.id.round, .z View.pair.id.server.node, .u View.pair.id.server.inc, .d (.ro 2 (procs View.pair.members)), .d (.ro 1 (nums View.pair.starts))], .bx 33 [.u ((flA l z i).view.id.round), .z ((flA l z i).view.id.server.node), .u ((flA l z i).view.id.server.inc), .d (.ro 2 (procs (flA l z i).view.members)), .d (.ro 1 (nums (flA l z i).view.starts)), .d (.ro 1 (streams (flA l z i).streams)), .d (.ro 1 (nums (flA l z i).handed))], .rw 58 1 (strs (fsA l z i)), .rw 60 1 (bools (cmA l z i)), .rw 61 1 (nums (flA l z i).handed), .bx 36 [.z e_l_i.src.node, .u e_l_i.src.inc, .u e_l_i.n, .d (.ro 1 (bytesR e_l_i.body))], .dead, .dead, .dead, .dead, .bx 33 [.u ((flB l z i).view.id.round), .z ((flB l z i).view.id.server.node), .u ((flB l z i).view.id.server.inc), .d (.ro 2 (frozR (procs (flB l z i).view.members))), .d (.ro 1 (frozR (nums (flB l z i).view.starts))), .d (.ro 1 (frozR (streams (flB l z i).streams))), .d (.ro 1 (frozR (nums (flB l z i).handed)))]]) (E2 := [(0, .d (.ro 4 (msgs l))), (1, .d (.ro 1 (uptos z))), (5, .pt 0 0), (6, .pt 1 0), (7, .ep 2 1 (0) 0), (8, .ep 3 1 (0) 0), (9, .ep 4 1 (0) 0), (10, .n i), (31, .n i), (32, .d (.ro 4 (msgs l))), (33, .n l.length), (34, .d (.v (.bool true))), (37, .d (.ro 4 (msgs l))), (38, .n i), (39, .rp [.z e_l_i.src.node, .u e_l_i.src.inc, .u e_l_i.n, .ro 1 (bytesR e_l_i.body)] 0), (40, .ag [.z e_l_i.src.node, .u e_l_i.src.inc, .u e_l_i.n, .d (.ro 1 (bytesR e_l_i.body))]), (11, .pt 5 0), (41, .pt 5 3), (42, .d (.ro 1 (bytesR e_l_i.body))), (43, .n e_l_i.body.length), (44, .d (.v (.bool false))), (47, .ag [.u ((flA l z i).view.id.round), .z ((flA l z i).view.id.server.node), .u ((flA l z i).view.id.server.inc), .d (.ro 2 (procs (flA l z i).view.members)), .d (.ro 1 (nums (flA l z i).view.starts)), .d (.ro 1 (streams (flA l z i).streams)), .d (.ro 1 (nums (flA l z i).handed))]), (48, .ag [.z e_l_i.src.node, .u e_l_i.src.inc, .u e_l_i.n, .d (.ro 1 (bytesR e_l_i.body))]), (49, .tu [.ag [.u ((flB l z i).view.id.round), .z ((flB l z i).view.id.server.node), .u ((flB l z i).view.id.server.inc), .sl 6 ((procs (flB l z i).view.members).length), .sl 7 ((nums (flB l z i).view.starts).length), .sl 8 ((streams (flB l z i).streams).length), .sl 9 ((nums (flB l z i).handed).length)], .d (.v (.bool false))]), (46, .tu [.ag [.u ((flB l z i).view.id.round), .z ((flB l z i).view.id.server.node), .u ((flB l z i).view.id.server.inc), .sl 6 ((procs (flB l z i).view.members).length), .sl 7 ((nums (flB l z i).view.starts).length), .sl 8 ((streams (flB l z i).streams).length), .sl 9 ((nums (flB l z i).handed).length)], .d (.v (.bool false))]), (50, .ag [.u ((flB l z i).view.id.round), .z ((flB l z i).view.id.server.node), .u ((flB l z i).view.id.server.inc), .sl 6 ((procs (flB l z i).view.members).length), .sl 7 ((nums (flB l z i).view.starts).length), .sl 8 ((streams (flB l z i).streams).length), .sl 9 ((nums (flB l z i).handed).length)]), (51, .d (.v (.bool false))), (12, .pt 10 0), (13, .d (.v (.bool false)))]) (M3 := [.bx 30 [.u View.pair.id.round, .z View.pair.id.server.node, .u View.pair.id.server.inc, .d (.ro 2 (procs View.pair.members)), .d (.ro 1 (nums View.pair.starts))], .bx 33 [.u ((flA l z i).view.id.round), .z ((flA l z i).view.id.server.node), .u ((flA l z i).view.id.server.inc), .d (.ro 2 (procs (flA l z i).view.members)), .d (.ro 1 (nums (flA l z i).view.starts)), .d (.ro 1 (streams (flA l z i).streams)), .d (.ro 1 (nums (flA l z i).handed))], .rw 58 1 (strs (fsA l z i)), .rw 60 1 (bools (cmA l z i)), .rw 61 1 (nums (flA l z i).handed), .bx 36 [.z e_l_i.src.node, .u e_l_i.src.inc, .u e_l_i.n, .d (.ro 1 (bytesR e_l_i.body))], .dead, .dead, .dead, .dead, .bx 33 [.u ((flB l z i).view.id.round), .z ((flB l z i).view.id.server.node), .u ((flB l z i).view.id.server.inc), .d (.ro 2 (procs (flB l z i).view.members)), .d (.ro 1 (nums (flB l z i).view.starts)), .d (.ro 1 (streams (flB l z i).streams)), .d (.ro 1 (nums (flB l z i).handed))]]) [] [(10, 3), (10, 4), (10, 5), (10, 6)] (by kernel_rfl) (by kernel_rfl) trivial (an (rfN ((procs (flB l z i).view.members).length)) (an (rfN ((nums (flB l z i).view.starts).length)) (an (rfN ((streams (flB l z i).streams).length)) (an (rfN ((nums (flB l z i).handed).length)) trivial)))) rfl (by simp only [froz_procs, froz_nums, froz_streams, froz_strm, froz_msgs, froz_msgs', froz_slots, froz_slots', froz_bytes, froz_ebytes, froz_enums])
            cases h4 : (placeB View.pair.members e_l_i.src) with
            | false =>
              refine toAt (todo' := aft Try.f5 23) (E' := [(0, .d (.ro 4 (msgs l))), (1, .d (.ro 1 (uptos z))), (5, .pt 0 0), (6, .pt 1 0), (7, .ep 2 1 (0) 0), (8, .ep 3 1 (0) 0), (9, .ep 4 1 (0) 0), (10, .n i), (17, .d (.v (.slice none 0 0)))]) (M' := [.bx 30 [.u View.pair.id.round, .z View.pair.id.server.node, .u View.pair.id.server.inc, .d (.ro 2 (procs View.pair.members)), .d (.ro 1 (nums View.pair.starts))], .bx 33 [.u ((flB l z i).view.id.round), .z ((flB l z i).view.id.server.node), .u ((flB l z i).view.id.server.inc), .d (.ro 2 (procs (flB l z i).view.members)), .d (.ro 1 (nums (flB l z i).view.starts)), .d (.ro 1 (streams (flB l z i).streams)), .d (.ro 1 (nums (flB l z i).handed))], .rw 58 1 (strs (fsA l z i)), .rw 60 1 (bools (cmA l z i)), .rw 61 1 (nums (flA l z i).handed)]) tb_ok mixed_ok hK [(16, [(3, .con (.tu [.n (placeN View.pair.members e_l_i.src), .v (.bool false)]))])] 18 [0, 1, 2, 3, 4] [0, 1, 5, 6, 7, 8, 9, 10, 17] r (by kernel_rfl) (an ((by have k := place5 e_l_i.src; rw [h4] at k; exact k) : Con Try.prog 25 [.ag [.u View.pair.id.round, .z View.pair.id.server.node, .u View.pair.id.server.inc, .d (.ro 2 (procs View.pair.members)), .d (.ro 1 (nums View.pair.starts))], .ag [.z e_l_i.src.node, .u e_l_i.src.inc]] (.tu [.n (placeN View.pair.members e_l_i.src), .v (.bool false)])) trivial) fun ac wd r => ?_
              exact J23 ac wd (r.cast rfl (by rw [cmA_no ge_l_i (by assumption), fsA_no ge_l_i (by assumption)]))
            | true =>
              have pk : placeN View.pair.members e_l_i.src < 2 := pN_lt (by assumption)
              cases h5 : (decide ((1 : Int) ≤ ((e_l_i.n : Nat) : Int))) with
              | false =>
                have qh5 := of_decide_eq_false h5
                refine toAt (todo' := aft Try.f5 23) (E' := [(0, .d (.ro 4 (msgs l))), (1, .d (.ro 1 (uptos z))), (5, .pt 0 0), (6, .pt 1 0), (7, .ep 2 1 (0) 0), (8, .ep 3 1 (0) 0), (9, .ep 4 1 (0) 0), (10, .n i), (17, .d (.v (.slice none 0 0)))]) (M' := [.bx 30 [.u View.pair.id.round, .z View.pair.id.server.node, .u View.pair.id.server.inc, .d (.ro 2 (procs View.pair.members)), .d (.ro 1 (nums View.pair.starts))], .bx 33 [.u ((flB l z i).view.id.round), .z ((flB l z i).view.id.server.node), .u ((flB l z i).view.id.server.inc), .d (.ro 2 (procs (flB l z i).view.members)), .d (.ro 1 (nums (flB l z i).view.starts)), .d (.ro 1 (streams (flB l z i).streams)), .d (.ro 1 (nums (flB l z i).handed))], .rw 58 1 (strs (fsA l z i)), .rw 60 1 (bools (cmA l z i)), .rw 61 1 (nums (flA l z i).handed)]) tb_ok mixed_ok hK [(16, [(3, .con (.tu [.n (placeN View.pair.members e_l_i.src), .v (.bool true)]))]), (17, [(4, .b false)])] 18 [0, 1, 2, 3, 4] [0, 1, 5, 6, 7, 8, 9, 10, 17] r (by kernel_rfl) (an ((by have k := place5 e_l_i.src; rw [h4] at k; exact k) : Con Try.prog 25 [.ag [.u View.pair.id.round, .z View.pair.id.server.node, .u View.pair.id.server.inc, .d (.ro 2 (procs View.pair.members)), .d (.ro 1 (nums View.pair.starts))], .ag [.z e_l_i.src.node, .u e_l_i.src.inc]] (.tu [.n (placeN View.pair.members e_l_i.src), .v (.bool true)])) (an h5 trivial)) fun ac wd r => ?_
                exact J23 ac wd (r.cast rfl (by rw [cmA_no ge_l_i (by assumption), fsA_no ge_l_i (by assumption)]))
              | true =>
                have qh5 := of_decide_eq_true h5
                cases h6 : (decide ((((e_l_i.n : Nat) : Int) : Int) ≤ 16)) with
                | false =>
                  have qh6 := of_decide_eq_false h6
                  refine toAt (todo' := aft Try.f5 23) (E' := [(0, .d (.ro 4 (msgs l))), (1, .d (.ro 1 (uptos z))), (5, .pt 0 0), (6, .pt 1 0), (7, .ep 2 1 (0) 0), (8, .ep 3 1 (0) 0), (9, .ep 4 1 (0) 0), (10, .n i), (17, .d (.v (.slice none 0 0)))]) (M' := [.bx 30 [.u View.pair.id.round, .z View.pair.id.server.node, .u View.pair.id.server.inc, .d (.ro 2 (procs View.pair.members)), .d (.ro 1 (nums View.pair.starts))], .bx 33 [.u ((flB l z i).view.id.round), .z ((flB l z i).view.id.server.node), .u ((flB l z i).view.id.server.inc), .d (.ro 2 (procs (flB l z i).view.members)), .d (.ro 1 (nums (flB l z i).view.starts)), .d (.ro 1 (streams (flB l z i).streams)), .d (.ro 1 (nums (flB l z i).handed))], .rw 58 1 (strs (fsA l z i)), .rw 60 1 (bools (cmA l z i)), .rw 61 1 (nums (flA l z i).handed)]) tb_ok mixed_ok hK [(16, [(3, .con (.tu [.n (placeN View.pair.members e_l_i.src), .v (.bool true)]))]), (17, [(4, .b true), (9, .b false)])] 18 [0, 1, 2, 3, 4] [0, 1, 5, 6, 7, 8, 9, 10, 17] r (by kernel_rfl) (an ((by have k := place5 e_l_i.src; rw [h4] at k; exact k) : Con Try.prog 25 [.ag [.u View.pair.id.round, .z View.pair.id.server.node, .u View.pair.id.server.inc, .d (.ro 2 (procs View.pair.members)), .d (.ro 1 (nums View.pair.starts))], .ag [.z e_l_i.src.node, .u e_l_i.src.inc]] (.tu [.n (placeN View.pair.members e_l_i.src), .v (.bool true)])) (an h5 (an h6 trivial))) fun ac wd r => ?_
                  exact J23 ac wd (r.cast rfl (by rw [cmA_no ge_l_i (by assumption), fsA_no ge_l_i (by assumption)]))
                | true =>
                  have qh6 := of_decide_eq_true h6
                  cases h7 : (decide ((((e_l_i.body.length : Nat) : Int) : Int) ≤ 64)) with
                  | false =>
                    have qh7 := of_decide_eq_false h7
                    refine toAt (todo' := aft Try.f5 23) (E' := [(0, .d (.ro 4 (msgs l))), (1, .d (.ro 1 (uptos z))), (5, .pt 0 0), (6, .pt 1 0), (7, .ep 2 1 (0) 0), (8, .ep 3 1 (0) 0), (9, .ep 4 1 (0) 0), (10, .n i), (17, .d (.v (.slice none 0 0)))]) (M' := [.bx 30 [.u View.pair.id.round, .z View.pair.id.server.node, .u View.pair.id.server.inc, .d (.ro 2 (procs View.pair.members)), .d (.ro 1 (nums View.pair.starts))], .bx 33 [.u ((flB l z i).view.id.round), .z ((flB l z i).view.id.server.node), .u ((flB l z i).view.id.server.inc), .d (.ro 2 (procs (flB l z i).view.members)), .d (.ro 1 (nums (flB l z i).view.starts)), .d (.ro 1 (streams (flB l z i).streams)), .d (.ro 1 (nums (flB l z i).handed))], .rw 58 1 (strs (fsA l z i)), .rw 60 1 (bools (cmA l z i)), .rw 61 1 (nums (flA l z i).handed)]) tb_ok mixed_ok hK [(16, [(3, .con (.tu [.n (placeN View.pair.members e_l_i.src), .v (.bool true)]))]), (17, [(4, .b true), (9, .b true), (14, .z (((e_l_i.body.length : Nat) : Int))), (15, .b false)])] 18 [0, 1, 2, 3, 4] [0, 1, 5, 6, 7, 8, 9, 10, 17] r (by kernel_rfl) (an ((by have k := place5 e_l_i.src; rw [h4] at k; exact k) : Con Try.prog 25 [.ag [.u View.pair.id.round, .z View.pair.id.server.node, .u View.pair.id.server.inc, .d (.ro 2 (procs View.pair.members)), .d (.ro 1 (nums View.pair.starts))], .ag [.z e_l_i.src.node, .u e_l_i.src.inc]] (.tu [.n (placeN View.pair.members e_l_i.src), .v (.bool true)])) (an h5 (an h6 (an ((by first | rfl | simp [bytesR]) : (((bytesR e_l_i.body).length : Nat) : Int) = ((e_l_i.body.length : Nat) : Int)) (an h7 trivial))))) fun ac wd r => ?_
                    exact J23 ac wd (r.cast rfl (by rw [cmA_no ge_l_i (by assumption), fsA_no ge_l_i (by assumption)]))
                  | true =>
                    have qh7 := of_decide_eq_true h7
                    refine toAt (todo' := aft Try.f5 23) (E' := [(0, .d (.ro 4 (msgs l))), (1, .d (.ro 1 (uptos z))), (5, .pt 0 0), (6, .pt 1 0), (7, .ep 2 1 (0) 0), (8, .ep 3 1 (0) 0), (9, .ep 4 1 (0) 0), (10, .n i), (17, .d (.v (.slice none 0 0)))]) (M' := [.bx 30 [.u View.pair.id.round, .z View.pair.id.server.node, .u View.pair.id.server.inc, .d (.ro 2 (procs View.pair.members)), .d (.ro 1 (nums View.pair.starts))], .bx 33 [.u ((flB l z i).view.id.round), .z ((flB l z i).view.id.server.node), .u ((flB l z i).view.id.server.inc), .d (.ro 2 (procs (flB l z i).view.members)), .d (.ro 1 (nums (flB l z i).view.starts)), .d (.ro 1 (streams (flB l z i).streams)), .d (.ro 1 (nums (flB l z i).handed))], .rw 58 1 (strs (fsA l z i)), .rw 60 1 (bools (cmA l z i)), .rw 61 1 (nums (flA l z i).handed)]) tb_ok mixed_ok hK [(16, [(3, .con (.tu [.n (placeN View.pair.members e_l_i.src), .v (.bool true)]))]), (17, [(4, .b true), (9, .b true), (14, .z (((e_l_i.body.length : Nat) : Int))), (15, .b true), (21, .z (((e_l_i.n : Nat) : Int))), (22, .n2 (placeN View.pair.members e_l_i.src) 0), (23, .n2 (e_l_i.n) 0), (24, .ix 0 [.v (.bool true)])])] 18 [0, 1, 2, 3, 4] [0, 1, 5, 6, 7, 8, 9, 10, 17] r (by kernel_rfl) (an ((by have k := place5 e_l_i.src; rw [h4] at k; exact k) : Con Try.prog 25 [.ag [.u View.pair.id.round, .z View.pair.id.server.node, .u View.pair.id.server.inc, .d (.ro 2 (procs View.pair.members)), .d (.ro 1 (nums View.pair.starts))], .ag [.z e_l_i.src.node, .u e_l_i.src.inc]] (.tu [.n (placeN View.pair.members e_l_i.src), .v (.bool true)])) (an h5 (an h6 (an ((by first | rfl | simp [bytesR]) : (((bytesR e_l_i.body).length : Nat) : Int) = ((e_l_i.body.length : Nat) : Int)) (an h7 (an ((Int.tmod_eq_of_lt (by omega) (by omega)) : (((e_l_i.n : Nat) : Int) : Int).tmod 17 = ((e_l_i.n : Nat) : Int)) (an ((by decide) : (17 : Int) ≠ 0) (an (rfI ((placeN View.pair.members e_l_i.src : Nat) : Int)) (an ((by first | omega | exact pN_lt (by assumption) | decide) : (placeN View.pair.members e_l_i.src) < 2) (an (rfI ((e_l_i.n : Nat) : Int)) (an ((by first | omega | exact pN_lt (by assumption) | decide) : (e_l_i.n) < 17) (an (bools_at (hv0.untaken (by assumption) (by assumption) (by omega) (by omega) (by omega)) : (bools (cmA l z i))[0 + (placeN View.pair.members e_l_i.src) * 17 + (e_l_i.n) * 1]? = some [.v (.bool true)]) trivial)))))))))))) fun ac wd r => ?_
                    exact J23 ac wd (r.cast rfl (by rw [cmA_no ge_l_i (by assumption), fsA_no ge_l_i (by assumption)]))
          | true =>
            have qh3 := of_decide_eq_true h3
            obtain ⟨tk1, tk0, tk2, tk3, tk4, tk6⟩ := hv0.taken (by assumption)
            have tk5 : placeN View.pair.members e_l_i.src < 2 := tk0
            obtain ⟨s0, gs0⟩ := once_first ge_l_i hv0 tk1 tk3
            refine toAt (todo' := aft Try.f5 14) (E' := [(0, .d (.ro 4 (msgs l))), (1, .d (.ro 1 (uptos z))), (5, .pt 0 0), (6, .pt 1 0), (7, .ep 2 1 (0) 0), (8, .ep 3 1 (0) 0), (9, .ep 4 1 (0) 0), (10, .n i), (31, .n i), (32, .d (.ro 4 (msgs l))), (33, .n l.length), (34, .d (.v (.bool true))), (37, .d (.ro 4 (msgs l))), (38, .n i), (39, .rp [.z e_l_i.src.node, .u e_l_i.src.inc, .u e_l_i.n, .ro 1 (bytesR e_l_i.body)] 0), (40, .ag [.z e_l_i.src.node, .u e_l_i.src.inc, .u e_l_i.n, .d (.ro 1 (bytesR e_l_i.body))]), (11, .pt 5 0), (41, .pt 5 3), (42, .d (.ro 1 (bytesR e_l_i.body))), (43, .n e_l_i.body.length), (44, .d (.v (.bool false))), (47, .ag [.u ((flA l z i).view.id.round), .z ((flA l z i).view.id.server.node), .u ((flA l z i).view.id.server.inc), .d (.ro 2 (procs (flA l z i).view.members)), .d (.ro 1 (nums (flA l z i).view.starts)), .d (.ro 1 (streams (flA l z i).streams)), .d (.ro 1 (nums (flA l z i).handed))]), (48, .ag [.z e_l_i.src.node, .u e_l_i.src.inc, .u e_l_i.n, .d (.ro 1 (bytesR e_l_i.body))]), (49, .tu [.ag [.u ((flB l z i).view.id.round), .z ((flB l z i).view.id.server.node), .u ((flB l z i).view.id.server.inc), .sl 6 ((procs (flB l z i).view.members).length), .sl 7 ((nums (flB l z i).view.starts).length), .sl 8 ((streams (flB l z i).streams).length), .sl 9 ((nums (flB l z i).handed).length)], .d (.v (.bool true))]), (46, .tu [.ag [.u ((flB l z i).view.id.round), .z ((flB l z i).view.id.server.node), .u ((flB l z i).view.id.server.inc), .sl 6 ((procs (flB l z i).view.members).length), .sl 7 ((nums (flB l z i).view.starts).length), .sl 8 ((streams (flB l z i).streams).length), .sl 9 ((nums (flB l z i).handed).length)], .d (.v (.bool true))]), (50, .ag [.u ((flB l z i).view.id.round), .z ((flB l z i).view.id.server.node), .u ((flB l z i).view.id.server.inc), .sl 6 ((procs (flB l z i).view.members).length), .sl 7 ((nums (flB l z i).view.starts).length), .sl 8 ((streams (flB l z i).streams).length), .sl 9 ((nums (flB l z i).handed).length)]), (51, .d (.v (.bool true))), (12, .pt 10 0), (13, .d (.v (.bool true)))]) (M' := [.bx 30 [.u View.pair.id.round, .z View.pair.id.server.node, .u View.pair.id.server.inc, .d (.ro 2 (procs View.pair.members)), .d (.ro 1 (nums View.pair.starts))], .bx 33 [.u ((flA l z i).view.id.round), .z ((flA l z i).view.id.server.node), .u ((flA l z i).view.id.server.inc), .d (.ro 2 (procs (flA l z i).view.members)), .d (.ro 1 (nums (flA l z i).view.starts)), .d (.ro 1 (streams (flA l z i).streams)), .d (.ro 1 (nums (flA l z i).handed))], .rw 58 1 (strs (fsA l z i)), .rw 60 1 (bools (cmA l z i)), .rw 61 1 (nums (flA l z i).handed), .bx 36 [.z e_l_i.src.node, .u e_l_i.src.inc, .u e_l_i.n, .d (.ro 1 (bytesR e_l_i.body))], .rw 24 2 (procs (flB l z i).view.members), .rw 22 1 (nums (flB l z i).view.starts), .rw 67 1 (streams (flB l z i).streams), .rw 22 1 (nums (flB l z i).handed), .bx 33 [.u ((flB l z i).view.id.round), .z ((flB l z i).view.id.server.node), .u ((flB l z i).view.id.server.inc), .sl 6 ((procs (flB l z i).view.members).length), .sl 7 ((nums (flB l z i).view.starts).length), .sl 8 ((streams (flB l z i).streams).length), .sl 9 ((nums (flB l z i).handed).length)]]) tb_ok mixed_ok hK [(12, [(2, .z (((e_l_i.body.length : Nat) : Int))), (3, .b false)]), (14, [(2, .stay [.ag [.u ((flA l z i).view.id.round), .z ((flA l z i).view.id.server.node), .u ((flA l z i).view.id.server.inc), .d (.ro 2 (procs (flA l z i).view.members)), .d (.ro 1 (nums (flA l z i).view.starts)), .d (.ro 1 (streams (flA l z i).streams)), .d (.ro 1 (nums (flA l z i).handed))], .ag [.z e_l_i.src.node, .u e_l_i.src.inc, .u e_l_i.n, .d (.ro 1 (bytesR e_l_i.body))]] (.tu [.ag [.u ((flB l z i).view.id.round), .z ((flB l z i).view.id.server.node), .u ((flB l z i).view.id.server.inc), .em 24 2 (procs (flB l z i).view.members), .em 22 1 (nums (flB l z i).view.starts), .em 67 1 (streams (flB l z i).streams), .em 22 1 (nums (flB l z i).handed)], .v (.bool true)]))])] 7 [0, 1, 2, 3, 4, 5, 6, 7, 8, 9, 10] [0, 1, 5, 6, 7, 8, 9, 10, 31, 32, 33, 34, 37, 38, 39, 40, 11, 41, 42, 43, 44, 47, 48, 49, 46, 50, 51, 12, 13] r (by kernel_rfl) (an ((by first | rfl | simp [bytesR]) : (((bytesR e_l_i.body).length : Nat) : Int) = ((e_l_i.body.length : Nat) : Int)) (an h2 (an ((by have k := take5 ge_l_i hv0 (by omega); rw [h3] at k; exact k) : Con Try.prog 9 [.ag [.u ((flA l z i).view.id.round), .z ((flA l z i).view.id.server.node), .u ((flA l z i).view.id.server.inc), .d (.ro 2 (procs (flA l z i).view.members)), .d (.ro 1 (nums (flA l z i).view.starts)), .d (.ro 1 (streams (flA l z i).streams)), .d (.ro 1 (nums (flA l z i).handed))], .ag [.z e_l_i.src.node, .u e_l_i.src.inc, .u e_l_i.n, .d (.ro 1 (bytesR e_l_i.body))]] (.tu [.ag [.u ((flB l z i).view.id.round), .z ((flB l z i).view.id.server.node), .u ((flB l z i).view.id.server.inc), .em 24 2 (procs (flB l z i).view.members), .em 22 1 (nums (flB l z i).view.starts), .em 67 1 (streams (flB l z i).streams), .em 22 1 (nums (flB l z i).handed)], .v (.bool true)])) (an (rfD (.u ((flA l z i).view.id.round))) (an (rfD (.z ((flA l z i).view.id.server.node))) (an (rfD (.u ((flA l z i).view.id.server.inc))) (an (rfD (.ro 2 (procs (flA l z i).view.members))) (an (rfD (.ro 1 (nums (flA l z i).view.starts))) (an (rfD (.ro 1 (streams (flA l z i).streams))) (an (rfD (.ro 1 (nums (flA l z i).handed))) (an (rfD (.z e_l_i.src.node)) (an (rfD (.u e_l_i.src.inc)) (an (rfD (.u e_l_i.n)) (an (rfD (.ro 1 (bytesR e_l_i.body))) trivial)))))))))))))) fun ac wd r => ?_
            have r := r.stay (p1 := []) (p2 := [((procs (flB l z i).view.members).length) = (procs (flB l z i).view.members).length, ((nums (flB l z i).view.starts).length) = (nums (flB l z i).view.starts).length, ((streams (flB l z i).streams).length) = (streams (flB l z i).streams).length, ((nums (flB l z i).handed).length) = (nums (flB l z i).handed).length]) (E1 := [(0, .d (.ro 4 (msgs l))), (1, .d (.ro 1 (uptos z))), (5, .pt 0 0), (6, .pt 1 0), (7, .ep 2 1 (0) 0), (8, .ep 3 1 (0) 0), (9, .ep 4 1 (0) 0), (10, .n i), (31, .n i), (32, .d (.ro 4 (msgs l))), (33, .n l.length), (34, .d (.v (.bool true))), (37, .d (.ro 4 (msgs l))), (38, .n i), (39, .rp [.z e_l_i.src.node, .u e_l_i.src.inc, .u e_l_i.n, .ro 1 (bytesR e_l_i.body)] 0), (40, .ag [.z e_l_i.src.node, .u e_l_i.src.inc, .u e_l_i.n, .d (.ro 1 (bytesR e_l_i.body))]), (11, .pt 5 0), (41, .pt 5 3), (42, .d (.ro 1 (bytesR e_l_i.body))), (43, .n e_l_i.body.length), (44, .d (.v (.bool false))), (47, .ag [.u ((flA l z i).view.id.round), .z ((flA l z i).view.id.server.node), .u ((flA l z i).view.id.server.inc), .d (.ro 2 (procs (flA l z i).view.members)), .d (.ro 1 (nums (flA l z i).view.starts)), .d (.ro 1 (streams (flA l z i).streams)), .d (.ro 1 (nums (flA l z i).handed))]), (48, .ag [.z e_l_i.src.node, .u e_l_i.src.inc, .u e_l_i.n, .d (.ro 1 (bytesR e_l_i.body))]), (49, .tu [.ag [.u ((flB l z i).view.id.round), .z ((flB l z i).view.id.server.node), .u ((flB l z i).view.id.server.inc), .sl 6 ((procs (flB l z i).view.members).length), .sl 7 ((nums (flB l z i).view.starts).length), .sl 8 ((streams (flB l z i).streams).length), .sl 9 ((nums (flB l z i).handed).length)], .d (.v (.bool true))]), (46, .tu [.ag [.u ((flB l z i).view.id.round), .z ((flB l z i).view.id.server.node), .u ((flB l z i).view.id.server.inc), .sl 6 ((procs (flB l z i).view.members).length), .sl 7 ((nums (flB l z i).view.starts).length), .sl 8 ((streams (flB l z i).streams).length), .sl 9 ((nums (flB l z i).handed).length)], .d (.v (.bool true))]), (50, .ag [.u ((flB l z i).view.id.round), .z ((flB l z i).view.id.server.node), .u ((flB l z i).view.id.server.inc), .sl 6 ((procs (flB l z i).view.members).length), .sl 7 ((nums (flB l z i).view.starts).length), .sl 8 ((streams (flB l z i).streams).length), .sl 9 ((nums (flB l z i).handed).length)]), (51, .d (.v (.bool true))), (12, .pt 10 0), (13, .d (.v (.bool true)))]) (M1 := [.bx 30 [.u View.pair.id.round, .z View.pair.id.server.node, .u View.pair.id.server.inc, .d (.ro 2 (procs View.pair.members)), .d (.ro 1 (nums View.pair.starts))], .bx 33 [.u ((flA l z i).view.id.round), .z ((flA l z i).view.id.server.node), .u ((flA l z i).view.id.server.inc), .d (.ro 2 (procs (flA l z i).view.members)), .d (.ro 1 (nums (flA l z i).view.starts)), .d (.ro 1 (streams (flA l z i).streams)), .d (.ro 1 (nums (flA l z i).handed))], .rw 58 1 (strs (fsA l z i)), .rw 60 1 (bools (cmA l z i)), .rw 61 1 (nums (flA l z i).handed), .bx 36 [.z e_l_i.src.node, .u e_l_i.src.inc, .u e_l_i.n, .d (.ro 1 (bytesR e_l_i.body))], .rw 24 2 (procs (flB l z i).view.members), .rw 22 1 (nums (flB l z i).view.starts), .rw 67 1 (streams (flB l z i).streams), .rw 22 1 (nums (flB l z i).handed), .bx 33 [.u ((flB l z i).view.id.round), .z ((flB l z i).view.id.server.node), .u ((flB l z i).view.id.server.inc), .sl 6 ((procs (flB l z i).view.members).length), .sl 7 ((nums (flB l z i).view.starts).length), .sl 8 ((streams (flB l z i).streams).length), .sl 9 ((nums (flB l z i).handed).length)]]) (M2 := [.bx 30 [.u View.pair.id.round, .z View.pair.id.server.node, .u View.pair.id.server.inc, .d (.ro 2 (procs View.pair.members)), .d (.ro 1 (nums View.pair.starts))], .bx 33 [.u ((flA l z i).view.id.round), .z ((flA l z i).view.id.server.node), .u ((flA l z i).view.id.server.inc), .d (.ro 2 (procs (flA l z i).view.members)), .d (.ro 1 (nums (flA l z i).view.starts)), .d (.ro 1 (streams (flA l z i).streams)), .d (.ro 1 (nums (flA l z i).handed))], .rw 58 1 (strs (fsA l z i)), .rw 60 1 (bools (cmA l z i)), .rw 61 1 (nums (flA l z i).handed), .bx 36 [.z e_l_i.src.node, .u e_l_i.src.inc, .u e_l_i.n, .d (.ro 1 (bytesR e_l_i.body))], .dead, .dead, .dead, .dead, .bx 33 [.u ((flB l z i).view.id.round), .z ((flB l z i).view.id.server.node), .u ((flB l z i).view.id.server.inc), .d (.ro 2 (frozR (procs (flB l z i).view.members))), .d (.ro 1 (frozR (nums (flB l z i).view.starts))), .d (.ro 1 (frozR (streams (flB l z i).streams))), .d (.ro 1 (frozR (nums (flB l z i).handed)))]]) (E2 := [(0, .d (.ro 4 (msgs l))), (1, .d (.ro 1 (uptos z))), (5, .pt 0 0), (6, .pt 1 0), (7, .ep 2 1 (0) 0), (8, .ep 3 1 (0) 0), (9, .ep 4 1 (0) 0), (10, .n i), (31, .n i), (32, .d (.ro 4 (msgs l))), (33, .n l.length), (34, .d (.v (.bool true))), (37, .d (.ro 4 (msgs l))), (38, .n i), (39, .rp [.z e_l_i.src.node, .u e_l_i.src.inc, .u e_l_i.n, .ro 1 (bytesR e_l_i.body)] 0), (40, .ag [.z e_l_i.src.node, .u e_l_i.src.inc, .u e_l_i.n, .d (.ro 1 (bytesR e_l_i.body))]), (11, .pt 5 0), (41, .pt 5 3), (42, .d (.ro 1 (bytesR e_l_i.body))), (43, .n e_l_i.body.length), (44, .d (.v (.bool false))), (47, .ag [.u ((flA l z i).view.id.round), .z ((flA l z i).view.id.server.node), .u ((flA l z i).view.id.server.inc), .d (.ro 2 (procs (flA l z i).view.members)), .d (.ro 1 (nums (flA l z i).view.starts)), .d (.ro 1 (streams (flA l z i).streams)), .d (.ro 1 (nums (flA l z i).handed))]), (48, .ag [.z e_l_i.src.node, .u e_l_i.src.inc, .u e_l_i.n, .d (.ro 1 (bytesR e_l_i.body))]), (49, .tu [.ag [.u ((flB l z i).view.id.round), .z ((flB l z i).view.id.server.node), .u ((flB l z i).view.id.server.inc), .sl 6 ((procs (flB l z i).view.members).length), .sl 7 ((nums (flB l z i).view.starts).length), .sl 8 ((streams (flB l z i).streams).length), .sl 9 ((nums (flB l z i).handed).length)], .d (.v (.bool true))]), (46, .tu [.ag [.u ((flB l z i).view.id.round), .z ((flB l z i).view.id.server.node), .u ((flB l z i).view.id.server.inc), .sl 6 ((procs (flB l z i).view.members).length), .sl 7 ((nums (flB l z i).view.starts).length), .sl 8 ((streams (flB l z i).streams).length), .sl 9 ((nums (flB l z i).handed).length)], .d (.v (.bool true))]), (50, .ag [.u ((flB l z i).view.id.round), .z ((flB l z i).view.id.server.node), .u ((flB l z i).view.id.server.inc), .sl 6 ((procs (flB l z i).view.members).length), .sl 7 ((nums (flB l z i).view.starts).length), .sl 8 ((streams (flB l z i).streams).length), .sl 9 ((nums (flB l z i).handed).length)]), (51, .d (.v (.bool true))), (12, .pt 10 0), (13, .d (.v (.bool true)))]) (M3 := [.bx 30 [.u View.pair.id.round, .z View.pair.id.server.node, .u View.pair.id.server.inc, .d (.ro 2 (procs View.pair.members)), .d (.ro 1 (nums View.pair.starts))], .bx 33 [.u ((flA l z i).view.id.round), .z ((flA l z i).view.id.server.node), .u ((flA l z i).view.id.server.inc), .d (.ro 2 (procs (flA l z i).view.members)), .d (.ro 1 (nums (flA l z i).view.starts)), .d (.ro 1 (streams (flA l z i).streams)), .d (.ro 1 (nums (flA l z i).handed))], .rw 58 1 (strs (fsA l z i)), .rw 60 1 (bools (cmA l z i)), .rw 61 1 (nums (flA l z i).handed), .bx 36 [.z e_l_i.src.node, .u e_l_i.src.inc, .u e_l_i.n, .d (.ro 1 (bytesR e_l_i.body))], .dead, .dead, .dead, .dead, .bx 33 [.u ((flB l z i).view.id.round), .z ((flB l z i).view.id.server.node), .u ((flB l z i).view.id.server.inc), .d (.ro 2 (procs (flB l z i).view.members)), .d (.ro 1 (nums (flB l z i).view.starts)), .d (.ro 1 (streams (flB l z i).streams)), .d (.ro 1 (nums (flB l z i).handed))]]) [] [(10, 3), (10, 4), (10, 5), (10, 6)] (by kernel_rfl) (by kernel_rfl) trivial (an (rfN ((procs (flB l z i).view.members).length)) (an (rfN ((nums (flB l z i).view.starts).length)) (an (rfN ((streams (flB l z i).streams).length)) (an (rfN ((nums (flB l z i).handed).length)) trivial)))) rfl (by simp only [froz_procs, froz_nums, froz_streams, froz_strm, froz_msgs, froz_msgs', froz_slots, froz_slots', froz_bytes, froz_ebytes, froz_enums])
            cases h8 : (decide ((1 : Int) ≤ ((e_l_i.n : Nat) : Int))) with
            | false =>
              have qh8 := of_decide_eq_false h8
              exfalso; omega
            | true =>
              have qh8 := of_decide_eq_true h8
              cases h9 : (decide ((((e_l_i.n : Nat) : Int) : Int) ≤ 16)) with
              | false =>
                have qh9 := of_decide_eq_false h9
                exfalso; omega
              | true =>
                have qh9 := of_decide_eq_true h9
                cases h10 : (decide ((((e_l_i.body.length : Nat) : Int) : Int) ≤ 64)) with
                | false =>
                  have qh10 := of_decide_eq_false h10
                  exfalso; omega
                | true =>
                  have qh10 := of_decide_eq_true h10
                  refine toAt (todo' := aft Try.f5 23) (E' := [(0, .d (.ro 4 (msgs l))), (1, .d (.ro 1 (uptos z))), (5, .pt 0 0), (6, .pt 1 0), (7, .ep 2 1 (0) 0), (8, .ep 3 1 (0) 0), (9, .ep 4 1 (0) 0), (10, .n i), (17, .d (.v (.slice none 0 0)))]) (M' := [.bx 30 [.u View.pair.id.round, .z View.pair.id.server.node, .u View.pair.id.server.inc, .d (.ro 2 (procs View.pair.members)), .d (.ro 1 (nums View.pair.starts))], .bx 33 [.u ((flB l z i).view.id.round), .z ((flB l z i).view.id.server.node), .u ((flB l z i).view.id.server.inc), .d (.ro 2 (procs (flB l z i).view.members)), .d (.ro 1 (nums (flB l z i).view.starts)), .d (.ro 1 (streams (flB l z i).streams)), .d (.ro 1 (nums (flB l z i).handed))], .rw 58 1 (List.set (strs (fsA l z i)) (0 + (placeN View.pair.members e_l_i.src) * 17 + (e_l_i.n) * 1) [.v (.string ⟨(e_l_i.body).toArray⟩)]), .rw 60 1 (List.set (bools (cmA l z i)) (0 + (placeN View.pair.members e_l_i.src) * 17 + (e_l_i.n) * 1) [.v (.bool true)]), .rw 61 1 (nums (flA l z i).handed)]) tb_ok mixed_ok hK [(16, [(3, .con (.tu [.n (placeN View.pair.members e_l_i.src), .v (.bool true)]))]), (17, [(4, .b true), (9, .b true), (14, .z (((e_l_i.body.length : Nat) : Int))), (15, .b true), (21, .z (((e_l_i.n : Nat) : Int))), (22, .n2 (placeN View.pair.members e_l_i.src) 0), (23, .n2 (e_l_i.n) 0), (24, .ix 0 [.v (.bool false)])]), (21, [(3, .n2 (placeN View.pair.members e_l_i.src) 0), (4, .n2 (e_l_i.n) 0), (5, .ix 0 [.v (.bool false)])]), (22, [(5, .res (.v (.string ⟨(e_l_i.body).toArray⟩))), (6, .n2 (placeN View.pair.members e_l_i.src) 0), (7, .n2 (e_l_i.n) 0), (8, .ix 0 [.v (.string ⟨(s0).toArray⟩)])])] 20 [0, 1, 2, 3, 4] [0, 1, 5, 6, 7, 8, 9, 10, 17] r (by kernel_rfl) (an (place5t tk1) (an h8 (an h9 (an ((by first | rfl | simp [bytesR]) : (((bytesR e_l_i.body).length : Nat) : Int) = ((e_l_i.body.length : Nat) : Int)) (an h10 (an ((Int.tmod_eq_of_lt (by omega) (by omega)) : (((e_l_i.n : Nat) : Int) : Int).tmod 17 = ((e_l_i.n : Nat) : Int)) (an ((by decide) : (17 : Int) ≠ 0) (an (rfI ((placeN View.pair.members e_l_i.src : Nat) : Int)) (an ((by first | omega | exact pN_lt (by assumption) | decide) : (placeN View.pair.members e_l_i.src) < 2) (an (rfI ((e_l_i.n : Nat) : Int)) (an ((by first | omega | exact pN_lt (by assumption) | decide) : (e_l_i.n) < 17) (an (bools_at tk6 : (bools (cmA l z i))[0 + (placeN View.pair.members e_l_i.src) * 17 + (e_l_i.n) * 1]? = some [.v (.bool false)]) (an (rfI ((placeN View.pair.members e_l_i.src : Nat) : Int)) (an ((by first | omega | exact pN_lt (by assumption) | decide) : (placeN View.pair.members e_l_i.src) < 2) (an (rfI ((e_l_i.n : Nat) : Int)) (an ((by first | omega | exact pN_lt (by assumption) | decide) : (e_l_i.n) < 17) (an (bools_at tk6 : (bools (cmA l z i))[0 + (placeN View.pair.members e_l_i.src) * 17 + (e_l_i.n) * 1]? = some [.v (.bool false)]) (an (rfl : bytesR e_l_i.body = bytesR (e_l_i.body)) (an (rfI ((placeN View.pair.members e_l_i.src : Nat) : Int)) (an ((by first | omega | exact pN_lt (by assumption) | decide) : (placeN View.pair.members e_l_i.src) < 2) (an (rfI ((e_l_i.n : Nat) : Int)) (an ((by first | omega | exact pN_lt (by assumption) | decide) : (e_l_i.n) < 17) (an (strs_at gs0) trivial))))))))))))))))))))))) fun ac wd r => ?_
                  exact J23 ac wd (r.cast rfl (by rw [bools_set, strs_set, ← cmA_yes ge_l_i (by assumption), ← fsA_yes ge_l_i (by assumption)]))
        | true =>
          have qh2 := of_decide_eq_true h2
          exact toRet tb_ok mixed_ok hK rfl [(12, [(2, .z (((e_l_i.body.length : Nat) : Int))), (3, .b true)]), (13, [(0, .con (.v (.bool true)))])] 2000 r (by kernel_rfl) (an ((by first | rfl | simp [bytesR]) : (((bytesR e_l_i.body).length : Nat) : Int) = ((e_l_i.body.length : Nat) : Int)) (an h2 (an (awakeOk) trivial)))
      intro ac wd r
      suffices J27 : ∀ ac wd, RE' [] w0 K 176 [(0, .d (.ro 4 (msgs l))), (1, .d (.ro 1 (uptos z))), (5, .pt 0 0), (6, .pt 1 0), (7, .ep 2 1 (0) 0), (8, .ep 3 1 (0) 0), (9, .ep 4 1 (0) 0), (10, .n i), (19, .d (.ro 4 (msgs (outN l z i))))] [.bx 30 [.u View.pair.id.round, .z View.pair.id.server.node, .u View.pair.id.server.inc, .d (.ro 2 (procs View.pair.members)), .d (.ro 1 (nums View.pair.starts))], .bx 33 [.u ((flA l z (i + 1)).view.id.round), .z ((flA l z (i + 1)).view.id.server.node), .u ((flA l z (i + 1)).view.id.server.inc), .d (.ro 2 (procs (flA l z (i + 1)).view.members)), .d (.ro 1 (nums (flA l z (i + 1)).view.starts)), .d (.ro 1 (streams (flA l z (i + 1)).streams)), .d (.ro 1 (nums (flA l z (i + 1)).handed))], .rw 58 1 (strs (fsA l z (i + 1))), .rw 60 1 (bools (cmA l z (i + 1))), .rw 61 1 (nums (nxA l z i 0))] ac wd → Goes Try.prog 5 (aft Try.f5 27) (RetA w0 K (.v (.bool true))) ac wd by
        cases h11 : (decide ((((i : Nat) : Int) : Int) < ((z.length : Nat) : Int))) with
        | false =>
          have qh11 := of_decide_eq_false h11
          refine toAt (todo' := aft Try.f5 26) (E' := [(0, .d (.ro 4 (msgs l))), (1, .d (.ro 1 (uptos z))), (5, .pt 0 0), (6, .pt 1 0), (7, .ep 2 1 (0) 0), (8, .ep 3 1 (0) 0), (9, .ep 4 1 (0) 0), (10, .n i), (17, .d (.v (.slice none 0 0))), (104, .n i), (105, .d (.ro 1 (uptos z))), (106, .n z.length), (107, .d (.v (.bool false))), (113, .ag [.u ((flB l z i).view.id.round), .z ((flB l z i).view.id.server.node), .u ((flB l z i).view.id.server.inc), .d (.ro 2 (procs (flB l z i).view.members)), .d (.ro 1 (nums (flB l z i).view.starts)), .d (.ro 1 (streams (flB l z i).streams)), .d (.ro 1 (nums (flB l z i).handed))]), (114, .d (.v (.slice none 0 0))), (115, .tu [.ag [.u ((flA l z (i + 1)).view.id.round), .z ((flA l z (i + 1)).view.id.server.node), .u ((flA l z (i + 1)).view.id.server.inc), .sl 5 ((procs (flA l z (i + 1)).view.members).length), .sl 6 ((nums (flA l z (i + 1)).view.starts).length), .sl 7 ((streams (flA l z (i + 1)).streams).length), .sl 8 ((nums (flA l z (i + 1)).handed).length)], .sl 9 ((msgsO (outN l z i)).length)]), (112, .tu [.ag [.u ((flA l z (i + 1)).view.id.round), .z ((flA l z (i + 1)).view.id.server.node), .u ((flA l z (i + 1)).view.id.server.inc), .sl 5 ((procs (flA l z (i + 1)).view.members).length), .sl 6 ((nums (flA l z (i + 1)).view.starts).length), .sl 7 ((streams (flA l z (i + 1)).streams).length), .sl 8 ((nums (flA l z (i + 1)).handed).length)], .sl 9 ((msgsO (outN l z i)).length)]), (116, .ag [.u ((flA l z (i + 1)).view.id.round), .z ((flA l z (i + 1)).view.id.server.node), .u ((flA l z (i + 1)).view.id.server.inc), .sl 5 ((procs (flA l z (i + 1)).view.members).length), .sl 6 ((nums (flA l z (i + 1)).view.starts).length), .sl 7 ((streams (flA l z (i + 1)).streams).length), .sl 8 ((nums (flA l z (i + 1)).handed).length)]), (117, .sl 9 ((msgsO (outN l z i)).length)), (18, .pt 10 0), (19, .sl 9 ((msgsO (outN l z i)).length))]) (M' := [.bx 30 [.u View.pair.id.round, .z View.pair.id.server.node, .u View.pair.id.server.inc, .d (.ro 2 (procs View.pair.members)), .d (.ro 1 (nums View.pair.starts))], .bx 33 [.u ((flB l z i).view.id.round), .z ((flB l z i).view.id.server.node), .u ((flB l z i).view.id.server.inc), .d (.ro 2 (procs (flB l z i).view.members)), .d (.ro 1 (nums (flB l z i).view.starts)), .d (.ro 1 (streams (flB l z i).streams)), .d (.ro 1 (nums (flB l z i).handed))], .rw 58 1 (strs (fsA l z (i + 1))), .rw 60 1 (bools (cmA l z (i + 1))), .rw 61 1 (nums (flA l z i).handed), .rw 24 2 (procs (flA l z (i + 1)).view.members), .rw 22 1 (nums (flA l z (i + 1)).view.starts), .rw 67 1 (streams (flA l z (i + 1)).streams), .rw 22 1 (nums (flA l z (i + 1)).handed), .rw 36 4 (msgsO (outN l z i)), .bx 33 [.u ((flA l z (i + 1)).view.id.round), .z ((flA l z (i + 1)).view.id.server.node), .u ((flA l z (i + 1)).view.id.server.inc), .sl 5 ((procs (flA l z (i + 1)).view.members).length), .sl 6 ((nums (flA l z (i + 1)).view.starts).length), .sl 7 ((streams (flA l z (i + 1)).streams).length), .sl 8 ((nums (flA l z (i + 1)).handed).length)]]) tb_ok mixed_ok hK [(24, [(2, .z (((z.length : Nat) : Int))), (3, .b false)]), (26, [(2, .stay [.ag [.u ((flB l z i).view.id.round), .z ((flB l z i).view.id.server.node), .u ((flB l z i).view.id.server.inc), .d (.ro 2 (procs (flB l z i).view.members)), .d (.ro 1 (nums (flB l z i).view.starts)), .d (.ro 1 (streams (flB l z i).streams)), .d (.ro 1 (nums (flB l z i).handed))], .d (.v (.slice none 0 0))] (.tu [.ag [.u ((flA l z (i + 1)).view.id.round), .z ((flA l z (i + 1)).view.id.server.node), .u ((flA l z (i + 1)).view.id.server.inc), .em 24 2 (procs (flA l z (i + 1)).view.members), .em 22 1 (nums (flA l z (i + 1)).view.starts), .em 67 1 (streams (flA l z (i + 1)).streams), .em 22 1 (nums (flA l z (i + 1)).handed)], .em 36 4 (msgsO (outN l z i))]))])] 7 [0, 1, 2, 3, 4, 5, 6, 7, 8, 9, 10] [0, 1, 5, 6, 7, 8, 9, 10, 17, 104, 105, 106, 107, 113, 114, 115, 112, 116, 117, 18, 19] r (by kernel_rfl) (an ((by first | rfl | simp [bytesR]) : (((uptos z).length : Nat) : Int) = ((z.length : Nat) : Int)) (an h11 (an (Con.nil2 (hand5 ge_l_i oG (upAt_none (by omega)) hzb)) (an (rfD (.u ((flB l z i).view.id.round))) (an (rfD (.z ((flB l z i).view.id.server.node))) (an (rfD (.u ((flB l z i).view.id.server.inc))) (an (rfD (.ro 2 (procs (flB l z i).view.members))) (an (rfD (.ro 1 (nums (flB l z i).view.starts))) (an (rfD (.ro 1 (streams (flB l z i).streams))) (an (rfD (.ro 1 (nums (flB l z i).handed))) (an (rfD (.v (.slice none 0 0))) trivial))))))))))) fun ac wd r => ?_
          have r := r.stay (p1 := [((msgsO (outN l z i)).length) = (msgsO (outN l z i)).length]) (p2 := [((procs (flA l z (i + 1)).view.members).length) = (procs (flA l z (i + 1)).view.members).length, ((nums (flA l z (i + 1)).view.starts).length) = (nums (flA l z (i + 1)).view.starts).length, ((streams (flA l z (i + 1)).streams).length) = (streams (flA l z (i + 1)).streams).length, ((nums (flA l z (i + 1)).handed).length) = (nums (flA l z (i + 1)).handed).length]) (E1 := [(0, .d (.ro 4 (msgs l))), (1, .d (.ro 1 (uptos z))), (5, .pt 0 0), (6, .pt 1 0), (7, .ep 2 1 (0) 0), (8, .ep 3 1 (0) 0), (9, .ep 4 1 (0) 0), (10, .n i), (17, .d (.v (.slice none 0 0))), (104, .n i), (105, .d (.ro 1 (uptos z))), (106, .n z.length), (107, .d (.v (.bool false))), (113, .ag [.u ((flB l z i).view.id.round), .z ((flB l z i).view.id.server.node), .u ((flB l z i).view.id.server.inc), .d (.ro 2 (procs (flB l z i).view.members)), .d (.ro 1 (nums (flB l z i).view.starts)), .d (.ro 1 (streams (flB l z i).streams)), .d (.ro 1 (nums (flB l z i).handed))]), (114, .d (.v (.slice none 0 0))), (115, .tu [.ag [.u ((flA l z (i + 1)).view.id.round), .z ((flA l z (i + 1)).view.id.server.node), .u ((flA l z (i + 1)).view.id.server.inc), .sl 5 ((procs (flA l z (i + 1)).view.members).length), .sl 6 ((nums (flA l z (i + 1)).view.starts).length), .sl 7 ((streams (flA l z (i + 1)).streams).length), .sl 8 ((nums (flA l z (i + 1)).handed).length)], .sl 9 ((msgsO (outN l z i)).length)]), (112, .tu [.ag [.u ((flA l z (i + 1)).view.id.round), .z ((flA l z (i + 1)).view.id.server.node), .u ((flA l z (i + 1)).view.id.server.inc), .sl 5 ((procs (flA l z (i + 1)).view.members).length), .sl 6 ((nums (flA l z (i + 1)).view.starts).length), .sl 7 ((streams (flA l z (i + 1)).streams).length), .sl 8 ((nums (flA l z (i + 1)).handed).length)], .sl 9 ((msgsO (outN l z i)).length)]), (116, .ag [.u ((flA l z (i + 1)).view.id.round), .z ((flA l z (i + 1)).view.id.server.node), .u ((flA l z (i + 1)).view.id.server.inc), .sl 5 ((procs (flA l z (i + 1)).view.members).length), .sl 6 ((nums (flA l z (i + 1)).view.starts).length), .sl 7 ((streams (flA l z (i + 1)).streams).length), .sl 8 ((nums (flA l z (i + 1)).handed).length)]), (117, .sl 9 ((msgsO (outN l z i)).length)), (18, .pt 10 0), (19, .d (.ro 4 (frozR (msgsO (outN l z i)))))]) (M1 := [.bx 30 [.u View.pair.id.round, .z View.pair.id.server.node, .u View.pair.id.server.inc, .d (.ro 2 (procs View.pair.members)), .d (.ro 1 (nums View.pair.starts))], .bx 33 [.u ((flB l z i).view.id.round), .z ((flB l z i).view.id.server.node), .u ((flB l z i).view.id.server.inc), .d (.ro 2 (procs (flB l z i).view.members)), .d (.ro 1 (nums (flB l z i).view.starts)), .d (.ro 1 (streams (flB l z i).streams)), .d (.ro 1 (nums (flB l z i).handed))], .rw 58 1 (strs (fsA l z (i + 1))), .rw 60 1 (bools (cmA l z (i + 1))), .rw 61 1 (nums (flA l z i).handed), .rw 24 2 (procs (flA l z (i + 1)).view.members), .rw 22 1 (nums (flA l z (i + 1)).view.starts), .rw 67 1 (streams (flA l z (i + 1)).streams), .rw 22 1 (nums (flA l z (i + 1)).handed), .dead, .bx 33 [.u ((flA l z (i + 1)).view.id.round), .z ((flA l z (i + 1)).view.id.server.node), .u ((flA l z (i + 1)).view.id.server.inc), .sl 5 ((procs (flA l z (i + 1)).view.members).length), .sl 6 ((nums (flA l z (i + 1)).view.starts).length), .sl 7 ((streams (flA l z (i + 1)).streams).length), .sl 8 ((nums (flA l z (i + 1)).handed).length)]]) (M2 := [.bx 30 [.u View.pair.id.round, .z View.pair.id.server.node, .u View.pair.id.server.inc, .d (.ro 2 (procs View.pair.members)), .d (.ro 1 (nums View.pair.starts))], .bx 33 [.u ((flB l z i).view.id.round), .z ((flB l z i).view.id.server.node), .u ((flB l z i).view.id.server.inc), .d (.ro 2 (procs (flB l z i).view.members)), .d (.ro 1 (nums (flB l z i).view.starts)), .d (.ro 1 (streams (flB l z i).streams)), .d (.ro 1 (nums (flB l z i).handed))], .rw 58 1 (strs (fsA l z (i + 1))), .rw 60 1 (bools (cmA l z (i + 1))), .rw 61 1 (nums (flA l z i).handed), .dead, .dead, .dead, .dead, .dead, .bx 33 [.u ((flA l z (i + 1)).view.id.round), .z ((flA l z (i + 1)).view.id.server.node), .u ((flA l z (i + 1)).view.id.server.inc), .d (.ro 2 (frozR (procs (flA l z (i + 1)).view.members))), .d (.ro 1 (frozR (nums (flA l z (i + 1)).view.starts))), .d (.ro 1 (frozR (streams (flA l z (i + 1)).streams))), .d (.ro 1 (frozR (nums (flA l z (i + 1)).handed)))]]) (E2 := [(0, .d (.ro 4 (msgs l))), (1, .d (.ro 1 (uptos z))), (5, .pt 0 0), (6, .pt 1 0), (7, .ep 2 1 (0) 0), (8, .ep 3 1 (0) 0), (9, .ep 4 1 (0) 0), (10, .n i), (17, .d (.v (.slice none 0 0))), (104, .n i), (105, .d (.ro 1 (uptos z))), (106, .n z.length), (107, .d (.v (.bool false))), (113, .ag [.u ((flB l z i).view.id.round), .z ((flB l z i).view.id.server.node), .u ((flB l z i).view.id.server.inc), .d (.ro 2 (procs (flB l z i).view.members)), .d (.ro 1 (nums (flB l z i).view.starts)), .d (.ro 1 (streams (flB l z i).streams)), .d (.ro 1 (nums (flB l z i).handed))]), (114, .d (.v (.slice none 0 0))), (115, .tu [.ag [.u ((flA l z (i + 1)).view.id.round), .z ((flA l z (i + 1)).view.id.server.node), .u ((flA l z (i + 1)).view.id.server.inc), .sl 5 ((procs (flA l z (i + 1)).view.members).length), .sl 6 ((nums (flA l z (i + 1)).view.starts).length), .sl 7 ((streams (flA l z (i + 1)).streams).length), .sl 8 ((nums (flA l z (i + 1)).handed).length)], .sl 9 ((msgsO (outN l z i)).length)]), (112, .tu [.ag [.u ((flA l z (i + 1)).view.id.round), .z ((flA l z (i + 1)).view.id.server.node), .u ((flA l z (i + 1)).view.id.server.inc), .sl 5 ((procs (flA l z (i + 1)).view.members).length), .sl 6 ((nums (flA l z (i + 1)).view.starts).length), .sl 7 ((streams (flA l z (i + 1)).streams).length), .sl 8 ((nums (flA l z (i + 1)).handed).length)], .sl 9 ((msgsO (outN l z i)).length)]), (116, .ag [.u ((flA l z (i + 1)).view.id.round), .z ((flA l z (i + 1)).view.id.server.node), .u ((flA l z (i + 1)).view.id.server.inc), .sl 5 ((procs (flA l z (i + 1)).view.members).length), .sl 6 ((nums (flA l z (i + 1)).view.starts).length), .sl 7 ((streams (flA l z (i + 1)).streams).length), .sl 8 ((nums (flA l z (i + 1)).handed).length)]), (117, .sl 9 ((msgsO (outN l z i)).length)), (18, .pt 10 0), (19, .d (.ro 4 (msgs (outN l z i))))]) (M3 := [.bx 30 [.u View.pair.id.round, .z View.pair.id.server.node, .u View.pair.id.server.inc, .d (.ro 2 (procs View.pair.members)), .d (.ro 1 (nums View.pair.starts))], .bx 33 [.u ((flB l z i).view.id.round), .z ((flB l z i).view.id.server.node), .u ((flB l z i).view.id.server.inc), .d (.ro 2 (procs (flB l z i).view.members)), .d (.ro 1 (nums (flB l z i).view.starts)), .d (.ro 1 (streams (flB l z i).streams)), .d (.ro 1 (nums (flB l z i).handed))], .rw 58 1 (strs (fsA l z (i + 1))), .rw 60 1 (bools (cmA l z (i + 1))), .rw 61 1 (nums (flA l z i).handed), .dead, .dead, .dead, .dead, .dead, .bx 33 [.u ((flA l z (i + 1)).view.id.round), .z ((flA l z (i + 1)).view.id.server.node), .u ((flA l z (i + 1)).view.id.server.inc), .d (.ro 2 (procs (flA l z (i + 1)).view.members)), .d (.ro 1 (nums (flA l z (i + 1)).view.starts)), .d (.ro 1 (streams (flA l z (i + 1)).streams)), .d (.ro 1 (nums (flA l z (i + 1)).handed))]]) [19] [(10, 3), (10, 4), (10, 5), (10, 6)] (by kernel_rfl) (by kernel_rfl) (an (rfN ((msgsO (outN l z i)).length)) trivial) (an (rfN ((procs (flA l z (i + 1)).view.members).length)) (an (rfN ((nums (flA l z (i + 1)).view.starts).length)) (an (rfN ((streams (flA l z (i + 1)).streams).length)) (an (rfN ((nums (flA l z (i + 1)).handed).length)) trivial)))) (by simp only [froz_procs, froz_nums, froz_streams, froz_strm, froz_msgs, froz_msgs', froz_slots, froz_slots', froz_bytes, froz_ebytes, froz_enums]) (by simp only [froz_procs, froz_nums, froz_streams, froz_strm, froz_msgs, froz_msgs', froz_slots, froz_slots', froz_bytes, froz_ebytes, froz_enums])
          refine toAt (todo' := aft Try.f5 27) (E' := [(0, .d (.ro 4 (msgs l))), (1, .d (.ro 1 (uptos z))), (5, .pt 0 0), (6, .pt 1 0), (7, .ep 2 1 (0) 0), (8, .ep 3 1 (0) 0), (9, .ep 4 1 (0) 0), (10, .n i), (19, .d (.ro 4 (msgs (outN l z i))))]) (M' := [.bx 30 [.u View.pair.id.round, .z View.pair.id.server.node, .u View.pair.id.server.inc, .d (.ro 2 (procs View.pair.members)), .d (.ro 1 (nums View.pair.starts))], .bx 33 [.u ((flA l z (i + 1)).view.id.round), .z ((flA l z (i + 1)).view.id.server.node), .u ((flA l z (i + 1)).view.id.server.inc), .d (.ro 2 (procs (flA l z (i + 1)).view.members)), .d (.ro 1 (nums (flA l z (i + 1)).view.starts)), .d (.ro 1 (streams (flA l z (i + 1)).streams)), .d (.ro 1 (nums (flA l z (i + 1)).handed))], .rw 58 1 (strs (fsA l z (i + 1))), .rw 60 1 (bools (cmA l z (i + 1))), .rw 61 1 (nums (flA l z i).handed)]) tb_ok mixed_ok hK [] 2 [0, 1, 2, 3, 4] [0, 1, 5, 6, 7, 8, 9, 10, 19] r (by kernel_rfl) trivial fun ac wd r => ?_
          exact J27 ac wd (r.cast rfl (by rw [show nxA l z i 0 = (flA l z i).handed from (nxtL_zero oG _).symm.trans (flB_handed ge_l_i)]))
        | true =>
          have qh11 := of_decide_eq_true h11
          obtain ⟨e_z_i, ge_z_i⟩ : ∃ x, z[i]? = some x := ⟨_, List.getElem?_eq_getElem (by omega)⟩
          refine toAt (todo' := aft Try.f5 26) (E' := [(0, .d (.ro 4 (msgs l))), (1, .d (.ro 1 (uptos z))), (5, .pt 0 0), (6, .pt 1 0), (7, .ep 2 1 (0) 0), (8, .ep 3 1 (0) 0), (9, .ep 4 1 (0) 0), (10, .n i), (17, .d (.ro 1 (nums e_z_i))), (104, .n i), (105, .d (.ro 1 (uptos z))), (106, .n z.length), (107, .d (.v (.bool true))), (108, .d (.ro 1 (uptos z))), (109, .n i), (110, .rp [.ro 1 (nums e_z_i)] 0), (111, .d (.ro 1 (nums e_z_i))), (113, .ag [.u ((flB l z i).view.id.round), .z ((flB l z i).view.id.server.node), .u ((flB l z i).view.id.server.inc), .d (.ro 2 (procs (flB l z i).view.members)), .d (.ro 1 (nums (flB l z i).view.starts)), .d (.ro 1 (streams (flB l z i).streams)), .d (.ro 1 (nums (flB l z i).handed))]), (114, .d (.ro 1 (nums e_z_i))), (115, .tu [.ag [.u ((flA l z (i + 1)).view.id.round), .z ((flA l z (i + 1)).view.id.server.node), .u ((flA l z (i + 1)).view.id.server.inc), .sl 5 ((procs (flA l z (i + 1)).view.members).length), .sl 6 ((nums (flA l z (i + 1)).view.starts).length), .sl 7 ((streams (flA l z (i + 1)).streams).length), .sl 8 ((nums (flA l z (i + 1)).handed).length)], .sl 9 ((msgsO (outN l z i)).length)]), (112, .tu [.ag [.u ((flA l z (i + 1)).view.id.round), .z ((flA l z (i + 1)).view.id.server.node), .u ((flA l z (i + 1)).view.id.server.inc), .sl 5 ((procs (flA l z (i + 1)).view.members).length), .sl 6 ((nums (flA l z (i + 1)).view.starts).length), .sl 7 ((streams (flA l z (i + 1)).streams).length), .sl 8 ((nums (flA l z (i + 1)).handed).length)], .sl 9 ((msgsO (outN l z i)).length)]), (116, .ag [.u ((flA l z (i + 1)).view.id.round), .z ((flA l z (i + 1)).view.id.server.node), .u ((flA l z (i + 1)).view.id.server.inc), .sl 5 ((procs (flA l z (i + 1)).view.members).length), .sl 6 ((nums (flA l z (i + 1)).view.starts).length), .sl 7 ((streams (flA l z (i + 1)).streams).length), .sl 8 ((nums (flA l z (i + 1)).handed).length)]), (117, .sl 9 ((msgsO (outN l z i)).length)), (18, .pt 10 0), (19, .sl 9 ((msgsO (outN l z i)).length))]) (M' := [.bx 30 [.u View.pair.id.round, .z View.pair.id.server.node, .u View.pair.id.server.inc, .d (.ro 2 (procs View.pair.members)), .d (.ro 1 (nums View.pair.starts))], .bx 33 [.u ((flB l z i).view.id.round), .z ((flB l z i).view.id.server.node), .u ((flB l z i).view.id.server.inc), .d (.ro 2 (procs (flB l z i).view.members)), .d (.ro 1 (nums (flB l z i).view.starts)), .d (.ro 1 (streams (flB l z i).streams)), .d (.ro 1 (nums (flB l z i).handed))], .rw 58 1 (strs (fsA l z (i + 1))), .rw 60 1 (bools (cmA l z (i + 1))), .rw 61 1 (nums (flA l z i).handed), .rw 24 2 (procs (flA l z (i + 1)).view.members), .rw 22 1 (nums (flA l z (i + 1)).view.starts), .rw 67 1 (streams (flA l z (i + 1)).streams), .rw 22 1 (nums (flA l z (i + 1)).handed), .rw 36 4 (msgsO (outN l z i)), .bx 33 [.u ((flA l z (i + 1)).view.id.round), .z ((flA l z (i + 1)).view.id.server.node), .u ((flA l z (i + 1)).view.id.server.inc), .sl 5 ((procs (flA l z (i + 1)).view.members).length), .sl 6 ((nums (flA l z (i + 1)).view.starts).length), .sl 7 ((streams (flA l z (i + 1)).streams).length), .sl 8 ((nums (flA l z (i + 1)).handed).length)]]) tb_ok mixed_ok hK [(24, [(2, .z (((z.length : Nat) : Int))), (3, .b true)]), (25, [(2, .ix (i) [.ro 1 (nums e_z_i)])]), (26, [(2, .stay [.ag [.u ((flB l z i).view.id.round), .z ((flB l z i).view.id.server.node), .u ((flB l z i).view.id.server.inc), .d (.ro 2 (procs (flB l z i).view.members)), .d (.ro 1 (nums (flB l z i).view.starts)), .d (.ro 1 (streams (flB l z i).streams)), .d (.ro 1 (nums (flB l z i).handed))], .d (.ro 1 (nums e_z_i))] (.tu [.ag [.u ((flA l z (i + 1)).view.id.round), .z ((flA l z (i + 1)).view.id.server.node), .u ((flA l z (i + 1)).view.id.server.inc), .em 24 2 (procs (flA l z (i + 1)).view.members), .em 22 1 (nums (flA l z (i + 1)).view.starts), .em 67 1 (streams (flA l z (i + 1)).streams), .em 22 1 (nums (flA l z (i + 1)).handed)], .em 36 4 (msgsO (outN l z i))]))])] 7 [0, 1, 2, 3, 4, 5, 6, 7, 8, 9, 10] [0, 1, 5, 6, 7, 8, 9, 10, 17, 104, 105, 106, 107, 108, 109, 110, 111, 113, 114, 115, 112, 116, 117, 18, 19] r (by kernel_rfl) (an ((by first | rfl | simp [bytesR]) : (((uptos z).length : Nat) : Int) = ((z.length : Nat) : Int)) (an h11 (an (rfI ((i : Nat) : Int)) (an (uptos_at ge_z_i) (an (hand5 ge_l_i oG (upAt_some ge_z_i) hzb) (an (rfD (.u ((flB l z i).view.id.round))) (an (rfD (.z ((flB l z i).view.id.server.node))) (an (rfD (.u ((flB l z i).view.id.server.inc))) (an (rfD (.ro 2 (procs (flB l z i).view.members))) (an (rfD (.ro 1 (nums (flB l z i).view.starts))) (an (rfD (.ro 1 (streams (flB l z i).streams))) (an (rfD (.ro 1 (nums (flB l z i).handed))) (an (rfD (.ro 1 (nums e_z_i))) trivial))))))))))))) fun ac wd r => ?_
          have r := r.stay (p1 := [((msgsO (outN l z i)).length) = (msgsO (outN l z i)).length]) (p2 := [((procs (flA l z (i + 1)).view.members).length) = (procs (flA l z (i + 1)).view.members).length, ((nums (flA l z (i + 1)).view.starts).length) = (nums (flA l z (i + 1)).view.starts).length, ((streams (flA l z (i + 1)).streams).length) = (streams (flA l z (i + 1)).streams).length, ((nums (flA l z (i + 1)).handed).length) = (nums (flA l z (i + 1)).handed).length]) (E1 := [(0, .d (.ro 4 (msgs l))), (1, .d (.ro 1 (uptos z))), (5, .pt 0 0), (6, .pt 1 0), (7, .ep 2 1 (0) 0), (8, .ep 3 1 (0) 0), (9, .ep 4 1 (0) 0), (10, .n i), (17, .d (.ro 1 (nums e_z_i))), (104, .n i), (105, .d (.ro 1 (uptos z))), (106, .n z.length), (107, .d (.v (.bool true))), (108, .d (.ro 1 (uptos z))), (109, .n i), (110, .rp [.ro 1 (nums e_z_i)] 0), (111, .d (.ro 1 (nums e_z_i))), (113, .ag [.u ((flB l z i).view.id.round), .z ((flB l z i).view.id.server.node), .u ((flB l z i).view.id.server.inc), .d (.ro 2 (procs (flB l z i).view.members)), .d (.ro 1 (nums (flB l z i).view.starts)), .d (.ro 1 (streams (flB l z i).streams)), .d (.ro 1 (nums (flB l z i).handed))]), (114, .d (.ro 1 (nums e_z_i))), (115, .tu [.ag [.u ((flA l z (i + 1)).view.id.round), .z ((flA l z (i + 1)).view.id.server.node), .u ((flA l z (i + 1)).view.id.server.inc), .sl 5 ((procs (flA l z (i + 1)).view.members).length), .sl 6 ((nums (flA l z (i + 1)).view.starts).length), .sl 7 ((streams (flA l z (i + 1)).streams).length), .sl 8 ((nums (flA l z (i + 1)).handed).length)], .sl 9 ((msgsO (outN l z i)).length)]), (112, .tu [.ag [.u ((flA l z (i + 1)).view.id.round), .z ((flA l z (i + 1)).view.id.server.node), .u ((flA l z (i + 1)).view.id.server.inc), .sl 5 ((procs (flA l z (i + 1)).view.members).length), .sl 6 ((nums (flA l z (i + 1)).view.starts).length), .sl 7 ((streams (flA l z (i + 1)).streams).length), .sl 8 ((nums (flA l z (i + 1)).handed).length)], .sl 9 ((msgsO (outN l z i)).length)]), (116, .ag [.u ((flA l z (i + 1)).view.id.round), .z ((flA l z (i + 1)).view.id.server.node), .u ((flA l z (i + 1)).view.id.server.inc), .sl 5 ((procs (flA l z (i + 1)).view.members).length), .sl 6 ((nums (flA l z (i + 1)).view.starts).length), .sl 7 ((streams (flA l z (i + 1)).streams).length), .sl 8 ((nums (flA l z (i + 1)).handed).length)]), (117, .sl 9 ((msgsO (outN l z i)).length)), (18, .pt 10 0), (19, .d (.ro 4 (frozR (msgsO (outN l z i)))))]) (M1 := [.bx 30 [.u View.pair.id.round, .z View.pair.id.server.node, .u View.pair.id.server.inc, .d (.ro 2 (procs View.pair.members)), .d (.ro 1 (nums View.pair.starts))], .bx 33 [.u ((flB l z i).view.id.round), .z ((flB l z i).view.id.server.node), .u ((flB l z i).view.id.server.inc), .d (.ro 2 (procs (flB l z i).view.members)), .d (.ro 1 (nums (flB l z i).view.starts)), .d (.ro 1 (streams (flB l z i).streams)), .d (.ro 1 (nums (flB l z i).handed))], .rw 58 1 (strs (fsA l z (i + 1))), .rw 60 1 (bools (cmA l z (i + 1))), .rw 61 1 (nums (flA l z i).handed), .rw 24 2 (procs (flA l z (i + 1)).view.members), .rw 22 1 (nums (flA l z (i + 1)).view.starts), .rw 67 1 (streams (flA l z (i + 1)).streams), .rw 22 1 (nums (flA l z (i + 1)).handed), .dead, .bx 33 [.u ((flA l z (i + 1)).view.id.round), .z ((flA l z (i + 1)).view.id.server.node), .u ((flA l z (i + 1)).view.id.server.inc), .sl 5 ((procs (flA l z (i + 1)).view.members).length), .sl 6 ((nums (flA l z (i + 1)).view.starts).length), .sl 7 ((streams (flA l z (i + 1)).streams).length), .sl 8 ((nums (flA l z (i + 1)).handed).length)]]) (M2 := [.bx 30 [.u View.pair.id.round, .z View.pair.id.server.node, .u View.pair.id.server.inc, .d (.ro 2 (procs View.pair.members)), .d (.ro 1 (nums View.pair.starts))], .bx 33 [.u ((flB l z i).view.id.round), .z ((flB l z i).view.id.server.node), .u ((flB l z i).view.id.server.inc), .d (.ro 2 (procs (flB l z i).view.members)), .d (.ro 1 (nums (flB l z i).view.starts)), .d (.ro 1 (streams (flB l z i).streams)), .d (.ro 1 (nums (flB l z i).handed))], .rw 58 1 (strs (fsA l z (i + 1))), .rw 60 1 (bools (cmA l z (i + 1))), .rw 61 1 (nums (flA l z i).handed), .dead, .dead, .dead, .dead, .dead, .bx 33 [.u ((flA l z (i + 1)).view.id.round), .z ((flA l z (i + 1)).view.id.server.node), .u ((flA l z (i + 1)).view.id.server.inc), .d (.ro 2 (frozR (procs (flA l z (i + 1)).view.members))), .d (.ro 1 (frozR (nums (flA l z (i + 1)).view.starts))), .d (.ro 1 (frozR (streams (flA l z (i + 1)).streams))), .d (.ro 1 (frozR (nums (flA l z (i + 1)).handed)))]]) (E2 := [(0, .d (.ro 4 (msgs l))), (1, .d (.ro 1 (uptos z))), (5, .pt 0 0), (6, .pt 1 0), (7, .ep 2 1 (0) 0), (8, .ep 3 1 (0) 0), (9, .ep 4 1 (0) 0), (10, .n i), (17, .d (.ro 1 (nums e_z_i))), (104, .n i), (105, .d (.ro 1 (uptos z))), (106, .n z.length), (107, .d (.v (.bool true))), (108, .d (.ro 1 (uptos z))), (109, .n i), (110, .rp [.ro 1 (nums e_z_i)] 0), (111, .d (.ro 1 (nums e_z_i))), (113, .ag [.u ((flB l z i).view.id.round), .z ((flB l z i).view.id.server.node), .u ((flB l z i).view.id.server.inc), .d (.ro 2 (procs (flB l z i).view.members)), .d (.ro 1 (nums (flB l z i).view.starts)), .d (.ro 1 (streams (flB l z i).streams)), .d (.ro 1 (nums (flB l z i).handed))]), (114, .d (.ro 1 (nums e_z_i))), (115, .tu [.ag [.u ((flA l z (i + 1)).view.id.round), .z ((flA l z (i + 1)).view.id.server.node), .u ((flA l z (i + 1)).view.id.server.inc), .sl 5 ((procs (flA l z (i + 1)).view.members).length), .sl 6 ((nums (flA l z (i + 1)).view.starts).length), .sl 7 ((streams (flA l z (i + 1)).streams).length), .sl 8 ((nums (flA l z (i + 1)).handed).length)], .sl 9 ((msgsO (outN l z i)).length)]), (112, .tu [.ag [.u ((flA l z (i + 1)).view.id.round), .z ((flA l z (i + 1)).view.id.server.node), .u ((flA l z (i + 1)).view.id.server.inc), .sl 5 ((procs (flA l z (i + 1)).view.members).length), .sl 6 ((nums (flA l z (i + 1)).view.starts).length), .sl 7 ((streams (flA l z (i + 1)).streams).length), .sl 8 ((nums (flA l z (i + 1)).handed).length)], .sl 9 ((msgsO (outN l z i)).length)]), (116, .ag [.u ((flA l z (i + 1)).view.id.round), .z ((flA l z (i + 1)).view.id.server.node), .u ((flA l z (i + 1)).view.id.server.inc), .sl 5 ((procs (flA l z (i + 1)).view.members).length), .sl 6 ((nums (flA l z (i + 1)).view.starts).length), .sl 7 ((streams (flA l z (i + 1)).streams).length), .sl 8 ((nums (flA l z (i + 1)).handed).length)]), (117, .sl 9 ((msgsO (outN l z i)).length)), (18, .pt 10 0), (19, .d (.ro 4 (msgs (outN l z i))))]) (M3 := [.bx 30 [.u View.pair.id.round, .z View.pair.id.server.node, .u View.pair.id.server.inc, .d (.ro 2 (procs View.pair.members)), .d (.ro 1 (nums View.pair.starts))], .bx 33 [.u ((flB l z i).view.id.round), .z ((flB l z i).view.id.server.node), .u ((flB l z i).view.id.server.inc), .d (.ro 2 (procs (flB l z i).view.members)), .d (.ro 1 (nums (flB l z i).view.starts)), .d (.ro 1 (streams (flB l z i).streams)), .d (.ro 1 (nums (flB l z i).handed))], .rw 58 1 (strs (fsA l z (i + 1))), .rw 60 1 (bools (cmA l z (i + 1))), .rw 61 1 (nums (flA l z i).handed), .dead, .dead, .dead, .dead, .dead, .bx 33 [.u ((flA l z (i + 1)).view.id.round), .z ((flA l z (i + 1)).view.id.server.node), .u ((flA l z (i + 1)).view.id.server.inc), .d (.ro 2 (procs (flA l z (i + 1)).view.members)), .d (.ro 1 (nums (flA l z (i + 1)).view.starts)), .d (.ro 1 (streams (flA l z (i + 1)).streams)), .d (.ro 1 (nums (flA l z (i + 1)).handed))]]) [19] [(10, 3), (10, 4), (10, 5), (10, 6)] (by kernel_rfl) (by kernel_rfl) (an (rfN ((msgsO (outN l z i)).length)) trivial) (an (rfN ((procs (flA l z (i + 1)).view.members).length)) (an (rfN ((nums (flA l z (i + 1)).view.starts).length)) (an (rfN ((streams (flA l z (i + 1)).streams).length)) (an (rfN ((nums (flA l z (i + 1)).handed).length)) trivial)))) (by simp only [froz_procs, froz_nums, froz_streams, froz_strm, froz_msgs, froz_msgs', froz_slots, froz_slots', froz_bytes, froz_ebytes, froz_enums]) (by simp only [froz_procs, froz_nums, froz_streams, froz_strm, froz_msgs, froz_msgs', froz_slots, froz_slots', froz_bytes, froz_ebytes, froz_enums])
          refine toAt (todo' := aft Try.f5 27) (E' := [(0, .d (.ro 4 (msgs l))), (1, .d (.ro 1 (uptos z))), (5, .pt 0 0), (6, .pt 1 0), (7, .ep 2 1 (0) 0), (8, .ep 3 1 (0) 0), (9, .ep 4 1 (0) 0), (10, .n i), (19, .d (.ro 4 (msgs (outN l z i))))]) (M' := [.bx 30 [.u View.pair.id.round, .z View.pair.id.server.node, .u View.pair.id.server.inc, .d (.ro 2 (procs View.pair.members)), .d (.ro 1 (nums View.pair.starts))], .bx 33 [.u ((flA l z (i + 1)).view.id.round), .z ((flA l z (i + 1)).view.id.server.node), .u ((flA l z (i + 1)).view.id.server.inc), .d (.ro 2 (procs (flA l z (i + 1)).view.members)), .d (.ro 1 (nums (flA l z (i + 1)).view.starts)), .d (.ro 1 (streams (flA l z (i + 1)).streams)), .d (.ro 1 (nums (flA l z (i + 1)).handed))], .rw 58 1 (strs (fsA l z (i + 1))), .rw 60 1 (bools (cmA l z (i + 1))), .rw 61 1 (nums (flA l z i).handed)]) tb_ok mixed_ok hK [] 2 [0, 1, 2, 3, 4] [0, 1, 5, 6, 7, 8, 9, 10, 19] r (by kernel_rfl) trivial fun ac wd r => ?_
          exact J27 ac wd (r.cast rfl (by rw [show nxA l z i 0 = (flA l z i).handed from (nxtL_zero oG _).symm.trans (flB_handed ge_l_i)]))
      intro ac wd r
      refine toHead (todo' := hd Try.f5 1) (E' := [(0, .d (.ro 4 (msgs l))), (1, .d (.ro 1 (uptos z))), (5, .pt 0 0), (6, .pt 1 0), (7, .ep 2 1 (0) 0), (8, .ep 3 1 (0) 0), (9, .ep 4 1 (0) 0), (10, .n i), (19, .d (.ro 4 (msgs (outN l z i)))), (20, .n 0)]) (M' := [.bx 30 [.u View.pair.id.round, .z View.pair.id.server.node, .u View.pair.id.server.inc, .d (.ro 2 (procs View.pair.members)), .d (.ro 1 (nums View.pair.starts))], .bx 33 [.u ((flA l z (i + 1)).view.id.round), .z ((flA l z (i + 1)).view.id.server.node), .u ((flA l z (i + 1)).view.id.server.inc), .d (.ro 2 (procs (flA l z (i + 1)).view.members)), .d (.ro 1 (nums (flA l z (i + 1)).view.starts)), .d (.ro 1 (streams (flA l z (i + 1)).streams)), .d (.ro 1 (nums (flA l z (i + 1)).handed))], .rw 58 1 (strs (fsA l z (i + 1))), .rw 60 1 (bools (cmA l z (i + 1))), .rw 61 1 (nums (nxA l z i 0))]) tb_ok mixed_ok hK [] 2000 [0, 1, 2, 3, 4] [0, 1, 5, 6, 7, 8, 9, 10, 19, 20] r (by kernel_rfl) trivial fun ac wd r => ?_
      refine Goes.rounds (Φ := fun (n : Nat) ac wd => (n ≤ (outN l z i).length) ∧ RE' [] w0 K 176 [(0, .d (.ro 4 (msgs l))), (1, .d (.ro 1 (uptos z))), (5, .pt 0 0), (6, .pt 1 0), (7, .ep 2 1 (0) 0), (8, .ep 3 1 (0) 0), (9, .ep 4 1 (0) 0), (10, .n i), (19, .d (.ro 4 (msgs (outN l z i)))), (20, .n n)] [.bx 30 [.u View.pair.id.round, .z View.pair.id.server.node, .u View.pair.id.server.inc, .d (.ro 2 (procs View.pair.members)), .d (.ro 1 (nums View.pair.starts))], .bx 33 [.u ((flA l z (i + 1)).view.id.round), .z ((flA l z (i + 1)).view.id.server.node), .u ((flA l z (i + 1)).view.id.server.inc), .d (.ro 2 (procs (flA l z (i + 1)).view.members)), .d (.ro 1 (nums (flA l z (i + 1)).view.starts)), .d (.ro 1 (streams (flA l z (i + 1)).streams)), .d (.ro 1 (nums (flA l z (i + 1)).handed))], .rw 58 1 (strs (fsA l z (i + 1))), .rw 60 1 (bools (cmA l z (i + 1))), .rw 61 1 (nums (nxA l z i n))] ac wd) ((outN l z i).length) ?_ (Nat.zero_le _) ⟨by omega, r⟩
      clear r
      rintro n hi1 again1 ac wd ⟨hv1, r⟩
      cases h12 : (decide ((((n : Nat) : Int) : Int) < (((outN l z i).length : Nat) : Int))) with
      | false =>
        have qh12 := of_decide_eq_false h12
        exact toHead (todo' := hd Try.f5 0) (E' := [(0, .d (.ro 4 (msgs l))), (1, .d (.ro 1 (uptos z))), (5, .pt 0 0), (6, .pt 1 0), (7, .ep 2 1 (0) 0), (8, .ep 3 1 (0) 0), (9, .ep 4 1 (0) 0), (10, .n (i + 1))]) (M' := [.bx 30 [.u View.pair.id.round, .z View.pair.id.server.node, .u View.pair.id.server.inc, .d (.ro 2 (procs View.pair.members)), .d (.ro 1 (nums View.pair.starts))], .bx 33 [.u ((flA l z (i + 1)).view.id.round), .z ((flA l z (i + 1)).view.id.server.node), .u ((flA l z (i + 1)).view.id.server.inc), .d (.ro 2 (procs (flA l z (i + 1)).view.members)), .d (.ro 1 (nums (flA l z (i + 1)).view.starts)), .d (.ro 1 (streams (flA l z (i + 1)).streams)), .d (.ro 1 (nums (flA l z (i + 1)).handed))], .rw 58 1 (strs (fsA l z (i + 1))), .rw 60 1 (bools (cmA l z (i + 1))), .rw 61 1 (nums (nxA l z i n))]) tb_ok mixed_ok hK [(10, [(1, .z (((i + 1 : Nat) : Int)))]), (29, [(2, .z ((((outN l z i).length : Nat) : Int))), (3, .b false)]), (36, [(1, .con (.v (.bool true)))])] 2000 [0, 1, 2, 3, 4] [0, 1, 5, 6, 7, 8, 9, 10] r (by kernel_rfl) (an ((by first | rfl | simp [bytesR]) : (((msgs (outN l z i)).length : Nat) : Int) = (((outN l z i).length : Nat) : Int)) (an h12 (an (may5 oH) (an ((wi (by omega)) : IntKind.i64.wrap ((((i : Nat) : Int) : Int) + 1) = ((i + 1 : Nat) : Int)) trivial)))) fun ac wd r => again0 (by omega) ac wd ⟨oH, r.cast rfl (by rw [show n = (outN l z i).length by omega, show nxA l z i (outN l z i).length = (flA l z (i + 1)).handed from (nxtL_all oG _).trans (by rw [flA_next ge_l_i])])⟩
      | true =>
        have qh12 := of_decide_eq_true h12
        obtain ⟨x, gx⟩ : ∃ x, (outN l z i)[n]? = some x := ⟨_, List.getElem?_eq_getElem (by omega)⟩
        obtain ⟨hx1, hx0, hx2, hx3, hx4, hx6, hx7, hx8, hx9⟩ := oG.out gx
        have hx5 : placeN View.pair.members x.src < 2 := hx0
        exact toHead (todo' := hd Try.f5 1) (E' := [(0, .d (.ro 4 (msgs l))), (1, .d (.ro 1 (uptos z))), (5, .pt 0 0), (6, .pt 1 0), (7, .ep 2 1 (0) 0), (8, .ep 3 1 (0) 0), (9, .ep 4 1 (0) 0), (10, .n i), (19, .d (.ro 4 (msgs (outN l z i)))), (20, .n (n + 1))]) (M' := [.bx 30 [.u View.pair.id.round, .z View.pair.id.server.node, .u View.pair.id.server.inc, .d (.ro 2 (procs View.pair.members)), .d (.ro 1 (nums View.pair.starts))], .bx 33 [.u ((flA l z (i + 1)).view.id.round), .z ((flA l z (i + 1)).view.id.server.node), .u ((flA l z (i + 1)).view.id.server.inc), .d (.ro 2 (procs (flA l z (i + 1)).view.members)), .d (.ro 1 (nums (flA l z (i + 1)).view.starts)), .d (.ro 1 (streams (flA l z (i + 1)).streams)), .d (.ro 1 (nums (flA l z (i + 1)).handed))], .rw 58 1 (strs (fsA l z (i + 1))), .rw 60 1 (bools (cmA l z (i + 1))), .rw 61 1 (List.set (nums (nxA l z i n)) (0 + (placeN View.pair.members x.src) * 1) [.u x.n])]) tb_ok mixed_ok hK [(29, [(2, .z ((((outN l z i).length : Nat) : Int))), (3, .b true)]), (30, [(1, .z (((n + 1 : Nat) : Int)))]), (31, [(2, .ix (n) [.z x.src.node, .u x.src.inc, .u x.n, .ro 1 (bytesR x.body)])]), (32, [(3, .con (.tu [.n (placeN View.pair.members x.src), .v (.bool true)]))]), (33, [(6, .n2 (placeN View.pair.members x.src) 0), (7, .ix 0 [.u ((x.n - 1))]), (8, .z (((x.n : Nat) : Int))), (9, .b false), (15, .n2 (placeN View.pair.members x.src) 0), (16, .n2 (x.n) 0), (17, .ix 0 [.v (.bool true)]), (24, .n2 (placeN View.pair.members x.src) 0), (25, .n2 (x.n) 0), (26, .ix 0 [.v (.string ⟨(x.body).toArray⟩)]), (29, .res (.v (.string ⟨(x.body).toArray⟩))), (30, .b false)]), (35, [(3, .n2 (placeN View.pair.members x.src) 0), (4, .ix 0 [.u ((x.n - 1))])])] 2000 [0, 1, 2, 3, 4] [0, 1, 5, 6, 7, 8, 9, 10, 19, 20] r (by kernel_rfl) (an ((by first | rfl | simp [bytesR]) : (((msgs (outN l z i)).length : Nat) : Int) = (((outN l z i).length : Nat) : Int)) (an h12 (an (rfI ((n : Nat) : Int)) (an (msgs_at gx) (an (place5t hx1) (an (rfI ((placeN View.pair.members x.src : Nat) : Int)) (an ((by first | omega | exact pN_lt (by assumption) | decide) : (placeN View.pair.members x.src) < 2) (an (nums_at hx6 : (nums (nxA l z i n))[0 + (placeN View.pair.members x.src) * 1]? = some [.u ((x.n - 1))]) (an ((wu (by omega)) : IntKind.u64.wrap (((((x.n - 1) : Nat) : Int) : Int) + 1) = ((x.n : Nat) : Int)) (an ((by simp) : ((((x.n : Nat) : Int) : Int) != ((x.n : Nat) : Int)) = false) (an (rfI ((placeN View.pair.members x.src : Nat) : Int)) (an ((by first | omega | exact pN_lt (by assumption) | decide) : (placeN View.pair.members x.src) < 2) (an (rfI ((x.n : Nat) : Int)) (an ((by first | omega | exact pN_lt (by assumption) | decide) : (x.n) < 17) (an (bools_at hx7 : (bools (cmA l z (i + 1)))[0 + (placeN View.pair.members x.src) * 17 + (x.n) * 1]? = some [.v (.bool true)]) (an (rfI ((placeN View.pair.members x.src : Nat) : Int)) (an ((by first | omega | exact pN_lt (by assumption) | decide) : (placeN View.pair.members x.src) < 2) (an (rfI ((x.n : Nat) : Int)) (an ((by first | omega | exact pN_lt (by assumption) | decide) : (x.n) < 17) (an (strs_at hx8 : (strs (fsA l z (i + 1)))[0 + (placeN View.pair.members x.src) * 17 + (x.n) * 1]? = some [.v (.string ⟨(x.body).toArray⟩)]) (an (rfl : bytesR x.body = bytesR (x.body)) (an ((by simp) : (x.body != x.body) = false) (an (rfI ((placeN View.pair.members x.src : Nat) : Int)) (an ((by first | omega | exact pN_lt (by assumption) | decide) : (placeN View.pair.members x.src) < 2) (an (nums_at hx6 : (nums (nxA l z i n))[0 + (placeN View.pair.members x.src) * 1]? = some [.u ((x.n - 1))]) (an ((wi (by omega)) : IntKind.i64.wrap ((((n : Nat) : Int) : Int) + 1) = ((n + 1 : Nat) : Int)) trivial)))))))))))))))))))))))))) fun ac wd r => again1 (by omega) ac wd ⟨by omega, r.cast rfl (by rw [nums_set, show (nxA l z i n).set (0 + placeN View.pair.members x.src * 1) x.n = nxA l z i (n + 1) from hx9])⟩
  | true =>
    have qh0 := of_decide_eq_true h0
    exact toRet tb_ok mixed_ok hK rfl [(1, [(1, .z (((l.length : Nat) : Int))), (2, .b true)]), (2, [(0, .con (.v (.bool true)))])] 2000 r (by kernel_rfl) (an ((by first | rfl | simp [bytesR]) : (((msgs l).length : Nat) : Int) = ((l.length : Nat) : Int)) (an h0 (an (awakeOk) trivial)))
end Go.Proofs.Ytoijfmfkkmbabaa
namespace Go.Proofs.Ytoijfmfkkmbabaa
open Go.RowKit Go.Deep
theorem trodAll_gr {H : Type} {enc : TypeId × Value → H} {P : Program} (hl : laidOutB P = true) {W W' : World} (g : Gr W W') : ∀ {ts : List TypeId} {vs : List Value} {ds : List (DataW H)} {ps : List MemPlace}, (∀ t ∈ ts, P.readableRec t = true ∧ t < P.types.size) → DataW.TrodAll enc P W 0 (fun _ => true) true ts vs ds ps → (∀ x ∈ ps, x.block < W.heap.size) → DataW.TrodAll enc P W' 0 (fun b => decide (b < W.heap.size)) true ts vs ds ps
  | [], [], [], _, _, h, _ => h
  | [], _ :: _, _, _, _, h, _ => h.elim
  | [], [], _ :: _, _, _, h, _ => h.elim
  | _ :: _, [], _, _, _, h, _ => h.elim
  | _ :: _, _ :: _, [], _, _, h, _ => h.elim
  | t :: ts, v :: vs, d :: ds, ps, ht, h, hp => by
    obtain ⟨p, q, h1, h2, rfl⟩ := h
    refine ⟨p, q, Below.trod hl (ht t (by simp)).1 (ht t (by simp)).2 h1 g (fun x hx => hp x (by simp [hx])), trodAll_gr hl g (fun t' h' => ht t' (by simp [h'])) h2 (fun x hx => hp x (by simp [hx])), rfl⟩
theorem law_post {H : Type} {enc : TypeId × Value → H} {P : Program} {f : Func} {s : ChangeSpec} {W W' : World} {args : Array Value} {ds gs : List (DataW H)} {before : List MemPlace} {tb : TypeId} (hl : laidOutB P = true)
    (hp : f.params.toList.all (fun t => P.readableRec t && decide (t < P.types.size)) = true) (hr : f.resultTypes = #[tb]) (ht : P.underlying tb = some .bool) (hv : s.vars = [])
    (hW : DataW.Whole enc P f.params.toList s.vars false W args.toList ds gs before) (hfn : s.fn H (ds ++ gs) = { results := [.lit (.bool true)], args := ds }) (g : Gr W W') : s.post enc P f false true false false W args (.bool true) W' := by
  have hW' := hW
  have hlt := hW.lt
  obtain ⟨p, q, hA, hV, rfl, hfz, hnd⟩ := hW
  rw [hv] at hV
  match gs, hV with
  | [], hV =>
    cases hV
    refine ⟨ds, [], _, [], p, [], hW', ?_, ?_, ?_, ?_, fun h => by cases h⟩
    · rw [hfn, hr]
      exact ⟨[], [], ⟨1, by simp [DataW.trod, ht, Value.cells]⟩, rfl, rfl⟩
    · rw [hfn]
      refine trodAll_gr hl g (fun t h => ?_) hA (fun x hx => hlt x (by simp [hx]))
      have := List.all_eq_true.1 hp t h
      simpa using this
    · rw [hfn, hv]; rfl
    · exact Below.frame g _
def TR (P : Program) (w : World) (t : TypeId) (cs : List Value) : Prop := ∃ (H : Type) (enc : TypeId × Value → H) (base : Nat) (sp : Nat → Bool) (held : Bool) (fuel : Nat) (x : DataW H × List MemPlace), DataW.trod enc P w base sp held fuel t cs = some x
theorem TR.of {H : Type} {enc : TypeId × Value → H} {P : Program} {w : World} {base : Nat} {sp : Nat → Bool} {held : Bool} {t : TypeId} {v : Value} {d : DataW H} {ps : List MemPlace} (h : DataW.Trod enc P w base sp held t v d ps) : TR P w t v.cells.toList := by
  obtain ⟨n, h⟩ := h; exact ⟨H, enc, base, sp, held, n, _, h⟩
section
variable {P : Program} {w : World} {t e : TypeId} {cs : List Value}
theorem TR.int {k : IntKind} (ht : P.underlying t = some (.int k)) (h : TR P w t cs) : ∃ n, cs = [.int k n] ∧ (Lit.int k n).wf = true := by
  obtain ⟨H, enc, base, sp, held, fuel, x, h⟩ := h
  cases fuel with
  | zero => simp [DataW.trod] at h
  | succ fuel =>
    rw [DataW.trod_step] at h; unfold DataW.trodStep at h; simp only [ht] at h
    split at h <;> simp_all
theorem TR.bool (ht : P.underlying t = some .bool) (h : TR P w t cs) : ∃ b, cs = [.bool b] := by
  obtain ⟨H, enc, base, sp, held, fuel, x, h⟩ := h
  cases fuel with
  | zero => simp [DataW.trod] at h
  | succ fuel =>
    rw [DataW.trod_step] at h; unfold DataW.trodStep at h; simp only [ht] at h
    split at h <;> simp_all
theorem TR.string (ht : P.underlying t = some .string) (h : TR P w t cs) : ∃ l : List UInt8, cs = [.string ⟨l.toArray⟩] ∧ l.length ≤ maxLen := by
  obtain ⟨H, enc, base, sp, held, fuel, x, h⟩ := h
  cases fuel with
  | zero => simp [DataW.trod] at h
  | succ fuel =>
    rw [DataW.trod_step] at h; unfold DataW.trodStep at h; simp only [ht] at h
    split at h <;> try simp_all
    rename_i s
    exact ⟨s.data.toList, by simp, by rw [Array.length_toList]; exact h.1⟩
theorem cells?_some {base : Nat} {a : Addr} {n : Nat} {X : List Value} (h : w.cells? base a n = some X) : X.length = n ∧ ∀ j (hj : j < X.length), w.cell? (a.add j) = some X[j] := by
  obtain ⟨_, h1, h2⟩ := World.cells?_some h
  exact ⟨h1, fun j hj => by rw [h2 j (by omega)]; exact List.getElem?_eq_getElem hj⟩
theorem mapM_each {α β : Type} {f : α → Option β} : ∀ {l : List α} {r : List β}, l.mapM f = some r → ∀ x ∈ l, ∃ y, f x = some y
  | [], _, _, x, hx => by simp at hx
  | z :: l, r, h, x, hx => by
    rw [List.mapM_cons] at h
    obtain ⟨y, h1, h2⟩ := Option.bind_eq_some_iff.1 h
    obtain ⟨ys, h3, _⟩ := Option.bind_eq_some_iff.1 h2
    rcases List.mem_cons.1 hx with rfl | hx
    · exact ⟨y, h1⟩
    · exact mapM_each h3 x hx
theorem flat_len {X : Nat → List Value} {c : Nat} : ∀ {n : Nat}, (∀ i, i < n → (X i).length = c) → ((List.range n).flatMap X).length = n * c
  | 0, _ => by simp
  | k + 1, h => by rw [List.range_succ, List.flatMap_append, List.length_append, flat_len (n := k) (fun i hi => h i (by omega))]; simp [h k (by omega), Nat.succ_mul]
theorem TR.slice (ht : P.underlying t = some (.slice e)) (h : TR P w t cs) : ∃ (v : Value) (n : Nat) (X : Nat → List Value), cs = [v] ∧ n ≤ maxLen ∧ (∀ i, i < n → (X i).length = P.cellsOf e ∧ TR P w e (X i)) ∧ Src w (P.cellsOf e) v n ((List.range n).flatMap X) := by
  obtain ⟨H, enc, base, sp, held, fuel, x, h⟩ := h
  rcases open_slice ht h with ⟨rfl, _⟩ | ⟨a, len, cap, m, n, D, Pl, rfl, _, hlc, hmax, hm, _, hx⟩
  · exact ⟨_, 0, fun _ => [], rfl, by simp [maxLen], fun i hi => by omega, by simp [Src]⟩
  · have hle : len ≤ m := by rw [hm]; split <;> omega
    obtain ⟨X, hX⟩ := choose_lt (n := len) (α := List Value) (p := fun i c => w.cells? base (a.add (i * P.cellsOf e)) (P.cellsOf e) = some c ∧ DataW.trod enc P w base sp held n e c = some (D i, Pl i)) (fun i hi => hx i (by omega))
    have hlen : ∀ i, i < len → (X i).length = P.cellsOf e := fun i hi => (cells?_some (hX i hi).1).1
    refine ⟨_, len, X, rfl, by omega, fun i hi => ⟨hlen i hi, H, enc, base, sp, held, n, _, (hX i hi).2⟩, ?_, ?_⟩
    · exact flat_len hlen
    · refine Or.inr ⟨a, cap, rfl, ?_⟩
      have key : ∀ k, k ≤ len → ∀ j (hj : j < ((List.range k).flatMap X).length), w.cell? (a.add j) = some ((List.range k).flatMap X)[j] := by
        intro k
        induction k with
        | zero => intro _ j hj; simp at hj
        | succ k ih =>
          intro hk j hj
          have hl0 : ((List.range k).flatMap X).length = k * P.cellsOf e := flat_len (fun i hi => hlen i (by omega))
          have hE : (List.range (k + 1)).flatMap X = (List.range k).flatMap X ++ X k := by rw [List.range_succ, List.flatMap_append]; simp
          have hj2 : j < ((List.range k).flatMap X ++ X k).length := by rw [← hE]; exact hj
          have hgoal : ((List.range (k + 1)).flatMap X)[j] = ((List.range k).flatMap X ++ X k)[j] := by congr 1
          rw [hgoal]
          by_cases h1 : j < ((List.range k).flatMap X).length
          · rw [List.getElem_append_left h1]; exact ih (by omega) j h1
          · rw [List.getElem_append_right (by omega)]
            have h2 := (cells?_some (hX k (by omega)).1).2 (j - ((List.range k).flatMap X).length) (by rw [List.length_append] at hj2; omega)
            rw [← h2, Addr.add_add']
            congr 2
            omega
      exact key len (Nat.le_refl _)
theorem TR.struct {fs : Array Field} (ht : P.underlying t = some (.struct fs)) (h : TR P w t cs) : cs.length = P.cellsOf t ∧ ∀ f ∈ fs.toList, TR P w f.type ((cs.drop f.offset).take (P.cellsOf f.type)) := by
  obtain ⟨H, enc, base, sp, held, fuel, x, h⟩ := h
  cases fuel with
  | zero => simp [DataW.trod] at h
  | succ fuel =>
    rw [DataW.trod_step] at h; unfold DataW.trodStep at h; simp only [ht] at h
    split at h
    · rename_i hlen
      refine ⟨hlen, fun f hf => ?_⟩
      obtain ⟨xs, h1, _⟩ := Option.map_eq_some_iff.1 h
      obtain ⟨y, hy⟩ := mapM_each h1 f hf
      exact ⟨H, enc, base, sp, held, fuel, _, hy⟩
    · simp at h
theorem TR.array {n : Nat} (ht : P.underlying t = some (.array n e)) (h : TR P w t cs) : cs.length = P.cellsOf t ∧ ∀ i, i < n → TR P w e ((cs.drop (i * P.cellsOf e)).take (P.cellsOf e)) := by
  obtain ⟨H, enc, base, sp, held, fuel, x, h⟩ := h
  cases fuel with
  | zero => simp [DataW.trod] at h
  | succ fuel =>
    rw [DataW.trod_step] at h; unfold DataW.trodStep at h; simp only [ht] at h
    split at h
    · rename_i hlen
      refine ⟨hlen, fun i hi => ?_⟩
      obtain ⟨xs, h1, _⟩ := Option.map_eq_some_iff.1 h
      obtain ⟨y, hy⟩ := mapM_each h1 i (by simpa using hi)
      exact ⟨H, enc, base, sp, held, fuel, _, hy⟩
    · simp at h
end
end Go.Proofs.Ytoijfmfkkmbabaa
namespace Go.Proofs.Ytoijfmfkkmbabaa
open Go.RowKit Go.Deep
def DRs (w : World) (l : List DV) (cs : List Value) : Prop := cs.length = l.length ∧ ∀ (j : Nat) c v, l[j]? = some c → cs[j]? = some v → DRel (Gr w) c v []
theorem DRs.one {w : World} {c : DV} {v : Value} (h : DRel (Gr w) c v []) : DRs w [c] [v] := ⟨rfl, fun j c' v' h1 h2 => by
  cases j with
  | zero => simp at h1 h2; subst h1 h2; exact h
  | succ j => simp at h1⟩
theorem DRs.app {w : World} {l l' : List DV} {cs cs' : List Value} (h : DRs w l cs) (h' : DRs w l' cs') : DRs w (l ++ l') (cs ++ cs') := ⟨by simp [h.1, h'.1], fun j c v h1 h2 => by
  have e := h.1
  by_cases hj : j < l.length
  · rw [List.getElem?_append_left hj] at h1; rw [List.getElem?_append_left (by omega)] at h2; exact h.2 j c v h1 h2
  · rw [List.getElem?_append_right (by omega)] at h1; rw [List.getElem?_append_right (by omega), e] at h2; exact h'.2 _ c v h1 h2⟩
def Rd (P : Program) (w : World) (t : TypeId) {α : Type} (row : α → List DV) (ok : α → Prop) : Prop := ∀ cs, TR P w t cs → ∃ x, ok x ∧ DRs w (row x) cs
variable {P : Program} {w : World} {t e : TypeId} {α β γ : Type}
theorem Rd.u64 (h : P.underlying t = some (.int .u64)) : Rd P w t (fun n : Nat => [.u n]) fun n => n ≤ 18446744073709551615 := fun cs hc => by
  obtain ⟨n, rfl, hw⟩ := hc.int h
  have hw' : (0 : Int) ≤ n ∧ n ≤ 18446744073709551615 := by simpa [Lit.wf, IntKind.min, IntKind.max, IntKind.signed, IntKind.bits] using hw
  have e : n = ((n.toNat : Nat) : Int) := by omega
  refine ⟨n.toNat, by omega, .one ?_⟩
  show DRel _ (.v (.int .u64 ((n.toNat : Nat) : Int))) _ _
  rw [← e]; exact .v _
theorem Rd.int (h : P.underlying t = some (.int .i64)) : Rd P w t (fun n : Int => [.z n]) fun _ => True := fun cs hc => by
  obtain ⟨n, rfl, hw⟩ := hc.int h
  exact ⟨n, trivial, .one (.v _)⟩
theorem Rd.byte (h : P.underlying t = some (.int .u8)) : Rd P w t (fun b : UInt8 => [.v (.int .u8 (b.toNat : Int))]) fun _ => True := fun cs hc => by
  obtain ⟨n, rfl, hw⟩ := hc.int h
  have hw' : (0 : Int) ≤ n ∧ n ≤ 255 := by simpa [Lit.wf, IntKind.min, IntKind.max, IntKind.signed, IntKind.bits] using hw
  have e : n = (((UInt8.ofNat n.toNat).toNat : Nat) : Int) := by simp; omega
  refine ⟨UInt8.ofNat n.toNat, trivial, .one ?_⟩
  rw [← e]; exact .v _
theorem Rd.slice [Inhabited α] {k : Nat} {row : α → List DV} {ok : α → Prop} (h : P.underlying t = some (.slice e)) (hk : P.cellsOf e = k) (hr : Rd P w e row ok) : Rd P w t (fun l : List α => [.ro k (l.map row)]) fun l => l.length ≤ 9223372036854775807 ∧ ∀ x ∈ l, ok x := fun cs hc => by
  subst hk
  obtain ⟨v, n, X, rfl, hn, hX, hs⟩ := hc.slice h
  obtain ⟨Y, hY⟩ := choose_lt (n := n) (α := α) (p := fun i x => ok x ∧ DRs w (row x) (X i)) fun i hi => hr _ (hX i hi).2
  have hg : ∀ (i : Nat) r, (((List.range n).map Y).map row)[i]? = some r → i < n ∧ r = row (Y i) := fun i r hi => by
    have hlt := (List.getElem?_eq_some_iff.1 hi).1
    simp at hlt
    simp [hlt] at hi
    exact ⟨hlt, hi.symm⟩
  have hl : (((List.range n).map Y).map row).length = n := by simp
  refine ⟨(List.range n).map Y, ⟨by simp; exact Nat.le_trans hn (by decide), ?_⟩, .one (.ro X (fun i r hi => ?_) ?_ (fun w' g => ?_) fun i r j c x h1 h2 h3 => ?_)⟩
  · intro x hx
    obtain ⟨i, hi, rfl⟩ := List.mem_map.1 hx
    exact (hY i (by simpa using hi)).1
  · obtain ⟨hi', rfl⟩ := hg i r hi
    refine ⟨?_, (hX i hi').1⟩
    rw [← (hX i hi').1]; exact (hY i hi').2.1.symm
  · rw [hl]
    rcases hs.2 with ⟨rfl, a, c, rfl⟩ | ⟨a, c, rfl, -⟩
    · exact ⟨_, _, rfl⟩
    · exact ⟨_, _, rfl⟩
  · rw [hl]; exact hs.gr g
  · obtain ⟨hi', rfl⟩ := hg i r h1
    exact (hY i hi').2.2 j c x h2 h3
theorem Rd.map {row : α → List DV} {ok : α → Prop} (hr : Rd P w t row ok) (g : α → β) {row' : β → List DV} {ok' : β → Prop} (h1 : ∀ x, row x = row' (g x)) (h2 : ∀ x, ok x → ok' (g x)) : Rd P w t row' ok' := fun cs hc => by
  obtain ⟨x, h3, h4⟩ := hr cs hc
  exact ⟨g x, h2 x h3, h1 x ▸ h4⟩
theorem Rd.one {f0 : Field} {k0 : Nat} {row0 : α → List DV} {ok0 : α → Prop} (h : P.underlying t = some (.struct #[f0])) (h0 : f0.offset = 0) (hk0 : P.cellsOf f0.type = k0) (ht : P.cellsOf t = k0) (r0 : Rd P w f0.type row0 ok0) : Rd P w t row0 ok0 := fun cs hc => by
  obtain ⟨hl, hf⟩ := hc.struct h
  have a0 := hf f0 (by simp)
  rw [h0, hk0, List.drop_zero, List.take_of_length_le (by omega)] at a0
  exact r0 _ a0
theorem Rd.two {f0 f1 : Field} {k0 k1 : Nat} {row0 : α → List DV} {row1 : β → List DV} {ok0 : α → Prop} {ok1 : β → Prop} (h : P.underlying t = some (.struct #[f0, f1])) (h0 : f0.offset = 0) (h1 : f1.offset = k0) (hk0 : P.cellsOf f0.type = k0) (hk1 : P.cellsOf f1.type = k1) (ht : P.cellsOf t = k0 + k1)
    (r0 : Rd P w f0.type row0 ok0) (r1 : Rd P w f1.type row1 ok1) : Rd P w t (fun x : α × β => row0 x.1 ++ row1 x.2) fun x => ok0 x.1 ∧ ok1 x.2 := fun cs hc => by
  obtain ⟨hl, hf⟩ := hc.struct h
  have a0 := hf f0 (by simp)
  have a1 := hf f1 (by simp)
  rw [h0, hk0, List.drop_zero] at a0
  rw [h1, hk1, List.take_of_length_le (by simp; omega)] at a1
  obtain ⟨x, b0, c0⟩ := r0 _ a0
  obtain ⟨y, b1, c1⟩ := r1 _ a1
  exact ⟨(x, y), ⟨b0, b1⟩, by have := c0.app c1; rwa [List.take_append_drop] at this⟩
theorem Rd.three {f0 f1 f2 : Field} {k0 k1 k2 : Nat} {row0 : α → List DV} {row1 : β → List DV} {row2 : γ → List DV} {ok0 : α → Prop} {ok1 : β → Prop} {ok2 : γ → Prop} (h : P.underlying t = some (.struct #[f0, f1, f2])) (h0 : f0.offset = 0) (h1 : f1.offset = k0) (h2 : f2.offset = k0 + k1)
    (hk0 : P.cellsOf f0.type = k0) (hk1 : P.cellsOf f1.type = k1) (hk2 : P.cellsOf f2.type = k2) (ht : P.cellsOf t = k0 + k1 + k2)
    (r0 : Rd P w f0.type row0 ok0) (r1 : Rd P w f1.type row1 ok1) (r2 : Rd P w f2.type row2 ok2) : Rd P w t (fun x : α × β × γ => row0 x.1 ++ (row1 x.2.1 ++ row2 x.2.2)) fun x => ok0 x.1 ∧ ok1 x.2.1 ∧ ok2 x.2.2 := fun cs hc => by
  obtain ⟨hl, hf⟩ := hc.struct h
  have a0 := hf f0 (by simp)
  have a1 := hf f1 (by simp)
  have a2 := hf f2 (by simp)
  rw [h0, hk0, List.drop_zero] at a0
  rw [h1, hk1] at a1
  rw [h2, hk2, List.take_of_length_le (by simp; omega), ← List.drop_drop] at a2
  obtain ⟨x, b0, c0⟩ := r0 _ a0
  obtain ⟨y, b1, c1⟩ := r1 _ a1
  obtain ⟨z, b2, c2⟩ := r2 _ a2
  exact ⟨(x, y, z), ⟨b0, b1, b2⟩, by have := c0.app (c1.app c2); rwa [List.take_append_drop, List.take_append_drop] at this⟩
theorem DRs.agg {l : List DV} {cs : Array Value} (h : DRs w l cs.toList) : ARel (Gr w) [] (.ag (l.map .d)) (.agg cs) := by
  have := ARel.ag (K := Gr w) (β := []) (l := l.map .d) cs.toList (by simpa using h.1) fun j c y h1 h2 => by
    rw [List.getElem?_map] at h1
    cases hc : l[j]? with
    | none => rw [hc] at h1; cases h1
    | some c' => rw [hc] at h1; simp at h1; subst h1; exact .d (h.2 j c' y hc h2)
  simpa using this
theorem DRs.v {c : DV} {v : Value} (h : DRs w [c] [v]) : ARel (Gr w) [] (.d c) v := .d (h.2 0 c v rfl rfl)
theorem Con.true {f : FuncId} {args : List AV} (h : Con P f args (.v (.bool true))) {ys : List Value} (hl : ys.length = args.length) (hr : ∀ (j : Nat) c y, args[j]? = some c → ys[j]? = some y → ARel (Gr w) [] c y) : Calls P f ys.toArray w fun e w' => e = .returned (.bool true) ∧ Gr w w' :=
  (h.2 w (Gr w) ys (fun _ g => g) hl hr).mono fun e w' ⟨r, he, hg, H, ⟨Ho, Hi, _, hd⟩, _⟩ => by
    cases hd with
    | v x => exact ⟨he, hg⟩
end Go.Proofs.Ytoijfmfkkmbabaa
namespace Go.Proofs.Ytoijfmfkkmbabaa
open Go.RowKit
theorem Try.own : ownKnob Try.prog.godebug = none := by kernel_rfl
theorem Try.laidOut : laidOutB Try.prog = true := by kernel_rfl
deriving instance Inhabited for Proc, Slot, Vid, View, Msg
abbrev Big : Nat := 9223372036854775807
variable {w : World}
theorem rd_proc : Rd Try.prog w 24 Proc.row fun _ => True := ((Rd.two Try.underlying24 rfl rfl (k0 := 1) (k1 := 1) (by kernel_rfl) (by kernel_rfl) (by kernel_rfl) (Rd.int Try.underlying3) (Rd.u64 Try.underlying22)).map fun x => Proc.mk x.1 x.2) (fun _ => rfl) fun _ _ => trivial
theorem rd_bytes : Rd Try.prog w 34 (fun l : List UInt8 => [.ro 1 (bytesR l)]) fun l => l.length ≤ Big := ((Rd.slice Try.underlying34 (by kernel_rfl) (Rd.byte Try.underlying5)).map id) (fun _ => rfl) fun _ h => h.1
theorem rd_nums : Rd Try.prog w 28 (fun l : List Nat => [.ro 1 (nums l)]) fun l => l.length ≤ Big ∧ ∀ n ∈ l, n ≤ 18446744073709551615 := Rd.slice Try.underlying28 (by kernel_rfl) (Rd.u64 Try.underlying22)
theorem rd_msg : Rd Try.prog w 36 Msg.row fun m => m.body.length ≤ Big := ((Rd.three Try.underlying36 rfl rfl rfl (k0 := 2) (k1 := 1) (k2 := 1) (by kernel_rfl) (by kernel_rfl) (by kernel_rfl) (by kernel_rfl) rd_proc (Rd.u64 Try.underlying22) rd_bytes).map fun x => Msg.mk x.1 x.2.1 x.2.2) (fun _ => rfl) fun _ h => h.2.2
def Vid.row (v : Vid) : List DV := .u v.round :: v.server.row
def View.row (v : View) : List DV := v.id.row ++ [.ro 2 (procs v.members), .ro 1 (nums v.starts)]
theorem rd_msgs : Rd Try.prog w 45 (fun l : List Msg => [.ro 4 (msgs l)]) fun l => l.length ≤ Big ∧ ∀ m ∈ l, m.body.length ≤ Big := Rd.slice Try.underlying45 (by kernel_rfl) rd_msg
theorem rd_upto : Rd Try.prog w 55 (fun l : List (List Nat) => [.ro 1 (l.map fun s => [.ro 1 (nums s)])]) fun l => l.length ≤ Big ∧ ∀ s ∈ l, s.length ≤ Big ∧ ∀ n ∈ s, n ≤ 18446744073709551615 := Rd.slice Try.underlying55 (by kernel_rfl) rd_nums
end Go.Proofs.Ytoijfmfkkmbabaa
namespace Go.Proofs.Ytoijfmfkkmbabaa
open Go.ChangeShapes Go.WideShapes Go.ChangeAt Go.RowKit
set_option maxRecDepth 100000 in
theorem streamOnce_lifted (os : Os) (started : os.Started) (H : Type) (enc : TypeId × Value → H) :
    ReturnsInHanded {} Try.checked os 5 .any (Rows.streamOnceSpec.pre6 enc Try.prog Try.f5 Rows.streamOnceRow.domain false) (Rows.streamOnceSpec.post enc Try.prog Try.f5 false true false false) := by
  refine returnsInHanded_of_change (C := Try.checked) Try.own started (by kernel_rfl) Try.func5
    (ChangeSpec.witness6 (enc := enc) (C := Try.checked) false ⟨#[], #[.slice none 0 0, .slice none 0 0], []⟩ 8 (by kernel_rfl) (by kernel_rfl) (by kernel_rfl) (by kernel_rfl)) ?_
  intro W base args ds gs before hval0 hW hcnd _
  have hW0 : DataW.Whole enc Try.prog Try.f5.params.toList Rows.streamOnceSpec.vars false W args.toList ds gs before := hW
  have hW' := hW0
  obtain ⟨p, q, hA0, hV, rfl, hfz, hnd⟩ := hW
  have hA : DataW.TrodAll enc Try.prog W 0 (fun _ => true) true Try.f5.params.toList args.toList ds p := hA0
  have hval : ∀ (j : Nat) t v, Try.f5.params[j]? = some t → args[j]? = some v → Value.okWide Try.prog W .any base t v := hval0
  rw [Try.params5] at hA hval
  obtain ⟨v0, vs0, d0, ds0, p0, q0, hargs0, rfl, rfl, h0, r0⟩ := trodAll_cons hA
  obtain ⟨v1, vs1, d1, ds1, p1, q1, hargs1, rfl, rfl, h1, r1⟩ := trodAll_cons r0
  subst hargs1
  obtain ⟨rfl, rfl, rfl⟩ := trodAll_nil r1
  obtain rfl : args = #[v0, v1] := by cases args; simp_all
  obtain ⟨rfl, rfl⟩ := trodVars_none hV
  obtain ⟨a0, n0, c0, rfl⟩ := okWide_slice (P := Try.prog) (e := 36) (by kernel_rfl) (hval 0 45 v0 rfl rfl)
  obtain ⟨l, hl, g0⟩ := rd_msgs _ (TR.of h0)
  obtain ⟨a1, n1, c1, rfl⟩ := okWide_slice (P := Try.prog) (e := 28) (by kernel_rfl) (hval 1 55 v1 rfl rfl)
  obtain ⟨z, hz, g1⟩ := rd_upto _ (TR.of h1)
  refine (Con.true (w := W) (onceLaw l z hl.1 hz.1 fun s hs => (hz.2 s hs).1) (ys := [_, _]) rfl fun j c y e1 e2 => ?_).mono fun e W' ⟨he, hg⟩ => ?_
  · match j, e1, e2 with
    | 0, e1, e2 => simp at e1 e2; subst e1 e2; exact DRs.v g0
    | 1, e1, e2 => simp at e1 e2; subst e1 e2; exact DRs.v g1
    | k + 2, e1, _ => simp at e1
  · subst he
    exact ⟨_, rfl, law_post Try.laidOut (by kernel_rfl) (by kernel_rfl) Try.underlying4 rfl hW' rfl hg⟩
theorem streamOnce_holds : Rows.StreamOnceSaid :=
  OpenClaim.holds_of_wide 5 Try.f5 rfl rfl rfl rfl rfl rfl rfl ⟨rfl, rfl, rfl, rfl, rfl⟩ rfl rfl rfl rfl rfl (by kernel_rfl) Try.func5 (by kernel_rfl)
    (of_decide_eq_true (by kernel_rfl)) (by unfold Func.isWrapper; first | (rw [if_pos (by decide +kernel)]; kernel_rfl) | (rw [if_neg (by decide +kernel)]; exact ⟨rfl, rfl⟩))
    (fun os started H enc _ => streamOnce_lifted os started H enc)
end Go.Proofs.Ytoijfmfkkmbabaa
