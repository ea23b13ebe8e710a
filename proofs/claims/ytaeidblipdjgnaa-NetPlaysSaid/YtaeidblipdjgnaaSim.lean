import Derived.Test.YtaeidblipdjgnaaRefN
import Derived.Test.YtaeidblipdjgnaaCut
import Derived.Test.YtaeidblipdjgnaaPeek
import Derived.Test.YtaeidblipdjgnaaEmpty
namespace Go.Proofs.Ytaeidblipdjgnaa
open Go.RowKit Go.Maps Go.WideMaps

structure Sim (m : M) (R : RM) : Prop where
  nd : m.nodes = R.n
  n1 : 1 ≤ R.n
  n10 : R.n ≤ 10
  ord : m.order = R.links
  same : R.cuts.length = R.links.length
  lk : ∀ a b, m.link (ends a b) = (R.links.findIdx? (hitl a b)).bind (R.cuts[·]?)
  q : ∀ a b, m.q (a, b) = (R.way.filter (isw a b)).map fun d => (d.bs, d.sp)
  good : ∀ l ∈ R.links, 1 ≤ l.1 ∧ l.1 < l.2 ∧ l.2 ≤ R.n
  uniq : R.links.Nodup
  way : ∀ d ∈ R.way, (R.links.findIdx? (hitl d.f d.t)).isSome = true
theorem isw_iff {a b : Int} {d : Dg} : isw a b d = true ↔ d.f = a ∧ d.t = b := by simp [isw]
theorem hitl_iff {a b : Int} {l : Int × Int} : hitl a b l = true ↔ ends l.1 l.2 = ends a b := by
  simp only [hitl, ends, Bool.or_eq_true, Bool.and_eq_true, beq_iff_eq, Prod.mk.injEq]; omega
theorem hitl_congr {a b c e : Int} (h : ends c e = ends a b) : hitl c e = hitl a b := by
  funext l; rw [Bool.eq_iff_iff, hitl_iff, hitl_iff, h]
theorem ends_comm' (a b : Int) : ends a b = ends b a := by simp only [ends, Prod.mk.injEq]; omega
section
variable {m : M} {R : RM} {a b i : Int}
theorem Sim.cases (h : Sim m R) (a b : Int) : (R.links.findIdx? (hitl a b) = none ∧ m.link (ends a b) = none ∧ R.link a b = -1) ∨ ∃ (k : Nat) (c : Bool), R.links.findIdx? (hitl a b) = some k ∧ R.cuts[k]? = some c ∧ m.link (ends a b) = some c ∧ R.link a b = k := by
  have hl := h.lk a b
  unfold RM.link
  cases hx : R.links.findIdx? (hitl a b) with
  | none => exact Or.inl ⟨rfl, by rw [hl, hx]; rfl, rfl⟩
  | some k =>
    have hk := (List.findIdx?_eq_some_iff_getElem.1 hx).1
    have := h.same
    obtain ⟨c, hc⟩ : ∃ c, R.cuts[k]? = some c := ⟨_, List.getElem?_eq_getElem (by omega)⟩
    exact Or.inr ⟨k, c, rfl, hc, by rw [hl, hx]; exact hc, rfl⟩
theorem Sim.len (h : Sim m R) (a b : Int) : (m.q (a, b)).length = R.len a b := by rw [h.q]; simp [RM.len]
theorem Sim.setw (h : Sim m R) {way' : List Dg} {q' : List (List UInt8 × Bool)} (hq : q' = (way'.filter (isw a b)).map fun d => (d.bs, d.sp)) (ho : ∀ c e, (c, e) ≠ (a, b) → way'.filter (isw c e) = R.way.filter (isw c e)) (hw : ∀ d ∈ way', d ∈ R.way ∨ d.f = a ∧ d.t = b) (hl : (R.links.findIdx? (hitl a b)).isSome = true) : Sim (m.setq (a, b) q') { R with way := way' } := by
  refine ⟨h.nd, h.n1, h.n10, h.ord, h.same, h.lk, fun c e => ?_, h.good, h.uniq, fun d hd => ?_⟩
  · by_cases hce : (c, e) = (a, b)
    · rw [Prod.mk.injEq] at hce; obtain ⟨rfl, rfl⟩ := hce; rw [M.setq_same, hq]
    · rw [M.setq_other m _ hce, h.q c e]; show _ = List.map _ (way'.filter (isw c e)); rw [ho c e hce]
  · rcases hw d hd with hd | ⟨rfl, rfl⟩
    · exact h.way d hd
    · exact hl
theorem isw_other {a b c e : Int} {d : Dg} (hd : d.f = a ∧ d.t = b) (h : (c, e) ≠ (a, b)) : isw c e d = false := by
  rw [Bool.eq_false_iff]; intro hi; rw [isw_iff] at hi; apply h; rw [← hd.1, ← hd.2, ← hi.1, ← hi.2]
theorem Sim.send (h : Sim m R) (a b : Int) (bs : List UInt8) : (m.send a b bs).1 = (R.send a b bs).1 ∧ Sim (m.send a b bs).2 (R.send a b bs).2 := by
  unfold M.send RM.send RM.open'
  rcases h.cases a b with ⟨h1, h2, h3⟩ | ⟨k, c, h1, h2, h3, h4⟩
  · rw [h2, h3]; exact ⟨rfl, h⟩
  · rw [h3, h4, h1, if_neg (show ¬ ((k : Nat) : Int) < 0 by omega)]
    simp only [List.getD_eq_getElem?_getD, h2, Option.getD_some]
    cases c
    · rw [h.len a b]
      simp only [Bool.not_false, Bool.true_eq_false, if_false]
      by_cases t1 : 512 < bs.length
      · simp only [t1, if_true]; exact ⟨trivial, h⟩
      · simp only [t1, if_false]
        by_cases t2 : 24 ≤ R.len a b
        · simp only [t2, if_true]; exact ⟨trivial, h⟩
        · simp only [t2, if_false]
          refine ⟨trivial, h.setw (way' := R.way ++ [⟨a, b, bs, false⟩]) ?_ (fun c e hce => ?_) (fun d hd => ?_) (by rw [h1]; rfl)⟩
          · rw [List.filter_append, List.map_append, h.q]; simp [isw]
          · rw [List.filter_append]; simp [isw_other (d := ⟨a, b, bs, false⟩) ⟨rfl, rfl⟩ hce]
          · rcases List.mem_append.1 hd with hd | hd
            · exact Or.inl hd
            · simp at hd; subst hd; exact Or.inr ⟨rfl, rfl⟩
    · simp only [Bool.not_true, if_true]; exact ⟨trivial, h⟩
theorem at_split : ∀ {l : List Dg} {j0 : Nat} {k : Int} {j : Nat}, atGo a b i l j0 k = some j → ∃ l1 d l2, l = l1 ++ d :: l2 ∧ (d.f = a ∧ d.t = b) ∧ j = j0 + l1.length ∧ i = k + (l1.filter (isw a b)).length
  | [], _, _, _, h => by simp [atGo] at h
  | g :: r, j0, k, j, h => by
    unfold atGo at h
    split at h
    · rename_i hg
      split at h
      · rename_i hk; simp at h; subst h hk; exact ⟨[], g, r, rfl, isw_iff.1 hg, by simp, by simp⟩
      · obtain ⟨l1, d, l2, h1, h2, h3, h4⟩ := at_split h
        exact ⟨g :: l1, d, l2, by rw [h1]; rfl, h2, by simp; omega, by simp [hg]; omega⟩
    · rename_i hg
      obtain ⟨l1, d, l2, h1, h2, h3, h4⟩ := at_split h
      exact ⟨g :: l1, d, l2, by rw [h1]; rfl, h2, by simp; omega, by simp [hg]; omega⟩
theorem at_none : ∀ {l : List Dg} {j0 : Nat} {k : Int}, atGo a b i l j0 k = none → i < k ∨ k + (l.filter (isw a b)).length ≤ i
  | [], _, k, h => by simp; omega
  | g :: r, j0, k, h => by
    unfold atGo at h
    split at h
    · rename_i hg
      split at h
      · simp at h
      · have := at_none h; simp [hg]; omega
    · rename_i hg; have := at_none h; simp [hg]; omega
theorem Sim.pick (h : Sim m R) (a b i : Int) : (∃ e, m.pick a b i = .error e ∧ R.at a b i = (-1, e) ∧ e ≠ 0) ∨ ∃ l1 d l2, R.way = l1 ++ d :: l2 ∧ (d.f = a ∧ d.t = b) ∧ R.at a b i = ((l1.length : Int), 0) ∧ i.toNat = (l1.filter (isw a b)).length ∧ m.pick a b i = .ok (d.bs, d.sp) ∧ (R.links.findIdx? (hitl a b)).isSome = true ∧ 0 ≤ i := by
  unfold M.pick RM.at
  rcases h.cases a b with ⟨h1, h2, h3⟩ | ⟨k, c, h1, h2, h3, h4⟩
  · rw [h2, h3]; exact Or.inl ⟨1, rfl, rfl, by decide⟩
  · rw [h3, h4, if_neg (show ¬ ((k : Nat) : Int) < 0 by omega), h.q a b]
    cases hx : atGo a b i R.way 0 0 with
    | none =>
      refine Or.inl ⟨5, ?_, rfl, by decide⟩
      have := at_none hx
      dsimp only
      split
      · rfl
      · rw [List.getElem?_eq_none (by simp; omega)]
    | some j =>
      obtain ⟨l1, d, l2, hw, hd, hj, hi⟩ := at_split hx
      refine Or.inr ⟨l1, d, l2, hw, hd, by rw [hj]; simp, by omega, ?_, by rw [h1]; rfl, by omega⟩
      dsimp only
      rw [if_neg (by omega), hw, show i.toNat = (l1.filter (isw a b)).length by omega]
      simp [List.filter_append, isw_iff.2 hd]
theorem mid_at {α : Type} (l1 : List α) (d : α) (l2 : List α) : (l1 ++ d :: l2)[l1.length]? = some d := by simp
theorem mid_erase {α : Type} (l1 : List α) (d : α) (l2 : List α) : (l1 ++ d :: l2).eraseIdx l1.length = l1 ++ l2 := by
  induction l1 with
  | nil => rfl
  | cons x r ih => simpa using ih
theorem mid_set {α : Type} (l1 : List α) (d x : α) (l2 : List α) : (l1 ++ d :: l2).set l1.length x = l1 ++ x :: l2 := by
  induction l1 with
  | nil => rfl
  | cons y r ih => simp
theorem Sim.peek (h : Sim m R) (a b i : Int) : m.peek a b i = R.peek a b i := by
  unfold M.peek RM.peek
  rcases h.pick a b i with ⟨e, h1, h2, h3⟩ | ⟨l1, d, l2, h1, h2, h3, h4, h5, h6, h7⟩
  · rw [h1, h2]; simp [h3]
  · rw [h5, h3, h1]; simp
theorem Sim.take (h : Sim m R) (a b i : Int) : (m.take a b i).1 = (R.peek a b i).1 ∧ (m.take a b i).2.1 = (R.peek a b i).2 ∧ (R.drop a b i).1 = (R.peek a b i).2 ∧ Sim (m.take a b i).2.2 (R.drop a b i).2 ∧ (R.drop a b i).2.way.length ≤ R.way.length := by
  unfold M.take RM.peek RM.drop
  rcases h.pick a b i with ⟨e, h1, h2, h3⟩ | ⟨l1, d, l2, h1, h2, h3, h4, h5, h6, h7⟩
  · rw [h1, h2]; simp [h3]; exact h
  · rw [h5, h3]
    simp only [ne_eq, not_true, if_false, if_true, Int.toNat_natCast]
    rw [h1, mid_at, mid_erase]
    refine ⟨by trivial, by trivial, by trivial, h.setw ?_ (fun c e hce => ?_) (fun d' hd => ?_) h6, by simp⟩
    · rw [h.q, h1, h4, List.filter_append, List.filter_cons, if_pos (isw_iff.2 h2), List.map_append, List.map_cons, List.filter_append, List.map_append]
      exact (congrArg _ (by simp)).trans (mid_erase _ _ _)
    · rw [h1, List.filter_append, List.filter_append, List.filter_cons, if_neg (by simp [isw_other h2 hce])]
    · rw [h1]; refine Or.inl ?_; rcases List.mem_append.1 hd with hd | hd <;> simp [hd]
theorem Sim.double (h : Sim m R) (a b i : Int) : (m.double a b i).1 = (R.double a b i).1 ∧ Sim (m.double a b i).2 (R.double a b i).2 ∧ (R.double a b i).2.way.length ≤ R.way.length + 1 := by
  unfold M.double RM.double
  rcases h.pick a b i with ⟨e, h1, h2, h3⟩ | ⟨l1, d, l2, h1, h2, h3, h4, h5, h6, h7⟩
  · rw [h1, h2]; simp [h3]; exact h
  · rw [h5, h3, h.len a b]
    simp only [ne_eq, not_true, if_false, Int.toNat_natCast]
    by_cases t : 24 ≤ R.len a b
    · simp only [t, if_true]; exact ⟨trivial, h, by omega⟩
    · simp only [t, if_false]
      have hg : R.way[l1.length]?.toList = [d] := by rw [h1, mid_at]; rfl
      rw [hg]
      refine ⟨trivial, h.setw ?_ (fun c e hce => ?_) (fun d' hd => ?_) h6, by simp⟩
      · rw [h.q, List.filter_append, List.map_append]; simp [isw_iff.2 h2]
      · rw [List.filter_append]; simp [isw_other h2 hce]
      · rcases List.mem_append.1 hd with hd | hd
        · exact Or.inl hd
        · simp at hd; subst hd; exact Or.inr h2
theorem Sim.spoil (h : Sim m R) (a b i bit : Int) : (m.spoil a b i bit).1 = (R.spoil a b i bit).1 ∧ Sim (m.spoil a b i bit).2 (R.spoil a b i bit).2 ∧ (R.spoil a b i bit).2.way.length ≤ R.way.length := by
  unfold M.spoil RM.spoil
  rcases h.pick a b i with ⟨e, h1, h2, h3⟩ | ⟨l1, d, l2, h1, h2, h3, h4, h5, h6, h7⟩
  · rw [h1, h2]; simp [h3]; exact h
  · have hg : R.way[l1.length]? = some d := by rw [h1, mid_at]
    rw [h5, h3]
    simp only [ne_eq, not_true, if_false, Int.toNat_natCast, hg]
    by_cases t1 : bit < 0
    · simp only [t1, if_true]; exact ⟨trivial, h, Nat.le_refl _⟩
    simp only [t1, if_false]
    by_cases t2 : d.bs.length ≤ bit.toNat / 8
    · simp only [t2, if_true]; exact ⟨trivial, h, Nat.le_refl _⟩
    simp only [t2, if_false]
    by_cases t3 : d.sp = true
    · simp only [t3, if_true]; exact ⟨trivial, h, Nat.le_refl _⟩
    simp only [t3, Bool.false_eq_true, if_false]
    refine ⟨trivial, h.setw ?_ (fun c e hce => ?_) (fun d' hd => ?_) h6, by simp⟩
    · rw [h.q, h1, h4, mid_set, List.filter_append, List.filter_cons, if_pos (isw_iff.2 h2), List.map_append, List.map_cons, List.filter_append, List.filter_cons, if_pos ((isw_iff (d := ⟨d.f, d.t, turn d.bs bit.toNat, true⟩)).2 h2), List.map_append, List.map_cons]
      rw [show (l1.filter (isw a b)).length = ((l1.filter (isw a b)).map fun d : Dg => (d.bs, d.sp)).length by simp, mid_set]
    · rw [h1, mid_set, List.filter_append, List.filter_append, List.filter_cons, List.filter_cons, if_neg (by simp [isw_other (d := ⟨d.f, d.t, turn d.bs bit.toNat, true⟩) h2 hce]), if_neg (by simp [isw_other h2 hce])]
    · rw [h1, mid_set] at hd
      rcases List.mem_append.1 hd with hd | hd
      · exact Or.inl (by rw [h1]; simp [hd])
      · rcases List.mem_cons.1 hd with rfl | hd
        · exact Or.inr h2
        · exact Or.inl (by rw [h1]; simp [hd])
theorem Sim.setc (h : Sim m R) {k : Nat} (hk : R.links.findIdx? (hitl a b) = some k) (c : Bool) : Sim (m.setl (ends a b) c) (R.cutAt k c) := by
  refine ⟨h.nd, h.n1, h.n10, h.ord, by simpa [RM.cutAt] using h.same, fun c' e => ?_, h.q, h.good, h.uniq, h.way⟩
  show (if ends c' e = ends a b then some c else m.link (ends c' e)) = (R.links.findIdx? (hitl c' e)).bind ((R.cuts.set k c)[·]?)
  have hkl := (List.findIdx?_eq_some_iff_getElem.1 hk).1
  have hsame := h.same
  by_cases hce : ends c' e = ends a b
  · rw [if_pos hce, hitl_congr hce, hk]
    show some c = (R.cuts.set k c)[k]?
    rw [List.getElem?_set, if_pos rfl, if_pos (by omega)]
  · rw [if_neg hce, h.lk]
    cases hx : R.links.findIdx? (hitl c' e) with
    | none => rfl
    | some k' =>
      show R.cuts[k']? = (R.cuts.set k c)[k']?
      rw [List.getElem?_set, if_neg]
      rintro rfl
      have h1 := (List.findIdx?_eq_some_iff_getElem.1 hx).2.1
      have h2 := (List.findIdx?_eq_some_iff_getElem.1 hk).2.1
      rw [hitl_iff] at h1 h2
      exact hce (h1.symm.trans h2)
theorem Sim.lose (h : Sim m R) (a b : Int) : Sim (m.setq (a, b) []) (R.lose a b) := by
  refine ⟨h.nd, h.n1, h.n10, h.ord, h.same, h.lk, fun c e => ?_, h.good, h.uniq, fun d hd => h.way d (List.mem_filter.1 hd).1⟩
  show (m.setq (a, b) []).q (c, e) = ((R.way.filter fun g => !isw a b g).filter (isw c e)).map _
  rw [List.filter_filter]
  by_cases hce : (c, e) = (a, b)
  · rw [Prod.mk.injEq] at hce; obtain ⟨rfl, rfl⟩ := hce
    rw [M.setq_same, List.filter_eq_nil_iff.2 (by intro d _; cases isw c e d <;> simp)]; rfl
  · rw [M.setq_other m _ hce, h.q c e]
    congr 1
    apply List.filter_congr; intro d _
    cases hd : isw c e d
    · rfl
    · rw [isw_other (isw_iff.1 hd) (fun h' => hce h'.symm)]; rfl
theorem Sim.cut (h : Sim m R) (a b : Int) : (m.cut a b).1 = (R.turnTo a b true).1 ∧ Sim (m.cut a b).2 (R.turnTo a b true).2 ∧ (R.turnTo a b true).2.way.length ≤ R.way.length := by
  unfold M.cut RM.turnTo
  rcases h.cases a b with ⟨h1, h2, h3⟩ | ⟨k, c, h1, h2, h3, h4⟩
  · rw [h1, h2]; exact ⟨rfl, h, Nat.le_refl _⟩
  · rw [h1, h3]; dsimp only
    simp only [List.getD_eq_getElem?_getD, h2, Option.getD_some]
    cases c
    · simp only [Bool.false_eq_true, if_false, if_true]
      exact ⟨trivial, ((h.setc h1 true).lose a b).lose b a, Nat.le_trans (lose_len _ _ _) (lose_len _ _ _)⟩
    · simp only [if_true]; exact ⟨trivial, h, Nat.le_refl _⟩
theorem Sim.heal (h : Sim m R) (a b : Int) : (m.heal a b).1 = (R.turnTo a b false).1 ∧ Sim (m.heal a b).2 (R.turnTo a b false).2 ∧ (R.turnTo a b false).2.way.length ≤ R.way.length := by
  unfold M.heal RM.turnTo
  rcases h.cases a b with ⟨h1, h2, h3⟩ | ⟨k, c, h1, h2, h3, h4⟩
  · rw [h1, h2]; exact ⟨rfl, h, Nat.le_refl _⟩
  · rw [h1, h3]; dsimp only
    simp only [List.getD_eq_getElem?_getD, h2, Option.getD_some]
    cases c
    · simp only [if_true]; exact ⟨trivial, h, Nat.le_refl _⟩
    · simp only [Bool.true_eq_false, Bool.false_eq_true, if_false]
      exact ⟨trivial, h.setc h1 false, Nat.le_refl _⟩
theorem Sim.opn (h : Sim m R) (a b : Int) : m.open' a b = R.open' a b := by
  unfold M.open' RM.open'
  rcases h.cases a b with ⟨h1, h2, h3⟩ | ⟨k, c, h1, h2, h3, h4⟩
  · rw [h1, h2]; rfl
  · rw [h1, h3]; simp [h2]
theorem Sim.at' (h : Sim m R) {k : Nat} {l : Int × Int} (hl : R.links[k]? = some l) : R.links.findIdx? (hitl l.1 l.2) = some k := by
  have hk := lt_of_get hl
  have hlk : R.links[k] = l := by rw [List.getElem?_eq_getElem hk] at hl; exact Option.some.inj hl
  refine List.findIdx?_eq_some_iff_getElem.2 ⟨hk, by rw [hlk, hitl_iff], fun j hj => ?_⟩
  intro hh
  rw [hitl_iff] at hh
  have g1 := h.good _ (List.getElem_mem (show j < R.links.length by omega))
  have g2 := h.good l (List.mem_of_getElem? hl)
  have e : R.links[j] = l := by
    apply Prod.ext
    · simp only [ends, Prod.mk.injEq] at hh; omega
    · simp only [ends, Prod.mk.injEq] at hh; omega
  have := (List.getElem_inj (h₀ := (show j < R.links.length by omega)) (h₁ := hk) h.uniq).1 (e.trans hlk.symm)
  omega
theorem Sim.opnAt (h : Sim m R) {k : Nat} {l : Int × Int} {c : Bool} (hl : R.links[k]? = some l) (hc : R.cuts[k]? = some c) : m.open' l.1 l.2 = !c ∧ m.open' l.2 l.1 = !c := by
  have h1 := h.at' hl
  constructor
  · rw [h.opn]; unfold RM.open'; rw [h1]; simp [hc]
  · rw [h.opn]; unfold RM.open'; rw [hitl_congr (ends_comm' l.2 l.1), h1]; simp [hc]
/-! ### Empty -/
theorem emp_fold (b : Int) : ∀ (ks : List (Int × Int)) (m : M) (c : Int), ks.Nodup → (ks.foldl (eStep b) (c, m)) = (c + ((ks.filter fun k => k.2 == b).map fun k => ((m.q k).length : Int)).sum, { m with q := fun k => if k ∈ ks ∧ k.2 = b then [] else m.q k })
  | [], m, c, _ => by simp
  | k :: r, m, c, h => by
    have hk := (List.nodup_cons.1 h).1
    rw [List.foldl_cons, eStep]
    by_cases hb : k.2 = b
    · rw [if_pos hb, emp_fold b r _ _ (List.nodup_cons.1 h).2]
      have e : (r.filter fun k => k.2 == b).map (fun k' => (((m.setq k []).q k').length : Int)) = (r.filter fun k => k.2 == b).map fun k => ((m.q k).length : Int) := by
        apply List.map_congr_left; intro k' hk'
        rw [M.setq_other]; rintro rfl; exact hk (List.mem_filter.1 hk').1
      rw [e, List.filter_cons, if_pos (by simpa using hb), List.map_cons, List.sum_cons]
      refine Prod.ext (by simp only; omega) ?_
      simp only [M.setq]
      congr 1; funext k'
      by_cases h1 : k' = k
      · subst h1; simp [hb]
      · simp [h1]
    · rw [if_neg hb, emp_fold b r _ _ (List.nodup_cons.1 h).2, List.filter_cons, if_neg (by simpa using hb)]
      refine Prod.ext rfl ?_
      simp only
      congr 1; funext k'
      by_cases h1 : k' = k
      · subst h1; simp [hb]
      · simp [h1]
theorem mem_both {l k : Int × Int} : k ∈ both l ↔ k = (l.1, l.2) ∨ k = (l.2, l.1) := by simp [both]
theorem Sim.dirs (_h : Sim m R) (c e : Int) : (c, e) ∈ R.links.flatMap both ↔ (R.links.findIdx? (hitl c e)).isSome = true := by
  rw [List.findIdx?_isSome, List.any_eq_true, List.mem_flatMap]
  constructor
  · rintro ⟨l, hl, hk⟩; refine ⟨l, hl, ?_⟩; rw [mem_both] at hk; simp only [hitl, Bool.or_eq_true, Bool.and_eq_true, beq_iff_eq, Prod.mk.injEq] at hk ⊢; omega
  · rintro ⟨l, hl, hk⟩; refine ⟨l, hl, ?_⟩; rw [mem_both]; simp only [hitl, Bool.or_eq_true, Bool.and_eq_true, beq_iff_eq, Prod.mk.injEq] at hk ⊢; omega
theorem Sim.dnd (h : Sim m R) : (R.links.flatMap both).Nodup := by
  have key : ∀ L : List (Int × Int), (∀ l ∈ L, l.1 < l.2) → L.Nodup → (L.flatMap both).Nodup := by
    intro L
    induction L with
    | nil => intro _ _; exact List.nodup_nil
    | cons l r ih =>
      intro hg hn
      have hl := hg l (by simp)
      rw [List.flatMap_cons, List.nodup_append]
      refine ⟨by simp [both]; intro h1 _; omega, ih (fun x hx => hg x (by simp [hx])) (List.nodup_cons.1 hn).2, ?_⟩
      rintro x hx y hy rfl
      obtain ⟨l', hl', hy⟩ := List.mem_flatMap.1 hy
      have hg' := hg l' (by simp [hl'])
      rw [mem_both] at hx hy
      have : l' = l := by
        rcases hx with rfl | rfl <;> rcases hy with hy | hy <;> simp only [Prod.mk.injEq] at hy <;> apply Prod.ext <;> omega
      subst this
      exact (List.nodup_cons.1 hn).1 hl'
  exact key _ (fun l hl => (h.good l hl).2.1) h.uniq
theorem sum_count (ks : List (Int × Int)) (hn : ks.Nodup) (p : Int × Int → Bool) : ∀ (way : List Dg), (∀ d ∈ way, p (d.f, d.t) = true → (d.f, d.t) ∈ ks) → ((ks.filter p).map fun k => (((way.filter (isw k.1 k.2)).length : Nat) : Int)).sum = (((way.filter fun d => p (d.f, d.t)).length : Nat) : Int)
  | [], _ => by
    have : ∀ l : List (Int × Int), (l.map fun k => ((([] : List Dg).filter (isw k.1 k.2)).length : Int)).sum = 0 := by
      intro l; induction l with
      | nil => rfl
      | cons x r ih => rw [List.map_cons, List.sum_cons, ih]; rfl
    exact this _
  | d :: r, h => by
    have ih := sum_count ks hn p r (fun d hd => h d (by simp [hd]))
    have key : ∀ l : List (Int × Int), l.Nodup → (l.map fun k => ((((d :: r).filter (isw k.1 k.2)).length : Nat) : Int)).sum = (l.map fun k => (((r.filter (isw k.1 k.2)).length : Nat) : Int)).sum + if (d.f, d.t) ∈ l then 1 else 0 := by
      intro l
      induction l with
      | nil => intro _; rfl
      | cons x l' ih' =>
        intro hl
        have := ih' (List.nodup_cons.1 hl).2
        rw [List.map_cons, List.sum_cons, this, List.map_cons, List.sum_cons, List.filter_cons]
        by_cases hx : (d.f, d.t) = x
        · subst hx
          rw [if_pos (isw_iff.2 ⟨rfl, rfl⟩), if_neg (List.nodup_cons.1 hl).1, if_pos (by simp), List.length_cons]; omega
        · rw [if_neg (by rw [isw_iff]; rintro ⟨h1, h2⟩; exact hx (by rw [h1, h2]))]
          simp only [List.mem_cons, hx, false_or]; omega
    rw [key _ (hn.filter _), ih, List.filter_cons]
    by_cases hp : p (d.f, d.t) = true
    · rw [if_pos (List.mem_filter.2 ⟨h d (by simp) hp, hp⟩), if_pos hp, List.length_cons]; omega
    · rw [if_neg (fun hm => hp (List.mem_filter.1 hm).2), if_neg hp]; omega
theorem Sim.empty (h : Sim m R) (b : Int) (N : Nat) (hN : R.n = N) : (m.empty b).1 = ((R.empn b N : Nat) : Int) ∧ Sim (m.empty b).2 (R.emp b N) ∧ (R.emp b N).way.length ≤ R.way.length := by
  unfold M.empty
  rw [h.ord, emp_fold b _ m 0 h.dnd]
  have hin : ∀ d ∈ R.way, (d.f, d.t) ∈ R.links.flatMap both ∧ 1 ≤ d.f ∧ d.f ≤ R.n := by
    intro d hd
    have h1 := (h.dirs d.f d.t).2 (h.way d hd)
    refine ⟨h1, ?_⟩
    obtain ⟨l, hl, hk⟩ := List.mem_flatMap.1 h1
    have := h.good l hl
    rw [mem_both] at hk; simp only [Prod.mk.injEq] at hk; omega
  have hfil : ∀ d ∈ R.way, inb b N d = (d.t == b) := by
    intro d hd
    have := hin d hd
    unfold inb; rw [decide_eq_true (show 1 ≤ d.f by omega), decide_eq_true (show d.f ≤ (N : Int) by omega)]; simp
  refine ⟨?_, ⟨h.nd, h.n1, h.n10, h.ord, h.same, h.lk, fun c e => ?_, h.good, h.uniq, fun d hd => h.way d (List.mem_filter.1 hd).1⟩, List.length_filter_le _ _⟩
  · simp only [Int.zero_add]
    have e1 : ((R.links.flatMap both).filter fun k => k.2 == b).map (fun k => ((m.q k).length : Int)) = ((R.links.flatMap both).filter fun k => k.2 == b).map fun k => (((R.way.filter (isw k.1 k.2)).length : Nat) : Int) := by
      apply List.map_congr_left; intro k _; rw [show k = (k.1, k.2) from rfl, h.q k.1 k.2]; simp
    rw [e1, sum_count _ h.dnd (fun k => k.2 == b) R.way (fun d hd _ => (hin d hd).1)]
    unfold RM.empn
    rw [List.filter_congr hfil]
  · show (if (c, e) ∈ R.links.flatMap both ∧ e = b then [] else m.q (c, e)) = ((R.way.filter fun g => !inb b N g).filter (isw c e)).map _
    rw [List.filter_filter]
    by_cases hc : (c, e) ∈ R.links.flatMap both ∧ e = b
    · rw [if_pos hc, List.filter_eq_nil_iff.2]; rfl
      intro d hd hx
      simp only [Bool.and_eq_true, Bool.not_eq_true', hfil d hd] at hx
      have := isw_iff.1 hx.1
      rw [this.2, hc.2] at hx; simp at hx
    · rw [if_neg hc, h.q c e]
      congr 1
      apply List.filter_congr; intro d hd
      rw [hfil d hd]
      cases hx : isw c e d
      · rfl
      · have hx' := isw_iff.1 hx
        have : d.t ≠ b := fun hb => hc ⟨by have := (hin d hd).1; rw [hx'.1, hx'.2] at this; exact this, by rw [← hx'.2, hb]⟩
        simp [this]
/-! ### New -/
theorem newO_good {n : Int} : ∀ {ls o o' : List (Int × Int)}, newO n o ls = some o' → (∀ l ∈ o, 1 ≤ l.1 ∧ l.1 < l.2 ∧ l.2 ≤ n) → o.Nodup → (∀ l ∈ o', 1 ≤ l.1 ∧ l.1 < l.2 ∧ l.2 ≤ n) ∧ o'.Nodup
  | [], o, o', h, hg, hn => by simp [newO] at h; subst h; exact ⟨hg, hn⟩
  | l :: r, o, o', h, hg, hn => by
    unfold newO at h
    split at h
    · rename_i hk
      simp only [okL, Bool.and_eq_true, decide_eq_true_eq] at hk
      refine newO_good h (fun x hx => ?_) ?_
      · rcases List.mem_append.1 hx with hx | hx
        · exact hg x hx
        · simp only [List.mem_singleton] at hx; subst hx
          obtain ⟨⟨⟨k1, k2⟩, k3⟩, -⟩ := hk
          refine ⟨k1, ?_, k2⟩
          simp only [ends] at k3 ⊢; omega
      · rw [List.nodup_append]; refine ⟨hn, by simp, ?_⟩
        rintro x hx y hy rfl
        simp only [List.mem_singleton] at hy; subst hy; exact hk.2 hx
    · simp at h
theorem Sim.fresh {n : Int} {ls o : List (Int × Int)} (h1 : 1 ≤ n) (h2 : n ≤ 10) (ho : newO n [] ls = some o) : Sim (M.fresh n o) (RM.fresh n o) := by
  obtain ⟨hg, hn⟩ := newO_good ho (by simp) List.nodup_nil
  refine ⟨rfl, h1, h2, rfl, by simp [RM.fresh], fun a b => ?_, fun a b => rfl, hg, hn, fun d hd => by simp [RM.fresh] at hd⟩
  show (if ends a b ∈ o then some false else none) = (o.findIdx? (hitl a b)).bind ((o.map fun _ => false)[·]?)
  cases hx : o.findIdx? (hitl a b) with
  | none =>
    rw [List.findIdx?_eq_none_iff] at hx
    rw [if_neg]; rfl
    intro hm
    have := hx _ hm
    rw [Bool.eq_false_iff] at this
    exact this (hitl_iff.2 (by simp only [ends, Prod.mk.injEq]; omega))
  | some k =>
    obtain ⟨hk, hh, -⟩ := List.findIdx?_eq_some_iff_getElem.1 hx
    have hm := List.getElem_mem hk
    have hgk := hg _ hm
    rw [hitl_iff] at hh
    have e : o[k] = ends a b := by rw [← hh]; simp only [ends]; apply Prod.ext <;> simp only <;> omega
    rw [if_pos (e ▸ hm)]
    show some false = (o.map fun _ => false)[k]?
    simp [hk]
end

end Go.Proofs.Ytaeidblipdjgnaa
