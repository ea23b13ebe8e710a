import Derived.Test.YtaeidblipdjgnaaShown
namespace Go.Proofs.Ytaeidblipdjgnaa
open Go.RowKit

/-! ### the plain law: what is done and undone -/
structure NetOk (m : M) : Prop where
  link : ∀ k, (m.link k).isSome = true ↔ k ∈ m.order
  lt : ∀ k ∈ m.order, k.1 < k.2
  nd : m.order.Nodup
theorem NetOk.of {m m' : M} (h : NetOk m) (ho : m'.order = m.order) (hl : ∀ k, (m'.link k).isSome = (m.link k).isSome) : NetOk m' :=
  ⟨fun k => by rw [hl, ho]; exact h.link k, by rw [ho]; exact h.lt, by rw [ho]; exact h.nd⟩
theorem setl_some {m : M} {k : Int × Int} {c c' : Bool} (h : m.link k = some c') (q : Int × Int) : ((m.setl k c).link q).isSome = (m.link q).isSome := by
  simp only [M.setl]; split
  · rename_i e; subst e; simp [h]
  · rfl
theorem link_send (m : M) (a b : Int) (bs : List UInt8) : (m.send a b bs).2.link = m.link := by
  unfold M.send; split <;> (try rfl); split <;> (try rfl); split <;> rfl
theorem link_take (m : M) (a b i : Int) : (m.take a b i).2.2.link = m.link := by unfold M.take; split <;> rfl
theorem link_double (m : M) (a b i : Int) : (m.double a b i).2.link = m.link := by unfold M.double; split <;> (try rfl); split <;> rfl
theorem link_spoil (m : M) (a b i c : Int) : (m.spoil a b i c).2.link = m.link := by
  unfold M.spoil; split <;> (try rfl); split <;> (try rfl); split <;> (try rfl); split <;> rfl
theorem link_cut (m : M) (a b : Int) (k : Int × Int) : ((m.cut a b).2.link k).isSome = (m.link k).isSome := by
  unfold M.cut; split <;> (try rfl)
  rename_i h; exact setl_some h k
theorem link_heal (m : M) (a b : Int) (k : Int × Int) : ((m.heal a b).2.link k).isSome = (m.link k).isSome := by
  unfold M.heal; split <;> (try rfl)
  rename_i h; exact setl_some h k
theorem NetOk.step {s : M × Sent} {x : Ac} (h : NetOk s.1) : NetOk (playStep s x).1 := by
  refine h.of (playStep_order s x) (fun k => ?_)
  unfold playStep
  repeat' split
  all_goals first | rw [link_send] | rw [link_take] | rw [link_double] | rw [link_spoil] | exact link_cut _ _ _ _ | exact link_heal _ _ _ _ | rw [(empty_same _ _).2.2.1] | rfl
theorem newO_nd : ∀ {n : Int} {ls o r : List (Int × Int)}, newO n o ls = some r → o.Nodup → r.Nodup
  | n, [], o, r, h, ho => by simp [newO] at h; subst h; exact ho
  | n, l :: ls, o, r, h, ho => by
    unfold newO at h
    split at h
    · rename_i hk
      refine newO_nd h ?_
      simp only [okL, Bool.and_eq_true, decide_eq_true_eq] at hk
      rw [List.nodup_append]
      exact ⟨ho, by simp, fun a ha b hb e => by simp only [List.mem_singleton] at hb; subst hb; subst e; exact hk.2 ha⟩
    · simp at h
theorem play_ok {n : Int} {ls : List (Int × Int)} {m : M} (h : newM n ls = some m) (l : List Ac) : NetOk (play m l).1 := by
  have h0 : NetOk m := by
    obtain ⟨_, _, _, _, h3⟩ := newM_ok h
    unfold newM at h
    split at h
    · simp at h
    · obtain ⟨o, h1, rfl⟩ := Option.map_eq_some_iff.1 h
      refine ⟨fun k => ?_, fun k hk => (h3 k hk).2.1, newO_nd h1 (by simp)⟩
      simp only [M.fresh]; split <;> simp_all
  have : ∀ (l : List Ac) (s : M × Sent), NetOk s.1 → NetOk (l.foldl playStep s).1 := by
    intro l; induction l with
    | nil => intro s h; exact h
    | cons x r ih => intro s h; exact ih _ h.step
  exact this l _ h0
theorem play_order {m : M} (l : List Ac) : (play m l).1.order = m.order := by
  have : ∀ (l : List Ac) (s : M × Sent), (l.foldl playStep s).1.order = s.1.order := by
    intro l; induction l with
    | nil => intro s; rfl
    | cons x r ih => intro s; rw [List.foldl_cons, ih, playStep_order]
  exact this l _
theorem take_last {m : M} {a b : Int} {c : Bool} {q : List (List UInt8 × Bool)} {x : List UInt8 × Bool} (hl : m.link (ends a b) = some c) (hq : m.q (a, b) = q ++ [x]) : m.take a b ((q.length : Nat) : Int) = (x.1, 0, m.setq (a, b) q) := by
  unfold M.take M.pick
  rw [hl, hq]
  simp only [Int.toNat_natCast, show ¬ ((q.length : Nat) : Int) < 0 by omega, if_false]
  rw [List.getElem?_append_right (Nat.le_refl _), List.eraseIdx_append_of_length_le (Nat.le_refl _)]
  simp
theorem pick_ok {m : M} {a b i : Int} {x : List UInt8 × Bool} (h : m.pick a b i = .ok x) : ∃ c, m.link (ends a b) = some c ∧ 0 ≤ i ∧ (m.q (a, b))[i.toNat]? = some x := by
  rcases pick_cases m a b i with ⟨e, _⟩ | ⟨c, hl, ⟨e, _⟩ | ⟨e, _⟩ | ⟨j, y, rfl, hj, e⟩⟩ <;> rw [h] at e <;> simp at e
  subst e; exact ⟨c, hl, by omega, by simpa using hj⟩
theorem peek_at {m : M} {a b : Int} {c : Bool} {j : Nat} {x : List UInt8 × Bool} (hl : m.link (ends a b) = some c) (hq : (m.q (a, b))[j]? = some x) : m.peek a b ((j : Nat) : Int) = (x.1, 0) := by
  unfold M.peek M.pick
  rw [hl]
  simp only [Int.toNat_natCast, show ¬ ((j : Nat) : Int) < 0 by omega, if_false, hq]
/-- a datagram is doubled -/
theorem double_split {m : M} {a b i : Int} (h : (m.double a b i).1 = 0) : ∃ c x j, i = ((j : Nat) : Int) ∧ m.link (ends a b) = some c ∧ (m.q (a, b))[j]? = some x ∧ m.double a b i = (0, m.setq (a, b) (m.q (a, b) ++ [x])) := by
  unfold M.double at h ⊢
  rcases pick_cases m a b i with ⟨e, _⟩ | ⟨c, hl, ⟨e, _⟩ | ⟨e, _⟩ | ⟨j, y, rfl, hj, e⟩⟩
  · rw [e] at h; simp at h
  · rw [e] at h; simp at h
  · rw [e] at h; simp at h
  · rw [e] at h
    refine ⟨c, y, j, rfl, hl, hj, ?_⟩
    rw [e]
    simp only at h ⊢
    split at h
    · simp at h
    · rename_i hq; rw [if_neg hq]
theorem rowsF_refl (a : List (List (List UInt8))) (but : Int) : rowsF a a but = true := by
  simp [rowsF, rowsAt]
theorem cut_split {m : M} {a b : Int} (h : (m.cut a b).1 = 0) : m.link (ends a b) = some false ∧ m.cut a b = (0, ((m.setl (ends a b) true).setq (a, b) []).setq (b, a) []) := by
  unfold M.cut at h ⊢
  split at h
  · simp at h
  · simp at h
  · rename_i e; exact ⟨e, by first | rfl | rw [e]⟩
/-- behind a cut and a healing -/
def undone (m : M) (a b : Int) : M := ((m.setq (a, b) []).setq (b, a) [])
theorem healed {m : M} {a b : Int} (h : m.link (ends a b) = some false) : (((m.setl (ends a b) true).setq (a, b) []).setq (b, a) []).heal a b = (0, undone m a b) := by
  unfold M.heal
  have : (((m.setl (ends a b) true).setq (a, b) []).setq (b, a) []).link (ends a b) = some true := by simp [M.setq, M.setl]
  rw [this]
  simp only [undone]
  congr 1
  simp only [M.setq, M.setl]
  congr 1
  funext k
  by_cases e : k = ends a b
  · subst e; simp [h]
  · simp [e]
def hit (a b : Int) (l : Int × Int) : Bool := (l.1 == a && l.2 == b) || (l.1 == b && l.2 == a)
def butTo (o : List (Int × Int)) (a b : Int) : Nat → Int
  | 0 => -1
  | i + 1 => if hit a b (o.getD i (0, 0)) then i else butTo o a b i
theorem butTo_lt (o : List (Int × Int)) (a b : Int) : ∀ n, -1 ≤ butTo o a b n ∧ butTo o a b n < n
  | 0 => by simp [butTo]
  | n + 1 => by have := butTo_lt o a b n; unfold butTo; split <;> omega
theorem butTo_hit (o : List (Int × Int)) (a b : Int) : ∀ n, (∃ k, k < n ∧ hit a b (o.getD k (0, 0)) = true) → ∃ j : Nat, butTo o a b n = j ∧ j < n ∧ hit a b (o.getD j (0, 0)) = true
  | 0, ⟨k, hk, _⟩ => by omega
  | n + 1, ⟨k, hk, hh⟩ => by
    unfold butTo
    by_cases hn : hit a b (o.getD n (0, 0)) = true
    · rw [if_pos hn]; exact ⟨n, rfl, by omega, hn⟩
    · rw [if_neg hn]
      have hkn : k < n := by
        rcases Nat.lt_or_ge k n with h | h
        · exact h
        · obtain rfl : k = n := by omega
          exact absurd hh hn
      obtain ⟨j, h1, h2, h3⟩ := butTo_hit o a b n ⟨k, hkn, hh⟩
      exact ⟨j, h1, by omega, h3⟩
theorem hit_ends {a b : Int} {l : Int × Int} (hl : l.1 < l.2) (h : hit a b l = true) : l = ends a b := by
  simp only [hit, Bool.or_eq_true, Bool.and_eq_true, beq_iff_eq] at h
  obtain ⟨x, y⟩ := l
  simp only [ends, Prod.mk.injEq] at *
  omega
theorem ends_hit (a b : Int) : hit a b (ends a b) = true := by
  simp only [hit, ends, Bool.or_eq_true, Bool.and_eq_true, beq_iff_eq]; omega
theorem flat_both {l : List (Int × Int)} : ∀ {i : Nat} {k : Int × Int}, (l.flatMap both)[i]? = some k → ∃ x, l[i / 2]? = some x ∧ k ∈ both x := by
  induction l with
  | nil => intro i k h; simp at h
  | cons x r ih =>
    intro i k h
    match i, h with
    | 0, h => simp [both] at h; exact ⟨x, rfl, by simp [both, h]⟩
    | 1, h => simp [both] at h; exact ⟨x, rfl, by simp [both, h]⟩
    | i + 2, h =>
      obtain ⟨y, h1, h2⟩ := ih (i := i) (k := k) (by simpa [both] using h)
      exact ⟨y, by rw [show (i + 2) / 2 = i / 2 + 1 by omega]; simpa using h1, h2⟩
theorem rows_undone {m : M} {a b : Int} (h : NetOk m) (hl : m.link (ends a b) = some false) : ∃ j : Nat, butTo m.order a b m.order.length = j ∧ rowsF (shownF (undone m a b)) (shownF m) (butTo m.order a b m.order.length) = true := by
  have hmem : ends a b ∈ m.order := (h.link _).1 (by simp [hl])
  obtain ⟨k, hk, hke⟩ := List.getElem_of_mem hmem
  obtain ⟨j, h1, h2, h3⟩ := butTo_hit m.order a b m.order.length ⟨k, hk, by rw [List.getD_eq_getElem?_getD, List.getElem?_eq_getElem hk, hke]; exact ends_hit a b⟩
  refine ⟨j, h1, ?_⟩
  rw [h1]
  have hj : m.order[j] = ends a b := by
    rw [List.getD_eq_getElem?_getD, List.getElem?_eq_getElem h2] at h3
    exact hit_ends (h.lt _ (List.getElem_mem h2)) h3
  have hlen : (shownF (undone m a b)).length = (shownF m).length := by simp [shownF, undone, M.setq]
  simp only [rowsF, hlen, beq_self_eq_true, Bool.true_and, List.all_eq_true, List.mem_range]
  intro i hi
  simp only [rowsAt, Bool.or_eq_true, Bool.not_eq_true', decide_eq_false_iff_not, ne_eq, Decidable.not_not, beq_iff_eq]
  by_cases hij : ((i / 2 : Nat) : Int) = (j : Int)
  · exact Or.inl hij
  · right
    have hi2 : i < (m.order.flatMap both).length := by simpa [shownF] using hi
    obtain ⟨x, hx1, hx2⟩ := flat_both (List.getElem?_eq_getElem hi2)
    have hxl := lt_of_get hx1
    have hxe : x ≠ ends a b := by
      intro e
      rw [List.getElem?_eq_getElem hxl, Option.some.injEq] at hx1
      have : m.order[i / 2] = m.order[j] := by rw [hx1, e, hj]
      have := (List.getElem_inj h.nd).1 this
      omega
    have hlt := h.lt x (List.mem_of_getElem? hx1)
    have hkey : ∀ k ∈ both x, k ≠ (a, b) ∧ k ≠ (b, a) := by
      intro k hk
      obtain ⟨x1, x2⟩ := x
      simp only [both, List.mem_cons, List.not_mem_nil, or_false] at hk
      simp only [ends, ne_eq, Prod.mk.injEq] at hxe hlt
      constructor
      · intro e; rcases hk with hk | hk <;> rw [hk] at e <;> simp only [Prod.mk.injEq] at e <;> omega
      · intro e; rcases hk with hk | hk <;> rw [hk] at e <;> simp only [Prod.mk.injEq] at e <;> omega
    obtain ⟨k1, k2⟩ := hkey _ hx2
    simp only [shownF, List.getD_eq_getElem?_getD, List.getElem?_map]
    have ho : (undone m a b).order = m.order := rfl
    rw [ho, List.getElem?_eq_getElem hi2]
    simp only [Option.map_some, Option.getD_some]
    have hq : ∀ k, k ≠ (a, b) → k ≠ (b, a) → (undone m a b).q k = m.q k := by intro k e1 e2; simp [undone, M.setq, e1, e2]
    have hq' := hq ((m.order.flatMap both)[i].1, (m.order.flatMap both)[i].2) k1 k2
    have hlk : (undone m a b).link = m.link := rfl
    simp only [rowF, M.peek, M.pick, hq', hlk]
end Go.Proofs.Ytaeidblipdjgnaa
