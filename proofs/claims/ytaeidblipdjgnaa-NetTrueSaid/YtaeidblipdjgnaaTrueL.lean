import Derived.Test.YtaeidblipdjgnaaNear
namespace Go.Proofs.Ytaeidblipdjgnaa
open Go.RowKit

/-! ### the plain law: what is on its way was sent -/
def Of (sn : Sent) (k : Int × Int) (x : List UInt8 × Bool) : Prop := (x.2 = false → x.1 ∈ sn k) ∧ (x.2 = true → ∃ bs ∈ sn k, ∃ n, n / 8 < bs.length ∧ x.1 = turn bs n)
structure Good (m : M) (sn : Sent) : Prop where
  opn : ∀ k, m.q k ≠ [] → m.link (ends k.1 k.2) = some false
  snt : ∀ k, ∀ x ∈ m.q k, Of sn k x
theorem Good.setq {m : M} {sn : Sent} (h : Good m sn) {k : Int × Int} {q : List (List UInt8 × Bool)} (h1 : q ≠ [] → m.link (ends k.1 k.2) = some false) (h2 : ∀ x ∈ q, Of sn k x) : Good (m.setq k q) sn := by
  constructor
  · intro k' hk
    simp only [M.setq] at hk ⊢
    split at hk
    · rename_i e; subst e; exact h1 hk
    · exact h.opn k' hk
  · intro k' x hx
    simp only [M.setq] at hx
    split at hx
    · rename_i e; subst e; exact h2 x hx
    · exact h.snt k' x hx
theorem Good.sub {m : M} {sn : Sent} (h : Good m sn) {k : Int × Int} {q : List (List UInt8 × Bool)} (hs : ∀ x ∈ q, x ∈ m.q k) : Good (m.setq k q) sn :=
  h.setq (fun hq => h.opn k (by obtain ⟨x, hx⟩ := List.exists_mem_of_ne_nil q hq; exact List.ne_nil_of_mem (hs x hx))) (fun x hx => h.snt k x (hs x hx))
theorem Of.more {sn : Sent} {k k' : Int × Int} {x : List UInt8 × Bool} {l : List (List UInt8)} (h : Of sn k x) : Of (setS sn k' (sn k' ++ l)) k x := by
  have hs : ∀ bs, bs ∈ sn k → bs ∈ setS sn k' (sn k' ++ l) k := by
    intro bs hb; simp only [setS]; split
    · rename_i e; subst e; exact List.mem_append_left _ hb
    · exact hb
  exact ⟨fun e => hs _ (h.1 e), fun e => let ⟨bs, h1, h2⟩ := h.2 e; ⟨bs, hs bs h1, h2⟩⟩
theorem pick_ok {m : M} {a b i : Int} {x : List UInt8 × Bool} (h : m.pick a b i = .ok x) : ∃ c, m.link (ends a b) = some c ∧ 0 ≤ i ∧ (m.q (a, b))[i.toNat]? = some x := by
  rcases pick_cases m a b i with ⟨e, _⟩ | ⟨c, hl, ⟨e, _⟩ | ⟨e, _⟩ | ⟨j, y, rfl, hj, e⟩⟩ <;> rw [h] at e <;> simp at e
  subst e; exact ⟨c, hl, by omega, by simpa using hj⟩
theorem ends_eq {a b c d : Int} (h : ends a b = ends c d) : (a, b) = (c, d) ∨ (a, b) = (d, c) := by
  simp only [ends, Prod.mk.injEq] at h ⊢; omega
theorem Good.send {m : M} {sn : Sent} (h : Good m sn) (a b : Int) (bs : List UInt8) : if (m.send a b bs).1 = 0 then Good (m.send a b bs).2 (setS sn (a, b) (sn (a, b) ++ [bs])) else Good (m.send a b bs).2 sn := by
  unfold M.send
  split
  · simpa using h
  · simpa using h
  · rename_i hl
    split
    · simpa using h
    · split
      · simpa using h
      · simp only [if_true]
        have h' : Good m (setS sn (a, b) (sn (a, b) ++ [bs])) := ⟨h.opn, fun k x hx => (h.snt k x hx).more⟩
        refine h'.setq (fun _ => hl) (fun x hx => ?_)
        rcases List.mem_append.1 hx with hx | hx
        · exact h'.snt _ x hx
        · simp only [List.mem_singleton] at hx; subst hx
          exact ⟨fun _ => by simp [setS], fun e => by simp at e⟩
theorem Good.take {m : M} {sn : Sent} (h : Good m sn) (a b i : Int) : Good (m.take a b i).2.2 sn := by
  unfold M.take
  split
  · exact h
  · exact h.sub (fun x hx => (List.eraseIdx_sublist _ _).subset hx)
theorem Good.double {m : M} {sn : Sent} (h : Good m sn) (a b i : Int) : Good (m.double a b i).2 sn := by
  unfold M.double
  split
  · exact h
  · rename_i x hx
    obtain ⟨c, hl, _, hj⟩ := pick_ok hx
    have hm := List.mem_of_getElem? hj
    split
    · exact h
    · refine h.setq (fun _ => h.opn (a, b) (List.ne_nil_of_mem hm)) (fun y hy => ?_)
      rcases List.mem_append.1 hy with hy | hy
      · exact h.snt _ y hy
      · simp only [List.mem_singleton] at hy; subst hy; exact h.snt _ y hm
theorem Good.spoil {m : M} {sn : Sent} (h : Good m sn) (a b i c : Int) : Good (m.spoil a b i c).2 sn := by
  unfold M.spoil
  split
  · exact h
  · rename_i x hx
    obtain ⟨_, hl, _, hj⟩ := pick_ok hx
    have hm := List.mem_of_getElem? hj
    split
    · exact h
    · split
      · exact h
      · rename_i hc hb
        split
        · exact h
        · rename_i hsp
          refine h.setq (fun _ => h.opn (a, b) (List.ne_nil_of_mem hm)) (fun y hy => ?_)
          rcases List.mem_or_eq_of_mem_set hy with hy | rfl
          · exact h.snt _ y hy
          · exact ⟨fun e => by simp at e, fun _ => ⟨x.1, (h.snt _ x hm).1 (by simpa using hsp), c.toNat, by omega, rfl⟩⟩
theorem Good.cut {m : M} {sn : Sent} (h : Good m sn) (a b : Int) : Good (m.cut a b).2 sn := by
  unfold M.cut
  split
  · exact h
  · exact h
  · constructor
    · intro k hk
      simp only [M.setq, M.setl] at hk ⊢
      by_cases e1 : k = (b, a)
      · simp [e1] at hk
      · by_cases e2 : k = (a, b)
        · simp [e2] at hk
        · simp only [e1, e2, if_false] at hk
          rw [if_neg]
          · exact h.opn k hk
          · intro e
            rcases ends_eq e with e | e
            · exact e2 e
            · exact e1 e
    · intro k x hx
      simp only [M.setq, M.setl] at hx
      split at hx
      · simp at hx
      · split at hx
        · simp at hx
        · exact h.snt k x hx
theorem Good.heal {m : M} {sn : Sent} (h : Good m sn) (a b : Int) : Good (m.heal a b).2 sn := by
  unfold M.heal
  split
  · exact h
  · exact h
  · exact ⟨fun k hk => by simp only [M.setl]; split; rfl; exact h.opn k hk, h.snt⟩
theorem Good.eStep {sn : Sent} {node : Int} {s : Int × M} {k : Int × Int} (h : Good s.2 sn) : Good (eStep node s k).2 sn := by
  unfold Go.Proofs.Ytaeidblipdjgnaa.eStep
  split
  · exact h.sub (by simp)
  · exact h
theorem Good.eFold {sn : Sent} {node : Int} : ∀ (l : List (Int × Int)) (s : Int × M), Good s.2 sn → Good (l.foldl (Go.Proofs.Ytaeidblipdjgnaa.eStep node) s).2 sn
  | [], _, h => h
  | _ :: r, _, h => Good.eFold r _ h.eStep
theorem Good.step {s : M × Sent} {x : Ac} (h : Good s.1 s.2) : Good (playStep s x).1 (playStep s x).2 := by
  unfold playStep
  split
  · have := h.send x.f x.t x.bs
    split
    · rename_i e; rw [if_pos e] at this; exact this
    · rename_i e; rw [if_neg e] at this; exact this
  repeat' split
  all_goals first | exact h.take _ _ _ | exact h.double _ _ _ | exact h.spoil _ _ _ _ | exact h.cut _ _ | exact h.heal _ _ | exact Good.eFold _ (0, s.1) h | exact h
theorem Good.fold : ∀ (l : List Ac) (s : M × Sent), Good s.1 s.2 → Good (l.foldl playStep s).1 (l.foldl playStep s).2
  | [], _, h => h
  | _ :: r, _, h => Good.fold r _ h.step
theorem Good.fresh (n : Int) (o : List (Int × Int)) : Good (M.fresh n o) (fun _ => []) := ⟨fun k h => absurd rfl h, fun k x h => by simp [M.fresh] at h⟩
theorem newM_fresh {n : Int} {ls : List (Int × Int)} {m : M} (h : newM n ls = some m) : ∃ o, m = M.fresh n o := by
  unfold newM at h; split at h
  · simp at h
  · obtain ⟨o, _, rfl⟩ := Option.map_eq_some_iff.1 h; exact ⟨o, rfl⟩
theorem play_good {n : Int} {ls : List (Int × Int)} {m : M} (h : newM n ls = some m) (l : List Ac) : Good (play m l).1 (play m l).2 := by
  obtain ⟨o, rfl⟩ := newM_fresh h
  exact Good.fold l (M.fresh n o, fun _ => []) (Good.fresh n o)
theorem send_nodes (m : M) (a b : Int) (bs : List UInt8) : (m.send a b bs).2.nodes = m.nodes := by
  unfold M.send; split <;> (try rfl); split <;> (try rfl); split <;> rfl
theorem playStep_nodes (s : M × Sent) (x : Ac) : (playStep s x).1.nodes = s.1.nodes := by
  unfold playStep
  repeat' split
  all_goals first | exact send_nodes _ _ _ _ | exact (empty_same _ _).1 | rfl | (unfold M.take; split <;> rfl) | (unfold M.double; split <;> (try rfl); split <;> rfl) | (unfold M.spoil; split <;> (try rfl); split <;> (try rfl); split <;> (try rfl); split <;> rfl) | (unfold M.cut; split <;> rfl) | (unfold M.heal; split <;> rfl)
theorem play_nodes {m : M} (l : List Ac) : (play m l).1.nodes = m.nodes := by
  have : ∀ (l : List Ac) (s : M × Sent), (l.foldl playStep s).1.nodes = s.1.nodes := by
    intro l; induction l with
    | nil => intro s; rfl
    | cons x r ih => intro s; rw [List.foldl_cons, ih, playStep_nodes]
  exact this l _
theorem play_order {m : M} (l : List Ac) : (play m l).1.order = m.order := by
  have : ∀ (l : List Ac) (s : M × Sent), (l.foldl playStep s).1.order = s.1.order := by
    intro l; induction l with
    | nil => intro s; rfl
    | cons x r ih => intro s; rw [List.foldl_cons, ih, playStep_order]
  exact this l _
/-! ### one bit -/
theorem bitAt_same (a : List UInt8) (i : Nat) : bitAt a a i = 0 := by simp [bitAt, popc_zero]
theorem bitsTo_same (a : List UInt8) : ∀ i, bitsTo a a i = 0
  | 0 => rfl
  | i + 1 => by rw [bitsTo, bitsTo_same, bitAt_same]
theorem nearF_same (a : List UInt8) : nearF a a = true := by simp [nearF, bitsTo_same]
theorem popc_pow (k : Nat) : popc (2 ^ k) = 1 := by
  induction k with
  | zero => rw [popc_pos (by decide)]; simp [popc_zero]
  | succ k ih =>
    rw [popc_pos (Nat.two_pow_pos _), show 2 ^ (k + 1) / 2 = 2 ^ k by rw [Nat.pow_succ]; omega, ih]
    rw [Nat.pow_succ]; omega
theorem nearF_turn {bs : List UInt8} {n : Nat} (h : n / 8 < bs.length) : nearF (turn bs n) bs = true := by
  have hlen := turn_length bs n
  have hat : ∀ i, bitAt (turn bs n) bs i = if i = n / 8 then 1 else 0 := by
    intro i
    unfold bitAt turn
    by_cases e : i = n / 8
    · subst e
      simp only [if_true, List.getD_eq_getElem?_getD, List.getElem?_set_self h, Option.getD_some]
      rw [List.getElem?_eq_getElem h]
      simp only [Option.getD_some, flip]
      have : bs[n / 8] ^^^ UInt8.ofNat (2 ^ (n % 8)) ^^^ bs[n / 8] = UInt8.ofNat (2 ^ (n % 8)) := by
        rw [UInt8.xor_comm (bs[n / 8]), UInt8.xor_assoc, UInt8.xor_self, UInt8.xor_zero]
      rw [this, UInt8.toNat_ofNat_of_lt', popc_pow]
      calc 2 ^ (n % 8) ≤ 2 ^ 7 := Nat.pow_le_pow_right (by decide) (by omega)
        _ < 256 := by decide
    · simp only [e, if_false, List.getD_eq_getElem?_getD, List.getElem?_set_ne (Ne.symm e)]
      simp [popc_zero]
  have hb : ∀ i, bitsTo (turn bs n) bs i = if n / 8 < i then 1 else 0 := by
    intro i
    induction i with
    | zero => simp [bitsTo]
    | succ i ih =>
      rw [bitsTo, ih, hat]
      split <;> split <;> split <;> omega
  simp only [nearF, hlen, beq_self_eq_true, Bool.true_and, hb]
  split <;> decide
theorem Of.any {sn : Sent} {k : Int × Int} {x : List UInt8 × Bool} (h : Of sn k x) : (sn k).any (fun s => nearF x.1 s) = true := by
  rw [List.any_eq_true]
  cases hx : x.2 with
  | false => exact ⟨x.1, h.1 hx, nearF_same _⟩
  | true => obtain ⟨bs, h1, n, h2, h3⟩ := h.2 hx; exact ⟨bs, h1, h3 ▸ nearF_turn h2⟩
end Go.Proofs.Ytaeidblipdjgnaa
