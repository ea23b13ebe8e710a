import Derived.Test.YtaeidblipdjgnaaNew
import Derived.Test.YtaeidblipdjgnaaTake
import Derived.Test.YtaeidblipdjgnaaDouble
import Derived.Test.YtaeidblipdjgnaaSpoil
import Derived.Test.YtaeidblipdjgnaaSend
import Derived.Test.YtaeidblipdjgnaaStr
namespace Go.Proofs.Ytaeidblipdjgnaa
open Go.RowKit Go.Maps Go.WideMaps

/-! ### what the calls do to a net -/
def M.send (m : M) (a b : Int) (bs : List UInt8) : Int × M :=
  match m.link (ends a b) with
  | none => (1, m)
  | some true => (7, m)
  | some false => if 512 < bs.length then (2, m) else if 24 ≤ (m.q (a, b)).length then (4, m) else (0, m.setq (a, b) (m.q (a, b) ++ [(bs, false)]))
/-- the datagram at a place, or the error -/
def M.pick (m : M) (a b i : Int) : Except Int (List UInt8 × Bool) :=
  match m.link (ends a b) with
  | none => .error 1
  | some _ => if i < 0 then .error 5 else match (m.q (a, b))[i.toNat]? with
    | none => .error 5
    | some x => .ok x
def M.take (m : M) (a b i : Int) : List UInt8 × Int × M :=
  match m.pick a b i with
  | .error e => ([], e, m)
  | .ok x => (x.1, 0, m.setq (a, b) ((m.q (a, b)).eraseIdx i.toNat))
def M.double (m : M) (a b i : Int) : Int × M :=
  match m.pick a b i with
  | .error e => (e, m)
  | .ok x => if 24 ≤ (m.q (a, b)).length then (4, m) else (0, m.setq (a, b) (m.q (a, b) ++ [x]))
def M.spoil (m : M) (a b i bit : Int) : Int × M :=
  match m.pick a b i with
  | .error e => (e, m)
  | .ok x => if bit < 0 then (1, m) else if x.1.length ≤ bit.toNat / 8 then (1, m) else if x.2 then (6, m) else (0, m.setq (a, b) ((m.q (a, b)).set i.toNat (turn x.1 bit.toNat, true)))

section
variable {p : Nat} {m : M} {H : Frag} {w : World} {a b i bit : Int} {v : Value} {bs : List UInt8}
theorem send_ok (h : NetRep p m H) (nd : (keys H).Nodup) (hH : Holds w H) (ha : i64 a) (hb : i64 b) (hv : BSrc w v bs) (hd : Off v (keys H)) :
    Calls Try.prog 11 #[.pointer (some ⟨p, 0, none⟩), .int .i64 a, .int .i64 b, v] w (RetW (keys H) w fun r H' => r = .int .i64 (m.send a b bs).1 ∧ NetRep p (m.send a b bs).2 H') := by
  have hk := good_ends ha hb
  have hk' : goodK (a, b) := good ha hb
  unfold M.send
  split
  · rename_i e; exact retW_of_N (send_arg h hH hk hk' hv e) nd hH ⟨rfl, h⟩
  · rename_i e; exact retW_of_N (send_down h hH hk hk' hv e) nd hH ⟨rfl, h⟩
  · rename_i e
    split
    · rename_i e1; exact retW_of_N (send_long h hH hk hk' hv e e1) nd hH ⟨rfl, h⟩
    · rename_i e1
      split
      · rename_i e2; exact retW_of_N (send_full h hH hk hk' hv e (by omega) e2) nd hH ⟨rfl, h⟩
      · rename_i e2; exact send_yes h nd hH hk hk' hv hd e (by omega) (by omega)
/-- the ways of a look-up -/
theorem pick_cases (m : M) (a b i : Int) : (m.pick a b i = .error 1 ∧ m.link (ends a b) = none) ∨ (∃ c, m.link (ends a b) = some c ∧ ((m.pick a b i = .error 5 ∧ i < 0) ∨ (m.pick a b i = .error 5 ∧ 0 ≤ i ∧ (m.q (a, b)).length ≤ i) ∨ ∃ j x, i = ((j : Nat) : Int) ∧ (m.q (a, b))[j]? = some x ∧ m.pick a b i = .ok x)) := by
  unfold M.pick
  cases hl : m.link (ends a b) with
  | none => exact Or.inl ⟨rfl, rfl⟩
  | some c =>
    refine Or.inr ⟨c, rfl, ?_⟩
    simp only
    by_cases hi : i < 0
    · exact Or.inl ⟨by rw [if_pos hi], hi⟩
    · rw [if_neg hi]
      cases hx : (m.q (a, b))[i.toNat]? with
      | none => exact Or.inr (Or.inl ⟨rfl, by omega, by have := List.getElem?_eq_none_iff.1 hx; omega⟩)
      | some x => exact Or.inr (Or.inr ⟨i.toNat, x, by omega, hx, rfl⟩)
theorem take_ok (h : NetRep p m H) (nd : (keys H).Nodup) (hH : Holds w H) (ha : i64 a) (hb : i64 b) :
    Calls Try.prog 12 #[.pointer (some ⟨p, 0, none⟩), .int .i64 a, .int .i64 b, .int .i64 i] w (RetW (keys H) w fun r H' => ∃ vb Hb Hn, r = .tuple #[vb, .int .i64 (m.take a b i).2.1] ∧ BRep vb (m.take a b i).1 Hb ∧ H' = Hn ++ Hb ∧ NetRep p (m.take a b i).2.2 Hn) := by
  have hk := good_ends ha hb
  have hk' : goodK (a, b) := good ha hb
  unfold M.take
  rcases pick_cases m a b i with ⟨e, hl⟩ | ⟨c, hl, ⟨e, hi⟩ | ⟨e, hi, hi2⟩ | ⟨j, x, rfl, hj, e⟩⟩ <;> rw [e]
  · exact retW_of_N (take_arg h hH hk hl) nd hH ⟨_, [], H, rfl, SlRep.nil _ _ _, by simp, h⟩
  · exact retW_of_N (take_neg h hH hk hk' hl hi) nd hH ⟨_, [], H, rfl, SlRep.nil _ _ _, by simp, h⟩
  · exact retW_of_N (take_far h hH hk hk' hl hi hi2) nd hH ⟨_, [], H, rfl, SlRep.nil _ _ _, by simp, h⟩
  · have := take_yes h nd hH hk hk' hl (bs := x.1) (sp := x.2) hj
    simpa using this
theorem double_ok (h : NetRep p m H) (nd : (keys H).Nodup) (hH : Holds w H) (ha : i64 a) (hb : i64 b) :
    Calls Try.prog 20 #[.pointer (some ⟨p, 0, none⟩), .int .i64 a, .int .i64 b, .int .i64 i] w (RetW (keys H) w fun r H' => r = .int .i64 (m.double a b i).1 ∧ NetRep p (m.double a b i).2 H') := by
  have hk := good_ends ha hb
  have hk' : goodK (a, b) := good ha hb
  unfold M.double
  rcases pick_cases m a b i with ⟨e, hl⟩ | ⟨c, hl, ⟨e, hi⟩ | ⟨e, hi, hi2⟩ | ⟨j, x, rfl, hj, e⟩⟩ <;> rw [e]
  · exact retW_of_N (double_arg h hH hk hl) nd hH ⟨rfl, h⟩
  · exact retW_of_N (double_neg h hH hk hk' hl hi) nd hH ⟨rfl, h⟩
  · exact retW_of_N (double_far h hH hk hk' hl hi hi2) nd hH ⟨rfl, h⟩
  · simp only
    split
    · rename_i e2; exact double_full h nd hH hk hk' hl (bs := x.1) (sp := x.2) hj e2
    · rename_i e2; exact double_yes h nd hH hk hk' hl (bs := x.1) (sp := x.2) hj (by omega)
theorem spoil_ok (h : NetRep p m H) (nd : (keys H).Nodup) (hH : Holds w H) (ha : i64 a) (hb : i64 b) (hc : i64 bit) :
    Calls Try.prog 33 #[.pointer (some ⟨p, 0, none⟩), .int .i64 a, .int .i64 b, .int .i64 i, .int .i64 bit] w (RetW (keys H) w fun r H' => r = .int .i64 (m.spoil a b i bit).1 ∧ NetRep p (m.spoil a b i bit).2 H') := by
  have hk := good_ends ha hb
  have hk' : goodK (a, b) := good ha hb
  unfold M.spoil
  rcases pick_cases m a b i with ⟨e, hl⟩ | ⟨c, hl, ⟨e, hi⟩ | ⟨e, hi, hi2⟩ | ⟨j, x, rfl, hj, e⟩⟩ <;> rw [e]
  · exact retW_of_N (spoil_arg h hH hk hl) nd hH ⟨rfl, h⟩
  · exact retW_of_N (spoil_neg h hH hk hk' hl hi) nd hH ⟨rfl, h⟩
  · exact retW_of_N (spoil_far h hH hk hk' hl hi hi2) nd hH ⟨rfl, h⟩
  · simp only
    split
    · rename_i e2; exact spoil_bneg (n := 0) h nd hH hk hk' hl (bs := x.1) (sp := x.2) hj e2
    · rename_i e2
      obtain ⟨n, rfl⟩ : ∃ n : Nat, bit = n := ⟨bit.toNat, by omega⟩
      have hn : n ≤ 9223372036854775807 := by have := hc.2; omega
      simp only [Int.toNat_natCast]
      split
      · rename_i e3; exact spoil_bfar h nd hH hk hk' hl (bs := x.1) (sp := x.2) hj hn e3
      · rename_i e3
        split
        · rename_i e4; exact spoil_was h nd hH hk hk' hl (bs := x.1) (sp := x.2) hj hn (by omega) e4
        · rename_i e4; exact spoil_yes h nd hH hk hk' hl (bs := x.1) (sp := x.2) hj hn (by omega) (by simpa using e4)
end
theorem pairs_one (l : List (Int × Int)) : ∀ q ∈ pairs l, oneC q = true := by
  intro q hq
  simp only [pairs, List.mem_flatMap, List.mem_cons, List.not_mem_nil, or_false] at hq
  obtain ⟨k, _, rfl | rfl⟩ := hq <;> rfl
theorem SlRep.src {w : World} {T size n : Nat} {v : Value} {X : List Value} {H : Frag} (h : SlRep T size v n X H) (hh : Holds w H) : Src w size v n X := by
  refine ⟨h.1, ?_⟩
  rcases h.2 with ⟨h0, _, a, rfl⟩ | ⟨b, cap, cs, rfl, rfl, _, _, htake⟩
  · exact Or.inl ⟨h0, a, 0, rfl⟩
  · refine Or.inr ⟨_, _, rfl, fun j hj => ?_⟩
    rw [add_eq, Nat.zero_add, cell_of hh.one]
    have : (cs.toList.take (n * size))[j]? = some X[j] := by rw [htake]; exact List.getElem?_eq_getElem hj
    rw [List.getElem?_take] at this
    split at this
    · simpa using this
    · simp at this
/-- slices.Clone of pairs -/
theorem cloneP_ok {v : Value} {l : List (Int × Int)} {w : World} (hs : Src w 2 v l.length (pairs l)) (hl : l.length ≤ 1000000) : Calls Try.prog 45 #[v] w (RetN w fun v' H => SlRep 28 2 v' l.length (pairs l) H) := by
  have hv : ∃ a c, v = .slice a l.length c := hs.len'
  obtain ⟨va, vc, rfl⟩ := hv
  cases hva : va with
  | none =>
    subst hva
    have hb : l = [] := by
      rcases hs.2 with ⟨h0, _⟩ | ⟨a, c, h, _⟩
      · exact List.eq_nil_of_length_eq_zero h0
      · simp at h
    subst hb
    refine enter Try.func45 rfl (n := 8) rfl (Nat.le_of_ble_eq_true rfl) fun _ A => ?_
    have S : St _ _ _ [] := St.none w
    refine wp_seq_k fun K1 hK1 => ?_
    refine region_seq ?_  -- region 0
    refine La A rfl (evc _ _) fun _ A => ?_
    replace A := A.only [2, 0] rfl
    refine hK1 _ _ ?_
    refine wp_seq_k fun K2 hK2 => ?_
    refine wp_seq_k fun K3 hK3 => ?_
    refine region_seq ?_  -- region 1
    refine Lm A rfl (A.g 0 rfl) fun _ A => Lo A rfl (y_sliceNil (c := true) (e := 28) (by kernel_rfl) (A.g 3 rfl) (evc _ _) (rfl) fun _ A => ?_)
    replace A := A.only [4, 2, 0] rfl
    refine hK3 _ _ ?_
    refine wp_cond_true (A.get rfl) ?_
    refine wp_seq_k fun K4 hK4 => ?_
    refine region_seq ?_  -- region 2
    refine La A rfl (evc _ _) fun _ A => ?_
    replace A := A.only [4, 2, 0] rfl
    refine hK4 _ _ ?_
    exact wp_ret ⟨A.defers, _, res_run (rs := [.tmp 2]) (vs := [.slice none 0 0]) rfl ⟨A.get rfl, trivial⟩, ⟨_, rfl, S.kp.to_gr, [], SlRep.nil _ _ _, NewF.nil _ _⟩⟩
  | some ad =>
    subst hva
    refine enter Try.func45 rfl (n := 8) rfl (Nat.le_of_ble_eq_true rfl) fun _ A => ?_
    have S : St _ _ _ [] := St.none w
    refine wp_seq_k fun K1 hK1 => ?_
    refine region_seq ?_  -- region 0
    refine La A rfl (evc _ _) fun _ A => ?_
    replace A := A.only [2, 0] rfl
    refine hK1 _ _ ?_
    refine wp_seq_k fun K2 hK2 => ?_
    refine wp_seq_k fun K3 hK3 => ?_
    refine region_seq ?_  -- region 1
    refine Lm A rfl (A.g 0 rfl) fun _ A => Lo A rfl (y_sliceNil (c := false) (e := 28) (by kernel_rfl) (A.g 3 rfl) (evc _ _) (rfl) fun _ A => ?_)
    replace A := A.only [4, 2, 0] rfl
    refine hK3 _ _ ?_
    refine wp_cond_false (A.get rfl) ?_
    refine wp_skip ?_
    refine hK2 _ _ ?_
    refine wp_seq_k fun K4 hK4 => ?_
    refine region_seq ?_  -- region 3
    refine Lo A rfl (y_buildSlice0 (c := #[]) (e := 28)  (fun w => by kernel_rfl) fun b1 w gG nN ac A => ?_)
    replace S : St _ _ _ [(b1, .cells #[] 28 (0, 0))] := S.new gG nN
    refine Lm A rfl (A.g 0 rfl) fun _ A => Lo A rfl (y_append okPS (by kernel_rfl) (A.g 5 rfl) (A.g 6 rfl) (H := []) S (SlRep.nil _ _ _) (hs.gr S.kp.to_gr) (pairs_one l) (by omega) (by omega) fun v' w H' hr S ac A => ?_)
    refine La A rfl (A.g 7 rfl) fun _ A => ?_
    replace A := A.only [4, 2, 0] rfl
    refine hK4 _ _ ?_
    exact wp_ret ⟨A.defers, _, res_run (rs := [.tmp 2]) (vs := [v']) rfl ⟨A.get rfl, trivial⟩, ⟨_, rfl, S.kp.to_gr, H', by simpa using hr, S.app_left.newF⟩⟩

theorem links_ok {p : Nat} {m : M} {H : Frag} {w : World} (h : NetRep p m H) (hH : Holds w H) : Calls Try.prog 25 #[.pointer (some ⟨p, 0, none⟩)] w (RetN w fun v' H' => SlRep 28 2 v' m.order.length (pairs m.order) H') := by
  obtain ⟨vo, Ho, rl, ol, ls, rq, oq, es, h, rfl⟩ := h
  have hp : w.heap[p]? = some (.cells #[.int .i64 m.nodes, vo, .map (some rl), .map (some rq)] 69 (0, 0)) := hH.one
  have ho : Holds w Ho := (Holds.app.1 hH.tail.tail.tail).1
  refine enter Try.func25 rfl (n := 10) rfl (Nat.le_of_ble_eq_true rfl) fun _ A => ?_
  have S : St _ _ _ [] := St.none w
  refine wp_seq_k fun K1 hK1 => ?_
  refine region_seq ?_  -- region 0
  refine La A rfl (evc _ _) fun _ A => ?_
  replace A := A.only [2, 0] rfl
  refine hK1 _ _ ?_
  refine wp_seq_k fun K2 hK2 => ?_
  refine wp_seq_k fun K3 hK3 => ?_
  refine region_seq ?_  -- region 1
  refine Lm A rfl (A.g 0 rfl) fun _ A => Lo A rfl (y_ptrNil (c := false) (by kernel_rfl) (A.g 3 rfl) (evc _ _) rfl fun _ A => ?_)
  replace A := A.only [4, 2, 0] rfl
  refine hK3 _ _ ?_
  refine wp_cond_false (A.get rfl) ?_
  refine wp_skip ?_
  refine hK2 _ _ ?_
  refine wp_seq_k fun K4 hK4 => ?_
  refine region_seq ?_  -- region 3
  refine Lm A rfl (A.g 0 rfl) fun _ A => Lo A rfl (y_nilCheck (A.g 5 rfl) fun _ A => ?_)
  refine Lo A rfl (y_fieldAddr (off := 1) (j := 1) (by kernel_rfl) (A.g 6 rfl) (by first | rfl | omega) fun _ A => ?_)
  refine Lo A rfl (y_load (by kernel_rfl) (A.g 7 rfl) ((cell_of (S.kp.heap' hp (by simp)) _).trans rfl) fun _ A => ?_)
  refine Lo A rfl (y_call1 (by kernel_rfl) rfl (A.g 8 rfl) (callN (cloneP_ok (h.ord.src (ho.gr S.kp.to_gr)) h.ols) fun v w H gG nN hf ac A => ?_))
  obtain _ := hf
  replace S : St _ _ _ H := (S.new gG nN).perm (by first | exact .refl _ | (rw [List.append_assoc]; exact .refl _) | (simp only [List.append_assoc, List.nil_append, List.append_nil]; exact .refl _))
  refine La A rfl (A.g 9 rfl) fun _ A => ?_
  replace A := A.only [4, 2, 0] rfl
  refine hK4 _ _ ?_
  exact wp_ret ⟨A.defers, _, res_run (rs := [.tmp 2]) (vs := [v]) rfl ⟨A.get rfl, trivial⟩, ⟨_, rfl, S.kp.to_gr, _, hf, S.newF⟩⟩
end Go.Proofs.Ytaeidblipdjgnaa
