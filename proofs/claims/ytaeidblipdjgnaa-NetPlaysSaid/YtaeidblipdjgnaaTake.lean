import Derived.Test.YtaeidblipdjgnaaTake1
namespace Go.Proofs.Ytaeidblipdjgnaa
open Go.RowKit Go.Maps Go.WideMaps

section
variable {p : Nat} {m : M} {H : Frag} {w : World} {a b i : Int}

set_option maxRecDepth 20000 in
set_option maxHeartbeats 1000000 in
theorem take_arg (h : NetRep p m H) (hH : Holds w H) (hk : goodK (ends a b)) (hn : m.link (ends a b) = none) : Calls Try.prog 12 #[.pointer (some ⟨p, 0, none⟩), .int .i64 a, .int .i64 b, .int .i64 i] w (RetN w (eqv (.tuple #[.slice none 0 0, .int .i64 1]))) := by
  refine enter Try.func12 rfl (n := 20) rfl (Nat.le_of_ble_eq_true rfl) fun _ A => ?_
  have S : St _ _ _ [] := St.none w
  refine wp_seq_k fun K1 hK1 => ?_
  refine region_seq ?_  -- region 0
  refine Lo A rfl (y_boxN (A.g 3 rfl) fun b1 w gG nN ac A => ?_)
  replace S : St _ _ _ [(b1, .cells #[.int .i64 i] 3 (0, 0))] := S.new gG nN
  refine La A rfl (evc _ _) fun _ A => La A rfl (evc _ _) fun _ A => ?_
  replace A := A.only [9, 8, 7, 3, 2, 1, 0] rfl
  refine hK1 _ _ ?_
  refine wp_seq_k fun K2 hK2 => ?_
  refine region_seq ?_  -- region 1
  refine Lo A rfl (y_allocN (z := .slice none 0 0) (by kernel_rfl) fun b2 w gG nN ac A => ?_)
  replace S : St _ _ _ [(b2, .cells #[.slice none 0 0] 31 (0, 0)), (b1, .cells #[.int .i64 i] 3 (0, 0))] := S.new gG nN
  replace A := A.only [10, 9, 8, 7, 3, 2, 1, 0] rfl
  refine hK2 _ _ ?_
  refine wp_seq_k fun K3 hK3 => ?_
  refine region_seq ?_  -- region 2
  refine Lm A rfl (A.g 0 rfl) fun _ A => Lm A rfl (A.g 1 rfl) fun _ A => Lm A rfl (A.g 2 rfl) fun _ A => Lo A rfl (y_load (by kernel_rfl) (A.g 7 rfl) ((cell_of (S.get 1 rfl) _).trans rfl) fun _ A => ?_)
  replace A := A.only [15, 14, 13, 12, 10, 9, 8, 7, 3, 2, 1, 0] rfl
  refine Lo A rfl (y_makeFunc2 (A.g 7 rfl) (A.g 10 rfl) fun _ A => ?_)
  refine Lo A rfl (y_call5 (by kernel_rfl) rfl (A.g 12 rfl) (A.g 13 rfl) (A.g 14 rfl) (A.g 15 rfl) (A.g 16 rfl) (callN (at_arg h (hH.gr S.kp.to_gr) hk hn) fun v w H gG nN hf ac A => ?_))
  obtain ⟨rfl, rfl⟩ := hf
  replace S : St _ _ _ [(b2, .cells #[.slice none 0 0] 31 (0, 0)), (b1, .cells #[.int .i64 i] 3 (0, 0))] := S.new gG nN
  refine La A rfl (A.g 17 rfl) fun _ A => ?_
  replace A := A.only [11, 10, 9, 8, 7, 3, 2, 1, 0] rfl
  refine hK3 _ _ ?_
  refine wp_seq_k fun K4 hK4 => ?_
  refine region_seq ?_  -- region 3
  refine Lo A rfl (y_load (by kernel_rfl) (A.g 10 rfl) ((cell_of (S.get 0 rfl) _).trans rfl) fun _ A => ?_)
  refine Lm A rfl (A.g 11 rfl) fun _ A => La A rfl (A.g 18 rfl) fun _ A => La A rfl (A.g 19 rfl) fun _ A => ?_
  replace A := A.only [11, 10, 9, 8, 7, 3, 2, 1, 0] rfl
  refine hK4 _ _ ?_
  exact wp_ret ⟨A.defers, _, res_run (rs := [.tmp 8, .tmp 9]) (vs := [.slice none 0 0, .int .i64 1]) rfl ⟨A.get rfl, A.get rfl, trivial⟩, ⟨_, rfl, S.kp.to_gr, [], ⟨rfl, rfl⟩, NewF.nil _ _⟩⟩

set_option maxRecDepth 20000 in
set_option maxHeartbeats 1000000 in
theorem take_neg (h : NetRep p m H) (hH : Holds w H) (hk : goodK (ends a b)) (hk' : goodK (a, b)) {c : Bool} (hn : m.link (ends a b) = some c) (hi : i < 0) : Calls Try.prog 12 #[.pointer (some ⟨p, 0, none⟩), .int .i64 a, .int .i64 b, .int .i64 i] w (RetN w (eqv (.tuple #[.slice none 0 0, .int .i64 5]))) := by
  refine enter Try.func12 rfl (n := 20) rfl (Nat.le_of_ble_eq_true rfl) fun _ A => ?_
  have S : St _ _ _ [] := St.none w
  refine wp_seq_k fun K1 hK1 => ?_
  refine region_seq ?_  -- region 0
  refine Lo A rfl (y_boxN (A.g 3 rfl) fun b1 w gG nN ac A => ?_)
  replace S : St _ _ _ [(b1, .cells #[.int .i64 i] 3 (0, 0))] := S.new gG nN
  refine La A rfl (evc _ _) fun _ A => La A rfl (evc _ _) fun _ A => ?_
  replace A := A.only [9, 8, 7, 3, 2, 1, 0] rfl
  refine hK1 _ _ ?_
  refine wp_seq_k fun K2 hK2 => ?_
  refine region_seq ?_  -- region 1
  refine Lo A rfl (y_allocN (z := .slice none 0 0) (by kernel_rfl) fun b2 w gG nN ac A => ?_)
  replace S : St _ _ _ [(b2, .cells #[.slice none 0 0] 31 (0, 0)), (b1, .cells #[.int .i64 i] 3 (0, 0))] := S.new gG nN
  replace A := A.only [10, 9, 8, 7, 3, 2, 1, 0] rfl
  refine hK2 _ _ ?_
  refine wp_seq_k fun K3 hK3 => ?_
  refine region_seq ?_  -- region 2
  refine Lm A rfl (A.g 0 rfl) fun _ A => Lm A rfl (A.g 1 rfl) fun _ A => Lm A rfl (A.g 2 rfl) fun _ A => Lo A rfl (y_load (by kernel_rfl) (A.g 7 rfl) ((cell_of (S.get 1 rfl) _).trans rfl) fun _ A => ?_)
  replace A := A.only [15, 14, 13, 12, 10, 9, 8, 7, 3, 2, 1, 0] rfl
  refine Lo A rfl (y_makeFunc2 (A.g 7 rfl) (A.g 10 rfl) fun _ A => ?_)
  refine Lo A rfl (y_call5 (by kernel_rfl) rfl (A.g 12 rfl) (A.g 13 rfl) (A.g 14 rfl) (A.g 15 rfl) (A.g 16 rfl) (callN (at_neg h (hH.gr S.kp.to_gr) hk hk' hn hi) fun v w H gG nN hf ac A => ?_))
  obtain ⟨rfl, rfl⟩ := hf
  replace S : St _ _ _ [(b2, .cells #[.slice none 0 0] 31 (0, 0)), (b1, .cells #[.int .i64 i] 3 (0, 0))] := S.new gG nN
  refine La A rfl (A.g 17 rfl) fun _ A => ?_
  replace A := A.only [11, 10, 9, 8, 7, 3, 2, 1, 0] rfl
  refine hK3 _ _ ?_
  refine wp_seq_k fun K4 hK4 => ?_
  refine region_seq ?_  -- region 3
  refine Lo A rfl (y_load (by kernel_rfl) (A.g 10 rfl) ((cell_of (S.get 0 rfl) _).trans rfl) fun _ A => ?_)
  refine Lm A rfl (A.g 11 rfl) fun _ A => La A rfl (A.g 18 rfl) fun _ A => La A rfl (A.g 19 rfl) fun _ A => ?_
  replace A := A.only [11, 10, 9, 8, 7, 3, 2, 1, 0] rfl
  refine hK4 _ _ ?_
  exact wp_ret ⟨A.defers, _, res_run (rs := [.tmp 8, .tmp 9]) (vs := [.slice none 0 0, .int .i64 5]) rfl ⟨A.get rfl, A.get rfl, trivial⟩, ⟨_, rfl, S.kp.to_gr, [], ⟨rfl, rfl⟩, NewF.nil _ _⟩⟩

set_option maxRecDepth 20000 in
set_option maxHeartbeats 1000000 in
theorem take_far (h : NetRep p m H) (hH : Holds w H) (hk : goodK (ends a b)) (hk' : goodK (a, b)) {c : Bool} (hn : m.link (ends a b) = some c) (hi : 0 ≤ i) (hi2 : (m.q (a, b)).length ≤ i) : Calls Try.prog 12 #[.pointer (some ⟨p, 0, none⟩), .int .i64 a, .int .i64 b, .int .i64 i] w (RetN w (eqv (.tuple #[.slice none 0 0, .int .i64 5]))) := by
  refine enter Try.func12 rfl (n := 20) rfl (Nat.le_of_ble_eq_true rfl) fun _ A => ?_
  have S : St _ _ _ [] := St.none w
  refine wp_seq_k fun K1 hK1 => ?_
  refine region_seq ?_  -- region 0
  refine Lo A rfl (y_boxN (A.g 3 rfl) fun b1 w gG nN ac A => ?_)
  replace S : St _ _ _ [(b1, .cells #[.int .i64 i] 3 (0, 0))] := S.new gG nN
  refine La A rfl (evc _ _) fun _ A => La A rfl (evc _ _) fun _ A => ?_
  replace A := A.only [9, 8, 7, 3, 2, 1, 0] rfl
  refine hK1 _ _ ?_
  refine wp_seq_k fun K2 hK2 => ?_
  refine region_seq ?_  -- region 1
  refine Lo A rfl (y_allocN (z := .slice none 0 0) (by kernel_rfl) fun b2 w gG nN ac A => ?_)
  replace S : St _ _ _ [(b2, .cells #[.slice none 0 0] 31 (0, 0)), (b1, .cells #[.int .i64 i] 3 (0, 0))] := S.new gG nN
  replace A := A.only [10, 9, 8, 7, 3, 2, 1, 0] rfl
  refine hK2 _ _ ?_
  refine wp_seq_k fun K3 hK3 => ?_
  refine region_seq ?_  -- region 2
  refine Lm A rfl (A.g 0 rfl) fun _ A => Lm A rfl (A.g 1 rfl) fun _ A => Lm A rfl (A.g 2 rfl) fun _ A => Lo A rfl (y_load (by kernel_rfl) (A.g 7 rfl) ((cell_of (S.get 1 rfl) _).trans rfl) fun _ A => ?_)
  replace A := A.only [15, 14, 13, 12, 10, 9, 8, 7, 3, 2, 1, 0] rfl
  refine Lo A rfl (y_makeFunc2 (A.g 7 rfl) (A.g 10 rfl) fun _ A => ?_)
  refine Lo A rfl (y_call5 (by kernel_rfl) rfl (A.g 12 rfl) (A.g 13 rfl) (A.g 14 rfl) (A.g 15 rfl) (A.g 16 rfl) (callN (at_far h (hH.gr S.kp.to_gr) hk hk' hn hi hi2) fun v w H gG nN hf ac A => ?_))
  obtain ⟨rfl, rfl⟩ := hf
  replace S : St _ _ _ [(b2, .cells #[.slice none 0 0] 31 (0, 0)), (b1, .cells #[.int .i64 i] 3 (0, 0))] := S.new gG nN
  refine La A rfl (A.g 17 rfl) fun _ A => ?_
  replace A := A.only [11, 10, 9, 8, 7, 3, 2, 1, 0] rfl
  refine hK3 _ _ ?_
  refine wp_seq_k fun K4 hK4 => ?_
  refine region_seq ?_  -- region 3
  refine Lo A rfl (y_load (by kernel_rfl) (A.g 10 rfl) ((cell_of (S.get 0 rfl) _).trans rfl) fun _ A => ?_)
  refine Lm A rfl (A.g 11 rfl) fun _ A => La A rfl (A.g 18 rfl) fun _ A => La A rfl (A.g 19 rfl) fun _ A => ?_
  replace A := A.only [11, 10, 9, 8, 7, 3, 2, 1, 0] rfl
  refine hK4 _ _ ?_
  exact wp_ret ⟨A.defers, _, res_run (rs := [.tmp 8, .tmp 9]) (vs := [.slice none 0 0, .int .i64 5]) rfl ⟨A.get rfl, A.get rfl, trivial⟩, ⟨_, rfl, S.kp.to_gr, [], ⟨rfl, rfl⟩, NewF.nil _ _⟩⟩

theorem it_of {its : List It} {q : List (List UInt8 × Bool)} (h : itQ its = q) {j : Nat} {bs : List UInt8} {sp : Bool} (hj : q[j]? = some (bs, sp)) : ∃ it, its[j]? = some it ∧ it.bs = bs ∧ it.sp = sp := by
  subst h
  simp only [itQ, List.getElem?_map, Option.map_eq_some_iff, Prod.mk.injEq] at hj
  obtain ⟨it, h1, h2, h3⟩ := hj
  exact ⟨it, h1, h2, h3⟩

/-- what Take leaves in what it has captured -/
def TakeX (bi bo j : Nat) (bs : List UInt8) (its : List It) (Hc' : Frag) : Prop := ∃ it, its[j]? = some it ∧ it.bs = bs ∧ Hc' = capT bi bo j it.v ++ it.H ∧ BRep it.v bs it.H
theorem few_of (h : NetRep p m H) (k : Int × Int) : (m.q k).length ≤ 24 := by
  obtain ⟨vo, Ho, rl, ol, ls, rq, oq, es, h, rfl⟩ := h
  exact h.few k
theorem take_put {bi bo j : Nat} {bs : List UInt8} {sp : Bool} (h : NetRep p m H) (hj : (m.q (a, b))[j]? = some (bs, sp)) (hl : (m.q (a, b)).length ≠ 1) :
    Does m (a, b) 41 #[.pointer (some ⟨bi, 0, none⟩), .pointer (some ⟨bo, 0, none⟩)] (capT bi bo j (.slice none 0 0)) fun its HQ r Hr => ∃ v' its' HQ' Hc', r = .tuple #[v', .int .i64 0] ∧ its' ≠ [] ∧ its'.length ≤ 24 ∧ SlRep 85 2 v' its'.length (itCells its') HQ' ∧ ItOk its' ∧ Hr = HQ' ++ (itH its' ++ Hc') ∧ (its' = its.eraseIdx j ∧ TakeX bi bo j bs its Hc') := by
  intro w1 qa qc its HQ hsl hits hok nd hH
  obtain ⟨it, h1, h2, h3⟩ := it_of hits hj
  have hlen : its.length = (m.q (a, b)).length := by rw [← hits, itQ_length]
  have hfew := few_of h (a, b)
  have hjl := lt_of_get h1
  have hel : (its.eraseIdx j).length = its.length - 1 := by rw [List.length_eraseIdx, if_pos hjl]
  refine (take1_ok hsl hok h1 (by omega) nd hH).mono ?_
  rintro e w' ⟨v, Hr, rfl, ⟨HQ', rfl, hsl', rfl⟩, s⟩
  exact ⟨_, _, rfl, ⟨_, its.eraseIdx j, HQ', _, rfl, by intro e; rw [e] at hel; simp at hel; omega, by omega, hsl', itOk_erase hok j, rfl, rfl, it, h1, h2, rfl, h2 ▸ (hok it (List.mem_of_getElem? h1)).1⟩, s⟩
theorem take_del {bi bo j : Nat} {bs : List UInt8} {sp : Bool} (hj : (m.q (a, b))[j]? = some (bs, sp)) (hl : (m.q (a, b)).length = 1) :
    Does m (a, b) 41 #[.pointer (some ⟨bi, 0, none⟩), .pointer (some ⟨bo, 0, none⟩)] (capT bi bo j (.slice none 0 0)) fun its _ r Hr => ∃ ra rc, r = .tuple #[.slice ra 0 rc, .int .i64 0] ∧ TakeX bi bo j bs its Hr := by
  intro w1 qa qc its HQ hsl hits hok nd hH
  obtain ⟨it, h1, h2, h3⟩ := it_of hits hj
  have hlen : its.length = (m.q (a, b)).length := by rw [← hits, itQ_length]
  refine (take1_ok hsl hok h1 (by omega) nd hH).mono ?_
  rintro e w' ⟨v, Hr, rfl, ⟨HQ', rfl, hsl', rfl⟩, s⟩
  refine ⟨_, capT bi bo j it.v ++ it.H, rfl, ⟨qa, qc, by rw [hlen, hl], it, h1, h2, rfl, h2 ▸ (hok it (List.mem_of_getElem? h1)).1⟩, ?_⟩
  exact s.app_right.app_right

set_option maxRecDepth 20000 in
set_option maxHeartbeats 4000000 in
theorem take_yes1 {c : Bool} {j : Nat} {bs : List UInt8} {sp : Bool} (h : NetRep p m H) (nd : (keys H).Nodup) (hH : Holds w H) (hk : goodK (ends a b)) (hk' : goodK (a, b)) (hn : m.link (ends a b) = some c) (hj : (m.q (a, b))[j]? = some (bs, sp)) (hl : (m.q (a, b)).length ≠ 1) :
    Calls Try.prog 12 #[.pointer (some ⟨p, 0, none⟩), .int .i64 a, .int .i64 b, .int .i64 j] w (RetW (keys H) w fun r H' => ∃ vb Hb Hn, r = .tuple #[vb, .int .i64 0] ∧ BRep vb bs Hb ∧ H' = Hn ++ Hb ∧ NetRep p (m.setq (a, b) ((m.q (a, b)).eraseIdx j)) Hn) := by
  have hjl := lt_of_get hj
  have S0 := St.start nd hH
  refine enter Try.func12 rfl (n := 20) rfl (Nat.le_of_ble_eq_true rfl) fun _ A => ?_
  have S : St _ _ _ H := S0
  refine wp_seq_k fun K1 hK1 => ?_
  refine region_seq ?_  -- region 0
  refine Lo A rfl (y_boxN (A.g 3 rfl) fun b1 w gG nN ac A => ?_)
  replace S : St _ _ _ ([(b1, .cells #[.int .i64 j] 3 (0, 0))] ++ H) := (S.new gG nN).perm (by first | exact .refl _ | (rw [List.append_assoc]; exact .refl _) | (simp only [List.append_assoc, List.nil_append, List.append_nil]; exact .refl _))
  refine La A rfl (evc _ _) fun _ A => La A rfl (evc _ _) fun _ A => ?_
  replace A := A.only [9, 8, 7, 3, 2, 1, 0] rfl
  refine hK1 _ _ ?_
  refine wp_seq_k fun K2 hK2 => ?_
  refine region_seq ?_  -- region 1
  refine Lo A rfl (y_allocN (z := .slice none 0 0) (by kernel_rfl) fun b2 w gG nN ac A => ?_)
  replace S : St _ _ _ ([(b2, .cells #[.slice none 0 0] 31 (0, 0)), (b1, .cells #[.int .i64 j] 3 (0, 0))] ++ H) := (S.new gG nN).perm (by first | exact .refl _ | (rw [List.append_assoc]; exact .refl _) | (simp only [List.append_assoc, List.nil_append, List.append_nil]; exact .refl _))
  replace A := A.only [10, 9, 8, 7, 3, 2, 1, 0] rfl
  refine hK2 _ _ ?_
  refine wp_seq_k fun K3 hK3 => ?_
  refine region_seq ?_  -- region 2
  refine Lm A rfl (A.g 0 rfl) fun _ A => Lm A rfl (A.g 1 rfl) fun _ A => Lm A rfl (A.g 2 rfl) fun _ A => Lo A rfl (y_load (by kernel_rfl) (A.g 7 rfl) ((cell_of (S.get 1 rfl) _).trans rfl) fun _ A => ?_)
  replace A := A.only [15, 14, 13, 12, 10, 9, 8, 7, 3, 2, 1, 0] rfl
  refine Lo A rfl (y_makeFunc2 (A.g 7 rfl) (A.g 10 rfl) fun _ A => ?_)
  replace S : St _ _ _ ((H ++ capT b1 b2 j (.slice none 0 0)) ++ []) := S.perm (by classical rw [List.perm_iff_count]; intro x; simp only [List.count_append, List.count_cons, List.count_nil, capT]; omega)
  refine Lo A rfl (y_call5 (by kernel_rfl) rfl (A.g 12 rfl) (A.g 13 rfl) (A.g 14 rfl) (A.g 15 rfl) (A.g 16 rfl) (callW (at_put (X := fun its its' Hc' => its' = its.eraseIdx j ∧ TakeX b1 b2 j bs its Hc') h S.app_left.nd S.app_left.holds hk hk' hn (by omega) (by omega) (by kernel_rfl) (take_put h hj hl)) fun v w Hr s hf ac A => ?_))
  replace S := St.call (R := []) S rfl s
  obtain ⟨rfl, Hn, its, its', Hc', rfl, hq, hN, rfl, it, h1, h2, rfl, hB⟩ := hf
  replace S : St _ _ _ ([(b1, .cells #[.int .i64 j] 3 (0, 0)), (b2, .cells #[it.v] 31 (0, 0))] ++ (it.H ++ Hn)) := S.perm (by classical rw [List.perm_iff_count]; intro x; simp only [List.count_append, List.count_cons, List.count_nil, capT]; omega)
  refine La A rfl (A.g 17 rfl) fun _ A => ?_
  replace A := A.only [11, 10, 9, 8, 7, 3, 2, 1, 0] rfl
  refine hK3 _ _ ?_
  refine wp_seq_k fun K4 hK4 => ?_
  refine region_seq ?_  -- region 3
  refine Lo A rfl (y_load (by kernel_rfl) (A.g 10 rfl) ((cell_of (S.get 1 rfl) _).trans rfl) fun _ A => ?_)
  refine Lm A rfl (A.g 11 rfl) fun _ A => La A rfl (A.g 18 rfl) fun _ A => La A rfl (A.g 19 rfl) fun _ A => ?_
  replace A := A.only [11, 10, 9, 8, 7, 3, 2, 1, 0] rfl
  refine hK4 _ _ ?_
  have S' : St _ _ _ (Hn ++ it.H) := (St.app_right (H := [(b1, .cells #[.int .i64 j] 3 (0, 0)), (b2, .cells #[it.v] 31 (0, 0))]) S).perm List.perm_append_comm
  exact wp_ret ⟨A.defers, _, res_run (rs := [.tmp 8, .tmp 9]) (vs := [it.v, .int .i64 0]) rfl ⟨A.get rfl, A.get rfl, trivial⟩, ⟨_, _, rfl, ⟨it.v, it.H, Hn, rfl, hB, rfl, by rw [← hq, ← itQ_erase]; exact hN⟩, S'⟩⟩

set_option maxRecDepth 20000 in
set_option maxHeartbeats 4000000 in
theorem take_yes2 {c : Bool} {j : Nat} {bs : List UInt8} {sp : Bool} (h : NetRep p m H) (nd : (keys H).Nodup) (hH : Holds w H) (hk : goodK (ends a b)) (hk' : goodK (a, b)) (hn : m.link (ends a b) = some c) (hj : (m.q (a, b))[j]? = some (bs, sp)) (hl : (m.q (a, b)).length = 1) :
    Calls Try.prog 12 #[.pointer (some ⟨p, 0, none⟩), .int .i64 a, .int .i64 b, .int .i64 j] w (RetW (keys H) w fun r H' => ∃ vb Hb Hn, r = .tuple #[vb, .int .i64 0] ∧ BRep vb bs Hb ∧ H' = Hn ++ Hb ∧ NetRep p (m.setq (a, b) ((m.q (a, b)).eraseIdx j)) Hn) := by
  have hjl := lt_of_get hj
  have S0 := St.start nd hH
  refine enter Try.func12 rfl (n := 20) rfl (Nat.le_of_ble_eq_true rfl) fun _ A => ?_
  have S : St _ _ _ H := S0
  refine wp_seq_k fun K1 hK1 => ?_
  refine region_seq ?_  -- region 0
  refine Lo A rfl (y_boxN (A.g 3 rfl) fun b1 w gG nN ac A => ?_)
  replace S : St _ _ _ ([(b1, .cells #[.int .i64 j] 3 (0, 0))] ++ H) := (S.new gG nN).perm (by first | exact .refl _ | (rw [List.append_assoc]; exact .refl _) | (simp only [List.append_assoc, List.nil_append, List.append_nil]; exact .refl _))
  refine La A rfl (evc _ _) fun _ A => La A rfl (evc _ _) fun _ A => ?_
  replace A := A.only [9, 8, 7, 3, 2, 1, 0] rfl
  refine hK1 _ _ ?_
  refine wp_seq_k fun K2 hK2 => ?_
  refine region_seq ?_  -- region 1
  refine Lo A rfl (y_allocN (z := .slice none 0 0) (by kernel_rfl) fun b2 w gG nN ac A => ?_)
  replace S : St _ _ _ ([(b2, .cells #[.slice none 0 0] 31 (0, 0)), (b1, .cells #[.int .i64 j] 3 (0, 0))] ++ H) := (S.new gG nN).perm (by first | exact .refl _ | (rw [List.append_assoc]; exact .refl _) | (simp only [List.append_assoc, List.nil_append, List.append_nil]; exact .refl _))
  replace A := A.only [10, 9, 8, 7, 3, 2, 1, 0] rfl
  refine hK2 _ _ ?_
  refine wp_seq_k fun K3 hK3 => ?_
  refine region_seq ?_  -- region 2
  refine Lm A rfl (A.g 0 rfl) fun _ A => Lm A rfl (A.g 1 rfl) fun _ A => Lm A rfl (A.g 2 rfl) fun _ A => Lo A rfl (y_load (by kernel_rfl) (A.g 7 rfl) ((cell_of (S.get 1 rfl) _).trans rfl) fun _ A => ?_)
  replace A := A.only [15, 14, 13, 12, 10, 9, 8, 7, 3, 2, 1, 0] rfl
  refine Lo A rfl (y_makeFunc2 (A.g 7 rfl) (A.g 10 rfl) fun _ A => ?_)
  replace S : St _ _ _ ((H ++ capT b1 b2 j (.slice none 0 0)) ++ []) := S.perm (by classical rw [List.perm_iff_count]; intro x; simp only [List.count_append, List.count_cons, List.count_nil, capT]; omega)
  refine Lo A rfl (y_call5 (by kernel_rfl) rfl (A.g 12 rfl) (A.g 13 rfl) (A.g 14 rfl) (A.g 15 rfl) (A.g 16 rfl) (callW (at_del (X := TakeX b1 b2 j bs) h S.app_left.nd S.app_left.holds hk hk' hn (by omega) (by omega) (by kernel_rfl) (take_del hj hl)) fun v w Hr s hf ac A => ?_))
  replace S := St.call (R := []) S rfl s
  obtain ⟨rfl, Hn, its, Hc', rfl, hq, hN, it, h1, h2, rfl, hB⟩ := hf
  replace S : St _ _ _ ([(b1, .cells #[.int .i64 j] 3 (0, 0)), (b2, .cells #[it.v] 31 (0, 0))] ++ (it.H ++ Hn)) := S.perm (by classical rw [List.perm_iff_count]; intro x; simp only [List.count_append, List.count_cons, List.count_nil, capT]; omega)
  refine La A rfl (A.g 17 rfl) fun _ A => ?_
  replace A := A.only [11, 10, 9, 8, 7, 3, 2, 1, 0] rfl
  refine hK3 _ _ ?_
  refine wp_seq_k fun K4 hK4 => ?_
  refine region_seq ?_  -- region 3
  refine Lo A rfl (y_load (by kernel_rfl) (A.g 10 rfl) ((cell_of (S.get 1 rfl) _).trans rfl) fun _ A => ?_)
  refine Lm A rfl (A.g 11 rfl) fun _ A => La A rfl (A.g 18 rfl) fun _ A => La A rfl (A.g 19 rfl) fun _ A => ?_
  replace A := A.only [11, 10, 9, 8, 7, 3, 2, 1, 0] rfl
  refine hK4 _ _ ?_
  have S' : St _ _ _ (Hn ++ it.H) := (St.app_right (H := [(b1, .cells #[.int .i64 j] 3 (0, 0)), (b2, .cells #[it.v] 31 (0, 0))]) S).perm List.perm_append_comm
  exact wp_ret ⟨A.defers, _, res_run (rs := [.tmp 8, .tmp 9]) (vs := [it.v, .int .i64 0]) rfl ⟨A.get rfl, A.get rfl, trivial⟩, ⟨_, _, rfl, ⟨it.v, it.H, Hn, rfl, hB, rfl, by rw [show (m.q (a, b)).eraseIdx j = [] from List.eq_nil_of_length_eq_zero (by rw [List.length_eraseIdx, if_pos hjl, hl])]; exact hN⟩, S'⟩⟩

theorem take_yes {c : Bool} {j : Nat} {bs : List UInt8} {sp : Bool} (h : NetRep p m H) (nd : (keys H).Nodup) (hH : Holds w H) (hk : goodK (ends a b)) (hk' : goodK (a, b)) (hn : m.link (ends a b) = some c) (hj : (m.q (a, b))[j]? = some (bs, sp)) :
    Calls Try.prog 12 #[.pointer (some ⟨p, 0, none⟩), .int .i64 a, .int .i64 b, .int .i64 j] w (RetW (keys H) w fun r H' => ∃ vb Hb Hn, r = .tuple #[vb, .int .i64 0] ∧ BRep vb bs Hb ∧ H' = Hn ++ Hb ∧ NetRep p (m.setq (a, b) ((m.q (a, b)).eraseIdx j)) Hn) := by
  by_cases hl : (m.q (a, b)).length = 1
  · exact take_yes2 h nd hH hk hk' hn hj hl
  · exact take_yes1 h nd hH hk hk' hn hj hl
end
end Go.Proofs.Ytaeidblipdjgnaa
