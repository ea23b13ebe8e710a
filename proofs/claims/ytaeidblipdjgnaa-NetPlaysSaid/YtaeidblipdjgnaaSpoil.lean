import Derived.Test.YtaeidblipdjgnaaSpoil1
namespace Go.Proofs.Ytaeidblipdjgnaa
open Go.RowKit Go.Maps Go.WideMaps

section
variable {p : Nat} {m : M} {H : Frag} {w : World} {a b i bit : Int}

set_option maxRecDepth 20000 in
set_option maxHeartbeats 1000000 in
theorem spoil_arg (h : NetRep p m H) (hH : Holds w H) (hk : goodK (ends a b)) (hn : m.link (ends a b) = none) : Calls Try.prog 33 #[.pointer (some ⟨p, 0, none⟩), .int .i64 a, .int .i64 b, .int .i64 i, .int .i64 bit] w (RetN w (eqv (.int .i64 1))) := by
  refine enter Try.func33 rfl (n := 17) rfl (Nat.le_of_ble_eq_true rfl) fun _ A => ?_
  have S : St _ _ _ [] := St.none w
  refine wp_seq_k fun K1 hK1 => ?_
  refine region_seq ?_  -- region 0
  refine Lo A rfl (y_boxN (A.g 3 rfl) fun b1 w gG nN ac A => ?_)
  replace S : St _ _ _ [(b1, .cells #[.int .i64 i] 3 (0, 0))] := S.new gG nN
  refine Lo A rfl (y_boxN (A.g 4 rfl) fun b2 w gG nN ac A => ?_)
  replace S : St _ _ _ [(b2, .cells #[.int .i64 bit] 3 (0, 0)), (b1, .cells #[.int .i64 i] 3 (0, 0))] := S.new gG nN
  refine La A rfl (evc _ _) fun _ A => ?_
  replace A := A.only [10, 9, 8, 4, 3, 2, 1, 0] rfl
  refine hK1 _ _ ?_
  refine wp_seq_k fun K2 hK2 => ?_
  refine region_seq ?_  -- region 1
  refine Lm A rfl (A.g 0 rfl) fun _ A => Lm A rfl (A.g 1 rfl) fun _ A => Lm A rfl (A.g 2 rfl) fun _ A => Lo A rfl (y_load (by kernel_rfl) (A.g 8 rfl) ((cell_of (S.get 1 rfl) _).trans rfl) fun _ A => ?_)
  replace A := A.only [14, 13, 12, 11, 10, 9, 8, 4, 3, 2, 1, 0] rfl
  refine Lo A rfl (y_makeFunc2 (A.g 8 rfl) (A.g 9 rfl) fun _ A => ?_)
  refine Lo A rfl (y_call5 (by kernel_rfl) rfl (A.g 11 rfl) (A.g 12 rfl) (A.g 13 rfl) (A.g 14 rfl) (A.g 15 rfl) (callN (at_arg h (hH.gr S.kp.to_gr) hk hn) fun v w H gG nN hf ac A => ?_))
  obtain ⟨rfl, rfl⟩ := hf
  replace S : St _ _ _ [(b2, .cells #[.int .i64 bit] 3 (0, 0)), (b1, .cells #[.int .i64 i] 3 (0, 0))] := S.new gG nN
  refine La A rfl (A.g 16 rfl) fun _ A => ?_
  replace A := A.only [10, 9, 8, 4, 3, 2, 1, 0] rfl
  refine hK2 _ _ ?_
  exact wp_ret ⟨A.defers, _, res_run (rs := [.tmp 10]) (vs := [.int .i64 1]) rfl ⟨A.get rfl, trivial⟩, ⟨_, rfl, S.kp.to_gr, [], ⟨rfl, rfl⟩, NewF.nil _ _⟩⟩

set_option maxRecDepth 20000 in
set_option maxHeartbeats 1000000 in
theorem spoil_neg (h : NetRep p m H) (hH : Holds w H) (hk : goodK (ends a b)) (hk' : goodK (a, b)) {c : Bool} (hn : m.link (ends a b) = some c) (hi : i < 0) : Calls Try.prog 33 #[.pointer (some ⟨p, 0, none⟩), .int .i64 a, .int .i64 b, .int .i64 i, .int .i64 bit] w (RetN w (eqv (.int .i64 5))) := by
  refine enter Try.func33 rfl (n := 17) rfl (Nat.le_of_ble_eq_true rfl) fun _ A => ?_
  have S : St _ _ _ [] := St.none w
  refine wp_seq_k fun K1 hK1 => ?_
  refine region_seq ?_  -- region 0
  refine Lo A rfl (y_boxN (A.g 3 rfl) fun b1 w gG nN ac A => ?_)
  replace S : St _ _ _ [(b1, .cells #[.int .i64 i] 3 (0, 0))] := S.new gG nN
  refine Lo A rfl (y_boxN (A.g 4 rfl) fun b2 w gG nN ac A => ?_)
  replace S : St _ _ _ [(b2, .cells #[.int .i64 bit] 3 (0, 0)), (b1, .cells #[.int .i64 i] 3 (0, 0))] := S.new gG nN
  refine La A rfl (evc _ _) fun _ A => ?_
  replace A := A.only [10, 9, 8, 4, 3, 2, 1, 0] rfl
  refine hK1 _ _ ?_
  refine wp_seq_k fun K2 hK2 => ?_
  refine region_seq ?_  -- region 1
  refine Lm A rfl (A.g 0 rfl) fun _ A => Lm A rfl (A.g 1 rfl) fun _ A => Lm A rfl (A.g 2 rfl) fun _ A => Lo A rfl (y_load (by kernel_rfl) (A.g 8 rfl) ((cell_of (S.get 1 rfl) _).trans rfl) fun _ A => ?_)
  replace A := A.only [14, 13, 12, 11, 10, 9, 8, 4, 3, 2, 1, 0] rfl
  refine Lo A rfl (y_makeFunc2 (A.g 8 rfl) (A.g 9 rfl) fun _ A => ?_)
  refine Lo A rfl (y_call5 (by kernel_rfl) rfl (A.g 11 rfl) (A.g 12 rfl) (A.g 13 rfl) (A.g 14 rfl) (A.g 15 rfl) (callN (at_neg h (hH.gr S.kp.to_gr) hk hk' hn hi) fun v w H gG nN hf ac A => ?_))
  obtain ⟨rfl, rfl⟩ := hf
  replace S : St _ _ _ [(b2, .cells #[.int .i64 bit] 3 (0, 0)), (b1, .cells #[.int .i64 i] 3 (0, 0))] := S.new gG nN
  refine La A rfl (A.g 16 rfl) fun _ A => ?_
  replace A := A.only [10, 9, 8, 4, 3, 2, 1, 0] rfl
  refine hK2 _ _ ?_
  exact wp_ret ⟨A.defers, _, res_run (rs := [.tmp 10]) (vs := [.int .i64 5]) rfl ⟨A.get rfl, trivial⟩, ⟨_, rfl, S.kp.to_gr, [], ⟨rfl, rfl⟩, NewF.nil _ _⟩⟩

set_option maxRecDepth 20000 in
set_option maxHeartbeats 1000000 in
theorem spoil_far (h : NetRep p m H) (hH : Holds w H) (hk : goodK (ends a b)) (hk' : goodK (a, b)) {c : Bool} (hn : m.link (ends a b) = some c) (hi : 0 ≤ i) (hi2 : (m.q (a, b)).length ≤ i) : Calls Try.prog 33 #[.pointer (some ⟨p, 0, none⟩), .int .i64 a, .int .i64 b, .int .i64 i, .int .i64 bit] w (RetN w (eqv (.int .i64 5))) := by
  refine enter Try.func33 rfl (n := 17) rfl (Nat.le_of_ble_eq_true rfl) fun _ A => ?_
  have S : St _ _ _ [] := St.none w
  refine wp_seq_k fun K1 hK1 => ?_
  refine region_seq ?_  -- region 0
  refine Lo A rfl (y_boxN (A.g 3 rfl) fun b1 w gG nN ac A => ?_)
  replace S : St _ _ _ [(b1, .cells #[.int .i64 i] 3 (0, 0))] := S.new gG nN
  refine Lo A rfl (y_boxN (A.g 4 rfl) fun b2 w gG nN ac A => ?_)
  replace S : St _ _ _ [(b2, .cells #[.int .i64 bit] 3 (0, 0)), (b1, .cells #[.int .i64 i] 3 (0, 0))] := S.new gG nN
  refine La A rfl (evc _ _) fun _ A => ?_
  replace A := A.only [10, 9, 8, 4, 3, 2, 1, 0] rfl
  refine hK1 _ _ ?_
  refine wp_seq_k fun K2 hK2 => ?_
  refine region_seq ?_  -- region 1
  refine Lm A rfl (A.g 0 rfl) fun _ A => Lm A rfl (A.g 1 rfl) fun _ A => Lm A rfl (A.g 2 rfl) fun _ A => Lo A rfl (y_load (by kernel_rfl) (A.g 8 rfl) ((cell_of (S.get 1 rfl) _).trans rfl) fun _ A => ?_)
  replace A := A.only [14, 13, 12, 11, 10, 9, 8, 4, 3, 2, 1, 0] rfl
  refine Lo A rfl (y_makeFunc2 (A.g 8 rfl) (A.g 9 rfl) fun _ A => ?_)
  refine Lo A rfl (y_call5 (by kernel_rfl) rfl (A.g 11 rfl) (A.g 12 rfl) (A.g 13 rfl) (A.g 14 rfl) (A.g 15 rfl) (callN (at_far h (hH.gr S.kp.to_gr) hk hk' hn hi hi2) fun v w H gG nN hf ac A => ?_))
  obtain ⟨rfl, rfl⟩ := hf
  replace S : St _ _ _ [(b2, .cells #[.int .i64 bit] 3 (0, 0)), (b1, .cells #[.int .i64 i] 3 (0, 0))] := S.new gG nN
  refine La A rfl (A.g 16 rfl) fun _ A => ?_
  replace A := A.only [10, 9, 8, 4, 3, 2, 1, 0] rfl
  refine hK2 _ _ ?_
  exact wp_ret ⟨A.defers, _, res_run (rs := [.tmp 10]) (vs := [.int .i64 5]) rfl ⟨A.get rfl, trivial⟩, ⟨_, rfl, S.kp.to_gr, [], ⟨rfl, rfl⟩, NewF.nil _ _⟩⟩

/-- the block and the cells of a queue's place -/
theorem place {w : World} {qa : Option Addr} {qc : Nat} {its : List It} {HQ R : Frag} {j : Nat} {it : It} (hsl : SlRep 85 2 (.slice qa its.length qc) its.length (itCells its) HQ) (hok : ItOk its) (hj : its[j]? = some it) (hH : Holds w (HQ ++ R)) :
    ∃ b cs ba bc, qa = some ⟨b, 0, none⟩ ∧ w.heap[b]? = some (.cells cs 85 (0, 0)) ∧ cs[j * 2]? = some (.slice ba it.bs.length bc) ∧ cs[j * 2 + 1]? = some (.bool it.sp) := by
  have hjl : j < its.length := lt_of_get hj
  obtain ⟨b, cap, cs, hq, rfl, hcs, hncap, htake⟩ := hsl.block (by omega)
  simp only [Value.slice.injEq] at hq
  obtain ⟨rfl, -, rfl⟩ := hq
  have hit := hok it (List.mem_of_getElem? hj)
  obtain ⟨ba, bc, hbv⟩ := SlRep.len hit.1
  refine ⟨b, cs, ba, bc, rfl, Holds.one hH, ?_, ?_⟩
  · rw [SlRep.cell htake (by omega), itCells_get, show j * 2 / 2 = j by omega, hj]; simp [hbv]
  · rw [SlRep.cell htake (by omega), itCells_get, show (j * 2 + 1) / 2 = j by omega, hj]; simp
theorem cap2_i {w : World} {X Y : Frag} {bi bt j : Nat} {bit : Int} (hH : Holds w (X ++ (Y ++ cap2 bi bt j bit))) : w.heap[bi]? = some (.cells #[.int .i64 j] 3 (0, 0)) ∧ w.heap[bt]? = some (.cells #[.int .i64 bit] 3 (0, 0)) := ⟨hH (bi, .cells #[.int .i64 j] 3 (0, 0)) (by simp [cap2]), hH (bt, .cells #[.int .i64 bit] 3 (0, 0)) (by simp [cap2])⟩
theorem spoil_dneg {bi bt j : Nat} {bs : List UInt8} {sp : Bool} (hj : (m.q (a, b))[j]? = some (bs, sp)) (hb : bit < 0) : Does m (a, b) 57 #[.pointer (some ⟨bi, 0, none⟩), .pointer (some ⟨bt, 0, none⟩)] (cap2 bi bt j bit) fun its HQ r Hr => ∃ u, r = .tuple #[u, .int .i64 1] ∧ Hr = HQ ++ (itH its ++ cap2 bi bt j bit) := by
  intro w1 qa qc its HQ hsl hits hok nd hH
  obtain ⟨it, h1, h2, h3⟩ := it_of hits hj
  obtain ⟨b, cs, ba, bc, rfl, hb1, hb2, hb3⟩ := place hsl hok h1 hH
  exact retW_of_N (spoil1_neg (n := 0) (lt_of_get h1) hb1 (cap2_i hH).1 (cap2_i hH).2 hb) nd hH ⟨_, rfl, rfl⟩
theorem spoil_dfar {bi bt j n : Nat} {bs : List UInt8} {sp : Bool} (hj : (m.q (a, b))[j]? = some (bs, sp)) (hn : n ≤ 9223372036854775807) (hb : bs.length ≤ n / 8) : Does m (a, b) 57 #[.pointer (some ⟨bi, 0, none⟩), .pointer (some ⟨bt, 0, none⟩)] (cap2 bi bt j n) fun its HQ r Hr => ∃ u, r = .tuple #[u, .int .i64 1] ∧ Hr = HQ ++ (itH its ++ cap2 bi bt j n) := by
  intro w1 qa qc its HQ hsl hits hok nd hH
  obtain ⟨it, h1, h2, h3⟩ := it_of hits hj
  obtain ⟨b, cs, ba, bc, rfl, hb1, hb2, hb3⟩ := place hsl hok h1 hH
  exact retW_of_N (spoil1_far (it := it) (lt_of_get h1) hb1 (cap2_i hH).1 (cap2_i hH).2 hn hb2 (by rw [h2]; exact hb)) nd hH ⟨_, rfl, rfl⟩
theorem spoil_dwas {bi bt j n : Nat} {bs : List UInt8} (hj : (m.q (a, b))[j]? = some (bs, true)) (hn : n ≤ 9223372036854775807) (hb : n / 8 < bs.length) : Does m (a, b) 57 #[.pointer (some ⟨bi, 0, none⟩), .pointer (some ⟨bt, 0, none⟩)] (cap2 bi bt j n) fun its HQ r Hr => ∃ u, r = .tuple #[u, .int .i64 6] ∧ Hr = HQ ++ (itH its ++ cap2 bi bt j n) := by
  intro w1 qa qc its HQ hsl hits hok nd hH
  obtain ⟨it, h1, h2, h3⟩ := it_of hits hj
  obtain ⟨b, cs, ba, bc, rfl, hb1, hb2, hb3⟩ := place hsl hok h1 hH
  rw [h3] at hb3
  exact retW_of_N (spoil1_was (it := it) (lt_of_get h1) hb1 (cap2_i hH).1 (cap2_i hH).2 hn hb2 hb3 (by rw [h2]; exact hb)) nd hH ⟨_, rfl, rfl⟩
theorem spoil_put {bi bt j n : Nat} {bs : List UInt8} (hj : (m.q (a, b))[j]? = some (bs, false)) (hn : n ≤ 9223372036854775807) (hb : n / 8 < bs.length) (hl : (m.q (a, b)).length ≤ 24) : Does m (a, b) 57 #[.pointer (some ⟨bi, 0, none⟩), .pointer (some ⟨bt, 0, none⟩)] (cap2 bi bt j n) fun its HQ r Hr => ∃ v' its' HQ' Hc', r = .tuple #[v', .int .i64 0] ∧ its' ≠ [] ∧ its'.length ≤ 24 ∧ SlRep 85 2 v' its'.length (itCells its') HQ' ∧ ItOk its' ∧ Hr = HQ' ++ (itH its' ++ Hc') ∧ (itQ its' = (itQ its).set j (turn bs n, true) ∧ Hc' = cap2 bi bt j n) := by
  intro w1 qa qc its HQ hsl hits hok nd hH
  obtain ⟨it, h1, h2, h3⟩ := it_of hits hj
  have hjl := lt_of_get h1
  have hlen : its.length = (m.q (a, b)).length := by rw [← hits, itQ_length]
  refine (spoil1_ok hn hsl hok h1 h3 (by rw [h2]; exact hb) nd hH).mono ?_
  rintro e w' ⟨v, Hr, rfl, ⟨HQ', Hb, rfl, hsl', hB, rfl⟩, s⟩
  refine ⟨_, _, rfl, ⟨_, its.set j ⟨it.v, turn it.bs n, true, Hb⟩, HQ', _, rfl, ?_, by simp; omega, hsl', ?_, rfl, ?_, rfl⟩, s⟩
  · intro h; have := congrArg List.length h; simp at this; subst this; simp at hjl
  · intro x hx
    rcases List.mem_or_eq_of_mem_set hx with hx | rfl
    · exact hok x hx
    · exact ⟨hB, by show (turn it.bs n).length ≤ 512; rw [turn_length]; exact (hok it (List.mem_of_getElem? h1)).2⟩
  · unfold itQ; rw [List.map_set, h2]

set_option maxRecDepth 20000 in
set_option maxHeartbeats 4000000 in
theorem spoil_bneg {c : Bool} {j n : Nat} {bs : List UInt8} {sp : Bool} (h : NetRep p m H) (nd : (keys H).Nodup) (hH : Holds w H) (hk : goodK (ends a b)) (hk' : goodK (a, b)) (hn : m.link (ends a b) = some c) (hj : (m.q (a, b))[j]? = some (bs, sp)) (hb : bit < 0) :
    Calls Try.prog 33 #[.pointer (some ⟨p, 0, none⟩), .int .i64 a, .int .i64 b, .int .i64 j, .int .i64 bit] w (RetW (keys H) w fun r H' => r = .int .i64 1 ∧ NetRep p m H') := by
  have hjl := lt_of_get hj
  have S0 := St.start nd hH
  refine enter Try.func33 rfl (n := 17) rfl (Nat.le_of_ble_eq_true rfl) fun _ A => ?_
  have S : St _ _ _ H := S0
  refine wp_seq_k fun K1 hK1 => ?_
  refine region_seq ?_  -- region 0
  refine Lo A rfl (y_boxN (A.g 3 rfl) fun b1 w gG nN ac A => ?_)
  replace S : St _ _ _ ([(b1, .cells #[.int .i64 j] 3 (0, 0))] ++ H) := (S.new gG nN).perm (by first | exact .refl _ | (rw [List.append_assoc]; exact .refl _) | (simp only [List.append_assoc, List.nil_append, List.append_nil]; exact .refl _))
  refine Lo A rfl (y_boxN (A.g 4 rfl) fun b2 w gG nN ac A => ?_)
  replace S : St _ _ _ ([(b2, .cells #[.int .i64 bit] 3 (0, 0)), (b1, .cells #[.int .i64 j] 3 (0, 0))] ++ H) := (S.new gG nN).perm (by first | exact .refl _ | (rw [List.append_assoc]; exact .refl _) | (simp only [List.append_assoc, List.nil_append, List.append_nil]; exact .refl _))
  refine La A rfl (evc _ _) fun _ A => ?_
  replace A := A.only [10, 9, 8, 4, 3, 2, 1, 0] rfl
  refine hK1 _ _ ?_
  refine wp_seq_k fun K2 hK2 => ?_
  refine region_seq ?_  -- region 1
  refine Lm A rfl (A.g 0 rfl) fun _ A => Lm A rfl (A.g 1 rfl) fun _ A => Lm A rfl (A.g 2 rfl) fun _ A => Lo A rfl (y_load (by kernel_rfl) (A.g 8 rfl) ((cell_of (S.get 1 rfl) _).trans rfl) fun _ A => ?_)
  replace A := A.only [14, 13, 12, 11, 10, 9, 8, 4, 3, 2, 1, 0] rfl
  refine Lo A rfl (y_makeFunc2 (A.g 8 rfl) (A.g 9 rfl) fun _ A => ?_)
  replace S : St _ _ _ ((H ++ cap2 b1 b2 j bit) ++ []) := S.perm (by classical rw [List.perm_iff_count]; intro x; simp only [List.count_append, List.count_cons, List.count_nil, cap2]; omega)
  refine Lo A rfl (y_call5 (by kernel_rfl) rfl (A.g 11 rfl) (A.g 12 rfl) (A.g 13 rfl) (A.g 14 rfl) (A.g 15 rfl) (callW (at_fail (e := 1) h S.app_left.nd S.app_left.holds hk hk' hn (by omega) (by omega) (by kernel_rfl) (by decide) (spoil_dneg hj hb)) fun v w Hr s hf ac A => ?_))
  replace S := St.call (R := []) S rfl s
  obtain ⟨rfl, Hn, rfl, hN⟩ := hf
  refine La A rfl (A.g 16 rfl) fun _ A => ?_
  replace A := A.only [10, 9, 8, 4, 3, 2, 1, 0] rfl
  refine hK2 _ _ ?_
  have S' : St _ _ _ Hn := St.app_left (K := cap2 b1 b2 j bit) (S.perm (by classical rw [List.perm_iff_count]; intro x; simp only [List.count_append, List.count_cons, List.count_nil, cap2]; omega))
  exact wp_ret ⟨A.defers, _, res_run (rs := [.tmp 10]) (vs := [.int .i64 1]) rfl ⟨A.get rfl, trivial⟩, ⟨_, _, rfl, ⟨rfl, hN⟩, S'⟩⟩

set_option maxRecDepth 20000 in
set_option maxHeartbeats 4000000 in
theorem spoil_bfar {c : Bool} {j n : Nat} {bs : List UInt8} {sp : Bool} (h : NetRep p m H) (nd : (keys H).Nodup) (hH : Holds w H) (hk : goodK (ends a b)) (hk' : goodK (a, b)) (hn : m.link (ends a b) = some c) (hj : (m.q (a, b))[j]? = some (bs, sp)) (hm : n ≤ 9223372036854775807) (hb : bs.length ≤ n / 8) :
    Calls Try.prog 33 #[.pointer (some ⟨p, 0, none⟩), .int .i64 a, .int .i64 b, .int .i64 j, .int .i64 n] w (RetW (keys H) w fun r H' => r = .int .i64 1 ∧ NetRep p m H') := by
  have hjl := lt_of_get hj
  have S0 := St.start nd hH
  refine enter Try.func33 rfl (n := 17) rfl (Nat.le_of_ble_eq_true rfl) fun _ A => ?_
  have S : St _ _ _ H := S0
  refine wp_seq_k fun K1 hK1 => ?_
  refine region_seq ?_  -- region 0
  refine Lo A rfl (y_boxN (A.g 3 rfl) fun b1 w gG nN ac A => ?_)
  replace S : St _ _ _ ([(b1, .cells #[.int .i64 j] 3 (0, 0))] ++ H) := (S.new gG nN).perm (by first | exact .refl _ | (rw [List.append_assoc]; exact .refl _) | (simp only [List.append_assoc, List.nil_append, List.append_nil]; exact .refl _))
  refine Lo A rfl (y_boxN (A.g 4 rfl) fun b2 w gG nN ac A => ?_)
  replace S : St _ _ _ ([(b2, .cells #[.int .i64 n] 3 (0, 0)), (b1, .cells #[.int .i64 j] 3 (0, 0))] ++ H) := (S.new gG nN).perm (by first | exact .refl _ | (rw [List.append_assoc]; exact .refl _) | (simp only [List.append_assoc, List.nil_append, List.append_nil]; exact .refl _))
  refine La A rfl (evc _ _) fun _ A => ?_
  replace A := A.only [10, 9, 8, 4, 3, 2, 1, 0] rfl
  refine hK1 _ _ ?_
  refine wp_seq_k fun K2 hK2 => ?_
  refine region_seq ?_  -- region 1
  refine Lm A rfl (A.g 0 rfl) fun _ A => Lm A rfl (A.g 1 rfl) fun _ A => Lm A rfl (A.g 2 rfl) fun _ A => Lo A rfl (y_load (by kernel_rfl) (A.g 8 rfl) ((cell_of (S.get 1 rfl) _).trans rfl) fun _ A => ?_)
  replace A := A.only [14, 13, 12, 11, 10, 9, 8, 4, 3, 2, 1, 0] rfl
  refine Lo A rfl (y_makeFunc2 (A.g 8 rfl) (A.g 9 rfl) fun _ A => ?_)
  replace S : St _ _ _ ((H ++ cap2 b1 b2 j n) ++ []) := S.perm (by classical rw [List.perm_iff_count]; intro x; simp only [List.count_append, List.count_cons, List.count_nil, cap2]; omega)
  refine Lo A rfl (y_call5 (by kernel_rfl) rfl (A.g 11 rfl) (A.g 12 rfl) (A.g 13 rfl) (A.g 14 rfl) (A.g 15 rfl) (callW (at_fail (e := 1) h S.app_left.nd S.app_left.holds hk hk' hn (by omega) (by omega) (by kernel_rfl) (by decide) (spoil_dfar hj hm hb)) fun v w Hr s hf ac A => ?_))
  replace S := St.call (R := []) S rfl s
  obtain ⟨rfl, Hn, rfl, hN⟩ := hf
  refine La A rfl (A.g 16 rfl) fun _ A => ?_
  replace A := A.only [10, 9, 8, 4, 3, 2, 1, 0] rfl
  refine hK2 _ _ ?_
  have S' : St _ _ _ Hn := St.app_left (K := cap2 b1 b2 j n) (S.perm (by classical rw [List.perm_iff_count]; intro x; simp only [List.count_append, List.count_cons, List.count_nil, cap2]; omega))
  exact wp_ret ⟨A.defers, _, res_run (rs := [.tmp 10]) (vs := [.int .i64 1]) rfl ⟨A.get rfl, trivial⟩, ⟨_, _, rfl, ⟨rfl, hN⟩, S'⟩⟩

set_option maxRecDepth 20000 in
set_option maxHeartbeats 4000000 in
theorem spoil_was {c : Bool} {j n : Nat} {bs : List UInt8} {sp : Bool} (h : NetRep p m H) (nd : (keys H).Nodup) (hH : Holds w H) (hk : goodK (ends a b)) (hk' : goodK (a, b)) (hn : m.link (ends a b) = some c) (hj : (m.q (a, b))[j]? = some (bs, sp)) (hm : n ≤ 9223372036854775807) (hb : n / 8 < bs.length) (hsp : sp = true) :
    Calls Try.prog 33 #[.pointer (some ⟨p, 0, none⟩), .int .i64 a, .int .i64 b, .int .i64 j, .int .i64 n] w (RetW (keys H) w fun r H' => r = .int .i64 6 ∧ NetRep p m H') := by
  have hjl := lt_of_get hj
  have S0 := St.start nd hH
  refine enter Try.func33 rfl (n := 17) rfl (Nat.le_of_ble_eq_true rfl) fun _ A => ?_
  have S : St _ _ _ H := S0
  refine wp_seq_k fun K1 hK1 => ?_
  refine region_seq ?_  -- region 0
  refine Lo A rfl (y_boxN (A.g 3 rfl) fun b1 w gG nN ac A => ?_)
  replace S : St _ _ _ ([(b1, .cells #[.int .i64 j] 3 (0, 0))] ++ H) := (S.new gG nN).perm (by first | exact .refl _ | (rw [List.append_assoc]; exact .refl _) | (simp only [List.append_assoc, List.nil_append, List.append_nil]; exact .refl _))
  refine Lo A rfl (y_boxN (A.g 4 rfl) fun b2 w gG nN ac A => ?_)
  replace S : St _ _ _ ([(b2, .cells #[.int .i64 n] 3 (0, 0)), (b1, .cells #[.int .i64 j] 3 (0, 0))] ++ H) := (S.new gG nN).perm (by first | exact .refl _ | (rw [List.append_assoc]; exact .refl _) | (simp only [List.append_assoc, List.nil_append, List.append_nil]; exact .refl _))
  refine La A rfl (evc _ _) fun _ A => ?_
  replace A := A.only [10, 9, 8, 4, 3, 2, 1, 0] rfl
  refine hK1 _ _ ?_
  refine wp_seq_k fun K2 hK2 => ?_
  refine region_seq ?_  -- region 1
  refine Lm A rfl (A.g 0 rfl) fun _ A => Lm A rfl (A.g 1 rfl) fun _ A => Lm A rfl (A.g 2 rfl) fun _ A => Lo A rfl (y_load (by kernel_rfl) (A.g 8 rfl) ((cell_of (S.get 1 rfl) _).trans rfl) fun _ A => ?_)
  replace A := A.only [14, 13, 12, 11, 10, 9, 8, 4, 3, 2, 1, 0] rfl
  refine Lo A rfl (y_makeFunc2 (A.g 8 rfl) (A.g 9 rfl) fun _ A => ?_)
  replace S : St _ _ _ ((H ++ cap2 b1 b2 j n) ++ []) := S.perm (by classical rw [List.perm_iff_count]; intro x; simp only [List.count_append, List.count_cons, List.count_nil, cap2]; omega)
  refine Lo A rfl (y_call5 (by kernel_rfl) rfl (A.g 11 rfl) (A.g 12 rfl) (A.g 13 rfl) (A.g 14 rfl) (A.g 15 rfl) (callW (at_fail (e := 6) h S.app_left.nd S.app_left.holds hk hk' hn (by omega) (by omega) (by kernel_rfl) (by decide) (spoil_dwas (hsp ▸ hj) hm hb)) fun v w Hr s hf ac A => ?_))
  replace S := St.call (R := []) S rfl s
  obtain ⟨rfl, Hn, rfl, hN⟩ := hf
  refine La A rfl (A.g 16 rfl) fun _ A => ?_
  replace A := A.only [10, 9, 8, 4, 3, 2, 1, 0] rfl
  refine hK2 _ _ ?_
  have S' : St _ _ _ Hn := St.app_left (K := cap2 b1 b2 j n) (S.perm (by classical rw [List.perm_iff_count]; intro x; simp only [List.count_append, List.count_cons, List.count_nil, cap2]; omega))
  exact wp_ret ⟨A.defers, _, res_run (rs := [.tmp 10]) (vs := [.int .i64 6]) rfl ⟨A.get rfl, trivial⟩, ⟨_, _, rfl, ⟨rfl, hN⟩, S'⟩⟩

set_option maxRecDepth 20000 in
set_option maxHeartbeats 4000000 in
theorem spoil_yes {c : Bool} {j n : Nat} {bs : List UInt8} {sp : Bool} (h : NetRep p m H) (nd : (keys H).Nodup) (hH : Holds w H) (hk : goodK (ends a b)) (hk' : goodK (a, b)) (hn : m.link (ends a b) = some c) (hj : (m.q (a, b))[j]? = some (bs, sp)) (hm : n ≤ 9223372036854775807) (hb : n / 8 < bs.length) (hsp : sp = false) :
    Calls Try.prog 33 #[.pointer (some ⟨p, 0, none⟩), .int .i64 a, .int .i64 b, .int .i64 j, .int .i64 n] w (RetW (keys H) w fun r H' => r = .int .i64 0 ∧ NetRep p (m.setq (a, b) ((m.q (a, b)).set j (turn bs n, true))) H') := by
  have hjl := lt_of_get hj
  have S0 := St.start nd hH
  refine enter Try.func33 rfl (n := 17) rfl (Nat.le_of_ble_eq_true rfl) fun _ A => ?_
  have S : St _ _ _ H := S0
  refine wp_seq_k fun K1 hK1 => ?_
  refine region_seq ?_  -- region 0
  refine Lo A rfl (y_boxN (A.g 3 rfl) fun b1 w gG nN ac A => ?_)
  replace S : St _ _ _ ([(b1, .cells #[.int .i64 j] 3 (0, 0))] ++ H) := (S.new gG nN).perm (by first | exact .refl _ | (rw [List.append_assoc]; exact .refl _) | (simp only [List.append_assoc, List.nil_append, List.append_nil]; exact .refl _))
  refine Lo A rfl (y_boxN (A.g 4 rfl) fun b2 w gG nN ac A => ?_)
  replace S : St _ _ _ ([(b2, .cells #[.int .i64 n] 3 (0, 0)), (b1, .cells #[.int .i64 j] 3 (0, 0))] ++ H) := (S.new gG nN).perm (by first | exact .refl _ | (rw [List.append_assoc]; exact .refl _) | (simp only [List.append_assoc, List.nil_append, List.append_nil]; exact .refl _))
  refine La A rfl (evc _ _) fun _ A => ?_
  replace A := A.only [10, 9, 8, 4, 3, 2, 1, 0] rfl
  refine hK1 _ _ ?_
  refine wp_seq_k fun K2 hK2 => ?_
  refine region_seq ?_  -- region 1
  refine Lm A rfl (A.g 0 rfl) fun _ A => Lm A rfl (A.g 1 rfl) fun _ A => Lm A rfl (A.g 2 rfl) fun _ A => Lo A rfl (y_load (by kernel_rfl) (A.g 8 rfl) ((cell_of (S.get 1 rfl) _).trans rfl) fun _ A => ?_)
  replace A := A.only [14, 13, 12, 11, 10, 9, 8, 4, 3, 2, 1, 0] rfl
  refine Lo A rfl (y_makeFunc2 (A.g 8 rfl) (A.g 9 rfl) fun _ A => ?_)
  replace S : St _ _ _ ((H ++ cap2 b1 b2 j n) ++ []) := S.perm (by classical rw [List.perm_iff_count]; intro x; simp only [List.count_append, List.count_cons, List.count_nil, cap2]; omega)
  refine Lo A rfl (y_call5 (by kernel_rfl) rfl (A.g 11 rfl) (A.g 12 rfl) (A.g 13 rfl) (A.g 14 rfl) (A.g 15 rfl) (callW (at_put (X := fun its its' Hc' => itQ its' = (itQ its).set j (turn bs n, true) ∧ Hc' = cap2 b1 b2 j n) h S.app_left.nd S.app_left.holds hk hk' hn (by omega) (by omega) (by kernel_rfl) (spoil_put (hsp ▸ hj) hm hb (few_of h (a, b)))) fun v w Hr s hf ac A => ?_))
  replace S := St.call (R := []) S rfl s
  obtain ⟨rfl, Hn, its, its', _, rfl, hq, hN, hqq, rfl⟩ := hf
  refine La A rfl (A.g 16 rfl) fun _ A => ?_
  replace A := A.only [10, 9, 8, 4, 3, 2, 1, 0] rfl
  refine hK2 _ _ ?_
  have S' : St _ _ _ Hn := St.app_left (K := cap2 b1 b2 j n) (S.perm (by classical rw [List.perm_iff_count]; intro x; simp only [List.count_append, List.count_cons, List.count_nil, cap2]; omega))
  exact wp_ret ⟨A.defers, _, res_run (rs := [.tmp 10]) (vs := [.int .i64 0]) rfl ⟨A.get rfl, trivial⟩, ⟨_, _, rfl, ⟨rfl, by rw [← hq, ← hqq]; exact hN⟩, S'⟩⟩
end
end Go.Proofs.Ytaeidblipdjgnaa
