import Derived.Test.YtaeidblipdjgnaaShown
namespace Go.Proofs.Ytaeidblipdjgnaa
open Go.RowKit Go.Maps Go.WideMaps

def opn : List UInt8 := [111, 112, 101, 110]
def oneF (m : M) (k : Int × Int) : List (List UInt8) := rowF m k.1 k.2 ++ if m.open' k.1 k.2 then [opn] else []
def allF (m : M) : List (List UInt8) := (m.order.flatMap both).flatMap (oneF m)

set_option maxRecDepth 20000 in
set_option maxHeartbeats 16000000 in
theorem all_ok {p : Nat} {m : M} {H : Frag} {w0 : World} (h : NetRep p m H) (nd : (keys H).Nodup) (hH : Holds w0 H) (ho : ∀ l ∈ m.order, i64 l.1 ∧ i64 l.2) (hol : m.order.length ≤ 300) :
    Calls Try.prog 35 #[.pointer (some ⟨p, 0, none⟩)] w0 (RetW (keys H) w0 fun r H' => ∃ Hn Ho, NetRep p m Hn ∧ SlRep 9 1 r (allF m).length ((allF m).map strv) Ho ∧ (allF m).length ≤ 15000 ∧ H' = Hn ++ Ho) := by
  have S0 := St.start nd hH
  generalize hD : keys _ = DD at S0 ⊢
  have hN := h
  refine enter Try.func35 rfl (n := 66) rfl (Nat.le_of_ble_eq_true rfl) fun ac A => ?_
  have S : St _ _ _ H := S0
  refine wp_seq_k fun K1 hK1 => ?_
  refine region_seq ?_  -- region 0
  refine L_op A rfl (by decide) rfl (y_assign rfl fun ac A => ?_)
  replace A := A.keep [(0, .pointer (some ⟨p, 0, none⟩)), (2, .slice none 0 0)] ⟨rfl, rfl, trivial⟩
  refine hK1 _ _ ?_
  refine wp_seq_k fun K2 hK2 => ?_
  refine region_seq ?_  -- region 1
  refine L_op A rfl (by decide) rfl (y_assign rfl fun ac A => ?_)
  replace A := A.keep [(0, .pointer (some ⟨p, 0, none⟩)), (2, .slice none 0 0), (3, .slice none 0 0)] ⟨rfl, rfl, rfl, trivial⟩
  refine hK2 _ _ ?_
  refine wp_seq_k fun K3 hK3 => ?_
  refine region_seq ?_  -- region 2
  refine L_op A rfl (by decide) rfl (y_move (A.get (s := 0) rfl) fun ac A => ?_)
  refine L_op A rfl (by decide) rfl (y_call1 (by kernel_rfl) rfl (A.get (s := 12) rfl) (callN (links_ok hN S.holds) fun vl w Hl gG nN hf ac A => ?_))
  obtain ⟨la, lc, rfl⟩ := SlRep.len hf
  replace S : St _ _ _ (Hl ++ H) := (S.new gG nN).perm (by first | exact List.Perm.refl _ | (rw [List.append_assoc]; exact List.Perm.refl _) | (simp only [List.append_assoc, List.nil_append, List.append_nil]; exact List.Perm.refl _))
  have hL := hf
  refine L_op A rfl (by decide) rfl (y_assign (A.get (s := 13) rfl) fun ac A => ?_)
  replace A := A.keep [(0, .pointer (some ⟨p, 0, none⟩)), (2, .slice none 0 0), (3, .slice none 0 0), (4, .slice la m.order.length lc)] ⟨rfl, rfl, rfl, rfl, trivial⟩
  refine hK3 _ _ ?_
  refine wp_seq_k fun K4 hK4 => ?_
  refine wp_seq_k fun K5 hK5 => ?_
  refine region_seq ?_  -- region 3
  refine L_op A rfl (by decide) rfl (y_assign rfl fun ac A => ?_)
  replace A := A.keep [(0, .pointer (some ⟨p, 0, none⟩)), (2, .slice none 0 0), (3, .slice none 0 0), (4, .slice la m.order.length lc), (5, .int .i64 0)] ⟨rfl, rfl, rfl, rfl, rfl, trivial⟩
  refine hK5 _ _ ?_
  refine wp_block ?_
  replace A := A.keep [(0, .pointer (some ⟨p, 0, none⟩)), (3, .slice none 0 0), (4, .slice la m.order.length lc), (5, .int .i64 0)] ⟨rfl, rfl, rfl, rfl, trivial⟩
  refine wp_loop_ghost (fun kk ac w' => ∃ (i : Nat) (ll : List (List UInt8)) (oa : Option Addr) (oc : Nat) (Hn Ho : Frag), kk + i = m.order.length ∧ ll = ((m.order.take i).flatMap both).flatMap (oneF m) ∧ ll.length ≤ 50 * i ∧ Sl 66 ac [(0, .pointer (some ⟨p, 0, none⟩)), (3, .slice oa ll.length oc), (4, .slice la m.order.length lc), (5, .int .i64 ((i : Nat) : Int))] ∧ St DD w0 w' (Hn ++ (Hl ++ Ho)) ∧ NetRep p m Hn ∧ SlRep 9 1 (.slice oa ll.length oc) (ll).length ((ll).map strv) Ho) m.order.length ⟨0, [], none, 0, H, [], by simp, by simp, by simp, A, S.perm (by simp only [List.append_nil]; exact List.perm_append_comm), hN, SlRep.nil _ _ _⟩ ?_
  clear A S hN
  rintro kk ac w ⟨i, ll, oa, oc, Hn, Ho, hkk, hll, hlb, A, S, hN, hR⟩
  rcases Nat.lt_or_ge i m.order.length with hi | hi
  · obtain ⟨l, hli⟩ : ∃ l, m.order[i]? = some l := ⟨_, List.getElem?_eq_getElem hi⟩
    have hgl := ho l (List.mem_of_getElem? hli)
    have hnext : ((m.order.take (i + 1)).flatMap both).flatMap (oneF m) = ll ++ (both l).flatMap (oneF m) := by rw [List.take_add_one, hli, hll]; simp [List.flatMap_append]
    refine wp_seq_k fun K6 hK6 => ?_
    refine wp_seq_k fun K7 hK7 => ?_
    refine region_seq ?_  -- region 4
    refine L_op A rfl (by decide) rfl (y_move (A.get (s := 5) rfl) fun ac A => ?_)
    refine L_op A rfl (by decide) rfl (y_move (A.get (s := 4) rfl) fun ac A => ?_)
    refine L_op A rfl (by decide) rfl (y_lenS (e := 28) (by kernel_rfl) (A.get (s := 15) rfl) fun ac A => ?_)
    refine L_op A rfl (by decide) rfl (y_lss (A.get (s := 14) rfl) (A.get (s := 16) rfl) (c := true) (decide_eq_true (by omega)) fun ac A => ?_)
    replace A := A.keep [(0, .pointer (some ⟨p, 0, none⟩)), (3, .slice oa ll.length oc), (4, .slice la m.order.length lc), (5, .int .i64 (((i : Nat) : Int))), (17, .bool true)] ⟨rfl, rfl, rfl, rfl, rfl, trivial⟩
    refine hK7 _ _ ?_
    refine wp_cond_true (A.get rfl) ?_
    refine wp_skip ?_
    refine hK6 _ _ ?_
    refine wp_seq_k fun K8 hK8 => ?_
    refine wp_block ?_
    refine wp_seq_k fun K9 hK9 => ?_
    refine region_seq ?_  -- region 6
    refine L_op A rfl (by decide) rfl (y_assign rfl fun ac A => ?_)
    replace A := A.keep [(0, .pointer (some ⟨p, 0, none⟩)), (3, .slice oa ll.length oc), (4, .slice la m.order.length lc), (5, .int .i64 (((i : Nat) : Int))), (6, .int .i64 0), (17, .bool true)] ⟨rfl, rfl, rfl, rfl, rfl, rfl, trivial⟩
    refine hK9 _ _ ?_
    refine wp_block ?_
    replace A := A.keep [(0, .pointer (some ⟨p, 0, none⟩)), (3, .slice oa ll.length oc), (4, .slice la m.order.length lc), (5, .int .i64 (((i : Nat) : Int))), (6, .int .i64 0)] ⟨rfl, rfl, rfl, rfl, rfl, trivial⟩
    replace S : St _ _ _ (Hn ++ (Hl ++ Ho)) := S.perm (by classical rw [List.perm_iff_count]; intro x; simp only [List.count_append] <;> omega)
    refine wp_loop_ghost (fun k2 ac w' => ∃ (k : Nat) (l2 : List (List UInt8)) (oa : Option Addr) (oc : Nat) (Hn Ho : Frag), k2 + k = 2 ∧ l2 = ll ++ ((both l).take k).flatMap (oneF m) ∧ l2.length ≤ 50 * i + 25 * k ∧ Sl 66 ac [(0, .pointer (some ⟨p, 0, none⟩)), (3, .slice oa l2.length oc), (4, .slice la m.order.length lc), (5, .int .i64 ((i : Nat) : Int)), (6, .int .i64 ((k : Nat) : Int))] ∧ St DD w0 w' (Hn ++ (Hl ++ Ho)) ∧ NetRep p m Hn ∧ SlRep 9 1 (.slice oa l2.length oc) (l2).length ((l2).map strv) Ho) 2 ⟨0, ll, oa, oc, Hn, Ho, by simp, by simp, by omega, A, S, hN, hR⟩ ?_
    clear A S hN hR
    rintro k2 ac w ⟨k, l2, oa, oc, Hn, Ho, hk2, hl2, hlb2, A, S, hN, hR⟩
    rcases Nat.lt_or_ge k 2 with hk | hk
    · obtain ⟨⟨ka, kb⟩, hkj⟩ : ∃ q, (both l)[k]? = some q := ⟨_, List.getElem?_eq_getElem (by simpa [both] using hk)⟩
      have hkab : (k = 0 ∧ ka = l.1 ∧ kb = l.2) ∨ (k = 1 ∧ ka = l.2 ∧ kb = l.1) := by
        obtain rfl | rfl : k = 0 ∨ k = 1 := by omega
        all_goals simp [both] at hkj; simp [hkj]
      have ia : i64 ka := by rcases hkab with ⟨_, rfl, _⟩ | ⟨_, rfl, _⟩; exact hgl.1; exact hgl.2
      have ib : i64 kb := by rcases hkab with ⟨_, _, rfl⟩ | ⟨_, _, rfl⟩; exact hgl.2; exact hgl.1
      have hq24 := few_of hN (ka, kb)
      have hnx : ll ++ ((both l).take (k + 1)).flatMap (oneF m) = l2 ++ oneF m (ka, kb) := by rw [List.take_add_one, hkj, hl2]; simp
      refine wp_seq_k fun K10 hK10 => ?_
      refine wp_seq_k fun K11 hK11 => ?_
      refine region_seq ?_  -- region 7
      refine L_op A rfl (by decide) rfl (y_move (A.get (s := 6) rfl) fun ac A => ?_)
      refine L_op A rfl (by decide) rfl (y_lss (A.get (s := 20) rfl) rfl (c := true) (decide_eq_true (by omega)) fun ac A => ?_)
      replace A := A.keep [(0, .pointer (some ⟨p, 0, none⟩)), (3, .slice oa l2.length oc), (4, .slice la m.order.length lc), (5, .int .i64 (((i : Nat) : Int))), (6, .int .i64 (((k : Nat) : Int))), (21, .bool true)] ⟨rfl, rfl, rfl, rfl, rfl, rfl, trivial⟩
      refine hK11 _ _ ?_
      refine wp_cond_true (A.get rfl) ?_
      refine wp_skip ?_
      refine hK10 _ _ ?_
      refine wp_seq_k fun K12 hK12 => ?_
      refine wp_block ?_
      refine wp_seq_k fun K13 hK13 => ?_
      obtain ⟨va, vc, hva, hrow⟩ := pairs_row (hL.src (St.app_left (H := Hl) (K := (Hn ++ Ho)) (S.perm (by classical rw [List.perm_iff_count]; intro x; simp only [List.count_append] <;> omega))).holds) hli
      simp only [Value.slice.injEq] at hva; obtain ⟨hla, -, -⟩ := hva
      have hca : w.cell? ((va.add (((i : Nat) : Int).toNat * 2)).add (((k : Nat) : Int).toNat * 1)) = some (.int .i64 ka) := by rcases hkab with ⟨rfl, rfl, _⟩ | ⟨rfl, rfl, _⟩; exact hrow 0 (Nat.zero_lt_succ _); exact hrow 1 (Nat.lt_succ_self _)
      have hcb : w.cell? ((va.add (((i : Nat) : Int).toNat * 2)).add (((1 - k : Nat) : Int).toNat * 1)) = some (.int .i64 kb) := by rcases hkab with ⟨rfl, _, rfl⟩ | ⟨rfl, _, rfl⟩; exact hrow 1 (Nat.lt_succ_self _); exact hrow 0 (Nat.zero_lt_succ _)
      refine region_draw A [⟨24, pl (eqv (.slice la m.order.length lc)), [], [4], none, false⟩, ⟨25, pl (eqv (.int .i64 (((i : Nat) : Int)))), [], [5], none, false⟩, ⟨26, pl (eqv (.int .i64 (((k : Nat) : Int)))), [], [6], none, false⟩, ⟨27, pl (eqv (.pointer (some (va.add (((i : Nat) : Int).toNat * 2))))), [0, 1], [], none, false⟩, ⟨28, pl (eqv (.pointer (some ((va.add (((i : Nat) : Int).toNat * 2)).add (((k : Nat) : Int).toNat * 1))))), [3, 2], [], none, false⟩, ⟨29, pl (eqv (.int .i64 ka)), [4], [], none, false⟩, ⟨30, pl (eqv (.slice la m.order.length lc)), [], [4], none, false⟩, ⟨31, pl (eqv (.int .i64 (((i : Nat) : Int)))), [], [5], none, false⟩, ⟨32, pl (eqv (.int .i64 (((k : Nat) : Int)))), [], [6], none, false⟩, ⟨33, pl (eqv (.int .i64 (((1 - k : Nat) : Int)))), [8], [], none, false⟩, ⟨34, pl (eqv (.pointer (some (va.add (((i : Nat) : Int).toNat * 2))))), [6, 7], [], none, false⟩, ⟨35, pl (eqv (.pointer (some ((va.add (((i : Nat) : Int).toNat * 2)).add (((1 - k : Nat) : Int).toNat * 1))))), [10, 9], [], none, false⟩, ⟨36, pl (eqv (.int .i64 kb)), [11], [], none, false⟩, ⟨7, pl (eqv (.int .i64 ka)), [5], [], none, false⟩, ⟨8, pl (eqv (.int .i64 kb)), [12], [], none, false⟩] [] (by kernel_rfl) (by kernel_rfl) (fun d _ _ _ _ h => by cases d <;> exact h) ⟨?_, ?_, ?_, ?_, ?_, ?_, ?_, ?_, ?_, ?_, ?_, ?_, ?_, ?_, ?_, trivial⟩ ?_  -- region 9
      · refine due_plain fun ρ w1 G hsrc hold => ?_; obtain ⟨o4, -⟩ := hold; exact y_move (o4.trans (A.get (s := 4) rfl)) y_eq
      · refine due_plain fun ρ w1 G hsrc hold => ?_; obtain ⟨o5, -⟩ := hold; exact y_move (o5.trans (A.get (s := 5) rfl)) y_eq
      · refine due_plain fun ρ w1 G hsrc hold => ?_; obtain ⟨o6, -⟩ := hold; exact y_move (o6.trans (A.get (s := 6) rfl)) y_eq
      · refine due_plain fun ρ w1 G hsrc hold => ?_; obtain ⟨⟨_, _, ⟨h24, -⟩, -⟩, ⟨_, _, ⟨h25, -⟩, -⟩, -⟩ := hsrc; exact y_indexA (e := 28) (size := 2) (by kernel_rfl) (by kernel_rfl) (h24.trans (by rw [hla])) h25 (by omega) (by omega) y_eq
      · refine due_plain fun ρ w1 G hsrc hold => ?_; obtain ⟨⟨_, _, ⟨h27, -⟩, -⟩, ⟨_, _, ⟨h26, -⟩, -⟩, -⟩ := hsrc; exact y_indexPA (n := 2) (e := 3) (size := 1) (by kernel_rfl) (by kernel_rfl) h27 h26 (by omega) (by omega) y_eq
      · refine due_plain fun ρ w1 G hsrc hold => ?_; obtain ⟨⟨_, _, ⟨h28, -⟩, -⟩, -⟩ := hsrc; exact y_load (by kernel_rfl) h28 (G.gr.cell' hca) y_eq
      · refine due_plain fun ρ w1 G hsrc hold => ?_; obtain ⟨o4, -⟩ := hold; exact y_move (o4.trans (A.get (s := 4) rfl)) y_eq
      · refine due_plain fun ρ w1 G hsrc hold => ?_; obtain ⟨o5, -⟩ := hold; exact y_move (o5.trans (A.get (s := 5) rfl)) y_eq
      · refine due_plain fun ρ w1 G hsrc hold => ?_; obtain ⟨o6, -⟩ := hold; exact y_move (o6.trans (A.get (s := 6) rfl)) y_eq
      · refine due_plain fun ρ w1 G hsrc hold => ?_; obtain ⟨⟨_, _, ⟨h32, -⟩, -⟩, -⟩ := hsrc; exact y_sub (G.const _) h32 (c := ((1 - k : Nat) : Int)) ((wrap64 (by omega)).trans (by omega)) y_eq
      · refine due_plain fun ρ w1 G hsrc hold => ?_; obtain ⟨⟨_, _, ⟨h30, -⟩, -⟩, ⟨_, _, ⟨h31, -⟩, -⟩, -⟩ := hsrc; exact y_indexA (e := 28) (size := 2) (by kernel_rfl) (by kernel_rfl) (h30.trans (by rw [hla])) h31 (by omega) (by omega) y_eq
      · refine due_plain fun ρ w1 G hsrc hold => ?_; obtain ⟨⟨_, _, ⟨h34, -⟩, -⟩, ⟨_, _, ⟨h33, -⟩, -⟩, -⟩ := hsrc; exact y_indexPA (n := 2) (e := 3) (size := 1) (by kernel_rfl) (by kernel_rfl) h34 h33 (by omega) (by omega) y_eq
      · refine due_plain fun ρ w1 G hsrc hold => ?_; obtain ⟨⟨_, _, ⟨h35, -⟩, -⟩, -⟩ := hsrc; exact y_load (by kernel_rfl) h35 (G.gr.cell' hcb) y_eq
      · refine due_plain fun ρ w1 G hsrc hold => ?_; obtain ⟨⟨_, _, ⟨h29, -⟩, -⟩, -⟩ := hsrc; exact y_assign h29 y_eq
      · refine due_plain fun ρ w1 G hsrc hold => ?_; obtain ⟨⟨_, _, ⟨h36, -⟩, -⟩, -⟩ := hsrc; exact y_assign h36 y_eq
      rintro _ _ ⟨rfl, rfl⟩ _ _ ⟨rfl, rfl⟩ _ _ ⟨rfl, rfl⟩ _ _ ⟨rfl, rfl⟩ _ _ ⟨rfl, rfl⟩ _ _ ⟨rfl, rfl⟩ _ _ ⟨rfl, rfl⟩ _ _ ⟨rfl, rfl⟩ _ _ ⟨rfl, rfl⟩ _ _ ⟨rfl, rfl⟩ _ _ ⟨rfl, rfl⟩ _ _ ⟨rfl, rfl⟩ _ _ ⟨rfl, rfl⟩ _ _ ⟨rfl, rfl⟩ _ _ ⟨rfl, rfl⟩
      intro ac w A gG nN
      replace S : St _ _ _ (Hn ++ (Hl ++ Ho)) := (S.new gG nN).perm (by first | exact List.Perm.refl _ | (rw [List.append_assoc]; exact List.Perm.refl _) | (simp only [List.append_assoc, List.nil_append, List.append_nil]; exact List.Perm.refl _))
      replace A := A.keep [(0, .pointer (some ⟨p, 0, none⟩)), (3, .slice oa l2.length oc), (4, .slice la m.order.length lc), (5, .int .i64 (((i : Nat) : Int))), (6, .int .i64 (((k : Nat) : Int))), (7, .int .i64 ka), (8, .int .i64 kb), (21, .bool true)] ⟨rfl, rfl, rfl, rfl, rfl, rfl, rfl, rfl, trivial⟩
      refine hK13 _ _ ?_
      refine wp_seq_k fun K14 hK14 => ?_
      refine wp_seq_k fun K15 hK15 => ?_
      refine region_seq ?_  -- region 10
      refine L_op A rfl (by decide) rfl (y_assign rfl fun ac A => ?_)
      replace A := A.keep [(0, .pointer (some ⟨p, 0, none⟩)), (3, .slice oa l2.length oc), (4, .slice la m.order.length lc), (5, .int .i64 (((i : Nat) : Int))), (6, .int .i64 (((k : Nat) : Int))), (7, .int .i64 ka), (8, .int .i64 kb), (9, .int .i64 0), (21, .bool true)] ⟨rfl, rfl, rfl, rfl, rfl, rfl, rfl, rfl, rfl, trivial⟩
      refine hK15 _ _ ?_
      refine wp_block ?_
      replace A := A.keep [(0, .pointer (some ⟨p, 0, none⟩)), (3, .slice oa l2.length oc), (4, .slice la m.order.length lc), (5, .int .i64 (((i : Nat) : Int))), (6, .int .i64 (((k : Nat) : Int))), (7, .int .i64 ka), (8, .int .i64 kb), (9, .int .i64 (((0 : Nat) : Int)))] ⟨rfl, rfl, rfl, rfl, rfl, rfl, rfl, rfl, trivial⟩
      replace S : St _ _ _ (Hn ++ (Hl ++ Ho)) := S.perm (by classical rw [List.perm_iff_count]; intro x; simp only [List.count_append] <;> omega)
      refine wp_loop_ghost (fun k3 ac w' => ∃ (j : Nat) (ra : Option Addr) (rc : Nat) (Hn Ho : Frag), k3 + j = (m.q (ka, kb)).length ∧ Sl 66 ac [(0, .pointer (some ⟨p, 0, none⟩)), (3, .slice ra (l2.length + j) rc), (4, .slice la m.order.length lc), (5, .int .i64 ((i : Nat) : Int)), (6, .int .i64 ((k : Nat) : Int)), (7, .int .i64 ka), (8, .int .i64 kb), (9, .int .i64 ((j : Nat) : Int))] ∧ St DD w0 w' (Hn ++ (Hl ++ Ho)) ∧ NetRep p m Hn ∧ SlRep 9 1 (.slice ra (l2.length + j) rc) (l2.length + j) ((l2 ++ (rowF m ka kb).take j).map strv) Ho) (m.q (ka, kb)).length ⟨0, oa, oc, Hn, Ho, by simp, A, S, hN, by simpa using hR⟩ ?_
      clear A S hN hR
      rintro k3 ac w ⟨j, ra, rc, Hn, Ho, hk3, A, S, hN, hRow⟩
      have hrl : (rowF m ka kb).length = (m.q (ka, kb)).length := by simp [rowF]
      rcases Nat.lt_or_ge j (m.q (ka, kb)).length with hj | hj
      · obtain ⟨bs, e, hpk⟩ : ∃ bs e, m.peek ka kb ((j : Nat) : Int) = (bs, e) := ⟨_, _, rfl⟩
        have htk : (rowF m ka kb).take (j + 1) = (rowF m ka kb).take j ++ [bs] := by rw [List.take_add_one]; congr 1; simp [rowF, hj, hpk]
        refine wp_seq_k fun K16 hK16 => ?_
        refine wp_seq_k fun K17 hK17 => ?_
        refine region_seq ?_  -- region 11
        refine L_op A rfl (by decide) rfl (y_move (A.get (s := 9) rfl) fun ac A => ?_)
        refine L_op A rfl (by decide) rfl (y_move (A.get (s := 0) rfl) fun ac A => ?_)
        refine L_op A rfl (by decide) rfl (y_move (A.get (s := 7) rfl) fun ac A => ?_)
        refine L_op A rfl (by decide) rfl (y_move (A.get (s := 8) rfl) fun ac A => ?_)
        refine L_op A rfl (by decide) rfl (y_call3 (by kernel_rfl) rfl (A.get (s := 38) rfl) (A.get (s := 39) rfl) (A.get (s := 40) rfl) (callN (len_is rfl hN (St.app_left (H := Hn) (K := (Hl ++ Ho)) (S.perm (by classical rw [List.perm_iff_count]; intro x; simp only [List.count_append] <;> omega))).holds ia ib) fun v w H gG nN hf ac A => ?_))
        obtain ⟨rfl, rfl⟩ := hf
        replace S : St _ _ _ (Hn ++ (Hl ++ Ho)) := (S.new gG nN).perm (by first | exact List.Perm.refl _ | (rw [List.append_assoc]; exact List.Perm.refl _) | (simp only [List.append_assoc, List.nil_append, List.append_nil]; exact List.Perm.refl _))
        refine L_op A rfl (by decide) rfl (y_lss (A.get (s := 37) rfl) (A.get (s := 41) rfl) (c := true) (decide_eq_true (by omega)) fun ac A => ?_)
        replace A := A.keep [(0, .pointer (some ⟨p, 0, none⟩)), (3, .slice ra (l2.length + j) rc), (4, .slice la m.order.length lc), (5, .int .i64 (((i : Nat) : Int))), (6, .int .i64 (((k : Nat) : Int))), (7, .int .i64 ka), (8, .int .i64 kb), (9, .int .i64 (((j : Nat) : Int))), (42, .bool true)] ⟨rfl, rfl, rfl, rfl, rfl, rfl, rfl, rfl, rfl, trivial⟩
        refine hK17 _ _ ?_
        refine wp_cond_true (A.get rfl) ?_
        refine wp_skip ?_
        refine hK16 _ _ ?_
        refine wp_seq_k fun K18 hK18 => ?_
        refine wp_block ?_
        refine wp_seq_k fun K19 hK19 => ?_
        refine region_seq ?_  -- region 13
        refine L_op A rfl (by decide) rfl (y_move (A.get (s := 0) rfl) fun ac A => ?_)
        refine L_op A rfl (by decide) rfl (y_move (A.get (s := 7) rfl) fun ac A => ?_)
        refine L_op A rfl (by decide) rfl (y_move (A.get (s := 8) rfl) fun ac A => ?_)
        refine L_op A rfl (by decide) rfl (y_move (A.get (s := 9) rfl) fun ac A => ?_)
        replace A := A.keep [(0, .pointer (some ⟨p, 0, none⟩)), (3, .slice ra (l2.length + j) rc), (4, .slice la m.order.length lc), (5, .int .i64 (((i : Nat) : Int))), (6, .int .i64 (((k : Nat) : Int))), (7, .int .i64 ka), (8, .int .i64 kb), (9, .int .i64 (((j : Nat) : Int))), (42, .bool true), (46, .pointer (some ⟨p, 0, none⟩)), (47, .int .i64 ka), (48, .int .i64 kb), (49, .int .i64 (((j : Nat) : Int)))] ⟨rfl, rfl, rfl, rfl, rfl, rfl, rfl, rfl, rfl, rfl, rfl, rfl, rfl, trivial⟩
        replace S : St _ _ _ (Hn ++ (Hl ++ Ho)) := S.perm (by classical rw [List.perm_iff_count]; intro x; simp only [List.count_append] <;> omega)
        refine L_op A rfl (by decide) rfl (y_call4 (by kernel_rfl) rfl (A.get (s := 46) rfl) (A.get (s := 47) rfl) (A.get (s := 48) rfl) (A.get (s := 49) rfl) (callW (peek_is hN S.app_left.nd S.app_left.holds ia ib hpk) fun v w Hx s hf ac A => ?_))
        replace S : St _ _ _ (Hx ++ (Hl ++ Ho)) := St.call (H := Hn) (R := (Hl ++ Ho)) S rfl s
        obtain ⟨vb, Hb, Hn1, rfl, hB, rfl, hN⟩ := hf
        replace S : St _ _ _ ((Hn1 ++ Hb) ++ (Hl ++ Ho)) := S
        replace S : St _ _ _ (Hn1 ++ (Hb ++ (Hl ++ Ho))) := S.perm (by classical rw [List.perm_iff_count]; intro x; simp only [List.count_append] <;> omega)
        replace S : St _ _ _ (Hn1 ++ (Hb ++ (Hl ++ Ho))) := S.perm (by classical rw [List.perm_iff_count]; intro x; simp only [List.count_append] <;> omega)
        obtain ⟨ta, tc, rfl⟩ := SlRep.len hB
        refine L_op A rfl (by decide) rfl (y_move (A.get (s := 50) rfl) fun ac A => ?_)
        refine L_op A rfl (by decide) rfl (y_extract (A.get (s := 45) rfl) rfl fun ac A => ?_)
        refine L_op A rfl (by decide) rfl (y_extract (A.get (s := 45) rfl) rfl fun ac A => ?_)
        replace A := A.keep [(0, .pointer (some ⟨p, 0, none⟩)), (3, .slice ra (l2.length + j) rc), (4, .slice la m.order.length lc), (5, .int .i64 (((i : Nat) : Int))), (6, .int .i64 (((k : Nat) : Int))), (7, .int .i64 ka), (8, .int .i64 kb), (9, .int .i64 (((j : Nat) : Int))), (42, .bool true), (51, .slice ta bs.length tc), (52, .int .i64 e)] ⟨rfl, rfl, rfl, rfl, rfl, rfl, rfl, rfl, rfl, rfl, rfl, trivial⟩
        refine L_op A rfl (by decide) rfl (y_assign (A.get (s := 51) rfl) fun ac A => ?_)
        refine L_op A rfl (by decide) rfl (y_assign (A.get (s := 52) rfl) fun ac A => ?_)
        replace A := A.keep [(0, .pointer (some ⟨p, 0, none⟩)), (3, .slice ra (l2.length + j) rc), (4, .slice la m.order.length lc), (5, .int .i64 (((i : Nat) : Int))), (6, .int .i64 (((k : Nat) : Int))), (7, .int .i64 ka), (8, .int .i64 kb), (9, .int .i64 (((j : Nat) : Int))), (10, .slice ta bs.length tc), (42, .bool true)] ⟨rfl, rfl, rfl, rfl, rfl, rfl, rfl, rfl, rfl, rfl, trivial⟩
        refine hK19 _ _ ?_
        refine region_seq ?_  -- region 14
        refine L_op A rfl (by decide) rfl (y_move (A.get (s := 3) rfl) fun ac A => ?_)
        refine L_op A rfl (by decide) rfl (y_move (A.get (s := 10) rfl) fun ac A => ?_)
        refine L_op A rfl (by decide) rfl (y_bytesStr (e := 5) (l := bs) (by kernel_rfl) (by kernel_rfl) (by kernel_rfl) (A.get (s := 54) rfl) (hB.src (St.app_left (H := Hb) (K := (Hn1 ++ (Hl ++ Ho))) (S.perm (by classical rw [List.perm_iff_count]; intro x; simp only [List.count_append] <;> omega))).holds) fun ac A => ?_)
        refine L_op A rfl (by decide) rfl (y_buildSlice1 (c := #[.string ⟨bs.toArray⟩]) (e := 9) (A.get (s := 55) rfl) (fun w => by kernel_rfl) fun b1 w gG nN ac A => ?_)
        replace S : St _ _ _ ([(b1, .cells #[.string ⟨bs.toArray⟩] 9 (0, 0))] ++ (Hn1 ++ (Hb ++ (Hl ++ Ho)))) := (S.new gG nN).perm (by first | exact List.Perm.refl _ | (rw [List.append_assoc]; exact List.Perm.refl _) | (simp only [List.append_assoc, List.nil_append, List.append_nil]; exact List.Perm.refl _))
        have hsrc : Src w 1 (.slice (some ⟨b1, 0, none⟩) 1 1) 1 ([bs].map strv) := ⟨rfl, Or.inr ⟨_, _, rfl, cells_at (S.get 0 rfl) rfl⟩⟩
        replace S : St _ _ _ (Ho ++ ([(b1, .cells #[.string ⟨bs.toArray⟩] 9 (0, 0))] ++ (Hn1 ++ (Hb ++ Hl)))) := S.perm (by classical rw [List.perm_iff_count]; intro x; simp only [List.count_append, List.count_cons, List.count_nil] <;> omega)
        refine L_op A rfl (by decide) rfl (y_append okSS (by kernel_rfl) (A.get (s := 53) rfl) (A.get (s := 56) rfl) S hRow hsrc (str_one _) (by omega) (by omega) fun v' w Hr' hR2 S ac A => ?_)
        obtain ⟨ra2, rc2, rfl⟩ := hR2.len
        replace S : St _ _ _ ([(b1, .cells #[.string ⟨bs.toArray⟩] 9 (0, 0))] ++ (Hn1 ++ (Hb ++ (Hl ++ Hr')))) := S.perm (by classical rw [List.perm_iff_count]; intro x; simp only [List.count_append, List.count_cons, List.count_nil] <;> omega)
        refine L_op A rfl (by decide) rfl (y_assign (A.get (s := 57) rfl) fun ac A => ?_)
        replace A := A.keep [(0, .pointer (some ⟨p, 0, none⟩)), (3, .slice ra2 (l2.length + j + 1) rc2), (4, .slice la m.order.length lc), (5, .int .i64 (((i : Nat) : Int))), (6, .int .i64 (((k : Nat) : Int))), (7, .int .i64 ka), (8, .int .i64 kb), (9, .int .i64 (((j : Nat) : Int))), (10, .slice ta bs.length tc), (42, .bool true)] ⟨rfl, rfl, rfl, rfl, rfl, rfl, rfl, rfl, rfl, rfl, trivial⟩
        refine hK18 _ _ ?_
        refine region_seq ?_  -- region 12
        refine L_op A rfl (by decide) rfl (y_move (A.get (s := 9) rfl) fun ac A => ?_)
        refine L_op A rfl (by decide) rfl (y_add (A.get (s := 43) rfl) rfl (c := ((j + 1 : Nat) : Int)) ((wrap64 (by omega)).trans (by omega)) fun ac A => ?_)
        refine L_op A rfl (by decide) rfl (y_assign (A.get (s := 44) rfl) fun ac A => ?_)
        replace A := A.keep [(0, .pointer (some ⟨p, 0, none⟩)), (3, .slice ra2 (l2.length + j + 1) rc2), (4, .slice la m.order.length lc), (5, .int .i64 (((i : Nat) : Int))), (6, .int .i64 (((k : Nat) : Int))), (7, .int .i64 ka), (8, .int .i64 kb), (9, .int .i64 (((j + 1 : Nat) : Int))), (10, .slice ta bs.length tc), (42, .bool true)] ⟨rfl, rfl, rfl, rfl, rfl, rfl, rfl, rfl, rfl, rfl, trivial⟩
        replace A := A.keep [(0, .pointer (some ⟨p, 0, none⟩)), (3, .slice ra2 (l2.length + j + 1) rc2), (4, .slice la m.order.length lc), (5, .int .i64 (((i : Nat) : Int))), (6, .int .i64 (((k : Nat) : Int))), (7, .int .i64 ka), (8, .int .i64 kb), (9, .int .i64 (((j + 1 : Nat) : Int)))] ⟨rfl, rfl, rfl, rfl, rfl, rfl, rfl, rfl, trivial⟩
        replace S : St _ _ _ (Hn1 ++ (Hl ++ Hr')) := St.app_left (K := ([(b1, .cells #[.string ⟨bs.toArray⟩] 9 (0, 0))] ++ Hb)) (S.perm (by classical rw [List.perm_iff_count]; intro x; simp only [List.count_append, List.count_cons, List.count_nil] <;> omega))
        exact ⟨k3 - 1, by omega, j + 1, ra2, rc2, _, _, by omega, A, S, hN, by rw [htk]; simpa [Nat.add_assoc] using hR2⟩
      · obtain rfl : j = (rowF m ka kb).length := by omega
        rw [List.take_length] at hRow
        cases hop : m.open' ka kb with
        | true =>
          refine wp_seq_k fun K16 hK16 => ?_
          refine wp_seq_k fun K17 hK17 => ?_
          refine region_seq ?_  -- region 11
          refine L_op A rfl (by decide) rfl (y_move (A.get (s := 9) rfl) fun ac A => ?_)
          refine L_op A rfl (by decide) rfl (y_move (A.get (s := 0) rfl) fun ac A => ?_)
          refine L_op A rfl (by decide) rfl (y_move (A.get (s := 7) rfl) fun ac A => ?_)
          refine L_op A rfl (by decide) rfl (y_move (A.get (s := 8) rfl) fun ac A => ?_)
          refine L_op A rfl (by decide) rfl (y_call3 (by kernel_rfl) rfl (A.get (s := 38) rfl) (A.get (s := 39) rfl) (A.get (s := 40) rfl) (callN (len_is rfl hN (St.app_left (H := Hn) (K := (Hl ++ Ho)) (S.perm (by classical rw [List.perm_iff_count]; intro x; simp only [List.count_append] <;> omega))).holds ia ib) fun v w H gG nN hf ac A => ?_))
          obtain ⟨rfl, rfl⟩ := hf
          replace S : St _ _ _ (Hn ++ (Hl ++ Ho)) := (S.new gG nN).perm (by first | exact List.Perm.refl _ | (rw [List.append_assoc]; exact List.Perm.refl _) | (simp only [List.append_assoc, List.nil_append, List.append_nil]; exact List.Perm.refl _))
          refine L_op A rfl (by decide) rfl (y_lss (A.get (s := 37) rfl) (A.get (s := 41) rfl) (c := false) (decide_eq_false (by omega)) fun ac A => ?_)
          replace A := A.keep [(0, .pointer (some ⟨p, 0, none⟩)), (3, .slice ra (l2.length + (rowF m ka kb).length) rc), (4, .slice la m.order.length lc), (5, .int .i64 (((i : Nat) : Int))), (6, .int .i64 (((k : Nat) : Int))), (7, .int .i64 ka), (8, .int .i64 kb), (9, .int .i64 ((((rowF m ka kb).length : Nat) : Int))), (42, .bool false)] ⟨rfl, rfl, rfl, rfl, rfl, rfl, rfl, rfl, rfl, trivial⟩
          refine hK17 _ _ ?_
          refine wp_cond_false (A.get rfl) ?_
          refine wp_exit ?_
          refine hK14 _ _ ?_
          refine wp_seq_k fun K18 hK18 => ?_
          refine region_seq ?_  -- region 15
          refine L_op A rfl (by decide) rfl (y_move (A.get (s := 0) rfl) fun ac A => ?_)
          refine L_op A rfl (by decide) rfl (y_move (A.get (s := 7) rfl) fun ac A => ?_)
          refine L_op A rfl (by decide) rfl (y_move (A.get (s := 8) rfl) fun ac A => ?_)
          refine L_op A rfl (by decide) rfl (y_call3 (by kernel_rfl) rfl (A.get (s := 58) rfl) (A.get (s := 59) rfl) (A.get (s := 60) rfl) (callN (open_is hop hN (St.app_left (H := Hn) (K := (Hl ++ Ho)) (S.perm (by classical rw [List.perm_iff_count]; intro x; simp only [List.count_append] <;> omega))).holds ia ib) fun v w H gG nN hf ac A => ?_))
          obtain ⟨rfl, rfl⟩ := hf
          replace S : St _ _ _ (Hn ++ (Hl ++ Ho)) := (S.new gG nN).perm (by first | exact List.Perm.refl _ | (rw [List.append_assoc]; exact List.Perm.refl _) | (simp only [List.append_assoc, List.nil_append, List.append_nil]; exact List.Perm.refl _))
          replace A := A.keep [(0, .pointer (some ⟨p, 0, none⟩)), (3, .slice ra (l2.length + (rowF m ka kb).length) rc), (4, .slice la m.order.length lc), (5, .int .i64 (((i : Nat) : Int))), (6, .int .i64 (((k : Nat) : Int))), (7, .int .i64 ka), (8, .int .i64 kb), (9, .int .i64 ((((rowF m ka kb).length : Nat) : Int))), (42, .bool false), (61, .bool true)] ⟨rfl, rfl, rfl, rfl, rfl, rfl, rfl, rfl, rfl, rfl, trivial⟩
          refine hK18 _ _ ?_
          refine wp_cond_true (A.get rfl) ?_
          refine region_seq ?_  -- region 16
          refine L_op A rfl (by decide) rfl (y_move (A.get (s := 3) rfl) fun ac A => ?_)
          refine L_op A rfl (by decide) rfl (y_buildSlice1 (c := #[.string ⟨[111, 112, 101, 110].toArray⟩]) (e := 9) rfl (fun w => by kernel_rfl) fun b1 w gG nN ac A => ?_)
          replace S : St _ _ _ ([(b1, .cells #[.string ⟨[111, 112, 101, 110].toArray⟩] 9 (0, 0))] ++ (Hn ++ (Hl ++ Ho))) := (S.new gG nN).perm (by first | exact List.Perm.refl _ | (rw [List.append_assoc]; exact List.Perm.refl _) | (simp only [List.append_assoc, List.nil_append, List.append_nil]; exact List.Perm.refl _))
          have hsrc : Src w 1 (.slice (some ⟨b1, 0, none⟩) 1 1) 1 ([opn].map strv) := ⟨rfl, Or.inr ⟨_, _, rfl, cells_at (S.get 0 rfl) rfl⟩⟩
          replace S : St _ _ _ (Ho ++ ([(b1, .cells #[.string ⟨[111, 112, 101, 110].toArray⟩] 9 (0, 0))] ++ (Hn ++ Hl))) := S.perm (by classical rw [List.perm_iff_count]; intro x; simp only [List.count_append, List.count_cons, List.count_nil] <;> omega)
          refine L_op A rfl (by decide) rfl (y_append okSS (by kernel_rfl) (A.get (s := 62) rfl) (A.get (s := 63) rfl) S hRow hsrc (str_one _) (by omega) (by omega) fun v' w Ho' hR2 S ac A => ?_)
          obtain ⟨oa2, oc2, rfl⟩ := hR2.len
          replace S : St _ _ _ ([(b1, .cells #[.string ⟨[111, 112, 101, 110].toArray⟩] 9 (0, 0))] ++ (Hn ++ (Hl ++ Ho'))) := S.perm (by classical rw [List.perm_iff_count]; intro x; simp only [List.count_append, List.count_cons, List.count_nil] <;> omega)
          refine L_op A rfl (by decide) rfl (y_assign (A.get (s := 64) rfl) fun ac A => ?_)
          replace A := A.keep [(0, .pointer (some ⟨p, 0, none⟩)), (3, .slice oa2 (l2.length + (rowF m ka kb).length + 1) oc2), (4, .slice la m.order.length lc), (5, .int .i64 (((i : Nat) : Int))), (6, .int .i64 (((k : Nat) : Int))), (7, .int .i64 ka), (8, .int .i64 kb), (9, .int .i64 ((((rowF m ka kb).length : Nat) : Int))), (42, .bool false), (61, .bool true)] ⟨rfl, rfl, rfl, rfl, rfl, rfl, rfl, rfl, rfl, rfl, trivial⟩
          refine hK12 _ _ ?_
          refine region_seq ?_  -- region 8
          refine L_op A rfl (by decide) rfl (y_move (A.get (s := 6) rfl) fun ac A => ?_)
          refine L_op A rfl (by decide) rfl (y_add (A.get (s := 22) rfl) rfl (c := ((k + 1 : Nat) : Int)) ((wrap64 (by omega)).trans (by omega)) fun ac A => ?_)
          refine L_op A rfl (by decide) rfl (y_assign (A.get (s := 23) rfl) fun ac A => ?_)
          replace A := A.keep [(0, .pointer (some ⟨p, 0, none⟩)), (3, .slice oa2 (l2.length + (rowF m ka kb).length + 1) oc2), (4, .slice la m.order.length lc), (5, .int .i64 (((i : Nat) : Int))), (6, .int .i64 (((k + 1 : Nat) : Int))), (7, .int .i64 ka), (8, .int .i64 kb), (9, .int .i64 ((((rowF m ka kb).length : Nat) : Int))), (42, .bool false), (61, .bool true)] ⟨rfl, rfl, rfl, rfl, rfl, rfl, rfl, rfl, rfl, rfl, trivial⟩
          replace A := A.keep [(0, .pointer (some ⟨p, 0, none⟩)), (3, .slice oa2 (l2.length + (rowF m ka kb).length + 1) oc2), (4, .slice la m.order.length lc), (5, .int .i64 (((i : Nat) : Int))), (6, .int .i64 (((k + 1 : Nat) : Int)))] ⟨rfl, rfl, rfl, rfl, rfl, trivial⟩
          replace S : St _ _ _ (Hn ++ (Hl ++ Ho')) := St.app_left (K := [(b1, .cells #[.string ⟨[111, 112, 101, 110].toArray⟩] 9 (0, 0))]) (S.perm (by classical rw [List.perm_iff_count]; intro x; simp only [List.count_append, List.count_cons, List.count_nil] <;> omega))
          have hone : oneF m (ka, kb) = (rowF m ka kb ++ [opn]) := by simp [oneF, hop]
          exact ⟨k2 - 1, by omega, k + 1, l2 ++ (rowF m ka kb ++ [opn]), oa2, oc2, _, _, by omega, by rw [hnx, hone], by simp; omega, (by simpa [Nat.add_assoc] using A), S, hN, (by simpa [Nat.add_assoc] using hR2)⟩
        | false =>
          refine wp_seq_k fun K16 hK16 => ?_
          refine wp_seq_k fun K17 hK17 => ?_
          refine region_seq ?_  -- region 11
          refine L_op A rfl (by decide) rfl (y_move (A.get (s := 9) rfl) fun ac A => ?_)
          refine L_op A rfl (by decide) rfl (y_move (A.get (s := 0) rfl) fun ac A => ?_)
          refine L_op A rfl (by decide) rfl (y_move (A.get (s := 7) rfl) fun ac A => ?_)
          refine L_op A rfl (by decide) rfl (y_move (A.get (s := 8) rfl) fun ac A => ?_)
          refine L_op A rfl (by decide) rfl (y_call3 (by kernel_rfl) rfl (A.get (s := 38) rfl) (A.get (s := 39) rfl) (A.get (s := 40) rfl) (callN (len_is rfl hN (St.app_left (H := Hn) (K := (Hl ++ Ho)) (S.perm (by classical rw [List.perm_iff_count]; intro x; simp only [List.count_append] <;> omega))).holds ia ib) fun v w H gG nN hf ac A => ?_))
          obtain ⟨rfl, rfl⟩ := hf
          replace S : St _ _ _ (Hn ++ (Hl ++ Ho)) := (S.new gG nN).perm (by first | exact List.Perm.refl _ | (rw [List.append_assoc]; exact List.Perm.refl _) | (simp only [List.append_assoc, List.nil_append, List.append_nil]; exact List.Perm.refl _))
          refine L_op A rfl (by decide) rfl (y_lss (A.get (s := 37) rfl) (A.get (s := 41) rfl) (c := false) (decide_eq_false (by omega)) fun ac A => ?_)
          replace A := A.keep [(0, .pointer (some ⟨p, 0, none⟩)), (3, .slice ra (l2.length + (rowF m ka kb).length) rc), (4, .slice la m.order.length lc), (5, .int .i64 (((i : Nat) : Int))), (6, .int .i64 (((k : Nat) : Int))), (7, .int .i64 ka), (8, .int .i64 kb), (9, .int .i64 ((((rowF m ka kb).length : Nat) : Int))), (42, .bool false)] ⟨rfl, rfl, rfl, rfl, rfl, rfl, rfl, rfl, rfl, trivial⟩
          refine hK17 _ _ ?_
          refine wp_cond_false (A.get rfl) ?_
          refine wp_exit ?_
          refine hK14 _ _ ?_
          refine wp_seq_k fun K18 hK18 => ?_
          refine region_seq ?_  -- region 15
          refine L_op A rfl (by decide) rfl (y_move (A.get (s := 0) rfl) fun ac A => ?_)
          refine L_op A rfl (by decide) rfl (y_move (A.get (s := 7) rfl) fun ac A => ?_)
          refine L_op A rfl (by decide) rfl (y_move (A.get (s := 8) rfl) fun ac A => ?_)
          refine L_op A rfl (by decide) rfl (y_call3 (by kernel_rfl) rfl (A.get (s := 58) rfl) (A.get (s := 59) rfl) (A.get (s := 60) rfl) (callN (open_is hop hN (St.app_left (H := Hn) (K := (Hl ++ Ho)) (S.perm (by classical rw [List.perm_iff_count]; intro x; simp only [List.count_append] <;> omega))).holds ia ib) fun v w H gG nN hf ac A => ?_))
          obtain ⟨rfl, rfl⟩ := hf
          replace S : St _ _ _ (Hn ++ (Hl ++ Ho)) := (S.new gG nN).perm (by first | exact List.Perm.refl _ | (rw [List.append_assoc]; exact List.Perm.refl _) | (simp only [List.append_assoc, List.nil_append, List.append_nil]; exact List.Perm.refl _))
          replace A := A.keep [(0, .pointer (some ⟨p, 0, none⟩)), (3, .slice ra (l2.length + (rowF m ka kb).length) rc), (4, .slice la m.order.length lc), (5, .int .i64 (((i : Nat) : Int))), (6, .int .i64 (((k : Nat) : Int))), (7, .int .i64 ka), (8, .int .i64 kb), (9, .int .i64 ((((rowF m ka kb).length : Nat) : Int))), (42, .bool false), (61, .bool false)] ⟨rfl, rfl, rfl, rfl, rfl, rfl, rfl, rfl, rfl, rfl, trivial⟩
          refine hK18 _ _ ?_
          refine wp_cond_false (A.get rfl) ?_
          refine wp_skip ?_
          refine hK12 _ _ ?_
          refine region_seq ?_  -- region 8
          refine L_op A rfl (by decide) rfl (y_move (A.get (s := 6) rfl) fun ac A => ?_)
          refine L_op A rfl (by decide) rfl (y_add (A.get (s := 22) rfl) rfl (c := ((k + 1 : Nat) : Int)) ((wrap64 (by omega)).trans (by omega)) fun ac A => ?_)
          refine L_op A rfl (by decide) rfl (y_assign (A.get (s := 23) rfl) fun ac A => ?_)
          replace A := A.keep [(0, .pointer (some ⟨p, 0, none⟩)), (3, .slice ra (l2.length + (rowF m ka kb).length) rc), (4, .slice la m.order.length lc), (5, .int .i64 (((i : Nat) : Int))), (6, .int .i64 (((k + 1 : Nat) : Int))), (7, .int .i64 ka), (8, .int .i64 kb), (9, .int .i64 ((((rowF m ka kb).length : Nat) : Int))), (42, .bool false), (61, .bool false)] ⟨rfl, rfl, rfl, rfl, rfl, rfl, rfl, rfl, rfl, rfl, trivial⟩
          replace A := A.keep [(0, .pointer (some ⟨p, 0, none⟩)), (3, .slice ra (l2.length + (rowF m ka kb).length) rc), (4, .slice la m.order.length lc), (5, .int .i64 (((i : Nat) : Int))), (6, .int .i64 (((k + 1 : Nat) : Int)))] ⟨rfl, rfl, rfl, rfl, rfl, trivial⟩
          replace S : St _ _ _ (Hn ++ (Hl ++ Ho)) := S.perm (by classical rw [List.perm_iff_count]; intro x; simp only [List.count_append] <;> omega)
          have hone : oneF m (ka, kb) = (rowF m ka kb) := by simp [oneF, hop]
          exact ⟨k2 - 1, by omega, k + 1, l2 ++ (rowF m ka kb), ra, rc, _, _, by omega, by rw [hnx, hone], by simp; omega, (by simpa [Nat.add_assoc] using A), S, hN, (by simpa [Nat.add_assoc] using hRow)⟩
    · obtain rfl : k = 2 := by omega
      replace hl2 : l2 = ll ++ (both l).flatMap (oneF m) := hl2
      refine wp_seq_k fun K10 hK10 => ?_
      refine wp_seq_k fun K11 hK11 => ?_
      refine region_seq ?_  -- region 7
      refine L_op A rfl (by decide) rfl (y_move (A.get (s := 6) rfl) fun ac A => ?_)
      refine L_op A rfl (by decide) rfl (y_lss (A.get (s := 20) rfl) rfl (c := false) (decide_eq_false (by decide)) fun ac A => ?_)
      replace A := A.keep [(0, .pointer (some ⟨p, 0, none⟩)), (3, .slice oa l2.length oc), (4, .slice la m.order.length lc), (5, .int .i64 (((i : Nat) : Int))), (6, .int .i64 (((2 : Nat) : Int))), (21, .bool false)] ⟨rfl, rfl, rfl, rfl, rfl, rfl, trivial⟩
      refine hK11 _ _ ?_
      refine wp_cond_false (A.get rfl) ?_
      refine wp_exit ?_
      refine hK8 _ _ ?_
      refine region_seq ?_  -- region 5
      refine L_op A rfl (by decide) rfl (y_move (A.get (s := 5) rfl) fun ac A => ?_)
      refine L_op A rfl (by decide) rfl (y_add (A.get (s := 18) rfl) rfl (c := ((i + 1 : Nat) : Int)) ((wrap64 (by omega)).trans (by omega)) fun ac A => ?_)
      refine L_op A rfl (by decide) rfl (y_assign (A.get (s := 19) rfl) fun ac A => ?_)
      replace A := A.keep [(0, .pointer (some ⟨p, 0, none⟩)), (3, .slice oa l2.length oc), (4, .slice la m.order.length lc), (5, .int .i64 (((i + 1 : Nat) : Int))), (6, .int .i64 (((2 : Nat) : Int))), (21, .bool false)] ⟨rfl, rfl, rfl, rfl, rfl, rfl, trivial⟩
      replace A := A.keep [(0, .pointer (some ⟨p, 0, none⟩)), (3, .slice oa l2.length oc), (4, .slice la m.order.length lc), (5, .int .i64 (((i + 1 : Nat) : Int)))] ⟨rfl, rfl, rfl, rfl, trivial⟩
      replace S : St _ _ _ (Hn ++ (Hl ++ Ho)) := S.perm (by classical rw [List.perm_iff_count]; intro x; simp only [List.count_append] <;> omega)
      exact ⟨kk - 1, by omega, i + 1, l2, oa, oc, _, _, by omega, by rw [hnext]; exact hl2, by omega, A, S, hN, hR⟩
  · obtain rfl : i = m.order.length := by omega
    rw [List.take_length] at hll
    refine wp_seq_k fun K6 hK6 => ?_
    refine wp_seq_k fun K7 hK7 => ?_
    refine region_seq ?_  -- region 4
    refine L_op A rfl (by decide) rfl (y_move (A.get (s := 5) rfl) fun ac A => ?_)
    refine L_op A rfl (by decide) rfl (y_move (A.get (s := 4) rfl) fun ac A => ?_)
    refine L_op A rfl (by decide) rfl (y_lenS (e := 28) (by kernel_rfl) (A.get (s := 15) rfl) fun ac A => ?_)
    refine L_op A rfl (by decide) rfl (y_lss (A.get (s := 14) rfl) (A.get (s := 16) rfl) (c := false) (decide_eq_false (by omega)) fun ac A => ?_)
    replace A := A.keep [(0, .pointer (some ⟨p, 0, none⟩)), (3, .slice oa ll.length oc), (4, .slice la m.order.length lc), (5, .int .i64 (((m.order.length : Nat) : Int))), (17, .bool false)] ⟨rfl, rfl, rfl, rfl, rfl, trivial⟩
    refine hK7 _ _ ?_
    refine wp_cond_false (A.get rfl) ?_
    refine wp_exit ?_
    refine hK4 _ _ ?_
    refine wp_seq_k fun K8 hK8 => ?_
    refine region_seq ?_  -- region 17
    refine L_op A rfl (by decide) rfl (y_move (A.get (s := 3) rfl) fun ac A => ?_)
    refine L_op A rfl (by decide) rfl (y_assign (A.get (s := 65) rfl) fun ac A => ?_)
    replace A := A.keep [(0, .pointer (some ⟨p, 0, none⟩)), (2, .slice oa ll.length oc), (3, .slice oa ll.length oc), (4, .slice la m.order.length lc), (5, .int .i64 (((m.order.length : Nat) : Int))), (17, .bool false)] ⟨rfl, rfl, rfl, rfl, rfl, rfl, trivial⟩
    refine hK8 _ _ ?_
    have S' : St _ _ _ (Hn ++ Ho) := St.app_left (K := Hl) (S.perm (by classical rw [List.perm_iff_count]; intro x; simp only [List.count_append] <;> omega))
    have hE : allF m = ll := hll.symm
    exact wp_ret ⟨A.defers, _, res_run (rs := [.tmp 2]) (vs := [.slice oa ll.length oc]) rfl ⟨A.get rfl, trivial⟩, ⟨_, _, rfl, ⟨Hn, Ho, hN, by rw [hE]; exact hR, by rw [hE]; omega, rfl⟩, S'⟩⟩
end Go.Proofs.Ytaeidblipdjgnaa
