import Derived.Test.YtaeidblipdjgnaaPlayed
namespace Go.Proofs.Ytaeidblipdjgnaa
open Go.RowKit Go.Maps Go.WideMaps

/-- a row of strings as it stands -/
def SSrc (w : World) (v : Value) (l : List (List UInt8)) : Prop := Src w 1 v l.length (l.map strv)
theorem SSrc.at {w : World} {v : Value} {l : List (List UInt8)} (h : SSrc w v l) {i : Nat} {x : List UInt8} (hx : l[i]? = some x) : ∃ va vc, v = .slice (some va) l.length vc ∧ w.cell? (va.add (((i : Nat) : Int).toNat * 1)) = some (.string ⟨x.toArray⟩) := by
  have hi := lt_of_get hx
  obtain ⟨va, vc, hv, hc⟩ := Src.row h hi
  refine ⟨va, vc, hv, ?_⟩
  have := hc 0 (by omega) (by simp; omega)
  rw [Addr.add_add'] at this
  simp only [Int.toNat_natCast]
  rw [show i * 1 = i * 1 + 0 by omega, this]
  rw [List.getElem?_eq_getElem hi] at hx
  simp [strv, Option.some.inj hx]
theorem SlRep.ssrc {w : World} {v : Value} {l : List (List UInt8)} {H : Frag} (h : SlRep 9 1 v l.length (l.map strv) H) (hh : Holds w H) : SSrc w v l := SlRep.src h hh
theorem take_eq_next {α : Type} {a b : List α} {i : Nat} {x y : α} (hx : a[i]? = some x) (hy : b[i]? = some y) (h : a.take i = b.take i) : a.take (i + 1) = b.take (i + 1) ↔ x = y := by
  rw [List.take_add_one, List.take_add_one, hx, hy, h]
  simp

set_option maxRecDepth 20000 in
set_option maxHeartbeats 4000000 in
theorem same_ok {w0 : World} {va vb : Value} {a b : List (List UInt8)} (ha : SSrc w0 va a) (hb : SSrc w0 vb b) (hl : a.length ≤ 1000000000) : Calls Try.prog 36 #[va, vb] w0 (RetN w0 (eqv (.bool (a == b)))) := by
  obtain ⟨aa, ac', rfl⟩ := Src.len' ha
  obtain ⟨ba, bc, rfl⟩ := Src.len' hb
  by_cases hlen : a.length = b.length
  · skip
    refine enter Try.func36 rfl (n := 26) rfl (Nat.le_of_ble_eq_true rfl) fun ac A => ?_
    have S : St _ _ _ [] := St.none w0
    refine wp_seq_k fun K1 hK1 => ?_
    refine region_seq ?_  -- region 0
    refine L_op A rfl (by decide) rfl (y_assign rfl fun ac A => ?_)
    replace A := A.keep [(0, .slice aa a.length ac'), (1, .slice ba b.length bc), (4, .bool false)] ⟨rfl, rfl, rfl, trivial⟩
    refine hK1 _ _ ?_
    refine wp_seq_k fun K2 hK2 => ?_
    refine wp_seq_k fun K3 hK3 => ?_
    refine region_seq ?_  -- region 1
    refine L_op A rfl (by decide) rfl (y_move (A.get (s := 0) rfl) fun ac A => ?_)
    refine L_op A rfl (by decide) rfl (y_lenS (e := 9) (by kernel_rfl) (A.get (s := 6) rfl) fun ac A => ?_)
    refine L_op A rfl (by decide) rfl (y_move (A.get (s := 1) rfl) fun ac A => ?_)
    refine L_op A rfl (by decide) rfl (y_lenS (e := 9) (by kernel_rfl) (A.get (s := 8) rfl) fun ac A => ?_)
    refine L_op A rfl (by decide) rfl (y_neq (A.get (s := 7) rfl) (A.get (s := 9) rfl) (c := false) (by simp [hlen]) fun ac A => ?_)
    replace A := A.keep [(0, .slice aa a.length ac'), (1, .slice ba b.length bc), (4, .bool false), (10, .bool false)] ⟨rfl, rfl, rfl, rfl, trivial⟩
    refine hK3 _ _ ?_
    refine wp_cond_false (A.get rfl) ?_
    refine wp_skip ?_
    refine hK2 _ _ ?_
    refine wp_seq_k fun K4 hK4 => ?_
    refine wp_seq_k fun K5 hK5 => ?_
    refine region_seq ?_  -- region 3
    refine L_op A rfl (by decide) rfl (y_assign rfl fun ac A => ?_)
    replace A := A.keep [(0, .slice aa a.length ac'), (1, .slice ba b.length bc), (4, .bool false), (5, .int .i64 0), (10, .bool false)] ⟨rfl, rfl, rfl, rfl, rfl, trivial⟩
    refine hK5 _ _ ?_
    refine wp_block ?_
    replace A := A.keep [(0, .slice aa a.length ac'), (1, .slice ba b.length bc), (5, .int .i64 0)] ⟨rfl, rfl, rfl, trivial⟩
    refine wp_loop_ghost (fun kk ac w' => ∃ (i : Nat), kk + i = a.length ∧ a.take i = b.take i ∧ Sl 26 ac [(0, .slice aa a.length ac'), (1, .slice ba b.length bc), (5, .int .i64 ((i : Nat) : Int))] ∧ St [] w0 w' []) a.length ⟨0, by simp, by simp, A, S⟩ ?_
    clear A S
    rintro kk ac w2 ⟨i, hkk, htk, A, S⟩
    rcases Nat.lt_or_ge i a.length with hi | hi
    · obtain ⟨x, hxi⟩ : ∃ x, a[i]? = some x := ⟨_, List.getElem?_eq_getElem hi⟩
      obtain ⟨y, hyi⟩ : ∃ y, b[i]? = some y := ⟨_, List.getElem?_eq_getElem (by omega)⟩
      obtain ⟨aa, ac2, hva, hca⟩ := ha.at hxi
      simp only [Value.slice.injEq] at hva; obtain ⟨rfl, -, rfl⟩ := hva
      obtain ⟨ba, bc2, hvb, hcb⟩ := hb.at hyi
      simp only [Value.slice.injEq] at hvb; obtain ⟨rfl, -, rfl⟩ := hvb
      have hn := take_eq_next hxi hyi htk
      by_cases hxy : x = y
      · skip
        refine wp_seq_k fun K6 hK6 => ?_
        refine wp_seq_k fun K7 hK7 => ?_
        refine region_seq ?_  -- region 4
        refine L_op A rfl (by decide) rfl (y_move (A.get (s := 5) rfl) fun ac A => ?_)
        refine L_op A rfl (by decide) rfl (y_move (A.get (s := 0) rfl) fun ac A => ?_)
        refine L_op A rfl (by decide) rfl (y_lenS (e := 9) (by kernel_rfl) (A.get (s := 12) rfl) fun ac A => ?_)
        refine L_op A rfl (by decide) rfl (y_lss (A.get (s := 11) rfl) (A.get (s := 13) rfl) (c := true) (decide_eq_true (by omega)) fun ac A => ?_)
        replace A := A.keep [(0, .slice (some aa) a.length ac'), (1, .slice (some ba) b.length bc), (5, .int .i64 (((i : Nat) : Int))), (14, .bool true)] ⟨rfl, rfl, rfl, rfl, trivial⟩
        refine hK7 _ _ ?_
        refine wp_cond_true (A.get rfl) ?_
        refine wp_skip ?_
        refine hK6 _ _ ?_
        refine wp_seq_k fun K8 hK8 => ?_
        refine wp_block ?_
        refine wp_seq_k fun K9 hK9 => ?_
        refine region_draw A [⟨17, pl (eqv (.slice (some aa) a.length ac')), [], [0], none, false⟩, ⟨18, pl (eqv (.int .i64 (((i : Nat) : Int)))), [], [5], none, false⟩, ⟨19, pl (eqv (.pointer (some (aa.add (((i : Nat) : Int).toNat * 1))))), [0, 1], [], none, false⟩, ⟨20, pl (eqv (.string ⟨x.toArray⟩)), [2], [], none, false⟩, ⟨21, pl (eqv (.slice (some ba) b.length bc)), [], [1], none, false⟩, ⟨22, pl (eqv (.int .i64 (((i : Nat) : Int)))), [], [5], none, false⟩, ⟨23, pl (eqv (.pointer (some (ba.add (((i : Nat) : Int).toNat * 1))))), [4, 5], [], none, false⟩, ⟨24, pl (eqv (.string ⟨y.toArray⟩)), [6], [], none, false⟩, ⟨25, pl (eqv (.bool false)), [3, 7], [], none, false⟩] [] (by kernel_rfl) (by kernel_rfl) (fun d _ _ _ _ h => by cases d <;> exact h) ⟨?_, ?_, ?_, ?_, ?_, ?_, ?_, ?_, ?_, trivial⟩ ?_  -- region 6
        · refine due_plain fun ρ w1 G hsrc hold => ?_; obtain ⟨o0, -⟩ := hold; exact y_move (o0.trans (A.get (s := 0) rfl)) y_eq
        · refine due_plain fun ρ w1 G hsrc hold => ?_; obtain ⟨o5, -⟩ := hold; exact y_move (o5.trans (A.get (s := 5) rfl)) y_eq
        · refine due_plain fun ρ w1 G hsrc hold => ?_; obtain ⟨⟨_, _, ⟨h17, -⟩, -⟩, ⟨_, _, ⟨h18, -⟩, -⟩, -⟩ := hsrc; exact y_indexA (e := 9) (size := 1) (by kernel_rfl) (by kernel_rfl) h17 h18 (by omega) (by omega) y_eq
        · refine due_plain fun ρ w1 G hsrc hold => ?_; obtain ⟨⟨_, _, ⟨h19, -⟩, -⟩, -⟩ := hsrc; exact y_load (by kernel_rfl) h19 (G.gr.cell' (S.kp.to_gr.cell' hca)) y_eq
        · refine due_plain fun ρ w1 G hsrc hold => ?_; obtain ⟨o1, -⟩ := hold; exact y_move (o1.trans (A.get (s := 1) rfl)) y_eq
        · refine due_plain fun ρ w1 G hsrc hold => ?_; obtain ⟨o5, -⟩ := hold; exact y_move (o5.trans (A.get (s := 5) rfl)) y_eq
        · refine due_plain fun ρ w1 G hsrc hold => ?_; obtain ⟨⟨_, _, ⟨h21, -⟩, -⟩, ⟨_, _, ⟨h22, -⟩, -⟩, -⟩ := hsrc; exact y_indexA (e := 9) (size := 1) (by kernel_rfl) (by kernel_rfl) h21 h22 (by omega) (by omega) y_eq
        · refine due_plain fun ρ w1 G hsrc hold => ?_; obtain ⟨⟨_, _, ⟨h23, -⟩, -⟩, -⟩ := hsrc; exact y_load (by kernel_rfl) h23 (G.gr.cell' (S.kp.to_gr.cell' hcb)) y_eq
        · refine due_plain fun ρ w1 G hsrc hold => ?_; obtain ⟨⟨_, _, ⟨h20, -⟩, -⟩, ⟨_, _, ⟨h24, -⟩, -⟩, -⟩ := hsrc; exact y_neqStr (a := x) (b := y) h20 h24 (c := false) (by simp [hxy]) y_eq
        rintro _ _ ⟨rfl, rfl⟩ _ _ ⟨rfl, rfl⟩ _ _ ⟨rfl, rfl⟩ _ _ ⟨rfl, rfl⟩ _ _ ⟨rfl, rfl⟩ _ _ ⟨rfl, rfl⟩ _ _ ⟨rfl, rfl⟩ _ _ ⟨rfl, rfl⟩ _ _ ⟨rfl, rfl⟩
        intro ac w A gG nN
        replace S : St _ _ _ [] := S.new gG nN
        replace A := A.keep [(0, .slice (some aa) a.length ac'), (1, .slice (some ba) b.length bc), (5, .int .i64 (((i : Nat) : Int))), (14, .bool true), (25, .bool false)] ⟨rfl, rfl, rfl, rfl, rfl, trivial⟩
        refine hK9 _ _ ?_
        refine wp_cond_false (A.get rfl) ?_
        refine wp_skip ?_
        refine hK8 _ _ ?_
        refine region_seq ?_  -- region 5
        refine L_op A rfl (by decide) rfl (y_move (A.get (s := 5) rfl) fun ac A => ?_)
        refine L_op A rfl (by decide) rfl (y_add (A.get (s := 15) rfl) rfl (c := ((i + 1 : Nat) : Int)) ((wrap64 (by omega)).trans (by omega)) fun ac A => ?_)
        refine L_op A rfl (by decide) rfl (y_assign (A.get (s := 16) rfl) fun ac A => ?_)
        replace A := A.keep [(0, .slice (some aa) a.length ac'), (1, .slice (some ba) b.length bc), (5, .int .i64 (((i + 1 : Nat) : Int))), (14, .bool true), (25, .bool false)] ⟨rfl, rfl, rfl, rfl, rfl, trivial⟩
        replace A := A.keep [(0, .slice (some aa) a.length ac'), (1, .slice (some ba) b.length bc), (5, .int .i64 (((i + 1 : Nat) : Int)))] ⟨rfl, rfl, rfl, trivial⟩
        exact ⟨kk - 1, by omega, i + 1, by omega, hn.2 hxy, A, S⟩
      · skip
        refine wp_seq_k fun K6 hK6 => ?_
        refine wp_seq_k fun K7 hK7 => ?_
        refine region_seq ?_  -- region 4
        refine L_op A rfl (by decide) rfl (y_move (A.get (s := 5) rfl) fun ac A => ?_)
        refine L_op A rfl (by decide) rfl (y_move (A.get (s := 0) rfl) fun ac A => ?_)
        refine L_op A rfl (by decide) rfl (y_lenS (e := 9) (by kernel_rfl) (A.get (s := 12) rfl) fun ac A => ?_)
        refine L_op A rfl (by decide) rfl (y_lss (A.get (s := 11) rfl) (A.get (s := 13) rfl) (c := true) (decide_eq_true (by omega)) fun ac A => ?_)
        replace A := A.keep [(0, .slice (some aa) a.length ac'), (1, .slice (some ba) b.length bc), (5, .int .i64 (((i : Nat) : Int))), (14, .bool true)] ⟨rfl, rfl, rfl, rfl, trivial⟩
        refine hK7 _ _ ?_
        refine wp_cond_true (A.get rfl) ?_
        refine wp_skip ?_
        refine hK6 _ _ ?_
        refine wp_seq_k fun K8 hK8 => ?_
        refine wp_block ?_
        refine wp_seq_k fun K9 hK9 => ?_
        refine region_draw A [⟨17, pl (eqv (.slice (some aa) a.length ac')), [], [0], none, false⟩, ⟨18, pl (eqv (.int .i64 (((i : Nat) : Int)))), [], [5], none, false⟩, ⟨19, pl (eqv (.pointer (some (aa.add (((i : Nat) : Int).toNat * 1))))), [0, 1], [], none, false⟩, ⟨20, pl (eqv (.string ⟨x.toArray⟩)), [2], [], none, false⟩, ⟨21, pl (eqv (.slice (some ba) b.length bc)), [], [1], none, false⟩, ⟨22, pl (eqv (.int .i64 (((i : Nat) : Int)))), [], [5], none, false⟩, ⟨23, pl (eqv (.pointer (some (ba.add (((i : Nat) : Int).toNat * 1))))), [4, 5], [], none, false⟩, ⟨24, pl (eqv (.string ⟨y.toArray⟩)), [6], [], none, false⟩, ⟨25, pl (eqv (.bool true)), [3, 7], [], none, false⟩] [] (by kernel_rfl) (by kernel_rfl) (fun d _ _ _ _ h => by cases d <;> exact h) ⟨?_, ?_, ?_, ?_, ?_, ?_, ?_, ?_, ?_, trivial⟩ ?_  -- region 6
        · refine due_plain fun ρ w1 G hsrc hold => ?_; obtain ⟨o0, -⟩ := hold; exact y_move (o0.trans (A.get (s := 0) rfl)) y_eq
        · refine due_plain fun ρ w1 G hsrc hold => ?_; obtain ⟨o5, -⟩ := hold; exact y_move (o5.trans (A.get (s := 5) rfl)) y_eq
        · refine due_plain fun ρ w1 G hsrc hold => ?_; obtain ⟨⟨_, _, ⟨h17, -⟩, -⟩, ⟨_, _, ⟨h18, -⟩, -⟩, -⟩ := hsrc; exact y_indexA (e := 9) (size := 1) (by kernel_rfl) (by kernel_rfl) h17 h18 (by omega) (by omega) y_eq
        · refine due_plain fun ρ w1 G hsrc hold => ?_; obtain ⟨⟨_, _, ⟨h19, -⟩, -⟩, -⟩ := hsrc; exact y_load (by kernel_rfl) h19 (G.gr.cell' (S.kp.to_gr.cell' hca)) y_eq
        · refine due_plain fun ρ w1 G hsrc hold => ?_; obtain ⟨o1, -⟩ := hold; exact y_move (o1.trans (A.get (s := 1) rfl)) y_eq
        · refine due_plain fun ρ w1 G hsrc hold => ?_; obtain ⟨o5, -⟩ := hold; exact y_move (o5.trans (A.get (s := 5) rfl)) y_eq
        · refine due_plain fun ρ w1 G hsrc hold => ?_; obtain ⟨⟨_, _, ⟨h21, -⟩, -⟩, ⟨_, _, ⟨h22, -⟩, -⟩, -⟩ := hsrc; exact y_indexA (e := 9) (size := 1) (by kernel_rfl) (by kernel_rfl) h21 h22 (by omega) (by omega) y_eq
        · refine due_plain fun ρ w1 G hsrc hold => ?_; obtain ⟨⟨_, _, ⟨h23, -⟩, -⟩, -⟩ := hsrc; exact y_load (by kernel_rfl) h23 (G.gr.cell' (S.kp.to_gr.cell' hcb)) y_eq
        · refine due_plain fun ρ w1 G hsrc hold => ?_; obtain ⟨⟨_, _, ⟨h20, -⟩, -⟩, ⟨_, _, ⟨h24, -⟩, -⟩, -⟩ := hsrc; exact y_neqStr (a := x) (b := y) h20 h24 (c := true) (by simpa using hxy) y_eq
        rintro _ _ ⟨rfl, rfl⟩ _ _ ⟨rfl, rfl⟩ _ _ ⟨rfl, rfl⟩ _ _ ⟨rfl, rfl⟩ _ _ ⟨rfl, rfl⟩ _ _ ⟨rfl, rfl⟩ _ _ ⟨rfl, rfl⟩ _ _ ⟨rfl, rfl⟩ _ _ ⟨rfl, rfl⟩
        intro ac w A gG nN
        replace S : St _ _ _ [] := S.new gG nN
        replace A := A.keep [(0, .slice (some aa) a.length ac'), (1, .slice (some ba) b.length bc), (5, .int .i64 (((i : Nat) : Int))), (14, .bool true), (25, .bool true)] ⟨rfl, rfl, rfl, rfl, rfl, trivial⟩
        refine hK9 _ _ ?_
        refine wp_cond_true (A.get rfl) ?_
        refine wp_seq_k fun K10 hK10 => ?_
        refine region_seq ?_  -- region 7
        refine L_op A rfl (by decide) rfl (y_assign rfl fun ac A => ?_)
        replace A := A.keep [(0, .slice (some aa) a.length ac'), (1, .slice (some ba) b.length bc), (4, .bool false), (5, .int .i64 (((i : Nat) : Int))), (14, .bool true), (25, .bool true)] ⟨rfl, rfl, rfl, rfl, rfl, rfl, trivial⟩
        refine hK10 _ _ ?_
        exact wp_ret ⟨A.defers, _, res_run (rs := [.tmp 4]) (vs := [.bool false]) rfl ⟨A.get rfl, trivial⟩, ⟨_, rfl, S.kp.to_gr, [], ⟨by rw [show (a == b) = false from by simpa using fun e : a = b => hxy (hn.1 (by rw [e]))], rfl⟩, NewF.nil _ _⟩⟩
    · obtain rfl : i = a.length := by omega
      rw [List.take_length, hlen, List.take_length] at htk
      have hE : (a == b) = true := by simpa using htk
      refine wp_seq_k fun K6 hK6 => ?_
      refine wp_seq_k fun K7 hK7 => ?_
      refine region_seq ?_  -- region 4
      refine L_op A rfl (by decide) rfl (y_move (A.get (s := 5) rfl) fun ac A => ?_)
      refine L_op A rfl (by decide) rfl (y_move (A.get (s := 0) rfl) fun ac A => ?_)
      refine L_op A rfl (by decide) rfl (y_lenS (e := 9) (by kernel_rfl) (A.get (s := 12) rfl) fun ac A => ?_)
      refine L_op A rfl (by decide) rfl (y_lss (A.get (s := 11) rfl) (A.get (s := 13) rfl) (c := false) (decide_eq_false (by omega)) fun ac A => ?_)
      replace A := A.keep [(0, .slice aa a.length ac'), (1, .slice ba b.length bc), (5, .int .i64 (((a.length : Nat) : Int))), (14, .bool false)] ⟨rfl, rfl, rfl, rfl, trivial⟩
      refine hK7 _ _ ?_
      refine wp_cond_false (A.get rfl) ?_
      refine wp_exit ?_
      refine hK4 _ _ ?_
      refine wp_seq_k fun K8 hK8 => ?_
      refine region_seq ?_  -- region 8
      refine L_op A rfl (by decide) rfl (y_assign rfl fun ac A => ?_)
      replace A := A.keep [(0, .slice aa a.length ac'), (1, .slice ba b.length bc), (4, .bool true), (5, .int .i64 (((a.length : Nat) : Int))), (14, .bool false)] ⟨rfl, rfl, rfl, rfl, rfl, trivial⟩
      refine hK8 _ _ ?_
      exact wp_ret ⟨A.defers, _, res_run (rs := [.tmp 4]) (vs := [.bool true]) rfl ⟨A.get rfl, trivial⟩, ⟨_, rfl, S.kp.to_gr, [], ⟨by rw [hE], rfl⟩, NewF.nil _ _⟩⟩
  · skip
    refine enter Try.func36 rfl (n := 26) rfl (Nat.le_of_ble_eq_true rfl) fun ac A => ?_
    have S : St _ _ _ [] := St.none w0
    refine wp_seq_k fun K1 hK1 => ?_
    refine region_seq ?_  -- region 0
    refine L_op A rfl (by decide) rfl (y_assign rfl fun ac A => ?_)
    replace A := A.keep [(0, .slice aa a.length ac'), (1, .slice ba b.length bc), (4, .bool false)] ⟨rfl, rfl, rfl, trivial⟩
    refine hK1 _ _ ?_
    refine wp_seq_k fun K2 hK2 => ?_
    refine wp_seq_k fun K3 hK3 => ?_
    refine region_seq ?_  -- region 1
    refine L_op A rfl (by decide) rfl (y_move (A.get (s := 0) rfl) fun ac A => ?_)
    refine L_op A rfl (by decide) rfl (y_lenS (e := 9) (by kernel_rfl) (A.get (s := 6) rfl) fun ac A => ?_)
    refine L_op A rfl (by decide) rfl (y_move (A.get (s := 1) rfl) fun ac A => ?_)
    refine L_op A rfl (by decide) rfl (y_lenS (e := 9) (by kernel_rfl) (A.get (s := 8) rfl) fun ac A => ?_)
    refine L_op A rfl (by decide) rfl (y_neq (A.get (s := 7) rfl) (A.get (s := 9) rfl) (c := true) (by simp; omega) fun ac A => ?_)
    replace A := A.keep [(0, .slice aa a.length ac'), (1, .slice ba b.length bc), (4, .bool false), (10, .bool true)] ⟨rfl, rfl, rfl, rfl, trivial⟩
    refine hK3 _ _ ?_
    refine wp_cond_true (A.get rfl) ?_
    refine wp_seq_k fun K4 hK4 => ?_
    refine region_seq ?_  -- region 2
    refine L_op A rfl (by decide) rfl (y_assign rfl fun ac A => ?_)
    replace A := A.keep [(0, .slice aa a.length ac'), (1, .slice ba b.length bc), (4, .bool false), (10, .bool true)] ⟨rfl, rfl, rfl, rfl, trivial⟩
    refine hK4 _ _ ?_
    exact wp_ret ⟨A.defers, _, res_run (rs := [.tmp 4]) (vs := [.bool false]) rfl ⟨A.get rfl, trivial⟩, ⟨_, rfl, S.kp.to_gr, [], ⟨by rw [show (a == b) = false from by simpa using fun e : a = b => hlen (by rw [e])], rfl⟩, NewF.nil _ _⟩⟩

theorem same_is {w0 : World} {va vb : Value} {a b : List (List UInt8)} {c : Bool} (hc : (a == b) = c) (ha : SSrc w0 va a) (hb : SSrc w0 vb b) (hl : a.length ≤ 1000000000) : Calls Try.prog 36 #[va, vb] w0 (RetN w0 (eqv (.bool c))) := hc ▸ same_ok ha hb hl

/-- rows of strings as they stand -/
def RSrc (w : World) (v : Value) (ll : List (List (List UInt8))) : Prop := ∃ vs : List Value, Src w 1 v ll.length vs ∧ ∀ (i : Nat) (u : Value) (l : List (List UInt8)), vs[i]? = some u → ll[i]? = some l → SSrc w u l
theorem SSrc.gr {w w' : World} {v : Value} {l : List (List UInt8)} (h : SSrc w v l) (g : Gr w w') : SSrc w' v l := Src.gr h g
theorem RSrc.at {w : World} {v : Value} {ll : List (List (List UInt8))} (h : RSrc w v ll) {i : Nat} {l : List (List UInt8)} (hl : ll[i]? = some l) : ∃ va vc ba bc, v = .slice (some va) ll.length vc ∧ w.cell? (va.add (((i : Nat) : Int).toNat * 1)) = some (.slice ba l.length bc) ∧ SSrc w (.slice ba l.length bc) l := by
  obtain ⟨vs, h1, h2⟩ := h
  have hi := lt_of_get hl
  have hlen : vs.length = ll.length := by have := h1.1; omega
  obtain ⟨va, vc, hv, hc⟩ := h1.row hi
  have h3 := hc 0 (by omega) (by omega)
  have hb := h2 i _ l (List.getElem?_eq_getElem (by omega)) hl
  obtain ⟨ba, bc, hba⟩ := Src.len' hb
  refine ⟨va, vc, ba, bc, hv, ?_, hba ▸ hb⟩
  rw [Addr.add_add'] at h3
  simp only [Int.toNat_natCast]
  rw [show i * 1 = i * 1 + 0 by omega, h3, ← hba]
  simp
def rowsAt (a b : List (List (List UInt8))) (but : Int) (i : Nat) : Bool := !decide (((i / 2 : Nat) : Int) ≠ but) || (a.getD i [] == b.getD i [])
def rowsF (a b : List (List (List UInt8))) (but : Int) : Bool := a.length == b.length && (List.range a.length).all (rowsAt a b but)

set_option maxRecDepth 20000 in
set_option maxHeartbeats 8000000 in
theorem rows_ok {w0 : World} {va vb : Value} {a b : List (List (List UInt8))} {but : Int} (ha : RSrc w0 va a) (hb : RSrc w0 vb b) (hl : a.length ≤ 1000000000) (hll : ∀ l ∈ a, l.length ≤ 1000000000) : Calls Try.prog 23 #[va, vb, .int .i64 but] w0 (RetN w0 (eqv (.bool (rowsF a b but)))) := by
  obtain ⟨aa, ac', rfl⟩ : ∃ aa c, va = .slice aa a.length c := by obtain ⟨_, h, _⟩ := ha; exact h.len'
  obtain ⟨ba, bc, rfl⟩ : ∃ aa c, vb = .slice aa b.length c := by obtain ⟨_, h, _⟩ := hb; exact h.len'
  by_cases hlen : a.length = b.length
  · skip
    refine enter Try.func23 rfl (n := 35) rfl (Nat.le_of_ble_eq_true rfl) fun ac A => ?_
    have S : St _ _ _ [] := St.none w0
    refine wp_seq_k fun K1 hK1 => ?_
    refine region_seq ?_  -- region 0
    refine L_op A rfl (by decide) rfl (y_assign rfl fun ac A => ?_)
    replace A := A.keep [(0, .slice aa a.length ac'), (1, .slice ba b.length bc), (2, .int .i64 but), (6, .bool false)] ⟨rfl, rfl, rfl, rfl, trivial⟩
    refine hK1 _ _ ?_
    refine wp_seq_k fun K2 hK2 => ?_
    refine wp_seq_k fun K3 hK3 => ?_
    refine region_seq ?_  -- region 1
    refine L_op A rfl (by decide) rfl (y_move (A.get (s := 0) rfl) fun ac A => ?_)
    refine L_op A rfl (by decide) rfl (y_lenS (e := 29) (by kernel_rfl) (A.get (s := 8) rfl) fun ac A => ?_)
    refine L_op A rfl (by decide) rfl (y_move (A.get (s := 1) rfl) fun ac A => ?_)
    refine L_op A rfl (by decide) rfl (y_lenS (e := 29) (by kernel_rfl) (A.get (s := 10) rfl) fun ac A => ?_)
    refine L_op A rfl (by decide) rfl (y_neq (A.get (s := 9) rfl) (A.get (s := 11) rfl) (c := false) (by simp [hlen]) fun ac A => ?_)
    replace A := A.keep [(0, .slice aa a.length ac'), (1, .slice ba b.length bc), (2, .int .i64 but), (6, .bool false), (12, .bool false)] ⟨rfl, rfl, rfl, rfl, rfl, trivial⟩
    refine hK3 _ _ ?_
    refine wp_cond_false (A.get rfl) ?_
    refine wp_skip ?_
    refine hK2 _ _ ?_
    refine wp_seq_k fun K4 hK4 => ?_
    refine wp_seq_k fun K5 hK5 => ?_
    refine region_seq ?_  -- region 3
    refine L_op A rfl (by decide) rfl (y_assign rfl fun ac A => ?_)
    replace A := A.keep [(0, .slice aa a.length ac'), (1, .slice ba b.length bc), (2, .int .i64 but), (6, .bool false), (7, .int .i64 0), (12, .bool false)] ⟨rfl, rfl, rfl, rfl, rfl, rfl, trivial⟩
    refine hK5 _ _ ?_
    refine wp_block ?_
    replace A := A.keep [(0, .slice aa a.length ac'), (1, .slice ba b.length bc), (2, .int .i64 but), (7, .int .i64 0)] ⟨rfl, rfl, rfl, rfl, trivial⟩
    refine wp_loop_ghost (fun kk ac w' => ∃ (i : Nat), kk + i = a.length ∧ (List.range i).all (rowsAt a b but) = true ∧ Sl 35 ac [(0, .slice aa a.length ac'), (1, .slice ba b.length bc), (2, .int .i64 but), (7, .int .i64 ((i : Nat) : Int))] ∧ St [] w0 w' []) a.length ⟨0, by simp, by simp, A, S⟩ ?_
    clear A S
    rintro kk ac w2 ⟨i, hkk, htk, A, S⟩
    rcases Nat.lt_or_ge i a.length with hi | hi
    · obtain ⟨x, hxi⟩ : ∃ x, a[i]? = some x := ⟨_, List.getElem?_eq_getElem hi⟩
      obtain ⟨y, hyi⟩ : ∃ y, b[i]? = some y := ⟨_, List.getElem?_eq_getElem (by omega)⟩
      obtain ⟨aa, ac2, xa, xc, hva, hca, hsx⟩ := ha.at hxi
      simp only [Value.slice.injEq] at hva; obtain ⟨rfl, -, rfl⟩ := hva
      obtain ⟨ba, bc2, ya, yc, hvb, hcb, hsy⟩ := hb.at hyi
      simp only [Value.slice.injEq] at hvb; obtain ⟨rfl, -, rfl⟩ := hvb
      have hxl := hll x (List.mem_of_getElem? hxi)
      have hr : rowsAt a b but i = (!decide (((i / 2 : Nat) : Int) ≠ but) || (x == y)) := by simp [rowsAt, List.getD_eq_getElem?_getD, hxi, hyi]
      have hnx : (List.range (i + 1)).all (rowsAt a b but) = (!decide (((i / 2 : Nat) : Int) ≠ but) || (x == y)) := by rw [List.range_succ, List.all_append, htk, ← hr]; simp
      by_cases hcase : ((i / 2 : Nat) : Int) = but
      · skip
        refine wp_seq_k fun K6 hK6 => ?_
        refine wp_seq_k fun K7 hK7 => ?_
        refine region_seq ?_  -- region 4
        refine L_op A rfl (by decide) rfl (y_move (A.get (s := 7) rfl) fun ac A => ?_)
        refine L_op A rfl (by decide) rfl (y_move (A.get (s := 0) rfl) fun ac A => ?_)
        refine L_op A rfl (by decide) rfl (y_lenS (e := 29) (by kernel_rfl) (A.get (s := 14) rfl) fun ac A => ?_)
        refine L_op A rfl (by decide) rfl (y_lss (A.get (s := 13) rfl) (A.get (s := 15) rfl) (c := true) (decide_eq_true (by omega)) fun ac A => ?_)
        replace A := A.keep [(0, .slice (some aa) a.length ac'), (1, .slice (some ba) b.length bc), (2, .int .i64 but), (7, .int .i64 (((i : Nat) : Int))), (16, .bool true)] ⟨rfl, rfl, rfl, rfl, rfl, trivial⟩
        refine hK7 _ _ ?_
        refine wp_cond_true (A.get rfl) ?_
        refine wp_skip ?_
        refine hK6 _ _ ?_
        refine wp_seq_k fun K8 hK8 => ?_
        refine wp_block ?_
        refine wp_seq_k fun K9 hK9 => ?_
        refine region_draw A [⟨19, pl (eqv (.int .i64 (((i : Nat) : Int)))), [], [7], none, false⟩, ⟨20, pl (eqv (.int .i64 (((i / 2 : Nat) : Int)))), [0], [], none, false⟩, ⟨21, pl (eqv (.int .i64 but)), [], [2], none, false⟩, ⟨22, pl (eqv (.bool false)), [1, 2], [], none, false⟩, ⟨23, pl (eqv (.bool false)), [3], [], none, false⟩, ⟨24, pl (eqv undef), [4], [0], some (23, true), false⟩, ⟨25, pl (eqv undef), [4], [7], some (23, true), false⟩, ⟨26, pl (eqv undef), [5, 6, 4], [], some (23, true), false⟩, ⟨27, pl (eqv undef), [7, 4], [], some (23, true), false⟩, ⟨28, pl (eqv undef), [4], [1], some (23, true), false⟩, ⟨29, pl (eqv undef), [4], [7], some (23, true), false⟩, ⟨30, pl (eqv undef), [9, 10, 4], [], some (23, true), false⟩, ⟨31, pl (eqv undef), [11, 4], [], some (23, true), false⟩, ⟨32, pl (eqv undef), [8, 12, 4], [], some (23, true), false⟩, ⟨33, pl (eqv undef), [13, 4], [], some (23, true), false⟩, ⟨34, pl (eqv (.bool false)), [4, 14], [], none, false⟩] [] (by kernel_rfl) (by kernel_rfl) (fun d _ _ _ _ h => by cases d <;> exact h) ⟨?_, ?_, ?_, ?_, ?_, ?_, ?_, ?_, ?_, ?_, ?_, ?_, ?_, ?_, ?_, ?_, trivial⟩ ?_  -- region 6
        · refine due_plain fun ρ w1 G hsrc hold => ?_; obtain ⟨o7, -⟩ := hold; exact y_move (o7.trans (A.get (s := 7) rfl)) y_eq
        · refine due_plain fun ρ w1 G hsrc hold => ?_; obtain ⟨⟨_, _, ⟨h19, -⟩, -⟩, -⟩ := hsrc; exact y_quo h19 (G.const _) (by decide) (c := ((i / 2 : Nat) : Int)) (quo_nat i 2 (by omega)) y_eq
        · refine due_plain fun ρ w1 G hsrc hold => ?_; obtain ⟨o2, -⟩ := hold; exact y_move (o2.trans (A.get (s := 2) rfl)) y_eq
        · refine due_plain fun ρ w1 G hsrc hold => ?_; obtain ⟨⟨_, _, ⟨h20, -⟩, -⟩, ⟨_, _, ⟨h21, -⟩, -⟩, -⟩ := hsrc; exact y_neq h20 h21 (c := false) (by simp only [bne_eq_false_iff_eq]; exact hcase) y_eq
        · refine due_plain fun ρ w1 G hsrc hold => ?_; obtain ⟨⟨_, _, ⟨h22, -⟩, -⟩, -⟩ := hsrc; exact y_move h22 y_eq
        · refine due_guard fun ρ w1 G hsrc hold => ?_; obtain ⟨⟨_, _, ⟨h23, -⟩, -⟩, -⟩ := hsrc; obtain ⟨o0, -⟩ := hold; exact ⟨_, h23, (fun h => by cases h), fun _ => ⟨rfl, rfl⟩⟩
        · refine due_guard fun ρ w1 G hsrc hold => ?_; obtain ⟨⟨_, _, ⟨h23, -⟩, -⟩, -⟩ := hsrc; obtain ⟨o7, -⟩ := hold; exact ⟨_, h23, (fun h => by cases h), fun _ => ⟨rfl, rfl⟩⟩
        · refine due_guard fun ρ w1 G hsrc hold => ?_; obtain ⟨⟨_, _, ⟨h24, -⟩, -⟩, ⟨_, _, ⟨h25, -⟩, -⟩, ⟨_, _, ⟨h23, -⟩, -⟩, -⟩ := hsrc; exact ⟨_, h23, (fun h => by cases h), fun _ => ⟨rfl, rfl⟩⟩
        · refine due_guard fun ρ w1 G hsrc hold => ?_; obtain ⟨⟨_, _, ⟨h26, -⟩, -⟩, ⟨_, _, ⟨h23, -⟩, -⟩, -⟩ := hsrc; exact ⟨_, h23, (fun h => by cases h), fun _ => ⟨rfl, rfl⟩⟩
        · refine due_guard fun ρ w1 G hsrc hold => ?_; obtain ⟨⟨_, _, ⟨h23, -⟩, -⟩, -⟩ := hsrc; obtain ⟨o1, -⟩ := hold; exact ⟨_, h23, (fun h => by cases h), fun _ => ⟨rfl, rfl⟩⟩
        · refine due_guard fun ρ w1 G hsrc hold => ?_; obtain ⟨⟨_, _, ⟨h23, -⟩, -⟩, -⟩ := hsrc; obtain ⟨o7, -⟩ := hold; exact ⟨_, h23, (fun h => by cases h), fun _ => ⟨rfl, rfl⟩⟩
        · refine due_guard fun ρ w1 G hsrc hold => ?_; obtain ⟨⟨_, _, ⟨h28, -⟩, -⟩, ⟨_, _, ⟨h29, -⟩, -⟩, ⟨_, _, ⟨h23, -⟩, -⟩, -⟩ := hsrc; exact ⟨_, h23, (fun h => by cases h), fun _ => ⟨rfl, rfl⟩⟩
        · refine due_guard fun ρ w1 G hsrc hold => ?_; obtain ⟨⟨_, _, ⟨h30, -⟩, -⟩, ⟨_, _, ⟨h23, -⟩, -⟩, -⟩ := hsrc; exact ⟨_, h23, (fun h => by cases h), fun _ => ⟨rfl, rfl⟩⟩
        · refine due_guard fun ρ w1 G hsrc hold => ?_; obtain ⟨⟨_, _, ⟨h27, -⟩, -⟩, ⟨_, _, ⟨h31, -⟩, -⟩, ⟨_, _, ⟨h23, -⟩, -⟩, -⟩ := hsrc; exact ⟨_, h23, (fun h => by cases h), fun _ => ⟨rfl, rfl⟩⟩
        · refine due_guard fun ρ w1 G hsrc hold => ?_; obtain ⟨⟨_, _, ⟨h32, -⟩, -⟩, ⟨_, _, ⟨h23, -⟩, -⟩, -⟩ := hsrc; exact ⟨_, h23, (fun h => by cases h), fun _ => ⟨rfl, rfl⟩⟩
        · refine due_plain fun ρ w1 G hsrc hold => ?_; obtain ⟨⟨_, _, ⟨h23, -⟩, -⟩, ⟨_, _, ⟨h33, -⟩, -⟩, -⟩ := hsrc; exact y_pickF h23 (G.const _) y_eq
        rintro _ _ ⟨rfl, rfl⟩ _ _ ⟨rfl, rfl⟩ _ _ ⟨rfl, rfl⟩ _ _ ⟨rfl, rfl⟩ _ _ ⟨rfl, rfl⟩ _ _ ⟨rfl, rfl⟩ _ _ ⟨rfl, rfl⟩ _ _ ⟨rfl, rfl⟩ _ _ ⟨rfl, rfl⟩ _ _ ⟨rfl, rfl⟩ _ _ ⟨rfl, rfl⟩ _ _ ⟨rfl, rfl⟩ _ _ ⟨rfl, rfl⟩ _ _ ⟨rfl, rfl⟩ _ _ ⟨rfl, rfl⟩ _ _ ⟨rfl, rfl⟩
        intro ac w A gG nN
        replace S : St _ _ _ [] := S.new gG nN
        replace A := A.keep [(0, .slice (some aa) a.length ac'), (1, .slice (some ba) b.length bc), (2, .int .i64 but), (7, .int .i64 (((i : Nat) : Int))), (16, .bool true), (34, .bool false)] ⟨rfl, rfl, rfl, rfl, rfl, rfl, trivial⟩
        refine hK9 _ _ ?_
        refine wp_cond_false (A.get rfl) ?_
        refine wp_skip ?_
        refine hK8 _ _ ?_
        refine region_seq ?_  -- region 5
        refine L_op A rfl (by decide) rfl (y_move (A.get (s := 7) rfl) fun ac A => ?_)
        refine L_op A rfl (by decide) rfl (y_add (A.get (s := 17) rfl) rfl (c := ((i + 1 : Nat) : Int)) ((wrap64 (by omega)).trans (by omega)) fun ac A => ?_)
        refine L_op A rfl (by decide) rfl (y_assign (A.get (s := 18) rfl) fun ac A => ?_)
        replace A := A.keep [(0, .slice (some aa) a.length ac'), (1, .slice (some ba) b.length bc), (2, .int .i64 but), (7, .int .i64 (((i + 1 : Nat) : Int))), (16, .bool true), (34, .bool false)] ⟨rfl, rfl, rfl, rfl, rfl, rfl, trivial⟩
        replace A := A.keep [(0, .slice (some aa) a.length ac'), (1, .slice (some ba) b.length bc), (2, .int .i64 but), (7, .int .i64 (((i + 1 : Nat) : Int)))] ⟨rfl, rfl, rfl, rfl, trivial⟩
        exact ⟨kk - 1, by omega, i + 1, by omega, by rw [hnx]; first | (rw [hcase]; simp) | (simp only [ne_eq, hcase, not_true_eq_false, decide_false, Bool.not_false, Bool.true_or]), A, S⟩
      · cases hxy : (x == y) with
        | true =>
          have hcase0 := hcase; have hcase := hxy
          refine wp_seq_k fun K6 hK6 => ?_
          refine wp_seq_k fun K7 hK7 => ?_
          refine region_seq ?_  -- region 4
          refine L_op A rfl (by decide) rfl (y_move (A.get (s := 7) rfl) fun ac A => ?_)
          refine L_op A rfl (by decide) rfl (y_move (A.get (s := 0) rfl) fun ac A => ?_)
          refine L_op A rfl (by decide) rfl (y_lenS (e := 29) (by kernel_rfl) (A.get (s := 14) rfl) fun ac A => ?_)
          refine L_op A rfl (by decide) rfl (y_lss (A.get (s := 13) rfl) (A.get (s := 15) rfl) (c := true) (decide_eq_true (by omega)) fun ac A => ?_)
          replace A := A.keep [(0, .slice (some aa) a.length ac'), (1, .slice (some ba) b.length bc), (2, .int .i64 but), (7, .int .i64 (((i : Nat) : Int))), (16, .bool true)] ⟨rfl, rfl, rfl, rfl, rfl, trivial⟩
          refine hK7 _ _ ?_
          refine wp_cond_true (A.get rfl) ?_
          refine wp_skip ?_
          refine hK6 _ _ ?_
          refine wp_seq_k fun K8 hK8 => ?_
          refine wp_block ?_
          refine wp_seq_k fun K9 hK9 => ?_
          refine region_draw A [⟨19, pl (eqv (.int .i64 (((i : Nat) : Int)))), [], [7], none, false⟩, ⟨20, pl (eqv (.int .i64 (((i / 2 : Nat) : Int)))), [0], [], none, false⟩, ⟨21, pl (eqv (.int .i64 but)), [], [2], none, false⟩, ⟨22, pl (eqv (.bool true)), [1, 2], [], none, false⟩, ⟨23, pl (eqv (.bool true)), [3], [], none, false⟩, ⟨24, pl (eqv (.slice (some aa) a.length ac')), [4], [0], some (23, true), false⟩, ⟨25, pl (eqv (.int .i64 (((i : Nat) : Int)))), [4], [7], some (23, true), false⟩, ⟨26, pl (eqv (.pointer (some (aa.add (((i : Nat) : Int).toNat * 1))))), [5, 6, 4], [], some (23, true), false⟩, ⟨27, pl (eqv (.slice xa x.length xc)), [7, 4], [], some (23, true), false⟩, ⟨28, pl (eqv (.slice (some ba) b.length bc)), [4], [1], some (23, true), false⟩, ⟨29, pl (eqv (.int .i64 (((i : Nat) : Int)))), [4], [7], some (23, true), false⟩, ⟨30, pl (eqv (.pointer (some (ba.add (((i : Nat) : Int).toNat * 1))))), [9, 10, 4], [], some (23, true), false⟩, ⟨31, pl (eqv (.slice ya y.length yc)), [11, 4], [], some (23, true), false⟩, ⟨32, pl (eqv (.bool true)), [8, 12, 4], [], some (23, true), false⟩, ⟨33, pl (eqv (.bool false)), [13, 4], [], some (23, true), false⟩, ⟨34, pl (eqv (.bool false)), [4, 14], [], none, false⟩] [] (by kernel_rfl) (by kernel_rfl) (fun d _ _ _ _ h => by cases d <;> exact h) ⟨?_, ?_, ?_, ?_, ?_, ?_, ?_, ?_, ?_, ?_, ?_, ?_, ?_, ?_, ?_, ?_, trivial⟩ ?_  -- region 6
          · refine due_plain fun ρ w1 G hsrc hold => ?_; obtain ⟨o7, -⟩ := hold; exact y_move (o7.trans (A.get (s := 7) rfl)) y_eq
          · refine due_plain fun ρ w1 G hsrc hold => ?_; obtain ⟨⟨_, _, ⟨h19, -⟩, -⟩, -⟩ := hsrc; exact y_quo h19 (G.const _) (by decide) (c := ((i / 2 : Nat) : Int)) (quo_nat i 2 (by omega)) y_eq
          · refine due_plain fun ρ w1 G hsrc hold => ?_; obtain ⟨o2, -⟩ := hold; exact y_move (o2.trans (A.get (s := 2) rfl)) y_eq
          · refine due_plain fun ρ w1 G hsrc hold => ?_; obtain ⟨⟨_, _, ⟨h20, -⟩, -⟩, ⟨_, _, ⟨h21, -⟩, -⟩, -⟩ := hsrc; exact y_neq h20 h21 (c := true) (by simp only [bne_iff_ne, ne_eq]; exact hcase0) y_eq
          · refine due_plain fun ρ w1 G hsrc hold => ?_; obtain ⟨⟨_, _, ⟨h22, -⟩, -⟩, -⟩ := hsrc; exact y_move h22 y_eq
          · refine due_guard fun ρ w1 G hsrc hold => ?_; obtain ⟨⟨_, _, ⟨h23, -⟩, -⟩, -⟩ := hsrc; obtain ⟨o0, -⟩ := hold; exact ⟨_, h23, (fun _ => y_move (o0.trans (A.get (s := 0) rfl)) y_eq), fun h => absurd rfl h⟩
          · refine due_guard fun ρ w1 G hsrc hold => ?_; obtain ⟨⟨_, _, ⟨h23, -⟩, -⟩, -⟩ := hsrc; obtain ⟨o7, -⟩ := hold; exact ⟨_, h23, (fun _ => y_move (o7.trans (A.get (s := 7) rfl)) y_eq), fun h => absurd rfl h⟩
          · refine due_guard fun ρ w1 G hsrc hold => ?_; obtain ⟨⟨_, _, ⟨h24, -⟩, -⟩, ⟨_, _, ⟨h25, -⟩, -⟩, ⟨_, _, ⟨h23, -⟩, -⟩, -⟩ := hsrc; exact ⟨_, h23, (fun _ => y_indexA (e := 29) (size := 1) (by kernel_rfl) (by kernel_rfl) h24 h25 (by omega) (by omega) y_eq), fun h => absurd rfl h⟩
          · refine due_guard fun ρ w1 G hsrc hold => ?_; obtain ⟨⟨_, _, ⟨h26, -⟩, -⟩, ⟨_, _, ⟨h23, -⟩, -⟩, -⟩ := hsrc; exact ⟨_, h23, (fun _ => y_load (by kernel_rfl) h26 (G.gr.cell' (S.kp.to_gr.cell' hca)) y_eq), fun h => absurd rfl h⟩
          · refine due_guard fun ρ w1 G hsrc hold => ?_; obtain ⟨⟨_, _, ⟨h23, -⟩, -⟩, -⟩ := hsrc; obtain ⟨o1, -⟩ := hold; exact ⟨_, h23, (fun _ => y_move (o1.trans (A.get (s := 1) rfl)) y_eq), fun h => absurd rfl h⟩
          · refine due_guard fun ρ w1 G hsrc hold => ?_; obtain ⟨⟨_, _, ⟨h23, -⟩, -⟩, -⟩ := hsrc; obtain ⟨o7, -⟩ := hold; exact ⟨_, h23, (fun _ => y_move (o7.trans (A.get (s := 7) rfl)) y_eq), fun h => absurd rfl h⟩
          · refine due_guard fun ρ w1 G hsrc hold => ?_; obtain ⟨⟨_, _, ⟨h28, -⟩, -⟩, ⟨_, _, ⟨h29, -⟩, -⟩, ⟨_, _, ⟨h23, -⟩, -⟩, -⟩ := hsrc; exact ⟨_, h23, (fun _ => y_indexA (e := 29) (size := 1) (by kernel_rfl) (by kernel_rfl) h28 h29 (by omega) (by omega) y_eq), fun h => absurd rfl h⟩
          · refine due_guard fun ρ w1 G hsrc hold => ?_; obtain ⟨⟨_, _, ⟨h30, -⟩, -⟩, ⟨_, _, ⟨h23, -⟩, -⟩, -⟩ := hsrc; exact ⟨_, h23, (fun _ => y_load (by kernel_rfl) h30 (G.gr.cell' (S.kp.to_gr.cell' hcb)) y_eq), fun h => absurd rfl h⟩
          · refine due_guard fun ρ w1 G hsrc hold => ?_; obtain ⟨⟨_, _, ⟨h27, -⟩, -⟩, ⟨_, _, ⟨h31, -⟩, -⟩, ⟨_, _, ⟨h23, -⟩, -⟩, -⟩ := hsrc; exact ⟨_, h23, (fun _ => y_call2 (by kernel_rfl) (G.func _) h27 h31 (same_is hxy ((hsx.gr S.kp.to_gr).gr G.gr) ((hsy.gr S.kp.to_gr).gr G.gr) hxl)), fun h => absurd rfl h⟩
          · refine due_guard fun ρ w1 G hsrc hold => ?_; obtain ⟨⟨_, _, ⟨h32, -⟩, -⟩, ⟨_, _, ⟨h23, -⟩, -⟩, -⟩ := hsrc; exact ⟨_, h23, (fun _ => y_not h32 rfl y_eq), fun h => absurd rfl h⟩
          · refine due_plain fun ρ w1 G hsrc hold => ?_; obtain ⟨⟨_, _, ⟨h23, -⟩, -⟩, ⟨_, _, ⟨h33, -⟩, -⟩, -⟩ := hsrc; exact y_pickT h23 h33 y_eq
          rintro _ _ ⟨rfl, rfl⟩ _ _ ⟨rfl, rfl⟩ _ _ ⟨rfl, rfl⟩ _ _ ⟨rfl, rfl⟩ _ _ ⟨rfl, rfl⟩ _ _ ⟨rfl, rfl⟩ _ _ ⟨rfl, rfl⟩ _ _ ⟨rfl, rfl⟩ _ _ ⟨rfl, rfl⟩ _ _ ⟨rfl, rfl⟩ _ _ ⟨rfl, rfl⟩ _ _ ⟨rfl, rfl⟩ _ _ ⟨rfl, rfl⟩ _ _ ⟨rfl, rfl⟩ _ _ ⟨rfl, rfl⟩ _ _ ⟨rfl, rfl⟩
          intro ac w A gG nN
          replace S : St _ _ _ [] := S.new gG nN
          replace A := A.keep [(0, .slice (some aa) a.length ac'), (1, .slice (some ba) b.length bc), (2, .int .i64 but), (7, .int .i64 (((i : Nat) : Int))), (16, .bool true), (34, .bool false)] ⟨rfl, rfl, rfl, rfl, rfl, rfl, trivial⟩
          refine hK9 _ _ ?_
          refine wp_cond_false (A.get rfl) ?_
          refine wp_skip ?_
          refine hK8 _ _ ?_
          refine region_seq ?_  -- region 5
          refine L_op A rfl (by decide) rfl (y_move (A.get (s := 7) rfl) fun ac A => ?_)
          refine L_op A rfl (by decide) rfl (y_add (A.get (s := 17) rfl) rfl (c := ((i + 1 : Nat) : Int)) ((wrap64 (by omega)).trans (by omega)) fun ac A => ?_)
          refine L_op A rfl (by decide) rfl (y_assign (A.get (s := 18) rfl) fun ac A => ?_)
          replace A := A.keep [(0, .slice (some aa) a.length ac'), (1, .slice (some ba) b.length bc), (2, .int .i64 but), (7, .int .i64 (((i + 1 : Nat) : Int))), (16, .bool true), (34, .bool false)] ⟨rfl, rfl, rfl, rfl, rfl, rfl, trivial⟩
          replace A := A.keep [(0, .slice (some aa) a.length ac'), (1, .slice (some ba) b.length bc), (2, .int .i64 but), (7, .int .i64 (((i + 1 : Nat) : Int)))] ⟨rfl, rfl, rfl, rfl, trivial⟩
          exact ⟨kk - 1, by omega, i + 1, by omega, by rw [hnx]; first | (rw [hcase]; simp) | (simp only [ne_eq, hcase, not_true_eq_false, decide_false, Bool.not_false, Bool.true_or]), A, S⟩
        | false =>
          have hne := hxy
          refine wp_seq_k fun K6 hK6 => ?_
          refine wp_seq_k fun K7 hK7 => ?_
          refine region_seq ?_  -- region 4
          refine L_op A rfl (by decide) rfl (y_move (A.get (s := 7) rfl) fun ac A => ?_)
          refine L_op A rfl (by decide) rfl (y_move (A.get (s := 0) rfl) fun ac A => ?_)
          refine L_op A rfl (by decide) rfl (y_lenS (e := 29) (by kernel_rfl) (A.get (s := 14) rfl) fun ac A => ?_)
          refine L_op A rfl (by decide) rfl (y_lss (A.get (s := 13) rfl) (A.get (s := 15) rfl) (c := true) (decide_eq_true (by omega)) fun ac A => ?_)
          replace A := A.keep [(0, .slice (some aa) a.length ac'), (1, .slice (some ba) b.length bc), (2, .int .i64 but), (7, .int .i64 (((i : Nat) : Int))), (16, .bool true)] ⟨rfl, rfl, rfl, rfl, rfl, trivial⟩
          refine hK7 _ _ ?_
          refine wp_cond_true (A.get rfl) ?_
          refine wp_skip ?_
          refine hK6 _ _ ?_
          refine wp_seq_k fun K8 hK8 => ?_
          refine wp_block ?_
          refine wp_seq_k fun K9 hK9 => ?_
          refine region_draw A [⟨19, pl (eqv (.int .i64 (((i : Nat) : Int)))), [], [7], none, false⟩, ⟨20, pl (eqv (.int .i64 (((i / 2 : Nat) : Int)))), [0], [], none, false⟩, ⟨21, pl (eqv (.int .i64 but)), [], [2], none, false⟩, ⟨22, pl (eqv (.bool true)), [1, 2], [], none, false⟩, ⟨23, pl (eqv (.bool true)), [3], [], none, false⟩, ⟨24, pl (eqv (.slice (some aa) a.length ac')), [4], [0], some (23, true), false⟩, ⟨25, pl (eqv (.int .i64 (((i : Nat) : Int)))), [4], [7], some (23, true), false⟩, ⟨26, pl (eqv (.pointer (some (aa.add (((i : Nat) : Int).toNat * 1))))), [5, 6, 4], [], some (23, true), false⟩, ⟨27, pl (eqv (.slice xa x.length xc)), [7, 4], [], some (23, true), false⟩, ⟨28, pl (eqv (.slice (some ba) b.length bc)), [4], [1], some (23, true), false⟩, ⟨29, pl (eqv (.int .i64 (((i : Nat) : Int)))), [4], [7], some (23, true), false⟩, ⟨30, pl (eqv (.pointer (some (ba.add (((i : Nat) : Int).toNat * 1))))), [9, 10, 4], [], some (23, true), false⟩, ⟨31, pl (eqv (.slice ya y.length yc)), [11, 4], [], some (23, true), false⟩, ⟨32, pl (eqv (.bool false)), [8, 12, 4], [], some (23, true), false⟩, ⟨33, pl (eqv (.bool true)), [13, 4], [], some (23, true), false⟩, ⟨34, pl (eqv (.bool true)), [4, 14], [], none, false⟩] [] (by kernel_rfl) (by kernel_rfl) (fun d _ _ _ _ h => by cases d <;> exact h) ⟨?_, ?_, ?_, ?_, ?_, ?_, ?_, ?_, ?_, ?_, ?_, ?_, ?_, ?_, ?_, ?_, trivial⟩ ?_  -- region 6
          · refine due_plain fun ρ w1 G hsrc hold => ?_; obtain ⟨o7, -⟩ := hold; exact y_move (o7.trans (A.get (s := 7) rfl)) y_eq
          · refine due_plain fun ρ w1 G hsrc hold => ?_; obtain ⟨⟨_, _, ⟨h19, -⟩, -⟩, -⟩ := hsrc; exact y_quo h19 (G.const _) (by decide) (c := ((i / 2 : Nat) : Int)) (quo_nat i 2 (by omega)) y_eq
          · refine due_plain fun ρ w1 G hsrc hold => ?_; obtain ⟨o2, -⟩ := hold; exact y_move (o2.trans (A.get (s := 2) rfl)) y_eq
          · refine due_plain fun ρ w1 G hsrc hold => ?_; obtain ⟨⟨_, _, ⟨h20, -⟩, -⟩, ⟨_, _, ⟨h21, -⟩, -⟩, -⟩ := hsrc; exact y_neq h20 h21 (c := true) (by simp only [bne_iff_ne, ne_eq]; exact hcase) y_eq
          · refine due_plain fun ρ w1 G hsrc hold => ?_; obtain ⟨⟨_, _, ⟨h22, -⟩, -⟩, -⟩ := hsrc; exact y_move h22 y_eq
          · refine due_guard fun ρ w1 G hsrc hold => ?_; obtain ⟨⟨_, _, ⟨h23, -⟩, -⟩, -⟩ := hsrc; obtain ⟨o0, -⟩ := hold; exact ⟨_, h23, (fun _ => y_move (o0.trans (A.get (s := 0) rfl)) y_eq), fun h => absurd rfl h⟩
          · refine due_guard fun ρ w1 G hsrc hold => ?_; obtain ⟨⟨_, _, ⟨h23, -⟩, -⟩, -⟩ := hsrc; obtain ⟨o7, -⟩ := hold; exact ⟨_, h23, (fun _ => y_move (o7.trans (A.get (s := 7) rfl)) y_eq), fun h => absurd rfl h⟩
          · refine due_guard fun ρ w1 G hsrc hold => ?_; obtain ⟨⟨_, _, ⟨h24, -⟩, -⟩, ⟨_, _, ⟨h25, -⟩, -⟩, ⟨_, _, ⟨h23, -⟩, -⟩, -⟩ := hsrc; exact ⟨_, h23, (fun _ => y_indexA (e := 29) (size := 1) (by kernel_rfl) (by kernel_rfl) h24 h25 (by omega) (by omega) y_eq), fun h => absurd rfl h⟩
          · refine due_guard fun ρ w1 G hsrc hold => ?_; obtain ⟨⟨_, _, ⟨h26, -⟩, -⟩, ⟨_, _, ⟨h23, -⟩, -⟩, -⟩ := hsrc; exact ⟨_, h23, (fun _ => y_load (by kernel_rfl) h26 (G.gr.cell' (S.kp.to_gr.cell' hca)) y_eq), fun h => absurd rfl h⟩
          · refine due_guard fun ρ w1 G hsrc hold => ?_; obtain ⟨⟨_, _, ⟨h23, -⟩, -⟩, -⟩ := hsrc; obtain ⟨o1, -⟩ := hold; exact ⟨_, h23, (fun _ => y_move (o1.trans (A.get (s := 1) rfl)) y_eq), fun h => absurd rfl h⟩
          · refine due_guard fun ρ w1 G hsrc hold => ?_; obtain ⟨⟨_, _, ⟨h23, -⟩, -⟩, -⟩ := hsrc; obtain ⟨o7, -⟩ := hold; exact ⟨_, h23, (fun _ => y_move (o7.trans (A.get (s := 7) rfl)) y_eq), fun h => absurd rfl h⟩
          · refine due_guard fun ρ w1 G hsrc hold => ?_; obtain ⟨⟨_, _, ⟨h28, -⟩, -⟩, ⟨_, _, ⟨h29, -⟩, -⟩, ⟨_, _, ⟨h23, -⟩, -⟩, -⟩ := hsrc; exact ⟨_, h23, (fun _ => y_indexA (e := 29) (size := 1) (by kernel_rfl) (by kernel_rfl) h28 h29 (by omega) (by omega) y_eq), fun h => absurd rfl h⟩
          · refine due_guard fun ρ w1 G hsrc hold => ?_; obtain ⟨⟨_, _, ⟨h30, -⟩, -⟩, ⟨_, _, ⟨h23, -⟩, -⟩, -⟩ := hsrc; exact ⟨_, h23, (fun _ => y_load (by kernel_rfl) h30 (G.gr.cell' (S.kp.to_gr.cell' hcb)) y_eq), fun h => absurd rfl h⟩
          · refine due_guard fun ρ w1 G hsrc hold => ?_; obtain ⟨⟨_, _, ⟨h27, -⟩, -⟩, ⟨_, _, ⟨h31, -⟩, -⟩, ⟨_, _, ⟨h23, -⟩, -⟩, -⟩ := hsrc; exact ⟨_, h23, (fun _ => y_call2 (by kernel_rfl) (G.func _) h27 h31 (same_is hxy ((hsx.gr S.kp.to_gr).gr G.gr) ((hsy.gr S.kp.to_gr).gr G.gr) hxl)), fun h => absurd rfl h⟩
          · refine due_guard fun ρ w1 G hsrc hold => ?_; obtain ⟨⟨_, _, ⟨h32, -⟩, -⟩, ⟨_, _, ⟨h23, -⟩, -⟩, -⟩ := hsrc; exact ⟨_, h23, (fun _ => y_not h32 rfl y_eq), fun h => absurd rfl h⟩
          · refine due_plain fun ρ w1 G hsrc hold => ?_; obtain ⟨⟨_, _, ⟨h23, -⟩, -⟩, ⟨_, _, ⟨h33, -⟩, -⟩, -⟩ := hsrc; exact y_pickT h23 h33 y_eq
          rintro _ _ ⟨rfl, rfl⟩ _ _ ⟨rfl, rfl⟩ _ _ ⟨rfl, rfl⟩ _ _ ⟨rfl, rfl⟩ _ _ ⟨rfl, rfl⟩ _ _ ⟨rfl, rfl⟩ _ _ ⟨rfl, rfl⟩ _ _ ⟨rfl, rfl⟩ _ _ ⟨rfl, rfl⟩ _ _ ⟨rfl, rfl⟩ _ _ ⟨rfl, rfl⟩ _ _ ⟨rfl, rfl⟩ _ _ ⟨rfl, rfl⟩ _ _ ⟨rfl, rfl⟩ _ _ ⟨rfl, rfl⟩ _ _ ⟨rfl, rfl⟩
          intro ac w A gG nN
          replace S : St _ _ _ [] := S.new gG nN
          replace A := A.keep [(0, .slice (some aa) a.length ac'), (1, .slice (some ba) b.length bc), (2, .int .i64 but), (7, .int .i64 (((i : Nat) : Int))), (16, .bool true), (34, .bool true)] ⟨rfl, rfl, rfl, rfl, rfl, rfl, trivial⟩
          refine hK9 _ _ ?_
          refine wp_cond_true (A.get rfl) ?_
          refine wp_seq_k fun K10 hK10 => ?_
          refine region_seq ?_  -- region 7
          refine L_op A rfl (by decide) rfl (y_assign rfl fun ac A => ?_)
          replace A := A.keep [(0, .slice (some aa) a.length ac'), (1, .slice (some ba) b.length bc), (2, .int .i64 but), (6, .bool false), (7, .int .i64 (((i : Nat) : Int))), (16, .bool true), (34, .bool true)] ⟨rfl, rfl, rfl, rfl, rfl, rfl, rfl, trivial⟩
          refine hK10 _ _ ?_
          exact wp_ret ⟨A.defers, _, res_run (rs := [.tmp 6]) (vs := [.bool false]) rfl ⟨A.get rfl, trivial⟩, ⟨_, rfl, S.kp.to_gr, [], ⟨by rw [show rowsF a b but = false from by simp only [rowsF, Bool.and_eq_false_iff]; right; rw [List.all_eq_false]; exact ⟨i, List.mem_range.2 hi, by rw [hr, hne, decide_eq_true (show ((i / 2 : Nat) : Int) ≠ but from hcase)]; decide⟩], rfl⟩, NewF.nil _ _⟩⟩
    · obtain rfl : i = a.length := by omega
      refine wp_seq_k fun K6 hK6 => ?_
      refine wp_seq_k fun K7 hK7 => ?_
      refine region_seq ?_  -- region 4
      refine L_op A rfl (by decide) rfl (y_move (A.get (s := 7) rfl) fun ac A => ?_)
      refine L_op A rfl (by decide) rfl (y_move (A.get (s := 0) rfl) fun ac A => ?_)
      refine L_op A rfl (by decide) rfl (y_lenS (e := 29) (by kernel_rfl) (A.get (s := 14) rfl) fun ac A => ?_)
      refine L_op A rfl (by decide) rfl (y_lss (A.get (s := 13) rfl) (A.get (s := 15) rfl) (c := false) (decide_eq_false (by omega)) fun ac A => ?_)
      replace A := A.keep [(0, .slice aa a.length ac'), (1, .slice ba b.length bc), (2, .int .i64 but), (7, .int .i64 (((a.length : Nat) : Int))), (16, .bool false)] ⟨rfl, rfl, rfl, rfl, rfl, trivial⟩
      refine hK7 _ _ ?_
      refine wp_cond_false (A.get rfl) ?_
      refine wp_exit ?_
      refine hK4 _ _ ?_
      refine wp_seq_k fun K8 hK8 => ?_
      refine region_seq ?_  -- region 8
      refine L_op A rfl (by decide) rfl (y_assign rfl fun ac A => ?_)
      replace A := A.keep [(0, .slice aa a.length ac'), (1, .slice ba b.length bc), (2, .int .i64 but), (6, .bool true), (7, .int .i64 (((a.length : Nat) : Int))), (16, .bool false)] ⟨rfl, rfl, rfl, rfl, rfl, rfl, trivial⟩
      refine hK8 _ _ ?_
      exact wp_ret ⟨A.defers, _, res_run (rs := [.tmp 6]) (vs := [.bool true]) rfl ⟨A.get rfl, trivial⟩, ⟨_, rfl, S.kp.to_gr, [], ⟨by rw [show rowsF a b but = true from by simp [rowsF, hlen ▸ htk, hlen]], rfl⟩, NewF.nil _ _⟩⟩
  · skip
    refine enter Try.func23 rfl (n := 35) rfl (Nat.le_of_ble_eq_true rfl) fun ac A => ?_
    have S : St _ _ _ [] := St.none w0
    refine wp_seq_k fun K1 hK1 => ?_
    refine region_seq ?_  -- region 0
    refine L_op A rfl (by decide) rfl (y_assign rfl fun ac A => ?_)
    replace A := A.keep [(0, .slice aa a.length ac'), (1, .slice ba b.length bc), (2, .int .i64 but), (6, .bool false)] ⟨rfl, rfl, rfl, rfl, trivial⟩
    refine hK1 _ _ ?_
    refine wp_seq_k fun K2 hK2 => ?_
    refine wp_seq_k fun K3 hK3 => ?_
    refine region_seq ?_  -- region 1
    refine L_op A rfl (by decide) rfl (y_move (A.get (s := 0) rfl) fun ac A => ?_)
    refine L_op A rfl (by decide) rfl (y_lenS (e := 29) (by kernel_rfl) (A.get (s := 8) rfl) fun ac A => ?_)
    refine L_op A rfl (by decide) rfl (y_move (A.get (s := 1) rfl) fun ac A => ?_)
    refine L_op A rfl (by decide) rfl (y_lenS (e := 29) (by kernel_rfl) (A.get (s := 10) rfl) fun ac A => ?_)
    refine L_op A rfl (by decide) rfl (y_neq (A.get (s := 9) rfl) (A.get (s := 11) rfl) (c := true) (by simp; omega) fun ac A => ?_)
    replace A := A.keep [(0, .slice aa a.length ac'), (1, .slice ba b.length bc), (2, .int .i64 but), (6, .bool false), (12, .bool true)] ⟨rfl, rfl, rfl, rfl, rfl, trivial⟩
    refine hK3 _ _ ?_
    refine wp_cond_true (A.get rfl) ?_
    refine wp_seq_k fun K4 hK4 => ?_
    refine region_seq ?_  -- region 2
    refine L_op A rfl (by decide) rfl (y_assign rfl fun ac A => ?_)
    replace A := A.keep [(0, .slice aa a.length ac'), (1, .slice ba b.length bc), (2, .int .i64 but), (6, .bool false), (12, .bool true)] ⟨rfl, rfl, rfl, rfl, rfl, trivial⟩
    refine hK4 _ _ ?_
    exact wp_ret ⟨A.defers, _, res_run (rs := [.tmp 6]) (vs := [.bool false]) rfl ⟨A.get rfl, trivial⟩, ⟨_, rfl, S.kp.to_gr, [], ⟨by rw [show rowsF a b but = false from by simp [rowsF, hlen]], rfl⟩, NewF.nil _ _⟩⟩
end Go.Proofs.Ytaeidblipdjgnaa
