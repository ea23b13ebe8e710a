import Derived.Test.YtaeidblipdjgnaaDouble
import Derived.Test.YtaeidblipdjgnaaBits
namespace Go.Proofs.Ytaeidblipdjgnaa
open Go.RowKit Go.Maps Go.WideMaps

def cap2 (bi bb : Nat) (j : Nat) (bit : Int) : Frag := [(bi, .cells #[.int .i64 j] 3 (0, 0)), (bb, .cells #[.int .i64 bit] 3 (0, 0))]
section
variable {w : World} {qc : Nat} {its : List It} {b bi bt j : Nat} {it : It} {bit : Int} {cs : Array Value} {ba : Option Addr} {bc : Nat}

set_option maxRecDepth 20000 in
set_option maxHeartbeats 2000000 in
theorem spoil1_neg {n : Nat} (hjl : j < its.length) (hb : w.heap[b]? = some (.cells cs 85 (0, 0))) (hbi : w.heap[bi]? = some (.cells #[.int .i64 j] 3 (0, 0))) (hbt : w.heap[bt]? = some (.cells #[.int .i64 bit] 3 (0, 0))) (hn : bit < 0) : Calls Try.prog 57 #[.slice (some ⟨b, 0, none⟩) its.length qc, .pointer (some ⟨bi, 0, none⟩), .pointer (some ⟨bt, 0, none⟩)] w (RetN w (eqv (.tuple #[.slice none 0 0, .int .i64 1]))) := by
  refine enter Try.func57 rfl (n := 45) rfl (Nat.le_of_ble_eq_true rfl) fun _ A => ?_
  have S : St _ _ _ [] := St.none w
  refine wp_seq_k fun K1 hK1 => ?_
  refine region_seq ?_  -- region 0
  refine La A rfl (evc _ _) fun _ A => La A rfl (evc _ _) fun _ A => ?_
  replace A := A.only [5, 4, 2, 1, 0] rfl
  refine hK1 _ _ ?_
  refine wp_seq_k fun K2 hK2 => ?_
  refine region_seq ?_  -- region 1
  refine Lm A rfl (A.g 0 rfl) fun _ A => Lo A rfl (y_load (by kernel_rfl) (A.g 1 rfl) ((cell_of (S.kp.heap' hbi (by simp)) _).trans rfl) fun _ A => ?_)
  refine Lo A rfl (y_indexS (e := 85) (size := 2) (j := j * 2) (by kernel_rfl) (by kernel_rfl) (A.g 7 rfl) (A.g 8 rfl) (by omega) (by omega) (by simp) fun _ A => ?_)
  refine La A rfl (A.g 9 rfl) fun _ A => ?_
  replace A := A.only [6, 5, 4, 2, 1, 0] rfl
  refine hK2 _ _ ?_
  refine wp_seq_k fun K3 hK3 => ?_
  refine wp_block ?_
  refine wp_seq_k fun K4 hK4 => ?_
  refine region_draw A [⟨11, pl (eqv (.int .i64 bit)), [], [2], none, false⟩, ⟨12, pl (eqv (.bool true)), [0], [], none, false⟩, ⟨13, pl (eqv (.bool true)), [1], [], none, false⟩, ⟨14, pl (eqv undef), [2], [2], some (13, false), false⟩, ⟨15, pl (eqv undef), [3, 2], [], some (13, false), false⟩, ⟨16, pl (eqv undef), [2], [6], some (13, false), false⟩, ⟨17, pl (eqv undef), [5, 2], [], some (13, false), false⟩, ⟨18, pl (eqv undef), [6, 2], [], some (13, false), false⟩, ⟨19, pl (eqv undef), [7, 2], [], some (13, false), false⟩, ⟨20, pl (eqv undef), [8, 2], [], some (13, false), false⟩, ⟨21, pl (eqv undef), [4, 9, 2], [], some (13, false), false⟩, ⟨22, pl (eqv (.bool true)), [2, 10], [], none, false⟩, ⟨10, pl (eqv (.bool true)), [11], [], none, false⟩] [] (by kernel_rfl) (by kernel_rfl) (fun d _ _ _ _ h => by cases d <;> exact h) ⟨?_, ?_, ?_, ?_, ?_, ?_, ?_, ?_, ?_, ?_, ?_, ?_, ?_, trivial⟩ ?_  -- region 2
  · refine due_plain fun ρ w1 G hsrc hold => ?_; obtain ⟨o2, -⟩ := hold; exact y_load (by kernel_rfl) (o2.trans (A.g 2 rfl)) ((cell_of (G.gr.heap' (S.kp.heap' hbt (by simp))) _).trans rfl) y_eq
  · refine due_plain fun ρ w1 G hsrc hold => ?_; obtain ⟨⟨_, _, ⟨h11, -⟩, -⟩, -⟩ := hsrc; exact y_lss h11 (G.const _) (c := true) (decide_eq_true hn) y_eq
  · refine due_plain fun ρ w1 G hsrc hold => ?_; obtain ⟨⟨_, _, ⟨h12, -⟩, -⟩, -⟩ := hsrc; exact y_move h12 y_eq
  · refine due_guard fun ρ w1 G hsrc hold => ?_; obtain ⟨⟨_, _, ⟨h13, -⟩, -⟩, -⟩ := hsrc; obtain ⟨o2, -⟩ := hold; exact ⟨_, h13, (fun h => by cases h), fun _ => ⟨rfl, rfl⟩⟩
  · refine due_guard fun ρ w1 G hsrc hold => ?_; obtain ⟨⟨_, _, ⟨h14, -⟩, -⟩, ⟨_, _, ⟨h13, -⟩, -⟩, -⟩ := hsrc; exact ⟨_, h13, (fun h => by cases h), fun _ => ⟨rfl, rfl⟩⟩
  · refine due_guard fun ρ w1 G hsrc hold => ?_; obtain ⟨⟨_, _, ⟨h13, -⟩, -⟩, -⟩ := hsrc; obtain ⟨o6, -⟩ := hold; exact ⟨_, h13, (fun h => by cases h), fun _ => ⟨rfl, rfl⟩⟩
  · refine due_guard fun ρ w1 G hsrc hold => ?_; obtain ⟨⟨_, _, ⟨h16, -⟩, -⟩, ⟨_, _, ⟨h13, -⟩, -⟩, -⟩ := hsrc; exact ⟨_, h13, (fun h => by cases h), fun _ => ⟨rfl, rfl⟩⟩
  · refine due_guard fun ρ w1 G hsrc hold => ?_; obtain ⟨⟨_, _, ⟨h17, -⟩, -⟩, ⟨_, _, ⟨h13, -⟩, -⟩, -⟩ := hsrc; exact ⟨_, h13, (fun h => by cases h), fun _ => ⟨rfl, rfl⟩⟩
  · refine due_guard fun ρ w1 G hsrc hold => ?_; obtain ⟨⟨_, _, ⟨h18, -⟩, -⟩, ⟨_, _, ⟨h13, -⟩, -⟩, -⟩ := hsrc; exact ⟨_, h13, (fun h => by cases h), fun _ => ⟨rfl, rfl⟩⟩
  · refine due_guard fun ρ w1 G hsrc hold => ?_; obtain ⟨⟨_, _, ⟨h19, -⟩, -⟩, ⟨_, _, ⟨h13, -⟩, -⟩, -⟩ := hsrc; exact ⟨_, h13, (fun h => by cases h), fun _ => ⟨rfl, rfl⟩⟩
  · refine due_guard fun ρ w1 G hsrc hold => ?_; obtain ⟨⟨_, _, ⟨h15, -⟩, -⟩, ⟨_, _, ⟨h20, -⟩, -⟩, ⟨_, _, ⟨h13, -⟩, -⟩, -⟩ := hsrc; exact ⟨_, h13, (fun h => by cases h), fun _ => ⟨rfl, rfl⟩⟩
  · refine due_plain fun ρ w1 G hsrc hold => ?_; obtain ⟨⟨_, _, ⟨h13, -⟩, -⟩, ⟨_, _, ⟨h21, -⟩, -⟩, -⟩ := hsrc; exact y_pickT h13 (G.const _) y_eq
  · refine due_plain fun ρ w1 G hsrc hold => ?_; obtain ⟨⟨_, _, ⟨h22, -⟩, -⟩, -⟩ := hsrc; exact y_assign h22 y_eq
  rintro _ _ ⟨rfl, rfl⟩ _ _ ⟨rfl, rfl⟩ _ _ ⟨rfl, rfl⟩ _ _ ⟨rfl, rfl⟩ _ _ ⟨rfl, rfl⟩ _ _ ⟨rfl, rfl⟩ _ _ ⟨rfl, rfl⟩ _ _ ⟨rfl, rfl⟩ _ _ ⟨rfl, rfl⟩ _ _ ⟨rfl, rfl⟩ _ _ ⟨rfl, rfl⟩ _ _ ⟨rfl, rfl⟩ _ _ ⟨rfl, rfl⟩
  intro ac w A gG nN
  replace S : St _ _ _ [] := S.new gG nN
  replace A := A.only [10, 6, 5, 4, 2, 1, 0] rfl
  refine hK4 _ _ ?_
  refine wp_cond_true (A.get rfl) ?_
  refine wp_seq_k fun K5 hK5 => ?_
  refine region_seq ?_  -- region 3
  refine La A rfl (evc _ _) fun _ A => La A rfl (evc _ _) fun _ A => ?_
  replace A := A.only [10, 6, 5, 4, 2, 1, 0] rfl
  refine hK5 _ _ ?_
  exact wp_ret ⟨A.defers, _, res_run (rs := [.tmp 4, .tmp 5]) (vs := [.slice none 0 0, .int .i64 1]) rfl ⟨A.get rfl, A.get rfl, trivial⟩, ⟨_, rfl, S.kp.to_gr, [], ⟨rfl, rfl⟩, NewF.nil _ _⟩⟩

set_option maxRecDepth 20000 in
set_option maxHeartbeats 2000000 in
theorem spoil1_far {n : Nat} (hjl : j < its.length) (hb : w.heap[b]? = some (.cells cs 85 (0, 0))) (hbi : w.heap[bi]? = some (.cells #[.int .i64 j] 3 (0, 0))) (hbt : w.heap[bt]? = some (.cells #[.int .i64 n] 3 (0, 0))) (hn : n ≤ 9223372036854775807) (hcell : cs[j * 2]? = some (.slice ba it.bs.length bc)) (hf : it.bs.length ≤ n / 8) : Calls Try.prog 57 #[.slice (some ⟨b, 0, none⟩) its.length qc, .pointer (some ⟨bi, 0, none⟩), .pointer (some ⟨bt, 0, none⟩)] w (RetN w (eqv (.tuple #[.slice none 0 0, .int .i64 1]))) := by
  refine enter Try.func57 rfl (n := 45) rfl (Nat.le_of_ble_eq_true rfl) fun _ A => ?_
  have S : St _ _ _ [] := St.none w
  refine wp_seq_k fun K1 hK1 => ?_
  refine region_seq ?_  -- region 0
  refine La A rfl (evc _ _) fun _ A => La A rfl (evc _ _) fun _ A => ?_
  replace A := A.only [5, 4, 2, 1, 0] rfl
  refine hK1 _ _ ?_
  refine wp_seq_k fun K2 hK2 => ?_
  refine region_seq ?_  -- region 1
  refine Lm A rfl (A.g 0 rfl) fun _ A => Lo A rfl (y_load (by kernel_rfl) (A.g 1 rfl) ((cell_of (S.kp.heap' hbi (by simp)) _).trans rfl) fun _ A => ?_)
  refine Lo A rfl (y_indexS (e := 85) (size := 2) (j := j * 2) (by kernel_rfl) (by kernel_rfl) (A.g 7 rfl) (A.g 8 rfl) (by omega) (by omega) (by simp) fun _ A => ?_)
  refine La A rfl (A.g 9 rfl) fun _ A => ?_
  replace A := A.only [6, 5, 4, 2, 1, 0] rfl
  refine hK2 _ _ ?_
  refine wp_seq_k fun K3 hK3 => ?_
  refine wp_block ?_
  refine wp_seq_k fun K4 hK4 => ?_
  refine region_draw A [⟨11, pl (eqv (.int .i64 n)), [], [2], none, false⟩, ⟨12, pl (eqv (.bool false)), [0], [], none, false⟩, ⟨13, pl (eqv (.bool false)), [1], [], none, false⟩, ⟨14, pl (eqv (.int .i64 n)), [2], [2], some (13, false), false⟩, ⟨15, pl (eqv (.int .i64 ((n / 8 : Nat)))), [3, 2], [], some (13, false), false⟩, ⟨16, pl (eqv (.pointer (some ⟨b, j * 2, none⟩))), [2], [6], some (13, false), false⟩, ⟨17, pl (eqv (.pointer (some ⟨b, j * 2, none⟩))), [5, 2], [], some (13, false), false⟩, ⟨18, pl (eqv (.pointer (some ⟨b, j * 2, none⟩))), [6, 2], [], some (13, false), false⟩, ⟨19, pl (eqv (.slice ba it.bs.length bc)), [7, 2], [], some (13, false), false⟩, ⟨20, pl (eqv (.int .i64 it.bs.length)), [8, 2], [], some (13, false), false⟩, ⟨21, pl (eqv (.bool true)), [4, 9, 2], [], some (13, false), false⟩, ⟨22, pl (eqv (.bool true)), [2, 10], [], none, false⟩, ⟨10, pl (eqv (.bool true)), [11], [], none, false⟩] [] (by kernel_rfl) (by kernel_rfl) (fun d _ _ _ _ h => by cases d <;> exact h) ⟨?_, ?_, ?_, ?_, ?_, ?_, ?_, ?_, ?_, ?_, ?_, ?_, ?_, trivial⟩ ?_  -- region 2
  · refine due_plain fun ρ w1 G hsrc hold => ?_; obtain ⟨o2, -⟩ := hold; exact y_load (by kernel_rfl) (o2.trans (A.g 2 rfl)) ((cell_of (G.gr.heap' (S.kp.heap' hbt (by simp))) _).trans rfl) y_eq
  · refine due_plain fun ρ w1 G hsrc hold => ?_; obtain ⟨⟨_, _, ⟨h11, -⟩, -⟩, -⟩ := hsrc; exact y_lss h11 (G.const _) (c := false) (decide_eq_false (by omega)) y_eq
  · refine due_plain fun ρ w1 G hsrc hold => ?_; obtain ⟨⟨_, _, ⟨h12, -⟩, -⟩, -⟩ := hsrc; exact y_move h12 y_eq
  · refine due_guard fun ρ w1 G hsrc hold => ?_; obtain ⟨⟨_, _, ⟨h13, -⟩, -⟩, -⟩ := hsrc; obtain ⟨o2, -⟩ := hold; exact ⟨_, h13, (fun _ => y_load (by kernel_rfl) (o2.trans (A.g 2 rfl)) ((cell_of (G.gr.heap' (S.kp.heap' hbt (by simp))) _).trans rfl) y_eq), fun h => absurd rfl h⟩
  · refine due_guard fun ρ w1 G hsrc hold => ?_; obtain ⟨⟨_, _, ⟨h14, -⟩, -⟩, ⟨_, _, ⟨h13, -⟩, -⟩, -⟩ := hsrc; exact ⟨_, h13, (fun _ => y_quo h14 (G.const _) (by decide) (quo_nat n 8 hn) y_eq), fun h => absurd rfl h⟩
  · refine due_guard fun ρ w1 G hsrc hold => ?_; obtain ⟨⟨_, _, ⟨h13, -⟩, -⟩, -⟩ := hsrc; obtain ⟨o6, -⟩ := hold; exact ⟨_, h13, (fun _ => y_move (o6.trans (A.g 6 rfl)) y_eq), fun h => absurd rfl h⟩
  · refine due_guard fun ρ w1 G hsrc hold => ?_; obtain ⟨⟨_, _, ⟨h16, -⟩, -⟩, ⟨_, _, ⟨h13, -⟩, -⟩, -⟩ := hsrc; exact ⟨_, h13, (fun _ => y_nilCheck h16 y_eq), fun h => absurd rfl h⟩
  · refine due_guard fun ρ w1 G hsrc hold => ?_; obtain ⟨⟨_, _, ⟨h17, -⟩, -⟩, ⟨_, _, ⟨h13, -⟩, -⟩, -⟩ := hsrc; exact ⟨_, h13, (fun _ => y_fieldAddr (off := 0) (j := j * 2) (by kernel_rfl) h17 (by first | rfl | omega) y_eq), fun h => absurd rfl h⟩
  · refine due_guard fun ρ w1 G hsrc hold => ?_; obtain ⟨⟨_, _, ⟨h18, -⟩, -⟩, ⟨_, _, ⟨h13, -⟩, -⟩, -⟩ := hsrc; exact ⟨_, h13, (fun _ => y_load (by kernel_rfl) h18 ((cell_of (G.gr.heap' (S.kp.heap' hb (by simp))) _).trans hcell) y_eq), fun h => absurd rfl h⟩
  · refine due_guard fun ρ w1 G hsrc hold => ?_; obtain ⟨⟨_, _, ⟨h19, -⟩, -⟩, ⟨_, _, ⟨h13, -⟩, -⟩, -⟩ := hsrc; exact ⟨_, h13, (fun _ => y_lenS (e := 5) (by kernel_rfl) h19 y_eq), fun h => absurd rfl h⟩
  · refine due_guard fun ρ w1 G hsrc hold => ?_; obtain ⟨⟨_, _, ⟨h15, -⟩, -⟩, ⟨_, _, ⟨h20, -⟩, -⟩, ⟨_, _, ⟨h13, -⟩, -⟩, -⟩ := hsrc; exact ⟨_, h13, (fun _ => y_geq h15 h20 (c := true) (decide_eq_true (by omega)) y_eq), fun h => absurd rfl h⟩
  · refine due_plain fun ρ w1 G hsrc hold => ?_; obtain ⟨⟨_, _, ⟨h13, -⟩, -⟩, ⟨_, _, ⟨h21, -⟩, -⟩, -⟩ := hsrc; exact y_pickF h13 h21 y_eq
  · refine due_plain fun ρ w1 G hsrc hold => ?_; obtain ⟨⟨_, _, ⟨h22, -⟩, -⟩, -⟩ := hsrc; exact y_assign h22 y_eq
  rintro _ _ ⟨rfl, rfl⟩ _ _ ⟨rfl, rfl⟩ _ _ ⟨rfl, rfl⟩ _ _ ⟨rfl, rfl⟩ _ _ ⟨rfl, rfl⟩ _ _ ⟨rfl, rfl⟩ _ _ ⟨rfl, rfl⟩ _ _ ⟨rfl, rfl⟩ _ _ ⟨rfl, rfl⟩ _ _ ⟨rfl, rfl⟩ _ _ ⟨rfl, rfl⟩ _ _ ⟨rfl, rfl⟩ _ _ ⟨rfl, rfl⟩
  intro ac w A gG nN
  replace S : St _ _ _ [] := S.new gG nN
  replace A := A.only [10, 6, 5, 4, 2, 1, 0] rfl
  refine hK4 _ _ ?_
  refine wp_cond_true (A.get rfl) ?_
  refine wp_seq_k fun K5 hK5 => ?_
  refine region_seq ?_  -- region 3
  refine La A rfl (evc _ _) fun _ A => La A rfl (evc _ _) fun _ A => ?_
  replace A := A.only [10, 6, 5, 4, 2, 1, 0] rfl
  refine hK5 _ _ ?_
  exact wp_ret ⟨A.defers, _, res_run (rs := [.tmp 4, .tmp 5]) (vs := [.slice none 0 0, .int .i64 1]) rfl ⟨A.get rfl, A.get rfl, trivial⟩, ⟨_, rfl, S.kp.to_gr, [], ⟨rfl, rfl⟩, NewF.nil _ _⟩⟩

set_option maxRecDepth 20000 in
set_option maxHeartbeats 2000000 in
theorem spoil1_was {n : Nat} (hjl : j < its.length) (hb : w.heap[b]? = some (.cells cs 85 (0, 0))) (hbi : w.heap[bi]? = some (.cells #[.int .i64 j] 3 (0, 0))) (hbt : w.heap[bt]? = some (.cells #[.int .i64 n] 3 (0, 0))) (hn : n ≤ 9223372036854775807) (hcell : cs[j * 2]? = some (.slice ba it.bs.length bc)) (hcell2 : cs[j * 2 + 1]? = some (.bool true)) (hf : n / 8 < it.bs.length) : Calls Try.prog 57 #[.slice (some ⟨b, 0, none⟩) its.length qc, .pointer (some ⟨bi, 0, none⟩), .pointer (some ⟨bt, 0, none⟩)] w (RetN w (eqv (.tuple #[.slice none 0 0, .int .i64 6]))) := by
  refine enter Try.func57 rfl (n := 45) rfl (Nat.le_of_ble_eq_true rfl) fun _ A => ?_
  have S : St _ _ _ [] := St.none w
  refine wp_seq_k fun K1 hK1 => ?_
  refine region_seq ?_  -- region 0
  refine La A rfl (evc _ _) fun _ A => La A rfl (evc _ _) fun _ A => ?_
  replace A := A.only [5, 4, 2, 1, 0] rfl
  refine hK1 _ _ ?_
  refine wp_seq_k fun K2 hK2 => ?_
  refine region_seq ?_  -- region 1
  refine Lm A rfl (A.g 0 rfl) fun _ A => Lo A rfl (y_load (by kernel_rfl) (A.g 1 rfl) ((cell_of (S.kp.heap' hbi (by simp)) _).trans rfl) fun _ A => ?_)
  refine Lo A rfl (y_indexS (e := 85) (size := 2) (j := j * 2) (by kernel_rfl) (by kernel_rfl) (A.g 7 rfl) (A.g 8 rfl) (by omega) (by omega) (by simp) fun _ A => ?_)
  refine La A rfl (A.g 9 rfl) fun _ A => ?_
  replace A := A.only [6, 5, 4, 2, 1, 0] rfl
  refine hK2 _ _ ?_
  refine wp_seq_k fun K3 hK3 => ?_
  refine wp_block ?_
  refine wp_seq_k fun K4 hK4 => ?_
  refine region_draw A [⟨11, pl (eqv (.int .i64 n)), [], [2], none, false⟩, ⟨12, pl (eqv (.bool false)), [0], [], none, false⟩, ⟨13, pl (eqv (.bool false)), [1], [], none, false⟩, ⟨14, pl (eqv (.int .i64 n)), [2], [2], some (13, false), false⟩, ⟨15, pl (eqv (.int .i64 ((n / 8 : Nat)))), [3, 2], [], some (13, false), false⟩, ⟨16, pl (eqv (.pointer (some ⟨b, j * 2, none⟩))), [2], [6], some (13, false), false⟩, ⟨17, pl (eqv (.pointer (some ⟨b, j * 2, none⟩))), [5, 2], [], some (13, false), false⟩, ⟨18, pl (eqv (.pointer (some ⟨b, j * 2, none⟩))), [6, 2], [], some (13, false), false⟩, ⟨19, pl (eqv (.slice ba it.bs.length bc)), [7, 2], [], some (13, false), false⟩, ⟨20, pl (eqv (.int .i64 it.bs.length)), [8, 2], [], some (13, false), false⟩, ⟨21, pl (eqv (.bool false)), [4, 9, 2], [], some (13, false), false⟩, ⟨22, pl (eqv (.bool false)), [2, 10], [], none, false⟩, ⟨10, pl (eqv (.bool false)), [11], [], none, false⟩] [] (by kernel_rfl) (by kernel_rfl) (fun d _ _ _ _ h => by cases d <;> exact h) ⟨?_, ?_, ?_, ?_, ?_, ?_, ?_, ?_, ?_, ?_, ?_, ?_, ?_, trivial⟩ ?_  -- region 2
  · refine due_plain fun ρ w1 G hsrc hold => ?_; obtain ⟨o2, -⟩ := hold; exact y_load (by kernel_rfl) (o2.trans (A.g 2 rfl)) ((cell_of (G.gr.heap' (S.kp.heap' hbt (by simp))) _).trans rfl) y_eq
  · refine due_plain fun ρ w1 G hsrc hold => ?_; obtain ⟨⟨_, _, ⟨h11, -⟩, -⟩, -⟩ := hsrc; exact y_lss h11 (G.const _) (c := false) (decide_eq_false (by omega)) y_eq
  · refine due_plain fun ρ w1 G hsrc hold => ?_; obtain ⟨⟨_, _, ⟨h12, -⟩, -⟩, -⟩ := hsrc; exact y_move h12 y_eq
  · refine due_guard fun ρ w1 G hsrc hold => ?_; obtain ⟨⟨_, _, ⟨h13, -⟩, -⟩, -⟩ := hsrc; obtain ⟨o2, -⟩ := hold; exact ⟨_, h13, (fun _ => y_load (by kernel_rfl) (o2.trans (A.g 2 rfl)) ((cell_of (G.gr.heap' (S.kp.heap' hbt (by simp))) _).trans rfl) y_eq), fun h => absurd rfl h⟩
  · refine due_guard fun ρ w1 G hsrc hold => ?_; obtain ⟨⟨_, _, ⟨h14, -⟩, -⟩, ⟨_, _, ⟨h13, -⟩, -⟩, -⟩ := hsrc; exact ⟨_, h13, (fun _ => y_quo h14 (G.const _) (by decide) (quo_nat n 8 hn) y_eq), fun h => absurd rfl h⟩
  · refine due_guard fun ρ w1 G hsrc hold => ?_; obtain ⟨⟨_, _, ⟨h13, -⟩, -⟩, -⟩ := hsrc; obtain ⟨o6, -⟩ := hold; exact ⟨_, h13, (fun _ => y_move (o6.trans (A.g 6 rfl)) y_eq), fun h => absurd rfl h⟩
  · refine due_guard fun ρ w1 G hsrc hold => ?_; obtain ⟨⟨_, _, ⟨h16, -⟩, -⟩, ⟨_, _, ⟨h13, -⟩, -⟩, -⟩ := hsrc; exact ⟨_, h13, (fun _ => y_nilCheck h16 y_eq), fun h => absurd rfl h⟩
  · refine due_guard fun ρ w1 G hsrc hold => ?_; obtain ⟨⟨_, _, ⟨h17, -⟩, -⟩, ⟨_, _, ⟨h13, -⟩, -⟩, -⟩ := hsrc; exact ⟨_, h13, (fun _ => y_fieldAddr (off := 0) (j := j * 2) (by kernel_rfl) h17 (by first | rfl | omega) y_eq), fun h => absurd rfl h⟩
  · refine due_guard fun ρ w1 G hsrc hold => ?_; obtain ⟨⟨_, _, ⟨h18, -⟩, -⟩, ⟨_, _, ⟨h13, -⟩, -⟩, -⟩ := hsrc; exact ⟨_, h13, (fun _ => y_load (by kernel_rfl) h18 ((cell_of (G.gr.heap' (S.kp.heap' hb (by simp))) _).trans hcell) y_eq), fun h => absurd rfl h⟩
  · refine due_guard fun ρ w1 G hsrc hold => ?_; obtain ⟨⟨_, _, ⟨h19, -⟩, -⟩, ⟨_, _, ⟨h13, -⟩, -⟩, -⟩ := hsrc; exact ⟨_, h13, (fun _ => y_lenS (e := 5) (by kernel_rfl) h19 y_eq), fun h => absurd rfl h⟩
  · refine due_guard fun ρ w1 G hsrc hold => ?_; obtain ⟨⟨_, _, ⟨h15, -⟩, -⟩, ⟨_, _, ⟨h20, -⟩, -⟩, ⟨_, _, ⟨h13, -⟩, -⟩, -⟩ := hsrc; exact ⟨_, h13, (fun _ => y_geq h15 h20 (c := false) (decide_eq_false (by omega)) y_eq), fun h => absurd rfl h⟩
  · refine due_plain fun ρ w1 G hsrc hold => ?_; obtain ⟨⟨_, _, ⟨h13, -⟩, -⟩, ⟨_, _, ⟨h21, -⟩, -⟩, -⟩ := hsrc; exact y_pickF h13 h21 y_eq
  · refine due_plain fun ρ w1 G hsrc hold => ?_; obtain ⟨⟨_, _, ⟨h22, -⟩, -⟩, -⟩ := hsrc; exact y_assign h22 y_eq
  rintro _ _ ⟨rfl, rfl⟩ _ _ ⟨rfl, rfl⟩ _ _ ⟨rfl, rfl⟩ _ _ ⟨rfl, rfl⟩ _ _ ⟨rfl, rfl⟩ _ _ ⟨rfl, rfl⟩ _ _ ⟨rfl, rfl⟩ _ _ ⟨rfl, rfl⟩ _ _ ⟨rfl, rfl⟩ _ _ ⟨rfl, rfl⟩ _ _ ⟨rfl, rfl⟩ _ _ ⟨rfl, rfl⟩ _ _ ⟨rfl, rfl⟩
  intro ac w A gG nN
  replace S : St _ _ _ [] := S.new gG nN
  replace A := A.only [10, 6, 5, 4, 2, 1, 0] rfl
  refine hK4 _ _ ?_
  refine wp_cond_false (A.get rfl) ?_
  refine wp_seq_k fun K5 hK5 => ?_
  refine region_seq ?_  -- region 4
  refine Lm A rfl (A.g 6 rfl) fun _ A => Lo A rfl (y_nilCheck (A.g 24 rfl) fun _ A => ?_)
  refine Lo A rfl (y_fieldAddr (off := 1) (j := j * 2 + 1) (by kernel_rfl) (A.g 25 rfl) (by first | rfl | omega) fun _ A => ?_)
  refine Lo A rfl (y_load (by kernel_rfl) (A.g 26 rfl) ((cell_of (S.kp.heap' hb (by simp)) _).trans hcell2) fun _ A => ?_)
  refine La A rfl (A.g 27 rfl) fun _ A => ?_
  replace A := A.only [23, 10, 6, 5, 4, 2, 1, 0] rfl
  refine hK5 _ _ ?_
  refine wp_cond_true (A.get rfl) ?_
  refine wp_seq_k fun K6 hK6 => ?_
  refine region_seq ?_  -- region 5
  refine La A rfl (evc _ _) fun _ A => La A rfl (evc _ _) fun _ A => ?_
  replace A := A.only [23, 10, 6, 5, 4, 2, 1, 0] rfl
  refine hK6 _ _ ?_
  exact wp_ret ⟨A.defers, _, res_run (rs := [.tmp 4, .tmp 5]) (vs := [.slice none 0 0, .int .i64 6]) rfl ⟨A.get rfl, A.get rfl, trivial⟩, ⟨_, rfl, S.kp.to_gr, [], ⟨rfl, rfl⟩, NewF.nil _ _⟩⟩

theorem itH_set : ∀ (l : List It) (j : Nat) (it it' : It), l[j]? = some it → (itH (l.set j it')).Perm (it'.H ++ itH (l.eraseIdx j))
  | [], _, _, _, h => by simp at h
  | i :: r, 0, it, it', h => by simp [itH]
  | i :: r, j + 1, it, it', h => by
    simp at h
    have := itH_set r j it it' h
    simp only [itH, List.flatMap_cons, List.eraseIdx_cons_succ, List.set_cons_succ] at *
    exact (List.Perm.append_left i.H this).trans (List.perm_append_comm_assoc _ _ _)
def turn (bs : List UInt8) (n : Nat) : List UInt8 := bs.set (n / 8) (flip (bs.getD (n / 8) 0) (n % 8))
theorem turn_length (bs : List UInt8) (n : Nat) : (turn bs n).length = bs.length := by simp [turn]
set_option maxRecDepth 20000 in
set_option maxHeartbeats 4000000 in
theorem spoil1_ok {qa : Option Addr} {HQ : Frag} {n : Nat} (hn : n ≤ 9223372036854775807) (hsl : SlRep 85 2 (.slice qa its.length qc) its.length (itCells its) HQ) (hok : ItOk its) (hj : its[j]? = some it) (hsp : it.sp = false) (hf : n / 8 < it.bs.length)
    (nd : (keys (HQ ++ (itH its ++ cap2 bi bt j n))).Nodup) (hH : Holds w (HQ ++ (itH its ++ cap2 bi bt j n))) :
    Calls Try.prog 57 (#[.slice qa its.length qc] ++ #[.pointer (some ⟨bi, 0, none⟩), .pointer (some ⟨bt, 0, none⟩)]) w (RetW (keys (HQ ++ (itH its ++ cap2 bi bt j n))) w fun r Hr => ∃ HQ' Hb, r = .tuple #[.slice qa its.length qc, .int .i64 0] ∧ SlRep 85 2 (.slice qa its.length qc) (its.set j ⟨it.v, turn it.bs n, true, Hb⟩).length (itCells (its.set j ⟨it.v, turn it.bs n, true, Hb⟩)) HQ' ∧ BRep it.v (turn it.bs n) Hb ∧ Hr = HQ' ++ (itH (its.set j ⟨it.v, turn it.bs n, true, Hb⟩) ++ cap2 bi bt j n)) := by
  have hjl : j < its.length := lt_of_get hj
  have hsl0 := hsl
  obtain ⟨b, cap, cs, hq, rfl, hcs, hncap, htake⟩ := hsl.block (by omega)
  simp only [Value.slice.injEq] at hq
  obtain ⟨rfl, -, rfl⟩ := hq
  have hit := hok it (List.mem_of_getElem? hj)
  obtain ⟨bb, bc, bcs, hbv, hbH, hbcs, hbcap, hbtake⟩ := SlRep.block hit.1 (by omega)
  have hcell : cs[j * 2]? = some (.slice (some ⟨bb, 0, none⟩) it.bs.length bc) := by
    rw [SlRep.cell htake (by omega), itCells_get, show j * 2 / 2 = j by omega, hj]; simp [hbv]
  have hcell2 : cs[j * 2 + 1]? = some (.bool false) := by
    rw [SlRep.cell htake (by omega), itCells_get, show (j * 2 + 1) / 2 = j by omega, hj]; simp [hsp]
  have hcellb : bcs[n / 8]? = some (u8v (it.bs.getD (n / 8) 0)) := by
    rw [SlRep.cell hbtake (by omega)]; simp [hf]
  have S0 := (St.start nd hH).perm (List.Perm.append_left [(b, .cells cs 85 (0, 0))] (List.Perm.append_right (cap2 bi bt j n) (itH_erase its j it hj)))
  rw [hbH] at S0
  show Calls Try.prog 57 #[.slice (some ⟨b, 0, none⟩) its.length qc, .pointer (some ⟨bi, 0, none⟩), .pointer (some ⟨bt, 0, none⟩)] w _
  refine enter Try.func57 rfl (n := 45) rfl (Nat.le_of_ble_eq_true rfl) fun _ A => ?_
  have S : St _ _ _ ([(b, .cells cs 85 (0, 0)), (bi, .cells #[.int .i64 j] 3 (0, 0)), (bt, .cells #[.int .i64 n] 3 (0, 0)), (bb, .cells bcs 5 (0, 0))] ++ itH (its.eraseIdx j)) := S0.perm (by simp only [cap2]; classical rw [List.perm_iff_count]; intro x; simp only [List.count_append, List.count_cons, List.count_nil]; omega)
  refine wp_seq_k fun K1 hK1 => ?_
  refine region_seq ?_  -- region 0
  refine La A rfl (evc _ _) fun _ A => La A rfl (evc _ _) fun _ A => ?_
  replace A := A.only [5, 4, 2, 1, 0] rfl
  refine hK1 _ _ ?_
  refine wp_seq_k fun K2 hK2 => ?_
  refine region_seq ?_  -- region 1
  refine Lm A rfl (A.g 0 rfl) fun _ A => Lo A rfl (y_load (by kernel_rfl) (A.g 1 rfl) ((cell_of (S.get 1 rfl) _).trans rfl) fun _ A => ?_)
  refine Lo A rfl (y_indexS (e := 85) (size := 2) (j := j * 2) (by kernel_rfl) (by kernel_rfl) (A.g 7 rfl) (A.g 8 rfl) (by omega) (by omega) (by simp) fun _ A => ?_)
  refine La A rfl (A.g 9 rfl) fun _ A => ?_
  replace A := A.only [6, 5, 4, 2, 1, 0] rfl
  refine hK2 _ _ ?_
  refine wp_seq_k fun K3 hK3 => ?_
  refine wp_block ?_
  refine wp_seq_k fun K4 hK4 => ?_
  refine region_draw A [⟨11, pl (eqv (.int .i64 n)), [], [2], none, false⟩, ⟨12, pl (eqv (.bool false)), [0], [], none, false⟩, ⟨13, pl (eqv (.bool false)), [1], [], none, false⟩, ⟨14, pl (eqv (.int .i64 n)), [2], [2], some (13, false), false⟩, ⟨15, pl (eqv (.int .i64 ((n / 8 : Nat)))), [3, 2], [], some (13, false), false⟩, ⟨16, pl (eqv (.pointer (some ⟨b, j * 2, none⟩))), [2], [6], some (13, false), false⟩, ⟨17, pl (eqv (.pointer (some ⟨b, j * 2, none⟩))), [5, 2], [], some (13, false), false⟩, ⟨18, pl (eqv (.pointer (some ⟨b, j * 2, none⟩))), [6, 2], [], some (13, false), false⟩, ⟨19, pl (eqv (.slice (some ⟨bb, 0, none⟩) it.bs.length bc)), [7, 2], [], some (13, false), false⟩, ⟨20, pl (eqv (.int .i64 it.bs.length)), [8, 2], [], some (13, false), false⟩, ⟨21, pl (eqv (.bool false)), [4, 9, 2], [], some (13, false), false⟩, ⟨22, pl (eqv (.bool false)), [2, 10], [], none, false⟩, ⟨10, pl (eqv (.bool false)), [11], [], none, false⟩] [] (by kernel_rfl) (by kernel_rfl) (fun d _ _ _ _ h => by cases d <;> exact h) ⟨?_, ?_, ?_, ?_, ?_, ?_, ?_, ?_, ?_, ?_, ?_, ?_, ?_, trivial⟩ ?_  -- region 2
  · refine due_plain fun ρ w1 G hsrc hold => ?_; obtain ⟨o2, -⟩ := hold; exact y_load (by kernel_rfl) (o2.trans (A.g 2 rfl)) ((cell_of (G.gr.heap' (S.get 2 rfl)) _).trans rfl) y_eq
  · refine due_plain fun ρ w1 G hsrc hold => ?_; obtain ⟨⟨_, _, ⟨h11, -⟩, -⟩, -⟩ := hsrc; exact y_lss h11 (G.const _) (c := false) (decide_eq_false (by omega)) y_eq
  · refine due_plain fun ρ w1 G hsrc hold => ?_; obtain ⟨⟨_, _, ⟨h12, -⟩, -⟩, -⟩ := hsrc; exact y_move h12 y_eq
  · refine due_guard fun ρ w1 G hsrc hold => ?_; obtain ⟨⟨_, _, ⟨h13, -⟩, -⟩, -⟩ := hsrc; obtain ⟨o2, -⟩ := hold; exact ⟨_, h13, (fun _ => y_load (by kernel_rfl) (o2.trans (A.g 2 rfl)) ((cell_of (G.gr.heap' (S.get 2 rfl)) _).trans rfl) y_eq), fun h => absurd rfl h⟩
  · refine due_guard fun ρ w1 G hsrc hold => ?_; obtain ⟨⟨_, _, ⟨h14, -⟩, -⟩, ⟨_, _, ⟨h13, -⟩, -⟩, -⟩ := hsrc; exact ⟨_, h13, (fun _ => y_quo h14 (G.const _) (by decide) (quo_nat n 8 hn) y_eq), fun h => absurd rfl h⟩
  · refine due_guard fun ρ w1 G hsrc hold => ?_; obtain ⟨⟨_, _, ⟨h13, -⟩, -⟩, -⟩ := hsrc; obtain ⟨o6, -⟩ := hold; exact ⟨_, h13, (fun _ => y_move (o6.trans (A.g 6 rfl)) y_eq), fun h => absurd rfl h⟩
  · refine due_guard fun ρ w1 G hsrc hold => ?_; obtain ⟨⟨_, _, ⟨h16, -⟩, -⟩, ⟨_, _, ⟨h13, -⟩, -⟩, -⟩ := hsrc; exact ⟨_, h13, (fun _ => y_nilCheck h16 y_eq), fun h => absurd rfl h⟩
  · refine due_guard fun ρ w1 G hsrc hold => ?_; obtain ⟨⟨_, _, ⟨h17, -⟩, -⟩, ⟨_, _, ⟨h13, -⟩, -⟩, -⟩ := hsrc; exact ⟨_, h13, (fun _ => y_fieldAddr (off := 0) (j := j * 2) (by kernel_rfl) h17 (by first | rfl | omega) y_eq), fun h => absurd rfl h⟩
  · refine due_guard fun ρ w1 G hsrc hold => ?_; obtain ⟨⟨_, _, ⟨h18, -⟩, -⟩, ⟨_, _, ⟨h13, -⟩, -⟩, -⟩ := hsrc; exact ⟨_, h13, (fun _ => y_load (by kernel_rfl) h18 ((cell_of (G.gr.heap' (S.get 0 rfl)) _).trans hcell) y_eq), fun h => absurd rfl h⟩
  · refine due_guard fun ρ w1 G hsrc hold => ?_; obtain ⟨⟨_, _, ⟨h19, -⟩, -⟩, ⟨_, _, ⟨h13, -⟩, -⟩, -⟩ := hsrc; exact ⟨_, h13, (fun _ => y_lenS (e := 5) (by kernel_rfl) h19 y_eq), fun h => absurd rfl h⟩
  · refine due_guard fun ρ w1 G hsrc hold => ?_; obtain ⟨⟨_, _, ⟨h15, -⟩, -⟩, ⟨_, _, ⟨h20, -⟩, -⟩, ⟨_, _, ⟨h13, -⟩, -⟩, -⟩ := hsrc; exact ⟨_, h13, (fun _ => y_geq h15 h20 (c := false) (decide_eq_false (by omega)) y_eq), fun h => absurd rfl h⟩
  · refine due_plain fun ρ w1 G hsrc hold => ?_; obtain ⟨⟨_, _, ⟨h13, -⟩, -⟩, ⟨_, _, ⟨h21, -⟩, -⟩, -⟩ := hsrc; exact y_pickF h13 h21 y_eq
  · refine due_plain fun ρ w1 G hsrc hold => ?_; obtain ⟨⟨_, _, ⟨h22, -⟩, -⟩, -⟩ := hsrc; exact y_assign h22 y_eq
  rintro _ _ ⟨rfl, rfl⟩ _ _ ⟨rfl, rfl⟩ _ _ ⟨rfl, rfl⟩ _ _ ⟨rfl, rfl⟩ _ _ ⟨rfl, rfl⟩ _ _ ⟨rfl, rfl⟩ _ _ ⟨rfl, rfl⟩ _ _ ⟨rfl, rfl⟩ _ _ ⟨rfl, rfl⟩ _ _ ⟨rfl, rfl⟩ _ _ ⟨rfl, rfl⟩ _ _ ⟨rfl, rfl⟩ _ _ ⟨rfl, rfl⟩
  intro ac w A gG nN
  replace S : St _ _ _ ([(b, .cells cs 85 (0, 0)), (bi, .cells #[.int .i64 j] 3 (0, 0)), (bt, .cells #[.int .i64 n] 3 (0, 0)), (bb, .cells bcs 5 (0, 0))] ++ (itH (its.eraseIdx j))) := (S.new gG nN).perm (by first | exact .refl _ | (rw [List.append_assoc]; exact .refl _) | (simp only [List.append_assoc, List.nil_append, List.append_nil]; exact .refl _))
  replace A := A.only [10, 6, 5, 4, 2, 1, 0] rfl
  refine hK4 _ _ ?_
  refine wp_cond_false (A.get rfl) ?_
  refine wp_seq_k fun K5 hK5 => ?_
  refine region_seq ?_  -- region 4
  refine Lm A rfl (A.g 6 rfl) fun _ A => Lo A rfl (y_nilCheck (A.g 24 rfl) fun _ A => ?_)
  refine Lo A rfl (y_fieldAddr (off := 1) (j := j * 2 + 1) (by kernel_rfl) (A.g 25 rfl) (by first | rfl | omega) fun _ A => ?_)
  refine Lo A rfl (y_load (by kernel_rfl) (A.g 26 rfl) ((cell_of (S.get 0 rfl) _).trans hcell2) fun _ A => ?_)
  refine La A rfl (A.g 27 rfl) fun _ A => ?_
  replace A := A.only [23, 10, 6, 5, 4, 2, 1, 0] rfl
  refine hK5 _ _ ?_
  refine wp_cond_false (A.get rfl) ?_
  refine wp_skip ?_
  refine hK3 _ _ ?_
  refine wp_seq_k fun K6 hK6 => ?_
  refine region_draw A [⟨28, pl (eqv (.pointer (some ⟨b, j * 2, none⟩))), [], [6], none, false⟩, ⟨29, pl (eqv (.pointer (some ⟨b, j * 2, none⟩))), [0], [], none, false⟩, ⟨30, pl (eqv (.pointer (some ⟨b, j * 2, none⟩))), [1], [], none, false⟩, ⟨31, pl (eqv (.slice (some ⟨bb, 0, none⟩) it.bs.length bc)), [2], [], none, false⟩, ⟨32, pl (eqv (.int .i64 n)), [], [2], none, false⟩, ⟨33, pl (eqv (.int .i64 ((n / 8 : Nat)))), [4], [], none, false⟩, ⟨34, pl (eqv (.pointer (some ⟨bb, (n / 8), none⟩))), [3, 5], [], none, false⟩, ⟨35, pl (eqv (u8v (it.bs.getD (n / 8) 0))), [6], [], none, false⟩, ⟨36, pl (eqv (.int .i64 n)), [], [2], none, false⟩, ⟨37, pl (eqv (.int .i64 ((n % 8 : Nat)))), [8], [], none, false⟩, ⟨38, pl (eqv (.int .u8 ((2 ^ (n % 8) : Nat)))), [9], [], none, false⟩, ⟨39, pl (eqv (u8v (flip (it.bs.getD (n / 8) 0) (n % 8)))), [7, 10], [], none, false⟩, ⟨40, pl (eqv (.pointer (some ⟨bb, (n / 8), none⟩))), [3, 5], [], none, false⟩] [(13, false)] (by kernel_rfl) (by kernel_rfl) (fun d _ _ _ _ h => by cases d <;> exact h) ⟨?_, ?_, ?_, ?_, ?_, ?_, ?_, ?_, ?_, ?_, ?_, ?_, ?_, trivial⟩ ?_  -- region 6
  · refine due_plain fun ρ w1 G hsrc hold => ?_; obtain ⟨o6, -⟩ := hold; exact y_move (o6.trans (A.g 6 rfl)) y_eq
  · refine due_plain fun ρ w1 G hsrc hold => ?_; obtain ⟨⟨_, _, ⟨h28, -⟩, -⟩, -⟩ := hsrc; exact y_nilCheck h28 y_eq
  · refine due_plain fun ρ w1 G hsrc hold => ?_; obtain ⟨⟨_, _, ⟨h29, -⟩, -⟩, -⟩ := hsrc; exact y_fieldAddr (off := 0) (j := j * 2) (by kernel_rfl) h29 (by first | rfl | omega) y_eq
  · refine due_plain fun ρ w1 G hsrc hold => ?_; obtain ⟨⟨_, _, ⟨h30, -⟩, -⟩, -⟩ := hsrc; exact y_load (by kernel_rfl) h30 ((cell_of (G.gr.heap' (S.get 0 rfl)) _).trans hcell) y_eq
  · refine due_plain fun ρ w1 G hsrc hold => ?_; obtain ⟨o2, -⟩ := hold; exact y_load (by kernel_rfl) (o2.trans (A.g 2 rfl)) ((cell_of (G.gr.heap' (S.get 2 rfl)) _).trans rfl) y_eq
  · refine due_plain fun ρ w1 G hsrc hold => ?_; obtain ⟨⟨_, _, ⟨h32, -⟩, -⟩, -⟩ := hsrc; exact y_quo h32 (G.const _) (by decide) (quo_nat n 8 hn) y_eq
  · refine due_plain fun ρ w1 G hsrc hold => ?_; obtain ⟨⟨_, _, ⟨h31, -⟩, -⟩, ⟨_, _, ⟨h33, -⟩, -⟩, -⟩ := hsrc; exact y_indexS (e := 5) (size := 1) (j := n / 8) (by kernel_rfl) (by kernel_rfl) h31 h33 (by omega) (by omega) (by simp; rfl) y_eq
  · refine due_plain fun ρ w1 G hsrc hold => ?_; obtain ⟨⟨_, _, ⟨h34, -⟩, -⟩, -⟩ := hsrc; exact y_load (by kernel_rfl) h34 ((cell_of (G.gr.heap' (S.get 3 rfl)) _).trans hcellb) y_eq
  · refine due_plain fun ρ w1 G hsrc hold => ?_; obtain ⟨o2, -⟩ := hold; exact y_load (by kernel_rfl) (o2.trans (A.g 2 rfl)) ((cell_of (G.gr.heap' (S.get 2 rfl)) _).trans rfl) y_eq
  · refine due_plain fun ρ w1 G hsrc hold => ?_; obtain ⟨⟨_, _, ⟨h36, -⟩, -⟩, -⟩ := hsrc; exact y_rem h36 (G.const _) (by decide) (rem_nat n 8) y_eq
  · refine due_plain fun ρ w1 G hsrc hold => ?_; obtain ⟨⟨_, _, ⟨h37, -⟩, -⟩, -⟩ := hsrc; exact y_shl (G.const _) h37 (by omega) (shl_u8 (n % 8) (by omega)) y_eq
  · refine due_plain fun ρ w1 G hsrc hold => ?_; obtain ⟨⟨_, _, ⟨h35, -⟩, -⟩, ⟨_, _, ⟨h38, -⟩, -⟩, -⟩ := hsrc; exact y_xor h35 h38 (xor_u8 _ (n % 8) (by omega)) y_eq
  · refine due_plain fun ρ w1 G hsrc hold => ?_; obtain ⟨⟨_, _, ⟨h31, -⟩, -⟩, ⟨_, _, ⟨h33, -⟩, -⟩, -⟩ := hsrc; exact y_indexS (e := 5) (size := 1) (j := n / 8) (by kernel_rfl) (by kernel_rfl) h31 h33 (by omega) (by omega) (by simp; rfl) y_eq
  rintro _ _ ⟨rfl, rfl⟩ _ _ ⟨rfl, rfl⟩ _ _ ⟨rfl, rfl⟩ _ _ ⟨rfl, rfl⟩ _ _ ⟨rfl, rfl⟩ _ _ ⟨rfl, rfl⟩ _ _ ⟨rfl, rfl⟩ _ _ ⟨rfl, rfl⟩ _ _ ⟨rfl, rfl⟩ _ _ ⟨rfl, rfl⟩ _ _ ⟨rfl, rfl⟩ _ _ ⟨rfl, rfl⟩ _ _ ⟨rfl, rfl⟩
  intro ac w A gG nN
  replace S : St _ _ _ ([(b, .cells cs 85 (0, 0)), (bi, .cells #[.int .i64 j] 3 (0, 0)), (bt, .cells #[.int .i64 n] 3 (0, 0)), (bb, .cells bcs 5 (0, 0))] ++ (itH (its.eraseIdx j))) := (S.new gG nN).perm (by first | exact .refl _ | (rw [List.append_assoc]; exact .refl _) | (simp only [List.append_assoc, List.nil_append, List.append_nil]; exact .refl _))
  refine L_opN A rfl rfl (y_store 1 (by kernel_rfl) (A.g 40 rfl) (A.g 39 rfl) (S.get 3 rfl) rfl (by omega) (one_all rfl) ?_)
  replace S : St _ _ _ ([(b, .cells cs 85 (0, 0)), (bi, .cells #[.int .i64 j] 3 (0, 0)), (bt, .cells #[.int .i64 n] 3 (0, 0)), (bb, .cells (setCs bcs (n / 8) [u8v (flip (it.bs.getD (n / 8) 0) (n % 8))]) 5 (0, 0))] ++ (itH (its.eraseIdx j))) := S.setAt 3 rfl _
  replace A := A.only [23, 10, 6, 5, 4, 2, 1, 0] rfl
  refine hK6 _ _ ?_
  refine wp_seq_k fun K7 hK7 => ?_
  refine region_seq ?_  -- region 7
  refine Lm A rfl (A.g 6 rfl) fun _ A => Lo A rfl (y_nilCheck (A.g 41 rfl) fun _ A => ?_)
  refine Lo A rfl (y_fieldAddr (off := 1) (j := j * 2 + 1) (by kernel_rfl) (A.g 42 rfl) (by first | rfl | omega) fun _ A => ?_)
  refine L_opN A rfl rfl (y_store 1 (by kernel_rfl) (A.g 43 rfl) rfl (S.get 0 rfl) rfl (by omega) (one_all rfl) ?_)
  replace S : St _ _ _ ([(b, .cells (setCs cs (j * 2 + 1) [.bool true]) 85 (0, 0)), (bi, .cells #[.int .i64 j] 3 (0, 0)), (bt, .cells #[.int .i64 n] 3 (0, 0)), (bb, .cells (setCs bcs (n / 8) [u8v (flip (it.bs.getD (n / 8) 0) (n % 8))]) 5 (0, 0))] ++ (itH (its.eraseIdx j))) := S.setAt 0 rfl _
  replace A := A.only [23, 10, 6, 5, 4, 2, 1, 0] rfl
  refine hK7 _ _ ?_
  refine wp_seq_k fun K8 hK8 => ?_
  refine region_seq ?_  -- region 8
  refine Lm A rfl (A.g 0 rfl) fun _ A => La A rfl (A.g 44 rfl) fun _ A => La A rfl (evc _ _) fun _ A => ?_
  replace A := A.only [23, 10, 6, 5, 4, 2, 1, 0] rfl
  refine hK8 _ _ ?_
  have hlen2 : (its.set j ⟨it.v, turn it.bs n, true, [(bb, .cells (setCs bcs (n / 8) [u8v (flip (it.bs.getD (n / 8) 0) (n % 8))]) 5 (0, 0))]⟩).length = its.length := List.length_set
  have S' := S.perm (List.Perm.append_left [(b, .cells (setCs cs (j * 2 + 1) [.bool true]) 85 (0, 0))] (t₁ := [(bi, .cells #[.int .i64 j] 3 (0, 0)), (bt, .cells #[.int .i64 n] 3 (0, 0)), (bb, .cells (setCs bcs (n / 8) [u8v (flip (it.bs.getD (n / 8) 0) (n % 8))]) 5 (0, 0))] ++ itH (its.eraseIdx j)) (t₂ := itH (its.set j ⟨it.v, turn it.bs n, true, [(bb, .cells (setCs bcs (n / 8) [u8v (flip (it.bs.getD (n / 8) 0) (n % 8))]) 5 (0, 0))]⟩) ++ cap2 bi bt j n) (List.Perm.trans (by simp only [cap2]; classical rw [List.perm_iff_count]; intro x; simp only [List.count_append, List.count_cons, List.count_nil]; omega) (List.Perm.append_right (cap2 bi bt j n) (itH_set its j it ⟨it.v, turn it.bs n, true, [(bb, .cells (setCs bcs (n / 8) [u8v (flip (it.bs.getD (n / 8) 0) (n % 8))]) 5 (0, 0))]⟩ hj).symm)))
  refine wp_ret ⟨A.defers, _, res_run (rs := [.tmp 4, .tmp 5]) (vs := [.slice (some ⟨b, 0, none⟩) its.length qc, .int .i64 0]) rfl ⟨A.get rfl, A.get rfl, trivial⟩, ⟨_, _, rfl, ⟨_, _, rfl, ⟨itCells_length _, Or.inr ⟨b, qc, _, by rw [hlen2], rfl, by rw [setCs_size, hcs], by omega, ?_⟩⟩, ⟨by simp, Or.inr ⟨bb, bc, _, by rw [turn_length]; exact hbv, rfl, by rw [setCs_size, hbcs], by rw [turn_length]; exact hbcap, ?_⟩⟩, rfl⟩, S'⟩⟩
  · apply List.ext_getElem?; intro m; rw [List.getElem?_take, itCells_get, hlen2]
    by_cases hm : m < its.length * 2
    · rw [if_pos hm, Array.getElem?_toList, setCs_get _ _ _ _ (by simp; omega), List.getElem?_set]
      by_cases h2 : m = j * 2 + 1
      · subst h2; rw [if_pos (by simp), if_pos (by omega), if_pos hjl]; simp
      · rw [if_neg (by simp; omega), SlRep.cell htake (by omega), itCells_get]
        by_cases h3 : j = m / 2
        · have h4 : m % 2 = 0 := by omega
          subst h3; rw [if_pos rfl, if_pos hjl, hj]; simp [h4]
        · rw [if_neg h3]
    · rw [if_neg hm, List.getElem?_eq_none (by rw [hlen2]; omega)]; rfl
  · apply List.ext_getElem?; intro m; rw [List.getElem?_take, turn_length]
    by_cases hm : m < it.bs.length * 1
    · rw [if_pos hm, Array.getElem?_toList, setCs_get _ _ _ _ (by simp; omega)]
      unfold turn; rw [List.map_set, List.getElem?_set]
      by_cases h2 : n / 8 = m
      · subst h2; rw [if_pos (by simp), if_pos rfl, if_pos (by simp; omega)]; simp
      · rw [if_neg (by simp; omega), if_neg h2, SlRep.cell hbtake (by omega)]
    · rw [if_neg hm, List.getElem?_eq_none (by simp [turn]; omega)]
end
end Go.Proofs.Ytaeidblipdjgnaa
