import Derived.Test.YtaeidblipdjgnaaPlayed
import Derived.Test.YtaeidblipdjgnaaBits2
namespace Go.Proofs.Ytaeidblipdjgnaa
open Go.RowKit

/-- how many bits are set -/
def popc (n : Nat) : Nat := if h : n = 0 then 0 else n % 2 + popc (n / 2)
termination_by n
decreasing_by omega
theorem popc_zero : popc 0 = 0 := by unfold popc; simp
theorem popc_pos {n : Nat} (h : 0 < n) : popc n = n % 2 + popc (n / 2) := by
  rw [popc, dif_neg (by omega)]
theorem fdiv2 (n : Nat) : Int.fdiv (n : Int) (2 ^ (min (Int.toNat 1) IntKind.u8.bits)) = ((n / 2 : Nat) : Int) := by
  show Int.fdiv (n : Int) 2 = _
  rw [Int.fdiv_eq_ediv_of_nonneg _ (by decide)]; omega
theorem popc_le (n : Nat) : popc n ≤ n := by
  induction n using Nat.strongRecOn with
  | _ n ih =>
    rcases Nat.eq_zero_or_pos n with rfl | h
    · rw [popc_zero]; omega
    · rw [popc_pos h]; have := ih (n / 2) (by omega); omega
def bitAt (a b : List UInt8) (i : Nat) : Nat := popc ((a.getD i 0 ^^^ b.getD i 0).toNat)
def bitsTo (a b : List UInt8) : Nat → Nat
  | 0 => 0
  | i + 1 => bitsTo a b i + bitAt a b i
theorem bitsTo_le (a b : List UInt8) : ∀ i, bitsTo a b i ≤ 256 * i
  | 0 => by simp [bitsTo]
  | i + 1 => by
    have := bitsTo_le a b i
    have h1 := popc_le ((a.getD i 0 ^^^ b.getD i 0).toNat)
    have h2 := (a.getD i 0 ^^^ b.getD i 0).toNat_lt
    simp only [bitsTo, bitAt] at *; omega
def nearF (a b : List UInt8) : Bool := a.length == b.length && decide (bitsTo a b a.length ≤ 1)

set_option maxRecDepth 20000 in
set_option maxHeartbeats 8000000 in
theorem near_ok {w0 : World} {v : Value} {a b : List UInt8} (hs : BSrc w0 v a) (ha : a.length ≤ 1000000) (hb : b.length ≤ 1000000000) : Calls Try.prog 18 #[v, strv b] w0 (RetN w0 (eqv (.bool (nearF a b)))) := by
  obtain ⟨va, vc, rfl⟩ := hs.slice
  show Calls Try.prog 18 #[.slice va a.length vc, .string ⟨b.toArray⟩] w0 _
  by_cases hlen : a.length = b.length
  · skip
    refine enter Try.func18 rfl (n := 38) rfl (Nat.le_of_ble_eq_true rfl) fun ac A => ?_
    have S : St _ _ _ [] := St.none w0
    refine wp_seq_k fun K1 hK1 => ?_
    refine region_seq ?_  -- region 0
    refine L_op A rfl (by decide) rfl (y_assign rfl fun ac A => ?_)
    replace A := A.keep [(0, .slice va a.length vc), (1, .string ⟨b.toArray⟩), (4, .bool false)] ⟨rfl, rfl, rfl, trivial⟩
    refine hK1 _ _ ?_
    refine wp_seq_k fun K2 hK2 => ?_
    refine wp_seq_k fun K3 hK3 => ?_
    refine region_seq ?_  -- region 1
    refine L_op A rfl (by decide) rfl (y_move (A.get (s := 0) rfl) fun ac A => ?_)
    refine L_op A rfl (by decide) rfl (y_lenS (e := 5) (by kernel_rfl) (A.get (s := 8) rfl) fun ac A => ?_)
    refine L_op A rfl (by decide) rfl (y_move (A.get (s := 1) rfl) fun ac A => ?_)
    refine L_op A rfl (by decide) rfl (y_lenStr (by kernel_rfl) (A.get (s := 10) rfl) fun ac A => ?_)
    refine L_op A rfl (by decide) rfl (y_neq (A.get (s := 9) rfl) (A.get (s := 11) rfl) (c := false) (by simp [hlen]) fun ac A => ?_)
    replace A := A.keep [(0, .slice va a.length vc), (1, .string ⟨b.toArray⟩), (4, .bool false), (12, .bool false)] ⟨rfl, rfl, rfl, rfl, trivial⟩
    refine hK3 _ _ ?_
    refine wp_cond_false (A.get rfl) ?_
    refine wp_skip ?_
    refine hK2 _ _ ?_
    refine wp_seq_k fun K4 hK4 => ?_
    refine region_seq ?_  -- region 3
    refine L_op A rfl (by decide) rfl (y_assign rfl fun ac A => ?_)
    replace A := A.keep [(0, .slice va a.length vc), (1, .string ⟨b.toArray⟩), (4, .bool false), (5, .int .i64 0), (12, .bool false)] ⟨rfl, rfl, rfl, rfl, rfl, trivial⟩
    refine hK4 _ _ ?_
    refine wp_seq_k fun K5 hK5 => ?_
    refine wp_seq_k fun K6 hK6 => ?_
    refine region_seq ?_  -- region 4
    refine L_op A rfl (by decide) rfl (y_assign rfl fun ac A => ?_)
    replace A := A.keep [(0, .slice va a.length vc), (1, .string ⟨b.toArray⟩), (4, .bool false), (5, .int .i64 0), (6, .int .i64 0), (12, .bool false)] ⟨rfl, rfl, rfl, rfl, rfl, rfl, trivial⟩
    refine hK6 _ _ ?_
    refine wp_block ?_
    replace A := A.keep [(0, .slice va a.length vc), (1, .string ⟨b.toArray⟩), (5, .int .i64 0), (6, .int .i64 0)] ⟨rfl, rfl, rfl, rfl, trivial⟩
    refine wp_loop_ghost (fun kk ac w' => ∃ (i : Nat), kk + i = a.length ∧ Sl 38 ac [(0, .slice va a.length vc), (1, .string ⟨b.toArray⟩), (5, .int .i64 ((bitsTo a b i : Nat) : Int)), (6, .int .i64 ((i : Nat) : Int))] ∧ St [] w0 w' []) a.length ⟨0, by simp, A, S⟩ ?_
    clear A S
    rintro kk ac w2 ⟨i, hkk, A, S⟩
    rcases Nat.lt_or_ge i a.length with hi | hi
    · obtain ⟨x, hxi⟩ : ∃ x, a[i]? = some x := ⟨_, List.getElem?_eq_getElem hi⟩
      obtain ⟨y, hyi⟩ : ∃ y, b[i]? = some y := ⟨_, List.getElem?_eq_getElem (by omega)⟩
      obtain ⟨va, vc, hva, hcell⟩ : ∃ va' vc', Value.slice va a.length vc = .slice (some va') a.length vc' ∧ w0.cell? (va'.add (((i : Nat) : Int).toNat * 1)) = some (.int .u8 x.toNat) := by
        obtain ⟨va', vc', hv, hc⟩ := Src.row hs hi
        have := hc 0 (by omega) (by simp; omega)
        refine ⟨va', vc', hv, ?_⟩
        rw [Addr.add_add'] at this; simp only [Int.toNat_natCast]; rw [show i * 1 = i * 1 + 0 by omega, this]; simp only [Nat.mul_one, Nat.add_zero, List.getElem_map, u8v]; rw [List.getElem?_eq_getElem hi] at hxi; rw [Option.some.inj hxi]
      simp only [Value.slice.injEq] at hva; obtain ⟨rfl, -, rfl⟩ := hva
      have hbi : bitAt a b i = popc ((x ^^^ y).toNat) := by simp [bitAt, List.getD_eq_getElem?_getD, hxi, hyi]
      have hle := bitsTo_le a b i
      have hlt := (x ^^^ y).toNat_lt
      have hpl := popc_le ((x ^^^ y).toNat)
      refine wp_seq_k fun K7 hK7 => ?_
      refine wp_seq_k fun K8 hK8 => ?_
      refine region_seq ?_  -- region 5
      refine L_op A rfl (by decide) rfl (y_move (A.get (s := 6) rfl) fun ac A => ?_)
      refine L_op A rfl (by decide) rfl (y_move (A.get (s := 0) rfl) fun ac A => ?_)
      refine L_op A rfl (by decide) rfl (y_lenS (e := 5) (by kernel_rfl) (A.get (s := 14) rfl) fun ac A => ?_)
      refine L_op A rfl (by decide) rfl (y_lss (A.get (s := 13) rfl) (A.get (s := 15) rfl) (c := true) (decide_eq_true (by omega)) fun ac A => ?_)
      replace A := A.keep [(0, .slice (some va) a.length vc), (1, .string ⟨b.toArray⟩), (5, .int .i64 (((bitsTo a b i : Nat) : Int))), (6, .int .i64 (((i : Nat) : Int))), (16, .bool true)] ⟨rfl, rfl, rfl, rfl, rfl, trivial⟩
      refine hK8 _ _ ?_
      refine wp_cond_true (A.get rfl) ?_
      refine wp_skip ?_
      refine hK7 _ _ ?_
      refine wp_seq_k fun K9 hK9 => ?_
      refine wp_block ?_
      refine wp_seq_k fun K10 hK10 => ?_
      refine region_draw A [⟨19, pl (eqv (.slice (some va) a.length vc)), [], [0], none, false⟩, ⟨20, pl (eqv (.int .i64 (((i : Nat) : Int)))), [], [6], none, false⟩, ⟨21, pl (eqv (.pointer (some (va.add (((i : Nat) : Int).toNat * 1))))), [0, 1], [], none, false⟩, ⟨22, pl (eqv (.int .u8 x.toNat)), [2], [], none, false⟩, ⟨23, pl (eqv (.string ⟨b.toArray⟩)), [], [1], none, false⟩, ⟨24, pl (eqv (.int .i64 (((i : Nat) : Int)))), [], [6], none, false⟩, ⟨25, pl (eqv (.int .u8 y.toNat)), [4, 5], [], none, false⟩, ⟨26, pl (eqv (.int .u8 (((((x ^^^ y).toNat : Nat)) : Int)))), [3, 6], [], none, false⟩, ⟨7, pl (eqv (.int .u8 (((((x ^^^ y).toNat : Nat)) : Int)))), [7], [], none, false⟩] [] (by kernel_rfl) (by kernel_rfl) (fun d _ _ _ _ h => by cases d <;> exact h) ⟨?_, ?_, ?_, ?_, ?_, ?_, ?_, ?_, ?_, trivial⟩ ?_  -- region 7
      · refine due_plain fun ρ w1 G hsrc hold => ?_; obtain ⟨o0, -⟩ := hold; exact y_move (o0.trans (A.get (s := 0) rfl)) y_eq
      · refine due_plain fun ρ w1 G hsrc hold => ?_; obtain ⟨o6, -⟩ := hold; exact y_move (o6.trans (A.get (s := 6) rfl)) y_eq
      · refine due_plain fun ρ w1 G hsrc hold => ?_; obtain ⟨⟨_, _, ⟨h19, -⟩, -⟩, ⟨_, _, ⟨h20, -⟩, -⟩, -⟩ := hsrc; exact y_indexA (e := 5) (size := 1) (by kernel_rfl) (by kernel_rfl) h19 h20 (by omega) (by omega) y_eq
      · refine due_plain fun ρ w1 G hsrc hold => ?_; obtain ⟨⟨_, _, ⟨h21, -⟩, -⟩, -⟩ := hsrc; exact y_load (by kernel_rfl) h21 (G.gr.cell' (S.kp.to_gr.cell' hcell)) y_eq
      · refine due_plain fun ρ w1 G hsrc hold => ?_; obtain ⟨o1, -⟩ := hold; exact y_move (o1.trans (A.get (s := 1) rfl)) y_eq
      · refine due_plain fun ρ w1 G hsrc hold => ?_; obtain ⟨o6, -⟩ := hold; exact y_move (o6.trans (A.get (s := 6) rfl)) y_eq
      · refine due_plain fun ρ w1 G hsrc hold => ?_; obtain ⟨⟨_, _, ⟨h23, -⟩, -⟩, ⟨_, _, ⟨h24, -⟩, -⟩, -⟩ := hsrc; exact y_indexStr (by kernel_rfl) h23 h24 hyi y_eq
      · refine due_plain fun ρ w1 G hsrc hold => ?_; obtain ⟨⟨_, _, ⟨h22, -⟩, -⟩, ⟨_, _, ⟨h25, -⟩, -⟩, -⟩ := hsrc; exact y_xor h22 h25 (xor_u8' x y) y_eq
      · refine due_plain fun ρ w1 G hsrc hold => ?_; obtain ⟨⟨_, _, ⟨h26, -⟩, -⟩, -⟩ := hsrc; exact y_assign h26 y_eq
      rintro _ _ ⟨rfl, rfl⟩ _ _ ⟨rfl, rfl⟩ _ _ ⟨rfl, rfl⟩ _ _ ⟨rfl, rfl⟩ _ _ ⟨rfl, rfl⟩ _ _ ⟨rfl, rfl⟩ _ _ ⟨rfl, rfl⟩ _ _ ⟨rfl, rfl⟩ _ _ ⟨rfl, rfl⟩
      intro ac w A gG nN
      replace S : St _ _ _ [] := S.new gG nN
      replace A := A.keep [(0, .slice (some va) a.length vc), (1, .string ⟨b.toArray⟩), (5, .int .i64 (((bitsTo a b i : Nat) : Int))), (6, .int .i64 (((i : Nat) : Int))), (7, .int .u8 (((((x ^^^ y).toNat : Nat)) : Int))), (16, .bool true)] ⟨rfl, rfl, rfl, rfl, rfl, rfl, trivial⟩
      refine hK10 _ _ ?_
      refine wp_block ?_
      replace A := A.keep [(0, .slice (some va) a.length vc), (1, .string ⟨b.toArray⟩), (5, .int .i64 (((bitsTo a b i : Nat) : Int))), (6, .int .i64 (((i : Nat) : Int))), (7, .int .u8 (((((x ^^^ y).toNat : Nat)) : Int)))] ⟨rfl, rfl, rfl, rfl, rfl, trivial⟩
      refine wp_loop_ghost (fun k2 ac w' => ∃ (n : Nat) (q : Nat), k2 = n ∧ n < 256 ∧ q + popc n = bitsTo a b (i + 1) ∧ Sl 38 ac [(0, .slice (some va) a.length vc), (1, .string ⟨b.toArray⟩), (5, .int .i64 ((q : Nat) : Int)), (6, .int .i64 ((i : Nat) : Int)), (7, .int .u8 ((n : Nat) : Int))] ∧ St [] w0 w' []) ((x ^^^ y).toNat) ⟨_, _, rfl, hlt, by rw [bitsTo, hbi], A, S⟩ ?_
      clear A S
      rintro k2 ac w3 ⟨n, q, rfl, hn, hq, A, S⟩
      have hle2 := bitsTo_le a b (i + 1)
      rcases Nat.eq_zero_or_pos k2 with hz | hz
      · subst hz
        rw [popc_zero, Nat.add_zero] at hq; subst hq
        refine wp_seq_k fun K11 hK11 => ?_
        refine wp_seq_k fun K12 hK12 => ?_
        refine region_seq ?_  -- region 8
        refine L_op A rfl (by decide) rfl (y_move (A.get (s := 7) rfl) fun ac A => ?_)
        refine L_op A rfl (by decide) rfl (y_gtr (A.get (s := 27) rfl) rfl (c := false) (decide_eq_false (by omega)) fun ac A => ?_)
        replace A := A.keep [(0, .slice (some va) a.length vc), (1, .string ⟨b.toArray⟩), (5, .int .i64 (((bitsTo a b (i + 1) : Nat) : Int))), (6, .int .i64 (((i : Nat) : Int))), (7, .int .u8 (((0 : Nat) : Int))), (28, .bool false)] ⟨rfl, rfl, rfl, rfl, rfl, rfl, trivial⟩
        refine hK12 _ _ ?_
        refine wp_cond_false (A.get rfl) ?_
        refine wp_exit ?_
        refine hK9 _ _ ?_
        refine region_seq ?_  -- region 6
        refine L_op A rfl (by decide) rfl (y_move (A.get (s := 6) rfl) fun ac A => ?_)
        refine L_op A rfl (by decide) rfl (y_add (A.get (s := 17) rfl) rfl (c := ((i + 1 : Nat) : Int)) ((wrap64 (by omega)).trans (by omega)) fun ac A => ?_)
        refine L_op A rfl (by decide) rfl (y_assign (A.get (s := 18) rfl) fun ac A => ?_)
        replace A := A.keep [(0, .slice (some va) a.length vc), (1, .string ⟨b.toArray⟩), (5, .int .i64 (((bitsTo a b (i + 1) : Nat) : Int))), (6, .int .i64 (((i + 1 : Nat) : Int))), (7, .int .u8 (((0 : Nat) : Int))), (28, .bool false)] ⟨rfl, rfl, rfl, rfl, rfl, rfl, trivial⟩
        replace A := A.keep [(0, .slice (some va) a.length vc), (1, .string ⟨b.toArray⟩), (5, .int .i64 (((bitsTo a b (i + 1) : Nat) : Int))), (6, .int .i64 (((i + 1 : Nat) : Int)))] ⟨rfl, rfl, rfl, rfl, trivial⟩
        exact ⟨kk - 1, by omega, i + 1, by omega, A, S⟩
      · rw [popc_pos hz] at hq
        refine wp_seq_k fun K13 hK13 => ?_
        refine wp_seq_k fun K14 hK14 => ?_
        refine region_seq ?_  -- region 8
        refine L_op A rfl (by decide) rfl (y_move (A.get (s := 7) rfl) fun ac A => ?_)
        refine L_op A rfl (by decide) rfl (y_gtr (A.get (s := 27) rfl) rfl (c := true) (decide_eq_true (by omega)) fun ac A => ?_)
        replace A := A.keep [(0, .slice (some va) a.length vc), (1, .string ⟨b.toArray⟩), (5, .int .i64 (((q : Nat) : Int))), (6, .int .i64 (((i : Nat) : Int))), (7, .int .u8 (((k2 : Nat) : Int))), (28, .bool true)] ⟨rfl, rfl, rfl, rfl, rfl, rfl, trivial⟩
        refine hK14 _ _ ?_
        refine wp_cond_true (A.get rfl) ?_
        refine wp_skip ?_
        refine hK13 _ _ ?_
        refine wp_seq_k fun K15 hK15 => ?_
        refine wp_block ?_
        refine region_seq ?_  -- region 10
        refine L_op A rfl (by decide) rfl (y_move (A.get (s := 5) rfl) fun ac A => ?_)
        refine L_op A rfl (by decide) rfl (y_move (A.get (s := 7) rfl) fun ac A => ?_)
        refine L_op A rfl (by decide) rfl (y_and (A.get (s := 32) rfl) rfl (and1_u8 hn) fun ac A => ?_)
        refine L_op A rfl (by decide) rfl (y_convInt (by kernel_rfl) (by kernel_rfl) (A.get (s := 33) rfl) (c := ((k2 % 2 : Nat) : Int)) (wrap64 (by omega)) fun ac A => ?_)
        refine L_op A rfl (by decide) rfl (y_add (A.get (s := 31) rfl) (A.get (s := 34) rfl) (c := ((q + k2 % 2 : Nat) : Int)) ((wrap64 (by omega)).trans (by omega)) fun ac A => ?_)
        refine L_op A rfl (by decide) rfl (y_assign (A.get (s := 35) rfl) fun ac A => ?_)
        replace A := A.keep [(0, .slice (some va) a.length vc), (1, .string ⟨b.toArray⟩), (5, .int .i64 (((q + k2 % 2 : Nat) : Int))), (6, .int .i64 (((i : Nat) : Int))), (7, .int .u8 (((k2 : Nat) : Int))), (28, .bool true)] ⟨rfl, rfl, rfl, rfl, rfl, rfl, trivial⟩
        refine hK15 _ _ ?_
        refine region_seq ?_  -- region 9
        refine L_op A rfl (by decide) rfl (y_move (A.get (s := 7) rfl) fun ac A => ?_)
        refine L_op A rfl (by decide) rfl (y_shr (A.get (s := 29) rfl) rfl (by decide) (fdiv2 k2) fun ac A => ?_)
        refine L_op A rfl (by decide) rfl (y_assign (A.get (s := 30) rfl) fun ac A => ?_)
        replace A := A.keep [(0, .slice (some va) a.length vc), (1, .string ⟨b.toArray⟩), (5, .int .i64 (((q + k2 % 2 : Nat) : Int))), (6, .int .i64 (((i : Nat) : Int))), (7, .int .u8 (((k2 / 2 : Nat) : Int))), (28, .bool true)] ⟨rfl, rfl, rfl, rfl, rfl, rfl, trivial⟩
        replace A := A.keep [(0, .slice (some va) a.length vc), (1, .string ⟨b.toArray⟩), (5, .int .i64 (((q + k2 % 2 : Nat) : Int))), (6, .int .i64 (((i : Nat) : Int))), (7, .int .u8 (((k2 / 2 : Nat) : Int)))] ⟨rfl, rfl, rfl, rfl, rfl, trivial⟩
        exact ⟨k2 / 2, by omega, k2 / 2, _, rfl, by omega, by omega, A, S⟩
    · obtain rfl : i = a.length := by omega
      refine wp_seq_k fun K7 hK7 => ?_
      refine wp_seq_k fun K8 hK8 => ?_
      refine region_seq ?_  -- region 5
      refine L_op A rfl (by decide) rfl (y_move (A.get (s := 6) rfl) fun ac A => ?_)
      refine L_op A rfl (by decide) rfl (y_move (A.get (s := 0) rfl) fun ac A => ?_)
      refine L_op A rfl (by decide) rfl (y_lenS (e := 5) (by kernel_rfl) (A.get (s := 14) rfl) fun ac A => ?_)
      refine L_op A rfl (by decide) rfl (y_lss (A.get (s := 13) rfl) (A.get (s := 15) rfl) (c := false) (decide_eq_false (by omega)) fun ac A => ?_)
      replace A := A.keep [(0, .slice va a.length vc), (1, .string ⟨b.toArray⟩), (5, .int .i64 (((bitsTo a b a.length : Nat) : Int))), (6, .int .i64 (((a.length : Nat) : Int))), (16, .bool false)] ⟨rfl, rfl, rfl, rfl, rfl, trivial⟩
      refine hK8 _ _ ?_
      refine wp_cond_false (A.get rfl) ?_
      refine wp_exit ?_
      refine hK5 _ _ ?_
      refine wp_seq_k fun K9 hK9 => ?_
      refine region_seq ?_  -- region 11
      refine L_op A rfl (by decide) rfl (y_move (A.get (s := 5) rfl) fun ac A => ?_)
      refine L_op A rfl (by decide) rfl (y_leq (A.get (s := 36) rfl) rfl (c := decide (bitsTo a b a.length ≤ 1)) (by simp only [decide_eq_decide]; omega) fun ac A => ?_)
      refine L_op A rfl (by decide) rfl (y_assign (A.get (s := 37) rfl) fun ac A => ?_)
      replace A := A.keep [(0, .slice va a.length vc), (1, .string ⟨b.toArray⟩), (4, .bool (decide (bitsTo a b a.length ≤ 1))), (5, .int .i64 (((bitsTo a b a.length : Nat) : Int))), (6, .int .i64 (((a.length : Nat) : Int))), (16, .bool false)] ⟨rfl, rfl, rfl, rfl, rfl, rfl, trivial⟩
      refine hK9 _ _ ?_
      exact wp_ret ⟨A.defers, _, res_run (rs := [.tmp 4]) (vs := [.bool (decide (bitsTo a b a.length ≤ 1))]) rfl ⟨A.get rfl, trivial⟩, ⟨_, rfl, S.kp.to_gr, [], ⟨by simp [nearF, hlen], rfl⟩, NewF.nil _ _⟩⟩
  · skip
    refine enter Try.func18 rfl (n := 38) rfl (Nat.le_of_ble_eq_true rfl) fun ac A => ?_
    have S : St _ _ _ [] := St.none w0
    refine wp_seq_k fun K1 hK1 => ?_
    refine region_seq ?_  -- region 0
    refine L_op A rfl (by decide) rfl (y_assign rfl fun ac A => ?_)
    replace A := A.keep [(0, .slice va a.length vc), (1, .string ⟨b.toArray⟩), (4, .bool false)] ⟨rfl, rfl, rfl, trivial⟩
    refine hK1 _ _ ?_
    refine wp_seq_k fun K2 hK2 => ?_
    refine wp_seq_k fun K3 hK3 => ?_
    refine region_seq ?_  -- region 1
    refine L_op A rfl (by decide) rfl (y_move (A.get (s := 0) rfl) fun ac A => ?_)
    refine L_op A rfl (by decide) rfl (y_lenS (e := 5) (by kernel_rfl) (A.get (s := 8) rfl) fun ac A => ?_)
    refine L_op A rfl (by decide) rfl (y_move (A.get (s := 1) rfl) fun ac A => ?_)
    refine L_op A rfl (by decide) rfl (y_lenStr (by kernel_rfl) (A.get (s := 10) rfl) fun ac A => ?_)
    refine L_op A rfl (by decide) rfl (y_neq (A.get (s := 9) rfl) (A.get (s := 11) rfl) (c := true) (by simp; omega) fun ac A => ?_)
    replace A := A.keep [(0, .slice va a.length vc), (1, .string ⟨b.toArray⟩), (4, .bool false), (12, .bool true)] ⟨rfl, rfl, rfl, rfl, trivial⟩
    refine hK3 _ _ ?_
    refine wp_cond_true (A.get rfl) ?_
    refine wp_seq_k fun K4 hK4 => ?_
    refine region_seq ?_  -- region 2
    refine L_op A rfl (by decide) rfl (y_assign rfl fun ac A => ?_)
    replace A := A.keep [(0, .slice va a.length vc), (1, .string ⟨b.toArray⟩), (4, .bool false), (12, .bool true)] ⟨rfl, rfl, rfl, rfl, trivial⟩
    refine hK4 _ _ ?_
    exact wp_ret ⟨A.defers, _, res_run (rs := [.tmp 4]) (vs := [.bool false]) rfl ⟨A.get rfl, trivial⟩, ⟨_, rfl, S.kp.to_gr, [], ⟨by simp [nearF, hlen], rfl⟩, NewF.nil _ _⟩⟩
end Go.Proofs.Ytaeidblipdjgnaa
