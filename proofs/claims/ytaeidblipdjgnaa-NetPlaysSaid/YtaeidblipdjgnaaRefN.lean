import Derived.Test.YtaeidblipdjgnaaRefT
import Derived.Test.YtaeidblipdjgnaaNew
namespace Go.Proofs.Ytaeidblipdjgnaa
open Go.RowKit Go.Maps Go.WideMaps
theorem y_indexPR {P : Program} {ρ : Operand → Value} {w : World} {Φ : Value → World → Prop} {d : Option Tmp} {ty t e : TypeId} {pos : String} {aft : Array Edge} {gd : Option (Nat × Bool)} {x ix : Operand} {a : Addr} {n size : Nat} {k : IntKind} {i : Int} (ht : P.underlying t = some (.array n e)) (hs : (P.info? e).map (·.size) = some size) (hx : ρ x = .pointer (some a)) (hi : ρ ix = .int k i) (h0 : 0 ≤ i) (h1 : i < n) (hΦ : Φ (.pointer (some (a.add (i.toNat * size)))) w) :
    OpY P ⟨d, .indexAddr t x ix, ty, pos, aft, gd⟩ ρ w Φ := by
  refine .pure (v := .pointer (some (a.add (i.toNat * size)))) ?_ hΦ
  cases hin : P.info? e with
  | none => simp [hin] at hs
  | some inf =>
    simp only [hin, Option.map_some, Option.some.injEq] at hs
    have hsz : (sizeOf e).run P w = .ok size w := by simp [sizeOf, typeInfo, Sem.run_bind, hin, hs]
    simp [execOp, hx, hi, Instr.indexAt, Instr.sureAddr, asIntOf, Sem.run_bind, run_underlying ht, h0, h1, hsz]

def RM.fresh (n : Int) (o : List (Int × Int)) : RM := ⟨n, o, o.map fun _ => false, []⟩
def RNewR (n : Int) (ls : List (Int × Int)) (r : Value) (H : Frag) : Prop :=
  (newM n ls = none ∧ r = .pointer none ∧ H = []) ∨ ∃ o p, newM n ls = some (M.fresh n o) ∧ 1 ≤ n ∧ n ≤ 10 ∧ newO n [] ls = some o ∧ r = .pointer (some ⟨p, 0, none⟩) ∧ RefRep p (RM.fresh n o) H
structure RNewI (n : Int) (ls : List (Int × Int)) (i : Nat) (o : List (Int × Int)) (vl : Value) (Hl : Frag) (vc : Value) (Hc : Frag) : Prop where
  le : i ≤ ls.length
  go : newO n o (ls.drop i) = newO n [] ls
  len : o.length = i
  lt : ∀ l ∈ o, l.1 < l.2
  lnk : SlRep 28 2 vl o.length (pairs o) Hl
  cts : SlRep 4 1 vc o.length ((o.map fun _ => false).map Value.bool) Hc
theorem RNewI.next {n : Int} {ls : List (Int × Int)} {i : Nat} {o : List (Int × Int)} {vl : Value} {Hl : Frag} {vc : Value} {Hc : Frag} (h : RNewI n ls i o vl Hl vc Hc) {l : Int × Int} {x y : Int} (hl : ls[i]? = some l) (he : ends l.1 l.2 = (x, y)) (hk : okL n o (x, y) = true) (hxy : x < y)
    {vl' : Value} {Hl' : Frag} {vc' : Value} {Hc' : Frag} (hr : SlRep 28 2 vl' (o.length + 1) (pairs o ++ [.int .i64 x, .int .i64 y]) Hl') (hm : SlRep 4 1 vc' (o.length + 1) ((o.map fun _ => false).map Value.bool ++ [.bool false]) Hc') : RNewI n ls (i + 1) (o ++ [(x, y)]) vl' Hl' vc' Hc' := by
  have hi := lt_of_get hl
  refine ⟨hi, ?_, by simp [h.len], fun q hq => ?_, ?_, ?_⟩
  · rw [← h.go, List.drop_eq_getElem_cons hi]
    have : ls[i] = l := by rw [List.getElem?_eq_getElem hi] at hl; exact Option.some.inj hl
    rw [this]; simp only [newO, he, hk, if_true]
  · rcases List.mem_append.1 hq with hq | hq
    · exact h.lt q hq
    · simp at hq; subst hq; exact hxy
  · rw [pairs_snoc, List.length_append]; exact hr
  · rw [List.length_append, List.map_append, List.map_append]; exact hm
theorem RNewI.bad {n : Int} {ls : List (Int × Int)} {i : Nat} {o : List (Int × Int)} {vl : Value} {Hl : Frag} {vc : Value} {Hc : Frag} (h : RNewI n ls i o vl Hl vc Hc) {l k : Int × Int} (hl : ls[i]? = some l) (he : ends l.1 l.2 = k) (hk : okL n o k = false) : newM n ls = none := by
  have hi := lt_of_get hl
  unfold newM; split
  · rfl
  · rw [← h.go, List.drop_eq_getElem_cons hi]
    have : ls[i] = l := by rw [List.getElem?_eq_getElem hi] at hl; exact Option.some.inj hl
    rw [this]; simp [newO, he, hk]
theorem RNewI.refp {n : Int} {ls : List (Int × Int)} {i : Nat} {o : List (Int × Int)} {vl : Value} {Hl : Frag} {vc : Value} {Hc : Frag} (h : RNewI n ls i o vl Hl vc Hc) (hls : ls.length ≤ 300) : RefP (RM.fresh n o) vl Hl vc Hc (.slice none 0 0) [] [] := by
  have := h.len; have := h.le
  exact ⟨h.lnk, by simpa [RM.fresh] using h.cts, SlRep.nil _ _ _, rfl, (fun g hg => by simp at hg), by show o.length ≤ 300; omega, by simp [RM.fresh]⟩
theorem RNewI.hit {n : Int} {ls : List (Int × Int)} {i : Nat} {o : List (Int × Int)} {vl : Value} {Hl : Frag} {vc : Value} {Hc : Frag} (h : RNewI n ls i o vl Hl vc Hc) {x y : Int} (hxy : x < y) : (0 ≤ (RM.fresh n o).link x y ↔ (x, y) ∈ o) := by
  unfold RM.link RM.fresh; dsimp only
  cases hf : o.findIdx? (hitl x y) with
  | none =>
    rw [List.findIdx?_eq_none_iff] at hf
    constructor
    · intro h0; simp at h0
    · intro hm; have := hf _ hm; simp [hitl] at this
  | some k =>
    obtain ⟨hk, h1, -⟩ := List.findIdx?_eq_some_iff_getElem.1 hf
    constructor
    · intro _
      have hm := List.getElem_mem hk
      have hlt := h.lt _ hm
      simp only [hitl, Bool.or_eq_true, Bool.and_eq_true, beq_iff_eq] at h1
      rcases h1 with ⟨h1, h2⟩ | ⟨h1, h2⟩
      · have e : o[k] = (x, y) := Prod.ext h1 h2
        rw [e] at hm; exact hm
      · omega
    · intro _; simp
theorem okL_bad {n : Int} {o : List (Int × Int)} {x y : Int} (h : x < 1 ∨ n < y ∨ x = y ∨ (x, y) ∈ o) : okL n o (x, y) = false := by
  unfold okL; rcases h with h | h | h | h
  · simp [show ¬ 1 ≤ x by omega]
  · simp [show ¬ y ≤ n by omega]
  · simp [h]
  · simp [h]
theorem okL_ok {n : Int} {o : List (Int × Int)} {x y : Int} (h1 : ¬ x < 1) (h2 : ¬ n < y) (h3 : ¬ x = y) (h4 : (x, y) ∉ o) : okL n o (x, y) = true := by
  unfold okL; simp [show 1 ≤ x by omega, show y ≤ n by omega, h3, h4]
set_option maxRecDepth 20000 in
set_option maxHeartbeats 16000000 in
theorem rnew_ok {w0 : World} {v : Value} {ls : List (Int × Int)} {n : Int} (hs : Src w0 2 v ls.length (pairs ls)) (hl : ls.length ≤ 300) : Calls Try.prog 27 #[.int .i64 n, v] w0 (RetN w0 (RNewR n ls)) := by
  obtain ⟨va, vc, rfl⟩ := hs.len'
  by_cases hn1 : n < 1
  · have hnone : newM n ls = none := by unfold newM; rw [if_pos (Or.inl hn1)]
    refine enter Try.func27 rfl (n := 80) rfl (Nat.le_of_ble_eq_true rfl) fun _ A => ?_
    have S : St _ _ _ [] := St.none w0
    refine wp_seq_k fun K1 hK1 => ?_
    refine region_seq ?_  -- region 0
    refine La A rfl (evc _ _) fun _ A => ?_
    replace A := A.only [4, 1, 0] rfl
    refine hK1 _ _ ?_
    refine wp_seq_k fun K2 hK2 => ?_
    refine wp_seq_k fun K3 hK3 => ?_
    refine region_seq ?_  -- region 1
    refine Lm A rfl (A.g 0 rfl) fun _ A => Lo A rfl (y_lss (A.g 9 rfl) (evc _ _) (c := true) (decide_eq_true hn1) fun _ A => ?_)
    refine Lm A rfl (A.g 10 rfl) fun _ A => L_no A rfl (by decide) rfl rfl (by decide) (A.get rfl) (by decide) fun _ A => ?_
    refine L_no A rfl (by decide) rfl rfl (by decide) (A.get rfl) (by decide) fun _ A => ?_
    refine Lo A rfl (y_pickT (A.g 11 rfl) (evc _ _) fun _ A => ?_)
    replace A := A.only [14, 4, 1, 0] rfl
    refine hK3 _ _ ?_
    refine wp_cond_true (A.get rfl) ?_
    refine wp_seq_k fun K4 hK4 => ?_
    refine region_seq ?_  -- region 2
    refine La A rfl (evc _ _) fun _ A => ?_
    replace A := A.only [14, 4, 1, 0] rfl
    refine hK4 _ _ ?_
    exact wp_ret ⟨A.defers, _, res_run (rs := [.tmp 4]) (vs := [.pointer none]) rfl ⟨A.get rfl, trivial⟩, ⟨_, rfl, S.kp.to_gr, [], Or.inl ⟨hnone, rfl, rfl⟩, NewF.nil _ _⟩⟩
  by_cases hn2 : 10 < n
  · have hnone : newM n ls = none := by unfold newM; rw [if_pos (Or.inr hn2)]
    refine enter Try.func27 rfl (n := 80) rfl (Nat.le_of_ble_eq_true rfl) fun _ A => ?_
    have S : St _ _ _ [] := St.none w0
    refine wp_seq_k fun K1 hK1 => ?_
    refine region_seq ?_  -- region 0
    refine La A rfl (evc _ _) fun _ A => ?_
    replace A := A.only [4, 1, 0] rfl
    refine hK1 _ _ ?_
    refine wp_seq_k fun K2 hK2 => ?_
    refine wp_seq_k fun K3 hK3 => ?_
    refine region_seq ?_  -- region 1
    refine Lm A rfl (A.g 0 rfl) fun _ A => Lo A rfl (y_lss (A.g 9 rfl) (evc _ _) (c := false) (decide_eq_false hn1) fun _ A => ?_)
    refine Lm A rfl (A.g 10 rfl) fun _ A => L_yes A rfl (by decide) rfl rfl (by decide) (A.get rfl) (y_move (A.g 0 rfl) fun _ A => ?_)
    refine L_yes A rfl (by decide) rfl rfl (by decide) (A.get rfl) (y_gtr (A.g 12 rfl) (evc _ _) (c := true) (decide_eq_true hn2) fun _ A => ?_)
    refine Lo A rfl (y_pickF (A.g 11 rfl) (A.g 13 rfl) fun _ A => ?_)
    replace A := A.only [14, 4, 1, 0] rfl
    refine hK3 _ _ ?_
    refine wp_cond_true (A.get rfl) ?_
    refine wp_seq_k fun K4 hK4 => ?_
    refine region_seq ?_  -- region 2
    refine La A rfl (evc _ _) fun _ A => ?_
    replace A := A.only [14, 4, 1, 0] rfl
    refine hK4 _ _ ?_
    exact wp_ret ⟨A.defers, _, res_run (rs := [.tmp 4]) (vs := [.pointer none]) rfl ⟨A.get rfl, trivial⟩, ⟨_, rfl, S.kp.to_gr, [], Or.inl ⟨hnone, rfl, rfl⟩, NewF.nil _ _⟩⟩
  refine enter Try.func27 rfl (n := 80) rfl (Nat.le_of_ble_eq_true rfl) fun _ A => ?_
  have S : St _ _ _ [] := St.none w0
  refine wp_seq_k fun K1 hK1 => ?_
  refine region_seq ?_  -- region 0
  refine La A rfl (evc _ _) fun _ A => ?_
  replace A := A.only [4, 1, 0] rfl
  refine hK1 _ _ ?_
  refine wp_seq_k fun K2 hK2 => ?_
  refine wp_seq_k fun K3 hK3 => ?_
  refine region_seq ?_  -- region 1
  refine Lm A rfl (A.g 0 rfl) fun _ A => Lo A rfl (y_lss (A.g 9 rfl) (evc _ _) (c := false) (decide_eq_false hn1) fun _ A => ?_)
  refine Lm A rfl (A.g 10 rfl) fun _ A => L_yes A rfl (by decide) rfl rfl (by decide) (A.get rfl) (y_move (A.g 0 rfl) fun _ A => ?_)
  refine L_yes A rfl (by decide) rfl rfl (by decide) (A.get rfl) (y_gtr (A.g 12 rfl) (evc _ _) (c := false) (decide_eq_false hn2) fun _ A => ?_)
  refine Lo A rfl (y_pickF (A.g 11 rfl) (A.g 13 rfl) fun _ A => ?_)
  replace A := A.only [14, 4, 1, 0] rfl
  refine hK3 _ _ ?_
  refine wp_cond_false (A.get rfl) ?_
  refine wp_skip ?_
  refine hK2 _ _ ?_
  refine wp_seq_k fun K4 hK4 => ?_
  refine region_seq ?_  -- region 3
  refine Lm A rfl (A.g 0 rfl) fun _ A => Lo A rfl (y_build1 (A.g 15 rfl) (v := .agg #[.int .i64 n, .slice none 0 0, .slice none 0 0, .slice none 0 0]) (by kernel_rfl) fun _ A => ?_)
  refine Lo A rfl (y_boxN (A.g 16 rfl) fun b1 w gG nN ac A => ?_)
  replace S : St _ _ _ [(b1, .cells #[.int .i64 n, .slice none 0 0, .slice none 0 0, .slice none 0 0] 64 (0, 0))] := S.new gG nN
  refine La A rfl (A.g 17 rfl) fun _ A => ?_
  replace A := A.only [14, 5, 4, 1, 0] rfl
  refine hK4 _ _ ?_
  refine wp_seq_k fun K5 hK5 => ?_
  refine wp_seq_k fun K6 hK6 => ?_
  refine region_seq ?_  -- region 4
  refine La A rfl (evc _ _) fun _ A => ?_
  replace A := A.only [14, 6, 5, 4, 1, 0] rfl
  refine hK6 _ _ ?_
  refine wp_block ?_
  replace A := A.only [6, 5, 1, 0] rfl
  have S2 : St _ _ _ ([(b1, .cells #[.int .i64 n, .slice none 0 0, .slice none 0 0, .slice none 0 0] 64 (0, 0))] ++ ([] ++ [])) := S
  refine wp_loop_ghost (fun kk ac w' => ∃ (i : Nat) (o : List (Int × Int)) (vl : Value) (Hl : Frag) (vc' : Value) (Hc : Frag), kk + i = ls.length ∧ Sl 80 ac [(0, .int .i64 n), (1, .slice va ls.length vc), (5, .pointer (some ⟨b1, 0, none⟩)), (6, .int .i64 ((i : Nat) : Int))] ∧ St [] w0 w' ([(b1, .cells #[.int .i64 n, vl, vc', .slice none 0 0] 64 (0, 0))] ++ (Hl ++ Hc)) ∧ RNewI n ls i o vl Hl vc' Hc) ls.length ⟨0, [], _, [], _, [], by simp, A, S2, ⟨by simp, by simp, rfl, by simp, SlRep.nil _ _ _, SlRep.nil _ _ _⟩⟩ ?_
  clear A S S2
  rintro kk ac w ⟨i, o, vl, Hl, vc', Hc, hkk, A, S, I⟩
  obtain ⟨l1, l2, rfl⟩ := I.lnk.len
  obtain ⟨c1, c2, rfl⟩ := I.cts.len
  have hol := I.len; have hole := I.le
  rcases Nat.lt_or_ge i ls.length with hi | hi
  · obtain ⟨l, hli⟩ : ∃ l, ls[i]? = some l := ⟨_, List.getElem?_eq_getElem hi⟩
    obtain ⟨va', vc2, hva, hrow⟩ := pairs_row hs hli
    simp only [Value.slice.injEq] at hva; obtain ⟨rfl, -, rfl⟩ := hva
    by_cases hsw : l.2 < l.1
    · have he : ends l.1 l.2 = (l.2, l.1) := by unfold ends; rw [Prod.mk.injEq]; omega
      by_cases t1 : l.2 < 1
      · have hnone := I.bad hli he (okL_bad (Or.inl t1))
        refine wp_seq_k fun K7 hK7 => ?_
        refine wp_seq_k fun K8 hK8 => ?_
        refine region_seq ?_  -- region 5
        refine Lm A rfl (A.g 6 rfl) fun _ A => Lm A rfl (A.g 1 rfl) fun _ A => Lo A rfl (y_lenS (e := 28) (by kernel_rfl) (A.g 19 rfl) fun _ A => ?_)
        refine Lo A rfl (y_lss (A.g 18 rfl) (A.g 20 rfl) (c := true) (decide_eq_true (by omega)) fun _ A => ?_)
        replace A := A.only [21, 6, 5, 1, 0] rfl
        refine hK8 _ _ ?_
        refine wp_cond_true (A.get rfl) ?_
        refine wp_skip ?_
        refine hK7 _ _ ?_
        refine wp_seq_k fun K9 hK9 => ?_
        refine wp_block ?_
        refine wp_seq_k fun K10 hK10 => ?_
        refine region_draw A [⟨24, pl (eqv (.slice (some va') ls.length vc)), [], [1], none, false⟩, ⟨25, pl (eqv (.int .i64 (((i : Nat) : Int)))), [], [6], none, false⟩, ⟨26, pl (eqv (.pointer (some (va'.add ((((i : Nat) : Int)).toNat * 2))))), [0, 1], [], none, false⟩, ⟨27, pl (eqv (.pointer (some ((va'.add (((i : Nat) : Int).toNat * 2)).add 0)))), [2], [], none, false⟩, ⟨28, pl (eqv (.int .i64 l.1)), [3], [], none, false⟩, ⟨29, pl (eqv (.slice (some va') ls.length vc)), [], [1], none, false⟩, ⟨30, pl (eqv (.int .i64 (((i : Nat) : Int)))), [], [6], none, false⟩, ⟨31, pl (eqv (.pointer (some (va'.add ((((i : Nat) : Int)).toNat * 2))))), [5, 6], [], none, false⟩, ⟨32, pl (eqv (.pointer (some ((va'.add (((i : Nat) : Int).toNat * 2)).add 1)))), [7], [], none, false⟩, ⟨33, pl (eqv (.int .i64 l.2)), [8], [], none, false⟩, ⟨7, pl (eqv (.int .i64 l.1)), [4], [], none, false⟩, ⟨8, pl (eqv (.int .i64 l.2)), [9], [], none, false⟩] [] (by kernel_rfl) (by kernel_rfl) (fun d _ _ _ _ h => by cases d <;> exact h) ⟨?_, ?_, ?_, ?_, ?_, ?_, ?_, ?_, ?_, ?_, ?_, ?_, trivial⟩ ?_  -- region 7
        · refine due_plain fun ρ w1 G hsrc hold => ?_; obtain ⟨o1, -⟩ := hold; exact y_move (o1.trans (A.g 1 rfl)) y_eq
        · refine due_plain fun ρ w1 G hsrc hold => ?_; obtain ⟨o6, -⟩ := hold; exact y_move (o6.trans (A.g 6 rfl)) y_eq
        · refine due_plain fun ρ w1 G hsrc hold => ?_; obtain ⟨⟨_, _, ⟨h24, -⟩, -⟩, ⟨_, _, ⟨h25, -⟩, -⟩, -⟩ := hsrc; exact y_indexA (e := 28) (size := 2) (by kernel_rfl) (by kernel_rfl) h24 h25 (by omega) (by omega) y_eq
        · refine due_plain fun ρ w1 G hsrc hold => ?_; obtain ⟨⟨_, _, ⟨h26, -⟩, -⟩, -⟩ := hsrc; exact y_indexPR (n := 2) (e := 3) (size := 1) (by kernel_rfl) (by kernel_rfl) h26 (G.const _) (by decide) (by decide) y_eq
        · refine due_plain fun ρ w1 G hsrc hold => ?_; obtain ⟨⟨_, _, ⟨h27, -⟩, -⟩, -⟩ := hsrc; exact y_load (by kernel_rfl) h27 (G.gr.cell' (S.kp.cell' (hrow 0 (Nat.le_of_ble_eq_true rfl)) (by simp))) y_eq
        · refine due_plain fun ρ w1 G hsrc hold => ?_; obtain ⟨o1, -⟩ := hold; exact y_move (o1.trans (A.g 1 rfl)) y_eq
        · refine due_plain fun ρ w1 G hsrc hold => ?_; obtain ⟨o6, -⟩ := hold; exact y_move (o6.trans (A.g 6 rfl)) y_eq
        · refine due_plain fun ρ w1 G hsrc hold => ?_; obtain ⟨⟨_, _, ⟨h29, -⟩, -⟩, ⟨_, _, ⟨h30, -⟩, -⟩, -⟩ := hsrc; exact y_indexA (e := 28) (size := 2) (by kernel_rfl) (by kernel_rfl) h29 h30 (by omega) (by omega) y_eq
        · refine due_plain fun ρ w1 G hsrc hold => ?_; obtain ⟨⟨_, _, ⟨h31, -⟩, -⟩, -⟩ := hsrc; exact y_indexPR (n := 2) (e := 3) (size := 1) (by kernel_rfl) (by kernel_rfl) h31 (G.const _) (by decide) (by decide) y_eq
        · refine due_plain fun ρ w1 G hsrc hold => ?_; obtain ⟨⟨_, _, ⟨h32, -⟩, -⟩, -⟩ := hsrc; exact y_load (by kernel_rfl) h32 (G.gr.cell' (S.kp.cell' (hrow 1 (Nat.le_of_ble_eq_true rfl)) (by simp))) y_eq
        · refine due_plain fun ρ w1 G hsrc hold => ?_; obtain ⟨⟨_, _, ⟨h28, -⟩, -⟩, -⟩ := hsrc; exact y_assign h28 y_eq
        · refine due_plain fun ρ w1 G hsrc hold => ?_; obtain ⟨⟨_, _, ⟨h33, -⟩, -⟩, -⟩ := hsrc; exact y_assign h33 y_eq
        rintro _ _ ⟨rfl, rfl⟩ _ _ ⟨rfl, rfl⟩ _ _ ⟨rfl, rfl⟩ _ _ ⟨rfl, rfl⟩ _ _ ⟨rfl, rfl⟩ _ _ ⟨rfl, rfl⟩ _ _ ⟨rfl, rfl⟩ _ _ ⟨rfl, rfl⟩ _ _ ⟨rfl, rfl⟩ _ _ ⟨rfl, rfl⟩ _ _ ⟨rfl, rfl⟩ _ _ ⟨rfl, rfl⟩
        intro ac w A gG nN
        replace S : St _ _ _ ([(b1, .cells #[.int .i64 n, .slice l1 o.length l2, .slice c1 o.length c2, .slice none 0 0] 64 (0, 0))] ++ (Hl ++ Hc)) := (S.new gG nN).perm (by first | exact .refl _ | (rw [List.append_assoc]; exact .refl _) | (simp only [List.append_assoc, List.nil_append, List.append_nil]; exact .refl _))
        replace A := A.only [21, 8, 7, 6, 5, 1, 0] rfl
        refine hK10 _ _ ?_
        refine wp_seq_k fun K11 hK11 => ?_
        refine wp_seq_k fun K12 hK12 => ?_
        refine region_seq ?_  -- region 8
        refine Lm A rfl (A.g 7 rfl) fun _ A => Lm A rfl (A.g 8 rfl) fun _ A => Lo A rfl (y_gtr (A.g 34 rfl) (A.g 35 rfl) (c := true) (decide_eq_true hsw) fun _ A => ?_)
        replace A := A.only [36, 21, 8, 7, 6, 5, 1, 0] rfl
        refine hK12 _ _ ?_
        refine wp_cond_true (A.get rfl) ?_
        refine region_seq ?_  -- region 9
        refine Lm A rfl (A.g 8 rfl) fun _ A => Lm A rfl (A.g 7 rfl) fun _ A => La A rfl (A.g 37 rfl) fun _ A => La A rfl (A.g 38 rfl) fun _ A => ?_
        replace A := A.only [36, 21, 8, 7, 6, 5, 1, 0] rfl
        refine hK11 _ _ ?_
        refine wp_seq_k fun K13 hK13 => ?_
        refine wp_seq_k fun K14 hK14 => ?_
        refine region_seq ?_  -- region 10
        refine Lm A rfl (A.g 7 rfl) fun _ A => Lo A rfl (y_lss (A.g 39 rfl) (evc _ _) (c := true) (decide_eq_true t1) fun _ A => ?_)
        refine Lm A rfl (A.g 40 rfl) fun _ A => L_no A rfl (by decide) rfl rfl (by decide) (A.get rfl) (by decide) fun _ A => ?_
        replace A := A.only [42, 41, 36, 21, 8, 7, 6, 5, 1, 0] rfl
        refine L_no A rfl (by decide) rfl rfl (by decide) (A.get rfl) (by decide) fun _ A => ?_
        refine L_no A rfl (by decide) rfl rfl (by decide) (A.get rfl) (by decide) fun _ A => ?_
        refine Lo A rfl (y_pickT (A.g 41 rfl) (evc _ _) fun _ A => ?_)
        refine Lm A rfl (A.g 45 rfl) fun _ A => ?_
        replace A := A.only [46, 36, 21, 8, 7, 6, 5, 1, 0] rfl
        refine L_no A rfl (by decide) rfl rfl (by decide) (A.get rfl) (by decide) fun _ A => ?_
        refine L_no A rfl (by decide) rfl rfl (by decide) (A.get rfl) (by decide) fun _ A => ?_
        refine L_no A rfl (by decide) rfl rfl (by decide) (A.get rfl) (by decide) fun _ A => ?_
        refine Lo A rfl (y_pickT (A.g 46 rfl) (evc _ _) fun _ A => ?_)
        replace A := A.only [50, 36, 21, 8, 7, 6, 5, 1, 0] rfl
        refine Lm A rfl (A.g 50 rfl) fun _ A => L_no A rfl (by decide) rfl rfl (by decide) (A.get rfl) (by decide) fun _ A => ?_
        refine L_no A rfl (by decide) rfl rfl (by decide) (A.get rfl) (by decide) fun _ A => ?_
        refine L_no A rfl (by decide) rfl rfl (by decide) (A.get rfl) (by decide) fun _ A => ?_
        replace A := A.only [54, 53, 52, 51, 36, 21, 8, 7, 6, 5, 1, 0] rfl
        refine L_no A rfl (by decide) rfl rfl (by decide) (A.get rfl) (by decide) fun _ A => ?_
        refine L_no A rfl (by decide) rfl rfl (by decide) (A.get rfl) (by decide) fun _ A => ?_
        refine Lo A rfl (y_pickT (A.g 51 rfl) (evc _ _) fun _ A => ?_)
        replace A := A.only [57, 36, 21, 8, 7, 6, 5, 1, 0] rfl
        refine hK14 _ _ ?_
        refine wp_cond_true (A.get rfl) ?_
        refine wp_seq_k fun K15 hK15 => ?_
        refine region_seq ?_  -- region 11
        refine La A rfl (evc _ _) fun _ A => ?_
        replace A := A.only [57, 36, 21, 8, 7, 6, 5, 4, 1, 0] rfl
        refine hK15 _ _ ?_
        exact wp_ret ⟨A.defers, _, res_run (rs := [.tmp 4]) (vs := [.pointer none]) rfl ⟨A.get rfl, trivial⟩, ⟨_, rfl, S.kp.to_gr, [], Or.inl ⟨hnone, rfl, rfl⟩, NewF.nil _ _⟩⟩
      by_cases t2 : n < l.1
      · have hnone := I.bad hli he (okL_bad (Or.inr (Or.inl t2)))
        refine wp_seq_k fun K7 hK7 => ?_
        refine wp_seq_k fun K8 hK8 => ?_
        refine region_seq ?_  -- region 5
        refine Lm A rfl (A.g 6 rfl) fun _ A => Lm A rfl (A.g 1 rfl) fun _ A => Lo A rfl (y_lenS (e := 28) (by kernel_rfl) (A.g 19 rfl) fun _ A => ?_)
        refine Lo A rfl (y_lss (A.g 18 rfl) (A.g 20 rfl) (c := true) (decide_eq_true (by omega)) fun _ A => ?_)
        replace A := A.only [21, 6, 5, 1, 0] rfl
        refine hK8 _ _ ?_
        refine wp_cond_true (A.get rfl) ?_
        refine wp_skip ?_
        refine hK7 _ _ ?_
        refine wp_seq_k fun K9 hK9 => ?_
        refine wp_block ?_
        refine wp_seq_k fun K10 hK10 => ?_
        refine region_draw A [⟨24, pl (eqv (.slice (some va') ls.length vc)), [], [1], none, false⟩, ⟨25, pl (eqv (.int .i64 (((i : Nat) : Int)))), [], [6], none, false⟩, ⟨26, pl (eqv (.pointer (some (va'.add ((((i : Nat) : Int)).toNat * 2))))), [0, 1], [], none, false⟩, ⟨27, pl (eqv (.pointer (some ((va'.add (((i : Nat) : Int).toNat * 2)).add 0)))), [2], [], none, false⟩, ⟨28, pl (eqv (.int .i64 l.1)), [3], [], none, false⟩, ⟨29, pl (eqv (.slice (some va') ls.length vc)), [], [1], none, false⟩, ⟨30, pl (eqv (.int .i64 (((i : Nat) : Int)))), [], [6], none, false⟩, ⟨31, pl (eqv (.pointer (some (va'.add ((((i : Nat) : Int)).toNat * 2))))), [5, 6], [], none, false⟩, ⟨32, pl (eqv (.pointer (some ((va'.add (((i : Nat) : Int).toNat * 2)).add 1)))), [7], [], none, false⟩, ⟨33, pl (eqv (.int .i64 l.2)), [8], [], none, false⟩, ⟨7, pl (eqv (.int .i64 l.1)), [4], [], none, false⟩, ⟨8, pl (eqv (.int .i64 l.2)), [9], [], none, false⟩] [] (by kernel_rfl) (by kernel_rfl) (fun d _ _ _ _ h => by cases d <;> exact h) ⟨?_, ?_, ?_, ?_, ?_, ?_, ?_, ?_, ?_, ?_, ?_, ?_, trivial⟩ ?_  -- region 7
        · refine due_plain fun ρ w1 G hsrc hold => ?_; obtain ⟨o1, -⟩ := hold; exact y_move (o1.trans (A.g 1 rfl)) y_eq
        · refine due_plain fun ρ w1 G hsrc hold => ?_; obtain ⟨o6, -⟩ := hold; exact y_move (o6.trans (A.g 6 rfl)) y_eq
        · refine due_plain fun ρ w1 G hsrc hold => ?_; obtain ⟨⟨_, _, ⟨h24, -⟩, -⟩, ⟨_, _, ⟨h25, -⟩, -⟩, -⟩ := hsrc; exact y_indexA (e := 28) (size := 2) (by kernel_rfl) (by kernel_rfl) h24 h25 (by omega) (by omega) y_eq
        · refine due_plain fun ρ w1 G hsrc hold => ?_; obtain ⟨⟨_, _, ⟨h26, -⟩, -⟩, -⟩ := hsrc; exact y_indexPR (n := 2) (e := 3) (size := 1) (by kernel_rfl) (by kernel_rfl) h26 (G.const _) (by decide) (by decide) y_eq
        · refine due_plain fun ρ w1 G hsrc hold => ?_; obtain ⟨⟨_, _, ⟨h27, -⟩, -⟩, -⟩ := hsrc; exact y_load (by kernel_rfl) h27 (G.gr.cell' (S.kp.cell' (hrow 0 (Nat.le_of_ble_eq_true rfl)) (by simp))) y_eq
        · refine due_plain fun ρ w1 G hsrc hold => ?_; obtain ⟨o1, -⟩ := hold; exact y_move (o1.trans (A.g 1 rfl)) y_eq
        · refine due_plain fun ρ w1 G hsrc hold => ?_; obtain ⟨o6, -⟩ := hold; exact y_move (o6.trans (A.g 6 rfl)) y_eq
        · refine due_plain fun ρ w1 G hsrc hold => ?_; obtain ⟨⟨_, _, ⟨h29, -⟩, -⟩, ⟨_, _, ⟨h30, -⟩, -⟩, -⟩ := hsrc; exact y_indexA (e := 28) (size := 2) (by kernel_rfl) (by kernel_rfl) h29 h30 (by omega) (by omega) y_eq
        · refine due_plain fun ρ w1 G hsrc hold => ?_; obtain ⟨⟨_, _, ⟨h31, -⟩, -⟩, -⟩ := hsrc; exact y_indexPR (n := 2) (e := 3) (size := 1) (by kernel_rfl) (by kernel_rfl) h31 (G.const _) (by decide) (by decide) y_eq
        · refine due_plain fun ρ w1 G hsrc hold => ?_; obtain ⟨⟨_, _, ⟨h32, -⟩, -⟩, -⟩ := hsrc; exact y_load (by kernel_rfl) h32 (G.gr.cell' (S.kp.cell' (hrow 1 (Nat.le_of_ble_eq_true rfl)) (by simp))) y_eq
        · refine due_plain fun ρ w1 G hsrc hold => ?_; obtain ⟨⟨_, _, ⟨h28, -⟩, -⟩, -⟩ := hsrc; exact y_assign h28 y_eq
        · refine due_plain fun ρ w1 G hsrc hold => ?_; obtain ⟨⟨_, _, ⟨h33, -⟩, -⟩, -⟩ := hsrc; exact y_assign h33 y_eq
        rintro _ _ ⟨rfl, rfl⟩ _ _ ⟨rfl, rfl⟩ _ _ ⟨rfl, rfl⟩ _ _ ⟨rfl, rfl⟩ _ _ ⟨rfl, rfl⟩ _ _ ⟨rfl, rfl⟩ _ _ ⟨rfl, rfl⟩ _ _ ⟨rfl, rfl⟩ _ _ ⟨rfl, rfl⟩ _ _ ⟨rfl, rfl⟩ _ _ ⟨rfl, rfl⟩ _ _ ⟨rfl, rfl⟩
        intro ac w A gG nN
        replace S : St _ _ _ ([(b1, .cells #[.int .i64 n, .slice l1 o.length l2, .slice c1 o.length c2, .slice none 0 0] 64 (0, 0))] ++ (Hl ++ Hc)) := (S.new gG nN).perm (by first | exact .refl _ | (rw [List.append_assoc]; exact .refl _) | (simp only [List.append_assoc, List.nil_append, List.append_nil]; exact .refl _))
        replace A := A.only [21, 8, 7, 6, 5, 1, 0] rfl
        refine hK10 _ _ ?_
        refine wp_seq_k fun K11 hK11 => ?_
        refine wp_seq_k fun K12 hK12 => ?_
        refine region_seq ?_  -- region 8
        refine Lm A rfl (A.g 7 rfl) fun _ A => Lm A rfl (A.g 8 rfl) fun _ A => Lo A rfl (y_gtr (A.g 34 rfl) (A.g 35 rfl) (c := true) (decide_eq_true hsw) fun _ A => ?_)
        replace A := A.only [36, 21, 8, 7, 6, 5, 1, 0] rfl
        refine hK12 _ _ ?_
        refine wp_cond_true (A.get rfl) ?_
        refine region_seq ?_  -- region 9
        refine Lm A rfl (A.g 8 rfl) fun _ A => Lm A rfl (A.g 7 rfl) fun _ A => La A rfl (A.g 37 rfl) fun _ A => La A rfl (A.g 38 rfl) fun _ A => ?_
        replace A := A.only [36, 21, 8, 7, 6, 5, 1, 0] rfl
        refine hK11 _ _ ?_
        refine wp_seq_k fun K13 hK13 => ?_
        refine wp_seq_k fun K14 hK14 => ?_
        refine region_seq ?_  -- region 10
        refine Lm A rfl (A.g 7 rfl) fun _ A => Lo A rfl (y_lss (A.g 39 rfl) (evc _ _) (c := false) (decide_eq_false t1) fun _ A => ?_)
        refine Lm A rfl (A.g 40 rfl) fun _ A => L_yes A rfl (by decide) rfl rfl (by decide) (A.get rfl) (y_move (A.g 8 rfl) fun _ A => ?_)
        replace A := A.only [42, 41, 36, 21, 8, 7, 6, 5, 1, 0] rfl
        refine L_yes A rfl (by decide) rfl rfl (by decide) (A.get rfl) (y_move (A.g 0 rfl) fun _ A => ?_)
        refine L_yes A rfl (by decide) rfl rfl (by decide) (A.get rfl) (y_gtr (A.g 42 rfl) (A.g 43 rfl) (c := true) (decide_eq_true t2) fun _ A => ?_)
        refine Lo A rfl (y_pickF (A.g 41 rfl) (A.g 44 rfl) fun _ A => ?_)
        refine Lm A rfl (A.g 45 rfl) fun _ A => ?_
        replace A := A.only [46, 36, 21, 8, 7, 6, 5, 1, 0] rfl
        refine L_no A rfl (by decide) rfl rfl (by decide) (A.get rfl) (by decide) fun _ A => ?_
        refine L_no A rfl (by decide) rfl rfl (by decide) (A.get rfl) (by decide) fun _ A => ?_
        refine L_no A rfl (by decide) rfl rfl (by decide) (A.get rfl) (by decide) fun _ A => ?_
        refine Lo A rfl (y_pickT (A.g 46 rfl) (evc _ _) fun _ A => ?_)
        replace A := A.only [50, 36, 21, 8, 7, 6, 5, 1, 0] rfl
        refine Lm A rfl (A.g 50 rfl) fun _ A => L_no A rfl (by decide) rfl rfl (by decide) (A.get rfl) (by decide) fun _ A => ?_
        refine L_no A rfl (by decide) rfl rfl (by decide) (A.get rfl) (by decide) fun _ A => ?_
        refine L_no A rfl (by decide) rfl rfl (by decide) (A.get rfl) (by decide) fun _ A => ?_
        replace A := A.only [54, 53, 52, 51, 36, 21, 8, 7, 6, 5, 1, 0] rfl
        refine L_no A rfl (by decide) rfl rfl (by decide) (A.get rfl) (by decide) fun _ A => ?_
        refine L_no A rfl (by decide) rfl rfl (by decide) (A.get rfl) (by decide) fun _ A => ?_
        refine Lo A rfl (y_pickT (A.g 51 rfl) (evc _ _) fun _ A => ?_)
        replace A := A.only [57, 36, 21, 8, 7, 6, 5, 1, 0] rfl
        refine hK14 _ _ ?_
        refine wp_cond_true (A.get rfl) ?_
        refine wp_seq_k fun K15 hK15 => ?_
        refine region_seq ?_  -- region 11
        refine La A rfl (evc _ _) fun _ A => ?_
        replace A := A.only [57, 36, 21, 8, 7, 6, 5, 4, 1, 0] rfl
        refine hK15 _ _ ?_
        exact wp_ret ⟨A.defers, _, res_run (rs := [.tmp 4]) (vs := [.pointer none]) rfl ⟨A.get rfl, trivial⟩, ⟨_, rfl, S.kp.to_gr, [], Or.inl ⟨hnone, rfl, rfl⟩, NewF.nil _ _⟩⟩
      by_cases t3 : l.2 = l.1
      · have hnone := I.bad hli he (okL_bad (Or.inr (Or.inr (Or.inl t3))))
        refine wp_seq_k fun K7 hK7 => ?_
        refine wp_seq_k fun K8 hK8 => ?_
        refine region_seq ?_  -- region 5
        refine Lm A rfl (A.g 6 rfl) fun _ A => Lm A rfl (A.g 1 rfl) fun _ A => Lo A rfl (y_lenS (e := 28) (by kernel_rfl) (A.g 19 rfl) fun _ A => ?_)
        refine Lo A rfl (y_lss (A.g 18 rfl) (A.g 20 rfl) (c := true) (decide_eq_true (by omega)) fun _ A => ?_)
        replace A := A.only [21, 6, 5, 1, 0] rfl
        refine hK8 _ _ ?_
        refine wp_cond_true (A.get rfl) ?_
        refine wp_skip ?_
        refine hK7 _ _ ?_
        refine wp_seq_k fun K9 hK9 => ?_
        refine wp_block ?_
        refine wp_seq_k fun K10 hK10 => ?_
        refine region_draw A [⟨24, pl (eqv (.slice (some va') ls.length vc)), [], [1], none, false⟩, ⟨25, pl (eqv (.int .i64 (((i : Nat) : Int)))), [], [6], none, false⟩, ⟨26, pl (eqv (.pointer (some (va'.add ((((i : Nat) : Int)).toNat * 2))))), [0, 1], [], none, false⟩, ⟨27, pl (eqv (.pointer (some ((va'.add (((i : Nat) : Int).toNat * 2)).add 0)))), [2], [], none, false⟩, ⟨28, pl (eqv (.int .i64 l.1)), [3], [], none, false⟩, ⟨29, pl (eqv (.slice (some va') ls.length vc)), [], [1], none, false⟩, ⟨30, pl (eqv (.int .i64 (((i : Nat) : Int)))), [], [6], none, false⟩, ⟨31, pl (eqv (.pointer (some (va'.add ((((i : Nat) : Int)).toNat * 2))))), [5, 6], [], none, false⟩, ⟨32, pl (eqv (.pointer (some ((va'.add (((i : Nat) : Int).toNat * 2)).add 1)))), [7], [], none, false⟩, ⟨33, pl (eqv (.int .i64 l.2)), [8], [], none, false⟩, ⟨7, pl (eqv (.int .i64 l.1)), [4], [], none, false⟩, ⟨8, pl (eqv (.int .i64 l.2)), [9], [], none, false⟩] [] (by kernel_rfl) (by kernel_rfl) (fun d _ _ _ _ h => by cases d <;> exact h) ⟨?_, ?_, ?_, ?_, ?_, ?_, ?_, ?_, ?_, ?_, ?_, ?_, trivial⟩ ?_  -- region 7
        · refine due_plain fun ρ w1 G hsrc hold => ?_; obtain ⟨o1, -⟩ := hold; exact y_move (o1.trans (A.g 1 rfl)) y_eq
        · refine due_plain fun ρ w1 G hsrc hold => ?_; obtain ⟨o6, -⟩ := hold; exact y_move (o6.trans (A.g 6 rfl)) y_eq
        · refine due_plain fun ρ w1 G hsrc hold => ?_; obtain ⟨⟨_, _, ⟨h24, -⟩, -⟩, ⟨_, _, ⟨h25, -⟩, -⟩, -⟩ := hsrc; exact y_indexA (e := 28) (size := 2) (by kernel_rfl) (by kernel_rfl) h24 h25 (by omega) (by omega) y_eq
        · refine due_plain fun ρ w1 G hsrc hold => ?_; obtain ⟨⟨_, _, ⟨h26, -⟩, -⟩, -⟩ := hsrc; exact y_indexPR (n := 2) (e := 3) (size := 1) (by kernel_rfl) (by kernel_rfl) h26 (G.const _) (by decide) (by decide) y_eq
        · refine due_plain fun ρ w1 G hsrc hold => ?_; obtain ⟨⟨_, _, ⟨h27, -⟩, -⟩, -⟩ := hsrc; exact y_load (by kernel_rfl) h27 (G.gr.cell' (S.kp.cell' (hrow 0 (Nat.le_of_ble_eq_true rfl)) (by simp))) y_eq
        · refine due_plain fun ρ w1 G hsrc hold => ?_; obtain ⟨o1, -⟩ := hold; exact y_move (o1.trans (A.g 1 rfl)) y_eq
        · refine due_plain fun ρ w1 G hsrc hold => ?_; obtain ⟨o6, -⟩ := hold; exact y_move (o6.trans (A.g 6 rfl)) y_eq
        · refine due_plain fun ρ w1 G hsrc hold => ?_; obtain ⟨⟨_, _, ⟨h29, -⟩, -⟩, ⟨_, _, ⟨h30, -⟩, -⟩, -⟩ := hsrc; exact y_indexA (e := 28) (size := 2) (by kernel_rfl) (by kernel_rfl) h29 h30 (by omega) (by omega) y_eq
        · refine due_plain fun ρ w1 G hsrc hold => ?_; obtain ⟨⟨_, _, ⟨h31, -⟩, -⟩, -⟩ := hsrc; exact y_indexPR (n := 2) (e := 3) (size := 1) (by kernel_rfl) (by kernel_rfl) h31 (G.const _) (by decide) (by decide) y_eq
        · refine due_plain fun ρ w1 G hsrc hold => ?_; obtain ⟨⟨_, _, ⟨h32, -⟩, -⟩, -⟩ := hsrc; exact y_load (by kernel_rfl) h32 (G.gr.cell' (S.kp.cell' (hrow 1 (Nat.le_of_ble_eq_true rfl)) (by simp))) y_eq
        · refine due_plain fun ρ w1 G hsrc hold => ?_; obtain ⟨⟨_, _, ⟨h28, -⟩, -⟩, -⟩ := hsrc; exact y_assign h28 y_eq
        · refine due_plain fun ρ w1 G hsrc hold => ?_; obtain ⟨⟨_, _, ⟨h33, -⟩, -⟩, -⟩ := hsrc; exact y_assign h33 y_eq
        rintro _ _ ⟨rfl, rfl⟩ _ _ ⟨rfl, rfl⟩ _ _ ⟨rfl, rfl⟩ _ _ ⟨rfl, rfl⟩ _ _ ⟨rfl, rfl⟩ _ _ ⟨rfl, rfl⟩ _ _ ⟨rfl, rfl⟩ _ _ ⟨rfl, rfl⟩ _ _ ⟨rfl, rfl⟩ _ _ ⟨rfl, rfl⟩ _ _ ⟨rfl, rfl⟩ _ _ ⟨rfl, rfl⟩
        intro ac w A gG nN
        replace S : St _ _ _ ([(b1, .cells #[.int .i64 n, .slice l1 o.length l2, .slice c1 o.length c2, .slice none 0 0] 64 (0, 0))] ++ (Hl ++ Hc)) := (S.new gG nN).perm (by first | exact .refl _ | (rw [List.append_assoc]; exact .refl _) | (simp only [List.append_assoc, List.nil_append, List.append_nil]; exact .refl _))
        replace A := A.only [21, 8, 7, 6, 5, 1, 0] rfl
        refine hK10 _ _ ?_
        refine wp_seq_k fun K11 hK11 => ?_
        refine wp_seq_k fun K12 hK12 => ?_
        refine region_seq ?_  -- region 8
        refine Lm A rfl (A.g 7 rfl) fun _ A => Lm A rfl (A.g 8 rfl) fun _ A => Lo A rfl (y_gtr (A.g 34 rfl) (A.g 35 rfl) (c := true) (decide_eq_true hsw) fun _ A => ?_)
        replace A := A.only [36, 21, 8, 7, 6, 5, 1, 0] rfl
        refine hK12 _ _ ?_
        refine wp_cond_true (A.get rfl) ?_
        refine region_seq ?_  -- region 9
        refine Lm A rfl (A.g 8 rfl) fun _ A => Lm A rfl (A.g 7 rfl) fun _ A => La A rfl (A.g 37 rfl) fun _ A => La A rfl (A.g 38 rfl) fun _ A => ?_
        replace A := A.only [36, 21, 8, 7, 6, 5, 1, 0] rfl
        refine hK11 _ _ ?_
        refine wp_seq_k fun K13 hK13 => ?_
        refine wp_seq_k fun K14 hK14 => ?_
        refine region_seq ?_  -- region 10
        refine Lm A rfl (A.g 7 rfl) fun _ A => Lo A rfl (y_lss (A.g 39 rfl) (evc _ _) (c := false) (decide_eq_false t1) fun _ A => ?_)
        refine Lm A rfl (A.g 40 rfl) fun _ A => L_yes A rfl (by decide) rfl rfl (by decide) (A.get rfl) (y_move (A.g 8 rfl) fun _ A => ?_)
        replace A := A.only [42, 41, 36, 21, 8, 7, 6, 5, 1, 0] rfl
        refine L_yes A rfl (by decide) rfl rfl (by decide) (A.get rfl) (y_move (A.g 0 rfl) fun _ A => ?_)
        refine L_yes A rfl (by decide) rfl rfl (by decide) (A.get rfl) (y_gtr (A.g 42 rfl) (A.g 43 rfl) (c := false) (decide_eq_false t2) fun _ A => ?_)
        refine Lo A rfl (y_pickF (A.g 41 rfl) (A.g 44 rfl) fun _ A => ?_)
        refine Lm A rfl (A.g 45 rfl) fun _ A => ?_
        replace A := A.only [46, 36, 21, 8, 7, 6, 5, 1, 0] rfl
        refine L_yes A rfl (by decide) rfl rfl (by decide) (A.get rfl) (y_move (A.g 7 rfl) fun _ A => ?_)
        refine L_yes A rfl (by decide) rfl rfl (by decide) (A.get rfl) (y_move (A.g 8 rfl) fun _ A => ?_)
        refine L_yes A rfl (by decide) rfl rfl (by decide) (A.get rfl) (y_eql (A.g 47 rfl) (A.g 48 rfl) (c := true) (by simpa using t3) fun _ A => ?_)
        refine Lo A rfl (y_pickF (A.g 46 rfl) (A.g 49 rfl) fun _ A => ?_)
        replace A := A.only [50, 36, 21, 8, 7, 6, 5, 1, 0] rfl
        refine Lm A rfl (A.g 50 rfl) fun _ A => L_no A rfl (by decide) rfl rfl (by decide) (A.get rfl) (by decide) fun _ A => ?_
        refine L_no A rfl (by decide) rfl rfl (by decide) (A.get rfl) (by decide) fun _ A => ?_
        refine L_no A rfl (by decide) rfl rfl (by decide) (A.get rfl) (by decide) fun _ A => ?_
        replace A := A.only [54, 53, 52, 51, 36, 21, 8, 7, 6, 5, 1, 0] rfl
        refine L_no A rfl (by decide) rfl rfl (by decide) (A.get rfl) (by decide) fun _ A => ?_
        refine L_no A rfl (by decide) rfl rfl (by decide) (A.get rfl) (by decide) fun _ A => ?_
        refine Lo A rfl (y_pickT (A.g 51 rfl) (evc _ _) fun _ A => ?_)
        replace A := A.only [57, 36, 21, 8, 7, 6, 5, 1, 0] rfl
        refine hK14 _ _ ?_
        refine wp_cond_true (A.get rfl) ?_
        refine wp_seq_k fun K15 hK15 => ?_
        refine region_seq ?_  -- region 11
        refine La A rfl (evc _ _) fun _ A => ?_
        replace A := A.only [57, 36, 21, 8, 7, 6, 5, 4, 1, 0] rfl
        refine hK15 _ _ ?_
        exact wp_ret ⟨A.defers, _, res_run (rs := [.tmp 4]) (vs := [.pointer none]) rfl ⟨A.get rfl, trivial⟩, ⟨_, rfl, S.kp.to_gr, [], Or.inl ⟨hnone, rfl, rfl⟩, NewF.nil _ _⟩⟩
      have hxy : l.2 < l.1 := by omega
      have hit := I.hit hxy
      by_cases t4 : 0 ≤ (RM.fresh n o).link (l.2) (l.1)
      · have hnone := I.bad hli he (okL_bad (Or.inr (Or.inr (Or.inr (hit.1 t4)))))
        refine wp_seq_k fun K7 hK7 => ?_
        refine wp_seq_k fun K8 hK8 => ?_
        refine region_seq ?_  -- region 5
        refine Lm A rfl (A.g 6 rfl) fun _ A => Lm A rfl (A.g 1 rfl) fun _ A => Lo A rfl (y_lenS (e := 28) (by kernel_rfl) (A.g 19 rfl) fun _ A => ?_)
        refine Lo A rfl (y_lss (A.g 18 rfl) (A.g 20 rfl) (c := true) (decide_eq_true (by omega)) fun _ A => ?_)
        replace A := A.only [21, 6, 5, 1, 0] rfl
        refine hK8 _ _ ?_
        refine wp_cond_true (A.get rfl) ?_
        refine wp_skip ?_
        refine hK7 _ _ ?_
        refine wp_seq_k fun K9 hK9 => ?_
        refine wp_block ?_
        refine wp_seq_k fun K10 hK10 => ?_
        refine region_draw A [⟨24, pl (eqv (.slice (some va') ls.length vc)), [], [1], none, false⟩, ⟨25, pl (eqv (.int .i64 (((i : Nat) : Int)))), [], [6], none, false⟩, ⟨26, pl (eqv (.pointer (some (va'.add ((((i : Nat) : Int)).toNat * 2))))), [0, 1], [], none, false⟩, ⟨27, pl (eqv (.pointer (some ((va'.add (((i : Nat) : Int).toNat * 2)).add 0)))), [2], [], none, false⟩, ⟨28, pl (eqv (.int .i64 l.1)), [3], [], none, false⟩, ⟨29, pl (eqv (.slice (some va') ls.length vc)), [], [1], none, false⟩, ⟨30, pl (eqv (.int .i64 (((i : Nat) : Int)))), [], [6], none, false⟩, ⟨31, pl (eqv (.pointer (some (va'.add ((((i : Nat) : Int)).toNat * 2))))), [5, 6], [], none, false⟩, ⟨32, pl (eqv (.pointer (some ((va'.add (((i : Nat) : Int).toNat * 2)).add 1)))), [7], [], none, false⟩, ⟨33, pl (eqv (.int .i64 l.2)), [8], [], none, false⟩, ⟨7, pl (eqv (.int .i64 l.1)), [4], [], none, false⟩, ⟨8, pl (eqv (.int .i64 l.2)), [9], [], none, false⟩] [] (by kernel_rfl) (by kernel_rfl) (fun d _ _ _ _ h => by cases d <;> exact h) ⟨?_, ?_, ?_, ?_, ?_, ?_, ?_, ?_, ?_, ?_, ?_, ?_, trivial⟩ ?_  -- region 7
        · refine due_plain fun ρ w1 G hsrc hold => ?_; obtain ⟨o1, -⟩ := hold; exact y_move (o1.trans (A.g 1 rfl)) y_eq
        · refine due_plain fun ρ w1 G hsrc hold => ?_; obtain ⟨o6, -⟩ := hold; exact y_move (o6.trans (A.g 6 rfl)) y_eq
        · refine due_plain fun ρ w1 G hsrc hold => ?_; obtain ⟨⟨_, _, ⟨h24, -⟩, -⟩, ⟨_, _, ⟨h25, -⟩, -⟩, -⟩ := hsrc; exact y_indexA (e := 28) (size := 2) (by kernel_rfl) (by kernel_rfl) h24 h25 (by omega) (by omega) y_eq
        · refine due_plain fun ρ w1 G hsrc hold => ?_; obtain ⟨⟨_, _, ⟨h26, -⟩, -⟩, -⟩ := hsrc; exact y_indexPR (n := 2) (e := 3) (size := 1) (by kernel_rfl) (by kernel_rfl) h26 (G.const _) (by decide) (by decide) y_eq
        · refine due_plain fun ρ w1 G hsrc hold => ?_; obtain ⟨⟨_, _, ⟨h27, -⟩, -⟩, -⟩ := hsrc; exact y_load (by kernel_rfl) h27 (G.gr.cell' (S.kp.cell' (hrow 0 (Nat.le_of_ble_eq_true rfl)) (by simp))) y_eq
        · refine due_plain fun ρ w1 G hsrc hold => ?_; obtain ⟨o1, -⟩ := hold; exact y_move (o1.trans (A.g 1 rfl)) y_eq
        · refine due_plain fun ρ w1 G hsrc hold => ?_; obtain ⟨o6, -⟩ := hold; exact y_move (o6.trans (A.g 6 rfl)) y_eq
        · refine due_plain fun ρ w1 G hsrc hold => ?_; obtain ⟨⟨_, _, ⟨h29, -⟩, -⟩, ⟨_, _, ⟨h30, -⟩, -⟩, -⟩ := hsrc; exact y_indexA (e := 28) (size := 2) (by kernel_rfl) (by kernel_rfl) h29 h30 (by omega) (by omega) y_eq
        · refine due_plain fun ρ w1 G hsrc hold => ?_; obtain ⟨⟨_, _, ⟨h31, -⟩, -⟩, -⟩ := hsrc; exact y_indexPR (n := 2) (e := 3) (size := 1) (by kernel_rfl) (by kernel_rfl) h31 (G.const _) (by decide) (by decide) y_eq
        · refine due_plain fun ρ w1 G hsrc hold => ?_; obtain ⟨⟨_, _, ⟨h32, -⟩, -⟩, -⟩ := hsrc; exact y_load (by kernel_rfl) h32 (G.gr.cell' (S.kp.cell' (hrow 1 (Nat.le_of_ble_eq_true rfl)) (by simp))) y_eq
        · refine due_plain fun ρ w1 G hsrc hold => ?_; obtain ⟨⟨_, _, ⟨h28, -⟩, -⟩, -⟩ := hsrc; exact y_assign h28 y_eq
        · refine due_plain fun ρ w1 G hsrc hold => ?_; obtain ⟨⟨_, _, ⟨h33, -⟩, -⟩, -⟩ := hsrc; exact y_assign h33 y_eq
        rintro _ _ ⟨rfl, rfl⟩ _ _ ⟨rfl, rfl⟩ _ _ ⟨rfl, rfl⟩ _ _ ⟨rfl, rfl⟩ _ _ ⟨rfl, rfl⟩ _ _ ⟨rfl, rfl⟩ _ _ ⟨rfl, rfl⟩ _ _ ⟨rfl, rfl⟩ _ _ ⟨rfl, rfl⟩ _ _ ⟨rfl, rfl⟩ _ _ ⟨rfl, rfl⟩ _ _ ⟨rfl, rfl⟩
        intro ac w A gG nN
        replace S : St _ _ _ ([(b1, .cells #[.int .i64 n, .slice l1 o.length l2, .slice c1 o.length c2, .slice none 0 0] 64 (0, 0))] ++ (Hl ++ Hc)) := (S.new gG nN).perm (by first | exact .refl _ | (rw [List.append_assoc]; exact .refl _) | (simp only [List.append_assoc, List.nil_append, List.append_nil]; exact .refl _))
        replace A := A.only [21, 8, 7, 6, 5, 1, 0] rfl
        refine hK10 _ _ ?_
        refine wp_seq_k fun K11 hK11 => ?_
        refine wp_seq_k fun K12 hK12 => ?_
        refine region_seq ?_  -- region 8
        refine Lm A rfl (A.g 7 rfl) fun _ A => Lm A rfl (A.g 8 rfl) fun _ A => Lo A rfl (y_gtr (A.g 34 rfl) (A.g 35 rfl) (c := true) (decide_eq_true hsw) fun _ A => ?_)
        replace A := A.only [36, 21, 8, 7, 6, 5, 1, 0] rfl
        refine hK12 _ _ ?_
        refine wp_cond_true (A.get rfl) ?_
        refine region_seq ?_  -- region 9
        refine Lm A rfl (A.g 8 rfl) fun _ A => Lm A rfl (A.g 7 rfl) fun _ A => La A rfl (A.g 37 rfl) fun _ A => La A rfl (A.g 38 rfl) fun _ A => ?_
        replace A := A.only [36, 21, 8, 7, 6, 5, 1, 0] rfl
        refine hK11 _ _ ?_
        refine wp_seq_k fun K13 hK13 => ?_
        refine wp_seq_k fun K14 hK14 => ?_
        refine region_seq ?_  -- region 10
        refine Lm A rfl (A.g 7 rfl) fun _ A => Lo A rfl (y_lss (A.g 39 rfl) (evc _ _) (c := false) (decide_eq_false t1) fun _ A => ?_)
        refine Lm A rfl (A.g 40 rfl) fun _ A => L_yes A rfl (by decide) rfl rfl (by decide) (A.get rfl) (y_move (A.g 8 rfl) fun _ A => ?_)
        replace A := A.only [42, 41, 36, 21, 8, 7, 6, 5, 1, 0] rfl
        refine L_yes A rfl (by decide) rfl rfl (by decide) (A.get rfl) (y_move (A.g 0 rfl) fun _ A => ?_)
        refine L_yes A rfl (by decide) rfl rfl (by decide) (A.get rfl) (y_gtr (A.g 42 rfl) (A.g 43 rfl) (c := false) (decide_eq_false t2) fun _ A => ?_)
        refine Lo A rfl (y_pickF (A.g 41 rfl) (A.g 44 rfl) fun _ A => ?_)
        refine Lm A rfl (A.g 45 rfl) fun _ A => ?_
        replace A := A.only [46, 36, 21, 8, 7, 6, 5, 1, 0] rfl
        refine L_yes A rfl (by decide) rfl rfl (by decide) (A.get rfl) (y_move (A.g 7 rfl) fun _ A => ?_)
        refine L_yes A rfl (by decide) rfl rfl (by decide) (A.get rfl) (y_move (A.g 8 rfl) fun _ A => ?_)
        refine L_yes A rfl (by decide) rfl rfl (by decide) (A.get rfl) (y_eql (A.g 47 rfl) (A.g 48 rfl) (c := false) (by simpa using t3) fun _ A => ?_)
        refine Lo A rfl (y_pickF (A.g 46 rfl) (A.g 49 rfl) fun _ A => ?_)
        replace A := A.only [50, 36, 21, 8, 7, 6, 5, 1, 0] rfl
        refine Lm A rfl (A.g 50 rfl) fun _ A => L_yes A rfl (by decide) rfl rfl (by decide) (A.get rfl) (y_move (A.g 5 rfl) fun _ A => ?_)
        refine L_yes A rfl (by decide) rfl rfl (by decide) (A.get rfl) (y_move (A.g 7 rfl) fun _ A => ?_)
        refine L_yes A rfl (by decide) rfl rfl (by decide) (A.get rfl) (y_move (A.g 8 rfl) fun _ A => ?_)
        replace A := A.only [54, 53, 52, 51, 36, 21, 8, 7, 6, 5, 1, 0] rfl
        obtain ⟨la, lc, ca, cc, wa, wc, gs0, hs0⟩ := (show RefRep b1 (RM.fresh n o) _ from ⟨_, _, _, _, _, _, [], I.refp hl, rfl⟩).src (w := w) (by have := S.holds; simpa [refC, RM.fresh, gmH] using this)
        refine L_yes A rfl (by decide) rfl rfl (by decide) (A.get rfl) (y_call3 (by kernel_rfl) rfl (A.g 52 rfl) (A.g 53 rfl) (A.g 54 rfl) (callN (rlink_ok hs0) fun v w H gG nN hf ac A => ?_))
        obtain ⟨rfl, rfl⟩ := hf
        replace S : St _ _ _ ([(b1, .cells #[.int .i64 n, .slice l1 o.length l2, .slice c1 o.length c2, .slice none 0 0] 64 (0, 0))] ++ (Hl ++ Hc)) := (S.new gG nN).perm (by first | exact .refl _ | (rw [List.append_assoc]; exact .refl _) | (simp only [List.append_assoc, List.nil_append, List.append_nil]; exact .refl _))
        refine L_yes A rfl (by decide) rfl rfl (by decide) (A.get rfl) (y_geq (A.g 55 rfl) (evc _ _) (c := true) (decide_eq_true t4) fun _ A => ?_)
        refine Lo A rfl (y_pickF (A.g 51 rfl) (A.g 56 rfl) fun _ A => ?_)
        replace A := A.only [57, 36, 21, 8, 7, 6, 5, 1, 0] rfl
        refine hK14 _ _ ?_
        refine wp_cond_true (A.get rfl) ?_
        refine wp_seq_k fun K15 hK15 => ?_
        refine region_seq ?_  -- region 11
        refine La A rfl (evc _ _) fun _ A => ?_
        replace A := A.only [57, 36, 21, 8, 7, 6, 5, 4, 1, 0] rfl
        refine hK15 _ _ ?_
        exact wp_ret ⟨A.defers, _, res_run (rs := [.tmp 4]) (vs := [.pointer none]) rfl ⟨A.get rfl, trivial⟩, ⟨_, rfl, S.kp.to_gr, [], Or.inl ⟨hnone, rfl, rfl⟩, NewF.nil _ _⟩⟩
      have hok := okL_ok t1 t2 t3 (fun h => t4 (hit.2 h))
      refine wp_seq_k fun K7 hK7 => ?_
      refine wp_seq_k fun K8 hK8 => ?_
      refine region_seq ?_  -- region 5
      refine Lm A rfl (A.g 6 rfl) fun _ A => Lm A rfl (A.g 1 rfl) fun _ A => Lo A rfl (y_lenS (e := 28) (by kernel_rfl) (A.g 19 rfl) fun _ A => ?_)
      refine Lo A rfl (y_lss (A.g 18 rfl) (A.g 20 rfl) (c := true) (decide_eq_true (by omega)) fun _ A => ?_)
      replace A := A.only [21, 6, 5, 1, 0] rfl
      refine hK8 _ _ ?_
      refine wp_cond_true (A.get rfl) ?_
      refine wp_skip ?_
      refine hK7 _ _ ?_
      refine wp_seq_k fun K9 hK9 => ?_
      refine wp_block ?_
      refine wp_seq_k fun K10 hK10 => ?_
      refine region_draw A [⟨24, pl (eqv (.slice (some va') ls.length vc)), [], [1], none, false⟩, ⟨25, pl (eqv (.int .i64 (((i : Nat) : Int)))), [], [6], none, false⟩, ⟨26, pl (eqv (.pointer (some (va'.add ((((i : Nat) : Int)).toNat * 2))))), [0, 1], [], none, false⟩, ⟨27, pl (eqv (.pointer (some ((va'.add (((i : Nat) : Int).toNat * 2)).add 0)))), [2], [], none, false⟩, ⟨28, pl (eqv (.int .i64 l.1)), [3], [], none, false⟩, ⟨29, pl (eqv (.slice (some va') ls.length vc)), [], [1], none, false⟩, ⟨30, pl (eqv (.int .i64 (((i : Nat) : Int)))), [], [6], none, false⟩, ⟨31, pl (eqv (.pointer (some (va'.add ((((i : Nat) : Int)).toNat * 2))))), [5, 6], [], none, false⟩, ⟨32, pl (eqv (.pointer (some ((va'.add (((i : Nat) : Int).toNat * 2)).add 1)))), [7], [], none, false⟩, ⟨33, pl (eqv (.int .i64 l.2)), [8], [], none, false⟩, ⟨7, pl (eqv (.int .i64 l.1)), [4], [], none, false⟩, ⟨8, pl (eqv (.int .i64 l.2)), [9], [], none, false⟩] [] (by kernel_rfl) (by kernel_rfl) (fun d _ _ _ _ h => by cases d <;> exact h) ⟨?_, ?_, ?_, ?_, ?_, ?_, ?_, ?_, ?_, ?_, ?_, ?_, trivial⟩ ?_  -- region 7
      · refine due_plain fun ρ w1 G hsrc hold => ?_; obtain ⟨o1, -⟩ := hold; exact y_move (o1.trans (A.g 1 rfl)) y_eq
      · refine due_plain fun ρ w1 G hsrc hold => ?_; obtain ⟨o6, -⟩ := hold; exact y_move (o6.trans (A.g 6 rfl)) y_eq
      · refine due_plain fun ρ w1 G hsrc hold => ?_; obtain ⟨⟨_, _, ⟨h24, -⟩, -⟩, ⟨_, _, ⟨h25, -⟩, -⟩, -⟩ := hsrc; exact y_indexA (e := 28) (size := 2) (by kernel_rfl) (by kernel_rfl) h24 h25 (by omega) (by omega) y_eq
      · refine due_plain fun ρ w1 G hsrc hold => ?_; obtain ⟨⟨_, _, ⟨h26, -⟩, -⟩, -⟩ := hsrc; exact y_indexPR (n := 2) (e := 3) (size := 1) (by kernel_rfl) (by kernel_rfl) h26 (G.const _) (by decide) (by decide) y_eq
      · refine due_plain fun ρ w1 G hsrc hold => ?_; obtain ⟨⟨_, _, ⟨h27, -⟩, -⟩, -⟩ := hsrc; exact y_load (by kernel_rfl) h27 (G.gr.cell' (S.kp.cell' (hrow 0 (Nat.le_of_ble_eq_true rfl)) (by simp))) y_eq
      · refine due_plain fun ρ w1 G hsrc hold => ?_; obtain ⟨o1, -⟩ := hold; exact y_move (o1.trans (A.g 1 rfl)) y_eq
      · refine due_plain fun ρ w1 G hsrc hold => ?_; obtain ⟨o6, -⟩ := hold; exact y_move (o6.trans (A.g 6 rfl)) y_eq
      · refine due_plain fun ρ w1 G hsrc hold => ?_; obtain ⟨⟨_, _, ⟨h29, -⟩, -⟩, ⟨_, _, ⟨h30, -⟩, -⟩, -⟩ := hsrc; exact y_indexA (e := 28) (size := 2) (by kernel_rfl) (by kernel_rfl) h29 h30 (by omega) (by omega) y_eq
      · refine due_plain fun ρ w1 G hsrc hold => ?_; obtain ⟨⟨_, _, ⟨h31, -⟩, -⟩, -⟩ := hsrc; exact y_indexPR (n := 2) (e := 3) (size := 1) (by kernel_rfl) (by kernel_rfl) h31 (G.const _) (by decide) (by decide) y_eq
      · refine due_plain fun ρ w1 G hsrc hold => ?_; obtain ⟨⟨_, _, ⟨h32, -⟩, -⟩, -⟩ := hsrc; exact y_load (by kernel_rfl) h32 (G.gr.cell' (S.kp.cell' (hrow 1 (Nat.le_of_ble_eq_true rfl)) (by simp))) y_eq
      · refine due_plain fun ρ w1 G hsrc hold => ?_; obtain ⟨⟨_, _, ⟨h28, -⟩, -⟩, -⟩ := hsrc; exact y_assign h28 y_eq
      · refine due_plain fun ρ w1 G hsrc hold => ?_; obtain ⟨⟨_, _, ⟨h33, -⟩, -⟩, -⟩ := hsrc; exact y_assign h33 y_eq
      rintro _ _ ⟨rfl, rfl⟩ _ _ ⟨rfl, rfl⟩ _ _ ⟨rfl, rfl⟩ _ _ ⟨rfl, rfl⟩ _ _ ⟨rfl, rfl⟩ _ _ ⟨rfl, rfl⟩ _ _ ⟨rfl, rfl⟩ _ _ ⟨rfl, rfl⟩ _ _ ⟨rfl, rfl⟩ _ _ ⟨rfl, rfl⟩ _ _ ⟨rfl, rfl⟩ _ _ ⟨rfl, rfl⟩
      intro ac w A gG nN
      replace S : St _ _ _ ([(b1, .cells #[.int .i64 n, .slice l1 o.length l2, .slice c1 o.length c2, .slice none 0 0] 64 (0, 0))] ++ (Hl ++ Hc)) := (S.new gG nN).perm (by first | exact .refl _ | (rw [List.append_assoc]; exact .refl _) | (simp only [List.append_assoc, List.nil_append, List.append_nil]; exact .refl _))
      replace A := A.only [21, 8, 7, 6, 5, 1, 0] rfl
      refine hK10 _ _ ?_
      refine wp_seq_k fun K11 hK11 => ?_
      refine wp_seq_k fun K12 hK12 => ?_
      refine region_seq ?_  -- region 8
      refine Lm A rfl (A.g 7 rfl) fun _ A => Lm A rfl (A.g 8 rfl) fun _ A => Lo A rfl (y_gtr (A.g 34 rfl) (A.g 35 rfl) (c := true) (decide_eq_true hsw) fun _ A => ?_)
      replace A := A.only [36, 21, 8, 7, 6, 5, 1, 0] rfl
      refine hK12 _ _ ?_
      refine wp_cond_true (A.get rfl) ?_
      refine region_seq ?_  -- region 9
      refine Lm A rfl (A.g 8 rfl) fun _ A => Lm A rfl (A.g 7 rfl) fun _ A => La A rfl (A.g 37 rfl) fun _ A => La A rfl (A.g 38 rfl) fun _ A => ?_
      replace A := A.only [36, 21, 8, 7, 6, 5, 1, 0] rfl
      refine hK11 _ _ ?_
      refine wp_seq_k fun K13 hK13 => ?_
      refine wp_seq_k fun K14 hK14 => ?_
      refine region_seq ?_  -- region 10
      refine Lm A rfl (A.g 7 rfl) fun _ A => Lo A rfl (y_lss (A.g 39 rfl) (evc _ _) (c := false) (decide_eq_false t1) fun _ A => ?_)
      refine Lm A rfl (A.g 40 rfl) fun _ A => L_yes A rfl (by decide) rfl rfl (by decide) (A.get rfl) (y_move (A.g 8 rfl) fun _ A => ?_)
      replace A := A.only [42, 41, 36, 21, 8, 7, 6, 5, 1, 0] rfl
      refine L_yes A rfl (by decide) rfl rfl (by decide) (A.get rfl) (y_move (A.g 0 rfl) fun _ A => ?_)
      refine L_yes A rfl (by decide) rfl rfl (by decide) (A.get rfl) (y_gtr (A.g 42 rfl) (A.g 43 rfl) (c := false) (decide_eq_false t2) fun _ A => ?_)
      refine Lo A rfl (y_pickF (A.g 41 rfl) (A.g 44 rfl) fun _ A => ?_)
      refine Lm A rfl (A.g 45 rfl) fun _ A => ?_
      replace A := A.only [46, 36, 21, 8, 7, 6, 5, 1, 0] rfl
      refine L_yes A rfl (by decide) rfl rfl (by decide) (A.get rfl) (y_move (A.g 7 rfl) fun _ A => ?_)
      refine L_yes A rfl (by decide) rfl rfl (by decide) (A.get rfl) (y_move (A.g 8 rfl) fun _ A => ?_)
      refine L_yes A rfl (by decide) rfl rfl (by decide) (A.get rfl) (y_eql (A.g 47 rfl) (A.g 48 rfl) (c := false) (by simpa using t3) fun _ A => ?_)
      refine Lo A rfl (y_pickF (A.g 46 rfl) (A.g 49 rfl) fun _ A => ?_)
      replace A := A.only [50, 36, 21, 8, 7, 6, 5, 1, 0] rfl
      refine Lm A rfl (A.g 50 rfl) fun _ A => L_yes A rfl (by decide) rfl rfl (by decide) (A.get rfl) (y_move (A.g 5 rfl) fun _ A => ?_)
      refine L_yes A rfl (by decide) rfl rfl (by decide) (A.get rfl) (y_move (A.g 7 rfl) fun _ A => ?_)
      refine L_yes A rfl (by decide) rfl rfl (by decide) (A.get rfl) (y_move (A.g 8 rfl) fun _ A => ?_)
      replace A := A.only [54, 53, 52, 51, 36, 21, 8, 7, 6, 5, 1, 0] rfl
      obtain ⟨la, lc, ca, cc, wa, wc, gs0, hs0⟩ := (show RefRep b1 (RM.fresh n o) _ from ⟨_, _, _, _, _, _, [], I.refp hl, rfl⟩).src (w := w) (by have := S.holds; simpa [refC, RM.fresh, gmH] using this)
      refine L_yes A rfl (by decide) rfl rfl (by decide) (A.get rfl) (y_call3 (by kernel_rfl) rfl (A.g 52 rfl) (A.g 53 rfl) (A.g 54 rfl) (callN (rlink_ok hs0) fun v w H gG nN hf ac A => ?_))
      obtain ⟨rfl, rfl⟩ := hf
      replace S : St _ _ _ ([(b1, .cells #[.int .i64 n, .slice l1 o.length l2, .slice c1 o.length c2, .slice none 0 0] 64 (0, 0))] ++ (Hl ++ Hc)) := (S.new gG nN).perm (by first | exact .refl _ | (rw [List.append_assoc]; exact .refl _) | (simp only [List.append_assoc, List.nil_append, List.append_nil]; exact .refl _))
      refine L_yes A rfl (by decide) rfl rfl (by decide) (A.get rfl) (y_geq (A.g 55 rfl) (evc _ _) (c := false) (decide_eq_false t4) fun _ A => ?_)
      refine Lo A rfl (y_pickF (A.g 51 rfl) (A.g 56 rfl) fun _ A => ?_)
      replace A := A.only [57, 36, 21, 8, 7, 6, 5, 1, 0] rfl
      refine hK14 _ _ ?_
      refine wp_cond_false (A.get rfl) ?_
      refine wp_skip ?_
      refine hK13 _ _ ?_
      refine wp_seq_k fun K15 hK15 => ?_
      refine region_seq ?_  -- region 12
      refine Lm A rfl (A.g 5 rfl) fun _ A => Lm A rfl (A.g 5 rfl) fun _ A => Lo A rfl (y_nilCheck (A.g 59 rfl) fun _ A => ?_)
      refine Lo A rfl (y_fieldAddr (off := 1) (j := 1) (by kernel_rfl) (A.g 60 rfl) (by first | rfl | omega) fun _ A => ?_)
      replace A := A.only [61, 58, 57, 36, 21, 8, 7, 6, 5, 1, 0] rfl
      refine Lo A rfl (y_load (by kernel_rfl) (A.g 61 rfl) ((cell_of (S.get 0 rfl) _).trans rfl) fun _ A => ?_)
      refine Lm A rfl (A.g 7 rfl) fun _ A => Lm A rfl (A.g 8 rfl) fun _ A => Lo A rfl (y_build2 (A.g 63 rfl) (A.g 64 rfl) (v := .agg #[.int .i64 l.2, .int .i64 l.1]) (by kernel_rfl) fun _ A => ?_)
      replace A := A.only [65, 62, 58, 57, 36, 21, 8, 7, 6, 5, 1, 0] rfl
      refine Lo A rfl (y_buildSlice1 (c := #[.int .i64 l.2, .int .i64 l.1]) (e := 28) (A.g 65 rfl) (fun w => by kernel_rfl) fun b2 w gG nN ac A => ?_)
      replace S : St _ _ _ ([(b2, .cells #[.int .i64 l.2, .int .i64 l.1] 28 (0, 0)), (b1, .cells #[.int .i64 n, .slice l1 o.length l2, .slice c1 o.length c2, .slice none 0 0] 64 (0, 0))] ++ (Hl ++ Hc)) := (S.new gG nN).perm (by first | exact .refl _ | (rw [List.append_assoc]; exact .refl _) | (simp only [List.append_assoc, List.nil_append, List.append_nil]; exact .refl _))
      have hsrc : Src w 2 (.slice (some ⟨b2, 0, none⟩) 1 1) 1 [.int .i64 l.2, .int .i64 l.1] := ⟨rfl, Or.inr ⟨_, _, rfl, cells_at (S.get 0 rfl) rfl⟩⟩
      replace S : St _ _ _ (Hl ++ ([(b2, .cells #[.int .i64 l.2, .int .i64 l.1] 28 (0, 0)), (b1, .cells #[.int .i64 n, .slice l1 o.length l2, .slice c1 o.length c2, .slice none 0 0] 64 (0, 0))] ++ Hc)) := S.perm (by classical rw [List.perm_iff_count]; intro x; simp only [List.count_append, List.count_cons, List.count_nil] <;> omega)
      refine Lo A rfl (y_append okPS (by kernel_rfl) (A.g 62 rfl) (A.g 66 rfl) (H := Hl) S I.lnk hsrc (one_all rfl) (by omega) (by omega) fun v2 w Hl2 hr2 S ac A => ?_)
      obtain ⟨x1, x2, rfl⟩ := hr2.len
      replace S : St _ _ _ ([(b2, .cells #[.int .i64 l.2, .int .i64 l.1] 28 (0, 0)), (b1, .cells #[.int .i64 n, .slice l1 o.length l2, .slice c1 o.length c2, .slice none 0 0] 64 (0, 0))] ++ (Hc ++ Hl2)) := S.perm (by classical rw [List.perm_iff_count]; intro x; simp only [List.count_append, List.count_cons, List.count_nil] <;> omega)
      refine Lo A rfl (y_nilCheck (A.g 58 rfl) fun _ A => ?_)
      refine Lo A rfl (y_fieldAddr (off := 1) (j := 1) (by kernel_rfl) (A.g 68 rfl) (by first | rfl | omega) fun _ A => ?_)
      replace A := A.only [69, 67, 57, 36, 21, 8, 7, 6, 5, 1, 0] rfl
      refine L_opN A rfl rfl (y_store 1 (by kernel_rfl) (A.g 69 rfl) (A.g 67 rfl) (S.get 1 rfl) rfl (Nat.le_of_ble_eq_true rfl) (one_all rfl) ?_)
      replace S : St _ _ _ ([(b2, .cells #[.int .i64 l.2, .int .i64 l.1] 28 (0, 0)), (b1, .cells #[.int .i64 n, .slice x1 (o.length + 1) x2, .slice c1 o.length c2, .slice none 0 0] 64 (0, 0))] ++ (Hc ++ Hl2)) := S.setAt 1 rfl _
      replace A := A.only [57, 36, 21, 8, 7, 6, 5, 1, 0] rfl
      refine hK15 _ _ ?_
      refine region_seq ?_  -- region 13
      refine Lm A rfl (A.g 5 rfl) fun _ A => Lm A rfl (A.g 5 rfl) fun _ A => Lo A rfl (y_nilCheck (A.g 71 rfl) fun _ A => ?_)
      refine Lo A rfl (y_fieldAddr (off := 2) (j := 2) (by kernel_rfl) (A.g 72 rfl) (by first | rfl | omega) fun _ A => ?_)
      replace A := A.only [73, 70, 57, 36, 21, 8, 7, 6, 5, 1, 0] rfl
      refine Lo A rfl (y_load (by kernel_rfl) (A.g 73 rfl) ((cell_of (S.get 1 rfl) _).trans rfl) fun _ A => ?_)
      refine Lo A rfl (y_buildSlice1 (c := #[.bool false]) (e := 4) (evc _ _) (fun w => by kernel_rfl) fun b3 w gG nN ac A => ?_)
      replace S : St _ _ _ ([(b3, .cells #[.bool false] 4 (0, 0)), (b2, .cells #[.int .i64 l.2, .int .i64 l.1] 28 (0, 0)), (b1, .cells #[.int .i64 n, .slice x1 (o.length + 1) x2, .slice c1 o.length c2, .slice none 0 0] 64 (0, 0))] ++ (Hc ++ Hl2)) := (S.new gG nN).perm (by first | exact .refl _ | (rw [List.append_assoc]; exact .refl _) | (simp only [List.append_assoc, List.nil_append, List.append_nil]; exact .refl _))
      have hsrc : Src w 1 (.slice (some ⟨b3, 0, none⟩) 1 1) 1 [.bool false] := ⟨rfl, Or.inr ⟨_, _, rfl, cells_at (S.get 0 rfl) rfl⟩⟩
      replace S : St _ _ _ (Hc ++ ([(b3, .cells #[.bool false] 4 (0, 0)), (b2, .cells #[.int .i64 l.2, .int .i64 l.1] 28 (0, 0)), (b1, .cells #[.int .i64 n, .slice x1 (o.length + 1) x2, .slice c1 o.length c2, .slice none 0 0] 64 (0, 0))] ++ Hl2)) := S.perm (by classical rw [List.perm_iff_count]; intro x; simp only [List.count_append, List.count_cons, List.count_nil] <;> omega)
      refine Lo A rfl (y_append okBO (by kernel_rfl) (A.g 74 rfl) (A.g 75 rfl) (H := Hc) S I.cts hsrc (one_all rfl) (by omega) (by omega) fun v2 w Hc2 hr3 S ac A => ?_)
      obtain ⟨y1, y2, rfl⟩ := hr3.len
      replace S : St _ _ _ ([(b3, .cells #[.bool false] 4 (0, 0)), (b2, .cells #[.int .i64 l.2, .int .i64 l.1] 28 (0, 0)), (b1, .cells #[.int .i64 n, .slice x1 (o.length + 1) x2, .slice c1 o.length c2, .slice none 0 0] 64 (0, 0))] ++ (Hl2 ++ Hc2)) := S.perm (by classical rw [List.perm_iff_count]; intro x; simp only [List.count_append, List.count_cons, List.count_nil] <;> omega)
      refine Lo A rfl (y_nilCheck (A.g 70 rfl) fun _ A => ?_)
      replace A := A.only [77, 76, 57, 36, 21, 8, 7, 6, 5, 1, 0] rfl
      refine Lo A rfl (y_fieldAddr (off := 2) (j := 2) (by kernel_rfl) (A.g 77 rfl) (by first | rfl | omega) fun _ A => ?_)
      refine L_opN A rfl rfl (y_store 1 (by kernel_rfl) (A.g 78 rfl) (A.g 76 rfl) (S.get 2 rfl) rfl (Nat.le_of_ble_eq_true rfl) (one_all rfl) ?_)
      replace S : St _ _ _ ([(b3, .cells #[.bool false] 4 (0, 0)), (b2, .cells #[.int .i64 l.2, .int .i64 l.1] 28 (0, 0)), (b1, .cells #[.int .i64 n, .slice x1 (o.length + 1) x2, .slice y1 (o.length + 1) y2, .slice none 0 0] 64 (0, 0))] ++ (Hl2 ++ Hc2)) := S.setAt 2 rfl _
      replace A := A.only [57, 36, 21, 8, 7, 6, 5, 1, 0] rfl
      refine hK9 _ _ ?_
      refine region_seq ?_  -- region 6
      refine Lm A rfl (A.g 6 rfl) fun _ A => Lo A rfl (y_add (A.g 22 rfl) (evc _ _) (c := ((i + 1 : Nat) : Int)) ((wrap64 (by omega)).trans (by omega)) fun _ A => ?_)
      refine La A rfl (A.g 23 rfl) fun _ A => ?_
      replace A := A.only [57, 36, 21, 8, 7, 6, 5, 1, 0] rfl
      replace A := A.only [6, 5, 1, 0] rfl
      replace S : St _ _ _ ([(b1, .cells #[.int .i64 n, .slice x1 (o.length + 1) x2, .slice y1 (o.length + 1) y2, .slice none 0 0] 64 (0, 0))] ++ (Hl2 ++ Hc2)) := St.app_left (K := [(b3, .cells #[.bool false] 4 (0, 0)), (b2, .cells #[.int .i64 l.2, .int .i64 l.1] 28 (0, 0))]) (S.perm (by classical rw [List.perm_iff_count]; intro x; simp only [List.count_append, List.count_cons, List.count_nil] <;> omega))
      exact ⟨kk - 1, by omega, i + 1, _, _, _, _, _, by omega, A, S, I.next hli he hok hxy hr2 hr3⟩
    · have he : ends l.1 l.2 = (l.1, l.2) := by unfold ends; rw [Prod.mk.injEq]; omega
      by_cases t1 : l.1 < 1
      · have hnone := I.bad hli he (okL_bad (Or.inl t1))
        refine wp_seq_k fun K7 hK7 => ?_
        refine wp_seq_k fun K8 hK8 => ?_
        refine region_seq ?_  -- region 5
        refine Lm A rfl (A.g 6 rfl) fun _ A => Lm A rfl (A.g 1 rfl) fun _ A => Lo A rfl (y_lenS (e := 28) (by kernel_rfl) (A.g 19 rfl) fun _ A => ?_)
        refine Lo A rfl (y_lss (A.g 18 rfl) (A.g 20 rfl) (c := true) (decide_eq_true (by omega)) fun _ A => ?_)
        replace A := A.only [21, 6, 5, 1, 0] rfl
        refine hK8 _ _ ?_
        refine wp_cond_true (A.get rfl) ?_
        refine wp_skip ?_
        refine hK7 _ _ ?_
        refine wp_seq_k fun K9 hK9 => ?_
        refine wp_block ?_
        refine wp_seq_k fun K10 hK10 => ?_
        refine region_draw A [⟨24, pl (eqv (.slice (some va') ls.length vc)), [], [1], none, false⟩, ⟨25, pl (eqv (.int .i64 (((i : Nat) : Int)))), [], [6], none, false⟩, ⟨26, pl (eqv (.pointer (some (va'.add ((((i : Nat) : Int)).toNat * 2))))), [0, 1], [], none, false⟩, ⟨27, pl (eqv (.pointer (some ((va'.add (((i : Nat) : Int).toNat * 2)).add 0)))), [2], [], none, false⟩, ⟨28, pl (eqv (.int .i64 l.1)), [3], [], none, false⟩, ⟨29, pl (eqv (.slice (some va') ls.length vc)), [], [1], none, false⟩, ⟨30, pl (eqv (.int .i64 (((i : Nat) : Int)))), [], [6], none, false⟩, ⟨31, pl (eqv (.pointer (some (va'.add ((((i : Nat) : Int)).toNat * 2))))), [5, 6], [], none, false⟩, ⟨32, pl (eqv (.pointer (some ((va'.add (((i : Nat) : Int).toNat * 2)).add 1)))), [7], [], none, false⟩, ⟨33, pl (eqv (.int .i64 l.2)), [8], [], none, false⟩, ⟨7, pl (eqv (.int .i64 l.1)), [4], [], none, false⟩, ⟨8, pl (eqv (.int .i64 l.2)), [9], [], none, false⟩] [] (by kernel_rfl) (by kernel_rfl) (fun d _ _ _ _ h => by cases d <;> exact h) ⟨?_, ?_, ?_, ?_, ?_, ?_, ?_, ?_, ?_, ?_, ?_, ?_, trivial⟩ ?_  -- region 7
        · refine due_plain fun ρ w1 G hsrc hold => ?_; obtain ⟨o1, -⟩ := hold; exact y_move (o1.trans (A.g 1 rfl)) y_eq
        · refine due_plain fun ρ w1 G hsrc hold => ?_; obtain ⟨o6, -⟩ := hold; exact y_move (o6.trans (A.g 6 rfl)) y_eq
        · refine due_plain fun ρ w1 G hsrc hold => ?_; obtain ⟨⟨_, _, ⟨h24, -⟩, -⟩, ⟨_, _, ⟨h25, -⟩, -⟩, -⟩ := hsrc; exact y_indexA (e := 28) (size := 2) (by kernel_rfl) (by kernel_rfl) h24 h25 (by omega) (by omega) y_eq
        · refine due_plain fun ρ w1 G hsrc hold => ?_; obtain ⟨⟨_, _, ⟨h26, -⟩, -⟩, -⟩ := hsrc; exact y_indexPR (n := 2) (e := 3) (size := 1) (by kernel_rfl) (by kernel_rfl) h26 (G.const _) (by decide) (by decide) y_eq
        · refine due_plain fun ρ w1 G hsrc hold => ?_; obtain ⟨⟨_, _, ⟨h27, -⟩, -⟩, -⟩ := hsrc; exact y_load (by kernel_rfl) h27 (G.gr.cell' (S.kp.cell' (hrow 0 (Nat.le_of_ble_eq_true rfl)) (by simp))) y_eq
        · refine due_plain fun ρ w1 G hsrc hold => ?_; obtain ⟨o1, -⟩ := hold; exact y_move (o1.trans (A.g 1 rfl)) y_eq
        · refine due_plain fun ρ w1 G hsrc hold => ?_; obtain ⟨o6, -⟩ := hold; exact y_move (o6.trans (A.g 6 rfl)) y_eq
        · refine due_plain fun ρ w1 G hsrc hold => ?_; obtain ⟨⟨_, _, ⟨h29, -⟩, -⟩, ⟨_, _, ⟨h30, -⟩, -⟩, -⟩ := hsrc; exact y_indexA (e := 28) (size := 2) (by kernel_rfl) (by kernel_rfl) h29 h30 (by omega) (by omega) y_eq
        · refine due_plain fun ρ w1 G hsrc hold => ?_; obtain ⟨⟨_, _, ⟨h31, -⟩, -⟩, -⟩ := hsrc; exact y_indexPR (n := 2) (e := 3) (size := 1) (by kernel_rfl) (by kernel_rfl) h31 (G.const _) (by decide) (by decide) y_eq
        · refine due_plain fun ρ w1 G hsrc hold => ?_; obtain ⟨⟨_, _, ⟨h32, -⟩, -⟩, -⟩ := hsrc; exact y_load (by kernel_rfl) h32 (G.gr.cell' (S.kp.cell' (hrow 1 (Nat.le_of_ble_eq_true rfl)) (by simp))) y_eq
        · refine due_plain fun ρ w1 G hsrc hold => ?_; obtain ⟨⟨_, _, ⟨h28, -⟩, -⟩, -⟩ := hsrc; exact y_assign h28 y_eq
        · refine due_plain fun ρ w1 G hsrc hold => ?_; obtain ⟨⟨_, _, ⟨h33, -⟩, -⟩, -⟩ := hsrc; exact y_assign h33 y_eq
        rintro _ _ ⟨rfl, rfl⟩ _ _ ⟨rfl, rfl⟩ _ _ ⟨rfl, rfl⟩ _ _ ⟨rfl, rfl⟩ _ _ ⟨rfl, rfl⟩ _ _ ⟨rfl, rfl⟩ _ _ ⟨rfl, rfl⟩ _ _ ⟨rfl, rfl⟩ _ _ ⟨rfl, rfl⟩ _ _ ⟨rfl, rfl⟩ _ _ ⟨rfl, rfl⟩ _ _ ⟨rfl, rfl⟩
        intro ac w A gG nN
        replace S : St _ _ _ ([(b1, .cells #[.int .i64 n, .slice l1 o.length l2, .slice c1 o.length c2, .slice none 0 0] 64 (0, 0))] ++ (Hl ++ Hc)) := (S.new gG nN).perm (by first | exact .refl _ | (rw [List.append_assoc]; exact .refl _) | (simp only [List.append_assoc, List.nil_append, List.append_nil]; exact .refl _))
        replace A := A.only [21, 8, 7, 6, 5, 1, 0] rfl
        refine hK10 _ _ ?_
        refine wp_seq_k fun K11 hK11 => ?_
        refine wp_seq_k fun K12 hK12 => ?_
        refine region_seq ?_  -- region 8
        refine Lm A rfl (A.g 7 rfl) fun _ A => Lm A rfl (A.g 8 rfl) fun _ A => Lo A rfl (y_gtr (A.g 34 rfl) (A.g 35 rfl) (c := false) (decide_eq_false hsw) fun _ A => ?_)
        replace A := A.only [36, 21, 8, 7, 6, 5, 1, 0] rfl
        refine hK12 _ _ ?_
        refine wp_cond_false (A.get rfl) ?_
        refine wp_skip ?_
        refine hK11 _ _ ?_
        refine wp_seq_k fun K13 hK13 => ?_
        refine wp_seq_k fun K14 hK14 => ?_
        refine region_seq ?_  -- region 10
        refine Lm A rfl (A.g 7 rfl) fun _ A => Lo A rfl (y_lss (A.g 39 rfl) (evc _ _) (c := true) (decide_eq_true t1) fun _ A => ?_)
        refine Lm A rfl (A.g 40 rfl) fun _ A => L_no A rfl (by decide) rfl rfl (by decide) (A.get rfl) (by decide) fun _ A => ?_
        replace A := A.only [42, 41, 36, 21, 8, 7, 6, 5, 1, 0] rfl
        refine L_no A rfl (by decide) rfl rfl (by decide) (A.get rfl) (by decide) fun _ A => ?_
        refine L_no A rfl (by decide) rfl rfl (by decide) (A.get rfl) (by decide) fun _ A => ?_
        refine Lo A rfl (y_pickT (A.g 41 rfl) (evc _ _) fun _ A => ?_)
        refine Lm A rfl (A.g 45 rfl) fun _ A => ?_
        replace A := A.only [46, 36, 21, 8, 7, 6, 5, 1, 0] rfl
        refine L_no A rfl (by decide) rfl rfl (by decide) (A.get rfl) (by decide) fun _ A => ?_
        refine L_no A rfl (by decide) rfl rfl (by decide) (A.get rfl) (by decide) fun _ A => ?_
        refine L_no A rfl (by decide) rfl rfl (by decide) (A.get rfl) (by decide) fun _ A => ?_
        refine Lo A rfl (y_pickT (A.g 46 rfl) (evc _ _) fun _ A => ?_)
        replace A := A.only [50, 36, 21, 8, 7, 6, 5, 1, 0] rfl
        refine Lm A rfl (A.g 50 rfl) fun _ A => L_no A rfl (by decide) rfl rfl (by decide) (A.get rfl) (by decide) fun _ A => ?_
        refine L_no A rfl (by decide) rfl rfl (by decide) (A.get rfl) (by decide) fun _ A => ?_
        refine L_no A rfl (by decide) rfl rfl (by decide) (A.get rfl) (by decide) fun _ A => ?_
        replace A := A.only [54, 53, 52, 51, 36, 21, 8, 7, 6, 5, 1, 0] rfl
        refine L_no A rfl (by decide) rfl rfl (by decide) (A.get rfl) (by decide) fun _ A => ?_
        refine L_no A rfl (by decide) rfl rfl (by decide) (A.get rfl) (by decide) fun _ A => ?_
        refine Lo A rfl (y_pickT (A.g 51 rfl) (evc _ _) fun _ A => ?_)
        replace A := A.only [57, 36, 21, 8, 7, 6, 5, 1, 0] rfl
        refine hK14 _ _ ?_
        refine wp_cond_true (A.get rfl) ?_
        refine wp_seq_k fun K15 hK15 => ?_
        refine region_seq ?_  -- region 11
        refine La A rfl (evc _ _) fun _ A => ?_
        replace A := A.only [57, 36, 21, 8, 7, 6, 5, 4, 1, 0] rfl
        refine hK15 _ _ ?_
        exact wp_ret ⟨A.defers, _, res_run (rs := [.tmp 4]) (vs := [.pointer none]) rfl ⟨A.get rfl, trivial⟩, ⟨_, rfl, S.kp.to_gr, [], Or.inl ⟨hnone, rfl, rfl⟩, NewF.nil _ _⟩⟩
      by_cases t2 : n < l.2
      · have hnone := I.bad hli he (okL_bad (Or.inr (Or.inl t2)))
        refine wp_seq_k fun K7 hK7 => ?_
        refine wp_seq_k fun K8 hK8 => ?_
        refine region_seq ?_  -- region 5
        refine Lm A rfl (A.g 6 rfl) fun _ A => Lm A rfl (A.g 1 rfl) fun _ A => Lo A rfl (y_lenS (e := 28) (by kernel_rfl) (A.g 19 rfl) fun _ A => ?_)
        refine Lo A rfl (y_lss (A.g 18 rfl) (A.g 20 rfl) (c := true) (decide_eq_true (by omega)) fun _ A => ?_)
        replace A := A.only [21, 6, 5, 1, 0] rfl
        refine hK8 _ _ ?_
        refine wp_cond_true (A.get rfl) ?_
        refine wp_skip ?_
        refine hK7 _ _ ?_
        refine wp_seq_k fun K9 hK9 => ?_
        refine wp_block ?_
        refine wp_seq_k fun K10 hK10 => ?_
        refine region_draw A [⟨24, pl (eqv (.slice (some va') ls.length vc)), [], [1], none, false⟩, ⟨25, pl (eqv (.int .i64 (((i : Nat) : Int)))), [], [6], none, false⟩, ⟨26, pl (eqv (.pointer (some (va'.add ((((i : Nat) : Int)).toNat * 2))))), [0, 1], [], none, false⟩, ⟨27, pl (eqv (.pointer (some ((va'.add (((i : Nat) : Int).toNat * 2)).add 0)))), [2], [], none, false⟩, ⟨28, pl (eqv (.int .i64 l.1)), [3], [], none, false⟩, ⟨29, pl (eqv (.slice (some va') ls.length vc)), [], [1], none, false⟩, ⟨30, pl (eqv (.int .i64 (((i : Nat) : Int)))), [], [6], none, false⟩, ⟨31, pl (eqv (.pointer (some (va'.add ((((i : Nat) : Int)).toNat * 2))))), [5, 6], [], none, false⟩, ⟨32, pl (eqv (.pointer (some ((va'.add (((i : Nat) : Int).toNat * 2)).add 1)))), [7], [], none, false⟩, ⟨33, pl (eqv (.int .i64 l.2)), [8], [], none, false⟩, ⟨7, pl (eqv (.int .i64 l.1)), [4], [], none, false⟩, ⟨8, pl (eqv (.int .i64 l.2)), [9], [], none, false⟩] [] (by kernel_rfl) (by kernel_rfl) (fun d _ _ _ _ h => by cases d <;> exact h) ⟨?_, ?_, ?_, ?_, ?_, ?_, ?_, ?_, ?_, ?_, ?_, ?_, trivial⟩ ?_  -- region 7
        · refine due_plain fun ρ w1 G hsrc hold => ?_; obtain ⟨o1, -⟩ := hold; exact y_move (o1.trans (A.g 1 rfl)) y_eq
        · refine due_plain fun ρ w1 G hsrc hold => ?_; obtain ⟨o6, -⟩ := hold; exact y_move (o6.trans (A.g 6 rfl)) y_eq
        · refine due_plain fun ρ w1 G hsrc hold => ?_; obtain ⟨⟨_, _, ⟨h24, -⟩, -⟩, ⟨_, _, ⟨h25, -⟩, -⟩, -⟩ := hsrc; exact y_indexA (e := 28) (size := 2) (by kernel_rfl) (by kernel_rfl) h24 h25 (by omega) (by omega) y_eq
        · refine due_plain fun ρ w1 G hsrc hold => ?_; obtain ⟨⟨_, _, ⟨h26, -⟩, -⟩, -⟩ := hsrc; exact y_indexPR (n := 2) (e := 3) (size := 1) (by kernel_rfl) (by kernel_rfl) h26 (G.const _) (by decide) (by decide) y_eq
        · refine due_plain fun ρ w1 G hsrc hold => ?_; obtain ⟨⟨_, _, ⟨h27, -⟩, -⟩, -⟩ := hsrc; exact y_load (by kernel_rfl) h27 (G.gr.cell' (S.kp.cell' (hrow 0 (Nat.le_of_ble_eq_true rfl)) (by simp))) y_eq
        · refine due_plain fun ρ w1 G hsrc hold => ?_; obtain ⟨o1, -⟩ := hold; exact y_move (o1.trans (A.g 1 rfl)) y_eq
        · refine due_plain fun ρ w1 G hsrc hold => ?_; obtain ⟨o6, -⟩ := hold; exact y_move (o6.trans (A.g 6 rfl)) y_eq
        · refine due_plain fun ρ w1 G hsrc hold => ?_; obtain ⟨⟨_, _, ⟨h29, -⟩, -⟩, ⟨_, _, ⟨h30, -⟩, -⟩, -⟩ := hsrc; exact y_indexA (e := 28) (size := 2) (by kernel_rfl) (by kernel_rfl) h29 h30 (by omega) (by omega) y_eq
        · refine due_plain fun ρ w1 G hsrc hold => ?_; obtain ⟨⟨_, _, ⟨h31, -⟩, -⟩, -⟩ := hsrc; exact y_indexPR (n := 2) (e := 3) (size := 1) (by kernel_rfl) (by kernel_rfl) h31 (G.const _) (by decide) (by decide) y_eq
        · refine due_plain fun ρ w1 G hsrc hold => ?_; obtain ⟨⟨_, _, ⟨h32, -⟩, -⟩, -⟩ := hsrc; exact y_load (by kernel_rfl) h32 (G.gr.cell' (S.kp.cell' (hrow 1 (Nat.le_of_ble_eq_true rfl)) (by simp))) y_eq
        · refine due_plain fun ρ w1 G hsrc hold => ?_; obtain ⟨⟨_, _, ⟨h28, -⟩, -⟩, -⟩ := hsrc; exact y_assign h28 y_eq
        · refine due_plain fun ρ w1 G hsrc hold => ?_; obtain ⟨⟨_, _, ⟨h33, -⟩, -⟩, -⟩ := hsrc; exact y_assign h33 y_eq
        rintro _ _ ⟨rfl, rfl⟩ _ _ ⟨rfl, rfl⟩ _ _ ⟨rfl, rfl⟩ _ _ ⟨rfl, rfl⟩ _ _ ⟨rfl, rfl⟩ _ _ ⟨rfl, rfl⟩ _ _ ⟨rfl, rfl⟩ _ _ ⟨rfl, rfl⟩ _ _ ⟨rfl, rfl⟩ _ _ ⟨rfl, rfl⟩ _ _ ⟨rfl, rfl⟩ _ _ ⟨rfl, rfl⟩
        intro ac w A gG nN
        replace S : St _ _ _ ([(b1, .cells #[.int .i64 n, .slice l1 o.length l2, .slice c1 o.length c2, .slice none 0 0] 64 (0, 0))] ++ (Hl ++ Hc)) := (S.new gG nN).perm (by first | exact .refl _ | (rw [List.append_assoc]; exact .refl _) | (simp only [List.append_assoc, List.nil_append, List.append_nil]; exact .refl _))
        replace A := A.only [21, 8, 7, 6, 5, 1, 0] rfl
        refine hK10 _ _ ?_
        refine wp_seq_k fun K11 hK11 => ?_
        refine wp_seq_k fun K12 hK12 => ?_
        refine region_seq ?_  -- region 8
        refine Lm A rfl (A.g 7 rfl) fun _ A => Lm A rfl (A.g 8 rfl) fun _ A => Lo A rfl (y_gtr (A.g 34 rfl) (A.g 35 rfl) (c := false) (decide_eq_false hsw) fun _ A => ?_)
        replace A := A.only [36, 21, 8, 7, 6, 5, 1, 0] rfl
        refine hK12 _ _ ?_
        refine wp_cond_false (A.get rfl) ?_
        refine wp_skip ?_
        refine hK11 _ _ ?_
        refine wp_seq_k fun K13 hK13 => ?_
        refine wp_seq_k fun K14 hK14 => ?_
        refine region_seq ?_  -- region 10
        refine Lm A rfl (A.g 7 rfl) fun _ A => Lo A rfl (y_lss (A.g 39 rfl) (evc _ _) (c := false) (decide_eq_false t1) fun _ A => ?_)
        refine Lm A rfl (A.g 40 rfl) fun _ A => L_yes A rfl (by decide) rfl rfl (by decide) (A.get rfl) (y_move (A.g 8 rfl) fun _ A => ?_)
        replace A := A.only [42, 41, 36, 21, 8, 7, 6, 5, 1, 0] rfl
        refine L_yes A rfl (by decide) rfl rfl (by decide) (A.get rfl) (y_move (A.g 0 rfl) fun _ A => ?_)
        refine L_yes A rfl (by decide) rfl rfl (by decide) (A.get rfl) (y_gtr (A.g 42 rfl) (A.g 43 rfl) (c := true) (decide_eq_true t2) fun _ A => ?_)
        refine Lo A rfl (y_pickF (A.g 41 rfl) (A.g 44 rfl) fun _ A => ?_)
        refine Lm A rfl (A.g 45 rfl) fun _ A => ?_
        replace A := A.only [46, 36, 21, 8, 7, 6, 5, 1, 0] rfl
        refine L_no A rfl (by decide) rfl rfl (by decide) (A.get rfl) (by decide) fun _ A => ?_
        refine L_no A rfl (by decide) rfl rfl (by decide) (A.get rfl) (by decide) fun _ A => ?_
        refine L_no A rfl (by decide) rfl rfl (by decide) (A.get rfl) (by decide) fun _ A => ?_
        refine Lo A rfl (y_pickT (A.g 46 rfl) (evc _ _) fun _ A => ?_)
        replace A := A.only [50, 36, 21, 8, 7, 6, 5, 1, 0] rfl
        refine Lm A rfl (A.g 50 rfl) fun _ A => L_no A rfl (by decide) rfl rfl (by decide) (A.get rfl) (by decide) fun _ A => ?_
        refine L_no A rfl (by decide) rfl rfl (by decide) (A.get rfl) (by decide) fun _ A => ?_
        refine L_no A rfl (by decide) rfl rfl (by decide) (A.get rfl) (by decide) fun _ A => ?_
        replace A := A.only [54, 53, 52, 51, 36, 21, 8, 7, 6, 5, 1, 0] rfl
        refine L_no A rfl (by decide) rfl rfl (by decide) (A.get rfl) (by decide) fun _ A => ?_
        refine L_no A rfl (by decide) rfl rfl (by decide) (A.get rfl) (by decide) fun _ A => ?_
        refine Lo A rfl (y_pickT (A.g 51 rfl) (evc _ _) fun _ A => ?_)
        replace A := A.only [57, 36, 21, 8, 7, 6, 5, 1, 0] rfl
        refine hK14 _ _ ?_
        refine wp_cond_true (A.get rfl) ?_
        refine wp_seq_k fun K15 hK15 => ?_
        refine region_seq ?_  -- region 11
        refine La A rfl (evc _ _) fun _ A => ?_
        replace A := A.only [57, 36, 21, 8, 7, 6, 5, 4, 1, 0] rfl
        refine hK15 _ _ ?_
        exact wp_ret ⟨A.defers, _, res_run (rs := [.tmp 4]) (vs := [.pointer none]) rfl ⟨A.get rfl, trivial⟩, ⟨_, rfl, S.kp.to_gr, [], Or.inl ⟨hnone, rfl, rfl⟩, NewF.nil _ _⟩⟩
      by_cases t3 : l.1 = l.2
      · have hnone := I.bad hli he (okL_bad (Or.inr (Or.inr (Or.inl t3))))
        refine wp_seq_k fun K7 hK7 => ?_
        refine wp_seq_k fun K8 hK8 => ?_
        refine region_seq ?_  -- region 5
        refine Lm A rfl (A.g 6 rfl) fun _ A => Lm A rfl (A.g 1 rfl) fun _ A => Lo A rfl (y_lenS (e := 28) (by kernel_rfl) (A.g 19 rfl) fun _ A => ?_)
        refine Lo A rfl (y_lss (A.g 18 rfl) (A.g 20 rfl) (c := true) (decide_eq_true (by omega)) fun _ A => ?_)
        replace A := A.only [21, 6, 5, 1, 0] rfl
        refine hK8 _ _ ?_
        refine wp_cond_true (A.get rfl) ?_
        refine wp_skip ?_
        refine hK7 _ _ ?_
        refine wp_seq_k fun K9 hK9 => ?_
        refine wp_block ?_
        refine wp_seq_k fun K10 hK10 => ?_
        refine region_draw A [⟨24, pl (eqv (.slice (some va') ls.length vc)), [], [1], none, false⟩, ⟨25, pl (eqv (.int .i64 (((i : Nat) : Int)))), [], [6], none, false⟩, ⟨26, pl (eqv (.pointer (some (va'.add ((((i : Nat) : Int)).toNat * 2))))), [0, 1], [], none, false⟩, ⟨27, pl (eqv (.pointer (some ((va'.add (((i : Nat) : Int).toNat * 2)).add 0)))), [2], [], none, false⟩, ⟨28, pl (eqv (.int .i64 l.1)), [3], [], none, false⟩, ⟨29, pl (eqv (.slice (some va') ls.length vc)), [], [1], none, false⟩, ⟨30, pl (eqv (.int .i64 (((i : Nat) : Int)))), [], [6], none, false⟩, ⟨31, pl (eqv (.pointer (some (va'.add ((((i : Nat) : Int)).toNat * 2))))), [5, 6], [], none, false⟩, ⟨32, pl (eqv (.pointer (some ((va'.add (((i : Nat) : Int).toNat * 2)).add 1)))), [7], [], none, false⟩, ⟨33, pl (eqv (.int .i64 l.2)), [8], [], none, false⟩, ⟨7, pl (eqv (.int .i64 l.1)), [4], [], none, false⟩, ⟨8, pl (eqv (.int .i64 l.2)), [9], [], none, false⟩] [] (by kernel_rfl) (by kernel_rfl) (fun d _ _ _ _ h => by cases d <;> exact h) ⟨?_, ?_, ?_, ?_, ?_, ?_, ?_, ?_, ?_, ?_, ?_, ?_, trivial⟩ ?_  -- region 7
        · refine due_plain fun ρ w1 G hsrc hold => ?_; obtain ⟨o1, -⟩ := hold; exact y_move (o1.trans (A.g 1 rfl)) y_eq
        · refine due_plain fun ρ w1 G hsrc hold => ?_; obtain ⟨o6, -⟩ := hold; exact y_move (o6.trans (A.g 6 rfl)) y_eq
        · refine due_plain fun ρ w1 G hsrc hold => ?_; obtain ⟨⟨_, _, ⟨h24, -⟩, -⟩, ⟨_, _, ⟨h25, -⟩, -⟩, -⟩ := hsrc; exact y_indexA (e := 28) (size := 2) (by kernel_rfl) (by kernel_rfl) h24 h25 (by omega) (by omega) y_eq
        · refine due_plain fun ρ w1 G hsrc hold => ?_; obtain ⟨⟨_, _, ⟨h26, -⟩, -⟩, -⟩ := hsrc; exact y_indexPR (n := 2) (e := 3) (size := 1) (by kernel_rfl) (by kernel_rfl) h26 (G.const _) (by decide) (by decide) y_eq
        · refine due_plain fun ρ w1 G hsrc hold => ?_; obtain ⟨⟨_, _, ⟨h27, -⟩, -⟩, -⟩ := hsrc; exact y_load (by kernel_rfl) h27 (G.gr.cell' (S.kp.cell' (hrow 0 (Nat.le_of_ble_eq_true rfl)) (by simp))) y_eq
        · refine due_plain fun ρ w1 G hsrc hold => ?_; obtain ⟨o1, -⟩ := hold; exact y_move (o1.trans (A.g 1 rfl)) y_eq
        · refine due_plain fun ρ w1 G hsrc hold => ?_; obtain ⟨o6, -⟩ := hold; exact y_move (o6.trans (A.g 6 rfl)) y_eq
        · refine due_plain fun ρ w1 G hsrc hold => ?_; obtain ⟨⟨_, _, ⟨h29, -⟩, -⟩, ⟨_, _, ⟨h30, -⟩, -⟩, -⟩ := hsrc; exact y_indexA (e := 28) (size := 2) (by kernel_rfl) (by kernel_rfl) h29 h30 (by omega) (by omega) y_eq
        · refine due_plain fun ρ w1 G hsrc hold => ?_; obtain ⟨⟨_, _, ⟨h31, -⟩, -⟩, -⟩ := hsrc; exact y_indexPR (n := 2) (e := 3) (size := 1) (by kernel_rfl) (by kernel_rfl) h31 (G.const _) (by decide) (by decide) y_eq
        · refine due_plain fun ρ w1 G hsrc hold => ?_; obtain ⟨⟨_, _, ⟨h32, -⟩, -⟩, -⟩ := hsrc; exact y_load (by kernel_rfl) h32 (G.gr.cell' (S.kp.cell' (hrow 1 (Nat.le_of_ble_eq_true rfl)) (by simp))) y_eq
        · refine due_plain fun ρ w1 G hsrc hold => ?_; obtain ⟨⟨_, _, ⟨h28, -⟩, -⟩, -⟩ := hsrc; exact y_assign h28 y_eq
        · refine due_plain fun ρ w1 G hsrc hold => ?_; obtain ⟨⟨_, _, ⟨h33, -⟩, -⟩, -⟩ := hsrc; exact y_assign h33 y_eq
        rintro _ _ ⟨rfl, rfl⟩ _ _ ⟨rfl, rfl⟩ _ _ ⟨rfl, rfl⟩ _ _ ⟨rfl, rfl⟩ _ _ ⟨rfl, rfl⟩ _ _ ⟨rfl, rfl⟩ _ _ ⟨rfl, rfl⟩ _ _ ⟨rfl, rfl⟩ _ _ ⟨rfl, rfl⟩ _ _ ⟨rfl, rfl⟩ _ _ ⟨rfl, rfl⟩ _ _ ⟨rfl, rfl⟩
        intro ac w A gG nN
        replace S : St _ _ _ ([(b1, .cells #[.int .i64 n, .slice l1 o.length l2, .slice c1 o.length c2, .slice none 0 0] 64 (0, 0))] ++ (Hl ++ Hc)) := (S.new gG nN).perm (by first | exact .refl _ | (rw [List.append_assoc]; exact .refl _) | (simp only [List.append_assoc, List.nil_append, List.append_nil]; exact .refl _))
        replace A := A.only [21, 8, 7, 6, 5, 1, 0] rfl
        refine hK10 _ _ ?_
        refine wp_seq_k fun K11 hK11 => ?_
        refine wp_seq_k fun K12 hK12 => ?_
        refine region_seq ?_  -- region 8
        refine Lm A rfl (A.g 7 rfl) fun _ A => Lm A rfl (A.g 8 rfl) fun _ A => Lo A rfl (y_gtr (A.g 34 rfl) (A.g 35 rfl) (c := false) (decide_eq_false hsw) fun _ A => ?_)
        replace A := A.only [36, 21, 8, 7, 6, 5, 1, 0] rfl
        refine hK12 _ _ ?_
        refine wp_cond_false (A.get rfl) ?_
        refine wp_skip ?_
        refine hK11 _ _ ?_
        refine wp_seq_k fun K13 hK13 => ?_
        refine wp_seq_k fun K14 hK14 => ?_
        refine region_seq ?_  -- region 10
        refine Lm A rfl (A.g 7 rfl) fun _ A => Lo A rfl (y_lss (A.g 39 rfl) (evc _ _) (c := false) (decide_eq_false t1) fun _ A => ?_)
        refine Lm A rfl (A.g 40 rfl) fun _ A => L_yes A rfl (by decide) rfl rfl (by decide) (A.get rfl) (y_move (A.g 8 rfl) fun _ A => ?_)
        replace A := A.only [42, 41, 36, 21, 8, 7, 6, 5, 1, 0] rfl
        refine L_yes A rfl (by decide) rfl rfl (by decide) (A.get rfl) (y_move (A.g 0 rfl) fun _ A => ?_)
        refine L_yes A rfl (by decide) rfl rfl (by decide) (A.get rfl) (y_gtr (A.g 42 rfl) (A.g 43 rfl) (c := false) (decide_eq_false t2) fun _ A => ?_)
        refine Lo A rfl (y_pickF (A.g 41 rfl) (A.g 44 rfl) fun _ A => ?_)
        refine Lm A rfl (A.g 45 rfl) fun _ A => ?_
        replace A := A.only [46, 36, 21, 8, 7, 6, 5, 1, 0] rfl
        refine L_yes A rfl (by decide) rfl rfl (by decide) (A.get rfl) (y_move (A.g 7 rfl) fun _ A => ?_)
        refine L_yes A rfl (by decide) rfl rfl (by decide) (A.get rfl) (y_move (A.g 8 rfl) fun _ A => ?_)
        refine L_yes A rfl (by decide) rfl rfl (by decide) (A.get rfl) (y_eql (A.g 47 rfl) (A.g 48 rfl) (c := true) (by simpa using t3) fun _ A => ?_)
        refine Lo A rfl (y_pickF (A.g 46 rfl) (A.g 49 rfl) fun _ A => ?_)
        replace A := A.only [50, 36, 21, 8, 7, 6, 5, 1, 0] rfl
        refine Lm A rfl (A.g 50 rfl) fun _ A => L_no A rfl (by decide) rfl rfl (by decide) (A.get rfl) (by decide) fun _ A => ?_
        refine L_no A rfl (by decide) rfl rfl (by decide) (A.get rfl) (by decide) fun _ A => ?_
        refine L_no A rfl (by decide) rfl rfl (by decide) (A.get rfl) (by decide) fun _ A => ?_
        replace A := A.only [54, 53, 52, 51, 36, 21, 8, 7, 6, 5, 1, 0] rfl
        refine L_no A rfl (by decide) rfl rfl (by decide) (A.get rfl) (by decide) fun _ A => ?_
        refine L_no A rfl (by decide) rfl rfl (by decide) (A.get rfl) (by decide) fun _ A => ?_
        refine Lo A rfl (y_pickT (A.g 51 rfl) (evc _ _) fun _ A => ?_)
        replace A := A.only [57, 36, 21, 8, 7, 6, 5, 1, 0] rfl
        refine hK14 _ _ ?_
        refine wp_cond_true (A.get rfl) ?_
        refine wp_seq_k fun K15 hK15 => ?_
        refine region_seq ?_  -- region 11
        refine La A rfl (evc _ _) fun _ A => ?_
        replace A := A.only [57, 36, 21, 8, 7, 6, 5, 4, 1, 0] rfl
        refine hK15 _ _ ?_
        exact wp_ret ⟨A.defers, _, res_run (rs := [.tmp 4]) (vs := [.pointer none]) rfl ⟨A.get rfl, trivial⟩, ⟨_, rfl, S.kp.to_gr, [], Or.inl ⟨hnone, rfl, rfl⟩, NewF.nil _ _⟩⟩
      have hxy : l.1 < l.2 := by omega
      have hit := I.hit hxy
      by_cases t4 : 0 ≤ (RM.fresh n o).link (l.1) (l.2)
      · have hnone := I.bad hli he (okL_bad (Or.inr (Or.inr (Or.inr (hit.1 t4)))))
        refine wp_seq_k fun K7 hK7 => ?_
        refine wp_seq_k fun K8 hK8 => ?_
        refine region_seq ?_  -- region 5
        refine Lm A rfl (A.g 6 rfl) fun _ A => Lm A rfl (A.g 1 rfl) fun _ A => Lo A rfl (y_lenS (e := 28) (by kernel_rfl) (A.g 19 rfl) fun _ A => ?_)
        refine Lo A rfl (y_lss (A.g 18 rfl) (A.g 20 rfl) (c := true) (decide_eq_true (by omega)) fun _ A => ?_)
        replace A := A.only [21, 6, 5, 1, 0] rfl
        refine hK8 _ _ ?_
        refine wp_cond_true (A.get rfl) ?_
        refine wp_skip ?_
        refine hK7 _ _ ?_
        refine wp_seq_k fun K9 hK9 => ?_
        refine wp_block ?_
        refine wp_seq_k fun K10 hK10 => ?_
        refine region_draw A [⟨24, pl (eqv (.slice (some va') ls.length vc)), [], [1], none, false⟩, ⟨25, pl (eqv (.int .i64 (((i : Nat) : Int)))), [], [6], none, false⟩, ⟨26, pl (eqv (.pointer (some (va'.add ((((i : Nat) : Int)).toNat * 2))))), [0, 1], [], none, false⟩, ⟨27, pl (eqv (.pointer (some ((va'.add (((i : Nat) : Int).toNat * 2)).add 0)))), [2], [], none, false⟩, ⟨28, pl (eqv (.int .i64 l.1)), [3], [], none, false⟩, ⟨29, pl (eqv (.slice (some va') ls.length vc)), [], [1], none, false⟩, ⟨30, pl (eqv (.int .i64 (((i : Nat) : Int)))), [], [6], none, false⟩, ⟨31, pl (eqv (.pointer (some (va'.add ((((i : Nat) : Int)).toNat * 2))))), [5, 6], [], none, false⟩, ⟨32, pl (eqv (.pointer (some ((va'.add (((i : Nat) : Int).toNat * 2)).add 1)))), [7], [], none, false⟩, ⟨33, pl (eqv (.int .i64 l.2)), [8], [], none, false⟩, ⟨7, pl (eqv (.int .i64 l.1)), [4], [], none, false⟩, ⟨8, pl (eqv (.int .i64 l.2)), [9], [], none, false⟩] [] (by kernel_rfl) (by kernel_rfl) (fun d _ _ _ _ h => by cases d <;> exact h) ⟨?_, ?_, ?_, ?_, ?_, ?_, ?_, ?_, ?_, ?_, ?_, ?_, trivial⟩ ?_  -- region 7
        · refine due_plain fun ρ w1 G hsrc hold => ?_; obtain ⟨o1, -⟩ := hold; exact y_move (o1.trans (A.g 1 rfl)) y_eq
        · refine due_plain fun ρ w1 G hsrc hold => ?_; obtain ⟨o6, -⟩ := hold; exact y_move (o6.trans (A.g 6 rfl)) y_eq
        · refine due_plain fun ρ w1 G hsrc hold => ?_; obtain ⟨⟨_, _, ⟨h24, -⟩, -⟩, ⟨_, _, ⟨h25, -⟩, -⟩, -⟩ := hsrc; exact y_indexA (e := 28) (size := 2) (by kernel_rfl) (by kernel_rfl) h24 h25 (by omega) (by omega) y_eq
        · refine due_plain fun ρ w1 G hsrc hold => ?_; obtain ⟨⟨_, _, ⟨h26, -⟩, -⟩, -⟩ := hsrc; exact y_indexPR (n := 2) (e := 3) (size := 1) (by kernel_rfl) (by kernel_rfl) h26 (G.const _) (by decide) (by decide) y_eq
        · refine due_plain fun ρ w1 G hsrc hold => ?_; obtain ⟨⟨_, _, ⟨h27, -⟩, -⟩, -⟩ := hsrc; exact y_load (by kernel_rfl) h27 (G.gr.cell' (S.kp.cell' (hrow 0 (Nat.le_of_ble_eq_true rfl)) (by simp))) y_eq
        · refine due_plain fun ρ w1 G hsrc hold => ?_; obtain ⟨o1, -⟩ := hold; exact y_move (o1.trans (A.g 1 rfl)) y_eq
        · refine due_plain fun ρ w1 G hsrc hold => ?_; obtain ⟨o6, -⟩ := hold; exact y_move (o6.trans (A.g 6 rfl)) y_eq
        · refine due_plain fun ρ w1 G hsrc hold => ?_; obtain ⟨⟨_, _, ⟨h29, -⟩, -⟩, ⟨_, _, ⟨h30, -⟩, -⟩, -⟩ := hsrc; exact y_indexA (e := 28) (size := 2) (by kernel_rfl) (by kernel_rfl) h29 h30 (by omega) (by omega) y_eq
        · refine due_plain fun ρ w1 G hsrc hold => ?_; obtain ⟨⟨_, _, ⟨h31, -⟩, -⟩, -⟩ := hsrc; exact y_indexPR (n := 2) (e := 3) (size := 1) (by kernel_rfl) (by kernel_rfl) h31 (G.const _) (by decide) (by decide) y_eq
        · refine due_plain fun ρ w1 G hsrc hold => ?_; obtain ⟨⟨_, _, ⟨h32, -⟩, -⟩, -⟩ := hsrc; exact y_load (by kernel_rfl) h32 (G.gr.cell' (S.kp.cell' (hrow 1 (Nat.le_of_ble_eq_true rfl)) (by simp))) y_eq
        · refine due_plain fun ρ w1 G hsrc hold => ?_; obtain ⟨⟨_, _, ⟨h28, -⟩, -⟩, -⟩ := hsrc; exact y_assign h28 y_eq
        · refine due_plain fun ρ w1 G hsrc hold => ?_; obtain ⟨⟨_, _, ⟨h33, -⟩, -⟩, -⟩ := hsrc; exact y_assign h33 y_eq
        rintro _ _ ⟨rfl, rfl⟩ _ _ ⟨rfl, rfl⟩ _ _ ⟨rfl, rfl⟩ _ _ ⟨rfl, rfl⟩ _ _ ⟨rfl, rfl⟩ _ _ ⟨rfl, rfl⟩ _ _ ⟨rfl, rfl⟩ _ _ ⟨rfl, rfl⟩ _ _ ⟨rfl, rfl⟩ _ _ ⟨rfl, rfl⟩ _ _ ⟨rfl, rfl⟩ _ _ ⟨rfl, rfl⟩
        intro ac w A gG nN
        replace S : St _ _ _ ([(b1, .cells #[.int .i64 n, .slice l1 o.length l2, .slice c1 o.length c2, .slice none 0 0] 64 (0, 0))] ++ (Hl ++ Hc)) := (S.new gG nN).perm (by first | exact .refl _ | (rw [List.append_assoc]; exact .refl _) | (simp only [List.append_assoc, List.nil_append, List.append_nil]; exact .refl _))
        replace A := A.only [21, 8, 7, 6, 5, 1, 0] rfl
        refine hK10 _ _ ?_
        refine wp_seq_k fun K11 hK11 => ?_
        refine wp_seq_k fun K12 hK12 => ?_
        refine region_seq ?_  -- region 8
        refine Lm A rfl (A.g 7 rfl) fun _ A => Lm A rfl (A.g 8 rfl) fun _ A => Lo A rfl (y_gtr (A.g 34 rfl) (A.g 35 rfl) (c := false) (decide_eq_false hsw) fun _ A => ?_)
        replace A := A.only [36, 21, 8, 7, 6, 5, 1, 0] rfl
        refine hK12 _ _ ?_
        refine wp_cond_false (A.get rfl) ?_
        refine wp_skip ?_
        refine hK11 _ _ ?_
        refine wp_seq_k fun K13 hK13 => ?_
        refine wp_seq_k fun K14 hK14 => ?_
        refine region_seq ?_  -- region 10
        refine Lm A rfl (A.g 7 rfl) fun _ A => Lo A rfl (y_lss (A.g 39 rfl) (evc _ _) (c := false) (decide_eq_false t1) fun _ A => ?_)
        refine Lm A rfl (A.g 40 rfl) fun _ A => L_yes A rfl (by decide) rfl rfl (by decide) (A.get rfl) (y_move (A.g 8 rfl) fun _ A => ?_)
        replace A := A.only [42, 41, 36, 21, 8, 7, 6, 5, 1, 0] rfl
        refine L_yes A rfl (by decide) rfl rfl (by decide) (A.get rfl) (y_move (A.g 0 rfl) fun _ A => ?_)
        refine L_yes A rfl (by decide) rfl rfl (by decide) (A.get rfl) (y_gtr (A.g 42 rfl) (A.g 43 rfl) (c := false) (decide_eq_false t2) fun _ A => ?_)
        refine Lo A rfl (y_pickF (A.g 41 rfl) (A.g 44 rfl) fun _ A => ?_)
        refine Lm A rfl (A.g 45 rfl) fun _ A => ?_
        replace A := A.only [46, 36, 21, 8, 7, 6, 5, 1, 0] rfl
        refine L_yes A rfl (by decide) rfl rfl (by decide) (A.get rfl) (y_move (A.g 7 rfl) fun _ A => ?_)
        refine L_yes A rfl (by decide) rfl rfl (by decide) (A.get rfl) (y_move (A.g 8 rfl) fun _ A => ?_)
        refine L_yes A rfl (by decide) rfl rfl (by decide) (A.get rfl) (y_eql (A.g 47 rfl) (A.g 48 rfl) (c := false) (by simpa using t3) fun _ A => ?_)
        refine Lo A rfl (y_pickF (A.g 46 rfl) (A.g 49 rfl) fun _ A => ?_)
        replace A := A.only [50, 36, 21, 8, 7, 6, 5, 1, 0] rfl
        refine Lm A rfl (A.g 50 rfl) fun _ A => L_yes A rfl (by decide) rfl rfl (by decide) (A.get rfl) (y_move (A.g 5 rfl) fun _ A => ?_)
        refine L_yes A rfl (by decide) rfl rfl (by decide) (A.get rfl) (y_move (A.g 7 rfl) fun _ A => ?_)
        refine L_yes A rfl (by decide) rfl rfl (by decide) (A.get rfl) (y_move (A.g 8 rfl) fun _ A => ?_)
        replace A := A.only [54, 53, 52, 51, 36, 21, 8, 7, 6, 5, 1, 0] rfl
        obtain ⟨la, lc, ca, cc, wa, wc, gs0, hs0⟩ := (show RefRep b1 (RM.fresh n o) _ from ⟨_, _, _, _, _, _, [], I.refp hl, rfl⟩).src (w := w) (by have := S.holds; simpa [refC, RM.fresh, gmH] using this)
        refine L_yes A rfl (by decide) rfl rfl (by decide) (A.get rfl) (y_call3 (by kernel_rfl) rfl (A.g 52 rfl) (A.g 53 rfl) (A.g 54 rfl) (callN (rlink_ok hs0) fun v w H gG nN hf ac A => ?_))
        obtain ⟨rfl, rfl⟩ := hf
        replace S : St _ _ _ ([(b1, .cells #[.int .i64 n, .slice l1 o.length l2, .slice c1 o.length c2, .slice none 0 0] 64 (0, 0))] ++ (Hl ++ Hc)) := (S.new gG nN).perm (by first | exact .refl _ | (rw [List.append_assoc]; exact .refl _) | (simp only [List.append_assoc, List.nil_append, List.append_nil]; exact .refl _))
        refine L_yes A rfl (by decide) rfl rfl (by decide) (A.get rfl) (y_geq (A.g 55 rfl) (evc _ _) (c := true) (decide_eq_true t4) fun _ A => ?_)
        refine Lo A rfl (y_pickF (A.g 51 rfl) (A.g 56 rfl) fun _ A => ?_)
        replace A := A.only [57, 36, 21, 8, 7, 6, 5, 1, 0] rfl
        refine hK14 _ _ ?_
        refine wp_cond_true (A.get rfl) ?_
        refine wp_seq_k fun K15 hK15 => ?_
        refine region_seq ?_  -- region 11
        refine La A rfl (evc _ _) fun _ A => ?_
        replace A := A.only [57, 36, 21, 8, 7, 6, 5, 4, 1, 0] rfl
        refine hK15 _ _ ?_
        exact wp_ret ⟨A.defers, _, res_run (rs := [.tmp 4]) (vs := [.pointer none]) rfl ⟨A.get rfl, trivial⟩, ⟨_, rfl, S.kp.to_gr, [], Or.inl ⟨hnone, rfl, rfl⟩, NewF.nil _ _⟩⟩
      have hok := okL_ok t1 t2 t3 (fun h => t4 (hit.2 h))
      refine wp_seq_k fun K7 hK7 => ?_
      refine wp_seq_k fun K8 hK8 => ?_
      refine region_seq ?_  -- region 5
      refine Lm A rfl (A.g 6 rfl) fun _ A => Lm A rfl (A.g 1 rfl) fun _ A => Lo A rfl (y_lenS (e := 28) (by kernel_rfl) (A.g 19 rfl) fun _ A => ?_)
      refine Lo A rfl (y_lss (A.g 18 rfl) (A.g 20 rfl) (c := true) (decide_eq_true (by omega)) fun _ A => ?_)
      replace A := A.only [21, 6, 5, 1, 0] rfl
      refine hK8 _ _ ?_
      refine wp_cond_true (A.get rfl) ?_
      refine wp_skip ?_
      refine hK7 _ _ ?_
      refine wp_seq_k fun K9 hK9 => ?_
      refine wp_block ?_
      refine wp_seq_k fun K10 hK10 => ?_
      refine region_draw A [⟨24, pl (eqv (.slice (some va') ls.length vc)), [], [1], none, false⟩, ⟨25, pl (eqv (.int .i64 (((i : Nat) : Int)))), [], [6], none, false⟩, ⟨26, pl (eqv (.pointer (some (va'.add ((((i : Nat) : Int)).toNat * 2))))), [0, 1], [], none, false⟩, ⟨27, pl (eqv (.pointer (some ((va'.add (((i : Nat) : Int).toNat * 2)).add 0)))), [2], [], none, false⟩, ⟨28, pl (eqv (.int .i64 l.1)), [3], [], none, false⟩, ⟨29, pl (eqv (.slice (some va') ls.length vc)), [], [1], none, false⟩, ⟨30, pl (eqv (.int .i64 (((i : Nat) : Int)))), [], [6], none, false⟩, ⟨31, pl (eqv (.pointer (some (va'.add ((((i : Nat) : Int)).toNat * 2))))), [5, 6], [], none, false⟩, ⟨32, pl (eqv (.pointer (some ((va'.add (((i : Nat) : Int).toNat * 2)).add 1)))), [7], [], none, false⟩, ⟨33, pl (eqv (.int .i64 l.2)), [8], [], none, false⟩, ⟨7, pl (eqv (.int .i64 l.1)), [4], [], none, false⟩, ⟨8, pl (eqv (.int .i64 l.2)), [9], [], none, false⟩] [] (by kernel_rfl) (by kernel_rfl) (fun d _ _ _ _ h => by cases d <;> exact h) ⟨?_, ?_, ?_, ?_, ?_, ?_, ?_, ?_, ?_, ?_, ?_, ?_, trivial⟩ ?_  -- region 7
      · refine due_plain fun ρ w1 G hsrc hold => ?_; obtain ⟨o1, -⟩ := hold; exact y_move (o1.trans (A.g 1 rfl)) y_eq
      · refine due_plain fun ρ w1 G hsrc hold => ?_; obtain ⟨o6, -⟩ := hold; exact y_move (o6.trans (A.g 6 rfl)) y_eq
      · refine due_plain fun ρ w1 G hsrc hold => ?_; obtain ⟨⟨_, _, ⟨h24, -⟩, -⟩, ⟨_, _, ⟨h25, -⟩, -⟩, -⟩ := hsrc; exact y_indexA (e := 28) (size := 2) (by kernel_rfl) (by kernel_rfl) h24 h25 (by omega) (by omega) y_eq
      · refine due_plain fun ρ w1 G hsrc hold => ?_; obtain ⟨⟨_, _, ⟨h26, -⟩, -⟩, -⟩ := hsrc; exact y_indexPR (n := 2) (e := 3) (size := 1) (by kernel_rfl) (by kernel_rfl) h26 (G.const _) (by decide) (by decide) y_eq
      · refine due_plain fun ρ w1 G hsrc hold => ?_; obtain ⟨⟨_, _, ⟨h27, -⟩, -⟩, -⟩ := hsrc; exact y_load (by kernel_rfl) h27 (G.gr.cell' (S.kp.cell' (hrow 0 (Nat.le_of_ble_eq_true rfl)) (by simp))) y_eq
      · refine due_plain fun ρ w1 G hsrc hold => ?_; obtain ⟨o1, -⟩ := hold; exact y_move (o1.trans (A.g 1 rfl)) y_eq
      · refine due_plain fun ρ w1 G hsrc hold => ?_; obtain ⟨o6, -⟩ := hold; exact y_move (o6.trans (A.g 6 rfl)) y_eq
      · refine due_plain fun ρ w1 G hsrc hold => ?_; obtain ⟨⟨_, _, ⟨h29, -⟩, -⟩, ⟨_, _, ⟨h30, -⟩, -⟩, -⟩ := hsrc; exact y_indexA (e := 28) (size := 2) (by kernel_rfl) (by kernel_rfl) h29 h30 (by omega) (by omega) y_eq
      · refine due_plain fun ρ w1 G hsrc hold => ?_; obtain ⟨⟨_, _, ⟨h31, -⟩, -⟩, -⟩ := hsrc; exact y_indexPR (n := 2) (e := 3) (size := 1) (by kernel_rfl) (by kernel_rfl) h31 (G.const _) (by decide) (by decide) y_eq
      · refine due_plain fun ρ w1 G hsrc hold => ?_; obtain ⟨⟨_, _, ⟨h32, -⟩, -⟩, -⟩ := hsrc; exact y_load (by kernel_rfl) h32 (G.gr.cell' (S.kp.cell' (hrow 1 (Nat.le_of_ble_eq_true rfl)) (by simp))) y_eq
      · refine due_plain fun ρ w1 G hsrc hold => ?_; obtain ⟨⟨_, _, ⟨h28, -⟩, -⟩, -⟩ := hsrc; exact y_assign h28 y_eq
      · refine due_plain fun ρ w1 G hsrc hold => ?_; obtain ⟨⟨_, _, ⟨h33, -⟩, -⟩, -⟩ := hsrc; exact y_assign h33 y_eq
      rintro _ _ ⟨rfl, rfl⟩ _ _ ⟨rfl, rfl⟩ _ _ ⟨rfl, rfl⟩ _ _ ⟨rfl, rfl⟩ _ _ ⟨rfl, rfl⟩ _ _ ⟨rfl, rfl⟩ _ _ ⟨rfl, rfl⟩ _ _ ⟨rfl, rfl⟩ _ _ ⟨rfl, rfl⟩ _ _ ⟨rfl, rfl⟩ _ _ ⟨rfl, rfl⟩ _ _ ⟨rfl, rfl⟩
      intro ac w A gG nN
      replace S : St _ _ _ ([(b1, .cells #[.int .i64 n, .slice l1 o.length l2, .slice c1 o.length c2, .slice none 0 0] 64 (0, 0))] ++ (Hl ++ Hc)) := (S.new gG nN).perm (by first | exact .refl _ | (rw [List.append_assoc]; exact .refl _) | (simp only [List.append_assoc, List.nil_append, List.append_nil]; exact .refl _))
      replace A := A.only [21, 8, 7, 6, 5, 1, 0] rfl
      refine hK10 _ _ ?_
      refine wp_seq_k fun K11 hK11 => ?_
      refine wp_seq_k fun K12 hK12 => ?_
      refine region_seq ?_  -- region 8
      refine Lm A rfl (A.g 7 rfl) fun _ A => Lm A rfl (A.g 8 rfl) fun _ A => Lo A rfl (y_gtr (A.g 34 rfl) (A.g 35 rfl) (c := false) (decide_eq_false hsw) fun _ A => ?_)
      replace A := A.only [36, 21, 8, 7, 6, 5, 1, 0] rfl
      refine hK12 _ _ ?_
      refine wp_cond_false (A.get rfl) ?_
      refine wp_skip ?_
      refine hK11 _ _ ?_
      refine wp_seq_k fun K13 hK13 => ?_
      refine wp_seq_k fun K14 hK14 => ?_
      refine region_seq ?_  -- region 10
      refine Lm A rfl (A.g 7 rfl) fun _ A => Lo A rfl (y_lss (A.g 39 rfl) (evc _ _) (c := false) (decide_eq_false t1) fun _ A => ?_)
      refine Lm A rfl (A.g 40 rfl) fun _ A => L_yes A rfl (by decide) rfl rfl (by decide) (A.get rfl) (y_move (A.g 8 rfl) fun _ A => ?_)
      replace A := A.only [42, 41, 36, 21, 8, 7, 6, 5, 1, 0] rfl
      refine L_yes A rfl (by decide) rfl rfl (by decide) (A.get rfl) (y_move (A.g 0 rfl) fun _ A => ?_)
      refine L_yes A rfl (by decide) rfl rfl (by decide) (A.get rfl) (y_gtr (A.g 42 rfl) (A.g 43 rfl) (c := false) (decide_eq_false t2) fun _ A => ?_)
      refine Lo A rfl (y_pickF (A.g 41 rfl) (A.g 44 rfl) fun _ A => ?_)
      refine Lm A rfl (A.g 45 rfl) fun _ A => ?_
      replace A := A.only [46, 36, 21, 8, 7, 6, 5, 1, 0] rfl
      refine L_yes A rfl (by decide) rfl rfl (by decide) (A.get rfl) (y_move (A.g 7 rfl) fun _ A => ?_)
      refine L_yes A rfl (by decide) rfl rfl (by decide) (A.get rfl) (y_move (A.g 8 rfl) fun _ A => ?_)
      refine L_yes A rfl (by decide) rfl rfl (by decide) (A.get rfl) (y_eql (A.g 47 rfl) (A.g 48 rfl) (c := false) (by simpa using t3) fun _ A => ?_)
      refine Lo A rfl (y_pickF (A.g 46 rfl) (A.g 49 rfl) fun _ A => ?_)
      replace A := A.only [50, 36, 21, 8, 7, 6, 5, 1, 0] rfl
      refine Lm A rfl (A.g 50 rfl) fun _ A => L_yes A rfl (by decide) rfl rfl (by decide) (A.get rfl) (y_move (A.g 5 rfl) fun _ A => ?_)
      refine L_yes A rfl (by decide) rfl rfl (by decide) (A.get rfl) (y_move (A.g 7 rfl) fun _ A => ?_)
      refine L_yes A rfl (by decide) rfl rfl (by decide) (A.get rfl) (y_move (A.g 8 rfl) fun _ A => ?_)
      replace A := A.only [54, 53, 52, 51, 36, 21, 8, 7, 6, 5, 1, 0] rfl
      obtain ⟨la, lc, ca, cc, wa, wc, gs0, hs0⟩ := (show RefRep b1 (RM.fresh n o) _ from ⟨_, _, _, _, _, _, [], I.refp hl, rfl⟩).src (w := w) (by have := S.holds; simpa [refC, RM.fresh, gmH] using this)
      refine L_yes A rfl (by decide) rfl rfl (by decide) (A.get rfl) (y_call3 (by kernel_rfl) rfl (A.g 52 rfl) (A.g 53 rfl) (A.g 54 rfl) (callN (rlink_ok hs0) fun v w H gG nN hf ac A => ?_))
      obtain ⟨rfl, rfl⟩ := hf
      replace S : St _ _ _ ([(b1, .cells #[.int .i64 n, .slice l1 o.length l2, .slice c1 o.length c2, .slice none 0 0] 64 (0, 0))] ++ (Hl ++ Hc)) := (S.new gG nN).perm (by first | exact .refl _ | (rw [List.append_assoc]; exact .refl _) | (simp only [List.append_assoc, List.nil_append, List.append_nil]; exact .refl _))
      refine L_yes A rfl (by decide) rfl rfl (by decide) (A.get rfl) (y_geq (A.g 55 rfl) (evc _ _) (c := false) (decide_eq_false t4) fun _ A => ?_)
      refine Lo A rfl (y_pickF (A.g 51 rfl) (A.g 56 rfl) fun _ A => ?_)
      replace A := A.only [57, 36, 21, 8, 7, 6, 5, 1, 0] rfl
      refine hK14 _ _ ?_
      refine wp_cond_false (A.get rfl) ?_
      refine wp_skip ?_
      refine hK13 _ _ ?_
      refine wp_seq_k fun K15 hK15 => ?_
      refine region_seq ?_  -- region 12
      refine Lm A rfl (A.g 5 rfl) fun _ A => Lm A rfl (A.g 5 rfl) fun _ A => Lo A rfl (y_nilCheck (A.g 59 rfl) fun _ A => ?_)
      refine Lo A rfl (y_fieldAddr (off := 1) (j := 1) (by kernel_rfl) (A.g 60 rfl) (by first | rfl | omega) fun _ A => ?_)
      replace A := A.only [61, 58, 57, 36, 21, 8, 7, 6, 5, 1, 0] rfl
      refine Lo A rfl (y_load (by kernel_rfl) (A.g 61 rfl) ((cell_of (S.get 0 rfl) _).trans rfl) fun _ A => ?_)
      refine Lm A rfl (A.g 7 rfl) fun _ A => Lm A rfl (A.g 8 rfl) fun _ A => Lo A rfl (y_build2 (A.g 63 rfl) (A.g 64 rfl) (v := .agg #[.int .i64 l.1, .int .i64 l.2]) (by kernel_rfl) fun _ A => ?_)
      replace A := A.only [65, 62, 58, 57, 36, 21, 8, 7, 6, 5, 1, 0] rfl
      refine Lo A rfl (y_buildSlice1 (c := #[.int .i64 l.1, .int .i64 l.2]) (e := 28) (A.g 65 rfl) (fun w => by kernel_rfl) fun b2 w gG nN ac A => ?_)
      replace S : St _ _ _ ([(b2, .cells #[.int .i64 l.1, .int .i64 l.2] 28 (0, 0)), (b1, .cells #[.int .i64 n, .slice l1 o.length l2, .slice c1 o.length c2, .slice none 0 0] 64 (0, 0))] ++ (Hl ++ Hc)) := (S.new gG nN).perm (by first | exact .refl _ | (rw [List.append_assoc]; exact .refl _) | (simp only [List.append_assoc, List.nil_append, List.append_nil]; exact .refl _))
      have hsrc : Src w 2 (.slice (some ⟨b2, 0, none⟩) 1 1) 1 [.int .i64 l.1, .int .i64 l.2] := ⟨rfl, Or.inr ⟨_, _, rfl, cells_at (S.get 0 rfl) rfl⟩⟩
      replace S : St _ _ _ (Hl ++ ([(b2, .cells #[.int .i64 l.1, .int .i64 l.2] 28 (0, 0)), (b1, .cells #[.int .i64 n, .slice l1 o.length l2, .slice c1 o.length c2, .slice none 0 0] 64 (0, 0))] ++ Hc)) := S.perm (by classical rw [List.perm_iff_count]; intro x; simp only [List.count_append, List.count_cons, List.count_nil] <;> omega)
      refine Lo A rfl (y_append okPS (by kernel_rfl) (A.g 62 rfl) (A.g 66 rfl) (H := Hl) S I.lnk hsrc (one_all rfl) (by omega) (by omega) fun v2 w Hl2 hr2 S ac A => ?_)
      obtain ⟨x1, x2, rfl⟩ := hr2.len
      replace S : St _ _ _ ([(b2, .cells #[.int .i64 l.1, .int .i64 l.2] 28 (0, 0)), (b1, .cells #[.int .i64 n, .slice l1 o.length l2, .slice c1 o.length c2, .slice none 0 0] 64 (0, 0))] ++ (Hc ++ Hl2)) := S.perm (by classical rw [List.perm_iff_count]; intro x; simp only [List.count_append, List.count_cons, List.count_nil] <;> omega)
      refine Lo A rfl (y_nilCheck (A.g 58 rfl) fun _ A => ?_)
      refine Lo A rfl (y_fieldAddr (off := 1) (j := 1) (by kernel_rfl) (A.g 68 rfl) (by first | rfl | omega) fun _ A => ?_)
      replace A := A.only [69, 67, 57, 36, 21, 8, 7, 6, 5, 1, 0] rfl
      refine L_opN A rfl rfl (y_store 1 (by kernel_rfl) (A.g 69 rfl) (A.g 67 rfl) (S.get 1 rfl) rfl (Nat.le_of_ble_eq_true rfl) (one_all rfl) ?_)
      replace S : St _ _ _ ([(b2, .cells #[.int .i64 l.1, .int .i64 l.2] 28 (0, 0)), (b1, .cells #[.int .i64 n, .slice x1 (o.length + 1) x2, .slice c1 o.length c2, .slice none 0 0] 64 (0, 0))] ++ (Hc ++ Hl2)) := S.setAt 1 rfl _
      replace A := A.only [57, 36, 21, 8, 7, 6, 5, 1, 0] rfl
      refine hK15 _ _ ?_
      refine region_seq ?_  -- region 13
      refine Lm A rfl (A.g 5 rfl) fun _ A => Lm A rfl (A.g 5 rfl) fun _ A => Lo A rfl (y_nilCheck (A.g 71 rfl) fun _ A => ?_)
      refine Lo A rfl (y_fieldAddr (off := 2) (j := 2) (by kernel_rfl) (A.g 72 rfl) (by first | rfl | omega) fun _ A => ?_)
      replace A := A.only [73, 70, 57, 36, 21, 8, 7, 6, 5, 1, 0] rfl
      refine Lo A rfl (y_load (by kernel_rfl) (A.g 73 rfl) ((cell_of (S.get 1 rfl) _).trans rfl) fun _ A => ?_)
      refine Lo A rfl (y_buildSlice1 (c := #[.bool false]) (e := 4) (evc _ _) (fun w => by kernel_rfl) fun b3 w gG nN ac A => ?_)
      replace S : St _ _ _ ([(b3, .cells #[.bool false] 4 (0, 0)), (b2, .cells #[.int .i64 l.1, .int .i64 l.2] 28 (0, 0)), (b1, .cells #[.int .i64 n, .slice x1 (o.length + 1) x2, .slice c1 o.length c2, .slice none 0 0] 64 (0, 0))] ++ (Hc ++ Hl2)) := (S.new gG nN).perm (by first | exact .refl _ | (rw [List.append_assoc]; exact .refl _) | (simp only [List.append_assoc, List.nil_append, List.append_nil]; exact .refl _))
      have hsrc : Src w 1 (.slice (some ⟨b3, 0, none⟩) 1 1) 1 [.bool false] := ⟨rfl, Or.inr ⟨_, _, rfl, cells_at (S.get 0 rfl) rfl⟩⟩
      replace S : St _ _ _ (Hc ++ ([(b3, .cells #[.bool false] 4 (0, 0)), (b2, .cells #[.int .i64 l.1, .int .i64 l.2] 28 (0, 0)), (b1, .cells #[.int .i64 n, .slice x1 (o.length + 1) x2, .slice c1 o.length c2, .slice none 0 0] 64 (0, 0))] ++ Hl2)) := S.perm (by classical rw [List.perm_iff_count]; intro x; simp only [List.count_append, List.count_cons, List.count_nil] <;> omega)
      refine Lo A rfl (y_append okBO (by kernel_rfl) (A.g 74 rfl) (A.g 75 rfl) (H := Hc) S I.cts hsrc (one_all rfl) (by omega) (by omega) fun v2 w Hc2 hr3 S ac A => ?_)
      obtain ⟨y1, y2, rfl⟩ := hr3.len
      replace S : St _ _ _ ([(b3, .cells #[.bool false] 4 (0, 0)), (b2, .cells #[.int .i64 l.1, .int .i64 l.2] 28 (0, 0)), (b1, .cells #[.int .i64 n, .slice x1 (o.length + 1) x2, .slice c1 o.length c2, .slice none 0 0] 64 (0, 0))] ++ (Hl2 ++ Hc2)) := S.perm (by classical rw [List.perm_iff_count]; intro x; simp only [List.count_append, List.count_cons, List.count_nil] <;> omega)
      refine Lo A rfl (y_nilCheck (A.g 70 rfl) fun _ A => ?_)
      replace A := A.only [77, 76, 57, 36, 21, 8, 7, 6, 5, 1, 0] rfl
      refine Lo A rfl (y_fieldAddr (off := 2) (j := 2) (by kernel_rfl) (A.g 77 rfl) (by first | rfl | omega) fun _ A => ?_)
      refine L_opN A rfl rfl (y_store 1 (by kernel_rfl) (A.g 78 rfl) (A.g 76 rfl) (S.get 2 rfl) rfl (Nat.le_of_ble_eq_true rfl) (one_all rfl) ?_)
      replace S : St _ _ _ ([(b3, .cells #[.bool false] 4 (0, 0)), (b2, .cells #[.int .i64 l.1, .int .i64 l.2] 28 (0, 0)), (b1, .cells #[.int .i64 n, .slice x1 (o.length + 1) x2, .slice y1 (o.length + 1) y2, .slice none 0 0] 64 (0, 0))] ++ (Hl2 ++ Hc2)) := S.setAt 2 rfl _
      replace A := A.only [57, 36, 21, 8, 7, 6, 5, 1, 0] rfl
      refine hK9 _ _ ?_
      refine region_seq ?_  -- region 6
      refine Lm A rfl (A.g 6 rfl) fun _ A => Lo A rfl (y_add (A.g 22 rfl) (evc _ _) (c := ((i + 1 : Nat) : Int)) ((wrap64 (by omega)).trans (by omega)) fun _ A => ?_)
      refine La A rfl (A.g 23 rfl) fun _ A => ?_
      replace A := A.only [57, 36, 21, 8, 7, 6, 5, 1, 0] rfl
      replace A := A.only [6, 5, 1, 0] rfl
      replace S : St _ _ _ ([(b1, .cells #[.int .i64 n, .slice x1 (o.length + 1) x2, .slice y1 (o.length + 1) y2, .slice none 0 0] 64 (0, 0))] ++ (Hl2 ++ Hc2)) := St.app_left (K := [(b3, .cells #[.bool false] 4 (0, 0)), (b2, .cells #[.int .i64 l.1, .int .i64 l.2] 28 (0, 0))]) (S.perm (by classical rw [List.perm_iff_count]; intro x; simp only [List.count_append, List.count_cons, List.count_nil] <;> omega))
      exact ⟨kk - 1, by omega, i + 1, _, _, _, _, _, by omega, A, S, I.next hli he hok hxy hr2 hr3⟩
  · obtain rfl : i = ls.length := by omega
    refine wp_seq_k fun K7 hK7 => ?_
    refine wp_seq_k fun K8 hK8 => ?_
    refine region_seq ?_  -- region 5
    refine Lm A rfl (A.g 6 rfl) fun _ A => Lm A rfl (A.g 1 rfl) fun _ A => Lo A rfl (y_lenS (e := 28) (by kernel_rfl) (A.g 19 rfl) fun _ A => ?_)
    refine Lo A rfl (y_lss (A.g 18 rfl) (A.g 20 rfl) (c := false) (decide_eq_false (by omega)) fun _ A => ?_)
    replace A := A.only [21, 6, 5, 1, 0] rfl
    refine hK8 _ _ ?_
    refine wp_cond_false (A.get rfl) ?_
    refine wp_exit ?_
    refine hK5 _ _ ?_
    refine wp_seq_k fun K9 hK9 => ?_
    refine region_seq ?_  -- region 14
    refine Lm A rfl (A.g 5 rfl) fun _ A => La A rfl (A.g 79 rfl) fun _ A => ?_
    replace A := A.only [21, 6, 5, 4, 1, 0] rfl
    refine hK9 _ _ ?_
    have hgo := I.go
    rw [List.drop_length] at hgo
    exact wp_ret ⟨A.defers, _, res_run (rs := [.tmp 4]) (vs := [.pointer (some ⟨b1, 0, none⟩)]) rfl ⟨A.get rfl, trivial⟩, ⟨_, rfl, S.kp.to_gr, _, Or.inr ⟨o, b1, by unfold newM; rw [if_neg (by omega), ← hgo]; rfl, by omega, by omega, hgo.symm, rfl, ⟨_, _, _, _, _, _, [], I.refp hl, by simp [refC, RM.fresh, gmH]⟩⟩, S.newF⟩⟩

structure RCpI (R : RM) (i : Nat) (gs : List Dm) (vw : Value) (Hw : Frag) : Prop where
  way : SlRep 93 4 vw gs.length (gmCells gs) Hw
  gd : gmD gs = R.way.take i
  ok : DmOk gs
  len : gs.length ≤ i
section
variable {p : Nat} {R : RM} {w0 : World} {a b i : Int} {H : Frag}
set_option maxRecDepth 20000 in
set_option maxHeartbeats 8000000 in
theorem rcopy_ok (hrep : RefRep p R H) (hH : Holds w0 H) (hw : R.way.length ≤ 1000000) : Calls Try.prog 30 #[.pointer (some ⟨p, 0, none⟩)] w0 (RetN w0 fun r H' => ∃ p', r = .pointer (some ⟨p', 0, none⟩) ∧ RefRep p' R H') := by
  obtain ⟨la, lc, ca, cc, wa, wc, gs, h⟩ := hrep.src hH
  have hp := h.hp
  have hfew := h.few
  have hsame := h.same
  have hgl : gs.length = R.way.length := by rw [← h.gd]; simp [gmD]
  have oL : ∀ q ∈ pairs R.links, oneC q = true := by intro q hq; obtain ⟨l, -, hq⟩ := List.mem_flatMap.1 hq; simp only [List.mem_cons, List.not_mem_nil, or_false] at hq; rcases hq with rfl | rfl <;> rfl
  have oC : ∀ q ∈ R.cuts.map Value.bool, oneC q = true := by intro q hq; obtain ⟨c, -, rfl⟩ := List.mem_map.1 hq; rfl
  refine enter Try.func30 rfl (n := 56) rfl (Nat.le_of_ble_eq_true rfl) fun _ A => ?_
  have S : St _ _ _ [] := St.none w0
  refine wp_seq_k fun K1 hK1 => ?_
  refine region_seq ?_  -- region 0
  refine La A rfl (evc _ _) fun _ A => ?_
  replace A := A.only [2, 0] rfl
  refine hK1 _ _ ?_
  refine wp_seq_k fun K2 hK2 => ?_
  refine region_draw A [⟨6, pl (eqv (.pointer (some ⟨p, 0, none⟩))), [], [0], none, false⟩, ⟨7, pl (eqv (.pointer (some ⟨p, 0, none⟩))), [0], [], none, false⟩, ⟨8, pl (eqv (.pointer (some ⟨p, 0, none⟩))), [1], [], none, false⟩, ⟨9, pl (eqv (.int .i64 R.n)), [2], [], none, false⟩, ⟨10, pl (sblk 0 (.cells #[] 28)), [], [], none, false⟩, ⟨11, pl (eqv (.pointer (some ⟨p, 0, none⟩))), [], [0], none, false⟩, ⟨12, pl (eqv (.pointer (some ⟨p, 0, none⟩))), [5], [], none, false⟩, ⟨13, pl (eqv (.pointer (some ⟨p, 1, none⟩))), [6], [], none, false⟩, ⟨14, pl (eqv (.slice la R.links.length lc)), [7], [], none, false⟩, ⟨15, pl (fun v H => (∃ a c, v = .slice a R.links.length c) ∧ SlRep 28 2 v R.links.length (pairs R.links) H), [4, 8], [], none, false⟩, ⟨16, pl (sblk 0 (.cells #[] 4)), [], [], none, false⟩, ⟨17, pl (eqv (.pointer (some ⟨p, 0, none⟩))), [], [0], none, false⟩, ⟨18, pl (eqv (.pointer (some ⟨p, 0, none⟩))), [11], [], none, false⟩, ⟨19, pl (eqv (.pointer (some ⟨p, 2, none⟩))), [12], [], none, false⟩, ⟨20, pl (eqv (.slice ca R.cuts.length cc)), [13], [], none, false⟩, ⟨21, pl (fun v H => (∃ a c, v = .slice a R.cuts.length c) ∧ SlRep 4 1 v R.cuts.length (R.cuts.map Value.bool) H), [10, 14], [], none, false⟩, ⟨22, (fun l v H => v = .agg #[.int .i64 R.n, l.getD 1 undef, l.getD 2 undef, .slice none 0 0] ∧ H = []), [3, 9, 15], [], none, false⟩, ⟨23, (fun l v H => ∃ b, v = .pointer (some ⟨b, 0, none⟩) ∧ H = [(b, .cells (l.getD 0 undef).cells 64)]), [16], [], none, false⟩] [(18, false)] (by kernel_rfl) (by kernel_rfl) (fun d _ _ _ _ h => by cases d <;> exact h) ⟨?_, ?_, ?_, ?_, ?_, ?_, ?_, ?_, ?_, ?_, ?_, ?_, ?_, ?_, ?_, ?_, ?_, ?_, trivial⟩ ?_  -- region 1
  · refine due_plain fun ρ w1 G hsrc hold => ?_; obtain ⟨o0, -⟩ := hold; exact y_move (o0.trans (A.g 0 rfl)) y_eq
  · refine due_plain fun ρ w1 G hsrc hold => ?_; obtain ⟨⟨_, _, ⟨h6, -⟩, -⟩, -⟩ := hsrc; exact y_nilCheck h6 y_eq
  · refine due_plain fun ρ w1 G hsrc hold => ?_; obtain ⟨⟨_, _, ⟨h7, -⟩, -⟩, -⟩ := hsrc; exact y_fieldAddr (off := 0) (j := 0) (by kernel_rfl) h7 (by first | rfl | omega) y_eq
  · refine due_plain fun ρ w1 G hsrc hold => ?_; obtain ⟨⟨_, _, ⟨h8, -⟩, -⟩, -⟩ := hsrc; exact y_load (by kernel_rfl) h8 ((cell_of (G.gr.heap' (S.kp.heap' hp (by simp))) _).trans rfl) y_eq
  · refine due_plain fun ρ w1 G hsrc hold => ?_; exact y_buildSlice0 (c := #[]) (e := 28)  (fun w => by kernel_rfl) (fun b w' g n => ⟨g, _, ⟨b, rfl, rfl⟩, n⟩)
  · refine due_plain fun ρ w1 G hsrc hold => ?_; obtain ⟨o0, -⟩ := hold; exact y_move (o0.trans (A.g 0 rfl)) y_eq
  · refine due_plain fun ρ w1 G hsrc hold => ?_; obtain ⟨⟨_, _, ⟨h11, -⟩, -⟩, -⟩ := hsrc; exact y_nilCheck h11 y_eq
  · refine due_plain fun ρ w1 G hsrc hold => ?_; obtain ⟨⟨_, _, ⟨h12, -⟩, -⟩, -⟩ := hsrc; exact y_fieldAddr (off := 1) (j := 1) (by kernel_rfl) h12 (by first | rfl | omega) y_eq
  · refine due_plain fun ρ w1 G hsrc hold => ?_; obtain ⟨⟨_, _, ⟨h13, -⟩, -⟩, -⟩ := hsrc; exact y_load (by kernel_rfl) h13 ((cell_of (G.gr.heap' (S.kp.heap' hp (by simp))) _).trans rfl) y_eq
  · refine due_plain fun ρ w1 G hsrc hold => ?_; obtain ⟨⟨_, _, ⟨b1, h10, -⟩, -⟩, ⟨_, _, ⟨h14, -⟩, -⟩, -⟩ := hsrc; exact y_append0 okPS (by kernel_rfl) h10 h14 (h.links.gr (S.kp.to_gr.trans G.gr)) oL (by omega) (by omega) (fun v' w' H' g n hr => ⟨g, H', ⟨hr.len, hr⟩, n⟩)
  · refine due_plain fun ρ w1 G hsrc hold => ?_; exact y_buildSlice0 (c := #[]) (e := 4)  (fun w => by kernel_rfl) (fun b w' g n => ⟨g, _, ⟨b, rfl, rfl⟩, n⟩)
  · refine due_plain fun ρ w1 G hsrc hold => ?_; obtain ⟨o0, -⟩ := hold; exact y_move (o0.trans (A.g 0 rfl)) y_eq
  · refine due_plain fun ρ w1 G hsrc hold => ?_; obtain ⟨⟨_, _, ⟨h17, -⟩, -⟩, -⟩ := hsrc; exact y_nilCheck h17 y_eq
  · refine due_plain fun ρ w1 G hsrc hold => ?_; obtain ⟨⟨_, _, ⟨h18, -⟩, -⟩, -⟩ := hsrc; exact y_fieldAddr (off := 2) (j := 2) (by kernel_rfl) h18 (by first | rfl | omega) y_eq
  · refine due_plain fun ρ w1 G hsrc hold => ?_; obtain ⟨⟨_, _, ⟨h19, -⟩, -⟩, -⟩ := hsrc; exact y_load (by kernel_rfl) h19 ((cell_of (G.gr.heap' (S.kp.heap' hp (by simp))) _).trans rfl) y_eq
  · refine due_plain fun ρ w1 G hsrc hold => ?_; obtain ⟨⟨_, _, ⟨b2, h16, -⟩, -⟩, ⟨_, _, ⟨h20, -⟩, -⟩, -⟩ := hsrc; exact y_append0 okBO (by kernel_rfl) h16 h20 (h.cuts.gr (S.kp.to_gr.trans G.gr)) oC (by omega) (by omega) (fun v' w' H' g n hr => ⟨g, H', ⟨hr.len, hr⟩, n⟩)
  · refine due_plain fun ρ w1 G hsrc hold => ?_; obtain ⟨⟨_, _, ⟨h9, -⟩, -⟩, ⟨_, _, ⟨⟨kl1, kl2, h15⟩, -⟩, -⟩, ⟨_, _, ⟨⟨kc1, kc2, h21⟩, -⟩, -⟩, -⟩ := hsrc; exact y_build3 h9 h15 h21 (v := .agg #[.int .i64 R.n, .slice kl1 R.links.length kl2, .slice kc1 R.cuts.length kc2, .slice none 0 0]) (by kernel_rfl) ⟨Gr.refl _, [], ⟨(congrArg (fun x => Value.agg #[.int .i64 R.n, x, .slice kc1 R.cuts.length kc2, .slice none 0 0]) h15.symm).trans (congrArg (fun y => Value.agg #[.int .i64 R.n, ρ (.tmp 15), y, .slice none 0 0]) h21.symm), rfl⟩, NewF.nil _ _⟩
  · refine due_plain fun ρ w1 G hsrc hold => ?_; obtain ⟨⟨_, _, ⟨h22, -⟩, -⟩, -⟩ := hsrc; exact y_boxN h22 (fun b w' g n => ⟨g, _, ⟨b, rfl, congrArg (fun x => [(b, Obj.cells (Value.cells x) 64)]) h22.symm⟩, n⟩)
  rintro _ _ ⟨rfl, rfl⟩ _ _ ⟨rfl, rfl⟩ _ _ ⟨rfl, rfl⟩ _ _ ⟨rfl, rfl⟩ _ _ ⟨b1, rfl, rfl⟩ _ _ ⟨rfl, rfl⟩ _ _ ⟨rfl, rfl⟩ _ _ ⟨rfl, rfl⟩ _ _ ⟨rfl, rfl⟩ _ Hkl ⟨⟨kl1, kl2, rfl⟩, hkl⟩ _ _ ⟨b2, rfl, rfl⟩ _ _ ⟨rfl, rfl⟩ _ _ ⟨rfl, rfl⟩ _ _ ⟨rfl, rfl⟩ _ _ ⟨rfl, rfl⟩ _ Hkc ⟨⟨kc1, kc2, rfl⟩, hkc⟩ _ _ ⟨rfl, rfl⟩ _ _ ⟨b9, rfl, rfl⟩
  intro ac w A gG nN
  replace S : St _ _ _ ([(b9, .cells #[.int .i64 R.n, .slice kl1 R.links.length kl2, .slice kc1 R.cuts.length kc2, .slice none 0 0] 64 (0, 0))] ++ (Hkc ++ ([(b2, .cells #[] 4 (0, 0))] ++ (Hkl ++ [(b1, .cells #[] 28 (0, 0))])))) := (S.new gG nN).perm (by first | exact .refl _ | (rw [List.append_assoc]; exact .refl _) | (simp only [List.append_assoc, List.nil_append, List.append_nil]; exact .refl _))
  replace S : St _ _ _ ([(b9, .cells #[.int .i64 R.n, .slice kl1 R.links.length kl2, .slice kc1 R.cuts.length kc2, .slice none 0 0] 64 (0, 0)), (b2, .cells #[] 4 (0, 0))] ++ (Hkc ++ (Hkl ++ [(b1, .cells #[] 28 (0, 0))]))) := S.swap1 (L := [(b9, .cells #[.int .i64 R.n, .slice kl1 R.links.length kl2, .slice kc1 R.cuts.length kc2, .slice none 0 0] 64 (0, 0))]) (A := Hkc) (B := [(b2, .cells #[] 4 (0, 0))])
  replace S : St _ _ _ ([(b9, .cells #[.int .i64 R.n, .slice kl1 R.links.length kl2, .slice kc1 R.cuts.length kc2, .slice none 0 0] 64 (0, 0)), (b2, .cells #[] 4 (0, 0))] ++ (Hkc ++ ([(b1, .cells #[] 28 (0, 0))] ++ Hkl))) := S.perm (by classical rw [List.perm_iff_count]; intro x; simp only [List.count_append, List.count_cons, List.count_nil] <;> omega)
  replace S : St _ _ _ ([(b9, .cells #[.int .i64 R.n, .slice kl1 R.links.length kl2, .slice kc1 R.cuts.length kc2, .slice none 0 0] 64 (0, 0)), (b2, .cells #[] 4 (0, 0)), (b1, .cells #[] 28 (0, 0))] ++ (Hkc ++ Hkl)) := S.swap1 (L := [(b9, .cells #[.int .i64 R.n, .slice kl1 R.links.length kl2, .slice kc1 R.cuts.length kc2, .slice none 0 0] 64 (0, 0)), (b2, .cells #[] 4 (0, 0))]) (A := Hkc) (B := [(b1, .cells #[] 28 (0, 0))])
  refine La A rfl (A.g 23 rfl) fun _ A => ?_
  replace A := A.only [3, 2, 0] rfl
  refine hK2 _ _ ?_
  refine wp_seq_k fun K3 hK3 => ?_
  refine wp_seq_k fun K4 hK4 => ?_
  refine region_seq ?_  -- region 2
  refine La A rfl (evc _ _) fun _ A => ?_
  replace A := A.only [4, 3, 2, 0] rfl
  refine hK4 _ _ ?_
  refine wp_block ?_
  replace A := A.only [4, 3, 0] rfl
  replace S : St _ _ _ ([(b9, .cells #[.int .i64 R.n, .slice kl1 R.links.length kl2, .slice kc1 R.cuts.length kc2, .slice none 0 0] 64 (0, 0))] ++ (Hkl ++ Hkc)) := St.app_left (K := [(b2, .cells #[] 4 (0, 0)), (b1, .cells #[] 28 (0, 0))]) (S.perm (by classical rw [List.perm_iff_count]; intro x; simp only [List.count_append, List.count_cons, List.count_nil] <;> omega))
  refine wp_loop_ghost (fun kk ac w' => ∃ (i : Nat) (ds : List Dm) (vw : Value) (Hw : Frag), kk + i = gs.length ∧ Sl 56 ac [(0, .pointer (some ⟨p, 0, none⟩)), (3, .pointer (some ⟨b9, 0, none⟩)), (4, .int .i64 ((i : Nat) : Int))] ∧ St [] w0 w' ([(b9, .cells #[.int .i64 R.n, .slice kl1 R.links.length kl2, .slice kc1 R.cuts.length kc2, vw] 64 (0, 0))] ++ (Hkl ++ (Hkc ++ (Hw ++ (gmH ds))))) ∧ RCpI R i ds vw Hw) gs.length ⟨0, [], _, [], by simp, A, (by simpa [gmH] using S), ⟨SlRep.nil _ _ none, by simp [gmD], (fun g hg => by simp at hg), by simp⟩⟩ ?_
  clear A S
  rintro kk ac w ⟨i, ds, vw, Hw, hkk, A, S, I⟩
  obtain ⟨w1, w2, rfl⟩ := I.way.len
  have hdl := I.len
  rcases Nat.lt_or_ge i gs.length with hi | hi
  · obtain ⟨g, hli⟩ : ∃ g, gs[i]? = some g := ⟨_, List.getElem?_eq_getElem hi⟩
    obtain ⟨va, vc, hva, hrow⟩ := gm_row h.way hli
    obtain ⟨hbs, hg512⟩ := h.bs g (List.mem_of_getElem? hli)
    obtain ⟨ga, gc, hgv⟩ := hbs.slice
    rw [hgv] at hrow hbs
    simp only [Value.slice.injEq] at hva; obtain ⟨rfl, -, rfl⟩ := hva
    have hRi := gs_get h.gd hli
    refine wp_seq_k fun K5 hK5 => ?_
    refine wp_seq_k fun K6 hK6 => ?_
    refine region_seq ?_  -- region 3
    refine Lm A rfl (A.g 4 rfl) fun _ A => Lm A rfl (A.g 0 rfl) fun _ A => Lo A rfl (y_nilCheck (A.g 25 rfl) fun _ A => ?_)
    refine Lo A rfl (y_fieldAddr (off := 3) (j := 3) (by kernel_rfl) (A.g 26 rfl) (by first | rfl | omega) fun _ A => ?_)
    replace A := A.only [27, 24, 4, 3, 0] rfl
    refine Lo A rfl (y_load (by kernel_rfl) (A.g 27 rfl) ((cell_of (S.kp.heap' hp (by simp)) _).trans rfl) fun _ A => ?_)
    refine Lo A rfl (y_lenS (e := 93) (by kernel_rfl) (A.g 28 rfl) fun _ A => ?_)
    refine Lo A rfl (y_lss (A.g 24 rfl) (A.g 29 rfl) (c := true) (decide_eq_true (by omega)) fun _ A => ?_)
    replace A := A.only [30, 4, 3, 0] rfl
    refine hK6 _ _ ?_
    refine wp_cond_true (A.get rfl) ?_
    refine wp_skip ?_
    refine hK5 _ _ ?_
    refine wp_seq_k fun K7 hK7 => ?_
    refine wp_block ?_
    refine wp_seq_k fun K8 hK8 => ?_
    refine region_seq ?_  -- region 5
    refine Lm A rfl (A.g 0 rfl) fun _ A => Lo A rfl (y_nilCheck (A.g 33 rfl) fun _ A => ?_)
    refine Lo A rfl (y_fieldAddr (off := 3) (j := 3) (by kernel_rfl) (A.g 34 rfl) (by first | rfl | omega) fun _ A => ?_)
    refine Lo A rfl (y_load (by kernel_rfl) (A.g 35 rfl) ((cell_of (S.kp.heap' hp (by simp)) _).trans rfl) fun _ A => ?_)
    replace A := A.only [36, 30, 4, 3, 0] rfl
    refine Lm A rfl (A.g 4 rfl) fun _ A => Lo A rfl (y_indexA (e := 93) (size := 4) (by kernel_rfl) (by kernel_rfl) (A.g 36 rfl) (A.g 37 rfl) (by omega) (by omega) fun _ A => ?_)
    refine Lo A rfl (y_loadAgg [.int .i64 g.d.f, .int .i64 g.d.t, .slice ga g.d.bs.length gc, .bool g.d.sp] (by kernel_rfl) (A.g 38 rfl) (fun z hz => S.kp.cell' (hrow z hz) (by simp)) fun _ A => ?_)
    refine Lo A rfl (y_allocN (z := .agg #[.int .i64 0, .int .i64 0, .slice none 0 0, .bool false]) (by kernel_rfl) fun b3 w gG nN ac A => ?_)
    replace S : St _ _ _ ([(b3, .cells #[.int .i64 0, .int .i64 0, .slice none 0 0, .bool false] 93 (0, 0)), (b9, .cells #[.int .i64 R.n, .slice kl1 R.links.length kl2, .slice kc1 R.cuts.length kc2, .slice w1 ds.length w2] 64 (0, 0))] ++ (Hkl ++ (Hkc ++ (Hw ++ (gmH ds))))) := (S.new gG nN).perm (by first | exact .refl _ | (rw [List.append_assoc]; exact .refl _) | (simp only [List.append_assoc, List.nil_append, List.append_nil]; exact .refl _))
    replace A := A.only [39, 30, 5, 4, 3, 0] rfl
    refine L_opN A rfl rfl (y_store 4 (by kernel_rfl) (A.g 5 rfl) (A.g 39 rfl) (S.get 0 rfl) rfl (Nat.le_of_ble_eq_true rfl) (one_all rfl) ?_)
    replace S : St _ _ _ ([(b3, .cells #[.int .i64 g.d.f, .int .i64 g.d.t, .slice ga g.d.bs.length gc, .bool g.d.sp] 93 (0, 0)), (b9, .cells #[.int .i64 R.n, .slice kl1 R.links.length kl2, .slice kc1 R.cuts.length kc2, .slice w1 ds.length w2] 64 (0, 0))] ++ (Hkl ++ (Hkc ++ (Hw ++ (gmH ds))))) := S.setAt 0 rfl _
    replace A := A.only [30, 5, 4, 3, 0] rfl
    refine hK8 _ _ ?_
    refine wp_seq_k fun K9 hK9 => ?_
    refine region_seq ?_  -- region 6
    refine Lo A rfl (y_buildSlice0 (c := #[]) (e := 5)  (fun w => by kernel_rfl) fun b4 w gG nN ac A => ?_)
    replace S : St _ _ _ ([(b4, .cells #[] 5 (0, 0)), (b3, .cells #[.int .i64 g.d.f, .int .i64 g.d.t, .slice ga g.d.bs.length gc, .bool g.d.sp] 93 (0, 0)), (b9, .cells #[.int .i64 R.n, .slice kl1 R.links.length kl2, .slice kc1 R.cuts.length kc2, .slice w1 ds.length w2] 64 (0, 0))] ++ (Hkl ++ (Hkc ++ (Hw ++ (gmH ds))))) := (S.new gG nN).perm (by first | exact .refl _ | (rw [List.append_assoc]; exact .refl _) | (simp only [List.append_assoc, List.nil_append, List.append_nil]; exact .refl _))
    refine Lo A rfl (y_fieldAddr (off := 2) (j := 2) (by kernel_rfl) (A.g 5 rfl) (by first | rfl | omega) fun _ A => ?_)
    refine Lo A rfl (y_load (by kernel_rfl) (A.g 41 rfl) ((cell_of (S.get 1 rfl) _).trans rfl) fun _ A => ?_)
    refine Lo A rfl (y_append0 okU8 (by kernel_rfl) (A.g 40 rfl) (A.g 42 rfl) (hbs.gr S.kp.to_gr) (u8_one _) (by omega) (by omega) fun vb w Hb gG nN hB ac A => ?_)
    obtain ⟨ka, kc, rfl⟩ := SlRep.len hB
    replace S : St _ _ _ (Hb ++ ([(b4, .cells #[] 5 (0, 0)), (b3, .cells #[.int .i64 g.d.f, .int .i64 g.d.t, .slice ga g.d.bs.length gc, .bool g.d.sp] 93 (0, 0)), (b9, .cells #[.int .i64 R.n, .slice kl1 R.links.length kl2, .slice kc1 R.cuts.length kc2, .slice w1 ds.length w2] 64 (0, 0))] ++ (Hkl ++ (Hkc ++ (Hw ++ (gmH ds)))))) := (S.new gG nN).perm (by first | exact .refl _ | (rw [List.append_assoc]; exact .refl _) | (simp only [List.append_assoc, List.nil_append, List.append_nil]; exact .refl _))
    replace S : St _ _ _ ([(b4, .cells #[] 5 (0, 0)), (b3, .cells #[.int .i64 g.d.f, .int .i64 g.d.t, .slice ga g.d.bs.length gc, .bool g.d.sp] 93 (0, 0)), (b9, .cells #[.int .i64 R.n, .slice kl1 R.links.length kl2, .slice kc1 R.cuts.length kc2, .slice w1 ds.length w2] 64 (0, 0))] ++ (Hb ++ (Hkl ++ (Hkc ++ (Hw ++ (gmH ds)))))) := S.swap1 (L := []) (A := Hb) (B := [(b4, .cells #[] 5 (0, 0)), (b3, .cells #[.int .i64 g.d.f, .int .i64 g.d.t, .slice ga g.d.bs.length gc, .bool g.d.sp] 93 (0, 0)), (b9, .cells #[.int .i64 R.n, .slice kl1 R.links.length kl2, .slice kc1 R.cuts.length kc2, .slice w1 ds.length w2] 64 (0, 0))])
    refine Lo A rfl (y_fieldAddr (off := 2) (j := 2) (by kernel_rfl) (A.g 5 rfl) (by first | rfl | omega) fun _ A => ?_)
    refine L_opN A rfl rfl (y_store 1 (by kernel_rfl) (A.g 44 rfl) (A.g 43 rfl) (S.get 1 rfl) rfl (Nat.le_of_ble_eq_true rfl) (one_all rfl) ?_)
    replace S : St _ _ _ ([(b4, .cells #[] 5 (0, 0)), (b3, .cells #[.int .i64 g.d.f, .int .i64 g.d.t, .slice ka g.d.bs.length kc, .bool g.d.sp] 93 (0, 0)), (b9, .cells #[.int .i64 R.n, .slice kl1 R.links.length kl2, .slice kc1 R.cuts.length kc2, .slice w1 ds.length w2] 64 (0, 0))] ++ (Hb ++ (Hkl ++ (Hkc ++ (Hw ++ (gmH ds)))))) := S.setAt 1 rfl _
    replace A := A.only [30, 5, 4, 3, 0] rfl
    refine hK9 _ _ ?_
    refine region_draw A [⟨45, pl (eqv (.pointer (some ⟨b9, 0, none⟩))), [], [3], none, true⟩, ⟨46, pl (eqv (.pointer (some ⟨b9, 0, none⟩))), [], [3], none, false⟩, ⟨47, pl (eqv (.pointer (some ⟨b9, 0, none⟩))), [1], [], none, false⟩, ⟨48, pl (eqv (.pointer (some ⟨b9, 3, none⟩))), [2], [], none, false⟩, ⟨49, pl (eqv (.slice w1 ds.length w2)), [3], [], none, false⟩, ⟨50, pl (eqv (.agg #[.int .i64 g.d.f, .int .i64 g.d.t, .slice ka g.d.bs.length kc, .bool g.d.sp])), [], [5], none, false⟩, ⟨51, pl (sblk 1 (.cells #[.int .i64 g.d.f, .int .i64 g.d.t, .slice ka g.d.bs.length kc, .bool g.d.sp] 93)), [5], [], none, false⟩] [(7, false), (8, false), (9, false), (10, false)] (by kernel_rfl) (by kernel_rfl) (fun d _ _ _ _ h => by cases d <;> exact h) ⟨?_, ?_, ?_, ?_, ?_, ?_, ?_, trivial⟩ ?_  -- region 7
    · refine due_pure fun ρ w1 G hsrc hold => ?_; obtain ⟨o3, -⟩ := hold; exact ⟨_, (fun w1 => r_move (o3.trans (A.g 3 rfl))), rfl, rfl⟩
    · refine due_plain fun ρ w1 G hsrc hold => ?_; obtain ⟨o3, -⟩ := hold; exact y_move (o3.trans (A.g 3 rfl)) y_eq
    · refine due_plain fun ρ w1 G hsrc hold => ?_; obtain ⟨⟨_, _, ⟨h46, -⟩, -⟩, -⟩ := hsrc; exact y_nilCheck h46 y_eq
    · refine due_plain fun ρ w1 G hsrc hold => ?_; obtain ⟨⟨_, _, ⟨h47, -⟩, -⟩, -⟩ := hsrc; exact y_fieldAddr (off := 3) (j := 3) (by kernel_rfl) h47 (by first | rfl | omega) y_eq
    · refine due_plain fun ρ w1 G hsrc hold => ?_; obtain ⟨⟨_, _, ⟨h48, -⟩, -⟩, -⟩ := hsrc; exact y_load (by kernel_rfl) h48 ((cell_of (G.gr.heap' (S.get 2 rfl)) _).trans rfl) y_eq
    · refine due_plain fun ρ w1 G hsrc hold => ?_; obtain ⟨o5, -⟩ := hold; exact y_loadAgg [.int .i64 g.d.f, .int .i64 g.d.t, .slice ka g.d.bs.length kc, .bool g.d.sp] (by kernel_rfl) (o5.trans (A.g 5 rfl)) (cells_at (G.gr.heap' (S.get 1 rfl)) rfl) y_eq
    · refine due_plain fun ρ w1 G hsrc hold => ?_; obtain ⟨⟨_, _, ⟨h50, -⟩, -⟩, -⟩ := hsrc; exact y_buildSlice1 (c := #[.int .i64 g.d.f, .int .i64 g.d.t, .slice ka g.d.bs.length kc, .bool g.d.sp]) (e := 93) h50 (fun w => by kernel_rfl) (fun b w' g n => ⟨g, _, ⟨b, rfl, rfl⟩, n⟩)
    rintro _ _ ⟨rfl, rfl⟩ _ _ ⟨rfl, rfl⟩ _ _ ⟨rfl, rfl⟩ _ _ ⟨rfl, rfl⟩ _ _ ⟨rfl, rfl⟩ _ _ ⟨rfl, rfl⟩ _ _ ⟨b5, rfl, rfl⟩
    intro ac w A gG nN
    replace S : St _ _ _ ([(b5, .cells #[.int .i64 g.d.f, .int .i64 g.d.t, .slice ka g.d.bs.length kc, .bool g.d.sp] 93 (0, 0)), (b4, .cells #[] 5 (0, 0)), (b3, .cells #[.int .i64 g.d.f, .int .i64 g.d.t, .slice ka g.d.bs.length kc, .bool g.d.sp] 93 (0, 0)), (b9, .cells #[.int .i64 R.n, .slice kl1 R.links.length kl2, .slice kc1 R.cuts.length kc2, .slice w1 ds.length w2] 64 (0, 0))] ++ (Hb ++ (Hkl ++ (Hkc ++ (Hw ++ (gmH ds)))))) := (S.new gG nN).perm (by first | exact .refl _ | (rw [List.append_assoc]; exact .refl _) | (simp only [List.append_assoc, List.nil_append, List.append_nil]; exact .refl _))
    have hsrc : Src w 4 (.slice (some ⟨b5, 0, none⟩) 1 1) 1 [.int .i64 g.d.f, .int .i64 g.d.t, .slice ka g.d.bs.length kc, .bool g.d.sp] := ⟨rfl, Or.inr ⟨_, _, rfl, cells_at (S.get 0 rfl) rfl⟩⟩
    replace S : St _ _ _ (Hw ++ ([(b5, .cells #[.int .i64 g.d.f, .int .i64 g.d.t, .slice ka g.d.bs.length kc, .bool g.d.sp] 93 (0, 0)), (b4, .cells #[] 5 (0, 0)), (b3, .cells #[.int .i64 g.d.f, .int .i64 g.d.t, .slice ka g.d.bs.length kc, .bool g.d.sp] 93 (0, 0)), (b9, .cells #[.int .i64 R.n, .slice kl1 R.links.length kl2, .slice kc1 R.cuts.length kc2, .slice w1 ds.length w2] 64 (0, 0))] ++ (Hb ++ (Hkl ++ (Hkc ++ (gmH ds)))))) := S.perm (by classical rw [List.perm_iff_count]; intro x; simp only [List.count_append, List.count_cons, List.count_nil] <;> omega)
    refine Lo A rfl (y_append okGR (by kernel_rfl) (A.g 49 rfl) (A.g 51 rfl) (H := Hw) S I.way hsrc (one_all rfl) (by omega) (by omega) fun v2 w Hw2 hr2 S ac A => ?_)
    obtain ⟨x1, x2, rfl⟩ := hr2.len
    replace S : St _ _ _ ([(b5, .cells #[.int .i64 g.d.f, .int .i64 g.d.t, .slice ka g.d.bs.length kc, .bool g.d.sp] 93 (0, 0)), (b4, .cells #[] 5 (0, 0)), (b3, .cells #[.int .i64 g.d.f, .int .i64 g.d.t, .slice ka g.d.bs.length kc, .bool g.d.sp] 93 (0, 0)), (b9, .cells #[.int .i64 R.n, .slice kl1 R.links.length kl2, .slice kc1 R.cuts.length kc2, .slice w1 ds.length w2] 64 (0, 0))] ++ (Hb ++ (Hkl ++ (Hkc ++ ((gmH ds) ++ Hw2))))) := S.perm (by classical rw [List.perm_iff_count]; intro x; simp only [List.count_append, List.count_cons, List.count_nil] <;> omega)
    refine Lo A rfl (y_nilCheck (A.g 45 rfl) fun _ A => ?_)
    refine Lo A rfl (y_fieldAddr (off := 3) (j := 3) (by kernel_rfl) (A.g 53 rfl) (by first | rfl | omega) fun _ A => ?_)
    refine L_opN A rfl rfl (y_store 1 (by kernel_rfl) (A.g 54 rfl) (A.g 52 rfl) (S.get 3 rfl) rfl (Nat.le_of_ble_eq_true rfl) (one_all rfl) ?_)
    replace S : St _ _ _ ([(b5, .cells #[.int .i64 g.d.f, .int .i64 g.d.t, .slice ka g.d.bs.length kc, .bool g.d.sp] 93 (0, 0)), (b4, .cells #[] 5 (0, 0)), (b3, .cells #[.int .i64 g.d.f, .int .i64 g.d.t, .slice ka g.d.bs.length kc, .bool g.d.sp] 93 (0, 0)), (b9, .cells #[.int .i64 R.n, .slice kl1 R.links.length kl2, .slice kc1 R.cuts.length kc2, .slice x1 (ds.length + 1) x2] 64 (0, 0))] ++ (Hb ++ (Hkl ++ (Hkc ++ ((gmH ds) ++ Hw2))))) := S.setAt 3 rfl _
    replace A := A.only [30, 5, 4, 3, 0] rfl
    refine hK7 _ _ ?_
    refine region_seq ?_  -- region 4
    refine Lm A rfl (A.g 4 rfl) fun _ A => Lo A rfl (y_add (A.g 31 rfl) (evc _ _) (c := ((i + 1 : Nat) : Int)) ((wrap64 (by omega)).trans (by omega)) fun _ A => ?_)
    refine La A rfl (A.g 32 rfl) fun _ A => ?_
    replace A := A.only [30, 5, 4, 3, 0] rfl
    replace A := A.only [4, 3, 0] rfl
    replace S : St _ _ _ ([(b9, .cells #[.int .i64 R.n, .slice kl1 R.links.length kl2, .slice kc1 R.cuts.length kc2, .slice x1 (ds.length + 1) x2] 64 (0, 0))] ++ (Hkl ++ (Hkc ++ (Hw2 ++ ((gmH ds) ++ Hb))))) := St.app_left (K := [(b5, .cells #[.int .i64 g.d.f, .int .i64 g.d.t, .slice ka g.d.bs.length kc, .bool g.d.sp] 93 (0, 0)), (b4, .cells #[] 5 (0, 0)), (b3, .cells #[.int .i64 g.d.f, .int .i64 g.d.t, .slice ka g.d.bs.length kc, .bool g.d.sp] 93 (0, 0))]) (S.perm (by classical rw [List.perm_iff_count]; intro x; simp only [List.count_append, List.count_cons, List.count_nil] <;> omega))
    have hds : (ds ++ [(⟨g.d, .slice ka g.d.bs.length kc, Hb⟩ : Dm)]).length = ds.length + 1 := by simp
    exact ⟨kk - 1, by omega, i + 1, ds ++ [⟨g.d, .slice ka g.d.bs.length kc, Hb⟩], _, Hw2, by omega, A, (by rw [gmH_snoc]; exact S), ⟨by rw [gmCells_snoc, hds]; exact hr2, by simp [gmD, List.take_add_one, hRi, ← I.gd], fun q hq => (by rcases List.mem_append.1 hq with hq | hq; exact I.ok q hq; simp at hq; subst hq; exact ⟨hB, hg512⟩), by omega⟩⟩
  · obtain rfl : i = gs.length := by omega
    have hgd := I.gd
    rw [hgl, List.take_length] at hgd
    refine wp_seq_k fun K5 hK5 => ?_
    refine wp_seq_k fun K6 hK6 => ?_
    refine region_seq ?_  -- region 3
    refine Lm A rfl (A.g 4 rfl) fun _ A => Lm A rfl (A.g 0 rfl) fun _ A => Lo A rfl (y_nilCheck (A.g 25 rfl) fun _ A => ?_)
    refine Lo A rfl (y_fieldAddr (off := 3) (j := 3) (by kernel_rfl) (A.g 26 rfl) (by first | rfl | omega) fun _ A => ?_)
    replace A := A.only [27, 24, 4, 3, 0] rfl
    refine Lo A rfl (y_load (by kernel_rfl) (A.g 27 rfl) ((cell_of (S.kp.heap' hp (by simp)) _).trans rfl) fun _ A => ?_)
    refine Lo A rfl (y_lenS (e := 93) (by kernel_rfl) (A.g 28 rfl) fun _ A => ?_)
    refine Lo A rfl (y_lss (A.g 24 rfl) (A.g 29 rfl) (c := false) (decide_eq_false (by omega)) fun _ A => ?_)
    replace A := A.only [30, 4, 3, 0] rfl
    refine hK6 _ _ ?_
    refine wp_cond_false (A.get rfl) ?_
    refine wp_exit ?_
    refine hK3 _ _ ?_
    refine wp_seq_k fun K7 hK7 => ?_
    refine region_seq ?_  -- region 8
    refine Lm A rfl (A.g 3 rfl) fun _ A => La A rfl (A.g 55 rfl) fun _ A => ?_
    replace A := A.only [30, 4, 3, 2, 0] rfl
    refine hK7 _ _ ?_
    exact wp_ret ⟨A.defers, _, res_run (rs := [.tmp 2]) (vs := [.pointer (some ⟨b9, 0, none⟩)]) rfl ⟨A.get rfl, trivial⟩, ⟨_, rfl, S.kp.to_gr, _, ⟨b9, rfl, ⟨_, _, _, _, _, _, ds, ⟨hkl, hkc, I.way, hgd, I.ok, hfew, hsame⟩, rfl⟩⟩, S.newF⟩⟩
end
end Go.Proofs.Ytaeidblipdjgnaa
