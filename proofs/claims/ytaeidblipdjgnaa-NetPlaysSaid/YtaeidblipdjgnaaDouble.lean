import Derived.Test.YtaeidblipdjgnaaTake
import Derived.Test.YtaeidblipdjgnaaSend
namespace Go.Proofs.Ytaeidblipdjgnaa
open Go.RowKit Go.Maps Go.WideMaps

def cap1 (bi : Nat) (j : Nat) : Frag := [(bi, .cells #[.int .i64 j] 3 (0, 0))]
theorem mem_itH {its : List It} {j : Nat} {it : It} (h : its[j]? = some it) {x : Nat × Obj} (hx : x ∈ it.H) : x ∈ itH its := List.mem_flatMap.2 ⟨it, List.mem_of_getElem? h, hx⟩

set_option maxRecDepth 20000 in
set_option maxHeartbeats 1000000 in
theorem double1_full {w : World} {qa : Option Addr} {qc n : Nat} {bi : Nat} (hn : 24 ≤ n) : Calls Try.prog 43 #[.slice qa n qc, .pointer (some ⟨bi, 0, none⟩)] w (RetN w (eqv (.tuple #[.slice none 0 0, .int .i64 4]))) := by
  refine enter Try.func43 rfl (n := 23) rfl (Nat.le_of_ble_eq_true rfl) fun _ A => ?_
  have S : St _ _ _ [] := St.none w
  refine wp_seq_k fun K1 hK1 => ?_
  refine region_seq ?_  -- region 0
  refine La A rfl (evc _ _) fun _ A => La A rfl (evc _ _) fun _ A => ?_
  replace A := A.only [4, 3, 1, 0] rfl
  refine hK1 _ _ ?_
  refine wp_seq_k fun K2 hK2 => ?_
  refine wp_seq_k fun K3 hK3 => ?_
  refine region_seq ?_  -- region 1
  refine Lm A rfl (A.g 0 rfl) fun _ A => Lo A rfl (y_lenS (e := 85) (by kernel_rfl) (A.g 5 rfl) fun _ A => ?_)
  refine Lo A rfl (y_geq (A.g 6 rfl) (evc _ _) (c := true) (decide_eq_true (by omega)) fun _ A => ?_)
  replace A := A.only [7, 4, 3, 1, 0] rfl
  refine hK3 _ _ ?_
  refine wp_cond_true (A.get rfl) ?_
  refine wp_seq_k fun K4 hK4 => ?_
  refine region_seq ?_  -- region 2
  refine La A rfl (evc _ _) fun _ A => La A rfl (evc _ _) fun _ A => ?_
  replace A := A.only [7, 4, 3, 1, 0] rfl
  refine hK4 _ _ ?_
  exact wp_ret ⟨A.defers, _, res_run (rs := [.tmp 3, .tmp 4]) (vs := [.slice none 0 0, .int .i64 4]) rfl ⟨A.get rfl, A.get rfl, trivial⟩, ⟨_, rfl, S.kp.to_gr, [], ⟨rfl, rfl⟩, NewF.nil _ _⟩⟩

set_option maxRecDepth 20000 in
set_option maxHeartbeats 4000000 in
theorem double1_ok {w : World} {qa : Option Addr} {qc : Nat} {its : List It} {HQ : Frag} {bi j : Nat} {it : It} (hsl : SlRep 85 2 (.slice qa its.length qc) its.length (itCells its) HQ) (hok : ItOk its) (hj : its[j]? = some it) (hbig : its.length < 24)
    (nd : (keys (HQ ++ (itH its ++ cap1 bi j))).Nodup) (hH : Holds w (HQ ++ (itH its ++ cap1 bi j))) :
    Calls Try.prog 43 (#[.slice qa its.length qc] ++ #[.pointer (some ⟨bi, 0, none⟩)]) w (RetW (keys (HQ ++ (itH its ++ cap1 bi j))) w fun r Hr => ∃ v' HQ' vb Hb, r = .tuple #[v', .int .i64 0] ∧ SlRep 85 2 v' (its ++ [(⟨vb, it.bs, it.sp, Hb⟩ : It)]).length (itCells (its ++ [(⟨vb, it.bs, it.sp, Hb⟩ : It)])) HQ' ∧ BRep vb it.bs Hb ∧ Hr = HQ' ++ ((itH its ++ Hb) ++ cap1 bi j)) := by
  have hjl : j < its.length := lt_of_get hj
  have hsl0 := hsl
  obtain ⟨b, cap, cs, hq, rfl, hcs, hncap, htake⟩ := hsl.block (by omega)
  simp only [Value.slice.injEq] at hq
  obtain ⟨rfl, -, rfl⟩ := hq
  have hit := hok it (List.mem_of_getElem? hj)
  obtain ⟨ba, bc, hbv⟩ := SlRep.len hit.1
  have hcell : cs[j * 2]? = some (.slice ba it.bs.length bc) := by
    rw [SlRep.cell htake (by omega), itCells_get, show j * 2 / 2 = j by omega, hj]; simp [hbv]
  have hcell2 : cs[j * 2 + 1]? = some (.bool it.sp) := by
    rw [SlRep.cell htake (by omega), itCells_get, show (j * 2 + 1) / 2 = j by omega, hj]; simp
  have S0 := St.start nd hH
  have hitH : ∀ {D w0 w1 L}, St D w0 w1 (L ++ itH its) → BSrc w1 (.slice ba it.bs.length bc) it.bs := fun S => by
    have := BRep.src hit.1 (fun x hx => S.holds x (List.mem_append.2 (Or.inr (mem_itH hj hx))))
    rwa [hbv] at this
  show Calls Try.prog 43 #[.slice (some ⟨b, 0, none⟩) its.length qc, .pointer (some ⟨bi, 0, none⟩)] w _
  refine enter Try.func43 rfl (n := 23) rfl (Nat.le_of_ble_eq_true rfl) fun _ A => ?_
  have S : St _ _ _ ([(b, .cells cs 85 (0, 0)), (bi, .cells #[.int .i64 j] 3 (0, 0))] ++ itH its) := St.last (L := [(b, .cells cs 85 (0, 0))]) S0 List.perm_append_comm
  refine wp_seq_k fun K1 hK1 => ?_
  refine region_seq ?_  -- region 0
  refine La A rfl (evc _ _) fun _ A => La A rfl (evc _ _) fun _ A => ?_
  replace A := A.only [4, 3, 1, 0] rfl
  refine hK1 _ _ ?_
  refine wp_seq_k fun K2 hK2 => ?_
  refine wp_seq_k fun K3 hK3 => ?_
  refine region_seq ?_  -- region 1
  refine Lm A rfl (A.g 0 rfl) fun _ A => Lo A rfl (y_lenS (e := 85) (by kernel_rfl) (A.g 5 rfl) fun _ A => ?_)
  refine Lo A rfl (y_geq (A.g 6 rfl) (evc _ _) (c := false) (decide_eq_false (by omega)) fun _ A => ?_)
  replace A := A.only [7, 4, 3, 1, 0] rfl
  refine hK3 _ _ ?_
  refine wp_cond_false (A.get rfl) ?_
  refine wp_skip ?_
  refine hK2 _ _ ?_
  refine wp_seq_k fun K4 hK4 => ?_
  refine region_draw A [⟨8, pl (eqv (.slice (some ⟨b, 0, none⟩) its.length qc)), [], [0], none, false⟩, ⟨9, pl (eqv (.slice (some ⟨b, 0, none⟩) its.length qc)), [], [0], none, false⟩, ⟨10, pl (eqv (.int .i64 j)), [], [1], none, false⟩, ⟨11, pl (eqv (.pointer (some ⟨b, j * 2, none⟩))), [1, 2], [], none, false⟩, ⟨12, pl (eqv (.pointer (some ⟨b, j * 2, none⟩))), [3], [], none, false⟩, ⟨13, pl (eqv (.slice ba it.bs.length bc)), [4], [], none, false⟩, ⟨14, pl (fun v H => BRep v it.bs H), [5], [], none, false⟩, ⟨15, pl (eqv (.slice (some ⟨b, 0, none⟩) its.length qc)), [], [0], none, false⟩, ⟨16, pl (eqv (.int .i64 j)), [], [1], none, false⟩, ⟨17, pl (eqv (.pointer (some ⟨b, j * 2, none⟩))), [7, 8], [], none, false⟩, ⟨18, pl (eqv (.pointer (some ⟨b, j * 2 + 1, none⟩))), [9], [], none, false⟩, ⟨19, pl (eqv (.bool it.sp)), [10], [], none, false⟩, ⟨20, (fun l v H => v = .agg #[l.getD 0 undef, .bool it.sp] ∧ H = []), [6, 11], [], none, false⟩, ⟨21, (fun l v H => ∃ b, v = .slice (some ⟨b, 0, none⟩) 1 1 ∧ H = [(b, .cells (l.getD 0 undef).cells 85)]), [12], [], none, false⟩] [(14, false), (15, false), (16, false)] (by kernel_rfl) (by kernel_rfl) (fun d _ _ _ _ h => by cases d <;> exact h) ⟨?_, ?_, ?_, ?_, ?_, ?_, ?_, ?_, ?_, ?_, ?_, ?_, ?_, ?_, trivial⟩ ?_  -- region 3
  · refine due_plain fun ρ w1 G hsrc hold => ?_; obtain ⟨o0, -⟩ := hold; exact y_move (o0.trans (A.g 0 rfl)) y_eq
  · refine due_plain fun ρ w1 G hsrc hold => ?_; obtain ⟨o0, -⟩ := hold; exact y_move (o0.trans (A.g 0 rfl)) y_eq
  · refine due_plain fun ρ w1 G hsrc hold => ?_; obtain ⟨o1, -⟩ := hold; exact y_load (by kernel_rfl) (o1.trans (A.g 1 rfl)) ((cell_of (G.gr.heap' (S.get 1 rfl)) _).trans rfl) y_eq
  · refine due_plain fun ρ w1 G hsrc hold => ?_; obtain ⟨⟨_, _, ⟨h9, -⟩, -⟩, ⟨_, _, ⟨h10, -⟩, -⟩, -⟩ := hsrc; exact y_indexS (e := 85) (size := 2) (j := j * 2) (by kernel_rfl) (by kernel_rfl) h9 h10 (by omega) (by omega) (by simp) y_eq
  · refine due_plain fun ρ w1 G hsrc hold => ?_; obtain ⟨⟨_, _, ⟨h11, -⟩, -⟩, -⟩ := hsrc; exact y_fieldAddr (off := 0) (j := j * 2) (by kernel_rfl) h11 (by first | rfl | omega) y_eq
  · refine due_plain fun ρ w1 G hsrc hold => ?_; obtain ⟨⟨_, _, ⟨h12, -⟩, -⟩, -⟩ := hsrc; exact y_load (by kernel_rfl) h12 ((cell_of (G.gr.heap' (S.get 0 rfl)) _).trans hcell) y_eq
  · refine due_plain fun ρ w1 G hsrc hold => ?_; obtain ⟨⟨_, _, ⟨h13, -⟩, -⟩, -⟩ := hsrc; exact y_call1 (by kernel_rfl) (G.func _) h13 (clone_ok (BSrc.gr (hitH (L := [(b, .cells cs 85 (0, 0)), (bi, .cells #[.int .i64 j] 3 (0, 0))]) S) G.gr) (by omega))
  · refine due_plain fun ρ w1 G hsrc hold => ?_; obtain ⟨o0, -⟩ := hold; exact y_move (o0.trans (A.g 0 rfl)) y_eq
  · refine due_plain fun ρ w1 G hsrc hold => ?_; obtain ⟨o1, -⟩ := hold; exact y_load (by kernel_rfl) (o1.trans (A.g 1 rfl)) ((cell_of (G.gr.heap' (S.get 1 rfl)) _).trans rfl) y_eq
  · refine due_plain fun ρ w1 G hsrc hold => ?_; obtain ⟨⟨_, _, ⟨h15, -⟩, -⟩, ⟨_, _, ⟨h16, -⟩, -⟩, -⟩ := hsrc; exact y_indexS (e := 85) (size := 2) (j := j * 2) (by kernel_rfl) (by kernel_rfl) h15 h16 (by omega) (by omega) (by simp) y_eq
  · refine due_plain fun ρ w1 G hsrc hold => ?_; obtain ⟨⟨_, _, ⟨h17, -⟩, -⟩, -⟩ := hsrc; exact y_fieldAddr (off := 1) (j := j * 2 + 1) (by kernel_rfl) h17 (by first | rfl | omega) y_eq
  · refine due_plain fun ρ w1 G hsrc hold => ?_; obtain ⟨⟨_, _, ⟨h18, -⟩, -⟩, -⟩ := hsrc; exact y_load (by kernel_rfl) h18 ((cell_of (G.gr.heap' (S.get 0 rfl)) _).trans hcell2) y_eq
  · refine due_plain fun ρ w1 G hsrc hold => ?_; obtain ⟨⟨_, _, h14, -⟩, ⟨_, _, ⟨h19, -⟩, -⟩, -⟩ := hsrc; obtain ⟨ka, kc, h14⟩ := SlRep.len h14; exact y_build2 h14 h19 (v := .agg #[.slice ka it.bs.length kc, .bool it.sp]) (by kernel_rfl) ⟨Gr.refl _, [], ⟨congrArg (fun x => Value.agg #[x, .bool it.sp]) h14.symm, rfl⟩, NewF.nil _ _⟩
  · refine due_plain fun ρ w1 G hsrc hold => ?_; obtain ⟨⟨_, _, ⟨h20, -⟩, -⟩, -⟩ := hsrc; exact y_buildSlice1 (e := 85) h20 (fun w => by kernel_rfl) (fun b w' g n => ⟨g, _, ⟨b, rfl, congrArg (fun x => [(b, Obj.cells (Value.cells x) 85)]) h20.symm⟩, n⟩)
  rintro _ _ ⟨rfl, rfl⟩ _ _ ⟨rfl, rfl⟩ _ _ ⟨rfl, rfl⟩ _ _ ⟨rfl, rfl⟩ _ _ ⟨rfl, rfl⟩ _ _ ⟨rfl, rfl⟩ vb Hb hB _ _ ⟨rfl, rfl⟩ _ _ ⟨rfl, rfl⟩ _ _ ⟨rfl, rfl⟩ _ _ ⟨rfl, rfl⟩ _ _ ⟨rfl, rfl⟩ _ _ ⟨rfl, rfl⟩ _ _ ⟨b21, rfl, rfl⟩
  intro ac w A gG nN
  replace S : St _ _ _ ([(b21, .cells #[vb, .bool it.sp] 85 (0, 0))] ++ (Hb ++ ([(b, .cells cs 85 (0, 0)), (bi, .cells #[.int .i64 j] 3 (0, 0))] ++ (itH its)))) := (S.new gG nN).perm (by first | exact .refl _ | (rw [List.append_assoc]; exact .refl _) | (simp only [List.append_assoc, List.nil_append, List.append_nil]; exact .refl _))
  replace S : St _ _ _ ([(b21, .cells #[vb, .bool it.sp] 85 (0, 0)), (b, .cells cs 85 (0, 0)), (bi, .cells #[.int .i64 j] 3 (0, 0))] ++ (Hb ++ (itH its))) := S.swap1 (L := [(b21, .cells #[vb, .bool it.sp] 85 (0, 0))]) (A := Hb) (B := [(b, .cells cs 85 (0, 0)), (bi, .cells #[.int .i64 j] 3 (0, 0))])
  have hsrc : Src w 2 (.slice (some ⟨b21, 0, none⟩) 1 1) 1 [vb, .bool it.sp] := ⟨rfl, Or.inr ⟨_, _, rfl, cells_at (S.get 0 rfl) rfl⟩⟩
  replace S : St _ _ _ ([(b, .cells cs 85 (0, 0))] ++ (([(b21, .cells #[vb, .bool it.sp] 85 (0, 0))] ++ cap1 bi j) ++ (Hb ++ itH its))) := S.perm (by classical rw [List.perm_iff_count]; intro x; simp only [List.count_append, List.count_cons, List.count_nil, cap1]; omega)
  refine Lo A rfl (y_append okDG (by kernel_rfl) (A.g 8 rfl) (A.g 21 rfl) (H := [(b, .cells cs 85 (0, 0))]) S hsl0 hsrc (by intro q hq; simp only [List.mem_cons, List.not_mem_nil, or_false] at hq; rcases hq with rfl | rfl; (obtain ⟨_, _, e⟩ := SlRep.len hB; rw [e]; rfl); rfl) (by omega) (by omega) fun v' w HQ' hr S ac A => ?_)
  refine La A rfl (A.g 22 rfl) fun _ A => La A rfl (evc _ _) fun _ A => ?_
  replace A := A.only [7, 4, 3, 1, 0] rfl
  refine hK4 _ _ ?_
  have S' : St _ _ _ (HQ' ++ ((itH its ++ Hb) ++ cap1 bi j)) := (St.app_right (H := [(b21, .cells #[vb, .bool it.sp] 85 (0, 0))]) (K := HQ' ++ ((itH its ++ Hb) ++ cap1 bi j)) (S.perm (by classical rw [List.perm_iff_count]; intro x; simp only [List.count_append, List.count_cons, List.count_nil, cap1]; omega)))
  refine wp_ret ⟨A.defers, _, res_run (rs := [.tmp 3, .tmp 4]) (vs := [v', .int .i64 0]) rfl ⟨A.get rfl, A.get rfl, trivial⟩, ⟨_, _, rfl, ⟨v', HQ', vb, Hb, rfl, ?_, hB, rfl⟩, S'⟩⟩
  rw [itCells_snoc, List.length_append]; exact hr

section
variable {p : Nat} {m : M} {H : Frag} {w : World} {a b i : Int}

set_option maxRecDepth 20000 in
set_option maxHeartbeats 1000000 in
theorem double_arg (h : NetRep p m H) (hH : Holds w H) (hk : goodK (ends a b)) (hn : m.link (ends a b) = none) : Calls Try.prog 20 #[.pointer (some ⟨p, 0, none⟩), .int .i64 a, .int .i64 b, .int .i64 i] w (RetN w (eqv (.int .i64 1))) := by
  refine enter Try.func20 rfl (n := 15) rfl (Nat.le_of_ble_eq_true rfl) fun _ A => ?_
  have S : St _ _ _ [] := St.none w
  refine wp_seq_k fun K1 hK1 => ?_
  refine region_seq ?_  -- region 0
  refine Lo A rfl (y_boxN (A.g 3 rfl) fun b1 w gG nN ac A => ?_)
  replace S : St _ _ _ [(b1, .cells #[.int .i64 i] 3 (0, 0))] := S.new gG nN
  refine La A rfl (evc _ _) fun _ A => ?_
  replace A := A.only [8, 7, 3, 2, 1, 0] rfl
  refine hK1 _ _ ?_
  refine wp_seq_k fun K2 hK2 => ?_
  refine region_seq ?_  -- region 1
  refine Lm A rfl (A.g 0 rfl) fun _ A => Lm A rfl (A.g 1 rfl) fun _ A => Lm A rfl (A.g 2 rfl) fun _ A => Lo A rfl (y_load (by kernel_rfl) (A.g 7 rfl) ((cell_of (S.get 0 rfl) _).trans rfl) fun _ A => ?_)
  replace A := A.only [12, 11, 10, 9, 8, 7, 3, 2, 1, 0] rfl
  refine Lo A rfl (y_makeFunc1 (A.g 7 rfl) fun _ A => ?_)
  refine Lo A rfl (y_call5 (by kernel_rfl) rfl (A.g 9 rfl) (A.g 10 rfl) (A.g 11 rfl) (A.g 12 rfl) (A.g 13 rfl) (callN (at_arg h (hH.gr S.kp.to_gr) hk hn) fun v w H gG nN hf ac A => ?_))
  obtain ⟨rfl, rfl⟩ := hf
  replace S : St _ _ _ [(b1, .cells #[.int .i64 i] 3 (0, 0))] := S.new gG nN
  refine La A rfl (A.g 14 rfl) fun _ A => ?_
  replace A := A.only [8, 7, 3, 2, 1, 0] rfl
  refine hK2 _ _ ?_
  exact wp_ret ⟨A.defers, _, res_run (rs := [.tmp 8]) (vs := [.int .i64 1]) rfl ⟨A.get rfl, trivial⟩, ⟨_, rfl, S.kp.to_gr, [], ⟨rfl, rfl⟩, NewF.nil _ _⟩⟩

set_option maxRecDepth 20000 in
set_option maxHeartbeats 1000000 in
theorem double_neg (h : NetRep p m H) (hH : Holds w H) (hk : goodK (ends a b)) (hk' : goodK (a, b)) {c : Bool} (hn : m.link (ends a b) = some c) (hi : i < 0) : Calls Try.prog 20 #[.pointer (some ⟨p, 0, none⟩), .int .i64 a, .int .i64 b, .int .i64 i] w (RetN w (eqv (.int .i64 5))) := by
  refine enter Try.func20 rfl (n := 15) rfl (Nat.le_of_ble_eq_true rfl) fun _ A => ?_
  have S : St _ _ _ [] := St.none w
  refine wp_seq_k fun K1 hK1 => ?_
  refine region_seq ?_  -- region 0
  refine Lo A rfl (y_boxN (A.g 3 rfl) fun b1 w gG nN ac A => ?_)
  replace S : St _ _ _ [(b1, .cells #[.int .i64 i] 3 (0, 0))] := S.new gG nN
  refine La A rfl (evc _ _) fun _ A => ?_
  replace A := A.only [8, 7, 3, 2, 1, 0] rfl
  refine hK1 _ _ ?_
  refine wp_seq_k fun K2 hK2 => ?_
  refine region_seq ?_  -- region 1
  refine Lm A rfl (A.g 0 rfl) fun _ A => Lm A rfl (A.g 1 rfl) fun _ A => Lm A rfl (A.g 2 rfl) fun _ A => Lo A rfl (y_load (by kernel_rfl) (A.g 7 rfl) ((cell_of (S.get 0 rfl) _).trans rfl) fun _ A => ?_)
  replace A := A.only [12, 11, 10, 9, 8, 7, 3, 2, 1, 0] rfl
  refine Lo A rfl (y_makeFunc1 (A.g 7 rfl) fun _ A => ?_)
  refine Lo A rfl (y_call5 (by kernel_rfl) rfl (A.g 9 rfl) (A.g 10 rfl) (A.g 11 rfl) (A.g 12 rfl) (A.g 13 rfl) (callN (at_neg h (hH.gr S.kp.to_gr) hk hk' hn hi) fun v w H gG nN hf ac A => ?_))
  obtain ⟨rfl, rfl⟩ := hf
  replace S : St _ _ _ [(b1, .cells #[.int .i64 i] 3 (0, 0))] := S.new gG nN
  refine La A rfl (A.g 14 rfl) fun _ A => ?_
  replace A := A.only [8, 7, 3, 2, 1, 0] rfl
  refine hK2 _ _ ?_
  exact wp_ret ⟨A.defers, _, res_run (rs := [.tmp 8]) (vs := [.int .i64 5]) rfl ⟨A.get rfl, trivial⟩, ⟨_, rfl, S.kp.to_gr, [], ⟨rfl, rfl⟩, NewF.nil _ _⟩⟩

set_option maxRecDepth 20000 in
set_option maxHeartbeats 1000000 in
theorem double_far (h : NetRep p m H) (hH : Holds w H) (hk : goodK (ends a b)) (hk' : goodK (a, b)) {c : Bool} (hn : m.link (ends a b) = some c) (hi : 0 ≤ i) (hi2 : (m.q (a, b)).length ≤ i) : Calls Try.prog 20 #[.pointer (some ⟨p, 0, none⟩), .int .i64 a, .int .i64 b, .int .i64 i] w (RetN w (eqv (.int .i64 5))) := by
  refine enter Try.func20 rfl (n := 15) rfl (Nat.le_of_ble_eq_true rfl) fun _ A => ?_
  have S : St _ _ _ [] := St.none w
  refine wp_seq_k fun K1 hK1 => ?_
  refine region_seq ?_  -- region 0
  refine Lo A rfl (y_boxN (A.g 3 rfl) fun b1 w gG nN ac A => ?_)
  replace S : St _ _ _ [(b1, .cells #[.int .i64 i] 3 (0, 0))] := S.new gG nN
  refine La A rfl (evc _ _) fun _ A => ?_
  replace A := A.only [8, 7, 3, 2, 1, 0] rfl
  refine hK1 _ _ ?_
  refine wp_seq_k fun K2 hK2 => ?_
  refine region_seq ?_  -- region 1
  refine Lm A rfl (A.g 0 rfl) fun _ A => Lm A rfl (A.g 1 rfl) fun _ A => Lm A rfl (A.g 2 rfl) fun _ A => Lo A rfl (y_load (by kernel_rfl) (A.g 7 rfl) ((cell_of (S.get 0 rfl) _).trans rfl) fun _ A => ?_)
  replace A := A.only [12, 11, 10, 9, 8, 7, 3, 2, 1, 0] rfl
  refine Lo A rfl (y_makeFunc1 (A.g 7 rfl) fun _ A => ?_)
  refine Lo A rfl (y_call5 (by kernel_rfl) rfl (A.g 9 rfl) (A.g 10 rfl) (A.g 11 rfl) (A.g 12 rfl) (A.g 13 rfl) (callN (at_far h (hH.gr S.kp.to_gr) hk hk' hn hi hi2) fun v w H gG nN hf ac A => ?_))
  obtain ⟨rfl, rfl⟩ := hf
  replace S : St _ _ _ [(b1, .cells #[.int .i64 i] 3 (0, 0))] := S.new gG nN
  refine La A rfl (A.g 14 rfl) fun _ A => ?_
  replace A := A.only [8, 7, 3, 2, 1, 0] rfl
  refine hK2 _ _ ?_
  exact wp_ret ⟨A.defers, _, res_run (rs := [.tmp 8]) (vs := [.int .i64 5]) rfl ⟨A.get rfl, trivial⟩, ⟨_, rfl, S.kp.to_gr, [], ⟨rfl, rfl⟩, NewF.nil _ _⟩⟩

theorem double_full' {bi j : Nat} (hl : 24 ≤ (m.q (a, b)).length) : Does m (a, b) 43 #[.pointer (some ⟨bi, 0, none⟩)] (cap1 bi j) fun its HQ r Hr => ∃ u, r = .tuple #[u, .int .i64 4] ∧ Hr = HQ ++ (itH its ++ cap1 bi j) := by
  intro w1 qa qc its HQ hsl hits hok nd hH
  have hlen : its.length = (m.q (a, b)).length := by rw [← hits, itQ_length]
  exact retW_of_N (double1_full (by omega)) nd hH ⟨_, rfl, rfl⟩
theorem double_put {bi j : Nat} {bs : List UInt8} {sp : Bool} (hj : (m.q (a, b))[j]? = some (bs, sp)) (hl : (m.q (a, b)).length < 24) : Does m (a, b) 43 #[.pointer (some ⟨bi, 0, none⟩)] (cap1 bi j) fun its HQ r Hr => ∃ v' its' HQ' Hc', r = .tuple #[v', .int .i64 0] ∧ its' ≠ [] ∧ its'.length ≤ 24 ∧ SlRep 85 2 v' its'.length (itCells its') HQ' ∧ ItOk its' ∧ Hr = HQ' ++ (itH its' ++ Hc') ∧ (itQ its' = itQ its ++ [(bs, sp)] ∧ Hc' = cap1 bi j) := by
  intro w1 qa qc its HQ hsl hits hok nd hH
  obtain ⟨it, h1, h2, h3⟩ := it_of hits hj
  have hlen : its.length = (m.q (a, b)).length := by rw [← hits, itQ_length]
  refine (double1_ok hsl hok h1 (by omega) nd hH).mono ?_
  rintro e w' ⟨v, Hr, rfl, ⟨v', HQ', vb, Hb, rfl, hsl', hB, rfl⟩, s⟩
  refine ⟨_, _, rfl, ⟨v', its ++ [(⟨vb, it.bs, it.sp, Hb⟩ : It)], HQ', _, rfl, by simp, by simp; omega, hsl', ?_, by rw [itH_snoc], ?_, rfl⟩, s⟩
  · intro x hx
    rcases List.mem_append.1 hx with hx | hx
    · exact hok x hx
    · simp at hx; subst hx; exact ⟨hB, (hok it (List.mem_of_getElem? h1)).2⟩
  · rw [itQ_snoc, h2, h3]

set_option maxRecDepth 20000 in
set_option maxHeartbeats 4000000 in
theorem double_full {c : Bool} {j : Nat} {bs : List UInt8} {sp : Bool} (h : NetRep p m H) (nd : (keys H).Nodup) (hH : Holds w H) (hk : goodK (ends a b)) (hk' : goodK (a, b)) (hn : m.link (ends a b) = some c) (hj : (m.q (a, b))[j]? = some (bs, sp)) (hl : 24 ≤ (m.q (a, b)).length) :
    Calls Try.prog 20 #[.pointer (some ⟨p, 0, none⟩), .int .i64 a, .int .i64 b, .int .i64 j] w (RetW (keys H) w fun r H' => r = .int .i64 4 ∧ NetRep p m H') := by
  have hjl := lt_of_get hj
  have S0 := St.start nd hH
  refine enter Try.func20 rfl (n := 15) rfl (Nat.le_of_ble_eq_true rfl) fun _ A => ?_
  have S : St _ _ _ H := S0
  refine wp_seq_k fun K1 hK1 => ?_
  refine region_seq ?_  -- region 0
  refine Lo A rfl (y_boxN (A.g 3 rfl) fun b1 w gG nN ac A => ?_)
  replace S : St _ _ _ ([(b1, .cells #[.int .i64 j] 3 (0, 0))] ++ H) := (S.new gG nN).perm (by first | exact .refl _ | (rw [List.append_assoc]; exact .refl _) | (simp only [List.append_assoc, List.nil_append, List.append_nil]; exact .refl _))
  refine La A rfl (evc _ _) fun _ A => ?_
  replace A := A.only [8, 7, 3, 2, 1, 0] rfl
  refine hK1 _ _ ?_
  refine wp_seq_k fun K2 hK2 => ?_
  refine region_seq ?_  -- region 1
  refine Lm A rfl (A.g 0 rfl) fun _ A => Lm A rfl (A.g 1 rfl) fun _ A => Lm A rfl (A.g 2 rfl) fun _ A => Lo A rfl (y_load (by kernel_rfl) (A.g 7 rfl) ((cell_of (S.get 0 rfl) _).trans rfl) fun _ A => ?_)
  replace A := A.only [12, 11, 10, 9, 8, 7, 3, 2, 1, 0] rfl
  refine Lo A rfl (y_makeFunc1 (A.g 7 rfl) fun _ A => ?_)
  replace S : St _ _ _ ((H ++ cap1 b1 j) ++ []) := S.perm (by classical rw [List.perm_iff_count]; intro x; simp only [List.count_append, List.count_cons, List.count_nil, cap1]; omega)
  refine Lo A rfl (y_call5 (by kernel_rfl) rfl (A.g 9 rfl) (A.g 10 rfl) (A.g 11 rfl) (A.g 12 rfl) (A.g 13 rfl) (callW (at_fail (e := 4) h S.app_left.nd S.app_left.holds hk hk' hn (by omega) (by omega) (by kernel_rfl) (by decide) (double_full' hl)) fun v w Hr s hf ac A => ?_))
  replace S := St.call (R := []) S rfl s
  obtain ⟨rfl, Hn, rfl, hN⟩ := hf
  refine La A rfl (A.g 14 rfl) fun _ A => ?_
  replace A := A.only [8, 7, 3, 2, 1, 0] rfl
  refine hK2 _ _ ?_
  have S' : St _ _ _ Hn := St.app_left (K := cap1 b1 j) (S.perm (by classical rw [List.perm_iff_count]; intro x; simp only [List.count_append, List.count_cons, List.count_nil, cap1]; omega))
  exact wp_ret ⟨A.defers, _, res_run (rs := [.tmp 8]) (vs := [.int .i64 4]) rfl ⟨A.get rfl, trivial⟩, ⟨_, _, rfl, ⟨rfl, hN⟩, S'⟩⟩

set_option maxRecDepth 20000 in
set_option maxHeartbeats 4000000 in
theorem double_yes {c : Bool} {j : Nat} {bs : List UInt8} {sp : Bool} (h : NetRep p m H) (nd : (keys H).Nodup) (hH : Holds w H) (hk : goodK (ends a b)) (hk' : goodK (a, b)) (hn : m.link (ends a b) = some c) (hj : (m.q (a, b))[j]? = some (bs, sp)) (hl : (m.q (a, b)).length < 24) :
    Calls Try.prog 20 #[.pointer (some ⟨p, 0, none⟩), .int .i64 a, .int .i64 b, .int .i64 j] w (RetW (keys H) w fun r H' => r = .int .i64 0 ∧ NetRep p (m.setq (a, b) (m.q (a, b) ++ [(bs, sp)])) H') := by
  have hjl := lt_of_get hj
  have S0 := St.start nd hH
  refine enter Try.func20 rfl (n := 15) rfl (Nat.le_of_ble_eq_true rfl) fun _ A => ?_
  have S : St _ _ _ H := S0
  refine wp_seq_k fun K1 hK1 => ?_
  refine region_seq ?_  -- region 0
  refine Lo A rfl (y_boxN (A.g 3 rfl) fun b1 w gG nN ac A => ?_)
  replace S : St _ _ _ ([(b1, .cells #[.int .i64 j] 3 (0, 0))] ++ H) := (S.new gG nN).perm (by first | exact .refl _ | (rw [List.append_assoc]; exact .refl _) | (simp only [List.append_assoc, List.nil_append, List.append_nil]; exact .refl _))
  refine La A rfl (evc _ _) fun _ A => ?_
  replace A := A.only [8, 7, 3, 2, 1, 0] rfl
  refine hK1 _ _ ?_
  refine wp_seq_k fun K2 hK2 => ?_
  refine region_seq ?_  -- region 1
  refine Lm A rfl (A.g 0 rfl) fun _ A => Lm A rfl (A.g 1 rfl) fun _ A => Lm A rfl (A.g 2 rfl) fun _ A => Lo A rfl (y_load (by kernel_rfl) (A.g 7 rfl) ((cell_of (S.get 0 rfl) _).trans rfl) fun _ A => ?_)
  replace A := A.only [12, 11, 10, 9, 8, 7, 3, 2, 1, 0] rfl
  refine Lo A rfl (y_makeFunc1 (A.g 7 rfl) fun _ A => ?_)
  replace S : St _ _ _ ((H ++ cap1 b1 j) ++ []) := S.perm (by classical rw [List.perm_iff_count]; intro x; simp only [List.count_append, List.count_cons, List.count_nil, cap1]; omega)
  refine Lo A rfl (y_call5 (by kernel_rfl) rfl (A.g 9 rfl) (A.g 10 rfl) (A.g 11 rfl) (A.g 12 rfl) (A.g 13 rfl) (callW (at_put (X := fun its its' Hc' => itQ its' = itQ its ++ [(bs, sp)] ∧ Hc' = cap1 b1 j) h S.app_left.nd S.app_left.holds hk hk' hn (by omega) (by omega) (by kernel_rfl) (double_put hj hl)) fun v w Hr s hf ac A => ?_))
  replace S := St.call (R := []) S rfl s
  obtain ⟨rfl, Hn, its, its', _, rfl, hq, hN, hqq, rfl⟩ := hf
  refine La A rfl (A.g 14 rfl) fun _ A => ?_
  replace A := A.only [8, 7, 3, 2, 1, 0] rfl
  refine hK2 _ _ ?_
  have S' : St _ _ _ Hn := St.app_left (K := cap1 b1 j) (S.perm (by classical rw [List.perm_iff_count]; intro x; simp only [List.count_append, List.count_cons, List.count_nil, cap1]; omega))
  exact wp_ret ⟨A.defers, _, res_run (rs := [.tmp 8]) (vs := [.int .i64 0]) rfl ⟨A.get rfl, trivial⟩, ⟨_, _, rfl, ⟨rfl, by rw [← hq, ← hqq]; exact hN⟩, S'⟩⟩
end
end Go.Proofs.Ytaeidblipdjgnaa
