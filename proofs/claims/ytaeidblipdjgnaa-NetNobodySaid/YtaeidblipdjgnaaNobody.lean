import Derived.Test.YtaeidblipdjgnaaPeek
import Derived.Test.YtaeidblipdjgnaaRange
namespace Go.Proofs.Ytaeidblipdjgnaa
open Go.RowKit Go.Maps Go.WideMaps

theorem run_lookNil {P : Program} {w : World} {κ : Type} {enc : κ → Value} {K t e : TypeId} (L : Keyed P K) (ht : P.underlying t = some (.map K e)) {z : Value} (hz : (zeroValue e).run P w = .ok z w) (k : κ) (hk : ∃ l, keyOf P K (enc k) = some l) (ok : Bool) : (Instr.lookup t (.map none) (enc k) ok).run P w = .ok (if ok then .tuple #[z, .bool false] else z) w := by
  have hc : ∀ em, (Instr.checkKey em 10000 K (enc k)).run P w = .ok () w := fun em => by obtain ⟨l, hl⟩ := hk; exact L.check w em hl
  have hf : (Instr.findKey K (enc k) []).run P w = .ok none w := by
    obtain ⟨l, hl⟩ := hk
    cases L.find w hl [] (by simp) with
    | inl h => exact h.1
    | inr h => obtain ⟨j, en, _, h2, _⟩ := h; simp at h2
  unfold Instr.lookup
  simp only [Sem.run_bind, run_underlying ht, Result.andThen_ok, Sem.run_pure, hc, hf, hz]
def zeroNet : Obj := .cells #[.int .i64 0, .slice none 0 0, .map none, .map none] 69 (0, 0)
/-- no net, or one that New did not make -/
def NoNet (w : World) (r : Value) : Prop := r = .pointer none ∨ ∃ b, r = .pointer (some ⟨b, 0, none⟩) ∧ w.heap[b]? = some zeroNet
theorem NoNet.gr {w w' : World} {r : Value} (h : NoNet w r) (g : Gr w w') : NoNet w' r := by
  rcases h with h | ⟨b, h, hb⟩
  · exact Or.inl h
  · exact Or.inr ⟨b, h, g.heap' hb⟩
section
variable {r : Value} {w : World} {a b i bit : Int}
set_option maxRecDepth 20000 in
theorem link_no (h : NoNet w r) (ha : i64 a) (hb : i64 b) : Calls Try.prog 38 #[r, .int .i64 a, .int .i64 b] w (RetN w (eqv (.tuple #[.agg #[.bool false], .bool false]))) := by
  rcases h with rfl | ⟨p, rfl, hp⟩
  · skip
    refine enter Try.func38 rfl (n := 26) rfl (Nat.le_of_ble_eq_true rfl) fun ac A => ?_
    have S : St _ _ _ [] := St.none w
    refine wp_seq_k fun K1 hK1 => ?_
    refine region_seq ?_  -- region 0
    refine L_op A rfl (by decide) rfl (y_allocN (z := .agg #[.bool false]) (by kernel_rfl) fun b1 w gG nN ac A => ?_)
    replace S : St _ _ _ [(b1, .cells #[.bool false] 79 (0, 0))] := S.new gG nN
    refine L_op A rfl (by decide) rfl (y_assign rfl fun ac A => ?_)
    replace A := A.keep [(0, .pointer none), (1, .int .i64 a), (2, .int .i64 b), (6, .pointer (some ⟨b1, 0, none⟩)), (7, .bool false)] ⟨rfl, rfl, rfl, rfl, rfl, trivial⟩
    refine hK1 _ _ ?_
    refine wp_seq_k fun K2 hK2 => ?_
    refine wp_seq_k fun K3 hK3 => ?_
    refine region_seq ?_  -- region 1
    refine L_op A rfl (by decide) rfl (y_move (A.get (s := 0) rfl) fun ac A => ?_)
    refine L_op A rfl (by decide) rfl (y_ptrNil (c := true) (by kernel_rfl) (A.get (s := 10) rfl) rfl rfl fun ac A => ?_)
    replace A := A.keep [(0, .pointer none), (1, .int .i64 a), (2, .int .i64 b), (6, .pointer (some ⟨b1, 0, none⟩)), (7, .bool false), (11, .bool true)] ⟨rfl, rfl, rfl, rfl, rfl, rfl, trivial⟩
    refine hK3 _ _ ?_
    refine wp_cond_true (A.get rfl) ?_
    refine wp_seq_k fun K4 hK4 => ?_
    refine region_seq ?_  -- region 2
    refine L_op A rfl (by decide) rfl (y_build0  (v := .agg #[.bool false]) (by kernel_rfl) fun ac A => ?_)
    refine L_opN A rfl rfl (y_store 1 (by kernel_rfl) (A.get (s := 6) rfl) (A.get (s := 12) rfl) (S.get 0 rfl) rfl (Nat.le_of_ble_eq_true rfl) (one_all rfl) ?_)
    replace S : St _ _ _ [(b1, .cells #[.bool false] 79 (0, 0))] := S.setAt 0 rfl _
    refine L_op A rfl (by decide) rfl (y_assign rfl fun ac A => ?_)
    replace A := A.keep [(0, .pointer none), (1, .int .i64 a), (2, .int .i64 b), (6, .pointer (some ⟨b1, 0, none⟩)), (7, .bool false), (11, .bool true)] ⟨rfl, rfl, rfl, rfl, rfl, rfl, trivial⟩
    refine hK4 _ _ ?_
    exact wp_ret ⟨A.defers, _, res_run (rs := [.cell 6 79, .tmp 7]) (vs := [.agg #[.bool false], .bool false]) rfl ⟨⟨_, A.get rfl, ld_agg (vs := [.bool false]) (by kernel_rfl) (S.get 0 rfl) (by intro j hj; revert j; exact ld_all rfl)⟩, A.get rfl, trivial⟩, ⟨_, rfl, S.kp.to_gr, [], ⟨rfl, rfl⟩, NewF.nil _ _⟩⟩
  · have hp : w.heap[p]? = some (.cells #[.int .i64 0, .slice none 0 0, .map none, .map none] 69 (0, 0)) := hp
    have hk := good_ends ha hb
    refine enter Try.func38 rfl (n := 26) rfl (Nat.le_of_ble_eq_true rfl) fun ac A => ?_
    have S : St _ _ _ [] := St.none w
    refine wp_seq_k fun K1 hK1 => ?_
    refine region_seq ?_  -- region 0
    refine L_op A rfl (by decide) rfl (y_allocN (z := .agg #[.bool false]) (by kernel_rfl) fun b1 w gG nN ac A => ?_)
    replace S : St _ _ _ [(b1, .cells #[.bool false] 79 (0, 0))] := S.new gG nN
    refine L_op A rfl (by decide) rfl (y_assign rfl fun ac A => ?_)
    replace A := A.keep [(0, .pointer (some ⟨p, 0, none⟩)), (1, .int .i64 a), (2, .int .i64 b), (6, .pointer (some ⟨b1, 0, none⟩)), (7, .bool false)] ⟨rfl, rfl, rfl, rfl, rfl, trivial⟩
    refine hK1 _ _ ?_
    refine wp_seq_k fun K2 hK2 => ?_
    refine wp_seq_k fun K3 hK3 => ?_
    refine region_seq ?_  -- region 1
    refine L_op A rfl (by decide) rfl (y_move (A.get (s := 0) rfl) fun ac A => ?_)
    refine L_op A rfl (by decide) rfl (y_ptrNil (c := false) (by kernel_rfl) (A.get (s := 10) rfl) rfl rfl fun ac A => ?_)
    replace A := A.keep [(0, .pointer (some ⟨p, 0, none⟩)), (1, .int .i64 a), (2, .int .i64 b), (6, .pointer (some ⟨b1, 0, none⟩)), (7, .bool false), (11, .bool false)] ⟨rfl, rfl, rfl, rfl, rfl, rfl, trivial⟩
    refine hK3 _ _ ?_
    refine wp_cond_false (A.get rfl) ?_
    refine wp_skip ?_
    refine hK2 _ _ ?_
    refine wp_seq_k fun K4 hK4 => ?_
    refine region_draw A [⟨14, pl (eqv (.pointer (some ⟨p, 0, none⟩))), [], [0], none, false⟩, ⟨15, pl (eqv (.pointer (some ⟨p, 0, none⟩))), [0], [], none, false⟩, ⟨16, pl (eqv (.pointer (some ⟨p, 2, none⟩))), [1], [], none, false⟩, ⟨17, pl (eqv (.map none)), [2], [], none, false⟩, ⟨18, pl (eqv (.int .i64 a)), [], [1], none, false⟩, ⟨19, pl (eqv (.int .i64 b)), [], [2], none, false⟩, ⟨20, pl (eqv (kv (ends a b))), [4, 5], [], none, false⟩, ⟨21, pl (eqv (.tuple #[.agg #[.bool false], .bool false])), [3, 6], [], none, false⟩, ⟨13, pl (eqv (.tuple #[.agg #[.bool false], .bool false])), [7], [], none, false⟩, ⟨22, pl (eqv (.agg #[.bool false])), [8], [], none, false⟩, ⟨23, pl (eqv (.bool false)), [8], [], none, true⟩, ⟨8, pl (blk (.cells #[.bool false] 79)), [], [], none, false⟩] [(12, false), (13, false)] (by kernel_rfl) (by kernel_rfl) (fun d _ _ _ _ h => by cases d <;> exact h) ⟨?_, ?_, ?_, ?_, ?_, ?_, ?_, ?_, ?_, ?_, ?_, ?_, trivial⟩ ?_  -- region 3
    · refine due_plain fun ρ w1 G hsrc hold => ?_; obtain ⟨o0, -⟩ := hold; exact y_move (o0.trans (A.get (s := 0) rfl)) y_eq
    · refine due_plain fun ρ w1 G hsrc hold => ?_; obtain ⟨⟨_, _, ⟨h14, -⟩, -⟩, -⟩ := hsrc; exact y_nilCheck h14 y_eq
    · refine due_plain fun ρ w1 G hsrc hold => ?_; obtain ⟨⟨_, _, ⟨h15, -⟩, -⟩, -⟩ := hsrc; exact y_fieldAddr (off := 2) (j := 2) (by kernel_rfl) h15 (by first | rfl | omega) y_eq
    · refine due_plain fun ρ w1 G hsrc hold => ?_; obtain ⟨⟨_, _, ⟨h16, -⟩, -⟩, -⟩ := hsrc; exact y_load (by kernel_rfl) h16 ((cell_of (G.gr.heap' (S.kp.heap' hp (by simp))) _).trans rfl) y_eq
    · refine due_plain fun ρ w1 G hsrc hold => ?_; obtain ⟨o1, -⟩ := hold; exact y_move (o1.trans (A.get (s := 1) rfl)) y_eq
    · refine due_plain fun ρ w1 G hsrc hold => ?_; obtain ⟨o2, -⟩ := hold; exact y_move (o2.trans (A.get (s := 2) rfl)) y_eq
    · refine due_plain fun ρ w1 G hsrc hold => ?_; obtain ⟨⟨_, _, ⟨h18, -⟩, -⟩, ⟨_, _, ⟨h19, -⟩, -⟩, -⟩ := hsrc; exact y_call2 (by kernel_rfl) (G.func _) h18 h19 (ends_ok a b w1)
    · refine due_plain fun ρ w1 G hsrc hold => ?_; obtain ⟨⟨_, _, ⟨h17, -⟩, -⟩, ⟨_, _, ⟨h20, -⟩, -⟩, -⟩ := hsrc; exact y_lookup h17 h20 (run_lookNil (z := .agg #[.bool false]) Try.lawK Try.underlying66 (by kernel_rfl) (ends a b) hk true) y_eq
    · refine due_plain fun ρ w1 G hsrc hold => ?_; obtain ⟨⟨_, _, ⟨h21, -⟩, -⟩, -⟩ := hsrc; exact y_move h21 y_eq
    · refine due_plain fun ρ w1 G hsrc hold => ?_; obtain ⟨⟨_, _, ⟨h13, -⟩, -⟩, -⟩ := hsrc; exact y_extract h13 rfl y_eq
    · refine due_pure fun ρ w1 G hsrc hold => ?_; obtain ⟨⟨_, _, ⟨h13, -⟩, -⟩, -⟩ := hsrc; exact ⟨_, (fun w1 => r_extract h13 rfl), rfl, rfl⟩
    · refine due_plain fun ρ w1 G hsrc hold => ?_; exact y_alloc (z := .agg #[.bool false]) (by kernel_rfl) y_blk
    rintro _ _ ⟨rfl, rfl⟩ _ _ ⟨rfl, rfl⟩ _ _ ⟨rfl, rfl⟩ _ _ ⟨rfl, rfl⟩ _ _ ⟨rfl, rfl⟩ _ _ ⟨rfl, rfl⟩ _ _ ⟨rfl, rfl⟩ _ _ ⟨rfl, rfl⟩ _ _ ⟨rfl, rfl⟩ _ _ ⟨rfl, rfl⟩ _ _ ⟨rfl, rfl⟩ _ _ ⟨b2, rfl, rfl⟩
    intro ac w A gG nN
    replace S : St _ _ _ [(b2, .cells #[.bool false] 79 (0, 0)), (b1, .cells #[.bool false] 79 (0, 0))] := S.new gG nN
    refine L_opN A rfl rfl (y_store 1 (by kernel_rfl) (A.get (s := 8) rfl) (A.get (s := 22) rfl) (S.get 0 rfl) rfl (Nat.le_of_ble_eq_true rfl) (one_all rfl) ?_)
    replace S : St _ _ _ [(b2, .cells #[.bool false] 79 (0, 0)), (b1, .cells #[.bool false] 79 (0, 0))] := S.setAt 0 rfl _
    refine L_op A rfl (by decide) rfl (y_assign (A.get (s := 23) rfl) fun ac A => ?_)
    replace A := A.keep [(0, .pointer (some ⟨p, 0, none⟩)), (1, .int .i64 a), (2, .int .i64 b), (6, .pointer (some ⟨b1, 0, none⟩)), (7, .bool false), (8, .pointer (some ⟨b2, 0, none⟩)), (9, .bool false), (11, .bool false)] ⟨rfl, rfl, rfl, rfl, rfl, rfl, rfl, rfl, trivial⟩
    refine hK4 _ _ ?_
    refine wp_seq_k fun K5 hK5 => ?_
    refine region_seq ?_  -- region 4
    refine L_op A rfl (by decide) rfl (y_loadAgg [.bool false] (by kernel_rfl) (A.get (s := 8) rfl) (cells_at (S.get 0 rfl) rfl) fun ac A => ?_)
    refine L_op A rfl (by decide) rfl (y_move (A.get (s := 9) rfl) fun ac A => ?_)
    refine L_opN A rfl rfl (y_store 1 (by kernel_rfl) (A.get (s := 6) rfl) (A.get (s := 24) rfl) (S.get 1 rfl) rfl (Nat.le_of_ble_eq_true rfl) (one_all rfl) ?_)
    replace S : St _ _ _ [(b2, .cells #[.bool false] 79 (0, 0)), (b1, .cells #[.bool false] 79 (0, 0))] := S.setAt 1 rfl _
    refine L_op A rfl (by decide) rfl (y_assign (A.get (s := 25) rfl) fun ac A => ?_)
    replace A := A.keep [(0, .pointer (some ⟨p, 0, none⟩)), (1, .int .i64 a), (2, .int .i64 b), (6, .pointer (some ⟨b1, 0, none⟩)), (7, .bool false), (8, .pointer (some ⟨b2, 0, none⟩)), (9, .bool false), (11, .bool false)] ⟨rfl, rfl, rfl, rfl, rfl, rfl, rfl, rfl, trivial⟩
    refine hK5 _ _ ?_
    exact wp_ret ⟨A.defers, _, res_run (rs := [.cell 6 79, .tmp 7]) (vs := [.agg #[.bool false], .bool false]) rfl ⟨⟨_, A.get rfl, ld_agg (vs := [.bool false]) (by kernel_rfl) (S.get 1 rfl) (by intro j hj; revert j; exact ld_all rfl)⟩, A.get rfl, trivial⟩, ⟨_, rfl, S.kp.to_gr, [], ⟨rfl, rfl⟩, NewF.nil _ _⟩⟩

set_option maxRecDepth 20000 in
theorem send_no (h : NoNet w r) (ha : i64 a) (hb : i64 b) {va : Option Addr} {n vc : Nat} : Calls Try.prog 11 #[r, .int .i64 a, .int .i64 b, .slice va n vc] w (RetN w (eqv (.int .i64 1))) := by
  refine enter Try.func11 rfl (n := 54) rfl (Nat.le_of_ble_eq_true rfl) fun ac A => ?_
  have S : St _ _ _ [] := St.none w
  refine wp_seq_k fun K1 hK1 => ?_
  refine region_seq ?_  -- region 0
  refine L_op A rfl (by decide) rfl (y_assign rfl fun ac A => ?_)
  replace A := A.keep [(0, r), (1, .int .i64 a), (2, .int .i64 b), (3, .slice va n vc), (8, .int .i64 0)] ⟨rfl, rfl, rfl, rfl, rfl, trivial⟩
  refine hK1 _ _ ?_
  refine wp_seq_k fun K2 hK2 => ?_
  refine region_seq ?_  -- region 1
  refine L_op A rfl (by decide) rfl (y_move (A.get (s := 0) rfl) fun ac A => ?_)
  refine L_op A rfl (by decide) rfl (y_move (A.get (s := 1) rfl) fun ac A => ?_)
  refine L_op A rfl (by decide) rfl (y_move (A.get (s := 2) rfl) fun ac A => ?_)
  refine L_op A rfl (by decide) rfl (y_call3 (by kernel_rfl) rfl (A.get (s := 13) rfl) (A.get (s := 14) rfl) (A.get (s := 15) rfl) (callN (link_no (h.gr S.kp.to_gr) ha hb) fun v w H gG nN hf ac A => ?_))
  obtain ⟨rfl, rfl⟩ := hf
  replace S : St _ _ _ [] := S.new gG nN
  replace A := A.keep [(0, r), (1, .int .i64 a), (2, .int .i64 b), (3, .slice va n vc), (8, .int .i64 0), (16, .tuple #[.agg #[.bool false], .bool false])] ⟨rfl, rfl, rfl, rfl, rfl, rfl, trivial⟩
  refine L_op A rfl (by decide) rfl (y_move (A.get (s := 16) rfl) fun ac A => ?_)
  refine L_op A rfl (by decide) rfl (y_extract (A.get (s := 12) rfl) rfl fun ac A => ?_)
  refine L_op A rfl (by decide) rfl (y_extract (A.get (s := 12) rfl) rfl fun ac A => ?_)
  refine L_op A rfl (by decide) rfl (y_allocN (z := .agg #[.bool false]) (by kernel_rfl) fun b1 w gG nN ac A => ?_)
  replace S : St _ _ _ [(b1, .cells #[.bool false] 79 (0, 0))] := S.new gG nN
  replace A := A.keep [(0, r), (1, .int .i64 a), (2, .int .i64 b), (3, .slice va n vc), (8, .int .i64 0), (9, .pointer (some ⟨b1, 0, none⟩)), (17, .agg #[.bool false]), (18, .bool false)] ⟨rfl, rfl, rfl, rfl, rfl, rfl, rfl, rfl, trivial⟩
  refine L_opN A rfl rfl (y_store 1 (by kernel_rfl) (A.get (s := 9) rfl) (A.get (s := 17) rfl) (S.get 0 rfl) rfl (Nat.le_of_ble_eq_true rfl) (one_all rfl) ?_)
  replace S : St _ _ _ [(b1, .cells #[.bool false] 79 (0, 0))] := S.setAt 0 rfl _
  refine L_op A rfl (by decide) rfl (y_assign (A.get (s := 18) rfl) fun ac A => ?_)
  replace A := A.keep [(0, r), (1, .int .i64 a), (2, .int .i64 b), (3, .slice va n vc), (8, .int .i64 0), (9, .pointer (some ⟨b1, 0, none⟩)), (10, .bool false)] ⟨rfl, rfl, rfl, rfl, rfl, rfl, rfl, trivial⟩
  refine hK2 _ _ ?_
  refine wp_seq_k fun K3 hK3 => ?_
  refine region_seq ?_  -- region 2
  refine L_op A rfl (by decide) rfl (y_move (A.get (s := 1) rfl) fun ac A => ?_)
  refine L_op A rfl (by decide) rfl (y_move (A.get (s := 2) rfl) fun ac A => ?_)
  refine L_op A rfl (by decide) rfl (y_build2 (A.get (s := 19) rfl) (A.get (s := 20) rfl) (v := .agg #[.int .i64 a, .int .i64 b]) (by kernel_rfl) fun ac A => ?_)
  refine L_op A rfl (by decide) rfl (y_allocN (z := .agg #[.int .i64 0, .int .i64 0]) (by kernel_rfl) fun b2 w gG nN ac A => ?_)
  replace S : St _ _ _ [(b2, .cells #[.int .i64 0, .int .i64 0] 28 (0, 0)), (b1, .cells #[.bool false] 79 (0, 0))] := S.new gG nN
  refine L_opN A rfl rfl (y_store 2 (by kernel_rfl) (A.get (s := 11) rfl) (A.get (s := 21) rfl) (S.get 0 rfl) rfl (Nat.le_of_ble_eq_true rfl) (one_all rfl) ?_)
  replace S : St _ _ _ [(b2, .cells #[.int .i64 a, .int .i64 b] 28 (0, 0)), (b1, .cells #[.bool false] 79 (0, 0))] := S.setAt 0 rfl _
  replace A := A.keep [(0, r), (1, .int .i64 a), (2, .int .i64 b), (3, .slice va n vc), (8, .int .i64 0), (9, .pointer (some ⟨b1, 0, none⟩)), (10, .bool false), (11, .pointer (some ⟨b2, 0, none⟩))] ⟨rfl, rfl, rfl, rfl, rfl, rfl, rfl, rfl, trivial⟩
  refine hK3 _ _ ?_
  refine wp_seq_k fun K4 hK4 => ?_
  refine wp_block ?_
  refine wp_seq_k fun K5 hK5 => ?_
  refine region_seq ?_  -- region 3
  refine L_op A rfl (by decide) rfl (y_move (A.get (s := 10) rfl) fun ac A => ?_)
  refine L_op A rfl (by decide) rfl (y_not (A.get (s := 23) rfl) rfl fun ac A => ?_)
  refine L_op A rfl (by decide) rfl (y_assign (A.get (s := 24) rfl) fun ac A => ?_)
  replace A := A.keep [(0, r), (1, .int .i64 a), (2, .int .i64 b), (3, .slice va n vc), (8, .int .i64 0), (9, .pointer (some ⟨b1, 0, none⟩)), (10, .bool false), (11, .pointer (some ⟨b2, 0, none⟩)), (22, .bool true)] ⟨rfl, rfl, rfl, rfl, rfl, rfl, rfl, rfl, rfl, trivial⟩
  refine hK5 _ _ ?_
  refine wp_cond_true (A.get rfl) ?_
  refine wp_seq_k fun K6 hK6 => ?_
  refine region_seq ?_  -- region 4
  refine L_op A rfl (by decide) rfl (y_assign rfl fun ac A => ?_)
  replace A := A.keep [(0, r), (1, .int .i64 a), (2, .int .i64 b), (3, .slice va n vc), (8, .int .i64 1), (9, .pointer (some ⟨b1, 0, none⟩)), (10, .bool false), (11, .pointer (some ⟨b2, 0, none⟩)), (22, .bool true)] ⟨rfl, rfl, rfl, rfl, rfl, rfl, rfl, rfl, rfl, trivial⟩
  refine hK6 _ _ ?_
  exact wp_ret ⟨A.defers, _, res_run (rs := [.tmp 8]) (vs := [.int .i64 1]) rfl ⟨A.get rfl, trivial⟩, ⟨_, rfl, S.kp.to_gr, [], ⟨rfl, rfl⟩, NewF.nil _ _⟩⟩

set_option maxRecDepth 20000 in
theorem cut_no (h : NoNet w r) (ha : i64 a) (hb : i64 b)  : Calls Try.prog 24 #[r, .int .i64 a, .int .i64 b] w (RetN w (eqv (.int .i64 1))) := by
  refine enter Try.func24 rfl (n := 44) rfl (Nat.le_of_ble_eq_true rfl) fun ac A => ?_
  have S : St _ _ _ [] := St.none w
  refine wp_seq_k fun K1 hK1 => ?_
  refine region_seq ?_  -- region 0
  refine L_op A rfl (by decide) rfl (y_assign rfl fun ac A => ?_)
  replace A := A.keep [(0, r), (1, .int .i64 a), (2, .int .i64 b), (6, .int .i64 0)] ⟨rfl, rfl, rfl, rfl, trivial⟩
  refine hK1 _ _ ?_
  refine wp_seq_k fun K2 hK2 => ?_
  refine region_seq ?_  -- region 1
  refine L_op A rfl (by decide) rfl (y_move (A.get (s := 0) rfl) fun ac A => ?_)
  refine L_op A rfl (by decide) rfl (y_move (A.get (s := 1) rfl) fun ac A => ?_)
  refine L_op A rfl (by decide) rfl (y_move (A.get (s := 2) rfl) fun ac A => ?_)
  refine L_op A rfl (by decide) rfl (y_call3 (by kernel_rfl) rfl (A.get (s := 10) rfl) (A.get (s := 11) rfl) (A.get (s := 12) rfl) (callN (link_no (h.gr S.kp.to_gr) ha hb) fun v w H gG nN hf ac A => ?_))
  obtain ⟨rfl, rfl⟩ := hf
  replace S : St _ _ _ [] := S.new gG nN
  replace A := A.keep [(0, r), (1, .int .i64 a), (2, .int .i64 b), (6, .int .i64 0), (13, .tuple #[.agg #[.bool false], .bool false])] ⟨rfl, rfl, rfl, rfl, rfl, trivial⟩
  refine L_op A rfl (by decide) rfl (y_move (A.get (s := 13) rfl) fun ac A => ?_)
  refine L_op A rfl (by decide) rfl (y_extract (A.get (s := 9) rfl) rfl fun ac A => ?_)
  refine L_op A rfl (by decide) rfl (y_extract (A.get (s := 9) rfl) rfl fun ac A => ?_)
  refine L_op A rfl (by decide) rfl (y_allocN (z := .agg #[.bool false]) (by kernel_rfl) fun b1 w gG nN ac A => ?_)
  replace S : St _ _ _ [(b1, .cells #[.bool false] 79 (0, 0))] := S.new gG nN
  replace A := A.keep [(0, r), (1, .int .i64 a), (2, .int .i64 b), (6, .int .i64 0), (7, .pointer (some ⟨b1, 0, none⟩)), (14, .agg #[.bool false]), (15, .bool false)] ⟨rfl, rfl, rfl, rfl, rfl, rfl, rfl, trivial⟩
  refine L_opN A rfl rfl (y_store 1 (by kernel_rfl) (A.get (s := 7) rfl) (A.get (s := 14) rfl) (S.get 0 rfl) rfl (Nat.le_of_ble_eq_true rfl) (one_all rfl) ?_)
  replace S : St _ _ _ [(b1, .cells #[.bool false] 79 (0, 0))] := S.setAt 0 rfl _
  refine L_op A rfl (by decide) rfl (y_assign (A.get (s := 15) rfl) fun ac A => ?_)
  replace A := A.keep [(0, r), (1, .int .i64 a), (2, .int .i64 b), (6, .int .i64 0), (7, .pointer (some ⟨b1, 0, none⟩)), (8, .bool false)] ⟨rfl, rfl, rfl, rfl, rfl, rfl, trivial⟩
  refine hK2 _ _ ?_
  refine wp_seq_k fun K3 hK3 => ?_
  refine wp_block ?_
  refine wp_seq_k fun K4 hK4 => ?_
  refine region_seq ?_  -- region 2
  refine L_op A rfl (by decide) rfl (y_move (A.get (s := 8) rfl) fun ac A => ?_)
  refine L_op A rfl (by decide) rfl (y_not (A.get (s := 17) rfl) rfl fun ac A => ?_)
  refine L_op A rfl (by decide) rfl (y_assign (A.get (s := 18) rfl) fun ac A => ?_)
  replace A := A.keep [(0, r), (1, .int .i64 a), (2, .int .i64 b), (6, .int .i64 0), (7, .pointer (some ⟨b1, 0, none⟩)), (8, .bool false), (16, .bool true)] ⟨rfl, rfl, rfl, rfl, rfl, rfl, rfl, trivial⟩
  refine hK4 _ _ ?_
  refine wp_cond_true (A.get rfl) ?_
  refine wp_seq_k fun K5 hK5 => ?_
  refine region_seq ?_  -- region 3
  refine L_op A rfl (by decide) rfl (y_assign rfl fun ac A => ?_)
  replace A := A.keep [(0, r), (1, .int .i64 a), (2, .int .i64 b), (6, .int .i64 1), (7, .pointer (some ⟨b1, 0, none⟩)), (8, .bool false), (16, .bool true)] ⟨rfl, rfl, rfl, rfl, rfl, rfl, rfl, trivial⟩
  refine hK5 _ _ ?_
  exact wp_ret ⟨A.defers, _, res_run (rs := [.tmp 6]) (vs := [.int .i64 1]) rfl ⟨A.get rfl, trivial⟩, ⟨_, rfl, S.kp.to_gr, [], ⟨rfl, rfl⟩, NewF.nil _ _⟩⟩

set_option maxRecDepth 20000 in
theorem heal_no (h : NoNet w r) (ha : i64 a) (hb : i64 b)  : Calls Try.prog 26 #[r, .int .i64 a, .int .i64 b] w (RetN w (eqv (.int .i64 1))) := by
  refine enter Try.func26 rfl (n := 31) rfl (Nat.le_of_ble_eq_true rfl) fun ac A => ?_
  have S : St _ _ _ [] := St.none w
  refine wp_seq_k fun K1 hK1 => ?_
  refine region_seq ?_  -- region 0
  refine L_op A rfl (by decide) rfl (y_assign rfl fun ac A => ?_)
  replace A := A.keep [(0, r), (1, .int .i64 a), (2, .int .i64 b), (6, .int .i64 0)] ⟨rfl, rfl, rfl, rfl, trivial⟩
  refine hK1 _ _ ?_
  refine wp_seq_k fun K2 hK2 => ?_
  refine region_seq ?_  -- region 1
  refine L_op A rfl (by decide) rfl (y_move (A.get (s := 0) rfl) fun ac A => ?_)
  refine L_op A rfl (by decide) rfl (y_move (A.get (s := 1) rfl) fun ac A => ?_)
  refine L_op A rfl (by decide) rfl (y_move (A.get (s := 2) rfl) fun ac A => ?_)
  refine L_op A rfl (by decide) rfl (y_call3 (by kernel_rfl) rfl (A.get (s := 10) rfl) (A.get (s := 11) rfl) (A.get (s := 12) rfl) (callN (link_no (h.gr S.kp.to_gr) ha hb) fun v w H gG nN hf ac A => ?_))
  obtain ⟨rfl, rfl⟩ := hf
  replace S : St _ _ _ [] := S.new gG nN
  replace A := A.keep [(0, r), (1, .int .i64 a), (2, .int .i64 b), (6, .int .i64 0), (13, .tuple #[.agg #[.bool false], .bool false])] ⟨rfl, rfl, rfl, rfl, rfl, trivial⟩
  refine L_op A rfl (by decide) rfl (y_move (A.get (s := 13) rfl) fun ac A => ?_)
  refine L_op A rfl (by decide) rfl (y_extract (A.get (s := 9) rfl) rfl fun ac A => ?_)
  refine L_op A rfl (by decide) rfl (y_extract (A.get (s := 9) rfl) rfl fun ac A => ?_)
  refine L_op A rfl (by decide) rfl (y_allocN (z := .agg #[.bool false]) (by kernel_rfl) fun b1 w gG nN ac A => ?_)
  replace S : St _ _ _ [(b1, .cells #[.bool false] 79 (0, 0))] := S.new gG nN
  replace A := A.keep [(0, r), (1, .int .i64 a), (2, .int .i64 b), (6, .int .i64 0), (7, .pointer (some ⟨b1, 0, none⟩)), (14, .agg #[.bool false]), (15, .bool false)] ⟨rfl, rfl, rfl, rfl, rfl, rfl, rfl, trivial⟩
  refine L_opN A rfl rfl (y_store 1 (by kernel_rfl) (A.get (s := 7) rfl) (A.get (s := 14) rfl) (S.get 0 rfl) rfl (Nat.le_of_ble_eq_true rfl) (one_all rfl) ?_)
  replace S : St _ _ _ [(b1, .cells #[.bool false] 79 (0, 0))] := S.setAt 0 rfl _
  refine L_op A rfl (by decide) rfl (y_assign (A.get (s := 15) rfl) fun ac A => ?_)
  replace A := A.keep [(0, r), (1, .int .i64 a), (2, .int .i64 b), (6, .int .i64 0), (7, .pointer (some ⟨b1, 0, none⟩)), (8, .bool false)] ⟨rfl, rfl, rfl, rfl, rfl, rfl, trivial⟩
  refine hK2 _ _ ?_
  refine wp_seq_k fun K3 hK3 => ?_
  refine wp_block ?_
  refine wp_seq_k fun K4 hK4 => ?_
  refine region_seq ?_  -- region 2
  refine L_op A rfl (by decide) rfl (y_move (A.get (s := 8) rfl) fun ac A => ?_)
  refine L_op A rfl (by decide) rfl (y_not (A.get (s := 17) rfl) rfl fun ac A => ?_)
  refine L_op A rfl (by decide) rfl (y_assign (A.get (s := 18) rfl) fun ac A => ?_)
  replace A := A.keep [(0, r), (1, .int .i64 a), (2, .int .i64 b), (6, .int .i64 0), (7, .pointer (some ⟨b1, 0, none⟩)), (8, .bool false), (16, .bool true)] ⟨rfl, rfl, rfl, rfl, rfl, rfl, rfl, trivial⟩
  refine hK4 _ _ ?_
  refine wp_cond_true (A.get rfl) ?_
  refine wp_seq_k fun K5 hK5 => ?_
  refine region_seq ?_  -- region 3
  refine L_op A rfl (by decide) rfl (y_assign rfl fun ac A => ?_)
  replace A := A.keep [(0, r), (1, .int .i64 a), (2, .int .i64 b), (6, .int .i64 1), (7, .pointer (some ⟨b1, 0, none⟩)), (8, .bool false), (16, .bool true)] ⟨rfl, rfl, rfl, rfl, rfl, rfl, rfl, trivial⟩
  refine hK5 _ _ ?_
  exact wp_ret ⟨A.defers, _, res_run (rs := [.tmp 6]) (vs := [.int .i64 1]) rfl ⟨A.get rfl, trivial⟩, ⟨_, rfl, S.kp.to_gr, [], ⟨rfl, rfl⟩, NewF.nil _ _⟩⟩

set_option maxRecDepth 20000 in
theorem open_no (h : NoNet w r) (ha : i64 a) (hb : i64 b)  : Calls Try.prog 17 #[r, .int .i64 a, .int .i64 b] w (RetN w (eqv (.bool false))) := by
  refine enter Try.func17 rfl (n := 22) rfl (Nat.le_of_ble_eq_true rfl) fun ac A => ?_
  have S : St _ _ _ [] := St.none w
  refine wp_seq_k fun K1 hK1 => ?_
  refine region_seq ?_  -- region 0
  refine L_op A rfl (by decide) rfl (y_assign rfl fun ac A => ?_)
  replace A := A.keep [(0, r), (1, .int .i64 a), (2, .int .i64 b), (6, .bool false)] ⟨rfl, rfl, rfl, rfl, trivial⟩
  refine hK1 _ _ ?_
  refine wp_seq_k fun K2 hK2 => ?_
  refine region_seq ?_  -- region 1
  refine L_op A rfl (by decide) rfl (y_move (A.get (s := 0) rfl) fun ac A => ?_)
  refine L_op A rfl (by decide) rfl (y_move (A.get (s := 1) rfl) fun ac A => ?_)
  refine L_op A rfl (by decide) rfl (y_move (A.get (s := 2) rfl) fun ac A => ?_)
  refine L_op A rfl (by decide) rfl (y_call3 (by kernel_rfl) rfl (A.get (s := 10) rfl) (A.get (s := 11) rfl) (A.get (s := 12) rfl) (callN (link_no (h.gr S.kp.to_gr) ha hb) fun v w H gG nN hf ac A => ?_))
  obtain ⟨rfl, rfl⟩ := hf
  replace S : St _ _ _ [] := S.new gG nN
  replace A := A.keep [(0, r), (1, .int .i64 a), (2, .int .i64 b), (6, .bool false), (13, .tuple #[.agg #[.bool false], .bool false])] ⟨rfl, rfl, rfl, rfl, rfl, trivial⟩
  refine L_op A rfl (by decide) rfl (y_move (A.get (s := 13) rfl) fun ac A => ?_)
  refine L_op A rfl (by decide) rfl (y_extract (A.get (s := 9) rfl) rfl fun ac A => ?_)
  refine L_op A rfl (by decide) rfl (y_extract (A.get (s := 9) rfl) rfl fun ac A => ?_)
  refine L_op A rfl (by decide) rfl (y_allocN (z := .agg #[.bool false]) (by kernel_rfl) fun b1 w gG nN ac A => ?_)
  replace S : St _ _ _ [(b1, .cells #[.bool false] 79 (0, 0))] := S.new gG nN
  replace A := A.keep [(0, r), (1, .int .i64 a), (2, .int .i64 b), (6, .bool false), (7, .pointer (some ⟨b1, 0, none⟩)), (14, .agg #[.bool false]), (15, .bool false)] ⟨rfl, rfl, rfl, rfl, rfl, rfl, rfl, trivial⟩
  refine L_opN A rfl rfl (y_store 1 (by kernel_rfl) (A.get (s := 7) rfl) (A.get (s := 14) rfl) (S.get 0 rfl) rfl (Nat.le_of_ble_eq_true rfl) (one_all rfl) ?_)
  replace S : St _ _ _ [(b1, .cells #[.bool false] 79 (0, 0))] := S.setAt 0 rfl _
  refine L_op A rfl (by decide) rfl (y_assign (A.get (s := 15) rfl) fun ac A => ?_)
  replace A := A.keep [(0, r), (1, .int .i64 a), (2, .int .i64 b), (6, .bool false), (7, .pointer (some ⟨b1, 0, none⟩)), (8, .bool false)] ⟨rfl, rfl, rfl, rfl, rfl, rfl, trivial⟩
  refine hK2 _ _ ?_
  refine wp_seq_k fun K3 hK3 => ?_
  refine region_seq ?_  -- region 2
  refine L_op A rfl (by decide) rfl (y_move (A.get (s := 8) rfl) fun ac A => ?_)
  refine L_op A rfl (by decide) rfl (y_move (A.get (s := 16) rfl) fun ac A => ?_)
  refine L_no A rfl (by decide) rfl rfl (by decide) (A.get rfl) (by decide) fun ac A => ?_
  refine L_no A rfl (by decide) rfl rfl (by decide) (A.get rfl) (by decide) fun ac A => ?_
  replace A := A.keep [(0, r), (1, .int .i64 a), (2, .int .i64 b), (6, .bool false), (7, .pointer (some ⟨b1, 0, none⟩)), (8, .bool false), (17, .bool false), (19, undef)] ⟨rfl, rfl, rfl, rfl, rfl, rfl, rfl, rfl, trivial⟩
  refine L_no A rfl (by decide) rfl rfl (by decide) (A.get rfl) (by decide) fun ac A => ?_
  refine L_op A rfl (by decide) rfl (y_pickF (A.get (s := 17) rfl) rfl fun ac A => ?_)
  refine L_op A rfl (by decide) rfl (y_assign (A.get (s := 21) rfl) fun ac A => ?_)
  replace A := A.keep [(0, r), (1, .int .i64 a), (2, .int .i64 b), (6, .bool false), (7, .pointer (some ⟨b1, 0, none⟩)), (8, .bool false)] ⟨rfl, rfl, rfl, rfl, rfl, rfl, trivial⟩
  refine hK3 _ _ ?_
  exact wp_ret ⟨A.defers, _, res_run (rs := [.tmp 6]) (vs := [.bool false]) rfl ⟨A.get rfl, trivial⟩, ⟨_, rfl, S.kp.to_gr, [], ⟨rfl, rfl⟩, NewF.nil _ _⟩⟩

set_option maxRecDepth 20000 in
theorem at_no (h : NoNet w r) (ha : i64 a) (hb : i64 b) {fv : Value} : Calls Try.prog 40 #[r, .int .i64 a, .int .i64 b, .int .i64 i, fv] w (RetN w (eqv (.int .i64 1))) := by
  refine enter Try.func40 rfl (n := 65) rfl (Nat.le_of_ble_eq_true rfl) fun ac A => ?_
  have S : St _ _ _ [] := St.none w
  refine wp_seq_k fun K1 hK1 => ?_
  refine region_seq ?_  -- region 0
  refine L_op A rfl (by decide) rfl (y_assign rfl fun ac A => ?_)
  replace A := A.keep [(0, r), (1, .int .i64 a), (2, .int .i64 b), (3, .int .i64 i), (4, fv), (10, .int .i64 0)] ⟨rfl, rfl, rfl, rfl, rfl, rfl, trivial⟩
  refine hK1 _ _ ?_
  refine wp_seq_k fun K2 hK2 => ?_
  refine wp_seq_k fun K3 hK3 => ?_
  refine region_seq ?_  -- region 1
  refine L_op A rfl (by decide) rfl (y_move (A.get (s := 0) rfl) fun ac A => ?_)
  refine L_op A rfl (by decide) rfl (y_move (A.get (s := 1) rfl) fun ac A => ?_)
  refine L_op A rfl (by decide) rfl (y_move (A.get (s := 2) rfl) fun ac A => ?_)
  refine L_op A rfl (by decide) rfl (y_call3 (by kernel_rfl) rfl (A.get (s := 17) rfl) (A.get (s := 18) rfl) (A.get (s := 19) rfl) (callN (link_no (h.gr S.kp.to_gr) ha hb) fun v w H gG nN hf ac A => ?_))
  obtain ⟨rfl, rfl⟩ := hf
  replace S : St _ _ _ [] := S.new gG nN
  replace A := A.keep [(0, r), (1, .int .i64 a), (2, .int .i64 b), (3, .int .i64 i), (4, fv), (10, .int .i64 0), (20, .tuple #[.agg #[.bool false], .bool false])] ⟨rfl, rfl, rfl, rfl, rfl, rfl, rfl, trivial⟩
  refine L_op A rfl (by decide) rfl (y_move (A.get (s := 20) rfl) fun ac A => ?_)
  refine L_op A rfl (by decide) rfl (y_extract (A.get (s := 16) rfl) rfl fun ac A => ?_)
  refine L_op A rfl (by decide) rfl (y_extract (A.get (s := 16) rfl) rfl fun ac A => ?_)
  refine L_op A rfl (by decide) rfl (y_allocN (z := .agg #[.bool false]) (by kernel_rfl) fun b1 w gG nN ac A => ?_)
  replace S : St _ _ _ [(b1, .cells #[.bool false] 79 (0, 0))] := S.new gG nN
  replace A := A.keep [(0, r), (1, .int .i64 a), (2, .int .i64 b), (3, .int .i64 i), (4, fv), (10, .int .i64 0), (11, .pointer (some ⟨b1, 0, none⟩)), (21, .agg #[.bool false]), (22, .bool false)] ⟨rfl, rfl, rfl, rfl, rfl, rfl, rfl, rfl, rfl, trivial⟩
  refine L_opN A rfl rfl (y_store 1 (by kernel_rfl) (A.get (s := 11) rfl) (A.get (s := 21) rfl) (S.get 0 rfl) rfl (Nat.le_of_ble_eq_true rfl) (one_all rfl) ?_)
  replace S : St _ _ _ [(b1, .cells #[.bool false] 79 (0, 0))] := S.setAt 0 rfl _
  refine L_op A rfl (by decide) rfl (y_assign (A.get (s := 22) rfl) fun ac A => ?_)
  replace A := A.keep [(0, r), (1, .int .i64 a), (2, .int .i64 b), (3, .int .i64 i), (4, fv), (10, .int .i64 0), (12, .bool false)] ⟨rfl, rfl, rfl, rfl, rfl, rfl, rfl, trivial⟩
  refine hK3 _ _ ?_
  refine wp_seq_k fun K4 hK4 => ?_
  refine region_seq ?_  -- region 2
  refine L_op A rfl (by decide) rfl (y_move (A.get (s := 12) rfl) fun ac A => ?_)
  refine L_op A rfl (by decide) rfl (y_not (A.get (s := 23) rfl) rfl fun ac A => ?_)
  replace A := A.keep [(0, r), (1, .int .i64 a), (2, .int .i64 b), (3, .int .i64 i), (4, fv), (10, .int .i64 0), (12, .bool false), (24, .bool true)] ⟨rfl, rfl, rfl, rfl, rfl, rfl, rfl, rfl, trivial⟩
  refine hK4 _ _ ?_
  refine wp_cond_true (A.get rfl) ?_
  refine wp_seq_k fun K5 hK5 => ?_
  refine region_seq ?_  -- region 3
  refine L_op A rfl (by decide) rfl (y_assign rfl fun ac A => ?_)
  replace A := A.keep [(0, r), (1, .int .i64 a), (2, .int .i64 b), (3, .int .i64 i), (4, fv), (10, .int .i64 1), (12, .bool false), (24, .bool true)] ⟨rfl, rfl, rfl, rfl, rfl, rfl, rfl, rfl, trivial⟩
  refine hK5 _ _ ?_
  exact wp_ret ⟨A.defers, _, res_run (rs := [.tmp 10]) (vs := [.int .i64 1]) rfl ⟨A.get rfl, trivial⟩, ⟨_, rfl, S.kp.to_gr, [], ⟨rfl, rfl⟩, NewF.nil _ _⟩⟩

set_option maxRecDepth 20000 in
theorem peek_no (h : NoNet w r) (ha : i64 a) (hb : i64 b) : Calls Try.prog 21 #[r, .int .i64 a, .int .i64 b, .int .i64 i] w (RetN w (eqv (.tuple #[.slice none 0 0, .int .i64 1]))) := by
  refine enter Try.func21 rfl (n := 20) rfl (Nat.le_of_ble_eq_true rfl) fun ac A => ?_
  have S : St _ _ _ [] := St.none w
  refine wp_seq_k fun K1 hK1 => ?_
  refine region_seq ?_  -- region 0
  refine L_op A rfl (by decide) rfl (y_boxN (A.get (s := 3) rfl) fun b1 w gG nN ac A => ?_)
  replace S : St _ _ _ [(b1, .cells #[.int .i64 i] 3 (0, 0))] := S.new gG nN
  refine L_op A rfl (by decide) rfl (y_assign rfl fun ac A => ?_)
  refine L_op A rfl (by decide) rfl (y_assign rfl fun ac A => ?_)
  replace A := A.keep [(0, r), (1, .int .i64 a), (2, .int .i64 b), (3, .int .i64 i), (7, .pointer (some ⟨b1, 0, none⟩)), (8, .slice none 0 0), (9, .int .i64 0)] ⟨rfl, rfl, rfl, rfl, rfl, rfl, rfl, trivial⟩
  refine hK1 _ _ ?_
  refine wp_seq_k fun K2 hK2 => ?_
  refine region_seq ?_  -- region 1
  refine L_op A rfl (by decide) rfl (y_allocN (z := .slice none 0 0) (by kernel_rfl) fun b2 w gG nN ac A => ?_)
  replace S : St _ _ _ [(b2, .cells #[.slice none 0 0] 31 (0, 0)), (b1, .cells #[.int .i64 i] 3 (0, 0))] := S.new gG nN
  replace A := A.keep [(0, r), (1, .int .i64 a), (2, .int .i64 b), (3, .int .i64 i), (7, .pointer (some ⟨b1, 0, none⟩)), (8, .slice none 0 0), (9, .int .i64 0), (10, .pointer (some ⟨b2, 0, none⟩))] ⟨rfl, rfl, rfl, rfl, rfl, rfl, rfl, rfl, trivial⟩
  refine hK2 _ _ ?_
  refine wp_seq_k fun K3 hK3 => ?_
  refine region_seq ?_  -- region 2
  refine L_op A rfl (by decide) rfl (y_move (A.get (s := 0) rfl) fun ac A => ?_)
  refine L_op A rfl (by decide) rfl (y_move (A.get (s := 1) rfl) fun ac A => ?_)
  refine L_op A rfl (by decide) rfl (y_move (A.get (s := 2) rfl) fun ac A => ?_)
  refine L_op A rfl (by decide) rfl (y_load (by kernel_rfl) (A.get (s := 7) rfl) ((cell_of (S.get 1 rfl) _).trans rfl) fun ac A => ?_)
  replace A := A.keep [(0, r), (1, .int .i64 a), (2, .int .i64 b), (3, .int .i64 i), (7, .pointer (some ⟨b1, 0, none⟩)), (8, .slice none 0 0), (9, .int .i64 0), (10, .pointer (some ⟨b2, 0, none⟩)), (12, r), (13, .int .i64 a), (14, .int .i64 b), (15, .int .i64 i)] ⟨rfl, rfl, rfl, rfl, rfl, rfl, rfl, rfl, rfl, rfl, rfl, rfl, trivial⟩
  refine L_op A rfl (by decide) rfl (y_makeFunc2 (A.get (s := 7) rfl) (A.get (s := 10) rfl) fun ac A => ?_)
  refine L_op A rfl (by decide) rfl (y_call5 (by kernel_rfl) rfl (A.get (s := 12) rfl) (A.get (s := 13) rfl) (A.get (s := 14) rfl) (A.get (s := 15) rfl) (A.get (s := 16) rfl) (callN (at_no (h.gr S.kp.to_gr) ha hb) fun v w H gG nN hf ac A => ?_))
  obtain ⟨rfl, rfl⟩ := hf
  replace S : St _ _ _ [(b2, .cells #[.slice none 0 0] 31 (0, 0)), (b1, .cells #[.int .i64 i] 3 (0, 0))] := S.new gG nN
  refine L_op A rfl (by decide) rfl (y_assign (A.get (s := 17) rfl) fun ac A => ?_)
  replace A := A.keep [(0, r), (1, .int .i64 a), (2, .int .i64 b), (3, .int .i64 i), (7, .pointer (some ⟨b1, 0, none⟩)), (8, .slice none 0 0), (9, .int .i64 0), (10, .pointer (some ⟨b2, 0, none⟩)), (11, .int .i64 1)] ⟨rfl, rfl, rfl, rfl, rfl, rfl, rfl, rfl, rfl, trivial⟩
  refine hK3 _ _ ?_
  refine wp_seq_k fun K4 hK4 => ?_
  refine region_seq ?_  -- region 3
  refine L_op A rfl (by decide) rfl (y_load (by kernel_rfl) (A.get (s := 10) rfl) ((cell_of (S.get 0 rfl) _).trans rfl) fun ac A => ?_)
  refine L_op A rfl (by decide) rfl (y_move (A.get (s := 11) rfl) fun ac A => ?_)
  refine L_op A rfl (by decide) rfl (y_assign (A.get (s := 18) rfl) fun ac A => ?_)
  refine L_op A rfl (by decide) rfl (y_assign (A.get (s := 19) rfl) fun ac A => ?_)
  replace A := A.keep [(0, r), (1, .int .i64 a), (2, .int .i64 b), (3, .int .i64 i), (7, .pointer (some ⟨b1, 0, none⟩)), (8, .slice none 0 0), (9, .int .i64 1), (10, .pointer (some ⟨b2, 0, none⟩)), (11, .int .i64 1)] ⟨rfl, rfl, rfl, rfl, rfl, rfl, rfl, rfl, rfl, trivial⟩
  refine hK4 _ _ ?_
  exact wp_ret ⟨A.defers, _, res_run (rs := [.tmp 8, .tmp 9]) (vs := [.slice none 0 0, .int .i64 1]) rfl ⟨A.get rfl, A.get rfl, trivial⟩, ⟨_, rfl, S.kp.to_gr, [], ⟨rfl, rfl⟩, NewF.nil _ _⟩⟩

set_option maxRecDepth 20000 in
theorem take_no (h : NoNet w r) (ha : i64 a) (hb : i64 b) : Calls Try.prog 12 #[r, .int .i64 a, .int .i64 b, .int .i64 i] w (RetN w (eqv (.tuple #[.slice none 0 0, .int .i64 1]))) := by
  refine enter Try.func12 rfl (n := 20) rfl (Nat.le_of_ble_eq_true rfl) fun ac A => ?_
  have S : St _ _ _ [] := St.none w
  refine wp_seq_k fun K1 hK1 => ?_
  refine region_seq ?_  -- region 0
  refine L_op A rfl (by decide) rfl (y_boxN (A.get (s := 3) rfl) fun b1 w gG nN ac A => ?_)
  replace S : St _ _ _ [(b1, .cells #[.int .i64 i] 3 (0, 0))] := S.new gG nN
  refine L_op A rfl (by decide) rfl (y_assign rfl fun ac A => ?_)
  refine L_op A rfl (by decide) rfl (y_assign rfl fun ac A => ?_)
  replace A := A.keep [(0, r), (1, .int .i64 a), (2, .int .i64 b), (3, .int .i64 i), (7, .pointer (some ⟨b1, 0, none⟩)), (8, .slice none 0 0), (9, .int .i64 0)] ⟨rfl, rfl, rfl, rfl, rfl, rfl, rfl, trivial⟩
  refine hK1 _ _ ?_
  refine wp_seq_k fun K2 hK2 => ?_
  refine region_seq ?_  -- region 1
  refine L_op A rfl (by decide) rfl (y_allocN (z := .slice none 0 0) (by kernel_rfl) fun b2 w gG nN ac A => ?_)
  replace S : St _ _ _ [(b2, .cells #[.slice none 0 0] 31 (0, 0)), (b1, .cells #[.int .i64 i] 3 (0, 0))] := S.new gG nN
  replace A := A.keep [(0, r), (1, .int .i64 a), (2, .int .i64 b), (3, .int .i64 i), (7, .pointer (some ⟨b1, 0, none⟩)), (8, .slice none 0 0), (9, .int .i64 0), (10, .pointer (some ⟨b2, 0, none⟩))] ⟨rfl, rfl, rfl, rfl, rfl, rfl, rfl, rfl, trivial⟩
  refine hK2 _ _ ?_
  refine wp_seq_k fun K3 hK3 => ?_
  refine region_seq ?_  -- region 2
  refine L_op A rfl (by decide) rfl (y_move (A.get (s := 0) rfl) fun ac A => ?_)
  refine L_op A rfl (by decide) rfl (y_move (A.get (s := 1) rfl) fun ac A => ?_)
  refine L_op A rfl (by decide) rfl (y_move (A.get (s := 2) rfl) fun ac A => ?_)
  refine L_op A rfl (by decide) rfl (y_load (by kernel_rfl) (A.get (s := 7) rfl) ((cell_of (S.get 1 rfl) _).trans rfl) fun ac A => ?_)
  replace A := A.keep [(0, r), (1, .int .i64 a), (2, .int .i64 b), (3, .int .i64 i), (7, .pointer (some ⟨b1, 0, none⟩)), (8, .slice none 0 0), (9, .int .i64 0), (10, .pointer (some ⟨b2, 0, none⟩)), (12, r), (13, .int .i64 a), (14, .int .i64 b), (15, .int .i64 i)] ⟨rfl, rfl, rfl, rfl, rfl, rfl, rfl, rfl, rfl, rfl, rfl, rfl, trivial⟩
  refine L_op A rfl (by decide) rfl (y_makeFunc2 (A.get (s := 7) rfl) (A.get (s := 10) rfl) fun ac A => ?_)
  refine L_op A rfl (by decide) rfl (y_call5 (by kernel_rfl) rfl (A.get (s := 12) rfl) (A.get (s := 13) rfl) (A.get (s := 14) rfl) (A.get (s := 15) rfl) (A.get (s := 16) rfl) (callN (at_no (h.gr S.kp.to_gr) ha hb) fun v w H gG nN hf ac A => ?_))
  obtain ⟨rfl, rfl⟩ := hf
  replace S : St _ _ _ [(b2, .cells #[.slice none 0 0] 31 (0, 0)), (b1, .cells #[.int .i64 i] 3 (0, 0))] := S.new gG nN
  refine L_op A rfl (by decide) rfl (y_assign (A.get (s := 17) rfl) fun ac A => ?_)
  replace A := A.keep [(0, r), (1, .int .i64 a), (2, .int .i64 b), (3, .int .i64 i), (7, .pointer (some ⟨b1, 0, none⟩)), (8, .slice none 0 0), (9, .int .i64 0), (10, .pointer (some ⟨b2, 0, none⟩)), (11, .int .i64 1)] ⟨rfl, rfl, rfl, rfl, rfl, rfl, rfl, rfl, rfl, trivial⟩
  refine hK3 _ _ ?_
  refine wp_seq_k fun K4 hK4 => ?_
  refine region_seq ?_  -- region 3
  refine L_op A rfl (by decide) rfl (y_load (by kernel_rfl) (A.get (s := 10) rfl) ((cell_of (S.get 0 rfl) _).trans rfl) fun ac A => ?_)
  refine L_op A rfl (by decide) rfl (y_move (A.get (s := 11) rfl) fun ac A => ?_)
  refine L_op A rfl (by decide) rfl (y_assign (A.get (s := 18) rfl) fun ac A => ?_)
  refine L_op A rfl (by decide) rfl (y_assign (A.get (s := 19) rfl) fun ac A => ?_)
  replace A := A.keep [(0, r), (1, .int .i64 a), (2, .int .i64 b), (3, .int .i64 i), (7, .pointer (some ⟨b1, 0, none⟩)), (8, .slice none 0 0), (9, .int .i64 1), (10, .pointer (some ⟨b2, 0, none⟩)), (11, .int .i64 1)] ⟨rfl, rfl, rfl, rfl, rfl, rfl, rfl, rfl, rfl, trivial⟩
  refine hK4 _ _ ?_
  exact wp_ret ⟨A.defers, _, res_run (rs := [.tmp 8, .tmp 9]) (vs := [.slice none 0 0, .int .i64 1]) rfl ⟨A.get rfl, A.get rfl, trivial⟩, ⟨_, rfl, S.kp.to_gr, [], ⟨rfl, rfl⟩, NewF.nil _ _⟩⟩

set_option maxRecDepth 20000 in
theorem drop_no (h : NoNet w r) (ha : i64 a) (hb : i64 b) : Calls Try.prog 22 #[r, .int .i64 a, .int .i64 b, .int .i64 i] w (RetN w (eqv (.int .i64 1))) := by
  refine enter Try.func22 rfl (n := 20) rfl (Nat.le_of_ble_eq_true rfl) fun ac A => ?_
  have S : St _ _ _ [] := St.none w
  refine wp_seq_k fun K1 hK1 => ?_
  refine region_seq ?_  -- region 0
  refine L_op A rfl (by decide) rfl (y_assign rfl fun ac A => ?_)
  replace A := A.keep [(0, r), (1, .int .i64 a), (2, .int .i64 b), (3, .int .i64 i), (8, .int .i64 0)] ⟨rfl, rfl, rfl, rfl, rfl, trivial⟩
  refine hK1 _ _ ?_
  refine wp_seq_k fun K2 hK2 => ?_
  refine region_seq ?_  -- region 1
  refine L_op A rfl (by decide) rfl (y_move (A.get (s := 0) rfl) fun ac A => ?_)
  refine L_op A rfl (by decide) rfl (y_move (A.get (s := 1) rfl) fun ac A => ?_)
  refine L_op A rfl (by decide) rfl (y_move (A.get (s := 2) rfl) fun ac A => ?_)
  refine L_op A rfl (by decide) rfl (y_move (A.get (s := 3) rfl) fun ac A => ?_)
  replace A := A.keep [(0, r), (1, .int .i64 a), (2, .int .i64 b), (3, .int .i64 i), (8, .int .i64 0), (12, r), (13, .int .i64 a), (14, .int .i64 b), (15, .int .i64 i)] ⟨rfl, rfl, rfl, rfl, rfl, rfl, rfl, rfl, rfl, trivial⟩
  refine L_op A rfl (by decide) rfl (y_call4 (by kernel_rfl) rfl (A.get (s := 12) rfl) (A.get (s := 13) rfl) (A.get (s := 14) rfl) (A.get (s := 15) rfl) (callN (take_no (h.gr S.kp.to_gr) ha hb) fun v w H gG nN hf ac A => ?_))
  obtain ⟨rfl, rfl⟩ := hf
  replace S : St _ _ _ [] := S.new gG nN
  refine L_op A rfl (by decide) rfl (y_move (A.get (s := 16) rfl) fun ac A => ?_)
  refine L_op A rfl (by decide) rfl (y_extract (A.get (s := 11) rfl) rfl fun ac A => ?_)
  refine L_op A rfl (by decide) rfl (y_extract (A.get (s := 11) rfl) rfl fun ac A => ?_)
  replace A := A.keep [(0, r), (1, .int .i64 a), (2, .int .i64 b), (3, .int .i64 i), (8, .int .i64 0), (17, .slice none 0 0), (18, .int .i64 1)] ⟨rfl, rfl, rfl, rfl, rfl, rfl, rfl, trivial⟩
  refine L_op A rfl (by decide) rfl (y_assign (A.get (s := 17) rfl) fun ac A => ?_)
  refine L_op A rfl (by decide) rfl (y_assign (A.get (s := 18) rfl) fun ac A => ?_)
  replace A := A.keep [(0, r), (1, .int .i64 a), (2, .int .i64 b), (3, .int .i64 i), (8, .int .i64 0), (10, .int .i64 1)] ⟨rfl, rfl, rfl, rfl, rfl, rfl, trivial⟩
  refine hK2 _ _ ?_
  refine wp_seq_k fun K3 hK3 => ?_
  refine region_seq ?_  -- region 2
  refine L_op A rfl (by decide) rfl (y_move (A.get (s := 10) rfl) fun ac A => ?_)
  refine L_op A rfl (by decide) rfl (y_assign (A.get (s := 19) rfl) fun ac A => ?_)
  replace A := A.keep [(0, r), (1, .int .i64 a), (2, .int .i64 b), (3, .int .i64 i), (8, .int .i64 1), (10, .int .i64 1)] ⟨rfl, rfl, rfl, rfl, rfl, rfl, trivial⟩
  refine hK3 _ _ ?_
  exact wp_ret ⟨A.defers, _, res_run (rs := [.tmp 8]) (vs := [.int .i64 1]) rfl ⟨A.get rfl, trivial⟩, ⟨_, rfl, S.kp.to_gr, [], ⟨rfl, rfl⟩, NewF.nil _ _⟩⟩

set_option maxRecDepth 20000 in
theorem double_no (h : NoNet w r) (ha : i64 a) (hb : i64 b) : Calls Try.prog 20 #[r, .int .i64 a, .int .i64 b, .int .i64 i] w (RetN w (eqv (.int .i64 1))) := by
  refine enter Try.func20 rfl (n := 15) rfl (Nat.le_of_ble_eq_true rfl) fun ac A => ?_
  have S : St _ _ _ [] := St.none w
  refine wp_seq_k fun K1 hK1 => ?_
  refine region_seq ?_  -- region 0
  refine L_op A rfl (by decide) rfl (y_boxN (A.get (s := 3) rfl) fun b1 w gG nN ac A => ?_)
  replace S : St _ _ _ [(b1, .cells #[.int .i64 i] 3 (0, 0))] := S.new gG nN
  refine L_op A rfl (by decide) rfl (y_assign rfl fun ac A => ?_)
  replace A := A.keep [(0, r), (1, .int .i64 a), (2, .int .i64 b), (3, .int .i64 i), (7, .pointer (some ⟨b1, 0, none⟩)), (8, .int .i64 0)] ⟨rfl, rfl, rfl, rfl, rfl, rfl, trivial⟩
  refine hK1 _ _ ?_
  refine wp_seq_k fun K2 hK2 => ?_
  refine region_seq ?_  -- region 1
  refine L_op A rfl (by decide) rfl (y_move (A.get (s := 0) rfl) fun ac A => ?_)
  refine L_op A rfl (by decide) rfl (y_move (A.get (s := 1) rfl) fun ac A => ?_)
  refine L_op A rfl (by decide) rfl (y_move (A.get (s := 2) rfl) fun ac A => ?_)
  refine L_op A rfl (by decide) rfl (y_load (by kernel_rfl) (A.get (s := 7) rfl) ((cell_of (S.get 0 rfl) _).trans rfl) fun ac A => ?_)
  replace A := A.keep [(0, r), (1, .int .i64 a), (2, .int .i64 b), (3, .int .i64 i), (7, .pointer (some ⟨b1, 0, none⟩)), (8, .int .i64 0), (9, r), (10, .int .i64 a), (11, .int .i64 b), (12, .int .i64 i)] ⟨rfl, rfl, rfl, rfl, rfl, rfl, rfl, rfl, rfl, rfl, trivial⟩
  refine L_op A rfl (by decide) rfl (y_makeFunc1 (A.get (s := 7) rfl) fun ac A => ?_)
  refine L_op A rfl (by decide) rfl (y_call5 (by kernel_rfl) rfl (A.get (s := 9) rfl) (A.get (s := 10) rfl) (A.get (s := 11) rfl) (A.get (s := 12) rfl) (A.get (s := 13) rfl) (callN (at_no (h.gr S.kp.to_gr) ha hb) fun v w H gG nN hf ac A => ?_))
  obtain ⟨rfl, rfl⟩ := hf
  replace S : St _ _ _ [(b1, .cells #[.int .i64 i] 3 (0, 0))] := S.new gG nN
  refine L_op A rfl (by decide) rfl (y_assign (A.get (s := 14) rfl) fun ac A => ?_)
  replace A := A.keep [(0, r), (1, .int .i64 a), (2, .int .i64 b), (3, .int .i64 i), (7, .pointer (some ⟨b1, 0, none⟩)), (8, .int .i64 1)] ⟨rfl, rfl, rfl, rfl, rfl, rfl, trivial⟩
  refine hK2 _ _ ?_
  exact wp_ret ⟨A.defers, _, res_run (rs := [.tmp 8]) (vs := [.int .i64 1]) rfl ⟨A.get rfl, trivial⟩, ⟨_, rfl, S.kp.to_gr, [], ⟨rfl, rfl⟩, NewF.nil _ _⟩⟩

set_option maxRecDepth 20000 in
theorem spoil_no (h : NoNet w r) (ha : i64 a) (hb : i64 b) : Calls Try.prog 33 #[r, .int .i64 a, .int .i64 b, .int .i64 i, .int .i64 bit] w (RetN w (eqv (.int .i64 1))) := by
  refine enter Try.func33 rfl (n := 17) rfl (Nat.le_of_ble_eq_true rfl) fun ac A => ?_
  have S : St _ _ _ [] := St.none w
  refine wp_seq_k fun K1 hK1 => ?_
  refine region_seq ?_  -- region 0
  refine L_op A rfl (by decide) rfl (y_boxN (A.get (s := 3) rfl) fun b1 w gG nN ac A => ?_)
  replace S : St _ _ _ [(b1, .cells #[.int .i64 i] 3 (0, 0))] := S.new gG nN
  refine L_op A rfl (by decide) rfl (y_boxN (A.get (s := 4) rfl) fun b2 w gG nN ac A => ?_)
  replace S : St _ _ _ [(b2, .cells #[.int .i64 bit] 3 (0, 0)), (b1, .cells #[.int .i64 i] 3 (0, 0))] := S.new gG nN
  refine L_op A rfl (by decide) rfl (y_assign rfl fun ac A => ?_)
  replace A := A.keep [(0, r), (1, .int .i64 a), (2, .int .i64 b), (3, .int .i64 i), (4, .int .i64 bit), (8, .pointer (some ⟨b1, 0, none⟩)), (9, .pointer (some ⟨b2, 0, none⟩)), (10, .int .i64 0)] ⟨rfl, rfl, rfl, rfl, rfl, rfl, rfl, rfl, trivial⟩
  refine hK1 _ _ ?_
  refine wp_seq_k fun K2 hK2 => ?_
  refine region_seq ?_  -- region 1
  refine L_op A rfl (by decide) rfl (y_move (A.get (s := 0) rfl) fun ac A => ?_)
  refine L_op A rfl (by decide) rfl (y_move (A.get (s := 1) rfl) fun ac A => ?_)
  refine L_op A rfl (by decide) rfl (y_move (A.get (s := 2) rfl) fun ac A => ?_)
  refine L_op A rfl (by decide) rfl (y_load (by kernel_rfl) (A.get (s := 8) rfl) ((cell_of (S.get 1 rfl) _).trans rfl) fun ac A => ?_)
  replace A := A.keep [(0, r), (1, .int .i64 a), (2, .int .i64 b), (3, .int .i64 i), (4, .int .i64 bit), (8, .pointer (some ⟨b1, 0, none⟩)), (9, .pointer (some ⟨b2, 0, none⟩)), (10, .int .i64 0), (11, r), (12, .int .i64 a), (13, .int .i64 b), (14, .int .i64 i)] ⟨rfl, rfl, rfl, rfl, rfl, rfl, rfl, rfl, rfl, rfl, rfl, rfl, trivial⟩
  refine L_op A rfl (by decide) rfl (y_makeFunc2 (A.get (s := 8) rfl) (A.get (s := 9) rfl) fun ac A => ?_)
  refine L_op A rfl (by decide) rfl (y_call5 (by kernel_rfl) rfl (A.get (s := 11) rfl) (A.get (s := 12) rfl) (A.get (s := 13) rfl) (A.get (s := 14) rfl) (A.get (s := 15) rfl) (callN (at_no (h.gr S.kp.to_gr) ha hb) fun v w H gG nN hf ac A => ?_))
  obtain ⟨rfl, rfl⟩ := hf
  replace S : St _ _ _ [(b2, .cells #[.int .i64 bit] 3 (0, 0)), (b1, .cells #[.int .i64 i] 3 (0, 0))] := S.new gG nN
  refine L_op A rfl (by decide) rfl (y_assign (A.get (s := 16) rfl) fun ac A => ?_)
  replace A := A.keep [(0, r), (1, .int .i64 a), (2, .int .i64 b), (3, .int .i64 i), (4, .int .i64 bit), (8, .pointer (some ⟨b1, 0, none⟩)), (9, .pointer (some ⟨b2, 0, none⟩)), (10, .int .i64 1)] ⟨rfl, rfl, rfl, rfl, rfl, rfl, rfl, rfl, trivial⟩
  refine hK2 _ _ ?_
  exact wp_ret ⟨A.defers, _, res_run (rs := [.tmp 10]) (vs := [.int .i64 1]) rfl ⟨A.get rfl, trivial⟩, ⟨_, rfl, S.kp.to_gr, [], ⟨rfl, rfl⟩, NewF.nil _ _⟩⟩

set_option maxRecDepth 20000 in
theorem len_no (h : NoNet w r) (ha : i64 a) (hb : i64 b) : Calls Try.prog 13 #[r, .int .i64 a, .int .i64 b] w (RetN w (eqv (.int .i64 0))) := by
  rcases h with rfl | ⟨p, rfl, hp⟩
  · skip
    refine enter Try.func13 rfl (n := 18) rfl (Nat.le_of_ble_eq_true rfl) fun ac A => ?_
    have S : St _ _ _ [] := St.none w
    refine wp_seq_k fun K1 hK1 => ?_
    refine region_seq ?_  -- region 0
    refine L_op A rfl (by decide) rfl (y_assign rfl fun ac A => ?_)
    replace A := A.keep [(0, .pointer none), (1, .int .i64 a), (2, .int .i64 b), (6, .int .i64 0)] ⟨rfl, rfl, rfl, rfl, trivial⟩
    refine hK1 _ _ ?_
    refine wp_seq_k fun K2 hK2 => ?_
    refine wp_seq_k fun K3 hK3 => ?_
    refine region_seq ?_  -- region 1
    refine L_op A rfl (by decide) rfl (y_move (A.get (s := 0) rfl) fun ac A => ?_)
    refine L_op A rfl (by decide) rfl (y_ptrNil (c := true) (by kernel_rfl) (A.get (s := 7) rfl) rfl rfl fun ac A => ?_)
    replace A := A.keep [(0, .pointer none), (1, .int .i64 a), (2, .int .i64 b), (6, .int .i64 0), (8, .bool true)] ⟨rfl, rfl, rfl, rfl, rfl, trivial⟩
    refine hK3 _ _ ?_
    refine wp_cond_true (A.get rfl) ?_
    refine wp_seq_k fun K4 hK4 => ?_
    refine region_seq ?_  -- region 2
    refine L_op A rfl (by decide) rfl (y_assign rfl fun ac A => ?_)
    replace A := A.keep [(0, .pointer none), (1, .int .i64 a), (2, .int .i64 b), (6, .int .i64 0), (8, .bool true)] ⟨rfl, rfl, rfl, rfl, rfl, trivial⟩
    refine hK4 _ _ ?_
    exact wp_ret ⟨A.defers, _, res_run (rs := [.tmp 6]) (vs := [.int .i64 0]) rfl ⟨A.get rfl, trivial⟩, ⟨_, rfl, S.kp.to_gr, [], ⟨rfl, rfl⟩, NewF.nil _ _⟩⟩
  · have hp : w.heap[p]? = some (.cells #[.int .i64 0, .slice none 0 0, .map none, .map none] 69 (0, 0)) := hp
    have hk := good_ends ha hb
    refine enter Try.func13 rfl (n := 18) rfl (Nat.le_of_ble_eq_true rfl) fun ac A => ?_
    have S : St _ _ _ [] := St.none w
    refine wp_seq_k fun K1 hK1 => ?_
    refine region_seq ?_  -- region 0
    refine L_op A rfl (by decide) rfl (y_assign rfl fun ac A => ?_)
    replace A := A.keep [(0, .pointer (some ⟨p, 0, none⟩)), (1, .int .i64 a), (2, .int .i64 b), (6, .int .i64 0)] ⟨rfl, rfl, rfl, rfl, trivial⟩
    refine hK1 _ _ ?_
    refine wp_seq_k fun K2 hK2 => ?_
    refine wp_seq_k fun K3 hK3 => ?_
    refine region_seq ?_  -- region 1
    refine L_op A rfl (by decide) rfl (y_move (A.get (s := 0) rfl) fun ac A => ?_)
    refine L_op A rfl (by decide) rfl (y_ptrNil (c := false) (by kernel_rfl) (A.get (s := 7) rfl) rfl rfl fun ac A => ?_)
    replace A := A.keep [(0, .pointer (some ⟨p, 0, none⟩)), (1, .int .i64 a), (2, .int .i64 b), (6, .int .i64 0), (8, .bool false)] ⟨rfl, rfl, rfl, rfl, rfl, trivial⟩
    refine hK3 _ _ ?_
    refine wp_cond_false (A.get rfl) ?_
    refine wp_skip ?_
    refine hK2 _ _ ?_
    refine wp_seq_k fun K4 hK4 => ?_
    refine region_seq ?_  -- region 3
    refine L_op A rfl (by decide) rfl (y_move (A.get (s := 0) rfl) fun ac A => ?_)
    refine L_op A rfl (by decide) rfl (y_nilCheck (A.get (s := 9) rfl) fun ac A => ?_)
    refine L_op A rfl (by decide) rfl (y_fieldAddr (off := 3) (j := 3) (by kernel_rfl) (A.get (s := 10) rfl) (by first | rfl | omega) fun ac A => ?_)
    refine L_op A rfl (by decide) rfl (y_load (by kernel_rfl) (A.get (s := 11) rfl) ((cell_of (S.kp.heap' hp (by simp)) _).trans rfl) fun ac A => ?_)
    replace A := A.keep [(0, .pointer (some ⟨p, 0, none⟩)), (1, .int .i64 a), (2, .int .i64 b), (6, .int .i64 0), (8, .bool false), (12, .map none)] ⟨rfl, rfl, rfl, rfl, rfl, rfl, trivial⟩
    refine L_op A rfl (by decide) rfl (y_move (A.get (s := 1) rfl) fun ac A => ?_)
    refine L_op A rfl (by decide) rfl (y_move (A.get (s := 2) rfl) fun ac A => ?_)
    refine L_op A rfl (by decide) rfl (y_build2 (A.get (s := 13) rfl) (A.get (s := 14) rfl) (v := .agg #[.int .i64 a, .int .i64 b]) (by kernel_rfl) fun ac A => ?_)
    refine L_op A rfl (by decide) rfl (y_lookup (A.get (s := 12) rfl) (A.get (s := 15) rfl) (run_lookNil (enc := kv) (z := .slice none 0 0) Try.lawK Try.underlying67 (by kernel_rfl) (a, b) (good ha hb) false) fun ac A => ?_)
    replace A := A.keep [(0, .pointer (some ⟨p, 0, none⟩)), (1, .int .i64 a), (2, .int .i64 b), (6, .int .i64 0), (8, .bool false), (16, .slice none 0 0)] ⟨rfl, rfl, rfl, rfl, rfl, rfl, trivial⟩
    refine L_op A rfl (by decide) rfl (y_lenS (e := 85) (by kernel_rfl) (A.get (s := 16) rfl) fun ac A => ?_)
    refine L_op A rfl (by decide) rfl (y_assign (A.get (s := 17) rfl) fun ac A => ?_)
    replace A := A.keep [(0, .pointer (some ⟨p, 0, none⟩)), (1, .int .i64 a), (2, .int .i64 b), (6, .int .i64 0), (8, .bool false)] ⟨rfl, rfl, rfl, rfl, rfl, trivial⟩
    refine hK4 _ _ ?_
    exact wp_ret ⟨A.defers, _, res_run (rs := [.tmp 6]) (vs := [.int .i64 0]) rfl ⟨A.get rfl, trivial⟩, ⟨_, rfl, S.kp.to_gr, [], ⟨rfl, rfl⟩, NewF.nil _ _⟩⟩

theorem nodes_no (h : NoNet w r) : Calls Try.prog 16 #[r] w (RetN w (eqv (.int .i64 0))) := by
  rcases h with rfl | ⟨p, rfl, hp⟩
  · skip
    refine enter Try.func16 rfl (n := 9) rfl (Nat.le_of_ble_eq_true rfl) fun ac A => ?_
    have S : St _ _ _ [] := St.none w
    refine wp_seq_k fun K1 hK1 => ?_
    refine region_seq ?_  -- region 0
    refine L_op A rfl (by decide) rfl (y_assign rfl fun ac A => ?_)
    replace A := A.keep [(0, .pointer none), (2, .int .i64 0)] ⟨rfl, rfl, trivial⟩
    refine hK1 _ _ ?_
    refine wp_seq_k fun K2 hK2 => ?_
    refine wp_seq_k fun K3 hK3 => ?_
    refine region_seq ?_  -- region 1
    refine L_op A rfl (by decide) rfl (y_move (A.get (s := 0) rfl) fun ac A => ?_)
    refine L_op A rfl (by decide) rfl (y_ptrNil (c := true) (by kernel_rfl) (A.get (s := 3) rfl) rfl rfl fun ac A => ?_)
    replace A := A.keep [(0, .pointer none), (2, .int .i64 0), (4, .bool true)] ⟨rfl, rfl, rfl, trivial⟩
    refine hK3 _ _ ?_
    refine wp_cond_true (A.get rfl) ?_
    refine wp_seq_k fun K4 hK4 => ?_
    refine region_seq ?_  -- region 2
    refine L_op A rfl (by decide) rfl (y_assign rfl fun ac A => ?_)
    replace A := A.keep [(0, .pointer none), (2, .int .i64 0), (4, .bool true)] ⟨rfl, rfl, rfl, trivial⟩
    refine hK4 _ _ ?_
    exact wp_ret ⟨A.defers, _, res_run (rs := [.tmp 2]) (vs := [.int .i64 0]) rfl ⟨A.get rfl, trivial⟩, ⟨_, rfl, S.kp.to_gr, [], ⟨rfl, rfl⟩, NewF.nil _ _⟩⟩
  · have hp : w.heap[p]? = some (.cells #[.int .i64 0, .slice none 0 0, .map none, .map none] 69 (0, 0)) := hp
    refine enter Try.func16 rfl (n := 9) rfl (Nat.le_of_ble_eq_true rfl) fun ac A => ?_
    have S : St _ _ _ [] := St.none w
    refine wp_seq_k fun K1 hK1 => ?_
    refine region_seq ?_  -- region 0
    refine L_op A rfl (by decide) rfl (y_assign rfl fun ac A => ?_)
    replace A := A.keep [(0, .pointer (some ⟨p, 0, none⟩)), (2, .int .i64 0)] ⟨rfl, rfl, trivial⟩
    refine hK1 _ _ ?_
    refine wp_seq_k fun K2 hK2 => ?_
    refine wp_seq_k fun K3 hK3 => ?_
    refine region_seq ?_  -- region 1
    refine L_op A rfl (by decide) rfl (y_move (A.get (s := 0) rfl) fun ac A => ?_)
    refine L_op A rfl (by decide) rfl (y_ptrNil (c := false) (by kernel_rfl) (A.get (s := 3) rfl) rfl rfl fun ac A => ?_)
    replace A := A.keep [(0, .pointer (some ⟨p, 0, none⟩)), (2, .int .i64 0), (4, .bool false)] ⟨rfl, rfl, rfl, trivial⟩
    refine hK3 _ _ ?_
    refine wp_cond_false (A.get rfl) ?_
    refine wp_skip ?_
    refine hK2 _ _ ?_
    refine wp_seq_k fun K4 hK4 => ?_
    refine region_seq ?_  -- region 3
    refine L_op A rfl (by decide) rfl (y_move (A.get (s := 0) rfl) fun ac A => ?_)
    refine L_op A rfl (by decide) rfl (y_nilCheck (A.get (s := 5) rfl) fun ac A => ?_)
    refine L_op A rfl (by decide) rfl (y_fieldAddr (off := 0) (j := 0) (by kernel_rfl) (A.get (s := 6) rfl) (by first | rfl | omega) fun ac A => ?_)
    refine L_op A rfl (by decide) rfl (y_load (by kernel_rfl) (A.get (s := 7) rfl) ((cell_of (S.kp.heap' hp (by simp)) _).trans rfl) fun ac A => ?_)
    refine L_op A rfl (by decide) rfl (y_assign (A.get (s := 8) rfl) fun ac A => ?_)
    replace A := A.keep [(0, .pointer (some ⟨p, 0, none⟩)), (2, .int .i64 0), (4, .bool false)] ⟨rfl, rfl, rfl, trivial⟩
    refine hK4 _ _ ?_
    exact wp_ret ⟨A.defers, _, res_run (rs := [.tmp 2]) (vs := [.int .i64 0]) rfl ⟨A.get rfl, trivial⟩, ⟨_, rfl, S.kp.to_gr, [], ⟨rfl, rfl⟩, NewF.nil _ _⟩⟩

theorem links_no (h : NoNet w r) : Calls Try.prog 25 #[r] w (RetN w fun v H => SlRep 28 2 v 0 [] H) := by
  rcases h with rfl | ⟨p, rfl, hp⟩
  · skip
    refine enter Try.func25 rfl (n := 10) rfl (Nat.le_of_ble_eq_true rfl) fun ac A => ?_
    have S : St _ _ _ [] := St.none w
    refine wp_seq_k fun K1 hK1 => ?_
    refine region_seq ?_  -- region 0
    refine L_op A rfl (by decide) rfl (y_assign rfl fun ac A => ?_)
    replace A := A.keep [(0, .pointer none), (2, .slice none 0 0)] ⟨rfl, rfl, trivial⟩
    refine hK1 _ _ ?_
    refine wp_seq_k fun K2 hK2 => ?_
    refine wp_seq_k fun K3 hK3 => ?_
    refine region_seq ?_  -- region 1
    refine L_op A rfl (by decide) rfl (y_move (A.get (s := 0) rfl) fun ac A => ?_)
    refine L_op A rfl (by decide) rfl (y_ptrNil (c := true) (by kernel_rfl) (A.get (s := 3) rfl) rfl rfl fun ac A => ?_)
    replace A := A.keep [(0, .pointer none), (2, .slice none 0 0), (4, .bool true)] ⟨rfl, rfl, rfl, trivial⟩
    refine hK3 _ _ ?_
    refine wp_cond_true (A.get rfl) ?_
    refine wp_seq_k fun K4 hK4 => ?_
    refine region_seq ?_  -- region 2
    refine L_op A rfl (by decide) rfl (y_assign rfl fun ac A => ?_)
    replace A := A.keep [(0, .pointer none), (2, .slice none 0 0), (4, .bool true)] ⟨rfl, rfl, rfl, trivial⟩
    refine hK4 _ _ ?_
    exact wp_ret ⟨A.defers, _, res_run (rs := [.tmp 2]) (vs := [.slice none 0 0]) rfl ⟨A.get rfl, trivial⟩, ⟨_, rfl, S.kp.to_gr, [], SlRep.nil _ _ _, NewF.nil _ _⟩⟩
  · have hp : w.heap[p]? = some (.cells #[.int .i64 0, .slice none 0 0, .map none, .map none] 69 (0, 0)) := hp
    refine enter Try.func25 rfl (n := 10) rfl (Nat.le_of_ble_eq_true rfl) fun ac A => ?_
    have S : St _ _ _ [] := St.none w
    refine wp_seq_k fun K1 hK1 => ?_
    refine region_seq ?_  -- region 0
    refine L_op A rfl (by decide) rfl (y_assign rfl fun ac A => ?_)
    replace A := A.keep [(0, .pointer (some ⟨p, 0, none⟩)), (2, .slice none 0 0)] ⟨rfl, rfl, trivial⟩
    refine hK1 _ _ ?_
    refine wp_seq_k fun K2 hK2 => ?_
    refine wp_seq_k fun K3 hK3 => ?_
    refine region_seq ?_  -- region 1
    refine L_op A rfl (by decide) rfl (y_move (A.get (s := 0) rfl) fun ac A => ?_)
    refine L_op A rfl (by decide) rfl (y_ptrNil (c := false) (by kernel_rfl) (A.get (s := 3) rfl) rfl rfl fun ac A => ?_)
    replace A := A.keep [(0, .pointer (some ⟨p, 0, none⟩)), (2, .slice none 0 0), (4, .bool false)] ⟨rfl, rfl, rfl, trivial⟩
    refine hK3 _ _ ?_
    refine wp_cond_false (A.get rfl) ?_
    refine wp_skip ?_
    refine hK2 _ _ ?_
    refine wp_seq_k fun K4 hK4 => ?_
    refine region_seq ?_  -- region 3
    refine L_op A rfl (by decide) rfl (y_move (A.get (s := 0) rfl) fun ac A => ?_)
    refine L_op A rfl (by decide) rfl (y_nilCheck (A.get (s := 5) rfl) fun ac A => ?_)
    refine L_op A rfl (by decide) rfl (y_fieldAddr (off := 1) (j := 1) (by kernel_rfl) (A.get (s := 6) rfl) (by first | rfl | omega) fun ac A => ?_)
    refine L_op A rfl (by decide) rfl (y_load (by kernel_rfl) (A.get (s := 7) rfl) ((cell_of (S.kp.heap' hp (by simp)) _).trans rfl) fun ac A => ?_)
    refine L_op A rfl (by decide) rfl (y_call1 (by kernel_rfl) rfl (A.get (s := 8) rfl) (callN (cloneP_ok (l := []) (v := .slice none 0 0) ((SlRep.nil 0 2 none).src (Holds.nil _)) (by simp)) fun v w H gG nN hf ac A => ?_))
    obtain _ := hf
    replace S : St _ _ _ H := (S.new gG nN).perm (by first | exact List.Perm.refl _ | (rw [List.append_assoc]; exact List.Perm.refl _) | (simp only [List.append_assoc, List.nil_append, List.append_nil]; exact List.Perm.refl _))
    refine L_op A rfl (by decide) rfl (y_assign (A.get (s := 9) rfl) fun ac A => ?_)
    replace A := A.keep [(0, .pointer (some ⟨p, 0, none⟩)), (2, v), (4, .bool false)] ⟨rfl, rfl, rfl, trivial⟩
    refine hK4 _ _ ?_
    exact wp_ret ⟨A.defers, _, res_run (rs := [.tmp 2]) (vs := [v]) rfl ⟨A.get rfl, trivial⟩, ⟨_, rfl, S.kp.to_gr, _, hf, S.newF⟩⟩

set_option maxRecDepth 20000 in
theorem empty_no (h : NoNet w r) : Calls Try.prog 34 #[r, .int .i64 a] w (RetN w (eqv (.int .i64 0))) := by
  rcases h with rfl | ⟨p, rfl, hp⟩
  · skip
    refine enter Try.func34 rfl (n := 56) rfl (Nat.le_of_ble_eq_true rfl) fun ac A => ?_
    have S : St _ _ _ [] := St.none w
    refine wp_seq_k fun K1 hK1 => ?_
    refine region_seq ?_  -- region 0
    refine L_op A rfl (by decide) rfl (y_assign rfl fun ac A => ?_)
    replace A := A.keep [(0, .pointer none), (1, .int .i64 a), (4, .int .i64 0)] ⟨rfl, rfl, rfl, trivial⟩
    refine hK1 _ _ ?_
    refine wp_seq_k fun K2 hK2 => ?_
    refine wp_seq_k fun K3 hK3 => ?_
    refine region_seq ?_  -- region 1
    refine L_op A rfl (by decide) rfl (y_move (A.get (s := 0) rfl) fun ac A => ?_)
    refine L_op A rfl (by decide) rfl (y_ptrNil (c := true) (by kernel_rfl) (A.get (s := 10) rfl) rfl rfl fun ac A => ?_)
    replace A := A.keep [(0, .pointer none), (1, .int .i64 a), (4, .int .i64 0), (11, .bool true)] ⟨rfl, rfl, rfl, rfl, trivial⟩
    refine hK3 _ _ ?_
    refine wp_cond_true (A.get rfl) ?_
    refine wp_seq_k fun K4 hK4 => ?_
    refine region_seq ?_  -- region 2
    refine L_op A rfl (by decide) rfl (y_assign rfl fun ac A => ?_)
    replace A := A.keep [(0, .pointer none), (1, .int .i64 a), (4, .int .i64 0), (11, .bool true)] ⟨rfl, rfl, rfl, rfl, trivial⟩
    refine hK4 _ _ ?_
    exact wp_ret ⟨A.defers, _, res_run (rs := [.tmp 4]) (vs := [.int .i64 0]) rfl ⟨A.get rfl, trivial⟩, ⟨_, rfl, S.kp.to_gr, [], ⟨rfl, rfl⟩, NewF.nil _ _⟩⟩
  · have hp : w.heap[p]? = some (.cells #[.int .i64 0, .slice none 0 0, .map none, .map none] 69 (0, 0)) := hp
    refine enter Try.func34 rfl (n := 56) rfl (Nat.le_of_ble_eq_true rfl) fun ac A => ?_
    have S : St _ _ _ [] := St.none w
    refine wp_seq_k fun K1 hK1 => ?_
    refine region_seq ?_  -- region 0
    refine L_op A rfl (by decide) rfl (y_assign rfl fun ac A => ?_)
    replace A := A.keep [(0, .pointer (some ⟨p, 0, none⟩)), (1, .int .i64 a), (4, .int .i64 0)] ⟨rfl, rfl, rfl, trivial⟩
    refine hK1 _ _ ?_
    refine wp_seq_k fun K2 hK2 => ?_
    refine wp_seq_k fun K3 hK3 => ?_
    refine region_seq ?_  -- region 1
    refine L_op A rfl (by decide) rfl (y_move (A.get (s := 0) rfl) fun ac A => ?_)
    refine L_op A rfl (by decide) rfl (y_ptrNil (c := false) (by kernel_rfl) (A.get (s := 10) rfl) rfl rfl fun ac A => ?_)
    replace A := A.keep [(0, .pointer (some ⟨p, 0, none⟩)), (1, .int .i64 a), (4, .int .i64 0), (11, .bool false)] ⟨rfl, rfl, rfl, rfl, trivial⟩
    refine hK3 _ _ ?_
    refine wp_cond_false (A.get rfl) ?_
    refine wp_skip ?_
    refine hK2 _ _ ?_
    refine wp_seq_k fun K4 hK4 => ?_
    refine region_seq ?_  -- region 3
    refine L_op A rfl (by decide) rfl (y_assign rfl fun ac A => ?_)
    replace A := A.keep [(0, .pointer (some ⟨p, 0, none⟩)), (1, .int .i64 a), (4, .int .i64 0), (5, .int .i64 0), (11, .bool false)] ⟨rfl, rfl, rfl, rfl, rfl, trivial⟩
    refine hK4 _ _ ?_
    refine wp_seq_k fun K5 hK5 => ?_
    refine wp_seq_k fun K6 hK6 => ?_
    refine region_seq ?_  -- region 4
    refine L_op A rfl (by decide) rfl (y_move (A.get (s := 0) rfl) fun ac A => ?_)
    refine L_op A rfl (by decide) rfl (y_nilCheck (A.get (s := 12) rfl) fun ac A => ?_)
    refine L_op A rfl (by decide) rfl (y_fieldAddr (off := 1) (j := 1) (by kernel_rfl) (A.get (s := 13) rfl) (by first | rfl | omega) fun ac A => ?_)
    refine L_op A rfl (by decide) rfl (y_load (by kernel_rfl) (A.get (s := 14) rfl) ((cell_of (S.kp.heap' hp (by simp)) _).trans rfl) fun ac A => ?_)
    refine L_op A rfl (by decide) rfl (y_lenS (e := 28) (by kernel_rfl) (A.get (s := 15) rfl) fun ac A => ?_)
    refine L_op A rfl (by decide) rfl (y_move rfl fun ac A => ?_)
    replace A := A.keep [(0, .pointer (some ⟨p, 0, none⟩)), (1, .int .i64 a), (4, .int .i64 0), (5, .int .i64 0), (11, .bool false), (15, .slice none 0 0), (16, .int .i64 0), (17, .int .i64 0)] ⟨rfl, rfl, rfl, rfl, rfl, rfl, rfl, rfl, trivial⟩
    refine hK6 _ _ ?_
    refine wp_block ?_
    replace A := A.keep [(5, .int .i64 0), (16, .int .i64 0), (17, .int .i64 0)] ⟨rfl, rfl, rfl, trivial⟩
    refine wp_loop_ghost (fun kk ac w' => kk = 0 ∧ Sl 56 ac [(5, .int .i64 0), (16, .int .i64 0), (17, .int .i64 0)] ∧ St [] w w' []) 0 ⟨rfl, A, S⟩ ?_
    clear A S
    rintro kk ac w2 ⟨-, A, S⟩
    refine wp_seq_k fun K7 hK7 => ?_
    refine region_seq ?_  -- region 5
    refine L_op A rfl (by decide) rfl (y_lss (A.get (s := 17) rfl) (A.get (s := 16) rfl) (c := false) (rfl) fun ac A => ?_)
    replace A := A.keep [(5, .int .i64 0), (16, .int .i64 0), (17, .int .i64 0), (18, .bool false)] ⟨rfl, rfl, rfl, rfl, trivial⟩
    refine hK7 _ _ ?_
    refine wp_seq_k fun K8 hK8 => ?_
    refine wp_cond_false (A.get rfl) ?_
    refine wp_exit ?_
    refine hK5 _ _ ?_
    refine wp_seq_k fun K9 hK9 => ?_
    refine region_seq ?_  -- region 15
    refine L_op A rfl (by decide) rfl (y_move (A.get (s := 5) rfl) fun ac A => ?_)
    refine L_op A rfl (by decide) rfl (y_assign (A.get (s := 55) rfl) fun ac A => ?_)
    replace A := A.keep [(4, .int .i64 0), (5, .int .i64 0), (16, .int .i64 0), (17, .int .i64 0), (18, .bool false)] ⟨rfl, rfl, rfl, rfl, rfl, trivial⟩
    refine hK9 _ _ ?_
    exact wp_ret ⟨A.defers, _, res_run (rs := [.tmp 4]) (vs := [.int .i64 0]) rfl ⟨A.get rfl, trivial⟩, ⟨_, rfl, S.kp.to_gr, [], ⟨rfl, rfl⟩, NewF.nil _ _⟩⟩
end
end Go.Proofs.Ytaeidblipdjgnaa
