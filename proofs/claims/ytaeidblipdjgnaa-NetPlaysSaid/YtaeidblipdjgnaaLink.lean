import Derived.Test.YtaeidblipdjgnaaRows
import Derived.Test.YtaeidblipdjgnaaOps
import Derived.DeepKeys4
namespace Go.Proofs.Ytaeidblipdjgnaa
open Go.RowKit Go.Maps Go.WideMaps

def kv (k : Int × Int) : Value := .agg #[.int .i64 k.1, .int .i64 k.2]
theorem kv_inj (a b : Int × Int) (h : kv a = kv b) : a = b := by
  cases a; cases b; simp [kv] at h; simp [h]
theorem Try.laidOut : laidOutB Try.prog = true := by kernel_rfl
theorem Try.rowK : (28 : TypeId) < Try.prog.types.size := of_decide_eq_true (by kernel_rfl)
theorem Try.wideK : (match Try.prog.underlying 28 with | some (.array _ _) | some (.struct _) => true | _ => false) = true := by rw [Try.underlying28]
theorem Try.lawK : Keyed Try.prog 28 := Keyed.of_law (deep_law_laid Try.laidOut (m := 2) (by omega) Try.rowK (by kernel_rfl) Try.wideK)

/-- both ends of a link, the lesser first -/
def ends (a b : Int) : Int × Int := (min a b, max a b)
theorem ends_ok (a b : Int) (w : World) : Calls Try.prog 37 #[.int .i64 a, .int .i64 b] w (RetN w (eqv (kv (ends a b)))) := by
  refine enter Try.func37 rfl (n := 12) rfl (Nat.le_of_ble_eq_true rfl) fun _ A => ?_
  have S : St _ _ _ [] := St.none w
  refine wp_seq_k fun K1 hK1 => ?_
  refine region_seq ?_  -- region 0
  refine Lo A rfl (y_allocN (z := .agg #[.int .i64 0, .int .i64 0]) (by kernel_rfl) fun b1 w gG nN ac A => ?_)
  replace S : St _ _ _ [(b1, .cells #[.int .i64 0, .int .i64 0] 28 (0, 0))] := S.new gG nN
  replace A := A.only [4, 1, 0] rfl
  refine hK1 _ _ ?_
  refine wp_seq_k fun K2 hK2 => ?_
  refine region_seq ?_  -- region 1
  refine Lm A rfl (A.g 0 rfl) fun _ A => Lm A rfl (A.g 1 rfl) fun _ A => Lo A rfl (y_min (A.g 5 rfl) (A.g 6 rfl) rfl fun _ A => ?_)
  refine Lm A rfl (A.g 0 rfl) fun _ A => ?_
  replace A := A.only [8, 7, 4, 1, 0] rfl
  refine Lm A rfl (A.g 1 rfl) fun _ A => Lo A rfl (y_max (A.g 8 rfl) (A.g 9 rfl) rfl fun _ A => ?_)
  refine Lo A rfl (y_build2 (A.g 7 rfl) (A.g 10 rfl) (v := .agg #[.int .i64 (min a b), .int .i64 (max a b)]) (by kernel_rfl) fun _ A => ?_)
  refine L_opN A rfl rfl (y_store 2 (by kernel_rfl) (A.g 4 rfl) (A.g 11 rfl) (S.get 0 rfl) rfl (Nat.le_of_ble_eq_true rfl) (one_all rfl) ?_)
  replace S : St _ _ _ [(b1, .cells #[.int .i64 (min a b), .int .i64 (max a b)] 28 (0, 0))] := S.setAt 0 rfl _
  replace A := A.only [4, 1, 0] rfl
  refine hK2 _ _ ?_
  exact wp_ret ⟨A.defers, _, res_run (rs := [.cell 4 28]) (vs := [.agg #[.int .i64 (min a b), .int .i64 (max a b)]]) rfl ⟨⟨_, A.get rfl, ld_agg (vs := [.int .i64 (min a b), .int .i64 (max a b)]) (by kernel_rfl) (S.get 0 rfl) (by intro j hj; revert j; exact ld_all rfl)⟩, trivial⟩, ⟨_, rfl, S.kp.to_gr, [], ⟨rfl, rfl⟩, NewF.nil _ _⟩⟩

def goodK (k : Int × Int) : Prop := ∃ l, keyOf Try.prog 28 (kv k) = some l
theorem look_link {w : World} {r : Nat} {o : Obj} {ls : List ((Int × Int) × Value)} (hb : w.heap[r]? = some o) (hm : MapIs Try.prog 28 kv o ls) (k : Int × Int) (hk : goodK k) {c ok : Bool}
    (hc : (look ls k).getD (.agg #[.bool false]) = .agg #[.bool c]) (ho : (look ls k).isSome = ok) : (Instr.lookup 66 (.map (some r)) (kv k) true).run Try.prog w = .ok (.tuple #[.agg #[.bool c], .bool ok]) w := by
  have := run_look (w := w) (t := 66) (e := 79) Try.lawK kv_inj Try.underlying66 (z := .agg #[.bool false]) (by kernel_rfl) hb hm k hk true
  rw [this, hc, ho]; rfl

set_option maxRecDepth 20000 in
theorem link_ok {p rl : Nat} {vn vo vq : Value} {ol : Obj} {ls : List ((Int × Int) × Value)} {a b : Int} {w : World} (hp : w.heap[p]? = some (.cells #[vn, vo, .map (some rl), vq] 69 (0, 0)))
    (hl : w.heap[rl]? = some ol) (hm : MapIs Try.prog 28 kv ol ls) (hk : goodK (ends a b)) {c ok : Bool} (hc : (look ls (ends a b)).getD (.agg #[.bool false]) = .agg #[.bool c]) (ho : (look ls (ends a b)).isSome = ok) :
    Calls Try.prog 38 #[.pointer (some ⟨p, 0, none⟩), .int .i64 a, .int .i64 b] w (RetN w (eqv (.tuple #[.agg #[.bool c], .bool ok]))) := by
  refine enter Try.func38 rfl (n := 26) rfl (Nat.le_of_ble_eq_true rfl) fun _ A => ?_
  have S : St _ _ _ [] := St.none w
  refine wp_seq_k fun K1 hK1 => ?_
  refine region_seq ?_  -- region 0
  refine Lo A rfl (y_allocN (z := .agg #[.bool false]) (by kernel_rfl) fun b1 w gG nN ac A => ?_)
  replace S : St _ _ _ [(b1, .cells #[.bool false] 79 (0, 0))] := S.new gG nN
  refine La A rfl (evc _ _) fun _ A => ?_
  replace A := A.only [7, 6, 2, 1, 0] rfl
  refine hK1 _ _ ?_
  refine wp_seq_k fun K2 hK2 => ?_
  refine wp_seq_k fun K3 hK3 => ?_
  refine region_seq ?_  -- region 1
  refine Lm A rfl (A.g 0 rfl) fun _ A => Lo A rfl (y_ptrNil (c := false) (by kernel_rfl) (A.g 10 rfl) (evc _ _) rfl fun _ A => ?_)
  replace A := A.only [11, 7, 6, 2, 1, 0] rfl
  refine hK3 _ _ ?_
  refine wp_cond_false (A.get rfl) ?_
  refine wp_skip ?_
  refine hK2 _ _ ?_
  refine wp_seq_k fun K4 hK4 => ?_
  refine region_draw A [⟨14, pl (eqv (.pointer (some ⟨p, 0, none⟩))), [], [0], none, false⟩, ⟨15, pl (eqv (.pointer (some ⟨p, 0, none⟩))), [0], [], none, false⟩, ⟨16, pl (eqv (.pointer (some ⟨p, 2, none⟩))), [1], [], none, false⟩, ⟨17, pl (eqv (.map (some rl))), [2], [], none, false⟩, ⟨18, pl (eqv (.int .i64 a)), [], [1], none, false⟩, ⟨19, pl (eqv (.int .i64 b)), [], [2], none, false⟩, ⟨20, pl (eqv (kv (ends a b))), [4, 5], [], none, false⟩, ⟨21, pl (eqv (.tuple #[.agg #[.bool c], .bool ok])), [3, 6], [], none, false⟩, ⟨13, pl (eqv (.tuple #[.agg #[.bool c], .bool ok])), [7], [], none, false⟩, ⟨22, pl (eqv (.agg #[.bool c])), [8], [], none, false⟩, ⟨23, pl (eqv (.bool ok)), [8], [], none, true⟩, ⟨8, pl (blk (.cells #[.bool false] 79)), [], [], none, false⟩] [(12, false), (13, false)] (by kernel_rfl) (by kernel_rfl) (fun d _ _ _ _ h => by cases d <;> exact h) ⟨?_, ?_, ?_, ?_, ?_, ?_, ?_, ?_, ?_, ?_, ?_, ?_, trivial⟩ ?_  -- region 3
  · refine due_plain fun ρ w1 G hsrc hold => ?_; obtain ⟨o0, -⟩ := hold; exact y_move (o0.trans (A.g 0 rfl)) y_eq
  · refine due_plain fun ρ w1 G hsrc hold => ?_; obtain ⟨⟨_, _, ⟨h14, -⟩, -⟩, -⟩ := hsrc; exact y_nilCheck h14 y_eq
  · refine due_plain fun ρ w1 G hsrc hold => ?_; obtain ⟨⟨_, _, ⟨h15, -⟩, -⟩, -⟩ := hsrc; exact y_fieldAddr (off := 2) (j := 2) (by kernel_rfl) h15 (by first | rfl | omega) y_eq
  · refine due_plain fun ρ w1 G hsrc hold => ?_; obtain ⟨⟨_, _, ⟨h16, -⟩, -⟩, -⟩ := hsrc; exact y_load (by kernel_rfl) h16 ((cell_of (G.gr.heap' (S.kp.heap' hp (by simp))) _).trans rfl) y_eq
  · refine due_plain fun ρ w1 G hsrc hold => ?_; obtain ⟨o1, -⟩ := hold; exact y_move (o1.trans (A.g 1 rfl)) y_eq
  · refine due_plain fun ρ w1 G hsrc hold => ?_; obtain ⟨o2, -⟩ := hold; exact y_move (o2.trans (A.g 2 rfl)) y_eq
  · refine due_plain fun ρ w1 G hsrc hold => ?_; obtain ⟨⟨_, _, ⟨h18, -⟩, -⟩, ⟨_, _, ⟨h19, -⟩, -⟩, -⟩ := hsrc; exact y_call2 (by kernel_rfl) (G.func _) h18 h19 (ends_ok a b w1)
  · refine due_plain fun ρ w1 G hsrc hold => ?_; obtain ⟨⟨_, _, ⟨h17, -⟩, -⟩, ⟨_, _, ⟨h20, -⟩, -⟩, -⟩ := hsrc; exact y_lookup h17 h20 (look_link (G.gr.heap' (S.kp.heap' hl (by simp))) hm (ends a b) hk hc ho) y_eq
  · refine due_plain fun ρ w1 G hsrc hold => ?_; obtain ⟨⟨_, _, ⟨h21, -⟩, -⟩, -⟩ := hsrc; exact y_move h21 y_eq
  · refine due_plain fun ρ w1 G hsrc hold => ?_; obtain ⟨⟨_, _, ⟨h13, -⟩, -⟩, -⟩ := hsrc; exact y_extract h13 rfl y_eq
  · refine due_pure fun ρ w1 G hsrc hold => ?_; obtain ⟨⟨_, _, ⟨h13, -⟩, -⟩, -⟩ := hsrc; exact ⟨_, (fun w1 => r_extract h13 rfl), rfl, rfl⟩
  · refine due_plain fun ρ w1 G hsrc hold => ?_; exact y_alloc (z := .agg #[.bool false]) (by kernel_rfl) y_blk
  rintro _ _ ⟨rfl, rfl⟩ _ _ ⟨rfl, rfl⟩ _ _ ⟨rfl, rfl⟩ _ _ ⟨rfl, rfl⟩ _ _ ⟨rfl, rfl⟩ _ _ ⟨rfl, rfl⟩ _ _ ⟨rfl, rfl⟩ _ _ ⟨rfl, rfl⟩ _ _ ⟨rfl, rfl⟩ _ _ ⟨rfl, rfl⟩ _ _ ⟨rfl, rfl⟩ _ _ ⟨b2, rfl, rfl⟩
  intro ac w A gG nN
  replace S : St _ _ _ [(b2, .cells #[.bool false] 79 (0, 0)), (b1, .cells #[.bool false] 79 (0, 0))] := S.new gG nN
  refine L_opN A rfl rfl (y_store 1 (by kernel_rfl) (A.g 8 rfl) (A.g 22 rfl) (S.get 0 rfl) rfl (Nat.le_of_ble_eq_true rfl) (one_all rfl) ?_)
  replace S : St _ _ _ [(b2, .cells #[.bool c] 79 (0, 0)), (b1, .cells #[.bool false] 79 (0, 0))] := S.setAt 0 rfl _
  refine La A rfl (A.g 23 rfl) fun _ A => ?_
  replace A := A.only [11, 9, 8, 7, 6, 2, 1, 0] rfl
  refine hK4 _ _ ?_
  refine wp_seq_k fun K5 hK5 => ?_
  refine region_seq ?_  -- region 4
  refine Lo A rfl (y_loadAgg [.bool c] (by kernel_rfl) (A.g 8 rfl) (cells_at (S.get 0 rfl) rfl) fun _ A => ?_)
  refine Lm A rfl (A.g 9 rfl) fun _ A => L_opN A rfl rfl (y_store 1 (by kernel_rfl) (A.g 6 rfl) (A.g 24 rfl) (S.get 1 rfl) rfl (Nat.le_of_ble_eq_true rfl) (one_all rfl) ?_)
  replace S : St _ _ _ [(b2, .cells #[.bool c] 79 (0, 0)), (b1, .cells #[.bool c] 79 (0, 0))] := S.setAt 1 rfl _
  refine La A rfl (A.g 25 rfl) fun _ A => ?_
  replace A := A.only [11, 9, 8, 7, 6, 2, 1, 0] rfl
  refine hK5 _ _ ?_
  exact wp_ret ⟨A.defers, _, res_run (rs := [.cell 6 79, .tmp 7]) (vs := [.agg #[.bool c], .bool ok]) rfl ⟨⟨_, A.get rfl, ld_agg (vs := [.bool c]) (by kernel_rfl) (S.get 1 rfl) (by intro j hj; revert j; exact ld_all rfl)⟩, A.get rfl, trivial⟩, ⟨_, rfl, S.kp.to_gr, [], ⟨rfl, rfl⟩, NewF.nil _ _⟩⟩
end Go.Proofs.Ytaeidblipdjgnaa
