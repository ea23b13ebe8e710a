import Derived.Test.YtaeidblipdjgnaaLink
import Derived.Test.YtaeidblipdjgnaaAppend
namespace Go.Proofs.Ytaeidblipdjgnaa
open Go.RowKit Go.Maps Go.WideMaps

/-! ### bytes -/
def u8v (b : UInt8) : Value := .int .u8 b.toNat
/-- bytes of one's own -/
def BRep (v : Value) (bs : List UInt8) (H : Frag) : Prop := SlRep 5 1 v bs.length (bs.map u8v) H
/-- bytes as they stand -/
def BSrc (w : World) (v : Value) (bs : List UInt8) : Prop := Src w 1 v bs.length (bs.map u8v)
theorem u8_one (bs : List UInt8) : ∀ q ∈ bs.map u8v, oneC q = true := by
  intro q hq; obtain ⟨b, _, rfl⟩ := List.mem_map.1 hq; rfl
theorem okU8 : AppOk Try.prog 31 5 1 1 (.int .u8 0) := ⟨by kernel_rfl, by kernel_rfl, by kernel_rfl, by kernel_rfl, rfl⟩
theorem okDG : AppOk Try.prog 82 85 2 32 (.agg #[.slice none 0 0, .bool false]) := ⟨by kernel_rfl, by kernel_rfl, by kernel_rfl, by kernel_rfl, rfl⟩
theorem okPS : AppOk Try.prog 36 28 2 16 (.agg #[.int .i64 0, .int .i64 0]) := ⟨by kernel_rfl, by kernel_rfl, by kernel_rfl, by kernel_rfl, rfl⟩
theorem BRep.src {w : World} {v : Value} {bs : List UInt8} {H : Frag} (h : BRep v bs H) (hh : Holds w H) : BSrc w v bs := by
  refine ⟨h.1, ?_⟩
  rcases h.2 with ⟨h0, _, a, rfl⟩ | ⟨b, cap, cs, rfl, rfl, _, _, htake⟩
  · exact Or.inl ⟨h0, a, 0, rfl⟩
  · refine Or.inr ⟨_, _, rfl, fun j hj => ?_⟩
    rw [add_eq, Nat.zero_add, cell_of hh.one]
    have : (cs.toList.take (bs.length * 1))[j]? = some (bs.map u8v)[j] := by rw [htake]; exact List.getElem?_eq_getElem hj
    rw [List.getElem?_take] at this
    split at this
    · simpa using this
    · simp at this
theorem BSrc.gr {w w' : World} {v : Value} {bs : List UInt8} (h : BSrc w v bs) (g : Gr w w') : BSrc w' v bs := Src.gr h g

/-- slices.Clone of bytes -/
theorem clone_ok {v : Value} {bs : List UInt8} {w : World} (hs : BSrc w v bs) (hl : bs.length ≤ 1099511627776) : Calls Try.prog 39 #[v] w (RetN w fun v' H => BRep v' bs H) := by
  have hv : ∃ a c, v = .slice a bs.length c := by
    rcases hs.2 with ⟨h0, a, c, rfl⟩ | ⟨a, c, rfl, _⟩
    · exact ⟨a, c, by rw [h0]⟩
    · exact ⟨_, _, rfl⟩
  obtain ⟨va, vc, rfl⟩ := hv
  cases hva : va with
  | none =>
    subst hva
    have hb : bs = [] := by
      rcases hs.2 with ⟨h0, _⟩ | ⟨a, c, h, _⟩
      · exact List.eq_nil_of_length_eq_zero h0
      · simp at h
    subst hb
    refine enter Try.func39 rfl (n := 8) rfl (Nat.le_of_ble_eq_true rfl) fun _ A => ?_
    have S : St _ _ _ [] := St.none w
    refine wp_seq_k fun K1 hK1 => ?_
    refine region_seq ?_  -- region 0
    refine La A rfl (evc _ _) fun _ A => ?_
    replace A := A.only [2, 0] rfl
    refine hK1 _ _ ?_
    refine wp_seq_k fun K2 hK2 => ?_
    refine wp_seq_k fun K3 hK3 => ?_
    refine region_seq ?_  -- region 1
    refine Lm A rfl (A.g 0 rfl) fun _ A => Lo A rfl (y_sliceNil (c := true) (e := 5) (by kernel_rfl) (A.g 3 rfl) (evc _ _) (rfl) fun _ A => ?_)
    replace A := A.only [4, 2, 0] rfl
    refine hK3 _ _ ?_
    refine wp_cond_true (A.get rfl) ?_
    refine wp_seq_k fun K4 hK4 => ?_
    refine region_seq ?_  -- region 2
    refine La A rfl (evc _ _) fun _ A => ?_
    replace A := A.only [4, 2, 0] rfl
    refine hK4 _ _ ?_
    exact wp_ret ⟨A.defers, _, res_run (rs := [.tmp 2]) (vs := [.slice none 0 0]) rfl ⟨A.get rfl, trivial⟩, ⟨_, rfl, S.kp.to_gr, [], SlRep.nil _ _ _, NewF.nil _ _⟩⟩
  | some ad =>
    subst hva
    refine enter Try.func39 rfl (n := 8) rfl (Nat.le_of_ble_eq_true rfl) fun _ A => ?_
    have S : St _ _ _ [] := St.none w
    refine wp_seq_k fun K1 hK1 => ?_
    refine region_seq ?_  -- region 0
    refine La A rfl (evc _ _) fun _ A => ?_
    replace A := A.only [2, 0] rfl
    refine hK1 _ _ ?_
    refine wp_seq_k fun K2 hK2 => ?_
    refine wp_seq_k fun K3 hK3 => ?_
    refine region_seq ?_  -- region 1
    refine Lm A rfl (A.g 0 rfl) fun _ A => Lo A rfl (y_sliceNil (c := false) (e := 5) (by kernel_rfl) (A.g 3 rfl) (evc _ _) (rfl) fun _ A => ?_)
    replace A := A.only [4, 2, 0] rfl
    refine hK3 _ _ ?_
    refine wp_cond_false (A.get rfl) ?_
    refine wp_skip ?_
    refine hK2 _ _ ?_
    refine wp_seq_k fun K4 hK4 => ?_
    refine region_seq ?_  -- region 3
    refine Lo A rfl (y_buildSlice0 (c := #[]) (e := 5)  (fun w => by kernel_rfl) fun b1 w gG nN ac A => ?_)
    replace S : St _ _ _ [(b1, .cells #[] 5 (0, 0))] := S.new gG nN
    refine Lm A rfl (A.g 0 rfl) fun _ A => Lo A rfl (y_append okU8 (by kernel_rfl) (A.g 5 rfl) (A.g 6 rfl) (H := []) S (SlRep.nil _ _ _) (hs.gr S.kp.to_gr) (u8_one bs) (by omega) (by omega) fun v' w H' hr S ac A => ?_)
    refine La A rfl (A.g 7 rfl) fun _ A => ?_
    replace A := A.only [4, 2, 0] rfl
    refine hK4 _ _ ?_
    exact wp_ret ⟨A.defers, _, res_run (rs := [.tmp 2]) (vs := [v']) rfl ⟨A.get rfl, trivial⟩, ⟨_, rfl, S.kp.to_gr, H', by simpa [BRep] using hr, S.app_left.newF⟩⟩

/-! ### a net -/
/-- what a net is: its nodes; its links, in their order; of each link whether it is cut; what is on its way, each datagram with whether it is spoilt -/
structure M where
  nodes : Int
  order : List (Int × Int)
  link : Int × Int → Option Bool
  q : Int × Int → List (List UInt8 × Bool)
def stv (c : Bool) : Value := .agg #[.bool c]
/-- a datagram as it lies in memory -/
structure It where
  v : Value
  bs : List UInt8
  sp : Bool
  H : Frag
def itCells (l : List It) : List Value := l.flatMap fun i => [i.v, .bool i.sp]
def itH (l : List It) : Frag := l.flatMap (·.H)
def itQ (l : List It) : List (List UInt8 × Bool) := l.map fun i => (i.bs, i.sp)
/-- a queue -/
def QRep (v : Value) (q : List (List UInt8 × Bool)) (H : Frag) : Prop :=
  ∃ its Hs, itQ its = q ∧ (∀ i ∈ its, BRep i.v i.bs i.H ∧ i.bs.length ≤ 512) ∧ SlRep 85 2 v its.length (itCells its) Hs ∧ H = Hs ++ itH its
/-- an entry of the queues -/
structure Qe where
  k : Int × Int
  v : Value
  q : List (List UInt8 × Bool)
  H : Frag
def qeH (l : List Qe) : Frag := l.flatMap (·.H)
def qeM (l : List Qe) : List ((Int × Int) × Value) := l.map fun e => (e.k, e.v)
def pairs (l : List (Int × Int)) : List Value := l.flatMap fun k => [.int .i64 k.1, .int .i64 k.2]
/-- the parts of a net in memory -/
structure NetP (m : M) (vo : Value) (Ho : Frag) (ol : Obj) (ls : List ((Int × Int) × Value)) (oq : Obj) (es : List Qe) : Prop where
  ord : SlRep 28 2 vo m.order.length (pairs m.order) Ho
  lm : MapIs Try.prog 28 kv ol ls
  lk : ∀ k, look ls k = (m.link k).map stv
  qm : MapIs Try.prog 28 kv oq (qeM es)
  ent : ∀ e ∈ es, e.q ≠ [] ∧ m.q e.k = e.q ∧ QRep e.v e.q e.H
  non : ∀ k, (∀ e ∈ es, e.k ≠ k) → m.q k = []
  few : ∀ k, (m.q k).length ≤ 24
  ols : m.order.length ≤ 1000000
def netC (m : M) (vo : Value) (rl rq : Nat) : Obj := .cells #[.int .i64 m.nodes, vo, .map (some rl), .map (some rq)] 69 (0, 0)
def NetRep (p : Nat) (m : M) (H : Frag) : Prop :=
  ∃ vo Ho rl ol ls rq oq es, NetP m vo Ho ol ls oq es ∧ H = (p, netC m vo rl rq) :: (rl, ol) :: (rq, oq) :: (Ho ++ qeH es)

theorem stv_link {m : M} {ls : List ((Int × Int) × Value)} (h : ∀ k, look ls k = (m.link k).map stv) (k : Int × Int) : (look ls k).getD (.agg #[.bool false]) = .agg #[.bool ((m.link k).getD false)] ∧ (look ls k).isSome = (m.link k).isSome := by
  rw [h k]; cases m.link k <;> simp [stv]

theorem qe_look {es : List Qe} {k : Int × Int} {v : Value} (h : look (qeM es) k = some v) : ∃ e ∈ es, e.k = k ∧ e.v = v := by
  induction es with
  | nil => simp [qeM, look_nil] at h
  | cons e r ih =>
    simp only [qeM, List.map_cons, look_cons] at h
    split at h
    · rename_i hk; simp at h; exact ⟨e, by simp, hk, h⟩
    · obtain ⟨e', he, h1, h2⟩ := ih h; exact ⟨e', by simp [he], h1, h2⟩
theorem qe_none {es : List Qe} {k : Int × Int} (h : look (qeM es) k = none) : ∀ e ∈ es, e.k ≠ k := by
  intro e he
  have := look_none_iff.1 h (e.k, e.v) (List.mem_map_of_mem (f := fun e : Qe => (e.k, e.v)) he)
  exact this
theorem itQ_length (l : List It) : (itQ l).length = l.length := by simp [itQ]
theorem QRep.len {v : Value} {q : List (List UInt8 × Bool)} {H : Frag} (h : QRep v q H) : ∃ a c, v = .slice a q.length c := by
  obtain ⟨its, Hs, rfl, _, h, _⟩ := h
  rw [itQ_length]; exact h.len
theorem NetP.lookq {m : M} {vo : Value} {Ho : Frag} {ol : Obj} {ls : List ((Int × Int) × Value)} {oq : Obj} {es : List Qe} (h : NetP m vo Ho ol ls oq es) (k : Int × Int) : ∃ a c, (look (qeM es) k).getD (.slice none 0 0) = .slice a (m.q k).length c := by
  cases hl : look (qeM es) k with
  | none => rw [h.non k (qe_none hl)]; exact ⟨none, 0, rfl⟩
  | some v =>
    obtain ⟨e, he, rfl, rfl⟩ := qe_look hl
    obtain ⟨_, h2, h3⟩ := h.ent e he
    rw [h2]; exact h3.len
theorem look_queue {w : World} {r : Nat} {o : Obj} {qs : List ((Int × Int) × Value)} (hb : w.heap[r]? = some o) (hm : MapIs Try.prog 28 kv o qs) (k : Int × Int) (hk : goodK k) {v : Value}
    (hc : (look qs k).getD (.slice none 0 0) = v) : (Instr.lookup 67 (.map (some r)) (kv k) false).run Try.prog w = .ok v w := by
  have := run_look (w := w) (t := 67) (e := 82) Try.lawK kv_inj Try.underlying67 (z := .slice none 0 0) (by kernel_rfl) hb hm k hk false
  rw [this, ← hc]; rfl

section
variable {p : Nat} {m : M} {H : Frag} {w : World} {a b : Int}
theorem nodes_ok (h : NetRep p m H) (hH : Holds w H) : Calls Try.prog 16 #[.pointer (some ⟨p, 0, none⟩)] w (RetN w (eqv (.int .i64 m.nodes))) := by
  obtain ⟨vo, Ho, rl, ol, ls, rq, oq, es, h, rfl⟩ := h
  have hp : w.heap[p]? = some (.cells #[.int .i64 m.nodes, vo, .map (some rl), .map (some rq)] 69 (0, 0)) := hH.one
  refine enter Try.func16 rfl (n := 9) rfl (Nat.le_of_ble_eq_true rfl) fun _ A => ?_
  have S : St _ _ _ [] := St.none w
  refine wp_seq_k fun K1 hK1 => ?_
  refine region_seq ?_  -- region 0
  refine La A rfl (evc _ _) fun _ A => ?_
  replace A := A.only [2, 0] rfl
  refine hK1 _ _ ?_
  refine wp_seq_k fun K2 hK2 => ?_
  refine wp_seq_k fun K3 hK3 => ?_
  refine region_seq ?_  -- region 1
  refine Lm A rfl (A.g 0 rfl) fun _ A => Lo A rfl (y_ptrNil (c := false) (by kernel_rfl) (A.g 3 rfl) (evc _ _) rfl fun _ A => ?_)
  replace A := A.only [4, 2, 0] rfl
  refine hK3 _ _ ?_
  refine wp_cond_false (A.get rfl) ?_
  refine wp_skip ?_
  refine hK2 _ _ ?_
  refine wp_seq_k fun K4 hK4 => ?_
  refine region_seq ?_  -- region 3
  refine Lm A rfl (A.g 0 rfl) fun _ A => Lo A rfl (y_nilCheck (A.g 5 rfl) fun _ A => ?_)
  refine Lo A rfl (y_fieldAddr (off := 0) (j := 0) (by kernel_rfl) (A.g 6 rfl) (by first | rfl | omega) fun _ A => ?_)
  refine Lo A rfl (y_load (by kernel_rfl) (A.g 7 rfl) ((cell_of (S.kp.heap' hp (by simp)) _).trans rfl) fun _ A => ?_)
  refine La A rfl (A.g 8 rfl) fun _ A => ?_
  replace A := A.only [4, 2, 0] rfl
  refine hK4 _ _ ?_
  exact wp_ret ⟨A.defers, _, res_run (rs := [.tmp 2]) (vs := [.int .i64 m.nodes]) rfl ⟨A.get rfl, trivial⟩, ⟨_, rfl, S.kp.to_gr, [], ⟨rfl, rfl⟩, NewF.nil _ _⟩⟩

set_option maxRecDepth 20000 in
theorem len_ok (h : NetRep p m H) (hH : Holds w H) (hk : goodK (a, b)) : Calls Try.prog 13 #[.pointer (some ⟨p, 0, none⟩), .int .i64 a, .int .i64 b] w (RetN w (eqv (.int .i64 (m.q (a, b)).length))) := by
  obtain ⟨vo, Ho, rl, ol, ls, rq, oq, es, h, rfl⟩ := h
  have hp : w.heap[p]? = some (.cells #[.int .i64 m.nodes, vo, .map (some rl), .map (some rq)] 69 (0, 0)) := hH.one
  have hq : w.heap[rq]? = some oq := hH.tail.tail.one
  obtain ⟨qa, qc, hl⟩ := h.lookq (a, b)
  refine enter Try.func13 rfl (n := 18) rfl (Nat.le_of_ble_eq_true rfl) fun _ A => ?_
  have S : St _ _ _ [] := St.none w
  refine wp_seq_k fun K1 hK1 => ?_
  refine region_seq ?_  -- region 0
  refine La A rfl (evc _ _) fun _ A => ?_
  replace A := A.only [6, 2, 1, 0] rfl
  refine hK1 _ _ ?_
  refine wp_seq_k fun K2 hK2 => ?_
  refine wp_seq_k fun K3 hK3 => ?_
  refine region_seq ?_  -- region 1
  refine Lm A rfl (A.g 0 rfl) fun _ A => Lo A rfl (y_ptrNil (c := false) (by kernel_rfl) (A.g 7 rfl) (evc _ _) rfl fun _ A => ?_)
  replace A := A.only [8, 6, 2, 1, 0] rfl
  refine hK3 _ _ ?_
  refine wp_cond_false (A.get rfl) ?_
  refine wp_skip ?_
  refine hK2 _ _ ?_
  refine wp_seq_k fun K4 hK4 => ?_
  refine region_seq ?_  -- region 3
  refine Lm A rfl (A.g 0 rfl) fun _ A => Lo A rfl (y_nilCheck (A.g 9 rfl) fun _ A => ?_)
  refine Lo A rfl (y_fieldAddr (off := 3) (j := 3) (by kernel_rfl) (A.g 10 rfl) (by first | rfl | omega) fun _ A => ?_)
  refine Lo A rfl (y_load (by kernel_rfl) (A.g 11 rfl) ((cell_of (S.kp.heap' hp (by simp)) _).trans rfl) fun _ A => ?_)
  replace A := A.only [12, 8, 6, 2, 1, 0] rfl
  refine Lm A rfl (A.g 1 rfl) fun _ A => Lm A rfl (A.g 2 rfl) fun _ A => Lo A rfl (y_build2 (A.g 13 rfl) (A.g 14 rfl) (v := .agg #[.int .i64 a, .int .i64 b]) (by kernel_rfl) fun _ A => ?_)
  refine Lo A rfl (y_lookup (A.g 12 rfl) (A.g 15 rfl) (look_queue (S.kp.heap' hq (by simp)) h.qm (a, b) hk hl) fun _ A => ?_)
  replace A := A.only [16, 8, 6, 2, 1, 0] rfl
  refine Lo A rfl (y_lenS (e := 85) (by kernel_rfl) (A.g 16 rfl) fun _ A => ?_)
  refine La A rfl (A.g 17 rfl) fun _ A => ?_
  replace A := A.only [8, 6, 2, 1, 0] rfl
  refine hK4 _ _ ?_
  exact wp_ret ⟨A.defers, _, res_run (rs := [.tmp 6]) (vs := [.int .i64 ((m.q (a, b)).length)]) rfl ⟨A.get rfl, trivial⟩, ⟨_, rfl, S.kp.to_gr, [], ⟨rfl, rfl⟩, NewF.nil _ _⟩⟩

/-- is there a link, and is it open? -/
def M.open' (m : M) (a b : Int) : Bool := (m.link (ends a b)).isSome && !((m.link (ends a b)).getD false)
set_option maxRecDepth 20000 in
theorem open_ok (h : NetRep p m H) (hH : Holds w H) (hk : goodK (ends a b)) : Calls Try.prog 17 #[.pointer (some ⟨p, 0, none⟩), .int .i64 a, .int .i64 b] w (RetN w (eqv (.bool (m.open' a b)))) := by
  obtain ⟨vo, Ho, rl, ol, ls, rq, oq, es, h, rfl⟩ := h
  have hp : w.heap[p]? = some (.cells #[.int .i64 m.nodes, vo, .map (some rl), .map (some rq)] 69 (0, 0)) := hH.one
  have hl : w.heap[rl]? = some ol := hH.tail.one
  obtain ⟨hc, ho⟩ := stv_link h.lk (ends a b)
  unfold M.open'
  cases hs : (m.link (ends a b)).isSome with
  | false =>
    rw [hs] at ho
    refine enter Try.func17 rfl (n := 22) rfl (Nat.le_of_ble_eq_true rfl) fun _ A => ?_
    have S : St _ _ _ [] := St.none w
    refine wp_seq_k fun K1 hK1 => ?_
    refine region_seq ?_  -- region 0
    refine La A rfl (evc _ _) fun _ A => ?_
    replace A := A.only [6, 2, 1, 0] rfl
    refine hK1 _ _ ?_
    refine wp_seq_k fun K2 hK2 => ?_
    refine region_seq ?_  -- region 1
    refine Lm A rfl (A.g 0 rfl) fun _ A => Lm A rfl (A.g 1 rfl) fun _ A => Lm A rfl (A.g 2 rfl) fun _ A => Lo A rfl (y_call3 (by kernel_rfl) rfl (A.g 10 rfl) (A.g 11 rfl) (A.g 12 rfl) (callN (link_ok (S.kp.heap' hp (by simp)) (S.kp.heap' hl (by simp)) h.lm hk hc ho) fun v w H gG nN hf ac A => ?_))
    obtain ⟨rfl, rfl⟩ := hf
    replace S : St _ _ _ [] := S.new gG nN
    replace A := A.only [13, 6, 2, 1, 0] rfl
    refine Lm A rfl (A.g 13 rfl) fun _ A => Lo A rfl (y_extract (A.g 9 rfl) rfl fun _ A => ?_)
    refine Lo A rfl (y_extract (A.g 9 rfl) rfl fun _ A => ?_)
    refine Lo A rfl (y_allocN (z := .agg #[.bool false]) (by kernel_rfl) fun b1 w gG nN ac A => ?_)
    replace S : St _ _ _ [(b1, .cells #[.bool false] 79 (0, 0))] := S.new gG nN
    replace A := A.only [15, 14, 7, 6, 2, 1, 0] rfl
    refine L_opN A rfl rfl (y_store 1 (by kernel_rfl) (A.g 7 rfl) (A.g 14 rfl) (S.get 0 rfl) rfl (Nat.le_of_ble_eq_true rfl) (one_all rfl) ?_)
    replace S : St _ _ _ [(b1, .cells #[.bool (((m.link (ends a b)).getD false))] 79 (0, 0))] := S.setAt 0 rfl _
    refine La A rfl (A.g 15 rfl) fun _ A => ?_
    replace A := A.only [8, 7, 6, 2, 1, 0] rfl
    refine hK2 _ _ ?_
    refine wp_seq_k fun K3 hK3 => ?_
    refine region_seq ?_  -- region 2
    refine Lm A rfl (A.g 8 rfl) fun _ A => Lm A rfl (A.g 16 rfl) fun _ A => L_no A rfl (by decide) rfl rfl (by decide) (A.get rfl) (by decide) fun _ A => ?_
    refine L_no A rfl (by decide) rfl rfl (by decide) (A.get rfl) (by decide) fun _ A => ?_
    replace A := A.only [19, 17, 8, 7, 6, 2, 1, 0] rfl
    refine L_no A rfl (by decide) rfl rfl (by decide) (A.get rfl) (by decide) fun _ A => ?_
    refine Lo A rfl (y_pickF (A.g 17 rfl) (evc _ _) fun _ A => ?_)
    refine La A rfl (A.g 21 rfl) fun _ A => ?_
    replace A := A.only [8, 7, 6, 2, 1, 0] rfl
    refine hK3 _ _ ?_
    exact wp_ret ⟨A.defers, _, res_run (rs := [.tmp 6]) (vs := [.bool false]) rfl ⟨A.get rfl, trivial⟩, ⟨_, rfl, S.kp.to_gr, [], ⟨rfl, rfl⟩, NewF.nil _ _⟩⟩
  | true =>
    rw [hs] at ho
    refine enter Try.func17 rfl (n := 22) rfl (Nat.le_of_ble_eq_true rfl) fun _ A => ?_
    have S : St _ _ _ [] := St.none w
    refine wp_seq_k fun K1 hK1 => ?_
    refine region_seq ?_  -- region 0
    refine La A rfl (evc _ _) fun _ A => ?_
    replace A := A.only [6, 2, 1, 0] rfl
    refine hK1 _ _ ?_
    refine wp_seq_k fun K2 hK2 => ?_
    refine region_seq ?_  -- region 1
    refine Lm A rfl (A.g 0 rfl) fun _ A => Lm A rfl (A.g 1 rfl) fun _ A => Lm A rfl (A.g 2 rfl) fun _ A => Lo A rfl (y_call3 (by kernel_rfl) rfl (A.g 10 rfl) (A.g 11 rfl) (A.g 12 rfl) (callN (link_ok (S.kp.heap' hp (by simp)) (S.kp.heap' hl (by simp)) h.lm hk hc ho) fun v w H gG nN hf ac A => ?_))
    obtain ⟨rfl, rfl⟩ := hf
    replace S : St _ _ _ [] := S.new gG nN
    replace A := A.only [13, 6, 2, 1, 0] rfl
    refine Lm A rfl (A.g 13 rfl) fun _ A => Lo A rfl (y_extract (A.g 9 rfl) rfl fun _ A => ?_)
    refine Lo A rfl (y_extract (A.g 9 rfl) rfl fun _ A => ?_)
    refine Lo A rfl (y_allocN (z := .agg #[.bool false]) (by kernel_rfl) fun b1 w gG nN ac A => ?_)
    replace S : St _ _ _ [(b1, .cells #[.bool false] 79 (0, 0))] := S.new gG nN
    replace A := A.only [15, 14, 7, 6, 2, 1, 0] rfl
    refine L_opN A rfl rfl (y_store 1 (by kernel_rfl) (A.g 7 rfl) (A.g 14 rfl) (S.get 0 rfl) rfl (Nat.le_of_ble_eq_true rfl) (one_all rfl) ?_)
    replace S : St _ _ _ [(b1, .cells #[.bool (((m.link (ends a b)).getD false))] 79 (0, 0))] := S.setAt 0 rfl _
    refine La A rfl (A.g 15 rfl) fun _ A => ?_
    replace A := A.only [8, 7, 6, 2, 1, 0] rfl
    refine hK2 _ _ ?_
    refine wp_seq_k fun K3 hK3 => ?_
    refine region_seq ?_  -- region 2
    refine Lm A rfl (A.g 8 rfl) fun _ A => Lm A rfl (A.g 16 rfl) fun _ A => L_yes A rfl (by decide) rfl rfl (by decide) (A.get rfl) (y_fieldAddr (off := 0) (j := 0) (by kernel_rfl) (A.g 7 rfl) (by first | rfl | omega) fun _ A => ?_)
    refine L_yes A rfl (by decide) rfl rfl (by decide) (A.get rfl) (y_load (by kernel_rfl) (A.g 18 rfl) ((cell_of (S.get 0 rfl) _).trans rfl) fun _ A => ?_)
    replace A := A.only [19, 17, 8, 7, 6, 2, 1, 0] rfl
    refine L_yes A rfl (by decide) rfl rfl (by decide) (A.get rfl) (y_not (A.g 19 rfl) rfl fun _ A => ?_)
    refine Lo A rfl (y_pickT (A.g 17 rfl) (A.g 20 rfl) fun _ A => ?_)
    refine La A rfl (A.g 21 rfl) fun _ A => ?_
    replace A := A.only [8, 7, 6, 2, 1, 0] rfl
    refine hK3 _ _ ?_
    exact wp_ret ⟨A.defers, _, res_run (rs := [.tmp 6]) (vs := [.bool (!(((m.link (ends a b)).getD false)))]) rfl ⟨A.get rfl, trivial⟩, ⟨_, rfl, S.kp.to_gr, [], ⟨rfl, rfl⟩, NewF.nil _ _⟩⟩
end
end Go.Proofs.Ytaeidblipdjgnaa
