import Derived.Test.YtaeidblipdjgnaaActs
namespace Go.Proofs.Ytaeidblipdjgnaa
open Go.RowKit Go.Maps Go.WideMaps

/-- a datagram of the document's net -/
structure Dg where
  f : Int
  t : Int
  bs : List UInt8
  sp : Bool
/-- as it lies in memory -/
structure Dm where
  d : Dg
  v : Value
  H : Frag
def gmCells (l : List Dm) : List Value := l.flatMap fun g => [.int .i64 g.d.f, .int .i64 g.d.t, g.v, .bool g.d.sp]
def gmH (l : List Dm) : Frag := l.flatMap (·.H)
def gmD (l : List Dm) : List Dg := l.map (·.d)
def DmOk (l : List Dm) : Prop := ∀ g ∈ l, BRep g.v g.d.bs g.H ∧ g.d.bs.length ≤ 512
/-- the document's net -/
structure RM where
  n : Int
  links : List (Int × Int)
  cuts : List Bool
  way : List Dg
structure RefP (R : RM) (vl : Value) (Hl : Frag) (vc : Value) (Hc : Frag) (vw : Value) (Hw : Frag) (gs : List Dm) : Prop where
  links : SlRep 28 2 vl R.links.length (pairs R.links) Hl
  cuts : SlRep 4 1 vc R.cuts.length (R.cuts.map Value.bool) Hc
  way : SlRep 93 4 vw gs.length (gmCells gs) Hw
  gd : gmD gs = R.way
  ok : DmOk gs
  few : R.links.length ≤ 300
  same : R.cuts.length = R.links.length
def refC (R : RM) (vl vc vw : Value) : Obj := .cells #[.int .i64 R.n, vl, vc, vw] 64 (0, 0)
def RefRep (p : Nat) (R : RM) (H : Frag) : Prop := ∃ vl Hl vc Hc vw Hw gs, RefP R vl Hl vc Hc vw Hw gs ∧ H = (p, refC R vl vc vw) :: (Hl ++ (Hc ++ (Hw ++ gmH gs)))
/-- as it stands, for those that only look -/
structure RefS (w : World) (p : Nat) (R : RM) (la : Option Addr) (lc : Nat) (ca : Option Addr) (cc : Nat) (wa : Option Addr) (wc : Nat) (gs : List Dm) : Prop where
  hp : w.heap[p]? = some (.cells #[.int .i64 R.n, .slice la R.links.length lc, .slice ca R.cuts.length cc, .slice wa gs.length wc] 64 (0, 0))
  links : Src w 2 (.slice la R.links.length lc) R.links.length (pairs R.links)
  cuts : Src w 1 (.slice ca R.cuts.length cc) R.cuts.length (R.cuts.map Value.bool)
  way : Src w 4 (.slice wa gs.length wc) gs.length (gmCells gs)
  gd : gmD gs = R.way
  bs : ∀ g ∈ gs, BSrc w g.v g.d.bs ∧ g.d.bs.length ≤ 512
  few : R.links.length ≤ 300
  same : R.cuts.length = R.links.length
theorem RefRep.src {p : Nat} {R : RM} {H : Frag} {w : World} (h : RefRep p R H) (hH : Holds w H) : ∃ la lc ca cc wa wc gs, RefS w p R la lc ca cc wa wc gs := by
  obtain ⟨vl, Hl, vc, Hc, vw, Hw, gs, h, rfl⟩ := h
  obtain ⟨la, lc, rfl⟩ := h.links.len
  obtain ⟨ca, cc, rfl⟩ := h.cuts.len
  obtain ⟨wa, wc, rfl⟩ := h.way.len
  obtain ⟨h1, h2⟩ := Holds.app.1 hH.tail
  obtain ⟨h3, h4⟩ := Holds.app.1 h2
  obtain ⟨h5, h6⟩ := Holds.app.1 h4
  exact ⟨la, lc, ca, cc, wa, wc, gs, hH.one, h.links.src h1, h.cuts.src h3, h.way.src h5, h.gd, fun g hg => ⟨BRep.src (h.ok g hg).1 (fun x hx => h6 x (List.mem_flatMap.2 ⟨g, hg, hx⟩)), (h.ok g hg).2⟩, h.few, h.same⟩
theorem RefS.gr {w w' : World} {p : Nat} {R : RM} {la : Option Addr} {lc : Nat} {ca : Option Addr} {cc : Nat} {wa : Option Addr} {wc : Nat} {gs : List Dm} (h : RefS w p R la lc ca cc wa wc gs) (g : Gr w w') : RefS w' p R la lc ca cc wa wc gs :=
  ⟨g.heap' h.hp, h.links.gr g, h.cuts.gr g, h.way.gr g, h.gd, fun x hx => ⟨(h.bs x hx).1.gr g, (h.bs x hx).2⟩, h.few, h.same⟩
theorem gmCells_len (l : List Dm) : (gmCells l).length = l.length * 4 := by
  induction l with
  | nil => rfl
  | cons g r ih => simp only [gmCells, List.flatMap_cons, List.length_append, List.length_cons, List.length_nil] at ih ⊢; omega
theorem gmCells_get : ∀ {l : List Dm} {i : Nat} {g : Dm}, l[i]? = some g → ∀ j (_ : j < 4), (gmCells l)[i * 4 + j]? = [Value.int .i64 g.d.f, .int .i64 g.d.t, g.v, .bool g.d.sp][j]?
  | [], i, g, h, _, _ => by simp at h
  | x :: r, 0, g, h, j, hj => by
    simp only [List.getElem?_cons_zero, Option.some.injEq] at h; subst h
    simp only [gmCells, List.flatMap_cons]
    rw [List.getElem?_append_left (by simp; omega)]; simp
  | x :: r, i + 1, g, h, j, hj => by
    simp only [List.getElem?_cons_succ] at h
    have := gmCells_get h j hj
    simp only [gmCells, List.flatMap_cons] at this ⊢
    rw [List.getElem?_append_right (by simp; omega), show (i + 1) * 4 + j - _ = i * 4 + j by simp; omega]; exact this
theorem gm_row {w : World} {v : Value} {l : List Dm} (hs : Src w 4 v l.length (gmCells l)) {i : Nat} {g : Dm} (hl : l[i]? = some g) : ∃ va vc, v = .slice (some va) l.length vc ∧ ∀ j (hj : j < [Value.int .i64 g.d.f, .int .i64 g.d.t, g.v, .bool g.d.sp].length), w.cell? ((va.add (((i : Nat) : Int).toNat * 4)).add j) = some [Value.int .i64 g.d.f, .int .i64 g.d.t, g.v, .bool g.d.sp][j] := by
  have hi := lt_of_get hl
  obtain ⟨va, vc, hv, hc⟩ := hs.row hi
  refine ⟨va, vc, hv, fun j hj => ?_⟩
  simp only [Int.toNat_natCast]
  have hj4 : j < 4 := hj
  have hlen := gmCells_len l
  rw [hc j hj4 (by omega)]
  refine (List.getElem?_eq_getElem (by omega)).symm.trans ((gmCells_get hl j hj4).trans (List.getElem?_eq_getElem hj))
theorem cut_at {w : World} {v : Value} {l : List Bool} (hs : Src w 1 v l.length (l.map Value.bool)) {i : Nat} {c : Bool} (hl : l[i]? = some c) : ∃ va vc, v = .slice (some va) l.length vc ∧ w.cell? (va.add (((i : Nat) : Int).toNat * 1)) = some (.bool c) := by
  have hi := lt_of_get hl
  obtain ⟨va, vc, hv, hc⟩ := hs.row hi
  refine ⟨va, vc, hv, ?_⟩
  have := hc 0 (by omega) (by simp; omega)
  rw [Addr.add_add'] at this
  simp only [Int.toNat_natCast]
  rw [show i * 1 = i * 1 + 0 by omega, this]
  rw [List.getElem?_eq_getElem hi] at hl
  simp [Option.some.inj hl]
theorem gs_get {R : RM} {gs : List Dm} (h : gmD gs = R.way) {i : Nat} {g : Dm} (hg : gs[i]? = some g) : R.way[i]? = some g.d := by rw [← h]; simp [gmD, hg]
def hitl (a b : Int) (l : Int × Int) : Bool := (l.1 == a && l.2 == b) || (l.1 == b && l.2 == a)
def RM.link (R : RM) (a b : Int) : Int := match R.links.findIdx? (hitl a b) with | some i => (i : Int) | none => -1
def isw (a b : Int) (g : Dg) : Bool := g.f == a && g.t == b
def RM.len (R : RM) (a b : Int) : Nat := (R.way.filter (isw a b)).length
def RM.open' (R : RM) (a b : Int) : Bool := match R.links.findIdx? (hitl a b) with | some i => !(R.cuts.getD i true) | none => false
def atGo (a b i : Int) : List Dg → Nat → Int → Option Nat
  | [], _, _ => none
  | g :: r, j, k => if isw a b g then (if k = i then some j else atGo a b i r (j + 1) (k + 1)) else atGo a b i r (j + 1) k
def RM.at (R : RM) (a b i : Int) : Int × Int := if R.link a b < 0 then (-1, 1) else match atGo a b i R.way 0 0 with | some j => (j, 0) | none => (-1, 5)
theorem rl_hit {R : RM} {a b : Int} {i : Nat} {l : Int × Int} (hl : R.links[i]? = some l) (hb : ∀ j, j < i → ∀ x, R.links[j]? = some x → hitl a b x = false) (hh : hitl a b l = true) : R.links.findIdx? (hitl a b) = some i := by
  have hi := lt_of_get hl
  rw [List.findIdx?_eq_some_iff_getElem]
  refine ⟨hi, ?_, fun j hji => ?_⟩
  · rw [List.getElem?_eq_getElem hi, Option.some.injEq] at hl; rw [hl]; exact hh
  · have := hb j hji _ (List.getElem?_eq_getElem (by omega)); simp [this]
theorem cnt_next {a b : Int} {l : List Dg} {i : Nat} {g : Dg} (h : l[i]? = some g) : ((l.take (i + 1)).filter (isw a b)).length = ((l.take i).filter (isw a b)).length + if isw a b g then 1 else 0 := by
  rw [List.take_add_one, h]; cases hg : isw a b g <;> simp [hg]
theorem rl_none {R : RM} {a b : Int} (hb : ∀ j, j < R.links.length → ∀ x, R.links[j]? = some x → hitl a b x = false) : R.links.findIdx? (hitl a b) = none := by
  rw [List.findIdx?_eq_none_iff]
  intro x hx
  obtain ⟨j, hj, rfl⟩ := List.getElem_of_mem hx
  exact hb j hj _ (List.getElem?_eq_getElem hj)
section
variable {p : Nat} {R : RM} {w0 : World} {a b i : Int} {la : Option Addr} {lc : Nat} {ca : Option Addr} {cc : Nat} {wa : Option Addr} {wc : Nat} {gs : List Dm}
set_option maxRecDepth 20000 in
set_option maxHeartbeats 4000000 in
theorem rlink_ok (h : RefS w0 p R la lc ca cc wa wc gs) : Calls Try.prog 46 #[.pointer (some ⟨p, 0, none⟩), .int .i64 a, .int .i64 b] w0 (RetN w0 (eqv (.int .i64 (R.link a b)))) := by
  have hp := h.hp
  have hfew := h.few
  refine enter Try.func46 rfl (n := 42) rfl (Nat.le_of_ble_eq_true rfl) fun _ A => ?_
  have S : St _ _ _ [] := St.none w0
  refine wp_seq_k fun K1 hK1 => ?_
  refine region_seq ?_  -- region 0
  refine La A rfl (evc _ _) fun _ A => ?_
  replace A := A.only [6, 2, 1, 0] rfl
  refine hK1 _ _ ?_
  refine wp_seq_k fun K2 hK2 => ?_
  refine wp_seq_k fun K3 hK3 => ?_
  refine region_seq ?_  -- region 1
  refine La A rfl (evc _ _) fun _ A => ?_
  replace A := A.only [7, 6, 2, 1, 0] rfl
  refine hK3 _ _ ?_
  refine wp_block ?_
  replace A := A.only [7, 2, 1, 0] rfl
  refine wp_loop_ghost (fun kk ac w' => ∃ (i : Nat), kk + i = R.links.length ∧ (∀ j, j < i → ∀ x, R.links[j]? = some x → hitl a b x = false) ∧ Sl 42 ac [(0, .pointer (some ⟨p, 0, none⟩)), (1, .int .i64 a), (2, .int .i64 b), (7, .int .i64 ((i : Nat) : Int))] ∧ St [] w0 w' []) R.links.length ⟨0, by simp, by simp, A, S⟩ ?_
  clear A S
  rintro kk ac w2 ⟨i, hkk, hbe, A, S⟩
  rcases Nat.lt_or_ge i R.links.length with hi | hi
  · obtain ⟨l, hli⟩ : ∃ l, R.links[i]? = some l := ⟨_, List.getElem?_eq_getElem hi⟩
    obtain ⟨va, vc, hva, hrow⟩ := pairs_row (h.links.gr S.kp.to_gr) hli
    simp only [Value.slice.injEq] at hva; obtain ⟨rfl, -, rfl⟩ := hva
    cases c1 : (l.1 == a && l.2 == b) with
    | true =>
      refine wp_seq_k fun K4 hK4 => ?_
      refine wp_seq_k fun K5 hK5 => ?_
      refine region_seq ?_  -- region 2
      refine Lm A rfl (A.g 7 rfl) fun _ A => Lm A rfl (A.g 0 rfl) fun _ A => Lo A rfl (y_nilCheck (A.g 9 rfl) fun _ A => ?_)
      refine Lo A rfl (y_fieldAddr (off := 1) (j := 1) (by kernel_rfl) (A.g 10 rfl) (by first | rfl | omega) fun _ A => ?_)
      replace A := A.only [11, 8, 7, 2, 1, 0] rfl
      refine Lo A rfl (y_load (by kernel_rfl) (A.g 11 rfl) ((cell_of (S.kp.heap' hp (by simp)) _).trans rfl) fun _ A => ?_)
      refine Lo A rfl (y_lenS (e := 28) (by kernel_rfl) (A.g 12 rfl) fun _ A => ?_)
      refine Lo A rfl (y_lss (A.g 8 rfl) (A.g 13 rfl) (c := true) (decide_eq_true (by omega)) fun _ A => ?_)
      replace A := A.only [14, 7, 2, 1, 0] rfl
      refine hK5 _ _ ?_
      refine wp_cond_true (A.get rfl) ?_
      refine wp_skip ?_
      refine hK4 _ _ ?_
      refine wp_seq_k fun K6 hK6 => ?_
      refine wp_block ?_
      refine wp_seq_k fun K7 hK7 => ?_
      refine region_seq ?_  -- region 4
      refine Lm A rfl (A.g 0 rfl) fun _ A => Lo A rfl (y_nilCheck (A.g 17 rfl) fun _ A => ?_)
      refine Lo A rfl (y_fieldAddr (off := 1) (j := 1) (by kernel_rfl) (A.g 18 rfl) (by first | rfl | omega) fun _ A => ?_)
      refine Lo A rfl (y_load (by kernel_rfl) (A.g 19 rfl) ((cell_of (S.kp.heap' hp (by simp)) _).trans rfl) fun _ A => ?_)
      replace A := A.only [20, 14, 7, 2, 1, 0] rfl
      refine Lm A rfl (A.g 7 rfl) fun _ A => Lo A rfl (y_indexA (e := 28) (size := 2) (by kernel_rfl) (by kernel_rfl) (A.g 20 rfl) (A.g 21 rfl) (by omega) (by omega) fun _ A => ?_)
      refine Lo A rfl (y_loadAgg [.int .i64 l.1, .int .i64 l.2] (by kernel_rfl) (A.g 22 rfl) hrow fun _ A => ?_)
      refine Lm A rfl (A.g 1 rfl) fun _ A => ?_
      replace A := A.only [24, 23, 14, 7, 2, 1, 0] rfl
      refine Lm A rfl (A.g 2 rfl) fun _ A => Lo A rfl (y_build2 (A.g 24 rfl) (A.g 25 rfl) (v := .agg #[.int .i64 a, .int .i64 b]) (by kernel_rfl) fun _ A => ?_)
      refine Lo A rfl (y_eqlPair (e := 3) (by kernel_rfl) (by kernel_rfl) (by kernel_rfl) (by kernel_rfl) (A.g 23 rfl) (A.g 26 rfl) (r := true) (c1) fun _ A => ?_)
      refine Lm A rfl (A.g 27 rfl) fun _ A => ?_
      replace A := A.only [28, 14, 7, 2, 1, 0] rfl
      refine L_no A rfl (by decide) rfl rfl (by decide) (A.get rfl) (by decide) fun _ A => ?_
      refine L_no A rfl (by decide) rfl rfl (by decide) (A.get rfl) (by decide) fun _ A => ?_
      refine L_no A rfl (by decide) rfl rfl (by decide) (A.get rfl) (by decide) fun _ A => ?_
      refine L_no A rfl (by decide) rfl rfl (by decide) (A.get rfl) (by decide) fun _ A => ?_
      replace A := A.only [32, 28, 14, 7, 2, 1, 0] rfl
      refine L_no A rfl (by decide) rfl rfl (by decide) (A.get rfl) (by decide) fun _ A => ?_
      refine L_no A rfl (by decide) rfl rfl (by decide) (A.get rfl) (by decide) fun _ A => ?_
      refine L_no A rfl (by decide) rfl rfl (by decide) (A.get rfl) (by decide) fun _ A => ?_
      refine L_no A rfl (by decide) rfl rfl (by decide) (A.get rfl) (by decide) fun _ A => ?_
      replace A := A.only [36, 35, 28, 14, 7, 2, 1, 0] rfl
      refine L_no A rfl (by decide) rfl rfl (by decide) (A.get rfl) (by decide) fun _ A => ?_
      refine L_no A rfl (by decide) rfl rfl (by decide) (A.get rfl) (by decide) fun _ A => ?_
      refine L_no A rfl (by decide) rfl rfl (by decide) (A.get rfl) (by decide) fun _ A => ?_
      refine Lo A rfl (y_pickT (A.g 28 rfl) (evc _ _) fun _ A => ?_)
      replace A := A.only [40, 14, 7, 2, 1, 0] rfl
      refine hK7 _ _ ?_
      refine wp_cond_true (A.get rfl) ?_
      refine wp_seq_k fun K8 hK8 => ?_
      refine region_seq ?_  -- region 5
      refine Lm A rfl (A.g 7 rfl) fun _ A => La A rfl (A.g 41 rfl) fun _ A => ?_
      replace A := A.only [40, 14, 7, 6, 2, 1, 0] rfl
      refine hK8 _ _ ?_
      have hR : R.link a b = ((i : Nat) : Int) := by unfold RM.link; rw [rl_hit hli hbe (by simp only [hitl, c1, Bool.true_or])]
      exact wp_ret ⟨A.defers, _, res_run (rs := [.tmp 6]) (vs := [.int .i64 (((i : Nat) : Int))]) rfl ⟨A.get rfl, trivial⟩, ⟨_, rfl, S.kp.to_gr, [], ⟨by rw [hR], rfl⟩, NewF.nil _ _⟩⟩
    | false =>
      cases c2 : (l.1 == b && l.2 == a) with
      | true =>
        refine wp_seq_k fun K4 hK4 => ?_
        refine wp_seq_k fun K5 hK5 => ?_
        refine region_seq ?_  -- region 2
        refine Lm A rfl (A.g 7 rfl) fun _ A => Lm A rfl (A.g 0 rfl) fun _ A => Lo A rfl (y_nilCheck (A.g 9 rfl) fun _ A => ?_)
        refine Lo A rfl (y_fieldAddr (off := 1) (j := 1) (by kernel_rfl) (A.g 10 rfl) (by first | rfl | omega) fun _ A => ?_)
        replace A := A.only [11, 8, 7, 2, 1, 0] rfl
        refine Lo A rfl (y_load (by kernel_rfl) (A.g 11 rfl) ((cell_of (S.kp.heap' hp (by simp)) _).trans rfl) fun _ A => ?_)
        refine Lo A rfl (y_lenS (e := 28) (by kernel_rfl) (A.g 12 rfl) fun _ A => ?_)
        refine Lo A rfl (y_lss (A.g 8 rfl) (A.g 13 rfl) (c := true) (decide_eq_true (by omega)) fun _ A => ?_)
        replace A := A.only [14, 7, 2, 1, 0] rfl
        refine hK5 _ _ ?_
        refine wp_cond_true (A.get rfl) ?_
        refine wp_skip ?_
        refine hK4 _ _ ?_
        refine wp_seq_k fun K6 hK6 => ?_
        refine wp_block ?_
        refine wp_seq_k fun K7 hK7 => ?_
        refine region_seq ?_  -- region 4
        refine Lm A rfl (A.g 0 rfl) fun _ A => Lo A rfl (y_nilCheck (A.g 17 rfl) fun _ A => ?_)
        refine Lo A rfl (y_fieldAddr (off := 1) (j := 1) (by kernel_rfl) (A.g 18 rfl) (by first | rfl | omega) fun _ A => ?_)
        refine Lo A rfl (y_load (by kernel_rfl) (A.g 19 rfl) ((cell_of (S.kp.heap' hp (by simp)) _).trans rfl) fun _ A => ?_)
        replace A := A.only [20, 14, 7, 2, 1, 0] rfl
        refine Lm A rfl (A.g 7 rfl) fun _ A => Lo A rfl (y_indexA (e := 28) (size := 2) (by kernel_rfl) (by kernel_rfl) (A.g 20 rfl) (A.g 21 rfl) (by omega) (by omega) fun _ A => ?_)
        refine Lo A rfl (y_loadAgg [.int .i64 l.1, .int .i64 l.2] (by kernel_rfl) (A.g 22 rfl) hrow fun _ A => ?_)
        refine Lm A rfl (A.g 1 rfl) fun _ A => ?_
        replace A := A.only [24, 23, 14, 7, 2, 1, 0] rfl
        refine Lm A rfl (A.g 2 rfl) fun _ A => Lo A rfl (y_build2 (A.g 24 rfl) (A.g 25 rfl) (v := .agg #[.int .i64 a, .int .i64 b]) (by kernel_rfl) fun _ A => ?_)
        refine Lo A rfl (y_eqlPair (e := 3) (by kernel_rfl) (by kernel_rfl) (by kernel_rfl) (by kernel_rfl) (A.g 23 rfl) (A.g 26 rfl) (r := false) (c1) fun _ A => ?_)
        refine Lm A rfl (A.g 27 rfl) fun _ A => ?_
        replace A := A.only [28, 14, 7, 2, 1, 0] rfl
        refine L_yes A rfl (by decide) rfl rfl (by decide) (A.get rfl) (y_move (A.g 0 rfl) fun _ A => ?_)
        refine L_yes A rfl (by decide) rfl rfl (by decide) (A.get rfl) (y_nilCheck (A.g 29 rfl) fun _ A => ?_)
        refine L_yes A rfl (by decide) rfl rfl (by decide) (A.get rfl) (y_fieldAddr (off := 1) (j := 1) (by kernel_rfl) (A.g 30 rfl) (by first | rfl | omega) fun _ A => ?_)
        refine L_yes A rfl (by decide) rfl rfl (by decide) (A.get rfl) (y_load (by kernel_rfl) (A.g 31 rfl) ((cell_of (S.kp.heap' hp (by simp)) _).trans rfl) fun _ A => ?_)
        replace A := A.only [32, 28, 14, 7, 2, 1, 0] rfl
        refine L_yes A rfl (by decide) rfl rfl (by decide) (A.get rfl) (y_move (A.g 7 rfl) fun _ A => ?_)
        refine L_yes A rfl (by decide) rfl rfl (by decide) (A.get rfl) (y_indexA (e := 28) (size := 2) (by kernel_rfl) (by kernel_rfl) (A.g 32 rfl) (A.g 33 rfl) (by omega) (by omega) fun _ A => ?_)
        refine L_yes A rfl (by decide) rfl rfl (by decide) (A.get rfl) (y_loadAgg [.int .i64 l.1, .int .i64 l.2] (by kernel_rfl) (A.g 34 rfl) hrow fun _ A => ?_)
        refine L_yes A rfl (by decide) rfl rfl (by decide) (A.get rfl) (y_move (A.g 2 rfl) fun _ A => ?_)
        replace A := A.only [36, 35, 28, 14, 7, 2, 1, 0] rfl
        refine L_yes A rfl (by decide) rfl rfl (by decide) (A.get rfl) (y_move (A.g 1 rfl) fun _ A => ?_)
        refine L_yes A rfl (by decide) rfl rfl (by decide) (A.get rfl) (y_build2 (A.g 36 rfl) (A.g 37 rfl) (v := .agg #[.int .i64 b, .int .i64 a]) (by kernel_rfl) fun _ A => ?_)
        refine L_yes A rfl (by decide) rfl rfl (by decide) (A.get rfl) (y_eqlPair (e := 3) (by kernel_rfl) (by kernel_rfl) (by kernel_rfl) (by kernel_rfl) (A.g 35 rfl) (A.g 38 rfl) (r := true) (c2) fun _ A => ?_)
        refine Lo A rfl (y_pickF (A.g 28 rfl) (A.g 39 rfl) fun _ A => ?_)
        replace A := A.only [40, 14, 7, 2, 1, 0] rfl
        refine hK7 _ _ ?_
        refine wp_cond_true (A.get rfl) ?_
        refine wp_seq_k fun K8 hK8 => ?_
        refine region_seq ?_  -- region 5
        refine Lm A rfl (A.g 7 rfl) fun _ A => La A rfl (A.g 41 rfl) fun _ A => ?_
        replace A := A.only [40, 14, 7, 6, 2, 1, 0] rfl
        refine hK8 _ _ ?_
        have hR : R.link a b = ((i : Nat) : Int) := by unfold RM.link; rw [rl_hit hli hbe (by simp only [hitl, c2, Bool.or_true])]
        exact wp_ret ⟨A.defers, _, res_run (rs := [.tmp 6]) (vs := [.int .i64 (((i : Nat) : Int))]) rfl ⟨A.get rfl, trivial⟩, ⟨_, rfl, S.kp.to_gr, [], ⟨by rw [hR], rfl⟩, NewF.nil _ _⟩⟩
      | false =>
        refine wp_seq_k fun K4 hK4 => ?_
        refine wp_seq_k fun K5 hK5 => ?_
        refine region_seq ?_  -- region 2
        refine Lm A rfl (A.g 7 rfl) fun _ A => Lm A rfl (A.g 0 rfl) fun _ A => Lo A rfl (y_nilCheck (A.g 9 rfl) fun _ A => ?_)
        refine Lo A rfl (y_fieldAddr (off := 1) (j := 1) (by kernel_rfl) (A.g 10 rfl) (by first | rfl | omega) fun _ A => ?_)
        replace A := A.only [11, 8, 7, 2, 1, 0] rfl
        refine Lo A rfl (y_load (by kernel_rfl) (A.g 11 rfl) ((cell_of (S.kp.heap' hp (by simp)) _).trans rfl) fun _ A => ?_)
        refine Lo A rfl (y_lenS (e := 28) (by kernel_rfl) (A.g 12 rfl) fun _ A => ?_)
        refine Lo A rfl (y_lss (A.g 8 rfl) (A.g 13 rfl) (c := true) (decide_eq_true (by omega)) fun _ A => ?_)
        replace A := A.only [14, 7, 2, 1, 0] rfl
        refine hK5 _ _ ?_
        refine wp_cond_true (A.get rfl) ?_
        refine wp_skip ?_
        refine hK4 _ _ ?_
        refine wp_seq_k fun K6 hK6 => ?_
        refine wp_block ?_
        refine wp_seq_k fun K7 hK7 => ?_
        refine region_seq ?_  -- region 4
        refine Lm A rfl (A.g 0 rfl) fun _ A => Lo A rfl (y_nilCheck (A.g 17 rfl) fun _ A => ?_)
        refine Lo A rfl (y_fieldAddr (off := 1) (j := 1) (by kernel_rfl) (A.g 18 rfl) (by first | rfl | omega) fun _ A => ?_)
        refine Lo A rfl (y_load (by kernel_rfl) (A.g 19 rfl) ((cell_of (S.kp.heap' hp (by simp)) _).trans rfl) fun _ A => ?_)
        replace A := A.only [20, 14, 7, 2, 1, 0] rfl
        refine Lm A rfl (A.g 7 rfl) fun _ A => Lo A rfl (y_indexA (e := 28) (size := 2) (by kernel_rfl) (by kernel_rfl) (A.g 20 rfl) (A.g 21 rfl) (by omega) (by omega) fun _ A => ?_)
        refine Lo A rfl (y_loadAgg [.int .i64 l.1, .int .i64 l.2] (by kernel_rfl) (A.g 22 rfl) hrow fun _ A => ?_)
        refine Lm A rfl (A.g 1 rfl) fun _ A => ?_
        replace A := A.only [24, 23, 14, 7, 2, 1, 0] rfl
        refine Lm A rfl (A.g 2 rfl) fun _ A => Lo A rfl (y_build2 (A.g 24 rfl) (A.g 25 rfl) (v := .agg #[.int .i64 a, .int .i64 b]) (by kernel_rfl) fun _ A => ?_)
        refine Lo A rfl (y_eqlPair (e := 3) (by kernel_rfl) (by kernel_rfl) (by kernel_rfl) (by kernel_rfl) (A.g 23 rfl) (A.g 26 rfl) (r := false) (c1) fun _ A => ?_)
        refine Lm A rfl (A.g 27 rfl) fun _ A => ?_
        replace A := A.only [28, 14, 7, 2, 1, 0] rfl
        refine L_yes A rfl (by decide) rfl rfl (by decide) (A.get rfl) (y_move (A.g 0 rfl) fun _ A => ?_)
        refine L_yes A rfl (by decide) rfl rfl (by decide) (A.get rfl) (y_nilCheck (A.g 29 rfl) fun _ A => ?_)
        refine L_yes A rfl (by decide) rfl rfl (by decide) (A.get rfl) (y_fieldAddr (off := 1) (j := 1) (by kernel_rfl) (A.g 30 rfl) (by first | rfl | omega) fun _ A => ?_)
        refine L_yes A rfl (by decide) rfl rfl (by decide) (A.get rfl) (y_load (by kernel_rfl) (A.g 31 rfl) ((cell_of (S.kp.heap' hp (by simp)) _).trans rfl) fun _ A => ?_)
        replace A := A.only [32, 28, 14, 7, 2, 1, 0] rfl
        refine L_yes A rfl (by decide) rfl rfl (by decide) (A.get rfl) (y_move (A.g 7 rfl) fun _ A => ?_)
        refine L_yes A rfl (by decide) rfl rfl (by decide) (A.get rfl) (y_indexA (e := 28) (size := 2) (by kernel_rfl) (by kernel_rfl) (A.g 32 rfl) (A.g 33 rfl) (by omega) (by omega) fun _ A => ?_)
        refine L_yes A rfl (by decide) rfl rfl (by decide) (A.get rfl) (y_loadAgg [.int .i64 l.1, .int .i64 l.2] (by kernel_rfl) (A.g 34 rfl) hrow fun _ A => ?_)
        refine L_yes A rfl (by decide) rfl rfl (by decide) (A.get rfl) (y_move (A.g 2 rfl) fun _ A => ?_)
        replace A := A.only [36, 35, 28, 14, 7, 2, 1, 0] rfl
        refine L_yes A rfl (by decide) rfl rfl (by decide) (A.get rfl) (y_move (A.g 1 rfl) fun _ A => ?_)
        refine L_yes A rfl (by decide) rfl rfl (by decide) (A.get rfl) (y_build2 (A.g 36 rfl) (A.g 37 rfl) (v := .agg #[.int .i64 b, .int .i64 a]) (by kernel_rfl) fun _ A => ?_)
        refine L_yes A rfl (by decide) rfl rfl (by decide) (A.get rfl) (y_eqlPair (e := 3) (by kernel_rfl) (by kernel_rfl) (by kernel_rfl) (by kernel_rfl) (A.g 35 rfl) (A.g 38 rfl) (r := false) (c2) fun _ A => ?_)
        refine Lo A rfl (y_pickF (A.g 28 rfl) (A.g 39 rfl) fun _ A => ?_)
        replace A := A.only [40, 14, 7, 2, 1, 0] rfl
        refine hK7 _ _ ?_
        refine wp_cond_false (A.get rfl) ?_
        refine wp_skip ?_
        refine hK6 _ _ ?_
        refine region_seq ?_  -- region 3
        refine Lm A rfl (A.g 7 rfl) fun _ A => Lo A rfl (y_add (A.g 15 rfl) (evc _ _) (c := ((i + 1 : Nat) : Int)) ((wrap64 (by omega)).trans (by omega)) fun _ A => ?_)
        refine La A rfl (A.g 16 rfl) fun _ A => ?_
        replace A := A.only [40, 14, 7, 2, 1, 0] rfl
        replace A := A.only [7, 2, 1, 0] rfl
        have hno : hitl a b l = false := by simp [hitl, c1, c2]
        refine ⟨kk - 1, by omega, i + 1, by omega, fun j hj x hx => ?_, A, S⟩
        rcases Nat.lt_or_ge j i with h' | h'
        · exact hbe j h' x hx
        · obtain rfl : j = i := by omega
          rw [hli] at hx; cases hx; exact hno
  · obtain rfl : i = R.links.length := by omega
    refine wp_seq_k fun K4 hK4 => ?_
    refine wp_seq_k fun K5 hK5 => ?_
    refine region_seq ?_  -- region 2
    refine Lm A rfl (A.g 7 rfl) fun _ A => Lm A rfl (A.g 0 rfl) fun _ A => Lo A rfl (y_nilCheck (A.g 9 rfl) fun _ A => ?_)
    refine Lo A rfl (y_fieldAddr (off := 1) (j := 1) (by kernel_rfl) (A.g 10 rfl) (by first | rfl | omega) fun _ A => ?_)
    replace A := A.only [11, 8, 7, 2, 1, 0] rfl
    refine Lo A rfl (y_load (by kernel_rfl) (A.g 11 rfl) ((cell_of (S.kp.heap' hp (by simp)) _).trans rfl) fun _ A => ?_)
    refine Lo A rfl (y_lenS (e := 28) (by kernel_rfl) (A.g 12 rfl) fun _ A => ?_)
    refine Lo A rfl (y_lss (A.g 8 rfl) (A.g 13 rfl) (c := false) (decide_eq_false (by omega)) fun _ A => ?_)
    replace A := A.only [14, 7, 2, 1, 0] rfl
    refine hK5 _ _ ?_
    refine wp_cond_false (A.get rfl) ?_
    refine wp_exit ?_
    refine hK2 _ _ ?_
    refine wp_seq_k fun K6 hK6 => ?_
    refine region_seq ?_  -- region 6
    refine La A rfl (evc _ _) fun _ A => ?_
    replace A := A.only [14, 7, 6, 2, 1, 0] rfl
    refine hK6 _ _ ?_
    have hR : R.link a b = -1 := by unfold RM.link; rw [rl_none hbe]
    exact wp_ret ⟨A.defers, _, res_run (rs := [.tmp 6]) (vs := [.int .i64 ((-1))]) rfl ⟨A.get rfl, trivial⟩, ⟨_, rfl, S.kp.to_gr, [], ⟨by rw [hR], rfl⟩, NewF.nil _ _⟩⟩

set_option maxRecDepth 20000 in
set_option maxHeartbeats 4000000 in
theorem rlen_ok (h : RefS w0 p R la lc ca cc wa wc gs) (hw : R.way.length ≤ 1000000) : Calls Try.prog 47 #[.pointer (some ⟨p, 0, none⟩), .int .i64 a, .int .i64 b] w0 (RetN w0 (eqv (.int .i64 ((R.len a b : Nat) : Int)))) := by
  have hp := h.hp
  have hgl : gs.length = R.way.length := by rw [← h.gd]; simp [gmD]
  refine enter Try.func47 rfl (n := 43) rfl (Nat.le_of_ble_eq_true rfl) fun _ A => ?_
  have S : St _ _ _ [] := St.none w0
  refine wp_seq_k fun K1 hK1 => ?_
  refine region_seq ?_  -- region 0
  refine La A rfl (evc _ _) fun _ A => ?_
  replace A := A.only [6, 2, 1, 0] rfl
  refine hK1 _ _ ?_
  refine wp_seq_k fun K2 hK2 => ?_
  refine region_seq ?_  -- region 1
  refine La A rfl (evc _ _) fun _ A => ?_
  replace A := A.only [7, 6, 2, 1, 0] rfl
  refine hK2 _ _ ?_
  refine wp_seq_k fun K3 hK3 => ?_
  refine wp_seq_k fun K4 hK4 => ?_
  refine region_seq ?_  -- region 2
  refine La A rfl (evc _ _) fun _ A => ?_
  replace A := A.only [8, 7, 6, 2, 1, 0] rfl
  refine hK4 _ _ ?_
  refine wp_block ?_
  replace A := A.only [8, 7, 2, 1, 0] rfl
  refine wp_loop_ghost (fun kk ac w' => ∃ (i : Nat), kk + i = gs.length ∧ Sl 43 ac [(0, .pointer (some ⟨p, 0, none⟩)), (1, .int .i64 a), (2, .int .i64 b), (7, .int .i64 ((((R.way.take i).filter (isw a b)).length : Nat) : Int)), (8, .int .i64 ((i : Nat) : Int))] ∧ St [] w0 w' []) gs.length ⟨0, by simp, (by simpa using A), S⟩ ?_
  clear A S
  rintro kk ac w2 ⟨i, hkk, A, S⟩
  rcases Nat.lt_or_ge i gs.length with hi | hi
  · obtain ⟨g, hli⟩ : ∃ g, gs[i]? = some g := ⟨_, List.getElem?_eq_getElem hi⟩
    obtain ⟨va, vc, hva, hrow⟩ := gm_row h.way hli
    simp only [Value.slice.injEq] at hva; obtain ⟨rfl, -, rfl⟩ := hva
    have hRi := gs_get h.gd hli
    have hbd : ((R.way.take i).filter (isw a b)).length ≤ i := Nat.le_trans (List.length_filter_le _ _) (by simp; omega)
    have hnx := cnt_next (a := a) (b := b) hRi
    cases c1 : (g.d.f == a) with
    | false =>
      refine wp_seq_k fun K5 hK5 => ?_
      refine wp_seq_k fun K6 hK6 => ?_
      refine region_seq ?_  -- region 3
      refine Lm A rfl (A.g 8 rfl) fun _ A => Lm A rfl (A.g 0 rfl) fun _ A => Lo A rfl (y_nilCheck (A.g 10 rfl) fun _ A => ?_)
      refine Lo A rfl (y_fieldAddr (off := 3) (j := 3) (by kernel_rfl) (A.g 11 rfl) (by first | rfl | omega) fun _ A => ?_)
      replace A := A.only [12, 9, 8, 7, 2, 1, 0] rfl
      refine Lo A rfl (y_load (by kernel_rfl) (A.g 12 rfl) ((cell_of (S.kp.heap' hp (by simp)) _).trans rfl) fun _ A => ?_)
      refine Lo A rfl (y_lenS (e := 93) (by kernel_rfl) (A.g 13 rfl) fun _ A => ?_)
      refine Lo A rfl (y_lss (A.g 9 rfl) (A.g 14 rfl) (c := true) (decide_eq_true (by omega)) fun _ A => ?_)
      replace A := A.only [15, 8, 7, 2, 1, 0] rfl
      refine hK6 _ _ ?_
      refine wp_cond_true (A.get rfl) ?_
      refine wp_skip ?_
      refine hK5 _ _ ?_
      refine wp_seq_k fun K7 hK7 => ?_
      refine wp_block ?_
      refine wp_seq_k fun K8 hK8 => ?_
      refine region_seq ?_  -- region 5
      refine Lm A rfl (A.g 0 rfl) fun _ A => Lo A rfl (y_nilCheck (A.g 18 rfl) fun _ A => ?_)
      refine Lo A rfl (y_fieldAddr (off := 3) (j := 3) (by kernel_rfl) (A.g 19 rfl) (by first | rfl | omega) fun _ A => ?_)
      refine Lo A rfl (y_load (by kernel_rfl) (A.g 20 rfl) ((cell_of (S.kp.heap' hp (by simp)) _).trans rfl) fun _ A => ?_)
      replace A := A.only [21, 15, 8, 7, 2, 1, 0] rfl
      refine Lm A rfl (A.g 8 rfl) fun _ A => Lo A rfl (y_indexA (e := 93) (size := 4) (by kernel_rfl) (by kernel_rfl) (A.g 21 rfl) (A.g 22 rfl) (by omega) (by omega) fun _ A => ?_)
      refine Lo A rfl (y_fieldA (off := 0) (by kernel_rfl) (A.g 23 rfl) fun _ A => ?_)
      refine Lo A rfl (y_load (by kernel_rfl) (A.g 24 rfl) (S.kp.cell' (hrow 0 (Nat.le_of_ble_eq_true rfl)) (by simp)) fun _ A => ?_)
      replace A := A.only [25, 15, 8, 7, 2, 1, 0] rfl
      refine Lm A rfl (A.g 1 rfl) fun _ A => Lo A rfl (y_eql (A.g 25 rfl) (A.g 26 rfl) (c := false) (c1) fun _ A => ?_)
      refine Lm A rfl (A.g 27 rfl) fun _ A => L_no A rfl (by decide) rfl rfl (by decide) (A.get rfl) (by decide) fun _ A => ?_
      replace A := A.only [29, 28, 15, 8, 7, 2, 1, 0] rfl
      refine L_no A rfl (by decide) rfl rfl (by decide) (A.get rfl) (by decide) fun _ A => ?_
      refine L_no A rfl (by decide) rfl rfl (by decide) (A.get rfl) (by decide) fun _ A => ?_
      refine L_no A rfl (by decide) rfl rfl (by decide) (A.get rfl) (by decide) fun _ A => ?_
      refine L_no A rfl (by decide) rfl rfl (by decide) (A.get rfl) (by decide) fun _ A => ?_
      replace A := A.only [33, 32, 28, 15, 8, 7, 2, 1, 0] rfl
      refine L_no A rfl (by decide) rfl rfl (by decide) (A.get rfl) (by decide) fun _ A => ?_
      refine L_no A rfl (by decide) rfl rfl (by decide) (A.get rfl) (by decide) fun _ A => ?_
      refine L_no A rfl (by decide) rfl rfl (by decide) (A.get rfl) (by decide) fun _ A => ?_
      refine L_no A rfl (by decide) rfl rfl (by decide) (A.get rfl) (by decide) fun _ A => ?_
      replace A := A.only [37, 36, 28, 15, 8, 7, 2, 1, 0] rfl
      refine L_no A rfl (by decide) rfl rfl (by decide) (A.get rfl) (by decide) fun _ A => ?_
      refine Lo A rfl (y_pickF (A.g 28 rfl) (evc _ _) fun _ A => ?_)
      replace A := A.only [39, 15, 8, 7, 2, 1, 0] rfl
      refine hK8 _ _ ?_
      refine wp_cond_false (A.get rfl) ?_
      refine wp_skip ?_
      refine hK7 _ _ ?_
      refine region_seq ?_  -- region 4
      refine Lm A rfl (A.g 8 rfl) fun _ A => Lo A rfl (y_add (A.g 16 rfl) (evc _ _) (c := ((i + 1 : Nat) : Int)) ((wrap64 (by omega)).trans (by omega)) fun _ A => ?_)
      refine La A rfl (A.g 17 rfl) fun _ A => ?_
      replace A := A.only [39, 15, 8, 7, 2, 1, 0] rfl
      replace A := A.only [8, 7, 2, 1, 0] rfl
      rw [show isw a b g.d = false by simp [isw, c1]] at hnx
      exact ⟨kk - 1, by omega, i + 1, by omega, by rw [hnx]; exact A, S⟩
    | true =>
      cases c2 : (g.d.t == b) with
      | false =>
        refine wp_seq_k fun K5 hK5 => ?_
        refine wp_seq_k fun K6 hK6 => ?_
        refine region_seq ?_  -- region 3
        refine Lm A rfl (A.g 8 rfl) fun _ A => Lm A rfl (A.g 0 rfl) fun _ A => Lo A rfl (y_nilCheck (A.g 10 rfl) fun _ A => ?_)
        refine Lo A rfl (y_fieldAddr (off := 3) (j := 3) (by kernel_rfl) (A.g 11 rfl) (by first | rfl | omega) fun _ A => ?_)
        replace A := A.only [12, 9, 8, 7, 2, 1, 0] rfl
        refine Lo A rfl (y_load (by kernel_rfl) (A.g 12 rfl) ((cell_of (S.kp.heap' hp (by simp)) _).trans rfl) fun _ A => ?_)
        refine Lo A rfl (y_lenS (e := 93) (by kernel_rfl) (A.g 13 rfl) fun _ A => ?_)
        refine Lo A rfl (y_lss (A.g 9 rfl) (A.g 14 rfl) (c := true) (decide_eq_true (by omega)) fun _ A => ?_)
        replace A := A.only [15, 8, 7, 2, 1, 0] rfl
        refine hK6 _ _ ?_
        refine wp_cond_true (A.get rfl) ?_
        refine wp_skip ?_
        refine hK5 _ _ ?_
        refine wp_seq_k fun K7 hK7 => ?_
        refine wp_block ?_
        refine wp_seq_k fun K8 hK8 => ?_
        refine region_seq ?_  -- region 5
        refine Lm A rfl (A.g 0 rfl) fun _ A => Lo A rfl (y_nilCheck (A.g 18 rfl) fun _ A => ?_)
        refine Lo A rfl (y_fieldAddr (off := 3) (j := 3) (by kernel_rfl) (A.g 19 rfl) (by first | rfl | omega) fun _ A => ?_)
        refine Lo A rfl (y_load (by kernel_rfl) (A.g 20 rfl) ((cell_of (S.kp.heap' hp (by simp)) _).trans rfl) fun _ A => ?_)
        replace A := A.only [21, 15, 8, 7, 2, 1, 0] rfl
        refine Lm A rfl (A.g 8 rfl) fun _ A => Lo A rfl (y_indexA (e := 93) (size := 4) (by kernel_rfl) (by kernel_rfl) (A.g 21 rfl) (A.g 22 rfl) (by omega) (by omega) fun _ A => ?_)
        refine Lo A rfl (y_fieldA (off := 0) (by kernel_rfl) (A.g 23 rfl) fun _ A => ?_)
        refine Lo A rfl (y_load (by kernel_rfl) (A.g 24 rfl) (S.kp.cell' (hrow 0 (Nat.le_of_ble_eq_true rfl)) (by simp)) fun _ A => ?_)
        replace A := A.only [25, 15, 8, 7, 2, 1, 0] rfl
        refine Lm A rfl (A.g 1 rfl) fun _ A => Lo A rfl (y_eql (A.g 25 rfl) (A.g 26 rfl) (c := true) (c1) fun _ A => ?_)
        refine Lm A rfl (A.g 27 rfl) fun _ A => L_yes A rfl (by decide) rfl rfl (by decide) (A.get rfl) (y_move (A.g 0 rfl) fun _ A => ?_)
        replace A := A.only [29, 28, 15, 8, 7, 2, 1, 0] rfl
        refine L_yes A rfl (by decide) rfl rfl (by decide) (A.get rfl) (y_nilCheck (A.g 29 rfl) fun _ A => ?_)
        refine L_yes A rfl (by decide) rfl rfl (by decide) (A.get rfl) (y_fieldAddr (off := 3) (j := 3) (by kernel_rfl) (A.g 30 rfl) (by first | rfl | omega) fun _ A => ?_)
        refine L_yes A rfl (by decide) rfl rfl (by decide) (A.get rfl) (y_load (by kernel_rfl) (A.g 31 rfl) ((cell_of (S.kp.heap' hp (by simp)) _).trans rfl) fun _ A => ?_)
        refine L_yes A rfl (by decide) rfl rfl (by decide) (A.get rfl) (y_move (A.g 8 rfl) fun _ A => ?_)
        replace A := A.only [33, 32, 28, 15, 8, 7, 2, 1, 0] rfl
        refine L_yes A rfl (by decide) rfl rfl (by decide) (A.get rfl) (y_indexA (e := 93) (size := 4) (by kernel_rfl) (by kernel_rfl) (A.g 32 rfl) (A.g 33 rfl) (by omega) (by omega) fun _ A => ?_)
        refine L_yes A rfl (by decide) rfl rfl (by decide) (A.get rfl) (y_fieldA (off := 1) (by kernel_rfl) (A.g 34 rfl) fun _ A => ?_)
        refine L_yes A rfl (by decide) rfl rfl (by decide) (A.get rfl) (y_load (by kernel_rfl) (A.g 35 rfl) (S.kp.cell' (hrow 1 (Nat.le_of_ble_eq_true rfl)) (by simp)) fun _ A => ?_)
        refine L_yes A rfl (by decide) rfl rfl (by decide) (A.get rfl) (y_move (A.g 2 rfl) fun _ A => ?_)
        replace A := A.only [37, 36, 28, 15, 8, 7, 2, 1, 0] rfl
        refine L_yes A rfl (by decide) rfl rfl (by decide) (A.get rfl) (y_eql (A.g 36 rfl) (A.g 37 rfl) (c := false) (c2) fun _ A => ?_)
        refine Lo A rfl (y_pickT (A.g 28 rfl) (A.g 38 rfl) fun _ A => ?_)
        replace A := A.only [39, 15, 8, 7, 2, 1, 0] rfl
        refine hK8 _ _ ?_
        refine wp_cond_false (A.get rfl) ?_
        refine wp_skip ?_
        refine hK7 _ _ ?_
        refine region_seq ?_  -- region 4
        refine Lm A rfl (A.g 8 rfl) fun _ A => Lo A rfl (y_add (A.g 16 rfl) (evc _ _) (c := ((i + 1 : Nat) : Int)) ((wrap64 (by omega)).trans (by omega)) fun _ A => ?_)
        refine La A rfl (A.g 17 rfl) fun _ A => ?_
        replace A := A.only [39, 15, 8, 7, 2, 1, 0] rfl
        replace A := A.only [8, 7, 2, 1, 0] rfl
        rw [show isw a b g.d = false by simp [isw, c1, c2]] at hnx
        exact ⟨kk - 1, by omega, i + 1, by omega, by rw [hnx]; exact A, S⟩
      | true =>
        refine wp_seq_k fun K5 hK5 => ?_
        refine wp_seq_k fun K6 hK6 => ?_
        refine region_seq ?_  -- region 3
        refine Lm A rfl (A.g 8 rfl) fun _ A => Lm A rfl (A.g 0 rfl) fun _ A => Lo A rfl (y_nilCheck (A.g 10 rfl) fun _ A => ?_)
        refine Lo A rfl (y_fieldAddr (off := 3) (j := 3) (by kernel_rfl) (A.g 11 rfl) (by first | rfl | omega) fun _ A => ?_)
        replace A := A.only [12, 9, 8, 7, 2, 1, 0] rfl
        refine Lo A rfl (y_load (by kernel_rfl) (A.g 12 rfl) ((cell_of (S.kp.heap' hp (by simp)) _).trans rfl) fun _ A => ?_)
        refine Lo A rfl (y_lenS (e := 93) (by kernel_rfl) (A.g 13 rfl) fun _ A => ?_)
        refine Lo A rfl (y_lss (A.g 9 rfl) (A.g 14 rfl) (c := true) (decide_eq_true (by omega)) fun _ A => ?_)
        replace A := A.only [15, 8, 7, 2, 1, 0] rfl
        refine hK6 _ _ ?_
        refine wp_cond_true (A.get rfl) ?_
        refine wp_skip ?_
        refine hK5 _ _ ?_
        refine wp_seq_k fun K7 hK7 => ?_
        refine wp_block ?_
        refine wp_seq_k fun K8 hK8 => ?_
        refine region_seq ?_  -- region 5
        refine Lm A rfl (A.g 0 rfl) fun _ A => Lo A rfl (y_nilCheck (A.g 18 rfl) fun _ A => ?_)
        refine Lo A rfl (y_fieldAddr (off := 3) (j := 3) (by kernel_rfl) (A.g 19 rfl) (by first | rfl | omega) fun _ A => ?_)
        refine Lo A rfl (y_load (by kernel_rfl) (A.g 20 rfl) ((cell_of (S.kp.heap' hp (by simp)) _).trans rfl) fun _ A => ?_)
        replace A := A.only [21, 15, 8, 7, 2, 1, 0] rfl
        refine Lm A rfl (A.g 8 rfl) fun _ A => Lo A rfl (y_indexA (e := 93) (size := 4) (by kernel_rfl) (by kernel_rfl) (A.g 21 rfl) (A.g 22 rfl) (by omega) (by omega) fun _ A => ?_)
        refine Lo A rfl (y_fieldA (off := 0) (by kernel_rfl) (A.g 23 rfl) fun _ A => ?_)
        refine Lo A rfl (y_load (by kernel_rfl) (A.g 24 rfl) (S.kp.cell' (hrow 0 (Nat.le_of_ble_eq_true rfl)) (by simp)) fun _ A => ?_)
        replace A := A.only [25, 15, 8, 7, 2, 1, 0] rfl
        refine Lm A rfl (A.g 1 rfl) fun _ A => Lo A rfl (y_eql (A.g 25 rfl) (A.g 26 rfl) (c := true) (c1) fun _ A => ?_)
        refine Lm A rfl (A.g 27 rfl) fun _ A => L_yes A rfl (by decide) rfl rfl (by decide) (A.get rfl) (y_move (A.g 0 rfl) fun _ A => ?_)
        replace A := A.only [29, 28, 15, 8, 7, 2, 1, 0] rfl
        refine L_yes A rfl (by decide) rfl rfl (by decide) (A.get rfl) (y_nilCheck (A.g 29 rfl) fun _ A => ?_)
        refine L_yes A rfl (by decide) rfl rfl (by decide) (A.get rfl) (y_fieldAddr (off := 3) (j := 3) (by kernel_rfl) (A.g 30 rfl) (by first | rfl | omega) fun _ A => ?_)
        refine L_yes A rfl (by decide) rfl rfl (by decide) (A.get rfl) (y_load (by kernel_rfl) (A.g 31 rfl) ((cell_of (S.kp.heap' hp (by simp)) _).trans rfl) fun _ A => ?_)
        refine L_yes A rfl (by decide) rfl rfl (by decide) (A.get rfl) (y_move (A.g 8 rfl) fun _ A => ?_)
        replace A := A.only [33, 32, 28, 15, 8, 7, 2, 1, 0] rfl
        refine L_yes A rfl (by decide) rfl rfl (by decide) (A.get rfl) (y_indexA (e := 93) (size := 4) (by kernel_rfl) (by kernel_rfl) (A.g 32 rfl) (A.g 33 rfl) (by omega) (by omega) fun _ A => ?_)
        refine L_yes A rfl (by decide) rfl rfl (by decide) (A.get rfl) (y_fieldA (off := 1) (by kernel_rfl) (A.g 34 rfl) fun _ A => ?_)
        refine L_yes A rfl (by decide) rfl rfl (by decide) (A.get rfl) (y_load (by kernel_rfl) (A.g 35 rfl) (S.kp.cell' (hrow 1 (Nat.le_of_ble_eq_true rfl)) (by simp)) fun _ A => ?_)
        refine L_yes A rfl (by decide) rfl rfl (by decide) (A.get rfl) (y_move (A.g 2 rfl) fun _ A => ?_)
        replace A := A.only [37, 36, 28, 15, 8, 7, 2, 1, 0] rfl
        refine L_yes A rfl (by decide) rfl rfl (by decide) (A.get rfl) (y_eql (A.g 36 rfl) (A.g 37 rfl) (c := true) (c2) fun _ A => ?_)
        refine Lo A rfl (y_pickT (A.g 28 rfl) (A.g 38 rfl) fun _ A => ?_)
        replace A := A.only [39, 15, 8, 7, 2, 1, 0] rfl
        refine hK8 _ _ ?_
        refine wp_cond_true (A.get rfl) ?_
        refine region_seq ?_  -- region 6
        refine Lm A rfl (A.g 7 rfl) fun _ A => Lo A rfl (y_add (A.g 40 rfl) (evc _ _) (c := ((((R.way.take i).filter (isw a b)).length + 1 : Nat) : Int)) ((wrap64 (by omega)).trans (by omega)) fun _ A => ?_)
        refine La A rfl (A.g 41 rfl) fun _ A => ?_
        replace A := A.only [39, 15, 8, 7, 2, 1, 0] rfl
        refine hK7 _ _ ?_
        refine region_seq ?_  -- region 4
        refine Lm A rfl (A.g 8 rfl) fun _ A => Lo A rfl (y_add (A.g 16 rfl) (evc _ _) (c := ((i + 1 : Nat) : Int)) ((wrap64 (by omega)).trans (by omega)) fun _ A => ?_)
        refine La A rfl (A.g 17 rfl) fun _ A => ?_
        replace A := A.only [39, 15, 8, 7, 2, 1, 0] rfl
        replace A := A.only [8, 7, 2, 1, 0] rfl
        rw [show isw a b g.d = true by simp [isw, c1, c2]] at hnx
        exact ⟨kk - 1, by omega, i + 1, by omega, by rw [hnx]; exact A, S⟩
  · obtain rfl : i = gs.length := by omega
    rw [hgl, List.take_length] at A
    refine wp_seq_k fun K5 hK5 => ?_
    refine wp_seq_k fun K6 hK6 => ?_
    refine region_seq ?_  -- region 3
    refine Lm A rfl (A.g 8 rfl) fun _ A => Lm A rfl (A.g 0 rfl) fun _ A => Lo A rfl (y_nilCheck (A.g 10 rfl) fun _ A => ?_)
    refine Lo A rfl (y_fieldAddr (off := 3) (j := 3) (by kernel_rfl) (A.g 11 rfl) (by first | rfl | omega) fun _ A => ?_)
    replace A := A.only [12, 9, 8, 7, 2, 1, 0] rfl
    refine Lo A rfl (y_load (by kernel_rfl) (A.g 12 rfl) ((cell_of (S.kp.heap' hp (by simp)) _).trans rfl) fun _ A => ?_)
    refine Lo A rfl (y_lenS (e := 93) (by kernel_rfl) (A.g 13 rfl) fun _ A => ?_)
    refine Lo A rfl (y_lss (A.g 9 rfl) (A.g 14 rfl) (c := false) (decide_eq_false (by omega)) fun _ A => ?_)
    replace A := A.only [15, 8, 7, 2, 1, 0] rfl
    refine hK6 _ _ ?_
    refine wp_cond_false (A.get rfl) ?_
    refine wp_exit ?_
    refine hK3 _ _ ?_
    refine wp_seq_k fun K7 hK7 => ?_
    refine region_seq ?_  -- region 7
    refine Lm A rfl (A.g 7 rfl) fun _ A => La A rfl (A.g 42 rfl) fun _ A => ?_
    replace A := A.only [15, 8, 7, 6, 2, 1, 0] rfl
    refine hK7 _ _ ?_
    exact wp_ret ⟨A.defers, _, res_run (rs := [.tmp 6]) (vs := [.int .i64 ((((R.way.filter (isw a b)).length : Nat) : Int))]) rfl ⟨A.get rfl, trivial⟩, ⟨_, rfl, S.kp.to_gr, [], ⟨rfl, rfl⟩, NewF.nil _ _⟩⟩

set_option maxRecDepth 20000 in
set_option maxHeartbeats 4000000 in
theorem ropen_ok (h : RefS w0 p R la lc ca cc wa wc gs) : Calls Try.prog 56 #[.pointer (some ⟨p, 0, none⟩), .int .i64 a, .int .i64 b] w0 (RetN w0 (eqv (.bool (R.open' a b)))) := by
  have hp := h.hp
  have hfew := h.few
  have hsame := h.same
  have hlk : ∀ w, Gr w0 w → Calls Try.prog 46 #[.pointer (some ⟨p, 0, none⟩), .int .i64 a, .int .i64 b] w (RetN w (eqv (.int .i64 (R.link a b)))) := fun w g => rlink_ok (h.gr g)
  unfold RM.open' RM.link at *
  cases hx : R.links.findIdx? (hitl a b) with
  | none =>
    simp only [hx] at hlk
    refine enter Try.func56 rfl (n := 24) rfl (Nat.le_of_ble_eq_true rfl) fun _ A => ?_
    have S : St _ _ _ [] := St.none w0
    refine wp_seq_k fun K1 hK1 => ?_
    refine region_seq ?_  -- region 0
    refine La A rfl (evc _ _) fun _ A => ?_
    replace A := A.only [6, 2, 1, 0] rfl
    refine hK1 _ _ ?_
    refine wp_seq_k fun K2 hK2 => ?_
    refine region_seq ?_  -- region 1
    refine Lm A rfl (A.g 0 rfl) fun _ A => Lm A rfl (A.g 1 rfl) fun _ A => Lm A rfl (A.g 2 rfl) fun _ A => Lo A rfl (y_call3 (by kernel_rfl) rfl (A.g 8 rfl) (A.g 9 rfl) (A.g 10 rfl) (callN (hlk _ S.kp.to_gr) fun v w H gG nN hf ac A => ?_))
    obtain ⟨rfl, rfl⟩ := hf
    replace S : St _ _ _ [] := S.new gG nN
    refine La A rfl (A.g 11 rfl) fun _ A => ?_
    replace A := A.only [7, 6, 2, 1, 0] rfl
    refine hK2 _ _ ?_
    refine wp_seq_k fun K3 hK3 => ?_
    refine region_seq ?_  -- region 2
    refine Lm A rfl (A.g 7 rfl) fun _ A => Lo A rfl (y_geq (A.g 12 rfl) (evc _ _) (c := false) (by decide) fun _ A => ?_)
    refine Lm A rfl (A.g 13 rfl) fun _ A => L_no A rfl (by decide) rfl rfl (by decide) (A.get rfl) (by decide) fun _ A => ?_
    replace A := A.only [15, 14, 7, 6, 2, 1, 0] rfl
    refine L_no A rfl (by decide) rfl rfl (by decide) (A.get rfl) (by decide) fun _ A => ?_
    refine L_no A rfl (by decide) rfl rfl (by decide) (A.get rfl) (by decide) fun _ A => ?_
    refine L_no A rfl (by decide) rfl rfl (by decide) (A.get rfl) (by decide) fun _ A => ?_
    refine L_no A rfl (by decide) rfl rfl (by decide) (A.get rfl) (by decide) fun _ A => ?_
    replace A := A.only [19, 18, 14, 7, 6, 2, 1, 0] rfl
    refine L_no A rfl (by decide) rfl rfl (by decide) (A.get rfl) (by decide) fun _ A => ?_
    refine L_no A rfl (by decide) rfl rfl (by decide) (A.get rfl) (by decide) fun _ A => ?_
    refine L_no A rfl (by decide) rfl rfl (by decide) (A.get rfl) (by decide) fun _ A => ?_
    refine Lo A rfl (y_pickF (A.g 14 rfl) (evc _ _) fun _ A => ?_)
    replace A := A.only [23, 7, 6, 2, 1, 0] rfl
    refine La A rfl (A.g 23 rfl) fun _ A => ?_
    replace A := A.only [7, 6, 2, 1, 0] rfl
    refine hK3 _ _ ?_
    exact wp_ret ⟨A.defers, _, res_run (rs := [.tmp 6]) (vs := [.bool false]) rfl ⟨A.get rfl, trivial⟩, ⟨_, rfl, S.kp.to_gr, [], ⟨rfl, rfl⟩, NewF.nil _ _⟩⟩
  | some i =>
    simp only [hx] at hlk
    have hi : i < R.links.length := by have := List.findIdx?_eq_some_iff_getElem.1 hx; exact this.1
    obtain ⟨c, hci⟩ : ∃ c, R.cuts[i]? = some c := ⟨_, List.getElem?_eq_getElem (by omega)⟩
    obtain ⟨va, vc, hva, hcell⟩ := cut_at h.cuts hci
    simp only [Value.slice.injEq] at hva; obtain ⟨rfl, -, rfl⟩ := hva
    have hc : R.cuts.getD i true = c := by simp [hci]
    simp only [hc]
    refine enter Try.func56 rfl (n := 24) rfl (Nat.le_of_ble_eq_true rfl) fun _ A => ?_
    have S : St _ _ _ [] := St.none w0
    refine wp_seq_k fun K1 hK1 => ?_
    refine region_seq ?_  -- region 0
    refine La A rfl (evc _ _) fun _ A => ?_
    replace A := A.only [6, 2, 1, 0] rfl
    refine hK1 _ _ ?_
    refine wp_seq_k fun K2 hK2 => ?_
    refine region_seq ?_  -- region 1
    refine Lm A rfl (A.g 0 rfl) fun _ A => Lm A rfl (A.g 1 rfl) fun _ A => Lm A rfl (A.g 2 rfl) fun _ A => Lo A rfl (y_call3 (by kernel_rfl) rfl (A.g 8 rfl) (A.g 9 rfl) (A.g 10 rfl) (callN (hlk _ S.kp.to_gr) fun v w H gG nN hf ac A => ?_))
    obtain ⟨rfl, rfl⟩ := hf
    replace S : St _ _ _ [] := S.new gG nN
    refine La A rfl (A.g 11 rfl) fun _ A => ?_
    replace A := A.only [7, 6, 2, 1, 0] rfl
    refine hK2 _ _ ?_
    refine wp_seq_k fun K3 hK3 => ?_
    refine region_seq ?_  -- region 2
    refine Lm A rfl (A.g 7 rfl) fun _ A => Lo A rfl (y_geq (A.g 12 rfl) (evc _ _) (c := true) (decide_eq_true (by omega)) fun _ A => ?_)
    refine Lm A rfl (A.g 13 rfl) fun _ A => L_yes A rfl (by decide) rfl rfl (by decide) (A.get rfl) (y_move (A.g 0 rfl) fun _ A => ?_)
    replace A := A.only [15, 14, 7, 6, 2, 1, 0] rfl
    refine L_yes A rfl (by decide) rfl rfl (by decide) (A.get rfl) (y_nilCheck (A.g 15 rfl) fun _ A => ?_)
    refine L_yes A rfl (by decide) rfl rfl (by decide) (A.get rfl) (y_fieldAddr (off := 2) (j := 2) (by kernel_rfl) (A.g 16 rfl) (by first | rfl | omega) fun _ A => ?_)
    refine L_yes A rfl (by decide) rfl rfl (by decide) (A.get rfl) (y_load (by kernel_rfl) (A.g 17 rfl) ((cell_of (S.kp.heap' hp (by simp)) _).trans rfl) fun _ A => ?_)
    refine L_yes A rfl (by decide) rfl rfl (by decide) (A.get rfl) (y_move (A.g 7 rfl) fun _ A => ?_)
    replace A := A.only [19, 18, 14, 7, 6, 2, 1, 0] rfl
    refine L_yes A rfl (by decide) rfl rfl (by decide) (A.get rfl) (y_indexA (e := 4) (size := 1) (by kernel_rfl) (by kernel_rfl) (A.g 18 rfl) (A.g 19 rfl) (by omega) (by omega) fun _ A => ?_)
    refine L_yes A rfl (by decide) rfl rfl (by decide) (A.get rfl) (y_load (by kernel_rfl) (A.g 20 rfl) (S.kp.cell' hcell (by simp)) fun _ A => ?_)
    refine L_yes A rfl (by decide) rfl rfl (by decide) (A.get rfl) (y_not (A.g 21 rfl) rfl fun _ A => ?_)
    refine Lo A rfl (y_pickT (A.g 14 rfl) (A.g 22 rfl) fun _ A => ?_)
    replace A := A.only [23, 7, 6, 2, 1, 0] rfl
    refine La A rfl (A.g 23 rfl) fun _ A => ?_
    replace A := A.only [7, 6, 2, 1, 0] rfl
    refine hK3 _ _ ?_
    exact wp_ret ⟨A.defers, _, res_run (rs := [.tmp 6]) (vs := [.bool (!c)]) rfl ⟨A.get rfl, trivial⟩, ⟨_, rfl, S.kp.to_gr, [], ⟨rfl, rfl⟩, NewF.nil _ _⟩⟩

set_option maxRecDepth 20000 in
set_option maxHeartbeats 4000000 in
theorem rat_ok (h : RefS w0 p R la lc ca cc wa wc gs) (hw : R.way.length ≤ 1000000) : Calls Try.prog 59 #[.pointer (some ⟨p, 0, none⟩), .int .i64 a, .int .i64 b, .int .i64 i] w0 (RetN w0 (eqv (.tuple #[.int .i64 (R.at a b i).1, .int .i64 (R.at a b i).2]))) := by
  have hp := h.hp
  have hgl : gs.length = R.way.length := by rw [← h.gd]; simp [gmD]
  have hlk : ∀ w, Gr w0 w → Calls Try.prog 46 #[.pointer (some ⟨p, 0, none⟩), .int .i64 a, .int .i64 b] w (RetN w (eqv (.int .i64 (R.link a b)))) := fun w g => rlink_ok (h.gr g)
  by_cases hneg : R.link a b < 0
  · have hR : R.at a b i = (-1, 1) := by unfold RM.at; rw [if_pos hneg]
    rw [hR]
    refine enter Try.func59 rfl (n := 54) rfl (Nat.le_of_ble_eq_true rfl) fun _ A => ?_
    have S : St _ _ _ [] := St.none w0
    refine wp_seq_k fun K1 hK1 => ?_
    refine region_seq ?_  -- region 0
    refine La A rfl (evc _ _) fun _ A => La A rfl (evc _ _) fun _ A => ?_
    replace A := A.only [9, 8, 3, 2, 1, 0] rfl
    refine hK1 _ _ ?_
    refine wp_seq_k fun K2 hK2 => ?_
    refine wp_seq_k fun K3 hK3 => ?_
    refine region_seq ?_  -- region 1
    refine Lm A rfl (A.g 0 rfl) fun _ A => Lm A rfl (A.g 1 rfl) fun _ A => Lm A rfl (A.g 2 rfl) fun _ A => Lo A rfl (y_call3 (by kernel_rfl) rfl (A.g 12 rfl) (A.g 13 rfl) (A.g 14 rfl) (callN (hlk _ S.kp.to_gr) fun v w H gG nN hf ac A => ?_))
    obtain ⟨rfl, rfl⟩ := hf
    replace S : St _ _ _ [] := S.new gG nN
    refine Lo A rfl (y_lss (A.g 15 rfl) (evc _ _) (c := true) (decide_eq_true hneg) fun _ A => ?_)
    replace A := A.only [16, 9, 8, 3, 2, 1, 0] rfl
    refine hK3 _ _ ?_
    refine wp_cond_true (A.get rfl) ?_
    refine wp_seq_k fun K4 hK4 => ?_
    refine region_seq ?_  -- region 2
    refine La A rfl (evc _ _) fun _ A => La A rfl (evc _ _) fun _ A => ?_
    replace A := A.only [16, 9, 8, 3, 2, 1, 0] rfl
    refine hK4 _ _ ?_
    exact wp_ret ⟨A.defers, _, res_run (rs := [.tmp 8, .tmp 9]) (vs := [.int .i64 ((-1)), .int .i64 1]) rfl ⟨A.get rfl, A.get rfl, trivial⟩, ⟨_, rfl, S.kp.to_gr, [], ⟨by first | rfl | rw [hR], rfl⟩, NewF.nil _ _⟩⟩
  · have hR0 : R.at a b i = match atGo a b i R.way 0 0 with | some j => ((j : Nat), 0) | none => (-1, 5) := by unfold RM.at; rw [if_neg hneg]
    refine enter Try.func59 rfl (n := 54) rfl (Nat.le_of_ble_eq_true rfl) fun _ A => ?_
    have S : St _ _ _ [] := St.none w0
    refine wp_seq_k fun K1 hK1 => ?_
    refine region_seq ?_  -- region 0
    refine La A rfl (evc _ _) fun _ A => La A rfl (evc _ _) fun _ A => ?_
    replace A := A.only [9, 8, 3, 2, 1, 0] rfl
    refine hK1 _ _ ?_
    refine wp_seq_k fun K2 hK2 => ?_
    refine wp_seq_k fun K3 hK3 => ?_
    refine region_seq ?_  -- region 1
    refine Lm A rfl (A.g 0 rfl) fun _ A => Lm A rfl (A.g 1 rfl) fun _ A => Lm A rfl (A.g 2 rfl) fun _ A => Lo A rfl (y_call3 (by kernel_rfl) rfl (A.g 12 rfl) (A.g 13 rfl) (A.g 14 rfl) (callN (hlk _ S.kp.to_gr) fun v w H gG nN hf ac A => ?_))
    obtain ⟨rfl, rfl⟩ := hf
    replace S : St _ _ _ [] := S.new gG nN
    refine Lo A rfl (y_lss (A.g 15 rfl) (evc _ _) (c := false) (decide_eq_false hneg) fun _ A => ?_)
    replace A := A.only [16, 9, 8, 3, 2, 1, 0] rfl
    refine hK3 _ _ ?_
    refine wp_cond_false (A.get rfl) ?_
    refine wp_skip ?_
    refine hK2 _ _ ?_
    refine wp_seq_k fun K4 hK4 => ?_
    refine region_seq ?_  -- region 3
    refine La A rfl (evc _ _) fun _ A => ?_
    replace A := A.only [16, 10, 9, 8, 3, 2, 1, 0] rfl
    refine hK4 _ _ ?_
    refine wp_seq_k fun K5 hK5 => ?_
    refine wp_seq_k fun K6 hK6 => ?_
    refine region_seq ?_  -- region 4
    refine La A rfl (evc _ _) fun _ A => ?_
    replace A := A.only [16, 11, 10, 9, 8, 3, 2, 1, 0] rfl
    refine hK6 _ _ ?_
    refine wp_block ?_
    replace A := A.only [11, 10, 3, 2, 1, 0] rfl
    refine wp_loop_ghost (fun kk ac w' => ∃ (z k : Nat), kk + z = gs.length ∧ k ≤ z ∧ atGo a b i (R.way.drop z) z ((k : Nat) : Int) = atGo a b i R.way 0 0 ∧ Sl 54 ac [(0, .pointer (some ⟨p, 0, none⟩)), (1, .int .i64 a), (2, .int .i64 b), (3, .int .i64 i), (10, .int .i64 ((k : Nat) : Int)), (11, .int .i64 ((z : Nat) : Int))] ∧ St [] w0 w' []) gs.length ⟨0, 0, by simp, by simp, by simp, A, S⟩ ?_
    clear A S
    rintro kk ac w2 ⟨z, k, hkk, hkz, hgo, A, S⟩
    rcases Nat.lt_or_ge z gs.length with hi | hi
    · obtain ⟨g, hli⟩ : ∃ g, gs[z]? = some g := ⟨_, List.getElem?_eq_getElem hi⟩
      obtain ⟨va, vc, hva, hrow⟩ := gm_row h.way hli
      simp only [Value.slice.injEq] at hva; obtain ⟨rfl, -, rfl⟩ := hva
      have hRi := gs_get h.gd hli
      have hdrop : R.way.drop z = g.d :: R.way.drop (z + 1) := by rw [List.drop_eq_getElem_cons (by omega)]; congr 1; rw [List.getElem?_eq_getElem (by omega)] at hRi; exact Option.some.inj hRi
      rw [hdrop, atGo] at hgo
      cases c1 : (g.d.f == a) with
      | false =>
        rw [if_neg (by simp [isw, c1])] at hgo
        refine wp_seq_k fun K7 hK7 => ?_
        refine wp_seq_k fun K8 hK8 => ?_
        refine region_seq ?_  -- region 5
        refine Lm A rfl (A.g 11 rfl) fun _ A => Lm A rfl (A.g 0 rfl) fun _ A => Lo A rfl (y_nilCheck (A.g 18 rfl) fun _ A => ?_)
        refine Lo A rfl (y_fieldAddr (off := 3) (j := 3) (by kernel_rfl) (A.g 19 rfl) (by first | rfl | omega) fun _ A => ?_)
        replace A := A.only [20, 17, 11, 10, 3, 2, 1, 0] rfl
        refine Lo A rfl (y_load (by kernel_rfl) (A.g 20 rfl) ((cell_of (S.kp.heap' hp (by simp)) _).trans rfl) fun _ A => ?_)
        refine Lo A rfl (y_lenS (e := 93) (by kernel_rfl) (A.g 21 rfl) fun _ A => ?_)
        refine Lo A rfl (y_lss (A.g 17 rfl) (A.g 22 rfl) (c := true) (decide_eq_true (by omega)) fun _ A => ?_)
        replace A := A.only [23, 11, 10, 3, 2, 1, 0] rfl
        refine hK8 _ _ ?_
        refine wp_cond_true (A.get rfl) ?_
        refine wp_skip ?_
        refine hK7 _ _ ?_
        refine wp_seq_k fun K9 hK9 => ?_
        refine wp_block ?_
        refine wp_seq_k fun K10 hK10 => ?_
        refine region_seq ?_  -- region 7
        refine Lm A rfl (A.g 0 rfl) fun _ A => Lo A rfl (y_nilCheck (A.g 26 rfl) fun _ A => ?_)
        refine Lo A rfl (y_fieldAddr (off := 3) (j := 3) (by kernel_rfl) (A.g 27 rfl) (by first | rfl | omega) fun _ A => ?_)
        refine Lo A rfl (y_load (by kernel_rfl) (A.g 28 rfl) ((cell_of (S.kp.heap' hp (by simp)) _).trans rfl) fun _ A => ?_)
        replace A := A.only [29, 23, 11, 10, 3, 2, 1, 0] rfl
        refine Lm A rfl (A.g 11 rfl) fun _ A => Lo A rfl (y_indexA (e := 93) (size := 4) (by kernel_rfl) (by kernel_rfl) (A.g 29 rfl) (A.g 30 rfl) (by omega) (by omega) fun _ A => ?_)
        refine Lo A rfl (y_fieldA (off := 0) (by kernel_rfl) (A.g 31 rfl) fun _ A => ?_)
        refine Lo A rfl (y_load (by kernel_rfl) (A.g 32 rfl) (S.kp.cell' (hrow 0 (Nat.le_of_ble_eq_true rfl)) (by simp)) fun _ A => ?_)
        replace A := A.only [33, 23, 11, 10, 3, 2, 1, 0] rfl
        refine Lm A rfl (A.g 1 rfl) fun _ A => Lo A rfl (y_eql (A.g 33 rfl) (A.g 34 rfl) (c := false) (c1) fun _ A => ?_)
        refine Lm A rfl (A.g 35 rfl) fun _ A => L_no A rfl (by decide) rfl rfl (by decide) (A.get rfl) (by decide) fun _ A => ?_
        replace A := A.only [37, 36, 23, 11, 10, 3, 2, 1, 0] rfl
        refine L_no A rfl (by decide) rfl rfl (by decide) (A.get rfl) (by decide) fun _ A => ?_
        refine L_no A rfl (by decide) rfl rfl (by decide) (A.get rfl) (by decide) fun _ A => ?_
        refine L_no A rfl (by decide) rfl rfl (by decide) (A.get rfl) (by decide) fun _ A => ?_
        refine L_no A rfl (by decide) rfl rfl (by decide) (A.get rfl) (by decide) fun _ A => ?_
        replace A := A.only [41, 40, 36, 23, 11, 10, 3, 2, 1, 0] rfl
        refine L_no A rfl (by decide) rfl rfl (by decide) (A.get rfl) (by decide) fun _ A => ?_
        refine L_no A rfl (by decide) rfl rfl (by decide) (A.get rfl) (by decide) fun _ A => ?_
        refine L_no A rfl (by decide) rfl rfl (by decide) (A.get rfl) (by decide) fun _ A => ?_
        refine L_no A rfl (by decide) rfl rfl (by decide) (A.get rfl) (by decide) fun _ A => ?_
        replace A := A.only [45, 44, 36, 23, 11, 10, 3, 2, 1, 0] rfl
        refine L_no A rfl (by decide) rfl rfl (by decide) (A.get rfl) (by decide) fun _ A => ?_
        refine Lo A rfl (y_pickF (A.g 36 rfl) (evc _ _) fun _ A => ?_)
        replace A := A.only [47, 23, 11, 10, 3, 2, 1, 0] rfl
        refine hK10 _ _ ?_
        refine wp_cond_false (A.get rfl) ?_
        refine wp_skip ?_
        refine hK9 _ _ ?_
        refine region_seq ?_  -- region 6
        refine Lm A rfl (A.g 11 rfl) fun _ A => Lo A rfl (y_add (A.g 24 rfl) (evc _ _) (c := ((z + 1 : Nat) : Int)) ((wrap64 (by omega)).trans (by omega)) fun _ A => ?_)
        refine La A rfl (A.g 25 rfl) fun _ A => ?_
        replace A := A.only [47, 23, 11, 10, 3, 2, 1, 0] rfl
        replace A := A.only [11, 10, 3, 2, 1, 0] rfl
        exact ⟨kk - 1, by omega, z + 1, k, by omega, by omega, (by simpa using hgo), A, S⟩
      | true =>
        cases c2 : (g.d.t == b) with
        | false =>
          rw [if_neg (by simp [isw, c1, c2])] at hgo
          refine wp_seq_k fun K7 hK7 => ?_
          refine wp_seq_k fun K8 hK8 => ?_
          refine region_seq ?_  -- region 5
          refine Lm A rfl (A.g 11 rfl) fun _ A => Lm A rfl (A.g 0 rfl) fun _ A => Lo A rfl (y_nilCheck (A.g 18 rfl) fun _ A => ?_)
          refine Lo A rfl (y_fieldAddr (off := 3) (j := 3) (by kernel_rfl) (A.g 19 rfl) (by first | rfl | omega) fun _ A => ?_)
          replace A := A.only [20, 17, 11, 10, 3, 2, 1, 0] rfl
          refine Lo A rfl (y_load (by kernel_rfl) (A.g 20 rfl) ((cell_of (S.kp.heap' hp (by simp)) _).trans rfl) fun _ A => ?_)
          refine Lo A rfl (y_lenS (e := 93) (by kernel_rfl) (A.g 21 rfl) fun _ A => ?_)
          refine Lo A rfl (y_lss (A.g 17 rfl) (A.g 22 rfl) (c := true) (decide_eq_true (by omega)) fun _ A => ?_)
          replace A := A.only [23, 11, 10, 3, 2, 1, 0] rfl
          refine hK8 _ _ ?_
          refine wp_cond_true (A.get rfl) ?_
          refine wp_skip ?_
          refine hK7 _ _ ?_
          refine wp_seq_k fun K9 hK9 => ?_
          refine wp_block ?_
          refine wp_seq_k fun K10 hK10 => ?_
          refine region_seq ?_  -- region 7
          refine Lm A rfl (A.g 0 rfl) fun _ A => Lo A rfl (y_nilCheck (A.g 26 rfl) fun _ A => ?_)
          refine Lo A rfl (y_fieldAddr (off := 3) (j := 3) (by kernel_rfl) (A.g 27 rfl) (by first | rfl | omega) fun _ A => ?_)
          refine Lo A rfl (y_load (by kernel_rfl) (A.g 28 rfl) ((cell_of (S.kp.heap' hp (by simp)) _).trans rfl) fun _ A => ?_)
          replace A := A.only [29, 23, 11, 10, 3, 2, 1, 0] rfl
          refine Lm A rfl (A.g 11 rfl) fun _ A => Lo A rfl (y_indexA (e := 93) (size := 4) (by kernel_rfl) (by kernel_rfl) (A.g 29 rfl) (A.g 30 rfl) (by omega) (by omega) fun _ A => ?_)
          refine Lo A rfl (y_fieldA (off := 0) (by kernel_rfl) (A.g 31 rfl) fun _ A => ?_)
          refine Lo A rfl (y_load (by kernel_rfl) (A.g 32 rfl) (S.kp.cell' (hrow 0 (Nat.le_of_ble_eq_true rfl)) (by simp)) fun _ A => ?_)
          replace A := A.only [33, 23, 11, 10, 3, 2, 1, 0] rfl
          refine Lm A rfl (A.g 1 rfl) fun _ A => Lo A rfl (y_eql (A.g 33 rfl) (A.g 34 rfl) (c := true) (c1) fun _ A => ?_)
          refine Lm A rfl (A.g 35 rfl) fun _ A => L_yes A rfl (by decide) rfl rfl (by decide) (A.get rfl) (y_move (A.g 0 rfl) fun _ A => ?_)
          replace A := A.only [37, 36, 23, 11, 10, 3, 2, 1, 0] rfl
          refine L_yes A rfl (by decide) rfl rfl (by decide) (A.get rfl) (y_nilCheck (A.g 37 rfl) fun _ A => ?_)
          refine L_yes A rfl (by decide) rfl rfl (by decide) (A.get rfl) (y_fieldAddr (off := 3) (j := 3) (by kernel_rfl) (A.g 38 rfl) (by first | rfl | omega) fun _ A => ?_)
          refine L_yes A rfl (by decide) rfl rfl (by decide) (A.get rfl) (y_load (by kernel_rfl) (A.g 39 rfl) ((cell_of (S.kp.heap' hp (by simp)) _).trans rfl) fun _ A => ?_)
          refine L_yes A rfl (by decide) rfl rfl (by decide) (A.get rfl) (y_move (A.g 11 rfl) fun _ A => ?_)
          replace A := A.only [41, 40, 36, 23, 11, 10, 3, 2, 1, 0] rfl
          refine L_yes A rfl (by decide) rfl rfl (by decide) (A.get rfl) (y_indexA (e := 93) (size := 4) (by kernel_rfl) (by kernel_rfl) (A.g 40 rfl) (A.g 41 rfl) (by omega) (by omega) fun _ A => ?_)
          refine L_yes A rfl (by decide) rfl rfl (by decide) (A.get rfl) (y_fieldA (off := 1) (by kernel_rfl) (A.g 42 rfl) fun _ A => ?_)
          refine L_yes A rfl (by decide) rfl rfl (by decide) (A.get rfl) (y_load (by kernel_rfl) (A.g 43 rfl) (S.kp.cell' (hrow 1 (Nat.le_of_ble_eq_true rfl)) (by simp)) fun _ A => ?_)
          refine L_yes A rfl (by decide) rfl rfl (by decide) (A.get rfl) (y_move (A.g 2 rfl) fun _ A => ?_)
          replace A := A.only [45, 44, 36, 23, 11, 10, 3, 2, 1, 0] rfl
          refine L_yes A rfl (by decide) rfl rfl (by decide) (A.get rfl) (y_eql (A.g 44 rfl) (A.g 45 rfl) (c := false) (c2) fun _ A => ?_)
          refine Lo A rfl (y_pickT (A.g 36 rfl) (A.g 46 rfl) fun _ A => ?_)
          replace A := A.only [47, 23, 11, 10, 3, 2, 1, 0] rfl
          refine hK10 _ _ ?_
          refine wp_cond_false (A.get rfl) ?_
          refine wp_skip ?_
          refine hK9 _ _ ?_
          refine region_seq ?_  -- region 6
          refine Lm A rfl (A.g 11 rfl) fun _ A => Lo A rfl (y_add (A.g 24 rfl) (evc _ _) (c := ((z + 1 : Nat) : Int)) ((wrap64 (by omega)).trans (by omega)) fun _ A => ?_)
          refine La A rfl (A.g 25 rfl) fun _ A => ?_
          replace A := A.only [47, 23, 11, 10, 3, 2, 1, 0] rfl
          replace A := A.only [11, 10, 3, 2, 1, 0] rfl
          exact ⟨kk - 1, by omega, z + 1, k, by omega, by omega, (by simpa using hgo), A, S⟩
        | true =>
          rw [if_pos (by simp [isw, c1, c2])] at hgo
          by_cases c3 : ((k : Nat) : Int) = i
          · rw [if_pos c3] at hgo
            have hR : R.at a b i = (((z : Nat) : Int), 0) := by rw [hR0, ← hgo]
            rw [hR]
            refine wp_seq_k fun K7 hK7 => ?_
            refine wp_seq_k fun K8 hK8 => ?_
            refine region_seq ?_  -- region 5
            refine Lm A rfl (A.g 11 rfl) fun _ A => Lm A rfl (A.g 0 rfl) fun _ A => Lo A rfl (y_nilCheck (A.g 18 rfl) fun _ A => ?_)
            refine Lo A rfl (y_fieldAddr (off := 3) (j := 3) (by kernel_rfl) (A.g 19 rfl) (by first | rfl | omega) fun _ A => ?_)
            replace A := A.only [20, 17, 11, 10, 3, 2, 1, 0] rfl
            refine Lo A rfl (y_load (by kernel_rfl) (A.g 20 rfl) ((cell_of (S.kp.heap' hp (by simp)) _).trans rfl) fun _ A => ?_)
            refine Lo A rfl (y_lenS (e := 93) (by kernel_rfl) (A.g 21 rfl) fun _ A => ?_)
            refine Lo A rfl (y_lss (A.g 17 rfl) (A.g 22 rfl) (c := true) (decide_eq_true (by omega)) fun _ A => ?_)
            replace A := A.only [23, 11, 10, 3, 2, 1, 0] rfl
            refine hK8 _ _ ?_
            refine wp_cond_true (A.get rfl) ?_
            refine wp_skip ?_
            refine hK7 _ _ ?_
            refine wp_seq_k fun K9 hK9 => ?_
            refine wp_block ?_
            refine wp_seq_k fun K10 hK10 => ?_
            refine region_seq ?_  -- region 7
            refine Lm A rfl (A.g 0 rfl) fun _ A => Lo A rfl (y_nilCheck (A.g 26 rfl) fun _ A => ?_)
            refine Lo A rfl (y_fieldAddr (off := 3) (j := 3) (by kernel_rfl) (A.g 27 rfl) (by first | rfl | omega) fun _ A => ?_)
            refine Lo A rfl (y_load (by kernel_rfl) (A.g 28 rfl) ((cell_of (S.kp.heap' hp (by simp)) _).trans rfl) fun _ A => ?_)
            replace A := A.only [29, 23, 11, 10, 3, 2, 1, 0] rfl
            refine Lm A rfl (A.g 11 rfl) fun _ A => Lo A rfl (y_indexA (e := 93) (size := 4) (by kernel_rfl) (by kernel_rfl) (A.g 29 rfl) (A.g 30 rfl) (by omega) (by omega) fun _ A => ?_)
            refine Lo A rfl (y_fieldA (off := 0) (by kernel_rfl) (A.g 31 rfl) fun _ A => ?_)
            refine Lo A rfl (y_load (by kernel_rfl) (A.g 32 rfl) (S.kp.cell' (hrow 0 (Nat.le_of_ble_eq_true rfl)) (by simp)) fun _ A => ?_)
            replace A := A.only [33, 23, 11, 10, 3, 2, 1, 0] rfl
            refine Lm A rfl (A.g 1 rfl) fun _ A => Lo A rfl (y_eql (A.g 33 rfl) (A.g 34 rfl) (c := true) (c1) fun _ A => ?_)
            refine Lm A rfl (A.g 35 rfl) fun _ A => L_yes A rfl (by decide) rfl rfl (by decide) (A.get rfl) (y_move (A.g 0 rfl) fun _ A => ?_)
            replace A := A.only [37, 36, 23, 11, 10, 3, 2, 1, 0] rfl
            refine L_yes A rfl (by decide) rfl rfl (by decide) (A.get rfl) (y_nilCheck (A.g 37 rfl) fun _ A => ?_)
            refine L_yes A rfl (by decide) rfl rfl (by decide) (A.get rfl) (y_fieldAddr (off := 3) (j := 3) (by kernel_rfl) (A.g 38 rfl) (by first | rfl | omega) fun _ A => ?_)
            refine L_yes A rfl (by decide) rfl rfl (by decide) (A.get rfl) (y_load (by kernel_rfl) (A.g 39 rfl) ((cell_of (S.kp.heap' hp (by simp)) _).trans rfl) fun _ A => ?_)
            refine L_yes A rfl (by decide) rfl rfl (by decide) (A.get rfl) (y_move (A.g 11 rfl) fun _ A => ?_)
            replace A := A.only [41, 40, 36, 23, 11, 10, 3, 2, 1, 0] rfl
            refine L_yes A rfl (by decide) rfl rfl (by decide) (A.get rfl) (y_indexA (e := 93) (size := 4) (by kernel_rfl) (by kernel_rfl) (A.g 40 rfl) (A.g 41 rfl) (by omega) (by omega) fun _ A => ?_)
            refine L_yes A rfl (by decide) rfl rfl (by decide) (A.get rfl) (y_fieldA (off := 1) (by kernel_rfl) (A.g 42 rfl) fun _ A => ?_)
            refine L_yes A rfl (by decide) rfl rfl (by decide) (A.get rfl) (y_load (by kernel_rfl) (A.g 43 rfl) (S.kp.cell' (hrow 1 (Nat.le_of_ble_eq_true rfl)) (by simp)) fun _ A => ?_)
            refine L_yes A rfl (by decide) rfl rfl (by decide) (A.get rfl) (y_move (A.g 2 rfl) fun _ A => ?_)
            replace A := A.only [45, 44, 36, 23, 11, 10, 3, 2, 1, 0] rfl
            refine L_yes A rfl (by decide) rfl rfl (by decide) (A.get rfl) (y_eql (A.g 44 rfl) (A.g 45 rfl) (c := true) (c2) fun _ A => ?_)
            refine Lo A rfl (y_pickT (A.g 36 rfl) (A.g 46 rfl) fun _ A => ?_)
            replace A := A.only [47, 23, 11, 10, 3, 2, 1, 0] rfl
            refine hK10 _ _ ?_
            refine wp_cond_true (A.get rfl) ?_
            refine wp_seq_k fun K11 hK11 => ?_
            refine wp_seq_k fun K12 hK12 => ?_
            refine region_seq ?_  -- region 8
            refine Lm A rfl (A.g 10 rfl) fun _ A => Lm A rfl (A.g 3 rfl) fun _ A => Lo A rfl (y_eql (A.g 48 rfl) (A.g 49 rfl) (c := true) (by simpa using c3) fun _ A => ?_)
            replace A := A.only [50, 47, 23, 11, 10, 3, 2, 1, 0] rfl
            refine hK12 _ _ ?_
            refine wp_cond_true (A.get rfl) ?_
            refine wp_seq_k fun K13 hK13 => ?_
            refine region_seq ?_  -- region 9
            refine Lm A rfl (A.g 11 rfl) fun _ A => La A rfl (A.g 51 rfl) fun _ A => La A rfl (evc _ _) fun _ A => ?_
            replace A := A.only [50, 47, 23, 11, 10, 9, 8, 3, 2, 1, 0] rfl
            refine hK13 _ _ ?_
            exact wp_ret ⟨A.defers, _, res_run (rs := [.tmp 8, .tmp 9]) (vs := [.int .i64 (((z : Nat) : Int)), .int .i64 0]) rfl ⟨A.get rfl, A.get rfl, trivial⟩, ⟨_, rfl, S.kp.to_gr, [], ⟨by first | rfl | rw [hR], rfl⟩, NewF.nil _ _⟩⟩
          · rw [if_neg c3] at hgo
            refine wp_seq_k fun K7 hK7 => ?_
            refine wp_seq_k fun K8 hK8 => ?_
            refine region_seq ?_  -- region 5
            refine Lm A rfl (A.g 11 rfl) fun _ A => Lm A rfl (A.g 0 rfl) fun _ A => Lo A rfl (y_nilCheck (A.g 18 rfl) fun _ A => ?_)
            refine Lo A rfl (y_fieldAddr (off := 3) (j := 3) (by kernel_rfl) (A.g 19 rfl) (by first | rfl | omega) fun _ A => ?_)
            replace A := A.only [20, 17, 11, 10, 3, 2, 1, 0] rfl
            refine Lo A rfl (y_load (by kernel_rfl) (A.g 20 rfl) ((cell_of (S.kp.heap' hp (by simp)) _).trans rfl) fun _ A => ?_)
            refine Lo A rfl (y_lenS (e := 93) (by kernel_rfl) (A.g 21 rfl) fun _ A => ?_)
            refine Lo A rfl (y_lss (A.g 17 rfl) (A.g 22 rfl) (c := true) (decide_eq_true (by omega)) fun _ A => ?_)
            replace A := A.only [23, 11, 10, 3, 2, 1, 0] rfl
            refine hK8 _ _ ?_
            refine wp_cond_true (A.get rfl) ?_
            refine wp_skip ?_
            refine hK7 _ _ ?_
            refine wp_seq_k fun K9 hK9 => ?_
            refine wp_block ?_
            refine wp_seq_k fun K10 hK10 => ?_
            refine region_seq ?_  -- region 7
            refine Lm A rfl (A.g 0 rfl) fun _ A => Lo A rfl (y_nilCheck (A.g 26 rfl) fun _ A => ?_)
            refine Lo A rfl (y_fieldAddr (off := 3) (j := 3) (by kernel_rfl) (A.g 27 rfl) (by first | rfl | omega) fun _ A => ?_)
            refine Lo A rfl (y_load (by kernel_rfl) (A.g 28 rfl) ((cell_of (S.kp.heap' hp (by simp)) _).trans rfl) fun _ A => ?_)
            replace A := A.only [29, 23, 11, 10, 3, 2, 1, 0] rfl
            refine Lm A rfl (A.g 11 rfl) fun _ A => Lo A rfl (y_indexA (e := 93) (size := 4) (by kernel_rfl) (by kernel_rfl) (A.g 29 rfl) (A.g 30 rfl) (by omega) (by omega) fun _ A => ?_)
            refine Lo A rfl (y_fieldA (off := 0) (by kernel_rfl) (A.g 31 rfl) fun _ A => ?_)
            refine Lo A rfl (y_load (by kernel_rfl) (A.g 32 rfl) (S.kp.cell' (hrow 0 (Nat.le_of_ble_eq_true rfl)) (by simp)) fun _ A => ?_)
            replace A := A.only [33, 23, 11, 10, 3, 2, 1, 0] rfl
            refine Lm A rfl (A.g 1 rfl) fun _ A => Lo A rfl (y_eql (A.g 33 rfl) (A.g 34 rfl) (c := true) (c1) fun _ A => ?_)
            refine Lm A rfl (A.g 35 rfl) fun _ A => L_yes A rfl (by decide) rfl rfl (by decide) (A.get rfl) (y_move (A.g 0 rfl) fun _ A => ?_)
            replace A := A.only [37, 36, 23, 11, 10, 3, 2, 1, 0] rfl
            refine L_yes A rfl (by decide) rfl rfl (by decide) (A.get rfl) (y_nilCheck (A.g 37 rfl) fun _ A => ?_)
            refine L_yes A rfl (by decide) rfl rfl (by decide) (A.get rfl) (y_fieldAddr (off := 3) (j := 3) (by kernel_rfl) (A.g 38 rfl) (by first | rfl | omega) fun _ A => ?_)
            refine L_yes A rfl (by decide) rfl rfl (by decide) (A.get rfl) (y_load (by kernel_rfl) (A.g 39 rfl) ((cell_of (S.kp.heap' hp (by simp)) _).trans rfl) fun _ A => ?_)
            refine L_yes A rfl (by decide) rfl rfl (by decide) (A.get rfl) (y_move (A.g 11 rfl) fun _ A => ?_)
            replace A := A.only [41, 40, 36, 23, 11, 10, 3, 2, 1, 0] rfl
            refine L_yes A rfl (by decide) rfl rfl (by decide) (A.get rfl) (y_indexA (e := 93) (size := 4) (by kernel_rfl) (by kernel_rfl) (A.g 40 rfl) (A.g 41 rfl) (by omega) (by omega) fun _ A => ?_)
            refine L_yes A rfl (by decide) rfl rfl (by decide) (A.get rfl) (y_fieldA (off := 1) (by kernel_rfl) (A.g 42 rfl) fun _ A => ?_)
            refine L_yes A rfl (by decide) rfl rfl (by decide) (A.get rfl) (y_load (by kernel_rfl) (A.g 43 rfl) (S.kp.cell' (hrow 1 (Nat.le_of_ble_eq_true rfl)) (by simp)) fun _ A => ?_)
            refine L_yes A rfl (by decide) rfl rfl (by decide) (A.get rfl) (y_move (A.g 2 rfl) fun _ A => ?_)
            replace A := A.only [45, 44, 36, 23, 11, 10, 3, 2, 1, 0] rfl
            refine L_yes A rfl (by decide) rfl rfl (by decide) (A.get rfl) (y_eql (A.g 44 rfl) (A.g 45 rfl) (c := true) (c2) fun _ A => ?_)
            refine Lo A rfl (y_pickT (A.g 36 rfl) (A.g 46 rfl) fun _ A => ?_)
            replace A := A.only [47, 23, 11, 10, 3, 2, 1, 0] rfl
            refine hK10 _ _ ?_
            refine wp_cond_true (A.get rfl) ?_
            refine wp_seq_k fun K11 hK11 => ?_
            refine wp_seq_k fun K12 hK12 => ?_
            refine region_seq ?_  -- region 8
            refine Lm A rfl (A.g 10 rfl) fun _ A => Lm A rfl (A.g 3 rfl) fun _ A => Lo A rfl (y_eql (A.g 48 rfl) (A.g 49 rfl) (c := false) (by simpa using c3) fun _ A => ?_)
            replace A := A.only [50, 47, 23, 11, 10, 3, 2, 1, 0] rfl
            refine hK12 _ _ ?_
            refine wp_cond_false (A.get rfl) ?_
            refine wp_skip ?_
            refine hK11 _ _ ?_
            refine region_seq ?_  -- region 10
            refine Lm A rfl (A.g 10 rfl) fun _ A => Lo A rfl (y_add (A.g 52 rfl) (evc _ _) (c := ((k + 1 : Nat) : Int)) ((wrap64 (by omega)).trans (by omega)) fun _ A => ?_)
            refine La A rfl (A.g 53 rfl) fun _ A => ?_
            replace A := A.only [50, 47, 23, 11, 10, 3, 2, 1, 0] rfl
            refine hK9 _ _ ?_
            refine region_seq ?_  -- region 6
            refine Lm A rfl (A.g 11 rfl) fun _ A => Lo A rfl (y_add (A.g 24 rfl) (evc _ _) (c := ((z + 1 : Nat) : Int)) ((wrap64 (by omega)).trans (by omega)) fun _ A => ?_)
            refine La A rfl (A.g 25 rfl) fun _ A => ?_
            replace A := A.only [50, 47, 23, 11, 10, 3, 2, 1, 0] rfl
            replace A := A.only [11, 10, 3, 2, 1, 0] rfl
            exact ⟨kk - 1, by omega, z + 1, k + 1, by omega, by omega, (by simpa using hgo), A, S⟩
    · obtain rfl : z = gs.length := by omega
      rw [hgl, List.drop_length, atGo] at hgo
      have hR : R.at a b i = (-1, 5) := by rw [hR0, ← hgo]
      rw [hR]
      refine wp_seq_k fun K7 hK7 => ?_
      refine wp_seq_k fun K8 hK8 => ?_
      refine region_seq ?_  -- region 5
      refine Lm A rfl (A.g 11 rfl) fun _ A => Lm A rfl (A.g 0 rfl) fun _ A => Lo A rfl (y_nilCheck (A.g 18 rfl) fun _ A => ?_)
      refine Lo A rfl (y_fieldAddr (off := 3) (j := 3) (by kernel_rfl) (A.g 19 rfl) (by first | rfl | omega) fun _ A => ?_)
      replace A := A.only [20, 17, 11, 10, 3, 2, 1, 0] rfl
      refine Lo A rfl (y_load (by kernel_rfl) (A.g 20 rfl) ((cell_of (S.kp.heap' hp (by simp)) _).trans rfl) fun _ A => ?_)
      refine Lo A rfl (y_lenS (e := 93) (by kernel_rfl) (A.g 21 rfl) fun _ A => ?_)
      refine Lo A rfl (y_lss (A.g 17 rfl) (A.g 22 rfl) (c := false) (decide_eq_false (by omega)) fun _ A => ?_)
      replace A := A.only [23, 11, 10, 3, 2, 1, 0] rfl
      refine hK8 _ _ ?_
      refine wp_cond_false (A.get rfl) ?_
      refine wp_exit ?_
      refine hK5 _ _ ?_
      refine wp_seq_k fun K9 hK9 => ?_
      refine region_seq ?_  -- region 11
      refine La A rfl (evc _ _) fun _ A => La A rfl (evc _ _) fun _ A => ?_
      replace A := A.only [23, 11, 10, 9, 8, 3, 2, 1, 0] rfl
      refine hK9 _ _ ?_
      exact wp_ret ⟨A.defers, _, res_run (rs := [.tmp 8, .tmp 9]) (vs := [.int .i64 ((-1)), .int .i64 5]) rfl ⟨A.get rfl, A.get rfl, trivial⟩, ⟨_, rfl, S.kp.to_gr, [], ⟨by first | rfl | rw [hR], rfl⟩, NewF.nil _ _⟩⟩
end
end Go.Proofs.Ytaeidblipdjgnaa
