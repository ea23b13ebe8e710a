import Derived.Test.YtaeidblipdjgnaaReads
import Derived.Test.YtaeidblipdjgnaaEmpty
import Derived.Test.YtaeidblipdjgnaaRead
namespace Go.Proofs.Ytaeidblipdjgnaa
open Go.RowKit Go.Deep

/-- a call that is asked for -/
structure Ac where
  d : Int
  f : Int
  t : Int
  i : Int
  b : Int
  bs : List UInt8
def acCells (x : Ac) (u : Value) : List Value := [.int .i64 x.d, .int .i64 x.f, .int .i64 x.t, .int .i64 x.i, .int .i64 x.b, u]
def AcOk (x : Ac) : Prop := i64 x.d ∧ i64 x.f ∧ i64 x.t ∧ i64 x.i ∧ i64 x.b ∧ x.bs.length ≤ maxLen
def AcSrc (w : World) (v : Value) (l : List Ac) : Prop := ∃ X : Nat → List Value, l.length ≤ maxLen ∧ (∀ i, i < l.length → (X i).length = 6) ∧ Src w 6 v l.length ((List.range l.length).flatMap X) ∧ ∀ (i : Nat) (x : Ac), l[i]? = some x → ∃ u, X i = acCells x u ∧ BSrc w u x.bs ∧ AcOk x
theorem flat_get {X : Nat → List Value} {c : Nat} : ∀ {n : Nat}, (∀ i, i < n → (X i).length = c) → ∀ {i j : Nat}, i < n → j < c → ((List.range n).flatMap X)[i * c + j]? = (X i)[j]?
  | 0, _, i, _, hi, _ => by omega
  | n + 1, h, i, j, hi, hj => by
    have hl := flat_len (X := X) (c := c) (n := n) (fun i hi => h i (by omega))
    rw [List.range_succ, List.flatMap_append]
    by_cases hin : i < n
    · have : i * c + j < n * c := by
        have : (i + 1) * c ≤ n * c := Nat.mul_le_mul_right c (by omega)
        rw [Nat.add_mul] at this; omega
      rw [List.getElem?_append_left (by omega)]
      exact flat_get (n := n) (fun i hi => h i (by omega)) hin hj
    · obtain rfl : i = n := by omega
      rw [List.getElem?_append_right (by omega), hl]
      simp
theorem i64_wf {x : Int} (h : (Lit.int .i64 x).wf = true) : i64 x := by
  have e1 : IntKind.i64.min = -9223372036854775808 := by decide
  have e2 : IntKind.i64.max = 9223372036854775807 := by decide
  simp only [Lit.wf, e1, e2, Bool.and_eq_true, decide_eq_true_eq] at h; exact h
theorem maxLen_eq : maxLen = 9223372036854775807 := by kernel_rfl
theorem AcSrc.at {w : World} {v : Value} {l : List Ac} (h : AcSrc w v l) {i : Nat} {x : Ac} (hx : l[i]? = some x) : ∃ va vc ba bc, v = .slice (some va) l.length vc ∧ (∀ j (hj : j < (acCells x (.slice ba x.bs.length bc)).length), w.cell? ((va.add (((i : Nat) : Int).toNat * 6)).add j) = some (acCells x (.slice ba x.bs.length bc))[j]) ∧ BSrc w (.slice ba x.bs.length bc) x.bs ∧ AcOk x := by
  obtain ⟨X, _, hl, hs, hX⟩ := h
  have hi := lt_of_get hx
  obtain ⟨u, hu, hb, hok⟩ := hX i x hx
  obtain ⟨ba, bc, rfl⟩ := hb.slice
  obtain ⟨va, vc, hv, hc⟩ := hs.row hi
  refine ⟨va, vc, ba, bc, hv, fun j hj => ?_, hb, hok⟩
  have hj6 : j < 6 := by simpa [acCells] using hj
  have hlen := flat_len (X := X) (c := 6) (n := l.length) hl
  have hk : i * 6 + j < ((List.range l.length).flatMap X).length := by rw [hlen]; omega
  have := hc j hj6 hk
  simp only [Int.toNat_natCast]
  rw [this]
  have hg := flat_get hl hi hj6
  rw [List.getElem?_eq_getElem hk, hu, List.getElem?_eq_getElem hj] at hg
  exact hg
theorem TR.field {P : Program} {w : World} {t : TypeId} {cs : List Value} {fs : Array Field} (ht : P.underlying t = some (.struct fs)) (h : TR P w t cs) {k o n : Nat} {fd : Field} {ty : TypeId} (hk : fs[k]? = some fd) (ho : fd.offset = o) (hn : P.cellsOf ty = n) (hty : fd.type = ty) : TR P w ty ((cs.drop o).take n) := by
  have := (TR.struct ht h).2 fd (by have := Array.mem_of_getElem? hk; simpa using this)
  rw [ho, hty, hn] at this; exact this
theorem acts_of {w : World} {cs : List Value} (h : TR Try.prog w 37 cs) : ∃ v l, cs = [v] ∧ AcSrc w v l := by
  obtain ⟨v, n, X, rfl, hn, hX, hs⟩ := TR.slice (e := 57) (by kernel_rfl) h
  have hc : Try.prog.cellsOf 57 = 6 := by kernel_rfl
  rw [hc] at hs
  obtain ⟨g, hg⟩ := choose_lt (n := n) (α := Int × Int × Int × Int × Int × Value × List UInt8) (p := fun i b => X i = acCells ⟨b.1, b.2.1, b.2.2.1, b.2.2.2.1, b.2.2.2.2.1, b.2.2.2.2.2.2⟩ b.2.2.2.2.2.1 ∧ BSrc w b.2.2.2.2.2.1 b.2.2.2.2.2.2 ∧ AcOk ⟨b.1, b.2.1, b.2.2.1, b.2.2.2.1, b.2.2.2.2.1, b.2.2.2.2.2.2⟩) (fun i hi => by
    obtain ⟨hlen, hTR⟩ := hX i hi
    rw [hc] at hlen
    match hXi : X i, hlen with
    | [c0, c1, c2, c3, c4, c5], _ =>
      rw [hXi] at hTR
      obtain ⟨n0, e0, w0⟩ := TR.int (k := .i64) (cs := [c0]) (by kernel_rfl) (TR.field Try.underlying57 hTR (k := 0) (o := 0) (n := 1) rfl rfl (by kernel_rfl) rfl)
      obtain ⟨n1, e1, w1⟩ := TR.int (k := .i64) (cs := [c1]) (by kernel_rfl) (TR.field Try.underlying57 hTR (k := 1) (o := 1) (n := 1) rfl rfl (by kernel_rfl) rfl)
      obtain ⟨n2, e2, w2⟩ := TR.int (k := .i64) (cs := [c2]) (by kernel_rfl) (TR.field Try.underlying57 hTR (k := 2) (o := 2) (n := 1) rfl rfl (by kernel_rfl) rfl)
      obtain ⟨n3, e3, w3⟩ := TR.int (k := .i64) (cs := [c3]) (by kernel_rfl) (TR.field Try.underlying57 hTR (k := 3) (o := 3) (n := 1) rfl rfl (by kernel_rfl) rfl)
      obtain ⟨n4, e4, w4⟩ := TR.int (k := .i64) (cs := [c4]) (by kernel_rfl) (TR.field Try.underlying57 hTR (k := 4) (o := 4) (n := 1) rfl rfl (by kernel_rfl) rfl)
      obtain ⟨u, bs, e5, hb, hbl⟩ := bytes_of (cs := [c5]) (TR.field Try.underlying57 hTR (k := 5) (o := 5) (n := 1) rfl rfl (by kernel_rfl) rfl)
      simp only [List.cons.injEq, and_true] at e0 e1 e2 e3 e4 e5
      subst e0 e1 e2 e3 e4 e5
      exact ⟨(n0, n1, n2, n3, n4, c5, bs), rfl, hb, i64_wf w0, i64_wf w1, i64_wf w2, i64_wf w3, i64_wf w4, hbl⟩)
  let F : Nat → Ac := fun i => ⟨(g i).1, (g i).2.1, (g i).2.2.1, (g i).2.2.2.1, (g i).2.2.2.2.1, (g i).2.2.2.2.2.2⟩
  refine ⟨v, (List.range n).map F, rfl, X, by simpa using hn, fun i hi => ?_, by simpa using hs, fun i x hx => ?_⟩
  · have := (hX i (by simpa using hi)).1; rw [hc] at this; exact this
  · simp only [List.getElem?_map, Option.map_eq_some_iff] at hx
    obtain ⟨j, hj, rfl⟩ := hx
    have hin : i < n := by have := lt_of_get hj; simpa using this
    obtain rfl : j = i := by have : (List.range n)[i]? = some i := by simp [hin]
                             rw [this] at hj; exact (Option.some.inj hj).symm
    obtain ⟨h1, h2, h3⟩ := hg j hin
    exact ⟨_, h1, h2, h3⟩
/-- a field of a struct, wherever it lies -/
theorem y_fieldA {P : Program} {ρ : Operand → Value} {w : World} {Φ : Value → World → Prop} {d : Option Tmp} {ty : TypeId} {pos : String} {aft : Array Edge} {gd : Option (Nat × Bool)} {s : TypeId} {x : Operand} {a : Addr} {f off : Nat} (hf : fieldOff P s f = some off) (h : ρ x = .pointer (some a)) (hΦ : Φ (.pointer (some (a.add off))) w) : OpY P ⟨d, .fieldAddr s x f, ty, pos, aft, gd⟩ ρ w Φ :=
  .pure (by simp only [execOp, h, Sem.run_bind, run_fieldAt hf, Result.andThen_ok, Sem.run_pure]) hΦ
def fewN : Nat → List Ac → Bool
  | _, [] => true
  | n, x :: r => if 1000 < n + (1 + x.bs.length / 256) then false else fewN (n + (1 + x.bs.length / 256)) r
theorem fewN_len : ∀ {l : List Ac} {n : Nat}, fewN n l = true → n ≤ 1000 → n + l.length ≤ 1000
  | [], n, _, hn => by simpa using hn
  | x :: r, n, h, _ => by
    unfold fewN at h
    split at h
    · simp at h
    · have := fewN_len h (by omega)
      simp only [List.length_cons]; omega

set_option maxRecDepth 20000 in
set_option maxHeartbeats 4000000 in
theorem few_ok {w0 : World} {v : Value} {l : List Ac} (hs : AcSrc w0 v l) : Calls Try.prog 14 #[v] w0 (RetN w0 (eqv (.bool (fewN 0 l)))) := by
  obtain ⟨va, vc, rfl⟩ : ∃ a c, v = .slice a l.length c := by obtain ⟨_, _, _, h, _⟩ := hs; exact h.len'
  have hlen : l.length ≤ 9223372036854775807 := by obtain ⟨_, h, _⟩ := hs; rw [maxLen_eq] at h; exact h
  refine enter Try.func14 rfl (n := 23) rfl (Nat.le_of_ble_eq_true rfl) fun _ A => ?_
  have S : St _ _ _ [] := St.none w0
  refine wp_seq_k fun K1 hK1 => ?_
  refine region_seq ?_  -- region 0
  refine La A rfl (evc _ _) fun _ A => ?_
  replace A := A.only [2, 0] rfl
  refine hK1 _ _ ?_
  refine wp_seq_k fun K2 hK2 => ?_
  refine region_seq ?_  -- region 1
  refine La A rfl (evc _ _) fun _ A => ?_
  replace A := A.only [3, 2, 0] rfl
  refine hK2 _ _ ?_
  refine wp_seq_k fun K3 hK3 => ?_
  refine wp_seq_k fun K4 hK4 => ?_
  refine region_seq ?_  -- region 2
  refine La A rfl (evc _ _) fun _ A => ?_
  replace A := A.only [4, 3, 2, 0] rfl
  refine hK4 _ _ ?_
  refine wp_block ?_
  replace A := A.only [4, 3, 0] rfl
  refine wp_loop_ghost (fun kk ac w' => ∃ (i n : Nat), kk + i = l.length ∧ n ≤ 1000 ∧ fewN n (l.drop i) = fewN 0 l ∧ Sl 23 ac [(0, .slice va l.length vc), (3, .int .i64 ((n : Nat) : Int)), (4, .int .i64 ((i : Nat) : Int))] ∧ St [] w0 w' []) l.length ⟨0, 0, by simp, by simp, by simp, A, S⟩ ?_
  clear A S
  rintro kk ac w2 ⟨i, n, hkk, hn, hgo, A, S⟩
  rcases Nat.lt_or_ge i l.length with hi | hi
  · obtain ⟨x, hli⟩ : ∃ x, l[i]? = some x := ⟨_, List.getElem?_eq_getElem hi⟩
    obtain ⟨va, vc, ba, bc, hva, hcell, hbs, hok⟩ := hs.at hli
    simp only [Value.slice.injEq] at hva; obtain ⟨rfl, -, rfl⟩ := hva
    have hbl : x.bs.length ≤ 9223372036854775807 := maxLen_eq ▸ hok.2.2.2.2.2
    have hdrop : l.drop i = x :: l.drop (i + 1) := by rw [List.drop_eq_getElem_cons hi]; congr 1; rw [List.getElem?_eq_getElem hi] at hli; exact Option.some.inj hli
    rw [hdrop, fewN] at hgo
    by_cases hb : 1000 < n + (1 + x.bs.length / 256)
    · rw [if_pos hb] at hgo
      refine wp_seq_k fun K5 hK5 => ?_
      refine wp_seq_k fun K6 hK6 => ?_
      refine region_seq ?_  -- region 3
      refine Lm A rfl (A.g 4 rfl) fun _ A => Lm A rfl (A.g 0 rfl) fun _ A => Lo A rfl (y_lenS (e := 57) (by kernel_rfl) (A.g 6 rfl) fun _ A => ?_)
      refine Lo A rfl (y_lss (A.g 5 rfl) (A.g 7 rfl) (c := true) (decide_eq_true (by omega)) fun _ A => ?_)
      replace A := A.only [8, 4, 3, 0] rfl
      refine hK6 _ _ ?_
      refine wp_cond_true (A.get rfl) ?_
      refine wp_skip ?_
      refine hK5 _ _ ?_
      refine wp_seq_k fun K7 hK7 => ?_
      refine wp_block ?_
      refine wp_seq_k fun K8 hK8 => ?_
      refine region_seq ?_  -- region 5
      refine Lm A rfl (A.g 3 rfl) fun _ A => Lm A rfl (A.g 0 rfl) fun _ A => Lm A rfl (A.g 4 rfl) fun _ A => Lo A rfl (y_indexA (e := 57) (size := 6) (by kernel_rfl) (by kernel_rfl) (A.g 12 rfl) (A.g 13 rfl) (by omega) (by omega) fun _ A => ?_)
      replace A := A.only [14, 11, 8, 4, 3, 0] rfl
      refine Lo A rfl (y_fieldA (off := 5) (by kernel_rfl) (A.g 14 rfl) fun _ A => ?_)
      refine Lo A rfl (y_load (by kernel_rfl) (A.g 15 rfl) (S.kp.to_gr.cell' (hcell 5 (Nat.le_refl 6))) fun _ A => ?_)
      refine Lo A rfl (y_lenS (e := 5) (by kernel_rfl) (A.g 16 rfl) fun _ A => ?_)
      refine Lo A rfl (y_quo (A.g 17 rfl) rfl (by decide) (c := ((x.bs.length / 256 : Nat) : Int)) (by rw [show Int.tdiv (x.bs.length : Int) 256 = ((x.bs.length / 256 : Nat) : Int) from rfl]; exact (wrap64 (by omega))) fun _ A => ?_)
      replace A := A.only [18, 11, 8, 4, 3, 0] rfl
      refine Lo A rfl (y_add (evc _ _) (A.g 18 rfl) (c := ((1 + x.bs.length / 256 : Nat) : Int)) ((wrap64 (by omega)).trans (by omega)) fun _ A => ?_)
      refine Lo A rfl (y_add (A.g 11 rfl) (A.g 19 rfl) (c := ((n + (1 + x.bs.length / 256) : Nat) : Int)) ((wrap64 (by omega)).trans (by omega)) fun _ A => ?_)
      refine La A rfl (A.g 20 rfl) fun _ A => ?_
      replace A := A.only [8, 4, 3, 0] rfl
      refine hK8 _ _ ?_
      refine wp_seq_k fun K9 hK9 => ?_
      refine region_seq ?_  -- region 6
      refine Lm A rfl (A.g 3 rfl) fun _ A => Lo A rfl (y_gtr (A.g 21 rfl) (evc _ _) (c := true) (decide_eq_true (by omega)) fun _ A => ?_)
      replace A := A.only [22, 8, 4, 3, 0] rfl
      refine hK9 _ _ ?_
      refine wp_cond_true (A.get rfl) ?_
      refine wp_seq_k fun K10 hK10 => ?_
      refine region_seq ?_  -- region 7
      refine La A rfl (evc _ _) fun _ A => ?_
      replace A := A.only [22, 8, 4, 3, 2, 0] rfl
      refine hK10 _ _ ?_
      exact wp_ret ⟨A.defers, _, res_run (rs := [.tmp 2]) (vs := [.bool false]) rfl ⟨A.get rfl, trivial⟩, ⟨_, rfl, S.kp.to_gr, [], ⟨by rw [← hgo], rfl⟩, NewF.nil _ _⟩⟩
    · rw [if_neg hb] at hgo
      refine wp_seq_k fun K5 hK5 => ?_
      refine wp_seq_k fun K6 hK6 => ?_
      refine region_seq ?_  -- region 3
      refine Lm A rfl (A.g 4 rfl) fun _ A => Lm A rfl (A.g 0 rfl) fun _ A => Lo A rfl (y_lenS (e := 57) (by kernel_rfl) (A.g 6 rfl) fun _ A => ?_)
      refine Lo A rfl (y_lss (A.g 5 rfl) (A.g 7 rfl) (c := true) (decide_eq_true (by omega)) fun _ A => ?_)
      replace A := A.only [8, 4, 3, 0] rfl
      refine hK6 _ _ ?_
      refine wp_cond_true (A.get rfl) ?_
      refine wp_skip ?_
      refine hK5 _ _ ?_
      refine wp_seq_k fun K7 hK7 => ?_
      refine wp_block ?_
      refine wp_seq_k fun K8 hK8 => ?_
      refine region_seq ?_  -- region 5
      refine Lm A rfl (A.g 3 rfl) fun _ A => Lm A rfl (A.g 0 rfl) fun _ A => Lm A rfl (A.g 4 rfl) fun _ A => Lo A rfl (y_indexA (e := 57) (size := 6) (by kernel_rfl) (by kernel_rfl) (A.g 12 rfl) (A.g 13 rfl) (by omega) (by omega) fun _ A => ?_)
      replace A := A.only [14, 11, 8, 4, 3, 0] rfl
      refine Lo A rfl (y_fieldA (off := 5) (by kernel_rfl) (A.g 14 rfl) fun _ A => ?_)
      refine Lo A rfl (y_load (by kernel_rfl) (A.g 15 rfl) (S.kp.to_gr.cell' (hcell 5 (Nat.le_refl 6))) fun _ A => ?_)
      refine Lo A rfl (y_lenS (e := 5) (by kernel_rfl) (A.g 16 rfl) fun _ A => ?_)
      refine Lo A rfl (y_quo (A.g 17 rfl) rfl (by decide) (c := ((x.bs.length / 256 : Nat) : Int)) (by rw [show Int.tdiv (x.bs.length : Int) 256 = ((x.bs.length / 256 : Nat) : Int) from rfl]; exact (wrap64 (by omega))) fun _ A => ?_)
      replace A := A.only [18, 11, 8, 4, 3, 0] rfl
      refine Lo A rfl (y_add (evc _ _) (A.g 18 rfl) (c := ((1 + x.bs.length / 256 : Nat) : Int)) ((wrap64 (by omega)).trans (by omega)) fun _ A => ?_)
      refine Lo A rfl (y_add (A.g 11 rfl) (A.g 19 rfl) (c := ((n + (1 + x.bs.length / 256) : Nat) : Int)) ((wrap64 (by omega)).trans (by omega)) fun _ A => ?_)
      refine La A rfl (A.g 20 rfl) fun _ A => ?_
      replace A := A.only [8, 4, 3, 0] rfl
      refine hK8 _ _ ?_
      refine wp_seq_k fun K9 hK9 => ?_
      refine region_seq ?_  -- region 6
      refine Lm A rfl (A.g 3 rfl) fun _ A => Lo A rfl (y_gtr (A.g 21 rfl) (evc _ _) (c := false) (decide_eq_false (by omega)) fun _ A => ?_)
      replace A := A.only [22, 8, 4, 3, 0] rfl
      refine hK9 _ _ ?_
      refine wp_cond_false (A.get rfl) ?_
      refine wp_skip ?_
      refine hK7 _ _ ?_
      refine region_seq ?_  -- region 4
      refine Lm A rfl (A.g 4 rfl) fun _ A => Lo A rfl (y_add (A.g 9 rfl) (evc _ _) (c := ((i + 1 : Nat) : Int)) ((wrap64 (by omega)).trans (by omega)) fun _ A => ?_)
      refine La A rfl (A.g 10 rfl) fun _ A => ?_
      replace A := A.only [22, 8, 4, 3, 0] rfl
      replace A := A.only [4, 3, 0] rfl
      exact ⟨kk - 1, by omega, i + 1, _, by omega, by omega, hgo, A, S⟩
  · obtain rfl : i = l.length := by omega
    rw [List.drop_length, fewN] at hgo
    refine wp_seq_k fun K5 hK5 => ?_
    refine wp_seq_k fun K6 hK6 => ?_
    refine region_seq ?_  -- region 3
    refine Lm A rfl (A.g 4 rfl) fun _ A => Lm A rfl (A.g 0 rfl) fun _ A => Lo A rfl (y_lenS (e := 57) (by kernel_rfl) (A.g 6 rfl) fun _ A => ?_)
    refine Lo A rfl (y_lss (A.g 5 rfl) (A.g 7 rfl) (c := false) (decide_eq_false (by omega)) fun _ A => ?_)
    replace A := A.only [8, 4, 3, 0] rfl
    refine hK6 _ _ ?_
    refine wp_cond_false (A.get rfl) ?_
    refine wp_exit ?_
    refine hK3 _ _ ?_
    refine wp_seq_k fun K7 hK7 => ?_
    refine region_seq ?_  -- region 8
    refine La A rfl (evc _ _) fun _ A => ?_
    replace A := A.only [8, 4, 3, 2, 0] rfl
    refine hK7 _ _ ?_
    exact wp_ret ⟨A.defers, _, res_run (rs := [.tmp 2]) (vs := [.bool true]) rfl ⟨A.get rfl, trivial⟩, ⟨_, rfl, S.kp.to_gr, [], ⟨by rw [← hgo], rfl⟩, NewF.nil _ _⟩⟩
end Go.Proofs.Ytaeidblipdjgnaa
