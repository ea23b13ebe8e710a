import Derived.Test.YtaeidblipdjgnaaLoop
import Derived.Test.YtaeidblipdjgnaaZoom
namespace Go.Proofs.Ytaeidblipdjgnaa
open Go.RowKit Go.Maps Go.WideMaps

def i64 (x : Int) : Prop := -9223372036854775808 ≤ x ∧ x ≤ 9223372036854775807
theorem wf64 {x : Int} (h : i64 x) : (Lit.int .i64 x).wf = true := by
  have e1 : IntKind.i64.min = -9223372036854775808 := by decide
  have e2 : IntKind.i64.max = 9223372036854775807 := by decide
  simp only [Lit.wf, e1, e2, Bool.and_eq_true, decide_eq_true_eq]; exact h
theorem good_gen {P : Program} {K E : TypeId} {k : Int × Int} (hk : P.keyType K = true) (hu : P.underlying K = some (.array 2 E)) (hu3 : P.underlying E = some (.int .i64)) (hc : P.cellsOf K = 2) (hc3 : P.cellsOf E = 1) (hs : 0 < P.types.size) (h1 : i64 k.1) (h2 : i64 k.2) : ∃ l, keyOf P K (kv k) = some l := by
  obtain ⟨d, hd⟩ : ∃ d, P.types.size = d + 1 := ⟨P.types.size - 1, by omega⟩
  unfold keyOf
  rw [hd]
  simp [hk, hu, hu3, kv, Value.formed, hc, Value.cells, Program.keyLits, hc3, List.range, List.range.loop, wf64 h1, wf64 h2]
theorem good {k : Int × Int} (h1 : i64 k.1) (h2 : i64 k.2) : goodK k := good_gen (by kernel_rfl) (E := 3) (by kernel_rfl) (by kernel_rfl) (by kernel_rfl) (by kernel_rfl) (of_decide_eq_true (by kernel_rfl)) h1 h2
theorem good_ends {a b : Int} (h1 : i64 a) (h2 : i64 b) : goodK (ends a b) := good (by unfold ends i64 at *; dsimp only; omega) (by unfold ends i64 at *; dsimp only; omega)

/-- may this link come to those? -/
def okL (n : Int) (o : List (Int × Int)) (k : Int × Int) : Bool := decide (1 ≤ k.1) && decide (k.2 ≤ n) && decide (k.1 ≠ k.2) && decide (k ∉ o)
def newO (n : Int) : List (Int × Int) → List (Int × Int) → Option (List (Int × Int))
  | o, [] => some o
  | o, l :: r => if okL n o (ends l.1 l.2) then newO n (o ++ [ends l.1 l.2]) r else none
def M.fresh (n : Int) (o : List (Int × Int)) : M := ⟨n, o, fun k => if k ∈ o then some false else none, fun _ => []⟩
def newM (n : Int) (ls : List (Int × Int)) : Option M := if n < 1 ∨ 10 < n then none else (newO n [] ls).map (M.fresh n)
def NewR (n : Int) (ls : List (Int × Int)) (r : Value) (H : Frag) : Prop :=
  (newM n ls = none ∧ r = .tuple #[.pointer none, .int .i64 1] ∧ H = []) ∨ ∃ m p, newM n ls = some m ∧ r = .tuple #[.pointer (some ⟨p, 0, none⟩), .int .i64 0] ∧ NetRep p m H
theorem ends_is {a b lo hi : Int} (he : ends a b = (lo, hi)) (w : World) : Calls Try.prog 37 #[.int .i64 a, .int .i64 b] w (RetN w (eqv (.agg #[.int .i64 lo, .int .i64 hi]))) := by
  have := ends_ok a b w; rw [he] at this; exact this
theorem pairs_length (l : List (Int × Int)) : (pairs l).length = l.length * 2 := by
  induction l with
  | nil => rfl
  | cons i r ih => simp only [pairs, List.flatMap_cons, List.length_append, List.length_cons, List.length_nil] at *; omega
theorem pairs_get : ∀ (l : List (Int × Int)) (i : Nat) (k : Int × Int), l[i]? = some k → (pairs l)[i * 2]? = some (.int .i64 k.1) ∧ (pairs l)[i * 2 + 1]? = some (.int .i64 k.2)
  | [], _, _, h => by simp at h
  | x :: r, 0, k, h => by simp at h; subst h; simp [pairs]
  | x :: r, i + 1, k, h => by
    simp at h
    have := pairs_get r i k h
    simp only [pairs, List.flatMap_cons, show (i + 1) * 2 = i * 2 + 2 by omega, show i * 2 + 2 + 1 = (i * 2 + 1) + 2 by omega] at *
    exact ⟨this.1, this.2⟩
theorem pairs_snoc (l : List (Int × Int)) (k : Int × Int) : pairs (l ++ [k]) = pairs l ++ [.int .i64 k.1, .int .i64 k.2] := by simp [pairs]
/-- the row of a handed slice of pairs -/
theorem pairs_row {w : World} {v : Value} {ls : List (Int × Int)} (hs : Src w 2 v ls.length (pairs ls)) {i : Nat} {l : Int × Int} (hl : ls[i]? = some l) : ∃ va vc, v = .slice (some va) ls.length vc ∧ ∀ j (hj : j < [Value.int .i64 l.1, .int .i64 l.2].length), w.cell? ((va.add (((i : Nat) : Int).toNat * 2)).add j) = some [Value.int .i64 l.1, .int .i64 l.2][j] := by
  have hi := lt_of_get hl
  obtain ⟨va, vc, hv, hc⟩ := hs.row hi
  refine ⟨va, vc, hv, fun j hj => ?_⟩
  simp only [Int.toNat_natCast]
  obtain ⟨h1, h2⟩ := pairs_get ls i l hl
  have hlen := pairs_length ls
  match j, hj with
  | 0, _ => rw [hc 0 (by omega) (by omega)]; exact (List.getElem?_eq_getElem (by omega)).symm.trans h1
  | 1, _ => rw [hc 1 (by omega) (by omega)]; exact (List.getElem?_eq_getElem (by omega)).symm.trans h2
theorem Src.len' {w : World} {size m : Nat} {v : Value} {X : List Value} (h : Src w size v m X) : ∃ a c, v = .slice a m c := by
  rcases h.2 with ⟨h0, a, c, rfl⟩ | ⟨a, c, rfl, _⟩
  · exact ⟨a, c, by rw [h0]⟩
  · exact ⟨_, _, rfl⟩
/-- how far New has come -/
structure NewI (n : Int) (ls : List (Int × Int)) (i : Nat) (o : List (Int × Int)) (vo : Value) (Ho : Frag) (ol : Obj) (lk : List ((Int × Int) × Value)) : Prop where
  le : i ≤ ls.length
  go : newO n o (ls.drop i) = newO n [] ls
  len : o.length = i
  ord : SlRep 28 2 vo o.length (pairs o) Ho
  lm : MapIs Try.prog 28 kv ol lk
  lk : ∀ k, look lk k = if k ∈ o then some (stv false) else none
theorem NewI.next {n : Int} {ls : List (Int × Int)} {i : Nat} {o : List (Int × Int)} {vo : Value} {Ho : Frag} {ol : Obj} {lk : List ((Int × Int) × Value)} (h : NewI n ls i o vo Ho ol lk) {l k : Int × Int} (hl : ls[i]? = some l) (he : ends l.1 l.2 = k) (hk : okL n o k = true)
    {vo' : Value} {Ho' : Frag} {ol' : Obj} (hr : SlRep 28 2 vo' (o.length + 1) (pairs o ++ [.int .i64 k.1, .int .i64 k.2]) Ho') (hm : MapIs Try.prog 28 kv ol' (put lk k (stv false))) : NewI n ls (i + 1) (o ++ [k]) vo' Ho' ol' (put lk k (stv false)) := by
  have hi := lt_of_get hl
  refine ⟨hi, ?_, by simp [h.len], ?_, hm, fun q => ?_⟩
  · rw [← h.go, List.drop_eq_getElem_cons hi]
    have : ls[i] = l := by rw [List.getElem?_eq_getElem hi] at hl; exact Option.some.inj hl
    rw [this]; simp only [newO, he, hk, if_true]
  · rw [pairs_snoc, List.length_append]; exact hr
  · rw [look_put, h.lk q]; by_cases hq : q = k <;> simp [hq]
theorem NewI.bad {n : Int} {ls : List (Int × Int)} {i : Nat} {o : List (Int × Int)} {vo : Value} {Ho : Frag} {ol : Obj} {lk : List ((Int × Int) × Value)} (h : NewI n ls i o vo Ho ol lk) {l k : Int × Int} (hl : ls[i]? = some l) (he : ends l.1 l.2 = k) (hk : okL n o k = false) : newM n ls = none := by
  have hi := lt_of_get hl
  unfold newM; split
  · rfl
  · rw [← h.go, List.drop_eq_getElem_cons hi]
    have : ls[i] = l := by rw [List.getElem?_eq_getElem hi] at hl; exact Option.some.inj hl
    rw [this]; simp [newO, he, hk]
theorem NewI.done {n : Int} {ls : List (Int × Int)} {o : List (Int × Int)} {vo : Value} {Ho : Frag} {ol : Obj} {lk : List ((Int × Int) × Value)} (h : NewI n ls ls.length o vo Ho ol lk) (h1 : ¬ n < 1) (h2 : ¬ 10 < n) (h3 : ls.length ≤ 1000000) (p rl rq : Nat) :
    newM n ls = some (M.fresh n o) ∧ NetRep p (M.fresh n o) ([(p, .cells #[.int .i64 n, vo, .map (some rl), .map (some rq)] 69 (0, 0)), (rl, ol), (rq, .map #[] 0)] ++ Ho) := by
  have := h.go
  rw [List.drop_length] at this
  refine ⟨by unfold newM; rw [if_neg (by omega), ← this]; rfl, vo, Ho, rl, ol, lk, rq, .map #[] 0, [], ⟨h.ord, h.lm, fun k => ?_, MapIs.nil _ _ _, by simp, fun _ _ => rfl, fun _ => by simp [M.fresh], by show o.length ≤ 1000000; rw [h.len]; exact h3⟩, by simp [qeH, netC, M.fresh]⟩
  rw [h.lk k]; show _ = (if k ∈ o then some false else none).map stv; split <;> rfl

set_option maxRecDepth 20000 in
set_option maxHeartbeats 8000000 in
theorem new_ok {w0 : World} {v : Value} {ls : List (Int × Int)} {n : Int} (hs : Src w0 2 v ls.length (pairs ls)) (hl : ls.length ≤ 1000000) (hg : ∀ l ∈ ls, i64 l.1 ∧ i64 l.2) : Calls Try.prog 10 #[.int .i64 n, v] w0 (RetN w0 (NewR n ls)) := by
  obtain ⟨va, vc, rfl⟩ := hs.len'
  by_cases hn1 : n < 1
  · have hnone : newM n ls = none := by unfold newM; rw [if_pos (Or.inl hn1)]
    refine enter Try.func10 rfl (n := 78) rfl (Nat.le_of_ble_eq_true rfl) fun _ A => ?_
    have S : St _ _ _ [] := St.none w0
    refine wp_seq_k fun K1 hK1 => ?_
    refine region_seq ?_  -- region 0
    refine La A rfl (evc _ _) fun _ A => La A rfl (evc _ _) fun _ A => ?_
    replace A := A.only [5, 4, 1, 0] rfl
    refine hK1 _ _ ?_
    refine wp_seq_k fun K2 hK2 => ?_
    refine wp_seq_k fun K3 hK3 => ?_
    refine region_seq ?_  -- region 1
    refine Lm A rfl (A.g 0 rfl) fun _ A => Lo A rfl (y_lss (A.g 12 rfl) (evc _ _) (c := true) (decide_eq_true hn1) fun _ A => ?_)
    refine Lm A rfl (A.g 13 rfl) fun _ A => L_no A rfl (by decide) rfl rfl (by decide) (A.get rfl) (by decide) fun _ A => ?_
    refine L_no A rfl (by decide) rfl rfl (by decide) (A.get rfl) (by decide) fun _ A => ?_
    refine Lo A rfl (y_pickT (A.g 14 rfl) (evc _ _) fun _ A => ?_)
    replace A := A.only [17, 5, 4, 1, 0] rfl
    refine hK3 _ _ ?_
    refine wp_cond_true (A.get rfl) ?_
    refine wp_seq_k fun K4 hK4 => ?_
    refine region_seq ?_  -- region 2
    refine La A rfl (evc _ _) fun _ A => La A rfl (evc _ _) fun _ A => ?_
    replace A := A.only [17, 5, 4, 1, 0] rfl
    refine hK4 _ _ ?_
    exact wp_ret ⟨A.defers, _, res_run (rs := [.tmp 4, .tmp 5]) (vs := [.pointer none, .int .i64 1]) rfl ⟨A.get rfl, A.get rfl, trivial⟩, ⟨_, rfl, S.kp.to_gr, [], Or.inl ⟨hnone, rfl, rfl⟩, NewF.nil _ _⟩⟩
  by_cases hn2 : 10 < n
  · have hnone : newM n ls = none := by unfold newM; rw [if_pos (Or.inr hn2)]
    refine enter Try.func10 rfl (n := 78) rfl (Nat.le_of_ble_eq_true rfl) fun _ A => ?_
    have S : St _ _ _ [] := St.none w0
    refine wp_seq_k fun K1 hK1 => ?_
    refine region_seq ?_  -- region 0
    refine La A rfl (evc _ _) fun _ A => La A rfl (evc _ _) fun _ A => ?_
    replace A := A.only [5, 4, 1, 0] rfl
    refine hK1 _ _ ?_
    refine wp_seq_k fun K2 hK2 => ?_
    refine wp_seq_k fun K3 hK3 => ?_
    refine region_seq ?_  -- region 1
    refine Lm A rfl (A.g 0 rfl) fun _ A => Lo A rfl (y_lss (A.g 12 rfl) (evc _ _) (c := false) (decide_eq_false hn1) fun _ A => ?_)
    refine Lm A rfl (A.g 13 rfl) fun _ A => L_yes A rfl (by decide) rfl rfl (by decide) (A.get rfl) (y_move (A.g 0 rfl) fun _ A => ?_)
    refine L_yes A rfl (by decide) rfl rfl (by decide) (A.get rfl) (y_gtr (A.g 15 rfl) (evc _ _) (c := true) (decide_eq_true hn2) fun _ A => ?_)
    refine Lo A rfl (y_pickF (A.g 14 rfl) (A.g 16 rfl) fun _ A => ?_)
    replace A := A.only [17, 5, 4, 1, 0] rfl
    refine hK3 _ _ ?_
    refine wp_cond_true (A.get rfl) ?_
    refine wp_seq_k fun K4 hK4 => ?_
    refine region_seq ?_  -- region 2
    refine La A rfl (evc _ _) fun _ A => La A rfl (evc _ _) fun _ A => ?_
    replace A := A.only [17, 5, 4, 1, 0] rfl
    refine hK4 _ _ ?_
    exact wp_ret ⟨A.defers, _, res_run (rs := [.tmp 4, .tmp 5]) (vs := [.pointer none, .int .i64 1]) rfl ⟨A.get rfl, A.get rfl, trivial⟩, ⟨_, rfl, S.kp.to_gr, [], Or.inl ⟨hnone, rfl, rfl⟩, NewF.nil _ _⟩⟩
  refine enter Try.func10 rfl (n := 78) rfl (Nat.le_of_ble_eq_true rfl) fun _ A => ?_
  have S : St _ _ _ [] := St.none w0
  refine wp_seq_k fun K1 hK1 => ?_
  refine region_seq ?_  -- region 0
  refine La A rfl (evc _ _) fun _ A => La A rfl (evc _ _) fun _ A => ?_
  replace A := A.only [5, 4, 1, 0] rfl
  refine hK1 _ _ ?_
  refine wp_seq_k fun K2 hK2 => ?_
  refine wp_seq_k fun K3 hK3 => ?_
  refine region_seq ?_  -- region 1
  refine Lm A rfl (A.g 0 rfl) fun _ A => Lo A rfl (y_lss (A.g 12 rfl) (evc _ _) (c := false) (decide_eq_false hn1) fun _ A => ?_)
  refine Lm A rfl (A.g 13 rfl) fun _ A => L_yes A rfl (by decide) rfl rfl (by decide) (A.get rfl) (y_move (A.g 0 rfl) fun _ A => ?_)
  refine L_yes A rfl (by decide) rfl rfl (by decide) (A.get rfl) (y_gtr (A.g 15 rfl) (evc _ _) (c := false) (decide_eq_false hn2) fun _ A => ?_)
  refine Lo A rfl (y_pickF (A.g 14 rfl) (A.g 16 rfl) fun _ A => ?_)
  replace A := A.only [17, 5, 4, 1, 0] rfl
  refine hK3 _ _ ?_
  refine wp_cond_false (A.get rfl) ?_
  refine wp_skip ?_
  refine hK2 _ _ ?_
  refine wp_seq_k fun K4 hK4 => ?_
  refine region_seq ?_  -- region 3
  refine Lm A rfl (A.g 0 rfl) fun _ A => Lo A rfl (y_makeMapN fun b1 w gG nN ac A => ?_)
  replace S : St _ _ _ [(b1, .map #[] 0)] := S.new gG nN
  refine Lo A rfl (y_makeMapN fun b2 w gG nN ac A => ?_)
  replace S : St _ _ _ [(b2, .map #[] 0), (b1, .map #[] 0)] := S.new gG nN
  refine Lo A rfl (y_build3 (A.g 18 rfl) (A.g 19 rfl) (A.g 20 rfl) (v := .agg #[.int .i64 n, .slice none 0 0, .map (some b1), .map (some b2)]) (by kernel_rfl) fun _ A => ?_)
  refine Lo A rfl (y_boxN (A.g 21 rfl) fun b3 w gG nN ac A => ?_)
  replace S : St _ _ _ [(b3, .cells #[.int .i64 n, .slice none 0 0, .map (some b1), .map (some b2)] 69 (0, 0)), (b2, .map #[] 0), (b1, .map #[] 0)] := S.new gG nN
  refine La A rfl (A.g 22 rfl) fun _ A => ?_
  replace A := A.only [17, 6, 5, 4, 1, 0] rfl
  refine hK4 _ _ ?_
  refine wp_seq_k fun K5 hK5 => ?_
  refine wp_seq_k fun K6 hK6 => ?_
  refine region_seq ?_  -- region 4
  refine Lm A rfl (A.g 1 rfl) fun _ A => Lo A rfl (y_lenS (e := 28) (by kernel_rfl) (A.g 23 rfl) fun _ A => ?_)
  refine Lm A rfl (evc _ _) fun _ A => ?_
  replace A := A.only [25, 24, 23, 17, 6, 5, 4, 1, 0] rfl
  refine hK6 _ _ ?_
  refine wp_block ?_
  replace A := A.only [25, 24, 23, 6, 0] rfl
  have S2 : St _ _ _ ([(b3, .cells #[.int .i64 n, .slice none 0 0, .map (some b1), .map (some b2)] 69 (0, 0)), (b1, .map #[] 0), (b2, .map #[] 0)] ++ []) := S.perm (by classical rw [List.perm_iff_count]; intro x; simp only [List.count_append, List.count_cons, List.count_nil]; omega)
  refine wp_loop_ghost (fun kk ac w' => ∃ (i : Nat) (o : List (Int × Int)) (vo : Value) (Ho : Frag) (ol : Obj) (lk : List ((Int × Int) × Value)), kk + i = ls.length ∧ Sl 78 ac [(0, .int .i64 n), (6, .pointer (some ⟨b3, 0, none⟩)), (23, .slice va ls.length vc), (24, .int .i64 ls.length), (25, .int .i64 ((i : Nat) : Int))] ∧ St [] w0 w' ([(b3, .cells #[.int .i64 n, vo, .map (some b1), .map (some b2)] 69 (0, 0)), (b1, ol), (b2, .map #[] 0)] ++ Ho) ∧ NewI n ls i o vo Ho ol lk) ls.length ⟨0, [], _, [], _, [], by simp, A, S2, ⟨by simp, by simp, rfl, SlRep.nil _ _ _, MapIs.nil _ _ _, fun k => by simp [look_nil]⟩⟩ ?_
  clear A S S2
  rintro kk ac w2 ⟨i, o, vo, Ho, ol, lk, hkk, A, S, I⟩
  obtain ⟨oa, oc, rfl⟩ := I.ord.len
  have hsw := hs.gr S.kp.to_gr
  rcases Nat.lt_or_ge i ls.length with hi | hi
  · obtain ⟨l, hli⟩ : ∃ l, ls[i]? = some l := ⟨_, List.getElem?_eq_getElem hi⟩
    obtain ⟨lo, hi', he⟩ : ∃ lo hi', ends l.1 l.2 = (lo, hi') := ⟨_, _, rfl⟩
    obtain ⟨va', vc', hva, hrow⟩ := pairs_row hsw hli
    simp only [Value.slice.injEq] at hva; obtain ⟨rfl, -, rfl⟩ := hva
    have hgl := hg l (List.mem_of_getElem? hli)
    have hgd : goodK (lo, hi') := he ▸ good_ends hgl.1 hgl.2
    by_cases c1 : lo < 1
    · have hnone := I.bad hli he (by simp [okL]; omega)
      refine wp_seq_k fun K7 hK7 => ?_
      refine region_seq ?_  -- region 5
      refine Lo A rfl (y_lss (A.g 25 rfl) (A.g 24 rfl) (c := true) (decide_eq_true (by omega)) fun _ A => ?_)
      replace A := A.only [26, 25, 24, 23, 6, 0] rfl
      refine hK7 _ _ ?_
      refine wp_seq_k fun K8 hK8 => ?_
      refine wp_cond_true (A.get rfl) ?_
      refine wp_skip ?_
      refine hK8 _ _ ?_
      refine wp_seq_k fun K9 hK9 => ?_
      refine wp_block ?_
      refine wp_seq_k fun K10 hK10 => ?_
      refine region_seq ?_  -- region 6
      refine Lo A rfl (y_indexA (e := 28) (size := 2) (by kernel_rfl) (by kernel_rfl) (A.g 23 rfl) (A.g 25 rfl) (by omega) (by omega) fun _ A => ?_)
      refine Lo A rfl (y_loadAgg [.int .i64 l.1, .int .i64 l.2] (by kernel_rfl) (A.g 27 rfl) hrow fun _ A => ?_)
      refine Lo A rfl (y_allocN (z := .agg #[.int .i64 0, .int .i64 0]) (by kernel_rfl) fun b4 w gG nN ac A => ?_)
      replace S : St _ _ _ ([(b4, .cells #[.int .i64 0, .int .i64 0] 28 (0, 0)), (b3, .cells #[.int .i64 n, .slice oa o.length oc, .map (some b1), .map (some b2)] 69 (0, 0)), (b1, ol), (b2, .map #[] 0)] ++ Ho) := (S.new gG nN).perm (by first | exact .refl _ | (rw [List.append_assoc]; exact .refl _) | (simp only [List.append_assoc, List.nil_append, List.append_nil]; exact .refl _))
      refine L_opN A rfl rfl (y_store 2 (by kernel_rfl) (A.g 8 rfl) (A.g 28 rfl) (S.get 0 rfl) rfl (Nat.le_of_ble_eq_true rfl) (one_all rfl) ?_)
      replace S : St _ _ _ ([(b4, .cells #[.int .i64 l.1, .int .i64 l.2] 28 (0, 0)), (b3, .cells #[.int .i64 n, .slice oa o.length oc, .map (some b1), .map (some b2)] 69 (0, 0)), (b1, ol), (b2, .map #[] 0)] ++ Ho) := S.setAt 0 rfl _
      replace A := A.only [26, 25, 24, 23, 8, 6, 0] rfl
      refine hK10 _ _ ?_
      refine wp_seq_k fun K11 hK11 => ?_
      refine region_seq ?_  -- region 7
      refine Lo A rfl (y_indexP (n := 2) (e := 3) (size := 1) (j := 0) (by kernel_rfl) (by kernel_rfl) (A.g 8 rfl) (evc _ _) (by decide) (by decide) (by first | rfl | omega) fun _ A => ?_)
      refine Lo A rfl (y_load (by kernel_rfl) (A.g 29 rfl) ((cell_of (S.get 0 rfl) _).trans rfl) fun _ A => ?_)
      refine Lo A rfl (y_indexP (n := 2) (e := 3) (size := 1) (j := 1) (by kernel_rfl) (by kernel_rfl) (A.g 8 rfl) (evc _ _) (by decide) (by decide) (by first | rfl | omega) fun _ A => ?_)
      refine Lo A rfl (y_load (by kernel_rfl) (A.g 31 rfl) ((cell_of (S.get 0 rfl) _).trans rfl) fun _ A => ?_)
      replace A := A.only [32, 30, 26, 25, 24, 23, 8, 6, 0] rfl
      refine Lo A rfl (y_call2 (by kernel_rfl) rfl (A.g 30 rfl) (A.g 32 rfl) (callN (ends_is he _) fun v w H gG nN hf ac A => ?_))
      obtain ⟨rfl, rfl⟩ := hf
      replace S : St _ _ _ ([(b4, .cells #[.int .i64 l.1, .int .i64 l.2] 28 (0, 0)), (b3, .cells #[.int .i64 n, .slice oa o.length oc, .map (some b1), .map (some b2)] 69 (0, 0)), (b1, ol), (b2, .map #[] 0)] ++ Ho) := (S.new gG nN).perm (by first | exact .refl _ | (rw [List.append_assoc]; exact .refl _) | (simp only [List.append_assoc, List.nil_append, List.append_nil]; exact .refl _))
      refine Lo A rfl (y_allocN (z := .agg #[.int .i64 0, .int .i64 0]) (by kernel_rfl) fun b5 w gG nN ac A => ?_)
      replace S : St _ _ _ ([(b5, .cells #[.int .i64 0, .int .i64 0] 28 (0, 0)), (b4, .cells #[.int .i64 l.1, .int .i64 l.2] 28 (0, 0)), (b3, .cells #[.int .i64 n, .slice oa o.length oc, .map (some b1), .map (some b2)] 69 (0, 0)), (b1, ol), (b2, .map #[] 0)] ++ Ho) := (S.new gG nN).perm (by first | exact .refl _ | (rw [List.append_assoc]; exact .refl _) | (simp only [List.append_assoc, List.nil_append, List.append_nil]; exact .refl _))
      refine L_opN A rfl rfl (y_store 2 (by kernel_rfl) (A.g 9 rfl) (A.g 33 rfl) (S.get 0 rfl) rfl (Nat.le_of_ble_eq_true rfl) (one_all rfl) ?_)
      replace S : St _ _ _ ([(b5, .cells #[.int .i64 lo, .int .i64 hi'] 28 (0, 0)), (b4, .cells #[.int .i64 l.1, .int .i64 l.2] 28 (0, 0)), (b3, .cells #[.int .i64 n, .slice oa o.length oc, .map (some b1), .map (some b2)] 69 (0, 0)), (b1, ol), (b2, .map #[] 0)] ++ Ho) := S.setAt 0 rfl _
      replace A := A.only [26, 25, 24, 23, 9, 8, 6, 0] rfl
      refine hK11 _ _ ?_
      refine wp_seq_k fun K12 hK12 => ?_
      refine wp_seq_k fun K13 hK13 => ?_
      refine region_seq ?_  -- region 8
      refine Lo A rfl (y_indexP (n := 2) (e := 3) (size := 1) (j := 0) (by kernel_rfl) (by kernel_rfl) (A.g 9 rfl) (evc _ _) (by decide) (by decide) (by first | rfl | omega) fun _ A => ?_)
      refine Lo A rfl (y_load (by kernel_rfl) (A.g 34 rfl) ((cell_of (S.get 0 rfl) _).trans rfl) fun _ A => ?_)
      refine Lo A rfl (y_lss (A.g 35 rfl) (evc _ _) (c := true) (decide_eq_true c1) fun _ A => ?_)
      refine Lm A rfl (A.g 36 rfl) fun _ A => ?_
      replace A := A.only [37, 26, 25, 24, 23, 9, 8, 6, 0] rfl
      refine L_no A rfl (by decide) rfl rfl (by decide) (A.get rfl) (by decide) fun _ A => ?_
      refine L_no A rfl (by decide) rfl rfl (by decide) (A.get rfl) (by decide) fun _ A => ?_
      refine L_no A rfl (by decide) rfl rfl (by decide) (A.get rfl) (by decide) fun _ A => ?_
      refine L_no A rfl (by decide) rfl rfl (by decide) (A.get rfl) (by decide) fun _ A => ?_
      replace A := A.only [41, 37, 26, 25, 24, 23, 9, 8, 6, 0] rfl
      refine Lo A rfl (y_pickT (A.g 37 rfl) (evc _ _) fun _ A => ?_)
      refine Lm A rfl (A.g 42 rfl) fun _ A => L_no A rfl (by decide) rfl rfl (by decide) (A.get rfl) (by decide) fun _ A => ?_
      refine L_no A rfl (by decide) rfl rfl (by decide) (A.get rfl) (by decide) fun _ A => ?_
      replace A := A.only [45, 43, 26, 25, 24, 23, 9, 8, 6, 0] rfl
      refine L_no A rfl (by decide) rfl rfl (by decide) (A.get rfl) (by decide) fun _ A => ?_
      refine L_no A rfl (by decide) rfl rfl (by decide) (A.get rfl) (by decide) fun _ A => ?_
      refine L_no A rfl (by decide) rfl rfl (by decide) (A.get rfl) (by decide) fun _ A => ?_
      refine Lo A rfl (y_pickT (A.g 43 rfl) (evc _ _) fun _ A => ?_)
      replace A := A.only [49, 26, 25, 24, 23, 9, 8, 6, 0] rfl
      refine hK13 _ _ ?_
      refine wp_cond_true (A.get rfl) ?_
      refine wp_seq_k fun K14 hK14 => ?_
      refine region_seq ?_  -- region 9
      refine La A rfl (evc _ _) fun _ A => La A rfl (evc _ _) fun _ A => ?_
      replace A := A.only [49, 26, 25, 24, 23, 9, 8, 6, 5, 4, 0] rfl
      refine hK14 _ _ ?_
      exact wp_ret ⟨A.defers, _, res_run (rs := [.tmp 4, .tmp 5]) (vs := [.pointer none, .int .i64 1]) rfl ⟨A.get rfl, A.get rfl, trivial⟩, ⟨_, rfl, S.kp.to_gr, [], Or.inl ⟨hnone, rfl, rfl⟩, NewF.nil _ _⟩⟩
    by_cases c2 : n < hi'
    · have hnone := I.bad hli he (by simp [okL]; omega)
      refine wp_seq_k fun K7 hK7 => ?_
      refine region_seq ?_  -- region 5
      refine Lo A rfl (y_lss (A.g 25 rfl) (A.g 24 rfl) (c := true) (decide_eq_true (by omega)) fun _ A => ?_)
      replace A := A.only [26, 25, 24, 23, 6, 0] rfl
      refine hK7 _ _ ?_
      refine wp_seq_k fun K8 hK8 => ?_
      refine wp_cond_true (A.get rfl) ?_
      refine wp_skip ?_
      refine hK8 _ _ ?_
      refine wp_seq_k fun K9 hK9 => ?_
      refine wp_block ?_
      refine wp_seq_k fun K10 hK10 => ?_
      refine region_seq ?_  -- region 6
      refine Lo A rfl (y_indexA (e := 28) (size := 2) (by kernel_rfl) (by kernel_rfl) (A.g 23 rfl) (A.g 25 rfl) (by omega) (by omega) fun _ A => ?_)
      refine Lo A rfl (y_loadAgg [.int .i64 l.1, .int .i64 l.2] (by kernel_rfl) (A.g 27 rfl) hrow fun _ A => ?_)
      refine Lo A rfl (y_allocN (z := .agg #[.int .i64 0, .int .i64 0]) (by kernel_rfl) fun b4 w gG nN ac A => ?_)
      replace S : St _ _ _ ([(b4, .cells #[.int .i64 0, .int .i64 0] 28 (0, 0)), (b3, .cells #[.int .i64 n, .slice oa o.length oc, .map (some b1), .map (some b2)] 69 (0, 0)), (b1, ol), (b2, .map #[] 0)] ++ Ho) := (S.new gG nN).perm (by first | exact .refl _ | (rw [List.append_assoc]; exact .refl _) | (simp only [List.append_assoc, List.nil_append, List.append_nil]; exact .refl _))
      refine L_opN A rfl rfl (y_store 2 (by kernel_rfl) (A.g 8 rfl) (A.g 28 rfl) (S.get 0 rfl) rfl (Nat.le_of_ble_eq_true rfl) (one_all rfl) ?_)
      replace S : St _ _ _ ([(b4, .cells #[.int .i64 l.1, .int .i64 l.2] 28 (0, 0)), (b3, .cells #[.int .i64 n, .slice oa o.length oc, .map (some b1), .map (some b2)] 69 (0, 0)), (b1, ol), (b2, .map #[] 0)] ++ Ho) := S.setAt 0 rfl _
      replace A := A.only [26, 25, 24, 23, 8, 6, 0] rfl
      refine hK10 _ _ ?_
      refine wp_seq_k fun K11 hK11 => ?_
      refine region_seq ?_  -- region 7
      refine Lo A rfl (y_indexP (n := 2) (e := 3) (size := 1) (j := 0) (by kernel_rfl) (by kernel_rfl) (A.g 8 rfl) (evc _ _) (by decide) (by decide) (by first | rfl | omega) fun _ A => ?_)
      refine Lo A rfl (y_load (by kernel_rfl) (A.g 29 rfl) ((cell_of (S.get 0 rfl) _).trans rfl) fun _ A => ?_)
      refine Lo A rfl (y_indexP (n := 2) (e := 3) (size := 1) (j := 1) (by kernel_rfl) (by kernel_rfl) (A.g 8 rfl) (evc _ _) (by decide) (by decide) (by first | rfl | omega) fun _ A => ?_)
      refine Lo A rfl (y_load (by kernel_rfl) (A.g 31 rfl) ((cell_of (S.get 0 rfl) _).trans rfl) fun _ A => ?_)
      replace A := A.only [32, 30, 26, 25, 24, 23, 8, 6, 0] rfl
      refine Lo A rfl (y_call2 (by kernel_rfl) rfl (A.g 30 rfl) (A.g 32 rfl) (callN (ends_is he _) fun v w H gG nN hf ac A => ?_))
      obtain ⟨rfl, rfl⟩ := hf
      replace S : St _ _ _ ([(b4, .cells #[.int .i64 l.1, .int .i64 l.2] 28 (0, 0)), (b3, .cells #[.int .i64 n, .slice oa o.length oc, .map (some b1), .map (some b2)] 69 (0, 0)), (b1, ol), (b2, .map #[] 0)] ++ Ho) := (S.new gG nN).perm (by first | exact .refl _ | (rw [List.append_assoc]; exact .refl _) | (simp only [List.append_assoc, List.nil_append, List.append_nil]; exact .refl _))
      refine Lo A rfl (y_allocN (z := .agg #[.int .i64 0, .int .i64 0]) (by kernel_rfl) fun b5 w gG nN ac A => ?_)
      replace S : St _ _ _ ([(b5, .cells #[.int .i64 0, .int .i64 0] 28 (0, 0)), (b4, .cells #[.int .i64 l.1, .int .i64 l.2] 28 (0, 0)), (b3, .cells #[.int .i64 n, .slice oa o.length oc, .map (some b1), .map (some b2)] 69 (0, 0)), (b1, ol), (b2, .map #[] 0)] ++ Ho) := (S.new gG nN).perm (by first | exact .refl _ | (rw [List.append_assoc]; exact .refl _) | (simp only [List.append_assoc, List.nil_append, List.append_nil]; exact .refl _))
      refine L_opN A rfl rfl (y_store 2 (by kernel_rfl) (A.g 9 rfl) (A.g 33 rfl) (S.get 0 rfl) rfl (Nat.le_of_ble_eq_true rfl) (one_all rfl) ?_)
      replace S : St _ _ _ ([(b5, .cells #[.int .i64 lo, .int .i64 hi'] 28 (0, 0)), (b4, .cells #[.int .i64 l.1, .int .i64 l.2] 28 (0, 0)), (b3, .cells #[.int .i64 n, .slice oa o.length oc, .map (some b1), .map (some b2)] 69 (0, 0)), (b1, ol), (b2, .map #[] 0)] ++ Ho) := S.setAt 0 rfl _
      replace A := A.only [26, 25, 24, 23, 9, 8, 6, 0] rfl
      refine hK11 _ _ ?_
      refine wp_seq_k fun K12 hK12 => ?_
      refine wp_seq_k fun K13 hK13 => ?_
      refine region_seq ?_  -- region 8
      refine Lo A rfl (y_indexP (n := 2) (e := 3) (size := 1) (j := 0) (by kernel_rfl) (by kernel_rfl) (A.g 9 rfl) (evc _ _) (by decide) (by decide) (by first | rfl | omega) fun _ A => ?_)
      refine Lo A rfl (y_load (by kernel_rfl) (A.g 34 rfl) ((cell_of (S.get 0 rfl) _).trans rfl) fun _ A => ?_)
      refine Lo A rfl (y_lss (A.g 35 rfl) (evc _ _) (c := false) (decide_eq_false c1) fun _ A => ?_)
      refine Lm A rfl (A.g 36 rfl) fun _ A => ?_
      replace A := A.only [37, 26, 25, 24, 23, 9, 8, 6, 0] rfl
      refine L_yes A rfl (by decide) rfl rfl (by decide) (A.get rfl) (y_indexP (n := 2) (e := 3) (size := 1) (j := 1) (by kernel_rfl) (by kernel_rfl) (A.g 9 rfl) (evc _ _) (by decide) (by decide) (by first | rfl | omega) fun _ A => ?_)
      refine L_yes A rfl (by decide) rfl rfl (by decide) (A.get rfl) (y_load (by kernel_rfl) (A.g 38 rfl) ((cell_of (S.get 0 rfl) _).trans rfl) fun _ A => ?_)
      refine L_yes A rfl (by decide) rfl rfl (by decide) (A.get rfl) (y_move (A.g 0 rfl) fun _ A => ?_)
      refine L_yes A rfl (by decide) rfl rfl (by decide) (A.get rfl) (y_gtr (A.g 39 rfl) (A.g 40 rfl) (c := true) (decide_eq_true c2) fun _ A => ?_)
      replace A := A.only [41, 37, 26, 25, 24, 23, 9, 8, 6, 0] rfl
      refine Lo A rfl (y_pickF (A.g 37 rfl) (A.g 41 rfl) fun _ A => ?_)
      refine Lm A rfl (A.g 42 rfl) fun _ A => L_no A rfl (by decide) rfl rfl (by decide) (A.get rfl) (by decide) fun _ A => ?_
      refine L_no A rfl (by decide) rfl rfl (by decide) (A.get rfl) (by decide) fun _ A => ?_
      replace A := A.only [45, 43, 26, 25, 24, 23, 9, 8, 6, 0] rfl
      refine L_no A rfl (by decide) rfl rfl (by decide) (A.get rfl) (by decide) fun _ A => ?_
      refine L_no A rfl (by decide) rfl rfl (by decide) (A.get rfl) (by decide) fun _ A => ?_
      refine L_no A rfl (by decide) rfl rfl (by decide) (A.get rfl) (by decide) fun _ A => ?_
      refine Lo A rfl (y_pickT (A.g 43 rfl) (evc _ _) fun _ A => ?_)
      replace A := A.only [49, 26, 25, 24, 23, 9, 8, 6, 0] rfl
      refine hK13 _ _ ?_
      refine wp_cond_true (A.get rfl) ?_
      refine wp_seq_k fun K14 hK14 => ?_
      refine region_seq ?_  -- region 9
      refine La A rfl (evc _ _) fun _ A => La A rfl (evc _ _) fun _ A => ?_
      replace A := A.only [49, 26, 25, 24, 23, 9, 8, 6, 5, 4, 0] rfl
      refine hK14 _ _ ?_
      exact wp_ret ⟨A.defers, _, res_run (rs := [.tmp 4, .tmp 5]) (vs := [.pointer none, .int .i64 1]) rfl ⟨A.get rfl, A.get rfl, trivial⟩, ⟨_, rfl, S.kp.to_gr, [], Or.inl ⟨hnone, rfl, rfl⟩, NewF.nil _ _⟩⟩
    by_cases c3 : lo = hi'
    · have hnone := I.bad hli he (by simp [okL]; omega)
      refine wp_seq_k fun K7 hK7 => ?_
      refine region_seq ?_  -- region 5
      refine Lo A rfl (y_lss (A.g 25 rfl) (A.g 24 rfl) (c := true) (decide_eq_true (by omega)) fun _ A => ?_)
      replace A := A.only [26, 25, 24, 23, 6, 0] rfl
      refine hK7 _ _ ?_
      refine wp_seq_k fun K8 hK8 => ?_
      refine wp_cond_true (A.get rfl) ?_
      refine wp_skip ?_
      refine hK8 _ _ ?_
      refine wp_seq_k fun K9 hK9 => ?_
      refine wp_block ?_
      refine wp_seq_k fun K10 hK10 => ?_
      refine region_seq ?_  -- region 6
      refine Lo A rfl (y_indexA (e := 28) (size := 2) (by kernel_rfl) (by kernel_rfl) (A.g 23 rfl) (A.g 25 rfl) (by omega) (by omega) fun _ A => ?_)
      refine Lo A rfl (y_loadAgg [.int .i64 l.1, .int .i64 l.2] (by kernel_rfl) (A.g 27 rfl) hrow fun _ A => ?_)
      refine Lo A rfl (y_allocN (z := .agg #[.int .i64 0, .int .i64 0]) (by kernel_rfl) fun b4 w gG nN ac A => ?_)
      replace S : St _ _ _ ([(b4, .cells #[.int .i64 0, .int .i64 0] 28 (0, 0)), (b3, .cells #[.int .i64 n, .slice oa o.length oc, .map (some b1), .map (some b2)] 69 (0, 0)), (b1, ol), (b2, .map #[] 0)] ++ Ho) := (S.new gG nN).perm (by first | exact .refl _ | (rw [List.append_assoc]; exact .refl _) | (simp only [List.append_assoc, List.nil_append, List.append_nil]; exact .refl _))
      refine L_opN A rfl rfl (y_store 2 (by kernel_rfl) (A.g 8 rfl) (A.g 28 rfl) (S.get 0 rfl) rfl (Nat.le_of_ble_eq_true rfl) (one_all rfl) ?_)
      replace S : St _ _ _ ([(b4, .cells #[.int .i64 l.1, .int .i64 l.2] 28 (0, 0)), (b3, .cells #[.int .i64 n, .slice oa o.length oc, .map (some b1), .map (some b2)] 69 (0, 0)), (b1, ol), (b2, .map #[] 0)] ++ Ho) := S.setAt 0 rfl _
      replace A := A.only [26, 25, 24, 23, 8, 6, 0] rfl
      refine hK10 _ _ ?_
      refine wp_seq_k fun K11 hK11 => ?_
      refine region_seq ?_  -- region 7
      refine Lo A rfl (y_indexP (n := 2) (e := 3) (size := 1) (j := 0) (by kernel_rfl) (by kernel_rfl) (A.g 8 rfl) (evc _ _) (by decide) (by decide) (by first | rfl | omega) fun _ A => ?_)
      refine Lo A rfl (y_load (by kernel_rfl) (A.g 29 rfl) ((cell_of (S.get 0 rfl) _).trans rfl) fun _ A => ?_)
      refine Lo A rfl (y_indexP (n := 2) (e := 3) (size := 1) (j := 1) (by kernel_rfl) (by kernel_rfl) (A.g 8 rfl) (evc _ _) (by decide) (by decide) (by first | rfl | omega) fun _ A => ?_)
      refine Lo A rfl (y_load (by kernel_rfl) (A.g 31 rfl) ((cell_of (S.get 0 rfl) _).trans rfl) fun _ A => ?_)
      replace A := A.only [32, 30, 26, 25, 24, 23, 8, 6, 0] rfl
      refine Lo A rfl (y_call2 (by kernel_rfl) rfl (A.g 30 rfl) (A.g 32 rfl) (callN (ends_is he _) fun v w H gG nN hf ac A => ?_))
      obtain ⟨rfl, rfl⟩ := hf
      replace S : St _ _ _ ([(b4, .cells #[.int .i64 l.1, .int .i64 l.2] 28 (0, 0)), (b3, .cells #[.int .i64 n, .slice oa o.length oc, .map (some b1), .map (some b2)] 69 (0, 0)), (b1, ol), (b2, .map #[] 0)] ++ Ho) := (S.new gG nN).perm (by first | exact .refl _ | (rw [List.append_assoc]; exact .refl _) | (simp only [List.append_assoc, List.nil_append, List.append_nil]; exact .refl _))
      refine Lo A rfl (y_allocN (z := .agg #[.int .i64 0, .int .i64 0]) (by kernel_rfl) fun b5 w gG nN ac A => ?_)
      replace S : St _ _ _ ([(b5, .cells #[.int .i64 0, .int .i64 0] 28 (0, 0)), (b4, .cells #[.int .i64 l.1, .int .i64 l.2] 28 (0, 0)), (b3, .cells #[.int .i64 n, .slice oa o.length oc, .map (some b1), .map (some b2)] 69 (0, 0)), (b1, ol), (b2, .map #[] 0)] ++ Ho) := (S.new gG nN).perm (by first | exact .refl _ | (rw [List.append_assoc]; exact .refl _) | (simp only [List.append_assoc, List.nil_append, List.append_nil]; exact .refl _))
      refine L_opN A rfl rfl (y_store 2 (by kernel_rfl) (A.g 9 rfl) (A.g 33 rfl) (S.get 0 rfl) rfl (Nat.le_of_ble_eq_true rfl) (one_all rfl) ?_)
      replace S : St _ _ _ ([(b5, .cells #[.int .i64 lo, .int .i64 hi'] 28 (0, 0)), (b4, .cells #[.int .i64 l.1, .int .i64 l.2] 28 (0, 0)), (b3, .cells #[.int .i64 n, .slice oa o.length oc, .map (some b1), .map (some b2)] 69 (0, 0)), (b1, ol), (b2, .map #[] 0)] ++ Ho) := S.setAt 0 rfl _
      replace A := A.only [26, 25, 24, 23, 9, 8, 6, 0] rfl
      refine hK11 _ _ ?_
      refine wp_seq_k fun K12 hK12 => ?_
      refine wp_seq_k fun K13 hK13 => ?_
      refine region_seq ?_  -- region 8
      refine Lo A rfl (y_indexP (n := 2) (e := 3) (size := 1) (j := 0) (by kernel_rfl) (by kernel_rfl) (A.g 9 rfl) (evc _ _) (by decide) (by decide) (by first | rfl | omega) fun _ A => ?_)
      refine Lo A rfl (y_load (by kernel_rfl) (A.g 34 rfl) ((cell_of (S.get 0 rfl) _).trans rfl) fun _ A => ?_)
      refine Lo A rfl (y_lss (A.g 35 rfl) (evc _ _) (c := false) (decide_eq_false c1) fun _ A => ?_)
      refine Lm A rfl (A.g 36 rfl) fun _ A => ?_
      replace A := A.only [37, 26, 25, 24, 23, 9, 8, 6, 0] rfl
      refine L_yes A rfl (by decide) rfl rfl (by decide) (A.get rfl) (y_indexP (n := 2) (e := 3) (size := 1) (j := 1) (by kernel_rfl) (by kernel_rfl) (A.g 9 rfl) (evc _ _) (by decide) (by decide) (by first | rfl | omega) fun _ A => ?_)
      refine L_yes A rfl (by decide) rfl rfl (by decide) (A.get rfl) (y_load (by kernel_rfl) (A.g 38 rfl) ((cell_of (S.get 0 rfl) _).trans rfl) fun _ A => ?_)
      refine L_yes A rfl (by decide) rfl rfl (by decide) (A.get rfl) (y_move (A.g 0 rfl) fun _ A => ?_)
      refine L_yes A rfl (by decide) rfl rfl (by decide) (A.get rfl) (y_gtr (A.g 39 rfl) (A.g 40 rfl) (c := false) (decide_eq_false c2) fun _ A => ?_)
      replace A := A.only [41, 37, 26, 25, 24, 23, 9, 8, 6, 0] rfl
      refine Lo A rfl (y_pickF (A.g 37 rfl) (A.g 41 rfl) fun _ A => ?_)
      refine Lm A rfl (A.g 42 rfl) fun _ A => L_yes A rfl (by decide) rfl rfl (by decide) (A.get rfl) (y_indexP (n := 2) (e := 3) (size := 1) (j := 0) (by kernel_rfl) (by kernel_rfl) (A.g 9 rfl) (evc _ _) (by decide) (by decide) (by first | rfl | omega) fun _ A => ?_)
      refine L_yes A rfl (by decide) rfl rfl (by decide) (A.get rfl) (y_load (by kernel_rfl) (A.g 44 rfl) ((cell_of (S.get 0 rfl) _).trans rfl) fun _ A => ?_)
      replace A := A.only [45, 43, 26, 25, 24, 23, 9, 8, 6, 0] rfl
      refine L_yes A rfl (by decide) rfl rfl (by decide) (A.get rfl) (y_indexP (n := 2) (e := 3) (size := 1) (j := 1) (by kernel_rfl) (by kernel_rfl) (A.g 9 rfl) (evc _ _) (by decide) (by decide) (by first | rfl | omega) fun _ A => ?_)
      refine L_yes A rfl (by decide) rfl rfl (by decide) (A.get rfl) (y_load (by kernel_rfl) (A.g 46 rfl) ((cell_of (S.get 0 rfl) _).trans rfl) fun _ A => ?_)
      refine L_yes A rfl (by decide) rfl rfl (by decide) (A.get rfl) (y_eql (A.g 45 rfl) (A.g 47 rfl) (c := true) (by simp [c3]) fun _ A => ?_)
      refine Lo A rfl (y_pickF (A.g 43 rfl) (A.g 48 rfl) fun _ A => ?_)
      replace A := A.only [49, 26, 25, 24, 23, 9, 8, 6, 0] rfl
      refine hK13 _ _ ?_
      refine wp_cond_true (A.get rfl) ?_
      refine wp_seq_k fun K14 hK14 => ?_
      refine region_seq ?_  -- region 9
      refine La A rfl (evc _ _) fun _ A => La A rfl (evc _ _) fun _ A => ?_
      replace A := A.only [49, 26, 25, 24, 23, 9, 8, 6, 5, 4, 0] rfl
      refine hK14 _ _ ?_
      exact wp_ret ⟨A.defers, _, res_run (rs := [.tmp 4, .tmp 5]) (vs := [.pointer none, .int .i64 1]) rfl ⟨A.get rfl, A.get rfl, trivial⟩, ⟨_, rfl, S.kp.to_gr, [], Or.inl ⟨hnone, rfl, rfl⟩, NewF.nil _ _⟩⟩
    have hlk := I.lk (lo, hi')
    by_cases c4 : (lo, hi') ∈ o
    · have hnone := I.bad hli he (by simp [okL, c4])
      rw [if_pos c4] at hlk
      refine wp_seq_k fun K7 hK7 => ?_
      refine region_seq ?_  -- region 5
      refine Lo A rfl (y_lss (A.g 25 rfl) (A.g 24 rfl) (c := true) (decide_eq_true (by omega)) fun _ A => ?_)
      replace A := A.only [26, 25, 24, 23, 6, 0] rfl
      refine hK7 _ _ ?_
      refine wp_seq_k fun K8 hK8 => ?_
      refine wp_cond_true (A.get rfl) ?_
      refine wp_skip ?_
      refine hK8 _ _ ?_
      refine wp_seq_k fun K9 hK9 => ?_
      refine wp_block ?_
      refine wp_seq_k fun K10 hK10 => ?_
      refine region_seq ?_  -- region 6
      refine Lo A rfl (y_indexA (e := 28) (size := 2) (by kernel_rfl) (by kernel_rfl) (A.g 23 rfl) (A.g 25 rfl) (by omega) (by omega) fun _ A => ?_)
      refine Lo A rfl (y_loadAgg [.int .i64 l.1, .int .i64 l.2] (by kernel_rfl) (A.g 27 rfl) hrow fun _ A => ?_)
      refine Lo A rfl (y_allocN (z := .agg #[.int .i64 0, .int .i64 0]) (by kernel_rfl) fun b4 w gG nN ac A => ?_)
      replace S : St _ _ _ ([(b4, .cells #[.int .i64 0, .int .i64 0] 28 (0, 0)), (b3, .cells #[.int .i64 n, .slice oa o.length oc, .map (some b1), .map (some b2)] 69 (0, 0)), (b1, ol), (b2, .map #[] 0)] ++ Ho) := (S.new gG nN).perm (by first | exact .refl _ | (rw [List.append_assoc]; exact .refl _) | (simp only [List.append_assoc, List.nil_append, List.append_nil]; exact .refl _))
      refine L_opN A rfl rfl (y_store 2 (by kernel_rfl) (A.g 8 rfl) (A.g 28 rfl) (S.get 0 rfl) rfl (Nat.le_of_ble_eq_true rfl) (one_all rfl) ?_)
      replace S : St _ _ _ ([(b4, .cells #[.int .i64 l.1, .int .i64 l.2] 28 (0, 0)), (b3, .cells #[.int .i64 n, .slice oa o.length oc, .map (some b1), .map (some b2)] 69 (0, 0)), (b1, ol), (b2, .map #[] 0)] ++ Ho) := S.setAt 0 rfl _
      replace A := A.only [26, 25, 24, 23, 8, 6, 0] rfl
      refine hK10 _ _ ?_
      refine wp_seq_k fun K11 hK11 => ?_
      refine region_seq ?_  -- region 7
      refine Lo A rfl (y_indexP (n := 2) (e := 3) (size := 1) (j := 0) (by kernel_rfl) (by kernel_rfl) (A.g 8 rfl) (evc _ _) (by decide) (by decide) (by first | rfl | omega) fun _ A => ?_)
      refine Lo A rfl (y_load (by kernel_rfl) (A.g 29 rfl) ((cell_of (S.get 0 rfl) _).trans rfl) fun _ A => ?_)
      refine Lo A rfl (y_indexP (n := 2) (e := 3) (size := 1) (j := 1) (by kernel_rfl) (by kernel_rfl) (A.g 8 rfl) (evc _ _) (by decide) (by decide) (by first | rfl | omega) fun _ A => ?_)
      refine Lo A rfl (y_load (by kernel_rfl) (A.g 31 rfl) ((cell_of (S.get 0 rfl) _).trans rfl) fun _ A => ?_)
      replace A := A.only [32, 30, 26, 25, 24, 23, 8, 6, 0] rfl
      refine Lo A rfl (y_call2 (by kernel_rfl) rfl (A.g 30 rfl) (A.g 32 rfl) (callN (ends_is he _) fun v w H gG nN hf ac A => ?_))
      obtain ⟨rfl, rfl⟩ := hf
      replace S : St _ _ _ ([(b4, .cells #[.int .i64 l.1, .int .i64 l.2] 28 (0, 0)), (b3, .cells #[.int .i64 n, .slice oa o.length oc, .map (some b1), .map (some b2)] 69 (0, 0)), (b1, ol), (b2, .map #[] 0)] ++ Ho) := (S.new gG nN).perm (by first | exact .refl _ | (rw [List.append_assoc]; exact .refl _) | (simp only [List.append_assoc, List.nil_append, List.append_nil]; exact .refl _))
      refine Lo A rfl (y_allocN (z := .agg #[.int .i64 0, .int .i64 0]) (by kernel_rfl) fun b5 w gG nN ac A => ?_)
      replace S : St _ _ _ ([(b5, .cells #[.int .i64 0, .int .i64 0] 28 (0, 0)), (b4, .cells #[.int .i64 l.1, .int .i64 l.2] 28 (0, 0)), (b3, .cells #[.int .i64 n, .slice oa o.length oc, .map (some b1), .map (some b2)] 69 (0, 0)), (b1, ol), (b2, .map #[] 0)] ++ Ho) := (S.new gG nN).perm (by first | exact .refl _ | (rw [List.append_assoc]; exact .refl _) | (simp only [List.append_assoc, List.nil_append, List.append_nil]; exact .refl _))
      refine L_opN A rfl rfl (y_store 2 (by kernel_rfl) (A.g 9 rfl) (A.g 33 rfl) (S.get 0 rfl) rfl (Nat.le_of_ble_eq_true rfl) (one_all rfl) ?_)
      replace S : St _ _ _ ([(b5, .cells #[.int .i64 lo, .int .i64 hi'] 28 (0, 0)), (b4, .cells #[.int .i64 l.1, .int .i64 l.2] 28 (0, 0)), (b3, .cells #[.int .i64 n, .slice oa o.length oc, .map (some b1), .map (some b2)] 69 (0, 0)), (b1, ol), (b2, .map #[] 0)] ++ Ho) := S.setAt 0 rfl _
      replace A := A.only [26, 25, 24, 23, 9, 8, 6, 0] rfl
      refine hK11 _ _ ?_
      refine wp_seq_k fun K12 hK12 => ?_
      refine wp_seq_k fun K13 hK13 => ?_
      refine region_seq ?_  -- region 8
      refine Lo A rfl (y_indexP (n := 2) (e := 3) (size := 1) (j := 0) (by kernel_rfl) (by kernel_rfl) (A.g 9 rfl) (evc _ _) (by decide) (by decide) (by first | rfl | omega) fun _ A => ?_)
      refine Lo A rfl (y_load (by kernel_rfl) (A.g 34 rfl) ((cell_of (S.get 0 rfl) _).trans rfl) fun _ A => ?_)
      refine Lo A rfl (y_lss (A.g 35 rfl) (evc _ _) (c := false) (decide_eq_false c1) fun _ A => ?_)
      refine Lm A rfl (A.g 36 rfl) fun _ A => ?_
      replace A := A.only [37, 26, 25, 24, 23, 9, 8, 6, 0] rfl
      refine L_yes A rfl (by decide) rfl rfl (by decide) (A.get rfl) (y_indexP (n := 2) (e := 3) (size := 1) (j := 1) (by kernel_rfl) (by kernel_rfl) (A.g 9 rfl) (evc _ _) (by decide) (by decide) (by first | rfl | omega) fun _ A => ?_)
      refine L_yes A rfl (by decide) rfl rfl (by decide) (A.get rfl) (y_load (by kernel_rfl) (A.g 38 rfl) ((cell_of (S.get 0 rfl) _).trans rfl) fun _ A => ?_)
      refine L_yes A rfl (by decide) rfl rfl (by decide) (A.get rfl) (y_move (A.g 0 rfl) fun _ A => ?_)
      refine L_yes A rfl (by decide) rfl rfl (by decide) (A.get rfl) (y_gtr (A.g 39 rfl) (A.g 40 rfl) (c := false) (decide_eq_false c2) fun _ A => ?_)
      replace A := A.only [41, 37, 26, 25, 24, 23, 9, 8, 6, 0] rfl
      refine Lo A rfl (y_pickF (A.g 37 rfl) (A.g 41 rfl) fun _ A => ?_)
      refine Lm A rfl (A.g 42 rfl) fun _ A => L_yes A rfl (by decide) rfl rfl (by decide) (A.get rfl) (y_indexP (n := 2) (e := 3) (size := 1) (j := 0) (by kernel_rfl) (by kernel_rfl) (A.g 9 rfl) (evc _ _) (by decide) (by decide) (by first | rfl | omega) fun _ A => ?_)
      refine L_yes A rfl (by decide) rfl rfl (by decide) (A.get rfl) (y_load (by kernel_rfl) (A.g 44 rfl) ((cell_of (S.get 0 rfl) _).trans rfl) fun _ A => ?_)
      replace A := A.only [45, 43, 26, 25, 24, 23, 9, 8, 6, 0] rfl
      refine L_yes A rfl (by decide) rfl rfl (by decide) (A.get rfl) (y_indexP (n := 2) (e := 3) (size := 1) (j := 1) (by kernel_rfl) (by kernel_rfl) (A.g 9 rfl) (evc _ _) (by decide) (by decide) (by first | rfl | omega) fun _ A => ?_)
      refine L_yes A rfl (by decide) rfl rfl (by decide) (A.get rfl) (y_load (by kernel_rfl) (A.g 46 rfl) ((cell_of (S.get 0 rfl) _).trans rfl) fun _ A => ?_)
      refine L_yes A rfl (by decide) rfl rfl (by decide) (A.get rfl) (y_eql (A.g 45 rfl) (A.g 47 rfl) (c := false) (by simpa using c3) fun _ A => ?_)
      refine Lo A rfl (y_pickF (A.g 43 rfl) (A.g 48 rfl) fun _ A => ?_)
      replace A := A.only [49, 26, 25, 24, 23, 9, 8, 6, 0] rfl
      refine hK13 _ _ ?_
      refine wp_cond_false (A.get rfl) ?_
      refine wp_skip ?_
      refine hK12 _ _ ?_
      refine wp_seq_k fun K14 hK14 => ?_
      refine wp_seq_k fun K15 hK15 => ?_
      refine region_draw A [⟨51, pl (eqv (.pointer (some ⟨b3, 0, none⟩))), [], [6], none, false⟩, ⟨52, pl (eqv (.pointer (some ⟨b3, 0, none⟩))), [0], [], none, false⟩, ⟨53, pl (eqv (.pointer (some ⟨b3, 2, none⟩))), [1], [], none, false⟩, ⟨54, pl (eqv (.map (some b1))), [2], [], none, false⟩, ⟨55, pl (eqv (.agg #[.int .i64 lo, .int .i64 hi'])), [], [9], none, false⟩, ⟨56, pl (eqv (.tuple #[.agg #[.bool false], .bool true])), [3, 4], [], none, false⟩, ⟨50, pl (eqv (.tuple #[.agg #[.bool false], .bool true])), [5], [], none, false⟩, ⟨57, pl (eqv (.agg #[.bool false])), [6], [], none, false⟩, ⟨58, pl (eqv (.bool true)), [6], [], none, true⟩, ⟨10, pl (blk (.cells #[.bool false] 79)), [], [], none, false⟩] [(10, false), (11, false)] (by kernel_rfl) (by kernel_rfl) (fun d _ _ _ _ h => by cases d <;> exact h) ⟨?_, ?_, ?_, ?_, ?_, ?_, ?_, ?_, ?_, ?_, trivial⟩ ?_  -- region 10
      · refine due_plain fun ρ w1 G hsrc hold => ?_; obtain ⟨o6, -⟩ := hold; exact y_move (o6.trans (A.g 6 rfl)) y_eq
      · refine due_plain fun ρ w1 G hsrc hold => ?_; obtain ⟨⟨_, _, ⟨h51, -⟩, -⟩, -⟩ := hsrc; exact y_nilCheck h51 y_eq
      · refine due_plain fun ρ w1 G hsrc hold => ?_; obtain ⟨⟨_, _, ⟨h52, -⟩, -⟩, -⟩ := hsrc; exact y_fieldAddr (off := 2) (j := 2) (by kernel_rfl) h52 (by first | rfl | omega) y_eq
      · refine due_plain fun ρ w1 G hsrc hold => ?_; obtain ⟨⟨_, _, ⟨h53, -⟩, -⟩, -⟩ := hsrc; exact y_load (by kernel_rfl) h53 ((cell_of (G.gr.heap' (S.get 2 rfl)) _).trans rfl) y_eq
      · refine due_plain fun ρ w1 G hsrc hold => ?_; obtain ⟨o9, -⟩ := hold; exact y_loadAgg [.int .i64 lo, .int .i64 hi'] (by kernel_rfl) (o9.trans (A.g 9 rfl)) (cells_at (G.gr.heap' (S.get 0 rfl)) rfl) y_eq
      · refine due_plain fun ρ w1 G hsrc hold => ?_; obtain ⟨⟨_, _, ⟨h54, -⟩, -⟩, ⟨_, _, ⟨h55, -⟩, -⟩, -⟩ := hsrc; exact y_lookup h54 h55 (look_link (G.gr.heap' (S.get 3 rfl)) I.lm (lo, hi') hgd (c := false) (ok := true) (by rw [hlk]; rfl) (by rw [hlk]; rfl)) y_eq
      · refine due_plain fun ρ w1 G hsrc hold => ?_; obtain ⟨⟨_, _, ⟨h56, -⟩, -⟩, -⟩ := hsrc; exact y_move h56 y_eq
      · refine due_plain fun ρ w1 G hsrc hold => ?_; obtain ⟨⟨_, _, ⟨h50, -⟩, -⟩, -⟩ := hsrc; exact y_extract h50 rfl y_eq
      · refine due_pure fun ρ w1 G hsrc hold => ?_; obtain ⟨⟨_, _, ⟨h50, -⟩, -⟩, -⟩ := hsrc; exact ⟨_, (fun w1 => r_extract h50 rfl), rfl, rfl⟩
      · refine due_plain fun ρ w1 G hsrc hold => ?_; exact y_alloc (z := .agg #[.bool false]) (by kernel_rfl) y_blk
      rintro _ _ ⟨rfl, rfl⟩ _ _ ⟨rfl, rfl⟩ _ _ ⟨rfl, rfl⟩ _ _ ⟨rfl, rfl⟩ _ _ ⟨rfl, rfl⟩ _ _ ⟨rfl, rfl⟩ _ _ ⟨rfl, rfl⟩ _ _ ⟨rfl, rfl⟩ _ _ ⟨rfl, rfl⟩ _ _ ⟨b6, rfl, rfl⟩
      intro ac w A gG nN
      replace S : St _ _ _ ([(b6, .cells #[.bool false] 79 (0, 0)), (b5, .cells #[.int .i64 lo, .int .i64 hi'] 28 (0, 0)), (b4, .cells #[.int .i64 l.1, .int .i64 l.2] 28 (0, 0)), (b3, .cells #[.int .i64 n, .slice oa o.length oc, .map (some b1), .map (some b2)] 69 (0, 0)), (b1, ol), (b2, .map #[] 0)] ++ Ho) := (S.new gG nN).perm (by first | exact .refl _ | (rw [List.append_assoc]; exact .refl _) | (simp only [List.append_assoc, List.nil_append, List.append_nil]; exact .refl _))
      refine L_opN A rfl rfl (y_store 1 (by kernel_rfl) (A.g 10 rfl) (A.g 57 rfl) (S.get 0 rfl) rfl (Nat.le_of_ble_eq_true rfl) (one_all rfl) ?_)
      replace S : St _ _ _ ([(b6, .cells #[.bool false] 79 (0, 0)), (b5, .cells #[.int .i64 lo, .int .i64 hi'] 28 (0, 0)), (b4, .cells #[.int .i64 l.1, .int .i64 l.2] 28 (0, 0)), (b3, .cells #[.int .i64 n, .slice oa o.length oc, .map (some b1), .map (some b2)] 69 (0, 0)), (b1, ol), (b2, .map #[] 0)] ++ Ho) := S.setAt 0 rfl _
      refine La A rfl (A.g 58 rfl) fun _ A => ?_
      replace A := A.only [49, 26, 25, 24, 23, 11, 9, 8, 6, 0] rfl
      refine hK15 _ _ ?_
      refine wp_seq_k fun K16 hK16 => ?_
      refine region_seq ?_  -- region 11
      refine Lm A rfl (A.g 11 rfl) fun _ A => ?_
      replace A := A.only [59, 49, 26, 25, 24, 23, 11, 9, 8, 6, 0] rfl
      refine hK16 _ _ ?_
      refine wp_cond_true (A.get rfl) ?_
      refine wp_seq_k fun K17 hK17 => ?_
      refine region_seq ?_  -- region 12
      refine La A rfl (evc _ _) fun _ A => La A rfl (evc _ _) fun _ A => ?_
      replace A := A.only [59, 49, 26, 25, 24, 23, 11, 9, 8, 6, 5, 4, 0] rfl
      refine hK17 _ _ ?_
      exact wp_ret ⟨A.defers, _, res_run (rs := [.tmp 4, .tmp 5]) (vs := [.pointer none, .int .i64 1]) rfl ⟨A.get rfl, A.get rfl, trivial⟩, ⟨_, rfl, S.kp.to_gr, [], Or.inl ⟨hnone, rfl, rfl⟩, NewF.nil _ _⟩⟩
    rw [if_neg c4] at hlk
    have hok : okL n o (lo, hi') = true := by simp [okL, c4, c3]; omega
    · skip
      refine wp_seq_k fun K7 hK7 => ?_
      refine region_seq ?_  -- region 5
      refine Lo A rfl (y_lss (A.g 25 rfl) (A.g 24 rfl) (c := true) (decide_eq_true (by omega)) fun _ A => ?_)
      replace A := A.only [26, 25, 24, 23, 6, 0] rfl
      refine hK7 _ _ ?_
      refine wp_seq_k fun K8 hK8 => ?_
      refine wp_cond_true (A.get rfl) ?_
      refine wp_skip ?_
      refine hK8 _ _ ?_
      refine wp_seq_k fun K9 hK9 => ?_
      refine wp_block ?_
      refine wp_seq_k fun K10 hK10 => ?_
      refine region_seq ?_  -- region 6
      refine Lo A rfl (y_indexA (e := 28) (size := 2) (by kernel_rfl) (by kernel_rfl) (A.g 23 rfl) (A.g 25 rfl) (by omega) (by omega) fun _ A => ?_)
      refine Lo A rfl (y_loadAgg [.int .i64 l.1, .int .i64 l.2] (by kernel_rfl) (A.g 27 rfl) hrow fun _ A => ?_)
      refine Lo A rfl (y_allocN (z := .agg #[.int .i64 0, .int .i64 0]) (by kernel_rfl) fun b4 w gG nN ac A => ?_)
      replace S : St _ _ _ ([(b4, .cells #[.int .i64 0, .int .i64 0] 28 (0, 0)), (b3, .cells #[.int .i64 n, .slice oa o.length oc, .map (some b1), .map (some b2)] 69 (0, 0)), (b1, ol), (b2, .map #[] 0)] ++ Ho) := (S.new gG nN).perm (by first | exact .refl _ | (rw [List.append_assoc]; exact .refl _) | (simp only [List.append_assoc, List.nil_append, List.append_nil]; exact .refl _))
      refine L_opN A rfl rfl (y_store 2 (by kernel_rfl) (A.g 8 rfl) (A.g 28 rfl) (S.get 0 rfl) rfl (Nat.le_of_ble_eq_true rfl) (one_all rfl) ?_)
      replace S : St _ _ _ ([(b4, .cells #[.int .i64 l.1, .int .i64 l.2] 28 (0, 0)), (b3, .cells #[.int .i64 n, .slice oa o.length oc, .map (some b1), .map (some b2)] 69 (0, 0)), (b1, ol), (b2, .map #[] 0)] ++ Ho) := S.setAt 0 rfl _
      replace A := A.only [26, 25, 24, 23, 8, 6, 0] rfl
      refine hK10 _ _ ?_
      refine wp_seq_k fun K11 hK11 => ?_
      refine region_seq ?_  -- region 7
      refine Lo A rfl (y_indexP (n := 2) (e := 3) (size := 1) (j := 0) (by kernel_rfl) (by kernel_rfl) (A.g 8 rfl) (evc _ _) (by decide) (by decide) (by first | rfl | omega) fun _ A => ?_)
      refine Lo A rfl (y_load (by kernel_rfl) (A.g 29 rfl) ((cell_of (S.get 0 rfl) _).trans rfl) fun _ A => ?_)
      refine Lo A rfl (y_indexP (n := 2) (e := 3) (size := 1) (j := 1) (by kernel_rfl) (by kernel_rfl) (A.g 8 rfl) (evc _ _) (by decide) (by decide) (by first | rfl | omega) fun _ A => ?_)
      refine Lo A rfl (y_load (by kernel_rfl) (A.g 31 rfl) ((cell_of (S.get 0 rfl) _).trans rfl) fun _ A => ?_)
      replace A := A.only [32, 30, 26, 25, 24, 23, 8, 6, 0] rfl
      refine Lo A rfl (y_call2 (by kernel_rfl) rfl (A.g 30 rfl) (A.g 32 rfl) (callN (ends_is he _) fun v w H gG nN hf ac A => ?_))
      obtain ⟨rfl, rfl⟩ := hf
      replace S : St _ _ _ ([(b4, .cells #[.int .i64 l.1, .int .i64 l.2] 28 (0, 0)), (b3, .cells #[.int .i64 n, .slice oa o.length oc, .map (some b1), .map (some b2)] 69 (0, 0)), (b1, ol), (b2, .map #[] 0)] ++ Ho) := (S.new gG nN).perm (by first | exact .refl _ | (rw [List.append_assoc]; exact .refl _) | (simp only [List.append_assoc, List.nil_append, List.append_nil]; exact .refl _))
      refine Lo A rfl (y_allocN (z := .agg #[.int .i64 0, .int .i64 0]) (by kernel_rfl) fun b5 w gG nN ac A => ?_)
      replace S : St _ _ _ ([(b5, .cells #[.int .i64 0, .int .i64 0] 28 (0, 0)), (b4, .cells #[.int .i64 l.1, .int .i64 l.2] 28 (0, 0)), (b3, .cells #[.int .i64 n, .slice oa o.length oc, .map (some b1), .map (some b2)] 69 (0, 0)), (b1, ol), (b2, .map #[] 0)] ++ Ho) := (S.new gG nN).perm (by first | exact .refl _ | (rw [List.append_assoc]; exact .refl _) | (simp only [List.append_assoc, List.nil_append, List.append_nil]; exact .refl _))
      refine L_opN A rfl rfl (y_store 2 (by kernel_rfl) (A.g 9 rfl) (A.g 33 rfl) (S.get 0 rfl) rfl (Nat.le_of_ble_eq_true rfl) (one_all rfl) ?_)
      replace S : St _ _ _ ([(b5, .cells #[.int .i64 lo, .int .i64 hi'] 28 (0, 0)), (b4, .cells #[.int .i64 l.1, .int .i64 l.2] 28 (0, 0)), (b3, .cells #[.int .i64 n, .slice oa o.length oc, .map (some b1), .map (some b2)] 69 (0, 0)), (b1, ol), (b2, .map #[] 0)] ++ Ho) := S.setAt 0 rfl _
      replace A := A.only [26, 25, 24, 23, 9, 8, 6, 0] rfl
      refine hK11 _ _ ?_
      refine wp_seq_k fun K12 hK12 => ?_
      refine wp_seq_k fun K13 hK13 => ?_
      refine region_seq ?_  -- region 8
      refine Lo A rfl (y_indexP (n := 2) (e := 3) (size := 1) (j := 0) (by kernel_rfl) (by kernel_rfl) (A.g 9 rfl) (evc _ _) (by decide) (by decide) (by first | rfl | omega) fun _ A => ?_)
      refine Lo A rfl (y_load (by kernel_rfl) (A.g 34 rfl) ((cell_of (S.get 0 rfl) _).trans rfl) fun _ A => ?_)
      refine Lo A rfl (y_lss (A.g 35 rfl) (evc _ _) (c := false) (decide_eq_false c1) fun _ A => ?_)
      refine Lm A rfl (A.g 36 rfl) fun _ A => ?_
      replace A := A.only [37, 26, 25, 24, 23, 9, 8, 6, 0] rfl
      refine L_yes A rfl (by decide) rfl rfl (by decide) (A.get rfl) (y_indexP (n := 2) (e := 3) (size := 1) (j := 1) (by kernel_rfl) (by kernel_rfl) (A.g 9 rfl) (evc _ _) (by decide) (by decide) (by first | rfl | omega) fun _ A => ?_)
      refine L_yes A rfl (by decide) rfl rfl (by decide) (A.get rfl) (y_load (by kernel_rfl) (A.g 38 rfl) ((cell_of (S.get 0 rfl) _).trans rfl) fun _ A => ?_)
      refine L_yes A rfl (by decide) rfl rfl (by decide) (A.get rfl) (y_move (A.g 0 rfl) fun _ A => ?_)
      refine L_yes A rfl (by decide) rfl rfl (by decide) (A.get rfl) (y_gtr (A.g 39 rfl) (A.g 40 rfl) (c := false) (decide_eq_false c2) fun _ A => ?_)
      replace A := A.only [41, 37, 26, 25, 24, 23, 9, 8, 6, 0] rfl
      refine Lo A rfl (y_pickF (A.g 37 rfl) (A.g 41 rfl) fun _ A => ?_)
      refine Lm A rfl (A.g 42 rfl) fun _ A => L_yes A rfl (by decide) rfl rfl (by decide) (A.get rfl) (y_indexP (n := 2) (e := 3) (size := 1) (j := 0) (by kernel_rfl) (by kernel_rfl) (A.g 9 rfl) (evc _ _) (by decide) (by decide) (by first | rfl | omega) fun _ A => ?_)
      refine L_yes A rfl (by decide) rfl rfl (by decide) (A.get rfl) (y_load (by kernel_rfl) (A.g 44 rfl) ((cell_of (S.get 0 rfl) _).trans rfl) fun _ A => ?_)
      replace A := A.only [45, 43, 26, 25, 24, 23, 9, 8, 6, 0] rfl
      refine L_yes A rfl (by decide) rfl rfl (by decide) (A.get rfl) (y_indexP (n := 2) (e := 3) (size := 1) (j := 1) (by kernel_rfl) (by kernel_rfl) (A.g 9 rfl) (evc _ _) (by decide) (by decide) (by first | rfl | omega) fun _ A => ?_)
      refine L_yes A rfl (by decide) rfl rfl (by decide) (A.get rfl) (y_load (by kernel_rfl) (A.g 46 rfl) ((cell_of (S.get 0 rfl) _).trans rfl) fun _ A => ?_)
      refine L_yes A rfl (by decide) rfl rfl (by decide) (A.get rfl) (y_eql (A.g 45 rfl) (A.g 47 rfl) (c := false) (by simpa using c3) fun _ A => ?_)
      refine Lo A rfl (y_pickF (A.g 43 rfl) (A.g 48 rfl) fun _ A => ?_)
      replace A := A.only [49, 26, 25, 24, 23, 9, 8, 6, 0] rfl
      refine hK13 _ _ ?_
      refine wp_cond_false (A.get rfl) ?_
      refine wp_skip ?_
      refine hK12 _ _ ?_
      refine wp_seq_k fun K14 hK14 => ?_
      refine wp_seq_k fun K15 hK15 => ?_
      refine region_draw A [⟨51, pl (eqv (.pointer (some ⟨b3, 0, none⟩))), [], [6], none, false⟩, ⟨52, pl (eqv (.pointer (some ⟨b3, 0, none⟩))), [0], [], none, false⟩, ⟨53, pl (eqv (.pointer (some ⟨b3, 2, none⟩))), [1], [], none, false⟩, ⟨54, pl (eqv (.map (some b1))), [2], [], none, false⟩, ⟨55, pl (eqv (.agg #[.int .i64 lo, .int .i64 hi'])), [], [9], none, false⟩, ⟨56, pl (eqv (.tuple #[.agg #[.bool false], .bool false])), [3, 4], [], none, false⟩, ⟨50, pl (eqv (.tuple #[.agg #[.bool false], .bool false])), [5], [], none, false⟩, ⟨57, pl (eqv (.agg #[.bool false])), [6], [], none, false⟩, ⟨58, pl (eqv (.bool false)), [6], [], none, true⟩, ⟨10, pl (blk (.cells #[.bool false] 79)), [], [], none, false⟩] [(10, false), (11, false)] (by kernel_rfl) (by kernel_rfl) (fun d _ _ _ _ h => by cases d <;> exact h) ⟨?_, ?_, ?_, ?_, ?_, ?_, ?_, ?_, ?_, ?_, trivial⟩ ?_  -- region 10
      · refine due_plain fun ρ w1 G hsrc hold => ?_; obtain ⟨o6, -⟩ := hold; exact y_move (o6.trans (A.g 6 rfl)) y_eq
      · refine due_plain fun ρ w1 G hsrc hold => ?_; obtain ⟨⟨_, _, ⟨h51, -⟩, -⟩, -⟩ := hsrc; exact y_nilCheck h51 y_eq
      · refine due_plain fun ρ w1 G hsrc hold => ?_; obtain ⟨⟨_, _, ⟨h52, -⟩, -⟩, -⟩ := hsrc; exact y_fieldAddr (off := 2) (j := 2) (by kernel_rfl) h52 (by first | rfl | omega) y_eq
      · refine due_plain fun ρ w1 G hsrc hold => ?_; obtain ⟨⟨_, _, ⟨h53, -⟩, -⟩, -⟩ := hsrc; exact y_load (by kernel_rfl) h53 ((cell_of (G.gr.heap' (S.get 2 rfl)) _).trans rfl) y_eq
      · refine due_plain fun ρ w1 G hsrc hold => ?_; obtain ⟨o9, -⟩ := hold; exact y_loadAgg [.int .i64 lo, .int .i64 hi'] (by kernel_rfl) (o9.trans (A.g 9 rfl)) (cells_at (G.gr.heap' (S.get 0 rfl)) rfl) y_eq
      · refine due_plain fun ρ w1 G hsrc hold => ?_; obtain ⟨⟨_, _, ⟨h54, -⟩, -⟩, ⟨_, _, ⟨h55, -⟩, -⟩, -⟩ := hsrc; exact y_lookup h54 h55 (look_link (G.gr.heap' (S.get 3 rfl)) I.lm (lo, hi') hgd (c := false) (ok := false) (by rw [hlk]; rfl) (by rw [hlk]; rfl)) y_eq
      · refine due_plain fun ρ w1 G hsrc hold => ?_; obtain ⟨⟨_, _, ⟨h56, -⟩, -⟩, -⟩ := hsrc; exact y_move h56 y_eq
      · refine due_plain fun ρ w1 G hsrc hold => ?_; obtain ⟨⟨_, _, ⟨h50, -⟩, -⟩, -⟩ := hsrc; exact y_extract h50 rfl y_eq
      · refine due_pure fun ρ w1 G hsrc hold => ?_; obtain ⟨⟨_, _, ⟨h50, -⟩, -⟩, -⟩ := hsrc; exact ⟨_, (fun w1 => r_extract h50 rfl), rfl, rfl⟩
      · refine due_plain fun ρ w1 G hsrc hold => ?_; exact y_alloc (z := .agg #[.bool false]) (by kernel_rfl) y_blk
      rintro _ _ ⟨rfl, rfl⟩ _ _ ⟨rfl, rfl⟩ _ _ ⟨rfl, rfl⟩ _ _ ⟨rfl, rfl⟩ _ _ ⟨rfl, rfl⟩ _ _ ⟨rfl, rfl⟩ _ _ ⟨rfl, rfl⟩ _ _ ⟨rfl, rfl⟩ _ _ ⟨rfl, rfl⟩ _ _ ⟨b6, rfl, rfl⟩
      intro ac w A gG nN
      replace S : St _ _ _ ([(b6, .cells #[.bool false] 79 (0, 0)), (b5, .cells #[.int .i64 lo, .int .i64 hi'] 28 (0, 0)), (b4, .cells #[.int .i64 l.1, .int .i64 l.2] 28 (0, 0)), (b3, .cells #[.int .i64 n, .slice oa o.length oc, .map (some b1), .map (some b2)] 69 (0, 0)), (b1, ol), (b2, .map #[] 0)] ++ Ho) := (S.new gG nN).perm (by first | exact .refl _ | (rw [List.append_assoc]; exact .refl _) | (simp only [List.append_assoc, List.nil_append, List.append_nil]; exact .refl _))
      refine L_opN A rfl rfl (y_store 1 (by kernel_rfl) (A.g 10 rfl) (A.g 57 rfl) (S.get 0 rfl) rfl (Nat.le_of_ble_eq_true rfl) (one_all rfl) ?_)
      replace S : St _ _ _ ([(b6, .cells #[.bool false] 79 (0, 0)), (b5, .cells #[.int .i64 lo, .int .i64 hi'] 28 (0, 0)), (b4, .cells #[.int .i64 l.1, .int .i64 l.2] 28 (0, 0)), (b3, .cells #[.int .i64 n, .slice oa o.length oc, .map (some b1), .map (some b2)] 69 (0, 0)), (b1, ol), (b2, .map #[] 0)] ++ Ho) := S.setAt 0 rfl _
      refine La A rfl (A.g 58 rfl) fun _ A => ?_
      replace A := A.only [49, 26, 25, 24, 23, 11, 9, 8, 6, 0] rfl
      refine hK15 _ _ ?_
      refine wp_seq_k fun K16 hK16 => ?_
      refine region_seq ?_  -- region 11
      refine Lm A rfl (A.g 11 rfl) fun _ A => ?_
      replace A := A.only [59, 49, 26, 25, 24, 23, 11, 9, 8, 6, 0] rfl
      refine hK16 _ _ ?_
      refine wp_cond_false (A.get rfl) ?_
      refine wp_skip ?_
      refine hK14 _ _ ?_
      refine wp_seq_k fun K17 hK17 => ?_
      refine region_draw A [⟨60, pl (eqv (.pointer (some ⟨b3, 0, none⟩))), [], [6], none, false⟩, ⟨61, pl (eqv (.pointer (some ⟨b3, 0, none⟩))), [0], [], none, false⟩, ⟨62, pl (eqv (.pointer (some ⟨b3, 2, none⟩))), [1], [], none, false⟩, ⟨63, pl (eqv (.map (some b1))), [2], [], none, false⟩, ⟨64, pl (eqv (.agg #[.int .i64 lo, .int .i64 hi'])), [], [9], none, false⟩, ⟨65, pl (eqv (.agg #[.bool false])), [], [], none, false⟩] [(6, false)] (by kernel_rfl) (by kernel_rfl) (fun d _ _ _ _ h => by cases d <;> exact h) ⟨?_, ?_, ?_, ?_, ?_, ?_, trivial⟩ ?_  -- region 13
      · refine due_plain fun ρ w1 G hsrc hold => ?_; obtain ⟨o6, -⟩ := hold; exact y_move (o6.trans (A.g 6 rfl)) y_eq
      · refine due_plain fun ρ w1 G hsrc hold => ?_; obtain ⟨⟨_, _, ⟨h60, -⟩, -⟩, -⟩ := hsrc; exact y_nilCheck h60 y_eq
      · refine due_plain fun ρ w1 G hsrc hold => ?_; obtain ⟨⟨_, _, ⟨h61, -⟩, -⟩, -⟩ := hsrc; exact y_fieldAddr (off := 2) (j := 2) (by kernel_rfl) h61 (by first | rfl | omega) y_eq
      · refine due_plain fun ρ w1 G hsrc hold => ?_; obtain ⟨⟨_, _, ⟨h62, -⟩, -⟩, -⟩ := hsrc; exact y_load (by kernel_rfl) h62 ((cell_of (G.gr.heap' (S.get 3 rfl)) _).trans rfl) y_eq
      · refine due_plain fun ρ w1 G hsrc hold => ?_; obtain ⟨o9, -⟩ := hold; exact y_loadAgg [.int .i64 lo, .int .i64 hi'] (by kernel_rfl) (o9.trans (A.g 9 rfl)) (cells_at (G.gr.heap' (S.get 1 rfl)) rfl) y_eq
      · refine due_plain fun ρ w1 G hsrc hold => ?_; exact y_build0  (v := .agg #[.bool false]) (by kernel_rfl) y_eq
      rintro _ _ ⟨rfl, rfl⟩ _ _ ⟨rfl, rfl⟩ _ _ ⟨rfl, rfl⟩ _ _ ⟨rfl, rfl⟩ _ _ ⟨rfl, rfl⟩ _ _ ⟨rfl, rfl⟩
      intro ac w A gG nN
      replace S : St _ _ _ ([(b6, .cells #[.bool false] 79 (0, 0)), (b5, .cells #[.int .i64 lo, .int .i64 hi'] 28 (0, 0)), (b4, .cells #[.int .i64 l.1, .int .i64 l.2] 28 (0, 0)), (b3, .cells #[.int .i64 n, .slice oa o.length oc, .map (some b1), .map (some b2)] 69 (0, 0)), (b1, ol), (b2, .map #[] 0)] ++ Ho) := (S.new gG nN).perm (by first | exact .refl _ | (rw [List.append_assoc]; exact .refl _) | (simp only [List.append_assoc, List.nil_append, List.append_nil]; exact .refl _))
      obtain ⟨ol', hrun, hm'⟩ := run_put Try.lawK kv_inj Try.underlying66 (S.get 4 rfl) I.lm (lo, hi') hgd (stv false)
      refine L_opN A rfl rfl (y_mapUpdate (A.g 63 rfl) (A.g 64 rfl) (A.g 65 rfl) hrun ?_)
      replace S : St _ _ _ ([(b6, .cells #[.bool false] 79 (0, 0)), (b5, .cells #[.int .i64 lo, .int .i64 hi'] 28 (0, 0)), (b4, .cells #[.int .i64 l.1, .int .i64 l.2] 28 (0, 0)), (b3, .cells #[.int .i64 n, .slice oa o.length oc, .map (some b1), .map (some b2)] 69 (0, 0)), (b1, ol'), (b2, .map #[] 0)] ++ Ho) := S.setAt 4 rfl _
      replace A := A.only [59, 49, 26, 25, 24, 23, 11, 9, 8, 6, 0] rfl
      refine hK17 _ _ ?_
      refine region_draw A [⟨66, pl (eqv (.pointer (some ⟨b3, 0, none⟩))), [], [6], none, true⟩, ⟨67, pl (eqv (.pointer (some ⟨b3, 0, none⟩))), [], [6], none, false⟩, ⟨68, pl (eqv (.pointer (some ⟨b3, 0, none⟩))), [1], [], none, false⟩, ⟨69, pl (eqv (.pointer (some ⟨b3, 1, none⟩))), [2], [], none, false⟩, ⟨70, pl (eqv (.slice oa o.length oc)), [3], [], none, false⟩, ⟨71, pl (eqv (.agg #[.int .i64 lo, .int .i64 hi'])), [], [9], none, false⟩, ⟨72, pl (sblk 1 (.cells #[.int .i64 lo, .int .i64 hi'] 28)), [5], [], none, false⟩] [(7, false), (8, false), (9, false), (10, false)] (by kernel_rfl) (by kernel_rfl) (fun d _ _ _ _ h => by cases d <;> exact h) ⟨?_, ?_, ?_, ?_, ?_, ?_, ?_, trivial⟩ ?_  -- region 14
      · refine due_pure fun ρ w1 G hsrc hold => ?_; obtain ⟨o6, -⟩ := hold; exact ⟨_, (fun w1 => r_move (o6.trans (A.g 6 rfl))), rfl, rfl⟩
      · refine due_plain fun ρ w1 G hsrc hold => ?_; obtain ⟨o6, -⟩ := hold; exact y_move (o6.trans (A.g 6 rfl)) y_eq
      · refine due_plain fun ρ w1 G hsrc hold => ?_; obtain ⟨⟨_, _, ⟨h67, -⟩, -⟩, -⟩ := hsrc; exact y_nilCheck h67 y_eq
      · refine due_plain fun ρ w1 G hsrc hold => ?_; obtain ⟨⟨_, _, ⟨h68, -⟩, -⟩, -⟩ := hsrc; exact y_fieldAddr (off := 1) (j := 1) (by kernel_rfl) h68 (by first | rfl | omega) y_eq
      · refine due_plain fun ρ w1 G hsrc hold => ?_; obtain ⟨⟨_, _, ⟨h69, -⟩, -⟩, -⟩ := hsrc; exact y_load (by kernel_rfl) h69 ((cell_of (G.gr.heap' (S.get 3 rfl)) _).trans rfl) y_eq
      · refine due_plain fun ρ w1 G hsrc hold => ?_; obtain ⟨o9, -⟩ := hold; exact y_loadAgg [.int .i64 lo, .int .i64 hi'] (by kernel_rfl) (o9.trans (A.g 9 rfl)) (cells_at (G.gr.heap' (S.get 1 rfl)) rfl) y_eq
      · refine due_plain fun ρ w1 G hsrc hold => ?_; obtain ⟨⟨_, _, ⟨h71, -⟩, -⟩, -⟩ := hsrc; exact y_buildSlice1 (c := #[.int .i64 lo, .int .i64 hi']) (e := 28) h71 (fun w => by kernel_rfl) (fun b w' g n => ⟨g, _, ⟨b, rfl, rfl⟩, n⟩)
      rintro _ _ ⟨rfl, rfl⟩ _ _ ⟨rfl, rfl⟩ _ _ ⟨rfl, rfl⟩ _ _ ⟨rfl, rfl⟩ _ _ ⟨rfl, rfl⟩ _ _ ⟨rfl, rfl⟩ _ _ ⟨b7, rfl, rfl⟩
      intro ac w A gG nN
      replace S : St _ _ _ ([(b7, .cells #[.int .i64 lo, .int .i64 hi'] 28 (0, 0)), (b6, .cells #[.bool false] 79 (0, 0)), (b5, .cells #[.int .i64 lo, .int .i64 hi'] 28 (0, 0)), (b4, .cells #[.int .i64 l.1, .int .i64 l.2] 28 (0, 0)), (b3, .cells #[.int .i64 n, .slice oa o.length oc, .map (some b1), .map (some b2)] 69 (0, 0)), (b1, ol'), (b2, .map #[] 0)] ++ Ho) := (S.new gG nN).perm (by first | exact .refl _ | (rw [List.append_assoc]; exact .refl _) | (simp only [List.append_assoc, List.nil_append, List.append_nil]; exact .refl _))
      have hsrc : Src w 2 (.slice (some ⟨b7, 0, none⟩) 1 1) 1 [.int .i64 lo, .int .i64 hi'] := ⟨rfl, Or.inr ⟨_, _, rfl, cells_at (S.get 0 rfl) rfl⟩⟩
      replace S : St _ _ _ (Ho ++ [(b7, .cells #[.int .i64 lo, .int .i64 hi'] 28 (0, 0)), (b6, .cells #[.bool false] 79 (0, 0)), (b5, .cells #[.int .i64 lo, .int .i64 hi'] 28 (0, 0)), (b4, .cells #[.int .i64 l.1, .int .i64 l.2] 28 (0, 0)), (b3, .cells #[.int .i64 n, .slice oa o.length oc, .map (some b1), .map (some b2)] 69 (0, 0)), (b1, ol'), (b2, .map #[] 0)]) := S.perm (by classical rw [List.perm_iff_count]; intro x; simp only [List.count_append, List.count_cons, List.count_nil]; omega)
      refine Lo A rfl (y_append okPS (by kernel_rfl) (A.g 70 rfl) (A.g 72 rfl) S I.ord hsrc (one_all rfl) (by have := I.len; omega) (by have := I.len; omega) fun v' w Ho' hr S ac A => ?_)
      obtain ⟨oa', oc', rfl⟩ := hr.len
      replace S : St _ _ _ ([(b7, .cells #[.int .i64 lo, .int .i64 hi'] 28 (0, 0)), (b6, .cells #[.bool false] 79 (0, 0)), (b5, .cells #[.int .i64 lo, .int .i64 hi'] 28 (0, 0)), (b4, .cells #[.int .i64 l.1, .int .i64 l.2] 28 (0, 0)), (b3, .cells #[.int .i64 n, .slice oa o.length oc, .map (some b1), .map (some b2)] 69 (0, 0)), (b1, ol'), (b2, .map #[] 0)] ++ Ho') := S.perm (by classical rw [List.perm_iff_count]; intro x; simp only [List.count_append, List.count_cons, List.count_nil]; omega)
      refine Lo A rfl (y_nilCheck (A.g 66 rfl) fun _ A => ?_)
      refine Lo A rfl (y_fieldAddr (off := 1) (j := 1) (by kernel_rfl) (A.g 74 rfl) (by first | rfl | omega) fun _ A => ?_)
      refine L_opN A rfl rfl (y_store 1 (by kernel_rfl) (A.g 75 rfl) (A.g 73 rfl) (S.get 4 rfl) rfl (Nat.le_of_ble_eq_true rfl) (one_all rfl) ?_)
      replace S : St _ _ _ ([(b7, .cells #[.int .i64 lo, .int .i64 hi'] 28 (0, 0)), (b6, .cells #[.bool false] 79 (0, 0)), (b5, .cells #[.int .i64 lo, .int .i64 hi'] 28 (0, 0)), (b4, .cells #[.int .i64 l.1, .int .i64 l.2] 28 (0, 0)), (b3, .cells #[.int .i64 n, .slice oa' (o.length + 1) oc', .map (some b1), .map (some b2)] 69 (0, 0)), (b1, ol'), (b2, .map #[] 0)] ++ Ho') := S.setAt 4 rfl _
      replace A := A.only [59, 49, 26, 25, 24, 23, 11, 9, 8, 6, 0] rfl
      refine hK9 _ _ ?_
      refine region_seq ?_  -- region 15
      refine Lo A rfl (y_add (A.g 25 rfl) (evc _ _) (c := ((i + 1 : Nat) : Int)) ((wrap64 (by omega)).trans (by omega)) fun _ A => ?_)
      refine Lm A rfl (A.g 76 rfl) fun _ A => ?_
      replace A := A.only [59, 49, 26, 25, 24, 23, 11, 9, 8, 6, 0] rfl
      replace A := A.only [25, 24, 23, 6, 0] rfl
      refine ⟨kk - 1, by omega, i + 1, o ++ [(lo, hi')], _, Ho', _, _, by omega, A, St.app_left (K := [(b7, .cells #[.int .i64 lo, .int .i64 hi'] 28 (0, 0)), (b6, .cells #[.bool false] 79 (0, 0)), (b5, .cells #[.int .i64 lo, .int .i64 hi'] 28 (0, 0)), (b4, .cells #[.int .i64 l.1, .int .i64 l.2] 28 (0, 0))]) (S.perm (by classical rw [List.perm_iff_count]; intro x; simp only [List.count_append, List.count_cons, List.count_nil]; omega)), I.next hli he hok hr hm'⟩
  · obtain rfl : i = ls.length := by have := I.le; omega
    refine wp_seq_k fun K7 hK7 => ?_
    refine region_seq ?_  -- region 5
    refine Lo A rfl (y_lss (A.g 25 rfl) (A.g 24 rfl) (c := false) (decide_eq_false (by omega)) fun _ A => ?_)
    replace A := A.only [26, 25, 24, 23, 6, 0] rfl
    refine hK7 _ _ ?_
    refine wp_seq_k fun K8 hK8 => ?_
    refine wp_cond_false (A.get rfl) ?_
    refine wp_exit ?_
    refine hK5 _ _ ?_
    refine wp_seq_k fun K9 hK9 => ?_
    refine region_seq ?_  -- region 16
    refine Lm A rfl (A.g 6 rfl) fun _ A => La A rfl (A.g 77 rfl) fun _ A => La A rfl (evc _ _) fun _ A => ?_
    replace A := A.only [26, 25, 24, 23, 6, 5, 4, 0] rfl
    refine hK9 _ _ ?_
    obtain ⟨h1, h2⟩ := I.done hn1 hn2 hl b3 b1 b2
    exact wp_ret ⟨A.defers, _, res_run (rs := [.tmp 4, .tmp 5]) (vs := [.pointer (some ⟨b3, 0, none⟩), .int .i64 0]) rfl ⟨A.get rfl, A.get rfl, trivial⟩, ⟨_, rfl, S.kp.to_gr, _, Or.inr ⟨_, _, h1, rfl, h2⟩, S.newF⟩⟩
end Go.Proofs.Ytaeidblipdjgnaa
