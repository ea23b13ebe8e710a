import Derived.Test.YtaeidblipdjgnaaPeek
namespace Go.Proofs.Ytaeidblipdjgnaa
open Go.RowKit Go.Maps Go.WideMaps

def eStep (node : Int) (s : Int × M) (k : Int × Int) : Int × M := if k.2 = node then (s.1 + (s.2.q k).length, s.2.setq k []) else s
def both (l : Int × Int) : List (Int × Int) := [(l.1, l.2), (l.2, l.1)]
def M.empty (m : M) (node : Int) : Int × M := (m.order.flatMap both).foldl (eStep node) (0, m)
def SameNet (m m' : M) : Prop := m'.nodes = m.nodes ∧ m'.order = m.order ∧ m'.link = m.link ∧ ∀ k, (m'.q k).length ≤ (m.q k).length
theorem eStep_keeps {node : Int} {s : Int × M} {k : Int × Int} : SameNet s.2 (eStep node s k).2 := by
  unfold eStep; split
  · refine ⟨rfl, rfl, rfl, fun k' => ?_⟩
    simp only [M.setq]; split <;> simp
  · exact ⟨rfl, rfl, rfl, fun _ => Nat.le_refl _⟩
theorem SameNet.trans {a b c : M} (h : SameNet a b) (g : SameNet b c) : SameNet a c := ⟨g.1.trans h.1, g.2.1.trans h.2.1, g.2.2.1.trans h.2.2.1, fun k => Nat.le_trans (g.2.2.2 k) (h.2.2.2 k)⟩
/-- a place of an array of two pairs -/
theorem y_indexKK {ρ : Operand → Value} {w : World} {Φ : Value → World → Prop} {d : Option Tmp} {ty : TypeId} {pos : String} {aft : Array Edge} {gd : Option (Nat × Bool)} {x ix : Operand} {a b : Int} {j : Nat} (hx : ρ x = .agg #[.int .i64 a, .int .i64 b, .int .i64 b, .int .i64 a]) (hi : ρ ix = .int .i64 (j : Int)) {k : Int × Int} (hk : (both (a, b))[j]? = some k) (hΦ : Φ (.agg #[.int .i64 k.1, .int .i64 k.2]) w) : OpY Try.prog ⟨d, .index 96 x ix, ty, pos, aft, gd⟩ ρ w Φ := by
  have key : (Instr.index 96 (.agg #[.int .i64 a, .int .i64 b, .int .i64 b, .int .i64 a]) (.int .i64 (j : Int))).run Try.prog w = .ok (.agg #[.int .i64 k.1, .int .i64 k.2]) w := by
    have hj : j < 2 := by have := lt_of_get hk; simpa [both] using this
    obtain rfl | rfl : j = 0 ∨ j = 1 := by omega
    · obtain rfl : (a, b) = k := by simpa [both] using hk
      exact (show (Instr.index 96 (.agg #[.int .i64 a, .int .i64 b, .int .i64 b, .int .i64 a]) (.int .i64 ((0 : Nat) : Int))).run Try.prog w = .ok (.agg #[.int .i64 a, .int .i64 b]) w by kernel_rfl)
    · obtain rfl : (b, a) = k := by simpa [both] using hk
      exact (show (Instr.index 96 (.agg #[.int .i64 a, .int .i64 b, .int .i64 b, .int .i64 a]) (.int .i64 ((1 : Nat) : Int))).run Try.prog w = .ok (.agg #[.int .i64 b, .int .i64 a]) w by kernel_rfl)
  exact .pure (by simp only [execOp, hx, hi, Sem.run_bind, key, Result.andThen_ok, Sem.run_pure]) hΦ
theorem take_succ_fold {α β : Type} (f : β → α → β) (s : β) (l : List α) {j : Nat} {k : α} (h : l[j]? = some k) : (l.take (j + 1)).foldl f s = f ((l.take j).foldl f s) k := by
  rw [List.take_add_one, h]; simp
section
variable {p : Nat} {m : M} {H : Frag} {w0 : World} {node : Int}
set_option maxRecDepth 20000 in
set_option maxHeartbeats 16000000 in
theorem empty_ok (h : NetRep p m H) (nd : (keys H).Nodup) (hH : Holds w0 H) (ho : ∀ l ∈ m.order, i64 l.1 ∧ i64 l.2) :
    Calls Try.prog 34 #[.pointer (some ⟨p, 0, none⟩), .int .i64 node] w0 (RetW (keys H) w0 fun r H' => r = .int .i64 (m.empty node).1 ∧ NetRep p (m.empty node).2 H') := by
  have hfew := few_of h
  obtain ⟨vo, Ho, rl, ol, ls, rq, oq, es, h, rfl⟩ := h
  obtain ⟨oa, oc, rfl⟩ := h.ord.len
  have hols := h.ols
  have S0 := St.start nd hH
  generalize hD : keys _ = DD at S0 ⊢
  refine enter Try.func34 rfl (n := 56) rfl (Nat.le_of_ble_eq_true rfl) fun _ A => ?_
  have S : St _ _ _ ([(p, .cells #[.int .i64 m.nodes, .slice oa m.order.length oc, .map (some rl), .map (some rq)] 69 (0, 0)), (rl, ol), (rq, oq)] ++ (Ho ++ qeH es)) := S0
  refine wp_seq_k fun K1 hK1 => ?_
  refine region_seq ?_  -- region 0
  refine La A rfl (evc _ _) fun _ A => ?_
  replace A := A.only [4, 1, 0] rfl
  refine hK1 _ _ ?_
  refine wp_seq_k fun K2 hK2 => ?_
  refine wp_seq_k fun K3 hK3 => ?_
  refine region_seq ?_  -- region 1
  refine Lm A rfl (A.g 0 rfl) fun _ A => Lo A rfl (y_ptrNil (c := false) (by kernel_rfl) (A.g 10 rfl) (evc _ _) rfl fun _ A => ?_)
  replace A := A.only [11, 4, 1, 0] rfl
  refine hK3 _ _ ?_
  refine wp_cond_false (A.get rfl) ?_
  refine wp_skip ?_
  refine hK2 _ _ ?_
  refine wp_seq_k fun K4 hK4 => ?_
  refine region_seq ?_  -- region 3
  refine La A rfl (evc _ _) fun _ A => ?_
  replace A := A.only [11, 5, 4, 1, 0] rfl
  refine hK4 _ _ ?_
  refine wp_seq_k fun K5 hK5 => ?_
  refine wp_seq_k fun K6 hK6 => ?_
  refine region_seq ?_  -- region 4
  refine Lm A rfl (A.g 0 rfl) fun _ A => Lo A rfl (y_nilCheck (A.g 12 rfl) fun _ A => ?_)
  refine Lo A rfl (y_fieldAddr (off := 1) (j := 1) (by kernel_rfl) (A.g 13 rfl) (by first | rfl | omega) fun _ A => ?_)
  refine Lo A rfl (y_load (by kernel_rfl) (A.g 14 rfl) ((cell_of (S.get 0 rfl) _).trans rfl) fun _ A => ?_)
  refine Lo A rfl (y_lenS (e := 28) (by kernel_rfl) (A.g 15 rfl) fun _ A => ?_)
  refine Lm A rfl (evc _ _) fun _ A => ?_
  replace A := A.only [17, 16, 15, 11, 5, 4, 1, 0] rfl
  refine hK6 _ _ ?_
  refine wp_block ?_
  replace A := A.only [17, 16, 15, 5, 1, 0] rfl
  have I0 : NetP m (.slice oa m.order.length oc) Ho ol ls oq es := h
  refine wp_loop_ghost (fun kk ac w' => ∃ (i : Nat) (s : Int × M) (oq : Obj) (es : List Qe), kk + i = m.order.length ∧ s = ((m.order.take i).flatMap both).foldl (eStep node) (0, m) ∧ 0 ≤ s.1 ∧ s.1 ≤ 48 * i ∧ SameNet m s.2 ∧ Sl 56 ac [(0, .pointer (some ⟨p, 0, none⟩)), (1, .int .i64 node), (5, .int .i64 (s).1), (15, .slice oa m.order.length oc), (16, .int .i64 m.order.length), (17, .int .i64 ((i : Nat) : Int))] ∧ St DD w0 w' ([(p, .cells #[.int .i64 m.nodes, .slice oa m.order.length oc, .map (some rl), .map (some rq)] 69 (0, 0)), (rl, ol), (rq, oq)] ++ (Ho ++ qeH es)) ∧ NetP s.2 (.slice oa m.order.length oc) Ho ol ls oq es) m.order.length ⟨0, (0, m), oq, es, by simp, by simp, by simp, by simp, ⟨rfl, rfl, rfl, fun _ => Nat.le_refl _⟩, A, S, h⟩ ?_
  clear A S h I0
  rintro kk ac w2 ⟨i, s, oq, es, hkk, hs, hs0, hs1, hsame, A, S, h⟩
  rcases Nat.lt_or_ge i m.order.length with hi | hi
  · obtain ⟨l, hli⟩ : ∃ l, m.order[i]? = some l := ⟨_, List.getElem?_eq_getElem hi⟩
    have hor : SlRep 28 2 (.slice oa m.order.length oc) m.order.length (pairs m.order) Ho := by have := h.ord; rw [hsame.2.1] at this; exact this
    obtain ⟨va, vc, hva, hrow⟩ := pairs_row (hor.src (St.app_left (H := Ho) (K := ([(p, .cells #[.int .i64 m.nodes, .slice oa m.order.length oc, .map (some rl), .map (some rq)] 69 (0, 0)), (rl, ol), (rq, oq)] ++ (qeH es))) (S.perm (by classical rw [List.perm_iff_count]; intro x; simp only [List.count_append, List.count_cons, List.count_nil] <;> omega))).holds) hli
    simp only [Value.slice.injEq] at hva; obtain ⟨rfl, -, rfl⟩ := hva
    have hgl := ho l (List.mem_of_getElem? hli)
    have hkeys : ∀ k ∈ both l, goodK k := by intro k hk; simp only [both, List.mem_cons, List.not_mem_nil, or_false] at hk; rcases hk with rfl | rfl; exact good hgl.1 hgl.2; exact good hgl.2 hgl.1
    have hnext : ((m.order.take (i + 1)).flatMap both).foldl (eStep node) (0, m) = (both l).foldl (eStep node) s := by rw [List.take_add_one, hli]; simp [List.flatMap_append, List.foldl_append, ← hs]
    refine wp_seq_k fun K7 hK7 => ?_
    refine region_seq ?_  -- region 5
    refine Lo A rfl (y_lss (A.g 17 rfl) (A.g 16 rfl) (c := true) (decide_eq_true (by omega)) fun _ A => ?_)
    replace A := A.only [18, 17, 16, 15, 5, 1, 0] rfl
    refine hK7 _ _ ?_
    refine wp_seq_k fun K8 hK8 => ?_
    refine wp_cond_true (A.get rfl) ?_
    refine wp_skip ?_
    refine hK8 _ _ ?_
    refine wp_seq_k fun K9 hK9 => ?_
    refine wp_block ?_
    refine wp_seq_k fun K10 hK10 => ?_
    refine region_seq ?_  -- region 6
    refine Lo A rfl (y_indexA (e := 28) (size := 2) (by kernel_rfl) (by kernel_rfl) (A.g 15 rfl) (A.g 17 rfl) (by omega) (by omega) fun _ A => ?_)
    refine Lo A rfl (y_loadAgg [.int .i64 l.1, .int .i64 l.2] (by kernel_rfl) (A.g 19 rfl) hrow fun _ A => ?_)
    refine Lo A rfl (y_allocN (z := .agg #[.int .i64 0, .int .i64 0]) (by kernel_rfl) fun b1 w gG nN ac A => ?_)
    replace S : St _ _ _ ([(b1, .cells #[.int .i64 0, .int .i64 0] 28 (0, 0)), (p, .cells #[.int .i64 m.nodes, .slice (some va) m.order.length oc, .map (some rl), .map (some rq)] 69 (0, 0)), (rl, ol), (rq, oq)] ++ (Ho ++ (qeH es))) := (S.new gG nN).perm (by first | exact .refl _ | (rw [List.append_assoc]; exact .refl _) | (simp only [List.append_assoc, List.nil_append, List.append_nil]; exact .refl _))
    refine L_opN A rfl rfl (y_store 2 (by kernel_rfl) (A.g 7 rfl) (A.g 20 rfl) (S.get 0 rfl) rfl (Nat.le_of_ble_eq_true rfl) (one_all rfl) ?_)
    replace S : St _ _ _ ([(b1, .cells #[.int .i64 l.1, .int .i64 l.2] 28 (0, 0)), (p, .cells #[.int .i64 m.nodes, .slice (some va) m.order.length oc, .map (some rl), .map (some rq)] 69 (0, 0)), (rl, ol), (rq, oq)] ++ (Ho ++ (qeH es))) := S.setAt 0 rfl _
    replace A := A.only [18, 17, 16, 15, 7, 5, 1, 0] rfl
    refine hK10 _ _ ?_
    refine wp_seq_k fun K11 hK11 => ?_
    refine region_seq ?_  -- region 7
    refine Lo A rfl (y_indexP (n := 2) (e := 3) (size := 1) (j := 0) (by kernel_rfl) (by kernel_rfl) (A.g 7 rfl) (evc _ _) (by decide) (by decide) (by first | rfl | omega) fun _ A => ?_)
    refine Lo A rfl (y_load (by kernel_rfl) (A.g 21 rfl) ((cell_of (S.get 0 rfl) _).trans rfl) fun _ A => ?_)
    refine Lo A rfl (y_indexP (n := 2) (e := 3) (size := 1) (j := 1) (by kernel_rfl) (by kernel_rfl) (A.g 7 rfl) (evc _ _) (by decide) (by decide) (by first | rfl | omega) fun _ A => ?_)
    refine Lo A rfl (y_load (by kernel_rfl) (A.g 23 rfl) ((cell_of (S.get 0 rfl) _).trans rfl) fun _ A => ?_)
    replace A := A.only [24, 22, 18, 17, 16, 15, 7, 5, 1, 0] rfl
    refine Lo A rfl (y_build2 (A.g 22 rfl) (A.g 24 rfl) (v := .agg #[.int .i64 l.1, .int .i64 l.2]) (by kernel_rfl) fun _ A => ?_)
    refine Lo A rfl (y_indexP (n := 2) (e := 3) (size := 1) (j := 1) (by kernel_rfl) (by kernel_rfl) (A.g 7 rfl) (evc _ _) (by decide) (by decide) (by first | rfl | omega) fun _ A => ?_)
    refine Lo A rfl (y_load (by kernel_rfl) (A.g 26 rfl) ((cell_of (S.get 0 rfl) _).trans rfl) fun _ A => ?_)
    refine Lo A rfl (y_indexP (n := 2) (e := 3) (size := 1) (j := 0) (by kernel_rfl) (by kernel_rfl) (A.g 7 rfl) (evc _ _) (by decide) (by decide) (by first | rfl | omega) fun _ A => ?_)
    replace A := A.only [28, 27, 25, 18, 17, 16, 15, 7, 5, 1, 0] rfl
    refine Lo A rfl (y_load (by kernel_rfl) (A.g 28 rfl) ((cell_of (S.get 0 rfl) _).trans rfl) fun _ A => ?_)
    refine Lo A rfl (y_build2 (A.g 27 rfl) (A.g 29 rfl) (v := .agg #[.int .i64 l.2, .int .i64 l.1]) (by kernel_rfl) fun _ A => ?_)
    refine Lo A rfl (y_build2 (A.g 25 rfl) (A.g 30 rfl) (v := .agg #[.int .i64 l.1, .int .i64 l.2, .int .i64 l.2, .int .i64 l.1]) (by kernel_rfl) fun _ A => ?_)
    refine Lm A rfl (evc _ _) fun _ A => ?_
    replace A := A.only [32, 31, 18, 17, 16, 15, 7, 5, 1, 0] rfl
    refine hK11 _ _ ?_
    refine wp_block ?_
    replace A := A.only [32, 31, 17, 16, 15, 5, 1, 0] rfl
    replace S : St _ _ _ ([(p, .cells #[.int .i64 m.nodes, .slice (some va) m.order.length oc, .map (some rl), .map (some rq)] 69 (0, 0)), (rl, ol), (rq, oq)] ++ (Ho ++ (qeH es))) := St.app_left (K := [(b1, .cells #[.int .i64 l.1, .int .i64 l.2] 28 (0, 0))]) (S.perm (by classical rw [List.perm_iff_count]; intro x; simp only [List.count_append, List.count_cons, List.count_nil] <;> omega))
    refine wp_loop_ghost (fun k2 ac w' => ∃ (j : Nat) (s2 : Int × M) (oq : Obj) (es : List Qe), k2 + j = 2 ∧ s2 = ((both l).take j).foldl (eStep node) s ∧ 0 ≤ s2.1 ∧ s2.1 ≤ 48 * i + 24 * j ∧ SameNet m s2.2 ∧ Sl 56 ac [(0, .pointer (some ⟨p, 0, none⟩)), (1, .int .i64 node), (5, .int .i64 s2.1), (15, .slice (some va) m.order.length oc), (16, .int .i64 m.order.length), (17, .int .i64 ((i : Nat) : Int)), (31, .agg #[.int .i64 l.1, .int .i64 l.2, .int .i64 l.2, .int .i64 l.1]), (32, .int .i64 ((j : Nat) : Int))] ∧ St DD w0 w' ([(p, .cells #[.int .i64 m.nodes, .slice (some va) m.order.length oc, .map (some rl), .map (some rq)] 69 (0, 0)), (rl, ol), (rq, oq)] ++ (Ho ++ qeH es)) ∧ NetP s2.2 (.slice (some va) m.order.length oc) Ho ol ls oq es) 2 ⟨0, s, oq, es, by simp, by simp, hs0, by omega, hsame, A, S, h⟩ ?_
    clear A S h
    rintro k2 ac w3 ⟨j, s2, oq2, es2, hk2, hs2, hs20, hs21, hsame2, A, S, h2⟩
    rcases Nat.lt_or_ge j 2 with hj | hj
    · obtain ⟨⟨k1, k2'⟩, hkj⟩ : ∃ k, (both l)[j]? = some k := ⟨_, List.getElem?_eq_getElem (by simpa [both] using hj)⟩
      have hgk := hkeys _ (List.mem_of_getElem? hkj)
      have hst := take_succ_fold (eStep node) s (both l) hkj
      rw [← hs2] at hst
      have hlq0 := h2.lookq (k1, k2')
      obtain ⟨qa, qc, hlq⟩ := hlq0
      have hq24 : (s2.2.q (k1, k2')).length ≤ 24 := Nat.le_trans (hsame2.2.2.2 _) (hfew _)
      by_cases hnode : k2' = node
      · skip
        refine wp_seq_k fun K12 hK12 => ?_
        refine region_seq ?_  -- region 8
        refine Lo A rfl (y_lss (A.g 32 rfl) (evc _ _) (c := true) (decide_eq_true (by omega)) fun _ A => ?_)
        replace A := A.only [33, 32, 31, 17, 16, 15, 5, 1, 0] rfl
        refine hK12 _ _ ?_
        refine wp_seq_k fun K13 hK13 => ?_
        refine wp_cond_true (A.get rfl) ?_
        refine wp_skip ?_
        refine hK13 _ _ ?_
        refine wp_seq_k fun K14 hK14 => ?_
        refine wp_block ?_
        refine wp_seq_k fun K15 hK15 => ?_
        refine region_seq ?_  -- region 9
        refine Lo A rfl (y_indexKK (A.g 31 rfl) (A.g 32 rfl) hkj fun _ A => ?_)
        refine Lo A rfl (y_allocN (z := .agg #[.int .i64 0, .int .i64 0]) (by kernel_rfl) fun b2 w gG nN ac A => ?_)
        replace S : St _ _ _ ([(b2, .cells #[.int .i64 0, .int .i64 0] 28 (0, 0)), (p, .cells #[.int .i64 m.nodes, .slice (some va) m.order.length oc, .map (some rl), .map (some rq)] 69 (0, 0)), (rl, ol), (rq, oq2)] ++ (Ho ++ (qeH es2))) := (S.new gG nN).perm (by first | exact .refl _ | (rw [List.append_assoc]; exact .refl _) | (simp only [List.append_assoc, List.nil_append, List.append_nil]; exact .refl _))
        refine L_opN A rfl rfl (y_store 2 (by kernel_rfl) (A.g 9 rfl) (A.g 34 rfl) (S.get 0 rfl) rfl (Nat.le_of_ble_eq_true rfl) (one_all rfl) ?_)
        replace S : St _ _ _ ([(b2, .cells #[.int .i64 k1, .int .i64 k2'] 28 (0, 0)), (p, .cells #[.int .i64 m.nodes, .slice (some va) m.order.length oc, .map (some rl), .map (some rq)] 69 (0, 0)), (rl, ol), (rq, oq2)] ++ (Ho ++ (qeH es2))) := S.setAt 0 rfl _
        replace A := A.only [33, 32, 31, 17, 16, 15, 9, 5, 1, 0] rfl
        refine hK15 _ _ ?_
        refine wp_seq_k fun K16 hK16 => ?_
        refine region_seq ?_  -- region 10
        refine Lo A rfl (y_indexP (n := 2) (e := 3) (size := 1) (j := 1) (by kernel_rfl) (by kernel_rfl) (A.g 9 rfl) (evc _ _) (by decide) (by decide) (by first | rfl | omega) fun _ A => ?_)
        refine Lo A rfl (y_load (by kernel_rfl) (A.g 35 rfl) ((cell_of (S.get 0 rfl) _).trans rfl) fun _ A => ?_)
        refine Lm A rfl (A.g 1 rfl) fun _ A => Lo A rfl (y_eql (A.g 36 rfl) (A.g 37 rfl) (c := true) (by simp [hnode]) fun _ A => ?_)
        replace A := A.only [38, 33, 32, 31, 17, 16, 15, 9, 5, 1, 0] rfl
        refine hK16 _ _ ?_
        refine wp_cond_true (A.get rfl) ?_
        refine wp_seq_k fun K17 hK17 => ?_
        refine region_draw A [⟨39, pl (eqv (.int .i64 s2.1)), [], [5], none, false⟩, ⟨40, pl (eqv (.pointer (some ⟨p, 0, none⟩))), [], [0], none, false⟩, ⟨41, pl (eqv (.pointer (some ⟨p, 0, none⟩))), [1], [], none, false⟩, ⟨42, pl (eqv (.pointer (some ⟨p, 3, none⟩))), [2], [], none, false⟩, ⟨43, pl (eqv (.map (some rq))), [3], [], none, false⟩, ⟨44, pl (eqv (.agg #[.int .i64 k1, .int .i64 k2'])), [], [9], none, false⟩, ⟨45, pl (eqv (.slice qa (s2.2.q (k1, k2')).length qc)), [4, 5], [], none, false⟩, ⟨46, pl (eqv (.int .i64 ((s2.2.q (k1, k2')).length))), [6], [], none, false⟩, ⟨47, pl (eqv (.int .i64 (s2.1 + (s2.2.q (k1, k2')).length))), [0, 7], [], none, false⟩] [(9, false)] (by kernel_rfl) (by kernel_rfl) (fun d _ _ _ _ h => by cases d <;> exact h) ⟨?_, ?_, ?_, ?_, ?_, ?_, ?_, ?_, ?_, trivial⟩ ?_  -- region 11
        · refine due_plain fun ρ w1 G hsrc hold => ?_; obtain ⟨o5, -⟩ := hold; exact y_move (o5.trans (A.g 5 rfl)) y_eq
        · refine due_plain fun ρ w1 G hsrc hold => ?_; obtain ⟨o0, -⟩ := hold; exact y_move (o0.trans (A.g 0 rfl)) y_eq
        · refine due_plain fun ρ w1 G hsrc hold => ?_; obtain ⟨⟨_, _, ⟨h40, -⟩, -⟩, -⟩ := hsrc; exact y_nilCheck h40 y_eq
        · refine due_plain fun ρ w1 G hsrc hold => ?_; obtain ⟨⟨_, _, ⟨h41, -⟩, -⟩, -⟩ := hsrc; exact y_fieldAddr (off := 3) (j := 3) (by kernel_rfl) h41 (by first | rfl | omega) y_eq
        · refine due_plain fun ρ w1 G hsrc hold => ?_; obtain ⟨⟨_, _, ⟨h42, -⟩, -⟩, -⟩ := hsrc; exact y_load (by kernel_rfl) h42 ((cell_of (G.gr.heap' (S.get 1 rfl)) _).trans rfl) y_eq
        · refine due_plain fun ρ w1 G hsrc hold => ?_; obtain ⟨o9, -⟩ := hold; exact y_loadAgg [.int .i64 k1, .int .i64 k2'] (by kernel_rfl) (o9.trans (A.g 9 rfl)) (cells_at (G.gr.heap' (S.get 0 rfl)) rfl) y_eq
        · refine due_plain fun ρ w1 G hsrc hold => ?_; obtain ⟨⟨_, _, ⟨h43, -⟩, -⟩, ⟨_, _, ⟨h44, -⟩, -⟩, -⟩ := hsrc; exact y_lookup h43 h44 (look_queue (G.gr.heap' (S.get 3 rfl)) h2.qm (k1, k2') hgk hlq) y_eq
        · refine due_plain fun ρ w1 G hsrc hold => ?_; obtain ⟨⟨_, _, ⟨h45, -⟩, -⟩, -⟩ := hsrc; exact y_lenS (e := 85) (by kernel_rfl) h45 y_eq
        · refine due_plain fun ρ w1 G hsrc hold => ?_; obtain ⟨⟨_, _, ⟨h39, -⟩, -⟩, ⟨_, _, ⟨h46, -⟩, -⟩, -⟩ := hsrc; exact y_add h39 h46 (c := s2.1 + (s2.2.q (k1, k2')).length) (wrap64 (by omega)) y_eq
        rintro _ _ ⟨rfl, rfl⟩ _ _ ⟨rfl, rfl⟩ _ _ ⟨rfl, rfl⟩ _ _ ⟨rfl, rfl⟩ _ _ ⟨rfl, rfl⟩ _ _ ⟨rfl, rfl⟩ _ _ ⟨rfl, rfl⟩ _ _ ⟨rfl, rfl⟩ _ _ ⟨rfl, rfl⟩
        intro ac w A gG nN
        replace S : St _ _ _ ([(b2, .cells #[.int .i64 k1, .int .i64 k2'] 28 (0, 0)), (p, .cells #[.int .i64 m.nodes, .slice (some va) m.order.length oc, .map (some rl), .map (some rq)] 69 (0, 0)), (rl, ol), (rq, oq2)] ++ (Ho ++ (qeH es2))) := (S.new gG nN).perm (by first | exact .refl _ | (rw [List.append_assoc]; exact .refl _) | (simp only [List.append_assoc, List.nil_append, List.append_nil]; exact .refl _))
        refine La A rfl (A.g 47 rfl) fun _ A => ?_
        replace A := A.only [38, 33, 32, 31, 17, 16, 15, 9, 5, 1, 0] rfl
        refine hK17 _ _ ?_
        refine region_draw A [⟨48, pl (eqv (.pointer (some ⟨p, 0, none⟩))), [], [0], none, false⟩, ⟨49, pl (eqv (.pointer (some ⟨p, 0, none⟩))), [0], [], none, false⟩, ⟨50, pl (eqv (.pointer (some ⟨p, 3, none⟩))), [1], [], none, false⟩, ⟨51, pl (eqv (.map (some rq))), [2], [], none, false⟩, ⟨52, pl (eqv (.agg #[.int .i64 k1, .int .i64 k2'])), [], [9], none, false⟩] [(5, false)] (by kernel_rfl) (by kernel_rfl) (fun d _ _ _ _ h => by cases d <;> exact h) ⟨?_, ?_, ?_, ?_, ?_, trivial⟩ ?_  -- region 12
        · refine due_plain fun ρ w1 G hsrc hold => ?_; obtain ⟨o0, -⟩ := hold; exact y_move (o0.trans (A.g 0 rfl)) y_eq
        · refine due_plain fun ρ w1 G hsrc hold => ?_; obtain ⟨⟨_, _, ⟨h48, -⟩, -⟩, -⟩ := hsrc; exact y_nilCheck h48 y_eq
        · refine due_plain fun ρ w1 G hsrc hold => ?_; obtain ⟨⟨_, _, ⟨h49, -⟩, -⟩, -⟩ := hsrc; exact y_fieldAddr (off := 3) (j := 3) (by kernel_rfl) h49 (by first | rfl | omega) y_eq
        · refine due_plain fun ρ w1 G hsrc hold => ?_; obtain ⟨⟨_, _, ⟨h50, -⟩, -⟩, -⟩ := hsrc; exact y_load (by kernel_rfl) h50 ((cell_of (G.gr.heap' (S.get 1 rfl)) _).trans rfl) y_eq
        · refine due_plain fun ρ w1 G hsrc hold => ?_; obtain ⟨o9, -⟩ := hold; exact y_loadAgg [.int .i64 k1, .int .i64 k2'] (by kernel_rfl) (o9.trans (A.g 9 rfl)) (cells_at (G.gr.heap' (S.get 0 rfl)) rfl) y_eq
        rintro _ _ ⟨rfl, rfl⟩ _ _ ⟨rfl, rfl⟩ _ _ ⟨rfl, rfl⟩ _ _ ⟨rfl, rfl⟩ _ _ ⟨rfl, rfl⟩
        intro ac w A gG nN
        replace S : St _ _ _ ([(b2, .cells #[.int .i64 k1, .int .i64 k2'] 28 (0, 0)), (p, .cells #[.int .i64 m.nodes, .slice (some va) m.order.length oc, .map (some rl), .map (some rq)] 69 (0, 0)), (rl, ol), (rq, oq2)] ++ (Ho ++ (qeH es2))) := (S.new gG nN).perm (by first | exact .refl _ | (rw [List.append_assoc]; exact .refl _) | (simp only [List.append_assoc, List.nil_append, List.append_nil]; exact .refl _))
        obtain ⟨oq3, hrun, hm⟩ := run_drop (t := 67) (e := 82) Try.lawK kv_inj Try.underlying67 (S.get 3 rfl) h2.qm (k1, k2') hgk 0 28
        refine L_opN A rfl rfl (y_delete (A.g 51 rfl) (A.g 52 rfl) hrun ?_)
        replace S : St _ _ _ ([(b2, .cells #[.int .i64 k1, .int .i64 k2'] 28 (0, 0)), (p, .cells #[.int .i64 m.nodes, .slice (some va) m.order.length oc, .map (some rl), .map (some rq)] 69 (0, 0)), (rl, ol), (rq, oq3)] ++ (Ho ++ (qeH es2))) := S.setAt 3 rfl _
        obtain ⟨es3, Hg, h2, hpm⟩ := h2.del (k1, k2') hm
        replace S : St _ _ _ ([(b2, .cells #[.int .i64 k1, .int .i64 k2'] 28 (0, 0)), (p, .cells #[.int .i64 m.nodes, .slice (some va) m.order.length oc, .map (some rl), .map (some rq)] 69 (0, 0)), (rl, ol), (rq, oq3)] ++ (Ho ++ (qeH es3))) := St.app_left (K := Hg) (S.perm (by refine (List.Perm.append_left _ (List.Perm.append_left Ho hpm)).trans ?_; simp only [List.append_assoc]; exact List.Perm.refl _))
        replace A := A.only [38, 33, 32, 31, 17, 16, 15, 9, 5, 1, 0] rfl
        refine hK14 _ _ ?_
        refine region_seq ?_  -- region 13
        refine Lo A rfl (y_add (A.g 32 rfl) (evc _ _) (c := ((j + 1 : Nat) : Int)) ((wrap64 (by omega)).trans (by omega)) fun _ A => ?_)
        refine Lm A rfl (A.g 53 rfl) fun _ A => ?_
        replace A := A.only [38, 33, 32, 31, 17, 16, 15, 9, 5, 1, 0] rfl
        replace A := A.only [32, 31, 17, 16, 15, 5, 1, 0] rfl
        replace S : St _ _ _ ([(p, .cells #[.int .i64 m.nodes, .slice (some va) m.order.length oc, .map (some rl), .map (some rq)] 69 (0, 0)), (rl, ol), (rq, oq3)] ++ (Ho ++ (qeH es3))) := St.app_left (K := [(b2, .cells #[.int .i64 k1, .int .i64 k2'] 28 (0, 0))]) (S.perm (by classical rw [List.perm_iff_count]; intro x; simp only [List.count_append, List.count_cons, List.count_nil] <;> omega))
        exact ⟨k2 - 1, by omega, j + 1, (s2.1 + (s2.2.q (k1, k2')).length, s2.2.setq (k1, k2') []), _, _, by omega, by rw [hst, eStep, if_pos hnode], by simp only; omega, by simp only; omega, hsame2.trans ⟨rfl, rfl, rfl, fun k' => by simp only [M.setq]; split <;> simp⟩, A, S, h2⟩
      · skip
        refine wp_seq_k fun K12 hK12 => ?_
        refine region_seq ?_  -- region 8
        refine Lo A rfl (y_lss (A.g 32 rfl) (evc _ _) (c := true) (decide_eq_true (by omega)) fun _ A => ?_)
        replace A := A.only [33, 32, 31, 17, 16, 15, 5, 1, 0] rfl
        refine hK12 _ _ ?_
        refine wp_seq_k fun K13 hK13 => ?_
        refine wp_cond_true (A.get rfl) ?_
        refine wp_skip ?_
        refine hK13 _ _ ?_
        refine wp_seq_k fun K14 hK14 => ?_
        refine wp_block ?_
        refine wp_seq_k fun K15 hK15 => ?_
        refine region_seq ?_  -- region 9
        refine Lo A rfl (y_indexKK (A.g 31 rfl) (A.g 32 rfl) hkj fun _ A => ?_)
        refine Lo A rfl (y_allocN (z := .agg #[.int .i64 0, .int .i64 0]) (by kernel_rfl) fun b2 w gG nN ac A => ?_)
        replace S : St _ _ _ ([(b2, .cells #[.int .i64 0, .int .i64 0] 28 (0, 0)), (p, .cells #[.int .i64 m.nodes, .slice (some va) m.order.length oc, .map (some rl), .map (some rq)] 69 (0, 0)), (rl, ol), (rq, oq2)] ++ (Ho ++ (qeH es2))) := (S.new gG nN).perm (by first | exact .refl _ | (rw [List.append_assoc]; exact .refl _) | (simp only [List.append_assoc, List.nil_append, List.append_nil]; exact .refl _))
        refine L_opN A rfl rfl (y_store 2 (by kernel_rfl) (A.g 9 rfl) (A.g 34 rfl) (S.get 0 rfl) rfl (Nat.le_of_ble_eq_true rfl) (one_all rfl) ?_)
        replace S : St _ _ _ ([(b2, .cells #[.int .i64 k1, .int .i64 k2'] 28 (0, 0)), (p, .cells #[.int .i64 m.nodes, .slice (some va) m.order.length oc, .map (some rl), .map (some rq)] 69 (0, 0)), (rl, ol), (rq, oq2)] ++ (Ho ++ (qeH es2))) := S.setAt 0 rfl _
        replace A := A.only [33, 32, 31, 17, 16, 15, 9, 5, 1, 0] rfl
        refine hK15 _ _ ?_
        refine wp_seq_k fun K16 hK16 => ?_
        refine region_seq ?_  -- region 10
        refine Lo A rfl (y_indexP (n := 2) (e := 3) (size := 1) (j := 1) (by kernel_rfl) (by kernel_rfl) (A.g 9 rfl) (evc _ _) (by decide) (by decide) (by first | rfl | omega) fun _ A => ?_)
        refine Lo A rfl (y_load (by kernel_rfl) (A.g 35 rfl) ((cell_of (S.get 0 rfl) _).trans rfl) fun _ A => ?_)
        refine Lm A rfl (A.g 1 rfl) fun _ A => Lo A rfl (y_eql (A.g 36 rfl) (A.g 37 rfl) (c := false) (by simpa using hnode) fun _ A => ?_)
        replace A := A.only [38, 33, 32, 31, 17, 16, 15, 9, 5, 1, 0] rfl
        refine hK16 _ _ ?_
        refine wp_cond_false (A.get rfl) ?_
        refine wp_skip ?_
        refine hK14 _ _ ?_
        refine region_seq ?_  -- region 13
        refine Lo A rfl (y_add (A.g 32 rfl) (evc _ _) (c := ((j + 1 : Nat) : Int)) ((wrap64 (by omega)).trans (by omega)) fun _ A => ?_)
        refine Lm A rfl (A.g 53 rfl) fun _ A => ?_
        replace A := A.only [38, 33, 32, 31, 17, 16, 15, 9, 5, 1, 0] rfl
        replace A := A.only [32, 31, 17, 16, 15, 5, 1, 0] rfl
        replace S : St _ _ _ ([(p, .cells #[.int .i64 m.nodes, .slice (some va) m.order.length oc, .map (some rl), .map (some rq)] 69 (0, 0)), (rl, ol), (rq, oq2)] ++ (Ho ++ (qeH es2))) := St.app_left (K := [(b2, .cells #[.int .i64 k1, .int .i64 k2'] 28 (0, 0))]) (S.perm (by classical rw [List.perm_iff_count]; intro x; simp only [List.count_append, List.count_cons, List.count_nil] <;> omega))
        exact ⟨k2 - 1, by omega, j + 1, s2, _, _, by omega, by rw [hst, eStep, if_neg hnode], hs20, by omega, hsame2, A, S, h2⟩
    · obtain rfl : j = 2 := by omega
      have hs2' : s2 = (both l).foldl (eStep node) s := by rw [hs2]; rfl
      replace hs2 := hs2'
      refine wp_seq_k fun K12 hK12 => ?_
      refine region_seq ?_  -- region 8
      refine Lo A rfl (y_lss (A.g 32 rfl) (evc _ _) (c := false) (decide_eq_false (by decide)) fun _ A => ?_)
      replace A := A.only [33, 32, 31, 17, 16, 15, 5, 1, 0] rfl
      refine hK12 _ _ ?_
      refine wp_seq_k fun K13 hK13 => ?_
      refine wp_cond_false (A.get rfl) ?_
      refine wp_exit ?_
      refine hK9 _ _ ?_
      refine region_seq ?_  -- region 14
      refine Lo A rfl (y_add (A.g 17 rfl) (evc _ _) (c := ((i + 1 : Nat) : Int)) ((wrap64 (by omega)).trans (by omega)) fun _ A => ?_)
      refine Lm A rfl (A.g 54 rfl) fun _ A => ?_
      replace A := A.only [33, 32, 31, 17, 16, 15, 5, 1, 0] rfl
      replace A := A.only [17, 16, 15, 5, 1, 0] rfl
      exact ⟨kk - 1, by omega, i + 1, s2, oq2, es2, by omega, by rw [hnext]; exact hs2, hs20, by omega, hsame2, A, S, h2⟩
  · obtain rfl : i = m.order.length := by omega
    rw [List.take_length] at hs
    refine wp_seq_k fun K7 hK7 => ?_
    refine region_seq ?_  -- region 5
    refine Lo A rfl (y_lss (A.g 17 rfl) (A.g 16 rfl) (c := false) (decide_eq_false (by omega)) fun _ A => ?_)
    replace A := A.only [18, 17, 16, 15, 5, 1, 0] rfl
    refine hK7 _ _ ?_
    refine wp_seq_k fun K8 hK8 => ?_
    refine wp_cond_false (A.get rfl) ?_
    refine wp_exit ?_
    refine hK5 _ _ ?_
    refine wp_seq_k fun K9 hK9 => ?_
    refine region_seq ?_  -- region 15
    refine Lm A rfl (A.g 5 rfl) fun _ A => La A rfl (A.g 55 rfl) fun _ A => ?_
    replace A := A.only [18, 17, 16, 15, 5, 4, 1, 0] rfl
    refine hK9 _ _ ?_
    have hE : M.empty m node = s := hs.symm
    exact wp_ret ⟨A.defers, _, res_run (rs := [.tmp 4]) (vs := [.int .i64 s.1]) rfl ⟨A.get rfl, trivial⟩, ⟨_, _, rfl, ⟨by rw [hE], by rw [hE]; exact ⟨_, Ho, rl, ol, ls, rq, oq, es, h, by rw [netC, hsame.1]; rfl⟩⟩, S⟩⟩
end
end Go.Proofs.Ytaeidblipdjgnaa
