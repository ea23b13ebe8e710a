import Derived.Test.YtaeidblipdjgnaaApi
import Derived.Test.YtaeidblipdjgnaaRange
namespace Go.Proofs.Ytaeidblipdjgnaa
open Go.RowKit Go.Maps Go.WideMaps

set_option maxRecDepth 20000 in
set_option maxHeartbeats 4000000 in
theorem mclone_ok {w : World} {rl : Nat} {ol : Obj} {ls : List ((Int × Int) × Value)} (hb : w.heap[rl]? = some ol) (hm : MapIs Try.prog 28 kv ol ls) : Calls Try.prog 48 #[.map (some rl)] w (RetN w (mblk ol)) := by
  obtain ⟨ea, clock, rfl, -⟩ := hm.ex
  refine enter Try.func48 rfl (n := 9) rfl (Nat.le_of_ble_eq_true rfl) fun _ A => ?_
  have S : St _ _ _ [] := St.none w
  refine wp_seq_k fun K1 hK1 => ?_
  refine region_seq ?_  -- region 0
  refine La A rfl (evc _ _) fun _ A => ?_
  replace A := A.only [2, 0] rfl
  refine hK1 _ _ ?_
  refine wp_seq_k fun K2 hK2 => ?_
  refine wp_seq_k fun K3 hK3 => ?_
  refine region_seq ?_  -- region 1
  refine Lm A rfl (A.g 0 rfl) fun _ A => Lo A rfl (y_mapNil (c := false) Try.underlying66 (A.g 3 rfl) rfl rfl fun _ A => ?_)
  replace A := A.only [4, 2, 0] rfl
  refine hK3 _ _ ?_
  refine wp_cond_false (A.get rfl) ?_
  refine wp_skip ?_
  refine hK2 _ _ ?_
  refine wp_seq_k fun K4 hK4 => ?_
  refine region_seq ?_  -- region 3
  refine Lm A rfl (A.g 0 rfl) fun _ A => Lo A rfl (y_mapIface Try.underlying66 (A.g 5 rfl) fun _ A => ?_)
  refine Lo A rfl (y_mapsClone Try.func58 (by kernel_rfl) (by kernel_rfl) (by kernel_rfl) (by kernel_rfl) rfl (A.g 6 rfl) (S.kp.heap' hb (by simp)) fun bc w gG nN ac A => ?_)
  replace S : St _ _ _ [(bc, .map ea clock)] := S.new gG nN
  refine Lo A rfl (y_mapAssert Try.underlying66 (A.g 7 rfl) fun _ A => ?_)
  refine La A rfl (A.g 8 rfl) fun _ A => ?_
  replace A := A.only [4, 2, 0] rfl
  refine hK4 _ _ ?_
  exact wp_ret ⟨A.defers, _, res_run (rs := [.tmp 2]) (vs := [.map (some bc)]) rfl ⟨A.get rfl, trivial⟩, ⟨_, rfl, S.kp.to_gr, _, ⟨_, rfl, rfl⟩, S.newF⟩⟩

theorem cloneP2 {v : Value} {l : List (Int × Int)} {w : World} (hs : Src w 2 v l.length (pairs l)) (hl : l.length ≤ 1000000) : Calls Try.prog 45 #[v] w (RetN w fun v' H => (∃ a c, v' = .slice a l.length c) ∧ SlRep 28 2 v' l.length (pairs l) H) :=
  (cloneP_ok hs hl).mono (by rintro e w' ⟨v, rfl, g, H, hf, n⟩; exact ⟨_, rfl, g, H, ⟨hf.len, hf⟩, n⟩)
theorem it_row {w : World} {v : Value} {its : List It} (hs : Src w 2 v its.length (itCells its)) {i : Nat} {it : It} (hl : its[i]? = some it) : ∃ va vc, v = .slice (some va) its.length vc ∧ ∀ j (hj : j < [it.v, Value.bool it.sp].length), w.cell? ((va.add (((i : Nat) : Int).toNat * 2)).add j) = some [it.v, Value.bool it.sp][j] := by
  have hi := lt_of_get hl
  obtain ⟨va, vc, hv, hc⟩ := hs.row hi
  refine ⟨va, vc, hv, fun j hj => ?_⟩
  simp only [Int.toNat_natCast]
  have hlen : (itCells its).length = its.length * 2 := hs.1
  match j, hj with
  | 0, _ => rw [hc 0 (by omega) (by omega)]; refine (List.getElem?_eq_getElem (by omega)).symm.trans ?_; rw [itCells_get, show (i * 2 + 0) / 2 = i by omega, hl]; simp
  | 1, _ => rw [hc 1 (by omega) (by omega)]; refine (List.getElem?_eq_getElem (by omega)).symm.trans ?_; rw [itCells_get, show (i * 2 + 1) / 2 = i by omega, hl]; simp
theorem mem_left {A0 : Array MapEntry} {seen : Array Nat} {x : MapEntry} : x ∈ (leftE A0 seen).toList ↔ x ∈ A0.toList ∧ seen.contains x.born = false := by
  simp [leftE]
theorem left_push {A0 : Array MapEntry} {seen : Array Nat} {en : MapEntry} (h : en ∈ (leftE A0 seen).toList) : (leftE A0 (seen.push en.born)).size < (leftE A0 seen).size := by
  have e : (leftE A0 (seen.push en.born)).toList = (leftE A0 seen).toList.filter (fun x => x.born != en.born) := by
    simp only [leftE, Array.toList_filter, List.filter_filter]
    apply List.filter_congr
    intro x _
    rw [Bool.eq_iff_iff]
    simp only [Array.contains_eq_mem, Array.mem_push, Bool.not_eq_true', decide_eq_false_iff_not, not_or, Bool.and_eq_true, bne_iff_ne, ne_eq]
    exact and_comm
  rw [← Array.length_toList, ← Array.length_toList, e]
  refine Nat.lt_of_le_of_ne (List.length_filter_le _ _) (fun h' => ?_)
  have := List.length_filter_eq_length_iff.1 h' en h
  simp at this
theorem qeH_snoc (l : List Qe) (e : Qe) : qeH (l ++ [e]) = qeH l ++ e.H := by simp [qeH]
theorem born_eq {l : List MapEntry} (h : (l.map (·.born)).Nodup) {x y : MapEntry} (hx : x ∈ l) (hy : y ∈ l) (e : x.born = y.born) : x = y := by
  induction l with
  | nil => simp at hx
  | cons z l ih =>
    simp only [List.map_cons, List.nodup_cons] at h
    rcases List.mem_cons.1 hx with rfl | hx' <;> rcases List.mem_cons.1 hy with rfl | hy'
    · rfl
    · exact absurd (e ▸ List.mem_map_of_mem (f := (·.born)) hy') h.1
    · exact absurd (e ▸ List.mem_map_of_mem (f := (·.born)) hx') h.1
    · exact ih h.2 hx' hy'
theorem key_eq {l : List MapEntry} (h : (l.map (·.key)).Nodup) {x y : MapEntry} (hx : x ∈ l) (hy : y ∈ l) (e : x.key = y.key) : x = y := by
  induction l with
  | nil => simp at hx
  | cons z l ih =>
    simp only [List.map_cons, List.nodup_cons] at h
    rcases List.mem_cons.1 hx with rfl | hx' <;> rcases List.mem_cons.1 hy with rfl | hy'
    · rfl
    · exact absurd (e ▸ List.mem_map_of_mem (f := (·.key)) hy') h.1
    · exact absurd (e ▸ List.mem_map_of_mem (f := (·.key)) hx') h.1
    · exact ih h.2 hx' hy'
/-- how far Copy has come -/
structure CpI (m : M) (A0 : Array MapEntry) (seen : Array Nat) (dn : List Qe) (oq2 : Obj) : Prop where
  qm : MapIs Try.prog 28 kv oq2 (qeM dn)
  ent : ∀ e ∈ dn, e.q ≠ [] ∧ m.q e.k = e.q ∧ QRep e.v e.q e.H
  cov : ∀ x ∈ A0.toList, x ∈ (leftE A0 seen).toList ∨ ∃ e ∈ dn, kv e.k = x.key
  fresh : ∀ x ∈ (leftE A0 seen).toList, ∀ e ∈ dn, kv e.k ≠ x.key
theorem CpI.next {m : M} {A0 : Array MapEntry} {seen : Array Nat} {dn : List Qe} {oq2 oq3 : Obj} (I : CpI m A0 seen dn oq2) {en : MapEntry} (hen : en ∈ (leftE A0 seen).toList) (hb : (A0.toList.map (·.born)).Nodup) (hks : (A0.toList.map (·.key)).Nodup) {e : Qe} (hk : en.key = kv e.k) (he : e.q ≠ [] ∧ m.q e.k = e.q ∧ QRep e.v e.q e.H) (hm : MapIs Try.prog 28 kv oq3 (put (qeM dn) e.k e.v)) : CpI m A0 (seen.push en.born) (dn ++ [e]) oq3 := by
  have henA := (mem_left.1 hen).1
  have hno : ∀ x ∈ qeM dn, x.1 ≠ e.k := by
    intro x hx hxe
    obtain ⟨e', he', rfl⟩ := List.mem_map.1 hx
    exact I.fresh en hen e' he' (by rw [hk]; exact congrArg kv hxe)
  have hput : put (qeM dn) e.k e.v = qeM (dn ++ [e]) := by
    unfold put
    rw [if_neg (by intro h; obtain ⟨x, hx, hxe⟩ := any_iff.1 h; exact hno x hx hxe)]
    simp [qeM]
  refine ⟨hput ▸ hm, ?_, ?_, ?_⟩
  · intro e' he'
    rcases List.mem_append.1 he' with h | h
    · exact I.ent e' h
    · simp at h; subst h; exact he
  · intro x hx
    by_cases hxe : x.born = en.born
    · obtain rfl := born_eq hb hx henA hxe
      exact Or.inr ⟨e, by simp, hk.symm⟩
    · rcases I.cov x hx with h | ⟨e', h1, h2⟩
      · refine Or.inl (mem_left.2 ⟨hx, ?_⟩)
        have := (mem_left.1 h).2
        simp only [Array.contains_eq_mem, Array.mem_push, decide_eq_false_iff_not, not_or] at this ⊢
        exact ⟨this, hxe⟩
      · exact Or.inr ⟨e', by simp [h1], h2⟩
  · intro x hx e' he'
    obtain ⟨h1, h2⟩ := mem_left.1 hx
    simp only [Array.contains_eq_mem, Array.mem_push, decide_eq_false_iff_not, not_or] at h2
    rcases List.mem_append.1 he' with h | h
    · exact I.fresh x (mem_left.2 ⟨h1, by simp only [Array.contains_eq_mem, decide_eq_false_iff_not]; exact h2.1⟩) e' h
    · simp at h; subst h
      intro hke
      exact h2.2 (congrArg (·.born) (key_eq hks h1 henA (by rw [← hke, hk])))

set_option maxRecDepth 20000 in
set_option maxHeartbeats 8000000 in
theorem copy_ok {p : Nat} {m : M} {H : Frag} {w0 : World} (h : NetRep p m H) (hH : Holds w0 H) : Calls Try.prog 29 #[.pointer (some ⟨p, 0, none⟩)] w0 (RetN w0 fun r H' => ∃ p', r = .pointer (some ⟨p', 0, none⟩) ∧ NetRep p' m H') := by
  obtain ⟨vo, Ho, rl, ol, ls, rq, oq, es, h, rfl⟩ := h
  have hp : w0.heap[p]? = some (.cells #[.int .i64 m.nodes, vo, .map (some rl), .map (some rq)] 69 (0, 0)) := hH.one
  have hl : w0.heap[rl]? = some ol := hH.tail.one
  have hq : w0.heap[rq]? = some oq := hH.tail.tail.one
  have hHo : Holds w0 Ho := (Holds.app.1 hH.tail.tail.tail).1
  have hHe : Holds w0 (qeH es) := (Holds.app.1 hH.tail.tail.tail).2
  obtain ⟨A0, clock, rfl, hA, hborn, hclk⟩ := h.qm.ex
  have hkeys : (A0.toList.map (·.key)).Nodup := by
    have e1 : A0.toList.map (·.key) = ((qeM es).map (·.1)).map kv := by
      have := congrArg (List.map Prod.fst) hA
      simpa [List.map_map, Function.comp_def] using this
    rw [e1]
    exact List.pairwise_map.2 (h.qm.nd.imp (fun hne e => hne (kv_inj _ _ e)))
  have hof : ∀ en ∈ A0.toList, ∃ e ∈ es, en.key = kv e.k ∧ en.val = e.v := by
    intro en hen
    have : (en.key, en.val) ∈ (qeM es).map (fun x => (kv x.1, x.2)) := by rw [← hA]; exact List.mem_map_of_mem (f := fun e : MapEntry => (e.key, e.val)) hen
    obtain ⟨x, hx, hxe⟩ := List.mem_map.1 this
    obtain ⟨e, he, rfl⟩ := List.mem_map.1 hx
    simp only [Prod.mk.injEq] at hxe
    exact ⟨e, he, hxe.1.symm, hxe.2.symm⟩
  have hto : ∀ e ∈ es, ∃ en ∈ A0.toList, en.key = kv e.k := by
    intro e he
    have : (kv e.k, e.v) ∈ A0.toList.map (fun e : MapEntry => (e.key, e.val)) := by rw [hA]; exact List.mem_map_of_mem (f := fun x : (Int × Int) × Value => (kv x.1, x.2)) (List.mem_map_of_mem (f := fun e : Qe => (e.k, e.v)) he)
    obtain ⟨en, hen, hee⟩ := List.mem_map.1 this
    simp only [Prod.mk.injEq] at hee
    exact ⟨en, hen, hee.1⟩
  refine enter Try.func29 rfl (n := 61) rfl (Nat.le_of_ble_eq_true rfl) fun _ A => ?_
  have S : St _ _ _ [] := St.none w0
  refine wp_seq_k fun K1 hK1 => ?_
  refine region_seq ?_  -- region 0
  refine La A rfl (evc _ _) fun _ A => ?_
  replace A := A.only [2, 0] rfl
  refine hK1 _ _ ?_
  refine wp_seq_k fun K2 hK2 => ?_
  refine wp_seq_k fun K3 hK3 => ?_
  refine region_seq ?_  -- region 1
  refine Lm A rfl (A.g 0 rfl) fun _ A => Lo A rfl (y_ptrNil (c := false) (by kernel_rfl) (A.g 9 rfl) (evc _ _) rfl fun _ A => ?_)
  replace A := A.only [10, 2, 0] rfl
  refine hK3 _ _ ?_
  refine wp_cond_false (A.get rfl) ?_
  refine wp_skip ?_
  refine hK2 _ _ ?_
  refine wp_seq_k fun K4 hK4 => ?_
  refine region_draw A [⟨11, pl (eqv (.pointer (some ⟨p, 0, none⟩))), [], [0], none, false⟩, ⟨12, pl (eqv (.pointer (some ⟨p, 0, none⟩))), [0], [], none, false⟩, ⟨13, pl (eqv (.pointer (some ⟨p, 0, none⟩))), [1], [], none, false⟩, ⟨14, pl (eqv (.int .i64 m.nodes)), [2], [], none, false⟩, ⟨15, pl (eqv (.pointer (some ⟨p, 0, none⟩))), [], [0], none, false⟩, ⟨16, pl (eqv (.pointer (some ⟨p, 0, none⟩))), [4], [], none, false⟩, ⟨17, pl (eqv (.pointer (some ⟨p, 1, none⟩))), [5], [], none, false⟩, ⟨18, pl (eqv vo), [6], [], none, false⟩, ⟨19, pl (fun v H => (∃ a c, v = .slice a m.order.length c) ∧ SlRep 28 2 v m.order.length (pairs m.order) H), [7], [], none, false⟩, ⟨20, pl (eqv (.pointer (some ⟨p, 0, none⟩))), [], [0], none, false⟩, ⟨21, pl (eqv (.pointer (some ⟨p, 0, none⟩))), [9], [], none, false⟩, ⟨22, pl (eqv (.pointer (some ⟨p, 2, none⟩))), [10], [], none, false⟩, ⟨23, pl (eqv (.map (some rl))), [11], [], none, false⟩, ⟨24, pl (mblk ol), [12], [], none, false⟩, ⟨25, pl (mblk (.map #[] 0)), [], [], none, false⟩] [(15, false), (16, false), (17, false)] (by kernel_rfl) (by kernel_rfl) (fun d _ _ _ _ h => by cases d <;> exact h) ⟨?_, ?_, ?_, ?_, ?_, ?_, ?_, ?_, ?_, ?_, ?_, ?_, ?_, ?_, ?_, trivial⟩ ?_  -- region 3
  · refine due_plain fun ρ w1 G hsrc hold => ?_; obtain ⟨o0, -⟩ := hold; exact y_move (o0.trans (A.g 0 rfl)) y_eq
  · refine due_plain fun ρ w1 G hsrc hold => ?_; obtain ⟨⟨_, _, ⟨h11, -⟩, -⟩, -⟩ := hsrc; exact y_nilCheck h11 y_eq
  · refine due_plain fun ρ w1 G hsrc hold => ?_; obtain ⟨⟨_, _, ⟨h12, -⟩, -⟩, -⟩ := hsrc; exact y_fieldAddr (off := 0) (j := 0) (by kernel_rfl) h12 (by first | rfl | omega) y_eq
  · refine due_plain fun ρ w1 G hsrc hold => ?_; obtain ⟨⟨_, _, ⟨h13, -⟩, -⟩, -⟩ := hsrc; exact y_load (by kernel_rfl) h13 ((cell_of (G.gr.heap' (S.kp.heap' hp (by simp))) _).trans rfl) y_eq
  · refine due_plain fun ρ w1 G hsrc hold => ?_; obtain ⟨o0, -⟩ := hold; exact y_move (o0.trans (A.g 0 rfl)) y_eq
  · refine due_plain fun ρ w1 G hsrc hold => ?_; obtain ⟨⟨_, _, ⟨h15, -⟩, -⟩, -⟩ := hsrc; exact y_nilCheck h15 y_eq
  · refine due_plain fun ρ w1 G hsrc hold => ?_; obtain ⟨⟨_, _, ⟨h16, -⟩, -⟩, -⟩ := hsrc; exact y_fieldAddr (off := 1) (j := 1) (by kernel_rfl) h16 (by first | rfl | omega) y_eq
  · refine due_plain fun ρ w1 G hsrc hold => ?_; obtain ⟨⟨_, _, ⟨h17, -⟩, -⟩, -⟩ := hsrc; exact y_load (by kernel_rfl) h17 ((cell_of (G.gr.heap' (S.kp.heap' hp (by simp))) _).trans rfl) y_eq
  · refine due_plain fun ρ w1 G hsrc hold => ?_; obtain ⟨⟨_, _, ⟨h18, -⟩, -⟩, -⟩ := hsrc; exact y_call1 (by kernel_rfl) (G.func _) h18 (cloneP2 (h.ord.src (hHo.gr (S.kp.to_gr.trans G.gr))) h.ols)
  · refine due_plain fun ρ w1 G hsrc hold => ?_; obtain ⟨o0, -⟩ := hold; exact y_move (o0.trans (A.g 0 rfl)) y_eq
  · refine due_plain fun ρ w1 G hsrc hold => ?_; obtain ⟨⟨_, _, ⟨h20, -⟩, -⟩, -⟩ := hsrc; exact y_nilCheck h20 y_eq
  · refine due_plain fun ρ w1 G hsrc hold => ?_; obtain ⟨⟨_, _, ⟨h21, -⟩, -⟩, -⟩ := hsrc; exact y_fieldAddr (off := 2) (j := 2) (by kernel_rfl) h21 (by first | rfl | omega) y_eq
  · refine due_plain fun ρ w1 G hsrc hold => ?_; obtain ⟨⟨_, _, ⟨h22, -⟩, -⟩, -⟩ := hsrc; exact y_load (by kernel_rfl) h22 ((cell_of (G.gr.heap' (S.kp.heap' hp (by simp))) _).trans rfl) y_eq
  · refine due_plain fun ρ w1 G hsrc hold => ?_; obtain ⟨⟨_, _, ⟨h23, -⟩, -⟩, -⟩ := hsrc; exact y_call1 (by kernel_rfl) (G.func _) h23 (mclone_ok ((S.kp.to_gr.trans G.gr).heap' hl) h.lm)
  · refine due_plain fun ρ w1 G hsrc hold => ?_; exact y_makeMapN (fun b w' g n => ⟨g, _, ⟨b, rfl, rfl⟩, n⟩)
  rintro _ _ ⟨rfl, rfl⟩ _ _ ⟨rfl, rfl⟩ _ _ ⟨rfl, rfl⟩ _ _ ⟨rfl, rfl⟩ _ _ ⟨rfl, rfl⟩ _ _ ⟨rfl, rfl⟩ _ _ ⟨rfl, rfl⟩ _ _ ⟨rfl, rfl⟩ _ Ho2 ⟨⟨oa, oc, rfl⟩, hord2⟩ _ _ ⟨rfl, rfl⟩ _ _ ⟨rfl, rfl⟩ _ _ ⟨rfl, rfl⟩ _ _ ⟨rfl, rfl⟩ _ _ ⟨rl2, rfl, rfl⟩ _ _ ⟨b1, rfl, rfl⟩
  intro ac w A gG nN
  replace S : St _ _ _ ([(b1, .map #[] 0), (rl2, ol)] ++ Ho2) := (S.new gG nN).perm (by first | exact .refl _ | (rw [List.append_assoc]; exact .refl _) | (simp only [List.append_assoc, List.nil_append, List.append_nil]; exact .refl _))
  refine Lo A rfl (y_build4 (A.g 14 rfl) (A.g 19 rfl) (A.g 24 rfl) (A.g 25 rfl) (v := .agg #[.int .i64 m.nodes, .slice oa m.order.length oc, .map (some rl2), .map (some b1)]) (by kernel_rfl) fun _ A => ?_)
  refine Lo A rfl (y_boxN (A.g 26 rfl) fun b2 w gG nN ac A => ?_)
  replace S : St _ _ _ ([(b2, .cells #[.int .i64 m.nodes, .slice oa m.order.length oc, .map (some rl2), .map (some b1)] 69 (0, 0)), (b1, .map #[] 0), (rl2, ol)] ++ Ho2) := (S.new gG nN).perm (by first | exact .refl _ | (rw [List.append_assoc]; exact .refl _) | (simp only [List.append_assoc, List.nil_append, List.append_nil]; exact .refl _))
  refine La A rfl (A.g 27 rfl) fun _ A => ?_
  replace A := A.only [10, 3, 2, 0] rfl
  refine hK4 _ _ ?_
  refine wp_seq_k fun K5 hK5 => ?_
  refine wp_seq_k fun K6 hK6 => ?_
  refine region_seq ?_  -- region 4
  refine Lm A rfl (A.g 0 rfl) fun _ A => Lo A rfl (y_nilCheck (A.g 28 rfl) fun _ A => ?_)
  refine Lo A rfl (y_fieldAddr (off := 3) (j := 3) (by kernel_rfl) (A.g 29 rfl) (by first | rfl | omega) fun _ A => ?_)
  refine Lo A rfl (y_load (by kernel_rfl) (A.g 30 rfl) ((cell_of (S.kp.heap' hp (by simp)) _).trans rfl) fun _ A => ?_)
  refine Lo A rfl (y_rangeM Try.underlying67 (A.g 31 rfl) (S.kp.heap' hq (by simp)) fun bi w gG nN ac A => ?_)
  replace S : St _ _ _ ([(bi, .mapIter (some rq) clock #[] clock), (b2, .cells #[.int .i64 m.nodes, .slice oa m.order.length oc, .map (some rl2), .map (some b1)] 69 (0, 0)), (b1, .map #[] 0), (rl2, ol)] ++ Ho2) := (S.new gG nN).perm (by first | exact .refl _ | (rw [List.append_assoc]; exact .refl _) | (simp only [List.append_assoc, List.nil_append, List.append_nil]; exact .refl _))
  replace A := A.only [32, 10, 3, 2, 0] rfl
  refine hK6 _ _ ?_
  refine wp_block ?_
  replace A := A.only [32, 3] rfl
  have S2 : St _ _ _ ([(bi, .mapIter (some rq) clock #[] clock), (b1, .map #[] 0), (b2, .cells #[.int .i64 m.nodes, .slice oa m.order.length oc, .map (some rl2), .map (some b1)] 69 (0, 0)), (rl2, ol)] ++ (Ho2 ++ ((qeH []) ++ []))) := S.perm (by simp only [qeH, List.flatMap_nil]; classical rw [List.perm_iff_count]; intro x; simp only [List.count_append, List.count_cons, List.count_nil]; omega)
  refine wp_loop_ghost (fun kk ac w' => ∃ (seen : Array Nat) (dn : List Qe) (oq2 : Obj) (G : Frag), (leftE A0 seen).size = kk ∧ CpI m A0 seen dn oq2 ∧ Sl 61 ac [(3, .pointer (some ⟨b2, 0, none⟩)), (32, .pointer (some ⟨bi, 0, none⟩))] ∧ St [] w0 w' ([(bi, .mapIter (some rq) clock seen clock), (b1, oq2), (b2, .cells #[.int .i64 m.nodes, .slice oa m.order.length oc, .map (some rl2), .map (some b1)] 69 (0, 0)), (rl2, ol)] ++ (Ho2 ++ ((qeH dn) ++ G)))) (leftE A0 #[]).size ⟨#[], [], _, [], rfl, ⟨MapIs.nil _ _ _, by simp, fun x hx => Or.inl (mem_left.2 ⟨hx, by simp⟩), by simp⟩, A, S2⟩ ?_
  clear A S S2
  rintro kk ac w2 ⟨seen, dn, oq2, G, hkk, I, A, S⟩
  rcases Nat.eq_zero_or_pos (leftE A0 seen).size with hz | hz
  · skip
    refine wp_seq_k fun K7 hK7 => ?_
    refine region_seq ?_  -- region 5
    refine Lo A rfl (y_nextM (A.g 32 rfl) (S.get 0 rfl) (S.kp.heap' hq (by simp)) hclk (Nat.le_refl _) (fun _ ac A => ?_) (fun en hen => by rw [Array.eq_empty_of_size_eq_zero hz] at hen; simp at hen))
    refine Lo A rfl (y_extract (A.g 33 rfl) rfl fun _ A => ?_)
    replace A := A.only [34, 32, 3] rfl
    refine hK7 _ _ ?_
    refine wp_seq_k fun K8 hK8 => ?_
    refine wp_cond_false (A.get rfl) ?_
    refine wp_exit ?_
    refine hK5 _ _ ?_
    refine wp_seq_k fun K9 hK9 => ?_
    refine region_seq ?_  -- region 14
    refine Lm A rfl (A.g 3 rfl) fun _ A => La A rfl (A.g 60 rfl) fun _ A => ?_
    replace A := A.only [34, 32, 3, 2] rfl
    refine hK9 _ _ ?_
    have hN : NetRep b2 m ([(b2, .cells #[.int .i64 m.nodes, .slice oa m.order.length oc, .map (some rl2), .map (some b1)] 69 (0, 0)), (rl2, ol), (b1, oq2)] ++ (Ho2 ++ qeH dn)) := by
      refine ⟨_, Ho2, rl2, ol, ls, b1, oq2, dn, ⟨hord2, h.lm, h.lk, I.qm, I.ent, fun k hk => ?_, h.few, h.ols⟩, rfl⟩
      refine h.non k fun e he hek => ?_
      obtain ⟨en, hen, hkey⟩ := hto e he
      rcases I.cov en hen with hc | ⟨e', he', hke⟩
      · rw [Array.eq_empty_of_size_eq_zero hz] at hc; simp at hc
      · exact hk e' he' (kv_inj _ _ (by rw [hke, hkey, hek]))
    have S' : St _ _ _ ([(b2, .cells #[.int .i64 m.nodes, .slice oa m.order.length oc, .map (some rl2), .map (some b1)] 69 (0, 0)), (rl2, ol), (b1, oq2)] ++ (Ho2 ++ qeH dn)) := St.app_left (K := ([(bi, .mapIter (some rq) clock seen clock)] ++ G)) (S.perm (by classical rw [List.perm_iff_count]; intro x; simp only [List.count_append, List.count_cons, List.count_nil]; omega))
    exact wp_ret ⟨A.defers, _, res_run (rs := [.tmp 2]) (vs := [.pointer (some ⟨b2, 0, none⟩)]) rfl ⟨A.get rfl, trivial⟩, ⟨_, rfl, S'.kp.to_gr, _, ⟨b2, rfl, hN⟩, S'.newF⟩⟩
  · skip
    refine wp_seq_k fun K10 hK10 => ?_
    refine region_seq ?_  -- region 5
    refine Lo A rfl (y_nextM (A.g 32 rfl) (S.get 0 rfl) (S.kp.heap' hq (by simp)) hclk (Nat.le_refl _) (fun hz' => by omega) fun en hen w1 g1 hw1 ac A => ?_)
    obtain ⟨e, he, hkey, hval⟩ := hof en (mem_left.1 hen).1
    have hent := h.ent e he
    have hgd : goodK e.k := h.qm.keys (e.k, e.v) (List.mem_map_of_mem (f := fun e : Qe => (e.k, e.v)) he)
    have hsub : Holds w0 e.H := fun x hx => hHe x (List.mem_flatMap.2 ⟨e, he, hx⟩)
    clear he
    obtain ⟨⟨ka, kb⟩, qv, q, He⟩ := e
    obtain ⟨ek, ev, eb⟩ := en
    simp only at hkey hval hent hgd hsub
    subst hkey hval
    obtain ⟨hqne, hmq, hQ⟩ := hent
    obtain ⟨its, Hs, rfl, hok, hsl, rfl⟩ := hQ
    obtain ⟨qa, qc, rfl⟩ := hsl.len
    have hsrcq : Src w0 2 (.slice qa its.length qc) its.length (itCells its) := hsl.src (Holds.app.1 hsub).1
    have hfew : its.length ≤ 24 := by have := h.few (ka, kb); rw [hmq, itQ_length] at this; exact this
    replace S : St _ _ _ ([(bi, .mapIter (some rq) clock (seen.push eb) clock), (b1, oq2), (b2, .cells #[.int .i64 m.nodes, .slice oa m.order.length oc, .map (some rl2), .map (some b1)] 69 (0, 0)), (rl2, ol)] ++ (Ho2 ++ ((qeH dn) ++ G))) := (S.gr g1).setAt 0 rfl _
    refine Lo A rfl (y_extract (A.g 33 rfl) rfl fun _ A => ?_)
    replace A := A.only [34, 32, 3] rfl
    refine hK10 _ _ ?_
    refine wp_seq_k fun K11 hK11 => ?_
    refine wp_cond_true (A.get rfl) ?_
    refine wp_skip ?_
    refine hK11 _ _ ?_
    refine wp_block ?_
    refine wp_seq_k fun K12 hK12 => ?_
    refine region_seq ?_  -- region 6
    refine Lo A rfl (y_entryM (en := ⟨kv (ka, kb), .slice qa its.length qc, eb⟩) (A.g 32 rfl) (S.get 0 rfl) (S.kp.heap' hq (by simp)) (mem_left.1 hen).1 hborn fun _ A => ?_)
    refine Lo A rfl (y_extract (A.g 35 rfl) rfl fun _ A => ?_)
    refine Lo A rfl (y_extract (A.g 35 rfl) rfl fun _ A => ?_)
    refine Lo A rfl (y_allocN (z := .agg #[.int .i64 0, .int .i64 0]) (by kernel_rfl) fun b3 w gG nN ac A => ?_)
    replace S : St _ _ _ ([(b3, .cells #[.int .i64 0, .int .i64 0] 28 (0, 0)), (bi, .mapIter (some rq) clock (seen.push eb) clock), (b1, oq2), (b2, .cells #[.int .i64 m.nodes, .slice oa m.order.length oc, .map (some rl2), .map (some b1)] 69 (0, 0)), (rl2, ol)] ++ (Ho2 ++ ((qeH dn) ++ G))) := (S.new gG nN).perm (by first | exact .refl _ | (rw [List.append_assoc]; exact .refl _) | (simp only [List.append_assoc, List.nil_append, List.append_nil]; exact .refl _))
    refine L_opN A rfl rfl (y_store 2 (by kernel_rfl) (A.g 4 rfl) (A.g 36 rfl) (S.get 0 rfl) rfl (Nat.le_of_ble_eq_true rfl) (one_all rfl) ?_)
    replace S : St _ _ _ ([(b3, .cells #[.int .i64 ka, .int .i64 kb] 28 (0, 0)), (bi, .mapIter (some rq) clock (seen.push eb) clock), (b1, oq2), (b2, .cells #[.int .i64 m.nodes, .slice oa m.order.length oc, .map (some rl2), .map (some b1)] 69 (0, 0)), (rl2, ol)] ++ (Ho2 ++ ((qeH dn) ++ G))) := S.setAt 0 rfl _
    refine La A rfl (A.g 37 rfl) fun _ A => ?_
    replace A := A.only [34, 32, 5, 4, 3] rfl
    refine hK12 _ _ ?_
    refine wp_seq_k fun K13 hK13 => ?_
    refine region_seq ?_  -- region 7
    refine La A rfl (evc _ _) fun _ A => ?_
    replace A := A.only [34, 32, 6, 5, 4, 3] rfl
    refine hK13 _ _ ?_
    refine wp_seq_k fun K14 hK14 => ?_
    refine wp_seq_k fun K15 hK15 => ?_
    refine region_seq ?_  -- region 8
    refine Lm A rfl (A.g 5 rfl) fun _ A => Lo A rfl (y_lenS (e := 85) (by kernel_rfl) (A.g 38 rfl) fun _ A => ?_)
    refine Lm A rfl (evc _ _) fun _ A => ?_
    replace A := A.only [40, 39, 38, 34, 32, 6, 5, 4, 3] rfl
    refine hK15 _ _ ?_
    refine wp_block ?_
    replace A := A.only [40, 39, 38, 32, 6, 4, 3] rfl
    have S2 : St _ _ _ ([(b3, .cells #[.int .i64 ka, .int .i64 kb] 28 (0, 0)), (bi, .mapIter (some rq) clock (seen.push eb) clock), (b1, oq2), (b2, .cells #[.int .i64 m.nodes, .slice oa m.order.length oc, .map (some rl2), .map (some b1)] 69 (0, 0)), (rl2, ol)] ++ ([] ++ ((itH []) ++ (Ho2 ++ ((qeH dn) ++ G))))) := S.perm (by simp only [itH, List.flatMap_nil]; classical rw [List.perm_iff_count]; intro x; simp only [List.count_append, List.count_cons, List.count_nil]; omega)
    refine wp_loop_ghost (fun k2 ac w' => ∃ (i : Nat) (jts : List It) (v' : Value) (HQ' G' : Frag), k2 + i = its.length ∧ jts.length = i ∧ itQ jts = (itQ its).take i ∧ ItOk jts ∧ SlRep 85 2 v' jts.length (itCells jts) HQ' ∧ Sl 61 ac [(3, .pointer (some ⟨b2, 0, none⟩)), (4, .pointer (some ⟨b3, 0, none⟩)), (6, v'), (32, .pointer (some ⟨bi, 0, none⟩)), (38, .slice qa its.length qc), (39, .int .i64 its.length), (40, .int .i64 ((i : Nat) : Int))] ∧ St [] w0 w' ([(b3, .cells #[.int .i64 ka, .int .i64 kb] 28 (0, 0)), (bi, .mapIter (some rq) clock (seen.push eb) clock), (b1, oq2), (b2, .cells #[.int .i64 m.nodes, .slice oa m.order.length oc, .map (some rl2), .map (some b1)] 69 (0, 0)), (rl2, ol)] ++ (HQ' ++ ((itH jts) ++ (Ho2 ++ ((qeH dn) ++ G')))))) its.length ⟨0, [], _, [], G, rfl, rfl, by simp [itQ], by intro i hi; simp at hi, SlRep.nil _ _ _, A, S2⟩ ?_
    clear A S S2
    rintro k2 ac w3 ⟨i, jts, v', HQ', G', hk2, hjl, hjq, hjok, hjs, A, S⟩
    obtain ⟨ja, jc, rfl⟩ := hjs.len
    rcases Nat.lt_or_ge i its.length with hi | hi
    · obtain ⟨it, hli⟩ : ∃ it, its[i]? = some it := ⟨_, List.getElem?_eq_getElem hi⟩
      obtain ⟨va, vc, hva, hrow⟩ := it_row (hsrcq.gr S.kp.to_gr) hli
      simp only [Value.slice.injEq] at hva; obtain ⟨rfl, -, rfl⟩ := hva
      have hit := hok it (List.mem_of_getElem? hli)
      have hbsrc : BSrc w0 it.v it.bs := BRep.src hit.1 (fun x hx => hsub x (List.mem_append.2 (Or.inr (mem_itH hli hx))))
      obtain ⟨ba, bc, hbv⟩ := SlRep.len hit.1
      rw [hbv] at hrow hbsrc
      refine wp_seq_k fun K16 hK16 => ?_
      refine region_seq ?_  -- region 9
      refine Lo A rfl (y_lss (A.g 40 rfl) (A.g 39 rfl) (c := true) (decide_eq_true (by omega)) fun _ A => ?_)
      replace A := A.only [41, 40, 39, 38, 32, 6, 4, 3] rfl
      refine hK16 _ _ ?_
      refine wp_seq_k fun K17 hK17 => ?_
      refine wp_cond_true (A.get rfl) ?_
      refine wp_skip ?_
      refine hK17 _ _ ?_
      refine wp_seq_k fun K18 hK18 => ?_
      refine wp_block ?_
      refine wp_seq_k fun K19 hK19 => ?_
      refine region_seq ?_  -- region 10
      refine Lo A rfl (y_indexA (e := 85) (size := 2) (by kernel_rfl) (by kernel_rfl) (A.g 38 rfl) (A.g 40 rfl) (by omega) (by omega) fun _ A => ?_)
      refine Lo A rfl (y_loadAgg [.slice ba it.bs.length bc, .bool it.sp] (by kernel_rfl) (A.g 42 rfl) hrow fun _ A => ?_)
      refine Lo A rfl (y_allocN (z := .agg #[.slice none 0 0, .bool false]) (by kernel_rfl) fun b4 w gG nN ac A => ?_)
      replace S : St _ _ _ ([(b4, .cells #[.slice none 0 0, .bool false] 85 (0, 0)), (b3, .cells #[.int .i64 ka, .int .i64 kb] 28 (0, 0)), (bi, .mapIter (some rq) clock (seen.push eb) clock), (b1, oq2), (b2, .cells #[.int .i64 m.nodes, .slice oa m.order.length oc, .map (some rl2), .map (some b1)] 69 (0, 0)), (rl2, ol)] ++ (HQ' ++ ((itH jts) ++ (Ho2 ++ ((qeH dn) ++ G'))))) := (S.new gG nN).perm (by first | exact .refl _ | (rw [List.append_assoc]; exact .refl _) | (simp only [List.append_assoc, List.nil_append, List.append_nil]; exact .refl _))
      refine L_opN A rfl rfl (y_store 2 (by kernel_rfl) (A.g 8 rfl) (A.g 43 rfl) (S.get 0 rfl) rfl (Nat.le_of_ble_eq_true rfl) (one_all rfl) ?_)
      replace S : St _ _ _ ([(b4, .cells #[.slice ba it.bs.length bc, .bool it.sp] 85 (0, 0)), (b3, .cells #[.int .i64 ka, .int .i64 kb] 28 (0, 0)), (bi, .mapIter (some rq) clock (seen.push eb) clock), (b1, oq2), (b2, .cells #[.int .i64 m.nodes, .slice oa m.order.length oc, .map (some rl2), .map (some b1)] 69 (0, 0)), (rl2, ol)] ++ (HQ' ++ ((itH jts) ++ (Ho2 ++ ((qeH dn) ++ G'))))) := S.setAt 0 rfl _
      replace A := A.only [41, 40, 39, 38, 32, 8, 6, 4, 3] rfl
      refine hK19 _ _ ?_
      refine region_draw A [⟨44, pl (eqv (.slice ja jts.length jc)), [], [6], none, false⟩, ⟨45, pl (eqv (.pointer (some ⟨b4, 0, none⟩))), [], [8], none, false⟩, ⟨46, pl (eqv (.slice ba it.bs.length bc)), [1], [], none, false⟩, ⟨47, pl (fun v H => BRep v it.bs H), [2], [], none, false⟩, ⟨48, pl (eqv (.pointer (some ⟨b4, 1, none⟩))), [], [8], none, false⟩, ⟨49, pl (eqv (.bool it.sp)), [4], [], none, false⟩, ⟨50, (fun l v H => v = .agg #[l.getD 0 undef, .bool it.sp] ∧ H = []), [3, 5], [], none, false⟩, ⟨51, (fun l v H => ∃ b, v = .slice (some ⟨b, 0, none⟩) 1 1 ∧ H = [(b, .cells (l.getD 0 undef).cells 85)]), [6], [], none, false⟩] [(8, false), (9, false)] (by kernel_rfl) (by kernel_rfl) (fun d _ _ _ _ h => by cases d <;> exact h) ⟨?_, ?_, ?_, ?_, ?_, ?_, ?_, ?_, trivial⟩ ?_  -- region 11
      · refine due_plain fun ρ w1 G hsrc hold => ?_; obtain ⟨o6, -⟩ := hold; exact y_move (o6.trans (A.g 6 rfl)) y_eq
      · refine due_plain fun ρ w1 G hsrc hold => ?_; obtain ⟨o8, -⟩ := hold; exact y_fieldAddr (off := 0) (j := 0) (by kernel_rfl) (o8.trans (A.g 8 rfl)) (by first | rfl | omega) y_eq
      · refine due_plain fun ρ w1 G hsrc hold => ?_; obtain ⟨⟨_, _, ⟨h45, -⟩, -⟩, -⟩ := hsrc; exact y_load (by kernel_rfl) h45 ((cell_of (G.gr.heap' (S.get 0 rfl)) _).trans rfl) y_eq
      · refine due_plain fun ρ w1 G hsrc hold => ?_; obtain ⟨⟨_, _, ⟨h46, -⟩, -⟩, -⟩ := hsrc; exact y_call1 (by kernel_rfl) (G.func _) h46 (clone_ok (hbsrc.gr (S.kp.to_gr.trans G.gr)) (by omega))
      · refine due_plain fun ρ w1 G hsrc hold => ?_; obtain ⟨o8, -⟩ := hold; exact y_fieldAddr (off := 1) (j := 1) (by kernel_rfl) (o8.trans (A.g 8 rfl)) (by first | rfl | omega) y_eq
      · refine due_plain fun ρ w1 G hsrc hold => ?_; obtain ⟨⟨_, _, ⟨h48, -⟩, -⟩, -⟩ := hsrc; exact y_load (by kernel_rfl) h48 ((cell_of (G.gr.heap' (S.get 0 rfl)) _).trans rfl) y_eq
      · refine due_plain fun ρ w1 G hsrc hold => ?_; obtain ⟨⟨_, _, h47, -⟩, ⟨_, _, ⟨h49, -⟩, -⟩, -⟩ := hsrc; obtain ⟨ka, kc, h47⟩ := SlRep.len h47; exact y_build2 h47 h49 (v := .agg #[.slice ka it.bs.length kc, .bool it.sp]) (by kernel_rfl) ⟨Gr.refl _, [], ⟨congrArg (fun x => Value.agg #[x, .bool it.sp]) h47.symm, rfl⟩, NewF.nil _ _⟩
      · refine due_plain fun ρ w1 G hsrc hold => ?_; obtain ⟨⟨_, _, ⟨h50, -⟩, -⟩, -⟩ := hsrc; exact y_buildSlice1 (e := 85) h50 (fun w => by kernel_rfl) (fun b w' g n => ⟨g, _, ⟨b, rfl, congrArg (fun x => [(b, Obj.cells (Value.cells x) 85)]) h50.symm⟩, n⟩)
      rintro _ _ ⟨rfl, rfl⟩ _ _ ⟨rfl, rfl⟩ _ _ ⟨rfl, rfl⟩ vb Hb hB _ _ ⟨rfl, rfl⟩ _ _ ⟨rfl, rfl⟩ _ _ ⟨rfl, rfl⟩ _ _ ⟨b51, rfl, rfl⟩
      intro ac w A gG nN
      replace S : St _ _ _ ([(b51, .cells #[vb, .bool it.sp] 85 (0, 0))] ++ (Hb ++ ([(b4, .cells #[.slice ba it.bs.length bc, .bool it.sp] 85 (0, 0)), (b3, .cells #[.int .i64 ka, .int .i64 kb] 28 (0, 0)), (bi, .mapIter (some rq) clock (seen.push eb) clock), (b1, oq2), (b2, .cells #[.int .i64 m.nodes, .slice oa m.order.length oc, .map (some rl2), .map (some b1)] 69 (0, 0)), (rl2, ol)] ++ (HQ' ++ ((itH jts) ++ (Ho2 ++ ((qeH dn) ++ G'))))))) := (S.new gG nN).perm (by first | exact .refl _ | (rw [List.append_assoc]; exact .refl _) | (simp only [List.append_assoc, List.nil_append, List.append_nil]; exact .refl _))
      replace S : St _ _ _ ([(b51, .cells #[vb, .bool it.sp] 85 (0, 0)), (b4, .cells #[.slice ba it.bs.length bc, .bool it.sp] 85 (0, 0)), (b3, .cells #[.int .i64 ka, .int .i64 kb] 28 (0, 0)), (bi, .mapIter (some rq) clock (seen.push eb) clock), (b1, oq2), (b2, .cells #[.int .i64 m.nodes, .slice oa m.order.length oc, .map (some rl2), .map (some b1)] 69 (0, 0)), (rl2, ol)] ++ (Hb ++ (HQ' ++ ((itH jts) ++ (Ho2 ++ ((qeH dn) ++ G')))))) := S.swap1 (L := [(b51, .cells #[vb, .bool it.sp] 85 (0, 0))]) (A := Hb) (B := [(b4, .cells #[.slice ba it.bs.length bc, .bool it.sp] 85 (0, 0)), (b3, .cells #[.int .i64 ka, .int .i64 kb] 28 (0, 0)), (bi, .mapIter (some rq) clock (seen.push eb) clock), (b1, oq2), (b2, .cells #[.int .i64 m.nodes, .slice oa m.order.length oc, .map (some rl2), .map (some b1)] 69 (0, 0)), (rl2, ol)])
      have hsrc : Src w 2 (.slice (some ⟨b51, 0, none⟩) 1 1) 1 [vb, .bool it.sp] := ⟨rfl, Or.inr ⟨_, _, rfl, cells_at (S.get 0 rfl) rfl⟩⟩
      replace S : St _ _ _ (HQ' ++ ([(b51, .cells #[vb, .bool it.sp] 85 (0, 0)), (b4, .cells #[.slice ba it.bs.length bc, .bool it.sp] 85 (0, 0)), (b3, .cells #[.int .i64 ka, .int .i64 kb] 28 (0, 0)), (bi, .mapIter (some rq) clock (seen.push eb) clock), (b1, oq2), (b2, .cells #[.int .i64 m.nodes, .slice oa m.order.length oc, .map (some rl2), .map (some b1)] 69 (0, 0)), (rl2, ol)] ++ (Hb ++ ((itH jts) ++ (Ho2 ++ ((qeH dn) ++ G')))))) := S.perm (by classical rw [List.perm_iff_count]; intro x; simp only [List.count_append, List.count_cons, List.count_nil]; omega)
      refine Lo A rfl (y_append okDG (by kernel_rfl) (A.g 44 rfl) (A.g 51 rfl) (H := HQ') S hjs hsrc (by intro q hq; simp only [List.mem_cons, List.not_mem_nil, or_false] at hq; rcases hq with rfl | rfl; (obtain ⟨_, _, e⟩ := SlRep.len hB; rw [e]; rfl); rfl) (by omega) (by omega) fun v2 w HQ2 hr S ac A => ?_)
      obtain ⟨G2, hG2⟩ : ∃ G2, ([(b51, .cells #[vb, .bool it.sp] 85 (0, 0)), (b4, .cells #[.slice ba it.bs.length bc, .bool it.sp] 85 (0, 0))] ++ G') = G2 := ⟨_, rfl⟩
      replace S : St _ _ _ ([(b3, .cells #[.int .i64 ka, .int .i64 kb] 28 (0, 0)), (bi, .mapIter (some rq) clock (seen.push eb) clock), (b1, oq2), (b2, .cells #[.int .i64 m.nodes, .slice oa m.order.length oc, .map (some rl2), .map (some b1)] 69 (0, 0)), (rl2, ol)] ++ (HQ2 ++ ((itH jts ++ Hb) ++ (Ho2 ++ ((qeH dn) ++ G2))))) := S.perm (by rw [← hG2]; exact (by classical rw [List.perm_iff_count]; intro x; simp only [List.count_append, List.count_cons, List.count_nil]; omega))
      refine La A rfl (A.g 52 rfl) fun _ A => ?_
      replace A := A.only [41, 40, 39, 38, 32, 8, 6, 4, 3] rfl
      refine hK18 _ _ ?_
      refine region_seq ?_  -- region 12
      refine Lo A rfl (y_add (A.g 40 rfl) (evc _ _) (c := ((i + 1 : Nat) : Int)) ((wrap64 (by omega)).trans (by omega)) fun _ A => ?_)
      refine Lm A rfl (A.g 53 rfl) fun _ A => ?_
      replace A := A.only [41, 40, 39, 38, 32, 8, 6, 4, 3] rfl
      replace A := A.only [40, 39, 38, 32, 6, 4, 3] rfl
      refine ⟨k2 - 1, by omega, i + 1, jts ++ [(⟨vb, it.bs, it.sp, Hb⟩ : It)], v2, HQ2, G2, by omega, by simp [hjl], ?_, ?_, ?_, A, ?_⟩
      · rw [itQ_snoc, hjq, List.take_add_one, show (itQ its)[i]? = some (it.bs, it.sp) by simp [itQ, hli]]; rfl
      · intro x hx; rcases List.mem_append.1 hx with hx | hx
        · exact hjok x hx
        · simp at hx; subst hx; exact ⟨hB, hit.2⟩
      · rw [itCells_snoc, List.length_append]; exact hr
      · rw [itH_snoc]; exact S
    · obtain rfl : i = its.length := by omega
      rw [List.take_of_length_le (by rw [itQ_length]; exact Nat.le_refl _)] at hjq
      refine wp_seq_k fun K20 hK20 => ?_
      refine region_seq ?_  -- region 9
      refine Lo A rfl (y_lss (A.g 40 rfl) (A.g 39 rfl) (c := false) (decide_eq_false (by omega)) fun _ A => ?_)
      replace A := A.only [41, 40, 39, 38, 32, 6, 4, 3] rfl
      refine hK20 _ _ ?_
      refine wp_seq_k fun K21 hK21 => ?_
      refine wp_cond_false (A.get rfl) ?_
      refine wp_exit ?_
      refine hK14 _ _ ?_
      refine region_draw A [⟨54, pl (eqv (.pointer (some ⟨b2, 0, none⟩))), [], [3], none, false⟩, ⟨55, pl (eqv (.pointer (some ⟨b2, 0, none⟩))), [0], [], none, false⟩, ⟨56, pl (eqv (.pointer (some ⟨b2, 3, none⟩))), [1], [], none, false⟩, ⟨57, pl (eqv (.map (some b1))), [2], [], none, false⟩, ⟨58, pl (eqv (.agg #[.int .i64 ka, .int .i64 kb])), [], [4], none, false⟩, ⟨59, pl (eqv (.slice ja jts.length jc)), [], [6], none, false⟩] [(6, false)] (by kernel_rfl) (by kernel_rfl) (fun d _ _ _ _ h => by cases d <;> exact h) ⟨?_, ?_, ?_, ?_, ?_, ?_, trivial⟩ ?_  -- region 13
      · refine due_plain fun ρ w1 G hsrc hold => ?_; obtain ⟨o3, -⟩ := hold; exact y_move (o3.trans (A.g 3 rfl)) y_eq
      · refine due_plain fun ρ w1 G hsrc hold => ?_; obtain ⟨⟨_, _, ⟨h54, -⟩, -⟩, -⟩ := hsrc; exact y_nilCheck h54 y_eq
      · refine due_plain fun ρ w1 G hsrc hold => ?_; obtain ⟨⟨_, _, ⟨h55, -⟩, -⟩, -⟩ := hsrc; exact y_fieldAddr (off := 3) (j := 3) (by kernel_rfl) h55 (by first | rfl | omega) y_eq
      · refine due_plain fun ρ w1 G hsrc hold => ?_; obtain ⟨⟨_, _, ⟨h56, -⟩, -⟩, -⟩ := hsrc; exact y_load (by kernel_rfl) h56 ((cell_of (G.gr.heap' (S.get 3 rfl)) _).trans rfl) y_eq
      · refine due_plain fun ρ w1 G hsrc hold => ?_; obtain ⟨o4, -⟩ := hold; exact y_loadAgg [.int .i64 ka, .int .i64 kb] (by kernel_rfl) (o4.trans (A.g 4 rfl)) (cells_at (G.gr.heap' (S.get 0 rfl)) rfl) y_eq
      · refine due_plain fun ρ w1 G hsrc hold => ?_; obtain ⟨o6, -⟩ := hold; exact y_move (o6.trans (A.g 6 rfl)) y_eq
      rintro _ _ ⟨rfl, rfl⟩ _ _ ⟨rfl, rfl⟩ _ _ ⟨rfl, rfl⟩ _ _ ⟨rfl, rfl⟩ _ _ ⟨rfl, rfl⟩ _ _ ⟨rfl, rfl⟩
      intro ac w A gG nN
      replace S : St _ _ _ ([(b3, .cells #[.int .i64 ka, .int .i64 kb] 28 (0, 0)), (bi, .mapIter (some rq) clock (seen.push eb) clock), (b1, oq2), (b2, .cells #[.int .i64 m.nodes, .slice oa m.order.length oc, .map (some rl2), .map (some b1)] 69 (0, 0)), (rl2, ol)] ++ (HQ' ++ ((itH jts) ++ (Ho2 ++ ((qeH dn) ++ G'))))) := (S.new gG nN).perm (by first | exact .refl _ | (rw [List.append_assoc]; exact .refl _) | (simp only [List.append_assoc, List.nil_append, List.append_nil]; exact .refl _))
      obtain ⟨oq3, hrun, hm'⟩ := run_put Try.lawK kv_inj Try.underlying67 (S.get 2 rfl) I.qm (ka, kb) hgd (.slice ja jts.length jc)
      refine L_opN A rfl rfl (y_mapUpdate (A.g 57 rfl) (A.g 58 rfl) (A.g 59 rfl) hrun ?_)
      replace S : St _ _ _ ([(b3, .cells #[.int .i64 ka, .int .i64 kb] 28 (0, 0)), (bi, .mapIter (some rq) clock (seen.push eb) clock), (b1, oq3), (b2, .cells #[.int .i64 m.nodes, .slice oa m.order.length oc, .map (some rl2), .map (some b1)] 69 (0, 0)), (rl2, ol)] ++ (HQ' ++ ((itH jts) ++ (Ho2 ++ ((qeH dn) ++ G'))))) := S.setAt 2 rfl _
      replace A := A.only [41, 40, 39, 38, 32, 6, 4, 3] rfl
      replace A := A.only [32, 3] rfl
      have hlt := left_push hen
      refine ⟨_, hkk ▸ hlt, seen.push eb, dn ++ [⟨(ka, kb), .slice ja jts.length jc, itQ its, HQ' ++ itH jts⟩], oq3, ([(b3, .cells #[.int .i64 ka, .int .i64 kb] 28 (0, 0))] ++ G'), rfl, I.next hen hborn hkeys rfl ⟨hqne, hmq, jts, HQ', hjq, hjok, hjs, rfl⟩ hm', A, ?_⟩
      rw [qeH_snoc]; exact S.perm (by classical rw [List.perm_iff_count]; intro x; simp only [List.count_append, List.count_cons, List.count_nil]; omega)
end Go.Proofs.Ytaeidblipdjgnaa
