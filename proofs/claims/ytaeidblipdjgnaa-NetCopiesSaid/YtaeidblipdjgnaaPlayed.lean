import Derived.Test.YtaeidblipdjgnaaActs
namespace Go.Proofs.Ytaeidblipdjgnaa
open Go.RowKit Go.Maps Go.WideMaps

abbrev Sent := Int × Int → List (List UInt8)
def setS (s : Sent) (k : Int × Int) (l : List (List UInt8)) : Sent := fun k' => if k' = k then l else s k'
theorem setS_same (s : Sent) (k : Int × Int) (l : List (List UInt8)) : setS s k l k = l := by simp [setS]
theorem setS_other (s : Sent) {k k' : Int × Int} (l : List (List UInt8)) (h : k' ≠ k) : setS s k l k' = s k' := by simp [setS, h]
/-- an entry of what was sent -/
structure Se where
  k : Int × Int
  v : Value
  l : List (List UInt8)
  H : Frag
def seH (l : List Se) : Frag := l.flatMap (·.H)
def seM (l : List Se) : List ((Int × Int) × Value) := l.map fun e => (e.k, e.v)
structure SeOk (s : Sent) (es : List Se) : Prop where
  ent : ∀ e ∈ es, e.l ≠ [] ∧ s e.k = e.l ∧ SlRep 9 1 e.v e.l.length (e.l.map strv) e.H
  non : ∀ k, (∀ e ∈ es, e.k ≠ k) → s k = []
structure SentP (s : Sent) (o : Obj) (es : List Se) : Prop where
  m : MapIs Try.prog 28 kv o (seM es)
  ok : SeOk s es
theorem se_look {es : List Se} {k : Int × Int} {v : Value} (h : look (seM es) k = some v) : ∃ e ∈ es, e.k = k ∧ e.v = v := by
  induction es with
  | nil => simp [seM, look_nil] at h
  | cons e r ih =>
    simp only [seM, List.map_cons, look_cons] at h
    split at h
    · rename_i hk; simp at h; exact ⟨e, by simp, hk, h⟩
    · obtain ⟨e', he, h1, h2⟩ := ih h; exact ⟨e', by simp [he], h1, h2⟩
theorem se_none {es : List Se} {k : Int × Int} (h : look (seM es) k = none) : ∀ e ∈ es, e.k ≠ k := by
  intro e he
  exact look_none_iff.1 h (e.k, e.v) (List.mem_map_of_mem (f := fun e : Se => (e.k, e.v)) he)
theorem SentP.zoom {s : Sent} {o : Obj} {es : List Se} (h : SentP s o es) (k : Int × Int) :
    ∃ v0 HQ H2, (look (seM es) k).getD (.slice none 0 0) = v0 ∧ SlRep 9 1 v0 (s k).length ((s k).map strv) HQ ∧ (seH es).Perm (HQ ++ H2) ∧
      ∀ v' l' HQ', l' ≠ [] → SlRep 9 1 v' l'.length (l'.map strv) HQ' → ∃ es', seM es' = put (seM es) k v' ∧ SeOk (setS s k l') es' ∧ (seH es').Perm (HQ' ++ H2) := by
  cases hl : look (seM es) k with
  | none =>
    have hno := se_none hl
    have hany : ¬ (seM es).any (fun x => decide (x.1 = k)) = true := by
      intro h'
      obtain ⟨x, hx, e⟩ := any_iff.1 h'
      obtain ⟨en, hen, rfl⟩ := List.mem_map.1 hx
      exact hno en hen e
    refine ⟨_, [], seH es, rfl, by rw [h.ok.non k hno]; exact SlRep.nil _ _ _, List.Perm.refl _, ?_⟩
    intro v' l' HQ' hne hsl
    refine ⟨es ++ [⟨k, v', l', HQ'⟩], ?_, ⟨?_, ?_⟩, ?_⟩
    · unfold put
      rw [if_neg hany]; simp [seM]
    · intro e he
      rcases List.mem_append.1 he with he | he
      · obtain ⟨h1, h2, h3⟩ := h.ok.ent e he
        exact ⟨h1, by rw [setS_other s _ (hno e he), h2], h3⟩
      · simp at he; subst he
        exact ⟨hne, setS_same s k _, hsl⟩
    · intro k' hk'
      have h1 : k' ≠ k := fun e => hk' ⟨k, v', l', HQ'⟩ (by simp) e.symm
      rw [setS_other s _ h1]
      exact h.ok.non k' (fun e he => hk' e (by simp [he]))
    · simp only [seH, List.flatMap_append, List.flatMap_cons, List.flatMap_nil, List.append_nil]
      exact List.perm_append_comm
  | some v =>
    obtain ⟨e, he, rfl, rfl⟩ := se_look hl
    obtain ⟨h1, h2, hsl⟩ := h.ok.ent e he
    obtain ⟨es1, es2, hes⟩ := List.append_of_mem he
    have hnd : (es.map (·.k)).Nodup := by have := h.m.nd; simpa [seM, List.map_map, Function.comp_def] using this
    have hk1 : ∀ x ∈ es1, x.k ≠ e.k := by
      intro x hx hxe
      rw [hes] at hnd
      simp only [List.map_append, List.map_cons] at hnd
      exact (List.nodup_append.1 hnd).2.2 x.k (List.mem_map_of_mem hx) e.k (by simp) hxe
    have hk2 : ∀ x ∈ es2, x.k ≠ e.k := by
      intro x hx hxe
      rw [hes] at hnd
      simp only [List.map_append, List.map_cons] at hnd
      have := (List.nodup_append.1 hnd).2.1
      simp only [List.nodup_cons] at this
      exact this.1 (hxe ▸ List.mem_map_of_mem hx)
    have hany : (seM es).any (fun x => decide (x.1 = e.k)) = true := any_iff.2 ⟨(e.k, e.v), List.mem_map_of_mem (f := fun e : Se => (e.k, e.v)) he, rfl⟩
    have hid : ∀ (v : Value) (l : List Se), (∀ x ∈ l, x.k ≠ e.k) → (seM l).map (fun x => if x.1 = e.k then (e.k, v) else x) = seM l := by
      intro v l hl
      conv => rhs; rw [← List.map_id (seM l)]
      apply List.map_congr_left
      intro x hx
      obtain ⟨y, hy, rfl⟩ := List.mem_map.1 hx
      simp [hl y hy]
    refine ⟨e.v, e.H, seH es1 ++ seH es2, rfl, by rw [h2]; exact hsl, ?_, ?_⟩
    · rw [hes]
      simp only [seH, List.flatMap_append, List.flatMap_cons]
      exact List.perm_append_comm_assoc _ _ _
    · intro v' l' HQ' hne hsl'
      refine ⟨es1 ++ ⟨e.k, v', l', HQ'⟩ :: es2, ?_, ⟨?_, ?_⟩, ?_⟩
      · unfold put
        rw [if_pos hany, hes]
        have a1 := hid v' es1 hk1
        have a2 := hid v' es2 hk2
        simp only [seM, List.map_append, List.map_cons] at a1 a2 ⊢
        rw [a1, a2]; simp
      · intro x hx
        have hoth : x ∈ es1 ∨ x ∈ es2 → x.l ≠ [] ∧ setS s e.k l' x.k = x.l ∧ SlRep 9 1 x.v x.l.length (x.l.map strv) x.H := by
          intro hx
          have hxe : x ∈ es := by rw [hes]; rcases hx with hx | hx <;> simp [hx]
          have hne : x.k ≠ e.k := by rcases hx with hx | hx; exact hk1 x hx; exact hk2 x hx
          obtain ⟨g1, g2, g3⟩ := h.ok.ent x hxe
          exact ⟨g1, by rw [setS_other s _ hne, g2], g3⟩
        rcases List.mem_append.1 hx with hx | hx
        · exact hoth (Or.inl hx)
        · rcases List.mem_cons.1 hx with hx | hx
          · subst hx; exact ⟨hne, setS_same s e.k _, hsl'⟩
          · exact hoth (Or.inr hx)
      · intro k' hk'
        have hkk : k' ≠ e.k := fun e' => hk' ⟨e.k, v', l', HQ'⟩ (by simp) e'.symm
        rw [setS_other s _ hkk]
        refine h.ok.non k' (fun x hx => ?_)
        rw [hes] at hx
        rcases List.mem_append.1 hx with hx | hx
        · exact hk' x (by simp [hx])
        · rcases List.mem_cons.1 hx with hx | hx
          · subst hx; exact fun e' => hkk e'.symm
          · exact hk' x (by simp [hx])
      · simp only [seH, List.flatMap_append, List.flatMap_cons]
        exact List.perm_append_comm_assoc _ _ _
theorem look_sent {w : World} {r : Nat} {o : Obj} {qs : List ((Int × Int) × Value)} (hb : w.heap[r]? = some o) (hm : MapIs Try.prog 28 kv o qs) (k : Int × Int) (hk : goodK k) {v : Value}
    (hc : (look qs k).getD (.slice none 0 0) = v) : (Instr.lookup 39 (.map (some r)) (kv k) false).run Try.prog w = .ok v w := by
  have := run_look (w := w) (t := 39) (e := 29) Try.lawK kv_inj Try.underlying39 (z := .slice none 0 0) (by kernel_rfl) hb hm k hk false
  rw [this, ← hc]; rfl

/-! ### a net by any calls -/
def playStep (s : M × Sent) (x : Ac) : M × Sent :=
  if x.d = 0 then (if (s.1.send x.f x.t x.bs).1 = 0 then ((s.1.send x.f x.t x.bs).2, setS s.2 (x.f, x.t) (s.2 (x.f, x.t) ++ [x.bs])) else ((s.1.send x.f x.t x.bs).2, s.2))
  else if x.d = 2 then ((s.1.take x.f x.t x.i).2.2, s.2)
  else if x.d = 3 then ((s.1.take x.f x.t x.i).2.2, s.2)
  else if x.d = 4 then ((s.1.double x.f x.t x.i).2, s.2)
  else if x.d = 5 then ((s.1.spoil x.f x.t x.i x.b).2, s.2)
  else if x.d = 6 then ((s.1.cut x.f x.t).2, s.2)
  else if x.d = 7 then ((s.1.heal x.f x.t).2, s.2)
  else if x.d = 8 then ((s.1.empty x.t).2, s.2)
  else s
def play (m : M) (l : List Ac) : M × Sent := l.foldl playStep (m, fun _ => [])
theorem send_order (m : M) (a b : Int) (bs : List UInt8) : (m.send a b bs).2.order = m.order := by
  unfold M.send; split <;> (try rfl); split <;> (try rfl); split <;> rfl
theorem take_order (m : M) (a b i : Int) : (m.take a b i).2.2.order = m.order := by unfold M.take; split <;> rfl
theorem double_order (m : M) (a b i : Int) : (m.double a b i).2.order = m.order := by unfold M.double; split <;> (try rfl); split <;> rfl
theorem spoil_order (m : M) (a b i c : Int) : (m.spoil a b i c).2.order = m.order := by
  unfold M.spoil; split <;> (try rfl); split <;> (try rfl); split <;> (try rfl); split <;> rfl
theorem cut_order (m : M) (a b : Int) : (m.cut a b).2.order = m.order := by unfold M.cut; split <;> rfl
theorem heal_order (m : M) (a b : Int) : (m.heal a b).2.order = m.order := by unfold M.heal; split <;> rfl
theorem eFold_same {node : Int} : ∀ (l : List (Int × Int)) (s : Int × M), SameNet s.2 (l.foldl (eStep node) s).2
  | [], s => ⟨rfl, rfl, rfl, fun _ => Nat.le_refl _⟩
  | k :: r, s => (eStep_keeps (s := s) (k := k)).trans (eFold_same r _)
theorem empty_same (m : M) (node : Int) : SameNet m (m.empty node).2 := eFold_same _ (0, m)
theorem playStep_order (s : M × Sent) (x : Ac) : (playStep s x).1.order = s.1.order := by
  unfold playStep
  repeat' split
  all_goals first | exact send_order _ _ _ _ | exact take_order _ _ _ _ | exact double_order _ _ _ _ | exact spoil_order _ _ _ _ _ | exact cut_order _ _ _ | exact heal_order _ _ _ | exact (empty_same _ _).2.1 | rfl
theorem playStep_len (s : M × Sent) (x : Ac) (k : Int × Int) : ((playStep s x).2 k).length ≤ (s.2 k).length + 1 := by
  unfold playStep
  repeat' split
  all_goals first | omega | (simp only; omega) | (simp only [setS]; split <;> first | (rename_i e; subst e; simp) | omega)
def PlayedR (n : Int) (ls : List (Int × Int)) (l : List Ac) (r : Value) (H : Frag) : Prop :=
  (newM n ls = none ∧ r = .tuple #[.pointer none, .map none] ∧ H = []) ∨ ∃ m p q Hn oq es, newM n ls = some m ∧ r = .tuple #[.pointer (some ⟨p, 0, none⟩), .map (some q)] ∧ NetRep p (play m l).1 Hn ∧ SentP (play m l).2 oq es ∧ H = Hn ++ ((q, oq) :: seH es)
theorem newO_ok : ∀ {n : Int} {ls o r : List (Int × Int)}, newO n o ls = some r → (∀ k ∈ o, 1 ≤ k.1 ∧ k.1 < k.2 ∧ k.2 ≤ n) → ∀ k ∈ r, 1 ≤ k.1 ∧ k.1 < k.2 ∧ k.2 ≤ n
  | n, [], o, r, h, ho => by simp [newO] at h; subst h; exact ho
  | n, l :: ls, o, r, h, ho => by
    unfold newO at h
    split at h
    · rename_i hk
      refine newO_ok h (fun k hk' => ?_)
      rcases List.mem_append.1 hk' with hk' | hk'
      · exact ho k hk'
      · simp only [List.mem_singleton] at hk'; subst hk'
        simp only [okL, Bool.and_eq_true, decide_eq_true_eq] at hk
        have : (ends l.1 l.2).1 ≤ (ends l.1 l.2).2 := by unfold ends; dsimp only; omega
        omega
    · simp at h
theorem newM_ok {n : Int} {ls : List (Int × Int)} {m : M} (h : newM n ls = some m) : m.nodes = n ∧ 1 ≤ n ∧ n ≤ 10 ∧ m.order.length ≤ ls.length + 0 ∧ (∀ k ∈ m.order, 1 ≤ k.1 ∧ k.1 < k.2 ∧ k.2 ≤ n) := by
  unfold newM at h
  split at h
  · simp at h
  · rename_i hn
    obtain ⟨o, h1, rfl⟩ := Option.map_eq_some_iff.1 h
    refine ⟨rfl, by omega, by omega, ?_, newO_ok h1 (by simp)⟩
    have : ∀ {ls o r : List (Int × Int)}, newO n o ls = some r → r.length ≤ ls.length + o.length := by
      intro ls
      induction ls with
      | nil => intro o r h; simp [newO] at h; subst h; simp
      | cons l ls ih =>
        intro o r h
        unfold newO at h
        split at h
        · have := ih h; simp at this ⊢; omega
        · simp at h
    exact this h1
theorem newM_i64 {n : Int} {ls : List (Int × Int)} {m : M} (h : newM n ls = some m) : ∀ k ∈ m.order, i64 k.1 ∧ i64 k.2 := by
  intro k hk
  obtain ⟨_, h1, h2, _, h3⟩ := newM_ok h
  have := h3 k hk
  exact ⟨⟨by omega, by omega⟩, ⟨by omega, by omega⟩⟩

set_option maxRecDepth 20000 in
set_option maxHeartbeats 16000000 in
theorem played_ok {w0 : World} {n : Int} {vl v : Value} {ls : List (Int × Int)} {l : List Ac} (hls : Src w0 2 vl ls.length (pairs ls)) (hll : ls.length ≤ 1000000) (hlg : ∀ l ∈ ls, i64 l.1 ∧ i64 l.2) (hs : AcSrc w0 v l) (hl : l.length ≤ 1000) : Calls Try.prog 15 #[.int .i64 n, vl, v] w0 (RetN w0 (PlayedR n ls l)) := by
  obtain ⟨va, vc, rfl⟩ : ∃ a c, v = .slice a l.length c := by obtain ⟨_, _, _, h, _⟩ := hs; exact h.len'
  cases hnew : newM n ls with
  | none =>
    have hnone : ∀ w, Gr w0 w → Calls Try.prog 10 #[.int .i64 n, vl] w (RetN w (eqv (.tuple #[.pointer none, .int .i64 1]))) := fun w g => (new_ok (hls.gr g) hll hlg).mono (by
      rintro e w' ⟨v, rfl, g, H, hr, nf⟩
      rcases hr with ⟨_, rfl, rfl⟩ | ⟨m, p, h, _⟩
      · exact ⟨_, rfl, g, [], ⟨rfl, rfl⟩, nf⟩
      · rw [hnew] at h; simp at h)
    refine enter Try.func15 rfl (n := 133) rfl (Nat.le_of_ble_eq_true rfl) fun ac A => ?_
    have S : St _ _ _ [] := St.none w0
    refine wp_seq_k fun K1 hK1 => ?_
    refine region_seq ?_  -- region 0
    refine L_op A rfl (by decide) rfl (y_assign rfl fun ac A => ?_)
    refine L_op A rfl (by decide) rfl (y_assign rfl fun ac A => ?_)
    replace A := A.keep [(0, .int .i64 n), (1, vl), (2, .slice va l.length vc), (6, .pointer none), (7, .map none)] ⟨rfl, rfl, rfl, rfl, rfl, trivial⟩
    refine hK1 _ _ ?_
    refine wp_seq_k fun K2 hK2 => ?_
    refine region_seq ?_  -- region 1
    refine L_op A rfl (by decide) rfl (y_move (A.get (s := 0) rfl) fun ac A => ?_)
    refine L_op A rfl (by decide) rfl (y_move (A.get (s := 1) rfl) fun ac A => ?_)
    refine L_op A rfl (by decide) rfl (y_call2 (by kernel_rfl) rfl (A.get (s := 14) rfl) (A.get (s := 15) rfl) (callN (hnone _ S.kp.to_gr) fun v w H gG nN hf ac A => ?_))
    obtain ⟨rfl, rfl⟩ := hf
    replace S : St _ _ _ [] := S.new gG nN
    refine L_op A rfl (by decide) rfl (y_move (A.get (s := 16) rfl) fun ac A => ?_)
    replace A := A.keep [(0, .int .i64 n), (1, vl), (2, .slice va l.length vc), (6, .pointer none), (7, .map none), (13, .tuple #[.pointer none, .int .i64 1])] ⟨rfl, rfl, rfl, rfl, rfl, rfl, trivial⟩
    refine L_op A rfl (by decide) rfl (y_extract (A.get (s := 13) rfl) rfl fun ac A => ?_)
    refine L_op A rfl (by decide) rfl (y_extract (A.get (s := 13) rfl) rfl fun ac A => ?_)
    refine L_op A rfl (by decide) rfl (y_assign (A.get (s := 17) rfl) fun ac A => ?_)
    refine L_op A rfl (by decide) rfl (y_assign (A.get (s := 18) rfl) fun ac A => ?_)
    replace A := A.keep [(0, .int .i64 n), (1, vl), (2, .slice va l.length vc), (6, .pointer none), (7, .map none), (8, .pointer none), (9, .int .i64 1)] ⟨rfl, rfl, rfl, rfl, rfl, rfl, rfl, trivial⟩
    refine hK2 _ _ ?_
    refine wp_seq_k fun K3 hK3 => ?_
    refine wp_seq_k fun K4 hK4 => ?_
    refine region_seq ?_  -- region 2
    refine L_op A rfl (by decide) rfl (y_move (A.get (s := 9) rfl) fun ac A => ?_)
    refine L_op A rfl (by decide) rfl (y_neq (A.get (s := 19) rfl) rfl (c := true) (by decide) fun ac A => ?_)
    refine L_op A rfl (by decide) rfl (y_move (A.get (s := 20) rfl) fun ac A => ?_)
    refine L_no A rfl (by decide) rfl rfl (by decide) (A.get rfl) (by decide) fun ac A => ?_
    refine L_no A rfl (by decide) rfl rfl (by decide) (A.get rfl) (by decide) fun ac A => ?_
    refine L_op A rfl (by decide) rfl (y_pickT (A.get (s := 21) rfl) rfl fun ac A => ?_)
    replace A := A.keep [(0, .int .i64 n), (1, vl), (2, .slice va l.length vc), (6, .pointer none), (7, .map none), (8, .pointer none), (9, .int .i64 1), (24, .bool true)] ⟨rfl, rfl, rfl, rfl, rfl, rfl, rfl, rfl, trivial⟩
    refine hK4 _ _ ?_
    refine wp_cond_true (A.get rfl) ?_
    refine wp_seq_k fun K5 hK5 => ?_
    refine region_seq ?_  -- region 3
    refine L_op A rfl (by decide) rfl (y_assign rfl fun ac A => ?_)
    refine L_op A rfl (by decide) rfl (y_assign rfl fun ac A => ?_)
    replace A := A.keep [(0, .int .i64 n), (1, vl), (2, .slice va l.length vc), (6, .pointer none), (7, .map none), (8, .pointer none), (9, .int .i64 1), (24, .bool true)] ⟨rfl, rfl, rfl, rfl, rfl, rfl, rfl, rfl, trivial⟩
    refine hK5 _ _ ?_
    exact wp_ret ⟨A.defers, _, res_run (rs := [.tmp 6, .tmp 7]) (vs := [.pointer none, .map none]) rfl ⟨A.get rfl, A.get rfl, trivial⟩, ⟨_, rfl, S.kp.to_gr, [], Or.inl ⟨hnew, rfl, rfl⟩, NewF.nil _ _⟩⟩
  | some m0 =>
    have hord := newM_i64 hnew
    refine enter Try.func15 rfl (n := 133) rfl (Nat.le_of_ble_eq_true rfl) fun ac A => ?_
    have S : St _ _ _ [] := St.none w0
    refine wp_seq_k fun K1 hK1 => ?_
    refine region_seq ?_  -- region 0
    refine L_op A rfl (by decide) rfl (y_assign rfl fun ac A => ?_)
    refine L_op A rfl (by decide) rfl (y_assign rfl fun ac A => ?_)
    replace A := A.keep [(0, .int .i64 n), (1, vl), (2, .slice va l.length vc), (6, .pointer none), (7, .map none)] ⟨rfl, rfl, rfl, rfl, rfl, trivial⟩
    refine hK1 _ _ ?_
    refine wp_seq_k fun K2 hK2 => ?_
    refine region_seq ?_  -- region 1
    refine L_op A rfl (by decide) rfl (y_move (A.get (s := 0) rfl) fun ac A => ?_)
    refine L_op A rfl (by decide) rfl (y_move (A.get (s := 1) rfl) fun ac A => ?_)
    refine L_op A rfl (by decide) rfl (y_call2 (by kernel_rfl) rfl (A.get (s := 14) rfl) (A.get (s := 15) rfl) (callN (new_is hnew (hls.gr S.kp.to_gr) hll hlg) fun v w Hn gG nN hf ac A => ?_))
    obtain ⟨p, rfl, hN⟩ := hf
    replace S : St _ _ _ Hn := (S.new gG nN).perm (by first | exact List.Perm.refl _ | (rw [List.append_assoc]; exact List.Perm.refl _) | (simp only [List.append_assoc, List.nil_append, List.append_nil]; exact List.Perm.refl _))
    refine L_op A rfl (by decide) rfl (y_move (A.get (s := 16) rfl) fun ac A => ?_)
    replace A := A.keep [(0, .int .i64 n), (1, vl), (2, .slice va l.length vc), (6, .pointer none), (7, .map none), (13, .tuple #[.pointer (some ⟨p, 0, none⟩), .int .i64 0])] ⟨rfl, rfl, rfl, rfl, rfl, rfl, trivial⟩
    refine L_op A rfl (by decide) rfl (y_extract (A.get (s := 13) rfl) rfl fun ac A => ?_)
    refine L_op A rfl (by decide) rfl (y_extract (A.get (s := 13) rfl) rfl fun ac A => ?_)
    refine L_op A rfl (by decide) rfl (y_assign (A.get (s := 17) rfl) fun ac A => ?_)
    refine L_op A rfl (by decide) rfl (y_assign (A.get (s := 18) rfl) fun ac A => ?_)
    replace A := A.keep [(0, .int .i64 n), (1, vl), (2, .slice va l.length vc), (6, .pointer none), (7, .map none), (8, .pointer (some ⟨p, 0, none⟩)), (9, .int .i64 0)] ⟨rfl, rfl, rfl, rfl, rfl, rfl, rfl, trivial⟩
    refine hK2 _ _ ?_
    refine wp_seq_k fun K3 hK3 => ?_
    refine wp_seq_k fun K4 hK4 => ?_
    refine region_seq ?_  -- region 2
    refine L_op A rfl (by decide) rfl (y_move (A.get (s := 9) rfl) fun ac A => ?_)
    refine L_op A rfl (by decide) rfl (y_neq (A.get (s := 19) rfl) rfl (c := false) (by decide) fun ac A => ?_)
    refine L_op A rfl (by decide) rfl (y_move (A.get (s := 20) rfl) fun ac A => ?_)
    refine L_yes A rfl (by decide) rfl rfl (by decide) (A.get rfl) (y_move (A.get (s := 8) rfl) fun ac A => ?_)
    refine L_yes A rfl (by decide) rfl rfl (by decide) (A.get rfl) (y_ptrNil (c := false) (by kernel_rfl) (A.get (s := 22) rfl) rfl rfl fun ac A => ?_)
    refine L_op A rfl (by decide) rfl (y_pickF (A.get (s := 21) rfl) (A.get (s := 23) rfl) fun ac A => ?_)
    replace A := A.keep [(0, .int .i64 n), (1, vl), (2, .slice va l.length vc), (6, .pointer none), (7, .map none), (8, .pointer (some ⟨p, 0, none⟩)), (9, .int .i64 0), (24, .bool false)] ⟨rfl, rfl, rfl, rfl, rfl, rfl, rfl, rfl, trivial⟩
    refine hK4 _ _ ?_
    refine wp_cond_false (A.get rfl) ?_
    refine wp_skip ?_
    refine hK3 _ _ ?_
    refine wp_seq_k fun K5 hK5 => ?_
    refine region_seq ?_  -- region 4
    refine L_op A rfl (by decide) rfl (y_makeMapN fun b1 w gG nN ac A => ?_)
    replace S : St _ _ _ ([(b1, .map #[] 0)] ++ Hn) := (S.new gG nN).perm (by first | exact List.Perm.refl _ | (rw [List.append_assoc]; exact List.Perm.refl _) | (simp only [List.append_assoc, List.nil_append, List.append_nil]; exact List.Perm.refl _))
    refine L_op A rfl (by decide) rfl (y_assign (A.get (s := 25) rfl) fun ac A => ?_)
    replace A := A.keep [(0, .int .i64 n), (1, vl), (2, .slice va l.length vc), (6, .pointer none), (7, .map none), (8, .pointer (some ⟨p, 0, none⟩)), (9, .int .i64 0), (10, .map (some b1)), (24, .bool false)] ⟨rfl, rfl, rfl, rfl, rfl, rfl, rfl, rfl, rfl, trivial⟩
    refine hK5 _ _ ?_
    refine wp_seq_k fun K6 hK6 => ?_
    refine wp_seq_k fun K7 hK7 => ?_
    refine region_seq ?_  -- region 5
    refine L_op A rfl (by decide) rfl (y_assign rfl fun ac A => ?_)
    replace A := A.keep [(0, .int .i64 n), (1, vl), (2, .slice va l.length vc), (6, .pointer none), (7, .map none), (8, .pointer (some ⟨p, 0, none⟩)), (9, .int .i64 0), (10, .map (some b1)), (11, .int .i64 0), (24, .bool false)] ⟨rfl, rfl, rfl, rfl, rfl, rfl, rfl, rfl, rfl, rfl, trivial⟩
    refine hK7 _ _ ?_
    refine wp_block ?_
    replace A := A.keep [(2, .slice va l.length vc), (8, .pointer (some ⟨p, 0, none⟩)), (10, .map (some b1)), (11, .int .i64 0)] ⟨rfl, rfl, rfl, rfl, trivial⟩
    skip
    refine wp_loop_ghost (fun kk ac w' => ∃ (i : Nat) (m : M) (sn : Sent) (Hn : Frag) (oq : Obj) (es : List Se), kk + i = l.length ∧ (l.take i).foldl playStep (m0, fun _ => []) = (m, sn) ∧ m.order = m0.order ∧ (∀ k, (sn k).length ≤ i) ∧ Sl 133 ac [(2, .slice va l.length vc), (8, .pointer (some ⟨p, 0, none⟩)), (10, .map (some b1)), (11, .int .i64 ((i : Nat) : Int))] ∧ St [] w0 w' ([(b1, oq)] ++ (Hn ++ seH es)) ∧ NetRep p m Hn ∧ SentP sn oq es) l.length ⟨0, m0, fun _ => [], Hn, .map #[] 0, [], by simp, by simp, rfl, by simp, A, S.perm (by simp only [seH, List.flatMap_nil, List.append_nil]; exact List.Perm.refl _), hN, ⟨MapIs.nil _ _ _, by simp, by simp⟩⟩ ?_
    clear A S hN
    rintro kk ac w2 ⟨i, m, sn, Hn, oq, es, hkk, hgo, hmo, hsl, A, S, hN, hE⟩
    rcases Nat.lt_or_ge i l.length with hi | hi
    · obtain ⟨x, hli⟩ : ∃ x, l[i]? = some x := ⟨_, List.getElem?_eq_getElem hi⟩
      obtain ⟨va, vc, ba, bc, hva, hcell, hbs, hok⟩ := hs.at hli
      obtain ⟨okd, okf, okt, oki, okb, hbl⟩ := hok
      simp only [Value.slice.injEq] at hva; obtain ⟨rfl, -, rfl⟩ := hva
      have hnext := take_succ_fold playStep (m0, fun _ => []) l hli
      rw [hgo] at hnext
      have hordm : ∀ k ∈ m.order, i64 k.1 ∧ i64 k.2 := hmo ▸ hord
      have hord' := playStep_order (m, sn) x
      have hlen' := playStep_len (m, sn) x
      refine wp_seq_k fun K8 hK8 => ?_
      refine wp_seq_k fun K9 hK9 => ?_
      refine region_seq ?_  -- region 6
      refine L_op A rfl (by decide) rfl (y_move (A.get (s := 11) rfl) fun ac A => ?_)
      refine L_op A rfl (by decide) rfl (y_move (A.get (s := 2) rfl) fun ac A => ?_)
      refine L_op A rfl (by decide) rfl (y_lenS (e := 57) (by kernel_rfl) (A.get (s := 27) rfl) fun ac A => ?_)
      refine L_op A rfl (by decide) rfl (y_lss (A.get (s := 26) rfl) (A.get (s := 28) rfl) (c := true) (decide_eq_true (by omega)) fun ac A => ?_)
      replace A := A.keep [(2, .slice (some va) l.length vc), (8, .pointer (some ⟨p, 0, none⟩)), (10, .map (some b1)), (11, .int .i64 (((i : Nat) : Int))), (29, .bool true)] ⟨rfl, rfl, rfl, rfl, rfl, trivial⟩
      refine hK9 _ _ ?_
      refine wp_cond_true (A.get rfl) ?_
      refine wp_skip ?_
      refine hK8 _ _ ?_
      refine wp_seq_k fun K10 hK10 => ?_
      refine wp_block ?_
      refine wp_seq_k fun K11 hK11 => ?_
      refine region_seq ?_  -- region 8
      refine L_op A rfl (by decide) rfl (y_move (A.get (s := 2) rfl) fun ac A => ?_)
      refine L_op A rfl (by decide) rfl (y_move (A.get (s := 11) rfl) fun ac A => ?_)
      refine L_op A rfl (by decide) rfl (y_indexA (e := 57) (size := 6) (by kernel_rfl) (by kernel_rfl) (A.get (s := 32) rfl) (A.get (s := 33) rfl) (by omega) (by omega) fun ac A => ?_)
      refine L_op A rfl (by decide) rfl (y_loadAgg (acCells x (.slice ba x.bs.length bc)) (by kernel_rfl) (A.get (s := 34) rfl) (fun j hj => S.kp.to_gr.cell' (hcell j hj)) fun ac A => ?_)
      refine L_op A rfl (by decide) rfl (y_allocN (z := .agg #[.int .i64 0, .int .i64 0, .int .i64 0, .int .i64 0, .int .i64 0, .slice none 0 0]) (by kernel_rfl) fun b2 w gG nN ac A => ?_)
      replace S : St _ _ _ ([(b2, .cells #[.int .i64 0, .int .i64 0, .int .i64 0, .int .i64 0, .int .i64 0, .slice none 0 0] 57 (0, 0)), (b1, oq)] ++ (Hn ++ (seH es))) := (S.new gG nN).perm (by first | exact List.Perm.refl _ | (rw [List.append_assoc]; exact List.Perm.refl _) | (simp only [List.append_assoc, List.nil_append, List.append_nil]; exact List.Perm.refl _))
      refine L_opN A rfl rfl (y_store 6 (by kernel_rfl) (A.get (s := 12) rfl) (A.get (s := 35) rfl) (S.get 0 rfl) rfl (Nat.le_of_ble_eq_true rfl) (one_all rfl) ?_)
      replace S : St _ _ _ ([(b2, .cells #[.int .i64 x.d, .int .i64 x.f, .int .i64 x.t, .int .i64 x.i, .int .i64 x.b, .slice ba x.bs.length bc] 57 (0, 0)), (b1, oq)] ++ (Hn ++ (seH es))) := S.setAt 0 rfl _
      replace A := A.keep [(2, .slice (some va) l.length vc), (8, .pointer (some ⟨p, 0, none⟩)), (10, .map (some b1)), (11, .int .i64 (((i : Nat) : Int))), (12, .pointer (some ⟨b2, 0, none⟩)), (29, .bool true)] ⟨rfl, rfl, rfl, rfl, rfl, rfl, trivial⟩
      refine hK11 _ _ ?_
      refine wp_seq_k fun K12 hK12 => ?_
      refine region_seq ?_  -- region 9
      refine L_op A rfl (by decide) rfl (y_fieldAddr (off := 0) (j := 0) (by kernel_rfl) (A.get (s := 12) rfl) (by first | rfl | omega) fun ac A => ?_)
      refine L_op A rfl (by decide) rfl (y_load (by kernel_rfl) (A.get (s := 36) rfl) ((cell_of (S.get 0 rfl) _).trans rfl) fun ac A => ?_)
      replace A := A.keep [(2, .slice (some va) l.length vc), (8, .pointer (some ⟨p, 0, none⟩)), (10, .map (some b1)), (11, .int .i64 (((i : Nat) : Int))), (12, .pointer (some ⟨b2, 0, none⟩)), (29, .bool true), (37, .int .i64 x.d)] ⟨rfl, rfl, rfl, rfl, rfl, rfl, rfl, trivial⟩
      refine hK12 _ _ ?_
      refine wp_block ?_
      refine wp_seq_k fun K13 hK13 => ?_
      refine region_seq ?_  -- region 10
      refine L_op A rfl (by decide) rfl (y_eql (A.get (s := 37) rfl) rfl rfl fun ac A => ?_)
      refine L_op A rfl (by decide) rfl (y_assign (A.get (s := 39) rfl) fun ac A => ?_)
      replace A := A.keep [(2, .slice (some va) l.length vc), (8, .pointer (some ⟨p, 0, none⟩)), (10, .map (some b1)), (11, .int .i64 (((i : Nat) : Int))), (12, .pointer (some ⟨b2, 0, none⟩)), (29, .bool true), (37, .int .i64 x.d), (38, .bool ((x.d : Int) == 0))] ⟨rfl, rfl, rfl, rfl, rfl, rfl, rfl, rfl, trivial⟩
      refine hK13 _ _ ?_
      refine wp_cond_split (A.get rfl) (fun hc38 => ?_) (fun hc38 => ?_)
      · -- .bool ((x.d : Int) == 0) is true
        simp only [beq_iff_eq] at hc38
        refine wp_seq_k fun K14 hK14 => ?_
        refine region_seq ?_  -- region 11
        refine L_op A rfl (by decide) rfl (y_move (A.get (s := 8) rfl) fun ac A => ?_)
        refine L_op A rfl (by decide) rfl (y_fieldAddr (off := 1) (j := 1) (by kernel_rfl) (A.get (s := 12) rfl) (by first | rfl | omega) fun ac A => ?_)
        refine L_op A rfl (by decide) rfl (y_load (by kernel_rfl) (A.get (s := 41) rfl) ((cell_of (S.get 0 rfl) _).trans rfl) fun ac A => ?_)
        refine L_op A rfl (by decide) rfl (y_fieldAddr (off := 2) (j := 2) (by kernel_rfl) (A.get (s := 12) rfl) (by first | rfl | omega) fun ac A => ?_)
        replace A := A.keep [(2, .slice (some va) l.length vc), (8, .pointer (some ⟨p, 0, none⟩)), (10, .map (some b1)), (11, .int .i64 (((i : Nat) : Int))), (12, .pointer (some ⟨b2, 0, none⟩)), (29, .bool true), (37, .int .i64 x.d), (38, .bool ((x.d : Int) == 0)), (40, .pointer (some ⟨p, 0, none⟩)), (42, .int .i64 x.f), (43, .pointer (some ⟨b2, 2, none⟩))] ⟨rfl, rfl, rfl, rfl, rfl, rfl, rfl, rfl, rfl, rfl, rfl, trivial⟩
        refine L_op A rfl (by decide) rfl (y_load (by kernel_rfl) (A.get (s := 43) rfl) ((cell_of (S.get 0 rfl) _).trans rfl) fun ac A => ?_)
        refine L_op A rfl (by decide) rfl (y_fieldAddr (off := 5) (j := 5) (by kernel_rfl) (A.get (s := 12) rfl) (by first | rfl | omega) fun ac A => ?_)
        refine L_op A rfl (by decide) rfl (y_load (by kernel_rfl) (A.get (s := 45) rfl) ((cell_of (S.get 0 rfl) _).trans rfl) fun ac A => ?_)
        replace S : St _ _ _ (Hn ++ ([(b2, .cells #[.int .i64 x.d, .int .i64 x.f, .int .i64 x.t, .int .i64 x.i, .int .i64 x.b, .slice ba x.bs.length bc] 57 (0, 0)), (b1, oq)] ++ (seH es))) := S.perm (by classical rw [List.perm_iff_count]; intro x; simp only [List.count_append, List.count_cons, List.count_nil] <;> omega)
        refine L_op A rfl (by decide) rfl (y_call4 (by kernel_rfl) rfl (A.get (s := 40) rfl) (A.get (s := 42) rfl) (A.get (s := 44) rfl) (A.get (s := 46) rfl) (callW (send_ok hN S.app_left.nd S.app_left.holds okf okt (hbs.gr S.kp.to_gr) (off_base S hbs)) fun v w Hn1 s hf ac A => ?_))
        replace S : St _ _ _ (Hn1 ++ ([(b2, .cells #[.int .i64 x.d, .int .i64 x.f, .int .i64 x.t, .int .i64 x.i, .int .i64 x.b, .slice ba x.bs.length bc] 57 (0, 0)), (b1, oq)] ++ (seH es))) := St.call (H := Hn) (R := ([(b2, .cells #[.int .i64 x.d, .int .i64 x.f, .int .i64 x.t, .int .i64 x.i, .int .i64 x.b, .slice ba x.bs.length bc] 57 (0, 0)), (b1, oq)] ++ (seH es))) S rfl s
        obtain ⟨rfl, hN⟩ := hf
        replace S : St _ _ _ ([(b2, .cells #[.int .i64 x.d, .int .i64 x.f, .int .i64 x.t, .int .i64 x.i, .int .i64 x.b, .slice ba x.bs.length bc] 57 (0, 0)), (b1, oq)] ++ (Hn1 ++ (seH es))) := S.perm (by classical rw [List.perm_iff_count]; intro x; simp only [List.count_append, List.count_cons, List.count_nil] <;> omega)
        replace A := A.keep [(2, .slice (some va) l.length vc), (8, .pointer (some ⟨p, 0, none⟩)), (10, .map (some b1)), (11, .int .i64 (((i : Nat) : Int))), (12, .pointer (some ⟨b2, 0, none⟩)), (29, .bool true), (37, .int .i64 x.d), (38, .bool ((x.d : Int) == 0)), (47, .int .i64 ((m.send x.f x.t x.bs).1))] ⟨rfl, rfl, rfl, rfl, rfl, rfl, rfl, rfl, rfl, trivial⟩
        refine L_op A rfl (by decide) rfl (y_eql (A.get (s := 47) rfl) rfl rfl fun ac A => ?_)
        replace A := A.keep [(2, .slice (some va) l.length vc), (8, .pointer (some ⟨p, 0, none⟩)), (10, .map (some b1)), (11, .int .i64 (((i : Nat) : Int))), (12, .pointer (some ⟨b2, 0, none⟩)), (29, .bool true), (37, .int .i64 x.d), (38, .bool ((x.d : Int) == 0)), (48, .bool (((m.send x.f x.t x.bs).1 : Int) == 0))] ⟨rfl, rfl, rfl, rfl, rfl, rfl, rfl, rfl, rfl, trivial⟩
        refine hK14 _ _ ?_
        refine wp_cond_split (A.get rfl) (fun hc48 => ?_) (fun hc48 => ?_)
        · -- .bool (((m.send x.f x.t x.bs).1 : Int) == 0) is true
          simp only [beq_iff_eq] at hc48
          have hgk : goodK (x.f, x.t) := good okf okt
          obtain ⟨v0, HQ, H2, hv0, hsl0, hperm, hput⟩ := hE.zoom (x.f, x.t)
          obtain ⟨ra, rc, rfl⟩ := hsl0.len
          replace S : St _ _ _ ([(b2, .cells #[.int .i64 x.d, .int .i64 x.f, .int .i64 x.t, .int .i64 x.i, .int .i64 x.b, .slice ba x.bs.length bc] 57 (0, 0)), (b1, oq)] ++ (Hn1 ++ (seH es))) := S.perm (by classical rw [List.perm_iff_count]; intro x; simp only [List.count_append, List.count_cons, List.count_nil] <;> omega)
          replace S : St _ _ _ ([(b2, .cells #[.int .i64 x.d, .int .i64 x.f, .int .i64 x.t, .int .i64 x.i, .int .i64 x.b, .slice ba x.bs.length bc] 57 (0, 0)), (b1, oq)] ++ (Hn1 ++ (HQ ++ H2))) := S.perm (List.Perm.append_left _ (List.Perm.append_left _ hperm))
          refine region_drawR (fun w1 => Holds w1 [(b2, .cells #[.int .i64 x.d, .int .i64 x.f, .int .i64 x.t, .int .i64 x.i, .int .i64 x.b, .slice ba x.bs.length bc] 57 (0, 0))]) A [⟨49, pl (eqv (.map (some b1))), [], [10], none, true⟩, ⟨50, pl (eqv (.pointer (some ⟨b2, 1, none⟩))), [], [12], none, true⟩, ⟨51, pl (eqv (.int .i64 x.f)), [1], [], none, true⟩, ⟨52, pl (eqv (.pointer (some ⟨b2, 2, none⟩))), [], [12], none, true⟩, ⟨53, pl (eqv (.int .i64 x.t)), [3], [], none, true⟩, ⟨54, pl (eqv (.agg #[.int .i64 x.f, .int .i64 x.t])), [2, 4], [], none, true⟩, ⟨55, pl (eqv (.map (some b1))), [], [10], none, false⟩, ⟨56, pl (eqv (.pointer (some ⟨b2, 1, none⟩))), [], [12], none, false⟩, ⟨57, pl (eqv (.int .i64 x.f)), [7], [], none, false⟩, ⟨58, pl (eqv (.pointer (some ⟨b2, 2, none⟩))), [], [12], none, false⟩, ⟨59, pl (eqv (.int .i64 x.t)), [9], [], none, false⟩, ⟨60, pl (eqv (.agg #[.int .i64 x.f, .int .i64 x.t])), [8, 10], [], none, false⟩, ⟨61, pl (eqv (.slice ra (sn (x.f, x.t)).length rc)), [6, 11], [], none, false⟩, ⟨62, pl (eqv (.pointer (some ⟨b2, 5, none⟩))), [], [12], none, false⟩, ⟨63, pl (eqv (.slice ba x.bs.length bc)), [13], [], none, false⟩, ⟨64, pl (eqv (.string ⟨x.bs.toArray⟩)), [14], [], none, false⟩, ⟨65, pl (sblk 1 (.cells #[.string ⟨x.bs.toArray⟩] 9)), [15], [], none, false⟩] [(17, false), (18, false)] (by kernel_rfl) (by kernel_rfl) (fun d _ _ _ _ h => by cases d <;> exact h) (fun w1 g => Holds.gr (Holds.cons (S.get 0 rfl) (Holds.nil _)) g) ⟨?_, ?_, ?_, ?_, ?_, ?_, ?_, ?_, ?_, ?_, ?_, ?_, ?_, ?_, ?_, ?_, ?_, trivial⟩ ?_  -- region 12
          · refine due_pure fun ρ w1 G hsrc hold => ?_; obtain ⟨o10, -⟩ := hold; exact ⟨_, (fun w1 => r_move (o10.trans (A.get (s := 10) rfl))), rfl, rfl⟩
          · refine due_pure fun ρ w1 G hsrc hold => ?_; obtain ⟨o12, -⟩ := hold; exact ⟨_, (fun w1 => r_fieldAddr (off := 1) (j := 1) (by kernel_rfl) (o12.trans (A.get (s := 12) rfl)) (by first | rfl | omega)), rfl, rfl⟩
          · refine due_read fun ρ w1 G hsrc hold => ?_; obtain ⟨⟨_, _, ⟨h50, -⟩, -⟩, -⟩ := hsrc; exact ⟨_, (fun w1 hR => r_load (by kernel_rfl) h50 ((cell_of (hR.at 0 rfl) _).trans rfl)), rfl, rfl⟩
          · refine due_pure fun ρ w1 G hsrc hold => ?_; obtain ⟨o12, -⟩ := hold; exact ⟨_, (fun w1 => r_fieldAddr (off := 2) (j := 2) (by kernel_rfl) (o12.trans (A.get (s := 12) rfl)) (by first | rfl | omega)), rfl, rfl⟩
          · refine due_read fun ρ w1 G hsrc hold => ?_; obtain ⟨⟨_, _, ⟨h52, -⟩, -⟩, -⟩ := hsrc; exact ⟨_, (fun w1 hR => r_load (by kernel_rfl) h52 ((cell_of (hR.at 0 rfl) _).trans rfl)), rfl, rfl⟩
          · refine due_pure fun ρ w1 G hsrc hold => ?_; obtain ⟨⟨_, _, ⟨h51, -⟩, -⟩, ⟨_, _, ⟨h53, -⟩, -⟩, -⟩ := hsrc; exact ⟨_, (fun w1 => r_build2 h51 h53 (v := .agg #[.int .i64 x.f, .int .i64 x.t]) (by kernel_rfl)), rfl, rfl⟩
          · refine due_plain fun ρ w1 G hsrc hold => ?_; obtain ⟨o10, -⟩ := hold; exact y_move (o10.trans (A.get (s := 10) rfl)) y_eq
          · refine due_plain fun ρ w1 G hsrc hold => ?_; obtain ⟨o12, -⟩ := hold; exact y_fieldAddr (off := 1) (j := 1) (by kernel_rfl) (o12.trans (A.get (s := 12) rfl)) (by first | rfl | omega) y_eq
          · refine due_plain fun ρ w1 G hsrc hold => ?_; obtain ⟨⟨_, _, ⟨h56, -⟩, -⟩, -⟩ := hsrc; exact y_load (by kernel_rfl) h56 ((cell_of (G.gr.heap' (S.get 0 rfl)) _).trans rfl) y_eq
          · refine due_plain fun ρ w1 G hsrc hold => ?_; obtain ⟨o12, -⟩ := hold; exact y_fieldAddr (off := 2) (j := 2) (by kernel_rfl) (o12.trans (A.get (s := 12) rfl)) (by first | rfl | omega) y_eq
          · refine due_plain fun ρ w1 G hsrc hold => ?_; obtain ⟨⟨_, _, ⟨h58, -⟩, -⟩, -⟩ := hsrc; exact y_load (by kernel_rfl) h58 ((cell_of (G.gr.heap' (S.get 0 rfl)) _).trans rfl) y_eq
          · refine due_plain fun ρ w1 G hsrc hold => ?_; obtain ⟨⟨_, _, ⟨h57, -⟩, -⟩, ⟨_, _, ⟨h59, -⟩, -⟩, -⟩ := hsrc; exact y_build2 h57 h59 (v := .agg #[.int .i64 x.f, .int .i64 x.t]) (by kernel_rfl) y_eq
          · refine due_plain fun ρ w1 G hsrc hold => ?_; obtain ⟨⟨_, _, ⟨h55, -⟩, -⟩, ⟨_, _, ⟨h60, -⟩, -⟩, -⟩ := hsrc; exact y_lookup h55 h60 (look_sent (G.gr.heap' (S.get 1 rfl)) hE.m (x.f, x.t) hgk hv0) y_eq
          · refine due_plain fun ρ w1 G hsrc hold => ?_; obtain ⟨o12, -⟩ := hold; exact y_fieldAddr (off := 5) (j := 5) (by kernel_rfl) (o12.trans (A.get (s := 12) rfl)) (by first | rfl | omega) y_eq
          · refine due_plain fun ρ w1 G hsrc hold => ?_; obtain ⟨⟨_, _, ⟨h62, -⟩, -⟩, -⟩ := hsrc; exact y_load (by kernel_rfl) h62 ((cell_of (G.gr.heap' (S.get 0 rfl)) _).trans rfl) y_eq
          · refine due_plain fun ρ w1 G hsrc hold => ?_; obtain ⟨⟨_, _, ⟨h63, -⟩, -⟩, -⟩ := hsrc; exact y_bytesStr (e := 5) (l := x.bs) (by kernel_rfl) (by kernel_rfl) (by kernel_rfl) h63 ((hbs.gr S.kp.to_gr).gr G.gr) y_eq
          · refine due_plain fun ρ w1 G hsrc hold => ?_; obtain ⟨⟨_, _, ⟨h64, -⟩, -⟩, -⟩ := hsrc; exact y_buildSlice1 (c := #[.string ⟨x.bs.toArray⟩]) (e := 9) h64 (fun w => by kernel_rfl) (fun b w' g n => ⟨g, _, ⟨b, rfl, rfl⟩, n⟩)
          rintro _ _ ⟨rfl, rfl⟩ _ _ ⟨rfl, rfl⟩ _ _ ⟨rfl, rfl⟩ _ _ ⟨rfl, rfl⟩ _ _ ⟨rfl, rfl⟩ _ _ ⟨rfl, rfl⟩ _ _ ⟨rfl, rfl⟩ _ _ ⟨rfl, rfl⟩ _ _ ⟨rfl, rfl⟩ _ _ ⟨rfl, rfl⟩ _ _ ⟨rfl, rfl⟩ _ _ ⟨rfl, rfl⟩ _ _ ⟨rfl, rfl⟩ _ _ ⟨rfl, rfl⟩ _ _ ⟨rfl, rfl⟩ _ _ ⟨rfl, rfl⟩ _ _ ⟨b3, rfl, rfl⟩
          intro ac w A gG nN
          replace S : St _ _ _ ([(b3, .cells #[.string ⟨x.bs.toArray⟩] 9 (0, 0)), (b2, .cells #[.int .i64 x.d, .int .i64 x.f, .int .i64 x.t, .int .i64 x.i, .int .i64 x.b, .slice ba x.bs.length bc] 57 (0, 0)), (b1, oq)] ++ (Hn1 ++ (HQ ++ H2))) := (S.new gG nN).perm (by first | exact List.Perm.refl _ | (rw [List.append_assoc]; exact List.Perm.refl _) | (simp only [List.append_assoc, List.nil_append, List.append_nil]; exact List.Perm.refl _))
          have hR := (Holds.cons (S.get 1 rfl) (Holds.nil _))
          have hsrc : Src w 1 (.slice (some ⟨b3, 0, none⟩) 1 1) 1 ([x.bs].map strv) := ⟨rfl, Or.inr ⟨_, _, rfl, cells_at (S.get 0 rfl) rfl⟩⟩
          replace S : St _ _ _ (HQ ++ ([(b3, .cells #[.string ⟨x.bs.toArray⟩] 9 (0, 0)), (b2, .cells #[.int .i64 x.d, .int .i64 x.f, .int .i64 x.t, .int .i64 x.i, .int .i64 x.b, .slice ba x.bs.length bc] 57 (0, 0)), (b1, oq)] ++ (Hn1 ++ H2))) := S.perm (by classical rw [List.perm_iff_count]; intro x; simp only [List.count_append, List.count_cons, List.count_nil] <;> omega)
          have hsn := hsl (x.f, x.t)
          refine R_op hR A rfl (by decide) rfl (y_append okSS (by kernel_rfl) (A.get (s := 61) rfl) (A.get (s := 65) rfl) S hsl0 hsrc (str_one _) (by omega) (by omega) fun v' w HQ' hR2 S ac A => ?_)
          replace S : St _ _ _ ([(b3, .cells #[.string ⟨x.bs.toArray⟩] 9 (0, 0)), (b2, .cells #[.int .i64 x.d, .int .i64 x.f, .int .i64 x.t, .int .i64 x.i, .int .i64 x.b, .slice ba x.bs.length bc] 57 (0, 0)), (b1, oq)] ++ (Hn1 ++ (H2 ++ HQ'))) := S.perm (by classical rw [List.perm_iff_count]; intro x; simp only [List.count_append, List.count_cons, List.count_nil] <;> omega)
          have hR := (Holds.cons (S.get 1 rfl) (Holds.nil _))
          obtain ⟨oq', hrun, hm'⟩ := run_put Try.lawK kv_inj Try.underlying39 (S.get 2 rfl) hE.m (x.f, x.t) hgk v'
          refine R_opN hR A rfl rfl (y_mapUpdate (A.get (s := 49) rfl) (A.get (s := 54) rfl) (A.get (s := 66) rfl) hrun ?_)
          replace S : St _ _ _ ([(b3, .cells #[.string ⟨x.bs.toArray⟩] 9 (0, 0)), (b2, .cells #[.int .i64 x.d, .int .i64 x.f, .int .i64 x.t, .int .i64 x.i, .int .i64 x.b, .slice ba x.bs.length bc] 57 (0, 0)), (b1, oq')] ++ (Hn1 ++ (H2 ++ HQ'))) := S.setAt 2 rfl _
          obtain ⟨es', e1, e2, e3⟩ := hput v' (sn (x.f, x.t) ++ [x.bs]) HQ' (by simp) (by simpa using hR2)
          replace hE : SentP _ oq' es' := ⟨e1 ▸ hm', e2⟩
          replace S : St _ _ _ ([(b3, .cells #[.string ⟨x.bs.toArray⟩] 9 (0, 0)), (b2, .cells #[.int .i64 x.d, .int .i64 x.f, .int .i64 x.t, .int .i64 x.i, .int .i64 x.b, .slice ba x.bs.length bc] 57 (0, 0)), (b1, oq')] ++ (Hn1 ++ (HQ' ++ H2))) := S.perm (by classical rw [List.perm_iff_count]; intro x; simp only [List.count_append, List.count_cons, List.count_nil] <;> omega)
          replace S : St _ _ _ ([(b3, .cells #[.string ⟨x.bs.toArray⟩] 9 (0, 0)), (b2, .cells #[.int .i64 x.d, .int .i64 x.f, .int .i64 x.t, .int .i64 x.i, .int .i64 x.b, .slice ba x.bs.length bc] 57 (0, 0)), (b1, oq')] ++ (Hn1 ++ (seH es'))) := S.perm (List.Perm.append_left _ (List.Perm.append_left _ e3.symm))
          refine R_end (Holds.cons (S.get 1 rfl) (Holds.nil _)) ?_
          replace A := A.keep [(2, .slice (some va) l.length vc), (8, .pointer (some ⟨p, 0, none⟩)), (10, .map (some b1)), (11, .int .i64 (((i : Nat) : Int))), (12, .pointer (some ⟨b2, 0, none⟩)), (29, .bool true), (37, .int .i64 x.d), (38, .bool ((x.d : Int) == 0)), (48, .bool (((m.send x.f x.t x.bs).1 : Int) == 0))] ⟨rfl, rfl, rfl, rfl, rfl, rfl, rfl, rfl, rfl, trivial⟩
          refine hK10 _ _ ?_
          refine region_seq ?_  -- region 7
          refine L_op A rfl (by decide) rfl (y_move (A.get (s := 11) rfl) fun ac A => ?_)
          refine L_op A rfl (by decide) rfl (y_add (A.get (s := 30) rfl) rfl (c := ((i + 1 : Nat) : Int)) (wrap64' hi (by omega)) fun ac A => ?_)
          refine L_op A rfl (by decide) rfl (y_assign (A.get (s := 31) rfl) fun ac A => ?_)
          replace A := A.keep [(2, .slice (some va) l.length vc), (8, .pointer (some ⟨p, 0, none⟩)), (10, .map (some b1)), (11, .int .i64 (((i + 1 : Nat) : Int))), (12, .pointer (some ⟨b2, 0, none⟩)), (29, .bool true), (37, .int .i64 x.d), (38, .bool ((x.d : Int) == 0)), (48, .bool (((m.send x.f x.t x.bs).1 : Int) == 0))] ⟨rfl, rfl, rfl, rfl, rfl, rfl, rfl, rfl, rfl, trivial⟩
          replace A := A.keep [(2, .slice (some va) l.length vc), (8, .pointer (some ⟨p, 0, none⟩)), (10, .map (some b1)), (11, .int .i64 (((i + 1 : Nat) : Int)))] ⟨rfl, rfl, rfl, rfl, trivial⟩
          replace S : St _ _ _ ([(b1, oq')] ++ (Hn1 ++ (seH es'))) := St.app_left (K := [(b3, .cells #[.string ⟨x.bs.toArray⟩] 9 (0, 0)), (b2, .cells #[.int .i64 x.d, .int .i64 x.f, .int .i64 x.t, .int .i64 x.i, .int .i64 x.b, .slice ba x.bs.length bc] 57 (0, 0))]) (S.perm (by classical rw [List.perm_iff_count]; intro x; simp only [List.count_append, List.count_cons, List.count_nil] <;> omega))
          have hstep : playStep (m, sn) x = ((m.send x.f x.t x.bs).2, setS sn (x.f, x.t) (sn (x.f, x.t) ++ [x.bs])) := by simp [playStep, hc38, hc48]
          rw [hstep] at hnext hord' hlen'
          exact ⟨kk - 1, by omega, i + 1, _, _, _, _, _, by omega, hnext, hord'.trans hmo, fun k => Nat.le_trans (hlen' k) (Nat.add_le_add_right (hsl k) 1), A, S, hN, hE⟩
        · -- .bool (((m.send x.f x.t x.bs).1 : Int) == 0) is false
          simp only [beq_eq_false_iff_ne, ne_eq] at hc48
          refine wp_skip ?_
          refine hK10 _ _ ?_
          refine region_seq ?_  -- region 7
          refine L_op A rfl (by decide) rfl (y_move (A.get (s := 11) rfl) fun ac A => ?_)
          refine L_op A rfl (by decide) rfl (y_add (A.get (s := 30) rfl) rfl (c := ((i + 1 : Nat) : Int)) (wrap64' hi (by omega)) fun ac A => ?_)
          refine L_op A rfl (by decide) rfl (y_assign (A.get (s := 31) rfl) fun ac A => ?_)
          replace A := A.keep [(2, .slice (some va) l.length vc), (8, .pointer (some ⟨p, 0, none⟩)), (10, .map (some b1)), (11, .int .i64 (((i + 1 : Nat) : Int))), (12, .pointer (some ⟨b2, 0, none⟩)), (29, .bool true), (37, .int .i64 x.d), (38, .bool ((x.d : Int) == 0)), (48, .bool (((m.send x.f x.t x.bs).1 : Int) == 0))] ⟨rfl, rfl, rfl, rfl, rfl, rfl, rfl, rfl, rfl, trivial⟩
          replace A := A.keep [(2, .slice (some va) l.length vc), (8, .pointer (some ⟨p, 0, none⟩)), (10, .map (some b1)), (11, .int .i64 (((i + 1 : Nat) : Int)))] ⟨rfl, rfl, rfl, rfl, trivial⟩
          replace S : St _ _ _ ([(b1, oq)] ++ (Hn1 ++ (seH es))) := St.app_left (K := [(b2, .cells #[.int .i64 x.d, .int .i64 x.f, .int .i64 x.t, .int .i64 x.i, .int .i64 x.b, .slice ba x.bs.length bc] 57 (0, 0))]) (S.perm (by classical rw [List.perm_iff_count]; intro x; simp only [List.count_append, List.count_cons, List.count_nil] <;> omega))
          have hstep : playStep (m, sn) x = ((m.send x.f x.t x.bs).2, sn) := by simp [playStep, hc38, hc48]
          rw [hstep] at hnext hord' hlen'
          exact ⟨kk - 1, by omega, i + 1, _, _, _, _, _, by omega, hnext, hord'.trans hmo, fun k => Nat.le_trans (hlen' k) (Nat.add_le_add_right (hsl k) 1), A, S, hN, hE⟩
      · -- .bool ((x.d : Int) == 0) is false
        simp only [beq_eq_false_iff_ne, ne_eq] at hc38
        refine wp_seq_k fun K15 hK15 => ?_
        refine region_seq ?_  -- region 13
        refine L_op A rfl (by decide) rfl (y_eql (A.get (s := 37) rfl) rfl rfl fun ac A => ?_)
        refine L_op A rfl (by decide) rfl (y_assign (A.get (s := 68) rfl) fun ac A => ?_)
        replace A := A.keep [(2, .slice (some va) l.length vc), (8, .pointer (some ⟨p, 0, none⟩)), (10, .map (some b1)), (11, .int .i64 (((i : Nat) : Int))), (12, .pointer (some ⟨b2, 0, none⟩)), (29, .bool true), (37, .int .i64 x.d), (38, .bool ((x.d : Int) == 0)), (67, .bool ((x.d : Int) == 2))] ⟨rfl, rfl, rfl, rfl, rfl, rfl, rfl, rfl, rfl, trivial⟩
        refine hK15 _ _ ?_
        refine wp_cond_split (A.get rfl) (fun hc67 => ?_) (fun hc67 => ?_)
        · -- .bool ((x.d : Int) == 2) is true
          simp only [beq_iff_eq] at hc67
          refine region_seq ?_  -- region 14
          refine L_op A rfl (by decide) rfl (y_move (A.get (s := 8) rfl) fun ac A => ?_)
          refine L_op A rfl (by decide) rfl (y_fieldAddr (off := 1) (j := 1) (by kernel_rfl) (A.get (s := 12) rfl) (by first | rfl | omega) fun ac A => ?_)
          refine L_op A rfl (by decide) rfl (y_load (by kernel_rfl) (A.get (s := 70) rfl) ((cell_of (S.get 0 rfl) _).trans rfl) fun ac A => ?_)
          refine L_op A rfl (by decide) rfl (y_fieldAddr (off := 2) (j := 2) (by kernel_rfl) (A.get (s := 12) rfl) (by first | rfl | omega) fun ac A => ?_)
          replace A := A.keep [(2, .slice (some va) l.length vc), (8, .pointer (some ⟨p, 0, none⟩)), (10, .map (some b1)), (11, .int .i64 (((i : Nat) : Int))), (12, .pointer (some ⟨b2, 0, none⟩)), (29, .bool true), (37, .int .i64 x.d), (38, .bool ((x.d : Int) == 0)), (67, .bool ((x.d : Int) == 2)), (69, .pointer (some ⟨p, 0, none⟩)), (71, .int .i64 x.f), (72, .pointer (some ⟨b2, 2, none⟩))] ⟨rfl, rfl, rfl, rfl, rfl, rfl, rfl, rfl, rfl, rfl, rfl, rfl, trivial⟩
          refine L_op A rfl (by decide) rfl (y_load (by kernel_rfl) (A.get (s := 72) rfl) ((cell_of (S.get 0 rfl) _).trans rfl) fun ac A => ?_)
          refine L_op A rfl (by decide) rfl (y_fieldAddr (off := 3) (j := 3) (by kernel_rfl) (A.get (s := 12) rfl) (by first | rfl | omega) fun ac A => ?_)
          refine L_op A rfl (by decide) rfl (y_load (by kernel_rfl) (A.get (s := 74) rfl) ((cell_of (S.get 0 rfl) _).trans rfl) fun ac A => ?_)
          replace S : St _ _ _ (Hn ++ ([(b2, .cells #[.int .i64 x.d, .int .i64 x.f, .int .i64 x.t, .int .i64 x.i, .int .i64 x.b, .slice ba x.bs.length bc] 57 (0, 0)), (b1, oq)] ++ (seH es))) := S.perm (by classical rw [List.perm_iff_count]; intro x; simp only [List.count_append, List.count_cons, List.count_nil] <;> omega)
          refine L_op A rfl (by decide) rfl (y_call4 (by kernel_rfl) rfl (A.get (s := 69) rfl) (A.get (s := 71) rfl) (A.get (s := 73) rfl) (A.get (s := 75) rfl) (callW (take_ok (i := x.i) hN S.app_left.nd S.app_left.holds okf okt) fun v w Hx s hf ac A => ?_))
          replace S : St _ _ _ (Hx ++ ([(b2, .cells #[.int .i64 x.d, .int .i64 x.f, .int .i64 x.t, .int .i64 x.i, .int .i64 x.b, .slice ba x.bs.length bc] 57 (0, 0)), (b1, oq)] ++ (seH es))) := St.call (H := Hn) (R := ([(b2, .cells #[.int .i64 x.d, .int .i64 x.f, .int .i64 x.t, .int .i64 x.i, .int .i64 x.b, .slice ba x.bs.length bc] 57 (0, 0)), (b1, oq)] ++ (seH es))) S rfl s
          obtain ⟨vb, Hb, Hn1, rfl, hB, rfl, hN⟩ := hf
          replace S : St _ _ _ ((Hn1 ++ Hb) ++ ([(b2, .cells #[.int .i64 x.d, .int .i64 x.f, .int .i64 x.t, .int .i64 x.i, .int .i64 x.b, .slice ba x.bs.length bc] 57 (0, 0)), (b1, oq)] ++ (seH es))) := S
          replace S : St _ _ _ (Hn1 ++ (Hb ++ ([(b2, .cells #[.int .i64 x.d, .int .i64 x.f, .int .i64 x.t, .int .i64 x.i, .int .i64 x.b, .slice ba x.bs.length bc] 57 (0, 0)), (b1, oq)] ++ (seH es)))) := S.perm (by classical rw [List.perm_iff_count]; intro x; simp only [List.count_append, List.count_cons, List.count_nil] <;> omega)
          replace S : St _ _ _ ([(b2, .cells #[.int .i64 x.d, .int .i64 x.f, .int .i64 x.t, .int .i64 x.i, .int .i64 x.b, .slice ba x.bs.length bc] 57 (0, 0)), (b1, oq)] ++ (Hn1 ++ (Hb ++ (seH es)))) := S.perm (by classical rw [List.perm_iff_count]; intro x; simp only [List.count_append, List.count_cons, List.count_nil] <;> omega)
          replace A := A.keep [(2, .slice (some va) l.length vc), (8, .pointer (some ⟨p, 0, none⟩)), (10, .map (some b1)), (11, .int .i64 (((i : Nat) : Int))), (12, .pointer (some ⟨b2, 0, none⟩)), (29, .bool true), (37, .int .i64 x.d), (38, .bool ((x.d : Int) == 0)), (67, .bool ((x.d : Int) == 2))] ⟨rfl, rfl, rfl, rfl, rfl, rfl, rfl, rfl, rfl, trivial⟩
          refine hK10 _ _ ?_
          refine region_seq ?_  -- region 7
          refine L_op A rfl (by decide) rfl (y_move (A.get (s := 11) rfl) fun ac A => ?_)
          refine L_op A rfl (by decide) rfl (y_add (A.get (s := 30) rfl) rfl (c := ((i + 1 : Nat) : Int)) (wrap64' hi (by omega)) fun ac A => ?_)
          refine L_op A rfl (by decide) rfl (y_assign (A.get (s := 31) rfl) fun ac A => ?_)
          replace A := A.keep [(2, .slice (some va) l.length vc), (8, .pointer (some ⟨p, 0, none⟩)), (10, .map (some b1)), (11, .int .i64 (((i + 1 : Nat) : Int))), (12, .pointer (some ⟨b2, 0, none⟩)), (29, .bool true), (37, .int .i64 x.d), (38, .bool ((x.d : Int) == 0)), (67, .bool ((x.d : Int) == 2))] ⟨rfl, rfl, rfl, rfl, rfl, rfl, rfl, rfl, rfl, trivial⟩
          replace A := A.keep [(2, .slice (some va) l.length vc), (8, .pointer (some ⟨p, 0, none⟩)), (10, .map (some b1)), (11, .int .i64 (((i + 1 : Nat) : Int)))] ⟨rfl, rfl, rfl, rfl, trivial⟩
          replace S : St _ _ _ ([(b1, oq)] ++ (Hn1 ++ (seH es))) := St.app_left (K := ([(b2, .cells #[.int .i64 x.d, .int .i64 x.f, .int .i64 x.t, .int .i64 x.i, .int .i64 x.b, .slice ba x.bs.length bc] 57 (0, 0))] ++ Hb)) (S.perm (by classical rw [List.perm_iff_count]; intro x; simp only [List.count_append, List.count_cons, List.count_nil] <;> omega))
          have hstep : playStep (m, sn) x = ((m.take x.f x.t x.i).2.2, sn) := by simp [playStep, hc67]
          rw [hstep] at hnext hord' hlen'
          exact ⟨kk - 1, by omega, i + 1, _, _, _, _, _, by omega, hnext, hord'.trans hmo, fun k => Nat.le_trans (hlen' k) (Nat.add_le_add_right (hsl k) 1), A, S, hN, hE⟩
        · -- .bool ((x.d : Int) == 2) is false
          simp only [beq_eq_false_iff_ne, ne_eq] at hc67
          refine wp_seq_k fun K16 hK16 => ?_
          refine region_seq ?_  -- region 15
          refine L_op A rfl (by decide) rfl (y_eql (A.get (s := 37) rfl) rfl rfl fun ac A => ?_)
          refine L_op A rfl (by decide) rfl (y_assign (A.get (s := 78) rfl) fun ac A => ?_)
          replace A := A.keep [(2, .slice (some va) l.length vc), (8, .pointer (some ⟨p, 0, none⟩)), (10, .map (some b1)), (11, .int .i64 (((i : Nat) : Int))), (12, .pointer (some ⟨b2, 0, none⟩)), (29, .bool true), (37, .int .i64 x.d), (38, .bool ((x.d : Int) == 0)), (67, .bool ((x.d : Int) == 2)), (77, .bool ((x.d : Int) == 3))] ⟨rfl, rfl, rfl, rfl, rfl, rfl, rfl, rfl, rfl, rfl, trivial⟩
          refine hK16 _ _ ?_
          refine wp_cond_split (A.get rfl) (fun hc77 => ?_) (fun hc77 => ?_)
          · -- .bool ((x.d : Int) == 3) is true
            simp only [beq_iff_eq] at hc77
            refine region_seq ?_  -- region 16
            refine L_op A rfl (by decide) rfl (y_move (A.get (s := 8) rfl) fun ac A => ?_)
            refine L_op A rfl (by decide) rfl (y_fieldAddr (off := 1) (j := 1) (by kernel_rfl) (A.get (s := 12) rfl) (by first | rfl | omega) fun ac A => ?_)
            refine L_op A rfl (by decide) rfl (y_load (by kernel_rfl) (A.get (s := 80) rfl) ((cell_of (S.get 0 rfl) _).trans rfl) fun ac A => ?_)
            refine L_op A rfl (by decide) rfl (y_fieldAddr (off := 2) (j := 2) (by kernel_rfl) (A.get (s := 12) rfl) (by first | rfl | omega) fun ac A => ?_)
            replace A := A.keep [(2, .slice (some va) l.length vc), (8, .pointer (some ⟨p, 0, none⟩)), (10, .map (some b1)), (11, .int .i64 (((i : Nat) : Int))), (12, .pointer (some ⟨b2, 0, none⟩)), (29, .bool true), (37, .int .i64 x.d), (38, .bool ((x.d : Int) == 0)), (67, .bool ((x.d : Int) == 2)), (77, .bool ((x.d : Int) == 3)), (79, .pointer (some ⟨p, 0, none⟩)), (81, .int .i64 x.f), (82, .pointer (some ⟨b2, 2, none⟩))] ⟨rfl, rfl, rfl, rfl, rfl, rfl, rfl, rfl, rfl, rfl, rfl, rfl, rfl, trivial⟩
            refine L_op A rfl (by decide) rfl (y_load (by kernel_rfl) (A.get (s := 82) rfl) ((cell_of (S.get 0 rfl) _).trans rfl) fun ac A => ?_)
            refine L_op A rfl (by decide) rfl (y_fieldAddr (off := 3) (j := 3) (by kernel_rfl) (A.get (s := 12) rfl) (by first | rfl | omega) fun ac A => ?_)
            refine L_op A rfl (by decide) rfl (y_load (by kernel_rfl) (A.get (s := 84) rfl) ((cell_of (S.get 0 rfl) _).trans rfl) fun ac A => ?_)
            replace S : St _ _ _ (Hn ++ ([(b2, .cells #[.int .i64 x.d, .int .i64 x.f, .int .i64 x.t, .int .i64 x.i, .int .i64 x.b, .slice ba x.bs.length bc] 57 (0, 0)), (b1, oq)] ++ (seH es))) := S.perm (by classical rw [List.perm_iff_count]; intro x; simp only [List.count_append, List.count_cons, List.count_nil] <;> omega)
            refine L_op A rfl (by decide) rfl (y_call4 (by kernel_rfl) rfl (A.get (s := 79) rfl) (A.get (s := 81) rfl) (A.get (s := 83) rfl) (A.get (s := 85) rfl) (callW (drop_ok (i := x.i) hN S.app_left.nd S.app_left.holds okf okt) fun v w Hn1 s hf ac A => ?_))
            replace S : St _ _ _ (Hn1 ++ ([(b2, .cells #[.int .i64 x.d, .int .i64 x.f, .int .i64 x.t, .int .i64 x.i, .int .i64 x.b, .slice ba x.bs.length bc] 57 (0, 0)), (b1, oq)] ++ (seH es))) := St.call (H := Hn) (R := ([(b2, .cells #[.int .i64 x.d, .int .i64 x.f, .int .i64 x.t, .int .i64 x.i, .int .i64 x.b, .slice ba x.bs.length bc] 57 (0, 0)), (b1, oq)] ++ (seH es))) S rfl s
            obtain ⟨rfl, hN⟩ := hf
            replace S : St _ _ _ ([(b2, .cells #[.int .i64 x.d, .int .i64 x.f, .int .i64 x.t, .int .i64 x.i, .int .i64 x.b, .slice ba x.bs.length bc] 57 (0, 0)), (b1, oq)] ++ (Hn1 ++ (seH es))) := S.perm (by classical rw [List.perm_iff_count]; intro x; simp only [List.count_append, List.count_cons, List.count_nil] <;> omega)
            replace A := A.keep [(2, .slice (some va) l.length vc), (8, .pointer (some ⟨p, 0, none⟩)), (10, .map (some b1)), (11, .int .i64 (((i : Nat) : Int))), (12, .pointer (some ⟨b2, 0, none⟩)), (29, .bool true), (37, .int .i64 x.d), (38, .bool ((x.d : Int) == 0)), (67, .bool ((x.d : Int) == 2)), (77, .bool ((x.d : Int) == 3))] ⟨rfl, rfl, rfl, rfl, rfl, rfl, rfl, rfl, rfl, rfl, trivial⟩
            refine hK10 _ _ ?_
            refine region_seq ?_  -- region 7
            refine L_op A rfl (by decide) rfl (y_move (A.get (s := 11) rfl) fun ac A => ?_)
            refine L_op A rfl (by decide) rfl (y_add (A.get (s := 30) rfl) rfl (c := ((i + 1 : Nat) : Int)) (wrap64' hi (by omega)) fun ac A => ?_)
            refine L_op A rfl (by decide) rfl (y_assign (A.get (s := 31) rfl) fun ac A => ?_)
            replace A := A.keep [(2, .slice (some va) l.length vc), (8, .pointer (some ⟨p, 0, none⟩)), (10, .map (some b1)), (11, .int .i64 (((i + 1 : Nat) : Int))), (12, .pointer (some ⟨b2, 0, none⟩)), (29, .bool true), (37, .int .i64 x.d), (38, .bool ((x.d : Int) == 0)), (67, .bool ((x.d : Int) == 2)), (77, .bool ((x.d : Int) == 3))] ⟨rfl, rfl, rfl, rfl, rfl, rfl, rfl, rfl, rfl, rfl, trivial⟩
            replace A := A.keep [(2, .slice (some va) l.length vc), (8, .pointer (some ⟨p, 0, none⟩)), (10, .map (some b1)), (11, .int .i64 (((i + 1 : Nat) : Int)))] ⟨rfl, rfl, rfl, rfl, trivial⟩
            replace S : St _ _ _ ([(b1, oq)] ++ (Hn1 ++ (seH es))) := St.app_left (K := [(b2, .cells #[.int .i64 x.d, .int .i64 x.f, .int .i64 x.t, .int .i64 x.i, .int .i64 x.b, .slice ba x.bs.length bc] 57 (0, 0))]) (S.perm (by classical rw [List.perm_iff_count]; intro x; simp only [List.count_append, List.count_cons, List.count_nil] <;> omega))
            have hstep : playStep (m, sn) x = ((m.take x.f x.t x.i).2.2, sn) := by simp [playStep, hc77]
            rw [hstep] at hnext hord' hlen'
            exact ⟨kk - 1, by omega, i + 1, _, _, _, _, _, by omega, hnext, hord'.trans hmo, fun k => Nat.le_trans (hlen' k) (Nat.add_le_add_right (hsl k) 1), A, S, hN, hE⟩
          · -- .bool ((x.d : Int) == 3) is false
            simp only [beq_eq_false_iff_ne, ne_eq] at hc77
            refine wp_seq_k fun K17 hK17 => ?_
            refine region_seq ?_  -- region 17
            refine L_op A rfl (by decide) rfl (y_eql (A.get (s := 37) rfl) rfl rfl fun ac A => ?_)
            refine L_op A rfl (by decide) rfl (y_assign (A.get (s := 88) rfl) fun ac A => ?_)
            replace A := A.keep [(2, .slice (some va) l.length vc), (8, .pointer (some ⟨p, 0, none⟩)), (10, .map (some b1)), (11, .int .i64 (((i : Nat) : Int))), (12, .pointer (some ⟨b2, 0, none⟩)), (29, .bool true), (37, .int .i64 x.d), (38, .bool ((x.d : Int) == 0)), (67, .bool ((x.d : Int) == 2)), (77, .bool ((x.d : Int) == 3)), (87, .bool ((x.d : Int) == 4))] ⟨rfl, rfl, rfl, rfl, rfl, rfl, rfl, rfl, rfl, rfl, rfl, trivial⟩
            refine hK17 _ _ ?_
            refine wp_cond_split (A.get rfl) (fun hc87 => ?_) (fun hc87 => ?_)
            · -- .bool ((x.d : Int) == 4) is true
              simp only [beq_iff_eq] at hc87
              refine region_seq ?_  -- region 18
              refine L_op A rfl (by decide) rfl (y_move (A.get (s := 8) rfl) fun ac A => ?_)
              refine L_op A rfl (by decide) rfl (y_fieldAddr (off := 1) (j := 1) (by kernel_rfl) (A.get (s := 12) rfl) (by first | rfl | omega) fun ac A => ?_)
              refine L_op A rfl (by decide) rfl (y_load (by kernel_rfl) (A.get (s := 90) rfl) ((cell_of (S.get 0 rfl) _).trans rfl) fun ac A => ?_)
              refine L_op A rfl (by decide) rfl (y_fieldAddr (off := 2) (j := 2) (by kernel_rfl) (A.get (s := 12) rfl) (by first | rfl | omega) fun ac A => ?_)
              replace A := A.keep [(2, .slice (some va) l.length vc), (8, .pointer (some ⟨p, 0, none⟩)), (10, .map (some b1)), (11, .int .i64 (((i : Nat) : Int))), (12, .pointer (some ⟨b2, 0, none⟩)), (29, .bool true), (37, .int .i64 x.d), (38, .bool ((x.d : Int) == 0)), (67, .bool ((x.d : Int) == 2)), (77, .bool ((x.d : Int) == 3)), (87, .bool ((x.d : Int) == 4)), (89, .pointer (some ⟨p, 0, none⟩)), (91, .int .i64 x.f), (92, .pointer (some ⟨b2, 2, none⟩))] ⟨rfl, rfl, rfl, rfl, rfl, rfl, rfl, rfl, rfl, rfl, rfl, rfl, rfl, rfl, trivial⟩
              refine L_op A rfl (by decide) rfl (y_load (by kernel_rfl) (A.get (s := 92) rfl) ((cell_of (S.get 0 rfl) _).trans rfl) fun ac A => ?_)
              refine L_op A rfl (by decide) rfl (y_fieldAddr (off := 3) (j := 3) (by kernel_rfl) (A.get (s := 12) rfl) (by first | rfl | omega) fun ac A => ?_)
              refine L_op A rfl (by decide) rfl (y_load (by kernel_rfl) (A.get (s := 94) rfl) ((cell_of (S.get 0 rfl) _).trans rfl) fun ac A => ?_)
              replace S : St _ _ _ (Hn ++ ([(b2, .cells #[.int .i64 x.d, .int .i64 x.f, .int .i64 x.t, .int .i64 x.i, .int .i64 x.b, .slice ba x.bs.length bc] 57 (0, 0)), (b1, oq)] ++ (seH es))) := S.perm (by classical rw [List.perm_iff_count]; intro x; simp only [List.count_append, List.count_cons, List.count_nil] <;> omega)
              refine L_op A rfl (by decide) rfl (y_call4 (by kernel_rfl) rfl (A.get (s := 89) rfl) (A.get (s := 91) rfl) (A.get (s := 93) rfl) (A.get (s := 95) rfl) (callW (double_ok (i := x.i) hN S.app_left.nd S.app_left.holds okf okt) fun v w Hn1 s hf ac A => ?_))
              replace S : St _ _ _ (Hn1 ++ ([(b2, .cells #[.int .i64 x.d, .int .i64 x.f, .int .i64 x.t, .int .i64 x.i, .int .i64 x.b, .slice ba x.bs.length bc] 57 (0, 0)), (b1, oq)] ++ (seH es))) := St.call (H := Hn) (R := ([(b2, .cells #[.int .i64 x.d, .int .i64 x.f, .int .i64 x.t, .int .i64 x.i, .int .i64 x.b, .slice ba x.bs.length bc] 57 (0, 0)), (b1, oq)] ++ (seH es))) S rfl s
              obtain ⟨rfl, hN⟩ := hf
              replace S : St _ _ _ ([(b2, .cells #[.int .i64 x.d, .int .i64 x.f, .int .i64 x.t, .int .i64 x.i, .int .i64 x.b, .slice ba x.bs.length bc] 57 (0, 0)), (b1, oq)] ++ (Hn1 ++ (seH es))) := S.perm (by classical rw [List.perm_iff_count]; intro x; simp only [List.count_append, List.count_cons, List.count_nil] <;> omega)
              replace A := A.keep [(2, .slice (some va) l.length vc), (8, .pointer (some ⟨p, 0, none⟩)), (10, .map (some b1)), (11, .int .i64 (((i : Nat) : Int))), (12, .pointer (some ⟨b2, 0, none⟩)), (29, .bool true), (37, .int .i64 x.d), (38, .bool ((x.d : Int) == 0)), (67, .bool ((x.d : Int) == 2)), (77, .bool ((x.d : Int) == 3)), (87, .bool ((x.d : Int) == 4))] ⟨rfl, rfl, rfl, rfl, rfl, rfl, rfl, rfl, rfl, rfl, rfl, trivial⟩
              refine hK10 _ _ ?_
              refine region_seq ?_  -- region 7
              refine L_op A rfl (by decide) rfl (y_move (A.get (s := 11) rfl) fun ac A => ?_)
              refine L_op A rfl (by decide) rfl (y_add (A.get (s := 30) rfl) rfl (c := ((i + 1 : Nat) : Int)) (wrap64' hi (by omega)) fun ac A => ?_)
              refine L_op A rfl (by decide) rfl (y_assign (A.get (s := 31) rfl) fun ac A => ?_)
              replace A := A.keep [(2, .slice (some va) l.length vc), (8, .pointer (some ⟨p, 0, none⟩)), (10, .map (some b1)), (11, .int .i64 (((i + 1 : Nat) : Int))), (12, .pointer (some ⟨b2, 0, none⟩)), (29, .bool true), (37, .int .i64 x.d), (38, .bool ((x.d : Int) == 0)), (67, .bool ((x.d : Int) == 2)), (77, .bool ((x.d : Int) == 3)), (87, .bool ((x.d : Int) == 4))] ⟨rfl, rfl, rfl, rfl, rfl, rfl, rfl, rfl, rfl, rfl, rfl, trivial⟩
              replace A := A.keep [(2, .slice (some va) l.length vc), (8, .pointer (some ⟨p, 0, none⟩)), (10, .map (some b1)), (11, .int .i64 (((i + 1 : Nat) : Int)))] ⟨rfl, rfl, rfl, rfl, trivial⟩
              replace S : St _ _ _ ([(b1, oq)] ++ (Hn1 ++ (seH es))) := St.app_left (K := [(b2, .cells #[.int .i64 x.d, .int .i64 x.f, .int .i64 x.t, .int .i64 x.i, .int .i64 x.b, .slice ba x.bs.length bc] 57 (0, 0))]) (S.perm (by classical rw [List.perm_iff_count]; intro x; simp only [List.count_append, List.count_cons, List.count_nil] <;> omega))
              have hstep : playStep (m, sn) x = ((m.double x.f x.t x.i).2, sn) := by simp [playStep, hc87]
              rw [hstep] at hnext hord' hlen'
              exact ⟨kk - 1, by omega, i + 1, _, _, _, _, _, by omega, hnext, hord'.trans hmo, fun k => Nat.le_trans (hlen' k) (Nat.add_le_add_right (hsl k) 1), A, S, hN, hE⟩
            · -- .bool ((x.d : Int) == 4) is false
              simp only [beq_eq_false_iff_ne, ne_eq] at hc87
              refine wp_seq_k fun K18 hK18 => ?_
              refine region_seq ?_  -- region 19
              refine L_op A rfl (by decide) rfl (y_eql (A.get (s := 37) rfl) rfl rfl fun ac A => ?_)
              refine L_op A rfl (by decide) rfl (y_assign (A.get (s := 98) rfl) fun ac A => ?_)
              replace A := A.keep [(2, .slice (some va) l.length vc), (8, .pointer (some ⟨p, 0, none⟩)), (10, .map (some b1)), (11, .int .i64 (((i : Nat) : Int))), (12, .pointer (some ⟨b2, 0, none⟩)), (29, .bool true), (37, .int .i64 x.d), (38, .bool ((x.d : Int) == 0)), (67, .bool ((x.d : Int) == 2)), (77, .bool ((x.d : Int) == 3)), (87, .bool ((x.d : Int) == 4)), (97, .bool ((x.d : Int) == 5))] ⟨rfl, rfl, rfl, rfl, rfl, rfl, rfl, rfl, rfl, rfl, rfl, rfl, trivial⟩
              refine hK18 _ _ ?_
              refine wp_cond_split (A.get rfl) (fun hc97 => ?_) (fun hc97 => ?_)
              · -- .bool ((x.d : Int) == 5) is true
                simp only [beq_iff_eq] at hc97
                refine region_seq ?_  -- region 20
                refine L_op A rfl (by decide) rfl (y_move (A.get (s := 8) rfl) fun ac A => ?_)
                refine L_op A rfl (by decide) rfl (y_fieldAddr (off := 1) (j := 1) (by kernel_rfl) (A.get (s := 12) rfl) (by first | rfl | omega) fun ac A => ?_)
                refine L_op A rfl (by decide) rfl (y_load (by kernel_rfl) (A.get (s := 100) rfl) ((cell_of (S.get 0 rfl) _).trans rfl) fun ac A => ?_)
                refine L_op A rfl (by decide) rfl (y_fieldAddr (off := 2) (j := 2) (by kernel_rfl) (A.get (s := 12) rfl) (by first | rfl | omega) fun ac A => ?_)
                replace A := A.keep [(2, .slice (some va) l.length vc), (8, .pointer (some ⟨p, 0, none⟩)), (10, .map (some b1)), (11, .int .i64 (((i : Nat) : Int))), (12, .pointer (some ⟨b2, 0, none⟩)), (29, .bool true), (37, .int .i64 x.d), (38, .bool ((x.d : Int) == 0)), (67, .bool ((x.d : Int) == 2)), (77, .bool ((x.d : Int) == 3)), (87, .bool ((x.d : Int) == 4)), (97, .bool ((x.d : Int) == 5)), (99, .pointer (some ⟨p, 0, none⟩)), (101, .int .i64 x.f), (102, .pointer (some ⟨b2, 2, none⟩))] ⟨rfl, rfl, rfl, rfl, rfl, rfl, rfl, rfl, rfl, rfl, rfl, rfl, rfl, rfl, rfl, trivial⟩
                refine L_op A rfl (by decide) rfl (y_load (by kernel_rfl) (A.get (s := 102) rfl) ((cell_of (S.get 0 rfl) _).trans rfl) fun ac A => ?_)
                refine L_op A rfl (by decide) rfl (y_fieldAddr (off := 3) (j := 3) (by kernel_rfl) (A.get (s := 12) rfl) (by first | rfl | omega) fun ac A => ?_)
                refine L_op A rfl (by decide) rfl (y_load (by kernel_rfl) (A.get (s := 104) rfl) ((cell_of (S.get 0 rfl) _).trans rfl) fun ac A => ?_)
                refine L_op A rfl (by decide) rfl (y_fieldAddr (off := 4) (j := 4) (by kernel_rfl) (A.get (s := 12) rfl) (by first | rfl | omega) fun ac A => ?_)
                replace A := A.keep [(2, .slice (some va) l.length vc), (8, .pointer (some ⟨p, 0, none⟩)), (10, .map (some b1)), (11, .int .i64 (((i : Nat) : Int))), (12, .pointer (some ⟨b2, 0, none⟩)), (29, .bool true), (37, .int .i64 x.d), (38, .bool ((x.d : Int) == 0)), (67, .bool ((x.d : Int) == 2)), (77, .bool ((x.d : Int) == 3)), (87, .bool ((x.d : Int) == 4)), (97, .bool ((x.d : Int) == 5)), (99, .pointer (some ⟨p, 0, none⟩)), (101, .int .i64 x.f), (103, .int .i64 x.t), (105, .int .i64 x.i), (106, .pointer (some ⟨b2, 4, none⟩))] ⟨rfl, rfl, rfl, rfl, rfl, rfl, rfl, rfl, rfl, rfl, rfl, rfl, rfl, rfl, rfl, rfl, rfl, trivial⟩
                refine L_op A rfl (by decide) rfl (y_load (by kernel_rfl) (A.get (s := 106) rfl) ((cell_of (S.get 0 rfl) _).trans rfl) fun ac A => ?_)
                replace S : St _ _ _ (Hn ++ ([(b2, .cells #[.int .i64 x.d, .int .i64 x.f, .int .i64 x.t, .int .i64 x.i, .int .i64 x.b, .slice ba x.bs.length bc] 57 (0, 0)), (b1, oq)] ++ (seH es))) := S.perm (by classical rw [List.perm_iff_count]; intro x; simp only [List.count_append, List.count_cons, List.count_nil] <;> omega)
                refine L_op A rfl (by decide) rfl (y_call5 (by kernel_rfl) rfl (A.get (s := 99) rfl) (A.get (s := 101) rfl) (A.get (s := 103) rfl) (A.get (s := 105) rfl) (A.get (s := 107) rfl) (callW (spoil_ok (i := x.i) hN S.app_left.nd S.app_left.holds okf okt okb) fun v w Hn1 s hf ac A => ?_))
                replace S : St _ _ _ (Hn1 ++ ([(b2, .cells #[.int .i64 x.d, .int .i64 x.f, .int .i64 x.t, .int .i64 x.i, .int .i64 x.b, .slice ba x.bs.length bc] 57 (0, 0)), (b1, oq)] ++ (seH es))) := St.call (H := Hn) (R := ([(b2, .cells #[.int .i64 x.d, .int .i64 x.f, .int .i64 x.t, .int .i64 x.i, .int .i64 x.b, .slice ba x.bs.length bc] 57 (0, 0)), (b1, oq)] ++ (seH es))) S rfl s
                obtain ⟨rfl, hN⟩ := hf
                replace S : St _ _ _ ([(b2, .cells #[.int .i64 x.d, .int .i64 x.f, .int .i64 x.t, .int .i64 x.i, .int .i64 x.b, .slice ba x.bs.length bc] 57 (0, 0)), (b1, oq)] ++ (Hn1 ++ (seH es))) := S.perm (by classical rw [List.perm_iff_count]; intro x; simp only [List.count_append, List.count_cons, List.count_nil] <;> omega)
                replace A := A.keep [(2, .slice (some va) l.length vc), (8, .pointer (some ⟨p, 0, none⟩)), (10, .map (some b1)), (11, .int .i64 (((i : Nat) : Int))), (12, .pointer (some ⟨b2, 0, none⟩)), (29, .bool true), (37, .int .i64 x.d), (38, .bool ((x.d : Int) == 0)), (67, .bool ((x.d : Int) == 2)), (77, .bool ((x.d : Int) == 3)), (87, .bool ((x.d : Int) == 4)), (97, .bool ((x.d : Int) == 5))] ⟨rfl, rfl, rfl, rfl, rfl, rfl, rfl, rfl, rfl, rfl, rfl, rfl, trivial⟩
                refine hK10 _ _ ?_
                refine region_seq ?_  -- region 7
                refine L_op A rfl (by decide) rfl (y_move (A.get (s := 11) rfl) fun ac A => ?_)
                refine L_op A rfl (by decide) rfl (y_add (A.get (s := 30) rfl) rfl (c := ((i + 1 : Nat) : Int)) (wrap64' hi (by omega)) fun ac A => ?_)
                refine L_op A rfl (by decide) rfl (y_assign (A.get (s := 31) rfl) fun ac A => ?_)
                replace A := A.keep [(2, .slice (some va) l.length vc), (8, .pointer (some ⟨p, 0, none⟩)), (10, .map (some b1)), (11, .int .i64 (((i + 1 : Nat) : Int))), (12, .pointer (some ⟨b2, 0, none⟩)), (29, .bool true), (37, .int .i64 x.d), (38, .bool ((x.d : Int) == 0)), (67, .bool ((x.d : Int) == 2)), (77, .bool ((x.d : Int) == 3)), (87, .bool ((x.d : Int) == 4)), (97, .bool ((x.d : Int) == 5))] ⟨rfl, rfl, rfl, rfl, rfl, rfl, rfl, rfl, rfl, rfl, rfl, rfl, trivial⟩
                replace A := A.keep [(2, .slice (some va) l.length vc), (8, .pointer (some ⟨p, 0, none⟩)), (10, .map (some b1)), (11, .int .i64 (((i + 1 : Nat) : Int)))] ⟨rfl, rfl, rfl, rfl, trivial⟩
                replace S : St _ _ _ ([(b1, oq)] ++ (Hn1 ++ (seH es))) := St.app_left (K := [(b2, .cells #[.int .i64 x.d, .int .i64 x.f, .int .i64 x.t, .int .i64 x.i, .int .i64 x.b, .slice ba x.bs.length bc] 57 (0, 0))]) (S.perm (by classical rw [List.perm_iff_count]; intro x; simp only [List.count_append, List.count_cons, List.count_nil] <;> omega))
                have hstep : playStep (m, sn) x = ((m.spoil x.f x.t x.i x.b).2, sn) := by simp [playStep, hc97]
                rw [hstep] at hnext hord' hlen'
                exact ⟨kk - 1, by omega, i + 1, _, _, _, _, _, by omega, hnext, hord'.trans hmo, fun k => Nat.le_trans (hlen' k) (Nat.add_le_add_right (hsl k) 1), A, S, hN, hE⟩
              · -- .bool ((x.d : Int) == 5) is false
                simp only [beq_eq_false_iff_ne, ne_eq] at hc97
                refine wp_seq_k fun K19 hK19 => ?_
                refine region_seq ?_  -- region 21
                refine L_op A rfl (by decide) rfl (y_eql (A.get (s := 37) rfl) rfl rfl fun ac A => ?_)
                refine L_op A rfl (by decide) rfl (y_assign (A.get (s := 110) rfl) fun ac A => ?_)
                replace A := A.keep [(2, .slice (some va) l.length vc), (8, .pointer (some ⟨p, 0, none⟩)), (10, .map (some b1)), (11, .int .i64 (((i : Nat) : Int))), (12, .pointer (some ⟨b2, 0, none⟩)), (29, .bool true), (37, .int .i64 x.d), (38, .bool ((x.d : Int) == 0)), (67, .bool ((x.d : Int) == 2)), (77, .bool ((x.d : Int) == 3)), (87, .bool ((x.d : Int) == 4)), (97, .bool ((x.d : Int) == 5)), (109, .bool ((x.d : Int) == 6))] ⟨rfl, rfl, rfl, rfl, rfl, rfl, rfl, rfl, rfl, rfl, rfl, rfl, rfl, trivial⟩
                refine hK19 _ _ ?_
                refine wp_cond_split (A.get rfl) (fun hc109 => ?_) (fun hc109 => ?_)
                · -- .bool ((x.d : Int) == 6) is true
                  simp only [beq_iff_eq] at hc109
                  refine region_seq ?_  -- region 22
                  refine L_op A rfl (by decide) rfl (y_move (A.get (s := 8) rfl) fun ac A => ?_)
                  refine L_op A rfl (by decide) rfl (y_fieldAddr (off := 1) (j := 1) (by kernel_rfl) (A.get (s := 12) rfl) (by first | rfl | omega) fun ac A => ?_)
                  refine L_op A rfl (by decide) rfl (y_load (by kernel_rfl) (A.get (s := 112) rfl) ((cell_of (S.get 0 rfl) _).trans rfl) fun ac A => ?_)
                  refine L_op A rfl (by decide) rfl (y_fieldAddr (off := 2) (j := 2) (by kernel_rfl) (A.get (s := 12) rfl) (by first | rfl | omega) fun ac A => ?_)
                  refine L_op A rfl (by decide) rfl (y_load (by kernel_rfl) (A.get (s := 114) rfl) ((cell_of (S.get 0 rfl) _).trans rfl) fun ac A => ?_)
                  replace S : St _ _ _ (Hn ++ ([(b2, .cells #[.int .i64 x.d, .int .i64 x.f, .int .i64 x.t, .int .i64 x.i, .int .i64 x.b, .slice ba x.bs.length bc] 57 (0, 0)), (b1, oq)] ++ (seH es))) := S.perm (by classical rw [List.perm_iff_count]; intro x; simp only [List.count_append, List.count_cons, List.count_nil] <;> omega)
                  refine L_op A rfl (by decide) rfl (y_call3 (by kernel_rfl) rfl (A.get (s := 111) rfl) (A.get (s := 113) rfl) (A.get (s := 115) rfl) (callW (cut_ok hN S.app_left.nd S.app_left.holds okf okt) fun v w Hn1 s hf ac A => ?_))
                  replace S : St _ _ _ (Hn1 ++ ([(b2, .cells #[.int .i64 x.d, .int .i64 x.f, .int .i64 x.t, .int .i64 x.i, .int .i64 x.b, .slice ba x.bs.length bc] 57 (0, 0)), (b1, oq)] ++ (seH es))) := St.call (H := Hn) (R := ([(b2, .cells #[.int .i64 x.d, .int .i64 x.f, .int .i64 x.t, .int .i64 x.i, .int .i64 x.b, .slice ba x.bs.length bc] 57 (0, 0)), (b1, oq)] ++ (seH es))) S rfl s
                  obtain ⟨rfl, hN⟩ := hf
                  replace S : St _ _ _ ([(b2, .cells #[.int .i64 x.d, .int .i64 x.f, .int .i64 x.t, .int .i64 x.i, .int .i64 x.b, .slice ba x.bs.length bc] 57 (0, 0)), (b1, oq)] ++ (Hn1 ++ (seH es))) := S.perm (by classical rw [List.perm_iff_count]; intro x; simp only [List.count_append, List.count_cons, List.count_nil] <;> omega)
                  replace A := A.keep [(2, .slice (some va) l.length vc), (8, .pointer (some ⟨p, 0, none⟩)), (10, .map (some b1)), (11, .int .i64 (((i : Nat) : Int))), (12, .pointer (some ⟨b2, 0, none⟩)), (29, .bool true), (37, .int .i64 x.d), (38, .bool ((x.d : Int) == 0)), (67, .bool ((x.d : Int) == 2)), (77, .bool ((x.d : Int) == 3)), (87, .bool ((x.d : Int) == 4)), (97, .bool ((x.d : Int) == 5)), (109, .bool ((x.d : Int) == 6))] ⟨rfl, rfl, rfl, rfl, rfl, rfl, rfl, rfl, rfl, rfl, rfl, rfl, rfl, trivial⟩
                  refine hK10 _ _ ?_
                  refine region_seq ?_  -- region 7
                  refine L_op A rfl (by decide) rfl (y_move (A.get (s := 11) rfl) fun ac A => ?_)
                  refine L_op A rfl (by decide) rfl (y_add (A.get (s := 30) rfl) rfl (c := ((i + 1 : Nat) : Int)) (wrap64' hi (by omega)) fun ac A => ?_)
                  refine L_op A rfl (by decide) rfl (y_assign (A.get (s := 31) rfl) fun ac A => ?_)
                  replace A := A.keep [(2, .slice (some va) l.length vc), (8, .pointer (some ⟨p, 0, none⟩)), (10, .map (some b1)), (11, .int .i64 (((i + 1 : Nat) : Int))), (12, .pointer (some ⟨b2, 0, none⟩)), (29, .bool true), (37, .int .i64 x.d), (38, .bool ((x.d : Int) == 0)), (67, .bool ((x.d : Int) == 2)), (77, .bool ((x.d : Int) == 3)), (87, .bool ((x.d : Int) == 4)), (97, .bool ((x.d : Int) == 5)), (109, .bool ((x.d : Int) == 6))] ⟨rfl, rfl, rfl, rfl, rfl, rfl, rfl, rfl, rfl, rfl, rfl, rfl, rfl, trivial⟩
                  replace A := A.keep [(2, .slice (some va) l.length vc), (8, .pointer (some ⟨p, 0, none⟩)), (10, .map (some b1)), (11, .int .i64 (((i + 1 : Nat) : Int)))] ⟨rfl, rfl, rfl, rfl, trivial⟩
                  replace S : St _ _ _ ([(b1, oq)] ++ (Hn1 ++ (seH es))) := St.app_left (K := [(b2, .cells #[.int .i64 x.d, .int .i64 x.f, .int .i64 x.t, .int .i64 x.i, .int .i64 x.b, .slice ba x.bs.length bc] 57 (0, 0))]) (S.perm (by classical rw [List.perm_iff_count]; intro x; simp only [List.count_append, List.count_cons, List.count_nil] <;> omega))
                  have hstep : playStep (m, sn) x = ((m.cut x.f x.t).2, sn) := by simp [playStep, hc109]
                  rw [hstep] at hnext hord' hlen'
                  exact ⟨kk - 1, by omega, i + 1, _, _, _, _, _, by omega, hnext, hord'.trans hmo, fun k => Nat.le_trans (hlen' k) (Nat.add_le_add_right (hsl k) 1), A, S, hN, hE⟩
                · -- .bool ((x.d : Int) == 6) is false
                  simp only [beq_eq_false_iff_ne, ne_eq] at hc109
                  refine wp_seq_k fun K20 hK20 => ?_
                  refine region_seq ?_  -- region 23
                  refine L_op A rfl (by decide) rfl (y_eql (A.get (s := 37) rfl) rfl rfl fun ac A => ?_)
                  refine L_op A rfl (by decide) rfl (y_assign (A.get (s := 118) rfl) fun ac A => ?_)
                  replace A := A.keep [(2, .slice (some va) l.length vc), (8, .pointer (some ⟨p, 0, none⟩)), (10, .map (some b1)), (11, .int .i64 (((i : Nat) : Int))), (12, .pointer (some ⟨b2, 0, none⟩)), (29, .bool true), (37, .int .i64 x.d), (38, .bool ((x.d : Int) == 0)), (67, .bool ((x.d : Int) == 2)), (77, .bool ((x.d : Int) == 3)), (87, .bool ((x.d : Int) == 4)), (97, .bool ((x.d : Int) == 5)), (109, .bool ((x.d : Int) == 6)), (117, .bool ((x.d : Int) == 7))] ⟨rfl, rfl, rfl, rfl, rfl, rfl, rfl, rfl, rfl, rfl, rfl, rfl, rfl, rfl, trivial⟩
                  refine hK20 _ _ ?_
                  refine wp_cond_split (A.get rfl) (fun hc117 => ?_) (fun hc117 => ?_)
                  · -- .bool ((x.d : Int) == 7) is true
                    simp only [beq_iff_eq] at hc117
                    refine region_seq ?_  -- region 24
                    refine L_op A rfl (by decide) rfl (y_move (A.get (s := 8) rfl) fun ac A => ?_)
                    refine L_op A rfl (by decide) rfl (y_fieldAddr (off := 1) (j := 1) (by kernel_rfl) (A.get (s := 12) rfl) (by first | rfl | omega) fun ac A => ?_)
                    refine L_op A rfl (by decide) rfl (y_load (by kernel_rfl) (A.get (s := 120) rfl) ((cell_of (S.get 0 rfl) _).trans rfl) fun ac A => ?_)
                    refine L_op A rfl (by decide) rfl (y_fieldAddr (off := 2) (j := 2) (by kernel_rfl) (A.get (s := 12) rfl) (by first | rfl | omega) fun ac A => ?_)
                    refine L_op A rfl (by decide) rfl (y_load (by kernel_rfl) (A.get (s := 122) rfl) ((cell_of (S.get 0 rfl) _).trans rfl) fun ac A => ?_)
                    replace S : St _ _ _ (Hn ++ ([(b2, .cells #[.int .i64 x.d, .int .i64 x.f, .int .i64 x.t, .int .i64 x.i, .int .i64 x.b, .slice ba x.bs.length bc] 57 (0, 0)), (b1, oq)] ++ (seH es))) := S.perm (by classical rw [List.perm_iff_count]; intro x; simp only [List.count_append, List.count_cons, List.count_nil] <;> omega)
                    refine L_op A rfl (by decide) rfl (y_call3 (by kernel_rfl) rfl (A.get (s := 119) rfl) (A.get (s := 121) rfl) (A.get (s := 123) rfl) (callW (heal_ok hN S.app_left.nd S.app_left.holds okf okt) fun v w Hn1 s hf ac A => ?_))
                    replace S : St _ _ _ (Hn1 ++ ([(b2, .cells #[.int .i64 x.d, .int .i64 x.f, .int .i64 x.t, .int .i64 x.i, .int .i64 x.b, .slice ba x.bs.length bc] 57 (0, 0)), (b1, oq)] ++ (seH es))) := St.call (H := Hn) (R := ([(b2, .cells #[.int .i64 x.d, .int .i64 x.f, .int .i64 x.t, .int .i64 x.i, .int .i64 x.b, .slice ba x.bs.length bc] 57 (0, 0)), (b1, oq)] ++ (seH es))) S rfl s
                    obtain ⟨rfl, hN⟩ := hf
                    replace S : St _ _ _ ([(b2, .cells #[.int .i64 x.d, .int .i64 x.f, .int .i64 x.t, .int .i64 x.i, .int .i64 x.b, .slice ba x.bs.length bc] 57 (0, 0)), (b1, oq)] ++ (Hn1 ++ (seH es))) := S.perm (by classical rw [List.perm_iff_count]; intro x; simp only [List.count_append, List.count_cons, List.count_nil] <;> omega)
                    replace A := A.keep [(2, .slice (some va) l.length vc), (8, .pointer (some ⟨p, 0, none⟩)), (10, .map (some b1)), (11, .int .i64 (((i : Nat) : Int))), (12, .pointer (some ⟨b2, 0, none⟩)), (29, .bool true), (37, .int .i64 x.d), (38, .bool ((x.d : Int) == 0)), (67, .bool ((x.d : Int) == 2)), (77, .bool ((x.d : Int) == 3)), (87, .bool ((x.d : Int) == 4)), (97, .bool ((x.d : Int) == 5)), (109, .bool ((x.d : Int) == 6)), (117, .bool ((x.d : Int) == 7))] ⟨rfl, rfl, rfl, rfl, rfl, rfl, rfl, rfl, rfl, rfl, rfl, rfl, rfl, rfl, trivial⟩
                    refine hK10 _ _ ?_
                    refine region_seq ?_  -- region 7
                    refine L_op A rfl (by decide) rfl (y_move (A.get (s := 11) rfl) fun ac A => ?_)
                    refine L_op A rfl (by decide) rfl (y_add (A.get (s := 30) rfl) rfl (c := ((i + 1 : Nat) : Int)) (wrap64' hi (by omega)) fun ac A => ?_)
                    refine L_op A rfl (by decide) rfl (y_assign (A.get (s := 31) rfl) fun ac A => ?_)
                    replace A := A.keep [(2, .slice (some va) l.length vc), (8, .pointer (some ⟨p, 0, none⟩)), (10, .map (some b1)), (11, .int .i64 (((i + 1 : Nat) : Int))), (12, .pointer (some ⟨b2, 0, none⟩)), (29, .bool true), (37, .int .i64 x.d), (38, .bool ((x.d : Int) == 0)), (67, .bool ((x.d : Int) == 2)), (77, .bool ((x.d : Int) == 3)), (87, .bool ((x.d : Int) == 4)), (97, .bool ((x.d : Int) == 5)), (109, .bool ((x.d : Int) == 6)), (117, .bool ((x.d : Int) == 7))] ⟨rfl, rfl, rfl, rfl, rfl, rfl, rfl, rfl, rfl, rfl, rfl, rfl, rfl, rfl, trivial⟩
                    replace A := A.keep [(2, .slice (some va) l.length vc), (8, .pointer (some ⟨p, 0, none⟩)), (10, .map (some b1)), (11, .int .i64 (((i + 1 : Nat) : Int)))] ⟨rfl, rfl, rfl, rfl, trivial⟩
                    replace S : St _ _ _ ([(b1, oq)] ++ (Hn1 ++ (seH es))) := St.app_left (K := [(b2, .cells #[.int .i64 x.d, .int .i64 x.f, .int .i64 x.t, .int .i64 x.i, .int .i64 x.b, .slice ba x.bs.length bc] 57 (0, 0))]) (S.perm (by classical rw [List.perm_iff_count]; intro x; simp only [List.count_append, List.count_cons, List.count_nil] <;> omega))
                    have hstep : playStep (m, sn) x = ((m.heal x.f x.t).2, sn) := by simp [playStep, hc117]
                    rw [hstep] at hnext hord' hlen'
                    exact ⟨kk - 1, by omega, i + 1, _, _, _, _, _, by omega, hnext, hord'.trans hmo, fun k => Nat.le_trans (hlen' k) (Nat.add_le_add_right (hsl k) 1), A, S, hN, hE⟩
                  · -- .bool ((x.d : Int) == 7) is false
                    simp only [beq_eq_false_iff_ne, ne_eq] at hc117
                    refine wp_seq_k fun K21 hK21 => ?_
                    refine region_seq ?_  -- region 25
                    refine L_op A rfl (by decide) rfl (y_eql (A.get (s := 37) rfl) rfl rfl fun ac A => ?_)
                    refine L_op A rfl (by decide) rfl (y_assign (A.get (s := 126) rfl) fun ac A => ?_)
                    replace A := A.keep [(2, .slice (some va) l.length vc), (8, .pointer (some ⟨p, 0, none⟩)), (10, .map (some b1)), (11, .int .i64 (((i : Nat) : Int))), (12, .pointer (some ⟨b2, 0, none⟩)), (29, .bool true), (37, .int .i64 x.d), (38, .bool ((x.d : Int) == 0)), (67, .bool ((x.d : Int) == 2)), (77, .bool ((x.d : Int) == 3)), (87, .bool ((x.d : Int) == 4)), (97, .bool ((x.d : Int) == 5)), (109, .bool ((x.d : Int) == 6)), (117, .bool ((x.d : Int) == 7)), (125, .bool ((x.d : Int) == 8))] ⟨rfl, rfl, rfl, rfl, rfl, rfl, rfl, rfl, rfl, rfl, rfl, rfl, rfl, rfl, rfl, trivial⟩
                    refine hK21 _ _ ?_
                    refine wp_cond_split (A.get rfl) (fun hc125 => ?_) (fun hc125 => ?_)
                    · -- .bool ((x.d : Int) == 8) is true
                      simp only [beq_iff_eq] at hc125
                      refine region_seq ?_  -- region 26
                      refine L_op A rfl (by decide) rfl (y_move (A.get (s := 8) rfl) fun ac A => ?_)
                      refine L_op A rfl (by decide) rfl (y_fieldAddr (off := 2) (j := 2) (by kernel_rfl) (A.get (s := 12) rfl) (by first | rfl | omega) fun ac A => ?_)
                      refine L_op A rfl (by decide) rfl (y_load (by kernel_rfl) (A.get (s := 128) rfl) ((cell_of (S.get 0 rfl) _).trans rfl) fun ac A => ?_)
                      replace S : St _ _ _ (Hn ++ ([(b2, .cells #[.int .i64 x.d, .int .i64 x.f, .int .i64 x.t, .int .i64 x.i, .int .i64 x.b, .slice ba x.bs.length bc] 57 (0, 0)), (b1, oq)] ++ (seH es))) := S.perm (by classical rw [List.perm_iff_count]; intro x; simp only [List.count_append, List.count_cons, List.count_nil] <;> omega)
                      refine L_op A rfl (by decide) rfl (y_call2 (by kernel_rfl) rfl (A.get (s := 127) rfl) (A.get (s := 129) rfl) (callW (empty_ok hN S.app_left.nd S.app_left.holds hordm) fun v w Hn1 s hf ac A => ?_))
                      replace S : St _ _ _ (Hn1 ++ ([(b2, .cells #[.int .i64 x.d, .int .i64 x.f, .int .i64 x.t, .int .i64 x.i, .int .i64 x.b, .slice ba x.bs.length bc] 57 (0, 0)), (b1, oq)] ++ (seH es))) := St.call (H := Hn) (R := ([(b2, .cells #[.int .i64 x.d, .int .i64 x.f, .int .i64 x.t, .int .i64 x.i, .int .i64 x.b, .slice ba x.bs.length bc] 57 (0, 0)), (b1, oq)] ++ (seH es))) S rfl s
                      obtain ⟨rfl, hN⟩ := hf
                      replace S : St _ _ _ ([(b2, .cells #[.int .i64 x.d, .int .i64 x.f, .int .i64 x.t, .int .i64 x.i, .int .i64 x.b, .slice ba x.bs.length bc] 57 (0, 0)), (b1, oq)] ++ (Hn1 ++ (seH es))) := S.perm (by classical rw [List.perm_iff_count]; intro x; simp only [List.count_append, List.count_cons, List.count_nil] <;> omega)
                      replace A := A.keep [(2, .slice (some va) l.length vc), (8, .pointer (some ⟨p, 0, none⟩)), (10, .map (some b1)), (11, .int .i64 (((i : Nat) : Int))), (12, .pointer (some ⟨b2, 0, none⟩)), (29, .bool true), (37, .int .i64 x.d), (38, .bool ((x.d : Int) == 0)), (67, .bool ((x.d : Int) == 2)), (77, .bool ((x.d : Int) == 3)), (87, .bool ((x.d : Int) == 4)), (97, .bool ((x.d : Int) == 5)), (109, .bool ((x.d : Int) == 6)), (117, .bool ((x.d : Int) == 7)), (125, .bool ((x.d : Int) == 8))] ⟨rfl, rfl, rfl, rfl, rfl, rfl, rfl, rfl, rfl, rfl, rfl, rfl, rfl, rfl, rfl, trivial⟩
                      refine hK10 _ _ ?_
                      refine region_seq ?_  -- region 7
                      refine L_op A rfl (by decide) rfl (y_move (A.get (s := 11) rfl) fun ac A => ?_)
                      refine L_op A rfl (by decide) rfl (y_add (A.get (s := 30) rfl) rfl (c := ((i + 1 : Nat) : Int)) (wrap64' hi (by omega)) fun ac A => ?_)
                      refine L_op A rfl (by decide) rfl (y_assign (A.get (s := 31) rfl) fun ac A => ?_)
                      replace A := A.keep [(2, .slice (some va) l.length vc), (8, .pointer (some ⟨p, 0, none⟩)), (10, .map (some b1)), (11, .int .i64 (((i + 1 : Nat) : Int))), (12, .pointer (some ⟨b2, 0, none⟩)), (29, .bool true), (37, .int .i64 x.d), (38, .bool ((x.d : Int) == 0)), (67, .bool ((x.d : Int) == 2)), (77, .bool ((x.d : Int) == 3)), (87, .bool ((x.d : Int) == 4)), (97, .bool ((x.d : Int) == 5)), (109, .bool ((x.d : Int) == 6)), (117, .bool ((x.d : Int) == 7)), (125, .bool ((x.d : Int) == 8))] ⟨rfl, rfl, rfl, rfl, rfl, rfl, rfl, rfl, rfl, rfl, rfl, rfl, rfl, rfl, rfl, trivial⟩
                      replace A := A.keep [(2, .slice (some va) l.length vc), (8, .pointer (some ⟨p, 0, none⟩)), (10, .map (some b1)), (11, .int .i64 (((i + 1 : Nat) : Int)))] ⟨rfl, rfl, rfl, rfl, trivial⟩
                      replace S : St _ _ _ ([(b1, oq)] ++ (Hn1 ++ (seH es))) := St.app_left (K := [(b2, .cells #[.int .i64 x.d, .int .i64 x.f, .int .i64 x.t, .int .i64 x.i, .int .i64 x.b, .slice ba x.bs.length bc] 57 (0, 0))]) (S.perm (by classical rw [List.perm_iff_count]; intro x; simp only [List.count_append, List.count_cons, List.count_nil] <;> omega))
                      have hstep : playStep (m, sn) x = ((m.empty x.t).2, sn) := by simp [playStep, hc125]
                      rw [hstep] at hnext hord' hlen'
                      exact ⟨kk - 1, by omega, i + 1, _, _, _, _, _, by omega, hnext, hord'.trans hmo, fun k => Nat.le_trans (hlen' k) (Nat.add_le_add_right (hsl k) 1), A, S, hN, hE⟩
                    · -- .bool ((x.d : Int) == 8) is false
                      simp only [beq_eq_false_iff_ne, ne_eq] at hc125
                      refine wp_skip ?_
                      refine hK10 _ _ ?_
                      refine region_seq ?_  -- region 7
                      refine L_op A rfl (by decide) rfl (y_move (A.get (s := 11) rfl) fun ac A => ?_)
                      refine L_op A rfl (by decide) rfl (y_add (A.get (s := 30) rfl) rfl (c := ((i + 1 : Nat) : Int)) (wrap64' hi (by omega)) fun ac A => ?_)
                      refine L_op A rfl (by decide) rfl (y_assign (A.get (s := 31) rfl) fun ac A => ?_)
                      replace A := A.keep [(2, .slice (some va) l.length vc), (8, .pointer (some ⟨p, 0, none⟩)), (10, .map (some b1)), (11, .int .i64 (((i + 1 : Nat) : Int))), (12, .pointer (some ⟨b2, 0, none⟩)), (29, .bool true), (37, .int .i64 x.d), (38, .bool ((x.d : Int) == 0)), (67, .bool ((x.d : Int) == 2)), (77, .bool ((x.d : Int) == 3)), (87, .bool ((x.d : Int) == 4)), (97, .bool ((x.d : Int) == 5)), (109, .bool ((x.d : Int) == 6)), (117, .bool ((x.d : Int) == 7)), (125, .bool ((x.d : Int) == 8))] ⟨rfl, rfl, rfl, rfl, rfl, rfl, rfl, rfl, rfl, rfl, rfl, rfl, rfl, rfl, rfl, trivial⟩
                      replace A := A.keep [(2, .slice (some va) l.length vc), (8, .pointer (some ⟨p, 0, none⟩)), (10, .map (some b1)), (11, .int .i64 (((i + 1 : Nat) : Int)))] ⟨rfl, rfl, rfl, rfl, trivial⟩
                      replace S : St _ _ _ ([(b1, oq)] ++ (Hn ++ (seH es))) := St.app_left (K := [(b2, .cells #[.int .i64 x.d, .int .i64 x.f, .int .i64 x.t, .int .i64 x.i, .int .i64 x.b, .slice ba x.bs.length bc] 57 (0, 0))]) (S.perm (by classical rw [List.perm_iff_count]; intro x; simp only [List.count_append, List.count_cons, List.count_nil] <;> omega))
                      have hstep : playStep (m, sn) x = (m, sn) := by simp [playStep, hc38, hc67, hc77, hc87, hc97, hc109, hc117, hc125]
                      rw [hstep] at hnext hord' hlen'
                      exact ⟨kk - 1, by omega, i + 1, _, _, _, _, _, by omega, hnext, hord'.trans hmo, fun k => Nat.le_trans (hlen' k) (Nat.add_le_add_right (hsl k) 1), A, S, hN, hE⟩
    · obtain rfl : i = l.length := by omega
      rw [List.take_length] at hgo
      refine wp_seq_k fun K8 hK8 => ?_
      refine wp_seq_k fun K9 hK9 => ?_
      refine region_seq ?_  -- region 6
      refine L_op A rfl (by decide) rfl (y_move (A.get (s := 11) rfl) fun ac A => ?_)
      refine L_op A rfl (by decide) rfl (y_move (A.get (s := 2) rfl) fun ac A => ?_)
      refine L_op A rfl (by decide) rfl (y_lenS (e := 57) (by kernel_rfl) (A.get (s := 27) rfl) fun ac A => ?_)
      refine L_op A rfl (by decide) rfl (y_lss (A.get (s := 26) rfl) (A.get (s := 28) rfl) (c := false) (decide_eq_false (by omega)) fun ac A => ?_)
      replace A := A.keep [(2, .slice va l.length vc), (8, .pointer (some ⟨p, 0, none⟩)), (10, .map (some b1)), (11, .int .i64 (((l.length : Nat) : Int))), (29, .bool false)] ⟨rfl, rfl, rfl, rfl, rfl, trivial⟩
      refine hK9 _ _ ?_
      refine wp_cond_false (A.get rfl) ?_
      refine wp_exit ?_
      refine hK6 _ _ ?_
      refine wp_seq_k fun K10 hK10 => ?_
      refine region_seq ?_  -- region 27
      refine L_op A rfl (by decide) rfl (y_move (A.get (s := 8) rfl) fun ac A => ?_)
      refine L_op A rfl (by decide) rfl (y_move (A.get (s := 10) rfl) fun ac A => ?_)
      refine L_op A rfl (by decide) rfl (y_assign (A.get (s := 131) rfl) fun ac A => ?_)
      refine L_op A rfl (by decide) rfl (y_assign (A.get (s := 132) rfl) fun ac A => ?_)
      replace A := A.keep [(2, .slice va l.length vc), (6, .pointer (some ⟨p, 0, none⟩)), (7, .map (some b1)), (8, .pointer (some ⟨p, 0, none⟩)), (10, .map (some b1)), (11, .int .i64 (((l.length : Nat) : Int))), (29, .bool false)] ⟨rfl, rfl, rfl, rfl, rfl, rfl, rfl, trivial⟩
      refine hK10 _ _ ?_
      exact wp_ret ⟨A.defers, _, res_run (rs := [.tmp 6, .tmp 7]) (vs := [.pointer (some ⟨p, 0, none⟩), .map (some b1)]) rfl ⟨A.get rfl, A.get rfl, trivial⟩, ⟨_, rfl, S.kp.to_gr, Hn ++ ((b1, oq) :: seH es), Or.inr ⟨m0, p, b1, Hn, oq, es, hnew, rfl, by rw [play, hgo]; exact hN, by rw [play, hgo]; exact hE, rfl⟩, (S.perm (by classical rw [List.perm_iff_count]; intro x; simp only [List.count_append, List.count_cons, List.count_nil] <;> omega)).newF⟩⟩
end Go.Proofs.Ytaeidblipdjgnaa
