import Derived.Test.YtaeidblipdjgnaaSim
namespace Go.Proofs.Ytaeidblipdjgnaa
open Go.RowKit Go.Maps Go.WideMaps

theorem pair_set {v : Value} {L : List (Int × Int)} {kb cap : Nat} {cs : Array Value} (hcs : cs.size = cap * 2) (hn : L.length ≤ cap) (ht : cs.toList.take (L.length * 2) = pairs L) {i : Nat} (hi : i < L.length) (k : Int × Int) (hv : v = .slice (some ⟨kb, 0, none⟩) L.length cap) : SlRep 28 2 v (L.set i k).length (pairs (L.set i k)) [(kb, .cells (setCs cs (i * 2) [.int .i64 k.1, .int .i64 k.2]) 28 (0, 0))] := by
  refine ⟨pairs_length _, Or.inr ⟨kb, cap, _, by rw [List.length_set]; exact hv, rfl, by rw [setCs_size, hcs], by rw [List.length_set]; exact hn, ?_⟩⟩
  apply List.ext_getElem?; intro m
  obtain ⟨q, r, hr, rfl⟩ : ∃ q r, r < 2 ∧ m = q * 2 + r := ⟨m / 2, m % 2, by omega, by omega⟩
  rw [List.getElem?_take, List.length_set]
  by_cases hm : q * 2 + r < L.length * 2
  · rw [if_pos hm, Array.getElem?_toList, setCs_get _ _ _ _ (by simp; omega)]
    by_cases hq : q = i
    · subst hq
      obtain ⟨g1, g2⟩ := pairs_get (L.set q k) q k (by rw [List.getElem?_set, if_pos rfl, if_pos hi])
      rcases (by omega : r = 0 ∨ r = 1) with rfl | rfl
      · rw [if_pos (by simp), Nat.add_zero, g1]; simp
      · rw [if_pos (by simp), g2]; simp
    · obtain ⟨x, hx⟩ : ∃ x, L[q]? = some x := ⟨_, List.getElem?_eq_getElem (by omega)⟩
      obtain ⟨g1, g2⟩ := pairs_get (L.set i k) q x (by rw [List.getElem?_set, if_neg (by omega)]; exact hx)
      obtain ⟨o1, o2⟩ := pairs_get L q x hx
      rw [if_neg (by simp; omega), SlRep.cell ht (by omega)]
      rcases (by omega : r = 0 ∨ r = 1) with rfl | rfl
      · rw [Nat.add_zero, g1, o1]
      · rw [g2, o2]
  · rw [if_neg hm, List.getElem?_eq_none (by rw [pairs_length, List.length_set]; omega)]
theorem two_cells {w : World} {b i : Nat} {c : Array Value} {t : TypeId} {fr : Nat × Nat} {x y : Value} (hb : w.heap[b]? = some (.cells c t fr)) (h0 : c[i]? = some x) (h1 : c[i + 1]? = some y) : ∀ j (hj : j < [x, y].length), w.cell? ((⟨b, i, none⟩ : Addr).add j) = some [x, y][j] := by
  intro j hj
  rw [add_eq, cell_of hb]
  match j, hj with
  | 0, _ => exact h0
  | 1, _ => exact h1
theorem sevens {L : List (Int × Int)} {i : Nat} {l : Int × Int} (h : L[i]? = some l) : (List.replicate i ((7, 7) : Int × Int) ++ L.drop i)[i]? = some l ∧ (List.replicate i ((7, 7) : Int × Int) ++ L.drop i).set i (7, 7) = List.replicate (i + 1) (7, 7) ++ L.drop (i + 1) := by
  have hi := lt_of_get h
  have hd : L.drop i = l :: L.drop (i + 1) := by rw [List.drop_eq_getElem_cons hi]; congr 1; rw [List.getElem?_eq_getElem hi] at h; exact Option.some.inj h
  rw [hd]
  have hlen : (List.replicate i ((7, 7) : Int × Int)).length = i := List.length_replicate
  constructor
  · have := mid_at (List.replicate i ((7, 7) : Int × Int)) l (L.drop (i + 1)); rw [hlen] at this; exact this
  · have := mid_set (List.replicate i ((7, 7) : Int × Int)) l (7, 7) (L.drop (i + 1)); rw [hlen] at this; rw [this, List.replicate_succ', List.append_assoc]; rfl
set_option maxRecDepth 20000 in
set_option maxHeartbeats 16000000 in
theorem stands_ok {p q : Nat} {m : M} {R : RM} {Hm Hr : Frag} {w0 : World} (hN : NetRep p m Hm) (hNH : Holds w0 Hm) (hR : RefRep q R Hr) (hRH : Holds w0 Hr) (hs : Sim m R) (hw : R.way.length ≤ 1000000) : Calls Try.prog 28 #[.pointer (some ⟨p, 0, none⟩), .pointer (some ⟨q, 0, none⟩)] w0 (RetN w0 (eqv (.bool true))) := by
  obtain ⟨la, lc, ca, cc, wa, wc, gs, h⟩ := hR.src hRH
  have hp := h.hp
  have hfew := h.few
  have hsame := h.same
  have hlinks : ∀ w, Gr w0 w → Calls Try.prog 25 #[.pointer (some ⟨p, 0, none⟩)] w (RetN w fun v' H => (∃ a c, v' = .slice a R.links.length c) ∧ SlRep 28 2 v' R.links.length (pairs R.links) H) := fun w g => (links_ok hN (hNH.gr g)).mono (by
    rintro e w' ⟨v, rfl, g, H, hf, n⟩; rw [hs.ord] at hf; exact ⟨_, rfl, g, H, ⟨hf.len, hf⟩, n⟩)
  have hnod : ∀ w, Gr w0 w → Calls Try.prog 16 #[.pointer (some ⟨p, 0, none⟩)] w (RetN w (eqv (.int .i64 R.n))) := fun w g => by have := nodes_ok hN (hNH.gr g); rw [hs.nd] at this; exact this
  refine enter Try.func28 rfl (n := 110) rfl (Nat.le_of_ble_eq_true rfl) fun _ A => ?_
  have S : St _ _ _ [] := St.none w0
  refine wp_seq_k fun K1 hK1 => ?_
  refine region_seq ?_  -- region 0
  refine La A rfl (evc _ _) fun _ A => ?_
  replace A := A.only [4, 1, 0] rfl
  refine hK1 _ _ ?_
  refine wp_seq_k fun K2 hK2 => ?_
  refine region_seq ?_  -- region 1
  refine Lm A rfl (A.g 0 rfl) fun _ A => Lo A rfl (y_call1 (by kernel_rfl) rfl (A.g 9 rfl) (callN (hlinks _ S.kp.to_gr) fun v w Hk gG nN hf ac A => ?_))
  obtain ⟨⟨ka, kc, rfl⟩, hK⟩ := hf
  replace S : St _ _ _ Hk := (S.new gG nN).perm (by first | exact .refl _ | (rw [List.append_assoc]; exact .refl _) | (simp only [List.append_assoc, List.nil_append, List.append_nil]; exact .refl _))
  refine La A rfl (A.g 10 rfl) fun _ A => ?_
  replace A := A.only [5, 4, 1, 0] rfl
  refine hK2 _ _ ?_
  refine wp_seq_k fun K3 hK3 => ?_
  refine wp_seq_k fun K4 hK4 => ?_
  refine region_draw A [⟨11, pl (eqv (.pointer (some ⟨p, 0, none⟩))), [], [0], none, false⟩, ⟨12, pl (eqv (.int .i64 R.n)), [0], [], none, false⟩, ⟨13, pl (eqv (.pointer (some ⟨q, 0, none⟩))), [], [1], none, false⟩, ⟨14, pl (eqv (.pointer (some ⟨q, 0, none⟩))), [2], [], none, false⟩, ⟨15, pl (eqv (.pointer (some ⟨q, 0, none⟩))), [3], [], none, false⟩, ⟨16, pl (eqv (.int .i64 R.n)), [4], [], none, false⟩, ⟨17, pl (eqv (.bool false)), [1, 5], [], none, false⟩, ⟨18, pl (eqv (.bool false)), [6], [], none, false⟩, ⟨19, pl (eqv (.slice ka R.links.length kc)), [7], [5], some (18, false), false⟩, ⟨20, pl (eqv (.int .i64 R.links.length)), [8, 7], [], some (18, false), false⟩, ⟨21, pl (eqv (.pointer (some ⟨q, 0, none⟩))), [7], [1], some (18, false), false⟩, ⟨22, pl (eqv (.pointer (some ⟨q, 0, none⟩))), [10, 7], [], some (18, false), false⟩, ⟨23, pl (eqv (.pointer (some ⟨q, 1, none⟩))), [11, 7], [], some (18, false), false⟩, ⟨24, pl (eqv (.slice la R.links.length lc)), [12, 7], [], some (18, false), false⟩, ⟨25, pl (eqv (.int .i64 R.links.length)), [13, 7], [], some (18, false), false⟩, ⟨26, pl (eqv (.bool false)), [9, 14, 7], [], some (18, false), false⟩, ⟨27, pl (eqv (.bool false)), [7, 15], [], none, false⟩] [] (by kernel_rfl) (by kernel_rfl) (fun d _ _ _ _ h => by cases d <;> exact h) ⟨?_, ?_, ?_, ?_, ?_, ?_, ?_, ?_, ?_, ?_, ?_, ?_, ?_, ?_, ?_, ?_, ?_, trivial⟩ ?_  -- region 2
  · refine due_plain fun ρ w1 G hsrc hold => ?_; obtain ⟨o0, -⟩ := hold; exact y_move (o0.trans (A.g 0 rfl)) y_eq
  · refine due_plain fun ρ w1 G hsrc hold => ?_; obtain ⟨⟨_, _, ⟨h11, -⟩, -⟩, -⟩ := hsrc; exact y_call1 (by kernel_rfl) (G.func _) h11 (hnod _ (S.kp.to_gr.trans G.gr))
  · refine due_plain fun ρ w1 G hsrc hold => ?_; obtain ⟨o1, -⟩ := hold; exact y_move (o1.trans (A.g 1 rfl)) y_eq
  · refine due_plain fun ρ w1 G hsrc hold => ?_; obtain ⟨⟨_, _, ⟨h13, -⟩, -⟩, -⟩ := hsrc; exact y_nilCheck h13 y_eq
  · refine due_plain fun ρ w1 G hsrc hold => ?_; obtain ⟨⟨_, _, ⟨h14, -⟩, -⟩, -⟩ := hsrc; exact y_fieldAddr (off := 0) (j := 0) (by kernel_rfl) h14 (by first | rfl | omega) y_eq
  · refine due_plain fun ρ w1 G hsrc hold => ?_; obtain ⟨⟨_, _, ⟨h15, -⟩, -⟩, -⟩ := hsrc; exact y_load (by kernel_rfl) h15 ((cell_of (G.gr.heap' (S.kp.heap' hp (by simp))) _).trans rfl) y_eq
  · refine due_plain fun ρ w1 G hsrc hold => ?_; obtain ⟨⟨_, _, ⟨h12, -⟩, -⟩, ⟨_, _, ⟨h16, -⟩, -⟩, -⟩ := hsrc; exact y_neq h12 h16 (c := false) (by simp) y_eq
  · refine due_plain fun ρ w1 G hsrc hold => ?_; obtain ⟨⟨_, _, ⟨h17, -⟩, -⟩, -⟩ := hsrc; exact y_move h17 y_eq
  · refine due_guard fun ρ w1 G hsrc hold => ?_; obtain ⟨⟨_, _, ⟨h18, -⟩, -⟩, -⟩ := hsrc; obtain ⟨o5, -⟩ := hold; exact ⟨_, h18, (fun _ => y_move (o5.trans (A.g 5 rfl)) y_eq), fun h => absurd rfl h⟩
  · refine due_guard fun ρ w1 G hsrc hold => ?_; obtain ⟨⟨_, _, ⟨h19, -⟩, -⟩, ⟨_, _, ⟨h18, -⟩, -⟩, -⟩ := hsrc; exact ⟨_, h18, (fun _ => y_lenS (e := 28) (by kernel_rfl) h19 y_eq), fun h => absurd rfl h⟩
  · refine due_guard fun ρ w1 G hsrc hold => ?_; obtain ⟨⟨_, _, ⟨h18, -⟩, -⟩, -⟩ := hsrc; obtain ⟨o1, -⟩ := hold; exact ⟨_, h18, (fun _ => y_move (o1.trans (A.g 1 rfl)) y_eq), fun h => absurd rfl h⟩
  · refine due_guard fun ρ w1 G hsrc hold => ?_; obtain ⟨⟨_, _, ⟨h21, -⟩, -⟩, ⟨_, _, ⟨h18, -⟩, -⟩, -⟩ := hsrc; exact ⟨_, h18, (fun _ => y_nilCheck h21 y_eq), fun h => absurd rfl h⟩
  · refine due_guard fun ρ w1 G hsrc hold => ?_; obtain ⟨⟨_, _, ⟨h22, -⟩, -⟩, ⟨_, _, ⟨h18, -⟩, -⟩, -⟩ := hsrc; exact ⟨_, h18, (fun _ => y_fieldAddr (off := 1) (j := 1) (by kernel_rfl) h22 (by first | rfl | omega) y_eq), fun h => absurd rfl h⟩
  · refine due_guard fun ρ w1 G hsrc hold => ?_; obtain ⟨⟨_, _, ⟨h23, -⟩, -⟩, ⟨_, _, ⟨h18, -⟩, -⟩, -⟩ := hsrc; exact ⟨_, h18, (fun _ => y_load (by kernel_rfl) h23 ((cell_of (G.gr.heap' (S.kp.heap' hp (by simp))) _).trans rfl) y_eq), fun h => absurd rfl h⟩
  · refine due_guard fun ρ w1 G hsrc hold => ?_; obtain ⟨⟨_, _, ⟨h24, -⟩, -⟩, ⟨_, _, ⟨h18, -⟩, -⟩, -⟩ := hsrc; exact ⟨_, h18, (fun _ => y_lenS (e := 28) (by kernel_rfl) h24 y_eq), fun h => absurd rfl h⟩
  · refine due_guard fun ρ w1 G hsrc hold => ?_; obtain ⟨⟨_, _, ⟨h20, -⟩, -⟩, ⟨_, _, ⟨h25, -⟩, -⟩, ⟨_, _, ⟨h18, -⟩, -⟩, -⟩ := hsrc; exact ⟨_, h18, (fun _ => y_neq h20 h25 (c := false) (by simp) y_eq), fun h => absurd rfl h⟩
  · refine due_plain fun ρ w1 G hsrc hold => ?_; obtain ⟨⟨_, _, ⟨h18, -⟩, -⟩, ⟨_, _, ⟨h26, -⟩, -⟩, -⟩ := hsrc; exact y_pickF h18 h26 y_eq
  rintro _ _ ⟨rfl, rfl⟩ _ _ ⟨rfl, rfl⟩ _ _ ⟨rfl, rfl⟩ _ _ ⟨rfl, rfl⟩ _ _ ⟨rfl, rfl⟩ _ _ ⟨rfl, rfl⟩ _ _ ⟨rfl, rfl⟩ _ _ ⟨rfl, rfl⟩ _ _ ⟨rfl, rfl⟩ _ _ ⟨rfl, rfl⟩ _ _ ⟨rfl, rfl⟩ _ _ ⟨rfl, rfl⟩ _ _ ⟨rfl, rfl⟩ _ _ ⟨rfl, rfl⟩ _ _ ⟨rfl, rfl⟩ _ _ ⟨rfl, rfl⟩ _ _ ⟨rfl, rfl⟩
  intro ac w A gG nN
  replace S : St _ _ _ Hk := (S.new gG nN).perm (by first | exact .refl _ | (rw [List.append_assoc]; exact .refl _) | (simp only [List.append_assoc, List.nil_append, List.append_nil]; exact .refl _))
  replace A := A.only [27, 5, 4, 1, 0] rfl
  refine hK4 _ _ ?_
  refine wp_cond_false (A.get rfl) ?_
  refine wp_skip ?_
  refine hK3 _ _ ?_
  refine wp_seq_k fun K5 hK5 => ?_
  refine wp_seq_k fun K6 hK6 => ?_
  refine region_seq ?_  -- region 4
  refine La A rfl (evc _ _) fun _ A => ?_
  replace A := A.only [27, 6, 5, 4, 1, 0] rfl
  refine hK6 _ _ ?_
  refine wp_block ?_
  replace A := A.only [6, 5, 1, 0] rfl
  refine wp_loop_ghost (fun kk ac w' => ∃ (i : Nat) (Hk : Frag), kk + i = R.links.length ∧ SlRep 28 2 (.slice ka R.links.length kc) R.links.length (pairs (List.replicate i (7, 7) ++ R.links.drop i)) Hk ∧ Sl 110 ac [(0, .pointer (some ⟨p, 0, none⟩)), (1, .pointer (some ⟨q, 0, none⟩)), (5, .slice ka R.links.length kc), (6, .int .i64 ((i : Nat) : Int))] ∧ St [] w0 w' Hk) R.links.length ⟨0, _, by simp, (by simpa using hK), A, S⟩ ?_
  clear A S hK
  rintro kk ac w ⟨i, Hk, hkk, hK, A, S⟩
  rcases Nat.lt_or_ge i R.links.length with hi | hi
  · obtain ⟨l, hli⟩ : ∃ l, R.links[i]? = some l := ⟨_, List.getElem?_eq_getElem hi⟩
    obtain ⟨ct, hci⟩ : ∃ c, R.cuts[i]? = some c := ⟨_, List.getElem?_eq_getElem (by omega)⟩
    obtain ⟨hsv1, hsv2⟩ := sevens hli
    have hLl : (List.replicate i ((7, 7) : Int × Int) ++ R.links.drop i).length = R.links.length := by simp; omega
    obtain ⟨kb, cap, cs, hq, rfl, hcs, hncap, htake⟩ := hK.block (by omega)
    simp only [Value.slice.injEq] at hq; obtain ⟨rfl, -, rfl⟩ := hq
    obtain ⟨hg0, hg1⟩ := pairs_get _ i l hsv1
    have hc0 : cs[i * 2]? = some (.int .i64 l.1) := by rw [SlRep.cell htake (by omega), hg0]
    have hc1 : cs[i * 2 + 1]? = some (.int .i64 l.2) := by rw [SlRep.cell htake (by omega), hg1]
    obtain ⟨va, vc, hva, hrow⟩ := pairs_row h.links hli
    simp only [Value.slice.injEq] at hva; obtain ⟨rfl, -, rfl⟩ := hva
    obtain ⟨ua, uc, hua, hcell⟩ := cut_at h.cuts hci
    simp only [Value.slice.injEq] at hua; obtain ⟨rfl, -, rfl⟩ := hua
    have hgl := hs.good l (List.mem_of_getElem? hli)
    have hn10 := hs.n10
    have i1 : i64 l.1 := by unfold i64; omega
    have i2 : i64 l.2 := by unfold i64; omega
    obtain ⟨ho1, ho2⟩ := hs.opnAt hli hci
    have hop1 : ∀ w, Gr w0 w → Calls Try.prog 17 #[.pointer (some ⟨p, 0, none⟩), .int .i64 l.1, .int .i64 l.2] w (RetN w (eqv (.bool (!ct)))) := fun w g => by have := open_ok hN (hNH.gr g) (good_ends i1 i2); rw [ho1] at this; exact this
    have hln1 : ∀ w, Gr w0 w → Calls Try.prog 13 #[.pointer (some ⟨p, 0, none⟩), .int .i64 l.1, .int .i64 l.2] w (RetN w (eqv (.int .i64 ((R.len l.1 l.2 : Nat) : Int)))) := fun w g => by have := len_ok hN (hNH.gr g) (good i1 i2); rw [hs.len] at this; exact this
    have hop2 : ∀ w, Gr w0 w → Calls Try.prog 17 #[.pointer (some ⟨p, 0, none⟩), .int .i64 l.2, .int .i64 l.1] w (RetN w (eqv (.bool (!ct)))) := fun w g => by have := open_ok hN (hNH.gr g) (good_ends i2 i1); rw [ho2] at this; exact this
    have hln2 : ∀ w, Gr w0 w → Calls Try.prog 13 #[.pointer (some ⟨p, 0, none⟩), .int .i64 l.2, .int .i64 l.1] w (RetN w (eqv (.int .i64 ((R.len l.2 l.1 : Nat) : Int)))) := fun w g => by have := len_ok hN (hNH.gr g) (good i2 i1); rw [hs.len] at this; exact this
    have hrl : ∀ a b w, Gr w0 w → Calls Try.prog 47 #[.pointer (some ⟨q, 0, none⟩), .int .i64 a, .int .i64 b] w (RetN w (eqv (.int .i64 ((R.len a b : Nat) : Int)))) := fun a b w g => rlen_ok (h.gr g) hw
    refine wp_seq_k fun K7 hK7 => ?_
    refine wp_seq_k fun K8 hK8 => ?_
    refine region_seq ?_  -- region 5
    refine Lm A rfl (A.g 6 rfl) fun _ A => Lm A rfl (A.g 5 rfl) fun _ A => Lo A rfl (y_lenS (e := 28) (by kernel_rfl) (A.g 29 rfl) fun _ A => ?_)
    refine Lo A rfl (y_lss (A.g 28 rfl) (A.g 30 rfl) (c := true) (decide_eq_true (by omega)) fun _ A => ?_)
    replace A := A.only [31, 6, 5, 1, 0] rfl
    refine hK8 _ _ ?_
    refine wp_cond_true (A.get rfl) ?_
    refine wp_skip ?_
    refine hK7 _ _ ?_
    refine wp_seq_k fun K9 hK9 => ?_
    refine wp_block ?_
    refine wp_seq_k fun K10 hK10 => ?_
    refine region_draw A [⟨34, pl (eqv (.slice (some ⟨kb, 0, none⟩) R.links.length kc)), [], [5], none, false⟩, ⟨35, pl (eqv (.int .i64 (((i : Nat) : Int)))), [], [6], none, false⟩, ⟨36, pl (eqv (.pointer (some ⟨kb, i * 2, none⟩))), [0, 1], [], none, false⟩, ⟨37, pl (eqv (.pointer (some ⟨kb, i * 2, none⟩))), [2], [], none, false⟩, ⟨38, pl (eqv (.int .i64 l.1)), [3], [], none, false⟩, ⟨39, pl (eqv (.slice (some ⟨kb, 0, none⟩) R.links.length kc)), [], [5], none, false⟩, ⟨40, pl (eqv (.int .i64 (((i : Nat) : Int)))), [], [6], none, false⟩, ⟨41, pl (eqv (.pointer (some ⟨kb, i * 2, none⟩))), [5, 6], [], none, false⟩, ⟨42, pl (eqv (.pointer (some ⟨kb, i * 2 + 1, none⟩))), [7], [], none, false⟩, ⟨43, pl (eqv (.int .i64 l.2)), [8], [], none, false⟩, ⟨7, pl (eqv (.int .i64 l.1)), [4], [], none, false⟩, ⟨8, pl (eqv (.int .i64 l.2)), [9], [], none, false⟩] [] (by kernel_rfl) (by kernel_rfl) (fun d _ _ _ _ h => by cases d <;> exact h) ⟨?_, ?_, ?_, ?_, ?_, ?_, ?_, ?_, ?_, ?_, ?_, ?_, trivial⟩ ?_  -- region 7
    · refine due_plain fun ρ w1 G hsrc hold => ?_; obtain ⟨o5, -⟩ := hold; exact y_move (o5.trans (A.g 5 rfl)) y_eq
    · refine due_plain fun ρ w1 G hsrc hold => ?_; obtain ⟨o6, -⟩ := hold; exact y_move (o6.trans (A.g 6 rfl)) y_eq
    · refine due_plain fun ρ w1 G hsrc hold => ?_; obtain ⟨⟨_, _, ⟨h34, -⟩, -⟩, ⟨_, _, ⟨h35, -⟩, -⟩, -⟩ := hsrc; exact y_indexS (e := 28) (size := 2) (j := i * 2) (by kernel_rfl) (by kernel_rfl) h34 h35 (by omega) (by omega) (by simp) y_eq
    · refine due_plain fun ρ w1 G hsrc hold => ?_; obtain ⟨⟨_, _, ⟨h36, -⟩, -⟩, -⟩ := hsrc; exact y_indexP (n := 2) (e := 3) (size := 1) (j := i * 2) (by kernel_rfl) (by kernel_rfl) h36 (G.const _) (by decide) (by decide) (by first | rfl | omega) y_eq
    · refine due_plain fun ρ w1 G hsrc hold => ?_; obtain ⟨⟨_, _, ⟨h37, -⟩, -⟩, -⟩ := hsrc; exact y_load (by kernel_rfl) h37 ((cell_of (G.gr.heap' (S.get 0 rfl)) _).trans hc0) y_eq
    · refine due_plain fun ρ w1 G hsrc hold => ?_; obtain ⟨o5, -⟩ := hold; exact y_move (o5.trans (A.g 5 rfl)) y_eq
    · refine due_plain fun ρ w1 G hsrc hold => ?_; obtain ⟨o6, -⟩ := hold; exact y_move (o6.trans (A.g 6 rfl)) y_eq
    · refine due_plain fun ρ w1 G hsrc hold => ?_; obtain ⟨⟨_, _, ⟨h39, -⟩, -⟩, ⟨_, _, ⟨h40, -⟩, -⟩, -⟩ := hsrc; exact y_indexS (e := 28) (size := 2) (j := i * 2) (by kernel_rfl) (by kernel_rfl) h39 h40 (by omega) (by omega) (by simp) y_eq
    · refine due_plain fun ρ w1 G hsrc hold => ?_; obtain ⟨⟨_, _, ⟨h41, -⟩, -⟩, -⟩ := hsrc; exact y_indexP (n := 2) (e := 3) (size := 1) (j := i * 2 + 1) (by kernel_rfl) (by kernel_rfl) h41 (G.const _) (by decide) (by decide) (by first | rfl | omega) y_eq
    · refine due_plain fun ρ w1 G hsrc hold => ?_; obtain ⟨⟨_, _, ⟨h42, -⟩, -⟩, -⟩ := hsrc; exact y_load (by kernel_rfl) h42 ((cell_of (G.gr.heap' (S.get 0 rfl)) _).trans hc1) y_eq
    · refine due_plain fun ρ w1 G hsrc hold => ?_; obtain ⟨⟨_, _, ⟨h38, -⟩, -⟩, -⟩ := hsrc; exact y_assign h38 y_eq
    · refine due_plain fun ρ w1 G hsrc hold => ?_; obtain ⟨⟨_, _, ⟨h43, -⟩, -⟩, -⟩ := hsrc; exact y_assign h43 y_eq
    rintro _ _ ⟨rfl, rfl⟩ _ _ ⟨rfl, rfl⟩ _ _ ⟨rfl, rfl⟩ _ _ ⟨rfl, rfl⟩ _ _ ⟨rfl, rfl⟩ _ _ ⟨rfl, rfl⟩ _ _ ⟨rfl, rfl⟩ _ _ ⟨rfl, rfl⟩ _ _ ⟨rfl, rfl⟩ _ _ ⟨rfl, rfl⟩ _ _ ⟨rfl, rfl⟩ _ _ ⟨rfl, rfl⟩
    intro ac w A gG nN
    replace S : St _ _ _ [(kb, .cells cs 28 (0, 0))] := S.new gG nN
    replace A := A.only [31, 8, 7, 6, 5, 1, 0] rfl
    refine hK10 _ _ ?_
    refine wp_seq_k fun K11 hK11 => ?_
    refine wp_seq_k fun K12 hK12 => ?_
    refine region_draw A [⟨44, pl (eqv (.slice (some ⟨kb, 0, none⟩) R.links.length kc)), [], [5], none, false⟩, ⟨45, pl (eqv (.int .i64 (((i : Nat) : Int)))), [], [6], none, false⟩, ⟨46, pl (eqv (.pointer (some ⟨kb, i * 2, none⟩))), [0, 1], [], none, false⟩, ⟨47, pl (eqv (.agg #[.int .i64 l.1, .int .i64 l.2])), [2], [], none, false⟩, ⟨48, pl (eqv (.pointer (some ⟨q, 0, none⟩))), [], [1], none, false⟩, ⟨49, pl (eqv (.pointer (some ⟨q, 0, none⟩))), [4], [], none, false⟩, ⟨50, pl (eqv (.pointer (some ⟨q, 1, none⟩))), [5], [], none, false⟩, ⟨51, pl (eqv (.slice (some va) R.links.length lc)), [6], [], none, false⟩, ⟨52, pl (eqv (.int .i64 (((i : Nat) : Int)))), [], [6], none, false⟩, ⟨53, pl (eqv (.pointer (some (va.add ((((i : Nat) : Int)).toNat * 2))))), [7, 8], [], none, false⟩, ⟨54, pl (eqv (.agg #[.int .i64 l.1, .int .i64 l.2])), [9], [], none, false⟩, ⟨55, pl (eqv (.bool false)), [3, 10], [], none, false⟩, ⟨56, pl (eqv (.bool false)), [11], [], none, false⟩, ⟨57, pl (eqv (.pointer (some ⟨p, 0, none⟩))), [12], [0], some (56, false), false⟩, ⟨58, pl (eqv (.int .i64 l.1)), [12], [7], some (56, false), false⟩, ⟨59, pl (eqv (.int .i64 l.2)), [12], [8], some (56, false), false⟩, ⟨60, pl (eqv (.bool (!ct))), [13, 14, 15, 12], [], some (56, false), false⟩, ⟨61, pl (eqv (.pointer (some ⟨q, 0, none⟩))), [12], [1], some (56, false), false⟩, ⟨62, pl (eqv (.pointer (some ⟨q, 0, none⟩))), [17, 12], [], some (56, false), false⟩, ⟨63, pl (eqv (.pointer (some ⟨q, 2, none⟩))), [18, 12], [], some (56, false), false⟩, ⟨64, pl (eqv (.slice (some ua) R.cuts.length cc)), [19, 12], [], some (56, false), false⟩, ⟨65, pl (eqv (.int .i64 (((i : Nat) : Int)))), [12], [6], some (56, false), false⟩, ⟨66, pl (eqv (.pointer (some (ua.add ((((i : Nat) : Int)).toNat * 1))))), [20, 21, 12], [], some (56, false), false⟩, ⟨67, pl (eqv (.bool ct)), [22, 12], [], some (56, false), false⟩, ⟨68, pl (eqv (.bool false)), [16, 23, 12], [], some (56, false), false⟩, ⟨69, pl (eqv (.bool false)), [12, 24], [], none, false⟩, ⟨70, pl (eqv (.bool false)), [25], [], none, false⟩, ⟨71, pl (eqv (.pointer (some ⟨p, 0, none⟩))), [26], [0], some (70, false), false⟩, ⟨72, pl (eqv (.int .i64 l.2)), [26], [8], some (70, false), false⟩, ⟨73, pl (eqv (.int .i64 l.1)), [26], [7], some (70, false), false⟩, ⟨74, pl (eqv (.bool (!ct))), [27, 28, 29, 26], [], some (70, false), false⟩, ⟨75, pl (eqv (.pointer (some ⟨q, 0, none⟩))), [26], [1], some (70, false), false⟩, ⟨76, pl (eqv (.pointer (some ⟨q, 0, none⟩))), [31, 26], [], some (70, false), false⟩, ⟨77, pl (eqv (.pointer (some ⟨q, 2, none⟩))), [32, 26], [], some (70, false), false⟩, ⟨78, pl (eqv (.slice (some ua) R.cuts.length cc)), [33, 26], [], some (70, false), false⟩, ⟨79, pl (eqv (.int .i64 (((i : Nat) : Int)))), [26], [6], some (70, false), false⟩, ⟨80, pl (eqv (.pointer (some (ua.add ((((i : Nat) : Int)).toNat * 1))))), [34, 35, 26], [], some (70, false), false⟩, ⟨81, pl (eqv (.bool ct)), [36, 26], [], some (70, false), false⟩, ⟨82, pl (eqv (.bool false)), [30, 37, 26], [], some (70, false), false⟩, ⟨83, pl (eqv (.bool false)), [26, 38], [], none, false⟩, ⟨84, pl (eqv (.bool false)), [39], [], none, false⟩, ⟨85, pl (eqv (.pointer (some ⟨p, 0, none⟩))), [40], [0], some (84, false), false⟩, ⟨86, pl (eqv (.int .i64 l.1)), [40], [7], some (84, false), false⟩, ⟨87, pl (eqv (.int .i64 l.2)), [40], [8], some (84, false), false⟩, ⟨88, pl (eqv (.int .i64 (((R.len l.1 l.2 : Nat) : Int)))), [41, 42, 43, 40], [], some (84, false), false⟩, ⟨89, pl (eqv (.pointer (some ⟨q, 0, none⟩))), [40], [1], some (84, false), false⟩, ⟨90, pl (eqv (.int .i64 l.1)), [40], [7], some (84, false), false⟩, ⟨91, pl (eqv (.int .i64 l.2)), [40], [8], some (84, false), false⟩, ⟨92, pl (eqv (.int .i64 (((R.len l.1 l.2 : Nat) : Int)))), [45, 46, 47, 40], [], some (84, false), false⟩, ⟨93, pl (eqv (.bool false)), [44, 48, 40], [], some (84, false), false⟩, ⟨94, pl (eqv (.bool false)), [40, 49], [], none, false⟩, ⟨95, pl (eqv (.bool false)), [50], [], none, false⟩, ⟨96, pl (eqv (.pointer (some ⟨p, 0, none⟩))), [51], [0], some (95, false), false⟩, ⟨97, pl (eqv (.int .i64 l.2)), [51], [8], some (95, false), false⟩, ⟨98, pl (eqv (.int .i64 l.1)), [51], [7], some (95, false), false⟩, ⟨99, pl (eqv (.int .i64 (((R.len l.2 l.1 : Nat) : Int)))), [52, 53, 54, 51], [], some (95, false), false⟩, ⟨100, pl (eqv (.pointer (some ⟨q, 0, none⟩))), [51], [1], some (95, false), false⟩, ⟨101, pl (eqv (.int .i64 l.2)), [51], [8], some (95, false), false⟩, ⟨102, pl (eqv (.int .i64 l.1)), [51], [7], some (95, false), false⟩, ⟨103, pl (eqv (.int .i64 (((R.len l.2 l.1 : Nat) : Int)))), [56, 57, 58, 51], [], some (95, false), false⟩, ⟨104, pl (eqv (.bool false)), [55, 59, 51], [], some (95, false), false⟩, ⟨105, pl (eqv (.bool false)), [51, 60], [], none, false⟩] [] (by kernel_rfl) (by kernel_rfl) (fun d _ _ _ _ h => by cases d <;> exact h) ⟨?_, ?_, ?_, ?_, ?_, ?_, ?_, ?_, ?_, ?_, ?_, ?_, ?_, ?_, ?_, ?_, ?_, ?_, ?_, ?_, ?_, ?_, ?_, ?_, ?_, ?_, ?_, ?_, ?_, ?_, ?_, ?_, ?_, ?_, ?_, ?_, ?_, ?_, ?_, ?_, ?_, ?_, ?_, ?_, ?_, ?_, ?_, ?_, ?_, ?_, ?_, ?_, ?_, ?_, ?_, ?_, ?_, ?_, ?_, ?_, ?_, ?_, trivial⟩ ?_  -- region 8
    · refine due_plain fun ρ w1 G hsrc hold => ?_; obtain ⟨o5, -⟩ := hold; exact y_move (o5.trans (A.g 5 rfl)) y_eq
    · refine due_plain fun ρ w1 G hsrc hold => ?_; obtain ⟨o6, -⟩ := hold; exact y_move (o6.trans (A.g 6 rfl)) y_eq
    · refine due_plain fun ρ w1 G hsrc hold => ?_; obtain ⟨⟨_, _, ⟨h44, -⟩, -⟩, ⟨_, _, ⟨h45, -⟩, -⟩, -⟩ := hsrc; exact y_indexS (e := 28) (size := 2) (j := i * 2) (by kernel_rfl) (by kernel_rfl) h44 h45 (by omega) (by omega) (by simp) y_eq
    · refine due_plain fun ρ w1 G hsrc hold => ?_; obtain ⟨⟨_, _, ⟨h46, -⟩, -⟩, -⟩ := hsrc; exact y_loadAgg [.int .i64 l.1, .int .i64 l.2] (by kernel_rfl) h46 (two_cells (G.gr.heap' (S.get 0 rfl)) hc0 hc1) y_eq
    · refine due_plain fun ρ w1 G hsrc hold => ?_; obtain ⟨o1, -⟩ := hold; exact y_move (o1.trans (A.g 1 rfl)) y_eq
    · refine due_plain fun ρ w1 G hsrc hold => ?_; obtain ⟨⟨_, _, ⟨h48, -⟩, -⟩, -⟩ := hsrc; exact y_nilCheck h48 y_eq
    · refine due_plain fun ρ w1 G hsrc hold => ?_; obtain ⟨⟨_, _, ⟨h49, -⟩, -⟩, -⟩ := hsrc; exact y_fieldAddr (off := 1) (j := 1) (by kernel_rfl) h49 (by first | rfl | omega) y_eq
    · refine due_plain fun ρ w1 G hsrc hold => ?_; obtain ⟨⟨_, _, ⟨h50, -⟩, -⟩, -⟩ := hsrc; exact y_load (by kernel_rfl) h50 ((cell_of (G.gr.heap' (S.kp.heap' hp (by simp))) _).trans rfl) y_eq
    · refine due_plain fun ρ w1 G hsrc hold => ?_; obtain ⟨o6, -⟩ := hold; exact y_move (o6.trans (A.g 6 rfl)) y_eq
    · refine due_plain fun ρ w1 G hsrc hold => ?_; obtain ⟨⟨_, _, ⟨h51, -⟩, -⟩, ⟨_, _, ⟨h52, -⟩, -⟩, -⟩ := hsrc; exact y_indexA (e := 28) (size := 2) (by kernel_rfl) (by kernel_rfl) h51 h52 (by omega) (by omega) y_eq
    · refine due_plain fun ρ w1 G hsrc hold => ?_; obtain ⟨⟨_, _, ⟨h53, -⟩, -⟩, -⟩ := hsrc; exact y_loadAgg [.int .i64 l.1, .int .i64 l.2] (by kernel_rfl) h53 (fun z hz => G.gr.cell' (S.kp.cell' (hrow z hz) (by simp))) y_eq
    · refine due_plain fun ρ w1 G hsrc hold => ?_; obtain ⟨⟨_, _, ⟨h47, -⟩, -⟩, ⟨_, _, ⟨h54, -⟩, -⟩, -⟩ := hsrc; exact y_neqPair (e := 3) (by kernel_rfl) (by kernel_rfl) (by kernel_rfl) (by kernel_rfl) h47 h54 (r := false) (by simp) y_eq
    · refine due_plain fun ρ w1 G hsrc hold => ?_; obtain ⟨⟨_, _, ⟨h55, -⟩, -⟩, -⟩ := hsrc; exact y_move h55 y_eq
    · refine due_guard fun ρ w1 G hsrc hold => ?_; obtain ⟨⟨_, _, ⟨h56, -⟩, -⟩, -⟩ := hsrc; obtain ⟨o0, -⟩ := hold; exact ⟨_, h56, (fun _ => y_move (o0.trans (A.g 0 rfl)) y_eq), fun h => absurd rfl h⟩
    · refine due_guard fun ρ w1 G hsrc hold => ?_; obtain ⟨⟨_, _, ⟨h56, -⟩, -⟩, -⟩ := hsrc; obtain ⟨o7, -⟩ := hold; exact ⟨_, h56, (fun _ => y_move (o7.trans (A.g 7 rfl)) y_eq), fun h => absurd rfl h⟩
    · refine due_guard fun ρ w1 G hsrc hold => ?_; obtain ⟨⟨_, _, ⟨h56, -⟩, -⟩, -⟩ := hsrc; obtain ⟨o8, -⟩ := hold; exact ⟨_, h56, (fun _ => y_move (o8.trans (A.g 8 rfl)) y_eq), fun h => absurd rfl h⟩
    · refine due_guard fun ρ w1 G hsrc hold => ?_; obtain ⟨⟨_, _, ⟨h57, -⟩, -⟩, ⟨_, _, ⟨h58, -⟩, -⟩, ⟨_, _, ⟨h59, -⟩, -⟩, ⟨_, _, ⟨h56, -⟩, -⟩, -⟩ := hsrc; exact ⟨_, h56, (fun _ => y_call3 (by kernel_rfl) (G.func _) h57 h58 h59 (hop1 _ (S.kp.to_gr.trans G.gr))), fun h => absurd rfl h⟩
    · refine due_guard fun ρ w1 G hsrc hold => ?_; obtain ⟨⟨_, _, ⟨h56, -⟩, -⟩, -⟩ := hsrc; obtain ⟨o1, -⟩ := hold; exact ⟨_, h56, (fun _ => y_move (o1.trans (A.g 1 rfl)) y_eq), fun h => absurd rfl h⟩
    · refine due_guard fun ρ w1 G hsrc hold => ?_; obtain ⟨⟨_, _, ⟨h61, -⟩, -⟩, ⟨_, _, ⟨h56, -⟩, -⟩, -⟩ := hsrc; exact ⟨_, h56, (fun _ => y_nilCheck h61 y_eq), fun h => absurd rfl h⟩
    · refine due_guard fun ρ w1 G hsrc hold => ?_; obtain ⟨⟨_, _, ⟨h62, -⟩, -⟩, ⟨_, _, ⟨h56, -⟩, -⟩, -⟩ := hsrc; exact ⟨_, h56, (fun _ => y_fieldAddr (off := 2) (j := 2) (by kernel_rfl) h62 (by first | rfl | omega) y_eq), fun h => absurd rfl h⟩
    · refine due_guard fun ρ w1 G hsrc hold => ?_; obtain ⟨⟨_, _, ⟨h63, -⟩, -⟩, ⟨_, _, ⟨h56, -⟩, -⟩, -⟩ := hsrc; exact ⟨_, h56, (fun _ => y_load (by kernel_rfl) h63 ((cell_of (G.gr.heap' (S.kp.heap' hp (by simp))) _).trans rfl) y_eq), fun h => absurd rfl h⟩
    · refine due_guard fun ρ w1 G hsrc hold => ?_; obtain ⟨⟨_, _, ⟨h56, -⟩, -⟩, -⟩ := hsrc; obtain ⟨o6, -⟩ := hold; exact ⟨_, h56, (fun _ => y_move (o6.trans (A.g 6 rfl)) y_eq), fun h => absurd rfl h⟩
    · refine due_guard fun ρ w1 G hsrc hold => ?_; obtain ⟨⟨_, _, ⟨h64, -⟩, -⟩, ⟨_, _, ⟨h65, -⟩, -⟩, ⟨_, _, ⟨h56, -⟩, -⟩, -⟩ := hsrc; exact ⟨_, h56, (fun _ => y_indexA (e := 4) (size := 1) (by kernel_rfl) (by kernel_rfl) h64 h65 (by omega) (by omega) y_eq), fun h => absurd rfl h⟩
    · refine due_guard fun ρ w1 G hsrc hold => ?_; obtain ⟨⟨_, _, ⟨h66, -⟩, -⟩, ⟨_, _, ⟨h56, -⟩, -⟩, -⟩ := hsrc; exact ⟨_, h56, (fun _ => y_load (by kernel_rfl) h66 (G.gr.cell' (S.kp.cell' hcell (by simp))) y_eq), fun h => absurd rfl h⟩
    · refine due_guard fun ρ w1 G hsrc hold => ?_; obtain ⟨⟨_, _, ⟨h60, -⟩, -⟩, ⟨_, _, ⟨h67, -⟩, -⟩, ⟨_, _, ⟨h56, -⟩, -⟩, -⟩ := hsrc; exact ⟨_, h56, (fun _ => y_eqlBool (by kernel_rfl) h60 h67 (c := false) (by cases ct <;> rfl) y_eq), fun h => absurd rfl h⟩
    · refine due_plain fun ρ w1 G hsrc hold => ?_; obtain ⟨⟨_, _, ⟨h56, -⟩, -⟩, ⟨_, _, ⟨h68, -⟩, -⟩, -⟩ := hsrc; exact y_pickF h56 h68 y_eq
    · refine due_plain fun ρ w1 G hsrc hold => ?_; obtain ⟨⟨_, _, ⟨h69, -⟩, -⟩, -⟩ := hsrc; exact y_move h69 y_eq
    · refine due_guard fun ρ w1 G hsrc hold => ?_; obtain ⟨⟨_, _, ⟨h70, -⟩, -⟩, -⟩ := hsrc; obtain ⟨o0, -⟩ := hold; exact ⟨_, h70, (fun _ => y_move (o0.trans (A.g 0 rfl)) y_eq), fun h => absurd rfl h⟩
    · refine due_guard fun ρ w1 G hsrc hold => ?_; obtain ⟨⟨_, _, ⟨h70, -⟩, -⟩, -⟩ := hsrc; obtain ⟨o8, -⟩ := hold; exact ⟨_, h70, (fun _ => y_move (o8.trans (A.g 8 rfl)) y_eq), fun h => absurd rfl h⟩
    · refine due_guard fun ρ w1 G hsrc hold => ?_; obtain ⟨⟨_, _, ⟨h70, -⟩, -⟩, -⟩ := hsrc; obtain ⟨o7, -⟩ := hold; exact ⟨_, h70, (fun _ => y_move (o7.trans (A.g 7 rfl)) y_eq), fun h => absurd rfl h⟩
    · refine due_guard fun ρ w1 G hsrc hold => ?_; obtain ⟨⟨_, _, ⟨h71, -⟩, -⟩, ⟨_, _, ⟨h72, -⟩, -⟩, ⟨_, _, ⟨h73, -⟩, -⟩, ⟨_, _, ⟨h70, -⟩, -⟩, -⟩ := hsrc; exact ⟨_, h70, (fun _ => y_call3 (by kernel_rfl) (G.func _) h71 h72 h73 (hop2 _ (S.kp.to_gr.trans G.gr))), fun h => absurd rfl h⟩
    · refine due_guard fun ρ w1 G hsrc hold => ?_; obtain ⟨⟨_, _, ⟨h70, -⟩, -⟩, -⟩ := hsrc; obtain ⟨o1, -⟩ := hold; exact ⟨_, h70, (fun _ => y_move (o1.trans (A.g 1 rfl)) y_eq), fun h => absurd rfl h⟩
    · refine due_guard fun ρ w1 G hsrc hold => ?_; obtain ⟨⟨_, _, ⟨h75, -⟩, -⟩, ⟨_, _, ⟨h70, -⟩, -⟩, -⟩ := hsrc; exact ⟨_, h70, (fun _ => y_nilCheck h75 y_eq), fun h => absurd rfl h⟩
    · refine due_guard fun ρ w1 G hsrc hold => ?_; obtain ⟨⟨_, _, ⟨h76, -⟩, -⟩, ⟨_, _, ⟨h70, -⟩, -⟩, -⟩ := hsrc; exact ⟨_, h70, (fun _ => y_fieldAddr (off := 2) (j := 2) (by kernel_rfl) h76 (by first | rfl | omega) y_eq), fun h => absurd rfl h⟩
    · refine due_guard fun ρ w1 G hsrc hold => ?_; obtain ⟨⟨_, _, ⟨h77, -⟩, -⟩, ⟨_, _, ⟨h70, -⟩, -⟩, -⟩ := hsrc; exact ⟨_, h70, (fun _ => y_load (by kernel_rfl) h77 ((cell_of (G.gr.heap' (S.kp.heap' hp (by simp))) _).trans rfl) y_eq), fun h => absurd rfl h⟩
    · refine due_guard fun ρ w1 G hsrc hold => ?_; obtain ⟨⟨_, _, ⟨h70, -⟩, -⟩, -⟩ := hsrc; obtain ⟨o6, -⟩ := hold; exact ⟨_, h70, (fun _ => y_move (o6.trans (A.g 6 rfl)) y_eq), fun h => absurd rfl h⟩
    · refine due_guard fun ρ w1 G hsrc hold => ?_; obtain ⟨⟨_, _, ⟨h78, -⟩, -⟩, ⟨_, _, ⟨h79, -⟩, -⟩, ⟨_, _, ⟨h70, -⟩, -⟩, -⟩ := hsrc; exact ⟨_, h70, (fun _ => y_indexA (e := 4) (size := 1) (by kernel_rfl) (by kernel_rfl) h78 h79 (by omega) (by omega) y_eq), fun h => absurd rfl h⟩
    · refine due_guard fun ρ w1 G hsrc hold => ?_; obtain ⟨⟨_, _, ⟨h80, -⟩, -⟩, ⟨_, _, ⟨h70, -⟩, -⟩, -⟩ := hsrc; exact ⟨_, h70, (fun _ => y_load (by kernel_rfl) h80 (G.gr.cell' (S.kp.cell' hcell (by simp))) y_eq), fun h => absurd rfl h⟩
    · refine due_guard fun ρ w1 G hsrc hold => ?_; obtain ⟨⟨_, _, ⟨h74, -⟩, -⟩, ⟨_, _, ⟨h81, -⟩, -⟩, ⟨_, _, ⟨h70, -⟩, -⟩, -⟩ := hsrc; exact ⟨_, h70, (fun _ => y_eqlBool (by kernel_rfl) h74 h81 (c := false) (by cases ct <;> rfl) y_eq), fun h => absurd rfl h⟩
    · refine due_plain fun ρ w1 G hsrc hold => ?_; obtain ⟨⟨_, _, ⟨h70, -⟩, -⟩, ⟨_, _, ⟨h82, -⟩, -⟩, -⟩ := hsrc; exact y_pickF h70 h82 y_eq
    · refine due_plain fun ρ w1 G hsrc hold => ?_; obtain ⟨⟨_, _, ⟨h83, -⟩, -⟩, -⟩ := hsrc; exact y_move h83 y_eq
    · refine due_guard fun ρ w1 G hsrc hold => ?_; obtain ⟨⟨_, _, ⟨h84, -⟩, -⟩, -⟩ := hsrc; obtain ⟨o0, -⟩ := hold; exact ⟨_, h84, (fun _ => y_move (o0.trans (A.g 0 rfl)) y_eq), fun h => absurd rfl h⟩
    · refine due_guard fun ρ w1 G hsrc hold => ?_; obtain ⟨⟨_, _, ⟨h84, -⟩, -⟩, -⟩ := hsrc; obtain ⟨o7, -⟩ := hold; exact ⟨_, h84, (fun _ => y_move (o7.trans (A.g 7 rfl)) y_eq), fun h => absurd rfl h⟩
    · refine due_guard fun ρ w1 G hsrc hold => ?_; obtain ⟨⟨_, _, ⟨h84, -⟩, -⟩, -⟩ := hsrc; obtain ⟨o8, -⟩ := hold; exact ⟨_, h84, (fun _ => y_move (o8.trans (A.g 8 rfl)) y_eq), fun h => absurd rfl h⟩
    · refine due_guard fun ρ w1 G hsrc hold => ?_; obtain ⟨⟨_, _, ⟨h85, -⟩, -⟩, ⟨_, _, ⟨h86, -⟩, -⟩, ⟨_, _, ⟨h87, -⟩, -⟩, ⟨_, _, ⟨h84, -⟩, -⟩, -⟩ := hsrc; exact ⟨_, h84, (fun _ => y_call3 (by kernel_rfl) (G.func _) h85 h86 h87 (hln1 _ (S.kp.to_gr.trans G.gr))), fun h => absurd rfl h⟩
    · refine due_guard fun ρ w1 G hsrc hold => ?_; obtain ⟨⟨_, _, ⟨h84, -⟩, -⟩, -⟩ := hsrc; obtain ⟨o1, -⟩ := hold; exact ⟨_, h84, (fun _ => y_move (o1.trans (A.g 1 rfl)) y_eq), fun h => absurd rfl h⟩
    · refine due_guard fun ρ w1 G hsrc hold => ?_; obtain ⟨⟨_, _, ⟨h84, -⟩, -⟩, -⟩ := hsrc; obtain ⟨o7, -⟩ := hold; exact ⟨_, h84, (fun _ => y_move (o7.trans (A.g 7 rfl)) y_eq), fun h => absurd rfl h⟩
    · refine due_guard fun ρ w1 G hsrc hold => ?_; obtain ⟨⟨_, _, ⟨h84, -⟩, -⟩, -⟩ := hsrc; obtain ⟨o8, -⟩ := hold; exact ⟨_, h84, (fun _ => y_move (o8.trans (A.g 8 rfl)) y_eq), fun h => absurd rfl h⟩
    · refine due_guard fun ρ w1 G hsrc hold => ?_; obtain ⟨⟨_, _, ⟨h89, -⟩, -⟩, ⟨_, _, ⟨h90, -⟩, -⟩, ⟨_, _, ⟨h91, -⟩, -⟩, ⟨_, _, ⟨h84, -⟩, -⟩, -⟩ := hsrc; exact ⟨_, h84, (fun _ => y_call3 (by kernel_rfl) (G.func _) h89 h90 h91 (hrl _ _ _ (S.kp.to_gr.trans G.gr))), fun h => absurd rfl h⟩
    · refine due_guard fun ρ w1 G hsrc hold => ?_; obtain ⟨⟨_, _, ⟨h88, -⟩, -⟩, ⟨_, _, ⟨h92, -⟩, -⟩, ⟨_, _, ⟨h84, -⟩, -⟩, -⟩ := hsrc; exact ⟨_, h84, (fun _ => y_neq h88 h92 (c := false) (by simp) y_eq), fun h => absurd rfl h⟩
    · refine due_plain fun ρ w1 G hsrc hold => ?_; obtain ⟨⟨_, _, ⟨h84, -⟩, -⟩, ⟨_, _, ⟨h93, -⟩, -⟩, -⟩ := hsrc; exact y_pickF h84 h93 y_eq
    · refine due_plain fun ρ w1 G hsrc hold => ?_; obtain ⟨⟨_, _, ⟨h94, -⟩, -⟩, -⟩ := hsrc; exact y_move h94 y_eq
    · refine due_guard fun ρ w1 G hsrc hold => ?_; obtain ⟨⟨_, _, ⟨h95, -⟩, -⟩, -⟩ := hsrc; obtain ⟨o0, -⟩ := hold; exact ⟨_, h95, (fun _ => y_move (o0.trans (A.g 0 rfl)) y_eq), fun h => absurd rfl h⟩
    · refine due_guard fun ρ w1 G hsrc hold => ?_; obtain ⟨⟨_, _, ⟨h95, -⟩, -⟩, -⟩ := hsrc; obtain ⟨o8, -⟩ := hold; exact ⟨_, h95, (fun _ => y_move (o8.trans (A.g 8 rfl)) y_eq), fun h => absurd rfl h⟩
    · refine due_guard fun ρ w1 G hsrc hold => ?_; obtain ⟨⟨_, _, ⟨h95, -⟩, -⟩, -⟩ := hsrc; obtain ⟨o7, -⟩ := hold; exact ⟨_, h95, (fun _ => y_move (o7.trans (A.g 7 rfl)) y_eq), fun h => absurd rfl h⟩
    · refine due_guard fun ρ w1 G hsrc hold => ?_; obtain ⟨⟨_, _, ⟨h96, -⟩, -⟩, ⟨_, _, ⟨h97, -⟩, -⟩, ⟨_, _, ⟨h98, -⟩, -⟩, ⟨_, _, ⟨h95, -⟩, -⟩, -⟩ := hsrc; exact ⟨_, h95, (fun _ => y_call3 (by kernel_rfl) (G.func _) h96 h97 h98 (hln2 _ (S.kp.to_gr.trans G.gr))), fun h => absurd rfl h⟩
    · refine due_guard fun ρ w1 G hsrc hold => ?_; obtain ⟨⟨_, _, ⟨h95, -⟩, -⟩, -⟩ := hsrc; obtain ⟨o1, -⟩ := hold; exact ⟨_, h95, (fun _ => y_move (o1.trans (A.g 1 rfl)) y_eq), fun h => absurd rfl h⟩
    · refine due_guard fun ρ w1 G hsrc hold => ?_; obtain ⟨⟨_, _, ⟨h95, -⟩, -⟩, -⟩ := hsrc; obtain ⟨o8, -⟩ := hold; exact ⟨_, h95, (fun _ => y_move (o8.trans (A.g 8 rfl)) y_eq), fun h => absurd rfl h⟩
    · refine due_guard fun ρ w1 G hsrc hold => ?_; obtain ⟨⟨_, _, ⟨h95, -⟩, -⟩, -⟩ := hsrc; obtain ⟨o7, -⟩ := hold; exact ⟨_, h95, (fun _ => y_move (o7.trans (A.g 7 rfl)) y_eq), fun h => absurd rfl h⟩
    · refine due_guard fun ρ w1 G hsrc hold => ?_; obtain ⟨⟨_, _, ⟨h100, -⟩, -⟩, ⟨_, _, ⟨h101, -⟩, -⟩, ⟨_, _, ⟨h102, -⟩, -⟩, ⟨_, _, ⟨h95, -⟩, -⟩, -⟩ := hsrc; exact ⟨_, h95, (fun _ => y_call3 (by kernel_rfl) (G.func _) h100 h101 h102 (hrl _ _ _ (S.kp.to_gr.trans G.gr))), fun h => absurd rfl h⟩
    · refine due_guard fun ρ w1 G hsrc hold => ?_; obtain ⟨⟨_, _, ⟨h99, -⟩, -⟩, ⟨_, _, ⟨h103, -⟩, -⟩, ⟨_, _, ⟨h95, -⟩, -⟩, -⟩ := hsrc; exact ⟨_, h95, (fun _ => y_neq h99 h103 (c := false) (by simp) y_eq), fun h => absurd rfl h⟩
    · refine due_plain fun ρ w1 G hsrc hold => ?_; obtain ⟨⟨_, _, ⟨h95, -⟩, -⟩, ⟨_, _, ⟨h104, -⟩, -⟩, -⟩ := hsrc; exact y_pickF h95 h104 y_eq
    rintro _ _ ⟨rfl, rfl⟩ _ _ ⟨rfl, rfl⟩ _ _ ⟨rfl, rfl⟩ _ _ ⟨rfl, rfl⟩ _ _ ⟨rfl, rfl⟩ _ _ ⟨rfl, rfl⟩ _ _ ⟨rfl, rfl⟩ _ _ ⟨rfl, rfl⟩ _ _ ⟨rfl, rfl⟩ _ _ ⟨rfl, rfl⟩ _ _ ⟨rfl, rfl⟩ _ _ ⟨rfl, rfl⟩ _ _ ⟨rfl, rfl⟩ _ _ ⟨rfl, rfl⟩ _ _ ⟨rfl, rfl⟩ _ _ ⟨rfl, rfl⟩ _ _ ⟨rfl, rfl⟩ _ _ ⟨rfl, rfl⟩ _ _ ⟨rfl, rfl⟩ _ _ ⟨rfl, rfl⟩ _ _ ⟨rfl, rfl⟩ _ _ ⟨rfl, rfl⟩ _ _ ⟨rfl, rfl⟩ _ _ ⟨rfl, rfl⟩ _ _ ⟨rfl, rfl⟩ _ _ ⟨rfl, rfl⟩ _ _ ⟨rfl, rfl⟩ _ _ ⟨rfl, rfl⟩ _ _ ⟨rfl, rfl⟩ _ _ ⟨rfl, rfl⟩ _ _ ⟨rfl, rfl⟩ _ _ ⟨rfl, rfl⟩ _ _ ⟨rfl, rfl⟩ _ _ ⟨rfl, rfl⟩ _ _ ⟨rfl, rfl⟩ _ _ ⟨rfl, rfl⟩ _ _ ⟨rfl, rfl⟩ _ _ ⟨rfl, rfl⟩ _ _ ⟨rfl, rfl⟩ _ _ ⟨rfl, rfl⟩ _ _ ⟨rfl, rfl⟩ _ _ ⟨rfl, rfl⟩ _ _ ⟨rfl, rfl⟩ _ _ ⟨rfl, rfl⟩ _ _ ⟨rfl, rfl⟩ _ _ ⟨rfl, rfl⟩ _ _ ⟨rfl, rfl⟩ _ _ ⟨rfl, rfl⟩ _ _ ⟨rfl, rfl⟩ _ _ ⟨rfl, rfl⟩ _ _ ⟨rfl, rfl⟩ _ _ ⟨rfl, rfl⟩ _ _ ⟨rfl, rfl⟩ _ _ ⟨rfl, rfl⟩ _ _ ⟨rfl, rfl⟩ _ _ ⟨rfl, rfl⟩ _ _ ⟨rfl, rfl⟩ _ _ ⟨rfl, rfl⟩ _ _ ⟨rfl, rfl⟩ _ _ ⟨rfl, rfl⟩ _ _ ⟨rfl, rfl⟩ _ _ ⟨rfl, rfl⟩
    intro ac w A gG nN
    replace S : St _ _ _ [(kb, .cells cs 28 (0, 0))] := S.new gG nN
    replace A := A.only [105, 31, 8, 7, 6, 5, 1, 0] rfl
    refine hK12 _ _ ?_
    refine wp_cond_false (A.get rfl) ?_
    refine wp_skip ?_
    refine hK11 _ _ ?_
    refine region_seq ?_  -- region 10
    refine Lm A rfl (A.g 5 rfl) fun _ A => Lm A rfl (A.g 6 rfl) fun _ A => Lo A rfl (y_build2 (evc _ _) (evc _ _) (v := .agg #[.int .i64 7, .int .i64 7]) (by kernel_rfl) fun _ A => ?_)
    refine Lo A rfl (y_indexS (e := 28) (size := 2) (j := i * 2) (by kernel_rfl) (by kernel_rfl) (A.g 106 rfl) (A.g 107 rfl) (by omega) (by omega) (by simp) fun _ A => ?_)
    refine L_opN A rfl rfl (y_store 2 (by kernel_rfl) (A.g 109 rfl) (A.g 108 rfl) (S.get 0 rfl) rfl (by omega) (one_all rfl) ?_)
    replace S : St _ _ _ [(kb, .cells (setCs cs (i * 2) [.int .i64 7, .int .i64 7]) 28 (0, 0))] := S.setAt 0 rfl _
    replace A := A.only [105, 31, 8, 7, 6, 5, 1, 0] rfl
    refine hK9 _ _ ?_
    refine region_seq ?_  -- region 6
    refine Lm A rfl (A.g 6 rfl) fun _ A => Lo A rfl (y_add (A.g 32 rfl) (evc _ _) (c := ((i + 1 : Nat) : Int)) ((wrap64 (by omega)).trans (by omega)) fun _ A => ?_)
    refine La A rfl (A.g 33 rfl) fun _ A => ?_
    replace A := A.only [105, 31, 8, 7, 6, 5, 1, 0] rfl
    replace A := A.only [6, 5, 1, 0] rfl
    have hK2 := pair_set (L := List.replicate i ((7, 7) : Int × Int) ++ R.links.drop i) (kb := kb) hcs (by rw [hLl]; exact hncap) (by rw [hLl]; exact htake) (by rw [hLl]; exact hi) (7, 7) rfl
    rw [List.length_set, hsv2, hLl] at hK2
    exact ⟨kk - 1, by omega, i + 1, _, by omega, hK2, A, S⟩
  · obtain rfl : i = R.links.length := by omega
    refine wp_seq_k fun K7 hK7 => ?_
    refine wp_seq_k fun K8 hK8 => ?_
    refine region_seq ?_  -- region 5
    refine Lm A rfl (A.g 6 rfl) fun _ A => Lm A rfl (A.g 5 rfl) fun _ A => Lo A rfl (y_lenS (e := 28) (by kernel_rfl) (A.g 29 rfl) fun _ A => ?_)
    refine Lo A rfl (y_lss (A.g 28 rfl) (A.g 30 rfl) (c := false) (decide_eq_false (by omega)) fun _ A => ?_)
    replace A := A.only [31, 6, 5, 1, 0] rfl
    refine hK8 _ _ ?_
    refine wp_cond_false (A.get rfl) ?_
    refine wp_exit ?_
    refine hK5 _ _ ?_
    refine wp_seq_k fun K9 hK9 => ?_
    refine region_seq ?_  -- region 11
    refine La A rfl (evc _ _) fun _ A => ?_
    replace A := A.only [31, 6, 5, 4, 1, 0] rfl
    refine hK9 _ _ ?_
    exact wp_ret ⟨A.defers, _, res_run (rs := [.tmp 4]) (vs := [.bool true]) rfl ⟨A.get rfl, trivial⟩, ⟨_, rfl, S.kp.to_gr, [], ⟨rfl, rfl⟩, NewF.nil _ _⟩⟩
end Go.Proofs.Ytaeidblipdjgnaa
