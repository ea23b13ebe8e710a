import Derived.Test.YtaeidblipdjgnaaSendE
namespace Go.Proofs.Ytaeidblipdjgnaa
open Go.RowKit Go.Maps Go.WideMaps
section
variable {p : Nat} {m : M} {H : Frag} {w : World} {a b : Int} {v : Value} {bs : List UInt8}

theorem itCells_snoc (l : List It) (i : It) : itCells (l ++ [i]) = itCells l ++ [i.v, .bool i.sp] := by simp [itCells]
theorem itH_snoc (l : List It) (i : It) : itH (l ++ [i]) = itH l ++ i.H := by simp [itH]
theorem itQ_snoc (l : List It) (i : It) : itQ (l ++ [i]) = itQ l ++ [(i.bs, i.sp)] := by simp [itQ]

set_option maxRecDepth 20000 in
set_option maxHeartbeats 4000000 in
theorem send_yes (h : NetRep p m H) (nd : (keys H).Nodup) (hH : Holds w H) (hk : goodK (ends a b)) (hk' : goodK (a, b)) (hv : BSrc w v bs) (hd : Off v (keys H)) (hn : m.link (ends a b) = some false) (hb : bs.length ≤ 512) (hf : (m.q (a, b)).length < 24) :
    Calls Try.prog 11 #[.pointer (some ⟨p, 0, none⟩), .int .i64 a, .int .i64 b, v] w (RetW (keys H) w fun r H' => r = .int .i64 0 ∧ NetRep p (m.setq (a, b) (m.q (a, b) ++ [(bs, false)])) H') := by
  obtain ⟨va, vc, rfl⟩ := hv.slice
  obtain ⟨vo, Ho, rl, ol, ls, rq, oq, es, h, rfl⟩ := h
  obtain ⟨hc, ho⟩ := link_some h.lk hn
  obtain ⟨v0, its, HQ, H2, hv0, hsl, hits, hok, hperm, hput, -⟩ := h.zoom (a, b)
  obtain ⟨qa, qc, hlq⟩ := h.lookq (a, b)
  have hlen : its.length = (m.q (a, b)).length := by rw [← hits, itQ_length]
  have S0 := St.start nd hH
  refine enter Try.func11 rfl (n := 54) rfl (Nat.le_of_ble_eq_true rfl) fun _ A => ?_
  have S : St _ _ _ ([(p, .cells #[.int .i64 m.nodes, vo, .map (some rl), .map (some rq)] 69 (0, 0)), (rl, ol), (rq, oq)] ++ (HQ ++ (Ho ++ (itH its ++ H2)))) := S0.last (L := [_, _, _]) ((List.Perm.append_left Ho hperm).trans (List.perm_append_comm_assoc Ho HQ _))
  refine wp_seq_k fun K1 hK1 => ?_
  refine region_seq ?_  -- region 0
  refine La A rfl (evc _ _) fun _ A => ?_
  replace A := A.only [8, 3, 2, 1, 0] rfl
  refine hK1 _ _ ?_
  refine wp_seq_k fun K2 hK2 => ?_
  refine region_seq ?_  -- region 1
  refine Lm A rfl (A.g 0 rfl) fun _ A => Lm A rfl (A.g 1 rfl) fun _ A => Lm A rfl (A.g 2 rfl) fun _ A => Lo A rfl (y_call3 (by kernel_rfl) rfl (A.g 13 rfl) (A.g 14 rfl) (A.g 15 rfl) (callN (link_ok (S.get 0 rfl) (S.get 1 rfl) h.lm hk hc ho) fun v w H gG nN hf ac A => ?_))
  obtain ⟨rfl, rfl⟩ := hf
  replace S : St _ _ _ ([(p, .cells #[.int .i64 m.nodes, vo, .map (some rl), .map (some rq)] 69 (0, 0)), (rl, ol), (rq, oq)] ++ (HQ ++ (Ho ++ ((itH its) ++ H2)))) := (S.new gG nN).perm (by first | exact .refl _ | (rw [List.append_assoc]; exact .refl _) | (simp only [List.append_assoc, List.nil_append, List.append_nil]; exact .refl _))
  replace A := A.only [16, 8, 3, 2, 1, 0] rfl
  refine Lm A rfl (A.g 16 rfl) fun _ A => Lo A rfl (y_extract (A.g 12 rfl) rfl fun _ A => ?_)
  refine Lo A rfl (y_extract (A.g 12 rfl) rfl fun _ A => ?_)
  refine Lo A rfl (y_allocN (z := .agg #[.bool false]) (by kernel_rfl) fun b1 w gG nN ac A => ?_)
  replace S : St _ _ _ ([(b1, .cells #[.bool false] 79 (0, 0)), (p, .cells #[.int .i64 m.nodes, vo, .map (some rl), .map (some rq)] 69 (0, 0)), (rl, ol), (rq, oq)] ++ (HQ ++ (Ho ++ ((itH its) ++ H2)))) := (S.new gG nN).perm (by first | exact .refl _ | (rw [List.append_assoc]; exact .refl _) | (simp only [List.append_assoc, List.nil_append, List.append_nil]; exact .refl _))
  replace A := A.only [18, 17, 9, 8, 3, 2, 1, 0] rfl
  refine L_opN A rfl rfl (y_store 1 (by kernel_rfl) (A.g 9 rfl) (A.g 17 rfl) (S.get 0 rfl) rfl (Nat.le_of_ble_eq_true rfl) (one_all rfl) ?_)
  replace S : St _ _ _ ([(b1, .cells #[.bool false] 79 (0, 0)), (p, .cells #[.int .i64 m.nodes, vo, .map (some rl), .map (some rq)] 69 (0, 0)), (rl, ol), (rq, oq)] ++ (HQ ++ (Ho ++ ((itH its) ++ H2)))) := S.setAt 0 rfl _
  refine La A rfl (A.g 18 rfl) fun _ A => ?_
  replace A := A.only [10, 9, 8, 3, 2, 1, 0] rfl
  refine hK2 _ _ ?_
  refine wp_seq_k fun K3 hK3 => ?_
  refine region_seq ?_  -- region 2
  refine Lm A rfl (A.g 1 rfl) fun _ A => Lm A rfl (A.g 2 rfl) fun _ A => Lo A rfl (y_build2 (A.g 19 rfl) (A.g 20 rfl) (v := .agg #[.int .i64 a, .int .i64 b]) (by kernel_rfl) fun _ A => ?_)
  refine Lo A rfl (y_allocN (z := .agg #[.int .i64 0, .int .i64 0]) (by kernel_rfl) fun b2 w gG nN ac A => ?_)
  replace S : St _ _ _ ([(b2, .cells #[.int .i64 0, .int .i64 0] 28 (0, 0)), (b1, .cells #[.bool false] 79 (0, 0)), (p, .cells #[.int .i64 m.nodes, vo, .map (some rl), .map (some rq)] 69 (0, 0)), (rl, ol), (rq, oq)] ++ (HQ ++ (Ho ++ ((itH its) ++ H2)))) := (S.new gG nN).perm (by first | exact .refl _ | (rw [List.append_assoc]; exact .refl _) | (simp only [List.append_assoc, List.nil_append, List.append_nil]; exact .refl _))
  refine L_opN A rfl rfl (y_store 2 (by kernel_rfl) (A.g 11 rfl) (A.g 21 rfl) (S.get 0 rfl) rfl (Nat.le_of_ble_eq_true rfl) (one_all rfl) ?_)
  replace S : St _ _ _ ([(b2, .cells #[.int .i64 a, .int .i64 b] 28 (0, 0)), (b1, .cells #[.bool false] 79 (0, 0)), (p, .cells #[.int .i64 m.nodes, vo, .map (some rl), .map (some rq)] 69 (0, 0)), (rl, ol), (rq, oq)] ++ (HQ ++ (Ho ++ ((itH its) ++ H2)))) := S.setAt 0 rfl _
  replace A := A.only [11, 10, 9, 8, 3, 2, 1, 0] rfl
  refine hK3 _ _ ?_
  refine wp_seq_k fun K4 hK4 => ?_
  refine wp_block ?_
  refine wp_seq_k fun K5 hK5 => ?_
  refine region_seq ?_  -- region 3
  refine Lm A rfl (A.g 10 rfl) fun _ A => Lo A rfl (y_not (A.g 23 rfl) rfl fun _ A => ?_)
  refine La A rfl (A.g 24 rfl) fun _ A => ?_
  replace A := A.only [22, 11, 10, 9, 8, 3, 2, 1, 0] rfl
  refine hK5 _ _ ?_
  refine wp_cond_false (A.get rfl) ?_
  refine wp_seq_k fun K6 hK6 => ?_
  refine region_seq ?_  -- region 5
  refine Lo A rfl (y_fieldAddr (off := 0) (j := 0) (by kernel_rfl) (A.g 9 rfl) (by first | rfl | omega) fun _ A => ?_)
  refine Lo A rfl (y_load (by kernel_rfl) (A.g 26 rfl) ((cell_of (S.get 1 rfl) _).trans rfl) fun _ A => ?_)
  refine La A rfl (A.g 27 rfl) fun _ A => ?_
  replace A := A.only [25, 22, 11, 10, 9, 8, 3, 2, 1, 0] rfl
  refine hK6 _ _ ?_
  refine wp_cond_false (A.get rfl) ?_
  refine wp_seq_k fun K7 hK7 => ?_
  refine region_seq ?_  -- region 7
  refine Lm A rfl (A.g 3 rfl) fun _ A => Lo A rfl (y_lenS (e := 5) (by kernel_rfl) (A.g 29 rfl) fun _ A => ?_)
  refine Lo A rfl (y_gtr (A.g 30 rfl) (evc _ _) (c := false) (decide_eq_false (by omega)) fun _ A => ?_)
  refine La A rfl (A.g 31 rfl) fun _ A => ?_
  replace A := A.only [28, 25, 22, 11, 10, 9, 8, 3, 2, 1, 0] rfl
  refine hK7 _ _ ?_
  refine wp_cond_false (A.get rfl) ?_
  refine wp_seq_k fun K8 hK8 => ?_
  refine region_draw A [⟨33, pl (eqv (.pointer (some ⟨p, 0, none⟩))), [], [0], none, false⟩, ⟨34, pl (eqv (.pointer (some ⟨p, 0, none⟩))), [0], [], none, false⟩, ⟨35, pl (eqv (.pointer (some ⟨p, 3, none⟩))), [1], [], none, false⟩, ⟨36, pl (eqv (.map (some rq))), [2], [], none, false⟩, ⟨37, pl (eqv (.agg #[.int .i64 a, .int .i64 b])), [], [11], none, false⟩, ⟨38, pl (eqv (.slice qa (m.q (a, b)).length qc)), [3, 4], [], none, false⟩, ⟨39, pl (eqv (.int .i64 ((m.q (a, b)).length))), [5], [], none, false⟩, ⟨40, pl (eqv (.bool false)), [6], [], none, false⟩, ⟨32, pl (eqv (.bool false)), [7], [], none, false⟩] [] (by kernel_rfl) (by kernel_rfl) (fun d _ _ _ _ h => by cases d <;> exact h) ⟨?_, ?_, ?_, ?_, ?_, ?_, ?_, ?_, ?_, trivial⟩ ?_  -- region 9
  · refine due_plain fun ρ w1 G hsrc hold => ?_; obtain ⟨o0, -⟩ := hold; exact y_move (o0.trans (A.g 0 rfl)) y_eq
  · refine due_plain fun ρ w1 G hsrc hold => ?_; obtain ⟨⟨_, _, ⟨h33, -⟩, -⟩, -⟩ := hsrc; exact y_nilCheck h33 y_eq
  · refine due_plain fun ρ w1 G hsrc hold => ?_; obtain ⟨⟨_, _, ⟨h34, -⟩, -⟩, -⟩ := hsrc; exact y_fieldAddr (off := 3) (j := 3) (by kernel_rfl) h34 (by first | rfl | omega) y_eq
  · refine due_plain fun ρ w1 G hsrc hold => ?_; obtain ⟨⟨_, _, ⟨h35, -⟩, -⟩, -⟩ := hsrc; exact y_load (by kernel_rfl) h35 ((cell_of (G.gr.heap' (S.get 2 rfl)) _).trans rfl) y_eq
  · refine due_plain fun ρ w1 G hsrc hold => ?_; obtain ⟨o11, -⟩ := hold; exact y_loadAgg [.int .i64 a, .int .i64 b] (by kernel_rfl) (o11.trans (A.g 11 rfl)) (cells_at (G.gr.heap' (S.get 0 rfl)) rfl) y_eq
  · refine due_plain fun ρ w1 G hsrc hold => ?_; obtain ⟨⟨_, _, ⟨h36, -⟩, -⟩, ⟨_, _, ⟨h37, -⟩, -⟩, -⟩ := hsrc; exact y_lookup h36 h37 (look_queue (G.gr.heap' (S.get 4 rfl)) h.qm (a, b) hk' hlq) y_eq
  · refine due_plain fun ρ w1 G hsrc hold => ?_; obtain ⟨⟨_, _, ⟨h38, -⟩, -⟩, -⟩ := hsrc; exact y_lenS (e := 85) (by kernel_rfl) h38 y_eq
  · refine due_plain fun ρ w1 G hsrc hold => ?_; obtain ⟨⟨_, _, ⟨h39, -⟩, -⟩, -⟩ := hsrc; exact y_geq h39 (G.const _) (c := false) (decide_eq_false (by omega)) y_eq
  · refine due_plain fun ρ w1 G hsrc hold => ?_; obtain ⟨⟨_, _, ⟨h40, -⟩, -⟩, -⟩ := hsrc; exact y_assign h40 y_eq
  rintro _ _ ⟨rfl, rfl⟩ _ _ ⟨rfl, rfl⟩ _ _ ⟨rfl, rfl⟩ _ _ ⟨rfl, rfl⟩ _ _ ⟨rfl, rfl⟩ _ _ ⟨rfl, rfl⟩ _ _ ⟨rfl, rfl⟩ _ _ ⟨rfl, rfl⟩ _ _ ⟨rfl, rfl⟩
  intro ac w A gG nN
  replace S : St _ _ _ ([(b2, .cells #[.int .i64 a, .int .i64 b] 28 (0, 0)), (b1, .cells #[.bool false] 79 (0, 0)), (p, .cells #[.int .i64 m.nodes, vo, .map (some rl), .map (some rq)] 69 (0, 0)), (rl, ol), (rq, oq)] ++ (HQ ++ (Ho ++ ((itH its) ++ H2)))) := (S.new gG nN).perm (by first | exact .refl _ | (rw [List.append_assoc]; exact .refl _) | (simp only [List.append_assoc, List.nil_append, List.append_nil]; exact .refl _))
  replace A := A.only [32, 28, 25, 22, 11, 10, 9, 8, 3, 2, 1, 0] rfl
  refine hK8 _ _ ?_
  refine wp_cond_false (A.get rfl) ?_
  refine wp_skip ?_
  refine hK4 _ _ ?_
  refine wp_seq_k fun K9 hK9 => ?_
  refine region_draw A [⟨41, pl (eqv (.pointer (some ⟨p, 0, none⟩))), [], [0], none, false⟩, ⟨42, pl (eqv (.pointer (some ⟨p, 0, none⟩))), [0], [], none, false⟩, ⟨43, pl (eqv (.pointer (some ⟨p, 3, none⟩))), [1], [], none, false⟩, ⟨44, pl (eqv (.map (some rq))), [2], [], none, false⟩, ⟨45, pl (eqv (.agg #[.int .i64 a, .int .i64 b])), [], [11], none, false⟩, ⟨47, pl (eqv (.slice va bs.length vc)), [], [3], none, false⟩, ⟨48, pl (fun v H => BRep v bs H), [5], [], none, false⟩, ⟨49, (fun l v H => v = .agg #[l.getD 0 undef, .bool false] ∧ H = []), [6], [], none, false⟩, ⟨50, (fun l v H => ∃ b, v = .slice (some ⟨b, 0, none⟩) 1 1 ∧ H = [(b, .cells (l.getD 0 undef).cells 85)]), [7], [], none, false⟩] [(9, false), (10, true), (12, true), (11, false), (13, false)] (by kernel_rfl) (by kernel_rfl) (fun d _ _ _ _ h => by cases d <;> exact h) ⟨?_, ?_, ?_, ?_, ?_, ?_, ?_, ?_, ?_, trivial⟩ ?_  -- region 11
  · refine due_plain fun ρ w1 G hsrc hold => ?_; obtain ⟨o0, -⟩ := hold; exact y_move (o0.trans (A.g 0 rfl)) y_eq
  · refine due_plain fun ρ w1 G hsrc hold => ?_; obtain ⟨⟨_, _, ⟨h41, -⟩, -⟩, -⟩ := hsrc; exact y_nilCheck h41 y_eq
  · refine due_plain fun ρ w1 G hsrc hold => ?_; obtain ⟨⟨_, _, ⟨h42, -⟩, -⟩, -⟩ := hsrc; exact y_fieldAddr (off := 3) (j := 3) (by kernel_rfl) h42 (by first | rfl | omega) y_eq
  · refine due_plain fun ρ w1 G hsrc hold => ?_; obtain ⟨⟨_, _, ⟨h43, -⟩, -⟩, -⟩ := hsrc; exact y_load (by kernel_rfl) h43 ((cell_of (G.gr.heap' (S.get 2 rfl)) _).trans rfl) y_eq
  · refine due_plain fun ρ w1 G hsrc hold => ?_; obtain ⟨o11, -⟩ := hold; exact y_loadAgg [.int .i64 a, .int .i64 b] (by kernel_rfl) (o11.trans (A.g 11 rfl)) (cells_at (G.gr.heap' (S.get 0 rfl)) rfl) y_eq
  · refine due_plain fun ρ w1 G hsrc hold => ?_; obtain ⟨o3, -⟩ := hold; exact y_move (o3.trans (A.g 3 rfl)) y_eq
  · refine due_plain fun ρ w1 G hsrc hold => ?_; obtain ⟨⟨_, _, ⟨h47, -⟩, -⟩, -⟩ := hsrc; exact y_call1 (by kernel_rfl) (G.func _) h47 (clone_ok ((hv.kp S.kp hd).gr G.gr) (by omega))
  · refine due_plain fun ρ w1 G hsrc hold => ?_; obtain ⟨⟨_, _, h48, -⟩, -⟩ := hsrc; obtain ⟨ka, kc, h48⟩ := SlRep.len h48; exact y_build1 h48 (v := .agg #[.slice ka bs.length kc, .bool false]) (by kernel_rfl) ⟨Gr.refl _, [], ⟨congrArg (fun x => Value.agg #[x, .bool false]) h48.symm, rfl⟩, NewF.nil _ _⟩
  · refine due_plain fun ρ w1 G hsrc hold => ?_; obtain ⟨⟨_, _, ⟨h49, -⟩, -⟩, -⟩ := hsrc; exact y_buildSlice1 (e := 85) h49 (fun w => by kernel_rfl) (fun b w' g n => ⟨g, _, ⟨b, rfl, congrArg (fun x => [(b, Obj.cells (Value.cells x) 85)]) h49.symm⟩, n⟩)
  rintro _ _ ⟨rfl, rfl⟩ _ _ ⟨rfl, rfl⟩ _ _ ⟨rfl, rfl⟩ _ _ ⟨rfl, rfl⟩ _ _ ⟨rfl, rfl⟩ _ _ ⟨rfl, rfl⟩ vb Hb hB _ _ ⟨rfl, rfl⟩ _ _ ⟨b50, rfl, rfl⟩
  intro ac w A gG nN
  replace S : St _ _ _ ([(b50, .cells #[vb, .bool false] 85 (0, 0))] ++ (Hb ++ ([(b2, .cells #[.int .i64 a, .int .i64 b] 28 (0, 0)), (b1, .cells #[.bool false] 79 (0, 0)), (p, .cells #[.int .i64 m.nodes, vo, .map (some rl), .map (some rq)] 69 (0, 0)), (rl, ol), (rq, oq)] ++ (HQ ++ (Ho ++ ((itH its) ++ H2)))))) := (S.new gG nN).perm (by first | exact .refl _ | (rw [List.append_assoc]; exact .refl _) | (simp only [List.append_assoc, List.nil_append, List.append_nil]; exact .refl _))
  replace S : St _ _ _ ([(b50, .cells #[vb, .bool false] 85 (0, 0)), (b2, .cells #[.int .i64 a, .int .i64 b] 28 (0, 0)), (b1, .cells #[.bool false] 79 (0, 0)), (p, .cells #[.int .i64 m.nodes, vo, .map (some rl), .map (some rq)] 69 (0, 0)), (rl, ol), (rq, oq)] ++ (Hb ++ (HQ ++ (Ho ++ ((itH its) ++ H2))))) := S.swap1 (L := [(b50, .cells #[vb, .bool false] 85 (0, 0))]) (A := Hb) (B := [(b2, .cells #[.int .i64 a, .int .i64 b] 28 (0, 0)), (b1, .cells #[.bool false] 79 (0, 0)), (p, .cells #[.int .i64 m.nodes, vo, .map (some rl), .map (some rq)] 69 (0, 0)), (rl, ol), (rq, oq)])
  obtain ⟨oq1, sT, hrun, hm1, hstamp⟩ := run_entry (t := 67) (e := 82) Try.lawK kv_inj Try.underlying67 (z := .slice none 0 0) (by kernel_rfl) (S.get 5 rfl) h.qm (a, b) hk'
  rw [hv0] at hrun hm1
  refine Lo A rfl (y_mapEntry (A.g 44 rfl) (A.g 45 rfl) hrun fun _ A => ?_)
  replace S : St _ _ _ ([(b50, .cells #[vb, .bool false] 85 (0, 0)), (b2, .cells #[.int .i64 a, .int .i64 b] 28 (0, 0)), (b1, .cells #[.bool false] 79 (0, 0)), (p, .cells #[.int .i64 m.nodes, vo, .map (some rl), .map (some rq)] 69 (0, 0)), (rl, ol), (rq, oq1)] ++ (Hb ++ (HQ ++ (Ho ++ ((itH its) ++ H2))))) := S.setAt 5 rfl _
  refine L_pure A rfl (by decide) rfl (fun w1 => r_extract (A.g 51 rfl) rfl) fun _ A => ?_
  refine L_pure A rfl (by decide) rfl (fun w1 => r_extract (A.g 51 rfl) rfl) fun _ A => ?_
  have hsrc : Src _ 2 (.slice (some ⟨b50, 0, none⟩) 1 1) 1 [vb, .bool false] := ⟨rfl, Or.inr ⟨_, _, rfl, cells_at (S.get 0 rfl) rfl⟩⟩
  replace S := (S.swap1 (L := [(b50, .cells #[vb, .bool false] 85 (0, 0)), (b2, .cells #[.int .i64 a, .int .i64 b] 28 (0, 0)), (b1, .cells #[.bool false] 79 (0, 0)), (p, .cells #[.int .i64 m.nodes, vo, .map (some rl), .map (some rq)] 69 (0, 0)), (rl, ol), (rq, oq1)]) (A := Hb) (B := HQ)).swap (A := [(b50, .cells #[vb, .bool false] 85 (0, 0)), (b2, .cells #[.int .i64 a, .int .i64 b] 28 (0, 0)), (b1, .cells #[.bool false] 79 (0, 0)), (p, .cells #[.int .i64 m.nodes, vo, .map (some rl), .map (some rq)] 69 (0, 0)), (rl, ol), (rq, oq1)]) (B := HQ)
  refine Lo A rfl (y_append okDG (by kernel_rfl) (A.g 46 rfl) (A.g 50 rfl) (H := HQ) S hsl hsrc (by intro q hq; simp only [List.mem_cons, List.not_mem_nil, or_false] at hq; rcases hq with rfl | rfl; (obtain ⟨_, _, e⟩ := SlRep.len hB; rw [e]; rfl); rfl) (by omega) (by omega) fun v' w HQ' hr S ac A => ?_)
  replace S := S.swap (A := HQ') (B := [(b50, .cells #[vb, .bool false] 85 (0, 0)), (b2, .cells #[.int .i64 a, .int .i64 b] 28 (0, 0)), (b1, .cells #[.bool false] 79 (0, 0)), (p, .cells #[.int .i64 m.nodes, vo, .map (some rl), .map (some rq)] 69 (0, 0)), (rl, ol), (rq, oq1)])
  replace S : St _ _ _ ([(b50, .cells #[vb, .bool false] 85 (0, 0)), (b2, .cells #[.int .i64 a, .int .i64 b] 28 (0, 0)), (b1, .cells #[.bool false] 79 (0, 0)), (p, .cells #[.int .i64 m.nodes, vo, .map (some rl), .map (some rq)] 69 (0, 0)), (rl, ol), (rq, oq1)] ++ (HQ' ++ (Hb ++ (Ho ++ ((itH its) ++ H2))))) := S
  obtain ⟨oq2, hrun2, hm2⟩ := run_entryStore (t := 67) (S.get 5 rfl) kv_inj hm1 hstamp v'
  refine L_opN A rfl rfl (y_entryStore (A.g 44 rfl) (A.g 53 rfl) (A.g 52 rfl) hrun2 ?_)
  replace S : St _ _ _ ([(b50, .cells #[vb, .bool false] 85 (0, 0)), (b2, .cells #[.int .i64 a, .int .i64 b] 28 (0, 0)), (b1, .cells #[.bool false] 79 (0, 0)), (p, .cells #[.int .i64 m.nodes, vo, .map (some rl), .map (some rq)] 69 (0, 0)), (rl, ol), (rq, oq2)] ++ (HQ' ++ (Hb ++ (Ho ++ ((itH its) ++ H2))))) := S.setAt 5 rfl _
  replace A := A.only [32, 28, 25, 22, 11, 10, 9, 8, 3, 2, 1, 0] rfl
  refine hK9 _ _ ?_
  refine wp_seq_k fun K10 hK10 => ?_
  refine region_seq ?_  -- region 12
  refine La A rfl (evc _ _) fun _ A => ?_
  replace A := A.only [32, 28, 25, 22, 11, 10, 9, 8, 3, 2, 1, 0] rfl
  refine hK10 _ _ ?_
  have hr' : SlRep 85 2 v' (its ++ [(⟨vb, bs, false, Hb⟩ : It)]).length (itCells (its ++ [(⟨vb, bs, false, Hb⟩ : It)])) HQ' := by rw [itCells_snoc, List.length_append]; exact hr
  have hok' : ItOk (its ++ [(⟨vb, bs, false, Hb⟩ : It)]) := by
    intro i hi; rcases List.mem_append.1 hi with hi | hi; exact hok i hi; (simp at hi; subst hi; exact ⟨hB, hb⟩)
  obtain ⟨es', e1, e2, e3⟩ := hput v' _ HQ' (by simp) hr' hok'
  rw [put_put, ← e1] at hm2
  rw [itQ_snoc, hits] at e2
  have S' : St _ _ _ ([(p, .cells #[.int .i64 m.nodes, vo, .map (some rl), .map (some rq)] 69 (0, 0)), (rl, ol), (rq, oq2)] ++ (Ho ++ qeH es')) := (St.app_right (H := [(b50, .cells #[vb, .bool false] 85 (0, 0)), (b2, .cells #[.int .i64 a, .int .i64 b] 28 (0, 0)), (b1, .cells #[.bool false] 79 (0, 0))]) S).last (L := [(p, .cells #[.int .i64 m.nodes, vo, .map (some rl), .map (some rq)] 69 (0, 0)), (rl, ol), (rq, oq2)]) (by
    refine List.Perm.trans ?_ (List.Perm.append_left Ho e3).symm; rw [itH_snoc]; classical rw [List.perm_iff_count]; intro x; simp only [List.count_append]; omega)
  refine wp_ret ⟨A.defers, _, res_run (rs := [.tmp 8]) (vs := [.int .i64 0]) rfl ⟨A.get rfl, trivial⟩, ⟨_, _, rfl, ⟨rfl, vo, Ho, rl, ol, ls, rq, oq2, es', ⟨h.ord, h.lm, h.lk, hm2, e2.1, e2.2, ?_, h.ols⟩, rfl⟩, S'⟩⟩
  intro k; by_cases hkk : k = (a, b); (subst hkk; rw [M.setq_same]; simp; omega); (rw [M.setq_other m _ hkk]; exact h.few k)
end
end Go.Proofs.Ytaeidblipdjgnaa
