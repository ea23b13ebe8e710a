import Derived.Test.YtaeidblipdjgnaaDoes
import Derived.Test.YtaeidblipdjgnaaStands
import Derived.Test.YtaeidblipdjgnaaDrained
import Derived.Test.YtaeidblipdjgnaaCopy
import Derived.Test.YtaeidblipdjgnaaRowD
import Derived.Test.YtaeidblipdjgnaaAwake
namespace Go.Proofs.Ytaeidblipdjgnaa
open Go.RowKit Go.Maps Go.WideMaps

section
variable {P : Program} {ρ : Operand → Value} {w : World} {d : Option Tmp} {ty t e : TypeId} {pos : String} {aft : Array Edge} {gd : Option (Nat × Bool)} {x ix : Operand} {b o n c size : Nat}
theorem r_indexS {k : IntKind} {i : Int} {j : Nat} (ht : P.underlying t = some (.slice e)) (hs : (P.info? e).map (·.size) = some size) (hx : ρ x = .slice (some ⟨b, o, none⟩) n c) (hi : ρ ix = .int k i) (h0 : 0 ≤ i) (h1 : i < n) (hj : o + i.toNat * size = j) :
    (execOp ρ ⟨d, .indexAddr t x ix, ty, pos, aft, gd⟩).run P w = .ok (.value (.pointer (some ⟨b, j, none⟩))) w := by
  subst hj
  cases hin : P.info? e with
  | none => simp [hin] at hs
  | some inf =>
    simp only [hin, Option.map_some, Option.some.injEq] at hs
    have hsz : (sizeOf e).run P w = .ok size w := by simp [sizeOf, typeInfo, Sem.run_bind, hin, hs]
    simp [execOp, hx, hi, Instr.indexAt, asIntOf, Sem.run_bind, run_underlying ht, h0, h1, hsz, add_eq]
theorem r_indexP {k : IntKind} {i : Int} {j : Nat} (ht : P.underlying t = some (.array n e)) (hs : (P.info? e).map (·.size) = some size) (hx : ρ x = .pointer (some ⟨b, o, none⟩)) (hi : ρ ix = .int k i) (h0 : 0 ≤ i) (h1 : i < n) (hj : o + i.toNat * size = j) :
    (execOp ρ ⟨d, .indexAddr t x ix, ty, pos, aft, gd⟩).run P w = .ok (.value (.pointer (some ⟨b, j, none⟩))) w := by
  subst hj
  cases hin : P.info? e with
  | none => simp [hin] at hs
  | some inf =>
    simp only [hin, Option.map_some, Option.some.injEq] at hs
    have hsz : (sizeOf e).run P w = .ok size w := by simp [sizeOf, typeInfo, Sem.run_bind, hin, hs]
    simp [execOp, hx, hi, Instr.indexAt, Instr.sureAddr, asIntOf, Sem.run_bind, run_underlying ht, h0, h1, hsz, add_eq]
end
theorem acs_gr {w w' : World} {v : Value} {l : List Ac} (hs : AcSrc w v l) (g : Gr w w') : AcSrc w' v l := by
  obtain ⟨X, h1, h2, h3, h4⟩ := hs
  exact ⟨X, h1, h2, h3.gr g, fun i x hx => let ⟨u, e1, e2, e3⟩ := h4 i x hx; ⟨u, e1, e2.gr g, e3⟩⟩
theorem RefRepL.row {q : Nat} {R : RM} {vl : Value} {Hl Hr : Frag} (h : RefRepL q R vl Hl Hr) : SlRep 28 2 vl R.links.length (pairs R.links) Hl := by
  obtain ⟨vc, Hc, vw, Hw, gs, h, -⟩ := h; exact h.links
theorem RefRepL.at {q : Nat} {R : RM} {vl : Value} {Hl Hr : Frag} {w : World} (h : RefRepL q R vl Hl Hr) (hH : Holds w Hr) : w.cell? ⟨q, 1, none⟩ = some vl ∧ Holds w Hl := by
  obtain ⟨vc, Hc, vw, Hw, gs, -, rfl⟩ := h
  refine ⟨?_, fun x hx => hH x (List.mem_cons_of_mem _ (List.mem_append_left _ hx))⟩
  have := hH _ (List.mem_cons_self)
  rw [cell_of this]; rfl
set_option maxRecDepth 20000 in
set_option maxHeartbeats 16000000 in
theorem netPlays_ok {w0 : World} {n : Int} {v1 v2 : Value} {ls : List (Int × Int)} {l : List Ac} (hls : Src w0 2 v1 ls.length (pairs ls)) (hlg : ∀ l ∈ ls, i64 l.1 ∧ i64 l.2) (hs : AcSrc w0 v2 l) : Calls Try.prog 6 #[.int .i64 n, v1, v2] w0 (RetN w0 fun r _ => r = .bool true) := by
  obtain ⟨va, vc, rfl⟩ : ∃ a c, v2 = .slice a l.length c := by obtain ⟨_, _, _, h, _⟩ := hs; exact h.len'
  obtain ⟨la, lc, rfl⟩ := hls.len'
  have hfa : ∀ w, Gr w0 w → Calls Try.prog 14 #[.slice va l.length vc] w (RetN w (eqv (.bool (fewN 0 l)))) := fun w g => few_ok (acs_gr hs g)
  by_cases h300 : 300 < ls.length
  · skip
    refine enter Try.func6 rfl (n := 143) rfl (Nat.le_of_ble_eq_true rfl) fun _ A => ?_
    have S : St _ _ _ [] := St.none w0
    refine wp_seq_k fun K1 hK1 => ?_
    refine region_seq ?_  -- region 0
    refine La A rfl (evc _ _) fun _ A => ?_
    replace A := A.only [6, 2, 1, 0] rfl
    refine hK1 _ _ ?_
    refine wp_seq_k fun K2 hK2 => ?_
    refine wp_seq_k fun K3 hK3 => ?_
    refine region_seq ?_  -- region 1
    refine Lm A rfl (A.g 1 rfl) fun _ A => Lo A rfl (y_lenS (e := 28) (by kernel_rfl) (A.g 13 rfl) fun _ A => ?_)
    refine Lo A rfl (y_gtr (A.g 14 rfl) (evc _ _) (c := true) (decide_eq_true (by omega)) fun _ A => ?_)
    refine Lm A rfl (A.g 15 rfl) fun _ A => ?_
    replace A := A.only [16, 6, 2, 1, 0] rfl
    refine L_no A rfl (by decide) rfl rfl (by decide) (A.get rfl) (by decide) fun _ A => ?_
    refine L_no A rfl (by decide) rfl rfl (by decide) (A.get rfl) (by decide) fun _ A => ?_
    refine L_no A rfl (by decide) rfl rfl (by decide) (A.get rfl) (by decide) fun _ A => ?_
    refine Lo A rfl (y_pickT (A.g 16 rfl) (evc _ _) fun _ A => ?_)
    replace A := A.only [20, 6, 2, 1, 0] rfl
    refine hK3 _ _ ?_
    refine wp_cond_true (A.get rfl) ?_
    refine wp_seq_k fun K4 hK4 => ?_
    refine region_seq ?_  -- region 2
    refine Lo A rfl (y_call0 (by kernel_rfl) rfl  (callN (awake_ok) fun v w Ha gG nN hf ac A => ?_))
    obtain rfl := hf
    replace S : St _ _ _ Ha := (S.new gG nN).perm (by first | exact .refl _ | (rw [List.append_assoc]; exact .refl _) | (simp only [List.append_assoc, List.nil_append, List.append_nil]; exact .refl _))
    refine La A rfl (A.g 21 rfl) fun _ A => ?_
    replace A := A.only [20, 6, 2, 1, 0] rfl
    refine hK4 _ _ ?_
    exact wp_ret ⟨A.defers, _, res_run (rs := [.tmp 6]) (vs := [.bool true]) rfl ⟨A.get rfl, trivial⟩, ⟨_, rfl, S.kp.to_gr, _, rfl, S.newF⟩⟩
  cases hfewa : fewN 0 l with
  | false =>
    rw [hfewa] at hfa
    refine enter Try.func6 rfl (n := 143) rfl (Nat.le_of_ble_eq_true rfl) fun _ A => ?_
    have S : St _ _ _ [] := St.none w0
    refine wp_seq_k fun K1 hK1 => ?_
    refine region_seq ?_  -- region 0
    refine La A rfl (evc _ _) fun _ A => ?_
    replace A := A.only [6, 2, 1, 0] rfl
    refine hK1 _ _ ?_
    refine wp_seq_k fun K2 hK2 => ?_
    refine wp_seq_k fun K3 hK3 => ?_
    refine region_seq ?_  -- region 1
    refine Lm A rfl (A.g 1 rfl) fun _ A => Lo A rfl (y_lenS (e := 28) (by kernel_rfl) (A.g 13 rfl) fun _ A => ?_)
    refine Lo A rfl (y_gtr (A.g 14 rfl) (evc _ _) (c := false) (decide_eq_false (by omega)) fun _ A => ?_)
    refine Lm A rfl (A.g 15 rfl) fun _ A => ?_
    replace A := A.only [16, 6, 2, 1, 0] rfl
    refine L_yes A rfl (by decide) rfl rfl (by decide) (A.get rfl) (y_move (A.g 2 rfl) fun _ A => ?_)
    refine L_yes A rfl (by decide) rfl rfl (by decide) (A.get rfl) (y_call1 (by kernel_rfl) rfl (A.g 17 rfl) (callN (hfa _ S.kp.to_gr) fun v w H gG nN hf ac A => ?_))
    obtain ⟨rfl, rfl⟩ := hf
    replace S : St _ _ _ [] := S.new gG nN
    refine L_yes A rfl (by decide) rfl rfl (by decide) (A.get rfl) (y_not (A.g 18 rfl) rfl fun _ A => ?_)
    refine Lo A rfl (y_pickF (A.g 16 rfl) (A.g 19 rfl) fun _ A => ?_)
    replace A := A.only [20, 6, 2, 1, 0] rfl
    refine hK3 _ _ ?_
    refine wp_cond_true (A.get rfl) ?_
    refine wp_seq_k fun K4 hK4 => ?_
    refine region_seq ?_  -- region 2
    refine Lo A rfl (y_call0 (by kernel_rfl) rfl  (callN (awake_ok) fun v w Ha gG nN hf ac A => ?_))
    obtain rfl := hf
    replace S : St _ _ _ Ha := (S.new gG nN).perm (by first | exact .refl _ | (rw [List.append_assoc]; exact .refl _) | (simp only [List.append_assoc, List.nil_append, List.append_nil]; exact .refl _))
    refine La A rfl (A.g 21 rfl) fun _ A => ?_
    replace A := A.only [20, 6, 2, 1, 0] rfl
    refine hK4 _ _ ?_
    exact wp_ret ⟨A.defers, _, res_run (rs := [.tmp 6]) (vs := [.bool true]) rfl ⟨A.get rfl, trivial⟩, ⟨_, rfl, S.kp.to_gr, _, rfl, S.newF⟩⟩
  | true =>
  rw [hfewa] at hfa
  have hl1000 := fewN_len hfewa (by omega)
  have hnew : ∀ w, Gr w0 w → Calls Try.prog 10 #[.int .i64 n, .slice la ls.length lc] w (RetN w (NewR n ls)) := fun w g => new_ok (hls.gr g) (by omega) hlg
  cases hnw : newM n ls with
  | none =>
    have hnew' : ∀ w, Gr w0 w → Calls Try.prog 10 #[.int .i64 n, .slice la ls.length lc] w (RetN w (eqv (.tuple #[.pointer none, .int .i64 1]))) := fun w g => (hnew w g).mono (by
      rintro e w' ⟨v, rfl, g, H, hr, nf⟩
      rcases hr with ⟨_, rfl, rfl⟩ | ⟨m, p, h, _⟩
      · exact ⟨_, rfl, g, [], ⟨rfl, rfl⟩, nf⟩
      · rw [hnw] at h; simp at h)
    refine enter Try.func6 rfl (n := 143) rfl (Nat.le_of_ble_eq_true rfl) fun _ A => ?_
    have S : St _ _ _ [] := St.none w0
    refine wp_seq_k fun K1 hK1 => ?_
    refine region_seq ?_  -- region 0
    refine La A rfl (evc _ _) fun _ A => ?_
    replace A := A.only [6, 2, 1, 0] rfl
    refine hK1 _ _ ?_
    refine wp_seq_k fun K2 hK2 => ?_
    refine wp_seq_k fun K3 hK3 => ?_
    refine region_seq ?_  -- region 1
    refine Lm A rfl (A.g 1 rfl) fun _ A => Lo A rfl (y_lenS (e := 28) (by kernel_rfl) (A.g 13 rfl) fun _ A => ?_)
    refine Lo A rfl (y_gtr (A.g 14 rfl) (evc _ _) (c := false) (decide_eq_false (by omega)) fun _ A => ?_)
    refine Lm A rfl (A.g 15 rfl) fun _ A => ?_
    replace A := A.only [16, 6, 2, 1, 0] rfl
    refine L_yes A rfl (by decide) rfl rfl (by decide) (A.get rfl) (y_move (A.g 2 rfl) fun _ A => ?_)
    refine L_yes A rfl (by decide) rfl rfl (by decide) (A.get rfl) (y_call1 (by kernel_rfl) rfl (A.g 17 rfl) (callN (hfa _ S.kp.to_gr) fun v w H gG nN hf ac A => ?_))
    obtain ⟨rfl, rfl⟩ := hf
    replace S : St _ _ _ [] := S.new gG nN
    refine L_yes A rfl (by decide) rfl rfl (by decide) (A.get rfl) (y_not (A.g 18 rfl) rfl fun _ A => ?_)
    refine Lo A rfl (y_pickF (A.g 16 rfl) (A.g 19 rfl) fun _ A => ?_)
    replace A := A.only [20, 6, 2, 1, 0] rfl
    refine hK3 _ _ ?_
    refine wp_cond_false (A.get rfl) ?_
    refine wp_skip ?_
    refine hK2 _ _ ?_
    refine wp_seq_k fun K4 hK4 => ?_
    refine region_seq ?_  -- region 3
    refine Lo A rfl (y_buildSlice0 (c := #[]) (e := 28)  (fun w => by kernel_rfl) fun b1 w gG nN ac A => ?_)
    replace S : St _ _ _ [(b1, .cells #[] 28 (0, 0))] := S.new gG nN
    refine Lm A rfl (A.g 1 rfl) fun _ A => Lo A rfl (y_append0 okPS (by kernel_rfl) (A.g 22 rfl) (A.g 23 rfl) (hls.gr S.kp.to_gr) (pairs_one _) (by omega) (by omega) fun vw w Hw gG nN hW ac A => ?_)
    obtain ⟨wa, wc, rfl⟩ := SlRep.len hW
    replace S : St _ _ _ (Hw ++ [(b1, .cells #[] 28 (0, 0))]) := (S.new gG nN).perm (by first | exact .refl _ | (rw [List.append_assoc]; exact .refl _) | (simp only [List.append_assoc, List.nil_append, List.append_nil]; exact .refl _))
    replace S : St _ _ _ ([(b1, .cells #[] 28 (0, 0))] ++ Hw) := S.perm (by classical rw [List.perm_iff_count]; intro x; simp only [List.count_append, List.count_cons, List.count_nil] <;> omega)
    refine La A rfl (A.g 24 rfl) fun _ A => ?_
    replace A := A.only [20, 7, 6, 2, 1, 0] rfl
    refine hK4 _ _ ?_
    refine wp_seq_k fun K5 hK5 => ?_
    refine region_seq ?_  -- region 4
    refine Lm A rfl (A.g 0 rfl) fun _ A => Lm A rfl (A.g 1 rfl) fun _ A => Lo A rfl (y_call2 (by kernel_rfl) rfl (A.g 26 rfl) (A.g 27 rfl) (callN (hnew' _ S.kp.to_gr) fun v w H gG nN hf ac A => ?_))
    obtain ⟨rfl, rfl⟩ := hf
    replace S : St _ _ _ ([(b1, .cells #[] 28 (0, 0))] ++ Hw) := (S.new gG nN).perm (by first | exact .refl _ | (rw [List.append_assoc]; exact .refl _) | (simp only [List.append_assoc, List.nil_append, List.append_nil]; exact .refl _))
    refine Lm A rfl (A.g 28 rfl) fun _ A => ?_
    replace A := A.only [25, 20, 7, 6, 2, 1, 0] rfl
    refine Lo A rfl (y_extract (A.g 25 rfl) rfl fun _ A => ?_)
    refine Lo A rfl (y_extract (A.g 25 rfl) rfl fun _ A => ?_)
    refine La A rfl (A.g 29 rfl) fun _ A => La A rfl (A.g 30 rfl) fun _ A => ?_
    replace A := A.only [20, 9, 8, 7, 6, 2, 1, 0] rfl
    refine hK5 _ _ ?_
    refine wp_seq_k fun K6 hK6 => ?_
    refine region_seq ?_  -- region 5
    refine Lm A rfl (A.g 0 rfl) fun _ A => Lm A rfl (A.g 7 rfl) fun _ A => ?_
    have hrn : Calls Try.prog 27 #[.int .i64 n, .slice wa ls.length wc] _ (RetN _ (eqv (.pointer none))) := (rnew_ok (n := n) (SlRep.src hW (St.app_left (H := Hw) (K := [(b1, .cells #[] 28 (0, 0))]) (S.perm (by classical rw [List.perm_iff_count]; intro x; simp only [List.count_append, List.count_cons, List.count_nil] <;> omega))).holds) (by omega)).mono (by rintro e w' ⟨v, rfl, g, H, hr, nf⟩; rcases hr with ⟨_, rfl, rfl⟩ | ⟨o, p, h, _⟩; exact ⟨_, rfl, g, [], ⟨rfl, rfl⟩, nf⟩; rw [hnw] at h; simp at h)
    refine Lo A rfl (y_call2 (by kernel_rfl) rfl (A.g 31 rfl) (A.g 32 rfl) (callN (hrn) fun v w H gG nN hf ac A => ?_))
    obtain ⟨rfl, rfl⟩ := hf
    replace S : St _ _ _ ([(b1, .cells #[] 28 (0, 0))] ++ Hw) := (S.new gG nN).perm (by first | exact .refl _ | (rw [List.append_assoc]; exact .refl _) | (simp only [List.append_assoc, List.nil_append, List.append_nil]; exact .refl _))
    refine La A rfl (A.g 33 rfl) fun _ A => ?_
    replace A := A.only [20, 10, 9, 8, 7, 6, 2, 1, 0] rfl
    refine hK6 _ _ ?_
    refine wp_seq_k fun K7 hK7 => ?_
    refine wp_seq_k fun K8 hK8 => ?_
    refine region_seq ?_  -- region 6
    refine Lm A rfl (A.g 10 rfl) fun _ A => Lo A rfl (y_ptrNil (c := true) (by kernel_rfl) (A.g 34 rfl) (evc _ _) rfl fun _ A => ?_)
    replace A := A.only [35, 20, 10, 9, 8, 7, 6, 2, 1, 0] rfl
    refine hK8 _ _ ?_
    refine wp_cond_true (A.get rfl) ?_
    refine wp_seq_k fun K9 hK9 => ?_
    refine region_seq ?_  -- region 7
    refine Lm A rfl (A.g 8 rfl) fun _ A => Lo A rfl (y_ptrNil (c := true) (by kernel_rfl) (A.g 36 rfl) (evc _ _) rfl fun _ A => ?_)
    refine Lm A rfl (A.g 37 rfl) fun _ A => L_yes A rfl (by decide) rfl rfl (by decide) (A.get rfl) (y_move (A.g 9 rfl) fun _ A => ?_)
    replace A := A.only [39, 38, 35, 20, 10, 9, 8, 7, 6, 2, 1, 0] rfl
    refine L_yes A rfl (by decide) rfl rfl (by decide) (A.get rfl) (y_eql (A.g 39 rfl) (evc _ _) (c := true) (by decide) fun _ A => ?_)
    refine Lo A rfl (y_pickT (A.g 38 rfl) (A.g 40 rfl) fun _ A => ?_)
    refine Lm A rfl (A.g 41 rfl) fun _ A => L_yes A rfl (by decide) rfl rfl (by decide) (A.get rfl) (y_call0 (by kernel_rfl) rfl  (callN (awake_ok) fun v w Ha gG nN hf ac A => ?_))
    obtain rfl := hf
    replace S : St _ _ _ (Ha ++ ([(b1, .cells #[] 28 (0, 0))] ++ Hw)) := (S.new gG nN).perm (by first | exact .refl _ | (rw [List.append_assoc]; exact .refl _) | (simp only [List.append_assoc, List.nil_append, List.append_nil]; exact .refl _))
    replace S : St _ _ _ ([(b1, .cells #[] 28 (0, 0))] ++ (Ha ++ Hw)) := S.swap1 (L := []) (A := Ha) (B := [(b1, .cells #[] 28 (0, 0))])
    replace A := A.only [43, 42, 35, 20, 10, 9, 8, 7, 6, 2, 1, 0] rfl
    refine Lo A rfl (y_pickT (A.g 42 rfl) (A.g 43 rfl) fun _ A => ?_)
    refine La A rfl (A.g 44 rfl) fun _ A => ?_
    replace A := A.only [35, 20, 10, 9, 8, 7, 6, 2, 1, 0] rfl
    refine hK9 _ _ ?_
    exact wp_ret ⟨A.defers, _, res_run (rs := [.tmp 6]) (vs := [.bool true]) rfl ⟨A.get rfl, trivial⟩, ⟨_, rfl, S.kp.to_gr, _, rfl, S.newF⟩⟩
  | some m0 =>
    obtain ⟨o, hn1, hn10, ho, rfl⟩ : ∃ o, 1 ≤ n ∧ n ≤ 10 ∧ newO n [] ls = some o ∧ m0 = M.fresh n o := by
      unfold newM at hnw; split at hnw
      · simp at hnw
      · obtain ⟨o, ho, rfl⟩ := Option.map_eq_some_iff.1 hnw
        exact ⟨o, by omega, by omega, ho, rfl⟩
    have hsim := Sim.fresh hn1 hn10 ho
    have hnew' : ∀ w, Gr w0 w → Calls Try.prog 10 #[.int .i64 n, .slice la ls.length lc] w (RetN w (fun r H => ∃ p, r = .tuple #[.pointer (some ⟨p, 0, none⟩), .int .i64 0] ∧ NetRep p (M.fresh n o) H)) := fun w g => (hnew w g).mono (by
      rintro e w' ⟨v, rfl, g, H, hr, nf⟩
      rcases hr with ⟨h, _⟩ | ⟨m, p, h, rfl, hr⟩
      · rw [hnw] at h; simp at h
      · rw [hnw] at h; cases h
        exact ⟨_, rfl, g, _, ⟨p, rfl, hr⟩, nf⟩)
    have hR0l : (RM.fresh n o).way.length = 0 := rfl
    generalize hm0 : M.fresh n o = m0 at hsim hnew' hnw
    generalize hR0e : RM.fresh n o = R0 at hsim hR0l
    refine enter Try.func6 rfl (n := 143) rfl (Nat.le_of_ble_eq_true rfl) fun _ A => ?_
    have S : St _ _ _ [] := St.none w0
    refine wp_seq_k fun K1 hK1 => ?_
    refine region_seq ?_  -- region 0
    refine La A rfl (evc _ _) fun _ A => ?_
    replace A := A.only [6, 2, 1, 0] rfl
    refine hK1 _ _ ?_
    refine wp_seq_k fun K2 hK2 => ?_
    refine wp_seq_k fun K3 hK3 => ?_
    refine region_seq ?_  -- region 1
    refine Lm A rfl (A.g 1 rfl) fun _ A => Lo A rfl (y_lenS (e := 28) (by kernel_rfl) (A.g 13 rfl) fun _ A => ?_)
    refine Lo A rfl (y_gtr (A.g 14 rfl) (evc _ _) (c := false) (decide_eq_false (by omega)) fun _ A => ?_)
    refine Lm A rfl (A.g 15 rfl) fun _ A => ?_
    replace A := A.only [16, 6, 2, 1, 0] rfl
    refine L_yes A rfl (by decide) rfl rfl (by decide) (A.get rfl) (y_move (A.g 2 rfl) fun _ A => ?_)
    refine L_yes A rfl (by decide) rfl rfl (by decide) (A.get rfl) (y_call1 (by kernel_rfl) rfl (A.g 17 rfl) (callN (hfa _ S.kp.to_gr) fun v w H gG nN hf ac A => ?_))
    obtain ⟨rfl, rfl⟩ := hf
    replace S : St _ _ _ [] := S.new gG nN
    refine L_yes A rfl (by decide) rfl rfl (by decide) (A.get rfl) (y_not (A.g 18 rfl) rfl fun _ A => ?_)
    refine Lo A rfl (y_pickF (A.g 16 rfl) (A.g 19 rfl) fun _ A => ?_)
    replace A := A.only [20, 6, 2, 1, 0] rfl
    refine hK3 _ _ ?_
    refine wp_cond_false (A.get rfl) ?_
    refine wp_skip ?_
    refine hK2 _ _ ?_
    refine wp_seq_k fun K4 hK4 => ?_
    refine region_seq ?_  -- region 3
    refine Lo A rfl (y_buildSlice0 (c := #[]) (e := 28)  (fun w => by kernel_rfl) fun b1 w gG nN ac A => ?_)
    replace S : St _ _ _ [(b1, .cells #[] 28 (0, 0))] := S.new gG nN
    refine Lm A rfl (A.g 1 rfl) fun _ A => Lo A rfl (y_append0 okPS (by kernel_rfl) (A.g 22 rfl) (A.g 23 rfl) (hls.gr S.kp.to_gr) (pairs_one _) (by omega) (by omega) fun vw w Hw gG nN hW ac A => ?_)
    obtain ⟨wa, wc, rfl⟩ := SlRep.len hW
    replace S : St _ _ _ (Hw ++ [(b1, .cells #[] 28 (0, 0))]) := (S.new gG nN).perm (by first | exact .refl _ | (rw [List.append_assoc]; exact .refl _) | (simp only [List.append_assoc, List.nil_append, List.append_nil]; exact .refl _))
    replace S : St _ _ _ ([(b1, .cells #[] 28 (0, 0))] ++ Hw) := S.perm (by classical rw [List.perm_iff_count]; intro x; simp only [List.count_append, List.count_cons, List.count_nil] <;> omega)
    refine La A rfl (A.g 24 rfl) fun _ A => ?_
    replace A := A.only [20, 7, 6, 2, 1, 0] rfl
    refine hK4 _ _ ?_
    refine wp_seq_k fun K5 hK5 => ?_
    refine region_seq ?_  -- region 4
    refine Lm A rfl (A.g 0 rfl) fun _ A => Lm A rfl (A.g 1 rfl) fun _ A => Lo A rfl (y_call2 (by kernel_rfl) rfl (A.g 26 rfl) (A.g 27 rfl) (callN (hnew' _ S.kp.to_gr) fun v w Hm gG nN hf ac A => ?_))
    obtain ⟨p, rfl, hN⟩ := hf
    replace S : St _ _ _ (Hm ++ ([(b1, .cells #[] 28 (0, 0))] ++ Hw)) := (S.new gG nN).perm (by first | exact .refl _ | (rw [List.append_assoc]; exact .refl _) | (simp only [List.append_assoc, List.nil_append, List.append_nil]; exact .refl _))
    replace S : St _ _ _ ([(b1, .cells #[] 28 (0, 0))] ++ (Hm ++ Hw)) := S.swap1 (L := []) (A := Hm) (B := [(b1, .cells #[] 28 (0, 0))])
    refine Lm A rfl (A.g 28 rfl) fun _ A => ?_
    replace A := A.only [25, 20, 7, 6, 2, 1, 0] rfl
    refine Lo A rfl (y_extract (A.g 25 rfl) rfl fun _ A => ?_)
    refine Lo A rfl (y_extract (A.g 25 rfl) rfl fun _ A => ?_)
    refine La A rfl (A.g 29 rfl) fun _ A => La A rfl (A.g 30 rfl) fun _ A => ?_
    replace A := A.only [20, 9, 8, 7, 6, 2, 1, 0] rfl
    refine hK5 _ _ ?_
    refine wp_seq_k fun K6 hK6 => ?_
    refine region_seq ?_  -- region 5
    refine Lm A rfl (A.g 0 rfl) fun _ A => Lm A rfl (A.g 7 rfl) fun _ A => ?_
    have hrn : Calls Try.prog 27 #[.int .i64 n, .slice wa ls.length wc] _ (RetN _ (fun r H => ∃ q, r = .pointer (some ⟨q, 0, none⟩) ∧ RefRep q R0 H)) := (rnew_ok (n := n) (SlRep.src hW (St.app_left (H := Hw) (K := ([(b1, .cells #[] 28 (0, 0))] ++ Hm)) (S.perm (by classical rw [List.perm_iff_count]; intro x; simp only [List.count_append, List.count_cons, List.count_nil] <;> omega))).holds) (by omega)).mono (by rintro e w' ⟨v, rfl, g, H, hr, nf⟩; rcases hr with ⟨h, _⟩ | ⟨o', q, -, -, -, ho', rfl, hr⟩; (rw [hnw] at h; simp at h); (rw [ho] at ho'; cases ho'; rw [hR0e] at hr; exact ⟨_, rfl, g, _, ⟨q, rfl, hr⟩, nf⟩))
    refine Lo A rfl (y_call2 (by kernel_rfl) rfl (A.g 31 rfl) (A.g 32 rfl) (callN (hrn) fun v w Hr gG nN hf ac A => ?_))
    obtain ⟨q, rfl, hR⟩ := hf
    replace S : St _ _ _ (Hr ++ ([(b1, .cells #[] 28 (0, 0))] ++ (Hm ++ Hw))) := (S.new gG nN).perm (by first | exact .refl _ | (rw [List.append_assoc]; exact .refl _) | (simp only [List.append_assoc, List.nil_append, List.append_nil]; exact .refl _))
    replace S : St _ _ _ ([(b1, .cells #[] 28 (0, 0))] ++ (Hr ++ (Hm ++ Hw))) := S.swap1 (L := []) (A := Hr) (B := [(b1, .cells #[] 28 (0, 0))])
    refine La A rfl (A.g 33 rfl) fun _ A => ?_
    replace A := A.only [20, 10, 9, 8, 7, 6, 2, 1, 0] rfl
    refine hK6 _ _ ?_
    refine wp_seq_k fun K7 hK7 => ?_
    refine wp_seq_k fun K8 hK8 => ?_
    refine region_seq ?_  -- region 6
    refine Lm A rfl (A.g 10 rfl) fun _ A => Lo A rfl (y_ptrNil (c := false) (by kernel_rfl) (A.g 34 rfl) (evc _ _) rfl fun _ A => ?_)
    replace A := A.only [35, 20, 10, 9, 8, 7, 6, 2, 1, 0] rfl
    refine hK8 _ _ ?_
    refine wp_cond_false (A.get rfl) ?_
    refine wp_skip ?_
    refine hK7 _ _ ?_
    refine wp_seq_k fun K9 hK9 => ?_
    refine wp_seq_k fun K10 hK10 => ?_
    refine region_seq ?_  -- region 8
    refine Lm A rfl (A.g 8 rfl) fun _ A => Lo A rfl (y_ptrNil (c := false) (by kernel_rfl) (A.g 45 rfl) (evc _ _) rfl fun _ A => ?_)
    refine Lm A rfl (A.g 46 rfl) fun _ A => L_yes A rfl (by decide) rfl rfl (by decide) (A.get rfl) (y_move (A.g 9 rfl) fun _ A => ?_)
    replace A := A.only [48, 47, 35, 20, 10, 9, 8, 7, 6, 2, 1, 0] rfl
    refine L_yes A rfl (by decide) rfl rfl (by decide) (A.get rfl) (y_neq (A.g 48 rfl) (evc _ _) (c := false) (by decide) fun _ A => ?_)
    refine Lo A rfl (y_pickF (A.g 47 rfl) (A.g 49 rfl) fun _ A => ?_)
    refine Lm A rfl (A.g 50 rfl) fun _ A => L_yes A rfl (by decide) rfl rfl (by decide) (A.get rfl) (y_move (A.g 8 rfl) fun _ A => ?_)
    replace A := A.only [52, 51, 35, 20, 10, 9, 8, 7, 6, 2, 1, 0] rfl
    refine L_yes A rfl (by decide) rfl rfl (by decide) (A.get rfl) (y_move (A.g 10 rfl) fun _ A => ?_)
    refine L_yes A rfl (by decide) rfl rfl (by decide) (A.get rfl) (y_call2 (by kernel_rfl) rfl (A.g 52 rfl) (A.g 53 rfl) (callN (stands_ok hN (St.app_left (H := Hm) (K := ([(b1, .cells #[] 28 (0, 0))] ++ (Hr ++ Hw))) (S.perm (by classical rw [List.perm_iff_count]; intro x; simp only [List.count_append, List.count_cons, List.count_nil] <;> omega))).holds hR (St.app_left (H := Hr) (K := ([(b1, .cells #[] 28 (0, 0))] ++ (Hm ++ Hw))) (S.perm (by classical rw [List.perm_iff_count]; intro x; simp only [List.count_append, List.count_cons, List.count_nil] <;> omega))).holds hsim (by omega)) fun v w H gG nN hf ac A => ?_))
    obtain ⟨rfl, rfl⟩ := hf
    replace S : St _ _ _ ([(b1, .cells #[] 28 (0, 0))] ++ (Hr ++ (Hm ++ Hw))) := (S.new gG nN).perm (by first | exact .refl _ | (rw [List.append_assoc]; exact .refl _) | (simp only [List.append_assoc, List.nil_append, List.append_nil]; exact .refl _))
    refine L_yes A rfl (by decide) rfl rfl (by decide) (A.get rfl) (y_not (A.g 54 rfl) rfl fun _ A => ?_)
    refine Lo A rfl (y_pickF (A.g 51 rfl) (A.g 55 rfl) fun _ A => ?_)
    replace A := A.only [56, 35, 20, 10, 9, 8, 7, 6, 2, 1, 0] rfl
    refine hK10 _ _ ?_
    refine wp_cond_false (A.get rfl) ?_
    refine wp_skip ?_
    refine hK9 _ _ ?_
    refine wp_seq_k fun K11 hK11 => ?_
    refine wp_seq_k fun K12 hK12 => ?_
    refine region_seq ?_  -- region 10
    refine La A rfl (evc _ _) fun _ A => ?_
    replace A := A.only [56, 35, 20, 11, 10, 9, 8, 7, 6, 2, 1, 0] rfl
    refine hK12 _ _ ?_
    refine wp_block ?_
    replace A := A.only [11, 10, 8, 2] rfl
    replace S : St _ _ _ (Hm ++ Hr) := St.app_left (K := ([(b1, .cells #[] 28 (0, 0))] ++ Hw)) (S.perm (by classical rw [List.perm_iff_count]; intro x; simp only [List.count_append, List.count_cons, List.count_nil] <;> omega))
    refine wp_loop_ghost (fun kk ac w' => ∃ (i p q : Nat) (m : M) (R : RM) (Hm Hr : Frag), kk + i = l.length ∧ NetRep p m Hm ∧ RefRep q R Hr ∧ Sim m R ∧ R.way.length ≤ i ∧ Sl 143 ac [(2, .slice va l.length vc), (8, .pointer (some ⟨p, 0, none⟩)), (10, .pointer (some ⟨q, 0, none⟩)), (11, .int .i64 ((i : Nat) : Int))] ∧ St [] w0 w' (Hm ++ Hr)) l.length ⟨0, p, q, m0, R0, Hm, Hr, by simp, hN, hR, hsim, by omega, A, S⟩ ?_
    clear A S hN hR hsim
    rintro kk ac w ⟨i, p, q, m, R, Hm, Hr, hkk, hN, hR, hsm, hwl, A, S⟩
    rcases Nat.lt_or_ge i l.length with hi | hi
    · obtain ⟨x, hli⟩ : ∃ x, l[i]? = some x := ⟨_, List.getElem?_eq_getElem hi⟩
      obtain ⟨ua, uc, ba, bc, hva, hcell, hbs, hok⟩ := hs.at hli
      simp only [Value.slice.injEq] at hva; obtain ⟨rfl, -, rfl⟩ := hva
      by_cases e9 : x.d = 9
      · skip
        refine wp_seq_k fun K13 hK13 => ?_
        refine wp_seq_k fun K14 hK14 => ?_
        refine region_seq ?_  -- region 11
        refine Lm A rfl (A.g 11 rfl) fun _ A => Lm A rfl (A.g 2 rfl) fun _ A => Lo A rfl (y_lenS (e := 57) (by kernel_rfl) (A.g 58 rfl) fun _ A => ?_)
        refine Lo A rfl (y_lss (A.g 57 rfl) (A.g 59 rfl) (c := true) (decide_eq_true (by omega)) fun _ A => ?_)
        replace A := A.only [60, 11, 10, 8, 2] rfl
        refine hK14 _ _ ?_
        refine wp_cond_true (A.get rfl) ?_
        refine wp_skip ?_
        refine hK13 _ _ ?_
        refine wp_seq_k fun K15 hK15 => ?_
        refine wp_block ?_
        refine wp_seq_k fun K16 hK16 => ?_
        refine wp_seq_k fun K17 hK17 => ?_
        refine region_seq ?_  -- region 13
        refine Lm A rfl (A.g 2 rfl) fun _ A => Lm A rfl (A.g 11 rfl) fun _ A => Lo A rfl (y_indexA (e := 57) (size := 6) (by kernel_rfl) (by kernel_rfl) (A.g 63 rfl) (A.g 64 rfl) (by omega) (by omega) fun _ A => ?_)
        refine Lo A rfl (y_fieldA (off := 0) (by kernel_rfl) (A.g 65 rfl) fun _ A => ?_)
        refine Lo A rfl (y_load (by kernel_rfl) (A.g 66 rfl) (S.kp.to_gr.cell' (hcell 0 (by simp [acCells]))) fun _ A => ?_)
        refine Lo A rfl (y_eql (A.g 67 rfl) (evc _ _) (c := true) (by simp [e9]) fun _ A => ?_)
        replace A := A.only [68, 60, 11, 10, 8, 2] rfl
        refine hK17 _ _ ?_
        refine wp_cond_true (A.get rfl) ?_
        refine region_seq ?_  -- region 14
        refine Lm A rfl (A.g 8 rfl) fun _ A => Lo A rfl (y_call1 (by kernel_rfl) rfl (A.g 69 rfl) (callN (copy_ok hN (St.app_left (H := Hm) (K := Hr) (S.perm (by classical rw [List.perm_iff_count]; intro x; simp only [List.count_append] <;> omega))).holds) fun v w Hmc gG nN hf ac A => ?_))
        obtain ⟨p9, rfl, hNc⟩ := hf
        replace S : St _ _ _ (Hmc ++ (Hm ++ Hr)) := (S.new gG nN).perm (by first | exact .refl _ | (rw [List.append_assoc]; exact .refl _) | (simp only [List.append_assoc, List.nil_append, List.append_nil]; exact .refl _))
        refine Lm A rfl (A.g 10 rfl) fun _ A => Lo A rfl (y_call1 (by kernel_rfl) rfl (A.g 71 rfl) (callN (rcopy_ok hR (St.app_left (H := Hr) (K := (Hmc ++ Hm)) (S.perm (by classical rw [List.perm_iff_count]; intro x; simp only [List.count_append] <;> omega))).holds (by omega)) fun v w Hrc gG nN hf ac A => ?_))
        obtain ⟨q9, rfl, hRc⟩ := hf
        replace S : St _ _ _ (Hrc ++ (Hmc ++ (Hm ++ Hr))) := (S.new gG nN).perm (by first | exact .refl _ | (rw [List.append_assoc]; exact .refl _) | (simp only [List.append_assoc, List.nil_append, List.append_nil]; exact .refl _))
        refine La A rfl (A.g 70 rfl) fun _ A => La A rfl (A.g 72 rfl) fun _ A => ?_
        replace A := A.only [68, 60, 11, 10, 8, 2] rfl
        refine hK16 _ _ ?_
        refine wp_seq_k fun K18 hK18 => ?_
        replace S : St _ _ _ (Hmc ++ Hrc) := St.app_left (K := (Hm ++ Hr)) (S.perm (by classical rw [List.perm_iff_count]; intro x; simp only [List.count_append, List.count_cons, List.count_nil] <;> omega))
        refine region_seq ?_  -- region 15
        refine Lm A rfl (A.g 8 rfl) fun _ A => Lo A rfl (y_ptrNil (c := false) (by kernel_rfl) (A.g 73 rfl) (evc _ _) rfl fun _ A => ?_)
        refine Lm A rfl (A.g 74 rfl) fun _ A => L_yes A rfl (by decide) rfl rfl (by decide) (A.get rfl) (y_move (A.g 8 rfl) fun _ A => ?_)
        replace A := A.only [76, 75, 68, 60, 11, 10, 8, 2] rfl
        refine L_yes A rfl (by decide) rfl rfl (by decide) (A.get rfl) (y_move (A.g 10 rfl) fun _ A => ?_)
        refine L_yes A rfl (by decide) rfl rfl (by decide) (A.get rfl) (y_move (A.g 2 rfl) fun _ A => ?_)
        refine L_yes A rfl (by decide) rfl rfl (by decide) (A.get rfl) (y_move (A.g 11 rfl) fun _ A => ?_)
        refine L_yes A rfl (by decide) rfl rfl (by decide) (A.get rfl) (y_indexA (e := 57) (size := 6) (by kernel_rfl) (by kernel_rfl) (A.g 78 rfl) (A.g 79 rfl) (by omega) (by omega) fun _ A => ?_)
        replace A := A.only [80, 77, 76, 75, 68, 60, 11, 10, 8, 2] rfl
        refine L_yes A rfl (by decide) rfl rfl (by decide) (A.get rfl) (y_loadAgg (acCells x (.slice ba x.bs.length bc)) (by kernel_rfl) (A.g 80 rfl) (fun j hj => S.kp.to_gr.cell' (hcell j hj)) fun _ A => ?_)
        have cdo := does_ok hNc hRc S.nd S.holds hsm (by omega) hok (hbs.gr S.kp.to_gr) (off_base (R := []) (S.perm (by rw [List.append_nil])) hbs)
        refine L_yes A rfl (by decide) rfl rfl (by decide) (A.get rfl) (y_call3 (by kernel_rfl) rfl (A.g 76 rfl) (A.g 77 rfl) (A.g 81 rfl) (callW cdo fun v w H9 s hf ac A => ?_))
        replace S : St _ _ _ (H9 ++ []) := St.call (H := Hmc ++ Hrc) (R := []) (S.perm (by rw [List.append_nil])) rfl s
        obtain ⟨rfl, m2, R2, Hm2, Hr2, rfl, hN2, hR2, hs2, hw2⟩ := hf
        rw [List.append_nil] at S
        refine L_yes A rfl (by decide) rfl rfl (by decide) (A.get rfl) (y_not (A.g 82 rfl) rfl fun _ A => ?_)
        refine Lo A rfl (y_pickF (A.g 75 rfl) (A.g 83 rfl) fun _ A => ?_)
        replace A := A.only [84, 68, 60, 11, 10, 8, 2] rfl
        refine Lm A rfl (A.g 84 rfl) fun _ A => L_yes A rfl (by decide) rfl rfl (by decide) (A.get rfl) (y_move (A.g 8 rfl) fun _ A => ?_)
        refine L_yes A rfl (by decide) rfl rfl (by decide) (A.get rfl) (y_move (A.g 10 rfl) fun _ A => ?_)
        refine L_yes A rfl (by decide) rfl rfl (by decide) (A.get rfl) (y_call2 (by kernel_rfl) rfl (A.g 86 rfl) (A.g 87 rfl) (callN (stands_ok hN2 (St.app_left (H := Hm2) (K := Hr2) (S.perm (by classical rw [List.perm_iff_count]; intro x; simp only [List.count_append] <;> omega))).holds hR2 (St.app_left (H := Hr2) (K := Hm2) (S.perm (by classical rw [List.perm_iff_count]; intro x; simp only [List.count_append] <;> omega))).holds hs2 (by omega)) fun v w H gG nN hf ac A => ?_))
        obtain ⟨rfl, rfl⟩ := hf
        replace S : St _ _ _ (Hm2 ++ Hr2) := (S.new gG nN).perm (by first | exact .refl _ | (rw [List.append_assoc]; exact .refl _) | (simp only [List.append_assoc, List.nil_append, List.append_nil]; exact .refl _))
        replace A := A.only [88, 85, 68, 60, 11, 10, 8, 2] rfl
        refine L_yes A rfl (by decide) rfl rfl (by decide) (A.get rfl) (y_not (A.g 88 rfl) rfl fun _ A => ?_)
        refine Lo A rfl (y_pickF (A.g 85 rfl) (A.g 89 rfl) fun _ A => ?_)
        replace A := A.only [90, 68, 60, 11, 10, 8, 2] rfl
        refine hK18 _ _ ?_
        refine wp_cond_false (A.get rfl) ?_
        refine wp_skip ?_
        refine hK15 _ _ ?_
        refine region_seq ?_  -- region 12
        refine Lm A rfl (A.g 11 rfl) fun _ A => Lo A rfl (y_add (A.g 61 rfl) (evc _ _) (c := ((i + 1 : Nat) : Int)) ((wrap64 (by omega)).trans (by omega)) fun _ A => ?_)
        refine La A rfl (A.g 62 rfl) fun _ A => ?_
        replace A := A.only [90, 68, 60, 11, 10, 8, 2] rfl
        replace A := A.only [11, 10, 8, 2] rfl
        exact ⟨kk - 1, by omega, i + 1, _, _, m2, R2, Hm2, Hr2, by omega, hN2, hR2, hs2, by omega, A, S⟩
      · skip
        refine wp_seq_k fun K13 hK13 => ?_
        refine wp_seq_k fun K14 hK14 => ?_
        refine region_seq ?_  -- region 11
        refine Lm A rfl (A.g 11 rfl) fun _ A => Lm A rfl (A.g 2 rfl) fun _ A => Lo A rfl (y_lenS (e := 57) (by kernel_rfl) (A.g 58 rfl) fun _ A => ?_)
        refine Lo A rfl (y_lss (A.g 57 rfl) (A.g 59 rfl) (c := true) (decide_eq_true (by omega)) fun _ A => ?_)
        replace A := A.only [60, 11, 10, 8, 2] rfl
        refine hK14 _ _ ?_
        refine wp_cond_true (A.get rfl) ?_
        refine wp_skip ?_
        refine hK13 _ _ ?_
        refine wp_seq_k fun K15 hK15 => ?_
        refine wp_block ?_
        refine wp_seq_k fun K16 hK16 => ?_
        refine wp_seq_k fun K17 hK17 => ?_
        refine region_seq ?_  -- region 13
        refine Lm A rfl (A.g 2 rfl) fun _ A => Lm A rfl (A.g 11 rfl) fun _ A => Lo A rfl (y_indexA (e := 57) (size := 6) (by kernel_rfl) (by kernel_rfl) (A.g 63 rfl) (A.g 64 rfl) (by omega) (by omega) fun _ A => ?_)
        refine Lo A rfl (y_fieldA (off := 0) (by kernel_rfl) (A.g 65 rfl) fun _ A => ?_)
        refine Lo A rfl (y_load (by kernel_rfl) (A.g 66 rfl) (S.kp.to_gr.cell' (hcell 0 (by simp [acCells]))) fun _ A => ?_)
        refine Lo A rfl (y_eql (A.g 67 rfl) (evc _ _) (c := false) (by simpa using e9) fun _ A => ?_)
        replace A := A.only [68, 60, 11, 10, 8, 2] rfl
        refine hK17 _ _ ?_
        refine wp_cond_false (A.get rfl) ?_
        refine wp_skip ?_
        refine hK16 _ _ ?_
        refine wp_seq_k fun K18 hK18 => ?_
        refine region_seq ?_  -- region 15
        refine Lm A rfl (A.g 8 rfl) fun _ A => Lo A rfl (y_ptrNil (c := false) (by kernel_rfl) (A.g 73 rfl) (evc _ _) rfl fun _ A => ?_)
        refine Lm A rfl (A.g 74 rfl) fun _ A => L_yes A rfl (by decide) rfl rfl (by decide) (A.get rfl) (y_move (A.g 8 rfl) fun _ A => ?_)
        replace A := A.only [76, 75, 68, 60, 11, 10, 8, 2] rfl
        refine L_yes A rfl (by decide) rfl rfl (by decide) (A.get rfl) (y_move (A.g 10 rfl) fun _ A => ?_)
        refine L_yes A rfl (by decide) rfl rfl (by decide) (A.get rfl) (y_move (A.g 2 rfl) fun _ A => ?_)
        refine L_yes A rfl (by decide) rfl rfl (by decide) (A.get rfl) (y_move (A.g 11 rfl) fun _ A => ?_)
        refine L_yes A rfl (by decide) rfl rfl (by decide) (A.get rfl) (y_indexA (e := 57) (size := 6) (by kernel_rfl) (by kernel_rfl) (A.g 78 rfl) (A.g 79 rfl) (by omega) (by omega) fun _ A => ?_)
        replace A := A.only [80, 77, 76, 75, 68, 60, 11, 10, 8, 2] rfl
        refine L_yes A rfl (by decide) rfl rfl (by decide) (A.get rfl) (y_loadAgg (acCells x (.slice ba x.bs.length bc)) (by kernel_rfl) (A.g 80 rfl) (fun j hj => S.kp.to_gr.cell' (hcell j hj)) fun _ A => ?_)
        have cdo := does_ok hN hR S.nd S.holds hsm (by omega) hok (hbs.gr S.kp.to_gr) (off_base (R := []) (S.perm (by rw [List.append_nil])) hbs)
        refine L_yes A rfl (by decide) rfl rfl (by decide) (A.get rfl) (y_call3 (by kernel_rfl) rfl (A.g 76 rfl) (A.g 77 rfl) (A.g 81 rfl) (callW cdo fun v w H9 s hf ac A => ?_))
        replace S : St _ _ _ (H9 ++ []) := St.call (H := Hm ++ Hr) (R := []) (S.perm (by rw [List.append_nil])) rfl s
        obtain ⟨rfl, m2, R2, Hm2, Hr2, rfl, hN2, hR2, hs2, hw2⟩ := hf
        rw [List.append_nil] at S
        refine L_yes A rfl (by decide) rfl rfl (by decide) (A.get rfl) (y_not (A.g 82 rfl) rfl fun _ A => ?_)
        refine Lo A rfl (y_pickF (A.g 75 rfl) (A.g 83 rfl) fun _ A => ?_)
        replace A := A.only [84, 68, 60, 11, 10, 8, 2] rfl
        refine Lm A rfl (A.g 84 rfl) fun _ A => L_yes A rfl (by decide) rfl rfl (by decide) (A.get rfl) (y_move (A.g 8 rfl) fun _ A => ?_)
        refine L_yes A rfl (by decide) rfl rfl (by decide) (A.get rfl) (y_move (A.g 10 rfl) fun _ A => ?_)
        refine L_yes A rfl (by decide) rfl rfl (by decide) (A.get rfl) (y_call2 (by kernel_rfl) rfl (A.g 86 rfl) (A.g 87 rfl) (callN (stands_ok hN2 (St.app_left (H := Hm2) (K := Hr2) (S.perm (by classical rw [List.perm_iff_count]; intro x; simp only [List.count_append] <;> omega))).holds hR2 (St.app_left (H := Hr2) (K := Hm2) (S.perm (by classical rw [List.perm_iff_count]; intro x; simp only [List.count_append] <;> omega))).holds hs2 (by omega)) fun v w H gG nN hf ac A => ?_))
        obtain ⟨rfl, rfl⟩ := hf
        replace S : St _ _ _ (Hm2 ++ Hr2) := (S.new gG nN).perm (by first | exact .refl _ | (rw [List.append_assoc]; exact .refl _) | (simp only [List.append_assoc, List.nil_append, List.append_nil]; exact .refl _))
        replace A := A.only [88, 85, 68, 60, 11, 10, 8, 2] rfl
        refine L_yes A rfl (by decide) rfl rfl (by decide) (A.get rfl) (y_not (A.g 88 rfl) rfl fun _ A => ?_)
        refine Lo A rfl (y_pickF (A.g 85 rfl) (A.g 89 rfl) fun _ A => ?_)
        replace A := A.only [90, 68, 60, 11, 10, 8, 2] rfl
        refine hK18 _ _ ?_
        refine wp_cond_false (A.get rfl) ?_
        refine wp_skip ?_
        refine hK15 _ _ ?_
        refine region_seq ?_  -- region 12
        refine Lm A rfl (A.g 11 rfl) fun _ A => Lo A rfl (y_add (A.g 61 rfl) (evc _ _) (c := ((i + 1 : Nat) : Int)) ((wrap64 (by omega)).trans (by omega)) fun _ A => ?_)
        refine La A rfl (A.g 62 rfl) fun _ A => ?_
        replace A := A.only [90, 68, 60, 11, 10, 8, 2] rfl
        replace A := A.only [11, 10, 8, 2] rfl
        exact ⟨kk - 1, by omega, i + 1, _, _, m2, R2, Hm2, Hr2, by omega, hN2, hR2, hs2, by omega, A, S⟩
    · obtain rfl : i = l.length := by omega
      refine wp_seq_k fun K13 hK13 => ?_
      refine wp_seq_k fun K14 hK14 => ?_
      refine region_seq ?_  -- region 11
      refine Lm A rfl (A.g 11 rfl) fun _ A => Lm A rfl (A.g 2 rfl) fun _ A => Lo A rfl (y_lenS (e := 57) (by kernel_rfl) (A.g 58 rfl) fun _ A => ?_)
      refine Lo A rfl (y_lss (A.g 57 rfl) (A.g 59 rfl) (c := false) (decide_eq_false (by omega)) fun _ A => ?_)
      replace A := A.only [60, 11, 10, 8, 2] rfl
      refine hK14 _ _ ?_
      refine wp_cond_false (A.get rfl) ?_
      refine wp_exit ?_
      refine hK11 _ _ ?_
      refine wp_seq_k fun K15 hK15 => ?_
      refine wp_seq_k fun K16 hK16 => ?_
      refine region_seq ?_  -- region 17
      refine La A rfl (evc _ _) fun _ A => ?_
      replace A := A.only [60, 12, 11, 10, 8, 2] rfl
      refine hK16 _ _ ?_
      refine wp_block ?_
      replace A := A.only [12, 10, 8] rfl
      obtain ⟨vl, Hl, hR⟩ := hR
      replace hR : RefRepL q R vl Hl Hr := hR
      have hrow := hR.row
      obtain ⟨ka, kc, rfl⟩ := SlRep.len hrow
      have hgood := hsm.good
      have hn10 := hsm.n10
      have hfew : R.links.length ≤ 300 := by obtain ⟨_, _, _, _, _, h, -⟩ := hR; exact h.few
      generalize hL : R.links = L at hrow hgood hfew hR
      refine wp_loop_ghost (fun kk ac w' => ∃ (j : Nat) (m : M) (R : RM) (Hm Hr : Frag), kk + j = L.length ∧ NetRep p m Hm ∧ RefRepL q R (.slice ka L.length kc) Hl Hr ∧ Sim m R ∧ R.links = L ∧ R.way.length ≤ 1000000 ∧ Sl 143 ac [(8, .pointer (some ⟨p, 0, none⟩)), (10, .pointer (some ⟨q, 0, none⟩)), (12, .int .i64 ((j : Nat) : Int))] ∧ St [] w0 w' (Hm ++ Hr)) L.length ⟨0, m, R, Hm, Hr, by simp, hN, hR, hsm, hL, by omega, A, S⟩ ?_
      clear A S hN hR hsm hL hwl
      rintro kk ac w ⟨j, m, R, Hm, Hr, hkk, hN, hR, hsm, hL, hwl, A, S⟩
      rcases Nat.lt_or_ge j L.length with hj | hj
      · obtain ⟨l9, hlj⟩ : ∃ l, L[j]? = some l := ⟨_, List.getElem?_eq_getElem hj⟩
        have hg9 := hgood l9 (List.mem_of_getElem? hlj)
        have i1 : i64 l9.1 := by unfold i64; omega
        have i2 : i64 l9.2 := by unfold i64; omega
        obtain ⟨kb, cap, cs, hq, rfl, hcs, hncap, htake⟩ := hrow.block (by omega)
        simp only [Value.slice.injEq] at hq; obtain ⟨rfl, -, rfl⟩ := hq
        obtain ⟨hg0, hg1⟩ := pairs_get _ j l9 hlj
        have hc0 : cs[j * 2]? = some (.int .i64 l9.1) := by rw [SlRep.cell htake (by omega), hg0]
        have hc1 : cs[j * 2 + 1]? = some (.int .i64 l9.2) := by rw [SlRep.cell htake (by omega), hg1]
        have hR0 := hR
        refine wp_seq_k fun K17 hK17 => ?_
        refine wp_seq_k fun K18 hK18 => ?_
        refine region_seq ?_  -- region 18
        refine Lm A rfl (A.g 12 rfl) fun _ A => Lm A rfl (A.g 10 rfl) fun _ A => Lo A rfl (y_nilCheck (A.g 92 rfl) fun _ A => ?_)
        refine Lo A rfl (y_fieldAddr (off := 1) (j := 1) (by kernel_rfl) (A.g 93 rfl) (by first | rfl | omega) fun _ A => ?_)
        replace A := A.only [94, 91, 12, 10, 8] rfl
        refine Lo A rfl (y_load (by kernel_rfl) (A.g 94 rfl) (hR0.at S.app_right.holds).1 fun _ A => ?_)
        refine Lo A rfl (y_lenS (e := 28) (by kernel_rfl) (A.g 95 rfl) fun _ A => ?_)
        refine Lo A rfl (y_lss (A.g 91 rfl) (A.g 96 rfl) (c := true) (decide_eq_true (by omega)) fun _ A => ?_)
        replace A := A.only [97, 12, 10, 8] rfl
        refine hK18 _ _ ?_
        refine wp_cond_true (A.get rfl) ?_
        refine wp_skip ?_
        refine hK17 _ _ ?_
        refine wp_seq_k fun K19 hK19 => ?_
        refine wp_block ?_
        refine wp_seq_k fun K20 hK20 => ?_
        refine region_drawS A [] [(0, true), (1, true), (2, true), (3, true), (4, true), (5, true), (6, true), (7, true), (8, true), (9, true), (10, true), (11, true), (12, true), (13, true), (14, false), (15, false), (16, false), (17, false), (18, false), (19, false), (20, false), (21, true), (22, true), (23, true), (24, true), (25, true), (26, true), (27, true), (28, true), (29, true), (30, true), (31, true), (32, true), (33, true), (34, true), (35, false), (36, false), (37, false), (38, false), (39, false), (40, false), (41, false)] (by kernel_rfl) (by kernel_rfl) (fun d _ _ _ _ h => by cases d <;> exact h) trivial ?_  -- region 20
        intro ac w A gG nN
        replace S : St _ _ _ (Hm ++ Hr) := (S.new gG nN).perm (by first | exact .refl _ | (rw [List.append_assoc]; exact .refl _) | (simp only [List.append_assoc, List.nil_append, List.append_nil]; exact .refl _))
        refine S_pure (fun w1 => w1.cell? ⟨q, 1, none⟩ = some (.slice (some ⟨kb, 0, none⟩) L.length kc) ∧ Holds w1 [(kb, .cells cs 28 (0, 0))]) (fun _ _ => trivial) (hR0.at (St.app_left (H := Hr) (K := Hm) (S.perm (by classical rw [List.perm_iff_count]; intro x; simp only [List.count_append] <;> omega))).holds : (fun w1 => w1.cell? ⟨q, 1, none⟩ = some (.slice (some ⟨kb, 0, none⟩) L.length kc) ∧ Holds w1 [(kb, .cells cs 28 (0, 0))]) _) A rfl (by decide) rfl (fun w1 hR => r_move (A.g 8 rfl)) fun _ A => ?_
        refine S_pure (fun w1 => w1.cell? ⟨q, 1, none⟩ = some (.slice (some ⟨kb, 0, none⟩) L.length kc) ∧ Holds w1 [(kb, .cells cs 28 (0, 0))]) (fun _ h => h) (hR0.at (St.app_left (H := Hr) (K := Hm) (S.perm (by classical rw [List.perm_iff_count]; intro x; simp only [List.count_append] <;> omega))).holds : (fun w1 => w1.cell? ⟨q, 1, none⟩ = some (.slice (some ⟨kb, 0, none⟩) L.length kc) ∧ Holds w1 [(kb, .cells cs 28 (0, 0))]) _) A rfl (by decide) rfl (fun w1 hR => r_move (A.g 10 rfl)) fun _ A => ?_
        refine S_pure (fun w1 => w1.cell? ⟨q, 1, none⟩ = some (.slice (some ⟨kb, 0, none⟩) L.length kc) ∧ Holds w1 [(kb, .cells cs 28 (0, 0))]) (fun _ h => h) (hR0.at (St.app_left (H := Hr) (K := Hm) (S.perm (by classical rw [List.perm_iff_count]; intro x; simp only [List.count_append] <;> omega))).holds : (fun w1 => w1.cell? ⟨q, 1, none⟩ = some (.slice (some ⟨kb, 0, none⟩) L.length kc) ∧ Holds w1 [(kb, .cells cs 28 (0, 0))]) _) A rfl (by decide) rfl (fun w1 hR => r_move (A.g 10 rfl)) fun _ A => ?_
        refine S_pure (fun w1 => w1.cell? ⟨q, 1, none⟩ = some (.slice (some ⟨kb, 0, none⟩) L.length kc) ∧ Holds w1 [(kb, .cells cs 28 (0, 0))]) (fun _ h => h) (hR0.at (St.app_left (H := Hr) (K := Hm) (S.perm (by classical rw [List.perm_iff_count]; intro x; simp only [List.count_append] <;> omega))).holds : (fun w1 => w1.cell? ⟨q, 1, none⟩ = some (.slice (some ⟨kb, 0, none⟩) L.length kc) ∧ Holds w1 [(kb, .cells cs 28 (0, 0))]) _) A rfl (by decide) rfl (fun w1 hR => r_nilCheck (A.g 102 rfl)) fun _ A => ?_
        replace A := A.only [103, 101, 100, 97, 12, 10, 8] rfl
        refine S_pure (fun w1 => w1.cell? ⟨q, 1, none⟩ = some (.slice (some ⟨kb, 0, none⟩) L.length kc) ∧ Holds w1 [(kb, .cells cs 28 (0, 0))]) (fun _ h => h) (hR0.at (St.app_left (H := Hr) (K := Hm) (S.perm (by classical rw [List.perm_iff_count]; intro x; simp only [List.count_append] <;> omega))).holds : (fun w1 => w1.cell? ⟨q, 1, none⟩ = some (.slice (some ⟨kb, 0, none⟩) L.length kc) ∧ Holds w1 [(kb, .cells cs 28 (0, 0))]) _) A rfl (by decide) rfl (fun w1 hR => r_fieldAddr (off := 1) (j := 1) (by kernel_rfl) (A.g 103 rfl) (by first | rfl | omega)) fun _ A => ?_
        refine S_pure (fun w1 => w1.cell? ⟨q, 1, none⟩ = some (.slice (some ⟨kb, 0, none⟩) L.length kc) ∧ Holds w1 [(kb, .cells cs 28 (0, 0))]) (fun _ h => h) (hR0.at (St.app_left (H := Hr) (K := Hm) (S.perm (by classical rw [List.perm_iff_count]; intro x; simp only [List.count_append] <;> omega))).holds : (fun w1 => w1.cell? ⟨q, 1, none⟩ = some (.slice (some ⟨kb, 0, none⟩) L.length kc) ∧ Holds w1 [(kb, .cells cs 28 (0, 0))]) _) A rfl (by decide) rfl (fun w1 hR => r_load (by kernel_rfl) (A.g 104 rfl) hR.1) fun _ A => ?_
        refine S_pure (fun w1 => w1.cell? ⟨q, 1, none⟩ = some (.slice (some ⟨kb, 0, none⟩) L.length kc) ∧ Holds w1 [(kb, .cells cs 28 (0, 0))]) (fun _ h => h) (hR0.at (St.app_left (H := Hr) (K := Hm) (S.perm (by classical rw [List.perm_iff_count]; intro x; simp only [List.count_append] <;> omega))).holds : (fun w1 => w1.cell? ⟨q, 1, none⟩ = some (.slice (some ⟨kb, 0, none⟩) L.length kc) ∧ Holds w1 [(kb, .cells cs 28 (0, 0))]) _) A rfl (by decide) rfl (fun w1 hR => r_move (A.g 12 rfl)) fun _ A => ?_
        refine S_pure (fun w1 => w1.cell? ⟨q, 1, none⟩ = some (.slice (some ⟨kb, 0, none⟩) L.length kc) ∧ Holds w1 [(kb, .cells cs 28 (0, 0))]) (fun _ h => h) (hR0.at (St.app_left (H := Hr) (K := Hm) (S.perm (by classical rw [List.perm_iff_count]; intro x; simp only [List.count_append] <;> omega))).holds : (fun w1 => w1.cell? ⟨q, 1, none⟩ = some (.slice (some ⟨kb, 0, none⟩) L.length kc) ∧ Holds w1 [(kb, .cells cs 28 (0, 0))]) _) A rfl (by decide) rfl (fun w1 hR => r_indexS (e := 28) (size := 2) (j := j * 2) (by kernel_rfl) (by kernel_rfl) (A.g 105 rfl) (A.g 106 rfl) (by omega) (by omega) (by simp)) fun _ A => ?_
        refine S_pure (fun w1 => w1.cell? ⟨q, 1, none⟩ = some (.slice (some ⟨kb, 0, none⟩) L.length kc) ∧ Holds w1 [(kb, .cells cs 28 (0, 0))]) (fun _ h => h) (hR0.at (St.app_left (H := Hr) (K := Hm) (S.perm (by classical rw [List.perm_iff_count]; intro x; simp only [List.count_append] <;> omega))).holds : (fun w1 => w1.cell? ⟨q, 1, none⟩ = some (.slice (some ⟨kb, 0, none⟩) L.length kc) ∧ Holds w1 [(kb, .cells cs 28 (0, 0))]) _) A rfl (by decide) rfl (fun w1 hR => r_indexP (n := 2) (e := 3) (size := 1) (j := j * 2) (by kernel_rfl) (by kernel_rfl) (A.g 107 rfl) (evc _ _) (by decide) (by decide) (by first | rfl | omega)) fun _ A => ?_
        replace A := A.only [108, 101, 100, 97, 12, 10, 8] rfl
        refine S_pure (fun w1 => w1.cell? ⟨q, 1, none⟩ = some (.slice (some ⟨kb, 0, none⟩) L.length kc) ∧ Holds w1 [(kb, .cells cs 28 (0, 0))]) (fun _ h => h) (hR0.at (St.app_left (H := Hr) (K := Hm) (S.perm (by classical rw [List.perm_iff_count]; intro x; simp only [List.count_append] <;> omega))).holds : (fun w1 => w1.cell? ⟨q, 1, none⟩ = some (.slice (some ⟨kb, 0, none⟩) L.length kc) ∧ Holds w1 [(kb, .cells cs 28 (0, 0))]) _) A rfl (by decide) rfl (fun w1 hR => r_load (by kernel_rfl) (A.g 108 rfl) ((cell_of (hR.2.at 0 rfl) _).trans hc0)) fun _ A => ?_
        refine S_pure (fun w1 => w1.cell? ⟨q, 1, none⟩ = some (.slice (some ⟨kb, 0, none⟩) L.length kc) ∧ Holds w1 [(kb, .cells cs 28 (0, 0))]) (fun _ h => h) (hR0.at (St.app_left (H := Hr) (K := Hm) (S.perm (by classical rw [List.perm_iff_count]; intro x; simp only [List.count_append] <;> omega))).holds : (fun w1 => w1.cell? ⟨q, 1, none⟩ = some (.slice (some ⟨kb, 0, none⟩) L.length kc) ∧ Holds w1 [(kb, .cells cs 28 (0, 0))]) _) A rfl (by decide) rfl (fun w1 hR => r_move (A.g 10 rfl)) fun _ A => ?_
        refine S_pure (fun w1 => w1.cell? ⟨q, 1, none⟩ = some (.slice (some ⟨kb, 0, none⟩) L.length kc) ∧ Holds w1 [(kb, .cells cs 28 (0, 0))]) (fun _ h => h) (hR0.at (St.app_left (H := Hr) (K := Hm) (S.perm (by classical rw [List.perm_iff_count]; intro x; simp only [List.count_append] <;> omega))).holds : (fun w1 => w1.cell? ⟨q, 1, none⟩ = some (.slice (some ⟨kb, 0, none⟩) L.length kc) ∧ Holds w1 [(kb, .cells cs 28 (0, 0))]) _) A rfl (by decide) rfl (fun w1 hR => r_nilCheck (A.g 110 rfl)) fun _ A => ?_
        refine S_pure (fun w1 => w1.cell? ⟨q, 1, none⟩ = some (.slice (some ⟨kb, 0, none⟩) L.length kc) ∧ Holds w1 [(kb, .cells cs 28 (0, 0))]) (fun _ h => h) (hR0.at (St.app_left (H := Hr) (K := Hm) (S.perm (by classical rw [List.perm_iff_count]; intro x; simp only [List.count_append] <;> omega))).holds : (fun w1 => w1.cell? ⟨q, 1, none⟩ = some (.slice (some ⟨kb, 0, none⟩) L.length kc) ∧ Holds w1 [(kb, .cells cs 28 (0, 0))]) _) A rfl (by decide) rfl (fun w1 hR => r_fieldAddr (off := 1) (j := 1) (by kernel_rfl) (A.g 111 rfl) (by first | rfl | omega)) fun _ A => ?_
        refine S_pure (fun w1 => w1.cell? ⟨q, 1, none⟩ = some (.slice (some ⟨kb, 0, none⟩) L.length kc) ∧ Holds w1 [(kb, .cells cs 28 (0, 0))]) (fun _ h => h) (hR0.at (St.app_left (H := Hr) (K := Hm) (S.perm (by classical rw [List.perm_iff_count]; intro x; simp only [List.count_append] <;> omega))).holds : (fun w1 => w1.cell? ⟨q, 1, none⟩ = some (.slice (some ⟨kb, 0, none⟩) L.length kc) ∧ Holds w1 [(kb, .cells cs 28 (0, 0))]) _) A rfl (by decide) rfl (fun w1 hR => r_load (by kernel_rfl) (A.g 112 rfl) hR.1) fun _ A => ?_
        replace A := A.only [113, 109, 101, 100, 97, 12, 10, 8] rfl
        have hR := (hR0.at (St.app_left (H := Hr) (K := Hm) (S.perm (by classical rw [List.perm_iff_count]; intro x; simp only [List.count_append] <;> omega))).holds : (fun w1 => w1.cell? ⟨q, 1, none⟩ = some (.slice (some ⟨kb, 0, none⟩) L.length kc) ∧ Holds w1 [(kb, .cells cs 28 (0, 0))]) _)
        refine S_op A hR rfl (by decide) rfl (y_move (A.g 12 rfl) fun _ A => ?_)
        have hR := (hR0.at (St.app_left (H := Hr) (K := Hm) (S.perm (by classical rw [List.perm_iff_count]; intro x; simp only [List.count_append] <;> omega))).holds : (fun w1 => w1.cell? ⟨q, 1, none⟩ = some (.slice (some ⟨kb, 0, none⟩) L.length kc) ∧ Holds w1 [(kb, .cells cs 28 (0, 0))]) _)
        refine S_op A hR rfl (by decide) rfl (y_indexS (e := 28) (size := 2) (j := j * 2) (by kernel_rfl) (by kernel_rfl) (A.g 113 rfl) (A.g 114 rfl) (by omega) (by omega) (by simp) fun _ A => ?_)
        have hR := (hR0.at (St.app_left (H := Hr) (K := Hm) (S.perm (by classical rw [List.perm_iff_count]; intro x; simp only [List.count_append] <;> omega))).holds : (fun w1 => w1.cell? ⟨q, 1, none⟩ = some (.slice (some ⟨kb, 0, none⟩) L.length kc) ∧ Holds w1 [(kb, .cells cs 28 (0, 0))]) _)
        refine S_op A hR rfl (by decide) rfl (y_indexP (n := 2) (e := 3) (size := 1) (j := j * 2 + 1) (by kernel_rfl) (by kernel_rfl) (A.g 115 rfl) (evc _ _) (by decide) (by decide) (by first | rfl | omega) fun _ A => ?_)
        have hR := (hR0.at (St.app_left (H := Hr) (K := Hm) (S.perm (by classical rw [List.perm_iff_count]; intro x; simp only [List.count_append] <;> omega))).holds : (fun w1 => w1.cell? ⟨q, 1, none⟩ = some (.slice (some ⟨kb, 0, none⟩) L.length kc) ∧ Holds w1 [(kb, .cells cs 28 (0, 0))]) _)
        refine S_op A hR rfl (by decide) rfl (y_load (by kernel_rfl) (A.g 116 rfl) ((cell_of ((hR0.at (St.app_left (H := Hr) (K := Hm) (S.perm (by classical rw [List.perm_iff_count]; intro x; simp only [List.count_append] <;> omega))).holds).2.at 0 rfl) _).trans hc1) fun _ A => ?_)
        have hR := (hR0.at (St.app_left (H := Hr) (K := Hm) (S.perm (by classical rw [List.perm_iff_count]; intro x; simp only [List.count_append] <;> omega))).holds : (fun w1 => w1.cell? ⟨q, 1, none⟩ = some (.slice (some ⟨kb, 0, none⟩) L.length kc) ∧ Holds w1 [(kb, .cells cs 28 (0, 0))]) _)
        have cdr := drained_ok (a := l9.1) (b := l9.2) hN hR0 S.nd S.holds hsm hwl i1 i2
        refine S_op A hR rfl (by decide) rfl (y_call4 (by kernel_rfl) rfl (A.g 100 rfl) (A.g 101 rfl) (A.g 109 rfl) (A.g 117 rfl) (callW cdr fun v w H9 s hf ac A => ?_))
        replace S : St _ _ _ (H9 ++ []) := St.call (H := Hm ++ Hr) (R := []) (S.perm (by rw [List.append_nil])) rfl s
        obtain ⟨rfl, m2, R2, Hm2, Hr2, rfl, hN2, hR2, hs2, hl2, hw2⟩ := hf
        rw [List.append_nil] at S
        replace A := A.only [118, 97, 12, 10, 8] rfl
        have hR := (hR2.at (St.app_left (H := Hr2) (K := Hm2) (S.perm (by classical rw [List.perm_iff_count]; intro x; simp only [List.count_append] <;> omega))).holds : (fun w1 => w1.cell? ⟨q, 1, none⟩ = some (.slice (some ⟨kb, 0, none⟩) L.length kc) ∧ Holds w1 [(kb, .cells cs 28 (0, 0))]) _)
        refine S_op A hR rfl (by decide) rfl (y_not (A.g 118 rfl) rfl fun _ A => ?_)
        have hR := (hR2.at (St.app_left (H := Hr2) (K := Hm2) (S.perm (by classical rw [List.perm_iff_count]; intro x; simp only [List.count_append] <;> omega))).holds : (fun w1 => w1.cell? ⟨q, 1, none⟩ = some (.slice (some ⟨kb, 0, none⟩) L.length kc) ∧ Holds w1 [(kb, .cells cs 28 (0, 0))]) _)
        refine S_op A hR rfl (by decide) rfl (y_move (A.g 119 rfl) fun _ A => ?_)
        refine S_pureG (fun w1 => w1.cell? ⟨q, 1, none⟩ = some (.slice (some ⟨kb, 0, none⟩) L.length kc) ∧ Holds w1 [(kb, .cells cs 28 (0, 0))]) (fun _ h => h) (hR2.at (St.app_left (H := Hr2) (K := Hm2) (S.perm (by classical rw [List.perm_iff_count]; intro x; simp only [List.count_append] <;> omega))).holds : (fun w1 => w1.cell? ⟨q, 1, none⟩ = some (.slice (some ⟨kb, 0, none⟩) L.length kc) ∧ Holds w1 [(kb, .cells cs 28 (0, 0))]) _) A rfl (by decide) rfl rfl (by decide) (A.get rfl) (fun w1 hR => r_move (A.g 8 rfl)) fun _ A => ?_
        refine S_pureG (fun w1 => w1.cell? ⟨q, 1, none⟩ = some (.slice (some ⟨kb, 0, none⟩) L.length kc) ∧ Holds w1 [(kb, .cells cs 28 (0, 0))]) (fun _ h => h) (hR2.at (St.app_left (H := Hr2) (K := Hm2) (S.perm (by classical rw [List.perm_iff_count]; intro x; simp only [List.count_append] <;> omega))).holds : (fun w1 => w1.cell? ⟨q, 1, none⟩ = some (.slice (some ⟨kb, 0, none⟩) L.length kc) ∧ Holds w1 [(kb, .cells cs 28 (0, 0))]) _) A rfl (by decide) rfl rfl (by decide) (A.get rfl) (fun w1 hR => r_move (A.g 10 rfl)) fun _ A => ?_
        refine S_pureG (fun w1 => w1.cell? ⟨q, 1, none⟩ = some (.slice (some ⟨kb, 0, none⟩) L.length kc) ∧ Holds w1 [(kb, .cells cs 28 (0, 0))]) (fun _ h => h) (hR2.at (St.app_left (H := Hr2) (K := Hm2) (S.perm (by classical rw [List.perm_iff_count]; intro x; simp only [List.count_append] <;> omega))).holds : (fun w1 => w1.cell? ⟨q, 1, none⟩ = some (.slice (some ⟨kb, 0, none⟩) L.length kc) ∧ Holds w1 [(kb, .cells cs 28 (0, 0))]) _) A rfl (by decide) rfl rfl (by decide) (A.get rfl) (fun w1 hR => r_move (A.g 10 rfl)) fun _ A => ?_
        replace A := A.only [123, 122, 121, 120, 97, 12, 10, 8] rfl
        refine S_pureG (fun w1 => w1.cell? ⟨q, 1, none⟩ = some (.slice (some ⟨kb, 0, none⟩) L.length kc) ∧ Holds w1 [(kb, .cells cs 28 (0, 0))]) (fun _ h => h) (hR2.at (St.app_left (H := Hr2) (K := Hm2) (S.perm (by classical rw [List.perm_iff_count]; intro x; simp only [List.count_append] <;> omega))).holds : (fun w1 => w1.cell? ⟨q, 1, none⟩ = some (.slice (some ⟨kb, 0, none⟩) L.length kc) ∧ Holds w1 [(kb, .cells cs 28 (0, 0))]) _) A rfl (by decide) rfl rfl (by decide) (A.get rfl) (fun w1 hR => r_nilCheck (A.g 123 rfl)) fun _ A => ?_
        refine S_pureG (fun w1 => w1.cell? ⟨q, 1, none⟩ = some (.slice (some ⟨kb, 0, none⟩) L.length kc) ∧ Holds w1 [(kb, .cells cs 28 (0, 0))]) (fun _ h => h) (hR2.at (St.app_left (H := Hr2) (K := Hm2) (S.perm (by classical rw [List.perm_iff_count]; intro x; simp only [List.count_append] <;> omega))).holds : (fun w1 => w1.cell? ⟨q, 1, none⟩ = some (.slice (some ⟨kb, 0, none⟩) L.length kc) ∧ Holds w1 [(kb, .cells cs 28 (0, 0))]) _) A rfl (by decide) rfl rfl (by decide) (A.get rfl) (fun w1 hR => r_fieldAddr (off := 1) (j := 1) (by kernel_rfl) (A.g 124 rfl) (by first | rfl | omega)) fun _ A => ?_
        refine S_pureG (fun w1 => w1.cell? ⟨q, 1, none⟩ = some (.slice (some ⟨kb, 0, none⟩) L.length kc) ∧ Holds w1 [(kb, .cells cs 28 (0, 0))]) (fun _ h => h) (hR2.at (St.app_left (H := Hr2) (K := Hm2) (S.perm (by classical rw [List.perm_iff_count]; intro x; simp only [List.count_append] <;> omega))).holds : (fun w1 => w1.cell? ⟨q, 1, none⟩ = some (.slice (some ⟨kb, 0, none⟩) L.length kc) ∧ Holds w1 [(kb, .cells cs 28 (0, 0))]) _) A rfl (by decide) rfl rfl (by decide) (A.get rfl) (fun w1 hR => r_load (by kernel_rfl) (A.g 125 rfl) hR.1) fun _ A => ?_
        refine S_pureG (fun w1 => w1.cell? ⟨q, 1, none⟩ = some (.slice (some ⟨kb, 0, none⟩) L.length kc) ∧ Holds w1 [(kb, .cells cs 28 (0, 0))]) (fun _ h => h) (hR2.at (St.app_left (H := Hr2) (K := Hm2) (S.perm (by classical rw [List.perm_iff_count]; intro x; simp only [List.count_append] <;> omega))).holds : (fun w1 => w1.cell? ⟨q, 1, none⟩ = some (.slice (some ⟨kb, 0, none⟩) L.length kc) ∧ Holds w1 [(kb, .cells cs 28 (0, 0))]) _) A rfl (by decide) rfl rfl (by decide) (A.get rfl) (fun w1 hR => r_move (A.g 12 rfl)) fun _ A => ?_
        refine S_pureG (fun w1 => w1.cell? ⟨q, 1, none⟩ = some (.slice (some ⟨kb, 0, none⟩) L.length kc) ∧ Holds w1 [(kb, .cells cs 28 (0, 0))]) (fun _ h => h) (hR2.at (St.app_left (H := Hr2) (K := Hm2) (S.perm (by classical rw [List.perm_iff_count]; intro x; simp only [List.count_append] <;> omega))).holds : (fun w1 => w1.cell? ⟨q, 1, none⟩ = some (.slice (some ⟨kb, 0, none⟩) L.length kc) ∧ Holds w1 [(kb, .cells cs 28 (0, 0))]) _) A rfl (by decide) rfl rfl (by decide) (A.get rfl) (fun w1 hR => r_indexS (e := 28) (size := 2) (j := j * 2) (by kernel_rfl) (by kernel_rfl) (A.g 126 rfl) (A.g 127 rfl) (by omega) (by omega) (by simp)) fun _ A => ?_
        replace A := A.only [128, 122, 121, 120, 97, 12, 10, 8] rfl
        refine S_pureG (fun w1 => w1.cell? ⟨q, 1, none⟩ = some (.slice (some ⟨kb, 0, none⟩) L.length kc) ∧ Holds w1 [(kb, .cells cs 28 (0, 0))]) (fun _ h => h) (hR2.at (St.app_left (H := Hr2) (K := Hm2) (S.perm (by classical rw [List.perm_iff_count]; intro x; simp only [List.count_append] <;> omega))).holds : (fun w1 => w1.cell? ⟨q, 1, none⟩ = some (.slice (some ⟨kb, 0, none⟩) L.length kc) ∧ Holds w1 [(kb, .cells cs 28 (0, 0))]) _) A rfl (by decide) rfl rfl (by decide) (A.get rfl) (fun w1 hR => r_indexP (n := 2) (e := 3) (size := 1) (j := j * 2 + 1) (by kernel_rfl) (by kernel_rfl) (A.g 128 rfl) (evc _ _) (by decide) (by decide) (by first | rfl | omega)) fun _ A => ?_
        refine S_pureG (fun w1 => w1.cell? ⟨q, 1, none⟩ = some (.slice (some ⟨kb, 0, none⟩) L.length kc) ∧ Holds w1 [(kb, .cells cs 28 (0, 0))]) (fun _ h => h) (hR2.at (St.app_left (H := Hr2) (K := Hm2) (S.perm (by classical rw [List.perm_iff_count]; intro x; simp only [List.count_append] <;> omega))).holds : (fun w1 => w1.cell? ⟨q, 1, none⟩ = some (.slice (some ⟨kb, 0, none⟩) L.length kc) ∧ Holds w1 [(kb, .cells cs 28 (0, 0))]) _) A rfl (by decide) rfl rfl (by decide) (A.get rfl) (fun w1 hR => r_load (by kernel_rfl) (A.g 129 rfl) ((cell_of (hR.2.at 0 rfl) _).trans hc1)) fun _ A => ?_
        refine S_pureG (fun w1 => w1.cell? ⟨q, 1, none⟩ = some (.slice (some ⟨kb, 0, none⟩) L.length kc) ∧ Holds w1 [(kb, .cells cs 28 (0, 0))]) (fun _ h => h) (hR2.at (St.app_left (H := Hr2) (K := Hm2) (S.perm (by classical rw [List.perm_iff_count]; intro x; simp only [List.count_append] <;> omega))).holds : (fun w1 => w1.cell? ⟨q, 1, none⟩ = some (.slice (some ⟨kb, 0, none⟩) L.length kc) ∧ Holds w1 [(kb, .cells cs 28 (0, 0))]) _) A rfl (by decide) rfl rfl (by decide) (A.get rfl) (fun w1 hR => r_move (A.g 10 rfl)) fun _ A => ?_
        refine S_pureG (fun w1 => w1.cell? ⟨q, 1, none⟩ = some (.slice (some ⟨kb, 0, none⟩) L.length kc) ∧ Holds w1 [(kb, .cells cs 28 (0, 0))]) (fun _ h => h) (hR2.at (St.app_left (H := Hr2) (K := Hm2) (S.perm (by classical rw [List.perm_iff_count]; intro x; simp only [List.count_append] <;> omega))).holds : (fun w1 => w1.cell? ⟨q, 1, none⟩ = some (.slice (some ⟨kb, 0, none⟩) L.length kc) ∧ Holds w1 [(kb, .cells cs 28 (0, 0))]) _) A rfl (by decide) rfl rfl (by decide) (A.get rfl) (fun w1 hR => r_nilCheck (A.g 131 rfl)) fun _ A => ?_
        refine S_pureG (fun w1 => w1.cell? ⟨q, 1, none⟩ = some (.slice (some ⟨kb, 0, none⟩) L.length kc) ∧ Holds w1 [(kb, .cells cs 28 (0, 0))]) (fun _ h => h) (hR2.at (St.app_left (H := Hr2) (K := Hm2) (S.perm (by classical rw [List.perm_iff_count]; intro x; simp only [List.count_append] <;> omega))).holds : (fun w1 => w1.cell? ⟨q, 1, none⟩ = some (.slice (some ⟨kb, 0, none⟩) L.length kc) ∧ Holds w1 [(kb, .cells cs 28 (0, 0))]) _) A rfl (by decide) rfl rfl (by decide) (A.get rfl) (fun w1 hR => r_fieldAddr (off := 1) (j := 1) (by kernel_rfl) (A.g 132 rfl) (by first | rfl | omega)) fun _ A => ?_
        replace A := A.only [133, 130, 122, 121, 120, 97, 12, 10, 8] rfl
        refine S_pureG (fun w1 => w1.cell? ⟨q, 1, none⟩ = some (.slice (some ⟨kb, 0, none⟩) L.length kc) ∧ Holds w1 [(kb, .cells cs 28 (0, 0))]) (fun _ h => h) (hR2.at (St.app_left (H := Hr2) (K := Hm2) (S.perm (by classical rw [List.perm_iff_count]; intro x; simp only [List.count_append] <;> omega))).holds : (fun w1 => w1.cell? ⟨q, 1, none⟩ = some (.slice (some ⟨kb, 0, none⟩) L.length kc) ∧ Holds w1 [(kb, .cells cs 28 (0, 0))]) _) A rfl (by decide) rfl rfl (by decide) (A.get rfl) (fun w1 hR => r_load (by kernel_rfl) (A.g 133 rfl) hR.1) fun _ A => ?_
        have hR := (hR2.at (St.app_left (H := Hr2) (K := Hm2) (S.perm (by classical rw [List.perm_iff_count]; intro x; simp only [List.count_append] <;> omega))).holds : (fun w1 => w1.cell? ⟨q, 1, none⟩ = some (.slice (some ⟨kb, 0, none⟩) L.length kc) ∧ Holds w1 [(kb, .cells cs 28 (0, 0))]) _)
        refine S_yes A hR rfl (by decide) rfl rfl (by decide) (A.get rfl) (y_move (A.g 12 rfl) fun _ A => ?_)
        have hR := (hR2.at (St.app_left (H := Hr2) (K := Hm2) (S.perm (by classical rw [List.perm_iff_count]; intro x; simp only [List.count_append] <;> omega))).holds : (fun w1 => w1.cell? ⟨q, 1, none⟩ = some (.slice (some ⟨kb, 0, none⟩) L.length kc) ∧ Holds w1 [(kb, .cells cs 28 (0, 0))]) _)
        refine S_yes A hR rfl (by decide) rfl rfl (by decide) (A.get rfl) (y_indexS (e := 28) (size := 2) (j := j * 2) (by kernel_rfl) (by kernel_rfl) (A.g 134 rfl) (A.g 135 rfl) (by omega) (by omega) (by simp) fun _ A => ?_)
        have hR := (hR2.at (St.app_left (H := Hr2) (K := Hm2) (S.perm (by classical rw [List.perm_iff_count]; intro x; simp only [List.count_append] <;> omega))).holds : (fun w1 => w1.cell? ⟨q, 1, none⟩ = some (.slice (some ⟨kb, 0, none⟩) L.length kc) ∧ Holds w1 [(kb, .cells cs 28 (0, 0))]) _)
        refine S_yes A hR rfl (by decide) rfl rfl (by decide) (A.get rfl) (y_indexP (n := 2) (e := 3) (size := 1) (j := j * 2) (by kernel_rfl) (by kernel_rfl) (A.g 136 rfl) (evc _ _) (by decide) (by decide) (by first | rfl | omega) fun _ A => ?_)
        have hR := (hR2.at (St.app_left (H := Hr2) (K := Hm2) (S.perm (by classical rw [List.perm_iff_count]; intro x; simp only [List.count_append] <;> omega))).holds : (fun w1 => w1.cell? ⟨q, 1, none⟩ = some (.slice (some ⟨kb, 0, none⟩) L.length kc) ∧ Holds w1 [(kb, .cells cs 28 (0, 0))]) _)
        refine S_yes A hR rfl (by decide) rfl rfl (by decide) (A.get rfl) (y_load (by kernel_rfl) (A.g 137 rfl) ((cell_of ((hR2.at (St.app_left (H := Hr2) (K := Hm2) (S.perm (by classical rw [List.perm_iff_count]; intro x; simp only [List.count_append] <;> omega))).holds).2.at 0 rfl) _).trans hc0) fun _ A => ?_)
        replace A := A.only [138, 130, 122, 121, 120, 97, 12, 10, 8] rfl
        have hR := (hR2.at (St.app_left (H := Hr2) (K := Hm2) (S.perm (by classical rw [List.perm_iff_count]; intro x; simp only [List.count_append] <;> omega))).holds : (fun w1 => w1.cell? ⟨q, 1, none⟩ = some (.slice (some ⟨kb, 0, none⟩) L.length kc) ∧ Holds w1 [(kb, .cells cs 28 (0, 0))]) _)
        have cdr := drained_ok (a := l9.2) (b := l9.1) hN2 hR2 S.nd S.holds hs2 (Nat.le_trans hw2 hwl) i2 i1
        refine S_yes A hR rfl (by decide) rfl rfl (by decide) (A.get rfl) (y_call4 (by kernel_rfl) rfl (A.g 121 rfl) (A.g 122 rfl) (A.g 130 rfl) (A.g 138 rfl) (callW cdr fun v w H9 s hf ac A => ?_))
        replace S : St _ _ _ (H9 ++ []) := St.call (H := Hm2 ++ Hr2) (R := []) (S.perm (by rw [List.append_nil])) rfl s
        obtain ⟨rfl, m3, R3, Hm3, Hr3, rfl, hN3, hR3, hs3, hl3, hw3⟩ := hf
        rw [List.append_nil] at S
        have hR := (hR3.at (St.app_left (H := Hr3) (K := Hm3) (S.perm (by classical rw [List.perm_iff_count]; intro x; simp only [List.count_append] <;> omega))).holds : (fun w1 => w1.cell? ⟨q, 1, none⟩ = some (.slice (some ⟨kb, 0, none⟩) L.length kc) ∧ Holds w1 [(kb, .cells cs 28 (0, 0))]) _)
        refine S_yes A hR rfl (by decide) rfl rfl (by decide) (A.get rfl) (y_not (A.g 139 rfl) rfl fun _ A => ?_)
        have hR := (hR3.at (St.app_left (H := Hr3) (K := Hm3) (S.perm (by classical rw [List.perm_iff_count]; intro x; simp only [List.count_append] <;> omega))).holds : (fun w1 => w1.cell? ⟨q, 1, none⟩ = some (.slice (some ⟨kb, 0, none⟩) L.length kc) ∧ Holds w1 [(kb, .cells cs 28 (0, 0))]) _)
        refine S_op A hR rfl (by decide) rfl (y_pickF (A.g 120 rfl) (A.g 140 rfl) fun _ A => ?_)
        refine S_end (hR3.at (St.app_left (H := Hr3) (K := Hm3) (S.perm (by classical rw [List.perm_iff_count]; intro x; simp only [List.count_append] <;> omega))).holds : (fun w1 => w1.cell? ⟨q, 1, none⟩ = some (.slice (some ⟨kb, 0, none⟩) L.length kc) ∧ Holds w1 [(kb, .cells cs 28 (0, 0))]) _) ?_
        replace A := A.only [141, 97, 12, 10, 8] rfl
        refine hK20 _ _ ?_
        refine wp_cond_false (A.get rfl) ?_
        refine wp_skip ?_
        refine hK19 _ _ ?_
        refine region_seq ?_  -- region 19
        refine Lm A rfl (A.g 12 rfl) fun _ A => Lo A rfl (y_add (A.g 98 rfl) (evc _ _) (c := ((j + 1 : Nat) : Int)) ((wrap64 (by omega)).trans (by omega)) fun _ A => ?_)
        refine La A rfl (A.g 99 rfl) fun _ A => ?_
        replace A := A.only [141, 97, 12, 10, 8] rfl
        replace A := A.only [12, 10, 8] rfl
        exact ⟨kk - 1, by omega, j + 1, m3, R3, Hm3, Hr3, by omega, hN3, hR3, hs3, hl3.trans (hl2.trans hL), Nat.le_trans hw3 (Nat.le_trans hw2 hwl), A, S⟩
      · obtain rfl : j = L.length := by omega
        have hR0 := hR
        refine wp_seq_k fun K17 hK17 => ?_
        refine wp_seq_k fun K18 hK18 => ?_
        refine region_seq ?_  -- region 18
        refine Lm A rfl (A.g 12 rfl) fun _ A => Lm A rfl (A.g 10 rfl) fun _ A => Lo A rfl (y_nilCheck (A.g 92 rfl) fun _ A => ?_)
        refine Lo A rfl (y_fieldAddr (off := 1) (j := 1) (by kernel_rfl) (A.g 93 rfl) (by first | rfl | omega) fun _ A => ?_)
        replace A := A.only [94, 91, 12, 10, 8] rfl
        refine Lo A rfl (y_load (by kernel_rfl) (A.g 94 rfl) (hR0.at S.app_right.holds).1 fun _ A => ?_)
        refine Lo A rfl (y_lenS (e := 28) (by kernel_rfl) (A.g 95 rfl) fun _ A => ?_)
        refine Lo A rfl (y_lss (A.g 91 rfl) (A.g 96 rfl) (c := false) (decide_eq_false (by omega)) fun _ A => ?_)
        replace A := A.only [97, 12, 10, 8] rfl
        refine hK18 _ _ ?_
        refine wp_cond_false (A.get rfl) ?_
        refine wp_exit ?_
        refine hK15 _ _ ?_
        refine wp_seq_k fun K19 hK19 => ?_
        refine region_seq ?_  -- region 22
        refine Lo A rfl (y_call0 (by kernel_rfl) rfl  (callN (awake_ok) fun v w Ha gG nN hf ac A => ?_))
        obtain rfl := hf
        replace S : St _ _ _ (Ha ++ (Hm ++ Hr)) := (S.new gG nN).perm (by first | exact .refl _ | (rw [List.append_assoc]; exact .refl _) | (simp only [List.append_assoc, List.nil_append, List.append_nil]; exact .refl _))
        refine La A rfl (A.g 142 rfl) fun _ A => ?_
        replace A := A.only [97, 12, 10, 8, 6] rfl
        refine hK19 _ _ ?_
        exact wp_ret ⟨A.defers, _, res_run (rs := [.tmp 6]) (vs := [.bool true]) rfl ⟨A.get rfl, trivial⟩, ⟨_, rfl, S.kp.to_gr, _, rfl, S.newF⟩⟩
end Go.Proofs.Ytaeidblipdjgnaa
