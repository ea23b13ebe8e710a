import Derived.Test.YtaeidblipdjgnaaCut
namespace Go.Proofs.Ytaeidblipdjgnaa
open Go.RowKit Go.Maps Go.WideMaps

set_option maxRecDepth 20000 in
set_option maxHeartbeats 4000000 in
theorem peek1_ok {w : World} {qa : Option Addr} {qc : Nat} {its : List It} {HQ : Frag} {bi bo j : Nat} {it : It} (hsl : SlRep 85 2 (.slice qa its.length qc) its.length (itCells its) HQ) (hok : ItOk its) (hj : its[j]? = some it)
    (nd : (keys (HQ ++ (itH its ++ capT bi bo j (.slice none 0 0)))).Nodup) (hH : Holds w (HQ ++ (itH its ++ capT bi bo j (.slice none 0 0)))) :
    Calls Try.prog 44 (#[.slice qa its.length qc] ++ #[.pointer (some ⟨bi, 0, none⟩), .pointer (some ⟨bo, 0, none⟩)]) w (RetW (keys (HQ ++ (itH its ++ capT bi bo j (.slice none 0 0)))) w fun r Hr => ∃ vb Hb, r = .tuple #[.slice qa its.length qc, .int .i64 0] ∧ BRep vb it.bs Hb ∧ Hr = HQ ++ (itH its ++ (capT bi bo j vb ++ Hb))) := by
  have hjl : j < its.length := lt_of_get hj
  obtain ⟨b, cap, cs, hq, rfl, hcs, hncap, htake⟩ := hsl.block (by omega)
  simp only [Value.slice.injEq] at hq
  obtain ⟨rfl, -, rfl⟩ := hq
  have hit := hok it (List.mem_of_getElem? hj)
  obtain ⟨ba, bc, hbv⟩ := SlRep.len hit.1
  have hcell : cs[j * 2]? = some (.slice ba it.bs.length bc) := by
    rw [SlRep.cell htake (by omega), itCells_get, show j * 2 / 2 = j by omega, hj]; simp [hbv]
  have hitH : ∀ {D w0 w1 L}, St D w0 w1 (L ++ itH its) → BSrc w1 (.slice ba it.bs.length bc) it.bs := fun S => by
    have := BRep.src hit.1 (fun x hx => S.holds x (List.mem_append.2 (Or.inr (mem_itH hj hx))))
    rwa [hbv] at this
  have S0 := St.start nd hH
  show Calls Try.prog 44 #[.slice (some ⟨b, 0, none⟩) its.length qc, .pointer (some ⟨bi, 0, none⟩), .pointer (some ⟨bo, 0, none⟩)] w _
  refine enter Try.func44 rfl (n := 13) rfl (Nat.le_of_ble_eq_true rfl) fun _ A => ?_
  have S : St _ _ _ ([(b, .cells cs 85 (0, 0)), (bi, .cells #[.int .i64 j] 3 (0, 0)), (bo, .cells #[.slice none 0 0] 31 (0, 0))] ++ itH its) := St.last (L := [(b, .cells cs 85 (0, 0))]) S0 List.perm_append_comm
  refine wp_seq_k fun K1 hK1 => ?_
  refine region_seq ?_  -- region 0
  refine La A rfl (evc _ _) fun _ A => La A rfl (evc _ _) fun _ A => ?_
  replace A := A.only [5, 4, 2, 1, 0] rfl
  refine hK1 _ _ ?_
  refine wp_seq_k fun K2 hK2 => ?_
  refine region_seq ?_  -- region 1
  refine Lm A rfl (A.g 0 rfl) fun _ A => Lo A rfl (y_load (by kernel_rfl) (A.g 1 rfl) ((cell_of (S.get 1 rfl) _).trans rfl) fun _ A => ?_)
  refine Lo A rfl (y_indexS (e := 85) (size := 2) (j := j * 2) (by kernel_rfl) (by kernel_rfl) (A.g 6 rfl) (A.g 7 rfl) (by omega) (by omega) (by simp) fun _ A => ?_)
  refine Lo A rfl (y_fieldAddr (off := 0) (j := j * 2) (by kernel_rfl) (A.g 8 rfl) (by first | rfl | omega) fun _ A => ?_)
  replace A := A.only [9, 5, 4, 2, 1, 0] rfl
  refine Lo A rfl (y_load (by kernel_rfl) (A.g 9 rfl) ((cell_of (S.get 0 rfl) _).trans hcell) fun _ A => ?_)
  refine Lo A rfl (y_call1 (by kernel_rfl) rfl (A.g 10 rfl) (callN (clone_ok (hitH (L := [(b, .cells cs 85 (0, 0)), (bi, .cells #[.int .i64 j] 3 (0, 0)), (bo, .cells #[.slice none 0 0] 31 (0, 0))]) S) (by omega)) fun vb w Hb gG nN hf ac A => ?_))
  obtain ⟨ka, kc, rfl⟩ := SlRep.len hf
  replace S : St _ _ _ (Hb ++ ([(b, .cells cs 85 (0, 0)), (bi, .cells #[.int .i64 j] 3 (0, 0)), (bo, .cells #[.slice none 0 0] 31 (0, 0))] ++ (itH its))) := (S.new gG nN).perm (by first | exact .refl _ | (rw [List.append_assoc]; exact .refl _) | (simp only [List.append_assoc, List.nil_append, List.append_nil]; exact .refl _))
  replace S : St _ _ _ ([(b, .cells cs 85 (0, 0)), (bi, .cells #[.int .i64 j] 3 (0, 0)), (bo, .cells #[.slice none 0 0] 31 (0, 0))] ++ (Hb ++ (itH its))) := S.swap1 (L := []) (A := Hb) (B := [(b, .cells cs 85 (0, 0)), (bi, .cells #[.int .i64 j] 3 (0, 0)), (bo, .cells #[.slice none 0 0] 31 (0, 0))])
  refine L_opN A rfl rfl (y_store 1 (by kernel_rfl) (A.g 2 rfl) (A.g 11 rfl) (S.get 2 rfl) rfl (Nat.le_of_ble_eq_true rfl) (one_all rfl) ?_)
  replace S : St _ _ _ ([(b, .cells cs 85 (0, 0)), (bi, .cells #[.int .i64 j] 3 (0, 0)), (bo, .cells #[.slice ka it.bs.length kc] 31 (0, 0))] ++ (Hb ++ (itH its))) := S.setAt 2 rfl _
  replace A := A.only [5, 4, 2, 1, 0] rfl
  refine hK2 _ _ ?_
  refine wp_seq_k fun K3 hK3 => ?_
  refine region_seq ?_  -- region 2
  refine Lm A rfl (A.g 0 rfl) fun _ A => La A rfl (A.g 12 rfl) fun _ A => La A rfl (evc _ _) fun _ A => ?_
  replace A := A.only [5, 4, 2, 1, 0] rfl
  refine hK3 _ _ ?_
  have S' : St _ _ _ ([(b, .cells cs 85 (0, 0))] ++ (itH its ++ (capT bi bo j (.slice ka it.bs.length kc) ++ Hb))) := S.perm (by classical rw [List.perm_iff_count]; intro x; simp only [List.count_append, List.count_cons, List.count_nil, capT] <;> omega)
  exact wp_ret ⟨A.defers, _, res_run (rs := [.tmp 4, .tmp 5]) (vs := [.slice (some ⟨b, 0, none⟩) its.length qc, .int .i64 0]) rfl ⟨A.get rfl, A.get rfl, trivial⟩, ⟨_, _, rfl, ⟨_, Hb, rfl, hf, rfl⟩, S'⟩⟩

section
variable {p : Nat} {m : M} {H : Frag} {w : World} {a b i : Int}

set_option maxRecDepth 20000 in
set_option maxHeartbeats 1000000 in
theorem peek_arg (h : NetRep p m H) (hH : Holds w H) (hk : goodK (ends a b)) (hn : m.link (ends a b) = none) : Calls Try.prog 21 #[.pointer (some ⟨p, 0, none⟩), .int .i64 a, .int .i64 b, .int .i64 i] w (RetN w (eqv (.tuple #[.slice none 0 0, .int .i64 1]))) := by
  refine enter Try.func21 rfl (n := 20) rfl (Nat.le_of_ble_eq_true rfl) fun _ A => ?_
  have S : St _ _ _ [] := St.none w
  refine wp_seq_k fun K1 hK1 => ?_
  refine region_seq ?_  -- region 0
  refine Lo A rfl (y_boxN (A.g 3 rfl) fun b1 w gG nN ac A => ?_)
  replace S : St _ _ _ [(b1, .cells #[.int .i64 i] 3 (0, 0))] := S.new gG nN
  refine La A rfl (evc _ _) fun _ A => La A rfl (evc _ _) fun _ A => ?_
  replace A := A.only [9, 8, 7, 3, 2, 1, 0] rfl
  refine hK1 _ _ ?_
  refine wp_seq_k fun K2 hK2 => ?_
  refine region_seq ?_  -- region 1
  refine Lo A rfl (y_allocN (z := .slice none 0 0) (by kernel_rfl) fun b2 w gG nN ac A => ?_)
  replace S : St _ _ _ [(b2, .cells #[.slice none 0 0] 31 (0, 0)), (b1, .cells #[.int .i64 i] 3 (0, 0))] := S.new gG nN
  replace A := A.only [10, 9, 8, 7, 3, 2, 1, 0] rfl
  refine hK2 _ _ ?_
  refine wp_seq_k fun K3 hK3 => ?_
  refine region_seq ?_  -- region 2
  refine Lm A rfl (A.g 0 rfl) fun _ A => Lm A rfl (A.g 1 rfl) fun _ A => Lm A rfl (A.g 2 rfl) fun _ A => Lo A rfl (y_load (by kernel_rfl) (A.g 7 rfl) ((cell_of (S.get 1 rfl) _).trans rfl) fun _ A => ?_)
  replace A := A.only [15, 14, 13, 12, 10, 9, 8, 7, 3, 2, 1, 0] rfl
  refine Lo A rfl (y_makeFunc2 (A.g 7 rfl) (A.g 10 rfl) fun _ A => ?_)
  refine Lo A rfl (y_call5 (by kernel_rfl) rfl (A.g 12 rfl) (A.g 13 rfl) (A.g 14 rfl) (A.g 15 rfl) (A.g 16 rfl) (callN (at_arg h (hH.gr S.kp.to_gr) hk hn) fun v w H gG nN hf ac A => ?_))
  obtain ⟨rfl, rfl⟩ := hf
  replace S : St _ _ _ [(b2, .cells #[.slice none 0 0] 31 (0, 0)), (b1, .cells #[.int .i64 i] 3 (0, 0))] := S.new gG nN
  refine La A rfl (A.g 17 rfl) fun _ A => ?_
  replace A := A.only [11, 10, 9, 8, 7, 3, 2, 1, 0] rfl
  refine hK3 _ _ ?_
  refine wp_seq_k fun K4 hK4 => ?_
  refine region_seq ?_  -- region 3
  refine Lo A rfl (y_load (by kernel_rfl) (A.g 10 rfl) ((cell_of (S.get 0 rfl) _).trans rfl) fun _ A => ?_)
  refine Lm A rfl (A.g 11 rfl) fun _ A => La A rfl (A.g 18 rfl) fun _ A => La A rfl (A.g 19 rfl) fun _ A => ?_
  replace A := A.only [11, 10, 9, 8, 7, 3, 2, 1, 0] rfl
  refine hK4 _ _ ?_
  exact wp_ret ⟨A.defers, _, res_run (rs := [.tmp 8, .tmp 9]) (vs := [.slice none 0 0, .int .i64 1]) rfl ⟨A.get rfl, A.get rfl, trivial⟩, ⟨_, rfl, S.kp.to_gr, [], ⟨rfl, rfl⟩, NewF.nil _ _⟩⟩

set_option maxRecDepth 20000 in
set_option maxHeartbeats 1000000 in
theorem peek_neg (h : NetRep p m H) (hH : Holds w H) (hk : goodK (ends a b)) (hk' : goodK (a, b)) {c : Bool} (hn : m.link (ends a b) = some c) (hi : i < 0) : Calls Try.prog 21 #[.pointer (some ⟨p, 0, none⟩), .int .i64 a, .int .i64 b, .int .i64 i] w (RetN w (eqv (.tuple #[.slice none 0 0, .int .i64 5]))) := by
  refine enter Try.func21 rfl (n := 20) rfl (Nat.le_of_ble_eq_true rfl) fun _ A => ?_
  have S : St _ _ _ [] := St.none w
  refine wp_seq_k fun K1 hK1 => ?_
  refine region_seq ?_  -- region 0
  refine Lo A rfl (y_boxN (A.g 3 rfl) fun b1 w gG nN ac A => ?_)
  replace S : St _ _ _ [(b1, .cells #[.int .i64 i] 3 (0, 0))] := S.new gG nN
  refine La A rfl (evc _ _) fun _ A => La A rfl (evc _ _) fun _ A => ?_
  replace A := A.only [9, 8, 7, 3, 2, 1, 0] rfl
  refine hK1 _ _ ?_
  refine wp_seq_k fun K2 hK2 => ?_
  refine region_seq ?_  -- region 1
  refine Lo A rfl (y_allocN (z := .slice none 0 0) (by kernel_rfl) fun b2 w gG nN ac A => ?_)
  replace S : St _ _ _ [(b2, .cells #[.slice none 0 0] 31 (0, 0)), (b1, .cells #[.int .i64 i] 3 (0, 0))] := S.new gG nN
  replace A := A.only [10, 9, 8, 7, 3, 2, 1, 0] rfl
  refine hK2 _ _ ?_
  refine wp_seq_k fun K3 hK3 => ?_
  refine region_seq ?_  -- region 2
  refine Lm A rfl (A.g 0 rfl) fun _ A => Lm A rfl (A.g 1 rfl) fun _ A => Lm A rfl (A.g 2 rfl) fun _ A => Lo A rfl (y_load (by kernel_rfl) (A.g 7 rfl) ((cell_of (S.get 1 rfl) _).trans rfl) fun _ A => ?_)
  replace A := A.only [15, 14, 13, 12, 10, 9, 8, 7, 3, 2, 1, 0] rfl
  refine Lo A rfl (y_makeFunc2 (A.g 7 rfl) (A.g 10 rfl) fun _ A => ?_)
  refine Lo A rfl (y_call5 (by kernel_rfl) rfl (A.g 12 rfl) (A.g 13 rfl) (A.g 14 rfl) (A.g 15 rfl) (A.g 16 rfl) (callN (at_neg h (hH.gr S.kp.to_gr) hk hk' hn hi) fun v w H gG nN hf ac A => ?_))
  obtain ⟨rfl, rfl⟩ := hf
  replace S : St _ _ _ [(b2, .cells #[.slice none 0 0] 31 (0, 0)), (b1, .cells #[.int .i64 i] 3 (0, 0))] := S.new gG nN
  refine La A rfl (A.g 17 rfl) fun _ A => ?_
  replace A := A.only [11, 10, 9, 8, 7, 3, 2, 1, 0] rfl
  refine hK3 _ _ ?_
  refine wp_seq_k fun K4 hK4 => ?_
  refine region_seq ?_  -- region 3
  refine Lo A rfl (y_load (by kernel_rfl) (A.g 10 rfl) ((cell_of (S.get 0 rfl) _).trans rfl) fun _ A => ?_)
  refine Lm A rfl (A.g 11 rfl) fun _ A => La A rfl (A.g 18 rfl) fun _ A => La A rfl (A.g 19 rfl) fun _ A => ?_
  replace A := A.only [11, 10, 9, 8, 7, 3, 2, 1, 0] rfl
  refine hK4 _ _ ?_
  exact wp_ret ⟨A.defers, _, res_run (rs := [.tmp 8, .tmp 9]) (vs := [.slice none 0 0, .int .i64 5]) rfl ⟨A.get rfl, A.get rfl, trivial⟩, ⟨_, rfl, S.kp.to_gr, [], ⟨rfl, rfl⟩, NewF.nil _ _⟩⟩

set_option maxRecDepth 20000 in
set_option maxHeartbeats 1000000 in
theorem peek_far (h : NetRep p m H) (hH : Holds w H) (hk : goodK (ends a b)) (hk' : goodK (a, b)) {c : Bool} (hn : m.link (ends a b) = some c) (hi : 0 ≤ i) (hi2 : (m.q (a, b)).length ≤ i) : Calls Try.prog 21 #[.pointer (some ⟨p, 0, none⟩), .int .i64 a, .int .i64 b, .int .i64 i] w (RetN w (eqv (.tuple #[.slice none 0 0, .int .i64 5]))) := by
  refine enter Try.func21 rfl (n := 20) rfl (Nat.le_of_ble_eq_true rfl) fun _ A => ?_
  have S : St _ _ _ [] := St.none w
  refine wp_seq_k fun K1 hK1 => ?_
  refine region_seq ?_  -- region 0
  refine Lo A rfl (y_boxN (A.g 3 rfl) fun b1 w gG nN ac A => ?_)
  replace S : St _ _ _ [(b1, .cells #[.int .i64 i] 3 (0, 0))] := S.new gG nN
  refine La A rfl (evc _ _) fun _ A => La A rfl (evc _ _) fun _ A => ?_
  replace A := A.only [9, 8, 7, 3, 2, 1, 0] rfl
  refine hK1 _ _ ?_
  refine wp_seq_k fun K2 hK2 => ?_
  refine region_seq ?_  -- region 1
  refine Lo A rfl (y_allocN (z := .slice none 0 0) (by kernel_rfl) fun b2 w gG nN ac A => ?_)
  replace S : St _ _ _ [(b2, .cells #[.slice none 0 0] 31 (0, 0)), (b1, .cells #[.int .i64 i] 3 (0, 0))] := S.new gG nN
  replace A := A.only [10, 9, 8, 7, 3, 2, 1, 0] rfl
  refine hK2 _ _ ?_
  refine wp_seq_k fun K3 hK3 => ?_
  refine region_seq ?_  -- region 2
  refine Lm A rfl (A.g 0 rfl) fun _ A => Lm A rfl (A.g 1 rfl) fun _ A => Lm A rfl (A.g 2 rfl) fun _ A => Lo A rfl (y_load (by kernel_rfl) (A.g 7 rfl) ((cell_of (S.get 1 rfl) _).trans rfl) fun _ A => ?_)
  replace A := A.only [15, 14, 13, 12, 10, 9, 8, 7, 3, 2, 1, 0] rfl
  refine Lo A rfl (y_makeFunc2 (A.g 7 rfl) (A.g 10 rfl) fun _ A => ?_)
  refine Lo A rfl (y_call5 (by kernel_rfl) rfl (A.g 12 rfl) (A.g 13 rfl) (A.g 14 rfl) (A.g 15 rfl) (A.g 16 rfl) (callN (at_far h (hH.gr S.kp.to_gr) hk hk' hn hi hi2) fun v w H gG nN hf ac A => ?_))
  obtain ⟨rfl, rfl⟩ := hf
  replace S : St _ _ _ [(b2, .cells #[.slice none 0 0] 31 (0, 0)), (b1, .cells #[.int .i64 i] 3 (0, 0))] := S.new gG nN
  refine La A rfl (A.g 17 rfl) fun _ A => ?_
  replace A := A.only [11, 10, 9, 8, 7, 3, 2, 1, 0] rfl
  refine hK3 _ _ ?_
  refine wp_seq_k fun K4 hK4 => ?_
  refine region_seq ?_  -- region 3
  refine Lo A rfl (y_load (by kernel_rfl) (A.g 10 rfl) ((cell_of (S.get 0 rfl) _).trans rfl) fun _ A => ?_)
  refine Lm A rfl (A.g 11 rfl) fun _ A => La A rfl (A.g 18 rfl) fun _ A => La A rfl (A.g 19 rfl) fun _ A => ?_
  replace A := A.only [11, 10, 9, 8, 7, 3, 2, 1, 0] rfl
  refine hK4 _ _ ?_
  exact wp_ret ⟨A.defers, _, res_run (rs := [.tmp 8, .tmp 9]) (vs := [.slice none 0 0, .int .i64 5]) rfl ⟨A.get rfl, A.get rfl, trivial⟩, ⟨_, rfl, S.kp.to_gr, [], ⟨rfl, rfl⟩, NewF.nil _ _⟩⟩

/-- what Peek leaves in what it has captured -/
def PeekX (bi bo j : Nat) (bs : List UInt8) (Hc' : Frag) : Prop := ∃ vb Hb, BRep vb bs Hb ∧ Hc' = capT bi bo j vb ++ Hb
theorem peek_put {bi bo j : Nat} {bs : List UInt8} {sp : Bool} (h : NetRep p m H) (hj : (m.q (a, b))[j]? = some (bs, sp)) :
    Does m (a, b) 44 #[.pointer (some ⟨bi, 0, none⟩), .pointer (some ⟨bo, 0, none⟩)] (capT bi bo j (.slice none 0 0)) fun its HQ r Hr => ∃ v' its' HQ' Hc', r = .tuple #[v', .int .i64 0] ∧ its' ≠ [] ∧ its'.length ≤ 24 ∧ SlRep 85 2 v' its'.length (itCells its') HQ' ∧ ItOk its' ∧ Hr = HQ' ++ (itH its' ++ Hc') ∧ (its' = its ∧ PeekX bi bo j bs Hc') := by
  intro w1 qa qc its HQ hsl hits hok nd hH
  obtain ⟨it, h1, rfl, h3⟩ := it_of hits hj
  have hlen : its.length = (m.q (a, b)).length := by rw [← hits, itQ_length]
  have hfew := few_of h (a, b)
  have hjl := lt_of_get h1
  refine (peek1_ok hsl hok h1 nd hH).mono ?_
  rintro e w' ⟨v, Hr, rfl, ⟨vb, Hb, rfl, hB, rfl⟩, s⟩
  exact ⟨_, _, rfl, ⟨_, its, HQ, _, rfl, by intro e; rw [e] at hjl; simp at hjl, by omega, hsl, hok, rfl, rfl, vb, Hb, hB, rfl⟩, s⟩
theorem M.setq_id (m : M) (k : Int × Int) : m.setq k (m.q k) = m := by
  unfold M.setq; congr 1; funext k'; by_cases h : k' = k <;> simp [h]
set_option maxRecDepth 20000 in
set_option maxHeartbeats 4000000 in
theorem peek_yes {c : Bool} {j : Nat} {bs : List UInt8} {sp : Bool} (h : NetRep p m H) (nd : (keys H).Nodup) (hH : Holds w H) (hk : goodK (ends a b)) (hk' : goodK (a, b)) (hn : m.link (ends a b) = some c) (hj : (m.q (a, b))[j]? = some (bs, sp)) :
    Calls Try.prog 21 #[.pointer (some ⟨p, 0, none⟩), .int .i64 a, .int .i64 b, .int .i64 j] w (RetW (keys H) w fun r H' => ∃ vb Hb Hn, r = .tuple #[vb, .int .i64 0] ∧ BRep vb bs Hb ∧ H' = Hn ++ Hb ∧ NetRep p m Hn) := by
  have hjl := lt_of_get hj
  have S0 := St.start nd hH
  refine enter Try.func21 rfl (n := 20) rfl (Nat.le_of_ble_eq_true rfl) fun _ A => ?_
  have S : St _ _ _ H := S0
  refine wp_seq_k fun K1 hK1 => ?_
  refine region_seq ?_  -- region 0
  refine Lo A rfl (y_boxN (A.g 3 rfl) fun b1 w gG nN ac A => ?_)
  replace S : St _ _ _ ([(b1, .cells #[.int .i64 j] 3 (0, 0))] ++ H) := (S.new gG nN).perm (by first | exact .refl _ | (rw [List.append_assoc]; exact .refl _) | (simp only [List.append_assoc, List.nil_append, List.append_nil]; exact .refl _))
  refine La A rfl (evc _ _) fun _ A => La A rfl (evc _ _) fun _ A => ?_
  replace A := A.only [9, 8, 7, 3, 2, 1, 0] rfl
  refine hK1 _ _ ?_
  refine wp_seq_k fun K2 hK2 => ?_
  refine region_seq ?_  -- region 1
  refine Lo A rfl (y_allocN (z := .slice none 0 0) (by kernel_rfl) fun b2 w gG nN ac A => ?_)
  replace S : St _ _ _ ([(b2, .cells #[.slice none 0 0] 31 (0, 0)), (b1, .cells #[.int .i64 j] 3 (0, 0))] ++ H) := (S.new gG nN).perm (by first | exact .refl _ | (rw [List.append_assoc]; exact .refl _) | (simp only [List.append_assoc, List.nil_append, List.append_nil]; exact .refl _))
  replace A := A.only [10, 9, 8, 7, 3, 2, 1, 0] rfl
  refine hK2 _ _ ?_
  refine wp_seq_k fun K3 hK3 => ?_
  refine region_seq ?_  -- region 2
  refine Lm A rfl (A.g 0 rfl) fun _ A => Lm A rfl (A.g 1 rfl) fun _ A => Lm A rfl (A.g 2 rfl) fun _ A => Lo A rfl (y_load (by kernel_rfl) (A.g 7 rfl) ((cell_of (S.get 1 rfl) _).trans rfl) fun _ A => ?_)
  replace A := A.only [15, 14, 13, 12, 10, 9, 8, 7, 3, 2, 1, 0] rfl
  refine Lo A rfl (y_makeFunc2 (A.g 7 rfl) (A.g 10 rfl) fun _ A => ?_)
  replace S : St _ _ _ ((H ++ capT b1 b2 j (.slice none 0 0)) ++ []) := S.perm (by classical rw [List.perm_iff_count]; intro x; simp only [List.count_append, List.count_cons, List.count_nil, capT] <;> omega)
  refine Lo A rfl (y_call5 (by kernel_rfl) rfl (A.g 12 rfl) (A.g 13 rfl) (A.g 14 rfl) (A.g 15 rfl) (A.g 16 rfl) (callW (at_put (X := fun its its' Hc' => its' = its ∧ PeekX b1 b2 j bs Hc') h S.app_left.nd S.app_left.holds hk hk' hn (by omega) (by omega) (by kernel_rfl) (peek_put h hj)) fun v w Hr s hf ac A => ?_))
  replace S := St.call (R := []) S rfl s
  obtain ⟨rfl, Hn, its, its', Hc', rfl, hq, hN, rfl, vb, Hb, hB, rfl⟩ := hf
  obtain ⟨ka, kc, rfl⟩ := SlRep.len hB
  replace S : St _ _ _ ([(b1, .cells #[.int .i64 j] 3 (0, 0)), (b2, .cells #[.slice ka bs.length kc] 31 (0, 0))] ++ (Hb ++ Hn)) := S.perm (by classical rw [List.perm_iff_count]; intro x; simp only [List.count_append, List.count_cons, List.count_nil, capT] <;> omega)
  refine La A rfl (A.g 17 rfl) fun _ A => ?_
  replace A := A.only [11, 10, 9, 8, 7, 3, 2, 1, 0] rfl
  refine hK3 _ _ ?_
  refine wp_seq_k fun K4 hK4 => ?_
  refine region_seq ?_  -- region 3
  refine Lo A rfl (y_load (by kernel_rfl) (A.g 10 rfl) ((cell_of (S.get 1 rfl) _).trans rfl) fun _ A => ?_)
  refine Lm A rfl (A.g 11 rfl) fun _ A => La A rfl (A.g 18 rfl) fun _ A => La A rfl (A.g 19 rfl) fun _ A => ?_
  replace A := A.only [11, 10, 9, 8, 7, 3, 2, 1, 0] rfl
  refine hK4 _ _ ?_
  have S' : St _ _ _ (Hn ++ Hb) := (St.app_right (H := [(b1, .cells #[.int .i64 j] 3 (0, 0)), (b2, .cells #[.slice ka bs.length kc] 31 (0, 0))]) S).perm List.perm_append_comm
  rw [hq, M.setq_id] at hN
  exact wp_ret ⟨A.defers, _, res_run (rs := [.tmp 8, .tmp 9]) (vs := [.slice ka bs.length kc, .int .i64 0]) rfl ⟨A.get rfl, A.get rfl, trivial⟩, ⟨_, _, rfl, ⟨_, Hb, Hn, rfl, hB, rfl, hN⟩, S'⟩⟩

def M.peek (m : M) (a b i : Int) : List UInt8 × Int :=
  match m.pick a b i with
  | .error e => ([], e)
  | .ok x => (x.1, 0)
theorem peek_ok (h : NetRep p m H) (nd : (keys H).Nodup) (hH : Holds w H) (ha : i64 a) (hb : i64 b) :
    Calls Try.prog 21 #[.pointer (some ⟨p, 0, none⟩), .int .i64 a, .int .i64 b, .int .i64 i] w (RetW (keys H) w fun r H' => ∃ vb Hb Hn, r = .tuple #[vb, .int .i64 (m.peek a b i).2] ∧ BRep vb (m.peek a b i).1 Hb ∧ H' = Hn ++ Hb ∧ NetRep p m Hn) := by
  have hk := good_ends ha hb
  have hk' : goodK (a, b) := good ha hb
  unfold M.peek
  rcases pick_cases m a b i with ⟨e, hl⟩ | ⟨c, hl, ⟨e, hi⟩ | ⟨e, hi, hi2⟩ | ⟨j, x, rfl, hj, e⟩⟩ <;> rw [e]
  · exact retW_of_N (peek_arg h hH hk hl) nd hH ⟨_, [], H, rfl, SlRep.nil _ _ _, by simp, h⟩
  · exact retW_of_N (peek_neg h hH hk hk' hl hi) nd hH ⟨_, [], H, rfl, SlRep.nil _ _ _, by simp, h⟩
  · exact retW_of_N (peek_far h hH hk hk' hl hi hi2) nd hH ⟨_, [], H, rfl, SlRep.nil _ _ _, by simp, h⟩
  · exact peek_yes h nd hH hk hk' hl (bs := x.1) (sp := x.2) hj
end
end Go.Proofs.Ytaeidblipdjgnaa
