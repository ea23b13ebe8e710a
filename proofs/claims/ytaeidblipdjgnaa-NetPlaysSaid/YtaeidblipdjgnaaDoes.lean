import Derived.Test.YtaeidblipdjgnaaSim
import Derived.Test.YtaeidblipdjgnaaConv
import Derived.Test.YtaeidblipdjgnaaSwitch
import Derived.Test.YtaeidblipdjgnaaActs
import Derived.Test.YtaeidblipdjgnaaRefN
namespace Go.Proofs.Ytaeidblipdjgnaa
open Go.RowKit Go.Maps Go.WideMaps

theorem src_new {w : World} {b cap : Nat} {cs : Array Value} {e : TypeId} {fr : Nat × Nat} {l : List UInt8} (hb : w.heap[b]? = some (.cells cs e fr)) (hl : l.length ≤ cs.size) (ht : cs.toList.take l.length = l.map u8v) : BSrc w (.slice (some ⟨b, 0, none⟩) l.length cap) l := by
  refine ⟨by simp, Or.inr ⟨_, _, rfl, fun j hj => ?_⟩⟩
  have hj' : j < l.length := by simpa using hj
  rw [add_eq, cell_of hb, Nat.zero_add, SlRep.cell ht hj', List.getElem?_eq_getElem hj]
theorem off_lit {D : List Nat} {w0 w : World} {b n c : Nat} {o : Obj} {R K : Frag} (S : St D w0 w ((b, o) :: (R ++ K))) : Off (.slice (some ⟨b, 0, none⟩) n c) (keys R) := by
  intro a n' c' e _ hm
  cases e
  have := S.nd
  simp only [keys, List.map_cons, List.map_append, List.nodup_cons, List.mem_append, not_or] at this hm
  exact this.1.1 hm
/-- a row of bytes of one's own, whatever they are -/
def BtO (a : Option Addr) (n : Nat) (H : Frag) : Prop := (n = 0 ∧ (H = [] ∨ ∃ b o, H = [(b, o)])) ∨ ∃ b cs fr, a = some ⟨b, 0, none⟩ ∧ H = [(b, .cells cs 5 fr)] ∧ n ≤ cs.size ∧ Bts cs n ∧ ∀ i, i < n → i < fr.1 ∨ fr.2 ≤ i
theorem BtO.of {a : Option Addr} {c : Nat} {bs : List UInt8} {H : Frag} (h : BRep (.slice a bs.length c) bs H) : BtO a bs.length H := by
  obtain ⟨-, ⟨h0, rfl, -⟩ | ⟨b, cap, cs, e, rfl, hcs, hn, ht⟩⟩ := h
  · exact Or.inl ⟨h0, Or.inl rfl⟩
  · cases e
    exact Or.inr ⟨b, cs, _, rfl, rfl, by omega, Bts.of (by simpa using ht), fun i _ => Or.inr (Nat.zero_le _)⟩
theorem send_len (R : RM) (a b : Int) (bs : List UInt8) : (R.send a b bs).2.way.length ≤ R.way.length + 1 := by
  unfold RM.send RM.push; repeat' split
  all_goals simp
theorem rpeek_len {p : Nat} {R : RM} {H : Frag} (h : RefRep p R H) (a b i : Int) : (R.peek a b i).1.length ≤ 512 := by
  obtain ⟨vl, Hl, vc, Hc, vw, Hw, gs, h, -⟩ := h
  unfold RM.peek
  split
  · cases hd : R.way[(R.at a b i).1.toNat]? with
    | none => simp
    | some d =>
      obtain ⟨g, hg, rfl⟩ := gm_of h.gd hd
      simpa using (h.ok g (List.mem_of_getElem? hg)).2
  · simp
theorem n_of {m : M} {R : RM} (hs : Sim m R) : ∃ N : Nat, R.n = N ∧ N ≤ 10 := ⟨R.n.toNat, by have := hs.n1; omega, by have := hs.n10; omega⟩
theorem ord_of {m : M} {R : RM} (hs : Sim m R) : ∀ l ∈ m.order, i64 l.1 ∧ i64 l.2 := by
  rw [hs.ord]; intro l hl; have := hs.good l hl; have := hs.n10; constructor <;> (unfold i64; omega)
set_option maxRecDepth 20000 in
set_option maxHeartbeats 16000000 in
theorem does_ok {p q : Nat} {m : M} {R : RM} {Hm Hr : Frag} {w0 : World} {x : Ac} {ba : Option Addr} {bc : Nat} (hN : NetRep p m Hm) (hR0 : RefRep q R Hr) (nd : (keys (Hm ++ Hr)).Nodup) (hH : Holds w0 (Hm ++ Hr)) (hs : Sim m R) (hw : R.way.length ≤ 1000000) (hok : AcOk x) (hbs : BSrc w0 (.slice ba x.bs.length bc) x.bs) (hoff : Off (.slice ba x.bs.length bc) (keys (Hm ++ Hr))) : Calls Try.prog 31 #[.pointer (some ⟨p, 0, none⟩), .pointer (some ⟨q, 0, none⟩), .agg #[.int .i64 x.d, .int .i64 x.f, .int .i64 x.t, .int .i64 x.i, .int .i64 x.b, .slice ba x.bs.length bc]] w0 (RetW (keys (Hm ++ Hr)) w0 fun r H' => r = .bool true ∧ ∃ m' R' Hm' Hr', H' = Hm' ++ Hr' ∧ NetRep p m' Hm' ∧ RefRep q R' Hr' ∧ Sim m' R' ∧ R'.way.length ≤ R.way.length + 1) := by
  obtain ⟨okd, okf, okt, oki, okb, hbl⟩ := hok
  have hbl' : (x.bs.length : Int) ≤ 9223372036854775807 := by unfold maxLen at hbl; omega
  have S0 := St.start nd hH
  generalize hD : keys _ = DD at S0 hoff ⊢
  by_cases e0 : x.d = 0
  · skip
    refine enter Try.func31 rfl (n := 267) rfl (Nat.le_of_ble_eq_true rfl) fun _ A => ?_
    have S : St _ _ _ (Hm ++ Hr) := S0
    refine wp_seq_k fun K1 hK1 => ?_
    refine region_seq ?_  -- region 0
    refine Lo A rfl (y_boxN (A.g 2 rfl) fun b1 w gG nN ac A => ?_)
    replace S : St _ _ _ ([(b1, .cells #[.int .i64 x.d, .int .i64 x.f, .int .i64 x.t, .int .i64 x.i, .int .i64 x.b, .slice ba x.bs.length bc] 57 (0, 0))] ++ (Hm ++ Hr)) := (S.new gG nN).perm (by first | exact .refl _ | (rw [List.append_assoc]; exact .refl _) | (simp only [List.append_assoc, List.nil_append, List.append_nil]; exact .refl _))
    refine La A rfl (evc _ _) fun _ A => ?_
    replace A := A.only [6, 5, 2, 1, 0] rfl
    refine hK1 _ _ ?_
    refine wp_seq_k fun K2 hK2 => ?_
    refine wp_seq_k fun K3 hK3 => ?_
    refine region_seq ?_  -- region 1
    refine Lo A rfl (y_fieldAddr (off := 0) (j := 0) (by kernel_rfl) (A.g 5 rfl) (by first | rfl | omega) fun _ A => ?_)
    refine Lo A rfl (y_load (by kernel_rfl) (A.g 16 rfl) ((cell_of (S.get 0 rfl) _).trans rfl) fun _ A => ?_)
    replace A := A.only [17, 6, 5, 2, 1, 0] rfl
    refine hK3 _ _ ?_
    refine wp_block ?_
    refine wp_seq_k fun K4 hK4 => ?_
    refine region_seq ?_  -- region 2
    refine Lo A rfl (y_eql (A.g 17 rfl) (evc _ _) (c := true) (by simp [e0]) fun _ A => ?_)
    refine La A rfl (A.g 19 rfl) fun _ A => ?_
    replace A := A.only [18, 17, 6, 5, 2, 1, 0] rfl
    refine hK4 _ _ ?_
    refine wp_cond_true (A.get rfl) ?_
    refine wp_seq_k fun K5 hK5 => ?_
    refine region_seq ?_  -- region 3
    refine Lo A rfl (y_fieldAddr (off := 5) (j := 5) (by kernel_rfl) (A.g 5 rfl) (by first | rfl | omega) fun _ A => ?_)
    refine Lo A rfl (y_load (by kernel_rfl) (A.g 20 rfl) ((cell_of (S.get 0 rfl) _).trans rfl) fun _ A => ?_)
    refine Lo A rfl (y_bytesStr (e := 5) (l := x.bs) (by kernel_rfl) (by kernel_rfl) (by kernel_rfl) (A.g 21 rfl) (hbs.kp S.kp hoff) fun _ A => ?_)
    refine La A rfl (A.g 22 rfl) fun _ A => ?_
    replace A := A.only [18, 17, 7, 6, 5, 2, 1, 0] rfl
    refine hK5 _ _ ?_
    refine wp_seq_k fun K6 hK6 => ?_
    refine region_seq ?_  -- region 4
    refine Lm A rfl (A.g 7 rfl) fun _ A => Lo A rfl (y_strBytes (e := 5) (l := x.bs) (by kernel_rfl) (by kernel_rfl) (by kernel_rfl) (A.g 23 rfl) fun bb capb csb w gG nN hcsb htkb ac A => ?_)
    replace S : St _ _ _ ([(bb, .cells csb 5 (csb.size, csb.size + 1)), (b1, .cells #[.int .i64 x.d, .int .i64 x.f, .int .i64 x.t, .int .i64 x.i, .int .i64 x.b, .slice ba x.bs.length bc] 57 (0, 0))] ++ (Hm ++ Hr)) := (S.new gG nN).perm (by first | exact .refl _ | (rw [List.append_assoc]; exact .refl _) | (simp only [List.append_assoc, List.nil_append, List.append_nil]; exact .refl _))
    refine La A rfl (A.g 24 rfl) fun _ A => ?_
    replace A := A.only [18, 17, 8, 7, 6, 5, 2, 1, 0] rfl
    refine hK6 _ _ ?_
    refine wp_seq_k fun K7 hK7 => ?_
    refine region_seq ?_  -- region 5
    refine Lm A rfl (A.g 0 rfl) fun _ A => Lo A rfl (y_fieldAddr (off := 1) (j := 1) (by kernel_rfl) (A.g 5 rfl) (by first | rfl | omega) fun _ A => ?_)
    refine Lo A rfl (y_load (by kernel_rfl) (A.g 26 rfl) ((cell_of (S.get 1 rfl) _).trans rfl) fun _ A => ?_)
    refine Lo A rfl (y_fieldAddr (off := 2) (j := 2) (by kernel_rfl) (A.g 5 rfl) (by first | rfl | omega) fun _ A => ?_)
    replace A := A.only [28, 27, 25, 18, 17, 8, 7, 6, 5, 2, 1, 0] rfl
    refine Lo A rfl (y_load (by kernel_rfl) (A.g 28 rfl) ((cell_of (S.get 1 rfl) _).trans rfl) fun _ A => ?_)
    refine Lm A rfl (A.g 8 rfl) fun _ A => ?_
    obtain ⟨s1, s2⟩ := hs.send x.f x.t x.bs
    have sm := (St.app_left (H := Hm) (K := ([(bb, .cells csb 5 (csb.size, csb.size + 1)), (b1, .cells #[.int .i64 x.d, .int .i64 x.f, .int .i64 x.t, .int .i64 x.i, .int .i64 x.b, .slice ba x.bs.length bc] 57 (0, 0))] ++ Hr)) (S.perm (by classical rw [List.perm_iff_count]; intro x; simp only [List.count_append, List.count_cons, List.count_nil] <;> omega)))
    have hsend := send_ok hN sm.nd sm.holds okf okt (src_new (cap := capb) (S.get 0 rfl) hcsb htkb) (off_lit (o := .cells csb 5 (csb.size, csb.size + 1)) (R := Hm) (K := ([(b1, .cells #[.int .i64 x.d, .int .i64 x.f, .int .i64 x.t, .int .i64 x.i, .int .i64 x.b, .slice ba x.bs.length bc] 57 (0, 0))] ++ Hr)) (S.perm (by classical rw [List.perm_iff_count]; intro x; simp only [List.count_append, List.count_cons, List.count_nil] <;> omega)))
    rw [s1] at hsend
    replace S : St _ _ _ (Hm ++ ([(bb, .cells csb 5 (csb.size, csb.size + 1)), (b1, .cells #[.int .i64 x.d, .int .i64 x.f, .int .i64 x.t, .int .i64 x.i, .int .i64 x.b, .slice ba x.bs.length bc] 57 (0, 0))] ++ Hr)) := S.perm (by classical rw [List.perm_iff_count]; intro x; simp only [List.count_append, List.count_cons, List.count_nil] <;> omega)
    refine Lo A rfl (y_call4 (by kernel_rfl) rfl (A.g 25 rfl) (A.g 27 rfl) (A.g 29 rfl) (A.g 30 rfl) (callW (hsend) fun v w Hm2 s hf ac A => ?_))
    replace S : St _ _ _ (Hm2 ++ ([(bb, .cells csb 5 (csb.size, csb.size + 1)), (b1, .cells #[.int .i64 x.d, .int .i64 x.f, .int .i64 x.t, .int .i64 x.i, .int .i64 x.b, .slice ba x.bs.length bc] 57 (0, 0))] ++ Hr)) := St.call (H := Hm) (R := ([(bb, .cells csb 5 (csb.size, csb.size + 1)), (b1, .cells #[.int .i64 x.d, .int .i64 x.f, .int .i64 x.t, .int .i64 x.i, .int .i64 x.b, .slice ba x.bs.length bc] 57 (0, 0))] ++ Hr)) S rfl s
    obtain ⟨rfl, hN2⟩ := hf
    replace S : St _ _ _ ([(bb, .cells csb 5 (csb.size, csb.size + 1)), (b1, .cells #[.int .i64 x.d, .int .i64 x.f, .int .i64 x.t, .int .i64 x.i, .int .i64 x.b, .slice ba x.bs.length bc] 57 (0, 0))] ++ (Hm2 ++ Hr)) := S.perm (by classical rw [List.perm_iff_count]; intro x; simp only [List.count_append, List.count_cons, List.count_nil] <;> omega)
    refine La A rfl (A.g 31 rfl) fun _ A => ?_
    replace A := A.only [18, 17, 9, 8, 7, 6, 5, 2, 1, 0] rfl
    refine hK7 _ _ ?_
    refine wp_seq_k fun K8 hK8 => ?_
    refine wp_seq_k fun K9 hK9 => ?_
    refine region_seq ?_  -- region 6
    refine La A rfl (evc _ _) fun _ A => ?_
    replace A := A.only [18, 17, 10, 9, 8, 7, 6, 5, 2, 1, 0] rfl
    refine hK9 _ _ ?_
    refine wp_block ?_
    replace A := A.only [10, 9, 8, 7, 5, 1] rfl
    replace S : St _ _ _ ([(bb, .cells csb 5 (csb.size, csb.size + 1)), (b1, .cells #[.int .i64 x.d, .int .i64 x.f, .int .i64 x.t, .int .i64 x.i, .int .i64 x.b, .slice ba x.bs.length bc] 57 (0, 0))] ++ (Hm2 ++ Hr)) := S.perm (by classical rw [List.perm_iff_count]; intro x; simp only [List.count_append, List.count_cons, List.count_nil] <;> omega)
    replace S : St _ _ _ ([(bb, .cells csb 5 (csb.size, csb.size + 1))] ++ ([(b1, .cells #[.int .i64 x.d, .int .i64 x.f, .int .i64 x.t, .int .i64 x.i, .int .i64 x.b, .slice ba x.bs.length bc] 57 (0, 0))] ++ (Hm2 ++ Hr))) := S
    refine wp_loop_ghost (fun kk ac w' => ∃ (i : Nat) (Hb : Frag), kk + i = x.bs.length ∧ BtO (some ⟨bb, 0, none⟩) x.bs.length Hb ∧ Sl 267 ac [(1, .pointer (some ⟨q, 0, none⟩)), (5, .pointer (some ⟨b1, 0, none⟩)), (7, .string ⟨x.bs.toArray⟩), (8, .slice (some ⟨bb, 0, none⟩) x.bs.length capb), (9, .int .i64 ((R.send x.f x.t x.bs).1)), (10, .int .i64 ((i : Nat) : Int))] ∧ St DD w0 w' (Hb ++ ([(b1, .cells #[.int .i64 x.d, .int .i64 x.f, .int .i64 x.t, .int .i64 x.i, .int .i64 x.b, .slice ba x.bs.length bc] 57 (0, 0))] ++ (Hm2 ++ Hr)))) (x.bs.length) ⟨0, _, by omega, Or.inr ⟨bb, csb, _, rfl, rfl, hcsb, Bts.of htkb, fun i hi => Or.inl (by show i < csb.size; omega)⟩, A, S⟩ ?_
    clear A S
    rintro kk ac w ⟨i, Hb, hkk, hbt, A, S⟩
    rcases Nat.lt_or_ge i (x.bs.length) with hi | hi
    · obtain ⟨h0, -⟩ | ⟨b9, cs, fr, ha, rfl, hsz, hbts, hfr⟩ := hbt
      · omega
      simp only [Option.some.injEq, Addr.mk.injEq, and_true] at ha; subst ha
      obtain ⟨u, hu⟩ := hbts i hi
      replace S : St _ _ _ ([(bb, .cells cs 5 fr), (b1, .cells #[.int .i64 x.d, .int .i64 x.f, .int .i64 x.t, .int .i64 x.i, .int .i64 x.b, .slice ba x.bs.length bc] 57 (0, 0))] ++ (Hm2 ++ Hr)) := S
      refine wp_seq_k fun K10 hK10 => ?_
      refine wp_seq_k fun K11 hK11 => ?_
      refine region_seq ?_  -- region 7
      refine Lm A rfl (A.g 10 rfl) fun _ A => Lm A rfl (A.g 8 rfl) fun _ A => Lo A rfl (y_lenS (e := 5) (by kernel_rfl) (A.g 33 rfl) fun _ A => ?_)
      refine Lo A rfl (y_lss (A.g 32 rfl) (A.g 34 rfl) (c := true) (decide_eq_true (by omega)) fun _ A => ?_)
      replace A := A.only [35, 10, 9, 8, 7, 5, 1] rfl
      refine hK11 _ _ ?_
      refine wp_cond_true (A.get rfl) ?_
      refine wp_skip ?_
      refine hK10 _ _ ?_
      refine wp_seq_k fun K12 hK12 => ?_
      refine wp_block ?_
      refine region_seq ?_  -- region 9
      refine Lm A rfl (A.g 8 rfl) fun _ A => Lm A rfl (A.g 10 rfl) fun _ A => Lo A rfl (y_indexS (e := 5) (size := 1) (j := i) (by kernel_rfl) (by kernel_rfl) (A.g 38 rfl) (A.g 39 rfl) (by omega) (by omega) (by simp) fun _ A => ?_)
      refine Lo A rfl (y_load (by kernel_rfl) (A.g 40 rfl) ((cell_of (S.get 0 rfl) _).trans hu) fun _ A => ?_)
      replace A := A.only [41, 39, 38, 35, 10, 9, 8, 7, 5, 1] rfl
      refine Lo A rfl (y_add (A.g 41 rfl) (evc _ _) (c := ((u + 1).toNat : Nat)) (u8_add1 u) fun _ A => ?_)
      refine Lo A rfl (y_indexS (e := 5) (size := 1) (j := i) (by kernel_rfl) (by kernel_rfl) (A.g 38 rfl) (A.g 39 rfl) (by omega) (by omega) (by simp) fun _ A => ?_)
      refine L_opN A rfl rfl (y_storeF (by kernel_rfl) (A.g 43 rfl) (A.g 42 rfl) (S.get 0 rfl) rfl (by omega) (hfr i hi) rfl ?_)
      replace S : St _ _ _ ([(bb, .cells (cs.setIfInBounds i (u8v (u + 1))) 5 fr), (b1, .cells #[.int .i64 x.d, .int .i64 x.f, .int .i64 x.t, .int .i64 x.i, .int .i64 x.b, .slice ba x.bs.length bc] 57 (0, 0))] ++ (Hm2 ++ Hr)) := S.setAt 0 rfl _
      replace A := A.only [35, 10, 9, 8, 7, 5, 1] rfl
      refine hK12 _ _ ?_
      refine region_seq ?_  -- region 8
      refine Lm A rfl (A.g 10 rfl) fun _ A => Lo A rfl (y_add (A.g 36 rfl) (evc _ _) (c := ((i + 1 : Nat) : Int)) ((wrap64 (by omega)).trans (by omega)) fun _ A => ?_)
      refine La A rfl (A.g 37 rfl) fun _ A => ?_
      replace A := A.only [35, 10, 9, 8, 7, 5, 1] rfl
      replace A := A.only [10, 9, 8, 7, 5, 1] rfl
      exact ⟨kk - 1, by omega, i + 1, [(bb, .cells (cs.setIfInBounds i (u8v (u + 1))) 5 fr)], by omega, Or.inr ⟨bb, _, fr, rfl, rfl, by simpa using hsz, hbts.set _ (by omega), hfr⟩, A, S⟩
    · obtain rfl : i = x.bs.length := by omega
      replace S : St _ _ _ (Hb ++ ([(b1, .cells #[.int .i64 x.d, .int .i64 x.f, .int .i64 x.t, .int .i64 x.i, .int .i64 x.b, .slice ba x.bs.length bc] 57 (0, 0))] ++ (Hm2 ++ Hr))) := S.perm (by classical rw [List.perm_iff_count]; intro x; simp only [List.count_append, List.count_cons, List.count_nil] <;> omega)
      replace S : St _ _ _ ([(b1, .cells #[.int .i64 x.d, .int .i64 x.f, .int .i64 x.t, .int .i64 x.i, .int .i64 x.b, .slice ba x.bs.length bc] 57 (0, 0))] ++ (Hb ++ (Hm2 ++ Hr))) := S.swap1 (L := []) (A := Hb) (B := [(b1, .cells #[.int .i64 x.d, .int .i64 x.f, .int .i64 x.t, .int .i64 x.i, .int .i64 x.b, .slice ba x.bs.length bc] 57 (0, 0))])
      clear hbt
      refine wp_seq_k fun K10 hK10 => ?_
      refine wp_seq_k fun K11 hK11 => ?_
      refine region_seq ?_  -- region 7
      refine Lm A rfl (A.g 10 rfl) fun _ A => Lm A rfl (A.g 8 rfl) fun _ A => Lo A rfl (y_lenS (e := 5) (by kernel_rfl) (A.g 33 rfl) fun _ A => ?_)
      refine Lo A rfl (y_lss (A.g 32 rfl) (A.g 34 rfl) (c := false) (decide_eq_false (by omega)) fun _ A => ?_)
      replace A := A.only [35, 10, 9, 8, 7, 5, 1] rfl
      refine hK11 _ _ ?_
      refine wp_cond_false (A.get rfl) ?_
      refine wp_exit ?_
      refine hK8 _ _ ?_
      refine wp_seq_k fun K12 hK12 => ?_
      refine region_seq ?_  -- region 10
      refine Lm A rfl (A.g 9 rfl) fun _ A => Lm A rfl (A.g 1 rfl) fun _ A => Lo A rfl (y_fieldAddr (off := 1) (j := 1) (by kernel_rfl) (A.g 5 rfl) (by first | rfl | omega) fun _ A => ?_)
      refine Lo A rfl (y_load (by kernel_rfl) (A.g 46 rfl) ((cell_of (S.get 0 rfl) _).trans rfl) fun _ A => ?_)
      replace A := A.only [47, 45, 44, 35, 10, 9, 8, 7, 5, 1] rfl
      refine Lo A rfl (y_fieldAddr (off := 2) (j := 2) (by kernel_rfl) (A.g 5 rfl) (by first | rfl | omega) fun _ A => ?_)
      refine Lo A rfl (y_load (by kernel_rfl) (A.g 48 rfl) ((cell_of (S.get 0 rfl) _).trans rfl) fun _ A => ?_)
      refine Lm A rfl (A.g 7 rfl) fun _ A => Lo A rfl (y_strBytes (e := 5) (l := x.bs) (by kernel_rfl) (by kernel_rfl) (by kernel_rfl) (A.g 50 rfl) fun bk capk csk w gG nN hcsk htkk ac A => ?_)
      replace S : St _ _ _ ([(bk, .cells csk 5 (csk.size, csk.size + 1)), (b1, .cells #[.int .i64 x.d, .int .i64 x.f, .int .i64 x.t, .int .i64 x.i, .int .i64 x.b, .slice ba x.bs.length bc] 57 (0, 0))] ++ (Hb ++ (Hm2 ++ Hr))) := (S.new gG nN).perm (by first | exact .refl _ | (rw [List.append_assoc]; exact .refl _) | (simp only [List.append_assoc, List.nil_append, List.append_nil]; exact .refl _))
      replace A := A.only [51, 49, 47, 45, 44, 35, 10, 9, 8, 7, 5, 1] rfl
      have sr := (St.app_left (H := Hr) (K := ([(bk, .cells csk 5 (csk.size, csk.size + 1)), (b1, .cells #[.int .i64 x.d, .int .i64 x.f, .int .i64 x.t, .int .i64 x.i, .int .i64 x.b, .slice ba x.bs.length bc] 57 (0, 0))] ++ (Hb ++ Hm2))) (S.perm (by classical rw [List.perm_iff_count]; intro x; simp only [List.count_append, List.count_cons, List.count_nil] <;> omega)))
      have hsc := src_new (cap := capk) (S.get 0 rfl) hcsk htkk
      replace S : St _ _ _ (Hr ++ ([(bk, .cells csk 5 (csk.size, csk.size + 1)), (b1, .cells #[.int .i64 x.d, .int .i64 x.f, .int .i64 x.t, .int .i64 x.i, .int .i64 x.b, .slice ba x.bs.length bc] 57 (0, 0))] ++ (Hb ++ Hm2))) := S.perm (by classical rw [List.perm_iff_count]; intro x; simp only [List.count_append, List.count_cons, List.count_nil] <;> omega)
      refine Lo A rfl (y_call4 (by kernel_rfl) rfl (A.g 45 rfl) (A.g 47 rfl) (A.g 49 rfl) (A.g 51 rfl) (callW (rsend_ok hR0 sr.nd sr.holds hw hsc) fun v w Hr2 s hf ac A => ?_))
      replace S : St _ _ _ (Hr2 ++ ([(bk, .cells csk 5 (csk.size, csk.size + 1)), (b1, .cells #[.int .i64 x.d, .int .i64 x.f, .int .i64 x.t, .int .i64 x.i, .int .i64 x.b, .slice ba x.bs.length bc] 57 (0, 0))] ++ (Hb ++ Hm2))) := St.call (H := Hr) (R := ([(bk, .cells csk 5 (csk.size, csk.size + 1)), (b1, .cells #[.int .i64 x.d, .int .i64 x.f, .int .i64 x.t, .int .i64 x.i, .int .i64 x.b, .slice ba x.bs.length bc] 57 (0, 0))] ++ (Hb ++ Hm2))) S rfl s
      obtain ⟨rfl, hR2⟩ := hf
      replace S : St _ _ _ ([(bk, .cells csk 5 (csk.size, csk.size + 1)), (b1, .cells #[.int .i64 x.d, .int .i64 x.f, .int .i64 x.t, .int .i64 x.i, .int .i64 x.b, .slice ba x.bs.length bc] 57 (0, 0))] ++ (Hr2 ++ (Hb ++ Hm2))) := S.perm (by classical rw [List.perm_iff_count]; intro x; simp only [List.count_append, List.count_cons, List.count_nil] <;> omega)
      refine Lo A rfl (y_eql (A.g 44 rfl) (A.g 52 rfl) (c := true) (by simp) fun _ A => ?_)
      refine La A rfl (A.g 53 rfl) fun _ A => ?_
      replace A := A.only [35, 10, 9, 8, 7, 6, 5, 1] rfl
      refine hK12 _ _ ?_
      replace S : St _ _ _ (Hm2 ++ Hr2) := St.app_left (K := ([(bk, .cells csk 5 (csk.size, csk.size + 1)), (b1, .cells #[.int .i64 x.d, .int .i64 x.f, .int .i64 x.t, .int .i64 x.i, .int .i64 x.b, .slice ba x.bs.length bc] 57 (0, 0))] ++ Hb)) (S.perm (by classical rw [List.perm_iff_count]; intro x; simp only [List.count_append, List.count_cons, List.count_nil] <;> omega))
      exact wp_ret ⟨A.defers, _, res_run (rs := [.tmp 6]) (vs := [.bool true]) rfl ⟨A.get rfl, trivial⟩, ⟨_, _, rfl, ⟨rfl, _, _, _, _, rfl, hN2, hR2, s2, send_len _ _ _ _⟩, S⟩⟩
  by_cases e1 : x.d = 1
  · skip
    refine enter Try.func31 rfl (n := 267) rfl (Nat.le_of_ble_eq_true rfl) fun _ A => ?_
    have S : St _ _ _ (Hm ++ Hr) := S0
    refine wp_seq_k fun K1 hK1 => ?_
    refine region_seq ?_  -- region 0
    refine Lo A rfl (y_boxN (A.g 2 rfl) fun b1 w gG nN ac A => ?_)
    replace S : St _ _ _ ([(b1, .cells #[.int .i64 x.d, .int .i64 x.f, .int .i64 x.t, .int .i64 x.i, .int .i64 x.b, .slice ba x.bs.length bc] 57 (0, 0))] ++ (Hm ++ Hr)) := (S.new gG nN).perm (by first | exact .refl _ | (rw [List.append_assoc]; exact .refl _) | (simp only [List.append_assoc, List.nil_append, List.append_nil]; exact .refl _))
    refine La A rfl (evc _ _) fun _ A => ?_
    replace A := A.only [6, 5, 2, 1, 0] rfl
    refine hK1 _ _ ?_
    refine wp_seq_k fun K2 hK2 => ?_
    refine wp_seq_k fun K3 hK3 => ?_
    refine region_seq ?_  -- region 1
    refine Lo A rfl (y_fieldAddr (off := 0) (j := 0) (by kernel_rfl) (A.g 5 rfl) (by first | rfl | omega) fun _ A => ?_)
    refine Lo A rfl (y_load (by kernel_rfl) (A.g 16 rfl) ((cell_of (S.get 0 rfl) _).trans rfl) fun _ A => ?_)
    replace A := A.only [17, 6, 5, 2, 1, 0] rfl
    refine hK3 _ _ ?_
    refine wp_block ?_
    refine wp_seq_k fun K4 hK4 => ?_
    refine region_seq ?_  -- region 2
    refine Lo A rfl (y_eql (A.g 17 rfl) (evc _ _) (c := false) (by simpa using e0) fun _ A => ?_)
    refine La A rfl (A.g 19 rfl) fun _ A => ?_
    replace A := A.only [18, 17, 6, 5, 2, 1, 0] rfl
    refine hK4 _ _ ?_
    refine wp_cond_false (A.get rfl) ?_
    refine wp_seq_k fun K5 hK5 => ?_
    refine wp_seq_k fun K6 hK6 => ?_
    refine region_seq ?_  -- region 11
    refine Lo A rfl (y_eql (A.g 17 rfl) (evc _ _) (c := true) (by simp [e1]) fun _ A => ?_)
    refine La A rfl (A.g 55 rfl) fun _ A => ?_
    replace A := A.only [54, 18, 17, 6, 5, 2, 1, 0] rfl
    refine hK6 _ _ ?_
    refine wp_cond_true (A.get rfl) ?_
    refine wp_skip ?_
    refine hK5 _ _ ?_
    refine wp_cond_true (A.get rfl) ?_
    refine wp_seq_k fun K7 hK7 => ?_
    refine region_seq ?_  -- region 13
    refine Lm A rfl (A.g 0 rfl) fun _ A => Lo A rfl (y_fieldAddr (off := 1) (j := 1) (by kernel_rfl) (A.g 5 rfl) (by first | rfl | omega) fun _ A => ?_)
    refine Lo A rfl (y_load (by kernel_rfl) (A.g 59 rfl) ((cell_of (S.get 0 rfl) _).trans rfl) fun _ A => ?_)
    refine Lo A rfl (y_fieldAddr (off := 2) (j := 2) (by kernel_rfl) (A.g 5 rfl) (by first | rfl | omega) fun _ A => ?_)
    replace A := A.only [61, 60, 58, 54, 18, 17, 6, 5, 2, 1, 0] rfl
    refine Lo A rfl (y_load (by kernel_rfl) (A.g 61 rfl) ((cell_of (S.get 0 rfl) _).trans rfl) fun _ A => ?_)
    refine Lo A rfl (y_fieldAddr (off := 3) (j := 3) (by kernel_rfl) (A.g 5 rfl) (by first | rfl | omega) fun _ A => ?_)
    refine Lo A rfl (y_load (by kernel_rfl) (A.g 63 rfl) ((cell_of (S.get 0 rfl) _).trans rfl) fun _ A => ?_)
    have hpl := rpeek_len hR0 x.f x.t x.i
    obtain ⟨t1, t2, t3, t4, t5⟩ := hs.take x.f x.t x.i
    obtain ⟨bs, e, hpk⟩ : ∃ bs e, R.peek x.f x.t x.i = (bs, e) := ⟨_, _, rfl⟩
    rw [hpk] at t1 t2 t3 hpl; dsimp only at t1 t2 t3 hpl
    have sm := (St.app_left (H := Hm) (K := ([(b1, .cells #[.int .i64 x.d, .int .i64 x.f, .int .i64 x.t, .int .i64 x.i, .int .i64 x.b, .slice ba x.bs.length bc] 57 (0, 0))] ++ Hr)) (S.perm (by classical rw [List.perm_iff_count]; intro x; simp only [List.count_append, List.count_cons, List.count_nil] <;> omega)))
    have cpk := peek_ok (i := x.i) hN sm.nd sm.holds okf okt
    rw [hs.peek, hpk] at cpk
    replace S : St _ _ _ (Hm ++ ([(b1, .cells #[.int .i64 x.d, .int .i64 x.f, .int .i64 x.t, .int .i64 x.i, .int .i64 x.b, .slice ba x.bs.length bc] 57 (0, 0))] ++ Hr)) := S.perm (by classical rw [List.perm_iff_count]; intro x; simp only [List.count_append, List.count_cons, List.count_nil] <;> omega)
    refine Lo A rfl (y_call4 (by kernel_rfl) rfl (A.g 58 rfl) (A.g 60 rfl) (A.g 62 rfl) (A.g 64 rfl) (callW (cpk) fun v w H9 s hf ac A => ?_))
    replace S : St _ _ _ (H9 ++ ([(b1, .cells #[.int .i64 x.d, .int .i64 x.f, .int .i64 x.t, .int .i64 x.i, .int .i64 x.b, .slice ba x.bs.length bc] 57 (0, 0))] ++ Hr)) := St.call (H := Hm) (R := ([(b1, .cells #[.int .i64 x.d, .int .i64 x.f, .int .i64 x.t, .int .i64 x.i, .int .i64 x.b, .slice ba x.bs.length bc] 57 (0, 0))] ++ Hr)) S rfl s
    obtain ⟨vb, Hb, Hn, rfl, hB, rfl, hN2⟩ := hf
    replace S : St _ _ _ ((Hn ++ Hb) ++ ([(b1, .cells #[.int .i64 x.d, .int .i64 x.f, .int .i64 x.t, .int .i64 x.i, .int .i64 x.b, .slice ba x.bs.length bc] 57 (0, 0))] ++ Hr)) := S
    replace S : St _ _ _ (Hn ++ (Hb ++ ([(b1, .cells #[.int .i64 x.d, .int .i64 x.f, .int .i64 x.t, .int .i64 x.i, .int .i64 x.b, .slice ba x.bs.length bc] 57 (0, 0))] ++ Hr))) := S.perm (by classical rw [List.perm_iff_count]; intro x; simp only [List.count_append, List.count_cons, List.count_nil] <;> omega)
    replace S : St _ _ _ ([(b1, .cells #[.int .i64 x.d, .int .i64 x.f, .int .i64 x.t, .int .i64 x.i, .int .i64 x.b, .slice ba x.bs.length bc] 57 (0, 0))] ++ (Hn ++ (Hb ++ Hr))) := S.perm (by classical rw [List.perm_iff_count]; intro x; simp only [List.count_append, List.count_cons, List.count_nil] <;> omega)
    obtain ⟨pa, pc, rfl⟩ := SlRep.len hB
    replace A := A.only [65, 54, 18, 17, 6, 5, 2, 1, 0] rfl
    refine Lm A rfl (A.g 65 rfl) fun _ A => Lo A rfl (y_extract (A.g 57 rfl) rfl fun _ A => ?_)
    refine Lo A rfl (y_extract (A.g 57 rfl) rfl fun _ A => ?_)
    refine La A rfl (A.g 66 rfl) fun _ A => ?_
    replace A := A.only [67, 54, 18, 17, 11, 6, 5, 2, 1, 0] rfl
    refine La A rfl (A.g 67 rfl) fun _ A => ?_
    replace A := A.only [54, 18, 17, 12, 11, 6, 5, 2, 1, 0] rfl
    refine hK7 _ _ ?_
    refine wp_seq_k fun K8 hK8 => ?_
    refine region_seq ?_  -- region 14
    refine Lm A rfl (A.g 1 rfl) fun _ A => Lo A rfl (y_fieldAddr (off := 1) (j := 1) (by kernel_rfl) (A.g 5 rfl) (by first | rfl | omega) fun _ A => ?_)
    refine Lo A rfl (y_load (by kernel_rfl) (A.g 70 rfl) ((cell_of (S.get 0 rfl) _).trans rfl) fun _ A => ?_)
    refine Lo A rfl (y_fieldAddr (off := 2) (j := 2) (by kernel_rfl) (A.g 5 rfl) (by first | rfl | omega) fun _ A => ?_)
    replace A := A.only [72, 71, 69, 54, 18, 17, 12, 11, 6, 5, 2, 1, 0] rfl
    refine Lo A rfl (y_load (by kernel_rfl) (A.g 72 rfl) ((cell_of (S.get 0 rfl) _).trans rfl) fun _ A => ?_)
    refine Lo A rfl (y_fieldAddr (off := 3) (j := 3) (by kernel_rfl) (A.g 5 rfl) (by first | rfl | omega) fun _ A => ?_)
    refine Lo A rfl (y_load (by kernel_rfl) (A.g 74 rfl) ((cell_of (S.get 0 rfl) _).trans rfl) fun _ A => ?_)
    obtain ⟨la, lc, ca, cc, wa, wc, gs, hrs⟩ := hR0.src (St.app_left (H := Hr) (K := ([(b1, .cells #[.int .i64 x.d, .int .i64 x.f, .int .i64 x.t, .int .i64 x.i, .int .i64 x.b, .slice ba x.bs.length bc] 57 (0, 0))] ++ (Hn ++ Hb))) (S.perm (by classical rw [List.perm_iff_count]; intro x; simp only [List.count_append, List.count_cons, List.count_nil] <;> omega))).holds
    have cp := rpeek_ok (a := x.f) (b := x.t) (i := x.i) hrs hw
    rw [hpk] at cp
    refine Lo A rfl (y_call4 (by kernel_rfl) rfl (A.g 69 rfl) (A.g 71 rfl) (A.g 73 rfl) (A.g 75 rfl) (callN cp fun v w Hc gG nN hf ac A => ?_))
    obtain ⟨vc, rfl, hC⟩ := hf
    obtain ⟨ca2, cc2, rfl⟩ := SlRep.len hC
    replace S : St _ _ _ (Hc ++ ([(b1, .cells #[.int .i64 x.d, .int .i64 x.f, .int .i64 x.t, .int .i64 x.i, .int .i64 x.b, .slice ba x.bs.length bc] 57 (0, 0))] ++ (Hn ++ (Hb ++ Hr)))) := (S.new gG nN).perm (by first | exact .refl _ | (rw [List.append_assoc]; exact .refl _) | (simp only [List.append_assoc, List.nil_append, List.append_nil]; exact .refl _))
    replace S : St _ _ _ ([(b1, .cells #[.int .i64 x.d, .int .i64 x.f, .int .i64 x.t, .int .i64 x.i, .int .i64 x.b, .slice ba x.bs.length bc] 57 (0, 0))] ++ (Hc ++ (Hn ++ (Hb ++ Hr)))) := S.swap1 (L := []) (A := Hc) (B := [(b1, .cells #[.int .i64 x.d, .int .i64 x.f, .int .i64 x.t, .int .i64 x.i, .int .i64 x.b, .slice ba x.bs.length bc] 57 (0, 0))])
    replace A := A.only [76, 54, 18, 17, 12, 11, 6, 5, 2, 1, 0] rfl
    refine Lm A rfl (A.g 76 rfl) fun _ A => Lo A rfl (y_extract (A.g 68 rfl) rfl fun _ A => ?_)
    refine Lo A rfl (y_extract (A.g 68 rfl) rfl fun _ A => ?_)
    refine La A rfl (A.g 77 rfl) fun _ A => ?_
    replace A := A.only [78, 54, 18, 17, 13, 12, 11, 6, 5, 2, 1, 0] rfl
    refine La A rfl (A.g 78 rfl) fun _ A => ?_
    replace A := A.only [54, 18, 17, 14, 13, 12, 11, 6, 5, 2, 1, 0] rfl
    refine hK8 _ _ ?_
    refine wp_seq_k fun K9 hK9 => ?_
    refine wp_seq_k fun K10 hK10 => ?_
    refine region_seq ?_  -- region 15
    refine Lm A rfl (A.g 12 rfl) fun _ A => Lm A rfl (A.g 14 rfl) fun _ A => Lo A rfl (y_neq (A.g 79 rfl) (A.g 80 rfl) (c := false) (by simp) fun _ A => ?_)
    refine Lm A rfl (A.g 81 rfl) fun _ A => ?_
    replace A := A.only [82, 54, 18, 17, 14, 13, 12, 11, 6, 5, 2, 1, 0] rfl
    refine L_yes A rfl (by decide) rfl rfl (by decide) (A.get rfl) (y_move (A.g 11 rfl) fun _ A => ?_)
    refine L_yes A rfl (by decide) rfl rfl (by decide) (A.get rfl) (y_bytesStr (e := 5) (l := bs) (by kernel_rfl) (by kernel_rfl) (by kernel_rfl) (A.g 83 rfl) (SlRep.src hB (St.app_left (H := Hb) (K := ([(b1, .cells #[.int .i64 x.d, .int .i64 x.f, .int .i64 x.t, .int .i64 x.i, .int .i64 x.b, .slice ba x.bs.length bc] 57 (0, 0))] ++ (Hc ++ (Hn ++ Hr)))) (S.perm (by classical rw [List.perm_iff_count]; intro x; simp only [List.count_append, List.count_cons, List.count_nil] <;> omega))).holds) fun _ A => ?_)
    refine L_yes A rfl (by decide) rfl rfl (by decide) (A.get rfl) (y_move (A.g 13 rfl) fun _ A => ?_)
    refine L_yes A rfl (by decide) rfl rfl (by decide) (A.get rfl) (y_bytesStr (e := 5) (l := bs) (by kernel_rfl) (by kernel_rfl) (by kernel_rfl) (A.g 85 rfl) (SlRep.src hC (St.app_left (H := Hc) (K := ([(b1, .cells #[.int .i64 x.d, .int .i64 x.f, .int .i64 x.t, .int .i64 x.i, .int .i64 x.b, .slice ba x.bs.length bc] 57 (0, 0))] ++ (Hn ++ (Hb ++ Hr)))) (S.perm (by classical rw [List.perm_iff_count]; intro x; simp only [List.count_append, List.count_cons, List.count_nil] <;> omega))).holds) fun _ A => ?_)
    replace A := A.only [86, 84, 82, 54, 18, 17, 14, 13, 12, 11, 6, 5, 2, 1, 0] rfl
    refine L_yes A rfl (by decide) rfl rfl (by decide) (A.get rfl) (y_neqStr (a := bs) (b := bs) (A.g 84 rfl) (A.g 86 rfl) (c := false) (by simp) fun _ A => ?_)
    refine Lo A rfl (y_pickF (A.g 82 rfl) (A.g 87 rfl) fun _ A => ?_)
    replace A := A.only [88, 54, 18, 17, 14, 13, 12, 11, 6, 5, 2, 1, 0] rfl
    refine hK10 _ _ ?_
    refine wp_cond_false (A.get rfl) ?_
    refine wp_skip ?_
    refine hK9 _ _ ?_
    refine wp_seq_k fun K11 hK11 => ?_
    refine wp_seq_k fun K12 hK12 => ?_
    refine region_seq ?_  -- region 17
    refine La A rfl (evc _ _) fun _ A => ?_
    replace A := A.only [88, 54, 18, 17, 15, 14, 13, 12, 11, 6, 5, 2, 1, 0] rfl
    refine hK12 _ _ ?_
    refine wp_block ?_
    replace A := A.only [15, 14, 13, 12, 11, 5, 1, 0] rfl
    replace S : St _ _ _ (Hb ++ ([(b1, .cells #[.int .i64 x.d, .int .i64 x.f, .int .i64 x.t, .int .i64 x.i, .int .i64 x.b, .slice ba x.bs.length bc] 57 (0, 0))] ++ (Hc ++ (Hn ++ Hr)))) := S.perm (by classical rw [List.perm_iff_count]; intro x; simp only [List.count_append, List.count_cons, List.count_nil] <;> omega)
    replace S : St _ _ _ (Hb ++ ([(b1, .cells #[.int .i64 x.d, .int .i64 x.f, .int .i64 x.t, .int .i64 x.i, .int .i64 x.b, .slice ba x.bs.length bc] 57 (0, 0))] ++ (Hc ++ (Hn ++ Hr)))) := S
    refine wp_loop_ghost (fun kk ac w' => ∃ (i : Nat) (Hb : Frag), kk + i = bs.length ∧ BtO pa bs.length Hb ∧ Sl 267 ac [(0, .pointer (some ⟨p, 0, none⟩)), (1, .pointer (some ⟨q, 0, none⟩)), (5, .pointer (some ⟨b1, 0, none⟩)), (11, .slice pa bs.length pc), (12, .int .i64 e), (13, .slice ca2 bs.length cc2), (14, .int .i64 e), (15, .int .i64 ((i : Nat) : Int))] ∧ St DD w0 w' (Hb ++ ([(b1, .cells #[.int .i64 x.d, .int .i64 x.f, .int .i64 x.t, .int .i64 x.i, .int .i64 x.b, .slice ba x.bs.length bc] 57 (0, 0))] ++ (Hc ++ (Hn ++ Hr))))) (bs.length) ⟨0, _, by omega, BtO.of hB, A, S⟩ ?_
    clear A S
    rintro kk ac w ⟨i, Hb, hkk, hbt, A, S⟩
    rcases Nat.lt_or_ge i (bs.length) with hi | hi
    · obtain ⟨h0, -⟩ | ⟨b9, cs, fr, ha, rfl, hsz, hbts, hfr⟩ := hbt
      · omega
      subst ha
      obtain ⟨u, hu⟩ := hbts i hi
      replace S : St _ _ _ ([(b9, .cells cs 5 fr), (b1, .cells #[.int .i64 x.d, .int .i64 x.f, .int .i64 x.t, .int .i64 x.i, .int .i64 x.b, .slice ba x.bs.length bc] 57 (0, 0))] ++ (Hc ++ (Hn ++ Hr))) := S
      refine wp_seq_k fun K13 hK13 => ?_
      refine wp_seq_k fun K14 hK14 => ?_
      refine region_seq ?_  -- region 18
      refine Lm A rfl (A.g 15 rfl) fun _ A => Lm A rfl (A.g 11 rfl) fun _ A => Lo A rfl (y_lenS (e := 5) (by kernel_rfl) (A.g 90 rfl) fun _ A => ?_)
      refine Lo A rfl (y_lss (A.g 89 rfl) (A.g 91 rfl) (c := true) (decide_eq_true (by omega)) fun _ A => ?_)
      replace A := A.only [92, 15, 14, 13, 12, 11, 5, 1, 0] rfl
      refine hK14 _ _ ?_
      refine wp_cond_true (A.get rfl) ?_
      refine wp_skip ?_
      refine hK13 _ _ ?_
      refine wp_seq_k fun K15 hK15 => ?_
      refine wp_block ?_
      refine region_seq ?_  -- region 20
      refine Lm A rfl (A.g 11 rfl) fun _ A => Lm A rfl (A.g 15 rfl) fun _ A => Lo A rfl (y_indexS (e := 5) (size := 1) (j := i) (by kernel_rfl) (by kernel_rfl) (A.g 95 rfl) (A.g 96 rfl) (by omega) (by omega) (by simp) fun _ A => ?_)
      refine Lo A rfl (y_load (by kernel_rfl) (A.g 97 rfl) ((cell_of (S.get 0 rfl) _).trans hu) fun _ A => ?_)
      replace A := A.only [98, 96, 95, 92, 15, 14, 13, 12, 11, 5, 1, 0] rfl
      refine Lo A rfl (y_add (A.g 98 rfl) (evc _ _) (c := ((u + 1).toNat : Nat)) (u8_add1 u) fun _ A => ?_)
      refine Lo A rfl (y_indexS (e := 5) (size := 1) (j := i) (by kernel_rfl) (by kernel_rfl) (A.g 95 rfl) (A.g 96 rfl) (by omega) (by omega) (by simp) fun _ A => ?_)
      refine L_opN A rfl rfl (y_storeF (by kernel_rfl) (A.g 100 rfl) (A.g 99 rfl) (S.get 0 rfl) rfl (by omega) (hfr i hi) rfl ?_)
      replace S : St _ _ _ ([(b9, .cells (cs.setIfInBounds i (u8v (u + 1))) 5 fr), (b1, .cells #[.int .i64 x.d, .int .i64 x.f, .int .i64 x.t, .int .i64 x.i, .int .i64 x.b, .slice ba x.bs.length bc] 57 (0, 0))] ++ (Hc ++ (Hn ++ Hr))) := S.setAt 0 rfl _
      replace A := A.only [92, 15, 14, 13, 12, 11, 5, 1, 0] rfl
      refine hK15 _ _ ?_
      refine region_seq ?_  -- region 19
      refine Lm A rfl (A.g 15 rfl) fun _ A => Lo A rfl (y_add (A.g 93 rfl) (evc _ _) (c := ((i + 1 : Nat) : Int)) ((wrap64 (by omega)).trans (by omega)) fun _ A => ?_)
      refine La A rfl (A.g 94 rfl) fun _ A => ?_
      replace A := A.only [92, 15, 14, 13, 12, 11, 5, 1, 0] rfl
      replace A := A.only [15, 14, 13, 12, 11, 5, 1, 0] rfl
      exact ⟨kk - 1, by omega, i + 1, [(b9, .cells (cs.setIfInBounds i (u8v (u + 1))) 5 fr)], by omega, Or.inr ⟨b9, _, fr, rfl, rfl, by simpa using hsz, hbts.set _ (by omega), hfr⟩, A, S⟩
    · obtain rfl : i = bs.length := by omega
      replace S : St _ _ _ (Hb ++ ([(b1, .cells #[.int .i64 x.d, .int .i64 x.f, .int .i64 x.t, .int .i64 x.i, .int .i64 x.b, .slice ba x.bs.length bc] 57 (0, 0))] ++ (Hc ++ (Hn ++ Hr)))) := S.perm (by classical rw [List.perm_iff_count]; intro x; simp only [List.count_append, List.count_cons, List.count_nil] <;> omega)
      replace S : St _ _ _ ([(b1, .cells #[.int .i64 x.d, .int .i64 x.f, .int .i64 x.t, .int .i64 x.i, .int .i64 x.b, .slice ba x.bs.length bc] 57 (0, 0))] ++ (Hb ++ (Hc ++ (Hn ++ Hr)))) := S.swap1 (L := []) (A := Hb) (B := [(b1, .cells #[.int .i64 x.d, .int .i64 x.f, .int .i64 x.t, .int .i64 x.i, .int .i64 x.b, .slice ba x.bs.length bc] 57 (0, 0))])
      clear hbt
      refine wp_seq_k fun K13 hK13 => ?_
      refine wp_seq_k fun K14 hK14 => ?_
      refine region_seq ?_  -- region 18
      refine Lm A rfl (A.g 15 rfl) fun _ A => Lm A rfl (A.g 11 rfl) fun _ A => Lo A rfl (y_lenS (e := 5) (by kernel_rfl) (A.g 90 rfl) fun _ A => ?_)
      refine Lo A rfl (y_lss (A.g 89 rfl) (A.g 91 rfl) (c := false) (decide_eq_false (by omega)) fun _ A => ?_)
      replace A := A.only [92, 15, 14, 13, 12, 11, 5, 1, 0] rfl
      refine hK14 _ _ ?_
      refine wp_cond_false (A.get rfl) ?_
      refine wp_exit ?_
      refine hK11 _ _ ?_
      refine wp_seq_k fun K15 hK15 => ?_
      refine wp_seq_k fun K16 hK16 => ?_
      refine region_seq ?_  -- region 21
      refine Lo A rfl (y_fieldAddr (off := 0) (j := 0) (by kernel_rfl) (A.g 5 rfl) (by first | rfl | omega) fun _ A => ?_)
      refine Lo A rfl (y_load (by kernel_rfl) (A.g 101 rfl) ((cell_of (S.get 0 rfl) _).trans rfl) fun _ A => ?_)
      refine Lo A rfl (y_eql (A.g 102 rfl) (evc _ _) (c := true) (by simp [e1]) fun _ A => ?_)
      replace A := A.only [103, 92, 15, 14, 13, 12, 11, 5, 1, 0] rfl
      refine hK16 _ _ ?_
      refine wp_cond_true (A.get rfl) ?_
      refine wp_seq_k fun K17 hK17 => ?_
      refine region_seq ?_  -- region 22
      refine La A rfl (evc _ _) fun _ A => ?_
      replace A := A.only [103, 92, 15, 14, 13, 12, 11, 6, 5, 1, 0] rfl
      refine hK17 _ _ ?_
      replace S : St _ _ _ (Hn ++ Hr) := St.app_left (K := ([(b1, .cells #[.int .i64 x.d, .int .i64 x.f, .int .i64 x.t, .int .i64 x.i, .int .i64 x.b, .slice ba x.bs.length bc] 57 (0, 0))] ++ (Hb ++ Hc))) (S.perm (by classical rw [List.perm_iff_count]; intro x; simp only [List.count_append, List.count_cons, List.count_nil] <;> omega))
      exact wp_ret ⟨A.defers, _, res_run (rs := [.tmp 6]) (vs := [.bool true]) rfl ⟨A.get rfl, trivial⟩, ⟨_, _, rfl, ⟨rfl, _, _, _, _, rfl, hN2, hR0, hs, Nat.le_succ _⟩, S⟩⟩
  by_cases e2 : x.d = 2
  · skip
    refine enter Try.func31 rfl (n := 267) rfl (Nat.le_of_ble_eq_true rfl) fun _ A => ?_
    have S : St _ _ _ (Hm ++ Hr) := S0
    refine wp_seq_k fun K1 hK1 => ?_
    refine region_seq ?_  -- region 0
    refine Lo A rfl (y_boxN (A.g 2 rfl) fun b1 w gG nN ac A => ?_)
    replace S : St _ _ _ ([(b1, .cells #[.int .i64 x.d, .int .i64 x.f, .int .i64 x.t, .int .i64 x.i, .int .i64 x.b, .slice ba x.bs.length bc] 57 (0, 0))] ++ (Hm ++ Hr)) := (S.new gG nN).perm (by first | exact .refl _ | (rw [List.append_assoc]; exact .refl _) | (simp only [List.append_assoc, List.nil_append, List.append_nil]; exact .refl _))
    refine La A rfl (evc _ _) fun _ A => ?_
    replace A := A.only [6, 5, 2, 1, 0] rfl
    refine hK1 _ _ ?_
    refine wp_seq_k fun K2 hK2 => ?_
    refine wp_seq_k fun K3 hK3 => ?_
    refine region_seq ?_  -- region 1
    refine Lo A rfl (y_fieldAddr (off := 0) (j := 0) (by kernel_rfl) (A.g 5 rfl) (by first | rfl | omega) fun _ A => ?_)
    refine Lo A rfl (y_load (by kernel_rfl) (A.g 16 rfl) ((cell_of (S.get 0 rfl) _).trans rfl) fun _ A => ?_)
    replace A := A.only [17, 6, 5, 2, 1, 0] rfl
    refine hK3 _ _ ?_
    refine wp_block ?_
    refine wp_seq_k fun K4 hK4 => ?_
    refine region_seq ?_  -- region 2
    refine Lo A rfl (y_eql (A.g 17 rfl) (evc _ _) (c := false) (by simpa using e0) fun _ A => ?_)
    refine La A rfl (A.g 19 rfl) fun _ A => ?_
    replace A := A.only [18, 17, 6, 5, 2, 1, 0] rfl
    refine hK4 _ _ ?_
    refine wp_cond_false (A.get rfl) ?_
    refine wp_seq_k fun K5 hK5 => ?_
    refine wp_seq_k fun K6 hK6 => ?_
    refine region_seq ?_  -- region 11
    refine Lo A rfl (y_eql (A.g 17 rfl) (evc _ _) (c := false) (by simpa using e1) fun _ A => ?_)
    refine La A rfl (A.g 55 rfl) fun _ A => ?_
    replace A := A.only [54, 18, 17, 6, 5, 2, 1, 0] rfl
    refine hK6 _ _ ?_
    refine wp_cond_false (A.get rfl) ?_
    refine region_seq ?_  -- region 12
    refine Lo A rfl (y_eql (A.g 17 rfl) (evc _ _) (c := true) (by simp [e2]) fun _ A => ?_)
    refine La A rfl (A.g 56 rfl) fun _ A => ?_
    replace A := A.only [54, 18, 17, 6, 5, 2, 1, 0] rfl
    refine hK5 _ _ ?_
    refine wp_cond_true (A.get rfl) ?_
    refine wp_seq_k fun K7 hK7 => ?_
    refine region_seq ?_  -- region 13
    refine Lm A rfl (A.g 0 rfl) fun _ A => Lo A rfl (y_fieldAddr (off := 1) (j := 1) (by kernel_rfl) (A.g 5 rfl) (by first | rfl | omega) fun _ A => ?_)
    refine Lo A rfl (y_load (by kernel_rfl) (A.g 59 rfl) ((cell_of (S.get 0 rfl) _).trans rfl) fun _ A => ?_)
    refine Lo A rfl (y_fieldAddr (off := 2) (j := 2) (by kernel_rfl) (A.g 5 rfl) (by first | rfl | omega) fun _ A => ?_)
    replace A := A.only [61, 60, 58, 54, 18, 17, 6, 5, 2, 1, 0] rfl
    refine Lo A rfl (y_load (by kernel_rfl) (A.g 61 rfl) ((cell_of (S.get 0 rfl) _).trans rfl) fun _ A => ?_)
    refine Lo A rfl (y_fieldAddr (off := 3) (j := 3) (by kernel_rfl) (A.g 5 rfl) (by first | rfl | omega) fun _ A => ?_)
    refine Lo A rfl (y_load (by kernel_rfl) (A.g 63 rfl) ((cell_of (S.get 0 rfl) _).trans rfl) fun _ A => ?_)
    have hpl := rpeek_len hR0 x.f x.t x.i
    obtain ⟨t1, t2, t3, t4, t5⟩ := hs.take x.f x.t x.i
    obtain ⟨bs, e, hpk⟩ : ∃ bs e, R.peek x.f x.t x.i = (bs, e) := ⟨_, _, rfl⟩
    rw [hpk] at t1 t2 t3 hpl; dsimp only at t1 t2 t3 hpl
    have sm := (St.app_left (H := Hm) (K := ([(b1, .cells #[.int .i64 x.d, .int .i64 x.f, .int .i64 x.t, .int .i64 x.i, .int .i64 x.b, .slice ba x.bs.length bc] 57 (0, 0))] ++ Hr)) (S.perm (by classical rw [List.perm_iff_count]; intro x; simp only [List.count_append, List.count_cons, List.count_nil] <;> omega)))
    have cpk := peek_ok (i := x.i) hN sm.nd sm.holds okf okt
    rw [hs.peek, hpk] at cpk
    replace S : St _ _ _ (Hm ++ ([(b1, .cells #[.int .i64 x.d, .int .i64 x.f, .int .i64 x.t, .int .i64 x.i, .int .i64 x.b, .slice ba x.bs.length bc] 57 (0, 0))] ++ Hr)) := S.perm (by classical rw [List.perm_iff_count]; intro x; simp only [List.count_append, List.count_cons, List.count_nil] <;> omega)
    refine Lo A rfl (y_call4 (by kernel_rfl) rfl (A.g 58 rfl) (A.g 60 rfl) (A.g 62 rfl) (A.g 64 rfl) (callW (cpk) fun v w H9 s hf ac A => ?_))
    replace S : St _ _ _ (H9 ++ ([(b1, .cells #[.int .i64 x.d, .int .i64 x.f, .int .i64 x.t, .int .i64 x.i, .int .i64 x.b, .slice ba x.bs.length bc] 57 (0, 0))] ++ Hr)) := St.call (H := Hm) (R := ([(b1, .cells #[.int .i64 x.d, .int .i64 x.f, .int .i64 x.t, .int .i64 x.i, .int .i64 x.b, .slice ba x.bs.length bc] 57 (0, 0))] ++ Hr)) S rfl s
    obtain ⟨vb, Hb, Hn, rfl, hB, rfl, hN2⟩ := hf
    replace S : St _ _ _ ((Hn ++ Hb) ++ ([(b1, .cells #[.int .i64 x.d, .int .i64 x.f, .int .i64 x.t, .int .i64 x.i, .int .i64 x.b, .slice ba x.bs.length bc] 57 (0, 0))] ++ Hr)) := S
    replace S : St _ _ _ (Hn ++ (Hb ++ ([(b1, .cells #[.int .i64 x.d, .int .i64 x.f, .int .i64 x.t, .int .i64 x.i, .int .i64 x.b, .slice ba x.bs.length bc] 57 (0, 0))] ++ Hr))) := S.perm (by classical rw [List.perm_iff_count]; intro x; simp only [List.count_append, List.count_cons, List.count_nil] <;> omega)
    replace S : St _ _ _ ([(b1, .cells #[.int .i64 x.d, .int .i64 x.f, .int .i64 x.t, .int .i64 x.i, .int .i64 x.b, .slice ba x.bs.length bc] 57 (0, 0))] ++ (Hn ++ (Hb ++ Hr))) := S.perm (by classical rw [List.perm_iff_count]; intro x; simp only [List.count_append, List.count_cons, List.count_nil] <;> omega)
    obtain ⟨pa, pc, rfl⟩ := SlRep.len hB
    replace A := A.only [65, 54, 18, 17, 6, 5, 2, 1, 0] rfl
    refine Lm A rfl (A.g 65 rfl) fun _ A => Lo A rfl (y_extract (A.g 57 rfl) rfl fun _ A => ?_)
    refine Lo A rfl (y_extract (A.g 57 rfl) rfl fun _ A => ?_)
    refine La A rfl (A.g 66 rfl) fun _ A => ?_
    replace A := A.only [67, 54, 18, 17, 11, 6, 5, 2, 1, 0] rfl
    refine La A rfl (A.g 67 rfl) fun _ A => ?_
    replace A := A.only [54, 18, 17, 12, 11, 6, 5, 2, 1, 0] rfl
    refine hK7 _ _ ?_
    refine wp_seq_k fun K8 hK8 => ?_
    refine region_seq ?_  -- region 14
    refine Lm A rfl (A.g 1 rfl) fun _ A => Lo A rfl (y_fieldAddr (off := 1) (j := 1) (by kernel_rfl) (A.g 5 rfl) (by first | rfl | omega) fun _ A => ?_)
    refine Lo A rfl (y_load (by kernel_rfl) (A.g 70 rfl) ((cell_of (S.get 0 rfl) _).trans rfl) fun _ A => ?_)
    refine Lo A rfl (y_fieldAddr (off := 2) (j := 2) (by kernel_rfl) (A.g 5 rfl) (by first | rfl | omega) fun _ A => ?_)
    replace A := A.only [72, 71, 69, 54, 18, 17, 12, 11, 6, 5, 2, 1, 0] rfl
    refine Lo A rfl (y_load (by kernel_rfl) (A.g 72 rfl) ((cell_of (S.get 0 rfl) _).trans rfl) fun _ A => ?_)
    refine Lo A rfl (y_fieldAddr (off := 3) (j := 3) (by kernel_rfl) (A.g 5 rfl) (by first | rfl | omega) fun _ A => ?_)
    refine Lo A rfl (y_load (by kernel_rfl) (A.g 74 rfl) ((cell_of (S.get 0 rfl) _).trans rfl) fun _ A => ?_)
    obtain ⟨la, lc, ca, cc, wa, wc, gs, hrs⟩ := hR0.src (St.app_left (H := Hr) (K := ([(b1, .cells #[.int .i64 x.d, .int .i64 x.f, .int .i64 x.t, .int .i64 x.i, .int .i64 x.b, .slice ba x.bs.length bc] 57 (0, 0))] ++ (Hn ++ Hb))) (S.perm (by classical rw [List.perm_iff_count]; intro x; simp only [List.count_append, List.count_cons, List.count_nil] <;> omega))).holds
    have cp := rpeek_ok (a := x.f) (b := x.t) (i := x.i) hrs hw
    rw [hpk] at cp
    refine Lo A rfl (y_call4 (by kernel_rfl) rfl (A.g 69 rfl) (A.g 71 rfl) (A.g 73 rfl) (A.g 75 rfl) (callN cp fun v w Hc gG nN hf ac A => ?_))
    obtain ⟨vc, rfl, hC⟩ := hf
    obtain ⟨ca2, cc2, rfl⟩ := SlRep.len hC
    replace S : St _ _ _ (Hc ++ ([(b1, .cells #[.int .i64 x.d, .int .i64 x.f, .int .i64 x.t, .int .i64 x.i, .int .i64 x.b, .slice ba x.bs.length bc] 57 (0, 0))] ++ (Hn ++ (Hb ++ Hr)))) := (S.new gG nN).perm (by first | exact .refl _ | (rw [List.append_assoc]; exact .refl _) | (simp only [List.append_assoc, List.nil_append, List.append_nil]; exact .refl _))
    replace S : St _ _ _ ([(b1, .cells #[.int .i64 x.d, .int .i64 x.f, .int .i64 x.t, .int .i64 x.i, .int .i64 x.b, .slice ba x.bs.length bc] 57 (0, 0))] ++ (Hc ++ (Hn ++ (Hb ++ Hr)))) := S.swap1 (L := []) (A := Hc) (B := [(b1, .cells #[.int .i64 x.d, .int .i64 x.f, .int .i64 x.t, .int .i64 x.i, .int .i64 x.b, .slice ba x.bs.length bc] 57 (0, 0))])
    replace A := A.only [76, 54, 18, 17, 12, 11, 6, 5, 2, 1, 0] rfl
    refine Lm A rfl (A.g 76 rfl) fun _ A => Lo A rfl (y_extract (A.g 68 rfl) rfl fun _ A => ?_)
    refine Lo A rfl (y_extract (A.g 68 rfl) rfl fun _ A => ?_)
    refine La A rfl (A.g 77 rfl) fun _ A => ?_
    replace A := A.only [78, 54, 18, 17, 13, 12, 11, 6, 5, 2, 1, 0] rfl
    refine La A rfl (A.g 78 rfl) fun _ A => ?_
    replace A := A.only [54, 18, 17, 14, 13, 12, 11, 6, 5, 2, 1, 0] rfl
    refine hK8 _ _ ?_
    refine wp_seq_k fun K9 hK9 => ?_
    refine wp_seq_k fun K10 hK10 => ?_
    refine region_seq ?_  -- region 15
    refine Lm A rfl (A.g 12 rfl) fun _ A => Lm A rfl (A.g 14 rfl) fun _ A => Lo A rfl (y_neq (A.g 79 rfl) (A.g 80 rfl) (c := false) (by simp) fun _ A => ?_)
    refine Lm A rfl (A.g 81 rfl) fun _ A => ?_
    replace A := A.only [82, 54, 18, 17, 14, 13, 12, 11, 6, 5, 2, 1, 0] rfl
    refine L_yes A rfl (by decide) rfl rfl (by decide) (A.get rfl) (y_move (A.g 11 rfl) fun _ A => ?_)
    refine L_yes A rfl (by decide) rfl rfl (by decide) (A.get rfl) (y_bytesStr (e := 5) (l := bs) (by kernel_rfl) (by kernel_rfl) (by kernel_rfl) (A.g 83 rfl) (SlRep.src hB (St.app_left (H := Hb) (K := ([(b1, .cells #[.int .i64 x.d, .int .i64 x.f, .int .i64 x.t, .int .i64 x.i, .int .i64 x.b, .slice ba x.bs.length bc] 57 (0, 0))] ++ (Hc ++ (Hn ++ Hr)))) (S.perm (by classical rw [List.perm_iff_count]; intro x; simp only [List.count_append, List.count_cons, List.count_nil] <;> omega))).holds) fun _ A => ?_)
    refine L_yes A rfl (by decide) rfl rfl (by decide) (A.get rfl) (y_move (A.g 13 rfl) fun _ A => ?_)
    refine L_yes A rfl (by decide) rfl rfl (by decide) (A.get rfl) (y_bytesStr (e := 5) (l := bs) (by kernel_rfl) (by kernel_rfl) (by kernel_rfl) (A.g 85 rfl) (SlRep.src hC (St.app_left (H := Hc) (K := ([(b1, .cells #[.int .i64 x.d, .int .i64 x.f, .int .i64 x.t, .int .i64 x.i, .int .i64 x.b, .slice ba x.bs.length bc] 57 (0, 0))] ++ (Hn ++ (Hb ++ Hr)))) (S.perm (by classical rw [List.perm_iff_count]; intro x; simp only [List.count_append, List.count_cons, List.count_nil] <;> omega))).holds) fun _ A => ?_)
    replace A := A.only [86, 84, 82, 54, 18, 17, 14, 13, 12, 11, 6, 5, 2, 1, 0] rfl
    refine L_yes A rfl (by decide) rfl rfl (by decide) (A.get rfl) (y_neqStr (a := bs) (b := bs) (A.g 84 rfl) (A.g 86 rfl) (c := false) (by simp) fun _ A => ?_)
    refine Lo A rfl (y_pickF (A.g 82 rfl) (A.g 87 rfl) fun _ A => ?_)
    replace A := A.only [88, 54, 18, 17, 14, 13, 12, 11, 6, 5, 2, 1, 0] rfl
    refine hK10 _ _ ?_
    refine wp_cond_false (A.get rfl) ?_
    refine wp_skip ?_
    refine hK9 _ _ ?_
    refine wp_seq_k fun K11 hK11 => ?_
    refine wp_seq_k fun K12 hK12 => ?_
    refine region_seq ?_  -- region 17
    refine La A rfl (evc _ _) fun _ A => ?_
    replace A := A.only [88, 54, 18, 17, 15, 14, 13, 12, 11, 6, 5, 2, 1, 0] rfl
    refine hK12 _ _ ?_
    refine wp_block ?_
    replace A := A.only [15, 14, 13, 12, 11, 5, 1, 0] rfl
    replace S : St _ _ _ (Hb ++ ([(b1, .cells #[.int .i64 x.d, .int .i64 x.f, .int .i64 x.t, .int .i64 x.i, .int .i64 x.b, .slice ba x.bs.length bc] 57 (0, 0))] ++ (Hc ++ (Hn ++ Hr)))) := S.perm (by classical rw [List.perm_iff_count]; intro x; simp only [List.count_append, List.count_cons, List.count_nil] <;> omega)
    replace S : St _ _ _ (Hb ++ ([(b1, .cells #[.int .i64 x.d, .int .i64 x.f, .int .i64 x.t, .int .i64 x.i, .int .i64 x.b, .slice ba x.bs.length bc] 57 (0, 0))] ++ (Hc ++ (Hn ++ Hr)))) := S
    refine wp_loop_ghost (fun kk ac w' => ∃ (i : Nat) (Hb : Frag), kk + i = bs.length ∧ BtO pa bs.length Hb ∧ Sl 267 ac [(0, .pointer (some ⟨p, 0, none⟩)), (1, .pointer (some ⟨q, 0, none⟩)), (5, .pointer (some ⟨b1, 0, none⟩)), (11, .slice pa bs.length pc), (12, .int .i64 e), (13, .slice ca2 bs.length cc2), (14, .int .i64 e), (15, .int .i64 ((i : Nat) : Int))] ∧ St DD w0 w' (Hb ++ ([(b1, .cells #[.int .i64 x.d, .int .i64 x.f, .int .i64 x.t, .int .i64 x.i, .int .i64 x.b, .slice ba x.bs.length bc] 57 (0, 0))] ++ (Hc ++ (Hn ++ Hr))))) (bs.length) ⟨0, _, by omega, BtO.of hB, A, S⟩ ?_
    clear A S
    rintro kk ac w ⟨i, Hb, hkk, hbt, A, S⟩
    rcases Nat.lt_or_ge i (bs.length) with hi | hi
    · obtain ⟨h0, -⟩ | ⟨b9, cs, fr, ha, rfl, hsz, hbts, hfr⟩ := hbt
      · omega
      subst ha
      obtain ⟨u, hu⟩ := hbts i hi
      replace S : St _ _ _ ([(b9, .cells cs 5 fr), (b1, .cells #[.int .i64 x.d, .int .i64 x.f, .int .i64 x.t, .int .i64 x.i, .int .i64 x.b, .slice ba x.bs.length bc] 57 (0, 0))] ++ (Hc ++ (Hn ++ Hr))) := S
      refine wp_seq_k fun K13 hK13 => ?_
      refine wp_seq_k fun K14 hK14 => ?_
      refine region_seq ?_  -- region 18
      refine Lm A rfl (A.g 15 rfl) fun _ A => Lm A rfl (A.g 11 rfl) fun _ A => Lo A rfl (y_lenS (e := 5) (by kernel_rfl) (A.g 90 rfl) fun _ A => ?_)
      refine Lo A rfl (y_lss (A.g 89 rfl) (A.g 91 rfl) (c := true) (decide_eq_true (by omega)) fun _ A => ?_)
      replace A := A.only [92, 15, 14, 13, 12, 11, 5, 1, 0] rfl
      refine hK14 _ _ ?_
      refine wp_cond_true (A.get rfl) ?_
      refine wp_skip ?_
      refine hK13 _ _ ?_
      refine wp_seq_k fun K15 hK15 => ?_
      refine wp_block ?_
      refine region_seq ?_  -- region 20
      refine Lm A rfl (A.g 11 rfl) fun _ A => Lm A rfl (A.g 15 rfl) fun _ A => Lo A rfl (y_indexS (e := 5) (size := 1) (j := i) (by kernel_rfl) (by kernel_rfl) (A.g 95 rfl) (A.g 96 rfl) (by omega) (by omega) (by simp) fun _ A => ?_)
      refine Lo A rfl (y_load (by kernel_rfl) (A.g 97 rfl) ((cell_of (S.get 0 rfl) _).trans hu) fun _ A => ?_)
      replace A := A.only [98, 96, 95, 92, 15, 14, 13, 12, 11, 5, 1, 0] rfl
      refine Lo A rfl (y_add (A.g 98 rfl) (evc _ _) (c := ((u + 1).toNat : Nat)) (u8_add1 u) fun _ A => ?_)
      refine Lo A rfl (y_indexS (e := 5) (size := 1) (j := i) (by kernel_rfl) (by kernel_rfl) (A.g 95 rfl) (A.g 96 rfl) (by omega) (by omega) (by simp) fun _ A => ?_)
      refine L_opN A rfl rfl (y_storeF (by kernel_rfl) (A.g 100 rfl) (A.g 99 rfl) (S.get 0 rfl) rfl (by omega) (hfr i hi) rfl ?_)
      replace S : St _ _ _ ([(b9, .cells (cs.setIfInBounds i (u8v (u + 1))) 5 fr), (b1, .cells #[.int .i64 x.d, .int .i64 x.f, .int .i64 x.t, .int .i64 x.i, .int .i64 x.b, .slice ba x.bs.length bc] 57 (0, 0))] ++ (Hc ++ (Hn ++ Hr))) := S.setAt 0 rfl _
      replace A := A.only [92, 15, 14, 13, 12, 11, 5, 1, 0] rfl
      refine hK15 _ _ ?_
      refine region_seq ?_  -- region 19
      refine Lm A rfl (A.g 15 rfl) fun _ A => Lo A rfl (y_add (A.g 93 rfl) (evc _ _) (c := ((i + 1 : Nat) : Int)) ((wrap64 (by omega)).trans (by omega)) fun _ A => ?_)
      refine La A rfl (A.g 94 rfl) fun _ A => ?_
      replace A := A.only [92, 15, 14, 13, 12, 11, 5, 1, 0] rfl
      replace A := A.only [15, 14, 13, 12, 11, 5, 1, 0] rfl
      exact ⟨kk - 1, by omega, i + 1, [(b9, .cells (cs.setIfInBounds i (u8v (u + 1))) 5 fr)], by omega, Or.inr ⟨b9, _, fr, rfl, rfl, by simpa using hsz, hbts.set _ (by omega), hfr⟩, A, S⟩
    · obtain rfl : i = bs.length := by omega
      replace S : St _ _ _ (Hb ++ ([(b1, .cells #[.int .i64 x.d, .int .i64 x.f, .int .i64 x.t, .int .i64 x.i, .int .i64 x.b, .slice ba x.bs.length bc] 57 (0, 0))] ++ (Hc ++ (Hn ++ Hr)))) := S.perm (by classical rw [List.perm_iff_count]; intro x; simp only [List.count_append, List.count_cons, List.count_nil] <;> omega)
      replace S : St _ _ _ ([(b1, .cells #[.int .i64 x.d, .int .i64 x.f, .int .i64 x.t, .int .i64 x.i, .int .i64 x.b, .slice ba x.bs.length bc] 57 (0, 0))] ++ (Hb ++ (Hc ++ (Hn ++ Hr)))) := S.swap1 (L := []) (A := Hb) (B := [(b1, .cells #[.int .i64 x.d, .int .i64 x.f, .int .i64 x.t, .int .i64 x.i, .int .i64 x.b, .slice ba x.bs.length bc] 57 (0, 0))])
      clear hbt
      refine wp_seq_k fun K13 hK13 => ?_
      refine wp_seq_k fun K14 hK14 => ?_
      refine region_seq ?_  -- region 18
      refine Lm A rfl (A.g 15 rfl) fun _ A => Lm A rfl (A.g 11 rfl) fun _ A => Lo A rfl (y_lenS (e := 5) (by kernel_rfl) (A.g 90 rfl) fun _ A => ?_)
      refine Lo A rfl (y_lss (A.g 89 rfl) (A.g 91 rfl) (c := false) (decide_eq_false (by omega)) fun _ A => ?_)
      replace A := A.only [92, 15, 14, 13, 12, 11, 5, 1, 0] rfl
      refine hK14 _ _ ?_
      refine wp_cond_false (A.get rfl) ?_
      refine wp_exit ?_
      refine hK11 _ _ ?_
      refine wp_seq_k fun K15 hK15 => ?_
      refine wp_seq_k fun K16 hK16 => ?_
      refine region_seq ?_  -- region 21
      refine Lo A rfl (y_fieldAddr (off := 0) (j := 0) (by kernel_rfl) (A.g 5 rfl) (by first | rfl | omega) fun _ A => ?_)
      refine Lo A rfl (y_load (by kernel_rfl) (A.g 101 rfl) ((cell_of (S.get 0 rfl) _).trans rfl) fun _ A => ?_)
      refine Lo A rfl (y_eql (A.g 102 rfl) (evc _ _) (c := false) (by simpa using e1) fun _ A => ?_)
      replace A := A.only [103, 92, 15, 14, 13, 12, 11, 5, 1, 0] rfl
      refine hK16 _ _ ?_
      refine wp_cond_false (A.get rfl) ?_
      refine wp_skip ?_
      refine hK15 _ _ ?_
      refine wp_seq_k fun K17 hK17 => ?_
      refine region_seq ?_  -- region 23
      refine Lm A rfl (A.g 0 rfl) fun _ A => Lo A rfl (y_fieldAddr (off := 1) (j := 1) (by kernel_rfl) (A.g 5 rfl) (by first | rfl | omega) fun _ A => ?_)
      refine Lo A rfl (y_load (by kernel_rfl) (A.g 106 rfl) ((cell_of (S.get 0 rfl) _).trans rfl) fun _ A => ?_)
      refine Lo A rfl (y_fieldAddr (off := 2) (j := 2) (by kernel_rfl) (A.g 5 rfl) (by first | rfl | omega) fun _ A => ?_)
      replace A := A.only [108, 107, 105, 103, 92, 15, 14, 13, 12, 11, 5, 1, 0] rfl
      refine Lo A rfl (y_load (by kernel_rfl) (A.g 108 rfl) ((cell_of (S.get 0 rfl) _).trans rfl) fun _ A => ?_)
      refine Lo A rfl (y_fieldAddr (off := 3) (j := 3) (by kernel_rfl) (A.g 5 rfl) (by first | rfl | omega) fun _ A => ?_)
      refine Lo A rfl (y_load (by kernel_rfl) (A.g 110 rfl) ((cell_of (S.get 0 rfl) _).trans rfl) fun _ A => ?_)
      have sm := (St.app_left (H := Hn) (K := ([(b1, .cells #[.int .i64 x.d, .int .i64 x.f, .int .i64 x.t, .int .i64 x.i, .int .i64 x.b, .slice ba x.bs.length bc] 57 (0, 0))] ++ (Hb ++ (Hc ++ Hr)))) (S.perm (by classical rw [List.perm_iff_count]; intro x; simp only [List.count_append, List.count_cons, List.count_nil] <;> omega)))
      have ct := take_ok (i := x.i) hN2 sm.nd sm.holds okf okt
      rw [t1, t2] at ct
      replace S : St _ _ _ (Hn ++ ([(b1, .cells #[.int .i64 x.d, .int .i64 x.f, .int .i64 x.t, .int .i64 x.i, .int .i64 x.b, .slice ba x.bs.length bc] 57 (0, 0))] ++ (Hb ++ (Hc ++ Hr)))) := S.perm (by classical rw [List.perm_iff_count]; intro x; simp only [List.count_append, List.count_cons, List.count_nil] <;> omega)
      refine Lo A rfl (y_call4 (by kernel_rfl) rfl (A.g 105 rfl) (A.g 107 rfl) (A.g 109 rfl) (A.g 111 rfl) (callW (ct) fun v w H9 s hf ac A => ?_))
      replace S : St _ _ _ (H9 ++ ([(b1, .cells #[.int .i64 x.d, .int .i64 x.f, .int .i64 x.t, .int .i64 x.i, .int .i64 x.b, .slice ba x.bs.length bc] 57 (0, 0))] ++ (Hb ++ (Hc ++ Hr)))) := St.call (H := Hn) (R := ([(b1, .cells #[.int .i64 x.d, .int .i64 x.f, .int .i64 x.t, .int .i64 x.i, .int .i64 x.b, .slice ba x.bs.length bc] 57 (0, 0))] ++ (Hb ++ (Hc ++ Hr)))) S rfl s
      obtain ⟨vt, Ht, Hn3, rfl, hT, rfl, hN3⟩ := hf
      replace S : St _ _ _ ((Hn3 ++ Ht) ++ ([(b1, .cells #[.int .i64 x.d, .int .i64 x.f, .int .i64 x.t, .int .i64 x.i, .int .i64 x.b, .slice ba x.bs.length bc] 57 (0, 0))] ++ (Hb ++ (Hc ++ Hr)))) := S
      replace S : St _ _ _ (Hn3 ++ (Ht ++ ([(b1, .cells #[.int .i64 x.d, .int .i64 x.f, .int .i64 x.t, .int .i64 x.i, .int .i64 x.b, .slice ba x.bs.length bc] 57 (0, 0))] ++ (Hb ++ (Hc ++ Hr))))) := S.perm (by classical rw [List.perm_iff_count]; intro x; simp only [List.count_append, List.count_cons, List.count_nil] <;> omega)
      replace S : St _ _ _ ([(b1, .cells #[.int .i64 x.d, .int .i64 x.f, .int .i64 x.t, .int .i64 x.i, .int .i64 x.b, .slice ba x.bs.length bc] 57 (0, 0))] ++ (Hn3 ++ (Ht ++ (Hb ++ (Hc ++ Hr))))) := S.perm (by classical rw [List.perm_iff_count]; intro x; simp only [List.count_append, List.count_cons, List.count_nil] <;> omega)
      obtain ⟨ta, tc, rfl⟩ := SlRep.len hT
      replace A := A.only [112, 103, 92, 15, 14, 13, 12, 11, 5, 1, 0] rfl
      refine Lm A rfl (A.g 112 rfl) fun _ A => Lo A rfl (y_extract (A.g 104 rfl) rfl fun _ A => ?_)
      refine Lo A rfl (y_extract (A.g 104 rfl) rfl fun _ A => ?_)
      refine La A rfl (A.g 113 rfl) fun _ A => ?_
      replace A := A.only [114, 103, 92, 15, 14, 13, 12, 11, 5, 1, 0] rfl
      refine La A rfl (A.g 114 rfl) fun _ A => ?_
      replace A := A.only [103, 92, 15, 14, 13, 12, 11, 5, 1, 0] rfl
      refine hK17 _ _ ?_
      refine wp_seq_k fun K18 hK18 => ?_
      refine region_seq ?_  -- region 24
      refine Lm A rfl (A.g 12 rfl) fun _ A => Lm A rfl (A.g 14 rfl) fun _ A => Lo A rfl (y_eql (A.g 115 rfl) (A.g 116 rfl) (c := true) (by simp) fun _ A => ?_)
      refine Lm A rfl (A.g 117 rfl) fun _ A => ?_
      replace A := A.only [118, 103, 92, 15, 14, 13, 12, 11, 5, 1, 0] rfl
      refine L_yes A rfl (by decide) rfl rfl (by decide) (A.get rfl) (y_move (A.g 11 rfl) fun _ A => ?_)
      refine L_yes A rfl (by decide) rfl rfl (by decide) (A.get rfl) (y_bytesStr (e := 5) (l := bs) (by kernel_rfl) (by kernel_rfl) (by kernel_rfl) (A.g 119 rfl) (SlRep.src hT (St.app_left (H := Ht) (K := ([(b1, .cells #[.int .i64 x.d, .int .i64 x.f, .int .i64 x.t, .int .i64 x.i, .int .i64 x.b, .slice ba x.bs.length bc] 57 (0, 0))] ++ (Hn3 ++ (Hb ++ (Hc ++ Hr))))) (S.perm (by classical rw [List.perm_iff_count]; intro x; simp only [List.count_append, List.count_cons, List.count_nil] <;> omega))).holds) fun _ A => ?_)
      refine L_yes A rfl (by decide) rfl rfl (by decide) (A.get rfl) (y_move (A.g 13 rfl) fun _ A => ?_)
      refine L_yes A rfl (by decide) rfl rfl (by decide) (A.get rfl) (y_bytesStr (e := 5) (l := bs) (by kernel_rfl) (by kernel_rfl) (by kernel_rfl) (A.g 121 rfl) (SlRep.src hC (St.app_left (H := Hc) (K := ([(b1, .cells #[.int .i64 x.d, .int .i64 x.f, .int .i64 x.t, .int .i64 x.i, .int .i64 x.b, .slice ba x.bs.length bc] 57 (0, 0))] ++ (Hn3 ++ (Ht ++ (Hb ++ Hr))))) (S.perm (by classical rw [List.perm_iff_count]; intro x; simp only [List.count_append, List.count_cons, List.count_nil] <;> omega))).holds) fun _ A => ?_)
      replace A := A.only [122, 120, 118, 103, 92, 15, 14, 13, 12, 11, 5, 1, 0] rfl
      refine L_yes A rfl (by decide) rfl rfl (by decide) (A.get rfl) (y_eqlStr (a := bs) (b := bs) (A.g 120 rfl) (A.g 122 rfl) (c := true) (by simp) fun _ A => ?_)
      refine Lo A rfl (y_pickT (A.g 118 rfl) (A.g 123 rfl) fun _ A => ?_)
      refine Lm A rfl (A.g 124 rfl) fun _ A => L_yes A rfl (by decide) rfl rfl (by decide) (A.get rfl) (y_move (A.g 1 rfl) fun _ A => ?_)
      replace A := A.only [126, 125, 103, 92, 15, 14, 13, 12, 11, 5, 1, 0] rfl
      refine L_yes A rfl (by decide) rfl rfl (by decide) (A.get rfl) (y_fieldAddr (off := 1) (j := 1) (by kernel_rfl) (A.g 5 rfl) (by first | rfl | omega) fun _ A => ?_)
      refine L_yes A rfl (by decide) rfl rfl (by decide) (A.get rfl) (y_load (by kernel_rfl) (A.g 127 rfl) ((cell_of (S.get 0 rfl) _).trans rfl) fun _ A => ?_)
      refine L_yes A rfl (by decide) rfl rfl (by decide) (A.get rfl) (y_fieldAddr (off := 2) (j := 2) (by kernel_rfl) (A.g 5 rfl) (by first | rfl | omega) fun _ A => ?_)
      refine L_yes A rfl (by decide) rfl rfl (by decide) (A.get rfl) (y_load (by kernel_rfl) (A.g 129 rfl) ((cell_of (S.get 0 rfl) _).trans rfl) fun _ A => ?_)
      replace A := A.only [130, 128, 126, 125, 103, 92, 15, 14, 13, 12, 11, 5, 1, 0] rfl
      refine L_yes A rfl (by decide) rfl rfl (by decide) (A.get rfl) (y_fieldAddr (off := 3) (j := 3) (by kernel_rfl) (A.g 5 rfl) (by first | rfl | omega) fun _ A => ?_)
      refine L_yes A rfl (by decide) rfl rfl (by decide) (A.get rfl) (y_load (by kernel_rfl) (A.g 131 rfl) ((cell_of (S.get 0 rfl) _).trans rfl) fun _ A => ?_)
      have sr := (St.app_left (H := Hr) (K := ([(b1, .cells #[.int .i64 x.d, .int .i64 x.f, .int .i64 x.t, .int .i64 x.i, .int .i64 x.b, .slice ba x.bs.length bc] 57 (0, 0))] ++ (Hn3 ++ (Ht ++ (Hb ++ Hc))))) (S.perm (by classical rw [List.perm_iff_count]; intro x; simp only [List.count_append, List.count_cons, List.count_nil] <;> omega)))
      have cd := rdrop_ok (a := x.f) (b := x.t) (i := x.i) hR0 sr.nd sr.holds hw
      rw [t3] at cd
      replace S : St _ _ _ (Hr ++ ([(b1, .cells #[.int .i64 x.d, .int .i64 x.f, .int .i64 x.t, .int .i64 x.i, .int .i64 x.b, .slice ba x.bs.length bc] 57 (0, 0))] ++ (Hn3 ++ (Ht ++ (Hb ++ Hc))))) := S.perm (by classical rw [List.perm_iff_count]; intro x; simp only [List.count_append, List.count_cons, List.count_nil] <;> omega)
      refine L_yes A rfl (by decide) rfl rfl (by decide) (A.get rfl) (y_call4 (by kernel_rfl) rfl (A.g 126 rfl) (A.g 128 rfl) (A.g 130 rfl) (A.g 132 rfl) (callW (cd) fun v w Hr2 s hf ac A => ?_))
      replace S : St _ _ _ (Hr2 ++ ([(b1, .cells #[.int .i64 x.d, .int .i64 x.f, .int .i64 x.t, .int .i64 x.i, .int .i64 x.b, .slice ba x.bs.length bc] 57 (0, 0))] ++ (Hn3 ++ (Ht ++ (Hb ++ Hc))))) := St.call (H := Hr) (R := ([(b1, .cells #[.int .i64 x.d, .int .i64 x.f, .int .i64 x.t, .int .i64 x.i, .int .i64 x.b, .slice ba x.bs.length bc] 57 (0, 0))] ++ (Hn3 ++ (Ht ++ (Hb ++ Hc))))) S rfl s
      obtain ⟨rfl, hR3⟩ := hf
      replace S : St _ _ _ ([(b1, .cells #[.int .i64 x.d, .int .i64 x.f, .int .i64 x.t, .int .i64 x.i, .int .i64 x.b, .slice ba x.bs.length bc] 57 (0, 0))] ++ (Hr2 ++ (Hn3 ++ (Ht ++ (Hb ++ Hc))))) := S.perm (by classical rw [List.perm_iff_count]; intro x; simp only [List.count_append, List.count_cons, List.count_nil] <;> omega)
      refine L_yes A rfl (by decide) rfl rfl (by decide) (A.get rfl) (y_move (A.g 14 rfl) fun _ A => ?_)
      replace A := A.only [134, 133, 125, 103, 92, 15, 14, 13, 12, 11, 5, 1, 0] rfl
      refine L_yes A rfl (by decide) rfl rfl (by decide) (A.get rfl) (y_eql (A.g 133 rfl) (A.g 134 rfl) (c := true) (by simp) fun _ A => ?_)
      refine Lo A rfl (y_pickT (A.g 125 rfl) (A.g 135 rfl) fun _ A => ?_)
      refine La A rfl (A.g 136 rfl) fun _ A => ?_
      replace A := A.only [103, 92, 15, 14, 13, 12, 11, 6, 5, 1, 0] rfl
      refine hK18 _ _ ?_
      replace S : St _ _ _ (Hn3 ++ Hr2) := St.app_left (K := ([(b1, .cells #[.int .i64 x.d, .int .i64 x.f, .int .i64 x.t, .int .i64 x.i, .int .i64 x.b, .slice ba x.bs.length bc] 57 (0, 0))] ++ (Ht ++ (Hb ++ Hc)))) (S.perm (by classical rw [List.perm_iff_count]; intro x; simp only [List.count_append, List.count_cons, List.count_nil] <;> omega))
      exact wp_ret ⟨A.defers, _, res_run (rs := [.tmp 6]) (vs := [.bool true]) rfl ⟨A.get rfl, trivial⟩, ⟨_, _, rfl, ⟨rfl, _, _, _, _, rfl, hN3, hR3, t4, Nat.le_trans t5 (Nat.le_succ _)⟩, S⟩⟩
  by_cases e3 : x.d = 3
  · skip
    refine enter Try.func31 rfl (n := 267) rfl (Nat.le_of_ble_eq_true rfl) fun _ A => ?_
    have S : St _ _ _ (Hm ++ Hr) := S0
    refine wp_seq_k fun K1 hK1 => ?_
    refine region_seq ?_  -- region 0
    refine Lo A rfl (y_boxN (A.g 2 rfl) fun b1 w gG nN ac A => ?_)
    replace S : St _ _ _ ([(b1, .cells #[.int .i64 x.d, .int .i64 x.f, .int .i64 x.t, .int .i64 x.i, .int .i64 x.b, .slice ba x.bs.length bc] 57 (0, 0))] ++ (Hm ++ Hr)) := (S.new gG nN).perm (by first | exact .refl _ | (rw [List.append_assoc]; exact .refl _) | (simp only [List.append_assoc, List.nil_append, List.append_nil]; exact .refl _))
    refine La A rfl (evc _ _) fun _ A => ?_
    replace A := A.only [6, 5, 2, 1, 0] rfl
    refine hK1 _ _ ?_
    refine wp_seq_k fun K2 hK2 => ?_
    refine wp_seq_k fun K3 hK3 => ?_
    refine region_seq ?_  -- region 1
    refine Lo A rfl (y_fieldAddr (off := 0) (j := 0) (by kernel_rfl) (A.g 5 rfl) (by first | rfl | omega) fun _ A => ?_)
    refine Lo A rfl (y_load (by kernel_rfl) (A.g 16 rfl) ((cell_of (S.get 0 rfl) _).trans rfl) fun _ A => ?_)
    replace A := A.only [17, 6, 5, 2, 1, 0] rfl
    refine hK3 _ _ ?_
    refine wp_block ?_
    refine wp_seq_k fun K4 hK4 => ?_
    refine region_seq ?_  -- region 2
    refine Lo A rfl (y_eql (A.g 17 rfl) (evc _ _) (c := false) (by simpa using e0) fun _ A => ?_)
    refine La A rfl (A.g 19 rfl) fun _ A => ?_
    replace A := A.only [18, 17, 6, 5, 2, 1, 0] rfl
    refine hK4 _ _ ?_
    refine wp_cond_false (A.get rfl) ?_
    refine wp_seq_k fun K5 hK5 => ?_
    refine wp_seq_k fun K6 hK6 => ?_
    refine region_seq ?_  -- region 11
    refine Lo A rfl (y_eql (A.g 17 rfl) (evc _ _) (c := false) (by simpa using e1) fun _ A => ?_)
    refine La A rfl (A.g 55 rfl) fun _ A => ?_
    replace A := A.only [54, 18, 17, 6, 5, 2, 1, 0] rfl
    refine hK6 _ _ ?_
    refine wp_cond_false (A.get rfl) ?_
    refine region_seq ?_  -- region 12
    refine Lo A rfl (y_eql (A.g 17 rfl) (evc _ _) (c := false) (by simpa using e2) fun _ A => ?_)
    refine La A rfl (A.g 56 rfl) fun _ A => ?_
    replace A := A.only [54, 18, 17, 6, 5, 2, 1, 0] rfl
    refine hK5 _ _ ?_
    refine wp_cond_false (A.get rfl) ?_
    refine wp_seq_k fun K7 hK7 => ?_
    refine region_seq ?_  -- region 25
    refine Lo A rfl (y_eql (A.g 17 rfl) (evc _ _) (c := true) (by simp [e3]) fun _ A => ?_)
    refine La A rfl (A.g 138 rfl) fun _ A => ?_
    replace A := A.only [137, 54, 18, 17, 6, 5, 2, 1, 0] rfl
    refine hK7 _ _ ?_
    refine wp_cond_true (A.get rfl) ?_
    refine wp_seq_k fun K8 hK8 => ?_
    refine region_drawS A [] [(0, true), (1, true), (2, true), (3, true), (4, true), (5, true), (6, true), (8, true), (9, true), (10, true), (11, true), (12, true), (13, true), (14, true), (7, false), (15, false), (16, false), (17, false)] (by kernel_rfl) (by kernel_rfl) (fun d _ _ _ _ h => by cases d <;> exact h) trivial ?_  -- region 26
    intro ac w A gG nN
    replace S : St _ _ _ ([(b1, .cells #[.int .i64 x.d, .int .i64 x.f, .int .i64 x.t, .int .i64 x.i, .int .i64 x.b, .slice ba x.bs.length bc] 57 (0, 0))] ++ (Hm ++ Hr)) := (S.new gG nN).perm (by first | exact .refl _ | (rw [List.append_assoc]; exact .refl _) | (simp only [List.append_assoc, List.nil_append, List.append_nil]; exact .refl _))
    refine S_pure (fun w1 => Holds w1 [(b1, .cells #[.int .i64 x.d, .int .i64 x.f, .int .i64 x.t, .int .i64 x.i, .int .i64 x.b, .slice ba x.bs.length bc] 57 (0, 0))]) (fun _ _ => trivial) ((Holds.cons (S.get 0 rfl) (Holds.nil _)) : (fun w1 => Holds w1 [(b1, .cells #[.int .i64 x.d, .int .i64 x.f, .int .i64 x.t, .int .i64 x.i, .int .i64 x.b, .slice ba x.bs.length bc] 57 (0, 0))]) _) A rfl (by decide) rfl (fun w1 hR => r_move (A.g 0 rfl)) fun _ A => ?_
    refine S_pure (fun w1 => Holds w1 [(b1, .cells #[.int .i64 x.d, .int .i64 x.f, .int .i64 x.t, .int .i64 x.i, .int .i64 x.b, .slice ba x.bs.length bc] 57 (0, 0))]) (fun _ h => h) ((Holds.cons (S.get 0 rfl) (Holds.nil _)) : (fun w1 => Holds w1 [(b1, .cells #[.int .i64 x.d, .int .i64 x.f, .int .i64 x.t, .int .i64 x.i, .int .i64 x.b, .slice ba x.bs.length bc] 57 (0, 0))]) _) A rfl (by decide) rfl (fun w1 hR => r_fieldAddr (off := 1) (j := 1) (by kernel_rfl) (A.g 5 rfl) (by first | rfl | omega)) fun _ A => ?_
    refine S_pure (fun w1 => Holds w1 [(b1, .cells #[.int .i64 x.d, .int .i64 x.f, .int .i64 x.t, .int .i64 x.i, .int .i64 x.b, .slice ba x.bs.length bc] 57 (0, 0))]) (fun _ h => h) ((Holds.cons (S.get 0 rfl) (Holds.nil _)) : (fun w1 => Holds w1 [(b1, .cells #[.int .i64 x.d, .int .i64 x.f, .int .i64 x.t, .int .i64 x.i, .int .i64 x.b, .slice ba x.bs.length bc] 57 (0, 0))]) _) A rfl (by decide) rfl (fun w1 hR => r_load (by kernel_rfl) (A.g 140 rfl) ((cell_of (hR.at 0 rfl) _).trans rfl)) fun _ A => ?_
    refine S_pure (fun w1 => Holds w1 [(b1, .cells #[.int .i64 x.d, .int .i64 x.f, .int .i64 x.t, .int .i64 x.i, .int .i64 x.b, .slice ba x.bs.length bc] 57 (0, 0))]) (fun _ h => h) ((Holds.cons (S.get 0 rfl) (Holds.nil _)) : (fun w1 => Holds w1 [(b1, .cells #[.int .i64 x.d, .int .i64 x.f, .int .i64 x.t, .int .i64 x.i, .int .i64 x.b, .slice ba x.bs.length bc] 57 (0, 0))]) _) A rfl (by decide) rfl (fun w1 hR => r_fieldAddr (off := 2) (j := 2) (by kernel_rfl) (A.g 5 rfl) (by first | rfl | omega)) fun _ A => ?_
    replace A := A.only [142, 141, 139, 137, 54, 18, 17, 6, 5, 2, 1, 0] rfl
    refine S_pure (fun w1 => Holds w1 [(b1, .cells #[.int .i64 x.d, .int .i64 x.f, .int .i64 x.t, .int .i64 x.i, .int .i64 x.b, .slice ba x.bs.length bc] 57 (0, 0))]) (fun _ h => h) ((Holds.cons (S.get 0 rfl) (Holds.nil _)) : (fun w1 => Holds w1 [(b1, .cells #[.int .i64 x.d, .int .i64 x.f, .int .i64 x.t, .int .i64 x.i, .int .i64 x.b, .slice ba x.bs.length bc] 57 (0, 0))]) _) A rfl (by decide) rfl (fun w1 hR => r_load (by kernel_rfl) (A.g 142 rfl) ((cell_of (hR.at 0 rfl) _).trans rfl)) fun _ A => ?_
    refine S_pure (fun w1 => Holds w1 [(b1, .cells #[.int .i64 x.d, .int .i64 x.f, .int .i64 x.t, .int .i64 x.i, .int .i64 x.b, .slice ba x.bs.length bc] 57 (0, 0))]) (fun _ h => h) ((Holds.cons (S.get 0 rfl) (Holds.nil _)) : (fun w1 => Holds w1 [(b1, .cells #[.int .i64 x.d, .int .i64 x.f, .int .i64 x.t, .int .i64 x.i, .int .i64 x.b, .slice ba x.bs.length bc] 57 (0, 0))]) _) A rfl (by decide) rfl (fun w1 hR => r_fieldAddr (off := 3) (j := 3) (by kernel_rfl) (A.g 5 rfl) (by first | rfl | omega)) fun _ A => ?_
    refine S_pure (fun w1 => Holds w1 [(b1, .cells #[.int .i64 x.d, .int .i64 x.f, .int .i64 x.t, .int .i64 x.i, .int .i64 x.b, .slice ba x.bs.length bc] 57 (0, 0))]) (fun _ h => h) ((Holds.cons (S.get 0 rfl) (Holds.nil _)) : (fun w1 => Holds w1 [(b1, .cells #[.int .i64 x.d, .int .i64 x.f, .int .i64 x.t, .int .i64 x.i, .int .i64 x.b, .slice ba x.bs.length bc] 57 (0, 0))]) _) A rfl (by decide) rfl (fun w1 hR => r_load (by kernel_rfl) (A.g 144 rfl) ((cell_of (hR.at 0 rfl) _).trans rfl)) fun _ A => ?_
    refine S_pure (fun w1 => Holds w1 [(b1, .cells #[.int .i64 x.d, .int .i64 x.f, .int .i64 x.t, .int .i64 x.i, .int .i64 x.b, .slice ba x.bs.length bc] 57 (0, 0))]) (fun _ h => h) ((Holds.cons (S.get 0 rfl) (Holds.nil _)) : (fun w1 => Holds w1 [(b1, .cells #[.int .i64 x.d, .int .i64 x.f, .int .i64 x.t, .int .i64 x.i, .int .i64 x.b, .slice ba x.bs.length bc] 57 (0, 0))]) _) A rfl (by decide) rfl (fun w1 hR => r_move (A.g 1 rfl)) fun _ A => ?_
    refine S_pure (fun w1 => Holds w1 [(b1, .cells #[.int .i64 x.d, .int .i64 x.f, .int .i64 x.t, .int .i64 x.i, .int .i64 x.b, .slice ba x.bs.length bc] 57 (0, 0))]) (fun _ h => h) ((Holds.cons (S.get 0 rfl) (Holds.nil _)) : (fun w1 => Holds w1 [(b1, .cells #[.int .i64 x.d, .int .i64 x.f, .int .i64 x.t, .int .i64 x.i, .int .i64 x.b, .slice ba x.bs.length bc] 57 (0, 0))]) _) A rfl (by decide) rfl (fun w1 hR => r_fieldAddr (off := 1) (j := 1) (by kernel_rfl) (A.g 5 rfl) (by first | rfl | omega)) fun _ A => ?_
    replace A := A.only [148, 147, 145, 143, 141, 139, 137, 54, 18, 17, 6, 5, 2, 1, 0] rfl
    refine S_pure (fun w1 => Holds w1 [(b1, .cells #[.int .i64 x.d, .int .i64 x.f, .int .i64 x.t, .int .i64 x.i, .int .i64 x.b, .slice ba x.bs.length bc] 57 (0, 0))]) (fun _ h => h) ((Holds.cons (S.get 0 rfl) (Holds.nil _)) : (fun w1 => Holds w1 [(b1, .cells #[.int .i64 x.d, .int .i64 x.f, .int .i64 x.t, .int .i64 x.i, .int .i64 x.b, .slice ba x.bs.length bc] 57 (0, 0))]) _) A rfl (by decide) rfl (fun w1 hR => r_load (by kernel_rfl) (A.g 148 rfl) ((cell_of (hR.at 0 rfl) _).trans rfl)) fun _ A => ?_
    refine S_pure (fun w1 => Holds w1 [(b1, .cells #[.int .i64 x.d, .int .i64 x.f, .int .i64 x.t, .int .i64 x.i, .int .i64 x.b, .slice ba x.bs.length bc] 57 (0, 0))]) (fun _ h => h) ((Holds.cons (S.get 0 rfl) (Holds.nil _)) : (fun w1 => Holds w1 [(b1, .cells #[.int .i64 x.d, .int .i64 x.f, .int .i64 x.t, .int .i64 x.i, .int .i64 x.b, .slice ba x.bs.length bc] 57 (0, 0))]) _) A rfl (by decide) rfl (fun w1 hR => r_fieldAddr (off := 2) (j := 2) (by kernel_rfl) (A.g 5 rfl) (by first | rfl | omega)) fun _ A => ?_
    refine S_pure (fun w1 => Holds w1 [(b1, .cells #[.int .i64 x.d, .int .i64 x.f, .int .i64 x.t, .int .i64 x.i, .int .i64 x.b, .slice ba x.bs.length bc] 57 (0, 0))]) (fun _ h => h) ((Holds.cons (S.get 0 rfl) (Holds.nil _)) : (fun w1 => Holds w1 [(b1, .cells #[.int .i64 x.d, .int .i64 x.f, .int .i64 x.t, .int .i64 x.i, .int .i64 x.b, .slice ba x.bs.length bc] 57 (0, 0))]) _) A rfl (by decide) rfl (fun w1 hR => r_load (by kernel_rfl) (A.g 150 rfl) ((cell_of (hR.at 0 rfl) _).trans rfl)) fun _ A => ?_
    refine S_pure (fun w1 => Holds w1 [(b1, .cells #[.int .i64 x.d, .int .i64 x.f, .int .i64 x.t, .int .i64 x.i, .int .i64 x.b, .slice ba x.bs.length bc] 57 (0, 0))]) (fun _ h => h) ((Holds.cons (S.get 0 rfl) (Holds.nil _)) : (fun w1 => Holds w1 [(b1, .cells #[.int .i64 x.d, .int .i64 x.f, .int .i64 x.t, .int .i64 x.i, .int .i64 x.b, .slice ba x.bs.length bc] 57 (0, 0))]) _) A rfl (by decide) rfl (fun w1 hR => r_fieldAddr (off := 3) (j := 3) (by kernel_rfl) (A.g 5 rfl) (by first | rfl | omega)) fun _ A => ?_
    refine S_pure (fun w1 => Holds w1 [(b1, .cells #[.int .i64 x.d, .int .i64 x.f, .int .i64 x.t, .int .i64 x.i, .int .i64 x.b, .slice ba x.bs.length bc] 57 (0, 0))]) (fun _ h => h) ((Holds.cons (S.get 0 rfl) (Holds.nil _)) : (fun w1 => Holds w1 [(b1, .cells #[.int .i64 x.d, .int .i64 x.f, .int .i64 x.t, .int .i64 x.i, .int .i64 x.b, .slice ba x.bs.length bc] 57 (0, 0))]) _) A rfl (by decide) rfl (fun w1 hR => r_load (by kernel_rfl) (A.g 152 rfl) ((cell_of (hR.at 0 rfl) _).trans rfl)) fun _ A => ?_
    replace A := A.only [153, 151, 149, 147, 145, 143, 141, 139, 137, 54, 18, 17, 6, 5, 2, 1, 0] rfl
    have hR := ((Holds.cons (S.get 0 rfl) (Holds.nil _)) : (fun w1 => Holds w1 [(b1, .cells #[.int .i64 x.d, .int .i64 x.f, .int .i64 x.t, .int .i64 x.i, .int .i64 x.b, .slice ba x.bs.length bc] 57 (0, 0))]) _)
    obtain ⟨t1, t2, t3, t4, t5⟩ := hs.take x.f x.t x.i
    have sm := (St.app_left (H := Hm) (K := ([(b1, .cells #[.int .i64 x.d, .int .i64 x.f, .int .i64 x.t, .int .i64 x.i, .int .i64 x.b, .slice ba x.bs.length bc] 57 (0, 0))] ++ Hr)) (S.perm (by classical rw [List.perm_iff_count]; intro x; simp only [List.count_append, List.count_cons, List.count_nil] <;> omega)))
    have c1 := drop_ok (i := x.i) hN sm.nd sm.holds okf okt
    rw [t2] at c1
    replace S : St _ _ _ (Hm ++ ([(b1, .cells #[.int .i64 x.d, .int .i64 x.f, .int .i64 x.t, .int .i64 x.i, .int .i64 x.b, .slice ba x.bs.length bc] 57 (0, 0))] ++ Hr)) := S.perm (by classical rw [List.perm_iff_count]; intro x; simp only [List.count_append, List.count_cons, List.count_nil] <;> omega)
    refine S_op A hR rfl (by decide) rfl (y_call4 (by kernel_rfl) rfl (A.g 139 rfl) (A.g 141 rfl) (A.g 143 rfl) (A.g 145 rfl) (callW (c1) fun v w Hm2 s hf ac A => ?_))
    replace S : St _ _ _ (Hm2 ++ ([(b1, .cells #[.int .i64 x.d, .int .i64 x.f, .int .i64 x.t, .int .i64 x.i, .int .i64 x.b, .slice ba x.bs.length bc] 57 (0, 0))] ++ Hr)) := St.call (H := Hm) (R := ([(b1, .cells #[.int .i64 x.d, .int .i64 x.f, .int .i64 x.t, .int .i64 x.i, .int .i64 x.b, .slice ba x.bs.length bc] 57 (0, 0))] ++ Hr)) S rfl s
    obtain ⟨rfl, hN2⟩ := hf
    replace S : St _ _ _ ([(b1, .cells #[.int .i64 x.d, .int .i64 x.f, .int .i64 x.t, .int .i64 x.i, .int .i64 x.b, .slice ba x.bs.length bc] 57 (0, 0))] ++ (Hm2 ++ Hr)) := S.perm (by classical rw [List.perm_iff_count]; intro x; simp only [List.count_append, List.count_cons, List.count_nil] <;> omega)
    have hR := ((Holds.cons (S.get 0 rfl) (Holds.nil _)) : (fun w1 => Holds w1 [(b1, .cells #[.int .i64 x.d, .int .i64 x.f, .int .i64 x.t, .int .i64 x.i, .int .i64 x.b, .slice ba x.bs.length bc] 57 (0, 0))]) _)
    have sr := (St.app_left (H := Hr) (K := ([(b1, .cells #[.int .i64 x.d, .int .i64 x.f, .int .i64 x.t, .int .i64 x.i, .int .i64 x.b, .slice ba x.bs.length bc] 57 (0, 0))] ++ Hm2)) (S.perm (by classical rw [List.perm_iff_count]; intro x; simp only [List.count_append, List.count_cons, List.count_nil] <;> omega)))
    have c2 := rdrop_ok (a := x.f) (b := x.t) (i := x.i) hR0 sr.nd sr.holds hw
    rw [t3] at c2
    replace S : St _ _ _ (Hr ++ ([(b1, .cells #[.int .i64 x.d, .int .i64 x.f, .int .i64 x.t, .int .i64 x.i, .int .i64 x.b, .slice ba x.bs.length bc] 57 (0, 0))] ++ Hm2)) := S.perm (by classical rw [List.perm_iff_count]; intro x; simp only [List.count_append, List.count_cons, List.count_nil] <;> omega)
    refine S_op A hR rfl (by decide) rfl (y_call4 (by kernel_rfl) rfl (A.g 147 rfl) (A.g 149 rfl) (A.g 151 rfl) (A.g 153 rfl) (callW (c2) fun v w Hr2 s hf ac A => ?_))
    replace S : St _ _ _ (Hr2 ++ ([(b1, .cells #[.int .i64 x.d, .int .i64 x.f, .int .i64 x.t, .int .i64 x.i, .int .i64 x.b, .slice ba x.bs.length bc] 57 (0, 0))] ++ Hm2)) := St.call (H := Hr) (R := ([(b1, .cells #[.int .i64 x.d, .int .i64 x.f, .int .i64 x.t, .int .i64 x.i, .int .i64 x.b, .slice ba x.bs.length bc] 57 (0, 0))] ++ Hm2)) S rfl s
    obtain ⟨rfl, hR2⟩ := hf
    replace S : St _ _ _ ([(b1, .cells #[.int .i64 x.d, .int .i64 x.f, .int .i64 x.t, .int .i64 x.i, .int .i64 x.b, .slice ba x.bs.length bc] 57 (0, 0))] ++ (Hr2 ++ Hm2)) := S.perm (by classical rw [List.perm_iff_count]; intro x; simp only [List.count_append, List.count_cons, List.count_nil] <;> omega)
    have hR := ((Holds.cons (S.get 0 rfl) (Holds.nil _)) : (fun w1 => Holds w1 [(b1, .cells #[.int .i64 x.d, .int .i64 x.f, .int .i64 x.t, .int .i64 x.i, .int .i64 x.b, .slice ba x.bs.length bc] 57 (0, 0))]) _)
    refine S_op A hR rfl (by decide) rfl (y_eql (A.g 146 rfl) (A.g 154 rfl) (c := true) (by simp) fun _ A => ?_)
    have hR := ((Holds.cons (S.get 0 rfl) (Holds.nil _)) : (fun w1 => Holds w1 [(b1, .cells #[.int .i64 x.d, .int .i64 x.f, .int .i64 x.t, .int .i64 x.i, .int .i64 x.b, .slice ba x.bs.length bc] 57 (0, 0))]) _)
    refine S_op A hR rfl (by decide) rfl (y_assign (A.g 155 rfl) fun _ A => ?_)
    refine S_end ((Holds.cons (S.get 0 rfl) (Holds.nil _)) : (fun w1 => Holds w1 [(b1, .cells #[.int .i64 x.d, .int .i64 x.f, .int .i64 x.t, .int .i64 x.i, .int .i64 x.b, .slice ba x.bs.length bc] 57 (0, 0))]) _) ?_
    replace A := A.only [137, 54, 18, 17, 6, 5, 2, 1, 0] rfl
    refine hK8 _ _ ?_
    replace S : St _ _ _ (Hm2 ++ Hr2) := St.app_left (K := [(b1, .cells #[.int .i64 x.d, .int .i64 x.f, .int .i64 x.t, .int .i64 x.i, .int .i64 x.b, .slice ba x.bs.length bc] 57 (0, 0))]) (S.perm (by classical rw [List.perm_iff_count]; intro x; simp only [List.count_append, List.count_cons, List.count_nil] <;> omega))
    exact wp_ret ⟨A.defers, _, res_run (rs := [.tmp 6]) (vs := [.bool true]) rfl ⟨A.get rfl, trivial⟩, ⟨_, _, rfl, ⟨rfl, _, _, _, _, rfl, hN2, hR2, t4, Nat.le_trans t5 (Nat.le_succ _)⟩, S⟩⟩
  by_cases e4 : x.d = 4
  · skip
    refine enter Try.func31 rfl (n := 267) rfl (Nat.le_of_ble_eq_true rfl) fun _ A => ?_
    have S : St _ _ _ (Hm ++ Hr) := S0
    refine wp_seq_k fun K1 hK1 => ?_
    refine region_seq ?_  -- region 0
    refine Lo A rfl (y_boxN (A.g 2 rfl) fun b1 w gG nN ac A => ?_)
    replace S : St _ _ _ ([(b1, .cells #[.int .i64 x.d, .int .i64 x.f, .int .i64 x.t, .int .i64 x.i, .int .i64 x.b, .slice ba x.bs.length bc] 57 (0, 0))] ++ (Hm ++ Hr)) := (S.new gG nN).perm (by first | exact .refl _ | (rw [List.append_assoc]; exact .refl _) | (simp only [List.append_assoc, List.nil_append, List.append_nil]; exact .refl _))
    refine La A rfl (evc _ _) fun _ A => ?_
    replace A := A.only [6, 5, 2, 1, 0] rfl
    refine hK1 _ _ ?_
    refine wp_seq_k fun K2 hK2 => ?_
    refine wp_seq_k fun K3 hK3 => ?_
    refine region_seq ?_  -- region 1
    refine Lo A rfl (y_fieldAddr (off := 0) (j := 0) (by kernel_rfl) (A.g 5 rfl) (by first | rfl | omega) fun _ A => ?_)
    refine Lo A rfl (y_load (by kernel_rfl) (A.g 16 rfl) ((cell_of (S.get 0 rfl) _).trans rfl) fun _ A => ?_)
    replace A := A.only [17, 6, 5, 2, 1, 0] rfl
    refine hK3 _ _ ?_
    refine wp_block ?_
    refine wp_seq_k fun K4 hK4 => ?_
    refine region_seq ?_  -- region 2
    refine Lo A rfl (y_eql (A.g 17 rfl) (evc _ _) (c := false) (by simpa using e0) fun _ A => ?_)
    refine La A rfl (A.g 19 rfl) fun _ A => ?_
    replace A := A.only [18, 17, 6, 5, 2, 1, 0] rfl
    refine hK4 _ _ ?_
    refine wp_cond_false (A.get rfl) ?_
    refine wp_seq_k fun K5 hK5 => ?_
    refine wp_seq_k fun K6 hK6 => ?_
    refine region_seq ?_  -- region 11
    refine Lo A rfl (y_eql (A.g 17 rfl) (evc _ _) (c := false) (by simpa using e1) fun _ A => ?_)
    refine La A rfl (A.g 55 rfl) fun _ A => ?_
    replace A := A.only [54, 18, 17, 6, 5, 2, 1, 0] rfl
    refine hK6 _ _ ?_
    refine wp_cond_false (A.get rfl) ?_
    refine region_seq ?_  -- region 12
    refine Lo A rfl (y_eql (A.g 17 rfl) (evc _ _) (c := false) (by simpa using e2) fun _ A => ?_)
    refine La A rfl (A.g 56 rfl) fun _ A => ?_
    replace A := A.only [54, 18, 17, 6, 5, 2, 1, 0] rfl
    refine hK5 _ _ ?_
    refine wp_cond_false (A.get rfl) ?_
    refine wp_seq_k fun K7 hK7 => ?_
    refine region_seq ?_  -- region 25
    refine Lo A rfl (y_eql (A.g 17 rfl) (evc _ _) (c := false) (by simpa using e3) fun _ A => ?_)
    refine La A rfl (A.g 138 rfl) fun _ A => ?_
    replace A := A.only [137, 54, 18, 17, 6, 5, 2, 1, 0] rfl
    refine hK7 _ _ ?_
    refine wp_cond_false (A.get rfl) ?_
    refine wp_seq_k fun K8 hK8 => ?_
    refine region_seq ?_  -- region 27
    refine Lo A rfl (y_eql (A.g 17 rfl) (evc _ _) (c := true) (by simp [e4]) fun _ A => ?_)
    refine La A rfl (A.g 157 rfl) fun _ A => ?_
    replace A := A.only [156, 137, 54, 18, 17, 6, 5, 2, 1, 0] rfl
    refine hK8 _ _ ?_
    refine wp_cond_true (A.get rfl) ?_
    refine wp_seq_k fun K9 hK9 => ?_
    refine region_drawS A [] [(0, true), (1, true), (2, true), (3, true), (4, true), (5, true), (6, true), (8, true), (9, true), (10, true), (11, true), (12, true), (13, true), (14, true), (7, false), (15, false), (16, false), (17, false)] (by kernel_rfl) (by kernel_rfl) (fun d _ _ _ _ h => by cases d <;> exact h) trivial ?_  -- region 28
    intro ac w A gG nN
    replace S : St _ _ _ ([(b1, .cells #[.int .i64 x.d, .int .i64 x.f, .int .i64 x.t, .int .i64 x.i, .int .i64 x.b, .slice ba x.bs.length bc] 57 (0, 0))] ++ (Hm ++ Hr)) := (S.new gG nN).perm (by first | exact .refl _ | (rw [List.append_assoc]; exact .refl _) | (simp only [List.append_assoc, List.nil_append, List.append_nil]; exact .refl _))
    refine S_pure (fun w1 => Holds w1 [(b1, .cells #[.int .i64 x.d, .int .i64 x.f, .int .i64 x.t, .int .i64 x.i, .int .i64 x.b, .slice ba x.bs.length bc] 57 (0, 0))]) (fun _ _ => trivial) ((Holds.cons (S.get 0 rfl) (Holds.nil _)) : (fun w1 => Holds w1 [(b1, .cells #[.int .i64 x.d, .int .i64 x.f, .int .i64 x.t, .int .i64 x.i, .int .i64 x.b, .slice ba x.bs.length bc] 57 (0, 0))]) _) A rfl (by decide) rfl (fun w1 hR => r_move (A.g 0 rfl)) fun _ A => ?_
    refine S_pure (fun w1 => Holds w1 [(b1, .cells #[.int .i64 x.d, .int .i64 x.f, .int .i64 x.t, .int .i64 x.i, .int .i64 x.b, .slice ba x.bs.length bc] 57 (0, 0))]) (fun _ h => h) ((Holds.cons (S.get 0 rfl) (Holds.nil _)) : (fun w1 => Holds w1 [(b1, .cells #[.int .i64 x.d, .int .i64 x.f, .int .i64 x.t, .int .i64 x.i, .int .i64 x.b, .slice ba x.bs.length bc] 57 (0, 0))]) _) A rfl (by decide) rfl (fun w1 hR => r_fieldAddr (off := 1) (j := 1) (by kernel_rfl) (A.g 5 rfl) (by first | rfl | omega)) fun _ A => ?_
    refine S_pure (fun w1 => Holds w1 [(b1, .cells #[.int .i64 x.d, .int .i64 x.f, .int .i64 x.t, .int .i64 x.i, .int .i64 x.b, .slice ba x.bs.length bc] 57 (0, 0))]) (fun _ h => h) ((Holds.cons (S.get 0 rfl) (Holds.nil _)) : (fun w1 => Holds w1 [(b1, .cells #[.int .i64 x.d, .int .i64 x.f, .int .i64 x.t, .int .i64 x.i, .int .i64 x.b, .slice ba x.bs.length bc] 57 (0, 0))]) _) A rfl (by decide) rfl (fun w1 hR => r_load (by kernel_rfl) (A.g 159 rfl) ((cell_of (hR.at 0 rfl) _).trans rfl)) fun _ A => ?_
    refine S_pure (fun w1 => Holds w1 [(b1, .cells #[.int .i64 x.d, .int .i64 x.f, .int .i64 x.t, .int .i64 x.i, .int .i64 x.b, .slice ba x.bs.length bc] 57 (0, 0))]) (fun _ h => h) ((Holds.cons (S.get 0 rfl) (Holds.nil _)) : (fun w1 => Holds w1 [(b1, .cells #[.int .i64 x.d, .int .i64 x.f, .int .i64 x.t, .int .i64 x.i, .int .i64 x.b, .slice ba x.bs.length bc] 57 (0, 0))]) _) A rfl (by decide) rfl (fun w1 hR => r_fieldAddr (off := 2) (j := 2) (by kernel_rfl) (A.g 5 rfl) (by first | rfl | omega)) fun _ A => ?_
    replace A := A.only [161, 160, 158, 156, 137, 54, 18, 17, 6, 5, 2, 1, 0] rfl
    refine S_pure (fun w1 => Holds w1 [(b1, .cells #[.int .i64 x.d, .int .i64 x.f, .int .i64 x.t, .int .i64 x.i, .int .i64 x.b, .slice ba x.bs.length bc] 57 (0, 0))]) (fun _ h => h) ((Holds.cons (S.get 0 rfl) (Holds.nil _)) : (fun w1 => Holds w1 [(b1, .cells #[.int .i64 x.d, .int .i64 x.f, .int .i64 x.t, .int .i64 x.i, .int .i64 x.b, .slice ba x.bs.length bc] 57 (0, 0))]) _) A rfl (by decide) rfl (fun w1 hR => r_load (by kernel_rfl) (A.g 161 rfl) ((cell_of (hR.at 0 rfl) _).trans rfl)) fun _ A => ?_
    refine S_pure (fun w1 => Holds w1 [(b1, .cells #[.int .i64 x.d, .int .i64 x.f, .int .i64 x.t, .int .i64 x.i, .int .i64 x.b, .slice ba x.bs.length bc] 57 (0, 0))]) (fun _ h => h) ((Holds.cons (S.get 0 rfl) (Holds.nil _)) : (fun w1 => Holds w1 [(b1, .cells #[.int .i64 x.d, .int .i64 x.f, .int .i64 x.t, .int .i64 x.i, .int .i64 x.b, .slice ba x.bs.length bc] 57 (0, 0))]) _) A rfl (by decide) rfl (fun w1 hR => r_fieldAddr (off := 3) (j := 3) (by kernel_rfl) (A.g 5 rfl) (by first | rfl | omega)) fun _ A => ?_
    refine S_pure (fun w1 => Holds w1 [(b1, .cells #[.int .i64 x.d, .int .i64 x.f, .int .i64 x.t, .int .i64 x.i, .int .i64 x.b, .slice ba x.bs.length bc] 57 (0, 0))]) (fun _ h => h) ((Holds.cons (S.get 0 rfl) (Holds.nil _)) : (fun w1 => Holds w1 [(b1, .cells #[.int .i64 x.d, .int .i64 x.f, .int .i64 x.t, .int .i64 x.i, .int .i64 x.b, .slice ba x.bs.length bc] 57 (0, 0))]) _) A rfl (by decide) rfl (fun w1 hR => r_load (by kernel_rfl) (A.g 163 rfl) ((cell_of (hR.at 0 rfl) _).trans rfl)) fun _ A => ?_
    refine S_pure (fun w1 => Holds w1 [(b1, .cells #[.int .i64 x.d, .int .i64 x.f, .int .i64 x.t, .int .i64 x.i, .int .i64 x.b, .slice ba x.bs.length bc] 57 (0, 0))]) (fun _ h => h) ((Holds.cons (S.get 0 rfl) (Holds.nil _)) : (fun w1 => Holds w1 [(b1, .cells #[.int .i64 x.d, .int .i64 x.f, .int .i64 x.t, .int .i64 x.i, .int .i64 x.b, .slice ba x.bs.length bc] 57 (0, 0))]) _) A rfl (by decide) rfl (fun w1 hR => r_move (A.g 1 rfl)) fun _ A => ?_
    refine S_pure (fun w1 => Holds w1 [(b1, .cells #[.int .i64 x.d, .int .i64 x.f, .int .i64 x.t, .int .i64 x.i, .int .i64 x.b, .slice ba x.bs.length bc] 57 (0, 0))]) (fun _ h => h) ((Holds.cons (S.get 0 rfl) (Holds.nil _)) : (fun w1 => Holds w1 [(b1, .cells #[.int .i64 x.d, .int .i64 x.f, .int .i64 x.t, .int .i64 x.i, .int .i64 x.b, .slice ba x.bs.length bc] 57 (0, 0))]) _) A rfl (by decide) rfl (fun w1 hR => r_fieldAddr (off := 1) (j := 1) (by kernel_rfl) (A.g 5 rfl) (by first | rfl | omega)) fun _ A => ?_
    replace A := A.only [167, 166, 164, 162, 160, 158, 156, 137, 54, 18, 17, 6, 5, 2, 1, 0] rfl
    refine S_pure (fun w1 => Holds w1 [(b1, .cells #[.int .i64 x.d, .int .i64 x.f, .int .i64 x.t, .int .i64 x.i, .int .i64 x.b, .slice ba x.bs.length bc] 57 (0, 0))]) (fun _ h => h) ((Holds.cons (S.get 0 rfl) (Holds.nil _)) : (fun w1 => Holds w1 [(b1, .cells #[.int .i64 x.d, .int .i64 x.f, .int .i64 x.t, .int .i64 x.i, .int .i64 x.b, .slice ba x.bs.length bc] 57 (0, 0))]) _) A rfl (by decide) rfl (fun w1 hR => r_load (by kernel_rfl) (A.g 167 rfl) ((cell_of (hR.at 0 rfl) _).trans rfl)) fun _ A => ?_
    refine S_pure (fun w1 => Holds w1 [(b1, .cells #[.int .i64 x.d, .int .i64 x.f, .int .i64 x.t, .int .i64 x.i, .int .i64 x.b, .slice ba x.bs.length bc] 57 (0, 0))]) (fun _ h => h) ((Holds.cons (S.get 0 rfl) (Holds.nil _)) : (fun w1 => Holds w1 [(b1, .cells #[.int .i64 x.d, .int .i64 x.f, .int .i64 x.t, .int .i64 x.i, .int .i64 x.b, .slice ba x.bs.length bc] 57 (0, 0))]) _) A rfl (by decide) rfl (fun w1 hR => r_fieldAddr (off := 2) (j := 2) (by kernel_rfl) (A.g 5 rfl) (by first | rfl | omega)) fun _ A => ?_
    refine S_pure (fun w1 => Holds w1 [(b1, .cells #[.int .i64 x.d, .int .i64 x.f, .int .i64 x.t, .int .i64 x.i, .int .i64 x.b, .slice ba x.bs.length bc] 57 (0, 0))]) (fun _ h => h) ((Holds.cons (S.get 0 rfl) (Holds.nil _)) : (fun w1 => Holds w1 [(b1, .cells #[.int .i64 x.d, .int .i64 x.f, .int .i64 x.t, .int .i64 x.i, .int .i64 x.b, .slice ba x.bs.length bc] 57 (0, 0))]) _) A rfl (by decide) rfl (fun w1 hR => r_load (by kernel_rfl) (A.g 169 rfl) ((cell_of (hR.at 0 rfl) _).trans rfl)) fun _ A => ?_
    refine S_pure (fun w1 => Holds w1 [(b1, .cells #[.int .i64 x.d, .int .i64 x.f, .int .i64 x.t, .int .i64 x.i, .int .i64 x.b, .slice ba x.bs.length bc] 57 (0, 0))]) (fun _ h => h) ((Holds.cons (S.get 0 rfl) (Holds.nil _)) : (fun w1 => Holds w1 [(b1, .cells #[.int .i64 x.d, .int .i64 x.f, .int .i64 x.t, .int .i64 x.i, .int .i64 x.b, .slice ba x.bs.length bc] 57 (0, 0))]) _) A rfl (by decide) rfl (fun w1 hR => r_fieldAddr (off := 3) (j := 3) (by kernel_rfl) (A.g 5 rfl) (by first | rfl | omega)) fun _ A => ?_
    refine S_pure (fun w1 => Holds w1 [(b1, .cells #[.int .i64 x.d, .int .i64 x.f, .int .i64 x.t, .int .i64 x.i, .int .i64 x.b, .slice ba x.bs.length bc] 57 (0, 0))]) (fun _ h => h) ((Holds.cons (S.get 0 rfl) (Holds.nil _)) : (fun w1 => Holds w1 [(b1, .cells #[.int .i64 x.d, .int .i64 x.f, .int .i64 x.t, .int .i64 x.i, .int .i64 x.b, .slice ba x.bs.length bc] 57 (0, 0))]) _) A rfl (by decide) rfl (fun w1 hR => r_load (by kernel_rfl) (A.g 171 rfl) ((cell_of (hR.at 0 rfl) _).trans rfl)) fun _ A => ?_
    replace A := A.only [172, 170, 168, 166, 164, 162, 160, 158, 156, 137, 54, 18, 17, 6, 5, 2, 1, 0] rfl
    have hR := ((Holds.cons (S.get 0 rfl) (Holds.nil _)) : (fun w1 => Holds w1 [(b1, .cells #[.int .i64 x.d, .int .i64 x.f, .int .i64 x.t, .int .i64 x.i, .int .i64 x.b, .slice ba x.bs.length bc] 57 (0, 0))]) _)
    obtain ⟨t1, t2, t3⟩ := hs.double x.f x.t x.i
    have sm := (St.app_left (H := Hm) (K := ([(b1, .cells #[.int .i64 x.d, .int .i64 x.f, .int .i64 x.t, .int .i64 x.i, .int .i64 x.b, .slice ba x.bs.length bc] 57 (0, 0))] ++ Hr)) (S.perm (by classical rw [List.perm_iff_count]; intro x; simp only [List.count_append, List.count_cons, List.count_nil] <;> omega)))
    have c1 := double_ok (i := x.i) hN sm.nd sm.holds okf okt
    rw [t1] at c1
    replace S : St _ _ _ (Hm ++ ([(b1, .cells #[.int .i64 x.d, .int .i64 x.f, .int .i64 x.t, .int .i64 x.i, .int .i64 x.b, .slice ba x.bs.length bc] 57 (0, 0))] ++ Hr)) := S.perm (by classical rw [List.perm_iff_count]; intro x; simp only [List.count_append, List.count_cons, List.count_nil] <;> omega)
    refine S_op A hR rfl (by decide) rfl (y_call4 (by kernel_rfl) rfl (A.g 158 rfl) (A.g 160 rfl) (A.g 162 rfl) (A.g 164 rfl) (callW (c1) fun v w Hm2 s hf ac A => ?_))
    replace S : St _ _ _ (Hm2 ++ ([(b1, .cells #[.int .i64 x.d, .int .i64 x.f, .int .i64 x.t, .int .i64 x.i, .int .i64 x.b, .slice ba x.bs.length bc] 57 (0, 0))] ++ Hr)) := St.call (H := Hm) (R := ([(b1, .cells #[.int .i64 x.d, .int .i64 x.f, .int .i64 x.t, .int .i64 x.i, .int .i64 x.b, .slice ba x.bs.length bc] 57 (0, 0))] ++ Hr)) S rfl s
    obtain ⟨rfl, hN2⟩ := hf
    replace S : St _ _ _ ([(b1, .cells #[.int .i64 x.d, .int .i64 x.f, .int .i64 x.t, .int .i64 x.i, .int .i64 x.b, .slice ba x.bs.length bc] 57 (0, 0))] ++ (Hm2 ++ Hr)) := S.perm (by classical rw [List.perm_iff_count]; intro x; simp only [List.count_append, List.count_cons, List.count_nil] <;> omega)
    have hR := ((Holds.cons (S.get 0 rfl) (Holds.nil _)) : (fun w1 => Holds w1 [(b1, .cells #[.int .i64 x.d, .int .i64 x.f, .int .i64 x.t, .int .i64 x.i, .int .i64 x.b, .slice ba x.bs.length bc] 57 (0, 0))]) _)
    have sr := (St.app_left (H := Hr) (K := ([(b1, .cells #[.int .i64 x.d, .int .i64 x.f, .int .i64 x.t, .int .i64 x.i, .int .i64 x.b, .slice ba x.bs.length bc] 57 (0, 0))] ++ Hm2)) (S.perm (by classical rw [List.perm_iff_count]; intro x; simp only [List.count_append, List.count_cons, List.count_nil] <;> omega)))
    have c2 := rdouble_ok (a := x.f) (b := x.t) (i := x.i) hR0 sr.nd sr.holds hw
    replace S : St _ _ _ (Hr ++ ([(b1, .cells #[.int .i64 x.d, .int .i64 x.f, .int .i64 x.t, .int .i64 x.i, .int .i64 x.b, .slice ba x.bs.length bc] 57 (0, 0))] ++ Hm2)) := S.perm (by classical rw [List.perm_iff_count]; intro x; simp only [List.count_append, List.count_cons, List.count_nil] <;> omega)
    refine S_op A hR rfl (by decide) rfl (y_call4 (by kernel_rfl) rfl (A.g 166 rfl) (A.g 168 rfl) (A.g 170 rfl) (A.g 172 rfl) (callW (c2) fun v w Hr2 s hf ac A => ?_))
    replace S : St _ _ _ (Hr2 ++ ([(b1, .cells #[.int .i64 x.d, .int .i64 x.f, .int .i64 x.t, .int .i64 x.i, .int .i64 x.b, .slice ba x.bs.length bc] 57 (0, 0))] ++ Hm2)) := St.call (H := Hr) (R := ([(b1, .cells #[.int .i64 x.d, .int .i64 x.f, .int .i64 x.t, .int .i64 x.i, .int .i64 x.b, .slice ba x.bs.length bc] 57 (0, 0))] ++ Hm2)) S rfl s
    obtain ⟨rfl, hR2⟩ := hf
    replace S : St _ _ _ ([(b1, .cells #[.int .i64 x.d, .int .i64 x.f, .int .i64 x.t, .int .i64 x.i, .int .i64 x.b, .slice ba x.bs.length bc] 57 (0, 0))] ++ (Hr2 ++ Hm2)) := S.perm (by classical rw [List.perm_iff_count]; intro x; simp only [List.count_append, List.count_cons, List.count_nil] <;> omega)
    have hR := ((Holds.cons (S.get 0 rfl) (Holds.nil _)) : (fun w1 => Holds w1 [(b1, .cells #[.int .i64 x.d, .int .i64 x.f, .int .i64 x.t, .int .i64 x.i, .int .i64 x.b, .slice ba x.bs.length bc] 57 (0, 0))]) _)
    refine S_op A hR rfl (by decide) rfl (y_eql (A.g 165 rfl) (A.g 173 rfl) (c := true) (by simp) fun _ A => ?_)
    have hR := ((Holds.cons (S.get 0 rfl) (Holds.nil _)) : (fun w1 => Holds w1 [(b1, .cells #[.int .i64 x.d, .int .i64 x.f, .int .i64 x.t, .int .i64 x.i, .int .i64 x.b, .slice ba x.bs.length bc] 57 (0, 0))]) _)
    refine S_op A hR rfl (by decide) rfl (y_assign (A.g 174 rfl) fun _ A => ?_)
    refine S_end ((Holds.cons (S.get 0 rfl) (Holds.nil _)) : (fun w1 => Holds w1 [(b1, .cells #[.int .i64 x.d, .int .i64 x.f, .int .i64 x.t, .int .i64 x.i, .int .i64 x.b, .slice ba x.bs.length bc] 57 (0, 0))]) _) ?_
    replace A := A.only [156, 137, 54, 18, 17, 6, 5, 2, 1, 0] rfl
    refine hK9 _ _ ?_
    replace S : St _ _ _ (Hm2 ++ Hr2) := St.app_left (K := [(b1, .cells #[.int .i64 x.d, .int .i64 x.f, .int .i64 x.t, .int .i64 x.i, .int .i64 x.b, .slice ba x.bs.length bc] 57 (0, 0))]) (S.perm (by classical rw [List.perm_iff_count]; intro x; simp only [List.count_append, List.count_cons, List.count_nil] <;> omega))
    exact wp_ret ⟨A.defers, _, res_run (rs := [.tmp 6]) (vs := [.bool true]) rfl ⟨A.get rfl, trivial⟩, ⟨_, _, rfl, ⟨rfl, _, _, _, _, rfl, hN2, hR2, t2, t3⟩, S⟩⟩
  by_cases e5 : x.d = 5
  · skip
    refine enter Try.func31 rfl (n := 267) rfl (Nat.le_of_ble_eq_true rfl) fun _ A => ?_
    have S : St _ _ _ (Hm ++ Hr) := S0
    refine wp_seq_k fun K1 hK1 => ?_
    refine region_seq ?_  -- region 0
    refine Lo A rfl (y_boxN (A.g 2 rfl) fun b1 w gG nN ac A => ?_)
    replace S : St _ _ _ ([(b1, .cells #[.int .i64 x.d, .int .i64 x.f, .int .i64 x.t, .int .i64 x.i, .int .i64 x.b, .slice ba x.bs.length bc] 57 (0, 0))] ++ (Hm ++ Hr)) := (S.new gG nN).perm (by first | exact .refl _ | (rw [List.append_assoc]; exact .refl _) | (simp only [List.append_assoc, List.nil_append, List.append_nil]; exact .refl _))
    refine La A rfl (evc _ _) fun _ A => ?_
    replace A := A.only [6, 5, 2, 1, 0] rfl
    refine hK1 _ _ ?_
    refine wp_seq_k fun K2 hK2 => ?_
    refine wp_seq_k fun K3 hK3 => ?_
    refine region_seq ?_  -- region 1
    refine Lo A rfl (y_fieldAddr (off := 0) (j := 0) (by kernel_rfl) (A.g 5 rfl) (by first | rfl | omega) fun _ A => ?_)
    refine Lo A rfl (y_load (by kernel_rfl) (A.g 16 rfl) ((cell_of (S.get 0 rfl) _).trans rfl) fun _ A => ?_)
    replace A := A.only [17, 6, 5, 2, 1, 0] rfl
    refine hK3 _ _ ?_
    refine wp_block ?_
    refine wp_seq_k fun K4 hK4 => ?_
    refine region_seq ?_  -- region 2
    refine Lo A rfl (y_eql (A.g 17 rfl) (evc _ _) (c := false) (by simpa using e0) fun _ A => ?_)
    refine La A rfl (A.g 19 rfl) fun _ A => ?_
    replace A := A.only [18, 17, 6, 5, 2, 1, 0] rfl
    refine hK4 _ _ ?_
    refine wp_cond_false (A.get rfl) ?_
    refine wp_seq_k fun K5 hK5 => ?_
    refine wp_seq_k fun K6 hK6 => ?_
    refine region_seq ?_  -- region 11
    refine Lo A rfl (y_eql (A.g 17 rfl) (evc _ _) (c := false) (by simpa using e1) fun _ A => ?_)
    refine La A rfl (A.g 55 rfl) fun _ A => ?_
    replace A := A.only [54, 18, 17, 6, 5, 2, 1, 0] rfl
    refine hK6 _ _ ?_
    refine wp_cond_false (A.get rfl) ?_
    refine region_seq ?_  -- region 12
    refine Lo A rfl (y_eql (A.g 17 rfl) (evc _ _) (c := false) (by simpa using e2) fun _ A => ?_)
    refine La A rfl (A.g 56 rfl) fun _ A => ?_
    replace A := A.only [54, 18, 17, 6, 5, 2, 1, 0] rfl
    refine hK5 _ _ ?_
    refine wp_cond_false (A.get rfl) ?_
    refine wp_seq_k fun K7 hK7 => ?_
    refine region_seq ?_  -- region 25
    refine Lo A rfl (y_eql (A.g 17 rfl) (evc _ _) (c := false) (by simpa using e3) fun _ A => ?_)
    refine La A rfl (A.g 138 rfl) fun _ A => ?_
    replace A := A.only [137, 54, 18, 17, 6, 5, 2, 1, 0] rfl
    refine hK7 _ _ ?_
    refine wp_cond_false (A.get rfl) ?_
    refine wp_seq_k fun K8 hK8 => ?_
    refine region_seq ?_  -- region 27
    refine Lo A rfl (y_eql (A.g 17 rfl) (evc _ _) (c := false) (by simpa using e4) fun _ A => ?_)
    refine La A rfl (A.g 157 rfl) fun _ A => ?_
    replace A := A.only [156, 137, 54, 18, 17, 6, 5, 2, 1, 0] rfl
    refine hK8 _ _ ?_
    refine wp_cond_false (A.get rfl) ?_
    refine wp_seq_k fun K9 hK9 => ?_
    refine region_seq ?_  -- region 29
    refine Lo A rfl (y_eql (A.g 17 rfl) (evc _ _) (c := true) (by simp [e5]) fun _ A => ?_)
    refine La A rfl (A.g 176 rfl) fun _ A => ?_
    replace A := A.only [175, 156, 137, 54, 18, 17, 6, 5, 2, 1, 0] rfl
    refine hK9 _ _ ?_
    refine wp_cond_true (A.get rfl) ?_
    refine wp_seq_k fun K10 hK10 => ?_
    refine region_drawS A [] [(0, true), (1, true), (2, true), (3, true), (4, true), (5, true), (6, true), (7, true), (8, true), (10, true), (11, true), (12, true), (13, true), (14, true), (15, true), (16, true), (17, true), (18, true), (9, false), (19, false), (20, false), (21, false)] (by kernel_rfl) (by kernel_rfl) (fun d _ _ _ _ h => by cases d <;> exact h) trivial ?_  -- region 30
    intro ac w A gG nN
    replace S : St _ _ _ ([(b1, .cells #[.int .i64 x.d, .int .i64 x.f, .int .i64 x.t, .int .i64 x.i, .int .i64 x.b, .slice ba x.bs.length bc] 57 (0, 0))] ++ (Hm ++ Hr)) := (S.new gG nN).perm (by first | exact .refl _ | (rw [List.append_assoc]; exact .refl _) | (simp only [List.append_assoc, List.nil_append, List.append_nil]; exact .refl _))
    refine S_pure (fun w1 => Holds w1 [(b1, .cells #[.int .i64 x.d, .int .i64 x.f, .int .i64 x.t, .int .i64 x.i, .int .i64 x.b, .slice ba x.bs.length bc] 57 (0, 0))]) (fun _ _ => trivial) ((Holds.cons (S.get 0 rfl) (Holds.nil _)) : (fun w1 => Holds w1 [(b1, .cells #[.int .i64 x.d, .int .i64 x.f, .int .i64 x.t, .int .i64 x.i, .int .i64 x.b, .slice ba x.bs.length bc] 57 (0, 0))]) _) A rfl (by decide) rfl (fun w1 hR => r_move (A.g 0 rfl)) fun _ A => ?_
    refine S_pure (fun w1 => Holds w1 [(b1, .cells #[.int .i64 x.d, .int .i64 x.f, .int .i64 x.t, .int .i64 x.i, .int .i64 x.b, .slice ba x.bs.length bc] 57 (0, 0))]) (fun _ h => h) ((Holds.cons (S.get 0 rfl) (Holds.nil _)) : (fun w1 => Holds w1 [(b1, .cells #[.int .i64 x.d, .int .i64 x.f, .int .i64 x.t, .int .i64 x.i, .int .i64 x.b, .slice ba x.bs.length bc] 57 (0, 0))]) _) A rfl (by decide) rfl (fun w1 hR => r_fieldAddr (off := 1) (j := 1) (by kernel_rfl) (A.g 5 rfl) (by first | rfl | omega)) fun _ A => ?_
    refine S_pure (fun w1 => Holds w1 [(b1, .cells #[.int .i64 x.d, .int .i64 x.f, .int .i64 x.t, .int .i64 x.i, .int .i64 x.b, .slice ba x.bs.length bc] 57 (0, 0))]) (fun _ h => h) ((Holds.cons (S.get 0 rfl) (Holds.nil _)) : (fun w1 => Holds w1 [(b1, .cells #[.int .i64 x.d, .int .i64 x.f, .int .i64 x.t, .int .i64 x.i, .int .i64 x.b, .slice ba x.bs.length bc] 57 (0, 0))]) _) A rfl (by decide) rfl (fun w1 hR => r_load (by kernel_rfl) (A.g 178 rfl) ((cell_of (hR.at 0 rfl) _).trans rfl)) fun _ A => ?_
    refine S_pure (fun w1 => Holds w1 [(b1, .cells #[.int .i64 x.d, .int .i64 x.f, .int .i64 x.t, .int .i64 x.i, .int .i64 x.b, .slice ba x.bs.length bc] 57 (0, 0))]) (fun _ h => h) ((Holds.cons (S.get 0 rfl) (Holds.nil _)) : (fun w1 => Holds w1 [(b1, .cells #[.int .i64 x.d, .int .i64 x.f, .int .i64 x.t, .int .i64 x.i, .int .i64 x.b, .slice ba x.bs.length bc] 57 (0, 0))]) _) A rfl (by decide) rfl (fun w1 hR => r_fieldAddr (off := 2) (j := 2) (by kernel_rfl) (A.g 5 rfl) (by first | rfl | omega)) fun _ A => ?_
    replace A := A.only [180, 179, 177, 175, 156, 137, 54, 18, 17, 6, 5, 2, 1, 0] rfl
    refine S_pure (fun w1 => Holds w1 [(b1, .cells #[.int .i64 x.d, .int .i64 x.f, .int .i64 x.t, .int .i64 x.i, .int .i64 x.b, .slice ba x.bs.length bc] 57 (0, 0))]) (fun _ h => h) ((Holds.cons (S.get 0 rfl) (Holds.nil _)) : (fun w1 => Holds w1 [(b1, .cells #[.int .i64 x.d, .int .i64 x.f, .int .i64 x.t, .int .i64 x.i, .int .i64 x.b, .slice ba x.bs.length bc] 57 (0, 0))]) _) A rfl (by decide) rfl (fun w1 hR => r_load (by kernel_rfl) (A.g 180 rfl) ((cell_of (hR.at 0 rfl) _).trans rfl)) fun _ A => ?_
    refine S_pure (fun w1 => Holds w1 [(b1, .cells #[.int .i64 x.d, .int .i64 x.f, .int .i64 x.t, .int .i64 x.i, .int .i64 x.b, .slice ba x.bs.length bc] 57 (0, 0))]) (fun _ h => h) ((Holds.cons (S.get 0 rfl) (Holds.nil _)) : (fun w1 => Holds w1 [(b1, .cells #[.int .i64 x.d, .int .i64 x.f, .int .i64 x.t, .int .i64 x.i, .int .i64 x.b, .slice ba x.bs.length bc] 57 (0, 0))]) _) A rfl (by decide) rfl (fun w1 hR => r_fieldAddr (off := 3) (j := 3) (by kernel_rfl) (A.g 5 rfl) (by first | rfl | omega)) fun _ A => ?_
    refine S_pure (fun w1 => Holds w1 [(b1, .cells #[.int .i64 x.d, .int .i64 x.f, .int .i64 x.t, .int .i64 x.i, .int .i64 x.b, .slice ba x.bs.length bc] 57 (0, 0))]) (fun _ h => h) ((Holds.cons (S.get 0 rfl) (Holds.nil _)) : (fun w1 => Holds w1 [(b1, .cells #[.int .i64 x.d, .int .i64 x.f, .int .i64 x.t, .int .i64 x.i, .int .i64 x.b, .slice ba x.bs.length bc] 57 (0, 0))]) _) A rfl (by decide) rfl (fun w1 hR => r_load (by kernel_rfl) (A.g 182 rfl) ((cell_of (hR.at 0 rfl) _).trans rfl)) fun _ A => ?_
    refine S_pure (fun w1 => Holds w1 [(b1, .cells #[.int .i64 x.d, .int .i64 x.f, .int .i64 x.t, .int .i64 x.i, .int .i64 x.b, .slice ba x.bs.length bc] 57 (0, 0))]) (fun _ h => h) ((Holds.cons (S.get 0 rfl) (Holds.nil _)) : (fun w1 => Holds w1 [(b1, .cells #[.int .i64 x.d, .int .i64 x.f, .int .i64 x.t, .int .i64 x.i, .int .i64 x.b, .slice ba x.bs.length bc] 57 (0, 0))]) _) A rfl (by decide) rfl (fun w1 hR => r_fieldAddr (off := 4) (j := 4) (by kernel_rfl) (A.g 5 rfl) (by first | rfl | omega)) fun _ A => ?_
    refine S_pure (fun w1 => Holds w1 [(b1, .cells #[.int .i64 x.d, .int .i64 x.f, .int .i64 x.t, .int .i64 x.i, .int .i64 x.b, .slice ba x.bs.length bc] 57 (0, 0))]) (fun _ h => h) ((Holds.cons (S.get 0 rfl) (Holds.nil _)) : (fun w1 => Holds w1 [(b1, .cells #[.int .i64 x.d, .int .i64 x.f, .int .i64 x.t, .int .i64 x.i, .int .i64 x.b, .slice ba x.bs.length bc] 57 (0, 0))]) _) A rfl (by decide) rfl (fun w1 hR => r_load (by kernel_rfl) (A.g 184 rfl) ((cell_of (hR.at 0 rfl) _).trans rfl)) fun _ A => ?_
    replace A := A.only [185, 183, 181, 179, 177, 175, 156, 137, 54, 18, 17, 6, 5, 2, 1, 0] rfl
    refine S_pure (fun w1 => Holds w1 [(b1, .cells #[.int .i64 x.d, .int .i64 x.f, .int .i64 x.t, .int .i64 x.i, .int .i64 x.b, .slice ba x.bs.length bc] 57 (0, 0))]) (fun _ h => h) ((Holds.cons (S.get 0 rfl) (Holds.nil _)) : (fun w1 => Holds w1 [(b1, .cells #[.int .i64 x.d, .int .i64 x.f, .int .i64 x.t, .int .i64 x.i, .int .i64 x.b, .slice ba x.bs.length bc] 57 (0, 0))]) _) A rfl (by decide) rfl (fun w1 hR => r_move (A.g 1 rfl)) fun _ A => ?_
    refine S_pure (fun w1 => Holds w1 [(b1, .cells #[.int .i64 x.d, .int .i64 x.f, .int .i64 x.t, .int .i64 x.i, .int .i64 x.b, .slice ba x.bs.length bc] 57 (0, 0))]) (fun _ h => h) ((Holds.cons (S.get 0 rfl) (Holds.nil _)) : (fun w1 => Holds w1 [(b1, .cells #[.int .i64 x.d, .int .i64 x.f, .int .i64 x.t, .int .i64 x.i, .int .i64 x.b, .slice ba x.bs.length bc] 57 (0, 0))]) _) A rfl (by decide) rfl (fun w1 hR => r_fieldAddr (off := 1) (j := 1) (by kernel_rfl) (A.g 5 rfl) (by first | rfl | omega)) fun _ A => ?_
    refine S_pure (fun w1 => Holds w1 [(b1, .cells #[.int .i64 x.d, .int .i64 x.f, .int .i64 x.t, .int .i64 x.i, .int .i64 x.b, .slice ba x.bs.length bc] 57 (0, 0))]) (fun _ h => h) ((Holds.cons (S.get 0 rfl) (Holds.nil _)) : (fun w1 => Holds w1 [(b1, .cells #[.int .i64 x.d, .int .i64 x.f, .int .i64 x.t, .int .i64 x.i, .int .i64 x.b, .slice ba x.bs.length bc] 57 (0, 0))]) _) A rfl (by decide) rfl (fun w1 hR => r_load (by kernel_rfl) (A.g 188 rfl) ((cell_of (hR.at 0 rfl) _).trans rfl)) fun _ A => ?_
    refine S_pure (fun w1 => Holds w1 [(b1, .cells #[.int .i64 x.d, .int .i64 x.f, .int .i64 x.t, .int .i64 x.i, .int .i64 x.b, .slice ba x.bs.length bc] 57 (0, 0))]) (fun _ h => h) ((Holds.cons (S.get 0 rfl) (Holds.nil _)) : (fun w1 => Holds w1 [(b1, .cells #[.int .i64 x.d, .int .i64 x.f, .int .i64 x.t, .int .i64 x.i, .int .i64 x.b, .slice ba x.bs.length bc] 57 (0, 0))]) _) A rfl (by decide) rfl (fun w1 hR => r_fieldAddr (off := 2) (j := 2) (by kernel_rfl) (A.g 5 rfl) (by first | rfl | omega)) fun _ A => ?_
    refine S_pure (fun w1 => Holds w1 [(b1, .cells #[.int .i64 x.d, .int .i64 x.f, .int .i64 x.t, .int .i64 x.i, .int .i64 x.b, .slice ba x.bs.length bc] 57 (0, 0))]) (fun _ h => h) ((Holds.cons (S.get 0 rfl) (Holds.nil _)) : (fun w1 => Holds w1 [(b1, .cells #[.int .i64 x.d, .int .i64 x.f, .int .i64 x.t, .int .i64 x.i, .int .i64 x.b, .slice ba x.bs.length bc] 57 (0, 0))]) _) A rfl (by decide) rfl (fun w1 hR => r_load (by kernel_rfl) (A.g 190 rfl) ((cell_of (hR.at 0 rfl) _).trans rfl)) fun _ A => ?_
    replace A := A.only [191, 189, 187, 185, 183, 181, 179, 177, 175, 156, 137, 54, 18, 17, 6, 5, 2, 1, 0] rfl
    refine S_pure (fun w1 => Holds w1 [(b1, .cells #[.int .i64 x.d, .int .i64 x.f, .int .i64 x.t, .int .i64 x.i, .int .i64 x.b, .slice ba x.bs.length bc] 57 (0, 0))]) (fun _ h => h) ((Holds.cons (S.get 0 rfl) (Holds.nil _)) : (fun w1 => Holds w1 [(b1, .cells #[.int .i64 x.d, .int .i64 x.f, .int .i64 x.t, .int .i64 x.i, .int .i64 x.b, .slice ba x.bs.length bc] 57 (0, 0))]) _) A rfl (by decide) rfl (fun w1 hR => r_fieldAddr (off := 3) (j := 3) (by kernel_rfl) (A.g 5 rfl) (by first | rfl | omega)) fun _ A => ?_
    refine S_pure (fun w1 => Holds w1 [(b1, .cells #[.int .i64 x.d, .int .i64 x.f, .int .i64 x.t, .int .i64 x.i, .int .i64 x.b, .slice ba x.bs.length bc] 57 (0, 0))]) (fun _ h => h) ((Holds.cons (S.get 0 rfl) (Holds.nil _)) : (fun w1 => Holds w1 [(b1, .cells #[.int .i64 x.d, .int .i64 x.f, .int .i64 x.t, .int .i64 x.i, .int .i64 x.b, .slice ba x.bs.length bc] 57 (0, 0))]) _) A rfl (by decide) rfl (fun w1 hR => r_load (by kernel_rfl) (A.g 192 rfl) ((cell_of (hR.at 0 rfl) _).trans rfl)) fun _ A => ?_
    refine S_pure (fun w1 => Holds w1 [(b1, .cells #[.int .i64 x.d, .int .i64 x.f, .int .i64 x.t, .int .i64 x.i, .int .i64 x.b, .slice ba x.bs.length bc] 57 (0, 0))]) (fun _ h => h) ((Holds.cons (S.get 0 rfl) (Holds.nil _)) : (fun w1 => Holds w1 [(b1, .cells #[.int .i64 x.d, .int .i64 x.f, .int .i64 x.t, .int .i64 x.i, .int .i64 x.b, .slice ba x.bs.length bc] 57 (0, 0))]) _) A rfl (by decide) rfl (fun w1 hR => r_fieldAddr (off := 4) (j := 4) (by kernel_rfl) (A.g 5 rfl) (by first | rfl | omega)) fun _ A => ?_
    refine S_pure (fun w1 => Holds w1 [(b1, .cells #[.int .i64 x.d, .int .i64 x.f, .int .i64 x.t, .int .i64 x.i, .int .i64 x.b, .slice ba x.bs.length bc] 57 (0, 0))]) (fun _ h => h) ((Holds.cons (S.get 0 rfl) (Holds.nil _)) : (fun w1 => Holds w1 [(b1, .cells #[.int .i64 x.d, .int .i64 x.f, .int .i64 x.t, .int .i64 x.i, .int .i64 x.b, .slice ba x.bs.length bc] 57 (0, 0))]) _) A rfl (by decide) rfl (fun w1 hR => r_load (by kernel_rfl) (A.g 194 rfl) ((cell_of (hR.at 0 rfl) _).trans rfl)) fun _ A => ?_
    have hR := ((Holds.cons (S.get 0 rfl) (Holds.nil _)) : (fun w1 => Holds w1 [(b1, .cells #[.int .i64 x.d, .int .i64 x.f, .int .i64 x.t, .int .i64 x.i, .int .i64 x.b, .slice ba x.bs.length bc] 57 (0, 0))]) _)
    obtain ⟨t1, t2, t3⟩ := hs.spoil x.f x.t x.i x.b
    have sm := (St.app_left (H := Hm) (K := ([(b1, .cells #[.int .i64 x.d, .int .i64 x.f, .int .i64 x.t, .int .i64 x.i, .int .i64 x.b, .slice ba x.bs.length bc] 57 (0, 0))] ++ Hr)) (S.perm (by classical rw [List.perm_iff_count]; intro x; simp only [List.count_append, List.count_cons, List.count_nil] <;> omega)))
    have c1 := spoil_ok (i := x.i) hN sm.nd sm.holds okf okt okb
    rw [t1] at c1
    replace S : St _ _ _ (Hm ++ ([(b1, .cells #[.int .i64 x.d, .int .i64 x.f, .int .i64 x.t, .int .i64 x.i, .int .i64 x.b, .slice ba x.bs.length bc] 57 (0, 0))] ++ Hr)) := S.perm (by classical rw [List.perm_iff_count]; intro x; simp only [List.count_append, List.count_cons, List.count_nil] <;> omega)
    refine S_op A hR rfl (by decide) rfl (y_call5 (by kernel_rfl) rfl (A.g 177 rfl) (A.g 179 rfl) (A.g 181 rfl) (A.g 183 rfl) (A.g 185 rfl) (callW (c1) fun v w Hm2 s hf ac A => ?_))
    replace S : St _ _ _ (Hm2 ++ ([(b1, .cells #[.int .i64 x.d, .int .i64 x.f, .int .i64 x.t, .int .i64 x.i, .int .i64 x.b, .slice ba x.bs.length bc] 57 (0, 0))] ++ Hr)) := St.call (H := Hm) (R := ([(b1, .cells #[.int .i64 x.d, .int .i64 x.f, .int .i64 x.t, .int .i64 x.i, .int .i64 x.b, .slice ba x.bs.length bc] 57 (0, 0))] ++ Hr)) S rfl s
    obtain ⟨rfl, hN2⟩ := hf
    replace S : St _ _ _ ([(b1, .cells #[.int .i64 x.d, .int .i64 x.f, .int .i64 x.t, .int .i64 x.i, .int .i64 x.b, .slice ba x.bs.length bc] 57 (0, 0))] ++ (Hm2 ++ Hr)) := S.perm (by classical rw [List.perm_iff_count]; intro x; simp only [List.count_append, List.count_cons, List.count_nil] <;> omega)
    replace A := A.only [195, 193, 191, 189, 187, 186, 175, 156, 137, 54, 18, 17, 6, 5, 2, 1, 0] rfl
    have hR := ((Holds.cons (S.get 0 rfl) (Holds.nil _)) : (fun w1 => Holds w1 [(b1, .cells #[.int .i64 x.d, .int .i64 x.f, .int .i64 x.t, .int .i64 x.i, .int .i64 x.b, .slice ba x.bs.length bc] 57 (0, 0))]) _)
    have sr := (St.app_left (H := Hr) (K := ([(b1, .cells #[.int .i64 x.d, .int .i64 x.f, .int .i64 x.t, .int .i64 x.i, .int .i64 x.b, .slice ba x.bs.length bc] 57 (0, 0))] ++ Hm2)) (S.perm (by classical rw [List.perm_iff_count]; intro x; simp only [List.count_append, List.count_cons, List.count_nil] <;> omega)))
    have c2 := rspoil_ok (a := x.f) (b := x.t) (i := x.i) hR0 sr.nd sr.holds hw okb
    replace S : St _ _ _ (Hr ++ ([(b1, .cells #[.int .i64 x.d, .int .i64 x.f, .int .i64 x.t, .int .i64 x.i, .int .i64 x.b, .slice ba x.bs.length bc] 57 (0, 0))] ++ Hm2)) := S.perm (by classical rw [List.perm_iff_count]; intro x; simp only [List.count_append, List.count_cons, List.count_nil] <;> omega)
    refine S_op A hR rfl (by decide) rfl (y_call5 (by kernel_rfl) rfl (A.g 187 rfl) (A.g 189 rfl) (A.g 191 rfl) (A.g 193 rfl) (A.g 195 rfl) (callW (c2) fun v w Hr2 s hf ac A => ?_))
    replace S : St _ _ _ (Hr2 ++ ([(b1, .cells #[.int .i64 x.d, .int .i64 x.f, .int .i64 x.t, .int .i64 x.i, .int .i64 x.b, .slice ba x.bs.length bc] 57 (0, 0))] ++ Hm2)) := St.call (H := Hr) (R := ([(b1, .cells #[.int .i64 x.d, .int .i64 x.f, .int .i64 x.t, .int .i64 x.i, .int .i64 x.b, .slice ba x.bs.length bc] 57 (0, 0))] ++ Hm2)) S rfl s
    obtain ⟨rfl, hR2⟩ := hf
    replace S : St _ _ _ ([(b1, .cells #[.int .i64 x.d, .int .i64 x.f, .int .i64 x.t, .int .i64 x.i, .int .i64 x.b, .slice ba x.bs.length bc] 57 (0, 0))] ++ (Hr2 ++ Hm2)) := S.perm (by classical rw [List.perm_iff_count]; intro x; simp only [List.count_append, List.count_cons, List.count_nil] <;> omega)
    have hR := ((Holds.cons (S.get 0 rfl) (Holds.nil _)) : (fun w1 => Holds w1 [(b1, .cells #[.int .i64 x.d, .int .i64 x.f, .int .i64 x.t, .int .i64 x.i, .int .i64 x.b, .slice ba x.bs.length bc] 57 (0, 0))]) _)
    refine S_op A hR rfl (by decide) rfl (y_eql (A.g 186 rfl) (A.g 196 rfl) (c := true) (by simp) fun _ A => ?_)
    have hR := ((Holds.cons (S.get 0 rfl) (Holds.nil _)) : (fun w1 => Holds w1 [(b1, .cells #[.int .i64 x.d, .int .i64 x.f, .int .i64 x.t, .int .i64 x.i, .int .i64 x.b, .slice ba x.bs.length bc] 57 (0, 0))]) _)
    refine S_op A hR rfl (by decide) rfl (y_assign (A.g 197 rfl) fun _ A => ?_)
    refine S_end ((Holds.cons (S.get 0 rfl) (Holds.nil _)) : (fun w1 => Holds w1 [(b1, .cells #[.int .i64 x.d, .int .i64 x.f, .int .i64 x.t, .int .i64 x.i, .int .i64 x.b, .slice ba x.bs.length bc] 57 (0, 0))]) _) ?_
    replace A := A.only [175, 156, 137, 54, 18, 17, 6, 5, 2, 1, 0] rfl
    refine hK10 _ _ ?_
    replace S : St _ _ _ (Hm2 ++ Hr2) := St.app_left (K := [(b1, .cells #[.int .i64 x.d, .int .i64 x.f, .int .i64 x.t, .int .i64 x.i, .int .i64 x.b, .slice ba x.bs.length bc] 57 (0, 0))]) (S.perm (by classical rw [List.perm_iff_count]; intro x; simp only [List.count_append, List.count_cons, List.count_nil] <;> omega))
    exact wp_ret ⟨A.defers, _, res_run (rs := [.tmp 6]) (vs := [.bool true]) rfl ⟨A.get rfl, trivial⟩, ⟨_, _, rfl, ⟨rfl, _, _, _, _, rfl, hN2, hR2, t2, Nat.le_trans t3 (Nat.le_succ _)⟩, S⟩⟩
  by_cases e6 : x.d = 6
  · skip
    refine enter Try.func31 rfl (n := 267) rfl (Nat.le_of_ble_eq_true rfl) fun _ A => ?_
    have S : St _ _ _ (Hm ++ Hr) := S0
    refine wp_seq_k fun K1 hK1 => ?_
    refine region_seq ?_  -- region 0
    refine Lo A rfl (y_boxN (A.g 2 rfl) fun b1 w gG nN ac A => ?_)
    replace S : St _ _ _ ([(b1, .cells #[.int .i64 x.d, .int .i64 x.f, .int .i64 x.t, .int .i64 x.i, .int .i64 x.b, .slice ba x.bs.length bc] 57 (0, 0))] ++ (Hm ++ Hr)) := (S.new gG nN).perm (by first | exact .refl _ | (rw [List.append_assoc]; exact .refl _) | (simp only [List.append_assoc, List.nil_append, List.append_nil]; exact .refl _))
    refine La A rfl (evc _ _) fun _ A => ?_
    replace A := A.only [6, 5, 2, 1, 0] rfl
    refine hK1 _ _ ?_
    refine wp_seq_k fun K2 hK2 => ?_
    refine wp_seq_k fun K3 hK3 => ?_
    refine region_seq ?_  -- region 1
    refine Lo A rfl (y_fieldAddr (off := 0) (j := 0) (by kernel_rfl) (A.g 5 rfl) (by first | rfl | omega) fun _ A => ?_)
    refine Lo A rfl (y_load (by kernel_rfl) (A.g 16 rfl) ((cell_of (S.get 0 rfl) _).trans rfl) fun _ A => ?_)
    replace A := A.only [17, 6, 5, 2, 1, 0] rfl
    refine hK3 _ _ ?_
    refine wp_block ?_
    refine wp_seq_k fun K4 hK4 => ?_
    refine region_seq ?_  -- region 2
    refine Lo A rfl (y_eql (A.g 17 rfl) (evc _ _) (c := false) (by simpa using e0) fun _ A => ?_)
    refine La A rfl (A.g 19 rfl) fun _ A => ?_
    replace A := A.only [18, 17, 6, 5, 2, 1, 0] rfl
    refine hK4 _ _ ?_
    refine wp_cond_false (A.get rfl) ?_
    refine wp_seq_k fun K5 hK5 => ?_
    refine wp_seq_k fun K6 hK6 => ?_
    refine region_seq ?_  -- region 11
    refine Lo A rfl (y_eql (A.g 17 rfl) (evc _ _) (c := false) (by simpa using e1) fun _ A => ?_)
    refine La A rfl (A.g 55 rfl) fun _ A => ?_
    replace A := A.only [54, 18, 17, 6, 5, 2, 1, 0] rfl
    refine hK6 _ _ ?_
    refine wp_cond_false (A.get rfl) ?_
    refine region_seq ?_  -- region 12
    refine Lo A rfl (y_eql (A.g 17 rfl) (evc _ _) (c := false) (by simpa using e2) fun _ A => ?_)
    refine La A rfl (A.g 56 rfl) fun _ A => ?_
    replace A := A.only [54, 18, 17, 6, 5, 2, 1, 0] rfl
    refine hK5 _ _ ?_
    refine wp_cond_false (A.get rfl) ?_
    refine wp_seq_k fun K7 hK7 => ?_
    refine region_seq ?_  -- region 25
    refine Lo A rfl (y_eql (A.g 17 rfl) (evc _ _) (c := false) (by simpa using e3) fun _ A => ?_)
    refine La A rfl (A.g 138 rfl) fun _ A => ?_
    replace A := A.only [137, 54, 18, 17, 6, 5, 2, 1, 0] rfl
    refine hK7 _ _ ?_
    refine wp_cond_false (A.get rfl) ?_
    refine wp_seq_k fun K8 hK8 => ?_
    refine region_seq ?_  -- region 27
    refine Lo A rfl (y_eql (A.g 17 rfl) (evc _ _) (c := false) (by simpa using e4) fun _ A => ?_)
    refine La A rfl (A.g 157 rfl) fun _ A => ?_
    replace A := A.only [156, 137, 54, 18, 17, 6, 5, 2, 1, 0] rfl
    refine hK8 _ _ ?_
    refine wp_cond_false (A.get rfl) ?_
    refine wp_seq_k fun K9 hK9 => ?_
    refine region_seq ?_  -- region 29
    refine Lo A rfl (y_eql (A.g 17 rfl) (evc _ _) (c := false) (by simpa using e5) fun _ A => ?_)
    refine La A rfl (A.g 176 rfl) fun _ A => ?_
    replace A := A.only [175, 156, 137, 54, 18, 17, 6, 5, 2, 1, 0] rfl
    refine hK9 _ _ ?_
    refine wp_cond_false (A.get rfl) ?_
    refine wp_seq_k fun K10 hK10 => ?_
    refine region_seq ?_  -- region 31
    refine Lo A rfl (y_eql (A.g 17 rfl) (evc _ _) (c := true) (by simp [e6]) fun _ A => ?_)
    refine La A rfl (A.g 199 rfl) fun _ A => ?_
    replace A := A.only [198, 175, 156, 137, 54, 18, 17, 6, 5, 2, 1, 0] rfl
    refine hK10 _ _ ?_
    refine wp_cond_true (A.get rfl) ?_
    refine wp_seq_k fun K11 hK11 => ?_
    refine region_drawS A [] [(0, true), (1, true), (2, true), (3, true), (4, true), (6, true), (7, true), (8, true), (9, true), (10, true), (5, false), (11, false), (12, false), (13, false)] (by kernel_rfl) (by kernel_rfl) (fun d _ _ _ _ h => by cases d <;> exact h) trivial ?_  -- region 32
    intro ac w A gG nN
    replace S : St _ _ _ ([(b1, .cells #[.int .i64 x.d, .int .i64 x.f, .int .i64 x.t, .int .i64 x.i, .int .i64 x.b, .slice ba x.bs.length bc] 57 (0, 0))] ++ (Hm ++ Hr)) := (S.new gG nN).perm (by first | exact .refl _ | (rw [List.append_assoc]; exact .refl _) | (simp only [List.append_assoc, List.nil_append, List.append_nil]; exact .refl _))
    refine S_pure (fun w1 => Holds w1 [(b1, .cells #[.int .i64 x.d, .int .i64 x.f, .int .i64 x.t, .int .i64 x.i, .int .i64 x.b, .slice ba x.bs.length bc] 57 (0, 0))]) (fun _ _ => trivial) ((Holds.cons (S.get 0 rfl) (Holds.nil _)) : (fun w1 => Holds w1 [(b1, .cells #[.int .i64 x.d, .int .i64 x.f, .int .i64 x.t, .int .i64 x.i, .int .i64 x.b, .slice ba x.bs.length bc] 57 (0, 0))]) _) A rfl (by decide) rfl (fun w1 hR => r_move (A.g 0 rfl)) fun _ A => ?_
    refine S_pure (fun w1 => Holds w1 [(b1, .cells #[.int .i64 x.d, .int .i64 x.f, .int .i64 x.t, .int .i64 x.i, .int .i64 x.b, .slice ba x.bs.length bc] 57 (0, 0))]) (fun _ h => h) ((Holds.cons (S.get 0 rfl) (Holds.nil _)) : (fun w1 => Holds w1 [(b1, .cells #[.int .i64 x.d, .int .i64 x.f, .int .i64 x.t, .int .i64 x.i, .int .i64 x.b, .slice ba x.bs.length bc] 57 (0, 0))]) _) A rfl (by decide) rfl (fun w1 hR => r_fieldAddr (off := 1) (j := 1) (by kernel_rfl) (A.g 5 rfl) (by first | rfl | omega)) fun _ A => ?_
    refine S_pure (fun w1 => Holds w1 [(b1, .cells #[.int .i64 x.d, .int .i64 x.f, .int .i64 x.t, .int .i64 x.i, .int .i64 x.b, .slice ba x.bs.length bc] 57 (0, 0))]) (fun _ h => h) ((Holds.cons (S.get 0 rfl) (Holds.nil _)) : (fun w1 => Holds w1 [(b1, .cells #[.int .i64 x.d, .int .i64 x.f, .int .i64 x.t, .int .i64 x.i, .int .i64 x.b, .slice ba x.bs.length bc] 57 (0, 0))]) _) A rfl (by decide) rfl (fun w1 hR => r_load (by kernel_rfl) (A.g 201 rfl) ((cell_of (hR.at 0 rfl) _).trans rfl)) fun _ A => ?_
    refine S_pure (fun w1 => Holds w1 [(b1, .cells #[.int .i64 x.d, .int .i64 x.f, .int .i64 x.t, .int .i64 x.i, .int .i64 x.b, .slice ba x.bs.length bc] 57 (0, 0))]) (fun _ h => h) ((Holds.cons (S.get 0 rfl) (Holds.nil _)) : (fun w1 => Holds w1 [(b1, .cells #[.int .i64 x.d, .int .i64 x.f, .int .i64 x.t, .int .i64 x.i, .int .i64 x.b, .slice ba x.bs.length bc] 57 (0, 0))]) _) A rfl (by decide) rfl (fun w1 hR => r_fieldAddr (off := 2) (j := 2) (by kernel_rfl) (A.g 5 rfl) (by first | rfl | omega)) fun _ A => ?_
    replace A := A.only [203, 202, 200, 198, 175, 156, 137, 54, 18, 17, 6, 5, 2, 1, 0] rfl
    refine S_pure (fun w1 => Holds w1 [(b1, .cells #[.int .i64 x.d, .int .i64 x.f, .int .i64 x.t, .int .i64 x.i, .int .i64 x.b, .slice ba x.bs.length bc] 57 (0, 0))]) (fun _ h => h) ((Holds.cons (S.get 0 rfl) (Holds.nil _)) : (fun w1 => Holds w1 [(b1, .cells #[.int .i64 x.d, .int .i64 x.f, .int .i64 x.t, .int .i64 x.i, .int .i64 x.b, .slice ba x.bs.length bc] 57 (0, 0))]) _) A rfl (by decide) rfl (fun w1 hR => r_load (by kernel_rfl) (A.g 203 rfl) ((cell_of (hR.at 0 rfl) _).trans rfl)) fun _ A => ?_
    refine S_pure (fun w1 => Holds w1 [(b1, .cells #[.int .i64 x.d, .int .i64 x.f, .int .i64 x.t, .int .i64 x.i, .int .i64 x.b, .slice ba x.bs.length bc] 57 (0, 0))]) (fun _ h => h) ((Holds.cons (S.get 0 rfl) (Holds.nil _)) : (fun w1 => Holds w1 [(b1, .cells #[.int .i64 x.d, .int .i64 x.f, .int .i64 x.t, .int .i64 x.i, .int .i64 x.b, .slice ba x.bs.length bc] 57 (0, 0))]) _) A rfl (by decide) rfl (fun w1 hR => r_move (A.g 1 rfl)) fun _ A => ?_
    refine S_pure (fun w1 => Holds w1 [(b1, .cells #[.int .i64 x.d, .int .i64 x.f, .int .i64 x.t, .int .i64 x.i, .int .i64 x.b, .slice ba x.bs.length bc] 57 (0, 0))]) (fun _ h => h) ((Holds.cons (S.get 0 rfl) (Holds.nil _)) : (fun w1 => Holds w1 [(b1, .cells #[.int .i64 x.d, .int .i64 x.f, .int .i64 x.t, .int .i64 x.i, .int .i64 x.b, .slice ba x.bs.length bc] 57 (0, 0))]) _) A rfl (by decide) rfl (fun w1 hR => r_fieldAddr (off := 1) (j := 1) (by kernel_rfl) (A.g 5 rfl) (by first | rfl | omega)) fun _ A => ?_
    refine S_pure (fun w1 => Holds w1 [(b1, .cells #[.int .i64 x.d, .int .i64 x.f, .int .i64 x.t, .int .i64 x.i, .int .i64 x.b, .slice ba x.bs.length bc] 57 (0, 0))]) (fun _ h => h) ((Holds.cons (S.get 0 rfl) (Holds.nil _)) : (fun w1 => Holds w1 [(b1, .cells #[.int .i64 x.d, .int .i64 x.f, .int .i64 x.t, .int .i64 x.i, .int .i64 x.b, .slice ba x.bs.length bc] 57 (0, 0))]) _) A rfl (by decide) rfl (fun w1 hR => r_load (by kernel_rfl) (A.g 207 rfl) ((cell_of (hR.at 0 rfl) _).trans rfl)) fun _ A => ?_
    refine S_pure (fun w1 => Holds w1 [(b1, .cells #[.int .i64 x.d, .int .i64 x.f, .int .i64 x.t, .int .i64 x.i, .int .i64 x.b, .slice ba x.bs.length bc] 57 (0, 0))]) (fun _ h => h) ((Holds.cons (S.get 0 rfl) (Holds.nil _)) : (fun w1 => Holds w1 [(b1, .cells #[.int .i64 x.d, .int .i64 x.f, .int .i64 x.t, .int .i64 x.i, .int .i64 x.b, .slice ba x.bs.length bc] 57 (0, 0))]) _) A rfl (by decide) rfl (fun w1 hR => r_fieldAddr (off := 2) (j := 2) (by kernel_rfl) (A.g 5 rfl) (by first | rfl | omega)) fun _ A => ?_
    replace A := A.only [209, 208, 206, 204, 202, 200, 198, 175, 156, 137, 54, 18, 17, 6, 5, 2, 1, 0] rfl
    refine S_pure (fun w1 => Holds w1 [(b1, .cells #[.int .i64 x.d, .int .i64 x.f, .int .i64 x.t, .int .i64 x.i, .int .i64 x.b, .slice ba x.bs.length bc] 57 (0, 0))]) (fun _ h => h) ((Holds.cons (S.get 0 rfl) (Holds.nil _)) : (fun w1 => Holds w1 [(b1, .cells #[.int .i64 x.d, .int .i64 x.f, .int .i64 x.t, .int .i64 x.i, .int .i64 x.b, .slice ba x.bs.length bc] 57 (0, 0))]) _) A rfl (by decide) rfl (fun w1 hR => r_load (by kernel_rfl) (A.g 209 rfl) ((cell_of (hR.at 0 rfl) _).trans rfl)) fun _ A => ?_
    have hR := ((Holds.cons (S.get 0 rfl) (Holds.nil _)) : (fun w1 => Holds w1 [(b1, .cells #[.int .i64 x.d, .int .i64 x.f, .int .i64 x.t, .int .i64 x.i, .int .i64 x.b, .slice ba x.bs.length bc] 57 (0, 0))]) _)
    obtain ⟨t1, t2, t3⟩ := hs.cut x.f x.t
    have sm := (St.app_left (H := Hm) (K := ([(b1, .cells #[.int .i64 x.d, .int .i64 x.f, .int .i64 x.t, .int .i64 x.i, .int .i64 x.b, .slice ba x.bs.length bc] 57 (0, 0))] ++ Hr)) (S.perm (by classical rw [List.perm_iff_count]; intro x; simp only [List.count_append, List.count_cons, List.count_nil] <;> omega)))
    have c1 := cut_ok hN sm.nd sm.holds okf okt
    rw [t1] at c1
    replace S : St _ _ _ (Hm ++ ([(b1, .cells #[.int .i64 x.d, .int .i64 x.f, .int .i64 x.t, .int .i64 x.i, .int .i64 x.b, .slice ba x.bs.length bc] 57 (0, 0))] ++ Hr)) := S.perm (by classical rw [List.perm_iff_count]; intro x; simp only [List.count_append, List.count_cons, List.count_nil] <;> omega)
    refine S_op A hR rfl (by decide) rfl (y_call3 (by kernel_rfl) rfl (A.g 200 rfl) (A.g 202 rfl) (A.g 204 rfl) (callW (c1) fun v w Hm2 s hf ac A => ?_))
    replace S : St _ _ _ (Hm2 ++ ([(b1, .cells #[.int .i64 x.d, .int .i64 x.f, .int .i64 x.t, .int .i64 x.i, .int .i64 x.b, .slice ba x.bs.length bc] 57 (0, 0))] ++ Hr)) := St.call (H := Hm) (R := ([(b1, .cells #[.int .i64 x.d, .int .i64 x.f, .int .i64 x.t, .int .i64 x.i, .int .i64 x.b, .slice ba x.bs.length bc] 57 (0, 0))] ++ Hr)) S rfl s
    obtain ⟨rfl, hN2⟩ := hf
    replace S : St _ _ _ ([(b1, .cells #[.int .i64 x.d, .int .i64 x.f, .int .i64 x.t, .int .i64 x.i, .int .i64 x.b, .slice ba x.bs.length bc] 57 (0, 0))] ++ (Hm2 ++ Hr)) := S.perm (by classical rw [List.perm_iff_count]; intro x; simp only [List.count_append, List.count_cons, List.count_nil] <;> omega)
    have hR := ((Holds.cons (S.get 0 rfl) (Holds.nil _)) : (fun w1 => Holds w1 [(b1, .cells #[.int .i64 x.d, .int .i64 x.f, .int .i64 x.t, .int .i64 x.i, .int .i64 x.b, .slice ba x.bs.length bc] 57 (0, 0))]) _)
    have sr := (St.app_left (H := Hr) (K := ([(b1, .cells #[.int .i64 x.d, .int .i64 x.f, .int .i64 x.t, .int .i64 x.i, .int .i64 x.b, .slice ba x.bs.length bc] 57 (0, 0))] ++ Hm2)) (S.perm (by classical rw [List.perm_iff_count]; intro x; simp only [List.count_append, List.count_cons, List.count_nil] <;> omega)))
    have c2 := rturn_ok (a := x.f) (b := x.t) (cut := true) hR0 sr.nd sr.holds hw
    replace S : St _ _ _ (Hr ++ ([(b1, .cells #[.int .i64 x.d, .int .i64 x.f, .int .i64 x.t, .int .i64 x.i, .int .i64 x.b, .slice ba x.bs.length bc] 57 (0, 0))] ++ Hm2)) := S.perm (by classical rw [List.perm_iff_count]; intro x; simp only [List.count_append, List.count_cons, List.count_nil] <;> omega)
    refine S_op A hR rfl (by decide) rfl (y_call4 (by kernel_rfl) rfl (A.g 206 rfl) (A.g 208 rfl) (A.g 210 rfl) (evc _ _) (callW (c2) fun v w Hr2 s hf ac A => ?_))
    replace S : St _ _ _ (Hr2 ++ ([(b1, .cells #[.int .i64 x.d, .int .i64 x.f, .int .i64 x.t, .int .i64 x.i, .int .i64 x.b, .slice ba x.bs.length bc] 57 (0, 0))] ++ Hm2)) := St.call (H := Hr) (R := ([(b1, .cells #[.int .i64 x.d, .int .i64 x.f, .int .i64 x.t, .int .i64 x.i, .int .i64 x.b, .slice ba x.bs.length bc] 57 (0, 0))] ++ Hm2)) S rfl s
    obtain ⟨rfl, hR2⟩ := hf
    replace S : St _ _ _ ([(b1, .cells #[.int .i64 x.d, .int .i64 x.f, .int .i64 x.t, .int .i64 x.i, .int .i64 x.b, .slice ba x.bs.length bc] 57 (0, 0))] ++ (Hr2 ++ Hm2)) := S.perm (by classical rw [List.perm_iff_count]; intro x; simp only [List.count_append, List.count_cons, List.count_nil] <;> omega)
    have hR := ((Holds.cons (S.get 0 rfl) (Holds.nil _)) : (fun w1 => Holds w1 [(b1, .cells #[.int .i64 x.d, .int .i64 x.f, .int .i64 x.t, .int .i64 x.i, .int .i64 x.b, .slice ba x.bs.length bc] 57 (0, 0))]) _)
    refine S_op A hR rfl (by decide) rfl (y_eql (A.g 205 rfl) (A.g 211 rfl) (c := true) (by simp) fun _ A => ?_)
    have hR := ((Holds.cons (S.get 0 rfl) (Holds.nil _)) : (fun w1 => Holds w1 [(b1, .cells #[.int .i64 x.d, .int .i64 x.f, .int .i64 x.t, .int .i64 x.i, .int .i64 x.b, .slice ba x.bs.length bc] 57 (0, 0))]) _)
    refine S_op A hR rfl (by decide) rfl (y_assign (A.g 212 rfl) fun _ A => ?_)
    refine S_end ((Holds.cons (S.get 0 rfl) (Holds.nil _)) : (fun w1 => Holds w1 [(b1, .cells #[.int .i64 x.d, .int .i64 x.f, .int .i64 x.t, .int .i64 x.i, .int .i64 x.b, .slice ba x.bs.length bc] 57 (0, 0))]) _) ?_
    replace A := A.only [198, 175, 156, 137, 54, 18, 17, 6, 5, 2, 1, 0] rfl
    refine hK11 _ _ ?_
    replace S : St _ _ _ (Hm2 ++ Hr2) := St.app_left (K := [(b1, .cells #[.int .i64 x.d, .int .i64 x.f, .int .i64 x.t, .int .i64 x.i, .int .i64 x.b, .slice ba x.bs.length bc] 57 (0, 0))]) (S.perm (by classical rw [List.perm_iff_count]; intro x; simp only [List.count_append, List.count_cons, List.count_nil] <;> omega))
    exact wp_ret ⟨A.defers, _, res_run (rs := [.tmp 6]) (vs := [.bool true]) rfl ⟨A.get rfl, trivial⟩, ⟨_, _, rfl, ⟨rfl, _, _, _, _, rfl, hN2, hR2, t2, Nat.le_trans t3 (Nat.le_succ _)⟩, S⟩⟩
  by_cases e7 : x.d = 7
  · skip
    refine enter Try.func31 rfl (n := 267) rfl (Nat.le_of_ble_eq_true rfl) fun _ A => ?_
    have S : St _ _ _ (Hm ++ Hr) := S0
    refine wp_seq_k fun K1 hK1 => ?_
    refine region_seq ?_  -- region 0
    refine Lo A rfl (y_boxN (A.g 2 rfl) fun b1 w gG nN ac A => ?_)
    replace S : St _ _ _ ([(b1, .cells #[.int .i64 x.d, .int .i64 x.f, .int .i64 x.t, .int .i64 x.i, .int .i64 x.b, .slice ba x.bs.length bc] 57 (0, 0))] ++ (Hm ++ Hr)) := (S.new gG nN).perm (by first | exact .refl _ | (rw [List.append_assoc]; exact .refl _) | (simp only [List.append_assoc, List.nil_append, List.append_nil]; exact .refl _))
    refine La A rfl (evc _ _) fun _ A => ?_
    replace A := A.only [6, 5, 2, 1, 0] rfl
    refine hK1 _ _ ?_
    refine wp_seq_k fun K2 hK2 => ?_
    refine wp_seq_k fun K3 hK3 => ?_
    refine region_seq ?_  -- region 1
    refine Lo A rfl (y_fieldAddr (off := 0) (j := 0) (by kernel_rfl) (A.g 5 rfl) (by first | rfl | omega) fun _ A => ?_)
    refine Lo A rfl (y_load (by kernel_rfl) (A.g 16 rfl) ((cell_of (S.get 0 rfl) _).trans rfl) fun _ A => ?_)
    replace A := A.only [17, 6, 5, 2, 1, 0] rfl
    refine hK3 _ _ ?_
    refine wp_block ?_
    refine wp_seq_k fun K4 hK4 => ?_
    refine region_seq ?_  -- region 2
    refine Lo A rfl (y_eql (A.g 17 rfl) (evc _ _) (c := false) (by simpa using e0) fun _ A => ?_)
    refine La A rfl (A.g 19 rfl) fun _ A => ?_
    replace A := A.only [18, 17, 6, 5, 2, 1, 0] rfl
    refine hK4 _ _ ?_
    refine wp_cond_false (A.get rfl) ?_
    refine wp_seq_k fun K5 hK5 => ?_
    refine wp_seq_k fun K6 hK6 => ?_
    refine region_seq ?_  -- region 11
    refine Lo A rfl (y_eql (A.g 17 rfl) (evc _ _) (c := false) (by simpa using e1) fun _ A => ?_)
    refine La A rfl (A.g 55 rfl) fun _ A => ?_
    replace A := A.only [54, 18, 17, 6, 5, 2, 1, 0] rfl
    refine hK6 _ _ ?_
    refine wp_cond_false (A.get rfl) ?_
    refine region_seq ?_  -- region 12
    refine Lo A rfl (y_eql (A.g 17 rfl) (evc _ _) (c := false) (by simpa using e2) fun _ A => ?_)
    refine La A rfl (A.g 56 rfl) fun _ A => ?_
    replace A := A.only [54, 18, 17, 6, 5, 2, 1, 0] rfl
    refine hK5 _ _ ?_
    refine wp_cond_false (A.get rfl) ?_
    refine wp_seq_k fun K7 hK7 => ?_
    refine region_seq ?_  -- region 25
    refine Lo A rfl (y_eql (A.g 17 rfl) (evc _ _) (c := false) (by simpa using e3) fun _ A => ?_)
    refine La A rfl (A.g 138 rfl) fun _ A => ?_
    replace A := A.only [137, 54, 18, 17, 6, 5, 2, 1, 0] rfl
    refine hK7 _ _ ?_
    refine wp_cond_false (A.get rfl) ?_
    refine wp_seq_k fun K8 hK8 => ?_
    refine region_seq ?_  -- region 27
    refine Lo A rfl (y_eql (A.g 17 rfl) (evc _ _) (c := false) (by simpa using e4) fun _ A => ?_)
    refine La A rfl (A.g 157 rfl) fun _ A => ?_
    replace A := A.only [156, 137, 54, 18, 17, 6, 5, 2, 1, 0] rfl
    refine hK8 _ _ ?_
    refine wp_cond_false (A.get rfl) ?_
    refine wp_seq_k fun K9 hK9 => ?_
    refine region_seq ?_  -- region 29
    refine Lo A rfl (y_eql (A.g 17 rfl) (evc _ _) (c := false) (by simpa using e5) fun _ A => ?_)
    refine La A rfl (A.g 176 rfl) fun _ A => ?_
    replace A := A.only [175, 156, 137, 54, 18, 17, 6, 5, 2, 1, 0] rfl
    refine hK9 _ _ ?_
    refine wp_cond_false (A.get rfl) ?_
    refine wp_seq_k fun K10 hK10 => ?_
    refine region_seq ?_  -- region 31
    refine Lo A rfl (y_eql (A.g 17 rfl) (evc _ _) (c := false) (by simpa using e6) fun _ A => ?_)
    refine La A rfl (A.g 199 rfl) fun _ A => ?_
    replace A := A.only [198, 175, 156, 137, 54, 18, 17, 6, 5, 2, 1, 0] rfl
    refine hK10 _ _ ?_
    refine wp_cond_false (A.get rfl) ?_
    refine wp_seq_k fun K11 hK11 => ?_
    refine region_seq ?_  -- region 33
    refine Lo A rfl (y_eql (A.g 17 rfl) (evc _ _) (c := true) (by simp [e7]) fun _ A => ?_)
    refine La A rfl (A.g 214 rfl) fun _ A => ?_
    replace A := A.only [213, 198, 175, 156, 137, 54, 18, 17, 6, 5, 2, 1, 0] rfl
    refine hK11 _ _ ?_
    refine wp_cond_true (A.get rfl) ?_
    refine wp_seq_k fun K12 hK12 => ?_
    refine region_drawS A [] [(0, true), (1, true), (2, true), (3, true), (4, true), (6, true), (7, true), (8, true), (9, true), (10, true), (5, false), (11, false), (12, false), (13, false)] (by kernel_rfl) (by kernel_rfl) (fun d _ _ _ _ h => by cases d <;> exact h) trivial ?_  -- region 34
    intro ac w A gG nN
    replace S : St _ _ _ ([(b1, .cells #[.int .i64 x.d, .int .i64 x.f, .int .i64 x.t, .int .i64 x.i, .int .i64 x.b, .slice ba x.bs.length bc] 57 (0, 0))] ++ (Hm ++ Hr)) := (S.new gG nN).perm (by first | exact .refl _ | (rw [List.append_assoc]; exact .refl _) | (simp only [List.append_assoc, List.nil_append, List.append_nil]; exact .refl _))
    refine S_pure (fun w1 => Holds w1 [(b1, .cells #[.int .i64 x.d, .int .i64 x.f, .int .i64 x.t, .int .i64 x.i, .int .i64 x.b, .slice ba x.bs.length bc] 57 (0, 0))]) (fun _ _ => trivial) ((Holds.cons (S.get 0 rfl) (Holds.nil _)) : (fun w1 => Holds w1 [(b1, .cells #[.int .i64 x.d, .int .i64 x.f, .int .i64 x.t, .int .i64 x.i, .int .i64 x.b, .slice ba x.bs.length bc] 57 (0, 0))]) _) A rfl (by decide) rfl (fun w1 hR => r_move (A.g 0 rfl)) fun _ A => ?_
    refine S_pure (fun w1 => Holds w1 [(b1, .cells #[.int .i64 x.d, .int .i64 x.f, .int .i64 x.t, .int .i64 x.i, .int .i64 x.b, .slice ba x.bs.length bc] 57 (0, 0))]) (fun _ h => h) ((Holds.cons (S.get 0 rfl) (Holds.nil _)) : (fun w1 => Holds w1 [(b1, .cells #[.int .i64 x.d, .int .i64 x.f, .int .i64 x.t, .int .i64 x.i, .int .i64 x.b, .slice ba x.bs.length bc] 57 (0, 0))]) _) A rfl (by decide) rfl (fun w1 hR => r_fieldAddr (off := 1) (j := 1) (by kernel_rfl) (A.g 5 rfl) (by first | rfl | omega)) fun _ A => ?_
    refine S_pure (fun w1 => Holds w1 [(b1, .cells #[.int .i64 x.d, .int .i64 x.f, .int .i64 x.t, .int .i64 x.i, .int .i64 x.b, .slice ba x.bs.length bc] 57 (0, 0))]) (fun _ h => h) ((Holds.cons (S.get 0 rfl) (Holds.nil _)) : (fun w1 => Holds w1 [(b1, .cells #[.int .i64 x.d, .int .i64 x.f, .int .i64 x.t, .int .i64 x.i, .int .i64 x.b, .slice ba x.bs.length bc] 57 (0, 0))]) _) A rfl (by decide) rfl (fun w1 hR => r_load (by kernel_rfl) (A.g 216 rfl) ((cell_of (hR.at 0 rfl) _).trans rfl)) fun _ A => ?_
    refine S_pure (fun w1 => Holds w1 [(b1, .cells #[.int .i64 x.d, .int .i64 x.f, .int .i64 x.t, .int .i64 x.i, .int .i64 x.b, .slice ba x.bs.length bc] 57 (0, 0))]) (fun _ h => h) ((Holds.cons (S.get 0 rfl) (Holds.nil _)) : (fun w1 => Holds w1 [(b1, .cells #[.int .i64 x.d, .int .i64 x.f, .int .i64 x.t, .int .i64 x.i, .int .i64 x.b, .slice ba x.bs.length bc] 57 (0, 0))]) _) A rfl (by decide) rfl (fun w1 hR => r_fieldAddr (off := 2) (j := 2) (by kernel_rfl) (A.g 5 rfl) (by first | rfl | omega)) fun _ A => ?_
    replace A := A.only [218, 217, 215, 213, 198, 175, 156, 137, 54, 18, 17, 6, 5, 2, 1, 0] rfl
    refine S_pure (fun w1 => Holds w1 [(b1, .cells #[.int .i64 x.d, .int .i64 x.f, .int .i64 x.t, .int .i64 x.i, .int .i64 x.b, .slice ba x.bs.length bc] 57 (0, 0))]) (fun _ h => h) ((Holds.cons (S.get 0 rfl) (Holds.nil _)) : (fun w1 => Holds w1 [(b1, .cells #[.int .i64 x.d, .int .i64 x.f, .int .i64 x.t, .int .i64 x.i, .int .i64 x.b, .slice ba x.bs.length bc] 57 (0, 0))]) _) A rfl (by decide) rfl (fun w1 hR => r_load (by kernel_rfl) (A.g 218 rfl) ((cell_of (hR.at 0 rfl) _).trans rfl)) fun _ A => ?_
    refine S_pure (fun w1 => Holds w1 [(b1, .cells #[.int .i64 x.d, .int .i64 x.f, .int .i64 x.t, .int .i64 x.i, .int .i64 x.b, .slice ba x.bs.length bc] 57 (0, 0))]) (fun _ h => h) ((Holds.cons (S.get 0 rfl) (Holds.nil _)) : (fun w1 => Holds w1 [(b1, .cells #[.int .i64 x.d, .int .i64 x.f, .int .i64 x.t, .int .i64 x.i, .int .i64 x.b, .slice ba x.bs.length bc] 57 (0, 0))]) _) A rfl (by decide) rfl (fun w1 hR => r_move (A.g 1 rfl)) fun _ A => ?_
    refine S_pure (fun w1 => Holds w1 [(b1, .cells #[.int .i64 x.d, .int .i64 x.f, .int .i64 x.t, .int .i64 x.i, .int .i64 x.b, .slice ba x.bs.length bc] 57 (0, 0))]) (fun _ h => h) ((Holds.cons (S.get 0 rfl) (Holds.nil _)) : (fun w1 => Holds w1 [(b1, .cells #[.int .i64 x.d, .int .i64 x.f, .int .i64 x.t, .int .i64 x.i, .int .i64 x.b, .slice ba x.bs.length bc] 57 (0, 0))]) _) A rfl (by decide) rfl (fun w1 hR => r_fieldAddr (off := 1) (j := 1) (by kernel_rfl) (A.g 5 rfl) (by first | rfl | omega)) fun _ A => ?_
    refine S_pure (fun w1 => Holds w1 [(b1, .cells #[.int .i64 x.d, .int .i64 x.f, .int .i64 x.t, .int .i64 x.i, .int .i64 x.b, .slice ba x.bs.length bc] 57 (0, 0))]) (fun _ h => h) ((Holds.cons (S.get 0 rfl) (Holds.nil _)) : (fun w1 => Holds w1 [(b1, .cells #[.int .i64 x.d, .int .i64 x.f, .int .i64 x.t, .int .i64 x.i, .int .i64 x.b, .slice ba x.bs.length bc] 57 (0, 0))]) _) A rfl (by decide) rfl (fun w1 hR => r_load (by kernel_rfl) (A.g 222 rfl) ((cell_of (hR.at 0 rfl) _).trans rfl)) fun _ A => ?_
    refine S_pure (fun w1 => Holds w1 [(b1, .cells #[.int .i64 x.d, .int .i64 x.f, .int .i64 x.t, .int .i64 x.i, .int .i64 x.b, .slice ba x.bs.length bc] 57 (0, 0))]) (fun _ h => h) ((Holds.cons (S.get 0 rfl) (Holds.nil _)) : (fun w1 => Holds w1 [(b1, .cells #[.int .i64 x.d, .int .i64 x.f, .int .i64 x.t, .int .i64 x.i, .int .i64 x.b, .slice ba x.bs.length bc] 57 (0, 0))]) _) A rfl (by decide) rfl (fun w1 hR => r_fieldAddr (off := 2) (j := 2) (by kernel_rfl) (A.g 5 rfl) (by first | rfl | omega)) fun _ A => ?_
    replace A := A.only [224, 223, 221, 219, 217, 215, 213, 198, 175, 156, 137, 54, 18, 17, 6, 5, 2, 1, 0] rfl
    refine S_pure (fun w1 => Holds w1 [(b1, .cells #[.int .i64 x.d, .int .i64 x.f, .int .i64 x.t, .int .i64 x.i, .int .i64 x.b, .slice ba x.bs.length bc] 57 (0, 0))]) (fun _ h => h) ((Holds.cons (S.get 0 rfl) (Holds.nil _)) : (fun w1 => Holds w1 [(b1, .cells #[.int .i64 x.d, .int .i64 x.f, .int .i64 x.t, .int .i64 x.i, .int .i64 x.b, .slice ba x.bs.length bc] 57 (0, 0))]) _) A rfl (by decide) rfl (fun w1 hR => r_load (by kernel_rfl) (A.g 224 rfl) ((cell_of (hR.at 0 rfl) _).trans rfl)) fun _ A => ?_
    have hR := ((Holds.cons (S.get 0 rfl) (Holds.nil _)) : (fun w1 => Holds w1 [(b1, .cells #[.int .i64 x.d, .int .i64 x.f, .int .i64 x.t, .int .i64 x.i, .int .i64 x.b, .slice ba x.bs.length bc] 57 (0, 0))]) _)
    obtain ⟨t1, t2, t3⟩ := hs.heal x.f x.t
    have sm := (St.app_left (H := Hm) (K := ([(b1, .cells #[.int .i64 x.d, .int .i64 x.f, .int .i64 x.t, .int .i64 x.i, .int .i64 x.b, .slice ba x.bs.length bc] 57 (0, 0))] ++ Hr)) (S.perm (by classical rw [List.perm_iff_count]; intro x; simp only [List.count_append, List.count_cons, List.count_nil] <;> omega)))
    have c1 := heal_ok hN sm.nd sm.holds okf okt
    rw [t1] at c1
    replace S : St _ _ _ (Hm ++ ([(b1, .cells #[.int .i64 x.d, .int .i64 x.f, .int .i64 x.t, .int .i64 x.i, .int .i64 x.b, .slice ba x.bs.length bc] 57 (0, 0))] ++ Hr)) := S.perm (by classical rw [List.perm_iff_count]; intro x; simp only [List.count_append, List.count_cons, List.count_nil] <;> omega)
    refine S_op A hR rfl (by decide) rfl (y_call3 (by kernel_rfl) rfl (A.g 215 rfl) (A.g 217 rfl) (A.g 219 rfl) (callW (c1) fun v w Hm2 s hf ac A => ?_))
    replace S : St _ _ _ (Hm2 ++ ([(b1, .cells #[.int .i64 x.d, .int .i64 x.f, .int .i64 x.t, .int .i64 x.i, .int .i64 x.b, .slice ba x.bs.length bc] 57 (0, 0))] ++ Hr)) := St.call (H := Hm) (R := ([(b1, .cells #[.int .i64 x.d, .int .i64 x.f, .int .i64 x.t, .int .i64 x.i, .int .i64 x.b, .slice ba x.bs.length bc] 57 (0, 0))] ++ Hr)) S rfl s
    obtain ⟨rfl, hN2⟩ := hf
    replace S : St _ _ _ ([(b1, .cells #[.int .i64 x.d, .int .i64 x.f, .int .i64 x.t, .int .i64 x.i, .int .i64 x.b, .slice ba x.bs.length bc] 57 (0, 0))] ++ (Hm2 ++ Hr)) := S.perm (by classical rw [List.perm_iff_count]; intro x; simp only [List.count_append, List.count_cons, List.count_nil] <;> omega)
    have hR := ((Holds.cons (S.get 0 rfl) (Holds.nil _)) : (fun w1 => Holds w1 [(b1, .cells #[.int .i64 x.d, .int .i64 x.f, .int .i64 x.t, .int .i64 x.i, .int .i64 x.b, .slice ba x.bs.length bc] 57 (0, 0))]) _)
    have sr := (St.app_left (H := Hr) (K := ([(b1, .cells #[.int .i64 x.d, .int .i64 x.f, .int .i64 x.t, .int .i64 x.i, .int .i64 x.b, .slice ba x.bs.length bc] 57 (0, 0))] ++ Hm2)) (S.perm (by classical rw [List.perm_iff_count]; intro x; simp only [List.count_append, List.count_cons, List.count_nil] <;> omega)))
    have c2 := rturn_ok (a := x.f) (b := x.t) (cut := false) hR0 sr.nd sr.holds hw
    replace S : St _ _ _ (Hr ++ ([(b1, .cells #[.int .i64 x.d, .int .i64 x.f, .int .i64 x.t, .int .i64 x.i, .int .i64 x.b, .slice ba x.bs.length bc] 57 (0, 0))] ++ Hm2)) := S.perm (by classical rw [List.perm_iff_count]; intro x; simp only [List.count_append, List.count_cons, List.count_nil] <;> omega)
    refine S_op A hR rfl (by decide) rfl (y_call4 (by kernel_rfl) rfl (A.g 221 rfl) (A.g 223 rfl) (A.g 225 rfl) (evc _ _) (callW (c2) fun v w Hr2 s hf ac A => ?_))
    replace S : St _ _ _ (Hr2 ++ ([(b1, .cells #[.int .i64 x.d, .int .i64 x.f, .int .i64 x.t, .int .i64 x.i, .int .i64 x.b, .slice ba x.bs.length bc] 57 (0, 0))] ++ Hm2)) := St.call (H := Hr) (R := ([(b1, .cells #[.int .i64 x.d, .int .i64 x.f, .int .i64 x.t, .int .i64 x.i, .int .i64 x.b, .slice ba x.bs.length bc] 57 (0, 0))] ++ Hm2)) S rfl s
    obtain ⟨rfl, hR2⟩ := hf
    replace S : St _ _ _ ([(b1, .cells #[.int .i64 x.d, .int .i64 x.f, .int .i64 x.t, .int .i64 x.i, .int .i64 x.b, .slice ba x.bs.length bc] 57 (0, 0))] ++ (Hr2 ++ Hm2)) := S.perm (by classical rw [List.perm_iff_count]; intro x; simp only [List.count_append, List.count_cons, List.count_nil] <;> omega)
    have hR := ((Holds.cons (S.get 0 rfl) (Holds.nil _)) : (fun w1 => Holds w1 [(b1, .cells #[.int .i64 x.d, .int .i64 x.f, .int .i64 x.t, .int .i64 x.i, .int .i64 x.b, .slice ba x.bs.length bc] 57 (0, 0))]) _)
    refine S_op A hR rfl (by decide) rfl (y_eql (A.g 220 rfl) (A.g 226 rfl) (c := true) (by simp) fun _ A => ?_)
    have hR := ((Holds.cons (S.get 0 rfl) (Holds.nil _)) : (fun w1 => Holds w1 [(b1, .cells #[.int .i64 x.d, .int .i64 x.f, .int .i64 x.t, .int .i64 x.i, .int .i64 x.b, .slice ba x.bs.length bc] 57 (0, 0))]) _)
    refine S_op A hR rfl (by decide) rfl (y_assign (A.g 227 rfl) fun _ A => ?_)
    refine S_end ((Holds.cons (S.get 0 rfl) (Holds.nil _)) : (fun w1 => Holds w1 [(b1, .cells #[.int .i64 x.d, .int .i64 x.f, .int .i64 x.t, .int .i64 x.i, .int .i64 x.b, .slice ba x.bs.length bc] 57 (0, 0))]) _) ?_
    replace A := A.only [213, 198, 175, 156, 137, 54, 18, 17, 6, 5, 2, 1, 0] rfl
    refine hK12 _ _ ?_
    replace S : St _ _ _ (Hm2 ++ Hr2) := St.app_left (K := [(b1, .cells #[.int .i64 x.d, .int .i64 x.f, .int .i64 x.t, .int .i64 x.i, .int .i64 x.b, .slice ba x.bs.length bc] 57 (0, 0))]) (S.perm (by classical rw [List.perm_iff_count]; intro x; simp only [List.count_append, List.count_cons, List.count_nil] <;> omega))
    exact wp_ret ⟨A.defers, _, res_run (rs := [.tmp 6]) (vs := [.bool true]) rfl ⟨A.get rfl, trivial⟩, ⟨_, _, rfl, ⟨rfl, _, _, _, _, rfl, hN2, hR2, t2, Nat.le_trans t3 (Nat.le_succ _)⟩, S⟩⟩
  by_cases e8 : x.d = 8
  · skip
    refine enter Try.func31 rfl (n := 267) rfl (Nat.le_of_ble_eq_true rfl) fun _ A => ?_
    have S : St _ _ _ (Hm ++ Hr) := S0
    refine wp_seq_k fun K1 hK1 => ?_
    refine region_seq ?_  -- region 0
    refine Lo A rfl (y_boxN (A.g 2 rfl) fun b1 w gG nN ac A => ?_)
    replace S : St _ _ _ ([(b1, .cells #[.int .i64 x.d, .int .i64 x.f, .int .i64 x.t, .int .i64 x.i, .int .i64 x.b, .slice ba x.bs.length bc] 57 (0, 0))] ++ (Hm ++ Hr)) := (S.new gG nN).perm (by first | exact .refl _ | (rw [List.append_assoc]; exact .refl _) | (simp only [List.append_assoc, List.nil_append, List.append_nil]; exact .refl _))
    refine La A rfl (evc _ _) fun _ A => ?_
    replace A := A.only [6, 5, 2, 1, 0] rfl
    refine hK1 _ _ ?_
    refine wp_seq_k fun K2 hK2 => ?_
    refine wp_seq_k fun K3 hK3 => ?_
    refine region_seq ?_  -- region 1
    refine Lo A rfl (y_fieldAddr (off := 0) (j := 0) (by kernel_rfl) (A.g 5 rfl) (by first | rfl | omega) fun _ A => ?_)
    refine Lo A rfl (y_load (by kernel_rfl) (A.g 16 rfl) ((cell_of (S.get 0 rfl) _).trans rfl) fun _ A => ?_)
    replace A := A.only [17, 6, 5, 2, 1, 0] rfl
    refine hK3 _ _ ?_
    refine wp_block ?_
    refine wp_seq_k fun K4 hK4 => ?_
    refine region_seq ?_  -- region 2
    refine Lo A rfl (y_eql (A.g 17 rfl) (evc _ _) (c := false) (by simpa using e0) fun _ A => ?_)
    refine La A rfl (A.g 19 rfl) fun _ A => ?_
    replace A := A.only [18, 17, 6, 5, 2, 1, 0] rfl
    refine hK4 _ _ ?_
    refine wp_cond_false (A.get rfl) ?_
    refine wp_seq_k fun K5 hK5 => ?_
    refine wp_seq_k fun K6 hK6 => ?_
    refine region_seq ?_  -- region 11
    refine Lo A rfl (y_eql (A.g 17 rfl) (evc _ _) (c := false) (by simpa using e1) fun _ A => ?_)
    refine La A rfl (A.g 55 rfl) fun _ A => ?_
    replace A := A.only [54, 18, 17, 6, 5, 2, 1, 0] rfl
    refine hK6 _ _ ?_
    refine wp_cond_false (A.get rfl) ?_
    refine region_seq ?_  -- region 12
    refine Lo A rfl (y_eql (A.g 17 rfl) (evc _ _) (c := false) (by simpa using e2) fun _ A => ?_)
    refine La A rfl (A.g 56 rfl) fun _ A => ?_
    replace A := A.only [54, 18, 17, 6, 5, 2, 1, 0] rfl
    refine hK5 _ _ ?_
    refine wp_cond_false (A.get rfl) ?_
    refine wp_seq_k fun K7 hK7 => ?_
    refine region_seq ?_  -- region 25
    refine Lo A rfl (y_eql (A.g 17 rfl) (evc _ _) (c := false) (by simpa using e3) fun _ A => ?_)
    refine La A rfl (A.g 138 rfl) fun _ A => ?_
    replace A := A.only [137, 54, 18, 17, 6, 5, 2, 1, 0] rfl
    refine hK7 _ _ ?_
    refine wp_cond_false (A.get rfl) ?_
    refine wp_seq_k fun K8 hK8 => ?_
    refine region_seq ?_  -- region 27
    refine Lo A rfl (y_eql (A.g 17 rfl) (evc _ _) (c := false) (by simpa using e4) fun _ A => ?_)
    refine La A rfl (A.g 157 rfl) fun _ A => ?_
    replace A := A.only [156, 137, 54, 18, 17, 6, 5, 2, 1, 0] rfl
    refine hK8 _ _ ?_
    refine wp_cond_false (A.get rfl) ?_
    refine wp_seq_k fun K9 hK9 => ?_
    refine region_seq ?_  -- region 29
    refine Lo A rfl (y_eql (A.g 17 rfl) (evc _ _) (c := false) (by simpa using e5) fun _ A => ?_)
    refine La A rfl (A.g 176 rfl) fun _ A => ?_
    replace A := A.only [175, 156, 137, 54, 18, 17, 6, 5, 2, 1, 0] rfl
    refine hK9 _ _ ?_
    refine wp_cond_false (A.get rfl) ?_
    refine wp_seq_k fun K10 hK10 => ?_
    refine region_seq ?_  -- region 31
    refine Lo A rfl (y_eql (A.g 17 rfl) (evc _ _) (c := false) (by simpa using e6) fun _ A => ?_)
    refine La A rfl (A.g 199 rfl) fun _ A => ?_
    replace A := A.only [198, 175, 156, 137, 54, 18, 17, 6, 5, 2, 1, 0] rfl
    refine hK10 _ _ ?_
    refine wp_cond_false (A.get rfl) ?_
    refine wp_seq_k fun K11 hK11 => ?_
    refine region_seq ?_  -- region 33
    refine Lo A rfl (y_eql (A.g 17 rfl) (evc _ _) (c := false) (by simpa using e7) fun _ A => ?_)
    refine La A rfl (A.g 214 rfl) fun _ A => ?_
    replace A := A.only [213, 198, 175, 156, 137, 54, 18, 17, 6, 5, 2, 1, 0] rfl
    refine hK11 _ _ ?_
    refine wp_cond_false (A.get rfl) ?_
    refine wp_seq_k fun K12 hK12 => ?_
    refine region_seq ?_  -- region 35
    refine Lo A rfl (y_eql (A.g 17 rfl) (evc _ _) (c := true) (by simp [e8]) fun _ A => ?_)
    refine La A rfl (A.g 229 rfl) fun _ A => ?_
    replace A := A.only [228, 213, 198, 175, 156, 137, 54, 18, 17, 6, 5, 2, 1, 0] rfl
    refine hK12 _ _ ?_
    refine wp_cond_true (A.get rfl) ?_
    refine wp_seq_k fun K13 hK13 => ?_
    refine region_drawS A [] [(0, true), (1, true), (2, true), (4, true), (5, true), (6, true), (3, false), (7, false), (8, false), (9, false)] (by kernel_rfl) (by kernel_rfl) (fun d _ _ _ _ h => by cases d <;> exact h) trivial ?_  -- region 36
    intro ac w A gG nN
    replace S : St _ _ _ ([(b1, .cells #[.int .i64 x.d, .int .i64 x.f, .int .i64 x.t, .int .i64 x.i, .int .i64 x.b, .slice ba x.bs.length bc] 57 (0, 0))] ++ (Hm ++ Hr)) := (S.new gG nN).perm (by first | exact .refl _ | (rw [List.append_assoc]; exact .refl _) | (simp only [List.append_assoc, List.nil_append, List.append_nil]; exact .refl _))
    refine S_pure (fun w1 => Holds w1 [(b1, .cells #[.int .i64 x.d, .int .i64 x.f, .int .i64 x.t, .int .i64 x.i, .int .i64 x.b, .slice ba x.bs.length bc] 57 (0, 0))]) (fun _ _ => trivial) ((Holds.cons (S.get 0 rfl) (Holds.nil _)) : (fun w1 => Holds w1 [(b1, .cells #[.int .i64 x.d, .int .i64 x.f, .int .i64 x.t, .int .i64 x.i, .int .i64 x.b, .slice ba x.bs.length bc] 57 (0, 0))]) _) A rfl (by decide) rfl (fun w1 hR => r_move (A.g 0 rfl)) fun _ A => ?_
    refine S_pure (fun w1 => Holds w1 [(b1, .cells #[.int .i64 x.d, .int .i64 x.f, .int .i64 x.t, .int .i64 x.i, .int .i64 x.b, .slice ba x.bs.length bc] 57 (0, 0))]) (fun _ h => h) ((Holds.cons (S.get 0 rfl) (Holds.nil _)) : (fun w1 => Holds w1 [(b1, .cells #[.int .i64 x.d, .int .i64 x.f, .int .i64 x.t, .int .i64 x.i, .int .i64 x.b, .slice ba x.bs.length bc] 57 (0, 0))]) _) A rfl (by decide) rfl (fun w1 hR => r_fieldAddr (off := 2) (j := 2) (by kernel_rfl) (A.g 5 rfl) (by first | rfl | omega)) fun _ A => ?_
    refine S_pure (fun w1 => Holds w1 [(b1, .cells #[.int .i64 x.d, .int .i64 x.f, .int .i64 x.t, .int .i64 x.i, .int .i64 x.b, .slice ba x.bs.length bc] 57 (0, 0))]) (fun _ h => h) ((Holds.cons (S.get 0 rfl) (Holds.nil _)) : (fun w1 => Holds w1 [(b1, .cells #[.int .i64 x.d, .int .i64 x.f, .int .i64 x.t, .int .i64 x.i, .int .i64 x.b, .slice ba x.bs.length bc] 57 (0, 0))]) _) A rfl (by decide) rfl (fun w1 hR => r_load (by kernel_rfl) (A.g 231 rfl) ((cell_of (hR.at 0 rfl) _).trans rfl)) fun _ A => ?_
    refine S_pure (fun w1 => Holds w1 [(b1, .cells #[.int .i64 x.d, .int .i64 x.f, .int .i64 x.t, .int .i64 x.i, .int .i64 x.b, .slice ba x.bs.length bc] 57 (0, 0))]) (fun _ h => h) ((Holds.cons (S.get 0 rfl) (Holds.nil _)) : (fun w1 => Holds w1 [(b1, .cells #[.int .i64 x.d, .int .i64 x.f, .int .i64 x.t, .int .i64 x.i, .int .i64 x.b, .slice ba x.bs.length bc] 57 (0, 0))]) _) A rfl (by decide) rfl (fun w1 hR => r_move (A.g 1 rfl)) fun _ A => ?_
    replace A := A.only [234, 232, 230, 228, 213, 198, 175, 156, 137, 54, 18, 17, 6, 5, 2, 1, 0] rfl
    refine S_pure (fun w1 => Holds w1 [(b1, .cells #[.int .i64 x.d, .int .i64 x.f, .int .i64 x.t, .int .i64 x.i, .int .i64 x.b, .slice ba x.bs.length bc] 57 (0, 0))]) (fun _ h => h) ((Holds.cons (S.get 0 rfl) (Holds.nil _)) : (fun w1 => Holds w1 [(b1, .cells #[.int .i64 x.d, .int .i64 x.f, .int .i64 x.t, .int .i64 x.i, .int .i64 x.b, .slice ba x.bs.length bc] 57 (0, 0))]) _) A rfl (by decide) rfl (fun w1 hR => r_fieldAddr (off := 2) (j := 2) (by kernel_rfl) (A.g 5 rfl) (by first | rfl | omega)) fun _ A => ?_
    refine S_pure (fun w1 => Holds w1 [(b1, .cells #[.int .i64 x.d, .int .i64 x.f, .int .i64 x.t, .int .i64 x.i, .int .i64 x.b, .slice ba x.bs.length bc] 57 (0, 0))]) (fun _ h => h) ((Holds.cons (S.get 0 rfl) (Holds.nil _)) : (fun w1 => Holds w1 [(b1, .cells #[.int .i64 x.d, .int .i64 x.f, .int .i64 x.t, .int .i64 x.i, .int .i64 x.b, .slice ba x.bs.length bc] 57 (0, 0))]) _) A rfl (by decide) rfl (fun w1 hR => r_load (by kernel_rfl) (A.g 235 rfl) ((cell_of (hR.at 0 rfl) _).trans rfl)) fun _ A => ?_
    have hR := ((Holds.cons (S.get 0 rfl) (Holds.nil _)) : (fun w1 => Holds w1 [(b1, .cells #[.int .i64 x.d, .int .i64 x.f, .int .i64 x.t, .int .i64 x.i, .int .i64 x.b, .slice ba x.bs.length bc] 57 (0, 0))]) _)
    obtain ⟨N, hNn, hN10⟩ := n_of hs
    obtain ⟨t1, t2, t3⟩ := hs.empty x.t N hNn
    have sm := (St.app_left (H := Hm) (K := ([(b1, .cells #[.int .i64 x.d, .int .i64 x.f, .int .i64 x.t, .int .i64 x.i, .int .i64 x.b, .slice ba x.bs.length bc] 57 (0, 0))] ++ Hr)) (S.perm (by classical rw [List.perm_iff_count]; intro x; simp only [List.count_append, List.count_cons, List.count_nil] <;> omega)))
    have c1 := empty_ok (node := x.t) hN sm.nd sm.holds (ord_of hs)
    rw [t1] at c1
    replace S : St _ _ _ (Hm ++ ([(b1, .cells #[.int .i64 x.d, .int .i64 x.f, .int .i64 x.t, .int .i64 x.i, .int .i64 x.b, .slice ba x.bs.length bc] 57 (0, 0))] ++ Hr)) := S.perm (by classical rw [List.perm_iff_count]; intro x; simp only [List.count_append, List.count_cons, List.count_nil] <;> omega)
    refine S_op A hR rfl (by decide) rfl (y_call2 (by kernel_rfl) rfl (A.g 230 rfl) (A.g 232 rfl) (callW (c1) fun v w Hm2 s hf ac A => ?_))
    replace S : St _ _ _ (Hm2 ++ ([(b1, .cells #[.int .i64 x.d, .int .i64 x.f, .int .i64 x.t, .int .i64 x.i, .int .i64 x.b, .slice ba x.bs.length bc] 57 (0, 0))] ++ Hr)) := St.call (H := Hm) (R := ([(b1, .cells #[.int .i64 x.d, .int .i64 x.f, .int .i64 x.t, .int .i64 x.i, .int .i64 x.b, .slice ba x.bs.length bc] 57 (0, 0))] ++ Hr)) S rfl s
    obtain ⟨rfl, hN2⟩ := hf
    replace S : St _ _ _ ([(b1, .cells #[.int .i64 x.d, .int .i64 x.f, .int .i64 x.t, .int .i64 x.i, .int .i64 x.b, .slice ba x.bs.length bc] 57 (0, 0))] ++ (Hm2 ++ Hr)) := S.perm (by classical rw [List.perm_iff_count]; intro x; simp only [List.count_append, List.count_cons, List.count_nil] <;> omega)
    have hR := ((Holds.cons (S.get 0 rfl) (Holds.nil _)) : (fun w1 => Holds w1 [(b1, .cells #[.int .i64 x.d, .int .i64 x.f, .int .i64 x.t, .int .i64 x.i, .int .i64 x.b, .slice ba x.bs.length bc] 57 (0, 0))]) _)
    have sr := (St.app_left (H := Hr) (K := ([(b1, .cells #[.int .i64 x.d, .int .i64 x.f, .int .i64 x.t, .int .i64 x.i, .int .i64 x.b, .slice ba x.bs.length bc] 57 (0, 0))] ++ Hm2)) (S.perm (by classical rw [List.perm_iff_count]; intro x; simp only [List.count_append, List.count_cons, List.count_nil] <;> omega)))
    have c2 := rempty_ok (b := x.t) hR0 sr.nd sr.holds hw N hNn hN10
    replace S : St _ _ _ (Hr ++ ([(b1, .cells #[.int .i64 x.d, .int .i64 x.f, .int .i64 x.t, .int .i64 x.i, .int .i64 x.b, .slice ba x.bs.length bc] 57 (0, 0))] ++ Hm2)) := S.perm (by classical rw [List.perm_iff_count]; intro x; simp only [List.count_append, List.count_cons, List.count_nil] <;> omega)
    refine S_op A hR rfl (by decide) rfl (y_call2 (by kernel_rfl) rfl (A.g 234 rfl) (A.g 236 rfl) (callW (c2) fun v w Hr2 s hf ac A => ?_))
    replace S : St _ _ _ (Hr2 ++ ([(b1, .cells #[.int .i64 x.d, .int .i64 x.f, .int .i64 x.t, .int .i64 x.i, .int .i64 x.b, .slice ba x.bs.length bc] 57 (0, 0))] ++ Hm2)) := St.call (H := Hr) (R := ([(b1, .cells #[.int .i64 x.d, .int .i64 x.f, .int .i64 x.t, .int .i64 x.i, .int .i64 x.b, .slice ba x.bs.length bc] 57 (0, 0))] ++ Hm2)) S rfl s
    obtain ⟨rfl, hR2⟩ := hf
    replace S : St _ _ _ ([(b1, .cells #[.int .i64 x.d, .int .i64 x.f, .int .i64 x.t, .int .i64 x.i, .int .i64 x.b, .slice ba x.bs.length bc] 57 (0, 0))] ++ (Hr2 ++ Hm2)) := S.perm (by classical rw [List.perm_iff_count]; intro x; simp only [List.count_append, List.count_cons, List.count_nil] <;> omega)
    have hR := ((Holds.cons (S.get 0 rfl) (Holds.nil _)) : (fun w1 => Holds w1 [(b1, .cells #[.int .i64 x.d, .int .i64 x.f, .int .i64 x.t, .int .i64 x.i, .int .i64 x.b, .slice ba x.bs.length bc] 57 (0, 0))]) _)
    refine S_op A hR rfl (by decide) rfl (y_eql (A.g 233 rfl) (A.g 237 rfl) (c := true) (by simp) fun _ A => ?_)
    replace A := A.only [238, 228, 213, 198, 175, 156, 137, 54, 18, 17, 6, 5, 2, 1, 0] rfl
    have hR := ((Holds.cons (S.get 0 rfl) (Holds.nil _)) : (fun w1 => Holds w1 [(b1, .cells #[.int .i64 x.d, .int .i64 x.f, .int .i64 x.t, .int .i64 x.i, .int .i64 x.b, .slice ba x.bs.length bc] 57 (0, 0))]) _)
    refine S_op A hR rfl (by decide) rfl (y_assign (A.g 238 rfl) fun _ A => ?_)
    refine S_end ((Holds.cons (S.get 0 rfl) (Holds.nil _)) : (fun w1 => Holds w1 [(b1, .cells #[.int .i64 x.d, .int .i64 x.f, .int .i64 x.t, .int .i64 x.i, .int .i64 x.b, .slice ba x.bs.length bc] 57 (0, 0))]) _) ?_
    replace A := A.only [228, 213, 198, 175, 156, 137, 54, 18, 17, 6, 5, 2, 1, 0] rfl
    refine hK13 _ _ ?_
    replace S : St _ _ _ (Hm2 ++ Hr2) := St.app_left (K := [(b1, .cells #[.int .i64 x.d, .int .i64 x.f, .int .i64 x.t, .int .i64 x.i, .int .i64 x.b, .slice ba x.bs.length bc] 57 (0, 0))]) (S.perm (by classical rw [List.perm_iff_count]; intro x; simp only [List.count_append, List.count_cons, List.count_nil] <;> omega))
    exact wp_ret ⟨A.defers, _, res_run (rs := [.tmp 6]) (vs := [.bool true]) rfl ⟨A.get rfl, trivial⟩, ⟨_, _, rfl, ⟨rfl, _, _, _, _, rfl, hN2, hR2, t2, Nat.le_trans t3 (Nat.le_succ _)⟩, S⟩⟩
  skip
  refine enter Try.func31 rfl (n := 267) rfl (Nat.le_of_ble_eq_true rfl) fun _ A => ?_
  have S : St _ _ _ (Hm ++ Hr) := S0
  refine wp_seq_k fun K1 hK1 => ?_
  refine region_seq ?_  -- region 0
  refine Lo A rfl (y_boxN (A.g 2 rfl) fun b1 w gG nN ac A => ?_)
  replace S : St _ _ _ ([(b1, .cells #[.int .i64 x.d, .int .i64 x.f, .int .i64 x.t, .int .i64 x.i, .int .i64 x.b, .slice ba x.bs.length bc] 57 (0, 0))] ++ (Hm ++ Hr)) := (S.new gG nN).perm (by first | exact .refl _ | (rw [List.append_assoc]; exact .refl _) | (simp only [List.append_assoc, List.nil_append, List.append_nil]; exact .refl _))
  refine La A rfl (evc _ _) fun _ A => ?_
  replace A := A.only [6, 5, 2, 1, 0] rfl
  refine hK1 _ _ ?_
  refine wp_seq_k fun K2 hK2 => ?_
  refine wp_seq_k fun K3 hK3 => ?_
  refine region_seq ?_  -- region 1
  refine Lo A rfl (y_fieldAddr (off := 0) (j := 0) (by kernel_rfl) (A.g 5 rfl) (by first | rfl | omega) fun _ A => ?_)
  refine Lo A rfl (y_load (by kernel_rfl) (A.g 16 rfl) ((cell_of (S.get 0 rfl) _).trans rfl) fun _ A => ?_)
  replace A := A.only [17, 6, 5, 2, 1, 0] rfl
  refine hK3 _ _ ?_
  refine wp_block ?_
  refine wp_seq_k fun K4 hK4 => ?_
  refine region_seq ?_  -- region 2
  refine Lo A rfl (y_eql (A.g 17 rfl) (evc _ _) (c := false) (by simpa using e0) fun _ A => ?_)
  refine La A rfl (A.g 19 rfl) fun _ A => ?_
  replace A := A.only [18, 17, 6, 5, 2, 1, 0] rfl
  refine hK4 _ _ ?_
  refine wp_cond_false (A.get rfl) ?_
  refine wp_seq_k fun K5 hK5 => ?_
  refine wp_seq_k fun K6 hK6 => ?_
  refine region_seq ?_  -- region 11
  refine Lo A rfl (y_eql (A.g 17 rfl) (evc _ _) (c := false) (by simpa using e1) fun _ A => ?_)
  refine La A rfl (A.g 55 rfl) fun _ A => ?_
  replace A := A.only [54, 18, 17, 6, 5, 2, 1, 0] rfl
  refine hK6 _ _ ?_
  refine wp_cond_false (A.get rfl) ?_
  refine region_seq ?_  -- region 12
  refine Lo A rfl (y_eql (A.g 17 rfl) (evc _ _) (c := false) (by simpa using e2) fun _ A => ?_)
  refine La A rfl (A.g 56 rfl) fun _ A => ?_
  replace A := A.only [54, 18, 17, 6, 5, 2, 1, 0] rfl
  refine hK5 _ _ ?_
  refine wp_cond_false (A.get rfl) ?_
  refine wp_seq_k fun K7 hK7 => ?_
  refine region_seq ?_  -- region 25
  refine Lo A rfl (y_eql (A.g 17 rfl) (evc _ _) (c := false) (by simpa using e3) fun _ A => ?_)
  refine La A rfl (A.g 138 rfl) fun _ A => ?_
  replace A := A.only [137, 54, 18, 17, 6, 5, 2, 1, 0] rfl
  refine hK7 _ _ ?_
  refine wp_cond_false (A.get rfl) ?_
  refine wp_seq_k fun K8 hK8 => ?_
  refine region_seq ?_  -- region 27
  refine Lo A rfl (y_eql (A.g 17 rfl) (evc _ _) (c := false) (by simpa using e4) fun _ A => ?_)
  refine La A rfl (A.g 157 rfl) fun _ A => ?_
  replace A := A.only [156, 137, 54, 18, 17, 6, 5, 2, 1, 0] rfl
  refine hK8 _ _ ?_
  refine wp_cond_false (A.get rfl) ?_
  refine wp_seq_k fun K9 hK9 => ?_
  refine region_seq ?_  -- region 29
  refine Lo A rfl (y_eql (A.g 17 rfl) (evc _ _) (c := false) (by simpa using e5) fun _ A => ?_)
  refine La A rfl (A.g 176 rfl) fun _ A => ?_
  replace A := A.only [175, 156, 137, 54, 18, 17, 6, 5, 2, 1, 0] rfl
  refine hK9 _ _ ?_
  refine wp_cond_false (A.get rfl) ?_
  refine wp_seq_k fun K10 hK10 => ?_
  refine region_seq ?_  -- region 31
  refine Lo A rfl (y_eql (A.g 17 rfl) (evc _ _) (c := false) (by simpa using e6) fun _ A => ?_)
  refine La A rfl (A.g 199 rfl) fun _ A => ?_
  replace A := A.only [198, 175, 156, 137, 54, 18, 17, 6, 5, 2, 1, 0] rfl
  refine hK10 _ _ ?_
  refine wp_cond_false (A.get rfl) ?_
  refine wp_seq_k fun K11 hK11 => ?_
  refine region_seq ?_  -- region 33
  refine Lo A rfl (y_eql (A.g 17 rfl) (evc _ _) (c := false) (by simpa using e7) fun _ A => ?_)
  refine La A rfl (A.g 214 rfl) fun _ A => ?_
  replace A := A.only [213, 198, 175, 156, 137, 54, 18, 17, 6, 5, 2, 1, 0] rfl
  refine hK11 _ _ ?_
  refine wp_cond_false (A.get rfl) ?_
  refine wp_seq_k fun K12 hK12 => ?_
  refine region_seq ?_  -- region 35
  refine Lo A rfl (y_eql (A.g 17 rfl) (evc _ _) (c := false) (by simpa using e8) fun _ A => ?_)
  refine La A rfl (A.g 229 rfl) fun _ A => ?_
  replace A := A.only [228, 213, 198, 175, 156, 137, 54, 18, 17, 6, 5, 2, 1, 0] rfl
  refine hK12 _ _ ?_
  refine wp_cond_false (A.get rfl) ?_
  refine wp_skip ?_
  refine hK2 _ _ ?_
  refine wp_seq_k fun K13 hK13 => ?_
  refine region_drawS A [] [(0, true), (1, true), (2, true), (3, true), (4, true), (6, true), (7, true), (8, true), (9, true), (10, true), (5, false), (11, false), (12, false), (13, false), (14, true), (15, true), (16, true), (17, true), (18, true), (20, true), (21, true), (22, true), (23, true), (24, true), (19, false), (25, false), (26, false), (27, false), (28, false)] (by kernel_rfl) (by kernel_rfl) (fun d _ _ _ _ h => by cases d <;> exact h) trivial ?_  -- region 37
  intro ac w A gG nN
  replace S : St _ _ _ ([(b1, .cells #[.int .i64 x.d, .int .i64 x.f, .int .i64 x.t, .int .i64 x.i, .int .i64 x.b, .slice ba x.bs.length bc] 57 (0, 0))] ++ (Hm ++ Hr)) := (S.new gG nN).perm (by first | exact .refl _ | (rw [List.append_assoc]; exact .refl _) | (simp only [List.append_assoc, List.nil_append, List.append_nil]; exact .refl _))
  refine S_pure (fun w1 => Holds w1 [(b1, .cells #[.int .i64 x.d, .int .i64 x.f, .int .i64 x.t, .int .i64 x.i, .int .i64 x.b, .slice ba x.bs.length bc] 57 (0, 0))]) (fun _ _ => trivial) ((Holds.cons (S.get 0 rfl) (Holds.nil _)) : (fun w1 => Holds w1 [(b1, .cells #[.int .i64 x.d, .int .i64 x.f, .int .i64 x.t, .int .i64 x.i, .int .i64 x.b, .slice ba x.bs.length bc] 57 (0, 0))]) _) A rfl (by decide) rfl (fun w1 hR => r_move (A.g 0 rfl)) fun _ A => ?_
  refine S_pure (fun w1 => Holds w1 [(b1, .cells #[.int .i64 x.d, .int .i64 x.f, .int .i64 x.t, .int .i64 x.i, .int .i64 x.b, .slice ba x.bs.length bc] 57 (0, 0))]) (fun _ h => h) ((Holds.cons (S.get 0 rfl) (Holds.nil _)) : (fun w1 => Holds w1 [(b1, .cells #[.int .i64 x.d, .int .i64 x.f, .int .i64 x.t, .int .i64 x.i, .int .i64 x.b, .slice ba x.bs.length bc] 57 (0, 0))]) _) A rfl (by decide) rfl (fun w1 hR => r_fieldAddr (off := 1) (j := 1) (by kernel_rfl) (A.g 5 rfl) (by first | rfl | omega)) fun _ A => ?_
  refine S_pure (fun w1 => Holds w1 [(b1, .cells #[.int .i64 x.d, .int .i64 x.f, .int .i64 x.t, .int .i64 x.i, .int .i64 x.b, .slice ba x.bs.length bc] 57 (0, 0))]) (fun _ h => h) ((Holds.cons (S.get 0 rfl) (Holds.nil _)) : (fun w1 => Holds w1 [(b1, .cells #[.int .i64 x.d, .int .i64 x.f, .int .i64 x.t, .int .i64 x.i, .int .i64 x.b, .slice ba x.bs.length bc] 57 (0, 0))]) _) A rfl (by decide) rfl (fun w1 hR => r_load (by kernel_rfl) (A.g 240 rfl) ((cell_of (hR.at 0 rfl) _).trans rfl)) fun _ A => ?_
  refine S_pure (fun w1 => Holds w1 [(b1, .cells #[.int .i64 x.d, .int .i64 x.f, .int .i64 x.t, .int .i64 x.i, .int .i64 x.b, .slice ba x.bs.length bc] 57 (0, 0))]) (fun _ h => h) ((Holds.cons (S.get 0 rfl) (Holds.nil _)) : (fun w1 => Holds w1 [(b1, .cells #[.int .i64 x.d, .int .i64 x.f, .int .i64 x.t, .int .i64 x.i, .int .i64 x.b, .slice ba x.bs.length bc] 57 (0, 0))]) _) A rfl (by decide) rfl (fun w1 hR => r_fieldAddr (off := 2) (j := 2) (by kernel_rfl) (A.g 5 rfl) (by first | rfl | omega)) fun _ A => ?_
  replace A := A.only [242, 241, 239, 228, 213, 198, 175, 156, 137, 54, 18, 17, 6, 5, 2, 1, 0] rfl
  refine S_pure (fun w1 => Holds w1 [(b1, .cells #[.int .i64 x.d, .int .i64 x.f, .int .i64 x.t, .int .i64 x.i, .int .i64 x.b, .slice ba x.bs.length bc] 57 (0, 0))]) (fun _ h => h) ((Holds.cons (S.get 0 rfl) (Holds.nil _)) : (fun w1 => Holds w1 [(b1, .cells #[.int .i64 x.d, .int .i64 x.f, .int .i64 x.t, .int .i64 x.i, .int .i64 x.b, .slice ba x.bs.length bc] 57 (0, 0))]) _) A rfl (by decide) rfl (fun w1 hR => r_load (by kernel_rfl) (A.g 242 rfl) ((cell_of (hR.at 0 rfl) _).trans rfl)) fun _ A => ?_
  refine S_pure (fun w1 => Holds w1 [(b1, .cells #[.int .i64 x.d, .int .i64 x.f, .int .i64 x.t, .int .i64 x.i, .int .i64 x.b, .slice ba x.bs.length bc] 57 (0, 0))]) (fun _ h => h) ((Holds.cons (S.get 0 rfl) (Holds.nil _)) : (fun w1 => Holds w1 [(b1, .cells #[.int .i64 x.d, .int .i64 x.f, .int .i64 x.t, .int .i64 x.i, .int .i64 x.b, .slice ba x.bs.length bc] 57 (0, 0))]) _) A rfl (by decide) rfl (fun w1 hR => r_move (A.g 1 rfl)) fun _ A => ?_
  refine S_pure (fun w1 => Holds w1 [(b1, .cells #[.int .i64 x.d, .int .i64 x.f, .int .i64 x.t, .int .i64 x.i, .int .i64 x.b, .slice ba x.bs.length bc] 57 (0, 0))]) (fun _ h => h) ((Holds.cons (S.get 0 rfl) (Holds.nil _)) : (fun w1 => Holds w1 [(b1, .cells #[.int .i64 x.d, .int .i64 x.f, .int .i64 x.t, .int .i64 x.i, .int .i64 x.b, .slice ba x.bs.length bc] 57 (0, 0))]) _) A rfl (by decide) rfl (fun w1 hR => r_fieldAddr (off := 1) (j := 1) (by kernel_rfl) (A.g 5 rfl) (by first | rfl | omega)) fun _ A => ?_
  refine S_pure (fun w1 => Holds w1 [(b1, .cells #[.int .i64 x.d, .int .i64 x.f, .int .i64 x.t, .int .i64 x.i, .int .i64 x.b, .slice ba x.bs.length bc] 57 (0, 0))]) (fun _ h => h) ((Holds.cons (S.get 0 rfl) (Holds.nil _)) : (fun w1 => Holds w1 [(b1, .cells #[.int .i64 x.d, .int .i64 x.f, .int .i64 x.t, .int .i64 x.i, .int .i64 x.b, .slice ba x.bs.length bc] 57 (0, 0))]) _) A rfl (by decide) rfl (fun w1 hR => r_load (by kernel_rfl) (A.g 246 rfl) ((cell_of (hR.at 0 rfl) _).trans rfl)) fun _ A => ?_
  refine S_pure (fun w1 => Holds w1 [(b1, .cells #[.int .i64 x.d, .int .i64 x.f, .int .i64 x.t, .int .i64 x.i, .int .i64 x.b, .slice ba x.bs.length bc] 57 (0, 0))]) (fun _ h => h) ((Holds.cons (S.get 0 rfl) (Holds.nil _)) : (fun w1 => Holds w1 [(b1, .cells #[.int .i64 x.d, .int .i64 x.f, .int .i64 x.t, .int .i64 x.i, .int .i64 x.b, .slice ba x.bs.length bc] 57 (0, 0))]) _) A rfl (by decide) rfl (fun w1 hR => r_fieldAddr (off := 2) (j := 2) (by kernel_rfl) (A.g 5 rfl) (by first | rfl | omega)) fun _ A => ?_
  replace A := A.only [248, 247, 245, 243, 241, 239, 228, 213, 198, 175, 156, 137, 54, 18, 17, 6, 5, 2, 1, 0] rfl
  refine S_pure (fun w1 => Holds w1 [(b1, .cells #[.int .i64 x.d, .int .i64 x.f, .int .i64 x.t, .int .i64 x.i, .int .i64 x.b, .slice ba x.bs.length bc] 57 (0, 0))]) (fun _ h => h) ((Holds.cons (S.get 0 rfl) (Holds.nil _)) : (fun w1 => Holds w1 [(b1, .cells #[.int .i64 x.d, .int .i64 x.f, .int .i64 x.t, .int .i64 x.i, .int .i64 x.b, .slice ba x.bs.length bc] 57 (0, 0))]) _) A rfl (by decide) rfl (fun w1 hR => r_load (by kernel_rfl) (A.g 248 rfl) ((cell_of (hR.at 0 rfl) _).trans rfl)) fun _ A => ?_
  have hR := ((Holds.cons (S.get 0 rfl) (Holds.nil _)) : (fun w1 => Holds w1 [(b1, .cells #[.int .i64 x.d, .int .i64 x.f, .int .i64 x.t, .int .i64 x.i, .int .i64 x.b, .slice ba x.bs.length bc] 57 (0, 0))]) _)
  have cN := open_ok hN (St.app_left (H := Hm) (K := ([(b1, .cells #[.int .i64 x.d, .int .i64 x.f, .int .i64 x.t, .int .i64 x.i, .int .i64 x.b, .slice ba x.bs.length bc] 57 (0, 0))] ++ Hr)) (S.perm (by classical rw [List.perm_iff_count]; intro x; simp only [List.count_append, List.count_cons, List.count_nil] <;> omega))).holds (good_ends okf okt)
  rw [hs.opn] at cN
  refine S_op A hR rfl (by decide) rfl (y_call3 (by kernel_rfl) rfl (A.g 239 rfl) (A.g 241 rfl) (A.g 243 rfl) (callN (cN) fun v w H gG nN hf ac A => ?_))
  obtain ⟨rfl, rfl⟩ := hf
  replace S : St _ _ _ ([(b1, .cells #[.int .i64 x.d, .int .i64 x.f, .int .i64 x.t, .int .i64 x.i, .int .i64 x.b, .slice ba x.bs.length bc] 57 (0, 0))] ++ (Hm ++ Hr)) := (S.new gG nN).perm (by first | exact .refl _ | (rw [List.append_assoc]; exact .refl _) | (simp only [List.append_assoc, List.nil_append, List.append_nil]; exact .refl _))
  have hR := ((Holds.cons (S.get 0 rfl) (Holds.nil _)) : (fun w1 => Holds w1 [(b1, .cells #[.int .i64 x.d, .int .i64 x.f, .int .i64 x.t, .int .i64 x.i, .int .i64 x.b, .slice ba x.bs.length bc] 57 (0, 0))]) _)
  obtain ⟨la, lc, ca, cc, wa, wc, gs, hrs⟩ := hR0.src (St.app_left (H := Hr) (K := ([(b1, .cells #[.int .i64 x.d, .int .i64 x.f, .int .i64 x.t, .int .i64 x.i, .int .i64 x.b, .slice ba x.bs.length bc] 57 (0, 0))] ++ Hm)) (S.perm (by classical rw [List.perm_iff_count]; intro x; simp only [List.count_append, List.count_cons, List.count_nil] <;> omega))).holds
  refine S_op A hR rfl (by decide) rfl (y_call3 (by kernel_rfl) rfl (A.g 245 rfl) (A.g 247 rfl) (A.g 249 rfl) (callN (ropen_ok (a := x.f) (b := x.t) hrs) fun v w H gG nN hf ac A => ?_))
  obtain ⟨rfl, rfl⟩ := hf
  replace S : St _ _ _ ([(b1, .cells #[.int .i64 x.d, .int .i64 x.f, .int .i64 x.t, .int .i64 x.i, .int .i64 x.b, .slice ba x.bs.length bc] 57 (0, 0))] ++ (Hm ++ Hr)) := (S.new gG nN).perm (by first | exact .refl _ | (rw [List.append_assoc]; exact .refl _) | (simp only [List.append_assoc, List.nil_append, List.append_nil]; exact .refl _))
  have hR := ((Holds.cons (S.get 0 rfl) (Holds.nil _)) : (fun w1 => Holds w1 [(b1, .cells #[.int .i64 x.d, .int .i64 x.f, .int .i64 x.t, .int .i64 x.i, .int .i64 x.b, .slice ba x.bs.length bc] 57 (0, 0))]) _)
  refine S_op A hR rfl (by decide) rfl (y_eqlBool (by kernel_rfl) (A.g 244 rfl) (A.g 250 rfl) (c := true) (by simp) fun _ A => ?_)
  have hR := ((Holds.cons (S.get 0 rfl) (Holds.nil _)) : (fun w1 => Holds w1 [(b1, .cells #[.int .i64 x.d, .int .i64 x.f, .int .i64 x.t, .int .i64 x.i, .int .i64 x.b, .slice ba x.bs.length bc] 57 (0, 0))]) _)
  refine S_op A hR rfl (by decide) rfl (y_move (A.g 251 rfl) fun _ A => ?_)
  replace A := A.only [252, 228, 213, 198, 175, 156, 137, 54, 18, 17, 6, 5, 2, 1, 0] rfl
  refine S_pureG (fun w1 => Holds w1 [(b1, .cells #[.int .i64 x.d, .int .i64 x.f, .int .i64 x.t, .int .i64 x.i, .int .i64 x.b, .slice ba x.bs.length bc] 57 (0, 0))]) (fun _ h => h) ((Holds.cons (S.get 0 rfl) (Holds.nil _)) : (fun w1 => Holds w1 [(b1, .cells #[.int .i64 x.d, .int .i64 x.f, .int .i64 x.t, .int .i64 x.i, .int .i64 x.b, .slice ba x.bs.length bc] 57 (0, 0))]) _) A rfl (by decide) rfl rfl (by decide) (A.get rfl) (fun w1 hR => r_move (A.g 0 rfl)) fun _ A => ?_
  refine S_pureG (fun w1 => Holds w1 [(b1, .cells #[.int .i64 x.d, .int .i64 x.f, .int .i64 x.t, .int .i64 x.i, .int .i64 x.b, .slice ba x.bs.length bc] 57 (0, 0))]) (fun _ h => h) ((Holds.cons (S.get 0 rfl) (Holds.nil _)) : (fun w1 => Holds w1 [(b1, .cells #[.int .i64 x.d, .int .i64 x.f, .int .i64 x.t, .int .i64 x.i, .int .i64 x.b, .slice ba x.bs.length bc] 57 (0, 0))]) _) A rfl (by decide) rfl rfl (by decide) (A.get rfl) (fun w1 hR => r_fieldAddr (off := 1) (j := 1) (by kernel_rfl) (A.g 5 rfl) (by first | rfl | omega)) fun _ A => ?_
  refine S_pureG (fun w1 => Holds w1 [(b1, .cells #[.int .i64 x.d, .int .i64 x.f, .int .i64 x.t, .int .i64 x.i, .int .i64 x.b, .slice ba x.bs.length bc] 57 (0, 0))]) (fun _ h => h) ((Holds.cons (S.get 0 rfl) (Holds.nil _)) : (fun w1 => Holds w1 [(b1, .cells #[.int .i64 x.d, .int .i64 x.f, .int .i64 x.t, .int .i64 x.i, .int .i64 x.b, .slice ba x.bs.length bc] 57 (0, 0))]) _) A rfl (by decide) rfl rfl (by decide) (A.get rfl) (fun w1 hR => r_load (by kernel_rfl) (A.g 254 rfl) ((cell_of (hR.at 0 rfl) _).trans rfl)) fun _ A => ?_
  refine S_pureG (fun w1 => Holds w1 [(b1, .cells #[.int .i64 x.d, .int .i64 x.f, .int .i64 x.t, .int .i64 x.i, .int .i64 x.b, .slice ba x.bs.length bc] 57 (0, 0))]) (fun _ h => h) ((Holds.cons (S.get 0 rfl) (Holds.nil _)) : (fun w1 => Holds w1 [(b1, .cells #[.int .i64 x.d, .int .i64 x.f, .int .i64 x.t, .int .i64 x.i, .int .i64 x.b, .slice ba x.bs.length bc] 57 (0, 0))]) _) A rfl (by decide) rfl rfl (by decide) (A.get rfl) (fun w1 hR => r_fieldAddr (off := 2) (j := 2) (by kernel_rfl) (A.g 5 rfl) (by first | rfl | omega)) fun _ A => ?_
  refine S_pureG (fun w1 => Holds w1 [(b1, .cells #[.int .i64 x.d, .int .i64 x.f, .int .i64 x.t, .int .i64 x.i, .int .i64 x.b, .slice ba x.bs.length bc] 57 (0, 0))]) (fun _ h => h) ((Holds.cons (S.get 0 rfl) (Holds.nil _)) : (fun w1 => Holds w1 [(b1, .cells #[.int .i64 x.d, .int .i64 x.f, .int .i64 x.t, .int .i64 x.i, .int .i64 x.b, .slice ba x.bs.length bc] 57 (0, 0))]) _) A rfl (by decide) rfl rfl (by decide) (A.get rfl) (fun w1 hR => r_load (by kernel_rfl) (A.g 256 rfl) ((cell_of (hR.at 0 rfl) _).trans rfl)) fun _ A => ?_
  replace A := A.only [257, 255, 253, 252, 228, 213, 198, 175, 156, 137, 54, 18, 17, 6, 5, 2, 1, 0] rfl
  refine S_pureG (fun w1 => Holds w1 [(b1, .cells #[.int .i64 x.d, .int .i64 x.f, .int .i64 x.t, .int .i64 x.i, .int .i64 x.b, .slice ba x.bs.length bc] 57 (0, 0))]) (fun _ h => h) ((Holds.cons (S.get 0 rfl) (Holds.nil _)) : (fun w1 => Holds w1 [(b1, .cells #[.int .i64 x.d, .int .i64 x.f, .int .i64 x.t, .int .i64 x.i, .int .i64 x.b, .slice ba x.bs.length bc] 57 (0, 0))]) _) A rfl (by decide) rfl rfl (by decide) (A.get rfl) (fun w1 hR => r_move (A.g 1 rfl)) fun _ A => ?_
  refine S_pureG (fun w1 => Holds w1 [(b1, .cells #[.int .i64 x.d, .int .i64 x.f, .int .i64 x.t, .int .i64 x.i, .int .i64 x.b, .slice ba x.bs.length bc] 57 (0, 0))]) (fun _ h => h) ((Holds.cons (S.get 0 rfl) (Holds.nil _)) : (fun w1 => Holds w1 [(b1, .cells #[.int .i64 x.d, .int .i64 x.f, .int .i64 x.t, .int .i64 x.i, .int .i64 x.b, .slice ba x.bs.length bc] 57 (0, 0))]) _) A rfl (by decide) rfl rfl (by decide) (A.get rfl) (fun w1 hR => r_fieldAddr (off := 1) (j := 1) (by kernel_rfl) (A.g 5 rfl) (by first | rfl | omega)) fun _ A => ?_
  refine S_pureG (fun w1 => Holds w1 [(b1, .cells #[.int .i64 x.d, .int .i64 x.f, .int .i64 x.t, .int .i64 x.i, .int .i64 x.b, .slice ba x.bs.length bc] 57 (0, 0))]) (fun _ h => h) ((Holds.cons (S.get 0 rfl) (Holds.nil _)) : (fun w1 => Holds w1 [(b1, .cells #[.int .i64 x.d, .int .i64 x.f, .int .i64 x.t, .int .i64 x.i, .int .i64 x.b, .slice ba x.bs.length bc] 57 (0, 0))]) _) A rfl (by decide) rfl rfl (by decide) (A.get rfl) (fun w1 hR => r_load (by kernel_rfl) (A.g 260 rfl) ((cell_of (hR.at 0 rfl) _).trans rfl)) fun _ A => ?_
  refine S_pureG (fun w1 => Holds w1 [(b1, .cells #[.int .i64 x.d, .int .i64 x.f, .int .i64 x.t, .int .i64 x.i, .int .i64 x.b, .slice ba x.bs.length bc] 57 (0, 0))]) (fun _ h => h) ((Holds.cons (S.get 0 rfl) (Holds.nil _)) : (fun w1 => Holds w1 [(b1, .cells #[.int .i64 x.d, .int .i64 x.f, .int .i64 x.t, .int .i64 x.i, .int .i64 x.b, .slice ba x.bs.length bc] 57 (0, 0))]) _) A rfl (by decide) rfl rfl (by decide) (A.get rfl) (fun w1 hR => r_fieldAddr (off := 2) (j := 2) (by kernel_rfl) (A.g 5 rfl) (by first | rfl | omega)) fun _ A => ?_
  refine S_pureG (fun w1 => Holds w1 [(b1, .cells #[.int .i64 x.d, .int .i64 x.f, .int .i64 x.t, .int .i64 x.i, .int .i64 x.b, .slice ba x.bs.length bc] 57 (0, 0))]) (fun _ h => h) ((Holds.cons (S.get 0 rfl) (Holds.nil _)) : (fun w1 => Holds w1 [(b1, .cells #[.int .i64 x.d, .int .i64 x.f, .int .i64 x.t, .int .i64 x.i, .int .i64 x.b, .slice ba x.bs.length bc] 57 (0, 0))]) _) A rfl (by decide) rfl rfl (by decide) (A.get rfl) (fun w1 hR => r_load (by kernel_rfl) (A.g 262 rfl) ((cell_of (hR.at 0 rfl) _).trans rfl)) fun _ A => ?_
  replace A := A.only [263, 261, 259, 257, 255, 253, 252, 228, 213, 198, 175, 156, 137, 54, 18, 17, 6, 5, 2, 1, 0] rfl
  have hR := ((Holds.cons (S.get 0 rfl) (Holds.nil _)) : (fun w1 => Holds w1 [(b1, .cells #[.int .i64 x.d, .int .i64 x.f, .int .i64 x.t, .int .i64 x.i, .int .i64 x.b, .slice ba x.bs.length bc] 57 (0, 0))]) _)
  have cN := len_ok hN (St.app_left (H := Hm) (K := ([(b1, .cells #[.int .i64 x.d, .int .i64 x.f, .int .i64 x.t, .int .i64 x.i, .int .i64 x.b, .slice ba x.bs.length bc] 57 (0, 0))] ++ Hr)) (S.perm (by classical rw [List.perm_iff_count]; intro x; simp only [List.count_append, List.count_cons, List.count_nil] <;> omega))).holds (good okf okt)
  rw [hs.len] at cN
  refine S_yes A hR rfl (by decide) rfl rfl (by decide) (A.get rfl) (y_call3 (by kernel_rfl) rfl (A.g 253 rfl) (A.g 255 rfl) (A.g 257 rfl) (callN (cN) fun v w H gG nN hf ac A => ?_))
  obtain ⟨rfl, rfl⟩ := hf
  replace S : St _ _ _ ([(b1, .cells #[.int .i64 x.d, .int .i64 x.f, .int .i64 x.t, .int .i64 x.i, .int .i64 x.b, .slice ba x.bs.length bc] 57 (0, 0))] ++ (Hm ++ Hr)) := (S.new gG nN).perm (by first | exact .refl _ | (rw [List.append_assoc]; exact .refl _) | (simp only [List.append_assoc, List.nil_append, List.append_nil]; exact .refl _))
  have hR := ((Holds.cons (S.get 0 rfl) (Holds.nil _)) : (fun w1 => Holds w1 [(b1, .cells #[.int .i64 x.d, .int .i64 x.f, .int .i64 x.t, .int .i64 x.i, .int .i64 x.b, .slice ba x.bs.length bc] 57 (0, 0))]) _)
  obtain ⟨la, lc, ca, cc, wa, wc, gs, hrs⟩ := hR0.src (St.app_left (H := Hr) (K := ([(b1, .cells #[.int .i64 x.d, .int .i64 x.f, .int .i64 x.t, .int .i64 x.i, .int .i64 x.b, .slice ba x.bs.length bc] 57 (0, 0))] ++ Hm)) (S.perm (by classical rw [List.perm_iff_count]; intro x; simp only [List.count_append, List.count_cons, List.count_nil] <;> omega))).holds
  refine S_yes A hR rfl (by decide) rfl rfl (by decide) (A.get rfl) (y_call3 (by kernel_rfl) rfl (A.g 259 rfl) (A.g 261 rfl) (A.g 263 rfl) (callN (rlen_ok (a := x.f) (b := x.t) hrs hw) fun v w H gG nN hf ac A => ?_))
  obtain ⟨rfl, rfl⟩ := hf
  replace S : St _ _ _ ([(b1, .cells #[.int .i64 x.d, .int .i64 x.f, .int .i64 x.t, .int .i64 x.i, .int .i64 x.b, .slice ba x.bs.length bc] 57 (0, 0))] ++ (Hm ++ Hr)) := (S.new gG nN).perm (by first | exact .refl _ | (rw [List.append_assoc]; exact .refl _) | (simp only [List.append_assoc, List.nil_append, List.append_nil]; exact .refl _))
  have hR := ((Holds.cons (S.get 0 rfl) (Holds.nil _)) : (fun w1 => Holds w1 [(b1, .cells #[.int .i64 x.d, .int .i64 x.f, .int .i64 x.t, .int .i64 x.i, .int .i64 x.b, .slice ba x.bs.length bc] 57 (0, 0))]) _)
  refine S_yes A hR rfl (by decide) rfl rfl (by decide) (A.get rfl) (y_eql (A.g 258 rfl) (A.g 264 rfl) (c := true) (by simp) fun _ A => ?_)
  have hR := ((Holds.cons (S.get 0 rfl) (Holds.nil _)) : (fun w1 => Holds w1 [(b1, .cells #[.int .i64 x.d, .int .i64 x.f, .int .i64 x.t, .int .i64 x.i, .int .i64 x.b, .slice ba x.bs.length bc] 57 (0, 0))]) _)
  refine S_op A hR rfl (by decide) rfl (y_pickT (A.g 252 rfl) (A.g 265 rfl) fun _ A => ?_)
  have hR := ((Holds.cons (S.get 0 rfl) (Holds.nil _)) : (fun w1 => Holds w1 [(b1, .cells #[.int .i64 x.d, .int .i64 x.f, .int .i64 x.t, .int .i64 x.i, .int .i64 x.b, .slice ba x.bs.length bc] 57 (0, 0))]) _)
  refine S_op A hR rfl (by decide) rfl (y_assign (A.g 266 rfl) fun _ A => ?_)
  refine S_end ((Holds.cons (S.get 0 rfl) (Holds.nil _)) : (fun w1 => Holds w1 [(b1, .cells #[.int .i64 x.d, .int .i64 x.f, .int .i64 x.t, .int .i64 x.i, .int .i64 x.b, .slice ba x.bs.length bc] 57 (0, 0))]) _) ?_
  replace A := A.only [228, 213, 198, 175, 156, 137, 54, 18, 17, 6, 5, 2, 1, 0] rfl
  refine hK13 _ _ ?_
  replace S : St _ _ _ (Hm ++ Hr) := St.app_left (K := [(b1, .cells #[.int .i64 x.d, .int .i64 x.f, .int .i64 x.t, .int .i64 x.i, .int .i64 x.b, .slice ba x.bs.length bc] 57 (0, 0))]) (S.perm (by classical rw [List.perm_iff_count]; intro x; simp only [List.count_append, List.count_cons, List.count_nil] <;> omega))
  exact wp_ret ⟨A.defers, _, res_run (rs := [.tmp 6]) (vs := [.bool true]) rfl ⟨A.get rfl, trivial⟩, ⟨_, _, rfl, ⟨rfl, _, _, _, _, rfl, hN, hR0, hs, Nat.le_succ _⟩, S⟩⟩
end Go.Proofs.Ytaeidblipdjgnaa
