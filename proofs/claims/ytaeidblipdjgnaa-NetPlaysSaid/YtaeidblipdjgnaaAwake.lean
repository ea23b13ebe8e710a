import Derived.Test.YtaeidblipdjgnaaApi
namespace Go.Proofs.Ytaeidblipdjgnaa
open Go.RowKit Go.Maps Go.WideMaps

theorem St.off {D : List Nat} {w0 w : World} {H R : Frag} (s : St D w0 w (H ++ R)) (i : Nat) {b : Nat} {o : Obj} (h : R[i]? = some (b, o)) : b ∉ keys H := by
  intro hb
  have := s.nd
  rw [keys_app] at this
  exact (List.nodup_append.1 this).2.2 b hb b (List.mem_map.2 ⟨(b, o), List.mem_of_getElem? h, rfl⟩) rfl
theorem off_block {b n c : Nat} {D : List Nat} (h : b ∉ D) : Off (.slice (some ⟨b, 0, none⟩) n c) D := by
  intro a n' c' e _; simp only [Value.slice.injEq, Option.some.injEq] at e; obtain ⟨rfl, -, -⟩ := e; exact h
theorem row_cells {w : World} {b : Nat} {cs : Array Value} {T : TypeId} {fr : Nat × Nat} {k : Nat} {xs : List Value} (hb : w.heap[b]? = some (.cells cs T fr)) (ht : cs.toList.take k = xs) {off : Nat} {vs : List Value} (hv : (xs.drop off).take vs.length = vs) (hk : off + vs.length ≤ k) : ∀ j (hj : j < vs.length), w.cell? ((⟨b, off, none⟩ : Addr).add j) = some vs[j] := by
  intro j hj
  rw [add_eq, cell_of hb, SlRep.cell ht (by omega)]
  have : ((xs.drop off).take vs.length)[j]? = some vs[j] := by rw [hv]; exact List.getElem?_eq_getElem hj
  rw [List.getElem?_take, if_pos hj, List.getElem?_drop] at this
  exact this
section
variable {p : Nat} {m m' : M} {H : Frag} {w : World} {a b i bit r : Int} {v : Value} {bs : List UInt8}
theorem new_is {ls : List (Int × Int)} {n : Int} (e : newM n ls = some m) (hs : Src w 2 v ls.length (pairs ls)) (hl : ls.length ≤ 1000000) (hg : ∀ l ∈ ls, i64 l.1 ∧ i64 l.2) : Calls Try.prog 10 #[.int .i64 n, v] w (RetN w fun r H => ∃ p, r = .tuple #[.pointer (some ⟨p, 0, none⟩), .int .i64 0] ∧ NetRep p m H) :=
  (new_ok hs hl hg).mono (by
    rintro e' w' ⟨v', rfl, g, H, hr, n'⟩
    refine ⟨v', rfl, g, H, ?_, n'⟩
    rcases hr with ⟨h1, _⟩ | ⟨m2, p, h1, h2, h3⟩
    · rw [e] at h1; cases h1
    · rw [e] at h1; cases h1; exact ⟨p, h2, h3⟩)
theorem send_is (e : m.send a b bs = (r, m')) (h : NetRep p m H) (nd : (keys H).Nodup) (hH : Holds w H) (ha : i64 a) (hb : i64 b) (hv : BSrc w v bs) (hd : Off v (keys H)) :
    Calls Try.prog 11 #[.pointer (some ⟨p, 0, none⟩), .int .i64 a, .int .i64 b, v] w (RetW (keys H) w fun v H' => v = .int .i64 r ∧ NetRep p m' H') := by
  have := send_ok h nd hH ha hb hv hd; rw [e] at this; exact this
theorem take_is (e : m.take a b i = (bs, r, m')) (h : NetRep p m H) (nd : (keys H).Nodup) (hH : Holds w H) (ha : i64 a) (hb : i64 b) :
    Calls Try.prog 12 #[.pointer (some ⟨p, 0, none⟩), .int .i64 a, .int .i64 b, .int .i64 i] w (RetW (keys H) w fun v H' => ∃ vb Hb Hn, v = .tuple #[vb, .int .i64 r] ∧ BRep vb bs Hb ∧ H' = Hn ++ Hb ∧ NetRep p m' Hn) := by
  have := take_ok (i := i) h nd hH ha hb; rw [e] at this; exact this
theorem double_is (e : m.double a b i = (r, m')) (h : NetRep p m H) (nd : (keys H).Nodup) (hH : Holds w H) (ha : i64 a) (hb : i64 b) :
    Calls Try.prog 20 #[.pointer (some ⟨p, 0, none⟩), .int .i64 a, .int .i64 b, .int .i64 i] w (RetW (keys H) w fun v H' => v = .int .i64 r ∧ NetRep p m' H') := by
  have := double_ok (i := i) h nd hH ha hb; rw [e] at this; exact this
theorem spoil_is (e : m.spoil a b i bit = (r, m')) (h : NetRep p m H) (nd : (keys H).Nodup) (hH : Holds w H) (ha : i64 a) (hb : i64 b) (hc : i64 bit) :
    Calls Try.prog 33 #[.pointer (some ⟨p, 0, none⟩), .int .i64 a, .int .i64 b, .int .i64 i, .int .i64 bit] w (RetW (keys H) w fun v H' => v = .int .i64 r ∧ NetRep p m' H') := by
  have := spoil_ok (i := i) h nd hH ha hb hc; rw [e] at this; exact this
theorem len_is {n : Nat} (e : (m.q (a, b)).length = n) (h : NetRep p m H) (hH : Holds w H) (ha : i64 a) (hb : i64 b) : Calls Try.prog 13 #[.pointer (some ⟨p, 0, none⟩), .int .i64 a, .int .i64 b] w (RetN w (eqv (.int .i64 n))) := by
  have := len_ok (w := w) h hH (good ha hb : goodK (a, b)); rw [e] at this; exact this
theorem open_is {c : Bool} (e : m.open' a b = c) (h : NetRep p m H) (hH : Holds w H) (ha : i64 a) (hb : i64 b) : Calls Try.prog 17 #[.pointer (some ⟨p, 0, none⟩), .int .i64 a, .int .i64 b] w (RetN w (eqv (.bool c))) := by
  have := open_ok (w := w) h hH (good_ends ha hb); rw [e] at this; exact this
end
def aw0 : M := M.fresh 3 [(1, 2), (2, 3)]
def aw1 : M := (aw0.send 1 2 [97]).2
def aw2 : M := (aw1.send 1 2 [98]).2
def aw3 : M := (aw2.spoil 1 2 0 1).2
def aw4 : M := (aw3.double 1 2 0).2
def aw5 : M := (aw4.spoil 1 2 2 0).2
def aw6 : M := (aw5.take 1 2 2).2.2
theorem ew1 : aw0.send 1 2 [97] = (0, aw1) := Prod.ext (by kernel_rfl) rfl
theorem ew2 : aw1.send 1 2 [98] = (0, aw2) := Prod.ext (by kernel_rfl) rfl
theorem ew3 : aw2.spoil 1 2 0 1 = (0, aw3) := Prod.ext (by kernel_rfl) rfl
theorem ew4 : aw3.double 1 2 0 = (0, aw4) := Prod.ext (by kernel_rfl) rfl
theorem ew5 : aw4.spoil 1 2 2 0 = (6, aw5) := Prod.ext (by kernel_rfl) rfl
theorem ew6 : aw5.take 1 2 2 = ([99], 0, aw6) := Prod.ext (by kernel_rfl) (Prod.ext (by kernel_rfl) rfl)
theorem i64_lit {x : Int} (h : (decide (-9223372036854775808 ≤ x) && decide (x ≤ 9223372036854775807)) = true) : i64 x := by
  simp only [Bool.and_eq_true, decide_eq_true_eq] at h; exact h

set_option maxRecDepth 20000 in
set_option maxHeartbeats 8000000 in
theorem awake_ok {w0 : World} : Calls Try.prog 9 #[] w0 (RetN w0 fun r _ => r = .bool true) := by
  refine enter Try.func9 rfl (n := 98) rfl (Nat.le_of_ble_eq_true rfl) fun _ A => ?_
  have S : St _ _ _ [] := St.none w0
  refine wp_seq_k fun K1 hK1 => ?_
  refine region_seq ?_  -- region 0
  refine La A rfl (evc _ _) fun _ A => ?_
  replace A := A.only [0] rfl
  refine hK1 _ _ ?_
  refine wp_seq_k fun K2 hK2 => ?_
  refine region_seq ?_  -- region 1
  refine Lo A rfl (y_build2 (evc _ _) (evc _ _) (v := .agg #[.int .i64 1, .int .i64 2]) (by kernel_rfl) fun _ A => ?_)
  refine Lo A rfl (y_build2 (evc _ _) (evc _ _) (v := .agg #[.int .i64 3, .int .i64 2]) (by kernel_rfl) fun _ A => ?_)
  refine Lo A rfl (y_buildSlice2 (c := #[.int .i64 1, .int .i64 2, .int .i64 3, .int .i64 2]) (e := 28) (A.g 12 rfl) (A.g 13 rfl) (fun w => by kernel_rfl) fun b1 w gG nN ac A => ?_)
  replace S : St _ _ _ [(b1, .cells #[.int .i64 1, .int .i64 2, .int .i64 3, .int .i64 2] 28 (0, 0))] := S.new gG nN
  refine Lo A rfl (y_call2 (by kernel_rfl) rfl (evc _ _) (A.g 14 rfl) (callN (new_is (ls := [(1, 2), (3, 2)]) (m := aw0) rfl ⟨rfl, Or.inr ⟨_, _, rfl, cells_at (S.get 0 rfl) rfl⟩⟩ (by decide) (by intro l hl; simp only [List.mem_cons, List.not_mem_nil, or_false] at hl; rcases hl with rfl | rfl <;> exact ⟨i64_lit rfl, i64_lit rfl⟩)) fun v w Hn gG nN hf ac A => ?_))
  obtain ⟨p, rfl, hN⟩ := hf
  replace S : St _ _ _ (Hn ++ [(b1, .cells #[.int .i64 1, .int .i64 2, .int .i64 3, .int .i64 2] 28 (0, 0))]) := (S.new gG nN).perm (by first | exact .refl _ | (rw [List.append_assoc]; exact .refl _) | (simp only [List.append_assoc, List.nil_append, List.append_nil]; exact .refl _))
  replace S : St _ _ _ ([(b1, .cells #[.int .i64 1, .int .i64 2, .int .i64 3, .int .i64 2] 28 (0, 0))] ++ Hn) := S.perm (by classical rw [List.perm_iff_count]; intro x; simp only [List.count_append, List.count_cons, List.count_nil] <;> omega)
  replace A := A.only [15, 0] rfl
  refine Lm A rfl (A.g 15 rfl) fun _ A => Lo A rfl (y_extract (A.g 11 rfl) rfl fun _ A => ?_)
  refine Lo A rfl (y_extract (A.g 11 rfl) rfl fun _ A => ?_)
  refine La A rfl (A.g 16 rfl) fun _ A => ?_
  replace A := A.only [17, 1, 0] rfl
  refine La A rfl (A.g 17 rfl) fun _ A => ?_
  replace A := A.only [2, 1, 0] rfl
  refine hK2 _ _ ?_
  refine wp_seq_k fun K3 hK3 => ?_
  refine wp_seq_k fun K4 hK4 => ?_
  refine region_seq ?_  -- region 2
  refine Lm A rfl (A.g 2 rfl) fun _ A => Lo A rfl (y_neq (A.g 18 rfl) (evc _ _) (c := false) (by decide) fun _ A => ?_)
  refine Lm A rfl (A.g 19 rfl) fun _ A => L_yes A rfl (by decide) rfl rfl (by decide) (A.get rfl) (y_move (A.g 1 rfl) fun _ A => ?_)
  refine L_yes A rfl (by decide) rfl rfl (by decide) (A.get rfl) (y_ptrNil (c := false) (by kernel_rfl) (A.g 21 rfl) (evc _ _) rfl fun _ A => ?_)
  refine Lo A rfl (y_pickF (A.g 20 rfl) (A.g 22 rfl) fun _ A => ?_)
  replace A := A.only [23, 2, 1, 0] rfl
  refine hK4 _ _ ?_
  refine wp_cond_false (A.get rfl) ?_
  refine wp_skip ?_
  refine hK3 _ _ ?_
  refine wp_seq_k fun K5 hK5 => ?_
  refine region_seq ?_  -- region 4
  refine Lm A rfl (A.g 1 rfl) fun _ A => Lo A rfl (y_buildSlice1 (c := #[.int .u8 97]) (e := 5) (evc _ _) (fun w => by kernel_rfl) fun b2 w gG nN ac A => ?_)
  replace S : St _ _ _ ([(b2, .cells #[.int .u8 97] 5 (0, 0)), (b1, .cells #[.int .i64 1, .int .i64 2, .int .i64 3, .int .i64 2] 28 (0, 0))] ++ Hn) := (S.new gG nN).perm (by first | exact .refl _ | (rw [List.append_assoc]; exact .refl _) | (simp only [List.append_assoc, List.nil_append, List.append_nil]; exact .refl _))
  refine Lo A rfl (y_bytesConst (by kernel_rfl) (by kernel_rfl) (A.g 25 rfl) (S.get 0 rfl) fun _ A => ?_)
  replace S : St _ _ _ ([(b2, .cells #[.int .u8 97] 5 (1, 2)), (b1, .cells #[.int .i64 1, .int .i64 2, .int .i64 3, .int .i64 2] 28 (0, 0))] ++ Hn) := S.setAt 0 rfl _
  replace S : St _ _ _ (Hn ++ [(b2, .cells #[.int .u8 97] 5 (1, 2)), (b1, .cells #[.int .i64 1, .int .i64 2, .int .i64 3, .int .i64 2] 28 (0, 0))]) := S.perm (by classical rw [List.perm_iff_count]; intro x; simp only [List.count_append, List.count_cons, List.count_nil] <;> omega)
  refine Lo A rfl (y_call4 (by kernel_rfl) rfl (A.g 24 rfl) (evc _ _) (evc _ _) (A.g 26 rfl) (callW (send_is (bs := [97]) ew1 hN S.app_left.nd S.app_left.holds (i64_lit rfl) (i64_lit rfl) ⟨rfl, Or.inr ⟨_, _, rfl, cells_at (S.app_right.get 0 rfl) rfl⟩⟩ (off_block (S.off 0 rfl))) fun v w Hn1 s hf ac A => ?_))
  replace S : St _ _ _ (Hn1 ++ [(b2, .cells #[.int .u8 97] 5 (1, 2)), (b1, .cells #[.int .i64 1, .int .i64 2, .int .i64 3, .int .i64 2] 28 (0, 0))]) := St.call (H := Hn) (R := [(b2, .cells #[.int .u8 97] 5 (1, 2)), (b1, .cells #[.int .i64 1, .int .i64 2, .int .i64 3, .int .i64 2] 28 (0, 0))]) S rfl s
  obtain ⟨rfl, hN⟩ := hf
  replace S : St _ _ _ ([(b2, .cells #[.int .u8 97] 5 (1, 2)), (b1, .cells #[.int .i64 1, .int .i64 2, .int .i64 3, .int .i64 2] 28 (0, 0))] ++ Hn1) := S.perm (by classical rw [List.perm_iff_count]; intro x; simp only [List.count_append, List.count_cons, List.count_nil] <;> omega)
  replace A := A.only [27, 23, 2, 1, 0] rfl
  refine Lm A rfl (A.g 1 rfl) fun _ A => Lo A rfl (y_buildSlice1 (c := #[.int .u8 98]) (e := 5) (evc _ _) (fun w => by kernel_rfl) fun b3 w gG nN ac A => ?_)
  replace S : St _ _ _ ([(b3, .cells #[.int .u8 98] 5 (0, 0)), (b2, .cells #[.int .u8 97] 5 (1, 2)), (b1, .cells #[.int .i64 1, .int .i64 2, .int .i64 3, .int .i64 2] 28 (0, 0))] ++ Hn1) := (S.new gG nN).perm (by first | exact .refl _ | (rw [List.append_assoc]; exact .refl _) | (simp only [List.append_assoc, List.nil_append, List.append_nil]; exact .refl _))
  refine Lo A rfl (y_bytesConst (by kernel_rfl) (by kernel_rfl) (A.g 29 rfl) (S.get 0 rfl) fun _ A => ?_)
  replace S : St _ _ _ ([(b3, .cells #[.int .u8 98] 5 (1, 2)), (b2, .cells #[.int .u8 97] 5 (1, 2)), (b1, .cells #[.int .i64 1, .int .i64 2, .int .i64 3, .int .i64 2] 28 (0, 0))] ++ Hn1) := S.setAt 0 rfl _
  replace S : St _ _ _ (Hn1 ++ [(b3, .cells #[.int .u8 98] 5 (1, 2)), (b2, .cells #[.int .u8 97] 5 (1, 2)), (b1, .cells #[.int .i64 1, .int .i64 2, .int .i64 3, .int .i64 2] 28 (0, 0))]) := S.perm (by classical rw [List.perm_iff_count]; intro x; simp only [List.count_append, List.count_cons, List.count_nil] <;> omega)
  refine Lo A rfl (y_call4 (by kernel_rfl) rfl (A.g 28 rfl) (evc _ _) (evc _ _) (A.g 30 rfl) (callW (send_is (bs := [98]) ew2 hN S.app_left.nd S.app_left.holds (i64_lit rfl) (i64_lit rfl) ⟨rfl, Or.inr ⟨_, _, rfl, cells_at (S.app_right.get 0 rfl) rfl⟩⟩ (off_block (S.off 0 rfl))) fun v w Hn2 s hf ac A => ?_))
  replace S : St _ _ _ (Hn2 ++ [(b3, .cells #[.int .u8 98] 5 (1, 2)), (b2, .cells #[.int .u8 97] 5 (1, 2)), (b1, .cells #[.int .i64 1, .int .i64 2, .int .i64 3, .int .i64 2] 28 (0, 0))]) := St.call (H := Hn1) (R := [(b3, .cells #[.int .u8 98] 5 (1, 2)), (b2, .cells #[.int .u8 97] 5 (1, 2)), (b1, .cells #[.int .i64 1, .int .i64 2, .int .i64 3, .int .i64 2] 28 (0, 0))]) S rfl s
  obtain ⟨rfl, hN⟩ := hf
  replace S : St _ _ _ ([(b3, .cells #[.int .u8 98] 5 (1, 2)), (b2, .cells #[.int .u8 97] 5 (1, 2)), (b1, .cells #[.int .i64 1, .int .i64 2, .int .i64 3, .int .i64 2] 28 (0, 0))] ++ Hn2) := S.perm (by classical rw [List.perm_iff_count]; intro x; simp only [List.count_append, List.count_cons, List.count_nil] <;> omega)
  replace A := A.only [31, 27, 23, 2, 1, 0] rfl
  refine La A rfl (A.g 27 rfl) fun _ A => La A rfl (A.g 31 rfl) fun _ A => ?_
  replace A := A.only [23, 4, 3, 2, 1, 0] rfl
  refine hK5 _ _ ?_
  refine wp_seq_k fun K6 hK6 => ?_
  refine region_seq ?_  -- region 5
  refine Lm A rfl (A.g 1 rfl) fun _ A => ?_
  replace S : St _ _ _ (Hn2 ++ [(b3, .cells #[.int .u8 98] 5 (1, 2)), (b2, .cells #[.int .u8 97] 5 (1, 2)), (b1, .cells #[.int .i64 1, .int .i64 2, .int .i64 3, .int .i64 2] 28 (0, 0))]) := S.perm (by classical rw [List.perm_iff_count]; intro x; simp only [List.count_append, List.count_cons, List.count_nil] <;> omega)
  refine Lo A rfl (y_call5 (by kernel_rfl) rfl (A.g 32 rfl) (evc _ _) (evc _ _) (evc _ _) (evc _ _) (callW (spoil_is ew3 hN S.app_left.nd S.app_left.holds (i64_lit rfl) (i64_lit rfl) (i64_lit rfl)) fun v w Hn3 s hf ac A => ?_))
  replace S : St _ _ _ (Hn3 ++ [(b3, .cells #[.int .u8 98] 5 (1, 2)), (b2, .cells #[.int .u8 97] 5 (1, 2)), (b1, .cells #[.int .i64 1, .int .i64 2, .int .i64 3, .int .i64 2] 28 (0, 0))]) := St.call (H := Hn2) (R := [(b3, .cells #[.int .u8 98] 5 (1, 2)), (b2, .cells #[.int .u8 97] 5 (1, 2)), (b1, .cells #[.int .i64 1, .int .i64 2, .int .i64 3, .int .i64 2] 28 (0, 0))]) S rfl s
  obtain ⟨rfl, hN⟩ := hf
  replace S : St _ _ _ ([(b3, .cells #[.int .u8 98] 5 (1, 2)), (b2, .cells #[.int .u8 97] 5 (1, 2)), (b1, .cells #[.int .i64 1, .int .i64 2, .int .i64 3, .int .i64 2] 28 (0, 0))] ++ Hn3) := S.perm (by classical rw [List.perm_iff_count]; intro x; simp only [List.count_append, List.count_cons, List.count_nil] <;> omega)
  refine Lm A rfl (A.g 1 rfl) fun _ A => ?_
  replace S : St _ _ _ (Hn3 ++ [(b3, .cells #[.int .u8 98] 5 (1, 2)), (b2, .cells #[.int .u8 97] 5 (1, 2)), (b1, .cells #[.int .i64 1, .int .i64 2, .int .i64 3, .int .i64 2] 28 (0, 0))]) := S.perm (by classical rw [List.perm_iff_count]; intro x; simp only [List.count_append, List.count_cons, List.count_nil] <;> omega)
  refine Lo A rfl (y_call4 (by kernel_rfl) rfl (A.g 34 rfl) (evc _ _) (evc _ _) (evc _ _) (callW (double_is ew4 hN S.app_left.nd S.app_left.holds (i64_lit rfl) (i64_lit rfl)) fun v w Hn4 s hf ac A => ?_))
  replace S : St _ _ _ (Hn4 ++ [(b3, .cells #[.int .u8 98] 5 (1, 2)), (b2, .cells #[.int .u8 97] 5 (1, 2)), (b1, .cells #[.int .i64 1, .int .i64 2, .int .i64 3, .int .i64 2] 28 (0, 0))]) := St.call (H := Hn3) (R := [(b3, .cells #[.int .u8 98] 5 (1, 2)), (b2, .cells #[.int .u8 97] 5 (1, 2)), (b1, .cells #[.int .i64 1, .int .i64 2, .int .i64 3, .int .i64 2] 28 (0, 0))]) S rfl s
  obtain ⟨rfl, hN⟩ := hf
  replace S : St _ _ _ ([(b3, .cells #[.int .u8 98] 5 (1, 2)), (b2, .cells #[.int .u8 97] 5 (1, 2)), (b1, .cells #[.int .i64 1, .int .i64 2, .int .i64 3, .int .i64 2] 28 (0, 0))] ++ Hn4) := S.perm (by classical rw [List.perm_iff_count]; intro x; simp only [List.count_append, List.count_cons, List.count_nil] <;> omega)
  replace A := A.only [35, 33, 23, 4, 3, 2, 1, 0] rfl
  refine Lm A rfl (A.g 1 rfl) fun _ A => ?_
  replace S : St _ _ _ (Hn4 ++ [(b3, .cells #[.int .u8 98] 5 (1, 2)), (b2, .cells #[.int .u8 97] 5 (1, 2)), (b1, .cells #[.int .i64 1, .int .i64 2, .int .i64 3, .int .i64 2] 28 (0, 0))]) := S.perm (by classical rw [List.perm_iff_count]; intro x; simp only [List.count_append, List.count_cons, List.count_nil] <;> omega)
  refine Lo A rfl (y_call5 (by kernel_rfl) rfl (A.g 36 rfl) (evc _ _) (evc _ _) (evc _ _) (evc _ _) (callW (spoil_is ew5 hN S.app_left.nd S.app_left.holds (i64_lit rfl) (i64_lit rfl) (i64_lit rfl)) fun v w Hn5 s hf ac A => ?_))
  replace S : St _ _ _ (Hn5 ++ [(b3, .cells #[.int .u8 98] 5 (1, 2)), (b2, .cells #[.int .u8 97] 5 (1, 2)), (b1, .cells #[.int .i64 1, .int .i64 2, .int .i64 3, .int .i64 2] 28 (0, 0))]) := St.call (H := Hn4) (R := [(b3, .cells #[.int .u8 98] 5 (1, 2)), (b2, .cells #[.int .u8 97] 5 (1, 2)), (b1, .cells #[.int .i64 1, .int .i64 2, .int .i64 3, .int .i64 2] 28 (0, 0))]) S rfl s
  obtain ⟨rfl, hN⟩ := hf
  replace S : St _ _ _ ([(b3, .cells #[.int .u8 98] 5 (1, 2)), (b2, .cells #[.int .u8 97] 5 (1, 2)), (b1, .cells #[.int .i64 1, .int .i64 2, .int .i64 3, .int .i64 2] 28 (0, 0))] ++ Hn5) := S.perm (by classical rw [List.perm_iff_count]; intro x; simp only [List.count_append, List.count_cons, List.count_nil] <;> omega)
  refine La A rfl (A.g 33 rfl) fun _ A => La A rfl (A.g 35 rfl) fun _ A => ?_
  replace A := A.only [37, 23, 6, 5, 4, 3, 2, 1, 0] rfl
  refine La A rfl (A.g 37 rfl) fun _ A => ?_
  replace A := A.only [23, 7, 6, 5, 4, 3, 2, 1, 0] rfl
  refine hK6 _ _ ?_
  refine wp_seq_k fun K7 hK7 => ?_
  refine region_seq ?_  -- region 6
  refine Lm A rfl (A.g 1 rfl) fun _ A => ?_
  replace S : St _ _ _ (Hn5 ++ [(b3, .cells #[.int .u8 98] 5 (1, 2)), (b2, .cells #[.int .u8 97] 5 (1, 2)), (b1, .cells #[.int .i64 1, .int .i64 2, .int .i64 3, .int .i64 2] 28 (0, 0))]) := S.perm (by classical rw [List.perm_iff_count]; intro x; simp only [List.count_append, List.count_cons, List.count_nil] <;> omega)
  refine Lo A rfl (y_call4 (by kernel_rfl) rfl (A.g 39 rfl) (evc _ _) (evc _ _) (evc _ _) (callW (take_is ew6 hN S.app_left.nd S.app_left.holds (i64_lit rfl) (i64_lit rfl)) fun v w Hx s hf ac A => ?_))
  replace S : St _ _ _ (Hx ++ [(b3, .cells #[.int .u8 98] 5 (1, 2)), (b2, .cells #[.int .u8 97] 5 (1, 2)), (b1, .cells #[.int .i64 1, .int .i64 2, .int .i64 3, .int .i64 2] 28 (0, 0))]) := St.call (H := Hn5) (R := [(b3, .cells #[.int .u8 98] 5 (1, 2)), (b2, .cells #[.int .u8 97] 5 (1, 2)), (b1, .cells #[.int .i64 1, .int .i64 2, .int .i64 3, .int .i64 2] 28 (0, 0))]) S rfl s
  obtain ⟨vb, Hb, Hn6, rfl, hB, rfl, hN⟩ := hf
  replace S : St _ _ _ ((Hn6 ++ Hb) ++ [(b3, .cells #[.int .u8 98] 5 (1, 2)), (b2, .cells #[.int .u8 97] 5 (1, 2)), (b1, .cells #[.int .i64 1, .int .i64 2, .int .i64 3, .int .i64 2] 28 (0, 0))]) := S
  replace S : St _ _ _ (Hn6 ++ (Hb ++ [(b3, .cells #[.int .u8 98] 5 (1, 2)), (b2, .cells #[.int .u8 97] 5 (1, 2)), (b1, .cells #[.int .i64 1, .int .i64 2, .int .i64 3, .int .i64 2] 28 (0, 0))])) := S.perm (by classical rw [List.perm_iff_count]; intro x; simp only [List.count_append, List.count_cons, List.count_nil] <;> omega)
  replace S : St _ _ _ ([(b3, .cells #[.int .u8 98] 5 (1, 2)), (b2, .cells #[.int .u8 97] 5 (1, 2)), (b1, .cells #[.int .i64 1, .int .i64 2, .int .i64 3, .int .i64 2] 28 (0, 0))] ++ (Hn6 ++ Hb)) := S.perm (by classical rw [List.perm_iff_count]; intro x; simp only [List.count_append, List.count_cons, List.count_nil] <;> omega)
  obtain ⟨va, vc, rfl⟩ := SlRep.len hB
  refine Lm A rfl (A.g 40 rfl) fun _ A => Lo A rfl (y_extract (A.g 38 rfl) rfl fun _ A => ?_)
  replace A := A.only [41, 38, 23, 7, 6, 5, 4, 3, 2, 1, 0] rfl
  refine Lo A rfl (y_extract (A.g 38 rfl) rfl fun _ A => ?_)
  refine La A rfl (A.g 41 rfl) fun _ A => La A rfl (A.g 42 rfl) fun _ A => ?_
  replace A := A.only [23, 9, 8, 7, 6, 5, 4, 3, 2, 1, 0] rfl
  refine hK7 _ _ ?_
  refine wp_seq_k fun K8 hK8 => ?_
  refine region_seq ?_  -- region 7
  refine Lm A rfl (A.g 1 rfl) fun _ A => Lo A rfl (y_call1 (by kernel_rfl) rfl (A.g 43 rfl) (callN (links_ok hN (St.app_left (H := Hn6) (K := ([(b3, .cells #[.int .u8 98] 5 (1, 2)), (b2, .cells #[.int .u8 97] 5 (1, 2)), (b1, .cells #[.int .i64 1, .int .i64 2, .int .i64 3, .int .i64 2] 28 (0, 0))] ++ Hb)) (S.perm (by classical rw [List.perm_iff_count]; intro x; simp only [List.count_append, List.count_cons, List.count_nil] <;> omega))).holds) fun vl w Hl gG nN hf ac A => ?_))
  obtain ⟨lb, lcap, lcs, rfl, rfl, hcs, hcap, htake⟩ := SlRep.block hf (by decide)
  replace S : St _ _ _ ([(lb, .cells lcs 28 (0, 0)), (b3, .cells #[.int .u8 98] 5 (1, 2)), (b2, .cells #[.int .u8 97] 5 (1, 2)), (b1, .cells #[.int .i64 1, .int .i64 2, .int .i64 3, .int .i64 2] 28 (0, 0))] ++ (Hn6 ++ Hb)) := (S.new gG nN).perm (by first | exact .refl _ | (rw [List.append_assoc]; exact .refl _) | (simp only [List.append_assoc, List.nil_append, List.append_nil]; exact .refl _))
  refine La A rfl (A.g 44 rfl) fun _ A => ?_
  replace A := A.only [23, 10, 9, 8, 7, 6, 5, 4, 3, 2, 1, 0] rfl
  refine hK8 _ _ ?_
  refine wp_seq_k fun K9 hK9 => ?_
  refine region_seq ?_  -- region 8
  refine Lm A rfl (A.g 3 rfl) fun _ A => Lo A rfl (y_eql (A.g 45 rfl) (evc _ _) (c := true) (by decide) fun _ A => ?_)
  refine Lm A rfl (A.g 46 rfl) fun _ A => L_yes A rfl (by decide) rfl rfl (by decide) (A.get rfl) (y_move (A.g 4 rfl) fun _ A => ?_)
  replace A := A.only [48, 47, 23, 10, 9, 8, 7, 6, 5, 4, 3, 2, 1, 0] rfl
  refine L_yes A rfl (by decide) rfl rfl (by decide) (A.get rfl) (y_eql (A.g 48 rfl) (evc _ _) (c := true) (by decide) fun _ A => ?_)
  refine Lo A rfl (y_pickT (A.g 47 rfl) (A.g 49 rfl) fun _ A => ?_)
  refine Lm A rfl (A.g 50 rfl) fun _ A => L_yes A rfl (by decide) rfl rfl (by decide) (A.get rfl) (y_move (A.g 5 rfl) fun _ A => ?_)
  replace A := A.only [52, 51, 23, 10, 9, 8, 7, 6, 5, 4, 3, 2, 1, 0] rfl
  refine L_yes A rfl (by decide) rfl rfl (by decide) (A.get rfl) (y_eql (A.g 52 rfl) (evc _ _) (c := true) (by decide) fun _ A => ?_)
  refine Lo A rfl (y_pickT (A.g 51 rfl) (A.g 53 rfl) fun _ A => ?_)
  refine Lm A rfl (A.g 54 rfl) fun _ A => L_yes A rfl (by decide) rfl rfl (by decide) (A.get rfl) (y_move (A.g 6 rfl) fun _ A => ?_)
  replace A := A.only [56, 55, 23, 10, 9, 8, 7, 6, 5, 4, 3, 2, 1, 0] rfl
  refine L_yes A rfl (by decide) rfl rfl (by decide) (A.get rfl) (y_eql (A.g 56 rfl) (evc _ _) (c := true) (by decide) fun _ A => ?_)
  refine Lo A rfl (y_pickT (A.g 55 rfl) (A.g 57 rfl) fun _ A => ?_)
  refine Lm A rfl (A.g 58 rfl) fun _ A => L_yes A rfl (by decide) rfl rfl (by decide) (A.get rfl) (y_move (A.g 7 rfl) fun _ A => ?_)
  replace A := A.only [60, 59, 23, 10, 9, 8, 7, 6, 5, 4, 3, 2, 1, 0] rfl
  refine L_yes A rfl (by decide) rfl rfl (by decide) (A.get rfl) (y_eql (A.g 60 rfl) (evc _ _) (c := true) (by decide) fun _ A => ?_)
  refine Lo A rfl (y_pickT (A.g 59 rfl) (A.g 61 rfl) fun _ A => ?_)
  refine Lm A rfl (A.g 62 rfl) fun _ A => L_yes A rfl (by decide) rfl rfl (by decide) (A.get rfl) (y_move (A.g 8 rfl) fun _ A => ?_)
  replace A := A.only [64, 63, 23, 10, 9, 8, 7, 6, 5, 4, 3, 2, 1, 0] rfl
  refine L_yes A rfl (by decide) rfl rfl (by decide) (A.get rfl) (y_bytesStr (e := 5) (l := [99]) (by kernel_rfl) (by kernel_rfl) (by kernel_rfl) (A.g 64 rfl) (hB.src (St.app_left (H := Hb) (K := ([(lb, .cells lcs 28 (0, 0)), (b3, .cells #[.int .u8 98] 5 (1, 2)), (b2, .cells #[.int .u8 97] 5 (1, 2)), (b1, .cells #[.int .i64 1, .int .i64 2, .int .i64 3, .int .i64 2] 28 (0, 0))] ++ Hn6)) (S.perm (by classical rw [List.perm_iff_count]; intro x; simp only [List.count_append, List.count_cons, List.count_nil] <;> omega))).holds) fun _ A => ?_)
  refine L_yes A rfl (by decide) rfl rfl (by decide) (A.get rfl) (y_eqlStr (a := [99]) (b := [99]) (A.g 65 rfl) (evc _ _) (c := true) (by decide) fun _ A => ?_)
  refine Lo A rfl (y_pickT (A.g 63 rfl) (A.g 66 rfl) fun _ A => ?_)
  refine Lm A rfl (A.g 67 rfl) fun _ A => ?_
  replace A := A.only [68, 23, 10, 9, 8, 7, 6, 5, 4, 3, 2, 1, 0] rfl
  refine L_yes A rfl (by decide) rfl rfl (by decide) (A.get rfl) (y_move (A.g 9 rfl) fun _ A => ?_)
  refine L_yes A rfl (by decide) rfl rfl (by decide) (A.get rfl) (y_eql (A.g 69 rfl) (evc _ _) (c := true) (by decide) fun _ A => ?_)
  refine Lo A rfl (y_pickT (A.g 68 rfl) (A.g 70 rfl) fun _ A => ?_)
  refine Lm A rfl (A.g 71 rfl) fun _ A => ?_
  replace A := A.only [72, 23, 10, 9, 8, 7, 6, 5, 4, 3, 2, 1, 0] rfl
  refine L_yes A rfl (by decide) rfl rfl (by decide) (A.get rfl) (y_move (A.g 1 rfl) fun _ A => ?_)
  refine L_yes A rfl (by decide) rfl rfl (by decide) (A.get rfl) (y_call3 (by kernel_rfl) rfl (A.g 73 rfl) (evc _ _) (evc _ _) (callN (len_is (n := 2) rfl hN (St.app_left (H := Hn6) (K := ([(lb, .cells lcs 28 (0, 0)), (b3, .cells #[.int .u8 98] 5 (1, 2)), (b2, .cells #[.int .u8 97] 5 (1, 2)), (b1, .cells #[.int .i64 1, .int .i64 2, .int .i64 3, .int .i64 2] 28 (0, 0))] ++ Hb)) (S.perm (by classical rw [List.perm_iff_count]; intro x; simp only [List.count_append, List.count_cons, List.count_nil] <;> omega))).holds (i64_lit rfl) (i64_lit rfl)) fun v w H gG nN hf ac A => ?_))
  obtain ⟨rfl, rfl⟩ := hf
  replace S : St _ _ _ ([(lb, .cells lcs 28 (0, 0)), (b3, .cells #[.int .u8 98] 5 (1, 2)), (b2, .cells #[.int .u8 97] 5 (1, 2)), (b1, .cells #[.int .i64 1, .int .i64 2, .int .i64 3, .int .i64 2] 28 (0, 0))] ++ (Hn6 ++ Hb)) := (S.new gG nN).perm (by first | exact .refl _ | (rw [List.append_assoc]; exact .refl _) | (simp only [List.append_assoc, List.nil_append, List.append_nil]; exact .refl _))
  refine L_yes A rfl (by decide) rfl rfl (by decide) (A.get rfl) (y_eql (A.g 74 rfl) (evc _ _) (c := true) (by decide) fun _ A => ?_)
  refine Lo A rfl (y_pickT (A.g 72 rfl) (A.g 75 rfl) fun _ A => ?_)
  replace A := A.only [76, 23, 10, 9, 8, 7, 6, 5, 4, 3, 2, 1, 0] rfl
  refine Lm A rfl (A.g 76 rfl) fun _ A => L_yes A rfl (by decide) rfl rfl (by decide) (A.get rfl) (y_move (A.g 10 rfl) fun _ A => ?_)
  refine L_yes A rfl (by decide) rfl rfl (by decide) (A.get rfl) (y_lenS (e := 28) (by kernel_rfl) (A.g 78 rfl) fun _ A => ?_)
  refine L_yes A rfl (by decide) rfl rfl (by decide) (A.get rfl) (y_eql (A.g 79 rfl) (evc _ _) (c := true) (by decide) fun _ A => ?_)
  replace A := A.only [80, 77, 23, 10, 9, 8, 7, 6, 5, 4, 3, 2, 1, 0] rfl
  refine Lo A rfl (y_pickT (A.g 77 rfl) (A.g 80 rfl) fun _ A => ?_)
  refine Lm A rfl (A.g 81 rfl) fun _ A => L_yes A rfl (by decide) rfl rfl (by decide) (A.get rfl) (y_move (A.g 10 rfl) fun _ A => ?_)
  refine L_yes A rfl (by decide) rfl rfl (by decide) (A.get rfl) (y_indexS (e := 28) (size := 2) (by kernel_rfl) (by kernel_rfl) (A.g 83 rfl) rfl (by decide) (by decide) (j := 2) rfl fun _ A => ?_)
  replace A := A.only [84, 82, 23, 10, 9, 8, 7, 6, 5, 4, 3, 2, 1, 0] rfl
  refine L_yes A rfl (by decide) rfl rfl (by decide) (A.get rfl) (y_loadAgg [.int .i64 2, .int .i64 3] (by kernel_rfl) (A.g 84 rfl) (row_cells (S.get 0 rfl) htake rfl (by decide)) fun _ A => ?_)
  refine L_yes A rfl (by decide) rfl rfl (by decide) (A.get rfl) (y_build2 (evc _ _) (evc _ _) (v := .agg #[.int .i64 2, .int .i64 3]) (by kernel_rfl) fun _ A => ?_)
  refine L_yes A rfl (by decide) rfl rfl (by decide) (A.get rfl) (y_eqlPair (e := 3) (by kernel_rfl) (by kernel_rfl) (by kernel_rfl) (by kernel_rfl) (A.g 85 rfl) (A.g 86 rfl) (r := true) (by decide) fun _ A => ?_)
  refine Lo A rfl (y_pickT (A.g 82 rfl) (A.g 87 rfl) fun _ A => ?_)
  replace A := A.only [88, 23, 10, 9, 8, 7, 6, 5, 4, 3, 2, 1, 0] rfl
  refine Lm A rfl (A.g 88 rfl) fun _ A => L_yes A rfl (by decide) rfl rfl (by decide) (A.get rfl) (y_move (A.g 1 rfl) fun _ A => ?_)
  refine L_yes A rfl (by decide) rfl rfl (by decide) (A.get rfl) (y_call3 (by kernel_rfl) rfl (A.g 90 rfl) (evc _ _) (evc _ _) (callN (open_is (c := true) rfl hN (St.app_left (H := Hn6) (K := ([(lb, .cells lcs 28 (0, 0)), (b3, .cells #[.int .u8 98] 5 (1, 2)), (b2, .cells #[.int .u8 97] 5 (1, 2)), (b1, .cells #[.int .i64 1, .int .i64 2, .int .i64 3, .int .i64 2] 28 (0, 0))] ++ Hb)) (S.perm (by classical rw [List.perm_iff_count]; intro x; simp only [List.count_append, List.count_cons, List.count_nil] <;> omega))).holds (i64_lit rfl) (i64_lit rfl)) fun v w H gG nN hf ac A => ?_))
  obtain ⟨rfl, rfl⟩ := hf
  replace S : St _ _ _ ([(lb, .cells lcs 28 (0, 0)), (b3, .cells #[.int .u8 98] 5 (1, 2)), (b2, .cells #[.int .u8 97] 5 (1, 2)), (b1, .cells #[.int .i64 1, .int .i64 2, .int .i64 3, .int .i64 2] 28 (0, 0))] ++ (Hn6 ++ Hb)) := (S.new gG nN).perm (by first | exact .refl _ | (rw [List.append_assoc]; exact .refl _) | (simp only [List.append_assoc, List.nil_append, List.append_nil]; exact .refl _))
  refine Lo A rfl (y_pickT (A.g 89 rfl) (A.g 91 rfl) fun _ A => ?_)
  replace A := A.only [92, 23, 10, 9, 8, 7, 6, 5, 4, 3, 2, 1, 0] rfl
  refine Lm A rfl (A.g 92 rfl) fun _ A => L_yes A rfl (by decide) rfl rfl (by decide) (A.get rfl) (y_move (A.g 1 rfl) fun _ A => ?_)
  refine L_yes A rfl (by decide) rfl rfl (by decide) (A.get rfl) (y_call3 (by kernel_rfl) rfl (A.g 94 rfl) (evc _ _) (evc _ _) (callN (open_is (c := false) rfl hN (St.app_left (H := Hn6) (K := ([(lb, .cells lcs 28 (0, 0)), (b3, .cells #[.int .u8 98] 5 (1, 2)), (b2, .cells #[.int .u8 97] 5 (1, 2)), (b1, .cells #[.int .i64 1, .int .i64 2, .int .i64 3, .int .i64 2] 28 (0, 0))] ++ Hb)) (S.perm (by classical rw [List.perm_iff_count]; intro x; simp only [List.count_append, List.count_cons, List.count_nil] <;> omega))).holds (i64_lit rfl) (i64_lit rfl)) fun v w H gG nN hf ac A => ?_))
  obtain ⟨rfl, rfl⟩ := hf
  replace S : St _ _ _ ([(lb, .cells lcs 28 (0, 0)), (b3, .cells #[.int .u8 98] 5 (1, 2)), (b2, .cells #[.int .u8 97] 5 (1, 2)), (b1, .cells #[.int .i64 1, .int .i64 2, .int .i64 3, .int .i64 2] 28 (0, 0))] ++ (Hn6 ++ Hb)) := (S.new gG nN).perm (by first | exact .refl _ | (rw [List.append_assoc]; exact .refl _) | (simp only [List.append_assoc, List.nil_append, List.append_nil]; exact .refl _))
  refine L_yes A rfl (by decide) rfl rfl (by decide) (A.get rfl) (y_not (A.g 95 rfl) rfl fun _ A => ?_)
  replace A := A.only [96, 93, 23, 10, 9, 8, 7, 6, 5, 4, 3, 2, 1, 0] rfl
  refine Lo A rfl (y_pickT (A.g 93 rfl) (A.g 96 rfl) fun _ A => ?_)
  refine La A rfl (A.g 97 rfl) fun _ A => ?_
  replace A := A.only [23, 10, 9, 8, 7, 6, 5, 4, 3, 2, 1, 0] rfl
  refine hK9 _ _ ?_
  exact wp_ret ⟨A.defers, _, res_run (rs := [.tmp 0]) (vs := [.bool true]) rfl ⟨A.get rfl, trivial⟩, ⟨_, rfl, S.kp.to_gr, _, rfl, S.newF⟩⟩
end Go.Proofs.Ytaeidblipdjgnaa
