import Derived.Test.YtaeidblipdjgnaaApi
namespace Go.Proofs.Ytaeidblipdjgnaa
open Go.RowKit Go.Maps Go.WideMaps

theorem St.off {D : List Nat} {w0 w : World} {H R : Frag} (s : St D w0 w (H ++ R)) (i : Nat) {b : Nat} {o : Obj} (h : R[i]? = some (b, o)) : b ∉ keys H := by
  intro hb
  have := s.nd
  rw [keys_app] at this
  exact (List.nodup_append.1 this).2.2 b hb b (List.mem_map.2 ⟨(b, o), List.mem_of_getElem? h, rfl⟩) rfl
theorem off_block {b n c : Nat} {D : List Nat} (h : b ∉ D) : Off (.slice (some ⟨b, 0, none⟩) n c) D := by
  intro a n' c' e _; simp only [Value.slice.injEq, Option.some.injEq] at e; obtain ⟨rfl, -, -⟩ := e; exact h
theorem row_cells {w : World} {b : Nat} {cs : Array Value} {T : TypeId} {fr : Nat × Nat} {k : Nat} {xs : List Value} (hb : w.heap[b]? = some (.cells cs T fr)) (ht : cs.toList.take k = xs) {off : Nat} {vs : List Value} (hv : (xs.drop off).take vs.length = vs) (hk : off + vs.length ≤ k) : ∀ j (hj : j < vs.length), w.cell? ((⟨b, off, none⟩ : Addr).add j) = some vs[j] := by
  intro j hj
  rw [add_eq, cell_of hb, SlRep.cell ht (by omega)]
  have : ((xs.drop off).take vs.length)[j]? = some vs[j] := by rw [hv]; exact List.getElem?_eq_getElem hj
  rw [List.getElem?_take, if_pos hj, List.getElem?_drop] at this
  exact this
section
variable {p : Nat} {m m' : M} {H : Frag} {w : World} {a b i bit r : Int} {v : Value} {bs : List UInt8}
theorem new_is {ls : List (Int × Int)} {n : Int} (e : newM n ls = some m) (hs : Src w 2 v ls.length (pairs ls)) (hl : ls.length ≤ 1000000) (hg : ∀ l ∈ ls, i64 l.1 ∧ i64 l.2) : Calls Try.prog 10 #[.int .i64 n, v] w (RetN w fun r H => ∃ p, r = .tuple #[.pointer (some ⟨p, 0, none⟩), .int .i64 0] ∧ NetRep p m H) :=
  (new_ok hs hl hg).mono (by
    rintro e' w' ⟨v', rfl, g, H, hr, n'⟩
    refine ⟨v', rfl, g, H, ?_, n'⟩
    rcases hr with ⟨h1, _⟩ | ⟨m2, p, h1, h2, h3⟩
    · rw [e] at h1; cases h1
    · rw [e] at h1; cases h1; exact ⟨p, h2, h3⟩)
theorem send_is (e : m.send a b bs = (r, m')) (h : NetRep p m H) (nd : (keys H).Nodup) (hH : Holds w H) (ha : i64 a) (hb : i64 b) (hv : BSrc w v bs) (hd : Off v (keys H)) :
    Calls Try.prog 11 #[.pointer (some ⟨p, 0, none⟩), .int .i64 a, .int .i64 b, v] w (RetW (keys H) w fun v H' => v = .int .i64 r ∧ NetRep p m' H') := by
  have := send_ok h nd hH ha hb hv hd; rw [e] at this; exact this
theorem take_is (e : m.take a b i = (bs, r, m')) (h : NetRep p m H) (nd : (keys H).Nodup) (hH : Holds w H) (ha : i64 a) (hb : i64 b) :
    Calls Try.prog 12 #[.pointer (some ⟨p, 0, none⟩), .int .i64 a, .int .i64 b, .int .i64 i] w (RetW (keys H) w fun v H' => ∃ vb Hb Hn, v = .tuple #[vb, .int .i64 r] ∧ BRep vb bs Hb ∧ H' = Hn ++ Hb ∧ NetRep p m' Hn) := by
  have := take_ok (i := i) h nd hH ha hb; rw [e] at this; exact this
theorem double_is (e : m.double a b i = (r, m')) (h : NetRep p m H) (nd : (keys H).Nodup) (hH : Holds w H) (ha : i64 a) (hb : i64 b) :
    Calls Try.prog 20 #[.pointer (some ⟨p, 0, none⟩), .int .i64 a, .int .i64 b, .int .i64 i] w (RetW (keys H) w fun v H' => v = .int .i64 r ∧ NetRep p m' H') := by
  have := double_ok (i := i) h nd hH ha hb; rw [e] at this; exact this
theorem spoil_is (e : m.spoil a b i bit = (r, m')) (h : NetRep p m H) (nd : (keys H).Nodup) (hH : Holds w H) (ha : i64 a) (hb : i64 b) (hc : i64 bit) :
    Calls Try.prog 33 #[.pointer (some ⟨p, 0, none⟩), .int .i64 a, .int .i64 b, .int .i64 i, .int .i64 bit] w (RetW (keys H) w fun v H' => v = .int .i64 r ∧ NetRep p m' H') := by
  have := spoil_ok (i := i) h nd hH ha hb hc; rw [e] at this; exact this
theorem len_is {n : Nat} (e : (m.q (a, b)).length = n) (h : NetRep p m H) (hH : Holds w H) (ha : i64 a) (hb : i64 b) : Calls Try.prog 13 #[.pointer (some ⟨p, 0, none⟩), .int .i64 a, .int .i64 b] w (RetN w (eqv (.int .i64 n))) := by
  have := len_ok (w := w) h hH (good ha hb : goodK (a, b)); rw [e] at this; exact this
theorem open_is {c : Bool} (e : m.open' a b = c) (h : NetRep p m H) (hH : Holds w H) (ha : i64 a) (hb : i64 b) : Calls Try.prog 17 #[.pointer (some ⟨p, 0, none⟩), .int .i64 a, .int .i64 b] w (RetN w (eqv (.bool c))) := by
  have := open_ok (w := w) h hH (good_ends ha hb); rw [e] at this; exact this
end
def aw0 : M := M.fresh 3 [(1, 2), (2, 3)]
def aw1 : M := (aw0.send 1 2 [97]).2
def aw2 : M := (aw1.send 1 2 [98]).2
def aw3 : M := (aw2.spoil 1 2 0 1).2
def aw4 : M := (aw3.double 1 2 0).2
def aw5 : M := (aw4.spoil 1 2 2 0).2
def aw6 : M := (aw5.take 1 2 2).2.2
theorem ew1 : aw0.send 1 2 [97] = (0, aw1) := Prod.ext (by kernel_rfl) rfl
theorem ew2 : aw1.send 1 2 [98] = (0, aw2) := Prod.ext (by kernel_rfl) rfl
theorem ew3 : aw2.spoil 1 2 0 1 = (0, aw3) := Prod.ext (by kernel_rfl) rfl
theorem ew4 : aw3.double 1 2 0 = (0, aw4) := Prod.ext (by kernel_rfl) rfl
theorem ew5 : aw4.spoil 1 2 2 0 = (6, aw5) := Prod.ext (by kernel_rfl) rfl
theorem ew6 : aw5.take 1 2 2 = ([99], 0, aw6) := Prod.ext (by kernel_rfl) (Prod.ext (by kernel_rfl) rfl)
theorem i64_lit {x : Int} (h : (decide (-9223372036854775808 ≤ x) && decide (x ≤ 9223372036854775807)) = true) : i64 x := by
  simp only [Bool.and_eq_true, decide_eq_true_eq] at h; exact h

set_option maxRecDepth 20000 in
set_option maxHeartbeats 8000000 in
theorem awake_ok {w0 : World} : Calls Try.prog 9 #[] w0 (RetN w0 fun r _ => r = .bool true) := by
  refine enter Try.func9 rfl (n := 98) rfl (Nat.le_of_ble_eq_true rfl) fun ac A => ?_
  have S : St _ _ _ [] := St.none w0
  refine wp_seq_k fun K1 hK1 => ?_
  refine region_seq ?_  -- region 0
  refine L_op A rfl (by decide) rfl (y_assign rfl fun ac A => ?_)
  replace A := A.keep [(0, .bool false)] ⟨rfl, trivial⟩
  refine hK1 _ _ ?_
  refine wp_seq_k fun K2 hK2 => ?_
  refine region_seq ?_  -- region 1
  refine L_op A rfl (by decide) rfl (y_build2 rfl rfl (v := .agg #[.int .i64 1, .int .i64 2]) (by kernel_rfl) fun ac A => ?_)
  refine L_op A rfl (by decide) rfl (y_build2 rfl rfl (v := .agg #[.int .i64 3, .int .i64 2]) (by kernel_rfl) fun ac A => ?_)
  refine L_op A rfl (by decide) rfl (y_buildSlice2 (c := #[.int .i64 1, .int .i64 2, .int .i64 3, .int .i64 2]) (e := 28) (A.get (s := 12) rfl) (A.get (s := 13) rfl) (fun w => by kernel_rfl) fun b1 w gG nN ac A => ?_)
  replace S : St _ _ _ [(b1, .cells #[.int .i64 1, .int .i64 2, .int .i64 3, .int .i64 2] 28 (0, 0))] := S.new gG nN
  refine L_op A rfl (by decide) rfl (y_call2 (by kernel_rfl) rfl rfl (A.get (s := 14) rfl) (callN (new_is (ls := [(1, 2), (3, 2)]) (m := aw0) rfl ⟨rfl, Or.inr ⟨_, _, rfl, cells_at (S.get 0 rfl) rfl⟩⟩ (by decide) (by intro l hl; simp only [List.mem_cons, List.not_mem_nil, or_false] at hl; rcases hl with rfl | rfl <;> exact ⟨i64_lit rfl, i64_lit rfl⟩)) fun v w Hn gG nN hf ac A => ?_))
  obtain ⟨p, rfl, hN⟩ := hf
  replace S : St _ _ _ (Hn ++ [(b1, .cells #[.int .i64 1, .int .i64 2, .int .i64 3, .int .i64 2] 28 (0, 0))]) := (S.new gG nN).perm (by first | exact List.Perm.refl _ | (rw [List.append_assoc]; exact List.Perm.refl _) | (simp only [List.append_assoc, List.nil_append, List.append_nil]; exact List.Perm.refl _))
  replace S : St _ _ _ ([(b1, .cells #[.int .i64 1, .int .i64 2, .int .i64 3, .int .i64 2] 28 (0, 0))] ++ Hn) := S.perm (by classical rw [List.perm_iff_count]; intro x; simp only [List.count_append, List.count_cons, List.count_nil] <;> omega)
  replace A := A.keep [(0, .bool false), (15, .tuple #[.pointer (some ⟨p, 0, none⟩), .int .i64 0])] ⟨rfl, rfl, trivial⟩
  refine L_op A rfl (by decide) rfl (y_move (A.get (s := 15) rfl) fun ac A => ?_)
  refine L_op A rfl (by decide) rfl (y_extract (A.get (s := 11) rfl) rfl fun ac A => ?_)
  refine L_op A rfl (by decide) rfl (y_extract (A.get (s := 11) rfl) rfl fun ac A => ?_)
  refine L_op A rfl (by decide) rfl (y_assign (A.get (s := 16) rfl) fun ac A => ?_)
  replace A := A.keep [(0, .bool false), (1, .pointer (some ⟨p, 0, none⟩)), (17, .int .i64 0)] ⟨rfl, rfl, rfl, trivial⟩
  refine L_op A rfl (by decide) rfl (y_assign (A.get (s := 17) rfl) fun ac A => ?_)
  replace A := A.keep [(0, .bool false), (1, .pointer (some ⟨p, 0, none⟩)), (2, .int .i64 0)] ⟨rfl, rfl, rfl, trivial⟩
  refine hK2 _ _ ?_
  refine wp_seq_k fun K3 hK3 => ?_
  refine wp_seq_k fun K4 hK4 => ?_
  refine region_seq ?_  -- region 2
  refine L_op A rfl (by decide) rfl (y_move (A.get (s := 2) rfl) fun ac A => ?_)
  refine L_op A rfl (by decide) rfl (y_neq (A.get (s := 18) rfl) rfl (c := false) (by decide) fun ac A => ?_)
  refine L_op A rfl (by decide) rfl (y_move (A.get (s := 19) rfl) fun ac A => ?_)
  refine L_yes A rfl (by decide) rfl rfl (by decide) (A.get rfl) (y_move (A.get (s := 1) rfl) fun ac A => ?_)
  refine L_yes A rfl (by decide) rfl rfl (by decide) (A.get rfl) (y_ptrNil (c := false) (by kernel_rfl) (A.get (s := 21) rfl) rfl rfl fun ac A => ?_)
  refine L_op A rfl (by decide) rfl (y_pickF (A.get (s := 20) rfl) (A.get (s := 22) rfl) fun ac A => ?_)
  replace A := A.keep [(0, .bool false), (1, .pointer (some ⟨p, 0, none⟩)), (2, .int .i64 0), (23, .bool false)] ⟨rfl, rfl, rfl, rfl, trivial⟩
  refine hK4 _ _ ?_
  refine wp_cond_false (A.get rfl) ?_
  refine wp_skip ?_
  refine hK3 _ _ ?_
  refine wp_seq_k fun K5 hK5 => ?_
  refine region_seq ?_  -- region 4
  refine L_op A rfl (by decide) rfl (y_move (A.get (s := 1) rfl) fun ac A => ?_)
  refine L_op A rfl (by decide) rfl (y_buildSlice1 (c := #[.int .u8 97]) (e := 5) rfl (fun w => by kernel_rfl) fun b2 w gG nN ac A => ?_)
  replace S : St _ _ _ ([(b2, .cells #[.int .u8 97] 5 (0, 0)), (b1, .cells #[.int .i64 1, .int .i64 2, .int .i64 3, .int .i64 2] 28 (0, 0))] ++ Hn) := (S.new gG nN).perm (by first | exact List.Perm.refl _ | (rw [List.append_assoc]; exact List.Perm.refl _) | (simp only [List.append_assoc, List.nil_append, List.append_nil]; exact List.Perm.refl _))
  refine L_op A rfl (by decide) rfl (y_bytesConst (by kernel_rfl) (by kernel_rfl) (A.get (s := 25) rfl) (S.get 0 rfl) fun ac A => ?_)
  replace S : St _ _ _ ([(b2, .cells #[.int .u8 97] 5 (1, 2)), (b1, .cells #[.int .i64 1, .int .i64 2, .int .i64 3, .int .i64 2] 28 (0, 0))] ++ Hn) := S.setAt 0 rfl _
  replace S : St _ _ _ (Hn ++ [(b2, .cells #[.int .u8 97] 5 (1, 2)), (b1, .cells #[.int .i64 1, .int .i64 2, .int .i64 3, .int .i64 2] 28 (0, 0))]) := S.perm (by classical rw [List.perm_iff_count]; intro x; simp only [List.count_append, List.count_cons, List.count_nil] <;> omega)
  refine L_op A rfl (by decide) rfl (y_call4 (by kernel_rfl) rfl (A.get (s := 24) rfl) rfl rfl (A.get (s := 26) rfl) (callW (send_is (bs := [97]) ew1 hN S.app_left.nd S.app_left.holds (i64_lit rfl) (i64_lit rfl) ⟨rfl, Or.inr ⟨_, _, rfl, cells_at (S.app_right.get 0 rfl) rfl⟩⟩ (off_block (S.off 0 rfl))) fun v w Hn1 s hf ac A => ?_))
  replace S : St _ _ _ (Hn1 ++ [(b2, .cells #[.int .u8 97] 5 (1, 2)), (b1, .cells #[.int .i64 1, .int .i64 2, .int .i64 3, .int .i64 2] 28 (0, 0))]) := St.call (H := Hn) (R := [(b2, .cells #[.int .u8 97] 5 (1, 2)), (b1, .cells #[.int .i64 1, .int .i64 2, .int .i64 3, .int .i64 2] 28 (0, 0))]) S rfl s
  obtain ⟨rfl, hN⟩ := hf
  replace S : St _ _ _ ([(b2, .cells #[.int .u8 97] 5 (1, 2)), (b1, .cells #[.int .i64 1, .int .i64 2, .int .i64 3, .int .i64 2] 28 (0, 0))] ++ Hn1) := S.perm (by classical rw [List.perm_iff_count]; intro x; simp only [List.count_append, List.count_cons, List.count_nil] <;> omega)
  replace A := A.keep [(0, .bool false), (1, .pointer (some ⟨p, 0, none⟩)), (2, .int .i64 0), (23, .bool false), (27, .int .i64 0)] ⟨rfl, rfl, rfl, rfl, rfl, trivial⟩
  refine L_op A rfl (by decide) rfl (y_move (A.get (s := 1) rfl) fun ac A => ?_)
  refine L_op A rfl (by decide) rfl (y_buildSlice1 (c := #[.int .u8 98]) (e := 5) rfl (fun w => by kernel_rfl) fun b3 w gG nN ac A => ?_)
  replace S : St _ _ _ ([(b3, .cells #[.int .u8 98] 5 (0, 0)), (b2, .cells #[.int .u8 97] 5 (1, 2)), (b1, .cells #[.int .i64 1, .int .i64 2, .int .i64 3, .int .i64 2] 28 (0, 0))] ++ Hn1) := (S.new gG nN).perm (by first | exact List.Perm.refl _ | (rw [List.append_assoc]; exact List.Perm.refl _) | (simp only [List.append_assoc, List.nil_append, List.append_nil]; exact List.Perm.refl _))
  refine L_op A rfl (by decide) rfl (y_bytesConst (by kernel_rfl) (by kernel_rfl) (A.get (s := 29) rfl) (S.get 0 rfl) fun ac A => ?_)
  replace S : St _ _ _ ([(b3, .cells #[.int .u8 98] 5 (1, 2)), (b2, .cells #[.int .u8 97] 5 (1, 2)), (b1, .cells #[.int .i64 1, .int .i64 2, .int .i64 3, .int .i64 2] 28 (0, 0))] ++ Hn1) := S.setAt 0 rfl _
  replace S : St _ _ _ (Hn1 ++ [(b3, .cells #[.int .u8 98] 5 (1, 2)), (b2, .cells #[.int .u8 97] 5 (1, 2)), (b1, .cells #[.int .i64 1, .int .i64 2, .int .i64 3, .int .i64 2] 28 (0, 0))]) := S.perm (by classical rw [List.perm_iff_count]; intro x; simp only [List.count_append, List.count_cons, List.count_nil] <;> omega)
  refine L_op A rfl (by decide) rfl (y_call4 (by kernel_rfl) rfl (A.get (s := 28) rfl) rfl rfl (A.get (s := 30) rfl) (callW (send_is (bs := [98]) ew2 hN S.app_left.nd S.app_left.holds (i64_lit rfl) (i64_lit rfl) ⟨rfl, Or.inr ⟨_, _, rfl, cells_at (S.app_right.get 0 rfl) rfl⟩⟩ (off_block (S.off 0 rfl))) fun v w Hn2 s hf ac A => ?_))
  replace S : St _ _ _ (Hn2 ++ [(b3, .cells #[.int .u8 98] 5 (1, 2)), (b2, .cells #[.int .u8 97] 5 (1, 2)), (b1, .cells #[.int .i64 1, .int .i64 2, .int .i64 3, .int .i64 2] 28 (0, 0))]) := St.call (H := Hn1) (R := [(b3, .cells #[.int .u8 98] 5 (1, 2)), (b2, .cells #[.int .u8 97] 5 (1, 2)), (b1, .cells #[.int .i64 1, .int .i64 2, .int .i64 3, .int .i64 2] 28 (0, 0))]) S rfl s
  obtain ⟨rfl, hN⟩ := hf
  replace S : St _ _ _ ([(b3, .cells #[.int .u8 98] 5 (1, 2)), (b2, .cells #[.int .u8 97] 5 (1, 2)), (b1, .cells #[.int .i64 1, .int .i64 2, .int .i64 3, .int .i64 2] 28 (0, 0))] ++ Hn2) := S.perm (by classical rw [List.perm_iff_count]; intro x; simp only [List.count_append, List.count_cons, List.count_nil] <;> omega)
  replace A := A.keep [(0, .bool false), (1, .pointer (some ⟨p, 0, none⟩)), (2, .int .i64 0), (23, .bool false), (27, .int .i64 0), (31, .int .i64 0)] ⟨rfl, rfl, rfl, rfl, rfl, rfl, trivial⟩
  refine L_op A rfl (by decide) rfl (y_assign (A.get (s := 27) rfl) fun ac A => ?_)
  refine L_op A rfl (by decide) rfl (y_assign (A.get (s := 31) rfl) fun ac A => ?_)
  replace A := A.keep [(0, .bool false), (1, .pointer (some ⟨p, 0, none⟩)), (2, .int .i64 0), (3, .int .i64 0), (4, .int .i64 0), (23, .bool false)] ⟨rfl, rfl, rfl, rfl, rfl, rfl, trivial⟩
  refine hK5 _ _ ?_
  refine wp_seq_k fun K6 hK6 => ?_
  refine region_seq ?_  -- region 5
  refine L_op A rfl (by decide) rfl (y_move (A.get (s := 1) rfl) fun ac A => ?_)
  replace S : St _ _ _ (Hn2 ++ [(b3, .cells #[.int .u8 98] 5 (1, 2)), (b2, .cells #[.int .u8 97] 5 (1, 2)), (b1, .cells #[.int .i64 1, .int .i64 2, .int .i64 3, .int .i64 2] 28 (0, 0))]) := S.perm (by classical rw [List.perm_iff_count]; intro x; simp only [List.count_append, List.count_cons, List.count_nil] <;> omega)
  refine L_op A rfl (by decide) rfl (y_call5 (by kernel_rfl) rfl (A.get (s := 32) rfl) rfl rfl rfl rfl (callW (spoil_is ew3 hN S.app_left.nd S.app_left.holds (i64_lit rfl) (i64_lit rfl) (i64_lit rfl)) fun v w Hn3 s hf ac A => ?_))
  replace S : St _ _ _ (Hn3 ++ [(b3, .cells #[.int .u8 98] 5 (1, 2)), (b2, .cells #[.int .u8 97] 5 (1, 2)), (b1, .cells #[.int .i64 1, .int .i64 2, .int .i64 3, .int .i64 2] 28 (0, 0))]) := St.call (H := Hn2) (R := [(b3, .cells #[.int .u8 98] 5 (1, 2)), (b2, .cells #[.int .u8 97] 5 (1, 2)), (b1, .cells #[.int .i64 1, .int .i64 2, .int .i64 3, .int .i64 2] 28 (0, 0))]) S rfl s
  obtain ⟨rfl, hN⟩ := hf
  replace S : St _ _ _ ([(b3, .cells #[.int .u8 98] 5 (1, 2)), (b2, .cells #[.int .u8 97] 5 (1, 2)), (b1, .cells #[.int .i64 1, .int .i64 2, .int .i64 3, .int .i64 2] 28 (0, 0))] ++ Hn3) := S.perm (by classical rw [List.perm_iff_count]; intro x; simp only [List.count_append, List.count_cons, List.count_nil] <;> omega)
  refine L_op A rfl (by decide) rfl (y_move (A.get (s := 1) rfl) fun ac A => ?_)
  replace S : St _ _ _ (Hn3 ++ [(b3, .cells #[.int .u8 98] 5 (1, 2)), (b2, .cells #[.int .u8 97] 5 (1, 2)), (b1, .cells #[.int .i64 1, .int .i64 2, .int .i64 3, .int .i64 2] 28 (0, 0))]) := S.perm (by classical rw [List.perm_iff_count]; intro x; simp only [List.count_append, List.count_cons, List.count_nil] <;> omega)
  refine L_op A rfl (by decide) rfl (y_call4 (by kernel_rfl) rfl (A.get (s := 34) rfl) rfl rfl rfl (callW (double_is ew4 hN S.app_left.nd S.app_left.holds (i64_lit rfl) (i64_lit rfl)) fun v w Hn4 s hf ac A => ?_))
  replace S : St _ _ _ (Hn4 ++ [(b3, .cells #[.int .u8 98] 5 (1, 2)), (b2, .cells #[.int .u8 97] 5 (1, 2)), (b1, .cells #[.int .i64 1, .int .i64 2, .int .i64 3, .int .i64 2] 28 (0, 0))]) := St.call (H := Hn3) (R := [(b3, .cells #[.int .u8 98] 5 (1, 2)), (b2, .cells #[.int .u8 97] 5 (1, 2)), (b1, .cells #[.int .i64 1, .int .i64 2, .int .i64 3, .int .i64 2] 28 (0, 0))]) S rfl s
  obtain ⟨rfl, hN⟩ := hf
  replace S : St _ _ _ ([(b3, .cells #[.int .u8 98] 5 (1, 2)), (b2, .cells #[.int .u8 97] 5 (1, 2)), (b1, .cells #[.int .i64 1, .int .i64 2, .int .i64 3, .int .i64 2] 28 (0, 0))] ++ Hn4) := S.perm (by classical rw [List.perm_iff_count]; intro x; simp only [List.count_append, List.count_cons, List.count_nil] <;> omega)
  replace A := A.keep [(0, .bool false), (1, .pointer (some ⟨p, 0, none⟩)), (2, .int .i64 0), (3, .int .i64 0), (4, .int .i64 0), (23, .bool false), (33, .int .i64 0), (35, .int .i64 0)] ⟨rfl, rfl, rfl, rfl, rfl, rfl, rfl, rfl, trivial⟩
  refine L_op A rfl (by decide) rfl (y_move (A.get (s := 1) rfl) fun ac A => ?_)
  replace S : St _ _ _ (Hn4 ++ [(b3, .cells #[.int .u8 98] 5 (1, 2)), (b2, .cells #[.int .u8 97] 5 (1, 2)), (b1, .cells #[.int .i64 1, .int .i64 2, .int .i64 3, .int .i64 2] 28 (0, 0))]) := S.perm (by classical rw [List.perm_iff_count]; intro x; simp only [List.count_append, List.count_cons, List.count_nil] <;> omega)
  refine L_op A rfl (by decide) rfl (y_call5 (by kernel_rfl) rfl (A.get (s := 36) rfl) rfl rfl rfl rfl (callW (spoil_is ew5 hN S.app_left.nd S.app_left.holds (i64_lit rfl) (i64_lit rfl) (i64_lit rfl)) fun v w Hn5 s hf ac A => ?_))
  replace S : St _ _ _ (Hn5 ++ [(b3, .cells #[.int .u8 98] 5 (1, 2)), (b2, .cells #[.int .u8 97] 5 (1, 2)), (b1, .cells #[.int .i64 1, .int .i64 2, .int .i64 3, .int .i64 2] 28 (0, 0))]) := St.call (H := Hn4) (R := [(b3, .cells #[.int .u8 98] 5 (1, 2)), (b2, .cells #[.int .u8 97] 5 (1, 2)), (b1, .cells #[.int .i64 1, .int .i64 2, .int .i64 3, .int .i64 2] 28 (0, 0))]) S rfl s
  obtain ⟨rfl, hN⟩ := hf
  replace S : St _ _ _ ([(b3, .cells #[.int .u8 98] 5 (1, 2)), (b2, .cells #[.int .u8 97] 5 (1, 2)), (b1, .cells #[.int .i64 1, .int .i64 2, .int .i64 3, .int .i64 2] 28 (0, 0))] ++ Hn5) := S.perm (by classical rw [List.perm_iff_count]; intro x; simp only [List.count_append, List.count_cons, List.count_nil] <;> omega)
  refine L_op A rfl (by decide) rfl (y_assign (A.get (s := 33) rfl) fun ac A => ?_)
  refine L_op A rfl (by decide) rfl (y_assign (A.get (s := 35) rfl) fun ac A => ?_)
  replace A := A.keep [(0, .bool false), (1, .pointer (some ⟨p, 0, none⟩)), (2, .int .i64 0), (3, .int .i64 0), (4, .int .i64 0), (5, .int .i64 0), (6, .int .i64 0), (23, .bool false), (37, .int .i64 6)] ⟨rfl, rfl, rfl, rfl, rfl, rfl, rfl, rfl, rfl, trivial⟩
  refine L_op A rfl (by decide) rfl (y_assign (A.get (s := 37) rfl) fun ac A => ?_)
  replace A := A.keep [(0, .bool false), (1, .pointer (some ⟨p, 0, none⟩)), (2, .int .i64 0), (3, .int .i64 0), (4, .int .i64 0), (5, .int .i64 0), (6, .int .i64 0), (7, .int .i64 6), (23, .bool false)] ⟨rfl, rfl, rfl, rfl, rfl, rfl, rfl, rfl, rfl, trivial⟩
  refine hK6 _ _ ?_
  refine wp_seq_k fun K7 hK7 => ?_
  refine region_seq ?_  -- region 6
  refine L_op A rfl (by decide) rfl (y_move (A.get (s := 1) rfl) fun ac A => ?_)
  replace S : St _ _ _ (Hn5 ++ [(b3, .cells #[.int .u8 98] 5 (1, 2)), (b2, .cells #[.int .u8 97] 5 (1, 2)), (b1, .cells #[.int .i64 1, .int .i64 2, .int .i64 3, .int .i64 2] 28 (0, 0))]) := S.perm (by classical rw [List.perm_iff_count]; intro x; simp only [List.count_append, List.count_cons, List.count_nil] <;> omega)
  refine L_op A rfl (by decide) rfl (y_call4 (by kernel_rfl) rfl (A.get (s := 39) rfl) rfl rfl rfl (callW (take_is ew6 hN S.app_left.nd S.app_left.holds (i64_lit rfl) (i64_lit rfl)) fun v w Hx s hf ac A => ?_))
  replace S : St _ _ _ (Hx ++ [(b3, .cells #[.int .u8 98] 5 (1, 2)), (b2, .cells #[.int .u8 97] 5 (1, 2)), (b1, .cells #[.int .i64 1, .int .i64 2, .int .i64 3, .int .i64 2] 28 (0, 0))]) := St.call (H := Hn5) (R := [(b3, .cells #[.int .u8 98] 5 (1, 2)), (b2, .cells #[.int .u8 97] 5 (1, 2)), (b1, .cells #[.int .i64 1, .int .i64 2, .int .i64 3, .int .i64 2] 28 (0, 0))]) S rfl s
  obtain ⟨vb, Hb, Hn6, rfl, hB, rfl, hN⟩ := hf
  replace S : St _ _ _ ((Hn6 ++ Hb) ++ [(b3, .cells #[.int .u8 98] 5 (1, 2)), (b2, .cells #[.int .u8 97] 5 (1, 2)), (b1, .cells #[.int .i64 1, .int .i64 2, .int .i64 3, .int .i64 2] 28 (0, 0))]) := S
  replace S : St _ _ _ (Hn6 ++ (Hb ++ [(b3, .cells #[.int .u8 98] 5 (1, 2)), (b2, .cells #[.int .u8 97] 5 (1, 2)), (b1, .cells #[.int .i64 1, .int .i64 2, .int .i64 3, .int .i64 2] 28 (0, 0))])) := S.perm (by classical rw [List.perm_iff_count]; intro x; simp only [List.count_append, List.count_cons, List.count_nil] <;> omega)
  replace S : St _ _ _ ([(b3, .cells #[.int .u8 98] 5 (1, 2)), (b2, .cells #[.int .u8 97] 5 (1, 2)), (b1, .cells #[.int .i64 1, .int .i64 2, .int .i64 3, .int .i64 2] 28 (0, 0))] ++ (Hn6 ++ Hb)) := S.perm (by classical rw [List.perm_iff_count]; intro x; simp only [List.count_append, List.count_cons, List.count_nil] <;> omega)
  obtain ⟨va, vc, rfl⟩ := SlRep.len hB
  refine L_op A rfl (by decide) rfl (y_move (A.get (s := 40) rfl) fun ac A => ?_)
  refine L_op A rfl (by decide) rfl (y_extract (A.get (s := 38) rfl) rfl fun ac A => ?_)
  replace A := A.keep [(0, .bool false), (1, .pointer (some ⟨p, 0, none⟩)), (2, .int .i64 0), (3, .int .i64 0), (4, .int .i64 0), (5, .int .i64 0), (6, .int .i64 0), (7, .int .i64 6), (23, .bool false), (38, .tuple #[.slice va 1 vc, .int .i64 0]), (41, .slice va 1 vc)] ⟨rfl, rfl, rfl, rfl, rfl, rfl, rfl, rfl, rfl, rfl, rfl, trivial⟩
  refine L_op A rfl (by decide) rfl (y_extract (A.get (s := 38) rfl) rfl fun ac A => ?_)
  refine L_op A rfl (by decide) rfl (y_assign (A.get (s := 41) rfl) fun ac A => ?_)
  refine L_op A rfl (by decide) rfl (y_assign (A.get (s := 42) rfl) fun ac A => ?_)
  replace A := A.keep [(0, .bool false), (1, .pointer (some ⟨p, 0, none⟩)), (2, .int .i64 0), (3, .int .i64 0), (4, .int .i64 0), (5, .int .i64 0), (6, .int .i64 0), (7, .int .i64 6), (8, .slice va 1 vc), (9, .int .i64 0), (23, .bool false)] ⟨rfl, rfl, rfl, rfl, rfl, rfl, rfl, rfl, rfl, rfl, rfl, trivial⟩
  refine hK7 _ _ ?_
  refine wp_seq_k fun K8 hK8 => ?_
  refine region_seq ?_  -- region 7
  refine L_op A rfl (by decide) rfl (y_move (A.get (s := 1) rfl) fun ac A => ?_)
  refine L_op A rfl (by decide) rfl (y_call1 (by kernel_rfl) rfl (A.get (s := 43) rfl) (callN (links_ok hN (St.app_left (H := Hn6) (K := ([(b3, .cells #[.int .u8 98] 5 (1, 2)), (b2, .cells #[.int .u8 97] 5 (1, 2)), (b1, .cells #[.int .i64 1, .int .i64 2, .int .i64 3, .int .i64 2] 28 (0, 0))] ++ Hb)) (S.perm (by classical rw [List.perm_iff_count]; intro x; simp only [List.count_append, List.count_cons, List.count_nil] <;> omega))).holds) fun vl w Hl gG nN hf ac A => ?_))
  obtain ⟨lb, lcap, lcs, rfl, rfl, hcs, hcap, htake⟩ := SlRep.block hf (by decide)
  replace S : St _ _ _ ([(lb, .cells lcs 28 (0, 0)), (b3, .cells #[.int .u8 98] 5 (1, 2)), (b2, .cells #[.int .u8 97] 5 (1, 2)), (b1, .cells #[.int .i64 1, .int .i64 2, .int .i64 3, .int .i64 2] 28 (0, 0))] ++ (Hn6 ++ Hb)) := (S.new gG nN).perm (by first | exact List.Perm.refl _ | (rw [List.append_assoc]; exact List.Perm.refl _) | (simp only [List.append_assoc, List.nil_append, List.append_nil]; exact List.Perm.refl _))
  refine L_op A rfl (by decide) rfl (y_assign (A.get (s := 44) rfl) fun ac A => ?_)
  replace A := A.keep [(0, .bool false), (1, .pointer (some ⟨p, 0, none⟩)), (2, .int .i64 0), (3, .int .i64 0), (4, .int .i64 0), (5, .int .i64 0), (6, .int .i64 0), (7, .int .i64 6), (8, .slice va 1 vc), (9, .int .i64 0), (10, .slice (some ⟨lb, 0, none⟩) 2 lcap), (23, .bool false)] ⟨rfl, rfl, rfl, rfl, rfl, rfl, rfl, rfl, rfl, rfl, rfl, rfl, trivial⟩
  refine hK8 _ _ ?_
  refine wp_seq_k fun K9 hK9 => ?_
  refine region_seq ?_  -- region 8
  refine L_op A rfl (by decide) rfl (y_move (A.get (s := 3) rfl) fun ac A => ?_)
  refine L_op A rfl (by decide) rfl (y_eql (A.get (s := 45) rfl) rfl (c := true) (by decide) fun ac A => ?_)
  refine L_op A rfl (by decide) rfl (y_move (A.get (s := 46) rfl) fun ac A => ?_)
  refine L_yes A rfl (by decide) rfl rfl (by decide) (A.get rfl) (y_move (A.get (s := 4) rfl) fun ac A => ?_)
  replace A := A.keep [(0, .bool false), (1, .pointer (some ⟨p, 0, none⟩)), (2, .int .i64 0), (3, .int .i64 0), (4, .int .i64 0), (5, .int .i64 0), (6, .int .i64 0), (7, .int .i64 6), (8, .slice va 1 vc), (9, .int .i64 0), (10, .slice (some ⟨lb, 0, none⟩) 2 lcap), (23, .bool false), (47, .bool true), (48, .int .i64 0)] ⟨rfl, rfl, rfl, rfl, rfl, rfl, rfl, rfl, rfl, rfl, rfl, rfl, rfl, rfl, trivial⟩
  refine L_yes A rfl (by decide) rfl rfl (by decide) (A.get rfl) (y_eql (A.get (s := 48) rfl) rfl (c := true) (by decide) fun ac A => ?_)
  refine L_op A rfl (by decide) rfl (y_pickT (A.get (s := 47) rfl) (A.get (s := 49) rfl) fun ac A => ?_)
  refine L_op A rfl (by decide) rfl (y_move (A.get (s := 50) rfl) fun ac A => ?_)
  refine L_yes A rfl (by decide) rfl rfl (by decide) (A.get rfl) (y_move (A.get (s := 5) rfl) fun ac A => ?_)
  replace A := A.keep [(0, .bool false), (1, .pointer (some ⟨p, 0, none⟩)), (2, .int .i64 0), (3, .int .i64 0), (4, .int .i64 0), (5, .int .i64 0), (6, .int .i64 0), (7, .int .i64 6), (8, .slice va 1 vc), (9, .int .i64 0), (10, .slice (some ⟨lb, 0, none⟩) 2 lcap), (23, .bool false), (51, .bool true), (52, .int .i64 0)] ⟨rfl, rfl, rfl, rfl, rfl, rfl, rfl, rfl, rfl, rfl, rfl, rfl, rfl, rfl, trivial⟩
  refine L_yes A rfl (by decide) rfl rfl (by decide) (A.get rfl) (y_eql (A.get (s := 52) rfl) rfl (c := true) (by decide) fun ac A => ?_)
  refine L_op A rfl (by decide) rfl (y_pickT (A.get (s := 51) rfl) (A.get (s := 53) rfl) fun ac A => ?_)
  refine L_op A rfl (by decide) rfl (y_move (A.get (s := 54) rfl) fun ac A => ?_)
  refine L_yes A rfl (by decide) rfl rfl (by decide) (A.get rfl) (y_move (A.get (s := 6) rfl) fun ac A => ?_)
  replace A := A.keep [(0, .bool false), (1, .pointer (some ⟨p, 0, none⟩)), (2, .int .i64 0), (3, .int .i64 0), (4, .int .i64 0), (5, .int .i64 0), (6, .int .i64 0), (7, .int .i64 6), (8, .slice va 1 vc), (9, .int .i64 0), (10, .slice (some ⟨lb, 0, none⟩) 2 lcap), (23, .bool false), (55, .bool true), (56, .int .i64 0)] ⟨rfl, rfl, rfl, rfl, rfl, rfl, rfl, rfl, rfl, rfl, rfl, rfl, rfl, rfl, trivial⟩
  refine L_yes A rfl (by decide) rfl rfl (by decide) (A.get rfl) (y_eql (A.get (s := 56) rfl) rfl (c := true) (by decide) fun ac A => ?_)
  refine L_op A rfl (by decide) rfl (y_pickT (A.get (s := 55) rfl) (A.get (s := 57) rfl) fun ac A => ?_)
  refine L_op A rfl (by decide) rfl (y_move (A.get (s := 58) rfl) fun ac A => ?_)
  refine L_yes A rfl (by decide) rfl rfl (by decide) (A.get rfl) (y_move (A.get (s := 7) rfl) fun ac A => ?_)
  replace A := A.keep [(0, .bool false), (1, .pointer (some ⟨p, 0, none⟩)), (2, .int .i64 0), (3, .int .i64 0), (4, .int .i64 0), (5, .int .i64 0), (6, .int .i64 0), (7, .int .i64 6), (8, .slice va 1 vc), (9, .int .i64 0), (10, .slice (some ⟨lb, 0, none⟩) 2 lcap), (23, .bool false), (59, .bool true), (60, .int .i64 6)] ⟨rfl, rfl, rfl, rfl, rfl, rfl, rfl, rfl, rfl, rfl, rfl, rfl, rfl, rfl, trivial⟩
  refine L_yes A rfl (by decide) rfl rfl (by decide) (A.get rfl) (y_eql (A.get (s := 60) rfl) rfl (c := true) (by decide) fun ac A => ?_)
  refine L_op A rfl (by decide) rfl (y_pickT (A.get (s := 59) rfl) (A.get (s := 61) rfl) fun ac A => ?_)
  refine L_op A rfl (by decide) rfl (y_move (A.get (s := 62) rfl) fun ac A => ?_)
  refine L_yes A rfl (by decide) rfl rfl (by decide) (A.get rfl) (y_move (A.get (s := 8) rfl) fun ac A => ?_)
  replace A := A.keep [(0, .bool false), (1, .pointer (some ⟨p, 0, none⟩)), (2, .int .i64 0), (3, .int .i64 0), (4, .int .i64 0), (5, .int .i64 0), (6, .int .i64 0), (7, .int .i64 6), (8, .slice va 1 vc), (9, .int .i64 0), (10, .slice (some ⟨lb, 0, none⟩) 2 lcap), (23, .bool false), (63, .bool true), (64, .slice va 1 vc)] ⟨rfl, rfl, rfl, rfl, rfl, rfl, rfl, rfl, rfl, rfl, rfl, rfl, rfl, rfl, trivial⟩
  refine L_yes A rfl (by decide) rfl rfl (by decide) (A.get rfl) (y_bytesStr (e := 5) (l := [99]) (by kernel_rfl) (by kernel_rfl) (by kernel_rfl) (A.get (s := 64) rfl) (hB.src (St.app_left (H := Hb) (K := ([(lb, .cells lcs 28 (0, 0)), (b3, .cells #[.int .u8 98] 5 (1, 2)), (b2, .cells #[.int .u8 97] 5 (1, 2)), (b1, .cells #[.int .i64 1, .int .i64 2, .int .i64 3, .int .i64 2] 28 (0, 0))] ++ Hn6)) (S.perm (by classical rw [List.perm_iff_count]; intro x; simp only [List.count_append, List.count_cons, List.count_nil] <;> omega))).holds) fun ac A => ?_)
  refine L_yes A rfl (by decide) rfl rfl (by decide) (A.get rfl) (y_eqlStr (a := [99]) (b := [99]) (A.get (s := 65) rfl) rfl (c := true) (by decide) fun ac A => ?_)
  refine L_op A rfl (by decide) rfl (y_pickT (A.get (s := 63) rfl) (A.get (s := 66) rfl) fun ac A => ?_)
  refine L_op A rfl (by decide) rfl (y_move (A.get (s := 67) rfl) fun ac A => ?_)
  replace A := A.keep [(0, .bool false), (1, .pointer (some ⟨p, 0, none⟩)), (2, .int .i64 0), (3, .int .i64 0), (4, .int .i64 0), (5, .int .i64 0), (6, .int .i64 0), (7, .int .i64 6), (8, .slice va 1 vc), (9, .int .i64 0), (10, .slice (some ⟨lb, 0, none⟩) 2 lcap), (23, .bool false), (68, .bool true)] ⟨rfl, rfl, rfl, rfl, rfl, rfl, rfl, rfl, rfl, rfl, rfl, rfl, rfl, trivial⟩
  refine L_yes A rfl (by decide) rfl rfl (by decide) (A.get rfl) (y_move (A.get (s := 9) rfl) fun ac A => ?_)
  refine L_yes A rfl (by decide) rfl rfl (by decide) (A.get rfl) (y_eql (A.get (s := 69) rfl) rfl (c := true) (by decide) fun ac A => ?_)
  refine L_op A rfl (by decide) rfl (y_pickT (A.get (s := 68) rfl) (A.get (s := 70) rfl) fun ac A => ?_)
  refine L_op A rfl (by decide) rfl (y_move (A.get (s := 71) rfl) fun ac A => ?_)
  replace A := A.keep [(0, .bool false), (1, .pointer (some ⟨p, 0, none⟩)), (2, .int .i64 0), (3, .int .i64 0), (4, .int .i64 0), (5, .int .i64 0), (6, .int .i64 0), (7, .int .i64 6), (8, .slice va 1 vc), (9, .int .i64 0), (10, .slice (some ⟨lb, 0, none⟩) 2 lcap), (23, .bool false), (72, .bool true)] ⟨rfl, rfl, rfl, rfl, rfl, rfl, rfl, rfl, rfl, rfl, rfl, rfl, rfl, trivial⟩
  refine L_yes A rfl (by decide) rfl rfl (by decide) (A.get rfl) (y_move (A.get (s := 1) rfl) fun ac A => ?_)
  refine L_yes A rfl (by decide) rfl rfl (by decide) (A.get rfl) (y_call3 (by kernel_rfl) rfl (A.get (s := 73) rfl) rfl rfl (callN (len_is (n := 2) rfl hN (St.app_left (H := Hn6) (K := ([(lb, .cells lcs 28 (0, 0)), (b3, .cells #[.int .u8 98] 5 (1, 2)), (b2, .cells #[.int .u8 97] 5 (1, 2)), (b1, .cells #[.int .i64 1, .int .i64 2, .int .i64 3, .int .i64 2] 28 (0, 0))] ++ Hb)) (S.perm (by classical rw [List.perm_iff_count]; intro x; simp only [List.count_append, List.count_cons, List.count_nil] <;> omega))).holds (i64_lit rfl) (i64_lit rfl)) fun v w H gG nN hf ac A => ?_))
  obtain ⟨rfl, rfl⟩ := hf
  replace S : St _ _ _ ([(lb, .cells lcs 28 (0, 0)), (b3, .cells #[.int .u8 98] 5 (1, 2)), (b2, .cells #[.int .u8 97] 5 (1, 2)), (b1, .cells #[.int .i64 1, .int .i64 2, .int .i64 3, .int .i64 2] 28 (0, 0))] ++ (Hn6 ++ Hb)) := (S.new gG nN).perm (by first | exact List.Perm.refl _ | (rw [List.append_assoc]; exact List.Perm.refl _) | (simp only [List.append_assoc, List.nil_append, List.append_nil]; exact List.Perm.refl _))
  refine L_yes A rfl (by decide) rfl rfl (by decide) (A.get rfl) (y_eql (A.get (s := 74) rfl) rfl (c := true) (by decide) fun ac A => ?_)
  refine L_op A rfl (by decide) rfl (y_pickT (A.get (s := 72) rfl) (A.get (s := 75) rfl) fun ac A => ?_)
  replace A := A.keep [(0, .bool false), (1, .pointer (some ⟨p, 0, none⟩)), (2, .int .i64 0), (3, .int .i64 0), (4, .int .i64 0), (5, .int .i64 0), (6, .int .i64 0), (7, .int .i64 6), (8, .slice va 1 vc), (9, .int .i64 0), (10, .slice (some ⟨lb, 0, none⟩) 2 lcap), (23, .bool false), (76, .bool true)] ⟨rfl, rfl, rfl, rfl, rfl, rfl, rfl, rfl, rfl, rfl, rfl, rfl, rfl, trivial⟩
  refine L_op A rfl (by decide) rfl (y_move (A.get (s := 76) rfl) fun ac A => ?_)
  refine L_yes A rfl (by decide) rfl rfl (by decide) (A.get rfl) (y_move (A.get (s := 10) rfl) fun ac A => ?_)
  refine L_yes A rfl (by decide) rfl rfl (by decide) (A.get rfl) (y_lenS (e := 28) (by kernel_rfl) (A.get (s := 78) rfl) fun ac A => ?_)
  refine L_yes A rfl (by decide) rfl rfl (by decide) (A.get rfl) (y_eql (A.get (s := 79) rfl) rfl (c := true) (by decide) fun ac A => ?_)
  replace A := A.keep [(0, .bool false), (1, .pointer (some ⟨p, 0, none⟩)), (2, .int .i64 0), (3, .int .i64 0), (4, .int .i64 0), (5, .int .i64 0), (6, .int .i64 0), (7, .int .i64 6), (8, .slice va 1 vc), (9, .int .i64 0), (10, .slice (some ⟨lb, 0, none⟩) 2 lcap), (23, .bool false), (77, .bool true), (80, .bool true)] ⟨rfl, rfl, rfl, rfl, rfl, rfl, rfl, rfl, rfl, rfl, rfl, rfl, rfl, rfl, trivial⟩
  refine L_op A rfl (by decide) rfl (y_pickT (A.get (s := 77) rfl) (A.get (s := 80) rfl) fun ac A => ?_)
  refine L_op A rfl (by decide) rfl (y_move (A.get (s := 81) rfl) fun ac A => ?_)
  refine L_yes A rfl (by decide) rfl rfl (by decide) (A.get rfl) (y_move (A.get (s := 10) rfl) fun ac A => ?_)
  refine L_yes A rfl (by decide) rfl rfl (by decide) (A.get rfl) (y_indexS (e := 28) (size := 2) (by kernel_rfl) (by kernel_rfl) (A.get (s := 83) rfl) rfl (by decide) (by decide) (j := 2) rfl fun ac A => ?_)
  replace A := A.keep [(0, .bool false), (1, .pointer (some ⟨p, 0, none⟩)), (2, .int .i64 0), (3, .int .i64 0), (4, .int .i64 0), (5, .int .i64 0), (6, .int .i64 0), (7, .int .i64 6), (8, .slice va 1 vc), (9, .int .i64 0), (10, .slice (some ⟨lb, 0, none⟩) 2 lcap), (23, .bool false), (82, .bool true), (84, .pointer (some ⟨lb, 2, none⟩))] ⟨rfl, rfl, rfl, rfl, rfl, rfl, rfl, rfl, rfl, rfl, rfl, rfl, rfl, rfl, trivial⟩
  refine L_yes A rfl (by decide) rfl rfl (by decide) (A.get rfl) (y_loadAgg [.int .i64 2, .int .i64 3] (by kernel_rfl) (A.get (s := 84) rfl) (row_cells (S.get 0 rfl) htake rfl (by decide)) fun ac A => ?_)
  refine L_yes A rfl (by decide) rfl rfl (by decide) (A.get rfl) (y_build2 rfl rfl (v := .agg #[.int .i64 2, .int .i64 3]) (by kernel_rfl) fun ac A => ?_)
  refine L_yes A rfl (by decide) rfl rfl (by decide) (A.get rfl) (y_eqlPair (e := 3) (by kernel_rfl) (by kernel_rfl) (by kernel_rfl) (by kernel_rfl) (A.get (s := 85) rfl) (A.get (s := 86) rfl) (r := true) (by decide) fun ac A => ?_)
  refine L_op A rfl (by decide) rfl (y_pickT (A.get (s := 82) rfl) (A.get (s := 87) rfl) fun ac A => ?_)
  replace A := A.keep [(0, .bool false), (1, .pointer (some ⟨p, 0, none⟩)), (2, .int .i64 0), (3, .int .i64 0), (4, .int .i64 0), (5, .int .i64 0), (6, .int .i64 0), (7, .int .i64 6), (8, .slice va 1 vc), (9, .int .i64 0), (10, .slice (some ⟨lb, 0, none⟩) 2 lcap), (23, .bool false), (88, .bool true)] ⟨rfl, rfl, rfl, rfl, rfl, rfl, rfl, rfl, rfl, rfl, rfl, rfl, rfl, trivial⟩
  refine L_op A rfl (by decide) rfl (y_move (A.get (s := 88) rfl) fun ac A => ?_)
  refine L_yes A rfl (by decide) rfl rfl (by decide) (A.get rfl) (y_move (A.get (s := 1) rfl) fun ac A => ?_)
  refine L_yes A rfl (by decide) rfl rfl (by decide) (A.get rfl) (y_call3 (by kernel_rfl) rfl (A.get (s := 90) rfl) rfl rfl (callN (open_is (c := true) rfl hN (St.app_left (H := Hn6) (K := ([(lb, .cells lcs 28 (0, 0)), (b3, .cells #[.int .u8 98] 5 (1, 2)), (b2, .cells #[.int .u8 97] 5 (1, 2)), (b1, .cells #[.int .i64 1, .int .i64 2, .int .i64 3, .int .i64 2] 28 (0, 0))] ++ Hb)) (S.perm (by classical rw [List.perm_iff_count]; intro x; simp only [List.count_append, List.count_cons, List.count_nil] <;> omega))).holds (i64_lit rfl) (i64_lit rfl)) fun v w H gG nN hf ac A => ?_))
  obtain ⟨rfl, rfl⟩ := hf
  replace S : St _ _ _ ([(lb, .cells lcs 28 (0, 0)), (b3, .cells #[.int .u8 98] 5 (1, 2)), (b2, .cells #[.int .u8 97] 5 (1, 2)), (b1, .cells #[.int .i64 1, .int .i64 2, .int .i64 3, .int .i64 2] 28 (0, 0))] ++ (Hn6 ++ Hb)) := (S.new gG nN).perm (by first | exact List.Perm.refl _ | (rw [List.append_assoc]; exact List.Perm.refl _) | (simp only [List.append_assoc, List.nil_append, List.append_nil]; exact List.Perm.refl _))
  refine L_op A rfl (by decide) rfl (y_pickT (A.get (s := 89) rfl) (A.get (s := 91) rfl) fun ac A => ?_)
  replace A := A.keep [(0, .bool false), (1, .pointer (some ⟨p, 0, none⟩)), (2, .int .i64 0), (3, .int .i64 0), (4, .int .i64 0), (5, .int .i64 0), (6, .int .i64 0), (7, .int .i64 6), (8, .slice va 1 vc), (9, .int .i64 0), (10, .slice (some ⟨lb, 0, none⟩) 2 lcap), (23, .bool false), (92, .bool true)] ⟨rfl, rfl, rfl, rfl, rfl, rfl, rfl, rfl, rfl, rfl, rfl, rfl, rfl, trivial⟩
  refine L_op A rfl (by decide) rfl (y_move (A.get (s := 92) rfl) fun ac A => ?_)
  refine L_yes A rfl (by decide) rfl rfl (by decide) (A.get rfl) (y_move (A.get (s := 1) rfl) fun ac A => ?_)
  refine L_yes A rfl (by decide) rfl rfl (by decide) (A.get rfl) (y_call3 (by kernel_rfl) rfl (A.get (s := 94) rfl) rfl rfl (callN (open_is (c := false) rfl hN (St.app_left (H := Hn6) (K := ([(lb, .cells lcs 28 (0, 0)), (b3, .cells #[.int .u8 98] 5 (1, 2)), (b2, .cells #[.int .u8 97] 5 (1, 2)), (b1, .cells #[.int .i64 1, .int .i64 2, .int .i64 3, .int .i64 2] 28 (0, 0))] ++ Hb)) (S.perm (by classical rw [List.perm_iff_count]; intro x; simp only [List.count_append, List.count_cons, List.count_nil] <;> omega))).holds (i64_lit rfl) (i64_lit rfl)) fun v w H gG nN hf ac A => ?_))
  obtain ⟨rfl, rfl⟩ := hf
  replace S : St _ _ _ ([(lb, .cells lcs 28 (0, 0)), (b3, .cells #[.int .u8 98] 5 (1, 2)), (b2, .cells #[.int .u8 97] 5 (1, 2)), (b1, .cells #[.int .i64 1, .int .i64 2, .int .i64 3, .int .i64 2] 28 (0, 0))] ++ (Hn6 ++ Hb)) := (S.new gG nN).perm (by first | exact List.Perm.refl _ | (rw [List.append_assoc]; exact List.Perm.refl _) | (simp only [List.append_assoc, List.nil_append, List.append_nil]; exact List.Perm.refl _))
  refine L_yes A rfl (by decide) rfl rfl (by decide) (A.get rfl) (y_not (A.get (s := 95) rfl) rfl fun ac A => ?_)
  replace A := A.keep [(0, .bool false), (1, .pointer (some ⟨p, 0, none⟩)), (2, .int .i64 0), (3, .int .i64 0), (4, .int .i64 0), (5, .int .i64 0), (6, .int .i64 0), (7, .int .i64 6), (8, .slice va 1 vc), (9, .int .i64 0), (10, .slice (some ⟨lb, 0, none⟩) 2 lcap), (23, .bool false), (93, .bool true), (96, .bool true)] ⟨rfl, rfl, rfl, rfl, rfl, rfl, rfl, rfl, rfl, rfl, rfl, rfl, rfl, rfl, trivial⟩
  refine L_op A rfl (by decide) rfl (y_pickT (A.get (s := 93) rfl) (A.get (s := 96) rfl) fun ac A => ?_)
  refine L_op A rfl (by decide) rfl (y_assign (A.get (s := 97) rfl) fun ac A => ?_)
  replace A := A.keep [(0, .bool true), (1, .pointer (some ⟨p, 0, none⟩)), (2, .int .i64 0), (3, .int .i64 0), (4, .int .i64 0), (5, .int .i64 0), (6, .int .i64 0), (7, .int .i64 6), (8, .slice va 1 vc), (9, .int .i64 0), (10, .slice (some ⟨lb, 0, none⟩) 2 lcap), (23, .bool false)] ⟨rfl, rfl, rfl, rfl, rfl, rfl, rfl, rfl, rfl, rfl, rfl, rfl, trivial⟩
  refine hK9 _ _ ?_
  exact wp_ret ⟨A.defers, _, res_run (rs := [.tmp 0]) (vs := [.bool true]) rfl ⟨A.get rfl, trivial⟩, ⟨_, rfl, S.kp.to_gr, _, rfl, S.newF⟩⟩
end Go.Proofs.Ytaeidblipdjgnaa
