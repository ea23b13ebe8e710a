import Derived.Test.YtaeidblipdjgnaaZoom
namespace Go.Proofs.Ytaeidblipdjgnaa
open Go.RowKit Go.Maps Go.WideMaps

/-- slices.Delete of one datagram: in place -/
theorem setCs_get (vs : List Value) : ∀ (c : Array Value) (i j : Nat), i + vs.length ≤ c.size → (setCs c i vs)[j]? = if i ≤ j ∧ j < i + vs.length then vs[j - i]? else c[j]? := by
  induction vs with
  | nil => intro c i j h; simp [setCs]; intro h1 h2; omega
  | cons v r ih =>
    intro c i j h
    simp only [List.length_cons] at h
    simp only [setCs]
    rw [ih _ _ _ (by simp; omega)]
    by_cases h1 : i + 1 ≤ j ∧ j < i + 1 + r.length
    · rw [if_pos h1, if_pos (by simp; omega)]
      rw [show j - i = (j - (i + 1)) + 1 by omega]; simp
    · rw [if_neg h1, Array.getElem?_setIfInBounds]
      by_cases h2 : i = j
      · subst h2; simp; omega
      · rw [if_neg h2, if_neg (by simp; omega)]

set_option maxRecDepth 20000 in
set_option maxHeartbeats 4000000 in
theorem delete_ok {w : World} {b n cap i : Nat} {cs : Array Value} (hb : w.heap[b]? = some (.cells cs 85 (0, 0))) (hcs : cs.size = cap * 2) (hn : n ≤ cap) (hi : i < n) (hbig : n ≤ 1000) (hone : ∀ j q, j < n * 2 → cs[j]? = some q → oneC q = true) :
    Calls Try.prog 42 #[.slice (some ⟨b, 0, none⟩) n cap, .int .i64 i, .int .i64 ((i : Int) + 1)] w (RetW [b] w fun r H' => r = .slice (some ⟨b, 0, none⟩) (n - 1) cap ∧ ∃ cs', H' = [(b, .cells cs' 85 (0, 0))] ∧ cs'.size = cap * 2 ∧ ∀ j, j < 2 * (n - 1) → cs'[j]? = if j < 2 * i then cs[j]? else cs[j + 2]?) := by
  have S0 : St [b] w w [(b, .cells cs 85 (0, 0))] := St.start (H := [(b, .cells cs 85 (0, 0))]) (by simp [keys]) (by intro x hx; simp at hx; subst hx; exact hb)
  refine enter Try.func42 rfl (n := 33) rfl (Nat.le_of_ble_eq_true rfl) fun _ A => ?_
  have S : St _ _ _ [(b, .cells cs 85 (0, 0))] := S0
  refine wp_seq_k fun K1 hK1 => ?_
  refine region_seq ?_  -- region 0
  refine La A rfl (evc _ _) fun _ A => ?_
  replace A := A.only [6, 2, 1, 0] rfl
  refine hK1 _ _ ?_
  refine wp_seq_k fun K2 hK2 => ?_
  refine region_seq ?_  -- region 1
  refine Lm A rfl (A.g 0 rfl) fun _ A => Lm A rfl (A.g 1 rfl) fun _ A => Lm A rfl (A.g 2 rfl) fun _ A => Lm A rfl (A.g 0 rfl) fun _ A => Lo A rfl (y_lenS (e := 85) (by kernel_rfl) (A.g 11 rfl) fun _ A => ?_)
  refine Lo A rfl (y_slice3 (e := 85) (size := 2) (l := i) (h := i + 1) (m := n) (by kernel_rfl) (by kernel_rfl) (A.g 8 rfl) (A.g 9 rfl) (A.g 10 rfl) (A.g 12 rfl) (by omega) (by omega) (by omega) fun _ A => ?_)
  replace A := A.only [6, 2, 1, 0] rfl
  refine hK2 _ _ ?_
  refine wp_seq_k fun K3 hK3 => ?_
  refine wp_seq_k fun K4 hK4 => ?_
  refine region_seq ?_  -- region 2
  refine Lm A rfl (A.g 1 rfl) fun _ A => Lm A rfl (A.g 2 rfl) fun _ A => Lo A rfl (y_eql (A.g 14 rfl) (A.g 15 rfl) (c := false) (by simp; omega) fun _ A => ?_)
  replace A := A.only [16, 6, 2, 1, 0] rfl
  refine hK4 _ _ ?_
  refine wp_cond_false (A.get rfl) ?_
  refine wp_skip ?_
  refine hK3 _ _ ?_
  refine wp_seq_k fun K5 hK5 => ?_
  refine region_seq ?_  -- region 4
  refine Lm A rfl (A.g 0 rfl) fun _ A => Lo A rfl (y_lenS (e := 85) (by kernel_rfl) (A.g 18 rfl) fun _ A => ?_)
  refine La A rfl (A.g 19 rfl) fun _ A => ?_
  replace A := A.only [16, 7, 6, 2, 1, 0] rfl
  refine hK5 _ _ ?_
  refine wp_seq_k fun K6 hK6 => ?_
  refine region_draw A [⟨20, pl (eqv (.slice (some ⟨b, 0, none⟩) n cap)), [], [0], none, false⟩, ⟨21, pl (eqv (.int .i64 i)), [], [1], none, false⟩, ⟨22, pl (eqv (.slice (some ⟨b, 0, none⟩) i cap)), [0, 1], [], none, false⟩, ⟨23, pl (eqv (.slice (some ⟨b, 0, none⟩) n cap)), [], [0], none, false⟩, ⟨24, pl (eqv (.int .i64 ((i : Int) + 1))), [], [2], none, false⟩, ⟨25, pl (eqv (sliced b 0 (i + 1) n cap 2)), [3, 4], [], none, false⟩] [(6, false), (7, false)] (by kernel_rfl) (by kernel_rfl) (fun d _ _ _ _ h => by cases d <;> exact h) ⟨?_, ?_, ?_, ?_, ?_, ?_, trivial⟩ ?_  -- region 5
  · refine due_plain fun ρ w1 G hsrc hold => ?_; obtain ⟨o0, -⟩ := hold; exact y_move (o0.trans (A.g 0 rfl)) y_eq
  · refine due_plain fun ρ w1 G hsrc hold => ?_; obtain ⟨o1, -⟩ := hold; exact y_move (o1.trans (A.g 1 rfl)) y_eq
  · refine due_plain fun ρ w1 G hsrc hold => ?_; obtain ⟨⟨_, _, ⟨h20, -⟩, -⟩, ⟨_, _, ⟨h21, -⟩, -⟩, -⟩ := hsrc; refine y_sliceHi (e := 85) (size := 2) (h := i) (by kernel_rfl) (by kernel_rfl) h20 h21 (by omega) (y_eq' ?_); unfold sliced; split <;> simp
  · refine due_plain fun ρ w1 G hsrc hold => ?_; obtain ⟨o0, -⟩ := hold; exact y_move (o0.trans (A.g 0 rfl)) y_eq
  · refine due_plain fun ρ w1 G hsrc hold => ?_; obtain ⟨o2, -⟩ := hold; exact y_move (o2.trans (A.g 2 rfl)) y_eq
  · refine due_plain fun ρ w1 G hsrc hold => ?_; obtain ⟨⟨_, _, ⟨h23, -⟩, -⟩, ⟨_, _, ⟨h24, -⟩, -⟩, -⟩ := hsrc; exact y_sliceLo (e := 85) (size := 2) (l := i + 1) (by kernel_rfl) (by kernel_rfl) h23 h24 (by omega) y_eq
  rintro _ _ ⟨rfl, rfl⟩ _ _ ⟨rfl, rfl⟩ _ _ ⟨rfl, rfl⟩ _ _ ⟨rfl, rfl⟩ _ _ ⟨rfl, rfl⟩ _ _ ⟨rfl, rfl⟩
  intro ac w A gG nN
  replace S : St _ _ _ [(b, .cells cs 85 (0, 0))] := S.new gG nN
  have hX : Src w 2 (sliced b 0 (i + 1) n cap 2) (n - (i + 1)) ((cs.toList.drop ((i + 1) * 2)).take ((n - (i + 1)) * 2)) := by
    refine ⟨by simp; omega, ?_⟩
    by_cases hz : n - (i + 1) = 0
    · exact Or.inl ⟨hz, _, _, by unfold sliced; rw [hz]⟩
    · refine Or.inr ⟨⟨b, 0 + (i + 1) * 2, none⟩, _, by unfold sliced; rw [if_neg (by omega)], fun j hj => ?_⟩
      simp only [List.length_take, List.length_drop, Array.length_toList] at hj
      rw [add_eq, cell_of (S.get 0 rfl)]
      simp only [List.getElem_take, List.getElem_drop, Array.getElem_toList]
      rw [show 0 + (i + 1) * 2 + j = (i + 1) * 2 + j by omega]
      exact Array.getElem?_eq_getElem (by omega)
  refine Lo A rfl (y_appendIn okDG (by kernel_rfl) (A.g 22 rfl) (A.g 25 rfl) (i := 0) S rfl hcs (by omega) hX (fun q hq => by obtain ⟨j, hj⟩ := List.getElem?_of_mem hq; rw [List.getElem?_take] at hj; split at hj; (rw [List.getElem?_drop, Array.getElem?_toList] at hj; exact hone _ q (by omega) hj); simp at hj) fun S ac A => ?_)
  generalize hcs1 : setCs cs (i * 2) ((cs.toList.drop ((i + 1) * 2)).take ((n - (i + 1)) * 2)) = cs1 at *
  have hsz1 : cs1.size = cap * 2 := by rw [← hcs1, setCs_size, hcs]
  have hlen1 : i + (n - (i + 1)) = n - 1 := by omega
  rw [hlen1] at A
  refine La A rfl (A.g 26 rfl) fun _ A => ?_
  replace A := A.only [16, 7, 6, 2, 1, 0] rfl
  refine hK6 _ _ ?_
  refine wp_seq_k fun K7 hK7 => ?_
  refine region_seq ?_  -- region 6
  refine Lm A rfl (A.g 0 rfl) fun _ A => Lm A rfl (A.g 0 rfl) fun _ A => Lo A rfl (y_lenS (e := 85) (by kernel_rfl) (A.g 28 rfl) fun _ A => ?_)
  refine Lm A rfl (A.g 7 rfl) fun _ A => Lo A rfl (y_sliceLH (e := 85) (size := 2) (l := n - 1) (h := n) (by kernel_rfl) (by kernel_rfl) (A.g 27 rfl) (A.g 29 rfl) (A.g 30 rfl) (by omega) (by omega) fun _ A => ?_)
  have hcl : sliced b 0 (n - 1) n cap 2 = .slice (some ⟨b, 0 + (n - 1) * 2, none⟩) (0 + 1) (cap - (n - 1)) := by unfold sliced; rw [if_neg (by omega), show n - (n - 1) = 0 + 1 by omega]
  refine L_opN A rfl rfl (y_clearS (e := 85) (z := .agg #[.slice none 0 0, .bool false]) (T := 85) (by kernel_rfl) (by kernel_rfl) ((A.get (s := 31) rfl).trans hcl) (S.get 0 rfl) (Z := [.slice none 0 0, .bool false]) (by kernel_rfl) (by simp [hsz1]; omega) (one_all rfl) ?_)
  replace S := S.setAt 0 rfl (.cells (setCs cs1 (0 + (n - 1) * 2) [.slice none 0 0, .bool false]) 85 (0, 0))
  replace A := A.only [16, 7, 6, 2, 1, 0] rfl
  refine hK7 _ _ ?_
  refine wp_seq_k fun K8 hK8 => ?_
  refine region_seq ?_  -- region 7
  refine Lm A rfl (A.g 0 rfl) fun _ A => La A rfl (A.g 32 rfl) fun _ A => ?_
  replace A := A.only [16, 7, 6, 2, 1, 0] rfl
  refine hK8 _ _ ?_
  refine wp_ret ⟨A.defers, _, res_run (rs := [.tmp 6]) (vs := [.slice (some ⟨b, 0, none⟩) (n - 1) cap]) rfl ⟨A.get rfl, trivial⟩, ⟨_, _, rfl, ⟨rfl, _, rfl, by rw [setCs_size, hsz1], ?_⟩, S⟩⟩
  intro j hj
  rw [setCs_get _ _ _ _ (by simp [hsz1]; omega), if_neg (by simp; omega), ← hcs1, setCs_get _ _ _ _ (by simp; omega)]
  by_cases h1 : j < 2 * i
  · rw [if_neg (by simp; omega), if_pos h1]
  · rw [if_pos (by simp; omega), if_neg h1, List.getElem?_take, if_pos (by omega), List.getElem?_drop, Array.getElem?_toList]; congr 1; omega
end Go.Proofs.Ytaeidblipdjgnaa
