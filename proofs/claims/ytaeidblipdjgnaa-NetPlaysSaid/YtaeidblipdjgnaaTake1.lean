import Derived.Test.YtaeidblipdjgnaaDel
import Derived.Test.YtaeidblipdjgnaaAt2
namespace Go.Proofs.Ytaeidblipdjgnaa
open Go.RowKit Go.Maps Go.WideMaps

theorem itCells_length (l : List It) : (itCells l).length = l.length * 2 := by
  induction l with
  | nil => rfl
  | cons i r ih => simp only [itCells, List.flatMap_cons, List.length_append, List.length_cons, List.length_nil] at *; omega
theorem itCells_get : ∀ (l : List It) (m : Nat), (itCells l)[m]? = (l[m / 2]?).map fun it => if m % 2 = 0 then it.v else .bool it.sp
  | [], m => by simp [itCells]
  | i :: r, 0 => by simp [itCells]
  | i :: r, 1 => by simp [itCells]
  | i :: r, m + 2 => by
    have := itCells_get r m
    rw [show (m + 2) / 2 = m / 2 + 1 by omega, show (m + 2) % 2 = m % 2 by omega, List.getElem?_cons_succ, ← this]
    simp [itCells]
theorem itH_erase : ∀ (l : List It) (j : Nat) (it : It), l[j]? = some it → (itH l).Perm (it.H ++ itH (l.eraseIdx j))
  | [], _, _, h => by simp at h
  | i :: r, 0, it, h => by simp at h; subst h; simp [itH]
  | i :: r, j + 1, it, h => by
    simp at h
    have := itH_erase r j it h
    simp only [itH, List.flatMap_cons, List.eraseIdx_cons_succ] at *
    exact (List.Perm.append_left i.H this).trans (List.perm_append_comm_assoc _ _ _)
theorem itOk_erase {l : List It} (h : ItOk l) (j : Nat) : ItOk (l.eraseIdx j) := fun i hi => h i ((List.eraseIdx_sublist _ _).subset hi)
theorem itQ_erase (l : List It) (j : Nat) : itQ (l.eraseIdx j) = (itQ l).eraseIdx j := by unfold itQ; rw [eraseIdx_map']
/-- the slice's block, where there is something in it -/
theorem SlRep.block {T size n : Nat} {v : Value} {xs : List Value} {H : Frag} (h : SlRep T size v n xs H) (hn : 0 < n) : ∃ b cap cs, v = .slice (some ⟨b, 0, none⟩) n cap ∧ H = [(b, .cells cs T (0, 0))] ∧ cs.size = cap * size ∧ n ≤ cap ∧ cs.toList.take (n * size) = xs := by
  rcases h.2 with ⟨h0, _⟩ | h
  · omega
  · exact h
theorem SlRep.cell {cs : Array Value} {k : Nat} {xs : List Value} (h : cs.toList.take k = xs) {j : Nat} (hj : j < k) : cs[j]? = xs[j]? := by
  rw [← h, List.getElem?_take, if_pos hj, Array.getElem?_toList]

/-- what Take has captured: the place, and what it hands back -/
def capT (bi bo : Nat) (j : Nat) (v : Value) : Frag := [(bi, .cells #[.int .i64 j] 3 (0, 0)), (bo, .cells #[v] 31 (0, 0))]

set_option maxRecDepth 20000 in
set_option maxHeartbeats 4000000 in
theorem take1_ok {w : World} {qa : Option Addr} {qc : Nat} {its : List It} {HQ : Frag} {bi bo j : Nat} {it : It} (hsl : SlRep 85 2 (.slice qa its.length qc) its.length (itCells its) HQ) (hok : ItOk its) (hj : its[j]? = some it) (hbig : its.length ≤ 24)
    (nd : (keys (HQ ++ (itH its ++ capT bi bo j (.slice none 0 0)))).Nodup) (hH : Holds w (HQ ++ (itH its ++ capT bi bo j (.slice none 0 0)))) :
    Calls Try.prog 41 (#[.slice qa its.length qc] ++ #[.pointer (some ⟨bi, 0, none⟩), .pointer (some ⟨bo, 0, none⟩)]) w (RetW (keys (HQ ++ (itH its ++ capT bi bo j (.slice none 0 0)))) w fun r Hr => ∃ HQ', r = .tuple #[.slice qa (its.length - 1) qc, .int .i64 0] ∧ SlRep 85 2 (.slice qa (its.length - 1) qc) (its.eraseIdx j).length (itCells (its.eraseIdx j)) HQ' ∧ Hr = HQ' ++ (itH (its.eraseIdx j) ++ (capT bi bo j it.v ++ it.H))) := by
  have hjl : j < its.length := lt_of_get hj
  obtain ⟨b, cap, cs, hq, rfl, hcs, hncap, htake⟩ := hsl.block (by omega)
  simp only [Value.slice.injEq] at hq
  obtain ⟨rfl, -, rfl⟩ := hq
  have hit := hok it (List.mem_of_getElem? hj)
  obtain ⟨ba, bc, hbv⟩ := SlRep.len hit.1
  have hcell : cs[j * 2]? = some (.slice ba it.bs.length bc) := by
    rw [SlRep.cell htake (by omega), itCells_get, show j * 2 / 2 = j by omega, hj]; simp [hbv]
  have hone : ∀ j q, j < its.length * 2 → cs[j]? = some q → oneC q = true := by
    intro j q hj hq
    rw [SlRep.cell htake hj, itCells_get] at hq
    obtain ⟨it', h1, h2⟩ := Option.map_eq_some_iff.1 hq
    have := hok it' (List.mem_of_getElem? h1)
    obtain ⟨_, _, hv⟩ := SlRep.len this.1
    subst h2
    split
    · rw [hv]; rfl
    · rfl
  have S0 := St.start nd hH
  show Calls Try.prog 41 #[.slice (some ⟨b, 0, none⟩) its.length qc, .pointer (some ⟨bi, 0, none⟩), .pointer (some ⟨bo, 0, none⟩)] w _
  refine enter Try.func41 rfl (n := 16) rfl (Nat.le_of_ble_eq_true rfl) fun _ A => ?_
  have S : St _ _ _ ([(b, .cells cs 85 (0, 0)), (bi, .cells #[.int .i64 j] 3 (0, 0)), (bo, .cells #[.slice none 0 0] 31 (0, 0))] ++ itH its) := St.last (L := [(b, .cells cs 85 (0, 0))]) S0 List.perm_append_comm
  refine wp_seq_k fun K1 hK1 => ?_
  refine region_seq ?_  -- region 0
  refine La A rfl (evc _ _) fun _ A => La A rfl (evc _ _) fun _ A => ?_
  replace A := A.only [5, 4, 2, 1, 0] rfl
  refine hK1 _ _ ?_
  refine wp_seq_k fun K2 hK2 => ?_
  refine region_seq ?_  -- region 1
  refine Lm A rfl (A.g 0 rfl) fun _ A => Lo A rfl (y_load (by kernel_rfl) (A.g 1 rfl) ((cell_of (S.get 1 rfl) _).trans rfl) fun _ A => ?_)
  refine Lo A rfl (y_indexS (e := 85) (size := 2) (j := j * 2) (by kernel_rfl) (by kernel_rfl) (A.g 6 rfl) (A.g 7 rfl) (by omega) (by omega) (by simp) fun _ A => ?_)
  refine Lo A rfl (y_fieldAddr (off := 0) (j := j * 2) (by kernel_rfl) (A.g 8 rfl) (by first | rfl | omega) fun _ A => ?_)
  refine Lo A rfl (y_load (by kernel_rfl) (A.g 9 rfl) ((cell_of (S.get 0 rfl) _).trans hcell) fun _ A => ?_)
  refine L_opN A rfl rfl (y_store 1 (by kernel_rfl) (A.g 2 rfl) (A.g 10 rfl) (S.get 2 rfl) rfl (Nat.le_of_ble_eq_true rfl) (one_all rfl) ?_)
  replace S : St _ _ _ ([(b, .cells cs 85 (0, 0)), (bi, .cells #[.int .i64 j] 3 (0, 0)), (bo, .cells #[.slice ba it.bs.length bc] 31 (0, 0))] ++ (itH its)) := S.setAt 2 rfl _
  replace A := A.only [5, 4, 2, 1, 0] rfl
  refine hK2 _ _ ?_
  refine wp_seq_k fun K3 hK3 => ?_
  refine region_seq ?_  -- region 2
  refine Lm A rfl (A.g 0 rfl) fun _ A => Lo A rfl (y_load (by kernel_rfl) (A.g 1 rfl) ((cell_of (S.get 1 rfl) _).trans rfl) fun _ A => ?_)
  refine Lo A rfl (y_load (by kernel_rfl) (A.g 1 rfl) ((cell_of (S.get 1 rfl) _).trans rfl) fun _ A => ?_)
  refine Lo A rfl (y_add (A.g 13 rfl) (evc _ _) (c := (j : Int) + 1) (wrap64 (by omega)) fun _ A => ?_)
  replace A := A.only [14, 12, 11, 5, 4, 2, 1, 0] rfl
  refine Lo A rfl (y_call3 (by kernel_rfl) rfl (A.g 11 rfl) (A.g 12 rfl) (A.g 14 rfl) (callW (delete_ok (S.get 0 rfl) hcs hncap hjl (by omega) hone) fun v w H s hf ac A => ?_))
  obtain ⟨rfl, cs2, rfl, hcs2, hget⟩ := hf
  replace S : St _ _ _ ([(b, .cells cs2 85 (0, 0)), (bi, .cells #[.int .i64 j] 3 (0, 0)), (bo, .cells #[.slice ba it.bs.length bc] 31 (0, 0))] ++ (itH its)) := St.call (H := [(b, .cells cs 85 (0, 0))]) (R := ([(bi, .cells #[.int .i64 j] 3 (0, 0)), (bo, .cells #[.slice ba it.bs.length bc] 31 (0, 0))] ++ (itH its))) S rfl s
  refine La A rfl (A.g 15 rfl) fun _ A => La A rfl (evc _ _) fun _ A => ?_
  replace A := A.only [5, 4, 2, 1, 0] rfl
  refine hK3 _ _ ?_
  have hS := St.last (L := [(b, .cells cs2 85 (0, 0))]) (A := capT bi bo j (.slice ba it.bs.length bc) ++ itH its) (B := itH (its.eraseIdx j) ++ (capT bi bo j (.slice ba it.bs.length bc) ++ it.H)) S (by refine List.Perm.trans (List.Perm.append_left _ (itH_erase its j it hj)) ?_; (classical rw [List.perm_iff_count]; intro x; simp only [List.count_append]; omega))
  rw [← hbv] at hS
  have hel : (its.eraseIdx j).length = its.length - 1 := by rw [List.length_eraseIdx, if_pos hjl]
  refine wp_ret ⟨A.defers, _, res_run (rs := [.tmp 4, .tmp 5]) (vs := [.slice (some ⟨b, 0, none⟩) (its.length - 1) qc, .int .i64 0]) rfl ⟨A.get rfl, A.get rfl, trivial⟩, ⟨_, _, rfl, ⟨_, rfl, ⟨itCells_length _, Or.inr ⟨b, qc, cs2, by rw [hel], rfl, hcs2, by omega, ?_⟩⟩, rfl⟩, hS⟩⟩
  apply List.ext_getElem?; intro m; rw [List.getElem?_take, itCells_get]
  by_cases hm : m < (its.eraseIdx j).length * 2
  · rw [if_pos hm, Array.getElem?_toList, hget m (by omega), List.getElem?_eraseIdx]
    by_cases h2 : m < 2 * j
    · rw [if_pos h2, if_pos (by omega), SlRep.cell htake (by omega), itCells_get]
    · rw [if_neg h2, if_neg (by omega), SlRep.cell htake (by omega), itCells_get, show (m + 2) / 2 = m / 2 + 1 by omega, show (m + 2) % 2 = m % 2 by omega]
  · rw [if_neg hm, List.getElem?_eq_none (by omega)]; rfl
end Go.Proofs.Ytaeidblipdjgnaa
