/-
  streamTakes_holds, part 5 of 5: merged by program from the texts that it needs.
-/
import Derived.Test.YtoijfmfkkmbabaaTakesD
set_option linter.unusedSimpArgs false
set_option linter.unusedVariables false
set_option linter.unnecessarySimpa false
namespace Go.Proofs.Ytoijfmfkkmbabaa
open Go.RowKit
theorem hand_no {l : List Slot} (g : Good l l.length) {k h e : Nat} {p : Proc} {x : Slot} (he : e ≤ countS l) (hx : l[k]? = some x) (hn : ¬ (h < x.n ∧ x.n ≤ e)) : handRow p l h (min (k + 1) e - h) = handRow p l h (min k e - h) := by
  obtain ⟨h1, h2⟩ := good_n g hx
  rcases Nat.lt_or_ge k (countS l) with hk | hk
  · have := h1 hk; congr 1; omega
  · congr 1; omega
theorem hand_yes {l : List Slot} (g : Good l l.length) {k h e : Nat} {p : Proc} {x : Slot} (he : e ≤ countS l) (hx : l[k]? = some x) (ha : h < x.n) (hc : x.n ≤ e) : handRow p l h (min (k + 1) e - h) = handRow p l h (min k e - h) ++ [⟨p, x.n, x.body⟩] := by
  obtain ⟨h1, h2⟩ := good_n g hx
  have hk : k < countS l := by
    rcases Nat.lt_or_ge k (countS l) with hk | hk
    · exact hk
    · have := h2 hk; omega
  have e1 := h1 hk
  rw [show min (k + 1) e - h = (k - h) + 1 by omega, show min k e - h = k - h by omega, e1]
  have e2 : h + 1 + (k - h) = k + 1 := by omega
  have := handRow_next (p := p) (l := l) (h := h) (k := k - h) (s := x) (by rw [e2]; exact good_msg g hx hk)
  rw [e2] at this; exact this
set_option maxRecDepth 100000 in
theorem handOk (hV : ∀ v : View, v.bounded → Con Try.prog 36 [.ag [.u v.id.round, .z v.id.server.node, .u v.id.server.inc, .d (.ro 2 (procs v.members)), .d (.ro 1 (nums v.starts))]] (DV.v (.bool v.may))) (f : Flow) (u : List Nat) (hb : f.bounded) (hu : u.length ≤ 9223372036854775807) : Con Try.prog 16 [.ag [.u f.view.id.round, .z f.view.id.server.node, .u f.view.id.server.inc, .d (.ro 2 (procs f.view.members)), .d (.ro 1 (nums f.view.starts)), .d (.ro 1 (streams f.streams)), .d (.ro 1 (nums f.handed))], .d (.ro 1 (nums u))] (.tu [.ag (f.owned.hand u).half, .em 36 4 (msgsO (handTo f.owned u f.owned.streams.length))]) := by
  have hbo := Flow.owned_bounded hb
  obtain ⟨hol, hoh⟩ := Flow.owned_len f
  obtain ⟨hbv, hb1, hb2, hb3⟩ := id hbo
  refine Con.intro (by kernel_rfl) rfl rfl 91 rfl rfl fun w0 K ac hK r => ?_
  refine toAt (todo' := aft Try.f16 2) (E' := [(1, .d (.ro 1 (nums u))), (4, .pt 1 0), (5, .d (.v (.slice none 0 0))), (6, .pt 6 0), (7, .sl 7 (f.owned.streams.length))]) (M' := [.bx 33 [.u f.view.id.round, .z f.view.id.server.node, .u f.view.id.server.inc, .d (.ro 2 (procs f.view.members)), .d (.ro 1 (nums f.view.starts)), .d (.ro 1 (streams f.streams)), .d (.ro 1 (nums f.handed))], .bx 33 [.d (.v (.int .u64 0)), .z 0, .d (.v (.int .u64 0)), .d (.v (.slice none 0 0)), .d (.v (.slice none 0 0)), .d (.v (.slice none 0 0)), .d (.v (.slice none 0 0))], .rw 24 2 (procs f.owned.view.members), .rw 22 1 (nums f.owned.view.starts), .rw 67 1 (streamsO f.owned.streams), .rw 22 1 (nums f.owned.handed), .bx 72 [.u f.owned.view.id.round, .z f.owned.view.id.server.node, .u f.owned.view.id.server.inc, .sl 2 ((procs f.owned.view.members).length), .sl 3 ((nums f.owned.view.starts).length), .sl 4 ((streamsO f.owned.streams).length), .sl 5 ((nums f.owned.handed).length)], .rw 22 1 (List.replicate (f.owned.streams.length) [.v (.int .u64 0)])]) tb_ok mixed_ok hK [(1, [(1, .con (.ag [.u f.owned.view.id.round, .z f.owned.view.id.server.node, .u f.owned.view.id.server.inc, .em 24 2 (procs f.owned.view.members), .em 22 1 (nums f.owned.view.starts), .em 67 1 (streamsO f.owned.streams), .em 22 1 (nums f.owned.handed)]))]), (2, [(3, .z (((f.owned.streams.length : Nat) : Int))), (4, .n (f.owned.streams.length))])] 6 [0, 1, 2, 3, 4, 5, 6, 7] [1, 4, 5, 6, 7] r (by kernel_rfl) (an (workOk hV f (by assumption)) (an ((by simp [bytesR]) : (((streamsO f.owned.streams).length : Nat) : Int) = ((f.owned.streams.length : Nat) : Int)) (an (rfI ((f.owned.streams.length : Nat) : Int)) (an (rfI ((f.owned.streams.length : Nat) : Int)) (an ((by first | omega | (simp; omega) | (simp [newH_len]; omega)) : 8 * (f.owned.streams.length) ≤ 281474976710656) (an ((by first | omega | (simp; omega) | (simp [newH_len]; omega)) : (f.owned.streams.length) < 4611686018427387904) trivial)))))) fun ac wd r => ?_
  have r := r.freeze (M1 := [.bx 33 [.u f.view.id.round, .z f.view.id.server.node, .u f.view.id.server.inc, .d (.ro 2 (procs f.view.members)), .d (.ro 1 (nums f.view.starts)), .d (.ro 1 (streams f.streams)), .d (.ro 1 (nums f.handed))], .bx 33 [.d (.v (.int .u64 0)), .z 0, .d (.v (.int .u64 0)), .d (.v (.slice none 0 0)), .d (.v (.slice none 0 0)), .d (.v (.slice none 0 0)), .d (.v (.slice none 0 0))], .rw 24 2 (procs f.owned.view.members), .rw 22 1 (nums f.owned.view.starts), .rw 67 1 (frozR (streamsO f.owned.streams)), .rw 22 1 (nums f.owned.handed), .bx 72 [.u f.owned.view.id.round, .z f.owned.view.id.server.node, .u f.owned.view.id.server.inc, .sl 2 ((procs f.owned.view.members).length), .sl 3 ((nums f.owned.view.starts).length), .sl 4 ((streamsO f.owned.streams).length), .sl 5 ((nums f.owned.handed).length)], .rw 22 1 (List.replicate (f.owned.streams.length) [.v (.int .u64 0)])]) (M2 := [.bx 33 [.u f.view.id.round, .z f.view.id.server.node, .u f.view.id.server.inc, .d (.ro 2 (procs f.view.members)), .d (.ro 1 (nums f.view.starts)), .d (.ro 1 (streams f.streams)), .d (.ro 1 (nums f.handed))], .bx 33 [.d (.v (.int .u64 0)), .z 0, .d (.v (.int .u64 0)), .d (.v (.slice none 0 0)), .d (.v (.slice none 0 0)), .d (.v (.slice none 0 0)), .d (.v (.slice none 0 0))], .rw 24 2 (procs f.owned.view.members), .rw 22 1 (nums f.owned.view.starts), .rw 67 1 (streams f.owned.streams), .rw 22 1 (nums f.owned.handed), .bx 72 [.u f.owned.view.id.round, .z f.owned.view.id.server.node, .u f.owned.view.id.server.inc, .sl 2 ((procs f.owned.view.members).length), .sl 3 ((nums f.owned.view.starts).length), .sl 4 ((streamsO f.owned.streams).length), .sl 5 ((nums f.owned.handed).length)], .rw 22 1 (List.replicate (f.owned.streams.length) [.v (.int .u64 0)])]) [4] (by kernel_rfl) (by rw [froz_streams])
  refine toAt (todo' := aft Try.f16 3) (E' := [(1, .d (.ro 1 (nums u))), (4, .pt 1 0), (5, .d (.v (.slice none 0 0))), (6, .pt 6 0), (7, .sl 7 (f.owned.streams.length))]) (M' := [.bx 33 [.u f.view.id.round, .z f.view.id.server.node, .u f.view.id.server.inc, .d (.ro 2 (procs f.view.members)), .d (.ro 1 (nums f.view.starts)), .d (.ro 1 (streams f.streams)), .d (.ro 1 (nums f.handed))], .bx 33 [.d (.v (.int .u64 0)), .z 0, .d (.v (.int .u64 0)), .d (.v (.slice none 0 0)), .d (.v (.slice none 0 0)), .d (.v (.slice none 0 0)), .d (.v (.slice none 0 0))], .rw 24 2 (procs f.owned.view.members), .rw 22 1 (nums f.owned.view.starts), .rw 67 1 (streams f.owned.streams), .rw 22 1 (nums f.owned.handed), .bx 72 [.u f.owned.view.id.round, .z f.owned.view.id.server.node, .u f.owned.view.id.server.inc, .sl 2 ((procs f.owned.view.members).length), .sl 3 ((nums f.owned.view.starts).length), .sl 4 ((streamsO f.owned.streams).length), .sl 5 ((nums f.owned.handed).length)], .rw 22 1 ((nums u).take (min u.length f.owned.streams.length) ++ (List.replicate (f.owned.streams.length) [.v (.int .u64 0)]).drop (min u.length f.owned.streams.length))]) tb_ok mixed_ok hK [(3, [(2, .n (min u.length f.owned.streams.length))])] 2 [0, 1, 2, 3, 4, 5, 6, 7] [1, 4, 5, 6, 7] r (by kernel_rfl) (an ((by simp <;> omega) : (f.owned.streams.length) = (List.replicate (f.owned.streams.length) [.v (.int .u64 0)] : List (List DV)).length) (an ((by simp) : min (nums u).length (f.owned.streams.length) = min u.length f.owned.streams.length) (an ((by simp [OneR, AV.one, oneC, bytesR]) : OneR (nums u)) trivial))) fun ac wd r => ?_
  have r := r.freeze (M1 := [.bx 33 [.u f.view.id.round, .z f.view.id.server.node, .u f.view.id.server.inc, .d (.ro 2 (procs f.view.members)), .d (.ro 1 (nums f.view.starts)), .d (.ro 1 (streams f.streams)), .d (.ro 1 (nums f.handed))], .bx 33 [.d (.v (.int .u64 0)), .z 0, .d (.v (.int .u64 0)), .d (.v (.slice none 0 0)), .d (.v (.slice none 0 0)), .d (.v (.slice none 0 0)), .d (.v (.slice none 0 0))], .rw 24 2 (procs f.owned.view.members), .rw 22 1 (nums f.owned.view.starts), .rw 67 1 (streams f.owned.streams), .rw 22 1 (nums f.owned.handed), .bx 72 [.u f.owned.view.id.round, .z f.owned.view.id.server.node, .u f.owned.view.id.server.inc, .sl 2 ((procs f.owned.view.members).length), .sl 3 ((nums f.owned.view.starts).length), .sl 4 ((streamsO f.owned.streams).length), .sl 5 ((nums f.owned.handed).length)], .rw 22 1 ((nums u).take (min u.length f.owned.streams.length) ++ (List.replicate (f.owned.streams.length) [.v (.int .u64 0)]).drop (min u.length f.owned.streams.length))]) (M2 := [.bx 33 [.u f.view.id.round, .z f.view.id.server.node, .u f.view.id.server.inc, .d (.ro 2 (procs f.view.members)), .d (.ro 1 (nums f.view.starts)), .d (.ro 1 (streams f.streams)), .d (.ro 1 (nums f.handed))], .bx 33 [.d (.v (.int .u64 0)), .z 0, .d (.v (.int .u64 0)), .d (.v (.slice none 0 0)), .d (.v (.slice none 0 0)), .d (.v (.slice none 0 0)), .d (.v (.slice none 0 0))], .rw 24 2 (procs f.owned.view.members), .rw 22 1 (nums f.owned.view.starts), .rw 67 1 (streams f.owned.streams), .rw 22 1 (nums f.owned.handed), .bx 72 [.u f.owned.view.id.round, .z f.owned.view.id.server.node, .u f.owned.view.id.server.inc, .sl 2 ((procs f.owned.view.members).length), .sl 3 ((nums f.owned.view.starts).length), .sl 4 ((streamsO f.owned.streams).length), .sl 5 ((nums f.owned.handed).length)], .rw 22 1 (nums (padN u f.owned.streams.length))]) [] (by kernel_rfl) (by rw [pad_copy])
  refine toHead (todo' := hd Try.f16 0) (E' := [(1, .d (.ro 1 (nums u))), (4, .pt 1 0), (6, .pt 6 0), (7, .sl 7 (f.owned.streams.length)), (26, .sl 4 ((streamsO f.owned.streams).length)), (27, .n f.owned.streams.length), (28, .z 0), (8, .d (.v (.slice none 0 0)))]) (M' := [.bx 33 [.u f.view.id.round, .z f.view.id.server.node, .u f.view.id.server.inc, .d (.ro 2 (procs f.view.members)), .d (.ro 1 (nums f.view.starts)), .d (.ro 1 (streams f.streams)), .d (.ro 1 (nums f.handed))], .bx 33 [.d (.v (.int .u64 0)), .z 0, .d (.v (.int .u64 0)), .d (.v (.slice none 0 0)), .d (.v (.slice none 0 0)), .d (.v (.slice none 0 0)), .d (.v (.slice none 0 0))], .rw 24 2 (procs f.owned.view.members), .rw 22 1 (nums f.owned.view.starts), .rw 67 1 (streams f.owned.streams), .rw 22 1 (nums f.owned.handed), .bx 72 [.u f.owned.view.id.round, .z f.owned.view.id.server.node, .u f.owned.view.id.server.inc, .sl 2 ((procs f.owned.view.members).length), .sl 3 ((nums f.owned.view.starts).length), .sl 4 ((streamsO f.owned.streams).length), .sl 5 ((nums f.owned.handed).length)], .rw 22 1 (nums (padN u f.owned.streams.length))]) tb_ok mixed_ok hK [(5, [(3, .z (((f.owned.streams.length : Nat) : Int)))])] 2000 [0, 1, 2, 3, 4, 5, 6, 7] [1, 4, 6, 7, 26, 27, 28, 8] r (by kernel_rfl) (an ((by simp [bytesR]) : (((streamsO f.owned.streams).length : Nat) : Int) = ((f.owned.streams.length : Nat) : Int)) trivial) fun ac wd r => ?_
  refine Goes.rounds (Φ := fun (i : Nat) ac wd => (i ≤ f.owned.streams.length) ∧ RE' [] w0 K 91 [(1, .d (.ro 1 (nums u))), (4, .pt 1 0), (6, .pt 6 0), (7, .sl 7 (f.owned.streams.length)), (26, .sl 4 ((streamsO f.owned.streams).length)), (27, .n f.owned.streams.length), (28, .n i), (8, .sl 8 ((handTo f.owned u i).length))] [.bx 33 [.u f.view.id.round, .z f.view.id.server.node, .u f.view.id.server.inc, .d (.ro 2 (procs f.view.members)), .d (.ro 1 (nums f.view.starts)), .d (.ro 1 (streams f.streams)), .d (.ro 1 (nums f.handed))], .bx 33 [.d (.v (.int .u64 0)), .z 0, .d (.v (.int .u64 0)), .d (.v (.slice none 0 0)), .d (.v (.slice none 0 0)), .d (.v (.slice none 0 0)), .d (.v (.slice none 0 0))], .rw 24 2 (procs f.owned.view.members), .rw 22 1 (nums f.owned.view.starts), .rw 67 1 (streams f.owned.streams), .rw 22 1 (nums (newH f.owned u i)), .bx 72 [.u f.owned.view.id.round, .z f.owned.view.id.server.node, .u f.owned.view.id.server.inc, .sl 2 ((procs f.owned.view.members).length), .sl 3 ((nums f.owned.view.starts).length), .sl 4 ((streamsO f.owned.streams).length), .sl 5 ((nums f.owned.handed).length)], .rw 22 1 (nums (padN u f.owned.streams.length)), .rw 36 4 (msgsO (handTo f.owned u i))] ac wd) (f.owned.streams.length) ?_ (Nat.zero_le _) ⟨by omega, r.adopt (M1 := [.bx 33 [.u f.view.id.round, .z f.view.id.server.node, .u f.view.id.server.inc, .d (.ro 2 (procs f.view.members)), .d (.ro 1 (nums f.view.starts)), .d (.ro 1 (streams f.streams)), .d (.ro 1 (nums f.handed))], .bx 33 [.d (.v (.int .u64 0)), .z 0, .d (.v (.int .u64 0)), .d (.v (.slice none 0 0)), .d (.v (.slice none 0 0)), .d (.v (.slice none 0 0)), .d (.v (.slice none 0 0))], .rw 24 2 (procs f.owned.view.members), .rw 22 1 (nums f.owned.view.starts), .rw 67 1 (streams f.owned.streams), .rw 22 1 (nums f.owned.handed), .bx 72 [.u f.owned.view.id.round, .z f.owned.view.id.server.node, .u f.owned.view.id.server.inc, .sl 2 ((procs f.owned.view.members).length), .sl 3 ((nums f.owned.view.starts).length), .sl 4 ((streamsO f.owned.streams).length), .sl 5 ((nums f.owned.handed).length)], .rw 22 1 (nums (padN u f.owned.streams.length)), .rw 36 4 []]) [(8, 36, 4)] [] (by kernel_rfl) (by kernel_rfl)⟩
  clear r
  rintro i hi0 again0 ac wd ⟨hv0, r⟩
  have hnl := newH_len f.owned u i
  cases h0 : (decide ((((i : Nat) : Int) : Int) < ((f.owned.streams.length : Nat) : Int))) with
  | false =>
    have qh0 := of_decide_eq_false h0
    rw [show (.tu [.ag (f.owned.hand u).half, .em 36 4 (msgsO (handTo f.owned u f.owned.streams.length))] : DV) = .tu [.ag [.u f.owned.view.id.round, .z f.owned.view.id.server.node, .u f.owned.view.id.server.inc, .em 24 2 (procs f.owned.view.members), .em 22 1 (nums f.owned.view.starts), .em 67 1 (streams f.owned.streams), .em 22 1 (nums (newH f.owned u i))], .em 36 4 (msgsO (handTo f.owned u i))] from (by unfold Flow.hand; rw [show f.owned.streams.length = i by omega]; rfl)]
    exact toRet tb_ok mixed_ok hK rfl [(6, [(0, .b false)])] 2000 r (by kernel_rfl) (an h0 (an (rfN ((procs f.owned.view.members).length)) (an (rfN ((nums f.owned.view.starts).length)) (an ((by simp <;> omega) : ((streamsO f.owned.streams).length) = (streams f.owned.streams).length) (an ((by simp <;> omega) : ((nums f.owned.handed).length) = (nums (newH f.owned u i)).length) (an ((by simp <;> omega) : ((handTo f.owned u i).length) = (msgsO (handTo f.owned u i)).length) trivial))))))
  | true =>
    have qh0 := of_decide_eq_true h0
    obtain ⟨e_4bd70, ge_4bd70⟩ : ∃ x, f.owned.streams[i]? = some x := ⟨_, List.getElem?_eq_getElem (by omega)⟩
    have be_4bd70 := hbo.at ge_4bd70
    have ce_4bd70 := be_4bd70.1
    obtain ⟨e_40ea1, ge_40ea1⟩ : ∃ x, f.owned.view.members[i]? = some x := ⟨_, List.getElem?_eq_getElem (by omega)⟩
    obtain ⟨e_849ef, ge_849ef⟩ : ∃ x, f.owned.handed[i]? = some x := ⟨_, List.getElem?_eq_getElem (by omega)⟩
    obtain ⟨gd, hle⟩ := Flow.owned_ok ge_4bd70 ge_849ef
    have hcl := countS_le e_4bd70
    have h16 := count_16 gd
    have hel := endN_le e_4bd70 u i
    have hol16 := handTo_len (f := f.owned) (u := u) (fun i l h hl hh => (Flow.owned_ok hl hh).1) i
    cases h1 : (decide ((0 : Int) < ((u.length : Nat) : Int))) with
    | false =>
      have qh1 := of_decide_eq_false h1
      refine toHead (todo' := hd Try.f16 1) (E' := [(1, .d (.ro 1 (nums u))), (4, .pt 1 0), (6, .pt 6 0), (7, .sl 7 (f.owned.streams.length)), (26, .sl 4 ((streamsO f.owned.streams).length)), (27, .n f.owned.streams.length), (28, .n i), (8, .sl 8 ((handTo f.owned u i).length)), (9, .n i), (10, .pt 9 0), (11, .u (countS e_4bd70)), (45, .d (.ro 2 (slots e_4bd70))), (46, .n e_4bd70.length), (47, .z 0)]) (M' := [.bx 33 [.u f.view.id.round, .z f.view.id.server.node, .u f.view.id.server.inc, .d (.ro 2 (procs f.view.members)), .d (.ro 1 (nums f.view.starts)), .d (.ro 1 (streams f.streams)), .d (.ro 1 (nums f.handed))], .bx 33 [.d (.v (.int .u64 0)), .z 0, .d (.v (.int .u64 0)), .d (.v (.slice none 0 0)), .d (.v (.slice none 0 0)), .d (.v (.slice none 0 0)), .d (.v (.slice none 0 0))], .rw 24 2 (procs f.owned.view.members), .rw 22 1 (nums f.owned.view.starts), .rw 67 1 (streams f.owned.streams), .rw 22 1 (nums (newH f.owned u i)), .bx 72 [.u f.owned.view.id.round, .z f.owned.view.id.server.node, .u f.owned.view.id.server.inc, .sl 2 ((procs f.owned.view.members).length), .sl 3 ((nums f.owned.view.starts).length), .sl 4 ((streamsO f.owned.streams).length), .sl 5 ((nums f.owned.handed).length)], .rw 22 1 (nums (padN u f.owned.streams.length)), .rw 36 4 (msgsO (handTo f.owned u i)), .bx 67 [.d (.ro 2 (slots e_4bd70))]]) tb_ok mixed_ok hK [(6, [(0, .b true)]), (7, [(1, .n (i)), (2, .ix 0 [.ro 2 (slots e_4bd70)])]), (8, [(1, .con (.u (countS e_4bd70)))]), (9, [(1, .z (((u.length : Nat) : Int))), (2, .b false)]), (11, [(2, .z (((e_4bd70.length : Nat) : Int)))])] 2000 [0, 1, 2, 3, 4, 5, 6, 7, 8, 9] [1, 4, 6, 7, 26, 27, 28, 8, 9, 10, 11, 45, 46, 47] r (by kernel_rfl) (an h0 (an (rfI ((i : Nat) : Int)) (an ((by first | omega | (simp; omega) | (simp [newH_len]; omega)) : (i) < ((streamsO f.owned.streams).length)) (an ((by simp <;> omega) : ((streamsO f.owned.streams).length) ≤ (streams f.owned.streams).length) (an (streams_at ge_4bd70) (an (streamCountS gd (by omega)) (an ((by simp [bytesR]) : (((nums u).length : Nat) : Int) = ((u.length : Nat) : Int)) (an h1 (an ((by simp [bytesR]) : (((slots e_4bd70).length : Nat) : Int) = ((e_4bd70.length : Nat) : Int)) trivial))))))))) fun ac wd r => ?_
      refine Goes.rounds (Φ := fun (k : Nat) ac wd => (k ≤ e_4bd70.length) ∧ RE' [] w0 K 91 [(1, .d (.ro 1 (nums u))), (4, .pt 1 0), (6, .pt 6 0), (7, .sl 7 (f.owned.streams.length)), (26, .sl 4 ((streamsO f.owned.streams).length)), (27, .n f.owned.streams.length), (28, .n i), (8, .sl 8 ((handTo f.owned u i ++ handRow e_40ea1 e_4bd70 e_849ef (min k (endN e_4bd70 u i) - e_849ef)).length)), (9, .n i), (10, .pt 9 0), (11, .u (endN e_4bd70 u i)), (45, .d (.ro 2 (slots e_4bd70))), (46, .n e_4bd70.length), (47, .n k)] [.bx 33 [.u f.view.id.round, .z f.view.id.server.node, .u f.view.id.server.inc, .d (.ro 2 (procs f.view.members)), .d (.ro 1 (nums f.view.starts)), .d (.ro 1 (streams f.streams)), .d (.ro 1 (nums f.handed))], .bx 33 [.d (.v (.int .u64 0)), .z 0, .d (.v (.int .u64 0)), .d (.v (.slice none 0 0)), .d (.v (.slice none 0 0)), .d (.v (.slice none 0 0)), .d (.v (.slice none 0 0))], .rw 24 2 (procs f.owned.view.members), .rw 22 1 (nums f.owned.view.starts), .rw 67 1 (streams f.owned.streams), .rw 22 1 (nums (newH f.owned u i)), .bx 72 [.u f.owned.view.id.round, .z f.owned.view.id.server.node, .u f.owned.view.id.server.inc, .sl 2 ((procs f.owned.view.members).length), .sl 3 ((nums f.owned.view.starts).length), .sl 4 ((streamsO f.owned.streams).length), .sl 5 ((nums f.owned.handed).length)], .rw 22 1 (nums (padN u f.owned.streams.length)), .rw 36 4 (msgsO (handTo f.owned u i ++ handRow e_40ea1 e_4bd70 e_849ef (min k (endN e_4bd70 u i) - e_849ef))), .bx 67 [.d (.ro 2 (slots e_4bd70))]] ac wd) (e_4bd70.length) ?_ (Nat.zero_le _) ⟨by omega, (r).cast (by unfold endN; first | (rw [if_pos (by omega)]; simp [handRow]; done) | (rw [if_neg (by omega)]; simp [handRow])) (by simp [handRow])⟩
      clear r
      rintro k hi1 again1 ac wd ⟨hv1, r⟩
      cases h2 : (decide ((((k : Nat) : Int) : Int) < ((e_4bd70.length : Nat) : Int))) with
      | false =>
        have qh2 := of_decide_eq_false h2
        have v17_0 := ((by first | omega | (simp; omega) | (simp [newH_len]; omega)) : (i) < ((nums f.owned.handed).length))
        have v17_1 := ((by simp <;> omega) : ((nums f.owned.handed).length) ≤ (nums (newH f.owned u i)).length)
        have v17_2 := (nums_at (newH_at ge_849ef (by omega)) : (nums (newH f.owned u i))[i]? = some [.u e_849ef])
        have v17_3 := ((by omega) : (max (((e_849ef : Nat) : Int)) (((endN e_4bd70 u i : Nat) : Int)) : Int) = ((max (e_849ef) (endN e_4bd70 u i) : Nat) : Int))
        refine toDraw (todo' := aft Try.f16 17) (E' := [(1, .d (.ro 1 (nums u))), (4, .pt 1 0), (6, .pt 6 0), (7, .sl 7 (f.owned.streams.length)), (26, .sl 4 ((streamsO f.owned.streams).length)), (27, .n f.owned.streams.length), (28, .n i), (8, .sl 8 ((handTo f.owned u i ++ handRow e_40ea1 e_4bd70 e_849ef (min k (endN e_4bd70 u i) - e_849ef)).length)), (9, .n i), (10, .pt 9 0), (11, .u (endN e_4bd70 u i)), (45, .d (.ro 2 (slots e_4bd70))), (46, .n e_4bd70.length), (47, .n k), (48, .d (.v (.bool false))), (74, .pt 6 0), (75, .pt 6 6), (76, .sl 5 ((nums f.owned.handed).length)), (77, .n i), (78, .pt 6 0), (79, .pt 6 6), (80, .sl 5 ((nums f.owned.handed).length)), (81, .n i), (84, .u (endN e_4bd70 u i)), (82, .ep 5 1 (i) 0), (83, .u e_849ef), (85, .u (max (e_849ef) (endN e_4bd70 u i))), (86, .ep 5 1 (i) 0)]) (M' := [.bx 33 [.u f.view.id.round, .z f.view.id.server.node, .u f.view.id.server.inc, .d (.ro 2 (procs f.view.members)), .d (.ro 1 (nums f.view.starts)), .d (.ro 1 (streams f.streams)), .d (.ro 1 (nums f.handed))], .bx 33 [.d (.v (.int .u64 0)), .z 0, .d (.v (.int .u64 0)), .d (.v (.slice none 0 0)), .d (.v (.slice none 0 0)), .d (.v (.slice none 0 0)), .d (.v (.slice none 0 0))], .rw 24 2 (procs f.owned.view.members), .rw 22 1 (nums f.owned.view.starts), .rw 67 1 (streams f.owned.streams), .rw 22 1 (List.set (nums (newH f.owned u i)) (i) [.u (max (e_849ef) (endN e_4bd70 u i))]), .bx 72 [.u f.owned.view.id.round, .z f.owned.view.id.server.node, .u f.owned.view.id.server.inc, .sl 2 ((procs f.owned.view.members).length), .sl 3 ((nums f.owned.view.starts).length), .sl 4 ((streamsO f.owned.streams).length), .sl 5 ((nums f.owned.handed).length)], .rw 22 1 (nums (padN u f.owned.streams.length)), .rw 36 4 (msgsO (handTo f.owned u i ++ handRow e_40ea1 e_4bd70 e_849ef (min k (endN e_4bd70 u i) - e_849ef))), .bx 67 [.d (.ro 2 (slots e_4bd70))]]) tb_ok mixed_ok hK [(12, [(0, .b false)]), (17, [(8, .n (i)), (9, .ix 0 [.u e_849ef]), (11, .z (((max (e_849ef) (endN e_4bd70 u i) : Nat) : Int))), (12, .n (i)), (13, .ix 0 [.u e_849ef])])] 5 1 [8, 9, 12] [[0, 1, 2, 3, 4, 5, 6, 7, 8, 9]] [1, 4, 6, 7, 26, 27, 28, 8, 9, 10, 11, 45, 46, 47, 48, 74, 75, 76, 77, 78, 79, 80, 81, 84, 82, 83, 85, 86] r (by kernel_rfl) (an (an h2 (an (rfI ((i : Nat) : Int)) (an v17_0 (an v17_1 (an v17_2 (an v17_3 (an (rfI ((i : Nat) : Int)) (an v17_0 (an v17_1 (an v17_2 trivial)))))))))) trivial) fun ac wd r => ?_
        exact toHead (todo' := hd Try.f16 0) (E' := [(1, .d (.ro 1 (nums u))), (4, .pt 1 0), (6, .pt 6 0), (7, .sl 7 (f.owned.streams.length)), (26, .sl 4 ((streamsO f.owned.streams).length)), (27, .n f.owned.streams.length), (28, .n (i + 1)), (8, .sl 8 ((handTo f.owned u i ++ handRow e_40ea1 e_4bd70 e_849ef (min k (endN e_4bd70 u i) - e_849ef)).length))]) (M' := [.bx 33 [.u f.view.id.round, .z f.view.id.server.node, .u f.view.id.server.inc, .d (.ro 2 (procs f.view.members)), .d (.ro 1 (nums f.view.starts)), .d (.ro 1 (streams f.streams)), .d (.ro 1 (nums f.handed))], .bx 33 [.d (.v (.int .u64 0)), .z 0, .d (.v (.int .u64 0)), .d (.v (.slice none 0 0)), .d (.v (.slice none 0 0)), .d (.v (.slice none 0 0)), .d (.v (.slice none 0 0))], .rw 24 2 (procs f.owned.view.members), .rw 22 1 (nums f.owned.view.starts), .rw 67 1 (streams f.owned.streams), .rw 22 1 (List.set (nums (newH f.owned u i)) (i) [.u (max (e_849ef) (endN e_4bd70 u i))]), .bx 72 [.u f.owned.view.id.round, .z f.owned.view.id.server.node, .u f.owned.view.id.server.inc, .sl 2 ((procs f.owned.view.members).length), .sl 3 ((nums f.owned.view.starts).length), .sl 4 ((streamsO f.owned.streams).length), .sl 5 ((nums f.owned.handed).length)], .rw 22 1 (nums (padN u f.owned.streams.length)), .rw 36 4 (msgsO (handTo f.owned u i ++ handRow e_40ea1 e_4bd70 e_849ef (min k (endN e_4bd70 u i) - e_849ef)))]) tb_ok mixed_ok hK [(18, [(0, .z (((i + 1 : Nat) : Int)))])] 2000 [0, 1, 2, 3, 4, 5, 6, 7, 8] [1, 4, 6, 7, 26, 27, 28, 8] r (by kernel_rfl) (an ((wi (by omega)) : IntKind.i64.wrap ((((i : Nat) : Int) : Int) + 1) = ((i + 1 : Nat) : Int)) trivial) fun ac wd r => again0 (by omega) ac wd ⟨by omega, r.cast (by have e : min k (endN e_4bd70 u i) = endN e_4bd70 u i := (by omega); rw [handTo_next ge_4bd70 ge_40ea1 ge_849ef, e]) (by have e : min k (endN e_4bd70 u i) = endN e_4bd70 u i := (by omega); rw [handTo_next ge_4bd70 ge_40ea1 ge_849ef, newH_next ge_4bd70 ge_849ef, e, nums_set])⟩
      | true =>
        have qh2 := of_decide_eq_true h2
        obtain ⟨e_e_4bd70_k, ge_e_4bd70_k⟩ : ∃ x, e_4bd70[k]? = some x := ⟨_, List.getElem?_eq_getElem (by omega)⟩
        have be_e_4bd70_k := be_4bd70.at ge_e_4bd70_k
        cases h3 : (decide ((((e_849ef : Nat) : Int) : Int) < ((e_e_4bd70_k.n : Nat) : Int))) with
        | false =>
          have qh3 := of_decide_eq_false h3
          exact toHead (todo' := hd Try.f16 1) (E' := [(1, .d (.ro 1 (nums u))), (4, .pt 1 0), (6, .pt 6 0), (7, .sl 7 (f.owned.streams.length)), (26, .sl 4 ((streamsO f.owned.streams).length)), (27, .n f.owned.streams.length), (28, .n i), (8, .sl 8 ((handTo f.owned u i ++ handRow e_40ea1 e_4bd70 e_849ef (min k (endN e_4bd70 u i) - e_849ef)).length)), (9, .n i), (10, .pt 9 0), (11, .u (endN e_4bd70 u i)), (45, .d (.ro 2 (slots e_4bd70))), (46, .n e_4bd70.length), (47, .n (k + 1))]) (M' := [.bx 33 [.u f.view.id.round, .z f.view.id.server.node, .u f.view.id.server.inc, .d (.ro 2 (procs f.view.members)), .d (.ro 1 (nums f.view.starts)), .d (.ro 1 (streams f.streams)), .d (.ro 1 (nums f.handed))], .bx 33 [.d (.v (.int .u64 0)), .z 0, .d (.v (.int .u64 0)), .d (.v (.slice none 0 0)), .d (.v (.slice none 0 0)), .d (.v (.slice none 0 0)), .d (.v (.slice none 0 0))], .rw 24 2 (procs f.owned.view.members), .rw 22 1 (nums f.owned.view.starts), .rw 67 1 (streams f.owned.streams), .rw 22 1 (nums (newH f.owned u i)), .bx 72 [.u f.owned.view.id.round, .z f.owned.view.id.server.node, .u f.owned.view.id.server.inc, .sl 2 ((procs f.owned.view.members).length), .sl 3 ((nums f.owned.view.starts).length), .sl 4 ((streamsO f.owned.streams).length), .sl 5 ((nums f.owned.handed).length)], .rw 22 1 (nums (padN u f.owned.streams.length)), .rw 36 4 (msgsO (handTo f.owned u i ++ handRow e_40ea1 e_4bd70 e_849ef (min k (endN e_4bd70 u i) - e_849ef))), .bx 67 [.d (.ro 2 (slots e_4bd70))]]) tb_ok mixed_ok hK [(12, [(0, .b true)]), (13, [(0, .ix (k) [.u e_e_4bd70_k.n, .ro 1 (bytesR e_e_4bd70_k.body)])]), (14, [(6, .n (i)), (7, .ix 0 [.u e_849ef]), (8, .b false)]), (16, [(0, .z (((k + 1 : Nat) : Int)))])] 2000 [0, 1, 2, 3, 4, 5, 6, 7, 8, 9] [1, 4, 6, 7, 26, 27, 28, 8, 9, 10, 11, 45, 46, 47] r (by kernel_rfl) (an h2 (an (rfI ((k : Nat) : Int)) (an (slots_at ge_e_4bd70_k) (an (rfI ((i : Nat) : Int)) (an ((by first | omega | (simp; omega) | (simp [newH_len]; omega)) : (i) < ((nums f.owned.handed).length)) (an ((by simp <;> omega) : ((nums f.owned.handed).length) ≤ (nums (newH f.owned u i)).length) (an (nums_at (newH_at ge_849ef (by omega)) : (nums (newH f.owned u i))[i]? = some [.u e_849ef]) (an h3 (an ((wi (by omega)) : IntKind.i64.wrap ((((k : Nat) : Int) : Int) + 1) = ((k + 1 : Nat) : Int)) trivial))))))))) fun ac wd r => again1 (by omega) ac wd ⟨by omega, r.cast (by first | rw [hand_no gd hel ge_e_4bd70_k (by omega)] | (rw [hand_yes gd hel ge_e_4bd70_k (by omega) (by omega)]; simp; done) | (rw [hand_yes gd hel ge_e_4bd70_k (by omega) (by omega)]; simp; omega)) (by first | rw [hand_no gd hel ge_e_4bd70_k (by omega)] | rw [hand_yes gd hel ge_e_4bd70_k (by omega) (by omega), ← List.append_assoc, msgsO_app])⟩
        | true =>
          have qh3 := of_decide_eq_true h3
          cases h4 : (decide ((((e_e_4bd70_k.n : Nat) : Int) : Int) ≤ ((endN e_4bd70 u i : Nat) : Int))) with
          | false =>
            have qh4 := of_decide_eq_false h4
            exact toHead (todo' := hd Try.f16 1) (E' := [(1, .d (.ro 1 (nums u))), (4, .pt 1 0), (6, .pt 6 0), (7, .sl 7 (f.owned.streams.length)), (26, .sl 4 ((streamsO f.owned.streams).length)), (27, .n f.owned.streams.length), (28, .n i), (8, .sl 8 ((handTo f.owned u i ++ handRow e_40ea1 e_4bd70 e_849ef (min k (endN e_4bd70 u i) - e_849ef)).length)), (9, .n i), (10, .pt 9 0), (11, .u (endN e_4bd70 u i)), (45, .d (.ro 2 (slots e_4bd70))), (46, .n e_4bd70.length), (47, .n (k + 1))]) (M' := [.bx 33 [.u f.view.id.round, .z f.view.id.server.node, .u f.view.id.server.inc, .d (.ro 2 (procs f.view.members)), .d (.ro 1 (nums f.view.starts)), .d (.ro 1 (streams f.streams)), .d (.ro 1 (nums f.handed))], .bx 33 [.d (.v (.int .u64 0)), .z 0, .d (.v (.int .u64 0)), .d (.v (.slice none 0 0)), .d (.v (.slice none 0 0)), .d (.v (.slice none 0 0)), .d (.v (.slice none 0 0))], .rw 24 2 (procs f.owned.view.members), .rw 22 1 (nums f.owned.view.starts), .rw 67 1 (streams f.owned.streams), .rw 22 1 (nums (newH f.owned u i)), .bx 72 [.u f.owned.view.id.round, .z f.owned.view.id.server.node, .u f.owned.view.id.server.inc, .sl 2 ((procs f.owned.view.members).length), .sl 3 ((nums f.owned.view.starts).length), .sl 4 ((streamsO f.owned.streams).length), .sl 5 ((nums f.owned.handed).length)], .rw 22 1 (nums (padN u f.owned.streams.length)), .rw 36 4 (msgsO (handTo f.owned u i ++ handRow e_40ea1 e_4bd70 e_849ef (min k (endN e_4bd70 u i) - e_849ef))), .bx 67 [.d (.ro 2 (slots e_4bd70))]]) tb_ok mixed_ok hK [(12, [(0, .b true)]), (13, [(0, .ix (k) [.u e_e_4bd70_k.n, .ro 1 (bytesR e_e_4bd70_k.body)])]), (14, [(6, .n (i)), (7, .ix 0 [.u e_849ef]), (8, .b true), (13, .b false)]), (16, [(0, .z (((k + 1 : Nat) : Int)))])] 2000 [0, 1, 2, 3, 4, 5, 6, 7, 8, 9] [1, 4, 6, 7, 26, 27, 28, 8, 9, 10, 11, 45, 46, 47] r (by kernel_rfl) (an h2 (an (rfI ((k : Nat) : Int)) (an (slots_at ge_e_4bd70_k) (an (rfI ((i : Nat) : Int)) (an ((by first | omega | (simp; omega) | (simp [newH_len]; omega)) : (i) < ((nums f.owned.handed).length)) (an ((by simp <;> omega) : ((nums f.owned.handed).length) ≤ (nums (newH f.owned u i)).length) (an (nums_at (newH_at ge_849ef (by omega)) : (nums (newH f.owned u i))[i]? = some [.u e_849ef]) (an h3 (an h4 (an ((wi (by omega)) : IntKind.i64.wrap ((((k : Nat) : Int) : Int) + 1) = ((k + 1 : Nat) : Int)) trivial)))))))))) fun ac wd r => again1 (by omega) ac wd ⟨by omega, r.cast (by first | rw [hand_no gd hel ge_e_4bd70_k (by omega)] | (rw [hand_yes gd hel ge_e_4bd70_k (by omega) (by omega)]; simp; done) | (rw [hand_yes gd hel ge_e_4bd70_k (by omega) (by omega)]; simp; omega)) (by first | rw [hand_no gd hel ge_e_4bd70_k (by omega)] | rw [hand_yes gd hel ge_e_4bd70_k (by omega) (by omega), ← List.append_assoc, msgsO_app])⟩
          | true =>
            have qh4 := of_decide_eq_true h4
            exact toHead (todo' := hd Try.f16 1) (E' := [(1, .d (.ro 1 (nums u))), (4, .pt 1 0), (6, .pt 6 0), (7, .sl 7 (f.owned.streams.length)), (26, .sl 4 ((streamsO f.owned.streams).length)), (27, .n f.owned.streams.length), (28, .n i), (8, .sl 8 ((handTo f.owned u i ++ handRow e_40ea1 e_4bd70 e_849ef (min k (endN e_4bd70 u i) - e_849ef)).length + (1))), (9, .n i), (10, .pt 9 0), (11, .u (endN e_4bd70 u i)), (45, .d (.ro 2 (slots e_4bd70))), (46, .n e_4bd70.length), (47, .n (k + 1))]) (M' := [.bx 33 [.u f.view.id.round, .z f.view.id.server.node, .u f.view.id.server.inc, .d (.ro 2 (procs f.view.members)), .d (.ro 1 (nums f.view.starts)), .d (.ro 1 (streams f.streams)), .d (.ro 1 (nums f.handed))], .bx 33 [.d (.v (.int .u64 0)), .z 0, .d (.v (.int .u64 0)), .d (.v (.slice none 0 0)), .d (.v (.slice none 0 0)), .d (.v (.slice none 0 0)), .d (.v (.slice none 0 0))], .rw 24 2 (procs f.owned.view.members), .rw 22 1 (nums f.owned.view.starts), .rw 67 1 (streams f.owned.streams), .rw 22 1 (nums (newH f.owned u i)), .bx 72 [.u f.owned.view.id.round, .z f.owned.view.id.server.node, .u f.owned.view.id.server.inc, .sl 2 ((procs f.owned.view.members).length), .sl 3 ((nums f.owned.view.starts).length), .sl 4 ((streamsO f.owned.streams).length), .sl 5 ((nums f.owned.handed).length)], .rw 22 1 (nums (padN u f.owned.streams.length)), .rw 36 4 (msgsO (handTo f.owned u i ++ handRow e_40ea1 e_4bd70 e_849ef (min k (endN e_4bd70 u i) - e_849ef)) ++ [[.z e_40ea1.node, .u e_40ea1.inc, .u e_e_4bd70_k.n, .em 5 1 (bytesR e_e_4bd70_k.body)]]), .bx 67 [.d (.ro 2 (slots e_4bd70))]]) tb_ok mixed_ok hK [(12, [(0, .b true)]), (13, [(0, .ix (k) [.u e_e_4bd70_k.n, .ro 1 (bytesR e_e_4bd70_k.body)])]), (14, [(6, .n (i)), (7, .ix 0 [.u e_849ef]), (8, .b true), (13, .b true)]), (15, [(4, .call [.ag [.u f.owned.view.id.round, .z f.owned.view.id.server.node, .u f.owned.view.id.server.inc, .d (.ro 2 (procs f.owned.view.members)), .d (.ro 1 (nums f.owned.view.starts)), .d (.ro 1 (streams f.owned.streams)), .d (.ro 1 (nums (newH f.owned u i)))], .n i, .ag [.u e_e_4bd70_k.n, .d (.ro 1 (bytesR e_e_4bd70_k.body))]] (.ag [.z e_40ea1.node, .u e_40ea1.inc, .u e_e_4bd70_k.n, .em 5 1 (bytesR e_e_4bd70_k.body)]))]), (16, [(0, .z (((k + 1 : Nat) : Int)))])] 2000 [0, 1, 2, 3, 4, 5, 6, 7, 8, 9] [1, 4, 6, 7, 26, 27, 28, 8, 9, 10, 11, 45, 46, 47] r (by kernel_rfl) (an h2 (an (rfI ((k : Nat) : Int)) (an (slots_at ge_e_4bd70_k) (an (rfI ((i : Nat) : Int)) (an ((by first | omega | (simp; omega) | (simp [newH_len]; omega)) : (i) < ((nums f.owned.handed).length)) (an ((by simp <;> omega) : ((nums f.owned.handed).length) ≤ (nums (newH f.owned u i)).length) (an (nums_at (newH_at ge_849ef (by omega)) : (nums (newH f.owned u i))[i]? = some [.u e_849ef]) (an h3 (an h4 (an (messageOk { f.owned with handed := newH f.owned u i } i e_e_4bd70_k (by show i < f.owned.view.members.length; omega) (by omega) ge_40ea1) (an ((by first | exact ind_v _ | exact Ind.two _ _ | exact Ind.msg _ _ _ _ _) : Ind (.ag [.z e_40ea1.node, .u e_40ea1.inc, .u e_e_4bd70_k.n, .em 5 1 (bytesR e_e_4bd70_k.body)])) (an (rfD (.u f.owned.view.id.round)) (an (rfD (.z f.owned.view.id.server.node)) (an (rfD (.u f.owned.view.id.server.inc)) (an (rfN (2)) (an (rfN ((procs f.owned.view.members).length)) (an ((by first | exact froz_strm _ | (simp [frozR_map, froz, Proc.row]; done) | (simp [frozR_map, froz, Proc.row])) : frozR (procs f.owned.view.members) = procs f.owned.view.members) (an (rfN (1)) (an (rfN ((nums f.owned.view.starts).length)) (an ((by first | exact froz_strm _ | (simp [frozR_map, froz, Proc.row]; done) | (simp [frozR_map, froz, Proc.row])) : frozR (nums f.owned.view.starts) = nums f.owned.view.starts) (an (rfN (1)) (an ((by simp <;> omega) : ((streamsO f.owned.streams).length) = (streams f.owned.streams).length) (an ((by first | exact froz_strm _ | (simp [frozR_map, froz, Proc.row]; done) | (simp [frozR_map, froz, Proc.row])) : frozR (streams f.owned.streams) = streams f.owned.streams) (an (rfN (1)) (an ((by simp <;> omega) : ((nums f.owned.handed).length) = (nums (newH f.owned u i)).length) (an ((by first | exact froz_strm _ | (simp [frozR_map, froz, Proc.row]; done) | (simp [frozR_map, froz, Proc.row])) : frozR (nums (newH f.owned u i)) = nums (newH f.owned u i)) (an (rfD (.n i)) (an (rfD (.u e_e_4bd70_k.n)) (an (rfD (.ro 1 (bytesR e_e_4bd70_k.body))) (an (rfN ((bytesR e_e_4bd70_k.body).length)) (an ((by simp <;> omega) : ((handTo f.owned u i ++ handRow e_40ea1 e_4bd70 e_849ef (min k (endN e_4bd70 u i) - e_849ef)).length) = (msgsO (handTo f.owned u i ++ handRow e_40ea1 e_4bd70 e_849ef (min k (endN e_4bd70 u i) - e_849ef)) : List (List DV)).length) (an ((by simp <;> omega) : (1) = ([[.z e_40ea1.node, .u e_40ea1.inc, .u e_e_4bd70_k.n, .em 5 1 (bytesR e_e_4bd70_k.body)]] : List (List DV)).length) (an ((by first | omega | (simp [bytesR_len]; done) | (simp [bytesR_len, handRow_len]; omega)) : (2 * (((handTo f.owned u i ++ handRow e_40ea1 e_4bd70 e_849ef (min k (endN e_4bd70 u i) - e_849ef)).length) + (1)) + 192) * 48 ≤ 281474976710656) (an ((by first | omega | (simp [bytesR_len]; done) | (simp [bytesR_len, handRow_len]; omega)) : ((handTo f.owned u i ++ handRow e_40ea1 e_4bd70 e_849ef (min k (endN e_4bd70 u i) - e_849ef)).length) + (1) < 4611686018427387904) (an ((by simp [OneR, AV.one, oneC, bytesR]) : OneR ([[.z e_40ea1.node, .u e_40ea1.inc, .u e_e_4bd70_k.n, .em 5 1 (bytesR e_e_4bd70_k.body)]])) (an ((wi (by omega)) : IntKind.i64.wrap ((((k : Nat) : Int) : Int) + 1) = ((k + 1 : Nat) : Int)) trivial)))))))))))))))))))))))))))))))))))) fun ac wd r => again1 (by omega) ac wd ⟨by omega, r.cast (by first | rw [hand_no gd hel ge_e_4bd70_k (by omega)] | (rw [hand_yes gd hel ge_e_4bd70_k (by omega) (by omega)]; simp; done) | (rw [hand_yes gd hel ge_e_4bd70_k (by omega) (by omega)]; simp; omega)) (by first | rw [hand_no gd hel ge_e_4bd70_k (by omega)] | rw [hand_yes gd hel ge_e_4bd70_k (by omega) (by omega), ← List.append_assoc, msgsO_app])⟩
    | true =>
      have qh1 := of_decide_eq_true h1
      refine toHead (todo' := hd Try.f16 1) (E' := [(1, .d (.ro 1 (nums u))), (4, .pt 1 0), (6, .pt 6 0), (7, .sl 7 (f.owned.streams.length)), (26, .sl 4 ((streamsO f.owned.streams).length)), (27, .n f.owned.streams.length), (28, .n i), (8, .sl 8 ((handTo f.owned u i).length)), (9, .n i), (10, .pt 9 0), (11, .u (min (countS e_4bd70) (nthN u i))), (45, .d (.ro 2 (slots e_4bd70))), (46, .n e_4bd70.length), (47, .z 0)]) (M' := [.bx 33 [.u f.view.id.round, .z f.view.id.server.node, .u f.view.id.server.inc, .d (.ro 2 (procs f.view.members)), .d (.ro 1 (nums f.view.starts)), .d (.ro 1 (streams f.streams)), .d (.ro 1 (nums f.handed))], .bx 33 [.d (.v (.int .u64 0)), .z 0, .d (.v (.int .u64 0)), .d (.v (.slice none 0 0)), .d (.v (.slice none 0 0)), .d (.v (.slice none 0 0)), .d (.v (.slice none 0 0))], .rw 24 2 (procs f.owned.view.members), .rw 22 1 (nums f.owned.view.starts), .rw 67 1 (streams f.owned.streams), .rw 22 1 (nums (newH f.owned u i)), .bx 72 [.u f.owned.view.id.round, .z f.owned.view.id.server.node, .u f.owned.view.id.server.inc, .sl 2 ((procs f.owned.view.members).length), .sl 3 ((nums f.owned.view.starts).length), .sl 4 ((streamsO f.owned.streams).length), .sl 5 ((nums f.owned.handed).length)], .rw 22 1 (nums (padN u f.owned.streams.length)), .rw 36 4 (msgsO (handTo f.owned u i)), .bx 67 [.d (.ro 2 (slots e_4bd70))]]) tb_ok mixed_ok hK [(6, [(0, .b true)]), (7, [(1, .n (i)), (2, .ix 0 [.ro 2 (slots e_4bd70)])]), (8, [(1, .con (.u (countS e_4bd70)))]), (9, [(1, .z (((u.length : Nat) : Int))), (2, .b true)]), (10, [(3, .n (i)), (4, .ix 0 [.u (nthN u i)]), (5, .z (((min (countS e_4bd70) (nthN u i) : Nat) : Int)))]), (11, [(2, .z (((e_4bd70.length : Nat) : Int)))])] 2000 [0, 1, 2, 3, 4, 5, 6, 7, 8, 9] [1, 4, 6, 7, 26, 27, 28, 8, 9, 10, 11, 45, 46, 47] r (by kernel_rfl) (an h0 (an (rfI ((i : Nat) : Int)) (an ((by first | omega | (simp; omega) | (simp [newH_len]; omega)) : (i) < ((streamsO f.owned.streams).length)) (an ((by simp <;> omega) : ((streamsO f.owned.streams).length) ≤ (streams f.owned.streams).length) (an (streams_at ge_4bd70) (an (streamCountS gd (by omega)) (an ((by simp [bytesR]) : (((nums u).length : Nat) : Int) = ((u.length : Nat) : Int)) (an h1 (an (rfI ((i : Nat) : Int)) (an ((by first | omega | (simp; omega) | (simp [newH_len]; omega)) : (i) < (f.owned.streams.length)) (an ((by simp <;> omega) : (f.owned.streams.length) ≤ (nums (padN u f.owned.streams.length)).length) (an (nums_at (padN_at (by omega)) : (nums (padN u f.owned.streams.length))[i]? = some [.u (nthN u i)]) (an ((by omega) : (min (((countS e_4bd70 : Nat) : Int)) (((nthN u i : Nat) : Int)) : Int) = ((min (countS e_4bd70) (nthN u i) : Nat) : Int)) (an ((by simp [bytesR]) : (((slots e_4bd70).length : Nat) : Int) = ((e_4bd70.length : Nat) : Int)) trivial)))))))))))))) fun ac wd r => ?_
      refine Goes.rounds (Φ := fun (k : Nat) ac wd => (k ≤ e_4bd70.length) ∧ RE' [] w0 K 91 [(1, .d (.ro 1 (nums u))), (4, .pt 1 0), (6, .pt 6 0), (7, .sl 7 (f.owned.streams.length)), (26, .sl 4 ((streamsO f.owned.streams).length)), (27, .n f.owned.streams.length), (28, .n i), (8, .sl 8 ((handTo f.owned u i ++ handRow e_40ea1 e_4bd70 e_849ef (min k (endN e_4bd70 u i) - e_849ef)).length)), (9, .n i), (10, .pt 9 0), (11, .u (endN e_4bd70 u i)), (45, .d (.ro 2 (slots e_4bd70))), (46, .n e_4bd70.length), (47, .n k)] [.bx 33 [.u f.view.id.round, .z f.view.id.server.node, .u f.view.id.server.inc, .d (.ro 2 (procs f.view.members)), .d (.ro 1 (nums f.view.starts)), .d (.ro 1 (streams f.streams)), .d (.ro 1 (nums f.handed))], .bx 33 [.d (.v (.int .u64 0)), .z 0, .d (.v (.int .u64 0)), .d (.v (.slice none 0 0)), .d (.v (.slice none 0 0)), .d (.v (.slice none 0 0)), .d (.v (.slice none 0 0))], .rw 24 2 (procs f.owned.view.members), .rw 22 1 (nums f.owned.view.starts), .rw 67 1 (streams f.owned.streams), .rw 22 1 (nums (newH f.owned u i)), .bx 72 [.u f.owned.view.id.round, .z f.owned.view.id.server.node, .u f.owned.view.id.server.inc, .sl 2 ((procs f.owned.view.members).length), .sl 3 ((nums f.owned.view.starts).length), .sl 4 ((streamsO f.owned.streams).length), .sl 5 ((nums f.owned.handed).length)], .rw 22 1 (nums (padN u f.owned.streams.length)), .rw 36 4 (msgsO (handTo f.owned u i ++ handRow e_40ea1 e_4bd70 e_849ef (min k (endN e_4bd70 u i) - e_849ef))), .bx 67 [.d (.ro 2 (slots e_4bd70))]] ac wd) (e_4bd70.length) ?_ (Nat.zero_le _) ⟨by omega, (r).cast (by unfold endN; first | (rw [if_pos (by omega)]; simp [handRow]; done) | (rw [if_neg (by omega)]; simp [handRow])) (by simp [handRow])⟩
      clear r
      rintro k hi1 again1 ac wd ⟨hv1, r⟩
      cases h5 : (decide ((((k : Nat) : Int) : Int) < ((e_4bd70.length : Nat) : Int))) with
      | false =>
        have qh5 := of_decide_eq_false h5
        have v17_0 := ((by first | omega | (simp; omega) | (simp [newH_len]; omega)) : (i) < ((nums f.owned.handed).length))
        have v17_1 := ((by simp <;> omega) : ((nums f.owned.handed).length) ≤ (nums (newH f.owned u i)).length)
        have v17_2 := (nums_at (newH_at ge_849ef (by omega)) : (nums (newH f.owned u i))[i]? = some [.u e_849ef])
        have v17_3 := ((by omega) : (max (((e_849ef : Nat) : Int)) (((endN e_4bd70 u i : Nat) : Int)) : Int) = ((max (e_849ef) (endN e_4bd70 u i) : Nat) : Int))
        refine toDraw (todo' := aft Try.f16 17) (E' := [(1, .d (.ro 1 (nums u))), (4, .pt 1 0), (6, .pt 6 0), (7, .sl 7 (f.owned.streams.length)), (26, .sl 4 ((streamsO f.owned.streams).length)), (27, .n f.owned.streams.length), (28, .n i), (8, .sl 8 ((handTo f.owned u i ++ handRow e_40ea1 e_4bd70 e_849ef (min k (endN e_4bd70 u i) - e_849ef)).length)), (9, .n i), (10, .pt 9 0), (11, .u (endN e_4bd70 u i)), (45, .d (.ro 2 (slots e_4bd70))), (46, .n e_4bd70.length), (47, .n k), (48, .d (.v (.bool false))), (74, .pt 6 0), (75, .pt 6 6), (76, .sl 5 ((nums f.owned.handed).length)), (77, .n i), (78, .pt 6 0), (79, .pt 6 6), (80, .sl 5 ((nums f.owned.handed).length)), (81, .n i), (84, .u (endN e_4bd70 u i)), (82, .ep 5 1 (i) 0), (83, .u e_849ef), (85, .u (max (e_849ef) (endN e_4bd70 u i))), (86, .ep 5 1 (i) 0)]) (M' := [.bx 33 [.u f.view.id.round, .z f.view.id.server.node, .u f.view.id.server.inc, .d (.ro 2 (procs f.view.members)), .d (.ro 1 (nums f.view.starts)), .d (.ro 1 (streams f.streams)), .d (.ro 1 (nums f.handed))], .bx 33 [.d (.v (.int .u64 0)), .z 0, .d (.v (.int .u64 0)), .d (.v (.slice none 0 0)), .d (.v (.slice none 0 0)), .d (.v (.slice none 0 0)), .d (.v (.slice none 0 0))], .rw 24 2 (procs f.owned.view.members), .rw 22 1 (nums f.owned.view.starts), .rw 67 1 (streams f.owned.streams), .rw 22 1 (List.set (nums (newH f.owned u i)) (i) [.u (max (e_849ef) (endN e_4bd70 u i))]), .bx 72 [.u f.owned.view.id.round, .z f.owned.view.id.server.node, .u f.owned.view.id.server.inc, .sl 2 ((procs f.owned.view.members).length), .sl 3 ((nums f.owned.view.starts).length), .sl 4 ((streamsO f.owned.streams).length), .sl 5 ((nums f.owned.handed).length)], .rw 22 1 (nums (padN u f.owned.streams.length)), .rw 36 4 (msgsO (handTo f.owned u i ++ handRow e_40ea1 e_4bd70 e_849ef (min k (endN e_4bd70 u i) - e_849ef))), .bx 67 [.d (.ro 2 (slots e_4bd70))]]) tb_ok mixed_ok hK [(12, [(0, .b false)]), (17, [(8, .n (i)), (9, .ix 0 [.u e_849ef]), (11, .z (((max (e_849ef) (endN e_4bd70 u i) : Nat) : Int))), (12, .n (i)), (13, .ix 0 [.u e_849ef])])] 5 1 [8, 9, 12] [[0, 1, 2, 3, 4, 5, 6, 7, 8, 9]] [1, 4, 6, 7, 26, 27, 28, 8, 9, 10, 11, 45, 46, 47, 48, 74, 75, 76, 77, 78, 79, 80, 81, 84, 82, 83, 85, 86] r (by kernel_rfl) (an (an h5 (an (rfI ((i : Nat) : Int)) (an v17_0 (an v17_1 (an v17_2 (an v17_3 (an (rfI ((i : Nat) : Int)) (an v17_0 (an v17_1 (an v17_2 trivial)))))))))) trivial) fun ac wd r => ?_
        exact toHead (todo' := hd Try.f16 0) (E' := [(1, .d (.ro 1 (nums u))), (4, .pt 1 0), (6, .pt 6 0), (7, .sl 7 (f.owned.streams.length)), (26, .sl 4 ((streamsO f.owned.streams).length)), (27, .n f.owned.streams.length), (28, .n (i + 1)), (8, .sl 8 ((handTo f.owned u i ++ handRow e_40ea1 e_4bd70 e_849ef (min k (endN e_4bd70 u i) - e_849ef)).length))]) (M' := [.bx 33 [.u f.view.id.round, .z f.view.id.server.node, .u f.view.id.server.inc, .d (.ro 2 (procs f.view.members)), .d (.ro 1 (nums f.view.starts)), .d (.ro 1 (streams f.streams)), .d (.ro 1 (nums f.handed))], .bx 33 [.d (.v (.int .u64 0)), .z 0, .d (.v (.int .u64 0)), .d (.v (.slice none 0 0)), .d (.v (.slice none 0 0)), .d (.v (.slice none 0 0)), .d (.v (.slice none 0 0))], .rw 24 2 (procs f.owned.view.members), .rw 22 1 (nums f.owned.view.starts), .rw 67 1 (streams f.owned.streams), .rw 22 1 (List.set (nums (newH f.owned u i)) (i) [.u (max (e_849ef) (endN e_4bd70 u i))]), .bx 72 [.u f.owned.view.id.round, .z f.owned.view.id.server.node, .u f.owned.view.id.server.inc, .sl 2 ((procs f.owned.view.members).length), .sl 3 ((nums f.owned.view.starts).length), .sl 4 ((streamsO f.owned.streams).length), .sl 5 ((nums f.owned.handed).length)], .rw 22 1 (nums (padN u f.owned.streams.length)), .rw 36 4 (msgsO (handTo f.owned u i ++ handRow e_40ea1 e_4bd70 e_849ef (min k (endN e_4bd70 u i) - e_849ef)))]) tb_ok mixed_ok hK [(18, [(0, .z (((i + 1 : Nat) : Int)))])] 2000 [0, 1, 2, 3, 4, 5, 6, 7, 8] [1, 4, 6, 7, 26, 27, 28, 8] r (by kernel_rfl) (an ((wi (by omega)) : IntKind.i64.wrap ((((i : Nat) : Int) : Int) + 1) = ((i + 1 : Nat) : Int)) trivial) fun ac wd r => again0 (by omega) ac wd ⟨by omega, r.cast (by have e : min k (endN e_4bd70 u i) = endN e_4bd70 u i := (by omega); rw [handTo_next ge_4bd70 ge_40ea1 ge_849ef, e]) (by have e : min k (endN e_4bd70 u i) = endN e_4bd70 u i := (by omega); rw [handTo_next ge_4bd70 ge_40ea1 ge_849ef, newH_next ge_4bd70 ge_849ef, e, nums_set])⟩
      | true =>
        have qh5 := of_decide_eq_true h5
        obtain ⟨e_e_4bd70_k, ge_e_4bd70_k⟩ : ∃ x, e_4bd70[k]? = some x := ⟨_, List.getElem?_eq_getElem (by omega)⟩
        have be_e_4bd70_k := be_4bd70.at ge_e_4bd70_k
        cases h6 : (decide ((((e_849ef : Nat) : Int) : Int) < ((e_e_4bd70_k.n : Nat) : Int))) with
        | false =>
          have qh6 := of_decide_eq_false h6
          exact toHead (todo' := hd Try.f16 1) (E' := [(1, .d (.ro 1 (nums u))), (4, .pt 1 0), (6, .pt 6 0), (7, .sl 7 (f.owned.streams.length)), (26, .sl 4 ((streamsO f.owned.streams).length)), (27, .n f.owned.streams.length), (28, .n i), (8, .sl 8 ((handTo f.owned u i ++ handRow e_40ea1 e_4bd70 e_849ef (min k (endN e_4bd70 u i) - e_849ef)).length)), (9, .n i), (10, .pt 9 0), (11, .u (endN e_4bd70 u i)), (45, .d (.ro 2 (slots e_4bd70))), (46, .n e_4bd70.length), (47, .n (k + 1))]) (M' := [.bx 33 [.u f.view.id.round, .z f.view.id.server.node, .u f.view.id.server.inc, .d (.ro 2 (procs f.view.members)), .d (.ro 1 (nums f.view.starts)), .d (.ro 1 (streams f.streams)), .d (.ro 1 (nums f.handed))], .bx 33 [.d (.v (.int .u64 0)), .z 0, .d (.v (.int .u64 0)), .d (.v (.slice none 0 0)), .d (.v (.slice none 0 0)), .d (.v (.slice none 0 0)), .d (.v (.slice none 0 0))], .rw 24 2 (procs f.owned.view.members), .rw 22 1 (nums f.owned.view.starts), .rw 67 1 (streams f.owned.streams), .rw 22 1 (nums (newH f.owned u i)), .bx 72 [.u f.owned.view.id.round, .z f.owned.view.id.server.node, .u f.owned.view.id.server.inc, .sl 2 ((procs f.owned.view.members).length), .sl 3 ((nums f.owned.view.starts).length), .sl 4 ((streamsO f.owned.streams).length), .sl 5 ((nums f.owned.handed).length)], .rw 22 1 (nums (padN u f.owned.streams.length)), .rw 36 4 (msgsO (handTo f.owned u i ++ handRow e_40ea1 e_4bd70 e_849ef (min k (endN e_4bd70 u i) - e_849ef))), .bx 67 [.d (.ro 2 (slots e_4bd70))]]) tb_ok mixed_ok hK [(12, [(0, .b true)]), (13, [(0, .ix (k) [.u e_e_4bd70_k.n, .ro 1 (bytesR e_e_4bd70_k.body)])]), (14, [(6, .n (i)), (7, .ix 0 [.u e_849ef]), (8, .b false)]), (16, [(0, .z (((k + 1 : Nat) : Int)))])] 2000 [0, 1, 2, 3, 4, 5, 6, 7, 8, 9] [1, 4, 6, 7, 26, 27, 28, 8, 9, 10, 11, 45, 46, 47] r (by kernel_rfl) (an h5 (an (rfI ((k : Nat) : Int)) (an (slots_at ge_e_4bd70_k) (an (rfI ((i : Nat) : Int)) (an ((by first | omega | (simp; omega) | (simp [newH_len]; omega)) : (i) < ((nums f.owned.handed).length)) (an ((by simp <;> omega) : ((nums f.owned.handed).length) ≤ (nums (newH f.owned u i)).length) (an (nums_at (newH_at ge_849ef (by omega)) : (nums (newH f.owned u i))[i]? = some [.u e_849ef]) (an h6 (an ((wi (by omega)) : IntKind.i64.wrap ((((k : Nat) : Int) : Int) + 1) = ((k + 1 : Nat) : Int)) trivial))))))))) fun ac wd r => again1 (by omega) ac wd ⟨by omega, r.cast (by first | rw [hand_no gd hel ge_e_4bd70_k (by omega)] | (rw [hand_yes gd hel ge_e_4bd70_k (by omega) (by omega)]; simp; done) | (rw [hand_yes gd hel ge_e_4bd70_k (by omega) (by omega)]; simp; omega)) (by first | rw [hand_no gd hel ge_e_4bd70_k (by omega)] | rw [hand_yes gd hel ge_e_4bd70_k (by omega) (by omega), ← List.append_assoc, msgsO_app])⟩
        | true =>
          have qh6 := of_decide_eq_true h6
          cases h7 : (decide ((((e_e_4bd70_k.n : Nat) : Int) : Int) ≤ ((endN e_4bd70 u i : Nat) : Int))) with
          | false =>
            have qh7 := of_decide_eq_false h7
            exact toHead (todo' := hd Try.f16 1) (E' := [(1, .d (.ro 1 (nums u))), (4, .pt 1 0), (6, .pt 6 0), (7, .sl 7 (f.owned.streams.length)), (26, .sl 4 ((streamsO f.owned.streams).length)), (27, .n f.owned.streams.length), (28, .n i), (8, .sl 8 ((handTo f.owned u i ++ handRow e_40ea1 e_4bd70 e_849ef (min k (endN e_4bd70 u i) - e_849ef)).length)), (9, .n i), (10, .pt 9 0), (11, .u (endN e_4bd70 u i)), (45, .d (.ro 2 (slots e_4bd70))), (46, .n e_4bd70.length), (47, .n (k + 1))]) (M' := [.bx 33 [.u f.view.id.round, .z f.view.id.server.node, .u f.view.id.server.inc, .d (.ro 2 (procs f.view.members)), .d (.ro 1 (nums f.view.starts)), .d (.ro 1 (streams f.streams)), .d (.ro 1 (nums f.handed))], .bx 33 [.d (.v (.int .u64 0)), .z 0, .d (.v (.int .u64 0)), .d (.v (.slice none 0 0)), .d (.v (.slice none 0 0)), .d (.v (.slice none 0 0)), .d (.v (.slice none 0 0))], .rw 24 2 (procs f.owned.view.members), .rw 22 1 (nums f.owned.view.starts), .rw 67 1 (streams f.owned.streams), .rw 22 1 (nums (newH f.owned u i)), .bx 72 [.u f.owned.view.id.round, .z f.owned.view.id.server.node, .u f.owned.view.id.server.inc, .sl 2 ((procs f.owned.view.members).length), .sl 3 ((nums f.owned.view.starts).length), .sl 4 ((streamsO f.owned.streams).length), .sl 5 ((nums f.owned.handed).length)], .rw 22 1 (nums (padN u f.owned.streams.length)), .rw 36 4 (msgsO (handTo f.owned u i ++ handRow e_40ea1 e_4bd70 e_849ef (min k (endN e_4bd70 u i) - e_849ef))), .bx 67 [.d (.ro 2 (slots e_4bd70))]]) tb_ok mixed_ok hK [(12, [(0, .b true)]), (13, [(0, .ix (k) [.u e_e_4bd70_k.n, .ro 1 (bytesR e_e_4bd70_k.body)])]), (14, [(6, .n (i)), (7, .ix 0 [.u e_849ef]), (8, .b true), (13, .b false)]), (16, [(0, .z (((k + 1 : Nat) : Int)))])] 2000 [0, 1, 2, 3, 4, 5, 6, 7, 8, 9] [1, 4, 6, 7, 26, 27, 28, 8, 9, 10, 11, 45, 46, 47] r (by kernel_rfl) (an h5 (an (rfI ((k : Nat) : Int)) (an (slots_at ge_e_4bd70_k) (an (rfI ((i : Nat) : Int)) (an ((by first | omega | (simp; omega) | (simp [newH_len]; omega)) : (i) < ((nums f.owned.handed).length)) (an ((by simp <;> omega) : ((nums f.owned.handed).length) ≤ (nums (newH f.owned u i)).length) (an (nums_at (newH_at ge_849ef (by omega)) : (nums (newH f.owned u i))[i]? = some [.u e_849ef]) (an h6 (an h7 (an ((wi (by omega)) : IntKind.i64.wrap ((((k : Nat) : Int) : Int) + 1) = ((k + 1 : Nat) : Int)) trivial)))))))))) fun ac wd r => again1 (by omega) ac wd ⟨by omega, r.cast (by first | rw [hand_no gd hel ge_e_4bd70_k (by omega)] | (rw [hand_yes gd hel ge_e_4bd70_k (by omega) (by omega)]; simp; done) | (rw [hand_yes gd hel ge_e_4bd70_k (by omega) (by omega)]; simp; omega)) (by first | rw [hand_no gd hel ge_e_4bd70_k (by omega)] | rw [hand_yes gd hel ge_e_4bd70_k (by omega) (by omega), ← List.append_assoc, msgsO_app])⟩
          | true =>
            have qh7 := of_decide_eq_true h7
            exact toHead (todo' := hd Try.f16 1) (E' := [(1, .d (.ro 1 (nums u))), (4, .pt 1 0), (6, .pt 6 0), (7, .sl 7 (f.owned.streams.length)), (26, .sl 4 ((streamsO f.owned.streams).length)), (27, .n f.owned.streams.length), (28, .n i), (8, .sl 8 ((handTo f.owned u i ++ handRow e_40ea1 e_4bd70 e_849ef (min k (endN e_4bd70 u i) - e_849ef)).length + (1))), (9, .n i), (10, .pt 9 0), (11, .u (endN e_4bd70 u i)), (45, .d (.ro 2 (slots e_4bd70))), (46, .n e_4bd70.length), (47, .n (k + 1))]) (M' := [.bx 33 [.u f.view.id.round, .z f.view.id.server.node, .u f.view.id.server.inc, .d (.ro 2 (procs f.view.members)), .d (.ro 1 (nums f.view.starts)), .d (.ro 1 (streams f.streams)), .d (.ro 1 (nums f.handed))], .bx 33 [.d (.v (.int .u64 0)), .z 0, .d (.v (.int .u64 0)), .d (.v (.slice none 0 0)), .d (.v (.slice none 0 0)), .d (.v (.slice none 0 0)), .d (.v (.slice none 0 0))], .rw 24 2 (procs f.owned.view.members), .rw 22 1 (nums f.owned.view.starts), .rw 67 1 (streams f.owned.streams), .rw 22 1 (nums (newH f.owned u i)), .bx 72 [.u f.owned.view.id.round, .z f.owned.view.id.server.node, .u f.owned.view.id.server.inc, .sl 2 ((procs f.owned.view.members).length), .sl 3 ((nums f.owned.view.starts).length), .sl 4 ((streamsO f.owned.streams).length), .sl 5 ((nums f.owned.handed).length)], .rw 22 1 (nums (padN u f.owned.streams.length)), .rw 36 4 (msgsO (handTo f.owned u i ++ handRow e_40ea1 e_4bd70 e_849ef (min k (endN e_4bd70 u i) - e_849ef)) ++ [[.z e_40ea1.node, .u e_40ea1.inc, .u e_e_4bd70_k.n, .em 5 1 (bytesR e_e_4bd70_k.body)]]), .bx 67 [.d (.ro 2 (slots e_4bd70))]]) tb_ok mixed_ok hK [(12, [(0, .b true)]), (13, [(0, .ix (k) [.u e_e_4bd70_k.n, .ro 1 (bytesR e_e_4bd70_k.body)])]), (14, [(6, .n (i)), (7, .ix 0 [.u e_849ef]), (8, .b true), (13, .b true)]), (15, [(4, .call [.ag [.u f.owned.view.id.round, .z f.owned.view.id.server.node, .u f.owned.view.id.server.inc, .d (.ro 2 (procs f.owned.view.members)), .d (.ro 1 (nums f.owned.view.starts)), .d (.ro 1 (streams f.owned.streams)), .d (.ro 1 (nums (newH f.owned u i)))], .n i, .ag [.u e_e_4bd70_k.n, .d (.ro 1 (bytesR e_e_4bd70_k.body))]] (.ag [.z e_40ea1.node, .u e_40ea1.inc, .u e_e_4bd70_k.n, .em 5 1 (bytesR e_e_4bd70_k.body)]))]), (16, [(0, .z (((k + 1 : Nat) : Int)))])] 2000 [0, 1, 2, 3, 4, 5, 6, 7, 8, 9] [1, 4, 6, 7, 26, 27, 28, 8, 9, 10, 11, 45, 46, 47] r (by kernel_rfl) (an h5 (an (rfI ((k : Nat) : Int)) (an (slots_at ge_e_4bd70_k) (an (rfI ((i : Nat) : Int)) (an ((by first | omega | (simp; omega) | (simp [newH_len]; omega)) : (i) < ((nums f.owned.handed).length)) (an ((by simp <;> omega) : ((nums f.owned.handed).length) ≤ (nums (newH f.owned u i)).length) (an (nums_at (newH_at ge_849ef (by omega)) : (nums (newH f.owned u i))[i]? = some [.u e_849ef]) (an h6 (an h7 (an (messageOk { f.owned with handed := newH f.owned u i } i e_e_4bd70_k (by show i < f.owned.view.members.length; omega) (by omega) ge_40ea1) (an ((by first | exact ind_v _ | exact Ind.two _ _ | exact Ind.msg _ _ _ _ _) : Ind (.ag [.z e_40ea1.node, .u e_40ea1.inc, .u e_e_4bd70_k.n, .em 5 1 (bytesR e_e_4bd70_k.body)])) (an (rfD (.u f.owned.view.id.round)) (an (rfD (.z f.owned.view.id.server.node)) (an (rfD (.u f.owned.view.id.server.inc)) (an (rfN (2)) (an (rfN ((procs f.owned.view.members).length)) (an ((by first | exact froz_strm _ | (simp [frozR_map, froz, Proc.row]; done) | (simp [frozR_map, froz, Proc.row])) : frozR (procs f.owned.view.members) = procs f.owned.view.members) (an (rfN (1)) (an (rfN ((nums f.owned.view.starts).length)) (an ((by first | exact froz_strm _ | (simp [frozR_map, froz, Proc.row]; done) | (simp [frozR_map, froz, Proc.row])) : frozR (nums f.owned.view.starts) = nums f.owned.view.starts) (an (rfN (1)) (an ((by simp <;> omega) : ((streamsO f.owned.streams).length) = (streams f.owned.streams).length) (an ((by first | exact froz_strm _ | (simp [frozR_map, froz, Proc.row]; done) | (simp [frozR_map, froz, Proc.row])) : frozR (streams f.owned.streams) = streams f.owned.streams) (an (rfN (1)) (an ((by simp <;> omega) : ((nums f.owned.handed).length) = (nums (newH f.owned u i)).length) (an ((by first | exact froz_strm _ | (simp [frozR_map, froz, Proc.row]; done) | (simp [frozR_map, froz, Proc.row])) : frozR (nums (newH f.owned u i)) = nums (newH f.owned u i)) (an (rfD (.n i)) (an (rfD (.u e_e_4bd70_k.n)) (an (rfD (.ro 1 (bytesR e_e_4bd70_k.body))) (an (rfN ((bytesR e_e_4bd70_k.body).length)) (an ((by simp <;> omega) : ((handTo f.owned u i ++ handRow e_40ea1 e_4bd70 e_849ef (min k (endN e_4bd70 u i) - e_849ef)).length) = (msgsO (handTo f.owned u i ++ handRow e_40ea1 e_4bd70 e_849ef (min k (endN e_4bd70 u i) - e_849ef)) : List (List DV)).length) (an ((by simp <;> omega) : (1) = ([[.z e_40ea1.node, .u e_40ea1.inc, .u e_e_4bd70_k.n, .em 5 1 (bytesR e_e_4bd70_k.body)]] : List (List DV)).length) (an ((by first | omega | (simp [bytesR_len]; done) | (simp [bytesR_len, handRow_len]; omega)) : (2 * (((handTo f.owned u i ++ handRow e_40ea1 e_4bd70 e_849ef (min k (endN e_4bd70 u i) - e_849ef)).length) + (1)) + 192) * 48 ≤ 281474976710656) (an ((by first | omega | (simp [bytesR_len]; done) | (simp [bytesR_len, handRow_len]; omega)) : ((handTo f.owned u i ++ handRow e_40ea1 e_4bd70 e_849ef (min k (endN e_4bd70 u i) - e_849ef)).length) + (1) < 4611686018427387904) (an ((by simp [OneR, AV.one, oneC, bytesR]) : OneR ([[.z e_40ea1.node, .u e_40ea1.inc, .u e_e_4bd70_k.n, .em 5 1 (bytesR e_e_4bd70_k.body)]])) (an ((wi (by omega)) : IntKind.i64.wrap ((((k : Nat) : Int) : Int) + 1) = ((k + 1 : Nat) : Int)) trivial)))))))))))))))))))))))))))))))))))) fun ac wd r => again1 (by omega) ac wd ⟨by omega, r.cast (by first | rw [hand_no gd hel ge_e_4bd70_k (by omega)] | (rw [hand_yes gd hel ge_e_4bd70_k (by omega) (by omega)]; simp; done) | (rw [hand_yes gd hel ge_e_4bd70_k (by omega) (by omega)]; simp; omega)) (by first | rw [hand_no gd hel ge_e_4bd70_k (by omega)] | rw [hand_yes gd hel ge_e_4bd70_k (by omega) (by omega), ← List.append_assoc, msgsO_app])⟩
end Go.Proofs.Ytoijfmfkkmbabaa
namespace Go.Proofs.Ytoijfmfkkmbabaa
open Go.RowKit
set_option maxRecDepth 100000 in
theorem indexFromC (l : List Slot) (m : Msg) (hb : l.length < 2147483648) : Con Try.prog 45 [.d (.ro 2 (slots l)), .fn 30 [.rp [.z m.src.node, .u m.src.inc, .u m.n, .ro 1 (bytesR m.body)] 0]] (.v (.int .i64 (fromF l m.n 0))) := by
  refine Con.intro (by kernel_rfl) rfl rfl 19 rfl rfl fun w0 K ac hK r => ?_
  refine toHead (todo' := hd Try.f45 0) (E' := [(0, .d (.ro 2 (slots l))), (1, .fn 30 [.rp [.z m.src.node, .u m.src.inc, .u m.n, .ro 1 (bytesR m.body)] 0]), (7, .n l.length), (8, .n 0)]) (M' := []) tb_ok mixed_ok hK [(1, [(1, .z (((l.length : Nat) : Int)))])] 2000 [] [0, 1, 7, 8] r (by kernel_rfl) (an ((by simp [bytesR]) : (((slots l).length : Nat) : Int) = ((l.length : Nat) : Int)) trivial) fun ac wd r => ?_
  refine Goes.rounds (Φ := fun (i : Nat) ac wd => (i ≤ l.length ∧ ∀ j t, j < i → l[j]? = some t → t.n < m.n) ∧ RE' [] w0 K 19 [(0, .d (.ro 2 (slots l))), (1, .fn 30 [.rp [.z m.src.node, .u m.src.inc, .u m.n, .ro 1 (bytesR m.body)] 0]), (7, .n l.length), (8, .n i)] [] ac wd) (l.length) ?_ (Nat.zero_le _) ⟨⟨by omega, by omega⟩, r⟩
  clear r
  rintro i hi0 again0 ac wd ⟨hv0, r⟩
  obtain ⟨hi1, hv0⟩ := hv0
  cases h0 : (decide ((((i : Nat) : Int) : Int) < ((l.length : Nat) : Int))) with
  | false =>
    have qh0 := of_decide_eq_false h0
    rw [show (.v (.int .i64 (fromF l m.n 0)) : DV) = .z (-1) from (iv (by first | (rw [fromF_at ge_l_i (by omega) hv0]; simp; done) | exact fromF_none fun j t hj ht => hv0 j t (by omega) ht))]
    exact toRet tb_ok mixed_ok hK rfl [(2, [(0, .b false)])] 2000 r (by kernel_rfl) (an h0 trivial)
  | true =>
    have qh0 := of_decide_eq_true h0
    obtain ⟨e_l_i, ge_l_i⟩ : ∃ x, l[i]? = some x := ⟨_, List.getElem?_eq_getElem (by omega)⟩
    cases h1 : (decide ((((m.n : Nat) : Int) : Int) ≤ ((e_l_i.n : Nat) : Int))) with
    | false =>
      have qh1 := of_decide_eq_false h1
      exact toHead (todo' := hd Try.f45 0) tb_ok mixed_ok hK [(2, [(0, .b true)]), (4, [(3, .ix (i) [.u e_l_i.n, .ro 1 (bytesR e_l_i.body)]), (5, .into 200 [(1, [(4, .b false)])])]), (6, [(0, .z (((i + 1 : Nat) : Int)))])] 2000 [] [0, 1, 7, 8] r (by kernel_rfl) (an h0 (an (rfI ((i : Nat) : Int)) (an (slots_at ge_l_i) (an h1 (an ((wi (by omega)) : IntKind.i64.wrap ((((i : Nat) : Int) : Int) + 1) = ((i + 1 : Nat) : Int)) trivial))))) fun ac wd r => again0 (by omega) ac wd ⟨⟨by omega, fun j t hj ht => by rcases Nat.lt_succ_iff_lt_or_eq.1 hj with h | rfl; exact hv0 j t h ht; rw [ge_l_i] at ht; cases ht; omega⟩, r⟩
    | true =>
      have qh1 := of_decide_eq_true h1
      rw [show (.v (.int .i64 (fromF l m.n 0)) : DV) = .n i from (iv (by first | (rw [fromF_at ge_l_i (by omega) hv0]; simp; done) | exact fromF_none fun j t hj ht => hv0 j t (by omega) ht))]
      exact toRet tb_ok mixed_ok hK rfl [(2, [(0, .b true)]), (4, [(3, .ix (i) [.u e_l_i.n, .ro 1 (bytesR e_l_i.body)]), (5, .into 200 [(1, [(4, .b true)])])])] 2000 r (by kernel_rfl) (an h0 (an (rfI ((i : Nat) : Int)) (an (slots_at ge_l_i) (an h1 trivial))))
set_option maxRecDepth 100000 in
theorem placeFromC (l : List Slot) (m : Msg) (hb : l.length < 2147483648) : Con Try.prog 29 [.d (.ro 2 (slots l)), .fn 30 [.rp [.z m.src.node, .u m.src.inc, .u m.n, .ro 1 (bytesR m.body)] 0]] (.v (.int .i64 ((fromN l m.n : Nat) : Int))) := by
  refine Con.intro (by kernel_rfl) rfl rfl 14 rfl rfl fun w0 K ac hK r => ?_
  cases h0 : (decide ((0 : Int) ≤ fromF l m.n 0)) with
  | false =>
    have qh0 := of_decide_eq_false h0
    rw [show (.v (.int .i64 ((fromN l m.n : Nat) : Int)) : DV) = .n l.length from (iv (by unfold fromN; split <;> omega))]
    exact toRet tb_ok mixed_ok hK rfl [(1, [(2, .con (.z (fromF l m.n 0)))]), (2, [(1, .b false)]), (4, [(1, .z (((l.length : Nat) : Int)))])] 2000 r (by kernel_rfl) (an (indexFromC l m (by omega)) (an h0 (an ((by simp [bytesR]) : (((slots l).length : Nat) : Int) = ((l.length : Nat) : Int)) trivial)))
  | true =>
    have qh0 := of_decide_eq_true h0
    rw [show (.v (.int .i64 ((fromN l m.n : Nat) : Int)) : DV) = .z (fromF l m.n 0) from (iv (by unfold fromN; split <;> omega))]
    exact toRet tb_ok mixed_ok hK rfl [(1, [(2, .con (.z (fromF l m.n 0)))]), (2, [(1, .b true)])] 2000 r (by kernel_rfl) (an (indexFromC l m (by omega)) (an h0 trivial))
theorem fromF_cases : ∀ (l : List Slot) (n k : Nat), (fromF l n k = -1 ∧ ∀ (j : Nat) (t : Slot), l[j]? = some t → t.n < n) ∨ ∃ i : Nat, ∃ x : Slot, fromF l n k = ((k + i : Nat) : Int) ∧ l[i]? = some x ∧ n ≤ x.n ∧ ∀ (j : Nat) (t : Slot), j < i → l[j]? = some t → t.n < n
  | [], n, k => .inl ⟨rfl, by simp⟩
  | s :: r, n, k => by
    rcases Nat.lt_or_ge s.n n with h | h
    · rw [fromF, if_neg (by omega)]
      rcases fromF_cases r n (k + 1) with ⟨e, h1⟩ | ⟨i, x, e, h1, h2, h3⟩
      · refine .inl ⟨e, fun j t ht => ?_⟩
        cases j with
        | zero => simp at ht; subst ht; exact h
        | succ j => exact h1 j t (by simpa using ht)
      · refine .inr ⟨i + 1, x, by rw [e]; congr 1; omega, by simpa using h1, h2, fun j t hj ht => ?_⟩
        cases j with
        | zero => simp at ht; subst ht; exact h
        | succ j => exact h3 j t (by omega) (by simpa using ht)
    · refine .inr ⟨0, s, by rw [fromF, if_pos h]; simp, rfl, h, fun j t hj => by omega⟩
theorem fromN_cases (l : List Slot) (n : Nat) : (fromN l n = l.length ∧ ∀ (j : Nat) (t : Slot), l[j]? = some t → t.n < n) ∨ ∃ x : Slot, l[fromN l n]? = some x ∧ n ≤ x.n ∧ ∀ (j : Nat) (t : Slot), j < fromN l n → l[j]? = some t → t.n < n := by
  rcases fromF_cases l n 0 with ⟨e, h⟩ | ⟨i, x, e, h1, h2, h3⟩
  · exact .inl ⟨by unfold fromN; rw [e]; rfl, h⟩
  · have : fromN l n = i := by unfold fromN; rw [e, if_pos (by omega)]; omega
    rw [this]; exact .inr ⟨x, h1, h2, h3⟩
theorem good_lt {l : List Slot} (g : Good l l.length) : ∀ {i j : Nat} {x y : Slot}, l[i]? = some x → l[j]? = some y → i < j → x.n < y.n := by
  intro i j
  induction j with
  | zero => intro x y _ _ h; omega
  | succ j ih =>
    intro x y hx hy hij
    have hj := (List.getElem?_eq_some_iff.1 hy).1
    have e : l[j]? = some l[j] := List.getElem?_eq_getElem (by omega)
    have h1 := (g (j + 1) y hj hy).2.2.2 l[j] (by omega) (by simp)
    rcases Nat.lt_succ_iff_lt_or_eq.1 hij with h | rfl
    · have := ih hx e h; omega
    · rw [hx] at e; cases e; exact h1
theorem find_no {l : List Slot} (g : Good l l.length) {n : Nat} (h : ∀ x, l[fromN l n]? = some x → x.n ≠ n) : findS l n < 0 := by
  rw [findS_none (l := l) (n := n) fun j t _ ht e => ?_]
  · omega
  · rcases fromN_cases l n with ⟨-, h1⟩ | ⟨x, h1, h2, h3⟩
    · have := h1 j t ht; omega
    · have hx := h x h1
      rcases Nat.lt_trichotomy j (fromN l n) with hj | hj | hj
      · have := h3 j t hj ht; omega
      · subst hj; rw [ht] at h1; cases h1; exact hx e
      · have := good_lt g h1 ht hj; omega
theorem insL_low {l : List Slot} {n : Nat} {b : List UInt8} : ∀ {k : Nat}, k ≤ l.length → (∀ (j : Nat) (t : Slot), j < k → l[j]? = some t → t.n < n) → insL l n b k = l.take k ∧ insD l n k = false
  | 0, _, _ => ⟨by simp [insL], by simp [insD]⟩
  | k + 1, hk, h => by
    obtain ⟨h1, h2⟩ := insL_low (b := b) (k := k) (by omega) fun j t hj => h j t (by omega)
    have e : l[k]? = some l[k] := List.getElem?_eq_getElem (by omega)
    have := h k _ (by omega) e
    exact ⟨by rw [insL_one e (.inr (by omega)), h1, List.take_succ_eq_append_getElem (by omega)], by rw [insD_next e, h2, decide_eq_false (by omega)]; rfl⟩
theorem insL_high {l : List Slot} {n i : Nat} {b : List UInt8} {x : Slot} (hx : l[i]? = some x) (hn : n < x.n) (h : ∀ (j : Nat) (t : Slot), j < i → l[j]? = some t → t.n < n) : ∀ {k : Nat}, i < k → k ≤ l.length → insL l n b k = l.take i ++ ([⟨n, b⟩] ++ (l.drop i).take (k - i)) ∧ insD l n k = true
  | 0, hi, _ => by omega
  | k + 1, hi, hk => by
    have hil := (List.getElem?_eq_some_iff.1 hx).1
    rcases Nat.lt_succ_iff_lt_or_eq.1 hi with h1 | rfl
    · obtain ⟨g1, g2⟩ := insL_high (b := b) hx hn h h1 (by omega)
      have e : l[k]? = some l[k] := List.getElem?_eq_getElem (by omega)
      refine ⟨?_, by rw [insD_next e, g2]; rfl⟩
      rw [insL_one e (.inl g2), g1]
      have h3 : (l.drop i).take (k + 1 - i) = (l.drop i).take (k - i) ++ [l[k]] := by
        rw [show k + 1 - i = (k - i) + 1 by omega, List.take_succ_eq_append_getElem (by simp; omega), List.getElem_drop]
        congr 3; omega
      rw [h3]; simp
    · obtain ⟨g1, g2⟩ := insL_low (b := b) (Nat.le_of_lt hil) h
      refine ⟨?_, insD_two hx hn⟩
      rw [insL_two hx g2 hn, g1, show i + 1 - i = 1 by omega]
      obtain ⟨hi2, rfl⟩ := List.getElem?_eq_some_iff.1 hx
      rw [List.drop_eq_getElem_cons hi2]; rfl
theorem insF_at {l : List Slot} {n : Nat} {b : List UInt8} (hf : findS l n < 0) : insF l n b = l.take (fromN l n) ++ ([⟨n, b⟩] ++ l.drop (fromN l n)) := by
  unfold insF
  rcases fromN_cases l n with ⟨e, h⟩ | ⟨x, h1, h2, h3⟩
  · obtain ⟨g1, g2⟩ := insL_low (b := b) (Nat.le_refl l.length) fun j t _ => h j t
    rw [g1, g2, e]; simp
  · have hne : x.n ≠ n := fun e => by
      have := findS_of h1; rw [e] at this; omega
    have hi := (List.getElem?_eq_some_iff.1 h1).1
    obtain ⟨g1, g2⟩ := insL_high (b := b) h1 (by omega) h3 hi (Nat.le_refl _)
    rw [g1, if_pos g2, List.append_nil]
    congr 2; exact List.take_of_length_le (by simp)
theorem froz_new {l : List Slot} {i n : Nat} {b : List UInt8} : frozR (List.take i (slots l) ++ ([[.v (.int .u64 ((n : Nat) : Int)), .em 5 1 (bytesR b)]] ++ List.drop i (slots l))) = slots (l.take i ++ ([⟨n, b⟩] ++ l.drop i)) := by
  have h2 : froz (.em 5 1 (bytesR b)) = .ro 1 (bytesR b) := by rw [froz, froz_bytes]
  have e1 : List.take i (slots l) = slots (l.take i) := by unfold slots; rw [List.map_take]
  have e2 : List.drop i (slots l) = slots (l.drop i) := by unfold slots; rw [List.map_drop]
  rw [froz_app, froz_app, e1, e2, froz_slots', froz_slots', slots_app, slots_app]
  congr 2
  rw [frozR_map]; show [[froz (.v _), froz (.em 5 1 _)]] = _
  rw [froz, h2]; rfl
theorem froz_put2 {L : List (List Slot)} {i : Nat} {rows : List (List DV)} {l : List Slot} (h : frozR rows = slots l) : frozR (List.set (List.set (streamsO L) i [.jk]) i [.em 69 2 rows]) = streams (L.set i l) := by
  rw [List.set_set, frozR_map, List.map_set]
  have h1 : (streamsO L).map (fun r => r.map froz) = streams L := by rw [← frozR_map, froz_streams]
  rw [h1]
  show List.set _ _ [froz (.em 69 2 rows)] = _
  rw [froz, h]; unfold streams; rw [List.map_set]
def cpR (rows : List (List DV)) : Prop := ∀ r ∈ rows, ∀ c ∈ r, c.cp = true
theorem cp_slots (l : List Slot) : cpR (slots l) := by
  intro r hr c hc
  obtain ⟨s, -, rfl⟩ := List.mem_map.1 hr
  simp only [Slot.row, List.mem_cons, List.not_mem_nil, or_false] at hc
  rcases hc with rfl | rfl <;> rfl
theorem one_slots (l : List Slot) : OneR (slots l) := by simp [OneR, AV.one, oneC, slots, Slot.row]
def Flow.takesB (f : Flow) (m : Msg) : Bool := decide (f.takes m)
theorem Flow.takesB_t {f : Flow} {m : Msg} (h : f.takesB m = true) : f.takes m := of_decide_eq_true h
theorem Flow.takesB_f {f : Flow} {m : Msg} (h : f.takesB m = false) : ¬ f.takes m := of_decide_eq_false h
def InsertOk : Prop := ∀ (rows : List (List DV)) (row : List DV) (i n : Nat), n = rows.length → i ≤ n → n < 1073741824 → (∀ r ∈ rows, r.length = 2) → row.length = 2 → cpR rows → OneR rows → OneR [row] →
  ConM Try.prog 31 [.sl 0 n, .d (.v (.int .i64 ((i : Nat) : Int))), .sl 1 1] [.rw 69 2 rows, .rw 69 2 [row]] (.sl 2 (n + 1)) [.dead, .dead, .rw 69 2 (List.take i rows ++ ([row] ++ List.drop i rows))]
theorem slots_two (l : List Slot) : ∀ r ∈ slots l, r.length = 2 := by
  intro r hr; obtain ⟨s, -, rfl⟩ := List.mem_map.1 hr; rfl
set_option maxRecDepth 100000 in
theorem takeOk (hV : ∀ v : View, v.bounded → Con Try.prog 36 [.ag [.u v.id.round, .z v.id.server.node, .u v.id.server.inc, .d (.ro 2 (procs v.members)), .d (.ro 1 (nums v.starts))]] (DV.v (.bool v.may))) (hI : InsertOk) (f : Flow) (m : Msg) (hb : f.bounded) (hm : m.body.length < 1073741824) : Con Try.prog 9 [.ag [.u f.view.id.round, .z f.view.id.server.node, .u f.view.id.server.inc, .d (.ro 2 (procs f.view.members)), .d (.ro 1 (nums f.view.starts)), .d (.ro 1 (streams f.streams)), .d (.ro 1 (nums f.handed))], .ag [.z m.src.node, .u m.src.inc, .u m.n, .d (.ro 1 (bytesR m.body))]] (.tu [.ag (f.owned.take m).half, .v (.bool (decide (f.owned.takes m)))]) := by
  have hbo := Flow.owned_bounded hb
  obtain ⟨hol, hoh⟩ := Flow.owned_len f
  obtain ⟨hbv, hb1, hb2, hb3⟩ := id hbo
  refine Con.intro (by kernel_rfl) rfl rfl 86 rfl rfl fun w0 K ac hK r => ?_
  cases h0 : (f.owned.takesB m) with
  | false =>
    have qh0 : ¬ f.owned.takes m := Flow.takesB_f (by assumption)
    refine toAt (todo' := aft Try.f9 1) (E' := [(3, .pt 1 0), (4, .pt 2 0), (5, .d (.v (.bool false))), (6, .pt 7 0)]) (M' := [.bx 33 [.u f.view.id.round, .z f.view.id.server.node, .u f.view.id.server.inc, .d (.ro 2 (procs f.view.members)), .d (.ro 1 (nums f.view.starts)), .d (.ro 1 (streams f.streams)), .d (.ro 1 (nums f.handed))], .bx 36 [.z m.src.node, .u m.src.inc, .u m.n, .d (.ro 1 (bytesR m.body))], .bx 33 [.d (.v (.int .u64 0)), .z 0, .d (.v (.int .u64 0)), .d (.v (.slice none 0 0)), .d (.v (.slice none 0 0)), .d (.v (.slice none 0 0)), .d (.v (.slice none 0 0))], .rw 24 2 (procs f.owned.view.members), .rw 22 1 (nums f.owned.view.starts), .rw 67 1 (streamsO f.owned.streams), .rw 22 1 (nums f.owned.handed), .bx 72 [.u f.owned.view.id.round, .z f.owned.view.id.server.node, .u f.owned.view.id.server.inc, .sl 3 ((procs f.owned.view.members).length), .sl 4 ((nums f.owned.view.starts).length), .sl 5 ((streamsO f.owned.streams).length), .sl 6 ((nums f.owned.handed).length)]]) tb_ok mixed_ok hK [(1, [(1, .con (.ag [.u f.owned.view.id.round, .z f.owned.view.id.server.node, .u f.owned.view.id.server.inc, .em 24 2 (procs f.owned.view.members), .em 22 1 (nums f.owned.view.starts), .em 67 1 (streamsO f.owned.streams), .em 22 1 (nums f.owned.handed)]))])] 4 [0, 1, 2, 3, 4, 5, 6, 7] [3, 4, 5, 6] r (by kernel_rfl) (an (workOk hV f (by assumption)) trivial) fun ac wd r => ?_
    have r := r.freeze (M1 := [.bx 33 [.u f.view.id.round, .z f.view.id.server.node, .u f.view.id.server.inc, .d (.ro 2 (procs f.view.members)), .d (.ro 1 (nums f.view.starts)), .d (.ro 1 (streams f.streams)), .d (.ro 1 (nums f.handed))], .bx 36 [.z m.src.node, .u m.src.inc, .u m.n, .d (.ro 1 (bytesR m.body))], .bx 33 [.d (.v (.int .u64 0)), .z 0, .d (.v (.int .u64 0)), .d (.v (.slice none 0 0)), .d (.v (.slice none 0 0)), .d (.v (.slice none 0 0)), .d (.v (.slice none 0 0))], .rw 24 2 (procs f.owned.view.members), .rw 22 1 (nums f.owned.view.starts), .rw 67 1 (frozR (streamsO f.owned.streams)), .rw 22 1 (nums f.owned.handed), .bx 72 [.u f.owned.view.id.round, .z f.owned.view.id.server.node, .u f.owned.view.id.server.inc, .sl 3 ((procs f.owned.view.members).length), .sl 4 ((nums f.owned.view.starts).length), .sl 5 ((streamsO f.owned.streams).length), .sl 6 ((nums f.owned.handed).length)]]) (M2 := [.bx 33 [.u f.view.id.round, .z f.view.id.server.node, .u f.view.id.server.inc, .d (.ro 2 (procs f.view.members)), .d (.ro 1 (nums f.view.starts)), .d (.ro 1 (streams f.streams)), .d (.ro 1 (nums f.handed))], .bx 36 [.z m.src.node, .u m.src.inc, .u m.n, .d (.ro 1 (bytesR m.body))], .bx 33 [.d (.v (.int .u64 0)), .z 0, .d (.v (.int .u64 0)), .d (.v (.slice none 0 0)), .d (.v (.slice none 0 0)), .d (.v (.slice none 0 0)), .d (.v (.slice none 0 0))], .rw 24 2 (procs f.owned.view.members), .rw 22 1 (nums f.owned.view.starts), .rw 67 1 (streams f.owned.streams), .rw 22 1 (nums f.owned.handed), .bx 72 [.u f.owned.view.id.round, .z f.owned.view.id.server.node, .u f.owned.view.id.server.inc, .sl 3 ((procs f.owned.view.members).length), .sl 4 ((nums f.owned.view.starts).length), .sl 5 ((streamsO f.owned.streams).length), .sl 6 ((nums f.owned.handed).length)]]) [5] (by kernel_rfl) (by rw [froz_streams])
    cases h1 : (placeB f.owned.view.members m.src) with
    | false =>
      rw [show (.tu [.ag (f.owned.take m).half, .v (.bool (decide (f.owned.takes m)))] : DV) = .tu [.ag [.u f.owned.view.id.round, .z f.owned.view.id.server.node, .u f.owned.view.id.server.inc, .em 24 2 (procs f.owned.view.members), .em 22 1 (nums f.owned.view.starts), .em 67 1 (streams f.owned.streams), .em 22 1 (nums f.owned.handed)], .v (.bool false)] from (by first | (rw [Flow.take_no qh0, decide_eq_false qh0]; rfl) | (rw [Flow.take_yes qh0, decide_eq_true qh0]; unfold Flow.put; rw [streamAt_get ge_9e6b8]; rfl))]
      exact toRet tb_ok mixed_ok hK rfl [(2, [(5, .call [.ag [.u f.owned.view.id.round, .z f.owned.view.id.server.node, .u f.owned.view.id.server.inc, .d (.ro 2 (procs f.owned.view.members)), .d (.ro 1 (nums f.owned.view.starts))], .ag [.z m.src.node, .u m.src.inc]] (.tu [.n (placeN f.owned.view.members m.src), .v (.bool false)]))])] 2000 r (by kernel_rfl) (an ((by have k := viewPlace f.owned.view m.src (by exact hbv); rw [h1] at k; exact k) : Con Try.prog 28 [.ag [.u f.owned.view.id.round, .z f.owned.view.id.server.node, .u f.owned.view.id.server.inc, .d (.ro 2 (procs f.owned.view.members)), .d (.ro 1 (nums f.owned.view.starts))], .ag [.z m.src.node, .u m.src.inc]] (.tu [.n (placeN f.owned.view.members m.src), .v (.bool false)])) (an ((by first | exact ind_v _ | exact Ind.two _ _) : Ind (.tu [.n (placeN f.owned.view.members m.src), .v (.bool false)])) (an (rfD (.u f.owned.view.id.round)) (an (rfD (.z f.owned.view.id.server.node)) (an (rfD (.u f.owned.view.id.server.inc)) (an (rfN (2)) (an (rfN ((procs f.owned.view.members).length)) (an ((by first | exact froz_slots' _ | exact froz_slots _ | (simp [frozR_map, froz, Proc.row]; done)) : frozR (procs f.owned.view.members) = procs f.owned.view.members) (an (rfN (1)) (an (rfN ((nums f.owned.view.starts).length)) (an ((by first | exact froz_slots' _ | exact froz_slots _ | (simp [frozR_map, froz, Proc.row]; done)) : frozR (nums f.owned.view.starts) = nums f.owned.view.starts) (an (rfD (.z m.src.node)) (an (rfD (.u m.src.inc)) (an (rfN ((procs f.owned.view.members).length)) (an (rfN ((nums f.owned.view.starts).length)) (an ((by simp <;> omega) : ((streamsO f.owned.streams).length) = (streams f.owned.streams).length) (an (rfN ((nums f.owned.handed).length)) trivial)))))))))))))))))
    | true =>
      have hpl := placeN_lt (l := f.owned.view.members) (p := m.src) (by assumption)
      obtain ⟨e_9e6b8, ge_9e6b8⟩ : ∃ x, f.owned.streams[placeN f.owned.view.members m.src]? = some x := ⟨_, List.getElem?_eq_getElem (by omega)⟩
      have be_9e6b8 := hbo.at ge_9e6b8
      have ce_9e6b8 := be_9e6b8.1
      obtain ⟨e_e02e2, ge_e02e2⟩ : ∃ x, f.owned.handed[placeN f.owned.view.members m.src]? = some x := ⟨_, List.getElem?_eq_getElem (by omega)⟩
      obtain ⟨gd, -⟩ := Flow.owned_ok ge_9e6b8 ge_e02e2
      have hfl := fromN_le e_9e6b8 m.n
      cases h2 : (decide ((((m.n : Nat) : Int) : Int) < 1)) with
      | false =>
        have qh2 := of_decide_eq_false h2
        cases h3 : (decide ((16 : Int) < ((m.n : Nat) : Int))) with
        | false =>
          have qh3 := of_decide_eq_false h3
          cases h4 : (decide ((64 : Int) < ((m.body.length : Nat) : Int))) with
          | false =>
            have qh4 := of_decide_eq_false h4
            refine toAt (todo' := aft Try.f9 5) (E' := [(3, .pt 1 0), (4, .pt 2 0), (5, .d (.v (.bool false))), (6, .pt 7 0), (7, .n (placeN f.owned.view.members m.src)), (9, .d (.ro 2 (slots e_9e6b8)))]) (M' := [.bx 33 [.u f.view.id.round, .z f.view.id.server.node, .u f.view.id.server.inc, .d (.ro 2 (procs f.view.members)), .d (.ro 1 (nums f.view.starts)), .d (.ro 1 (streams f.streams)), .d (.ro 1 (nums f.handed))], .bx 36 [.z m.src.node, .u m.src.inc, .u m.n, .d (.ro 1 (bytesR m.body))], .bx 33 [.d (.v (.int .u64 0)), .z 0, .d (.v (.int .u64 0)), .d (.v (.slice none 0 0)), .d (.v (.slice none 0 0)), .d (.v (.slice none 0 0)), .d (.v (.slice none 0 0))], .rw 24 2 (procs f.owned.view.members), .rw 22 1 (nums f.owned.view.starts), .rw 67 1 (streams f.owned.streams), .rw 22 1 (nums f.owned.handed), .bx 72 [.u f.owned.view.id.round, .z f.owned.view.id.server.node, .u f.owned.view.id.server.inc, .sl 3 ((procs f.owned.view.members).length), .sl 4 ((nums f.owned.view.starts).length), .sl 5 ((streamsO f.owned.streams).length), .sl 6 ((nums f.owned.handed).length)]]) tb_ok mixed_ok hK [(2, [(5, .call [.ag [.u f.owned.view.id.round, .z f.owned.view.id.server.node, .u f.owned.view.id.server.inc, .d (.ro 2 (procs f.owned.view.members)), .d (.ro 1 (nums f.owned.view.starts))], .ag [.z m.src.node, .u m.src.inc]] (.tu [.n (placeN f.owned.view.members m.src), .v (.bool true)]))]), (3, [(5, .b false), (10, .b false), (15, .z (((m.body.length : Nat) : Int))), (16, .b false)]), (5, [(4, .n (placeN f.owned.view.members m.src)), (6, .ix 0 [.ro 2 (slots e_9e6b8)])])] 9 [0, 1, 2, 3, 4, 5, 6, 7] [3, 4, 5, 6, 7, 9] r (by kernel_rfl) (an ((by have k := viewPlace f.owned.view m.src (by exact hbv); rw [h1] at k; exact k) : Con Try.prog 28 [.ag [.u f.owned.view.id.round, .z f.owned.view.id.server.node, .u f.owned.view.id.server.inc, .d (.ro 2 (procs f.owned.view.members)), .d (.ro 1 (nums f.owned.view.starts))], .ag [.z m.src.node, .u m.src.inc]] (.tu [.n (placeN f.owned.view.members m.src), .v (.bool true)])) (an ((by first | exact ind_v _ | exact Ind.two _ _) : Ind (.tu [.n (placeN f.owned.view.members m.src), .v (.bool true)])) (an (rfD (.u f.owned.view.id.round)) (an (rfD (.z f.owned.view.id.server.node)) (an (rfD (.u f.owned.view.id.server.inc)) (an (rfN (2)) (an (rfN ((procs f.owned.view.members).length)) (an ((by first | exact froz_slots' _ | exact froz_slots _ | (simp [frozR_map, froz, Proc.row]; done)) : frozR (procs f.owned.view.members) = procs f.owned.view.members) (an (rfN (1)) (an (rfN ((nums f.owned.view.starts).length)) (an ((by first | exact froz_slots' _ | exact froz_slots _ | (simp [frozR_map, froz, Proc.row]; done)) : frozR (nums f.owned.view.starts) = nums f.owned.view.starts) (an (rfD (.z m.src.node)) (an (rfD (.u m.src.inc)) (an h2 (an h3 (an ((by simp [bytesR]) : (((bytesR m.body).length : Nat) : Int) = ((m.body.length : Nat) : Int)) (an h4 (an (rfI ((placeN f.owned.view.members m.src : Nat) : Int)) (an ((by first | omega | (simp; omega)) : (placeN f.owned.view.members m.src) < ((streamsO f.owned.streams).length)) (an ((by simp <;> omega) : ((streamsO f.owned.streams).length) ≤ (streams f.owned.streams).length) (an (streams_at ge_9e6b8) trivial))))))))))))))))))))) fun ac wd r => ?_
            have r := r.freeze (M1 := [.bx 33 [.u f.view.id.round, .z f.view.id.server.node, .u f.view.id.server.inc, .d (.ro 2 (procs f.view.members)), .d (.ro 1 (nums f.view.starts)), .d (.ro 1 (streams f.streams)), .d (.ro 1 (nums f.handed))], .bx 36 [.z m.src.node, .u m.src.inc, .u m.n, .d (.ro 1 (bytesR m.body))], .bx 33 [.d (.v (.int .u64 0)), .z 0, .d (.v (.int .u64 0)), .d (.v (.slice none 0 0)), .d (.v (.slice none 0 0)), .d (.v (.slice none 0 0)), .d (.v (.slice none 0 0))], .rw 24 2 (procs f.owned.view.members), .rw 22 1 (nums f.owned.view.starts), .rw 67 1 (streams f.owned.streams), .rw 22 1 (nums f.owned.handed), .bx 72 [.u f.owned.view.id.round, .z f.owned.view.id.server.node, .u f.owned.view.id.server.inc, .sl 3 ((procs f.owned.view.members).length), .sl 4 ((nums f.owned.view.starts).length), .sl 5 ((streamsO f.owned.streams).length), .sl 6 ((nums f.owned.handed).length)]]) (M2 := [.bx 33 [.u f.view.id.round, .z f.view.id.server.node, .u f.view.id.server.inc, .d (.ro 2 (procs f.view.members)), .d (.ro 1 (nums f.view.starts)), .d (.ro 1 (streams f.streams)), .d (.ro 1 (nums f.handed))], .bx 36 [.z m.src.node, .u m.src.inc, .u m.n, .d (.ro 1 (bytesR m.body))], .bx 33 [.d (.v (.int .u64 0)), .z 0, .d (.v (.int .u64 0)), .d (.v (.slice none 0 0)), .d (.v (.slice none 0 0)), .d (.v (.slice none 0 0)), .d (.v (.slice none 0 0))], .rw 24 2 (procs f.owned.view.members), .rw 22 1 (nums f.owned.view.starts), .rw 67 1 (streams f.owned.streams), .rw 22 1 (nums f.owned.handed), .bx 72 [.u f.owned.view.id.round, .z f.owned.view.id.server.node, .u f.owned.view.id.server.inc, .sl 3 ((procs f.owned.view.members).length), .sl 4 ((nums f.owned.view.starts).length), .sl 5 ((streamsO f.owned.streams).length), .sl 6 ((nums f.owned.handed).length)]]) [] (by kernel_rfl) rfl
            cases h5 : (decide ((((fromN e_9e6b8 m.n : Nat) : Int) : Int) < ((e_9e6b8.length : Nat) : Int))) with
            | false =>
              have qh5 := of_decide_eq_false h5
              exact absurd (⟨by assumption, by omega, by omega, by omega, by rw [streamAt_get ge_9e6b8]; exact find_no gd fun x hx => by first | (have := (List.getElem?_eq_some_iff.1 hx).1; omega) | (rw [ge_5e988] at hx; cases hx; omega)⟩ : f.owned.takes m) (by assumption)
            | true =>
              have qh5 := of_decide_eq_true h5
              obtain ⟨e_5e988, ge_5e988⟩ : ∃ x, e_9e6b8[fromN e_9e6b8 m.n]? = some x := ⟨_, List.getElem?_eq_getElem (by omega)⟩
              cases h6 : ((((e_5e988.n : Nat) : Int) : Int) == ((m.n : Nat) : Int)) with
              | false =>
                have qh6 := ne_of_beq_false h6
                exact absurd (⟨by assumption, by omega, by omega, by omega, by rw [streamAt_get ge_9e6b8]; exact find_no gd fun x hx => by first | (have := (List.getElem?_eq_some_iff.1 hx).1; omega) | (rw [ge_5e988] at hx; cases hx; omega)⟩ : f.owned.takes m) (by assumption)
              | true =>
                have qh6 := eq_of_beq h6
                rw [show (.tu [.ag (f.owned.take m).half, .v (.bool (decide (f.owned.takes m)))] : DV) = .tu [.ag [.u f.owned.view.id.round, .z f.owned.view.id.server.node, .u f.owned.view.id.server.inc, .em 24 2 (procs f.owned.view.members), .em 22 1 (nums f.owned.view.starts), .em 67 1 (streams f.owned.streams), .em 22 1 (nums f.owned.handed)], .v (.bool false)] from (by first | (rw [Flow.take_no qh0, decide_eq_false qh0]; rfl) | (rw [Flow.take_yes qh0, decide_eq_true qh0]; unfold Flow.put; rw [streamAt_get ge_9e6b8]; rfl))]
                exact toRet tb_ok mixed_ok hK rfl [(6, [(2, .call [.d (.ro 2 (slots e_9e6b8)), .fn 30 [.rp [.z m.src.node, .u m.src.inc, .u m.n, .ro 1 (bytesR m.body)] 0]] (.n (fromN e_9e6b8 m.n)))]), (7, [(2, .z (((e_9e6b8.length : Nat) : Int))), (3, .b true), (7, .ix (fromN e_9e6b8 m.n) [.u e_5e988.n, .ro 1 (bytesR e_5e988.body)]), (12, .b true)])] 2000 r (by kernel_rfl) (an (placeFromC e_9e6b8 m (by omega)) (an ((by first | exact ind_v _ | exact Ind.two _ _) : Ind (.n (fromN e_9e6b8 m.n))) (an (rfD (.ro 2 (slots e_9e6b8))) (an (rfN (30)) (an (rfN (0)) (an (rfl : [.z m.src.node, .u m.src.inc, .u m.n, .d (.ro 1 (bytesR m.body))] = List.map AV.d [.z m.src.node, .u m.src.inc, .u m.n, .ro 1 (bytesR m.body)]) (an ((by simp [bytesR]) : (((slots e_9e6b8).length : Nat) : Int) = ((e_9e6b8.length : Nat) : Int)) (an h5 (an (rfI ((fromN e_9e6b8 m.n : Nat) : Int)) (an (slots_at ge_5e988) (an h6 (an (rfN ((procs f.owned.view.members).length)) (an (rfN ((nums f.owned.view.starts).length)) (an ((by simp <;> omega) : ((streamsO f.owned.streams).length) = (streams f.owned.streams).length) (an (rfN ((nums f.owned.handed).length)) trivial)))))))))))))))
          | true =>
            have qh4 := of_decide_eq_true h4
            rw [show (.tu [.ag (f.owned.take m).half, .v (.bool (decide (f.owned.takes m)))] : DV) = .tu [.ag [.u f.owned.view.id.round, .z f.owned.view.id.server.node, .u f.owned.view.id.server.inc, .em 24 2 (procs f.owned.view.members), .em 22 1 (nums f.owned.view.starts), .em 67 1 (streams f.owned.streams), .em 22 1 (nums f.owned.handed)], .v (.bool false)] from (by first | (rw [Flow.take_no qh0, decide_eq_false qh0]; rfl) | (rw [Flow.take_yes qh0, decide_eq_true qh0]; unfold Flow.put; rw [streamAt_get ge_9e6b8]; rfl))]
            exact toRet tb_ok mixed_ok hK rfl [(2, [(5, .call [.ag [.u f.owned.view.id.round, .z f.owned.view.id.server.node, .u f.owned.view.id.server.inc, .d (.ro 2 (procs f.owned.view.members)), .d (.ro 1 (nums f.owned.view.starts))], .ag [.z m.src.node, .u m.src.inc]] (.tu [.n (placeN f.owned.view.members m.src), .v (.bool true)]))]), (3, [(5, .b false), (10, .b false), (15, .z (((m.body.length : Nat) : Int))), (16, .b true)])] 2000 r (by kernel_rfl) (an ((by have k := viewPlace f.owned.view m.src (by exact hbv); rw [h1] at k; exact k) : Con Try.prog 28 [.ag [.u f.owned.view.id.round, .z f.owned.view.id.server.node, .u f.owned.view.id.server.inc, .d (.ro 2 (procs f.owned.view.members)), .d (.ro 1 (nums f.owned.view.starts))], .ag [.z m.src.node, .u m.src.inc]] (.tu [.n (placeN f.owned.view.members m.src), .v (.bool true)])) (an ((by first | exact ind_v _ | exact Ind.two _ _) : Ind (.tu [.n (placeN f.owned.view.members m.src), .v (.bool true)])) (an (rfD (.u f.owned.view.id.round)) (an (rfD (.z f.owned.view.id.server.node)) (an (rfD (.u f.owned.view.id.server.inc)) (an (rfN (2)) (an (rfN ((procs f.owned.view.members).length)) (an ((by first | exact froz_slots' _ | exact froz_slots _ | (simp [frozR_map, froz, Proc.row]; done)) : frozR (procs f.owned.view.members) = procs f.owned.view.members) (an (rfN (1)) (an (rfN ((nums f.owned.view.starts).length)) (an ((by first | exact froz_slots' _ | exact froz_slots _ | (simp [frozR_map, froz, Proc.row]; done)) : frozR (nums f.owned.view.starts) = nums f.owned.view.starts) (an (rfD (.z m.src.node)) (an (rfD (.u m.src.inc)) (an h2 (an h3 (an ((by simp [bytesR]) : (((bytesR m.body).length : Nat) : Int) = ((m.body.length : Nat) : Int)) (an h4 (an (rfN ((procs f.owned.view.members).length)) (an (rfN ((nums f.owned.view.starts).length)) (an ((by simp <;> omega) : ((streamsO f.owned.streams).length) = (streams f.owned.streams).length) (an (rfN ((nums f.owned.handed).length)) trivial)))))))))))))))))))))
        | true =>
          have qh3 := of_decide_eq_true h3
          rw [show (.tu [.ag (f.owned.take m).half, .v (.bool (decide (f.owned.takes m)))] : DV) = .tu [.ag [.u f.owned.view.id.round, .z f.owned.view.id.server.node, .u f.owned.view.id.server.inc, .em 24 2 (procs f.owned.view.members), .em 22 1 (nums f.owned.view.starts), .em 67 1 (streams f.owned.streams), .em 22 1 (nums f.owned.handed)], .v (.bool false)] from (by first | (rw [Flow.take_no qh0, decide_eq_false qh0]; rfl) | (rw [Flow.take_yes qh0, decide_eq_true qh0]; unfold Flow.put; rw [streamAt_get ge_9e6b8]; rfl))]
          exact toRet tb_ok mixed_ok hK rfl [(2, [(5, .call [.ag [.u f.owned.view.id.round, .z f.owned.view.id.server.node, .u f.owned.view.id.server.inc, .d (.ro 2 (procs f.owned.view.members)), .d (.ro 1 (nums f.owned.view.starts))], .ag [.z m.src.node, .u m.src.inc]] (.tu [.n (placeN f.owned.view.members m.src), .v (.bool true)]))]), (3, [(5, .b false), (10, .b true)])] 2000 r (by kernel_rfl) (an ((by have k := viewPlace f.owned.view m.src (by exact hbv); rw [h1] at k; exact k) : Con Try.prog 28 [.ag [.u f.owned.view.id.round, .z f.owned.view.id.server.node, .u f.owned.view.id.server.inc, .d (.ro 2 (procs f.owned.view.members)), .d (.ro 1 (nums f.owned.view.starts))], .ag [.z m.src.node, .u m.src.inc]] (.tu [.n (placeN f.owned.view.members m.src), .v (.bool true)])) (an ((by first | exact ind_v _ | exact Ind.two _ _) : Ind (.tu [.n (placeN f.owned.view.members m.src), .v (.bool true)])) (an (rfD (.u f.owned.view.id.round)) (an (rfD (.z f.owned.view.id.server.node)) (an (rfD (.u f.owned.view.id.server.inc)) (an (rfN (2)) (an (rfN ((procs f.owned.view.members).length)) (an ((by first | exact froz_slots' _ | exact froz_slots _ | (simp [frozR_map, froz, Proc.row]; done)) : frozR (procs f.owned.view.members) = procs f.owned.view.members) (an (rfN (1)) (an (rfN ((nums f.owned.view.starts).length)) (an ((by first | exact froz_slots' _ | exact froz_slots _ | (simp [frozR_map, froz, Proc.row]; done)) : frozR (nums f.owned.view.starts) = nums f.owned.view.starts) (an (rfD (.z m.src.node)) (an (rfD (.u m.src.inc)) (an h2 (an h3 (an (rfN ((procs f.owned.view.members).length)) (an (rfN ((nums f.owned.view.starts).length)) (an ((by simp <;> omega) : ((streamsO f.owned.streams).length) = (streams f.owned.streams).length) (an (rfN ((nums f.owned.handed).length)) trivial)))))))))))))))))))
      | true =>
        have qh2 := of_decide_eq_true h2
        rw [show (.tu [.ag (f.owned.take m).half, .v (.bool (decide (f.owned.takes m)))] : DV) = .tu [.ag [.u f.owned.view.id.round, .z f.owned.view.id.server.node, .u f.owned.view.id.server.inc, .em 24 2 (procs f.owned.view.members), .em 22 1 (nums f.owned.view.starts), .em 67 1 (streams f.owned.streams), .em 22 1 (nums f.owned.handed)], .v (.bool false)] from (by first | (rw [Flow.take_no qh0, decide_eq_false qh0]; rfl) | (rw [Flow.take_yes qh0, decide_eq_true qh0]; unfold Flow.put; rw [streamAt_get ge_9e6b8]; rfl))]
        exact toRet tb_ok mixed_ok hK rfl [(2, [(5, .call [.ag [.u f.owned.view.id.round, .z f.owned.view.id.server.node, .u f.owned.view.id.server.inc, .d (.ro 2 (procs f.owned.view.members)), .d (.ro 1 (nums f.owned.view.starts))], .ag [.z m.src.node, .u m.src.inc]] (.tu [.n (placeN f.owned.view.members m.src), .v (.bool true)]))]), (3, [(5, .b true)])] 2000 r (by kernel_rfl) (an ((by have k := viewPlace f.owned.view m.src (by exact hbv); rw [h1] at k; exact k) : Con Try.prog 28 [.ag [.u f.owned.view.id.round, .z f.owned.view.id.server.node, .u f.owned.view.id.server.inc, .d (.ro 2 (procs f.owned.view.members)), .d (.ro 1 (nums f.owned.view.starts))], .ag [.z m.src.node, .u m.src.inc]] (.tu [.n (placeN f.owned.view.members m.src), .v (.bool true)])) (an ((by first | exact ind_v _ | exact Ind.two _ _) : Ind (.tu [.n (placeN f.owned.view.members m.src), .v (.bool true)])) (an (rfD (.u f.owned.view.id.round)) (an (rfD (.z f.owned.view.id.server.node)) (an (rfD (.u f.owned.view.id.server.inc)) (an (rfN (2)) (an (rfN ((procs f.owned.view.members).length)) (an ((by first | exact froz_slots' _ | exact froz_slots _ | (simp [frozR_map, froz, Proc.row]; done)) : frozR (procs f.owned.view.members) = procs f.owned.view.members) (an (rfN (1)) (an (rfN ((nums f.owned.view.starts).length)) (an ((by first | exact froz_slots' _ | exact froz_slots _ | (simp [frozR_map, froz, Proc.row]; done)) : frozR (nums f.owned.view.starts) = nums f.owned.view.starts) (an (rfD (.z m.src.node)) (an (rfD (.u m.src.inc)) (an h2 (an (rfN ((procs f.owned.view.members).length)) (an (rfN ((nums f.owned.view.starts).length)) (an ((by simp <;> omega) : ((streamsO f.owned.streams).length) = (streams f.owned.streams).length) (an (rfN ((nums f.owned.handed).length)) trivial))))))))))))))))))
  | true =>
    have qh0 : f.owned.takes m := Flow.takesB_t (by assumption)
    obtain ⟨ht1, ht2, ht3, ht4, ht5⟩ := id qh0
    refine toAt (todo' := aft Try.f9 1) (E' := [(3, .pt 1 0), (4, .pt 2 0), (5, .d (.v (.bool false))), (6, .pt 7 0)]) (M' := [.bx 33 [.u f.view.id.round, .z f.view.id.server.node, .u f.view.id.server.inc, .d (.ro 2 (procs f.view.members)), .d (.ro 1 (nums f.view.starts)), .d (.ro 1 (streams f.streams)), .d (.ro 1 (nums f.handed))], .bx 36 [.z m.src.node, .u m.src.inc, .u m.n, .d (.ro 1 (bytesR m.body))], .bx 33 [.d (.v (.int .u64 0)), .z 0, .d (.v (.int .u64 0)), .d (.v (.slice none 0 0)), .d (.v (.slice none 0 0)), .d (.v (.slice none 0 0)), .d (.v (.slice none 0 0))], .rw 24 2 (procs f.owned.view.members), .rw 22 1 (nums f.owned.view.starts), .rw 67 1 (streamsO f.owned.streams), .rw 22 1 (nums f.owned.handed), .bx 72 [.u f.owned.view.id.round, .z f.owned.view.id.server.node, .u f.owned.view.id.server.inc, .sl 3 ((procs f.owned.view.members).length), .sl 4 ((nums f.owned.view.starts).length), .sl 5 ((streamsO f.owned.streams).length), .sl 6 ((nums f.owned.handed).length)]]) tb_ok mixed_ok hK [(1, [(1, .con (.ag [.u f.owned.view.id.round, .z f.owned.view.id.server.node, .u f.owned.view.id.server.inc, .em 24 2 (procs f.owned.view.members), .em 22 1 (nums f.owned.view.starts), .em 67 1 (streamsO f.owned.streams), .em 22 1 (nums f.owned.handed)]))])] 4 [0, 1, 2, 3, 4, 5, 6, 7] [3, 4, 5, 6] r (by kernel_rfl) (an (workOk hV f (by assumption)) trivial) fun ac wd r => ?_
    have r := r.freeze (M1 := [.bx 33 [.u f.view.id.round, .z f.view.id.server.node, .u f.view.id.server.inc, .d (.ro 2 (procs f.view.members)), .d (.ro 1 (nums f.view.starts)), .d (.ro 1 (streams f.streams)), .d (.ro 1 (nums f.handed))], .bx 36 [.z m.src.node, .u m.src.inc, .u m.n, .d (.ro 1 (bytesR m.body))], .bx 33 [.d (.v (.int .u64 0)), .z 0, .d (.v (.int .u64 0)), .d (.v (.slice none 0 0)), .d (.v (.slice none 0 0)), .d (.v (.slice none 0 0)), .d (.v (.slice none 0 0))], .rw 24 2 (procs f.owned.view.members), .rw 22 1 (nums f.owned.view.starts), .rw 67 1 (streamsO f.owned.streams), .rw 22 1 (nums f.owned.handed), .bx 72 [.u f.owned.view.id.round, .z f.owned.view.id.server.node, .u f.owned.view.id.server.inc, .sl 3 ((procs f.owned.view.members).length), .sl 4 ((nums f.owned.view.starts).length), .sl 5 ((streamsO f.owned.streams).length), .sl 6 ((nums f.owned.handed).length)]]) (M2 := [.bx 33 [.u f.view.id.round, .z f.view.id.server.node, .u f.view.id.server.inc, .d (.ro 2 (procs f.view.members)), .d (.ro 1 (nums f.view.starts)), .d (.ro 1 (streams f.streams)), .d (.ro 1 (nums f.handed))], .bx 36 [.z m.src.node, .u m.src.inc, .u m.n, .d (.ro 1 (bytesR m.body))], .bx 33 [.d (.v (.int .u64 0)), .z 0, .d (.v (.int .u64 0)), .d (.v (.slice none 0 0)), .d (.v (.slice none 0 0)), .d (.v (.slice none 0 0)), .d (.v (.slice none 0 0))], .rw 24 2 (procs f.owned.view.members), .rw 22 1 (nums f.owned.view.starts), .rw 67 1 (streamsO f.owned.streams), .rw 22 1 (nums f.owned.handed), .bx 72 [.u f.owned.view.id.round, .z f.owned.view.id.server.node, .u f.owned.view.id.server.inc, .sl 3 ((procs f.owned.view.members).length), .sl 4 ((nums f.owned.view.starts).length), .sl 5 ((streamsO f.owned.streams).length), .sl 6 ((nums f.owned.handed).length)]]) [] (by kernel_rfl) rfl
    cases h7 : (placeB f.owned.view.members m.src) with
    | false =>
      exact absurd (by assumption) (Flow.no_takes (by first | exact .inl (by assumption) | exact .inr (.inl (by omega)) | exact .inr (.inr (.inl (by omega))) | exact .inr (.inr (.inr (.inl (by omega)))) | exact .inr (.inr (.inr (.inr ⟨_, ge_9e6b8, by have k := findS_of ge_5e988; rw [show e_5e988.n = m.n by omega] at k; exact k⟩)))))
    | true =>
      have hpl := placeN_lt (l := f.owned.view.members) (p := m.src) (by assumption)
      obtain ⟨e_9e6b8, ge_9e6b8⟩ : ∃ x, f.owned.streams[placeN f.owned.view.members m.src]? = some x := ⟨_, List.getElem?_eq_getElem (by omega)⟩
      have be_9e6b8 := hbo.at ge_9e6b8
      have ce_9e6b8 := be_9e6b8.1
      obtain ⟨e_e02e2, ge_e02e2⟩ : ∃ x, f.owned.handed[placeN f.owned.view.members m.src]? = some x := ⟨_, List.getElem?_eq_getElem (by omega)⟩
      obtain ⟨gd, -⟩ := Flow.owned_ok ge_9e6b8 ge_e02e2
      have hfl := fromN_le e_9e6b8 m.n
      cases h8 : (decide ((((m.n : Nat) : Int) : Int) < 1)) with
      | false =>
        have qh8 := of_decide_eq_false h8
        cases h9 : (decide ((16 : Int) < ((m.n : Nat) : Int))) with
        | false =>
          have qh9 := of_decide_eq_false h9
          cases h10 : (decide ((64 : Int) < ((m.body.length : Nat) : Int))) with
          | false =>
            have qh10 := of_decide_eq_false h10
            refine toAt (todo' := aft Try.f9 5) (E' := [(3, .pt 1 0), (4, .pt 2 0), (5, .d (.v (.bool false))), (6, .pt 7 0), (7, .n (placeN f.owned.view.members m.src)), (9, .sl 8 ((slotsO e_9e6b8).length))]) (M' := [.bx 33 [.u f.view.id.round, .z f.view.id.server.node, .u f.view.id.server.inc, .d (.ro 2 (procs f.view.members)), .d (.ro 1 (nums f.view.starts)), .d (.ro 1 (streams f.streams)), .d (.ro 1 (nums f.handed))], .bx 36 [.z m.src.node, .u m.src.inc, .u m.n, .d (.ro 1 (bytesR m.body))], .bx 33 [.d (.v (.int .u64 0)), .z 0, .d (.v (.int .u64 0)), .d (.v (.slice none 0 0)), .d (.v (.slice none 0 0)), .d (.v (.slice none 0 0)), .d (.v (.slice none 0 0))], .rw 24 2 (procs f.owned.view.members), .rw 22 1 (nums f.owned.view.starts), .rw 67 1 (List.set (streamsO f.owned.streams) (placeN f.owned.view.members m.src) [.jk]), .rw 22 1 (nums f.owned.handed), .bx 72 [.u f.owned.view.id.round, .z f.owned.view.id.server.node, .u f.owned.view.id.server.inc, .sl 3 ((procs f.owned.view.members).length), .sl 4 ((nums f.owned.view.starts).length), .sl 5 ((streamsO f.owned.streams).length), .sl 6 ((nums f.owned.handed).length)], .rw 69 2 (slotsO e_9e6b8)]) tb_ok mixed_ok hK [(2, [(5, .call [.ag [.u f.owned.view.id.round, .z f.owned.view.id.server.node, .u f.owned.view.id.server.inc, .d (.ro 2 (procs f.owned.view.members)), .d (.ro 1 (nums f.owned.view.starts))], .ag [.z m.src.node, .u m.src.inc]] (.tu [.n (placeN f.owned.view.members m.src), .v (.bool true)]))]), (3, [(5, .b false), (10, .b false), (15, .z (((m.body.length : Nat) : Int))), (16, .b false)]), (5, [(4, .n (placeN f.owned.view.members m.src)), (6, .ix 0 [.em 69 2 (slotsO e_9e6b8)])])] 9 [0, 1, 2, 3, 4, 5, 6, 7, 8] [3, 4, 5, 6, 7, 9] r (by kernel_rfl) (an ((by have k := viewPlace f.owned.view m.src (by exact hbv); rw [h7] at k; exact k) : Con Try.prog 28 [.ag [.u f.owned.view.id.round, .z f.owned.view.id.server.node, .u f.owned.view.id.server.inc, .d (.ro 2 (procs f.owned.view.members)), .d (.ro 1 (nums f.owned.view.starts))], .ag [.z m.src.node, .u m.src.inc]] (.tu [.n (placeN f.owned.view.members m.src), .v (.bool true)])) (an ((by first | exact ind_v _ | exact Ind.two _ _) : Ind (.tu [.n (placeN f.owned.view.members m.src), .v (.bool true)])) (an (rfD (.u f.owned.view.id.round)) (an (rfD (.z f.owned.view.id.server.node)) (an (rfD (.u f.owned.view.id.server.inc)) (an (rfN (2)) (an (rfN ((procs f.owned.view.members).length)) (an ((by first | exact froz_slots' _ | exact froz_slots _ | (simp [frozR_map, froz, Proc.row]; done)) : frozR (procs f.owned.view.members) = procs f.owned.view.members) (an (rfN (1)) (an (rfN ((nums f.owned.view.starts).length)) (an ((by first | exact froz_slots' _ | exact froz_slots _ | (simp [frozR_map, froz, Proc.row]; done)) : frozR (nums f.owned.view.starts) = nums f.owned.view.starts) (an (rfD (.z m.src.node)) (an (rfD (.u m.src.inc)) (an h8 (an h9 (an ((by simp [bytesR]) : (((bytesR m.body).length : Nat) : Int) = ((m.body.length : Nat) : Int)) (an h10 (an (rfI ((placeN f.owned.view.members m.src : Nat) : Int)) (an ((by first | omega | (simp; omega)) : (placeN f.owned.view.members m.src) < ((streamsO f.owned.streams).length)) (an ((by simp <;> omega) : ((streamsO f.owned.streams).length) ≤ (streamsO f.owned.streams).length) (an (streamsO_at ge_9e6b8) trivial))))))))))))))))))))) fun ac wd r => ?_
            have r := r.freeze (M1 := [.bx 33 [.u f.view.id.round, .z f.view.id.server.node, .u f.view.id.server.inc, .d (.ro 2 (procs f.view.members)), .d (.ro 1 (nums f.view.starts)), .d (.ro 1 (streams f.streams)), .d (.ro 1 (nums f.handed))], .bx 36 [.z m.src.node, .u m.src.inc, .u m.n, .d (.ro 1 (bytesR m.body))], .bx 33 [.d (.v (.int .u64 0)), .z 0, .d (.v (.int .u64 0)), .d (.v (.slice none 0 0)), .d (.v (.slice none 0 0)), .d (.v (.slice none 0 0)), .d (.v (.slice none 0 0))], .rw 24 2 (procs f.owned.view.members), .rw 22 1 (nums f.owned.view.starts), .rw 67 1 (List.set (streamsO f.owned.streams) (placeN f.owned.view.members m.src) [.jk]), .rw 22 1 (nums f.owned.handed), .bx 72 [.u f.owned.view.id.round, .z f.owned.view.id.server.node, .u f.owned.view.id.server.inc, .sl 3 ((procs f.owned.view.members).length), .sl 4 ((nums f.owned.view.starts).length), .sl 5 ((streamsO f.owned.streams).length), .sl 6 ((nums f.owned.handed).length)], .rw 69 2 (frozR (slotsO e_9e6b8))]) (M2 := [.bx 33 [.u f.view.id.round, .z f.view.id.server.node, .u f.view.id.server.inc, .d (.ro 2 (procs f.view.members)), .d (.ro 1 (nums f.view.starts)), .d (.ro 1 (streams f.streams)), .d (.ro 1 (nums f.handed))], .bx 36 [.z m.src.node, .u m.src.inc, .u m.n, .d (.ro 1 (bytesR m.body))], .bx 33 [.d (.v (.int .u64 0)), .z 0, .d (.v (.int .u64 0)), .d (.v (.slice none 0 0)), .d (.v (.slice none 0 0)), .d (.v (.slice none 0 0)), .d (.v (.slice none 0 0))], .rw 24 2 (procs f.owned.view.members), .rw 22 1 (nums f.owned.view.starts), .rw 67 1 (List.set (streamsO f.owned.streams) (placeN f.owned.view.members m.src) [.jk]), .rw 22 1 (nums f.owned.handed), .bx 72 [.u f.owned.view.id.round, .z f.owned.view.id.server.node, .u f.owned.view.id.server.inc, .sl 3 ((procs f.owned.view.members).length), .sl 4 ((nums f.owned.view.starts).length), .sl 5 ((streamsO f.owned.streams).length), .sl 6 ((nums f.owned.handed).length)], .rw 69 2 (slots e_9e6b8)]) [8] (by kernel_rfl) (by rw [froz_slots])
            cases h11 : (decide ((((fromN e_9e6b8 m.n : Nat) : Int) : Int) < ((e_9e6b8.length : Nat) : Int))) with
            | false =>
              have qh11 := of_decide_eq_false h11
              have v9_0 := (placeFromC e_9e6b8 m (by omega))
              have v9_1 := ((by first | exact ind_v _ | exact Ind.two _ _) : Ind (.n (fromN e_9e6b8 m.n)))
              have v9_2 := ((by simp <;> omega) : ((slotsO e_9e6b8).length) = (slots e_9e6b8).length)
              have v9_3 := ((by first | exact froz_slots' _ | exact froz_slots _ | (simp [frozR_map, froz, Proc.row]; done)) : frozR (slots e_9e6b8) = slots e_9e6b8)
              have v9_4 := (rfl : [.z m.src.node, .u m.src.inc, .u m.n, .d (.ro 1 (bytesR m.body))] = List.map AV.d [.z m.src.node, .u m.src.inc, .u m.n, .ro 1 (bytesR m.body)])
              have v9_5 := ((by simp [bytesR]) : (((slotsO e_9e6b8).length : Nat) : Int) = ((e_9e6b8.length : Nat) : Int))
              have v9_6 := (cloneBytes m.body (by omega))
              have v9_7 := (rfN ((bytesR m.body).length))
              have v9_8 := (hI (slots e_9e6b8) [.u m.n, .em 5 1 (bytesR m.body)] (fromN e_9e6b8 m.n) ((slotsO e_9e6b8).length) (by simp) (by simp; omega) (by simp; omega) (slots_two _) rfl (cp_slots _) (one_slots _) (by simp [OneR, AV.one, oneC]) : ConM Try.prog 31 [.sl 0 ((slotsO e_9e6b8).length), .n (fromN e_9e6b8 m.n), .sl 1 (1)] [.rw 69 2 (slots e_9e6b8), .rw 69 2 ([[.u m.n, .em 5 1 (bytesR m.body)]])] (.sl 2 ((slotsO e_9e6b8).length + 1)) [.dead, .dead, .rw 69 2 (List.take (fromN e_9e6b8 m.n) (slots e_9e6b8) ++ ([[.u m.n, .em 5 1 (bytesR m.body)]] ++ List.drop (fromN e_9e6b8 m.n) (slots e_9e6b8)))])
              have v9_9 := (rfI ((placeN f.owned.view.members m.src : Nat) : Int))
              have v9_10 := ((by first | omega | (simp; omega)) : (placeN f.owned.view.members m.src) < ((streamsO f.owned.streams).length))
              have v9_11 := ((by simp <;> omega) : ((streamsO f.owned.streams).length) ≤ (List.set (streamsO f.owned.streams) (placeN f.owned.view.members m.src) [.jk] : List (List DV)).length)
              have v9_12 := ((by rw [List.getElem?_set, if_pos rfl, if_pos (by rw [streamsO_len]; omega)]) : (List.set (streamsO f.owned.streams) (placeN f.owned.view.members m.src) [.jk])[placeN f.owned.view.members m.src]? = some [.jk])
              have v9_13 := ((by simp <;> omega) : ((slotsO e_9e6b8).length + 1) = (List.take (fromN e_9e6b8 m.n) (slots e_9e6b8) ++ ([[.u m.n, .em 5 1 (bytesR m.body)]] ++ List.drop (fromN e_9e6b8 m.n) (slots e_9e6b8)) : List (List DV)).length)
              refine toDraw (todo' := aft Try.f9 9) (E' := [(4, .pt 2 0), (5, .d (.v (.bool false))), (6, .pt 7 0)]) (M' := [.bx 33 [.u f.view.id.round, .z f.view.id.server.node, .u f.view.id.server.inc, .d (.ro 2 (procs f.view.members)), .d (.ro 1 (nums f.view.starts)), .d (.ro 1 (streams f.streams)), .d (.ro 1 (nums f.handed))], .bx 36 [.z m.src.node, .u m.src.inc, .u m.n, .d (.ro 1 (bytesR m.body))], .bx 33 [.d (.v (.int .u64 0)), .z 0, .d (.v (.int .u64 0)), .d (.v (.slice none 0 0)), .d (.v (.slice none 0 0)), .d (.v (.slice none 0 0)), .d (.v (.slice none 0 0))], .rw 24 2 (procs f.owned.view.members), .rw 22 1 (nums f.owned.view.starts), .rw 67 1 (List.set (List.set (streamsO f.owned.streams) (placeN f.owned.view.members m.src) [.jk]) (placeN f.owned.view.members m.src) [.em 69 2 (List.take (fromN e_9e6b8 m.n) (slots e_9e6b8) ++ ([[.u m.n, .em 5 1 (bytesR m.body)]] ++ List.drop (fromN e_9e6b8 m.n) (slots e_9e6b8)))]), .rw 22 1 (nums f.owned.handed), .bx 72 [.u f.owned.view.id.round, .z f.owned.view.id.server.node, .u f.owned.view.id.server.inc, .sl 3 ((procs f.owned.view.members).length), .sl 4 ((nums f.owned.view.starts).length), .sl 5 ((streamsO f.owned.streams).length), .sl 6 ((nums f.owned.handed).length)], .dead, .dead, .dead, .dead]) tb_ok mixed_ok hK [(6, [(2, .call [.d (.ro 2 (slots e_9e6b8)), .fn 30 [.rp [.z m.src.node, .u m.src.inc, .u m.n, .ro 1 (bytesR m.body)] 0]] (.n (fromN e_9e6b8 m.n)))]), (7, [(2, .z (((e_9e6b8.length : Nat) : Int))), (3, .b false)]), (9, [(10, .con (.em 5 1 (bytesR m.body))), (13, .mem [8, 10] (.sl 2 ((slotsO e_9e6b8).length + 1)) [.dead, .dead, .rw 69 2 (List.take (fromN e_9e6b8 m.n) (slots e_9e6b8) ++ ([[.u m.n, .em 5 1 (bytesR m.body)]] ++ List.drop (fromN e_9e6b8 m.n) (slots e_9e6b8)))]), (14, .n (placeN f.owned.view.members m.src)), (16, .ix 0 [.jk])])] 8 1 [14] [[0, 1, 2, 3, 4, 5, 6, 7, 8, 9, 10, 11]] [4, 5, 6] r (by kernel_rfl) (an (an v9_0 (an v9_1 (an (rfN (2)) (an v9_2 (an v9_3 (an (rfN (30)) (an (rfN (0)) (an v9_4 (an v9_5 (an h11 (an v9_6 (an v9_7 (an v9_8 (an v9_9 (an v9_10 (an v9_11 (an v9_12 (an v9_13 trivial)))))))))))))))))) trivial) fun ac wd r => ?_
              refine toAt (todo' := aft Try.f9 10) (E' := [(4, .pt 2 0), (5, .d (.v (.bool true)))]) (M' := [.bx 33 [.u f.view.id.round, .z f.view.id.server.node, .u f.view.id.server.inc, .d (.ro 2 (procs f.view.members)), .d (.ro 1 (nums f.view.starts)), .d (.ro 1 (streams f.streams)), .d (.ro 1 (nums f.handed))], .bx 36 [.z m.src.node, .u m.src.inc, .u m.n, .d (.ro 1 (bytesR m.body))], .bx 33 [.u f.owned.view.id.round, .z f.owned.view.id.server.node, .u f.owned.view.id.server.inc, .sl 3 ((procs f.owned.view.members).length), .sl 4 ((nums f.owned.view.starts).length), .sl 5 ((streamsO f.owned.streams).length), .sl 6 ((nums f.owned.handed).length)], .rw 24 2 (procs f.owned.view.members), .rw 22 1 (nums f.owned.view.starts), .rw 67 1 (List.set (List.set (streamsO f.owned.streams) (placeN f.owned.view.members m.src) [.jk]) (placeN f.owned.view.members m.src) [.em 69 2 (List.take (fromN e_9e6b8 m.n) (slots e_9e6b8) ++ ([[.u m.n, .em 5 1 (bytesR m.body)]] ++ List.drop (fromN e_9e6b8 m.n) (slots e_9e6b8)))]), .rw 22 1 (nums f.owned.handed), .bx 72 [.u f.owned.view.id.round, .z f.owned.view.id.server.node, .u f.owned.view.id.server.inc, .sl 3 ((procs f.owned.view.members).length), .sl 4 ((nums f.owned.view.starts).length), .sl 5 ((streamsO f.owned.streams).length), .sl 6 ((nums f.owned.handed).length)], .dead, .dead, .dead, .dead]) tb_ok mixed_ok hK [] 2 [0, 1, 2, 3, 4, 5, 6, 7, 8, 9, 10, 11] [4, 5] r (by kernel_rfl) trivial fun ac wd r => ?_
              have r := r.freeze (M1 := [.bx 33 [.u f.view.id.round, .z f.view.id.server.node, .u f.view.id.server.inc, .d (.ro 2 (procs f.view.members)), .d (.ro 1 (nums f.view.starts)), .d (.ro 1 (streams f.streams)), .d (.ro 1 (nums f.handed))], .bx 36 [.z m.src.node, .u m.src.inc, .u m.n, .d (.ro 1 (bytesR m.body))], .bx 33 [.u f.owned.view.id.round, .z f.owned.view.id.server.node, .u f.owned.view.id.server.inc, .sl 3 ((procs f.owned.view.members).length), .sl 4 ((nums f.owned.view.starts).length), .sl 5 ((streamsO f.owned.streams).length), .sl 6 ((nums f.owned.handed).length)], .rw 24 2 (procs f.owned.view.members), .rw 22 1 (nums f.owned.view.starts), .rw 67 1 (frozR (List.set (List.set (streamsO f.owned.streams) (placeN f.owned.view.members m.src) [.jk]) (placeN f.owned.view.members m.src) [.em 69 2 (List.take (fromN e_9e6b8 m.n) (slots e_9e6b8) ++ ([[.u m.n, .em 5 1 (bytesR m.body)]] ++ List.drop (fromN e_9e6b8 m.n) (slots e_9e6b8)))])), .rw 22 1 (nums f.owned.handed), .bx 72 [.u f.owned.view.id.round, .z f.owned.view.id.server.node, .u f.owned.view.id.server.inc, .sl 3 ((procs f.owned.view.members).length), .sl 4 ((nums f.owned.view.starts).length), .sl 5 ((streamsO f.owned.streams).length), .sl 6 ((nums f.owned.handed).length)], .dead, .dead, .dead, .dead]) (M2 := [.bx 33 [.u f.view.id.round, .z f.view.id.server.node, .u f.view.id.server.inc, .d (.ro 2 (procs f.view.members)), .d (.ro 1 (nums f.view.starts)), .d (.ro 1 (streams f.streams)), .d (.ro 1 (nums f.handed))], .bx 36 [.z m.src.node, .u m.src.inc, .u m.n, .d (.ro 1 (bytesR m.body))], .bx 33 [.u f.owned.view.id.round, .z f.owned.view.id.server.node, .u f.owned.view.id.server.inc, .sl 3 ((procs f.owned.view.members).length), .sl 4 ((nums f.owned.view.starts).length), .sl 5 ((streamsO f.owned.streams).length), .sl 6 ((nums f.owned.handed).length)], .rw 24 2 (procs f.owned.view.members), .rw 22 1 (nums f.owned.view.starts), .rw 67 1 (streams (f.owned.streams.set (placeN f.owned.view.members m.src) (insF e_9e6b8 m.n m.body))), .rw 22 1 (nums f.owned.handed), .bx 72 [.u f.owned.view.id.round, .z f.owned.view.id.server.node, .u f.owned.view.id.server.inc, .sl 3 ((procs f.owned.view.members).length), .sl 4 ((nums f.owned.view.starts).length), .sl 5 ((streamsO f.owned.streams).length), .sl 6 ((nums f.owned.handed).length)], .dead, .dead, .dead, .dead]) [5] (by kernel_rfl) (by rw [froz_put2 froz_new, insF_at (by have k := ht5; rw [streamAt_get ge_9e6b8] at k; exact k)])
              rw [show (.tu [.ag (f.owned.take m).half, .v (.bool (decide (f.owned.takes m)))] : DV) = .tu [.ag [.u f.owned.view.id.round, .z f.owned.view.id.server.node, .u f.owned.view.id.server.inc, .em 24 2 (procs f.owned.view.members), .em 22 1 (nums f.owned.view.starts), .em 67 1 (streams (f.owned.streams.set (placeN f.owned.view.members m.src) (insF e_9e6b8 m.n m.body))), .em 22 1 (nums f.owned.handed)], .v (.bool true)] from (by first | (rw [Flow.take_no qh0, decide_eq_false qh0]; rfl) | (rw [Flow.take_yes qh0, decide_eq_true qh0]; unfold Flow.put; rw [streamAt_get ge_9e6b8]; rfl))]
              exact toRet tb_ok mixed_ok hK rfl [] 2000 r (by kernel_rfl) (an (rfN ((procs f.owned.view.members).length)) (an (rfN ((nums f.owned.view.starts).length)) (an ((by simp <;> omega) : ((streamsO f.owned.streams).length) = (streams (f.owned.streams.set (placeN f.owned.view.members m.src) (insF e_9e6b8 m.n m.body))).length) (an (rfN ((nums f.owned.handed).length)) trivial))))
            | true =>
              have qh11 := of_decide_eq_true h11
              obtain ⟨e_5e988, ge_5e988⟩ : ∃ x, e_9e6b8[fromN e_9e6b8 m.n]? = some x := ⟨_, List.getElem?_eq_getElem (by omega)⟩
              cases h12 : ((((e_5e988.n : Nat) : Int) : Int) == ((m.n : Nat) : Int)) with
              | false =>
                have qh12 := ne_of_beq_false h12
                have v9_0 := (placeFromC e_9e6b8 m (by omega))
                have v9_1 := ((by first | exact ind_v _ | exact Ind.two _ _) : Ind (.n (fromN e_9e6b8 m.n)))
                have v9_2 := ((by simp <;> omega) : ((slotsO e_9e6b8).length) = (slots e_9e6b8).length)
                have v9_3 := ((by first | exact froz_slots' _ | exact froz_slots _ | (simp [frozR_map, froz, Proc.row]; done)) : frozR (slots e_9e6b8) = slots e_9e6b8)
                have v9_4 := (rfl : [.z m.src.node, .u m.src.inc, .u m.n, .d (.ro 1 (bytesR m.body))] = List.map AV.d [.z m.src.node, .u m.src.inc, .u m.n, .ro 1 (bytesR m.body)])
                have v9_5 := ((by simp [bytesR]) : (((slotsO e_9e6b8).length : Nat) : Int) = ((e_9e6b8.length : Nat) : Int))
                have v9_6 := (rfI ((fromN e_9e6b8 m.n : Nat) : Int))
                have v9_7 := ((by first | omega | (simp; omega)) : (fromN e_9e6b8 m.n) < ((slotsO e_9e6b8).length))
                have v9_8 := ((by simp <;> omega) : ((slotsO e_9e6b8).length) ≤ (slots e_9e6b8).length)
                have v9_9 := (cloneBytes m.body (by omega))
                have v9_10 := (rfN ((bytesR m.body).length))
                have v9_11 := (hI (slots e_9e6b8) [.u m.n, .em 5 1 (bytesR m.body)] (fromN e_9e6b8 m.n) ((slotsO e_9e6b8).length) (by simp) (by simp; omega) (by simp; omega) (slots_two _) rfl (cp_slots _) (one_slots _) (by simp [OneR, AV.one, oneC]) : ConM Try.prog 31 [.sl 0 ((slotsO e_9e6b8).length), .n (fromN e_9e6b8 m.n), .sl 1 (1)] [.rw 69 2 (slots e_9e6b8), .rw 69 2 ([[.u m.n, .em 5 1 (bytesR m.body)]])] (.sl 2 ((slotsO e_9e6b8).length + 1)) [.dead, .dead, .rw 69 2 (List.take (fromN e_9e6b8 m.n) (slots e_9e6b8) ++ ([[.u m.n, .em 5 1 (bytesR m.body)]] ++ List.drop (fromN e_9e6b8 m.n) (slots e_9e6b8)))])
                have v9_12 := (rfI ((placeN f.owned.view.members m.src : Nat) : Int))
                have v9_13 := ((by first | omega | (simp; omega)) : (placeN f.owned.view.members m.src) < ((streamsO f.owned.streams).length))
                have v9_14 := ((by simp <;> omega) : ((streamsO f.owned.streams).length) ≤ (List.set (streamsO f.owned.streams) (placeN f.owned.view.members m.src) [.jk] : List (List DV)).length)
                have v9_15 := ((by rw [List.getElem?_set, if_pos rfl, if_pos (by rw [streamsO_len]; omega)]) : (List.set (streamsO f.owned.streams) (placeN f.owned.view.members m.src) [.jk])[placeN f.owned.view.members m.src]? = some [.jk])
                have v9_16 := ((by simp <;> omega) : ((slotsO e_9e6b8).length + 1) = (List.take (fromN e_9e6b8 m.n) (slots e_9e6b8) ++ ([[.u m.n, .em 5 1 (bytesR m.body)]] ++ List.drop (fromN e_9e6b8 m.n) (slots e_9e6b8)) : List (List DV)).length)
                refine toDraw (todo' := aft Try.f9 9) (E' := [(4, .pt 2 0), (5, .d (.v (.bool false))), (6, .pt 7 0)]) (M' := [.bx 33 [.u f.view.id.round, .z f.view.id.server.node, .u f.view.id.server.inc, .d (.ro 2 (procs f.view.members)), .d (.ro 1 (nums f.view.starts)), .d (.ro 1 (streams f.streams)), .d (.ro 1 (nums f.handed))], .bx 36 [.z m.src.node, .u m.src.inc, .u m.n, .d (.ro 1 (bytesR m.body))], .bx 33 [.d (.v (.int .u64 0)), .z 0, .d (.v (.int .u64 0)), .d (.v (.slice none 0 0)), .d (.v (.slice none 0 0)), .d (.v (.slice none 0 0)), .d (.v (.slice none 0 0))], .rw 24 2 (procs f.owned.view.members), .rw 22 1 (nums f.owned.view.starts), .rw 67 1 (List.set (List.set (streamsO f.owned.streams) (placeN f.owned.view.members m.src) [.jk]) (placeN f.owned.view.members m.src) [.em 69 2 (List.take (fromN e_9e6b8 m.n) (slots e_9e6b8) ++ ([[.u m.n, .em 5 1 (bytesR m.body)]] ++ List.drop (fromN e_9e6b8 m.n) (slots e_9e6b8)))]), .rw 22 1 (nums f.owned.handed), .bx 72 [.u f.owned.view.id.round, .z f.owned.view.id.server.node, .u f.owned.view.id.server.inc, .sl 3 ((procs f.owned.view.members).length), .sl 4 ((nums f.owned.view.starts).length), .sl 5 ((streamsO f.owned.streams).length), .sl 6 ((nums f.owned.handed).length)], .dead, .dead, .dead, .dead]) tb_ok mixed_ok hK [(6, [(2, .call [.d (.ro 2 (slots e_9e6b8)), .fn 30 [.rp [.z m.src.node, .u m.src.inc, .u m.n, .ro 1 (bytesR m.body)] 0]] (.n (fromN e_9e6b8 m.n)))]), (7, [(2, .z (((e_9e6b8.length : Nat) : Int))), (3, .b true), (7, .n (fromN e_9e6b8 m.n)), (9, .ix 0 [.u e_5e988.n, .ro 1 (bytesR e_5e988.body)]), (12, .b false)]), (9, [(10, .con (.em 5 1 (bytesR m.body))), (13, .mem [8, 10] (.sl 2 ((slotsO e_9e6b8).length + 1)) [.dead, .dead, .rw 69 2 (List.take (fromN e_9e6b8 m.n) (slots e_9e6b8) ++ ([[.u m.n, .em 5 1 (bytesR m.body)]] ++ List.drop (fromN e_9e6b8 m.n) (slots e_9e6b8)))]), (14, .n (placeN f.owned.view.members m.src)), (16, .ix 0 [.jk])])] 8 1 [14] [[0, 1, 2, 3, 4, 5, 6, 7, 8, 9, 10, 11]] [4, 5, 6] r (by kernel_rfl) (an (an v9_0 (an v9_1 (an (rfN (2)) (an v9_2 (an v9_3 (an (rfN (30)) (an (rfN (0)) (an v9_4 (an v9_5 (an h11 (an v9_6 (an v9_7 (an v9_8 (an (slots_at ge_5e988) (an h12 (an v9_9 (an v9_10 (an v9_11 (an v9_12 (an v9_13 (an v9_14 (an v9_15 (an v9_16 trivial))))))))))))))))))))))) trivial) fun ac wd r => ?_
                refine toAt (todo' := aft Try.f9 10) (E' := [(4, .pt 2 0), (5, .d (.v (.bool true)))]) (M' := [.bx 33 [.u f.view.id.round, .z f.view.id.server.node, .u f.view.id.server.inc, .d (.ro 2 (procs f.view.members)), .d (.ro 1 (nums f.view.starts)), .d (.ro 1 (streams f.streams)), .d (.ro 1 (nums f.handed))], .bx 36 [.z m.src.node, .u m.src.inc, .u m.n, .d (.ro 1 (bytesR m.body))], .bx 33 [.u f.owned.view.id.round, .z f.owned.view.id.server.node, .u f.owned.view.id.server.inc, .sl 3 ((procs f.owned.view.members).length), .sl 4 ((nums f.owned.view.starts).length), .sl 5 ((streamsO f.owned.streams).length), .sl 6 ((nums f.owned.handed).length)], .rw 24 2 (procs f.owned.view.members), .rw 22 1 (nums f.owned.view.starts), .rw 67 1 (List.set (List.set (streamsO f.owned.streams) (placeN f.owned.view.members m.src) [.jk]) (placeN f.owned.view.members m.src) [.em 69 2 (List.take (fromN e_9e6b8 m.n) (slots e_9e6b8) ++ ([[.u m.n, .em 5 1 (bytesR m.body)]] ++ List.drop (fromN e_9e6b8 m.n) (slots e_9e6b8)))]), .rw 22 1 (nums f.owned.handed), .bx 72 [.u f.owned.view.id.round, .z f.owned.view.id.server.node, .u f.owned.view.id.server.inc, .sl 3 ((procs f.owned.view.members).length), .sl 4 ((nums f.owned.view.starts).length), .sl 5 ((streamsO f.owned.streams).length), .sl 6 ((nums f.owned.handed).length)], .dead, .dead, .dead, .dead]) tb_ok mixed_ok hK [] 2 [0, 1, 2, 3, 4, 5, 6, 7, 8, 9, 10, 11] [4, 5] r (by kernel_rfl) trivial fun ac wd r => ?_
                have r := r.freeze (M1 := [.bx 33 [.u f.view.id.round, .z f.view.id.server.node, .u f.view.id.server.inc, .d (.ro 2 (procs f.view.members)), .d (.ro 1 (nums f.view.starts)), .d (.ro 1 (streams f.streams)), .d (.ro 1 (nums f.handed))], .bx 36 [.z m.src.node, .u m.src.inc, .u m.n, .d (.ro 1 (bytesR m.body))], .bx 33 [.u f.owned.view.id.round, .z f.owned.view.id.server.node, .u f.owned.view.id.server.inc, .sl 3 ((procs f.owned.view.members).length), .sl 4 ((nums f.owned.view.starts).length), .sl 5 ((streamsO f.owned.streams).length), .sl 6 ((nums f.owned.handed).length)], .rw 24 2 (procs f.owned.view.members), .rw 22 1 (nums f.owned.view.starts), .rw 67 1 (frozR (List.set (List.set (streamsO f.owned.streams) (placeN f.owned.view.members m.src) [.jk]) (placeN f.owned.view.members m.src) [.em 69 2 (List.take (fromN e_9e6b8 m.n) (slots e_9e6b8) ++ ([[.u m.n, .em 5 1 (bytesR m.body)]] ++ List.drop (fromN e_9e6b8 m.n) (slots e_9e6b8)))])), .rw 22 1 (nums f.owned.handed), .bx 72 [.u f.owned.view.id.round, .z f.owned.view.id.server.node, .u f.owned.view.id.server.inc, .sl 3 ((procs f.owned.view.members).length), .sl 4 ((nums f.owned.view.starts).length), .sl 5 ((streamsO f.owned.streams).length), .sl 6 ((nums f.owned.handed).length)], .dead, .dead, .dead, .dead]) (M2 := [.bx 33 [.u f.view.id.round, .z f.view.id.server.node, .u f.view.id.server.inc, .d (.ro 2 (procs f.view.members)), .d (.ro 1 (nums f.view.starts)), .d (.ro 1 (streams f.streams)), .d (.ro 1 (nums f.handed))], .bx 36 [.z m.src.node, .u m.src.inc, .u m.n, .d (.ro 1 (bytesR m.body))], .bx 33 [.u f.owned.view.id.round, .z f.owned.view.id.server.node, .u f.owned.view.id.server.inc, .sl 3 ((procs f.owned.view.members).length), .sl 4 ((nums f.owned.view.starts).length), .sl 5 ((streamsO f.owned.streams).length), .sl 6 ((nums f.owned.handed).length)], .rw 24 2 (procs f.owned.view.members), .rw 22 1 (nums f.owned.view.starts), .rw 67 1 (streams (f.owned.streams.set (placeN f.owned.view.members m.src) (insF e_9e6b8 m.n m.body))), .rw 22 1 (nums f.owned.handed), .bx 72 [.u f.owned.view.id.round, .z f.owned.view.id.server.node, .u f.owned.view.id.server.inc, .sl 3 ((procs f.owned.view.members).length), .sl 4 ((nums f.owned.view.starts).length), .sl 5 ((streamsO f.owned.streams).length), .sl 6 ((nums f.owned.handed).length)], .dead, .dead, .dead, .dead]) [5] (by kernel_rfl) (by rw [froz_put2 froz_new, insF_at (by have k := ht5; rw [streamAt_get ge_9e6b8] at k; exact k)])
                rw [show (.tu [.ag (f.owned.take m).half, .v (.bool (decide (f.owned.takes m)))] : DV) = .tu [.ag [.u f.owned.view.id.round, .z f.owned.view.id.server.node, .u f.owned.view.id.server.inc, .em 24 2 (procs f.owned.view.members), .em 22 1 (nums f.owned.view.starts), .em 67 1 (streams (f.owned.streams.set (placeN f.owned.view.members m.src) (insF e_9e6b8 m.n m.body))), .em 22 1 (nums f.owned.handed)], .v (.bool true)] from (by first | (rw [Flow.take_no qh0, decide_eq_false qh0]; rfl) | (rw [Flow.take_yes qh0, decide_eq_true qh0]; unfold Flow.put; rw [streamAt_get ge_9e6b8]; rfl))]
                exact toRet tb_ok mixed_ok hK rfl [] 2000 r (by kernel_rfl) (an (rfN ((procs f.owned.view.members).length)) (an (rfN ((nums f.owned.view.starts).length)) (an ((by simp <;> omega) : ((streamsO f.owned.streams).length) = (streams (f.owned.streams.set (placeN f.owned.view.members m.src) (insF e_9e6b8 m.n m.body))).length) (an (rfN ((nums f.owned.handed).length)) trivial))))
              | true =>
                have qh12 := eq_of_beq h12
                exact absurd (by assumption) (Flow.no_takes (by first | exact .inl (by assumption) | exact .inr (.inl (by omega)) | exact .inr (.inr (.inl (by omega))) | exact .inr (.inr (.inr (.inl (by omega)))) | exact .inr (.inr (.inr (.inr ⟨_, ge_9e6b8, by have k := findS_of ge_5e988; rw [show e_5e988.n = m.n by omega] at k; exact k⟩)))))
          | true =>
            have qh10 := of_decide_eq_true h10
            exact absurd (by assumption) (Flow.no_takes (by first | exact .inl (by assumption) | exact .inr (.inl (by omega)) | exact .inr (.inr (.inl (by omega))) | exact .inr (.inr (.inr (.inl (by omega)))) | exact .inr (.inr (.inr (.inr ⟨_, ge_9e6b8, by have k := findS_of ge_5e988; rw [show e_5e988.n = m.n by omega] at k; exact k⟩)))))
        | true =>
          have qh9 := of_decide_eq_true h9
          exact absurd (by assumption) (Flow.no_takes (by first | exact .inl (by assumption) | exact .inr (.inl (by omega)) | exact .inr (.inr (.inl (by omega))) | exact .inr (.inr (.inr (.inl (by omega)))) | exact .inr (.inr (.inr (.inr ⟨_, ge_9e6b8, by have k := findS_of ge_5e988; rw [show e_5e988.n = m.n by omega] at k; exact k⟩)))))
      | true =>
        have qh8 := of_decide_eq_true h8
        exact absurd (by assumption) (Flow.no_takes (by first | exact .inl (by assumption) | exact .inr (.inl (by omega)) | exact .inr (.inr (.inl (by omega))) | exact .inr (.inr (.inr (.inl (by omega)))) | exact .inr (.inr (.inr (.inr ⟨_, ge_9e6b8, by have k := findS_of ge_5e988; rw [show e_5e988.n = m.n by omega] at k; exact k⟩)))))
end Go.Proofs.Ytoijfmfkkmbabaa
namespace Go.Proofs.Ytoijfmfkkmbabaa
open Go.RowKit
section
variable {P : Program} {ρ : Operand → Value} {w : World} {Φ : Value → World → Prop} {d : Option Tmp} {ty : TypeId} {pos : String} {aft : Array Edge} {gd : Option (Nat × Bool)} {x y : Operand} {st xt T size bytes : Nat} {z : Value}
theorem y_capS {t e n c : Nat} {a : Option Addr} (ht : P.underlying t = some (.slice e)) (hx : ρ x = .slice a n c) (hΦ : Φ (.int .i64 (c : Int)) w) : OpY P ⟨d, .call ⟨.builtin .cap, #[x], #[t]⟩, ty, pos, aft, gd⟩ ρ w Φ :=
  .pure (by
    have : (Builtin.cap_ #[t] ty #[.slice a n c]).run P w = .ok (.int .i64 (c : Int)) w := by
      unfold Builtin.cap_
      simp only [List.getElem?_toArray, List.getElem?_cons_zero, Sem.run_bind, run_underlying ht, Result.andThen_ok, Sem.run_pure]; rfl
    simp only [execOp, resolve, List.map_toArray, List.map, hx, Sem.run_bind, Sem.run_pure, Result.andThen_ok, invoke, builtin, this]) hΦ
theorem y_copyS {b o n c m : Nat} {u : Value} {X : List Value} {cs : Array Value} {T' : TypeId} (ok : AppOk P st T size bytes z) (hx : ρ x = .slice (some ⟨b, o, none⟩) n c) (hy : ρ y = u) (hu : Src w size u m X) {q : Nat} (hq0 : min m n = q) (hb : w.heap[b]? = some (.cells cs T' (0, 0))) (hl : o + q * size ≤ cs.size) (hone : ∀ v ∈ X.take (q * size), oneC v = true)
    (hΦ : Φ (.int .i64 (q : Int)) (setB w b (.cells (setCs cs o (X.take (q * size))) T' (0, 0)))) : OpY P ⟨d, .call ⟨.builtin .copy, #[x, y], #[st, xt]⟩, ty, pos, aft, gd⟩ ρ w Φ := by
  have hq : Nat.min m n = q := hq0
  have hqm : q ≤ m := by omega
  obtain ⟨hlen, hfirst⟩ := hu.pre (P := P) hqm
  have hsz : ∀ w : World, (sizeOf T).run P w = .ok size w := fun w => by obtain ⟨i, hi, h1, -⟩ := ok.info; simp [sizeOf, typeInfo, Sem.run_bind, hi, h1]
  have hlt : (X.take (q * size)).length = q * size := by rw [List.length_take, hu.1]; exact Nat.min_eq_left (Nat.mul_le_mul_right _ hqm)
  have hst := run_storeCells (P := P) (X.take (q * size)) w cs o 0 hb (by omega) hone
  rw [Nat.add_zero] at hst
  refine .pure ?_ hΦ
  simp only [execOp, resolve, List.map_toArray, List.map, hx, hy, Sem.run_bind, Sem.run_pure, Result.andThen_ok, invoke, builtin, Builtin.copy_, List.getElem?_toArray, List.getElem?_cons_zero, List.getElem?_cons_succ, run_underlying ok.hst, hlen, hq, hsz, hfirst, hst]
  rfl
theorem y_appendZ {b i cap k : Nat} {old : List Value} (ok : AppOk P st T size bytes z) {kk : IntKind} (hxt : P.underlying xt = some (.int kk)) (hx : ρ x = .slice (some ⟨b, 0, none⟩) i cap) (hy : ρ y = .int .i64 (k : Int)) (hcap : cap < i + k) (hold : ∀ j (hj : j < old.length), w.cell? ⟨b, j, none⟩ = some old[j]) (hol : old.length = i * size) (hroom : (2 * (i + k) + 192) * bytes ≤ 281474976710656) (hbig : i + k < 4611686018427387904)
    (hΦ : ∀ k' b' w', i + k ≤ k' → Gr w w' → NewF w w' [(b', .cells (old.toArray ++ Builtin.zeroCells z.cells k ++ Builtin.zeroCells z.cells (k' - (i + k))) T (0, 0))] → Φ (.slice (some ⟨b', 0, none⟩) (i + k) k') w') : OpY P ⟨d, .call ⟨.builtin .append, #[x, y], #[st, xt]⟩, ty, pos, aft, gd⟩ ρ w Φ := by
  obtain ⟨inf, hi, h1, h2, h3⟩ := ok.info
  have hsz : ∀ w : World, (sizeOf T).run P w = .ok size w := fun w => by simp [sizeOf, typeInfo, Sem.run_bind, hi, h1]
  have hinfo : ∀ w : World, (typeInfo T).run P w = .ok inf w := fun w => by simp [typeInfo, Sem.run_bind, hi]
  have hzero : ∀ w : World, (zeroValue T).run P w = .ok z w := fun w => by simp [zeroValue, Sem.run_bind, hinfo, h3]
  have hw : IntKind.i64.wrap (k : Int) = k := by simp [IntKind.wrap, IntKind.signed, IntKind.bits]; omega
  have hch : (choose (.appendCap (i + k) cap T)).run P w = .ok ((Question.appendCap (i + k) cap T).cut (w.tape w.drawn (.appendCap (i + k) cap T))) w.drew := by
    simp [choose, Sem.run, Question.forced]
  have hask : ∀ (k : Nat) (w : World), (askRoom k).run P w = .ok () w := by
    intro k w; unfold askRoom; split <;> simp [mark, Sem.run]
  have hnc : Builtin.nextslicecap (i + k) cap * bytes ≤ 281474976710656 := Nat.le_trans (Nat.mul_le_mul_right _ (next_le hcap)) hroom
  have hnc' : ¬ (Builtin.nextslicecap (i + k) cap * inf.bytes > 2 ^ 48) := by rw [h2]; omega
  have hbig' : ¬ (((i + k : Nat) : Int) > IntKind.i64.max ∧ (True ∨ inf.bytes = 0)) := by
    rintro ⟨h, _⟩
    simp [IntKind.max, IntKind.signed, IntKind.bits] at h
    omega
  have hkb : ¬ ((k : Int) * (inf.bytes : Int) > 2 ^ 48) := by
    rw [h2]
    have e1 : ((k * bytes : Nat) : Int) = (k : Int) * (bytes : Int) := Int.natCast_mul k bytes
    have e2 : k * bytes ≤ (2 * (i + k) + 192) * bytes := Nat.mul_le_mul_right _ (by omega)
    rw [← e1]
    generalize k * bytes = q at e2
    omega
  have hai : ∀ n : Int, asInt (.int .i64 n) = pure n := fun n => rfl
  have hrow : ∀ (cs : Array Value) (w : World), (newRow T cs).run P w = .ok ⟨w.heap.size, 0, none⟩ (w.alloc (.cells cs T)) := by
    intro cs w; simp [newRow, newObj, Sem.run]
  have hfirst : (Builtin.firstCells size i (.slice (some ⟨b, 0, none⟩) i cap)).run P w.drew = .ok old.toArray w.drew := by
    simp only [Builtin.firstCells, ← hol]
    exact run_loadCells (P := P) (w := w.drew) (fun j hj => by rw [add_eq, Nat.zero_add]; exact (Gr.drew w).cell' (hold j hj))
  have hz0 : ∀ w : World, (if k * size = 0 then pure #[] else do pure (Builtin.zeroCells (← zeroValue T).cells k) : Sem (Array Value)).run P w = .ok (Builtin.zeroCells z.cells k) w := by
    intro w
    by_cases h0 : k * size = 0
    · rw [if_pos h0]
      have : Builtin.zeroCells z.cells k = #[] := by
        apply Array.eq_empty_of_size_eq_zero; rw [zeroCells_size, ok.hzs, h0]
      rw [this]; rfl
    · rw [if_neg h0]; simp only [Sem.run_bind, hzero, Result.andThen_ok, Sem.run_pure]
  refine .pure (v := .slice (some ⟨w.heap.size, 0, none⟩) (i + k) ((Question.appendCap (i + k) cap T).cut (w.tape w.drawn (.appendCap (i + k) cap T)))) ?_ (hΦ _ _ _ (by simp [Question.cut]) ((Gr.drew w).trans (Gr.alloc _ _)) ⟨(NewF.alloc w.drew _).1, (NewF.alloc w.drew _).2, (NewF.alloc w.drew _).3⟩)
  have hexec : (Builtin.append_ #[st, xt] ty #[.slice (some ⟨b, 0, none⟩) i cap, .int .i64 (k : Int)]).run P w = .ok (.slice (some ⟨w.heap.size, 0, none⟩) (i + k) ((Question.appendCap (i + k) cap T).cut (w.tape w.drawn (.appendCap (i + k) cap T)))) (w.drew.alloc (.cells (old.toArray ++ Builtin.zeroCells z.cells k ++ Builtin.zeroCells z.cells (((Question.appendCap (i + k) cap T).cut (w.tape w.drawn (.appendCap (i + k) cap T))) - (i + k))) T)) := by
    unfold Builtin.append_
    simp only [List.getElem?_toArray, List.getElem?_cons_zero, List.getElem?_cons_succ, Sem.run_bind, run_underlying ok.hst, run_underlying hxt, Result.andThen_ok, hsz, Sem.run_pure, if_true, hai, hw]
    rw [if_neg (by omega)]
    simp only [Sem.run_bind, hinfo, Result.andThen_ok, Sem.run_pure]
    rw [if_neg hkb]
    simp only [Sem.run_bind, Result.andThen_ok, Sem.run_pure, Int.toNat_natCast]
    rw [if_neg (by omega)]
    simp only [Sem.run_bind, hinfo, Result.andThen_ok]
    rw [if_neg (by simpa using hbig')]
    simp only [Sem.run_bind, hinfo, Result.andThen_ok]
    rw [if_neg hnc']
    simp only [Sem.run_bind, hinfo, Result.andThen_ok, hch, hask, hfirst, Bool.not_true, Bool.false_eq_true, if_false, hz0, hzero, hrow, Sem.run_pure]
    rfl
  simp only [execOp, resolve, List.map_toArray, List.map, hx, hy, Sem.run_bind, Sem.run_pure, Result.andThen_ok, invoke, builtin, hexec]
theorem y_overlap {f : FuncId} {fn : Func} {tys : Array TypeId} {e t b1 b2 o1 o2 n1 n2 c1 c2 size : Nat} {cs1 cs2 : Array Value} {T1 T2 : TypeId} (hf : P.funcs[f]? = some fn) (hname : (fn.name == "runtime.NumGoroutine") = false) (hbody : fn.body.isNone = true) (hn : Extern.findNext fn = none) {rt : Array TypeId} (hfind : Extern.find fn = some (Extern.SlicesOverlaps.overlaps fn.params rt)) (hp : fn.params[0]? = some t) (ht : P.underlying t = some (.slice e)) (hs : (P.info? e).map (·.size) = some size) (hz : ¬ (n1 = 0 ∨ n2 = 0 ∨ size = 0))
    (hx : ρ x = .slice (some ⟨b1, o1, none⟩) n1 c1) (hy : ρ y = .slice (some ⟨b2, o2, none⟩) n2 c2) (h1 : w.heap[b1]? = some (.cells cs1 T1 (0, 0))) (h2 : w.heap[b2]? = some (.cells cs2 T2 (0, 0))) (hne : b1 ≠ b2) (hg : ρ (.func f) = .func (.func f) #[] #[])
    (hΦ : Φ (.bool false) w) : OpY P ⟨d, .call ⟨.value (.func f), #[x, y], tys⟩, ty, pos, aft, gd⟩ ρ w Φ := by
  have hsz : ∀ w : World, (sizeOf e).run P w = .ok size w := fun w => by
    cases hi : P.info? e with
    | none => simp [hi] at hs
    | some inf => simp only [hi, Option.map_some, Option.some.injEq] at hs; simp [sizeOf, typeInfo, Sem.run_bind, hi, hs]
  have hfr1 : ∀ o, (frozen ⟨b1, o, none⟩).run P w = .ok false w := fun o => by simp [frozen, Sem.run, World.frozen?, h1]
  have hfr2 : ∀ o, (frozen ⟨b2, o, none⟩).run P w = .ok false w := fun o => by simp [frozen, Sem.run, World.frozen?, h2]
  have hsh1 : (shape b1).run P w = .ok (some (T1, cs1.size)) w := by simp [shape, Sem.run, World.shape?, h1]
  have hsh2 : (shape b2).run P w = .ok (some (T2, cs2.size)) w := by simp [shape, Sem.run, World.shape?, h2]
  have hnv1 : (noView ⟨b1, o1, none⟩).run P w = .ok () w := by simp [noView, viewAt, Sem.run_bind, hsh1]
  have hnv2 : (noView ⟨b2, o2, none⟩).run P w = .ok () w := by simp [noView, viewAt, Sem.run_bind, hsh2]
  have hsi1 : (stringish ⟨b1, o1, none⟩).run P w = .ok false w := by unfold stringish; simp only [Sem.run_bind, hfr1, Result.andThen_ok, hsh1, Bool.false_eq_true, if_false, Sem.run_pure]
  have hsi2 : (stringish ⟨b2, o2, none⟩).run P w = .ok false w := by unfold stringish; simp only [Sem.run_bind, hfr2, Result.andThen_ok, hsh2, Bool.false_eq_true, if_false, Sem.run_pure]
  have hmb : (mayBeOne ⟨b1, o1, none⟩ ⟨b2, o2, none⟩).run P w = .ok false w := by simp [mayBeOne, Sem.run_bind, hsi1, hsi2, hsh1, hsh2]
  have hov : (Extern.SlicesOverlaps.overlaps fn.params rt #[.slice (some ⟨b1, o1, none⟩) n1 c1, .slice (some ⟨b2, o2, none⟩) n2 c2]).run P w = .ok (.bool false) w := by
    have hb : (b1 != b2) = true := by simpa using hne
    have hb' : (b1 == b2) = false := by simpa using hne
    generalize hS : Extern.SlicesOverlaps.overlaps fn.params rt #[.slice (some ⟨b1, o1, none⟩) n1 c1, .slice (some ⟨b2, o2, none⟩) n2 c2] = S
    conv at hS => lhs; whnf
    subst hS
    simp only [hp, Sem.run_bind, run_underlying ht, Result.andThen_ok, hsz, if_neg hz, hfr1, hfr2, Bool.and_false, Bool.false_eq_true, if_false, hb, if_true, hnv1, hnv2, hmb, hb', Bool.false_and, Sem.run_pure]
  refine .pure (v := .bool false) (w' := w) ?_ hΦ
  simp [execOp, resolve, hg, hx, hy, Deferred.ofValue, invoke, run_callFunc_extern hf hname hbody hn hfind, hov, Result.andThen, Sem.run_bind]
end
end Go.Proofs.Ytoijfmfkkmbabaa
namespace Go.Proofs.Ytoijfmfkkmbabaa
open Go.RowKit
theorem okSlot : AppOk Try.prog 65 69 2 32 (.agg #[.int .u64 0, .slice none 0 0]) := ⟨by kernel_rfl, by kernel_rfl, by kernel_rfl, by kernel_rfl, by kernel_rfl⟩
theorem sliced0 (b n cap size : Nat) : sliced b 0 0 n cap size = .slice (some ⟨b, 0, none⟩) n cap := by unfold sliced; split <;> simp
theorem slicedL {b l h m size : Nat} (hm : m ≠ l) : sliced b 0 l h m size = .slice (some ⟨b, l * size, none⟩) (h - l) (m - l) := by unfold sliced; rw [if_neg hm, Nat.zero_add]
theorem src_at {w : World} {b T c m : Nat} {cs : Array Value} {o : Nat} (hb : w.heap[b]? = some (.cells cs T (0, 0))) (hm : 0 < m) (hl : o + m * 2 ≤ cs.size) : Src w 2 (.slice (some ⟨b, o, none⟩) m c) m ((cs.toList.drop o).take (m * 2)) := by
  refine ⟨by simp; omega, Or.inr ⟨_, _, rfl, fun j hj => ?_⟩⟩
  simp only [List.length_take, List.length_drop, Array.length_toList] at hj
  rw [add_eq, cell_of hb]
  simp only [List.getElem_take, List.getElem_drop, Array.getElem_toList]
  exact Array.getElem?_eq_getElem (by omega)
theorem ins_end {c cs : Array Value} {V R : List Value} {a r : Nat} (hc : ∀ p, p < a → c[p]? = cs[p]?) (hV : V.length = 2) (hR : R.length = r) (hsz : a + 2 + r ≤ c.size) (hcs : a ≤ cs.size) : (setCs (setCs c a V) (a + 2) R).toList.take (a + 2 + r) = cs.toList.take a ++ (V ++ R) := by
  apply List.ext_getElem?; intro p
  rw [List.getElem?_take]
  by_cases hp : p < a + 2 + r
  · rw [if_pos hp, Array.getElem?_toList, setCs_get _ _ _ _ (by rw [setCs_size]; omega)]
    by_cases h1 : a + 2 ≤ p
    · rw [if_pos ⟨h1, by omega⟩, List.getElem?_append_right (by simp; omega), List.getElem?_append_right (by simp; omega)]
      congr 1; simp; omega
    · rw [if_neg (by omega), setCs_get _ _ _ _ (by omega)]
      by_cases h2 : a ≤ p
      · rw [if_pos ⟨h2, by omega⟩, List.getElem?_append_right (by simp; omega), List.getElem?_append_left (by simp; omega)]
        congr 1; simp; omega
      · rw [if_neg (by omega), List.getElem?_append_left (by simp; omega), List.getElem?_take, if_pos (by omega), Array.getElem?_toList, hc p (by omega)]
  · rw [if_neg hp, List.getElem?_eq_none (by simp; omega)]
theorem ins_end2 {cs : Array Value} {V R : List Value} {a r : Nat} (hV : V.length = 2) (hR : R.length = r) (hsz : a + 2 + r ≤ cs.size) : (setCs (setCs cs (a + 2) R) a V).toList.take (a + 2 + r) = cs.toList.take a ++ (V ++ R) := by
  apply List.ext_getElem?; intro p
  rw [List.getElem?_take]
  by_cases hp : p < a + 2 + r
  · rw [if_pos hp, Array.getElem?_toList, setCs_get _ _ _ _ (by rw [setCs_size]; omega)]
    by_cases h2 : a ≤ p ∧ p < a + V.length
    · rw [if_pos h2, List.getElem?_append_right (by simp; omega), List.getElem?_append_left (by simp; omega)]
      congr 1; simp; omega
    · rw [if_neg h2, setCs_get _ _ _ _ (by omega)]
      by_cases h1 : a + 2 ≤ p
      · rw [if_pos ⟨h1, by omega⟩, List.getElem?_append_right (by simp; omega), List.getElem?_append_right (by simp; omega)]
        congr 1; simp; omega
      · rw [if_neg (by omega), List.getElem?_append_left (by simp; omega), List.getElem?_take, if_pos (by omega), Array.getElem?_toList]
  · rw [if_neg hp, List.getElem?_eq_none (by simp; omega)]
set_option maxRecDepth 20000 in
set_option maxHeartbeats 4000000 in
theorem insert_raw {w : World} {b n cap i bv capv : Nat} {cs cv : Array Value} (hb : w.heap[b]? = some (.cells cs 69 (0, 0))) (hbv : w.heap[bv]? = some (.cells cv 69 (0, 0))) (hne : b ≠ bv) (hcs : cs.size = cap * 2) (hn : n ≤ cap) (hi : i < n) (hcv : cv.size = capv * 2) (hv1 : 1 ≤ capv) (hbig : n < 1073741824) (hone : ∀ j q, j < n * 2 → cs[j]? = some q → oneC q = true) (honev : ∀ j q, j < 2 → cv[j]? = some q → oneC q = true) :
    Calls Try.prog 31 #[.slice (some ⟨b, 0, none⟩) n cap, .int .i64 i, .slice (some ⟨bv, 0, none⟩) 1 capv] w (RetW [b, bv] w fun r H' => ∃ b' cap' cs', r = .slice (some ⟨b', 0, none⟩) (n + 1) cap' ∧ H' = [(b', .cells cs' 69 (0, 0))] ∧ cs'.size = cap' * 2 ∧ n + 1 ≤ cap' ∧ cs'.toList.take ((n + 1) * 2) = cs.toList.take (i * 2) ++ (cv.toList.take 2 ++ (cs.toList.drop (i * 2)).take ((n - i) * 2))) := by
  have hVl : (cv.toList.take 2).length = 2 := by simp; omega
  have hRl : ((cs.toList.drop (i * 2)).take ((n - i) * 2)).length = (n - i) * 2 := by simp; omega
  have hVone : ∀ q ∈ cv.toList.take 2, oneC q = true := fun q hq => by
    obtain ⟨j, hj⟩ := List.getElem?_of_mem hq; rw [List.getElem?_take] at hj; split at hj
    · rw [Array.getElem?_toList] at hj; exact honev j q (by omega) hj
    · simp at hj
  have hRone : ∀ q ∈ (cs.toList.drop (i * 2)).take ((n - i) * 2), oneC q = true := fun q hq => by
    obtain ⟨j, hj⟩ := List.getElem?_of_mem hq; rw [List.getElem?_take] at hj; split at hj
    · rw [List.getElem?_drop, Array.getElem?_toList] at hj; exact hone _ q (by omega) hj
    · simp at hj
  have hV2 : (cv.toList.take 2).take (1 * 2) = cv.toList.take 2 := by rw [List.take_take]; rfl
  have hR2 : ∀ m, n - i ≤ m → ((cs.toList.drop (i * 2)).take (m * 2)).take ((n - i) * 2) = (cs.toList.drop (i * 2)).take ((n - i) * 2) := fun m hm => by rw [List.take_take, Nat.min_eq_left (by omega)]
  have hfin : i * 2 + 2 + (n - i) * 2 = (n + 1) * 2 := by omega
  have S0 : St [b, bv] w w [(b, .cells cs 69 (0, 0)), (bv, .cells cv 69 (0, 0))] := St.start (H := [(b, .cells cs 69 (0, 0)), (bv, .cells cv 69 (0, 0))]) (by simp [keys]; exact hne) (by intro x hx; simp at hx; rcases hx with rfl | rfl; exact hb; exact hbv)
  refine enter Try.func31 rfl (n := 95) rfl (Nat.le_of_ble_eq_true rfl) fun _ A => ?_
  have S : St _ _ _ [(b, .cells cs 69 (0, 0)), (bv, .cells cv 69 (0, 0))] := S0
  refine wp_seq_k fun K1 hK1 => ?_
  refine region_seq ?_
  refine La A rfl (evc _ _) fun _ A => ?_
  replace A := A.only [6, 2, 1, 0] rfl
  refine hK1 _ _ ?_
  refine wp_seq_k fun K2 hK2 => ?_
  refine region_seq ?_
  refine Lm A rfl (A.g 0 rfl) fun _ A => Lm A rfl (A.g 1 rfl) fun _ A => Lo A rfl (y_sliceLo (e := 69) (size := 2) (l := i) (by kernel_rfl) (by kernel_rfl) (A.g 10 rfl) (A.g 11 rfl) (by omega) fun _ A => ?_)
  replace A := A.only [6, 2, 1, 0] rfl
  refine hK2 _ _ ?_
  refine wp_seq_k fun K3 hK3 => ?_
  refine region_seq ?_
  refine Lm A rfl (A.g 2 rfl) fun _ A => Lo A rfl (y_lenS (e := 69) (by kernel_rfl) (A.g 13 rfl) fun _ A => ?_)
  refine La A rfl (A.g 14 rfl) fun _ A => ?_
  replace A := A.only [7, 6, 2, 1, 0] rfl
  refine hK3 _ _ ?_
  refine wp_seq_k fun K4 hK4 => ?_
  refine wp_seq_k fun K5 hK5 => ?_
  refine region_seq ?_
  refine Lm A rfl (A.g 7 rfl) fun _ A => Lo A rfl (y_eql (A.g 15 rfl) (evc _ _) (c := false) (by decide) fun _ A => ?_)
  replace A := A.only [16, 7, 6, 2, 1, 0] rfl
  refine hK5 _ _ ?_
  refine wp_cond_false (A.get rfl) ?_
  refine wp_skip ?_
  refine hK4 _ _ ?_
  refine wp_seq_k fun K6 hK6 => ?_
  refine region_seq ?_
  refine Lm A rfl (A.g 0 rfl) fun _ A => Lo A rfl (y_lenS (e := 69) (by kernel_rfl) (A.g 18 rfl) fun _ A => ?_)
  refine La A rfl (A.g 19 rfl) fun _ A => ?_
  replace A := A.only [16, 8, 7, 6, 2, 1, 0] rfl
  refine hK6 _ _ ?_
  refine wp_seq_k fun K7 hK7 => ?_
  refine wp_seq_k fun K8 hK8 => ?_
  refine region_seq ?_
  refine Lm A rfl (A.g 1 rfl) fun _ A => Lm A rfl (A.g 8 rfl) fun _ A => Lo A rfl (y_eql (A.g 20 rfl) (A.g 21 rfl) (c := false) (by simp; omega) fun _ A => ?_)
  replace A := A.only [22, 16, 8, 7, 6, 2, 1, 0] rfl
  refine hK8 _ _ ?_
  refine wp_cond_false (A.get rfl) ?_
  refine wp_skip ?_
  refine hK7 _ _ ?_
  refine wp_seq_k fun K9 hK9 => ?_
  refine wp_seq_k fun K10 hK10 => ?_
  refine region_seq ?_
  refine Lm A rfl (A.g 8 rfl) fun _ A => Lm A rfl (A.g 7 rfl) fun _ A => Lo A rfl (y_add (A.g 26 rfl) (A.g 27 rfl) (c := ((n + 1 : Nat) : Int)) (wi (by omega)) fun _ A => ?_)
  refine Lm A rfl (A.g 0 rfl) fun _ A => Lo A rfl (y_capS (e := 69) (by kernel_rfl) (A.g 29 rfl) fun _ A => ?_)
  refine Lo A rfl (y_gtr (A.g 28 rfl) (A.g 30 rfl) rfl fun _ A => ?_)
  replace A := A.only [31, 22, 16, 8, 7, 6, 2, 1, 0] rfl
  refine hK10 _ _ ?_
  refine wp_cond_split (A.get rfl) (fun hc31 => ?_) (fun hc31 => ?_)
  ·
    have hc31 := of_decide_eq_true hc31
    refine wp_seq_k fun K11 hK11 => ?_
    refine region_seq ?_
    refine Lm A rfl (A.g 0 rfl) fun _ A => Lm A rfl (A.g 1 rfl) fun _ A => Lo A rfl (y_sliceHi (e := 69) (size := 2) (h := i) (by kernel_rfl) (by kernel_rfl) (A.g 32 rfl) (A.g 33 rfl) (by omega) fun _ A => ?_)
    refine Lm A rfl (A.g 8 rfl) fun _ A => ?_
    replace A := A.only [35, 34, 31, 22, 16, 8, 7, 6, 2, 1, 0] rfl
    refine Lm A rfl (A.g 7 rfl) fun _ A => Lo A rfl (y_add (A.g 35 rfl) (A.g 36 rfl) (c := ((n + 1 : Nat) : Int)) (wi (by omega)) fun _ A => ?_)
    refine Lm A rfl (A.g 1 rfl) fun _ A => Lo A rfl (y_sub (A.g 37 rfl) (A.g 38 rfl) (c := ((n + 1 - i : Nat) : Int)) (wi (by omega)) fun _ A => ?_)
    replace A := A.only [39, 34, 31, 22, 16, 8, 7, 6, 2, 1, 0] rfl
    refine Lo A rfl (y_appendZ (old := cs.toList.take (i * 2)) okSlot (kk := .i64) (by kernel_rfl) ((A.g 34 rfl).trans (sliced0 b i cap 2)) (A.g 39 rfl) (by omega) (fun j hj => by rw [cell_of (S.get 0 rfl), List.getElem_take, Array.getElem_toList]; exact Array.getElem?_eq_getElem (by simp at hj; omega)) (by simp; omega) (by omega) (by omega) fun k2 b1 w hk2 gG nN ac A => ?_)
    generalize hc1 : (cs.toList.take (i * 2)).toArray ++ Builtin.zeroCells _ (n + 1 - i) ++ Builtin.zeroCells _ (k2 - (i + (n + 1 - i))) = c1 at *
    have hsz1 : c1.size = k2 * 2 := by rw [← hc1]; simp [zeroCells_size, Value.cells]; omega
    have hlow1 : ∀ p, p < i * 2 → c1[p]? = cs[p]? := fun p hp => by rw [← hc1, Array.getElem?_append_left (by simp; omega), Array.getElem?_append_left (by simp; omega), List.getElem?_toArray, List.getElem?_take, if_pos hp, Array.getElem?_toList]
    replace S : St _ _ _ [(b1, .cells c1 69 (0, 0)), (b, .cells cs 69 (0, 0)), (bv, .cells cv 69 (0, 0))] := S.new gG nN
    refine La A rfl (A.g 40 rfl) fun _ A => ?_
    replace A := A.only [31, 22, 16, 9, 8, 7, 6, 2, 1, 0] rfl
    refine hK11 _ _ ?_
    refine wp_seq_k fun K12 hK12 => ?_
    refine region_seq ?_
    refine Lm A rfl (A.g 9 rfl) fun _ A => Lm A rfl (A.g 1 rfl) fun _ A => Lo A rfl (y_sliceLo (e := 69) (size := 2) (l := i) (by kernel_rfl) (by kernel_rfl) (A.g 41 rfl) (A.g 42 rfl) (by omega) fun _ A => ?_)
    refine Lm A rfl (A.g 2 rfl) fun _ A => Lo A rfl (y_copyS (m := 1) (q := 1) okSlot ((A.g 43 rfl).trans (slicedL (by omega))) ((A.g 44 rfl)) (src_at (o := 0) (S.get 2 rfl) (by omega) (by first | omega | (simp [setCs_size]; omega))) (by omega) (S.get 0 rfl) (by first | omega | (simp [setCs_size]; omega)) (by intro q hq; rw [List.drop_zero] at hq; exact hVone q (by rw [← hV2]; exact hq)) fun _ A => ?_)
    rw [List.drop_zero, hV2]
    replace S : St _ _ _ [(b1, .cells (setCs c1 (i * 2) (cv.toList.take 2)) 69 (0, 0)), (b, .cells cs 69 (0, 0)), (bv, .cells cv 69 (0, 0))] := S.setAt 0 rfl _
    replace A := A.only [31, 22, 16, 9, 8, 7, 6, 2, 1, 0] rfl
    refine hK12 _ _ ?_
    refine wp_seq_k fun K13 hK13 => ?_
    refine region_draw A [⟨46, pl (eqv (.slice (some ⟨b1, 0, none⟩) (i + (n + 1 - i)) k2)), [], [9], none, false⟩, ⟨47, pl (eqv (.int .i64 i)), [], [1], none, false⟩, ⟨48, pl (eqv (.int .i64 1)), [], [7], none, false⟩, ⟨49, pl (eqv (.int .i64 (((i + 1 : Nat) : Int)))), [1, 2], [], none, false⟩, ⟨50, pl (eqv (sliced b1 0 (i + 1) (i + (n + 1 - i)) k2 2)), [0, 3], [], none, false⟩, ⟨51, pl (eqv (.slice (some ⟨b, 0, none⟩) n cap)), [], [0], none, false⟩, ⟨52, pl (eqv (.int .i64 i)), [], [1], none, false⟩, ⟨53, pl (eqv (sliced b 0 i n cap 2)), [5, 6], [], none, false⟩] [(8, false)] (by kernel_rfl) (by kernel_rfl) (fun d _ _ _ _ h => by cases d <;> exact h) ⟨?_, ?_, ?_, ?_, ?_, ?_, ?_, ?_, trivial⟩ ?_
    · refine due_plain fun ρ w1 G hsrc hold => ?_; obtain ⟨o9, -⟩ := hold; exact y_move (o9.trans (A.g 9 rfl)) y_eq
    · refine due_plain fun ρ w1 G hsrc hold => ?_; obtain ⟨o1, -⟩ := hold; exact y_move (o1.trans (A.g 1 rfl)) y_eq
    · refine due_plain fun ρ w1 G hsrc hold => ?_; obtain ⟨o7, -⟩ := hold; exact y_move (o7.trans (A.g 7 rfl)) y_eq
    · refine due_plain fun ρ w1 G hsrc hold => ?_; obtain ⟨⟨_, _, ⟨h47, -⟩, -⟩, ⟨_, _, ⟨h48, -⟩, -⟩, -⟩ := hsrc; exact y_add h47 h48 (c := ((i + 1 : Nat) : Int)) (wi (by omega)) y_eq
    · refine due_plain fun ρ w1 G hsrc hold => ?_; obtain ⟨⟨_, _, ⟨h46, -⟩, -⟩, ⟨_, _, ⟨h49, -⟩, -⟩, -⟩ := hsrc; exact y_sliceLo (e := 69) (size := 2) (l := (i + 1)) (by kernel_rfl) (by kernel_rfl) h46 h49 (by omega) y_eq
    · refine due_plain fun ρ w1 G hsrc hold => ?_; obtain ⟨o0, -⟩ := hold; exact y_move (o0.trans (A.g 0 rfl)) y_eq
    · refine due_plain fun ρ w1 G hsrc hold => ?_; obtain ⟨o1, -⟩ := hold; exact y_move (o1.trans (A.g 1 rfl)) y_eq
    · refine due_plain fun ρ w1 G hsrc hold => ?_; obtain ⟨⟨_, _, ⟨h51, -⟩, -⟩, ⟨_, _, ⟨h52, -⟩, -⟩, -⟩ := hsrc; exact y_sliceLo (e := 69) (size := 2) (l := i) (by kernel_rfl) (by kernel_rfl) h51 h52 (by omega) y_eq
    rintro _ _ ⟨rfl, rfl⟩ _ _ ⟨rfl, rfl⟩ _ _ ⟨rfl, rfl⟩ _ _ ⟨rfl, rfl⟩ _ _ ⟨rfl, rfl⟩ _ _ ⟨rfl, rfl⟩ _ _ ⟨rfl, rfl⟩ _ _ ⟨rfl, rfl⟩
    intro ac w A gG nN
    replace S : St _ _ _ [(b1, .cells (setCs c1 (i * 2) (cv.toList.take 2)) 69 (0, 0)), (b, .cells cs 69 (0, 0)), (bv, .cells cv 69 (0, 0))] := S.new gG nN
    refine Lo A rfl (y_copyS (m := n - i) (q := (n - i)) okSlot ((A.g 50 rfl).trans (slicedL (by omega))) ((A.g 53 rfl).trans (slicedL (by omega))) (src_at (o := i * 2) (S.get 1 rfl) (by omega) (by first | omega | (simp [setCs_size]; omega))) (by omega) (S.get 0 rfl) (by first | omega | (simp [setCs_size]; omega)) (by intro q hq; exact hRone q (by rw [← hR2 (n - i) (Nat.le_refl _)]; exact hq)) fun _ A => ?_)
    rw [hR2 (n - i) (Nat.le_refl _)]
    replace S : St _ _ _ [(b1, .cells (setCs (setCs c1 (i * 2) (cv.toList.take 2)) ((i + 1) * 2) ((cs.toList.drop (i * 2)).take ((n - i) * 2))) 69 (0, 0)), (b, .cells cs 69 (0, 0)), (bv, .cells cv 69 (0, 0))] := S.setAt 0 rfl _
    replace A := A.only [31, 22, 16, 9, 8, 7, 6, 2, 1, 0] rfl
    refine hK13 _ _ ?_
    refine wp_seq_k fun K14 hK14 => ?_
    refine region_seq ?_
    refine Lm A rfl (A.g 9 rfl) fun _ A => La A rfl (A.g 55 rfl) fun _ A => ?_
    replace A := A.only [31, 22, 16, 9, 8, 7, 6, 2, 1, 0] rfl
    refine hK14 _ _ ?_
    have hlast := ins_end (c := c1) (cs := cs) (V := cv.toList.take 2) (R := (cs.toList.drop (i * 2)).take ((n - i) * 2)) (a := i * 2) hlow1 hVl hRl (by omega) (by omega)
    rw [hfin, show i * 2 + 2 = (i + 1) * 2 by omega] at hlast
    refine wp_ret ⟨A.defers, _, res_run (rs := [.tmp 6]) (vs := [.slice (some ⟨b1, 0, none⟩) (i + (n + 1 - i)) k2]) rfl ⟨A.get rfl, trivial⟩, ⟨_, _, rfl, ⟨b1, k2, _, (by show Value.slice (some ⟨b1, 0, none⟩) (i + (n + 1 - i)) k2 = _; rw [show i + (n + 1 - i) = n + 1 by omega]), rfl, by rw [setCs_size, setCs_size]; exact hsz1, by omega, hlast⟩, ?_⟩⟩
    exact S.app_left (H := [_]) (K := [_, _])
  ·
    have hc31 := of_decide_eq_false hc31
    refine wp_skip ?_
    refine hK9 _ _ ?_
    refine wp_seq_k fun K15 hK15 => ?_
    refine region_seq ?_
    refine Lm A rfl (A.g 0 rfl) fun _ A => Lm A rfl (A.g 8 rfl) fun _ A => Lm A rfl (A.g 7 rfl) fun _ A => Lo A rfl (y_add (A.g 57 rfl) (A.g 58 rfl) (c := ((n + 1 : Nat) : Int)) (wi (by omega)) fun _ A => ?_)
    refine Lo A rfl (y_sliceHi (e := 69) (size := 2) (h := (n + 1)) (by kernel_rfl) (by kernel_rfl) (A.g 56 rfl) (A.g 59 rfl) (by omega) fun _ A => ?_)
    refine La A rfl (A.g 60 rfl) fun _ A => ?_
    replace A := A.only [31, 22, 16, 8, 7, 6, 2, 1, 0] rfl
    refine hK15 _ _ ?_
    refine wp_seq_k fun K16 hK16 => ?_
    refine wp_seq_k fun K17 hK17 => ?_
    refine region_seq ?_
    refine Lm A rfl (A.g 2 rfl) fun _ A => Lm A rfl (A.g 0 rfl) fun _ A => Lm A rfl (A.g 1 rfl) fun _ A => Lm A rfl (A.g 7 rfl) fun _ A => ?_
    replace A := A.only [64, 63, 62, 61, 31, 22, 16, 8, 7, 6, 2, 1, 0] rfl
    refine Lo A rfl (y_add (A.g 63 rfl) (A.g 64 rfl) (c := ((i + 1 : Nat) : Int)) (wi (by omega)) fun _ A => ?_)
    refine Lo A rfl (y_sliceLo (e := 69) (size := 2) (l := (i + 1)) (by kernel_rfl) (by kernel_rfl) ((A.g 62 rfl).trans (sliced0 b (n + 1) cap 2)) (A.g 65 rfl) (by omega) fun _ A => ?_)
    refine Lo A rfl (y_overlap (f := 46) (e := 69) (t := 65) (size := 2) Try.func46 (by kernel_rfl) (by kernel_rfl) (by kernel_rfl) (rt := _) rfl (by kernel_rfl) (by kernel_rfl) (by kernel_rfl) (by omega) (A.g 61 rfl) ((A.g 66 rfl).trans (slicedL (by omega))) (S.get 1 rfl) (S.get 0 rfl) (fun h => hne h.symm) rfl fun _ A => ?_)
    refine Lo A rfl (y_not (A.g 67 rfl) rfl fun _ A => ?_)
    replace A := A.only [68, 31, 22, 16, 8, 7, 6, 2, 1, 0] rfl
    refine hK17 _ _ ?_
    refine wp_cond_true (A.get rfl) ?_
    refine wp_seq_k fun K18 hK18 => ?_
    refine region_draw A [⟨69, pl (eqv (sliced b 0 0 (n + 1) cap 2)), [], [0], none, false⟩, ⟨70, pl (eqv (.int .i64 i)), [], [1], none, false⟩, ⟨71, pl (eqv (.int .i64 1)), [], [7], none, false⟩, ⟨72, pl (eqv (.int .i64 (((i + 1 : Nat) : Int)))), [1, 2], [], none, false⟩, ⟨73, pl (eqv (sliced b 0 (i + 1) (n + 1) cap 2)), [0, 3], [], none, false⟩, ⟨74, pl (eqv (sliced b 0 0 (n + 1) cap 2)), [], [0], none, false⟩, ⟨75, pl (eqv (.int .i64 i)), [], [1], none, false⟩, ⟨76, pl (eqv (sliced b 0 i (n + 1) cap 2)), [5, 6], [], none, false⟩] [(8, false)] (by kernel_rfl) (by kernel_rfl) (fun d _ _ _ _ h => by cases d <;> exact h) ⟨?_, ?_, ?_, ?_, ?_, ?_, ?_, ?_, trivial⟩ ?_
    · refine due_plain fun ρ w1 G hsrc hold => ?_; obtain ⟨o0, -⟩ := hold; exact y_move (o0.trans (A.g 0 rfl)) y_eq
    · refine due_plain fun ρ w1 G hsrc hold => ?_; obtain ⟨o1, -⟩ := hold; exact y_move (o1.trans (A.g 1 rfl)) y_eq
    · refine due_plain fun ρ w1 G hsrc hold => ?_; obtain ⟨o7, -⟩ := hold; exact y_move (o7.trans (A.g 7 rfl)) y_eq
    · refine due_plain fun ρ w1 G hsrc hold => ?_; obtain ⟨⟨_, _, ⟨h70, -⟩, -⟩, ⟨_, _, ⟨h71, -⟩, -⟩, -⟩ := hsrc; exact y_add h70 h71 (c := ((i + 1 : Nat) : Int)) (wi (by omega)) y_eq
    · refine due_plain fun ρ w1 G hsrc hold => ?_; obtain ⟨⟨_, _, ⟨h69, -⟩, -⟩, ⟨_, _, ⟨h72, -⟩, -⟩, -⟩ := hsrc; exact y_sliceLo (e := 69) (size := 2) (l := (i + 1)) (by kernel_rfl) (by kernel_rfl) (h69.trans (sliced0 b (n + 1) cap 2)) h72 (by omega) y_eq
    · refine due_plain fun ρ w1 G hsrc hold => ?_; obtain ⟨o0, -⟩ := hold; exact y_move (o0.trans (A.g 0 rfl)) y_eq
    · refine due_plain fun ρ w1 G hsrc hold => ?_; obtain ⟨o1, -⟩ := hold; exact y_move (o1.trans (A.g 1 rfl)) y_eq
    · refine due_plain fun ρ w1 G hsrc hold => ?_; obtain ⟨⟨_, _, ⟨h74, -⟩, -⟩, ⟨_, _, ⟨h75, -⟩, -⟩, -⟩ := hsrc; exact y_sliceLo (e := 69) (size := 2) (l := i) (by kernel_rfl) (by kernel_rfl) (h74.trans (sliced0 b (n + 1) cap 2)) h75 (by omega) y_eq
    rintro _ _ ⟨rfl, rfl⟩ _ _ ⟨rfl, rfl⟩ _ _ ⟨rfl, rfl⟩ _ _ ⟨rfl, rfl⟩ _ _ ⟨rfl, rfl⟩ _ _ ⟨rfl, rfl⟩ _ _ ⟨rfl, rfl⟩ _ _ ⟨rfl, rfl⟩
    intro ac w A gG nN
    replace S : St _ _ _ [(b, .cells cs 69 (0, 0)), (bv, .cells cv 69 (0, 0))] := S.new gG nN
    refine Lo A rfl (y_copyS (m := n + 1 - i) (q := (n - i)) okSlot ((A.g 73 rfl).trans (slicedL (by omega))) ((A.g 76 rfl).trans (slicedL (by omega))) (src_at (o := i * 2) (S.get 0 rfl) (by omega) (by first | omega | (simp [setCs_size]; omega))) (by omega) (S.get 0 rfl) (by first | omega | (simp [setCs_size]; omega)) (by intro q hq; exact hRone q (by rw [← hR2 (n + 1 - i) (by omega)]; exact hq)) fun _ A => ?_)
    rw [hR2 (n + 1 - i) (by omega)]
    replace S : St _ _ _ [(b, .cells (setCs cs ((i + 1) * 2) ((cs.toList.drop (i * 2)).take ((n - i) * 2))) 69 (0, 0)), (bv, .cells cv 69 (0, 0))] := S.setAt 0 rfl _
    replace A := A.only [68, 31, 22, 16, 8, 7, 6, 2, 1, 0] rfl
    refine hK18 _ _ ?_
    refine wp_seq_k fun K19 hK19 => ?_
    refine region_seq ?_
    refine Lm A rfl (A.g 0 rfl) fun _ A => Lm A rfl (A.g 1 rfl) fun _ A => Lo A rfl (y_sliceLo (e := 69) (size := 2) (l := i) (by kernel_rfl) (by kernel_rfl) ((A.g 78 rfl).trans (sliced0 b (n + 1) cap 2)) (A.g 79 rfl) (by omega) fun _ A => ?_)
    refine Lm A rfl (A.g 2 rfl) fun _ A => Lo A rfl (y_copyS (m := 1) (q := 1) okSlot ((A.g 80 rfl).trans (slicedL (by omega))) ((A.g 81 rfl)) (src_at (o := 0) (S.get 1 rfl) (by omega) (by first | omega | (simp [setCs_size]; omega))) (by omega) (S.get 0 rfl) (by first | omega | (simp [setCs_size]; omega)) (by intro q hq; rw [List.drop_zero] at hq; exact hVone q (by rw [← hV2]; exact hq)) fun _ A => ?_)
    rw [List.drop_zero, hV2]
    replace S : St _ _ _ [(b, .cells (setCs (setCs cs ((i + 1) * 2) ((cs.toList.drop (i * 2)).take ((n - i) * 2))) (i * 2) (cv.toList.take 2)) 69 (0, 0)), (bv, .cells cv 69 (0, 0))] := S.setAt 0 rfl _
    replace A := A.only [68, 31, 22, 16, 8, 7, 6, 2, 1, 0] rfl
    refine hK19 _ _ ?_
    refine wp_seq_k fun K20 hK20 => ?_
    refine region_seq ?_
    refine Lm A rfl (A.g 0 rfl) fun _ A => La A rfl (A.g 83 rfl) fun _ A => ?_
    replace A := A.only [68, 31, 22, 16, 8, 7, 6, 2, 1, 0] rfl
    refine hK20 _ _ ?_
    have hlast := ins_end2 (cs := cs) (V := cv.toList.take 2) (R := (cs.toList.drop (i * 2)).take ((n - i) * 2)) (a := i * 2) hVl hRl (by omega)
    rw [hfin, show i * 2 + 2 = (i + 1) * 2 by omega] at hlast
    refine wp_ret ⟨A.defers, _, res_run (rs := [.tmp 6]) (vs := [.slice (some ⟨b, 0, none⟩) (n + 1) cap]) rfl ⟨(A.get rfl).trans (sliced0 b (n + 1) cap 2), trivial⟩, ⟨_, _, rfl, ⟨b, cap, _, rfl, rfl, by rw [setCs_size, setCs_size]; exact hcs, by omega, hlast⟩, ?_⟩⟩
    exact S.app_left (H := [_]) (K := [_])
end Go.Proofs.Ytoijfmfkkmbabaa
namespace Go.Proofs.Ytoijfmfkkmbabaa
open Go.RowKit
theorem y_cutLo {P : Program} {ρ : Operand → Value} {w : World} {Φ : Value → World → Prop} {d : Option Tmp} {ty t e : TypeId} {pos : String} {aft : Array Edge} {gd : Option (Nat × Bool)} {x lo : Operand} {size l n c : Nat} {a : Option Addr} (ht : P.underlying t = some (.slice e)) (hs : (P.info? e).map (·.size) = some size) (hx : ρ x = .slice a n c) (hl : ρ lo = .int .i64 (l : Int)) (h1 : l ≤ n) (hΦ : Φ (.slice (if c = l then a else a.map (·.add (l * size))) (n - l) (c - l)) w) : OpY P ⟨d, .slice t x (some lo) none none, ty, pos, aft, gd⟩ ρ w Φ :=
  .pure (by
    have := run_cut (P := P) (w := w) (a := a) ht hs (n := n) (c := c) (l := l) (h := n) (m := c) (vl := some (.int .i64 l)) (vh := none) (vm := none) (by simp [Instr.sliceBounds, run_bound h1])
    simp only [execOp, hx, hl, Option.map_some, Option.map_none, Sem.run_bind, this, Result.andThen_ok, Sem.run_pure]) hΦ
set_option maxRecDepth 20000 in
set_option maxHeartbeats 4000000 in
theorem insert_end {w : World} {n c bv capv : Nat} {a : Option Addr} {cv : Array Value} {xs : List Value} {Hs : Frag} (hs : SlRep 69 2 (.slice a n c) n xs Hs) (hbv : w.heap[bv]? = some (.cells cv 69 (0, 0))) (hnd : bv ∉ keys Hs) (hnk : (keys Hs).Nodup) (hh : Holds w Hs) (hcv : cv.size = capv * 2) (hv1 : 1 ≤ capv) (hbig : n < 1073741824) (honev : ∀ j q, j < 2 → cv[j]? = some q → oneC q = true) :
    Calls Try.prog 31 #[.slice a n c, .int .i64 n, .slice (some ⟨bv, 0, none⟩) 1 capv] w (RetW (keys (Hs ++ [(bv, .cells cv 69 (0, 0))])) w fun r H' => SlRep 69 2 r (n + 1) (xs ++ cv.toList.take 2) H') := by
  have hVone : ∀ q ∈ cv.toList.take 2, oneC q = true := fun q hq => by
    obtain ⟨j, hj⟩ := List.getElem?_of_mem hq; rw [List.getElem?_take] at hj; split at hj
    · rw [Array.getElem?_toList] at hj; exact honev j q (by omega) hj
    · simp at hj
  have S0 : St (keys (Hs ++ [(bv, .cells cv 69 (0, 0))])) w w (Hs ++ [(bv, .cells cv 69 (0, 0))]) := St.start (by rw [keys_app]; exact List.nodup_append.2 ⟨hnk, by simp [keys], by intro x hx y hy; simp [keys] at hy; subst hy; exact fun e => hnd (e ▸ hx)⟩) (Holds.app.2 ⟨hh, by intro x hx; simp at hx; subst hx; exact hbv⟩)
  refine enter Try.func31 rfl (n := 95) rfl (Nat.le_of_ble_eq_true rfl) fun _ A => ?_
  have S : St _ _ _ (Hs ++ [(bv, .cells cv 69 (0, 0))]) := S0
  refine wp_seq_k fun K1 hK1 => ?_
  refine region_seq ?_
  refine La A rfl (evc _ _) fun _ A => ?_
  replace A := A.only [6, 2, 1, 0] rfl
  refine hK1 _ _ ?_
  refine wp_seq_k fun K2 hK2 => ?_
  refine region_seq ?_
  refine Lm A rfl (A.g 0 rfl) fun _ A => Lm A rfl (A.g 1 rfl) fun _ A => Lo A rfl (y_cutLo (e := 69) (size := 2) (l := n) (by kernel_rfl) (by kernel_rfl) (A.g 10 rfl) (A.g 11 rfl) (by omega) fun _ A => ?_)
  replace A := A.only [6, 2, 1, 0] rfl
  refine hK2 _ _ ?_
  refine wp_seq_k fun K3 hK3 => ?_
  refine region_seq ?_
  refine Lm A rfl (A.g 2 rfl) fun _ A => Lo A rfl (y_lenS (e := 69) (by kernel_rfl) (A.g 13 rfl) fun _ A => ?_)
  refine La A rfl (A.g 14 rfl) fun _ A => ?_
  replace A := A.only [7, 6, 2, 1, 0] rfl
  refine hK3 _ _ ?_
  refine wp_seq_k fun K4 hK4 => ?_
  refine wp_seq_k fun K5 hK5 => ?_
  refine region_seq ?_
  refine Lm A rfl (A.g 7 rfl) fun _ A => Lo A rfl (y_eql (A.g 15 rfl) (evc _ _) (c := false) (by decide) fun _ A => ?_)
  replace A := A.only [16, 7, 6, 2, 1, 0] rfl
  refine hK5 _ _ ?_
  refine wp_cond_false (A.get rfl) ?_
  refine wp_skip ?_
  refine hK4 _ _ ?_
  refine wp_seq_k fun K6 hK6 => ?_
  refine region_seq ?_
  refine Lm A rfl (A.g 0 rfl) fun _ A => Lo A rfl (y_lenS (e := 69) (by kernel_rfl) (A.g 18 rfl) fun _ A => ?_)
  refine La A rfl (A.g 19 rfl) fun _ A => ?_
  replace A := A.only [16, 8, 7, 6, 2, 1, 0] rfl
  refine hK6 _ _ ?_
  refine wp_seq_k fun K7 hK7 => ?_
  refine wp_seq_k fun K8 hK8 => ?_
  refine region_seq ?_
  refine Lm A rfl (A.g 1 rfl) fun _ A => Lm A rfl (A.g 8 rfl) fun _ A => Lo A rfl (y_eql (A.g 20 rfl) (A.g 21 rfl) (c := true) (by simp) fun _ A => ?_)
  replace A := A.only [22, 16, 8, 7, 6, 2, 1, 0] rfl
  refine hK8 _ _ ?_
  refine wp_cond_true (A.get rfl) ?_
  refine wp_seq_k fun K9 hK9 => ?_
  refine region_seq ?_
  refine Lm A rfl (A.g 0 rfl) fun _ A => Lm A rfl (A.g 2 rfl) fun _ A => Lo A rfl (y_append (n := n) (m := 1) (X := cv.toList.take 2) okSlot (by kernel_rfl) (A.g 23 rfl) (A.g 24 rfl) S hs (by have k := src_at (o := 0) (c := capv) (m := 1) (S.holds (bv, .cells cv 69 (0, 0)) (by simp)) (by omega) (by omega); rw [List.drop_zero] at k; exact k) hVone (by omega) (by omega) fun v2 w H2 hs2 S ac A => ?_)
  refine La A rfl (A.g 25 rfl) fun _ A => ?_
  replace A := A.only [22, 16, 8, 7, 6, 2, 1, 0] rfl
  refine hK9 _ _ ?_
  exact wp_ret ⟨A.defers, _, res_run (rs := [.tmp 6]) (vs := [v2]) rfl ⟨A.get rfl, trivial⟩, ⟨_, H2, rfl, hs2, S.app_left⟩⟩
end Go.Proofs.Ytoijfmfkkmbabaa
namespace Go.Proofs.Ytoijfmfkkmbabaa
open Go.RowKit
theorem insertOk : InsertOk := by
  intro rows row i n hn hi hbig h2 hr2 hcp hone1 hone2
  refine ⟨by kernel_rfl, ?_⟩
  intro D w0 K0 β F I w ys R hK hyl hyr
  match ys, hyl with
  | [y0, y1, y2], _ =>
  have r0 := hyr 0 _ _ rfl rfl
  have r1 := hyr 1 _ _ rfl rfl
  have r2 := hyr 2 _ _ rfl rfl
  have e1 : y1 = .int .i64 (i : Int) := by cases r1 with | d h => cases h; rfl
  subst e1
  obtain ⟨X, G, H0, hF0, hs0, ra0, hH0⟩ := rows_own R (u := 0) rfl hn r0
  obtain ⟨X1, G1, H1, hF1, hs1, ra1, hH1⟩ := rows_own R (u := 1) (n := 1) (rows := [row]) rfl rfl r2
  obtain ⟨bv, capv, cv, rfl, rfl, hcv, hv1, htv⟩ := hs1.block (by omega)
  obtain ⟨a, c, rfl⟩ := hs0.len
  have hst : St D w0 w ((H0 ++ [(bv, .cells cv 69 (0, 0))]) ++ (layF n 2 G ++ (layF 1 2 G1 ++ I))) := by
    have h := R.st
    have e : (List.range ([Blk.rw 69 2 rows, .rw 69 2 [row]]).length).flatMap F = F 0 ++ F 1 := by simp [List.range_succ]
    rw [e, hF0, hF1] at h
    exact h.perm (by classical rw [List.perm_iff_count]; intro z; simp only [List.count_append]; omega)
  have hbw := hH1.one
  have hcell : ∀ j q, j < 2 → cv[j]? = some q → oneC q = true := fun j q hj hq => by
    refine ra1.one hone2 q ?_
    rw [show ([row] : List (List DV)).length = 1 from rfl, ← htv]
    exact List.mem_of_getElem? (i := j) (by rw [List.getElem?_take, if_pos (by omega), Array.getElem?_toList]; exact hq)
  have key : Calls Try.prog 31 #[.slice a n c, .int .i64 (i : Int), .slice (some ⟨bv, 0, none⟩) 1 capv] w (RetW (keys (H0 ++ [(bv, .cells cv 69 (0, 0))])) w fun r H' => SlRep 69 2 r (n + 1) (lay i X ++ (lay 1 X1 ++ (lay n X).drop (i * 2))) H') := by
    have hnd : (keys (H0 ++ [(bv, .cells cv 69 (0, 0))])).Nodup := hst.app_left.nd
    rw [keys_app] at hnd
    have hXl : ∀ a, a < n → (X a).length = 2 := fun a ha => (ra0.hl a _ (List.getElem?_eq_getElem (by omega))).2
    have hX1 : ∀ a, a < 1 → (X1 a).length = 2 := fun a ha => by
      obtain rfl : a = 0 := by omega
      exact (ra1.hl 0 row rfl).2
    rcases Nat.lt_or_ge i n with hlt | hge
    · obtain ⟨b, cap, cs, hq, rfl, hcs, hcap, htk⟩ := hs0.block (by omega)
      simp only [Value.slice.injEq] at hq; obtain ⟨rfl, -, rfl⟩ := hq
      have hone : ∀ j q, j < n * 2 → cs[j]? = some q → oneC q = true := fun j q hj hq => by
        refine ra0.one hone1 q ?_
        rw [← hn, ← htk]
        exact List.mem_of_getElem? (i := j) (by rw [List.getElem?_take, if_pos hj, Array.getElem?_toList]; exact hq)
      have hne : b ≠ bv := fun e => by
        subst e; simp [keys] at hnd
      refine (insert_raw (b := b) (bv := bv) hH0.one hbw hne hcs hcap hlt hcv hv1 (by omega) hone hcell).mono ?_
      rintro e w' ⟨v, H', rfl, ⟨b', cap', cs', rfl, rfl, hcs', hcap', htk'⟩, S⟩
      refine ⟨_, _, rfl, ⟨?_, Or.inr ⟨b', cap', cs', rfl, rfl, hcs', hcap', ?_⟩⟩, S⟩
      · rw [List.length_append, List.length_append, List.length_drop, lay_len (n := i) (fun a ha => hXl a (by omega)), lay_len hXl, lay_len hX1]; omega
      · have hmul : i * 2 ≤ n * 2 := by omega
        rw [htk', lay_take hXl hi, ← htk, List.take_take, Nat.min_eq_left hmul, List.drop_take, show n * 2 - i * 2 = (n - i) * 2 by omega]
        congr 2
    · obtain rfl : i = n := by omega
      have hnd' := List.nodup_append.1 hnd
      refine (insert_end hs0 hbw (fun h => hnd'.2.2 _ h bv (by simp [keys]) rfl) hnd'.1 hH0 hcv hv1 (by omega) hcell).mono ?_
      rintro e w' ⟨v, H', rfl, hsl, S⟩
      refine ⟨_, _, rfl, ?_, S⟩
      rw [show (lay i X).drop (i * 2) = [] from List.drop_eq_nil_of_le (by rw [lay_len hXl]; exact Nat.le_refl _), List.append_nil, ← htv]
      exact hsl
  refine (key).mono ?_
  rintro e w' ⟨v, H', rfl, hsl, S⟩
  obtain ⟨a', c', rfl⟩ := hsl.len
  have S2 := St.call (H := H0 ++ [(bv, .cells cv 69 (0, 0))]) (R := layF n 2 G ++ (layF 1 2 G1 ++ I)) hst rfl S
  refine ⟨_, rfl, β ++ [(a', c')], fun u => if u = 2 then H' ++ (layF i 2 G ++ (layF 1 2 G1 ++ layF (n - i) 2 fun k => G (i + k))) else [], I, ⟨by have := R.len; simp at this ⊢; exact this, ?_, ?_⟩, Ext.app _ _, Grows.refl _, .sl (by have := R.len; simp at this; rw [List.getElem?_append_right (by omega)]; simp [this])⟩
  · intro u bl hu
    match u, hu with
    | 0, hu => simp at hu; subst hu; exact .dead 0
    | 1, hu => simp at hu; subst hu; exact .dead 1
    | 2, hu =>
      simp only [List.getElem?_cons_succ, List.getElem?_cons_zero, Option.some.injEq] at hu; subst hu
      have hq : (β ++ [(a', c')])[2]? = some (a', c') := by have := R.len; simp at this; rw [List.getElem?_append_right (by omega)]; simp [this]
      have rall := (ra0.take (c := i)).app (ra1.app (ra0.drop (c := i)))
      have hti : (rows.take i).length = i := by simp; omega
      have hrl : (List.take i rows ++ ([row] ++ List.drop i rows)).length = n + 1 := by simp; omega
      rw [hti, show ([row] : List (List DV)).length = 1 from rfl] at rall
      have hXl : ∀ a, a < n → (X a).length = 2 := fun a ha => (ra0.hl a _ (List.getElem?_eq_getElem (by omega))).2
      have l1 := lay_app i (1 + (n - i)) X (fun k => if k < 1 then X1 k else X (i + (k - 1)))
      rw [lay_app 1 (n - i) X1 (fun k => X (i + k)), lay_drop hXl hi, show i + (1 + (n - i)) = n + 1 by omega] at l1
      have f1 := layF_app i (1 + (n - i)) 2 G (fun k => if k < 1 then G1 k else G (i + (k - 1)))
      rw [layF_app 1 (n - i) 2 G1 (fun k => G (i + k)), show i + (1 + (n - i)) = n + 1 by omega] at f1
      have := BRel.rw (K := fun w => K0 w ∧ Holds w I) (u := 2) (T := 69) (k := 2) (rows := List.take i rows ++ ([row] ++ List.drop i rows)) (H0 := H') hq _ _ rall.hl (by rw [hrl, l1]; exact hsl) rall.hr
      rw [hrl, f1] at this
      simpa using this
    | u + 3, hu => simp at hu
  · have e : (List.range ([Blk.dead, .dead, .rw 69 2 (List.take i rows ++ ([row] ++ List.drop i rows))]).length).flatMap (fun u => if u = 2 then H' ++ (layF i 2 G ++ (layF 1 2 G1 ++ layF (n - i) 2 fun k => G (i + k))) else []) = H' ++ (layF i 2 G ++ (layF 1 2 G1 ++ layF (n - i) 2 fun k => G (i + k))) := by simp [List.range_succ]
    rw [e]
    rw [layF_split G hi] at S2
    exact S2.perm (by classical rw [List.perm_iff_count]; intro z; simp only [List.count_append]; omega)
end Go.Proofs.Ytoijfmfkkmbabaa
namespace Go.Proofs.Ytoijfmfkkmbabaa
open Go.RowKit
theorem Con.nil2 {P : Program} {f : FuncId} {a : AV} {k : Nat} {x : DV} (h : Con P f [a, .d (.ro k [])] x) : Con P f [a, .d (.v (.slice none 0 0))] x := by
  refine ⟨h.1, fun w K ys hK hl hr => h.2 w K ys hK hl fun j c y h1 h2 => ?_⟩
  match j, h1 with
  | 0, h1 => exact hr 0 c y h1 h2
  | 1, h1 =>
    simp at h1; subst h1
    have := hr 1 _ y rfl h2
    cases this with | d hd => exact .d (Le.nilRo k _ _ _ hd)
  | j + 2, h1 => simp at h1
def goodB (l : List Slot) : Bool := (List.range l.length).all fun k => match l[k]? with | some x => decide (1 ≤ x.n ∧ x.n ≤ 16 ∧ x.body.length ≤ 64) && (k == 0 || match l[k - 1]? with | some y => decide (y.n < x.n) | none => true) | none => true
theorem goodB_ok {l : List Slot} (h : goodB l = true) : Good l l.length := by
  intro k x hk hx
  unfold goodB at h
  rw [List.all_eq_true] at h
  have := h k (List.mem_range.2 hk)
  simp only [hx, Bool.and_eq_true, decide_eq_true_eq] at this
  refine ⟨this.1.1, this.1.2.1, this.1.2.2, fun y h0 hy => ?_⟩
  have h2 := this.2
  simp only [hy, Bool.or_eq_true, beq_iff_eq, decide_eq_true_eq] at h2
  omega
def Flow.okB (f : Flow) : Bool := f.view.may && decide (f.streams.length = f.view.members.length) && decide (f.handed.length = f.view.members.length) && (List.range f.streams.length).all fun i => match f.streams[i]?, f.handed[i]? with | some l, some h => goodB l && decide (h ≤ countS l) | _, _ => true
theorem Flow.okB_may {f : Flow} (h : f.okB = true) : f.may = true := by
  unfold Flow.okB at h
  simp only [Bool.and_eq_true, decide_eq_true_eq, List.all_eq_true, List.mem_range] at h
  obtain ⟨⟨⟨h1, h2⟩, h3⟩, h4⟩ := h
  unfold Flow.may
  refine @decide_eq_true _ (Classical.propDecidable _) ⟨h1, h2, h3, fun i l h hl hh => ?_⟩
  have := h4 i (List.getElem?_eq_some_iff.1 hl).1
  simp only [hl, hh, Bool.and_eq_true, decide_eq_true_eq] at this
  exact ⟨goodB_ok this.1, this.2⟩
theorem Flow.okB_owned {f : Flow} (h : f.okB = true) : f.owned = f := Flow.owned_yes (Flow.okB_may h)
def boundB (f : Flow) : Bool := decide (f.view.members.length < 1073741824) && decide (f.view.starts.length < 1073741824) && decide (f.streams.length < 1073741824) && decide (f.handed.length < 1073741824) && f.streams.all fun l => decide (l.length < 1073741824) && l.all fun x => decide (x.body.length < 1073741824)
theorem boundB_ok {f : Flow} (h : boundB f = true) : f.bounded := by
  unfold boundB at h
  simp only [Bool.and_eq_true, decide_eq_true_eq, List.all_eq_true] at h
  obtain ⟨⟨⟨⟨h1, h2⟩, h3⟩, h4⟩, h5⟩ := h
  exact ⟨⟨h1, h2⟩, h3, h4, fun l hl => h5 l hl⟩
def P5 : Proc := ⟨5, 2⟩
def M1 : Msg := ⟨P5, 2, [98]⟩
def M2 : Msg := ⟨P5, 1, [97]⟩
def M3 : Msg := ⟨P5, 2, [99]⟩
def F0 : Flow := Flow.fresh View.pair
def F1 : Flow := F0.put M1
def F2 : Flow := F1.put M2
def F3 : Flow := F2.hand [1, 9]
def F4 : Flow := F3.hand []
def L1 : List Msg := [M2]
def L2 : List Msg := [M1]
theorem aw1 : Con Try.prog 9 [.ag [.u F0.view.id.round, .z F0.view.id.server.node, .u F0.view.id.server.inc, .d (.ro 2 (procs F0.view.members)), .d (.ro 1 (nums F0.view.starts)), .d (.ro 1 (streams F0.streams)), .d (.ro 1 (nums F0.handed))], .ag [.z M1.src.node, .u M1.src.inc, .u M1.n, .d (.ro 1 (bytesR M1.body))]] (.tu [.ag F1.half, .v (.bool true)]) := by
  have k := takeOk viewMay insertOk F0 M1 (boundB_ok (by decide)) (by decide)
  rw [Flow.okB_owned (f := F0) (by decide), Flow.take_yes (f := F0) (m := M1) (by decide), decide_eq_true (show F0.takes M1 by decide)] at k; exact k
theorem aw2 : Con Try.prog 9 [.ag [.u F1.view.id.round, .z F1.view.id.server.node, .u F1.view.id.server.inc, .d (.ro 2 (procs F1.view.members)), .d (.ro 1 (nums F1.view.starts)), .d (.ro 1 (streams F1.streams)), .d (.ro 1 (nums F1.handed))], .ag [.z M2.src.node, .u M2.src.inc, .u M2.n, .d (.ro 1 (bytesR M2.body))]] (.tu [.ag F2.half, .v (.bool true)]) := by
  have k := takeOk viewMay insertOk F1 M2 (boundB_ok (by decide)) (by decide)
  rw [Flow.okB_owned (f := F1) (by decide), Flow.take_yes (f := F1) (m := M2) (by decide), decide_eq_true (show F1.takes M2 by decide)] at k; exact k
theorem aw3 : Con Try.prog 9 [.ag [.u F2.view.id.round, .z F2.view.id.server.node, .u F2.view.id.server.inc, .d (.ro 2 (procs F2.view.members)), .d (.ro 1 (nums F2.view.starts)), .d (.ro 1 (streams F2.streams)), .d (.ro 1 (nums F2.handed))], .ag [.z M3.src.node, .u M3.src.inc, .u M3.n, .d (.ro 1 (bytesR M3.body))]] (.tu [.ag F2.half, .v (.bool false)]) := by
  have k := takeOk viewMay insertOk F2 M3 (boundB_ok (by decide)) (by decide)
  rw [Flow.okB_owned (f := F2) (by decide), Flow.take_no (f := F2) (m := M3) (by decide), decide_eq_false (show ¬ F2.takes M3 by decide)] at k; exact k
theorem aw4 : Con Try.prog 20 [.ag [.u F2.view.id.round, .z F2.view.id.server.node, .u F2.view.id.server.inc, .d (.ro 2 (procs F2.view.members)), .d (.ro 1 (nums F2.view.starts)), .d (.ro 1 (streams F2.streams)), .d (.ro 1 (nums F2.handed))]] (.em 22 1 (nums [2, 0])) := by
  have k := countsOk viewMay F2 (boundB_ok (by decide))
  unfold Flow.counts at k
  rw [Flow.okB_owned (f := F2) (by decide), show F2.streams.map countS = [2, 0] by decide] at k; exact k
theorem aw5 : Con Try.prog 16 [.ag [.u F2.view.id.round, .z F2.view.id.server.node, .u F2.view.id.server.inc, .d (.ro 2 (procs F2.view.members)), .d (.ro 1 (nums F2.view.starts)), .d (.ro 1 (streams F2.streams)), .d (.ro 1 (nums F2.handed))], .d (.ro 1 (nums [1, 9]))] (.tu [.ag F3.half, .em 36 4 (msgsO L1)]) := by
  have k := handOk viewMay F2 [1, 9] (boundB_ok (by decide)) (by decide)
  rw [Flow.okB_owned (f := F2) (by decide), show handTo F2 [1, 9] F2.streams.length = L1 by decide] at k; exact k
theorem aw6 : Con Try.prog 16 [.ag [.u F3.view.id.round, .z F3.view.id.server.node, .u F3.view.id.server.inc, .d (.ro 2 (procs F3.view.members)), .d (.ro 1 (nums F3.view.starts)), .d (.ro 1 (streams F3.streams)), .d (.ro 1 (nums F3.handed))], .d (.v (.slice none 0 0))] (.tu [.ag F4.half, .em 36 4 (msgsO L2)]) := by
  have k := handOk viewMay F3 [] (boundB_ok (by decide)) (by decide)
  rw [Flow.okB_owned (f := F3) (by decide), show handTo F3 [] F3.streams.length = L2 by decide] at k; exact k.nil2
theorem aw7 : Con Try.prog 22 [.ag [.u F2.view.id.round, .z F2.view.id.server.node, .u F2.view.id.server.inc, .d (.ro 2 (procs F2.view.members)), .d (.ro 1 (nums F2.view.starts)), .d (.ro 1 (streams F2.streams)), .d (.ro 1 (nums F2.handed))], .d (.ro 1 (nums [1, 0]))] (.em 36 4 (msgsO L2)) := by
  have k := lackOk viewMay F2 [1, 0] (boundB_ok (by decide)) (by decide)
  rw [Flow.okB_owned (f := F2) (by decide), show lackTo F2 [1, 0] F2.streams.length = L2 by decide] at k; exact k
theorem Ind.procs (T : Nat) (l : List Proc) : Ind (.em T 2 (procs l)) := .em (by
  intro r hr c hc
  obtain ⟨p, -, rfl⟩ := List.mem_map.1 hr
  simp only [Proc.row, List.mem_cons, List.not_mem_nil, or_false] at hc; rcases hc with rfl | rfl <;> exact ind_v _)
theorem Ind.nums (T : Nat) (l : List Nat) : Ind (.em T 1 (nums l)) := .em (by
  intro r hr c hc
  obtain ⟨p, -, rfl⟩ := List.mem_map.1 hr
  simp only [List.mem_cons, List.not_mem_nil, or_false] at hc; subst hc; exact ind_v _)
end Go.Proofs.Ytoijfmfkkmbabaa
namespace Go.Proofs.Ytoijfmfkkmbabaa
open Go.RowKit
theorem froz_procs (l : List Proc) : frozR (procs l) = procs l := by
  rw [frozR_map]; unfold procs; rw [List.map_map]; apply List.map_congr_left; intro s _; show [froz (.v _), froz (.v _)] = _; rw [froz, froz]; rfl
theorem froz_nums (l : List Nat) : frozR (nums l) = nums l := by
  rw [frozR_map]; unfold nums; rw [List.map_map]; apply List.map_congr_left; intro s _; show [froz (.v _)] = _; rw [froz]
theorem froz_msgs' (l : List Msg) : frozR (msgs l) = msgs l := by
  rw [frozR_map]; unfold msgs; rw [List.map_map]; apply List.map_congr_left; intro s _; show [froz (.v _), froz (.v _), froz (.v _), froz (.ro _ _)] = _; rw [froz, froz, froz, froz]; rfl
theorem froz_ebytes (l : List UInt8) : frozR ([] ++ bytesR l) = bytesR l := by rw [List.nil_append, froz_bytes]
theorem froz_enums (l : List Nat) : frozR ([] ++ nums l) = nums l := by rw [List.nil_append, froz_nums]
set_option maxRecDepth 100000 in
theorem awakeOk  : Con Try.prog 7 [] (.v (.bool true)) := by
  refine Con.intro (by kernel_rfl) rfl rfl 97 rfl rfl fun w0 K ac hK r => ?_
  have v2_0 := (openOk View.pair (by unfold View.bounded; decide))
  have v2_1 := (rfD (.u View.pair.id.round))
  have v2_2 := (rfD (.z View.pair.id.server.node))
  have v2_3 := (rfD (.u View.pair.id.server.inc))
  have v2_4 := (rfN ((procs View.pair.members).length))
  have v2_5 := ((by first | exact froz_procs _ | exact froz_nums _ | exact froz_strm _ | exact froz_streams _ | exact froz_msgs _ | exact froz_msgs' _ | exact froz_ebytes _ | exact froz_enums _ | exact froz_nums [1, 9] | exact froz_nums [1, 0]) : frozR (procs View.pair.members) = procs View.pair.members)
  have v2_6 := (rfN ((nums View.pair.starts).length))
  have v2_7 := ((by first | exact froz_procs _ | exact froz_nums _ | exact froz_strm _ | exact froz_streams _ | exact froz_msgs _ | exact froz_msgs' _ | exact froz_ebytes _ | exact froz_enums _ | exact froz_nums [1, 9] | exact froz_nums [1, 0]) : frozR (nums View.pair.starts) = nums View.pair.starts)
  have v2_8 := ((by simp) : (1) = ([[.v (.int .u8 98)]] : List (List DV)).length)
  have v2_9 := (rfD (.u F0.view.id.round))
  have v2_10 := (rfD (.z F0.view.id.server.node))
  have v2_11 := (rfD (.u F0.view.id.server.inc))
  have v2_12 := (rfN ((procs F0.view.members).length))
  have v2_13 := ((by first | exact froz_procs _ | exact froz_nums _ | exact froz_strm _ | exact froz_streams _ | exact froz_msgs _ | exact froz_msgs' _ | exact froz_ebytes _ | exact froz_enums _ | exact froz_nums [1, 9] | exact froz_nums [1, 0]) : frozR (procs F0.view.members) = procs F0.view.members)
  have v2_14 := (rfN ((nums F0.view.starts).length))
  have v2_15 := ((by first | exact froz_procs _ | exact froz_nums _ | exact froz_strm _ | exact froz_streams _ | exact froz_msgs _ | exact froz_msgs' _ | exact froz_ebytes _ | exact froz_enums _ | exact froz_nums [1, 9] | exact froz_nums [1, 0]) : frozR (nums F0.view.starts) = nums F0.view.starts)
  have v2_16 := (rfN ((streamsO F0.streams).length))
  have v2_17 := ((by first | exact froz_procs _ | exact froz_nums _ | exact froz_strm _ | exact froz_streams _ | exact froz_msgs _ | exact froz_msgs' _ | exact froz_ebytes _ | exact froz_enums _ | exact froz_nums [1, 9] | exact froz_nums [1, 0]) : frozR (streamsO F0.streams) = streams F0.streams)
  have v2_18 := (rfN ((nums F0.handed).length))
  have v2_19 := ((by first | exact froz_procs _ | exact froz_nums _ | exact froz_strm _ | exact froz_streams _ | exact froz_msgs _ | exact froz_msgs' _ | exact froz_ebytes _ | exact froz_enums _ | exact froz_nums [1, 9] | exact froz_nums [1, 0]) : frozR (nums F0.handed) = nums F0.handed)
  have v2_20 := (rfl : (.z 5 : DV) = .z M1.src.node)
  have v2_21 := (rfl : (.v (.int .u64 2) : DV) = .u M1.src.inc)
  have v2_22 := (rfl : (.v (.int .u64 2) : DV) = .u M1.n)
  have v2_23 := (rfl : (.ro 1 ([[.v (.int .u8 98)]]) : DV) = .ro 1 (bytesR M1.body))
  refine toDraw (todo' := aft Try.f7 2) (E' := [(0, .d (.v (.bool false))), (1, .pt 0 0), (2, .pt 12 0), (3, .d (.v (.bool true)))]) (M' := [.bx 24 [.z 5, .d (.v (.int .u64 2))], .dead, .dead, .dead, .dead, .dead, .dead, .dead, .rw 24 2 (procs F1.view.members), .rw 22 1 (nums F1.view.starts), .rw 67 1 (streams F1.streams), .rw 22 1 (nums F1.handed), .bx 33 [.u F1.view.id.round, .z F1.view.id.server.node, .u F1.view.id.server.inc, .sl 8 ((procs F1.view.members).length), .sl 9 ((nums F1.view.starts).length), .sl 10 ((streams F1.streams).length), .sl 11 ((nums F1.handed).length)]]) tb_ok mixed_ok hK [(2, [(0, .con (.ag [.u View.pair.id.round, .z View.pair.id.server.node, .u View.pair.id.server.inc, .em 24 2 (procs View.pair.members), .em 22 1 (nums View.pair.starts)])), (1, .stay [.ag [.u View.pair.id.round, .z View.pair.id.server.node, .u View.pair.id.server.inc, .d (.ro 2 (procs View.pair.members)), .d (.ro 1 (nums View.pair.starts))]] (.ag [.u F0.view.id.round, .z F0.view.id.server.node, .u F0.view.id.server.inc, .em 24 2 (procs F0.view.members), .em 22 1 (nums F0.view.starts), .em 67 1 (streamsO F0.streams), .em 22 1 (nums F0.handed)])), (6, .stay [.ag [.u F0.view.id.round, .z F0.view.id.server.node, .u F0.view.id.server.inc, .d (.ro 2 (procs F0.view.members)), .d (.ro 1 (nums F0.view.starts)), .d (.ro 1 (streams F0.streams)), .d (.ro 1 (nums F0.handed))], .ag [.z M1.src.node, .u M1.src.inc, .u M1.n, .d (.ro 1 (bytesR M1.body))]] (.tu [.ag [.u F1.view.id.round, .z F1.view.id.server.node, .u F1.view.id.server.inc, .em 24 2 (procs F1.view.members), .em 22 1 (nums F1.view.starts), .em 67 1 (streams F1.streams), .em 22 1 (nums F1.handed)], .v (.bool true)]))])] 5 36 [4] [[0, 1, 2, 3, 4, 5, 6, 7, 8, 9, 10, 11, 12], [0, 1, 2, 3, 4, 5, 6, 7, 9, 10, 11, 12, 8], [0, 1, 2, 3, 4, 5, 6, 7, 9, 10, 11, 12, 8], [0, 1, 2, 3, 4, 5, 6, 8, 9, 10, 11, 12, 7], [0, 1, 2, 4, 5, 6, 7, 3, 8, 9, 10, 11, 12], [0, 1, 2, 4, 5, 6, 7, 3, 9, 10, 11, 12, 8], [0, 1, 2, 4, 5, 6, 7, 3, 9, 10, 11, 12, 8], [0, 1, 2, 4, 5, 6, 7, 3, 8, 9, 10, 11, 12], [0, 1, 2, 4, 5, 6, 7, 3, 9, 10, 11, 12, 8], [0, 1, 2, 5, 6, 7, 8, 3, 9, 10, 11, 12, 4], [0, 1, 2, 5, 6, 7, 8, 3, 9, 10, 11, 12, 4], [0, 1, 2, 5, 6, 7, 8, 3, 9, 10, 11, 12, 4], [0, 1, 2, 4, 5, 6, 7, 8, 9, 10, 11, 12, 3], [0, 1, 2, 5, 6, 7, 8, 4, 9, 10, 11, 12, 3], [0, 1, 2, 5, 6, 7, 8, 4, 9, 10, 11, 12, 3], [0, 2, 3, 4, 5, 6, 7, 1, 8, 9, 10, 11, 12], [0, 2, 3, 4, 5, 6, 7, 1, 9, 10, 11, 12, 8], [0, 2, 3, 4, 5, 6, 7, 1, 9, 10, 11, 12, 8], [0, 2, 3, 4, 5, 6, 7, 1, 8, 9, 10, 11, 12], [0, 2, 3, 4, 5, 6, 7, 1, 9, 10, 11, 12, 8], [0, 2, 3, 5, 6, 7, 8, 1, 9, 10, 11, 12, 4], [0, 2, 3, 5, 6, 7, 8, 1, 9, 10, 11, 12, 4], [0, 2, 3, 5, 6, 7, 8, 1, 9, 10, 11, 12, 4], [0, 2, 3, 4, 5, 6, 7, 1, 8, 9, 10, 11, 12], [0, 2, 3, 4, 5, 6, 7, 1, 9, 10, 11, 12, 8], [0, 2, 3, 5, 6, 7, 8, 1, 9, 10, 11, 12, 4], [0, 3, 4, 5, 6, 7, 8, 1, 9, 10, 11, 12, 2], [0, 3, 4, 5, 6, 7, 8, 1, 9, 10, 11, 12, 2], [0, 3, 4, 5, 6, 7, 8, 1, 9, 10, 11, 12, 2], [0, 3, 4, 5, 6, 7, 8, 1, 9, 10, 11, 12, 2], [0, 2, 3, 4, 5, 6, 7, 8, 9, 10, 11, 12, 1], [0, 2, 3, 5, 6, 7, 8, 4, 9, 10, 11, 12, 1], [0, 2, 3, 5, 6, 7, 8, 4, 9, 10, 11, 12, 1], [0, 3, 4, 5, 6, 7, 8, 2, 9, 10, 11, 12, 1], [0, 3, 4, 5, 6, 7, 8, 2, 9, 10, 11, 12, 1], [0, 3, 4, 5, 6, 7, 8, 2, 9, 10, 11, 12, 1]] [0, 1, 2, 3] r (by kernel_rfl) (an (an (pairOk) (an v2_0 (an v2_1 (an v2_2 (an v2_3 (an (rfN (2)) (an v2_4 (an v2_5 (an (rfN (1)) (an v2_6 (an v2_7 (an v2_8 (an ((by simp) : 0 < (1)) (an (aw1) (an v2_9 (an v2_10 (an v2_11 (an (rfN (2)) (an v2_12 (an v2_13 (an (rfN (1)) (an v2_14 (an v2_15 (an (rfN (1)) (an v2_16 (an v2_17 (an (rfN (1)) (an v2_18 (an v2_19 (an v2_20 (an v2_21 (an v2_22 (an v2_23 trivial))))))))))))))))))))))))))))))))) (an (an (pairOk) (an v2_0 (an v2_1 (an v2_2 (an v2_3 (an (rfN (2)) (an v2_4 (an v2_5 (an (rfN (1)) (an v2_6 (an v2_7 (an v2_8 (an ((by simp) : 0 < (1)) (an (aw1) (an v2_9 (an v2_10 (an v2_11 (an (rfN (2)) (an v2_12 (an v2_13 (an (rfN (1)) (an v2_14 (an v2_15 (an (rfN (1)) (an v2_16 (an v2_17 (an (rfN (1)) (an v2_18 (an v2_19 (an v2_20 (an v2_21 (an v2_22 (an v2_23 trivial))))))))))))))))))))))))))))))))) (an (an (pairOk) (an v2_0 (an v2_1 (an v2_2 (an v2_3 (an (rfN (2)) (an v2_4 (an v2_5 (an (rfN (1)) (an v2_6 (an v2_7 (an v2_8 (an ((by simp) : 0 < (1)) (an (aw1) (an v2_9 (an v2_10 (an v2_11 (an (rfN (2)) (an v2_12 (an v2_13 (an (rfN (1)) (an v2_14 (an v2_15 (an (rfN (1)) (an v2_16 (an v2_17 (an (rfN (1)) (an v2_18 (an v2_19 (an v2_20 (an v2_21 (an v2_22 (an v2_23 trivial))))))))))))))))))))))))))))))))) (an (an (pairOk) (an v2_0 (an v2_1 (an v2_2 (an v2_3 (an (rfN (2)) (an v2_4 (an v2_5 (an (rfN (1)) (an v2_6 (an v2_7 (an v2_8 (an ((by simp) : 0 < (1)) (an (aw1) (an v2_9 (an v2_10 (an v2_11 (an (rfN (2)) (an v2_12 (an v2_13 (an (rfN (1)) (an v2_14 (an v2_15 (an (rfN (1)) (an v2_16 (an v2_17 (an (rfN (1)) (an v2_18 (an v2_19 (an v2_20 (an v2_21 (an v2_22 (an v2_23 trivial))))))))))))))))))))))))))))))))) (an (an (pairOk) (an v2_0 (an v2_1 (an v2_2 (an v2_3 (an (rfN (2)) (an v2_4 (an v2_5 (an (rfN (1)) (an v2_6 (an v2_7 (an v2_8 (an ((by simp) : 0 < (1)) (an (aw1) (an v2_9 (an v2_10 (an v2_11 (an (rfN (2)) (an v2_12 (an v2_13 (an (rfN (1)) (an v2_14 (an v2_15 (an (rfN (1)) (an v2_16 (an v2_17 (an (rfN (1)) (an v2_18 (an v2_19 (an v2_20 (an v2_21 (an v2_22 (an v2_23 trivial))))))))))))))))))))))))))))))))) (an (an (pairOk) (an v2_0 (an v2_1 (an v2_2 (an v2_3 (an (rfN (2)) (an v2_4 (an v2_5 (an (rfN (1)) (an v2_6 (an v2_7 (an v2_8 (an ((by simp) : 0 < (1)) (an (aw1) (an v2_9 (an v2_10 (an v2_11 (an (rfN (2)) (an v2_12 (an v2_13 (an (rfN (1)) (an v2_14 (an v2_15 (an (rfN (1)) (an v2_16 (an v2_17 (an (rfN (1)) (an v2_18 (an v2_19 (an v2_20 (an v2_21 (an v2_22 (an v2_23 trivial))))))))))))))))))))))))))))))))) (an (an (pairOk) (an v2_0 (an v2_1 (an v2_2 (an v2_3 (an (rfN (2)) (an v2_4 (an v2_5 (an (rfN (1)) (an v2_6 (an v2_7 (an v2_8 (an ((by simp) : 0 < (1)) (an (aw1) (an v2_9 (an v2_10 (an v2_11 (an (rfN (2)) (an v2_12 (an v2_13 (an (rfN (1)) (an v2_14 (an v2_15 (an (rfN (1)) (an v2_16 (an v2_17 (an (rfN (1)) (an v2_18 (an v2_19 (an v2_20 (an v2_21 (an v2_22 (an v2_23 trivial))))))))))))))))))))))))))))))))) (an (an (pairOk) (an v2_8 (an ((by simp) : 0 < (1)) (an v2_0 (an v2_1 (an v2_2 (an v2_3 (an (rfN (2)) (an v2_4 (an v2_5 (an (rfN (1)) (an v2_6 (an v2_7 (an (aw1) (an v2_9 (an v2_10 (an v2_11 (an (rfN (2)) (an v2_12 (an v2_13 (an (rfN (1)) (an v2_14 (an v2_15 (an (rfN (1)) (an v2_16 (an v2_17 (an (rfN (1)) (an v2_18 (an v2_19 (an v2_20 (an v2_21 (an v2_22 (an v2_23 trivial))))))))))))))))))))))))))))))))) (an (an (pairOk) (an v2_8 (an ((by simp) : 0 < (1)) (an v2_0 (an v2_1 (an v2_2 (an v2_3 (an (rfN (2)) (an v2_4 (an v2_5 (an (rfN (1)) (an v2_6 (an v2_7 (an (aw1) (an v2_9 (an v2_10 (an v2_11 (an (rfN (2)) (an v2_12 (an v2_13 (an (rfN (1)) (an v2_14 (an v2_15 (an (rfN (1)) (an v2_16 (an v2_17 (an (rfN (1)) (an v2_18 (an v2_19 (an v2_20 (an v2_21 (an v2_22 (an v2_23 trivial))))))))))))))))))))))))))))))))) (an (an (pairOk) (an v2_8 (an ((by simp) : 0 < (1)) (an v2_0 (an v2_1 (an v2_2 (an v2_3 (an (rfN (2)) (an v2_4 (an v2_5 (an (rfN (1)) (an v2_6 (an v2_7 (an (aw1) (an v2_9 (an v2_10 (an v2_11 (an (rfN (2)) (an v2_12 (an v2_13 (an (rfN (1)) (an v2_14 (an v2_15 (an (rfN (1)) (an v2_16 (an v2_17 (an (rfN (1)) (an v2_18 (an v2_19 (an v2_20 (an v2_21 (an v2_22 (an v2_23 trivial))))))))))))))))))))))))))))))))) (an (an (pairOk) (an v2_0 (an v2_1 (an v2_2 (an v2_3 (an (rfN (2)) (an v2_4 (an v2_5 (an (rfN (1)) (an v2_6 (an v2_7 (an v2_8 (an ((by simp) : 0 < (1)) (an (aw1) (an v2_9 (an v2_10 (an v2_11 (an (rfN (2)) (an v2_12 (an v2_13 (an (rfN (1)) (an v2_14 (an v2_15 (an (rfN (1)) (an v2_16 (an v2_17 (an (rfN (1)) (an v2_18 (an v2_19 (an v2_20 (an v2_21 (an v2_22 (an v2_23 trivial))))))))))))))))))))))))))))))))) (an (an (pairOk) (an v2_8 (an ((by simp) : 0 < (1)) (an v2_0 (an v2_1 (an v2_2 (an v2_3 (an (rfN (2)) (an v2_4 (an v2_5 (an (rfN (1)) (an v2_6 (an v2_7 (an (aw1) (an v2_9 (an v2_10 (an v2_11 (an (rfN (2)) (an v2_12 (an v2_13 (an (rfN (1)) (an v2_14 (an v2_15 (an (rfN (1)) (an v2_16 (an v2_17 (an (rfN (1)) (an v2_18 (an v2_19 (an v2_20 (an v2_21 (an v2_22 (an v2_23 trivial))))))))))))))))))))))))))))))))) (an (an (pairOk) (an v2_0 (an v2_1 (an v2_2 (an v2_3 (an (rfN (2)) (an v2_4 (an v2_5 (an (rfN (1)) (an v2_6 (an v2_7 (an v2_8 (an ((by simp) : 0 < (1)) (an (aw1) (an v2_9 (an v2_10 (an v2_11 (an (rfN (2)) (an v2_12 (an v2_13 (an (rfN (1)) (an v2_14 (an v2_15 (an (rfN (1)) (an v2_16 (an v2_17 (an (rfN (1)) (an v2_18 (an v2_19 (an v2_20 (an v2_21 (an v2_22 (an v2_23 trivial))))))))))))))))))))))))))))))))) (an (an (pairOk) (an v2_0 (an v2_1 (an v2_2 (an v2_3 (an (rfN (2)) (an v2_4 (an v2_5 (an (rfN (1)) (an v2_6 (an v2_7 (an v2_8 (an ((by simp) : 0 < (1)) (an (aw1) (an v2_9 (an v2_10 (an v2_11 (an (rfN (2)) (an v2_12 (an v2_13 (an (rfN (1)) (an v2_14 (an v2_15 (an (rfN (1)) (an v2_16 (an v2_17 (an (rfN (1)) (an v2_18 (an v2_19 (an v2_20 (an v2_21 (an v2_22 (an v2_23 trivial))))))))))))))))))))))))))))))))) (an (an (pairOk) (an v2_8 (an ((by simp) : 0 < (1)) (an v2_0 (an v2_1 (an v2_2 (an v2_3 (an (rfN (2)) (an v2_4 (an v2_5 (an (rfN (1)) (an v2_6 (an v2_7 (an (aw1) (an v2_9 (an v2_10 (an v2_11 (an (rfN (2)) (an v2_12 (an v2_13 (an (rfN (1)) (an v2_14 (an v2_15 (an (rfN (1)) (an v2_16 (an v2_17 (an (rfN (1)) (an v2_18 (an v2_19 (an v2_20 (an v2_21 (an v2_22 (an v2_23 trivial))))))))))))))))))))))))))))))))) (an (an (pairOk) (an v2_0 (an v2_1 (an v2_2 (an v2_3 (an (rfN (2)) (an v2_4 (an v2_5 (an (rfN (1)) (an v2_6 (an v2_7 (an v2_8 (an ((by simp) : 0 < (1)) (an (aw1) (an v2_9 (an v2_10 (an v2_11 (an (rfN (2)) (an v2_12 (an v2_13 (an (rfN (1)) (an v2_14 (an v2_15 (an (rfN (1)) (an v2_16 (an v2_17 (an (rfN (1)) (an v2_18 (an v2_19 (an v2_20 (an v2_21 (an v2_22 (an v2_23 trivial))))))))))))))))))))))))))))))))) (an (an (pairOk) (an v2_0 (an v2_1 (an v2_2 (an v2_3 (an (rfN (2)) (an v2_4 (an v2_5 (an (rfN (1)) (an v2_6 (an v2_7 (an v2_8 (an ((by simp) : 0 < (1)) (an (aw1) (an v2_9 (an v2_10 (an v2_11 (an (rfN (2)) (an v2_12 (an v2_13 (an (rfN (1)) (an v2_14 (an v2_15 (an (rfN (1)) (an v2_16 (an v2_17 (an (rfN (1)) (an v2_18 (an v2_19 (an v2_20 (an v2_21 (an v2_22 (an v2_23 trivial))))))))))))))))))))))))))))))))) (an (an (pairOk) (an v2_0 (an v2_1 (an v2_2 (an v2_3 (an (rfN (2)) (an v2_4 (an v2_5 (an (rfN (1)) (an v2_6 (an v2_7 (an v2_8 (an ((by simp) : 0 < (1)) (an (aw1) (an v2_9 (an v2_10 (an v2_11 (an (rfN (2)) (an v2_12 (an v2_13 (an (rfN (1)) (an v2_14 (an v2_15 (an (rfN (1)) (an v2_16 (an v2_17 (an (rfN (1)) (an v2_18 (an v2_19 (an v2_20 (an v2_21 (an v2_22 (an v2_23 trivial))))))))))))))))))))))))))))))))) (an (an (pairOk) (an v2_8 (an ((by simp) : 0 < (1)) (an v2_0 (an v2_1 (an v2_2 (an v2_3 (an (rfN (2)) (an v2_4 (an v2_5 (an (rfN (1)) (an v2_6 (an v2_7 (an (aw1) (an v2_9 (an v2_10 (an v2_11 (an (rfN (2)) (an v2_12 (an v2_13 (an (rfN (1)) (an v2_14 (an v2_15 (an (rfN (1)) (an v2_16 (an v2_17 (an (rfN (1)) (an v2_18 (an v2_19 (an v2_20 (an v2_21 (an v2_22 (an v2_23 trivial))))))))))))))))))))))))))))))))) (an (an (pairOk) (an v2_8 (an ((by simp) : 0 < (1)) (an v2_0 (an v2_1 (an v2_2 (an v2_3 (an (rfN (2)) (an v2_4 (an v2_5 (an (rfN (1)) (an v2_6 (an v2_7 (an (aw1) (an v2_9 (an v2_10 (an v2_11 (an (rfN (2)) (an v2_12 (an v2_13 (an (rfN (1)) (an v2_14 (an v2_15 (an (rfN (1)) (an v2_16 (an v2_17 (an (rfN (1)) (an v2_18 (an v2_19 (an v2_20 (an v2_21 (an v2_22 (an v2_23 trivial))))))))))))))))))))))))))))))))) (an (an (pairOk) (an v2_8 (an ((by simp) : 0 < (1)) (an v2_0 (an v2_1 (an v2_2 (an v2_3 (an (rfN (2)) (an v2_4 (an v2_5 (an (rfN (1)) (an v2_6 (an v2_7 (an (aw1) (an v2_9 (an v2_10 (an v2_11 (an (rfN (2)) (an v2_12 (an v2_13 (an (rfN (1)) (an v2_14 (an v2_15 (an (rfN (1)) (an v2_16 (an v2_17 (an (rfN (1)) (an v2_18 (an v2_19 (an v2_20 (an v2_21 (an v2_22 (an v2_23 trivial))))))))))))))))))))))))))))))))) (an (an (pairOk) (an v2_0 (an v2_1 (an v2_2 (an v2_3 (an (rfN (2)) (an v2_4 (an v2_5 (an (rfN (1)) (an v2_6 (an v2_7 (an v2_8 (an ((by simp) : 0 < (1)) (an (aw1) (an v2_9 (an v2_10 (an v2_11 (an (rfN (2)) (an v2_12 (an v2_13 (an (rfN (1)) (an v2_14 (an v2_15 (an (rfN (1)) (an v2_16 (an v2_17 (an (rfN (1)) (an v2_18 (an v2_19 (an v2_20 (an v2_21 (an v2_22 (an v2_23 trivial))))))))))))))))))))))))))))))))) (an (an (pairOk) (an v2_8 (an ((by simp) : 0 < (1)) (an v2_0 (an v2_1 (an v2_2 (an v2_3 (an (rfN (2)) (an v2_4 (an v2_5 (an (rfN (1)) (an v2_6 (an v2_7 (an (aw1) (an v2_9 (an v2_10 (an v2_11 (an (rfN (2)) (an v2_12 (an v2_13 (an (rfN (1)) (an v2_14 (an v2_15 (an (rfN (1)) (an v2_16 (an v2_17 (an (rfN (1)) (an v2_18 (an v2_19 (an v2_20 (an v2_21 (an v2_22 (an v2_23 trivial))))))))))))))))))))))))))))))))) (an (an v2_8 (an ((by simp) : 0 < (1)) (an (pairOk) (an v2_0 (an v2_1 (an v2_2 (an v2_3 (an (rfN (2)) (an v2_4 (an v2_5 (an (rfN (1)) (an v2_6 (an v2_7 (an (aw1) (an v2_9 (an v2_10 (an v2_11 (an (rfN (2)) (an v2_12 (an v2_13 (an (rfN (1)) (an v2_14 (an v2_15 (an (rfN (1)) (an v2_16 (an v2_17 (an (rfN (1)) (an v2_18 (an v2_19 (an v2_20 (an v2_21 (an v2_22 (an v2_23 trivial))))))))))))))))))))))))))))))))) (an (an v2_8 (an ((by simp) : 0 < (1)) (an (pairOk) (an v2_0 (an v2_1 (an v2_2 (an v2_3 (an (rfN (2)) (an v2_4 (an v2_5 (an (rfN (1)) (an v2_6 (an v2_7 (an (aw1) (an v2_9 (an v2_10 (an v2_11 (an (rfN (2)) (an v2_12 (an v2_13 (an (rfN (1)) (an v2_14 (an v2_15 (an (rfN (1)) (an v2_16 (an v2_17 (an (rfN (1)) (an v2_18 (an v2_19 (an v2_20 (an v2_21 (an v2_22 (an v2_23 trivial))))))))))))))))))))))))))))))))) (an (an v2_8 (an ((by simp) : 0 < (1)) (an (pairOk) (an v2_0 (an v2_1 (an v2_2 (an v2_3 (an (rfN (2)) (an v2_4 (an v2_5 (an (rfN (1)) (an v2_6 (an v2_7 (an (aw1) (an v2_9 (an v2_10 (an v2_11 (an (rfN (2)) (an v2_12 (an v2_13 (an (rfN (1)) (an v2_14 (an v2_15 (an (rfN (1)) (an v2_16 (an v2_17 (an (rfN (1)) (an v2_18 (an v2_19 (an v2_20 (an v2_21 (an v2_22 (an v2_23 trivial))))))))))))))))))))))))))))))))) (an (an v2_8 (an ((by simp) : 0 < (1)) (an (pairOk) (an v2_0 (an v2_1 (an v2_2 (an v2_3 (an (rfN (2)) (an v2_4 (an v2_5 (an (rfN (1)) (an v2_6 (an v2_7 (an (aw1) (an v2_9 (an v2_10 (an v2_11 (an (rfN (2)) (an v2_12 (an v2_13 (an (rfN (1)) (an v2_14 (an v2_15 (an (rfN (1)) (an v2_16 (an v2_17 (an (rfN (1)) (an v2_18 (an v2_19 (an v2_20 (an v2_21 (an v2_22 (an v2_23 trivial))))))))))))))))))))))))))))))))) (an (an (pairOk) (an v2_0 (an v2_1 (an v2_2 (an v2_3 (an (rfN (2)) (an v2_4 (an v2_5 (an (rfN (1)) (an v2_6 (an v2_7 (an v2_8 (an ((by simp) : 0 < (1)) (an (aw1) (an v2_9 (an v2_10 (an v2_11 (an (rfN (2)) (an v2_12 (an v2_13 (an (rfN (1)) (an v2_14 (an v2_15 (an (rfN (1)) (an v2_16 (an v2_17 (an (rfN (1)) (an v2_18 (an v2_19 (an v2_20 (an v2_21 (an v2_22 (an v2_23 trivial))))))))))))))))))))))))))))))))) (an (an (pairOk) (an v2_8 (an ((by simp) : 0 < (1)) (an v2_0 (an v2_1 (an v2_2 (an v2_3 (an (rfN (2)) (an v2_4 (an v2_5 (an (rfN (1)) (an v2_6 (an v2_7 (an (aw1) (an v2_9 (an v2_10 (an v2_11 (an (rfN (2)) (an v2_12 (an v2_13 (an (rfN (1)) (an v2_14 (an v2_15 (an (rfN (1)) (an v2_16 (an v2_17 (an (rfN (1)) (an v2_18 (an v2_19 (an v2_20 (an v2_21 (an v2_22 (an v2_23 trivial))))))))))))))))))))))))))))))))) (an (an v2_8 (an ((by simp) : 0 < (1)) (an (pairOk) (an v2_0 (an v2_1 (an v2_2 (an v2_3 (an (rfN (2)) (an v2_4 (an v2_5 (an (rfN (1)) (an v2_6 (an v2_7 (an (aw1) (an v2_9 (an v2_10 (an v2_11 (an (rfN (2)) (an v2_12 (an v2_13 (an (rfN (1)) (an v2_14 (an v2_15 (an (rfN (1)) (an v2_16 (an v2_17 (an (rfN (1)) (an v2_18 (an v2_19 (an v2_20 (an v2_21 (an v2_22 (an v2_23 trivial))))))))))))))))))))))))))))))))) (an (an (pairOk) (an v2_0 (an v2_1 (an v2_2 (an v2_3 (an (rfN (2)) (an v2_4 (an v2_5 (an (rfN (1)) (an v2_6 (an v2_7 (an v2_8 (an ((by simp) : 0 < (1)) (an (aw1) (an v2_9 (an v2_10 (an v2_11 (an (rfN (2)) (an v2_12 (an v2_13 (an (rfN (1)) (an v2_14 (an v2_15 (an (rfN (1)) (an v2_16 (an v2_17 (an (rfN (1)) (an v2_18 (an v2_19 (an v2_20 (an v2_21 (an v2_22 (an v2_23 trivial))))))))))))))))))))))))))))))))) (an (an (pairOk) (an v2_0 (an v2_1 (an v2_2 (an v2_3 (an (rfN (2)) (an v2_4 (an v2_5 (an (rfN (1)) (an v2_6 (an v2_7 (an v2_8 (an ((by simp) : 0 < (1)) (an (aw1) (an v2_9 (an v2_10 (an v2_11 (an (rfN (2)) (an v2_12 (an v2_13 (an (rfN (1)) (an v2_14 (an v2_15 (an (rfN (1)) (an v2_16 (an v2_17 (an (rfN (1)) (an v2_18 (an v2_19 (an v2_20 (an v2_21 (an v2_22 (an v2_23 trivial))))))))))))))))))))))))))))))))) (an (an (pairOk) (an v2_8 (an ((by simp) : 0 < (1)) (an v2_0 (an v2_1 (an v2_2 (an v2_3 (an (rfN (2)) (an v2_4 (an v2_5 (an (rfN (1)) (an v2_6 (an v2_7 (an (aw1) (an v2_9 (an v2_10 (an v2_11 (an (rfN (2)) (an v2_12 (an v2_13 (an (rfN (1)) (an v2_14 (an v2_15 (an (rfN (1)) (an v2_16 (an v2_17 (an (rfN (1)) (an v2_18 (an v2_19 (an v2_20 (an v2_21 (an v2_22 (an v2_23 trivial))))))))))))))))))))))))))))))))) (an (an (pairOk) (an v2_0 (an v2_1 (an v2_2 (an v2_3 (an (rfN (2)) (an v2_4 (an v2_5 (an (rfN (1)) (an v2_6 (an v2_7 (an v2_8 (an ((by simp) : 0 < (1)) (an (aw1) (an v2_9 (an v2_10 (an v2_11 (an (rfN (2)) (an v2_12 (an v2_13 (an (rfN (1)) (an v2_14 (an v2_15 (an (rfN (1)) (an v2_16 (an v2_17 (an (rfN (1)) (an v2_18 (an v2_19 (an v2_20 (an v2_21 (an v2_22 (an v2_23 trivial))))))))))))))))))))))))))))))))) (an (an (pairOk) (an v2_8 (an ((by simp) : 0 < (1)) (an v2_0 (an v2_1 (an v2_2 (an v2_3 (an (rfN (2)) (an v2_4 (an v2_5 (an (rfN (1)) (an v2_6 (an v2_7 (an (aw1) (an v2_9 (an v2_10 (an v2_11 (an (rfN (2)) (an v2_12 (an v2_13 (an (rfN (1)) (an v2_14 (an v2_15 (an (rfN (1)) (an v2_16 (an v2_17 (an (rfN (1)) (an v2_18 (an v2_19 (an v2_20 (an v2_21 (an v2_22 (an v2_23 trivial))))))))))))))))))))))))))))))))) (an (an v2_8 (an ((by simp) : 0 < (1)) (an (pairOk) (an v2_0 (an v2_1 (an v2_2 (an v2_3 (an (rfN (2)) (an v2_4 (an v2_5 (an (rfN (1)) (an v2_6 (an v2_7 (an (aw1) (an v2_9 (an v2_10 (an v2_11 (an (rfN (2)) (an v2_12 (an v2_13 (an (rfN (1)) (an v2_14 (an v2_15 (an (rfN (1)) (an v2_16 (an v2_17 (an (rfN (1)) (an v2_18 (an v2_19 (an v2_20 (an v2_21 (an v2_22 (an v2_23 trivial))))))))))))))))))))))))))))))))) trivial)))))))))))))))))))))))))))))))))))) fun ac wd r => ?_
  refine toAt (todo' := aft Try.f7 4) (E' := [(0, .d (.v (.bool false))), (2, .pt 12 0), (3, .d (.v (.bool true))), (4, .d (.v (.bool true))), (5, .d (.v (.bool false)))]) (M' := [.bx 24 [.z 5, .d (.v (.int .u64 2))], .dead, .dead, .dead, .dead, .dead, .dead, .dead, .dead, .dead, .dead, .dead, .bx 33 [.u F2.view.id.round, .z F2.view.id.server.node, .u F2.view.id.server.inc, .sl 19 ((procs F2.view.members).length), .sl 20 ((nums F2.view.starts).length), .sl 21 ((streams F2.streams).length), .sl 22 ((nums F2.handed).length)], .dead, .dead, .dead, .dead, .dead, .dead, .rw 24 2 (procs F2.view.members), .rw 22 1 (nums F2.view.starts), .rw 67 1 (streams F2.streams), .rw 22 1 (nums F2.handed)]) tb_ok mixed_ok hK [(3, [(5, .stay [.ag [.u F1.view.id.round, .z F1.view.id.server.node, .u F1.view.id.server.inc, .d (.ro 2 (procs F1.view.members)), .d (.ro 1 (nums F1.view.starts)), .d (.ro 1 (streams F1.streams)), .d (.ro 1 (nums F1.handed))], .ag [.z M2.src.node, .u M2.src.inc, .u M2.n, .d (.ro 1 (bytesR M2.body))]] (.tu [.ag [.u F2.view.id.round, .z F2.view.id.server.node, .u F2.view.id.server.inc, .em 24 2 (procs F2.view.members), .em 22 1 (nums F2.view.starts), .em 67 1 (streams F2.streams), .em 22 1 (nums F2.handed)], .v (.bool true)]))]), (4, [(5, .stay [.ag [.u F2.view.id.round, .z F2.view.id.server.node, .u F2.view.id.server.inc, .d (.ro 2 (procs F2.view.members)), .d (.ro 1 (nums F2.view.starts)), .d (.ro 1 (streams F2.streams)), .d (.ro 1 (nums F2.handed))], .ag [.z M3.src.node, .u M3.src.inc, .u M3.n, .d (.ro 1 (bytesR M3.body))]] (.tu [.ag [.u F2.view.id.round, .z F2.view.id.server.node, .u F2.view.id.server.inc, .em 24 2 (procs F2.view.members), .em 22 1 (nums F2.view.starts), .em 67 1 (streams F2.streams), .em 22 1 (nums F2.handed)], .v (.bool false)]))])] 4 [0, 1, 2, 3, 4, 5, 6, 7, 8, 9, 10, 11, 12, 13, 14, 15, 16, 17, 18, 19, 20, 21, 22] [0, 2, 3, 4, 5] r (by kernel_rfl) (an ((by simp) : (1) = ([[.v (.int .u8 97)]] : List (List DV)).length) (an ((by simp) : 0 < (1)) (an (aw2) (an (rfD (.u F1.view.id.round)) (an (rfD (.z F1.view.id.server.node)) (an (rfD (.u F1.view.id.server.inc)) (an (rfN (2)) (an (rfN ((procs F1.view.members).length)) (an ((by first | exact froz_procs _ | exact froz_nums _ | exact froz_strm _ | exact froz_streams _ | exact froz_msgs _ | exact froz_msgs' _ | exact froz_ebytes _ | exact froz_enums _ | exact froz_nums [1, 9] | exact froz_nums [1, 0]) : frozR (procs F1.view.members) = procs F1.view.members) (an (rfN (1)) (an (rfN ((nums F1.view.starts).length)) (an ((by first | exact froz_procs _ | exact froz_nums _ | exact froz_strm _ | exact froz_streams _ | exact froz_msgs _ | exact froz_msgs' _ | exact froz_ebytes _ | exact froz_enums _ | exact froz_nums [1, 9] | exact froz_nums [1, 0]) : frozR (nums F1.view.starts) = nums F1.view.starts) (an (rfN (1)) (an (rfN ((streams F1.streams).length)) (an ((by first | exact froz_procs _ | exact froz_nums _ | exact froz_strm _ | exact froz_streams _ | exact froz_msgs _ | exact froz_msgs' _ | exact froz_ebytes _ | exact froz_enums _ | exact froz_nums [1, 9] | exact froz_nums [1, 0]) : frozR (streams F1.streams) = streams F1.streams) (an (rfN (1)) (an (rfN ((nums F1.handed).length)) (an ((by first | exact froz_procs _ | exact froz_nums _ | exact froz_strm _ | exact froz_streams _ | exact froz_msgs _ | exact froz_msgs' _ | exact froz_ebytes _ | exact froz_enums _ | exact froz_nums [1, 9] | exact froz_nums [1, 0]) : frozR (nums F1.handed) = nums F1.handed) (an (rfl : (.z 5 : DV) = .z M2.src.node) (an (rfl : (.v (.int .u64 2) : DV) = .u M2.src.inc) (an (rfl : (.v (.int .u64 1) : DV) = .u M2.n) (an (rfl : (.ro 1 ([[.v (.int .u8 97)]]) : DV) = .ro 1 (bytesR M2.body)) (an ((by simp) : (1) = ([[.v (.int .u8 99)]] : List (List DV)).length) (an ((by simp) : 0 < (1)) (an (aw3) (an (rfD (.u F2.view.id.round)) (an (rfD (.z F2.view.id.server.node)) (an (rfD (.u F2.view.id.server.inc)) (an (rfN (2)) (an (rfN ((procs F2.view.members).length)) (an ((by first | exact froz_procs _ | exact froz_nums _ | exact froz_strm _ | exact froz_streams _ | exact froz_msgs _ | exact froz_msgs' _ | exact froz_ebytes _ | exact froz_enums _ | exact froz_nums [1, 9] | exact froz_nums [1, 0]) : frozR (procs F2.view.members) = procs F2.view.members) (an (rfN (1)) (an (rfN ((nums F2.view.starts).length)) (an ((by first | exact froz_procs _ | exact froz_nums _ | exact froz_strm _ | exact froz_streams _ | exact froz_msgs _ | exact froz_msgs' _ | exact froz_ebytes _ | exact froz_enums _ | exact froz_nums [1, 9] | exact froz_nums [1, 0]) : frozR (nums F2.view.starts) = nums F2.view.starts) (an (rfN (1)) (an (rfN ((streams F2.streams).length)) (an ((by first | exact froz_procs _ | exact froz_nums _ | exact froz_strm _ | exact froz_streams _ | exact froz_msgs _ | exact froz_msgs' _ | exact froz_ebytes _ | exact froz_enums _ | exact froz_nums [1, 9] | exact froz_nums [1, 0]) : frozR (streams F2.streams) = streams F2.streams) (an (rfN (1)) (an (rfN ((nums F2.handed).length)) (an ((by first | exact froz_procs _ | exact froz_nums _ | exact froz_strm _ | exact froz_streams _ | exact froz_msgs _ | exact froz_msgs' _ | exact froz_ebytes _ | exact froz_enums _ | exact froz_nums [1, 9] | exact froz_nums [1, 0]) : frozR (nums F2.handed) = nums F2.handed) (an (rfl : (.z 5 : DV) = .z M3.src.node) (an (rfl : (.v (.int .u64 2) : DV) = .u M3.src.inc) (an (rfl : (.v (.int .u64 2) : DV) = .u M3.n) (an (rfl : (.ro 1 ([[.v (.int .u8 99)]]) : DV) = .ro 1 (bytesR M3.body)) trivial)))))))))))))))))))))))))))))))))))))))))))) fun ac wd r => ?_
  have r := r.stay (p1 := []) (p2 := [((procs F2.view.members).length) = (procs F2.view.members).length, ((nums F2.view.starts).length) = (nums F2.view.starts).length, ((streams F2.streams).length) = (streams F2.streams).length, ((nums F2.handed).length) = (nums F2.handed).length]) (E1 := [(0, .d (.v (.bool false))), (2, .pt 12 0), (3, .d (.v (.bool true))), (4, .d (.v (.bool true))), (5, .d (.v (.bool false)))]) (M1 := [.bx 24 [.z 5, .d (.v (.int .u64 2))], .dead, .dead, .dead, .dead, .dead, .dead, .dead, .dead, .dead, .dead, .dead, .bx 33 [.u F2.view.id.round, .z F2.view.id.server.node, .u F2.view.id.server.inc, .sl 19 ((procs F2.view.members).length), .sl 20 ((nums F2.view.starts).length), .sl 21 ((streams F2.streams).length), .sl 22 ((nums F2.handed).length)], .dead, .dead, .dead, .dead, .dead, .dead, .rw 24 2 (procs F2.view.members), .rw 22 1 (nums F2.view.starts), .rw 67 1 (streams F2.streams), .rw 22 1 (nums F2.handed)]) (M2 := [.bx 24 [.z 5, .d (.v (.int .u64 2))], .dead, .dead, .dead, .dead, .dead, .dead, .dead, .dead, .dead, .dead, .dead, .bx 33 [.u F2.view.id.round, .z F2.view.id.server.node, .u F2.view.id.server.inc, .d (.ro 2 (frozR (procs F2.view.members))), .d (.ro 1 (frozR (nums F2.view.starts))), .d (.ro 1 (frozR (streams F2.streams))), .d (.ro 1 (frozR (nums F2.handed)))], .dead, .dead, .dead, .dead, .dead, .dead, .dead, .dead, .dead, .dead]) (E2 := [(0, .d (.v (.bool false))), (2, .pt 12 0), (3, .d (.v (.bool true))), (4, .d (.v (.bool true))), (5, .d (.v (.bool false)))]) (M3 := [.bx 24 [.z 5, .d (.v (.int .u64 2))], .dead, .dead, .dead, .dead, .dead, .dead, .dead, .dead, .dead, .dead, .dead, .bx 33 [.u F2.view.id.round, .z F2.view.id.server.node, .u F2.view.id.server.inc, .d (.ro 2 (procs F2.view.members)), .d (.ro 1 (nums F2.view.starts)), .d (.ro 1 (streams F2.streams)), .d (.ro 1 (nums F2.handed))], .dead, .dead, .dead, .dead, .dead, .dead, .dead, .dead, .dead, .dead]) [] [(12, 3), (12, 4), (12, 5), (12, 6)] (by kernel_rfl) (by kernel_rfl) trivial (an (rfN ((procs F2.view.members).length)) (an (rfN ((nums F2.view.starts).length)) (an (rfN ((streams F2.streams).length)) (an (rfN ((nums F2.handed).length)) trivial)))) rfl (by simp only [froz_procs, froz_nums, froz_streams, froz_strm, froz_msgs, froz_msgs', froz_slots, froz_slots', froz_bytes, froz_ebytes, froz_enums])
  exact toRet tb_ok mixed_ok hK rfl [(5, [(1, .con (.em 22 1 (nums [2, 0])))]), (6, [(2, .stay [.ag [.u F2.view.id.round, .z F2.view.id.server.node, .u F2.view.id.server.inc, .d (.ro 2 (procs F2.view.members)), .d (.ro 1 (nums F2.view.starts)), .d (.ro 1 (streams F2.streams)), .d (.ro 1 (nums F2.handed))], .d (.ro 1 (nums [1, 9]))] (.tu [.ag [.u F3.view.id.round, .z F3.view.id.server.node, .u F3.view.id.server.inc, .em 24 2 (procs F3.view.members), .em 22 1 (nums F3.view.starts), .em 67 1 (streams F3.streams), .em 22 1 (nums F3.handed)], .em 36 4 (msgsO L1)]))]), (7, [(1, .stay [.ag [.u F3.view.id.round, .z F3.view.id.server.node, .u F3.view.id.server.inc, .d (.ro 2 (procs F3.view.members)), .d (.ro 1 (nums F3.view.starts)), .d (.ro 1 (streams F3.streams)), .d (.ro 1 (nums F3.handed))], .d (.v (.slice none 0 0))] (.tu [.ag [.u F4.view.id.round, .z F4.view.id.server.node, .u F4.view.id.server.inc, .em 24 2 (procs F4.view.members), .em 22 1 (nums F4.view.starts), .em 67 1 (streams F4.streams), .em 22 1 (nums F4.handed)], .em 36 4 (msgsO L2)]))]), (8, [(10, .z (2)), (15, .n (0)), (16, .ix 0 [.v (.int .u64 2)]), (21, .z (1)), (26, .z (1)), (31, .n (0)), (33, .ix 0 [.z 5, .v (.int .u64 2), .v (.int .u64 2), .em 5 1 (bytesR [98])]), (34, .res (.v (.string ⟨([98]).toArray⟩))), (35, .b true), (40, .stay [.ag [.u F2.view.id.round, .z F2.view.id.server.node, .u F2.view.id.server.inc, .d (.ro 2 (procs F2.view.members)), .d (.ro 1 (nums F2.view.starts)), .d (.ro 1 (streams F2.streams)), .d (.ro 1 (nums F2.handed))], .d (.ro 1 (nums [1, 0]))] (.em 36 4 (msgsO L2))), (41, .z (1))])] 2000 r (by kernel_rfl) (an (aw4) (an (aw5) (an (rfD (.u F2.view.id.round)) (an (rfD (.z F2.view.id.server.node)) (an (rfD (.u F2.view.id.server.inc)) (an (rfD (.ro 2 (procs F2.view.members))) (an (rfD (.ro 1 (nums F2.view.starts))) (an (rfD (.ro 1 (streams F2.streams))) (an (rfD (.ro 1 (nums F2.handed))) (an (rfN (1)) (an ((by first | rfl | (simp; done) | (simp <;> omega)) : (2) = ([[.v (.int .u64 1)], [.v (.int .u64 9)]] : List (List DV)).length) (an ((by first | exact froz_procs _ | exact froz_nums _ | exact froz_strm _ | exact froz_streams _ | exact froz_msgs _ | exact froz_msgs' _ | exact froz_ebytes _ | exact froz_enums _ | exact froz_nums [1, 9] | exact froz_nums [1, 0]) : frozR ([[.v (.int .u64 1)], [.v (.int .u64 9)]]) = nums [1, 9]) (an (aw6) (an (rfD (.u F3.view.id.round)) (an (rfD (.z F3.view.id.server.node)) (an (rfD (.u F3.view.id.server.inc)) (an (rfN (2)) (an (rfN ((procs F3.view.members).length)) (an ((by first | exact froz_procs _ | exact froz_nums _ | exact froz_strm _ | exact froz_streams _ | exact froz_msgs _ | exact froz_msgs' _ | exact froz_ebytes _ | exact froz_enums _ | exact froz_nums [1, 9] | exact froz_nums [1, 0]) : frozR (procs F3.view.members) = procs F3.view.members) (an (rfN (1)) (an (rfN ((nums F3.view.starts).length)) (an ((by first | exact froz_procs _ | exact froz_nums _ | exact froz_strm _ | exact froz_streams _ | exact froz_msgs _ | exact froz_msgs' _ | exact froz_ebytes _ | exact froz_enums _ | exact froz_nums [1, 9] | exact froz_nums [1, 0]) : frozR (nums F3.view.starts) = nums F3.view.starts) (an (rfN (1)) (an (rfN ((streams F3.streams).length)) (an ((by first | exact froz_procs _ | exact froz_nums _ | exact froz_strm _ | exact froz_streams _ | exact froz_msgs _ | exact froz_msgs' _ | exact froz_ebytes _ | exact froz_enums _ | exact froz_nums [1, 9] | exact froz_nums [1, 0]) : frozR (streams F3.streams) = streams F3.streams) (an (rfN (1)) (an (rfN ((nums F3.handed).length)) (an ((by first | exact froz_procs _ | exact froz_nums _ | exact froz_strm _ | exact froz_streams _ | exact froz_msgs _ | exact froz_msgs' _ | exact froz_ebytes _ | exact froz_enums _ | exact froz_nums [1, 9] | exact froz_nums [1, 0]) : frozR (nums F3.handed) = nums F3.handed) (an (rfD (.v (.slice none 0 0))) (an ((by first | rfl | simp [bytesR]) : (((nums [2, 0]).length : Nat) : Int) = 2) (an (rfl : (0) = ((0 : Nat) : Int)) (an ((by first | omega | decide | (simp; omega)) : (0) < ((nums [2, 0]).length)) (an ((by first | rfl | (simp; done) | (simp <;> omega)) : ((nums [2, 0]).length) ≤ (nums [2, 0]).length) (an (rfl : (nums [2, 0])[0]? = some [.v (.int .u64 2)]) (an ((by first | rfl | simp [bytesR]) : (((msgsO L1).length : Nat) : Int) = 1) (an ((by first | rfl | simp [bytesR]) : (((msgsO L2).length : Nat) : Int) = 1) (an (rfl : (0) = ((0 : Nat) : Int)) (an ((by first | omega | decide | (simp; omega)) : (0) < ((msgsO L2).length)) (an ((by first | rfl | (simp; done) | (simp <;> omega)) : ((msgsO L2).length) ≤ (msgsO L2).length) (an (rfl : (msgsO L2)[0]? = some [.z 5, .v (.int .u64 2), .v (.int .u64 2), .em 5 1 (bytesR [98])]) (an (rfN ((bytesR [98]).length)) (an (rfl : bytesR [98] = bytesR ([98])) (an ((by simp) : ([98] == [98]) = true) (an (aw7) (an (rfD (.u F2.view.id.round)) (an (rfD (.z F2.view.id.server.node)) (an (rfD (.u F2.view.id.server.inc)) (an (rfD (.ro 2 (procs F2.view.members))) (an (rfD (.ro 1 (nums F2.view.starts))) (an (rfD (.ro 1 (streams F2.streams))) (an (rfD (.ro 1 (nums F2.handed))) (an (rfN (1)) (an ((by first | rfl | (simp; done) | (simp <;> omega)) : (2) = ([[.v (.int .u64 1)], [.v (.int .u64 0)]] : List (List DV)).length) (an ((by first | exact froz_procs _ | exact froz_nums _ | exact froz_strm _ | exact froz_streams _ | exact froz_msgs _ | exact froz_msgs' _ | exact froz_ebytes _ | exact froz_enums _ | exact froz_nums [1, 9] | exact froz_nums [1, 0]) : frozR ([[.v (.int .u64 1)], [.v (.int .u64 0)]]) = nums [1, 0]) (an ((by first | rfl | simp [bytesR]) : (((msgsO L2).length : Nat) : Int) = 1) trivial)))))))))))))))))))))))))))))))))))))))))))))))))))))))
end Go.Proofs.Ytoijfmfkkmbabaa
namespace Go.Proofs.Ytoijfmfkkmbabaa
open Go.RowKit
theorem good_len {l : List Slot} (g : Good l l.length) : l.length ≤ 16 := by
  rcases Nat.lt_or_ge 16 l.length with h | h
  · exfalso
    have e : l[l.length - 1]? = some l[l.length - 1] := List.getElem?_eq_getElem (by omega)
    have h1 := g.from _ _ e
    have h2 := (g _ _ (by omega) e).2.1
    omega
  · exact h
theorem Flow.take_bounded {f : Flow} {m : Msg} (hb : f.bounded) (hm : m.body.length < 1073741824) : (f.owned.take m).bounded := by
  have hbo := Flow.owned_bounded hb
  by_cases ht : f.owned.takes m
  · rw [Flow.take_yes ht]
    obtain ⟨h1, h2, h3, h4⟩ := id hbo
    refine ⟨h1, by unfold Flow.put; rw [List.length_set]; exact h2, h3, fun l hl => ?_⟩
    unfold Flow.put at hl
    rcases List.mem_or_eq_of_mem_set hl with hl | rfl
    · exact h4 l hl
    · obtain ⟨hp, -, -, -, hf⟩ := id ht
      have hlt := placeN_lt hp
      obtain ⟨ol, oh⟩ := Flow.owned_len f
      have e1 : f.owned.streams[placeN f.owned.view.members m.src]? = some (f.owned.streams[placeN f.owned.view.members m.src]'(by omega)) := List.getElem?_eq_getElem (by omega)
      have e2 : f.owned.handed[placeN f.owned.view.members m.src]? = some (f.owned.handed[placeN f.owned.view.members m.src]'(by omega)) := List.getElem?_eq_getElem (by omega)
      obtain ⟨g, -⟩ := Flow.owned_ok e1 e2
      have hbl := hbo.at e1
      rw [streamAt_get e1] at hf ⊢
      rw [insF_at hf]
      have := good_len g
      refine ⟨by simp; omega, fun x hx => ?_⟩
      rcases List.mem_append.1 hx with hx | hx
      · exact hbl.2 x (List.mem_of_mem_take hx)
      · rcases List.mem_append.1 hx with hx | hx
        · rw [List.mem_singleton] at hx; subst hx; exact hm
        · exact hbl.2 x (List.mem_of_mem_drop hx)
  · rw [Flow.take_no ht]; exact hbo
theorem Flow.fresh_bounded {v : View} (hb : v.bounded) : (Flow.fresh v).bounded := by
  obtain ⟨h1, h2⟩ := id hb
  refine ⟨hb, by unfold Flow.fresh; simp; exact h1, by unfold Flow.fresh; simp; exact h1, fun l hl => ?_⟩
  unfold Flow.fresh at hl
  rw [(List.mem_replicate.1 hl).2]; exact boundS.nil
theorem same_flow (a : Flow) (ha : a.bounded) : Con Try.prog 11 [.ag [.u a.view.id.round, .z a.view.id.server.node, .u a.view.id.server.inc, .d (.ro 2 (procs a.view.members)), .d (.ro 1 (nums a.view.starts)), .d (.ro 1 (streams a.streams)), .d (.ro 1 (nums a.handed))], .ag [.u a.view.id.round, .z a.view.id.server.node, .u a.view.id.server.inc, .d (.ro 2 (procs a.view.members)), .d (.ro 1 (nums a.view.starts)), .d (.ro 1 (streams a.streams)), .d (.ro 1 (nums a.handed))]] (.v (.bool true)) := by
  have k := sameFlows a a ha; rw [decide_eq_true rfl] at k; exact k
set_option maxRecDepth 100000 in
theorem takesLaw (f : Flow) (m : Msg) (hB : f.big) (hM : m.body.length ≤ 9223372036854775807) : Con Try.prog 3 [.ag [.u f.view.id.round, .z f.view.id.server.node, .u f.view.id.server.inc, .d (.ro 2 (procs f.view.members)), .d (.ro 1 (nums f.view.starts)), .d (.ro 1 (streams f.streams)), .d (.ro 1 (nums f.handed))], .ag [.z m.src.node, .u m.src.inc, .u m.n, .d (.ro 1 (bytesR m.body))]] (.v (.bool true)) := by
  refine Con.intro (by kernel_rfl) rfl rfl 73 rfl rfl fun w0 K ac hK r => ?_
  cases h0 : (f.heavyB) with
  | false =>
    have hb := Flow.light (by assumption)
    obtain ⟨hbv, hb1, hb2, hb3⟩ := id hb
    cases h1 : (decide ((500 : Int) < ((m.body.length : Nat) : Int))) with
    | false =>
      have qh1 := of_decide_eq_false h1
      refine toAt (todo' := aft Try.f3 3) (E' := [(2, .pt 0 0), (3, .pt 1 0), (4, .d (.v (.bool false))), (5, .pt 6 0)]) (M' := [.bx 33 [.u f.view.id.round, .z f.view.id.server.node, .u f.view.id.server.inc, .d (.ro 2 (procs f.view.members)), .d (.ro 1 (nums f.view.starts)), .d (.ro 1 (streams f.streams)), .d (.ro 1 (nums f.handed))], .bx 36 [.z m.src.node, .u m.src.inc, .u m.n, .d (.ro 1 (bytesR m.body))], .rw 24 2 (procs f.view.members), .rw 22 1 (nums f.view.starts), .rw 67 1 (streamsO f.streams), .rw 22 1 (nums f.handed), .bx 33 [.u f.view.id.round, .z f.view.id.server.node, .u f.view.id.server.inc, .sl 2 ((procs f.view.members).length), .sl 3 ((nums f.view.starts).length), .sl 4 ((streamsO f.streams).length), .sl 5 ((nums f.handed).length)]]) tb_ok mixed_ok hK [(1, [(1, .con (.v (.bool false))), (5, .z (((m.body.length : Nat) : Int))), (6, .b false)]), (3, [(1, .con (.ag [.u f.view.id.round, .z f.view.id.server.node, .u f.view.id.server.inc, .em 24 2 (procs f.view.members), .em 22 1 (nums f.view.starts), .em 67 1 (streamsO f.streams), .em 22 1 (nums f.handed)]))])] 9 [0, 1, 2, 3, 4, 5, 6] [2, 3, 4, 5] r (by kernel_rfl) (an ((by have k := heavyOk f hB; rw [h0] at k; exact k) : Con Try.prog 6 [.ag [.u f.view.id.round, .z f.view.id.server.node, .u f.view.id.server.inc, .d (.ro 2 (procs f.view.members)), .d (.ro 1 (nums f.view.starts)), .d (.ro 1 (streams f.streams)), .d (.ro 1 (nums f.handed))]] (.v (.bool false))) (an ((by first | rfl | simp [bytesR]) : (((bytesR m.body).length : Nat) : Int) = ((m.body.length : Nat) : Int)) (an h1 (an (refFlowCopy f hb) trivial)))) fun ac wd r => ?_
      have r := r.stay (p1 := []) (p2 := [((procs f.view.members).length) = (procs f.view.members).length, ((nums f.view.starts).length) = (nums f.view.starts).length, ((streamsO f.streams).length) = (streamsO f.streams).length, ((nums f.handed).length) = (nums f.handed).length]) (E1 := [(2, .pt 0 0), (3, .pt 1 0), (4, .d (.v (.bool false))), (5, .pt 6 0)]) (M1 := [.bx 33 [.u f.view.id.round, .z f.view.id.server.node, .u f.view.id.server.inc, .d (.ro 2 (procs f.view.members)), .d (.ro 1 (nums f.view.starts)), .d (.ro 1 (streams f.streams)), .d (.ro 1 (nums f.handed))], .bx 36 [.z m.src.node, .u m.src.inc, .u m.n, .d (.ro 1 (bytesR m.body))], .rw 24 2 (procs f.view.members), .rw 22 1 (nums f.view.starts), .rw 67 1 (streamsO f.streams), .rw 22 1 (nums f.handed), .bx 33 [.u f.view.id.round, .z f.view.id.server.node, .u f.view.id.server.inc, .sl 2 ((procs f.view.members).length), .sl 3 ((nums f.view.starts).length), .sl 4 ((streamsO f.streams).length), .sl 5 ((nums f.handed).length)]]) (M2 := [.bx 33 [.u f.view.id.round, .z f.view.id.server.node, .u f.view.id.server.inc, .d (.ro 2 (procs f.view.members)), .d (.ro 1 (nums f.view.starts)), .d (.ro 1 (streams f.streams)), .d (.ro 1 (nums f.handed))], .bx 36 [.z m.src.node, .u m.src.inc, .u m.n, .d (.ro 1 (bytesR m.body))], .dead, .dead, .dead, .dead, .bx 33 [.u f.view.id.round, .z f.view.id.server.node, .u f.view.id.server.inc, .d (.ro 2 (frozR (procs f.view.members))), .d (.ro 1 (frozR (nums f.view.starts))), .d (.ro 1 (frozR (streamsO f.streams))), .d (.ro 1 (frozR (nums f.handed)))]]) (E2 := [(2, .pt 0 0), (3, .pt 1 0), (4, .d (.v (.bool false))), (5, .pt 6 0)]) (M3 := [.bx 33 [.u f.view.id.round, .z f.view.id.server.node, .u f.view.id.server.inc, .d (.ro 2 (procs f.view.members)), .d (.ro 1 (nums f.view.starts)), .d (.ro 1 (streams f.streams)), .d (.ro 1 (nums f.handed))], .bx 36 [.z m.src.node, .u m.src.inc, .u m.n, .d (.ro 1 (bytesR m.body))], .dead, .dead, .dead, .dead, .bx 33 [.u f.view.id.round, .z f.view.id.server.node, .u f.view.id.server.inc, .d (.ro 2 (procs f.view.members)), .d (.ro 1 (nums f.view.starts)), .d (.ro 1 (streams f.streams)), .d (.ro 1 (nums f.handed))]]) [] [(6, 3), (6, 4), (6, 5), (6, 6)] (by kernel_rfl) (by kernel_rfl) trivial (an (rfN ((procs f.view.members).length)) (an (rfN ((nums f.view.starts).length)) (an (rfN ((streamsO f.streams).length)) (an (rfN ((nums f.handed).length)) trivial)))) rfl (by simp only [froz_procs, froz_nums, froz_streams, froz_strm, froz_msgs, froz_msgs', froz_slots, froz_slots', froz_bytes, froz_ebytes, froz_enums])
      have v4_0 := ((by first | rfl | (simp; done) | (simp <;> omega)) : (0) = ([] : List (List DV)).length)
      have v4_1 := ((by first | omega | (simp [bytesR_len]; done) | (simp [bytesR_len]; omega)) : (2 * ((0) + (bytesR m.body).length) + 192) * 1 ≤ 281474976710656)
      have v4_2 := ((by first | omega | (simp [bytesR_len]; done) | (simp [bytesR_len]; omega)) : (0) + (bytesR m.body).length < 4611686018427387904)
      have v4_3 := ((by simp [OneR, AV.one, oneC, bytesR]) : OneR (bytesR m.body))
      have v4_4 := (takeOk viewMay insertOk f m hb (by omega))
      have v4_5 := (rfD (.u f.view.id.round))
      have v4_6 := (rfD (.z f.view.id.server.node))
      have v4_7 := (rfD (.u f.view.id.server.inc))
      have v4_8 := (rfD (.ro 2 (procs f.view.members)))
      have v4_9 := (rfD (.ro 1 (nums f.view.starts)))
      have v4_10 := (rfD (.ro 1 (streams f.streams)))
      have v4_11 := (rfD (.ro 1 (nums f.handed)))
      have v4_12 := ((by first | rfl | (simp; done) | (simp <;> omega)) : (0 + (bytesR m.body).length) = ([] ++ (bytesR m.body) : List (List DV)).length)
      have v4_13 := ((by first | exact froz_procs _ | exact froz_nums _ | exact froz_strm _ | exact froz_streams _ | exact froz_msgs _ | exact froz_msgs' _ | exact froz_ebytes _ | exact froz_enums _ | exact froz_nums [1, 9] | exact froz_nums [1, 0]) : frozR ([] ++ (bytesR m.body)) = bytesR m.body)
      refine toDraw (todo' := aft Try.f3 4) (E' := [(2, .pt 0 0), (3, .pt 1 0), (4, .d (.v (.bool false))), (5, .pt 6 0), (6, .pt 12 0), (7, .d (.v (.bool (f.owned.takesB m))))]) (M' := [.bx 33 [.u f.view.id.round, .z f.view.id.server.node, .u f.view.id.server.inc, .d (.ro 2 (procs f.view.members)), .d (.ro 1 (nums f.view.starts)), .d (.ro 1 (streams f.streams)), .d (.ro 1 (nums f.handed))], .bx 36 [.z m.src.node, .u m.src.inc, .u m.n, .d (.ro 1 (bytesR m.body))], .dead, .dead, .dead, .dead, .bx 33 [.u f.view.id.round, .z f.view.id.server.node, .u f.view.id.server.inc, .d (.ro 2 (procs f.view.members)), .d (.ro 1 (nums f.view.starts)), .d (.ro 1 (streams f.streams)), .d (.ro 1 (nums f.handed))], .dead, .rw 24 2 (procs (f.owned.take m).view.members), .rw 22 1 (nums (f.owned.take m).view.starts), .rw 67 1 (streams (f.owned.take m).streams), .rw 22 1 (nums (f.owned.take m).handed), .bx 33 [.u ((f.owned.take m).view.id.round), .z ((f.owned.take m).view.id.server.node), .u ((f.owned.take m).view.id.server.inc), .sl 8 ((procs (f.owned.take m).view.members).length), .sl 9 ((nums (f.owned.take m).view.starts).length), .sl 10 ((streams (f.owned.take m).streams).length), .sl 11 ((nums (f.owned.take m).handed).length)]]) tb_ok mixed_ok hK [(4, [(10, .stay [.ag [.u f.view.id.round, .z f.view.id.server.node, .u f.view.id.server.inc, .d (.ro 2 (procs f.view.members)), .d (.ro 1 (nums f.view.starts)), .d (.ro 1 (streams f.streams)), .d (.ro 1 (nums f.handed))], .ag [.z m.src.node, .u m.src.inc, .u m.n, .d (.ro 1 (bytesR m.body))]] (.tu [.ag [.u ((f.owned.take m).view.id.round), .z ((f.owned.take m).view.id.server.node), .u ((f.owned.take m).view.id.server.inc), .em 24 2 (procs (f.owned.take m).view.members), .em 22 1 (nums (f.owned.take m).view.starts), .em 67 1 (streams (f.owned.take m).streams), .em 22 1 (nums (f.owned.take m).handed)], .v (.bool (f.owned.takesB m))]))])] 1 4 [] [[0, 1, 2, 3, 4, 5, 6, 7, 8, 9, 10, 11, 12], [0, 1, 2, 3, 4, 5, 6, 7, 9, 10, 11, 12, 8], [0, 1, 2, 3, 4, 5, 6, 7, 9, 10, 11, 12, 8], [0, 1, 2, 3, 4, 5, 6, 8, 9, 10, 11, 12, 7]] [2, 3, 4, 5, 6, 7] r (by kernel_rfl) (an (an v4_0 (an v4_1 (an v4_2 (an v4_3 (an v4_4 (an v4_5 (an v4_6 (an v4_7 (an v4_8 (an v4_9 (an v4_10 (an v4_11 (an (rfD (.z m.src.node)) (an (rfD (.u m.src.inc)) (an (rfD (.u m.n)) (an (rfN (1)) (an v4_12 (an v4_13 trivial)))))))))))))))))) (an (an v4_0 (an v4_1 (an v4_2 (an v4_3 (an v4_4 (an v4_5 (an v4_6 (an v4_7 (an v4_8 (an v4_9 (an v4_10 (an v4_11 (an (rfD (.z m.src.node)) (an (rfD (.u m.src.inc)) (an (rfD (.u m.n)) (an (rfN (1)) (an v4_12 (an v4_13 trivial)))))))))))))))))) (an (an v4_0 (an v4_1 (an v4_2 (an v4_3 (an v4_4 (an v4_5 (an v4_6 (an v4_7 (an v4_8 (an v4_9 (an v4_10 (an v4_11 (an (rfD (.z m.src.node)) (an (rfD (.u m.src.inc)) (an (rfD (.u m.n)) (an (rfN (1)) (an v4_12 (an v4_13 trivial)))))))))))))))))) (an (an v4_0 (an v4_1 (an v4_2 (an v4_3 (an v4_4 (an v4_5 (an v4_6 (an v4_7 (an v4_8 (an v4_9 (an v4_10 (an v4_11 (an (rfD (.z m.src.node)) (an (rfD (.u m.src.inc)) (an (rfD (.u m.n)) (an (rfN (1)) (an v4_12 (an v4_13 trivial)))))))))))))))))) trivial)))) fun ac wd r => ?_
      exact toRet tb_ok mixed_ok hK rfl [(5, [(2, .con (.tu [.ag [.u ((f.owned.take m).view.id.round), .z ((f.owned.take m).view.id.server.node), .u ((f.owned.take m).view.id.server.inc), .em 24 2 (procs (f.owned.take m).view.members), .em 22 1 (nums (f.owned.take m).view.starts), .em 67 1 (streams (f.owned.take m).streams), .em 22 1 (nums (f.owned.take m).handed)], .v (.bool (f.owned.takesB m))]))]), (6, [(2, .call [.ag [.u ((f.owned.take m).view.id.round), .z ((f.owned.take m).view.id.server.node), .u ((f.owned.take m).view.id.server.inc), .d (.ro 2 (procs (f.owned.take m).view.members)), .d (.ro 1 (nums (f.owned.take m).view.starts)), .d (.ro 1 (streams (f.owned.take m).streams)), .d (.ro 1 (nums (f.owned.take m).handed))], .ag [.u ((f.owned.take m).view.id.round), .z ((f.owned.take m).view.id.server.node), .u ((f.owned.take m).view.id.server.inc), .d (.ro 2 (procs (f.owned.take m).view.members)), .d (.ro 1 (nums (f.owned.take m).view.starts)), .d (.ro 1 (streams (f.owned.take m).streams)), .d (.ro 1 (nums (f.owned.take m).handed))]] (.v (.bool true))), (7, .b false), (11, .con (.v (.bool f.may))), (13, .con (.v (.bool f.may))), (14, .b false), (19, .con (.v (.bool true)))]), (8, [(2, .con (.ag [.u ((Flow.fresh f.view).view.id.round), .z ((Flow.fresh f.view).view.id.server.node), .u ((Flow.fresh f.view).view.id.server.inc), .em 24 2 (procs (Flow.fresh f.view).view.members), .em 22 1 (nums (Flow.fresh f.view).view.starts), .em 67 1 (streamsO (Flow.fresh f.view).streams), .em 22 1 (nums (Flow.fresh f.view).handed)])), (5, .con (.ag [.u ((Flow.fresh f.view).view.id.round), .z ((Flow.fresh f.view).view.id.server.node), .u ((Flow.fresh f.view).view.id.server.inc), .em 24 2 (procs (Flow.fresh f.view).view.members), .em 22 1 (nums (Flow.fresh f.view).view.starts), .em 67 1 (streamsO (Flow.fresh f.view).streams), .em 22 1 (nums (Flow.fresh f.view).handed)])), (6, .call [.ag [.u ((Flow.fresh f.view).view.id.round), .z ((Flow.fresh f.view).view.id.server.node), .u ((Flow.fresh f.view).view.id.server.inc), .d (.ro 2 (procs (Flow.fresh f.view).view.members)), .d (.ro 1 (nums (Flow.fresh f.view).view.starts)), .d (.ro 1 (streams (Flow.fresh f.view).streams)), .d (.ro 1 (nums (Flow.fresh f.view).handed))], .ag [.u ((Flow.fresh f.view).view.id.round), .z ((Flow.fresh f.view).view.id.server.node), .u ((Flow.fresh f.view).view.id.server.inc), .d (.ro 2 (procs (Flow.fresh f.view).view.members)), .d (.ro 1 (nums (Flow.fresh f.view).view.starts)), .d (.ro 1 (streams (Flow.fresh f.view).streams)), .d (.ro 1 (nums (Flow.fresh f.view).handed))]] (.v (.bool true))), (8, .con (.v (.bool true)))])] 2000 r (by kernel_rfl) (an (refTake f m hb (by omega)) (an (same_flow _ (Flow.take_bounded hb (by omega)) : Con Try.prog 11 [.ag [.u ((f.owned.take m).view.id.round), .z ((f.owned.take m).view.id.server.node), .u ((f.owned.take m).view.id.server.inc), .d (.ro 2 (procs (f.owned.take m).view.members)), .d (.ro 1 (nums (f.owned.take m).view.starts)), .d (.ro 1 (streams (f.owned.take m).streams)), .d (.ro 1 (nums (f.owned.take m).handed))], .ag [.u ((f.owned.take m).view.id.round), .z ((f.owned.take m).view.id.server.node), .u ((f.owned.take m).view.id.server.inc), .d (.ro 2 (procs (f.owned.take m).view.members)), .d (.ro 1 (nums (f.owned.take m).view.starts)), .d (.ro 1 (streams (f.owned.take m).streams)), .d (.ro 1 (nums (f.owned.take m).handed))]] (.v (.bool true))) (an ((by first | exact ind_v _ | exact Ind.two _ _) : Ind (.v (.bool true))) (an (rfD (.u ((f.owned.take m).view.id.round))) (an (rfD (.z ((f.owned.take m).view.id.server.node))) (an (rfD (.u ((f.owned.take m).view.id.server.inc))) (an (rfN (2)) (an (rfN ((procs (f.owned.take m).view.members).length)) (an ((by first | exact froz_procs _ | exact froz_nums _ | exact froz_strm _ | exact froz_streams _ | exact froz_msgs _ | exact froz_msgs' _ | exact froz_ebytes _ | exact froz_enums _ | exact froz_nums [1, 9] | exact froz_nums [1, 0]) : frozR (procs (f.owned.take m).view.members) = procs (f.owned.take m).view.members) (an (rfN (1)) (an (rfN ((nums (f.owned.take m).view.starts).length)) (an ((by first | exact froz_procs _ | exact froz_nums _ | exact froz_strm _ | exact froz_streams _ | exact froz_msgs _ | exact froz_msgs' _ | exact froz_ebytes _ | exact froz_enums _ | exact froz_nums [1, 9] | exact froz_nums [1, 0]) : frozR (nums (f.owned.take m).view.starts) = nums (f.owned.take m).view.starts) (an (rfN (1)) (an (rfN ((streams (f.owned.take m).streams).length)) (an ((by first | exact froz_procs _ | exact froz_nums _ | exact froz_strm _ | exact froz_streams _ | exact froz_msgs _ | exact froz_msgs' _ | exact froz_ebytes _ | exact froz_enums _ | exact froz_nums [1, 9] | exact froz_nums [1, 0]) : frozR (streams (f.owned.take m).streams) = streams (f.owned.take m).streams) (an (rfN (1)) (an (rfN ((nums (f.owned.take m).handed).length)) (an ((by first | exact froz_procs _ | exact froz_nums _ | exact froz_strm _ | exact froz_streams _ | exact froz_msgs _ | exact froz_msgs' _ | exact froz_ebytes _ | exact froz_enums _ | exact froz_nums [1, 9] | exact froz_nums [1, 0]) : frozR (nums (f.owned.take m).handed) = nums (f.owned.take m).handed) (an (rfD (.u ((f.owned.take m).view.id.round))) (an (rfD (.z ((f.owned.take m).view.id.server.node))) (an (rfD (.u ((f.owned.take m).view.id.server.inc))) (an (rfN (2)) (an (rfN ((procs (f.owned.take m).view.members).length)) (an ((by first | exact froz_procs _ | exact froz_nums _ | exact froz_strm _ | exact froz_streams _ | exact froz_msgs _ | exact froz_msgs' _ | exact froz_ebytes _ | exact froz_enums _ | exact froz_nums [1, 9] | exact froz_nums [1, 0]) : frozR (procs (f.owned.take m).view.members) = procs (f.owned.take m).view.members) (an (rfN (1)) (an (rfN ((nums (f.owned.take m).view.starts).length)) (an ((by first | exact froz_procs _ | exact froz_nums _ | exact froz_strm _ | exact froz_streams _ | exact froz_msgs _ | exact froz_msgs' _ | exact froz_ebytes _ | exact froz_enums _ | exact froz_nums [1, 9] | exact froz_nums [1, 0]) : frozR (nums (f.owned.take m).view.starts) = nums (f.owned.take m).view.starts) (an (rfN (1)) (an (rfN ((streams (f.owned.take m).streams).length)) (an ((by first | exact froz_procs _ | exact froz_nums _ | exact froz_strm _ | exact froz_streams _ | exact froz_msgs _ | exact froz_msgs' _ | exact froz_ebytes _ | exact froz_enums _ | exact froz_nums [1, 9] | exact froz_nums [1, 0]) : frozR (streams (f.owned.take m).streams) = streams (f.owned.take m).streams) (an (rfN (1)) (an (rfN ((nums (f.owned.take m).handed).length)) (an ((by first | exact froz_procs _ | exact froz_nums _ | exact froz_strm _ | exact froz_streams _ | exact froz_msgs _ | exact froz_msgs' _ | exact froz_ebytes _ | exact froz_enums _ | exact froz_nums [1, 9] | exact froz_nums [1, 0]) : frozR (nums (f.owned.take m).handed) = nums (f.owned.take m).handed) (an ((by simp) : (!((f.owned.takesB m) == (f.owned.takesB m))) = false) (an (flowMay viewMay f hb) (an (refFlowMay f hb) (an ((by simp) : (!(f.may == f.may)) = false) (an (same_flow f hb) (an (openOk f.view hb.1) (an (refOpen f.view hb.1) (an (same_flow _ (Flow.fresh_bounded hb.1) : Con Try.prog 11 [.ag [.u ((Flow.fresh f.view).view.id.round), .z ((Flow.fresh f.view).view.id.server.node), .u ((Flow.fresh f.view).view.id.server.inc), .d (.ro 2 (procs (Flow.fresh f.view).view.members)), .d (.ro 1 (nums (Flow.fresh f.view).view.starts)), .d (.ro 1 (streams (Flow.fresh f.view).streams)), .d (.ro 1 (nums (Flow.fresh f.view).handed))], .ag [.u ((Flow.fresh f.view).view.id.round), .z ((Flow.fresh f.view).view.id.server.node), .u ((Flow.fresh f.view).view.id.server.inc), .d (.ro 2 (procs (Flow.fresh f.view).view.members)), .d (.ro 1 (nums (Flow.fresh f.view).view.starts)), .d (.ro 1 (streams (Flow.fresh f.view).streams)), .d (.ro 1 (nums (Flow.fresh f.view).handed))]] (.v (.bool true))) (an ((by first | exact ind_v _ | exact Ind.two _ _) : Ind (.v (.bool true))) (an (rfD (.u ((Flow.fresh f.view).view.id.round))) (an (rfD (.z ((Flow.fresh f.view).view.id.server.node))) (an (rfD (.u ((Flow.fresh f.view).view.id.server.inc))) (an (rfN (2)) (an (rfN ((procs (Flow.fresh f.view).view.members).length)) (an ((by first | exact froz_procs _ | exact froz_nums _ | exact froz_strm _ | exact froz_streams _ | exact froz_msgs _ | exact froz_msgs' _ | exact froz_ebytes _ | exact froz_enums _ | exact froz_nums [1, 9] | exact froz_nums [1, 0]) : frozR (procs (Flow.fresh f.view).view.members) = procs (Flow.fresh f.view).view.members) (an (rfN (1)) (an (rfN ((nums (Flow.fresh f.view).view.starts).length)) (an ((by first | exact froz_procs _ | exact froz_nums _ | exact froz_strm _ | exact froz_streams _ | exact froz_msgs _ | exact froz_msgs' _ | exact froz_ebytes _ | exact froz_enums _ | exact froz_nums [1, 9] | exact froz_nums [1, 0]) : frozR (nums (Flow.fresh f.view).view.starts) = nums (Flow.fresh f.view).view.starts) (an (rfN (1)) (an (rfN ((streamsO (Flow.fresh f.view).streams).length)) (an ((by first | exact froz_procs _ | exact froz_nums _ | exact froz_strm _ | exact froz_streams _ | exact froz_msgs _ | exact froz_msgs' _ | exact froz_ebytes _ | exact froz_enums _ | exact froz_nums [1, 9] | exact froz_nums [1, 0]) : frozR (streamsO (Flow.fresh f.view).streams) = streams (Flow.fresh f.view).streams) (an (rfN (1)) (an (rfN ((nums (Flow.fresh f.view).handed).length)) (an ((by first | exact froz_procs _ | exact froz_nums _ | exact froz_strm _ | exact froz_streams _ | exact froz_msgs _ | exact froz_msgs' _ | exact froz_ebytes _ | exact froz_enums _ | exact froz_nums [1, 9] | exact froz_nums [1, 0]) : frozR (nums (Flow.fresh f.view).handed) = nums (Flow.fresh f.view).handed) (an (rfD (.u ((Flow.fresh f.view).view.id.round))) (an (rfD (.z ((Flow.fresh f.view).view.id.server.node))) (an (rfD (.u ((Flow.fresh f.view).view.id.server.inc))) (an (rfN (2)) (an (rfN ((procs (Flow.fresh f.view).view.members).length)) (an ((by first | exact froz_procs _ | exact froz_nums _ | exact froz_strm _ | exact froz_streams _ | exact froz_msgs _ | exact froz_msgs' _ | exact froz_ebytes _ | exact froz_enums _ | exact froz_nums [1, 9] | exact froz_nums [1, 0]) : frozR (procs (Flow.fresh f.view).view.members) = procs (Flow.fresh f.view).view.members) (an (rfN (1)) (an (rfN ((nums (Flow.fresh f.view).view.starts).length)) (an ((by first | exact froz_procs _ | exact froz_nums _ | exact froz_strm _ | exact froz_streams _ | exact froz_msgs _ | exact froz_msgs' _ | exact froz_ebytes _ | exact froz_enums _ | exact froz_nums [1, 9] | exact froz_nums [1, 0]) : frozR (nums (Flow.fresh f.view).view.starts) = nums (Flow.fresh f.view).view.starts) (an (rfN (1)) (an (rfN ((streamsO (Flow.fresh f.view).streams).length)) (an ((by first | exact froz_procs _ | exact froz_nums _ | exact froz_strm _ | exact froz_streams _ | exact froz_msgs _ | exact froz_msgs' _ | exact froz_ebytes _ | exact froz_enums _ | exact froz_nums [1, 9] | exact froz_nums [1, 0]) : frozR (streamsO (Flow.fresh f.view).streams) = streams (Flow.fresh f.view).streams) (an (rfN (1)) (an (rfN ((nums (Flow.fresh f.view).handed).length)) (an ((by first | exact froz_procs _ | exact froz_nums _ | exact froz_strm _ | exact froz_streams _ | exact froz_msgs _ | exact froz_msgs' _ | exact froz_ebytes _ | exact froz_enums _ | exact froz_nums [1, 9] | exact froz_nums [1, 0]) : frozR (nums (Flow.fresh f.view).handed) = nums (Flow.fresh f.view).handed) (an (awakeOk) trivial)))))))))))))))))))))))))))))))))))))))))))))))))))))))))))))))))))))))))
    | true =>
      have qh1 := of_decide_eq_true h1
      exact toRet tb_ok mixed_ok hK rfl [(1, [(1, .con (.v (.bool false))), (5, .z (((m.body.length : Nat) : Int))), (6, .b true)]), (2, [(0, .con (.v (.bool true)))])] 2000 r (by kernel_rfl) (an ((by have k := heavyOk f hB; rw [h0] at k; exact k) : Con Try.prog 6 [.ag [.u f.view.id.round, .z f.view.id.server.node, .u f.view.id.server.inc, .d (.ro 2 (procs f.view.members)), .d (.ro 1 (nums f.view.starts)), .d (.ro 1 (streams f.streams)), .d (.ro 1 (nums f.handed))]] (.v (.bool false))) (an ((by first | rfl | simp [bytesR]) : (((bytesR m.body).length : Nat) : Int) = ((m.body.length : Nat) : Int)) (an h1 (an (awakeOk) trivial))))
  | true =>
    exact toRet tb_ok mixed_ok hK rfl [(1, [(1, .con (.v (.bool true)))]), (2, [(0, .con (.v (.bool true)))])] 2000 r (by kernel_rfl) (an ((by have k := heavyOk f hB; rw [h0] at k; exact k) : Con Try.prog 6 [.ag [.u f.view.id.round, .z f.view.id.server.node, .u f.view.id.server.inc, .d (.ro 2 (procs f.view.members)), .d (.ro 1 (nums f.view.starts)), .d (.ro 1 (streams f.streams)), .d (.ro 1 (nums f.handed))]] (.v (.bool true))) (an (awakeOk) trivial))
end Go.Proofs.Ytoijfmfkkmbabaa
namespace Go.Proofs.Ytoijfmfkkmbabaa
open Go.RowKit Go.Deep
theorem trodAll_gr {H : Type} {enc : TypeId × Value → H} {P : Program} (hl : laidOutB P = true) {W W' : World} (g : Gr W W') : ∀ {ts : List TypeId} {vs : List Value} {ds : List (DataW H)} {ps : List MemPlace}, (∀ t ∈ ts, P.readableRec t = true ∧ t < P.types.size) → DataW.TrodAll enc P W 0 (fun _ => true) true ts vs ds ps → (∀ x ∈ ps, x.block < W.heap.size) → DataW.TrodAll enc P W' 0 (fun b => decide (b < W.heap.size)) true ts vs ds ps
  | [], [], [], _, _, h, _ => h
  | [], _ :: _, _, _, _, h, _ => h.elim
  | [], [], _ :: _, _, _, h, _ => h.elim
  | _ :: _, [], _, _, _, h, _ => h.elim
  | _ :: _, _ :: _, [], _, _, h, _ => h.elim
  | t :: ts, v :: vs, d :: ds, ps, ht, h, hp => by
    obtain ⟨p, q, h1, h2, rfl⟩ := h
    refine ⟨p, q, Below.trod hl (ht t (by simp)).1 (ht t (by simp)).2 h1 g (fun x hx => hp x (by simp [hx])), trodAll_gr hl g (fun t' h' => ht t' (by simp [h'])) h2 (fun x hx => hp x (by simp [hx])), rfl⟩
theorem law_post {H : Type} {enc : TypeId × Value → H} {P : Program} {f : Func} {s : ChangeSpec} {W W' : World} {args : Array Value} {ds gs : List (DataW H)} {before : List MemPlace} {tb : TypeId} (hl : laidOutB P = true)
    (hp : f.params.toList.all (fun t => P.readableRec t && decide (t < P.types.size)) = true) (hr : f.resultTypes = #[tb]) (ht : P.underlying tb = some .bool) (hv : s.vars = [])
    (hW : DataW.Whole enc P f.params.toList s.vars false W args.toList ds gs before) (hfn : s.fn H (ds ++ gs) = { results := [.lit (.bool true)], args := ds }) (g : Gr W W') : s.post enc P f false true false false W args (.bool true) W' := by
  have hW' := hW
  have hlt := hW.lt
  obtain ⟨p, q, hA, hV, rfl, hfz, hnd⟩ := hW
  rw [hv] at hV
  match gs, hV with
  | [], hV =>
    cases hV
    refine ⟨ds, [], _, [], p, [], hW', ?_, ?_, ?_, ?_, fun h => by cases h⟩
    · rw [hfn, hr]
      exact ⟨[], [], ⟨1, by simp [DataW.trod, ht, Value.cells]⟩, rfl, rfl⟩
    · rw [hfn]
      refine trodAll_gr hl g (fun t h => ?_) hA (fun x hx => hlt x (by simp [hx]))
      have := List.all_eq_true.1 hp t h
      simpa using this
    · rw [hfn, hv]; rfl
    · exact Below.frame g _
def TR (P : Program) (w : World) (t : TypeId) (cs : List Value) : Prop := ∃ (H : Type) (enc : TypeId × Value → H) (base : Nat) (sp : Nat → Bool) (held : Bool) (fuel : Nat) (x : DataW H × List MemPlace), DataW.trod enc P w base sp held fuel t cs = some x
theorem TR.of {H : Type} {enc : TypeId × Value → H} {P : Program} {w : World} {base : Nat} {sp : Nat → Bool} {held : Bool} {t : TypeId} {v : Value} {d : DataW H} {ps : List MemPlace} (h : DataW.Trod enc P w base sp held t v d ps) : TR P w t v.cells.toList := by
  obtain ⟨n, h⟩ := h; exact ⟨H, enc, base, sp, held, n, _, h⟩
section
variable {P : Program} {w : World} {t e : TypeId} {cs : List Value}
theorem TR.int {k : IntKind} (ht : P.underlying t = some (.int k)) (h : TR P w t cs) : ∃ n, cs = [.int k n] ∧ (Lit.int k n).wf = true := by
  obtain ⟨H, enc, base, sp, held, fuel, x, h⟩ := h
  cases fuel with
  | zero => simp [DataW.trod] at h
  | succ fuel =>
    rw [DataW.trod_step] at h; unfold DataW.trodStep at h; simp only [ht] at h
    split at h <;> simp_all
theorem TR.bool (ht : P.underlying t = some .bool) (h : TR P w t cs) : ∃ b, cs = [.bool b] := by
  obtain ⟨H, enc, base, sp, held, fuel, x, h⟩ := h
  cases fuel with
  | zero => simp [DataW.trod] at h
  | succ fuel =>
    rw [DataW.trod_step] at h; unfold DataW.trodStep at h; simp only [ht] at h
    split at h <;> simp_all
theorem TR.string (ht : P.underlying t = some .string) (h : TR P w t cs) : ∃ l : List UInt8, cs = [.string ⟨l.toArray⟩] ∧ l.length ≤ maxLen := by
  obtain ⟨H, enc, base, sp, held, fuel, x, h⟩ := h
  cases fuel with
  | zero => simp [DataW.trod] at h
  | succ fuel =>
    rw [DataW.trod_step] at h; unfold DataW.trodStep at h; simp only [ht] at h
    split at h <;> try simp_all
    rename_i s
    exact ⟨s.data.toList, by simp, by rw [Array.length_toList]; exact h.1⟩
theorem cells?_some {base : Nat} {a : Addr} {n : Nat} {X : List Value} (h : w.cells? base a n = some X) : X.length = n ∧ ∀ j (hj : j < X.length), w.cell? (a.add j) = some X[j] := by
  obtain ⟨_, h1, h2⟩ := World.cells?_some h
  exact ⟨h1, fun j hj => by rw [h2 j (by omega)]; exact List.getElem?_eq_getElem hj⟩
theorem mapM_each {α β : Type} {f : α → Option β} : ∀ {l : List α} {r : List β}, l.mapM f = some r → ∀ x ∈ l, ∃ y, f x = some y
  | [], _, _, x, hx => by simp at hx
  | z :: l, r, h, x, hx => by
    rw [List.mapM_cons] at h
    obtain ⟨y, h1, h2⟩ := Option.bind_eq_some_iff.1 h
    obtain ⟨ys, h3, _⟩ := Option.bind_eq_some_iff.1 h2
    rcases List.mem_cons.1 hx with rfl | hx
    · exact ⟨y, h1⟩
    · exact mapM_each h3 x hx
theorem flat_len {X : Nat → List Value} {c : Nat} : ∀ {n : Nat}, (∀ i, i < n → (X i).length = c) → ((List.range n).flatMap X).length = n * c
  | 0, _ => by simp
  | k + 1, h => by rw [List.range_succ, List.flatMap_append, List.length_append, flat_len (n := k) (fun i hi => h i (by omega))]; simp [h k (by omega), Nat.succ_mul]
theorem TR.slice (ht : P.underlying t = some (.slice e)) (h : TR P w t cs) : ∃ (v : Value) (n : Nat) (X : Nat → List Value), cs = [v] ∧ n ≤ maxLen ∧ (∀ i, i < n → (X i).length = P.cellsOf e ∧ TR P w e (X i)) ∧ Src w (P.cellsOf e) v n ((List.range n).flatMap X) := by
  obtain ⟨H, enc, base, sp, held, fuel, x, h⟩ := h
  rcases open_slice ht h with ⟨rfl, _⟩ | ⟨a, len, cap, m, n, D, Pl, rfl, _, hlc, hmax, hm, _, hx⟩
  · exact ⟨_, 0, fun _ => [], rfl, by simp [maxLen], fun i hi => by omega, by simp [Src]⟩
  · have hle : len ≤ m := by rw [hm]; split <;> omega
    obtain ⟨X, hX⟩ := choose_lt (n := len) (α := List Value) (p := fun i c => w.cells? base (a.add (i * P.cellsOf e)) (P.cellsOf e) = some c ∧ DataW.trod enc P w base sp held n e c = some (D i, Pl i)) (fun i hi => hx i (by omega))
    have hlen : ∀ i, i < len → (X i).length = P.cellsOf e := fun i hi => (cells?_some (hX i hi).1).1
    refine ⟨_, len, X, rfl, by omega, fun i hi => ⟨hlen i hi, H, enc, base, sp, held, n, _, (hX i hi).2⟩, ?_, ?_⟩
    · exact flat_len hlen
    · refine Or.inr ⟨a, cap, rfl, ?_⟩
      have key : ∀ k, k ≤ len → ∀ j (hj : j < ((List.range k).flatMap X).length), w.cell? (a.add j) = some ((List.range k).flatMap X)[j] := by
        intro k
        induction k with
        | zero => intro _ j hj; simp at hj
        | succ k ih =>
          intro hk j hj
          have hl0 : ((List.range k).flatMap X).length = k * P.cellsOf e := flat_len (fun i hi => hlen i (by omega))
          have hE : (List.range (k + 1)).flatMap X = (List.range k).flatMap X ++ X k := by rw [List.range_succ, List.flatMap_append]; simp
          have hj2 : j < ((List.range k).flatMap X ++ X k).length := by rw [← hE]; exact hj
          have hgoal : ((List.range (k + 1)).flatMap X)[j] = ((List.range k).flatMap X ++ X k)[j] := by congr 1
          rw [hgoal]
          by_cases h1 : j < ((List.range k).flatMap X).length
          · rw [List.getElem_append_left h1]; exact ih (by omega) j h1
          · rw [List.getElem_append_right (by omega)]
            have h2 := (cells?_some (hX k (by omega)).1).2 (j - ((List.range k).flatMap X).length) (by rw [List.length_append] at hj2; omega)
            rw [← h2, Addr.add_add']
            congr 2
            omega
      exact key len (Nat.le_refl _)
theorem TR.struct {fs : Array Field} (ht : P.underlying t = some (.struct fs)) (h : TR P w t cs) : cs.length = P.cellsOf t ∧ ∀ f ∈ fs.toList, TR P w f.type ((cs.drop f.offset).take (P.cellsOf f.type)) := by
  obtain ⟨H, enc, base, sp, held, fuel, x, h⟩ := h
  cases fuel with
  | zero => simp [DataW.trod] at h
  | succ fuel =>
    rw [DataW.trod_step] at h; unfold DataW.trodStep at h; simp only [ht] at h
    split at h
    · rename_i hlen
      refine ⟨hlen, fun f hf => ?_⟩
      obtain ⟨xs, h1, _⟩ := Option.map_eq_some_iff.1 h
      obtain ⟨y, hy⟩ := mapM_each h1 f hf
      exact ⟨H, enc, base, sp, held, fuel, _, hy⟩
    · simp at h
theorem TR.array {n : Nat} (ht : P.underlying t = some (.array n e)) (h : TR P w t cs) : cs.length = P.cellsOf t ∧ ∀ i, i < n → TR P w e ((cs.drop (i * P.cellsOf e)).take (P.cellsOf e)) := by
  obtain ⟨H, enc, base, sp, held, fuel, x, h⟩ := h
  cases fuel with
  | zero => simp [DataW.trod] at h
  | succ fuel =>
    rw [DataW.trod_step] at h; unfold DataW.trodStep at h; simp only [ht] at h
    split at h
    · rename_i hlen
      refine ⟨hlen, fun i hi => ?_⟩
      obtain ⟨xs, h1, _⟩ := Option.map_eq_some_iff.1 h
      obtain ⟨y, hy⟩ := mapM_each h1 i (by simpa using hi)
      exact ⟨H, enc, base, sp, held, fuel, _, hy⟩
    · simp at h
end
end Go.Proofs.Ytoijfmfkkmbabaa
namespace Go.Proofs.Ytoijfmfkkmbabaa
open Go.RowKit Go.Deep
def DRs (w : World) (l : List DV) (cs : List Value) : Prop := cs.length = l.length ∧ ∀ (j : Nat) c v, l[j]? = some c → cs[j]? = some v → DRel (Gr w) c v []
theorem DRs.one {w : World} {c : DV} {v : Value} (h : DRel (Gr w) c v []) : DRs w [c] [v] := ⟨rfl, fun j c' v' h1 h2 => by
  cases j with
  | zero => simp at h1 h2; subst h1 h2; exact h
  | succ j => simp at h1⟩
theorem DRs.app {w : World} {l l' : List DV} {cs cs' : List Value} (h : DRs w l cs) (h' : DRs w l' cs') : DRs w (l ++ l') (cs ++ cs') := ⟨by simp [h.1, h'.1], fun j c v h1 h2 => by
  have e := h.1
  by_cases hj : j < l.length
  · rw [List.getElem?_append_left hj] at h1; rw [List.getElem?_append_left (by omega)] at h2; exact h.2 j c v h1 h2
  · rw [List.getElem?_append_right (by omega)] at h1; rw [List.getElem?_append_right (by omega), e] at h2; exact h'.2 _ c v h1 h2⟩
def Rd (P : Program) (w : World) (t : TypeId) {α : Type} (row : α → List DV) (ok : α → Prop) : Prop := ∀ cs, TR P w t cs → ∃ x, ok x ∧ DRs w (row x) cs
variable {P : Program} {w : World} {t e : TypeId} {α β γ : Type}
theorem Rd.u64 (h : P.underlying t = some (.int .u64)) : Rd P w t (fun n : Nat => [.u n]) fun n => n ≤ 18446744073709551615 := fun cs hc => by
  obtain ⟨n, rfl, hw⟩ := hc.int h
  have hw' : (0 : Int) ≤ n ∧ n ≤ 18446744073709551615 := by simpa [Lit.wf, IntKind.min, IntKind.max, IntKind.signed, IntKind.bits] using hw
  have e : n = ((n.toNat : Nat) : Int) := by omega
  refine ⟨n.toNat, by omega, .one ?_⟩
  show DRel _ (.v (.int .u64 ((n.toNat : Nat) : Int))) _ _
  rw [← e]; exact .v _
theorem Rd.int (h : P.underlying t = some (.int .i64)) : Rd P w t (fun n : Int => [.z n]) fun _ => True := fun cs hc => by
  obtain ⟨n, rfl, hw⟩ := hc.int h
  exact ⟨n, trivial, .one (.v _)⟩
theorem Rd.byte (h : P.underlying t = some (.int .u8)) : Rd P w t (fun b : UInt8 => [.v (.int .u8 (b.toNat : Int))]) fun _ => True := fun cs hc => by
  obtain ⟨n, rfl, hw⟩ := hc.int h
  have hw' : (0 : Int) ≤ n ∧ n ≤ 255 := by simpa [Lit.wf, IntKind.min, IntKind.max, IntKind.signed, IntKind.bits] using hw
  have e : n = (((UInt8.ofNat n.toNat).toNat : Nat) : Int) := by simp; omega
  refine ⟨UInt8.ofNat n.toNat, trivial, .one ?_⟩
  rw [← e]; exact .v _
theorem Rd.slice [Inhabited α] {k : Nat} {row : α → List DV} {ok : α → Prop} (h : P.underlying t = some (.slice e)) (hk : P.cellsOf e = k) (hr : Rd P w e row ok) : Rd P w t (fun l : List α => [.ro k (l.map row)]) fun l => l.length ≤ 9223372036854775807 ∧ ∀ x ∈ l, ok x := fun cs hc => by
  subst hk
  obtain ⟨v, n, X, rfl, hn, hX, hs⟩ := hc.slice h
  obtain ⟨Y, hY⟩ := choose_lt (n := n) (α := α) (p := fun i x => ok x ∧ DRs w (row x) (X i)) fun i hi => hr _ (hX i hi).2
  have hg : ∀ (i : Nat) r, (((List.range n).map Y).map row)[i]? = some r → i < n ∧ r = row (Y i) := fun i r hi => by
    have hlt := (List.getElem?_eq_some_iff.1 hi).1
    simp at hlt
    simp [hlt] at hi
    exact ⟨hlt, hi.symm⟩
  have hl : (((List.range n).map Y).map row).length = n := by simp
  refine ⟨(List.range n).map Y, ⟨by simp; exact Nat.le_trans hn (by decide), ?_⟩, .one (.ro X (fun i r hi => ?_) ?_ (fun w' g => ?_) fun i r j c x h1 h2 h3 => ?_)⟩
  · intro x hx
    obtain ⟨i, hi, rfl⟩ := List.mem_map.1 hx
    exact (hY i (by simpa using hi)).1
  · obtain ⟨hi', rfl⟩ := hg i r hi
    refine ⟨?_, (hX i hi').1⟩
    rw [← (hX i hi').1]; exact (hY i hi').2.1.symm
  · rw [hl]
    rcases hs.2 with ⟨rfl, a, c, rfl⟩ | ⟨a, c, rfl, -⟩
    · exact ⟨_, _, rfl⟩
    · exact ⟨_, _, rfl⟩
  · rw [hl]; exact hs.gr g
  · obtain ⟨hi', rfl⟩ := hg i r h1
    exact (hY i hi').2.2 j c x h2 h3
theorem Rd.map {row : α → List DV} {ok : α → Prop} (hr : Rd P w t row ok) (g : α → β) {row' : β → List DV} {ok' : β → Prop} (h1 : ∀ x, row x = row' (g x)) (h2 : ∀ x, ok x → ok' (g x)) : Rd P w t row' ok' := fun cs hc => by
  obtain ⟨x, h3, h4⟩ := hr cs hc
  exact ⟨g x, h2 x h3, h1 x ▸ h4⟩
theorem Rd.one {f0 : Field} {k0 : Nat} {row0 : α → List DV} {ok0 : α → Prop} (h : P.underlying t = some (.struct #[f0])) (h0 : f0.offset = 0) (hk0 : P.cellsOf f0.type = k0) (ht : P.cellsOf t = k0) (r0 : Rd P w f0.type row0 ok0) : Rd P w t row0 ok0 := fun cs hc => by
  obtain ⟨hl, hf⟩ := hc.struct h
  have a0 := hf f0 (by simp)
  rw [h0, hk0, List.drop_zero, List.take_of_length_le (by omega)] at a0
  exact r0 _ a0
theorem Rd.two {f0 f1 : Field} {k0 k1 : Nat} {row0 : α → List DV} {row1 : β → List DV} {ok0 : α → Prop} {ok1 : β → Prop} (h : P.underlying t = some (.struct #[f0, f1])) (h0 : f0.offset = 0) (h1 : f1.offset = k0) (hk0 : P.cellsOf f0.type = k0) (hk1 : P.cellsOf f1.type = k1) (ht : P.cellsOf t = k0 + k1)
    (r0 : Rd P w f0.type row0 ok0) (r1 : Rd P w f1.type row1 ok1) : Rd P w t (fun x : α × β => row0 x.1 ++ row1 x.2) fun x => ok0 x.1 ∧ ok1 x.2 := fun cs hc => by
  obtain ⟨hl, hf⟩ := hc.struct h
  have a0 := hf f0 (by simp)
  have a1 := hf f1 (by simp)
  rw [h0, hk0, List.drop_zero] at a0
  rw [h1, hk1, List.take_of_length_le (by simp; omega)] at a1
  obtain ⟨x, b0, c0⟩ := r0 _ a0
  obtain ⟨y, b1, c1⟩ := r1 _ a1
  exact ⟨(x, y), ⟨b0, b1⟩, by have := c0.app c1; rwa [List.take_append_drop] at this⟩
theorem Rd.three {f0 f1 f2 : Field} {k0 k1 k2 : Nat} {row0 : α → List DV} {row1 : β → List DV} {row2 : γ → List DV} {ok0 : α → Prop} {ok1 : β → Prop} {ok2 : γ → Prop} (h : P.underlying t = some (.struct #[f0, f1, f2])) (h0 : f0.offset = 0) (h1 : f1.offset = k0) (h2 : f2.offset = k0 + k1)
    (hk0 : P.cellsOf f0.type = k0) (hk1 : P.cellsOf f1.type = k1) (hk2 : P.cellsOf f2.type = k2) (ht : P.cellsOf t = k0 + k1 + k2)
    (r0 : Rd P w f0.type row0 ok0) (r1 : Rd P w f1.type row1 ok1) (r2 : Rd P w f2.type row2 ok2) : Rd P w t (fun x : α × β × γ => row0 x.1 ++ (row1 x.2.1 ++ row2 x.2.2)) fun x => ok0 x.1 ∧ ok1 x.2.1 ∧ ok2 x.2.2 := fun cs hc => by
  obtain ⟨hl, hf⟩ := hc.struct h
  have a0 := hf f0 (by simp)
  have a1 := hf f1 (by simp)
  have a2 := hf f2 (by simp)
  rw [h0, hk0, List.drop_zero] at a0
  rw [h1, hk1] at a1
  rw [h2, hk2, List.take_of_length_le (by simp; omega), ← List.drop_drop] at a2
  obtain ⟨x, b0, c0⟩ := r0 _ a0
  obtain ⟨y, b1, c1⟩ := r1 _ a1
  obtain ⟨z, b2, c2⟩ := r2 _ a2
  exact ⟨(x, y, z), ⟨b0, b1, b2⟩, by have := c0.app (c1.app c2); rwa [List.take_append_drop, List.take_append_drop] at this⟩
theorem DRs.agg {l : List DV} {cs : Array Value} (h : DRs w l cs.toList) : ARel (Gr w) [] (.ag (l.map .d)) (.agg cs) := by
  have := ARel.ag (K := Gr w) (β := []) (l := l.map .d) cs.toList (by simpa using h.1) fun j c y h1 h2 => by
    rw [List.getElem?_map] at h1
    cases hc : l[j]? with
    | none => rw [hc] at h1; cases h1
    | some c' => rw [hc] at h1; simp at h1; subst h1; exact .d (h.2 j c' y hc h2)
  simpa using this
theorem DRs.v {c : DV} {v : Value} (h : DRs w [c] [v]) : ARel (Gr w) [] (.d c) v := .d (h.2 0 c v rfl rfl)
theorem Con.true {f : FuncId} {args : List AV} (h : Con P f args (.v (.bool true))) {ys : List Value} (hl : ys.length = args.length) (hr : ∀ (j : Nat) c y, args[j]? = some c → ys[j]? = some y → ARel (Gr w) [] c y) : Calls P f ys.toArray w fun e w' => e = .returned (.bool true) ∧ Gr w w' :=
  (h.2 w (Gr w) ys (fun _ g => g) hl hr).mono fun e w' ⟨r, he, hg, H, ⟨Ho, Hi, _, hd⟩, _⟩ => by
    cases hd with
    | v x => exact ⟨he, hg⟩
end Go.Proofs.Ytoijfmfkkmbabaa
namespace Go.Proofs.Ytoijfmfkkmbabaa
open Go.RowKit
theorem Try.own : ownKnob Try.prog.godebug = none := by kernel_rfl
theorem Try.laidOut : laidOutB Try.prog = true := by kernel_rfl
deriving instance Inhabited for Proc, Slot, Vid, View, Msg
abbrev Big : Nat := 9223372036854775807
variable {w : World}
theorem rd_proc : Rd Try.prog w 24 Proc.row fun _ => True := ((Rd.two Try.underlying24 rfl rfl (k0 := 1) (k1 := 1) (by kernel_rfl) (by kernel_rfl) (by kernel_rfl) (Rd.int Try.underlying3) (Rd.u64 Try.underlying22)).map fun x => Proc.mk x.1 x.2) (fun _ => rfl) fun _ _ => trivial
theorem rd_bytes : Rd Try.prog w 34 (fun l : List UInt8 => [.ro 1 (bytesR l)]) fun l => l.length ≤ Big := ((Rd.slice Try.underlying34 (by kernel_rfl) (Rd.byte Try.underlying5)).map id) (fun _ => rfl) fun _ h => h.1
theorem rd_nums : Rd Try.prog w 28 (fun l : List Nat => [.ro 1 (nums l)]) fun l => l.length ≤ Big ∧ ∀ n ∈ l, n ≤ 18446744073709551615 := Rd.slice Try.underlying28 (by kernel_rfl) (Rd.u64 Try.underlying22)
theorem rd_slot : Rd Try.prog w 69 Slot.row fun s => s.body.length ≤ Big := ((Rd.two Try.underlying69 rfl rfl (k0 := 1) (k1 := 1) (by kernel_rfl) (by kernel_rfl) (by kernel_rfl) (Rd.u64 Try.underlying22) rd_bytes).map fun x => Slot.mk x.1 x.2) (fun _ => rfl) fun _ h => h.2
theorem rd_stream : Rd Try.prog w 67 (fun l : List Slot => [.ro 2 (slots l)]) bigS := (Rd.one Try.underlying67 rfl (k0 := 1) (by kernel_rfl) (by kernel_rfl) (Rd.slice Try.underlying65 (by kernel_rfl) rd_slot)).map id (fun _ => rfl) fun _ h => h
theorem rd_msg : Rd Try.prog w 36 Msg.row fun m => m.body.length ≤ Big := ((Rd.three Try.underlying36 rfl rfl rfl (k0 := 2) (k1 := 1) (k2 := 1) (by kernel_rfl) (by kernel_rfl) (by kernel_rfl) (by kernel_rfl) rd_proc (Rd.u64 Try.underlying22) rd_bytes).map fun x => Msg.mk x.1 x.2.1 x.2.2) (fun _ => rfl) fun _ h => h.2.2
def Vid.row (v : Vid) : List DV := .u v.round :: v.server.row
theorem rd_vid : Rd Try.prog w 26 Vid.row fun _ => True := ((Rd.two Try.underlying26 rfl rfl (k0 := 1) (k1 := 2) (by kernel_rfl) (by kernel_rfl) (by kernel_rfl) (Rd.u64 Try.underlying22) rd_proc).map fun x => Vid.mk x.1 x.2) (fun _ => rfl) fun _ _ => trivial
def View.row (v : View) : List DV := v.id.row ++ [.ro 2 (procs v.members), .ro 1 (nums v.starts)]
theorem rd_view : Rd Try.prog w 30 View.row fun v => v.members.length ≤ Big ∧ v.starts.length ≤ Big := ((Rd.three Try.underlying30 rfl rfl rfl (k0 := 3) (k1 := 1) (k2 := 1) (by kernel_rfl) (by kernel_rfl) (by kernel_rfl) (by kernel_rfl) rd_vid (Rd.slice Try.underlying27 (by kernel_rfl) rd_proc) rd_nums).map fun x => View.mk x.1 x.2.1 x.2.2) (fun _ => rfl) fun _ h => ⟨h.2.1.1, h.2.2.1⟩
def flowRow (f : Flow) : List DV := f.view.row ++ [.ro 1 (streams f.streams), .ro 1 (nums f.handed)]
theorem rd_flow : Rd Try.prog w 33 flowRow Flow.big := ((Rd.three Try.underlying33 rfl rfl rfl (k0 := 5) (k1 := 1) (k2 := 1) (by kernel_rfl) (by kernel_rfl) (by kernel_rfl) (by kernel_rfl) rd_view (Rd.slice Try.underlying31 (by kernel_rfl) rd_stream) rd_nums).map fun x => Flow.mk x.1 x.2.1 x.2.2) (fun _ => rfl) fun _ h => ⟨h.1.1, h.1.2, h.2.1.1, h.2.2.1, h.2.1.2⟩
end Go.Proofs.Ytoijfmfkkmbabaa
namespace Go.Proofs.Ytoijfmfkkmbabaa
open Go.ChangeShapes Go.WideShapes Go.ChangeAt Go.RowKit
set_option maxRecDepth 100000 in
theorem streamTakes_lifted (os : Os) (started : os.Started) (H : Type) (enc : TypeId × Value → H) :
    ReturnsInHanded {} Try.checked os 3 .any (Rows.streamTakesSpec.pre6 enc Try.prog Try.f3 Rows.streamTakesRow.domain false) (Rows.streamTakesSpec.post enc Try.prog Try.f3 false true false false) := by
  refine returnsInHanded_of_change (C := Try.checked) Try.own started (by kernel_rfl) Try.func3
    (ChangeSpec.witness6 (enc := enc) (C := Try.checked) false ⟨#[], #[.agg #[.int .u64 0, .int .i64 0, .int .u64 0, .slice none 0 0, .slice none 0 0, .slice none 0 0, .slice none 0 0], .agg #[.int .i64 0, .int .u64 0, .int .u64 0, .slice none 0 0]], []⟩ 8 (by kernel_rfl) (by kernel_rfl) (by kernel_rfl) (by kernel_rfl)) ?_
  intro W base args ds gs before hval0 hW hcnd _
  have hW0 : DataW.Whole enc Try.prog Try.f3.params.toList Rows.streamTakesSpec.vars false W args.toList ds gs before := hW
  have hW' := hW0
  obtain ⟨p, q, hA0, hV, rfl, hfz, hnd⟩ := hW
  have hA : DataW.TrodAll enc Try.prog W 0 (fun _ => true) true Try.f3.params.toList args.toList ds p := hA0
  have hval : ∀ (j : Nat) t v, Try.f3.params[j]? = some t → args[j]? = some v → Value.okWide Try.prog W .any base t v := hval0
  rw [Try.params3] at hA hval
  obtain ⟨v0, vs0, d0, ds0, p0, q0, hargs0, rfl, rfl, h0, r0⟩ := trodAll_cons hA
  obtain ⟨v1, vs1, d1, ds1, p1, q1, hargs1, rfl, rfl, h1, r1⟩ := trodAll_cons r0
  subst hargs1
  obtain ⟨rfl, rfl, rfl⟩ := trodAll_nil r1
  obtain rfl : args = #[v0, v1] := by cases args; simp_all
  obtain ⟨rfl, rfl⟩ := trodVars_none hV
  obtain ⟨cs0, rfl, -, -⟩ : ∃ cs, v0 = .agg cs ∧ _ ∧ _ := by have := hval 0 33 v0 rfl rfl; rw [Value.okWide, Try.underlying33] at this; exact this
  obtain ⟨f, hf, g0⟩ := rd_flow _ (TR.of h0)
  obtain ⟨cs1, rfl, -, -⟩ : ∃ cs, v1 = .agg cs ∧ _ ∧ _ := by have := hval 1 36 v1 rfl rfl; rw [Value.okWide, Try.underlying36] at this; exact this
  obtain ⟨m, hm, g1⟩ := rd_msg _ (TR.of h1)
  refine (Con.true (w := W) (takesLaw f m hf hm) (ys := [_, _]) rfl fun j c y e1 e2 => ?_).mono fun e W' ⟨he, hg⟩ => ?_
  · match j, e1, e2 with
    | 0, e1, e2 => simp at e1 e2; subst e1 e2; exact g0.agg
    | 1, e1, e2 => simp at e1 e2; subst e1 e2; exact g1.agg
    | k + 2, e1, _ => simp at e1
  · subst he
    exact ⟨_, rfl, law_post Try.laidOut (by kernel_rfl) (by kernel_rfl) Try.underlying4 rfl hW' rfl hg⟩
theorem streamTakes_holds : Rows.StreamTakesSaid :=
  OpenClaim.holds_of_wide 3 Try.f3 rfl rfl rfl rfl rfl rfl rfl ⟨rfl, rfl, rfl, rfl, rfl⟩ rfl rfl rfl rfl rfl (by kernel_rfl) Try.func3 (by kernel_rfl)
    (of_decide_eq_true (by kernel_rfl)) (by unfold Func.isWrapper; first | (rw [if_pos (by decide +kernel)]; kernel_rfl) | (rw [if_neg (by decide +kernel)]; exact ⟨rfl, rfl⟩))
    (fun os started H enc _ => streamTakes_lifted os started H enc)
end Go.Proofs.Ytoijfmfkkmbabaa
