/-
  streamHands_holds, part 6 of 6: merged by program from the texts that it needs.
-/
import Derived.Test.YtoijfmfkkmbabaaHandsE
set_option linter.unusedSimpArgs false
set_option linter.unusedVariables false
set_option linter.unnecessarySimpa false
namespace Go.Proofs.Ytoijfmfkkmbabaa
open Go.RowKit
theorem View.may_six {v : View} (h : v.may = true) : v.members.length ≤ 6 := by
  unfold View.may at h
  split at h
  · rw [Bool.and_eq_true] at h
    have := of_decide_eq_true h.2
    rw [this]; simp [View.first]
  · simp only [Bool.and_eq_true, decide_eq_true_eq] at h
    exact h.1.1.1.1.2
theorem Flow.hand_bounded {f : Flow} {u : List Nat} (hb : f.bounded) : (f.owned.hand u).bounded := by
  obtain ⟨h1, h2, h3, h4⟩ := Flow.owned_bounded hb
  exact ⟨h1, h2, by show (newH _ _ _).length < _; rw [newH_len]; exact h3, h4⟩
theorem same_flow (a : Flow) (ha : a.bounded) : Con Try.prog 11 [.ag [.u a.view.id.round, .z a.view.id.server.node, .u a.view.id.server.inc, .d (.ro 2 (procs a.view.members)), .d (.ro 1 (nums a.view.starts)), .d (.ro 1 (streams a.streams)), .d (.ro 1 (nums a.handed))], .ag [.u a.view.id.round, .z a.view.id.server.node, .u a.view.id.server.inc, .d (.ro 2 (procs a.view.members)), .d (.ro 1 (nums a.view.starts)), .d (.ro 1 (streams a.streams)), .d (.ro 1 (nums a.handed))]] (.v (.bool true)) := by
  have k := sameFlows a a ha; rw [decide_eq_true rfl] at k; exact k
theorem same_msgs (a : List Msg) (ha : a.length < 1073741824) : Con Try.prog 18 [.d (.ro 4 (msgs a)), .d (.ro 4 (msgs a))] (.v (.bool true)) := by
  have k := sameMsgs a a ha; rw [decide_eq_true rfl] at k; exact k
theorem same_nums (a : List Nat) (ha : a.length < 1073741824) : Con Try.prog 19 [.d (.ro 1 (nums a)), .d (.ro 1 (nums a))] (.v (.bool true)) := by
  have k := lawNumbers a a (by omega); rw [decide_eq_true rfl] at k; exact k
theorem hand_len {f : Flow} {u : List Nat} (hb : f.bounded) : (handTo f.owned u f.owned.streams.length).length < 1073741824 := by
  have h1 := handTo_len (f := f.owned) (u := u) (fun i l h hl hh => (Flow.owned_ok hl hh).1) f.owned.streams.length
  have h2 : f.owned.streams.length ≤ 6 := by
    cases hm : f.may with
    | true =>
      rw [Flow.owned_yes hm]
      obtain ⟨hv, hs, -⟩ := Flow.may_len hm
      rw [hs]; exact View.may_six hv
    | false => rw [Flow.owned_no hm]; simp [Flow.zero]
  omega
theorem counts_len {f : Flow} (hb : f.bounded) : f.counts.length < 1073741824 := by unfold Flow.counts; rw [List.length_map]; exact (Flow.owned_bounded hb).2.1
set_option maxRecDepth 100000 in
theorem handsLaw (f : Flow) (l : List Nat) (hB : f.big) (hL : l.length ≤ 9223372036854775807) : Con Try.prog 4 [.ag [.u f.view.id.round, .z f.view.id.server.node, .u f.view.id.server.inc, .d (.ro 2 (procs f.view.members)), .d (.ro 1 (nums f.view.starts)), .d (.ro 1 (streams f.streams)), .d (.ro 1 (nums f.handed))], .d (.ro 1 (nums l))] (.v (.bool true)) := by
  refine Con.intro (by kernel_rfl) rfl rfl 67 rfl rfl fun w0 K ac hK r => ?_
  cases h0 : (f.heavyB) with
  | false =>
    have hb := Flow.light (by assumption)
    obtain ⟨hbv, hb1, hb2, hb3⟩ := id hb
    cases h1 : (decide ((100 : Int) < ((l.length : Nat) : Int))) with
    | false =>
      have qh1 := of_decide_eq_false h1
      refine toAt (todo' := aft Try.f4 3) (E' := [(1, .d (.ro 1 (nums l))), (2, .pt 0 0), (4, .d (.v (.bool false))), (5, .pt 5 0)]) (M' := [.bx 33 [.u f.view.id.round, .z f.view.id.server.node, .u f.view.id.server.inc, .d (.ro 2 (procs f.view.members)), .d (.ro 1 (nums f.view.starts)), .d (.ro 1 (streams f.streams)), .d (.ro 1 (nums f.handed))], .rw 24 2 (procs f.view.members), .rw 22 1 (nums f.view.starts), .rw 67 1 (streamsO f.streams), .rw 22 1 (nums f.handed), .bx 33 [.u f.view.id.round, .z f.view.id.server.node, .u f.view.id.server.inc, .sl 1 ((procs f.view.members).length), .sl 2 ((nums f.view.starts).length), .sl 3 ((streamsO f.streams).length), .sl 4 ((nums f.handed).length)]]) tb_ok mixed_ok hK [(1, [(1, .con (.v (.bool false))), (4, .z (((l.length : Nat) : Int))), (5, .b false)]), (3, [(1, .con (.ag [.u f.view.id.round, .z f.view.id.server.node, .u f.view.id.server.inc, .em 24 2 (procs f.view.members), .em 22 1 (nums f.view.starts), .em 67 1 (streamsO f.streams), .em 22 1 (nums f.handed)]))])] 9 [0, 1, 2, 3, 4, 5] [1, 2, 4, 5] r (by kernel_rfl) (an ((by have k := heavyOk f hB; rw [h0] at k; exact k) : Con Try.prog 6 [.ag [.u f.view.id.round, .z f.view.id.server.node, .u f.view.id.server.inc, .d (.ro 2 (procs f.view.members)), .d (.ro 1 (nums f.view.starts)), .d (.ro 1 (streams f.streams)), .d (.ro 1 (nums f.handed))]] (.v (.bool false))) (an ((by first | rfl | simp [bytesR]) : (((nums l).length : Nat) : Int) = ((l.length : Nat) : Int)) (an h1 (an (refFlowCopy f hb) trivial)))) fun ac wd r => ?_
      have r := r.stay (p1 := []) (p2 := [((procs f.view.members).length) = (procs f.view.members).length, ((nums f.view.starts).length) = (nums f.view.starts).length, ((streamsO f.streams).length) = (streamsO f.streams).length, ((nums f.handed).length) = (nums f.handed).length]) (E1 := [(1, .d (.ro 1 (nums l))), (2, .pt 0 0), (4, .d (.v (.bool false))), (5, .pt 5 0)]) (M1 := [.bx 33 [.u f.view.id.round, .z f.view.id.server.node, .u f.view.id.server.inc, .d (.ro 2 (procs f.view.members)), .d (.ro 1 (nums f.view.starts)), .d (.ro 1 (streams f.streams)), .d (.ro 1 (nums f.handed))], .rw 24 2 (procs f.view.members), .rw 22 1 (nums f.view.starts), .rw 67 1 (streamsO f.streams), .rw 22 1 (nums f.handed), .bx 33 [.u f.view.id.round, .z f.view.id.server.node, .u f.view.id.server.inc, .sl 1 ((procs f.view.members).length), .sl 2 ((nums f.view.starts).length), .sl 3 ((streamsO f.streams).length), .sl 4 ((nums f.handed).length)]]) (M2 := [.bx 33 [.u f.view.id.round, .z f.view.id.server.node, .u f.view.id.server.inc, .d (.ro 2 (procs f.view.members)), .d (.ro 1 (nums f.view.starts)), .d (.ro 1 (streams f.streams)), .d (.ro 1 (nums f.handed))], .dead, .dead, .dead, .dead, .bx 33 [.u f.view.id.round, .z f.view.id.server.node, .u f.view.id.server.inc, .d (.ro 2 (frozR (procs f.view.members))), .d (.ro 1 (frozR (nums f.view.starts))), .d (.ro 1 (frozR (streamsO f.streams))), .d (.ro 1 (frozR (nums f.handed)))]]) (E2 := [(1, .d (.ro 1 (nums l))), (2, .pt 0 0), (4, .d (.v (.bool false))), (5, .pt 5 0)]) (M3 := [.bx 33 [.u f.view.id.round, .z f.view.id.server.node, .u f.view.id.server.inc, .d (.ro 2 (procs f.view.members)), .d (.ro 1 (nums f.view.starts)), .d (.ro 1 (streams f.streams)), .d (.ro 1 (nums f.handed))], .dead, .dead, .dead, .dead, .bx 33 [.u f.view.id.round, .z f.view.id.server.node, .u f.view.id.server.inc, .d (.ro 2 (procs f.view.members)), .d (.ro 1 (nums f.view.starts)), .d (.ro 1 (streams f.streams)), .d (.ro 1 (nums f.handed))]]) [] [(5, 3), (5, 4), (5, 5), (5, 6)] (by kernel_rfl) (by kernel_rfl) trivial (an (rfN ((procs f.view.members).length)) (an (rfN ((nums f.view.starts).length)) (an (rfN ((streamsO f.streams).length)) (an (rfN ((nums f.handed).length)) trivial)))) rfl (by simp only [froz_procs, froz_nums, froz_streams, froz_strm, froz_msgs, froz_msgs', froz_slots, froz_slots', froz_bytes, froz_ebytes, froz_enums])
      have v4_0 := ((by first | rfl | (simp; done) | (simp <;> omega)) : (0) = ([] : List (List DV)).length)
      have v4_1 := ((by first | omega | (simp [bytesR_len]; done) | (simp [bytesR_len]; omega)) : (2 * ((0) + (nums l).length) + 192) * 8 ≤ 281474976710656)
      have v4_2 := ((by first | omega | (simp [bytesR_len]; done) | (simp [bytesR_len]; omega)) : (0) + (nums l).length < 4611686018427387904)
      have v4_3 := ((by simp [OneR, AV.one, oneC, bytesR]) : OneR (nums l))
      have v4_4 := (handOk viewMay f l hb (by omega))
      have v4_5 := (rfD (.u f.view.id.round))
      have v4_6 := (rfD (.z f.view.id.server.node))
      have v4_7 := (rfD (.u f.view.id.server.inc))
      have v4_8 := (rfD (.ro 2 (procs f.view.members)))
      have v4_9 := (rfD (.ro 1 (nums f.view.starts)))
      have v4_10 := (rfD (.ro 1 (streams f.streams)))
      have v4_11 := (rfD (.ro 1 (nums f.handed)))
      have v4_12 := ((by first | rfl | (simp; done) | (simp <;> omega)) : (0 + (nums l).length) = ([] ++ (nums l) : List (List DV)).length)
      have v4_13 := ((by first | exact froz_procs _ | exact froz_nums _ | exact froz_strm _ | exact froz_streams _ | exact froz_msgs _ | exact froz_msgs' _ | exact froz_ebytes _ | exact froz_enums _ | exact froz_nums [1, 9] | exact froz_nums [1, 0]) : frozR ([] ++ (nums l)) = nums l)
      refine toDraw (todo' := aft Try.f4 4) (E' := [(1, .d (.ro 1 (nums l))), (2, .pt 0 0), (4, .d (.v (.bool false))), (5, .pt 5 0), (6, .pt 12 0), (7, .sl 11 ((msgsO (handTo f.owned l f.owned.streams.length)).length))]) (M' := [.bx 33 [.u f.view.id.round, .z f.view.id.server.node, .u f.view.id.server.inc, .d (.ro 2 (procs f.view.members)), .d (.ro 1 (nums f.view.starts)), .d (.ro 1 (streams f.streams)), .d (.ro 1 (nums f.handed))], .dead, .dead, .dead, .dead, .bx 33 [.u f.view.id.round, .z f.view.id.server.node, .u f.view.id.server.inc, .d (.ro 2 (procs f.view.members)), .d (.ro 1 (nums f.view.starts)), .d (.ro 1 (streams f.streams)), .d (.ro 1 (nums f.handed))], .dead, .rw 24 2 (procs (f.owned.hand l).view.members), .rw 22 1 (nums (f.owned.hand l).view.starts), .rw 67 1 (streams (f.owned.hand l).streams), .rw 22 1 (nums (f.owned.hand l).handed), .rw 36 4 (msgsO (handTo f.owned l f.owned.streams.length)), .bx 33 [.u ((f.owned.hand l).view.id.round), .z ((f.owned.hand l).view.id.server.node), .u ((f.owned.hand l).view.id.server.inc), .sl 7 ((procs (f.owned.hand l).view.members).length), .sl 8 ((nums (f.owned.hand l).view.starts).length), .sl 9 ((streams (f.owned.hand l).streams).length), .sl 10 ((nums (f.owned.hand l).handed).length)]]) tb_ok mixed_ok hK [(4, [(4, .stay [.ag [.u f.view.id.round, .z f.view.id.server.node, .u f.view.id.server.inc, .d (.ro 2 (procs f.view.members)), .d (.ro 1 (nums f.view.starts)), .d (.ro 1 (streams f.streams)), .d (.ro 1 (nums f.handed))], .d (.ro 1 (nums l))] (.tu [.ag [.u ((f.owned.hand l).view.id.round), .z ((f.owned.hand l).view.id.server.node), .u ((f.owned.hand l).view.id.server.inc), .em 24 2 (procs (f.owned.hand l).view.members), .em 22 1 (nums (f.owned.hand l).view.starts), .em 67 1 (streams (f.owned.hand l).streams), .em 22 1 (nums (f.owned.hand l).handed)], .em 36 4 (msgsO (handTo f.owned l f.owned.streams.length))]))])] 1 4 [] [[0, 1, 2, 3, 4, 5, 6, 7, 8, 9, 10, 11, 12], [0, 1, 2, 3, 4, 5, 6, 8, 9, 10, 11, 12, 7], [0, 1, 2, 3, 4, 5, 6, 8, 9, 10, 11, 12, 7], [0, 1, 2, 3, 4, 5, 7, 8, 9, 10, 11, 12, 6]] [1, 2, 4, 5, 6, 7] r (by kernel_rfl) (an (an v4_0 (an v4_1 (an v4_2 (an v4_3 (an v4_4 (an v4_5 (an v4_6 (an v4_7 (an v4_8 (an v4_9 (an v4_10 (an v4_11 (an (rfN (1)) (an v4_12 (an v4_13 trivial))))))))))))))) (an (an v4_0 (an v4_1 (an v4_2 (an v4_3 (an v4_4 (an v4_5 (an v4_6 (an v4_7 (an v4_8 (an v4_9 (an v4_10 (an v4_11 (an (rfN (1)) (an v4_12 (an v4_13 trivial))))))))))))))) (an (an v4_0 (an v4_1 (an v4_2 (an v4_3 (an v4_4 (an v4_5 (an v4_6 (an v4_7 (an v4_8 (an v4_9 (an v4_10 (an v4_11 (an (rfN (1)) (an v4_12 (an v4_13 trivial))))))))))))))) (an (an v4_0 (an v4_1 (an v4_2 (an v4_3 (an v4_4 (an v4_5 (an v4_6 (an v4_7 (an v4_8 (an v4_9 (an v4_10 (an v4_11 (an (rfN (1)) (an v4_12 (an v4_13 trivial))))))))))))))) trivial)))) fun ac wd r => ?_
      exact toRet tb_ok mixed_ok hK rfl [(5, [(2, .con (.tu [.ag [.u ((f.owned.hand l).view.id.round), .z ((f.owned.hand l).view.id.server.node), .u ((f.owned.hand l).view.id.server.inc), .em 24 2 (procs (f.owned.hand l).view.members), .em 22 1 (nums (f.owned.hand l).view.starts), .em 67 1 (streams (f.owned.hand l).streams), .em 22 1 (nums (f.owned.hand l).handed)], .em 36 4 (msgs (handTo f.owned l f.owned.streams.length))]))]), (6, [(2, .call [.ag [.u ((f.owned.hand l).view.id.round), .z ((f.owned.hand l).view.id.server.node), .u ((f.owned.hand l).view.id.server.inc), .d (.ro 2 (procs (f.owned.hand l).view.members)), .d (.ro 1 (nums (f.owned.hand l).view.starts)), .d (.ro 1 (streams (f.owned.hand l).streams)), .d (.ro 1 (nums (f.owned.hand l).handed))], .ag [.u ((f.owned.hand l).view.id.round), .z ((f.owned.hand l).view.id.server.node), .u ((f.owned.hand l).view.id.server.inc), .d (.ro 2 (procs (f.owned.hand l).view.members)), .d (.ro 1 (nums (f.owned.hand l).view.starts)), .d (.ro 1 (streams (f.owned.hand l).streams)), .d (.ro 1 (nums (f.owned.hand l).handed))]] (.v (.bool true))), (7, .call [.d (.ro 4 (msgs (handTo f.owned l f.owned.streams.length))), .d (.ro 4 (msgs (handTo f.owned l f.owned.streams.length)))] (.v (.bool true))), (12, .con (.em 22 1 (nums f.counts))), (14, .con (.em 22 1 (nums f.counts))), (15, .call [.d (.ro 1 (nums f.counts)), .d (.ro 1 (nums f.counts))] (.v (.bool true)))]), (8, [(2, .con (.em 36 4 (msgsO (lackTo f.owned l f.owned.streams.length)))), (5, .con (.em 36 4 (msgs (lackTo f.owned l f.owned.streams.length)))), (6, .call [.d (.ro 4 (msgs (lackTo f.owned l f.owned.streams.length))), .d (.ro 4 (msgs (lackTo f.owned l f.owned.streams.length)))] (.v (.bool true))), (10, .con (.v (.bool true))), (13, .con (.v (.bool true)))])] 2000 r (by kernel_rfl) (an (refHand f l hb (by omega)) (an (same_flow _ (Flow.hand_bounded hb) : Con Try.prog 11 [.ag [.u ((f.owned.hand l).view.id.round), .z ((f.owned.hand l).view.id.server.node), .u ((f.owned.hand l).view.id.server.inc), .d (.ro 2 (procs (f.owned.hand l).view.members)), .d (.ro 1 (nums (f.owned.hand l).view.starts)), .d (.ro 1 (streams (f.owned.hand l).streams)), .d (.ro 1 (nums (f.owned.hand l).handed))], .ag [.u ((f.owned.hand l).view.id.round), .z ((f.owned.hand l).view.id.server.node), .u ((f.owned.hand l).view.id.server.inc), .d (.ro 2 (procs (f.owned.hand l).view.members)), .d (.ro 1 (nums (f.owned.hand l).view.starts)), .d (.ro 1 (streams (f.owned.hand l).streams)), .d (.ro 1 (nums (f.owned.hand l).handed))]] (.v (.bool true))) (an ((by first | exact ind_v _ | exact Ind.two _ _) : Ind (.v (.bool true))) (an (rfD (.u ((f.owned.hand l).view.id.round))) (an (rfD (.z ((f.owned.hand l).view.id.server.node))) (an (rfD (.u ((f.owned.hand l).view.id.server.inc))) (an (rfN (2)) (an (rfN ((procs (f.owned.hand l).view.members).length)) (an ((by first | exact froz_procs _ | exact froz_nums _ | exact froz_strm _ | exact froz_streams _ | exact froz_msgs _ | exact froz_msgs' _ | exact froz_ebytes _ | exact froz_enums _ | exact froz_nums [1, 9] | exact froz_nums [1, 0]) : frozR (procs (f.owned.hand l).view.members) = procs (f.owned.hand l).view.members) (an (rfN (1)) (an (rfN ((nums (f.owned.hand l).view.starts).length)) (an ((by first | exact froz_procs _ | exact froz_nums _ | exact froz_strm _ | exact froz_streams _ | exact froz_msgs _ | exact froz_msgs' _ | exact froz_ebytes _ | exact froz_enums _ | exact froz_nums [1, 9] | exact froz_nums [1, 0]) : frozR (nums (f.owned.hand l).view.starts) = nums (f.owned.hand l).view.starts) (an (rfN (1)) (an (rfN ((streams (f.owned.hand l).streams).length)) (an ((by first | exact froz_procs _ | exact froz_nums _ | exact froz_strm _ | exact froz_streams _ | exact froz_msgs _ | exact froz_msgs' _ | exact froz_ebytes _ | exact froz_enums _ | exact froz_nums [1, 9] | exact froz_nums [1, 0]) : frozR (streams (f.owned.hand l).streams) = streams (f.owned.hand l).streams) (an (rfN (1)) (an (rfN ((nums (f.owned.hand l).handed).length)) (an ((by first | exact froz_procs _ | exact froz_nums _ | exact froz_strm _ | exact froz_streams _ | exact froz_msgs _ | exact froz_msgs' _ | exact froz_ebytes _ | exact froz_enums _ | exact froz_nums [1, 9] | exact froz_nums [1, 0]) : frozR (nums (f.owned.hand l).handed) = nums (f.owned.hand l).handed) (an (rfD (.u ((f.owned.hand l).view.id.round))) (an (rfD (.z ((f.owned.hand l).view.id.server.node))) (an (rfD (.u ((f.owned.hand l).view.id.server.inc))) (an (rfN (2)) (an (rfN ((procs (f.owned.hand l).view.members).length)) (an ((by first | exact froz_procs _ | exact froz_nums _ | exact froz_strm _ | exact froz_streams _ | exact froz_msgs _ | exact froz_msgs' _ | exact froz_ebytes _ | exact froz_enums _ | exact froz_nums [1, 9] | exact froz_nums [1, 0]) : frozR (procs (f.owned.hand l).view.members) = procs (f.owned.hand l).view.members) (an (rfN (1)) (an (rfN ((nums (f.owned.hand l).view.starts).length)) (an ((by first | exact froz_procs _ | exact froz_nums _ | exact froz_strm _ | exact froz_streams _ | exact froz_msgs _ | exact froz_msgs' _ | exact froz_ebytes _ | exact froz_enums _ | exact froz_nums [1, 9] | exact froz_nums [1, 0]) : frozR (nums (f.owned.hand l).view.starts) = nums (f.owned.hand l).view.starts) (an (rfN (1)) (an (rfN ((streams (f.owned.hand l).streams).length)) (an ((by first | exact froz_procs _ | exact froz_nums _ | exact froz_strm _ | exact froz_streams _ | exact froz_msgs _ | exact froz_msgs' _ | exact froz_ebytes _ | exact froz_enums _ | exact froz_nums [1, 9] | exact froz_nums [1, 0]) : frozR (streams (f.owned.hand l).streams) = streams (f.owned.hand l).streams) (an (rfN (1)) (an (rfN ((nums (f.owned.hand l).handed).length)) (an ((by first | exact froz_procs _ | exact froz_nums _ | exact froz_strm _ | exact froz_streams _ | exact froz_msgs _ | exact froz_msgs' _ | exact froz_ebytes _ | exact froz_enums _ | exact froz_nums [1, 9] | exact froz_nums [1, 0]) : frozR (nums (f.owned.hand l).handed) = nums (f.owned.hand l).handed) (an (same_msgs _ (hand_len hb) : Con Try.prog 18 [.d (.ro 4 (msgs (handTo f.owned l f.owned.streams.length))), .d (.ro 4 (msgs (handTo f.owned l f.owned.streams.length)))] (.v (.bool true))) (an ((by first | exact ind_v _ | exact Ind.two _ _) : Ind (.v (.bool true))) (an (rfN (4)) (an (rfN ((msgsO (handTo f.owned l f.owned.streams.length)).length)) (an ((by first | exact froz_procs _ | exact froz_nums _ | exact froz_strm _ | exact froz_streams _ | exact froz_msgs _ | exact froz_msgs' _ | exact froz_ebytes _ | exact froz_enums _ | exact froz_nums [1, 9] | exact froz_nums [1, 0]) : frozR (msgsO (handTo f.owned l f.owned.streams.length)) = msgs (handTo f.owned l f.owned.streams.length)) (an (rfN (4)) (an (rfN ((msgs (handTo f.owned l f.owned.streams.length)).length)) (an ((by first | exact froz_procs _ | exact froz_nums _ | exact froz_strm _ | exact froz_streams _ | exact froz_msgs _ | exact froz_msgs' _ | exact froz_ebytes _ | exact froz_enums _ | exact froz_nums [1, 9] | exact froz_nums [1, 0]) : frozR (msgs (handTo f.owned l f.owned.streams.length)) = msgs (handTo f.owned l f.owned.streams.length)) (an (countsOk viewMay f hb) (an (refCounts f hb) (an (same_nums _ (counts_len hb) : Con Try.prog 19 [.d (.ro 1 (nums f.counts)), .d (.ro 1 (nums f.counts))] (.v (.bool true))) (an ((by first | exact ind_v _ | exact Ind.two _ _) : Ind (.v (.bool true))) (an (rfN (1)) (an (rfN ((nums f.counts).length)) (an ((by first | exact froz_procs _ | exact froz_nums _ | exact froz_strm _ | exact froz_streams _ | exact froz_msgs _ | exact froz_msgs' _ | exact froz_ebytes _ | exact froz_enums _ | exact froz_nums [1, 9] | exact froz_nums [1, 0]) : frozR (nums f.counts) = nums f.counts) (an (rfN (1)) (an (rfN ((nums f.counts).length)) (an ((by first | exact froz_procs _ | exact froz_nums _ | exact froz_strm _ | exact froz_streams _ | exact froz_msgs _ | exact froz_msgs' _ | exact froz_ebytes _ | exact froz_enums _ | exact froz_nums [1, 9] | exact froz_nums [1, 0]) : frozR (nums f.counts) = nums f.counts) (an (lackOk viewMay f l hb (by omega)) (an (refLack f l hb (by omega)) (an (same_msgs _ (by have := lackTo_len f.owned l f.owned.streams.length; omega) : Con Try.prog 18 [.d (.ro 4 (msgs (lackTo f.owned l f.owned.streams.length))), .d (.ro 4 (msgs (lackTo f.owned l f.owned.streams.length)))] (.v (.bool true))) (an ((by first | exact ind_v _ | exact Ind.two _ _) : Ind (.v (.bool true))) (an (rfN (4)) (an (rfN ((msgsO (lackTo f.owned l f.owned.streams.length)).length)) (an ((by first | exact froz_procs _ | exact froz_nums _ | exact froz_strm _ | exact froz_streams _ | exact froz_msgs _ | exact froz_msgs' _ | exact froz_ebytes _ | exact froz_enums _ | exact froz_nums [1, 9] | exact froz_nums [1, 0]) : frozR (msgsO (lackTo f.owned l f.owned.streams.length)) = msgs (lackTo f.owned l f.owned.streams.length)) (an (rfN (4)) (an (rfN ((msgs (lackTo f.owned l f.owned.streams.length)).length)) (an ((by first | exact froz_procs _ | exact froz_nums _ | exact froz_strm _ | exact froz_streams _ | exact froz_msgs _ | exact froz_msgs' _ | exact froz_ebytes _ | exact froz_enums _ | exact froz_nums [1, 9] | exact froz_nums [1, 0]) : frozR (msgs (lackTo f.owned l f.owned.streams.length)) = msgs (lackTo f.owned l f.owned.streams.length)) (an (same_flow f hb) (an (awakeOk) trivial)))))))))))))))))))))))))))))))))))))))))))))))))))))))))))))))
    | true =>
      have qh1 := of_decide_eq_true h1
      exact toRet tb_ok mixed_ok hK rfl [(1, [(1, .con (.v (.bool false))), (4, .z (((l.length : Nat) : Int))), (5, .b true)]), (2, [(0, .con (.v (.bool true)))])] 2000 r (by kernel_rfl) (an ((by have k := heavyOk f hB; rw [h0] at k; exact k) : Con Try.prog 6 [.ag [.u f.view.id.round, .z f.view.id.server.node, .u f.view.id.server.inc, .d (.ro 2 (procs f.view.members)), .d (.ro 1 (nums f.view.starts)), .d (.ro 1 (streams f.streams)), .d (.ro 1 (nums f.handed))]] (.v (.bool false))) (an ((by first | rfl | simp [bytesR]) : (((nums l).length : Nat) : Int) = ((l.length : Nat) : Int)) (an h1 (an (awakeOk) trivial))))
  | true =>
    exact toRet tb_ok mixed_ok hK rfl [(1, [(1, .con (.v (.bool true)))]), (2, [(0, .con (.v (.bool true)))])] 2000 r (by kernel_rfl) (an ((by have k := heavyOk f hB; rw [h0] at k; exact k) : Con Try.prog 6 [.ag [.u f.view.id.round, .z f.view.id.server.node, .u f.view.id.server.inc, .d (.ro 2 (procs f.view.members)), .d (.ro 1 (nums f.view.starts)), .d (.ro 1 (streams f.streams)), .d (.ro 1 (nums f.handed))]] (.v (.bool true))) (an (awakeOk) trivial))
end Go.Proofs.Ytoijfmfkkmbabaa
namespace Go.Proofs.Ytoijfmfkkmbabaa
open Go.RowKit Go.Deep
theorem trodAll_gr {H : Type} {enc : TypeId × Value → H} {P : Program} (hl : laidOutB P = true) {W W' : World} (g : Gr W W') : ∀ {ts : List TypeId} {vs : List Value} {ds : List (DataW H)} {ps : List MemPlace}, (∀ t ∈ ts, P.readableRec t = true ∧ t < P.types.size) → DataW.TrodAll enc P W 0 (fun _ => true) true ts vs ds ps → (∀ x ∈ ps, x.block < W.heap.size) → DataW.TrodAll enc P W' 0 (fun b => decide (b < W.heap.size)) true ts vs ds ps
  | [], [], [], _, _, h, _ => h
  | [], _ :: _, _, _, _, h, _ => h.elim
  | [], [], _ :: _, _, _, h, _ => h.elim
  | _ :: _, [], _, _, _, h, _ => h.elim
  | _ :: _, _ :: _, [], _, _, h, _ => h.elim
  | t :: ts, v :: vs, d :: ds, ps, ht, h, hp => by
    obtain ⟨p, q, h1, h2, rfl⟩ := h
    refine ⟨p, q, Below.trod hl (ht t (by simp)).1 (ht t (by simp)).2 h1 g (fun x hx => hp x (by simp [hx])), trodAll_gr hl g (fun t' h' => ht t' (by simp [h'])) h2 (fun x hx => hp x (by simp [hx])), rfl⟩
theorem law_post {H : Type} {enc : TypeId × Value → H} {P : Program} {f : Func} {s : ChangeSpec} {W W' : World} {args : Array Value} {ds gs : List (DataW H)} {before : List MemPlace} {tb : TypeId} (hl : laidOutB P = true)
    (hp : f.params.toList.all (fun t => P.readableRec t && decide (t < P.types.size)) = true) (hr : f.resultTypes = #[tb]) (ht : P.underlying tb = some .bool) (hv : s.vars = [])
    (hW : DataW.Whole enc P f.params.toList s.vars false W args.toList ds gs before) (hfn : s.fn H (ds ++ gs) = { results := [.lit (.bool true)], args := ds }) (g : Gr W W') : s.post enc P f false true false false W args (.bool true) W' := by
  have hW' := hW
  have hlt := hW.lt
  obtain ⟨p, q, hA, hV, rfl, hfz, hnd⟩ := hW
  rw [hv] at hV
  match gs, hV with
  | [], hV =>
    cases hV
    refine ⟨ds, [], _, [], p, [], hW', ?_, ?_, ?_, ?_, fun h => by cases h⟩
    · rw [hfn, hr]
      exact ⟨[], [], ⟨1, by simp [DataW.trod, ht, Value.cells]⟩, rfl, rfl⟩
    · rw [hfn]
      refine trodAll_gr hl g (fun t h => ?_) hA (fun x hx => hlt x (by simp [hx]))
      have := List.all_eq_true.1 hp t h
      simpa using this
    · rw [hfn, hv]; rfl
    · exact Below.frame g _
def TR (P : Program) (w : World) (t : TypeId) (cs : List Value) : Prop := ∃ (H : Type) (enc : TypeId × Value → H) (base : Nat) (sp : Nat → Bool) (held : Bool) (fuel : Nat) (x : DataW H × List MemPlace), DataW.trod enc P w base sp held fuel t cs = some x
theorem TR.of {H : Type} {enc : TypeId × Value → H} {P : Program} {w : World} {base : Nat} {sp : Nat → Bool} {held : Bool} {t : TypeId} {v : Value} {d : DataW H} {ps : List MemPlace} (h : DataW.Trod enc P w base sp held t v d ps) : TR P w t v.cells.toList := by
  obtain ⟨n, h⟩ := h; exact ⟨H, enc, base, sp, held, n, _, h⟩
section
variable {P : Program} {w : World} {t e : TypeId} {cs : List Value}
theorem TR.int {k : IntKind} (ht : P.underlying t = some (.int k)) (h : TR P w t cs) : ∃ n, cs = [.int k n] ∧ (Lit.int k n).wf = true := by
  obtain ⟨H, enc, base, sp, held, fuel, x, h⟩ := h
  cases fuel with
  | zero => simp [DataW.trod] at h
  | succ fuel =>
    rw [DataW.trod_step] at h; unfold DataW.trodStep at h; simp only [ht] at h
    split at h <;> simp_all
theorem TR.bool (ht : P.underlying t = some .bool) (h : TR P w t cs) : ∃ b, cs = [.bool b] := by
  obtain ⟨H, enc, base, sp, held, fuel, x, h⟩ := h
  cases fuel with
  | zero => simp [DataW.trod] at h
  | succ fuel =>
    rw [DataW.trod_step] at h; unfold DataW.trodStep at h; simp only [ht] at h
    split at h <;> simp_all
theorem TR.string (ht : P.underlying t = some .string) (h : TR P w t cs) : ∃ l : List UInt8, cs = [.string ⟨l.toArray⟩] ∧ l.length ≤ maxLen := by
  obtain ⟨H, enc, base, sp, held, fuel, x, h⟩ := h
  cases fuel with
  | zero => simp [DataW.trod] at h
  | succ fuel =>
    rw [DataW.trod_step] at h; unfold DataW.trodStep at h; simp only [ht] at h
    split at h <;> try simp_all
    rename_i s
    exact ⟨s.data.toList, by simp, by rw [Array.length_toList]; exact h.1⟩
theorem cells?_some {base : Nat} {a : Addr} {n : Nat} {X : List Value} (h : w.cells? base a n = some X) : X.length = n ∧ ∀ j (hj : j < X.length), w.cell? (a.add j) = some X[j] := by
  obtain ⟨_, h1, h2⟩ := World.cells?_some h
  exact ⟨h1, fun j hj => by rw [h2 j (by omega)]; exact List.getElem?_eq_getElem hj⟩
theorem mapM_each {α β : Type} {f : α → Option β} : ∀ {l : List α} {r : List β}, l.mapM f = some r → ∀ x ∈ l, ∃ y, f x = some y
  | [], _, _, x, hx => by simp at hx
  | z :: l, r, h, x, hx => by
    rw [List.mapM_cons] at h
    obtain ⟨y, h1, h2⟩ := Option.bind_eq_some_iff.1 h
    obtain ⟨ys, h3, _⟩ := Option.bind_eq_some_iff.1 h2
    rcases List.mem_cons.1 hx with rfl | hx
    · exact ⟨y, h1⟩
    · exact mapM_each h3 x hx
theorem flat_len {X : Nat → List Value} {c : Nat} : ∀ {n : Nat}, (∀ i, i < n → (X i).length = c) → ((List.range n).flatMap X).length = n * c
  | 0, _ => by simp
  | k + 1, h => by rw [List.range_succ, List.flatMap_append, List.length_append, flat_len (n := k) (fun i hi => h i (by omega))]; simp [h k (by omega), Nat.succ_mul]
theorem TR.slice (ht : P.underlying t = some (.slice e)) (h : TR P w t cs) : ∃ (v : Value) (n : Nat) (X : Nat → List Value), cs = [v] ∧ n ≤ maxLen ∧ (∀ i, i < n → (X i).length = P.cellsOf e ∧ TR P w e (X i)) ∧ Src w (P.cellsOf e) v n ((List.range n).flatMap X) := by
  obtain ⟨H, enc, base, sp, held, fuel, x, h⟩ := h
  rcases open_slice ht h with ⟨rfl, _⟩ | ⟨a, len, cap, m, n, D, Pl, rfl, _, hlc, hmax, hm, _, hx⟩
  · exact ⟨_, 0, fun _ => [], rfl, by simp [maxLen], fun i hi => by omega, by simp [Src]⟩
  · have hle : len ≤ m := by rw [hm]; split <;> omega
    obtain ⟨X, hX⟩ := choose_lt (n := len) (α := List Value) (p := fun i c => w.cells? base (a.add (i * P.cellsOf e)) (P.cellsOf e) = some c ∧ DataW.trod enc P w base sp held n e c = some (D i, Pl i)) (fun i hi => hx i (by omega))
    have hlen : ∀ i, i < len → (X i).length = P.cellsOf e := fun i hi => (cells?_some (hX i hi).1).1
    refine ⟨_, len, X, rfl, by omega, fun i hi => ⟨hlen i hi, H, enc, base, sp, held, n, _, (hX i hi).2⟩, ?_, ?_⟩
    · exact flat_len hlen
    · refine Or.inr ⟨a, cap, rfl, ?_⟩
      have key : ∀ k, k ≤ len → ∀ j (hj : j < ((List.range k).flatMap X).length), w.cell? (a.add j) = some ((List.range k).flatMap X)[j] := by
        intro k
        induction k with
        | zero => intro _ j hj; simp at hj
        | succ k ih =>
          intro hk j hj
          have hl0 : ((List.range k).flatMap X).length = k * P.cellsOf e := flat_len (fun i hi => hlen i (by omega))
          have hE : (List.range (k + 1)).flatMap X = (List.range k).flatMap X ++ X k := by rw [List.range_succ, List.flatMap_append]; simp
          have hj2 : j < ((List.range k).flatMap X ++ X k).length := by rw [← hE]; exact hj
          have hgoal : ((List.range (k + 1)).flatMap X)[j] = ((List.range k).flatMap X ++ X k)[j] := by congr 1
          rw [hgoal]
          by_cases h1 : j < ((List.range k).flatMap X).length
          · rw [List.getElem_append_left h1]; exact ih (by omega) j h1
          · rw [List.getElem_append_right (by omega)]
            have h2 := (cells?_some (hX k (by omega)).1).2 (j - ((List.range k).flatMap X).length) (by rw [List.length_append] at hj2; omega)
            rw [← h2, Addr.add_add']
            congr 2
            omega
      exact key len (Nat.le_refl _)
theorem TR.struct {fs : Array Field} (ht : P.underlying t = some (.struct fs)) (h : TR P w t cs) : cs.length = P.cellsOf t ∧ ∀ f ∈ fs.toList, TR P w f.type ((cs.drop f.offset).take (P.cellsOf f.type)) := by
  obtain ⟨H, enc, base, sp, held, fuel, x, h⟩ := h
  cases fuel with
  | zero => simp [DataW.trod] at h
  | succ fuel =>
    rw [DataW.trod_step] at h; unfold DataW.trodStep at h; simp only [ht] at h
    split at h
    · rename_i hlen
      refine ⟨hlen, fun f hf => ?_⟩
      obtain ⟨xs, h1, _⟩ := Option.map_eq_some_iff.1 h
      obtain ⟨y, hy⟩ := mapM_each h1 f hf
      exact ⟨H, enc, base, sp, held, fuel, _, hy⟩
    · simp at h
theorem TR.array {n : Nat} (ht : P.underlying t = some (.array n e)) (h : TR P w t cs) : cs.length = P.cellsOf t ∧ ∀ i, i < n → TR P w e ((cs.drop (i * P.cellsOf e)).take (P.cellsOf e)) := by
  obtain ⟨H, enc, base, sp, held, fuel, x, h⟩ := h
  cases fuel with
  | zero => simp [DataW.trod] at h
  | succ fuel =>
    rw [DataW.trod_step] at h; unfold DataW.trodStep at h; simp only [ht] at h
    split at h
    · rename_i hlen
      refine ⟨hlen, fun i hi => ?_⟩
      obtain ⟨xs, h1, _⟩ := Option.map_eq_some_iff.1 h
      obtain ⟨y, hy⟩ := mapM_each h1 i (by simpa using hi)
      exact ⟨H, enc, base, sp, held, fuel, _, hy⟩
    · simp at h
end
end Go.Proofs.Ytoijfmfkkmbabaa
namespace Go.Proofs.Ytoijfmfkkmbabaa
open Go.RowKit Go.Deep
def DRs (w : World) (l : List DV) (cs : List Value) : Prop := cs.length = l.length ∧ ∀ (j : Nat) c v, l[j]? = some c → cs[j]? = some v → DRel (Gr w) c v []
theorem DRs.one {w : World} {c : DV} {v : Value} (h : DRel (Gr w) c v []) : DRs w [c] [v] := ⟨rfl, fun j c' v' h1 h2 => by
  cases j with
  | zero => simp at h1 h2; subst h1 h2; exact h
  | succ j => simp at h1⟩
theorem DRs.app {w : World} {l l' : List DV} {cs cs' : List Value} (h : DRs w l cs) (h' : DRs w l' cs') : DRs w (l ++ l') (cs ++ cs') := ⟨by simp [h.1, h'.1], fun j c v h1 h2 => by
  have e := h.1
  by_cases hj : j < l.length
  · rw [List.getElem?_append_left hj] at h1; rw [List.getElem?_append_left (by omega)] at h2; exact h.2 j c v h1 h2
  · rw [List.getElem?_append_right (by omega)] at h1; rw [List.getElem?_append_right (by omega), e] at h2; exact h'.2 _ c v h1 h2⟩
def Rd (P : Program) (w : World) (t : TypeId) {α : Type} (row : α → List DV) (ok : α → Prop) : Prop := ∀ cs, TR P w t cs → ∃ x, ok x ∧ DRs w (row x) cs
variable {P : Program} {w : World} {t e : TypeId} {α β γ : Type}
theorem Rd.u64 (h : P.underlying t = some (.int .u64)) : Rd P w t (fun n : Nat => [.u n]) fun n => n ≤ 18446744073709551615 := fun cs hc => by
  obtain ⟨n, rfl, hw⟩ := hc.int h
  have hw' : (0 : Int) ≤ n ∧ n ≤ 18446744073709551615 := by simpa [Lit.wf, IntKind.min, IntKind.max, IntKind.signed, IntKind.bits] using hw
  have e : n = ((n.toNat : Nat) : Int) := by omega
  refine ⟨n.toNat, by omega, .one ?_⟩
  show DRel _ (.v (.int .u64 ((n.toNat : Nat) : Int))) _ _
  rw [← e]; exact .v _
theorem Rd.int (h : P.underlying t = some (.int .i64)) : Rd P w t (fun n : Int => [.z n]) fun _ => True := fun cs hc => by
  obtain ⟨n, rfl, hw⟩ := hc.int h
  exact ⟨n, trivial, .one (.v _)⟩
theorem Rd.byte (h : P.underlying t = some (.int .u8)) : Rd P w t (fun b : UInt8 => [.v (.int .u8 (b.toNat : Int))]) fun _ => True := fun cs hc => by
  obtain ⟨n, rfl, hw⟩ := hc.int h
  have hw' : (0 : Int) ≤ n ∧ n ≤ 255 := by simpa [Lit.wf, IntKind.min, IntKind.max, IntKind.signed, IntKind.bits] using hw
  have e : n = (((UInt8.ofNat n.toNat).toNat : Nat) : Int) := by simp; omega
  refine ⟨UInt8.ofNat n.toNat, trivial, .one ?_⟩
  rw [← e]; exact .v _
theorem Rd.slice [Inhabited α] {k : Nat} {row : α → List DV} {ok : α → Prop} (h : P.underlying t = some (.slice e)) (hk : P.cellsOf e = k) (hr : Rd P w e row ok) : Rd P w t (fun l : List α => [.ro k (l.map row)]) fun l => l.length ≤ 9223372036854775807 ∧ ∀ x ∈ l, ok x := fun cs hc => by
  subst hk
  obtain ⟨v, n, X, rfl, hn, hX, hs⟩ := hc.slice h
  obtain ⟨Y, hY⟩ := choose_lt (n := n) (α := α) (p := fun i x => ok x ∧ DRs w (row x) (X i)) fun i hi => hr _ (hX i hi).2
  have hg : ∀ (i : Nat) r, (((List.range n).map Y).map row)[i]? = some r → i < n ∧ r = row (Y i) := fun i r hi => by
    have hlt := (List.getElem?_eq_some_iff.1 hi).1
    simp at hlt
    simp [hlt] at hi
    exact ⟨hlt, hi.symm⟩
  have hl : (((List.range n).map Y).map row).length = n := by simp
  refine ⟨(List.range n).map Y, ⟨by simp; exact Nat.le_trans hn (by decide), ?_⟩, .one (.ro X (fun i r hi => ?_) ?_ (fun w' g => ?_) fun i r j c x h1 h2 h3 => ?_)⟩
  · intro x hx
    obtain ⟨i, hi, rfl⟩ := List.mem_map.1 hx
    exact (hY i (by simpa using hi)).1
  · obtain ⟨hi', rfl⟩ := hg i r hi
    refine ⟨?_, (hX i hi').1⟩
    rw [← (hX i hi').1]; exact (hY i hi').2.1.symm
  · rw [hl]
    rcases hs.2 with ⟨rfl, a, c, rfl⟩ | ⟨a, c, rfl, -⟩
    · exact ⟨_, _, rfl⟩
    · exact ⟨_, _, rfl⟩
  · rw [hl]; exact hs.gr g
  · obtain ⟨hi', rfl⟩ := hg i r h1
    exact (hY i hi').2.2 j c x h2 h3
theorem Rd.map {row : α → List DV} {ok : α → Prop} (hr : Rd P w t row ok) (g : α → β) {row' : β → List DV} {ok' : β → Prop} (h1 : ∀ x, row x = row' (g x)) (h2 : ∀ x, ok x → ok' (g x)) : Rd P w t row' ok' := fun cs hc => by
  obtain ⟨x, h3, h4⟩ := hr cs hc
  exact ⟨g x, h2 x h3, h1 x ▸ h4⟩
theorem Rd.one {f0 : Field} {k0 : Nat} {row0 : α → List DV} {ok0 : α → Prop} (h : P.underlying t = some (.struct #[f0])) (h0 : f0.offset = 0) (hk0 : P.cellsOf f0.type = k0) (ht : P.cellsOf t = k0) (r0 : Rd P w f0.type row0 ok0) : Rd P w t row0 ok0 := fun cs hc => by
  obtain ⟨hl, hf⟩ := hc.struct h
  have a0 := hf f0 (by simp)
  rw [h0, hk0, List.drop_zero, List.take_of_length_le (by omega)] at a0
  exact r0 _ a0
theorem Rd.two {f0 f1 : Field} {k0 k1 : Nat} {row0 : α → List DV} {row1 : β → List DV} {ok0 : α → Prop} {ok1 : β → Prop} (h : P.underlying t = some (.struct #[f0, f1])) (h0 : f0.offset = 0) (h1 : f1.offset = k0) (hk0 : P.cellsOf f0.type = k0) (hk1 : P.cellsOf f1.type = k1) (ht : P.cellsOf t = k0 + k1)
    (r0 : Rd P w f0.type row0 ok0) (r1 : Rd P w f1.type row1 ok1) : Rd P w t (fun x : α × β => row0 x.1 ++ row1 x.2) fun x => ok0 x.1 ∧ ok1 x.2 := fun cs hc => by
  obtain ⟨hl, hf⟩ := hc.struct h
  have a0 := hf f0 (by simp)
  have a1 := hf f1 (by simp)
  rw [h0, hk0, List.drop_zero] at a0
  rw [h1, hk1, List.take_of_length_le (by simp; omega)] at a1
  obtain ⟨x, b0, c0⟩ := r0 _ a0
  obtain ⟨y, b1, c1⟩ := r1 _ a1
  exact ⟨(x, y), ⟨b0, b1⟩, by have := c0.app c1; rwa [List.take_append_drop] at this⟩
theorem Rd.three {f0 f1 f2 : Field} {k0 k1 k2 : Nat} {row0 : α → List DV} {row1 : β → List DV} {row2 : γ → List DV} {ok0 : α → Prop} {ok1 : β → Prop} {ok2 : γ → Prop} (h : P.underlying t = some (.struct #[f0, f1, f2])) (h0 : f0.offset = 0) (h1 : f1.offset = k0) (h2 : f2.offset = k0 + k1)
    (hk0 : P.cellsOf f0.type = k0) (hk1 : P.cellsOf f1.type = k1) (hk2 : P.cellsOf f2.type = k2) (ht : P.cellsOf t = k0 + k1 + k2)
    (r0 : Rd P w f0.type row0 ok0) (r1 : Rd P w f1.type row1 ok1) (r2 : Rd P w f2.type row2 ok2) : Rd P w t (fun x : α × β × γ => row0 x.1 ++ (row1 x.2.1 ++ row2 x.2.2)) fun x => ok0 x.1 ∧ ok1 x.2.1 ∧ ok2 x.2.2 := fun cs hc => by
  obtain ⟨hl, hf⟩ := hc.struct h
  have a0 := hf f0 (by simp)
  have a1 := hf f1 (by simp)
  have a2 := hf f2 (by simp)
  rw [h0, hk0, List.drop_zero] at a0
  rw [h1, hk1] at a1
  rw [h2, hk2, List.take_of_length_le (by simp; omega), ← List.drop_drop] at a2
  obtain ⟨x, b0, c0⟩ := r0 _ a0
  obtain ⟨y, b1, c1⟩ := r1 _ a1
  obtain ⟨z, b2, c2⟩ := r2 _ a2
  exact ⟨(x, y, z), ⟨b0, b1, b2⟩, by have := c0.app (c1.app c2); rwa [List.take_append_drop, List.take_append_drop] at this⟩
theorem DRs.agg {l : List DV} {cs : Array Value} (h : DRs w l cs.toList) : ARel (Gr w) [] (.ag (l.map .d)) (.agg cs) := by
  have := ARel.ag (K := Gr w) (β := []) (l := l.map .d) cs.toList (by simpa using h.1) fun j c y h1 h2 => by
    rw [List.getElem?_map] at h1
    cases hc : l[j]? with
    | none => rw [hc] at h1; cases h1
    | some c' => rw [hc] at h1; simp at h1; subst h1; exact .d (h.2 j c' y hc h2)
  simpa using this
theorem DRs.v {c : DV} {v : Value} (h : DRs w [c] [v]) : ARel (Gr w) [] (.d c) v := .d (h.2 0 c v rfl rfl)
theorem Con.true {f : FuncId} {args : List AV} (h : Con P f args (.v (.bool true))) {ys : List Value} (hl : ys.length = args.length) (hr : ∀ (j : Nat) c y, args[j]? = some c → ys[j]? = some y → ARel (Gr w) [] c y) : Calls P f ys.toArray w fun e w' => e = .returned (.bool true) ∧ Gr w w' :=
  (h.2 w (Gr w) ys (fun _ g => g) hl hr).mono fun e w' ⟨r, he, hg, H, ⟨Ho, Hi, _, hd⟩, _⟩ => by
    cases hd with
    | v x => exact ⟨he, hg⟩
end Go.Proofs.Ytoijfmfkkmbabaa
namespace Go.Proofs.Ytoijfmfkkmbabaa
open Go.RowKit
theorem Try.own : ownKnob Try.prog.godebug = none := by kernel_rfl
theorem Try.laidOut : laidOutB Try.prog = true := by kernel_rfl
deriving instance Inhabited for Proc, Slot, Vid, View, Msg
abbrev Big : Nat := 9223372036854775807
variable {w : World}
theorem rd_proc : Rd Try.prog w 24 Proc.row fun _ => True := ((Rd.two Try.underlying24 rfl rfl (k0 := 1) (k1 := 1) (by kernel_rfl) (by kernel_rfl) (by kernel_rfl) (Rd.int Try.underlying3) (Rd.u64 Try.underlying22)).map fun x => Proc.mk x.1 x.2) (fun _ => rfl) fun _ _ => trivial
theorem rd_bytes : Rd Try.prog w 34 (fun l : List UInt8 => [.ro 1 (bytesR l)]) fun l => l.length ≤ Big := ((Rd.slice Try.underlying34 (by kernel_rfl) (Rd.byte Try.underlying5)).map id) (fun _ => rfl) fun _ h => h.1
theorem rd_nums : Rd Try.prog w 28 (fun l : List Nat => [.ro 1 (nums l)]) fun l => l.length ≤ Big ∧ ∀ n ∈ l, n ≤ 18446744073709551615 := Rd.slice Try.underlying28 (by kernel_rfl) (Rd.u64 Try.underlying22)
theorem rd_slot : Rd Try.prog w 69 Slot.row fun s => s.body.length ≤ Big := ((Rd.two Try.underlying69 rfl rfl (k0 := 1) (k1 := 1) (by kernel_rfl) (by kernel_rfl) (by kernel_rfl) (Rd.u64 Try.underlying22) rd_bytes).map fun x => Slot.mk x.1 x.2) (fun _ => rfl) fun _ h => h.2
theorem rd_stream : Rd Try.prog w 67 (fun l : List Slot => [.ro 2 (slots l)]) bigS := (Rd.one Try.underlying67 rfl (k0 := 1) (by kernel_rfl) (by kernel_rfl) (Rd.slice Try.underlying65 (by kernel_rfl) rd_slot)).map id (fun _ => rfl) fun _ h => h
def Vid.row (v : Vid) : List DV := .u v.round :: v.server.row
theorem rd_vid : Rd Try.prog w 26 Vid.row fun _ => True := ((Rd.two Try.underlying26 rfl rfl (k0 := 1) (k1 := 2) (by kernel_rfl) (by kernel_rfl) (by kernel_rfl) (Rd.u64 Try.underlying22) rd_proc).map fun x => Vid.mk x.1 x.2) (fun _ => rfl) fun _ _ => trivial
def View.row (v : View) : List DV := v.id.row ++ [.ro 2 (procs v.members), .ro 1 (nums v.starts)]
theorem rd_view : Rd Try.prog w 30 View.row fun v => v.members.length ≤ Big ∧ v.starts.length ≤ Big := ((Rd.three Try.underlying30 rfl rfl rfl (k0 := 3) (k1 := 1) (k2 := 1) (by kernel_rfl) (by kernel_rfl) (by kernel_rfl) (by kernel_rfl) rd_vid (Rd.slice Try.underlying27 (by kernel_rfl) rd_proc) rd_nums).map fun x => View.mk x.1 x.2.1 x.2.2) (fun _ => rfl) fun _ h => ⟨h.2.1.1, h.2.2.1⟩
def flowRow (f : Flow) : List DV := f.view.row ++ [.ro 1 (streams f.streams), .ro 1 (nums f.handed)]
theorem rd_flow : Rd Try.prog w 33 flowRow Flow.big := ((Rd.three Try.underlying33 rfl rfl rfl (k0 := 5) (k1 := 1) (k2 := 1) (by kernel_rfl) (by kernel_rfl) (by kernel_rfl) (by kernel_rfl) rd_view (Rd.slice Try.underlying31 (by kernel_rfl) rd_stream) rd_nums).map fun x => Flow.mk x.1 x.2.1 x.2.2) (fun _ => rfl) fun _ h => ⟨h.1.1, h.1.2, h.2.1.1, h.2.2.1, h.2.1.2⟩
end Go.Proofs.Ytoijfmfkkmbabaa
namespace Go.Proofs.Ytoijfmfkkmbabaa
open Go.ChangeShapes Go.WideShapes Go.ChangeAt Go.RowKit
set_option maxRecDepth 100000 in
theorem streamHands_lifted (os : Os) (started : os.Started) (H : Type) (enc : TypeId × Value → H) :
    ReturnsInHanded {} Try.checked os 4 .any (Rows.streamHandsSpec.pre6 enc Try.prog Try.f4 Rows.streamHandsRow.domain false) (Rows.streamHandsSpec.post enc Try.prog Try.f4 false true false false) := by
  refine returnsInHanded_of_change (C := Try.checked) Try.own started (by kernel_rfl) Try.func4
    (ChangeSpec.witness6 (enc := enc) (C := Try.checked) false ⟨#[], #[.agg #[.int .u64 0, .int .i64 0, .int .u64 0, .slice none 0 0, .slice none 0 0, .slice none 0 0, .slice none 0 0], .slice none 0 0], []⟩ 8 (by kernel_rfl) (by kernel_rfl) (by kernel_rfl) (by kernel_rfl)) ?_
  intro W base args ds gs before hval0 hW hcnd _
  have hW0 : DataW.Whole enc Try.prog Try.f4.params.toList Rows.streamHandsSpec.vars false W args.toList ds gs before := hW
  have hW' := hW0
  obtain ⟨p, q, hA0, hV, rfl, hfz, hnd⟩ := hW
  have hA : DataW.TrodAll enc Try.prog W 0 (fun _ => true) true Try.f4.params.toList args.toList ds p := hA0
  have hval : ∀ (j : Nat) t v, Try.f4.params[j]? = some t → args[j]? = some v → Value.okWide Try.prog W .any base t v := hval0
  rw [Try.params4] at hA hval
  obtain ⟨v0, vs0, d0, ds0, p0, q0, hargs0, rfl, rfl, h0, r0⟩ := trodAll_cons hA
  obtain ⟨v1, vs1, d1, ds1, p1, q1, hargs1, rfl, rfl, h1, r1⟩ := trodAll_cons r0
  subst hargs1
  obtain ⟨rfl, rfl, rfl⟩ := trodAll_nil r1
  obtain rfl : args = #[v0, v1] := by cases args; simp_all
  obtain ⟨rfl, rfl⟩ := trodVars_none hV
  obtain ⟨cs0, rfl, -, -⟩ : ∃ cs, v0 = .agg cs ∧ _ ∧ _ := by have := hval 0 33 v0 rfl rfl; rw [Value.okWide, Try.underlying33] at this; exact this
  obtain ⟨f, hf, g0⟩ := rd_flow _ (TR.of h0)
  obtain ⟨a1, n1, c1, rfl⟩ := okWide_slice (P := Try.prog) (e := 22) (by kernel_rfl) (hval 1 28 v1 rfl rfl)
  obtain ⟨l, hl, g1⟩ := rd_nums _ (TR.of h1)
  refine (Con.true (w := W) (handsLaw f l hf hl.1) (ys := [_, _]) rfl fun j c y e1 e2 => ?_).mono fun e W' ⟨he, hg⟩ => ?_
  · match j, e1, e2 with
    | 0, e1, e2 => simp at e1 e2; subst e1 e2; exact g0.agg
    | 1, e1, e2 => simp at e1 e2; subst e1 e2; exact DRs.v g1
    | k + 2, e1, _ => simp at e1
  · subst he
    exact ⟨_, rfl, law_post Try.laidOut (by kernel_rfl) (by kernel_rfl) Try.underlying4 rfl hW' rfl hg⟩
theorem streamHands_holds : Rows.StreamHandsSaid :=
  OpenClaim.holds_of_wide 4 Try.f4 rfl rfl rfl rfl rfl rfl rfl ⟨rfl, rfl, rfl, rfl, rfl⟩ rfl rfl rfl rfl rfl (by kernel_rfl) Try.func4 (by kernel_rfl)
    (of_decide_eq_true (by kernel_rfl)) (by unfold Func.isWrapper; first | (rw [if_pos (by decide +kernel)]; kernel_rfl) | (rw [if_neg (by decide +kernel)]; exact ⟨rfl, rfl⟩))
    (fun os started H enc _ => streamHands_lifted os started H enc)
end Go.Proofs.Ytoijfmfkkmbabaa
