/-
  streamHands_holds, part 4 of 6: merged by program from the texts that it needs.
-/
import Derived.Test.YtoijfmfkkmbabaaHandsC
set_option linter.unusedSimpArgs false
set_option linter.unusedVariables false
set_option linter.unnecessarySimpa false
namespace Go.Proofs.Ytoijfmfkkmbabaa
open Go.RowKit
def slotsO (l : List Slot) : List (List DV) := l.map fun s => [.v (.int .u64 (s.n : Int)), .em 5 1 (bytesR s.body)]
def streamsO (l : List (List Slot)) : List (List DV) := l.map fun s => [.em 69 2 (slotsO s)]
def View.own (v : View) : List DV := [.v (.int .u64 (v.id.round : Int)), .v (.int .i64 v.id.server.node), .v (.int .u64 (v.id.server.inc : Int)), .em 24 2 (procs v.members), .em 22 1 (nums v.starts)]
def Flow.own (f : Flow) : List DV := [.v (.int .u64 (f.view.id.round : Int)), .v (.int .i64 f.view.id.server.node), .v (.int .u64 (f.view.id.server.inc : Int)), .em 24 2 (procs f.view.members), .em 22 1 (nums f.view.starts), .em 67 1 (streamsO f.streams), .em 22 1 (nums f.handed)]
theorem slotsO_next {l : List Slot} {k : Nat} {x : Slot} (h : l[k]? = some x) : slotsO (l.take k) ++ [[.v (.int .u64 ((x.n : Nat) : Int)), .em 5 1 ([] ++ bytesR x.body)]] = slotsO (l.take (k + 1)) := by
  rw [List.take_succ_eq_append_getElem (List.getElem?_eq_some_iff.1 h).1]
  obtain ⟨hk, rfl⟩ := List.getElem?_eq_some_iff.1 h
  unfold slotsO; rw [List.map_append]; rfl
theorem streamsO_next {l : List (List Slot)} {k : Nat} {x : List Slot} (h : l[k]? = some x) : streamsO (l.take k) ++ [[.em 69 2 (slotsO x)]] = streamsO (l.take (k + 1)) := by
  obtain ⟨hk, rfl⟩ := List.getElem?_eq_some_iff.1 h
  rw [List.take_succ_eq_append_getElem hk]
  unfold streamsO; rw [List.map_append]; rfl
@[simp] theorem slotsO_len (l : List Slot) : (slotsO l).length = l.length := by simp [slotsO]
@[simp] theorem streamsO_len (l : List (List Slot)) : (streamsO l).length = l.length := by simp [streamsO]
theorem bytesR_len (l : List UInt8) : (bytesR l).length = l.length := by simp [bytesR]
set_option maxRecDepth 100000 in
theorem refViewCopy (v : View) (hb : v.bounded) : Con Try.prog 26 [.ag [.u v.id.round, .z v.id.server.node, .u v.id.server.inc, .d (.ro 2 (procs v.members)), .d (.ro 1 (nums v.starts))]] (.ag v.own) := by
  obtain ⟨hb1, hb2⟩ := id hb
  refine Con.intro (by kernel_rfl) rfl rfl 14 rfl rfl fun w0 K ac hK r => ?_
  have v1_0 := ((by simp) : (0) = ([] : List (List DV)).length)
  have v1_1 := ((by simp [bytesR_len]; omega) : (2 * ((0) + (procs v.members).length) + 192) * 16 ≤ 281474976710656)
  have v1_2 := ((by simp [bytesR_len]; omega) : (0) + (procs v.members).length < 4611686018427387904)
  have v1_3 := ((by simp [OneR, AV.one, oneC, Proc.row, bytesR]) : OneR (procs v.members))
  have v1_4 := ((by simp [bytesR_len]; omega) : (2 * ((0) + (nums v.starts).length) + 192) * 8 ≤ 281474976710656)
  have v1_5 := ((by simp [bytesR_len]; omega) : (0) + (nums v.starts).length < 4611686018427387904)
  have v1_6 := ((by simp [OneR, AV.one, oneC, Proc.row, bytesR]) : OneR (nums v.starts))
  refine toDraw (todo' := aft Try.f26 1) (E' := [(2, .pt 1 0)]) (M' := [.bx 30 [.u v.id.round, .z v.id.server.node, .u v.id.server.inc, .d (.ro 2 (procs v.members)), .d (.ro 1 (nums v.starts))], .bx 30 [.u v.id.round, .z v.id.server.node, .u v.id.server.inc, .sl 2 (0 + (procs v.members).length), .sl 3 (0 + (nums v.starts).length)], .rw 24 2 ([] ++ (procs v.members)), .rw 22 1 ([] ++ (nums v.starts))]) tb_ok mixed_ok hK [(1, [])] 3 3 [] [[0, 1, 2, 3], [0, 1, 2, 3], [0, 1, 3, 2]] [2] r (by kernel_rfl) (an (an v1_0 (an v1_1 (an v1_2 (an v1_3 (an v1_0 (an v1_4 (an v1_5 (an v1_6 trivial)))))))) (an (an v1_0 (an v1_1 (an v1_2 (an v1_3 (an v1_0 (an v1_4 (an v1_5 (an v1_6 trivial)))))))) (an (an v1_0 (an v1_1 (an v1_2 (an v1_3 (an v1_0 (an v1_4 (an v1_5 (an v1_6 trivial)))))))) trivial))) fun ac wd r => ?_
  rw [show (.ag v.own : DV) = .ag [.u v.id.round, .z v.id.server.node, .u v.id.server.inc, .em 24 2 ([] ++ (procs v.members)), .em 22 1 ([] ++ (nums v.starts))] from rfl]
  exact toRet tb_ok mixed_ok hK rfl [] 2000 r (by kernel_rfl) (an ((by simp) : (0 + (procs v.members).length) = ([] ++ (procs v.members) : List (List DV)).length) (an ((by simp) : (0 + (nums v.starts).length) = ([] ++ (nums v.starts) : List (List DV)).length) trivial))
set_option maxRecDepth 100000 in
theorem refFlowCopy (f : Flow) (hb : f.bounded) : Con Try.prog 8 [.ag [.u f.view.id.round, .z f.view.id.server.node, .u f.view.id.server.inc, .d (.ro 2 (procs f.view.members)), .d (.ro 1 (nums f.view.starts)), .d (.ro 1 (streams f.streams)), .d (.ro 1 (nums f.handed))]] (.ag f.own) := by
  obtain ⟨hbv, hb1, hb2, hb3⟩ := id hb
  have hbw := hbv
  obtain ⟨hbw1, hbw2⟩ := hbw
  refine Con.intro (by kernel_rfl) rfl rfl 63 rfl rfl fun w0 K ac hK r => ?_
  have v1_0 := (refViewCopy f.view (by assumption))
  have v1_1 := ((by simp <;> omega) : (0) = ([] : List (List DV)).length)
  have v1_2 := ((by first | omega | (simp [bytesR_len]; done) | (simp [bytesR_len]; omega)) : (2 * ((0) + (nums f.handed).length) + 192) * 8 ≤ 281474976710656)
  have v1_3 := ((by first | omega | (simp [bytesR_len]; done) | (simp [bytesR_len]; omega)) : (0) + (nums f.handed).length < 4611686018427387904)
  have v1_4 := ((by simp [OneR, AV.one, oneC, Proc.row, bytesR]) : OneR (nums f.handed))
  refine toDraw (todo' := aft Try.f8 1) (E' := [(1, .pt 0 0), (2, .pt 1 0), (3, .pt 5 0)]) (M' := [.bx 33 [.u f.view.id.round, .z f.view.id.server.node, .u f.view.id.server.inc, .d (.ro 2 (procs f.view.members)), .d (.ro 1 (nums f.view.starts)), .d (.ro 1 (streams f.streams)), .d (.ro 1 (nums f.handed))], .bx 33 [.d (.v (.int .u64 0)), .z 0, .d (.v (.int .u64 0)), .d (.v (.slice none 0 0)), .d (.v (.slice none 0 0)), .d (.v (.slice none 0 0)), .d (.v (.slice none 0 0))], .rw 24 2 (procs f.view.members), .rw 22 1 (nums f.view.starts), .rw 22 1 ([] ++ (nums f.handed)), .bx 33 [.u f.view.id.round, .z f.view.id.server.node, .u f.view.id.server.inc, .sl 2 ((procs f.view.members).length), .sl 3 ((nums f.view.starts).length), .d (.v (.slice none 0 0)), .sl 4 (0 + (nums f.handed).length)]]) tb_ok mixed_ok hK [(1, [(2, .con (.ag [.u f.view.id.round, .z f.view.id.server.node, .u f.view.id.server.inc, .em 24 2 (procs f.view.members), .em 22 1 (nums f.view.starts)]))])] 3 8 [] [[0, 1, 2, 3, 4, 5], [0, 1, 2, 3, 4, 5], [0, 1, 2, 3, 5, 4], [0, 1, 3, 4, 2, 5], [0, 1, 3, 4, 2, 5], [0, 1, 4, 5, 2, 3], [0, 1, 3, 4, 5, 2], [0, 1, 4, 5, 3, 2]] [1, 2, 3] r (by kernel_rfl) (an (an v1_0 (an v1_1 (an v1_2 (an v1_3 (an v1_4 trivial))))) (an (an v1_0 (an v1_1 (an v1_2 (an v1_3 (an v1_4 trivial))))) (an (an v1_0 (an v1_1 (an v1_2 (an v1_3 (an v1_4 trivial))))) (an (an v1_0 (an v1_1 (an v1_2 (an v1_3 (an v1_4 trivial))))) (an (an v1_0 (an v1_1 (an v1_2 (an v1_3 (an v1_4 trivial))))) (an (an v1_0 (an v1_1 (an v1_2 (an v1_3 (an v1_4 trivial))))) (an (an v1_0 (an v1_1 (an v1_2 (an v1_3 (an v1_4 trivial))))) (an (an v1_0 (an v1_1 (an v1_2 (an v1_3 (an v1_4 trivial))))) trivial)))))))) fun ac wd r => ?_
  refine toHead (todo' := hd Try.f8 0) (E' := [(1, .pt 0 0), (2, .pt 1 0), (3, .pt 5 0), (4, .z 0)]) (M' := [.bx 33 [.u f.view.id.round, .z f.view.id.server.node, .u f.view.id.server.inc, .d (.ro 2 (procs f.view.members)), .d (.ro 1 (nums f.view.starts)), .d (.ro 1 (streams f.streams)), .d (.ro 1 (nums f.handed))], .bx 33 [.d (.v (.int .u64 0)), .z 0, .d (.v (.int .u64 0)), .d (.v (.slice none 0 0)), .d (.v (.slice none 0 0)), .d (.v (.slice none 0 0)), .d (.v (.slice none 0 0))], .rw 24 2 (procs f.view.members), .rw 22 1 (nums f.view.starts), .rw 22 1 ([] ++ (nums f.handed)), .bx 33 [.u f.view.id.round, .z f.view.id.server.node, .u f.view.id.server.inc, .sl 2 ((procs f.view.members).length), .sl 3 ((nums f.view.starts).length), .d (.v (.slice none 0 0)), .sl 4 (0 + (nums f.handed).length)]]) tb_ok mixed_ok hK [] 2000 [0, 1, 2, 3, 4, 5] [1, 2, 3, 4] r (by kernel_rfl) trivial fun ac wd r => ?_
  refine Goes.rounds (Φ := fun (i : Nat) ac wd => (i ≤ f.streams.length) ∧ RE' [] w0 K 63 [(1, .pt 0 0), (2, .pt 1 0), (3, .pt 5 0), (4, .n i)] [.bx 33 [.u f.view.id.round, .z f.view.id.server.node, .u f.view.id.server.inc, .d (.ro 2 (procs f.view.members)), .d (.ro 1 (nums f.view.starts)), .d (.ro 1 (streams f.streams)), .d (.ro 1 (nums f.handed))], .bx 33 [.d (.v (.int .u64 0)), .z 0, .d (.v (.int .u64 0)), .d (.v (.slice none 0 0)), .d (.v (.slice none 0 0)), .d (.v (.slice none 0 0)), .d (.v (.slice none 0 0))], .rw 24 2 (procs f.view.members), .rw 22 1 (nums f.view.starts), .rw 22 1 ([] ++ nums f.handed), .bx 33 [.u f.view.id.round, .z f.view.id.server.node, .u f.view.id.server.inc, .sl 2 ((procs f.view.members).length), .sl 3 ((nums f.view.starts).length), .sl 6 (i), .sl 4 (0 + (nums f.handed).length)], .rw 67 1 (streamsO (f.streams.take i))] ac wd) (f.streams.length) ?_ (Nat.zero_le _) ⟨by omega, r.adopt (M1 := [.bx 33 [.u f.view.id.round, .z f.view.id.server.node, .u f.view.id.server.inc, .d (.ro 2 (procs f.view.members)), .d (.ro 1 (nums f.view.starts)), .d (.ro 1 (streams f.streams)), .d (.ro 1 (nums f.handed))], .bx 33 [.d (.v (.int .u64 0)), .z 0, .d (.v (.int .u64 0)), .d (.v (.slice none 0 0)), .d (.v (.slice none 0 0)), .d (.v (.slice none 0 0)), .d (.v (.slice none 0 0))], .rw 24 2 (procs f.view.members), .rw 22 1 (nums f.view.starts), .rw 22 1 ([] ++ (nums f.handed)), .bx 33 [.u f.view.id.round, .z f.view.id.server.node, .u f.view.id.server.inc, .sl 2 ((procs f.view.members).length), .sl 3 ((nums f.view.starts).length), .d (.v (.slice none 0 0)), .sl 4 (0 + (nums f.handed).length)]]) [] [(5, 5, 67, 1)] (by kernel_rfl) (by kernel_rfl)⟩
  clear r
  rintro i hi0 again0 ac wd ⟨hv0, r⟩
  cases h0 : (decide ((((i : Nat) : Int) : Int) < ((f.streams.length : Nat) : Int))) with
  | false =>
    have qh0 := of_decide_eq_false h0
    rw [show (.ag f.own : DV) = .ag [.u f.view.id.round, .z f.view.id.server.node, .u f.view.id.server.inc, .em 24 2 (procs f.view.members), .em 22 1 (nums f.view.starts), .em 67 1 (streamsO (f.streams.take i)), .em 22 1 ([] ++ nums f.handed)] from (by rw [show f.streams.take i = f.streams from List.take_of_length_le (by omega)]; rfl)]
    exact toRet tb_ok mixed_ok hK rfl [(3, [(3, .z (((f.streams.length : Nat) : Int))), (4, .b false)])] 2000 r (by kernel_rfl) (an ((by simp [bytesR]) : (((streams f.streams).length : Nat) : Int) = ((f.streams.length : Nat) : Int)) (an h0 (an (rfN ((procs f.view.members).length)) (an (rfN ((nums f.view.starts).length)) (an ((by simp <;> omega) : (i) = (streamsO (f.streams.take i)).length) (an ((by simp <;> omega) : (0 + (nums f.handed).length) = ([] ++ nums f.handed : List (List DV)).length) trivial))))))
  | true =>
    have qh0 := of_decide_eq_true h0
    obtain ⟨e_f_streams_i, ge_f_streams_i⟩ : ∃ x, f.streams[i]? = some x := ⟨_, List.getElem?_eq_getElem (by omega)⟩
    have be_f_streams_i := (hb.at ge_f_streams_i).1
    have ce_f_streams_i := hb.at ge_f_streams_i
    refine toHead (todo' := hd Try.f8 1) (E' := [(1, .pt 0 0), (2, .pt 1 0), (3, .pt 5 0), (4, .n i), (5, .pt 7 0), (6, .z 0)]) (M' := [.bx 33 [.u f.view.id.round, .z f.view.id.server.node, .u f.view.id.server.inc, .d (.ro 2 (procs f.view.members)), .d (.ro 1 (nums f.view.starts)), .d (.ro 1 (streams f.streams)), .d (.ro 1 (nums f.handed))], .bx 33 [.d (.v (.int .u64 0)), .z 0, .d (.v (.int .u64 0)), .d (.v (.slice none 0 0)), .d (.v (.slice none 0 0)), .d (.v (.slice none 0 0)), .d (.v (.slice none 0 0))], .rw 24 2 (procs f.view.members), .rw 22 1 (nums f.view.starts), .rw 22 1 ([] ++ nums f.handed), .bx 33 [.u f.view.id.round, .z f.view.id.server.node, .u f.view.id.server.inc, .sl 2 ((procs f.view.members).length), .sl 3 ((nums f.view.starts).length), .sl 6 (i), .sl 4 (0 + (nums f.handed).length)], .rw 67 1 (streamsO (f.streams.take i)), .bx 67 [.d (.v (.slice none 0 0))]]) tb_ok mixed_ok hK [(3, [(3, .z (((f.streams.length : Nat) : Int))), (4, .b true)])] 2000 [0, 1, 2, 3, 4, 5, 6, 7] [1, 2, 3, 4, 5, 6] r (by kernel_rfl) (an ((by simp [bytesR]) : (((streams f.streams).length : Nat) : Int) = ((f.streams.length : Nat) : Int)) (an h0 trivial)) fun ac wd r => ?_
    refine Goes.rounds (Φ := fun (k : Nat) ac wd => (k ≤ e_f_streams_i.length) ∧ RE' [] w0 K 63 [(1, .pt 0 0), (2, .pt 1 0), (3, .pt 5 0), (4, .n i), (5, .pt 7 0), (6, .n k)] [.bx 33 [.u f.view.id.round, .z f.view.id.server.node, .u f.view.id.server.inc, .d (.ro 2 (procs f.view.members)), .d (.ro 1 (nums f.view.starts)), .d (.ro 1 (streams f.streams)), .d (.ro 1 (nums f.handed))], .bx 33 [.d (.v (.int .u64 0)), .z 0, .d (.v (.int .u64 0)), .d (.v (.slice none 0 0)), .d (.v (.slice none 0 0)), .d (.v (.slice none 0 0)), .d (.v (.slice none 0 0))], .rw 24 2 (procs f.view.members), .rw 22 1 (nums f.view.starts), .rw 22 1 ([] ++ nums f.handed), .bx 33 [.u f.view.id.round, .z f.view.id.server.node, .u f.view.id.server.inc, .sl 2 ((procs f.view.members).length), .sl 3 ((nums f.view.starts).length), .sl 6 (i), .sl 4 (0 + (nums f.handed).length)], .rw 67 1 (streamsO (f.streams.take i)), .bx 67 [.sl 8 (k)], .rw 69 2 (slotsO (e_f_streams_i.take k))] ac wd) (e_f_streams_i.length) ?_ (Nat.zero_le _) ⟨by omega, r.adopt (M1 := [.bx 33 [.u f.view.id.round, .z f.view.id.server.node, .u f.view.id.server.inc, .d (.ro 2 (procs f.view.members)), .d (.ro 1 (nums f.view.starts)), .d (.ro 1 (streams f.streams)), .d (.ro 1 (nums f.handed))], .bx 33 [.d (.v (.int .u64 0)), .z 0, .d (.v (.int .u64 0)), .d (.v (.slice none 0 0)), .d (.v (.slice none 0 0)), .d (.v (.slice none 0 0)), .d (.v (.slice none 0 0))], .rw 24 2 (procs f.view.members), .rw 22 1 (nums f.view.starts), .rw 22 1 ([] ++ nums f.handed), .bx 33 [.u f.view.id.round, .z f.view.id.server.node, .u f.view.id.server.inc, .sl 2 ((procs f.view.members).length), .sl 3 ((nums f.view.starts).length), .sl 6 (i), .sl 4 (0 + (nums f.handed).length)], .rw 67 1 (streamsO (f.streams.take i)), .bx 67 [.d (.v (.slice none 0 0))]]) [] [(7, 0, 69, 2)] (by kernel_rfl) (by kernel_rfl)⟩
    clear r
    rintro k hi1 again1 ac wd ⟨hv1, r⟩
    cases h1 : (decide ((((k : Nat) : Int) : Int) < ((e_f_streams_i.length : Nat) : Int))) with
    | false =>
      have qh1 := of_decide_eq_false h1
      exact toHead (todo' := hd Try.f8 0) (E' := [(1, .pt 0 0), (2, .pt 1 0), (3, .pt 5 0), (4, .n (i + 1))]) (M' := [.bx 33 [.u f.view.id.round, .z f.view.id.server.node, .u f.view.id.server.inc, .d (.ro 2 (procs f.view.members)), .d (.ro 1 (nums f.view.starts)), .d (.ro 1 (streams f.streams)), .d (.ro 1 (nums f.handed))], .bx 33 [.d (.v (.int .u64 0)), .z 0, .d (.v (.int .u64 0)), .d (.v (.slice none 0 0)), .d (.v (.slice none 0 0)), .d (.v (.slice none 0 0)), .d (.v (.slice none 0 0))], .rw 24 2 (procs f.view.members), .rw 22 1 (nums f.view.starts), .rw 22 1 ([] ++ nums f.handed), .bx 33 [.u f.view.id.round, .z f.view.id.server.node, .u f.view.id.server.inc, .sl 2 ((procs f.view.members).length), .sl 3 ((nums f.view.starts).length), .sl 6 (i + (1)), .sl 4 (0 + (nums f.handed).length)], .rw 67 1 (streamsO (f.streams.take i) ++ [[.em 69 2 (slotsO (e_f_streams_i.take k))]])]) tb_ok mixed_ok hK [(4, [(1, .z (((i + 1 : Nat) : Int)))]), (7, [(4, .ix (i) [.ro 2 (slots e_f_streams_i)]), (7, .z (((e_f_streams_i.length : Nat) : Int))), (8, .b false)])] 2000 [0, 1, 2, 3, 4, 5, 6] [1, 2, 3, 4] r (by kernel_rfl) (an (rfI ((i : Nat) : Int)) (an (streams_at ge_f_streams_i) (an ((by simp [bytesR]) : (((slots e_f_streams_i).length : Nat) : Int) = ((e_f_streams_i.length : Nat) : Int)) (an h1 (an ((by simp <;> omega) : (k) = (slotsO (e_f_streams_i.take k)).length) (an ((by simp <;> omega) : (i) = (streamsO (f.streams.take i)).length) (an ((by simp <;> omega) : (1) = ([[.em 69 2 (slotsO (e_f_streams_i.take k))]] : List (List DV)).length) (an ((by first | omega | (simp [bytesR_len]; done) | (simp [bytesR_len]; omega)) : (2 * ((i) + (1)) + 192) * 24 ≤ 281474976710656) (an ((by first | omega | (simp [bytesR_len]; done) | (simp [bytesR_len]; omega)) : (i) + (1) < 4611686018427387904) (an ((by simp [OneR, AV.one, oneC, Proc.row, bytesR]) : OneR ([[.em 69 2 (slotsO (e_f_streams_i.take k))]])) (an ((wi (by omega)) : IntKind.i64.wrap ((((i : Nat) : Int) : Int) + 1) = ((i + 1 : Nat) : Int)) trivial))))))))))) fun ac wd r => again0 (by omega) ac wd ⟨by omega, r.cast rfl (by rw [show e_f_streams_i.take k = e_f_streams_i from List.take_of_length_le (by omega), streamsO_next ge_f_streams_i])⟩
    | true =>
      have qh1 := of_decide_eq_true h1
      obtain ⟨e_c8f2d, ge_c8f2d⟩ : ∃ x, e_f_streams_i[k]? = some x := ⟨_, List.getElem?_eq_getElem (by omega)⟩
      have be_c8f2d := ce_f_streams_i.at ge_c8f2d
      have v10_0 := (streams_at ge_f_streams_i)
      have v10_1 := ((by simp [bytesR]) : (((slots e_f_streams_i).length : Nat) : Int) = ((e_f_streams_i.length : Nat) : Int))
      have v10_2 := ((by simp <;> omega) : (0) = ([] : List (List DV)).length)
      have v10_3 := ((by first | omega | (simp [bytesR_len]; done) | (simp [bytesR_len]; omega)) : (2 * ((0) + (bytesR e_c8f2d.body).length) + 192) * 1 ≤ 281474976710656)
      have v10_4 := ((by first | omega | (simp [bytesR_len]; done) | (simp [bytesR_len]; omega)) : (0) + (bytesR e_c8f2d.body).length < 4611686018427387904)
      have v10_5 := ((by simp [OneR, AV.one, oneC, Proc.row, bytesR]) : OneR (bytesR e_c8f2d.body))
      have v10_6 := ((by simp <;> omega) : (0 + (bytesR e_c8f2d.body).length) = ([] ++ (bytesR e_c8f2d.body) : List (List DV)).length)
      have v10_7 := ((by simp <;> omega) : (k) = (slotsO (e_f_streams_i.take k)).length)
      have v10_8 := ((by simp <;> omega) : (1) = ([[.u e_c8f2d.n, .em 5 1 ([] ++ (bytesR e_c8f2d.body))]] : List (List DV)).length)
      have v10_9 := ((by first | omega | (simp [bytesR_len]; done) | (simp [bytesR_len]; omega)) : (2 * ((k) + (1)) + 192) * 32 ≤ 281474976710656)
      have v10_10 := ((by first | omega | (simp [bytesR_len]; done) | (simp [bytesR_len]; omega)) : (k) + (1) < 4611686018427387904)
      have v10_11 := ((by simp [OneR, AV.one, oneC, Proc.row, bytesR]) : OneR ([[.u e_c8f2d.n, .em 5 1 ([] ++ (bytesR e_c8f2d.body))]]))
      refine toDraw (todo' := aft Try.f8 10) (E' := [(1, .pt 0 0), (2, .pt 1 0), (3, .pt 5 0), (4, .n i), (5, .pt 7 0), (6, .n k), (24, .n k), (25, .pt 0 5), (26, .d (.ro 1 (streams f.streams))), (27, .n i), (28, .rp [.ro 2 (slots e_f_streams_i)] 0), (29, .rp [.ro 2 (slots e_f_streams_i)] 0), (30, .d (.ro 2 (slots e_f_streams_i))), (31, .n e_f_streams_i.length), (32, .d (.v (.bool true))), (35, .pt 0 5), (36, .d (.ro 1 (streams f.streams))), (37, .n i), (38, .rp [.ro 2 (slots e_f_streams_i)] 0), (39, .rp [.ro 2 (slots e_f_streams_i)] 0), (40, .d (.ro 2 (slots e_f_streams_i))), (41, .n k), (42, .rp [.u e_c8f2d.n, .ro 1 (bytesR e_c8f2d.body)] 0), (43, .ag [.u e_c8f2d.n, .d (.ro 1 (bytesR e_c8f2d.body))]), (7, .pt 9 0), (44, .pt 7 0), (46, .pt 9 0), (47, .u e_c8f2d.n), (49, .pt 9 1), (50, .d (.ro 1 (bytesR e_c8f2d.body))), (51, .sl 10 (0 + (bytesR e_c8f2d.body).length)), (52, .ag [.u e_c8f2d.n, .sl 10 (0 + (bytesR e_c8f2d.body).length)]), (53, .sl 11 (1)), (54, .sl 8 (k + (1))), (55, .pt 7 0)]) (M' := [.bx 33 [.u f.view.id.round, .z f.view.id.server.node, .u f.view.id.server.inc, .d (.ro 2 (procs f.view.members)), .d (.ro 1 (nums f.view.starts)), .d (.ro 1 (streams f.streams)), .d (.ro 1 (nums f.handed))], .bx 33 [.d (.v (.int .u64 0)), .z 0, .d (.v (.int .u64 0)), .d (.v (.slice none 0 0)), .d (.v (.slice none 0 0)), .d (.v (.slice none 0 0)), .d (.v (.slice none 0 0))], .rw 24 2 (procs f.view.members), .rw 22 1 (nums f.view.starts), .rw 22 1 ([] ++ nums f.handed), .bx 33 [.u f.view.id.round, .z f.view.id.server.node, .u f.view.id.server.inc, .sl 2 ((procs f.view.members).length), .sl 3 ((nums f.view.starts).length), .sl 6 (i), .sl 4 (0 + (nums f.handed).length)], .rw 67 1 (streamsO (f.streams.take i)), .bx 67 [.sl 8 (k + (1))], .rw 69 2 (slotsO (e_f_streams_i.take k) ++ [[.u e_c8f2d.n, .em 5 1 ([] ++ (bytesR e_c8f2d.body))]]), .bx 69 [.u e_c8f2d.n, .d (.ro 1 (bytesR e_c8f2d.body))], .dead, .dead]) tb_ok mixed_ok hK [(7, [(4, .ix (i) [.ro 2 (slots e_f_streams_i)]), (7, .z (((e_f_streams_i.length : Nat) : Int))), (8, .b true)]), (9, [(3, .ix (i) [.ro 2 (slots e_f_streams_i)]), (7, .ix (k) [.u e_c8f2d.n, .ro 1 (bytesR e_c8f2d.body)])]), (10, [])] 9 4 [1] [[0, 1, 2, 3, 4, 5, 6, 7, 8, 9, 10, 11], [0, 1, 2, 3, 4, 5, 6, 7, 8, 9, 10, 11], [0, 1, 2, 3, 4, 5, 6, 7, 8, 9, 10, 11], [0, 1, 2, 3, 4, 5, 6, 7, 8, 9, 10, 11]] [1, 2, 3, 4, 5, 6, 24, 25, 26, 27, 28, 29, 30, 31, 32, 35, 36, 37, 38, 39, 40, 41, 42, 43, 7, 44, 46, 47, 49, 50, 51, 52, 53, 54, 55] r (by kernel_rfl) (an (an (rfI ((i : Nat) : Int)) (an v10_0 (an v10_1 (an h1 (an (rfI ((i : Nat) : Int)) (an v10_0 (an (rfI ((k : Nat) : Int)) (an (slots_at ge_c8f2d) (an v10_2 (an v10_3 (an v10_4 (an v10_5 (an v10_6 (an v10_7 (an v10_8 (an v10_9 (an v10_10 (an v10_11 trivial)))))))))))))))))) (an (an (rfI ((i : Nat) : Int)) (an v10_0 (an v10_1 (an h1 (an (rfI ((i : Nat) : Int)) (an v10_0 (an (rfI ((k : Nat) : Int)) (an (slots_at ge_c8f2d) (an v10_2 (an v10_3 (an v10_4 (an v10_5 (an v10_6 (an v10_7 (an v10_8 (an v10_9 (an v10_10 (an v10_11 trivial)))))))))))))))))) (an (an (rfI ((i : Nat) : Int)) (an v10_0 (an v10_1 (an h1 (an (rfI ((i : Nat) : Int)) (an v10_0 (an (rfI ((k : Nat) : Int)) (an (slots_at ge_c8f2d) (an v10_2 (an v10_3 (an v10_4 (an v10_5 (an v10_6 (an v10_7 (an v10_8 (an v10_9 (an v10_10 (an v10_11 trivial)))))))))))))))))) (an (an (rfI ((i : Nat) : Int)) (an v10_0 (an v10_1 (an h1 (an (rfI ((i : Nat) : Int)) (an v10_0 (an (rfI ((k : Nat) : Int)) (an (slots_at ge_c8f2d) (an v10_2 (an v10_3 (an v10_4 (an v10_5 (an v10_6 (an v10_7 (an v10_8 (an v10_9 (an v10_10 (an v10_11 trivial)))))))))))))))))) trivial)))) fun ac wd r => ?_
      exact toHead (todo' := hd Try.f8 1) (E' := [(1, .pt 0 0), (2, .pt 1 0), (3, .pt 5 0), (4, .n i), (5, .pt 7 0), (6, .n (k + 1))]) (M' := [.bx 33 [.u f.view.id.round, .z f.view.id.server.node, .u f.view.id.server.inc, .d (.ro 2 (procs f.view.members)), .d (.ro 1 (nums f.view.starts)), .d (.ro 1 (streams f.streams)), .d (.ro 1 (nums f.handed))], .bx 33 [.d (.v (.int .u64 0)), .z 0, .d (.v (.int .u64 0)), .d (.v (.slice none 0 0)), .d (.v (.slice none 0 0)), .d (.v (.slice none 0 0)), .d (.v (.slice none 0 0))], .rw 24 2 (procs f.view.members), .rw 22 1 (nums f.view.starts), .rw 22 1 ([] ++ nums f.handed), .bx 33 [.u f.view.id.round, .z f.view.id.server.node, .u f.view.id.server.inc, .sl 2 ((procs f.view.members).length), .sl 3 ((nums f.view.starts).length), .sl 6 (i), .sl 4 (0 + (nums f.handed).length)], .rw 67 1 (streamsO (f.streams.take i)), .bx 67 [.sl 8 (k + (1))], .rw 69 2 (slotsO (e_f_streams_i.take k) ++ [[.u e_c8f2d.n, .em 5 1 ([] ++ (bytesR e_c8f2d.body))]])]) tb_ok mixed_ok hK [(8, [(1, .z (((k + 1 : Nat) : Int)))])] 2000 [0, 1, 2, 3, 4, 5, 6, 7, 8] [1, 2, 3, 4, 5, 6] r (by kernel_rfl) (an ((wi (by omega)) : IntKind.i64.wrap ((((k : Nat) : Int) : Int) + 1) = ((k + 1 : Nat) : Int)) trivial) fun ac wd r => again1 (by omega) ac wd ⟨by omega, r.cast rfl (by rw [slotsO_next ge_c8f2d])⟩
end Go.Proofs.Ytoijfmfkkmbabaa
namespace Go.Proofs.Ytoijfmfkkmbabaa
open Go.RowKit
variable {P : Program} {f : FuncId}
def Le (x x' : DV) : Prop := ∀ (K : World → Prop) (y : Value) (H : Frag), DRel K x y H → DRel K x' y H
theorem Le.refl (x : DV) : Le x x := fun _ _ _ h => h
theorem Le.trans {x y z : DV} (h : Le x y) (k : Le y z) : Le x z := fun K v H r => k K v H (h K v H r)
theorem Le.nilEm (T k : Nat) : Le (.v (.slice none 0 0)) (.em T k []) := by
  intro K y H h
  cases h
  have : DRel K (.em T k []) (.slice none 0 0) ([] ++ layF ([] : List (List DV)).length k fun _ _ => []) := .em (fun _ => []) (fun _ _ => []) (by simp) (by simpa [lay] using SlRep.nil T k none) (by simp)
  simpa [layF] using this
theorem Le.nilRo (k : Nat) : Le (.v (.slice none 0 0)) (.ro k []) := by
  intro K y H h
  cases h
  exact .ro (fun _ => []) (by simp) ⟨none, 0, rfl⟩ (fun w _ => by simpa [lay] using (SlRep.nil 0 k none).src (Holds.nil w)) (by simp)
theorem Le.ag {l l' : List DV} (hl : l.length = l'.length) (h : ∀ (j : Nat) c c', l[j]? = some c → l'[j]? = some c' → Le c c') : Le (.ag l) (.ag l') := by
  intro K y H r
  cases r with
  | ag ys F hl2 hr =>
    rw [hl]
    refine .ag ys F (by omega) fun j c z h1 h2 => ?_
    have hj : j < l.length := by rw [hl]; exact (List.getElem?_eq_some_iff.1 h1).1
    exact h j _ c (List.getElem?_eq_getElem hj) h1 K z _ (hr j _ z (List.getElem?_eq_getElem hj) h2)
theorem Le.tu {l l' : List DV} (hl : l.length = l'.length) (h : ∀ (j : Nat) c c', l[j]? = some c → l'[j]? = some c' → Le c c') : Le (.tu l) (.tu l') := by
  intro K y H r
  cases r with
  | tu ys F hl2 hr =>
    rw [hl]
    refine .tu ys F (by omega) fun j c z h1 h2 => ?_
    have hj : j < l.length := by rw [hl]; exact (List.getElem?_eq_some_iff.1 h1).1
    exact h j _ c (List.getElem?_eq_getElem hj) h1 K z _ (hr j _ z (List.getElem?_eq_getElem hj) h2)
theorem Le.em {T k : Nat} {rows rows' : List (List DV)} (hl : rows.length = rows'.length) (h : ∀ (i : Nat) r r', rows[i]? = some r → rows'[i]? = some r' → r.length = r'.length ∧ ∀ (j : Nat) c c', r[j]? = some c → r'[j]? = some c' → Le c c') : Le (.em T k rows) (.em T k rows') := by
  intro K y H r
  cases r with
  | em X F hl2 hs hr =>
    rw [hl] at hs ⊢
    refine .em X F (fun i r' h1 => ?_) hs fun i r' j c x h1 h2 h3 => ?_
    · have hi : i < rows.length := by rw [hl]; exact (List.getElem?_eq_some_iff.1 h1).1
      have e := List.getElem?_eq_getElem hi
      have := hl2 i _ e; have := (h i _ r' e h1).1; omega
    · have hi : i < rows.length := by rw [hl]; exact (List.getElem?_eq_some_iff.1 h1).1
      have e := List.getElem?_eq_getElem hi
      obtain ⟨g1, g2⟩ := h i _ r' e h1
      have hj : j < rows[i].length := by rw [g1]; exact (List.getElem?_eq_some_iff.1 h2).1
      have e2 := List.getElem?_eq_getElem hj
      exact g2 j _ c e2 h2 K x _ (hr i _ j _ x e e2 h3)
theorem Con.le {args : List AV} {x x' : DV} (h : Con P f args x) (e : Le x x') : Con P f args x' := by
  refine ⟨h.1, fun w K ys hK hl hr => (h.2 w K ys hK hl hr).mono ?_⟩
  rintro ed w' ⟨v, rfl, g, H, ⟨Ho, Hi, rfl, hd⟩, n⟩
  exact ⟨_, rfl, g, _, ⟨Ho, Hi, rfl, e _ _ _ hd⟩, n⟩
inductive LeL : List DV → List DV → Prop where
  | nil : LeL [] []
  | cons {x x' : DV} {l l' : List DV} (h : Le x x') (t : LeL l l') : LeL (x :: l) (x' :: l')
theorem LeL.ok {l l' : List DV} (h : LeL l l') : l.length = l'.length ∧ ∀ (j : Nat) c c', l[j]? = some c → l'[j]? = some c' → Le c c' := by
  induction h with
  | nil => simp
  | cons h t ih =>
    refine ⟨by simp [ih.1], fun j c c' h1 h2 => ?_⟩
    cases j with
    | zero => simp at h1 h2; subst h1 h2; exact h
    | succ j => exact ih.2 j c c' (by simpa using h1) (by simpa using h2)
theorem LeL.ag {l l' : List DV} (h : LeL l l') : Le (.ag l) (.ag l') := Le.ag h.ok.1 h.ok.2
theorem LeL.tu {l l' : List DV} (h : LeL l l') : Le (.tu l) (.tu l') := Le.tu h.ok.1 h.ok.2
theorem Le.rep {T k : Nat} {r r' : List DV} (n : Nat) (h : LeL r r') : Le (.em T k (List.replicate n r)) (.em T k (List.replicate n r')) := by
  refine Le.em (by simp) fun i a a' h1 h2 => ?_
  rw [List.getElem?_replicate] at h1 h2
  split at h1
  · rw [if_pos (by assumption), Option.some.injEq] at h2
    rw [Option.some.injEq] at h1
    rw [← h1, ← h2]; exact h.ok
  · cases h1
end Go.Proofs.Ytoijfmfkkmbabaa
namespace Go.Proofs.Ytoijfmfkkmbabaa
open Go.RowKit
def Flow.zero : Flow := ⟨⟨⟨0, ⟨0, 0⟩⟩, [], []⟩, [], []⟩
noncomputable def Flow.owned (f : Flow) : Flow := if f.may = true then f else Flow.zero
theorem Flow.owned_yes {f : Flow} (h : f.may = true) : f.owned = f := by unfold Flow.owned; rw [if_pos h]
theorem Flow.owned_no {f : Flow} (h : f.may = false) : f.owned = Flow.zero := by unfold Flow.owned; rw [if_neg (by rw [h]; simp)]
set_option maxRecDepth 100000 in
theorem refOwn (f : Flow) (hb : f.bounded) : Con Try.prog 33 [.ag [.u f.view.id.round, .z f.view.id.server.node, .u f.view.id.server.inc, .d (.ro 2 (procs f.view.members)), .d (.ro 1 (nums f.view.starts)), .d (.ro 1 (streams f.streams)), .d (.ro 1 (nums f.handed))]] (.ag f.owned.own) := by
  refine Con.intro (by kernel_rfl) rfl rfl 9 rfl rfl fun w0 K ac hK r => ?_
  cases h0 : (f.may) with
  | false =>
    refine toAt (todo' := aft Try.f33 2) (E' := [(1, .pt 0 0), (2, .pt 1 0)]) (M' := [.bx 33 [.u f.view.id.round, .z f.view.id.server.node, .u f.view.id.server.inc, .d (.ro 2 (procs f.view.members)), .d (.ro 1 (nums f.view.starts)), .d (.ro 1 (streams f.streams)), .d (.ro 1 (nums f.handed))], .bx 33 [.d (.v (.int .u64 0)), .z 0, .d (.v (.int .u64 0)), .d (.v (.slice none 0 0)), .d (.v (.slice none 0 0)), .d (.v (.slice none 0 0)), .d (.v (.slice none 0 0))]]) tb_ok mixed_ok hK [(1, [(1, .con (.v (.bool false)))])] 8 [0, 1] [1, 2] r (by kernel_rfl) (an ((by have k := refFlowMay f (by assumption); rw [h0] at k; exact k) : Con Try.prog 13 [.ag [.u f.view.id.round, .z f.view.id.server.node, .u f.view.id.server.inc, .d (.ro 2 (procs f.view.members)), .d (.ro 1 (nums f.view.starts)), .d (.ro 1 (streams f.streams)), .d (.ro 1 (nums f.handed))]] (.v (.bool false))) trivial) fun ac wd r => ?_
    have r := r.adopt (E1 := [(1, .pt 0 0), (2, .pt 1 0)]) (M1 := [.bx 33 [.u f.view.id.round, .z f.view.id.server.node, .u f.view.id.server.inc, .d (.ro 2 (procs f.view.members)), .d (.ro 1 (nums f.view.starts)), .d (.ro 1 (streams f.streams)), .d (.ro 1 (nums f.handed))], .bx 33 [.d (.v (.int .u64 0)), .z 0, .d (.v (.int .u64 0)), .d (.v (.slice none 0 0)), .d (.v (.slice none 0 0)), .d (.v (.slice none 0 0)), .d (.v (.slice none 0 0))]]) (M2 := [.bx 33 [.u f.view.id.round, .z f.view.id.server.node, .u f.view.id.server.inc, .d (.ro 2 (procs f.view.members)), .d (.ro 1 (nums f.view.starts)), .d (.ro 1 (streams f.streams)), .d (.ro 1 (nums f.handed))], .bx 33 [.d (.v (.int .u64 0)), .z 0, .d (.v (.int .u64 0)), .sl 2 (0), .sl 3 (0), .sl 4 (0), .sl 5 (0)], .rw 24 2 ([]), .rw 22 1 ([]), .rw 67 1 ([]), .rw 22 1 ([])]) [] [(1, 3, 24, 2), (1, 4, 22, 1), (1, 5, 67, 1), (1, 6, 22, 1)] (by kernel_rfl) (by kernel_rfl)
    rw [show (.ag f.owned.own : DV) = .ag [.v (.int .u64 0), .z 0, .v (.int .u64 0), .em 24 2 ([]), .em 22 1 ([]), .em 67 1 ([]), .em 22 1 ([])] from (by first | (rw [Flow.owned_yes (by assumption)]; rfl) | (rw [Flow.owned_no (by assumption)]; rfl))]
    exact toRet tb_ok mixed_ok hK rfl [] 2000 r (by kernel_rfl) (an ((by simp) : (0) = ([] : List (List DV)).length) (an ((by simp) : (0) = ([] : List (List DV)).length) (an ((by simp) : (0) = ([] : List (List DV)).length) (an ((by simp) : (0) = ([] : List (List DV)).length) trivial))))
  | true =>
    rw [show (.ag f.owned.own : DV) = .ag [.u f.view.id.round, .z f.view.id.server.node, .u f.view.id.server.inc, .em 24 2 (procs f.view.members), .em 22 1 (nums f.view.starts), .em 67 1 (streamsO f.streams), .em 22 1 (nums f.handed)] from (by first | (rw [Flow.owned_yes (by assumption)]; rfl) | (rw [Flow.owned_no (by assumption)]; rfl))]
    exact toRet tb_ok mixed_ok hK rfl [(1, [(1, .con (.v (.bool true)))]), (3, [(1, .con (.ag [.u f.view.id.round, .z f.view.id.server.node, .u f.view.id.server.inc, .em 24 2 (procs f.view.members), .em 22 1 (nums f.view.starts), .em 67 1 (streamsO f.streams), .em 22 1 (nums f.handed)]))])] 2000 r (by kernel_rfl) (an ((by have k := refFlowMay f (by assumption); rw [h0] at k; exact k) : Con Try.prog 13 [.ag [.u f.view.id.round, .z f.view.id.server.node, .u f.view.id.server.inc, .d (.ro 2 (procs f.view.members)), .d (.ro 1 (nums f.view.starts)), .d (.ro 1 (streams f.streams)), .d (.ro 1 (nums f.handed))]] (.v (.bool true))) (an (refFlowCopy f (by assumption)) (an (rfN ((procs f.view.members).length)) (an (rfN ((nums f.view.starts).length)) (an (rfN ((streamsO f.streams).length)) (an (rfN ((nums f.handed).length)) trivial))))))
def Flow.fresh (v : View) : Flow := ⟨v, List.replicate v.members.length [], List.replicate v.members.length 0⟩
theorem boundS.nil : boundS [] := ⟨by simp, by simp⟩
theorem Flow.owned_bounded {f : Flow} (h : f.bounded) : f.owned.bounded := by
  cases hm : f.may with
  | true => rw [Flow.owned_yes hm]; exact h
  | false =>
    rw [Flow.owned_no hm]
    exact ⟨⟨by simp [Flow.zero], by simp [Flow.zero]⟩, by simp [Flow.zero], by simp [Flow.zero], by simp [Flow.zero]⟩
end Go.Proofs.Ytoijfmfkkmbabaa
namespace Go.Proofs.Ytoijfmfkkmbabaa
open Go.RowKit
variable {P : Program} {T : Tab} {f : FuncId} {a : Act} {w : World} {D : List Nat} {w0 : World} {K0 : World → Prop} {E E1 : List (Nat × AV)} {M M1 M2 : List Blk} {β : Beta} {F : Nat → Frag} {I X : Frag} {sz : Nat} {b : Base}
theorem RMx.stay {J Y : Frag} (R : RMx D w0 K0 M β F I (J ++ Y) w) : RMx D w0 K0 M β F (J ++ I) Y w where
  len := R.len
  blk := fun u bl hb => (R.blk u bl hb).mono (fun w hw => ⟨hw.1, (Holds.app.1 hw.2).2⟩) (Ext.refl _)
  st := R.st.perm (List.Perm.append_left _ (by rw [← List.append_assoc]; exact List.Perm.append_right _ List.perm_append_comm))
theorem layF_none (n k : Nat) : layF n k (fun _ _ => ([] : Frag)) = [] := by simp [layF]
theorem layF_holds {n k : Nat} {G : Nat → Nat → Frag} {w : World} (h : Holds w (layF n k G)) {i j : Nat} (hi : i < n) (hj : j < k) : Holds w (G i j) := by
  intro x hx
  exact h x (List.mem_flatMap.2 ⟨i, List.mem_range.2 hi, List.mem_flatMap.2 ⟨j, List.mem_range.2 hj, hx⟩⟩)
theorem RM.freeze (R : RM D w0 K0 M β F I w) {u T k : Nat} {rows : List (List DV)} (hu : M[u]? = some (.rw T k rows)) : ∃ F' I', RM D w0 K0 (M.set u (.rw T k (frozR rows))) β F' I' w ∧ Grows I I' := by
  have hb := R.blk u _ hu
  have hlt := (List.getElem?_eq_some_iff.1 hu).1
  have g := R.x.give hu
  generalize F u = Fu at hb g
  cases hb with
  | rw hb X G hl hs hr =>
    rename_i H0
    have g2 := (g.perm (Y := layF rows.length k G ++ (H0 ++ [])) (by rw [List.nil_append, List.append_nil]; exact List.perm_append_comm)).stay
    have hrow : ∀ (i : Nat) r, (frozR rows)[i]? = some r → ∃ r0, rows[i]? = some r0 ∧ r = r0.map froz := by
      intro i r h; rw [frozR_map, List.getElem?_map, Option.map_eq_some_iff] at h
      obtain ⟨r0, h1, h2⟩ := h; exact ⟨r0, h1, h2.symm⟩
    have hlen : (frozR rows).length = rows.length := by rw [frozR_map, List.length_map]
    have hB : BRel (fun w => K0 w ∧ Holds w (layF rows.length k G ++ I)) β u (.rw T k (frozR rows)) (H0 ++ layF (frozR rows).length k fun _ _ => []) := by
      refine .rw hb X (fun _ _ => []) (fun i r h => ?_) (by rw [hlen]; exact hs) fun i r j c x h1 h2 h3 => ?_
      · obtain ⟨r0, h1, rfl⟩ := hrow i r h
        rw [List.length_map]; exact hl i r0 h1
      · obtain ⟨r0, g1, rfl⟩ := hrow i r h1
        rw [List.getElem?_map, Option.map_eq_some_iff] at h2
        obtain ⟨c0, g2, rfl⟩ := h2
        refine froz_ok (hr i r0 j c0 x g1 g2 h3) fun w hw => ⟨⟨hw.1, (Holds.app.1 hw.2).2⟩, layF_holds (Holds.app.1 hw.2).1 (List.getElem?_eq_some_iff.1 g1).1 ?_⟩
        rw [← (hl i r0 g1).1]; exact (List.getElem?_eq_some_iff.1 g2).1
    rw [layF_none, List.append_nil] at hB
    have g3 := g2.put (by rw [List.length_set]; exact hlt) (by simp [updF]) hB
    rw [List.set_set] at g3
    exact ⟨_, _, g3.nil rfl, _, rfl⟩
def frzM : List Nat → List Blk → Option (List Blk)
  | [], M => some M
  | u :: r, M => match M[u]? with
    | some (.rw T k rows) => frzM r (M.set u (.rw T k (frozR rows)))
    | _ => none
theorem frz_ok : ∀ {us : List Nat} {M : List Blk} {F : Nat → Frag} {I : Frag}, frzM us M = some M1 → RM D w0 K0 M β F I w → ∃ F' I', RM D w0 K0 M1 β F' I' w ∧ Grows I I'
  | [], M, F, I, h, R => by simp only [frzM, Option.some.injEq] at h; subst h; exact ⟨F, I, R, Grows.refl I⟩
  | u :: r, M, F, I, h, R => by
    unfold frzM at h
    split at h
    · rename_i hu
      obtain ⟨F1, I1, R1, g1⟩ := R.freeze hu
      obtain ⟨F2, I2, R2, g2⟩ := frz_ok h R1
      exact ⟨F2, I2, R2, g1.trans g2⟩
    · cases h
theorem RE'.freeze (r : RE' D w0 K0 sz E M a w) (us : List Nat) (h : frzM us M = some M1) (e : M1 = M2) : RE' D w0 K0 sz E M2 a w := by
  subst e
  obtain ⟨h1, h2, β, F, I, R, hs⟩ := r
  obtain ⟨F', I', R', g⟩ := frz_ok h R
  exact ⟨h1, h2, β, F', I', R', fun t v hv => (hs t v hv).mono (fun w hw => ⟨hw.1, g.holds w hw.2⟩) (Ext.refl _)⟩
theorem RM.stay1 (R : RM D w0 K0 M β F I w) {v n T k : Nat} {rows : List (List DV)} (hv : M[v]? = some (.rw T k rows)) (hn : n = rows.length) : ∃ F' I', RM D w0 K0 (M.set v .dead) β F' I' w ∧ Grows I I' ∧ ∀ y, ARel (fun w => K0 w ∧ Holds w I) β (.sl v n) y → ARel (fun w => K0 w ∧ Holds w I') β (.d (.ro k (frozR rows))) y := by
  have R1 := R.x.give hv
  rw [List.nil_append] at R1
  have hB := R.blk v _ hv
  refine ⟨updF F v [], F v ++ I, ⟨R1.len, fun u bl hu => (R1.blk u bl hu).mono (fun w hw => ⟨hw.1, (Holds.app.1 hw.2).2⟩) (Ext.refl _), R1.st.perm (List.Perm.append_left _ List.perm_append_comm)⟩, ⟨F v, rfl⟩, fun y r => ?_⟩
  generalize F v = Fv at hB ⊢
  cases r with
  | sl hb =>
    cases hB with
    | rw hb' X G hl hs hr =>
      rw [hb] at hb'; cases hb'
      have hd := DRel.em (K := fun w => K0 w ∧ Holds w I) X G hl hs hr
      have := froz_ok (K' := fun w => K0 w ∧ Holds w (_ ++ I)) hd fun w hw => ⟨⟨hw.1, (Holds.app.1 hw.2).2⟩, (Holds.app.1 hw.2).1⟩
      rw [froz] at this
      rw [hn]
      exact .d this
def stS : List Nat → List (Nat × AV) → List Blk → Option (List Prop × List (Nat × AV) × List Blk)
  | [], E, M => some ([], E, M)
  | t :: r, E, M => match lookA E t with
    | some (.sl v n) => (match M[v]? with
      | some (.rw _ k rows) => (match stS r (repA E t (.d (.ro k (frozR rows)))) (M.set v .dead) with | some (p, E', M') => some ((n = rows.length) :: p, E', M') | none => none)
      | _ => none)
    | _ => none
def stC : List (Nat × Nat) → List Blk → Option (List Prop × List Blk)
  | [], M => some ([], M)
  | (u, o) :: r, M => match M[u]? with
    | some (.bx Tb cells) => (match cells[o]? with
      | some (.sl v n) => (match M[v]? with
        | some (.rw _ k rows) => (match stC r ((M.set v .dead).set u (.bx Tb (cells.set o (.d (.ro k (frozR rows)))))) with | some (p, M') => some ((n = rows.length) :: p, M') | none => none)
        | _ => none)
      | _ => none)
    | _ => none
theorem stS_ok {ev : Nat → Value} : ∀ {ls : List Nat} {E : List (Nat × AV)} {M : List Blk} {F : Nat → Frag} {I : Frag} {p : List Prop}, stS ls E M = some (p, E1, M1) → AllP p → RM D w0 K0 M β F I w → (∀ t v, lookA E t = some v → ARel (fun w => K0 w ∧ Holds w I) β v (ev t)) →
    ∃ F' I', RM D w0 K0 M1 β F' I' w ∧ ∀ t v, lookA E1 t = some v → ARel (fun w => K0 w ∧ Holds w I') β v (ev t)
  | [], E, M, F, I, p, h, _, R, hs => by
    simp only [stS, Option.some.injEq, Prod.mk.injEq] at h; obtain ⟨-, rfl, rfl⟩ := h
    exact ⟨F, I, R, hs⟩
  | t :: r, E, M, F, I, p, h, hp, R, hs => by
    unfold stS at h
    split at h
    · rename_i v n ht
      split at h
      · rename_i T k rows hv
        split at h
        · rename_i p' E' M' hr
          simp only [Option.some.injEq, Prod.mk.injEq] at h; obtain ⟨rfl, e1, e2⟩ := h
          rw [e1, e2] at hr
          obtain ⟨F2, I2, R2, g, hA⟩ := R.stay1 hv hp.1
          refine stS_ok (ev := ev) hr hp.2 R2 fun s x hx => ?_
          rcases repA_at hx with ⟨rfl, rfl, -⟩ | ⟨-, h2⟩
          · exact hA _ (hs _ _ ht)
          · exact (hs s x h2).mono (fun w hw => ⟨hw.1, g.holds w hw.2⟩) (Ext.refl _)
        · cases h
      · cases h
    · cases h
theorem stC_ok : ∀ {lc : List (Nat × Nat)} {M : List Blk} {F : Nat → Frag} {I : Frag} {p : List Prop}, stC lc M = some (p, M1) → AllP p → RM D w0 K0 M β F I w → ∃ F' I', RM D w0 K0 M1 β F' I' w ∧ Grows I I'
  | [], M, F, I, p, h, _, R => by
    simp only [stC, Option.some.injEq, Prod.mk.injEq] at h; obtain ⟨-, rfl⟩ := h
    exact ⟨F, I, R, Grows.refl I⟩
  | (u, o) :: r, M, F, I, p, h, hp, R => by
    unfold stC at h
    split at h
    · rename_i Tb cells hu
      split at h
      · rename_i v n ho
        split at h
        · rename_i T k rows hv
          split at h
          · rename_i p' M' hr
            simp only [Option.some.injEq, Prod.mk.injEq] at h; obtain ⟨rfl, e1⟩ := h
            rw [e1] at hr
            have huv : v ≠ u := fun e => by subst e; rw [hu] at hv; cases hv
            obtain ⟨F2, I2, R2, g, hA⟩ := R.stay1 hv hp.1
            have hB := R.blk u _ hu
            obtain ⟨hlt, -⟩ := List.getElem?_eq_some_iff.1 hu
            have hu2 : (M.set v .dead)[u]? = some (.bx Tb cells) := by rw [List.getElem?_set, if_neg huv]; exact hu
            have hFu := R2.blk u _ hu2
            have hnew : BRel (fun w => K0 w ∧ Holds w I2) β u (.bx Tb (cells.set o (.d (.ro k (frozR rows))))) (F2 u) := by
              have hst : ∀ {G : Frag}, BRel (fun w => K0 w ∧ Holds w I2) β u (.bx Tb cells) G → G = F2 u → BRel (fun w => K0 w ∧ Holds w I) β u (.bx Tb cells) (F u) → F2 u = F u → BRel (fun w => K0 w ∧ Holds w I2) β u (.bx Tb (cells.set o (.d (.ro k (frozR rows))))) (F2 u) := by
                intro G _ _ h3 h4
                rw [h4]
                generalize F u = Fu at h3 ⊢
                cases h3 with
                | bx hb ys hl hr2 =>
                  refine .bx hb ys (by rw [List.length_set]; exact hl) fun j c y h1 h2 => ?_
                  rw [List.getElem?_set] at h1
                  split at h1
                  · rename_i hj; subst hj
                    split at h1
                    · simp only [Option.some.injEq] at h1; subst h1
                      exact hA _ (hr2 _ _ _ ho h2)
                    · cases h1
                  · exact (hr2 j c y h1 h2).mono (fun w hw => ⟨hw.1, g.holds w hw.2⟩) (Ext.refl _)
              have hF2 : F2 u = F u := by
                generalize hq : F2 u = q at hFu
                generalize hq0 : F u = q0 at hB
                cases hFu with
                | bx hb ys hl hr2 =>
                  cases hB with
                  | bx hb' ys' hl' hr2' =>
                    rw [hb] at hb'; cases hb'
                    have h1 : Holds w (F2 u) := R2.holdsF hu2
                    have h2 : Holds w (F u) := R.holdsF hu
                    rw [hq] at h1; rw [hq0] at h2
                    have e1 := h1.one
                    have e2 := h2.one
                    rw [e1] at e2
                    simp only [Option.some.injEq, Obj.cells.injEq] at e2
                    rw [e2.1]
              exact hst hFu rfl hB hF2
            have R3 : RM D w0 K0 ((M.set v .dead).set u (.bx Tb (cells.set o (.d (.ro k (frozR rows)))))) β F2 I2 w := by
              refine ⟨by rw [List.length_set]; exact R2.len, fun x bl hx => ?_, by rw [List.length_set]; exact R2.st⟩
              rw [List.getElem?_set] at hx
              split at hx
              · rename_i e; subst e
                split at hx
                · simp only [Option.some.injEq] at hx; subst hx; exact hnew
                · cases hx
              · exact R2.blk x bl hx
            obtain ⟨F4, I4, R4, g4⟩ := stC_ok hr hp.2 R3
            exact ⟨F4, I4, R4, g.trans g4⟩
          · cases h
        · cases h
      · cases h
    · cases h
theorem RE'.stay {E2 : List (Nat × AV)} {M3 : List Blk} {p1 p2 : List Prop} (r : RE' D w0 K0 sz E M a w) (ls : List Nat) (lc : List (Nat × Nat)) (h : stS ls E M = some (p1, E1, M1)) (h2 : stC lc M1 = some (p2, M2)) (q1 : AllP p1) (q2 : AllP p2) (e : E1 = E2) (e2 : M2 = M3) : RE' D w0 K0 sz E2 M3 a w := by
  subst e e2
  obtain ⟨g1, g2, β, F, I, R, hs⟩ := r
  obtain ⟨F1, I1, R1, s1⟩ := stS_ok (ev := fun t => a.eval (.tmp t)) h q1 R hs
  obtain ⟨F2, I2, R2, g⟩ := stC_ok h2 q2 R1
  exact ⟨g1, g2, β, F2, I2, R2, fun t v hv => (s1 t v hv).mono (fun w hw => ⟨hw.1, g.holds w hw.2⟩) (Ext.refl _)⟩
end Go.Proofs.Ytoijfmfkkmbabaa
namespace Go.Proofs.Ytoijfmfkkmbabaa
open Go.RowKit
theorem froz_bytes (l : List UInt8) : frozR (bytesR l) = bytesR l := by simp [frozR_map, bytesR, froz]
theorem froz_slots (l : List Slot) : frozR (slotsO l) = slots l := by
  rw [frozR_map]; unfold slotsO slots; rw [List.map_map]
  apply List.map_congr_left; intro s _
  show [froz (.v _), froz (.em 5 1 (bytesR s.body))] = _
  rw [froz, froz, froz_bytes]; rfl
theorem froz_streams (l : List (List Slot)) : frozR (streamsO l) = streams l := by
  rw [frozR_map]; unfold streamsO streams; rw [List.map_map]
  apply List.map_congr_left; intro s _
  show [froz (.em 69 2 (slotsO s))] = _
  rw [froz, froz_slots]
theorem nums_next {α : Type} {l : List α} {g : α → Nat} {k : Nat} {x : α} (h : l[k]? = some x) : nums ((l.take k).map g) ++ [[.v (.int .u64 ((g x : Nat) : Int))]] = nums ((l.take (k + 1)).map g) := by
  obtain ⟨hk, rfl⟩ := List.getElem?_eq_some_iff.1 h
  rw [List.take_succ_eq_append_getElem hk, List.map_append]
  unfold nums; rw [List.map_append]; rfl
noncomputable def Flow.counts (f : Flow) : List Nat := f.owned.streams.map countS
set_option maxRecDepth 100000 in
theorem refCounts (f : Flow) (hb : f.bounded) : Con Try.prog 21 [.ag [.u f.view.id.round, .z f.view.id.server.node, .u f.view.id.server.inc, .d (.ro 2 (procs f.view.members)), .d (.ro 1 (nums f.view.starts)), .d (.ro 1 (streams f.streams)), .d (.ro 1 (nums f.handed))]] (.em 22 1 (nums f.counts)) := by
  have hbo := Flow.owned_bounded hb
  obtain ⟨hbv, hb1, hb2, hb3⟩ := id hbo
  refine Con.intro (by kernel_rfl) rfl rfl 24 rfl rfl fun w0 K ac hK r => ?_
  refine toAt (todo' := aft Try.f21 1) (E' := [(1, .pt 0 0), (2, .d (.v (.slice none 0 0)))]) (M' := [.bx 33 [.u f.owned.view.id.round, .z f.owned.view.id.server.node, .u f.owned.view.id.server.inc, .sl 1 ((procs f.owned.view.members).length), .sl 2 ((nums f.owned.view.starts).length), .sl 3 ((streamsO f.owned.streams).length), .sl 4 ((nums f.owned.handed).length)], .rw 24 2 (procs f.owned.view.members), .rw 22 1 (nums f.owned.view.starts), .rw 67 1 (streamsO f.owned.streams), .rw 22 1 (nums f.owned.handed)]) tb_ok mixed_ok hK [(1, [(1, .con (.ag [.u f.owned.view.id.round, .z f.owned.view.id.server.node, .u f.owned.view.id.server.inc, .em 24 2 (procs f.owned.view.members), .em 22 1 (nums f.owned.view.starts), .em 67 1 (streamsO f.owned.streams), .em 22 1 (nums f.owned.handed)]))])] 4 [0, 1, 2, 3, 4] [1, 2] r (by kernel_rfl) (an (refOwn f (by assumption)) trivial) fun ac wd r => ?_
  have r := r.freeze (M1 := [.bx 33 [.u f.owned.view.id.round, .z f.owned.view.id.server.node, .u f.owned.view.id.server.inc, .sl 1 ((procs f.owned.view.members).length), .sl 2 ((nums f.owned.view.starts).length), .sl 3 ((streamsO f.owned.streams).length), .sl 4 ((nums f.owned.handed).length)], .rw 24 2 (procs f.owned.view.members), .rw 22 1 (nums f.owned.view.starts), .rw 67 1 (frozR (streamsO f.owned.streams)), .rw 22 1 (nums f.owned.handed)]) (M2 := [.bx 33 [.u f.owned.view.id.round, .z f.owned.view.id.server.node, .u f.owned.view.id.server.inc, .sl 1 ((procs f.owned.view.members).length), .sl 2 ((nums f.owned.view.starts).length), .sl 3 ((streamsO f.owned.streams).length), .sl 4 ((nums f.owned.handed).length)], .rw 24 2 (procs f.owned.view.members), .rw 22 1 (nums f.owned.view.starts), .rw 67 1 (streams f.owned.streams), .rw 22 1 (nums f.owned.handed)]) [3] (by kernel_rfl) (by rw [froz_streams])
  refine toHead (todo' := hd Try.f21 0) (E' := [(1, .pt 0 0), (3, .d (.v (.slice none 0 0))), (4, .z 0)]) (M' := [.bx 33 [.u f.owned.view.id.round, .z f.owned.view.id.server.node, .u f.owned.view.id.server.inc, .sl 1 ((procs f.owned.view.members).length), .sl 2 ((nums f.owned.view.starts).length), .sl 3 ((streamsO f.owned.streams).length), .sl 4 ((nums f.owned.handed).length)], .rw 24 2 (procs f.owned.view.members), .rw 22 1 (nums f.owned.view.starts), .rw 67 1 (streams f.owned.streams), .rw 22 1 (nums f.owned.handed)]) tb_ok mixed_ok hK [] 2000 [0, 1, 2, 3, 4] [1, 3, 4] r (by kernel_rfl) trivial fun ac wd r => ?_
  refine Goes.rounds (Φ := fun (i : Nat) ac wd => (i ≤ f.owned.streams.length) ∧ RE' [] w0 K 24 [(1, .pt 0 0), (3, .sl 5 (i)), (4, .n i)] [.bx 33 [.u f.owned.view.id.round, .z f.owned.view.id.server.node, .u f.owned.view.id.server.inc, .sl 1 ((procs f.owned.view.members).length), .sl 2 ((nums f.owned.view.starts).length), .sl 3 ((streamsO f.owned.streams).length), .sl 4 ((nums f.owned.handed).length)], .rw 24 2 (procs f.owned.view.members), .rw 22 1 (nums f.owned.view.starts), .rw 67 1 (streams f.owned.streams), .rw 22 1 (nums f.owned.handed), .rw 22 1 (nums ((f.owned.streams.take i).map countS))] ac wd) (f.owned.streams.length) ?_ (Nat.zero_le _) ⟨by omega, r.adopt (M1 := [.bx 33 [.u f.owned.view.id.round, .z f.owned.view.id.server.node, .u f.owned.view.id.server.inc, .sl 1 ((procs f.owned.view.members).length), .sl 2 ((nums f.owned.view.starts).length), .sl 3 ((streamsO f.owned.streams).length), .sl 4 ((nums f.owned.handed).length)], .rw 24 2 (procs f.owned.view.members), .rw 22 1 (nums f.owned.view.starts), .rw 67 1 (streams f.owned.streams), .rw 22 1 (nums f.owned.handed), .rw 22 1 []]) [(3, 22, 1)] [] (by kernel_rfl) (by kernel_rfl)⟩
  clear r
  rintro i hi0 again0 ac wd ⟨hv0, r⟩
  cases h0 : (decide ((((i : Nat) : Int) : Int) < ((f.owned.streams.length : Nat) : Int))) with
  | false =>
    have qh0 := of_decide_eq_false h0
    rw [show (.em 22 1 (nums f.counts) : DV) = .em 22 1 (nums ((f.owned.streams.take i).map countS)) from (by unfold Flow.counts; rw [show f.owned.streams.take i = f.owned.streams from List.take_of_length_le (by omega)])]
    exact toRet tb_ok mixed_ok hK rfl [(4, [(3, .z (((f.owned.streams.length : Nat) : Int))), (4, .b false)])] 2000 r (by kernel_rfl) (an ((by simp) : (((streamsO f.owned.streams).length : Nat) : Int) = ((f.owned.streams.length : Nat) : Int)) (an h0 (an ((by simp <;> omega) : (i) = (nums ((f.owned.streams.take i).map countS)).length) trivial)))
  | true =>
    have qh0 := of_decide_eq_true h0
    obtain ⟨e_4bd70, ge_4bd70⟩ : ∃ x, f.owned.streams[i]? = some x := ⟨_, List.getElem?_eq_getElem (by omega)⟩
    have be_4bd70 := (hbo.at ge_4bd70).1
    exact toHead (todo' := hd Try.f21 0) (E' := [(1, .pt 0 0), (3, .sl 5 (i + (1))), (4, .n (i + 1))]) (M' := [.bx 33 [.u f.owned.view.id.round, .z f.owned.view.id.server.node, .u f.owned.view.id.server.inc, .sl 1 ((procs f.owned.view.members).length), .sl 2 ((nums f.owned.view.starts).length), .sl 3 ((streamsO f.owned.streams).length), .sl 4 ((nums f.owned.handed).length)], .rw 24 2 (procs f.owned.view.members), .rw 22 1 (nums f.owned.view.starts), .rw 67 1 (streams f.owned.streams), .rw 22 1 (nums f.owned.handed), .rw 22 1 (nums ((f.owned.streams.take i).map countS) ++ [[.u (countS e_4bd70)]])]) tb_ok mixed_ok hK [(4, [(3, .z (((f.owned.streams.length : Nat) : Int))), (4, .b true)]), (5, [(1, .z (((i + 1 : Nat) : Int)))]), (6, [(4, .n (i)), (5, .ix 0 [.ro 2 (slots e_4bd70)]), (6, .con (.u (countS e_4bd70)))])] 2000 [0, 1, 2, 3, 4, 5] [1, 3, 4] r (by kernel_rfl) (an ((by simp) : (((streamsO f.owned.streams).length : Nat) : Int) = ((f.owned.streams.length : Nat) : Int)) (an h0 (an (rfI ((i : Nat) : Int)) (an ((by first | omega | (simp; omega)) : (i) < ((streamsO f.owned.streams).length)) (an ((by simp <;> omega) : ((streamsO f.owned.streams).length) ≤ (streams f.owned.streams).length) (an (streams_at ge_4bd70) (an (countOk e_4bd70 (by omega)) (an ((by simp <;> omega) : (i) = (nums ((f.owned.streams.take i).map countS)).length) (an ((by simp <;> omega) : (1) = ([[.u (countS e_4bd70)]] : List (List DV)).length) (an ((by first | omega | (simp; done) | (simp; omega)) : (2 * ((i) + (1)) + 192) * 8 ≤ 281474976710656) (an ((by first | omega | (simp; done) | (simp; omega)) : (i) + (1) < 4611686018427387904) (an ((by simp [OneR, AV.one, oneC]) : OneR ([[.u (countS e_4bd70)]])) (an ((wi (by omega)) : IntKind.i64.wrap ((((i : Nat) : Int) : Int) + 1) = ((i + 1 : Nat) : Int)) trivial))))))))))))) fun ac wd r => again0 (by omega) ac wd ⟨by omega, r.cast rfl (by rw [nums_next ge_4bd70])⟩
end Go.Proofs.Ytoijfmfkkmbabaa
namespace Go.Proofs.Ytoijfmfkkmbabaa
open Go.RowKit
set_option maxRecDepth 100000 in
theorem messageOk (f : Flow) (i : Nat) (x : Slot) (hi : i < f.view.members.length) (hx : x.body.length < 2147483648) {p : Proc} (gp : f.view.members[i]? = some p) : Con Try.prog 42 [.ag [.u f.view.id.round, .z f.view.id.server.node, .u f.view.id.server.inc, .d (.ro 2 (procs f.view.members)), .d (.ro 1 (nums f.view.starts)), .d (.ro 1 (streams f.streams)), .d (.ro 1 (nums f.handed))], .n i, .ag [.u x.n, .d (.ro 1 (bytesR x.body))]] (.ag [.v (.int .i64 p.node), .v (.int .u64 ((p.inc : Nat) : Int)), .v (.int .u64 ((x.n : Nat) : Int)), .em 5 1 (bytesR x.body)]) := by
  refine Con.intro (by kernel_rfl) rfl rfl 20 rfl rfl fun w0 K ac hK r => ?_
  rw [show (.ag [.v (.int .i64 p.node), .v (.int .u64 ((p.inc : Nat) : Int)), .v (.int .u64 ((x.n : Nat) : Int)), .em 5 1 (bytesR x.body)] : DV) = .ag [.z p.node, .u p.inc, .u x.n, .em 5 1 (bytesR x.body)] from rfl]
  exact toRet tb_ok mixed_ok hK rfl [(1, [(5, .ix (i) [.z p.node, .u p.inc]), (11, .con (.em 5 1 (bytesR x.body)))])] 2000 r (by kernel_rfl) (an (rfI ((i : Nat) : Int)) (an (procs_at gp) (an (cloneBytes x.body (by omega)) (an (rfN ((bytesR x.body).length)) trivial))))
set_option maxRecDepth 100000 in
theorem open0 (v : View) (hb : v.bounded) : Con Try.prog 14 [.ag [.u v.id.round, .z v.id.server.node, .u v.id.server.inc, .d (.ro 2 (procs v.members)), .d (.ro 1 (nums v.starts))]] (.ag (v.own ++ [.em 67 1 (List.replicate v.members.length [.v (.slice none 0 0)]), .em 22 1 (List.replicate v.members.length [.v (.int .u64 0)])])) := by
  obtain ⟨hb1, hb2⟩ := id hb
  refine Con.intro (by kernel_rfl) rfl rfl 21 rfl rfl fun w0 K ac hK r => ?_
  have v4_0 := (cloneProcs v.members (by omega))
  have v4_1 := (cloneNums v.starts (by omega))
  have v4_2 := ((by simp) : (((procs v.members).length : Nat) : Int) = ((v.members.length : Nat) : Int))
  have v4_3 := (rfI ((v.members.length : Nat) : Int))
  have v4_4 := ((by first | omega | (simp; omega)) : 24 * (v.members.length) ≤ 281474976710656)
  have v4_5 := ((by first | omega | (simp; omega)) : (v.members.length) < 4611686018427387904)
  have v4_6 := ((by first | omega | (simp; omega)) : 8 * (v.members.length) ≤ 281474976710656)
  refine toDraw (todo' := aft Try.f14 4) (E' := [(2, .pt 1 0)]) (M' := [.bx 30 [.u v.id.round, .z v.id.server.node, .u v.id.server.inc, .sl 2 ((procs v.members).length), .sl 3 ((nums v.starts).length)], .bx 33 [.u v.id.round, .z v.id.server.node, .u v.id.server.inc, .sl 2 ((procs v.members).length), .sl 3 ((nums v.starts).length), .sl 4 (v.members.length), .sl 5 (v.members.length)], .rw 24 2 (procs v.members), .rw 22 1 (nums v.starts), .rw 67 1 (List.replicate (v.members.length) [.v (.slice none 0 0)]), .rw 22 1 (List.replicate (v.members.length) [.v (.int .u64 0)])]) tb_ok mixed_ok hK [(1, [(2, .con (.em 24 2 (procs v.members)))]), (2, [(2, .con (.em 22 1 (nums v.starts)))]), (3, [(2, .z (((v.members.length : Nat) : Int)))]), (4, [(2, .n (v.members.length)), (4, .n (v.members.length))])] 9 2 [] [[0, 1, 2, 3, 4, 5], [0, 1, 2, 3, 5, 4]] [2] r (by kernel_rfl) (an (an v4_0 (an v4_1 (an v4_2 (an v4_3 (an v4_3 (an v4_4 (an v4_5 (an v4_3 (an v4_3 (an v4_6 (an v4_5 trivial))))))))))) (an (an v4_0 (an v4_1 (an v4_2 (an v4_3 (an v4_3 (an v4_6 (an v4_5 (an v4_3 (an v4_3 (an v4_4 (an v4_5 trivial))))))))))) trivial)) fun ac wd r => ?_
  rw [show (.ag (v.own ++ [.em 67 1 (List.replicate v.members.length [.v (.slice none 0 0)]), .em 22 1 (List.replicate v.members.length [.v (.int .u64 0)])]) : DV) = .ag [.u v.id.round, .z v.id.server.node, .u v.id.server.inc, .em 24 2 (procs v.members), .em 22 1 (nums v.starts), .em 67 1 (List.replicate (v.members.length) [.v (.slice none 0 0)]), .em 22 1 (List.replicate (v.members.length) [.v (.int .u64 0)])] from rfl]
  exact toRet tb_ok mixed_ok hK rfl [] 2000 r (by kernel_rfl) (an (rfN ((procs v.members).length)) (an (rfN ((nums v.starts).length)) (an ((by simp) : (v.members.length) = (List.replicate (v.members.length) [.v (.slice none 0 0)] : List (List DV)).length) (an ((by simp) : (v.members.length) = (List.replicate (v.members.length) [.v (.int .u64 0)] : List (List DV)).length) trivial))))
theorem openOk (v : View) (hb : v.bounded) : Con Try.prog 14 [.ag [.u v.id.round, .z v.id.server.node, .u v.id.server.inc, .d (.ro 2 (procs v.members)), .d (.ro 1 (nums v.starts))]] (.ag (Flow.fresh v).own) := by
  refine (open0 v hb).le ?_
  unfold Flow.own Flow.fresh View.own streamsO nums
  simp only [List.map_replicate]
  exact LeL.ag (.cons (.refl _) (.cons (.refl _) (.cons (.refl _) (.cons (.refl _) (.cons (.refl _) (.cons (.rep _ (.cons (.nilEm 69 2) .nil)) (.cons (.refl _) .nil)))))))
def View.pair : View := ⟨⟨3, ⟨1, 1⟩⟩, [⟨5, 2⟩, ⟨6, 1⟩], [4, 9]⟩
set_option maxRecDepth 100000 in
theorem pairOk  : Con Try.prog 24 [] (.ag View.pair.own) := by
  refine Con.intro (by kernel_rfl) rfl rfl 8 rfl rfl fun w0 K ac hK r => ?_
  rw [show (.ag View.pair.own : DV) = .ag [.v (.int .u64 3), .z 1, .v (.int .u64 1), .em 24 2 ([[.z 5, .v (.int .u64 2)], [.z 6, .v (.int .u64 1)]]), .em 22 1 ([[.v (.int .u64 4)], [.v (.int .u64 9)]])] from rfl]
  exact toRet tb_ok mixed_ok hK rfl [] 2000 r (by kernel_rfl) (an ((by simp) : (2) = ([[.z 5, .v (.int .u64 2)], [.z 6, .v (.int .u64 1)]] : List (List DV)).length) (an ((by simp) : (2) = ([[.v (.int .u64 4)], [.v (.int .u64 9)]] : List (List DV)).length) trivial))
end Go.Proofs.Ytoijfmfkkmbabaa
namespace Go.Proofs.Ytoijfmfkkmbabaa
open Go.RowKit
theorem idx_mem {α : Type} [DecidableEq α] {p : α} : ∀ {l : List α} {k : Nat}, p ∈ l → 0 ≤ idx l p k
  | [], _, h => by cases h
  | x :: r, k, h => by
    unfold idx
    split
    · omega
    · rename_i hx
      rcases List.mem_cons.1 h with rfl | h
      · exact absurd rfl hx
      · exact idx_mem h
theorem findS_of {l : List Slot} {i : Nat} {s : Slot} (h : l[i]? = some s) : 0 ≤ findS l s.n := idx_mem (List.mem_map.2 ⟨s, List.mem_of_getElem? h, rfl⟩)
theorem exists_gap (l : List Slot) : ∃ k, (∀ j, j < k → 0 ≤ findS l (j + 1)) ∧ ¬ 0 ≤ findS l (k + 1) := by
  apply Classical.byContradiction; intro hn
  have key : ∀ m, ∀ j, j < m → 0 ≤ findS l (j + 1) := by
    intro m
    induction m with
    | zero => intro j hj; omega
    | succ m ih =>
      intro j hj
      rcases Nat.lt_succ_iff_lt_or_eq.1 hj with h | rfl
      · exact ih j h
      · exact Classical.byContradiction fun hc => hn ⟨j, ih, hc⟩
  have := upto_le (key (l.length + 1)); omega
theorem Good.from {l : List Slot} (h : Good l l.length) : ∀ (p : Nat) x, l[p]? = some x → p + 1 ≤ x.n := by
  intro p
  induction p with
  | zero => intro x hx; exact (h 0 x (List.getElem?_eq_some_iff.1 hx).1 hx).1
  | succ p ih =>
    intro x hx
    have hp := (List.getElem?_eq_some_iff.1 hx).1
    have h1 := ih _ (List.getElem?_eq_getElem (by omega : p < l.length))
    have h2 := (h (p + 1) x hp hx).2.2.2 _ (by omega) (List.getElem?_eq_getElem (by omega : p < l.length))
    omega
theorem good_at {l : List Slot} (h : Good l l.length) {k : Nat} (hk : ∀ j, j < k → 0 ≤ findS l (j + 1)) : ∀ (j : Nat) x, j < k → l[j]? = some x → x.n = j + 1 := by
  intro j
  induction j using Nat.strongRecOn with
  | ind j ih =>
    intro x hj hx
    have hm := findS_mem (hk j hj)
    obtain ⟨s, hs, hn⟩ := List.mem_map.1 hm
    obtain ⟨p, hp, rfl⟩ := List.getElem_of_mem hs
    have e := List.getElem?_eq_getElem hp
    have h1 := h.from p _ e
    rcases Nat.lt_trichotomy p j with h2 | h2 | h2
    · have := ih p h2 _ (by omega) e; omega
    · subst h2; rw [hx, Option.some.injEq] at e; rw [e]; exact hn
    · omega
theorem good_gap {l : List Slot} (h : Good l l.length) : gapN l = countS l := by
  obtain ⟨k, h1, h2⟩ := exists_gap l
  rw [countS_eq h1 h2]
  have h3 := good_at h h1
  have hle := upto_le h1
  unfold gapN
  rcases Nat.lt_or_ge k l.length with hk | hk
  · have e := List.getElem?_eq_getElem hk
    have hne : l[k].n ≠ k + 1 := fun he => h2 (by rw [← he]; exact findS_of e)
    rw [gapF_at e (by omega) fun j t hj ht => by have := h3 j t hj ht; omega]
    simp
  · have : k = l.length := by omega
    subst this
    rw [gapF_none fun j t hj ht => by have := h3 j t hj ht; omega]
    simp
def lastN (l : List Slot) (k : Nat) : Nat := if k = 0 then 0 else ((l[k - 1]?).map Slot.n).getD 0
theorem lastN_next {l : List Slot} {k : Nat} {x : Slot} (h : l[k]? = some x) : lastN l (k + 1) = x.n := by unfold lastN; rw [if_neg (by omega)]; simp [h]
theorem lastN_lt {l : List Slot} {k n : Nat} (h : lastN l k < n) : ∀ y : Slot, 0 < k → l[k - 1]? = some y → y.n < n := by
  intro y hk hy
  unfold lastN at h; rw [if_neg (by omega), hy] at h; simpa using h
theorem lastN_le {l : List Slot} {k n : Nat} (hn : 0 < n) (hk : k ≤ l.length) (h : n ≤ lastN l k) : ∃ y : Slot, 0 < k ∧ l[k - 1]? = some y ∧ n ≤ y.n := by
  unfold lastN at h
  rcases Nat.eq_zero_or_pos k with h0 | h0
  · rw [if_pos h0] at h; omega
  · rw [if_neg (by omega), List.getElem?_eq_getElem (by omega : k - 1 < l.length)] at h
    exact ⟨_, h0, List.getElem?_eq_getElem (by omega), by simpa using h⟩
theorem Flow.no_last {f : Flow} {i k : Nat} {l : List Slot} {x : Slot} (hl : f.streams[i]? = some l) (hx : l[k]? = some x) (h : x.n ≤ lastN l k) : f.may = false := by
  rcases Nat.eq_zero_or_pos x.n with h0 | h0
  · exact Flow.no_slot hl hx (.inl (by omega))
  · exact Flow.no_slot hl hx (.inr (.inr (.inr (lastN_le h0 (Nat.le_of_lt (List.getElem?_eq_some_iff.1 hx).1) h))))
theorem Flow.no_gap {f : Flow} {i h k : Nat} {l : List Slot} (hl : f.streams[i]? = some l) (hh : f.handed[i]? = some h) (hg : Good l k) (hk : l.length ≤ k) (hc : gapN l < h) : f.may = false := by
  refine Flow.no_hand hl hh ?_
  rw [← good_gap (l := l) fun j x hj hx => hg j x (by omega) hx]; exact hc
set_option maxRecDepth 100000 in
theorem flowMay (hV : ∀ v : View, v.bounded → Con Try.prog 36 [.ag [.u v.id.round, .z v.id.server.node, .u v.id.server.inc, .d (.ro 2 (procs v.members)), .d (.ro 1 (nums v.starts))]] (DV.v (.bool v.may))) (f : Flow) (hb : f.bounded) : Con Try.prog 12 [.ag [.u f.view.id.round, .z f.view.id.server.node, .u f.view.id.server.inc, .d (.ro 2 (procs f.view.members)), .d (.ro 1 (nums f.view.starts)), .d (.ro 1 (streams f.streams)), .d (.ro 1 (nums f.handed))]] (DV.v (.bool f.may)) := by
  obtain ⟨hbv, hb1, hb2, hb3⟩ := id hb
  have hbw := hbv
  obtain ⟨hbw1, hbw2⟩ := hbw
  refine Con.intro (by kernel_rfl) rfl rfl 73 rfl rfl fun w0 K ac hK r => ?_
  cases h0 : (f.view.may) with
  | false =>
    rw [show (DV.v (.bool f.may) : DV) = .v (.bool false) from (bv (by first | exact Flow.no_view (by assumption) | exact Flow.no_len (by omega) | exact Flow.yes (by assumption) (by omega) (by omega) (by omega) hv0 | exact Flow.no_last ge_f_streams_i ge_c8f2d (by omega) | exact Flow.no_slot ge_f_streams_i ge_c8f2d (by omega) | exact Flow.no_gap ge_f_streams_i ge_f_handed_i hv1 (by omega) (by omega)))]
    exact toRet tb_ok mixed_ok hK rfl [(1, [(3, .z (((f.view.members.length : Nat) : Int)))]), (2, [(2, .con (.v (.bool false)))])] 2000 r (by kernel_rfl) (an ((by simp [bytesR]) : (((procs f.view.members).length : Nat) : Int) = ((f.view.members.length : Nat) : Int)) (an ((by have k := hV f.view (by assumption); rw [h0] at k; exact k) : Con Try.prog 36 [.ag [.u f.view.id.round, .z f.view.id.server.node, .u f.view.id.server.inc, .d (.ro 2 (procs f.view.members)), .d (.ro 1 (nums f.view.starts))]] (.v (.bool false))) trivial))
  | true =>
    cases h1 : ((((f.streams.length : Nat) : Int) : Int) != ((f.view.members.length : Nat) : Int)) with
    | false =>
      have qh1 := eq_of_bne h1
      cases h2 : ((((f.handed.length : Nat) : Int) : Int) != ((f.view.members.length : Nat) : Int)) with
      | false =>
        have qh2 := eq_of_bne h2
        refine toHead (todo' := hd Try.f12 0) (E' := [(1, .pt 0 0), (3, .n f.view.members.length), (32, .d (.ro 1 (streams f.streams))), (33, .n f.streams.length), (34, .n 0)]) (M' := [.bx 33 [.u f.view.id.round, .z f.view.id.server.node, .u f.view.id.server.inc, .d (.ro 2 (procs f.view.members)), .d (.ro 1 (nums f.view.starts)), .d (.ro 1 (streams f.streams)), .d (.ro 1 (nums f.handed))]]) tb_ok mixed_ok hK [(1, [(3, .z (((f.view.members.length : Nat) : Int)))]), (2, [(2, .con (.v (.bool true))), (7, .z (((f.streams.length : Nat) : Int))), (9, .b false), (14, .z (((f.handed.length : Nat) : Int))), (16, .b false)]), (4, [(2, .z (((f.streams.length : Nat) : Int)))])] 2000 [0] [1, 3, 32, 33, 34] r (by kernel_rfl) (an ((by simp [bytesR]) : (((procs f.view.members).length : Nat) : Int) = ((f.view.members.length : Nat) : Int)) (an ((by have k := hV f.view (by assumption); rw [h0] at k; exact k) : Con Try.prog 36 [.ag [.u f.view.id.round, .z f.view.id.server.node, .u f.view.id.server.inc, .d (.ro 2 (procs f.view.members)), .d (.ro 1 (nums f.view.starts))]] (.v (.bool true))) (an ((by simp [bytesR]) : (((streams f.streams).length : Nat) : Int) = ((f.streams.length : Nat) : Int)) (an h1 (an ((by simp [bytesR]) : (((nums f.handed).length : Nat) : Int) = ((f.handed.length : Nat) : Int)) (an h2 (an ((by simp [bytesR]) : (((streams f.streams).length : Nat) : Int) = ((f.streams.length : Nat) : Int)) trivial))))))) fun ac wd r => ?_
        refine Goes.rounds (Φ := fun (i : Nat) ac wd => (i ≤ f.streams.length ∧ ∀ (j : Nat) l h, j < i → f.streams[j]? = some l → f.handed[j]? = some h → Good l l.length ∧ h ≤ countS l) ∧ RE' [] w0 K 73 [(1, .pt 0 0), (3, .n f.view.members.length), (32, .d (.ro 1 (streams f.streams))), (33, .n f.streams.length), (34, .n i)] [.bx 33 [.u f.view.id.round, .z f.view.id.server.node, .u f.view.id.server.inc, .d (.ro 2 (procs f.view.members)), .d (.ro 1 (nums f.view.starts)), .d (.ro 1 (streams f.streams)), .d (.ro 1 (nums f.handed))]] ac wd) (f.streams.length) ?_ (Nat.zero_le _) ⟨⟨by omega, by omega⟩, r⟩
        clear r
        rintro i hi0 again0 ac wd ⟨hv0, r⟩
        obtain ⟨hi1, hv0⟩ := hv0
        cases h3 : (decide ((((i : Nat) : Int) : Int) < ((f.streams.length : Nat) : Int))) with
        | false =>
          have qh3 := of_decide_eq_false h3
          rw [show (DV.v (.bool f.may) : DV) = .v (.bool true) from (bv (by first | exact Flow.no_view (by assumption) | exact Flow.no_len (by omega) | exact Flow.yes (by assumption) (by omega) (by omega) (by omega) hv0 | exact Flow.no_last ge_f_streams_i ge_c8f2d (by omega) | exact Flow.no_slot ge_f_streams_i ge_c8f2d (by omega) | exact Flow.no_gap ge_f_streams_i ge_f_handed_i hv1 (by omega) (by omega)))]
          exact toRet tb_ok mixed_ok hK rfl [(5, [(0, .b false)])] 2000 r (by kernel_rfl) (an h3 trivial)
        | true =>
          have qh3 := of_decide_eq_true h3
          obtain ⟨e_f_streams_i, ge_f_streams_i⟩ : ∃ x, f.streams[i]? = some x := ⟨_, List.getElem?_eq_getElem (by omega)⟩
          have be_f_streams_i := (hb.at ge_f_streams_i).1
          have ce_f_streams_i := hb.at ge_f_streams_i
          obtain ⟨e_f_handed_i, ge_f_handed_i⟩ : ∃ x, f.handed[i]? = some x := ⟨_, List.getElem?_eq_getElem (by omega)⟩
          refine toHead (todo' := hd Try.f12 1) (E' := [(1, .pt 0 0), (3, .n f.view.members.length), (32, .d (.ro 1 (streams f.streams))), (33, .n f.streams.length), (34, .n i), (4, .n i), (5, .pt 1 0), (6, .u (lastN e_f_streams_i 0)), (40, .d (.ro 2 (slots e_f_streams_i))), (41, .n e_f_streams_i.length), (42, .n 0)]) (M' := [.bx 33 [.u f.view.id.round, .z f.view.id.server.node, .u f.view.id.server.inc, .d (.ro 2 (procs f.view.members)), .d (.ro 1 (nums f.view.starts)), .d (.ro 1 (streams f.streams)), .d (.ro 1 (nums f.handed))], .bx 67 [.d (.ro 2 (slots e_f_streams_i))]]) tb_ok mixed_ok hK [(5, [(0, .b true)]), (6, [(1, .ix (i) [.ro 2 (slots e_f_streams_i)])]), (8, [(2, .z (((e_f_streams_i.length : Nat) : Int)))])] 2000 [0, 1] [1, 3, 32, 33, 34, 4, 5, 6, 40, 41, 42] r (by kernel_rfl) (an h3 (an (rfI ((i : Nat) : Int)) (an (streams_at ge_f_streams_i) (an ((by simp [bytesR]) : (((slots e_f_streams_i).length : Nat) : Int) = ((e_f_streams_i.length : Nat) : Int)) trivial)))) fun ac wd r => ?_
          refine Goes.rounds (Φ := fun (k : Nat) ac wd => (k ≤ e_f_streams_i.length ∧ Good e_f_streams_i k) ∧ RE' [] w0 K 73 [(1, .pt 0 0), (3, .n f.view.members.length), (32, .d (.ro 1 (streams f.streams))), (33, .n f.streams.length), (34, .n i), (4, .n i), (5, .pt 1 0), (6, .u (lastN e_f_streams_i k)), (40, .d (.ro 2 (slots e_f_streams_i))), (41, .n e_f_streams_i.length), (42, .n k)] [.bx 33 [.u f.view.id.round, .z f.view.id.server.node, .u f.view.id.server.inc, .d (.ro 2 (procs f.view.members)), .d (.ro 1 (nums f.view.starts)), .d (.ro 1 (streams f.streams)), .d (.ro 1 (nums f.handed))], .bx 67 [.d (.ro 2 (slots e_f_streams_i))]] ac wd) (e_f_streams_i.length) ?_ (Nat.zero_le _) ⟨⟨by omega, fun k x hk => by omega⟩, r⟩
          clear r
          rintro k hi1 again1 ac wd ⟨hv1, r⟩
          obtain ⟨hk1, hv1⟩ := hv1
          cases h4 : (decide ((((k : Nat) : Int) : Int) < ((e_f_streams_i.length : Nat) : Int))) with
          | false =>
            have qh4 := of_decide_eq_false h4
            cases h5 : (decide ((((gapN e_f_streams_i : Nat) : Int) : Int) < ((e_f_handed_i : Nat) : Int))) with
            | false =>
              have qh5 := of_decide_eq_false h5
              exact toHead (todo' := hd Try.f12 0) tb_ok mixed_ok hK [(9, [(0, .b false)]), (15, [(3, .ix (i) [.u e_f_handed_i]), (6, .con (.u (gapN e_f_streams_i))), (7, .b false)]), (17, [(0, .z (((i + 1 : Nat) : Int)))])] 2000 [0] [1, 3, 32, 33, 34] r (by kernel_rfl) (an h4 (an (rfI ((i : Nat) : Int)) (an (nums_at ge_f_handed_i) (an (streamCount e_f_streams_i (by omega)) (an h5 (an ((wi (by omega)) : IntKind.i64.wrap ((((i : Nat) : Int) : Int) + 1) = ((i + 1 : Nat) : Int)) trivial)))))) fun ac wd r => again0 (by omega) ac wd ⟨⟨by omega, fun j l h hj hl hh => by rcases Nat.lt_succ_iff_lt_or_eq.1 hj with h' | rfl; exact hv0 j l h h' hl hh; rw [ge_f_streams_i] at hl; rw [ge_f_handed_i] at hh; cases hl; cases hh; have hG : Good e_f_streams_i e_f_streams_i.length := (by rw [show e_f_streams_i.length = k by omega]; exact hv1); exact ⟨hG, by rw [← good_gap hG]; omega⟩⟩, r⟩
            | true =>
              have qh5 := of_decide_eq_true h5
              rw [show (DV.v (.bool f.may) : DV) = .v (.bool false) from (bv (by first | exact Flow.no_view (by assumption) | exact Flow.no_len (by omega) | exact Flow.yes (by assumption) (by omega) (by omega) (by omega) hv0 | exact Flow.no_last ge_f_streams_i ge_c8f2d (by omega) | exact Flow.no_slot ge_f_streams_i ge_c8f2d (by omega) | exact Flow.no_gap ge_f_streams_i ge_f_handed_i hv1 (by omega) (by omega)))]
              exact toRet tb_ok mixed_ok hK rfl [(9, [(0, .b false)]), (15, [(3, .ix (i) [.u e_f_handed_i]), (6, .con (.u (gapN e_f_streams_i))), (7, .b true)])] 2000 r (by kernel_rfl) (an h4 (an (rfI ((i : Nat) : Int)) (an (nums_at ge_f_handed_i) (an (streamCount e_f_streams_i (by omega)) (an h5 trivial)))))
          | true =>
            have qh4 := of_decide_eq_true h4
            obtain ⟨e_c8f2d, ge_c8f2d⟩ : ∃ x, e_f_streams_i[k]? = some x := ⟨_, List.getElem?_eq_getElem (by omega)⟩
            have be_c8f2d := ce_f_streams_i.at ge_c8f2d
            cases h6 : (decide ((((e_c8f2d.n : Nat) : Int) : Int) ≤ ((lastN e_f_streams_i k : Nat) : Int))) with
            | false =>
              have qh6 := of_decide_eq_false h6
              cases h7 : (decide ((16 : Int) < ((e_c8f2d.n : Nat) : Int))) with
              | false =>
                have qh7 := of_decide_eq_false h7
                cases h8 : (decide ((64 : Int) < ((e_c8f2d.body.length : Nat) : Int))) with
                | false =>
                  have qh8 := of_decide_eq_false h8
                  exact toHead (todo' := hd Try.f12 1) (E' := [(1, .pt 0 0), (3, .n f.view.members.length), (32, .d (.ro 1 (streams f.streams))), (33, .n f.streams.length), (34, .n i), (4, .n i), (5, .pt 1 0), (6, .u e_c8f2d.n), (40, .d (.ro 2 (slots e_f_streams_i))), (41, .n e_f_streams_i.length), (42, .n (k + 1))]) (M' := [.bx 33 [.u f.view.id.round, .z f.view.id.server.node, .u f.view.id.server.inc, .d (.ro 2 (procs f.view.members)), .d (.ro 1 (nums f.view.starts)), .d (.ro 1 (streams f.streams)), .d (.ro 1 (nums f.handed))], .bx 67 [.d (.ro 2 (slots e_f_streams_i))]]) tb_ok mixed_ok hK [(9, [(0, .b true)]), (10, [(0, .ix (k) [.u e_c8f2d.n, .ro 1 (bytesR e_c8f2d.body)])]), (11, [(3, .b false), (7, .b false), (12, .z (((e_c8f2d.body.length : Nat) : Int))), (13, .b false)]), (14, [(0, .z (((k + 1 : Nat) : Int)))])] 2000 [0, 1] [1, 3, 32, 33, 34, 4, 5, 6, 40, 41, 42] r (by kernel_rfl) (an h4 (an (rfI ((k : Nat) : Int)) (an (slots_at ge_c8f2d) (an h6 (an h7 (an ((by simp [bytesR]) : (((bytesR e_c8f2d.body).length : Nat) : Int) = ((e_c8f2d.body.length : Nat) : Int)) (an h8 (an ((wi (by omega)) : IntKind.i64.wrap ((((k : Nat) : Int) : Int) + 1) = ((k + 1 : Nat) : Int)) trivial)))))))) fun ac wd r => again1 (by omega) ac wd ⟨⟨by omega, hv1.next ge_c8f2d (by omega) (by omega) (by omega) (lastN_lt (by omega))⟩, r.cast (by rw [lastN_next ge_c8f2d]) rfl⟩
                | true =>
                  have qh8 := of_decide_eq_true h8
                  rw [show (DV.v (.bool f.may) : DV) = .v (.bool false) from (bv (by first | exact Flow.no_view (by assumption) | exact Flow.no_len (by omega) | exact Flow.yes (by assumption) (by omega) (by omega) (by omega) hv0 | exact Flow.no_last ge_f_streams_i ge_c8f2d (by omega) | exact Flow.no_slot ge_f_streams_i ge_c8f2d (by omega) | exact Flow.no_gap ge_f_streams_i ge_f_handed_i hv1 (by omega) (by omega)))]
                  exact toRet tb_ok mixed_ok hK rfl [(9, [(0, .b true)]), (10, [(0, .ix (k) [.u e_c8f2d.n, .ro 1 (bytesR e_c8f2d.body)])]), (11, [(3, .b false), (7, .b false), (12, .z (((e_c8f2d.body.length : Nat) : Int))), (13, .b true)])] 2000 r (by kernel_rfl) (an h4 (an (rfI ((k : Nat) : Int)) (an (slots_at ge_c8f2d) (an h6 (an h7 (an ((by simp [bytesR]) : (((bytesR e_c8f2d.body).length : Nat) : Int) = ((e_c8f2d.body.length : Nat) : Int)) (an h8 trivial)))))))
              | true =>
                have qh7 := of_decide_eq_true h7
                rw [show (DV.v (.bool f.may) : DV) = .v (.bool false) from (bv (by first | exact Flow.no_view (by assumption) | exact Flow.no_len (by omega) | exact Flow.yes (by assumption) (by omega) (by omega) (by omega) hv0 | exact Flow.no_last ge_f_streams_i ge_c8f2d (by omega) | exact Flow.no_slot ge_f_streams_i ge_c8f2d (by omega) | exact Flow.no_gap ge_f_streams_i ge_f_handed_i hv1 (by omega) (by omega)))]
                exact toRet tb_ok mixed_ok hK rfl [(9, [(0, .b true)]), (10, [(0, .ix (k) [.u e_c8f2d.n, .ro 1 (bytesR e_c8f2d.body)])]), (11, [(3, .b false), (7, .b true)])] 2000 r (by kernel_rfl) (an h4 (an (rfI ((k : Nat) : Int)) (an (slots_at ge_c8f2d) (an h6 (an h7 trivial)))))
            | true =>
              have qh6 := of_decide_eq_true h6
              rw [show (DV.v (.bool f.may) : DV) = .v (.bool false) from (bv (by first | exact Flow.no_view (by assumption) | exact Flow.no_len (by omega) | exact Flow.yes (by assumption) (by omega) (by omega) (by omega) hv0 | exact Flow.no_last ge_f_streams_i ge_c8f2d (by omega) | exact Flow.no_slot ge_f_streams_i ge_c8f2d (by omega) | exact Flow.no_gap ge_f_streams_i ge_f_handed_i hv1 (by omega) (by omega)))]
              exact toRet tb_ok mixed_ok hK rfl [(9, [(0, .b true)]), (10, [(0, .ix (k) [.u e_c8f2d.n, .ro 1 (bytesR e_c8f2d.body)])]), (11, [(3, .b true)])] 2000 r (by kernel_rfl) (an h4 (an (rfI ((k : Nat) : Int)) (an (slots_at ge_c8f2d) (an h6 trivial))))
      | true =>
        have qh2 : ¬ _ = _ := bne_iff_ne.1 h2
        rw [show (DV.v (.bool f.may) : DV) = .v (.bool false) from (bv (by first | exact Flow.no_view (by assumption) | exact Flow.no_len (by omega) | exact Flow.yes (by assumption) (by omega) (by omega) (by omega) hv0 | exact Flow.no_last ge_f_streams_i ge_c8f2d (by omega) | exact Flow.no_slot ge_f_streams_i ge_c8f2d (by omega) | exact Flow.no_gap ge_f_streams_i ge_f_handed_i hv1 (by omega) (by omega)))]
        exact toRet tb_ok mixed_ok hK rfl [(1, [(3, .z (((f.view.members.length : Nat) : Int)))]), (2, [(2, .con (.v (.bool true))), (7, .z (((f.streams.length : Nat) : Int))), (9, .b false), (14, .z (((f.handed.length : Nat) : Int))), (16, .b true)])] 2000 r (by kernel_rfl) (an ((by simp [bytesR]) : (((procs f.view.members).length : Nat) : Int) = ((f.view.members.length : Nat) : Int)) (an ((by have k := hV f.view (by assumption); rw [h0] at k; exact k) : Con Try.prog 36 [.ag [.u f.view.id.round, .z f.view.id.server.node, .u f.view.id.server.inc, .d (.ro 2 (procs f.view.members)), .d (.ro 1 (nums f.view.starts))]] (.v (.bool true))) (an ((by simp [bytesR]) : (((streams f.streams).length : Nat) : Int) = ((f.streams.length : Nat) : Int)) (an h1 (an ((by simp [bytesR]) : (((nums f.handed).length : Nat) : Int) = ((f.handed.length : Nat) : Int)) (an h2 trivial))))))
    | true =>
      have qh1 : ¬ _ = _ := bne_iff_ne.1 h1
      rw [show (DV.v (.bool f.may) : DV) = .v (.bool false) from (bv (by first | exact Flow.no_view (by assumption) | exact Flow.no_len (by omega) | exact Flow.yes (by assumption) (by omega) (by omega) (by omega) hv0 | exact Flow.no_last ge_f_streams_i ge_c8f2d (by omega) | exact Flow.no_slot ge_f_streams_i ge_c8f2d (by omega) | exact Flow.no_gap ge_f_streams_i ge_f_handed_i hv1 (by omega) (by omega)))]
      exact toRet tb_ok mixed_ok hK rfl [(1, [(3, .z (((f.view.members.length : Nat) : Int)))]), (2, [(2, .con (.v (.bool true))), (7, .z (((f.streams.length : Nat) : Int))), (9, .b true)])] 2000 r (by kernel_rfl) (an ((by simp [bytesR]) : (((procs f.view.members).length : Nat) : Int) = ((f.view.members.length : Nat) : Int)) (an ((by have k := hV f.view (by assumption); rw [h0] at k; exact k) : Con Try.prog 36 [.ag [.u f.view.id.round, .z f.view.id.server.node, .u f.view.id.server.inc, .d (.ro 2 (procs f.view.members)), .d (.ro 1 (nums f.view.starts))]] (.v (.bool true))) (an ((by simp [bytesR]) : (((streams f.streams).length : Nat) : Int) = ((f.streams.length : Nat) : Int)) (an h1 trivial))))
end Go.Proofs.Ytoijfmfkkmbabaa
namespace Go.Proofs.Ytoijfmfkkmbabaa
open Go.RowKit
def msgAt (p : Proc) (l : List Slot) (n : Nat) : Msg := ⟨p, n, ((l[(findS l n).toNat]?).map Slot.body).getD []⟩
def stepL (hv : Nat) (p : Proc) (l : List Slot) (out : List Msg) (j : Nat) : List Msg := if hv < j + 1 ∧ out.length < 8 then out ++ [msgAt p l (j + 1)] else out
def rowL (hv : Nat) (p : Proc) (l : List Slot) (k : Nat) (out : List Msg) : List Msg := (List.range k).foldl (stepL hv p l) out
def lackTo (f : Flow) (h : List Nat) (i : Nat) : List Msg := (List.range i).foldl (fun o i => match f.streams[i]?, f.view.members[i]? with | some l, some p => rowL (nthN h i) p l (countS l) o | _, _ => o) []
theorem rowL_next (hv : Nat) (p : Proc) (l : List Slot) (k : Nat) (out : List Msg) : rowL hv p l (k + 1) out = stepL hv p l (rowL hv p l k out) k := by unfold rowL; rw [List.range_succ, List.foldl_append]; rfl
theorem lackTo_next {f : Flow} {h : List Nat} {i : Nat} {l : List Slot} {p : Proc} (hl : f.streams[i]? = some l) (hp : f.view.members[i]? = some p) : lackTo f h (i + 1) = rowL (nthN h i) p l (countS l) (lackTo f h i) := by
  unfold lackTo; rw [List.range_succ, List.foldl_append]; simp [hl, hp]
theorem rowL_no {hv : Nat} {p : Proc} {l : List Slot} {k : Nat} {out : List Msg} (h : ¬ (hv < k + 1 ∧ (rowL hv p l k out).length < 8)) : rowL hv p l (k + 1) out = rowL hv p l k out := by rw [rowL_next, stepL, if_neg h]
theorem rowL_yes {hv : Nat} {p : Proc} {l : List Slot} {k : Nat} {out : List Msg} {s : Slot} (hs : l[(findS l (k + 1)).toNat]? = some s) (h : hv < k + 1) (h2 : (rowL hv p l k out).length < 8) : rowL hv p l (k + 1) out = rowL hv p l k out ++ [⟨p, k + 1, s.body⟩] := by rw [rowL_next, stepL, if_pos ⟨h, h2⟩, msgAt, hs]; rfl
theorem msgs_app (l : List Msg) (m : Msg) : msgs (l ++ [m]) = msgs l ++ [[.v (.int .i64 m.src.node), .v (.int .u64 (m.src.inc : Int)), .v (.int .u64 (m.n : Int)), .ro 1 (bytesR m.body)]] := by unfold msgs; rw [List.map_append]; rfl
theorem idx_some {α : Type} [DecidableEq α] {p : α} : ∀ {l : List α} {k : Nat}, 0 ≤ idx l p k → ∃ i, idx l p k = ((k + i : Nat) : Int) ∧ l[i]? = some p
  | [], k, h => by simp [idx] at h
  | x :: r, k, h => by
    unfold idx at h ⊢
    split
    · rename_i hx; exact ⟨0, by simp, by simp [hx]⟩
    · rename_i hx
      rw [if_neg hx] at h
      obtain ⟨i, h1, h2⟩ := idx_some h
      exact ⟨i + 1, by rw [h1]; congr 1; omega, by simpa using h2⟩
theorem findS_get {l : List Slot} {n : Nat} (h : 0 ≤ findS l n) : ∃ s : Slot, l[(findS l n).toNat]? = some s := by
  obtain ⟨i, h1, h2⟩ := idx_some h
  rw [List.getElem?_map, Option.map_eq_some_iff] at h2
  obtain ⟨s, h3, -⟩ := h2
  exact ⟨s, by unfold findS; rw [h1]; simpa using h3⟩
theorem count_find {l : List Slot} {k : Nat} (h : k < countS l) : 0 ≤ findS l (k + 1) := by
  obtain ⟨m, h1, h2⟩ := exists_gap l
  rw [countS_eq h1 h2] at h
  exact h1 k h
theorem findNat (l : List Slot) (n : Nat) (hb : l.length < 2147483648) (h : 0 ≤ findS l n) : Con Try.prog 34 [.ag [.d (.ro 2 (slots l))], .d (.v (.int .u64 ((n : Nat) : Int)))] (.v (.int .i64 (((findS l n).toNat : Nat) : Int))) := by
  have e : findS l n = (((findS l n).toNat : Nat) : Int) := by omega
  have k := findOk l n hb
  rw [e] at k; exact k
theorem Flow.owned_len (f : Flow) : f.owned.streams.length = f.owned.view.members.length ∧ f.owned.handed.length = f.owned.view.members.length := by
  cases hm : f.may with
  | true =>
    rw [Flow.owned_yes hm]
    unfold Flow.may at hm
    have ok := @of_decide_eq_true _ (Classical.propDecidable _) hm
    exact ⟨ok.2.1, ok.2.2.1⟩
  | false => rw [Flow.owned_no hm]; simp [Flow.zero]
theorem rowL_len {hv : Nat} {p : Proc} {l : List Slot} {k : Nat} {out : List Msg} (h : out.length ≤ 8) : (rowL hv p l k out).length ≤ 8 := by
  induction k with
  | zero => exact h
  | succ k ih =>
    rw [rowL_next, stepL]; split
    · simp; omega
    · exact ih
theorem lackTo_len (f : Flow) (h : List Nat) (i : Nat) : (lackTo f h i).length ≤ 8 := by
  induction i with
  | zero => simp [lackTo]
  | succ i ih =>
    unfold lackTo at ih ⊢
    rw [List.range_succ, List.foldl_append, List.foldl_cons, List.foldl_nil]
    split
    · exact rowL_len ih
    · exact ih
set_option maxRecDepth 100000 in
theorem refLack (f : Flow) (h : List Nat) (hb : f.bounded) (hh : h.length < 1073741824) : Con Try.prog 23 [.ag [.u f.view.id.round, .z f.view.id.server.node, .u f.view.id.server.inc, .d (.ro 2 (procs f.view.members)), .d (.ro 1 (nums f.view.starts)), .d (.ro 1 (streams f.streams)), .d (.ro 1 (nums f.handed))], .d (.ro 1 (nums h))] (.em 36 4 (msgs (lackTo f.owned h f.owned.streams.length))) := by
  have hbo := Flow.owned_bounded hb
  obtain ⟨hol, -⟩ := Flow.owned_len f
  obtain ⟨hbv, hb1, hb2, hb3⟩ := id hbo
  refine Con.intro (by kernel_rfl) rfl rfl 67 rfl rfl fun w0 K ac hK r => ?_
  refine toAt (todo' := aft Try.f23 1) (E' := [(1, .d (.ro 1 (nums h))), (2, .pt 0 0), (4, .d (.v (.slice none 0 0)))]) (M' := [.bx 33 [.u f.owned.view.id.round, .z f.owned.view.id.server.node, .u f.owned.view.id.server.inc, .sl 1 ((procs f.owned.view.members).length), .sl 2 ((nums f.owned.view.starts).length), .sl 3 ((streamsO f.owned.streams).length), .sl 4 ((nums f.owned.handed).length)], .rw 24 2 (procs f.owned.view.members), .rw 22 1 (nums f.owned.view.starts), .rw 67 1 (streamsO f.owned.streams), .rw 22 1 (nums f.owned.handed)]) tb_ok mixed_ok hK [(1, [(1, .con (.ag [.u f.owned.view.id.round, .z f.owned.view.id.server.node, .u f.owned.view.id.server.inc, .em 24 2 (procs f.owned.view.members), .em 22 1 (nums f.owned.view.starts), .em 67 1 (streamsO f.owned.streams), .em 22 1 (nums f.owned.handed)]))])] 4 [0, 1, 2, 3, 4] [1, 2, 4] r (by kernel_rfl) (an (refOwn f (by assumption)) trivial) fun ac wd r => ?_
  have r := r.freeze (M1 := [.bx 33 [.u f.owned.view.id.round, .z f.owned.view.id.server.node, .u f.owned.view.id.server.inc, .sl 1 ((procs f.owned.view.members).length), .sl 2 ((nums f.owned.view.starts).length), .sl 3 ((streamsO f.owned.streams).length), .sl 4 ((nums f.owned.handed).length)], .rw 24 2 (procs f.owned.view.members), .rw 22 1 (nums f.owned.view.starts), .rw 67 1 (frozR (streamsO f.owned.streams)), .rw 22 1 (nums f.owned.handed)]) (M2 := [.bx 33 [.u f.owned.view.id.round, .z f.owned.view.id.server.node, .u f.owned.view.id.server.inc, .sl 1 ((procs f.owned.view.members).length), .sl 2 ((nums f.owned.view.starts).length), .sl 3 ((streamsO f.owned.streams).length), .sl 4 ((nums f.owned.handed).length)], .rw 24 2 (procs f.owned.view.members), .rw 22 1 (nums f.owned.view.starts), .rw 67 1 (streams f.owned.streams), .rw 22 1 (nums f.owned.handed)]) [3] (by kernel_rfl) (by rw [froz_streams])
  refine toHead (todo' := hd Try.f23 0) (E' := [(1, .d (.ro 1 (nums h))), (2, .pt 0 0), (6, .z 0), (5, .d (.v (.slice none 0 0)))]) (M' := [.bx 33 [.u f.owned.view.id.round, .z f.owned.view.id.server.node, .u f.owned.view.id.server.inc, .sl 1 ((procs f.owned.view.members).length), .sl 2 ((nums f.owned.view.starts).length), .sl 3 ((streamsO f.owned.streams).length), .sl 4 ((nums f.owned.handed).length)], .rw 24 2 (procs f.owned.view.members), .rw 22 1 (nums f.owned.view.starts), .rw 67 1 (streams f.owned.streams), .rw 22 1 (nums f.owned.handed)]) tb_ok mixed_ok hK [] 2000 [0, 1, 2, 3, 4] [1, 2, 6, 5] r (by kernel_rfl) trivial fun ac wd r => ?_
  refine Goes.rounds (Φ := fun (i : Nat) ac wd => (i ≤ f.owned.streams.length) ∧ RE' [] w0 K 67 [(1, .d (.ro 1 (nums h))), (2, .pt 0 0), (6, .n i), (5, .sl 5 ((lackTo f.owned h i).length))] [.bx 33 [.u f.owned.view.id.round, .z f.owned.view.id.server.node, .u f.owned.view.id.server.inc, .sl 1 ((procs f.owned.view.members).length), .sl 2 ((nums f.owned.view.starts).length), .sl 3 ((streamsO f.owned.streams).length), .sl 4 ((nums f.owned.handed).length)], .rw 24 2 (procs f.owned.view.members), .rw 22 1 (nums f.owned.view.starts), .rw 67 1 (streams f.owned.streams), .rw 22 1 (nums f.owned.handed), .rw 36 4 (msgs (lackTo f.owned h i))] ac wd) (f.owned.streams.length) ?_ (Nat.zero_le _) ⟨by omega, r.adopt (M1 := [.bx 33 [.u f.owned.view.id.round, .z f.owned.view.id.server.node, .u f.owned.view.id.server.inc, .sl 1 ((procs f.owned.view.members).length), .sl 2 ((nums f.owned.view.starts).length), .sl 3 ((streamsO f.owned.streams).length), .sl 4 ((nums f.owned.handed).length)], .rw 24 2 (procs f.owned.view.members), .rw 22 1 (nums f.owned.view.starts), .rw 67 1 (streams f.owned.streams), .rw 22 1 (nums f.owned.handed), .rw 36 4 []]) [(5, 36, 4)] [] (by kernel_rfl) (by kernel_rfl)⟩
  clear r
  rintro i hi0 again0 ac wd ⟨hv0, r⟩
  cases h0 : (decide ((((i : Nat) : Int) : Int) < ((f.owned.streams.length : Nat) : Int))) with
  | false =>
    have qh0 := of_decide_eq_false h0
    rw [show (.em 36 4 (msgs (lackTo f.owned h f.owned.streams.length)) : DV) = .em 36 4 (msgs (lackTo f.owned h i)) from (by rw [show f.owned.streams.length = i by omega])]
    exact toRet tb_ok mixed_ok hK rfl [(4, [(3, .z (((f.owned.streams.length : Nat) : Int))), (4, .b false)])] 2000 r (by kernel_rfl) (an ((by simp) : (((streamsO f.owned.streams).length : Nat) : Int) = ((f.owned.streams.length : Nat) : Int)) (an h0 (an ((by simp <;> omega) : ((lackTo f.owned h i).length) = (msgs (lackTo f.owned h i)).length) trivial)))
  | true =>
    have qh0 := of_decide_eq_true h0
    obtain ⟨e_4bd70, ge_4bd70⟩ : ∃ x, f.owned.streams[i]? = some x := ⟨_, List.getElem?_eq_getElem (by omega)⟩
    have be_4bd70 := (hbo.at ge_4bd70).1
    obtain ⟨e_40ea1, ge_40ea1⟩ : ∃ x, f.owned.view.members[i]? = some x := ⟨_, List.getElem?_eq_getElem (by omega)⟩
    have hlen8 := lackTo_len f.owned h i
    have hcl := countS_le e_4bd70
    refine toHead (todo' := hd Try.f23 1) (E' := [(1, .d (.ro 1 (nums h))), (2, .pt 0 0), (6, .n i), (5, .sl 5 ((rowL (nthN h i) e_40ea1 e_4bd70 0 (lackTo f.owned h i)).length)), (7, .u (0 + 1))]) (M' := [.bx 33 [.u f.owned.view.id.round, .z f.owned.view.id.server.node, .u f.owned.view.id.server.inc, .sl 1 ((procs f.owned.view.members).length), .sl 2 ((nums f.owned.view.starts).length), .sl 3 ((streamsO f.owned.streams).length), .sl 4 ((nums f.owned.handed).length)], .rw 24 2 (procs f.owned.view.members), .rw 22 1 (nums f.owned.view.starts), .rw 67 1 (streams f.owned.streams), .rw 22 1 (nums f.owned.handed), .rw 36 4 (msgs (rowL (nthN h i) e_40ea1 e_4bd70 0 (lackTo f.owned h i)))]) tb_ok mixed_ok hK [(4, [(3, .z (((f.owned.streams.length : Nat) : Int))), (4, .b true)])] 2000 [0, 1, 2, 3, 4, 5] [1, 2, 6, 5, 7] r (by kernel_rfl) (an ((by simp) : (((streamsO f.owned.streams).length : Nat) : Int) = ((f.owned.streams.length : Nat) : Int)) (an h0 trivial)) fun ac wd r => ?_
    refine Goes.rounds (Φ := fun (j : Nat) ac wd => (j ≤ countS e_4bd70) ∧ RE' [] w0 K 67 [(1, .d (.ro 1 (nums h))), (2, .pt 0 0), (6, .n i), (5, .sl 5 ((rowL (nthN h i) e_40ea1 e_4bd70 j (lackTo f.owned h i)).length)), (7, .u (j + 1))] [.bx 33 [.u f.owned.view.id.round, .z f.owned.view.id.server.node, .u f.owned.view.id.server.inc, .sl 1 ((procs f.owned.view.members).length), .sl 2 ((nums f.owned.view.starts).length), .sl 3 ((streamsO f.owned.streams).length), .sl 4 ((nums f.owned.handed).length)], .rw 24 2 (procs f.owned.view.members), .rw 22 1 (nums f.owned.view.starts), .rw 67 1 (streams f.owned.streams), .rw 22 1 (nums f.owned.handed), .rw 36 4 (msgs (rowL (nthN h i) e_40ea1 e_4bd70 j (lackTo f.owned h i)))] ac wd) (countS e_4bd70) ?_ (Nat.zero_le _) ⟨by omega, r⟩
    clear r
    rintro j hi1 again1 ac wd ⟨hv1, r⟩
    cases h1 : (decide ((((j + 1 : Nat) : Int) : Int) ≤ ((countS e_4bd70 : Nat) : Int))) with
    | false =>
      have qh1 := of_decide_eq_false h1
      exact toHead (todo' := hd Try.f23 0) (E' := [(1, .d (.ro 1 (nums h))), (2, .pt 0 0), (6, .n (i + 1)), (5, .sl 5 ((rowL (nthN h i) e_40ea1 e_4bd70 j (lackTo f.owned h i)).length))]) (M' := [.bx 33 [.u f.owned.view.id.round, .z f.owned.view.id.server.node, .u f.owned.view.id.server.inc, .sl 1 ((procs f.owned.view.members).length), .sl 2 ((nums f.owned.view.starts).length), .sl 3 ((streamsO f.owned.streams).length), .sl 4 ((nums f.owned.handed).length)], .rw 24 2 (procs f.owned.view.members), .rw 22 1 (nums f.owned.view.starts), .rw 67 1 (streams f.owned.streams), .rw 22 1 (nums f.owned.handed), .rw 36 4 (msgs (rowL (nthN h i) e_40ea1 e_4bd70 j (lackTo f.owned h i)))]) tb_ok mixed_ok hK [(5, [(1, .z (((i + 1 : Nat) : Int)))]), (7, [(4, .n (i)), (5, .ix 0 [.ro 2 (slots e_4bd70)]), (6, .con (.u (countS e_4bd70))), (7, .b false)])] 2000 [0, 1, 2, 3, 4, 5] [1, 2, 6, 5] r (by kernel_rfl) (an (rfI ((i : Nat) : Int)) (an ((by first | omega | (simp; omega)) : (i) < ((streamsO f.owned.streams).length)) (an ((by simp <;> omega) : ((streamsO f.owned.streams).length) ≤ (streams f.owned.streams).length) (an (streams_at ge_4bd70) (an (countOk e_4bd70 (by omega)) (an h1 (an ((wi (by omega)) : IntKind.i64.wrap ((((i : Nat) : Int) : Int) + 1) = ((i + 1 : Nat) : Int)) trivial))))))) fun ac wd r => again0 (by omega) ac wd ⟨by omega, r.cast (by rw [lackTo_next ge_4bd70 ge_40ea1, show countS e_4bd70 = j by omega]) (by rw [lackTo_next ge_4bd70 ge_40ea1, show countS e_4bd70 = j by omega])⟩
    | true =>
      have qh1 := of_decide_eq_true h1
      have hc : 0 ≤ findS e_4bd70 (j + 1) := count_find (by omega)
      obtain ⟨e_d9faf, ge_d9faf⟩ := findS_get hc
      have hr8 := rowL_len (hv := nthN h i) (p := e_40ea1) (l := e_4bd70) (k := j) (out := lackTo f.owned h i) hlen8
      cases h2 : (decide ((((nthN h (i) : Nat) : Int) : Int) < ((j + 1 : Nat) : Int))) with
      | false =>
        have qh2 := of_decide_eq_false h2
        exact toHead (todo' := hd Try.f23 1) (E' := [(1, .d (.ro 1 (nums h))), (2, .pt 0 0), (6, .n i), (5, .sl 5 ((rowL (nthN h i) e_40ea1 e_4bd70 j (lackTo f.owned h i)).length)), (7, .u (j + 1 + 1))]) (M' := [.bx 33 [.u f.owned.view.id.round, .z f.owned.view.id.server.node, .u f.owned.view.id.server.inc, .sl 1 ((procs f.owned.view.members).length), .sl 2 ((nums f.owned.view.starts).length), .sl 3 ((streamsO f.owned.streams).length), .sl 4 ((nums f.owned.handed).length)], .rw 24 2 (procs f.owned.view.members), .rw 22 1 (nums f.owned.view.starts), .rw 67 1 (streams f.owned.streams), .rw 22 1 (nums f.owned.handed), .rw 36 4 (msgs (rowL (nthN h i) e_40ea1 e_4bd70 j (lackTo f.owned h i)))]) tb_ok mixed_ok hK [(7, [(4, .n (i)), (5, .ix 0 [.ro 2 (slots e_4bd70)]), (6, .con (.u (countS e_4bd70))), (7, .b true)]), (8, [(1, .z (((j + 1 + 1 : Nat) : Int)))]), (9, [(3, .n (i)), (4, .ix 0 [.ro 2 (slots e_4bd70)]), (6, .con (.n ((findS e_4bd70 (j + 1)).toNat)))]), (10, [(3, .con (.u (nthN h (i)))), (4, .b false)])] 2000 [0, 1, 2, 3, 4, 5] [1, 2, 6, 5, 7] r (by kernel_rfl) (an (rfI ((i : Nat) : Int)) (an ((by first | omega | (simp; omega)) : (i) < ((streamsO f.owned.streams).length)) (an ((by simp <;> omega) : ((streamsO f.owned.streams).length) ≤ (streams f.owned.streams).length) (an (streams_at ge_4bd70) (an (countOk e_4bd70 (by omega)) (an h1 (an (rfI ((i : Nat) : Int)) (an ((by first | omega | (simp; omega)) : (i) < ((streamsO f.owned.streams).length)) (an ((by simp <;> omega) : ((streamsO f.owned.streams).length) ≤ (streams f.owned.streams).length) (an (streams_at ge_4bd70) (an (findNat _ _ (by omega) (by assumption) : Con Try.prog 34 [.ag [.d (.ro 2 (slots e_4bd70))], .u (j + 1)] (.n ((findS e_4bd70 (j + 1)).toNat))) (an (nthOk _ _ (by omega) : Con Try.prog 43 [.d (.ro 1 (nums h)), .n i] (.u (nthN h (i)))) (an h2 (an ((wu (by omega)) : IntKind.u64.wrap ((((j + 1 : Nat) : Int) : Int) + 1) = ((j + 1 + 1 : Nat) : Int)) trivial)))))))))))))) fun ac wd r => again1 (by omega) ac wd ⟨by omega, r.cast (by first | rw [rowL_no (hv := nthN h i) (p := e_40ea1) (l := e_4bd70) (k := j) (out := lackTo f.owned h i) (by omega)] | (rw [rowL_yes (hv := nthN h i) (p := e_40ea1) (l := e_4bd70) (k := j) (out := lackTo f.owned h i) ge_d9faf (by omega) (by omega)]; simp)) (by first | rw [rowL_no (hv := nthN h i) (p := e_40ea1) (l := e_4bd70) (k := j) (out := lackTo f.owned h i) (by omega)] | rw [rowL_yes (hv := nthN h i) (p := e_40ea1) (l := e_4bd70) (k := j) (out := lackTo f.owned h i) ge_d9faf (by omega) (by omega), msgs_app])⟩
      | true =>
        have qh2 := of_decide_eq_true h2
        cases h3 : (decide (((((rowL (nthN h i) e_40ea1 e_4bd70 j (lackTo f.owned h i)).length : Nat) : Int) : Int) < 8)) with
        | false =>
          have qh3 := of_decide_eq_false h3
          exact toHead (todo' := hd Try.f23 1) (E' := [(1, .d (.ro 1 (nums h))), (2, .pt 0 0), (6, .n i), (5, .sl 5 ((rowL (nthN h i) e_40ea1 e_4bd70 j (lackTo f.owned h i)).length)), (7, .u (j + 1 + 1))]) (M' := [.bx 33 [.u f.owned.view.id.round, .z f.owned.view.id.server.node, .u f.owned.view.id.server.inc, .sl 1 ((procs f.owned.view.members).length), .sl 2 ((nums f.owned.view.starts).length), .sl 3 ((streamsO f.owned.streams).length), .sl 4 ((nums f.owned.handed).length)], .rw 24 2 (procs f.owned.view.members), .rw 22 1 (nums f.owned.view.starts), .rw 67 1 (streams f.owned.streams), .rw 22 1 (nums f.owned.handed), .rw 36 4 (msgs (rowL (nthN h i) e_40ea1 e_4bd70 j (lackTo f.owned h i)))]) tb_ok mixed_ok hK [(7, [(4, .n (i)), (5, .ix 0 [.ro 2 (slots e_4bd70)]), (6, .con (.u (countS e_4bd70))), (7, .b true)]), (8, [(1, .z (((j + 1 + 1 : Nat) : Int)))]), (9, [(3, .n (i)), (4, .ix 0 [.ro 2 (slots e_4bd70)]), (6, .con (.n ((findS e_4bd70 (j + 1)).toNat)))]), (10, [(3, .con (.u (nthN h (i)))), (4, .b true), (8, .b false)])] 2000 [0, 1, 2, 3, 4, 5] [1, 2, 6, 5, 7] r (by kernel_rfl) (an (rfI ((i : Nat) : Int)) (an ((by first | omega | (simp; omega)) : (i) < ((streamsO f.owned.streams).length)) (an ((by simp <;> omega) : ((streamsO f.owned.streams).length) ≤ (streams f.owned.streams).length) (an (streams_at ge_4bd70) (an (countOk e_4bd70 (by omega)) (an h1 (an (rfI ((i : Nat) : Int)) (an ((by first | omega | (simp; omega)) : (i) < ((streamsO f.owned.streams).length)) (an ((by simp <;> omega) : ((streamsO f.owned.streams).length) ≤ (streams f.owned.streams).length) (an (streams_at ge_4bd70) (an (findNat _ _ (by omega) (by assumption) : Con Try.prog 34 [.ag [.d (.ro 2 (slots e_4bd70))], .u (j + 1)] (.n ((findS e_4bd70 (j + 1)).toNat))) (an (nthOk _ _ (by omega) : Con Try.prog 43 [.d (.ro 1 (nums h)), .n i] (.u (nthN h (i)))) (an h2 (an h3 (an ((wu (by omega)) : IntKind.u64.wrap ((((j + 1 : Nat) : Int) : Int) + 1) = ((j + 1 + 1 : Nat) : Int)) trivial))))))))))))))) fun ac wd r => again1 (by omega) ac wd ⟨by omega, r.cast (by first | rw [rowL_no (hv := nthN h i) (p := e_40ea1) (l := e_4bd70) (k := j) (out := lackTo f.owned h i) (by omega)] | (rw [rowL_yes (hv := nthN h i) (p := e_40ea1) (l := e_4bd70) (k := j) (out := lackTo f.owned h i) ge_d9faf (by omega) (by omega)]; simp)) (by first | rw [rowL_no (hv := nthN h i) (p := e_40ea1) (l := e_4bd70) (k := j) (out := lackTo f.owned h i) (by omega)] | rw [rowL_yes (hv := nthN h i) (p := e_40ea1) (l := e_4bd70) (k := j) (out := lackTo f.owned h i) ge_d9faf (by omega) (by omega), msgs_app])⟩
        | true =>
          have qh3 := of_decide_eq_true h3
          exact toHead (todo' := hd Try.f23 1) (E' := [(1, .d (.ro 1 (nums h))), (2, .pt 0 0), (6, .n i), (5, .sl 5 ((rowL (nthN h i) e_40ea1 e_4bd70 j (lackTo f.owned h i)).length + (1))), (7, .u (j + 1 + 1))]) (M' := [.bx 33 [.u f.owned.view.id.round, .z f.owned.view.id.server.node, .u f.owned.view.id.server.inc, .sl 1 ((procs f.owned.view.members).length), .sl 2 ((nums f.owned.view.starts).length), .sl 3 ((streamsO f.owned.streams).length), .sl 4 ((nums f.owned.handed).length)], .rw 24 2 (procs f.owned.view.members), .rw 22 1 (nums f.owned.view.starts), .rw 67 1 (streams f.owned.streams), .rw 22 1 (nums f.owned.handed), .rw 36 4 (msgs (rowL (nthN h i) e_40ea1 e_4bd70 j (lackTo f.owned h i)) ++ [[.z e_40ea1.node, .u e_40ea1.inc, .u (j + 1), .ro 1 (bytesR e_d9faf.body)]])]) tb_ok mixed_ok hK [(7, [(4, .n (i)), (5, .ix 0 [.ro 2 (slots e_4bd70)]), (6, .con (.u (countS e_4bd70))), (7, .b true)]), (8, [(1, .z (((j + 1 + 1 : Nat) : Int)))]), (9, [(3, .n (i)), (4, .ix 0 [.ro 2 (slots e_4bd70)]), (6, .con (.n ((findS e_4bd70 (j + 1)).toNat)))]), (10, [(3, .con (.u (nthN h (i)))), (4, .b true), (8, .b true)]), (11, [(5, .n (i)), (6, .ix 0 [.z e_40ea1.node, .u e_40ea1.inc]), (11, .n (i)), (13, .ix 0 [.ro 2 (slots e_4bd70)]), (15, .ix ((findS e_4bd70 (j + 1)).toNat) [.u e_d9faf.n, .ro 1 (bytesR e_d9faf.body)])])] 2000 [0, 1, 2, 3, 4, 5] [1, 2, 6, 5, 7] r (by kernel_rfl) (an (rfI ((i : Nat) : Int)) (an ((by first | omega | (simp; omega)) : (i) < ((streamsO f.owned.streams).length)) (an ((by simp <;> omega) : ((streamsO f.owned.streams).length) ≤ (streams f.owned.streams).length) (an (streams_at ge_4bd70) (an (countOk e_4bd70 (by omega)) (an h1 (an (rfI ((i : Nat) : Int)) (an ((by first | omega | (simp; omega)) : (i) < ((streamsO f.owned.streams).length)) (an ((by simp <;> omega) : ((streamsO f.owned.streams).length) ≤ (streams f.owned.streams).length) (an (streams_at ge_4bd70) (an (findNat _ _ (by omega) (by assumption) : Con Try.prog 34 [.ag [.d (.ro 2 (slots e_4bd70))], .u (j + 1)] (.n ((findS e_4bd70 (j + 1)).toNat))) (an (nthOk _ _ (by omega) : Con Try.prog 43 [.d (.ro 1 (nums h)), .n i] (.u (nthN h (i)))) (an h2 (an h3 (an (rfI ((i : Nat) : Int)) (an ((by first | omega | (simp; omega)) : (i) < ((procs f.owned.view.members).length)) (an ((by simp <;> omega) : ((procs f.owned.view.members).length) ≤ (procs f.owned.view.members).length) (an (procs_at ge_40ea1) (an (rfI ((i : Nat) : Int)) (an ((by first | omega | (simp; omega)) : (i) < ((streamsO f.owned.streams).length)) (an ((by simp <;> omega) : ((streamsO f.owned.streams).length) ≤ (streams f.owned.streams).length) (an (streams_at ge_4bd70) (an (rfI (((findS e_4bd70 (j + 1)).toNat : Nat) : Int)) (an (slots_at ge_d9faf) (an ((by simp <;> omega) : ((rowL (nthN h i) e_40ea1 e_4bd70 j (lackTo f.owned h i)).length) = (msgs (rowL (nthN h i) e_40ea1 e_4bd70 j (lackTo f.owned h i))).length) (an ((by simp <;> omega) : (1) = ([[.z e_40ea1.node, .u e_40ea1.inc, .u (j + 1), .ro 1 (bytesR e_d9faf.body)]] : List (List DV)).length) (an ((by first | omega | (simp; done) | (simp; omega)) : (2 * (((rowL (nthN h i) e_40ea1 e_4bd70 j (lackTo f.owned h i)).length) + (1)) + 192) * 48 ≤ 281474976710656) (an ((by first | omega | (simp; done) | (simp; omega)) : ((rowL (nthN h i) e_40ea1 e_4bd70 j (lackTo f.owned h i)).length) + (1) < 4611686018427387904) (an ((by simp [OneR, AV.one, oneC]) : OneR ([[.z e_40ea1.node, .u e_40ea1.inc, .u (j + 1), .ro 1 (bytesR e_d9faf.body)]])) (an ((wu (by omega)) : IntKind.u64.wrap ((((j + 1 : Nat) : Int) : Int) + 1) = ((j + 1 + 1 : Nat) : Int)) trivial)))))))))))))))))))))))))))))) fun ac wd r => again1 (by omega) ac wd ⟨by omega, r.cast (by first | rw [rowL_no (hv := nthN h i) (p := e_40ea1) (l := e_4bd70) (k := j) (out := lackTo f.owned h i) (by omega)] | (rw [rowL_yes (hv := nthN h i) (p := e_40ea1) (l := e_4bd70) (k := j) (out := lackTo f.owned h i) ge_d9faf (by omega) (by omega)]; simp)) (by first | rw [rowL_no (hv := nthN h i) (p := e_40ea1) (l := e_4bd70) (k := j) (out := lackTo f.owned h i) (by omega)] | rw [rowL_yes (hv := nthN h i) (p := e_40ea1) (l := e_4bd70) (k := j) (out := lackTo f.owned h i) ge_d9faf (by omega) (by omega), msgs_app])⟩
end Go.Proofs.Ytoijfmfkkmbabaa
namespace Go.Proofs.Ytoijfmfkkmbabaa
open Go.RowKit
theorem Ind.ag {l : List DV} (h : ∀ c ∈ l, Ind c) : Ind (.ag l) := by
  intro K K' y H r
  cases r with | ag ys F hl hr => exact .ag ys F hl fun j c y h1 h2 => h c (List.mem_of_getElem? h1) _ _ _ _ (hr j c y h1 h2)
theorem Ind.tu {l : List DV} (h : ∀ c ∈ l, Ind c) : Ind (.tu l) := by
  intro K K' y H r
  cases r with | tu ys F hl hr => exact .tu ys F hl fun j c y h1 h2 => h c (List.mem_of_getElem? h1) _ _ _ _ (hr j c y h1 h2)
theorem Ind.em {T k : Nat} {rows : List (List DV)} (h : ∀ r ∈ rows, ∀ c ∈ r, Ind c) : Ind (.em T k rows) := by
  intro K K' y H r
  cases r with | em X F hl hs hr => exact .em X F hl hs fun i r j c x h1 h2 h3 => h r (List.mem_of_getElem? h1) c (List.mem_of_getElem? h2) _ _ _ _ (hr i r j c x h1 h2 h3)
theorem Ind.two (x y : Value) : Ind (.tu [.v x, .v y]) := .tu (by simp only [List.mem_cons, List.not_mem_nil, or_false]; rintro c (rfl | rfl) <;> exact ind_v _)
theorem Ind.jk : Ind .jk := by intro K K2 y H h; cases h; exact .jk _
def insD (l : List Slot) (n k : Nat) : Bool := (l.take k).any fun x => decide (n < x.n)
def insL (l : List Slot) (n : Nat) (b : List UInt8) : Nat → List Slot
  | 0 => []
  | k + 1 => insL l n b k ++ (match l[k]? with | some x => if insD l n k = false ∧ n < x.n then [⟨n, b⟩, x] else [x] | none => [])
def insF (l : List Slot) (n : Nat) (b : List UInt8) : List Slot := insL l n b l.length ++ if insD l n l.length = true then [] else [⟨n, b⟩]
theorem insD_next {l : List Slot} {n k : Nat} {x : Slot} (h : l[k]? = some x) : insD l n (k + 1) = (insD l n k || decide (n < x.n)) := by
  obtain ⟨hk, rfl⟩ := List.getElem?_eq_some_iff.1 h
  unfold insD; rw [List.take_succ_eq_append_getElem hk, List.any_append]; simp
theorem insD_two {l : List Slot} {n k : Nat} {x : Slot} (h : l[k]? = some x) (hn : n < x.n) : insD l n (k + 1) = true := by rw [insD_next h, decide_eq_true hn, Bool.or_true]
theorem insL_two {l : List Slot} {n k : Nat} {b : List UInt8} {x : Slot} (h : l[k]? = some x) (hd : insD l n k = false) (hn : n < x.n) : insL l n b (k + 1) = insL l n b k ++ [⟨n, b⟩, x] := by rw [insL, h]; simp [hd, hn]
theorem insL_one {l : List Slot} {n k : Nat} {b : List UInt8} {x : Slot} (h : l[k]? = some x) (hd : insD l n k = true ∨ ¬ n < x.n) : insL l n b (k + 1) = insL l n b k ++ [x] := by
  rw [insL, h]; simp only []
  rw [if_neg]; rintro ⟨h1, h2⟩; rcases hd with h | h
  · rw [h1] at h; cases h
  · exact h h2
def Flow.half (f : Flow) : List DV := [.v (.int .u64 (f.view.id.round : Int)), .v (.int .i64 f.view.id.server.node), .v (.int .u64 (f.view.id.server.inc : Int)), .em 24 2 (procs f.view.members), .em 22 1 (nums f.view.starts), .em 67 1 (f.streams.map fun s => [.ro 2 (slots s)]), .em 22 1 (nums f.handed)]
def streamAt (f : Flow) (i : Nat) : List Slot := (f.streams[i]?).getD []
theorem streamAt_get {f : Flow} {i : Nat} {l : List Slot} (h : f.streams[i]? = some l) : streamAt f i = l := by simp [streamAt, h]
def Flow.takes (f : Flow) (m : Msg) : Prop := placeB f.view.members m.src = true ∧ 1 ≤ m.n ∧ m.n ≤ 16 ∧ m.body.length ≤ 64 ∧ findS (streamAt f (placeN f.view.members m.src)) m.n < 0
instance (f : Flow) (m : Msg) : Decidable (f.takes m) := by unfold Flow.takes; infer_instance
def Flow.put (f : Flow) (m : Msg) : Flow := { f with streams := f.streams.set (placeN f.view.members m.src) (insF (streamAt f (placeN f.view.members m.src)) m.n m.body) }
def Flow.take (f : Flow) (m : Msg) : Flow := if f.takes m then f.put m else f
theorem placeN_lt {l : List Proc} {p : Proc} (h : placeB l p = true) : placeN l p < l.length := by
  unfold placeB at h; unfold placeN
  obtain ⟨i, h1, h2⟩ := idx_some (of_decide_eq_true h)
  rw [h1]; have := (List.getElem?_eq_some_iff.1 h2).1; simpa using this
theorem froz_slots' (l : List Slot) : frozR (slots l) = slots l := by
  rw [frozR_map]; unfold slots; rw [List.map_map]; apply List.map_congr_left; intro s _; show [froz (.v _), froz (.ro _ _)] = _; rw [froz, froz]; rfl
theorem slots_app (l m : List Slot) : slots (l ++ m) = slots l ++ slots m := by unfold slots; rw [List.map_append]
theorem froz_app (a b : List (List DV)) : frozR (a ++ b) = frozR a ++ frozR b := by rw [frozR_map, frozR_map, frozR_map, List.map_append]
theorem Flow.no_takes {f : Flow} {m : Msg} (h : placeB f.view.members m.src = false ∨ m.n < 1 ∨ 16 < m.n ∨ 64 < m.body.length ∨ ∃ l, f.streams[placeN f.view.members m.src]? = some l ∧ 0 ≤ findS l m.n) : ¬ f.takes m := by
  rintro ⟨h1, h2, h3, h4, h5⟩
  rcases h with h | h | h | h | ⟨l, hl, h⟩
  · rw [h] at h1; cases h1
  · omega
  · omega
  · omega
  · rw [streamAt_get hl] at h5; omega
theorem Flow.take_no {f : Flow} {m : Msg} (h : ¬ f.takes m) : f.take m = f := by unfold Flow.take; rw [if_neg h]
theorem Flow.take_yes {f : Flow} {m : Msg} (h : f.takes m) : f.take m = f.put m := by unfold Flow.take; rw [if_pos h]
end Go.Proofs.Ytoijfmfkkmbabaa
namespace Go.Proofs.Ytoijfmfkkmbabaa
open Go.RowKit
abbrev ints (l : List Int) : List (List DV) := l.map fun z => [.v (.int .i64 z)]
theorem ints_at {l : List Int} {i : Nat} {z : Int} (h : l[i]? = some z) : (ints l)[i]? = some [.v (.int .i64 z)] := by simp [ints, h]
theorem ints_set (l : List Int) (i : Nat) (z : Int) : List.set (ints l) i [.v (.int .i64 z)] = ints (l.set i z) := by unfold ints; rw [List.map_set]
theorem ints_app (l : List Int) (z : Int) : ints l ++ [[.v (.int .i64 z)]] = ints (l ++ [z]) := by unfold ints; rw [List.map_append]; rfl
theorem froz_ints (l : List Int) : frozR (ints l) = ints l := by
  rw [frozR_map]; unfold ints; rw [List.map_map]; apply List.map_congr_left; intro s _; show [froz (.v _)] = _; rw [froz]
def Rising (l : List Int) : Prop := ∀ (i : Nat) a b, l[i]? = some a → l[i + 1]? = some b → a ≤ b
def blen (n : Nat) : Nat := match n with | 0 => 0 | 1 => 1 | 2 => 2 | 3 => 2 | 4 => 3 | 5 => 3 | _ => 3
set_option maxRecDepth 100000 in
theorem len64_0  : Con Try.prog 94 [.d (.v (.int .u64 0))] (.v (.int .i64 0)) := by
  refine Con.intro (by kernel_rfl) rfl rfl 25 rfl rfl fun w0 K ac hK r => ?_
  exact toRet tb_ok mixed_ok hK rfl [(10, [(2, .z (0)), (3, .n 0), (4, .z (0)), (5, .z (0))])] 2000 r (by kernel_rfl) (an ((by decide) : IntKind.u8.wrap (0) = 0) (an (rfl : (0 : Int) = ((0 : Nat) : Int)) (an ((by decide) : IntKind.i64.wrap (0) = 0) (an ((by decide) : IntKind.i64.wrap ((0 : Int) + 0) = 0) trivial))))
set_option maxRecDepth 100000 in
theorem bitsLen_0  : Con Try.prog 81 [.d (.v (.int .u64 0))] (.v (.int .i64 0)) := by
  refine Con.intro (by kernel_rfl) rfl rfl 8 rfl rfl fun w0 K ac hK r => ?_
  exact toRet tb_ok mixed_ok hK rfl [(2, [(1, .con (.z 0))])] 2000 r (by kernel_rfl) (an (len64_0) trivial)
set_option maxRecDepth 100000 in
theorem len64_1  : Con Try.prog 94 [.d (.v (.int .u64 1))] (.v (.int .i64 1)) := by
  refine Con.intro (by kernel_rfl) rfl rfl 25 rfl rfl fun w0 K ac hK r => ?_
  exact toRet tb_ok mixed_ok hK rfl [(10, [(2, .z (1)), (3, .n 1), (4, .z (1)), (5, .z (1))])] 2000 r (by kernel_rfl) (an ((by decide) : IntKind.u8.wrap (1) = 1) (an (rfl : (1 : Int) = ((1 : Nat) : Int)) (an ((by decide) : IntKind.i64.wrap (1) = 1) (an ((by decide) : IntKind.i64.wrap ((0 : Int) + 1) = 1) trivial))))
set_option maxRecDepth 100000 in
theorem bitsLen_1  : Con Try.prog 81 [.d (.v (.int .u64 1))] (.v (.int .i64 1)) := by
  refine Con.intro (by kernel_rfl) rfl rfl 8 rfl rfl fun w0 K ac hK r => ?_
  exact toRet tb_ok mixed_ok hK rfl [(2, [(1, .con (.z 1))])] 2000 r (by kernel_rfl) (an (len64_1) trivial)
set_option maxRecDepth 100000 in
theorem len64_2  : Con Try.prog 94 [.d (.v (.int .u64 2))] (.v (.int .i64 2)) := by
  refine Con.intro (by kernel_rfl) rfl rfl 25 rfl rfl fun w0 K ac hK r => ?_
  exact toRet tb_ok mixed_ok hK rfl [(10, [(2, .z (2)), (3, .n 2), (4, .z (2)), (5, .z (2))])] 2000 r (by kernel_rfl) (an ((by decide) : IntKind.u8.wrap (2) = 2) (an (rfl : (2 : Int) = ((2 : Nat) : Int)) (an ((by decide) : IntKind.i64.wrap (2) = 2) (an ((by decide) : IntKind.i64.wrap ((0 : Int) + 2) = 2) trivial))))
set_option maxRecDepth 100000 in
theorem bitsLen_2  : Con Try.prog 81 [.d (.v (.int .u64 2))] (.v (.int .i64 2)) := by
  refine Con.intro (by kernel_rfl) rfl rfl 8 rfl rfl fun w0 K ac hK r => ?_
  exact toRet tb_ok mixed_ok hK rfl [(2, [(1, .con (.z 2))])] 2000 r (by kernel_rfl) (an (len64_2) trivial)
set_option maxRecDepth 100000 in
theorem len64_3  : Con Try.prog 94 [.d (.v (.int .u64 3))] (.v (.int .i64 2)) := by
  refine Con.intro (by kernel_rfl) rfl rfl 25 rfl rfl fun w0 K ac hK r => ?_
  exact toRet tb_ok mixed_ok hK rfl [(10, [(2, .z (3)), (3, .n 3), (4, .z (2)), (5, .z (2))])] 2000 r (by kernel_rfl) (an ((by decide) : IntKind.u8.wrap (3) = 3) (an (rfl : (3 : Int) = ((3 : Nat) : Int)) (an ((by decide) : IntKind.i64.wrap (2) = 2) (an ((by decide) : IntKind.i64.wrap ((0 : Int) + 2) = 2) trivial))))
set_option maxRecDepth 100000 in
theorem bitsLen_3  : Con Try.prog 81 [.d (.v (.int .u64 3))] (.v (.int .i64 2)) := by
  refine Con.intro (by kernel_rfl) rfl rfl 8 rfl rfl fun w0 K ac hK r => ?_
  exact toRet tb_ok mixed_ok hK rfl [(2, [(1, .con (.z 2))])] 2000 r (by kernel_rfl) (an (len64_3) trivial)
set_option maxRecDepth 100000 in
theorem len64_4  : Con Try.prog 94 [.d (.v (.int .u64 4))] (.v (.int .i64 3)) := by
  refine Con.intro (by kernel_rfl) rfl rfl 25 rfl rfl fun w0 K ac hK r => ?_
  exact toRet tb_ok mixed_ok hK rfl [(10, [(2, .z (4)), (3, .n 4), (4, .z (3)), (5, .z (3))])] 2000 r (by kernel_rfl) (an ((by decide) : IntKind.u8.wrap (4) = 4) (an (rfl : (4 : Int) = ((4 : Nat) : Int)) (an ((by decide) : IntKind.i64.wrap (3) = 3) (an ((by decide) : IntKind.i64.wrap ((0 : Int) + 3) = 3) trivial))))
set_option maxRecDepth 100000 in
theorem bitsLen_4  : Con Try.prog 81 [.d (.v (.int .u64 4))] (.v (.int .i64 3)) := by
  refine Con.intro (by kernel_rfl) rfl rfl 8 rfl rfl fun w0 K ac hK r => ?_
  exact toRet tb_ok mixed_ok hK rfl [(2, [(1, .con (.z 3))])] 2000 r (by kernel_rfl) (an (len64_4) trivial)
set_option maxRecDepth 100000 in
theorem len64_5  : Con Try.prog 94 [.d (.v (.int .u64 5))] (.v (.int .i64 3)) := by
  refine Con.intro (by kernel_rfl) rfl rfl 25 rfl rfl fun w0 K ac hK r => ?_
  exact toRet tb_ok mixed_ok hK rfl [(10, [(2, .z (5)), (3, .n 5), (4, .z (3)), (5, .z (3))])] 2000 r (by kernel_rfl) (an ((by decide) : IntKind.u8.wrap (5) = 5) (an (rfl : (5 : Int) = ((5 : Nat) : Int)) (an ((by decide) : IntKind.i64.wrap (3) = 3) (an ((by decide) : IntKind.i64.wrap ((0 : Int) + 3) = 3) trivial))))
set_option maxRecDepth 100000 in
theorem bitsLen_5  : Con Try.prog 81 [.d (.v (.int .u64 5))] (.v (.int .i64 3)) := by
  refine Con.intro (by kernel_rfl) rfl rfl 8 rfl rfl fun w0 K ac hK r => ?_
  exact toRet tb_ok mixed_ok hK rfl [(2, [(1, .con (.z 3))])] 2000 r (by kernel_rfl) (an (len64_5) trivial)
set_option maxRecDepth 100000 in
theorem len64_6  : Con Try.prog 94 [.d (.v (.int .u64 6))] (.v (.int .i64 3)) := by
  refine Con.intro (by kernel_rfl) rfl rfl 25 rfl rfl fun w0 K ac hK r => ?_
  exact toRet tb_ok mixed_ok hK rfl [(10, [(2, .z (6)), (3, .n 6), (4, .z (3)), (5, .z (3))])] 2000 r (by kernel_rfl) (an ((by decide) : IntKind.u8.wrap (6) = 6) (an (rfl : (6 : Int) = ((6 : Nat) : Int)) (an ((by decide) : IntKind.i64.wrap (3) = 3) (an ((by decide) : IntKind.i64.wrap ((0 : Int) + 3) = 3) trivial))))
set_option maxRecDepth 100000 in
theorem bitsLen_6  : Con Try.prog 81 [.d (.v (.int .u64 6))] (.v (.int .i64 3)) := by
  refine Con.intro (by kernel_rfl) rfl rfl 8 rfl rfl fun w0 K ac hK r => ?_
  exact toRet tb_ok mixed_ok hK rfl [(2, [(1, .con (.z 3))])] 2000 r (by kernel_rfl) (an (len64_6) trivial)
theorem bitsLen (n : Nat) (h : n ≤ 6) : Con Try.prog 81 [.d (.v (.int .u64 ((n : Nat) : Int)))] (.v (.int .i64 ((blen n : Nat) : Int))) :=
  match n, h with
  | 0, _ => bitsLen_0
  | 1, _ => bitsLen_1
  | 2, _ => bitsLen_2
  | 3, _ => bitsLen_3
  | 4, _ => bitsLen_4
  | 5, _ => bitsLen_5
  | 6, _ => bitsLen_6
  | n + 7, h => absurd h (by omega)
set_option maxRecDepth 100000 in
theorem notNan (x : Int) : Con Try.prog 82 [.z x] (.v (.bool false)) := by
  refine Con.intro (by kernel_rfl) rfl rfl 6 rfl rfl fun w0 K ac hK r => ?_
  exact toRet tb_ok mixed_ok hK rfl [(1, [(2, .b false)])] 2000 r (by kernel_rfl) (an ((by simp) : ((x : Int) != x) = false) trivial)
set_option maxRecDepth 100000 in
theorem lessOk (x y : Int) : Con Try.prog 90 [.z x, .z y] (.v (.bool (decide (x < y)))) := by
  refine Con.intro (by kernel_rfl) rfl rfl 17 rfl rfl fun w0 K ac hK r => ?_
  cases h0 : (decide ((x : Int) < y)) with
  | false =>
    have qh0 := of_decide_eq_false h0
    exact toRet tb_ok mixed_ok hK rfl [(1, [(1, .con (.v (.bool false))), (10, .b false)])] 2000 r (by kernel_rfl) (an (notNan _ : Con Try.prog 82 [.z x] (.v (.bool false))) (an h0 trivial))
  | true =>
    have qh0 := of_decide_eq_true h0
    exact toRet tb_ok mixed_ok hK rfl [(1, [(1, .con (.v (.bool false))), (10, .b true)])] 2000 r (by kernel_rfl) (an (notNan _ : Con Try.prog 82 [.z x] (.v (.bool false))) (an h0 trivial))
set_option maxRecDepth 100000 in
theorem insSort (l : List Int) (hs : Rising l) (hb : l.length < 1073741824) : Con Try.prog 84 [.d (.ro 1 (ints l)), .z 0, .n l.length] (.tu []) := by
  refine Con.intro (by kernel_rfl) rfl rfl 49 rfl rfl fun w0 K ac hK r => ?_
  refine toHead (todo' := hd Try.f84 0) (E' := [(0, .d (.ro 1 (ints l))), (1, .z 0), (2, .n l.length), (6, .n (0 + 1))]) (M' := []) tb_ok mixed_ok hK [(0, [(1, .z (1))])] 2000 [] [0, 1, 2, 6] r (by kernel_rfl) (an ((wi (by omega)) : IntKind.i64.wrap ((0 : Int) + 1) = 1) trivial) fun ac wd r => ?_
  refine Goes.rounds (Φ := fun (i : Nat) ac wd => (True) ∧ RE' [] w0 K 49 [(0, .d (.ro 1 (ints l))), (1, .z 0), (2, .n l.length), (6, .n (i + 1))] [] ac wd) (l.length) ?_ (Nat.zero_le _) ⟨trivial, r⟩
  clear r
  rintro i hi0 again0 ac wd ⟨hv0, r⟩
  cases h0 : (decide ((((i + 1 : Nat) : Int) : Int) < ((l.length : Nat) : Int))) with
  | false =>
    have qh0 := of_decide_eq_false h0
    exact toRet tb_ok mixed_ok hK rfl [(1, [(2, .b false)])] 2000 r (by kernel_rfl) (an h0 trivial)
  | true =>
    have qh0 := of_decide_eq_true h0
    obtain ⟨e_l_i1, ge_l_i1⟩ : ∃ x, l[i + 1]? = some x := ⟨_, List.getElem?_eq_getElem (by omega)⟩
    obtain ⟨e_l_i11, ge_l_i11⟩ : ∃ x, l[i + 1 - 1]? = some x := ⟨_, List.getElem?_eq_getElem (by omega)⟩
    refine toHead (todo' := hd Try.f84 1) (E' := [(0, .d (.ro 1 (ints l))), (1, .z 0), (2, .n l.length), (6, .n (i + 1)), (7, .n (i + 1))]) (M' := []) tb_ok mixed_ok hK [(1, [(2, .b true)])] 2000 [] [0, 1, 2, 6, 7] r (by kernel_rfl) (an h0 trivial) fun ac wd r => ?_
    cases h1 : (decide ((0 : Int) < ((i + 1 : Nat) : Int))) with
    | false =>
      have qh1 := of_decide_eq_false h1
      exact toHead (todo' := hd Try.f84 0) tb_ok mixed_ok hK [(2, [(1, .z (((i + 1 + 1 : Nat) : Int)))]), (4, [(2, .b false)])] 2000 [] [0, 1, 2, 6] r (by kernel_rfl) (an h1 (an ((wi (by omega)) : IntKind.i64.wrap ((((i + 1 : Nat) : Int) : Int) + 1) = ((i + 1 + 1 : Nat) : Int)) trivial)) fun ac wd r => again0 (by omega) ac wd ⟨trivial, r⟩
    | true =>
      have qh1 := of_decide_eq_true h1
      cases h2 : (decide (e_l_i1 < e_l_i11)) with
      | false =>
        have qh2 := of_decide_eq_false h2
        exact toHead (todo' := hd Try.f84 0) tb_ok mixed_ok hK [(2, [(1, .z (((i + 1 + 1 : Nat) : Int)))]), (4, [(2, .b true), (6, .ix (i + 1) [.z e_l_i1]), (10, .z (((i + 1 - 1 : Nat) : Int))), (11, .ix (i + 1 - 1) [.z e_l_i11]), (13, .con (.v (.bool false)))])] 2000 [] [0, 1, 2, 6] r (by kernel_rfl) (an h1 (an (rfI ((i + 1 : Nat) : Int)) (an (ints_at ge_l_i1) (an ((wi (by omega)) : IntKind.i64.wrap ((((i + 1 : Nat) : Int) : Int) - 1) = ((i + 1 - 1 : Nat) : Int)) (an (rfI ((i + 1 - 1 : Nat) : Int)) (an (ints_at ge_l_i11) (an ((by have k := lessOk (e_l_i1) (e_l_i11); rw [h2] at k; exact k) : Con Try.prog 90 [.z e_l_i1, .z e_l_i11] (.v (.bool false))) (an ((wi (by omega)) : IntKind.i64.wrap ((((i + 1 : Nat) : Int) : Int) + 1) = ((i + 1 + 1 : Nat) : Int)) trivial)))))))) fun ac wd r => again0 (by omega) ac wd ⟨trivial, r⟩
      | true =>
        have qh2 := of_decide_eq_true h2
        exact absurd (hs i _ _ (by simpa using ge_l_i11) ge_l_i1) (by omega)
set_option maxRecDepth 100000 in
theorem pdqSort (l : List Int) (k : Nat) (hs : Rising l) (hb : l.length ≤ 12) : Con Try.prog 80 [.d (.ro 1 (ints l)), .z 0, .n l.length, .n k] (.tu []) := by
  refine Con.intro (by kernel_rfl) rfl rfl 134 rfl rfl fun w0 K ac hK r => ?_
  refine toHead (todo' := hd Try.f80 0) (E' := [(0, .d (.ro 1 (ints l))), (1, .z 0), (2, .n l.length), (3, .n k), (8, .d (.v (.bool true))), (9, .d (.v (.bool true)))]) (M' := []) tb_ok mixed_ok hK [] 2000 [] [0, 1, 2, 3, 8, 9] r (by kernel_rfl) trivial fun ac wd r => ?_
  cases h0 : (decide ((((l.length : Nat) : Int) : Int) ≤ 12)) with
  | false =>
    have qh0 := of_decide_eq_false h0
    exact absurd qh0 (by omega)
  | true =>
    have qh0 := of_decide_eq_true h0
    exact toRet tb_ok mixed_ok hK rfl [(2, [(2, .z (((l.length : Nat) : Int)))]), (3, [(1, .b true)]), (4, [(3, .con (.tu []))])] 2000 r (by kernel_rfl) (an ((wi (by omega)) : IntKind.i64.wrap ((((l.length : Nat) : Int) : Int) - 0) = ((l.length : Nat) : Int)) (an h0 (an (insSort l hs (by omega)) trivial)))
set_option maxRecDepth 100000 in
theorem sortOk (l : List Int) (hs : Rising l) (hb : l.length ≤ 6) : Con Try.prog 70 [.d (.ro 1 (ints l))] (.tu []) := by
  refine Con.intro (by kernel_rfl) rfl rfl 11 rfl rfl fun w0 K ac hK r => ?_
  exact toRet tb_ok mixed_ok hK rfl [(0, [(1, .z (((l.length : Nat) : Int)))]), (1, [(3, .z (((l.length : Nat) : Int))), (4, .con (.n (blen l.length))), (5, .con (.tu []))])] 2000 r (by kernel_rfl) (an ((by simp) : (((ints l).length : Nat) : Int) = ((l.length : Nat) : Int)) (an ((wu (by omega)) : IntKind.u64.wrap (((l.length : Nat) : Int)) = ((l.length : Nat) : Int)) (an (bitsLen l.length (by omega)) (an (pdqSort l (blen l.length) hs (by omega)) trivial))))
def ddStep (l : List Int) (p : Nat) (o : List Int) : List Int := match l[p]? with | some a => (if 0 < p ∧ l[p - 1]? = some a then o else o ++ [a]) | none => o
def ddTo (l : List Int) : Nat → List Int
  | 0 => []
  | p + 1 => ddStep l p (ddTo l p)
def wr (l : List Int) (k : Nat) : Nat → List Int
  | 0 => l
  | j + 1 => match l[k + (j + 1)]? with | some a => (if l[k + j]? = some a then wr l k j else (wr l k j).set (ddTo l (k + 1 + j)).length a) | none => wr l k j
theorem ddTo_same {l : List Int} {p : Nat} {a : Int} (h : l[p]? = some a) (hp : 0 < p) (h2 : l[p - 1]? = some a) : ddTo l (p + 1) = ddTo l p := by rw [ddTo, ddStep, h]; simp [hp, h2]
theorem ddTo_new {l : List Int} {p : Nat} {a b : Int} (h : l[p]? = some a) (h2 : l[p - 1]? = some b) (hab : a ≠ b) : ddTo l (p + 1) = ddTo l p ++ [a] := by
  rw [ddTo, ddStep, h]; simp only [h2]; rw [if_neg]; rintro ⟨-, e⟩; cases e; exact hab rfl
theorem ddTo_one {l : List Int} {a : Int} (h : l[0]? = some a) : ddTo l 1 = [a] := by rw [ddTo, ddStep, h]; simp [ddTo]
theorem ddTo_le (l : List Int) (p : Nat) : (ddTo l (p + 1)).length ≤ (ddTo l p).length + 1 := by
  rw [ddTo, ddStep]; split
  · split <;> simp
  · omega
theorem dd_le {l : List Int} {k : Nat} (h : (ddTo l (k + 1)).length ≤ k) : ∀ j, (ddTo l (k + 1 + j)).length ≤ k + j
  | 0 => h
  | j + 1 => by have h1 := dd_le h j; have h2 := ddTo_le l (k + 1 + j); rw [← Nat.add_assoc]; omega
@[simp] theorem wr_len (l : List Int) (k : Nat) : ∀ j, (wr l k j).length = l.length
  | 0 => rfl
  | j + 1 => by
    rw [wr]; split
    · split
      · exact wr_len l k j
      · rw [List.length_set, wr_len l k j]
    · exact wr_len l k j
theorem wr_at {l : List Int} {k : Nat} (h : (ddTo l (k + 1)).length ≤ k) : ∀ {j p : Nat}, k + j ≤ p → (wr l k j)[p]? = l[p]?
  | 0, p, _ => rfl
  | j + 1, p, hp => by
    have h1 := dd_le h j
    rw [wr]; split
    · split
      · exact wr_at h (by omega)
      · rw [List.getElem?_set, if_neg (by omega)]; exact wr_at h (by omega)
    · exact wr_at h (by omega)
theorem wr_same {l : List Int} {k j : Nat} {a : Int} (h : l[k + (j + 1)]? = some a) (h2 : l[k + j]? = some a) : wr l k (j + 1) = wr l k j := by rw [wr, h]; simp [h2]
theorem wr_new {l : List Int} {k j : Nat} {a b : Int} (h : l[k + (j + 1)]? = some a) (h2 : l[k + j]? = some b) (hab : a ≠ b) : wr l k (j + 1) = (wr l k j).set (ddTo l (k + 1 + j)).length a := by
  rw [wr, h]; simp only [h2]; rw [if_neg]; intro e; cases e; exact hab rfl
theorem wr_take {l : List Int} {k : Nat} (h : ddTo l (k + 1) = l.take k) (hk : k < l.length) : ∀ {j : Nat}, k + 1 + j ≤ l.length → (wr l k j).take (ddTo l (k + 1 + j)).length = ddTo l (k + 1 + j)
  | 0, _ => by
    show l.take (ddTo l (k + 1)).length = ddTo l (k + 1)
    rw [h, List.length_take, Nat.min_eq_left (by omega)]
  | j + 1, hj => by
    have hle : (ddTo l (k + 1)).length ≤ k := by rw [h, List.length_take]; omega
    have h1 := dd_le hle j
    have ih := wr_take h hk (j := j) (by omega)
    have e1 : l[k + 1 + j]? = some l[k + 1 + j] := List.getElem?_eq_getElem (by omega)
    have e2 : l[k + j]? = some l[k + j] := List.getElem?_eq_getElem (by omega)
    have e3 : k + 1 + j - 1 = k + j := by omega
    have e4 : k + (j + 1) = k + 1 + j := by omega
    rw [← Nat.add_assoc]
    by_cases hab : l[k + 1 + j] = l[k + j]
    · rw [ddTo_same e1 (by omega) (by rw [e3, e2, hab]), wr_same (by rw [e4]; exact e1) (by rw [e2, hab])]; exact ih
    · rw [ddTo_new e1 (by rw [e3]; exact e2) hab, wr_new (by rw [e4]; exact e1) e2 hab]
      rw [List.length_append, List.length_singleton, List.take_succ_eq_append_getElem (by rw [List.length_set, wr_len]; omega), List.take_set_of_le (Nat.le_refl _), ih, List.getElem_set_self]
theorem dd_short {l : List Int} (h : l.length < 2) : ddTo l l.length = l := by
  match l, h with
  | [], _ => rfl
  | [a], _ => exact ddTo_one rfl
theorem ints_take (l : List Int) (n : Nat) : (ints l).take n = ints (l.take n) := by unfold ints; rw [List.map_take]
theorem rwB {T k : Nat} {a b : List (List DV)} (h : a = b) : [Blk.rw T k a] = [.rw T k b] := by rw [h]
theorem cut_take {A B : List (List DV)} {n : Nat} (h : n ≤ A.length) : (A.take n ++ B).take n = A.take n := by
  rw [List.take_append_of_le_length (by simp; omega), List.take_take, Nat.min_self]
theorem dd_start {l : List Int} (h : 0 < l.length) : ddTo l 1 = l.take 1 := by
  match l, h with
  | a :: r, _ => exact ddTo_one rfl
theorem dd_next {l : List Int} {k : Nat} {a : Int} (h : l[k]? = some a) : l.take (k + 1) = l.take k ++ [a] := by
  obtain ⟨hk, rfl⟩ := List.getElem?_eq_some_iff.1 h
  rw [List.take_succ_eq_append_getElem hk]
set_option maxRecDepth 100000 in
theorem compactOk (l : List Int) (hb : l.length < 1073741824) : ConM Try.prog 72 [.sl 0 (l.length)] [.rw 3 1 (ints l)] (.sl 0 (ddTo l l.length).length) ([.rw 3 1 (ints (ddTo l l.length))]) := by
  refine ConM.intro (by kernel_rfl) rfl rfl 61 rfl rfl fun D w0 K b ac wd hK (hbm : b.m = 1) r => ?_
  cases h0 : (decide ((((l.length : Nat) : Int) : Int) < 2)) with
  | false =>
    have qh0 := of_decide_eq_false h0
    refine toHeadM (todo' := hd Try.f72 0) (E' := [(0, .sl 0 (l.length)), (3, .n (0 + 1))]) (M' := [.rw 3 1 (ints l)]) tb_ok mixed_ok hK hbm [(1, [(2, .b false)])] 2000 [0] [0, 3] r (by kernel_rfl) (an h0 trivial) fun ac wd r => ?_
    refine Goes.rounds (Φ := fun (i : Nat) ac wd => (i + 1 ≤ l.length ∧ ddTo l (i + 1) = l.take (i + 1)) ∧ RB D w0 K 61 b [(0, .sl 0 (l.length)), (3, .n (i + 1))] [.rw 3 1 (ints l)] ac wd) (l.length) ?_ (Nat.zero_le _) ⟨⟨by omega, dd_start (by omega)⟩, r⟩
    clear r
    rintro i hi0 again0 ac wd ⟨hv0, r⟩
    obtain ⟨hi2, hi3⟩ := hv0
    cases h1 : (decide ((((i + 1 : Nat) : Int) : Int) < ((l.length : Nat) : Int))) with
    | false =>
      have qh1 := of_decide_eq_false h1
      refine castM (y := .sl 0 (l.length)) (N' := [.rw 3 1 (ints l)]) ((by first | (rw [dd_short (by omega)]; done) | (rw [show ddTo l l.length = l by rw [show l.length = i + 1 by omega, hi3]; exact List.take_of_length_le (by omega)]; done) | (rw [show l.length = i + 1 + 1 + j by omega]))) ((by first | (rw [dd_short (by omega)]; done) | (rw [show ddTo l l.length = l by rw [show l.length = i + 1 by omega, hi3]; exact List.take_of_length_le (by omega)]; done) | (refine rwB ?_; rw [cut_take (by rw [List.length_map, wr_len]; have := dd_le hlt j; omega), ints_take, wr_take hdd (by omega) (by omega)]; rw [show l.length = i + 1 + 1 + j by omega]))) ?_
      exact toRetM tb_ok mixed_ok hK rfl hbm [(4, [(3, .b false)])] 2000 [0] r (by kernel_rfl) (an h1 trivial)
    | true =>
      have qh1 := of_decide_eq_true h1
      obtain ⟨e_l_i1, ge_l_i1⟩ : ∃ x, l[i + 1]? = some x := ⟨_, List.getElem?_eq_getElem (by omega)⟩
      obtain ⟨e_l_i11, ge_l_i11⟩ : ∃ x, l[i + 1 - 1]? = some x := ⟨_, List.getElem?_eq_getElem (by omega)⟩
      cases h2 : ((e_l_i1 : Int) == e_l_i11) with
      | false =>
        have qh2 := ne_of_beq_false h2
        exact toHeadM (todo' := hd Try.f72 0) tb_ok mixed_ok hK hbm [(4, [(3, .b true)]), (5, [(1, .z (((i + 1 + 1 : Nat) : Int)))]), (6, [(2, .n (i + 1)), (3, .ix 0 [.z e_l_i1]), (6, .z (((i + 1 - 1 : Nat) : Int))), (7, .n (i + 1 - 1)), (8, .ix 0 [.z e_l_i11]), (9, .b false)])] 2000 [0] [0, 3] r (by kernel_rfl) (an h1 (an (rfI ((i + 1 : Nat) : Int)) (an ((by first | omega | (have := dd_le hlt j; omega)) : (i + 1) < (l.length)) (an ((by simp <;> omega) : (l.length) ≤ (ints l : List (List DV)).length) (an (ints_at ge_l_i1) (an ((wi (by omega)) : IntKind.i64.wrap ((((i + 1 : Nat) : Int) : Int) - 1) = ((i + 1 - 1 : Nat) : Int)) (an (rfI ((i + 1 - 1 : Nat) : Int)) (an ((by first | omega | (have := dd_le hlt j; omega)) : (i + 1 - 1) < (l.length)) (an ((by simp <;> omega) : (l.length) ≤ (ints l : List (List DV)).length) (an (ints_at ge_l_i11) (an h2 (an ((wi (by omega)) : IntKind.i64.wrap ((((i + 1 : Nat) : Int) : Int) + 1) = ((i + 1 + 1 : Nat) : Int)) trivial)))))))))))) fun ac wd r => again0 (by omega) ac wd ⟨⟨by omega, by rw [ddTo_new (p := i + 1) ge_l_i1 ge_l_i11 (by omega), hi3, ← dd_next ge_l_i1]⟩, r⟩
      | true =>
        have qh2 := eq_of_beq h2
        have hdd : ddTo l (i + 1 + 1) = l.take (i + 1) := by rw [ddTo_same (p := i + 1) ge_l_i1 (by omega) (by rw [ge_l_i11, ‹e_l_i1 = e_l_i11›])]; exact hi3
        have hlt : (ddTo l (i + 1 + 1)).length ≤ i + 1 := by rw [hdd, List.length_take]; omega
        refine toHeadM (todo' := hd Try.f72 1) (E' := [(0, .sl 0 (l.length)), (3, .n (i + 1)), (4, .sb 0 1 (i + 1) (l.length - (i + 1))), (5, .z 1)]) (M' := [.rw 3 1 (ints l)]) tb_ok mixed_ok hK hbm [(4, [(3, .b true)]), (6, [(2, .n (i + 1)), (3, .ix 0 [.z e_l_i1]), (6, .z (((i + 1 - 1 : Nat) : Int))), (7, .n (i + 1 - 1)), (8, .ix 0 [.z e_l_i11]), (9, .b true)]), (7, [(2, .n (i + 1))])] 2000 [0] [0, 3, 4, 5] r (by kernel_rfl) (an h1 (an (rfI ((i + 1 : Nat) : Int)) (an ((by first | omega | (have := dd_le hlt j; omega)) : (i + 1) < (l.length)) (an ((by simp <;> omega) : (l.length) ≤ (ints l : List (List DV)).length) (an (ints_at ge_l_i1) (an ((wi (by omega)) : IntKind.i64.wrap ((((i + 1 : Nat) : Int) : Int) - 1) = ((i + 1 - 1 : Nat) : Int)) (an (rfI ((i + 1 - 1 : Nat) : Int)) (an ((by first | omega | (have := dd_le hlt j; omega)) : (i + 1 - 1) < (l.length)) (an ((by simp <;> omega) : (l.length) ≤ (ints l : List (List DV)).length) (an (ints_at ge_l_i11) (an h2 (an (rfI ((i + 1 : Nat) : Int)) (an ((by first | omega | (have := dd_le hlt j; omega)) : (i + 1) < (l.length)) (an ((by simp <;> omega) : (l.length) = (ints l : List (List DV)).length) trivial)))))))))))))) fun ac wd r => ?_
        refine Goes.rounds (Φ := fun (j : Nat) ac wd => (i + 1 + 1 + j ≤ l.length) ∧ RB D w0 K 61 b [(0, .sl 0 (l.length)), (3, .n ((ddTo l (i + 1 + 1 + j)).length)), (4, .sb 0 1 (i + 1) (l.length - (i + 1))), (5, .n (j + 1))] [.rw 3 1 (ints (wr l (i + 1) j))] ac wd) (l.length) ?_ (Nat.zero_le _) ⟨by omega, (r).cast (by rw [hdd]; simp; omega) rfl⟩
        clear r
        rintro j hi1 again1 ac wd ⟨hv1, r⟩
        cases h3 : (decide ((((j + 1 : Nat) : Int) : Int) < ((l.length - (i + 1) : Nat) : Int))) with
        | false =>
          have qh3 := of_decide_eq_false h3
          have hddj := dd_le hlt j
          refine castM (y := .sl 0 ((ddTo l (i + 1 + 1 + j)).length)) (N' := [.rw 3 1 (((ints (wr l (i + 1) j)).take ((ddTo l (i + 1 + 1 + j)).length) ++ (List.replicate (l.length - ((ddTo l (i + 1 + 1 + j)).length)) ([.z 0] : List DV) ++ (ints (wr l (i + 1) j)).drop (((ddTo l (i + 1 + 1 + j)).length) + (l.length - ((ddTo l (i + 1 + 1 + j)).length))))).take ((ddTo l (i + 1 + 1 + j)).length))]) ((by first | (rw [dd_short (by omega)]; done) | (rw [show ddTo l l.length = l by rw [show l.length = i + 1 by omega, hi3]; exact List.take_of_length_le (by omega)]; done) | (rw [show l.length = i + 1 + 1 + j by omega]))) ((by first | (rw [dd_short (by omega)]; done) | (rw [show ddTo l l.length = l by rw [show l.length = i + 1 by omega, hi3]; exact List.take_of_length_le (by omega)]; done) | (refine rwB ?_; rw [cut_take (by rw [List.length_map, wr_len]; have := dd_le hlt j; omega), ints_take, wr_take hdd (by omega) (by omega)]; rw [show l.length = i + 1 + 1 + j by omega]))) ?_
          exact toRetM tb_ok mixed_ok hK rfl hbm [(9, [(3, .b false)]), (14, [(2, .n ((ddTo l (i + 1 + 1 + j)).length))]), (15, [(2, .n ((ddTo l (i + 1 + 1 + j)).length))])] 2000 [0] r (by kernel_rfl) (an h3 (an (rfI (((ddTo l (i + 1 + 1 + j)).length : Nat) : Int)) (an ((by first | omega | (have := dd_le hlt j; omega)) : ((ddTo l (i + 1 + 1 + j)).length) < (l.length)) (an ((by simp <;> omega) : (l.length) = (ints (wr l (i + 1) j) : List (List DV)).length) (an ((by first | omega | (have := dd_le hlt j; omega)) : 0 < (l.length - ((ddTo l (i + 1 + 1 + j)).length))) (an ((by simp <;> omega) : ((ddTo l (i + 1 + 1 + j)).length) + (l.length - ((ddTo l (i + 1 + 1 + j)).length)) ≤ (ints (wr l (i + 1) j) : List (List DV)).length) (an (rfI (((ddTo l (i + 1 + 1 + j)).length : Nat) : Int)) (an ((by first | omega | (have := dd_le hlt j; omega)) : ((ddTo l (i + 1 + 1 + j)).length) ≤ (l.length)) (an ((by simp <;> omega) : (l.length) = ((ints (wr l (i + 1) j)).take ((ddTo l (i + 1 + 1 + j)).length) ++ (List.replicate (l.length - ((ddTo l (i + 1 + 1 + j)).length)) ([.z 0] : List DV) ++ (ints (wr l (i + 1) j)).drop (((ddTo l (i + 1 + 1 + j)).length) + (l.length - ((ddTo l (i + 1 + 1 + j)).length)))) : List (List DV)).length) trivial)))))))))
        | true =>
          have qh3 := of_decide_eq_true h3
          obtain ⟨e_l_i1j1, ge_l_i1j1⟩ : ∃ x, l[i + 1 + (j + 1)]? = some x := ⟨_, List.getElem?_eq_getElem (by omega)⟩
          obtain ⟨e_l_i1j11, ge_l_i1j11⟩ : ∃ x, l[i + 1 + (j + 1 - 1)]? = some x := ⟨_, List.getElem?_eq_getElem (by omega)⟩
          have hddj := dd_le hlt j
          obtain ⟨old, gold⟩ : ∃ x, (wr l (i + 1) j)[(ddTo l (i + 1 + 1 + j)).length]? = some x := ⟨_, List.getElem?_eq_getElem (by rw [wr_len]; omega)⟩
          cases h4 : ((e_l_i1j1 : Int) != e_l_i1j11) with
          | false =>
            have qh4 := eq_of_bne h4
            exact toHeadM (todo' := hd Try.f72 1) (E' := [(0, .sl 0 (l.length)), (3, .n ((ddTo l (i + 1 + 1 + j)).length)), (4, .sb 0 1 (i + 1) (l.length - (i + 1))), (5, .n (j + 1 + 1))]) (M' := [.rw 3 1 (ints (wr l (i + 1) j))]) tb_ok mixed_ok hK hbm [(9, [(3, .b true)]), (10, [(1, .z (((j + 1 + 1 : Nat) : Int)))]), (11, [(2, .n (j + 1)), (3, .ix 0 [.z e_l_i1j1]), (6, .z (((j + 1 - 1 : Nat) : Int))), (7, .n (j + 1 - 1)), (8, .ix 0 [.z e_l_i1j11]), (9, .b false)])] 2000 [0] [0, 3, 4, 5] r (by kernel_rfl) (an h3 (an (rfI ((j + 1 : Nat) : Int)) (an ((by first | omega | (have := dd_le hlt j; omega)) : (j + 1) < (l.length - (i + 1))) (an ((by simp <;> omega) : (i + 1) + (l.length - (i + 1)) ≤ (ints (wr l (i + 1) j) : List (List DV)).length) (an (ints_at (by rw [wr_at hlt (by omega)]; exact ge_l_i1j1) : (ints (wr l (i + 1) j))[i + 1 + (j + 1)]? = some [.z e_l_i1j1]) (an ((wi (by omega)) : IntKind.i64.wrap ((((j + 1 : Nat) : Int) : Int) - 1) = ((j + 1 - 1 : Nat) : Int)) (an (rfI ((j + 1 - 1 : Nat) : Int)) (an ((by first | omega | (have := dd_le hlt j; omega)) : (j + 1 - 1) < (l.length - (i + 1))) (an ((by simp <;> omega) : (i + 1) + (l.length - (i + 1)) ≤ (ints (wr l (i + 1) j) : List (List DV)).length) (an (ints_at (by rw [wr_at hlt (by omega)]; exact ge_l_i1j11) : (ints (wr l (i + 1) j))[i + 1 + (j + 1 - 1)]? = some [.z e_l_i1j11]) (an h4 (an ((wi (by omega)) : IntKind.i64.wrap ((((j + 1 : Nat) : Int) : Int) + 1) = ((j + 1 + 1 : Nat) : Int)) trivial)))))))))))) fun ac wd r => again1 (by omega) ac wd ⟨by omega, r.cast (by have e : i + 1 + 1 + (j + 1) = (i + 1 + (j + 1)) + 1 := (by omega); have e2 : i + 1 + (j + 1) = i + 1 + 1 + j := (by omega); rw [e]; first | (rw [ddTo_new (p := i + 1 + (j + 1)) ge_l_i1j1 (by have k := ge_l_i1j11; simpa using k) (by omega), e2]; simp; done) | (rw [ddTo_same (p := i + 1 + (j + 1)) ge_l_i1j1 (by omega) (by have k := ge_l_i1j11; rw [show e_l_i1j1 = e_l_i1j11 by omega]; simpa using k), e2]; done)) (by first | (rw [ints_set, wr_new (k := i + 1) (j := j) ge_l_i1j1 (by have k := ge_l_i1j11; simpa using k) (by omega)]; done) | (rw [wr_same (k := i + 1) (j := j) ge_l_i1j1 (by have k := ge_l_i1j11; rw [show e_l_i1j1 = e_l_i1j11 by omega]; simpa using k)]; done))⟩
          | true =>
            have qh4 : ¬ _ = _ := bne_iff_ne.1 h4
            exact toHeadM (todo' := hd Try.f72 1) (E' := [(0, .sl 0 (l.length)), (3, .n ((ddTo l (i + 1 + 1 + j)).length + 1)), (4, .sb 0 1 (i + 1) (l.length - (i + 1))), (5, .n (j + 1 + 1))]) (M' := [.rw 3 1 (List.set (ints (wr l (i + 1) j)) ((ddTo l (i + 1 + 1 + j)).length) [.z e_l_i1j1])]) tb_ok mixed_ok hK hbm [(9, [(3, .b true)]), (10, [(1, .z (((j + 1 + 1 : Nat) : Int)))]), (11, [(2, .n (j + 1)), (3, .ix 0 [.z e_l_i1j1]), (6, .z (((j + 1 - 1 : Nat) : Int))), (7, .n (j + 1 - 1)), (8, .ix 0 [.z e_l_i1j11]), (9, .b true)]), (12, [(4, .n (j + 1)), (5, .ix 0 [.z e_l_i1j1]), (6, .n ((ddTo l (i + 1 + 1 + j)).length)), (7, .ix 0 [.z old])]), (13, [(1, .z ((((ddTo l (i + 1 + 1 + j)).length + 1 : Nat) : Int)))])] 2000 [0] [0, 3, 4, 5] r (by kernel_rfl) (an h3 (an (rfI ((j + 1 : Nat) : Int)) (an ((by first | omega | (have := dd_le hlt j; omega)) : (j + 1) < (l.length - (i + 1))) (an ((by simp <;> omega) : (i + 1) + (l.length - (i + 1)) ≤ (ints (wr l (i + 1) j) : List (List DV)).length) (an (ints_at (by rw [wr_at hlt (by omega)]; exact ge_l_i1j1) : (ints (wr l (i + 1) j))[i + 1 + (j + 1)]? = some [.z e_l_i1j1]) (an ((wi (by omega)) : IntKind.i64.wrap ((((j + 1 : Nat) : Int) : Int) - 1) = ((j + 1 - 1 : Nat) : Int)) (an (rfI ((j + 1 - 1 : Nat) : Int)) (an ((by first | omega | (have := dd_le hlt j; omega)) : (j + 1 - 1) < (l.length - (i + 1))) (an ((by simp <;> omega) : (i + 1) + (l.length - (i + 1)) ≤ (ints (wr l (i + 1) j) : List (List DV)).length) (an (ints_at (by rw [wr_at hlt (by omega)]; exact ge_l_i1j11) : (ints (wr l (i + 1) j))[i + 1 + (j + 1 - 1)]? = some [.z e_l_i1j11]) (an h4 (an (rfI ((j + 1 : Nat) : Int)) (an ((by first | omega | (have := dd_le hlt j; omega)) : (j + 1) < (l.length - (i + 1))) (an ((by simp <;> omega) : (i + 1) + (l.length - (i + 1)) ≤ (ints (wr l (i + 1) j) : List (List DV)).length) (an (ints_at (by rw [wr_at hlt (by omega)]; exact ge_l_i1j1) : (ints (wr l (i + 1) j))[i + 1 + (j + 1)]? = some [.z e_l_i1j1]) (an (rfI (((ddTo l (i + 1 + 1 + j)).length : Nat) : Int)) (an ((by first | omega | (have := dd_le hlt j; omega)) : ((ddTo l (i + 1 + 1 + j)).length) < (l.length)) (an ((by simp <;> omega) : (l.length) ≤ (ints (wr l (i + 1) j) : List (List DV)).length) (an (ints_at gold) (an ((wi (by omega)) : IntKind.i64.wrap (((((ddTo l (i + 1 + 1 + j)).length : Nat) : Int) : Int) + 1) = (((ddTo l (i + 1 + 1 + j)).length + 1 : Nat) : Int)) (an ((wi (by omega)) : IntKind.i64.wrap ((((j + 1 : Nat) : Int) : Int) + 1) = ((j + 1 + 1 : Nat) : Int)) trivial))))))))))))))))))))) fun ac wd r => again1 (by omega) ac wd ⟨by omega, r.cast (by have e : i + 1 + 1 + (j + 1) = (i + 1 + (j + 1)) + 1 := (by omega); have e2 : i + 1 + (j + 1) = i + 1 + 1 + j := (by omega); rw [e]; first | (rw [ddTo_new (p := i + 1 + (j + 1)) ge_l_i1j1 (by have k := ge_l_i1j11; simpa using k) (by omega), e2]; simp; done) | (rw [ddTo_same (p := i + 1 + (j + 1)) ge_l_i1j1 (by omega) (by have k := ge_l_i1j11; rw [show e_l_i1j1 = e_l_i1j11 by omega]; simpa using k), e2]; done)) (by first | (rw [ints_set, wr_new (k := i + 1) (j := j) ge_l_i1j1 (by have k := ge_l_i1j11; simpa using k) (by omega)]; done) | (rw [wr_same (k := i + 1) (j := j) ge_l_i1j1 (by have k := ge_l_i1j11; rw [show e_l_i1j1 = e_l_i1j11 by omega]; simpa using k)]; done))⟩
  | true =>
    have qh0 := of_decide_eq_true h0
    refine castM (y := .sl 0 (l.length)) (N' := [.rw 3 1 (ints l)]) ((by first | (rw [dd_short (by omega)]; done) | (rw [show ddTo l l.length = l by rw [show l.length = i + 1 by omega, hi3]; exact List.take_of_length_le (by omega)]; done) | (rw [show l.length = i + 1 + 1 + j by omega]))) ((by first | (rw [dd_short (by omega)]; done) | (rw [show ddTo l l.length = l by rw [show l.length = i + 1 by omega, hi3]; exact List.take_of_length_le (by omega)]; done) | (refine rwB ?_; rw [cut_take (by rw [List.length_map, wr_len]; have := dd_le hlt j; omega), ints_take, wr_take hdd (by omega) (by omega)]; rw [show l.length = i + 1 + 1 + j by omega]))) ?_
    exact toRetM tb_ok mixed_ok hK rfl hbm [(1, [(2, .b true)])] 2000 [0] r (by kernel_rfl) (an h0 trivial)
end Go.Proofs.Ytoijfmfkkmbabaa
namespace Go.Proofs.Ytoijfmfkkmbabaa
open Go.RowKit
theorem ddTo_take {l : List Int} (h : ∀ (i : Nat) (a b : Int), l[i]? = some a → l[i + 1]? = some b → b ≠ a) : ∀ {p : Nat}, p ≤ l.length → ddTo l p = l.take p
  | 0, _ => by simp [ddTo]
  | 1, hp => dd_start (by omega)
  | p + 2, hp => by
    have e1 : l[p + 1]? = some l[p + 1] := List.getElem?_eq_getElem (by omega)
    have e2 : l[p]? = some l[p] := List.getElem?_eq_getElem (by omega)
    rw [ddTo_new (p := p + 1) e1 (by simp) (h p _ _ e2 e1), ddTo_take h (p := p + 1) (by omega), ← dd_next e1]
theorem ddTo_le' (l : List Int) : ∀ p, (ddTo l p).length ≤ p
  | 0 => by simp [ddTo]
  | p + 1 => by have := ddTo_le l p; have := ddTo_le' l p; omega
theorem lone_nodes {l : List Proc} (hs : isSet l = true) : ((ddTo (l.map Proc.node) (l.map Proc.node).length).length = l.length) ↔ lone l = true := by
  have hset := (isSet_iff l).1 hs
  have hle : ∀ (i : Nat) p q, l[i]? = some p → l[i + 1]? = some q → p.node ≤ q.node := fun i p q hp hq => by
    have := hset.2 i p q (List.getElem?_eq_some_iff.1 hq).1 hp hq
    unfold Proc.lt at this
    have := of_decide_eq_true this
    omega
  have mono : ∀ (d i : Nat) p q, l[i]? = some p → l[i + d]? = some q → p.node ≤ q.node := by
    intro d
    induction d with
    | zero => intro i p q hp hq; rw [Nat.add_zero, hp] at hq; cases hq; omega
    | succ d ih =>
      intro i p q hp hq
      have hlt := (List.getElem?_eq_some_iff.1 hq).1
      have e : l[i + d]? = some l[i + d] := List.getElem?_eq_getElem (by omega)
      have h1 := ih i p _ hp e
      have h2 := hle (i + d) _ q e (by rw [Nat.add_assoc]; exact hq)
      omega
  constructor
  · intro h
    cases hl : lone l with
    | true => rfl
    | false =>
      exfalso
      have hn : ¬ Lone l l.length := fun hh => by rw [lone_yes hh] at hl; cases hl
      apply hn
      intro a b p q ha hb hp hq e
      have hpos : 0 < a := by omega
      have e1 : l[a - 1]? = some l[a - 1] := List.getElem?_eq_getElem (by omega)
      have h1 := mono (a - 1 - b) b q _ hq (by rw [show b + (a - 1 - b) = a - 1 by omega]; exact e1)
      have h2 := hle (a - 1) _ p e1 (by rw [show a - 1 + 1 = a by omega]; exact hp)
      have g1 : (l.map Proc.node)[a]? = some p.node := by rw [List.getElem?_map, hp]; rfl
      have g2 : (l.map Proc.node)[a - 1]? = some p.node := by rw [List.getElem?_map, e1]; simp; omega
      have h3 := ddTo_same g1 hpos g2
      have h4 := ddTo_le' (l.map Proc.node) a
      have h5 := dd_le (l := l.map Proc.node) (k := a) (by rw [h3]; exact h4) (l.length - (a + 1))
      rw [show a + 1 + (l.length - (a + 1)) = (l.map Proc.node).length by simp; omega] at h5
      omega
  · intro h
    have hlone := (lone_iff l).1 h
    rw [ddTo_take (fun i a b ha hb => ?_) (Nat.le_refl _), List.take_length, List.length_map]
    rw [List.getElem?_map, Option.map_eq_some_iff] at ha hb
    obtain ⟨p, hp, rfl⟩ := ha
    obtain ⟨q, hq, rfl⟩ := hb
    exact fun e => hlone (i + 1) i q p (List.getElem?_eq_some_iff.1 hq).1 (by omega) hq hp e.symm
theorem set_rising {l : List Proc} (hs : isSet l = true) : Rising (l.map Proc.node) := by
  have hset := (isSet_iff l).1 hs
  intro i a b ha hb
  rw [List.getElem?_map, Option.map_eq_some_iff] at ha hb
  obtain ⟨p, hp, rfl⟩ := ha
  obtain ⟨q, hq, rfl⟩ := hb
  have := hset.2 i p q (List.getElem?_eq_some_iff.1 hq).1 hp hq
  unfold Proc.lt at this
  have := of_decide_eq_true this
  omega
theorem compactI (l : List Int) (i : Nat) (h : i = l.length) (hb : l.length < 1073741824) : ConM Try.prog 72 [.sl 0 i] [.rw 3 1 (ints l)] (.sl 0 (ddTo l l.length).length) [.rw 3 1 (ints (ddTo l l.length))] := by subst h; exact compactOk l hb
theorem nodes_next {l : List Proc} {i : Nat} {p : Proc} (h : l[i]? = some p) : ints ((l.take i).map Proc.node) ++ [[.v (.int .i64 p.node)]] = ints ((l.take (i + 1)).map Proc.node) := by
  obtain ⟨hi, rfl⟩ := List.getElem?_eq_some_iff.1 h
  rw [ints_app, List.take_succ_eq_append_getElem hi, List.map_append]; rfl
set_option maxRecDepth 100000 in
theorem nodesOk (l : List Proc) (hs : Rising (l.map Proc.node)) (hb : l.length ≤ 6) : Con Try.prog 53 [.d (.ro 2 (procs l))] (.ro 1 (ints (ddTo (l.map Proc.node) (l.map Proc.node).length))) := by
  refine Con.intro (by kernel_rfl) rfl rfl 26 rfl rfl fun w0 K ac hK r => ?_
  refine toHead (todo' := hd Try.f53 0) (E' := [(3, .sl 0 (0)), (9, .d (.ro 2 (procs l))), (10, .n l.length), (11, .z 0)]) (M' := [.rw 3 1 ([])]) tb_ok mixed_ok hK [(1, [(1, .z (((l.length : Nat) : Int))), (2, .n2 (0) (l.length))]), (2, [(1, .z (((l.length : Nat) : Int)))])] 2000 [0] [3, 9, 10, 11] r (by kernel_rfl) (an ((by simp) : (((procs l).length : Nat) : Int) = ((l.length : Nat) : Int)) (an (rfl : (0 : Int) = ((0 : Nat) : Int)) (an (rfI ((l.length : Nat) : Int)) (an ((by first | omega | (simp; omega)) : (0) ≤ (l.length)) (an ((by first | omega | (simp; omega)) : 8 * (l.length) ≤ 281474976710656) (an ((by first | omega | (simp; omega)) : (l.length) < 4611686018427387904) (an ((by simp) : (((procs l).length : Nat) : Int) = ((l.length : Nat) : Int)) trivial))))))) fun ac wd r => ?_
  refine Goes.rounds (Φ := fun (i : Nat) ac wd => (i ≤ l.length) ∧ RE' [] w0 K 26 [(3, .sl 0 (i)), (9, .d (.ro 2 (procs l))), (10, .n l.length), (11, .n i)] [.rw 3 1 (ints ((l.take i).map Proc.node))] ac wd) (l.length) ?_ (Nat.zero_le _) ⟨by omega, (r).cast rfl rfl⟩
  clear r
  rintro i hi0 again0 ac wd ⟨hv0, r⟩
  cases h0 : (decide ((((i : Nat) : Int) : Int) < ((l.length : Nat) : Int))) with
  | false =>
    have qh0 := of_decide_eq_false h0
    have hall : l.take i = l := List.take_of_length_le (by omega)
    exact toRet tb_ok mixed_ok hK rfl [(3, [(0, .b false)]), (7, [(1, .call [.d (.ro 1 (ints (l.map Proc.node)))] (.tu []))]), (8, [(1, .mem [0] (.sl 0 ((ddTo (l.map Proc.node) (l.map Proc.node).length).length)) [.rw 3 1 (ints (ddTo (l.map Proc.node) (l.map Proc.node).length))]), (2, .into 200 [(1, [(5, .res (.ro 1 (ints (ddTo (l.map Proc.node) (l.map Proc.node).length))))])])])] 2000 r (by kernel_rfl) (an h0 (an (sortOk (l.map Proc.node) hs (by simp; omega)) (an ((.tu (by simp)) : Ind (.tu [])) (an (rfN (1)) (an ((by simp <;> omega) : (i) = (ints ((l.take i).map Proc.node) : List (List DV)).length) (an ((by rw [froz_ints, hall]) : frozR (ints ((l.take i).map Proc.node)) = ints (l.map Proc.node)) (an ((by rw [hall]; exact compactI (l.map Proc.node) (i) (by simp; omega) (by simp; omega)) : ConM Try.prog 72 [.sl 0 (i)] [.rw 3 1 (ints ((l.take i).map Proc.node))] (.sl 0 ((ddTo (l.map Proc.node) (l.map Proc.node).length).length)) [.rw 3 1 (ints (ddTo (l.map Proc.node) (l.map Proc.node).length))]) (an (rfI (((ddTo (l.map Proc.node) (l.map Proc.node).length).length : Nat) : Int)) (an (rfI (((ddTo (l.map Proc.node) (l.map Proc.node).length).length : Nat) : Int)) (an ((by simp <;> omega) : ((ddTo (l.map Proc.node) (l.map Proc.node).length).length) = (ints (ddTo (l.map Proc.node) (l.map Proc.node).length) : List (List DV)).length) (an (rfN (1)) (an (froz_ints _ : frozR (ints (ddTo (l.map Proc.node) (l.map Proc.node).length)) = ints (ddTo (l.map Proc.node) (l.map Proc.node).length)) trivial))))))))))))
  | true =>
    have qh0 := of_decide_eq_true h0
    obtain ⟨e_l_i, ge_l_i⟩ : ∃ x, l[i]? = some x := ⟨_, List.getElem?_eq_getElem (by omega)⟩
    exact toHead (todo' := hd Try.f53 0) (E' := [(3, .sl 0 (i + (1))), (9, .d (.ro 2 (procs l))), (10, .n l.length), (11, .n (i + 1))]) (M' := [.rw 3 1 (ints ((l.take i).map Proc.node) ++ [[.z e_l_i.node]])]) tb_ok mixed_ok hK [(3, [(0, .b true)]), (4, [(0, .ix (i) [.z e_l_i.node, .u e_l_i.inc])]), (6, [(0, .z (((i + 1 : Nat) : Int)))])] 2000 [0] [3, 9, 10, 11] r (by kernel_rfl) (an h0 (an (rfI ((i : Nat) : Int)) (an (procs_at ge_l_i) (an ((by simp <;> omega) : (i) = (ints ((l.take i).map Proc.node) : List (List DV)).length) (an ((by simp <;> omega) : (1) = ([[.z e_l_i.node]] : List (List DV)).length) (an ((by first | omega | (simp; done) | (simp; omega)) : (2 * ((i) + (1)) + 192) * 8 ≤ 281474976710656) (an ((by first | omega | (simp; done) | (simp; omega)) : (i) + (1) < 4611686018427387904) (an ((by simp [OneR, AV.one, oneC]) : OneR ([[.z e_l_i.node]])) (an ((wi (by omega)) : IntKind.i64.wrap ((((i : Nat) : Int) : Int) + 1) = ((i + 1 : Nat) : Int)) trivial))))))))) fun ac wd r => again0 (by omega) ac wd ⟨by omega, r.cast rfl (by rw [nodes_next ge_l_i])⟩
end Go.Proofs.Ytoijfmfkkmbabaa
namespace Go.Proofs.Ytoijfmfkkmbabaa
open Go.RowKit
theorem idx_pos : ∀ {l : List Nat} {x k : Nat}, x ∈ l → 0 ≤ idx l x k
  | [], x, k, h => by simp at h
  | y :: r, x, k, h => by
    unfold idx; split
    · omega
    · rename_i hne
      rcases List.mem_cons.1 h with e | e
      · exact absurd e.symm hne
      · exact idx_pos e
theorem View.may_zero {v : View} (h : v.id.round ≠ 0) (h0 : 0 ≤ idx v.starts 0 0) : v.may = false := by
  obtain ⟨i, -, h2⟩ := idx_some h0
  exact View.may_no h h2 rfl
theorem View.may_nz {v : View} (h0 : ¬ 0 ≤ idx v.starts 0 0) (j x : Nat) (_ : j < v.starts.length) (hx : v.starts[j]? = some x) : x ≠ 0 := by
  intro e; subst e; exact h0 (idx_pos (List.mem_of_getElem? hx))
theorem View.may_id {v : View} (h : v.id.may = false) : v.may = false := by
  unfold View.may; split
  · rename_i h0
    unfold Vid.may at h
    have h1 := of_decide_eq_false h
    have : v.id.server.may = false := by
      cases hs : v.id.server.may with
      | false => rfl
      | true => exact absurd ⟨hs, .inl h0⟩ h1
    rw [this]; rfl
  · rw [h]; simp
theorem Vid.may_server {v : Vid} (h : v.may = true) : v.server.may = true := (of_decide_eq_true h).1
set_option maxRecDepth 100000 in
theorem viewMay (v : View) (hb : v.bounded) : Con Try.prog 36 [.ag [.u v.id.round, .z v.id.server.node, .u v.id.server.inc, .d (.ro 2 (procs v.members)), .d (.ro 1 (nums v.starts))]] (DV.v (.bool v.may)) := by
  obtain ⟨hb1, hb2⟩ := id hb
  refine Con.intro (by kernel_rfl) rfl rfl 53 rfl rfl fun w0 K ac hK r => ?_
  cases h0 : (v.id.may) with
  | false =>
    rw [show (DV.v (.bool v.may) : DV) = .v (.bool false) from (bv (by first | exact View.may_id (by assumption) | exact View.may_first1 (by omega) (Vid.may_server (by assumption)) (by assumption) | exact View.may_zero (by omega) (of_decide_eq_true (by assumption)) | exact View.may_yes (by omega) (by assumption) (by omega) (by omega) (by omega) (by assumption) (by assumption) (Nat.le_refl _) (View.may_nz (of_decide_eq_false (by assumption))) | exact View.may_bad (by omega) (by first | (left; assumption) | (right; left; omega) | (right; right; left; omega) | (right; right; right; left; omega) | (right; right; right; right; left; assumption) | (right; right; right; right; right; assumption))))]
    exact toRet tb_ok mixed_ok hK rfl [(1, [(2, .con (.v (.bool false)))])] 2000 r (by kernel_rfl) (an ((by have k := viewMayId v.id; rw [h0] at k; exact k) : Con Try.prog 49 [.ag [.u v.id.round, .z v.id.server.node, .u v.id.server.inc]] (.v (.bool false))) trivial)
  | true =>
    cases h1 : ((((v.id.round : Nat) : Int) : Int) == 0) with
    | false =>
      have qh1 := ne_of_beq_false h1
      cases h2 : (decide ((1 : Int) ≤ ((v.members.length : Nat) : Int))) with
      | false =>
        have qh2 := of_decide_eq_false h2
        rw [show (DV.v (.bool v.may) : DV) = .v (.bool false) from (bv (by first | exact View.may_id (by assumption) | exact View.may_first1 (by omega) (Vid.may_server (by assumption)) (by assumption) | exact View.may_zero (by omega) (of_decide_eq_true (by assumption)) | exact View.may_yes (by omega) (by assumption) (by omega) (by omega) (by omega) (by assumption) (by assumption) (Nat.le_refl _) (View.may_nz (of_decide_eq_false (by assumption))) | exact View.may_bad (by omega) (by first | (left; assumption) | (right; left; omega) | (right; right; left; omega) | (right; right; right; left; omega) | (right; right; right; right; left; assumption) | (right; right; right; right; right; assumption))))]
        exact toRet tb_ok mixed_ok hK rfl [(1, [(2, .con (.v (.bool true)))]), (3, [(3, .b false)]), (5, [(2, .z (((v.members.length : Nat) : Int)))]), (6, [(1, .b false)])] 2000 r (by kernel_rfl) (an ((by have k := viewMayId v.id; rw [h0] at k; exact k) : Con Try.prog 49 [.ag [.u v.id.round, .z v.id.server.node, .u v.id.server.inc]] (.v (.bool true))) (an h1 (an ((by simp) : (((procs v.members).length : Nat) : Int) = ((v.members.length : Nat) : Int)) (an h2 trivial))))
      | true =>
        have qh2 := of_decide_eq_true h2
        cases h3 : (decide ((((v.members.length : Nat) : Int) : Int) ≤ 6)) with
        | false =>
          have qh3 := of_decide_eq_false h3
          rw [show (DV.v (.bool v.may) : DV) = .v (.bool false) from (bv (by first | exact View.may_id (by assumption) | exact View.may_first1 (by omega) (Vid.may_server (by assumption)) (by assumption) | exact View.may_zero (by omega) (of_decide_eq_true (by assumption)) | exact View.may_yes (by omega) (by assumption) (by omega) (by omega) (by omega) (by assumption) (by assumption) (Nat.le_refl _) (View.may_nz (of_decide_eq_false (by assumption))) | exact View.may_bad (by omega) (by first | (left; assumption) | (right; left; omega) | (right; right; left; omega) | (right; right; right; left; omega) | (right; right; right; right; left; assumption) | (right; right; right; right; right; assumption))))]
          exact toRet tb_ok mixed_ok hK rfl [(1, [(2, .con (.v (.bool true)))]), (3, [(3, .b false)]), (5, [(2, .z (((v.members.length : Nat) : Int)))]), (6, [(1, .b true), (4, .b false)])] 2000 r (by kernel_rfl) (an ((by have k := viewMayId v.id; rw [h0] at k; exact k) : Con Try.prog 49 [.ag [.u v.id.round, .z v.id.server.node, .u v.id.server.inc]] (.v (.bool true))) (an h1 (an ((by simp) : (((procs v.members).length : Nat) : Int) = ((v.members.length : Nat) : Int)) (an h2 (an h3 trivial)))))
        | true =>
          have qh3 := of_decide_eq_true h3
          cases h4 : (isSet v.members) with
          | false =>
            rw [show (DV.v (.bool v.may) : DV) = .v (.bool false) from (bv (by first | exact View.may_id (by assumption) | exact View.may_first1 (by omega) (Vid.may_server (by assumption)) (by assumption) | exact View.may_zero (by omega) (of_decide_eq_true (by assumption)) | exact View.may_yes (by omega) (by assumption) (by omega) (by omega) (by omega) (by assumption) (by assumption) (Nat.le_refl _) (View.may_nz (of_decide_eq_false (by assumption))) | exact View.may_bad (by omega) (by first | (left; assumption) | (right; left; omega) | (right; right; left; omega) | (right; right; right; left; omega) | (right; right; right; right; left; assumption) | (right; right; right; right; right; assumption))))]
            exact toRet tb_ok mixed_ok hK rfl [(1, [(2, .con (.v (.bool true)))]), (3, [(3, .b false)]), (5, [(2, .z (((v.members.length : Nat) : Int)))]), (6, [(1, .b true), (4, .b true), (9, .con (.v (.bool false)))])] 2000 r (by kernel_rfl) (an ((by have k := viewMayId v.id; rw [h0] at k; exact k) : Con Try.prog 49 [.ag [.u v.id.round, .z v.id.server.node, .u v.id.server.inc]] (.v (.bool true))) (an h1 (an ((by simp) : (((procs v.members).length : Nat) : Int) = ((v.members.length : Nat) : Int)) (an h2 (an h3 (an ((by have k := procSet v.members (by omega); rw [h4] at k; exact k) : Con Try.prog 52 [.d (.ro 2 (procs v.members))] (.v (.bool false))) trivial))))))
          | true =>
            cases h5 : (((((ddTo (v.members.map Proc.node) (v.members.map Proc.node).length).length : Nat) : Int) : Int) == ((v.members.length : Nat) : Int)) with
            | false =>
              have qh5 := ne_of_beq_false h5
              have hlone : lone v.members = false := by
                cases hl : lone v.members with
                | false => rfl
                | true => exact absurd ((lone_nodes (by assumption)).2 hl) (by omega)
              rw [show (DV.v (.bool v.may) : DV) = .v (.bool false) from (bv (by first | exact View.may_id (by assumption) | exact View.may_first1 (by omega) (Vid.may_server (by assumption)) (by assumption) | exact View.may_zero (by omega) (of_decide_eq_true (by assumption)) | exact View.may_yes (by omega) (by assumption) (by omega) (by omega) (by omega) (by assumption) (by assumption) (Nat.le_refl _) (View.may_nz (of_decide_eq_false (by assumption))) | exact View.may_bad (by omega) (by first | (left; assumption) | (right; left; omega) | (right; right; left; omega) | (right; right; right; left; omega) | (right; right; right; right; left; assumption) | (right; right; right; right; right; assumption))))]
              exact toRet tb_ok mixed_ok hK rfl [(1, [(2, .con (.v (.bool true)))]), (3, [(3, .b false)]), (5, [(2, .z (((v.members.length : Nat) : Int)))]), (6, [(1, .b true), (4, .b true), (9, .con (.v (.bool true))), (14, .con (.ro 1 (ints (ddTo (v.members.map Proc.node) (v.members.map Proc.node).length)))), (15, .z ((((ddTo (v.members.map Proc.node) (v.members.map Proc.node).length).length : Nat) : Int))), (17, .b false)])] 2000 r (by kernel_rfl) (an ((by have k := viewMayId v.id; rw [h0] at k; exact k) : Con Try.prog 49 [.ag [.u v.id.round, .z v.id.server.node, .u v.id.server.inc]] (.v (.bool true))) (an h1 (an ((by simp) : (((procs v.members).length : Nat) : Int) = ((v.members.length : Nat) : Int)) (an h2 (an h3 (an ((by have k := procSet v.members (by omega); rw [h4] at k; exact k) : Con Try.prog 52 [.d (.ro 2 (procs v.members))] (.v (.bool true))) (an (nodesOk v.members (set_rising (by assumption)) (by omega)) (an ((by simp) : (((ints (ddTo (v.members.map Proc.node) (v.members.map Proc.node).length)).length : Nat) : Int) = (((ddTo (v.members.map Proc.node) (v.members.map Proc.node).length).length : Nat) : Int)) (an h5 trivial)))))))))
            | true =>
              have qh5 := eq_of_beq h5
              have hlone : lone v.members = true := (lone_nodes (by assumption)).1 (by omega)
              cases h6 : ((((v.starts.length : Nat) : Int) : Int) == ((v.members.length : Nat) : Int)) with
              | false =>
                have qh6 := ne_of_beq_false h6
                rw [show (DV.v (.bool v.may) : DV) = .v (.bool false) from (bv (by first | exact View.may_id (by assumption) | exact View.may_first1 (by omega) (Vid.may_server (by assumption)) (by assumption) | exact View.may_zero (by omega) (of_decide_eq_true (by assumption)) | exact View.may_yes (by omega) (by assumption) (by omega) (by omega) (by omega) (by assumption) (by assumption) (Nat.le_refl _) (View.may_nz (of_decide_eq_false (by assumption))) | exact View.may_bad (by omega) (by first | (left; assumption) | (right; left; omega) | (right; right; left; omega) | (right; right; right; left; omega) | (right; right; right; right; left; assumption) | (right; right; right; right; right; assumption))))]
                exact toRet tb_ok mixed_ok hK rfl [(1, [(2, .con (.v (.bool true)))]), (3, [(3, .b false)]), (5, [(2, .z (((v.members.length : Nat) : Int)))]), (6, [(1, .b true), (4, .b true), (9, .con (.v (.bool true))), (14, .con (.ro 1 (ints (ddTo (v.members.map Proc.node) (v.members.map Proc.node).length)))), (15, .z ((((ddTo (v.members.map Proc.node) (v.members.map Proc.node).length).length : Nat) : Int))), (17, .b true), (22, .z (((v.starts.length : Nat) : Int))), (24, .b false)])] 2000 r (by kernel_rfl) (an ((by have k := viewMayId v.id; rw [h0] at k; exact k) : Con Try.prog 49 [.ag [.u v.id.round, .z v.id.server.node, .u v.id.server.inc]] (.v (.bool true))) (an h1 (an ((by simp) : (((procs v.members).length : Nat) : Int) = ((v.members.length : Nat) : Int)) (an h2 (an h3 (an ((by have k := procSet v.members (by omega); rw [h4] at k; exact k) : Con Try.prog 52 [.d (.ro 2 (procs v.members))] (.v (.bool true))) (an (nodesOk v.members (set_rising (by assumption)) (by omega)) (an ((by simp) : (((ints (ddTo (v.members.map Proc.node) (v.members.map Proc.node).length)).length : Nat) : Int) = (((ddTo (v.members.map Proc.node) (v.members.map Proc.node).length).length : Nat) : Int)) (an h5 (an ((by simp) : (((nums v.starts).length : Nat) : Int) = ((v.starts.length : Nat) : Int)) (an h6 trivial)))))))))))
              | true =>
                have qh6 := eq_of_beq h6
                cases h7 : (decide (0 ≤ idx v.starts 0 0)) with
                | false =>
                  have qh7 := of_decide_eq_false h7
                  rw [show (DV.v (.bool v.may) : DV) = .v (.bool true) from (bv (by first | exact View.may_id (by assumption) | exact View.may_first1 (by omega) (Vid.may_server (by assumption)) (by assumption) | exact View.may_zero (by omega) (of_decide_eq_true (by assumption)) | exact View.may_yes (by omega) (by assumption) (by omega) (by omega) (by omega) (by assumption) (by assumption) (Nat.le_refl _) (View.may_nz (of_decide_eq_false (by assumption))) | exact View.may_bad (by omega) (by first | (left; assumption) | (right; left; omega) | (right; right; left; omega) | (right; right; right; left; omega) | (right; right; right; right; left; assumption) | (right; right; right; right; right; assumption))))]
                  exact toRet tb_ok mixed_ok hK rfl [(1, [(2, .con (.v (.bool true)))]), (3, [(3, .b false)]), (5, [(2, .z (((v.members.length : Nat) : Int)))]), (6, [(1, .b true), (4, .b true), (9, .con (.v (.bool true))), (14, .con (.ro 1 (ints (ddTo (v.members.map Proc.node) (v.members.map Proc.node).length)))), (15, .z ((((ddTo (v.members.map Proc.node) (v.members.map Proc.node).length).length : Nat) : Int))), (17, .b true), (22, .z (((v.starts.length : Nat) : Int))), (24, .b true), (29, .con (.v (.bool false)))])] 2000 r (by kernel_rfl) (an ((by have k := viewMayId v.id; rw [h0] at k; exact k) : Con Try.prog 49 [.ag [.u v.id.round, .z v.id.server.node, .u v.id.server.inc]] (.v (.bool true))) (an h1 (an ((by simp) : (((procs v.members).length : Nat) : Int) = ((v.members.length : Nat) : Int)) (an h2 (an h3 (an ((by have k := procSet v.members (by omega); rw [h4] at k; exact k) : Con Try.prog 52 [.d (.ro 2 (procs v.members))] (.v (.bool true))) (an (nodesOk v.members (set_rising (by assumption)) (by omega)) (an ((by simp) : (((ints (ddTo (v.members.map Proc.node) (v.members.map Proc.node).length)).length : Nat) : Int) = (((ddTo (v.members.map Proc.node) (v.members.map Proc.node).length).length : Nat) : Int)) (an h5 (an ((by simp) : (((nums v.starts).length : Nat) : Int) = ((v.starts.length : Nat) : Int)) (an h6 (an ((by have k := containsNum v.starts 0 (by omega); rw [h7] at k; exact k) : Con Try.prog 54 [.d (.ro 1 (nums v.starts)), .d (.v (.int .u64 0))] (.v (.bool false))) trivial))))))))))))
                | true =>
                  have qh7 := of_decide_eq_true h7
                  rw [show (DV.v (.bool v.may) : DV) = .v (.bool false) from (bv (by first | exact View.may_id (by assumption) | exact View.may_first1 (by omega) (Vid.may_server (by assumption)) (by assumption) | exact View.may_zero (by omega) (of_decide_eq_true (by assumption)) | exact View.may_yes (by omega) (by assumption) (by omega) (by omega) (by omega) (by assumption) (by assumption) (Nat.le_refl _) (View.may_nz (of_decide_eq_false (by assumption))) | exact View.may_bad (by omega) (by first | (left; assumption) | (right; left; omega) | (right; right; left; omega) | (right; right; right; left; omega) | (right; right; right; right; left; assumption) | (right; right; right; right; right; assumption))))]
                  exact toRet tb_ok mixed_ok hK rfl [(1, [(2, .con (.v (.bool true)))]), (3, [(3, .b false)]), (5, [(2, .z (((v.members.length : Nat) : Int)))]), (6, [(1, .b true), (4, .b true), (9, .con (.v (.bool true))), (14, .con (.ro 1 (ints (ddTo (v.members.map Proc.node) (v.members.map Proc.node).length)))), (15, .z ((((ddTo (v.members.map Proc.node) (v.members.map Proc.node).length).length : Nat) : Int))), (17, .b true), (22, .z (((v.starts.length : Nat) : Int))), (24, .b true), (29, .con (.v (.bool true)))])] 2000 r (by kernel_rfl) (an ((by have k := viewMayId v.id; rw [h0] at k; exact k) : Con Try.prog 49 [.ag [.u v.id.round, .z v.id.server.node, .u v.id.server.inc]] (.v (.bool true))) (an h1 (an ((by simp) : (((procs v.members).length : Nat) : Int) = ((v.members.length : Nat) : Int)) (an h2 (an h3 (an ((by have k := procSet v.members (by omega); rw [h4] at k; exact k) : Con Try.prog 52 [.d (.ro 2 (procs v.members))] (.v (.bool true))) (an (nodesOk v.members (set_rising (by assumption)) (by omega)) (an ((by simp) : (((ints (ddTo (v.members.map Proc.node) (v.members.map Proc.node).length)).length : Nat) : Int) = (((ddTo (v.members.map Proc.node) (v.members.map Proc.node).length).length : Nat) : Int)) (an h5 (an ((by simp) : (((nums v.starts).length : Nat) : Int) = ((v.starts.length : Nat) : Int)) (an h6 (an ((by have k := containsNum v.starts 0 (by omega); rw [h7] at k; exact k) : Con Try.prog 54 [.d (.ro 1 (nums v.starts)), .d (.v (.int .u64 0))] (.v (.bool true))) trivial))))))))))))
    | true =>
      have qh1 := eq_of_beq h1
      cases h8 : (decide (v = View.first v.id.server)) with
      | false =>
        have qh8 := of_decide_eq_false h8
        rw [show (DV.v (.bool v.may) : DV) = .v (.bool false) from (bv (by first | exact View.may_id (by assumption) | exact View.may_first1 (by omega) (Vid.may_server (by assumption)) (by assumption) | exact View.may_zero (by omega) (of_decide_eq_true (by assumption)) | exact View.may_yes (by omega) (by assumption) (by omega) (by omega) (by omega) (by assumption) (by assumption) (Nat.le_refl _) (View.may_nz (of_decide_eq_false (by assumption))) | exact View.may_bad (by omega) (by first | (left; assumption) | (right; left; omega) | (right; right; left; omega) | (right; right; right; left; omega) | (right; right; right; right; left; assumption) | (right; right; right; right; right; assumption))))]
        exact toRet tb_ok mixed_ok hK rfl [(1, [(2, .con (.v (.bool true)))]), (3, [(3, .b true)]), (4, [(4, .con (.ag [.v (.int .u64 0), .z v.id.server.node, .u v.id.server.inc, .em 24 2 (procs [v.id.server]), .em 22 1 (nums [0])])), (5, .call [.ag [.u v.id.round, .z v.id.server.node, .u v.id.server.inc, .d (.ro 2 (procs v.members)), .d (.ro 1 (nums v.starts))], .ag [.d (.v (.int .u64 0)), .z v.id.server.node, .u v.id.server.inc, .d (.ro 2 (procs [v.id.server])), .d (.ro 1 (nums [0]))]] (.v (.bool false)))])] 2000 r (by kernel_rfl) (an ((by have k := viewMayId v.id; rw [h0] at k; exact k) : Con Try.prog 49 [.ag [.u v.id.round, .z v.id.server.node, .u v.id.server.inc]] (.v (.bool true))) (an h1 (an (viewFirst v.id.server) (an ((by have k := viewSame v (View.first v.id.server) hb; rw [h8] at k; exact k) : Con Try.prog 50 [.ag [.u v.id.round, .z v.id.server.node, .u v.id.server.inc, .d (.ro 2 (procs v.members)), .d (.ro 1 (nums v.starts))], .ag [.d (.v (.int .u64 0)), .z v.id.server.node, .u v.id.server.inc, .d (.ro 2 (procs [v.id.server])), .d (.ro 1 (nums [0]))]] (.v (.bool false))) (an ((ind_v _) : Ind (.v (.bool false))) (an (rfD (.u v.id.round)) (an (rfD (.z v.id.server.node)) (an (rfD (.u v.id.server.inc)) (an (rfD (.ro 2 (procs v.members))) (an (rfD (.ro 1 (nums v.starts))) (an (rfD (.v (.int .u64 0))) (an (rfD (.z v.id.server.node)) (an (rfD (.u v.id.server.inc)) (an (rfN (2)) (an (rfN ((procs [v.id.server]).length)) (an ((by simp [frozR_map, froz, Proc.row]) : frozR (procs [v.id.server]) = procs [v.id.server]) (an (rfN (1)) (an (rfN ((nums [0]).length)) (an ((by simp [frozR_map, froz, Proc.row]) : frozR (nums [0]) = nums [0]) trivial)))))))))))))))))))
      | true =>
        have qh8 := of_decide_eq_true h8
        rw [show (DV.v (.bool v.may) : DV) = .v (.bool true) from (bv (by first | exact View.may_id (by assumption) | exact View.may_first1 (by omega) (Vid.may_server (by assumption)) (by assumption) | exact View.may_zero (by omega) (of_decide_eq_true (by assumption)) | exact View.may_yes (by omega) (by assumption) (by omega) (by omega) (by omega) (by assumption) (by assumption) (Nat.le_refl _) (View.may_nz (of_decide_eq_false (by assumption))) | exact View.may_bad (by omega) (by first | (left; assumption) | (right; left; omega) | (right; right; left; omega) | (right; right; right; left; omega) | (right; right; right; right; left; assumption) | (right; right; right; right; right; assumption))))]
        exact toRet tb_ok mixed_ok hK rfl [(1, [(2, .con (.v (.bool true)))]), (3, [(3, .b true)]), (4, [(4, .con (.ag [.v (.int .u64 0), .z v.id.server.node, .u v.id.server.inc, .em 24 2 (procs [v.id.server]), .em 22 1 (nums [0])])), (5, .call [.ag [.u v.id.round, .z v.id.server.node, .u v.id.server.inc, .d (.ro 2 (procs v.members)), .d (.ro 1 (nums v.starts))], .ag [.d (.v (.int .u64 0)), .z v.id.server.node, .u v.id.server.inc, .d (.ro 2 (procs [v.id.server])), .d (.ro 1 (nums [0]))]] (.v (.bool true)))])] 2000 r (by kernel_rfl) (an ((by have k := viewMayId v.id; rw [h0] at k; exact k) : Con Try.prog 49 [.ag [.u v.id.round, .z v.id.server.node, .u v.id.server.inc]] (.v (.bool true))) (an h1 (an (viewFirst v.id.server) (an ((by have k := viewSame v (View.first v.id.server) hb; rw [h8] at k; exact k) : Con Try.prog 50 [.ag [.u v.id.round, .z v.id.server.node, .u v.id.server.inc, .d (.ro 2 (procs v.members)), .d (.ro 1 (nums v.starts))], .ag [.d (.v (.int .u64 0)), .z v.id.server.node, .u v.id.server.inc, .d (.ro 2 (procs [v.id.server])), .d (.ro 1 (nums [0]))]] (.v (.bool true))) (an ((ind_v _) : Ind (.v (.bool true))) (an (rfD (.u v.id.round)) (an (rfD (.z v.id.server.node)) (an (rfD (.u v.id.server.inc)) (an (rfD (.ro 2 (procs v.members))) (an (rfD (.ro 1 (nums v.starts))) (an (rfD (.v (.int .u64 0))) (an (rfD (.z v.id.server.node)) (an (rfD (.u v.id.server.inc)) (an (rfN (2)) (an (rfN ((procs [v.id.server]).length)) (an ((by simp [frozR_map, froz, Proc.row]) : frozR (procs [v.id.server]) = procs [v.id.server]) (an (rfN (1)) (an (rfN ((nums [0]).length)) (an ((by simp [frozR_map, froz, Proc.row]) : frozR (nums [0]) = nums [0]) trivial)))))))))))))))))))
end Go.Proofs.Ytoijfmfkkmbabaa
namespace Go.Proofs.Ytoijfmfkkmbabaa
open Go.RowKit
def endN (l : List Slot) (u : List Nat) (i : Nat) : Nat := if u.length = 0 then countS l else min (countS l) (nthN u i)
def handRow (p : Proc) (l : List Slot) (h k : Nat) : List Msg := (List.range k).map fun j => msgAt p l (h + 1 + j)
def handTo (f : Flow) (u : List Nat) (i : Nat) : List Msg := (List.range i).flatMap fun i => match f.streams[i]?, f.view.members[i]?, f.handed[i]? with | some l, some p, some h => handRow p l h (endN l u i - h) | _, _, _ => []
def newH (f : Flow) (u : List Nat) : Nat → List Nat
  | 0 => f.handed
  | i + 1 => (match f.streams[i]?, f.handed[i]? with | some l, some h => (newH f u i).set i (max h (endN l u i)) | _, _ => newH f u i)
theorem handTo_next {f : Flow} {u : List Nat} {i : Nat} {l : List Slot} {p : Proc} {h : Nat} (hl : f.streams[i]? = some l) (hp : f.view.members[i]? = some p) (hh : f.handed[i]? = some h) : handTo f u (i + 1) = handTo f u i ++ handRow p l h (endN l u i - h) := by
  unfold handTo; rw [List.range_succ, List.flatMap_append]; simp [hl, hp, hh]
theorem handRow_next {p : Proc} {l : List Slot} {h k : Nat} {s : Slot} (hs : l[(findS l (h + 1 + k)).toNat]? = some s) : handRow p l h (k + 1) = handRow p l h k ++ [⟨p, h + 1 + k, s.body⟩] := by
  unfold handRow; rw [List.range_succ, List.map_append]; simp [msgAt, hs]
theorem handRow_len (p : Proc) (l : List Slot) (h k : Nat) : (handRow p l h k).length = k := by simp [handRow]
theorem newH_next {f : Flow} {u : List Nat} {i : Nat} {l : List Slot} {h : Nat} (hl : f.streams[i]? = some l) (hh : f.handed[i]? = some h) : newH f u (i + 1) = (newH f u i).set i (max h (endN l u i)) := by rw [newH, hl, hh]
theorem newH_len (f : Flow) (u : List Nat) : ∀ i, (newH f u i).length = f.handed.length
  | 0 => rfl
  | i + 1 => by rw [newH]; split; rw [List.length_set, newH_len f u i]; exact newH_len f u i
theorem newH_at {f : Flow} {u : List Nat} {k h : Nat} (hh : f.handed[k]? = some h) : ∀ {i : Nat}, i ≤ k → (newH f u i)[k]? = some h
  | 0, _ => hh
  | i + 1, hi => by
    rw [newH]; split
    · rw [List.getElem?_set, if_neg (by omega)]; exact newH_at hh (by omega)
    · exact newH_at hh (by omega)
theorem set_same' {l : List Nat} {i h : Nat} (hh : l[i]? = some h) : l.set i (h + 0) = l := by
  apply List.ext_getElem?; intro k
  rw [List.getElem?_set]; split
  · rename_i e; subst e; rw [if_pos (List.getElem?_eq_some_iff.1 hh).1]; exact hh.symm
  · rfl
theorem nums_set (l : List Nat) (i n : Nat) : List.set (nums l) i [.v (.int .u64 ((n : Nat) : Int))] = nums (l.set i n) := by unfold nums; rw [List.map_set]
theorem Flow.owned_ok {f : Flow} {i h : Nat} {l : List Slot} (hl : f.owned.streams[i]? = some l) (hh : f.owned.handed[i]? = some h) : Good l l.length ∧ h ≤ countS l := by
  cases hm : f.may with
  | true =>
    rw [Flow.owned_yes hm] at hl hh
    unfold Flow.may at hm
    exact (@of_decide_eq_true _ (Classical.propDecidable _) hm).2.2.2 i l h hl hh
  | false => rw [Flow.owned_no hm] at hl; simp [Flow.zero] at hl
theorem count_none {l : List Slot} : findS l (countS l + 1) < 0 := by
  obtain ⟨m, h1, h2⟩ := exists_gap l
  rw [countS_eq h1 h2]; omega
theorem count_16 {l : List Slot} (g : Good l l.length) : countS l ≤ 16 := by
  rcases Nat.lt_or_ge 16 (countS l) with h | h
  · have h1 := count_find (l := l) (k := countS l - 1) (by omega)
    obtain ⟨i, h2, h3⟩ := idx_some h1
    rw [List.getElem?_map, Option.map_eq_some_iff] at h3
    obtain ⟨s, h3, h4⟩ := h3
    have := (g i s (List.getElem?_eq_some_iff.1 h3).1 h3).2.1
    omega
  · exact h
theorem endN_le (l : List Slot) (u : List Nat) (i : Nat) : endN l u i ≤ countS l := by unfold endN; split <;> omega
theorem hand_in {l : List Slot} {u : List Nat} {i h j : Nat} (hh : h ≤ countS l) (hj : j ≤ endN l u i - h) (h1 : 0 ≤ findS l (h + 1 + j)) (h2 : u.length = 0 ∨ h + 1 + j ≤ nthN u i) : j + 1 ≤ endN l u i - h := by
  have hc : h + 1 + j ≤ countS l := by
    have := endN_le l u i
    rcases Nat.lt_or_ge (countS l) (h + 1 + j) with hc | hc
    · have e : h + 1 + j = countS l + 1 := by omega
      rw [e] at h1; have := count_none (l := l); omega
    · exact hc
  unfold endN at hj ⊢
  split
  · omega
  · omega
theorem hand_out {l : List Slot} {u : List Nat} {i h j : Nat} (g : Good l l.length) (hj : j ≤ endN l u i - h) (hn : 16 < h + 1 + j ∨ findS l (h + 1 + j) < 0 ∨ (u.length ≠ 0 ∧ nthN u i < h + 1 + j)) : j = endN l u i - h := by
  rcases Nat.lt_or_ge j (endN l u i - h) with hlt | hge
  · exfalso
    have h1 := endN_le l u i
    have h2 := count_16 g
    have h3 := count_find (l := l) (k := h + j) (by omega)
    rw [show h + j + 1 = h + 1 + j by omega] at h3
    rcases hn with hn | hn | ⟨hn, hn2⟩
    · omega
    · omega
    · unfold endN at hlt; rw [if_neg hn] at hlt; omega
  · omega
def Flow.hand (f : Flow) (u : List Nat) : Flow := { f with handed := newH f u f.streams.length }
theorem handTo_len {f : Flow} {u : List Nat} (hg : ∀ (i : Nat) l h, f.streams[i]? = some l → f.handed[i]? = some h → Good l l.length) (i : Nat) : (handTo f u i).length ≤ 16 * i := by
  induction i with
  | zero => simp [handTo]
  | succ i ih =>
    have key : handTo f u (i + 1) = handTo f u i ++ (match f.streams[i]?, f.view.members[i]?, f.handed[i]? with | some l, some p, some h => handRow p l h (endN l u i - h) | _, _, _ => []) := by
      unfold handTo; rw [List.range_succ, List.flatMap_append]; simp
    rw [key, List.length_append]
    split
    · rename_i l p h hl hp hh
      have := count_16 (hg i l h hl hh)
      have := endN_le l u i
      rw [handRow_len]; omega
    · simp; omega
set_option maxRecDepth 100000 in
theorem refHand (f : Flow) (u : List Nat) (hb : f.bounded) (hu : u.length < 1073741824) : Con Try.prog 17 [.ag [.u f.view.id.round, .z f.view.id.server.node, .u f.view.id.server.inc, .d (.ro 2 (procs f.view.members)), .d (.ro 1 (nums f.view.starts)), .d (.ro 1 (streams f.streams)), .d (.ro 1 (nums f.handed))], .d (.ro 1 (nums u))] (.tu [.ag (f.owned.hand u).half, .em 36 4 (msgs (handTo f.owned u f.owned.streams.length))]) := by
  have hbo := Flow.owned_bounded hb
  obtain ⟨hol, hoh⟩ := Flow.owned_len f
  obtain ⟨hbv, hb1, hb2, hb3⟩ := id hbo
  refine Con.intro (by kernel_rfl) rfl rfl 86 rfl rfl fun w0 K ac hK r => ?_
  refine toAt (todo' := aft Try.f17 1) (E' := [(1, .d (.ro 1 (nums u))), (2, .pt 0 0), (4, .pt 1 0), (5, .d (.v (.slice none 0 0)))]) (M' := [.bx 33 [.u f.owned.view.id.round, .z f.owned.view.id.server.node, .u f.owned.view.id.server.inc, .sl 2 ((procs f.owned.view.members).length), .sl 3 ((nums f.owned.view.starts).length), .sl 4 ((streamsO f.owned.streams).length), .sl 5 ((nums f.owned.handed).length)], .bx 33 [.d (.v (.int .u64 0)), .z 0, .d (.v (.int .u64 0)), .d (.v (.slice none 0 0)), .d (.v (.slice none 0 0)), .d (.v (.slice none 0 0)), .d (.v (.slice none 0 0))], .rw 24 2 (procs f.owned.view.members), .rw 22 1 (nums f.owned.view.starts), .rw 67 1 (streamsO f.owned.streams), .rw 22 1 (nums f.owned.handed)]) tb_ok mixed_ok hK [(1, [(1, .con (.ag [.u f.owned.view.id.round, .z f.owned.view.id.server.node, .u f.owned.view.id.server.inc, .em 24 2 (procs f.owned.view.members), .em 22 1 (nums f.owned.view.starts), .em 67 1 (streamsO f.owned.streams), .em 22 1 (nums f.owned.handed)]))])] 4 [0, 1, 2, 3, 4, 5] [1, 2, 4, 5] r (by kernel_rfl) (an (refOwn f (by assumption)) trivial) fun ac wd r => ?_
  have r := r.freeze (M1 := [.bx 33 [.u f.owned.view.id.round, .z f.owned.view.id.server.node, .u f.owned.view.id.server.inc, .sl 2 ((procs f.owned.view.members).length), .sl 3 ((nums f.owned.view.starts).length), .sl 4 ((streamsO f.owned.streams).length), .sl 5 ((nums f.owned.handed).length)], .bx 33 [.d (.v (.int .u64 0)), .z 0, .d (.v (.int .u64 0)), .d (.v (.slice none 0 0)), .d (.v (.slice none 0 0)), .d (.v (.slice none 0 0)), .d (.v (.slice none 0 0))], .rw 24 2 (procs f.owned.view.members), .rw 22 1 (nums f.owned.view.starts), .rw 67 1 (frozR (streamsO f.owned.streams)), .rw 22 1 (nums f.owned.handed)]) (M2 := [.bx 33 [.u f.owned.view.id.round, .z f.owned.view.id.server.node, .u f.owned.view.id.server.inc, .sl 2 ((procs f.owned.view.members).length), .sl 3 ((nums f.owned.view.starts).length), .sl 4 ((streamsO f.owned.streams).length), .sl 5 ((nums f.owned.handed).length)], .bx 33 [.d (.v (.int .u64 0)), .z 0, .d (.v (.int .u64 0)), .d (.v (.slice none 0 0)), .d (.v (.slice none 0 0)), .d (.v (.slice none 0 0)), .d (.v (.slice none 0 0))], .rw 24 2 (procs f.owned.view.members), .rw 22 1 (nums f.owned.view.starts), .rw 67 1 (streams f.owned.streams), .rw 22 1 (nums f.owned.handed)]) [4] (by kernel_rfl) (by rw [froz_streams])
  refine toHead (todo' := hd Try.f17 0) (E' := [(1, .d (.ro 1 (nums u))), (2, .pt 0 0), (4, .pt 1 0), (7, .z 0), (6, .d (.v (.slice none 0 0)))]) (M' := [.bx 33 [.u f.owned.view.id.round, .z f.owned.view.id.server.node, .u f.owned.view.id.server.inc, .sl 2 ((procs f.owned.view.members).length), .sl 3 ((nums f.owned.view.starts).length), .sl 4 ((streamsO f.owned.streams).length), .sl 5 ((nums f.owned.handed).length)], .bx 33 [.d (.v (.int .u64 0)), .z 0, .d (.v (.int .u64 0)), .d (.v (.slice none 0 0)), .d (.v (.slice none 0 0)), .d (.v (.slice none 0 0)), .d (.v (.slice none 0 0))], .rw 24 2 (procs f.owned.view.members), .rw 22 1 (nums f.owned.view.starts), .rw 67 1 (streams f.owned.streams), .rw 22 1 (nums f.owned.handed)]) tb_ok mixed_ok hK [] 2000 [0, 1, 2, 3, 4, 5] [1, 2, 4, 7, 6] r (by kernel_rfl) trivial fun ac wd r => ?_
  refine Goes.rounds (Φ := fun (i : Nat) ac wd => (i ≤ f.owned.streams.length) ∧ RE' [] w0 K 86 [(1, .d (.ro 1 (nums u))), (2, .pt 0 0), (4, .pt 1 0), (7, .n i), (6, .sl 6 ((handTo f.owned u i).length))] [.bx 33 [.u f.owned.view.id.round, .z f.owned.view.id.server.node, .u f.owned.view.id.server.inc, .sl 2 ((procs f.owned.view.members).length), .sl 3 ((nums f.owned.view.starts).length), .sl 4 ((streamsO f.owned.streams).length), .sl 5 ((nums f.owned.handed).length)], .bx 33 [.d (.v (.int .u64 0)), .z 0, .d (.v (.int .u64 0)), .d (.v (.slice none 0 0)), .d (.v (.slice none 0 0)), .d (.v (.slice none 0 0)), .d (.v (.slice none 0 0))], .rw 24 2 (procs f.owned.view.members), .rw 22 1 (nums f.owned.view.starts), .rw 67 1 (streams f.owned.streams), .rw 22 1 (nums (newH f.owned u i)), .rw 36 4 (msgs (handTo f.owned u i))] ac wd) (f.owned.streams.length) ?_ (Nat.zero_le _) ⟨by omega, r.adopt (M1 := [.bx 33 [.u f.owned.view.id.round, .z f.owned.view.id.server.node, .u f.owned.view.id.server.inc, .sl 2 ((procs f.owned.view.members).length), .sl 3 ((nums f.owned.view.starts).length), .sl 4 ((streamsO f.owned.streams).length), .sl 5 ((nums f.owned.handed).length)], .bx 33 [.d (.v (.int .u64 0)), .z 0, .d (.v (.int .u64 0)), .d (.v (.slice none 0 0)), .d (.v (.slice none 0 0)), .d (.v (.slice none 0 0)), .d (.v (.slice none 0 0))], .rw 24 2 (procs f.owned.view.members), .rw 22 1 (nums f.owned.view.starts), .rw 67 1 (streams f.owned.streams), .rw 22 1 (nums f.owned.handed), .rw 36 4 []]) [(6, 36, 4)] [] (by kernel_rfl) (by kernel_rfl)⟩
  clear r
  rintro i hi0 again0 ac wd ⟨hv0, r⟩
  have hnl := newH_len f.owned u i
  cases h0 : (decide ((((i : Nat) : Int) : Int) < ((f.owned.streams.length : Nat) : Int))) with
  | false =>
    have qh0 := of_decide_eq_false h0
    rw [show (.tu [.ag (f.owned.hand u).half, .em 36 4 (msgs (handTo f.owned u f.owned.streams.length))] : DV) = .tu [.ag [.u f.owned.view.id.round, .z f.owned.view.id.server.node, .u f.owned.view.id.server.inc, .em 24 2 (procs f.owned.view.members), .em 22 1 (nums f.owned.view.starts), .em 67 1 (streams f.owned.streams), .em 22 1 (nums (newH f.owned u i))], .em 36 4 (msgs (handTo f.owned u i))] from (by unfold Flow.hand; rw [show f.owned.streams.length = i by omega]; rfl)]
    exact toRet tb_ok mixed_ok hK rfl [(4, [(3, .z (((f.owned.streams.length : Nat) : Int))), (4, .b false)])] 2000 r (by kernel_rfl) (an ((by simp [bytesR]) : (((streamsO f.owned.streams).length : Nat) : Int) = ((f.owned.streams.length : Nat) : Int)) (an h0 (an (rfN ((procs f.owned.view.members).length)) (an (rfN ((nums f.owned.view.starts).length)) (an ((by simp <;> omega) : ((streamsO f.owned.streams).length) = (streams f.owned.streams).length) (an ((by simp <;> omega) : ((nums f.owned.handed).length) = (nums (newH f.owned u i)).length) (an ((by simp <;> omega) : ((handTo f.owned u i).length) = (msgs (handTo f.owned u i)).length) trivial)))))))
  | true =>
    have qh0 := of_decide_eq_true h0
    obtain ⟨e_4bd70, ge_4bd70⟩ : ∃ x, f.owned.streams[i]? = some x := ⟨_, List.getElem?_eq_getElem (by omega)⟩
    have be_4bd70 := hbo.at ge_4bd70
    have ce_4bd70 := be_4bd70.1
    obtain ⟨e_40ea1, ge_40ea1⟩ : ∃ x, f.owned.view.members[i]? = some x := ⟨_, List.getElem?_eq_getElem (by omega)⟩
    obtain ⟨e_849ef, ge_849ef⟩ : ∃ x, f.owned.handed[i]? = some x := ⟨_, List.getElem?_eq_getElem (by omega)⟩
    obtain ⟨gd, hle⟩ := Flow.owned_ok ge_4bd70 ge_849ef
    have hcl := countS_le e_4bd70
    have h16 := count_16 gd
    have hel := endN_le e_4bd70 u i
    have hol16 := handTo_len (f := f.owned) (u := u) (fun i l h hl hh => (Flow.owned_ok hl hh).1) i
    refine toHead (todo' := hd Try.f17 1) (E' := [(1, .d (.ro 1 (nums u))), (2, .pt 0 0), (4, .pt 1 0), (7, .n i), (6, .sl 6 ((handTo f.owned u i).length)), (8, .u (e_849ef + 1))]) (M' := [.bx 33 [.u f.owned.view.id.round, .z f.owned.view.id.server.node, .u f.owned.view.id.server.inc, .sl 2 ((procs f.owned.view.members).length), .sl 3 ((nums f.owned.view.starts).length), .sl 4 ((streamsO f.owned.streams).length), .sl 5 ((nums f.owned.handed).length)], .bx 33 [.d (.v (.int .u64 0)), .z 0, .d (.v (.int .u64 0)), .d (.v (.slice none 0 0)), .d (.v (.slice none 0 0)), .d (.v (.slice none 0 0)), .d (.v (.slice none 0 0))], .rw 24 2 (procs f.owned.view.members), .rw 22 1 (nums f.owned.view.starts), .rw 67 1 (streams f.owned.streams), .rw 22 1 (nums (newH f.owned u i)), .rw 36 4 (msgs (handTo f.owned u i))]) tb_ok mixed_ok hK [(4, [(3, .z (((f.owned.streams.length : Nat) : Int))), (4, .b true)]), (6, [(3, .n (i)), (4, .ix 0 [.u e_849ef]), (5, .z (((e_849ef + 1 : Nat) : Int)))])] 2000 [0, 1, 2, 3, 4, 5, 6] [1, 2, 4, 7, 6, 8] r (by kernel_rfl) (an ((by simp [bytesR]) : (((streamsO f.owned.streams).length : Nat) : Int) = ((f.owned.streams.length : Nat) : Int)) (an h0 (an (rfI ((i : Nat) : Int)) (an ((by first | omega | (simp; omega) | (simp [newH_len]; omega)) : (i) < ((nums f.owned.handed).length)) (an ((by simp <;> omega) : ((nums f.owned.handed).length) ≤ (nums (newH f.owned u i)).length) (an (nums_at (newH_at ge_849ef (by omega)) : (nums (newH f.owned u i))[i]? = some [.u e_849ef]) (an ((wu (by omega)) : IntKind.u64.wrap ((((e_849ef : Nat) : Int) : Int) + 1) = ((e_849ef + 1 : Nat) : Int)) trivial))))))) fun ac wd r => ?_
    refine Goes.rounds (Φ := fun (j : Nat) ac wd => (j ≤ endN e_4bd70 u i - e_849ef) ∧ RE' [] w0 K 86 [(1, .d (.ro 1 (nums u))), (2, .pt 0 0), (4, .pt 1 0), (7, .n i), (6, .sl 6 ((handTo f.owned u i ++ handRow e_40ea1 e_4bd70 e_849ef j).length)), (8, .u (e_849ef + 1 + j))] [.bx 33 [.u f.owned.view.id.round, .z f.owned.view.id.server.node, .u f.owned.view.id.server.inc, .sl 2 ((procs f.owned.view.members).length), .sl 3 ((nums f.owned.view.starts).length), .sl 4 ((streamsO f.owned.streams).length), .sl 5 ((nums f.owned.handed).length)], .bx 33 [.d (.v (.int .u64 0)), .z 0, .d (.v (.int .u64 0)), .d (.v (.slice none 0 0)), .d (.v (.slice none 0 0)), .d (.v (.slice none 0 0)), .d (.v (.slice none 0 0))], .rw 24 2 (procs f.owned.view.members), .rw 22 1 (nums f.owned.view.starts), .rw 67 1 (streams f.owned.streams), .rw 22 1 (nums ((newH f.owned u i).set i (e_849ef + j))), .rw 36 4 (msgs (handTo f.owned u i ++ handRow e_40ea1 e_4bd70 e_849ef j))] ac wd) (16) ?_ (Nat.zero_le _) ⟨by omega, (r).cast (by simp [handRow]) (by rw [set_same' (newH_at ge_849ef (by omega))]; simp [handRow])⟩
    clear r
    rintro j hi1 again1 ac wd ⟨hv1, r⟩
    cases h1 : (decide ((((e_849ef + 1 + j : Nat) : Int) : Int) ≤ 16)) with
    | false =>
      have qh1 := of_decide_eq_false h1
      exact toHead (todo' := hd Try.f17 0) (E' := [(1, .d (.ro 1 (nums u))), (2, .pt 0 0), (4, .pt 1 0), (7, .n (i + 1)), (6, .sl 6 ((handTo f.owned u i ++ handRow e_40ea1 e_4bd70 e_849ef j).length))]) (M' := [.bx 33 [.u f.owned.view.id.round, .z f.owned.view.id.server.node, .u f.owned.view.id.server.inc, .sl 2 ((procs f.owned.view.members).length), .sl 3 ((nums f.owned.view.starts).length), .sl 4 ((streamsO f.owned.streams).length), .sl 5 ((nums f.owned.handed).length)], .bx 33 [.d (.v (.int .u64 0)), .z 0, .d (.v (.int .u64 0)), .d (.v (.slice none 0 0)), .d (.v (.slice none 0 0)), .d (.v (.slice none 0 0)), .d (.v (.slice none 0 0))], .rw 24 2 (procs f.owned.view.members), .rw 22 1 (nums f.owned.view.starts), .rw 67 1 (streams f.owned.streams), .rw 22 1 (nums ((newH f.owned u i).set i (e_849ef + j))), .rw 36 4 (msgs (handTo f.owned u i ++ handRow e_40ea1 e_4bd70 e_849ef j))]) tb_ok mixed_ok hK [(5, [(1, .z (((i + 1 : Nat) : Int)))]), (7, [(1, .b false)])] 2000 [0, 1, 2, 3, 4, 5, 6] [1, 2, 4, 7, 6] r (by kernel_rfl) (an h1 (an ((wi (by omega)) : IntKind.i64.wrap ((((i : Nat) : Int) : Int) + 1) = ((i + 1 : Nat) : Int)) trivial)) fun ac wd r => again0 (by omega) ac wd ⟨by omega, r.cast (by have e := hand_out gd hv1 (by first | exact .inl (by omega) | exact .inr (.inl (by omega)) | exact .inr (.inr ⟨by omega, by omega⟩)); rw [handTo_next ge_4bd70 ge_40ea1 ge_849ef, ← e]) (by have e := hand_out gd hv1 (by first | exact .inl (by omega) | exact .inr (.inl (by omega)) | exact .inr (.inr ⟨by omega, by omega⟩)); rw [handTo_next ge_4bd70 ge_40ea1 ge_849ef, newH_next ge_4bd70 ge_849ef, ← e, show max e_849ef (endN e_4bd70 u i) = e_849ef + j by omega])⟩
    | true =>
      have qh1 := of_decide_eq_true h1
      cases h2 : (decide ((0 : Int) ≤ findS e_4bd70 (e_849ef + 1 + j))) with
      | false =>
        have qh2 := of_decide_eq_false h2
        exact toHead (todo' := hd Try.f17 0) (E' := [(1, .d (.ro 1 (nums u))), (2, .pt 0 0), (4, .pt 1 0), (7, .n (i + 1)), (6, .sl 6 ((handTo f.owned u i ++ handRow e_40ea1 e_4bd70 e_849ef j).length))]) (M' := [.bx 33 [.u f.owned.view.id.round, .z f.owned.view.id.server.node, .u f.owned.view.id.server.inc, .sl 2 ((procs f.owned.view.members).length), .sl 3 ((nums f.owned.view.starts).length), .sl 4 ((streamsO f.owned.streams).length), .sl 5 ((nums f.owned.handed).length)], .bx 33 [.d (.v (.int .u64 0)), .z 0, .d (.v (.int .u64 0)), .d (.v (.slice none 0 0)), .d (.v (.slice none 0 0)), .d (.v (.slice none 0 0)), .d (.v (.slice none 0 0))], .rw 24 2 (procs f.owned.view.members), .rw 22 1 (nums f.owned.view.starts), .rw 67 1 (streams f.owned.streams), .rw 22 1 (nums ((newH f.owned u i).set i (e_849ef + j))), .rw 36 4 (msgs (handTo f.owned u i ++ handRow e_40ea1 e_4bd70 e_849ef j))]) tb_ok mixed_ok hK [(5, [(1, .z (((i + 1 : Nat) : Int)))]), (7, [(1, .b true), (6, .n (i)), (7, .ix 0 [.ro 2 (slots e_4bd70)]), (9, .con (.z (findS e_4bd70 (e_849ef + 1 + j)))), (10, .b false)])] 2000 [0, 1, 2, 3, 4, 5, 6] [1, 2, 4, 7, 6] r (by kernel_rfl) (an h1 (an (rfI ((i : Nat) : Int)) (an ((by first | omega | (simp; omega) | (simp [newH_len]; omega)) : (i) < ((streamsO f.owned.streams).length)) (an ((by simp <;> omega) : ((streamsO f.owned.streams).length) ≤ (streams f.owned.streams).length) (an (streams_at ge_4bd70) (an (findOk _ _ (by omega) : Con Try.prog 34 [.ag [.d (.ro 2 (slots e_4bd70))], .u (e_849ef + 1 + j)] (.z (findS e_4bd70 (e_849ef + 1 + j)))) (an h2 (an ((wi (by omega)) : IntKind.i64.wrap ((((i : Nat) : Int) : Int) + 1) = ((i + 1 : Nat) : Int)) trivial)))))))) fun ac wd r => again0 (by omega) ac wd ⟨by omega, r.cast (by have e := hand_out gd hv1 (by first | exact .inl (by omega) | exact .inr (.inl (by omega)) | exact .inr (.inr ⟨by omega, by omega⟩)); rw [handTo_next ge_4bd70 ge_40ea1 ge_849ef, ← e]) (by have e := hand_out gd hv1 (by first | exact .inl (by omega) | exact .inr (.inl (by omega)) | exact .inr (.inr ⟨by omega, by omega⟩)); rw [handTo_next ge_4bd70 ge_40ea1 ge_849ef, newH_next ge_4bd70 ge_849ef, ← e, show max e_849ef (endN e_4bd70 u i) = e_849ef + j by omega])⟩
      | true =>
        have qh2 := of_decide_eq_true h2
        have hc : 0 ≤ findS e_4bd70 (e_849ef + 1 + j) := by assumption
        obtain ⟨e_eb6f6, ge_eb6f6⟩ := findS_get hc
        cases h3 : ((((u.length : Nat) : Int) : Int) == 0) with
        | false =>
          have qh3 := ne_of_beq_false h3
          cases h4 : (decide ((((e_849ef + 1 + j : Nat) : Int) : Int) ≤ ((nthN u (i) : Nat) : Int))) with
          | false =>
            have qh4 := of_decide_eq_false h4
            exact toHead (todo' := hd Try.f17 0) (E' := [(1, .d (.ro 1 (nums u))), (2, .pt 0 0), (4, .pt 1 0), (7, .n (i + 1)), (6, .sl 6 ((handTo f.owned u i ++ handRow e_40ea1 e_4bd70 e_849ef j).length))]) (M' := [.bx 33 [.u f.owned.view.id.round, .z f.owned.view.id.server.node, .u f.owned.view.id.server.inc, .sl 2 ((procs f.owned.view.members).length), .sl 3 ((nums f.owned.view.starts).length), .sl 4 ((streamsO f.owned.streams).length), .sl 5 ((nums f.owned.handed).length)], .bx 33 [.d (.v (.int .u64 0)), .z 0, .d (.v (.int .u64 0)), .d (.v (.slice none 0 0)), .d (.v (.slice none 0 0)), .d (.v (.slice none 0 0)), .d (.v (.slice none 0 0))], .rw 24 2 (procs f.owned.view.members), .rw 22 1 (nums f.owned.view.starts), .rw 67 1 (streams f.owned.streams), .rw 22 1 (nums ((newH f.owned u i).set i (e_849ef + j))), .rw 36 4 (msgs (handTo f.owned u i ++ handRow e_40ea1 e_4bd70 e_849ef j))]) tb_ok mixed_ok hK [(5, [(1, .z (((i + 1 : Nat) : Int)))]), (7, [(1, .b true), (6, .n (i)), (7, .ix 0 [.ro 2 (slots e_4bd70)]), (9, .con (.z (findS e_4bd70 (e_849ef + 1 + j)))), (10, .b true), (14, .z (((u.length : Nat) : Int))), (15, .b false), (20, .con (.u (nthN u (i)))), (21, .b false)])] 2000 [0, 1, 2, 3, 4, 5, 6] [1, 2, 4, 7, 6] r (by kernel_rfl) (an h1 (an (rfI ((i : Nat) : Int)) (an ((by first | omega | (simp; omega) | (simp [newH_len]; omega)) : (i) < ((streamsO f.owned.streams).length)) (an ((by simp <;> omega) : ((streamsO f.owned.streams).length) ≤ (streams f.owned.streams).length) (an (streams_at ge_4bd70) (an (findOk _ _ (by omega) : Con Try.prog 34 [.ag [.d (.ro 2 (slots e_4bd70))], .u (e_849ef + 1 + j)] (.z (findS e_4bd70 (e_849ef + 1 + j)))) (an h2 (an ((by simp [bytesR]) : (((nums u).length : Nat) : Int) = ((u.length : Nat) : Int)) (an h3 (an (nthOk _ _ (by omega) : Con Try.prog 43 [.d (.ro 1 (nums u)), .n i] (.u (nthN u (i)))) (an h4 (an ((wi (by omega)) : IntKind.i64.wrap ((((i : Nat) : Int) : Int) + 1) = ((i + 1 : Nat) : Int)) trivial)))))))))))) fun ac wd r => again0 (by omega) ac wd ⟨by omega, r.cast (by have e := hand_out gd hv1 (by first | exact .inl (by omega) | exact .inr (.inl (by omega)) | exact .inr (.inr ⟨by omega, by omega⟩)); rw [handTo_next ge_4bd70 ge_40ea1 ge_849ef, ← e]) (by have e := hand_out gd hv1 (by first | exact .inl (by omega) | exact .inr (.inl (by omega)) | exact .inr (.inr ⟨by omega, by omega⟩)); rw [handTo_next ge_4bd70 ge_40ea1 ge_849ef, newH_next ge_4bd70 ge_849ef, ← e, show max e_849ef (endN e_4bd70 u i) = e_849ef + j by omega])⟩
          | true =>
            have qh4 := of_decide_eq_true h4
            exact toHead (todo' := hd Try.f17 1) (E' := [(1, .d (.ro 1 (nums u))), (2, .pt 0 0), (4, .pt 1 0), (7, .n i), (6, .sl 6 ((handTo f.owned u i ++ handRow e_40ea1 e_4bd70 e_849ef j).length + (1))), (8, .u (e_849ef + 1 + j + 1))]) (M' := [.bx 33 [.u f.owned.view.id.round, .z f.owned.view.id.server.node, .u f.owned.view.id.server.inc, .sl 2 ((procs f.owned.view.members).length), .sl 3 ((nums f.owned.view.starts).length), .sl 4 ((streamsO f.owned.streams).length), .sl 5 ((nums f.owned.handed).length)], .bx 33 [.d (.v (.int .u64 0)), .z 0, .d (.v (.int .u64 0)), .d (.v (.slice none 0 0)), .d (.v (.slice none 0 0)), .d (.v (.slice none 0 0)), .d (.v (.slice none 0 0))], .rw 24 2 (procs f.owned.view.members), .rw 22 1 (nums f.owned.view.starts), .rw 67 1 (streams f.owned.streams), .rw 22 1 (List.set (nums ((newH f.owned u i).set i (e_849ef + j))) (i) [.u (e_849ef + 1 + j)]), .rw 36 4 (msgs (handTo f.owned u i ++ handRow e_40ea1 e_4bd70 e_849ef j) ++ [[.z e_40ea1.node, .u e_40ea1.inc, .u (e_849ef + 1 + j), .ro 1 (bytesR e_eb6f6.body)]])]) tb_ok mixed_ok hK [(7, [(1, .b true), (6, .n (i)), (7, .ix 0 [.ro 2 (slots e_4bd70)]), (9, .con (.z (findS e_4bd70 (e_849ef + 1 + j)))), (10, .b true), (14, .z (((u.length : Nat) : Int))), (15, .b false), (20, .con (.u (nthN u (i)))), (21, .b true)]), (8, [(1, .z (((e_849ef + 1 + j + 1 : Nat) : Int)))]), (9, [(3, .n (i)), (4, .ix 0 [.ro 2 (slots e_4bd70)]), (6, .con (.n ((findS e_4bd70 (e_849ef + 1 + j)).toNat)))]), (10, [(5, .n (i)), (6, .ix 0 [.z e_40ea1.node, .u e_40ea1.inc]), (11, .n (i)), (13, .ix 0 [.ro 2 (slots e_4bd70)]), (15, .ix ((findS e_4bd70 (e_849ef + 1 + j)).toNat) [.u e_eb6f6.n, .ro 1 (bytesR e_eb6f6.body)])]), (11, [(4, .n (i)), (5, .ix 0 [.u (e_849ef + j)])])] 2000 [0, 1, 2, 3, 4, 5, 6] [1, 2, 4, 7, 6, 8] r (by kernel_rfl) (an h1 (an (rfI ((i : Nat) : Int)) (an ((by first | omega | (simp; omega) | (simp [newH_len]; omega)) : (i) < ((streamsO f.owned.streams).length)) (an ((by simp <;> omega) : ((streamsO f.owned.streams).length) ≤ (streams f.owned.streams).length) (an (streams_at ge_4bd70) (an (findOk _ _ (by omega) : Con Try.prog 34 [.ag [.d (.ro 2 (slots e_4bd70))], .u (e_849ef + 1 + j)] (.z (findS e_4bd70 (e_849ef + 1 + j)))) (an h2 (an ((by simp [bytesR]) : (((nums u).length : Nat) : Int) = ((u.length : Nat) : Int)) (an h3 (an (nthOk _ _ (by omega) : Con Try.prog 43 [.d (.ro 1 (nums u)), .n i] (.u (nthN u (i)))) (an h4 (an (rfI ((i : Nat) : Int)) (an ((by first | omega | (simp; omega) | (simp [newH_len]; omega)) : (i) < ((streamsO f.owned.streams).length)) (an ((by simp <;> omega) : ((streamsO f.owned.streams).length) ≤ (streams f.owned.streams).length) (an (streams_at ge_4bd70) (an (findNat _ _ (by omega) (by assumption) : Con Try.prog 34 [.ag [.d (.ro 2 (slots e_4bd70))], .u (e_849ef + 1 + j)] (.n ((findS e_4bd70 (e_849ef + 1 + j)).toNat))) (an (rfI ((i : Nat) : Int)) (an ((by first | omega | (simp; omega) | (simp [newH_len]; omega)) : (i) < ((procs f.owned.view.members).length)) (an ((by simp <;> omega) : ((procs f.owned.view.members).length) ≤ (procs f.owned.view.members).length) (an (procs_at ge_40ea1) (an (rfI ((i : Nat) : Int)) (an ((by first | omega | (simp; omega) | (simp [newH_len]; omega)) : (i) < ((streamsO f.owned.streams).length)) (an ((by simp <;> omega) : ((streamsO f.owned.streams).length) ≤ (streams f.owned.streams).length) (an (streams_at ge_4bd70) (an (rfI (((findS e_4bd70 (e_849ef + 1 + j)).toNat : Nat) : Int)) (an (slots_at ge_eb6f6) (an ((by simp <;> omega) : ((handTo f.owned u i ++ handRow e_40ea1 e_4bd70 e_849ef j).length) = (msgs (handTo f.owned u i ++ handRow e_40ea1 e_4bd70 e_849ef j) : List (List DV)).length) (an ((by simp <;> omega) : (1) = ([[.z e_40ea1.node, .u e_40ea1.inc, .u (e_849ef + 1 + j), .ro 1 (bytesR e_eb6f6.body)]] : List (List DV)).length) (an ((by first | omega | (simp [bytesR_len]; done) | (simp [bytesR_len, handRow_len]; omega)) : (2 * (((handTo f.owned u i ++ handRow e_40ea1 e_4bd70 e_849ef j).length) + (1)) + 192) * 48 ≤ 281474976710656) (an ((by first | omega | (simp [bytesR_len]; done) | (simp [bytesR_len, handRow_len]; omega)) : ((handTo f.owned u i ++ handRow e_40ea1 e_4bd70 e_849ef j).length) + (1) < 4611686018427387904) (an ((by simp [OneR, AV.one, oneC, bytesR]) : OneR ([[.z e_40ea1.node, .u e_40ea1.inc, .u (e_849ef + 1 + j), .ro 1 (bytesR e_eb6f6.body)]])) (an (rfI ((i : Nat) : Int)) (an ((by first | omega | (simp; omega) | (simp [newH_len]; omega)) : (i) < ((nums f.owned.handed).length)) (an ((by simp <;> omega) : ((nums f.owned.handed).length) ≤ (nums ((newH f.owned u i).set i (e_849ef + j))).length) (an (nums_at (by rw [List.getElem?_set, if_pos rfl, if_pos (by rw [newH_len]; omega)]) : (nums ((newH f.owned u i).set i (e_849ef + j)))[i]? = some [.u (e_849ef + j)]) (an ((wu (by omega)) : IntKind.u64.wrap ((((e_849ef + 1 + j : Nat) : Int) : Int) + 1) = ((e_849ef + 1 + j + 1 : Nat) : Int)) trivial)))))))))))))))))))))))))))))))))))) fun ac wd r => again1 (by omega) ac wd ⟨hand_in hle hv1 (by assumption) (by omega), r.cast (by rw [handRow_next ge_eb6f6]; simp; omega) (by rw [handRow_next ge_eb6f6, nums_set, ← List.append_assoc, msgs_app, List.set_set, show e_849ef + (j + 1) = e_849ef + 1 + j by omega])⟩
        | true =>
          have qh3 := eq_of_beq h3
          exact toHead (todo' := hd Try.f17 1) (E' := [(1, .d (.ro 1 (nums u))), (2, .pt 0 0), (4, .pt 1 0), (7, .n i), (6, .sl 6 ((handTo f.owned u i ++ handRow e_40ea1 e_4bd70 e_849ef j).length + (1))), (8, .u (e_849ef + 1 + j + 1))]) (M' := [.bx 33 [.u f.owned.view.id.round, .z f.owned.view.id.server.node, .u f.owned.view.id.server.inc, .sl 2 ((procs f.owned.view.members).length), .sl 3 ((nums f.owned.view.starts).length), .sl 4 ((streamsO f.owned.streams).length), .sl 5 ((nums f.owned.handed).length)], .bx 33 [.d (.v (.int .u64 0)), .z 0, .d (.v (.int .u64 0)), .d (.v (.slice none 0 0)), .d (.v (.slice none 0 0)), .d (.v (.slice none 0 0)), .d (.v (.slice none 0 0))], .rw 24 2 (procs f.owned.view.members), .rw 22 1 (nums f.owned.view.starts), .rw 67 1 (streams f.owned.streams), .rw 22 1 (List.set (nums ((newH f.owned u i).set i (e_849ef + j))) (i) [.u (e_849ef + 1 + j)]), .rw 36 4 (msgs (handTo f.owned u i ++ handRow e_40ea1 e_4bd70 e_849ef j) ++ [[.z e_40ea1.node, .u e_40ea1.inc, .u (e_849ef + 1 + j), .ro 1 (bytesR e_eb6f6.body)]])]) tb_ok mixed_ok hK [(7, [(1, .b true), (6, .n (i)), (7, .ix 0 [.ro 2 (slots e_4bd70)]), (9, .con (.z (findS e_4bd70 (e_849ef + 1 + j)))), (10, .b true), (14, .z (((u.length : Nat) : Int))), (15, .b true)]), (8, [(1, .z (((e_849ef + 1 + j + 1 : Nat) : Int)))]), (9, [(3, .n (i)), (4, .ix 0 [.ro 2 (slots e_4bd70)]), (6, .con (.n ((findS e_4bd70 (e_849ef + 1 + j)).toNat)))]), (10, [(5, .n (i)), (6, .ix 0 [.z e_40ea1.node, .u e_40ea1.inc]), (11, .n (i)), (13, .ix 0 [.ro 2 (slots e_4bd70)]), (15, .ix ((findS e_4bd70 (e_849ef + 1 + j)).toNat) [.u e_eb6f6.n, .ro 1 (bytesR e_eb6f6.body)])]), (11, [(4, .n (i)), (5, .ix 0 [.u (e_849ef + j)])])] 2000 [0, 1, 2, 3, 4, 5, 6] [1, 2, 4, 7, 6, 8] r (by kernel_rfl) (an h1 (an (rfI ((i : Nat) : Int)) (an ((by first | omega | (simp; omega) | (simp [newH_len]; omega)) : (i) < ((streamsO f.owned.streams).length)) (an ((by simp <;> omega) : ((streamsO f.owned.streams).length) ≤ (streams f.owned.streams).length) (an (streams_at ge_4bd70) (an (findOk _ _ (by omega) : Con Try.prog 34 [.ag [.d (.ro 2 (slots e_4bd70))], .u (e_849ef + 1 + j)] (.z (findS e_4bd70 (e_849ef + 1 + j)))) (an h2 (an ((by simp [bytesR]) : (((nums u).length : Nat) : Int) = ((u.length : Nat) : Int)) (an h3 (an (rfI ((i : Nat) : Int)) (an ((by first | omega | (simp; omega) | (simp [newH_len]; omega)) : (i) < ((streamsO f.owned.streams).length)) (an ((by simp <;> omega) : ((streamsO f.owned.streams).length) ≤ (streams f.owned.streams).length) (an (streams_at ge_4bd70) (an (findNat _ _ (by omega) (by assumption) : Con Try.prog 34 [.ag [.d (.ro 2 (slots e_4bd70))], .u (e_849ef + 1 + j)] (.n ((findS e_4bd70 (e_849ef + 1 + j)).toNat))) (an (rfI ((i : Nat) : Int)) (an ((by first | omega | (simp; omega) | (simp [newH_len]; omega)) : (i) < ((procs f.owned.view.members).length)) (an ((by simp <;> omega) : ((procs f.owned.view.members).length) ≤ (procs f.owned.view.members).length) (an (procs_at ge_40ea1) (an (rfI ((i : Nat) : Int)) (an ((by first | omega | (simp; omega) | (simp [newH_len]; omega)) : (i) < ((streamsO f.owned.streams).length)) (an ((by simp <;> omega) : ((streamsO f.owned.streams).length) ≤ (streams f.owned.streams).length) (an (streams_at ge_4bd70) (an (rfI (((findS e_4bd70 (e_849ef + 1 + j)).toNat : Nat) : Int)) (an (slots_at ge_eb6f6) (an ((by simp <;> omega) : ((handTo f.owned u i ++ handRow e_40ea1 e_4bd70 e_849ef j).length) = (msgs (handTo f.owned u i ++ handRow e_40ea1 e_4bd70 e_849ef j) : List (List DV)).length) (an ((by simp <;> omega) : (1) = ([[.z e_40ea1.node, .u e_40ea1.inc, .u (e_849ef + 1 + j), .ro 1 (bytesR e_eb6f6.body)]] : List (List DV)).length) (an ((by first | omega | (simp [bytesR_len]; done) | (simp [bytesR_len, handRow_len]; omega)) : (2 * (((handTo f.owned u i ++ handRow e_40ea1 e_4bd70 e_849ef j).length) + (1)) + 192) * 48 ≤ 281474976710656) (an ((by first | omega | (simp [bytesR_len]; done) | (simp [bytesR_len, handRow_len]; omega)) : ((handTo f.owned u i ++ handRow e_40ea1 e_4bd70 e_849ef j).length) + (1) < 4611686018427387904) (an ((by simp [OneR, AV.one, oneC, bytesR]) : OneR ([[.z e_40ea1.node, .u e_40ea1.inc, .u (e_849ef + 1 + j), .ro 1 (bytesR e_eb6f6.body)]])) (an (rfI ((i : Nat) : Int)) (an ((by first | omega | (simp; omega) | (simp [newH_len]; omega)) : (i) < ((nums f.owned.handed).length)) (an ((by simp <;> omega) : ((nums f.owned.handed).length) ≤ (nums ((newH f.owned u i).set i (e_849ef + j))).length) (an (nums_at (by rw [List.getElem?_set, if_pos rfl, if_pos (by rw [newH_len]; omega)]) : (nums ((newH f.owned u i).set i (e_849ef + j)))[i]? = some [.u (e_849ef + j)]) (an ((wu (by omega)) : IntKind.u64.wrap ((((e_849ef + 1 + j : Nat) : Int) : Int) + 1) = ((e_849ef + 1 + j + 1 : Nat) : Int)) trivial)))))))))))))))))))))))))))))))))) fun ac wd r => again1 (by omega) ac wd ⟨hand_in hle hv1 (by assumption) (by omega), r.cast (by rw [handRow_next ge_eb6f6]; simp; omega) (by rw [handRow_next ge_eb6f6, nums_set, ← List.append_assoc, msgs_app, List.set_set, show e_849ef + (j + 1) = e_849ef + 1 + j by omega])⟩
end Go.Proofs.Ytoijfmfkkmbabaa
namespace Go.Proofs.Ytoijfmfkkmbabaa
open Go.RowKit
def fillS (f : Flow) (i : Nat) : List (List Slot) := f.streams.take i ++ List.replicate (f.streams.length - i) []
theorem fillS_len (f : Flow) (i : Nat) (hi : i ≤ f.streams.length) : (fillS f i).length = f.streams.length := by unfold fillS; simp; omega
theorem fillS_at {f : Flow} {i : Nat} (hi : i < f.streams.length) : (fillS f i)[i]? = some [] := by
  unfold fillS
  rw [List.getElem?_append_right (by simp; omega), List.getElem?_replicate, if_pos (by simp; omega)]
theorem fillS_set0 {f : Flow} {i : Nat} (hi : i < f.streams.length) : (fillS f i).set i [] = fillS f i := by
  apply List.ext_getElem?; intro k
  rw [List.getElem?_set]; split
  · rename_i e; subst e; rw [if_pos (by rw [fillS_len f _ (by omega)]; exact hi), fillS_at hi]
  · rfl
theorem fillS_next {f : Flow} {i : Nat} {l : List Slot} (hl : f.streams[i]? = some l) : (fillS f i).set i l = fillS f (i + 1) := by
  obtain ⟨hi, rfl⟩ := List.getElem?_eq_some_iff.1 hl
  apply List.ext_getElem?; intro k
  rw [List.getElem?_set]
  unfold fillS
  rcases Nat.lt_trichotomy k i with h | h | h
  · rw [if_neg (by omega), List.getElem?_append_left (by simp; omega), List.getElem?_append_left (by simp; omega), List.getElem?_take, List.getElem?_take, if_pos h, if_pos (by omega)]
  · subst h
    rw [if_pos rfl, if_pos (by simp; omega), List.getElem?_append_left (by simp; omega), List.getElem?_take, if_pos (by omega), List.getElem?_eq_getElem hi]
  · rw [if_neg (by omega), List.getElem?_append_right (by simp; omega), List.getElem?_append_right (by simp; omega), List.getElem?_replicate, List.getElem?_replicate]
    simp only [List.length_take]
    rw [Nat.min_eq_left (by omega), Nat.min_eq_left (by omega)]
    by_cases hk : k < f.streams.length
    · rw [if_pos (by omega), if_pos (by omega)]
    · rw [if_neg (by omega), if_neg (by omega)]
theorem fillS_all {f : Flow} {i : Nat} (hi : f.streams.length ≤ i) : fillS f i = f.streams := by unfold fillS; rw [List.take_of_length_le hi, Nat.sub_eq_zero_of_le hi]; simp
theorem Flow.may_len {f : Flow} (h : f.may = true) : f.view.may = true ∧ f.streams.length = f.view.members.length ∧ f.handed.length = f.view.members.length := by
  unfold Flow.may at h
  have ok := @of_decide_eq_true _ (Classical.propDecidable _) h
  exact ⟨ok.1, ok.2.1, ok.2.2.1⟩
theorem streamsO_at {l : List (List Slot)} {i : Nat} {s : List Slot} (h : l[i]? = some s) : (streamsO l)[i]? = some [.em 69 2 (slotsO s)] := by unfold streamsO; rw [List.getElem?_map, h]; rfl
theorem streamsO_set (l : List (List Slot)) (i : Nat) (s : List Slot) : List.set (streamsO l) i [.em 69 2 (slotsO s)] = streamsO (l.set i s) := by unfold streamsO; rw [List.map_set]
theorem slotsO_next' {l : List Slot} {k : Nat} {x : Slot} (h : l[k]? = some x) : slotsO (l.take k) ++ [[.v (.int .u64 ((x.n : Nat) : Int)), .em 5 1 (bytesR x.body)]] = slotsO (l.take (k + 1)) := by
  rw [List.take_succ_eq_append_getElem (List.getElem?_eq_some_iff.1 h).1]
  obtain ⟨hk, rfl⟩ := List.getElem?_eq_some_iff.1 h
  unfold slotsO; rw [List.map_append]; rfl
theorem openF (f : Flow) (hb : f.view.bounded) (hs : f.streams.length = f.view.members.length) : Con Try.prog 14 [.ag [.u f.view.id.round, .z f.view.id.server.node, .u f.view.id.server.inc, .d (.ro 2 (procs f.view.members)), .d (.ro 1 (nums f.view.starts))]] (.ag [.u f.view.id.round, .z f.view.id.server.node, .u f.view.id.server.inc, .em 24 2 (procs f.view.members), .em 22 1 (nums f.view.starts), .em 67 1 (streamsO (fillS f 0)), .em 22 1 (nums (Flow.fresh f.view).handed)]) := by
  have h := openOk f.view hb
  have e : fillS f 0 = (Flow.fresh f.view).streams := by unfold fillS Flow.fresh; simp [hs]
  rw [e]; exact h
theorem copy_all {l m : List (List DV)} {n : Nat} (h : m.length = l.length ∧ n = l.length) : l.take n ++ m.drop n = l := by
  rw [List.take_of_length_le (by omega), List.drop_of_length_le (by omega), List.append_nil]
set_option maxRecDepth 100000 in
theorem workOk (hV : ∀ v : View, v.bounded → Con Try.prog 36 [.ag [.u v.id.round, .z v.id.server.node, .u v.id.server.inc, .d (.ro 2 (procs v.members)), .d (.ro 1 (nums v.starts))]] (DV.v (.bool v.may))) (f : Flow) (hb : f.bounded) : Con Try.prog 27 [.ag [.u f.view.id.round, .z f.view.id.server.node, .u f.view.id.server.inc, .d (.ro 2 (procs f.view.members)), .d (.ro 1 (nums f.view.starts)), .d (.ro 1 (streams f.streams)), .d (.ro 1 (nums f.handed))]] (.ag f.owned.own) := by
  obtain ⟨hbv, hb1, hb2, hb3⟩ := id hb
  refine Con.intro (by kernel_rfl) rfl rfl 61 rfl rfl fun w0 K ac hK r => ?_
  cases h0 : (f.may) with
  | false =>
    refine toAt (todo' := aft Try.f27 2) (E' := [(1, .pt 0 0), (2, .pt 1 0)]) (M' := [.bx 33 [.u f.view.id.round, .z f.view.id.server.node, .u f.view.id.server.inc, .d (.ro 2 (procs f.view.members)), .d (.ro 1 (nums f.view.starts)), .d (.ro 1 (streams f.streams)), .d (.ro 1 (nums f.handed))], .bx 72 [.d (.v (.int .u64 0)), .z 0, .d (.v (.int .u64 0)), .d (.v (.slice none 0 0)), .d (.v (.slice none 0 0)), .d (.v (.slice none 0 0)), .d (.v (.slice none 0 0))]]) tb_ok mixed_ok hK [(1, [(1, .con (.v (.bool false)))])] 8 [0, 1] [1, 2] r (by kernel_rfl) (an ((by have k := flowMay hV f (by assumption); rw [h0] at k; exact k) : Con Try.prog 12 [.ag [.u f.view.id.round, .z f.view.id.server.node, .u f.view.id.server.inc, .d (.ro 2 (procs f.view.members)), .d (.ro 1 (nums f.view.starts)), .d (.ro 1 (streams f.streams)), .d (.ro 1 (nums f.handed))]] (.v (.bool false))) trivial) fun ac wd r => ?_
    have r := r.adopt (E1 := [(1, .pt 0 0), (2, .pt 1 0)]) (M1 := [.bx 33 [.u f.view.id.round, .z f.view.id.server.node, .u f.view.id.server.inc, .d (.ro 2 (procs f.view.members)), .d (.ro 1 (nums f.view.starts)), .d (.ro 1 (streams f.streams)), .d (.ro 1 (nums f.handed))], .bx 72 [.d (.v (.int .u64 0)), .z 0, .d (.v (.int .u64 0)), .d (.v (.slice none 0 0)), .d (.v (.slice none 0 0)), .d (.v (.slice none 0 0)), .d (.v (.slice none 0 0))]]) (M2 := [.bx 33 [.u f.view.id.round, .z f.view.id.server.node, .u f.view.id.server.inc, .d (.ro 2 (procs f.view.members)), .d (.ro 1 (nums f.view.starts)), .d (.ro 1 (streams f.streams)), .d (.ro 1 (nums f.handed))], .bx 72 [.d (.v (.int .u64 0)), .z 0, .d (.v (.int .u64 0)), .sl 2 (0), .sl 3 (0), .sl 4 (0), .sl 5 (0)], .rw 24 2 ([]), .rw 22 1 ([]), .rw 67 1 ([]), .rw 22 1 ([])]) [] [(1, 3, 24, 2), (1, 4, 22, 1), (1, 5, 67, 1), (1, 6, 22, 1)] (by kernel_rfl) (by kernel_rfl)
    rw [show (.ag f.owned.own : DV) = .ag [.v (.int .u64 0), .z 0, .v (.int .u64 0), .em 24 2 ([]), .em 22 1 ([]), .em 67 1 ([]), .em 22 1 ([])] from (by first | (rw [Flow.owned_no (by assumption)]; rfl) | (rw [Flow.owned_yes (by assumption), fillS_all (by omega)]; rfl))]
    exact toRet tb_ok mixed_ok hK rfl [] 2000 r (by kernel_rfl) (an ((by simp <;> omega) : (0) = ([] : List (List DV)).length) (an ((by simp <;> omega) : (0) = ([] : List (List DV)).length) (an ((by simp <;> omega) : (0) = ([] : List (List DV)).length) (an ((by simp <;> omega) : (0) = ([] : List (List DV)).length) trivial))))
  | true =>
    obtain ⟨hvm, hsl, hhl⟩ := Flow.may_len (by assumption)
    have f0 := fillS_len f 0 (by omega)
    have fh : (Flow.fresh f.view).handed.length = f.view.members.length := by simp [Flow.fresh]
    refine toAt (todo' := aft Try.f27 4) (E' := [(1, .pt 0 0), (2, .pt 1 0), (3, .pt 6 0)]) (M' := [.bx 33 [.u f.view.id.round, .z f.view.id.server.node, .u f.view.id.server.inc, .d (.ro 2 (procs f.view.members)), .d (.ro 1 (nums f.view.starts)), .d (.ro 1 (streams f.streams)), .d (.ro 1 (nums f.handed))], .bx 72 [.d (.v (.int .u64 0)), .z 0, .d (.v (.int .u64 0)), .d (.v (.slice none 0 0)), .d (.v (.slice none 0 0)), .d (.v (.slice none 0 0)), .d (.v (.slice none 0 0))], .rw 24 2 (procs f.view.members), .rw 22 1 (nums f.view.starts), .rw 67 1 (streamsO (fillS f 0)), .rw 22 1 ((nums f.handed).take (f.handed.length) ++ (nums (Flow.fresh f.view).handed).drop (f.handed.length)), .bx 72 [.u f.view.id.round, .z f.view.id.server.node, .u f.view.id.server.inc, .sl 2 ((procs f.view.members).length), .sl 3 ((nums f.view.starts).length), .sl 4 ((streamsO (fillS f 0)).length), .sl 5 ((nums (Flow.fresh f.view).handed).length)]]) tb_ok mixed_ok hK [(1, [(1, .con (.v (.bool true)))]), (3, [(2, .con (.ag [.u f.view.id.round, .z f.view.id.server.node, .u f.view.id.server.inc, .em 24 2 (procs f.view.members), .em 22 1 (nums f.view.starts), .em 67 1 (streamsO (fillS f 0)), .em 22 1 (nums (Flow.fresh f.view).handed)]))]), (4, [(5, .n (f.handed.length))])] 11 [0, 1, 2, 3, 4, 5, 6] [1, 2, 3] r (by kernel_rfl) (an ((by have k := flowMay hV f (by assumption); rw [h0] at k; exact k) : Con Try.prog 12 [.ag [.u f.view.id.round, .z f.view.id.server.node, .u f.view.id.server.inc, .d (.ro 2 (procs f.view.members)), .d (.ro 1 (nums f.view.starts)), .d (.ro 1 (streams f.streams)), .d (.ro 1 (nums f.handed))]] (.v (.bool true))) (an (openF f (by assumption) (by omega)) (an (rfN ((nums (Flow.fresh f.view).handed).length)) (an ((by simp [Flow.fresh]; omega) : min (nums f.handed).length ((nums (Flow.fresh f.view).handed).length) = f.handed.length) (an ((by simp [OneR, AV.one, oneC, bytesR]) : OneR (nums f.handed)) trivial))))) fun ac wd r => ?_
    have r := r.freeze (M1 := [.bx 33 [.u f.view.id.round, .z f.view.id.server.node, .u f.view.id.server.inc, .d (.ro 2 (procs f.view.members)), .d (.ro 1 (nums f.view.starts)), .d (.ro 1 (streams f.streams)), .d (.ro 1 (nums f.handed))], .bx 72 [.d (.v (.int .u64 0)), .z 0, .d (.v (.int .u64 0)), .d (.v (.slice none 0 0)), .d (.v (.slice none 0 0)), .d (.v (.slice none 0 0)), .d (.v (.slice none 0 0))], .rw 24 2 (procs f.view.members), .rw 22 1 (nums f.view.starts), .rw 67 1 (streamsO (fillS f 0)), .rw 22 1 ((nums f.handed).take (f.handed.length) ++ (nums (Flow.fresh f.view).handed).drop (f.handed.length)), .bx 72 [.u f.view.id.round, .z f.view.id.server.node, .u f.view.id.server.inc, .sl 2 ((procs f.view.members).length), .sl 3 ((nums f.view.starts).length), .sl 4 ((streamsO (fillS f 0)).length), .sl 5 ((nums (Flow.fresh f.view).handed).length)]]) (M2 := [.bx 33 [.u f.view.id.round, .z f.view.id.server.node, .u f.view.id.server.inc, .d (.ro 2 (procs f.view.members)), .d (.ro 1 (nums f.view.starts)), .d (.ro 1 (streams f.streams)), .d (.ro 1 (nums f.handed))], .bx 72 [.d (.v (.int .u64 0)), .z 0, .d (.v (.int .u64 0)), .d (.v (.slice none 0 0)), .d (.v (.slice none 0 0)), .d (.v (.slice none 0 0)), .d (.v (.slice none 0 0))], .rw 24 2 (procs f.view.members), .rw 22 1 (nums f.view.starts), .rw 67 1 (streamsO (fillS f 0)), .rw 22 1 (nums f.handed), .bx 72 [.u f.view.id.round, .z f.view.id.server.node, .u f.view.id.server.inc, .sl 2 ((procs f.view.members).length), .sl 3 ((nums f.view.starts).length), .sl 4 ((streamsO (fillS f 0)).length), .sl 5 ((nums (Flow.fresh f.view).handed).length)]]) [] (by kernel_rfl) (by rw [copy_all (by simp [Flow.fresh]; omega)])
    refine toHead (todo' := hd Try.f27 0) (E' := [(2, .pt 1 0), (3, .pt 6 0), (23, .d (.ro 1 (streams f.streams))), (24, .n f.streams.length), (25, .n 0)]) (M' := [.bx 33 [.u f.view.id.round, .z f.view.id.server.node, .u f.view.id.server.inc, .d (.ro 2 (procs f.view.members)), .d (.ro 1 (nums f.view.starts)), .d (.ro 1 (streams f.streams)), .d (.ro 1 (nums f.handed))], .bx 72 [.d (.v (.int .u64 0)), .z 0, .d (.v (.int .u64 0)), .d (.v (.slice none 0 0)), .d (.v (.slice none 0 0)), .d (.v (.slice none 0 0)), .d (.v (.slice none 0 0))], .rw 24 2 (procs f.view.members), .rw 22 1 (nums f.view.starts), .rw 67 1 (streamsO (fillS f 0)), .rw 22 1 (nums f.handed), .bx 72 [.u f.view.id.round, .z f.view.id.server.node, .u f.view.id.server.inc, .sl 2 ((procs f.view.members).length), .sl 3 ((nums f.view.starts).length), .sl 4 ((streamsO (fillS f 0)).length), .sl 5 ((nums (Flow.fresh f.view).handed).length)]]) tb_ok mixed_ok hK [(5, [(2, .z (((f.streams.length : Nat) : Int)))])] 2000 [0, 1, 2, 3, 4, 5, 6] [2, 3, 23, 24, 25] r (by kernel_rfl) (an ((by simp [bytesR]) : (((streams f.streams).length : Nat) : Int) = ((f.streams.length : Nat) : Int)) trivial) fun ac wd r => ?_
    refine Goes.rounds (Φ := fun (i : Nat) ac wd => (i ≤ f.streams.length) ∧ RE' [] w0 K 61 [(2, .pt 1 0), (3, .pt 6 0), (23, .d (.ro 1 (streams f.streams))), (24, .n f.streams.length), (25, .n i)] [.bx 33 [.u f.view.id.round, .z f.view.id.server.node, .u f.view.id.server.inc, .d (.ro 2 (procs f.view.members)), .d (.ro 1 (nums f.view.starts)), .d (.ro 1 (streams f.streams)), .d (.ro 1 (nums f.handed))], .bx 72 [.d (.v (.int .u64 0)), .z 0, .d (.v (.int .u64 0)), .d (.v (.slice none 0 0)), .d (.v (.slice none 0 0)), .d (.v (.slice none 0 0)), .d (.v (.slice none 0 0))], .rw 24 2 (procs f.view.members), .rw 22 1 (nums f.view.starts), .rw 67 1 (streamsO (fillS f i)), .rw 22 1 (nums f.handed), .bx 72 [.u f.view.id.round, .z f.view.id.server.node, .u f.view.id.server.inc, .sl 2 ((procs f.view.members).length), .sl 3 ((nums f.view.starts).length), .sl 4 ((streamsO (fillS f 0)).length), .sl 5 ((nums (Flow.fresh f.view).handed).length)]] ac wd) (f.streams.length) ?_ (Nat.zero_le _) ⟨by omega, r⟩
    clear r
    rintro i hi0 again0 ac wd ⟨hv0, r⟩
    have fi := fillS_len f i hv0
    cases h1 : (decide ((((i : Nat) : Int) : Int) < ((f.streams.length : Nat) : Int))) with
    | false =>
      have qh1 := of_decide_eq_false h1
      rw [show (.ag f.owned.own : DV) = .ag [.u f.view.id.round, .z f.view.id.server.node, .u f.view.id.server.inc, .em 24 2 (procs f.view.members), .em 22 1 (nums f.view.starts), .em 67 1 (streamsO (fillS f i)), .em 22 1 (nums f.handed)] from (by first | (rw [Flow.owned_no (by assumption)]; rfl) | (rw [Flow.owned_yes (by assumption), fillS_all (by omega)]; rfl))]
      exact toRet tb_ok mixed_ok hK rfl [(6, [(0, .b false)])] 2000 r (by kernel_rfl) (an h1 (an (rfN ((procs f.view.members).length)) (an (rfN ((nums f.view.starts).length)) (an ((by simp <;> omega) : ((streamsO (fillS f 0)).length) = (streamsO (fillS f i)).length) (an ((by simp <;> omega) : ((nums (Flow.fresh f.view).handed).length) = (nums f.handed).length) trivial)))))
    | true =>
      have qh1 := of_decide_eq_true h1
      obtain ⟨e_f_streams_i, ge_f_streams_i⟩ : ∃ x, f.streams[i]? = some x := ⟨_, List.getElem?_eq_getElem (by omega)⟩
      have be_f_streams_i := (hb.at ge_f_streams_i).1
      have ce_f_streams_i := hb.at ge_f_streams_i
      refine toHead (todo' := hd Try.f27 1) (E' := [(2, .pt 1 0), (3, .pt 6 0), (23, .d (.ro 1 (streams f.streams))), (24, .n f.streams.length), (25, .n i), (4, .n i), (5, .pt 7 0), (31, .d (.ro 2 (slots e_f_streams_i))), (32, .n e_f_streams_i.length), (33, .z 0)]) (M' := [.bx 33 [.u f.view.id.round, .z f.view.id.server.node, .u f.view.id.server.inc, .d (.ro 2 (procs f.view.members)), .d (.ro 1 (nums f.view.starts)), .d (.ro 1 (streams f.streams)), .d (.ro 1 (nums f.handed))], .bx 72 [.d (.v (.int .u64 0)), .z 0, .d (.v (.int .u64 0)), .d (.v (.slice none 0 0)), .d (.v (.slice none 0 0)), .d (.v (.slice none 0 0)), .d (.v (.slice none 0 0))], .rw 24 2 (procs f.view.members), .rw 22 1 (nums f.view.starts), .rw 67 1 (streamsO (fillS f i)), .rw 22 1 (nums f.handed), .bx 72 [.u f.view.id.round, .z f.view.id.server.node, .u f.view.id.server.inc, .sl 2 ((procs f.view.members).length), .sl 3 ((nums f.view.starts).length), .sl 4 ((streamsO (fillS f 0)).length), .sl 5 ((nums (Flow.fresh f.view).handed).length)], .bx 67 [.d (.ro 2 (slots e_f_streams_i))]]) tb_ok mixed_ok hK [(6, [(0, .b true)]), (7, [(1, .ix (i) [.ro 2 (slots e_f_streams_i)])]), (8, [(2, .z (((e_f_streams_i.length : Nat) : Int)))])] 2000 [0, 1, 2, 3, 4, 5, 6, 7] [2, 3, 23, 24, 25, 4, 5, 31, 32, 33] r (by kernel_rfl) (an h1 (an (rfI ((i : Nat) : Int)) (an (streams_at ge_f_streams_i) (an ((by simp [bytesR]) : (((slots e_f_streams_i).length : Nat) : Int) = ((e_f_streams_i.length : Nat) : Int)) trivial)))) fun ac wd r => ?_
      refine Goes.rounds (Φ := fun (k : Nat) ac wd => (k ≤ e_f_streams_i.length) ∧ RE' [] w0 K 61 [(2, .pt 1 0), (3, .pt 6 0), (23, .d (.ro 1 (streams f.streams))), (24, .n f.streams.length), (25, .n i), (4, .n i), (5, .pt 7 0), (31, .d (.ro 2 (slots e_f_streams_i))), (32, .n e_f_streams_i.length), (33, .n k)] [.bx 33 [.u f.view.id.round, .z f.view.id.server.node, .u f.view.id.server.inc, .d (.ro 2 (procs f.view.members)), .d (.ro 1 (nums f.view.starts)), .d (.ro 1 (streams f.streams)), .d (.ro 1 (nums f.handed))], .bx 72 [.d (.v (.int .u64 0)), .z 0, .d (.v (.int .u64 0)), .d (.v (.slice none 0 0)), .d (.v (.slice none 0 0)), .d (.v (.slice none 0 0)), .d (.v (.slice none 0 0))], .rw 24 2 (procs f.view.members), .rw 22 1 (nums f.view.starts), .rw 67 1 (streamsO ((fillS f i).set i (e_f_streams_i.take k))), .rw 22 1 (nums f.handed), .bx 72 [.u f.view.id.round, .z f.view.id.server.node, .u f.view.id.server.inc, .sl 2 ((procs f.view.members).length), .sl 3 ((nums f.view.starts).length), .sl 4 ((streamsO (fillS f 0)).length), .sl 5 ((nums (Flow.fresh f.view).handed).length)], .bx 67 [.d (.ro 2 (slots e_f_streams_i))]] ac wd) (e_f_streams_i.length) ?_ (Nat.zero_le _) ⟨by omega, (r).cast rfl (by rw [show e_f_streams_i.take 0 = [] from rfl, fillS_set0 (by omega)])⟩
      clear r
      rintro k hi1 again1 ac wd ⟨hv1, r⟩
      cases h2 : (decide ((((k : Nat) : Int) : Int) < ((e_f_streams_i.length : Nat) : Int))) with
      | false =>
        have qh2 := of_decide_eq_false h2
        exact toHead (todo' := hd Try.f27 0) (E' := [(2, .pt 1 0), (3, .pt 6 0), (23, .d (.ro 1 (streams f.streams))), (24, .n f.streams.length), (25, .n (i + 1))]) (M' := [.bx 33 [.u f.view.id.round, .z f.view.id.server.node, .u f.view.id.server.inc, .d (.ro 2 (procs f.view.members)), .d (.ro 1 (nums f.view.starts)), .d (.ro 1 (streams f.streams)), .d (.ro 1 (nums f.handed))], .bx 72 [.d (.v (.int .u64 0)), .z 0, .d (.v (.int .u64 0)), .d (.v (.slice none 0 0)), .d (.v (.slice none 0 0)), .d (.v (.slice none 0 0)), .d (.v (.slice none 0 0))], .rw 24 2 (procs f.view.members), .rw 22 1 (nums f.view.starts), .rw 67 1 (streamsO ((fillS f i).set i (e_f_streams_i.take k))), .rw 22 1 (nums f.handed), .bx 72 [.u f.view.id.round, .z f.view.id.server.node, .u f.view.id.server.inc, .sl 2 ((procs f.view.members).length), .sl 3 ((nums f.view.starts).length), .sl 4 ((streamsO (fillS f 0)).length), .sl 5 ((nums (Flow.fresh f.view).handed).length)]]) tb_ok mixed_ok hK [(9, [(0, .b false)]), (13, [(0, .z (((i + 1 : Nat) : Int)))])] 2000 [0, 1, 2, 3, 4, 5, 6] [2, 3, 23, 24, 25] r (by kernel_rfl) (an h2 (an ((wi (by omega)) : IntKind.i64.wrap ((((i : Nat) : Int) : Int) + 1) = ((i + 1 : Nat) : Int)) trivial)) fun ac wd r => again0 (by omega) ac wd ⟨by omega, r.cast rfl (by rw [show e_f_streams_i.take k = e_f_streams_i from List.take_of_length_le (by omega), fillS_next ge_f_streams_i])⟩
      | true =>
        have qh2 := of_decide_eq_true h2
        obtain ⟨e_c8f2d, ge_c8f2d⟩ : ∃ x, e_f_streams_i[k]? = some x := ⟨_, List.getElem?_eq_getElem (by omega)⟩
        have be_c8f2d := ce_f_streams_i.at ge_c8f2d
        have v11_0 := ((by first | omega | (simp; omega)) : (i) < ((streamsO (fillS f 0)).length))
        have v11_1 := ((by simp <;> omega) : ((streamsO (fillS f 0)).length) ≤ (streamsO ((fillS f i).set i (e_f_streams_i.take k))).length)
        have v11_2 := (streamsO_at (by rw [List.getElem?_set, if_pos rfl, if_pos (by rw [fillS_len f i (by omega)]; omega)]) : (streamsO ((fillS f i).set i (e_f_streams_i.take k)))[i]? = some [.em 69 2 (slotsO (e_f_streams_i.take k))])
        have v11_3 := (cloneBytes e_c8f2d.body (by omega))
        have v11_4 := (rfN ((bytesR e_c8f2d.body).length))
        have v11_5 := (rfN ((slotsO (e_f_streams_i.take k)).length))
        have v11_6 := ((by simp <;> omega) : (1) = ([[.u e_c8f2d.n, .em 5 1 (bytesR e_c8f2d.body)]] : List (List DV)).length)
        have v11_7 := ((by first | omega | (simp [bytesR_len]; done) | (simp [bytesR_len]; omega)) : (2 * (((slotsO (e_f_streams_i.take k)).length) + (1)) + 192) * 32 ≤ 281474976710656)
        have v11_8 := ((by first | omega | (simp [bytesR_len]; done) | (simp [bytesR_len]; omega)) : ((slotsO (e_f_streams_i.take k)).length) + (1) < 4611686018427387904)
        have v11_9 := ((by simp [OneR, AV.one, oneC, bytesR]) : OneR ([[.u e_c8f2d.n, .em 5 1 (bytesR e_c8f2d.body)]]))
        have v11_10 := ((by simp <;> omega) : ((streamsO (fillS f 0)).length) ≤ (List.set (streamsO ((fillS f i).set i (e_f_streams_i.take k))) (i) [.jk] : List (List DV)).length)
        have v11_11 := ((by rw [List.getElem?_set, if_pos rfl, if_pos (by rw [streamsO_len, List.length_set, fillS_len f i (by omega)]; omega)]) : (List.set (streamsO ((fillS f i).set i (e_f_streams_i.take k))) (i) [.jk])[i]? = some [.jk])
        have v11_12 := ((by simp <;> omega) : ((slotsO (e_f_streams_i.take k)).length + (1)) = (slotsO (e_f_streams_i.take k) ++ [[.u e_c8f2d.n, .em 5 1 (bytesR e_c8f2d.body)]] : List (List DV)).length)
        refine toDraw (todo' := aft Try.f27 11) (E' := [(2, .pt 1 0), (3, .pt 6 0), (23, .d (.ro 1 (streams f.streams))), (24, .n f.streams.length), (25, .n i), (4, .n i), (5, .pt 7 0), (31, .d (.ro 2 (slots e_f_streams_i))), (32, .n e_f_streams_i.length), (33, .n k), (34, .d (.v (.bool true))), (35, .rp [.u e_c8f2d.n, .ro 1 (bytesR e_c8f2d.body)] 0), (36, .ag [.u e_c8f2d.n, .d (.ro 1 (bytesR e_c8f2d.body))]), (7, .pt 8 0), (37, .pt 6 0), (38, .pt 6 5), (39, .sl 4 ((streamsO (fillS f 0)).length)), (40, .n i), (41, .pt 6 0), (42, .pt 6 5), (43, .sl 4 ((streamsO (fillS f 0)).length)), (44, .n i), (48, .pt 8 0), (49, .u e_c8f2d.n), (50, .pt 8 1), (51, .d (.ro 1 (bytesR e_c8f2d.body))), (45, .ep 4 1 (i) 0), (46, .ep 4 1 (i) 0), (52, .sl 10 ((bytesR e_c8f2d.body).length)), (53, .ag [.u e_c8f2d.n, .sl 10 ((bytesR e_c8f2d.body).length)]), (54, .sl 11 (1)), (55, .sl 9 ((slotsO (e_f_streams_i.take k)).length + (1))), (56, .ep 4 1 (i) 0), (57, .ep 4 1 (i) 0)]) (M' := [.bx 33 [.u f.view.id.round, .z f.view.id.server.node, .u f.view.id.server.inc, .d (.ro 2 (procs f.view.members)), .d (.ro 1 (nums f.view.starts)), .d (.ro 1 (streams f.streams)), .d (.ro 1 (nums f.handed))], .bx 72 [.d (.v (.int .u64 0)), .z 0, .d (.v (.int .u64 0)), .d (.v (.slice none 0 0)), .d (.v (.slice none 0 0)), .d (.v (.slice none 0 0)), .d (.v (.slice none 0 0))], .rw 24 2 (procs f.view.members), .rw 22 1 (nums f.view.starts), .rw 67 1 (List.set (List.set (streamsO ((fillS f i).set i (e_f_streams_i.take k))) (i) [.jk]) (i) [.em 69 2 (slotsO (e_f_streams_i.take k) ++ [[.u e_c8f2d.n, .em 5 1 (bytesR e_c8f2d.body)]])]), .rw 22 1 (nums f.handed), .bx 72 [.u f.view.id.round, .z f.view.id.server.node, .u f.view.id.server.inc, .sl 2 ((procs f.view.members).length), .sl 3 ((nums f.view.starts).length), .sl 4 ((streamsO (fillS f 0)).length), .sl 5 ((nums (Flow.fresh f.view).handed).length)], .bx 67 [.d (.ro 2 (slots e_f_streams_i))], .bx 69 [.u e_c8f2d.n, .d (.ro 1 (bytesR e_c8f2d.body))], .dead, .dead, .dead]) tb_ok mixed_ok hK [(9, [(0, .b true)]), (10, [(0, .ix (k) [.u e_c8f2d.n, .ro 1 (bytesR e_c8f2d.body)])]), (11, [(8, .n (i)), (10, .ix 0 [.em 69 2 (slotsO (e_f_streams_i.take k))]), (15, .con (.em 5 1 (bytesR e_c8f2d.body))), (19, .n (i)), (21, .ix 0 [.jk])])] 9 6 [8, 10, 19] [[0, 1, 2, 3, 4, 5, 6, 7, 8, 9, 10, 11], [0, 1, 2, 3, 4, 5, 6, 7, 8, 10, 9, 11], [0, 1, 2, 3, 4, 5, 6, 7, 8, 11, 9, 10], [0, 1, 2, 3, 4, 5, 6, 7, 8, 10, 9, 11], [0, 1, 2, 3, 4, 5, 6, 7, 8, 11, 9, 10], [0, 1, 2, 3, 4, 5, 6, 7, 8, 11, 9, 10]] [2, 3, 23, 24, 25, 4, 5, 31, 32, 33, 34, 35, 36, 7, 37, 38, 39, 40, 41, 42, 43, 44, 48, 49, 50, 51, 45, 46, 52, 53, 54, 55, 56, 57] r (by kernel_rfl) (an (an h2 (an (rfI ((k : Nat) : Int)) (an (slots_at ge_c8f2d) (an (rfI ((i : Nat) : Int)) (an v11_0 (an v11_1 (an v11_2 (an v11_3 (an v11_4 (an v11_5 (an v11_6 (an v11_7 (an v11_8 (an v11_9 (an (rfI ((i : Nat) : Int)) (an v11_0 (an v11_10 (an v11_11 (an v11_12 trivial))))))))))))))))))) (an (an h2 (an (rfI ((k : Nat) : Int)) (an (slots_at ge_c8f2d) (an (rfI ((i : Nat) : Int)) (an v11_0 (an v11_1 (an v11_3 (an v11_2 (an v11_4 (an v11_5 (an v11_6 (an v11_7 (an v11_8 (an v11_9 (an (rfI ((i : Nat) : Int)) (an v11_0 (an v11_10 (an v11_11 (an v11_12 trivial))))))))))))))))))) (an (an h2 (an (rfI ((k : Nat) : Int)) (an (slots_at ge_c8f2d) (an (rfI ((i : Nat) : Int)) (an v11_0 (an v11_1 (an v11_3 (an v11_4 (an v11_2 (an v11_5 (an v11_6 (an v11_7 (an v11_8 (an v11_9 (an (rfI ((i : Nat) : Int)) (an v11_0 (an v11_10 (an v11_11 (an v11_12 trivial))))))))))))))))))) (an (an h2 (an (rfI ((k : Nat) : Int)) (an (slots_at ge_c8f2d) (an v11_3 (an (rfI ((i : Nat) : Int)) (an v11_0 (an v11_1 (an v11_2 (an v11_4 (an v11_5 (an v11_6 (an v11_7 (an v11_8 (an v11_9 (an (rfI ((i : Nat) : Int)) (an v11_0 (an v11_10 (an v11_11 (an v11_12 trivial))))))))))))))))))) (an (an h2 (an (rfI ((k : Nat) : Int)) (an (slots_at ge_c8f2d) (an v11_3 (an (rfI ((i : Nat) : Int)) (an v11_0 (an v11_1 (an v11_4 (an v11_2 (an v11_5 (an v11_6 (an v11_7 (an v11_8 (an v11_9 (an (rfI ((i : Nat) : Int)) (an v11_0 (an v11_10 (an v11_11 (an v11_12 trivial))))))))))))))))))) (an (an h2 (an (rfI ((k : Nat) : Int)) (an (slots_at ge_c8f2d) (an v11_3 (an v11_4 (an (rfI ((i : Nat) : Int)) (an v11_0 (an v11_1 (an v11_2 (an v11_5 (an v11_6 (an v11_7 (an v11_8 (an v11_9 (an (rfI ((i : Nat) : Int)) (an v11_0 (an v11_10 (an v11_11 (an v11_12 trivial))))))))))))))))))) trivial)))))) fun ac wd r => ?_
        exact toHead (todo' := hd Try.f27 1) (E' := [(2, .pt 1 0), (3, .pt 6 0), (23, .d (.ro 1 (streams f.streams))), (24, .n f.streams.length), (25, .n i), (4, .n i), (5, .pt 7 0), (31, .d (.ro 2 (slots e_f_streams_i))), (32, .n e_f_streams_i.length), (33, .n (k + 1))]) (M' := [.bx 33 [.u f.view.id.round, .z f.view.id.server.node, .u f.view.id.server.inc, .d (.ro 2 (procs f.view.members)), .d (.ro 1 (nums f.view.starts)), .d (.ro 1 (streams f.streams)), .d (.ro 1 (nums f.handed))], .bx 72 [.d (.v (.int .u64 0)), .z 0, .d (.v (.int .u64 0)), .d (.v (.slice none 0 0)), .d (.v (.slice none 0 0)), .d (.v (.slice none 0 0)), .d (.v (.slice none 0 0))], .rw 24 2 (procs f.view.members), .rw 22 1 (nums f.view.starts), .rw 67 1 (List.set (List.set (streamsO ((fillS f i).set i (e_f_streams_i.take k))) (i) [.jk]) (i) [.em 69 2 (slotsO (e_f_streams_i.take k) ++ [[.u e_c8f2d.n, .em 5 1 (bytesR e_c8f2d.body)]])]), .rw 22 1 (nums f.handed), .bx 72 [.u f.view.id.round, .z f.view.id.server.node, .u f.view.id.server.inc, .sl 2 ((procs f.view.members).length), .sl 3 ((nums f.view.starts).length), .sl 4 ((streamsO (fillS f 0)).length), .sl 5 ((nums (Flow.fresh f.view).handed).length)], .bx 67 [.d (.ro 2 (slots e_f_streams_i))]]) tb_ok mixed_ok hK [(12, [(0, .z (((k + 1 : Nat) : Int)))])] 2000 [0, 1, 2, 3, 4, 5, 6, 7] [2, 3, 23, 24, 25, 4, 5, 31, 32, 33] r (by kernel_rfl) (an ((wi (by omega)) : IntKind.i64.wrap ((((k : Nat) : Int) : Int) + 1) = ((k + 1 : Nat) : Int)) trivial) fun ac wd r => again1 (by omega) ac wd ⟨by omega, r.cast rfl (by rw [List.set_set, slotsO_next' ge_c8f2d, streamsO_set, List.set_set])⟩
end Go.Proofs.Ytoijfmfkkmbabaa
