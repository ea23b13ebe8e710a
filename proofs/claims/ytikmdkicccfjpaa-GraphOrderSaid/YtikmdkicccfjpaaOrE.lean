/-
  graphOrder_holds, part 5 of 5: merged by program from the texts that it needs.
-/
import Derived.Test.YtikmdkicccfjpaaOrD
set_option linter.unusedSimpArgs false
set_option linter.unusedVariables false
set_option linter.unnecessarySimpa false
namespace Go.Proofs.Ytikmdkicccfjpaa
open Go.RowKit
theorem ind_adverts (T : Nat) (l : List Advert) : Ind (.em T 4 (advertsO l)) := by
 intro K K' y H h
 cases h with
 | em X F hl hs hr =>
  refine .em X F hl hs fun i r j c x h1 h2 h3 => ?_
  have := hr i r j c x h1 h2 h3
  rw [List.getElem?_map, Option.map_eq_some_iff] at h1
  obtain ⟨p, -, rfl⟩ := h1
  unfold Advert.rowO at h2
  match j with
  | 0 => simp at h2; subst h2; exact (ind_v _) _ _ _ _ this
  | 1 => simp at h2; subst h2; exact (ind_v _) _ _ _ _ this
  | 2 => simp at h2; subst h2; exact (ind_v _) _ _ _ _ this
  | 3 => simp at h2; subst h2; exact (ind_procs _ _) _ _ _ _ this
  | j + 4 => simp at h2
theorem one_adverts (l : List Advert) : OneR (adverts l) := by
 simp only [OneR, adverts, List.all_eq_true, List.mem_map]
 rintro r ⟨p, -, rfl⟩ c hc
 simp only [Advert.row, List.mem_cons, List.not_mem_nil, or_false] at hc
 rcases hc with rfl | rfl | rfl | rfl <;> rfl
theorem adverts_app (l : List Advert) (a : Advert) : adverts l ++ [[.v (.int .i64 a.server.node), .v (.int .u64 (a.server.inc : Int)), .v (.int .u64 (a.seq : Int)), .ro 2 (procs a.peers)]] = adverts (l ++ [a]) := by simp [adverts, Advert.row]
def newsTo (b : List Advert) (a : Advert) (i : Nat) : Bool := a.may && (b.take i).all fun x => !(decide (x.server.node = a.server.node)) || newer a x
def takeG (l : List Advert) (a : Advert) : List Advert := book (book l ++ [a])
def newsG (l : List Advert) (a : Advert) : Bool := newsTo (book l) a (book l).length
theorem news_succ {b : List Advert} {i : Nat} {x : Advert} (h : b[i]? = some x) (a : Advert) : newsTo b a (i + 1) = (newsTo b a i && (!(decide (x.server.node = a.server.node)) || newer a x)) := by
 obtain ⟨hi, rfl⟩ := List.getElem?_eq_some_iff.1 h
 rw [newsTo, newsTo, List.take_succ_eq_append_getElem hi, List.all_append, Bool.and_assoc]; simp
theorem news_no {b : List Advert} {i : Nat} {x a : Advert} (h : b[i]? = some x) (h1 : x.server.node = a.server.node) (h2 : newer a x = false) : newsTo b a (i + 1) = false := by
 rw [news_succ h, h2, decide_eq_true h1]; simp
theorem news_yes {b : List Advert} {i : Nat} {x a : Advert} (h : b[i]? = some x) (h1 : x.server.node ≠ a.server.node ∨ newer a x = true) : newsTo b a (i + 1) = newsTo b a i := by
 rw [news_succ h]
 rcases h1 with h1 | h1
 ·rw [decide_eq_false h1]; simp
 ·rw [h1]; simp
theorem book_ok (l : List Advert) : ∀ x ∈ book l, x.peers.length ≤ 9223372036854775807 := fun x hx => by have := Advert.few ((book_good l).may x hx); omega
theorem more_ok {l : List Advert} {a : Advert} (ha : a.peers.length ≤ 9223372036854775807) : ∀ x ∈ book l ++ [a], x.peers.length ≤ 9223372036854775807 := fun x hx => by
 rcases List.mem_append.1 hx with hx | hx
 ·exact book_ok l x hx
 ·rw [List.mem_singleton] at hx; rw [hx]; exact ha
set_option maxRecDepth 100000 in
theorem takeOk (l : List Advert) (a : Advert) (hb : l.length ≤ 9223372036854775807) (hl : ∀ x ∈ l, x.peers.length ≤ 9223372036854775807) (ha : a.peers.length ≤ 9223372036854775807) : Con Try.prog 17 [.d (.ro 4 (adverts l)), .ag [.z a.server.node, .u a.server.inc, .u a.seq, .d (.ro 2 (procs a.peers))]] (.tu [.em 33 4 (advertsO (takeG l a)), .v (.bool (newsG l a))]) := by
 refine Con.intro (by kernel_rfl) rfl rfl 40 rfl rfl fun w0 K ac hK r => ?_
 refine toAt (todo' := aft Try.f17 1) (E' := [(3, .pt 0 0), (4, .d (.v (.slice none 0 0))), (5, .d (.v (.bool false))), (6, .sl 1 ((advertsO (book l)).length))]) (M' := [.bx 33 [.z a.server.node, .u a.server.inc, .u a.seq, .d (.ro 2 (procs a.peers))], .rw 33 4 (advertsO (book l))]) tk tq hK [(1, [(1, .con (.em 33 4 (advertsO (book l))))])] 4 [0, 1] [3, 4, 5, 6] r (by kernel_rfl) (an (ofOk l hb hl) trivial) fun ac wd r => ?_
 have r := r.freeze (M1 := [.bx 33 [.z a.server.node, .u a.server.inc, .u a.seq, .d (.ro 2 (procs a.peers))], .rw 33 4 (frozR (advertsO (book l)))]) (M2 := [.bx 33 [.z a.server.node, .u a.server.inc, .u a.seq, .d (.ro 2 (procs a.peers))], .rw 33 4 (adverts (book l))]) [1] (by kernel_rfl) (by rw [froz_advertsO])
 cases h0 : (a.may) with
 | false =>
  refine toHead (todo' := hd Try.f17 0) (E' := [(3, .pt 0 0), (6, .sl 1 ((advertsO (book l)).length)), (7, .d (.v (.bool false))), (14, .sl 1 ((advertsO (book l)).length)), (15, .n ((book l).length)), (16, .z 0)]) (M' := [.bx 33 [.z a.server.node, .u a.server.inc, .u a.seq, .d (.ro 2 (procs a.peers))], .rw 33 4 (adverts (book l))]) tk tq hK [(2, [(1, .con (.v (.bool false)))]), (3, [(1, .z ((((book l).length : Nat) : Int)))])] 2000 [0, 1] [3, 6, 7, 14, 15, 16] r (by kernel_rfl) (an ((by have k := mayOk a ha; rw [h0] at k; exact k) : Con Try.prog 32 [.ag [.z a.server.node, .u a.server.inc, .u a.seq, .d (.ro 2 (procs a.peers))]] (.v (.bool false))) (an ((by simp) : (((advertsO (book l)).length : Nat) : Int) = (((book l).length : Nat) : Int)) trivial)) fun ac wd r => ?_
  refine Goes.rounds (Φ := fun (i : Nat) ac wd => ∃ nw : Bool, (i ≤ (book l).length ∧ nw = newsTo (book l) a i) ∧ RE' [] w0 K 40 [(3, .pt 0 0), (6, .sl 1 ((book l).length)), (7, .d (.v (.bool nw))), (14, .sl 1 ((book l).length)), (15, .n ((book l).length)), (16, .n i)] [.bx 33 [.z a.server.node, .u a.server.inc, .u a.seq, .d (.ro 2 (procs a.peers))], .rw 33 4 (adverts (book l))] ac wd) ((book l).length) ?_ (Nat.zero_le _) ⟨false, ⟨Nat.zero_le _, by simp [newsTo, *]⟩, (r).cast (by simp) rfl⟩
  clear r
  rintro i hi0 again0 ac wd ⟨nw, hv0, r⟩
  obtain ⟨hi1, hv2⟩ := hv0
  have hbl := (book_good l).len
  cases nw with
  | false =>
   cases h1 : (decide ((((i : Nat) : Int) : Int) < (((book l).length : Nat) : Int))) with
   | false =>
    have qh1 := of_decide_eq_false h1
    rw [show (.tu [.em 33 4 (advertsO (takeG l a)), .v (.bool (newsG l a))] : DV) = .tu [.em 33 4 (advertsO (takeG l a)), .v (.bool false)] from (by rw [show newsG l a = false from by unfold newsG; rw [show (book l).length = i by omega]; exact hv2.symm])]
    exact toRet tk tq hK rfl [(4, [(0, .b false)]), (9, [(4, .call [.d (.ro 4 (adverts (book l ++ [a])))] (.em 33 4 (advertsO (takeG l a))))])] 2000 r (by kernel_rfl) (an h1 (an ((by first | rfl | (simp; done) | (simp <;> omega)) : ((book l).length) = (adverts (book l)).length) (an ((by first | rfl | (simp; done) | (simp <;> omega)) : (1) = ([[.z a.server.node, .u a.server.inc, .u a.seq, .ro 2 (procs a.peers)]] : List (List DV)).length) (an ((by first | omega | (simp; done) | (simp <;> omega)) : (2 * (((book l).length) + (1)) + 192) * 48 ≤ 281474976710656) (an ((by first | omega | (simp; done) | (simp <;> omega)) : ((book l).length) + (1) < 4611686018427387904) (an ((by first | exact one_adverts [a] | simp [OneR, AV.one, oneC]) : OneR ([[.z a.server.node, .u a.server.inc, .u a.seq, .ro 2 (procs a.peers)]])) (an (ofOk (book l ++ [a]) (by simp; omega) (more_ok ha)) (an ((ind_adverts _ _) : Ind (.em 33 4 (advertsO (takeG l a)))) (an (rfN (4)) (an ((by first | rfl | (simp; done) | (simp <;> omega)) : ((book l).length + (1)) = (adverts (book l) ++ [[.z a.server.node, .u a.server.inc, .u a.seq, .ro 2 (procs a.peers)]] : List (List DV)).length) (an ((by first | exact froz_adverts _ | (rw [adverts_app]; exact froz_adverts _)) : frozR (adverts (book l) ++ [[.z a.server.node, .u a.server.inc, .u a.seq, .ro 2 (procs a.peers)]]) = adverts (book l ++ [a])) (an (rfN ((advertsO (takeG l a)).length)) trivial))))))))))))
   | true =>
    have qh1 := of_decide_eq_true h1
    obtain ⟨x, gx⟩ : ∃ x, (book l)[i]? = some x := ⟨_, List.getElem?_eq_getElem (by omega)⟩
    have u_0 := ((by first | omega | decide | (simp; omega)) : (i) < ((book l).length))
    have u_1 := ((by first | rfl | (simp; done) | (simp <;> omega)) : ((book l).length) ≤ (adverts (book l)).length)
    cases h2 : ((x.server.node : Int) == a.server.node) with
    | false =>
     have qh2 := ne_of_beq_false h2
     exact toHead (todo' := hd Try.f17 0) tk tq hK [(4, [(0, .b true)]), (5, [(0, .n (i)), (1, .ix 0 [.z x.server.node, .u x.server.inc, .u x.seq, .ro 2 (procs x.peers)])]), (6, [(6, .b false)]), (8, [(0, .z (((i + 1 : Nat) : Int)))])] 2000 [0, 1] [3, 6, 7, 14, 15, 16] r (by kernel_rfl) (an h1 (an (rfI ((i : Nat) : Int)) (an u_0 (an u_1 (an (adverts_at gx) (an h2 (an ((wi (by omega)) : IntKind.i64.wrap ((((i : Nat) : Int) : Int) + 1) = ((i + 1 : Nat) : Int)) trivial))))))) fun ac wd r => again0 (by omega) ac wd ⟨false, ⟨by omega, by first | exact (news_no gx (by omega) (by assumption)).symm | (rw [news_yes gx (by first | exact Or.inl (by omega) | exact Or.inr (by assumption))]; exact hv2)⟩, r⟩
    | true =>
     have qh2 := eq_of_beq h2
     cases h3 : (newer a x) with
     | false =>
      exact toHead (todo' := hd Try.f17 0) tk tq hK [(4, [(0, .b true)]), (5, [(0, .n (i)), (1, .ix 0 [.z x.server.node, .u x.server.inc, .u x.seq, .ro 2 (procs x.peers)])]), (6, [(6, .b true), (10, .con (.v (.bool false)))]), (8, [(0, .z (((i + 1 : Nat) : Int)))])] 2000 [0, 1] [3, 6, 7, 14, 15, 16] r (by kernel_rfl) (an h1 (an (rfI ((i : Nat) : Int)) (an u_0 (an u_1 (an (adverts_at gx) (an h2 (an ((by have k := newerOk a x; rw [h3] at k; exact k) : Con Try.prog 33 [.ag [.z a.server.node, .u a.server.inc, .u a.seq, .d (.ro 2 (procs a.peers))], .ag [.z x.server.node, .u x.server.inc, .u x.seq, .d (.ro 2 (procs x.peers))]] (.v (.bool false))) (an ((wi (by omega)) : IntKind.i64.wrap ((((i : Nat) : Int) : Int) + 1) = ((i + 1 : Nat) : Int)) trivial)))))))) fun ac wd r => again0 (by omega) ac wd ⟨false, ⟨by omega, by first | exact (news_no gx (by omega) (by assumption)).symm | (rw [news_yes gx (by first | exact Or.inl (by omega) | exact Or.inr (by assumption))]; exact hv2)⟩, r⟩
     | true =>
      exact toHead (todo' := hd Try.f17 0) tk tq hK [(4, [(0, .b true)]), (5, [(0, .n (i)), (1, .ix 0 [.z x.server.node, .u x.server.inc, .u x.seq, .ro 2 (procs x.peers)])]), (6, [(6, .b true), (10, .con (.v (.bool true)))]), (8, [(0, .z (((i + 1 : Nat) : Int)))])] 2000 [0, 1] [3, 6, 7, 14, 15, 16] r (by kernel_rfl) (an h1 (an (rfI ((i : Nat) : Int)) (an u_0 (an u_1 (an (adverts_at gx) (an h2 (an ((by have k := newerOk a x; rw [h3] at k; exact k) : Con Try.prog 33 [.ag [.z a.server.node, .u a.server.inc, .u a.seq, .d (.ro 2 (procs a.peers))], .ag [.z x.server.node, .u x.server.inc, .u x.seq, .d (.ro 2 (procs x.peers))]] (.v (.bool true))) (an ((wi (by omega)) : IntKind.i64.wrap ((((i : Nat) : Int) : Int) + 1) = ((i + 1 : Nat) : Int)) trivial)))))))) fun ac wd r => again0 (by omega) ac wd ⟨false, ⟨by omega, by first | exact (news_no gx (by omega) (by assumption)).symm | (rw [news_yes gx (by first | exact Or.inl (by omega) | exact Or.inr (by assumption))]; exact hv2)⟩, r⟩
  | true =>
   cases h4 : (decide ((((i : Nat) : Int) : Int) < (((book l).length : Nat) : Int))) with
   | false =>
    have qh4 := of_decide_eq_false h4
    rw [show (.tu [.em 33 4 (advertsO (takeG l a)), .v (.bool (newsG l a))] : DV) = .tu [.em 33 4 (advertsO (takeG l a)), .v (.bool true)] from (by rw [show newsG l a = true from by unfold newsG; rw [show (book l).length = i by omega]; exact hv2.symm])]
    exact toRet tk tq hK rfl [(4, [(0, .b false)]), (9, [(4, .call [.d (.ro 4 (adverts (book l ++ [a])))] (.em 33 4 (advertsO (takeG l a))))])] 2000 r (by kernel_rfl) (an h4 (an ((by first | rfl | (simp; done) | (simp <;> omega)) : ((book l).length) = (adverts (book l)).length) (an ((by first | rfl | (simp; done) | (simp <;> omega)) : (1) = ([[.z a.server.node, .u a.server.inc, .u a.seq, .ro 2 (procs a.peers)]] : List (List DV)).length) (an ((by first | omega | (simp; done) | (simp <;> omega)) : (2 * (((book l).length) + (1)) + 192) * 48 ≤ 281474976710656) (an ((by first | omega | (simp; done) | (simp <;> omega)) : ((book l).length) + (1) < 4611686018427387904) (an ((by first | exact one_adverts [a] | simp [OneR, AV.one, oneC]) : OneR ([[.z a.server.node, .u a.server.inc, .u a.seq, .ro 2 (procs a.peers)]])) (an (ofOk (book l ++ [a]) (by simp; omega) (more_ok ha)) (an ((ind_adverts _ _) : Ind (.em 33 4 (advertsO (takeG l a)))) (an (rfN (4)) (an ((by first | rfl | (simp; done) | (simp <;> omega)) : ((book l).length + (1)) = (adverts (book l) ++ [[.z a.server.node, .u a.server.inc, .u a.seq, .ro 2 (procs a.peers)]] : List (List DV)).length) (an ((by first | exact froz_adverts _ | (rw [adverts_app]; exact froz_adverts _)) : frozR (adverts (book l) ++ [[.z a.server.node, .u a.server.inc, .u a.seq, .ro 2 (procs a.peers)]]) = adverts (book l ++ [a])) (an (rfN ((advertsO (takeG l a)).length)) trivial))))))))))))
   | true =>
    have qh4 := of_decide_eq_true h4
    obtain ⟨x, gx⟩ : ∃ x, (book l)[i]? = some x := ⟨_, List.getElem?_eq_getElem (by omega)⟩
    have u_2 := ((by first | omega | decide | (simp; omega)) : (i) < ((book l).length))
    have u_3 := ((by first | rfl | (simp; done) | (simp <;> omega)) : ((book l).length) ≤ (adverts (book l)).length)
    cases h5 : ((x.server.node : Int) == a.server.node) with
    | false =>
     have qh5 := ne_of_beq_false h5
     exact toHead (todo' := hd Try.f17 0) tk tq hK [(4, [(0, .b true)]), (5, [(0, .n (i)), (1, .ix 0 [.z x.server.node, .u x.server.inc, .u x.seq, .ro 2 (procs x.peers)])]), (6, [(6, .b false)]), (8, [(0, .z (((i + 1 : Nat) : Int)))])] 2000 [0, 1] [3, 6, 7, 14, 15, 16] r (by kernel_rfl) (an h4 (an (rfI ((i : Nat) : Int)) (an u_2 (an u_3 (an (adverts_at gx) (an h5 (an ((wi (by omega)) : IntKind.i64.wrap ((((i : Nat) : Int) : Int) + 1) = ((i + 1 : Nat) : Int)) trivial))))))) fun ac wd r => again0 (by omega) ac wd ⟨true, ⟨by omega, by first | exact (news_no gx (by omega) (by assumption)).symm | (rw [news_yes gx (by first | exact Or.inl (by omega) | exact Or.inr (by assumption))]; exact hv2)⟩, r⟩
    | true =>
     have qh5 := eq_of_beq h5
     cases h6 : (newer a x) with
     | false =>
      exact toHead (todo' := hd Try.f17 0) tk tq hK [(4, [(0, .b true)]), (5, [(0, .n (i)), (1, .ix 0 [.z x.server.node, .u x.server.inc, .u x.seq, .ro 2 (procs x.peers)])]), (6, [(6, .b true), (10, .con (.v (.bool false)))]), (8, [(0, .z (((i + 1 : Nat) : Int)))])] 2000 [0, 1] [3, 6, 7, 14, 15, 16] r (by kernel_rfl) (an h4 (an (rfI ((i : Nat) : Int)) (an u_2 (an u_3 (an (adverts_at gx) (an h5 (an ((by have k := newerOk a x; rw [h6] at k; exact k) : Con Try.prog 33 [.ag [.z a.server.node, .u a.server.inc, .u a.seq, .d (.ro 2 (procs a.peers))], .ag [.z x.server.node, .u x.server.inc, .u x.seq, .d (.ro 2 (procs x.peers))]] (.v (.bool false))) (an ((wi (by omega)) : IntKind.i64.wrap ((((i : Nat) : Int) : Int) + 1) = ((i + 1 : Nat) : Int)) trivial)))))))) fun ac wd r => again0 (by omega) ac wd ⟨false, ⟨by omega, by first | exact (news_no gx (by omega) (by assumption)).symm | (rw [news_yes gx (by first | exact Or.inl (by omega) | exact Or.inr (by assumption))]; exact hv2)⟩, r⟩
     | true =>
      exact toHead (todo' := hd Try.f17 0) tk tq hK [(4, [(0, .b true)]), (5, [(0, .n (i)), (1, .ix 0 [.z x.server.node, .u x.server.inc, .u x.seq, .ro 2 (procs x.peers)])]), (6, [(6, .b true), (10, .con (.v (.bool true)))]), (8, [(0, .z (((i + 1 : Nat) : Int)))])] 2000 [0, 1] [3, 6, 7, 14, 15, 16] r (by kernel_rfl) (an h4 (an (rfI ((i : Nat) : Int)) (an u_2 (an u_3 (an (adverts_at gx) (an h5 (an ((by have k := newerOk a x; rw [h6] at k; exact k) : Con Try.prog 33 [.ag [.z a.server.node, .u a.server.inc, .u a.seq, .d (.ro 2 (procs a.peers))], .ag [.z x.server.node, .u x.server.inc, .u x.seq, .d (.ro 2 (procs x.peers))]] (.v (.bool true))) (an ((wi (by omega)) : IntKind.i64.wrap ((((i : Nat) : Int) : Int) + 1) = ((i + 1 : Nat) : Int)) trivial)))))))) fun ac wd r => again0 (by omega) ac wd ⟨true, ⟨by omega, by first | exact (news_no gx (by omega) (by assumption)).symm | (rw [news_yes gx (by first | exact Or.inl (by omega) | exact Or.inr (by assumption))]; exact hv2)⟩, r⟩
 | true =>
  refine toHead (todo' := hd Try.f17 0) (E' := [(3, .pt 0 0), (6, .sl 1 ((advertsO (book l)).length)), (7, .d (.v (.bool true))), (14, .sl 1 ((advertsO (book l)).length)), (15, .n ((book l).length)), (16, .z 0)]) (M' := [.bx 33 [.z a.server.node, .u a.server.inc, .u a.seq, .d (.ro 2 (procs a.peers))], .rw 33 4 (adverts (book l))]) tk tq hK [(2, [(1, .con (.v (.bool true)))]), (3, [(1, .z ((((book l).length : Nat) : Int)))])] 2000 [0, 1] [3, 6, 7, 14, 15, 16] r (by kernel_rfl) (an ((by have k := mayOk a ha; rw [h0] at k; exact k) : Con Try.prog 32 [.ag [.z a.server.node, .u a.server.inc, .u a.seq, .d (.ro 2 (procs a.peers))]] (.v (.bool true))) (an ((by simp) : (((advertsO (book l)).length : Nat) : Int) = (((book l).length : Nat) : Int)) trivial)) fun ac wd r => ?_
  refine Goes.rounds (Φ := fun (i : Nat) ac wd => ∃ nw : Bool, (i ≤ (book l).length ∧ nw = newsTo (book l) a i) ∧ RE' [] w0 K 40 [(3, .pt 0 0), (6, .sl 1 ((book l).length)), (7, .d (.v (.bool nw))), (14, .sl 1 ((book l).length)), (15, .n ((book l).length)), (16, .n i)] [.bx 33 [.z a.server.node, .u a.server.inc, .u a.seq, .d (.ro 2 (procs a.peers))], .rw 33 4 (adverts (book l))] ac wd) ((book l).length) ?_ (Nat.zero_le _) ⟨true, ⟨Nat.zero_le _, by simp [newsTo, *]⟩, (r).cast (by simp) rfl⟩
  clear r
  rintro i hi0 again0 ac wd ⟨nw, hv0, r⟩
  obtain ⟨hi1, hv2⟩ := hv0
  have hbl := (book_good l).len
  cases nw with
  | false =>
   cases h7 : (decide ((((i : Nat) : Int) : Int) < (((book l).length : Nat) : Int))) with
   | false =>
    have qh7 := of_decide_eq_false h7
    rw [show (.tu [.em 33 4 (advertsO (takeG l a)), .v (.bool (newsG l a))] : DV) = .tu [.em 33 4 (advertsO (takeG l a)), .v (.bool false)] from (by rw [show newsG l a = false from by unfold newsG; rw [show (book l).length = i by omega]; exact hv2.symm])]
    exact toRet tk tq hK rfl [(4, [(0, .b false)]), (9, [(4, .call [.d (.ro 4 (adverts (book l ++ [a])))] (.em 33 4 (advertsO (takeG l a))))])] 2000 r (by kernel_rfl) (an h7 (an ((by first | rfl | (simp; done) | (simp <;> omega)) : ((book l).length) = (adverts (book l)).length) (an ((by first | rfl | (simp; done) | (simp <;> omega)) : (1) = ([[.z a.server.node, .u a.server.inc, .u a.seq, .ro 2 (procs a.peers)]] : List (List DV)).length) (an ((by first | omega | (simp; done) | (simp <;> omega)) : (2 * (((book l).length) + (1)) + 192) * 48 ≤ 281474976710656) (an ((by first | omega | (simp; done) | (simp <;> omega)) : ((book l).length) + (1) < 4611686018427387904) (an ((by first | exact one_adverts [a] | simp [OneR, AV.one, oneC]) : OneR ([[.z a.server.node, .u a.server.inc, .u a.seq, .ro 2 (procs a.peers)]])) (an (ofOk (book l ++ [a]) (by simp; omega) (more_ok ha)) (an ((ind_adverts _ _) : Ind (.em 33 4 (advertsO (takeG l a)))) (an (rfN (4)) (an ((by first | rfl | (simp; done) | (simp <;> omega)) : ((book l).length + (1)) = (adverts (book l) ++ [[.z a.server.node, .u a.server.inc, .u a.seq, .ro 2 (procs a.peers)]] : List (List DV)).length) (an ((by first | exact froz_adverts _ | (rw [adverts_app]; exact froz_adverts _)) : frozR (adverts (book l) ++ [[.z a.server.node, .u a.server.inc, .u a.seq, .ro 2 (procs a.peers)]]) = adverts (book l ++ [a])) (an (rfN ((advertsO (takeG l a)).length)) trivial))))))))))))
   | true =>
    have qh7 := of_decide_eq_true h7
    obtain ⟨x, gx⟩ : ∃ x, (book l)[i]? = some x := ⟨_, List.getElem?_eq_getElem (by omega)⟩
    have u_4 := ((by first | omega | decide | (simp; omega)) : (i) < ((book l).length))
    have u_5 := ((by first | rfl | (simp; done) | (simp <;> omega)) : ((book l).length) ≤ (adverts (book l)).length)
    cases h8 : ((x.server.node : Int) == a.server.node) with
    | false =>
     have qh8 := ne_of_beq_false h8
     exact toHead (todo' := hd Try.f17 0) tk tq hK [(4, [(0, .b true)]), (5, [(0, .n (i)), (1, .ix 0 [.z x.server.node, .u x.server.inc, .u x.seq, .ro 2 (procs x.peers)])]), (6, [(6, .b false)]), (8, [(0, .z (((i + 1 : Nat) : Int)))])] 2000 [0, 1] [3, 6, 7, 14, 15, 16] r (by kernel_rfl) (an h7 (an (rfI ((i : Nat) : Int)) (an u_4 (an u_5 (an (adverts_at gx) (an h8 (an ((wi (by omega)) : IntKind.i64.wrap ((((i : Nat) : Int) : Int) + 1) = ((i + 1 : Nat) : Int)) trivial))))))) fun ac wd r => again0 (by omega) ac wd ⟨false, ⟨by omega, by first | exact (news_no gx (by omega) (by assumption)).symm | (rw [news_yes gx (by first | exact Or.inl (by omega) | exact Or.inr (by assumption))]; exact hv2)⟩, r⟩
    | true =>
     have qh8 := eq_of_beq h8
     cases h9 : (newer a x) with
     | false =>
      exact toHead (todo' := hd Try.f17 0) tk tq hK [(4, [(0, .b true)]), (5, [(0, .n (i)), (1, .ix 0 [.z x.server.node, .u x.server.inc, .u x.seq, .ro 2 (procs x.peers)])]), (6, [(6, .b true), (10, .con (.v (.bool false)))]), (8, [(0, .z (((i + 1 : Nat) : Int)))])] 2000 [0, 1] [3, 6, 7, 14, 15, 16] r (by kernel_rfl) (an h7 (an (rfI ((i : Nat) : Int)) (an u_4 (an u_5 (an (adverts_at gx) (an h8 (an ((by have k := newerOk a x; rw [h9] at k; exact k) : Con Try.prog 33 [.ag [.z a.server.node, .u a.server.inc, .u a.seq, .d (.ro 2 (procs a.peers))], .ag [.z x.server.node, .u x.server.inc, .u x.seq, .d (.ro 2 (procs x.peers))]] (.v (.bool false))) (an ((wi (by omega)) : IntKind.i64.wrap ((((i : Nat) : Int) : Int) + 1) = ((i + 1 : Nat) : Int)) trivial)))))))) fun ac wd r => again0 (by omega) ac wd ⟨false, ⟨by omega, by first | exact (news_no gx (by omega) (by assumption)).symm | (rw [news_yes gx (by first | exact Or.inl (by omega) | exact Or.inr (by assumption))]; exact hv2)⟩, r⟩
     | true =>
      exact toHead (todo' := hd Try.f17 0) tk tq hK [(4, [(0, .b true)]), (5, [(0, .n (i)), (1, .ix 0 [.z x.server.node, .u x.server.inc, .u x.seq, .ro 2 (procs x.peers)])]), (6, [(6, .b true), (10, .con (.v (.bool true)))]), (8, [(0, .z (((i + 1 : Nat) : Int)))])] 2000 [0, 1] [3, 6, 7, 14, 15, 16] r (by kernel_rfl) (an h7 (an (rfI ((i : Nat) : Int)) (an u_4 (an u_5 (an (adverts_at gx) (an h8 (an ((by have k := newerOk a x; rw [h9] at k; exact k) : Con Try.prog 33 [.ag [.z a.server.node, .u a.server.inc, .u a.seq, .d (.ro 2 (procs a.peers))], .ag [.z x.server.node, .u x.server.inc, .u x.seq, .d (.ro 2 (procs x.peers))]] (.v (.bool true))) (an ((wi (by omega)) : IntKind.i64.wrap ((((i : Nat) : Int) : Int) + 1) = ((i + 1 : Nat) : Int)) trivial)))))))) fun ac wd r => again0 (by omega) ac wd ⟨false, ⟨by omega, by first | exact (news_no gx (by omega) (by assumption)).symm | (rw [news_yes gx (by first | exact Or.inl (by omega) | exact Or.inr (by assumption))]; exact hv2)⟩, r⟩
  | true =>
   cases h10 : (decide ((((i : Nat) : Int) : Int) < (((book l).length : Nat) : Int))) with
   | false =>
    have qh10 := of_decide_eq_false h10
    rw [show (.tu [.em 33 4 (advertsO (takeG l a)), .v (.bool (newsG l a))] : DV) = .tu [.em 33 4 (advertsO (takeG l a)), .v (.bool true)] from (by rw [show newsG l a = true from by unfold newsG; rw [show (book l).length = i by omega]; exact hv2.symm])]
    exact toRet tk tq hK rfl [(4, [(0, .b false)]), (9, [(4, .call [.d (.ro 4 (adverts (book l ++ [a])))] (.em 33 4 (advertsO (takeG l a))))])] 2000 r (by kernel_rfl) (an h10 (an ((by first | rfl | (simp; done) | (simp <;> omega)) : ((book l).length) = (adverts (book l)).length) (an ((by first | rfl | (simp; done) | (simp <;> omega)) : (1) = ([[.z a.server.node, .u a.server.inc, .u a.seq, .ro 2 (procs a.peers)]] : List (List DV)).length) (an ((by first | omega | (simp; done) | (simp <;> omega)) : (2 * (((book l).length) + (1)) + 192) * 48 ≤ 281474976710656) (an ((by first | omega | (simp; done) | (simp <;> omega)) : ((book l).length) + (1) < 4611686018427387904) (an ((by first | exact one_adverts [a] | simp [OneR, AV.one, oneC]) : OneR ([[.z a.server.node, .u a.server.inc, .u a.seq, .ro 2 (procs a.peers)]])) (an (ofOk (book l ++ [a]) (by simp; omega) (more_ok ha)) (an ((ind_adverts _ _) : Ind (.em 33 4 (advertsO (takeG l a)))) (an (rfN (4)) (an ((by first | rfl | (simp; done) | (simp <;> omega)) : ((book l).length + (1)) = (adverts (book l) ++ [[.z a.server.node, .u a.server.inc, .u a.seq, .ro 2 (procs a.peers)]] : List (List DV)).length) (an ((by first | exact froz_adverts _ | (rw [adverts_app]; exact froz_adverts _)) : frozR (adverts (book l) ++ [[.z a.server.node, .u a.server.inc, .u a.seq, .ro 2 (procs a.peers)]]) = adverts (book l ++ [a])) (an (rfN ((advertsO (takeG l a)).length)) trivial))))))))))))
   | true =>
    have qh10 := of_decide_eq_true h10
    obtain ⟨x, gx⟩ : ∃ x, (book l)[i]? = some x := ⟨_, List.getElem?_eq_getElem (by omega)⟩
    have u_6 := ((by first | omega | decide | (simp; omega)) : (i) < ((book l).length))
    have u_7 := ((by first | rfl | (simp; done) | (simp <;> omega)) : ((book l).length) ≤ (adverts (book l)).length)
    cases h11 : ((x.server.node : Int) == a.server.node) with
    | false =>
     have qh11 := ne_of_beq_false h11
     exact toHead (todo' := hd Try.f17 0) tk tq hK [(4, [(0, .b true)]), (5, [(0, .n (i)), (1, .ix 0 [.z x.server.node, .u x.server.inc, .u x.seq, .ro 2 (procs x.peers)])]), (6, [(6, .b false)]), (8, [(0, .z (((i + 1 : Nat) : Int)))])] 2000 [0, 1] [3, 6, 7, 14, 15, 16] r (by kernel_rfl) (an h10 (an (rfI ((i : Nat) : Int)) (an u_6 (an u_7 (an (adverts_at gx) (an h11 (an ((wi (by omega)) : IntKind.i64.wrap ((((i : Nat) : Int) : Int) + 1) = ((i + 1 : Nat) : Int)) trivial))))))) fun ac wd r => again0 (by omega) ac wd ⟨true, ⟨by omega, by first | exact (news_no gx (by omega) (by assumption)).symm | (rw [news_yes gx (by first | exact Or.inl (by omega) | exact Or.inr (by assumption))]; exact hv2)⟩, r⟩
    | true =>
     have qh11 := eq_of_beq h11
     cases h12 : (newer a x) with
     | false =>
      exact toHead (todo' := hd Try.f17 0) tk tq hK [(4, [(0, .b true)]), (5, [(0, .n (i)), (1, .ix 0 [.z x.server.node, .u x.server.inc, .u x.seq, .ro 2 (procs x.peers)])]), (6, [(6, .b true), (10, .con (.v (.bool false)))]), (8, [(0, .z (((i + 1 : Nat) : Int)))])] 2000 [0, 1] [3, 6, 7, 14, 15, 16] r (by kernel_rfl) (an h10 (an (rfI ((i : Nat) : Int)) (an u_6 (an u_7 (an (adverts_at gx) (an h11 (an ((by have k := newerOk a x; rw [h12] at k; exact k) : Con Try.prog 33 [.ag [.z a.server.node, .u a.server.inc, .u a.seq, .d (.ro 2 (procs a.peers))], .ag [.z x.server.node, .u x.server.inc, .u x.seq, .d (.ro 2 (procs x.peers))]] (.v (.bool false))) (an ((wi (by omega)) : IntKind.i64.wrap ((((i : Nat) : Int) : Int) + 1) = ((i + 1 : Nat) : Int)) trivial)))))))) fun ac wd r => again0 (by omega) ac wd ⟨false, ⟨by omega, by first | exact (news_no gx (by omega) (by assumption)).symm | (rw [news_yes gx (by first | exact Or.inl (by omega) | exact Or.inr (by assumption))]; exact hv2)⟩, r⟩
     | true =>
      exact toHead (todo' := hd Try.f17 0) tk tq hK [(4, [(0, .b true)]), (5, [(0, .n (i)), (1, .ix 0 [.z x.server.node, .u x.server.inc, .u x.seq, .ro 2 (procs x.peers)])]), (6, [(6, .b true), (10, .con (.v (.bool true)))]), (8, [(0, .z (((i + 1 : Nat) : Int)))])] 2000 [0, 1] [3, 6, 7, 14, 15, 16] r (by kernel_rfl) (an h10 (an (rfI ((i : Nat) : Int)) (an u_6 (an u_7 (an (adverts_at gx) (an h11 (an ((by have k := newerOk a x; rw [h12] at k; exact k) : Con Try.prog 33 [.ag [.z a.server.node, .u a.server.inc, .u a.seq, .d (.ro 2 (procs a.peers))], .ag [.z x.server.node, .u x.server.inc, .u x.seq, .d (.ro 2 (procs x.peers))]] (.v (.bool true))) (an ((wi (by omega)) : IntKind.i64.wrap ((((i : Nat) : Int) : Int) + 1) = ((i + 1 : Nat) : Int)) trivial)))))))) fun ac wd r => again0 (by omega) ac wd ⟨true, ⟨by omega, by first | exact (news_no gx (by omega) (by assumption)).symm | (rw [news_yes gx (by first | exact Or.inl (by omega) | exact Or.inr (by assumption))]; exact hv2)⟩, r⟩
end Go.Proofs.Ytikmdkicccfjpaa
namespace Go.Proofs.Ytikmdkicccfjpaa
open Go.RowKit
theorem own_more {l : List Advert} {i : Nat} {a : Advert} (h : l[i]? = some a) : advertsO (l.take i) ++ [[.v (.int .i64 a.server.node), .v (.int .u64 (a.server.inc : Int)), .v (.int .u64 (a.seq : Int)), .em 30 2 ([] ++ procs a.peers)]] = advertsO (l.take (i + 1)) := by
 obtain ⟨hi, rfl⟩ := List.getElem?_eq_some_iff.1 h
 rw [List.take_succ_eq_append_getElem hi, ← advertsO_app]; rfl
def nTo (l : List Advert) : Nat → Int
 | 0 => 0
 | i + 1 => match l[i]? with | some a => IntKind.i64.wrap (nTo l i + IntKind.i64.wrap (1 + (a.peers.length : Int))) | none => nTo l i
theorem nTo_succ {l : List Advert} {i : Nat} {a : Advert} (h : l[i]? = some a) : IntKind.i64.wrap (nTo l i + IntKind.i64.wrap (1 + (a.peers.length : Int))) = nTo l (i + 1) := by rw [nTo, h]
def longB (l : List Advert) : Bool := (List.range l.length).any fun i => decide (400 < nTo l (i + 1))
theorem long_yes {l : List Advert} {i : Nat} (hi : i < l.length) (h : 400 < nTo l (i + 1)) : longB l = true := by
 unfold longB; rw [List.any_eq_true]; exact ⟨i, by simpa using hi, decide_eq_true h⟩
theorem long_no {l : List Advert} (h : ∀ j, j < l.length → ¬ 400 < nTo l (j + 1)) : longB l = false := by
 unfold longB; rw [List.any_eq_false]; intro i hi; simpa using h i (by simpa using hi)
set_option maxRecDepth 100000 in
theorem ownOk (l : List Advert) (hb : l.length ≤ 1048576) (hp : ∀ x ∈ l, x.peers.length ≤ 1048576) : Con Try.prog 13 [.d (.ro 4 (adverts l))] (.em 33 4 (advertsO l)) := by
 refine Con.intro (by kernel_rfl) rfl rfl 20 rfl rfl fun w0 K ac hK r => ?_
 refine toHead (todo' := hd Try.f13 0) (E' := [(0, .d (.ro 4 (adverts l))), (3, .d (.v (.slice none 0 0))), (4, .z 0)]) (M' := []) tk tq hK [] 2000 [] [0, 3, 4] r (by kernel_rfl) trivial fun ac wd r => ?_
 refine Goes.rounds (Φ := fun (i : Nat) ac wd => (i ≤ l.length) ∧ RE' [] w0 K 20 [(0, .d (.ro 4 (adverts l))), (3, .sl 0 ((l.take i).length)), (4, .n i)] [.rw 33 4 (advertsO (l.take i))] ac wd) (l.length) ?_ (Nat.zero_le _) ⟨(Nat.zero_le _), (r.adopt (M1 := [.rw 33 4 []]) [(3, 33, 4)] [] (by kernel_rfl) (by kernel_rfl)).cast rfl rfl⟩
 clear r
 rintro i hi0 again0 ac wd ⟨hv0, r⟩
 have u_0 := ((by simp) : (((adverts l).length : Nat) : Int) = ((l.length : Nat) : Int))
 cases h0 : (decide ((((i : Nat) : Int) : Int) < ((l.length : Nat) : Int))) with
 | false =>
  have qh0 := of_decide_eq_false h0
  rw [show (.em 33 4 (advertsO l) : DV) = .em 33 4 (advertsO (l.take i)) from (by rw [List.take_of_length_le (by omega)])]
  exact toRet tk tq hK rfl [(3, [(2, .z (((l.length : Nat) : Int))), (3, .b false)])] 2000 r (by kernel_rfl) (an u_0 (an h0 (an ((by first | rfl | (simp; done) | (simp <;> omega)) : ((l.take i).length) = (advertsO (l.take i)).length) trivial)))
 | true =>
  have qh0 := of_decide_eq_true h0
  obtain ⟨e_l_i, ge_l_i⟩ : ∃ x, l[i]? = some x := ⟨_, List.getElem?_eq_getElem (by omega)⟩
  exact toHead (todo' := hd Try.f13 0) (E' := [(0, .d (.ro 4 (adverts l))), (3, .sl 0 ((l.take i).length + (1))), (4, .n (i + 1))]) (M' := [.rw 33 4 (advertsO (l.take i) ++ [[.z e_l_i.server.node, .u e_l_i.server.inc, .u e_l_i.seq, .em 30 2 ([] ++ procs e_l_i.peers)]])]) tk tq hK [(3, [(2, .z (((l.length : Nat) : Int))), (3, .b true)]), (4, [(1, .z (((i + 1 : Nat) : Int)))]), (5, [(3, .ix (i) [.z e_l_i.server.node, .u e_l_i.server.inc, .u e_l_i.seq, .ro 2 (procs e_l_i.peers)]), (5, .con (.ag [.z e_l_i.server.node, .u e_l_i.server.inc, .u e_l_i.seq, .em 30 2 ([] ++ procs e_l_i.peers)]))])] 2000 [0] [0, 3, 4] r (by kernel_rfl) (an u_0 (an h0 (an (rfI ((i : Nat) : Int)) (an (adverts_at ge_l_i) (an (refOwn e_l_i (by have := hp _ (List.mem_of_getElem? ge_l_i); omega) : Con Try.prog 31 [.ag [.z e_l_i.server.node, .u e_l_i.server.inc, .u e_l_i.seq, .d (.ro 2 (procs e_l_i.peers))]] (.ag [.z e_l_i.server.node, .u e_l_i.server.inc, .u e_l_i.seq, .em 30 2 ([] ++ procs e_l_i.peers)])) (an (rfN (([] ++ procs e_l_i.peers : List (List DV)).length)) (an ((by first | rfl | (simp; done) | (simp <;> omega)) : ((l.take i).length) = (advertsO (l.take i)).length) (an ((by first | rfl | (simp; done) | (simp <;> omega)) : (1) = ([[.z e_l_i.server.node, .u e_l_i.server.inc, .u e_l_i.seq, .em 30 2 ([] ++ procs e_l_i.peers)]] : List (List DV)).length) (an ((by first | omega | (simp; done) | (simp <;> omega)) : (2 * (((l.take i).length) + (1)) + 192) * 48 ≤ 281474976710656) (an ((by first | omega | (simp; done) | (simp <;> omega)) : ((l.take i).length) + (1) < 4611686018427387904) (an ((by first | exact one_procs _ | rfl | simp [OneR, AV.one, oneC]) : OneR ([[.z e_l_i.server.node, .u e_l_i.server.inc, .u e_l_i.seq, .em 30 2 ([] ++ procs e_l_i.peers)]])) (an ((wi (by omega)) : IntKind.i64.wrap ((((i : Nat) : Int) : Int) + 1) = ((i + 1 : Nat) : Int)) trivial)))))))))))) fun ac wd r => again0 (by omega) ac wd ⟨(by omega), r.cast (by rw [List.take_succ_eq_append_getElem (show i < l.length by omega), List.length_append]; rfl) (by rw [own_more ge_l_i])⟩
set_option maxRecDepth 100000 in
theorem longOk (l : List Advert) (hb : l.length ≤ 9223372036854775807) : Con Try.prog 11 [.d (.ro 4 (adverts l))] (.v (.bool (longB l))) := by
 refine Con.intro (by kernel_rfl) rfl rfl 22 rfl rfl fun w0 K ac hK r => ?_
 refine toHead (todo' := hd Try.f11 0) (E' := [(0, .d (.ro 4 (adverts l))), (3, .z (nTo l 0)), (4, .n 0)]) (M' := []) tk tq hK [] 2000 [] [0, 3, 4] r (by kernel_rfl) trivial fun ac wd r => ?_
 refine Goes.rounds (Φ := fun (i : Nat) ac wd => (i ≤ l.length ∧ ∀ j, j < i → ¬ 400 < nTo l (j + 1)) ∧ RE' [] w0 K 22 [(0, .d (.ro 4 (adverts l))), (3, .z (nTo l i)), (4, .n i)] [] ac wd) (l.length) ?_ (Nat.zero_le _) ⟨⟨Nat.zero_le _, by omega⟩, r⟩
 clear r
 rintro i hi0 again0 ac wd ⟨hv0, r⟩
 obtain ⟨hi1, hv0⟩ := hv0
 have u_0 := ((by simp) : (((adverts l).length : Nat) : Int) = ((l.length : Nat) : Int))
 cases h0 : (decide ((((i : Nat) : Int) : Int) < ((l.length : Nat) : Int))) with
 | false =>
  have qh0 := of_decide_eq_false h0
  rw [show (.v (.bool (longB l)) : DV) = .v (.bool false) from (bv (long_no fun j hj => hv0 j (by omega)))]
  exact toRet tk tq hK rfl [(3, [(2, .z (((l.length : Nat) : Int))), (3, .b false)])] 2000 r (by kernel_rfl) (an u_0 (an h0 trivial))
 | true =>
  have qh0 := of_decide_eq_true h0
  obtain ⟨e_l_i, ge_l_i⟩ : ∃ x, l[i]? = some x := ⟨_, List.getElem?_eq_getElem (by omega)⟩
  have u_1 := ((by simp) : (((procs e_l_i.peers).length : Nat) : Int) = ((e_l_i.peers.length : Nat) : Int))
  have u_2 := ((by first | exact wi (by omega) | rfl | exact nTo_succ ge_l_i) : IntKind.i64.wrap ((1 : Int) + ((e_l_i.peers.length : Nat) : Int)) = IntKind.i64.wrap (1 + ((e_l_i.peers.length : Nat) : Int)))
  have u_3 := ((by first | exact wi (by omega) | rfl | exact nTo_succ ge_l_i) : IntKind.i64.wrap ((nTo l i : Int) + IntKind.i64.wrap (1 + ((e_l_i.peers.length : Nat) : Int))) = nTo l (i + 1))
  cases h1 : (decide ((400 : Int) < nTo l (i + 1))) with
  | false =>
   have qh1 := of_decide_eq_false h1
   exact toHead (todo' := hd Try.f11 0) tk tq hK [(3, [(2, .z (((l.length : Nat) : Int))), (3, .b true)]), (4, [(1, .z (((i + 1 : Nat) : Int)))]), (5, [(3, .ix (i) [.z e_l_i.server.node, .u e_l_i.server.inc, .u e_l_i.seq, .ro 2 (procs e_l_i.peers)]), (6, .z (((e_l_i.peers.length : Nat) : Int))), (7, .z (IntKind.i64.wrap (1 + ((e_l_i.peers.length : Nat) : Int)))), (8, .z (nTo l (i + 1)))]), (6, [(1, .b false)])] 2000 [] [0, 3, 4] r (by kernel_rfl) (an u_0 (an h0 (an (rfI ((i : Nat) : Int)) (an (adverts_at ge_l_i) (an u_1 (an u_2 (an u_3 (an h1 (an ((by first | exact wi (by omega) | rfl | exact nTo_succ ge_l_i) : IntKind.i64.wrap ((((i : Nat) : Int) : Int) + 1) = ((i + 1 : Nat) : Int)) trivial))))))))) fun ac wd r => again0 (by omega) ac wd ⟨⟨by omega, fun j hj => by rcases Nat.lt_succ_iff_lt_or_eq.1 hj with h | rfl; exact hv0 j h; omega⟩, r⟩
  | true =>
   have qh1 := of_decide_eq_true h1
   rw [show (.v (.bool (longB l)) : DV) = .v (.bool true) from (bv (long_yes (i := i) (by omega) (by omega)))]
   exact toRet tk tq hK rfl [(3, [(2, .z (((l.length : Nat) : Int))), (3, .b true)]), (5, [(3, .ix (i) [.z e_l_i.server.node, .u e_l_i.server.inc, .u e_l_i.seq, .ro 2 (procs e_l_i.peers)]), (6, .z (((e_l_i.peers.length : Nat) : Int))), (7, .z (IntKind.i64.wrap (1 + ((e_l_i.peers.length : Nat) : Int)))), (8, .z (nTo l (i + 1)))]), (6, [(1, .b true)])] 2000 r (by kernel_rfl) (an u_0 (an h0 (an (rfI ((i : Nat) : Int)) (an (adverts_at ge_l_i) (an u_1 (an u_2 (an u_3 (an h1 trivial))))))))
end Go.Proofs.Ytikmdkicccfjpaa
namespace Go.Proofs.Ytikmdkicccfjpaa
open Go.RowKit
def reC (b : List Advert) (p : Proc) : List Proc := p :: (b.filter fun a => decide (0 ≤ stepsR b p a.server)).map Advert.server
def reachC (l : List Advert) (p : Proc) : List Proc := if p.low then srt (reC (book l) p) else []
theorem reach_c {l : List Advert} {p : Proc} (hp : p.okP) : reachG l p = reachC l p := by
 unfold reachC
 split
 ·rename_i h
  rw [← reach_is hp h (Nat.le_refl _)]; unfold reTo reC; rw [List.take_length]
 ·rename_i h
  unfold reachG
  rw [if_neg]
  rintro ⟨h1, h2⟩
  exact h (by unfold Proc.low; rw [h1, decide_eq_true h2]; rfl)
def nextC (l : List Advert) (p : Proc) (to : Int) : Int × Bool :=
 if to = p.node then (0, false) else match (book l).find? (fun a => decide (a.server.node = to)) with
 | none => (0, false)
 | some a => if stepsR (book l) p a.server < 0 then (0, false) else match (nbTo (book l) p (book l).length).find? (fun q => stepsR (book l) q a.server == stepsR (book l) p a.server - 1) with
  | none => (0, false)
  | some q => (q.node, true)
theorem next_c {l : List Advert} {p : Proc} {to : Int} : nextG l p to = nextC l p to := by
 unfold nextC nextG
 by_cases hne : to = p.node
 ·rw [if_pos hne, if_pos hne]
 ·rw [if_neg hne, if_neg hne]
  cases hfd : (book l).find? (fun a => decide (a.server.node = to)) with
  | none => rfl
  | some a =>
   dsimp only
   have hm := List.mem_of_find?_eq_some hfd
   obtain ⟨i, hi, rfl⟩ := List.getElem_of_mem hm
   have ga : (book l)[i]? = some (book l)[i] := List.getElem?_eq_getElem hi
   have hn : (book l)[i].server.node = to := by simpa using List.find?_some hfd
   by_cases hs : stepsR (book l) p (book l)[i].server < 0
   ·have h0 := steps_none ga hs
    rw [if_pos hs]
    cases hd : dOf (farL (book l) (book l)[i].server) p with
    | none => rfl
    | some s => rw [hd] at h0; cases h0
   ·rw [if_neg hs]
    obtain ⟨s, h1, h2, h3⟩ := steps_some ga hs (by omega)
    simp only [h1]
    have : (jn (book l) p).find? (hit (book l) (book l)[i].server s) = (nbTo (book l) p (book l).length).find? (fun q => stepsR (book l) q (book l)[i].server == stepsR (book l) p (book l)[i].server - 1) := by
     rw [jn_nb (book_good l)]
     congr 1
     funext q
     exact steps_hit ga h3 h2 rfl
    rw [this]
    try (cases (nbTo (book l) p (book l).length).find? (fun q => stepsR (book l) q (book l)[i].server == stepsR (book l) p (book l)[i].server - 1) <;> rfl)
abbrev exam : List Advert := [⟨⟨1, 1⟩, 1, [⟨2, 1⟩]⟩, ⟨⟨2, 1⟩, 1, [⟨1, 1⟩, ⟨3, 4⟩]⟩, ⟨⟨3, 4⟩, 1, [⟨2, 1⟩]⟩, ⟨⟨4, 1⟩, 1, [⟨3, 4⟩]⟩]
theorem exam_1 : book exam = exam := by kernel_rfl
theorem exam_2 : nextG exam ⟨1, 1⟩ 3 = (2, true) := by rw [next_c]; kernel_rfl
theorem exam_3 : nextG exam ⟨1, 1⟩ 4 = (0, false) := by rw [next_c]; kernel_rfl
theorem exam_4 : (reachG exam ⟨1, 1⟩).length = 3 := by rw [reach_c (by unfold Proc.okP; dsimp only; omega)]; kernel_rfl
abbrev exam2 : List Advert := [⟨⟨1, 1⟩, 1, [⟨2, 1⟩]⟩, ⟨⟨2, 1⟩, 1, [⟨1, 1⟩, ⟨3, 4⟩]⟩, ⟨⟨3, 4⟩, 2, []⟩, ⟨⟨4, 1⟩, 1, [⟨3, 4⟩]⟩]
theorem exam_5 : takeG exam ⟨⟨3, 4⟩, 2, []⟩ = exam2 := by kernel_rfl
theorem exam_6 : newsG exam ⟨⟨3, 4⟩, 2, []⟩ = true := by kernel_rfl
theorem exam_7 : newsG exam ⟨⟨3, 3⟩, 2, []⟩ = false := by kernel_rfl
theorem exam_8 : (reachG exam2 ⟨1, 1⟩).length = 2 := by rw [reach_c (by unfold Proc.okP; dsimp only; omega)]; kernel_rfl
end Go.Proofs.Ytikmdkicccfjpaa
namespace Go.Proofs.Ytikmdkicccfjpaa
open Go.RowKit
set_option maxRecDepth 100000 in
theorem examOk  : Con Try.prog 29 [] (.em 33 4 (advertsO exam)) := by
 refine Con.intro (by kernel_rfl) rfl rfl 19 rfl rfl fun w0 K ac hK r => ?_
 rw [show (.em 33 4 (advertsO exam) : DV) = .em 33 4 ([[.z 1, .v (.int .u64 1), .v (.int .u64 1), .em 30 2 ([[.z 2, .v (.int .u64 1)]])], [.z 2, .v (.int .u64 1), .v (.int .u64 1), .em 30 2 ([[.z 1, .v (.int .u64 1)], [.z 3, .v (.int .u64 4)]])], [.z 3, .v (.int .u64 4), .v (.int .u64 1), .em 30 2 ([[.z 2, .v (.int .u64 1)]])], [.z 4, .v (.int .u64 1), .v (.int .u64 1), .em 30 2 ([[.z 3, .v (.int .u64 4)]])]]) from rfl]
 exact toRet tk tq hK rfl [(1, [(0, .into 200 []), (1, .into 200 []), (4, .into 200 []), (5, .into 200 []), (6, .into 200 []), (9, .into 200 []), (10, .into 200 []), (13, .into 200 []), (14, .into 200 [])])] 2000 r (by kernel_rfl) (an ((by first | rfl | (simp; done)) : (1) = ([[.z 2, .v (.int .u64 1)]] : List (List DV)).length) (an ((by first | rfl | (simp; done)) : (2) = ([[.z 1, .v (.int .u64 1)], [.z 3, .v (.int .u64 4)]] : List (List DV)).length) (an ((by first | rfl | (simp; done)) : (1) = ([[.z 2, .v (.int .u64 1)]] : List (List DV)).length) (an ((by first | rfl | (simp; done)) : (1) = ([[.z 3, .v (.int .u64 4)]] : List (List DV)).length) (an ((by first | rfl | (simp; done)) : (4) = ([[.z 1, .v (.int .u64 1), .v (.int .u64 1), .em 30 2 ([[.z 2, .v (.int .u64 1)]])], [.z 2, .v (.int .u64 1), .v (.int .u64 1), .em 30 2 ([[.z 1, .v (.int .u64 1)], [.z 3, .v (.int .u64 4)]])], [.z 3, .v (.int .u64 4), .v (.int .u64 1), .em 30 2 ([[.z 2, .v (.int .u64 1)]])], [.z 4, .v (.int .u64 1), .v (.int .u64 1), .em 30 2 ([[.z 3, .v (.int .u64 4)]])]] : List (List DV)).length) trivial)))))
theorem Con.sub {P : Program} {f : FuncId} {args args' : List AV} {x : DV} (h : Con P f args x) (hl : args'.length = args.length) (e : ∀ (K : World → Prop) (j : Nat) c c' y, args[j]? = some c → args'[j]? = some c' → ARel K [] c' y → ARel K [] c y) : Con P f args' x := by
 refine ⟨h.1, fun w K ys hK hy hr => h.2 w K ys hK (by omega) fun j c y h1 h2 => ?_⟩
 have hj : j < args'.length := by rw [hl]; exact (List.getElem?_eq_some_iff.1 h1).1
 have e1 := List.getElem?_eq_getElem hj
 exact e _ j c _ y h1 e1 (hr j _ y e1 h2)
theorem ARel.le {K : World → Prop} {x x' : DV} {y : Value} (e : Le x x') (h : ARel K [] (.d x) y) : ARel K [] (.d x') y := by
 cases h with | d h => exact .d (e _ _ _ h)
theorem adv_nil {K : World → Prop} {a b c : Value} {y : Value} (h : ARel K [] (.ag [.d (.v a), .d (.v b), .d (.v c), .d (.v (.slice none 0 0))]) y) : ARel K [] (.ag [.d (.v a), .d (.v b), .d (.v c), .d (.ro 2 [])]) y := by
 cases h with
 | ag ys hl hr =>
  refine .ag ys hl fun j c' z h1 h2 => ?_
  match j with
  | 0 => simp at h1; subst h1; exact hr 0 _ z rfl h2
  | 1 => simp at h1; subst h1; exact hr 1 _ z rfl h2
  | 2 => simp at h1; subst h1; exact hr 2 _ z rfl h2
  | 3 => simp at h1; subst h1; exact ARel.le (Le.nilRo 2) (hr 3 _ z rfl h2)
  | j + 4 => simp at h1
theorem take_nil (l : List Advert) (p : Proc) (s : Nat) (hb : l.length ≤ 9223372036854775807) (hl : ∀ x ∈ l, x.peers.length ≤ 9223372036854775807) : Con Try.prog 17 [.d (.ro 4 (adverts l)), .ag [.z p.node, .u p.inc, .u s, .d (.v (.slice none 0 0))]] (.tu [.ro 4 (adverts (takeG l ⟨p, s, []⟩)), .v (.bool (newsG l ⟨p, s, []⟩))]) := by
 have h := (takeOk l ⟨p, s, []⟩ hb hl (by simp)).froz
 rw [froz, frozL, frozL, frozL, froz, froz, froz_advertsO] at h
 refine h.sub rfl fun K j c c' y h1 h2 r => ?_
 match j with
 | 0 => simp at h1 h2; subst h1 h2; exact r
 | 1 => simp at h1 h2; subst h1 h2; exact adv_nil r
 | j + 2 => simp at h1
theorem examRo : Con Try.prog 29 [] (.ro 4 (adverts exam)) := by
 have h := examOk.froz; rw [froz, froz_advertsO] at h; exact h
theorem exam_ok : ∀ x ∈ exam, x.peers.length ≤ 9223372036854775807 := by decide
theorem exam2_ok : ∀ x ∈ exam2, x.peers.length ≤ 9223372036854775807 := by decide
theorem examOf : Con Try.prog 14 [.d (.ro 4 (adverts exam))] (.ro 4 (adverts exam)) := by have h := ofRo exam (by decide) exam_ok; rw [exam_1] at h; exact h
theorem okP_small {a : Int} {b : Nat} (h : 0 ≤ a ∧ a ≤ 10 ∧ b ≤ 10) : (⟨a, b⟩ : Proc).okP := by unfold Proc.okP; dsimp only; omega
theorem examN (to n : Int) (c : Bool) (h : nextG exam ⟨1, 1⟩ to = (n, c)) : Con Try.prog 23 [.d (.ro 4 (adverts exam)), .ag [.z 1, .d (.v (.int .u64 1))], .z to] (.tu [.v (.int .i64 n), .v (.bool c)]) := by
 have h' := nextOk exam ⟨1, 1⟩ to (by decide) exam_ok (okP_small (by omega)); rw [h] at h'; exact h'
theorem examT1 : Con Try.prog 17 [.d (.ro 4 (adverts exam)), .ag [.z 3, .d (.v (.int .u64 4)), .d (.v (.int .u64 2)), .d (.v (.slice none 0 0))]] (.tu [.ro 4 (adverts exam2), .v (.bool true)]) := by
 have h := take_nil exam ⟨3, 4⟩ 2 (by decide) exam_ok; rw [exam_5, exam_6] at h; exact h
theorem examT2 : Con Try.prog 17 [.d (.ro 4 (adverts exam)), .ag [.z 3, .d (.v (.int .u64 3)), .d (.v (.int .u64 2)), .d (.v (.slice none 0 0))]] (.tu [.ro 4 (adverts (takeG exam ⟨⟨3, 3⟩, 2, []⟩)), .v (.bool false)]) := by
 have h := take_nil exam ⟨3, 3⟩ 2 (by decide) exam_ok; rw [exam_7] at h; exact h
set_option maxRecDepth 100000 in
theorem awakeOk  : Con Try.prog 12 [] (.v (.bool true)) := by
 refine Con.intro (by kernel_rfl) rfl rfl 73 rfl rfl fun w0 K ac hK r => ?_
 exact toRet tk tq hK rfl [(1, [(0, .con (.ro 4 (adverts exam))), (1, .con (.ro 4 (adverts exam)))]), (2, [(1, .into 200 []), (2, .con (.tu [.z 2, .v (.bool true)]))]), (3, [(1, .into 200 []), (2, .con (.tu [.z 0, .v (.bool false)]))]), (4, [(1, .into 200 []), (3, .con (.tu [.ro 4 (adverts exam2), .v (.bool true)]))]), (5, [(1, .into 200 []), (3, .con (.tu [.ro 4 (adverts (takeG exam ⟨⟨3, 3⟩, 2, []⟩)), .v (.bool false)]))]), (6, [(1, .z (((4 : Nat) : Int))), (5, .into 200 []), (6, .con (.ro 2 (procs (reachG exam ⟨1, 1⟩)))), (7, .z (((3 : Nat) : Int))), (23, .into 200 []), (24, .con (.ro 2 (procs (reachG exam2 ⟨1, 1⟩)))), (25, .z (((2 : Nat) : Int)))])] 2000 r (by kernel_rfl) (an (examRo) (an (examOf) (an (examN 3 2 true exam_2) (an (examN 4 0 false exam_3) (an (examT1) (an (examT2) (an ((by first | rfl | (simp [exam_4]; done) | (simp [exam_8]; done)) : (((adverts exam).length : Nat) : Int) = ((4 : Nat) : Int)) (an (reachOk exam ⟨1, 1⟩ (by decide) exam_ok (okP_small (by omega))) (an ((by first | rfl | (simp [exam_4]; done) | (simp [exam_8]; done)) : (((procs (reachG exam ⟨1, 1⟩)).length : Nat) : Int) = ((3 : Nat) : Int)) (an (reachOk exam2 ⟨1, 1⟩ (by decide) exam2_ok (okP_small (by omega))) (an ((by first | rfl | (simp [exam_4]; done) | (simp [exam_8]; done)) : (((procs (reachG exam2 ⟨1, 1⟩)).length : Nat) : Int) = ((2 : Nat) : Int)) trivial)))))))))))
end Go.Proofs.Ytikmdkicccfjpaa
namespace Go.Proofs.Ytikmdkicccfjpaa
open Go.RowKit
theorem Try.own : ownKnob Try.prog.godebug = none := by kernel_rfl
deriving instance Inhabited for Proc, Advert
variable {w : World}
theorem Rd.int' {P : Program} {t : TypeId} (h : P.underlying t = some (.int .i64)) : Rd P w t (fun n : Int => [.z n]) fun n => -9223372036854775808 ≤ n ∧ n ≤ 9223372036854775807 := fun cs hc => by
 obtain ⟨n, rfl, hw⟩ := hc.int h
 have hw' : -9223372036854775808 ≤ n ∧ n ≤ 9223372036854775807 := by simpa [Lit.wf, IntKind.min, IntKind.max, IntKind.signed, IntKind.bits] using hw
 exact ⟨n, hw', .one (.v _)⟩
theorem rd_proc : Rd Try.prog w 30 Proc.row Proc.okP := ((Rd.two Try.underlying30 rfl rfl (k0 := 1) (k1 := 1) (by kernel_rfl) (by kernel_rfl) (by kernel_rfl) (Rd.int' Try.underlying3) (Rd.u64 Try.underlying28)).map fun x => Proc.mk x.1 x.2) (fun _ => rfl) fun _ h => h
end Go.Proofs.Ytikmdkicccfjpaa
namespace Go.Proofs.Ytikmdkicccfjpaa
open Go.RowKit
theorem stp_seq {k : Nat} {c a : Advert} (h : 1 ≤ c.seq) : 1 ≤ (stp k c a).seq := by
 unfold stp; split
 ·rename_i h2; exact (Advert.may_iff.1 h2.1).2.1.1
 ·exact h
theorem best_some {l : List Advert} {i : Nat} {x : Advert} (h : l[i]? = some x) (hm : x.may = true) {k : Nat} (hk : x.server.node = (k : Int)) : ∀ n, i < n → 1 ≤ (best l n k).seq := by
 intro n hn
 induction n with
 | zero => omega
 | succ n ih =>
  rcases Nat.lt_or_ge n l.length with hl | hl
  ·have e := List.getElem?_eq_getElem hl
   rw [best_succ e]
   rcases Nat.lt_or_ge i n with h1 | h1
   ·exact stp_seq (ih h1)
   ·obtain rfl : i = n := by omega
    rw [h] at e; cases e
    unfold stp; split
    ·exact (Advert.may_iff.1 hm).2.1.1
    ·rename_i hc
     rcases Nat.eq_zero_or_pos (best l i k).seq with h0 | h0
     ·exact absurd ⟨hm, hk, Or.inl h0⟩ hc
     ·exact h0
  ·have : best l (n + 1) k = best l n k := by rw [best, best, List.take_of_length_le (by omega), List.take_of_length_le hl]
   rw [this]; exact ih (by have := (List.getElem?_eq_some_iff.1 h).1; omega)
theorem mem_bookTo {l : List Advert} {x : Advert} : ∀ {k : Nat}, x ∈ bookTo l k ↔ ∃ j, j < k ∧ best l l.length j = x ∧ 0 < x.seq
 | 0 => by simp [bookTo]
 | k + 1 => by
  rw [bookTo, List.mem_append, mem_bookTo (k := k)]
  constructor
  ·rintro (⟨j, h1, h2, h3⟩ | h)
   ·exact ⟨j, by omega, h2, h3⟩
   ·split at h
    ·rw [List.mem_singleton] at h; subst h; exact ⟨k, by omega, rfl, by assumption⟩
    ·cases h
  ·rintro ⟨j, h1, h2, h3⟩
   rcases Nat.lt_or_ge j k with h | h
   ·exact Or.inl ⟨j, h, h2, h3⟩
   ·obtain rfl : j = k := by omega
    right; rw [if_pos (by rw [h2]; exact h3), h2]; exact List.mem_singleton.2 rfl
theorem mem_book {l : List Advert} {x : Advert} {k : Nat} (hk : k < 5) (h : best l l.length k = x) (hx : 0 < x.seq) : x ∈ book l := mem_bookTo.2 ⟨k, hk, h, hx⟩
theorem best_book {b : List Advert} (g : Book b) {x : Advert} (hx : x ∈ b) : best b b.length x.server.node.toNat = x := by
 obtain ⟨i, hi, e⟩ := List.getElem_of_mem hx
 have hm := g.may x hx
 obtain ⟨h1, h2, h3⟩ := may_node hm
 have hs := best_some (i := i) (x := x) (by rw [List.getElem?_eq_getElem hi, e]) hm (k := x.server.node.toNat) h1.symm b.length hi
 rcases best_or b x.server.node.toNat b.length with h | ⟨h4, -, h5⟩
 ·rw [h] at hs; exact absurd hs (by decide)
 ·obtain ⟨j, hj, ej⟩ := List.getElem_of_mem h4
  rw [← ej] at h5 ⊢
  rw [← e]
  have up := List.pairwise_iff_getElem.1 g.up
  rcases Nat.lt_trichotomy i j with h | rfl | h
  ·have := up i j hi hj h; rw [e] at this; omega
  ·rfl
  ·have := up j i hj hi h; rw [e] at this; omega
theorem best_snoc (l : List Advert) (a : Advert) (k : Nat) : best (l ++ [a]) (l ++ [a]).length k = stp k (best l l.length k) a := by
 have h : (l ++ [a])[l.length]? = some a := by simp
 rw [List.length_append, show l.length + [a].length = l.length + 1 from rfl, best_succ h]
 congr 1
 unfold best
 rw [List.take_append_of_le_length (Nat.le_refl _)]
end Go.Proofs.Ytikmdkicccfjpaa
namespace Go.Proofs.Ytikmdkicccfjpaa
open Go.RowKit
theorem bigB_ok {l : List Advert} (h : ∀ x ∈ l, x.peers.length ≤ 1048576) : ∀ x ∈ l, x.peers.length ≤ 9223372036854775807 := fun x hx => by have := h x hx; omega
theorem sameT (l : List Advert) (hb : l.length ≤ 9223372036854775807) (hl : ∀ x ∈ l, x.peers.length ≤ 9223372036854775807) : Con Try.prog 15 [.d (.ro 4 (adverts l)), .d (.ro 4 (adverts l))] (.v (.bool true)) := by
 have h := sameOk l l hb hl; rw [decide_eq_true rfl] at h; exact h
end Go.Proofs.Ytikmdkicccfjpaa
namespace Go.Proofs.Ytikmdkicccfjpaa
open Go.RowKit
theorem nTo_le {l : List Advert} (hz : ∀ x ∈ l, x.peers.length ≤ 140737488355328) (h : longB l = false) : ∀ i, i ≤ l.length → (i : Int) ≤ nTo l i ∧ nTo l i ≤ 400 ∧ ∀ x ∈ l.take i, x.peers.length ≤ 400 := by
 intro i
 induction i with
 | zero => intro _; exact ⟨Int.le_refl _, show (0 : Int) ≤ 400 by decide, by simp⟩
 | succ i ih =>
  intro hi
  obtain ⟨h1, h2, h3⟩ := ih (by omega)
  have e := List.getElem?_eq_getElem (show i < l.length by omega)
  have hp := hz _ (List.getElem_mem (show i < l.length by omega))
  have h4 : ¬ 400 < nTo l (i + 1) := by
   unfold longB at h; rw [List.any_eq_false] at h
   simpa using h i (by simp; omega)
  have h5 : nTo l (i + 1) = nTo l i + (1 + (l[i].peers.length : Int)) := by
   rw [← nTo_succ e, wi (x := 1 + (l[i].peers.length : Int)) (y := 1 + (l[i].peers.length : Int)) (by omega), wi (y := nTo l i + (1 + (l[i].peers.length : Int))) (by omega)]
  refine ⟨by omega, by omega, fun x hx => ?_⟩
  rw [List.take_succ_eq_append_getElem (by omega), List.mem_append, List.mem_singleton] at hx
  rcases hx with hx | rfl
  ·exact h3 x hx
  ·omega
theorem longB_no {l : List Advert} (hz : ∀ x ∈ l, x.peers.length ≤ 140737488355328) (h : longB l = false) : l.length ≤ 400 ∧ ∀ x ∈ l, x.peers.length ≤ 1048576 := by
 obtain ⟨h1, h2, h3⟩ := nTo_le hz h l.length (Nat.le_refl _)
 rw [List.take_length] at h3
 exact ⟨by omega, fun x hx => Nat.le_trans (h3 x hx) (by decide)⟩
end Go.Proofs.Ytikmdkicccfjpaa
namespace Go.Proofs.Ytikmdkicccfjpaa
open Go.ChangeShapes Go.WideShapes Go.ChangeAt Go.RowKit
section
variable {w : World} {B : Nat}
theorem rdz_procs : Rdz Try.prog w B 31 (fun l : List Proc => [.ro 2 (procs l)]) fun l => l.length * 16 ≤ B ∧ ∀ p ∈ l, p.okP := Rdz.slice Try.underlying31 (by kernel_rfl) (by kernel_rfl) (by decide) rd_proc.sz
theorem rdz_advert : Rdz Try.prog w B 33 Advert.row fun a => a.peers.length * 16 ≤ B ∧ a.server.okP := ((Rdz.three Try.underlying33 rfl rfl rfl (k0 := 2) (k1 := 1) (k2 := 1) (by kernel_rfl) (by kernel_rfl) (by kernel_rfl) (by kernel_rfl) rd_proc.sz (Rd.u64 Try.underlying28).sz rdz_procs).map fun x => Advert.mk x.1 x.2.1 x.2.2) (fun _ => rfl) fun _ h => ⟨h.2.2.1, h.1⟩
theorem rdz_book : Rdz Try.prog w B 22 (fun l : List Advert => [.ro 4 (adverts l)]) fun l => l.length * 48 ≤ B ∧ ∀ a ∈ l, a.peers.length * 16 ≤ B ∧ a.server.okP := Rdz.slice Try.underlying22 (by kernel_rfl) (by kernel_rfl) (by decide) rdz_advert
theorem peersZ {l : List Advert} (h : ∀ a ∈ l, a.peers.length * 16 ≤ reachBytes ∧ a.server.okP) : ∀ a ∈ l, a.peers.length ≤ 140737488355328 := fun a ha => by have := (h a ha).1; have := reachBytes_lt; omega
end
end Go.Proofs.Ytikmdkicccfjpaa
namespace Go.Proofs.Ytikmdkicccfjpaa
open Go.RowKit
theorem newer_iff {a b : Advert} : newer a b = true ↔ b.server.inc < a.server.inc ∨ a.server.inc = b.server.inc ∧ b.seq < a.seq := by
 unfold newer; exact decide_eq_true_iff
theorem newer_no {a b : Advert} : newer a b = false ↔ ¬ (b.server.inc < a.server.inc ∨ a.server.inc = b.server.inc ∧ b.seq < a.seq) := by
 unfold newer; exact decide_eq_false_iff_not
theorem newer_self (a : Advert) : newer a a = false := newer_no.2 (by omega)
theorem newer_trans {a b c : Advert} (h : newer a b = true) (k : newer b c = true) : newer a c = true := by
 rw [newer_iff] at *; omega
theorem book_ext {l o : List Advert} (h : ∀ k, k < 5 → best l l.length k = best o o.length k) : book l = book o := by
 have key : ∀ k, k ≤ 5 → bookTo l k = bookTo o k := by
  intro k
  induction k with
  | zero => intro _; rfl
  | succ k ih => intro hk; rw [bookTo, bookTo, ih (by omega), h k (by omega)]
 exact key 5 (Nat.le_refl _)
theorem best_max {l : List Advert} {k : Nat} : ∀ (n i : Nat), i < n → ∀ y, l[i]? = some y → y.may = true → y.server.node = (k : Int) → newer y (best l n k) = false := by
 intro n
 induction n with
 | zero => intro i hi; omega
 | succ n ih =>
  intro i hi y hy hm hk
  rcases Nat.lt_or_ge n l.length with hl | hl
  ·have e := List.getElem?_eq_getElem hl
   rw [best_succ e]
   unfold stp
   split
   ·rename_i hc
    rcases Nat.lt_or_ge i n with h1 | h1
    ·have h2 := ih i h1 y hy hm hk
     rcases hc.2.2 with h3 | h3
     ·have := best_some hy hm hk n h1; omega
     ·cases h4 : newer y l[n] with
      | false => rfl
      | true => rw [newer_trans h4 h3] at h2; cases h2
    ·obtain rfl : i = n := by omega
     rw [hy] at e; cases e; exact newer_self _
   ·rename_i hc
    rcases Nat.lt_or_ge i n with h1 | h1
    ·exact ih i h1 y hy hm hk
    ·obtain rfl : i = n := by omega
     rw [hy] at e; cases e
     cases h4 : newer l[i] (best l i k) with
     | false => rfl
     | true => exact absurd ⟨hm, hk, Or.inr h4⟩ hc
  ·have h0 : best l (n + 1) k = best l n k := by rw [best, best, List.take_of_length_le (by omega), List.take_of_length_le hl]
   rw [h0]; exact ih i (by have := (List.getElem?_eq_some_iff.1 hy).1; omega) y hy hm hk
theorem best_at {l : List Advert} {y : Advert} (hy : y ∈ l) (hm : y.may = true) {k : Nat} (hk : y.server.node = (k : Int)) : 1 ≤ (best l l.length k).seq ∧ newer y (best l l.length k) = false := by
 obtain ⟨i, hi, e⟩ := List.getElem_of_mem hy
 have h1 : l[i]? = some y := by rw [List.getElem?_eq_getElem hi, e]
 exact ⟨best_some h1 hm hk _ hi, best_max _ i hi y h1 hm hk⟩
def Apart (l : List Advert) : Prop := ∀ a ∈ l, ∀ b ∈ l, a.server = b.server → a.seq = b.seq → a = b
theorem Apart.of {l : List Advert} (h : ∀ (i : Nat) a, l[i]? = some a → ∀ (j : Nat) b, j < i → l[j]? = some b → ¬ (a.server = b.server ∧ a.seq = b.seq)) : Apart l := fun a ha b hb h1 h2 => by
 obtain ⟨i, hi, rfl⟩ := List.getElem_of_mem ha
 obtain ⟨j, hj, rfl⟩ := List.getElem_of_mem hb
 rcases Nat.lt_trichotomy i j with e | e | e
 ·exact absurd ⟨h1.symm, h2.symm⟩ (h j _ (List.getElem?_eq_getElem hj) i _ e (List.getElem?_eq_getElem hi))
 ·subst e; rfl
 ·exact absurd ⟨h1, h2⟩ (h i _ (List.getElem?_eq_getElem hi) j _ e (List.getElem?_eq_getElem hj))
theorem book_perm {l o : List Advert} (p : o.Perm l) (ha : Apart l) : book o = book l := book_ext fun k _ => by
 rcases best_or o k o.length with h1 | ⟨h1, m1, n1⟩
 ·rcases best_or l k l.length with h2 | ⟨h2, m2, n2⟩
  ·rw [h1, h2]
  ·have := (best_at (p.mem_iff.2 h2) m2 n2).1; rw [h1] at this; exact absurd this (by decide)
 ·rcases best_or l k l.length with h2 | ⟨h2, m2, n2⟩
  ·have := (best_at (p.mem_iff.1 h1) m1 n1).1; rw [h2] at this; exact absurd this (by decide)
  ·have q1 := (best_at (p.mem_iff.2 h2) m2 n2).2
   have q2 := (best_at (p.mem_iff.1 h1) m1 n1).2
   rw [newer_no] at q1 q2
   have e1 : (best o o.length k).server.inc = (best l l.length k).server.inc := by omega
   refine ha _ (p.mem_iff.1 h1) _ h2 ?_ (by omega)
   revert e1 n1 n2
   generalize (best o o.length k).server = s
   generalize (best l l.length k).server = t
   intro n1 n2 e1
   cases s; cases t; simp_all
theorem best_book2 (l : List Advert) {k : Nat} (hk : k < 5) : best (book l) (book l).length k = best l l.length k := by
 rcases best_or l k l.length with h1 | ⟨h1, m1, n1⟩
 ·rw [h1]
  rcases best_or (book l) k (book l).length with h2 | ⟨h2, m2, n2⟩
  ·exact h2
  ·obtain ⟨j, -, e, hs⟩ := mem_bookTo.1 h2
   rcases best_or l j l.length with h3 | ⟨h3, m3, n3⟩
   ·rw [h3] at e; rw [← e] at hs; exact absurd hs (by decide)
   ·rw [e] at n3; have : j = k := by omega
    subst this; rw [h1] at e; rw [← e] at hs; exact absurd hs (by decide)
 ·have hs := (Advert.may_iff.1 m1).2.1.1
  have hx : best l l.length k ∈ book l := mem_book hk rfl (by omega)
  have := best_book (book_good l) hx
  rw [show (best l l.length k).server.node.toNat = k by omega] at this
  exact this
theorem book_book (l : List Advert) : book (book l) = book l := book_ext fun _ hk => best_book2 l hk
theorem take_book (l : List Advert) (a : Advert) : takeG (book l) a = book (l ++ [a]) := book_ext fun k hk => by
 rw [best_snoc, best_snoc, book_book, best_book2 l hk]
theorem news_book (l : List Advert) (a : Advert) : newsG (book l) a = (a.may && (book l).all fun x => !(decide (x.server.node = a.server.node)) || newer a x) := by
 unfold newsG newsTo; rw [book_book, List.take_length]
theorem best_here {l : List Advert} {k : Nat} (h : best l l.length k ≠ Advert.none) (hk : k < 5) : best l l.length k ∈ book l ∧ (best l l.length k).server.node = (k : Int) := by
 rcases best_or l k l.length with h1 | ⟨h1, m1, n1⟩
 ·exact absurd h1 h
 ·exact ⟨mem_book hk rfl (by have := (Advert.may_iff.1 m1).2.1.1; omega), n1⟩
theorem news_yes2 {l : List Advert} {a : Advert} (h : newsG (book l) a = true) : book l ≠ book (l ++ [a]) := by
 rw [news_book, Bool.and_eq_true, List.all_eq_true] at h
 obtain ⟨hm, hall⟩ := h
 obtain ⟨h1, h2, h3⟩ := may_node hm
 have hb : best (l ++ [a]) (l ++ [a]).length a.server.node.toNat = a := by
  rw [best_snoc, stp, if_pos]
  refine ⟨hm, h1.symm, ?_⟩
  by_cases e : best l l.length a.server.node.toNat = Advert.none
  ·left; rw [e]
  ·right
   obtain ⟨h4, h5⟩ := best_here e h2
   have := hall _ h4
   rw [h5, h1, decide_eq_true rfl] at this
   simpa using this
 have hin : a ∈ book (l ++ [a]) := mem_book h2 hb (by have := (Advert.may_iff.1 hm).2.1.1; omega)
 intro e
 rw [← e] at hin
 have := hall _ hin
 rw [newer_self] at this
 simp at this
theorem news_no2 {l : List Advert} {a : Advert} (h : newsG (book l) a = false) : book l = book (l ++ [a]) := book_ext fun k hk => by
 rw [best_snoc, stp, if_neg]
 rintro ⟨hm, hn, hc⟩
 rw [news_book, hm, Bool.true_and, List.all_eq_false] at h
 obtain ⟨x, hx, hx2⟩ := h
 simp only [Bool.or_eq_true, Bool.not_eq_true', decide_eq_false_iff_not, not_or, Bool.not_eq_true, Decidable.not_not] at hx2
 have hb := best_book (book_good l) hx
 rw [best_book2 l (by have := (may_node ((book_good l).may x hx)).2.1; exact this), show x.server.node.toNat = k by omega] at hb
 have hs := (Advert.may_iff.1 ((book_good l).may x hx)).2.1.1
 rw [hb, hx2.2] at hc
 rcases hc with hc | hc
 ·omega
 ·cases hc
theorem news_twice (l : List Advert) (a : Advert) : newsG (book (l ++ [a])) a = false := by
 rw [news_book]
 cases hm : a.may with
 | false => rfl
 | true =>
  rw [Bool.true_and, List.all_eq_false]
  obtain ⟨h1, h2, h3⟩ := may_node hm
  have hb := best_at (l := l ++ [a]) (by simp) hm h1.symm
  refine ⟨best (l ++ [a]) (l ++ [a]).length a.server.node.toNat, mem_book h2 rfl (by omega), ?_⟩
  rcases best_or (l ++ [a]) a.server.node.toNat (l ++ [a]).length with h4 | ⟨h4, -, h5⟩
  ·have := hb.1; rw [h4] at this; exact absurd this (by decide)
  ·rw [hb.2, h5, h1, decide_eq_true rfl]; simp
def turnN (t : Int) (n : Nat) : Nat := ((t.tmod n + n).tmod n).toNat
theorem turn_low {t : Int} {n : Nat} (h : 0 < n) : -(n : Int) < t.tmod n ∧ t.tmod n < n := by
 have h1 := Int.tmod_lt_of_pos t (b := (n : Int)) (by omega)
 have h2 := Int.tmod_lt_of_pos (-t) (b := (n : Int)) (by omega)
 rw [Int.neg_tmod] at h2
 omega
theorem turn_is {t : Int} {n : Nat} (h : 0 < n) : (t.tmod n + n).tmod n = ((turnN t n : Nat) : Int) := by
 have h1 := turn_low (t := t) h
 have h2 : 0 ≤ (t.tmod n + n).tmod n := Int.tmod_nonneg _ (by omega)
 unfold turnN; omega
theorem turn_lt {t : Int} {n : Nat} (h : 0 < n) : turnN t n < n := by
 have h1 := Int.tmod_lt_of_pos (t.tmod n + n) (b := (n : Int)) (by omega)
 rw [turn_is h] at h1; omega
theorem swap_perm {o : List Advert} {k : Nat} {x y : Advert} (h0 : o[0]? = some y) (hk : o[k]? = some x) : ((o.set 0 x).set k y).Perm o := by
 obtain ⟨h1, e1⟩ := List.getElem?_eq_some_iff.1 h0
 obtain ⟨h2, e2⟩ := List.getElem?_eq_some_iff.1 hk
 cases o with
 | nil => simp at h1
 | cons z r =>
  simp only [List.getElem_cons_zero] at e1; subst e1
  cases k with
  | zero => simp
  | succ k =>
   simp only [List.getElem_cons_succ] at e2
   simp only [List.set_cons_zero, List.set_cons_succ]
   have hk2 : k < r.length := by simpa using h2
   have h3 : r = r.take k ++ (x :: r.drop (k + 1)) := by rw [← e2, List.getElem_cons_drop, List.take_append_drop]
   have h4 : r.set k z = r.take k ++ (z :: r.drop (k + 1)) := List.set_eq_take_append_cons_drop ▸ by rw [if_pos hk2]
   rw [h4]
   conv => rhs; rw [h3]
   rw [← List.cons_append, ← List.cons_append]
   classical
   rw [List.perm_iff_count]; intro v
   simp only [List.count_append, List.count_cons, List.cons_append]; omega
theorem swap_rows {o : List Advert} {k : Nat} {x y : Advert} : List.set (List.set (adverts o) 0 x.row) k y.row = adverts ((o.set 0 x).set k y) := by
 unfold adverts; rw [List.map_set, List.map_set]
theorem swap_at {o : List Advert} {k : Nat} {x : Advert} (hk : o[k]? = some x) : (List.set (adverts o) 0 x.row)[k]? = some x.row := by
 have h := adverts_at hk
 rw [List.getElem?_set]
 split
 ·rename_i e; subst e
  rw [if_pos (List.getElem?_eq_some_iff.1 h).1]
 ·exact h
end Go.Proofs.Ytikmdkicccfjpaa
namespace Go.Proofs.Ytikmdkicccfjpaa
open Go.RowKit
theorem take_snoc {o : List Advert} {j : Nat} {x : Advert} (h : o[j]? = some x) : o.take (j + 1) = o.take j ++ [x] := by
 obtain ⟨hj, rfl⟩ := List.getElem?_eq_some_iff.1 h
 exact List.take_succ_eq_append_getElem hj
theorem book_fits (l : List Advert) : (book l).length ≤ 9223372036854775807 := by have := (book_good l).len; omega
theorem takeW {o : List Advert} {j : Nat} {x : Advert} (h : o[j]? = some x) (hx : x.peers.length ≤ 9223372036854775807) : Con Try.prog 17 [.d (.ro 4 (adverts (book (o.take j)))), .ag [.z x.server.node, .u x.server.inc, .u x.seq, .d (.ro 2 (procs x.peers))]] (.tu [.em 33 4 (advertsO (book (o.take (j + 1)))), .v (.bool (newsG (book (o.take j)) x))]) := by
 have k := takeOk (book (o.take j)) x (book_fits _) (book_ok _) hx
 rw [take_book, ← take_snoc h] at k; exact k
theorem takeA {o : List Advert} {j : Nat} {x : Advert} (h : o[j]? = some x) (hx : x.peers.length ≤ 9223372036854775807) : Con Try.prog 17 [.d (.ro 4 (adverts (book (o.take (j + 1))))), .ag [.z x.server.node, .u x.server.inc, .u x.seq, .d (.ro 2 (procs x.peers))]] (.tu [.em 33 4 (advertsO (takeG (book (o.take (j + 1))) x)), .v (.bool false)]) := by
 have k := takeOk (book (o.take (j + 1))) x (book_fits _) (book_ok _) hx
 have e := news_twice (o.take j) x
 rw [← take_snoc h] at e
 rw [e] at k; exact k
theorem sameE {a b : List Advert} (h : a = b) (ha : a.length ≤ 9223372036854775807) (hp : ∀ x ∈ a, x.peers.length ≤ 9223372036854775807) : Con Try.prog 15 [.d (.ro 4 (adverts a)), .d (.ro 4 (adverts b))] (.v (.bool true)) := by
 subst h; exact sameT a ha hp
theorem sameN {a b : List Advert} (h : a ≠ b) (ha : a.length ≤ 9223372036854775807) (hp : ∀ x ∈ a, x.peers.length ≤ 9223372036854775807) : Con Try.prog 15 [.d (.ro 4 (adverts a)), .d (.ro 4 (adverts b))] (.v (.bool false)) := by
 have k := sameOk a b ha hp; rw [decide_eq_false h] at k; exact k
theorem ind_two (T : Nat) (l : List Advert) (v : Value) : Ind (.tu [.em T 4 (advertsO l), .v v]) := .tu (by simp only [List.mem_cons, List.not_mem_nil, or_false]; rintro c (rfl | rfl); exact ind_adverts _ _; exact ind_v _)
set_option maxHeartbeats 2000000 in
set_option maxRecDepth 100000 in
theorem orderLawZ (l : List Advert) (turn : List Int) (hb0 : l.length ≤ 9223372036854775807) (hz : ∀ x ∈ l, x.peers.length ≤ 140737488355328) (ht : turn.length ≤ 9223372036854775807) : Con Try.prog 7 [.d (.ro 4 (adverts l)), .d (.ro 1 (ints turn))] (.v (.bool true)) := by
 refine Con.intro (by kernel_rfl) rfl rfl 147 rfl rfl fun w0 K ac hK r => ?_
 cases h0 : (longB l) with
 | false =>
  obtain ⟨hb, hl⟩ := longB_no hz (by assumption)
  have u_0 := ((by have k := longOk l (by omega); rw [h0] at k; exact k) : Con Try.prog 11 [.d (.ro 4 (adverts l))] (.v (.bool false)))
  have u_1 := ((by simp) : (((ints turn).length : Nat) : Int) = ((turn.length : Nat) : Int))
  cases h1 : (decide ((1000 : Int) < ((turn.length : Nat) : Int))) with
  | false =>
   have qh1 := of_decide_eq_false h1
   refine toHead (todo' := hd Try.f7 0) (E' := [(0, .d (.ro 4 (adverts l))), (1, .d (.ro 1 (ints turn))), (5, .n 0)]) (M' := []) tk tq hK [(1, [(1, .con (.v (.bool false))), (4, .z (((turn.length : Nat) : Int))), (5, .b false)])] 2000 [] [0, 1, 5] r (by kernel_rfl) (an u_0 (an u_1 (an h1 trivial))) fun ac wd r => ?_
   refine Goes.rounds (Φ := fun (i : Nat) ac wd => (i ≤ l.length ∧ ∀ (p : Nat) a, p < i → l[p]? = some a → ∀ (j : Nat) b, j < p → l[j]? = some b → ¬ (a.server = b.server ∧ a.seq = b.seq)) ∧ RE' [] w0 K 147 [(0, .d (.ro 4 (adverts l))), (1, .d (.ro 1 (ints turn))), (5, .n i)] [] ac wd) (l.length) ?_ (Nat.zero_le _) ⟨⟨Nat.zero_le _, fun p a hp => by omega⟩, r⟩
   clear r
   rintro i hi0 again0 ac wd ⟨hv0, r⟩
   obtain ⟨hi1, hap⟩ := hv0
   have u_2 := ((by simp) : (((adverts l).length : Nat) : Int) = ((l.length : Nat) : Int))
   cases h2 : (decide ((((i : Nat) : Int) : Int) < ((l.length : Nat) : Int))) with
   | false =>
    have qh2 := of_decide_eq_false h2
    have hap2 : Apart l := Apart.of fun p a ha j b hj hb2 => hap p a (by have := (List.getElem?_eq_some_iff.1 ha).1; omega) ha j b hj hb2
    refine toHead (todo' := hd Try.f7 2) (E' := [(0, .d (.ro 4 (adverts l))), (1, .d (.ro 1 (ints turn))), (7, .sl 0 (0 + (adverts l).length)), (8, .z 0)]) (M' := [.rw 33 4 ([] ++ (adverts l))]) tk tq hK [(4, [(2, .z (((l.length : Nat) : Int))), (3, .b false)])] 2000 [0] [0, 1, 7, 8] r (by kernel_rfl) (an u_2 (an h2 (an ((by first | rfl | (simp; done) | (simp <;> omega)) : (0) = ([] : List (List DV)).length) (an ((by first | omega | (simp; done) | (simp <;> omega)) : (2 * ((0) + (adverts l).length) + 192) * 48 ≤ 281474976710656) (an ((by first | omega | (simp; done) | (simp <;> omega)) : (0) + (adverts l).length < 4611686018427387904) (an ((by exact one_adverts l) : OneR (adverts l)) trivial)))))) fun ac wd r => ?_
    refine Goes.rounds (Φ := fun (m : Nat) ac wd => ∃ o : List Advert, (m ≤ turn.length ∧ o.Perm l) ∧ RE' [] w0 K 147 [(0, .d (.ro 4 (adverts l))), (1, .d (.ro 1 (ints turn))), (7, .sl 0 (l.length)), (8, .n m)] [.rw 33 4 (adverts o)] ac wd) (turn.length) ?_ (Nat.zero_le _) ⟨l, ⟨Nat.zero_le _, List.Perm.refl _⟩, (r).cast (by simp) rfl⟩
    clear r
    rintro m hi2 again2 ac wd ⟨o, hv2, r⟩
    obtain ⟨hm1, hpm⟩ := hv2
    have hol := hpm.length_eq
    cases h3 : (decide ((((m : Nat) : Int) : Int) < ((turn.length : Nat) : Int))) with
    | false =>
     have qh3 := of_decide_eq_false h3
     refine toAt (todo' := aft Try.f7 17) (E' := [(7, .sl 0 (l.length)), (10, .d (.ro 4 (adverts (book l)))), (11, .sl 1 ((advertsO (book o)).length))]) (M' := [.rw 33 4 (adverts o), .rw 33 4 (advertsO (book o))]) tk tq hK [(13, [(2, .z (((turn.length : Nat) : Int))), (3, .b false)]), (17, [(1, .con (.ro 4 (adverts (book l)))), (3, .call [.d (.ro 4 (adverts o))] (.em 33 4 (advertsO (book o))))])] 7 [0, 1] [7, 10, 11] r (by kernel_rfl) (an u_1 (an h3 (an (ofRo l (by omega) (bigB_ok hl)) (an (ofOk o (by omega) (fun x hx => bigB_ok hl x (hpm.mem_iff.1 hx)) : Con Try.prog 14 [.d (.ro 4 (adverts o))] (.em 33 4 (advertsO (book o)))) (an ((by first | exact ind_v _ | exact ind_adverts _ _ | exact ind_two _ _ _) : Ind (.em 33 4 (advertsO (book o)))) (an (rfN (4)) (an ((by first | rfl | (simp; done) | (simp <;> omega)) : (l.length) = (adverts o).length) (an ((by first | exact froz_advertsO _ | exact froz_adverts _) : frozR (adverts o) = adverts o) trivial)))))))) fun ac wd r => ?_
     have r := r.stay (p1 := [((advertsO (book o)).length) = (advertsO (book o)).length]) (p2 := []) (E1 := [(7, .sl 0 (l.length)), (10, .d (.ro 4 (adverts (book l)))), (11, .d (.ro 4 (frozR (advertsO (book o)))))]) (M1 := [.rw 33 4 (adverts o), .dead]) (M2 := [.rw 33 4 (adverts o), .dead]) (E2 := [(7, .sl 0 (l.length)), (10, .d (.ro 4 (adverts (book l)))), (11, .d (.ro 4 (adverts (book o))))]) (M3 := [.rw 33 4 (adverts o), .dead]) [11] [] (by kernel_rfl) (by kernel_rfl) (an (rfN ((advertsO (book o)).length)) trivial) trivial (by simp only [froz_advertsO]) rfl
     refine toHead (todo' := hd Try.f7 3) (E' := [(7, .sl 0 (l.length)), (10, .d (.ro 4 (adverts (book l)))), (11, .d (.ro 4 (adverts (book o)))), (12, .d (.v (.slice none 0 0))), (13, .z 0)]) (M' := [.rw 33 4 (adverts o)]) tk tq hK [] 2000 [0] [7, 10, 11, 12, 13] r (by kernel_rfl) trivial fun ac wd r => ?_
     refine Goes.rounds (Φ := fun (j : Nat) ac wd => (j ≤ l.length) ∧ RE' [] w0 K 147 [(7, .sl 0 (l.length)), (10, .d (.ro 4 (adverts (book l)))), (11, .d (.ro 4 (adverts (book o)))), (12, .sl 1 ((book (o.take j)).length)), (13, .n j)] [.rw 33 4 (adverts o), .rw 33 4 (advertsO (book (o.take j)))] ac wd) (l.length) ?_ (Nat.zero_le _) ⟨(Nat.zero_le _), (r.adopt (M1 := [.rw 33 4 (adverts o), .rw 33 4 []]) [(12, 33, 4)] [] (by kernel_rfl) (by kernel_rfl)).cast (by rw [List.take_zero]) (by rw [List.take_zero])⟩
     clear r
     rintro j hi3 again3 ac wd ⟨hv3, r⟩
     cases h4 : (decide ((((j : Nat) : Int) : Int) < ((l.length : Nat) : Int))) with
     | false =>
      have qh4 := of_decide_eq_false h4
      exact toRet tk tq hK rfl [(20, [(3, .b false)]), (29, [(2, .con (.v (.bool true))), (6, .call [.d (.ro 4 (adverts (book l))), .d (.ro 4 (adverts (book (o.take j))))] (.v (.bool true))), (9, .con (.v (.bool true)))])] 2000 r (by kernel_rfl) (an h4 (an (sameE (book_perm hpm hap2).symm (book_fits _) (book_ok _) : Con Try.prog 15 [.d (.ro 4 (adverts (book l))), .d (.ro 4 (adverts (book o)))] (.v (.bool true))) (an (sameE (by rw [List.take_of_length_le (show o.length ≤ j by omega)]; exact (book_perm hpm hap2).symm) (book_fits _) (book_ok _) : Con Try.prog 15 [.d (.ro 4 (adverts (book l))), .d (.ro 4 (adverts (book (o.take j))))] (.v (.bool true))) (an ((by first | exact ind_v _ | exact ind_adverts _ _ | exact ind_two _ _ _) : Ind (.v (.bool true))) (an (rfD (.ro 4 (adverts (book l)))) (an (rfN (4)) (an ((by first | rfl | (simp; done) | (simp <;> omega)) : ((book (o.take j)).length) = (advertsO (book (o.take j))).length) (an ((by first | exact froz_advertsO _ | exact froz_adverts _) : frozR (advertsO (book (o.take j))) = adverts (book (o.take j))) (an (awakeOk) trivial)))))))))
     | true =>
      have qh4 := of_decide_eq_true h4
      obtain ⟨e_w, gw⟩ : ∃ x, o[j]? = some x := ⟨_, List.getElem?_eq_getElem (by omega)⟩
      have u_3 := ((by first | rfl | (simp; done) | (simp <;> omega)) : (l.length) ≤ (adverts o).length)
      cases h5 : (newsG (book (o.take j)) e_w) with
      | false =>
       exact toHead (todo' := hd Try.f7 3) (E' := [(7, .sl 0 (l.length)), (10, .d (.ro 4 (adverts (book l)))), (11, .d (.ro 4 (adverts (book o)))), (12, .sl 1 ((advertsO (book (o.take (j + 1)))).length)), (13, .n (j + 1))]) (M' := [.rw 33 4 (adverts o), .rw 33 4 (advertsO (book (o.take (j + 1))))]) tk tq hK [(20, [(3, .b true)]), (21, [(1, .z (((j + 1 : Nat) : Int)))]), (22, [(3, .n (j)), (4, .ix 0 [.z e_w.server.node, .u e_w.server.inc, .u e_w.seq, .ro 2 (procs e_w.peers)]), (5, .call [.d (.ro 4 (adverts (book (o.take j)))), .ag [.z e_w.server.node, .u e_w.server.inc, .u e_w.seq, .d (.ro 2 (procs e_w.peers))]] (.tu [.em 33 4 (advertsO (book (o.take (j + 1)))), .v (.bool false)]))]), (23, [(3, .call [.d (.ro 4 (adverts (book (o.take j)))), .d (.ro 4 (adverts (book (o.take (j + 1)))))] (.v (.bool true)))]), (25, [(3, .n (j)), (4, .ix 0 [.z e_w.server.node, .u e_w.server.inc, .u e_w.seq, .ro 2 (procs e_w.peers)]), (5, .call [.d (.ro 4 (adverts (book (o.take (j + 1))))), .ag [.z e_w.server.node, .u e_w.server.inc, .u e_w.seq, .d (.ro 2 (procs e_w.peers))]] (.tu [.em 33 4 (advertsO (takeG (book (o.take (j + 1))) e_w)), .v (.bool false)]))])] 2000 [0, 2] [7, 10, 11, 12, 13] r (by kernel_rfl) (an h4 (an (rfI ((j : Nat) : Int)) (an ((by first | omega | decide | (simp; omega)) : (j) < (l.length)) (an u_3 (an (adverts_at gw) (an ((by have k := takeW gw (by have := hl _ (hpm.mem_iff.1 (List.mem_of_getElem? gw)); omega); rw [h5] at k; exact k) : Con Try.prog 17 [.d (.ro 4 (adverts (book (o.take j)))), .ag [.z e_w.server.node, .u e_w.server.inc, .u e_w.seq, .d (.ro 2 (procs e_w.peers))]] (.tu [.em 33 4 (advertsO (book (o.take (j + 1)))), .v (.bool false)])) (an ((by first | exact ind_v _ | exact ind_adverts _ _ | exact ind_two _ _ _) : Ind (.tu [.em 33 4 (advertsO (book (o.take (j + 1)))), .v (.bool false)])) (an (rfN (4)) (an ((by first | rfl | (simp; done) | (simp <;> omega)) : ((book (o.take j)).length) = (advertsO (book (o.take j))).length) (an ((by first | exact froz_advertsO _ | exact froz_adverts _) : frozR (advertsO (book (o.take j))) = adverts (book (o.take j))) (an (rfD (.z e_w.server.node)) (an (rfD (.u e_w.server.inc)) (an (rfD (.u e_w.seq)) (an (rfD (.ro 2 (procs e_w.peers))) (an (sameE (by rw [take_snoc gw]; exact news_no2 h5) (book_fits _) (book_ok _) : Con Try.prog 15 [.d (.ro 4 (adverts (book (o.take j)))), .d (.ro 4 (adverts (book (o.take (j + 1)))))] (.v (.bool true))) (an ((by first | exact ind_v _ | exact ind_adverts _ _ | exact ind_two _ _ _) : Ind (.v (.bool true))) (an (rfN (4)) (an ((by first | rfl | (simp; done) | (simp <;> omega)) : ((book (o.take j)).length) = (advertsO (book (o.take j))).length) (an ((by first | exact froz_advertsO _ | exact froz_adverts _) : frozR (advertsO (book (o.take j))) = adverts (book (o.take j))) (an (rfN (4)) (an (rfN ((advertsO (book (o.take (j + 1)))).length)) (an ((by first | exact froz_advertsO _ | exact froz_adverts _) : frozR (advertsO (book (o.take (j + 1)))) = adverts (book (o.take (j + 1)))) (an (rfI ((j : Nat) : Int)) (an ((by first | omega | decide | (simp; omega)) : (j) < (l.length)) (an u_3 (an (adverts_at gw) (an (takeA gw (by have := hl _ (hpm.mem_iff.1 (List.mem_of_getElem? gw)); omega) : Con Try.prog 17 [.d (.ro 4 (adverts (book (o.take (j + 1))))), .ag [.z e_w.server.node, .u e_w.server.inc, .u e_w.seq, .d (.ro 2 (procs e_w.peers))]] (.tu [.em 33 4 (advertsO (takeG (book (o.take (j + 1))) e_w)), .v (.bool false)])) (an ((by first | exact ind_v _ | exact ind_adverts _ _ | exact ind_two _ _ _) : Ind (.tu [.em 33 4 (advertsO (takeG (book (o.take (j + 1))) e_w)), .v (.bool false)])) (an (rfN (4)) (an (rfN ((advertsO (book (o.take (j + 1)))).length)) (an ((by first | exact froz_advertsO _ | exact froz_adverts _) : frozR (advertsO (book (o.take (j + 1)))) = adverts (book (o.take (j + 1)))) (an (rfD (.z e_w.server.node)) (an (rfD (.u e_w.server.inc)) (an (rfD (.u e_w.seq)) (an (rfD (.ro 2 (procs e_w.peers))) (an ((wi (by omega)) : IntKind.i64.wrap ((((j : Nat) : Int) : Int) + 1) = ((j + 1 : Nat) : Int)) trivial)))))))))))))))))))))))))))))))))))) fun ac wd r => again3 (by omega) ac wd ⟨(by omega), r.cast (by simp) rfl⟩
      | true =>
       exact toHead (todo' := hd Try.f7 3) (E' := [(7, .sl 0 (l.length)), (10, .d (.ro 4 (adverts (book l)))), (11, .d (.ro 4 (adverts (book o)))), (12, .sl 1 ((advertsO (book (o.take (j + 1)))).length)), (13, .n (j + 1))]) (M' := [.rw 33 4 (adverts o), .rw 33 4 (advertsO (book (o.take (j + 1))))]) tk tq hK [(20, [(3, .b true)]), (21, [(1, .z (((j + 1 : Nat) : Int)))]), (22, [(3, .n (j)), (4, .ix 0 [.z e_w.server.node, .u e_w.server.inc, .u e_w.seq, .ro 2 (procs e_w.peers)]), (5, .call [.d (.ro 4 (adverts (book (o.take j)))), .ag [.z e_w.server.node, .u e_w.server.inc, .u e_w.seq, .d (.ro 2 (procs e_w.peers))]] (.tu [.em 33 4 (advertsO (book (o.take (j + 1)))), .v (.bool true)]))]), (23, [(3, .call [.d (.ro 4 (adverts (book (o.take j)))), .d (.ro 4 (adverts (book (o.take (j + 1)))))] (.v (.bool false)))]), (25, [(3, .n (j)), (4, .ix 0 [.z e_w.server.node, .u e_w.server.inc, .u e_w.seq, .ro 2 (procs e_w.peers)]), (5, .call [.d (.ro 4 (adverts (book (o.take (j + 1))))), .ag [.z e_w.server.node, .u e_w.server.inc, .u e_w.seq, .d (.ro 2 (procs e_w.peers))]] (.tu [.em 33 4 (advertsO (takeG (book (o.take (j + 1))) e_w)), .v (.bool false)]))])] 2000 [0, 2] [7, 10, 11, 12, 13] r (by kernel_rfl) (an h4 (an (rfI ((j : Nat) : Int)) (an ((by first | omega | decide | (simp; omega)) : (j) < (l.length)) (an u_3 (an (adverts_at gw) (an ((by have k := takeW gw (by have := hl _ (hpm.mem_iff.1 (List.mem_of_getElem? gw)); omega); rw [h5] at k; exact k) : Con Try.prog 17 [.d (.ro 4 (adverts (book (o.take j)))), .ag [.z e_w.server.node, .u e_w.server.inc, .u e_w.seq, .d (.ro 2 (procs e_w.peers))]] (.tu [.em 33 4 (advertsO (book (o.take (j + 1)))), .v (.bool true)])) (an ((by first | exact ind_v _ | exact ind_adverts _ _ | exact ind_two _ _ _) : Ind (.tu [.em 33 4 (advertsO (book (o.take (j + 1)))), .v (.bool true)])) (an (rfN (4)) (an ((by first | rfl | (simp; done) | (simp <;> omega)) : ((book (o.take j)).length) = (advertsO (book (o.take j))).length) (an ((by first | exact froz_advertsO _ | exact froz_adverts _) : frozR (advertsO (book (o.take j))) = adverts (book (o.take j))) (an (rfD (.z e_w.server.node)) (an (rfD (.u e_w.server.inc)) (an (rfD (.u e_w.seq)) (an (rfD (.ro 2 (procs e_w.peers))) (an (sameN (by rw [take_snoc gw]; exact news_yes2 h5) (book_fits _) (book_ok _) : Con Try.prog 15 [.d (.ro 4 (adverts (book (o.take j)))), .d (.ro 4 (adverts (book (o.take (j + 1)))))] (.v (.bool false))) (an ((by first | exact ind_v _ | exact ind_adverts _ _ | exact ind_two _ _ _) : Ind (.v (.bool false))) (an (rfN (4)) (an ((by first | rfl | (simp; done) | (simp <;> omega)) : ((book (o.take j)).length) = (advertsO (book (o.take j))).length) (an ((by first | exact froz_advertsO _ | exact froz_adverts _) : frozR (advertsO (book (o.take j))) = adverts (book (o.take j))) (an (rfN (4)) (an (rfN ((advertsO (book (o.take (j + 1)))).length)) (an ((by first | exact froz_advertsO _ | exact froz_adverts _) : frozR (advertsO (book (o.take (j + 1)))) = adverts (book (o.take (j + 1)))) (an (rfI ((j : Nat) : Int)) (an ((by first | omega | decide | (simp; omega)) : (j) < (l.length)) (an u_3 (an (adverts_at gw) (an (takeA gw (by have := hl _ (hpm.mem_iff.1 (List.mem_of_getElem? gw)); omega) : Con Try.prog 17 [.d (.ro 4 (adverts (book (o.take (j + 1))))), .ag [.z e_w.server.node, .u e_w.server.inc, .u e_w.seq, .d (.ro 2 (procs e_w.peers))]] (.tu [.em 33 4 (advertsO (takeG (book (o.take (j + 1))) e_w)), .v (.bool false)])) (an ((by first | exact ind_v _ | exact ind_adverts _ _ | exact ind_two _ _ _) : Ind (.tu [.em 33 4 (advertsO (takeG (book (o.take (j + 1))) e_w)), .v (.bool false)])) (an (rfN (4)) (an (rfN ((advertsO (book (o.take (j + 1)))).length)) (an ((by first | exact froz_advertsO _ | exact froz_adverts _) : frozR (advertsO (book (o.take (j + 1)))) = adverts (book (o.take (j + 1)))) (an (rfD (.z e_w.server.node)) (an (rfD (.u e_w.server.inc)) (an (rfD (.u e_w.seq)) (an (rfD (.ro 2 (procs e_w.peers))) (an ((wi (by omega)) : IntKind.i64.wrap ((((j : Nat) : Int) : Int) + 1) = ((j + 1 : Nat) : Int)) trivial)))))))))))))))))))))))))))))))))))) fun ac wd r => again3 (by omega) ac wd ⟨(by omega), r.cast (by simp) rfl⟩
    | true =>
     have qh3 := of_decide_eq_true h3
     obtain ⟨e_turn_m, ge_turn_m⟩ : ∃ x, turn[m]? = some x := ⟨_, List.getElem?_eq_getElem (by omega)⟩
     cases h6 : (decide ((1 : Int) < ((l.length : Nat) : Int))) with
     | false =>
      have qh6 := of_decide_eq_false h6
      refine toAt (todo' := aft Try.f7 17) (E' := [(7, .sl 0 (l.length)), (10, .d (.ro 4 (adverts (book l)))), (11, .sl 1 ((advertsO (book o)).length))]) (M' := [.rw 33 4 (adverts o), .rw 33 4 (advertsO (book o))]) tk tq hK [(13, [(2, .z (((turn.length : Nat) : Int))), (3, .b true), (6, .z (((l.length : Nat) : Int))), (7, .b false)]), (17, [(1, .con (.ro 4 (adverts (book l)))), (3, .call [.d (.ro 4 (adverts o))] (.em 33 4 (advertsO (book o))))])] 7 [0, 1] [7, 10, 11] r (by kernel_rfl) (an u_1 (an h3 (an u_2 (an h6 (an (ofRo l (by omega) (bigB_ok hl)) (an (ofOk o (by omega) (fun x hx => bigB_ok hl x (hpm.mem_iff.1 hx)) : Con Try.prog 14 [.d (.ro 4 (adverts o))] (.em 33 4 (advertsO (book o)))) (an ((by first | exact ind_v _ | exact ind_adverts _ _ | exact ind_two _ _ _) : Ind (.em 33 4 (advertsO (book o)))) (an (rfN (4)) (an ((by first | rfl | (simp; done) | (simp <;> omega)) : (l.length) = (adverts o).length) (an ((by first | exact froz_advertsO _ | exact froz_adverts _) : frozR (adverts o) = adverts o) trivial)))))))))) fun ac wd r => ?_
      have r := r.stay (p1 := [((advertsO (book o)).length) = (advertsO (book o)).length]) (p2 := []) (E1 := [(7, .sl 0 (l.length)), (10, .d (.ro 4 (adverts (book l)))), (11, .d (.ro 4 (frozR (advertsO (book o)))))]) (M1 := [.rw 33 4 (adverts o), .dead]) (M2 := [.rw 33 4 (adverts o), .dead]) (E2 := [(7, .sl 0 (l.length)), (10, .d (.ro 4 (adverts (book l)))), (11, .d (.ro 4 (adverts (book o))))]) (M3 := [.rw 33 4 (adverts o), .dead]) [11] [] (by kernel_rfl) (by kernel_rfl) (an (rfN ((advertsO (book o)).length)) trivial) trivial (by simp only [froz_advertsO]) rfl
      refine toHead (todo' := hd Try.f7 3) (E' := [(7, .sl 0 (l.length)), (10, .d (.ro 4 (adverts (book l)))), (11, .d (.ro 4 (adverts (book o)))), (12, .d (.v (.slice none 0 0))), (13, .z 0)]) (M' := [.rw 33 4 (adverts o)]) tk tq hK [] 2000 [0] [7, 10, 11, 12, 13] r (by kernel_rfl) trivial fun ac wd r => ?_
      refine Goes.rounds (Φ := fun (j : Nat) ac wd => (j ≤ l.length) ∧ RE' [] w0 K 147 [(7, .sl 0 (l.length)), (10, .d (.ro 4 (adverts (book l)))), (11, .d (.ro 4 (adverts (book o)))), (12, .sl 1 ((book (o.take j)).length)), (13, .n j)] [.rw 33 4 (adverts o), .rw 33 4 (advertsO (book (o.take j)))] ac wd) (l.length) ?_ (Nat.zero_le _) ⟨(Nat.zero_le _), (r.adopt (M1 := [.rw 33 4 (adverts o), .rw 33 4 []]) [(12, 33, 4)] [] (by kernel_rfl) (by kernel_rfl)).cast (by rw [List.take_zero]) (by rw [List.take_zero])⟩
      clear r
      rintro j hi3 again3 ac wd ⟨hv3, r⟩
      cases h7 : (decide ((((j : Nat) : Int) : Int) < ((l.length : Nat) : Int))) with
      | false =>
       have qh7 := of_decide_eq_false h7
       exact toRet tk tq hK rfl [(20, [(3, .b false)]), (29, [(2, .con (.v (.bool true))), (6, .call [.d (.ro 4 (adverts (book l))), .d (.ro 4 (adverts (book (o.take j))))] (.v (.bool true))), (9, .con (.v (.bool true)))])] 2000 r (by kernel_rfl) (an h7 (an (sameE (book_perm hpm hap2).symm (book_fits _) (book_ok _) : Con Try.prog 15 [.d (.ro 4 (adverts (book l))), .d (.ro 4 (adverts (book o)))] (.v (.bool true))) (an (sameE (by rw [List.take_of_length_le (show o.length ≤ j by omega)]; exact (book_perm hpm hap2).symm) (book_fits _) (book_ok _) : Con Try.prog 15 [.d (.ro 4 (adverts (book l))), .d (.ro 4 (adverts (book (o.take j))))] (.v (.bool true))) (an ((by first | exact ind_v _ | exact ind_adverts _ _ | exact ind_two _ _ _) : Ind (.v (.bool true))) (an (rfD (.ro 4 (adverts (book l)))) (an (rfN (4)) (an ((by first | rfl | (simp; done) | (simp <;> omega)) : ((book (o.take j)).length) = (advertsO (book (o.take j))).length) (an ((by first | exact froz_advertsO _ | exact froz_adverts _) : frozR (advertsO (book (o.take j))) = adverts (book (o.take j))) (an (awakeOk) trivial)))))))))
      | true =>
       have qh7 := of_decide_eq_true h7
       obtain ⟨e_w, gw⟩ : ∃ x, o[j]? = some x := ⟨_, List.getElem?_eq_getElem (by omega)⟩
       have u_4 := ((by first | rfl | (simp; done) | (simp <;> omega)) : (l.length) ≤ (adverts o).length)
       cases h8 : (newsG (book (o.take j)) e_w) with
       | false =>
        exact toHead (todo' := hd Try.f7 3) (E' := [(7, .sl 0 (l.length)), (10, .d (.ro 4 (adverts (book l)))), (11, .d (.ro 4 (adverts (book o)))), (12, .sl 1 ((advertsO (book (o.take (j + 1)))).length)), (13, .n (j + 1))]) (M' := [.rw 33 4 (adverts o), .rw 33 4 (advertsO (book (o.take (j + 1))))]) tk tq hK [(20, [(3, .b true)]), (21, [(1, .z (((j + 1 : Nat) : Int)))]), (22, [(3, .n (j)), (4, .ix 0 [.z e_w.server.node, .u e_w.server.inc, .u e_w.seq, .ro 2 (procs e_w.peers)]), (5, .call [.d (.ro 4 (adverts (book (o.take j)))), .ag [.z e_w.server.node, .u e_w.server.inc, .u e_w.seq, .d (.ro 2 (procs e_w.peers))]] (.tu [.em 33 4 (advertsO (book (o.take (j + 1)))), .v (.bool false)]))]), (23, [(3, .call [.d (.ro 4 (adverts (book (o.take j)))), .d (.ro 4 (adverts (book (o.take (j + 1)))))] (.v (.bool true)))]), (25, [(3, .n (j)), (4, .ix 0 [.z e_w.server.node, .u e_w.server.inc, .u e_w.seq, .ro 2 (procs e_w.peers)]), (5, .call [.d (.ro 4 (adverts (book (o.take (j + 1))))), .ag [.z e_w.server.node, .u e_w.server.inc, .u e_w.seq, .d (.ro 2 (procs e_w.peers))]] (.tu [.em 33 4 (advertsO (takeG (book (o.take (j + 1))) e_w)), .v (.bool false)]))])] 2000 [0, 2] [7, 10, 11, 12, 13] r (by kernel_rfl) (an h7 (an (rfI ((j : Nat) : Int)) (an ((by first | omega | decide | (simp; omega)) : (j) < (l.length)) (an u_4 (an (adverts_at gw) (an ((by have k := takeW gw (by have := hl _ (hpm.mem_iff.1 (List.mem_of_getElem? gw)); omega); rw [h8] at k; exact k) : Con Try.prog 17 [.d (.ro 4 (adverts (book (o.take j)))), .ag [.z e_w.server.node, .u e_w.server.inc, .u e_w.seq, .d (.ro 2 (procs e_w.peers))]] (.tu [.em 33 4 (advertsO (book (o.take (j + 1)))), .v (.bool false)])) (an ((by first | exact ind_v _ | exact ind_adverts _ _ | exact ind_two _ _ _) : Ind (.tu [.em 33 4 (advertsO (book (o.take (j + 1)))), .v (.bool false)])) (an (rfN (4)) (an ((by first | rfl | (simp; done) | (simp <;> omega)) : ((book (o.take j)).length) = (advertsO (book (o.take j))).length) (an ((by first | exact froz_advertsO _ | exact froz_adverts _) : frozR (advertsO (book (o.take j))) = adverts (book (o.take j))) (an (rfD (.z e_w.server.node)) (an (rfD (.u e_w.server.inc)) (an (rfD (.u e_w.seq)) (an (rfD (.ro 2 (procs e_w.peers))) (an (sameE (by rw [take_snoc gw]; exact news_no2 h8) (book_fits _) (book_ok _) : Con Try.prog 15 [.d (.ro 4 (adverts (book (o.take j)))), .d (.ro 4 (adverts (book (o.take (j + 1)))))] (.v (.bool true))) (an ((by first | exact ind_v _ | exact ind_adverts _ _ | exact ind_two _ _ _) : Ind (.v (.bool true))) (an (rfN (4)) (an ((by first | rfl | (simp; done) | (simp <;> omega)) : ((book (o.take j)).length) = (advertsO (book (o.take j))).length) (an ((by first | exact froz_advertsO _ | exact froz_adverts _) : frozR (advertsO (book (o.take j))) = adverts (book (o.take j))) (an (rfN (4)) (an (rfN ((advertsO (book (o.take (j + 1)))).length)) (an ((by first | exact froz_advertsO _ | exact froz_adverts _) : frozR (advertsO (book (o.take (j + 1)))) = adverts (book (o.take (j + 1)))) (an (rfI ((j : Nat) : Int)) (an ((by first | omega | decide | (simp; omega)) : (j) < (l.length)) (an u_4 (an (adverts_at gw) (an (takeA gw (by have := hl _ (hpm.mem_iff.1 (List.mem_of_getElem? gw)); omega) : Con Try.prog 17 [.d (.ro 4 (adverts (book (o.take (j + 1))))), .ag [.z e_w.server.node, .u e_w.server.inc, .u e_w.seq, .d (.ro 2 (procs e_w.peers))]] (.tu [.em 33 4 (advertsO (takeG (book (o.take (j + 1))) e_w)), .v (.bool false)])) (an ((by first | exact ind_v _ | exact ind_adverts _ _ | exact ind_two _ _ _) : Ind (.tu [.em 33 4 (advertsO (takeG (book (o.take (j + 1))) e_w)), .v (.bool false)])) (an (rfN (4)) (an (rfN ((advertsO (book (o.take (j + 1)))).length)) (an ((by first | exact froz_advertsO _ | exact froz_adverts _) : frozR (advertsO (book (o.take (j + 1)))) = adverts (book (o.take (j + 1)))) (an (rfD (.z e_w.server.node)) (an (rfD (.u e_w.server.inc)) (an (rfD (.u e_w.seq)) (an (rfD (.ro 2 (procs e_w.peers))) (an ((wi (by omega)) : IntKind.i64.wrap ((((j : Nat) : Int) : Int) + 1) = ((j + 1 : Nat) : Int)) trivial)))))))))))))))))))))))))))))))))))) fun ac wd r => again3 (by omega) ac wd ⟨(by omega), r.cast (by simp) rfl⟩
       | true =>
        exact toHead (todo' := hd Try.f7 3) (E' := [(7, .sl 0 (l.length)), (10, .d (.ro 4 (adverts (book l)))), (11, .d (.ro 4 (adverts (book o)))), (12, .sl 1 ((advertsO (book (o.take (j + 1)))).length)), (13, .n (j + 1))]) (M' := [.rw 33 4 (adverts o), .rw 33 4 (advertsO (book (o.take (j + 1))))]) tk tq hK [(20, [(3, .b true)]), (21, [(1, .z (((j + 1 : Nat) : Int)))]), (22, [(3, .n (j)), (4, .ix 0 [.z e_w.server.node, .u e_w.server.inc, .u e_w.seq, .ro 2 (procs e_w.peers)]), (5, .call [.d (.ro 4 (adverts (book (o.take j)))), .ag [.z e_w.server.node, .u e_w.server.inc, .u e_w.seq, .d (.ro 2 (procs e_w.peers))]] (.tu [.em 33 4 (advertsO (book (o.take (j + 1)))), .v (.bool true)]))]), (23, [(3, .call [.d (.ro 4 (adverts (book (o.take j)))), .d (.ro 4 (adverts (book (o.take (j + 1)))))] (.v (.bool false)))]), (25, [(3, .n (j)), (4, .ix 0 [.z e_w.server.node, .u e_w.server.inc, .u e_w.seq, .ro 2 (procs e_w.peers)]), (5, .call [.d (.ro 4 (adverts (book (o.take (j + 1))))), .ag [.z e_w.server.node, .u e_w.server.inc, .u e_w.seq, .d (.ro 2 (procs e_w.peers))]] (.tu [.em 33 4 (advertsO (takeG (book (o.take (j + 1))) e_w)), .v (.bool false)]))])] 2000 [0, 2] [7, 10, 11, 12, 13] r (by kernel_rfl) (an h7 (an (rfI ((j : Nat) : Int)) (an ((by first | omega | decide | (simp; omega)) : (j) < (l.length)) (an u_4 (an (adverts_at gw) (an ((by have k := takeW gw (by have := hl _ (hpm.mem_iff.1 (List.mem_of_getElem? gw)); omega); rw [h8] at k; exact k) : Con Try.prog 17 [.d (.ro 4 (adverts (book (o.take j)))), .ag [.z e_w.server.node, .u e_w.server.inc, .u e_w.seq, .d (.ro 2 (procs e_w.peers))]] (.tu [.em 33 4 (advertsO (book (o.take (j + 1)))), .v (.bool true)])) (an ((by first | exact ind_v _ | exact ind_adverts _ _ | exact ind_two _ _ _) : Ind (.tu [.em 33 4 (advertsO (book (o.take (j + 1)))), .v (.bool true)])) (an (rfN (4)) (an ((by first | rfl | (simp; done) | (simp <;> omega)) : ((book (o.take j)).length) = (advertsO (book (o.take j))).length) (an ((by first | exact froz_advertsO _ | exact froz_adverts _) : frozR (advertsO (book (o.take j))) = adverts (book (o.take j))) (an (rfD (.z e_w.server.node)) (an (rfD (.u e_w.server.inc)) (an (rfD (.u e_w.seq)) (an (rfD (.ro 2 (procs e_w.peers))) (an (sameN (by rw [take_snoc gw]; exact news_yes2 h8) (book_fits _) (book_ok _) : Con Try.prog 15 [.d (.ro 4 (adverts (book (o.take j)))), .d (.ro 4 (adverts (book (o.take (j + 1)))))] (.v (.bool false))) (an ((by first | exact ind_v _ | exact ind_adverts _ _ | exact ind_two _ _ _) : Ind (.v (.bool false))) (an (rfN (4)) (an ((by first | rfl | (simp; done) | (simp <;> omega)) : ((book (o.take j)).length) = (advertsO (book (o.take j))).length) (an ((by first | exact froz_advertsO _ | exact froz_adverts _) : frozR (advertsO (book (o.take j))) = adverts (book (o.take j))) (an (rfN (4)) (an (rfN ((advertsO (book (o.take (j + 1)))).length)) (an ((by first | exact froz_advertsO _ | exact froz_adverts _) : frozR (advertsO (book (o.take (j + 1)))) = adverts (book (o.take (j + 1)))) (an (rfI ((j : Nat) : Int)) (an ((by first | omega | decide | (simp; omega)) : (j) < (l.length)) (an u_4 (an (adverts_at gw) (an (takeA gw (by have := hl _ (hpm.mem_iff.1 (List.mem_of_getElem? gw)); omega) : Con Try.prog 17 [.d (.ro 4 (adverts (book (o.take (j + 1))))), .ag [.z e_w.server.node, .u e_w.server.inc, .u e_w.seq, .d (.ro 2 (procs e_w.peers))]] (.tu [.em 33 4 (advertsO (takeG (book (o.take (j + 1))) e_w)), .v (.bool false)])) (an ((by first | exact ind_v _ | exact ind_adverts _ _ | exact ind_two _ _ _) : Ind (.tu [.em 33 4 (advertsO (takeG (book (o.take (j + 1))) e_w)), .v (.bool false)])) (an (rfN (4)) (an (rfN ((advertsO (book (o.take (j + 1)))).length)) (an ((by first | exact froz_advertsO _ | exact froz_adverts _) : frozR (advertsO (book (o.take (j + 1)))) = adverts (book (o.take (j + 1)))) (an (rfD (.z e_w.server.node)) (an (rfD (.u e_w.server.inc)) (an (rfD (.u e_w.seq)) (an (rfD (.ro 2 (procs e_w.peers))) (an ((wi (by omega)) : IntKind.i64.wrap ((((j : Nat) : Int) : Int) + 1) = ((j + 1 : Nat) : Int)) trivial)))))))))))))))))))))))))))))))))))) fun ac wd r => again3 (by omega) ac wd ⟨(by omega), r.cast (by simp) rfl⟩
     | true =>
      have qh6 := of_decide_eq_true h6
      have htl := turn_low (t := e_turn_m) (n := l.length) (by omega)
      have hkt := turn_lt (t := e_turn_m) (n := l.length) (by omega)
      obtain ⟨e_x, gx⟩ : ∃ x, o[turnN e_turn_m l.length]? = some x := ⟨_, List.getElem?_eq_getElem (by omega)⟩
      obtain ⟨e_y, gy⟩ : ∃ y, o[0]? = some y := ⟨_, List.getElem?_eq_getElem (by omega)⟩
      have v16_0 := ((by simp) : (((ints turn).length : Nat) : Int) = ((turn.length : Nat) : Int))
      have v16_1 := ((by simp) : (((adverts l).length : Nat) : Int) = ((l.length : Nat) : Int))
      have v16_2 := ((by first | exact turn_is (by omega) | rfl) : (e_turn_m : Int).tmod ((l.length : Nat) : Int) = Int.tmod e_turn_m ((l.length : Nat) : Int))
      have v16_3 := ((by omega) : (((l.length : Nat) : Int) : Int) ≠ 0)
      have v16_4 := ((wi (by omega)) : IntKind.i64.wrap ((Int.tmod e_turn_m ((l.length : Nat) : Int) : Int) + ((l.length : Nat) : Int)) = Int.tmod e_turn_m ((l.length : Nat) : Int) + (((l.length : Nat) : Int)))
      have v16_5 := ((by first | exact turn_is (by omega) | rfl) : (Int.tmod e_turn_m ((l.length : Nat) : Int) + (((l.length : Nat) : Int)) : Int).tmod ((l.length : Nat) : Int) = (((turnN e_turn_m l.length) : Nat) : Int))
      have v16_6 := (rfI (((turnN e_turn_m l.length) : Nat) : Int))
      have v16_7 := ((by first | omega | decide | (simp; omega)) : ((turnN e_turn_m l.length)) < (l.length))
      have v16_8 := ((by first | rfl | (simp; done) | (simp <;> omega)) : (l.length) ≤ (adverts o).length)
      have v16_9 := (rfl : (0) = ((0 : Nat) : Int))
      have v16_10 := ((by first | omega | decide | (simp; omega)) : (0) < (l.length))
      have v16_11 := ((by first | rfl | (simp; done) | (simp <;> omega)) : (l.length) ≤ (List.set (adverts o) (0) [.z e_x.server.node, .u e_x.server.inc, .u e_x.seq, .ro 2 (procs e_x.peers)] : List (List DV)).length)
      refine toDraw (todo' := aft Try.f7 16) (E' := [(0, .d (.ro 4 (adverts l))), (1, .d (.ro 1 (ints turn))), (7, .sl 0 (l.length)), (8, .n m), (65, .n m), (66, .d (.ro 1 (ints turn))), (67, .n turn.length), (68, .d (.v (.bool true))), (69, .d (.v (.bool true))), (70, .d (.ro 4 (adverts l))), (71, .n l.length), (72, .d (.v (.bool true))), (73, .d (.v (.bool true))), (76, .d (.ro 1 (ints turn))), (77, .n m), (78, .rp [.z e_turn_m] 0), (79, .z e_turn_m), (80, .d (.ro 4 (adverts l))), (81, .n l.length), (82, .z (Int.tmod e_turn_m ((l.length : Nat) : Int))), (83, .d (.ro 4 (adverts l))), (84, .n l.length), (85, .z (Int.tmod e_turn_m ((l.length : Nat) : Int) + (((l.length : Nat) : Int)))), (86, .d (.ro 4 (adverts l))), (87, .n l.length), (88, .n ((turnN e_turn_m l.length))), (9, .n ((turnN e_turn_m l.length))), (89, .sl 0 (l.length)), (90, .sl 0 (l.length)), (91, .n ((turnN e_turn_m l.length))), (92, .sl 0 (l.length)), (93, .n ((turnN e_turn_m l.length))), (94, .ep 0 4 ((turnN e_turn_m l.length)) 0), (96, .sl 0 (l.length)), (97, .ep 0 4 (0) 0), (95, .ag [.z e_x.server.node, .u e_x.server.inc, .u e_x.seq, .d (.ro 2 (procs e_x.peers))]), (98, .ag [.z e_y.server.node, .u e_y.server.inc, .u e_y.seq, .d (.ro 2 (procs e_y.peers))]), (99, .ep 0 4 (0) 0), (100, .ep 0 4 ((turnN e_turn_m l.length)) 0)]) (M' := [.rw 33 4 (List.set (List.set (adverts o) (0) [.z e_x.server.node, .u e_x.server.inc, .u e_x.seq, .ro 2 (procs e_x.peers)]) ((turnN e_turn_m l.length)) [.z e_y.server.node, .u e_y.server.inc, .u e_y.seq, .ro 2 (procs e_y.peers)])]) tk tq hK [(13, [(2, .z (((turn.length : Nat) : Int))), (3, .b true), (6, .z (((l.length : Nat) : Int))), (7, .b true)]), (15, [(2, .ix (m) [.z e_turn_m]), (5, .z (((l.length : Nat) : Int))), (6, .z (Int.tmod e_turn_m ((l.length : Nat) : Int))), (8, .z (((l.length : Nat) : Int))), (9, .z (Int.tmod e_turn_m ((l.length : Nat) : Int) + (((l.length : Nat) : Int)))), (11, .z (((l.length : Nat) : Int))), (12, .z ((((turnN e_turn_m l.length) : Nat) : Int)))]), (16, [(5, .n ((turnN e_turn_m l.length))), (6, .ix 0 [.z e_x.server.node, .u e_x.server.inc, .u e_x.seq, .ro 2 (procs e_x.peers)]), (8, .n (0)), (9, .ix 0 [.z e_y.server.node, .u e_y.server.inc, .u e_y.seq, .ro 2 (procs e_y.peers)]), (10, .n (0)), (11, .ix 0 [.z e_y.server.node, .u e_y.server.inc, .u e_y.seq, .ro 2 (procs e_y.peers)]), (12, .n ((turnN e_turn_m l.length))), (13, .ix 0 [.z e_x.server.node, .u e_x.server.inc, .u e_x.seq, .ro 2 (procs e_x.peers)])])] 9 2 [6, 9] [[0], [0]] [0, 1, 7, 8, 65, 66, 67, 68, 69, 70, 71, 72, 73, 76, 77, 78, 79, 80, 81, 82, 83, 84, 85, 86, 87, 88, 9, 89, 90, 91, 92, 93, 94, 96, 97, 95, 98, 99, 100] r (by kernel_rfl) (an (an v16_0 (an h3 (an v16_1 (an h6 (an (rfI ((m : Nat) : Int)) (an (ints_at ge_turn_m) (an v16_1 (an v16_2 (an v16_3 (an v16_1 (an v16_4 (an v16_1 (an v16_5 (an v16_3 (an v16_6 (an v16_7 (an v16_8 (an v16_9 (an v16_10 (an v16_8 (an (adverts_at gx) (an (adverts_at gy) (an v16_9 (an v16_10 (an v16_8 (an (adverts_at gy) (an v16_6 (an v16_7 (an v16_11 (an (swap_at gx) trivial)))))))))))))))))))))))))))))) (an (an v16_0 (an h3 (an v16_1 (an h6 (an (rfI ((m : Nat) : Int)) (an (ints_at ge_turn_m) (an v16_1 (an v16_2 (an v16_3 (an v16_1 (an v16_4 (an v16_1 (an v16_5 (an v16_3 (an v16_6 (an v16_7 (an v16_8 (an v16_9 (an v16_10 (an v16_8 (an (adverts_at gy) (an (adverts_at gx) (an v16_9 (an v16_10 (an v16_8 (an (adverts_at gy) (an v16_6 (an v16_7 (an v16_11 (an (swap_at gx) trivial)))))))))))))))))))))))))))))) trivial)) fun ac wd r => ?_
      exact toHead (todo' := hd Try.f7 2) (E' := [(0, .d (.ro 4 (adverts l))), (1, .d (.ro 1 (ints turn))), (7, .sl 0 (l.length)), (8, .n (m + 1))]) (M' := [.rw 33 4 (List.set (List.set (adverts o) (0) [.z e_x.server.node, .u e_x.server.inc, .u e_x.seq, .ro 2 (procs e_x.peers)]) ((turnN e_turn_m l.length)) [.z e_y.server.node, .u e_y.server.inc, .u e_y.seq, .ro 2 (procs e_y.peers)])]) tk tq hK [(14, [(1, .z (((m + 1 : Nat) : Int)))])] 2000 [0] [0, 1, 7, 8] r (by kernel_rfl) (an ((wi (by omega)) : IntKind.i64.wrap ((((m : Nat) : Int) : Int) + 1) = ((m + 1 : Nat) : Int)) trivial) fun ac wd r => again2 (by omega) ac wd ⟨((o.set 0 e_x).set (turnN e_turn_m l.length) e_y), ⟨by omega, (swap_perm gy gx).trans hpm⟩, r.cast rfl (congrArg (fun r => [Blk.rw 33 4 r]) (swap_rows (o := o) (x := e_x) (y := e_y) (k := turnN e_turn_m l.length)))⟩
   | true =>
    have qh2 := of_decide_eq_true h2
    obtain ⟨e_l_i, ge_l_i⟩ : ∃ x, l[i]? = some x := ⟨_, List.getElem?_eq_getElem (by omega)⟩
    refine toHead (todo' := hd Try.f7 1) (E' := [(0, .d (.ro 4 (adverts l))), (1, .d (.ro 1 (ints turn))), (5, .n i), (6, .n 0)]) (M' := []) tk tq hK [(4, [(2, .z (((l.length : Nat) : Int))), (3, .b true)])] 2000 [] [0, 1, 5, 6] r (by kernel_rfl) (an u_2 (an h2 trivial)) fun ac wd r => ?_
    refine Goes.rounds (Φ := fun (k : Nat) ac wd => (k ≤ i ∧ ∀ (j : Nat) b, j < k → l[j]? = some b → ¬ (e_l_i.server = b.server ∧ e_l_i.seq = b.seq)) ∧ RE' [] w0 K 147 [(0, .d (.ro 4 (adverts l))), (1, .d (.ro 1 (ints turn))), (5, .n i), (6, .n k)] [] ac wd) (i) ?_ (Nat.zero_le _) ⟨⟨Nat.zero_le _, fun j b hj => by omega⟩, r⟩
    clear r
    rintro k hi1 again1 ac wd ⟨hv1, r⟩
    obtain ⟨hk1, hin⟩ := hv1
    cases h9 : (decide ((((k : Nat) : Int) : Int) < ((i : Nat) : Int))) with
    | false =>
     have qh9 := of_decide_eq_false h9
     exact toHead (todo' := hd Try.f7 0) tk tq hK [(5, [(1, .z (((i + 1 : Nat) : Int)))]), (7, [(2, .b false)])] 2000 [] [0, 1, 5] r (by kernel_rfl) (an h9 (an ((wi (by omega)) : IntKind.i64.wrap ((((i : Nat) : Int) : Int) + 1) = ((i + 1 : Nat) : Int)) trivial)) fun ac wd r => again0 (by omega) ac wd ⟨⟨by omega, fun p a hp ha j b hj hb2 => by rcases Nat.lt_succ_iff_lt_or_eq.1 hp with h | rfl; exact hap p a h ha j b hj hb2; rw [ge_l_i] at ha; cases ha; exact hin j b (by omega) hb2⟩, r⟩
    | true =>
     have qh9 := of_decide_eq_true h9
     obtain ⟨e_l_k, ge_l_k⟩ : ∃ x, l[k]? = some x := ⟨_, List.getElem?_eq_getElem (by omega)⟩
     cases h10 : (decide (e_l_i.server = e_l_k.server)) with
     | false =>
      have qh10 := of_decide_eq_false h10
      exact toHead (todo' := hd Try.f7 1) tk tq hK [(7, [(2, .b true)]), (8, [(1, .z (((k + 1 : Nat) : Int)))]), (9, [(2, .ix (i) [.z e_l_i.server.node, .u e_l_i.server.inc, .u e_l_i.seq, .ro 2 (procs e_l_i.peers)]), (7, .ix (k) [.z e_l_k.server.node, .u e_l_k.server.inc, .u e_l_k.seq, .ro 2 (procs e_l_k.peers)]), (10, .b false)])] 2000 [] [0, 1, 5, 6] r (by kernel_rfl) (an h9 (an (rfI ((i : Nat) : Int)) (an (adverts_at ge_l_i) (an (rfI ((k : Nat) : Int)) (an (adverts_at ge_l_k) (an ((eqT (eqProcD _ _) h10) : EqAgg Try.prog 30 [(.int .i64 (e_l_i.server.node)), (.int .u64 (((e_l_i.server.inc : Nat) : Int)))] [(.int .i64 (e_l_k.server.node)), (.int .u64 (((e_l_k.server.inc : Nat) : Int)))] false) (an ((wi (by omega)) : IntKind.i64.wrap ((((k : Nat) : Int) : Int) + 1) = ((k + 1 : Nat) : Int)) trivial))))))) fun ac wd r => again1 (by omega) ac wd ⟨⟨by omega, fun j b hj hb2 => by rcases Nat.lt_succ_iff_lt_or_eq.1 hj with h | rfl; exact hin j b h hb2; rw [ge_l_k] at hb2; cases hb2; rintro ⟨q1, q2⟩; first | contradiction | omega⟩, r⟩
     | true =>
      have qh10 := of_decide_eq_true h10
      have u_5 := ((eqT (eqProcD _ _) h10) : EqAgg Try.prog 30 [(.int .i64 (e_l_i.server.node)), (.int .u64 (((e_l_i.server.inc : Nat) : Int)))] [(.int .i64 (e_l_k.server.node)), (.int .u64 (((e_l_k.server.inc : Nat) : Int)))] true)
      cases h11 : ((((e_l_i.seq : Nat) : Int) : Int) == ((e_l_k.seq : Nat) : Int)) with
      | false =>
       have qh11 := ne_of_beq_false h11
       exact toHead (todo' := hd Try.f7 1) tk tq hK [(7, [(2, .b true)]), (8, [(1, .z (((k + 1 : Nat) : Int)))]), (9, [(2, .ix (i) [.z e_l_i.server.node, .u e_l_i.server.inc, .u e_l_i.seq, .ro 2 (procs e_l_i.peers)]), (7, .ix (k) [.z e_l_k.server.node, .u e_l_k.server.inc, .u e_l_k.seq, .ro 2 (procs e_l_k.peers)]), (10, .b true), (14, .ix (i) [.z e_l_i.server.node, .u e_l_i.server.inc, .u e_l_i.seq, .ro 2 (procs e_l_i.peers)]), (19, .ix (k) [.z e_l_k.server.node, .u e_l_k.server.inc, .u e_l_k.seq, .ro 2 (procs e_l_k.peers)]), (22, .b false)])] 2000 [] [0, 1, 5, 6] r (by kernel_rfl) (an h9 (an (rfI ((i : Nat) : Int)) (an (adverts_at ge_l_i) (an (rfI ((k : Nat) : Int)) (an (adverts_at ge_l_k) (an u_5 (an (rfI ((i : Nat) : Int)) (an (adverts_at ge_l_i) (an (rfI ((k : Nat) : Int)) (an (adverts_at ge_l_k) (an h11 (an ((wi (by omega)) : IntKind.i64.wrap ((((k : Nat) : Int) : Int) + 1) = ((k + 1 : Nat) : Int)) trivial)))))))))))) fun ac wd r => again1 (by omega) ac wd ⟨⟨by omega, fun j b hj hb2 => by rcases Nat.lt_succ_iff_lt_or_eq.1 hj with h | rfl; exact hin j b h hb2; rw [ge_l_k] at hb2; cases hb2; rintro ⟨q1, q2⟩; first | contradiction | omega⟩, r⟩
      | true =>
       have qh11 := eq_of_beq h11
       exact toRet tk tq hK rfl [(7, [(2, .b true)]), (9, [(2, .ix (i) [.z e_l_i.server.node, .u e_l_i.server.inc, .u e_l_i.seq, .ro 2 (procs e_l_i.peers)]), (7, .ix (k) [.z e_l_k.server.node, .u e_l_k.server.inc, .u e_l_k.seq, .ro 2 (procs e_l_k.peers)]), (10, .b true), (14, .ix (i) [.z e_l_i.server.node, .u e_l_i.server.inc, .u e_l_i.seq, .ro 2 (procs e_l_i.peers)]), (19, .ix (k) [.z e_l_k.server.node, .u e_l_k.server.inc, .u e_l_k.seq, .ro 2 (procs e_l_k.peers)]), (22, .b true)]), (10, [(0, .con (.v (.bool true)))])] 2000 r (by kernel_rfl) (an h9 (an (rfI ((i : Nat) : Int)) (an (adverts_at ge_l_i) (an (rfI ((k : Nat) : Int)) (an (adverts_at ge_l_k) (an u_5 (an (rfI ((i : Nat) : Int)) (an (adverts_at ge_l_i) (an (rfI ((k : Nat) : Int)) (an (adverts_at ge_l_k) (an h11 (an (awakeOk) trivial))))))))))))
  | true =>
   have qh1 := of_decide_eq_true h1
   exact toRet tk tq hK rfl [(1, [(1, .con (.v (.bool false))), (4, .z (((turn.length : Nat) : Int))), (5, .b true)]), (2, [(0, .con (.v (.bool true)))])] 2000 r (by kernel_rfl) (an u_0 (an u_1 (an h1 (an (awakeOk) trivial))))
 | true =>
  exact toRet tk tq hK rfl [(1, [(1, .con (.v (.bool true)))]), (2, [(0, .con (.v (.bool true)))])] 2000 r (by kernel_rfl) (an ((by have k := longOk l (by omega); rw [h0] at k; exact k) : Con Try.prog 11 [.d (.ro 4 (adverts l))] (.v (.bool true))) (an (awakeOk) trivial))
end Go.Proofs.Ytikmdkicccfjpaa
namespace Go.Proofs.Ytikmdkicccfjpaa
open Go.ChangeShapes Go.WideShapes Go.ChangeAt Go.RowKit
theorem rd_turn {w : World} : Rd Try.prog w 44 (fun l : List Int => [.ro 1 (ints l)]) fun l => l.length ≤ 9223372036854775807 ∧ ∀ n ∈ l, -9223372036854775808 ≤ n ∧ n ≤ 9223372036854775807 := Rd.slice Try.underlying44 (by kernel_rfl) (Rd.int' Try.underlying3)
set_option maxRecDepth 100000 in
theorem graphOrder_lifted (os : Os) (started : os.Started) (H : Type) (enc : TypeId × Value → H) :
  ReturnsInHanded {} Try.checked os 7 .any (Rows.graphOrderSpec.pre6 enc Try.prog Try.f7 Rows.graphOrderRow.domain false) (Rows.graphOrderSpec.post enc Try.prog Try.f7 false true false false) := by
 refine returnsInHanded_of_change_sized (C := Try.checked) Try.own started (by kernel_rfl) Try.func7
  (ChangeSpec.witness6 (enc := enc) (C := Try.checked) false ⟨#[], #[.slice none 0 0, .slice none 0 0], []⟩ 8 (by kernel_rfl) (by kernel_rfl) (by kernel_rfl) (by kernel_rfl)) ?_
 intro W base args ds gs before hval0 hW hcnd hsz _
 have hW0 : DataW.Whole enc Try.prog Try.f7.params.toList Rows.graphOrderSpec.vars false W args.toList ds gs before := hW
 have hW' := hW0
 obtain ⟨p, q, hA0, hV, rfl, hfz, hnd⟩ := hW
 have hA : DataW.TrodAll enc Try.prog W 0 (fun _ => true) true Try.f7.params.toList args.toList ds p := hA0
 have hval : ∀ (j : Nat) t v, Try.f7.params[j]? = some t → args[j]? = some v → Value.okWide Try.prog W .any base t v := hval0
 rw [Try.params7] at hA hval
 obtain ⟨v0, vs0, d0, ds0, p0, q0, hargs0, rfl, rfl, h0, r0⟩ := trodAll_cons hA
 obtain ⟨v1, vs1, d1, ds1, p1, q1, hargs1, rfl, rfl, h1, r1⟩ := trodAll_cons r0
 subst hargs1
 obtain ⟨rfl, rfl, rfl⟩ := trodAll_nil r1
 obtain rfl : args = #[v0, v1] := by cases args; simp_all
 obtain ⟨rfl, rfl⟩ := trodVars_none hV
 obtain ⟨a0, n0, c0, rfl⟩ := okWide_slice (P := Try.prog) (e := 33) (by kernel_rfl) (hval 0 22 v0 rfl rfl)
 obtain ⟨l, hl, g0⟩ := rdz_book _ (TZ.of h0 (fun n hn => by simpa using List.all_eq_true.1 hsz n (DataW.weights_mem_each (j := 0) (by rw [Try.params7]; rfl) rfl n hn)))
 obtain ⟨a1, n1, c1, rfl⟩ := okWide_slice (P := Try.prog) (e := 3) (by kernel_rfl) (hval 1 44 v1 rfl rfl)
 obtain ⟨u, hu, g1⟩ := rd_turn _ (TR.of h1)
 have hre := reachBytes_lt
 refine (Con.holds (w := W) (orderLawZ l u (by have := hl.1; omega) (peersZ hl.2) hu.1) (ys := [_, _]) rfl fun j c y e1 e2 => ?_).mono fun e W' ⟨he, hg⟩ => ?_
 ·match j, e1, e2 with
  | 0, e1, e2 => simp at e1 e2; subst e1 e2; exact DRs.v g0
  | 1, e1, e2 => simp at e1 e2; subst e1 e2; exact DRs.v g1
  | k + 2, e1, _ => simp at e1
 ·subst he
  exact ⟨_, rfl, law_post Try.laidOut (by kernel_rfl) (by kernel_rfl) Try.underlying4 rfl hW' rfl hg⟩
theorem graphOrder_holds : Rows.GraphOrderSaid :=
 OpenClaim.holds_of_wide 7 Try.f7 rfl rfl rfl rfl rfl rfl rfl ⟨rfl, rfl, rfl, rfl, rfl⟩ rfl rfl rfl rfl rfl (by kernel_rfl) Try.func7 (by kernel_rfl)
  (of_decide_eq_true (by kernel_rfl)) (by unfold Func.isWrapper; first | (rw [if_pos (by decide +kernel)]; kernel_rfl) | (rw [if_neg (by decide +kernel)]; exact ⟨rfl, rfl⟩))
  (fun os started H enc _ => graphOrder_lifted os started H enc)
end Go.Proofs.Ytikmdkicccfjpaa
