/-
  graphOf_holds, part 5 of 5: merged by program from the texts that it needs.
-/
import Derived.Test.YtikmdkicccfjpaaOfD
set_option linter.unusedSimpArgs false
set_option linter.unusedVariables false
set_option linter.unnecessarySimpa false
namespace Go.Proofs.Ytikmdkicccfjpaa
open Go.RowKit
theorem ind_adverts (T : Nat) (l : List Advert) : Ind (.em T 4 (advertsO l)) := by
  intro K K' y H h
  cases h with
  | em X F hl hs hr =>
    refine .em X F hl hs fun i r j c x h1 h2 h3 => ?_
    have := hr i r j c x h1 h2 h3
    rw [List.getElem?_map, Option.map_eq_some_iff] at h1
    obtain ⟨p, -, rfl⟩ := h1
    unfold Advert.rowO at h2
    match j with
    | 0 => simp at h2; subst h2; exact (ind_v _) _ _ _ _ this
    | 1 => simp at h2; subst h2; exact (ind_v _) _ _ _ _ this
    | 2 => simp at h2; subst h2; exact (ind_v _) _ _ _ _ this
    | 3 => simp at h2; subst h2; exact (ind_procs _ _) _ _ _ _ this
    | j + 4 => simp at h2
theorem one_adverts (l : List Advert) : OneR (adverts l) := by
  simp only [OneR, adverts, List.all_eq_true, List.mem_map]
  rintro r ⟨p, -, rfl⟩ c hc
  simp only [Advert.row, List.mem_cons, List.not_mem_nil, or_false] at hc
  rcases hc with rfl | rfl | rfl | rfl <;> rfl
theorem adverts_app (l : List Advert) (a : Advert) : adverts l ++ [[.v (.int .i64 a.server.node), .v (.int .u64 (a.server.inc : Int)), .v (.int .u64 (a.seq : Int)), .ro 2 (procs a.peers)]] = adverts (l ++ [a]) := by simp [adverts, Advert.row]
def newsTo (b : List Advert) (a : Advert) (i : Nat) : Bool := a.may && (b.take i).all fun x => !(decide (x.server.node = a.server.node)) || newer a x
def takeG (l : List Advert) (a : Advert) : List Advert := book (book l ++ [a])
def newsG (l : List Advert) (a : Advert) : Bool := newsTo (book l) a (book l).length
theorem news_succ {b : List Advert} {i : Nat} {x : Advert} (h : b[i]? = some x) (a : Advert) : newsTo b a (i + 1) = (newsTo b a i && (!(decide (x.server.node = a.server.node)) || newer a x)) := by
  obtain ⟨hi, rfl⟩ := List.getElem?_eq_some_iff.1 h
  rw [newsTo, newsTo, List.take_succ_eq_append_getElem hi, List.all_append, Bool.and_assoc]; simp
theorem news_no {b : List Advert} {i : Nat} {x a : Advert} (h : b[i]? = some x) (h1 : x.server.node = a.server.node) (h2 : newer a x = false) : newsTo b a (i + 1) = false := by
  rw [news_succ h, h2, decide_eq_true h1]; simp
theorem news_yes {b : List Advert} {i : Nat} {x a : Advert} (h : b[i]? = some x) (h1 : x.server.node ≠ a.server.node ∨ newer a x = true) : newsTo b a (i + 1) = newsTo b a i := by
  rw [news_succ h]
  rcases h1 with h1 | h1
  · rw [decide_eq_false h1]; simp
  · rw [h1]; simp
theorem book_ok (l : List Advert) : ∀ x ∈ book l, x.peers.length ≤ 9223372036854775807 := fun x hx => by have := Advert.few ((book_good l).may x hx); omega
theorem more_ok {l : List Advert} {a : Advert} (ha : a.peers.length ≤ 9223372036854775807) : ∀ x ∈ book l ++ [a], x.peers.length ≤ 9223372036854775807 := fun x hx => by
  rcases List.mem_append.1 hx with hx | hx
  · exact book_ok l x hx
  · rw [List.mem_singleton] at hx; rw [hx]; exact ha
set_option maxRecDepth 100000 in
theorem takeOk (l : List Advert) (a : Advert) (hb : l.length ≤ 9223372036854775807) (hl : ∀ x ∈ l, x.peers.length ≤ 9223372036854775807) (ha : a.peers.length ≤ 9223372036854775807) : Con Try.prog 17 [.d (.ro 4 (adverts l)), .ag [.z a.server.node, .u a.server.inc, .u a.seq, .d (.ro 2 (procs a.peers))]] (.tu [.em 33 4 (advertsO (takeG l a)), .v (.bool (newsG l a))]) := by
  refine Con.intro (by kernel_rfl) rfl rfl 40 rfl rfl fun w0 K ac hK r => ?_
  refine toAt (todo' := aft Try.f17 1) (E' := [(3, .pt 0 0), (4, .d (.v (.slice none 0 0))), (5, .d (.v (.bool false))), (6, .sl 1 ((advertsO (book l)).length))]) (M' := [.bx 33 [.z a.server.node, .u a.server.inc, .u a.seq, .d (.ro 2 (procs a.peers))], .rw 33 4 (advertsO (book l))]) tb_ok mixed_ok hK [(1, [(1, .con (.em 33 4 (advertsO (book l))))])] 4 [0, 1] [3, 4, 5, 6] r (by kernel_rfl) (an (ofOk l hb hl) trivial) fun ac wd r => ?_
  have r := r.freeze (M1 := [.bx 33 [.z a.server.node, .u a.server.inc, .u a.seq, .d (.ro 2 (procs a.peers))], .rw 33 4 (frozR (advertsO (book l)))]) (M2 := [.bx 33 [.z a.server.node, .u a.server.inc, .u a.seq, .d (.ro 2 (procs a.peers))], .rw 33 4 (adverts (book l))]) [1] (by kernel_rfl) (by rw [froz_advertsO])
  cases h0 : (a.may) with
  | false =>
    refine toHead (todo' := hd Try.f17 0) (E' := [(3, .pt 0 0), (6, .sl 1 ((advertsO (book l)).length)), (7, .d (.v (.bool false))), (14, .sl 1 ((advertsO (book l)).length)), (15, .n ((book l).length)), (16, .z 0)]) (M' := [.bx 33 [.z a.server.node, .u a.server.inc, .u a.seq, .d (.ro 2 (procs a.peers))], .rw 33 4 (adverts (book l))]) tb_ok mixed_ok hK [(2, [(1, .con (.v (.bool false)))]), (3, [(1, .z ((((book l).length : Nat) : Int)))])] 2000 [0, 1] [3, 6, 7, 14, 15, 16] r (by kernel_rfl) (an ((by have k := mayOk a ha; rw [h0] at k; exact k) : Con Try.prog 32 [.ag [.z a.server.node, .u a.server.inc, .u a.seq, .d (.ro 2 (procs a.peers))]] (.v (.bool false))) (an ((by simp) : (((advertsO (book l)).length : Nat) : Int) = (((book l).length : Nat) : Int)) trivial)) fun ac wd r => ?_
    refine Goes.rounds (Φ := fun (i : Nat) ac wd => ∃ nw : Bool, (i ≤ (book l).length ∧ nw = newsTo (book l) a i) ∧ RE' [] w0 K 40 [(3, .pt 0 0), (6, .sl 1 ((book l).length)), (7, .d (.v (.bool nw))), (14, .sl 1 ((book l).length)), (15, .n ((book l).length)), (16, .n i)] [.bx 33 [.z a.server.node, .u a.server.inc, .u a.seq, .d (.ro 2 (procs a.peers))], .rw 33 4 (adverts (book l))] ac wd) ((book l).length) ?_ (Nat.zero_le _) ⟨false, ⟨Nat.zero_le _, by simp [newsTo, *]⟩, (r).cast (by simp) rfl⟩
    clear r
    rintro i hi0 again0 ac wd ⟨nw, hv0, r⟩
    obtain ⟨hi1, hv2⟩ := hv0
    have hbl := (book_good l).len
    cases nw with
    | false =>
      cases h1 : (decide ((((i : Nat) : Int) : Int) < (((book l).length : Nat) : Int))) with
      | false =>
        have qh1 := of_decide_eq_false h1
        rw [show (.tu [.em 33 4 (advertsO (takeG l a)), .v (.bool (newsG l a))] : DV) = .tu [.em 33 4 (advertsO (takeG l a)), .v (.bool false)] from (by rw [show newsG l a = false from by unfold newsG; rw [show (book l).length = i by omega]; exact hv2.symm])]
        exact toRet tb_ok mixed_ok hK rfl [(4, [(0, .b false)]), (9, [(4, .call [.d (.ro 4 (adverts (book l ++ [a])))] (.em 33 4 (advertsO (takeG l a))))])] 2000 r (by kernel_rfl) (an h1 (an ((by first | rfl | (simp; done) | (simp <;> omega)) : ((book l).length) = (adverts (book l)).length) (an ((by first | rfl | (simp; done) | (simp <;> omega)) : (1) = ([[.z a.server.node, .u a.server.inc, .u a.seq, .ro 2 (procs a.peers)]] : List (List DV)).length) (an ((by first | omega | (simp; done) | (simp <;> omega)) : (2 * (((book l).length) + (1)) + 192) * 48 ≤ 281474976710656) (an ((by first | omega | (simp; done) | (simp <;> omega)) : ((book l).length) + (1) < 4611686018427387904) (an ((by first | exact one_adverts [a] | simp [OneR, AV.one, oneC]) : OneR ([[.z a.server.node, .u a.server.inc, .u a.seq, .ro 2 (procs a.peers)]])) (an (ofOk (book l ++ [a]) (by simp; omega) (more_ok ha)) (an ((ind_adverts _ _) : Ind (.em 33 4 (advertsO (takeG l a)))) (an (rfN (4)) (an ((by first | rfl | (simp; done) | (simp <;> omega)) : ((book l).length + (1)) = (adverts (book l) ++ [[.z a.server.node, .u a.server.inc, .u a.seq, .ro 2 (procs a.peers)]] : List (List DV)).length) (an ((by first | exact froz_adverts _ | (rw [adverts_app]; exact froz_adverts _)) : frozR (adverts (book l) ++ [[.z a.server.node, .u a.server.inc, .u a.seq, .ro 2 (procs a.peers)]]) = adverts (book l ++ [a])) (an (rfN ((advertsO (takeG l a)).length)) trivial))))))))))))
      | true =>
        have qh1 := of_decide_eq_true h1
        obtain ⟨x, gx⟩ : ∃ x, (book l)[i]? = some x := ⟨_, List.getElem?_eq_getElem (by omega)⟩
        cases h2 : ((x.server.node : Int) == a.server.node) with
        | false =>
          have qh2 := ne_of_beq_false h2
          exact toHead (todo' := hd Try.f17 0) tb_ok mixed_ok hK [(4, [(0, .b true)]), (5, [(0, .n (i)), (1, .ix 0 [.z x.server.node, .u x.server.inc, .u x.seq, .ro 2 (procs x.peers)])]), (6, [(6, .b false)]), (8, [(0, .z (((i + 1 : Nat) : Int)))])] 2000 [0, 1] [3, 6, 7, 14, 15, 16] r (by kernel_rfl) (an h1 (an (rfI ((i : Nat) : Int)) (an ((by first | omega | decide | (simp; omega)) : (i) < ((book l).length)) (an ((by first | rfl | (simp; done) | (simp <;> omega)) : ((book l).length) ≤ (adverts (book l)).length) (an (adverts_at gx) (an h2 (an ((wi (by omega)) : IntKind.i64.wrap ((((i : Nat) : Int) : Int) + 1) = ((i + 1 : Nat) : Int)) trivial))))))) fun ac wd r => again0 (by omega) ac wd ⟨false, ⟨by omega, by first | exact (news_no gx (by omega) (by assumption)).symm | (rw [news_yes gx (by first | exact Or.inl (by omega) | exact Or.inr (by assumption))]; exact hv2)⟩, r⟩
        | true =>
          have qh2 := eq_of_beq h2
          cases h3 : (newer a x) with
          | false =>
            exact toHead (todo' := hd Try.f17 0) tb_ok mixed_ok hK [(4, [(0, .b true)]), (5, [(0, .n (i)), (1, .ix 0 [.z x.server.node, .u x.server.inc, .u x.seq, .ro 2 (procs x.peers)])]), (6, [(6, .b true), (10, .con (.v (.bool false)))]), (8, [(0, .z (((i + 1 : Nat) : Int)))])] 2000 [0, 1] [3, 6, 7, 14, 15, 16] r (by kernel_rfl) (an h1 (an (rfI ((i : Nat) : Int)) (an ((by first | omega | decide | (simp; omega)) : (i) < ((book l).length)) (an ((by first | rfl | (simp; done) | (simp <;> omega)) : ((book l).length) ≤ (adverts (book l)).length) (an (adverts_at gx) (an h2 (an ((by have k := newerOk a x; rw [h3] at k; exact k) : Con Try.prog 33 [.ag [.z a.server.node, .u a.server.inc, .u a.seq, .d (.ro 2 (procs a.peers))], .ag [.z x.server.node, .u x.server.inc, .u x.seq, .d (.ro 2 (procs x.peers))]] (.v (.bool false))) (an ((wi (by omega)) : IntKind.i64.wrap ((((i : Nat) : Int) : Int) + 1) = ((i + 1 : Nat) : Int)) trivial)))))))) fun ac wd r => again0 (by omega) ac wd ⟨false, ⟨by omega, by first | exact (news_no gx (by omega) (by assumption)).symm | (rw [news_yes gx (by first | exact Or.inl (by omega) | exact Or.inr (by assumption))]; exact hv2)⟩, r⟩
          | true =>
            exact toHead (todo' := hd Try.f17 0) tb_ok mixed_ok hK [(4, [(0, .b true)]), (5, [(0, .n (i)), (1, .ix 0 [.z x.server.node, .u x.server.inc, .u x.seq, .ro 2 (procs x.peers)])]), (6, [(6, .b true), (10, .con (.v (.bool true)))]), (8, [(0, .z (((i + 1 : Nat) : Int)))])] 2000 [0, 1] [3, 6, 7, 14, 15, 16] r (by kernel_rfl) (an h1 (an (rfI ((i : Nat) : Int)) (an ((by first | omega | decide | (simp; omega)) : (i) < ((book l).length)) (an ((by first | rfl | (simp; done) | (simp <;> omega)) : ((book l).length) ≤ (adverts (book l)).length) (an (adverts_at gx) (an h2 (an ((by have k := newerOk a x; rw [h3] at k; exact k) : Con Try.prog 33 [.ag [.z a.server.node, .u a.server.inc, .u a.seq, .d (.ro 2 (procs a.peers))], .ag [.z x.server.node, .u x.server.inc, .u x.seq, .d (.ro 2 (procs x.peers))]] (.v (.bool true))) (an ((wi (by omega)) : IntKind.i64.wrap ((((i : Nat) : Int) : Int) + 1) = ((i + 1 : Nat) : Int)) trivial)))))))) fun ac wd r => again0 (by omega) ac wd ⟨false, ⟨by omega, by first | exact (news_no gx (by omega) (by assumption)).symm | (rw [news_yes gx (by first | exact Or.inl (by omega) | exact Or.inr (by assumption))]; exact hv2)⟩, r⟩
    | true =>
      cases h4 : (decide ((((i : Nat) : Int) : Int) < (((book l).length : Nat) : Int))) with
      | false =>
        have qh4 := of_decide_eq_false h4
        rw [show (.tu [.em 33 4 (advertsO (takeG l a)), .v (.bool (newsG l a))] : DV) = .tu [.em 33 4 (advertsO (takeG l a)), .v (.bool true)] from (by rw [show newsG l a = true from by unfold newsG; rw [show (book l).length = i by omega]; exact hv2.symm])]
        exact toRet tb_ok mixed_ok hK rfl [(4, [(0, .b false)]), (9, [(4, .call [.d (.ro 4 (adverts (book l ++ [a])))] (.em 33 4 (advertsO (takeG l a))))])] 2000 r (by kernel_rfl) (an h4 (an ((by first | rfl | (simp; done) | (simp <;> omega)) : ((book l).length) = (adverts (book l)).length) (an ((by first | rfl | (simp; done) | (simp <;> omega)) : (1) = ([[.z a.server.node, .u a.server.inc, .u a.seq, .ro 2 (procs a.peers)]] : List (List DV)).length) (an ((by first | omega | (simp; done) | (simp <;> omega)) : (2 * (((book l).length) + (1)) + 192) * 48 ≤ 281474976710656) (an ((by first | omega | (simp; done) | (simp <;> omega)) : ((book l).length) + (1) < 4611686018427387904) (an ((by first | exact one_adverts [a] | simp [OneR, AV.one, oneC]) : OneR ([[.z a.server.node, .u a.server.inc, .u a.seq, .ro 2 (procs a.peers)]])) (an (ofOk (book l ++ [a]) (by simp; omega) (more_ok ha)) (an ((ind_adverts _ _) : Ind (.em 33 4 (advertsO (takeG l a)))) (an (rfN (4)) (an ((by first | rfl | (simp; done) | (simp <;> omega)) : ((book l).length + (1)) = (adverts (book l) ++ [[.z a.server.node, .u a.server.inc, .u a.seq, .ro 2 (procs a.peers)]] : List (List DV)).length) (an ((by first | exact froz_adverts _ | (rw [adverts_app]; exact froz_adverts _)) : frozR (adverts (book l) ++ [[.z a.server.node, .u a.server.inc, .u a.seq, .ro 2 (procs a.peers)]]) = adverts (book l ++ [a])) (an (rfN ((advertsO (takeG l a)).length)) trivial))))))))))))
      | true =>
        have qh4 := of_decide_eq_true h4
        obtain ⟨x, gx⟩ : ∃ x, (book l)[i]? = some x := ⟨_, List.getElem?_eq_getElem (by omega)⟩
        cases h5 : ((x.server.node : Int) == a.server.node) with
        | false =>
          have qh5 := ne_of_beq_false h5
          exact toHead (todo' := hd Try.f17 0) tb_ok mixed_ok hK [(4, [(0, .b true)]), (5, [(0, .n (i)), (1, .ix 0 [.z x.server.node, .u x.server.inc, .u x.seq, .ro 2 (procs x.peers)])]), (6, [(6, .b false)]), (8, [(0, .z (((i + 1 : Nat) : Int)))])] 2000 [0, 1] [3, 6, 7, 14, 15, 16] r (by kernel_rfl) (an h4 (an (rfI ((i : Nat) : Int)) (an ((by first | omega | decide | (simp; omega)) : (i) < ((book l).length)) (an ((by first | rfl | (simp; done) | (simp <;> omega)) : ((book l).length) ≤ (adverts (book l)).length) (an (adverts_at gx) (an h5 (an ((wi (by omega)) : IntKind.i64.wrap ((((i : Nat) : Int) : Int) + 1) = ((i + 1 : Nat) : Int)) trivial))))))) fun ac wd r => again0 (by omega) ac wd ⟨true, ⟨by omega, by first | exact (news_no gx (by omega) (by assumption)).symm | (rw [news_yes gx (by first | exact Or.inl (by omega) | exact Or.inr (by assumption))]; exact hv2)⟩, r⟩
        | true =>
          have qh5 := eq_of_beq h5
          cases h6 : (newer a x) with
          | false =>
            exact toHead (todo' := hd Try.f17 0) tb_ok mixed_ok hK [(4, [(0, .b true)]), (5, [(0, .n (i)), (1, .ix 0 [.z x.server.node, .u x.server.inc, .u x.seq, .ro 2 (procs x.peers)])]), (6, [(6, .b true), (10, .con (.v (.bool false)))]), (8, [(0, .z (((i + 1 : Nat) : Int)))])] 2000 [0, 1] [3, 6, 7, 14, 15, 16] r (by kernel_rfl) (an h4 (an (rfI ((i : Nat) : Int)) (an ((by first | omega | decide | (simp; omega)) : (i) < ((book l).length)) (an ((by first | rfl | (simp; done) | (simp <;> omega)) : ((book l).length) ≤ (adverts (book l)).length) (an (adverts_at gx) (an h5 (an ((by have k := newerOk a x; rw [h6] at k; exact k) : Con Try.prog 33 [.ag [.z a.server.node, .u a.server.inc, .u a.seq, .d (.ro 2 (procs a.peers))], .ag [.z x.server.node, .u x.server.inc, .u x.seq, .d (.ro 2 (procs x.peers))]] (.v (.bool false))) (an ((wi (by omega)) : IntKind.i64.wrap ((((i : Nat) : Int) : Int) + 1) = ((i + 1 : Nat) : Int)) trivial)))))))) fun ac wd r => again0 (by omega) ac wd ⟨false, ⟨by omega, by first | exact (news_no gx (by omega) (by assumption)).symm | (rw [news_yes gx (by first | exact Or.inl (by omega) | exact Or.inr (by assumption))]; exact hv2)⟩, r⟩
          | true =>
            exact toHead (todo' := hd Try.f17 0) tb_ok mixed_ok hK [(4, [(0, .b true)]), (5, [(0, .n (i)), (1, .ix 0 [.z x.server.node, .u x.server.inc, .u x.seq, .ro 2 (procs x.peers)])]), (6, [(6, .b true), (10, .con (.v (.bool true)))]), (8, [(0, .z (((i + 1 : Nat) : Int)))])] 2000 [0, 1] [3, 6, 7, 14, 15, 16] r (by kernel_rfl) (an h4 (an (rfI ((i : Nat) : Int)) (an ((by first | omega | decide | (simp; omega)) : (i) < ((book l).length)) (an ((by first | rfl | (simp; done) | (simp <;> omega)) : ((book l).length) ≤ (adverts (book l)).length) (an (adverts_at gx) (an h5 (an ((by have k := newerOk a x; rw [h6] at k; exact k) : Con Try.prog 33 [.ag [.z a.server.node, .u a.server.inc, .u a.seq, .d (.ro 2 (procs a.peers))], .ag [.z x.server.node, .u x.server.inc, .u x.seq, .d (.ro 2 (procs x.peers))]] (.v (.bool true))) (an ((wi (by omega)) : IntKind.i64.wrap ((((i : Nat) : Int) : Int) + 1) = ((i + 1 : Nat) : Int)) trivial)))))))) fun ac wd r => again0 (by omega) ac wd ⟨true, ⟨by omega, by first | exact (news_no gx (by omega) (by assumption)).symm | (rw [news_yes gx (by first | exact Or.inl (by omega) | exact Or.inr (by assumption))]; exact hv2)⟩, r⟩
  | true =>
    refine toHead (todo' := hd Try.f17 0) (E' := [(3, .pt 0 0), (6, .sl 1 ((advertsO (book l)).length)), (7, .d (.v (.bool true))), (14, .sl 1 ((advertsO (book l)).length)), (15, .n ((book l).length)), (16, .z 0)]) (M' := [.bx 33 [.z a.server.node, .u a.server.inc, .u a.seq, .d (.ro 2 (procs a.peers))], .rw 33 4 (adverts (book l))]) tb_ok mixed_ok hK [(2, [(1, .con (.v (.bool true)))]), (3, [(1, .z ((((book l).length : Nat) : Int)))])] 2000 [0, 1] [3, 6, 7, 14, 15, 16] r (by kernel_rfl) (an ((by have k := mayOk a ha; rw [h0] at k; exact k) : Con Try.prog 32 [.ag [.z a.server.node, .u a.server.inc, .u a.seq, .d (.ro 2 (procs a.peers))]] (.v (.bool true))) (an ((by simp) : (((advertsO (book l)).length : Nat) : Int) = (((book l).length : Nat) : Int)) trivial)) fun ac wd r => ?_
    refine Goes.rounds (Φ := fun (i : Nat) ac wd => ∃ nw : Bool, (i ≤ (book l).length ∧ nw = newsTo (book l) a i) ∧ RE' [] w0 K 40 [(3, .pt 0 0), (6, .sl 1 ((book l).length)), (7, .d (.v (.bool nw))), (14, .sl 1 ((book l).length)), (15, .n ((book l).length)), (16, .n i)] [.bx 33 [.z a.server.node, .u a.server.inc, .u a.seq, .d (.ro 2 (procs a.peers))], .rw 33 4 (adverts (book l))] ac wd) ((book l).length) ?_ (Nat.zero_le _) ⟨true, ⟨Nat.zero_le _, by simp [newsTo, *]⟩, (r).cast (by simp) rfl⟩
    clear r
    rintro i hi0 again0 ac wd ⟨nw, hv0, r⟩
    obtain ⟨hi1, hv2⟩ := hv0
    have hbl := (book_good l).len
    cases nw with
    | false =>
      cases h7 : (decide ((((i : Nat) : Int) : Int) < (((book l).length : Nat) : Int))) with
      | false =>
        have qh7 := of_decide_eq_false h7
        rw [show (.tu [.em 33 4 (advertsO (takeG l a)), .v (.bool (newsG l a))] : DV) = .tu [.em 33 4 (advertsO (takeG l a)), .v (.bool false)] from (by rw [show newsG l a = false from by unfold newsG; rw [show (book l).length = i by omega]; exact hv2.symm])]
        exact toRet tb_ok mixed_ok hK rfl [(4, [(0, .b false)]), (9, [(4, .call [.d (.ro 4 (adverts (book l ++ [a])))] (.em 33 4 (advertsO (takeG l a))))])] 2000 r (by kernel_rfl) (an h7 (an ((by first | rfl | (simp; done) | (simp <;> omega)) : ((book l).length) = (adverts (book l)).length) (an ((by first | rfl | (simp; done) | (simp <;> omega)) : (1) = ([[.z a.server.node, .u a.server.inc, .u a.seq, .ro 2 (procs a.peers)]] : List (List DV)).length) (an ((by first | omega | (simp; done) | (simp <;> omega)) : (2 * (((book l).length) + (1)) + 192) * 48 ≤ 281474976710656) (an ((by first | omega | (simp; done) | (simp <;> omega)) : ((book l).length) + (1) < 4611686018427387904) (an ((by first | exact one_adverts [a] | simp [OneR, AV.one, oneC]) : OneR ([[.z a.server.node, .u a.server.inc, .u a.seq, .ro 2 (procs a.peers)]])) (an (ofOk (book l ++ [a]) (by simp; omega) (more_ok ha)) (an ((ind_adverts _ _) : Ind (.em 33 4 (advertsO (takeG l a)))) (an (rfN (4)) (an ((by first | rfl | (simp; done) | (simp <;> omega)) : ((book l).length + (1)) = (adverts (book l) ++ [[.z a.server.node, .u a.server.inc, .u a.seq, .ro 2 (procs a.peers)]] : List (List DV)).length) (an ((by first | exact froz_adverts _ | (rw [adverts_app]; exact froz_adverts _)) : frozR (adverts (book l) ++ [[.z a.server.node, .u a.server.inc, .u a.seq, .ro 2 (procs a.peers)]]) = adverts (book l ++ [a])) (an (rfN ((advertsO (takeG l a)).length)) trivial))))))))))))
      | true =>
        have qh7 := of_decide_eq_true h7
        obtain ⟨x, gx⟩ : ∃ x, (book l)[i]? = some x := ⟨_, List.getElem?_eq_getElem (by omega)⟩
        cases h8 : ((x.server.node : Int) == a.server.node) with
        | false =>
          have qh8 := ne_of_beq_false h8
          exact toHead (todo' := hd Try.f17 0) tb_ok mixed_ok hK [(4, [(0, .b true)]), (5, [(0, .n (i)), (1, .ix 0 [.z x.server.node, .u x.server.inc, .u x.seq, .ro 2 (procs x.peers)])]), (6, [(6, .b false)]), (8, [(0, .z (((i + 1 : Nat) : Int)))])] 2000 [0, 1] [3, 6, 7, 14, 15, 16] r (by kernel_rfl) (an h7 (an (rfI ((i : Nat) : Int)) (an ((by first | omega | decide | (simp; omega)) : (i) < ((book l).length)) (an ((by first | rfl | (simp; done) | (simp <;> omega)) : ((book l).length) ≤ (adverts (book l)).length) (an (adverts_at gx) (an h8 (an ((wi (by omega)) : IntKind.i64.wrap ((((i : Nat) : Int) : Int) + 1) = ((i + 1 : Nat) : Int)) trivial))))))) fun ac wd r => again0 (by omega) ac wd ⟨false, ⟨by omega, by first | exact (news_no gx (by omega) (by assumption)).symm | (rw [news_yes gx (by first | exact Or.inl (by omega) | exact Or.inr (by assumption))]; exact hv2)⟩, r⟩
        | true =>
          have qh8 := eq_of_beq h8
          cases h9 : (newer a x) with
          | false =>
            exact toHead (todo' := hd Try.f17 0) tb_ok mixed_ok hK [(4, [(0, .b true)]), (5, [(0, .n (i)), (1, .ix 0 [.z x.server.node, .u x.server.inc, .u x.seq, .ro 2 (procs x.peers)])]), (6, [(6, .b true), (10, .con (.v (.bool false)))]), (8, [(0, .z (((i + 1 : Nat) : Int)))])] 2000 [0, 1] [3, 6, 7, 14, 15, 16] r (by kernel_rfl) (an h7 (an (rfI ((i : Nat) : Int)) (an ((by first | omega | decide | (simp; omega)) : (i) < ((book l).length)) (an ((by first | rfl | (simp; done) | (simp <;> omega)) : ((book l).length) ≤ (adverts (book l)).length) (an (adverts_at gx) (an h8 (an ((by have k := newerOk a x; rw [h9] at k; exact k) : Con Try.prog 33 [.ag [.z a.server.node, .u a.server.inc, .u a.seq, .d (.ro 2 (procs a.peers))], .ag [.z x.server.node, .u x.server.inc, .u x.seq, .d (.ro 2 (procs x.peers))]] (.v (.bool false))) (an ((wi (by omega)) : IntKind.i64.wrap ((((i : Nat) : Int) : Int) + 1) = ((i + 1 : Nat) : Int)) trivial)))))))) fun ac wd r => again0 (by omega) ac wd ⟨false, ⟨by omega, by first | exact (news_no gx (by omega) (by assumption)).symm | (rw [news_yes gx (by first | exact Or.inl (by omega) | exact Or.inr (by assumption))]; exact hv2)⟩, r⟩
          | true =>
            exact toHead (todo' := hd Try.f17 0) tb_ok mixed_ok hK [(4, [(0, .b true)]), (5, [(0, .n (i)), (1, .ix 0 [.z x.server.node, .u x.server.inc, .u x.seq, .ro 2 (procs x.peers)])]), (6, [(6, .b true), (10, .con (.v (.bool true)))]), (8, [(0, .z (((i + 1 : Nat) : Int)))])] 2000 [0, 1] [3, 6, 7, 14, 15, 16] r (by kernel_rfl) (an h7 (an (rfI ((i : Nat) : Int)) (an ((by first | omega | decide | (simp; omega)) : (i) < ((book l).length)) (an ((by first | rfl | (simp; done) | (simp <;> omega)) : ((book l).length) ≤ (adverts (book l)).length) (an (adverts_at gx) (an h8 (an ((by have k := newerOk a x; rw [h9] at k; exact k) : Con Try.prog 33 [.ag [.z a.server.node, .u a.server.inc, .u a.seq, .d (.ro 2 (procs a.peers))], .ag [.z x.server.node, .u x.server.inc, .u x.seq, .d (.ro 2 (procs x.peers))]] (.v (.bool true))) (an ((wi (by omega)) : IntKind.i64.wrap ((((i : Nat) : Int) : Int) + 1) = ((i + 1 : Nat) : Int)) trivial)))))))) fun ac wd r => again0 (by omega) ac wd ⟨false, ⟨by omega, by first | exact (news_no gx (by omega) (by assumption)).symm | (rw [news_yes gx (by first | exact Or.inl (by omega) | exact Or.inr (by assumption))]; exact hv2)⟩, r⟩
    | true =>
      cases h10 : (decide ((((i : Nat) : Int) : Int) < (((book l).length : Nat) : Int))) with
      | false =>
        have qh10 := of_decide_eq_false h10
        rw [show (.tu [.em 33 4 (advertsO (takeG l a)), .v (.bool (newsG l a))] : DV) = .tu [.em 33 4 (advertsO (takeG l a)), .v (.bool true)] from (by rw [show newsG l a = true from by unfold newsG; rw [show (book l).length = i by omega]; exact hv2.symm])]
        exact toRet tb_ok mixed_ok hK rfl [(4, [(0, .b false)]), (9, [(4, .call [.d (.ro 4 (adverts (book l ++ [a])))] (.em 33 4 (advertsO (takeG l a))))])] 2000 r (by kernel_rfl) (an h10 (an ((by first | rfl | (simp; done) | (simp <;> omega)) : ((book l).length) = (adverts (book l)).length) (an ((by first | rfl | (simp; done) | (simp <;> omega)) : (1) = ([[.z a.server.node, .u a.server.inc, .u a.seq, .ro 2 (procs a.peers)]] : List (List DV)).length) (an ((by first | omega | (simp; done) | (simp <;> omega)) : (2 * (((book l).length) + (1)) + 192) * 48 ≤ 281474976710656) (an ((by first | omega | (simp; done) | (simp <;> omega)) : ((book l).length) + (1) < 4611686018427387904) (an ((by first | exact one_adverts [a] | simp [OneR, AV.one, oneC]) : OneR ([[.z a.server.node, .u a.server.inc, .u a.seq, .ro 2 (procs a.peers)]])) (an (ofOk (book l ++ [a]) (by simp; omega) (more_ok ha)) (an ((ind_adverts _ _) : Ind (.em 33 4 (advertsO (takeG l a)))) (an (rfN (4)) (an ((by first | rfl | (simp; done) | (simp <;> omega)) : ((book l).length + (1)) = (adverts (book l) ++ [[.z a.server.node, .u a.server.inc, .u a.seq, .ro 2 (procs a.peers)]] : List (List DV)).length) (an ((by first | exact froz_adverts _ | (rw [adverts_app]; exact froz_adverts _)) : frozR (adverts (book l) ++ [[.z a.server.node, .u a.server.inc, .u a.seq, .ro 2 (procs a.peers)]]) = adverts (book l ++ [a])) (an (rfN ((advertsO (takeG l a)).length)) trivial))))))))))))
      | true =>
        have qh10 := of_decide_eq_true h10
        obtain ⟨x, gx⟩ : ∃ x, (book l)[i]? = some x := ⟨_, List.getElem?_eq_getElem (by omega)⟩
        cases h11 : ((x.server.node : Int) == a.server.node) with
        | false =>
          have qh11 := ne_of_beq_false h11
          exact toHead (todo' := hd Try.f17 0) tb_ok mixed_ok hK [(4, [(0, .b true)]), (5, [(0, .n (i)), (1, .ix 0 [.z x.server.node, .u x.server.inc, .u x.seq, .ro 2 (procs x.peers)])]), (6, [(6, .b false)]), (8, [(0, .z (((i + 1 : Nat) : Int)))])] 2000 [0, 1] [3, 6, 7, 14, 15, 16] r (by kernel_rfl) (an h10 (an (rfI ((i : Nat) : Int)) (an ((by first | omega | decide | (simp; omega)) : (i) < ((book l).length)) (an ((by first | rfl | (simp; done) | (simp <;> omega)) : ((book l).length) ≤ (adverts (book l)).length) (an (adverts_at gx) (an h11 (an ((wi (by omega)) : IntKind.i64.wrap ((((i : Nat) : Int) : Int) + 1) = ((i + 1 : Nat) : Int)) trivial))))))) fun ac wd r => again0 (by omega) ac wd ⟨true, ⟨by omega, by first | exact (news_no gx (by omega) (by assumption)).symm | (rw [news_yes gx (by first | exact Or.inl (by omega) | exact Or.inr (by assumption))]; exact hv2)⟩, r⟩
        | true =>
          have qh11 := eq_of_beq h11
          cases h12 : (newer a x) with
          | false =>
            exact toHead (todo' := hd Try.f17 0) tb_ok mixed_ok hK [(4, [(0, .b true)]), (5, [(0, .n (i)), (1, .ix 0 [.z x.server.node, .u x.server.inc, .u x.seq, .ro 2 (procs x.peers)])]), (6, [(6, .b true), (10, .con (.v (.bool false)))]), (8, [(0, .z (((i + 1 : Nat) : Int)))])] 2000 [0, 1] [3, 6, 7, 14, 15, 16] r (by kernel_rfl) (an h10 (an (rfI ((i : Nat) : Int)) (an ((by first | omega | decide | (simp; omega)) : (i) < ((book l).length)) (an ((by first | rfl | (simp; done) | (simp <;> omega)) : ((book l).length) ≤ (adverts (book l)).length) (an (adverts_at gx) (an h11 (an ((by have k := newerOk a x; rw [h12] at k; exact k) : Con Try.prog 33 [.ag [.z a.server.node, .u a.server.inc, .u a.seq, .d (.ro 2 (procs a.peers))], .ag [.z x.server.node, .u x.server.inc, .u x.seq, .d (.ro 2 (procs x.peers))]] (.v (.bool false))) (an ((wi (by omega)) : IntKind.i64.wrap ((((i : Nat) : Int) : Int) + 1) = ((i + 1 : Nat) : Int)) trivial)))))))) fun ac wd r => again0 (by omega) ac wd ⟨false, ⟨by omega, by first | exact (news_no gx (by omega) (by assumption)).symm | (rw [news_yes gx (by first | exact Or.inl (by omega) | exact Or.inr (by assumption))]; exact hv2)⟩, r⟩
          | true =>
            exact toHead (todo' := hd Try.f17 0) tb_ok mixed_ok hK [(4, [(0, .b true)]), (5, [(0, .n (i)), (1, .ix 0 [.z x.server.node, .u x.server.inc, .u x.seq, .ro 2 (procs x.peers)])]), (6, [(6, .b true), (10, .con (.v (.bool true)))]), (8, [(0, .z (((i + 1 : Nat) : Int)))])] 2000 [0, 1] [3, 6, 7, 14, 15, 16] r (by kernel_rfl) (an h10 (an (rfI ((i : Nat) : Int)) (an ((by first | omega | decide | (simp; omega)) : (i) < ((book l).length)) (an ((by first | rfl | (simp; done) | (simp <;> omega)) : ((book l).length) ≤ (adverts (book l)).length) (an (adverts_at gx) (an h11 (an ((by have k := newerOk a x; rw [h12] at k; exact k) : Con Try.prog 33 [.ag [.z a.server.node, .u a.server.inc, .u a.seq, .d (.ro 2 (procs a.peers))], .ag [.z x.server.node, .u x.server.inc, .u x.seq, .d (.ro 2 (procs x.peers))]] (.v (.bool true))) (an ((wi (by omega)) : IntKind.i64.wrap ((((i : Nat) : Int) : Int) + 1) = ((i + 1 : Nat) : Int)) trivial)))))))) fun ac wd r => again0 (by omega) ac wd ⟨true, ⟨by omega, by first | exact (news_no gx (by omega) (by assumption)).symm | (rw [news_yes gx (by first | exact Or.inl (by omega) | exact Or.inr (by assumption))]; exact hv2)⟩, r⟩
end Go.Proofs.Ytikmdkicccfjpaa
namespace Go.Proofs.Ytikmdkicccfjpaa
open Go.RowKit
theorem own_more {l : List Advert} {i : Nat} {a : Advert} (h : l[i]? = some a) : advertsO (l.take i) ++ [[.v (.int .i64 a.server.node), .v (.int .u64 (a.server.inc : Int)), .v (.int .u64 (a.seq : Int)), .em 30 2 ([] ++ procs a.peers)]] = advertsO (l.take (i + 1)) := by
  obtain ⟨hi, rfl⟩ := List.getElem?_eq_some_iff.1 h
  rw [List.take_succ_eq_append_getElem hi, ← advertsO_app]; rfl
def nTo (l : List Advert) : Nat → Int
  | 0 => 0
  | i + 1 => match l[i]? with | some a => IntKind.i64.wrap (nTo l i + IntKind.i64.wrap (1 + (a.peers.length : Int))) | none => nTo l i
theorem nTo_succ {l : List Advert} {i : Nat} {a : Advert} (h : l[i]? = some a) : IntKind.i64.wrap (nTo l i + IntKind.i64.wrap (1 + (a.peers.length : Int))) = nTo l (i + 1) := by rw [nTo, h]
def longB (l : List Advert) : Bool := (List.range l.length).any fun i => decide (400 < nTo l (i + 1))
theorem long_yes {l : List Advert} {i : Nat} (hi : i < l.length) (h : 400 < nTo l (i + 1)) : longB l = true := by
  unfold longB; rw [List.any_eq_true]; exact ⟨i, by simpa using hi, decide_eq_true h⟩
theorem long_no {l : List Advert} (h : ∀ j, j < l.length → ¬ 400 < nTo l (j + 1)) : longB l = false := by
  unfold longB; rw [List.any_eq_false]; intro i hi; simpa using h i (by simpa using hi)
set_option maxRecDepth 100000 in
theorem ownOk (l : List Advert) (hb : l.length ≤ 1048576) (hp : ∀ x ∈ l, x.peers.length ≤ 1048576) : Con Try.prog 13 [.d (.ro 4 (adverts l))] (.em 33 4 (advertsO l)) := by
  refine Con.intro (by kernel_rfl) rfl rfl 20 rfl rfl fun w0 K ac hK r => ?_
  refine toHead (todo' := hd Try.f13 0) (E' := [(0, .d (.ro 4 (adverts l))), (3, .d (.v (.slice none 0 0))), (4, .z 0)]) (M' := []) tb_ok mixed_ok hK [] 2000 [] [0, 3, 4] r (by kernel_rfl) trivial fun ac wd r => ?_
  refine Goes.rounds (Φ := fun (i : Nat) ac wd => (i ≤ l.length) ∧ RE' [] w0 K 20 [(0, .d (.ro 4 (adverts l))), (3, .sl 0 ((l.take i).length)), (4, .n i)] [.rw 33 4 (advertsO (l.take i))] ac wd) (l.length) ?_ (Nat.zero_le _) ⟨(Nat.zero_le _), (r.adopt (M1 := [.rw 33 4 []]) [(3, 33, 4)] [] (by kernel_rfl) (by kernel_rfl)).cast rfl rfl⟩
  clear r
  rintro i hi0 again0 ac wd ⟨hv0, r⟩
  cases h0 : (decide ((((i : Nat) : Int) : Int) < ((l.length : Nat) : Int))) with
  | false =>
    have qh0 := of_decide_eq_false h0
    rw [show (.em 33 4 (advertsO l) : DV) = .em 33 4 (advertsO (l.take i)) from (by rw [List.take_of_length_le (by omega)])]
    exact toRet tb_ok mixed_ok hK rfl [(3, [(2, .z (((l.length : Nat) : Int))), (3, .b false)])] 2000 r (by kernel_rfl) (an ((by simp) : (((adverts l).length : Nat) : Int) = ((l.length : Nat) : Int)) (an h0 (an ((by first | rfl | (simp; done) | (simp <;> omega)) : ((l.take i).length) = (advertsO (l.take i)).length) trivial)))
  | true =>
    have qh0 := of_decide_eq_true h0
    obtain ⟨e_l_i, ge_l_i⟩ : ∃ x, l[i]? = some x := ⟨_, List.getElem?_eq_getElem (by omega)⟩
    exact toHead (todo' := hd Try.f13 0) (E' := [(0, .d (.ro 4 (adverts l))), (3, .sl 0 ((l.take i).length + (1))), (4, .n (i + 1))]) (M' := [.rw 33 4 (advertsO (l.take i) ++ [[.z e_l_i.server.node, .u e_l_i.server.inc, .u e_l_i.seq, .em 30 2 ([] ++ procs e_l_i.peers)]])]) tb_ok mixed_ok hK [(3, [(2, .z (((l.length : Nat) : Int))), (3, .b true)]), (4, [(1, .z (((i + 1 : Nat) : Int)))]), (5, [(3, .ix (i) [.z e_l_i.server.node, .u e_l_i.server.inc, .u e_l_i.seq, .ro 2 (procs e_l_i.peers)]), (5, .con (.ag [.z e_l_i.server.node, .u e_l_i.server.inc, .u e_l_i.seq, .em 30 2 ([] ++ procs e_l_i.peers)]))])] 2000 [0] [0, 3, 4] r (by kernel_rfl) (an ((by simp) : (((adverts l).length : Nat) : Int) = ((l.length : Nat) : Int)) (an h0 (an (rfI ((i : Nat) : Int)) (an (adverts_at ge_l_i) (an (refOwn e_l_i (by have := hp _ (List.mem_of_getElem? ge_l_i); omega) : Con Try.prog 31 [.ag [.z e_l_i.server.node, .u e_l_i.server.inc, .u e_l_i.seq, .d (.ro 2 (procs e_l_i.peers))]] (.ag [.z e_l_i.server.node, .u e_l_i.server.inc, .u e_l_i.seq, .em 30 2 ([] ++ procs e_l_i.peers)])) (an (rfN (([] ++ procs e_l_i.peers : List (List DV)).length)) (an ((by first | rfl | (simp; done) | (simp <;> omega)) : ((l.take i).length) = (advertsO (l.take i)).length) (an ((by first | rfl | (simp; done) | (simp <;> omega)) : (1) = ([[.z e_l_i.server.node, .u e_l_i.server.inc, .u e_l_i.seq, .em 30 2 ([] ++ procs e_l_i.peers)]] : List (List DV)).length) (an ((by first | omega | (simp; done) | (simp <;> omega)) : (2 * (((l.take i).length) + (1)) + 192) * 48 ≤ 281474976710656) (an ((by first | omega | (simp; done) | (simp <;> omega)) : ((l.take i).length) + (1) < 4611686018427387904) (an ((by first | exact one_procs _ | rfl | simp [OneR, AV.one, oneC]) : OneR ([[.z e_l_i.server.node, .u e_l_i.server.inc, .u e_l_i.seq, .em 30 2 ([] ++ procs e_l_i.peers)]])) (an ((wi (by omega)) : IntKind.i64.wrap ((((i : Nat) : Int) : Int) + 1) = ((i + 1 : Nat) : Int)) trivial)))))))))))) fun ac wd r => again0 (by omega) ac wd ⟨(by omega), r.cast (by rw [List.take_succ_eq_append_getElem (show i < l.length by omega), List.length_append]; rfl) (by rw [own_more ge_l_i])⟩
set_option maxRecDepth 100000 in
theorem longOk (l : List Advert) (hb : l.length ≤ 9223372036854775807) : Con Try.prog 11 [.d (.ro 4 (adverts l))] (.v (.bool (longB l))) := by
  refine Con.intro (by kernel_rfl) rfl rfl 22 rfl rfl fun w0 K ac hK r => ?_
  refine toHead (todo' := hd Try.f11 0) (E' := [(0, .d (.ro 4 (adverts l))), (3, .z (nTo l 0)), (4, .n 0)]) (M' := []) tb_ok mixed_ok hK [] 2000 [] [0, 3, 4] r (by kernel_rfl) trivial fun ac wd r => ?_
  refine Goes.rounds (Φ := fun (i : Nat) ac wd => (i ≤ l.length ∧ ∀ j, j < i → ¬ 400 < nTo l (j + 1)) ∧ RE' [] w0 K 22 [(0, .d (.ro 4 (adverts l))), (3, .z (nTo l i)), (4, .n i)] [] ac wd) (l.length) ?_ (Nat.zero_le _) ⟨⟨Nat.zero_le _, by omega⟩, r⟩
  clear r
  rintro i hi0 again0 ac wd ⟨hv0, r⟩
  obtain ⟨hi1, hv0⟩ := hv0
  cases h0 : (decide ((((i : Nat) : Int) : Int) < ((l.length : Nat) : Int))) with
  | false =>
    have qh0 := of_decide_eq_false h0
    rw [show (.v (.bool (longB l)) : DV) = .v (.bool false) from (bv (long_no fun j hj => hv0 j (by omega)))]
    exact toRet tb_ok mixed_ok hK rfl [(3, [(2, .z (((l.length : Nat) : Int))), (3, .b false)])] 2000 r (by kernel_rfl) (an ((by simp) : (((adverts l).length : Nat) : Int) = ((l.length : Nat) : Int)) (an h0 trivial))
  | true =>
    have qh0 := of_decide_eq_true h0
    obtain ⟨e_l_i, ge_l_i⟩ : ∃ x, l[i]? = some x := ⟨_, List.getElem?_eq_getElem (by omega)⟩
    cases h1 : (decide ((400 : Int) < nTo l (i + 1))) with
    | false =>
      have qh1 := of_decide_eq_false h1
      exact toHead (todo' := hd Try.f11 0) tb_ok mixed_ok hK [(3, [(2, .z (((l.length : Nat) : Int))), (3, .b true)]), (4, [(1, .z (((i + 1 : Nat) : Int)))]), (5, [(3, .ix (i) [.z e_l_i.server.node, .u e_l_i.server.inc, .u e_l_i.seq, .ro 2 (procs e_l_i.peers)]), (6, .z (((e_l_i.peers.length : Nat) : Int))), (7, .z (IntKind.i64.wrap (1 + ((e_l_i.peers.length : Nat) : Int)))), (8, .z (nTo l (i + 1)))]), (6, [(1, .b false)])] 2000 [] [0, 3, 4] r (by kernel_rfl) (an ((by simp) : (((adverts l).length : Nat) : Int) = ((l.length : Nat) : Int)) (an h0 (an (rfI ((i : Nat) : Int)) (an (adverts_at ge_l_i) (an ((by simp) : (((procs e_l_i.peers).length : Nat) : Int) = ((e_l_i.peers.length : Nat) : Int)) (an ((by first | exact wi (by omega) | rfl | exact nTo_succ ge_l_i) : IntKind.i64.wrap ((1 : Int) + ((e_l_i.peers.length : Nat) : Int)) = IntKind.i64.wrap (1 + ((e_l_i.peers.length : Nat) : Int))) (an ((by first | exact wi (by omega) | rfl | exact nTo_succ ge_l_i) : IntKind.i64.wrap ((nTo l i : Int) + IntKind.i64.wrap (1 + ((e_l_i.peers.length : Nat) : Int))) = nTo l (i + 1)) (an h1 (an ((by first | exact wi (by omega) | rfl | exact nTo_succ ge_l_i) : IntKind.i64.wrap ((((i : Nat) : Int) : Int) + 1) = ((i + 1 : Nat) : Int)) trivial))))))))) fun ac wd r => again0 (by omega) ac wd ⟨⟨by omega, fun j hj => by rcases Nat.lt_succ_iff_lt_or_eq.1 hj with h | rfl; exact hv0 j h; omega⟩, r⟩
    | true =>
      have qh1 := of_decide_eq_true h1
      rw [show (.v (.bool (longB l)) : DV) = .v (.bool true) from (bv (long_yes (i := i) (by omega) (by omega)))]
      exact toRet tb_ok mixed_ok hK rfl [(3, [(2, .z (((l.length : Nat) : Int))), (3, .b true)]), (5, [(3, .ix (i) [.z e_l_i.server.node, .u e_l_i.server.inc, .u e_l_i.seq, .ro 2 (procs e_l_i.peers)]), (6, .z (((e_l_i.peers.length : Nat) : Int))), (7, .z (IntKind.i64.wrap (1 + ((e_l_i.peers.length : Nat) : Int)))), (8, .z (nTo l (i + 1)))]), (6, [(1, .b true)])] 2000 r (by kernel_rfl) (an ((by simp) : (((adverts l).length : Nat) : Int) = ((l.length : Nat) : Int)) (an h0 (an (rfI ((i : Nat) : Int)) (an (adverts_at ge_l_i) (an ((by simp) : (((procs e_l_i.peers).length : Nat) : Int) = ((e_l_i.peers.length : Nat) : Int)) (an ((by first | exact wi (by omega) | rfl | exact nTo_succ ge_l_i) : IntKind.i64.wrap ((1 : Int) + ((e_l_i.peers.length : Nat) : Int)) = IntKind.i64.wrap (1 + ((e_l_i.peers.length : Nat) : Int))) (an ((by first | exact wi (by omega) | rfl | exact nTo_succ ge_l_i) : IntKind.i64.wrap ((nTo l i : Int) + IntKind.i64.wrap (1 + ((e_l_i.peers.length : Nat) : Int))) = nTo l (i + 1)) (an h1 trivial))))))))
end Go.Proofs.Ytikmdkicccfjpaa
namespace Go.Proofs.Ytikmdkicccfjpaa
open Go.RowKit
def reC (b : List Advert) (p : Proc) : List Proc := p :: (b.filter fun a => decide (0 ≤ stepsR b p a.server)).map Advert.server
def reachC (l : List Advert) (p : Proc) : List Proc := if p.low then srt (reC (book l) p) else []
theorem reach_c {l : List Advert} {p : Proc} (hp : p.okP) : reachG l p = reachC l p := by
  unfold reachC
  split
  · rename_i h
    rw [← reach_is hp h (Nat.le_refl _)]; unfold reTo reC; rw [List.take_length]
  · rename_i h
    unfold reachG
    rw [if_neg]
    rintro ⟨h1, h2⟩
    exact h (by unfold Proc.low; rw [h1, decide_eq_true h2]; rfl)
def nextC (l : List Advert) (p : Proc) (to : Int) : Int × Bool :=
  if to = p.node then (0, false) else match (book l).find? (fun a => decide (a.server.node = to)) with
  | none => (0, false)
  | some a => if stepsR (book l) p a.server < 0 then (0, false) else match (nbTo (book l) p (book l).length).find? (fun q => stepsR (book l) q a.server == stepsR (book l) p a.server - 1) with
    | none => (0, false)
    | some q => (q.node, true)
theorem next_c {l : List Advert} {p : Proc} {to : Int} : nextG l p to = nextC l p to := by
  unfold nextC nextG
  by_cases hne : to = p.node
  · rw [if_pos hne, if_pos hne]
  · rw [if_neg hne, if_neg hne]
    cases hfd : (book l).find? (fun a => decide (a.server.node = to)) with
    | none => rfl
    | some a =>
      dsimp only
      have hm := List.mem_of_find?_eq_some hfd
      obtain ⟨i, hi, rfl⟩ := List.getElem_of_mem hm
      have ga : (book l)[i]? = some (book l)[i] := List.getElem?_eq_getElem hi
      have hn : (book l)[i].server.node = to := by simpa using List.find?_some hfd
      by_cases hs : stepsR (book l) p (book l)[i].server < 0
      · have h0 := steps_none ga hs
        rw [if_pos hs]
        cases hd : dOf (farL (book l) (book l)[i].server) p with
        | none => rfl
        | some s => rw [hd] at h0; cases h0
      · rw [if_neg hs]
        obtain ⟨s, h1, h2, h3⟩ := steps_some ga hs (by omega)
        simp only [h1]
        have : (jn (book l) p).find? (hit (book l) (book l)[i].server s) = (nbTo (book l) p (book l).length).find? (fun q => stepsR (book l) q (book l)[i].server == stepsR (book l) p (book l)[i].server - 1) := by
          rw [jn_nb (book_good l)]
          congr 1
          funext q
          exact steps_hit ga h3 h2 rfl
        rw [this]
        try (cases (nbTo (book l) p (book l).length).find? (fun q => stepsR (book l) q (book l)[i].server == stepsR (book l) p (book l)[i].server - 1) <;> rfl)
abbrev exam : List Advert := [⟨⟨1, 1⟩, 1, [⟨2, 1⟩]⟩, ⟨⟨2, 1⟩, 1, [⟨1, 1⟩, ⟨3, 4⟩]⟩, ⟨⟨3, 4⟩, 1, [⟨2, 1⟩]⟩, ⟨⟨4, 1⟩, 1, [⟨3, 4⟩]⟩]
theorem exam_1 : book exam = exam := by kernel_rfl
theorem exam_2 : nextG exam ⟨1, 1⟩ 3 = (2, true) := by rw [next_c]; kernel_rfl
theorem exam_3 : nextG exam ⟨1, 1⟩ 4 = (0, false) := by rw [next_c]; kernel_rfl
theorem exam_4 : (reachG exam ⟨1, 1⟩).length = 3 := by rw [reach_c (by unfold Proc.okP; dsimp only; omega)]; kernel_rfl
abbrev exam2 : List Advert := [⟨⟨1, 1⟩, 1, [⟨2, 1⟩]⟩, ⟨⟨2, 1⟩, 1, [⟨1, 1⟩, ⟨3, 4⟩]⟩, ⟨⟨3, 4⟩, 2, []⟩, ⟨⟨4, 1⟩, 1, [⟨3, 4⟩]⟩]
theorem exam_5 : takeG exam ⟨⟨3, 4⟩, 2, []⟩ = exam2 := by kernel_rfl
theorem exam_6 : newsG exam ⟨⟨3, 4⟩, 2, []⟩ = true := by kernel_rfl
theorem exam_7 : newsG exam ⟨⟨3, 3⟩, 2, []⟩ = false := by kernel_rfl
theorem exam_8 : (reachG exam2 ⟨1, 1⟩).length = 2 := by rw [reach_c (by unfold Proc.okP; dsimp only; omega)]; kernel_rfl
end Go.Proofs.Ytikmdkicccfjpaa
namespace Go.Proofs.Ytikmdkicccfjpaa
open Go.RowKit
set_option maxRecDepth 100000 in
theorem examOk  : Con Try.prog 29 [] (.em 33 4 (advertsO exam)) := by
  refine Con.intro (by kernel_rfl) rfl rfl 19 rfl rfl fun w0 K ac hK r => ?_
  rw [show (.em 33 4 (advertsO exam) : DV) = .em 33 4 ([[.z 1, .v (.int .u64 1), .v (.int .u64 1), .em 30 2 ([[.z 2, .v (.int .u64 1)]])], [.z 2, .v (.int .u64 1), .v (.int .u64 1), .em 30 2 ([[.z 1, .v (.int .u64 1)], [.z 3, .v (.int .u64 4)]])], [.z 3, .v (.int .u64 4), .v (.int .u64 1), .em 30 2 ([[.z 2, .v (.int .u64 1)]])], [.z 4, .v (.int .u64 1), .v (.int .u64 1), .em 30 2 ([[.z 3, .v (.int .u64 4)]])]]) from rfl]
  exact toRet tb_ok mixed_ok hK rfl [(1, [(0, .into 200 []), (1, .into 200 []), (4, .into 200 []), (5, .into 200 []), (6, .into 200 []), (9, .into 200 []), (10, .into 200 []), (13, .into 200 []), (14, .into 200 [])])] 2000 r (by kernel_rfl) (an ((by first | rfl | (simp; done)) : (1) = ([[.z 2, .v (.int .u64 1)]] : List (List DV)).length) (an ((by first | rfl | (simp; done)) : (2) = ([[.z 1, .v (.int .u64 1)], [.z 3, .v (.int .u64 4)]] : List (List DV)).length) (an ((by first | rfl | (simp; done)) : (1) = ([[.z 2, .v (.int .u64 1)]] : List (List DV)).length) (an ((by first | rfl | (simp; done)) : (1) = ([[.z 3, .v (.int .u64 4)]] : List (List DV)).length) (an ((by first | rfl | (simp; done)) : (4) = ([[.z 1, .v (.int .u64 1), .v (.int .u64 1), .em 30 2 ([[.z 2, .v (.int .u64 1)]])], [.z 2, .v (.int .u64 1), .v (.int .u64 1), .em 30 2 ([[.z 1, .v (.int .u64 1)], [.z 3, .v (.int .u64 4)]])], [.z 3, .v (.int .u64 4), .v (.int .u64 1), .em 30 2 ([[.z 2, .v (.int .u64 1)]])], [.z 4, .v (.int .u64 1), .v (.int .u64 1), .em 30 2 ([[.z 3, .v (.int .u64 4)]])]] : List (List DV)).length) trivial)))))
theorem Con.sub {P : Program} {f : FuncId} {args args' : List AV} {x : DV} (h : Con P f args x) (hl : args'.length = args.length) (e : ∀ (K : World → Prop) (j : Nat) c c' y, args[j]? = some c → args'[j]? = some c' → ARel K [] c' y → ARel K [] c y) : Con P f args' x := by
  refine ⟨h.1, fun w K ys hK hy hr => h.2 w K ys hK (by omega) fun j c y h1 h2 => ?_⟩
  have hj : j < args'.length := by rw [hl]; exact (List.getElem?_eq_some_iff.1 h1).1
  have e1 := List.getElem?_eq_getElem hj
  exact e _ j c _ y h1 e1 (hr j _ y e1 h2)
theorem ARel.le {K : World → Prop} {x x' : DV} {y : Value} (e : Le x x') (h : ARel K [] (.d x) y) : ARel K [] (.d x') y := by
  cases h with | d h => exact .d (e _ _ _ h)
theorem adv_nil {K : World → Prop} {a b c : Value} {y : Value} (h : ARel K [] (.ag [.d (.v a), .d (.v b), .d (.v c), .d (.v (.slice none 0 0))]) y) : ARel K [] (.ag [.d (.v a), .d (.v b), .d (.v c), .d (.ro 2 [])]) y := by
  cases h with
  | ag ys hl hr =>
    refine .ag ys hl fun j c' z h1 h2 => ?_
    match j with
    | 0 => simp at h1; subst h1; exact hr 0 _ z rfl h2
    | 1 => simp at h1; subst h1; exact hr 1 _ z rfl h2
    | 2 => simp at h1; subst h1; exact hr 2 _ z rfl h2
    | 3 => simp at h1; subst h1; exact ARel.le (Le.nilRo 2) (hr 3 _ z rfl h2)
    | j + 4 => simp at h1
theorem take_nil (l : List Advert) (p : Proc) (s : Nat) (hb : l.length ≤ 9223372036854775807) (hl : ∀ x ∈ l, x.peers.length ≤ 9223372036854775807) : Con Try.prog 17 [.d (.ro 4 (adverts l)), .ag [.z p.node, .u p.inc, .u s, .d (.v (.slice none 0 0))]] (.tu [.ro 4 (adverts (takeG l ⟨p, s, []⟩)), .v (.bool (newsG l ⟨p, s, []⟩))]) := by
  have h := (takeOk l ⟨p, s, []⟩ hb hl (by simp)).froz
  rw [froz, frozL, frozL, frozL, froz, froz, froz_advertsO] at h
  refine h.sub rfl fun K j c c' y h1 h2 r => ?_
  match j with
  | 0 => simp at h1 h2; subst h1 h2; exact r
  | 1 => simp at h1 h2; subst h1 h2; exact adv_nil r
  | j + 2 => simp at h1
theorem examRo : Con Try.prog 29 [] (.ro 4 (adverts exam)) := by
  have h := examOk.froz; rw [froz, froz_advertsO] at h; exact h
theorem exam_ok : ∀ x ∈ exam, x.peers.length ≤ 9223372036854775807 := by decide
theorem exam2_ok : ∀ x ∈ exam2, x.peers.length ≤ 9223372036854775807 := by decide
theorem examOf : Con Try.prog 14 [.d (.ro 4 (adverts exam))] (.ro 4 (adverts exam)) := by have h := ofRo exam (by decide) exam_ok; rw [exam_1] at h; exact h
theorem okP_small {a : Int} {b : Nat} (h : 0 ≤ a ∧ a ≤ 10 ∧ b ≤ 10) : (⟨a, b⟩ : Proc).okP := by unfold Proc.okP; dsimp only; omega
theorem examN (to n : Int) (c : Bool) (h : nextG exam ⟨1, 1⟩ to = (n, c)) : Con Try.prog 23 [.d (.ro 4 (adverts exam)), .ag [.z 1, .d (.v (.int .u64 1))], .z to] (.tu [.v (.int .i64 n), .v (.bool c)]) := by
  have h' := nextOk exam ⟨1, 1⟩ to (by decide) exam_ok (okP_small (by omega)); rw [h] at h'; exact h'
theorem examT1 : Con Try.prog 17 [.d (.ro 4 (adverts exam)), .ag [.z 3, .d (.v (.int .u64 4)), .d (.v (.int .u64 2)), .d (.v (.slice none 0 0))]] (.tu [.ro 4 (adverts exam2), .v (.bool true)]) := by
  have h := take_nil exam ⟨3, 4⟩ 2 (by decide) exam_ok; rw [exam_5, exam_6] at h; exact h
theorem examT2 : Con Try.prog 17 [.d (.ro 4 (adverts exam)), .ag [.z 3, .d (.v (.int .u64 3)), .d (.v (.int .u64 2)), .d (.v (.slice none 0 0))]] (.tu [.ro 4 (adverts (takeG exam ⟨⟨3, 3⟩, 2, []⟩)), .v (.bool false)]) := by
  have h := take_nil exam ⟨3, 3⟩ 2 (by decide) exam_ok; rw [exam_7] at h; exact h
set_option maxRecDepth 100000 in
theorem awakeOk  : Con Try.prog 12 [] (.v (.bool true)) := by
  refine Con.intro (by kernel_rfl) rfl rfl 73 rfl rfl fun w0 K ac hK r => ?_
  exact toRet tb_ok mixed_ok hK rfl [(1, [(0, .con (.ro 4 (adverts exam))), (1, .con (.ro 4 (adverts exam)))]), (2, [(1, .into 200 []), (2, .con (.tu [.z 2, .v (.bool true)]))]), (3, [(1, .into 200 []), (2, .con (.tu [.z 0, .v (.bool false)]))]), (4, [(1, .into 200 []), (3, .con (.tu [.ro 4 (adverts exam2), .v (.bool true)]))]), (5, [(1, .into 200 []), (3, .con (.tu [.ro 4 (adverts (takeG exam ⟨⟨3, 3⟩, 2, []⟩)), .v (.bool false)]))]), (6, [(1, .z (((4 : Nat) : Int))), (5, .into 200 []), (6, .con (.ro 2 (procs (reachG exam ⟨1, 1⟩)))), (7, .z (((3 : Nat) : Int))), (23, .into 200 []), (24, .con (.ro 2 (procs (reachG exam2 ⟨1, 1⟩)))), (25, .z (((2 : Nat) : Int)))])] 2000 r (by kernel_rfl) (an (examRo) (an (examOf) (an (examN 3 2 true exam_2) (an (examN 4 0 false exam_3) (an (examT1) (an (examT2) (an ((by first | rfl | (simp [exam_4]; done) | (simp [exam_8]; done)) : (((adverts exam).length : Nat) : Int) = ((4 : Nat) : Int)) (an (reachOk exam ⟨1, 1⟩ (by decide) exam_ok (okP_small (by omega))) (an ((by first | rfl | (simp [exam_4]; done) | (simp [exam_8]; done)) : (((procs (reachG exam ⟨1, 1⟩)).length : Nat) : Int) = ((3 : Nat) : Int)) (an (reachOk exam2 ⟨1, 1⟩ (by decide) exam2_ok (okP_small (by omega))) (an ((by first | rfl | (simp [exam_4]; done) | (simp [exam_8]; done)) : (((procs (reachG exam2 ⟨1, 1⟩)).length : Nat) : Int) = ((2 : Nat) : Int)) trivial)))))))))))
end Go.Proofs.Ytikmdkicccfjpaa
namespace Go.Proofs.Ytikmdkicccfjpaa
open Go.RowKit
theorem Try.own : ownKnob Try.prog.godebug = none := by kernel_rfl
deriving instance Inhabited for Proc, Advert
variable {w : World}
theorem Rd.int' {P : Program} {t : TypeId} (h : P.underlying t = some (.int .i64)) : Rd P w t (fun n : Int => [.z n]) fun n => -9223372036854775808 ≤ n ∧ n ≤ 9223372036854775807 := fun cs hc => by
  obtain ⟨n, rfl, hw⟩ := hc.int h
  have hw' : -9223372036854775808 ≤ n ∧ n ≤ 9223372036854775807 := by simpa [Lit.wf, IntKind.min, IntKind.max, IntKind.signed, IntKind.bits] using hw
  exact ⟨n, hw', .one (.v _)⟩
theorem rd_proc : Rd Try.prog w 30 Proc.row Proc.okP := ((Rd.two Try.underlying30 rfl rfl (k0 := 1) (k1 := 1) (by kernel_rfl) (by kernel_rfl) (by kernel_rfl) (Rd.int' Try.underlying3) (Rd.u64 Try.underlying28)).map fun x => Proc.mk x.1 x.2) (fun _ => rfl) fun _ h => h
end Go.Proofs.Ytikmdkicccfjpaa
namespace Go.Proofs.Ytikmdkicccfjpaa
open Go.RowKit
theorem Can.trans {b : List Advert} {p q : Proc} {m : Nat} (h : Can b p m q) : ∀ {n : Nat} {r : Proc}, Can b q n r → Can b p (m + n) r
  | 0, r, h2 => by rw [show r = q from h2]; exact h
  | n + 1, r, h2 => by
    rcases h2 with h2 | ⟨v, h1, h3⟩
    · exact Or.inl (Can.trans h h2)
    · exact Or.inr ⟨v, Can.trans h h1, h3⟩
theorem mem_reach {l : List Advert} {p q : Proc} (hp : p.okP) (hl : p.low = true) : q ∈ reachG l p ↔ ∃ n, Can (book l) p n q := by
  unfold Proc.low at hl
  simp only [Bool.and_eq_true, decide_eq_true_eq] at hl
  obtain ⟨k, hf⟩ := far_is (book_good l) hp
  unfold reachG
  rw [if_pos hl, mem_srt, List.mem_map]
  constructor
  · rintro ⟨⟨q', d⟩, hx, rfl⟩; exact ⟨d, ((hf _ d).1 hx).1⟩
  · rintro ⟨n, hn⟩
    obtain ⟨d, -, hd⟩ := hn.lev
    exact ⟨(q, d), (hf q d).2 hd, rfl⟩
theorem book_s {l : List Advert} {a : Advert} (h : a ∈ book l) : a.server.srv = true := (Advert.may_iff.1 ((book_good l).may a h)).1
end Go.Proofs.Ytikmdkicccfjpaa
namespace Go.Proofs.Ytikmdkicccfjpaa
open Go.RowKit
abbrev Proc.zero : Proc := ⟨0, 0⟩
def Pick (L : List Proc) (i : Nat) (c : Proc → Prop) (g : Proc) : Prop := (g = Proc.zero ∧ ∀ (j : Nat) x, j < i → L[j]? = some x → ¬ c x) ∨ (g ∈ L ∧ c g)
theorem Pick.start (L : List Proc) (c : Proc → Prop) : Pick L 0 c Proc.zero := Or.inl ⟨rfl, fun j x hj => absurd hj (Nat.not_lt_zero _)⟩
theorem Pick.yes {L : List Proc} {i : Nat} {c : Proc → Prop} {x : Proc} (hx : L[i]? = some x) (hc : c x) : Pick L (i + 1) c x := Or.inr ⟨List.mem_of_getElem? hx, hc⟩
theorem Pick.no {L : List Proc} {i : Nat} {c : Proc → Prop} {g x : Proc} (h : Pick L i c g) (hx : L[i]? = some x) (hc : ¬ c x) : Pick L (i + 1) c g := by
  rcases h with ⟨h1, h2⟩ | h
  · refine Or.inl ⟨h1, fun j y hj hy => ?_⟩
    rcases Nat.lt_succ_iff_lt_or_eq.1 hj with h | rfl
    · exact h2 j y h hy
    · rw [hx] at hy; cases hy; exact hc
  · exact Or.inr h
theorem Pick.none {L : List Proc} {i : Nat} {c : Proc → Prop} {g : Proc} (h : Pick L i c g) (hi : L.length ≤ i) (hn : g ∉ L ∨ ¬ c g) : ∀ x ∈ L, ¬ c x := by
  rcases h with ⟨-, h2⟩ | ⟨h1, h2⟩
  · intro x hx
    obtain ⟨j, hj, rfl⟩ := List.getElem_of_mem hx
    exact h2 j _ (by omega) (List.getElem?_eq_getElem hj)
  · rcases hn with h | h
    · exact absurd h1 h
    · exact absurd h2 h
theorem Pick.some {L : List Proc} {i : Nat} {c : Proc → Prop} {g x : Proc} (h : Pick L i c g) (hi : L.length ≤ i) (hx : x ∈ L) (hc : c x) : g ∈ L ∧ c g := by
  rcases h with ⟨-, h2⟩ | h
  · obtain ⟨j, hj, rfl⟩ := List.getElem_of_mem hx
    exact absurd hc (h2 j _ (by omega) (List.getElem?_eq_getElem hj))
  · exact h
theorem in_reach {l : List Advert} {p q : Proc} (hp : p.okP) (h : q ∈ reachG l p) : p.low = true ∧ ∃ n, Can (book l) p n q := by
  have hl : p.low = true := by
    unfold reachG at h
    split at h
    · rename_i hc; unfold Proc.low; rw [hc.1, decide_eq_true hc.2]; rfl
    · cases h
  exact ⟨hl, (mem_reach hp hl).1 h⟩
theorem book_one {l : List Advert} {a c : Advert} (ha : a ∈ book l) (hc : c ∈ book l) (h : a.server.node = c.server.node) : a = c := by
  obtain ⟨i, hi, rfl⟩ := List.getElem_of_mem ha
  obtain ⟨k, hk, rfl⟩ := List.getElem_of_mem hc
  have up := List.pairwise_iff_getElem.1 (book_good l).up
  rcases Nat.lt_trichotomy i k with h1 | rfl | h1
  · have := up i k hi hk h1; omega
  · rfl
  · have := up k i hk hi h1; omega
theorem Lev.has {b : List Advert} {p q : Proc} {d : Nat} (h : Lev b p (d + 1) q) : ∃ a ∈ b, a.server = q := by
  obtain ⟨r, -, h2⟩ := h.prev
  exact jn_server h2
theorem Lev.self {b : List Advert} {p q : Proc} (h : Lev b p 0 q) : q = p := h.1
open Classical in
theorem Lev.more {b : List Advert} {p : Proc} (hp : ∃ a ∈ b, a.server = p) : ∀ {d : Nat} {q : Proc}, Lev b p d q → d + 1 ≤ b.countP fun a => decide (Can b p d a.server)
  | 0, _, _ => by
    obtain ⟨a, ha, hs⟩ := hp
    exact List.countP_pos_iff.2 ⟨a, ha, decide_eq_true hs⟩
  | d + 1, q, h => by
    obtain ⟨r, hr, hq⟩ := h.prev
    have ih := Lev.more hp hr
    obtain ⟨a, ha, hs⟩ := jn_server hq
    have : (b.countP fun a => decide (Can b p d a.server)) < b.countP fun a => decide (Can b p (d + 1) a.server) :=
      cnt_lt (fun x _ hx => decide_eq_true (Or.inl (of_decide_eq_true hx))) ⟨a, ha, decide_eq_true (by rw [hs]; exact h.1), decide_eq_false (by rw [hs]; exact h.2 d (by omega))⟩
    omega
theorem there_start {l : List Advert} {p g : Proc} (hp : p.okP) (h : g ∈ reachG l p) (hne : g ≠ p) : p ∈ reachG l p ∧ ∃ d, Lev (book l) g d p ∧ d ≤ 3 := by
  obtain ⟨hl, n, hn⟩ := in_reach hp h
  obtain ⟨d, -, hd⟩ := hn.lev
  refine ⟨(mem_reach hp hl).2 ⟨0, rfl⟩, d, hd.symm, ?_⟩
  cases d with
  | zero => exact absurd hd.self hne
  | succ d =>
    have h1 := hd.more hd.symm.has
    have h2 := @List.countP_le_length Advert (fun a : Advert => @decide (Can (book l) p (d + 1) a.server) (Classical.propDecidable _)) (book l)
    have h3 := (book_good l).len
    omega
theorem there_own {l : List Advert} {p g : Proc} (hp : p.okP) (h : g ∈ reachG l p) (hne : g ≠ p) : ∀ x ∈ reachG l p, ∃ a ∈ book l, a.server = x := by
  obtain ⟨hl, n, hn⟩ := in_reach hp h
  obtain ⟨d, -, hd⟩ := hn.lev
  have hps : ∃ a ∈ book l, a.server = p := by
    cases d with
    | zero => exact absurd hd.self hne
    | succ d => exact hd.symm.has
  intro x hx
  obtain ⟨-, m, hm⟩ := in_reach hp hx
  obtain ⟨e, -, he⟩ := hm.lev
  cases e with
  | zero => rw [he.self]; exact hps
  | succ e => exact he.has
theorem there_step {l : List Advert} {p t g : Proc} {d : Nat} (hp : p.okP) (ht : t ∈ reachG l p) (hg : g ∈ reachG l p) (hne : g ≠ p) (hd : Lev (book l) g (d + 1) t) : ∃ q, nextG l t g.node = (q.node, true) ∧ q ∈ reachG l p ∧ Lev (book l) g d q ∧ q ∈ jn (book l) t := by
  obtain ⟨a, ha, has⟩ := there_own hp hg hne g hg
  obtain ⟨c, hc, hcs⟩ := there_own hp hg hne t ht
  have hdiff : g.node ≠ t.node := by
    intro e
    have := book_one ha hc (by rw [has, hcs]; exact e)
    rw [this] at has
    exact hd.2 0 (by omega) (show t = g by rw [← hcs, has])
  obtain ⟨r, hr1, hr2⟩ := hd.prev
  have hgo : g.okP := by rw [← has]; exact srv_okP (book_s ha)
  obtain ⟨k, hf⟩ := far_is (book_good l) hgo
  have h1 : dOf (farL (book l) g) t = some (d + 1) := (dOf_mem k).2 ((hf _ _).2 hd)
  obtain ⟨i, hi, hia⟩ := List.getElem_of_mem ha
  have hr : hit (book l) g (d + 1) r = true := by unfold hit; exact decide_eq_true ((dOf_mem k).2 ((hf _ _).2 hr1))
  have hs : ((jn (book l) t).find? (hit (book l) g (d + 1))).isSome = true := by rw [List.find?_isSome]; exact ⟨r, jn_symm.1 hr2, hr⟩
  obtain ⟨q, hq⟩ := Option.isSome_iff_exists.1 hs
  have hq1 := List.mem_of_find?_eq_some hq
  have hq2 := List.find?_some hq
  unfold hit at hq2
  have hq3 := (hf _ _).1 ((dOf_mem k).1 (of_decide_eq_true hq2))
  obtain ⟨hl, n, hn⟩ := in_reach hp ht
  refine ⟨q, next_some (a := a) (i := i) (s := d + 1) hdiff (by rw [List.getElem?_eq_getElem hi, hia]) (by rw [has]) (by rw [has]; exact h1) (by rw [has]; exact hq), (mem_reach hp hl).2 ⟨n + 1, Or.inr ⟨t, hn, hq1⟩⟩, ?_, hq1⟩
  simpa using hq3
theorem there_one {l : List Advert} {p g x y : Proc} (hp : p.okP) (hg : g ∈ reachG l p) (hne : g ≠ p) (hx : x ∈ reachG l p) (hy : y ∈ reachG l p) (e : x.node = y.node) : x = y := by
  obtain ⟨a, ha, rfl⟩ := there_own hp hg hne x hx
  obtain ⟨c, hc, rfl⟩ := there_own hp hg hne y hy
  rw [book_one ha hc e]
def AtW (l : List Advert) (p g t : Proc) (s : Nat) : Prop := g.node ≠ 0 → t ∈ reachG l p ∧ ∃ d, Lev (book l) g d t ∧ s + d ≤ 3
theorem AtW.start {l : List Advert} {p g : Proc} {to : Int} {i : Nat} (hp : p.okP) (h : Pick (reachG l p) i (fun x => x.node = to ∧ x ≠ p) g) : AtW l p g p 0 := fun hn => by
  rcases h with ⟨h1, -⟩ | ⟨h1, h2⟩
  · rw [h1] at hn; exact absurd rfl hn
  · obtain ⟨h3, d, h4, h5⟩ := there_start hp h1 h2.2
    exact ⟨h3, d, h4, by omega⟩
theorem AtW.step {l : List Advert} {p g t : Proc} {to : Int} {i s : Nat} (hp : p.okP) (h : Pick (reachG l p) i (fun x => x.node = to ∧ x ≠ p) g) (ha : AtW l p g t s) (hn : g.node ≠ 0) (hne : t ≠ g) :
    t.okP ∧ s < 3 ∧ ∃ q, nextG l t to = (q.node, true) ∧ q ∈ reachG l p ∧ q ∈ peersOf (book l) t ∧ t ∈ peersOf (book l) q ∧ AtW l p g q (s + 1) ∧ ∀ (k : Nat) x, (reachG l p).length ≤ k → Pick (reachG l p) k (fun x => x.node = q.node) x → x = q := by
  rcases h with ⟨h1, -⟩ | ⟨h1, h2⟩
  · rw [h1] at hn; exact absurd rfl hn
  · obtain ⟨h3, d, h4, h5⟩ := ha hn
    cases d with
    | zero => exact absurd h4.self hne
    | succ d =>
      obtain ⟨q, hq1, hq2, hq3, hq4⟩ := there_step hp h3 h1 h2.2 h4
      rw [h2.1] at hq1
      obtain ⟨c, hc, hcs⟩ := there_own hp h1 h2.2 t h3
      refine ⟨by rw [← hcs]; exact srv_okP (book_s hc), by omega, q, hq1, hq2, (mem_jn.1 hq4).1, (mem_jn.1 hq4).2, fun _ => ⟨hq2, d, hq3, by omega⟩, fun k x hk hx => ?_⟩
      obtain ⟨hx1, hx2⟩ := hx.some hk hq2 rfl
      exact there_one hp h1 h2.2 hx1 hq2 hx2
end Go.Proofs.Ytikmdkicccfjpaa
namespace Go.Proofs.Ytikmdkicccfjpaa
open Go.RowKit
theorem stp_seq {k : Nat} {c a : Advert} (h : 1 ≤ c.seq) : 1 ≤ (stp k c a).seq := by
  unfold stp; split
  · rename_i h2; exact (Advert.may_iff.1 h2.1).2.1.1
  · exact h
theorem best_some {l : List Advert} {i : Nat} {x : Advert} (h : l[i]? = some x) (hm : x.may = true) {k : Nat} (hk : x.server.node = (k : Int)) : ∀ n, i < n → 1 ≤ (best l n k).seq := by
  intro n hn
  induction n with
  | zero => omega
  | succ n ih =>
    rcases Nat.lt_or_ge n l.length with hl | hl
    · have e := List.getElem?_eq_getElem hl
      rw [best_succ e]
      rcases Nat.lt_or_ge i n with h1 | h1
      · exact stp_seq (ih h1)
      · obtain rfl : i = n := by omega
        rw [h] at e; cases e
        unfold stp; split
        · exact (Advert.may_iff.1 hm).2.1.1
        · rename_i hc
          rcases Nat.eq_zero_or_pos (best l i k).seq with h0 | h0
          · exact absurd ⟨hm, hk, Or.inl h0⟩ hc
          · exact h0
    · have : best l (n + 1) k = best l n k := by rw [best, best, List.take_of_length_le (by omega), List.take_of_length_le hl]
      rw [this]; exact ih (by have := (List.getElem?_eq_some_iff.1 h).1; omega)
theorem mem_bookTo {l : List Advert} {x : Advert} : ∀ {k : Nat}, x ∈ bookTo l k ↔ ∃ j, j < k ∧ best l l.length j = x ∧ 0 < x.seq
  | 0 => by simp [bookTo]
  | k + 1 => by
    rw [bookTo, List.mem_append, mem_bookTo (k := k)]
    constructor
    · rintro (⟨j, h1, h2, h3⟩ | h)
      · exact ⟨j, by omega, h2, h3⟩
      · split at h
        · rw [List.mem_singleton] at h; subst h; exact ⟨k, by omega, rfl, by assumption⟩
        · cases h
    · rintro ⟨j, h1, h2, h3⟩
      rcases Nat.lt_or_ge j k with h | h
      · exact Or.inl ⟨j, h, h2, h3⟩
      · obtain rfl : j = k := by omega
        right; rw [if_pos (by rw [h2]; exact h3), h2]; exact List.mem_singleton.2 rfl
theorem mem_book {l : List Advert} {x : Advert} {k : Nat} (hk : k < 5) (h : best l l.length k = x) (hx : 0 < x.seq) : x ∈ book l := mem_bookTo.2 ⟨k, hk, h, hx⟩
theorem best_book {b : List Advert} (g : Book b) {x : Advert} (hx : x ∈ b) : best b b.length x.server.node.toNat = x := by
  obtain ⟨i, hi, e⟩ := List.getElem_of_mem hx
  have hm := g.may x hx
  obtain ⟨h1, h2, h3⟩ := may_node hm
  have hs := best_some (i := i) (x := x) (by rw [List.getElem?_eq_getElem hi, e]) hm (k := x.server.node.toNat) h1.symm b.length hi
  rcases best_or b x.server.node.toNat b.length with h | ⟨h4, -, h5⟩
  · rw [h] at hs; exact absurd hs (by decide)
  · obtain ⟨j, hj, ej⟩ := List.getElem_of_mem h4
    rw [← ej] at h5 ⊢
    rw [← e]
    have up := List.pairwise_iff_getElem.1 g.up
    rcases Nat.lt_trichotomy i j with h | rfl | h
    · have := up i j hi hj h; rw [e] at this; omega
    · rfl
    · have := up j i hj hi h; rw [e] at this; omega
theorem book_in {b : List Advert} (g : Book b) {x : Advert} (hx : x ∈ b) : x ∈ book b := by
  obtain ⟨h1, h2, h3⟩ := may_node (g.may x hx)
  exact mem_book h2 (best_book g hx) (by have := (Advert.may_iff.1 (g.may x hx)).2.1.1; omega)
theorem best_snoc (l : List Advert) (a : Advert) (k : Nat) : best (l ++ [a]) (l ++ [a]).length k = stp k (best l l.length k) a := by
  have h : (l ++ [a])[l.length]? = some a := by simp
  rw [List.length_append, show l.length + [a].length = l.length + 1 from rfl, best_succ h]
  congr 1
  unfold best
  rw [List.take_append_of_le_length (Nat.le_refl _)]
theorem take_other {l : List Advert} {a x : Advert} (hx : x ∈ book l) (hn : x.server.node ≠ a.server.node) : x ∈ takeG l a := by
  have g := book_good l
  obtain ⟨h1, h2, h3⟩ := may_node (g.may x hx)
  refine mem_book h2 ?_ (by have := (Advert.may_iff.1 (g.may x hx)).2.1.1; omega)
  rw [best_snoc, best_book g hx, stp, if_neg]
  rintro ⟨-, e, -⟩
  exact hn (by omega)
theorem take_new {l : List Advert} {a x : Advert} (hm : a.may = true) (hx : x ∈ book l) (hs : x.server = a.server) (hq : x.seq < a.seq) : a ∈ takeG l a := by
  have g := book_good l
  obtain ⟨h1, h2, h3⟩ := may_node (g.may x hx)
  have h1' := (may_node hm).1
  refine mem_book h2 ?_ (by omega)
  rw [best_snoc, best_book g hx, stp, if_pos]
  refine ⟨hm, by rw [hs]; exact h1'.symm, Or.inr ?_⟩
  unfold newer; exact decide_eq_true (Or.inr ⟨by rw [hs], hq⟩)
def Sup (b c : List Advert) : Prop := ∀ x ∈ b, ∃ y ∈ c, y.server = x.server ∧ ∀ q ∈ x.peers, q ∈ y.peers
theorem Sup.trans {a b c : List Advert} (h : Sup a b) (k : Sup b c) : Sup a c := fun x hx => by
  obtain ⟨y, hy, h1, h2⟩ := h x hx
  obtain ⟨z, hz, h3, h4⟩ := k y hy
  exact ⟨z, hz, h3.trans h1, fun q hq => h4 q (h2 q hq)⟩
theorem Sup.again {b : List Advert} (g : Book b) : Sup b (book b) := fun x hx => ⟨x, book_in g hx, rfl, fun _ h => h⟩
theorem book_uniq {b : List Advert} (g : Book b) {x y : Advert} (hx : x ∈ b) (hy : y ∈ b) (e : x.server.node = y.server.node) : x = y := by
  have h1 := best_book g hx
  have h2 := best_book g hy
  rw [e, h2] at h1; exact h1.symm
theorem Sup.take {l : List Advert} {a x : Advert} (hm : a.may = true) (hx : x ∈ book l) (hs : x.server = a.server) (hq : x.seq < a.seq) (hp : ∀ q ∈ x.peers, q ∈ a.peers) : Sup (book l) (takeG l a) := fun y hy => by
  by_cases e : y.server.node = a.server.node
  · obtain rfl := book_uniq (book_good l) hy hx (by rw [e, hs])
    exact ⟨a, take_new hm hx hs hq, hs.symm, hp⟩
  · exact ⟨y, take_other hy e, rfl, fun _ h => h⟩
theorem peers_iff {b : List Advert} (g : Book b) {p q : Proc} : q ∈ peersOf b p ↔ ∃ x ∈ b, x.server = p ∧ q ∈ x.peers := by
  refine ⟨peersOf_mem, ?_⟩
  rintro ⟨x, hx, rfl, hq⟩
  unfold peersOf
  cases h : b.find? (fun a => decide (a.server = x.server)) with
  | none => exact absurd (List.find?_eq_none.1 h x hx) (by simp)
  | some y =>
    have hy := List.mem_of_find?_eq_some h
    have e : y.server = x.server := by simpa using List.find?_some h
    rw [book_uniq g hy hx (by rw [e])]; exact hq
theorem Sup.jn {b c : List Advert} (g : Book b) (k : Book c) (h : Sup b c) {p q : Proc} (hq : q ∈ jn b p) : q ∈ jn c p := by
  have key : ∀ {p q : Proc}, q ∈ peersOf b p → q ∈ peersOf c p := fun {p q} hq => by
    obtain ⟨x, hx, rfl, h1⟩ := (peers_iff g).1 hq
    obtain ⟨y, hy, h2, h3⟩ := h x hx
    exact (peers_iff k).2 ⟨y, hy, h2, h3 q h1⟩
  rw [mem_jn] at hq ⊢
  exact ⟨key hq.1, key hq.2⟩
end Go.Proofs.Ytikmdkicccfjpaa
namespace Go.Proofs.Ytikmdkicccfjpaa
open Go.RowKit
theorem bigB_ok {l : List Advert} (h : ∀ x ∈ l, x.peers.length ≤ 1048576) : ∀ x ∈ l, x.peers.length ≤ 9223372036854775807 := fun x hx => by have := h x hx; omega
theorem sameT (l : List Advert) (hb : l.length ≤ 9223372036854775807) (hl : ∀ x ∈ l, x.peers.length ≤ 9223372036854775807) : Con Try.prog 15 [.d (.ro 4 (adverts l)), .d (.ro 4 (adverts l))] (.v (.bool true)) := by
  have h := sameOk l l hb hl; rw [decide_eq_true rfl] at h; exact h
end Go.Proofs.Ytikmdkicccfjpaa
namespace Go.Proofs.Ytikmdkicccfjpaa
open Go.ChangeShapes Go.WideShapes Go.ChangeAt Go.RowKit
section
variable {w : World}
theorem rdb_procs : Rdb Try.prog w 1048576 31 (fun l : List Proc => [.ro 2 (procs l)]) fun l => l.length ≤ 1048575 ∧ ∀ p ∈ l, p.okP := Rdb.slice Try.underlying31 (by kernel_rfl) rd_proc.b
theorem rdb_advert : Rdb Try.prog w 1048576 33 Advert.row fun a => a.peers.length ≤ 1048576 ∧ a.server.okP := ((Rdb.three Try.underlying33 rfl rfl rfl (k0 := 2) (k1 := 1) (k2 := 1) (by kernel_rfl) (by kernel_rfl) (by kernel_rfl) (by kernel_rfl) rd_proc.b (Rd.u64 Try.underlying28).b rdb_procs).map fun x => Advert.mk x.1 x.2.1 x.2.2) (fun _ => rfl) fun _ h => ⟨Nat.le_trans h.2.2.1 (by omega), h.1⟩
theorem rdb_book : Rdb Try.prog w 1048576 22 (fun l : List Advert => [.ro 4 (adverts l)]) fun l => l.length ≤ 1048575 ∧ ∀ a ∈ l, a.peers.length ≤ 1048576 ∧ a.server.okP := Rdb.slice Try.underlying22 (by kernel_rfl) rdb_advert
theorem peersB_ok {l : List Advert} (h : ∀ a ∈ l, a.peers.length ≤ 1048576 ∧ a.server.okP) : ∀ a ∈ l, a.peers.length ≤ 1048576 := fun a ha => (h a ha).1
end
end Go.Proofs.Ytikmdkicccfjpaa
namespace Go.Proofs.Ytikmdkicccfjpaa
open Go.RowKit
theorem sameO (l : List Advert) (hb : l.length ≤ 9223372036854775807) (hl : ∀ x ∈ l, x.peers.length ≤ 9223372036854775807) : Con Try.prog 15 [.d (.ro 4 (adverts l)), .d (.ro 4 (adverts l))] (.v (.bool true)) := sameT l hb hl
theorem procs_99 (qs : List Proc) (k : Nat) : List.set (procs qs) k [.z 99, .v (.int .u64 0)] = procs (qs.set k ⟨99, 0⟩) := by
  show _ = List.map _ _; rw [List.map_set]; rfl
theorem advertsO_at {l : List Advert} {i : Nat} {a : Advert} (h : l[i]? = some a) : (advertsO l)[i]? = some [.v (.int .i64 a.server.node), .v (.int .u64 (a.server.inc : Int)), .v (.int .u64 (a.seq : Int)), .em 30 2 (procs a.peers)] := by simp [advertsO, h, Advert.rowO]
set_option maxRecDepth 100000 in
theorem ofLaw (l : List Advert) (hb : l.length ≤ 1048576) (hl : ∀ x ∈ l, x.peers.length ≤ 1048576) : Con Try.prog 3 [.d (.ro 4 (adverts l))] (.v (.bool true)) := by
  refine Con.intro (by kernel_rfl) rfl rfl 49 rfl rfl fun w0 K ac hK r => ?_
  cases h0 : (longB l) with
  | false =>
    refine toAt (todo' := aft Try.f3 3) (E' := [(0, .d (.ro 4 (adverts l))), (2, .d (.v (.bool false))), (3, .sl 0 ((advertsO l).length))]) (M' := [.rw 33 4 (advertsO l)]) tb_ok mixed_ok hK [(1, [(1, .con (.v (.bool false)))]), (3, [(1, .con (.em 33 4 (advertsO l)))])] 9 [0] [0, 2, 3] r (by kernel_rfl) (an ((by have k := longOk l (by omega); rw [h0] at k; exact k) : Con Try.prog 11 [.d (.ro 4 (adverts l))] (.v (.bool false))) (an (ownOk l hb hl) trivial)) fun ac wd r => ?_
    have r := r.stay (p1 := [((advertsO l).length) = (advertsO l).length]) (p2 := []) (E1 := [(0, .d (.ro 4 (adverts l))), (2, .d (.v (.bool false))), (3, .d (.ro 4 (frozR (advertsO l))))]) (M1 := [.dead]) (M2 := [.dead]) (E2 := [(0, .d (.ro 4 (adverts l))), (2, .d (.v (.bool false))), (3, .d (.ro 4 (adverts l)))]) (M3 := [.dead]) [3] [] (by kernel_rfl) (by kernel_rfl) (an (rfN ((advertsO l).length)) trivial) trivial (by simp only [froz_advertsO]) rfl
    refine toHead (todo' := hd Try.f3 0) (E' := [(0, .d (.ro 4 (adverts l))), (3, .d (.ro 4 (adverts l))), (4, .sl 0 ((advertsO (book l)).length)), (5, .z 0)]) (M' := [.rw 33 4 (advertsO (book l))]) tb_ok mixed_ok hK [(4, [(1, .con (.em 33 4 (advertsO (book l))))]), (5, [(2, .con (.ro 4 (adverts (book l)))), (3, .call [.d (.ro 4 (adverts (book l))), .d (.ro 4 (adverts (book l)))] (.v (.bool true)))])] 2000 [1] [0, 3, 4, 5] r (by kernel_rfl) (an (ofOk l (by omega) (bigB_ok hl)) (an (refOfRo l (by omega) (bigB_ok hl)) (an (sameO (book l) (by have := (book_good l).len; omega) (book_ok l)) (an ((ind_v _) : Ind (.v (.bool true))) (an (rfN (4)) (an (rfN ((advertsO (book l)).length)) (an ((by first | exact froz_advertsO _ | exact froz_adverts _) : frozR (advertsO (book l)) = adverts (book l)) (an (rfD (.ro 4 (adverts (book l)))) trivial)))))))) fun ac wd r => ?_
    refine Goes.rounds (Φ := fun (i : Nat) ac wd => ∃ rs : List (List DV), (i ≤ (book l).length ∧ rs.length = (book l).length ∧ ∀ j, i ≤ j → rs[j]? = (advertsO (book l))[j]?) ∧ RE' [] w0 K 49 [(0, .d (.ro 4 (adverts l))), (3, .d (.ro 4 (adverts l))), (4, .sl 0 ((book l).length)), (5, .n i)] [.rw 33 4 (rs)] ac wd) ((book l).length) ?_ (Nat.zero_le _) ⟨advertsO (book l), ⟨Nat.zero_le _, by simp, fun _ _ => rfl⟩, (r).cast (by simp) rfl⟩
    clear r
    rintro i hi0 again0 ac wd ⟨rs, hv0, r⟩
    obtain ⟨hi1, hrl, hrs⟩ := hv0
    have hbl := (book_good l).len
    cases h1 : (decide ((((i : Nat) : Int) : Int) < (((book l).length : Nat) : Int))) with
    | false =>
      have qh1 := of_decide_eq_false h1
      exact toRet tb_ok mixed_ok hK rfl [(8, [(3, .b false)]), (14, [(2, .con (.v (.bool true))), (4, .con (.v (.bool true)))])] 2000 r (by kernel_rfl) (an h1 (an (sameT l (by omega) (bigB_ok hl)) (an (awakeOk) trivial)))
    | true =>
      have qh1 := of_decide_eq_true h1
      obtain ⟨x, gx⟩ : ∃ x, (book l)[i]? = some x := ⟨_, List.getElem?_eq_getElem (by omega)⟩
      have hpx := Advert.few ((book_good l).may _ (List.mem_of_getElem? gx))
      refine toAt (todo' := aft Try.f3 10) (E' := [(0, .d (.ro 4 (adverts l))), (3, .d (.ro 4 (adverts l))), (4, .sl 0 ((book l).length)), (5, .n i), (19, .n i), (20, .sl 0 ((book l).length)), (21, .n ((book l).length)), (22, .d (.v (.bool true))), (6, .z 0)]) (M' := [.rw 33 4 (rs)]) tb_ok mixed_ok hK [(8, [(3, .b true)])] 9 [0] [0, 3, 4, 5, 19, 20, 21, 22, 6] r (by kernel_rfl) (an h1 trivial) fun ac wd r => ?_
      have hrow : rs[i]? = some [.z x.server.node, .u x.server.inc, .u x.seq, .em 30 2 (procs x.peers)] := by rw [hrs i (Nat.le_refl _), advertsO_at gx]
      obtain ⟨aa, cc, r⟩ := r.open' (M3 := fun aa cc => [.rw 33 4 (List.set rs i [.z x.server.node, .u x.server.inc, .u x.seq, .v (.slice aa (procs x.peers).length cc)]), .tw aa cc 30 2 (procs x.peers)]) (u := 0) (o := 3) rfl hrow rfl (fun _ _ => rfl)
      refine toHead (todo' := hd Try.f3 1) (E' := [(0, .d (.ro 4 (adverts l))), (3, .d (.ro 4 (adverts l))), (4, .sl 0 ((book l).length)), (5, .n i), (6, .n 0)]) (M' := [.rw 33 4 (List.set rs i [.z x.server.node, .u x.server.inc, .u x.seq, .v (.slice aa (procs x.peers).length cc)]), .tw aa cc 30 2 (procs x.peers)]) tb_ok mixed_ok hK [] 2000 [0, 1] [0, 3, 4, 5, 6] r (by kernel_rfl) trivial fun ac wd r => ?_
      refine Goes.rounds (Φ := fun (k : Nat) ac wd => ∃ qs : List Proc, (k ≤ x.peers.length ∧ qs.length = x.peers.length) ∧ RE' [] w0 K 49 [(0, .d (.ro 4 (adverts l))), (3, .d (.ro 4 (adverts l))), (4, .sl 0 ((book l).length)), (5, .n i), (6, .n k)] [.rw 33 4 (List.set rs i [.z x.server.node, .u x.server.inc, .u x.seq, .v (.slice aa (procs x.peers).length cc)]), .tw aa cc 30 2 (procs qs)] ac wd) (x.peers.length) ?_ (Nat.zero_le _) ⟨x.peers, ⟨Nat.zero_le _, rfl⟩, r⟩
      clear r
      rintro k hi1 again1 ac wd ⟨qs, hv1, r⟩
      obtain ⟨hk1, hql⟩ := hv1
      cases h2 : (decide ((((k : Nat) : Int) : Int) < ((x.peers.length : Nat) : Int))) with
      | false =>
        have qh2 := of_decide_eq_false h2
        exact toHead (todo' := hd Try.f3 0) tb_ok mixed_ok hK [(9, [(1, .z (((i + 1 : Nat) : Int)))]), (11, [(3, .n (i)), (5, .ix 0 [.z x.server.node, .u x.server.inc, .u x.seq, .v (.slice aa (procs x.peers).length cc)]), (6, .z (((x.peers.length : Nat) : Int))), (7, .b false)])] 2000 [0] [0, 3, 4, 5] r (by kernel_rfl) (an (rfI ((i : Nat) : Int)) (an ((by first | omega | decide | (simp; omega)) : (i) < ((book l).length)) (an ((by first | rfl | (simp; done) | (simp <;> omega)) : ((book l).length) ≤ (List.set rs i [.z x.server.node, .u x.server.inc, .u x.seq, .v (.slice aa (procs x.peers).length cc)] : List (List DV)).length) (an (List.getElem?_set_self (by omega) : (List.set rs i [.z x.server.node, .u x.server.inc, .u x.seq, .v (.slice aa (procs x.peers).length cc)])[i]? = some [.z x.server.node, .u x.server.inc, .u x.seq, .v (.slice aa (procs x.peers).length cc)]) (an ((by simp) : (((procs x.peers).length : Nat) : Int) = ((x.peers.length : Nat) : Int)) (an h2 (an ((wi (by omega)) : IntKind.i64.wrap ((((i : Nat) : Int) : Int) + 1) = ((i + 1 : Nat) : Int)) trivial))))))) fun ac wd r => again0 (by omega) ac wd ⟨(List.set rs i [.z x.server.node, .u x.server.inc, .u x.seq, .v (.slice aa (procs x.peers).length cc)]), ⟨by omega, by simp; omega, fun j hj => by rw [List.getElem?_set_ne (by omega)]; exact hrs j (by omega)⟩, r⟩
      | true =>
        have qh2 := of_decide_eq_true h2
        obtain ⟨q, gq⟩ : ∃ q, qs[k]? = some q := ⟨_, List.getElem?_eq_getElem (by omega)⟩
        exact toHead (todo' := hd Try.f3 1) (E' := [(0, .d (.ro 4 (adverts l))), (3, .d (.ro 4 (adverts l))), (4, .sl 0 ((book l).length)), (5, .n i), (6, .n (k + 1))]) (M' := [.rw 33 4 (List.set rs i [.z x.server.node, .u x.server.inc, .u x.seq, .v (.slice aa (procs x.peers).length cc)]), .tw aa cc 30 2 (List.set (procs qs) (k) [.z 99, .v (.int .u64 0)])]) tb_ok mixed_ok hK [(11, [(3, .n (i)), (5, .ix 0 [.z x.server.node, .u x.server.inc, .u x.seq, .v (.slice aa (procs x.peers).length cc)]), (6, .z (((x.peers.length : Nat) : Int))), (7, .b true)]), (12, [(1, .z (((k + 1 : Nat) : Int)))]), (13, [(2, .n (i)), (4, .ix 0 [.z x.server.node, .u x.server.inc, .u x.seq, .v (.slice aa (procs x.peers).length cc)]), (7, .n2 (k) 1), (8, .ix 0 [.z q.node, .u q.inc])])] 2000 [0, 1] [0, 3, 4, 5, 6] r (by kernel_rfl) (an (rfI ((i : Nat) : Int)) (an ((by first | omega | decide | (simp; omega)) : (i) < ((book l).length)) (an ((by first | rfl | (simp; done) | (simp <;> omega)) : ((book l).length) ≤ (List.set rs i [.z x.server.node, .u x.server.inc, .u x.seq, .v (.slice aa (procs x.peers).length cc)] : List (List DV)).length) (an (List.getElem?_set_self (by omega) : (List.set rs i [.z x.server.node, .u x.server.inc, .u x.seq, .v (.slice aa (procs x.peers).length cc)])[i]? = some [.z x.server.node, .u x.server.inc, .u x.seq, .v (.slice aa (procs x.peers).length cc)]) (an ((by simp) : (((procs x.peers).length : Nat) : Int) = ((x.peers.length : Nat) : Int)) (an h2 (an (rfI ((i : Nat) : Int)) (an ((by first | omega | decide | (simp; omega)) : (i) < ((book l).length)) (an ((by first | rfl | (simp; done) | (simp <;> omega)) : ((book l).length) ≤ (List.set rs i [.z x.server.node, .u x.server.inc, .u x.seq, .v (.slice aa (procs x.peers).length cc)] : List (List DV)).length) (an (List.getElem?_set_self (by omega) : (List.set rs i [.z x.server.node, .u x.server.inc, .u x.seq, .v (.slice aa (procs x.peers).length cc)])[i]? = some [.z x.server.node, .u x.server.inc, .u x.seq, .v (.slice aa (procs x.peers).length cc)]) (an (rfI ((k : Nat) : Int)) (an (rfl : (aa : Option Addr) = aa) (an ((by first | omega | decide | (simp; omega)) : (k) < (procs x.peers).length) (an ((by first | rfl | (simp; done) | (simp <;> omega)) : (procs x.peers).length = (procs qs).length) (an (procs_at gq) (an ((wi (by omega)) : IntKind.i64.wrap ((((k : Nat) : Int) : Int) + 1) = ((k + 1 : Nat) : Int)) trivial)))))))))))))))) fun ac wd r => again1 (by omega) ac wd ⟨(qs.set k ⟨99, 0⟩), ⟨by omega, by simp; omega⟩, r.cast rfl (by rw [procs_99])⟩
  | true =>
    exact toRet tb_ok mixed_ok hK rfl [(1, [(1, .con (.v (.bool true)))]), (2, [(0, .con (.v (.bool true)))])] 2000 r (by kernel_rfl) (an ((by have k := longOk l (by omega); rw [h0] at k; exact k) : Con Try.prog 11 [.d (.ro 4 (adverts l))] (.v (.bool true))) (an (awakeOk) trivial))
end Go.Proofs.Ytikmdkicccfjpaa
namespace Go.Proofs.Ytikmdkicccfjpaa
open Go.ChangeShapes Go.WideShapes Go.ChangeAt Go.RowKit
set_option maxRecDepth 100000 in
theorem graphOf_lifted (os : Os) (started : os.Started) (H : Type) (enc : TypeId × Value → H) (F0 : Stop.Interp) :
    ReturnsInHanded {} Try.checked os 3 .any ((Rows.OpenSpec.upto Rows.graphOfSpec).pre6 enc Try.prog Try.f3 Rows.graphOfUptoRow.domain false) (((Rows.OpenSpec.upto Rows.graphOfSpec).at F0).post enc Try.prog Try.f3 false true false false) := by
  refine returnsInHanded_of_cond (C := Try.checked) (s := Rows.OpenSpec.upto Rows.graphOfSpec) (k := Rows.uptoSmall) rfl Try.own started (by kernel_rfl) Try.func3
    (OpenSpec.witness (enc := enc) (C := Try.checked) (s := Rows.OpenSpec.upto Rows.graphOfSpec) (k := Rows.uptoSmall) rfl false ⟨#[], #[.slice none 0 0], []⟩ 8 (by kernel_rfl) (by kernel_rfl) (by kernel_rfl)
      (x := ([.nil], [], [])) (by kernel_rfl) (by kernel_rfl) (by kernel_rfl)) ?_
  intro W base args ds gs before hval0 hW _ hkk _
  have hW0 : DataW.Whole enc Try.prog Try.f3.params.toList Rows.graphOfSpec.vars false W args.toList ds gs before := hW
  have hW' := hW0
  obtain ⟨p, q, hA0, hV, rfl, hfz, hnd⟩ := hW
  have hA : DataW.TrodAll enc Try.prog W 0 (fun _ => true) true Try.f3.params.toList args.toList ds p := hA0
  have hval : ∀ (j : Nat) t v, Try.f3.params[j]? = some t → args[j]? = some v → Value.okWide Try.prog W .any base t v := hval0
  rw [Try.params3] at hA hval
  obtain ⟨v0, vs0, d0, ds0, p0, q0, hargs0, rfl, rfl, h0, r0⟩ := trodAll_cons hA
  obtain ⟨rfl, rfl, rfl⟩ := trodAll_nil r0
  obtain rfl : args = #[v0] := by cases args; simp_all
  obtain ⟨rfl, rfl⟩ := trodVars_none hV
  have hbk := of_decide_eq_true hkk
  obtain ⟨a0, n0, c0, rfl⟩ := okWide_slice (P := Try.prog) (e := 33) (by kernel_rfl) (hval 0 22 v0 rfl rfl)
  obtain ⟨l, hl, g0⟩ := rdb_book _ (TB.of h0 (Nat.le_trans (bulk_mem (by simp)) hbk))
  refine (Con.holds (w := W) (ofLaw l (by have := hl.1; omega) (peersB_ok hl.2)) (ys := [_]) rfl fun j c y e1 e2 => ?_).mono fun e W' ⟨he, hg⟩ => ?_
  · match j, e1, e2 with
    | 0, e1, e2 => simp at e1 e2; subst e1 e2; exact DRs.v g0
    | k + 1, e1, _ => simp at e1
  · subst he
    exact ⟨_, rfl, law_post Try.laidOut (by kernel_rfl) (by kernel_rfl) Try.underlying4 rfl hW' rfl hg⟩
theorem graphOf_holds : Rows.GraphOfUptoSaid :=
  OpenClaim.holds_of_cond 3 Try.f3 rfl rfl rfl rfl rfl rfl rfl ⟨rfl, rfl, rfl, rfl, rfl⟩ rfl rfl rfl rfl rfl (by kernel_rfl) Try.func3 (by kernel_rfl)
    (of_decide_eq_true (by kernel_rfl)) (by unfold Func.isWrapper; first | (rw [if_pos (by decide +kernel)]; kernel_rfl) | (rw [if_neg (by decide +kernel)]; exact ⟨rfl, rfl⟩))
    (fun os started H enc _ F0 => graphOf_lifted os started H enc F0)
end Go.Proofs.Ytikmdkicccfjpaa
