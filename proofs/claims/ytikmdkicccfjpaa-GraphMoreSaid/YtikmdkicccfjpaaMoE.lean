/-
  graphMore_holds, part 5 of 5: merged by program from the texts that it needs.
-/
import Derived.Test.YtikmdkicccfjpaaMoD
set_option linter.unusedSimpArgs false
set_option linter.unusedVariables false
set_option linter.unnecessarySimpa false
namespace Go.Proofs.Ytikmdkicccfjpaa
open Go.RowKit
abbrev moreG (l : List Advert) (a c : Advert) : List Advert := takeG (book l) (plus a c.server)
abbrev allG (l : List Advert) (a c : Advert) : List Advert := takeG (moreG l a c) (plus c a.server)
theorem takeRo (l : List Advert) (a : Advert) (hb : l.length ≤ 9223372036854775807) (hl : ∀ x ∈ l, x.peers.length ≤ 9223372036854775807) (ha : a.peers.length ≤ 9223372036854775807) : Con Try.prog 17 [.d (.ro 4 (adverts l)), .ag [.z a.server.node, .u a.server.inc, .u a.seq, .d (.ro 2 (procs a.peers))]] (.tu [.ro 4 (adverts (takeG l a)), .v (.bool (newsG l a))]) := by
  have h := (takeOk l a hb hl ha).froz
  rw [froz, frozL, frozL, frozL, froz, froz, froz_advertsO] at h; exact h
theorem withRo (a : Advert) (q : Proc) (hl : a.peers.length ≤ 1000) (hs : a.seq ≤ 4611686018427387904) : Con Try.prog 27 [.ag [.z a.server.node, .u a.server.inc, .u a.seq, .d (.ro 2 (procs a.peers))], .ag [.z q.node, .u q.inc]] (.ag [.v (.int .i64 a.server.node), .v (.int .u64 (a.server.inc : Int)), .v (.int .u64 ((a.seq + 1 : Nat) : Int)), .ro 2 (procs (withP a.peers q))]) := by
  have h := (withOk a q hl hs).froz
  rw [froz, frozL, frozL, frozL, frozL, frozL, froz, froz, froz, froz, froz_procs] at h; exact h
theorem amongYes (b : List Proc) (q : Proc) (hb : b.length ≤ 9223372036854775807) (h : decide (q ∈ b) = true) : Con Try.prog 28 [.d (.ro 2 (procs b)), .ag [.z q.node, .u q.inc]] (.v (.bool true)) := by
  have k := amongOk b q hb; rw [h] at k; exact k
theorem pick_at {l : List Advert} (i : Int) (h : 2 ≤ l.length) : ∃ a, l[pickN i l.length]? = some a := ⟨_, List.getElem?_eq_getElem (pick_lt h)⟩
theorem book_seq {l : List Advert} {a : Advert} (h : a ∈ book l) : a.seq ≤ 4611686018427387904 := by
  have := (Advert.may_iff.1 ((book_good l).may a h)).2.1; omega
theorem take_len (l : List Advert) (a : Advert) : (takeG l a).length ≤ 4 := (book_good _).len
theorem more_len (l : List Advert) (a c : Advert) : (moreG l a c).length ≤ 4 := take_len _ _
theorem all_len (l : List Advert) (a c : Advert) : (allG l a c).length ≤ 4 := take_len _ _
set_option maxRecDepth 100000 in
theorem moreLaw (l : List Advert) (iz kz : Int) (hb : l.length ≤ 9223372036854775807) (hl : ∀ x ∈ l, x.peers.length ≤ 9223372036854775807) : Con Try.prog 10 [.d (.ro 4 (adverts l)), .z iz, .z kz] (.v (.bool true)) := by
  refine Con.intro (by kernel_rfl) rfl rfl 127 rfl rfl fun w0 K ac hK r => ?_
  cases h0 : (longB l) with
  | false =>
    cases h1 : (decide (((((book l).length : Nat) : Int) : Int) < 2)) with
    | false =>
      have qh1 := of_decide_eq_false h1
      have hbl := (book_good l).len
      obtain ⟨e_a, ga⟩ := pick_at (l := book l) iz (by omega)
      obtain ⟨e_c, gc⟩ := pick_at (l := book l) kz (by omega)
      have hm_e_a := List.mem_of_getElem? ga
      have hm_e_c := List.mem_of_getElem? gc
      have v6_0 := ((by have k := longOk l hb; rw [h0] at k; exact k) : Con Try.prog 11 [.d (.ro 4 (adverts l))] (.v (.bool false)))
      have v6_1 := ((by simp) : (((adverts (book l)).length : Nat) : Int) = (((book l).length : Nat) : Int))
      have v6_2 := ((and_is _) : IntKind.i64.wrap ((BitVec.ofInt IntKind.i64.bits (iz) &&& BitVec.ofInt IntKind.i64.bits (65535)).toNat : Int) = (((andN iz) : Nat) : Int))
      have v6_3 := ((pick_is _ _) : ((((andN iz) : Nat) : Int) : Int).tmod (((book l).length : Nat) : Int) = (((pickN iz (book l).length) : Nat) : Int))
      have v6_4 := ((by omega) : ((((book l).length : Nat) : Int) : Int) ≠ 0)
      have v6_5 := (rfI (((pickN iz (book l).length) : Nat) : Int))
      have v6_6 := ((and_is _) : IntKind.i64.wrap ((BitVec.ofInt IntKind.i64.bits (kz) &&& BitVec.ofInt IntKind.i64.bits (65535)).toNat : Int) = (((andN kz) : Nat) : Int))
      have v6_7 := ((pick_is _ _) : ((((andN kz) : Nat) : Int) : Int).tmod (((book l).length : Nat) : Int) = (((pickN kz (book l).length) : Nat) : Int))
      have v6_8 := (rfI (((pickN kz (book l).length) : Nat) : Int))
      refine toDraw (todo' := aft Try.f10 6) (E' := [(6, .d (.v (.bool false))), (7, .d (.ro 4 (adverts (book l)))), (8, .pt 0 0), (9, .pt 1 0)]) (M' := [.bx 33 [.z e_a.server.node, .u e_a.server.inc, .u e_a.seq, .d (.ro 2 (procs e_a.peers))], .bx 33 [.z e_c.server.node, .u e_c.server.inc, .u e_c.seq, .d (.ro 2 (procs e_c.peers))]]) tb_ok mixed_ok hK [(1, [(1, .con (.v (.bool false)))]), (3, [(1, .con (.ro 4 (adverts (book l))))]), (4, [(1, .z ((((book l).length : Nat) : Int))), (2, .b false)]), (6, [(2, .z ((((andN iz) : Nat) : Int))), (4, .z ((((book l).length : Nat) : Int))), (5, .z ((((pickN iz (book l).length) : Nat) : Int))), (6, .ix ((pickN iz (book l).length)) [.z e_a.server.node, .u e_a.server.inc, .u e_a.seq, .ro 2 (procs e_a.peers)]), (10, .z ((((andN kz) : Nat) : Int))), (12, .z ((((book l).length : Nat) : Int))), (13, .z ((((pickN kz (book l).length) : Nat) : Int))), (14, .ix ((pickN kz (book l).length)) [.z e_c.server.node, .u e_c.server.inc, .u e_c.seq, .ro 2 (procs e_c.peers)])])] 15 2 [] [[0, 1], [1, 0]] [6, 7, 8, 9] r (by kernel_rfl) (an (an v6_0 (an (ofRo l hb hl) (an v6_1 (an h1 (an v6_2 (an v6_1 (an v6_3 (an v6_4 (an v6_5 (an (adverts_at ga) (an v6_6 (an v6_1 (an v6_7 (an v6_4 (an v6_8 (an (adverts_at gc) trivial)))))))))))))))) (an (an v6_0 (an (ofRo l hb hl) (an v6_1 (an h1 (an v6_2 (an v6_1 (an v6_3 (an v6_4 (an v6_5 (an (adverts_at ga) (an v6_6 (an v6_1 (an v6_7 (an v6_4 (an v6_8 (an (adverts_at gc) trivial)))))))))))))))) trivial)) fun ac wd r => ?_
      cases h2 : ((e_a.server.node : Int) == e_c.server.node) with
      | false =>
        have qh2 := ne_of_beq_false h2
        cases h3 : (decide ((4611686018427387904 : Int) ≤ ((e_a.seq : Nat) : Int))) with
        | false =>
          have qh3 := of_decide_eq_false h3
          cases h4 : (decide ((4611686018427387904 : Int) ≤ ((e_c.seq : Nat) : Int))) with
          | false =>
            have qh4 := of_decide_eq_false h4
            cases h5 : (newsG (book l) (plus e_a e_c.server)) with
            | false =>
              cases h6 : (newsG (moreG l e_a e_c) (plus e_c e_a.server)) with
              | false =>
                exact toRet tb_ok mixed_ok hK rfl [(7, [(6, .b false), (10, .b false), (15, .b false)]), (9, [(4, .con (.ag [.z e_a.server.node, .u e_a.server.inc, .u ((e_a.seq + 1)), .ro 2 (procs (withP e_a.peers e_c.server))])), (5, .con (.tu [.ro 4 (adverts (moreG l e_a e_c)), .v (.bool false)]))]), (10, [(4, .con (.ag [.z e_c.server.node, .u e_c.server.inc, .u ((e_c.seq + 1)), .ro 2 (procs (withP e_c.peers e_a.server))])), (5, .con (.tu [.ro 4 (adverts (allG l e_a e_c)), .v (.bool false)]))]), (12, [(0, .con (.v (.bool true)))])] 2000 r (by kernel_rfl) (an h2 (an h3 (an h4 (an (withRo e_a e_c.server (by have := Advert.few ((book_good l).may _ hm_e_a); omega) (book_seq hm_e_a) : Con Try.prog 27 [.ag [.z e_a.server.node, .u e_a.server.inc, .u e_a.seq, .d (.ro 2 (procs e_a.peers))], .ag [.z e_c.server.node, .u e_c.server.inc]] (.ag [.z e_a.server.node, .u e_a.server.inc, .u ((e_a.seq + 1)), .ro 2 (procs (withP e_a.peers e_c.server))])) (an ((by have k := takeRo (book l) (plus e_a e_c.server) (by omega) (book_ok _) (by have := withP_len (l := e_a.peers) (q := e_c.server); have := Advert.few ((book_good l).may _ hm_e_a); show (withP e_a.peers e_c.server).length ≤ _; omega); rw [h5] at k; exact k) : Con Try.prog 17 [.d (.ro 4 (adverts (book l))), .ag [.z e_a.server.node, .u e_a.server.inc, .u ((e_a.seq + 1)), .d (.ro 2 (procs (withP e_a.peers e_c.server)))]] (.tu [.ro 4 (adverts (moreG l e_a e_c)), .v (.bool false)])) (an (withRo e_c e_a.server (by have := Advert.few ((book_good l).may _ hm_e_c); omega) (book_seq hm_e_c) : Con Try.prog 27 [.ag [.z e_c.server.node, .u e_c.server.inc, .u e_c.seq, .d (.ro 2 (procs e_c.peers))], .ag [.z e_a.server.node, .u e_a.server.inc]] (.ag [.z e_c.server.node, .u e_c.server.inc, .u ((e_c.seq + 1)), .ro 2 (procs (withP e_c.peers e_a.server))])) (an ((by have k := takeRo (moreG l e_a e_c) (plus e_c e_a.server) (by have := more_len l e_a e_c; omega) (book_ok _) (by have := withP_len (l := e_c.peers) (q := e_a.server); have := Advert.few ((book_good l).may _ hm_e_c); show (withP e_c.peers e_a.server).length ≤ _; omega); rw [h6] at k; exact k) : Con Try.prog 17 [.d (.ro 4 (adverts (moreG l e_a e_c))), .ag [.z e_c.server.node, .u e_c.server.inc, .u ((e_c.seq + 1)), .d (.ro 2 (procs (withP e_c.peers e_a.server)))]] (.tu [.ro 4 (adverts (allG l e_a e_c)), .v (.bool false)])) (an (awakeOk) trivial))))))))
              | true =>
                have hmo := fun hw : newsG (book l) (plus e_a e_c.server) = true => more_sup hm_e_a hm_e_c (by omega) hw (by with_reducible assumption)
                exact toRet tb_ok mixed_ok hK rfl [(7, [(6, .b false), (10, .b false), (15, .b false)]), (9, [(4, .con (.ag [.z e_a.server.node, .u e_a.server.inc, .u ((e_a.seq + 1)), .ro 2 (procs (withP e_a.peers e_c.server))])), (5, .con (.tu [.ro 4 (adverts (moreG l e_a e_c)), .v (.bool false)]))]), (10, [(4, .con (.ag [.z e_c.server.node, .u e_c.server.inc, .u ((e_c.seq + 1)), .ro 2 (procs (withP e_c.peers e_a.server))])), (5, .con (.tu [.ro 4 (adverts (allG l e_a e_c)), .v (.bool true)]))]), (12, [(0, .con (.v (.bool true)))])] 2000 r (by kernel_rfl) (an h2 (an h3 (an h4 (an (withRo e_a e_c.server (by have := Advert.few ((book_good l).may _ hm_e_a); omega) (book_seq hm_e_a) : Con Try.prog 27 [.ag [.z e_a.server.node, .u e_a.server.inc, .u e_a.seq, .d (.ro 2 (procs e_a.peers))], .ag [.z e_c.server.node, .u e_c.server.inc]] (.ag [.z e_a.server.node, .u e_a.server.inc, .u ((e_a.seq + 1)), .ro 2 (procs (withP e_a.peers e_c.server))])) (an ((by have k := takeRo (book l) (plus e_a e_c.server) (by omega) (book_ok _) (by have := withP_len (l := e_a.peers) (q := e_c.server); have := Advert.few ((book_good l).may _ hm_e_a); show (withP e_a.peers e_c.server).length ≤ _; omega); rw [h5] at k; exact k) : Con Try.prog 17 [.d (.ro 4 (adverts (book l))), .ag [.z e_a.server.node, .u e_a.server.inc, .u ((e_a.seq + 1)), .d (.ro 2 (procs (withP e_a.peers e_c.server)))]] (.tu [.ro 4 (adverts (moreG l e_a e_c)), .v (.bool false)])) (an (withRo e_c e_a.server (by have := Advert.few ((book_good l).may _ hm_e_c); omega) (book_seq hm_e_c) : Con Try.prog 27 [.ag [.z e_c.server.node, .u e_c.server.inc, .u e_c.seq, .d (.ro 2 (procs e_c.peers))], .ag [.z e_a.server.node, .u e_a.server.inc]] (.ag [.z e_c.server.node, .u e_c.server.inc, .u ((e_c.seq + 1)), .ro 2 (procs (withP e_c.peers e_a.server))])) (an ((by have k := takeRo (moreG l e_a e_c) (plus e_c e_a.server) (by have := more_len l e_a e_c; omega) (book_ok _) (by have := withP_len (l := e_c.peers) (q := e_a.server); have := Advert.few ((book_good l).may _ hm_e_c); show (withP e_c.peers e_a.server).length ≤ _; omega); rw [h6] at k; exact k) : Con Try.prog 17 [.d (.ro 4 (adverts (moreG l e_a e_c))), .ag [.z e_c.server.node, .u e_c.server.inc, .u ((e_c.seq + 1)), .d (.ro 2 (procs (withP e_c.peers e_a.server)))]] (.tu [.ro 4 (adverts (allG l e_a e_c)), .v (.bool true)])) (an (awakeOk) trivial))))))))
            | true =>
              cases h7 : (newsG (moreG l e_a e_c) (plus e_c e_a.server)) with
              | false =>
                exact toRet tb_ok mixed_ok hK rfl [(7, [(6, .b false), (10, .b false), (15, .b false)]), (9, [(4, .con (.ag [.z e_a.server.node, .u e_a.server.inc, .u ((e_a.seq + 1)), .ro 2 (procs (withP e_a.peers e_c.server))])), (5, .con (.tu [.ro 4 (adverts (moreG l e_a e_c)), .v (.bool true)]))]), (10, [(4, .con (.ag [.z e_c.server.node, .u e_c.server.inc, .u ((e_c.seq + 1)), .ro 2 (procs (withP e_c.peers e_a.server))])), (5, .con (.tu [.ro 4 (adverts (allG l e_a e_c)), .v (.bool false)]))]), (12, [(0, .con (.v (.bool true)))])] 2000 r (by kernel_rfl) (an h2 (an h3 (an h4 (an (withRo e_a e_c.server (by have := Advert.few ((book_good l).may _ hm_e_a); omega) (book_seq hm_e_a) : Con Try.prog 27 [.ag [.z e_a.server.node, .u e_a.server.inc, .u e_a.seq, .d (.ro 2 (procs e_a.peers))], .ag [.z e_c.server.node, .u e_c.server.inc]] (.ag [.z e_a.server.node, .u e_a.server.inc, .u ((e_a.seq + 1)), .ro 2 (procs (withP e_a.peers e_c.server))])) (an ((by have k := takeRo (book l) (plus e_a e_c.server) (by omega) (book_ok _) (by have := withP_len (l := e_a.peers) (q := e_c.server); have := Advert.few ((book_good l).may _ hm_e_a); show (withP e_a.peers e_c.server).length ≤ _; omega); rw [h5] at k; exact k) : Con Try.prog 17 [.d (.ro 4 (adverts (book l))), .ag [.z e_a.server.node, .u e_a.server.inc, .u ((e_a.seq + 1)), .d (.ro 2 (procs (withP e_a.peers e_c.server)))]] (.tu [.ro 4 (adverts (moreG l e_a e_c)), .v (.bool true)])) (an (withRo e_c e_a.server (by have := Advert.few ((book_good l).may _ hm_e_c); omega) (book_seq hm_e_c) : Con Try.prog 27 [.ag [.z e_c.server.node, .u e_c.server.inc, .u e_c.seq, .d (.ro 2 (procs e_c.peers))], .ag [.z e_a.server.node, .u e_a.server.inc]] (.ag [.z e_c.server.node, .u e_c.server.inc, .u ((e_c.seq + 1)), .ro 2 (procs (withP e_c.peers e_a.server))])) (an ((by have k := takeRo (moreG l e_a e_c) (plus e_c e_a.server) (by have := more_len l e_a e_c; omega) (book_ok _) (by have := withP_len (l := e_c.peers) (q := e_a.server); have := Advert.few ((book_good l).may _ hm_e_c); show (withP e_c.peers e_a.server).length ≤ _; omega); rw [h7] at k; exact k) : Con Try.prog 17 [.d (.ro 4 (adverts (moreG l e_a e_c))), .ag [.z e_c.server.node, .u e_c.server.inc, .u ((e_c.seq + 1)), .d (.ro 2 (procs (withP e_c.peers e_a.server)))]] (.tu [.ro 4 (adverts (allG l e_a e_c)), .v (.bool false)])) (an (awakeOk) trivial))))))))
              | true =>
                have hmo := fun hw : newsG (book l) (plus e_a e_c.server) = true => more_sup hm_e_a hm_e_c (by omega) hw (by with_reducible assumption)
                refine toHead (todo' := hd Try.f10 0) (E' := [(7, .d (.ro 4 (adverts (book l)))), (8, .pt 0 0), (9, .pt 1 0), (12, .d (.ro 4 (adverts (allG l e_a e_c)))), (14, .n 0)]) (M' := [.bx 33 [.z e_a.server.node, .u e_a.server.inc, .u e_a.seq, .d (.ro 2 (procs e_a.peers))], .bx 33 [.z e_c.server.node, .u e_c.server.inc, .u e_c.seq, .d (.ro 2 (procs e_c.peers))]]) tb_ok mixed_ok hK [(7, [(6, .b false), (10, .b false), (15, .b false)]), (9, [(4, .con (.ag [.z e_a.server.node, .u e_a.server.inc, .u ((e_a.seq + 1)), .ro 2 (procs (withP e_a.peers e_c.server))])), (5, .con (.tu [.ro 4 (adverts (moreG l e_a e_c)), .v (.bool true)]))]), (10, [(4, .con (.ag [.z e_c.server.node, .u e_c.server.inc, .u ((e_c.seq + 1)), .ro 2 (procs (withP e_c.peers e_a.server))])), (5, .con (.tu [.ro 4 (adverts (allG l e_a e_c)), .v (.bool true)]))])] 2000 [0, 1] [7, 8, 9, 12, 14] r (by kernel_rfl) (an h2 (an h3 (an h4 (an (withRo e_a e_c.server (by have := Advert.few ((book_good l).may _ hm_e_a); omega) (book_seq hm_e_a) : Con Try.prog 27 [.ag [.z e_a.server.node, .u e_a.server.inc, .u e_a.seq, .d (.ro 2 (procs e_a.peers))], .ag [.z e_c.server.node, .u e_c.server.inc]] (.ag [.z e_a.server.node, .u e_a.server.inc, .u ((e_a.seq + 1)), .ro 2 (procs (withP e_a.peers e_c.server))])) (an ((by have k := takeRo (book l) (plus e_a e_c.server) (by omega) (book_ok _) (by have := withP_len (l := e_a.peers) (q := e_c.server); have := Advert.few ((book_good l).may _ hm_e_a); show (withP e_a.peers e_c.server).length ≤ _; omega); rw [h5] at k; exact k) : Con Try.prog 17 [.d (.ro 4 (adverts (book l))), .ag [.z e_a.server.node, .u e_a.server.inc, .u ((e_a.seq + 1)), .d (.ro 2 (procs (withP e_a.peers e_c.server)))]] (.tu [.ro 4 (adverts (moreG l e_a e_c)), .v (.bool true)])) (an (withRo e_c e_a.server (by have := Advert.few ((book_good l).may _ hm_e_c); omega) (book_seq hm_e_c) : Con Try.prog 27 [.ag [.z e_c.server.node, .u e_c.server.inc, .u e_c.seq, .d (.ro 2 (procs e_c.peers))], .ag [.z e_a.server.node, .u e_a.server.inc]] (.ag [.z e_c.server.node, .u e_c.server.inc, .u ((e_c.seq + 1)), .ro 2 (procs (withP e_c.peers e_a.server))])) (an ((by have k := takeRo (moreG l e_a e_c) (plus e_c e_a.server) (by have := more_len l e_a e_c; omega) (book_ok _) (by have := withP_len (l := e_c.peers) (q := e_a.server); have := Advert.few ((book_good l).may _ hm_e_c); show (withP e_c.peers e_a.server).length ≤ _; omega); rw [h7] at k; exact k) : Con Try.prog 17 [.d (.ro 4 (adverts (moreG l e_a e_c))), .ag [.z e_c.server.node, .u e_c.server.inc, .u ((e_c.seq + 1)), .d (.ro 2 (procs (withP e_c.peers e_a.server)))]] (.tu [.ro 4 (adverts (allG l e_a e_c)), .v (.bool true)])) trivial))))))) fun ac wd r => ?_
                refine Goes.rounds (Φ := fun (n : Nat) ac wd => (n ≤ (book l).length) ∧ RE' [] w0 K 127 [(7, .d (.ro 4 (adverts (book l)))), (8, .pt 0 0), (9, .pt 1 0), (12, .d (.ro 4 (adverts (allG l e_a e_c)))), (14, .n n)] [.bx 33 [.z e_a.server.node, .u e_a.server.inc, .u e_a.seq, .d (.ro 2 (procs e_a.peers))], .bx 33 [.z e_c.server.node, .u e_c.server.inc, .u e_c.seq, .d (.ro 2 (procs e_c.peers))]] ac wd) ((book l).length) ?_ (Nat.zero_le _) ⟨(Nat.zero_le _), r⟩
                clear r
                rintro n hi0 again0 ac wd ⟨hv0, r⟩
                obtain ⟨hsup, hpa, hpc⟩ := hmo (by with_reducible assumption)
                cases h8 : (decide ((((n : Nat) : Int) : Int) < (((book l).length : Nat) : Int))) with
                | false =>
                  have qh8 := of_decide_eq_false h8
                  exact toRet tb_ok mixed_ok hK rfl [(14, [(2, .z ((((book l).length : Nat) : Int))), (3, .b false)]), (23, [(3, .con (.ro 2 (procs (reachG (allG l e_a e_c) e_a.server)))), (6, .con (.v (.bool true))), (8, .con (.v (.bool true)))])] 2000 r (by kernel_rfl) (an ((by simp) : (((adverts (book l)).length : Nat) : Int) = (((book l).length : Nat) : Int)) (an h8 (an (reachOk (allG l e_a e_c) e_a.server (by have := all_len l e_a e_c; omega) (book_ok _) (srv_okP (book_s hm_e_a)) : Con Try.prog 21 [.d (.ro 4 (adverts (allG l e_a e_c))), .ag [.z e_a.server.node, .u e_a.server.inc]] (.ro 2 (procs (reachG (allG l e_a e_c) e_a.server)))) (an (amongYes (reachG (allG l e_a e_c) e_a.server) e_c.server (by have := reach_len (l := allG l e_a e_c) (srv_okP (book_s hm_e_a)); omega) (reach_both hpa hpc (book_s hm_e_a))) (an (awakeOk) trivial)))))
                | true =>
                  have qh8 := of_decide_eq_true h8
                  obtain ⟨e_s, gs⟩ : ∃ x, (book l)[n]? = some x := ⟨_, List.getElem?_eq_getElem (by omega)⟩
                  have hss := book_s (List.mem_of_getElem? gs)
                  have hrl := reach_len (l := book l) (srv_okP hss)
                  refine toHead (todo' := hd Try.f10 1) (E' := [(7, .d (.ro 4 (adverts (book l)))), (8, .pt 0 0), (9, .pt 1 0), (12, .d (.ro 4 (adverts (allG l e_a e_c)))), (14, .n n), (16, .d (.ro 2 (procs (reachG (book l) e_s.server)))), (17, .d (.ro 2 (procs (reachG (allG l e_a e_c) e_s.server)))), (18, .n 0)]) (M' := [.bx 33 [.z e_a.server.node, .u e_a.server.inc, .u e_a.seq, .d (.ro 2 (procs e_a.peers))], .bx 33 [.z e_c.server.node, .u e_c.server.inc, .u e_c.seq, .d (.ro 2 (procs e_c.peers))]]) tb_ok mixed_ok hK [(14, [(2, .z ((((book l).length : Nat) : Int))), (3, .b true)]), (16, [(2, .ix (n) [.z e_s.server.node, .u e_s.server.inc, .u e_s.seq, .ro 2 (procs e_s.peers)])]), (17, [(2, .con (.ro 2 (procs (reachG (book l) e_s.server)))), (5, .con (.ro 2 (procs (reachG (allG l e_a e_c) e_s.server))))])] 2000 [0, 1] [7, 8, 9, 12, 14, 16, 17, 18] r (by kernel_rfl) (an ((by simp) : (((adverts (book l)).length : Nat) : Int) = (((book l).length : Nat) : Int)) (an h8 (an (rfI ((n : Nat) : Int)) (an (adverts_at gs) (an (reachOk (book l) e_s.server (by omega) (book_ok _) (srv_okP hss) : Con Try.prog 21 [.d (.ro 4 (adverts (book l))), .ag [.z e_s.server.node, .u e_s.server.inc]] (.ro 2 (procs (reachG (book l) e_s.server)))) (an (reachOk (allG l e_a e_c) e_s.server (by have := all_len l e_a e_c; omega) (book_ok _) (srv_okP hss) : Con Try.prog 21 [.d (.ro 4 (adverts (allG l e_a e_c))), .ag [.z e_s.server.node, .u e_s.server.inc]] (.ro 2 (procs (reachG (allG l e_a e_c) e_s.server)))) trivial)))))) fun ac wd r => ?_
                  refine Goes.rounds (Φ := fun (j : Nat) ac wd => (j ≤ (reachG (book l) e_s.server).length) ∧ RE' [] w0 K 127 [(7, .d (.ro 4 (adverts (book l)))), (8, .pt 0 0), (9, .pt 1 0), (12, .d (.ro 4 (adverts (allG l e_a e_c)))), (14, .n n), (16, .d (.ro 2 (procs (reachG (book l) e_s.server)))), (17, .d (.ro 2 (procs (reachG (allG l e_a e_c) e_s.server)))), (18, .n j)] [.bx 33 [.z e_a.server.node, .u e_a.server.inc, .u e_a.seq, .d (.ro 2 (procs e_a.peers))], .bx 33 [.z e_c.server.node, .u e_c.server.inc, .u e_c.seq, .d (.ro 2 (procs e_c.peers))]] ac wd) ((reachG (book l) e_s.server).length) ?_ (Nat.zero_le _) ⟨(Nat.zero_le _), r⟩
                  clear r
                  rintro j hi1 again1 ac wd ⟨hv1, r⟩
                  cases h9 : (decide ((((j : Nat) : Int) : Int) < (((reachG (book l) e_s.server).length : Nat) : Int))) with
                  | false =>
                    have qh9 := of_decide_eq_false h9
                    exact toHead (todo' := hd Try.f10 0) tb_ok mixed_ok hK [(15, [(1, .z (((n + 1 : Nat) : Int)))]), (19, [(2, .z ((((reachG (book l) e_s.server).length : Nat) : Int))), (3, .b false)])] 2000 [0, 1] [7, 8, 9, 12, 14] r (by kernel_rfl) (an ((by simp) : (((procs (reachG (book l) e_s.server)).length : Nat) : Int) = (((reachG (book l) e_s.server).length : Nat) : Int)) (an h9 (an ((wi (by omega)) : IntKind.i64.wrap ((((n : Nat) : Int) : Int) + 1) = ((n + 1 : Nat) : Int)) trivial))) fun ac wd r => again0 (by omega) ac wd ⟨(by omega), r⟩
                  | true =>
                    have qh9 := of_decide_eq_true h9
                    obtain ⟨e_w, gw⟩ : ∃ x, (reachG (book l) e_s.server)[j]? = some x := ⟨_, List.getElem?_eq_getElem (by omega)⟩
                    exact toHead (todo' := hd Try.f10 1) tb_ok mixed_ok hK [(19, [(2, .z ((((reachG (book l) e_s.server).length : Nat) : Int))), (3, .b true)]), (20, [(1, .z (((j + 1 : Nat) : Int)))]), (21, [(3, .ix (j) [.z e_w.node, .u e_w.inc]), (5, .con (.v (.bool true)))])] 2000 [0, 1] [7, 8, 9, 12, 14, 16, 17, 18] r (by kernel_rfl) (an ((by simp) : (((procs (reachG (book l) e_s.server)).length : Nat) : Int) = (((reachG (book l) e_s.server).length : Nat) : Int)) (an h9 (an (rfI ((j : Nat) : Int)) (an (procs_at gw) (an (amongYes (reachG (allG l e_a e_c) e_s.server) e_w (by have := reach_len (l := allG l e_a e_c) (srv_okP hss); omega) (reach_more hsup hss (List.mem_of_getElem? gw))) (an ((wi (by omega)) : IntKind.i64.wrap ((((j : Nat) : Int) : Int) + 1) = ((j + 1 : Nat) : Int)) trivial)))))) fun ac wd r => again1 (by omega) ac wd ⟨(by omega), r⟩
          | true =>
            have qh4 := of_decide_eq_true h4
            exact toRet tb_ok mixed_ok hK rfl [(7, [(6, .b false), (10, .b false), (15, .b true)]), (8, [(0, .con (.v (.bool true)))])] 2000 r (by kernel_rfl) (an h2 (an h3 (an h4 (an (awakeOk) trivial))))
        | true =>
          have qh3 := of_decide_eq_true h3
          exact toRet tb_ok mixed_ok hK rfl [(7, [(6, .b false), (10, .b true)]), (8, [(0, .con (.v (.bool true)))])] 2000 r (by kernel_rfl) (an h2 (an h3 (an (awakeOk) trivial)))
      | true =>
        have qh2 := eq_of_beq h2
        exact toRet tb_ok mixed_ok hK rfl [(7, [(6, .b true)]), (8, [(0, .con (.v (.bool true)))])] 2000 r (by kernel_rfl) (an h2 (an (awakeOk) trivial))
    | true =>
      have qh1 := of_decide_eq_true h1
      exact toRet tb_ok mixed_ok hK rfl [(1, [(1, .con (.v (.bool false)))]), (3, [(1, .con (.ro 4 (adverts (book l))))]), (4, [(1, .z ((((book l).length : Nat) : Int))), (2, .b true)]), (5, [(0, .con (.v (.bool true)))])] 2000 r (by kernel_rfl) (an ((by have k := longOk l hb; rw [h0] at k; exact k) : Con Try.prog 11 [.d (.ro 4 (adverts l))] (.v (.bool false))) (an (ofRo l hb hl) (an ((by simp) : (((adverts (book l)).length : Nat) : Int) = (((book l).length : Nat) : Int)) (an h1 (an (awakeOk) trivial)))))
  | true =>
    exact toRet tb_ok mixed_ok hK rfl [(1, [(1, .con (.v (.bool true)))]), (2, [(0, .con (.v (.bool true)))])] 2000 r (by kernel_rfl) (an ((by have k := longOk l hb; rw [h0] at k; exact k) : Con Try.prog 11 [.d (.ro 4 (adverts l))] (.v (.bool true))) (an (awakeOk) trivial))
end Go.Proofs.Ytikmdkicccfjpaa
namespace Go.Proofs.Ytikmdkicccfjpaa
open Go.ChangeShapes Go.WideShapes Go.ChangeAt Go.RowKit
set_option maxRecDepth 100000 in
theorem graphMore_lifted (os : Os) (started : os.Started) (H : Type) (enc : TypeId × Value → H) :
    ReturnsInHanded {} Try.checked os 10 .any (Rows.graphMoreSpec.pre6 enc Try.prog Try.f10 Rows.graphMoreRow.domain false) (Rows.graphMoreSpec.post enc Try.prog Try.f10 false true false false) := by
  refine returnsInHanded_of_change (C := Try.checked) Try.own started (by kernel_rfl) Try.func10
    (ChangeSpec.witness6 (enc := enc) (C := Try.checked) false ⟨#[], #[.slice none 0 0, .int .i64 0, .int .i64 0], []⟩ 8 (by kernel_rfl) (by kernel_rfl) (by kernel_rfl) (by kernel_rfl)) ?_
  intro W base args ds gs before hval0 hW hcnd _
  have hW0 : DataW.Whole enc Try.prog Try.f10.params.toList Rows.graphMoreSpec.vars false W args.toList ds gs before := hW
  have hW' := hW0
  obtain ⟨p, q, hA0, hV, rfl, hfz, hnd⟩ := hW
  have hA : DataW.TrodAll enc Try.prog W 0 (fun _ => true) true Try.f10.params.toList args.toList ds p := hA0
  have hval : ∀ (j : Nat) t v, Try.f10.params[j]? = some t → args[j]? = some v → Value.okWide Try.prog W .any base t v := hval0
  rw [Try.params10] at hA hval
  obtain ⟨v0, vs0, d0, ds0, p0, q0, hargs0, rfl, rfl, h0, r0⟩ := trodAll_cons hA
  obtain ⟨v1, vs1, d1, ds1, p1, q1, hargs1, rfl, rfl, h1, r1⟩ := trodAll_cons r0
  subst hargs1
  obtain ⟨v2, vs2, d2, ds2, p2, q2, hargs2, rfl, rfl, h2, r2⟩ := trodAll_cons r1
  subst hargs2
  obtain ⟨rfl, rfl, rfl⟩ := trodAll_nil r2
  obtain rfl : args = #[v0, v1, v2] := by cases args; simp_all
  obtain ⟨rfl, rfl⟩ := trodVars_none hV
  obtain ⟨a0, n0, c0, rfl⟩ := okWide_slice (P := Try.prog) (e := 33) (by kernel_rfl) (hval 0 22 v0 rfl rfl)
  obtain ⟨l, hl, g0⟩ := rd_book _ (TR.of h0)
  obtain ⟨n1, rfl⟩ := okWide_int (P := Try.prog) Try.underlying3 (hval 1 3 v1 rfl rfl)
  obtain ⟨iz, hiz, g1⟩ := Rd.int' Try.underlying3 _ (TR.of h1)
  obtain ⟨n2, rfl⟩ := okWide_int (P := Try.prog) Try.underlying3 (hval 2 3 v2 rfl rfl)
  obtain ⟨kz, hkz, g2⟩ := Rd.int' Try.underlying3 _ (TR.of h2)
  refine (Con.holds (w := W) (moreLaw l iz kz hl.1 (peers_ok hl.2)) (ys := [_, _, _]) rfl fun j c y e1 e2 => ?_).mono fun e W' ⟨he, hg⟩ => ?_
  · match j, e1, e2 with
    | 0, e1, e2 => simp at e1 e2; subst e1 e2; exact DRs.v g0
    | 1, e1, e2 => simp at e1 e2; subst e1 e2; exact DRs.v g1
    | 2, e1, e2 => simp at e1 e2; subst e1 e2; exact DRs.v g2
    | k + 3, e1, _ => simp at e1
  · subst he
    exact ⟨_, rfl, law_post Try.laidOut (by kernel_rfl) (by kernel_rfl) Try.underlying4 rfl hW' rfl hg⟩
theorem graphMore_holds : Rows.GraphMoreSaid :=
  OpenClaim.holds_of_wide 10 Try.f10 rfl rfl rfl rfl rfl rfl rfl ⟨rfl, rfl, rfl, rfl, rfl⟩ rfl rfl rfl rfl rfl (by kernel_rfl) Try.func10 (by kernel_rfl)
    (of_decide_eq_true (by kernel_rfl)) (by unfold Func.isWrapper; first | (rw [if_pos (by decide +kernel)]; kernel_rfl) | (rw [if_neg (by decide +kernel)]; exact ⟨rfl, rfl⟩))
    (fun os started H enc _ => graphMore_lifted os started H enc)
end Go.Proofs.Ytikmdkicccfjpaa
