/-
  graphTakes_holds, part 5 of 5: merged by program from the texts that it needs.
-/
import Derived.Test.YtikmdkicccfjpaaTkD
set_option linter.unusedSimpArgs false
set_option linter.unusedVariables false
set_option linter.unnecessarySimpa false
namespace Go.Proofs.Ytikmdkicccfjpaa
open Go.RowKit
def dOf (ps : List (Proc × Nat)) (q : Proc) : Option Nat := (ps.find? fun x => decide (x.1 = q)).map Prod.snd
theorem dOf_mem {ps : List (Proc × Nat)} (k : Keys ps) {q : Proc} {d : Nat} : dOf ps q = some d ↔ (q, d) ∈ ps := by
 unfold dOf
 rw [Option.map_eq_some_iff]
 constructor
 ·rintro ⟨⟨q', d'⟩, h, rfl⟩
  have h1 := List.find?_some h
  simp only [decide_eq_true_eq] at h1; subst h1
  exact List.mem_of_find?_eq_some h
 ·intro h
  cases hf : ps.find? fun x => decide (x.1 = q) with
  | none => have := (List.find?_eq_none.1 hf) _ h; simp at this
  | some x =>
   have h1 := List.find?_some hf
   simp only [decide_eq_true_eq] at h1
   have := nodup_key k.one (List.mem_of_find?_eq_some hf) h (by exact h1)
   exact ⟨x, rfl, by rw [this]⟩
structure MapOf (b : List Advert) (p : Proc) (es : List (Nat × MK × DV)) : Prop where
 keys : Keys (farL b p)
 perm : (es.map fun e => e.2).Perm (farE b p)
theorem MapOf.has {b : List Advert} {p : Proc} {es : List (Nat × MK × DV)} (m : MapOf b p es) {q : Proc} (h : (dOf (farL b p) q).isSome = true) : ∃ (d j n : Nat), dOf (farL b p) q = some d ∧ es[j]? = some (n, pk q, .n d) := by
 obtain ⟨d, hd⟩ := Option.isSome_iff_exists.1 h
 have : (pk q, DV.n d) ∈ es.map fun e => e.2 := m.perm.mem_iff.2 (List.mem_map.2 ⟨_, (dOf_mem m.keys).1 hd, rfl⟩)
 obtain ⟨e, he, h2⟩ := List.mem_map.1 this
 obtain ⟨j, hj, hje⟩ := List.getElem_of_mem he
 refine ⟨d, j, e.1, hd, ?_⟩
 rw [List.getElem?_eq_getElem hj, hje]
 obtain ⟨n, k, x⟩ := e
 simp only [Prod.mk.injEq] at h2
 rw [h2.1, h2.2]
theorem MapOf.no {b : List Advert} {p : Proc} {es : List (Nat × MK × DV)} (m : MapOf b p es) {q : Proc} (h : (dOf (farL b p) q).isSome = false) : ∀ e ∈ es, e.2.1 ≠ pk q := fun e he hk => by
 obtain ⟨j, hj, hje⟩ := List.getElem_of_mem he
 obtain ⟨q', d, g1, -, g3⟩ := farE_at m.perm (j := j) (n := e.1) (k := e.2.1) (x := e.2.2) (by rw [List.getElem?_eq_getElem hj, hje])
 rw [g1] at hk
 rw [pk_inj hk] at g3
 rw [(dOf_mem m.keys).2 g3] at h; cases h
theorem MapOf.ok {b : List Advert} {p : Proc} {es : List (Nat × MK × DV)} (m : MapOf b p es) {q : Proc} (hq : q.okP) : KeysOk Try.prog 30 (pk q :: List.map (fun (e : Nat × MK × DV) => e.2.1) es) := by
 refine ⟨Try.lawP, fun k hk => ?_⟩
 rcases List.mem_cons.1 hk with rfl | hk
 ·exact good_pk hq
 ·obtain ⟨e, he, rfl⟩ := List.mem_map.1 hk
  obtain ⟨j, hj, hje⟩ := List.getElem_of_mem he
  obtain ⟨q', d, g1, -, g3⟩ := farE_at m.perm (j := j) (n := e.1) (k := e.2.1) (x := e.2.2) (by rw [List.getElem?_eq_getElem hj, hje])
  rw [g1]; exact good_pk (m.keys.ok _ g3)
theorem MapOf.one {b : List Advert} {p : Proc} {es : List (Nat × MK × DV)} (m : MapOf b p es) : (List.map (fun (e : Nat × MK × DV) => e.2.1) es).Nodup := farE_key m.perm m.keys
noncomputable def hit (b : List Advert) (t : Proc) (s : Nat) (q : Proc) : Bool := decide (dOf (farL b t) q = some (s - 1))
theorem hit_no {b : List Advert} {t : Proc} {s : Nat} {q : Proc} (h : (dOf (farL b t) q).isSome = false) : hit b t s q = false := by unfold hit; apply decide_eq_false; intro e; rw [e] at h; cases h
theorem hit_is {b : List Advert} {t : Proc} {s d : Nat} {q : Proc} (h : dOf (farL b t) q = some d) {c : Bool} (hc : (((d : Nat) : Int) == ((s - 1 : Nat) : Int)) = c) : hit b t s q = c := by
 unfold hit; rw [h, ← hc, Bool.eq_iff_iff, decide_eq_true_iff, beq_iff_eq, Option.some.injEq]; omega
def NoHit (b : List Advert) (t : Proc) (s : Nat) (l : List Proc) : Prop := ∀ x ∈ l, hit b t s x = false
theorem NoHit.more {b : List Advert} {t : Proc} {s : Nat} {l : List Proc} {q : Proc} (h : NoHit b t s l) (hq : hit b t s q = false) : NoHit b t s (l ++ [q]) := fun x hx => by
 rcases List.mem_append.1 hx with hx | hx
 ·exact h x hx
 ·rw [List.mem_singleton] at hx; subst hx; exact hq
theorem jnTo_sub {b : List Advert} {p : Proc} {i : Nat} : ∃ r, jn b p = jnTo b p i ++ r := by
 refine ⟨((peersOf b p).drop i).filter fun q => decide (p ∈ peersOf b q), ?_⟩
 rw [jnTo, ← List.filter_append, List.take_append_drop]; rfl
theorem NoHit.find {b : List Advert} {t p q : Proc} {s i : Nat} (h : NoHit b t s (jnTo b p i)) (hp : (peersOf b p)[i]? = some q) (hj : decide (p ∈ peersOf b q) = true) (hq : hit b t s q = true) : (jn b p).find? (hit b t s) = some q := by
 obtain ⟨r, hr⟩ := jnTo_sub (b := b) (p := p) (i := i + 1)
 rw [hr, jnTo_yes hp hj, List.append_assoc, List.find?_append, List.find?_eq_none.2 (fun x hx => by rw [h x hx]; decide), Option.none_or]
 simp [hq]
theorem NoHit.none {b : List Advert} {t p : Proc} {s i : Nat} (h : NoHit b t s (jnTo b p i)) (hi : (peersOf b p).length ≤ i) : (jn b p).find? (hit b t s) = none := by
 rw [List.find?_eq_none]; intro x hx; rw [← jnTo_all hi] at hx; rw [h x hx]; decide
theorem srt_okQ {b : List Advert} (g : Book b) {p q : Proc} {i : Nat} (h : (peersOf b p)[i]? = some q) : q.okP := srv_okP (g.peer (List.mem_of_getElem? h))
set_option maxRecDepth 100000 in
theorem nextYes (b : List Advert) (p t : Proc) (es : List (Nat × MK × DV)) (s : Nat) (g : Book b) (mo : MapOf b t es) (hs : 1 ≤ s) (hs9 : s < 1000000) (q0 : Proc) (hf : (jn b p).find? (hit b t s) = some q0) : ConM Try.prog 57 [.yl 7, .pt 0 0, .pt 1 0] [.bx 22 [.d (.ro 4 (adverts b))], .bx 30 [.z p.node, .u p.inc], .mp 57 ((farL b t).length) (es), .bx 57 [.mv 2], .bx 3 [.n s], .bx 3 [.z 0], .bx 4 [.d (.v (.bool false))], .lp .ready 23 66 [(11, .pt 3 0), (12, .pt 4 0), (6, .pt 5 0), (7, .pt 6 0)] (rfn Try.f23 0)] (.tu []) ([.bx 22 [.d (.ro 4 (adverts b))], .bx 30 [.z p.node, .u p.inc], .mp 57 ((farL b t).length) (es), .bx 57 [.mv 2], .bx 3 [.n s], .bx 3 [.z q0.node], .bx 4 [.d (.v (.bool true))], .lp .left 23 66 [(11, .pt 3 0), (12, .pt 4 0), (6, .pt 5 0), (7, .pt 6 0)] (rfn Try.f23 0)]) := by
 have hbl := g.len
 have hpl := g.few p
 refine ConM.intro (by kernel_rfl) rfl rfl 26 rfl rfl fun D w0 K bs ac wd hK (hbm : bs.m = 8) r => ?_
 refine toHeadM (todo' := hd Try.f57 0) (E' := [(0, .yl 7), (1, .pt 0 0), (2, .pt 1 0), (8, .d (.ro 2 (procs (peersOf b p)))), (9, .n ((peersOf b p).length)), (10, .n 0)]) (M' := [.bx 22 [.d (.ro 4 (adverts b))], .bx 30 [.z p.node, .u p.inc], .mp 57 ((farL b t).length) (es), .bx 57 [.mv 2], .bx 3 [.n s], .bx 3 [.z 0], .bx 4 [.d (.v (.bool false))], .lp .ready 23 66 [(11, .pt 3 0), (12, .pt 4 0), (6, .pt 5 0), (7, .pt 6 0)] (rfn Try.f23 0)]) tk tq hK hbm [(0, [(2, .con (.ro 2 (procs (peersOf b p)))), (3, .z ((((peersOf b p).length : Nat) : Int)))])] 2000 [0, 1, 2, 3, 4, 5, 6, 7] [0, 1, 2, 8, 9, 10] r (by kernel_rfl) (an (peersOk b p (by omega)) (an ((by simp) : (((procs (peersOf b p)).length : Nat) : Int) = (((peersOf b p).length : Nat) : Int)) trivial)) fun ac wd r => ?_
 refine Goes.rounds (Φ := fun (i : Nat) ac wd => (i ≤ (peersOf b p).length ∧ NoHit b t s (jnTo b p i)) ∧ RB D w0 K 26 bs [(0, .yl 7), (1, .pt 0 0), (2, .pt 1 0), (8, .d (.ro 2 (procs (peersOf b p)))), (9, .n ((peersOf b p).length)), (10, .n i)] [.bx 22 [.d (.ro 4 (adverts b))], .bx 30 [.z p.node, .u p.inc], .mp 57 ((farL b t).length) (es), .bx 57 [.mv 2], .bx 3 [.n s], .bx 3 [.z 0], .bx 4 [.d (.v (.bool false))], .lp .ready 23 66 [(11, .pt 3 0), (12, .pt 4 0), (6, .pt 5 0), (7, .pt 6 0)] (rfn Try.f23 0)] ac wd) ((peersOf b p).length) ?_ (Nat.zero_le _) ⟨⟨Nat.zero_le _, by simp [NoHit, jnTo]⟩, r⟩
 clear r
 rintro i hi0 again0 ac wd ⟨hv0, r⟩
 obtain ⟨hi1, hv0⟩ := hv0
 cases h0 : (decide ((((i : Nat) : Int) : Int) < (((peersOf b p).length : Nat) : Int))) with
 | false =>
  have qh0 := of_decide_eq_false h0
  exact absurd (hv0.none (by omega)) (by rw [hf]; simp)
 | true =>
  have qh0 := of_decide_eq_true h0
  obtain ⟨q, gq⟩ : ∃ x, (peersOf b p)[i]? = some x := ⟨_, List.getElem?_eq_getElem (by omega)⟩
  cases h1 : (decide (p ∈ peersOf b q)) with
  | false =>
   have qh1 := of_decide_eq_false h1
   exact toHeadM (todo' := hd Try.f57 0) tk tq hK hbm [(1, [(0, .b true)]), (2, [(0, .ix (i) [.z q.node, .u q.inc])]), (3, [(2, .con (.ro 2 (procs (peersOf b q)))), (4, .con (.v (.bool false)))]), (4, [(0, .z (((i + 1 : Nat) : Int)))])] 2000 [0, 1, 2, 3, 4, 5, 6, 7] [0, 1, 2, 8, 9, 10] r (by kernel_rfl) (an h0 (an (rfI ((i : Nat) : Int)) (an (procs_at gq) (an (peersOk b q (by omega)) (an ((by have k := procHas (peersOf b q) p (by have := g.few q; omega); rw [h1] at k; exact k) : Con Try.prog 59 [.d (.ro 2 (procs (peersOf b q))), .ag [.z p.node, .u p.inc]] (.v (.bool false))) (an ((wi (by omega)) : IntKind.i64.wrap ((((i : Nat) : Int) : Int) + 1) = ((i + 1 : Nat) : Int)) trivial)))))) fun ac wd r => again0 (by omega) ac wd ⟨⟨by omega, by first | (rw [jnTo_no gq (by assumption)]; exact hv0) | (rw [jnTo_yes gq (by assumption)]; exact hv0.more (by first | exact hit_no (by assumption) | exact hit_is hdd (by assumption)))⟩, r⟩
  | true =>
   have qh1 := of_decide_eq_true h1
   have u0 := ((by have k := procHas (peersOf b q) p (by have := g.few q; omega); rw [h1] at k; exact k) : Con Try.prog 59 [.d (.ro 2 (procs (peersOf b q))), .ag [.z p.node, .u p.inc]] (.v (.bool true)))
   cases h2 : ((dOf (farL b t) q).isSome) with
   | false =>
    exact toHeadM (todo' := hd Try.f57 0) tk tq hK hbm [(1, [(0, .b true)]), (2, [(0, .ix (i) [.z q.node, .u q.inc])]), (3, [(2, .con (.ro 2 (procs (peersOf b q)))), (4, .con (.v (.bool true))), (8, .into 200 [(14, [(2, .b false)])])]), (4, [(0, .z (((i + 1 : Nat) : Int)))])] 2000 [0, 1, 2, 3, 4, 5, 6, 7] [0, 1, 2, 8, 9, 10] r (by kernel_rfl) (an h0 (an (rfI ((i : Nat) : Int)) (an (procs_at gq) (an (peersOk b q (by omega)) (an u0 (an ((mo.ok (srt_okQ g gq)) : KeysOk Try.prog 30 ((.a [(.i64, (q.node : Int)), (.u64, (((q.inc : Nat) : Int) : Int))]) :: List.map (fun (e : Nat × MK × DV) => e.2.1) (es))) (an (zeroInt : ZeroIs Try.prog 3 (.int .i64 0)) (an ((mo.no (by assumption)) : ∀ zz ∈ (es : List (Nat × MK × DV)), zz.2.1 ≠ .a [(.i64, (q.node : Int)), (.u64, (((q.inc : Nat) : Int) : Int))]) (an ((wi (by omega)) : IntKind.i64.wrap ((((i : Nat) : Int) : Int) + 1) = ((i + 1 : Nat) : Int)) trivial))))))))) fun ac wd r => again0 (by omega) ac wd ⟨⟨by omega, by first | (rw [jnTo_no gq (by assumption)]; exact hv0) | (rw [jnTo_yes gq (by assumption)]; exact hv0.more (by first | exact hit_no (by assumption) | exact hit_is hdd (by assumption)))⟩, r⟩
   | true =>
    obtain ⟨d, j0, n0, hdd, gj⟩ := mo.has (by assumption)
    have u1 := ((mo.ok (srt_okQ g gq)) : KeysOk Try.prog 30 ((.a [(.i64, (q.node : Int)), (.u64, (((q.inc : Nat) : Int) : Int))]) :: List.map (fun (e : Nat × MK × DV) => e.2.1) (es)))
    have u2 := (rfl : (.a [(.i64, (q.node : Int)), (.u64, (((q.inc : Nat) : Int) : Int))] : MK) = .a [(.i64, (q.node : Int)), (.u64, (((q.inc : Nat) : Int) : Int))])
    have u3 := (⟨_, gj⟩ : ∃ b0, (es : List (Nat × MK × DV))[j0]? = some (b0, .a [(.i64, (q.node : Int)), (.u64, (((q.inc : Nat) : Int) : Int))], .n d))
    have u4 := ((wi (by omega)) : IntKind.i64.wrap ((((s : Nat) : Int) : Int) - 1) = ((s - 1 : Nat) : Int))
    cases h3 : ((((d : Nat) : Int) : Int) == ((s - 1 : Nat) : Int)) with
    | false =>
     have qh3 := ne_of_beq_false h3
     exact toHeadM (todo' := hd Try.f57 0) tk tq hK hbm [(1, [(0, .b true)]), (2, [(0, .ix (i) [.z q.node, .u q.inc])]), (3, [(2, .con (.ro 2 (procs (peersOf b q)))), (4, .con (.v (.bool true))), (8, .into 200 [(14, [(2, .mk (j0) (.a [(.i64, (q.node : Int)), (.u64, (((q.inc : Nat) : Int) : Int))]) (.n d))]), (15, [(4, .z (((s - 1 : Nat) : Int))), (5, .b false)])])]), (4, [(0, .z (((i + 1 : Nat) : Int)))])] 2000 [0, 1, 2, 3, 4, 5, 6, 7] [0, 1, 2, 8, 9, 10] r (by kernel_rfl) (an h0 (an (rfI ((i : Nat) : Int)) (an (procs_at gq) (an (peersOk b q (by omega)) (an u0 (an u1 (an u2 (an (mo.one : (List.map (fun (e : Nat × MK × DV) => e.2.1) (es)).Nodup) (an u3 (an u4 (an h3 (an ((wi (by omega)) : IntKind.i64.wrap ((((i : Nat) : Int) : Int) + 1) = ((i + 1 : Nat) : Int)) trivial)))))))))))) fun ac wd r => again0 (by omega) ac wd ⟨⟨by omega, by first | (rw [jnTo_no gq (by assumption)]; exact hv0) | (rw [jnTo_yes gq (by assumption)]; exact hv0.more (by first | exact hit_no (by assumption) | exact hit_is hdd (by assumption)))⟩, r⟩
    | true =>
     have qh3 := eq_of_beq h3
     refine castM (y := .tu []) (N' := [.bx 22 [.d (.ro 4 (adverts b))], .bx 30 [.z p.node, .u p.inc], .mp 57 ((farL b t).length) (es), .bx 57 [.mv 2], .bx 3 [.n s], .bx 3 [.z q.node], .bx 4 [.d (.v (.bool true))], .lp .left 23 66 [(11, .pt 3 0), (12, .pt 4 0), (6, .pt 5 0), (7, .pt 6 0)] (rfn Try.f23 0)]) (rfl) ((by have hqq := (hv0.find gq (by assumption) (hit_is hdd (by assumption))).symm.trans hf; cases hqq; rfl)) ?_
     exact toRetM tk tq hK rfl hbm [(1, [(0, .b true)]), (2, [(0, .ix (i) [.z q.node, .u q.inc])]), (3, [(2, .con (.ro 2 (procs (peersOf b q)))), (4, .con (.v (.bool true))), (8, .into 200 [(14, [(2, .mk (j0) (.a [(.i64, (q.node : Int)), (.u64, (((q.inc : Nat) : Int) : Int))]) (.n d))]), (15, [(4, .z (((s - 1 : Nat) : Int))), (5, .b true)])])])] 2000 [0, 1, 2, 3, 4, 5, 6, 7] r (by kernel_rfl) (an h0 (an (rfI ((i : Nat) : Int)) (an (procs_at gq) (an (peersOk b q (by omega)) (an u0 (an u1 (an u2 (an (mo.one : (List.map (fun (e : Nat × MK × DV) => e.2.1) (es)).Nodup) (an u3 (an u4 (an h3 trivial)))))))))))
set_option maxRecDepth 100000 in
theorem nextNo (b : List Advert) (p t : Proc) (es : List (Nat × MK × DV)) (s : Nat) (g : Book b) (mo : MapOf b t es) (hs : 1 ≤ s) (hs9 : s < 1000000) (hf : (jn b p).find? (hit b t s) = none) : ConM Try.prog 57 [.yl 7, .pt 0 0, .pt 1 0] [.bx 22 [.d (.ro 4 (adverts b))], .bx 30 [.z p.node, .u p.inc], .mp 57 ((farL b t).length) (es), .bx 57 [.mv 2], .bx 3 [.n s], .bx 3 [.z 0], .bx 4 [.d (.v (.bool false))], .lp .ready 23 66 [(11, .pt 3 0), (12, .pt 4 0), (6, .pt 5 0), (7, .pt 6 0)] (rfn Try.f23 0)] (.tu []) ([.bx 22 [.d (.ro 4 (adverts b))], .bx 30 [.z p.node, .u p.inc], .mp 57 ((farL b t).length) (es), .bx 57 [.mv 2], .bx 3 [.n s], .bx 3 [.z 0], .bx 4 [.d (.v (.bool false))], .lp .ready 23 66 [(11, .pt 3 0), (12, .pt 4 0), (6, .pt 5 0), (7, .pt 6 0)] (rfn Try.f23 0)]) := by
 have hbl := g.len
 have hpl := g.few p
 refine ConM.intro (by kernel_rfl) rfl rfl 26 rfl rfl fun D w0 K bs ac wd hK (hbm : bs.m = 8) r => ?_
 refine toHeadM (todo' := hd Try.f57 0) (E' := [(0, .yl 7), (1, .pt 0 0), (2, .pt 1 0), (8, .d (.ro 2 (procs (peersOf b p)))), (9, .n ((peersOf b p).length)), (10, .n 0)]) (M' := [.bx 22 [.d (.ro 4 (adverts b))], .bx 30 [.z p.node, .u p.inc], .mp 57 ((farL b t).length) (es), .bx 57 [.mv 2], .bx 3 [.n s], .bx 3 [.z 0], .bx 4 [.d (.v (.bool false))], .lp .ready 23 66 [(11, .pt 3 0), (12, .pt 4 0), (6, .pt 5 0), (7, .pt 6 0)] (rfn Try.f23 0)]) tk tq hK hbm [(0, [(2, .con (.ro 2 (procs (peersOf b p)))), (3, .z ((((peersOf b p).length : Nat) : Int)))])] 2000 [0, 1, 2, 3, 4, 5, 6, 7] [0, 1, 2, 8, 9, 10] r (by kernel_rfl) (an (peersOk b p (by omega)) (an ((by simp) : (((procs (peersOf b p)).length : Nat) : Int) = (((peersOf b p).length : Nat) : Int)) trivial)) fun ac wd r => ?_
 refine Goes.rounds (Φ := fun (i : Nat) ac wd => (i ≤ (peersOf b p).length ∧ NoHit b t s (jnTo b p i)) ∧ RB D w0 K 26 bs [(0, .yl 7), (1, .pt 0 0), (2, .pt 1 0), (8, .d (.ro 2 (procs (peersOf b p)))), (9, .n ((peersOf b p).length)), (10, .n i)] [.bx 22 [.d (.ro 4 (adverts b))], .bx 30 [.z p.node, .u p.inc], .mp 57 ((farL b t).length) (es), .bx 57 [.mv 2], .bx 3 [.n s], .bx 3 [.z 0], .bx 4 [.d (.v (.bool false))], .lp .ready 23 66 [(11, .pt 3 0), (12, .pt 4 0), (6, .pt 5 0), (7, .pt 6 0)] (rfn Try.f23 0)] ac wd) ((peersOf b p).length) ?_ (Nat.zero_le _) ⟨⟨Nat.zero_le _, by simp [NoHit, jnTo]⟩, r⟩
 clear r
 rintro i hi0 again0 ac wd ⟨hv0, r⟩
 obtain ⟨hi1, hv0⟩ := hv0
 cases h0 : (decide ((((i : Nat) : Int) : Int) < (((peersOf b p).length : Nat) : Int))) with
 | false =>
  have qh0 := of_decide_eq_false h0
  refine castM (y := .tu []) (N' := [.bx 22 [.d (.ro 4 (adverts b))], .bx 30 [.z p.node, .u p.inc], .mp 57 ((farL b t).length) (es), .bx 57 [.mv 2], .bx 3 [.n s], .bx 3 [.z 0], .bx 4 [.d (.v (.bool false))], .lp .ready 23 66 [(11, .pt 3 0), (12, .pt 4 0), (6, .pt 5 0), (7, .pt 6 0)] (rfn Try.f23 0)]) (rfl) (rfl) ?_
  exact toRetM tk tq hK rfl hbm [(1, [(0, .b false)])] 2000 [0, 1, 2, 3, 4, 5, 6, 7] r (by kernel_rfl) (an h0 trivial)
 | true =>
  have qh0 := of_decide_eq_true h0
  obtain ⟨q, gq⟩ : ∃ x, (peersOf b p)[i]? = some x := ⟨_, List.getElem?_eq_getElem (by omega)⟩
  cases h1 : (decide (p ∈ peersOf b q)) with
  | false =>
   have qh1 := of_decide_eq_false h1
   exact toHeadM (todo' := hd Try.f57 0) tk tq hK hbm [(1, [(0, .b true)]), (2, [(0, .ix (i) [.z q.node, .u q.inc])]), (3, [(2, .con (.ro 2 (procs (peersOf b q)))), (4, .con (.v (.bool false)))]), (4, [(0, .z (((i + 1 : Nat) : Int)))])] 2000 [0, 1, 2, 3, 4, 5, 6, 7] [0, 1, 2, 8, 9, 10] r (by kernel_rfl) (an h0 (an (rfI ((i : Nat) : Int)) (an (procs_at gq) (an (peersOk b q (by omega)) (an ((by have k := procHas (peersOf b q) p (by have := g.few q; omega); rw [h1] at k; exact k) : Con Try.prog 59 [.d (.ro 2 (procs (peersOf b q))), .ag [.z p.node, .u p.inc]] (.v (.bool false))) (an ((wi (by omega)) : IntKind.i64.wrap ((((i : Nat) : Int) : Int) + 1) = ((i + 1 : Nat) : Int)) trivial)))))) fun ac wd r => again0 (by omega) ac wd ⟨⟨by omega, by first | (rw [jnTo_no gq (by assumption)]; exact hv0) | (rw [jnTo_yes gq (by assumption)]; exact hv0.more (by first | exact hit_no (by assumption) | exact hit_is hdd (by assumption)))⟩, r⟩
  | true =>
   have qh1 := of_decide_eq_true h1
   have u0 := ((by have k := procHas (peersOf b q) p (by have := g.few q; omega); rw [h1] at k; exact k) : Con Try.prog 59 [.d (.ro 2 (procs (peersOf b q))), .ag [.z p.node, .u p.inc]] (.v (.bool true)))
   cases h2 : ((dOf (farL b t) q).isSome) with
   | false =>
    exact toHeadM (todo' := hd Try.f57 0) tk tq hK hbm [(1, [(0, .b true)]), (2, [(0, .ix (i) [.z q.node, .u q.inc])]), (3, [(2, .con (.ro 2 (procs (peersOf b q)))), (4, .con (.v (.bool true))), (8, .into 200 [(14, [(2, .b false)])])]), (4, [(0, .z (((i + 1 : Nat) : Int)))])] 2000 [0, 1, 2, 3, 4, 5, 6, 7] [0, 1, 2, 8, 9, 10] r (by kernel_rfl) (an h0 (an (rfI ((i : Nat) : Int)) (an (procs_at gq) (an (peersOk b q (by omega)) (an u0 (an ((mo.ok (srt_okQ g gq)) : KeysOk Try.prog 30 ((.a [(.i64, (q.node : Int)), (.u64, (((q.inc : Nat) : Int) : Int))]) :: List.map (fun (e : Nat × MK × DV) => e.2.1) (es))) (an (zeroInt : ZeroIs Try.prog 3 (.int .i64 0)) (an ((mo.no (by assumption)) : ∀ zz ∈ (es : List (Nat × MK × DV)), zz.2.1 ≠ .a [(.i64, (q.node : Int)), (.u64, (((q.inc : Nat) : Int) : Int))]) (an ((wi (by omega)) : IntKind.i64.wrap ((((i : Nat) : Int) : Int) + 1) = ((i + 1 : Nat) : Int)) trivial))))))))) fun ac wd r => again0 (by omega) ac wd ⟨⟨by omega, by first | (rw [jnTo_no gq (by assumption)]; exact hv0) | (rw [jnTo_yes gq (by assumption)]; exact hv0.more (by first | exact hit_no (by assumption) | exact hit_is hdd (by assumption)))⟩, r⟩
   | true =>
    obtain ⟨d, j0, n0, hdd, gj⟩ := mo.has (by assumption)
    have u1 := ((mo.ok (srt_okQ g gq)) : KeysOk Try.prog 30 ((.a [(.i64, (q.node : Int)), (.u64, (((q.inc : Nat) : Int) : Int))]) :: List.map (fun (e : Nat × MK × DV) => e.2.1) (es)))
    have u2 := (rfl : (.a [(.i64, (q.node : Int)), (.u64, (((q.inc : Nat) : Int) : Int))] : MK) = .a [(.i64, (q.node : Int)), (.u64, (((q.inc : Nat) : Int) : Int))])
    have u3 := (⟨_, gj⟩ : ∃ b0, (es : List (Nat × MK × DV))[j0]? = some (b0, .a [(.i64, (q.node : Int)), (.u64, (((q.inc : Nat) : Int) : Int))], .n d))
    have u4 := ((wi (by omega)) : IntKind.i64.wrap ((((s : Nat) : Int) : Int) - 1) = ((s - 1 : Nat) : Int))
    cases h3 : ((((d : Nat) : Int) : Int) == ((s - 1 : Nat) : Int)) with
    | false =>
     have qh3 := ne_of_beq_false h3
     exact toHeadM (todo' := hd Try.f57 0) tk tq hK hbm [(1, [(0, .b true)]), (2, [(0, .ix (i) [.z q.node, .u q.inc])]), (3, [(2, .con (.ro 2 (procs (peersOf b q)))), (4, .con (.v (.bool true))), (8, .into 200 [(14, [(2, .mk (j0) (.a [(.i64, (q.node : Int)), (.u64, (((q.inc : Nat) : Int) : Int))]) (.n d))]), (15, [(4, .z (((s - 1 : Nat) : Int))), (5, .b false)])])]), (4, [(0, .z (((i + 1 : Nat) : Int)))])] 2000 [0, 1, 2, 3, 4, 5, 6, 7] [0, 1, 2, 8, 9, 10] r (by kernel_rfl) (an h0 (an (rfI ((i : Nat) : Int)) (an (procs_at gq) (an (peersOk b q (by omega)) (an u0 (an u1 (an u2 (an (mo.one : (List.map (fun (e : Nat × MK × DV) => e.2.1) (es)).Nodup) (an u3 (an u4 (an h3 (an ((wi (by omega)) : IntKind.i64.wrap ((((i : Nat) : Int) : Int) + 1) = ((i + 1 : Nat) : Int)) trivial)))))))))))) fun ac wd r => again0 (by omega) ac wd ⟨⟨by omega, by first | (rw [jnTo_no gq (by assumption)]; exact hv0) | (rw [jnTo_yes gq (by assumption)]; exact hv0.more (by first | exact hit_no (by assumption) | exact hit_is hdd (by assumption)))⟩, r⟩
    | true =>
     have qh3 := eq_of_beq h3
     exact absurd (hv0.find gq (by assumption) (hit_is hdd (by assumption))) (by rw [hf]; simp)
end Go.Proofs.Ytikmdkicccfjpaa
namespace Go.Proofs.Ytikmdkicccfjpaa
open Go.RowKit
open Classical in
noncomputable def nextG (l : List Advert) (p : Proc) (to : Int) : Int × Bool :=
 if to = p.node then (0, false) else match (book l).find? (fun a => decide (a.server.node = to)) with
 | none => (0, false)
 | some a => match dOf (farL (book l) a.server) p with
  | none => (0, false)
  | some s => match (jn (book l) p).find? (hit (book l) a.server s) with
   | none => (0, false)
   | some q => (q.node, true)
theorem find_at {b : List Advert} (g : Book b) {i : Nat} {a : Advert} {to : Int} (h : b[i]? = some a) (ha : a.server.node = to) : b.find? (fun a => decide (a.server.node = to)) = some a := by
 obtain ⟨hi, rfl⟩ := List.getElem?_eq_some_iff.1 h
 rw [List.find?_eq_some_iff_getElem]
 refine ⟨by simpa using ha, i, hi, rfl, fun j hj => ?_⟩
 have := List.pairwise_iff_getElem.1 g.up j i (by omega) hi hj
 simp; omega
def NotYet (l : List Advert) (p : Proc) (to : Int) (i : Nat) : Prop := (∀ (j : Nat) a, j < i → (book l)[j]? = some a → a.server.node ≠ to) ∨ (nextG l p to = (0, false) ∧ ∃ (j : Nat) (a : Advert), j < i ∧ (book l)[j]? = some a ∧ a.server.node = to)
theorem NotYet.pass {l : List Advert} {p : Proc} {to : Int} {i : Nat} {a : Advert} (h : NotYet l p to i) (ha : (book l)[i]? = some a) (hn : a.server.node ≠ to) : NotYet l p to (i + 1) := by
 rcases h with h | ⟨h1, j, x, h2, h3, h4⟩
 ·left; intro j x hj hx
  rcases Nat.lt_succ_iff_lt_or_eq.1 hj with hj | rfl
  ·exact h j x hj hx
  ·rw [ha] at hx; cases hx; exact hn
 ·exact Or.inr ⟨h1, j, x, by omega, h3, h4⟩
theorem NotYet.end {l : List Advert} {p : Proc} {to : Int} {i : Nat} (h : NotYet l p to i) (hi : (book l).length ≤ i) : nextG l p to = (0, false) := by
 rcases h with h | ⟨h, -⟩
 ·unfold nextG
  rw [List.find?_eq_none.2 fun a ha => by
   obtain ⟨j, hj, rfl⟩ := List.getElem_of_mem ha
   simpa using h j _ (by omega) (List.getElem?_eq_getElem hj)]
  split <;> rfl
 ·exact h
theorem next_self {l : List Advert} {p : Proc} {to : Int} (h : to = p.node) : nextG l p to = (0, false) := by unfold nextG; rw [if_pos h]
theorem next_lost {l : List Advert} {p : Proc} {to : Int} {i : Nat} {a : Advert} (ha : (book l)[i]? = some a) (hn : a.server.node = to) (h : (dOf (farL (book l) a.server) p).isSome = false) : nextG l p to = (0, false) := by
 have h' : dOf (farL (book l) a.server) p = none := by simpa using h
 unfold nextG; rw [find_at (book_good l) ha hn]; simp only [h']; split <;> rfl
theorem next_none {l : List Advert} {p : Proc} {to : Int} {i s : Nat} {a : Advert} (ha : (book l)[i]? = some a) (hn : a.server.node = to) (h : dOf (farL (book l) a.server) p = some s) (hf : (jn (book l) p).find? (hit (book l) a.server s) = none) : nextG l p to = (0, false) := by
 unfold nextG; rw [find_at (book_good l) ha hn]; simp only [h, hf]; split <;> rfl
theorem next_some {l : List Advert} {p q : Proc} {to : Int} {i s : Nat} {a : Advert} (ht : to ≠ p.node) (ha : (book l)[i]? = some a) (hn : a.server.node = to) (h : dOf (farL (book l) a.server) p = some s) (hf : (jn (book l) p).find? (hit (book l) a.server s) = some q) : nextG l p to = (q.node, true) := by
 unfold nextG; rw [if_neg ht, find_at (book_good l) ha hn]; simp only [h, hf]
theorem NotYet.tried {l : List Advert} {p : Proc} {to : Int} {i : Nat} {a : Advert} (ha : (book l)[i]? = some a) (hn : a.server.node = to) (h : nextG l p to = (0, false)) : NotYet l p to (i + 1) := Or.inr ⟨h, i, a, by omega, ha, hn⟩
theorem book_srv {l : List Advert} {i : Nat} {a : Advert} (ha : (book l)[i]? = some a) : a.server.okP := srv_okP (Advert.may_iff.1 ((book_good l).may a (List.mem_of_getElem? ha))).1
theorem dOf_pos {b : List Advert} {p t : Proc} {s : Nat} (k : Keys (farL b t)) (hf : ∀ q d, (q, d) ∈ farL b t ↔ Lev b t d q) (h : dOf (farL b t) p = some s) (hn : t.node ≠ p.node) : 1 ≤ s ∧ s < 1000000 ∨ s ≥ 1000000 := by
 have h1 := (hf p s).1 ((dOf_mem k).1 h)
 rcases Nat.eq_zero_or_pos s with rfl | hs
 ·have := h1.1; simp only [Can] at this; rw [this] at hn; exact absurd rfl hn
 ·omega
theorem dOf_four {b : List Advert} (g : Book b) {p t : Proc} {s : Nat} (k : Keys (farL b t)) (hf : ∀ q d, (q, d) ∈ farL b t ↔ Lev b t d q) (h : dOf (farL b t) p = some s) : s ≤ 4 := ((hf p s).1 ((dOf_mem k).1 h)).four g
set_option maxRecDepth 100000 in
theorem nextOk (l : List Advert) (p : Proc) (to : Int) (hb : l.length ≤ 9223372036854775807) (hl : ∀ x ∈ l, x.peers.length ≤ 9223372036854775807) (hp0 : p.okP) : Con Try.prog 23 [.d (.ro 4 (adverts l)), .ag [.z p.node, .u p.inc], .z to] (.tu [.v (.int .i64 (nextG l p to).1), .v (.bool (nextG l p to).2)]) := by
 refine Con.intro (by kernel_rfl) rfl rfl 66 rfl rfl fun w0 K ac hK r => ?_
 have r := r.mark
 cases h0 : ((to : Int) == p.node) with
 | false =>
  have qh0 := ne_of_beq_false h0
  refine toHead (todo' := hd Try.f23 0) (E' := [(2, .z to), (4, .pt 0 0), (6, .pt 1 0), (7, .pt 2 0), (8, .d (.ro 4 (adverts (book l)))), (23, .d (.ro 4 (adverts (book l)))), (24, .n ((book l).length)), (25, .n 0)]) (M' := [.bx 30 [.z p.node, .u p.inc], .bx 3 [.z 0], .bx 4 [.d (.v (.bool false))]]) tk tq hK [(1, [(3, .b false)]), (3, [(1, .con (.ro 4 (adverts (book l))))]), (4, [(1, .z ((((book l).length : Nat) : Int)))])] 2000 [0, 1, 2] [2, 4, 6, 7, 8, 23, 24, 25] r (by kernel_rfl) (an h0 (an (ofRo l hb hl) (an ((by simp) : (((adverts (book l)).length : Nat) : Int) = (((book l).length : Nat) : Int)) trivial))) fun ac wd r => ?_
  refine Goes.rounds (Φ := fun (i : Nat) ac wd => (i ≤ (book l).length ∧ NotYet l p to i) ∧ REg true [] w0 K 66 [(2, .z to), (4, .pt 0 0), (6, .pt 1 0), (7, .pt 2 0), (8, .d (.ro 4 (adverts (book l)))), (23, .d (.ro 4 (adverts (book l)))), (24, .n ((book l).length)), (25, .n i)] [.bx 30 [.z p.node, .u p.inc], .bx 3 [.z 0], .bx 4 [.d (.v (.bool false))]] ac wd) ((book l).length) ?_ (Nat.zero_le _) ⟨⟨Nat.zero_le _, Or.inl (by omega)⟩, r⟩
  clear r
  rintro i hi0 again0 ac wd ⟨hv0, r⟩
  obtain ⟨hi1, hv0⟩ := hv0
  have hbl := (book_good l).len
  cases h1 : (decide ((((i : Nat) : Int) : Int) < (((book l).length : Nat) : Int))) with
  | false =>
   have qh1 := of_decide_eq_false h1
   rw [show nextG l p to = (0, false) from hv0.end (by omega)]
   refine toRetK (E' := [(6, .pt 0 0), (7, .pt 1 0)]) (M' := [.bx 3 [.z 0], .bx 4 [.d (.v (.bool false))]]) tk tq hK rfl [(5, [(0, .b false)])] 2000 [1, 2] [6, 7] r (by kernel_rfl) (by kernel_rfl) (an h1 trivial) trivial ?_ ?_
   ·intro x hx; simp only [List.mem_cons, List.not_mem_nil, or_false] at hx; rcases hx with rfl | rfl <;> exact IndA.pt _ _
   ·intro x hx; simp only [List.mem_cons, List.not_mem_nil, or_false] at hx; rcases hx with rfl | rfl <;> (refine IndB.bx fun c hc => ?_; simp only [List.mem_singleton] at hc; subst hc; exact IndA.v _)
  | true =>
   have qh1 := of_decide_eq_true h1
   obtain ⟨e_a, ga⟩ : ∃ x, (book l)[i]? = some x := ⟨_, List.getElem?_eq_getElem (by omega)⟩
   cases h2 : ((e_a.server.node : Int) != to) with
   | false =>
    have qh2 := eq_of_bne h2
    refine toAt (todo' := aft Try.f23 8) (E' := [(2, .z to), (4, .pt 0 0), (6, .pt 1 0), (7, .pt 2 0), (8, .d (.ro 4 (adverts (book l)))), (23, .d (.ro 4 (adverts (book l)))), (24, .n ((book l).length)), (25, .n i), (26, .d (.v (.bool true))), (27, .rp [.z e_a.server.node, .u e_a.server.inc, .u e_a.seq, .ro 2 (procs e_a.peers)] 0), (28, .ag [.z e_a.server.node, .u e_a.server.inc, .u e_a.seq, .d (.ro 2 (procs e_a.peers))]), (10, .pt 3 0), (29, .pt 3 0), (30, .pt 3 0), (31, .z e_a.server.node), (32, .z to), (33, .d (.v (.bool false))), (34, .d (.ro 4 (adverts (book l)))), (35, .pt 3 0), (36, .ag [.z e_a.server.node, .u e_a.server.inc]), (37, .mv 4), (11, .pt 5 0)]) (M' := [.bx 30 [.z p.node, .u p.inc], .bx 3 [.z 0], .bx 4 [.d (.v (.bool false))], .bx 33 [.z e_a.server.node, .u e_a.server.inc, .u e_a.seq, .d (.ro 2 (procs e_a.peers))], .mu 57 ((farL (book l) e_a.server).length) (farE (book l) e_a.server), .bx 57 [.mv 4]]) tk tq hK [(5, [(0, .b true)]), (6, [(0, .ix (i) [.z e_a.server.node, .u e_a.server.inc, .u e_a.seq, .ro 2 (procs e_a.peers)])]), (7, [(4, .b false)]), (8, [(3, .mem [] (.mv 0) [.mu 57 ((farL (book l) e_a.server).length) (farE (book l) e_a.server)])])] 16 [0, 1, 2, 3, 4, 5] [2, 4, 6, 7, 8, 23, 24, 25, 26, 27, 28, 10, 29, 30, 31, 32, 33, 34, 35, 36, 37, 11] r (by kernel_rfl) (an h1 (an (rfI ((i : Nat) : Int)) (an (adverts_at ga) (an h2 (an (farOk (book l) e_a.server (book_good l) (book_srv ga)) trivial))))) fun ac wd r => ?_
    obtain ⟨kf, hf⟩ := far_is (book_good l) (book_srv ga)
    obtain ⟨es, hperm, hnd, hlt, r⟩ := r.told 4 rfl
    have mo : MapOf (book l) e_a.server es := ⟨kf, hperm⟩
    have r := r.cast (M' := [.bx 30 [.z p.node, .u p.inc], .bx 3 [.z 0], .bx 4 [.d (.v (.bool false))], .bx 33 [.z e_a.server.node, .u e_a.server.inc, .u e_a.seq, .d (.ro 2 (procs e_a.peers))], .mp 57 ((farL (book l) e_a.server).length) (es), .bx 57 [.mv 4]]) rfl rfl
    cases h3 : ((dOf (farL (book l) e_a.server) p).isSome) with
    | false =>
     rw [show nextG l p to = (0, false) from next_lost ga (by omega) h3]
     refine toRetK (E' := [(6, .pt 0 0), (7, .pt 1 0)]) (M' := [.bx 3 [.z 0], .bx 4 [.d (.v (.bool false))]]) tk tq hK rfl [(9, [(2, .b false)])] 2000 [1, 2] [6, 7] r (by kernel_rfl) (by kernel_rfl) (an ((mo.ok hp0) : KeysOk Try.prog 30 ((.a [(.i64, (p.node : Int)), (.u64, (((p.inc : Nat) : Int) : Int))]) :: List.map (fun (e : Nat × MK × DV) => e.2.1) (es))) (an (zeroInt : ZeroIs Try.prog 3 (.int .i64 0)) (an ((mo.no (by assumption)) : ∀ zz ∈ (es : List (Nat × MK × DV)), zz.2.1 ≠ .a [(.i64, (p.node : Int)), (.u64, (((p.inc : Nat) : Int) : Int))]) trivial))) trivial ?_ ?_
     ·intro x hx; simp only [List.mem_cons, List.not_mem_nil, or_false] at hx; rcases hx with rfl | rfl <;> exact IndA.pt _ _
     ·intro x hx; simp only [List.mem_cons, List.not_mem_nil, or_false] at hx; rcases hx with rfl | rfl <;> (refine IndB.bx fun c hc => ?_; simp only [List.mem_singleton] at hc; subst hc; exact IndA.v _)
    | true =>
     obtain ⟨s, j0, n0, hdd, gj⟩ := mo.has (by assumption)
     have hs4 := dOf_four (book_good l) kf hf hdd
     have hs1 : 1 ≤ s := by rcases dOf_pos kf hf hdd (by omega) with h | h <;> omega
     have hs9 : s < 1000000 := by omega
     have u0 := ((mo.ok hp0) : KeysOk Try.prog 30 ((.a [(.i64, (p.node : Int)), (.u64, (((p.inc : Nat) : Int) : Int))]) :: List.map (fun (e : Nat × MK × DV) => e.2.1) (es)))
     have u1 := (rfl : (.a [(.i64, (p.node : Int)), (.u64, (((p.inc : Nat) : Int) : Int))] : MK) = .a [(.i64, (p.node : Int)), (.u64, (((p.inc : Nat) : Int) : Int))])
     have u2 := (⟨_, gj⟩ : ∃ b0, (es : List (Nat × MK × DV))[j0]? = some (b0, .a [(.i64, (p.node : Int)), (.u64, (((p.inc : Nat) : Int) : Int))], .n s))
     cases h4 : (((jn (book l) p).find? (hit (book l) e_a.server s)).isSome) with
     | false =>
      refine toRange (todo' := aftF Try.f23 0) (E2 := [(2, .z to), (4, .pt 0 0), (6, .pt 1 0), (7, .pt 2 0), (8, .d (.ro 4 (adverts (book l)))), (23, .d (.ro 4 (adverts (book l)))), (24, .n ((book l).length)), (25, .n i)]) (M2 := [.bx 30 [.z p.node, .u p.inc], .bx 3 [.z 0], .bx 4 [.d (.v (.bool false))]]) tk tq hK rfl [(9, [(2, .mk (j0) (.a [(.i64, (p.node : Int)), (.u64, (((p.inc : Nat) : Int) : Int))]) (.n s))]), (12, [(2, .into 200 [])])] 12 [7, 8, 4, 5, 6, 1, 2] [11, 12, 6, 7] (.tu []) [.bx 22 [.d (.ro 4 (adverts (book l)))], .bx 30 [.z p.node, .u p.inc], .mp 57 ((farL (book l) e_a.server).length) (es), .bx 57 [.mv 2], .bx 3 [.n s], .bx 3 [.z 0], .bx 4 [.d (.v (.bool false))], .lp .ready 23 66 [(11, .pt 3 0), (12, .pt 4 0), (6, .pt 5 0), (7, .pt 6 0)] (rfn Try.f23 0)] [0, 1, 2] [2, 4, 6, 7, 8, 23, 24, 25] r (by kernel_rfl) (an (nextNo (book l) p e_a.server es s (book_good l) mo hs1 hs9 (by simpa using h4)) (an u0 (an u1 (an (mo.one : (List.map (fun (e : Nat × MK × DV) => e.2.1) (es)).Nodup) (an u2 trivial))))) fun ac wd r => ?_
      exact toHead (todo' := hd Try.f23 0) tk tq hK [(17, [(0, .z (((i + 1 : Nat) : Int)))])] 2000 [0, 1, 2] [2, 4, 6, 7, 8, 23, 24, 25] r (by kernel_rfl) (an ((wi (by omega)) : IntKind.i64.wrap ((((i : Nat) : Int) : Int) + 1) = ((i + 1 : Nat) : Int)) trivial) fun ac wd r => again0 (by omega) ac wd ⟨⟨by omega, by first | exact hv0.pass ga (by omega) | exact NotYet.tried ga (by omega) (next_none ga (by omega) hdd (by simpa using (by assumption : ((jn (book l) p).find? (hit (book l) e_a.server s)).isSome = false)))⟩, r⟩
     | true =>
      obtain ⟨q0, hq0⟩ := Option.isSome_iff_exists.1 (by assumption : ((jn (book l) p).find? (hit (book l) e_a.server s)).isSome = true)
      refine toRange (todo' := .code .ret :: aftF Try.f23 0) (E2 := [(6, .pt 0 0), (7, .pt 1 0)]) (M2 := [.bx 3 [.z q0.node], .bx 4 [.d (.v (.bool true))]]) tk tq hK rfl [(9, [(2, .mk (j0) (.a [(.i64, (p.node : Int)), (.u64, (((p.inc : Nat) : Int) : Int))]) (.n s))]), (12, [(2, .into 200 [])])] 12 [7, 8, 4, 5, 6, 1, 2] [11, 12, 6, 7] (.tu []) [.bx 22 [.d (.ro 4 (adverts (book l)))], .bx 30 [.z p.node, .u p.inc], .mp 57 ((farL (book l) e_a.server).length) (es), .bx 57 [.mv 2], .bx 3 [.n s], .bx 3 [.z q0.node], .bx 4 [.d (.v (.bool true))], .lp .left 23 66 [(11, .pt 3 0), (12, .pt 4 0), (6, .pt 5 0), (7, .pt 6 0)] (rfn Try.f23 0)] [1, 2] [6, 7] r (by kernel_rfl) (an (nextYes (book l) p e_a.server es s (book_good l) mo hs1 hs9 q0 hq0) (an u0 (an u1 (an (mo.one : (List.map (fun (e : Nat × MK × DV) => e.2.1) (es)).Nodup) (an u2 trivial))))) fun ac wd r => ?_
      rw [show nextG l p to = (q0.node, true) from next_some (by omega) ga (by omega) hdd hq0]
      refine toRetK (E' := [(6, .pt 0 0), (7, .pt 1 0)]) (M' := [.bx 3 [.z q0.node], .bx 4 [.d (.v (.bool true))]]) tk tq hK rfl [] 2000 [0, 1] [6, 7] r (by kernel_rfl) (by kernel_rfl) trivial trivial ?_ ?_
      ·intro x hx; simp only [List.mem_cons, List.not_mem_nil, or_false] at hx; rcases hx with rfl | rfl <;> exact IndA.pt _ _
      ·intro x hx; simp only [List.mem_cons, List.not_mem_nil, or_false] at hx; rcases hx with rfl | rfl <;> (refine IndB.bx fun c hc => ?_; simp only [List.mem_singleton] at hc; subst hc; exact IndA.v _)
   | true =>
    have qh2 : ¬ _ = _ := bne_iff_ne.1 h2
    exact toHead (todo' := hd Try.f23 0) tk tq hK [(5, [(0, .b true)]), (6, [(0, .ix (i) [.z e_a.server.node, .u e_a.server.inc, .u e_a.seq, .ro 2 (procs e_a.peers)])]), (7, [(4, .b true)]), (17, [(0, .z (((i + 1 : Nat) : Int)))])] 2000 [0, 1, 2] [2, 4, 6, 7, 8, 23, 24, 25] r (by kernel_rfl) (an h1 (an (rfI ((i : Nat) : Int)) (an (adverts_at ga) (an h2 (an ((wi (by omega)) : IntKind.i64.wrap ((((i : Nat) : Int) : Int) + 1) = ((i + 1 : Nat) : Int)) trivial))))) fun ac wd r => again0 (by omega) ac wd ⟨⟨by omega, by first | exact hv0.pass ga (by omega) | exact NotYet.tried ga (by omega) (next_none ga (by omega) hdd (by simpa using (by assumption : ((jn (book l) p).find? (hit (book l) e_a.server s)).isSome = false)))⟩, r⟩
 | true =>
  have qh0 := eq_of_beq h0
  rw [show nextG l p to = (0, false) from next_self (by omega)]
  refine toRetK (E' := [(6, .pt 0 0), (7, .pt 1 0)]) (M' := [.bx 3 [.z 0], .bx 4 [.d (.v (.bool false))]]) tk tq hK rfl [(1, [(3, .b true)])] 2000 [1, 2] [6, 7] r (by kernel_rfl) (by kernel_rfl) (an h0 trivial) trivial ?_ ?_
  ·intro x hx; simp only [List.mem_cons, List.not_mem_nil, or_false] at hx; rcases hx with rfl | rfl <;> exact IndA.pt _ _
  ·intro x hx; simp only [List.mem_cons, List.not_mem_nil, or_false] at hx; rcases hx with rfl | rfl <;> (refine IndB.bx fun c hc => ?_; simp only [List.mem_singleton] at hc; subst hc; exact IndA.v _)
end Go.Proofs.Ytikmdkicccfjpaa
namespace Go.Proofs.Ytikmdkicccfjpaa
open Go.RowKit
def side (b : List Advert) (p q : Proc) (i : Nat) : Bool := (b.take i).any fun a => decide (a.server = p) && decide (q ∈ a.peers)
def joinedR (b : List Advert) (p q : Proc) : Bool := side b p q b.length && side b q p b.length
theorem side_is {b : List Advert} (g : Book b) {p q : Proc} : side b p q b.length = true ↔ q ∈ peersOf b p := by
 unfold side
 rw [List.take_length, List.any_eq_true]
 constructor
 ·rintro ⟨a, ha, h⟩
  simp only [Bool.and_eq_true, decide_eq_true_eq] at h
  obtain ⟨i, hi, rfl⟩ := List.getElem_of_mem ha
  rw [peersOf_at (List.getElem?_eq_getElem hi) h.1 fun j x hj hx e => ?_]
  ·exact h.2
  ·obtain ⟨hj2, rfl⟩ := List.getElem?_eq_some_iff.1 hx
   have := List.pairwise_iff_getElem.1 g.up j i hj2 hi hj
   rw [e, h.1] at this; omega
 ·intro h
  obtain ⟨a, h1, h2, h3⟩ := peersOf_mem h
  exact ⟨a, h1, by simp [h2, h3]⟩
theorem joinedR_is {b : List Advert} (g : Book b) {p q : Proc} : joinedR b p q = true ↔ q ∈ jn b p := by
 rw [joinedR, Bool.and_eq_true, side_is g, side_is g, mem_jn]
def Proc.low (p : Proc) : Bool := p.may && decide (p.node ≤ 4)
def nbTo (b : List Advert) (r : Proc) (k : Nat) : List Proc := ((b.take k).filter fun a => joinedR b r a.server).map Advert.server
def moreTo (b : List Advert) (l : List Proc) (i : Nat) : List Proc := (l.take i).flatMap fun r => nbTo b r b.length
def met (b : List Advert) (p : Proc) : Nat → List Proc
 | 0 => [p]
 | n + 1 => srt (met b p n ++ moreTo b (met b p n) (met b p n).length)
theorem met_is {b : List Advert} (g : Book b) {p : Proc} : ∀ {n : Nat} {q : Proc}, q ∈ met b p n ↔ Can b p n q
 | 0, q => by simp [met, Can]
 | n + 1, q => by
  rw [met, mem_srt, List.mem_append, met_is g, Can]
  have : q ∈ moreTo b (met b p n) (met b p n).length ↔ ∃ r, Can b p n r ∧ q ∈ jn b r := by
   unfold moreTo
   rw [List.take_length, List.mem_flatMap]
   constructor
   ·rintro ⟨r, h1, h2⟩
    unfold nbTo at h2
    rw [List.take_length] at h2
    obtain ⟨a, ha, rfl⟩ := List.mem_map.1 h2
    exact ⟨r, (met_is g).1 h1, (joinedR_is g).1 (List.mem_filter.1 ha).2⟩
   ·rintro ⟨r, h1, h2⟩
    obtain ⟨a, ha, rfl⟩ := jn_server h2
    refine ⟨r, (met_is g).2 h1, ?_⟩
    unfold nbTo
    rw [List.take_length]
    exact List.mem_map.2 ⟨a, List.mem_filter.2 ⟨ha, (joinedR_is g).2 h2⟩, rfl⟩
  rw [this]
def stepsR (b : List Advert) (p q : Proc) : Int := match (List.range 5).find? (fun n => decide (q ∈ met b p n)) with | some n => (n : Int) | none => -1
theorem stepsR_at {b : List Advert} {p q : Proc} {n : Nat} (hn : n < 5) (h : q ∈ met b p n) (hb : ∀ k, k < n → q ∉ met b p k) : stepsR b p q = (n : Int) := by
 have : (List.range 5).find? (fun n => decide (q ∈ met b p n)) = some n := by
  rw [List.find?_eq_some_iff_getElem]
  exact ⟨decide_eq_true h, n, by simpa using hn, by simp, fun j hj => by simpa using hb j hj⟩
 rw [stepsR, this]
theorem stepsR_none {b : List Advert} {p q : Proc} (hb : ∀ k, k < 5 → q ∉ met b p k) : stepsR b p q = -1 := by
 have : (List.range 5).find? (fun n => decide (q ∈ met b p n)) = none := by
  rw [List.find?_eq_none]; intro k hk; simpa using hb k (by simpa using hk)
 rw [stepsR, this]
theorem ind_procs (T : Nat) (l : List Proc) : Ind (.em T 2 (procs l)) := by
 intro K K' y H h
 cases h with
 | em X F hl hs hr =>
  refine .em X F hl hs fun i r j c x h1 h2 h3 => ?_
  have := hr i r j c x h1 h2 h3
  rw [List.getElem?_map, Option.map_eq_some_iff] at h1
  obtain ⟨p, -, rfl⟩ := h1
  unfold Proc.row at h2
  match j with
  | 0 => simp at h2; subst h2; exact (ind_v _) _ _ _ _ this
  | 1 => simp at h2; subst h2; exact (ind_v _) _ _ _ _ this
  | j + 2 => simp at h2
end Go.Proofs.Ytikmdkicccfjpaa
namespace Go.Proofs.Ytikmdkicccfjpaa
open Go.RowKit
theorem Can.head {b : List Advert} {p r : Proc} (h : r ∈ jn b p) : ∀ {n : Nat} {q : Proc}, Can b r n q → Can b p (n + 1) q
 | 0, q, hq => by rw [hq]; exact Or.inr ⟨p, rfl, h⟩
 | n + 1, q, hq => by
  rcases hq with hq | ⟨v, h1, h2⟩
  ·exact Or.inl (Can.head h hq)
  ·exact Or.inr ⟨v, Can.head h h1, h2⟩
theorem Can.symm {b : List Advert} : ∀ {n : Nat} {p q : Proc}, Can b p n q → Can b q n p
 | 0, p, q, h => Eq.symm h
 | n + 1, p, q, h => by
  rcases h with h | ⟨r, h1, h2⟩
  ·exact Or.inl (Can.symm h)
  ·exact Can.head (jn_symm.1 h2) (Can.symm h1)
theorem Lev.symm {b : List Advert} {p q : Proc} {d : Nat} (h : Lev b p d q) : Lev b q d p := ⟨h.1.symm, fun k hk hc => h.2 k hk hc.symm⟩
theorem stepsR_lev {b : List Advert} (g : Book b) {p q : Proc} {d : Nat} (h : Lev b p d q) : stepsR b p q = (d : Int) :=
 stepsR_at (by have := h.four g; omega) ((met_is g).2 h.1) fun k hk hc => h.2 k hk ((met_is g).1 hc)
theorem stepsR_far {b : List Advert} (g : Book b) {p q : Proc} (h : ∀ d, ¬ Lev b p d q) : stepsR b p q = -1 :=
 stepsR_none fun k _ hc => by
  obtain ⟨d, -, hd⟩ := ((met_is g).1 hc).lev
  exact h d hd
theorem stepsR_dOf {b : List Advert} (g : Book b) {p t : Proc} (ht : t.okP) : stepsR b p t = match dOf (farL b t) p with | some s => ((s : Nat) : Int) | none => -1 := by
 obtain ⟨k, hf⟩ := far_is g ht
 cases h : dOf (farL b t) p with
 | some s => exact stepsR_lev g (((hf p s).1 ((dOf_mem k).1 h)).symm)
 | none => exact stepsR_far g (fun d hd => by rw [(dOf_mem k).2 ((hf p d).2 hd.symm)] at h; cases h)
noncomputable def reTo (b : List Advert) (p : Proc) (i : Nat) : List Proc := p :: ((b.take i).filter fun a => decide (0 ≤ stepsR b p a.server)).map Advert.server
theorem reach_is {l : List Advert} {p : Proc} (hp : p.okP) (hl : p.low = true) {i : Nat} (hi : (book l).length ≤ i) : srt (reTo (book l) p i) = reachG l p := by
 unfold Proc.low at hl
 simp only [Bool.and_eq_true, decide_eq_true_eq] at hl
 unfold reachG
 rw [if_pos hl]
 obtain ⟨k, hf⟩ := far_is (book_good l) hp
 refine srt_set fun q => ?_
 unfold reTo
 rw [List.take_of_length_le hi, List.mem_cons, List.mem_map, List.mem_map]
 constructor
 ·rintro (rfl | ⟨a, ha, rfl⟩)
  ·exact ⟨(q, 0), (hf q 0).2 ⟨rfl, fun k hk => by omega⟩, rfl⟩
  ·have h0 := of_decide_eq_true (List.mem_filter.1 ha).2
   by_cases h : ∃ d, Lev (book l) p d a.server
   ·obtain ⟨d, hd⟩ := h; exact ⟨(_, d), (hf _ d).2 hd, rfl⟩
   ·rw [stepsR_far (book_good l) fun d hd => h ⟨d, hd⟩] at h0; omega
 ·rintro ⟨⟨q', d⟩, hx, rfl⟩
  have hd := (hf q' d).1 hx
  have hw := hd.who
  rcases List.mem_cons.1 hw with e | hw
  ·exact Or.inl e
  ·obtain ⟨a, ha, e⟩ := List.mem_map.1 hw
   dsimp only at *
   refine Or.inr ⟨a, List.mem_filter.2 ⟨ha, decide_eq_true ?_⟩, e⟩
   rw [e, stepsR_lev (book_good l) hd]; omega
theorem set_ss {l : List Proc} (h : isSet l = true) : SS l := by
 have hs := (isSet_iff l).1 h
 unfold SS
 rw [List.pairwise_iff_getElem]
 intro i j hi hj hij
 have key : ∀ d i (h1 : i < l.length) (h2 : i + d + 1 < l.length), (l[i]).lt (l[i + d + 1]) = true := by
  intro d
  induction d with
  | zero => intro i h1 h2; exact hs.2 i _ _ (by omega) (List.getElem?_eq_getElem h1) (List.getElem?_eq_getElem h2)
  | succ d ih =>
   intro i h1 h2
   have e1 := ih i h1 (by omega)
   have e2 := hs.2 (i + d + 1) _ _ (by omega) (List.getElem?_eq_getElem (by omega)) (List.getElem?_eq_getElem (by omega))
   exact lt_trans e1 e2
 have := key (j - i - 1) i hi (by omega)
 simp only [show i + (j - i - 1) + 1 = j by omega] at this
 exact this
theorem jn_ss {b : List Advert} (g : Book b) (p : Proc) : SS (jn b p) := by
 unfold jn SS
 refine List.Pairwise.filter _ ?_
 unfold peersOf
 split
 ·rename_i a ha
  exact set_ss (Advert.may_iff.1 (g.may a (List.mem_of_find?_eq_some ha))).2.2.1
 ·exact List.Pairwise.nil
theorem nb_ss {b : List Advert} (g : Book b) (p : Proc) : SS (nbTo b p b.length) := by
 unfold nbTo SS
 rw [List.take_length, List.pairwise_map]
 refine List.Pairwise.filter _ (g.up.imp fun {x y} h => ?_)
 unfold Proc.lt; exact decide_eq_true (Or.inl h)
theorem jn_nb {b : List Advert} (g : Book b) (p : Proc) : jn b p = nbTo b p b.length := by
 refine ss_ext (jn_ss g p) (nb_ss g p) fun q => ?_
 unfold nbTo
 rw [List.take_length, List.mem_map]
 constructor
 ·intro hq
  obtain ⟨a, ha, rfl⟩ := jn_server hq
  exact ⟨a, List.mem_filter.2 ⟨ha, (joinedR_is g).2 hq⟩, rfl⟩
 ·rintro ⟨a, ha, rfl⟩; exact (joinedR_is g).1 (List.mem_filter.1 ha).2
end Go.Proofs.Ytikmdkicccfjpaa
namespace Go.Proofs.Ytikmdkicccfjpaa
open Go.RowKit
theorem steps_some {l : List Advert} {p : Proc} {i : Nat} {a : Advert} (ha : (book l)[i]? = some a) (h : ¬ stepsR (book l) p a.server < 0) (hn : a.server.node ≠ p.node) : ∃ s : Nat, dOf (farL (book l) a.server) p = some s ∧ stepsR (book l) p a.server = ((s : Nat) : Int) ∧ 1 ≤ s := by
 have ho := book_srv ha
 obtain ⟨k, hf⟩ := far_is (book_good l) ho
 have := stepsR_dOf (book_good l) (p := p) ho
 cases hd : dOf (farL (book l) a.server) p with
 | none => rw [hd] at this; dsimp only at this; omega
 | some s =>
  rw [hd] at this
  refine ⟨s, rfl, this, ?_⟩
  rcases dOf_pos k hf hd hn with h | h <;> omega
theorem steps_none {l : List Advert} {p : Proc} {i : Nat} {a : Advert} (ha : (book l)[i]? = some a) (h : stepsR (book l) p a.server < 0) : (dOf (farL (book l) a.server) p).isSome = false := by
 have := stepsR_dOf (book_good l) (p := p) (book_srv ha)
 cases hd : dOf (farL (book l) a.server) p with
 | none => rfl
 | some s =>
  rw [hd] at this
  have h0 : stepsR (book l) p a.server = ((s : Nat) : Int) := this
  omega
theorem steps_hit {l : List Advert} {q : Proc} {i s : Nat} {a : Advert} (ha : (book l)[i]? = some a) (hs : 1 ≤ s) {z : Int} (hz : z = ((s : Nat) : Int)) {c : Bool} (h : (stepsR (book l) q a.server == z - 1) = c) : hit (book l) a.server s q = c := by
 have := stepsR_dOf (book_good l) (p := q) (book_srv ha)
 unfold hit
 rw [← h, this]
 cases hd : dOf (farL (book l) a.server) q with
 | none =>
  rw [Bool.eq_iff_iff, decide_eq_true_iff, beq_iff_eq]
  constructor
  ·intro e; cases e
  ·intro e; dsimp only at e; omega
 | some d =>
  rw [Bool.eq_iff_iff, decide_eq_true_iff, beq_iff_eq, Option.some.injEq]; dsimp only; omega
end Go.Proofs.Ytikmdkicccfjpaa
namespace Go.Proofs.Ytikmdkicccfjpaa
open Go.RowKit
theorem ind_adverts (T : Nat) (l : List Advert) : Ind (.em T 4 (advertsO l)) := by
 intro K K' y H h
 cases h with
 | em X F hl hs hr =>
  refine .em X F hl hs fun i r j c x h1 h2 h3 => ?_
  have := hr i r j c x h1 h2 h3
  rw [List.getElem?_map, Option.map_eq_some_iff] at h1
  obtain ⟨p, -, rfl⟩ := h1
  unfold Advert.rowO at h2
  match j with
  | 0 => simp at h2; subst h2; exact (ind_v _) _ _ _ _ this
  | 1 => simp at h2; subst h2; exact (ind_v _) _ _ _ _ this
  | 2 => simp at h2; subst h2; exact (ind_v _) _ _ _ _ this
  | 3 => simp at h2; subst h2; exact (ind_procs _ _) _ _ _ _ this
  | j + 4 => simp at h2
theorem one_adverts (l : List Advert) : OneR (adverts l) := by
 simp only [OneR, adverts, List.all_eq_true, List.mem_map]
 rintro r ⟨p, -, rfl⟩ c hc
 simp only [Advert.row, List.mem_cons, List.not_mem_nil, or_false] at hc
 rcases hc with rfl | rfl | rfl | rfl <;> rfl
theorem adverts_app (l : List Advert) (a : Advert) : adverts l ++ [[.v (.int .i64 a.server.node), .v (.int .u64 (a.server.inc : Int)), .v (.int .u64 (a.seq : Int)), .ro 2 (procs a.peers)]] = adverts (l ++ [a]) := by simp [adverts, Advert.row]
def newsTo (b : List Advert) (a : Advert) (i : Nat) : Bool := a.may && (b.take i).all fun x => !(decide (x.server.node = a.server.node)) || newer a x
def takeG (l : List Advert) (a : Advert) : List Advert := book (book l ++ [a])
def newsG (l : List Advert) (a : Advert) : Bool := newsTo (book l) a (book l).length
theorem news_succ {b : List Advert} {i : Nat} {x : Advert} (h : b[i]? = some x) (a : Advert) : newsTo b a (i + 1) = (newsTo b a i && (!(decide (x.server.node = a.server.node)) || newer a x)) := by
 obtain ⟨hi, rfl⟩ := List.getElem?_eq_some_iff.1 h
 rw [newsTo, newsTo, List.take_succ_eq_append_getElem hi, List.all_append, Bool.and_assoc]; simp
theorem news_no {b : List Advert} {i : Nat} {x a : Advert} (h : b[i]? = some x) (h1 : x.server.node = a.server.node) (h2 : newer a x = false) : newsTo b a (i + 1) = false := by
 rw [news_succ h, h2, decide_eq_true h1]; simp
theorem news_yes {b : List Advert} {i : Nat} {x a : Advert} (h : b[i]? = some x) (h1 : x.server.node ≠ a.server.node ∨ newer a x = true) : newsTo b a (i + 1) = newsTo b a i := by
 rw [news_succ h]
 rcases h1 with h1 | h1
 ·rw [decide_eq_false h1]; simp
 ·rw [h1]; simp
theorem book_ok (l : List Advert) : ∀ x ∈ book l, x.peers.length ≤ 9223372036854775807 := fun x hx => by have := Advert.few ((book_good l).may x hx); omega
theorem more_ok {l : List Advert} {a : Advert} (ha : a.peers.length ≤ 9223372036854775807) : ∀ x ∈ book l ++ [a], x.peers.length ≤ 9223372036854775807 := fun x hx => by
 rcases List.mem_append.1 hx with hx | hx
 ·exact book_ok l x hx
 ·rw [List.mem_singleton] at hx; rw [hx]; exact ha
set_option maxRecDepth 100000 in
theorem takeOk (l : List Advert) (a : Advert) (hb : l.length ≤ 9223372036854775807) (hl : ∀ x ∈ l, x.peers.length ≤ 9223372036854775807) (ha : a.peers.length ≤ 9223372036854775807) : Con Try.prog 17 [.d (.ro 4 (adverts l)), .ag [.z a.server.node, .u a.server.inc, .u a.seq, .d (.ro 2 (procs a.peers))]] (.tu [.em 33 4 (advertsO (takeG l a)), .v (.bool (newsG l a))]) := by
 refine Con.intro (by kernel_rfl) rfl rfl 40 rfl rfl fun w0 K ac hK r => ?_
 refine toAt (todo' := aft Try.f17 1) (E' := [(3, .pt 0 0), (4, .d (.v (.slice none 0 0))), (5, .d (.v (.bool false))), (6, .sl 1 ((advertsO (book l)).length))]) (M' := [.bx 33 [.z a.server.node, .u a.server.inc, .u a.seq, .d (.ro 2 (procs a.peers))], .rw 33 4 (advertsO (book l))]) tk tq hK [(1, [(1, .con (.em 33 4 (advertsO (book l))))])] 4 [0, 1] [3, 4, 5, 6] r (by kernel_rfl) (an (ofOk l hb hl) trivial) fun ac wd r => ?_
 have r := r.freeze (M1 := [.bx 33 [.z a.server.node, .u a.server.inc, .u a.seq, .d (.ro 2 (procs a.peers))], .rw 33 4 (frozR (advertsO (book l)))]) (M2 := [.bx 33 [.z a.server.node, .u a.server.inc, .u a.seq, .d (.ro 2 (procs a.peers))], .rw 33 4 (adverts (book l))]) [1] (by kernel_rfl) (by rw [froz_advertsO])
 cases h0 : (a.may) with
 | false =>
  refine toHead (todo' := hd Try.f17 0) (E' := [(3, .pt 0 0), (6, .sl 1 ((advertsO (book l)).length)), (7, .d (.v (.bool false))), (14, .sl 1 ((advertsO (book l)).length)), (15, .n ((book l).length)), (16, .z 0)]) (M' := [.bx 33 [.z a.server.node, .u a.server.inc, .u a.seq, .d (.ro 2 (procs a.peers))], .rw 33 4 (adverts (book l))]) tk tq hK [(2, [(1, .con (.v (.bool false)))]), (3, [(1, .z ((((book l).length : Nat) : Int)))])] 2000 [0, 1] [3, 6, 7, 14, 15, 16] r (by kernel_rfl) (an ((by have k := mayOk a ha; rw [h0] at k; exact k) : Con Try.prog 32 [.ag [.z a.server.node, .u a.server.inc, .u a.seq, .d (.ro 2 (procs a.peers))]] (.v (.bool false))) (an ((by simp) : (((advertsO (book l)).length : Nat) : Int) = (((book l).length : Nat) : Int)) trivial)) fun ac wd r => ?_
  refine Goes.rounds (Φ := fun (i : Nat) ac wd => ∃ nw : Bool, (i ≤ (book l).length ∧ nw = newsTo (book l) a i) ∧ RE' [] w0 K 40 [(3, .pt 0 0), (6, .sl 1 ((book l).length)), (7, .d (.v (.bool nw))), (14, .sl 1 ((book l).length)), (15, .n ((book l).length)), (16, .n i)] [.bx 33 [.z a.server.node, .u a.server.inc, .u a.seq, .d (.ro 2 (procs a.peers))], .rw 33 4 (adverts (book l))] ac wd) ((book l).length) ?_ (Nat.zero_le _) ⟨false, ⟨Nat.zero_le _, by simp [newsTo, *]⟩, (r).cast (by simp) rfl⟩
  clear r
  rintro i hi0 again0 ac wd ⟨nw, hv0, r⟩
  obtain ⟨hi1, hv2⟩ := hv0
  have hbl := (book_good l).len
  cases nw with
  | false =>
   cases h1 : (decide ((((i : Nat) : Int) : Int) < (((book l).length : Nat) : Int))) with
   | false =>
    have qh1 := of_decide_eq_false h1
    rw [show (.tu [.em 33 4 (advertsO (takeG l a)), .v (.bool (newsG l a))] : DV) = .tu [.em 33 4 (advertsO (takeG l a)), .v (.bool false)] from (by rw [show newsG l a = false from by unfold newsG; rw [show (book l).length = i by omega]; exact hv2.symm])]
    exact toRet tk tq hK rfl [(4, [(0, .b false)]), (9, [(4, .call [.d (.ro 4 (adverts (book l ++ [a])))] (.em 33 4 (advertsO (takeG l a))))])] 2000 r (by kernel_rfl) (an h1 (an ((by first | rfl | (simp; done) | (simp <;> omega)) : ((book l).length) = (adverts (book l)).length) (an ((by first | rfl | (simp; done) | (simp <;> omega)) : (1) = ([[.z a.server.node, .u a.server.inc, .u a.seq, .ro 2 (procs a.peers)]] : List (List DV)).length) (an ((by first | omega | (simp; done) | (simp <;> omega)) : (2 * (((book l).length) + (1)) + 0) * 48 ≤ 281474976710656) (an ((by first | omega | (simp; done) | (simp <;> omega)) : ((book l).length) + (1) < 4611686018427387904) (an ((by first | exact one_adverts [a] | simp [OneR, AV.one, oneC]) : OneR ([[.z a.server.node, .u a.server.inc, .u a.seq, .ro 2 (procs a.peers)]])) (an (ofOk (book l ++ [a]) (by simp; omega) (more_ok ha)) (an ((ind_adverts _ _) : Ind (.em 33 4 (advertsO (takeG l a)))) (an (rfN (4)) (an ((by first | rfl | (simp; done) | (simp <;> omega)) : ((book l).length + (1)) = (adverts (book l) ++ [[.z a.server.node, .u a.server.inc, .u a.seq, .ro 2 (procs a.peers)]] : List (List DV)).length) (an ((by first | exact froz_adverts _ | (rw [adverts_app]; exact froz_adverts _)) : frozR (adverts (book l) ++ [[.z a.server.node, .u a.server.inc, .u a.seq, .ro 2 (procs a.peers)]]) = adverts (book l ++ [a])) (an (rfN ((advertsO (takeG l a)).length)) trivial))))))))))))
   | true =>
    have qh1 := of_decide_eq_true h1
    obtain ⟨x, gx⟩ : ∃ x, (book l)[i]? = some x := ⟨_, List.getElem?_eq_getElem (by omega)⟩
    have u_0 := ((by first | omega | decide | (simp; omega)) : (i) < ((book l).length))
    have u_1 := ((by first | rfl | (simp; done) | (simp <;> omega)) : ((book l).length) ≤ (adverts (book l)).length)
    cases h2 : ((x.server.node : Int) == a.server.node) with
    | false =>
     have qh2 := ne_of_beq_false h2
     exact toHead (todo' := hd Try.f17 0) tk tq hK [(4, [(0, .b true)]), (5, [(0, .n (i)), (1, .ix 0 [.z x.server.node, .u x.server.inc, .u x.seq, .ro 2 (procs x.peers)])]), (6, [(6, .b false)]), (8, [(0, .z (((i + 1 : Nat) : Int)))])] 2000 [0, 1] [3, 6, 7, 14, 15, 16] r (by kernel_rfl) (an h1 (an (rfI ((i : Nat) : Int)) (an u_0 (an u_1 (an (adverts_at gx) (an h2 (an ((wi (by omega)) : IntKind.i64.wrap ((((i : Nat) : Int) : Int) + 1) = ((i + 1 : Nat) : Int)) trivial))))))) fun ac wd r => again0 (by omega) ac wd ⟨false, ⟨by omega, by first | exact (news_no gx (by omega) (by assumption)).symm | (rw [news_yes gx (by first | exact Or.inl (by omega) | exact Or.inr (by assumption))]; exact hv2)⟩, r⟩
    | true =>
     have qh2 := eq_of_beq h2
     cases h3 : (newer a x) with
     | false =>
      exact toHead (todo' := hd Try.f17 0) tk tq hK [(4, [(0, .b true)]), (5, [(0, .n (i)), (1, .ix 0 [.z x.server.node, .u x.server.inc, .u x.seq, .ro 2 (procs x.peers)])]), (6, [(6, .b true), (10, .con (.v (.bool false)))]), (8, [(0, .z (((i + 1 : Nat) : Int)))])] 2000 [0, 1] [3, 6, 7, 14, 15, 16] r (by kernel_rfl) (an h1 (an (rfI ((i : Nat) : Int)) (an u_0 (an u_1 (an (adverts_at gx) (an h2 (an ((by have k := newerOk a x; rw [h3] at k; exact k) : Con Try.prog 33 [.ag [.z a.server.node, .u a.server.inc, .u a.seq, .d (.ro 2 (procs a.peers))], .ag [.z x.server.node, .u x.server.inc, .u x.seq, .d (.ro 2 (procs x.peers))]] (.v (.bool false))) (an ((wi (by omega)) : IntKind.i64.wrap ((((i : Nat) : Int) : Int) + 1) = ((i + 1 : Nat) : Int)) trivial)))))))) fun ac wd r => again0 (by omega) ac wd ⟨false, ⟨by omega, by first | exact (news_no gx (by omega) (by assumption)).symm | (rw [news_yes gx (by first | exact Or.inl (by omega) | exact Or.inr (by assumption))]; exact hv2)⟩, r⟩
     | true =>
      exact toHead (todo' := hd Try.f17 0) tk tq hK [(4, [(0, .b true)]), (5, [(0, .n (i)), (1, .ix 0 [.z x.server.node, .u x.server.inc, .u x.seq, .ro 2 (procs x.peers)])]), (6, [(6, .b true), (10, .con (.v (.bool true)))]), (8, [(0, .z (((i + 1 : Nat) : Int)))])] 2000 [0, 1] [3, 6, 7, 14, 15, 16] r (by kernel_rfl) (an h1 (an (rfI ((i : Nat) : Int)) (an u_0 (an u_1 (an (adverts_at gx) (an h2 (an ((by have k := newerOk a x; rw [h3] at k; exact k) : Con Try.prog 33 [.ag [.z a.server.node, .u a.server.inc, .u a.seq, .d (.ro 2 (procs a.peers))], .ag [.z x.server.node, .u x.server.inc, .u x.seq, .d (.ro 2 (procs x.peers))]] (.v (.bool true))) (an ((wi (by omega)) : IntKind.i64.wrap ((((i : Nat) : Int) : Int) + 1) = ((i + 1 : Nat) : Int)) trivial)))))))) fun ac wd r => again0 (by omega) ac wd ⟨false, ⟨by omega, by first | exact (news_no gx (by omega) (by assumption)).symm | (rw [news_yes gx (by first | exact Or.inl (by omega) | exact Or.inr (by assumption))]; exact hv2)⟩, r⟩
  | true =>
   cases h4 : (decide ((((i : Nat) : Int) : Int) < (((book l).length : Nat) : Int))) with
   | false =>
    have qh4 := of_decide_eq_false h4
    rw [show (.tu [.em 33 4 (advertsO (takeG l a)), .v (.bool (newsG l a))] : DV) = .tu [.em 33 4 (advertsO (takeG l a)), .v (.bool true)] from (by rw [show newsG l a = true from by unfold newsG; rw [show (book l).length = i by omega]; exact hv2.symm])]
    exact toRet tk tq hK rfl [(4, [(0, .b false)]), (9, [(4, .call [.d (.ro 4 (adverts (book l ++ [a])))] (.em 33 4 (advertsO (takeG l a))))])] 2000 r (by kernel_rfl) (an h4 (an ((by first | rfl | (simp; done) | (simp <;> omega)) : ((book l).length) = (adverts (book l)).length) (an ((by first | rfl | (simp; done) | (simp <;> omega)) : (1) = ([[.z a.server.node, .u a.server.inc, .u a.seq, .ro 2 (procs a.peers)]] : List (List DV)).length) (an ((by first | omega | (simp; done) | (simp <;> omega)) : (2 * (((book l).length) + (1)) + 0) * 48 ≤ 281474976710656) (an ((by first | omega | (simp; done) | (simp <;> omega)) : ((book l).length) + (1) < 4611686018427387904) (an ((by first | exact one_adverts [a] | simp [OneR, AV.one, oneC]) : OneR ([[.z a.server.node, .u a.server.inc, .u a.seq, .ro 2 (procs a.peers)]])) (an (ofOk (book l ++ [a]) (by simp; omega) (more_ok ha)) (an ((ind_adverts _ _) : Ind (.em 33 4 (advertsO (takeG l a)))) (an (rfN (4)) (an ((by first | rfl | (simp; done) | (simp <;> omega)) : ((book l).length + (1)) = (adverts (book l) ++ [[.z a.server.node, .u a.server.inc, .u a.seq, .ro 2 (procs a.peers)]] : List (List DV)).length) (an ((by first | exact froz_adverts _ | (rw [adverts_app]; exact froz_adverts _)) : frozR (adverts (book l) ++ [[.z a.server.node, .u a.server.inc, .u a.seq, .ro 2 (procs a.peers)]]) = adverts (book l ++ [a])) (an (rfN ((advertsO (takeG l a)).length)) trivial))))))))))))
   | true =>
    have qh4 := of_decide_eq_true h4
    obtain ⟨x, gx⟩ : ∃ x, (book l)[i]? = some x := ⟨_, List.getElem?_eq_getElem (by omega)⟩
    have u_2 := ((by first | omega | decide | (simp; omega)) : (i) < ((book l).length))
    have u_3 := ((by first | rfl | (simp; done) | (simp <;> omega)) : ((book l).length) ≤ (adverts (book l)).length)
    cases h5 : ((x.server.node : Int) == a.server.node) with
    | false =>
     have qh5 := ne_of_beq_false h5
     exact toHead (todo' := hd Try.f17 0) tk tq hK [(4, [(0, .b true)]), (5, [(0, .n (i)), (1, .ix 0 [.z x.server.node, .u x.server.inc, .u x.seq, .ro 2 (procs x.peers)])]), (6, [(6, .b false)]), (8, [(0, .z (((i + 1 : Nat) : Int)))])] 2000 [0, 1] [3, 6, 7, 14, 15, 16] r (by kernel_rfl) (an h4 (an (rfI ((i : Nat) : Int)) (an u_2 (an u_3 (an (adverts_at gx) (an h5 (an ((wi (by omega)) : IntKind.i64.wrap ((((i : Nat) : Int) : Int) + 1) = ((i + 1 : Nat) : Int)) trivial))))))) fun ac wd r => again0 (by omega) ac wd ⟨true, ⟨by omega, by first | exact (news_no gx (by omega) (by assumption)).symm | (rw [news_yes gx (by first | exact Or.inl (by omega) | exact Or.inr (by assumption))]; exact hv2)⟩, r⟩
    | true =>
     have qh5 := eq_of_beq h5
     cases h6 : (newer a x) with
     | false =>
      exact toHead (todo' := hd Try.f17 0) tk tq hK [(4, [(0, .b true)]), (5, [(0, .n (i)), (1, .ix 0 [.z x.server.node, .u x.server.inc, .u x.seq, .ro 2 (procs x.peers)])]), (6, [(6, .b true), (10, .con (.v (.bool false)))]), (8, [(0, .z (((i + 1 : Nat) : Int)))])] 2000 [0, 1] [3, 6, 7, 14, 15, 16] r (by kernel_rfl) (an h4 (an (rfI ((i : Nat) : Int)) (an u_2 (an u_3 (an (adverts_at gx) (an h5 (an ((by have k := newerOk a x; rw [h6] at k; exact k) : Con Try.prog 33 [.ag [.z a.server.node, .u a.server.inc, .u a.seq, .d (.ro 2 (procs a.peers))], .ag [.z x.server.node, .u x.server.inc, .u x.seq, .d (.ro 2 (procs x.peers))]] (.v (.bool false))) (an ((wi (by omega)) : IntKind.i64.wrap ((((i : Nat) : Int) : Int) + 1) = ((i + 1 : Nat) : Int)) trivial)))))))) fun ac wd r => again0 (by omega) ac wd ⟨false, ⟨by omega, by first | exact (news_no gx (by omega) (by assumption)).symm | (rw [news_yes gx (by first | exact Or.inl (by omega) | exact Or.inr (by assumption))]; exact hv2)⟩, r⟩
     | true =>
      exact toHead (todo' := hd Try.f17 0) tk tq hK [(4, [(0, .b true)]), (5, [(0, .n (i)), (1, .ix 0 [.z x.server.node, .u x.server.inc, .u x.seq, .ro 2 (procs x.peers)])]), (6, [(6, .b true), (10, .con (.v (.bool true)))]), (8, [(0, .z (((i + 1 : Nat) : Int)))])] 2000 [0, 1] [3, 6, 7, 14, 15, 16] r (by kernel_rfl) (an h4 (an (rfI ((i : Nat) : Int)) (an u_2 (an u_3 (an (adverts_at gx) (an h5 (an ((by have k := newerOk a x; rw [h6] at k; exact k) : Con Try.prog 33 [.ag [.z a.server.node, .u a.server.inc, .u a.seq, .d (.ro 2 (procs a.peers))], .ag [.z x.server.node, .u x.server.inc, .u x.seq, .d (.ro 2 (procs x.peers))]] (.v (.bool true))) (an ((wi (by omega)) : IntKind.i64.wrap ((((i : Nat) : Int) : Int) + 1) = ((i + 1 : Nat) : Int)) trivial)))))))) fun ac wd r => again0 (by omega) ac wd ⟨true, ⟨by omega, by first | exact (news_no gx (by omega) (by assumption)).symm | (rw [news_yes gx (by first | exact Or.inl (by omega) | exact Or.inr (by assumption))]; exact hv2)⟩, r⟩
 | true =>
  refine toHead (todo' := hd Try.f17 0) (E' := [(3, .pt 0 0), (6, .sl 1 ((advertsO (book l)).length)), (7, .d (.v (.bool true))), (14, .sl 1 ((advertsO (book l)).length)), (15, .n ((book l).length)), (16, .z 0)]) (M' := [.bx 33 [.z a.server.node, .u a.server.inc, .u a.seq, .d (.ro 2 (procs a.peers))], .rw 33 4 (adverts (book l))]) tk tq hK [(2, [(1, .con (.v (.bool true)))]), (3, [(1, .z ((((book l).length : Nat) : Int)))])] 2000 [0, 1] [3, 6, 7, 14, 15, 16] r (by kernel_rfl) (an ((by have k := mayOk a ha; rw [h0] at k; exact k) : Con Try.prog 32 [.ag [.z a.server.node, .u a.server.inc, .u a.seq, .d (.ro 2 (procs a.peers))]] (.v (.bool true))) (an ((by simp) : (((advertsO (book l)).length : Nat) : Int) = (((book l).length : Nat) : Int)) trivial)) fun ac wd r => ?_
  refine Goes.rounds (Φ := fun (i : Nat) ac wd => ∃ nw : Bool, (i ≤ (book l).length ∧ nw = newsTo (book l) a i) ∧ RE' [] w0 K 40 [(3, .pt 0 0), (6, .sl 1 ((book l).length)), (7, .d (.v (.bool nw))), (14, .sl 1 ((book l).length)), (15, .n ((book l).length)), (16, .n i)] [.bx 33 [.z a.server.node, .u a.server.inc, .u a.seq, .d (.ro 2 (procs a.peers))], .rw 33 4 (adverts (book l))] ac wd) ((book l).length) ?_ (Nat.zero_le _) ⟨true, ⟨Nat.zero_le _, by simp [newsTo, *]⟩, (r).cast (by simp) rfl⟩
  clear r
  rintro i hi0 again0 ac wd ⟨nw, hv0, r⟩
  obtain ⟨hi1, hv2⟩ := hv0
  have hbl := (book_good l).len
  cases nw with
  | false =>
   cases h7 : (decide ((((i : Nat) : Int) : Int) < (((book l).length : Nat) : Int))) with
   | false =>
    have qh7 := of_decide_eq_false h7
    rw [show (.tu [.em 33 4 (advertsO (takeG l a)), .v (.bool (newsG l a))] : DV) = .tu [.em 33 4 (advertsO (takeG l a)), .v (.bool false)] from (by rw [show newsG l a = false from by unfold newsG; rw [show (book l).length = i by omega]; exact hv2.symm])]
    exact toRet tk tq hK rfl [(4, [(0, .b false)]), (9, [(4, .call [.d (.ro 4 (adverts (book l ++ [a])))] (.em 33 4 (advertsO (takeG l a))))])] 2000 r (by kernel_rfl) (an h7 (an ((by first | rfl | (simp; done) | (simp <;> omega)) : ((book l).length) = (adverts (book l)).length) (an ((by first | rfl | (simp; done) | (simp <;> omega)) : (1) = ([[.z a.server.node, .u a.server.inc, .u a.seq, .ro 2 (procs a.peers)]] : List (List DV)).length) (an ((by first | omega | (simp; done) | (simp <;> omega)) : (2 * (((book l).length) + (1)) + 0) * 48 ≤ 281474976710656) (an ((by first | omega | (simp; done) | (simp <;> omega)) : ((book l).length) + (1) < 4611686018427387904) (an ((by first | exact one_adverts [a] | simp [OneR, AV.one, oneC]) : OneR ([[.z a.server.node, .u a.server.inc, .u a.seq, .ro 2 (procs a.peers)]])) (an (ofOk (book l ++ [a]) (by simp; omega) (more_ok ha)) (an ((ind_adverts _ _) : Ind (.em 33 4 (advertsO (takeG l a)))) (an (rfN (4)) (an ((by first | rfl | (simp; done) | (simp <;> omega)) : ((book l).length + (1)) = (adverts (book l) ++ [[.z a.server.node, .u a.server.inc, .u a.seq, .ro 2 (procs a.peers)]] : List (List DV)).length) (an ((by first | exact froz_adverts _ | (rw [adverts_app]; exact froz_adverts _)) : frozR (adverts (book l) ++ [[.z a.server.node, .u a.server.inc, .u a.seq, .ro 2 (procs a.peers)]]) = adverts (book l ++ [a])) (an (rfN ((advertsO (takeG l a)).length)) trivial))))))))))))
   | true =>
    have qh7 := of_decide_eq_true h7
    obtain ⟨x, gx⟩ : ∃ x, (book l)[i]? = some x := ⟨_, List.getElem?_eq_getElem (by omega)⟩
    have u_4 := ((by first | omega | decide | (simp; omega)) : (i) < ((book l).length))
    have u_5 := ((by first | rfl | (simp; done) | (simp <;> omega)) : ((book l).length) ≤ (adverts (book l)).length)
    cases h8 : ((x.server.node : Int) == a.server.node) with
    | false =>
     have qh8 := ne_of_beq_false h8
     exact toHead (todo' := hd Try.f17 0) tk tq hK [(4, [(0, .b true)]), (5, [(0, .n (i)), (1, .ix 0 [.z x.server.node, .u x.server.inc, .u x.seq, .ro 2 (procs x.peers)])]), (6, [(6, .b false)]), (8, [(0, .z (((i + 1 : Nat) : Int)))])] 2000 [0, 1] [3, 6, 7, 14, 15, 16] r (by kernel_rfl) (an h7 (an (rfI ((i : Nat) : Int)) (an u_4 (an u_5 (an (adverts_at gx) (an h8 (an ((wi (by omega)) : IntKind.i64.wrap ((((i : Nat) : Int) : Int) + 1) = ((i + 1 : Nat) : Int)) trivial))))))) fun ac wd r => again0 (by omega) ac wd ⟨false, ⟨by omega, by first | exact (news_no gx (by omega) (by assumption)).symm | (rw [news_yes gx (by first | exact Or.inl (by omega) | exact Or.inr (by assumption))]; exact hv2)⟩, r⟩
    | true =>
     have qh8 := eq_of_beq h8
     cases h9 : (newer a x) with
     | false =>
      exact toHead (todo' := hd Try.f17 0) tk tq hK [(4, [(0, .b true)]), (5, [(0, .n (i)), (1, .ix 0 [.z x.server.node, .u x.server.inc, .u x.seq, .ro 2 (procs x.peers)])]), (6, [(6, .b true), (10, .con (.v (.bool false)))]), (8, [(0, .z (((i + 1 : Nat) : Int)))])] 2000 [0, 1] [3, 6, 7, 14, 15, 16] r (by kernel_rfl) (an h7 (an (rfI ((i : Nat) : Int)) (an u_4 (an u_5 (an (adverts_at gx) (an h8 (an ((by have k := newerOk a x; rw [h9] at k; exact k) : Con Try.prog 33 [.ag [.z a.server.node, .u a.server.inc, .u a.seq, .d (.ro 2 (procs a.peers))], .ag [.z x.server.node, .u x.server.inc, .u x.seq, .d (.ro 2 (procs x.peers))]] (.v (.bool false))) (an ((wi (by omega)) : IntKind.i64.wrap ((((i : Nat) : Int) : Int) + 1) = ((i + 1 : Nat) : Int)) trivial)))))))) fun ac wd r => again0 (by omega) ac wd ⟨false, ⟨by omega, by first | exact (news_no gx (by omega) (by assumption)).symm | (rw [news_yes gx (by first | exact Or.inl (by omega) | exact Or.inr (by assumption))]; exact hv2)⟩, r⟩
     | true =>
      exact toHead (todo' := hd Try.f17 0) tk tq hK [(4, [(0, .b true)]), (5, [(0, .n (i)), (1, .ix 0 [.z x.server.node, .u x.server.inc, .u x.seq, .ro 2 (procs x.peers)])]), (6, [(6, .b true), (10, .con (.v (.bool true)))]), (8, [(0, .z (((i + 1 : Nat) : Int)))])] 2000 [0, 1] [3, 6, 7, 14, 15, 16] r (by kernel_rfl) (an h7 (an (rfI ((i : Nat) : Int)) (an u_4 (an u_5 (an (adverts_at gx) (an h8 (an ((by have k := newerOk a x; rw [h9] at k; exact k) : Con Try.prog 33 [.ag [.z a.server.node, .u a.server.inc, .u a.seq, .d (.ro 2 (procs a.peers))], .ag [.z x.server.node, .u x.server.inc, .u x.seq, .d (.ro 2 (procs x.peers))]] (.v (.bool true))) (an ((wi (by omega)) : IntKind.i64.wrap ((((i : Nat) : Int) : Int) + 1) = ((i + 1 : Nat) : Int)) trivial)))))))) fun ac wd r => again0 (by omega) ac wd ⟨false, ⟨by omega, by first | exact (news_no gx (by omega) (by assumption)).symm | (rw [news_yes gx (by first | exact Or.inl (by omega) | exact Or.inr (by assumption))]; exact hv2)⟩, r⟩
  | true =>
   cases h10 : (decide ((((i : Nat) : Int) : Int) < (((book l).length : Nat) : Int))) with
   | false =>
    have qh10 := of_decide_eq_false h10
    rw [show (.tu [.em 33 4 (advertsO (takeG l a)), .v (.bool (newsG l a))] : DV) = .tu [.em 33 4 (advertsO (takeG l a)), .v (.bool true)] from (by rw [show newsG l a = true from by unfold newsG; rw [show (book l).length = i by omega]; exact hv2.symm])]
    exact toRet tk tq hK rfl [(4, [(0, .b false)]), (9, [(4, .call [.d (.ro 4 (adverts (book l ++ [a])))] (.em 33 4 (advertsO (takeG l a))))])] 2000 r (by kernel_rfl) (an h10 (an ((by first | rfl | (simp; done) | (simp <;> omega)) : ((book l).length) = (adverts (book l)).length) (an ((by first | rfl | (simp; done) | (simp <;> omega)) : (1) = ([[.z a.server.node, .u a.server.inc, .u a.seq, .ro 2 (procs a.peers)]] : List (List DV)).length) (an ((by first | omega | (simp; done) | (simp <;> omega)) : (2 * (((book l).length) + (1)) + 0) * 48 ≤ 281474976710656) (an ((by first | omega | (simp; done) | (simp <;> omega)) : ((book l).length) + (1) < 4611686018427387904) (an ((by first | exact one_adverts [a] | simp [OneR, AV.one, oneC]) : OneR ([[.z a.server.node, .u a.server.inc, .u a.seq, .ro 2 (procs a.peers)]])) (an (ofOk (book l ++ [a]) (by simp; omega) (more_ok ha)) (an ((ind_adverts _ _) : Ind (.em 33 4 (advertsO (takeG l a)))) (an (rfN (4)) (an ((by first | rfl | (simp; done) | (simp <;> omega)) : ((book l).length + (1)) = (adverts (book l) ++ [[.z a.server.node, .u a.server.inc, .u a.seq, .ro 2 (procs a.peers)]] : List (List DV)).length) (an ((by first | exact froz_adverts _ | (rw [adverts_app]; exact froz_adverts _)) : frozR (adverts (book l) ++ [[.z a.server.node, .u a.server.inc, .u a.seq, .ro 2 (procs a.peers)]]) = adverts (book l ++ [a])) (an (rfN ((advertsO (takeG l a)).length)) trivial))))))))))))
   | true =>
    have qh10 := of_decide_eq_true h10
    obtain ⟨x, gx⟩ : ∃ x, (book l)[i]? = some x := ⟨_, List.getElem?_eq_getElem (by omega)⟩
    have u_6 := ((by first | omega | decide | (simp; omega)) : (i) < ((book l).length))
    have u_7 := ((by first | rfl | (simp; done) | (simp <;> omega)) : ((book l).length) ≤ (adverts (book l)).length)
    cases h11 : ((x.server.node : Int) == a.server.node) with
    | false =>
     have qh11 := ne_of_beq_false h11
     exact toHead (todo' := hd Try.f17 0) tk tq hK [(4, [(0, .b true)]), (5, [(0, .n (i)), (1, .ix 0 [.z x.server.node, .u x.server.inc, .u x.seq, .ro 2 (procs x.peers)])]), (6, [(6, .b false)]), (8, [(0, .z (((i + 1 : Nat) : Int)))])] 2000 [0, 1] [3, 6, 7, 14, 15, 16] r (by kernel_rfl) (an h10 (an (rfI ((i : Nat) : Int)) (an u_6 (an u_7 (an (adverts_at gx) (an h11 (an ((wi (by omega)) : IntKind.i64.wrap ((((i : Nat) : Int) : Int) + 1) = ((i + 1 : Nat) : Int)) trivial))))))) fun ac wd r => again0 (by omega) ac wd ⟨true, ⟨by omega, by first | exact (news_no gx (by omega) (by assumption)).symm | (rw [news_yes gx (by first | exact Or.inl (by omega) | exact Or.inr (by assumption))]; exact hv2)⟩, r⟩
    | true =>
     have qh11 := eq_of_beq h11
     cases h12 : (newer a x) with
     | false =>
      exact toHead (todo' := hd Try.f17 0) tk tq hK [(4, [(0, .b true)]), (5, [(0, .n (i)), (1, .ix 0 [.z x.server.node, .u x.server.inc, .u x.seq, .ro 2 (procs x.peers)])]), (6, [(6, .b true), (10, .con (.v (.bool false)))]), (8, [(0, .z (((i + 1 : Nat) : Int)))])] 2000 [0, 1] [3, 6, 7, 14, 15, 16] r (by kernel_rfl) (an h10 (an (rfI ((i : Nat) : Int)) (an u_6 (an u_7 (an (adverts_at gx) (an h11 (an ((by have k := newerOk a x; rw [h12] at k; exact k) : Con Try.prog 33 [.ag [.z a.server.node, .u a.server.inc, .u a.seq, .d (.ro 2 (procs a.peers))], .ag [.z x.server.node, .u x.server.inc, .u x.seq, .d (.ro 2 (procs x.peers))]] (.v (.bool false))) (an ((wi (by omega)) : IntKind.i64.wrap ((((i : Nat) : Int) : Int) + 1) = ((i + 1 : Nat) : Int)) trivial)))))))) fun ac wd r => again0 (by omega) ac wd ⟨false, ⟨by omega, by first | exact (news_no gx (by omega) (by assumption)).symm | (rw [news_yes gx (by first | exact Or.inl (by omega) | exact Or.inr (by assumption))]; exact hv2)⟩, r⟩
     | true =>
      exact toHead (todo' := hd Try.f17 0) tk tq hK [(4, [(0, .b true)]), (5, [(0, .n (i)), (1, .ix 0 [.z x.server.node, .u x.server.inc, .u x.seq, .ro 2 (procs x.peers)])]), (6, [(6, .b true), (10, .con (.v (.bool true)))]), (8, [(0, .z (((i + 1 : Nat) : Int)))])] 2000 [0, 1] [3, 6, 7, 14, 15, 16] r (by kernel_rfl) (an h10 (an (rfI ((i : Nat) : Int)) (an u_6 (an u_7 (an (adverts_at gx) (an h11 (an ((by have k := newerOk a x; rw [h12] at k; exact k) : Con Try.prog 33 [.ag [.z a.server.node, .u a.server.inc, .u a.seq, .d (.ro 2 (procs a.peers))], .ag [.z x.server.node, .u x.server.inc, .u x.seq, .d (.ro 2 (procs x.peers))]] (.v (.bool true))) (an ((wi (by omega)) : IntKind.i64.wrap ((((i : Nat) : Int) : Int) + 1) = ((i + 1 : Nat) : Int)) trivial)))))))) fun ac wd r => again0 (by omega) ac wd ⟨true, ⟨by omega, by first | exact (news_no gx (by omega) (by assumption)).symm | (rw [news_yes gx (by first | exact Or.inl (by omega) | exact Or.inr (by assumption))]; exact hv2)⟩, r⟩
set_option maxRecDepth 100000 in
theorem refTakeOk (l : List Advert) (a : Advert) (hb : l.length ≤ 9223372036854775807) (hl : ∀ x ∈ l, x.peers.length ≤ 9223372036854775807) (ha : a.peers.length ≤ 9223372036854775807) : Con Try.prog 18 [.d (.ro 4 (adverts l)), .ag [.z a.server.node, .u a.server.inc, .u a.seq, .d (.ro 2 (procs a.peers))]] (.tu [.em 33 4 (advertsO (takeG l a)), .v (.bool (newsG l a))]) := by
 refine Con.intro (by kernel_rfl) rfl rfl 44 rfl rfl fun w0 K ac hK r => ?_
 refine toAt (todo' := aft Try.f18 1) (E' := [(3, .pt 0 0), (4, .d (.v (.slice none 0 0))), (5, .d (.v (.bool false))), (6, .sl 1 ((advertsO (book l)).length))]) (M' := [.bx 33 [.z a.server.node, .u a.server.inc, .u a.seq, .d (.ro 2 (procs a.peers))], .rw 33 4 (advertsO (book l))]) tk tq hK [(1, [(1, .con (.em 33 4 (advertsO (book l))))])] 4 [0, 1] [3, 4, 5, 6] r (by kernel_rfl) (an (refOf l hb hl) trivial) fun ac wd r => ?_
 have r := r.freeze (M1 := [.bx 33 [.z a.server.node, .u a.server.inc, .u a.seq, .d (.ro 2 (procs a.peers))], .rw 33 4 (frozR (advertsO (book l)))]) (M2 := [.bx 33 [.z a.server.node, .u a.server.inc, .u a.seq, .d (.ro 2 (procs a.peers))], .rw 33 4 (adverts (book l))]) [1] (by kernel_rfl) (by rw [froz_advertsO])
 cases h0 : (a.may) with
 | false =>
  refine toHead (todo' := hd Try.f18 0) (E' := [(3, .pt 0 0), (6, .sl 1 ((advertsO (book l)).length)), (7, .d (.v (.bool false))), (8, .z 0)]) (M' := [.bx 33 [.z a.server.node, .u a.server.inc, .u a.seq, .d (.ro 2 (procs a.peers))], .rw 33 4 (adverts (book l))]) tk tq hK [(2, [(1, .con (.v (.bool false)))])] 2000 [0, 1] [3, 6, 7, 8] r (by kernel_rfl) (an ((by have k := refAdvert a ha; rw [h0] at k; exact k) : Con Try.prog 35 [.ag [.z a.server.node, .u a.server.inc, .u a.seq, .d (.ro 2 (procs a.peers))]] (.v (.bool false))) trivial) fun ac wd r => ?_
  refine Goes.rounds (Φ := fun (i : Nat) ac wd => ∃ nw : Bool, (i ≤ (book l).length ∧ nw = newsTo (book l) a i) ∧ RE' [] w0 K 44 [(3, .pt 0 0), (6, .sl 1 ((book l).length)), (7, .d (.v (.bool nw))), (8, .n i)] [.bx 33 [.z a.server.node, .u a.server.inc, .u a.seq, .d (.ro 2 (procs a.peers))], .rw 33 4 (adverts (book l))] ac wd) ((book l).length) ?_ (Nat.zero_le _) ⟨false, ⟨Nat.zero_le _, by simp [newsTo, *]⟩, (r).cast (by simp) rfl⟩
  clear r
  rintro i hi0 again0 ac wd ⟨nw, hv0, r⟩
  obtain ⟨hi1, hv2⟩ := hv0
  have hbl := (book_good l).len
  cases nw with
  | false =>
   cases h1 : (decide ((((i : Nat) : Int) : Int) < (((book l).length : Nat) : Int))) with
   | false =>
    have qh1 := of_decide_eq_false h1
    rw [show (.tu [.em 33 4 (advertsO (takeG l a)), .v (.bool (newsG l a))] : DV) = .tu [.em 33 4 (advertsO (takeG l a)), .v (.bool false)] from (by rw [show newsG l a = false from by unfold newsG; rw [show (book l).length = i by omega]; exact hv2.symm])]
    exact toRet tk tq hK rfl [(4, [(3, .b false)]), (8, [(4, .call [.d (.ro 4 (adverts (book l ++ [a])))] (.em 33 4 (advertsO (takeG l a))))])] 2000 r (by kernel_rfl) (an h1 (an ((by first | rfl | (simp; done) | (simp <;> omega)) : ((book l).length) = (adverts (book l)).length) (an ((by first | rfl | (simp; done) | (simp <;> omega)) : (1) = ([[.z a.server.node, .u a.server.inc, .u a.seq, .ro 2 (procs a.peers)]] : List (List DV)).length) (an ((by first | omega | (simp; done) | (simp <;> omega)) : (2 * (((book l).length) + (1)) + 0) * 48 ≤ 281474976710656) (an ((by first | omega | (simp; done) | (simp <;> omega)) : ((book l).length) + (1) < 4611686018427387904) (an ((by first | exact one_adverts [a] | simp [OneR, AV.one, oneC]) : OneR ([[.z a.server.node, .u a.server.inc, .u a.seq, .ro 2 (procs a.peers)]])) (an (refOf (book l ++ [a]) (by simp; omega) (more_ok ha)) (an ((ind_adverts _ _) : Ind (.em 33 4 (advertsO (takeG l a)))) (an (rfN (4)) (an ((by first | rfl | (simp; done) | (simp <;> omega)) : ((book l).length + (1)) = (adverts (book l) ++ [[.z a.server.node, .u a.server.inc, .u a.seq, .ro 2 (procs a.peers)]] : List (List DV)).length) (an ((by first | exact froz_adverts _ | (rw [adverts_app]; exact froz_adverts _)) : frozR (adverts (book l) ++ [[.z a.server.node, .u a.server.inc, .u a.seq, .ro 2 (procs a.peers)]]) = adverts (book l ++ [a])) (an (rfN ((advertsO (takeG l a)).length)) trivial))))))))))))
   | true =>
    have qh1 := of_decide_eq_true h1
    obtain ⟨x, gx⟩ : ∃ x, (book l)[i]? = some x := ⟨_, List.getElem?_eq_getElem (by omega)⟩
    have u_0 := ((by first | omega | decide | (simp; omega)) : (i) < ((book l).length))
    have u_1 := ((by first | rfl | (simp; done) | (simp <;> omega)) : ((book l).length) ≤ (adverts (book l)).length)
    cases h2 : ((x.server.node : Int) == a.server.node) with
    | false =>
     have qh2 := ne_of_beq_false h2
     exact toHead (todo' := hd Try.f18 0) tk tq hK [(4, [(3, .b true)]), (5, [(1, .z (((i + 1 : Nat) : Int)))]), (6, [(2, .n (i)), (5, .ix 0 [.z x.server.node, .u x.server.inc, .u x.seq, .ro 2 (procs x.peers)]), (9, .b false)])] 2000 [0, 1] [3, 6, 7, 8] r (by kernel_rfl) (an h1 (an (rfI ((i : Nat) : Int)) (an u_0 (an u_1 (an (adverts_at gx) (an h2 (an ((wi (by omega)) : IntKind.i64.wrap ((((i : Nat) : Int) : Int) + 1) = ((i + 1 : Nat) : Int)) trivial))))))) fun ac wd r => again0 (by omega) ac wd ⟨false, ⟨by omega, by first | exact (news_no gx (by omega) (by assumption)).symm | (rw [news_yes gx (by first | exact Or.inl (by omega) | exact Or.inr (by assumption))]; exact hv2)⟩, r⟩
    | true =>
     have qh2 := eq_of_beq h2
     cases h3 : (newer a x) with
     | false =>
      exact toHead (todo' := hd Try.f18 0) tk tq hK [(4, [(3, .b true)]), (5, [(1, .z (((i + 1 : Nat) : Int)))]), (6, [(2, .n (i)), (5, .ix 0 [.z x.server.node, .u x.server.inc, .u x.seq, .ro 2 (procs x.peers)]), (9, .b true), (14, .n (i)), (15, .ix 0 [.z x.server.node, .u x.server.inc, .u x.seq, .ro 2 (procs x.peers)]), (16, .con (.v (.bool false)))])] 2000 [0, 1] [3, 6, 7, 8] r (by kernel_rfl) (an h1 (an (rfI ((i : Nat) : Int)) (an u_0 (an u_1 (an (adverts_at gx) (an h2 (an (rfI ((i : Nat) : Int)) (an u_0 (an u_1 (an (adverts_at gx) (an ((by have k := refNewer a x; rw [h3] at k; exact k) : Con Try.prog 36 [.ag [.z a.server.node, .u a.server.inc, .u a.seq, .d (.ro 2 (procs a.peers))], .ag [.z x.server.node, .u x.server.inc, .u x.seq, .d (.ro 2 (procs x.peers))]] (.v (.bool false))) (an ((wi (by omega)) : IntKind.i64.wrap ((((i : Nat) : Int) : Int) + 1) = ((i + 1 : Nat) : Int)) trivial)))))))))))) fun ac wd r => again0 (by omega) ac wd ⟨false, ⟨by omega, by first | exact (news_no gx (by omega) (by assumption)).symm | (rw [news_yes gx (by first | exact Or.inl (by omega) | exact Or.inr (by assumption))]; exact hv2)⟩, r⟩
     | true =>
      exact toHead (todo' := hd Try.f18 0) tk tq hK [(4, [(3, .b true)]), (5, [(1, .z (((i + 1 : Nat) : Int)))]), (6, [(2, .n (i)), (5, .ix 0 [.z x.server.node, .u x.server.inc, .u x.seq, .ro 2 (procs x.peers)]), (9, .b true), (14, .n (i)), (15, .ix 0 [.z x.server.node, .u x.server.inc, .u x.seq, .ro 2 (procs x.peers)]), (16, .con (.v (.bool true)))])] 2000 [0, 1] [3, 6, 7, 8] r (by kernel_rfl) (an h1 (an (rfI ((i : Nat) : Int)) (an u_0 (an u_1 (an (adverts_at gx) (an h2 (an (rfI ((i : Nat) : Int)) (an u_0 (an u_1 (an (adverts_at gx) (an ((by have k := refNewer a x; rw [h3] at k; exact k) : Con Try.prog 36 [.ag [.z a.server.node, .u a.server.inc, .u a.seq, .d (.ro 2 (procs a.peers))], .ag [.z x.server.node, .u x.server.inc, .u x.seq, .d (.ro 2 (procs x.peers))]] (.v (.bool true))) (an ((wi (by omega)) : IntKind.i64.wrap ((((i : Nat) : Int) : Int) + 1) = ((i + 1 : Nat) : Int)) trivial)))))))))))) fun ac wd r => again0 (by omega) ac wd ⟨false, ⟨by omega, by first | exact (news_no gx (by omega) (by assumption)).symm | (rw [news_yes gx (by first | exact Or.inl (by omega) | exact Or.inr (by assumption))]; exact hv2)⟩, r⟩
  | true =>
   cases h4 : (decide ((((i : Nat) : Int) : Int) < (((book l).length : Nat) : Int))) with
   | false =>
    have qh4 := of_decide_eq_false h4
    rw [show (.tu [.em 33 4 (advertsO (takeG l a)), .v (.bool (newsG l a))] : DV) = .tu [.em 33 4 (advertsO (takeG l a)), .v (.bool true)] from (by rw [show newsG l a = true from by unfold newsG; rw [show (book l).length = i by omega]; exact hv2.symm])]
    exact toRet tk tq hK rfl [(4, [(3, .b false)]), (8, [(4, .call [.d (.ro 4 (adverts (book l ++ [a])))] (.em 33 4 (advertsO (takeG l a))))])] 2000 r (by kernel_rfl) (an h4 (an ((by first | rfl | (simp; done) | (simp <;> omega)) : ((book l).length) = (adverts (book l)).length) (an ((by first | rfl | (simp; done) | (simp <;> omega)) : (1) = ([[.z a.server.node, .u a.server.inc, .u a.seq, .ro 2 (procs a.peers)]] : List (List DV)).length) (an ((by first | omega | (simp; done) | (simp <;> omega)) : (2 * (((book l).length) + (1)) + 0) * 48 ≤ 281474976710656) (an ((by first | omega | (simp; done) | (simp <;> omega)) : ((book l).length) + (1) < 4611686018427387904) (an ((by first | exact one_adverts [a] | simp [OneR, AV.one, oneC]) : OneR ([[.z a.server.node, .u a.server.inc, .u a.seq, .ro 2 (procs a.peers)]])) (an (refOf (book l ++ [a]) (by simp; omega) (more_ok ha)) (an ((ind_adverts _ _) : Ind (.em 33 4 (advertsO (takeG l a)))) (an (rfN (4)) (an ((by first | rfl | (simp; done) | (simp <;> omega)) : ((book l).length + (1)) = (adverts (book l) ++ [[.z a.server.node, .u a.server.inc, .u a.seq, .ro 2 (procs a.peers)]] : List (List DV)).length) (an ((by first | exact froz_adverts _ | (rw [adverts_app]; exact froz_adverts _)) : frozR (adverts (book l) ++ [[.z a.server.node, .u a.server.inc, .u a.seq, .ro 2 (procs a.peers)]]) = adverts (book l ++ [a])) (an (rfN ((advertsO (takeG l a)).length)) trivial))))))))))))
   | true =>
    have qh4 := of_decide_eq_true h4
    obtain ⟨x, gx⟩ : ∃ x, (book l)[i]? = some x := ⟨_, List.getElem?_eq_getElem (by omega)⟩
    have u_2 := ((by first | omega | decide | (simp; omega)) : (i) < ((book l).length))
    have u_3 := ((by first | rfl | (simp; done) | (simp <;> omega)) : ((book l).length) ≤ (adverts (book l)).length)
    cases h5 : ((x.server.node : Int) == a.server.node) with
    | false =>
     have qh5 := ne_of_beq_false h5
     exact toHead (todo' := hd Try.f18 0) tk tq hK [(4, [(3, .b true)]), (5, [(1, .z (((i + 1 : Nat) : Int)))]), (6, [(2, .n (i)), (5, .ix 0 [.z x.server.node, .u x.server.inc, .u x.seq, .ro 2 (procs x.peers)]), (9, .b false)])] 2000 [0, 1] [3, 6, 7, 8] r (by kernel_rfl) (an h4 (an (rfI ((i : Nat) : Int)) (an u_2 (an u_3 (an (adverts_at gx) (an h5 (an ((wi (by omega)) : IntKind.i64.wrap ((((i : Nat) : Int) : Int) + 1) = ((i + 1 : Nat) : Int)) trivial))))))) fun ac wd r => again0 (by omega) ac wd ⟨true, ⟨by omega, by first | exact (news_no gx (by omega) (by assumption)).symm | (rw [news_yes gx (by first | exact Or.inl (by omega) | exact Or.inr (by assumption))]; exact hv2)⟩, r⟩
    | true =>
     have qh5 := eq_of_beq h5
     cases h6 : (newer a x) with
     | false =>
      exact toHead (todo' := hd Try.f18 0) tk tq hK [(4, [(3, .b true)]), (5, [(1, .z (((i + 1 : Nat) : Int)))]), (6, [(2, .n (i)), (5, .ix 0 [.z x.server.node, .u x.server.inc, .u x.seq, .ro 2 (procs x.peers)]), (9, .b true), (14, .n (i)), (15, .ix 0 [.z x.server.node, .u x.server.inc, .u x.seq, .ro 2 (procs x.peers)]), (16, .con (.v (.bool false)))])] 2000 [0, 1] [3, 6, 7, 8] r (by kernel_rfl) (an h4 (an (rfI ((i : Nat) : Int)) (an u_2 (an u_3 (an (adverts_at gx) (an h5 (an (rfI ((i : Nat) : Int)) (an u_2 (an u_3 (an (adverts_at gx) (an ((by have k := refNewer a x; rw [h6] at k; exact k) : Con Try.prog 36 [.ag [.z a.server.node, .u a.server.inc, .u a.seq, .d (.ro 2 (procs a.peers))], .ag [.z x.server.node, .u x.server.inc, .u x.seq, .d (.ro 2 (procs x.peers))]] (.v (.bool false))) (an ((wi (by omega)) : IntKind.i64.wrap ((((i : Nat) : Int) : Int) + 1) = ((i + 1 : Nat) : Int)) trivial)))))))))))) fun ac wd r => again0 (by omega) ac wd ⟨false, ⟨by omega, by first | exact (news_no gx (by omega) (by assumption)).symm | (rw [news_yes gx (by first | exact Or.inl (by omega) | exact Or.inr (by assumption))]; exact hv2)⟩, r⟩
     | true =>
      exact toHead (todo' := hd Try.f18 0) tk tq hK [(4, [(3, .b true)]), (5, [(1, .z (((i + 1 : Nat) : Int)))]), (6, [(2, .n (i)), (5, .ix 0 [.z x.server.node, .u x.server.inc, .u x.seq, .ro 2 (procs x.peers)]), (9, .b true), (14, .n (i)), (15, .ix 0 [.z x.server.node, .u x.server.inc, .u x.seq, .ro 2 (procs x.peers)]), (16, .con (.v (.bool true)))])] 2000 [0, 1] [3, 6, 7, 8] r (by kernel_rfl) (an h4 (an (rfI ((i : Nat) : Int)) (an u_2 (an u_3 (an (adverts_at gx) (an h5 (an (rfI ((i : Nat) : Int)) (an u_2 (an u_3 (an (adverts_at gx) (an ((by have k := refNewer a x; rw [h6] at k; exact k) : Con Try.prog 36 [.ag [.z a.server.node, .u a.server.inc, .u a.seq, .d (.ro 2 (procs a.peers))], .ag [.z x.server.node, .u x.server.inc, .u x.seq, .d (.ro 2 (procs x.peers))]] (.v (.bool true))) (an ((wi (by omega)) : IntKind.i64.wrap ((((i : Nat) : Int) : Int) + 1) = ((i + 1 : Nat) : Int)) trivial)))))))))))) fun ac wd r => again0 (by omega) ac wd ⟨true, ⟨by omega, by first | exact (news_no gx (by omega) (by assumption)).symm | (rw [news_yes gx (by first | exact Or.inl (by omega) | exact Or.inr (by assumption))]; exact hv2)⟩, r⟩
 | true =>
  refine toHead (todo' := hd Try.f18 0) (E' := [(3, .pt 0 0), (6, .sl 1 ((advertsO (book l)).length)), (7, .d (.v (.bool true))), (8, .z 0)]) (M' := [.bx 33 [.z a.server.node, .u a.server.inc, .u a.seq, .d (.ro 2 (procs a.peers))], .rw 33 4 (adverts (book l))]) tk tq hK [(2, [(1, .con (.v (.bool true)))])] 2000 [0, 1] [3, 6, 7, 8] r (by kernel_rfl) (an ((by have k := refAdvert a ha; rw [h0] at k; exact k) : Con Try.prog 35 [.ag [.z a.server.node, .u a.server.inc, .u a.seq, .d (.ro 2 (procs a.peers))]] (.v (.bool true))) trivial) fun ac wd r => ?_
  refine Goes.rounds (Φ := fun (i : Nat) ac wd => ∃ nw : Bool, (i ≤ (book l).length ∧ nw = newsTo (book l) a i) ∧ RE' [] w0 K 44 [(3, .pt 0 0), (6, .sl 1 ((book l).length)), (7, .d (.v (.bool nw))), (8, .n i)] [.bx 33 [.z a.server.node, .u a.server.inc, .u a.seq, .d (.ro 2 (procs a.peers))], .rw 33 4 (adverts (book l))] ac wd) ((book l).length) ?_ (Nat.zero_le _) ⟨true, ⟨Nat.zero_le _, by simp [newsTo, *]⟩, (r).cast (by simp) rfl⟩
  clear r
  rintro i hi0 again0 ac wd ⟨nw, hv0, r⟩
  obtain ⟨hi1, hv2⟩ := hv0
  have hbl := (book_good l).len
  cases nw with
  | false =>
   cases h7 : (decide ((((i : Nat) : Int) : Int) < (((book l).length : Nat) : Int))) with
   | false =>
    have qh7 := of_decide_eq_false h7
    rw [show (.tu [.em 33 4 (advertsO (takeG l a)), .v (.bool (newsG l a))] : DV) = .tu [.em 33 4 (advertsO (takeG l a)), .v (.bool false)] from (by rw [show newsG l a = false from by unfold newsG; rw [show (book l).length = i by omega]; exact hv2.symm])]
    exact toRet tk tq hK rfl [(4, [(3, .b false)]), (8, [(4, .call [.d (.ro 4 (adverts (book l ++ [a])))] (.em 33 4 (advertsO (takeG l a))))])] 2000 r (by kernel_rfl) (an h7 (an ((by first | rfl | (simp; done) | (simp <;> omega)) : ((book l).length) = (adverts (book l)).length) (an ((by first | rfl | (simp; done) | (simp <;> omega)) : (1) = ([[.z a.server.node, .u a.server.inc, .u a.seq, .ro 2 (procs a.peers)]] : List (List DV)).length) (an ((by first | omega | (simp; done) | (simp <;> omega)) : (2 * (((book l).length) + (1)) + 0) * 48 ≤ 281474976710656) (an ((by first | omega | (simp; done) | (simp <;> omega)) : ((book l).length) + (1) < 4611686018427387904) (an ((by first | exact one_adverts [a] | simp [OneR, AV.one, oneC]) : OneR ([[.z a.server.node, .u a.server.inc, .u a.seq, .ro 2 (procs a.peers)]])) (an (refOf (book l ++ [a]) (by simp; omega) (more_ok ha)) (an ((ind_adverts _ _) : Ind (.em 33 4 (advertsO (takeG l a)))) (an (rfN (4)) (an ((by first | rfl | (simp; done) | (simp <;> omega)) : ((book l).length + (1)) = (adverts (book l) ++ [[.z a.server.node, .u a.server.inc, .u a.seq, .ro 2 (procs a.peers)]] : List (List DV)).length) (an ((by first | exact froz_adverts _ | (rw [adverts_app]; exact froz_adverts _)) : frozR (adverts (book l) ++ [[.z a.server.node, .u a.server.inc, .u a.seq, .ro 2 (procs a.peers)]]) = adverts (book l ++ [a])) (an (rfN ((advertsO (takeG l a)).length)) trivial))))))))))))
   | true =>
    have qh7 := of_decide_eq_true h7
    obtain ⟨x, gx⟩ : ∃ x, (book l)[i]? = some x := ⟨_, List.getElem?_eq_getElem (by omega)⟩
    have u_4 := ((by first | omega | decide | (simp; omega)) : (i) < ((book l).length))
    have u_5 := ((by first | rfl | (simp; done) | (simp <;> omega)) : ((book l).length) ≤ (adverts (book l)).length)
    cases h8 : ((x.server.node : Int) == a.server.node) with
    | false =>
     have qh8 := ne_of_beq_false h8
     exact toHead (todo' := hd Try.f18 0) tk tq hK [(4, [(3, .b true)]), (5, [(1, .z (((i + 1 : Nat) : Int)))]), (6, [(2, .n (i)), (5, .ix 0 [.z x.server.node, .u x.server.inc, .u x.seq, .ro 2 (procs x.peers)]), (9, .b false)])] 2000 [0, 1] [3, 6, 7, 8] r (by kernel_rfl) (an h7 (an (rfI ((i : Nat) : Int)) (an u_4 (an u_5 (an (adverts_at gx) (an h8 (an ((wi (by omega)) : IntKind.i64.wrap ((((i : Nat) : Int) : Int) + 1) = ((i + 1 : Nat) : Int)) trivial))))))) fun ac wd r => again0 (by omega) ac wd ⟨false, ⟨by omega, by first | exact (news_no gx (by omega) (by assumption)).symm | (rw [news_yes gx (by first | exact Or.inl (by omega) | exact Or.inr (by assumption))]; exact hv2)⟩, r⟩
    | true =>
     have qh8 := eq_of_beq h8
     cases h9 : (newer a x) with
     | false =>
      exact toHead (todo' := hd Try.f18 0) tk tq hK [(4, [(3, .b true)]), (5, [(1, .z (((i + 1 : Nat) : Int)))]), (6, [(2, .n (i)), (5, .ix 0 [.z x.server.node, .u x.server.inc, .u x.seq, .ro 2 (procs x.peers)]), (9, .b true), (14, .n (i)), (15, .ix 0 [.z x.server.node, .u x.server.inc, .u x.seq, .ro 2 (procs x.peers)]), (16, .con (.v (.bool false)))])] 2000 [0, 1] [3, 6, 7, 8] r (by kernel_rfl) (an h7 (an (rfI ((i : Nat) : Int)) (an u_4 (an u_5 (an (adverts_at gx) (an h8 (an (rfI ((i : Nat) : Int)) (an u_4 (an u_5 (an (adverts_at gx) (an ((by have k := refNewer a x; rw [h9] at k; exact k) : Con Try.prog 36 [.ag [.z a.server.node, .u a.server.inc, .u a.seq, .d (.ro 2 (procs a.peers))], .ag [.z x.server.node, .u x.server.inc, .u x.seq, .d (.ro 2 (procs x.peers))]] (.v (.bool false))) (an ((wi (by omega)) : IntKind.i64.wrap ((((i : Nat) : Int) : Int) + 1) = ((i + 1 : Nat) : Int)) trivial)))))))))))) fun ac wd r => again0 (by omega) ac wd ⟨false, ⟨by omega, by first | exact (news_no gx (by omega) (by assumption)).symm | (rw [news_yes gx (by first | exact Or.inl (by omega) | exact Or.inr (by assumption))]; exact hv2)⟩, r⟩
     | true =>
      exact toHead (todo' := hd Try.f18 0) tk tq hK [(4, [(3, .b true)]), (5, [(1, .z (((i + 1 : Nat) : Int)))]), (6, [(2, .n (i)), (5, .ix 0 [.z x.server.node, .u x.server.inc, .u x.seq, .ro 2 (procs x.peers)]), (9, .b true), (14, .n (i)), (15, .ix 0 [.z x.server.node, .u x.server.inc, .u x.seq, .ro 2 (procs x.peers)]), (16, .con (.v (.bool true)))])] 2000 [0, 1] [3, 6, 7, 8] r (by kernel_rfl) (an h7 (an (rfI ((i : Nat) : Int)) (an u_4 (an u_5 (an (adverts_at gx) (an h8 (an (rfI ((i : Nat) : Int)) (an u_4 (an u_5 (an (adverts_at gx) (an ((by have k := refNewer a x; rw [h9] at k; exact k) : Con Try.prog 36 [.ag [.z a.server.node, .u a.server.inc, .u a.seq, .d (.ro 2 (procs a.peers))], .ag [.z x.server.node, .u x.server.inc, .u x.seq, .d (.ro 2 (procs x.peers))]] (.v (.bool true))) (an ((wi (by omega)) : IntKind.i64.wrap ((((i : Nat) : Int) : Int) + 1) = ((i + 1 : Nat) : Int)) trivial)))))))))))) fun ac wd r => again0 (by omega) ac wd ⟨false, ⟨by omega, by first | exact (news_no gx (by omega) (by assumption)).symm | (rw [news_yes gx (by first | exact Or.inl (by omega) | exact Or.inr (by assumption))]; exact hv2)⟩, r⟩
  | true =>
   cases h10 : (decide ((((i : Nat) : Int) : Int) < (((book l).length : Nat) : Int))) with
   | false =>
    have qh10 := of_decide_eq_false h10
    rw [show (.tu [.em 33 4 (advertsO (takeG l a)), .v (.bool (newsG l a))] : DV) = .tu [.em 33 4 (advertsO (takeG l a)), .v (.bool true)] from (by rw [show newsG l a = true from by unfold newsG; rw [show (book l).length = i by omega]; exact hv2.symm])]
    exact toRet tk tq hK rfl [(4, [(3, .b false)]), (8, [(4, .call [.d (.ro 4 (adverts (book l ++ [a])))] (.em 33 4 (advertsO (takeG l a))))])] 2000 r (by kernel_rfl) (an h10 (an ((by first | rfl | (simp; done) | (simp <;> omega)) : ((book l).length) = (adverts (book l)).length) (an ((by first | rfl | (simp; done) | (simp <;> omega)) : (1) = ([[.z a.server.node, .u a.server.inc, .u a.seq, .ro 2 (procs a.peers)]] : List (List DV)).length) (an ((by first | omega | (simp; done) | (simp <;> omega)) : (2 * (((book l).length) + (1)) + 0) * 48 ≤ 281474976710656) (an ((by first | omega | (simp; done) | (simp <;> omega)) : ((book l).length) + (1) < 4611686018427387904) (an ((by first | exact one_adverts [a] | simp [OneR, AV.one, oneC]) : OneR ([[.z a.server.node, .u a.server.inc, .u a.seq, .ro 2 (procs a.peers)]])) (an (refOf (book l ++ [a]) (by simp; omega) (more_ok ha)) (an ((ind_adverts _ _) : Ind (.em 33 4 (advertsO (takeG l a)))) (an (rfN (4)) (an ((by first | rfl | (simp; done) | (simp <;> omega)) : ((book l).length + (1)) = (adverts (book l) ++ [[.z a.server.node, .u a.server.inc, .u a.seq, .ro 2 (procs a.peers)]] : List (List DV)).length) (an ((by first | exact froz_adverts _ | (rw [adverts_app]; exact froz_adverts _)) : frozR (adverts (book l) ++ [[.z a.server.node, .u a.server.inc, .u a.seq, .ro 2 (procs a.peers)]]) = adverts (book l ++ [a])) (an (rfN ((advertsO (takeG l a)).length)) trivial))))))))))))
   | true =>
    have qh10 := of_decide_eq_true h10
    obtain ⟨x, gx⟩ : ∃ x, (book l)[i]? = some x := ⟨_, List.getElem?_eq_getElem (by omega)⟩
    have u_6 := ((by first | omega | decide | (simp; omega)) : (i) < ((book l).length))
    have u_7 := ((by first | rfl | (simp; done) | (simp <;> omega)) : ((book l).length) ≤ (adverts (book l)).length)
    cases h11 : ((x.server.node : Int) == a.server.node) with
    | false =>
     have qh11 := ne_of_beq_false h11
     exact toHead (todo' := hd Try.f18 0) tk tq hK [(4, [(3, .b true)]), (5, [(1, .z (((i + 1 : Nat) : Int)))]), (6, [(2, .n (i)), (5, .ix 0 [.z x.server.node, .u x.server.inc, .u x.seq, .ro 2 (procs x.peers)]), (9, .b false)])] 2000 [0, 1] [3, 6, 7, 8] r (by kernel_rfl) (an h10 (an (rfI ((i : Nat) : Int)) (an u_6 (an u_7 (an (adverts_at gx) (an h11 (an ((wi (by omega)) : IntKind.i64.wrap ((((i : Nat) : Int) : Int) + 1) = ((i + 1 : Nat) : Int)) trivial))))))) fun ac wd r => again0 (by omega) ac wd ⟨true, ⟨by omega, by first | exact (news_no gx (by omega) (by assumption)).symm | (rw [news_yes gx (by first | exact Or.inl (by omega) | exact Or.inr (by assumption))]; exact hv2)⟩, r⟩
    | true =>
     have qh11 := eq_of_beq h11
     cases h12 : (newer a x) with
     | false =>
      exact toHead (todo' := hd Try.f18 0) tk tq hK [(4, [(3, .b true)]), (5, [(1, .z (((i + 1 : Nat) : Int)))]), (6, [(2, .n (i)), (5, .ix 0 [.z x.server.node, .u x.server.inc, .u x.seq, .ro 2 (procs x.peers)]), (9, .b true), (14, .n (i)), (15, .ix 0 [.z x.server.node, .u x.server.inc, .u x.seq, .ro 2 (procs x.peers)]), (16, .con (.v (.bool false)))])] 2000 [0, 1] [3, 6, 7, 8] r (by kernel_rfl) (an h10 (an (rfI ((i : Nat) : Int)) (an u_6 (an u_7 (an (adverts_at gx) (an h11 (an (rfI ((i : Nat) : Int)) (an u_6 (an u_7 (an (adverts_at gx) (an ((by have k := refNewer a x; rw [h12] at k; exact k) : Con Try.prog 36 [.ag [.z a.server.node, .u a.server.inc, .u a.seq, .d (.ro 2 (procs a.peers))], .ag [.z x.server.node, .u x.server.inc, .u x.seq, .d (.ro 2 (procs x.peers))]] (.v (.bool false))) (an ((wi (by omega)) : IntKind.i64.wrap ((((i : Nat) : Int) : Int) + 1) = ((i + 1 : Nat) : Int)) trivial)))))))))))) fun ac wd r => again0 (by omega) ac wd ⟨false, ⟨by omega, by first | exact (news_no gx (by omega) (by assumption)).symm | (rw [news_yes gx (by first | exact Or.inl (by omega) | exact Or.inr (by assumption))]; exact hv2)⟩, r⟩
     | true =>
      exact toHead (todo' := hd Try.f18 0) tk tq hK [(4, [(3, .b true)]), (5, [(1, .z (((i + 1 : Nat) : Int)))]), (6, [(2, .n (i)), (5, .ix 0 [.z x.server.node, .u x.server.inc, .u x.seq, .ro 2 (procs x.peers)]), (9, .b true), (14, .n (i)), (15, .ix 0 [.z x.server.node, .u x.server.inc, .u x.seq, .ro 2 (procs x.peers)]), (16, .con (.v (.bool true)))])] 2000 [0, 1] [3, 6, 7, 8] r (by kernel_rfl) (an h10 (an (rfI ((i : Nat) : Int)) (an u_6 (an u_7 (an (adverts_at gx) (an h11 (an (rfI ((i : Nat) : Int)) (an u_6 (an u_7 (an (adverts_at gx) (an ((by have k := refNewer a x; rw [h12] at k; exact k) : Con Try.prog 36 [.ag [.z a.server.node, .u a.server.inc, .u a.seq, .d (.ro 2 (procs a.peers))], .ag [.z x.server.node, .u x.server.inc, .u x.seq, .d (.ro 2 (procs x.peers))]] (.v (.bool true))) (an ((wi (by omega)) : IntKind.i64.wrap ((((i : Nat) : Int) : Int) + 1) = ((i + 1 : Nat) : Int)) trivial)))))))))))) fun ac wd r => again0 (by omega) ac wd ⟨true, ⟨by omega, by first | exact (news_no gx (by omega) (by assumption)).symm | (rw [news_yes gx (by first | exact Or.inl (by omega) | exact Or.inr (by assumption))]; exact hv2)⟩, r⟩
end Go.Proofs.Ytikmdkicccfjpaa
namespace Go.Proofs.Ytikmdkicccfjpaa
open Go.RowKit
theorem own_more {l : List Advert} {i : Nat} {a : Advert} (h : l[i]? = some a) : advertsO (l.take i) ++ [[.v (.int .i64 a.server.node), .v (.int .u64 (a.server.inc : Int)), .v (.int .u64 (a.seq : Int)), .em 30 2 ([] ++ procs a.peers)]] = advertsO (l.take (i + 1)) := by
 obtain ⟨hi, rfl⟩ := List.getElem?_eq_some_iff.1 h
 rw [List.take_succ_eq_append_getElem hi, ← advertsO_app]; rfl
def nTo (l : List Advert) : Nat → Int
 | 0 => 0
 | i + 1 => match l[i]? with | some a => IntKind.i64.wrap (nTo l i + IntKind.i64.wrap (1 + (a.peers.length : Int))) | none => nTo l i
theorem nTo_succ {l : List Advert} {i : Nat} {a : Advert} (h : l[i]? = some a) : IntKind.i64.wrap (nTo l i + IntKind.i64.wrap (1 + (a.peers.length : Int))) = nTo l (i + 1) := by rw [nTo, h]
def longB (l : List Advert) : Bool := (List.range l.length).any fun i => decide (400 < nTo l (i + 1))
theorem long_yes {l : List Advert} {i : Nat} (hi : i < l.length) (h : 400 < nTo l (i + 1)) : longB l = true := by
 unfold longB; rw [List.any_eq_true]; exact ⟨i, by simpa using hi, decide_eq_true h⟩
theorem long_no {l : List Advert} (h : ∀ j, j < l.length → ¬ 400 < nTo l (j + 1)) : longB l = false := by
 unfold longB; rw [List.any_eq_false]; intro i hi; simpa using h i (by simpa using hi)
set_option maxRecDepth 100000 in
theorem ownOk (l : List Advert) (hb : l.length ≤ 1048576) (hp : ∀ x ∈ l, x.peers.length ≤ 1048576) : Con Try.prog 13 [.d (.ro 4 (adverts l))] (.em 33 4 (advertsO l)) := by
 refine Con.intro (by kernel_rfl) rfl rfl 20 rfl rfl fun w0 K ac hK r => ?_
 refine toHead (todo' := hd Try.f13 0) (E' := [(0, .d (.ro 4 (adverts l))), (3, .d (.v (.slice none 0 0))), (4, .z 0)]) (M' := []) tk tq hK [] 2000 [] [0, 3, 4] r (by kernel_rfl) trivial fun ac wd r => ?_
 refine Goes.rounds (Φ := fun (i : Nat) ac wd => (i ≤ l.length) ∧ RE' [] w0 K 20 [(0, .d (.ro 4 (adverts l))), (3, .sl 0 ((l.take i).length)), (4, .n i)] [.rw 33 4 (advertsO (l.take i))] ac wd) (l.length) ?_ (Nat.zero_le _) ⟨(Nat.zero_le _), (r.adopt (M1 := [.rw 33 4 []]) [(3, 33, 4)] [] (by kernel_rfl) (by kernel_rfl)).cast rfl rfl⟩
 clear r
 rintro i hi0 again0 ac wd ⟨hv0, r⟩
 have u_0 := ((by simp) : (((adverts l).length : Nat) : Int) = ((l.length : Nat) : Int))
 cases h0 : (decide ((((i : Nat) : Int) : Int) < ((l.length : Nat) : Int))) with
 | false =>
  have qh0 := of_decide_eq_false h0
  rw [show (.em 33 4 (advertsO l) : DV) = .em 33 4 (advertsO (l.take i)) from (by rw [List.take_of_length_le (by omega)])]
  exact toRet tk tq hK rfl [(3, [(2, .z (((l.length : Nat) : Int))), (3, .b false)])] 2000 r (by kernel_rfl) (an u_0 (an h0 (an ((by first | rfl | (simp; done) | (simp <;> omega)) : ((l.take i).length) = (advertsO (l.take i)).length) trivial)))
 | true =>
  have qh0 := of_decide_eq_true h0
  obtain ⟨e_l_i, ge_l_i⟩ : ∃ x, l[i]? = some x := ⟨_, List.getElem?_eq_getElem (by omega)⟩
  exact toHead (todo' := hd Try.f13 0) (E' := [(0, .d (.ro 4 (adverts l))), (3, .sl 0 ((l.take i).length + (1))), (4, .n (i + 1))]) (M' := [.rw 33 4 (advertsO (l.take i) ++ [[.z e_l_i.server.node, .u e_l_i.server.inc, .u e_l_i.seq, .em 30 2 ([] ++ procs e_l_i.peers)]])]) tk tq hK [(3, [(2, .z (((l.length : Nat) : Int))), (3, .b true)]), (4, [(1, .z (((i + 1 : Nat) : Int)))]), (5, [(3, .ix (i) [.z e_l_i.server.node, .u e_l_i.server.inc, .u e_l_i.seq, .ro 2 (procs e_l_i.peers)]), (5, .con (.ag [.z e_l_i.server.node, .u e_l_i.server.inc, .u e_l_i.seq, .em 30 2 ([] ++ procs e_l_i.peers)]))])] 2000 [0] [0, 3, 4] r (by kernel_rfl) (an u_0 (an h0 (an (rfI ((i : Nat) : Int)) (an (adverts_at ge_l_i) (an (refOwn e_l_i (by have := hp _ (List.mem_of_getElem? ge_l_i); omega) : Con Try.prog 31 [.ag [.z e_l_i.server.node, .u e_l_i.server.inc, .u e_l_i.seq, .d (.ro 2 (procs e_l_i.peers))]] (.ag [.z e_l_i.server.node, .u e_l_i.server.inc, .u e_l_i.seq, .em 30 2 ([] ++ procs e_l_i.peers)])) (an (rfN (([] ++ procs e_l_i.peers : List (List DV)).length)) (an ((by first | rfl | (simp; done) | (simp <;> omega)) : ((l.take i).length) = (advertsO (l.take i)).length) (an ((by first | rfl | (simp; done) | (simp <;> omega)) : (1) = ([[.z e_l_i.server.node, .u e_l_i.server.inc, .u e_l_i.seq, .em 30 2 ([] ++ procs e_l_i.peers)]] : List (List DV)).length) (an ((by first | omega | (simp; done) | (simp <;> omega)) : (2 * (((l.take i).length) + (1)) + 0) * 48 ≤ 281474976710656) (an ((by first | omega | (simp; done) | (simp <;> omega)) : ((l.take i).length) + (1) < 4611686018427387904) (an ((by first | exact one_procs _ | rfl | simp [OneR, AV.one, oneC]) : OneR ([[.z e_l_i.server.node, .u e_l_i.server.inc, .u e_l_i.seq, .em 30 2 ([] ++ procs e_l_i.peers)]])) (an ((wi (by omega)) : IntKind.i64.wrap ((((i : Nat) : Int) : Int) + 1) = ((i + 1 : Nat) : Int)) trivial)))))))))))) fun ac wd r => again0 (by omega) ac wd ⟨(by omega), r.cast (by rw [List.take_succ_eq_append_getElem (show i < l.length by omega), List.length_append]; rfl) (by rw [own_more ge_l_i])⟩
set_option maxRecDepth 100000 in
theorem longOk (l : List Advert) (hb : l.length ≤ 9223372036854775807) : Con Try.prog 11 [.d (.ro 4 (adverts l))] (.v (.bool (longB l))) := by
 refine Con.intro (by kernel_rfl) rfl rfl 22 rfl rfl fun w0 K ac hK r => ?_
 refine toHead (todo' := hd Try.f11 0) (E' := [(0, .d (.ro 4 (adverts l))), (3, .z (nTo l 0)), (4, .n 0)]) (M' := []) tk tq hK [] 2000 [] [0, 3, 4] r (by kernel_rfl) trivial fun ac wd r => ?_
 refine Goes.rounds (Φ := fun (i : Nat) ac wd => (i ≤ l.length ∧ ∀ j, j < i → ¬ 400 < nTo l (j + 1)) ∧ RE' [] w0 K 22 [(0, .d (.ro 4 (adverts l))), (3, .z (nTo l i)), (4, .n i)] [] ac wd) (l.length) ?_ (Nat.zero_le _) ⟨⟨Nat.zero_le _, by omega⟩, r⟩
 clear r
 rintro i hi0 again0 ac wd ⟨hv0, r⟩
 obtain ⟨hi1, hv0⟩ := hv0
 have u_0 := ((by simp) : (((adverts l).length : Nat) : Int) = ((l.length : Nat) : Int))
 cases h0 : (decide ((((i : Nat) : Int) : Int) < ((l.length : Nat) : Int))) with
 | false =>
  have qh0 := of_decide_eq_false h0
  rw [show (.v (.bool (longB l)) : DV) = .v (.bool false) from (bv (long_no fun j hj => hv0 j (by omega)))]
  exact toRet tk tq hK rfl [(3, [(2, .z (((l.length : Nat) : Int))), (3, .b false)])] 2000 r (by kernel_rfl) (an u_0 (an h0 trivial))
 | true =>
  have qh0 := of_decide_eq_true h0
  obtain ⟨e_l_i, ge_l_i⟩ : ∃ x, l[i]? = some x := ⟨_, List.getElem?_eq_getElem (by omega)⟩
  have u_1 := ((by simp) : (((procs e_l_i.peers).length : Nat) : Int) = ((e_l_i.peers.length : Nat) : Int))
  have u_2 := ((by first | exact wi (by omega) | rfl | exact nTo_succ ge_l_i) : IntKind.i64.wrap ((1 : Int) + ((e_l_i.peers.length : Nat) : Int)) = IntKind.i64.wrap (1 + ((e_l_i.peers.length : Nat) : Int)))
  have u_3 := ((by first | exact wi (by omega) | rfl | exact nTo_succ ge_l_i) : IntKind.i64.wrap ((nTo l i : Int) + IntKind.i64.wrap (1 + ((e_l_i.peers.length : Nat) : Int))) = nTo l (i + 1))
  cases h1 : (decide ((400 : Int) < nTo l (i + 1))) with
  | false =>
   have qh1 := of_decide_eq_false h1
   exact toHead (todo' := hd Try.f11 0) tk tq hK [(3, [(2, .z (((l.length : Nat) : Int))), (3, .b true)]), (4, [(1, .z (((i + 1 : Nat) : Int)))]), (5, [(3, .ix (i) [.z e_l_i.server.node, .u e_l_i.server.inc, .u e_l_i.seq, .ro 2 (procs e_l_i.peers)]), (6, .z (((e_l_i.peers.length : Nat) : Int))), (7, .z (IntKind.i64.wrap (1 + ((e_l_i.peers.length : Nat) : Int)))), (8, .z (nTo l (i + 1)))]), (6, [(1, .b false)])] 2000 [] [0, 3, 4] r (by kernel_rfl) (an u_0 (an h0 (an (rfI ((i : Nat) : Int)) (an (adverts_at ge_l_i) (an u_1 (an u_2 (an u_3 (an h1 (an ((by first | exact wi (by omega) | rfl | exact nTo_succ ge_l_i) : IntKind.i64.wrap ((((i : Nat) : Int) : Int) + 1) = ((i + 1 : Nat) : Int)) trivial))))))))) fun ac wd r => again0 (by omega) ac wd ⟨⟨by omega, fun j hj => by rcases Nat.lt_succ_iff_lt_or_eq.1 hj with h | rfl; exact hv0 j h; omega⟩, r⟩
  | true =>
   have qh1 := of_decide_eq_true h1
   rw [show (.v (.bool (longB l)) : DV) = .v (.bool true) from (bv (long_yes (i := i) (by omega) (by omega)))]
   exact toRet tk tq hK rfl [(3, [(2, .z (((l.length : Nat) : Int))), (3, .b true)]), (5, [(3, .ix (i) [.z e_l_i.server.node, .u e_l_i.server.inc, .u e_l_i.seq, .ro 2 (procs e_l_i.peers)]), (6, .z (((e_l_i.peers.length : Nat) : Int))), (7, .z (IntKind.i64.wrap (1 + ((e_l_i.peers.length : Nat) : Int)))), (8, .z (nTo l (i + 1)))]), (6, [(1, .b true)])] 2000 r (by kernel_rfl) (an u_0 (an h0 (an (rfI ((i : Nat) : Int)) (an (adverts_at ge_l_i) (an u_1 (an u_2 (an u_3 (an h1 trivial))))))))
end Go.Proofs.Ytikmdkicccfjpaa
namespace Go.Proofs.Ytikmdkicccfjpaa
open Go.RowKit
def reC (b : List Advert) (p : Proc) : List Proc := p :: (b.filter fun a => decide (0 ≤ stepsR b p a.server)).map Advert.server
def reachC (l : List Advert) (p : Proc) : List Proc := if p.low then srt (reC (book l) p) else []
theorem reach_c {l : List Advert} {p : Proc} (hp : p.okP) : reachG l p = reachC l p := by
 unfold reachC
 split
 ·rename_i h
  rw [← reach_is hp h (Nat.le_refl _)]; unfold reTo reC; rw [List.take_length]
 ·rename_i h
  unfold reachG
  rw [if_neg]
  rintro ⟨h1, h2⟩
  exact h (by unfold Proc.low; rw [h1, decide_eq_true h2]; rfl)
def nextC (l : List Advert) (p : Proc) (to : Int) : Int × Bool :=
 if to = p.node then (0, false) else match (book l).find? (fun a => decide (a.server.node = to)) with
 | none => (0, false)
 | some a => if stepsR (book l) p a.server < 0 then (0, false) else match (nbTo (book l) p (book l).length).find? (fun q => stepsR (book l) q a.server == stepsR (book l) p a.server - 1) with
  | none => (0, false)
  | some q => (q.node, true)
theorem next_c {l : List Advert} {p : Proc} {to : Int} : nextG l p to = nextC l p to := by
 unfold nextC nextG
 by_cases hne : to = p.node
 ·rw [if_pos hne, if_pos hne]
 ·rw [if_neg hne, if_neg hne]
  cases hfd : (book l).find? (fun a => decide (a.server.node = to)) with
  | none => rfl
  | some a =>
   dsimp only
   have hm := List.mem_of_find?_eq_some hfd
   obtain ⟨i, hi, rfl⟩ := List.getElem_of_mem hm
   have ga : (book l)[i]? = some (book l)[i] := List.getElem?_eq_getElem hi
   have hn : (book l)[i].server.node = to := by simpa using List.find?_some hfd
   by_cases hs : stepsR (book l) p (book l)[i].server < 0
   ·have h0 := steps_none ga hs
    rw [if_pos hs]
    cases hd : dOf (farL (book l) (book l)[i].server) p with
    | none => rfl
    | some s => rw [hd] at h0; cases h0
   ·rw [if_neg hs]
    obtain ⟨s, h1, h2, h3⟩ := steps_some ga hs (by omega)
    simp only [h1]
    have : (jn (book l) p).find? (hit (book l) (book l)[i].server s) = (nbTo (book l) p (book l).length).find? (fun q => stepsR (book l) q (book l)[i].server == stepsR (book l) p (book l)[i].server - 1) := by
     rw [jn_nb (book_good l)]
     congr 1
     funext q
     exact steps_hit ga h3 h2 rfl
    rw [this]
    try (cases (nbTo (book l) p (book l).length).find? (fun q => stepsR (book l) q (book l)[i].server == stepsR (book l) p (book l)[i].server - 1) <;> rfl)
abbrev exam : List Advert := [⟨⟨1, 1⟩, 1, [⟨2, 1⟩]⟩, ⟨⟨2, 1⟩, 1, [⟨1, 1⟩, ⟨3, 4⟩]⟩, ⟨⟨3, 4⟩, 1, [⟨2, 1⟩]⟩, ⟨⟨4, 1⟩, 1, [⟨3, 4⟩]⟩]
theorem exam_1 : book exam = exam := by kernel_rfl
theorem exam_2 : nextG exam ⟨1, 1⟩ 3 = (2, true) := by rw [next_c]; kernel_rfl
theorem exam_3 : nextG exam ⟨1, 1⟩ 4 = (0, false) := by rw [next_c]; kernel_rfl
theorem exam_4 : (reachG exam ⟨1, 1⟩).length = 3 := by rw [reach_c (by unfold Proc.okP; dsimp only; omega)]; kernel_rfl
abbrev exam2 : List Advert := [⟨⟨1, 1⟩, 1, [⟨2, 1⟩]⟩, ⟨⟨2, 1⟩, 1, [⟨1, 1⟩, ⟨3, 4⟩]⟩, ⟨⟨3, 4⟩, 2, []⟩, ⟨⟨4, 1⟩, 1, [⟨3, 4⟩]⟩]
theorem exam_5 : takeG exam ⟨⟨3, 4⟩, 2, []⟩ = exam2 := by kernel_rfl
theorem exam_6 : newsG exam ⟨⟨3, 4⟩, 2, []⟩ = true := by kernel_rfl
theorem exam_7 : newsG exam ⟨⟨3, 3⟩, 2, []⟩ = false := by kernel_rfl
theorem exam_8 : (reachG exam2 ⟨1, 1⟩).length = 2 := by rw [reach_c (by unfold Proc.okP; dsimp only; omega)]; kernel_rfl
end Go.Proofs.Ytikmdkicccfjpaa
namespace Go.Proofs.Ytikmdkicccfjpaa
open Go.RowKit
set_option maxRecDepth 100000 in
theorem examOk  : Con Try.prog 29 [] (.em 33 4 (advertsO exam)) := by
 refine Con.intro (by kernel_rfl) rfl rfl 19 rfl rfl fun w0 K ac hK r => ?_
 rw [show (.em 33 4 (advertsO exam) : DV) = .em 33 4 ([[.z 1, .v (.int .u64 1), .v (.int .u64 1), .em 30 2 ([[.z 2, .v (.int .u64 1)]])], [.z 2, .v (.int .u64 1), .v (.int .u64 1), .em 30 2 ([[.z 1, .v (.int .u64 1)], [.z 3, .v (.int .u64 4)]])], [.z 3, .v (.int .u64 4), .v (.int .u64 1), .em 30 2 ([[.z 2, .v (.int .u64 1)]])], [.z 4, .v (.int .u64 1), .v (.int .u64 1), .em 30 2 ([[.z 3, .v (.int .u64 4)]])]]) from rfl]
 exact toRet tk tq hK rfl [(1, [(0, .into 200 []), (1, .into 200 []), (4, .into 200 []), (5, .into 200 []), (6, .into 200 []), (9, .into 200 []), (10, .into 200 []), (13, .into 200 []), (14, .into 200 [])])] 2000 r (by kernel_rfl) (an ((by first | rfl | (simp; done)) : (1) = ([[.z 2, .v (.int .u64 1)]] : List (List DV)).length) (an ((by first | rfl | (simp; done)) : (2) = ([[.z 1, .v (.int .u64 1)], [.z 3, .v (.int .u64 4)]] : List (List DV)).length) (an ((by first | rfl | (simp; done)) : (1) = ([[.z 2, .v (.int .u64 1)]] : List (List DV)).length) (an ((by first | rfl | (simp; done)) : (1) = ([[.z 3, .v (.int .u64 4)]] : List (List DV)).length) (an ((by first | rfl | (simp; done)) : (4) = ([[.z 1, .v (.int .u64 1), .v (.int .u64 1), .em 30 2 ([[.z 2, .v (.int .u64 1)]])], [.z 2, .v (.int .u64 1), .v (.int .u64 1), .em 30 2 ([[.z 1, .v (.int .u64 1)], [.z 3, .v (.int .u64 4)]])], [.z 3, .v (.int .u64 4), .v (.int .u64 1), .em 30 2 ([[.z 2, .v (.int .u64 1)]])], [.z 4, .v (.int .u64 1), .v (.int .u64 1), .em 30 2 ([[.z 3, .v (.int .u64 4)]])]] : List (List DV)).length) trivial)))))
theorem Con.sub {P : Program} {f : FuncId} {args args' : List AV} {x : DV} (h : Con P f args x) (hl : args'.length = args.length) (e : ∀ (K : World → Prop) (j : Nat) c c' y, args[j]? = some c → args'[j]? = some c' → ARel K [] c' y → ARel K [] c y) : Con P f args' x := by
 refine ⟨h.1, fun w K ys hK hy hr => h.2 w K ys hK (by omega) fun j c y h1 h2 => ?_⟩
 have hj : j < args'.length := by rw [hl]; exact (List.getElem?_eq_some_iff.1 h1).1
 have e1 := List.getElem?_eq_getElem hj
 exact e _ j c _ y h1 e1 (hr j _ y e1 h2)
theorem ARel.le {K : World → Prop} {x x' : DV} {y : Value} (e : Le x x') (h : ARel K [] (.d x) y) : ARel K [] (.d x') y := by
 cases h with | d h => exact .d (e _ _ _ h)
theorem adv_nil {K : World → Prop} {a b c : Value} {y : Value} (h : ARel K [] (.ag [.d (.v a), .d (.v b), .d (.v c), .d (.v (.slice none 0 0))]) y) : ARel K [] (.ag [.d (.v a), .d (.v b), .d (.v c), .d (.ro 2 [])]) y := by
 cases h with
 | ag ys hl hr =>
  refine .ag ys hl fun j c' z h1 h2 => ?_
  match j with
  | 0 => simp at h1; subst h1; exact hr 0 _ z rfl h2
  | 1 => simp at h1; subst h1; exact hr 1 _ z rfl h2
  | 2 => simp at h1; subst h1; exact hr 2 _ z rfl h2
  | 3 => simp at h1; subst h1; exact ARel.le (Le.nilRo 2) (hr 3 _ z rfl h2)
  | j + 4 => simp at h1
theorem take_nil (l : List Advert) (p : Proc) (s : Nat) (hb : l.length ≤ 9223372036854775807) (hl : ∀ x ∈ l, x.peers.length ≤ 9223372036854775807) : Con Try.prog 17 [.d (.ro 4 (adverts l)), .ag [.z p.node, .u p.inc, .u s, .d (.v (.slice none 0 0))]] (.tu [.ro 4 (adverts (takeG l ⟨p, s, []⟩)), .v (.bool (newsG l ⟨p, s, []⟩))]) := by
 have h := (takeOk l ⟨p, s, []⟩ hb hl (by simp)).froz
 rw [froz, frozL, frozL, frozL, froz, froz, froz_advertsO] at h
 refine h.sub rfl fun K j c c' y h1 h2 r => ?_
 match j with
 | 0 => simp at h1 h2; subst h1 h2; exact r
 | 1 => simp at h1 h2; subst h1 h2; exact adv_nil r
 | j + 2 => simp at h1
theorem examRo : Con Try.prog 29 [] (.ro 4 (adverts exam)) := by
 have h := examOk.froz; rw [froz, froz_advertsO] at h; exact h
theorem exam_ok : ∀ x ∈ exam, x.peers.length ≤ 9223372036854775807 := by decide
theorem exam2_ok : ∀ x ∈ exam2, x.peers.length ≤ 9223372036854775807 := by decide
theorem examOf : Con Try.prog 14 [.d (.ro 4 (adverts exam))] (.ro 4 (adverts exam)) := by have h := ofRo exam (by decide) exam_ok; rw [exam_1] at h; exact h
theorem okP_small {a : Int} {b : Nat} (h : 0 ≤ a ∧ a ≤ 10 ∧ b ≤ 10) : (⟨a, b⟩ : Proc).okP := by unfold Proc.okP; dsimp only; omega
theorem examN (to n : Int) (c : Bool) (h : nextG exam ⟨1, 1⟩ to = (n, c)) : Con Try.prog 23 [.d (.ro 4 (adverts exam)), .ag [.z 1, .d (.v (.int .u64 1))], .z to] (.tu [.v (.int .i64 n), .v (.bool c)]) := by
 have h' := nextOk exam ⟨1, 1⟩ to (by decide) exam_ok (okP_small (by omega)); rw [h] at h'; exact h'
theorem examT1 : Con Try.prog 17 [.d (.ro 4 (adverts exam)), .ag [.z 3, .d (.v (.int .u64 4)), .d (.v (.int .u64 2)), .d (.v (.slice none 0 0))]] (.tu [.ro 4 (adverts exam2), .v (.bool true)]) := by
 have h := take_nil exam ⟨3, 4⟩ 2 (by decide) exam_ok; rw [exam_5, exam_6] at h; exact h
theorem examT2 : Con Try.prog 17 [.d (.ro 4 (adverts exam)), .ag [.z 3, .d (.v (.int .u64 3)), .d (.v (.int .u64 2)), .d (.v (.slice none 0 0))]] (.tu [.ro 4 (adverts (takeG exam ⟨⟨3, 3⟩, 2, []⟩)), .v (.bool false)]) := by
 have h := take_nil exam ⟨3, 3⟩ 2 (by decide) exam_ok; rw [exam_7] at h; exact h
set_option maxRecDepth 100000 in
theorem awakeOk  : Con Try.prog 12 [] (.v (.bool true)) := by
 refine Con.intro (by kernel_rfl) rfl rfl 73 rfl rfl fun w0 K ac hK r => ?_
 exact toRet tk tq hK rfl [(1, [(0, .con (.ro 4 (adverts exam))), (1, .con (.ro 4 (adverts exam)))]), (2, [(1, .into 200 []), (2, .con (.tu [.z 2, .v (.bool true)]))]), (3, [(1, .into 200 []), (2, .con (.tu [.z 0, .v (.bool false)]))]), (4, [(1, .into 200 []), (3, .con (.tu [.ro 4 (adverts exam2), .v (.bool true)]))]), (5, [(1, .into 200 []), (3, .con (.tu [.ro 4 (adverts (takeG exam ⟨⟨3, 3⟩, 2, []⟩)), .v (.bool false)]))]), (6, [(1, .z (((4 : Nat) : Int))), (5, .into 200 []), (6, .con (.ro 2 (procs (reachG exam ⟨1, 1⟩)))), (7, .z (((3 : Nat) : Int))), (23, .into 200 []), (24, .con (.ro 2 (procs (reachG exam2 ⟨1, 1⟩)))), (25, .z (((2 : Nat) : Int)))])] 2000 r (by kernel_rfl) (an (examRo) (an (examOf) (an (examN 3 2 true exam_2) (an (examN 4 0 false exam_3) (an (examT1) (an (examT2) (an ((by first | rfl | (simp [exam_4]; done) | (simp [exam_8]; done)) : (((adverts exam).length : Nat) : Int) = ((4 : Nat) : Int)) (an (reachOk exam ⟨1, 1⟩ (by decide) exam_ok (okP_small (by omega))) (an ((by first | rfl | (simp [exam_4]; done) | (simp [exam_8]; done)) : (((procs (reachG exam ⟨1, 1⟩)).length : Nat) : Int) = ((3 : Nat) : Int)) (an (reachOk exam2 ⟨1, 1⟩ (by decide) exam2_ok (okP_small (by omega))) (an ((by first | rfl | (simp [exam_4]; done) | (simp [exam_8]; done)) : (((procs (reachG exam2 ⟨1, 1⟩)).length : Nat) : Int) = ((2 : Nat) : Int)) trivial)))))))))))
end Go.Proofs.Ytikmdkicccfjpaa
namespace Go.Proofs.Ytikmdkicccfjpaa
open Go.RowKit
theorem Try.own : ownKnob Try.prog.godebug = none := by kernel_rfl
deriving instance Inhabited for Proc, Advert
variable {w : World}
theorem Rd.int' {P : Program} {t : TypeId} (h : P.underlying t = some (.int .i64)) : Rd P w t (fun n : Int => [.z n]) fun n => -9223372036854775808 ≤ n ∧ n ≤ 9223372036854775807 := fun cs hc => by
 obtain ⟨n, rfl, hw⟩ := hc.int h
 have hw' : -9223372036854775808 ≤ n ∧ n ≤ 9223372036854775807 := by simpa [Lit.wf, IntKind.min, IntKind.max, IntKind.signed, IntKind.bits] using hw
 exact ⟨n, hw', .one (.v _)⟩
theorem rd_proc : Rd Try.prog w 30 Proc.row Proc.okP := ((Rd.two Try.underlying30 rfl rfl (k0 := 1) (k1 := 1) (by kernel_rfl) (by kernel_rfl) (by kernel_rfl) (Rd.int' Try.underlying3) (Rd.u64 Try.underlying28)).map fun x => Proc.mk x.1 x.2) (fun _ => rfl) fun _ h => h
end Go.Proofs.Ytikmdkicccfjpaa
namespace Go.Proofs.Ytikmdkicccfjpaa
open Go.RowKit
theorem takeRo (l : List Advert) (a : Advert) (hb : l.length ≤ 9223372036854775807) (hl : ∀ x ∈ l, x.peers.length ≤ 9223372036854775807) (ha : a.peers.length ≤ 9223372036854775807) : Con Try.prog 17 [.d (.ro 4 (adverts l)), .ag [.z a.server.node, .u a.server.inc, .u a.seq, .d (.ro 2 (procs a.peers))]] (.tu [.ro 4 (adverts (takeG l a)), .v (.bool (newsG l a))]) := by
 have h := (takeOk l a hb hl ha).froz
 rw [froz, frozL, frozL, frozL, froz, froz, froz_advertsO] at h; exact h
theorem take_len (l : List Advert) (a : Advert) : (takeG l a).length ≤ 4 := (book_good _).len
end Go.Proofs.Ytikmdkicccfjpaa
namespace Go.Proofs.Ytikmdkicccfjpaa
open Go.RowKit
theorem bigB_ok {l : List Advert} (h : ∀ x ∈ l, x.peers.length ≤ 1048576) : ∀ x ∈ l, x.peers.length ≤ 9223372036854775807 := fun x hx => by have := h x hx; omega
theorem tk_adverts (l : List Advert) (a : Advert) : List.take l.length (adverts (l ++ [a])) = adverts l := by
 rw [adverts, List.map_append, List.take_append_of_le_length (by simp), List.take_of_length_le (by simp)]
theorem at_last (l : List Advert) (a : Advert) : (l ++ [a])[l.length]? = some a := by simp
theorem refTakeRo (l : List Advert) (a : Advert) (hb : l.length ≤ 9223372036854775807) (hl : ∀ x ∈ l, x.peers.length ≤ 9223372036854775807) (ha : a.peers.length ≤ 9223372036854775807) : Con Try.prog 18 [.d (.ro 4 (List.take l.length (adverts (l ++ [a])))), .ag [.z a.server.node, .u a.server.inc, .u a.seq, .d (.ro 2 (procs a.peers))]] (.tu [.ro 4 (adverts (takeG l a)), .v (.bool (newsG l a))]) := by
 have h := (refTakeOk l a hb hl ha).froz
 rw [froz, frozL, frozL, frozL, froz, froz, froz_advertsO] at h
 rw [tk_adverts]; exact h
theorem sameT (l : List Advert) (hb : l.length ≤ 9223372036854775807) (hl : ∀ x ∈ l, x.peers.length ≤ 9223372036854775807) : Con Try.prog 15 [.d (.ro 4 (adverts l)), .d (.ro 4 (adverts l))] (.v (.bool true)) := by
 have h := sameOk l l hb hl; rw [decide_eq_true rfl] at h; exact h
theorem sameP (l : List Advert) (a : Advert) (hb : l.length ≤ 9223372036854775807) (hl : ∀ x ∈ l, x.peers.length ≤ 9223372036854775807) : Con Try.prog 15 [.d (.ro 4 (adverts l)), .d (.ro 4 (List.take l.length (adverts (l ++ [a]))))] (.v (.bool true)) := by
 rw [tk_adverts]; exact sameT l hb hl
theorem sameA (a : Advert) (ha : a.peers.length ≤ 9223372036854775807) : Con Try.prog 19 [.ag [.z a.server.node, .u a.server.inc, .u a.seq, .d (.ro 2 (procs a.peers))], .ag [.z a.server.node, .u a.server.inc, .u a.seq, .d (.ro 2 (procs a.peers))]] (.v (.bool true)) := by
 have h := sameAdvert a a ha; rw [decide_eq_true rfl] at h; exact h
end Go.Proofs.Ytikmdkicccfjpaa
namespace Go.Proofs.Ytikmdkicccfjpaa
open Go.RowKit
theorem nTo_le {l : List Advert} (hz : ∀ x ∈ l, x.peers.length ≤ 140737488355328) (h : longB l = false) : ∀ i, i ≤ l.length → (i : Int) ≤ nTo l i ∧ nTo l i ≤ 400 ∧ ∀ x ∈ l.take i, x.peers.length ≤ 400 := by
 intro i
 induction i with
 | zero => intro _; exact ⟨Int.le_refl _, show (0 : Int) ≤ 400 by decide, by simp⟩
 | succ i ih =>
  intro hi
  obtain ⟨h1, h2, h3⟩ := ih (by omega)
  have e := List.getElem?_eq_getElem (show i < l.length by omega)
  have hp := hz _ (List.getElem_mem (show i < l.length by omega))
  have h4 : ¬ 400 < nTo l (i + 1) := by
   unfold longB at h; rw [List.any_eq_false] at h
   simpa using h i (by simp; omega)
  have h5 : nTo l (i + 1) = nTo l i + (1 + (l[i].peers.length : Int)) := by
   rw [← nTo_succ e, wi (x := 1 + (l[i].peers.length : Int)) (y := 1 + (l[i].peers.length : Int)) (by omega), wi (y := nTo l i + (1 + (l[i].peers.length : Int))) (by omega)]
  refine ⟨by omega, by omega, fun x hx => ?_⟩
  rw [List.take_succ_eq_append_getElem (by omega), List.mem_append, List.mem_singleton] at hx
  rcases hx with hx | rfl
  ·exact h3 x hx
  ·omega
theorem longB_no {l : List Advert} (hz : ∀ x ∈ l, x.peers.length ≤ 140737488355328) (h : longB l = false) : l.length ≤ 400 ∧ ∀ x ∈ l, x.peers.length ≤ 1048576 := by
 obtain ⟨h1, h2, h3⟩ := nTo_le hz h l.length (Nat.le_refl _)
 rw [List.take_length] at h3
 exact ⟨by omega, fun x hx => Nat.le_trans (h3 x hx) (by decide)⟩
end Go.Proofs.Ytikmdkicccfjpaa
namespace Go.Proofs.Ytikmdkicccfjpaa
open Go.ChangeShapes Go.WideShapes Go.ChangeAt Go.RowKit
section
variable {w : World} {B : Nat}
theorem rdz_procs : Rdz Try.prog w B 31 (fun l : List Proc => [.ro 2 (procs l)]) fun l => l.length * 16 ≤ B ∧ ∀ p ∈ l, p.okP := Rdz.slice Try.underlying31 (by kernel_rfl) (by kernel_rfl) (by decide) rd_proc.sz
theorem rdz_advert : Rdz Try.prog w B 33 Advert.row fun a => a.peers.length * 16 ≤ B ∧ a.server.okP := ((Rdz.three Try.underlying33 rfl rfl rfl (k0 := 2) (k1 := 1) (k2 := 1) (by kernel_rfl) (by kernel_rfl) (by kernel_rfl) (by kernel_rfl) rd_proc.sz (Rd.u64 Try.underlying28).sz rdz_procs).map fun x => Advert.mk x.1 x.2.1 x.2.2) (fun _ => rfl) fun _ h => ⟨h.2.2.1, h.1⟩
theorem rdz_book : Rdz Try.prog w B 22 (fun l : List Advert => [.ro 4 (adverts l)]) fun l => l.length * 48 ≤ B ∧ ∀ a ∈ l, a.peers.length * 16 ≤ B ∧ a.server.okP := Rdz.slice Try.underlying22 (by kernel_rfl) (by kernel_rfl) (by decide) rdz_advert
theorem peersZ {l : List Advert} (h : ∀ a ∈ l, a.peers.length * 16 ≤ reachBytes ∧ a.server.okP) : ∀ a ∈ l, a.peers.length ≤ 140737488355328 := fun a ha => by have := (h a ha).1; have := reachBytes_lt; omega
end
end Go.Proofs.Ytikmdkicccfjpaa
namespace Go.Proofs.Ytikmdkicccfjpaa
open Go.RowKit
theorem bigZ_app {l : List Advert} {a : Advert} (h : ∀ x ∈ l, x.peers.length ≤ 140737488355328) (ha : a.peers.length ≤ 140737488355328) : ∀ x ∈ l ++ [a], x.peers.length ≤ 140737488355328 := fun x hx => by
 rcases List.mem_append.1 hx with h1 | h1
 ·exact h x h1
 ·rw [List.mem_singleton] at h1; rw [h1]; exact ha
set_option maxHeartbeats 2000000 in
set_option maxRecDepth 100000 in
theorem takesLawZ (l : List Advert) (a : Advert) (hb0 : l.length ≤ 2932031007317) (hz : ∀ x ∈ l, x.peers.length ≤ 140737488355328) (hza : a.peers.length ≤ 140737488355328) : Con Try.prog 4 [.d (.ro 4 (adverts l)), .ag [.z a.server.node, .u a.server.inc, .u a.seq, .d (.ro 2 (procs a.peers))]] (.v (.bool true)) := by
 refine Con.intro (by kernel_rfl) rfl rfl 72 rfl rfl fun w0 K ac hK r => ?_
 have u_0 := ((by first | rfl | (simp; done) | (simp <;> omega)) : (0) = ([] : List (List DV)).length)
 have u_1 := ((by first | omega | (simp; done) | (simp <;> omega)) : (2 * ((0) + (adverts l).length) + 0) * 48 ≤ 281474976710656)
 have u_2 := ((by first | omega | (simp; done) | (simp <;> omega)) : (0) + (adverts l).length < 4611686018427387904)
 have u_3 := ((by first | exact one_adverts l | exact one_adverts [a]) : OneR (adverts l))
 have u_4 := ((by first | rfl | (simp; done) | (simp <;> omega)) : (0 + (adverts l).length) = ([] ++ (adverts l) : List (List DV)).length)
 have u_5 := ((by first | rfl | (simp; done) | (simp <;> omega)) : (1) = ([[.z a.server.node, .u a.server.inc, .u a.seq, .ro 2 (procs a.peers)]] : List (List DV)).length)
 have u_6 := ((by first | omega | (simp; done) | (simp <;> omega)) : (2 * ((0 + (adverts l).length) + (1)) + 0) * 48 ≤ 281474976710656)
 have u_7 := ((by first | omega | (simp; done) | (simp <;> omega)) : (0 + (adverts l).length) + (1) < 4611686018427387904)
 have u_8 := ((by first | exact one_adverts l | exact one_adverts [a]) : OneR ([[.z a.server.node, .u a.server.inc, .u a.seq, .ro 2 (procs a.peers)]]))
 cases h0 : (longB (l ++ [a])) with
 | false =>
  obtain ⟨hb, hl⟩ := longB_no (bigZ_app hz hza) (by assumption)
  have hlb : ∀ x ∈ l, x.peers.length ≤ 1048576 := fun x hx => hl x (List.mem_append_left _ hx)
  have ha := hl a (by simp)
  have hla : (l ++ [a]).length = l.length + 1 := by simp
  have v1_0 := ((by first | rfl | (simp; done) | (simp <;> omega)) : (0) = ([] : List (List DV)).length)
  have v1_1 := ((by first | omega | (simp; done) | (simp <;> omega)) : (2 * ((0) + (adverts l).length) + 0) * 48 ≤ 281474976710656)
  have v1_2 := ((by first | omega | (simp; done) | (simp <;> omega)) : (0) + (adverts l).length < 4611686018427387904)
  have v1_3 := ((by first | exact one_adverts l | exact one_adverts [a]) : OneR (adverts l))
  have v1_4 := ((by first | rfl | (simp; done) | (simp <;> omega)) : (0 + (adverts l).length) = ([] ++ (adverts l) : List (List DV)).length)
  have v1_5 := ((by first | rfl | (simp; done) | (simp <;> omega)) : (1) = ([[.z a.server.node, .u a.server.inc, .u a.seq, .ro 2 (procs a.peers)]] : List (List DV)).length)
  have v1_6 := ((by first | omega | (simp; done) | (simp <;> omega)) : (2 * ((0 + (adverts l).length) + (1)) + 0) * 48 ≤ 281474976710656)
  have v1_7 := ((by first | omega | (simp; done) | (simp <;> omega)) : (0 + (adverts l).length) + (1) < 4611686018427387904)
  have v1_8 := ((by first | exact one_adverts l | exact one_adverts [a]) : OneR ([[.z a.server.node, .u a.server.inc, .u a.seq, .ro 2 (procs a.peers)]]))
  have v1_9 := ((by have k := longOk (l ++ [a]) (by simp; omega); rw [h0] at k; exact k) : Con Try.prog 11 [.d (.ro 4 (adverts (l ++ [a])))] (.v (.bool false)))
  have v1_10 := ((by first | exact ind_v _ | exact ind_adverts _ _) : Ind (.v (.bool false)))
  have v1_11 := ((by first | rfl | (simp; done) | (simp <;> omega)) : (0 + (adverts l).length + (1)) = ([] ++ (adverts l) ++ [[.z a.server.node, .u a.server.inc, .u a.seq, .ro 2 (procs a.peers)]] : List (List DV)).length)
  have v1_12 := ((by first | exact froz_adverts _ | (rw [List.nil_append, adverts_app]; exact froz_adverts _)) : frozR ([] ++ (adverts l) ++ [[.z a.server.node, .u a.server.inc, .u a.seq, .ro 2 (procs a.peers)]]) = adverts (l ++ [a]))
  refine toDraw (todo' := aft Try.f4 1) (E' := [(0, .d (.ro 4 (adverts l))), (3, .pt 0 0), (4, .d (.v (.bool false))), (16, .d (.v (.bool false)))]) (M' := [.bx 33 [.z a.server.node, .u a.server.inc, .u a.seq, .d (.ro 2 (procs a.peers))], .rw 33 4 ([] ++ (adverts l) ++ [[.z a.server.node, .u a.server.inc, .u a.seq, .ro 2 (procs a.peers)]]), .dead]) tk tq hK [(1, [(6, .call [.d (.ro 4 (adverts (l ++ [a])))] (.v (.bool false)))])] 4 3 [] [[0, 1, 2], [0, 1, 2], [0, 2, 1]] [0, 3, 4, 16] r (by kernel_rfl) (an (an v1_0 (an v1_1 (an v1_2 (an v1_3 (an v1_4 (an v1_5 (an v1_6 (an v1_7 (an v1_8 (an v1_9 (an v1_10 (an (rfN (4)) (an v1_11 (an v1_12 trivial)))))))))))))) (an (an v1_0 (an v1_1 (an v1_2 (an v1_3 (an v1_4 (an v1_5 (an v1_6 (an v1_7 (an v1_8 (an v1_9 (an v1_10 (an (rfN (4)) (an v1_11 (an v1_12 trivial)))))))))))))) (an (an v1_0 (an v1_1 (an v1_2 (an v1_3 (an v1_4 (an v1_5 (an v1_6 (an v1_7 (an v1_8 (an v1_9 (an v1_10 (an (rfN (4)) (an v1_11 (an v1_12 trivial)))))))))))))) trivial))) fun ac wd r => ?_
  have v3_0 := ((by first | rfl | (simp; done) | (simp <;> omega)) : (0) = ([] : List (List DV)).length)
  have v3_1 := ((by first | omega | (simp; done) | (simp <;> omega)) : (2 * ((0) + (adverts l).length) + 0) * 48 ≤ 281474976710656)
  have v3_2 := ((by first | omega | (simp; done) | (simp <;> omega)) : (0) + (adverts l).length < 4611686018427387904)
  have v3_3 := ((by first | exact one_adverts l | exact one_adverts [a]) : OneR (adverts l))
  have v3_4 := ((by first | rfl | (simp; done) | (simp <;> omega)) : (0 + (adverts l).length) = ([] ++ (adverts l) : List (List DV)).length)
  have v3_5 := ((by first | rfl | (simp; done) | (simp <;> omega)) : (1) = ([[.z a.server.node, .u a.server.inc, .u a.seq, .ro 2 (procs a.peers)]] : List (List DV)).length)
  have v3_6 := ((by first | omega | (simp; done) | (simp <;> omega)) : (2 * ((0 + (adverts l).length) + (1)) + 0) * 48 ≤ 281474976710656)
  have v3_7 := ((by first | omega | (simp; done) | (simp <;> omega)) : (0 + (adverts l).length) + (1) < 4611686018427387904)
  have v3_8 := ((by first | exact one_adverts l | exact one_adverts [a]) : OneR ([[.z a.server.node, .u a.server.inc, .u a.seq, .ro 2 (procs a.peers)]]))
  have v3_9 := (ownOk (l ++ [a]) (by omega) hl)
  have v3_10 := ((by first | exact ind_v _ | exact ind_adverts _ _) : Ind (.em 33 4 (advertsO (l ++ [a]))))
  have v3_11 := ((by first | rfl | (simp; done) | (simp <;> omega)) : (0 + (adverts l).length + (1)) = ([] ++ (adverts l) ++ [[.z a.server.node, .u a.server.inc, .u a.seq, .ro 2 (procs a.peers)]] : List (List DV)).length)
  have v3_12 := ((by first | exact froz_adverts _ | (rw [List.nil_append, adverts_app]; exact froz_adverts _)) : frozR ([] ++ (adverts l) ++ [[.z a.server.node, .u a.server.inc, .u a.seq, .ro 2 (procs a.peers)]]) = adverts (l ++ [a]))
  refine toDraw (todo' := aft Try.f4 3) (E' := [(0, .d (.ro 4 (adverts l))), (3, .pt 0 0), (4, .d (.v (.bool false))), (5, .sl 5 ((advertsO (l ++ [a]) : List (List DV)).length))]) (M' := [.bx 33 [.z a.server.node, .u a.server.inc, .u a.seq, .d (.ro 2 (procs a.peers))], .rw 33 4 ([] ++ (adverts l) ++ [[.z a.server.node, .u a.server.inc, .u a.seq, .ro 2 (procs a.peers)]]), .dead, .rw 33 4 ([] ++ (adverts l) ++ [[.z a.server.node, .u a.server.inc, .u a.seq, .ro 2 (procs a.peers)]]), .dead, .rw 33 4 (advertsO (l ++ [a]))]) tk tq hK [(3, [(6, .call [.d (.ro 4 (adverts (l ++ [a])))] (.em 33 4 (advertsO (l ++ [a]))))])] 3 3 [] [[0, 1, 2, 3, 4, 5], [0, 1, 2, 3, 4, 5], [0, 1, 2, 4, 3, 5]] [0, 3, 4, 5] r (by kernel_rfl) (an (an v3_0 (an v3_1 (an v3_2 (an v3_3 (an v3_4 (an v3_5 (an v3_6 (an v3_7 (an v3_8 (an v3_9 (an v3_10 (an (rfN (4)) (an v3_11 (an v3_12 trivial)))))))))))))) (an (an v3_0 (an v3_1 (an v3_2 (an v3_3 (an v3_4 (an v3_5 (an v3_6 (an v3_7 (an v3_8 (an v3_9 (an v3_10 (an (rfN (4)) (an v3_11 (an v3_12 trivial)))))))))))))) (an (an v3_0 (an v3_1 (an v3_2 (an v3_3 (an v3_4 (an v3_5 (an v3_6 (an v3_7 (an v3_8 (an v3_9 (an v3_10 (an (rfN (4)) (an v3_11 (an v3_12 trivial)))))))))))))) trivial))) fun ac wd r => ?_
  have r := r.stay (p1 := [((advertsO (l ++ [a]) : List (List DV)).length) = (advertsO (l ++ [a]) : List (List DV)).length]) (p2 := []) (E1 := [(0, .d (.ro 4 (adverts l))), (3, .pt 0 0), (4, .d (.v (.bool false))), (5, .d (.ro 4 (frozR (advertsO (l ++ [a])))))]) (M1 := [.bx 33 [.z a.server.node, .u a.server.inc, .u a.seq, .d (.ro 2 (procs a.peers))], .rw 33 4 ([] ++ (adverts l) ++ [[.z a.server.node, .u a.server.inc, .u a.seq, .ro 2 (procs a.peers)]]), .dead, .rw 33 4 ([] ++ (adverts l) ++ [[.z a.server.node, .u a.server.inc, .u a.seq, .ro 2 (procs a.peers)]]), .dead, .dead]) (M2 := [.bx 33 [.z a.server.node, .u a.server.inc, .u a.seq, .d (.ro 2 (procs a.peers))], .rw 33 4 ([] ++ (adverts l) ++ [[.z a.server.node, .u a.server.inc, .u a.seq, .ro 2 (procs a.peers)]]), .dead, .rw 33 4 ([] ++ (adverts l) ++ [[.z a.server.node, .u a.server.inc, .u a.seq, .ro 2 (procs a.peers)]]), .dead, .dead]) (E2 := [(0, .d (.ro 4 (adverts l))), (3, .pt 0 0), (4, .d (.v (.bool false))), (5, .d (.ro 4 (adverts (l ++ [a]))))]) (M3 := [.bx 33 [.z a.server.node, .u a.server.inc, .u a.seq, .d (.ro 2 (procs a.peers))], .rw 33 4 ([] ++ (adverts l) ++ [[.z a.server.node, .u a.server.inc, .u a.seq, .ro 2 (procs a.peers)]]), .dead, .rw 33 4 ([] ++ (adverts l) ++ [[.z a.server.node, .u a.server.inc, .u a.seq, .ro 2 (procs a.peers)]]), .dead, .dead]) [5] [] (by kernel_rfl) (by kernel_rfl) (an (rfN ((advertsO (l ++ [a]) : List (List DV)).length)) trivial) trivial (by simp only [froz_advertsO]) rfl
  cases h1 : (newsG l a) with
  | false =>
   exact toRet tk tq hK rfl [(4, [(2, .con (.tu [.ro 4 (adverts (takeG l a)), .v (.bool false)]))]), (5, [(2, .z (((l.length : Nat) : Int))), (3, .n2 (l.length) (0)), (6, .z (((l.length : Nat) : Int))), (7, .ix (l.length) [.z a.server.node, .u a.server.inc, .u a.seq, .ro 2 (procs a.peers)]), (9, .con (.tu [.ro 4 (adverts (takeG l a)), .v (.bool false)]))]), (6, [(2, .con (.v (.bool true))), (12, .z (((l.length : Nat) : Int))), (13, .n2 (l.length) (0)), (14, .con (.v (.bool true))), (20, .z (((l.length : Nat) : Int))), (21, .ix (l.length) [.z a.server.node, .u a.server.inc, .u a.seq, .ro 2 (procs a.peers)]), (23, .con (.v (.bool true))), (26, .con (.v (.bool true)))])] 2000 r (by kernel_rfl) (an ((by have k := takeRo l a (by omega) (bigB_ok hlb) (by omega); rw [h1] at k; exact k) : Con Try.prog 17 [.d (.ro 4 (adverts l)), .ag [.z a.server.node, .u a.server.inc, .u a.seq, .d (.ro 2 (procs a.peers))]] (.tu [.ro 4 (adverts (takeG l a)), .v (.bool false)])) (an ((by simp) : (((adverts l).length : Nat) : Int) = ((l.length : Nat) : Int)) (an (rfI ((l.length : Nat) : Int)) (an ((by simp) : (l.length) ≤ (adverts (l ++ [a]) : List (List DV)).length) (an ((by simp) : (((adverts l).length : Nat) : Int) = ((l.length : Nat) : Int)) (an (rfI ((l.length : Nat) : Int)) (an (adverts_at (at_last l a) : (adverts (l ++ [a]))[l.length]? = some [.z a.server.node, .u a.server.inc, .u a.seq, .ro 2 (procs a.peers)]) (an ((by have k := refTakeRo l a (by omega) (bigB_ok hlb) (by omega); rw [h1] at k; exact k) : Con Try.prog 18 [.d (.ro 4 (List.take (l.length) (adverts (l ++ [a])))), .ag [.z a.server.node, .u a.server.inc, .u a.seq, .d (.ro 2 (procs a.peers))]] (.tu [.ro 4 (adverts (takeG l a)), .v (.bool false)])) (an (sameT (takeG l a) (by have := take_len l a; omega) (book_ok _) : Con Try.prog 15 [.d (.ro 4 (adverts (takeG l a))), .d (.ro 4 (adverts (takeG l a)))] (.v (.bool true))) (an ((by simp) : (((adverts l).length : Nat) : Int) = ((l.length : Nat) : Int)) (an (rfI ((l.length : Nat) : Int)) (an ((by simp) : (l.length) ≤ (adverts (l ++ [a]) : List (List DV)).length) (an (sameP l a (by omega) (bigB_ok hlb)) (an ((by simp) : (((adverts l).length : Nat) : Int) = ((l.length : Nat) : Int)) (an (rfI ((l.length : Nat) : Int)) (an (adverts_at (at_last l a) : (adverts (l ++ [a]))[l.length]? = some [.z a.server.node, .u a.server.inc, .u a.seq, .ro 2 (procs a.peers)]) (an (sameA a (by omega)) (an (awakeOk) trivial))))))))))))))))))
  | true =>
   exact toRet tk tq hK rfl [(4, [(2, .con (.tu [.ro 4 (adverts (takeG l a)), .v (.bool true)]))]), (5, [(2, .z (((l.length : Nat) : Int))), (3, .n2 (l.length) (0)), (6, .z (((l.length : Nat) : Int))), (7, .ix (l.length) [.z a.server.node, .u a.server.inc, .u a.seq, .ro 2 (procs a.peers)]), (9, .con (.tu [.ro 4 (adverts (takeG l a)), .v (.bool true)]))]), (6, [(2, .con (.v (.bool true))), (12, .z (((l.length : Nat) : Int))), (13, .n2 (l.length) (0)), (14, .con (.v (.bool true))), (20, .z (((l.length : Nat) : Int))), (21, .ix (l.length) [.z a.server.node, .u a.server.inc, .u a.seq, .ro 2 (procs a.peers)]), (23, .con (.v (.bool true))), (26, .con (.v (.bool true)))])] 2000 r (by kernel_rfl) (an ((by have k := takeRo l a (by omega) (bigB_ok hlb) (by omega); rw [h1] at k; exact k) : Con Try.prog 17 [.d (.ro 4 (adverts l)), .ag [.z a.server.node, .u a.server.inc, .u a.seq, .d (.ro 2 (procs a.peers))]] (.tu [.ro 4 (adverts (takeG l a)), .v (.bool true)])) (an ((by simp) : (((adverts l).length : Nat) : Int) = ((l.length : Nat) : Int)) (an (rfI ((l.length : Nat) : Int)) (an ((by simp) : (l.length) ≤ (adverts (l ++ [a]) : List (List DV)).length) (an ((by simp) : (((adverts l).length : Nat) : Int) = ((l.length : Nat) : Int)) (an (rfI ((l.length : Nat) : Int)) (an (adverts_at (at_last l a) : (adverts (l ++ [a]))[l.length]? = some [.z a.server.node, .u a.server.inc, .u a.seq, .ro 2 (procs a.peers)]) (an ((by have k := refTakeRo l a (by omega) (bigB_ok hlb) (by omega); rw [h1] at k; exact k) : Con Try.prog 18 [.d (.ro 4 (List.take (l.length) (adverts (l ++ [a])))), .ag [.z a.server.node, .u a.server.inc, .u a.seq, .d (.ro 2 (procs a.peers))]] (.tu [.ro 4 (adverts (takeG l a)), .v (.bool true)])) (an (sameT (takeG l a) (by have := take_len l a; omega) (book_ok _) : Con Try.prog 15 [.d (.ro 4 (adverts (takeG l a))), .d (.ro 4 (adverts (takeG l a)))] (.v (.bool true))) (an ((by simp) : (((adverts l).length : Nat) : Int) = ((l.length : Nat) : Int)) (an (rfI ((l.length : Nat) : Int)) (an ((by simp) : (l.length) ≤ (adverts (l ++ [a]) : List (List DV)).length) (an (sameP l a (by omega) (bigB_ok hlb)) (an ((by simp) : (((adverts l).length : Nat) : Int) = ((l.length : Nat) : Int)) (an (rfI ((l.length : Nat) : Int)) (an (adverts_at (at_last l a) : (adverts (l ++ [a]))[l.length]? = some [.z a.server.node, .u a.server.inc, .u a.seq, .ro 2 (procs a.peers)]) (an (sameA a (by omega)) (an (awakeOk) trivial))))))))))))))))))
 | true =>
  have v1_0 := ((by first | rfl | (simp; done) | (simp <;> omega)) : (0) = ([] : List (List DV)).length)
  have v1_1 := ((by first | omega | (simp; done) | (simp <;> omega)) : (2 * ((0) + (adverts l).length) + 0) * 48 ≤ 281474976710656)
  have v1_2 := ((by first | omega | (simp; done) | (simp <;> omega)) : (0) + (adverts l).length < 4611686018427387904)
  have v1_3 := ((by first | exact one_adverts l | exact one_adverts [a]) : OneR (adverts l))
  have v1_4 := ((by first | rfl | (simp; done) | (simp <;> omega)) : (0 + (adverts l).length) = ([] ++ (adverts l) : List (List DV)).length)
  have v1_5 := ((by first | rfl | (simp; done) | (simp <;> omega)) : (1) = ([[.z a.server.node, .u a.server.inc, .u a.seq, .ro 2 (procs a.peers)]] : List (List DV)).length)
  have v1_6 := ((by first | omega | (simp; done) | (simp <;> omega)) : (2 * ((0 + (adverts l).length) + (1)) + 0) * 48 ≤ 281474976710656)
  have v1_7 := ((by first | omega | (simp; done) | (simp <;> omega)) : (0 + (adverts l).length) + (1) < 4611686018427387904)
  have v1_8 := ((by first | exact one_adverts l | exact one_adverts [a]) : OneR ([[.z a.server.node, .u a.server.inc, .u a.seq, .ro 2 (procs a.peers)]]))
  have v1_9 := ((by have k := longOk (l ++ [a]) (by simp; omega); rw [h0] at k; exact k) : Con Try.prog 11 [.d (.ro 4 (adverts (l ++ [a])))] (.v (.bool true)))
  have v1_10 := ((by first | exact ind_v _ | exact ind_adverts _ _) : Ind (.v (.bool true)))
  have v1_11 := ((by first | rfl | (simp; done) | (simp <;> omega)) : (0 + (adverts l).length + (1)) = ([] ++ (adverts l) ++ [[.z a.server.node, .u a.server.inc, .u a.seq, .ro 2 (procs a.peers)]] : List (List DV)).length)
  have v1_12 := ((by first | exact froz_adverts _ | (rw [List.nil_append, adverts_app]; exact froz_adverts _)) : frozR ([] ++ (adverts l) ++ [[.z a.server.node, .u a.server.inc, .u a.seq, .ro 2 (procs a.peers)]]) = adverts (l ++ [a]))
  refine toDraw (todo' := aft Try.f4 1) (E' := [(0, .d (.ro 4 (adverts l))), (3, .pt 0 0), (4, .d (.v (.bool false))), (16, .d (.v (.bool true)))]) (M' := [.bx 33 [.z a.server.node, .u a.server.inc, .u a.seq, .d (.ro 2 (procs a.peers))], .rw 33 4 ([] ++ (adverts l) ++ [[.z a.server.node, .u a.server.inc, .u a.seq, .ro 2 (procs a.peers)]]), .dead]) tk tq hK [(1, [(6, .call [.d (.ro 4 (adverts (l ++ [a])))] (.v (.bool true)))])] 4 3 [] [[0, 1, 2], [0, 1, 2], [0, 2, 1]] [0, 3, 4, 16] r (by kernel_rfl) (an (an v1_0 (an v1_1 (an v1_2 (an v1_3 (an v1_4 (an v1_5 (an v1_6 (an v1_7 (an v1_8 (an v1_9 (an v1_10 (an (rfN (4)) (an v1_11 (an v1_12 trivial)))))))))))))) (an (an v1_0 (an v1_1 (an v1_2 (an v1_3 (an v1_4 (an v1_5 (an v1_6 (an v1_7 (an v1_8 (an v1_9 (an v1_10 (an (rfN (4)) (an v1_11 (an v1_12 trivial)))))))))))))) (an (an v1_0 (an v1_1 (an v1_2 (an v1_3 (an v1_4 (an v1_5 (an v1_6 (an v1_7 (an v1_8 (an v1_9 (an v1_10 (an (rfN (4)) (an v1_11 (an v1_12 trivial)))))))))))))) trivial))) fun ac wd r => ?_
  exact toRet tk tq hK rfl [(2, [(0, .con (.v (.bool true)))])] 2000 r (by kernel_rfl) (an (awakeOk) trivial)
end Go.Proofs.Ytikmdkicccfjpaa
namespace Go.Proofs.Ytikmdkicccfjpaa
open Go.ChangeShapes Go.WideShapes Go.ChangeAt Go.RowKit
set_option maxRecDepth 100000 in
theorem graphTakes_lifted (os : Os) (started : os.Started) (H : Type) (enc : TypeId × Value → H) :
  ReturnsInHanded {} Try.checked os 4 .any (Rows.graphTakesSpec.pre6 enc Try.prog Try.f4 Rows.graphTakesRow.domain false) (Rows.graphTakesSpec.post enc Try.prog Try.f4 false true false false) := by
 refine returnsInHanded_of_change_sized (C := Try.checked) Try.own started (by kernel_rfl) Try.func4
  (ChangeSpec.witness6 (enc := enc) (C := Try.checked) false ⟨#[], #[.slice none 0 0, .agg #[.int .i64 0, .int .u64 0, .int .u64 0, .slice none 0 0]], []⟩ 8 (by kernel_rfl) (by kernel_rfl) (by kernel_rfl) (by kernel_rfl)) ?_
 intro W base args ds gs before hval0 hW hcnd hsz _
 have hW0 : DataW.Whole enc Try.prog Try.f4.params.toList Rows.graphTakesSpec.vars false W args.toList ds gs before := hW
 have hW' := hW0
 obtain ⟨p, q, hA0, hV, rfl, hfz, hnd⟩ := hW
 have hA : DataW.TrodAll enc Try.prog W 0 (fun _ => true) true Try.f4.params.toList args.toList ds p := hA0
 have hval : ∀ (j : Nat) t v, Try.f4.params[j]? = some t → args[j]? = some v → Value.okWide Try.prog W .any base t v := hval0
 rw [Try.params4] at hA hval
 obtain ⟨v0, vs0, d0, ds0, p0, q0, hargs0, rfl, rfl, h0, r0⟩ := trodAll_cons hA
 obtain ⟨v1, vs1, d1, ds1, p1, q1, hargs1, rfl, rfl, h1, r1⟩ := trodAll_cons r0
 subst hargs1
 obtain ⟨rfl, rfl, rfl⟩ := trodAll_nil r1
 obtain rfl : args = #[v0, v1] := by cases args; simp_all
 obtain ⟨rfl, rfl⟩ := trodVars_none hV
 obtain ⟨a0, n0, c0, rfl⟩ := okWide_slice (P := Try.prog) (e := 33) (by kernel_rfl) (hval 0 22 v0 rfl rfl)
 obtain ⟨l, hl, g0⟩ := rdz_book _ (TZ.of h0 (fun n hn => by simpa using List.all_eq_true.1 hsz n (DataW.weights_mem_each (j := 0) (by rw [Try.params4]; rfl) rfl n hn)))
 obtain ⟨cs1, rfl, -, -⟩ : ∃ cs, v1 = .agg cs ∧ _ ∧ _ := by have := hval 1 33 v1 rfl rfl; rw [Value.okWide, Try.underlying33] at this; exact this
 obtain ⟨a, ha, g1⟩ := rdz_advert _ (TZ.of h1 (fun n hn => by simpa using List.all_eq_true.1 hsz n (DataW.weights_mem_each (j := 1) (by rw [Try.params4]; rfl) rfl n hn)))
 have hre := reachBytes_lt
 refine (Con.holds (w := W) (takesLawZ l a (by have := hl.1; have e : reachBytes = 140737488351232 := rfl; omega) (peersZ hl.2) (by have := ha.1; have := reachBytes_lt; omega)) (ys := [_, _]) rfl fun j c y e1 e2 => ?_).mono fun e W' ⟨he, hg⟩ => ?_
 ·match j, e1, e2 with
  | 0, e1, e2 => simp at e1 e2; subst e1 e2; exact DRs.v g0
  | 1, e1, e2 => simp at e1 e2; subst e1 e2; exact g1.agg
  | k + 2, e1, _ => simp at e1
 ·subst he
  exact ⟨_, rfl, law_post Try.laidOut (by kernel_rfl) (by kernel_rfl) Try.underlying4 rfl hW' rfl hg⟩
theorem graphTakes_holds : Rows.GraphTakesSaid :=
 OpenClaim.holds_of_wide 4 Try.f4 rfl rfl rfl rfl rfl rfl rfl ⟨rfl, rfl, rfl, rfl, rfl⟩ rfl rfl rfl rfl rfl (by kernel_rfl) Try.func4 (by kernel_rfl)
  (of_decide_eq_true (by kernel_rfl)) (by unfold Func.isWrapper; first | (rw [if_pos (by decide +kernel)]; kernel_rfl) | (rw [if_neg (by decide +kernel)]; exact ⟨rfl, rfl⟩))
  (fun os started H enc _ => graphTakes_lifted os started H enc)
end Go.Proofs.Ytikmdkicccfjpaa
