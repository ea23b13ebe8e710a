/-
  specAnew_holds, part 6 of 6: merged by program from the texts that it needs.
-/
import Derived.Test.YtilhbhpldkjkaaaAnE
set_option linter.unusedSimpArgs false
set_option linter.unusedVariables false
set_option linter.unnecessarySimpa false
namespace Go.Proofs.Ytilhbhpldkjkaaa
open Go.RowKit
theorem Con.frozen {P : Program} {f : FuncId} {args : List AV} {x : DV} (h : Con P f args x) : Con P f args (froz x) := by
  refine ⟨h.1, fun w K ys hK hl hr => (h.2 w K ys hK hl hr).mono ?_⟩
  rintro ed w' ⟨v, rfl, g, H, ⟨Ho, Hi, rfl, hd⟩, n⟩
  exact ⟨_, rfl, g, _, ⟨[], Ho ++ Hi, rfl, froz_ok hd fun w hw => ⟨⟨hw.1, (Holds.app.1 hw.2).2⟩, (Holds.app.1 hw.2).1⟩⟩, n⟩
theorem nodup_few {α : Type} [DecidableEq α] : ∀ {l m : List α}, l.Nodup → (∀ x ∈ l, x ∈ m) → l.length ≤ m.length
  | [], _, _, _ => by simp
  | x :: l, m, hn, h => by
    rw [List.nodup_cons] at hn
    have hx := h x List.mem_cons_self
    have := nodup_few (l := l) (m := m.erase x) hn.2 fun y hy => (List.mem_erase_of_ne (fun e => hn.1 (by rw [← e]; exact hy))).2 (h y (List.mem_cons_of_mem _ hy))
    have hp : 0 < m.length := List.length_pos_of_mem hx
    rw [List.length_erase_of_mem hx] at this
    simp; omega
abbrev Lives := List (Nat × Proc × Life)
structure LivesOk (L : Lives) (nl : Nat) : Prop where
  n : keysN L
  ok : ∀ x ∈ L, x.2.1.okP
  born : (L.map fun x => x.1).Nodup
  lt : ∀ x ∈ L, x.1 < nl
  nodes : L.Pairwise fun x y => x.2.1.node ≠ y.2.1.node
  life : ∀ x ∈ L, x.2.2.Ok x.2.1
def endsB (L : Lives) (p : Proc) : Bool := L.any fun x => decide (x.2.1.node = p.node) && (x.2.2.on || decide (p.inc ≤ x.2.1.inc))
def others (L : Lives) (p : Proc) : Lives := L.filter fun x => decide (x.2.1.node ≠ p.node)
def Life.new (p : Proc) : Life := ⟨View.first p, true, 0, 0, [0]⟩
structure BegR where
  err : Int
  L : Lives
  nl : Nat
def beginJ (L : Lives) (nl : Nat) (p : Proc) : BegR :=
  if p.may = false then ⟨230, L, nl⟩ else if endsB L p = true then ⟨230, L, nl⟩ else ⟨0, others L p ++ [(nl, p, Life.new p)], nl + 1⟩
theorem beginJ1 {L : Lives} {nl : Nat} {p : Proc} (h : p.may = false) : beginJ L nl p = ⟨230, L, nl⟩ := by unfold beginJ; rw [if_pos h]
theorem beginJ2 {L : Lives} {nl : Nat} {p : Proc} (h2 : endsB L p = true) : beginJ L nl p = ⟨230, L, nl⟩ := by unfold beginJ; rw [if_pos h2]; split <;> rfl
theorem beginJ3 {L : Lives} {nl : Nat} {p : Proc} (h : p.may = true) (h2 : endsB L p = false) : beginJ L nl p = ⟨0, others L p ++ [(nl, p, Life.new p)], nl + 1⟩ := by unfold beginJ; rw [if_neg (by rw [h]; decide), if_neg (by rw [h2]; decide)]
def begL (L : Lives) (p : Proc) (sn : List Nat) : Lives := L.filter fun x => !(decide (x.1 ∈ sn) && decide (x.2.1.node = p.node))
theorem begL_nil (L : Lives) (p : Proc) : begL L p [] = L := by unfold begL; rw [List.filter_eq_self]; intro x _; simp
structure BegI (L : Lives) (p : Proc) (sn : List Nat) (i : Nat) : Prop where
  len : sn.length = i
  nd : sn.Nodup
  sub : ∀ b ∈ sn, b ∈ L.map fun x => x.1
  ok : ∀ x ∈ L, x.1 ∈ sn → x.2.1.node = p.node → x.2.2.on = false ∧ x.2.1.inc < p.inc
theorem BegI.start (L : Lives) (p : Proc) : BegI L p [] 0 := ⟨rfl, List.nodup_nil, by simp, by simp⟩
section
variable {L : Lives} {nl i jj b : Nat} {p q : Proc} {f : Life} {sn : List Nat}
theorem begL_mem {x : Nat × Proc × Life} (h : x ∈ begL L p sn) : x ∈ L := (List.mem_filter.1 h).1
theorem BegI.less (h : BegI L p sn i) (hq : (begL L p sn)[jj]? = some (b, q, f)) (hb : b ∉ sn) : i < L.length := by
  have h1 : ∀ c ∈ b :: sn, c ∈ L.map fun x => x.1 := fun c hc => by
    rcases List.mem_cons.1 hc with rfl | hc
    · exact List.mem_map.2 ⟨_, begL_mem (List.mem_of_getElem? hq), rfl⟩
    · exact h.sub c hc
  have := nodup_few (List.nodup_cons.2 ⟨hb, h.nd⟩) h1
  rw [List.length_cons, h.len, List.length_map] at this; omega
theorem uniq (hL : LivesOk L nl) {x y : Nat × Proc × Life} (hx : x ∈ L) (hy : y ∈ L) (h : x.2.1.node = y.2.1.node) : x = y := by
  obtain ⟨i, hi, rfl⟩ := List.getElem_of_mem hx
  obtain ⟨j, hj, rfl⟩ := List.getElem_of_mem hy
  rcases Nat.lt_trichotomy i j with hlt | heq | hgt
  · exact absurd h (List.pairwise_iff_getElem.1 hL.nodes i j hi hj hlt)
  · subst heq; rfl
  · exact absurd h.symm (List.pairwise_iff_getElem.1 hL.nodes j i hj hi hgt)
theorem born_uniq (hL : LivesOk L nl) {x y : Nat × Proc × Life} (hx : x ∈ L) (hy : y ∈ L) (h : x.1 = y.1) : x = y := by
  obtain ⟨i, hi, rfl⟩ := List.getElem_of_mem hx
  obtain ⟨j, hj, rfl⟩ := List.getElem_of_mem hy
  have : i = j := (List.getElem?_inj (by simpa using hi) hL.born).1 (by rw [List.getElem?_map, List.getElem?_map, List.getElem?_eq_getElem hi, List.getElem?_eq_getElem hj]; simp [h])
  subst this; rfl
theorem begL_pass (hL : LivesOk L nl) (hq : (begL L p sn)[jj]? = some (b, q, f)) (hn : q.node ≠ p.node) : begL L p (sn ++ [b]) = begL L p sn := by
  unfold begL
  apply List.filter_congr; intro x hx
  by_cases h1 : x.1 = b
  · have := born_uniq hL hx (begL_mem (List.mem_of_getElem? hq)) h1
    subst this; simp [hn]
  · simp [h1]
theorem BegI.pass (h : BegI L p sn i) (hL : LivesOk L nl) (hq : (begL L p sn)[jj]? = some (b, q, f)) (hb : b ∉ sn) (hok : q.node = p.node → f.on = false ∧ q.inc < p.inc) : BegI L p (sn ++ [b]) (i + 1) where
  len := by simp [h.len]
  nd := List.nodup_append.2 ⟨h.nd, by simp, fun a ha c hc e => by simp at hc; subst hc; subst e; exact hb ha⟩
  sub := fun c hc => by
    rcases List.mem_append.1 hc with hc | hc
    · exact h.sub c hc
    · simp at hc; subst hc; exact List.mem_map.2 ⟨_, begL_mem (List.mem_of_getElem? hq), rfl⟩
  ok := fun x hx hs hn => by
    rcases List.mem_append.1 hs with hs | hs
    · exact h.ok x hx hs hn
    · simp at hs
      have := born_uniq hL hx (begL_mem (List.mem_of_getElem? hq)) hs
      subst this; exact hok hn
theorem begL_cut (hL : LivesOk L nl) (hq : (begL L p sn)[jj]? = some (b, q, f)) (hn : q.node = p.node) : (begL L p sn).eraseIdx jj = begL L p (sn ++ [b]) := by
  have hmem := begL_mem (List.mem_of_getElem? hq)
  have h1 : begL L p (sn ++ [b]) = (begL L p sn).filter fun x => !(decide (x.1 = b)) := by
    unfold begL
    rw [List.filter_filter]
    apply List.filter_congr; intro x hx
    by_cases h1 : x.1 = b
    · have := born_uniq hL hx hmem h1
      subst this; simp [hn]
    · simp [h1]
  rw [h1]
  have hnd : ((begL L p sn).map fun x => x.1).Nodup := (List.Sublist.map _ List.filter_sublist).nodup hL.born
  generalize begL L p sn = M at hq hnd
  clear h1
  induction M generalizing jj with
  | nil => simp at hq
  | cons y r ih =>
    simp only [List.map_cons, List.nodup_cons] at hnd
    cases jj with
    | zero =>
      simp at hq; subst hq
      rw [List.eraseIdx_cons_zero, List.filter_cons_of_neg (by simp), eq_comm, List.filter_eq_self]
      intro x hx
      have : x.1 ≠ b := fun e => hnd.1 (List.mem_map.2 ⟨x, hx, e⟩)
      simpa using this
    | succ j =>
      simp at hq
      have : y.1 ≠ b := fun e => hnd.1 (by rw [e]; exact List.mem_map.2 ⟨_, List.mem_of_getElem? hq, rfl⟩)
      rw [List.eraseIdx_cons_succ, List.filter_cons_of_pos (by simpa using this), ih hq hnd.2]
theorem begL_whole (hL : LivesOk L nl) (hq : (begL L p sn)[jj]? = some (b, q, f)) (hb : b ∉ sn) (hn : q.node = p.node) : begL L p sn = L := by
  have hmem := begL_mem (List.mem_of_getElem? hq)
  unfold begL; rw [List.filter_eq_self]; intro x hx
  by_cases h : x.2.1.node = p.node
  · have := uniq hL hx hmem (h.trans hn.symm)
    subst this; simp [hb]
  · simp [h]
theorem ends_yes (hq : (begL L p sn)[jj]? = some (b, q, f)) (hn : q.node = p.node) (h : f.on = true ∨ p.inc ≤ q.inc) : endsB L p = true := by
  unfold endsB; rw [List.any_eq_true]
  exact ⟨_, begL_mem (List.mem_of_getElem? hq), by simp [hn]; exact h⟩
theorem beg_end (hall : ∀ e ∈ emap pk Life.d (begL L p sn), e.1 ∈ sn) : begL L p sn = others L p := by
  have h1 : ∀ x ∈ begL L p sn, x.1 ∈ sn := fun x hx => hall (x.1, pk x.2.1, x.2.2.d) (List.mem_map.2 ⟨x, hx, rfl⟩)
  unfold begL others
  apply List.filter_congr; intro x hx
  by_cases h : x.2.1.node = p.node
  · by_cases h2 : x.1 ∈ sn
    · simp [h, h2]
    · exact absurd (h1 x (List.mem_filter.2 ⟨hx, by simp [h2]⟩)) h2
  · simp [h]
theorem ends_no (h : BegI L p sn i) (hall : ∀ e ∈ emap pk Life.d (begL L p sn), e.1 ∈ sn) : endsB L p = false := by
  have h1 : ∀ x ∈ begL L p sn, x.1 ∈ sn := fun x hx => hall (x.1, pk x.2.1, x.2.2.d) (List.mem_map.2 ⟨x, hx, rfl⟩)
  cases he : endsB L p with
  | false => rfl
  | true =>
    unfold endsB at he; rw [List.any_eq_true] at he
    obtain ⟨x, hx, hc⟩ := he
    simp only [Bool.and_eq_true, decide_eq_true_eq, Bool.or_eq_true] at hc
    have hs : x.1 ∈ sn := by
      by_cases h2 : x.1 ∈ sn
      · exact h2
      · exact h1 x (List.mem_filter.2 ⟨hx, by simp [h2]⟩)
    obtain ⟨g1, g2⟩ := h.ok x hx hs hc.1
    rcases hc.2 with g | g
    · rw [g1] at g; cases g
    · omega
theorem others_fresh : getK (others L p) p = none := by
  unfold getK; rw [Option.map_eq_none_iff, List.find?_eq_none]
  intro x hx
  have := (List.mem_filter.1 hx).2
  simp at this ⊢
  intro e; exact this (by rw [e])
theorem others_sub {x : Nat × Proc × Life} (h : x ∈ others L p) : x ∈ L := (List.mem_filter.1 h).1
theorem begL_lt (hL : LivesOk L nl) : ∀ e ∈ emap pk Life.d (begL L p sn), e.1 < nl := fun e he => by
  obtain ⟨x, hx, rfl⟩ := List.mem_map.1 he
  exact hL.lt x (begL_mem hx)
theorem setE_born (es : List (Nat × MK × DV)) (j : Nat) (z : DV) : List.map (fun (e : Nat × MK × DV) => e.1) (setE es j z) = List.map (fun (e : Nat × MK × DV) => e.1) es := by
  unfold setE
  apply List.ext_getElem?; intro i
  simp only [List.getElem?_modify, List.getElem?_map]
  by_cases e : j = i
  · subst e; cases es[j]? <;> simp
  · simp only [if_neg e]; cases es[i]? <;> simp
theorem begL_born (hL : LivesOk L nl) (j : Nat) (z : DV) : (List.map (fun (e : Nat × MK × DV) => e.1) (setE (emap pk Life.d (begL L p sn)) j z)).Nodup := by
  rw [setE_born, emap_born]; exact (List.Sublist.map _ List.filter_sublist).nodup hL.born
theorem begL_keys (hL : LivesOk L nl) (j : Nat) (z : DV) : (List.map (fun (e : Nat × MK × DV) => e.2.1) (setE (emap pk Life.d (begL L p sn)) j z)).Nodup := by
  rw [setE_keys]; exact emap_nodup (fun _ _ h => pk_inj h) ((List.Sublist.map _ List.filter_sublist).nodup hL.n)
theorem setE_erase (es : List (Nat × MK × DV)) (j : Nat) (z : DV) : (setE es j z).eraseIdx j = es.eraseIdx j := by
  unfold setE
  apply List.ext_getElem?; intro i
  rw [List.getElem?_eraseIdx, List.getElem?_eraseIdx]
  split
  · rename_i hi; simp [List.getElem?_modify, show ¬ j = i by omega]
  · rename_i hi; simp [List.getElem?_modify, show ¬ j = i + 1 by omega]
theorem emap_erase {κ α : Type} (k : κ → MK) (d : α → DV) (l : List (Nat × κ × α)) (j : Nat) : (emap k d l).eraseIdx j = emap k d (l.eraseIdx j) := by
  unfold emap; rw [eraseIdx_map']
end
theorem viewFirstR (p : Proc) : Con Try.prog 16 [.ag [.z p.node, .u p.inc]] (.ag [.u (View.first p).id.round, .z (View.first p).id.server.node, .u (View.first p).id.server.inc, .ro 2 (procs (View.first p).members), .ro 1 (nums (View.first p).starts)]) := by
  have h := (viewFirst p).frozen
  simp only [froz, frozL, froz_procs, froz_numsE] at h
  exact h
set_option maxRecDepth 100000 in
theorem beginOk (X2 X3 X4 : List (Nat × MK × DV)) (cs cc cg : Nat) (L : Lives) (nl : Nat) (p : Proc) (hp : p.okP) (hL : LivesOk L nl) : ConM Try.prog 9 [.pt 0 0, .ag [.z p.node, .u p.inc]] [.bx 47 [.mv 1, .mv 2, .mv 3, .mv 4], .mp 42 (nl) (emap pk Life.d L), .mp 43 (cs) (X2), .mp 44 (cc) (X3), .mp 45 (cg) (X4)] (.d (.z (beginJ L nl p).err)) ([.bx 47 [.mv 1, .mv 2, .mv 3, .mv 4], .mp 42 ((beginJ L nl p).nl) (emap pk Life.d (beginJ L nl p).L), .mp 43 (cs) (X2), .mp 44 (cc) (X3), .mp 45 (cg) (X4)]) := by
  have hf1 : (View.first p).members.length = 1 := rfl
  refine ConM.intro (by kernel_rfl) rfl rfl 54 rfl rfl fun D w0 K bs ac wd hK (hbm : bs.m = 5) r => ?_
  cases h0 : (p.may) with
  | false =>
    refine castM (y := .z 230) (N' := [.bx 47 [.mv 1, .mv 2, .mv 3, .mv 4], .mp 42 (nl) (emap pk Life.d L), .mp 43 (cs) (X2), .mp 44 (cc) (X3), .mp 45 (cg) (X4)]) ((by rw [beginJ1 (by assumption)])) ((by rw [beginJ1 (by assumption)])) ?_
    exact toRetM tb_ok mixed_ok hK rfl hbm [(1, [(1, .con (.v (.bool false)))])] 2000 [0, 1, 2, 3, 4] r (by kernel_rfl) (an ((by have k := procMay p; rw [h0] at k; exact k) : Con Try.prog 14 [.ag [.z p.node, .u p.inc]] (.v (.bool false))) trivial)
  | true =>
    refine toHeadM (todo' := hd Try.f9 0) (E' := [(0, .pt 0 0), (3, .pt 5 0), (15, .pt 6 0)]) (M' := [.bx 47 [.mv 1, .mv 2, .mv 3, .mv 4], .mp 42 (nl) (emap pk Life.d L), .mp 43 (cs) (X2), .mp 44 (cc) (X3), .mp 45 (cg) (X4), .bx 32 [.z p.node, .u p.inc], .it (some 1) (nl) ([]) (nl)]) tb_ok mixed_ok hK hbm [(1, [(1, .con (.v (.bool true)))])] 2000 [0, 1, 2, 3, 4, 5, 6] [0, 3, 15] r (by kernel_rfl) (an ((by have k := procMay p; rw [h0] at k; exact k) : Con Try.prog 14 [.ag [.z p.node, .u p.inc]] (.v (.bool true))) trivial) fun ac wd r => ?_
    refine Goes.rounds (Φ := fun (i : Nat) ac wd => ∃ sn : List Nat, (BegI L p sn i) ∧ RB D w0 K 54 bs [(0, .pt 0 0), (3, .pt 5 0), (15, .pt 6 0)] [.bx 47 [.mv 1, .mv 2, .mv 3, .mv 4], .mp 42 (nl) (emap pk Life.d (begL L p sn)), .mp 43 (cs) (X2), .mp 44 (cc) (X3), .mp 45 (cg) (X4), .bx 32 [.z p.node, .u p.inc], .it (some 1) (nl) (sn) (nl)] ac wd) (L.length) ?_ (Nat.zero_le _) ⟨[], (BegI.start L p), (r).cast rfl (by rw [begL_nil])⟩
    clear r
    rintro i hi0 again0 ac wd ⟨sn, hv0, r⟩
    refine toNextM (id := 4) (t := 15) (d1 := 16) (d2 := 17) (ui := 6) (um := 1) (since := nl) (c := nl) (T' := 42) (ck := nl) (seen := sn) (es := emap pk Life.d (begL L p sn)) (k := aft Try.f9 4) (ops := ops Try.f9 4) tb_ok mixed_ok hK 1 r (by kernel_rfl) (by kernel_rfl) (by kernel_rfl) ⟨by kernel_rfl, by kernel_rfl⟩ (by kernel_rfl) (by kernel_rfl) (by kernel_rfl) (begL_lt hL) (Nat.le_refl _) (fun hall4 ac wd r => ?_) (fun jj4 bb4 kk4 xx4 hj4 hb4 ac wd r => ?_)
    ·
      refine toAtM (todo' := aft Try.f9 11) (E' := [(0, .pt 0 0), (3, .pt 5 0), (7, .pt 7 0)]) (M' := [.bx 47 [.mv 1, .mv 2, .mv 3, .mv 4], .mp 42 (nl) (emap pk Life.d (begL L p sn)), .mp 43 (cs) (X2), .mp 44 (cc) (X3), .mp 45 (cg) (X4), .bx 32 [.z p.node, .u p.inc], .it (some 1) (nl) (sn) (nl), .bx 52 [.u ((View.first p).id.round), .z ((View.first p).id.server.node), .u ((View.first p).id.server.inc), .d (.ro 2 (procs (View.first p).members)), .d (.ro 1 (nums (View.first p).starts)), .d (.v (.bool true)), .z 0, .d (.v (.int .u64 0)), .sl 9 ((procs (View.first p).members).length)], .bx 38 [.u ((View.first p).id.round), .z ((View.first p).id.server.node), .u ((View.first p).id.server.inc), .d (.ro 2 (procs (View.first p).members)), .d (.ro 1 (nums (View.first p).starts))], .rw 30 1 (List.replicate ((procs (View.first p).members).length) [.v (.int .u64 0)])]) tb_ok mixed_ok hK hbm [(11, [(2, .con (.ag [.u ((View.first p).id.round), .z ((View.first p).id.server.node), .u ((View.first p).id.server.inc), .ro 2 (procs (View.first p).members), .ro 1 (nums (View.first p).starts)])), (3, .into 200 [(4, [(4, .n ((procs (View.first p).members).length))])])])] 7 [0, 1, 2, 3, 4, 5, 6, 7, 8, 9] [0, 3, 7] r (by kernel_rfl) (an (viewFirstR p) (an (rfI (((procs (View.first p).members).length : Nat) : Int)) (an (rfI (((procs (View.first p).members).length : Nat) : Int)) (an ((by first | omega | decide | (simp; done) | (simp; omega)) : 8 * ((procs (View.first p).members).length) ≤ 281474976710656) (an ((by first | omega | decide | (simp; done) | (simp; omega)) : ((procs (View.first p).members).length) < 4611686018427387904) trivial))))) fun ac wd r => ?_
      obtain ⟨xb, r⟩ := r.name (u := 7) rfl
      refine toAtM (todo' := aft Try.f9 13) (E' := [(4, .z 0)]) (M' := [.bx 47 [.mv 1, .mv 2, .mv 3, .mv 4], .mp 42 (nl + 1) (emap pk Life.d (begL L p sn) ++ [(nl, .a [(.i64, (p.node : Int)), (.u64, (((p.inc : Nat) : Int) : Int))], ptrV xb)]), .mp 43 (cs) (X2), .mp 44 (cc) (X3), .mp 45 (cg) (X4), .bx 32 [.z p.node, .u p.inc], .it (some 1) (nl) (sn) (nl), .bx 52 [.u ((View.first p).id.round), .z ((View.first p).id.server.node), .u ((View.first p).id.server.inc), .d (.ro 2 (procs (View.first p).members)), .d (.ro 1 (nums (View.first p).starts)), .d (.v (.bool true)), .z 0, .d (.v (.int .u64 0)), .sl 9 ((procs (View.first p).members).length)], .bx 38 [.u ((View.first p).id.round), .z ((View.first p).id.server.node), .u ((View.first p).id.server.inc), .d (.ro 2 (procs (View.first p).members)), .d (.ro 1 (nums (View.first p).starts))], .rw 30 1 (List.replicate ((procs (View.first p).members).length) [.v (.int .u64 0)]), .nm 7 xb]) tb_ok mixed_ok hK hbm [(12, [(6, .n 10)])] 4 [0, 1, 2, 3, 4, 5, 6, 7, 8, 9, 10] [4] r (by kernel_rfl) (an ((keysP (fun x hx => hL.ok x (begL_mem hx)) hp) : KeysOk Try.prog 32 ((.a [(.i64, (p.node : Int)), (.u64, (((p.inc : Nat) : Int) : Int))]) :: List.map (fun (e : Nat × MK × DV) => e.2.1) (emap pk Life.d (begL L p sn)))) (an ((by rw [beg_end hall4]; exact emap_fresh (fun _ _ h => pk_inj h) others_fresh) : ∀ zz ∈ (emap pk Life.d (begL L p sn) : List (Nat × MK × DV)), zz.2.1 ≠ .a [(.i64, (p.node : Int)), (.u64, (((p.inc : Nat) : Int) : Int))]) trivial)) fun ac wd r => ?_
      have r := r.foldM (u := 7) (v := 10) (m := 1) (j := (others L p).length) (vc := [((procs (View.first p).members).length) = (List.replicate ((procs (View.first p).members).length) [.v (.int .u64 0)] : List (List DV)).length]) (M1 := [.bx 47 [.mv 1, .mv 2, .mv 3, .mv 4], .mp 42 (nl + 1) (setE (emap pk Life.d (begL L p sn) ++ [(nl, .a [(.i64, (p.node : Int)), (.u64, (((p.inc : Nat) : Int) : Int))], ptrV xb)]) ((others L p).length) (.pb 52 [.u ((View.first p).id.round), .z ((View.first p).id.server.node), .u ((View.first p).id.server.inc), .ro 2 (procs (View.first p).members), .ro 1 (nums (View.first p).starts), .v (.bool true), .z 0, .v (.int .u64 0), .em 30 1 (List.replicate ((procs (View.first p).members).length) [.v (.int .u64 0)])])), .mp 43 (cs) (X2), .mp 44 (cc) (X3), .mp 45 (cg) (X4), .bx 32 [.z p.node, .u p.inc], .it (some 1) (nl) (sn) (nl), .dead, .bx 38 [.u ((View.first p).id.round), .z ((View.first p).id.server.node), .u ((View.first p).id.server.inc), .d (.ro 2 (procs (View.first p).members)), .d (.ro 1 (nums (View.first p).starts))], .dead, .nm 7 xb]) (M2 := [.bx 47 [.mv 1, .mv 2, .mv 3, .mv 4], .mp 42 (nl + 1) (emap pk Life.d (others L p ++ [(nl, p, Life.new p)])), .mp 43 (cs) (X2), .mp 44 (cc) (X3), .mp 45 (cg) (X4), .bx 32 [.z p.node, .u p.inc], .it (some 1) (nl) (sn) (nl), .dead, .bx 38 [.u ((View.first p).id.round), .z ((View.first p).id.server.node), .u ((View.first p).id.server.inc), .d (.ro 2 (procs (View.first p).members)), .d (.ro 1 (nums (View.first p).starts))], .dead, .nm 7 xb]) rfl (by kernel_rfl) (And.intro (by first | rfl | simp) trivial) (fun _ _ _ hM => by cases hM; exact (by rw [beg_end hall4]; exact at_last (emap_len _ _ _).symm)) (by rw [beg_end hall4, setE_last (emap_len _ _ _).symm, nums_zero]; exact congrArg (fun (z : List (Nat × MK × DV)) => ([.bx 47 [.mv 1, .mv 2, .mv 3, .mv 4], .mp 42 (nl + 1) (z), .mp 43 (cs) (X2), .mp 44 (cc) (X3), .mp 45 (cg) (X4), .bx 32 [.z p.node, .u p.inc], .it (some 1) (nl) (sn) (nl), .dead, .bx 38 [.u ((View.first p).id.round), .z ((View.first p).id.server.node), .u ((View.first p).id.server.inc), .d (.ro 2 (procs (View.first p).members)), .d (.ro 1 (nums (View.first p).starts))], .dead, .nm 7 xb] : List Blk)) (emap_app (k := pk) (d := Life.d) (others L p) nl p (Life.new p)))
      refine castM (y := .z 0) (N' := [.bx 47 [.mv 1, .mv 2, .mv 3, .mv 4], .mp 42 (nl + 1) (emap pk Life.d (others L p ++ [(nl, p, Life.new p)])), .mp 43 (cs) (X2), .mp 44 (cc) (X3), .mp 45 (cg) (X4)]) ((by rw [beginJ3 (by assumption) (ends_no hv0 hall4)])) ((by rw [beginJ3 (by assumption) (ends_no hv0 hall4)])) ?_
      exact toRetM tb_ok mixed_ok hK rfl hbm [] 2000 [0, 1, 2, 3, 4] r (by kernel_rfl) trivial
    ·
      obtain ⟨q, fo, hq, rfl, rfl⟩ := emap_get hj4
      obtain ⟨xb, r⟩ := r.openM (u := 1) (N := fun xb => [.bx 47 [.mv 1, .mv 2, .mv 3, .mv 4], .mp 42 (nl) (setE (emap pk Life.d (begL L p sn)) jj4 (ptrV xb)), .mp 43 (cs) (X2), .mp 44 (cc) (X3), .mp 45 (cg) (X4), .bx 32 [.z p.node, .u p.inc], .it (some 1) (nl) (sn ++ [bb4]) (nl), .rw 30 1 (nums fo.handed), .bx 52 [.u fo.view.id.round, .z fo.view.id.server.node, .u fo.view.id.server.inc, .d (.ro 2 (procs fo.view.members)), .d (.ro 1 (nums fo.view.starts)), .d (.v (.bool (fo.on))), .z fo.stands, .u fo.sent, .sl 7 ((nums fo.handed).length)], .nm 8 xb]) rfl (emap_at hq) rfl (fun _ => rfl)
      cases h1 : (fo.on) with
      | false =>
        cases h2 : ((q.node : Int) != p.node) with
        | false =>
          have qh2 := eq_of_bne h2
          refine toAtM (todo' := aft Try.f9 6) (E' := [(0, .pt 0 0), (3, .pt 5 0), (15, .pt 6 0), (17, .d (.v (.bool true))), (18, .tu [.ag [.z q.node, .u q.inc], .pt 8 0]), (19, .ag [.z q.node, .u q.inc]), (20, .pt 8 0), (5, .pt 10 0), (6, .pt 8 0), (21, .pt 10 0), (22, .z q.node), (23, .pt 5 0), (24, .z p.node), (25, .d (.v (.bool false)))]) (M' := [.bx 47 [.mv 1, .mv 2, .mv 3, .mv 4], .mp 42 (nl) (setE (emap pk Life.d (begL L p sn)) jj4 (ptrV xb)), .mp 43 (cs) (X2), .mp 44 (cc) (X3), .mp 45 (cg) (X4), .bx 32 [.z p.node, .u p.inc], .it (some 1) (nl) (sn ++ [bb4]) (nl), .rw 30 1 (nums fo.handed), .bx 52 [.u fo.view.id.round, .z fo.view.id.server.node, .u fo.view.id.server.inc, .d (.ro 2 (procs fo.view.members)), .d (.ro 1 (nums fo.view.starts)), .d (.v (.bool (fo.on))), .z fo.stands, .u fo.sent, .sl 7 ((nums fo.handed).length)], .nm 8 xb, .bx 32 [.z q.node, .u q.inc]]) tb_ok mixed_ok hK hbm [(5, [(0, .mkp (jj4) (.a [(.i64, (q.node : Int)), (.u64, (((q.inc : Nat) : Int) : Int))]) (ptrV xb) 9)]), (6, [(4, .b false)])] 9 [0, 1, 2, 3, 4, 5, 6, 7, 8, 9, 10] [0, 3, 15, 17, 18, 19, 20, 5, 6, 21, 22, 23, 24, 25] r (by kernel_rfl) (an (⟨_, _, setE_at _ (emap_at hq), rfl⟩ : ∃ b0 s0, (setE (emap pk Life.d (begL L p sn)) jj4 (ptrV xb) : List (Nat × MK × DV))[jj4]? = some (b0, .a [(.i64, (q.node : Int)), (.u64, (((q.inc : Nat) : Int) : Int))], ptrV xb) ∧ (sn ++ [bb4] : List Nat) = s0 ++ [b0]) (an ((begL_born hL _ _) : (List.map (fun (e : Nat × MK × DV) => e.1) (setE (emap pk Life.d (begL L p sn)) jj4 (ptrV xb))).Nodup) (an (rfl : (nl : Nat) = nl) (an (rfl : outP [.bx 47 [.mv 1, .mv 2, .mv 3, .mv 4], .mp 42 (nl) (setE (emap pk Life.d (begL L p sn)) jj4 (ptrV xb)), .mp 43 (cs) (X2), .mp 44 (cc) (X3), .mp 45 (cg) (X4), .bx 32 [.z p.node, .u p.inc], .it (some 1) (nl) (sn ++ [bb4]) (nl), .rw 30 1 (nums fo.handed), .bx 52 [.u fo.view.id.round, .z fo.view.id.server.node, .u fo.view.id.server.inc, .d (.ro 2 (procs fo.view.members)), .d (.ro 1 (nums fo.view.starts)), .d (.v (.bool (fo.on))), .z fo.stands, .u fo.sent, .sl 7 ((nums fo.handed).length)], .nm 8 xb] (ptrV xb) (some 9)) (an h2 trivial))))) fun ac wd r => ?_
          have r := r.cast (M' := [.bx 47 [.mv 1, .mv 2, .mv 3, .mv 4], .mp 42 (nl) (setE (emap pk Life.d (begL L p sn)) jj4 (ptrV xb)), .mp 43 (cs) (X2), .mp 44 (cc) (X3), .mp 45 (cg) (X4), .bx 32 [.z p.node, .u p.inc], .it (some 1) (nl) (sn ++ [bb4]) (nl), .rw 30 1 (nums fo.handed), .bx 52 [.u fo.view.id.round, .z fo.view.id.server.node, .u fo.view.id.server.inc, .d (.ro 2 (procs fo.view.members)), .d (.ro 1 (nums fo.view.starts)), .d (.v (.bool false)), .z fo.stands, .u fo.sent, .sl 7 ((nums fo.handed).length)], .nm 8 xb, .bx 32 [.z q.node, .u q.inc]]) rfl (by rw [h1])
          cases h3 : (decide ((((p.inc : Nat) : Int) : Int) ≤ ((q.inc : Nat) : Int))) with
          | false =>
            have qh3 := of_decide_eq_false h3
            exact toHeadM (todo' := hd Try.f9 0) (E' := [(0, .pt 0 0), (3, .pt 5 0), (15, .pt 6 0)]) (M' := [.bx 47 [.mv 1, .mv 2, .mv 3, .mv 4], .mp 42 (nl) (List.eraseIdx (setE (emap pk Life.d (begL L p sn)) jj4 (ptrV xb)) (jj4)), .mp 43 (cs) (X2), .mp 44 (cc) (X3), .mp 45 (cg) (X4), .bx 32 [.z p.node, .u p.inc], .it (some 1) (nl) (sn ++ [bb4]) (nl)]) tb_ok mixed_ok hK hbm [(7, [(9, .b false)]), (9, [(5, .mk (jj4) (.a [(.i64, (q.node : Int)), (.u64, (((q.inc : Nat) : Int) : Int))]) (ptrV xb))])] 2000 [0, 1, 2, 3, 4, 5, 6] [0, 3, 15] r (by kernel_rfl) (an h3 (an ((keys_setE (keysP (fun x hx => hL.ok x (begL_mem hx)) (hL.ok _ (begL_mem (List.mem_of_getElem? hq))))) : KeysOk Try.prog 32 ((.a [(.i64, (q.node : Int)), (.u64, (((q.inc : Nat) : Int) : Int))]) :: List.map (fun (e : Nat × MK × DV) => e.2.1) (setE (emap pk Life.d (begL L p sn)) jj4 (ptrV xb)))) (an (rfl : (.a [(.i64, (q.node : Int)), (.u64, (((q.inc : Nat) : Int) : Int))] : MK) = .a [(.i64, (q.node : Int)), (.u64, (((q.inc : Nat) : Int) : Int))]) (an ((begL_keys hL _ _) : (List.map (fun (e : Nat × MK × DV) => e.2.1) (setE (emap pk Life.d (begL L p sn)) jj4 (ptrV xb))).Nodup) (an (rfl : DV.cp2 (ptrV xb) = true) (an (⟨_, setE_at _ (emap_at hq)⟩ : ∃ b0, (setE (emap pk Life.d (begL L p sn)) jj4 (ptrV xb) : List (Nat × MK × DV))[jj4]? = some (b0, .a [(.i64, (q.node : Int)), (.u64, (((q.inc : Nat) : Int) : Int))], ptrV xb)) trivial)))))) fun ac wd r => again0 (hv0.less hq hb4) ac wd ⟨(sn ++ [bb4]), (hv0.pass hL hq hb4 (fun h => ⟨by assumption, by omega⟩)), r.cast rfl (by rw [setE_erase, emap_erase, begL_cut hL hq (by omega)])⟩
          | true =>
            have qh3 := of_decide_eq_true h3
            refine toAtM (todo' := aft Try.f9 8) (E' := [(0, .pt 0 0), (3, .pt 5 0), (15, .pt 6 0), (17, .d (.v (.bool true))), (18, .tu [.ag [.z q.node, .u q.inc], .pt 8 0]), (19, .ag [.z q.node, .u q.inc]), (20, .pt 8 0), (5, .pt 10 0), (6, .pt 8 0), (21, .pt 10 0), (22, .z q.node), (23, .pt 5 0), (24, .z p.node), (25, .d (.v (.bool false))), (26, .pt 8 0), (27, .pt 8 0), (28, .pt 8 5), (29, .d (.v (.bool false))), (30, .d (.v (.bool false))), (31, .pt 10 1), (32, .u q.inc), (33, .pt 5 1), (34, .u p.inc), (35, .d (.v (.bool true))), (36, .d (.v (.bool true))), (4, .z 230)]) (M' := [.bx 47 [.mv 1, .mv 2, .mv 3, .mv 4], .mp 42 (nl) (setE (emap pk Life.d (begL L p sn)) jj4 (ptrV xb)), .mp 43 (cs) (X2), .mp 44 (cc) (X3), .mp 45 (cg) (X4), .bx 32 [.z p.node, .u p.inc], .it (some 1) (nl) (sn ++ [bb4]) (nl), .rw 30 1 (nums fo.handed), .bx 52 [.u fo.view.id.round, .z fo.view.id.server.node, .u fo.view.id.server.inc, .d (.ro 2 (procs fo.view.members)), .d (.ro 1 (nums fo.view.starts)), .d (.v (.bool false)), .z fo.stands, .u fo.sent, .sl 7 ((nums fo.handed).length)], .nm 8 xb, .bx 32 [.z q.node, .u q.inc]]) tb_ok mixed_ok hK hbm [(7, [(9, .b true)])] 8 [0, 1, 2, 3, 4, 5, 6, 7, 8, 9, 10] [0, 3, 15, 17, 18, 19, 20, 5, 6, 21, 22, 23, 24, 25, 26, 27, 28, 29, 30, 31, 32, 33, 34, 35, 36, 4] r (by kernel_rfl) (an h3 trivial) fun ac wd r => ?_
            have r := r.foldM (u := 8) (v := 9) (m := 1) (j := jj4) (vc := [((nums fo.handed).length) = (nums fo.handed : List (List DV)).length]) (M1 := [.bx 47 [.mv 1, .mv 2, .mv 3, .mv 4], .mp 42 (nl) (setE (setE (emap pk Life.d (begL L p sn)) jj4 (ptrV xb)) (jj4) (.pb 52 [.u fo.view.id.round, .z fo.view.id.server.node, .u fo.view.id.server.inc, .ro 2 (procs fo.view.members), .ro 1 (nums fo.view.starts), .v (.bool false), .z fo.stands, .u fo.sent, .em 30 1 (nums fo.handed)])), .mp 43 (cs) (X2), .mp 44 (cc) (X3), .mp 45 (cg) (X4), .bx 32 [.z p.node, .u p.inc], .it (some 1) (nl) (sn ++ [bb4]) (nl), .dead, .dead, .nm 8 xb, .bx 32 [.z q.node, .u q.inc]]) (M2 := [.bx 47 [.mv 1, .mv 2, .mv 3, .mv 4], .mp 42 (nl) (emap pk Life.d L), .mp 43 (cs) (X2), .mp 44 (cc) (X3), .mp 45 (cg) (X4), .bx 32 [.z p.node, .u p.inc], .it (some 1) (nl) (sn ++ [bb4]) (nl), .dead, .dead, .nm 8 xb, .bx 32 [.z q.node, .u q.inc]]) rfl (by kernel_rfl) (And.intro (by first | rfl | simp) trivial) (fun _ _ _ hM => by cases hM; exact setE_at _ (emap_at hq)) (by rw [← h1, setE_same hq, begL_whole hL hq hb4 (by omega)])
            refine castM (y := .z 230) (N' := [.bx 47 [.mv 1, .mv 2, .mv 3, .mv 4], .mp 42 (nl) (emap pk Life.d L), .mp 43 (cs) (X2), .mp 44 (cc) (X3), .mp 45 (cg) (X4)]) ((by rw [beginJ2 (ends_yes hq (by omega) (by first | exact .inl (by assumption) | exact .inr (by omega)))])) ((by rw [beginJ2 (ends_yes hq (by omega) (by first | exact .inl (by assumption) | exact .inr (by omega)))])) ?_
            exact toRetM tb_ok mixed_ok hK rfl hbm [] 2000 [0, 1, 2, 3, 4] r (by kernel_rfl) trivial
        | true =>
          have qh2 : ¬ _ = _ := bne_iff_ne.1 h2
          refine toAtM (todo' := aft Try.f9 6) (E' := [(0, .pt 0 0), (3, .pt 5 0), (15, .pt 6 0), (17, .d (.v (.bool true))), (18, .tu [.ag [.z q.node, .u q.inc], .pt 8 0]), (19, .ag [.z q.node, .u q.inc]), (20, .pt 8 0), (5, .pt 10 0), (6, .pt 8 0), (21, .pt 10 0), (22, .z q.node), (23, .pt 5 0), (24, .z p.node), (25, .d (.v (.bool true)))]) (M' := [.bx 47 [.mv 1, .mv 2, .mv 3, .mv 4], .mp 42 (nl) (setE (emap pk Life.d (begL L p sn)) jj4 (ptrV xb)), .mp 43 (cs) (X2), .mp 44 (cc) (X3), .mp 45 (cg) (X4), .bx 32 [.z p.node, .u p.inc], .it (some 1) (nl) (sn ++ [bb4]) (nl), .rw 30 1 (nums fo.handed), .bx 52 [.u fo.view.id.round, .z fo.view.id.server.node, .u fo.view.id.server.inc, .d (.ro 2 (procs fo.view.members)), .d (.ro 1 (nums fo.view.starts)), .d (.v (.bool (fo.on))), .z fo.stands, .u fo.sent, .sl 7 ((nums fo.handed).length)], .nm 8 xb, .bx 32 [.z q.node, .u q.inc]]) tb_ok mixed_ok hK hbm [(5, [(0, .mkp (jj4) (.a [(.i64, (q.node : Int)), (.u64, (((q.inc : Nat) : Int) : Int))]) (ptrV xb) 9)]), (6, [(4, .b true)])] 9 [0, 1, 2, 3, 4, 5, 6, 7, 8, 9, 10] [0, 3, 15, 17, 18, 19, 20, 5, 6, 21, 22, 23, 24, 25] r (by kernel_rfl) (an (⟨_, _, setE_at _ (emap_at hq), rfl⟩ : ∃ b0 s0, (setE (emap pk Life.d (begL L p sn)) jj4 (ptrV xb) : List (Nat × MK × DV))[jj4]? = some (b0, .a [(.i64, (q.node : Int)), (.u64, (((q.inc : Nat) : Int) : Int))], ptrV xb) ∧ (sn ++ [bb4] : List Nat) = s0 ++ [b0]) (an ((begL_born hL _ _) : (List.map (fun (e : Nat × MK × DV) => e.1) (setE (emap pk Life.d (begL L p sn)) jj4 (ptrV xb))).Nodup) (an (rfl : (nl : Nat) = nl) (an (rfl : outP [.bx 47 [.mv 1, .mv 2, .mv 3, .mv 4], .mp 42 (nl) (setE (emap pk Life.d (begL L p sn)) jj4 (ptrV xb)), .mp 43 (cs) (X2), .mp 44 (cc) (X3), .mp 45 (cg) (X4), .bx 32 [.z p.node, .u p.inc], .it (some 1) (nl) (sn ++ [bb4]) (nl), .rw 30 1 (nums fo.handed), .bx 52 [.u fo.view.id.round, .z fo.view.id.server.node, .u fo.view.id.server.inc, .d (.ro 2 (procs fo.view.members)), .d (.ro 1 (nums fo.view.starts)), .d (.v (.bool (fo.on))), .z fo.stands, .u fo.sent, .sl 7 ((nums fo.handed).length)], .nm 8 xb] (ptrV xb) (some 9)) (an h2 trivial))))) fun ac wd r => ?_
          have r := r.foldM (u := 8) (v := 9) (m := 1) (j := jj4) (vc := [((nums fo.handed).length) = (nums fo.handed : List (List DV)).length]) (M1 := [.bx 47 [.mv 1, .mv 2, .mv 3, .mv 4], .mp 42 (nl) (setE (setE (emap pk Life.d (begL L p sn)) jj4 (ptrV xb)) (jj4) (.pb 52 [.u fo.view.id.round, .z fo.view.id.server.node, .u fo.view.id.server.inc, .ro 2 (procs fo.view.members), .ro 1 (nums fo.view.starts), .v (.bool (fo.on)), .z fo.stands, .u fo.sent, .em 30 1 (nums fo.handed)])), .mp 43 (cs) (X2), .mp 44 (cc) (X3), .mp 45 (cg) (X4), .bx 32 [.z p.node, .u p.inc], .it (some 1) (nl) (sn ++ [bb4]) (nl), .dead, .dead, .nm 8 xb, .bx 32 [.z q.node, .u q.inc]]) (M2 := [.bx 47 [.mv 1, .mv 2, .mv 3, .mv 4], .mp 42 (nl) (emap pk Life.d (begL L p sn)), .mp 43 (cs) (X2), .mp 44 (cc) (X3), .mp 45 (cg) (X4), .bx 32 [.z p.node, .u p.inc], .it (some 1) (nl) (sn ++ [bb4]) (nl), .dead, .dead, .nm 8 xb, .bx 32 [.z q.node, .u q.inc]]) rfl (by kernel_rfl) (And.intro (by first | rfl | simp) trivial) (fun _ _ _ hM => by cases hM; exact setE_at _ (emap_at hq)) (by rw [setE_same hq])
          exact toHeadM (todo' := hd Try.f9 0) (E' := [(0, .pt 0 0), (3, .pt 5 0), (15, .pt 6 0)]) (M' := [.bx 47 [.mv 1, .mv 2, .mv 3, .mv 4], .mp 42 (nl) (emap pk Life.d (begL L p sn)), .mp 43 (cs) (X2), .mp 44 (cc) (X3), .mp 45 (cg) (X4), .bx 32 [.z p.node, .u p.inc], .it (some 1) (nl) (sn ++ [bb4]) (nl)]) tb_ok mixed_ok hK hbm [] 2000 [0, 1, 2, 3, 4, 5, 6] [0, 3, 15] r (by kernel_rfl) trivial fun ac wd r => again0 (hv0.less hq hb4) ac wd ⟨(sn ++ [bb4]), (hv0.pass hL hq hb4 (fun h => absurd h (by omega))), r.cast rfl (by rw [begL_pass hL hq (by omega)])⟩
      | true =>
        cases h4 : ((q.node : Int) != p.node) with
        | false =>
          have qh4 := eq_of_bne h4
          refine toAtM (todo' := aft Try.f9 6) (E' := [(0, .pt 0 0), (3, .pt 5 0), (15, .pt 6 0), (17, .d (.v (.bool true))), (18, .tu [.ag [.z q.node, .u q.inc], .pt 8 0]), (19, .ag [.z q.node, .u q.inc]), (20, .pt 8 0), (5, .pt 10 0), (6, .pt 8 0), (21, .pt 10 0), (22, .z q.node), (23, .pt 5 0), (24, .z p.node), (25, .d (.v (.bool false)))]) (M' := [.bx 47 [.mv 1, .mv 2, .mv 3, .mv 4], .mp 42 (nl) (setE (emap pk Life.d (begL L p sn)) jj4 (ptrV xb)), .mp 43 (cs) (X2), .mp 44 (cc) (X3), .mp 45 (cg) (X4), .bx 32 [.z p.node, .u p.inc], .it (some 1) (nl) (sn ++ [bb4]) (nl), .rw 30 1 (nums fo.handed), .bx 52 [.u fo.view.id.round, .z fo.view.id.server.node, .u fo.view.id.server.inc, .d (.ro 2 (procs fo.view.members)), .d (.ro 1 (nums fo.view.starts)), .d (.v (.bool (fo.on))), .z fo.stands, .u fo.sent, .sl 7 ((nums fo.handed).length)], .nm 8 xb, .bx 32 [.z q.node, .u q.inc]]) tb_ok mixed_ok hK hbm [(5, [(0, .mkp (jj4) (.a [(.i64, (q.node : Int)), (.u64, (((q.inc : Nat) : Int) : Int))]) (ptrV xb) 9)]), (6, [(4, .b false)])] 9 [0, 1, 2, 3, 4, 5, 6, 7, 8, 9, 10] [0, 3, 15, 17, 18, 19, 20, 5, 6, 21, 22, 23, 24, 25] r (by kernel_rfl) (an (⟨_, _, setE_at _ (emap_at hq), rfl⟩ : ∃ b0 s0, (setE (emap pk Life.d (begL L p sn)) jj4 (ptrV xb) : List (Nat × MK × DV))[jj4]? = some (b0, .a [(.i64, (q.node : Int)), (.u64, (((q.inc : Nat) : Int) : Int))], ptrV xb) ∧ (sn ++ [bb4] : List Nat) = s0 ++ [b0]) (an ((begL_born hL _ _) : (List.map (fun (e : Nat × MK × DV) => e.1) (setE (emap pk Life.d (begL L p sn)) jj4 (ptrV xb))).Nodup) (an (rfl : (nl : Nat) = nl) (an (rfl : outP [.bx 47 [.mv 1, .mv 2, .mv 3, .mv 4], .mp 42 (nl) (setE (emap pk Life.d (begL L p sn)) jj4 (ptrV xb)), .mp 43 (cs) (X2), .mp 44 (cc) (X3), .mp 45 (cg) (X4), .bx 32 [.z p.node, .u p.inc], .it (some 1) (nl) (sn ++ [bb4]) (nl), .rw 30 1 (nums fo.handed), .bx 52 [.u fo.view.id.round, .z fo.view.id.server.node, .u fo.view.id.server.inc, .d (.ro 2 (procs fo.view.members)), .d (.ro 1 (nums fo.view.starts)), .d (.v (.bool (fo.on))), .z fo.stands, .u fo.sent, .sl 7 ((nums fo.handed).length)], .nm 8 xb] (ptrV xb) (some 9)) (an h4 trivial))))) fun ac wd r => ?_
          have r := r.cast (M' := [.bx 47 [.mv 1, .mv 2, .mv 3, .mv 4], .mp 42 (nl) (setE (emap pk Life.d (begL L p sn)) jj4 (ptrV xb)), .mp 43 (cs) (X2), .mp 44 (cc) (X3), .mp 45 (cg) (X4), .bx 32 [.z p.node, .u p.inc], .it (some 1) (nl) (sn ++ [bb4]) (nl), .rw 30 1 (nums fo.handed), .bx 52 [.u fo.view.id.round, .z fo.view.id.server.node, .u fo.view.id.server.inc, .d (.ro 2 (procs fo.view.members)), .d (.ro 1 (nums fo.view.starts)), .d (.v (.bool true)), .z fo.stands, .u fo.sent, .sl 7 ((nums fo.handed).length)], .nm 8 xb, .bx 32 [.z q.node, .u q.inc]]) rfl (by rw [h1])
          refine toAtM (todo' := aft Try.f9 8) (E' := [(0, .pt 0 0), (3, .pt 5 0), (15, .pt 6 0), (17, .d (.v (.bool true))), (18, .tu [.ag [.z q.node, .u q.inc], .pt 8 0]), (19, .ag [.z q.node, .u q.inc]), (20, .pt 8 0), (5, .pt 10 0), (6, .pt 8 0), (21, .pt 10 0), (22, .z q.node), (23, .pt 5 0), (24, .z p.node), (25, .d (.v (.bool false))), (26, .pt 8 0), (27, .pt 8 0), (28, .pt 8 5), (29, .d (.v (.bool true))), (30, .d (.v (.bool true))), (36, .d (.v (.bool true))), (4, .z 230)]) (M' := [.bx 47 [.mv 1, .mv 2, .mv 3, .mv 4], .mp 42 (nl) (setE (emap pk Life.d (begL L p sn)) jj4 (ptrV xb)), .mp 43 (cs) (X2), .mp 44 (cc) (X3), .mp 45 (cg) (X4), .bx 32 [.z p.node, .u p.inc], .it (some 1) (nl) (sn ++ [bb4]) (nl), .rw 30 1 (nums fo.handed), .bx 52 [.u fo.view.id.round, .z fo.view.id.server.node, .u fo.view.id.server.inc, .d (.ro 2 (procs fo.view.members)), .d (.ro 1 (nums fo.view.starts)), .d (.v (.bool true)), .z fo.stands, .u fo.sent, .sl 7 ((nums fo.handed).length)], .nm 8 xb, .bx 32 [.z q.node, .u q.inc]]) tb_ok mixed_ok hK hbm [] 8 [0, 1, 2, 3, 4, 5, 6, 7, 8, 9, 10] [0, 3, 15, 17, 18, 19, 20, 5, 6, 21, 22, 23, 24, 25, 26, 27, 28, 29, 30, 36, 4] r (by kernel_rfl) trivial fun ac wd r => ?_
          have r := r.foldM (u := 8) (v := 9) (m := 1) (j := jj4) (vc := [((nums fo.handed).length) = (nums fo.handed : List (List DV)).length]) (M1 := [.bx 47 [.mv 1, .mv 2, .mv 3, .mv 4], .mp 42 (nl) (setE (setE (emap pk Life.d (begL L p sn)) jj4 (ptrV xb)) (jj4) (.pb 52 [.u fo.view.id.round, .z fo.view.id.server.node, .u fo.view.id.server.inc, .ro 2 (procs fo.view.members), .ro 1 (nums fo.view.starts), .v (.bool true), .z fo.stands, .u fo.sent, .em 30 1 (nums fo.handed)])), .mp 43 (cs) (X2), .mp 44 (cc) (X3), .mp 45 (cg) (X4), .bx 32 [.z p.node, .u p.inc], .it (some 1) (nl) (sn ++ [bb4]) (nl), .dead, .dead, .nm 8 xb, .bx 32 [.z q.node, .u q.inc]]) (M2 := [.bx 47 [.mv 1, .mv 2, .mv 3, .mv 4], .mp 42 (nl) (emap pk Life.d L), .mp 43 (cs) (X2), .mp 44 (cc) (X3), .mp 45 (cg) (X4), .bx 32 [.z p.node, .u p.inc], .it (some 1) (nl) (sn ++ [bb4]) (nl), .dead, .dead, .nm 8 xb, .bx 32 [.z q.node, .u q.inc]]) rfl (by kernel_rfl) (And.intro (by first | rfl | simp) trivial) (fun _ _ _ hM => by cases hM; exact setE_at _ (emap_at hq)) (by rw [← h1, setE_same hq, begL_whole hL hq hb4 (by omega)])
          refine castM (y := .z 230) (N' := [.bx 47 [.mv 1, .mv 2, .mv 3, .mv 4], .mp 42 (nl) (emap pk Life.d L), .mp 43 (cs) (X2), .mp 44 (cc) (X3), .mp 45 (cg) (X4)]) ((by rw [beginJ2 (ends_yes hq (by omega) (by first | exact .inl (by assumption) | exact .inr (by omega)))])) ((by rw [beginJ2 (ends_yes hq (by omega) (by first | exact .inl (by assumption) | exact .inr (by omega)))])) ?_
          exact toRetM tb_ok mixed_ok hK rfl hbm [] 2000 [0, 1, 2, 3, 4] r (by kernel_rfl) trivial
        | true =>
          have qh4 : ¬ _ = _ := bne_iff_ne.1 h4
          refine toAtM (todo' := aft Try.f9 6) (E' := [(0, .pt 0 0), (3, .pt 5 0), (15, .pt 6 0), (17, .d (.v (.bool true))), (18, .tu [.ag [.z q.node, .u q.inc], .pt 8 0]), (19, .ag [.z q.node, .u q.inc]), (20, .pt 8 0), (5, .pt 10 0), (6, .pt 8 0), (21, .pt 10 0), (22, .z q.node), (23, .pt 5 0), (24, .z p.node), (25, .d (.v (.bool true)))]) (M' := [.bx 47 [.mv 1, .mv 2, .mv 3, .mv 4], .mp 42 (nl) (setE (emap pk Life.d (begL L p sn)) jj4 (ptrV xb)), .mp 43 (cs) (X2), .mp 44 (cc) (X3), .mp 45 (cg) (X4), .bx 32 [.z p.node, .u p.inc], .it (some 1) (nl) (sn ++ [bb4]) (nl), .rw 30 1 (nums fo.handed), .bx 52 [.u fo.view.id.round, .z fo.view.id.server.node, .u fo.view.id.server.inc, .d (.ro 2 (procs fo.view.members)), .d (.ro 1 (nums fo.view.starts)), .d (.v (.bool (fo.on))), .z fo.stands, .u fo.sent, .sl 7 ((nums fo.handed).length)], .nm 8 xb, .bx 32 [.z q.node, .u q.inc]]) tb_ok mixed_ok hK hbm [(5, [(0, .mkp (jj4) (.a [(.i64, (q.node : Int)), (.u64, (((q.inc : Nat) : Int) : Int))]) (ptrV xb) 9)]), (6, [(4, .b true)])] 9 [0, 1, 2, 3, 4, 5, 6, 7, 8, 9, 10] [0, 3, 15, 17, 18, 19, 20, 5, 6, 21, 22, 23, 24, 25] r (by kernel_rfl) (an (⟨_, _, setE_at _ (emap_at hq), rfl⟩ : ∃ b0 s0, (setE (emap pk Life.d (begL L p sn)) jj4 (ptrV xb) : List (Nat × MK × DV))[jj4]? = some (b0, .a [(.i64, (q.node : Int)), (.u64, (((q.inc : Nat) : Int) : Int))], ptrV xb) ∧ (sn ++ [bb4] : List Nat) = s0 ++ [b0]) (an ((begL_born hL _ _) : (List.map (fun (e : Nat × MK × DV) => e.1) (setE (emap pk Life.d (begL L p sn)) jj4 (ptrV xb))).Nodup) (an (rfl : (nl : Nat) = nl) (an (rfl : outP [.bx 47 [.mv 1, .mv 2, .mv 3, .mv 4], .mp 42 (nl) (setE (emap pk Life.d (begL L p sn)) jj4 (ptrV xb)), .mp 43 (cs) (X2), .mp 44 (cc) (X3), .mp 45 (cg) (X4), .bx 32 [.z p.node, .u p.inc], .it (some 1) (nl) (sn ++ [bb4]) (nl), .rw 30 1 (nums fo.handed), .bx 52 [.u fo.view.id.round, .z fo.view.id.server.node, .u fo.view.id.server.inc, .d (.ro 2 (procs fo.view.members)), .d (.ro 1 (nums fo.view.starts)), .d (.v (.bool (fo.on))), .z fo.stands, .u fo.sent, .sl 7 ((nums fo.handed).length)], .nm 8 xb] (ptrV xb) (some 9)) (an h4 trivial))))) fun ac wd r => ?_
          have r := r.foldM (u := 8) (v := 9) (m := 1) (j := jj4) (vc := [((nums fo.handed).length) = (nums fo.handed : List (List DV)).length]) (M1 := [.bx 47 [.mv 1, .mv 2, .mv 3, .mv 4], .mp 42 (nl) (setE (setE (emap pk Life.d (begL L p sn)) jj4 (ptrV xb)) (jj4) (.pb 52 [.u fo.view.id.round, .z fo.view.id.server.node, .u fo.view.id.server.inc, .ro 2 (procs fo.view.members), .ro 1 (nums fo.view.starts), .v (.bool (fo.on)), .z fo.stands, .u fo.sent, .em 30 1 (nums fo.handed)])), .mp 43 (cs) (X2), .mp 44 (cc) (X3), .mp 45 (cg) (X4), .bx 32 [.z p.node, .u p.inc], .it (some 1) (nl) (sn ++ [bb4]) (nl), .dead, .dead, .nm 8 xb, .bx 32 [.z q.node, .u q.inc]]) (M2 := [.bx 47 [.mv 1, .mv 2, .mv 3, .mv 4], .mp 42 (nl) (emap pk Life.d (begL L p sn)), .mp 43 (cs) (X2), .mp 44 (cc) (X3), .mp 45 (cg) (X4), .bx 32 [.z p.node, .u p.inc], .it (some 1) (nl) (sn ++ [bb4]) (nl), .dead, .dead, .nm 8 xb, .bx 32 [.z q.node, .u q.inc]]) rfl (by kernel_rfl) (And.intro (by first | rfl | simp) trivial) (fun _ _ _ hM => by cases hM; exact setE_at _ (emap_at hq)) (by rw [setE_same hq])
          exact toHeadM (todo' := hd Try.f9 0) (E' := [(0, .pt 0 0), (3, .pt 5 0), (15, .pt 6 0)]) (M' := [.bx 47 [.mv 1, .mv 2, .mv 3, .mv 4], .mp 42 (nl) (emap pk Life.d (begL L p sn)), .mp 43 (cs) (X2), .mp 44 (cc) (X3), .mp 45 (cg) (X4), .bx 32 [.z p.node, .u p.inc], .it (some 1) (nl) (sn ++ [bb4]) (nl)]) tb_ok mixed_ok hK hbm [] 2000 [0, 1, 2, 3, 4, 5, 6] [0, 3, 15] r (by kernel_rfl) trivial fun ac wd r => again0 (hv0.less hq hb4) ac wd ⟨(sn ++ [bb4]), (hv0.pass hL hq hb4 (fun h => absurd h (by omega))), r.cast rfl (by rw [begL_pass hL hq (by omega)])⟩
end Go.Proofs.Ytilhbhpldkjkaaa
namespace Go.Proofs.Ytilhbhpldkjkaaa
open Go.RowKit
structure JS where
  L : Lives
  nl : Nat
  A : Sent
  ns : Nat
  C : Camed
  nc : Nat
  G : Goned
  ng : Nat
def Life.turn (f : Life) (a b : Int) : Int × Life := if f.stands ≠ a then (231, f) else (0, { f with stands := b })
def lifeJ (s : JS) (f : Life) (e : Ev) : Int × JS :=
  if e.kind = 1 then ((sendJ s.A s.ns f e).err, { s with A := (sendJ s.A s.ns f e).A, ns := (sendJ s.A s.ns f e).ns, L := setK s.L e.who (sendJ s.A s.ns f e).f })
  else if e.kind = 2 then ((deliverJ s.A f e).err, { s with L := setK s.L e.who (deliverJ s.A f e).f })
  else if e.kind = 3 then ((f.turn 0 1).1, { s with L := setK s.L e.who (f.turn 0 1).2 })
  else if e.kind = 4 then ((f.turn 1 2).1, { s with L := setK s.L e.who (f.turn 1 2).2 })
  else if e.kind = 5 then ((viewJ s.C s.nc s.G s.ng f e).err, { s with C := (viewJ s.C s.nc s.G s.ng f e).C, nc := (viewJ s.C s.nc s.G s.ng f e).nc, G := (viewJ s.C s.nc s.G s.ng f e).G, ng := (viewJ s.C s.nc s.G s.ng f e).ng, L := setK s.L e.who (viewJ s.C s.nc s.G s.ng f e).f })
  else if e.kind = 7 then (0, { s with L := setK s.L e.who { f with on := false } })
  else (230, s)
def nextJ (s : JS) (e : Ev) : Int × JS :=
  if e.kind = 6 then ((beginJ s.L s.nl e.who).err, { s with L := (beginJ s.L s.nl e.who).L, nl := (beginJ s.L s.nl e.who).nl })
  else match getK s.L e.who with
  | none => (230, s)
  | some f => if f.on = false then (230, s) else lifeJ s f e
section
variable {s : JS} {e : Ev} {f : Life}
theorem nextJ6 (h : e.kind = 6) : nextJ s e = ((beginJ s.L s.nl e.who).err, { s with L := (beginJ s.L s.nl e.who).L, nl := (beginJ s.L s.nl e.who).nl }) := by unfold nextJ; rw [if_pos h]
theorem nextJn (h : ¬ e.kind = 6) (hg : getK s.L e.who = none) : nextJ s e = (230, s) := by unfold nextJ; rw [if_neg h, hg]
theorem nextJo (h : ¬ e.kind = 6) (hg : getK s.L e.who = some f) (ho : f.on = false) : nextJ s e = (230, s) := by unfold nextJ; rw [if_neg h, hg]; dsimp only; rw [if_pos ho]
theorem nextJl (h : ¬ e.kind = 6) (hg : getK s.L e.who = some f) (ho : f.on = true) : nextJ s e = lifeJ s f e := by unfold nextJ; rw [if_neg h, hg]; dsimp only; rw [if_neg (by rw [ho]; decide)]
end
structure JS.Ok (s : JS) (k : Nat) : Prop where
  lives : LivesOk s.L s.nl
  sent : SentOk s.A
  came : CameOk s.C
  gone : GoneOk s.G
  few : ∀ x ∈ s.C, x.2.2.came.length ≤ k
theorem nums_lenE (l : List Nat) : (nums l).length = l.length := by simp [nums]
theorem live_fold {L : Lives} {j b : Nat} {q : Proc} {f f' : Life} {z : DV} (hn : keysN L) (h : L[j]? = some (b, q, f)) : setE (setE (emap pk Life.d L) j z) j (.pb 52 (Life.cells f')) = emap pk Life.d (setK L q f') := by rw [setK_mod hn h]; exact emap_set (x := f') h z
theorem turn_no {f : Life} {a b : Int} (h : ¬ f.stands = a) : f.turn a b = (231, f) := by unfold Life.turn; rw [if_pos h]
theorem turn_yes {f : Life} {a b : Int} (h : f.stands = a) : f.turn a b = (0, { f with stands := b }) := by unfold Life.turn; rw [if_neg (fun g => g h)]
theorem lifeJ_no {s : JS} {f : Life} {e : Ev} (h1 : ¬ e.kind = 1) (h2 : ¬ e.kind = 2) (h3 : ¬ e.kind = 3) (h4 : ¬ e.kind = 4) (h5 : ¬ e.kind = 5) (h7 : ¬ e.kind = 7) : lifeJ s f e = (230, s) := by unfold lifeJ; rw [if_neg h1, if_neg h2, if_neg h3, if_neg h4, if_neg h5, if_neg h7]
theorem lifeJ1 {s : JS} {f : Life} {e : Ev} (h : e.kind = 1) : lifeJ s f e = ((sendJ s.A s.ns f e).err, { s with A := (sendJ s.A s.ns f e).A, ns := (sendJ s.A s.ns f e).ns, L := setK s.L e.who (sendJ s.A s.ns f e).f }) := by unfold lifeJ; simp only [h]; rfl
theorem lifeJ2 {s : JS} {f : Life} {e : Ev} (h : e.kind = 2) : lifeJ s f e = ((deliverJ s.A f e).err, { s with L := setK s.L e.who (deliverJ s.A f e).f }) := by unfold lifeJ; simp only [h]; rfl
theorem lifeJ3 {s : JS} {f : Life} {e : Ev} (h : e.kind = 3) : lifeJ s f e = ((f.turn 0 1).1, { s with L := setK s.L e.who (f.turn 0 1).2 }) := by unfold lifeJ; simp only [h]; rfl
theorem lifeJ4 {s : JS} {f : Life} {e : Ev} (h : e.kind = 4) : lifeJ s f e = ((f.turn 1 2).1, { s with L := setK s.L e.who (f.turn 1 2).2 }) := by unfold lifeJ; simp only [h]; rfl
theorem lifeJ5 {s : JS} {f : Life} {e : Ev} (h : e.kind = 5) : lifeJ s f e = ((viewJ s.C s.nc s.G s.ng f e).err, { s with C := (viewJ s.C s.nc s.G s.ng f e).C, nc := (viewJ s.C s.nc s.G s.ng f e).nc, G := (viewJ s.C s.nc s.G s.ng f e).G, ng := (viewJ s.C s.nc s.G s.ng f e).ng, L := setK s.L e.who (viewJ s.C s.nc s.G s.ng f e).f }) := by unfold lifeJ; simp only [h]; rfl
theorem lifeJ7 {s : JS} {f : Life} {e : Ev} (h : e.kind = 7) : lifeJ s f e = (0, { s with L := setK s.L e.who { f with on := false } }) := by unfold lifeJ; simp only [h]; rfl
set_option maxHeartbeats 4000000 in
set_option maxRecDepth 100000 in
theorem nextOk (s : JS) (e : Ev) (ho : e.Ok) (n : Nat) (hn : n ≤ 100000) (hs : s.Ok n) : ConM Try.prog 8 [.pt 0 0, .ag [.z e.kind, .z e.who.node, .u e.who.inc, .z e.frm.node, .u e.frm.inc, .u e.n, .d (.ro 1 (bytesR e.body)), .u e.view.id.round, .z e.view.id.server.node, .u e.view.id.server.inc, .d (.ro 2 (procs e.view.members)), .d (.ro 1 (nums e.view.starts)), .d (.ro 2 (procs e.transit))]] [.bx 47 [.mv 1, .mv 2, .mv 3, .mv 4], .mp 42 (s.nl) (emap pk Life.d s.L), .mp 43 (s.ns) (emap mk6 textD s.A), .mp 44 (s.nc) (emap vk Come.d s.C), .mp 45 (s.ng) (emap sk goneD s.G)] (.d (.z (nextJ s e).1)) ([.bx 47 [.mv 1, .mv 2, .mv 3, .mv 4], .mp 42 ((nextJ s e).2.nl) (emap pk Life.d (nextJ s e).2.L), .mp 43 ((nextJ s e).2.ns) (emap mk6 textD (nextJ s e).2.A), .mp 44 ((nextJ s e).2.nc) (emap vk Come.d (nextJ s e).2.C), .mp 45 ((nextJ s e).2.ng) (emap sk goneD (nextJ s e).2.G)]) := by
  refine ConM.intro (by kernel_rfl) rfl rfl 62 rfl rfl fun D w0 K bs ac wd hK (hbm : bs.m = 5) r => ?_
  cases h0 : ((getK s.L e.who).isSome) with
  | false =>
    have hno : getK s.L e.who = none := by simpa using (show (getK s.L e.who).isSome = false by assumption)
    cases h1 : ((e.kind : Int) == 6) with
    | false =>
      have qh1 := ne_of_beq_false h1
      refine toAtM (todo' := aft Try.f8 1) (E' := [(0, .pt 0 0), (3, .pt 5 0), (4, .z 0), (8, .d (.v (.bool false)))]) (M' := [.bx 47 [.mv 1, .mv 2, .mv 3, .mv 4], .mp 42 (s.nl) (emap pk Life.d s.L), .mp 43 (s.ns) (emap mk6 textD s.A), .mp 44 (s.nc) (emap vk Come.d s.C), .mp 45 (s.ng) (emap sk goneD s.G), .bx 40 [.z e.kind, .z e.who.node, .u e.who.inc, .z e.frm.node, .u e.frm.inc, .u e.n, .d (.ro 1 (bytesR e.body)), .u e.view.id.round, .z e.view.id.server.node, .u e.view.id.server.inc, .d (.ro 2 (procs e.view.members)), .d (.ro 1 (nums e.view.starts)), .d (.ro 2 (procs e.transit))]]) tb_ok mixed_ok hK hbm [(1, [(2, .b false)])] 5 [0, 1, 2, 3, 4, 5] [0, 3, 4, 8] r (by kernel_rfl) (an h1 trivial) fun ac wd r => ?_
      refine toAtM (todo' := aft Try.f8 3) (E' := [(0, .pt 0 0), (3, .pt 5 0), (4, .z 0), (5, .d (.v (.pointer none)))]) (M' := [.bx 47 [.mv 1, .mv 2, .mv 3, .mv 4], .mp 42 (s.nl) (emap pk Life.d s.L), .mp 43 (s.ns) (emap mk6 textD s.A), .mp 44 (s.nc) (emap vk Come.d s.C), .mp 45 (s.ng) (emap sk goneD s.G), .bx 40 [.z e.kind, .z e.who.node, .u e.who.inc, .z e.frm.node, .u e.frm.inc, .u e.n, .d (.ro 1 (bytesR e.body)), .u e.view.id.round, .z e.view.id.server.node, .u e.view.id.server.inc, .d (.ro 2 (procs e.view.members)), .d (.ro 1 (nums e.view.starts)), .d (.ro 2 (procs e.transit))]]) tb_ok mixed_ok hK hbm [(3, [(6, .b false)])] 4 [0, 1, 2, 3, 4, 5] [0, 3, 4, 5] r (by kernel_rfl) (an ((keysP hs.lives.ok ho.who) : KeysOk Try.prog 32 ((.a [(.i64, (e.who.node : Int)), (.u64, (((e.who.inc : Nat) : Int) : Int))]) :: List.map (fun (e : Nat × MK × DV) => e.2.1) (emap pk Life.d s.L))) (an ((fun _ => rfl) : ZeroIs Try.prog 50 ((.pointer none))) (an ((emap_fresh (fun _ _ h => pk_inj h) hno) : ∀ zz ∈ (emap pk Life.d s.L : List (Nat × MK × DV)), zz.2.1 ≠ .a [(.i64, (e.who.node : Int)), (.u64, (((e.who.inc : Nat) : Int) : Int))]) trivial))) fun ac wd r => ?_
      refine toAtM (todo' := aft Try.f8 4) (E' := [(0, .pt 0 0), (3, .pt 5 0), (4, .z 0), (5, .d (.v (.pointer none))), (28, .d (.v (.bool true)))]) (M' := [.bx 47 [.mv 1, .mv 2, .mv 3, .mv 4], .mp 42 (s.nl) (emap pk Life.d s.L), .mp 43 (s.ns) (emap mk6 textD s.A), .mp 44 (s.nc) (emap vk Come.d s.C), .mp 45 (s.ng) (emap sk goneD s.G), .bx 40 [.z e.kind, .z e.who.node, .u e.who.inc, .z e.frm.node, .u e.frm.inc, .u e.n, .d (.ro 1 (bytesR e.body)), .u e.view.id.round, .z e.view.id.server.node, .u e.view.id.server.inc, .d (.ro 2 (procs e.view.members)), .d (.ro 1 (nums e.view.starts)), .d (.ro 2 (procs e.transit))]]) tb_ok mixed_ok hK hbm [] 3 [0, 1, 2, 3, 4, 5] [0, 3, 4, 5, 28] r (by kernel_rfl) (an (ptrT50 : PtrT Try.prog 50) trivial) fun ac wd r => ?_
      refine toAtM (todo' := aft Try.f8 5) (E' := [(0, .pt 0 0), (3, .pt 5 0), (4, .z 230), (5, .d (.v (.pointer none)))]) (M' := [.bx 47 [.mv 1, .mv 2, .mv 3, .mv 4], .mp 42 (s.nl) (emap pk Life.d s.L), .mp 43 (s.ns) (emap mk6 textD s.A), .mp 44 (s.nc) (emap vk Come.d s.C), .mp 45 (s.ng) (emap sk goneD s.G), .bx 40 [.z e.kind, .z e.who.node, .u e.who.inc, .z e.frm.node, .u e.frm.inc, .u e.n, .d (.ro 1 (bytesR e.body)), .u e.view.id.round, .z e.view.id.server.node, .u e.view.id.server.inc, .d (.ro 2 (procs e.view.members)), .d (.ro 1 (nums e.view.starts)), .d (.ro 2 (procs e.transit))]]) tb_ok mixed_ok hK hbm [] 3 [0, 1, 2, 3, 4, 5] [0, 3, 4, 5] r (by kernel_rfl) trivial fun ac wd r => ?_
      refine castM (y := .z 230) (N' := [.bx 47 [.mv 1, .mv 2, .mv 3, .mv 4], .mp 42 (s.nl) (emap pk Life.d s.L), .mp 43 (s.ns) (emap mk6 textD s.A), .mp 44 (s.nc) (emap vk Come.d s.C), .mp 45 (s.ng) (emap sk goneD s.G)]) ((by rw [nextJn (by omega) hno])) ((by rw [nextJn (by omega) hno])) ?_
      exact toRetM tb_ok mixed_ok hK rfl hbm [] 2000 [0, 1, 2, 3, 4] r (by kernel_rfl) trivial
    | true =>
      have qh1 := eq_of_beq h1
      refine toAtM (todo' := aft Try.f8 1) (E' := [(0, .pt 0 0), (3, .pt 5 0), (4, .z 0), (8, .d (.v (.bool true)))]) (M' := [.bx 47 [.mv 1, .mv 2, .mv 3, .mv 4], .mp 42 (s.nl) (emap pk Life.d s.L), .mp 43 (s.ns) (emap mk6 textD s.A), .mp 44 (s.nc) (emap vk Come.d s.C), .mp 45 (s.ng) (emap sk goneD s.G), .bx 40 [.z e.kind, .z e.who.node, .u e.who.inc, .z e.frm.node, .u e.frm.inc, .u e.n, .d (.ro 1 (bytesR e.body)), .u e.view.id.round, .z e.view.id.server.node, .u e.view.id.server.inc, .d (.ro 2 (procs e.view.members)), .d (.ro 1 (nums e.view.starts)), .d (.ro 2 (procs e.transit))]]) tb_ok mixed_ok hK hbm [(1, [(2, .b true)])] 5 [0, 1, 2, 3, 4, 5] [0, 3, 4, 8] r (by kernel_rfl) (an h1 trivial) fun ac wd r => ?_
      refine castM (y := .z ((beginJ s.L s.nl e.who).err)) (N' := [.bx 47 [.mv 1, .mv 2, .mv 3, .mv 4], .mp 42 ((beginJ s.L s.nl e.who).nl) (emap pk Life.d (beginJ s.L s.nl e.who).L), .mp 43 (s.ns) (emap mk6 textD s.A), .mp 44 (s.nc) (emap vk Come.d s.C), .mp 45 (s.ng) (emap sk goneD s.G)]) ((by rw [nextJ6 (by omega)])) ((by rw [nextJ6 (by omega)])) ?_
      exact toRetM tb_ok mixed_ok hK rfl hbm [(2, [(3, .mem [0, 1, 2, 3, 4] (.z ((beginJ s.L s.nl e.who).err)) [.bx 47 [.mv 1, .mv 2, .mv 3, .mv 4], .mp 42 ((beginJ s.L s.nl e.who).nl) (emap pk Life.d (beginJ s.L s.nl e.who).L), .mp 43 (s.ns) (emap mk6 textD s.A), .mp 44 (s.nc) (emap vk Come.d s.C), .mp 45 (s.ng) (emap sk goneD s.G)])])] 2000 [0, 1, 2, 3, 4] r (by kernel_rfl) (an (beginOk (emap mk6 textD s.A) (emap vk Come.d s.C) (emap sk goneD s.G) s.ns s.nc s.ng s.L s.nl e.who ho.who hs.lives) trivial)
  | true =>
    obtain ⟨fo, hgl⟩ := Option.isSome_iff_exists.1 (show (getK s.L e.who).isSome = true by assumption)
    obtain ⟨jo, bb, hjo⟩ := getK_some hgl
    have hfo := hs.lives.life _ (List.mem_of_getElem? hjo)
    dsimp only at hfo
    cases h2 : ((e.kind : Int) == 6) with
    | false =>
      have qh2 := ne_of_beq_false h2
      refine toAtM (todo' := aft Try.f8 1) (E' := [(0, .pt 0 0), (3, .pt 5 0), (4, .z 0), (8, .d (.v (.bool false)))]) (M' := [.bx 47 [.mv 1, .mv 2, .mv 3, .mv 4], .mp 42 (s.nl) (emap pk Life.d s.L), .mp 43 (s.ns) (emap mk6 textD s.A), .mp 44 (s.nc) (emap vk Come.d s.C), .mp 45 (s.ng) (emap sk goneD s.G), .bx 40 [.z e.kind, .z e.who.node, .u e.who.inc, .z e.frm.node, .u e.frm.inc, .u e.n, .d (.ro 1 (bytesR e.body)), .u e.view.id.round, .z e.view.id.server.node, .u e.view.id.server.inc, .d (.ro 2 (procs e.view.members)), .d (.ro 1 (nums e.view.starts)), .d (.ro 2 (procs e.transit))]]) tb_ok mixed_ok hK hbm [(1, [(2, .b false)])] 5 [0, 1, 2, 3, 4, 5] [0, 3, 4, 8] r (by kernel_rfl) (an h2 trivial) fun ac wd r => ?_
      obtain ⟨xb, r⟩ := r.openM (u := 1) (N := fun xb => [.bx 47 [.mv 1, .mv 2, .mv 3, .mv 4], .mp 42 (s.nl) (setE (emap pk Life.d s.L) jo (ptrV xb)), .mp 43 (s.ns) (emap mk6 textD s.A), .mp 44 (s.nc) (emap vk Come.d s.C), .mp 45 (s.ng) (emap sk goneD s.G), .bx 40 [.z e.kind, .z e.who.node, .u e.who.inc, .z e.frm.node, .u e.frm.inc, .u e.n, .d (.ro 1 (bytesR e.body)), .u e.view.id.round, .z e.view.id.server.node, .u e.view.id.server.inc, .d (.ro 2 (procs e.view.members)), .d (.ro 1 (nums e.view.starts)), .d (.ro 2 (procs e.transit))], .rw 30 1 (nums fo.handed), .bx 52 [.u fo.view.id.round, .z fo.view.id.server.node, .u fo.view.id.server.inc, .d (.ro 2 (procs fo.view.members)), .d (.ro 1 (nums fo.view.starts)), .d (.v (.bool (fo.on))), .z fo.stands, .u fo.sent, .sl 6 ((nums fo.handed).length)], .nm 7 xb]) rfl (emap_at hjo) rfl (fun _ => rfl)
      have r := r.cast (M' := [.bx 47 [.mv 1, .mv 2, .mv 3, .mv 4], .mp 42 (s.nl) (setE (emap pk Life.d s.L) jo (ptrV xb)), .mp 43 (s.ns) (emap mk6 textD s.A), .mp 44 (s.nc) (emap vk Come.d s.C), .mp 45 (s.ng) (emap sk goneD s.G), .bx 40 [.z e.kind, .z e.who.node, .u e.who.inc, .z e.frm.node, .u e.frm.inc, .u e.n, .d (.ro 1 (bytesR e.body)), .u e.view.id.round, .z e.view.id.server.node, .u e.view.id.server.inc, .d (.ro 2 (procs e.view.members)), .d (.ro 1 (nums e.view.starts)), .d (.ro 2 (procs e.transit))], .rw 30 1 (nums fo.handed), .bx 52 [.u fo.view.id.round, .z fo.view.id.server.node, .u fo.view.id.server.inc, .d (.ro 2 (procs fo.view.members)), .d (.ro 1 (nums fo.view.starts)), .d (.v (.bool (fo.on))), .z fo.stands, .u fo.sent, .sl 6 (fo.handed.length)], .nm 7 xb]) rfl (by rw [nums_lenE])
      cases h3 : (fo.on) with
      | false =>
        refine toAtM (todo' := aft Try.f8 3) (E' := [(0, .pt 0 0), (3, .pt 5 0), (4, .z 0), (5, .pt 7 0)]) (M' := [.bx 47 [.mv 1, .mv 2, .mv 3, .mv 4], .mp 42 (s.nl) (setE (emap pk Life.d s.L) jo (ptrV xb)), .mp 43 (s.ns) (emap mk6 textD s.A), .mp 44 (s.nc) (emap vk Come.d s.C), .mp 45 (s.ng) (emap sk goneD s.G), .bx 40 [.z e.kind, .z e.who.node, .u e.who.inc, .z e.frm.node, .u e.frm.inc, .u e.n, .d (.ro 1 (bytesR e.body)), .u e.view.id.round, .z e.view.id.server.node, .u e.view.id.server.inc, .d (.ro 2 (procs e.view.members)), .d (.ro 1 (nums e.view.starts)), .d (.ro 2 (procs e.transit))], .rw 30 1 (nums fo.handed), .bx 52 [.u fo.view.id.round, .z fo.view.id.server.node, .u fo.view.id.server.inc, .d (.ro 2 (procs fo.view.members)), .d (.ro 1 (nums fo.view.starts)), .d (.v (.bool (fo.on))), .z fo.stands, .u fo.sent, .sl 6 (fo.handed.length)], .nm 7 xb]) tb_ok mixed_ok hK hbm [(3, [(6, .mkp (jo) (.a [(.i64, (e.who.node : Int)), (.u64, (((e.who.inc : Nat) : Int) : Int))]) (ptrV xb) 8)])] 4 [0, 1, 2, 3, 4, 5, 6, 7, 8] [0, 3, 4, 5] r (by kernel_rfl) (an ((keys_setE (keysP hs.lives.ok ho.who)) : KeysOk Try.prog 32 ((.a [(.i64, (e.who.node : Int)), (.u64, (((e.who.inc : Nat) : Int) : Int))]) :: List.map (fun (e : Nat × MK × DV) => e.2.1) (setE (emap pk Life.d s.L) jo (ptrV xb)))) (an (rfl : (.a [(.i64, (e.who.node : Int)), (.u64, (((e.who.inc : Nat) : Int) : Int))] : MK) = .a [(.i64, (e.who.node : Int)), (.u64, (((e.who.inc : Nat) : Int) : Int))]) (an ((by rw [setE_keys]; exact emap_nodup (fun _ _ h => pk_inj h) hs.lives.n) : (List.map (fun (e : Nat × MK × DV) => e.2.1) (setE (emap pk Life.d s.L) jo (ptrV xb))).Nodup) (an (⟨⟨_, setE_at _ (emap_at hjo)⟩, rfl⟩ : (∃ b0, (setE (emap pk Life.d s.L) jo (ptrV xb) : List (Nat × MK × DV))[jo]? = some (b0, .a [(.i64, (e.who.node : Int)), (.u64, (((e.who.inc : Nat) : Int) : Int))], ptrV xb)) ∧ outP [.bx 47 [.mv 1, .mv 2, .mv 3, .mv 4], .mp 42 (s.nl) (setE (emap pk Life.d s.L) jo (ptrV xb)), .mp 43 (s.ns) (emap mk6 textD s.A), .mp 44 (s.nc) (emap vk Come.d s.C), .mp 45 (s.ng) (emap sk goneD s.G), .bx 40 [.z e.kind, .z e.who.node, .u e.who.inc, .z e.frm.node, .u e.frm.inc, .u e.n, .d (.ro 1 (bytesR e.body)), .u e.view.id.round, .z e.view.id.server.node, .u e.view.id.server.inc, .d (.ro 2 (procs e.view.members)), .d (.ro 1 (nums e.view.starts)), .d (.ro 2 (procs e.transit))], .rw 30 1 (nums fo.handed), .bx 52 [.u fo.view.id.round, .z fo.view.id.server.node, .u fo.view.id.server.inc, .d (.ro 2 (procs fo.view.members)), .d (.ro 1 (nums fo.view.starts)), .d (.v (.bool (fo.on))), .z fo.stands, .u fo.sent, .sl 6 (fo.handed.length)], .nm 7 xb] (ptrV xb) (some 8)) trivial)))) fun ac wd r => ?_
        have r := r.cast (M' := [.bx 47 [.mv 1, .mv 2, .mv 3, .mv 4], .mp 42 (s.nl) (setE (emap pk Life.d s.L) jo (ptrV xb)), .mp 43 (s.ns) (emap mk6 textD s.A), .mp 44 (s.nc) (emap vk Come.d s.C), .mp 45 (s.ng) (emap sk goneD s.G), .bx 40 [.z e.kind, .z e.who.node, .u e.who.inc, .z e.frm.node, .u e.frm.inc, .u e.n, .d (.ro 1 (bytesR e.body)), .u e.view.id.round, .z e.view.id.server.node, .u e.view.id.server.inc, .d (.ro 2 (procs e.view.members)), .d (.ro 1 (nums e.view.starts)), .d (.ro 2 (procs e.transit))], .rw 30 1 (nums fo.handed), .bx 52 [.u fo.view.id.round, .z fo.view.id.server.node, .u fo.view.id.server.inc, .d (.ro 2 (procs fo.view.members)), .d (.ro 1 (nums fo.view.starts)), .d (.v (.bool false)), .z fo.stands, .u fo.sent, .sl 6 (fo.handed.length)], .nm 7 xb]) rfl (by rw [h3])
        refine toAtM (todo' := aft Try.f8 4) (E' := [(0, .pt 0 0), (3, .pt 5 0), (4, .z 0), (5, .pt 7 0), (28, .d (.v (.bool true)))]) (M' := [.bx 47 [.mv 1, .mv 2, .mv 3, .mv 4], .mp 42 (s.nl) (setE (emap pk Life.d s.L) jo (ptrV xb)), .mp 43 (s.ns) (emap mk6 textD s.A), .mp 44 (s.nc) (emap vk Come.d s.C), .mp 45 (s.ng) (emap sk goneD s.G), .bx 40 [.z e.kind, .z e.who.node, .u e.who.inc, .z e.frm.node, .u e.frm.inc, .u e.n, .d (.ro 1 (bytesR e.body)), .u e.view.id.round, .z e.view.id.server.node, .u e.view.id.server.inc, .d (.ro 2 (procs e.view.members)), .d (.ro 1 (nums e.view.starts)), .d (.ro 2 (procs e.transit))], .rw 30 1 (nums fo.handed), .bx 52 [.u fo.view.id.round, .z fo.view.id.server.node, .u fo.view.id.server.inc, .d (.ro 2 (procs fo.view.members)), .d (.ro 1 (nums fo.view.starts)), .d (.v (.bool false)), .z fo.stands, .u fo.sent, .sl 6 (fo.handed.length)], .nm 7 xb]) tb_ok mixed_ok hK hbm [] 3 [0, 1, 2, 3, 4, 5, 6, 7, 8] [0, 3, 4, 5, 28] r (by kernel_rfl) (an (ptrT50 : PtrT Try.prog 50) trivial) fun ac wd r => ?_
        have r := r.cast (M' := [.bx 47 [.mv 1, .mv 2, .mv 3, .mv 4], .mp 42 (s.nl) (setE (emap pk Life.d s.L) jo (ptrV xb)), .mp 43 (s.ns) (emap mk6 textD s.A), .mp 44 (s.nc) (emap vk Come.d s.C), .mp 45 (s.ng) (emap sk goneD s.G), .bx 40 [.z e.kind, .z e.who.node, .u e.who.inc, .z e.frm.node, .u e.frm.inc, .u e.n, .d (.ro 1 (bytesR e.body)), .u e.view.id.round, .z e.view.id.server.node, .u e.view.id.server.inc, .d (.ro 2 (procs e.view.members)), .d (.ro 1 (nums e.view.starts)), .d (.ro 2 (procs e.transit))], .rw 30 1 (nums fo.handed), .bx 52 [.u fo.view.id.round, .z fo.view.id.server.node, .u fo.view.id.server.inc, .d (.ro 2 (procs fo.view.members)), .d (.ro 1 (nums fo.view.starts)), .d (.v (.bool (fo.on))), .z fo.stands, .u fo.sent, .sl 6 (fo.handed.length)], .nm 7 xb]) rfl (by rw [h3])
        refine toAtM (todo' := aft Try.f8 5) (E' := [(0, .pt 0 0), (3, .pt 5 0), (4, .z 230), (5, .pt 7 0)]) (M' := [.bx 47 [.mv 1, .mv 2, .mv 3, .mv 4], .mp 42 (s.nl) (setE (emap pk Life.d s.L) jo (ptrV xb)), .mp 43 (s.ns) (emap mk6 textD s.A), .mp 44 (s.nc) (emap vk Come.d s.C), .mp 45 (s.ng) (emap sk goneD s.G), .bx 40 [.z e.kind, .z e.who.node, .u e.who.inc, .z e.frm.node, .u e.frm.inc, .u e.n, .d (.ro 1 (bytesR e.body)), .u e.view.id.round, .z e.view.id.server.node, .u e.view.id.server.inc, .d (.ro 2 (procs e.view.members)), .d (.ro 1 (nums e.view.starts)), .d (.ro 2 (procs e.transit))], .rw 30 1 (nums fo.handed), .bx 52 [.u fo.view.id.round, .z fo.view.id.server.node, .u fo.view.id.server.inc, .d (.ro 2 (procs fo.view.members)), .d (.ro 1 (nums fo.view.starts)), .d (.v (.bool (fo.on))), .z fo.stands, .u fo.sent, .sl 6 (fo.handed.length)], .nm 7 xb]) tb_ok mixed_ok hK hbm [] 3 [0, 1, 2, 3, 4, 5, 6, 7, 8] [0, 3, 4, 5] r (by kernel_rfl) trivial fun ac wd r => ?_
        have r := r.foldM (u := 7) (v := 8) (m := 1) (j := jo) (vc := [(fo.handed.length) = (nums fo.handed : List (List DV)).length]) (M1 := [.bx 47 [.mv 1, .mv 2, .mv 3, .mv 4], .mp 42 (s.nl) (setE (setE (emap pk Life.d s.L) jo (ptrV xb)) (jo) (.pb 52 [.u fo.view.id.round, .z fo.view.id.server.node, .u fo.view.id.server.inc, .ro 2 (procs fo.view.members), .ro 1 (nums fo.view.starts), .v (.bool (fo.on)), .z fo.stands, .u fo.sent, .em 30 1 (nums fo.handed)])), .mp 43 (s.ns) (emap mk6 textD s.A), .mp 44 (s.nc) (emap vk Come.d s.C), .mp 45 (s.ng) (emap sk goneD s.G), .bx 40 [.z e.kind, .z e.who.node, .u e.who.inc, .z e.frm.node, .u e.frm.inc, .u e.n, .d (.ro 1 (bytesR e.body)), .u e.view.id.round, .z e.view.id.server.node, .u e.view.id.server.inc, .d (.ro 2 (procs e.view.members)), .d (.ro 1 (nums e.view.starts)), .d (.ro 2 (procs e.transit))], .dead, .dead, .nm 7 xb]) (M2 := [.bx 47 [.mv 1, .mv 2, .mv 3, .mv 4], .mp 42 (s.nl) (emap pk Life.d s.L), .mp 43 (s.ns) (emap mk6 textD s.A), .mp 44 (s.nc) (emap vk Come.d s.C), .mp 45 (s.ng) (emap sk goneD s.G), .bx 40 [.z e.kind, .z e.who.node, .u e.who.inc, .z e.frm.node, .u e.frm.inc, .u e.n, .d (.ro 1 (bytesR e.body)), .u e.view.id.round, .z e.view.id.server.node, .u e.view.id.server.inc, .d (.ro 2 (procs e.view.members)), .d (.ro 1 (nums e.view.starts)), .d (.ro 2 (procs e.transit))], .dead, .dead, .nm 7 xb]) rfl (by kernel_rfl) (And.intro (by first | rfl | simp) trivial) (fun _ _ _ hM => by cases hM; exact setE_at _ (emap_at hjo)) (by rw [setE_same hjo])
        refine castM (y := .z 230) (N' := [.bx 47 [.mv 1, .mv 2, .mv 3, .mv 4], .mp 42 (s.nl) (emap pk Life.d s.L), .mp 43 (s.ns) (emap mk6 textD s.A), .mp 44 (s.nc) (emap vk Come.d s.C), .mp 45 (s.ng) (emap sk goneD s.G)]) ((by rw [nextJo (by omega) hgl (by assumption)])) ((by rw [nextJo (by omega) hgl (by assumption)])) ?_
        exact toRetM tb_ok mixed_ok hK rfl hbm [] 2000 [0, 1, 2, 3, 4] r (by kernel_rfl) trivial
      | true =>
        refine toAtM (todo' := aft Try.f8 3) (E' := [(0, .pt 0 0), (3, .pt 5 0), (4, .z 0), (5, .pt 7 0)]) (M' := [.bx 47 [.mv 1, .mv 2, .mv 3, .mv 4], .mp 42 (s.nl) (setE (emap pk Life.d s.L) jo (ptrV xb)), .mp 43 (s.ns) (emap mk6 textD s.A), .mp 44 (s.nc) (emap vk Come.d s.C), .mp 45 (s.ng) (emap sk goneD s.G), .bx 40 [.z e.kind, .z e.who.node, .u e.who.inc, .z e.frm.node, .u e.frm.inc, .u e.n, .d (.ro 1 (bytesR e.body)), .u e.view.id.round, .z e.view.id.server.node, .u e.view.id.server.inc, .d (.ro 2 (procs e.view.members)), .d (.ro 1 (nums e.view.starts)), .d (.ro 2 (procs e.transit))], .rw 30 1 (nums fo.handed), .bx 52 [.u fo.view.id.round, .z fo.view.id.server.node, .u fo.view.id.server.inc, .d (.ro 2 (procs fo.view.members)), .d (.ro 1 (nums fo.view.starts)), .d (.v (.bool (fo.on))), .z fo.stands, .u fo.sent, .sl 6 (fo.handed.length)], .nm 7 xb]) tb_ok mixed_ok hK hbm [(3, [(6, .mkp (jo) (.a [(.i64, (e.who.node : Int)), (.u64, (((e.who.inc : Nat) : Int) : Int))]) (ptrV xb) 8)])] 4 [0, 1, 2, 3, 4, 5, 6, 7, 8] [0, 3, 4, 5] r (by kernel_rfl) (an ((keys_setE (keysP hs.lives.ok ho.who)) : KeysOk Try.prog 32 ((.a [(.i64, (e.who.node : Int)), (.u64, (((e.who.inc : Nat) : Int) : Int))]) :: List.map (fun (e : Nat × MK × DV) => e.2.1) (setE (emap pk Life.d s.L) jo (ptrV xb)))) (an (rfl : (.a [(.i64, (e.who.node : Int)), (.u64, (((e.who.inc : Nat) : Int) : Int))] : MK) = .a [(.i64, (e.who.node : Int)), (.u64, (((e.who.inc : Nat) : Int) : Int))]) (an ((by rw [setE_keys]; exact emap_nodup (fun _ _ h => pk_inj h) hs.lives.n) : (List.map (fun (e : Nat × MK × DV) => e.2.1) (setE (emap pk Life.d s.L) jo (ptrV xb))).Nodup) (an (⟨⟨_, setE_at _ (emap_at hjo)⟩, rfl⟩ : (∃ b0, (setE (emap pk Life.d s.L) jo (ptrV xb) : List (Nat × MK × DV))[jo]? = some (b0, .a [(.i64, (e.who.node : Int)), (.u64, (((e.who.inc : Nat) : Int) : Int))], ptrV xb)) ∧ outP [.bx 47 [.mv 1, .mv 2, .mv 3, .mv 4], .mp 42 (s.nl) (setE (emap pk Life.d s.L) jo (ptrV xb)), .mp 43 (s.ns) (emap mk6 textD s.A), .mp 44 (s.nc) (emap vk Come.d s.C), .mp 45 (s.ng) (emap sk goneD s.G), .bx 40 [.z e.kind, .z e.who.node, .u e.who.inc, .z e.frm.node, .u e.frm.inc, .u e.n, .d (.ro 1 (bytesR e.body)), .u e.view.id.round, .z e.view.id.server.node, .u e.view.id.server.inc, .d (.ro 2 (procs e.view.members)), .d (.ro 1 (nums e.view.starts)), .d (.ro 2 (procs e.transit))], .rw 30 1 (nums fo.handed), .bx 52 [.u fo.view.id.round, .z fo.view.id.server.node, .u fo.view.id.server.inc, .d (.ro 2 (procs fo.view.members)), .d (.ro 1 (nums fo.view.starts)), .d (.v (.bool (fo.on))), .z fo.stands, .u fo.sent, .sl 6 (fo.handed.length)], .nm 7 xb] (ptrV xb) (some 8)) trivial)))) fun ac wd r => ?_
        have r := r.cast (M' := [.bx 47 [.mv 1, .mv 2, .mv 3, .mv 4], .mp 42 (s.nl) (setE (emap pk Life.d s.L) jo (ptrV xb)), .mp 43 (s.ns) (emap mk6 textD s.A), .mp 44 (s.nc) (emap vk Come.d s.C), .mp 45 (s.ng) (emap sk goneD s.G), .bx 40 [.z e.kind, .z e.who.node, .u e.who.inc, .z e.frm.node, .u e.frm.inc, .u e.n, .d (.ro 1 (bytesR e.body)), .u e.view.id.round, .z e.view.id.server.node, .u e.view.id.server.inc, .d (.ro 2 (procs e.view.members)), .d (.ro 1 (nums e.view.starts)), .d (.ro 2 (procs e.transit))], .rw 30 1 (nums fo.handed), .bx 52 [.u fo.view.id.round, .z fo.view.id.server.node, .u fo.view.id.server.inc, .d (.ro 2 (procs fo.view.members)), .d (.ro 1 (nums fo.view.starts)), .d (.v (.bool true)), .z fo.stands, .u fo.sent, .sl 6 (fo.handed.length)], .nm 7 xb]) rfl (by rw [h3])
        refine toAtM (todo' := aft Try.f8 4) (E' := [(0, .pt 0 0), (3, .pt 5 0), (4, .z 0), (5, .pt 7 0), (28, .d (.v (.bool false)))]) (M' := [.bx 47 [.mv 1, .mv 2, .mv 3, .mv 4], .mp 42 (s.nl) (setE (emap pk Life.d s.L) jo (ptrV xb)), .mp 43 (s.ns) (emap mk6 textD s.A), .mp 44 (s.nc) (emap vk Come.d s.C), .mp 45 (s.ng) (emap sk goneD s.G), .bx 40 [.z e.kind, .z e.who.node, .u e.who.inc, .z e.frm.node, .u e.frm.inc, .u e.n, .d (.ro 1 (bytesR e.body)), .u e.view.id.round, .z e.view.id.server.node, .u e.view.id.server.inc, .d (.ro 2 (procs e.view.members)), .d (.ro 1 (nums e.view.starts)), .d (.ro 2 (procs e.transit))], .rw 30 1 (nums fo.handed), .bx 52 [.u fo.view.id.round, .z fo.view.id.server.node, .u fo.view.id.server.inc, .d (.ro 2 (procs fo.view.members)), .d (.ro 1 (nums fo.view.starts)), .d (.v (.bool true)), .z fo.stands, .u fo.sent, .sl 6 (fo.handed.length)], .nm 7 xb]) tb_ok mixed_ok hK hbm [] 3 [0, 1, 2, 3, 4, 5, 6, 7, 8] [0, 3, 4, 5, 28] r (by kernel_rfl) (an (ptrT50 : PtrT Try.prog 50) trivial) fun ac wd r => ?_
        have r := r.cast (M' := [.bx 47 [.mv 1, .mv 2, .mv 3, .mv 4], .mp 42 (s.nl) (setE (emap pk Life.d s.L) jo (ptrV xb)), .mp 43 (s.ns) (emap mk6 textD s.A), .mp 44 (s.nc) (emap vk Come.d s.C), .mp 45 (s.ng) (emap sk goneD s.G), .bx 40 [.z e.kind, .z e.who.node, .u e.who.inc, .z e.frm.node, .u e.frm.inc, .u e.n, .d (.ro 1 (bytesR e.body)), .u e.view.id.round, .z e.view.id.server.node, .u e.view.id.server.inc, .d (.ro 2 (procs e.view.members)), .d (.ro 1 (nums e.view.starts)), .d (.ro 2 (procs e.transit))], .rw 30 1 (nums fo.handed), .bx 52 [.u fo.view.id.round, .z fo.view.id.server.node, .u fo.view.id.server.inc, .d (.ro 2 (procs fo.view.members)), .d (.ro 1 (nums fo.view.starts)), .d (.v (.bool (fo.on))), .z fo.stands, .u fo.sent, .sl 6 (fo.handed.length)], .nm 7 xb]) rfl (by rw [h3])
        cases h4 : ((e.kind : Int) == 1) with
        | false =>
          have qh4 := ne_of_beq_false h4
          cases h5 : ((e.kind : Int) == 2) with
          | false =>
            have qh5 := ne_of_beq_false h5
            cases h6 : ((e.kind : Int) == 3) with
            | false =>
              have qh6 := ne_of_beq_false h6
              cases h7 : ((e.kind : Int) == 4) with
              | false =>
                have qh7 := ne_of_beq_false h7
                cases h8 : ((e.kind : Int) == 5) with
                | false =>
                  have qh8 := ne_of_beq_false h8
                  cases h9 : ((e.kind : Int) == 7) with
                  | false =>
                    have qh9 := ne_of_beq_false h9
                    refine toAtM (todo' := aft Try.f8 20) (E' := [(4, .z 230)]) (M' := [.bx 47 [.mv 1, .mv 2, .mv 3, .mv 4], .mp 42 (s.nl) (setE (emap pk Life.d s.L) jo (ptrV xb)), .mp 43 (s.ns) (emap mk6 textD s.A), .mp 44 (s.nc) (emap vk Come.d s.C), .mp 45 (s.ng) (emap sk goneD s.G), .bx 40 [.z e.kind, .z e.who.node, .u e.who.inc, .z e.frm.node, .u e.frm.inc, .u e.n, .d (.ro 1 (bytesR e.body)), .u e.view.id.round, .z e.view.id.server.node, .u e.view.id.server.inc, .d (.ro 2 (procs e.view.members)), .d (.ro 1 (nums e.view.starts)), .d (.ro 2 (procs e.transit))], .rw 30 1 (nums fo.handed), .bx 52 [.u fo.view.id.round, .z fo.view.id.server.node, .u fo.view.id.server.inc, .d (.ro 2 (procs fo.view.members)), .d (.ro 1 (nums fo.view.starts)), .d (.v (.bool (fo.on))), .z fo.stands, .u fo.sent, .sl 6 (fo.handed.length)], .nm 7 xb]) tb_ok mixed_ok hK hbm [(7, [(0, .b false)]), (9, [(0, .b false)]), (11, [(0, .b false)]), (13, [(0, .b false)]), (15, [(0, .b false)]), (17, [(0, .b false)])] 28 [0, 1, 2, 3, 4, 5, 6, 7, 8] [4] r (by kernel_rfl) (an h4 (an h5 (an h6 (an h7 (an h8 (an h9 trivial)))))) fun ac wd r => ?_
                    have r := r.foldM (u := 7) (v := 8) (m := 1) (j := jo) (vc := [(fo.handed.length) = (nums fo.handed : List (List DV)).length]) (M1 := [.bx 47 [.mv 1, .mv 2, .mv 3, .mv 4], .mp 42 (s.nl) (setE (setE (emap pk Life.d s.L) jo (ptrV xb)) (jo) (.pb 52 [.u fo.view.id.round, .z fo.view.id.server.node, .u fo.view.id.server.inc, .ro 2 (procs fo.view.members), .ro 1 (nums fo.view.starts), .v (.bool (fo.on)), .z fo.stands, .u fo.sent, .em 30 1 (nums fo.handed)])), .mp 43 (s.ns) (emap mk6 textD s.A), .mp 44 (s.nc) (emap vk Come.d s.C), .mp 45 (s.ng) (emap sk goneD s.G), .bx 40 [.z e.kind, .z e.who.node, .u e.who.inc, .z e.frm.node, .u e.frm.inc, .u e.n, .d (.ro 1 (bytesR e.body)), .u e.view.id.round, .z e.view.id.server.node, .u e.view.id.server.inc, .d (.ro 2 (procs e.view.members)), .d (.ro 1 (nums e.view.starts)), .d (.ro 2 (procs e.transit))], .dead, .dead, .nm 7 xb]) (M2 := [.bx 47 [.mv 1, .mv 2, .mv 3, .mv 4], .mp 42 (s.nl) (emap pk Life.d s.L), .mp 43 (s.ns) (emap mk6 textD s.A), .mp 44 (s.nc) (emap vk Come.d s.C), .mp 45 (s.ng) (emap sk goneD s.G), .bx 40 [.z e.kind, .z e.who.node, .u e.who.inc, .z e.frm.node, .u e.frm.inc, .u e.n, .d (.ro 1 (bytesR e.body)), .u e.view.id.round, .z e.view.id.server.node, .u e.view.id.server.inc, .d (.ro 2 (procs e.view.members)), .d (.ro 1 (nums e.view.starts)), .d (.ro 2 (procs e.transit))], .dead, .dead, .nm 7 xb]) rfl (by kernel_rfl) (And.intro (by first | rfl | simp) trivial) (fun _ _ _ hM => by cases hM; exact setE_at _ (emap_at hjo)) (by rw [setE_same hjo])
                    refine castM (y := .z 230) (N' := [.bx 47 [.mv 1, .mv 2, .mv 3, .mv 4], .mp 42 (s.nl) (emap pk Life.d s.L), .mp 43 (s.ns) (emap mk6 textD s.A), .mp 44 (s.nc) (emap vk Come.d s.C), .mp 45 (s.ng) (emap sk goneD s.G)]) ((by rw [nextJl (by omega) hgl (by assumption), lifeJ_no (by omega) (by omega) (by omega) (by omega) (by omega) (by omega)])) ((by rw [nextJl (by omega) hgl (by assumption), lifeJ_no (by omega) (by omega) (by omega) (by omega) (by omega) (by omega)])) ?_
                    exact toRetM tb_ok mixed_ok hK rfl hbm [] 2000 [0, 1, 2, 3, 4] r (by kernel_rfl) trivial
                  | true =>
                    have qh9 := eq_of_beq h9
                    refine toAtM (todo' := aft Try.f8 19) (E' := [(4, .z 0)]) (M' := [.bx 47 [.mv 1, .mv 2, .mv 3, .mv 4], .mp 42 (s.nl) (setE (emap pk Life.d s.L) jo (ptrV xb)), .mp 43 (s.ns) (emap mk6 textD s.A), .mp 44 (s.nc) (emap vk Come.d s.C), .mp 45 (s.ng) (emap sk goneD s.G), .bx 40 [.z e.kind, .z e.who.node, .u e.who.inc, .z e.frm.node, .u e.frm.inc, .u e.n, .d (.ro 1 (bytesR e.body)), .u e.view.id.round, .z e.view.id.server.node, .u e.view.id.server.inc, .d (.ro 2 (procs e.view.members)), .d (.ro 1 (nums e.view.starts)), .d (.ro 2 (procs e.transit))], .rw 30 1 (nums fo.handed), .bx 52 [.u fo.view.id.round, .z fo.view.id.server.node, .u fo.view.id.server.inc, .d (.ro 2 (procs fo.view.members)), .d (.ro 1 (nums fo.view.starts)), .d (.v (.bool false)), .z fo.stands, .u fo.sent, .sl 6 (fo.handed.length)], .nm 7 xb]) tb_ok mixed_ok hK hbm [(7, [(0, .b false)]), (9, [(0, .b false)]), (11, [(0, .b false)]), (13, [(0, .b false)]), (15, [(0, .b false)]), (17, [(0, .b true)])] 28 [0, 1, 2, 3, 4, 5, 6, 7, 8] [4] r (by kernel_rfl) (an h4 (an h5 (an h6 (an h7 (an h8 (an h9 trivial)))))) fun ac wd r => ?_
                    have r := r.foldM (u := 7) (v := 8) (m := 1) (j := jo) (vc := [(fo.handed.length) = (nums fo.handed : List (List DV)).length]) (M1 := [.bx 47 [.mv 1, .mv 2, .mv 3, .mv 4], .mp 42 (s.nl) (setE (setE (emap pk Life.d s.L) jo (ptrV xb)) (jo) (.pb 52 [.u fo.view.id.round, .z fo.view.id.server.node, .u fo.view.id.server.inc, .ro 2 (procs fo.view.members), .ro 1 (nums fo.view.starts), .v (.bool false), .z fo.stands, .u fo.sent, .em 30 1 (nums fo.handed)])), .mp 43 (s.ns) (emap mk6 textD s.A), .mp 44 (s.nc) (emap vk Come.d s.C), .mp 45 (s.ng) (emap sk goneD s.G), .bx 40 [.z e.kind, .z e.who.node, .u e.who.inc, .z e.frm.node, .u e.frm.inc, .u e.n, .d (.ro 1 (bytesR e.body)), .u e.view.id.round, .z e.view.id.server.node, .u e.view.id.server.inc, .d (.ro 2 (procs e.view.members)), .d (.ro 1 (nums e.view.starts)), .d (.ro 2 (procs e.transit))], .dead, .dead, .nm 7 xb]) (M2 := [.bx 47 [.mv 1, .mv 2, .mv 3, .mv 4], .mp 42 (s.nl) (emap pk Life.d (setK s.L e.who ({ fo with on := false } : Life))), .mp 43 (s.ns) (emap mk6 textD s.A), .mp 44 (s.nc) (emap vk Come.d s.C), .mp 45 (s.ng) (emap sk goneD s.G), .bx 40 [.z e.kind, .z e.who.node, .u e.who.inc, .z e.frm.node, .u e.frm.inc, .u e.n, .d (.ro 1 (bytesR e.body)), .u e.view.id.round, .z e.view.id.server.node, .u e.view.id.server.inc, .d (.ro 2 (procs e.view.members)), .d (.ro 1 (nums e.view.starts)), .d (.ro 2 (procs e.transit))], .dead, .dead, .nm 7 xb]) rfl (by kernel_rfl) (And.intro (by first | rfl | simp) trivial) (fun _ _ _ hM => by cases hM; exact setE_at _ (emap_at hjo)) (by rw [live_fold (f' := ({ fo with on := false } : Life)) hs.lives.n hjo])
                    refine castM (y := .z 0) (N' := [.bx 47 [.mv 1, .mv 2, .mv 3, .mv 4], .mp 42 (s.nl) (emap pk Life.d (setK s.L e.who ({ fo with on := false } : Life))), .mp 43 (s.ns) (emap mk6 textD s.A), .mp 44 (s.nc) (emap vk Come.d s.C), .mp 45 (s.ng) (emap sk goneD s.G)]) ((by rw [nextJl (by omega) hgl (by assumption), lifeJ7 (by omega)])) ((by rw [nextJl (by omega) hgl (by assumption), lifeJ7 (by omega)])) ?_
                    exact toRetM tb_ok mixed_ok hK rfl hbm [] 2000 [0, 1, 2, 3, 4] r (by kernel_rfl) trivial
                | true =>
                  have qh8 := eq_of_beq h8
                  cases h10 : ((viewJ s.C s.nc s.G s.ng fo e).err == 0) with
                  | false =>
                    refine toAtM (todo' := aft Try.f8 16) (E' := [(4, .z ((viewJ s.C s.nc s.G s.ng fo e).err))]) (M' := [.bx 47 [.mv 1, .mv 2, .mv 3, .mv 4], .mp 42 (s.nl) (setE (emap pk Life.d s.L) jo (ptrV xb)), .mp 43 (s.ns) (emap mk6 textD s.A), .mp 44 ((viewJ s.C s.nc s.G s.ng fo e).nc) (emap vk Come.d (viewJ s.C s.nc s.G s.ng fo e).C), .mp 45 ((viewJ s.C s.nc s.G s.ng fo e).ng) (emap sk goneD (viewJ s.C s.nc s.G s.ng fo e).G), .bx 40 [.z e.kind, .z e.who.node, .u e.who.inc, .z e.frm.node, .u e.frm.inc, .u e.n, .d (.ro 1 (bytesR e.body)), .u e.view.id.round, .z e.view.id.server.node, .u e.view.id.server.inc, .d (.ro 2 (procs e.view.members)), .d (.ro 1 (nums e.view.starts)), .d (.ro 2 (procs e.transit))], .rw 30 1 (nums (viewJ s.C s.nc s.G s.ng fo e).f.handed), .bx 52 [.u ((viewJ s.C s.nc s.G s.ng fo e).f.view.id.round), .z ((viewJ s.C s.nc s.G s.ng fo e).f.view.id.server.node), .u ((viewJ s.C s.nc s.G s.ng fo e).f.view.id.server.inc), .d (.ro 2 (procs (viewJ s.C s.nc s.G s.ng fo e).f.view.members)), .d (.ro 1 (nums (viewJ s.C s.nc s.G s.ng fo e).f.view.starts)), .d (.v (.bool ((viewJ s.C s.nc s.G s.ng fo e).f.on))), .z ((viewJ s.C s.nc s.G s.ng fo e).f.stands), .u ((viewJ s.C s.nc s.G s.ng fo e).f.sent), .sl 6 ((viewJ s.C s.nc s.G s.ng fo e).f.handed.length)], .nm 7 xb]) tb_ok mixed_ok hK hbm [(7, [(0, .b false)]), (9, [(0, .b false)]), (11, [(0, .b false)]), (13, [(0, .b false)]), (15, [(0, .b true)]), (16, [(3, .mem [0, 1, 2, 3, 4, 7, 6] (.z ((viewJ s.C s.nc s.G s.ng fo e).err)) [.bx 47 [.mv 1, .mv 2, .mv 3, .mv 4], .mp 42 (s.nl) (setE (emap pk Life.d s.L) jo (ptrV xb)), .mp 43 (s.ns) (emap mk6 textD s.A), .mp 44 ((viewJ s.C s.nc s.G s.ng fo e).nc) (emap vk Come.d (viewJ s.C s.nc s.G s.ng fo e).C), .mp 45 ((viewJ s.C s.nc s.G s.ng fo e).ng) (emap sk goneD (viewJ s.C s.nc s.G s.ng fo e).G), .bx 52 [.u ((viewJ s.C s.nc s.G s.ng fo e).f.view.id.round), .z ((viewJ s.C s.nc s.G s.ng fo e).f.view.id.server.node), .u ((viewJ s.C s.nc s.G s.ng fo e).f.view.id.server.inc), .d (.ro 2 (procs (viewJ s.C s.nc s.G s.ng fo e).f.view.members)), .d (.ro 1 (nums (viewJ s.C s.nc s.G s.ng fo e).f.view.starts)), .d (.v (.bool ((viewJ s.C s.nc s.G s.ng fo e).f.on))), .z ((viewJ s.C s.nc s.G s.ng fo e).f.stands), .u ((viewJ s.C s.nc s.G s.ng fo e).f.sent), .sl 6 ((viewJ s.C s.nc s.G s.ng fo e).f.handed.length)], .rw 30 1 (nums (viewJ s.C s.nc s.G s.ng fo e).f.handed)])])] 23 [0, 1, 2, 3, 4, 5, 6, 7, 8] [4] r (by kernel_rfl) (an h4 (an h5 (an h6 (an h7 (an h8 (an ((by have k := viewOk (setE (emap pk Life.d s.L) jo (ptrV xb)) (emap mk6 textD s.A) s.nl s.ns s.C s.nc s.G s.ng fo e ho hs.came hs.gone hfo; rw [h10] at k; exact k) : ConM Try.prog 13 [.pt 0 0, .pt 5 0, .ag [.z e.kind, .z e.who.node, .u e.who.inc, .z e.frm.node, .u e.frm.inc, .u e.n, .d (.ro 1 (bytesR e.body)), .u e.view.id.round, .z e.view.id.server.node, .u e.view.id.server.inc, .d (.ro 2 (procs e.view.members)), .d (.ro 1 (nums e.view.starts)), .d (.ro 2 (procs e.transit))]] [.bx 47 [.mv 1, .mv 2, .mv 3, .mv 4], .mp 42 (s.nl) (setE (emap pk Life.d s.L) jo (ptrV xb)), .mp 43 (s.ns) (emap mk6 textD s.A), .mp 44 (s.nc) (emap vk Come.d s.C), .mp 45 (s.ng) (emap sk goneD s.G), .bx 52 [.u fo.view.id.round, .z fo.view.id.server.node, .u fo.view.id.server.inc, .d (.ro 2 (procs fo.view.members)), .d (.ro 1 (nums fo.view.starts)), .d (.v (.bool (fo.on))), .z fo.stands, .u fo.sent, .sl 6 (fo.handed.length)], .rw 30 1 (nums fo.handed)] (.z ((viewJ s.C s.nc s.G s.ng fo e).err)) [.bx 47 [.mv 1, .mv 2, .mv 3, .mv 4], .mp 42 (s.nl) (setE (emap pk Life.d s.L) jo (ptrV xb)), .mp 43 (s.ns) (emap mk6 textD s.A), .mp 44 ((viewJ s.C s.nc s.G s.ng fo e).nc) (emap vk Come.d (viewJ s.C s.nc s.G s.ng fo e).C), .mp 45 ((viewJ s.C s.nc s.G s.ng fo e).ng) (emap sk goneD (viewJ s.C s.nc s.G s.ng fo e).G), .bx 52 [.u ((viewJ s.C s.nc s.G s.ng fo e).f.view.id.round), .z ((viewJ s.C s.nc s.G s.ng fo e).f.view.id.server.node), .u ((viewJ s.C s.nc s.G s.ng fo e).f.view.id.server.inc), .d (.ro 2 (procs (viewJ s.C s.nc s.G s.ng fo e).f.view.members)), .d (.ro 1 (nums (viewJ s.C s.nc s.G s.ng fo e).f.view.starts)), .d (.v (.bool ((viewJ s.C s.nc s.G s.ng fo e).f.on))), .z ((viewJ s.C s.nc s.G s.ng fo e).f.stands), .u ((viewJ s.C s.nc s.G s.ng fo e).f.sent), .sl 6 ((viewJ s.C s.nc s.G s.ng fo e).f.handed.length)], .rw 30 1 (nums (viewJ s.C s.nc s.G s.ng fo e).f.handed)]) trivial)))))) fun ac wd r => ?_
                    have r := r.foldM (u := 7) (v := 8) (m := 1) (j := jo) (vc := [((viewJ s.C s.nc s.G s.ng fo e).f.handed.length) = (nums (viewJ s.C s.nc s.G s.ng fo e).f.handed : List (List DV)).length]) (M1 := [.bx 47 [.mv 1, .mv 2, .mv 3, .mv 4], .mp 42 (s.nl) (setE (setE (emap pk Life.d s.L) jo (ptrV xb)) (jo) (.pb 52 [.u ((viewJ s.C s.nc s.G s.ng fo e).f.view.id.round), .z ((viewJ s.C s.nc s.G s.ng fo e).f.view.id.server.node), .u ((viewJ s.C s.nc s.G s.ng fo e).f.view.id.server.inc), .ro 2 (procs (viewJ s.C s.nc s.G s.ng fo e).f.view.members), .ro 1 (nums (viewJ s.C s.nc s.G s.ng fo e).f.view.starts), .v (.bool ((viewJ s.C s.nc s.G s.ng fo e).f.on)), .z ((viewJ s.C s.nc s.G s.ng fo e).f.stands), .u ((viewJ s.C s.nc s.G s.ng fo e).f.sent), .em 30 1 (nums (viewJ s.C s.nc s.G s.ng fo e).f.handed)])), .mp 43 (s.ns) (emap mk6 textD s.A), .mp 44 ((viewJ s.C s.nc s.G s.ng fo e).nc) (emap vk Come.d (viewJ s.C s.nc s.G s.ng fo e).C), .mp 45 ((viewJ s.C s.nc s.G s.ng fo e).ng) (emap sk goneD (viewJ s.C s.nc s.G s.ng fo e).G), .bx 40 [.z e.kind, .z e.who.node, .u e.who.inc, .z e.frm.node, .u e.frm.inc, .u e.n, .d (.ro 1 (bytesR e.body)), .u e.view.id.round, .z e.view.id.server.node, .u e.view.id.server.inc, .d (.ro 2 (procs e.view.members)), .d (.ro 1 (nums e.view.starts)), .d (.ro 2 (procs e.transit))], .dead, .dead, .nm 7 xb]) (M2 := [.bx 47 [.mv 1, .mv 2, .mv 3, .mv 4], .mp 42 (s.nl) (emap pk Life.d (setK s.L e.who (viewJ s.C s.nc s.G s.ng fo e).f)), .mp 43 (s.ns) (emap mk6 textD s.A), .mp 44 ((viewJ s.C s.nc s.G s.ng fo e).nc) (emap vk Come.d (viewJ s.C s.nc s.G s.ng fo e).C), .mp 45 ((viewJ s.C s.nc s.G s.ng fo e).ng) (emap sk goneD (viewJ s.C s.nc s.G s.ng fo e).G), .bx 40 [.z e.kind, .z e.who.node, .u e.who.inc, .z e.frm.node, .u e.frm.inc, .u e.n, .d (.ro 1 (bytesR e.body)), .u e.view.id.round, .z e.view.id.server.node, .u e.view.id.server.inc, .d (.ro 2 (procs e.view.members)), .d (.ro 1 (nums e.view.starts)), .d (.ro 2 (procs e.transit))], .dead, .dead, .nm 7 xb]) rfl (by kernel_rfl) (And.intro (by first | rfl | simp) trivial) (fun _ _ _ hM => by cases hM; exact setE_at _ (emap_at hjo)) (by rw [live_fold (f' := (viewJ s.C s.nc s.G s.ng fo e).f) hs.lives.n hjo])
                    refine castM (y := .z ((viewJ s.C s.nc s.G s.ng fo e).err)) (N' := [.bx 47 [.mv 1, .mv 2, .mv 3, .mv 4], .mp 42 (s.nl) (emap pk Life.d (setK s.L e.who (viewJ s.C s.nc s.G s.ng fo e).f)), .mp 43 (s.ns) (emap mk6 textD s.A), .mp 44 ((viewJ s.C s.nc s.G s.ng fo e).nc) (emap vk Come.d (viewJ s.C s.nc s.G s.ng fo e).C), .mp 45 ((viewJ s.C s.nc s.G s.ng fo e).ng) (emap sk goneD (viewJ s.C s.nc s.G s.ng fo e).G)]) ((by rw [nextJl (by omega) hgl (by assumption), lifeJ5 (by omega)])) ((by rw [nextJl (by omega) hgl (by assumption), lifeJ5 (by omega)])) ?_
                    exact toRetM tb_ok mixed_ok hK rfl hbm [] 2000 [0, 1, 2, 3, 4] r (by kernel_rfl) trivial
                  | true =>
                    refine toAtM (todo' := aft Try.f8 16) (E' := [(4, .z ((viewJ s.C s.nc s.G s.ng fo e).err))]) (M' := [.bx 47 [.mv 1, .mv 2, .mv 3, .mv 4], .mp 42 (s.nl) (setE (emap pk Life.d s.L) jo (ptrV xb)), .mp 43 (s.ns) (emap mk6 textD s.A), .mp 44 ((viewJ s.C s.nc s.G s.ng fo e).nc) (emap vk Come.d (viewJ s.C s.nc s.G s.ng fo e).C), .mp 45 ((viewJ s.C s.nc s.G s.ng fo e).ng) (emap sk goneD (viewJ s.C s.nc s.G s.ng fo e).G), .bx 40 [.z e.kind, .z e.who.node, .u e.who.inc, .z e.frm.node, .u e.frm.inc, .u e.n, .d (.ro 1 (bytesR e.body)), .u e.view.id.round, .z e.view.id.server.node, .u e.view.id.server.inc, .d (.ro 2 (procs e.view.members)), .d (.ro 1 (nums e.view.starts)), .d (.ro 2 (procs e.transit))], .dead, .bx 52 [.u ((viewJ s.C s.nc s.G s.ng fo e).f.view.id.round), .z ((viewJ s.C s.nc s.G s.ng fo e).f.view.id.server.node), .u ((viewJ s.C s.nc s.G s.ng fo e).f.view.id.server.inc), .d (.ro 2 (procs (viewJ s.C s.nc s.G s.ng fo e).f.view.members)), .d (.ro 1 (nums (viewJ s.C s.nc s.G s.ng fo e).f.view.starts)), .d (.v (.bool ((viewJ s.C s.nc s.G s.ng fo e).f.on))), .z ((viewJ s.C s.nc s.G s.ng fo e).f.stands), .u ((viewJ s.C s.nc s.G s.ng fo e).f.sent), .sl 9 ((viewJ s.C s.nc s.G s.ng fo e).f.handed.length)], .nm 7 xb, .rw 30 1 (nums (viewJ s.C s.nc s.G s.ng fo e).f.handed)]) tb_ok mixed_ok hK hbm [(7, [(0, .b false)]), (9, [(0, .b false)]), (11, [(0, .b false)]), (13, [(0, .b false)]), (15, [(0, .b true)]), (16, [(3, .mem [0, 1, 2, 3, 4, 7, 6] (.z ((viewJ s.C s.nc s.G s.ng fo e).err)) [.bx 47 [.mv 1, .mv 2, .mv 3, .mv 4], .mp 42 (s.nl) (setE (emap pk Life.d s.L) jo (ptrV xb)), .mp 43 (s.ns) (emap mk6 textD s.A), .mp 44 ((viewJ s.C s.nc s.G s.ng fo e).nc) (emap vk Come.d (viewJ s.C s.nc s.G s.ng fo e).C), .mp 45 ((viewJ s.C s.nc s.G s.ng fo e).ng) (emap sk goneD (viewJ s.C s.nc s.G s.ng fo e).G), .bx 52 [.u ((viewJ s.C s.nc s.G s.ng fo e).f.view.id.round), .z ((viewJ s.C s.nc s.G s.ng fo e).f.view.id.server.node), .u ((viewJ s.C s.nc s.G s.ng fo e).f.view.id.server.inc), .d (.ro 2 (procs (viewJ s.C s.nc s.G s.ng fo e).f.view.members)), .d (.ro 1 (nums (viewJ s.C s.nc s.G s.ng fo e).f.view.starts)), .d (.v (.bool ((viewJ s.C s.nc s.G s.ng fo e).f.on))), .z ((viewJ s.C s.nc s.G s.ng fo e).f.stands), .u ((viewJ s.C s.nc s.G s.ng fo e).f.sent), .sl 7 ((viewJ s.C s.nc s.G s.ng fo e).f.handed.length)], .dead, .rw 30 1 (nums (viewJ s.C s.nc s.G s.ng fo e).f.handed)])])] 23 [0, 1, 2, 3, 4, 5, 6, 7, 8, 9] [4] r (by kernel_rfl) (an h4 (an h5 (an h6 (an h7 (an h8 (an ((by have k := viewOk (setE (emap pk Life.d s.L) jo (ptrV xb)) (emap mk6 textD s.A) s.nl s.ns s.C s.nc s.G s.ng fo e ho hs.came hs.gone hfo; rw [h10] at k; exact k) : ConM Try.prog 13 [.pt 0 0, .pt 5 0, .ag [.z e.kind, .z e.who.node, .u e.who.inc, .z e.frm.node, .u e.frm.inc, .u e.n, .d (.ro 1 (bytesR e.body)), .u e.view.id.round, .z e.view.id.server.node, .u e.view.id.server.inc, .d (.ro 2 (procs e.view.members)), .d (.ro 1 (nums e.view.starts)), .d (.ro 2 (procs e.transit))]] [.bx 47 [.mv 1, .mv 2, .mv 3, .mv 4], .mp 42 (s.nl) (setE (emap pk Life.d s.L) jo (ptrV xb)), .mp 43 (s.ns) (emap mk6 textD s.A), .mp 44 (s.nc) (emap vk Come.d s.C), .mp 45 (s.ng) (emap sk goneD s.G), .bx 52 [.u fo.view.id.round, .z fo.view.id.server.node, .u fo.view.id.server.inc, .d (.ro 2 (procs fo.view.members)), .d (.ro 1 (nums fo.view.starts)), .d (.v (.bool (fo.on))), .z fo.stands, .u fo.sent, .sl 6 (fo.handed.length)], .rw 30 1 (nums fo.handed)] (.z ((viewJ s.C s.nc s.G s.ng fo e).err)) [.bx 47 [.mv 1, .mv 2, .mv 3, .mv 4], .mp 42 (s.nl) (setE (emap pk Life.d s.L) jo (ptrV xb)), .mp 43 (s.ns) (emap mk6 textD s.A), .mp 44 ((viewJ s.C s.nc s.G s.ng fo e).nc) (emap vk Come.d (viewJ s.C s.nc s.G s.ng fo e).C), .mp 45 ((viewJ s.C s.nc s.G s.ng fo e).ng) (emap sk goneD (viewJ s.C s.nc s.G s.ng fo e).G), .bx 52 [.u ((viewJ s.C s.nc s.G s.ng fo e).f.view.id.round), .z ((viewJ s.C s.nc s.G s.ng fo e).f.view.id.server.node), .u ((viewJ s.C s.nc s.G s.ng fo e).f.view.id.server.inc), .d (.ro 2 (procs (viewJ s.C s.nc s.G s.ng fo e).f.view.members)), .d (.ro 1 (nums (viewJ s.C s.nc s.G s.ng fo e).f.view.starts)), .d (.v (.bool ((viewJ s.C s.nc s.G s.ng fo e).f.on))), .z ((viewJ s.C s.nc s.G s.ng fo e).f.stands), .u ((viewJ s.C s.nc s.G s.ng fo e).f.sent), .sl 7 ((viewJ s.C s.nc s.G s.ng fo e).f.handed.length)], .dead, .rw 30 1 (nums (viewJ s.C s.nc s.G s.ng fo e).f.handed)]) trivial)))))) fun ac wd r => ?_
                    have r := r.foldM (u := 7) (v := 8) (m := 1) (j := jo) (vc := [((viewJ s.C s.nc s.G s.ng fo e).f.handed.length) = (nums (viewJ s.C s.nc s.G s.ng fo e).f.handed : List (List DV)).length]) (M1 := [.bx 47 [.mv 1, .mv 2, .mv 3, .mv 4], .mp 42 (s.nl) (setE (setE (emap pk Life.d s.L) jo (ptrV xb)) (jo) (.pb 52 [.u ((viewJ s.C s.nc s.G s.ng fo e).f.view.id.round), .z ((viewJ s.C s.nc s.G s.ng fo e).f.view.id.server.node), .u ((viewJ s.C s.nc s.G s.ng fo e).f.view.id.server.inc), .ro 2 (procs (viewJ s.C s.nc s.G s.ng fo e).f.view.members), .ro 1 (nums (viewJ s.C s.nc s.G s.ng fo e).f.view.starts), .v (.bool ((viewJ s.C s.nc s.G s.ng fo e).f.on)), .z ((viewJ s.C s.nc s.G s.ng fo e).f.stands), .u ((viewJ s.C s.nc s.G s.ng fo e).f.sent), .em 30 1 (nums (viewJ s.C s.nc s.G s.ng fo e).f.handed)])), .mp 43 (s.ns) (emap mk6 textD s.A), .mp 44 ((viewJ s.C s.nc s.G s.ng fo e).nc) (emap vk Come.d (viewJ s.C s.nc s.G s.ng fo e).C), .mp 45 ((viewJ s.C s.nc s.G s.ng fo e).ng) (emap sk goneD (viewJ s.C s.nc s.G s.ng fo e).G), .bx 40 [.z e.kind, .z e.who.node, .u e.who.inc, .z e.frm.node, .u e.frm.inc, .u e.n, .d (.ro 1 (bytesR e.body)), .u e.view.id.round, .z e.view.id.server.node, .u e.view.id.server.inc, .d (.ro 2 (procs e.view.members)), .d (.ro 1 (nums e.view.starts)), .d (.ro 2 (procs e.transit))], .dead, .dead, .nm 7 xb, .dead]) (M2 := [.bx 47 [.mv 1, .mv 2, .mv 3, .mv 4], .mp 42 (s.nl) (emap pk Life.d (setK s.L e.who (viewJ s.C s.nc s.G s.ng fo e).f)), .mp 43 (s.ns) (emap mk6 textD s.A), .mp 44 ((viewJ s.C s.nc s.G s.ng fo e).nc) (emap vk Come.d (viewJ s.C s.nc s.G s.ng fo e).C), .mp 45 ((viewJ s.C s.nc s.G s.ng fo e).ng) (emap sk goneD (viewJ s.C s.nc s.G s.ng fo e).G), .bx 40 [.z e.kind, .z e.who.node, .u e.who.inc, .z e.frm.node, .u e.frm.inc, .u e.n, .d (.ro 1 (bytesR e.body)), .u e.view.id.round, .z e.view.id.server.node, .u e.view.id.server.inc, .d (.ro 2 (procs e.view.members)), .d (.ro 1 (nums e.view.starts)), .d (.ro 2 (procs e.transit))], .dead, .dead, .nm 7 xb, .dead]) rfl (by kernel_rfl) (And.intro (by first | rfl | simp) trivial) (fun _ _ _ hM => by cases hM; exact setE_at _ (emap_at hjo)) (by rw [live_fold (f' := (viewJ s.C s.nc s.G s.ng fo e).f) hs.lives.n hjo])
                    refine castM (y := .z ((viewJ s.C s.nc s.G s.ng fo e).err)) (N' := [.bx 47 [.mv 1, .mv 2, .mv 3, .mv 4], .mp 42 (s.nl) (emap pk Life.d (setK s.L e.who (viewJ s.C s.nc s.G s.ng fo e).f)), .mp 43 (s.ns) (emap mk6 textD s.A), .mp 44 ((viewJ s.C s.nc s.G s.ng fo e).nc) (emap vk Come.d (viewJ s.C s.nc s.G s.ng fo e).C), .mp 45 ((viewJ s.C s.nc s.G s.ng fo e).ng) (emap sk goneD (viewJ s.C s.nc s.G s.ng fo e).G)]) ((by rw [nextJl (by omega) hgl (by assumption), lifeJ5 (by omega)])) ((by rw [nextJl (by omega) hgl (by assumption), lifeJ5 (by omega)])) ?_
                    exact toRetM tb_ok mixed_ok hK rfl hbm [] 2000 [0, 1, 2, 3, 4] r (by kernel_rfl) trivial
              | true =>
                have qh7 := eq_of_beq h7
                cases h11 : ((fo.stands : Int) != 1) with
                | false =>
                  have qh11 := eq_of_bne h11
                  refine toAtM (todo' := aft Try.f8 14) (E' := [(4, .z 0)]) (M' := [.bx 47 [.mv 1, .mv 2, .mv 3, .mv 4], .mp 42 (s.nl) (setE (emap pk Life.d s.L) jo (ptrV xb)), .mp 43 (s.ns) (emap mk6 textD s.A), .mp 44 (s.nc) (emap vk Come.d s.C), .mp 45 (s.ng) (emap sk goneD s.G), .bx 40 [.z e.kind, .z e.who.node, .u e.who.inc, .z e.frm.node, .u e.frm.inc, .u e.n, .d (.ro 1 (bytesR e.body)), .u e.view.id.round, .z e.view.id.server.node, .u e.view.id.server.inc, .d (.ro 2 (procs e.view.members)), .d (.ro 1 (nums e.view.starts)), .d (.ro 2 (procs e.transit))], .rw 30 1 (nums fo.handed), .bx 52 [.u fo.view.id.round, .z fo.view.id.server.node, .u fo.view.id.server.inc, .d (.ro 2 (procs fo.view.members)), .d (.ro 1 (nums fo.view.starts)), .d (.v (.bool (fo.on))), .z 2, .u fo.sent, .sl 6 (fo.handed.length)], .nm 7 xb]) tb_ok mixed_ok hK hbm [(7, [(0, .b false)]), (9, [(0, .b false)]), (11, [(0, .b false)]), (13, [(0, .b true)]), (14, [(1, .into 200 [(1, [(5, .b false)])])])] 20 [0, 1, 2, 3, 4, 5, 6, 7, 8] [4] r (by kernel_rfl) (an h4 (an h5 (an h6 (an h7 (an h11 trivial))))) fun ac wd r => ?_
                  have r := r.foldM (u := 7) (v := 8) (m := 1) (j := jo) (vc := [(fo.handed.length) = (nums fo.handed : List (List DV)).length]) (M1 := [.bx 47 [.mv 1, .mv 2, .mv 3, .mv 4], .mp 42 (s.nl) (setE (setE (emap pk Life.d s.L) jo (ptrV xb)) (jo) (.pb 52 [.u fo.view.id.round, .z fo.view.id.server.node, .u fo.view.id.server.inc, .ro 2 (procs fo.view.members), .ro 1 (nums fo.view.starts), .v (.bool (fo.on)), .z 2, .u fo.sent, .em 30 1 (nums fo.handed)])), .mp 43 (s.ns) (emap mk6 textD s.A), .mp 44 (s.nc) (emap vk Come.d s.C), .mp 45 (s.ng) (emap sk goneD s.G), .bx 40 [.z e.kind, .z e.who.node, .u e.who.inc, .z e.frm.node, .u e.frm.inc, .u e.n, .d (.ro 1 (bytesR e.body)), .u e.view.id.round, .z e.view.id.server.node, .u e.view.id.server.inc, .d (.ro 2 (procs e.view.members)), .d (.ro 1 (nums e.view.starts)), .d (.ro 2 (procs e.transit))], .dead, .dead, .nm 7 xb]) (M2 := [.bx 47 [.mv 1, .mv 2, .mv 3, .mv 4], .mp 42 (s.nl) (emap pk Life.d (setK s.L e.who ({ fo with stands := 2 } : Life))), .mp 43 (s.ns) (emap mk6 textD s.A), .mp 44 (s.nc) (emap vk Come.d s.C), .mp 45 (s.ng) (emap sk goneD s.G), .bx 40 [.z e.kind, .z e.who.node, .u e.who.inc, .z e.frm.node, .u e.frm.inc, .u e.n, .d (.ro 1 (bytesR e.body)), .u e.view.id.round, .z e.view.id.server.node, .u e.view.id.server.inc, .d (.ro 2 (procs e.view.members)), .d (.ro 1 (nums e.view.starts)), .d (.ro 2 (procs e.transit))], .dead, .dead, .nm 7 xb]) rfl (by kernel_rfl) (And.intro (by first | rfl | simp) trivial) (fun _ _ _ hM => by cases hM; exact setE_at _ (emap_at hjo)) (by rw [live_fold (f' := ({ fo with stands := 2 } : Life)) hs.lives.n hjo])
                  refine castM (y := .z 0) (N' := [.bx 47 [.mv 1, .mv 2, .mv 3, .mv 4], .mp 42 (s.nl) (emap pk Life.d (setK s.L e.who ({ fo with stands := 2 } : Life))), .mp 43 (s.ns) (emap mk6 textD s.A), .mp 44 (s.nc) (emap vk Come.d s.C), .mp 45 (s.ng) (emap sk goneD s.G)]) ((by rw [nextJl (by omega) hgl (by assumption), lifeJ4 (by omega), turn_yes (by omega)])) ((by rw [nextJl (by omega) hgl (by assumption), lifeJ4 (by omega), turn_yes (by omega)])) ?_
                  exact toRetM tb_ok mixed_ok hK rfl hbm [] 2000 [0, 1, 2, 3, 4] r (by kernel_rfl) trivial
                | true =>
                  have qh11 : ¬ _ = _ := bne_iff_ne.1 h11
                  refine toAtM (todo' := aft Try.f8 14) (E' := [(4, .z 231)]) (M' := [.bx 47 [.mv 1, .mv 2, .mv 3, .mv 4], .mp 42 (s.nl) (setE (emap pk Life.d s.L) jo (ptrV xb)), .mp 43 (s.ns) (emap mk6 textD s.A), .mp 44 (s.nc) (emap vk Come.d s.C), .mp 45 (s.ng) (emap sk goneD s.G), .bx 40 [.z e.kind, .z e.who.node, .u e.who.inc, .z e.frm.node, .u e.frm.inc, .u e.n, .d (.ro 1 (bytesR e.body)), .u e.view.id.round, .z e.view.id.server.node, .u e.view.id.server.inc, .d (.ro 2 (procs e.view.members)), .d (.ro 1 (nums e.view.starts)), .d (.ro 2 (procs e.transit))], .rw 30 1 (nums fo.handed), .bx 52 [.u fo.view.id.round, .z fo.view.id.server.node, .u fo.view.id.server.inc, .d (.ro 2 (procs fo.view.members)), .d (.ro 1 (nums fo.view.starts)), .d (.v (.bool (fo.on))), .z fo.stands, .u fo.sent, .sl 6 (fo.handed.length)], .nm 7 xb]) tb_ok mixed_ok hK hbm [(7, [(0, .b false)]), (9, [(0, .b false)]), (11, [(0, .b false)]), (13, [(0, .b true)]), (14, [(1, .into 200 [(1, [(5, .b true)])])])] 20 [0, 1, 2, 3, 4, 5, 6, 7, 8] [4] r (by kernel_rfl) (an h4 (an h5 (an h6 (an h7 (an h11 trivial))))) fun ac wd r => ?_
                  have r := r.foldM (u := 7) (v := 8) (m := 1) (j := jo) (vc := [(fo.handed.length) = (nums fo.handed : List (List DV)).length]) (M1 := [.bx 47 [.mv 1, .mv 2, .mv 3, .mv 4], .mp 42 (s.nl) (setE (setE (emap pk Life.d s.L) jo (ptrV xb)) (jo) (.pb 52 [.u fo.view.id.round, .z fo.view.id.server.node, .u fo.view.id.server.inc, .ro 2 (procs fo.view.members), .ro 1 (nums fo.view.starts), .v (.bool (fo.on)), .z fo.stands, .u fo.sent, .em 30 1 (nums fo.handed)])), .mp 43 (s.ns) (emap mk6 textD s.A), .mp 44 (s.nc) (emap vk Come.d s.C), .mp 45 (s.ng) (emap sk goneD s.G), .bx 40 [.z e.kind, .z e.who.node, .u e.who.inc, .z e.frm.node, .u e.frm.inc, .u e.n, .d (.ro 1 (bytesR e.body)), .u e.view.id.round, .z e.view.id.server.node, .u e.view.id.server.inc, .d (.ro 2 (procs e.view.members)), .d (.ro 1 (nums e.view.starts)), .d (.ro 2 (procs e.transit))], .dead, .dead, .nm 7 xb]) (M2 := [.bx 47 [.mv 1, .mv 2, .mv 3, .mv 4], .mp 42 (s.nl) (emap pk Life.d (setK s.L e.who fo)), .mp 43 (s.ns) (emap mk6 textD s.A), .mp 44 (s.nc) (emap vk Come.d s.C), .mp 45 (s.ng) (emap sk goneD s.G), .bx 40 [.z e.kind, .z e.who.node, .u e.who.inc, .z e.frm.node, .u e.frm.inc, .u e.n, .d (.ro 1 (bytesR e.body)), .u e.view.id.round, .z e.view.id.server.node, .u e.view.id.server.inc, .d (.ro 2 (procs e.view.members)), .d (.ro 1 (nums e.view.starts)), .d (.ro 2 (procs e.transit))], .dead, .dead, .nm 7 xb]) rfl (by kernel_rfl) (And.intro (by first | rfl | simp) trivial) (fun _ _ _ hM => by cases hM; exact setE_at _ (emap_at hjo)) (by rw [live_fold (f' := fo) hs.lives.n hjo])
                  refine castM (y := .z 231) (N' := [.bx 47 [.mv 1, .mv 2, .mv 3, .mv 4], .mp 42 (s.nl) (emap pk Life.d (setK s.L e.who fo)), .mp 43 (s.ns) (emap mk6 textD s.A), .mp 44 (s.nc) (emap vk Come.d s.C), .mp 45 (s.ng) (emap sk goneD s.G)]) ((by rw [nextJl (by omega) hgl (by assumption), lifeJ4 (by omega), turn_no (by omega)])) ((by rw [nextJl (by omega) hgl (by assumption), lifeJ4 (by omega), turn_no (by omega)])) ?_
                  exact toRetM tb_ok mixed_ok hK rfl hbm [] 2000 [0, 1, 2, 3, 4] r (by kernel_rfl) trivial
            | true =>
              have qh6 := eq_of_beq h6
              cases h12 : ((fo.stands : Int) != 0) with
              | false =>
                have qh12 := eq_of_bne h12
                refine toAtM (todo' := aft Try.f8 12) (E' := [(4, .z 0)]) (M' := [.bx 47 [.mv 1, .mv 2, .mv 3, .mv 4], .mp 42 (s.nl) (setE (emap pk Life.d s.L) jo (ptrV xb)), .mp 43 (s.ns) (emap mk6 textD s.A), .mp 44 (s.nc) (emap vk Come.d s.C), .mp 45 (s.ng) (emap sk goneD s.G), .bx 40 [.z e.kind, .z e.who.node, .u e.who.inc, .z e.frm.node, .u e.frm.inc, .u e.n, .d (.ro 1 (bytesR e.body)), .u e.view.id.round, .z e.view.id.server.node, .u e.view.id.server.inc, .d (.ro 2 (procs e.view.members)), .d (.ro 1 (nums e.view.starts)), .d (.ro 2 (procs e.transit))], .rw 30 1 (nums fo.handed), .bx 52 [.u fo.view.id.round, .z fo.view.id.server.node, .u fo.view.id.server.inc, .d (.ro 2 (procs fo.view.members)), .d (.ro 1 (nums fo.view.starts)), .d (.v (.bool (fo.on))), .z 1, .u fo.sent, .sl 6 (fo.handed.length)], .nm 7 xb]) tb_ok mixed_ok hK hbm [(7, [(0, .b false)]), (9, [(0, .b false)]), (11, [(0, .b true)]), (12, [(1, .into 200 [(1, [(5, .b false)])])])] 17 [0, 1, 2, 3, 4, 5, 6, 7, 8] [4] r (by kernel_rfl) (an h4 (an h5 (an h6 (an h12 trivial)))) fun ac wd r => ?_
                have r := r.foldM (u := 7) (v := 8) (m := 1) (j := jo) (vc := [(fo.handed.length) = (nums fo.handed : List (List DV)).length]) (M1 := [.bx 47 [.mv 1, .mv 2, .mv 3, .mv 4], .mp 42 (s.nl) (setE (setE (emap pk Life.d s.L) jo (ptrV xb)) (jo) (.pb 52 [.u fo.view.id.round, .z fo.view.id.server.node, .u fo.view.id.server.inc, .ro 2 (procs fo.view.members), .ro 1 (nums fo.view.starts), .v (.bool (fo.on)), .z 1, .u fo.sent, .em 30 1 (nums fo.handed)])), .mp 43 (s.ns) (emap mk6 textD s.A), .mp 44 (s.nc) (emap vk Come.d s.C), .mp 45 (s.ng) (emap sk goneD s.G), .bx 40 [.z e.kind, .z e.who.node, .u e.who.inc, .z e.frm.node, .u e.frm.inc, .u e.n, .d (.ro 1 (bytesR e.body)), .u e.view.id.round, .z e.view.id.server.node, .u e.view.id.server.inc, .d (.ro 2 (procs e.view.members)), .d (.ro 1 (nums e.view.starts)), .d (.ro 2 (procs e.transit))], .dead, .dead, .nm 7 xb]) (M2 := [.bx 47 [.mv 1, .mv 2, .mv 3, .mv 4], .mp 42 (s.nl) (emap pk Life.d (setK s.L e.who ({ fo with stands := 1 } : Life))), .mp 43 (s.ns) (emap mk6 textD s.A), .mp 44 (s.nc) (emap vk Come.d s.C), .mp 45 (s.ng) (emap sk goneD s.G), .bx 40 [.z e.kind, .z e.who.node, .u e.who.inc, .z e.frm.node, .u e.frm.inc, .u e.n, .d (.ro 1 (bytesR e.body)), .u e.view.id.round, .z e.view.id.server.node, .u e.view.id.server.inc, .d (.ro 2 (procs e.view.members)), .d (.ro 1 (nums e.view.starts)), .d (.ro 2 (procs e.transit))], .dead, .dead, .nm 7 xb]) rfl (by kernel_rfl) (And.intro (by first | rfl | simp) trivial) (fun _ _ _ hM => by cases hM; exact setE_at _ (emap_at hjo)) (by rw [live_fold (f' := ({ fo with stands := 1 } : Life)) hs.lives.n hjo])
                refine castM (y := .z 0) (N' := [.bx 47 [.mv 1, .mv 2, .mv 3, .mv 4], .mp 42 (s.nl) (emap pk Life.d (setK s.L e.who ({ fo with stands := 1 } : Life))), .mp 43 (s.ns) (emap mk6 textD s.A), .mp 44 (s.nc) (emap vk Come.d s.C), .mp 45 (s.ng) (emap sk goneD s.G)]) ((by rw [nextJl (by omega) hgl (by assumption), lifeJ3 (by omega), turn_yes (by omega)])) ((by rw [nextJl (by omega) hgl (by assumption), lifeJ3 (by omega), turn_yes (by omega)])) ?_
                exact toRetM tb_ok mixed_ok hK rfl hbm [] 2000 [0, 1, 2, 3, 4] r (by kernel_rfl) trivial
              | true =>
                have qh12 : ¬ _ = _ := bne_iff_ne.1 h12
                refine toAtM (todo' := aft Try.f8 12) (E' := [(4, .z 231)]) (M' := [.bx 47 [.mv 1, .mv 2, .mv 3, .mv 4], .mp 42 (s.nl) (setE (emap pk Life.d s.L) jo (ptrV xb)), .mp 43 (s.ns) (emap mk6 textD s.A), .mp 44 (s.nc) (emap vk Come.d s.C), .mp 45 (s.ng) (emap sk goneD s.G), .bx 40 [.z e.kind, .z e.who.node, .u e.who.inc, .z e.frm.node, .u e.frm.inc, .u e.n, .d (.ro 1 (bytesR e.body)), .u e.view.id.round, .z e.view.id.server.node, .u e.view.id.server.inc, .d (.ro 2 (procs e.view.members)), .d (.ro 1 (nums e.view.starts)), .d (.ro 2 (procs e.transit))], .rw 30 1 (nums fo.handed), .bx 52 [.u fo.view.id.round, .z fo.view.id.server.node, .u fo.view.id.server.inc, .d (.ro 2 (procs fo.view.members)), .d (.ro 1 (nums fo.view.starts)), .d (.v (.bool (fo.on))), .z fo.stands, .u fo.sent, .sl 6 (fo.handed.length)], .nm 7 xb]) tb_ok mixed_ok hK hbm [(7, [(0, .b false)]), (9, [(0, .b false)]), (11, [(0, .b true)]), (12, [(1, .into 200 [(1, [(5, .b true)])])])] 17 [0, 1, 2, 3, 4, 5, 6, 7, 8] [4] r (by kernel_rfl) (an h4 (an h5 (an h6 (an h12 trivial)))) fun ac wd r => ?_
                have r := r.foldM (u := 7) (v := 8) (m := 1) (j := jo) (vc := [(fo.handed.length) = (nums fo.handed : List (List DV)).length]) (M1 := [.bx 47 [.mv 1, .mv 2, .mv 3, .mv 4], .mp 42 (s.nl) (setE (setE (emap pk Life.d s.L) jo (ptrV xb)) (jo) (.pb 52 [.u fo.view.id.round, .z fo.view.id.server.node, .u fo.view.id.server.inc, .ro 2 (procs fo.view.members), .ro 1 (nums fo.view.starts), .v (.bool (fo.on)), .z fo.stands, .u fo.sent, .em 30 1 (nums fo.handed)])), .mp 43 (s.ns) (emap mk6 textD s.A), .mp 44 (s.nc) (emap vk Come.d s.C), .mp 45 (s.ng) (emap sk goneD s.G), .bx 40 [.z e.kind, .z e.who.node, .u e.who.inc, .z e.frm.node, .u e.frm.inc, .u e.n, .d (.ro 1 (bytesR e.body)), .u e.view.id.round, .z e.view.id.server.node, .u e.view.id.server.inc, .d (.ro 2 (procs e.view.members)), .d (.ro 1 (nums e.view.starts)), .d (.ro 2 (procs e.transit))], .dead, .dead, .nm 7 xb]) (M2 := [.bx 47 [.mv 1, .mv 2, .mv 3, .mv 4], .mp 42 (s.nl) (emap pk Life.d (setK s.L e.who fo)), .mp 43 (s.ns) (emap mk6 textD s.A), .mp 44 (s.nc) (emap vk Come.d s.C), .mp 45 (s.ng) (emap sk goneD s.G), .bx 40 [.z e.kind, .z e.who.node, .u e.who.inc, .z e.frm.node, .u e.frm.inc, .u e.n, .d (.ro 1 (bytesR e.body)), .u e.view.id.round, .z e.view.id.server.node, .u e.view.id.server.inc, .d (.ro 2 (procs e.view.members)), .d (.ro 1 (nums e.view.starts)), .d (.ro 2 (procs e.transit))], .dead, .dead, .nm 7 xb]) rfl (by kernel_rfl) (And.intro (by first | rfl | simp) trivial) (fun _ _ _ hM => by cases hM; exact setE_at _ (emap_at hjo)) (by rw [live_fold (f' := fo) hs.lives.n hjo])
                refine castM (y := .z 231) (N' := [.bx 47 [.mv 1, .mv 2, .mv 3, .mv 4], .mp 42 (s.nl) (emap pk Life.d (setK s.L e.who fo)), .mp 43 (s.ns) (emap mk6 textD s.A), .mp 44 (s.nc) (emap vk Come.d s.C), .mp 45 (s.ng) (emap sk goneD s.G)]) ((by rw [nextJl (by omega) hgl (by assumption), lifeJ3 (by omega), turn_no (by omega)])) ((by rw [nextJl (by omega) hgl (by assumption), lifeJ3 (by omega), turn_no (by omega)])) ?_
                exact toRetM tb_ok mixed_ok hK rfl hbm [] 2000 [0, 1, 2, 3, 4] r (by kernel_rfl) trivial
          | true =>
            have qh5 := eq_of_beq h5
            refine toAtM (todo' := aft Try.f8 10) (E' := [(4, .z ((deliverJ s.A fo e).err))]) (M' := [.bx 47 [.mv 1, .mv 2, .mv 3, .mv 4], .mp 42 (s.nl) (setE (emap pk Life.d s.L) jo (ptrV xb)), .mp 43 (s.ns) (emap mk6 textD s.A), .mp 44 (s.nc) (emap vk Come.d s.C), .mp 45 (s.ng) (emap sk goneD s.G), .bx 40 [.z e.kind, .z e.who.node, .u e.who.inc, .z e.frm.node, .u e.frm.inc, .u e.n, .d (.ro 1 (bytesR e.body)), .u e.view.id.round, .z e.view.id.server.node, .u e.view.id.server.inc, .d (.ro 2 (procs e.view.members)), .d (.ro 1 (nums e.view.starts)), .d (.ro 2 (procs e.transit))], .rw 30 1 (nums (deliverJ s.A fo e).f.handed), .bx 52 [.u ((deliverJ s.A fo e).f.view.id.round), .z ((deliverJ s.A fo e).f.view.id.server.node), .u ((deliverJ s.A fo e).f.view.id.server.inc), .d (.ro 2 (procs (deliverJ s.A fo e).f.view.members)), .d (.ro 1 (nums (deliverJ s.A fo e).f.view.starts)), .d (.v (.bool ((deliverJ s.A fo e).f.on))), .z ((deliverJ s.A fo e).f.stands), .u ((deliverJ s.A fo e).f.sent), .sl 6 ((deliverJ s.A fo e).f.handed.length)], .nm 7 xb]) tb_ok mixed_ok hK hbm [(7, [(0, .b false)]), (9, [(0, .b true)]), (10, [(3, .mem [0, 1, 2, 3, 4, 7, 6] (.z ((deliverJ s.A fo e).err)) [.bx 47 [.mv 1, .mv 2, .mv 3, .mv 4], .mp 42 (s.nl) (setE (emap pk Life.d s.L) jo (ptrV xb)), .mp 43 (s.ns) (emap mk6 textD s.A), .mp 44 (s.nc) (emap vk Come.d s.C), .mp 45 (s.ng) (emap sk goneD s.G), .bx 52 [.u ((deliverJ s.A fo e).f.view.id.round), .z ((deliverJ s.A fo e).f.view.id.server.node), .u ((deliverJ s.A fo e).f.view.id.server.inc), .d (.ro 2 (procs (deliverJ s.A fo e).f.view.members)), .d (.ro 1 (nums (deliverJ s.A fo e).f.view.starts)), .d (.v (.bool ((deliverJ s.A fo e).f.on))), .z ((deliverJ s.A fo e).f.stands), .u ((deliverJ s.A fo e).f.sent), .sl 6 ((deliverJ s.A fo e).f.handed.length)], .rw 30 1 (nums (deliverJ s.A fo e).f.handed)])])] 14 [0, 1, 2, 3, 4, 5, 6, 7, 8] [4] r (by kernel_rfl) (an h4 (an h5 (an ((by have k := deliverOk (setE (emap pk Life.d s.L) jo (ptrV xb)) (emap vk Come.d s.C) (emap sk goneD s.G) s.nl s.nc s.ng s.A s.ns fo e ho hs.sent hfo.vid (View.may_bounded hfo.may) hfo.len; exact k) : ConM Try.prog 11 [.pt 0 0, .pt 5 0, .ag [.z e.kind, .z e.who.node, .u e.who.inc, .z e.frm.node, .u e.frm.inc, .u e.n, .d (.ro 1 (bytesR e.body)), .u e.view.id.round, .z e.view.id.server.node, .u e.view.id.server.inc, .d (.ro 2 (procs e.view.members)), .d (.ro 1 (nums e.view.starts)), .d (.ro 2 (procs e.transit))]] [.bx 47 [.mv 1, .mv 2, .mv 3, .mv 4], .mp 42 (s.nl) (setE (emap pk Life.d s.L) jo (ptrV xb)), .mp 43 (s.ns) (emap mk6 textD s.A), .mp 44 (s.nc) (emap vk Come.d s.C), .mp 45 (s.ng) (emap sk goneD s.G), .bx 52 [.u fo.view.id.round, .z fo.view.id.server.node, .u fo.view.id.server.inc, .d (.ro 2 (procs fo.view.members)), .d (.ro 1 (nums fo.view.starts)), .d (.v (.bool (fo.on))), .z fo.stands, .u fo.sent, .sl 6 (fo.handed.length)], .rw 30 1 (nums fo.handed)] (.z ((deliverJ s.A fo e).err)) [.bx 47 [.mv 1, .mv 2, .mv 3, .mv 4], .mp 42 (s.nl) (setE (emap pk Life.d s.L) jo (ptrV xb)), .mp 43 (s.ns) (emap mk6 textD s.A), .mp 44 (s.nc) (emap vk Come.d s.C), .mp 45 (s.ng) (emap sk goneD s.G), .bx 52 [.u ((deliverJ s.A fo e).f.view.id.round), .z ((deliverJ s.A fo e).f.view.id.server.node), .u ((deliverJ s.A fo e).f.view.id.server.inc), .d (.ro 2 (procs (deliverJ s.A fo e).f.view.members)), .d (.ro 1 (nums (deliverJ s.A fo e).f.view.starts)), .d (.v (.bool ((deliverJ s.A fo e).f.on))), .z ((deliverJ s.A fo e).f.stands), .u ((deliverJ s.A fo e).f.sent), .sl 6 ((deliverJ s.A fo e).f.handed.length)], .rw 30 1 (nums (deliverJ s.A fo e).f.handed)]) trivial))) fun ac wd r => ?_
            have r := r.foldM (u := 7) (v := 8) (m := 1) (j := jo) (vc := [((deliverJ s.A fo e).f.handed.length) = (nums (deliverJ s.A fo e).f.handed : List (List DV)).length]) (M1 := [.bx 47 [.mv 1, .mv 2, .mv 3, .mv 4], .mp 42 (s.nl) (setE (setE (emap pk Life.d s.L) jo (ptrV xb)) (jo) (.pb 52 [.u ((deliverJ s.A fo e).f.view.id.round), .z ((deliverJ s.A fo e).f.view.id.server.node), .u ((deliverJ s.A fo e).f.view.id.server.inc), .ro 2 (procs (deliverJ s.A fo e).f.view.members), .ro 1 (nums (deliverJ s.A fo e).f.view.starts), .v (.bool ((deliverJ s.A fo e).f.on)), .z ((deliverJ s.A fo e).f.stands), .u ((deliverJ s.A fo e).f.sent), .em 30 1 (nums (deliverJ s.A fo e).f.handed)])), .mp 43 (s.ns) (emap mk6 textD s.A), .mp 44 (s.nc) (emap vk Come.d s.C), .mp 45 (s.ng) (emap sk goneD s.G), .bx 40 [.z e.kind, .z e.who.node, .u e.who.inc, .z e.frm.node, .u e.frm.inc, .u e.n, .d (.ro 1 (bytesR e.body)), .u e.view.id.round, .z e.view.id.server.node, .u e.view.id.server.inc, .d (.ro 2 (procs e.view.members)), .d (.ro 1 (nums e.view.starts)), .d (.ro 2 (procs e.transit))], .dead, .dead, .nm 7 xb]) (M2 := [.bx 47 [.mv 1, .mv 2, .mv 3, .mv 4], .mp 42 (s.nl) (emap pk Life.d (setK s.L e.who (deliverJ s.A fo e).f)), .mp 43 (s.ns) (emap mk6 textD s.A), .mp 44 (s.nc) (emap vk Come.d s.C), .mp 45 (s.ng) (emap sk goneD s.G), .bx 40 [.z e.kind, .z e.who.node, .u e.who.inc, .z e.frm.node, .u e.frm.inc, .u e.n, .d (.ro 1 (bytesR e.body)), .u e.view.id.round, .z e.view.id.server.node, .u e.view.id.server.inc, .d (.ro 2 (procs e.view.members)), .d (.ro 1 (nums e.view.starts)), .d (.ro 2 (procs e.transit))], .dead, .dead, .nm 7 xb]) rfl (by kernel_rfl) (And.intro (by first | rfl | simp) trivial) (fun _ _ _ hM => by cases hM; exact setE_at _ (emap_at hjo)) (by rw [live_fold (f' := (deliverJ s.A fo e).f) hs.lives.n hjo])
            refine castM (y := .z ((deliverJ s.A fo e).err)) (N' := [.bx 47 [.mv 1, .mv 2, .mv 3, .mv 4], .mp 42 (s.nl) (emap pk Life.d (setK s.L e.who (deliverJ s.A fo e).f)), .mp 43 (s.ns) (emap mk6 textD s.A), .mp 44 (s.nc) (emap vk Come.d s.C), .mp 45 (s.ng) (emap sk goneD s.G)]) ((by rw [nextJl (by omega) hgl (by assumption), lifeJ2 (by omega)])) ((by rw [nextJl (by omega) hgl (by assumption), lifeJ2 (by omega)])) ?_
            exact toRetM tb_ok mixed_ok hK rfl hbm [] 2000 [0, 1, 2, 3, 4] r (by kernel_rfl) trivial
        | true =>
          have qh4 := eq_of_beq h4
          refine toAtM (todo' := aft Try.f8 8) (E' := [(4, .z ((sendJ s.A s.ns fo e).err))]) (M' := [.bx 47 [.mv 1, .mv 2, .mv 3, .mv 4], .mp 42 (s.nl) (setE (emap pk Life.d s.L) jo (ptrV xb)), .mp 43 ((sendJ s.A s.ns fo e).ns) (emap mk6 textD (sendJ s.A s.ns fo e).A), .mp 44 (s.nc) (emap vk Come.d s.C), .mp 45 (s.ng) (emap sk goneD s.G), .bx 40 [.z e.kind, .z e.who.node, .u e.who.inc, .z e.frm.node, .u e.frm.inc, .u e.n, .d (.ro 1 (bytesR e.body)), .u e.view.id.round, .z e.view.id.server.node, .u e.view.id.server.inc, .d (.ro 2 (procs e.view.members)), .d (.ro 1 (nums e.view.starts)), .d (.ro 2 (procs e.transit))], .rw 30 1 (nums (sendJ s.A s.ns fo e).f.handed), .bx 52 [.u ((sendJ s.A s.ns fo e).f.view.id.round), .z ((sendJ s.A s.ns fo e).f.view.id.server.node), .u ((sendJ s.A s.ns fo e).f.view.id.server.inc), .d (.ro 2 (procs (sendJ s.A s.ns fo e).f.view.members)), .d (.ro 1 (nums (sendJ s.A s.ns fo e).f.view.starts)), .d (.v (.bool ((sendJ s.A s.ns fo e).f.on))), .z ((sendJ s.A s.ns fo e).f.stands), .u ((sendJ s.A s.ns fo e).f.sent), .sl 6 ((sendJ s.A s.ns fo e).f.handed.length)], .nm 7 xb]) tb_ok mixed_ok hK hbm [(7, [(0, .b true)]), (8, [(3, .mem [0, 1, 2, 3, 4, 7, 6] (.z ((sendJ s.A s.ns fo e).err)) [.bx 47 [.mv 1, .mv 2, .mv 3, .mv 4], .mp 42 (s.nl) (setE (emap pk Life.d s.L) jo (ptrV xb)), .mp 43 ((sendJ s.A s.ns fo e).ns) (emap mk6 textD (sendJ s.A s.ns fo e).A), .mp 44 (s.nc) (emap vk Come.d s.C), .mp 45 (s.ng) (emap sk goneD s.G), .bx 52 [.u ((sendJ s.A s.ns fo e).f.view.id.round), .z ((sendJ s.A s.ns fo e).f.view.id.server.node), .u ((sendJ s.A s.ns fo e).f.view.id.server.inc), .d (.ro 2 (procs (sendJ s.A s.ns fo e).f.view.members)), .d (.ro 1 (nums (sendJ s.A s.ns fo e).f.view.starts)), .d (.v (.bool ((sendJ s.A s.ns fo e).f.on))), .z ((sendJ s.A s.ns fo e).f.stands), .u ((sendJ s.A s.ns fo e).f.sent), .sl 6 ((sendJ s.A s.ns fo e).f.handed.length)], .rw 30 1 (nums (sendJ s.A s.ns fo e).f.handed)])])] 11 [0, 1, 2, 3, 4, 5, 6, 7, 8] [4] r (by kernel_rfl) (an h4 (an ((by have k := sendOk (setE (emap pk Life.d s.L) jo (ptrV xb)) (emap vk Come.d s.C) (emap sk goneD s.G) s.nl s.nc s.ng s.A s.ns fo e ho hs.sent hfo.vid; exact k) : ConM Try.prog 10 [.pt 0 0, .pt 5 0, .ag [.z e.kind, .z e.who.node, .u e.who.inc, .z e.frm.node, .u e.frm.inc, .u e.n, .d (.ro 1 (bytesR e.body)), .u e.view.id.round, .z e.view.id.server.node, .u e.view.id.server.inc, .d (.ro 2 (procs e.view.members)), .d (.ro 1 (nums e.view.starts)), .d (.ro 2 (procs e.transit))]] [.bx 47 [.mv 1, .mv 2, .mv 3, .mv 4], .mp 42 (s.nl) (setE (emap pk Life.d s.L) jo (ptrV xb)), .mp 43 (s.ns) (emap mk6 textD s.A), .mp 44 (s.nc) (emap vk Come.d s.C), .mp 45 (s.ng) (emap sk goneD s.G), .bx 52 [.u fo.view.id.round, .z fo.view.id.server.node, .u fo.view.id.server.inc, .d (.ro 2 (procs fo.view.members)), .d (.ro 1 (nums fo.view.starts)), .d (.v (.bool (fo.on))), .z fo.stands, .u fo.sent, .sl 6 (fo.handed.length)], .rw 30 1 (nums fo.handed)] (.z ((sendJ s.A s.ns fo e).err)) [.bx 47 [.mv 1, .mv 2, .mv 3, .mv 4], .mp 42 (s.nl) (setE (emap pk Life.d s.L) jo (ptrV xb)), .mp 43 ((sendJ s.A s.ns fo e).ns) (emap mk6 textD (sendJ s.A s.ns fo e).A), .mp 44 (s.nc) (emap vk Come.d s.C), .mp 45 (s.ng) (emap sk goneD s.G), .bx 52 [.u ((sendJ s.A s.ns fo e).f.view.id.round), .z ((sendJ s.A s.ns fo e).f.view.id.server.node), .u ((sendJ s.A s.ns fo e).f.view.id.server.inc), .d (.ro 2 (procs (sendJ s.A s.ns fo e).f.view.members)), .d (.ro 1 (nums (sendJ s.A s.ns fo e).f.view.starts)), .d (.v (.bool ((sendJ s.A s.ns fo e).f.on))), .z ((sendJ s.A s.ns fo e).f.stands), .u ((sendJ s.A s.ns fo e).f.sent), .sl 6 ((sendJ s.A s.ns fo e).f.handed.length)], .rw 30 1 (nums (sendJ s.A s.ns fo e).f.handed)]) trivial)) fun ac wd r => ?_
          have r := r.foldM (u := 7) (v := 8) (m := 1) (j := jo) (vc := [((sendJ s.A s.ns fo e).f.handed.length) = (nums (sendJ s.A s.ns fo e).f.handed : List (List DV)).length]) (M1 := [.bx 47 [.mv 1, .mv 2, .mv 3, .mv 4], .mp 42 (s.nl) (setE (setE (emap pk Life.d s.L) jo (ptrV xb)) (jo) (.pb 52 [.u ((sendJ s.A s.ns fo e).f.view.id.round), .z ((sendJ s.A s.ns fo e).f.view.id.server.node), .u ((sendJ s.A s.ns fo e).f.view.id.server.inc), .ro 2 (procs (sendJ s.A s.ns fo e).f.view.members), .ro 1 (nums (sendJ s.A s.ns fo e).f.view.starts), .v (.bool ((sendJ s.A s.ns fo e).f.on)), .z ((sendJ s.A s.ns fo e).f.stands), .u ((sendJ s.A s.ns fo e).f.sent), .em 30 1 (nums (sendJ s.A s.ns fo e).f.handed)])), .mp 43 ((sendJ s.A s.ns fo e).ns) (emap mk6 textD (sendJ s.A s.ns fo e).A), .mp 44 (s.nc) (emap vk Come.d s.C), .mp 45 (s.ng) (emap sk goneD s.G), .bx 40 [.z e.kind, .z e.who.node, .u e.who.inc, .z e.frm.node, .u e.frm.inc, .u e.n, .d (.ro 1 (bytesR e.body)), .u e.view.id.round, .z e.view.id.server.node, .u e.view.id.server.inc, .d (.ro 2 (procs e.view.members)), .d (.ro 1 (nums e.view.starts)), .d (.ro 2 (procs e.transit))], .dead, .dead, .nm 7 xb]) (M2 := [.bx 47 [.mv 1, .mv 2, .mv 3, .mv 4], .mp 42 (s.nl) (emap pk Life.d (setK s.L e.who (sendJ s.A s.ns fo e).f)), .mp 43 ((sendJ s.A s.ns fo e).ns) (emap mk6 textD (sendJ s.A s.ns fo e).A), .mp 44 (s.nc) (emap vk Come.d s.C), .mp 45 (s.ng) (emap sk goneD s.G), .bx 40 [.z e.kind, .z e.who.node, .u e.who.inc, .z e.frm.node, .u e.frm.inc, .u e.n, .d (.ro 1 (bytesR e.body)), .u e.view.id.round, .z e.view.id.server.node, .u e.view.id.server.inc, .d (.ro 2 (procs e.view.members)), .d (.ro 1 (nums e.view.starts)), .d (.ro 2 (procs e.transit))], .dead, .dead, .nm 7 xb]) rfl (by kernel_rfl) (And.intro (by first | rfl | simp) trivial) (fun _ _ _ hM => by cases hM; exact setE_at _ (emap_at hjo)) (by rw [live_fold (f' := (sendJ s.A s.ns fo e).f) hs.lives.n hjo])
          refine castM (y := .z ((sendJ s.A s.ns fo e).err)) (N' := [.bx 47 [.mv 1, .mv 2, .mv 3, .mv 4], .mp 42 (s.nl) (emap pk Life.d (setK s.L e.who (sendJ s.A s.ns fo e).f)), .mp 43 ((sendJ s.A s.ns fo e).ns) (emap mk6 textD (sendJ s.A s.ns fo e).A), .mp 44 (s.nc) (emap vk Come.d s.C), .mp 45 (s.ng) (emap sk goneD s.G)]) ((by rw [nextJl (by omega) hgl (by assumption), lifeJ1 (by omega)])) ((by rw [nextJl (by omega) hgl (by assumption), lifeJ1 (by omega)])) ?_
          exact toRetM tb_ok mixed_ok hK rfl hbm [] 2000 [0, 1, 2, 3, 4] r (by kernel_rfl) trivial
    | true =>
      have qh2 := eq_of_beq h2
      refine toAtM (todo' := aft Try.f8 1) (E' := [(0, .pt 0 0), (3, .pt 5 0), (4, .z 0), (8, .d (.v (.bool true)))]) (M' := [.bx 47 [.mv 1, .mv 2, .mv 3, .mv 4], .mp 42 (s.nl) (emap pk Life.d s.L), .mp 43 (s.ns) (emap mk6 textD s.A), .mp 44 (s.nc) (emap vk Come.d s.C), .mp 45 (s.ng) (emap sk goneD s.G), .bx 40 [.z e.kind, .z e.who.node, .u e.who.inc, .z e.frm.node, .u e.frm.inc, .u e.n, .d (.ro 1 (bytesR e.body)), .u e.view.id.round, .z e.view.id.server.node, .u e.view.id.server.inc, .d (.ro 2 (procs e.view.members)), .d (.ro 1 (nums e.view.starts)), .d (.ro 2 (procs e.transit))]]) tb_ok mixed_ok hK hbm [(1, [(2, .b true)])] 5 [0, 1, 2, 3, 4, 5] [0, 3, 4, 8] r (by kernel_rfl) (an h2 trivial) fun ac wd r => ?_
      refine castM (y := .z ((beginJ s.L s.nl e.who).err)) (N' := [.bx 47 [.mv 1, .mv 2, .mv 3, .mv 4], .mp 42 ((beginJ s.L s.nl e.who).nl) (emap pk Life.d (beginJ s.L s.nl e.who).L), .mp 43 (s.ns) (emap mk6 textD s.A), .mp 44 (s.nc) (emap vk Come.d s.C), .mp 45 (s.ng) (emap sk goneD s.G)]) ((by rw [nextJ6 (by omega)])) ((by rw [nextJ6 (by omega)])) ?_
      exact toRetM tb_ok mixed_ok hK rfl hbm [(2, [(3, .mem [0, 1, 2, 3, 4] (.z ((beginJ s.L s.nl e.who).err)) [.bx 47 [.mv 1, .mv 2, .mv 3, .mv 4], .mp 42 ((beginJ s.L s.nl e.who).nl) (emap pk Life.d (beginJ s.L s.nl e.who).L), .mp 43 (s.ns) (emap mk6 textD s.A), .mp 44 (s.nc) (emap vk Come.d s.C), .mp 45 (s.ng) (emap sk goneD s.G)])])] 2000 [0, 1, 2, 3, 4] r (by kernel_rfl) (an (beginOk (emap mk6 textD s.A) (emap vk Come.d s.C) (emap sk goneD s.G) s.ns s.nc s.ng s.L s.nl e.who ho.who hs.lives) trivial)
end Go.Proofs.Ytilhbhpldkjkaaa
namespace Go.Proofs.Ytilhbhpldkjkaaa
open Go.RowKit
theorem LivesOk.set {L : Lives} {nl : Nat} (h : LivesOk L nl) {q : Proc} {f : Life} (hf : f.Ok q) : LivesOk (setK L q f) nl where
  n := setK_n h.n q f
  ok := setK_ok h.ok q f
  born := by
    have : (setK L q f).map (fun x => x.1) = L.map fun x => x.1 := by
      unfold setK; rw [List.map_map]; apply List.map_congr_left; intro e _; simp only [Function.comp]; split <;> rfl
    rw [this]; exact h.born
  lt := fun x hx => by
    obtain ⟨y, hy, rfl⟩ := List.mem_map.1 hx
    have := h.lt y hy
    split <;> exact this
  nodes := by
    unfold setK
    rw [List.pairwise_map]
    refine h.nodes.imp fun {a b} hab => ?_
    split <;> split <;> exact hab
  life := fun x hx => by
    obtain ⟨y, hy, rfl⟩ := List.mem_map.1 hx
    have := h.life y hy
    split
    · rename_i e; dsimp only; rw [e]; exact hf
    · exact this
theorem Life.new_ok {p : Proc} (hp : p.okP) (hm : p.may = true) : (Life.new p).Ok p where
  may := by unfold Life.new; rw [View.may_first rfl]; show (p.may && decide (View.first p = View.first p)) = true; rw [hm]; simp
  mem := List.mem_singleton.2 rfl
  len := rfl
  vid := ⟨by show 0 ≤ _; omega, hp⟩
theorem LivesOk.begin {L : Lives} {nl : Nat} (h : LivesOk L nl) {p : Proc} (hp : p.okP) (hm : p.may = true) : LivesOk (others L p ++ [(nl, p, Life.new p)]) (nl + 1) where
  n := by
    unfold keysN; rw [List.map_append, List.nodup_append]
    refine ⟨(List.Sublist.map _ List.filter_sublist).nodup h.n, by simp, fun a ha b hb e => ?_⟩
    obtain ⟨x, hx, rfl⟩ := List.mem_map.1 ha
    simp at hb; subst hb; exact getK_none others_fresh x hx e
  ok := fun x hx => by
    rcases List.mem_append.1 hx with hx | hx
    · exact h.ok x (others_sub hx)
    · simp at hx; subst hx; exact hp
  born := by
    rw [List.map_append, List.nodup_append]
    refine ⟨(List.Sublist.map _ List.filter_sublist).nodup h.born, by simp, fun a ha b hb e => ?_⟩
    obtain ⟨x, hx, rfl⟩ := List.mem_map.1 ha
    have := h.lt x (others_sub hx)
    simp at hb; omega
  lt := fun x hx => by
    rcases List.mem_append.1 hx with hx | hx
    · have := h.lt x (others_sub hx); omega
    · simp at hx; subst hx; exact Nat.lt_succ_self _
  nodes := by
    rw [List.pairwise_append]
    refine ⟨List.Pairwise.filter _ h.nodes, by simp, fun a ha b hb => ?_⟩
    simp at hb; subst hb
    have := (List.mem_filter.1 ha).2
    simpa using this
  life := fun x hx => by
    rcases List.mem_append.1 hx with hx | hx
    · exact h.life x (others_sub hx)
    · simp at hx; subst hx; exact Life.new_ok hp hm
theorem SentOk.put {A : Sent} (h : SentOk A) {c : Nat} {q : MsgK} (hq : q.ok) (b : List UInt8) : SentOk (putK A c q b) := ⟨putK_n h.n c q b, putK_ok (p := fun q => MsgK.ok q) h.ok hq b⟩
theorem putK_mem {κ α : Type} [DecidableEq κ] {l : List (Nat × κ × α)} {c : Nat} {q : κ} {x : α} {y : Nat × κ × α} (h : y ∈ putK l c q x) : (y.2.1 = q ∧ y.2.2 = x) ∨ y ∈ l := by
  unfold putK at h
  split at h
  · obtain ⟨z, hz, rfl⟩ := List.mem_map.1 h
    split
    · rename_i e; exact .inl ⟨e, rfl⟩
    · exact .inr hz
  · rcases List.mem_append.1 h with h | h
    · exact .inr h
    · simp at h; subst h; exact .inl ⟨rfl, rfl⟩
theorem GoneOk.put {G : Goned} (h : GoneOk G) {c : Nat} {q : StepK} (hq : q.ok) {l : List Nat} (hl : l.length ≤ 1000) : GoneOk (putK G c q l) := ⟨putK_n h.n c q l, putK_ok (p := fun q => StepK.ok q) h.ok hq l, fun x hx => by
  rcases putK_mem hx with ⟨-, e⟩ | hx
  · rw [e]; exact hl
  · exact h.len x hx⟩
theorem getK_mem {κ α : Type} [DecidableEq κ] {l : List (Nat × κ × α)} {q : κ} {x : α} (h : getK l q = some x) : ∃ b, (b, q, x) ∈ l := by
  obtain ⟨j, b, hj⟩ := getK_some h; exact ⟨b, List.mem_of_getElem? hj⟩
theorem cameL_few {C : Camed} {v : Vid} {k : Nat} (h : ∀ x ∈ C, x.2.2.came.length ≤ k) : (cameL C v).length ≤ k := by
  unfold cameL
  split
  · rename_i c hc; obtain ⟨b, hb⟩ := getK_mem hc; exact h _ hb
  · simp
theorem cameL_ok {C : Camed} {v : Vid} (h : CameOk C) : ∀ o ∈ cameL C v, o.Ok := by
  unfold cameL
  split
  · rename_i c hc; obtain ⟨b, hb⟩ := getK_mem hc; exact h.came _ hb
  · simp
theorem viewJ_cases {C : Camed} {nc : Nat} {G : Goned} {ng : Nat} {f : Life} {e : Ev} : ((viewJ C nc G ng f e).err ≠ 0 ∧ (viewJ C nc G ng f e).C = C ∧ (viewJ C nc G ng f e).nc = nc ∧ (viewJ C nc G ng f e).G = G ∧ (viewJ C nc G ng f e).ng = ng ∧ (viewJ C nc G ng f e).f = f) ∨
    (viewJ C nc G ng f e = viewOkJ C nc G ng f e ∧ f.stands = 2 ∧ viewBad C f e = false ∧ handedAt f e.who = f.sent ∧ goneBad G f e = false ∧ transitBad C f e = false) := by
  unfold viewJ
  split
  · exact .inl ⟨by simp, rfl, rfl, rfl, rfl, rfl⟩
  · rename_i h1
    split
    · exact .inl ⟨by simp, rfl, rfl, rfl, rfl, rfl⟩
    · rename_i h2
      split
      · exact .inl ⟨by simp, rfl, rfl, rfl, rfl, rfl⟩
      · rename_i h3
        split
        · exact .inl ⟨by simp, rfl, rfl, rfl, rfl, rfl⟩
        · rename_i h4
          split
          · exact .inl ⟨by simp, rfl, rfl, rfl, rfl, rfl⟩
          · rename_i h5
            exact .inr ⟨rfl, by simpa using h1, by simpa using h2, by simpa using h3, by simpa using h4, by simpa using h5⟩
theorem JS.Ok.more {s : JS} {k m : Nat} (h : s.Ok k) (hk : k ≤ m) : s.Ok m := ⟨h.lives, h.sent, h.came, h.gone, fun x hx => Nat.le_trans (h.few x hx) hk⟩
theorem viewBad_no {C : Camed} {f : Life} {e : Ev} (h : viewBad C f e = false) : e.view.may = true ∧ e.view.id.round ≠ 0 ∧ e.who ∈ e.view.members ∧ 0 < e.view.id.cmp f.view.id ∧ ∀ c, getK C e.view.id = some c → c.view = e.view := by
  unfold viewBad at h
  simp only [Bool.or_eq_false_iff, Bool.not_eq_false', decide_eq_false_iff_not, decide_eq_true_eq] at h
  obtain ⟨h1, h2, h3, h4, h5⟩ := h
  refine ⟨h1, h2, h3, by omega, fun c hc => ?_⟩
  rw [hc] at h5; simpa using h5
theorem lifeJ_ok {s : JS} {e : Ev} {f : Life} {k : Nat} (ho : e.Ok) (h : s.Ok k) (hk : k + 1 ≤ 100000) (hf : getK s.L e.who = some f) : (lifeJ s f e).2.Ok (k + 1) := by
  obtain ⟨b, hb⟩ := getK_mem hf
  have hfo : f.Ok e.who := h.lives.life _ hb
  have h1 := h.more (Nat.le_succ k)
  unfold lifeJ
  split
  · refine ⟨h.lives.set ?_, ?_, h.came, h.gone, h1.few⟩
    · unfold sendJ; split
      · exact hfo
      · split
        · exact hfo
        · exact ⟨hfo.may, hfo.mem, hfo.len, hfo.vid⟩
    · show SentOk (sendJ s.A s.ns f e).A
      unfold sendJ; split
      · exact h.sent
      · split
        · exact h.sent
        · exact h.sent.put (q := (f.view.id, e.who, e.n)) ⟨hfo.vid, ho.who, ho.n⟩ _
  · split
    · refine ⟨h.lives.set ?_, h.sent, h.came, h.gone, h1.few⟩
      unfold deliverJ; split
      · exact hfo
      · split
        · exact hfo
        · split
          · exact ⟨hfo.may, hfo.mem, by show (List.set _ _ _).length = _; rw [List.length_set]; exact hfo.len, hfo.vid⟩
          · exact hfo
    · have turns : ∀ a c : Int, ((f.turn a c).2).Ok e.who := fun a c => by
        unfold Life.turn; split
        · exact hfo
        · exact ⟨hfo.may, hfo.mem, hfo.len, hfo.vid⟩
      split
      · exact ⟨h.lives.set (turns 0 1), h.sent, h.came, h.gone, h1.few⟩
      · split
        · exact ⟨h.lives.set (turns 1 2), h.sent, h.came, h.gone, h1.few⟩
        · split
          · rcases viewJ_cases (C := s.C) (nc := s.nc) (G := s.G) (ng := s.ng) (f := f) (e := e) with ⟨-, g1, g2, g3, g4, g5⟩ | ⟨g0, -, gb, -, -, -⟩
            · exact ⟨by dsimp only; rw [g5]; exact h.lives.set hfo, h.sent, by dsimp only; rw [g1]; exact h.came, by dsimp only; rw [g3]; exact h.gone, by dsimp only; rw [g1]; exact h1.few⟩
            · obtain ⟨b1, b2, b3, b4, b5⟩ := viewBad_no gb
              rw [g0]
              refine ⟨h.lives.set ⟨b1, b3, by simp [viewOkJ, Life.enter], ho.vid⟩, h.sent, ?_, ?_, ?_⟩
              · refine ⟨putK_n h.came.n _ _ _, putK_ok (p := fun q => Vid.okV q) h.came.ok ho.vid _, fun x hx => ?_, fun x hx => ?_, fun x hx => ?_, fun x hx => ?_⟩
                · rcases putK_mem hx with ⟨e1, e2⟩ | hx
                  · rw [e1, e2]
                  · exact h.came.id x hx
                · rcases putK_mem hx with ⟨e1, e2⟩ | hx
                  · rw [e2]; exact b1
                  · exact h.came.may x hx
                · rcases putK_mem hx with ⟨e1, e2⟩ | hx
                  · rw [e2]; intro o hoo
                    rcases List.mem_append.1 hoo with hoo | hoo
                    · exact cameL_ok h.came o hoo
                    · simp at hoo; subst hoo
                      exact ⟨by have := (View.may_ss hfo.may).2; show f.view.members.length ≤ 1000; omega, by have := ho.transit; show e.transit.length ≤ 1000; omega⟩
                  · exact h.came.came x hx
                · rcases putK_mem hx with ⟨e1, e2⟩ | hx
                  · rw [e2]; show (cameL s.C e.view.id ++ [_]).length ≤ _; have := cameL_few (v := e.view.id) h.few; rw [List.length_append]; simp only [List.length_singleton]; omega
                  · have := h.few x hx; omega
              · exact h.gone.put (q := (f.view.id, e.view.id)) ⟨hfo.vid, ho.vid⟩ (by have := (View.may_ss hfo.may).2; rw [hfo.len]; omega)
              · intro x hx
                rcases putK_mem hx with ⟨e1, e2⟩ | hx
                · rw [e2]; show (cameL s.C e.view.id ++ [_]).length ≤ _; have := cameL_few (v := e.view.id) h.few; rw [List.length_append]; simp only [List.length_singleton]; omega
                · exact h1.few x hx
          · split
            · exact ⟨h.lives.set ⟨hfo.may, hfo.mem, hfo.len, hfo.vid⟩, h.sent, h.came, h.gone, h1.few⟩
            · exact h1
theorem nextJ_ok {s : JS} {e : Ev} {k : Nat} (ho : e.Ok) (h : s.Ok k) (hk : k + 1 ≤ 100000) : (nextJ s e).2.Ok (k + 1) := by
  have h1 := h.more (Nat.le_succ k)
  unfold nextJ
  split
  · refine ⟨?_, h.sent, h.came, h.gone, h1.few⟩
    dsimp only
    unfold beginJ
    split
    · exact h.lives
    · rename_i hm
      split
      · exact h.lives
      · exact h.lives.begin ho.who (by simpa using hm)
  · split
    · exact h1
    · rename_i f hf
      split
      · exact h1
      · exact lifeJ_ok ho h hk hf
def JS.zero : JS := ⟨[], 0, [], 0, [], 0, [], 0⟩
theorem JS.zero_ok : JS.zero.Ok 0 := by
  refine ⟨⟨List.nodup_nil, ?_, List.nodup_nil, ?_, List.Pairwise.nil, ?_⟩, ⟨List.nodup_nil, ?_⟩, ⟨List.nodup_nil, ?_, ?_, ?_, ?_, ?_⟩, ⟨List.nodup_nil, ?_, ?_⟩, ?_⟩ <;> intro x hx <;> cases hx
def stF (l : List Ev) : Nat → JS
  | 0 => JS.zero
  | i + 1 => match l[i]? with | some e => (nextJ (stF l i) e).2 | none => stF l i
def errAt (l : List Ev) (i : Nat) : Int := match l[i]? with | some e => (nextJ (stF l i) e).1 | none => 0
def judge (l : List Ev) : Nat × Int := match (List.range l.length).find? fun i => decide (errAt l i ≠ 0) with | some i => (i, errAt l i) | none => (l.length, 0)
theorem stF_succ {l : List Ev} {i : Nat} {e : Ev} (h : l[i]? = some e) : stF l (i + 1) = (nextJ (stF l i) e).2 := by rw [stF, h]
theorem errAt_some {l : List Ev} {i : Nat} {e : Ev} (h : l[i]? = some e) : errAt l i = (nextJ (stF l i) e).1 := by rw [errAt, h]
theorem stF_ok {l : List Ev} (ho : ∀ e ∈ l, e.Ok) (hl : l.length ≤ 100000) : ∀ {i : Nat}, i ≤ l.length → (stF l i).Ok i
  | 0, _ => JS.zero_ok
  | i + 1, h => by
    have e := List.getElem?_eq_getElem (show i < l.length by omega)
    rw [stF_succ e]
    exact nextJ_ok (ho _ (List.getElem_mem _)) (stF_ok ho hl (by omega)) (by omega)
theorem judge_at {l : List Ev} {i : Nat} {e : Ev} (h : l[i]? = some e) (h1 : ∀ j, j < i → errAt l j = 0) (h2 : (nextJ (stF l i) e).1 ≠ 0) : judge l = (i, (nextJ (stF l i) e).1) := by
  have hi := (List.getElem?_eq_some_iff.1 h).1
  have h3 : ((List.range l.length).find? fun i => decide (errAt l i ≠ 0)) = some i := by
    rw [List.find?_range_eq_some]
    refine ⟨by rw [errAt_some h]; simpa using h2, by simpa using hi, fun j hj => by simp [h1 j hj]⟩
  unfold judge; rw [h3]; dsimp only; rw [errAt_some h]
theorem judge_all {l : List Ev} (h1 : ∀ j, j < l.length → errAt l j = 0) : judge l = (l.length, 0) := by
  have h3 : ((List.range l.length).find? fun i => decide (errAt l i ≠ 0)) = none := by
    rw [List.find?_eq_none]; intro i hi; simp [h1 i (by simpa using hi)]
  unfold judge; rw [h3]
set_option maxRecDepth 100000 in
theorem judgeOk (l : List Ev) (ho : ∀ e ∈ l, e.Ok) (hl : l.length ≤ 100000) : Con Try.prog 7 [.d (.ro 13 (evs l))] (.tu [.v (.int .i64 (((judge l).1 : Nat) : Int)), .v (.int .i64 (judge l).2)]) := by
  refine Con.intro (by kernel_rfl) rfl rfl 31 rfl rfl fun w0 K ac hK r => ?_
  refine toHead (todo' := hd Try.f7 0) (E' := [(0, .d (.ro 13 (evs l))), (4, .pt 0 0), (14, .d (.ro 13 (evs l))), (15, .n l.length), (16, .z 0)]) (M' := [.bx 47 [.mv 1, .mv 2, .mv 3, .mv 4], .mp 42 (0) ([]), .mp 43 (0) ([]), .mp 44 (0) ([]), .mp 45 (0) ([])]) tb_ok mixed_ok hK [(2, [(1, .z (((l.length : Nat) : Int)))])] 2000 [4, 0, 1, 2, 3] [0, 4, 14, 15, 16] r (by kernel_rfl) (an ((by first | rfl | simp [bytesR]) : (((evs l).length : Nat) : Int) = ((l.length : Nat) : Int)) trivial) fun ac wd r => ?_
  refine Goes.rounds (Φ := fun (i : Nat) ac wd => (∀ j, j < i → errAt l j = 0) ∧ RE' [] w0 K 31 [(0, .d (.ro 13 (evs l))), (4, .pt 0 0), (14, .d (.ro 13 (evs l))), (15, .n l.length), (16, .n i)] [.bx 47 [.mv 1, .mv 2, .mv 3, .mv 4], .mp 42 ((stF l i).nl) (emap pk Life.d (stF l i).L), .mp 43 ((stF l i).ns) (emap mk6 textD (stF l i).A), .mp 44 ((stF l i).nc) (emap vk Come.d (stF l i).C), .mp 45 ((stF l i).ng) (emap sk goneD (stF l i).G)] ac wd) (l.length) ?_ (Nat.zero_le _) ⟨(fun j h => absurd h (Nat.not_lt_zero _)), (r).cast rfl rfl⟩
  clear r
  rintro i hi0 again0 ac wd ⟨hv0, r⟩
  cases h0 : (decide ((((i : Nat) : Int) : Int) < ((l.length : Nat) : Int))) with
  | false =>
    have qh0 := of_decide_eq_false h0
    rw [show (.tu [.v (.int .i64 (((judge l).1 : Nat) : Int)), .v (.int .i64 (judge l).2)] : DV) = .tu [.n l.length, .z 0] from (by first | rw [judge_at ge_l_i hv0 (by omega)] | (rw [judge_all (fun j hj => hv0 j (by omega))]))]
    exact toRet tb_ok mixed_ok hK rfl [(3, [(0, .b false)]), (9, [(1, .z (((l.length : Nat) : Int)))])] 2000 r (by kernel_rfl) (an h0 (an ((by first | rfl | simp [bytesR]) : (((evs l).length : Nat) : Int) = ((l.length : Nat) : Int)) trivial))
  | true =>
    have qh0 := of_decide_eq_true h0
    obtain ⟨e_l_i, ge_l_i⟩ : ∃ x, l[i]? = some x := ⟨_, List.getElem?_eq_getElem (by omega)⟩
    cases h1 : (((nextJ (stF l i) e_l_i).1 : Int) != 0) with
    | false =>
      have qh1 := eq_of_bne h1
      exact toHead (todo' := hd Try.f7 0) (E' := [(0, .d (.ro 13 (evs l))), (4, .pt 0 0), (14, .d (.ro 13 (evs l))), (15, .n l.length), (16, .n (i + 1))]) (M' := [.bx 47 [.mv 1, .mv 2, .mv 3, .mv 4], .mp 42 ((nextJ (stF l i) e_l_i).2.nl) (emap pk Life.d (nextJ (stF l i) e_l_i).2.L), .mp 43 ((nextJ (stF l i) e_l_i).2.ns) (emap mk6 textD (nextJ (stF l i) e_l_i).2.A), .mp 44 ((nextJ (stF l i) e_l_i).2.nc) (emap vk Come.d (nextJ (stF l i) e_l_i).2.C), .mp 45 ((nextJ (stF l i) e_l_i).2.ng) (emap sk goneD (nextJ (stF l i) e_l_i).2.G)]) tb_ok mixed_ok hK [(3, [(0, .b true)]), (4, [(1, .ix (i) [.z e_l_i.kind, .z e_l_i.who.node, .u e_l_i.who.inc, .z e_l_i.frm.node, .u e_l_i.frm.inc, .u e_l_i.n, .ro 1 (bytesR e_l_i.body), .u e_l_i.view.id.round, .z e_l_i.view.id.server.node, .u e_l_i.view.id.server.inc, .ro 2 (procs e_l_i.view.members), .ro 1 (nums e_l_i.view.starts), .ro 2 (procs e_l_i.transit)])]), (5, [(2, .mem [0, 1, 2, 3, 4] (.z ((nextJ (stF l i) e_l_i).1)) [.bx 47 [.mv 1, .mv 2, .mv 3, .mv 4], .mp 42 ((nextJ (stF l i) e_l_i).2.nl) (emap pk Life.d (nextJ (stF l i) e_l_i).2.L), .mp 43 ((nextJ (stF l i) e_l_i).2.ns) (emap mk6 textD (nextJ (stF l i) e_l_i).2.A), .mp 44 ((nextJ (stF l i) e_l_i).2.nc) (emap vk Come.d (nextJ (stF l i) e_l_i).2.C), .mp 45 ((nextJ (stF l i) e_l_i).2.ng) (emap sk goneD (nextJ (stF l i) e_l_i).2.G)])]), (6, [(1, .b false)]), (8, [(0, .z (((i + 1 : Nat) : Int)))])] 2000 [0, 1, 2, 3, 4] [0, 4, 14, 15, 16] r (by kernel_rfl) (an h0 (an (rfI ((i : Nat) : Int)) (an (evs_at ge_l_i) (an (nextOk (stF l i) e_l_i (ho _ (List.mem_of_getElem? ge_l_i)) i (by omega) (stF_ok ho hl (by omega)) : ConM Try.prog 8 [.pt 0 0, .ag [.z e_l_i.kind, .z e_l_i.who.node, .u e_l_i.who.inc, .z e_l_i.frm.node, .u e_l_i.frm.inc, .u e_l_i.n, .d (.ro 1 (bytesR e_l_i.body)), .u e_l_i.view.id.round, .z e_l_i.view.id.server.node, .u e_l_i.view.id.server.inc, .d (.ro 2 (procs e_l_i.view.members)), .d (.ro 1 (nums e_l_i.view.starts)), .d (.ro 2 (procs e_l_i.transit))]] [.bx 47 [.mv 1, .mv 2, .mv 3, .mv 4], .mp 42 ((stF l i).nl) (emap pk Life.d (stF l i).L), .mp 43 ((stF l i).ns) (emap mk6 textD (stF l i).A), .mp 44 ((stF l i).nc) (emap vk Come.d (stF l i).C), .mp 45 ((stF l i).ng) (emap sk goneD (stF l i).G)] (.z ((nextJ (stF l i) e_l_i).1)) [.bx 47 [.mv 1, .mv 2, .mv 3, .mv 4], .mp 42 ((nextJ (stF l i) e_l_i).2.nl) (emap pk Life.d (nextJ (stF l i) e_l_i).2.L), .mp 43 ((nextJ (stF l i) e_l_i).2.ns) (emap mk6 textD (nextJ (stF l i) e_l_i).2.A), .mp 44 ((nextJ (stF l i) e_l_i).2.nc) (emap vk Come.d (nextJ (stF l i) e_l_i).2.C), .mp 45 ((nextJ (stF l i) e_l_i).2.ng) (emap sk goneD (nextJ (stF l i) e_l_i).2.G)]) (an h1 (an ((wi (by omega)) : IntKind.i64.wrap ((((i : Nat) : Int) : Int) + 1) = ((i + 1 : Nat) : Int)) trivial)))))) fun ac wd r => again0 (by omega) ac wd ⟨(fun j hj => by rcases Nat.lt_succ_iff_lt_or_eq.1 hj with h | rfl; exact hv0 j h; rw [errAt_some ge_l_i]; omega), r.cast rfl (by rw [stF_succ ge_l_i])⟩
    | true =>
      have qh1 : ¬ _ = _ := bne_iff_ne.1 h1
      rw [show (.tu [.v (.int .i64 (((judge l).1 : Nat) : Int)), .v (.int .i64 (judge l).2)] : DV) = .tu [.n i, .z ((nextJ (stF l i) e_l_i).1)] from (by first | rw [judge_at ge_l_i hv0 (by omega)] | (rw [judge_all (fun j hj => hv0 j (by omega))]))]
      exact toRet tb_ok mixed_ok hK rfl [(3, [(0, .b true)]), (4, [(1, .ix (i) [.z e_l_i.kind, .z e_l_i.who.node, .u e_l_i.who.inc, .z e_l_i.frm.node, .u e_l_i.frm.inc, .u e_l_i.n, .ro 1 (bytesR e_l_i.body), .u e_l_i.view.id.round, .z e_l_i.view.id.server.node, .u e_l_i.view.id.server.inc, .ro 2 (procs e_l_i.view.members), .ro 1 (nums e_l_i.view.starts), .ro 2 (procs e_l_i.transit)])]), (5, [(2, .mem [0, 1, 2, 3, 4] (.z ((nextJ (stF l i) e_l_i).1)) [.bx 47 [.mv 1, .mv 2, .mv 3, .mv 4], .mp 42 ((nextJ (stF l i) e_l_i).2.nl) (emap pk Life.d (nextJ (stF l i) e_l_i).2.L), .mp 43 ((nextJ (stF l i) e_l_i).2.ns) (emap mk6 textD (nextJ (stF l i) e_l_i).2.A), .mp 44 ((nextJ (stF l i) e_l_i).2.nc) (emap vk Come.d (nextJ (stF l i) e_l_i).2.C), .mp 45 ((nextJ (stF l i) e_l_i).2.ng) (emap sk goneD (nextJ (stF l i) e_l_i).2.G)])]), (6, [(1, .b true)])] 2000 r (by kernel_rfl) (an h0 (an (rfI ((i : Nat) : Int)) (an (evs_at ge_l_i) (an (nextOk (stF l i) e_l_i (ho _ (List.mem_of_getElem? ge_l_i)) i (by omega) (stF_ok ho hl (by omega)) : ConM Try.prog 8 [.pt 0 0, .ag [.z e_l_i.kind, .z e_l_i.who.node, .u e_l_i.who.inc, .z e_l_i.frm.node, .u e_l_i.frm.inc, .u e_l_i.n, .d (.ro 1 (bytesR e_l_i.body)), .u e_l_i.view.id.round, .z e_l_i.view.id.server.node, .u e_l_i.view.id.server.inc, .d (.ro 2 (procs e_l_i.view.members)), .d (.ro 1 (nums e_l_i.view.starts)), .d (.ro 2 (procs e_l_i.transit))]] [.bx 47 [.mv 1, .mv 2, .mv 3, .mv 4], .mp 42 ((stF l i).nl) (emap pk Life.d (stF l i).L), .mp 43 ((stF l i).ns) (emap mk6 textD (stF l i).A), .mp 44 ((stF l i).nc) (emap vk Come.d (stF l i).C), .mp 45 ((stF l i).ng) (emap sk goneD (stF l i).G)] (.z ((nextJ (stF l i) e_l_i).1)) [.bx 47 [.mv 1, .mv 2, .mv 3, .mv 4], .mp 42 ((nextJ (stF l i) e_l_i).2.nl) (emap pk Life.d (nextJ (stF l i) e_l_i).2.L), .mp 43 ((nextJ (stF l i) e_l_i).2.ns) (emap mk6 textD (nextJ (stF l i) e_l_i).2.A), .mp 44 ((nextJ (stF l i) e_l_i).2.nc) (emap vk Come.d (nextJ (stF l i) e_l_i).2.C), .mp 45 ((nextJ (stF l i) e_l_i).2.ng) (emap sk goneD (nextJ (stF l i) e_l_i).2.G)]) (an h1 trivial)))))
end Go.Proofs.Ytilhbhpldkjkaaa
namespace Go.Proofs.Ytilhbhpldkjkaaa
open Go.RowKit
theorem ind_two (x y : Value) : Ind (.tu [.v x, .v y]) := by
  intro K K' z H h
  cases h with
  | tu ys F hl hr =>
    refine .tu ys F hl fun j c w h1 h2 => ?_
    have := hr j c w h1 h2
    match j with
    | 0 => simp at h1; subst h1; exact ind_v _ _ _ _ _ this
    | 1 => simp at h1; subst h1; exact ind_v _ _ _ _ _ this
    | j + 2 => simp at h1
def heavyE (e : Ev) : Bool := decide (200 < e.body.length) || (decide (50 < e.view.members.length) || (decide (50 < e.view.starts.length) || decide (50 < e.transit.length)))
def heavyL (l : List Ev) : Bool := decide (250 < l.length) || l.any heavyE
theorem heavy_len {l : List Ev} (h : 250 < l.length) : heavyL l = true := by unfold heavyL; rw [decide_eq_true h]; rfl
theorem heavy_yes {l : List Ev} {i : Nat} {e : Ev} (h : l[i]? = some e) (he : heavyE e = true) : heavyL l = true := by
  unfold heavyL; rw [Bool.or_eq_true, List.any_eq_true]; exact .inr ⟨e, List.mem_of_getElem? h, he⟩
theorem heavy_no {l : List Ev} {i : Nat} (h0 : ¬ 250 < l.length) (hi : l.length ≤ i) (h : ∀ j e, j < i → l[j]? = some e → heavyE e = false) : heavyL l = false := by
  unfold heavyL
  rw [decide_eq_false h0, Bool.false_or, List.any_eq_false]
  intro e he
  obtain ⟨j, hj, rfl⟩ := List.getElem_of_mem he
  rw [h j _ (by omega) (List.getElem?_eq_getElem hj)]; decide
structure Ev.Rd (e : Ev) : Prop where
  who : e.who.okP
  frm : e.frm.okP
  n : e.n ≤ 18446744073709551615
  vid : e.view.id.okV
  body : e.body.length ≤ 9223372036854775807
  members : e.view.members.length ≤ 9223372036854775807
  starts : e.view.starts.length ≤ 9223372036854775807
  transit : e.transit.length ≤ 9223372036854775807
theorem heavy_ok {l : List Ev} (hr : ∀ e ∈ l, e.Rd) (h : heavyL l = false) : l.length ≤ 250 ∧ ∀ e ∈ l, e.Ok := by
  unfold heavyL at h
  simp only [Bool.or_eq_false_iff, decide_eq_false_iff_not, List.any_eq_false] at h
  refine ⟨by omega, fun e he => ?_⟩
  have h1 := h.2 e he
  have h2 := hr e he
  simp only [heavyE, Bool.or_eq_true, decide_eq_true_eq, not_or] at h1
  exact ⟨h2.who, h2.frm, h2.n, h2.vid, by omega, by omega, by omega, by omega⟩
theorem froz_evs (l : List Ev) : frozR (evs l) = evs l := by
  rw [frozR_map]; unfold evs; rw [List.map_map]; apply List.map_congr_left; intro s _
  simp only [Function.comp, Ev.row, List.map_cons, List.map_nil, froz]
theorem evs_take (l : List Ev) (k : Nat) : List.take k (evs l) = evs (l.take k) := by unfold evs; rw [List.map_take]
set_option maxRecDepth 100000 in
theorem heavyOk (l : List Ev) (hl : l.length ≤ 9223372036854775807) (hr : ∀ e ∈ l, e.Rd) : Con Try.prog 5 [.d (.ro 13 (evs l))] (.v (.bool (heavyL l))) := by
  refine Con.intro (by kernel_rfl) rfl rfl 49 rfl rfl fun w0 K ac hK r => ?_
  cases h0 : (decide ((250 : Int) < ((l.length : Nat) : Int))) with
  | false =>
    have qh0 := of_decide_eq_false h0
    refine toHead (todo' := hd Try.f5 0) (E' := [(0, .d (.ro 13 (evs l))), (3, .n 0)]) (M' := []) tb_ok mixed_ok hK [(1, [(1, .z (((l.length : Nat) : Int))), (2, .b false)])] 2000 [] [0, 3] r (by kernel_rfl) (an ((by first | rfl | simp [bytesR]) : (((evs l).length : Nat) : Int) = ((l.length : Nat) : Int)) (an h0 trivial)) fun ac wd r => ?_
    refine Goes.rounds (Φ := fun (i : Nat) ac wd => (∀ j e, j < i → l[j]? = some e → heavyE e = false) ∧ RE' [] w0 K 49 [(0, .d (.ro 13 (evs l))), (3, .n i)] [] ac wd) (l.length) ?_ (Nat.zero_le _) ⟨(fun j e h => absurd h (Nat.not_lt_zero _)), r⟩
    clear r
    rintro i hi0 again0 ac wd ⟨hv0, r⟩
    cases h1 : (decide ((((i : Nat) : Int) : Int) < ((l.length : Nat) : Int))) with
    | false =>
      have qh1 := of_decide_eq_false h1
      rw [show (.v (.bool (heavyL l)) : DV) = .v (.bool false) from (by first | rw [heavy_len (by omega)] | rw [heavy_no (by omega) (by omega) hv0] | rw [heavy_yes ge_l_i (by unfold heavyE; first | (simp; omega) | (rw [Bool.or_eq_true, Bool.or_eq_true, Bool.or_eq_true]; simp; omega))])]
      exact toRet tb_ok mixed_ok hK rfl [(4, [(2, .z (((l.length : Nat) : Int))), (3, .b false)])] 2000 r (by kernel_rfl) (an ((by first | rfl | simp [bytesR]) : (((evs l).length : Nat) : Int) = ((l.length : Nat) : Int)) (an h1 trivial))
    | true =>
      have qh1 := of_decide_eq_true h1
      obtain ⟨e_l_i, ge_l_i⟩ : ∃ x, l[i]? = some x := ⟨_, List.getElem?_eq_getElem (by omega)⟩
      have hb := (hr _ (List.mem_of_getElem? ge_l_i)).body
      have hm := (hr _ (List.mem_of_getElem? ge_l_i)).members
      have hs := (hr _ (List.mem_of_getElem? ge_l_i)).starts
      have ht := (hr _ (List.mem_of_getElem? ge_l_i)).transit
      cases h2 : (decide ((200 : Int) < ((e_l_i.body.length : Nat) : Int))) with
      | false =>
        have qh2 := of_decide_eq_false h2
        cases h3 : (decide ((50 : Int) < ((e_l_i.view.members.length : Nat) : Int))) with
        | false =>
          have qh3 := of_decide_eq_false h3
          cases h4 : (decide ((50 : Int) < ((e_l_i.view.starts.length : Nat) : Int))) with
          | false =>
            have qh4 := of_decide_eq_false h4
            cases h5 : (decide ((50 : Int) < ((e_l_i.transit.length : Nat) : Int))) with
            | false =>
              have qh5 := of_decide_eq_false h5
              exact toHead (todo' := hd Try.f5 0) tb_ok mixed_ok hK [(4, [(2, .z (((l.length : Nat) : Int))), (3, .b true)]), (5, [(1, .z (((i + 1 : Nat) : Int)))]), (6, [(2, .ix (i) [.z e_l_i.kind, .z e_l_i.who.node, .u e_l_i.who.inc, .z e_l_i.frm.node, .u e_l_i.frm.inc, .u e_l_i.n, .ro 1 (bytesR e_l_i.body), .u e_l_i.view.id.round, .z e_l_i.view.id.server.node, .u e_l_i.view.id.server.inc, .ro 2 (procs e_l_i.view.members), .ro 1 (nums e_l_i.view.starts), .ro 2 (procs e_l_i.transit)]), (5, .z (((e_l_i.body.length : Nat) : Int))), (6, .b false), (10, .ix (i) [.z e_l_i.kind, .z e_l_i.who.node, .u e_l_i.who.inc, .z e_l_i.frm.node, .u e_l_i.frm.inc, .u e_l_i.n, .ro 1 (bytesR e_l_i.body), .u e_l_i.view.id.round, .z e_l_i.view.id.server.node, .u e_l_i.view.id.server.inc, .ro 2 (procs e_l_i.view.members), .ro 1 (nums e_l_i.view.starts), .ro 2 (procs e_l_i.transit)]), (14, .z (((e_l_i.view.members.length : Nat) : Int))), (15, .b false), (20, .ix (i) [.z e_l_i.kind, .z e_l_i.who.node, .u e_l_i.who.inc, .z e_l_i.frm.node, .u e_l_i.frm.inc, .u e_l_i.n, .ro 1 (bytesR e_l_i.body), .u e_l_i.view.id.round, .z e_l_i.view.id.server.node, .u e_l_i.view.id.server.inc, .ro 2 (procs e_l_i.view.members), .ro 1 (nums e_l_i.view.starts), .ro 2 (procs e_l_i.transit)]), (24, .z (((e_l_i.view.starts.length : Nat) : Int))), (25, .b false), (30, .ix (i) [.z e_l_i.kind, .z e_l_i.who.node, .u e_l_i.who.inc, .z e_l_i.frm.node, .u e_l_i.frm.inc, .u e_l_i.n, .ro 1 (bytesR e_l_i.body), .u e_l_i.view.id.round, .z e_l_i.view.id.server.node, .u e_l_i.view.id.server.inc, .ro 2 (procs e_l_i.view.members), .ro 1 (nums e_l_i.view.starts), .ro 2 (procs e_l_i.transit)]), (33, .z (((e_l_i.transit.length : Nat) : Int))), (34, .b false)])] 2000 [] [0, 3] r (by kernel_rfl) (an ((by first | rfl | simp [bytesR]) : (((evs l).length : Nat) : Int) = ((l.length : Nat) : Int)) (an h1 (an (rfI ((i : Nat) : Int)) (an (evs_at ge_l_i) (an ((by first | rfl | simp [bytesR]) : (((bytesR e_l_i.body).length : Nat) : Int) = ((e_l_i.body.length : Nat) : Int)) (an h2 (an (rfI ((i : Nat) : Int)) (an (evs_at ge_l_i) (an ((by first | rfl | simp [bytesR]) : (((procs e_l_i.view.members).length : Nat) : Int) = ((e_l_i.view.members.length : Nat) : Int)) (an h3 (an (rfI ((i : Nat) : Int)) (an (evs_at ge_l_i) (an ((by first | rfl | simp [bytesR]) : (((nums e_l_i.view.starts).length : Nat) : Int) = ((e_l_i.view.starts.length : Nat) : Int)) (an h4 (an (rfI ((i : Nat) : Int)) (an (evs_at ge_l_i) (an ((by first | rfl | simp [bytesR]) : (((procs e_l_i.transit).length : Nat) : Int) = ((e_l_i.transit.length : Nat) : Int)) (an h5 (an ((wi (by omega)) : IntKind.i64.wrap ((((i : Nat) : Int) : Int) + 1) = ((i + 1 : Nat) : Int)) trivial))))))))))))))))))) fun ac wd r => again0 (by omega) ac wd ⟨(fun j o hj hx => by rcases Nat.lt_succ_iff_lt_or_eq.1 hj with h | rfl; exact hv0 j o h hx; rw [ge_l_i] at hx; cases hx; unfold heavyE; simp; omega), r⟩
            | true =>
              have qh5 := of_decide_eq_true h5
              rw [show (.v (.bool (heavyL l)) : DV) = .v (.bool true) from (by first | rw [heavy_len (by omega)] | rw [heavy_no (by omega) (by omega) hv0] | rw [heavy_yes ge_l_i (by unfold heavyE; first | (simp; omega) | (rw [Bool.or_eq_true, Bool.or_eq_true, Bool.or_eq_true]; simp; omega))])]
              exact toRet tb_ok mixed_ok hK rfl [(4, [(2, .z (((l.length : Nat) : Int))), (3, .b true)]), (6, [(2, .ix (i) [.z e_l_i.kind, .z e_l_i.who.node, .u e_l_i.who.inc, .z e_l_i.frm.node, .u e_l_i.frm.inc, .u e_l_i.n, .ro 1 (bytesR e_l_i.body), .u e_l_i.view.id.round, .z e_l_i.view.id.server.node, .u e_l_i.view.id.server.inc, .ro 2 (procs e_l_i.view.members), .ro 1 (nums e_l_i.view.starts), .ro 2 (procs e_l_i.transit)]), (5, .z (((e_l_i.body.length : Nat) : Int))), (6, .b false), (10, .ix (i) [.z e_l_i.kind, .z e_l_i.who.node, .u e_l_i.who.inc, .z e_l_i.frm.node, .u e_l_i.frm.inc, .u e_l_i.n, .ro 1 (bytesR e_l_i.body), .u e_l_i.view.id.round, .z e_l_i.view.id.server.node, .u e_l_i.view.id.server.inc, .ro 2 (procs e_l_i.view.members), .ro 1 (nums e_l_i.view.starts), .ro 2 (procs e_l_i.transit)]), (14, .z (((e_l_i.view.members.length : Nat) : Int))), (15, .b false), (20, .ix (i) [.z e_l_i.kind, .z e_l_i.who.node, .u e_l_i.who.inc, .z e_l_i.frm.node, .u e_l_i.frm.inc, .u e_l_i.n, .ro 1 (bytesR e_l_i.body), .u e_l_i.view.id.round, .z e_l_i.view.id.server.node, .u e_l_i.view.id.server.inc, .ro 2 (procs e_l_i.view.members), .ro 1 (nums e_l_i.view.starts), .ro 2 (procs e_l_i.transit)]), (24, .z (((e_l_i.view.starts.length : Nat) : Int))), (25, .b false), (30, .ix (i) [.z e_l_i.kind, .z e_l_i.who.node, .u e_l_i.who.inc, .z e_l_i.frm.node, .u e_l_i.frm.inc, .u e_l_i.n, .ro 1 (bytesR e_l_i.body), .u e_l_i.view.id.round, .z e_l_i.view.id.server.node, .u e_l_i.view.id.server.inc, .ro 2 (procs e_l_i.view.members), .ro 1 (nums e_l_i.view.starts), .ro 2 (procs e_l_i.transit)]), (33, .z (((e_l_i.transit.length : Nat) : Int))), (34, .b true)])] 2000 r (by kernel_rfl) (an ((by first | rfl | simp [bytesR]) : (((evs l).length : Nat) : Int) = ((l.length : Nat) : Int)) (an h1 (an (rfI ((i : Nat) : Int)) (an (evs_at ge_l_i) (an ((by first | rfl | simp [bytesR]) : (((bytesR e_l_i.body).length : Nat) : Int) = ((e_l_i.body.length : Nat) : Int)) (an h2 (an (rfI ((i : Nat) : Int)) (an (evs_at ge_l_i) (an ((by first | rfl | simp [bytesR]) : (((procs e_l_i.view.members).length : Nat) : Int) = ((e_l_i.view.members.length : Nat) : Int)) (an h3 (an (rfI ((i : Nat) : Int)) (an (evs_at ge_l_i) (an ((by first | rfl | simp [bytesR]) : (((nums e_l_i.view.starts).length : Nat) : Int) = ((e_l_i.view.starts.length : Nat) : Int)) (an h4 (an (rfI ((i : Nat) : Int)) (an (evs_at ge_l_i) (an ((by first | rfl | simp [bytesR]) : (((procs e_l_i.transit).length : Nat) : Int) = ((e_l_i.transit.length : Nat) : Int)) (an h5 trivial))))))))))))))))))
          | true =>
            have qh4 := of_decide_eq_true h4
            rw [show (.v (.bool (heavyL l)) : DV) = .v (.bool true) from (by first | rw [heavy_len (by omega)] | rw [heavy_no (by omega) (by omega) hv0] | rw [heavy_yes ge_l_i (by unfold heavyE; first | (simp; omega) | (rw [Bool.or_eq_true, Bool.or_eq_true, Bool.or_eq_true]; simp; omega))])]
            exact toRet tb_ok mixed_ok hK rfl [(4, [(2, .z (((l.length : Nat) : Int))), (3, .b true)]), (6, [(2, .ix (i) [.z e_l_i.kind, .z e_l_i.who.node, .u e_l_i.who.inc, .z e_l_i.frm.node, .u e_l_i.frm.inc, .u e_l_i.n, .ro 1 (bytesR e_l_i.body), .u e_l_i.view.id.round, .z e_l_i.view.id.server.node, .u e_l_i.view.id.server.inc, .ro 2 (procs e_l_i.view.members), .ro 1 (nums e_l_i.view.starts), .ro 2 (procs e_l_i.transit)]), (5, .z (((e_l_i.body.length : Nat) : Int))), (6, .b false), (10, .ix (i) [.z e_l_i.kind, .z e_l_i.who.node, .u e_l_i.who.inc, .z e_l_i.frm.node, .u e_l_i.frm.inc, .u e_l_i.n, .ro 1 (bytesR e_l_i.body), .u e_l_i.view.id.round, .z e_l_i.view.id.server.node, .u e_l_i.view.id.server.inc, .ro 2 (procs e_l_i.view.members), .ro 1 (nums e_l_i.view.starts), .ro 2 (procs e_l_i.transit)]), (14, .z (((e_l_i.view.members.length : Nat) : Int))), (15, .b false), (20, .ix (i) [.z e_l_i.kind, .z e_l_i.who.node, .u e_l_i.who.inc, .z e_l_i.frm.node, .u e_l_i.frm.inc, .u e_l_i.n, .ro 1 (bytesR e_l_i.body), .u e_l_i.view.id.round, .z e_l_i.view.id.server.node, .u e_l_i.view.id.server.inc, .ro 2 (procs e_l_i.view.members), .ro 1 (nums e_l_i.view.starts), .ro 2 (procs e_l_i.transit)]), (24, .z (((e_l_i.view.starts.length : Nat) : Int))), (25, .b true)])] 2000 r (by kernel_rfl) (an ((by first | rfl | simp [bytesR]) : (((evs l).length : Nat) : Int) = ((l.length : Nat) : Int)) (an h1 (an (rfI ((i : Nat) : Int)) (an (evs_at ge_l_i) (an ((by first | rfl | simp [bytesR]) : (((bytesR e_l_i.body).length : Nat) : Int) = ((e_l_i.body.length : Nat) : Int)) (an h2 (an (rfI ((i : Nat) : Int)) (an (evs_at ge_l_i) (an ((by first | rfl | simp [bytesR]) : (((procs e_l_i.view.members).length : Nat) : Int) = ((e_l_i.view.members.length : Nat) : Int)) (an h3 (an (rfI ((i : Nat) : Int)) (an (evs_at ge_l_i) (an ((by first | rfl | simp [bytesR]) : (((nums e_l_i.view.starts).length : Nat) : Int) = ((e_l_i.view.starts.length : Nat) : Int)) (an h4 trivial))))))))))))))
        | true =>
          have qh3 := of_decide_eq_true h3
          rw [show (.v (.bool (heavyL l)) : DV) = .v (.bool true) from (by first | rw [heavy_len (by omega)] | rw [heavy_no (by omega) (by omega) hv0] | rw [heavy_yes ge_l_i (by unfold heavyE; first | (simp; omega) | (rw [Bool.or_eq_true, Bool.or_eq_true, Bool.or_eq_true]; simp; omega))])]
          exact toRet tb_ok mixed_ok hK rfl [(4, [(2, .z (((l.length : Nat) : Int))), (3, .b true)]), (6, [(2, .ix (i) [.z e_l_i.kind, .z e_l_i.who.node, .u e_l_i.who.inc, .z e_l_i.frm.node, .u e_l_i.frm.inc, .u e_l_i.n, .ro 1 (bytesR e_l_i.body), .u e_l_i.view.id.round, .z e_l_i.view.id.server.node, .u e_l_i.view.id.server.inc, .ro 2 (procs e_l_i.view.members), .ro 1 (nums e_l_i.view.starts), .ro 2 (procs e_l_i.transit)]), (5, .z (((e_l_i.body.length : Nat) : Int))), (6, .b false), (10, .ix (i) [.z e_l_i.kind, .z e_l_i.who.node, .u e_l_i.who.inc, .z e_l_i.frm.node, .u e_l_i.frm.inc, .u e_l_i.n, .ro 1 (bytesR e_l_i.body), .u e_l_i.view.id.round, .z e_l_i.view.id.server.node, .u e_l_i.view.id.server.inc, .ro 2 (procs e_l_i.view.members), .ro 1 (nums e_l_i.view.starts), .ro 2 (procs e_l_i.transit)]), (14, .z (((e_l_i.view.members.length : Nat) : Int))), (15, .b true)])] 2000 r (by kernel_rfl) (an ((by first | rfl | simp [bytesR]) : (((evs l).length : Nat) : Int) = ((l.length : Nat) : Int)) (an h1 (an (rfI ((i : Nat) : Int)) (an (evs_at ge_l_i) (an ((by first | rfl | simp [bytesR]) : (((bytesR e_l_i.body).length : Nat) : Int) = ((e_l_i.body.length : Nat) : Int)) (an h2 (an (rfI ((i : Nat) : Int)) (an (evs_at ge_l_i) (an ((by first | rfl | simp [bytesR]) : (((procs e_l_i.view.members).length : Nat) : Int) = ((e_l_i.view.members.length : Nat) : Int)) (an h3 trivial))))))))))
      | true =>
        have qh2 := of_decide_eq_true h2
        rw [show (.v (.bool (heavyL l)) : DV) = .v (.bool true) from (by first | rw [heavy_len (by omega)] | rw [heavy_no (by omega) (by omega) hv0] | rw [heavy_yes ge_l_i (by unfold heavyE; first | (simp; omega) | (rw [Bool.or_eq_true, Bool.or_eq_true, Bool.or_eq_true]; simp; omega))])]
        exact toRet tb_ok mixed_ok hK rfl [(4, [(2, .z (((l.length : Nat) : Int))), (3, .b true)]), (6, [(2, .ix (i) [.z e_l_i.kind, .z e_l_i.who.node, .u e_l_i.who.inc, .z e_l_i.frm.node, .u e_l_i.frm.inc, .u e_l_i.n, .ro 1 (bytesR e_l_i.body), .u e_l_i.view.id.round, .z e_l_i.view.id.server.node, .u e_l_i.view.id.server.inc, .ro 2 (procs e_l_i.view.members), .ro 1 (nums e_l_i.view.starts), .ro 2 (procs e_l_i.transit)]), (5, .z (((e_l_i.body.length : Nat) : Int))), (6, .b true)])] 2000 r (by kernel_rfl) (an ((by first | rfl | simp [bytesR]) : (((evs l).length : Nat) : Int) = ((l.length : Nat) : Int)) (an h1 (an (rfI ((i : Nat) : Int)) (an (evs_at ge_l_i) (an ((by first | rfl | simp [bytesR]) : (((bytesR e_l_i.body).length : Nat) : Int) = ((e_l_i.body.length : Nat) : Int)) (an h2 trivial))))))
  | true =>
    have qh0 := of_decide_eq_true h0
    rw [show (.v (.bool (heavyL l)) : DV) = .v (.bool true) from (by first | rw [heavy_len (by omega)] | rw [heavy_no (by omega) (by omega) hv0] | rw [heavy_yes ge_l_i (by unfold heavyE; first | (simp; omega) | (rw [Bool.or_eq_true, Bool.or_eq_true, Bool.or_eq_true]; simp; omega))])]
    exact toRet tb_ok mixed_ok hK rfl [(1, [(1, .z (((l.length : Nat) : Int))), (2, .b true)])] 2000 r (by kernel_rfl) (an ((by first | rfl | simp [bytesR]) : (((evs l).length : Nat) : Int) = ((l.length : Nat) : Int)) (an h0 trivial))
def pEx : Proc := ⟨5, 1⟩
def evEx (k : Int) (f : Proc) (n : Nat) : Ev := ⟨k, pEx, f, n, [], ⟨⟨0, ⟨0, 0⟩⟩, [], []⟩, []⟩
def p00 : Proc := ⟨0, 0⟩
def exEv : List Ev := [evEx 6 p00 0, evEx 1 p00 1, evEx 2 pEx 1, evEx 3 p00 0, evEx 4 p00 0, evEx 1 p00 2]
theorem exEv_ok : ∀ e ∈ exEv, e.Ok := by
  intro e he
  simp only [exEv, List.mem_cons, List.not_mem_nil, or_false] at he
  have q1 : pEx.okP := by unfold Proc.okP pEx; dsimp only; omega
  have q2 : p00.okP := by unfold Proc.okP p00; dsimp only; omega
  have q3 : (⟨0, p00⟩ : Vid).okV := ⟨by dsimp only; omega, q2⟩
  rcases he with rfl | rfl | rfl | rfl | rfl | rfl <;> refine ⟨q1, by first | exact q1 | exact q2, by show _ ≤ _; decide, q3, by decide, by decide, by decide, by decide⟩
theorem ex_1 : judge exEv = (5, 231) := by kernel_rfl
theorem ex_2 : judge [evEx 6 p00 0, evEx 2 pEx 1] = (1, 233) := by kernel_rfl
theorem ex_3 : judge (exEv.take 5) = (5, 0) := by kernel_rfl
theorem exJ (l : List Ev) (h : ∀ e ∈ l, e ∈ exEv) (hl : l.length ≤ 6) {n : Nat} {x : Int} (hj : judge l = (n, x)) : Con Try.prog 7 [.d (.ro 13 (evs l))] (.tu [.v (.int .i64 ((n : Nat) : Int)), .v (.int .i64 x)]) := by
  have k := judgeOk l (fun e he => exEv_ok e (h e he)) (by omega)
  rw [hj] at k; exact k
theorem ex_take : List.take 5 (evs exEv) = evs (exEv.take 5) := evs_take _ _
set_option maxRecDepth 100000 in
theorem awakeOk  : Con Try.prog 6 [] (.v (.bool true)) := by
  refine Con.intro (by kernel_rfl) rfl rfl 68 rfl rfl fun w0 K ac hK r => ?_
  refine toAt (todo' := aft Try.f6 2) (E' := [(0, .d (.v (.bool false))), (2, .sl 1 (6))]) (M' := [.bx 32 [.z 5, .d (.v (.int .u64 1))], .rw 40 13 ([[.z 6, .z 5, .v (.int .u64 1), .z 0, .v (.int .u64 0), .v (.int .u64 0), .v (.slice none 0 0), .v (.int .u64 0), .z 0, .v (.int .u64 0), .v (.slice none 0 0), .v (.slice none 0 0), .v (.slice none 0 0)], [.z 1, .z 5, .v (.int .u64 1), .z 0, .v (.int .u64 0), .v (.int .u64 1), .v (.slice none 0 0), .v (.int .u64 0), .z 0, .v (.int .u64 0), .v (.slice none 0 0), .v (.slice none 0 0), .v (.slice none 0 0)], [.z 2, .z 5, .v (.int .u64 1), .z 5, .v (.int .u64 1), .v (.int .u64 1), .v (.slice none 0 0), .v (.int .u64 0), .z 0, .v (.int .u64 0), .v (.slice none 0 0), .v (.slice none 0 0), .v (.slice none 0 0)], [.z 3, .z 5, .v (.int .u64 1), .z 0, .v (.int .u64 0), .v (.int .u64 0), .v (.slice none 0 0), .v (.int .u64 0), .z 0, .v (.int .u64 0), .v (.slice none 0 0), .v (.slice none 0 0), .v (.slice none 0 0)], [.z 4, .z 5, .v (.int .u64 1), .z 0, .v (.int .u64 0), .v (.int .u64 0), .v (.slice none 0 0), .v (.int .u64 0), .z 0, .v (.int .u64 0), .v (.slice none 0 0), .v (.slice none 0 0), .v (.slice none 0 0)], [.z 1, .z 5, .v (.int .u64 1), .z 0, .v (.int .u64 0), .v (.int .u64 2), .v (.slice none 0 0), .v (.int .u64 0), .z 0, .v (.int .u64 0), .v (.slice none 0 0), .v (.slice none 0 0), .v (.slice none 0 0)]])]) tb_ok mixed_ok hK [] 6 [0, 1] [0, 2] r (by kernel_rfl) trivial fun ac wd r => ?_
  have r := (r.less 1 rfl (LeR.cons (LeL.cons (Le.refl _) (LeL.cons (Le.refl _) (LeL.cons (Le.refl _) (LeL.cons (Le.refl _) (LeL.cons (Le.refl _) (LeL.cons (Le.refl _) (LeL.cons (Le.nilRo 1) (LeL.cons (Le.refl _) (LeL.cons (Le.refl _) (LeL.cons (Le.refl _) (LeL.cons (Le.nilRo 2) (LeL.cons (Le.nilRo 1) (LeL.cons (Le.nilRo 2) (LeL.nil)))))))))))))) (LeR.cons (LeL.cons (Le.refl _) (LeL.cons (Le.refl _) (LeL.cons (Le.refl _) (LeL.cons (Le.refl _) (LeL.cons (Le.refl _) (LeL.cons (Le.refl _) (LeL.cons (Le.nilRo 1) (LeL.cons (Le.refl _) (LeL.cons (Le.refl _) (LeL.cons (Le.refl _) (LeL.cons (Le.nilRo 2) (LeL.cons (Le.nilRo 1) (LeL.cons (Le.nilRo 2) (LeL.nil)))))))))))))) (LeR.cons (LeL.cons (Le.refl _) (LeL.cons (Le.refl _) (LeL.cons (Le.refl _) (LeL.cons (Le.refl _) (LeL.cons (Le.refl _) (LeL.cons (Le.refl _) (LeL.cons (Le.nilRo 1) (LeL.cons (Le.refl _) (LeL.cons (Le.refl _) (LeL.cons (Le.refl _) (LeL.cons (Le.nilRo 2) (LeL.cons (Le.nilRo 1) (LeL.cons (Le.nilRo 2) (LeL.nil)))))))))))))) (LeR.cons (LeL.cons (Le.refl _) (LeL.cons (Le.refl _) (LeL.cons (Le.refl _) (LeL.cons (Le.refl _) (LeL.cons (Le.refl _) (LeL.cons (Le.refl _) (LeL.cons (Le.nilRo 1) (LeL.cons (Le.refl _) (LeL.cons (Le.refl _) (LeL.cons (Le.refl _) (LeL.cons (Le.nilRo 2) (LeL.cons (Le.nilRo 1) (LeL.cons (Le.nilRo 2) (LeL.nil)))))))))))))) (LeR.cons (LeL.cons (Le.refl _) (LeL.cons (Le.refl _) (LeL.cons (Le.refl _) (LeL.cons (Le.refl _) (LeL.cons (Le.refl _) (LeL.cons (Le.refl _) (LeL.cons (Le.nilRo 1) (LeL.cons (Le.refl _) (LeL.cons (Le.refl _) (LeL.cons (Le.refl _) (LeL.cons (Le.nilRo 2) (LeL.cons (Le.nilRo 1) (LeL.cons (Le.nilRo 2) (LeL.nil)))))))))))))) (LeR.cons (LeL.cons (Le.refl _) (LeL.cons (Le.refl _) (LeL.cons (Le.refl _) (LeL.cons (Le.refl _) (LeL.cons (Le.refl _) (LeL.cons (Le.refl _) (LeL.cons (Le.nilRo 1) (LeL.cons (Le.refl _) (LeL.cons (Le.refl _) (LeL.cons (Le.refl _) (LeL.cons (Le.nilRo 2) (LeL.cons (Le.nilRo 1) (LeL.cons (Le.nilRo 2) (LeL.nil)))))))))))))) (LeR.nil)))))))).cast (M' := [.bx 32 [.z 5, .d (.v (.int .u64 1))], .rw 40 13 (evs exEv)]) rfl rfl
  have r := r.stay (p1 := [(6) = (evs exEv).length]) (p2 := []) (E1 := [(0, .d (.v (.bool false))), (2, .d (.ro 13 (frozR (evs exEv))))]) (M1 := [.bx 32 [.z 5, .d (.v (.int .u64 1))], .dead]) (M2 := [.bx 32 [.z 5, .d (.v (.int .u64 1))], .dead]) (E2 := [(0, .d (.v (.bool false))), (2, .d (.ro 13 (evs exEv)))]) (M3 := [.bx 32 [.z 5, .d (.v (.int .u64 1))], .dead]) [2] [] (by kernel_rfl) (by kernel_rfl) (And.intro (by kernel_rfl) trivial) trivial (by rw [froz_evs]) rfl
  exact toRet tb_ok mixed_ok hK rfl [(3, [(1, .con (.tu [.z 5, .z 231]))]), (4, [(1, .ix (0) [.z ((evEx 6 p00 0).kind), .z ((evEx 6 p00 0).who.node), .u ((evEx 6 p00 0).who.inc), .z ((evEx 6 p00 0).frm.node), .u ((evEx 6 p00 0).frm.inc), .u ((evEx 6 p00 0).n), .ro 1 (bytesR (evEx 6 p00 0).body), .u ((evEx 6 p00 0).view.id.round), .z ((evEx 6 p00 0).view.id.server.node), .u ((evEx 6 p00 0).view.id.server.inc), .ro 2 (procs (evEx 6 p00 0).view.members), .ro 1 (nums (evEx 6 p00 0).view.starts), .ro 2 (procs (evEx 6 p00 0).transit)]), (4, .ix (2) [.z ((evEx 2 pEx 1).kind), .z ((evEx 2 pEx 1).who.node), .u ((evEx 2 pEx 1).who.inc), .z ((evEx 2 pEx 1).frm.node), .u ((evEx 2 pEx 1).frm.inc), .u ((evEx 2 pEx 1).n), .ro 1 (bytesR (evEx 2 pEx 1).body), .u ((evEx 2 pEx 1).view.id.round), .z ((evEx 2 pEx 1).view.id.server.node), .u ((evEx 2 pEx 1).view.id.server.inc), .ro 2 (procs (evEx 2 pEx 1).view.members), .ro 1 (nums (evEx 2 pEx 1).view.starts), .ro 2 (procs (evEx 2 pEx 1).transit)]), (7, .call [.d (.ro 13 (evs [evEx 6 p00 0, evEx 2 pEx 1]))] (.tu [.z 1, .z 233]))]), (5, [(1, .n2 (5) (0)), (2, .con (.tu [.z 5, .z 0]))])] 2000 r (by kernel_rfl) (an (exJ exEv (fun _ h => h) (by decide) ex_1 : Con Try.prog 7 [.d (.ro 13 (evs exEv))] (.tu [.z 5, .z 231])) (an (rfl : (0) = ((0 : Nat) : Int)) (an ((evs_at (l := exEv) rfl) : (evs exEv)[0]? = some [.z ((evEx 6 p00 0).kind), .z ((evEx 6 p00 0).who.node), .u ((evEx 6 p00 0).who.inc), .z ((evEx 6 p00 0).frm.node), .u ((evEx 6 p00 0).frm.inc), .u ((evEx 6 p00 0).n), .ro 1 (bytesR (evEx 6 p00 0).body), .u ((evEx 6 p00 0).view.id.round), .z ((evEx 6 p00 0).view.id.server.node), .u ((evEx 6 p00 0).view.id.server.inc), .ro 2 (procs (evEx 6 p00 0).view.members), .ro 1 (nums (evEx 6 p00 0).view.starts), .ro 2 (procs (evEx 6 p00 0).transit)]) (an (rfl : (2) = ((2 : Nat) : Int)) (an ((evs_at (l := exEv) rfl) : (evs exEv)[2]? = some [.z ((evEx 2 pEx 1).kind), .z ((evEx 2 pEx 1).who.node), .u ((evEx 2 pEx 1).who.inc), .z ((evEx 2 pEx 1).frm.node), .u ((evEx 2 pEx 1).frm.inc), .u ((evEx 2 pEx 1).n), .ro 1 (bytesR (evEx 2 pEx 1).body), .u ((evEx 2 pEx 1).view.id.round), .z ((evEx 2 pEx 1).view.id.server.node), .u ((evEx 2 pEx 1).view.id.server.inc), .ro 2 (procs (evEx 2 pEx 1).view.members), .ro 1 (nums (evEx 2 pEx 1).view.starts), .ro 2 (procs (evEx 2 pEx 1).transit)]) (an (exJ [evEx 6 p00 0, evEx 2 pEx 1] (by unfold exEv; simp) (by decide) ex_2) (an ((ind_two _ _) : Ind (.tu [.z 1, .z 233])) (an (rfN (13)) (an ((by first | rfl | (simp; done) | (simp <;> omega)) : (2) = ([[.z ((evEx 6 p00 0).kind), .z ((evEx 6 p00 0).who.node), .u ((evEx 6 p00 0).who.inc), .z ((evEx 6 p00 0).frm.node), .u ((evEx 6 p00 0).frm.inc), .u ((evEx 6 p00 0).n), .ro 1 (bytesR (evEx 6 p00 0).body), .u ((evEx 6 p00 0).view.id.round), .z ((evEx 6 p00 0).view.id.server.node), .u ((evEx 6 p00 0).view.id.server.inc), .ro 2 (procs (evEx 6 p00 0).view.members), .ro 1 (nums (evEx 6 p00 0).view.starts), .ro 2 (procs (evEx 6 p00 0).transit)], [.z ((evEx 2 pEx 1).kind), .z ((evEx 2 pEx 1).who.node), .u ((evEx 2 pEx 1).who.inc), .z ((evEx 2 pEx 1).frm.node), .u ((evEx 2 pEx 1).frm.inc), .u ((evEx 2 pEx 1).n), .ro 1 (bytesR (evEx 2 pEx 1).body), .u ((evEx 2 pEx 1).view.id.round), .z ((evEx 2 pEx 1).view.id.server.node), .u ((evEx 2 pEx 1).view.id.server.inc), .ro 2 (procs (evEx 2 pEx 1).view.members), .ro 1 (nums (evEx 2 pEx 1).view.starts), .ro 2 (procs (evEx 2 pEx 1).transit)]] : List (List DV)).length) (an ((by first | rfl | exact froz_evs [evEx 6 p00 0, evEx 2 pEx 1]) : frozR ([[.z ((evEx 6 p00 0).kind), .z ((evEx 6 p00 0).who.node), .u ((evEx 6 p00 0).who.inc), .z ((evEx 6 p00 0).frm.node), .u ((evEx 6 p00 0).frm.inc), .u ((evEx 6 p00 0).n), .ro 1 (bytesR (evEx 6 p00 0).body), .u ((evEx 6 p00 0).view.id.round), .z ((evEx 6 p00 0).view.id.server.node), .u ((evEx 6 p00 0).view.id.server.inc), .ro 2 (procs (evEx 6 p00 0).view.members), .ro 1 (nums (evEx 6 p00 0).view.starts), .ro 2 (procs (evEx 6 p00 0).transit)], [.z ((evEx 2 pEx 1).kind), .z ((evEx 2 pEx 1).who.node), .u ((evEx 2 pEx 1).who.inc), .z ((evEx 2 pEx 1).frm.node), .u ((evEx 2 pEx 1).frm.inc), .u ((evEx 2 pEx 1).n), .ro 1 (bytesR (evEx 2 pEx 1).body), .u ((evEx 2 pEx 1).view.id.round), .z ((evEx 2 pEx 1).view.id.server.node), .u ((evEx 2 pEx 1).view.id.server.inc), .ro 2 (procs (evEx 2 pEx 1).view.members), .ro 1 (nums (evEx 2 pEx 1).view.starts), .ro 2 (procs (evEx 2 pEx 1).transit)]]) = evs [evEx 6 p00 0, evEx 2 pEx 1]) (an (rfl : (5 : Int) = ((5 : Nat) : Int)) (an ((Nat.le_of_ble_eq_true (by kernel_rfl)) : (5) ≤ (evs exEv : List (List DV)).length) (an ((by rw [ex_take]; exact exJ (exEv.take 5) (fun _ h => List.mem_of_mem_take h) (by decide) ex_3) : Con Try.prog 7 [.d (.ro 13 (List.take (5) (evs exEv)))] (.tu [.z 5, .z 0])) trivial)))))))))))))
theorem stF_take (l : List Ev) (k : Nat) : ∀ {i : Nat}, i ≤ k → stF (l.take k) i = stF l i
  | 0, _ => rfl
  | i + 1, h => by
    have e : (l.take k)[i]? = l[i]? := by rw [List.getElem?_take, if_pos (by omega)]
    rw [stF, stF, e, stF_take l k (show i ≤ k by omega)]
theorem errAt_take {l : List Ev} {k i : Nat} (h : i < k) : errAt (l.take k) i = errAt l i := by
  have e : (l.take k)[i]? = l[i]? := by rw [List.getElem?_take, if_pos h]
  rw [errAt, errAt, e, stF_take l k (show i ≤ k by omega)]
theorem judge_or (l : List Ev) : (judge l = (l.length, 0) ∧ ∀ j, j < l.length → errAt l j = 0) ∨ ∃ i, i < l.length ∧ (∀ j, j < i → errAt l j = 0) ∧ errAt l i ≠ 0 ∧ judge l = (i, errAt l i) := by
  cases h : (List.range l.length).find? fun i => decide (errAt l i ≠ 0) with
  | none =>
    refine .inl ⟨by unfold judge; rw [h], fun j hj => ?_⟩
    rw [List.find?_eq_none] at h
    have := h j (by simpa using hj); simpa using this
  | some i =>
    refine .inr ⟨i, ?_⟩
    have h' := h
    rw [List.find?_range_eq_some] at h'
    obtain ⟨h1, h2, h3⟩ := h'
    exact ⟨by simpa using h2, fun j hj => by have := h3 j hj; simpa using this, by simpa using h1, by unfold judge; rw [h]⟩
theorem judge_more {l : List Ev} {k : Nat} (h : ¬ (judge l).1 < k) (hk : k ≤ l.length) : judge (l.take k) = (k, 0) := by
  have hall : ∀ j, j < k → errAt l j = 0 := fun j hj => by
    rcases judge_or l with ⟨e, h1⟩ | ⟨i, hi, h1, h2, e⟩
    · exact h1 j (by omega)
    · rw [e] at h; exact h1 j (by dsimp only at h; omega)
  have hlen : (l.take k).length = k := by rw [List.length_take]; omega
  rw [judge_all (l := l.take k) fun j hj => by rw [errAt_take (by omega)]; exact hall j (by omega), hlen]
end Go.Proofs.Ytilhbhpldkjkaaa
namespace Go.Proofs.Ytilhbhpldkjkaaa
open Go.RowKit
theorem Try.own : ownKnob Try.prog.godebug = none := by kernel_rfl
deriving instance Inhabited for Proc, Vid, View, Ev
variable {w : World}
theorem Rd.int' {P : Program} {t : TypeId} (h : P.underlying t = some (.int .i64)) : Rd P w t (fun n : Int => [.z n]) fun n => -9223372036854775808 ≤ n ∧ n ≤ 9223372036854775807 := fun cs hc => by
  obtain ⟨n, rfl, hw⟩ := hc.int h
  have hw' : -9223372036854775808 ≤ n ∧ n ≤ 9223372036854775807 := by simpa [Lit.wf, IntKind.min, IntKind.max, IntKind.signed, IntKind.bits] using hw
  exact ⟨n, hw', .one (.v _)⟩
def Rs (P : Program) (w : World) (fs : List Field) (off tot : Nat) {α : Type} (row : α → List DV) (ok : α → Prop) : Prop := ∀ cs : List Value, cs.length = tot → (∀ f ∈ fs, TR P w f.type ((cs.drop f.offset).take (P.cellsOf f.type))) → ∃ x, ok x ∧ DRs w (row x) (cs.drop off)
theorem Rs.nil {P : Program} {tot : Nat} : Rs P w [] tot tot (fun _ : Unit => []) fun _ => True := fun cs hl _ => ⟨(), trivial, by rw [List.drop_of_length_le (by omega)]; exact ⟨rfl, by simp⟩⟩
theorem Rs.cons {P : Program} {f : Field} {fs : List Field} {off k tot : Nat} {α β : Type} {row0 : α → List DV} {row1 : β → List DV} {ok0 : α → Prop} {ok1 : β → Prop} (h0 : f.offset = off) (hk : P.cellsOf f.type = k) (r : Rd P w f.type row0 ok0) (rs : Rs P w fs (off + k) tot row1 ok1) : Rs P w (f :: fs) off tot (fun x : α × β => row0 x.1 ++ row1 x.2) fun x => ok0 x.1 ∧ ok1 x.2 := fun cs hl hf => by
  have a0 := hf f List.mem_cons_self
  rw [h0, hk] at a0
  obtain ⟨x, b0, c0⟩ := r _ a0
  obtain ⟨y, b1, c1⟩ := rs cs hl fun g hg => hf g (List.mem_cons_of_mem _ hg)
  refine ⟨(x, y), ⟨b0, b1⟩, ?_⟩
  have := c0.app c1
  rwa [← List.drop_drop, List.take_append_drop] at this
theorem Rd.struct {P : Program} {t tot : Nat} {fs : List Field} {α : Type} {row : α → List DV} {ok : α → Prop} (h : P.underlying t = some (.struct fs.toArray)) (ht : P.cellsOf t = tot) (rs : Rs P w fs 0 tot row ok) : Rd P w t row ok := fun cs hc => by
  obtain ⟨hl, hf⟩ := hc.struct h
  obtain ⟨x, h1, h2⟩ := rs cs (by omega) (by simpa using hf)
  exact ⟨x, h1, by simpa using h2⟩
theorem rd_proc : Rd Try.prog w 32 Proc.row Proc.okP := ((Rd.struct (fs := [⟨"Node", 3, 0, false, "", "", 0⟩, ⟨"Inc", 30, 1, false, "", "", 8⟩]) (tot := 2) (by kernel_rfl) (by kernel_rfl) (Rs.cons rfl (k := 1) (by kernel_rfl) (Rd.int' Try.underlying3) (Rs.cons rfl (k := 1) (by kernel_rfl) (Rd.u64 Try.underlying30) Rs.nil))).map fun x => Proc.mk x.1 x.2.1) (fun _ => rfl) fun _ h => ⟨h.1, h.2.1⟩
theorem rd_bytes : Rd Try.prog w 33 (fun l : List UInt8 => [.ro 1 (bytesR l)]) fun l => l.length ≤ 9223372036854775807 := ((Rd.slice Try.underlying33 (by kernel_rfl) (Rd.byte Try.underlying5)).map id) (fun _ => rfl) fun _ h => h.1
theorem rd_nums : Rd Try.prog w 36 (fun l : List Nat => [.ro 1 (nums l)]) fun l => l.length ≤ 9223372036854775807 ∧ ∀ n ∈ l, n ≤ 18446744073709551615 := Rd.slice Try.underlying36 (by kernel_rfl) (Rd.u64 Try.underlying30)
theorem rd_procs : Rd Try.prog w 29 (fun l : List Proc => [.ro 2 (procs l)]) fun l => l.length ≤ 9223372036854775807 ∧ ∀ p ∈ l, p.okP := Rd.slice Try.underlying29 (by kernel_rfl) rd_proc
def Vid.row (v : Vid) : List DV := .u v.round :: v.server.row
theorem rd_vid : Rd Try.prog w 35 Vid.row Vid.okV := ((Rd.struct (fs := [⟨"Round", 30, 0, false, "", "", 0⟩, ⟨"Server", 32, 1, false, "", "", 8⟩]) (tot := 3) (by kernel_rfl) (by kernel_rfl) (Rs.cons rfl (k := 1) (by kernel_rfl) (Rd.u64 Try.underlying30) (Rs.cons rfl (k := 2) (by kernel_rfl) rd_proc Rs.nil))).map fun x => Vid.mk x.1 x.2.1) (fun x => by simp [Vid.row]) fun _ h => ⟨h.1, h.2.1⟩
structure View.Rd (v : View) : Prop where
  vid : v.id.okV
  members : v.members.length ≤ 9223372036854775807
  starts : v.starts.length ≤ 9223372036854775807
theorem rd_view : Go.Proofs.Ytilhbhpldkjkaaa.Rd Try.prog w 38 View.row View.Rd := ((Rd.struct (fs := [⟨"Id", 35, 0, false, "", "", 0⟩, ⟨"Members", 29, 3, false, "", "", 24⟩, ⟨"Starts", 36, 4, false, "", "", 48⟩]) (tot := 5) (by kernel_rfl) (by kernel_rfl) (Rs.cons rfl (k := 3) (by kernel_rfl) rd_vid (Rs.cons rfl (k := 1) (by kernel_rfl) rd_procs (Rs.cons rfl (k := 1) (by kernel_rfl) rd_nums Rs.nil)))).map fun x => View.mk x.1 x.2.1 x.2.2.1) (fun x => by simp [View.row, Vid.row, Proc.row]) fun _ h => ⟨h.1, h.2.1.1, h.2.2.1.1⟩
theorem rd_ev : Go.Proofs.Ytilhbhpldkjkaaa.Rd Try.prog w 40 Ev.row Ev.Rd := ((Rd.struct (fs := [⟨"Kind", 3, 0, false, "", "", 0⟩, ⟨"Who", 32, 1, false, "", "", 8⟩, ⟨"From", 32, 3, false, "", "", 24⟩, ⟨"N", 30, 5, false, "", "", 40⟩, ⟨"Body", 33, 6, false, "", "", 48⟩, ⟨"View", 38, 7, false, "", "", 72⟩, ⟨"Transit", 29, 12, false, "", "", 144⟩]) (tot := 13) (by kernel_rfl) (by kernel_rfl) (Rs.cons rfl (k := 1) (by kernel_rfl) (Rd.int' Try.underlying3) (Rs.cons rfl (k := 2) (by kernel_rfl) rd_proc (Rs.cons rfl (k := 2) (by kernel_rfl) rd_proc (Rs.cons rfl (k := 1) (by kernel_rfl) (Rd.u64 Try.underlying30) (Rs.cons rfl (k := 1) (by kernel_rfl) rd_bytes (Rs.cons rfl (k := 5) (by kernel_rfl) rd_view (Rs.cons rfl (k := 1) (by kernel_rfl) rd_procs Rs.nil)))))))).map fun x => Ev.mk x.1 x.2.1 x.2.2.1 x.2.2.2.1 x.2.2.2.2.1 x.2.2.2.2.2.1 x.2.2.2.2.2.2.1) (fun x => by simp [Ev.row, View.row, Proc.row]) fun _ h => ⟨h.2.1, h.2.2.1, h.2.2.2.1, h.2.2.2.2.2.1.vid, h.2.2.2.2.1, h.2.2.2.2.2.1.members, h.2.2.2.2.2.1.starts, h.2.2.2.2.2.2.1.1⟩
theorem rd_evs : Go.Proofs.Ytilhbhpldkjkaaa.Rd Try.prog w 22 (fun l : List Ev => [.ro 13 (evs l)]) fun l => l.length ≤ 9223372036854775807 ∧ ∀ e ∈ l, e.Rd := Rd.slice Try.underlying22 (by kernel_rfl) rd_ev
end Go.Proofs.Ytilhbhpldkjkaaa
namespace Go.Proofs.Ytilhbhpldkjkaaa
open Go.RowKit
inductive Runs : JS → List Ev → JS → Prop where
  | nil (s : JS) : Runs s [] s
  | cons {s t : JS} {e : Ev} {l : List Ev} (h : (nextJ s e).1 = 0) (r : Runs (nextJ s e).2 l t) : Runs s (e :: l) t
theorem Runs.app {s t u : JS} {a b : List Ev} (h : Runs s a t) (k : Runs t b u) : Runs s (a ++ b) u := by
  induction h with
  | nil => exact k
  | cons h r ih => exact .cons h (ih k)
theorem stF_app (l m : List Ev) : ∀ {i : Nat}, i ≤ l.length → stF (l ++ m) i = stF l i
  | 0, _ => rfl
  | i + 1, h => by
    have e : (l ++ m)[i]? = l[i]? := by rw [List.getElem?_append_left (by omega)]
    rw [stF, stF, e, stF_app l m (show i ≤ l.length by omega)]
theorem stF_behind (l : List Ev) (e : Ev) : stF (l ++ [e]) (l.length + 1) = (nextJ (stF l l.length) e).2 := by
  rw [stF_succ (e := e) (by simp), stF_app l [e] (Nat.le_refl _)]
theorem runs_judge : ∀ {m l : List Ev} {t : JS}, Runs (stF l l.length) m t → (∀ j, j < l.length → errAt l j = 0) → (∀ j, j < (l ++ m).length → errAt (l ++ m) j = 0) ∧ stF (l ++ m) (l ++ m).length = t
  | [], l, t, h, h0 => by
    rw [List.append_nil]
    cases h; exact ⟨h0, rfl⟩
  | e :: m, l, t, h, h0 => by
    cases h with
    | cons h1 r =>
      have h2 : (l ++ [e]).length = l.length + 1 := by simp
      have := runs_judge (m := m) (l := l ++ [e]) (t := t) (by rw [h2, stF_behind]; exact r) fun j hj => by
        rcases Nat.lt_succ_iff_lt_or_eq.1 (h2 ▸ hj) with hl | rfl
        · have e1 : (l ++ [e])[j]? = l[j]? := List.getElem?_append_left hl
          rw [errAt, e1, stF_app l [e] (Nat.le_of_lt hl)]; exact h0 j hl
        · rw [errAt_some (e := e) (by simp), stF_app l [e] (Nat.le_refl _)]; exact h1
      rw [List.append_assoc] at this; exact this
theorem judge_runs {l m : List Ev} {t : JS} (h0 : ∀ j, j < l.length → errAt l j = 0) (h : Runs (stF l l.length) m t) : judge (l ++ m) = ((l ++ m).length, 0) := judge_all (runs_judge h h0).1
def onStep (on : List Proc) (e : Ev) : List Proc := if e.kind = 6 then on ++ [e.who] else if e.kind = 7 then on.filter fun p => decide (p ≠ e.who) else on
def onTo (l : List Ev) : Nat → List Proc
  | 0 => []
  | i + 1 => match l[i]? with | some e => onStep (onTo l i) e | none => onTo l i
structure OnI (L : Lives) (on : List Proc) : Prop where
  nd : on.Nodup
  iff : ∀ p, p ∈ on ↔ ∃ f, getK L p = some f ∧ f.on = true
theorem onTo_len (l : List Ev) : ∀ i, (onTo l i).length ≤ i
  | 0 => by simp [onTo]
  | i + 1 => by
    have := onTo_len l i
    rw [onTo]
    split
    · unfold onStep; split
      · simp; omega
      · split
        · exact Nat.le_trans (List.length_filter_le _ _) (by omega)
        · omega
    · omega
theorem setK_on {L : Lives} {q : Proc} {f f' : Life} {on : List Proc} (h : OnI L on) (hf : getK L q = some f) (ho : f'.on = f.on) : OnI (setK L q f') on where
  nd := h.nd
  iff := fun p => by
    rw [h.iff p, getK_setK]
    by_cases hp : p = q
    · subst hp; rw [if_pos rfl, hf]; simp [ho]
    · rw [if_neg hp]
theorem getK_others {L : Lives} {p q : Proc} : getK (others L p) q = if q.node = p.node then none else getK L q := by
  unfold others
  induction L with
  | nil => simp [getK]
  | cons x r ih =>
    rw [List.filter_cons, getK_cons]
    by_cases h1 : x.2.1.node = p.node
    · rw [if_neg (by simp [h1]), ih]
      by_cases h2 : q.node = p.node
      · rw [if_pos h2, if_pos h2]
      · rw [if_neg h2, if_neg h2, if_neg (fun e => h2 (by rw [← e]; exact h1))]
    · rw [if_pos (by simp [h1]), getK_cons, ih]
      by_cases h3 : x.2.1 = q
      · rw [if_pos h3, if_neg (by rw [← h3]; exact h1), if_pos h3]
      · rw [if_neg h3, if_neg h3]
theorem begin_zero {L : Lives} {nl : Nat} {p : Proc} (h : (beginJ L nl p).err = 0) : p.may = true ∧ endsB L p = false ∧ beginJ L nl p = ⟨0, others L p ++ [(nl, p, Life.new p)], nl + 1⟩ := by
  by_cases h1 : p.may = false
  · rw [beginJ1 h1] at h; exact absurd h (by simp)
  · have h1 : p.may = true := by simpa using h1
    by_cases h2 : endsB L p = true
    · rw [beginJ2 h2] at h; exact absurd h (by simp)
    · have h2 : endsB L p = false := by simpa using h2
      exact ⟨h1, h2, beginJ3 h1 h2⟩
theorem ends_off {L : Lives} {p q : Proc} {f : Life} (h : endsB L p = false) (hf : getK L q = some f) (hn : q.node = p.node) : f.on = false ∧ q.inc < p.inc := by
  obtain ⟨b, hb⟩ := getK_mem hf
  unfold endsB at h; rw [List.any_eq_false] at h
  have := h _ hb
  simp only [hn, decide_true, Bool.true_and, Bool.or_eq_true, decide_eq_true_eq, not_or] at this
  exact ⟨by simpa using this.1, by omega⟩
theorem on_begin {L : Lives} {nl : Nat} {p : Proc} {on : List Proc} (h : OnI L on) (he : endsB L p = false) : OnI (others L p ++ [(nl, p, Life.new p)]) (on ++ [p]) where
  nd := by
    rw [List.nodup_append]
    refine ⟨h.nd, by simp, fun a ha b hb e => ?_⟩
    simp at hb; subst hb; subst e
    obtain ⟨f, hf, ho⟩ := (h.iff a).1 ha
    rw [(ends_off he hf rfl).1] at ho; cases ho
  iff := fun q => by
    rw [List.mem_append, List.mem_singleton, getK_app, getK_others, getK_cons]
    by_cases h1 : q.node = p.node
    · rw [if_pos h1]
      by_cases h2 : q = p
      · subst h2; simp [Life.new]
      · have h3 : ¬ p = q := fun e => h2 e.symm
        simp only [Option.none_or, h3, if_false, h2, or_false, h.iff q]
        constructor
        · rintro ⟨f, hf, ho⟩; rw [(ends_off he hf h1).1] at ho; cases ho
        · rintro ⟨f, hf, -⟩; simp [getK] at hf
    · rw [if_neg h1]
      have h2 : ¬ q = p := fun e => h1 (by rw [e])
      have h3 : ¬ p = q := fun e => h2 e.symm
      simp only [h3, if_false, h2, or_false, h.iff q]
      have : getK ([] : Lives) q = none := rfl
      rw [this, Option.or_none]
theorem on_end {L : Lives} {q : Proc} {f : Life} {on : List Proc} (h : OnI L on) (hf : getK L q = some f) : OnI (setK L q { f with on := false }) (on.filter fun p => decide (p ≠ q)) where
  nd := (List.filter_sublist).nodup h.nd
  iff := fun p => by
    rw [List.mem_filter, h.iff p, getK_setK]
    by_cases hp : p = q
    · subst hp; rw [if_pos rfl, hf]; simp
    · rw [if_neg hp]; simp [hp]
theorem life_zero {s : JS} {e : Ev} (h : (nextJ s e).1 = 0) (h6 : e.kind ≠ 6) : ∃ f, getK s.L e.who = some f ∧ f.on = true ∧ nextJ s e = lifeJ s f e := by
  cases hg : getK s.L e.who with
  | none => rw [nextJn h6 hg] at h; exact absurd h (by simp)
  | some f =>
    cases ho : f.on with
    | false => rw [nextJo h6 hg ho] at h; exact absurd h (by simp)
    | true => exact ⟨f, rfl, ho, nextJl h6 hg ho⟩
theorem send_on (A : Sent) (ns : Nat) (f : Life) (e : Ev) : (sendJ A ns f e).f.on = f.on := by unfold sendJ; split; rfl; split <;> rfl
theorem deliver_on (A : Sent) (f : Life) (e : Ev) : (deliverJ A f e).f.on = f.on := by unfold deliverJ; split; rfl; split; rfl; split <;> rfl
theorem turn_on (f : Life) (a b : Int) : (f.turn a b).2.on = f.on := by unfold Life.turn; split <;> rfl
theorem view_on (C : Camed) (nc : Nat) (G : Goned) (ng : Nat) (f : Life) (e : Ev) : (viewJ C nc G ng f e).f.on = f.on := by
  rcases viewJ_cases (C := C) (nc := nc) (G := G) (ng := ng) (f := f) (e := e) with ⟨-, -, -, -, -, h⟩ | ⟨h, -⟩
  · rw [h]
  · rw [h]; rfl
theorem on_next {s : JS} {e : Ev} {on : List Proc} (h : OnI s.L on) (h0 : (nextJ s e).1 = 0) : OnI (nextJ s e).2.L (onStep on e) := by
  unfold onStep
  by_cases h6 : e.kind = 6
  · rw [if_pos h6]
    rw [nextJ6 h6] at h0 ⊢
    obtain ⟨-, h2, h3⟩ := begin_zero h0
    dsimp only; rw [h3]; exact on_begin h h2
  · rw [if_neg h6]
    obtain ⟨f, hg, ho, hn⟩ := life_zero h0 h6
    rw [hn] at h0 ⊢
    by_cases h7 : e.kind = 7
    · rw [if_pos h7, lifeJ7 h7]; exact on_end h hg
    · rw [if_neg h7]
      unfold lifeJ
      split
      · exact setK_on h hg (send_on _ _ _ _)
      · split
        · exact setK_on h hg (deliver_on _ _ _)
        · split
          · exact setK_on h hg (turn_on _ _ _)
          · split
            · exact setK_on h hg (turn_on _ _ _)
            · split
              · exact setK_on h hg (view_on _ _ _ _ _ _)
              · exact h
theorem onTo_ok {l : List Ev} : ∀ {i : Nat}, i ≤ l.length → (∀ j, j < i → errAt l j = 0) → OnI (stF l i).L (onTo l i)
  | 0, _, _ => ⟨List.nodup_nil, fun p => by simp [onTo, stF, JS.zero, getK]⟩
  | i + 1, h, h0 => by
    have e := List.getElem?_eq_getElem (show i < l.length by omega)
    have ih := onTo_ok (l := l) (i := i) (by omega) fun j hj => h0 j (by omega)
    have h1 := h0 i (by omega)
    rw [errAt_some e] at h1
    rw [stF_succ e, onTo, e]
    exact on_next ih h1
def endEv (p : Proc) : Ev := ⟨7, p, ⟨0, 0⟩, 0, [], ⟨⟨0, ⟨0, 0⟩⟩, [], []⟩, []⟩
theorem end_runs {s : JS} {p : Proc} {f : Life} (hg : getK s.L p = some f) (ho : f.on = true) : nextJ s (endEv p) = (0, { s with L := setK s.L p { f with on := false } }) := by
  rw [nextJl (f := f) (by simp [endEv]) hg ho, lifeJ7 rfl]; rfl
theorem ends_run : ∀ {on : List Proc} {s : JS}, on.Nodup → (∀ p ∈ on, ∃ f, getK s.L p = some f ∧ f.on = true) → ∃ t, Runs s (on.map endEv) t ∧ ∀ q, getK t.L q = (getK s.L q).map fun f => if q ∈ on then { f with on := false } else f
  | [], s, _, _ => ⟨s, .nil s, fun q => by cases getK s.L q <;> simp⟩
  | p :: on, s, hn, h => by
    rw [List.nodup_cons] at hn
    obtain ⟨f, hf, ho⟩ := h p List.mem_cons_self
    have e := end_runs hf ho
    obtain ⟨t, h1, h2⟩ := ends_run (on := on) (s := { s with L := setK s.L p { f with on := false } }) hn.2 fun q hq => by
      obtain ⟨g, hg, hgo⟩ := h q (List.mem_cons_of_mem _ hq)
      refine ⟨g, ?_, hgo⟩
      show getK (setK s.L p _) q = _
      rw [getK_setK, if_neg (fun e => hn.1 (by rw [← e]; exact hq))]; exact hg
    refine ⟨t, .cons (by rw [e]) (by rw [e]; exact h1), fun q => ?_⟩
    rw [h2 q]
    show (getK (setK s.L p _) q).map _ = _
    rw [getK_setK]
    by_cases hq : q = p
    · subst hq; rw [if_pos rfl, hf]; simp [hn.1]
    · rw [if_neg hq]; simp [hq]
def anewP (p : Proc) : Proc := ⟨p.node, p.inc + 1⟩
def begEv (p : Proc) : Ev := ⟨6, p, ⟨0, 0⟩, 0, [], ⟨⟨0, ⟨0, 0⟩⟩, [], []⟩, []⟩
def sendEv (p : Proc) : Ev := ⟨1, p, ⟨0, 0⟩, 1, [97], ⟨⟨0, ⟨0, 0⟩⟩, [], []⟩, []⟩
def delEv (p : Proc) : Ev := ⟨2, p, p, 1, [97], ⟨⟨0, ⟨0, 0⟩⟩, [], []⟩, []⟩
def anewEv (p : Proc) : List Ev := if 34359738367 ≤ p.inc then [] else [begEv (anewP p), sendEv (anewP p), delEv (anewP p)]
theorem place_one (p : Proc) : placeN [p] p = 0 ∧ placeB [p] p = true := by
  have h := place_mem.2 (List.mem_singleton.2 rfl : p ∈ [p])
  have := place_lt h
  exact ⟨by simpa using this, h⟩
theorem getK_last {L : Lives} {p : Proc} {nl : Nat} : getK (others L p ++ [(nl, p, Life.new p)]) p = some (Life.new p) := by rw [getK_app, others_fresh, getK_cons, if_pos rfl]; rfl
theorem anew_one {s : JS} {p : Proc} (hm : p.may = true) (he : endsB s.L p = false) : ∃ t, Runs s [begEv p, sendEv p, delEv p] t ∧ ∀ q, q.node ≠ p.node → getK t.L q = getK s.L q := by
  have e1 : nextJ s (begEv p) = (0, { s with L := others s.L p ++ [(s.nl, p, Life.new p)], nl := s.nl + 1 }) := by
    rw [nextJ6 rfl, show (begEv p).who = p from rfl, beginJ3 hm he]
  generalize hs1 : ({ s with L := others s.L p ++ [(s.nl, p, Life.new p)], nl := s.nl + 1 } : JS) = s1 at e1
  have hg1 : getK s1.L p = some (Life.new p) := by rw [← hs1]; exact getK_last
  have hs : sendJ s1.A s1.ns (Life.new p) (sendEv p) = ⟨0, putK s1.A s1.ns ((Life.new p).view.id, p, 1) [97], putC s1.A s1.ns ((Life.new p).view.id, p, 1), { Life.new p with sent := 1 }⟩ := sendJ3 (by simp [Life.new]) (by simp [sendEv]) rfl
  have e2 : nextJ s1 (sendEv p) = (0, { s1 with A := putK s1.A s1.ns ((Life.new p).view.id, p, 1) [97], ns := putC s1.A s1.ns ((Life.new p).view.id, p, 1), L := setK s1.L p { Life.new p with sent := 1 } }) := by
    rw [nextJl (f := Life.new p) (by simp [sendEv]) hg1 rfl, lifeJ1 rfl, hs]; rfl
  generalize hs2 : ({ s1 with A := putK s1.A s1.ns ((Life.new p).view.id, p, 1) [97], ns := putC s1.A s1.ns ((Life.new p).view.id, p, 1), L := setK s1.L p { Life.new p with sent := 1 } } : JS) = s2 at e2
  have hg2 : getK s2.L p = some { Life.new p with sent := 1 } := by rw [← hs2]; show getK (setK s1.L p _) p = _; rw [getK_setK, if_pos rfl, hg1]; rfl
  have ha2 : getK s2.A ((Life.new p).view.id, p, 1) = some [97] := by rw [← hs2]; show getK (putK s1.A _ _ _) _ = _; rw [getK_putK, if_pos rfl]
  have hd : deliverJ s2.A { Life.new p with sent := 1 } (delEv p) = ⟨0, { Life.new p with sent := 1, handed := (Life.new p).handed.set (placeN [p] p) 1 }⟩ := deliverJ4 (place_one p).2 (by simp [delEv]) (by unfold handedAt; show 0 = (([0] : List Nat)[placeN [p] p]?).getD 0; rw [(place_one p).1]; rfl) ha2
  have e3 : nextJ s2 (delEv p) = (0, { s2 with L := setK s2.L p { Life.new p with sent := 1, handed := (Life.new p).handed.set (placeN [p] p) 1 } }) := by
    rw [nextJl (f := { Life.new p with sent := 1 }) (by simp [delEv]) hg2 rfl, lifeJ2 rfl, hd]; rfl
  refine ⟨_, .cons (by rw [e1]) (by rw [e1]; exact .cons (by rw [e2]) (by rw [e2]; exact .cons (by rw [e3]) (by rw [e3]; exact .nil _))), fun q hq => ?_⟩
  have hqp : ¬ q = p := fun e => hq (by rw [e])
  have hpq : ¬ p = q := fun e => hqp e.symm
  show getK (setK s2.L p _) q = _
  rw [getK_setK, if_neg hqp, ← hs2]
  show getK (setK s1.L p _) q = _
  rw [getK_setK, if_neg hqp, ← hs1]
  show getK (others s.L p ++ [(s.nl, p, Life.new p)]) q = _
  rw [getK_app, getK_others, if_neg hq, getK_cons, if_neg hpq]
  show (getK s.L q).or none = _
  rw [Option.or_none]
theorem ends_not {L : Lives} {p : Proc} (hn : keysN L) (h : ∀ q f, getK L q = some f → q.node = p.node → f.on = false ∧ q.inc < p.inc) : endsB L p = false := by
  unfold endsB; rw [List.any_eq_false]
  intro x hx
  obtain ⟨j, hj, e⟩ := List.getElem_of_mem hx
  have hg : getK L x.2.1 = some x.2.2 := getK_of hn (j := j) (b := x.1) (by rw [List.getElem?_eq_getElem hj, e])
  by_cases hc : x.2.1.node = p.node
  · obtain ⟨h1, h2⟩ := h _ _ hg hc
    simp [hc, h1]; exact h2
  · simp [hc]
theorem anew_run : ∀ {on : List Proc} {s : JS} {k : Nat}, s.Ok k → k + 3 * on.length ≤ 100000 → (∀ p ∈ on, p.okP ∧ p.may = true) → on.Pairwise (fun p q => p.node ≠ q.node) → (∀ p ∈ on, ∀ q f, getK s.L q = some f → q.node = p.node → f.on = false ∧ q.inc ≤ p.inc) → ∃ t, Runs s (on.flatMap anewEv) t
  | [], s, k, _, _, _, _, _ => ⟨s, .nil s⟩
  | p :: on, s, k, hs, hk, hp, hn, h => by
    rw [List.pairwise_cons] at hn
    rw [List.length_cons] at hk
    rw [List.flatMap_cons]
    obtain ⟨hpo, hpm⟩ := hp p List.mem_cons_self
    by_cases hi : 34359738367 ≤ p.inc
    · have : anewEv p = [] := by unfold anewEv; rw [if_pos hi]
      rw [this, List.nil_append]
      exact anew_run (on := on) (s := s) (k := k) hs (by omega) (fun q hq => hp q (List.mem_cons_of_mem _ hq)) hn.2 fun q hq => h q (List.mem_cons_of_mem _ hq)
    · have hev : anewEv p = [begEv (anewP p), sendEv (anewP p), delEv (anewP p)] := by unfold anewEv; rw [if_neg hi]
      have hm : (anewP p).may = true := by
        unfold Proc.may anewP at *; simp only [decide_eq_true_eq] at hpm ⊢; omega
      have ho : (anewP p).okP := ⟨hpo.1, by show p.inc + 1 ≤ _; omega⟩
      obtain ⟨t, h1, h2⟩ := anew_one (s := s) hm (ends_not hs.lives.n fun q f hq hqn => by
        obtain ⟨g1, g2⟩ := h p List.mem_cons_self q f hq hqn
        exact ⟨g1, by show q.inc < p.inc + 1; omega⟩)
      have evOk : ∀ e ∈ [begEv (anewP p), sendEv (anewP p), delEv (anewP p)], e.Ok := by
        have q0 : (⟨0, 0⟩ : Proc).okP := ⟨by dsimp only; omega, by dsimp only; omega⟩
        have q1 : (⟨0, ⟨0, 0⟩⟩ : Vid).okV := ⟨by dsimp only; omega, q0⟩
        intro e he
        simp only [List.mem_cons, List.not_mem_nil, or_false] at he
        rcases he with rfl | rfl | rfl
        · exact ⟨ho, q0, by simp [begEv], q1, by simp [begEv], by simp [begEv], by simp [begEv], by simp [begEv]⟩
        · exact ⟨ho, q0, by simp [sendEv], q1, by simp [sendEv], by simp [sendEv], by simp [sendEv], by simp [sendEv]⟩
        · exact ⟨ho, ho, by simp [delEv], q1, by simp [delEv], by simp [delEv], by simp [delEv], by simp [delEv]⟩
      have runsOk : ∀ {l : List Ev} {a b : JS} {m : Nat}, Runs a l b → a.Ok m → (∀ e ∈ l, e.Ok) → m + l.length ≤ 100000 → b.Ok (m + l.length) := by
        intro l a b m hr
        induction hr generalizing m with
        | nil => intro ha _ _; exact ha
        | @cons s' t' e' l' h r ih =>
          intro ha he hl
          rw [List.length_cons] at hl ⊢
          have := ih (m := m + 1) (nextJ_ok (he _ List.mem_cons_self) ha (by omega)) (fun e h => he e (List.mem_cons_of_mem _ h)) (by omega)
          rw [show m + 1 + l'.length = m + (l'.length + 1) by omega] at this; exact this
      have ht := runsOk h1 hs evOk (by simp; omega)
      obtain ⟨u, h3⟩ := anew_run (on := on) (s := t) (k := k + 3) ht (by omega) (fun q hq => hp q (List.mem_cons_of_mem _ hq)) hn.2 fun q hq r f hr hrn => by
        have hqp := hn.1 q hq
        have hrp : r.node ≠ (anewP p).node := fun e => hqp (by rw [← hrn]; exact e.symm)
        exact h q (List.mem_cons_of_mem _ hq) r f (by rw [← h2 r hrp]; exact hr) hrn
      exact ⟨u, by rw [hev]; exact h1.app h3⟩
theorem may_of_begin {l : List Ev} : ∀ {i : Nat}, i ≤ l.length → (∀ j, j < i → errAt l j = 0) → ∀ p ∈ onTo l i, p.may = true
  | 0, _, _, p, hp => by simp [onTo] at hp
  | i + 1, h, h0, p, hp => by
    have e := List.getElem?_eq_getElem (show i < l.length by omega)
    have ih := may_of_begin (l := l) (i := i) (by omega) (fun j hj => h0 j (by omega))
    have h1 := h0 i (by omega)
    rw [errAt_some e] at h1
    rw [onTo, e] at hp
    dsimp only at hp
    unfold onStep at hp
    split at hp
    · rename_i h6
      rcases List.mem_append.1 hp with hp | hp
      · exact ih p hp
      · simp at hp; subst hp
        rw [nextJ6 h6] at h1; exact (begin_zero h1).1
    · split at hp
      · exact ih p (List.mem_filter.1 hp).1
      · exact ih p hp
theorem anew_law {R : List Ev} (ho : ∀ e ∈ R, e.Ok) (hl : R.length ≤ 250) (h0 : ∀ j, j < R.length → errAt R j = 0) : judge ((R ++ (onTo R R.length).map endEv) ++ (onTo R R.length).flatMap anewEv) = (((R ++ (onTo R R.length).map endEv) ++ (onTo R R.length).flatMap anewEv).length, 0) := by
  have hon := onTo_ok (l := R) (Nat.le_refl _) h0
  have hst := stF_ok (l := R) ho (by omega) (Nat.le_refl _)
  have hlen := onTo_len R R.length
  obtain ⟨t, h1, h2⟩ := ends_run (on := onTo R R.length) (s := stF R R.length) hon.nd fun p hp => (hon.iff p).1 hp
  have hA := runs_judge h1 h0
  have okEnd : ∀ e ∈ R ++ (onTo R R.length).map endEv, e.Ok := by
    intro e he
    rcases List.mem_append.1 he with he | he
    · exact ho e he
    · obtain ⟨p, hp, rfl⟩ := List.mem_map.1 he
      obtain ⟨f, hf, -⟩ := (hon.iff p).1 hp
      obtain ⟨b, hb⟩ := getK_mem hf
      have q0 : (⟨0, 0⟩ : Proc).okP := ⟨by dsimp only; omega, by dsimp only; omega⟩
      have q1 : (⟨0, ⟨0, 0⟩⟩ : Vid).okV := ⟨by dsimp only; omega, q0⟩
      exact ⟨hst.lives.ok _ hb, q0, by simp [endEv], q1, by simp [endEv], by simp [endEv], by simp [endEv], by simp [endEv]⟩
  have hlen2 : (R ++ (onTo R R.length).map endEv).length ≤ 500 := by rw [List.length_append, List.length_map]; omega
  have hst2 := stF_ok (l := R ++ (onTo R R.length).map endEv) okEnd (by omega) (Nat.le_refl _)
  have hb : ∀ p ∈ onTo R R.length, ∃ f b, (b, p, f) ∈ (stF R R.length).L := fun p hp => by
    obtain ⟨f, hf, -⟩ := (hon.iff p).1 hp
    obtain ⟨b, hb⟩ := getK_mem hf
    exact ⟨f, b, hb⟩
  obtain ⟨u, h3⟩ := anew_run (on := onTo R R.length) (s := stF (R ++ (onTo R R.length).map endEv) (R ++ (onTo R R.length).map endEv).length) hst2 (by omega)
    (fun p hp => by obtain ⟨f, b, hb⟩ := hb p hp; exact ⟨hst.lives.ok _ hb, may_of_begin (Nat.le_refl _) h0 p hp⟩)
    (by
      have := hon.nd
      refine List.Pairwise.imp_of_mem (fun {p q} hp hq hne hnode => ?_) this
      obtain ⟨f, b, h5⟩ := hb p hp
      obtain ⟨g, c, h6⟩ := hb q hq
      have := uniq hst.lives h5 h6 hnode
      cases this; exact hne rfl)
    fun p hp q f hq hqn => by
      rw [hA.2, h2 q] at hq
      obtain ⟨g, hg, rfl⟩ := Option.map_eq_some_iff.1 hq
      obtain ⟨b, h5⟩ := getK_mem hg
      obtain ⟨f', b', h6⟩ := hb p hp
      have := uniq hst.lives h5 h6 hqn
      cases this
      rw [if_pos hp]; exact ⟨rfl, Nat.le_refl _⟩
  exact judge_runs hA.1 h3
end Go.Proofs.Ytilhbhpldkjkaaa
namespace Go.Proofs.Ytilhbhpldkjkaaa
open Go.RowKit
theorem LeR.refl : ∀ (l : List (List DV)), LeR l l
  | [] => .nil
  | x :: l => .cons (LeL.refl x) (LeR.refl l)
theorem LeR.app {a b c d : List (List DV)} (h : LeR a b) (k : LeR c d) : LeR (a ++ c) (b ++ d) := by
  induction h with
  | nil => exact k
  | cons h t ih => exact .cons h ih
theorem one_evs (l : List Ev) : OneR (evs l) := by
  simp only [OneR, evs, List.all_eq_true, List.mem_map]
  rintro r ⟨p, -, rfl⟩ c hc
  simp only [Ev.row, List.mem_cons, List.not_mem_nil, or_false] at hc
  rcases hc with rfl | rfl | rfl | rfl | rfl | rfl | rfl | rfl | rfl | rfl | rfl | rfl | rfl <;> rfl
theorem one_evsT (l : List Ev) (n : Nat) : OneR (List.take n (evs l)) := by rw [evs_take]; exact one_evs _
theorem evs_app (l m : List Ev) : evs l ++ evs m = evs (l ++ m) := by simp [evs]
theorem onTo_six {R : List Ev} {i : Nat} {e : Ev} (h : R[i]? = some e) (h6 : e.kind = 6) : onTo R (i + 1) = onTo R i ++ [e.who] := by rw [onTo, h]; dsimp only; unfold onStep; rw [if_pos h6]
theorem onTo_else {R : List Ev} {i : Nat} {e : Ev} (h : R[i]? = some e) (h6 : ¬ e.kind = 6) (h7 : ¬ e.kind = 7) : onTo R (i + 1) = onTo R i := by rw [onTo, h]; dsimp only; unfold onStep; rw [if_neg h6, if_neg h7]
def leftTo (on : List Proc) (p : Proc) (k : Nat) : List Proc := (on.take k).filter fun q => decide (q ≠ p)
theorem leftTo_yes {on : List Proc} {p q : Proc} {k : Nat} (h : on[k]? = some q) (hq : decide (q = p) = false) : leftTo on p (k + 1) = leftTo on p k ++ [q] := by
  obtain ⟨hi, rfl⟩ := List.getElem?_eq_some_iff.1 h
  unfold leftTo; rw [List.take_succ_eq_append_getElem hi, List.filter_append, List.filter_cons, if_pos (by simpa using hq)]; rfl
theorem leftTo_no {on : List Proc} {p q : Proc} {k : Nat} (h : on[k]? = some q) (hq : decide (q = p) = true) : leftTo on p (k + 1) = leftTo on p k := by
  obtain ⟨hi, rfl⟩ := List.getElem?_eq_some_iff.1 h
  unfold leftTo; rw [List.take_succ_eq_append_getElem hi, List.filter_append, List.filter_cons, if_neg (by simpa using hq), List.filter_nil, List.append_nil]
theorem leftTo_len (on : List Proc) (p : Proc) (k : Nat) : (leftTo on p k).length ≤ on.length := Nat.le_trans (List.length_filter_le _ _) (by rw [List.length_take]; omega)
theorem onTo_seven {R : List Ev} {i k : Nat} {e : Ev} (h : R[i]? = some e) (h7 : e.kind = 7) (hk : (onTo R i).length ≤ k) : onTo R (i + 1) = leftTo (onTo R i) e.who k := by
  rw [onTo, h]; dsimp only; unfold onStep; rw [if_neg (by omega), if_pos h7]; unfold leftTo; rw [List.take_of_length_le hk]
theorem ends_next {on : List Proc} {k : Nat} {p : Proc} (h : on[k]? = some p) : (on.take (k + 1)).map endEv = (on.take k).map endEv ++ [endEv p] := by
  obtain ⟨hi, rfl⟩ := List.getElem?_eq_some_iff.1 h
  rw [List.take_succ_eq_append_getElem hi, List.map_append]; rfl
theorem anew_next {on : List Proc} {k : Nat} {p : Proc} (h : on[k]? = some p) : (on.take (k + 1)).flatMap anewEv = (on.take k).flatMap anewEv ++ anewEv p := by
  obtain ⟨hi, rfl⟩ := List.getElem?_eq_some_iff.1 h
  rw [List.take_succ_eq_append_getElem hi, List.flatMap_append]; simp
theorem anew_len (l : List Proc) : (l.flatMap anewEv).length ≤ 3 * l.length := by
  induction l with
  | nil => simp
  | cons p l ih =>
    rw [List.flatMap_cons, List.length_append, List.length_cons]
    have : (anewEv p).length ≤ 3 := by unfold anewEv; split <;> simp
    omega
theorem anewEv_ok {p : Proc} (hp : p.okP) : ∀ e ∈ anewEv p, e.Ok := by
  have q0 : (⟨0, 0⟩ : Proc).okP := ⟨by dsimp only; omega, by dsimp only; omega⟩
  have q1 : (⟨0, ⟨0, 0⟩⟩ : Vid).okV := ⟨by dsimp only; omega, q0⟩
  intro e he
  unfold anewEv at he
  split at he
  · cases he
  · have ho : (anewP p).okP := ⟨hp.1, by show p.inc + 1 ≤ _; omega⟩
    simp only [List.mem_cons, List.not_mem_nil, or_false] at he
    rcases he with rfl | rfl | rfl
    · exact ⟨ho, q0, by simp [begEv], q1, by simp [begEv], by simp [begEv], by simp [begEv], by simp [begEv]⟩
    · exact ⟨ho, q0, by simp [sendEv], q1, by simp [sendEv], by simp [sendEv], by simp [sendEv], by simp [sendEv]⟩
    · exact ⟨ho, ho, by simp [delEv], q1, by simp [delEv], by simp [delEv], by simp [delEv], by simp [delEv]⟩
theorem endEv_ok {p : Proc} (hp : p.okP) : (endEv p).Ok := by
  have q0 : (⟨0, 0⟩ : Proc).okP := ⟨by dsimp only; omega, by dsimp only; omega⟩
  have q1 : (⟨0, ⟨0, 0⟩⟩ : Vid).okV := ⟨by dsimp only; omega, q0⟩
  exact ⟨hp, q0, by simp [endEv], q1, by simp [endEv], by simp [endEv], by simp [endEv], by simp [endEv]⟩
theorem onTo_okP {l : List Ev} (ho : ∀ e ∈ l, e.Ok) : ∀ i, ∀ p ∈ onTo l i, p.okP
  | 0, p, hp => by simp [onTo] at hp
  | i + 1, p, hp => by
    rw [onTo] at hp
    split at hp
    · rename_i e he
      unfold onStep at hp
      split at hp
      · rcases List.mem_append.1 hp with hp | hp
        · exact onTo_okP ho i p hp
        · simp at hp; subst hp; exact (ho _ (List.mem_of_getElem? he)).who
      · split at hp
        · exact onTo_okP ho i p (List.mem_filter.1 hp).1
        · exact onTo_okP ho i p hp
    · exact onTo_okP ho i p hp
abbrev anewRow (R : List Ev) : List Ev := (R ++ (onTo R R.length).map endEv) ++ (onTo R R.length).flatMap anewEv
theorem anewRow_ok {R : List Ev} (ho : ∀ e ∈ R, e.Ok) : ∀ e ∈ anewRow R, e.Ok := by
  intro e he
  rcases List.mem_append.1 he with he | he
  · rcases List.mem_append.1 he with he | he
    · exact ho e he
    · obtain ⟨p, hp, rfl⟩ := List.mem_map.1 he; exact endEv_ok (onTo_okP ho _ p hp)
  · obtain ⟨p, hp, he⟩ := List.mem_flatMap.1 he; exact anewEv_ok (onTo_okP ho _ p hp) e he
theorem anewRow_len (R : List Ev) : (anewRow R).length ≤ 5 * R.length := by
  unfold anewRow
  have h1 := onTo_len R R.length
  have h2 := anew_len (onTo R R.length)
  rw [List.length_append, List.length_append, List.length_map]; omega
theorem anew_big {p : Proc} (h : 34359738367 ≤ p.inc) : anewEv p = [] := by unfold anewEv; rw [if_pos h]
theorem anew_small {p : Proc} (h : ¬ 34359738367 ≤ p.inc) : anewEv p = [begEv (anewP p), sendEv (anewP p), delEv (anewP p)] := by unfold anewEv; rw [if_neg h]
theorem take_le {α : Type} (l : List α) (i : Nat) : (l.take i).length ≤ l.length := by rw [List.length_take]; omega
theorem ends_room (R : List Ev) (i : Nat) : (R ++ ((onTo R R.length).take i).map endEv).length ≤ 2 * R.length := by
  have h1 := onTo_len R R.length
  have := take_le (onTo R R.length) i
  rw [List.length_append, List.length_map]; omega
theorem anew_room (R : List Ev) (i : Nat) : ((R ++ (onTo R R.length).map endEv) ++ ((onTo R R.length).take i).flatMap anewEv).length ≤ 5 * R.length := by
  have h1 := onTo_len R R.length
  have := take_le (onTo R R.length) i
  have h2 := anew_len ((onTo R R.length).take i)
  rw [List.length_append, List.length_append, List.length_map]; omega
theorem judge_take {l R : List Ev} (h : R = l.take (judge l).1) : R.length = (judge l).1 ∧ ∀ j, j < R.length → errAt R j = 0 := by
  have hle : (judge l).1 ≤ l.length := by
    rcases judge_or l with ⟨e, -⟩ | ⟨i, hi, -, -, e⟩
    · rw [e]; exact Nat.le_refl _
    · rw [e]; dsimp only; omega
  have h1 := judge_more (l := l) (k := (judge l).1) (by omega) hle
  rw [← h] at h1
  have hlen : R.length = (judge l).1 := by rw [h, List.length_take]; omega
  refine ⟨hlen, ?_⟩
  rcases judge_or R with ⟨-, h2⟩ | ⟨i, -, -, h2, h3⟩
  · exact h2
  · rw [h1] at h3; simp only [Prod.mk.injEq] at h3; exact absurd h3.2.symm h2
set_option maxHeartbeats 4000000 in
set_option maxRecDepth 100000 in
theorem anewLaw (l : List Ev) (hl : l.length ≤ 9223372036854775807) (hr : ∀ e ∈ l, e.Rd) : Con Try.prog 4 [.d (.ro 13 (evs l))] (.v (.bool true)) := by
  refine Con.intro (by kernel_rfl) rfl rfl 139 rfl rfl fun w0 K ac hK r => ?_
  cases h0 : (heavyL l) with
  | false =>
    obtain ⟨hl2, hok⟩ := heavy_ok hr (by assumption)
    obtain ⟨R, hR⟩ : ∃ R, R = l.take (judge l).1 := ⟨_, rfl⟩
    obtain ⟨hRl, hR0⟩ := judge_take hR
    have hRo : ∀ e ∈ R, e.Ok := fun e he => hok e (List.mem_of_mem_take (hR ▸ he))
    have hRle : R.length ≤ 250 := by rw [hR, List.length_take]; omega
    have hlaw := anew_law hRo hRle hR0
    have hzl := anewRow_len R
    have hon := onTo_len R R.length
    have hle : (judge l).1 ≤ l.length := by rw [← hRl, hR, List.length_take]; omega
    refine toHead (todo' := hd Try.f4 0) (E' := [(5, .sl 0 (0 + (List.take ((judge l).1) (evs l) : List (List DV)).length)), (6, .d (.v (.slice none 0 0))), (7, .z 0)]) (M' := [.rw 40 13 ([] ++ (List.take ((judge l).1) (evs l)))]) tb_ok mixed_ok hK [(1, [(1, .con (.v (.bool false)))]), (3, [(1, .con (.tu [.n ((judge l).1), .z ((judge l).2)]))]), (4, [(3, .n2 ((judge l).1) (0))])] 2000 [0] [5, 6, 7] r (by kernel_rfl) (an ((by have k := heavyOk l hl hr; rw [h0] at k; exact k) : Con Try.prog 5 [.d (.ro 13 (evs l))] (.v (.bool false))) (an (judgeOk l hok (by omega)) (an (rfI (((judge l).1 : Nat) : Int)) (an ((by simp; exact hle) : ((judge l).1) ≤ (evs l : List (List DV)).length) (an ((by first | rfl | (simp; done) | (simp <;> omega)) : (0) = ([] : List (List DV)).length) (an ((by first | omega | (have := anew_room R m; omega) | (have := anew_room R i; omega) | (have := ends_room R i; omega) | (simp; done) | (simp <;> omega)) : (2 * ((0) + (List.take ((judge l).1) (evs l) : List (List DV)).length) + 192) * 168 ≤ 281474976710656) (an ((by first | omega | (have := anew_room R m; omega) | (have := anew_room R i; omega) | (have := ends_room R i; omega) | (simp; done) | (simp <;> omega)) : (0) + (List.take ((judge l).1) (evs l) : List (List DV)).length < 4611686018427387904) (an ((by first | exact one_procsL _ | exact one_evs _ | exact one_evsT _ _ | (simp [OneR, AV.one, oneC, bytesR]; done)) : OneR (List.take ((judge l).1) (evs l))) trivial)))))))) fun ac wd r => ?_
    refine Goes.rounds (Φ := fun (i : Nat) ac wd => (i ≤ R.length) ∧ RE' [] w0 K 139 [(5, .sl 0 (R.length)), (6, .sl 1 ((onTo R i).length)), (7, .n i)] [.rw 40 13 (evs R), .rw 32 2 (procs (onTo R i))] ac wd) (R.length) ?_ (Nat.zero_le _) ⟨(Nat.zero_le _), (r.adopt (M1 := [.rw 40 13 ([] ++ (List.take ((judge l).1) (evs l))), .rw 32 2 []]) [(6, 32, 2)] [] (by kernel_rfl) (by kernel_rfl)).cast (show [(5, AV.sl 0 (0 + (List.take ((judge l).1) (evs l) : List (List DV)).length)), (6, AV.sl 1 0), (7, AV.n 0)] = [(5, AV.sl 0 R.length), (6, AV.sl 1 (onTo R 0).length), (7, AV.n 0)] from by rw [show 0 + (List.take ((judge l).1) (evs l) : List (List DV)).length = R.length by simp; omega]; rfl) (by rw [hR, ← evs_take])⟩
    clear r
    rintro i hi0 again0 ac wd ⟨hv0, r⟩
    cases h1 : (decide ((((i : Nat) : Int) : Int) < ((R.length : Nat) : Int))) with
    | false =>
      have qh1 := of_decide_eq_false h1
      refine toHead (todo' := hd Try.f4 2) (E' := [(5, .sl 0 (R.length)), (6, .sl 1 ((onTo R i).length)), (11, .z 0)]) (M' := [.rw 40 13 (evs R), .rw 32 2 (procs (onTo R i))]) tb_ok mixed_ok hK [(7, [(3, .b false)])] 2000 [0, 1] [5, 6, 11] r (by kernel_rfl) (an h1 trivial) fun ac wd r => ?_
      refine Goes.rounds (Φ := fun (i : Nat) ac wd => (i ≤ (onTo R R.length).length) ∧ RE' [] w0 K 139 [(5, .sl 0 ((R ++ ((onTo R R.length).take i).map endEv).length)), (6, .sl 1 ((onTo R R.length).length)), (11, .n i)] [.rw 40 13 (evs (R ++ ((onTo R R.length).take i).map endEv)), .rw 32 2 (procs (onTo R R.length))] ac wd) ((onTo R R.length).length) ?_ (Nat.zero_le _) ⟨(Nat.zero_le _), (r).cast (by rw [show i = R.length by omega]; simp) (by rw [show i = R.length by omega]; simp)⟩
      clear r
      rintro i hi2 again2 ac wd ⟨hv2, r⟩
      cases h2 : (decide ((((i : Nat) : Int) : Int) < (((onTo R R.length).length : Nat) : Int))) with
      | false =>
        have qh2 := of_decide_eq_false h2
        refine toHead (todo' := hd Try.f4 3) (E' := [(5, .sl 0 ((R ++ ((onTo R R.length).take i).map endEv).length)), (6, .sl 1 ((onTo R R.length).length)), (12, .z 0)]) (M' := [.rw 40 13 (evs (R ++ ((onTo R R.length).take i).map endEv)), .rw 32 2 (procs (onTo R R.length))]) tb_ok mixed_ok hK [(21, [(3, .b false)])] 2000 [0, 1] [5, 6, 12] r (by kernel_rfl) (an h2 trivial) fun ac wd r => ?_
        refine Goes.rounds (Φ := fun (m : Nat) ac wd => (m ≤ (onTo R R.length).length) ∧ RE' [] w0 K 139 [(5, .sl 0 (((R ++ (onTo R R.length).map endEv) ++ ((onTo R R.length).take m).flatMap anewEv).length)), (6, .sl 1 ((onTo R R.length).length)), (12, .n m)] [.rw 40 13 (evs ((R ++ (onTo R R.length).map endEv) ++ ((onTo R R.length).take m).flatMap anewEv)), .rw 32 2 (procs (onTo R R.length))] ac wd) ((onTo R R.length).length) ?_ (Nat.zero_le _) ⟨(Nat.zero_le _), (r).cast (by rw [List.take_of_length_le (by omega)]; simp) (by rw [List.take_of_length_le (by omega)]; simp)⟩
        clear r
        rintro m hi3 again3 ac wd ⟨hv3, r⟩
        cases h3 : (decide ((((m : Nat) : Int) : Int) < (((onTo R R.length).length : Nat) : Int))) with
        | false =>
          have qh3 := of_decide_eq_false h3
          cases h4 : (((((judge (anewRow R)).1 : Nat) : Int) : Int) == ((((R ++ (onTo R R.length).map endEv) ++ ((onTo R R.length).take m).flatMap anewEv).length : Nat) : Int)) with
          | false =>
            have qh4 := ne_of_beq_false h4
            exact absurd (by rw [hlaw, List.take_of_length_le (by omega)]) qh4
          | true =>
            have qh4 := eq_of_beq h4
            cases h5 : (((judge (anewRow R)).2 : Int) == 0) with
            | false =>
              have qh5 := ne_of_beq_false h5
              exact absurd (by rw [hlaw]) qh5
            | true =>
              have qh5 := eq_of_beq h5
              exact toRet tb_ok mixed_ok hK rfl [(25, [(3, .b false)]), (30, [(1, .call [.d (.ro 13 (evs (anewRow R)))] (.tu [.n ((judge (anewRow R)).1), .z ((judge (anewRow R)).2)]))]), (31, [(3, .b true), (6, .b true), (9, .con (.v (.bool true)))])] 2000 r (by kernel_rfl) (an h3 (an (judgeOk (anewRow R) (anewRow_ok hRo) (by omega)) (an ((ind_two _ _) : Ind (.tu [.n ((judge (anewRow R)).1), .z ((judge (anewRow R)).2)])) (an (rfN (13)) (an ((by first | rfl | (simp; done) | (simp <;> omega)) : (((R ++ (onTo R R.length).map endEv) ++ ((onTo R R.length).take m).flatMap anewEv).length) = (evs ((R ++ (onTo R R.length).map endEv) ++ ((onTo R R.length).take m).flatMap anewEv) : List (List DV)).length) (an ((by first | exact froz_evs _ | (rw [froz_evs, List.take_of_length_le (by omega)])) : frozR (evs ((R ++ (onTo R R.length).map endEv) ++ ((onTo R R.length).take m).flatMap anewEv)) = evs (anewRow R)) (an h4 (an h5 (an (awakeOk) trivial)))))))))
        | true =>
          have qh3 := of_decide_eq_true h3
          obtain ⟨q, gq⟩ : ∃ x, (onTo R R.length)[m]? = some x := ⟨_, List.getElem?_eq_getElem (by omega)⟩
          cases h6 : (decide ((34359738367 : Int) ≤ ((q.inc : Nat) : Int))) with
          | false =>
            have qh6 := of_decide_eq_false h6
            refine toAt (todo' := aft Try.f4 29) (E' := [(5, .sl 0 (((R ++ (onTo R R.length).map endEv) ++ ((onTo R R.length).take m).flatMap anewEv).length + (3))), (6, .sl 1 ((onTo R R.length).length)), (12, .n m), (85, .n m), (86, .sl 1 ((onTo R R.length).length)), (87, .n ((onTo R R.length).length)), (88, .d (.v (.bool true))), (91, .sl 1 ((onTo R R.length).length)), (92, .n m), (93, .ep 1 2 (m) 0), (94, .ep 1 2 (m) 1), (95, .u q.inc), (96, .d (.v (.bool false))), (97, .sl 1 ((onTo R R.length).length)), (98, .n m), (99, .ep 1 2 (m) 0), (100, .ep 1 2 (m) 0), (101, .z q.node), (102, .sl 1 ((onTo R R.length).length)), (103, .n m), (104, .ep 1 2 (m) 0), (105, .ep 1 2 (m) 1), (106, .u q.inc), (107, .u (q.inc + 1)), (108, .ag [.z q.node, .u (q.inc + 1)]), (13, .pt 2 0), (110, .ag [.z q.node, .u (q.inc + 1)]), (111, .ag [.z 6, .z q.node, .u (q.inc + 1), .z 0, .d (.v (.int .u64 0)), .d (.v (.int .u64 0)), .d (.v (.slice none 0 0)), .d (.v (.int .u64 0)), .z 0, .d (.v (.int .u64 0)), .d (.v (.slice none 0 0)), .d (.v (.slice none 0 0)), .d (.v (.slice none 0 0))]), (112, .ag [.z q.node, .u (q.inc + 1)]), (113, .sl 3 (1)), (114, .d (.ro 1 ([[.v (.int .u8 97)]]))), (115, .ag [.z 1, .z q.node, .u (q.inc + 1), .z 0, .d (.v (.int .u64 0)), .d (.v (.int .u64 1)), .d (.ro 1 ([[.v (.int .u8 97)]])), .d (.v (.int .u64 0)), .z 0, .d (.v (.int .u64 0)), .d (.v (.slice none 0 0)), .d (.v (.slice none 0 0)), .d (.v (.slice none 0 0))]), (116, .ag [.z q.node, .u (q.inc + 1)]), (117, .ag [.z q.node, .u (q.inc + 1)]), (118, .sl 4 (1)), (119, .d (.ro 1 ([[.v (.int .u8 97)]]))), (120, .ag [.z 2, .z q.node, .u (q.inc + 1), .z q.node, .u (q.inc + 1), .d (.v (.int .u64 1)), .d (.ro 1 ([[.v (.int .u8 97)]])), .d (.v (.int .u64 0)), .z 0, .d (.v (.int .u64 0)), .d (.v (.slice none 0 0)), .d (.v (.slice none 0 0)), .d (.v (.slice none 0 0))]), (121, .sl 5 (3)), (122, .sl 0 (((R ++ (onTo R R.length).map endEv) ++ ((onTo R R.length).take m).flatMap anewEv).length + (3)))]) (M' := [.rw 40 13 (evs ((R ++ (onTo R R.length).map endEv) ++ ((onTo R R.length).take m).flatMap anewEv) ++ [[.z 6, .z q.node, .u (q.inc + 1), .z 0, .v (.int .u64 0), .v (.int .u64 0), .v (.slice none 0 0), .v (.int .u64 0), .z 0, .v (.int .u64 0), .v (.slice none 0 0), .v (.slice none 0 0), .v (.slice none 0 0)], [.z 1, .z q.node, .u (q.inc + 1), .z 0, .v (.int .u64 0), .v (.int .u64 1), .ro 1 ([[.v (.int .u8 97)]]), .v (.int .u64 0), .z 0, .v (.int .u64 0), .v (.slice none 0 0), .v (.slice none 0 0), .v (.slice none 0 0)], [.z 2, .z q.node, .u (q.inc + 1), .z q.node, .u (q.inc + 1), .v (.int .u64 1), .ro 1 ([[.v (.int .u8 97)]]), .v (.int .u64 0), .z 0, .v (.int .u64 0), .v (.slice none 0 0), .v (.slice none 0 0), .v (.slice none 0 0)]]), .rw 32 2 (procs (onTo R R.length)), .bx 32 [.z q.node, .u (q.inc + 1)], .dead, .dead, .dead]) tb_ok mixed_ok hK [(25, [(3, .b true)]), (27, [(2, .n (m)), (4, .ix 0 [.z q.node, .u q.inc]), (5, .b false)]), (28, [(2, .n (m)), (4, .ix 0 [.z q.node, .u q.inc]), (7, .n (m)), (9, .ix 0 [.z q.node, .u q.inc]), (10, .z (((q.inc + 1 : Nat) : Int)))])] 15 [0, 1, 2, 3, 4, 5] [5, 6, 12, 85, 86, 87, 88, 91, 92, 93, 94, 95, 96, 97, 98, 99, 100, 101, 102, 103, 104, 105, 106, 107, 108, 13, 110, 111, 112, 113, 114, 115, 116, 117, 118, 119, 120, 121, 122] r (by kernel_rfl) (an h3 (an (rfI ((m : Nat) : Int)) (an ((by first | omega | decide | (simp; done) | (simp; omega)) : (m) < ((onTo R R.length).length)) (an ((by first | rfl | (simp; done) | (simp <;> omega)) : ((onTo R R.length).length) ≤ (procs (onTo R R.length)).length) (an (procs_at gq) (an h6 (an (rfI ((m : Nat) : Int)) (an ((by first | omega | decide | (simp; done) | (simp; omega)) : (m) < ((onTo R R.length).length)) (an ((by first | rfl | (simp; done) | (simp <;> omega)) : ((onTo R R.length).length) ≤ (procs (onTo R R.length)).length) (an (procs_at gq) (an (rfI ((m : Nat) : Int)) (an ((by first | omega | decide | (simp; done) | (simp; omega)) : (m) < ((onTo R R.length).length)) (an ((by first | rfl | (simp; done) | (simp <;> omega)) : ((onTo R R.length).length) ≤ (procs (onTo R R.length)).length) (an (procs_at gq) (an ((by first | exact wi (by omega) | exact wu (by omega)) : IntKind.u64.wrap ((((q.inc : Nat) : Int) : Int) + 1) = ((q.inc + 1 : Nat) : Int)) (an ((by simp) : (1) = ([[.v (.int .u8 97)]] : List (List DV)).length) (an ((by simp) : 0 < (1)) (an ((by simp) : (1) = ([[.v (.int .u8 97)]] : List (List DV)).length) (an ((by simp) : 0 < (1)) (an ((by first | rfl | (simp; done) | (simp <;> omega)) : (((R ++ (onTo R R.length).map endEv) ++ ((onTo R R.length).take m).flatMap anewEv).length) = (evs ((R ++ (onTo R R.length).map endEv) ++ ((onTo R R.length).take m).flatMap anewEv) : List (List DV)).length) (an ((by first | rfl | (simp; done) | (simp <;> omega)) : (3) = ([[.z 6, .z q.node, .u (q.inc + 1), .z 0, .v (.int .u64 0), .v (.int .u64 0), .v (.slice none 0 0), .v (.int .u64 0), .z 0, .v (.int .u64 0), .v (.slice none 0 0), .v (.slice none 0 0), .v (.slice none 0 0)], [.z 1, .z q.node, .u (q.inc + 1), .z 0, .v (.int .u64 0), .v (.int .u64 1), .ro 1 ([[.v (.int .u8 97)]]), .v (.int .u64 0), .z 0, .v (.int .u64 0), .v (.slice none 0 0), .v (.slice none 0 0), .v (.slice none 0 0)], [.z 2, .z q.node, .u (q.inc + 1), .z q.node, .u (q.inc + 1), .v (.int .u64 1), .ro 1 ([[.v (.int .u8 97)]]), .v (.int .u64 0), .z 0, .v (.int .u64 0), .v (.slice none 0 0), .v (.slice none 0 0), .v (.slice none 0 0)]] : List (List DV)).length) (an ((by first | omega | (have := anew_room R m; omega) | (have := anew_room R i; omega) | (have := ends_room R i; omega) | (simp; done) | (simp <;> omega)) : (2 * ((((R ++ (onTo R R.length).map endEv) ++ ((onTo R R.length).take m).flatMap anewEv).length) + (3)) + 192) * 168 ≤ 281474976710656) (an ((by first | omega | (have := anew_room R m; omega) | (have := anew_room R i; omega) | (have := ends_room R i; omega) | (simp; done) | (simp <;> omega)) : (((R ++ (onTo R R.length).map endEv) ++ ((onTo R R.length).take m).flatMap anewEv).length) + (3) < 4611686018427387904) (an ((by first | exact one_procsL _ | exact one_evs _ | exact one_evsT _ _ | (simp [OneR, AV.one, oneC, bytesR]; done)) : OneR ([[.z 6, .z q.node, .u (q.inc + 1), .z 0, .v (.int .u64 0), .v (.int .u64 0), .v (.slice none 0 0), .v (.int .u64 0), .z 0, .v (.int .u64 0), .v (.slice none 0 0), .v (.slice none 0 0), .v (.slice none 0 0)], [.z 1, .z q.node, .u (q.inc + 1), .z 0, .v (.int .u64 0), .v (.int .u64 1), .ro 1 ([[.v (.int .u8 97)]]), .v (.int .u64 0), .z 0, .v (.int .u64 0), .v (.slice none 0 0), .v (.slice none 0 0), .v (.slice none 0 0)], [.z 2, .z q.node, .u (q.inc + 1), .z q.node, .u (q.inc + 1), .v (.int .u64 1), .ro 1 ([[.v (.int .u8 97)]]), .v (.int .u64 0), .z 0, .v (.int .u64 0), .v (.slice none 0 0), .v (.slice none 0 0), .v (.slice none 0 0)]])) trivial)))))))))))))))))))))))) fun ac wd r => ?_
            have r := (r.less 0 rfl (LeR.app (LeR.refl (evs ((R ++ (onTo R R.length).map endEv) ++ ((onTo R R.length).take m).flatMap anewEv))) (LeR.cons (LeL.cons (Le.refl _) (LeL.cons (Le.refl _) (LeL.cons (Le.refl _) (LeL.cons (Le.refl _) (LeL.cons (Le.refl _) (LeL.cons (Le.refl _) (LeL.cons (Le.nilRo 1) (LeL.cons (Le.refl _) (LeL.cons (Le.refl _) (LeL.cons (Le.refl _) (LeL.cons (Le.nilRo 2) (LeL.cons (Le.nilRo 1) (LeL.cons (Le.nilRo 2) (LeL.nil)))))))))))))) (LeR.cons (LeL.cons (Le.refl _) (LeL.cons (Le.refl _) (LeL.cons (Le.refl _) (LeL.cons (Le.refl _) (LeL.cons (Le.refl _) (LeL.cons (Le.refl _) (LeL.cons (Le.refl _) (LeL.cons (Le.refl _) (LeL.cons (Le.refl _) (LeL.cons (Le.refl _) (LeL.cons (Le.nilRo 2) (LeL.cons (Le.nilRo 1) (LeL.cons (Le.nilRo 2) (LeL.nil)))))))))))))) (LeR.cons (LeL.cons (Le.refl _) (LeL.cons (Le.refl _) (LeL.cons (Le.refl _) (LeL.cons (Le.refl _) (LeL.cons (Le.refl _) (LeL.cons (Le.refl _) (LeL.cons (Le.refl _) (LeL.cons (Le.refl _) (LeL.cons (Le.refl _) (LeL.cons (Le.refl _) (LeL.cons (Le.nilRo 2) (LeL.cons (Le.nilRo 1) (LeL.cons (Le.nilRo 2) (LeL.nil)))))))))))))) LeR.nil))))).cast (M' := [.rw 40 13 (evs (((R ++ (onTo R R.length).map endEv) ++ ((onTo R R.length).take m).flatMap anewEv) ++ [begEv (anewP q), sendEv (anewP q), delEv (anewP q)])), .rw 32 2 (procs (onTo R R.length)), .bx 32 [.z q.node, .u (q.inc + 1)], .dead, .dead, .dead]) rfl (by rw [← evs_app _ [begEv (anewP q), sendEv (anewP q), delEv (anewP q)]]; rfl)
            exact toHead (todo' := hd Try.f4 3) (E' := [(5, .sl 0 (((R ++ (onTo R R.length).map endEv) ++ ((onTo R R.length).take m).flatMap anewEv).length + (3))), (6, .sl 1 ((onTo R R.length).length)), (12, .n (m + 1))]) (M' := [.rw 40 13 (evs (((R ++ (onTo R R.length).map endEv) ++ ((onTo R R.length).take m).flatMap anewEv) ++ [begEv (anewP q), sendEv (anewP q), delEv (anewP q)])), .rw 32 2 (procs (onTo R R.length))]) tb_ok mixed_ok hK [(26, [(1, .z (((m + 1 : Nat) : Int)))])] 2000 [0, 1] [5, 6, 12] r (by kernel_rfl) (an ((by first | exact wi (by omega) | exact wu (by omega)) : IntKind.i64.wrap ((((m : Nat) : Int) : Int) + 1) = ((m + 1 : Nat) : Int)) trivial) fun ac wd r => again3 (by omega) ac wd ⟨(by omega), r.cast (by rw [anew_next gq, anew_small (by omega)]; simp; omega) (by rw [anew_next gq, anew_small (by omega), List.append_assoc])⟩
          | true =>
            have qh6 := of_decide_eq_true h6
            exact toHead (todo' := hd Try.f4 3) (E' := [(5, .sl 0 (((R ++ (onTo R R.length).map endEv) ++ ((onTo R R.length).take m).flatMap anewEv).length)), (6, .sl 1 ((onTo R R.length).length)), (12, .n (m + 1))]) (M' := [.rw 40 13 (evs ((R ++ (onTo R R.length).map endEv) ++ ((onTo R R.length).take m).flatMap anewEv)), .rw 32 2 (procs (onTo R R.length))]) tb_ok mixed_ok hK [(25, [(3, .b true)]), (26, [(1, .z (((m + 1 : Nat) : Int)))]), (27, [(2, .n (m)), (4, .ix 0 [.z q.node, .u q.inc]), (5, .b true)])] 2000 [0, 1] [5, 6, 12] r (by kernel_rfl) (an h3 (an (rfI ((m : Nat) : Int)) (an ((by first | omega | decide | (simp; done) | (simp; omega)) : (m) < ((onTo R R.length).length)) (an ((by first | rfl | (simp; done) | (simp <;> omega)) : ((onTo R R.length).length) ≤ (procs (onTo R R.length)).length) (an (procs_at gq) (an h6 (an ((by first | exact wi (by omega) | exact wu (by omega)) : IntKind.i64.wrap ((((m : Nat) : Int) : Int) + 1) = ((m + 1 : Nat) : Int)) trivial))))))) fun ac wd r => again3 (by omega) ac wd ⟨(by omega), r.cast (by rw [anew_next gq, anew_big (by omega), List.append_nil]) (by rw [anew_next gq, anew_big (by omega), List.append_nil])⟩
      | true =>
        have qh2 := of_decide_eq_true h2
        obtain ⟨q, gq⟩ : ∃ x, (onTo R R.length)[i]? = some x := ⟨_, List.getElem?_eq_getElem (by omega)⟩
        refine toAt (todo' := aft Try.f4 23) (E' := [(5, .sl 0 ((R ++ ((onTo R R.length).take i).map endEv).length + (1))), (6, .sl 1 ((onTo R R.length).length)), (11, .n i), (71, .n i), (72, .sl 1 ((onTo R R.length).length)), (73, .n ((onTo R R.length).length)), (74, .d (.v (.bool true))), (78, .sl 1 ((onTo R R.length).length)), (79, .n i), (80, .ep 1 2 (i) 0), (81, .ag [.z q.node, .u q.inc]), (82, .ag [.z 7, .z q.node, .u q.inc, .z 0, .d (.v (.int .u64 0)), .d (.v (.int .u64 0)), .d (.v (.slice none 0 0)), .d (.v (.int .u64 0)), .z 0, .d (.v (.int .u64 0)), .d (.v (.slice none 0 0)), .d (.v (.slice none 0 0)), .d (.v (.slice none 0 0))]), (83, .sl 2 (1)), (84, .sl 0 ((R ++ ((onTo R R.length).take i).map endEv).length + (1)))]) (M' := [.rw 40 13 (evs (R ++ ((onTo R R.length).take i).map endEv) ++ [[.z 7, .z q.node, .u q.inc, .z 0, .v (.int .u64 0), .v (.int .u64 0), .v (.slice none 0 0), .v (.int .u64 0), .z 0, .v (.int .u64 0), .v (.slice none 0 0), .v (.slice none 0 0), .v (.slice none 0 0)]]), .rw 32 2 (procs (onTo R R.length)), .dead]) tb_ok mixed_ok hK [(21, [(3, .b true)]), (23, [(3, .n (i)), (4, .ix 0 [.z q.node, .u q.inc])])] 8 [0, 1, 2] [5, 6, 11, 71, 72, 73, 74, 78, 79, 80, 81, 82, 83, 84] r (by kernel_rfl) (an h2 (an (rfI ((i : Nat) : Int)) (an ((by first | omega | decide | (simp; done) | (simp; omega)) : (i) < ((onTo R R.length).length)) (an ((by first | rfl | (simp; done) | (simp <;> omega)) : ((onTo R R.length).length) ≤ (procs (onTo R R.length)).length) (an (procs_at gq) (an ((by first | rfl | (simp; done) | (simp <;> omega)) : ((R ++ ((onTo R R.length).take i).map endEv).length) = (evs (R ++ ((onTo R R.length).take i).map endEv) : List (List DV)).length) (an ((by first | rfl | (simp; done) | (simp <;> omega)) : (1) = ([[.z 7, .z q.node, .u q.inc, .z 0, .v (.int .u64 0), .v (.int .u64 0), .v (.slice none 0 0), .v (.int .u64 0), .z 0, .v (.int .u64 0), .v (.slice none 0 0), .v (.slice none 0 0), .v (.slice none 0 0)]] : List (List DV)).length) (an ((by first | omega | (have := anew_room R m; omega) | (have := anew_room R i; omega) | (have := ends_room R i; omega) | (simp; done) | (simp <;> omega)) : (2 * (((R ++ ((onTo R R.length).take i).map endEv).length) + (1)) + 192) * 168 ≤ 281474976710656) (an ((by first | omega | (have := anew_room R m; omega) | (have := anew_room R i; omega) | (have := ends_room R i; omega) | (simp; done) | (simp <;> omega)) : ((R ++ ((onTo R R.length).take i).map endEv).length) + (1) < 4611686018427387904) (an ((by first | exact one_procsL _ | exact one_evs _ | exact one_evsT _ _ | (simp [OneR, AV.one, oneC, bytesR]; done)) : OneR ([[.z 7, .z q.node, .u q.inc, .z 0, .v (.int .u64 0), .v (.int .u64 0), .v (.slice none 0 0), .v (.int .u64 0), .z 0, .v (.int .u64 0), .v (.slice none 0 0), .v (.slice none 0 0), .v (.slice none 0 0)]])) trivial)))))))))) fun ac wd r => ?_
        have r := (r.less 0 rfl (LeR.app (LeR.refl (evs (R ++ ((onTo R R.length).take i).map endEv))) (LeR.cons (LeL.cons (Le.refl _) (LeL.cons (Le.refl _) (LeL.cons (Le.refl _) (LeL.cons (Le.refl _) (LeL.cons (Le.refl _) (LeL.cons (Le.refl _) (LeL.cons (Le.nilRo 1) (LeL.cons (Le.refl _) (LeL.cons (Le.refl _) (LeL.cons (Le.refl _) (LeL.cons (Le.nilRo 2) (LeL.cons (Le.nilRo 1) (LeL.cons (Le.nilRo 2) (LeL.nil)))))))))))))) LeR.nil))).cast (M' := [.rw 40 13 (evs ((R ++ ((onTo R R.length).take i).map endEv) ++ [endEv q])), .rw 32 2 (procs (onTo R R.length)), .dead]) rfl (by rw [← evs_app _ [endEv q]]; rfl)
        exact toHead (todo' := hd Try.f4 2) (E' := [(5, .sl 0 ((R ++ ((onTo R R.length).take i).map endEv).length + (1))), (6, .sl 1 ((onTo R R.length).length)), (11, .n (i + 1))]) (M' := [.rw 40 13 (evs ((R ++ ((onTo R R.length).take i).map endEv) ++ [endEv q])), .rw 32 2 (procs (onTo R R.length))]) tb_ok mixed_ok hK [(22, [(1, .z (((i + 1 : Nat) : Int)))])] 2000 [0, 1] [5, 6, 11] r (by kernel_rfl) (an ((by first | exact wi (by omega) | exact wu (by omega)) : IntKind.i64.wrap ((((i : Nat) : Int) : Int) + 1) = ((i + 1 : Nat) : Int)) trivial) fun ac wd r => again2 (by omega) ac wd ⟨(by omega), r.cast (by rw [ends_next gq]; simp; omega) (by rw [ends_next gq, List.append_assoc])⟩
    | true =>
      have qh1 := of_decide_eq_true h1
      obtain ⟨e_R_i, ge_R_i⟩ : ∃ x, R[i]? = some x := ⟨_, List.getElem?_eq_getElem (by omega)⟩
      have hoi := onTo_len R i
      cases h7 : ((e_R_i.kind : Int) == 6) with
      | false =>
        have qh7 := ne_of_beq_false h7
        cases h8 : ((e_R_i.kind : Int) == 7) with
        | false =>
          have qh8 := ne_of_beq_false h8
          exact toHead (todo' := hd Try.f4 0) (E' := [(5, .sl 0 (R.length)), (6, .sl 1 ((onTo R i).length)), (7, .n (i + 1))]) (M' := [.rw 40 13 (evs R), .rw 32 2 (procs (onTo R i))]) tb_ok mixed_ok hK [(7, [(3, .b true)]), (8, [(1, .z (((i + 1 : Nat) : Int)))]), (9, [(2, .n (i)), (3, .ix 0 [.z e_R_i.kind, .z e_R_i.who.node, .u e_R_i.who.inc, .z e_R_i.frm.node, .u e_R_i.frm.inc, .u e_R_i.n, .ro 1 (bytesR e_R_i.body), .u e_R_i.view.id.round, .z e_R_i.view.id.server.node, .u e_R_i.view.id.server.inc, .ro 2 (procs e_R_i.view.members), .ro 1 (nums e_R_i.view.starts), .ro 2 (procs e_R_i.transit)])]), (10, [(2, .b false)]), (12, [(2, .b false)])] 2000 [0, 1] [5, 6, 7] r (by kernel_rfl) (an h1 (an (rfI ((i : Nat) : Int)) (an ((by first | omega | decide | (simp; done) | (simp; omega)) : (i) < (R.length)) (an ((by first | rfl | (simp; done) | (simp <;> omega)) : (R.length) ≤ (evs R : List (List DV)).length) (an (evs_at ge_R_i) (an h7 (an h8 (an ((by first | exact wi (by omega) | exact wu (by omega)) : IntKind.i64.wrap ((((i : Nat) : Int) : Int) + 1) = ((i + 1 : Nat) : Int)) trivial)))))))) fun ac wd r => again0 (by omega) ac wd ⟨(by omega), r.cast (by rw [onTo_else ge_R_i (by omega) (by omega)]) (by rw [onTo_else ge_R_i (by omega) (by omega)])⟩
        | true =>
          have qh8 := eq_of_beq h8
          refine toHead (todo' := hd Try.f4 1) (E' := [(5, .sl 0 (R.length)), (6, .sl 1 ((onTo R i).length)), (7, .n i), (8, .pt 2 0), (9, .d (.v (.slice none 0 0))), (10, .z 0)]) (M' := [.rw 40 13 (evs R), .rw 32 2 (procs (onTo R i)), .bx 40 [.z e_R_i.kind, .z e_R_i.who.node, .u e_R_i.who.inc, .z e_R_i.frm.node, .u e_R_i.frm.inc, .u e_R_i.n, .d (.ro 1 (bytesR e_R_i.body)), .u e_R_i.view.id.round, .z e_R_i.view.id.server.node, .u e_R_i.view.id.server.inc, .d (.ro 2 (procs e_R_i.view.members)), .d (.ro 1 (nums e_R_i.view.starts)), .d (.ro 2 (procs e_R_i.transit))]]) tb_ok mixed_ok hK [(7, [(3, .b true)]), (9, [(2, .n (i)), (3, .ix 0 [.z e_R_i.kind, .z e_R_i.who.node, .u e_R_i.who.inc, .z e_R_i.frm.node, .u e_R_i.frm.inc, .u e_R_i.n, .ro 1 (bytesR e_R_i.body), .u e_R_i.view.id.round, .z e_R_i.view.id.server.node, .u e_R_i.view.id.server.inc, .ro 2 (procs e_R_i.view.members), .ro 1 (nums e_R_i.view.starts), .ro 2 (procs e_R_i.transit)])]), (10, [(2, .b false)]), (12, [(2, .b true)])] 2000 [0, 1, 2] [5, 6, 7, 8, 9, 10] r (by kernel_rfl) (an h1 (an (rfI ((i : Nat) : Int)) (an ((by first | omega | decide | (simp; done) | (simp; omega)) : (i) < (R.length)) (an ((by first | rfl | (simp; done) | (simp <;> omega)) : (R.length) ≤ (evs R : List (List DV)).length) (an (evs_at ge_R_i) (an h7 (an h8 trivial))))))) fun ac wd r => ?_
          refine Goes.rounds (Φ := fun (k : Nat) ac wd => (k ≤ (onTo R i).length) ∧ RE' [] w0 K 139 [(5, .sl 0 (R.length)), (6, .sl 1 ((onTo R i).length)), (7, .n i), (8, .pt 2 0), (9, .sl 3 ((leftTo (onTo R i) e_R_i.who k).length)), (10, .n k)] [.rw 40 13 (evs R), .rw 32 2 (procs (onTo R i)), .bx 40 [.z e_R_i.kind, .z e_R_i.who.node, .u e_R_i.who.inc, .z e_R_i.frm.node, .u e_R_i.frm.inc, .u e_R_i.n, .d (.ro 1 (bytesR e_R_i.body)), .u e_R_i.view.id.round, .z e_R_i.view.id.server.node, .u e_R_i.view.id.server.inc, .d (.ro 2 (procs e_R_i.view.members)), .d (.ro 1 (nums e_R_i.view.starts)), .d (.ro 2 (procs e_R_i.transit))], .rw 32 2 (procs (leftTo (onTo R i) e_R_i.who k))] ac wd) ((onTo R i).length) ?_ (Nat.zero_le _) ⟨(Nat.zero_le _), (r.adopt (M1 := [.rw 40 13 (evs R), .rw 32 2 (procs (onTo R i)), .bx 40 [.z e_R_i.kind, .z e_R_i.who.node, .u e_R_i.who.inc, .z e_R_i.frm.node, .u e_R_i.frm.inc, .u e_R_i.n, .d (.ro 1 (bytesR e_R_i.body)), .u e_R_i.view.id.round, .z e_R_i.view.id.server.node, .u e_R_i.view.id.server.inc, .d (.ro 2 (procs e_R_i.view.members)), .d (.ro 1 (nums e_R_i.view.starts)), .d (.ro 2 (procs e_R_i.transit))], .rw 32 2 []]) [(9, 32, 2)] [] (by kernel_rfl) (by kernel_rfl)).cast rfl rfl⟩
          clear r
          rintro k hi1 again1 ac wd ⟨hv1, r⟩
          cases h9 : (decide ((((k : Nat) : Int) : Int) < (((onTo R i).length : Nat) : Int))) with
          | false =>
            have qh9 := of_decide_eq_false h9
            exact toHead (todo' := hd Try.f4 0) (E' := [(5, .sl 0 (R.length)), (6, .sl 1 ((leftTo (onTo R i) e_R_i.who k).length)), (7, .n (i + 1))]) (M' := [.rw 40 13 (evs R), .rw 32 2 (procs (leftTo (onTo R i) e_R_i.who k))]) tb_ok mixed_ok hK [(8, [(1, .z (((i + 1 : Nat) : Int)))]), (15, [(3, .b false)])] 2000 [0, 3] [5, 6, 7] r (by kernel_rfl) (an h9 (an ((by first | exact wi (by omega) | exact wu (by omega)) : IntKind.i64.wrap ((((i : Nat) : Int) : Int) + 1) = ((i + 1 : Nat) : Int)) trivial)) fun ac wd r => again0 (by omega) ac wd ⟨(by omega), r.cast (by rw [onTo_seven (k := k) ge_R_i (by omega) (by omega)]) (by rw [onTo_seven (k := k) ge_R_i (by omega) (by omega)])⟩
          | true =>
            have qh9 := of_decide_eq_true h9
            have hlt := leftTo_len (onTo R i) e_R_i.who k
            obtain ⟨q, gq⟩ : ∃ x, (onTo R i)[k]? = some x := ⟨_, List.getElem?_eq_getElem (by omega)⟩
            cases h10 : (decide (q = e_R_i.who)) with
            | false =>
              have qh10 := of_decide_eq_false h10
              exact toHead (todo' := hd Try.f4 1) (E' := [(5, .sl 0 (R.length)), (6, .sl 1 ((onTo R i).length)), (7, .n i), (8, .pt 2 0), (9, .sl 3 ((leftTo (onTo R i) e_R_i.who k).length + (1))), (10, .n (k + 1))]) (M' := [.rw 40 13 (evs R), .rw 32 2 (procs (onTo R i)), .bx 40 [.z e_R_i.kind, .z e_R_i.who.node, .u e_R_i.who.inc, .z e_R_i.frm.node, .u e_R_i.frm.inc, .u e_R_i.n, .d (.ro 1 (bytesR e_R_i.body)), .u e_R_i.view.id.round, .z e_R_i.view.id.server.node, .u e_R_i.view.id.server.inc, .d (.ro 2 (procs e_R_i.view.members)), .d (.ro 1 (nums e_R_i.view.starts)), .d (.ro 2 (procs e_R_i.transit))], .rw 32 2 (procs (leftTo (onTo R i) e_R_i.who k) ++ [[.z q.node, .u q.inc]])]) tb_ok mixed_ok hK [(15, [(3, .b true)]), (16, [(1, .z (((k + 1 : Nat) : Int)))]), (17, [(2, .n (k)), (3, .ix 0 [.z q.node, .u q.inc]), (6, .b false)]), (18, [(3, .n (k)), (4, .ix 0 [.z q.node, .u q.inc])])] 2000 [0, 1, 2, 3] [5, 6, 7, 8, 9, 10] r (by kernel_rfl) (an h9 (an (rfI ((k : Nat) : Int)) (an ((by first | omega | decide | (simp; done) | (simp; omega)) : (k) < ((onTo R i).length)) (an ((by first | rfl | (simp; done) | (simp <;> omega)) : ((onTo R i).length) ≤ (procs (onTo R i)).length) (an (procs_at gq) (an ((eqT (eqProcD _ _) h10) : EqAgg Try.prog 32 [(.int .i64 (q.node)), (.int .u64 (((q.inc : Nat) : Int)))] [(.int .i64 (e_R_i.who.node)), (.int .u64 (((e_R_i.who.inc : Nat) : Int)))] false) (an (rfI ((k : Nat) : Int)) (an ((by first | omega | decide | (simp; done) | (simp; omega)) : (k) < ((onTo R i).length)) (an ((by first | rfl | (simp; done) | (simp <;> omega)) : ((onTo R i).length) ≤ (procs (onTo R i)).length) (an (procs_at gq) (an ((by first | rfl | (simp; done) | (simp <;> omega)) : ((leftTo (onTo R i) e_R_i.who k).length) = (procs (leftTo (onTo R i) e_R_i.who k)).length) (an ((by first | rfl | (simp; done) | (simp <;> omega)) : (1) = ([[.z q.node, .u q.inc]] : List (List DV)).length) (an ((by first | omega | (have := anew_room R m; omega) | (have := anew_room R i; omega) | (have := ends_room R i; omega) | (simp; done) | (simp <;> omega)) : (2 * (((leftTo (onTo R i) e_R_i.who k).length) + (1)) + 192) * 16 ≤ 281474976710656) (an ((by first | omega | (have := anew_room R m; omega) | (have := anew_room R i; omega) | (have := ends_room R i; omega) | (simp; done) | (simp <;> omega)) : ((leftTo (onTo R i) e_R_i.who k).length) + (1) < 4611686018427387904) (an ((by first | exact one_procsL _ | exact one_evs _ | exact one_evsT _ _ | (simp [OneR, AV.one, oneC, bytesR]; done)) : OneR ([[.z q.node, .u q.inc]])) (an ((by first | exact wi (by omega) | exact wu (by omega)) : IntKind.i64.wrap ((((k : Nat) : Int) : Int) + 1) = ((k + 1 : Nat) : Int)) trivial)))))))))))))))) fun ac wd r => again1 (by omega) ac wd ⟨(by omega), r.cast (by rw [leftTo_yes gq (by assumption), List.length_append]; rfl) (by rw [leftTo_yes gq (by assumption), ← procs_one])⟩
            | true =>
              have qh10 := of_decide_eq_true h10
              exact toHead (todo' := hd Try.f4 1) (E' := [(5, .sl 0 (R.length)), (6, .sl 1 ((onTo R i).length)), (7, .n i), (8, .pt 2 0), (9, .sl 3 ((leftTo (onTo R i) e_R_i.who k).length)), (10, .n (k + 1))]) (M' := [.rw 40 13 (evs R), .rw 32 2 (procs (onTo R i)), .bx 40 [.z e_R_i.kind, .z e_R_i.who.node, .u e_R_i.who.inc, .z e_R_i.frm.node, .u e_R_i.frm.inc, .u e_R_i.n, .d (.ro 1 (bytesR e_R_i.body)), .u e_R_i.view.id.round, .z e_R_i.view.id.server.node, .u e_R_i.view.id.server.inc, .d (.ro 2 (procs e_R_i.view.members)), .d (.ro 1 (nums e_R_i.view.starts)), .d (.ro 2 (procs e_R_i.transit))], .rw 32 2 (procs (leftTo (onTo R i) e_R_i.who k))]) tb_ok mixed_ok hK [(15, [(3, .b true)]), (16, [(1, .z (((k + 1 : Nat) : Int)))]), (17, [(2, .n (k)), (3, .ix 0 [.z q.node, .u q.inc]), (6, .b true)])] 2000 [0, 1, 2, 3] [5, 6, 7, 8, 9, 10] r (by kernel_rfl) (an h9 (an (rfI ((k : Nat) : Int)) (an ((by first | omega | decide | (simp; done) | (simp; omega)) : (k) < ((onTo R i).length)) (an ((by first | rfl | (simp; done) | (simp <;> omega)) : ((onTo R i).length) ≤ (procs (onTo R i)).length) (an (procs_at gq) (an ((eqT (eqProcD _ _) h10) : EqAgg Try.prog 32 [(.int .i64 (q.node)), (.int .u64 (((q.inc : Nat) : Int)))] [(.int .i64 (e_R_i.who.node)), (.int .u64 (((e_R_i.who.inc : Nat) : Int)))] true) (an ((by first | exact wi (by omega) | exact wu (by omega)) : IntKind.i64.wrap ((((k : Nat) : Int) : Int) + 1) = ((k + 1 : Nat) : Int)) trivial))))))) fun ac wd r => again1 (by omega) ac wd ⟨(by omega), r.cast (by rw [leftTo_no gq (by assumption)]) (by rw [leftTo_no gq (by assumption)])⟩
      | true =>
        have qh7 := eq_of_beq h7
        cases h11 : ((e_R_i.kind : Int) == 7) with
        | false =>
          have qh11 := ne_of_beq_false h11
          exact toHead (todo' := hd Try.f4 0) (E' := [(5, .sl 0 (R.length)), (6, .sl 1 ((onTo R i).length + (1))), (7, .n (i + 1))]) (M' := [.rw 40 13 (evs R), .rw 32 2 (procs (onTo R i) ++ [[.z e_R_i.who.node, .u e_R_i.who.inc]])]) tb_ok mixed_ok hK [(7, [(3, .b true)]), (8, [(1, .z (((i + 1 : Nat) : Int)))]), (9, [(2, .n (i)), (3, .ix 0 [.z e_R_i.kind, .z e_R_i.who.node, .u e_R_i.who.inc, .z e_R_i.frm.node, .u e_R_i.frm.inc, .u e_R_i.n, .ro 1 (bytesR e_R_i.body), .u e_R_i.view.id.round, .z e_R_i.view.id.server.node, .u e_R_i.view.id.server.inc, .ro 2 (procs e_R_i.view.members), .ro 1 (nums e_R_i.view.starts), .ro 2 (procs e_R_i.transit)])]), (10, [(2, .b true)]), (12, [(2, .b false)])] 2000 [0, 1] [5, 6, 7] r (by kernel_rfl) (an h1 (an (rfI ((i : Nat) : Int)) (an ((by first | omega | decide | (simp; done) | (simp; omega)) : (i) < (R.length)) (an ((by first | rfl | (simp; done) | (simp <;> omega)) : (R.length) ≤ (evs R : List (List DV)).length) (an (evs_at ge_R_i) (an h7 (an ((by first | rfl | (simp; done) | (simp <;> omega)) : ((onTo R i).length) = (procs (onTo R i)).length) (an ((by first | rfl | (simp; done) | (simp <;> omega)) : (1) = ([[.z e_R_i.who.node, .u e_R_i.who.inc]] : List (List DV)).length) (an ((by first | omega | (have := anew_room R m; omega) | (have := anew_room R i; omega) | (have := ends_room R i; omega) | (simp; done) | (simp <;> omega)) : (2 * (((onTo R i).length) + (1)) + 192) * 16 ≤ 281474976710656) (an ((by first | omega | (have := anew_room R m; omega) | (have := anew_room R i; omega) | (have := ends_room R i; omega) | (simp; done) | (simp <;> omega)) : ((onTo R i).length) + (1) < 4611686018427387904) (an ((by first | exact one_procsL _ | exact one_evs _ | exact one_evsT _ _ | (simp [OneR, AV.one, oneC, bytesR]; done)) : OneR ([[.z e_R_i.who.node, .u e_R_i.who.inc]])) (an h11 (an ((by first | exact wi (by omega) | exact wu (by omega)) : IntKind.i64.wrap ((((i : Nat) : Int) : Int) + 1) = ((i + 1 : Nat) : Int)) trivial))))))))))))) fun ac wd r => again0 (by omega) ac wd ⟨(by omega), r.cast (by rw [onTo_six ge_R_i (by omega), List.length_append]; rfl) (by rw [onTo_six ge_R_i (by omega), ← procs_one])⟩
        | true =>
          have qh11 := eq_of_beq h11
          exact absurd qh7 (by omega)
  | true =>
    exact toRet tb_ok mixed_ok hK rfl [(1, [(1, .con (.v (.bool true)))]), (2, [(0, .con (.v (.bool true)))])] 2000 r (by kernel_rfl) (an ((by have k := heavyOk l hl hr; rw [h0] at k; exact k) : Con Try.prog 5 [.d (.ro 13 (evs l))] (.v (.bool true))) (an (awakeOk) trivial))
end Go.Proofs.Ytilhbhpldkjkaaa
namespace Go.Proofs.Ytilhbhpldkjkaaa
open Go.ChangeShapes Go.WideShapes Go.ChangeAt Go.RowKit
set_option maxRecDepth 100000 in
theorem specAnew_lifted (os : Os) (started : os.Started) (H : Type) (enc : TypeId × Value → H) :
    ReturnsInHanded {} Try.checked os 4 .any (Rows.specAnewSpec.pre6 enc Try.prog Try.f4 Rows.specAnewRow.domain false) (Rows.specAnewSpec.post enc Try.prog Try.f4 false true false false) := by
  refine returnsInHanded_of_change (C := Try.checked) Try.own started (by kernel_rfl) Try.func4
    (ChangeSpec.witness6 (enc := enc) (C := Try.checked) false ⟨#[], #[.slice none 0 0], []⟩ 8 (by kernel_rfl) (by kernel_rfl) (by kernel_rfl) (by kernel_rfl)) ?_
  intro W base args ds gs before hval0 hW hcnd _
  have hW0 : DataW.Whole enc Try.prog Try.f4.params.toList Rows.specAnewSpec.vars false W args.toList ds gs before := hW
  have hW' := hW0
  obtain ⟨p, q, hA0, hV, rfl, hfz, hnd⟩ := hW
  have hA : DataW.TrodAll enc Try.prog W 0 (fun _ => true) true Try.f4.params.toList args.toList ds p := hA0
  have hval : ∀ (j : Nat) t v, Try.f4.params[j]? = some t → args[j]? = some v → Value.okWide Try.prog W .any base t v := hval0
  rw [Try.params4] at hA hval
  obtain ⟨v0, vs0, d0, ds0, p0, q0, hargs0, rfl, rfl, h0, r0⟩ := trodAll_cons hA
  obtain ⟨rfl, rfl, rfl⟩ := trodAll_nil r0
  obtain rfl : args = #[v0] := by cases args; simp_all
  obtain ⟨rfl, rfl⟩ := trodVars_none hV
  obtain ⟨a0, n0, c0, rfl⟩ := okWide_slice (P := Try.prog) (e := 40) (by kernel_rfl) (hval 0 22 v0 rfl rfl)
  obtain ⟨l, hl, g0⟩ := rd_evs _ (TR.of h0)
  refine (Con.holds (w := W) (anewLaw l hl.1 hl.2) (ys := [_]) rfl fun j c y e1 e2 => ?_).mono fun e W' ⟨he, hg⟩ => ?_
  · match j, e1, e2 with
    | 0, e1, e2 => simp at e1 e2; subst e1 e2; exact DRs.v g0
    | k + 1, e1, _ => simp at e1
  · subst he
    exact ⟨_, rfl, law_post Try.laidOut (by kernel_rfl) (by kernel_rfl) Try.underlying4 rfl hW' rfl hg⟩
theorem specAnew_holds : Rows.SpecAnewSaid :=
  OpenClaim.holds_of_wide 4 Try.f4 rfl rfl rfl rfl rfl rfl rfl ⟨rfl, rfl, rfl, rfl, rfl⟩ rfl rfl rfl rfl rfl (by kernel_rfl) Try.func4 (by kernel_rfl)
    (of_decide_eq_true (by kernel_rfl)) (by unfold Func.isWrapper; first | (rw [if_pos (by decide +kernel)]; kernel_rfl) | (rw [if_neg (by decide +kernel)]; exact ⟨rfl, rfl⟩))
    (fun os started H enc _ => specAnew_lifted os started H enc)
end Go.Proofs.Ytilhbhpldkjkaaa
