import Derived.Test.YtaeidblipdjgnaaSame
namespace Go.Proofs.Ytaeidblipdjgnaa
open Go.RowKit Go.Maps Go.WideMaps

/-- a place of an array, wherever it lies -/
theorem y_indexPA {P : Program} {ρ : Operand → Value} {w : World} {Φ : Value → World → Prop} {d : Option Tmp} {ty t e : TypeId} {pos : String} {aft : Array Edge} {gd : Option (Nat × Bool)} {x ix : Operand} {a : Addr} {n size : Nat} {k : IntKind} {i : Int} (ht : P.underlying t = some (.array n e)) (hs : (P.info? e).map (·.size) = some size) (hx : ρ x = .pointer (some a)) (hi : ρ ix = .int k i) (h0 : 0 ≤ i) (h1 : i < n) (hΦ : Φ (.pointer (some (a.add (i.toNat * size)))) w) :
    OpY P ⟨d, .indexAddr t x ix, ty, pos, aft, gd⟩ ρ w Φ := by
  refine .pure (v := .pointer (some (a.add (i.toNat * size)))) ?_ hΦ
  cases hin : P.info? e with
  | none => simp [hin] at hs
  | some inf =>
    simp only [hin, Option.map_some, Option.some.injEq] at hs
    have hsz : (sizeOf e).run P w = .ok size w := by simp [sizeOf, typeInfo, Sem.run_bind, hin, hs]
    simp [execOp, hx, hi, Instr.indexAt, Instr.sureAddr, asIntOf, Sem.run_bind, run_underlying ht, h0, h1, hsz]
/-- rows of strings of one's own -/
structure RRep (v : Value) (ll : List (List (List UInt8))) (Ho : Frag) (rs : List (Value × Frag)) : Prop where
  sl : SlRep 29 1 v ll.length (rs.map (·.1)) Ho
  ro : ∀ (i : Nat) (r : Value × Frag) (l : List (List UInt8)), rs[i]? = some r → ll[i]? = some l → SlRep 9 1 r.1 l.length (l.map strv) r.2
def rsH (rs : List (Value × Frag)) : Frag := rs.flatMap (·.2)
theorem RRep.len {v : Value} {ll : List (List (List UInt8))} {Ho : Frag} {rs : List (Value × Frag)} (h : RRep v ll Ho rs) : rs.length = ll.length := by have := h.sl.1; simpa using this
theorem RRep.src {w : World} {v : Value} {ll : List (List (List UInt8))} {Ho : Frag} {rs : List (Value × Frag)} (h : RRep v ll Ho rs) (hh : Holds w (Ho ++ rsH rs)) : RSrc w v ll := by
  obtain ⟨h1, h2⟩ := Holds.app.1 hh
  refine ⟨_, h.sl.src h1, fun i u l hu hl => ?_⟩
  simp only [List.getElem?_map, Option.map_eq_some_iff] at hu
  obtain ⟨r, hr, rfl⟩ := hu
  exact (h.ro i r l hr hl).src (fun x hx => h2 x (List.mem_flatMap.2 ⟨r, List.mem_of_getElem? hr, hx⟩))
theorem RRep.nil : RRep (.slice none 0 0) [] [] [] := ⟨SlRep.nil _ _ _, by simp⟩
theorem RRep.snoc {v : Value} {ll : List (List (List UInt8))} {Ho : Frag} {rs : List (Value × Frag)} (h : RRep v ll Ho rs) {v' : Value} {Ho' : Frag} {u : Value} {l : List (List UInt8)} {Hu : Frag} (hs : SlRep 29 1 v' (ll.length + 1) (rs.map (·.1) ++ [u]) Ho') (hu : SlRep 9 1 u l.length (l.map strv) Hu) : RRep v' (ll ++ [l]) Ho' (rs ++ [(u, Hu)]) := by
  refine ⟨by simpa using hs, fun i r l' hr hl => ?_⟩
  have hlen := h.len
  by_cases hi : i < ll.length
  · rw [List.getElem?_append_left (by omega)] at hr hl; exact h.ro i r l' hr hl
  · have h2 := lt_of_get hl
    simp only [List.length_append, List.length_cons, List.length_nil] at h2
    obtain rfl : i = ll.length := by omega
    rw [List.getElem?_append_right (by omega)] at hr hl
    simp [hlen] at hr hl
    subst hr; subst hl; exact hu
theorem okSSS : AppOk Try.prog 46 29 1 24 (.slice none 0 0) := ⟨by kernel_rfl, by kernel_rfl, by kernel_rfl, by kernel_rfl, rfl⟩
theorem RRep.one {v : Value} {ll : List (List (List UInt8))} {Ho : Frag} {rs : List (Value × Frag)} (h : RRep v ll Ho rs) : ∀ q ∈ rs.map (·.1), oneC q = true := by
  intro q hq
  obtain ⟨r, hr, rfl⟩ := List.mem_map.1 hq
  obtain ⟨i, hi, rfl⟩ := List.getElem_of_mem hr
  obtain ⟨a, c, e⟩ := (h.ro i _ (ll[i]'(by rw [← h.len]; exact hi)) (List.getElem?_eq_getElem hi) (List.getElem?_eq_getElem _)).len
  rw [e]; rfl
def rowF (m : M) (a b : Int) : List (List UInt8) := (List.range (m.q (a, b)).length).map fun j => (m.peek a b ((j : Nat) : Int)).1
def shownF (m : M) : List (List (List UInt8)) := (m.order.flatMap both).map fun k => rowF m k.1 k.2
theorem peek_is {p : Nat} {m : M} {H : Frag} {w : World} {a b i : Int} (h : NetRep p m H) (nd : (keys H).Nodup) (hH : Holds w H) (ha : i64 a) (hb : i64 b) {bs : List UInt8} {e : Int} (he : m.peek a b i = (bs, e)) :
    Calls Try.prog 21 #[.pointer (some ⟨p, 0, none⟩), .int .i64 a, .int .i64 b, .int .i64 i] w (RetW (keys H) w fun r H' => ∃ vb Hb Hn, r = .tuple #[vb, .int .i64 e] ∧ BRep vb bs Hb ∧ H' = Hn ++ Hb ∧ NetRep p m Hn) := by
  have := peek_ok (i := i) h nd hH ha hb; rw [he] at this; exact this

set_option maxRecDepth 20000 in
set_option maxHeartbeats 16000000 in
theorem shown_ok {p : Nat} {m : M} {H : Frag} {w0 : World} (h : NetRep p m H) (nd : (keys H).Nodup) (hH : Holds w0 H) (ho : ∀ l ∈ m.order, i64 l.1 ∧ i64 l.2) (hol : m.order.length ≤ 300) :
    Calls Try.prog 19 #[.pointer (some ⟨p, 0, none⟩)] w0 (RetW (keys H) w0 fun r H' => ∃ Hn Ho rs, NetRep p m Hn ∧ RRep r (shownF m) Ho rs ∧ H' = Hn ++ (Ho ++ rsH rs)) := by
  have S0 := St.start nd hH
  generalize hD : keys _ = DD at S0 ⊢
  have hN := h
  refine enter Try.func19 rfl (n := 64) rfl (Nat.le_of_ble_eq_true rfl) fun ac A => ?_
  have S : St _ _ _ H := S0
  refine wp_seq_k fun K1 hK1 => ?_
  refine region_seq ?_  -- region 0
  refine L_op A rfl (by decide) rfl (y_assign rfl fun ac A => ?_)
  replace A := A.keep [(0, .pointer (some ⟨p, 0, none⟩)), (2, .slice none 0 0)] ⟨rfl, rfl, trivial⟩
  refine hK1 _ _ ?_
  refine wp_seq_k fun K2 hK2 => ?_
  refine region_seq ?_  -- region 1
  refine L_op A rfl (by decide) rfl (y_assign rfl fun ac A => ?_)
  replace A := A.keep [(0, .pointer (some ⟨p, 0, none⟩)), (2, .slice none 0 0), (3, .slice none 0 0)] ⟨rfl, rfl, rfl, trivial⟩
  refine hK2 _ _ ?_
  refine wp_seq_k fun K3 hK3 => ?_
  refine region_seq ?_  -- region 2
  refine L_op A rfl (by decide) rfl (y_move (A.get (s := 0) rfl) fun ac A => ?_)
  refine L_op A rfl (by decide) rfl (y_call1 (by kernel_rfl) rfl (A.get (s := 13) rfl) (callN (links_ok hN S.holds) fun vl w Hl gG nN hf ac A => ?_))
  obtain ⟨la, lc, rfl⟩ := SlRep.len hf
  replace S : St _ _ _ (Hl ++ H) := (S.new gG nN).perm (by first | exact List.Perm.refl _ | (rw [List.append_assoc]; exact List.Perm.refl _) | (simp only [List.append_assoc, List.nil_append, List.append_nil]; exact List.Perm.refl _))
  have hL := hf
  refine L_op A rfl (by decide) rfl (y_assign (A.get (s := 14) rfl) fun ac A => ?_)
  replace A := A.keep [(0, .pointer (some ⟨p, 0, none⟩)), (2, .slice none 0 0), (3, .slice none 0 0), (4, .slice la m.order.length lc)] ⟨rfl, rfl, rfl, rfl, trivial⟩
  refine hK3 _ _ ?_
  refine wp_seq_k fun K4 hK4 => ?_
  refine wp_seq_k fun K5 hK5 => ?_
  refine region_seq ?_  -- region 3
  refine L_op A rfl (by decide) rfl (y_assign rfl fun ac A => ?_)
  replace A := A.keep [(0, .pointer (some ⟨p, 0, none⟩)), (2, .slice none 0 0), (3, .slice none 0 0), (4, .slice la m.order.length lc), (5, .int .i64 0)] ⟨rfl, rfl, rfl, rfl, rfl, trivial⟩
  refine hK5 _ _ ?_
  refine wp_block ?_
  replace A := A.keep [(0, .pointer (some ⟨p, 0, none⟩)), (3, .slice none 0 0), (4, .slice la m.order.length lc), (5, .int .i64 0)] ⟨rfl, rfl, rfl, rfl, trivial⟩
  refine wp_loop_ghost (fun kk ac w' => ∃ (i : Nat) (ll : List (List (List UInt8))) (oa : Option Addr) (oc : Nat) (Hn Ho : Frag) (rs : List (Value × Frag)), kk + i = m.order.length ∧ ll = ((m.order.take i).flatMap both).map (fun k => rowF m k.1 k.2) ∧ ll.length ≤ 2 * i ∧ Sl 64 ac [(0, .pointer (some ⟨p, 0, none⟩)), (3, .slice oa ll.length oc), (4, .slice la m.order.length lc), (5, .int .i64 ((i : Nat) : Int))] ∧ St DD w0 w' (Hn ++ (Hl ++ (Ho ++ rsH rs))) ∧ NetRep p m Hn ∧ RRep (.slice oa ll.length oc) ll Ho rs) m.order.length ⟨0, [], none, 0, H, [], [], by simp, by simp, by simp, A, S.perm (by simp only [rsH, List.flatMap_nil, List.append_nil]; exact List.perm_append_comm), hN, RRep.nil⟩ ?_
  clear A S hN
  rintro kk ac w ⟨i, ll, oa, oc, Hn, Ho, rs, hkk, hll, hlb, A, S, hN, hR⟩
  rcases Nat.lt_or_ge i m.order.length with hi | hi
  · obtain ⟨l, hli⟩ : ∃ l, m.order[i]? = some l := ⟨_, List.getElem?_eq_getElem hi⟩
    have hgl := ho l (List.mem_of_getElem? hli)
    have hnext : ((m.order.take (i + 1)).flatMap both).map (fun k => rowF m k.1 k.2) = ll ++ (both l).map (fun k => rowF m k.1 k.2) := by rw [List.take_add_one, hli, hll]; simp [List.flatMap_append]
    refine wp_seq_k fun K6 hK6 => ?_
    refine wp_seq_k fun K7 hK7 => ?_
    refine region_seq ?_  -- region 4
    refine L_op A rfl (by decide) rfl (y_move (A.get (s := 5) rfl) fun ac A => ?_)
    refine L_op A rfl (by decide) rfl (y_move (A.get (s := 4) rfl) fun ac A => ?_)
    refine L_op A rfl (by decide) rfl (y_lenS (e := 28) (by kernel_rfl) (A.get (s := 16) rfl) fun ac A => ?_)
    refine L_op A rfl (by decide) rfl (y_lss (A.get (s := 15) rfl) (A.get (s := 17) rfl) (c := true) (decide_eq_true (by omega)) fun ac A => ?_)
    replace A := A.keep [(0, .pointer (some ⟨p, 0, none⟩)), (3, .slice oa ll.length oc), (4, .slice la m.order.length lc), (5, .int .i64 (((i : Nat) : Int))), (18, .bool true)] ⟨rfl, rfl, rfl, rfl, rfl, trivial⟩
    refine hK7 _ _ ?_
    refine wp_cond_true (A.get rfl) ?_
    refine wp_skip ?_
    refine hK6 _ _ ?_
    refine wp_seq_k fun K8 hK8 => ?_
    refine wp_block ?_
    refine wp_seq_k fun K9 hK9 => ?_
    refine region_seq ?_  -- region 6
    refine L_op A rfl (by decide) rfl (y_assign rfl fun ac A => ?_)
    replace A := A.keep [(0, .pointer (some ⟨p, 0, none⟩)), (3, .slice oa ll.length oc), (4, .slice la m.order.length lc), (5, .int .i64 (((i : Nat) : Int))), (6, .int .i64 0), (18, .bool true)] ⟨rfl, rfl, rfl, rfl, rfl, rfl, trivial⟩
    refine hK9 _ _ ?_
    refine wp_block ?_
    replace A := A.keep [(0, .pointer (some ⟨p, 0, none⟩)), (3, .slice oa ll.length oc), (4, .slice la m.order.length lc), (5, .int .i64 (((i : Nat) : Int))), (6, .int .i64 0)] ⟨rfl, rfl, rfl, rfl, rfl, trivial⟩
    replace S : St _ _ _ (Hn ++ (Hl ++ (Ho ++ (rsH rs)))) := S.perm (by classical rw [List.perm_iff_count]; intro x; simp only [List.count_append] <;> omega)
    refine wp_loop_ghost (fun k2 ac w' => ∃ (k : Nat) (l2 : List (List (List UInt8))) (oa : Option Addr) (oc : Nat) (Hn Ho : Frag) (rs : List (Value × Frag)), k2 + k = 2 ∧ l2 = ll ++ ((both l).take k).map (fun k => rowF m k.1 k.2) ∧ l2.length ≤ 2 * i + k ∧ Sl 64 ac [(0, .pointer (some ⟨p, 0, none⟩)), (3, .slice oa l2.length oc), (4, .slice la m.order.length lc), (5, .int .i64 ((i : Nat) : Int)), (6, .int .i64 ((k : Nat) : Int))] ∧ St DD w0 w' (Hn ++ (Hl ++ (Ho ++ rsH rs))) ∧ NetRep p m Hn ∧ RRep (.slice oa l2.length oc) l2 Ho rs) 2 ⟨0, ll, oa, oc, Hn, Ho, rs, by simp, by simp, by omega, A, S, hN, hR⟩ ?_
    clear A S hN hR
    rintro k2 ac w ⟨k, l2, oa, oc, Hn, Ho, rs, hk2, hl2, hlb2, A, S, hN, hR⟩
    rcases Nat.lt_or_ge k 2 with hk | hk
    · obtain ⟨⟨ka, kb⟩, hkj⟩ : ∃ q, (both l)[k]? = some q := ⟨_, List.getElem?_eq_getElem (by simpa [both] using hk)⟩
      have hkab : (k = 0 ∧ ka = l.1 ∧ kb = l.2) ∨ (k = 1 ∧ ka = l.2 ∧ kb = l.1) := by
        obtain rfl | rfl : k = 0 ∨ k = 1 := by omega
        all_goals simp [both] at hkj; simp [hkj]
      have ia : i64 ka := by rcases hkab with ⟨_, rfl, _⟩ | ⟨_, rfl, _⟩; exact hgl.1; exact hgl.2
      have ib : i64 kb := by rcases hkab with ⟨_, _, rfl⟩ | ⟨_, _, rfl⟩; exact hgl.2; exact hgl.1
      have hq24 := few_of hN (ka, kb)
      have hnx : ll ++ ((both l).take (k + 1)).map (fun k => rowF m k.1 k.2) = l2 ++ [rowF m ka kb] := by rw [List.take_add_one, hkj, hl2]; simp
      refine wp_seq_k fun K10 hK10 => ?_
      refine wp_seq_k fun K11 hK11 => ?_
      refine region_seq ?_  -- region 7
      refine L_op A rfl (by decide) rfl (y_move (A.get (s := 6) rfl) fun ac A => ?_)
      refine L_op A rfl (by decide) rfl (y_lss (A.get (s := 21) rfl) rfl (c := true) (decide_eq_true (by omega)) fun ac A => ?_)
      replace A := A.keep [(0, .pointer (some ⟨p, 0, none⟩)), (3, .slice oa l2.length oc), (4, .slice la m.order.length lc), (5, .int .i64 (((i : Nat) : Int))), (6, .int .i64 (((k : Nat) : Int))), (22, .bool true)] ⟨rfl, rfl, rfl, rfl, rfl, rfl, trivial⟩
      refine hK11 _ _ ?_
      refine wp_cond_true (A.get rfl) ?_
      refine wp_skip ?_
      refine hK10 _ _ ?_
      refine wp_seq_k fun K12 hK12 => ?_
      refine wp_block ?_
      refine wp_seq_k fun K13 hK13 => ?_
      obtain ⟨va, vc, hva, hrow⟩ := pairs_row (hL.src (St.app_left (H := Hl) (K := (Hn ++ (Ho ++ (rsH rs)))) (S.perm (by classical rw [List.perm_iff_count]; intro x; simp only [List.count_append] <;> omega))).holds) hli
      simp only [Value.slice.injEq] at hva; obtain ⟨hla, -, -⟩ := hva
      have hca : w.cell? ((va.add (((i : Nat) : Int).toNat * 2)).add (((k : Nat) : Int).toNat * 1)) = some (.int .i64 ka) := by rcases hkab with ⟨rfl, rfl, _⟩ | ⟨rfl, rfl, _⟩; exact hrow 0 (Nat.zero_lt_succ _); exact hrow 1 (Nat.lt_succ_self _)
      have hcb : w.cell? ((va.add (((i : Nat) : Int).toNat * 2)).add (((1 - k : Nat) : Int).toNat * 1)) = some (.int .i64 kb) := by rcases hkab with ⟨rfl, _, rfl⟩ | ⟨rfl, _, rfl⟩; exact hrow 1 (Nat.lt_succ_self _); exact hrow 0 (Nat.zero_lt_succ _)
      refine region_draw A [⟨25, pl (eqv (.slice la m.order.length lc)), [], [4], none, false⟩, ⟨26, pl (eqv (.int .i64 (((i : Nat) : Int)))), [], [5], none, false⟩, ⟨27, pl (eqv (.int .i64 (((k : Nat) : Int)))), [], [6], none, false⟩, ⟨28, pl (eqv (.pointer (some (va.add (((i : Nat) : Int).toNat * 2))))), [0, 1], [], none, false⟩, ⟨29, pl (eqv (.pointer (some ((va.add (((i : Nat) : Int).toNat * 2)).add (((k : Nat) : Int).toNat * 1))))), [3, 2], [], none, false⟩, ⟨30, pl (eqv (.int .i64 ka)), [4], [], none, false⟩, ⟨31, pl (eqv (.slice la m.order.length lc)), [], [4], none, false⟩, ⟨32, pl (eqv (.int .i64 (((i : Nat) : Int)))), [], [5], none, false⟩, ⟨33, pl (eqv (.int .i64 (((k : Nat) : Int)))), [], [6], none, false⟩, ⟨34, pl (eqv (.int .i64 (((1 - k : Nat) : Int)))), [8], [], none, false⟩, ⟨35, pl (eqv (.pointer (some (va.add (((i : Nat) : Int).toNat * 2))))), [6, 7], [], none, false⟩, ⟨36, pl (eqv (.pointer (some ((va.add (((i : Nat) : Int).toNat * 2)).add (((1 - k : Nat) : Int).toNat * 1))))), [10, 9], [], none, false⟩, ⟨37, pl (eqv (.int .i64 kb)), [11], [], none, false⟩, ⟨7, pl (eqv (.int .i64 ka)), [5], [], none, false⟩, ⟨8, pl (eqv (.int .i64 kb)), [12], [], none, false⟩] [] (by kernel_rfl) (by kernel_rfl) (fun d _ _ _ _ h => by cases d <;> exact h) ⟨?_, ?_, ?_, ?_, ?_, ?_, ?_, ?_, ?_, ?_, ?_, ?_, ?_, ?_, ?_, trivial⟩ ?_  -- region 9
      · refine due_plain fun ρ w1 G hsrc hold => ?_; obtain ⟨o4, -⟩ := hold; exact y_move (o4.trans (A.get (s := 4) rfl)) y_eq
      · refine due_plain fun ρ w1 G hsrc hold => ?_; obtain ⟨o5, -⟩ := hold; exact y_move (o5.trans (A.get (s := 5) rfl)) y_eq
      · refine due_plain fun ρ w1 G hsrc hold => ?_; obtain ⟨o6, -⟩ := hold; exact y_move (o6.trans (A.get (s := 6) rfl)) y_eq
      · refine due_plain fun ρ w1 G hsrc hold => ?_; obtain ⟨⟨_, _, ⟨h25, -⟩, -⟩, ⟨_, _, ⟨h26, -⟩, -⟩, -⟩ := hsrc; exact y_indexA (e := 28) (size := 2) (by kernel_rfl) (by kernel_rfl) (h25.trans (by rw [hla])) h26 (by omega) (by omega) y_eq
      · refine due_plain fun ρ w1 G hsrc hold => ?_; obtain ⟨⟨_, _, ⟨h28, -⟩, -⟩, ⟨_, _, ⟨h27, -⟩, -⟩, -⟩ := hsrc; exact y_indexPA (n := 2) (e := 3) (size := 1) (by kernel_rfl) (by kernel_rfl) h28 h27 (by omega) (by omega) y_eq
      · refine due_plain fun ρ w1 G hsrc hold => ?_; obtain ⟨⟨_, _, ⟨h29, -⟩, -⟩, -⟩ := hsrc; exact y_load (by kernel_rfl) h29 (G.gr.cell' hca) y_eq
      · refine due_plain fun ρ w1 G hsrc hold => ?_; obtain ⟨o4, -⟩ := hold; exact y_move (o4.trans (A.get (s := 4) rfl)) y_eq
      · refine due_plain fun ρ w1 G hsrc hold => ?_; obtain ⟨o5, -⟩ := hold; exact y_move (o5.trans (A.get (s := 5) rfl)) y_eq
      · refine due_plain fun ρ w1 G hsrc hold => ?_; obtain ⟨o6, -⟩ := hold; exact y_move (o6.trans (A.get (s := 6) rfl)) y_eq
      · refine due_plain fun ρ w1 G hsrc hold => ?_; obtain ⟨⟨_, _, ⟨h33, -⟩, -⟩, -⟩ := hsrc; exact y_sub (G.const _) h33 (c := ((1 - k : Nat) : Int)) ((wrap64 (by omega)).trans (by omega)) y_eq
      · refine due_plain fun ρ w1 G hsrc hold => ?_; obtain ⟨⟨_, _, ⟨h31, -⟩, -⟩, ⟨_, _, ⟨h32, -⟩, -⟩, -⟩ := hsrc; exact y_indexA (e := 28) (size := 2) (by kernel_rfl) (by kernel_rfl) (h31.trans (by rw [hla])) h32 (by omega) (by omega) y_eq
      · refine due_plain fun ρ w1 G hsrc hold => ?_; obtain ⟨⟨_, _, ⟨h35, -⟩, -⟩, ⟨_, _, ⟨h34, -⟩, -⟩, -⟩ := hsrc; exact y_indexPA (n := 2) (e := 3) (size := 1) (by kernel_rfl) (by kernel_rfl) h35 h34 (by omega) (by omega) y_eq
      · refine due_plain fun ρ w1 G hsrc hold => ?_; obtain ⟨⟨_, _, ⟨h36, -⟩, -⟩, -⟩ := hsrc; exact y_load (by kernel_rfl) h36 (G.gr.cell' hcb) y_eq
      · refine due_plain fun ρ w1 G hsrc hold => ?_; obtain ⟨⟨_, _, ⟨h30, -⟩, -⟩, -⟩ := hsrc; exact y_assign h30 y_eq
      · refine due_plain fun ρ w1 G hsrc hold => ?_; obtain ⟨⟨_, _, ⟨h37, -⟩, -⟩, -⟩ := hsrc; exact y_assign h37 y_eq
      rintro _ _ ⟨rfl, rfl⟩ _ _ ⟨rfl, rfl⟩ _ _ ⟨rfl, rfl⟩ _ _ ⟨rfl, rfl⟩ _ _ ⟨rfl, rfl⟩ _ _ ⟨rfl, rfl⟩ _ _ ⟨rfl, rfl⟩ _ _ ⟨rfl, rfl⟩ _ _ ⟨rfl, rfl⟩ _ _ ⟨rfl, rfl⟩ _ _ ⟨rfl, rfl⟩ _ _ ⟨rfl, rfl⟩ _ _ ⟨rfl, rfl⟩ _ _ ⟨rfl, rfl⟩ _ _ ⟨rfl, rfl⟩
      intro ac w A gG nN
      replace S : St _ _ _ (Hn ++ (Hl ++ (Ho ++ (rsH rs)))) := (S.new gG nN).perm (by first | exact List.Perm.refl _ | (rw [List.append_assoc]; exact List.Perm.refl _) | (simp only [List.append_assoc, List.nil_append, List.append_nil]; exact List.Perm.refl _))
      replace A := A.keep [(0, .pointer (some ⟨p, 0, none⟩)), (3, .slice oa l2.length oc), (4, .slice la m.order.length lc), (5, .int .i64 (((i : Nat) : Int))), (6, .int .i64 (((k : Nat) : Int))), (7, .int .i64 ka), (8, .int .i64 kb), (22, .bool true)] ⟨rfl, rfl, rfl, rfl, rfl, rfl, rfl, rfl, trivial⟩
      refine hK13 _ _ ?_
      refine wp_seq_k fun K14 hK14 => ?_
      refine region_seq ?_  -- region 10
      refine L_op A rfl (by decide) rfl (y_assign rfl fun ac A => ?_)
      replace A := A.keep [(0, .pointer (some ⟨p, 0, none⟩)), (3, .slice oa l2.length oc), (4, .slice la m.order.length lc), (5, .int .i64 (((i : Nat) : Int))), (6, .int .i64 (((k : Nat) : Int))), (7, .int .i64 ka), (8, .int .i64 kb), (9, .slice none 0 0), (22, .bool true)] ⟨rfl, rfl, rfl, rfl, rfl, rfl, rfl, rfl, rfl, trivial⟩
      refine hK14 _ _ ?_
      refine wp_seq_k fun K15 hK15 => ?_
      refine wp_seq_k fun K16 hK16 => ?_
      refine region_seq ?_  -- region 11
      refine L_op A rfl (by decide) rfl (y_assign rfl fun ac A => ?_)
      replace A := A.keep [(0, .pointer (some ⟨p, 0, none⟩)), (3, .slice oa l2.length oc), (4, .slice la m.order.length lc), (5, .int .i64 (((i : Nat) : Int))), (6, .int .i64 (((k : Nat) : Int))), (7, .int .i64 ka), (8, .int .i64 kb), (9, .slice none 0 0), (10, .int .i64 0), (22, .bool true)] ⟨rfl, rfl, rfl, rfl, rfl, rfl, rfl, rfl, rfl, rfl, trivial⟩
      refine hK16 _ _ ?_
      refine wp_block ?_
      replace A := A.keep [(0, .pointer (some ⟨p, 0, none⟩)), (3, .slice oa l2.length oc), (4, .slice la m.order.length lc), (5, .int .i64 (((i : Nat) : Int))), (6, .int .i64 (((k : Nat) : Int))), (7, .int .i64 ka), (8, .int .i64 kb), (9, .slice none 0 0), (10, .int .i64 (((0 : Nat) : Int)))] ⟨rfl, rfl, rfl, rfl, rfl, rfl, rfl, rfl, rfl, trivial⟩
      replace S : St _ _ _ (Hn ++ (Hl ++ (Ho ++ (rsH rs)))) := S.perm (by classical rw [List.perm_iff_count]; intro x; simp only [List.count_append] <;> omega)
      refine wp_loop_ghost (fun k3 ac w' => ∃ (j : Nat) (ra : Option Addr) (rc : Nat) (Hn Hr : Frag), k3 + j = (m.q (ka, kb)).length ∧ Sl 64 ac [(0, .pointer (some ⟨p, 0, none⟩)), (3, .slice oa l2.length oc), (4, .slice la m.order.length lc), (5, .int .i64 ((i : Nat) : Int)), (6, .int .i64 ((k : Nat) : Int)), (7, .int .i64 ka), (8, .int .i64 kb), (9, .slice ra j rc), (10, .int .i64 ((j : Nat) : Int))] ∧ St DD w0 w' (Hn ++ (Hl ++ (Ho ++ (rsH rs ++ Hr)))) ∧ NetRep p m Hn ∧ SlRep 9 1 (.slice ra j rc) j (((rowF m ka kb).take j).map strv) Hr) (m.q (ka, kb)).length ⟨0, none, 0, Hn, [], by simp, A, S.perm (by simp only [List.append_nil]; exact List.Perm.refl _), hN, by simpa using SlRep.nil _ _ _⟩ ?_
      clear A S hN
      rintro k3 ac w ⟨j, ra, rc, Hn, Hr, hk3, A, S, hN, hRow⟩
      have hrl : (rowF m ka kb).length = (m.q (ka, kb)).length := by simp [rowF]
      rcases Nat.lt_or_ge j (m.q (ka, kb)).length with hj | hj
      · obtain ⟨bs, e, hpk⟩ : ∃ bs e, m.peek ka kb ((j : Nat) : Int) = (bs, e) := ⟨_, _, rfl⟩
        have htk : (rowF m ka kb).take (j + 1) = (rowF m ka kb).take j ++ [bs] := by rw [List.take_add_one]; congr 1; simp [rowF, hj, hpk]
        refine wp_seq_k fun K17 hK17 => ?_
        refine wp_seq_k fun K18 hK18 => ?_
        refine region_seq ?_  -- region 12
        refine L_op A rfl (by decide) rfl (y_move (A.get (s := 10) rfl) fun ac A => ?_)
        refine L_op A rfl (by decide) rfl (y_move (A.get (s := 0) rfl) fun ac A => ?_)
        refine L_op A rfl (by decide) rfl (y_move (A.get (s := 7) rfl) fun ac A => ?_)
        refine L_op A rfl (by decide) rfl (y_move (A.get (s := 8) rfl) fun ac A => ?_)
        refine L_op A rfl (by decide) rfl (y_call3 (by kernel_rfl) rfl (A.get (s := 39) rfl) (A.get (s := 40) rfl) (A.get (s := 41) rfl) (callN (len_is rfl hN (St.app_left (H := Hn) (K := (Hl ++ (Ho ++ ((rsH rs) ++ Hr)))) (S.perm (by classical rw [List.perm_iff_count]; intro x; simp only [List.count_append] <;> omega))).holds ia ib) fun v w H gG nN hf ac A => ?_))
        obtain ⟨rfl, rfl⟩ := hf
        replace S : St _ _ _ (Hn ++ (Hl ++ (Ho ++ ((rsH rs) ++ Hr)))) := (S.new gG nN).perm (by first | exact List.Perm.refl _ | (rw [List.append_assoc]; exact List.Perm.refl _) | (simp only [List.append_assoc, List.nil_append, List.append_nil]; exact List.Perm.refl _))
        refine L_op A rfl (by decide) rfl (y_lss (A.get (s := 38) rfl) (A.get (s := 42) rfl) (c := true) (decide_eq_true (by omega)) fun ac A => ?_)
        replace A := A.keep [(0, .pointer (some ⟨p, 0, none⟩)), (3, .slice oa l2.length oc), (4, .slice la m.order.length lc), (5, .int .i64 (((i : Nat) : Int))), (6, .int .i64 (((k : Nat) : Int))), (7, .int .i64 ka), (8, .int .i64 kb), (9, .slice ra j rc), (10, .int .i64 (((j : Nat) : Int))), (43, .bool true)] ⟨rfl, rfl, rfl, rfl, rfl, rfl, rfl, rfl, rfl, rfl, trivial⟩
        refine hK18 _ _ ?_
        refine wp_cond_true (A.get rfl) ?_
        refine wp_skip ?_
        refine hK17 _ _ ?_
        refine wp_seq_k fun K19 hK19 => ?_
        refine wp_block ?_
        refine wp_seq_k fun K20 hK20 => ?_
        refine region_seq ?_  -- region 14
        refine L_op A rfl (by decide) rfl (y_move (A.get (s := 0) rfl) fun ac A => ?_)
        refine L_op A rfl (by decide) rfl (y_move (A.get (s := 7) rfl) fun ac A => ?_)
        refine L_op A rfl (by decide) rfl (y_move (A.get (s := 8) rfl) fun ac A => ?_)
        refine L_op A rfl (by decide) rfl (y_move (A.get (s := 10) rfl) fun ac A => ?_)
        replace A := A.keep [(0, .pointer (some ⟨p, 0, none⟩)), (3, .slice oa l2.length oc), (4, .slice la m.order.length lc), (5, .int .i64 (((i : Nat) : Int))), (6, .int .i64 (((k : Nat) : Int))), (7, .int .i64 ka), (8, .int .i64 kb), (9, .slice ra j rc), (10, .int .i64 (((j : Nat) : Int))), (43, .bool true), (47, .pointer (some ⟨p, 0, none⟩)), (48, .int .i64 ka), (49, .int .i64 kb), (50, .int .i64 (((j : Nat) : Int)))] ⟨rfl, rfl, rfl, rfl, rfl, rfl, rfl, rfl, rfl, rfl, rfl, rfl, rfl, rfl, trivial⟩
        replace S : St _ _ _ (Hn ++ (Hl ++ (Ho ++ ((rsH rs) ++ Hr)))) := S.perm (by classical rw [List.perm_iff_count]; intro x; simp only [List.count_append] <;> omega)
        refine L_op A rfl (by decide) rfl (y_call4 (by kernel_rfl) rfl (A.get (s := 47) rfl) (A.get (s := 48) rfl) (A.get (s := 49) rfl) (A.get (s := 50) rfl) (callW (peek_is hN S.app_left.nd S.app_left.holds ia ib hpk) fun v w Hx s hf ac A => ?_))
        replace S : St _ _ _ (Hx ++ (Hl ++ (Ho ++ ((rsH rs) ++ Hr)))) := St.call (H := Hn) (R := (Hl ++ (Ho ++ ((rsH rs) ++ Hr)))) S rfl s
        obtain ⟨vb, Hb, Hn1, rfl, hB, rfl, hN⟩ := hf
        replace S : St _ _ _ ((Hn1 ++ Hb) ++ (Hl ++ (Ho ++ ((rsH rs) ++ Hr)))) := S
        replace S : St _ _ _ (Hn1 ++ (Hb ++ (Hl ++ (Ho ++ ((rsH rs) ++ Hr))))) := S.perm (by classical rw [List.perm_iff_count]; intro x; simp only [List.count_append] <;> omega)
        replace S : St _ _ _ (Hn1 ++ (Hb ++ (Hl ++ (Ho ++ ((rsH rs) ++ Hr))))) := S.perm (by classical rw [List.perm_iff_count]; intro x; simp only [List.count_append] <;> omega)
        obtain ⟨ta, tc, rfl⟩ := SlRep.len hB
        refine L_op A rfl (by decide) rfl (y_move (A.get (s := 51) rfl) fun ac A => ?_)
        refine L_op A rfl (by decide) rfl (y_extract (A.get (s := 46) rfl) rfl fun ac A => ?_)
        refine L_op A rfl (by decide) rfl (y_extract (A.get (s := 46) rfl) rfl fun ac A => ?_)
        replace A := A.keep [(0, .pointer (some ⟨p, 0, none⟩)), (3, .slice oa l2.length oc), (4, .slice la m.order.length lc), (5, .int .i64 (((i : Nat) : Int))), (6, .int .i64 (((k : Nat) : Int))), (7, .int .i64 ka), (8, .int .i64 kb), (9, .slice ra j rc), (10, .int .i64 (((j : Nat) : Int))), (43, .bool true), (52, .slice ta bs.length tc), (53, .int .i64 e)] ⟨rfl, rfl, rfl, rfl, rfl, rfl, rfl, rfl, rfl, rfl, rfl, rfl, trivial⟩
        refine L_op A rfl (by decide) rfl (y_assign (A.get (s := 52) rfl) fun ac A => ?_)
        refine L_op A rfl (by decide) rfl (y_assign (A.get (s := 53) rfl) fun ac A => ?_)
        replace A := A.keep [(0, .pointer (some ⟨p, 0, none⟩)), (3, .slice oa l2.length oc), (4, .slice la m.order.length lc), (5, .int .i64 (((i : Nat) : Int))), (6, .int .i64 (((k : Nat) : Int))), (7, .int .i64 ka), (8, .int .i64 kb), (9, .slice ra j rc), (10, .int .i64 (((j : Nat) : Int))), (11, .slice ta bs.length tc), (43, .bool true)] ⟨rfl, rfl, rfl, rfl, rfl, rfl, rfl, rfl, rfl, rfl, rfl, trivial⟩
        refine hK20 _ _ ?_
        refine region_seq ?_  -- region 15
        refine L_op A rfl (by decide) rfl (y_move (A.get (s := 9) rfl) fun ac A => ?_)
        refine L_op A rfl (by decide) rfl (y_move (A.get (s := 11) rfl) fun ac A => ?_)
        refine L_op A rfl (by decide) rfl (y_bytesStr (e := 5) (l := bs) (by kernel_rfl) (by kernel_rfl) (by kernel_rfl) (A.get (s := 55) rfl) (hB.src (St.app_left (H := Hb) (K := (Hn1 ++ (Hl ++ (Ho ++ ((rsH rs) ++ Hr))))) (S.perm (by classical rw [List.perm_iff_count]; intro x; simp only [List.count_append] <;> omega))).holds) fun ac A => ?_)
        refine L_op A rfl (by decide) rfl (y_buildSlice1 (c := #[.string ⟨bs.toArray⟩]) (e := 9) (A.get (s := 56) rfl) (fun w => by kernel_rfl) fun b1 w gG nN ac A => ?_)
        replace S : St _ _ _ ([(b1, .cells #[.string ⟨bs.toArray⟩] 9 (0, 0))] ++ (Hn1 ++ (Hb ++ (Hl ++ (Ho ++ ((rsH rs) ++ Hr)))))) := (S.new gG nN).perm (by first | exact List.Perm.refl _ | (rw [List.append_assoc]; exact List.Perm.refl _) | (simp only [List.append_assoc, List.nil_append, List.append_nil]; exact List.Perm.refl _))
        have hsrc : Src w 1 (.slice (some ⟨b1, 0, none⟩) 1 1) 1 ([bs].map strv) := ⟨rfl, Or.inr ⟨_, _, rfl, cells_at (S.get 0 rfl) rfl⟩⟩
        replace S : St _ _ _ (Hr ++ ([(b1, .cells #[.string ⟨bs.toArray⟩] 9 (0, 0))] ++ (Hn1 ++ (Hb ++ (Hl ++ (Ho ++ (rsH rs))))))) := S.perm (by classical rw [List.perm_iff_count]; intro x; simp only [List.count_append, List.count_cons, List.count_nil] <;> omega)
        refine L_op A rfl (by decide) rfl (y_append okSS (by kernel_rfl) (A.get (s := 54) rfl) (A.get (s := 57) rfl) S hRow hsrc (str_one _) (by omega) (by omega) fun v' w Hr' hR2 S ac A => ?_)
        obtain ⟨ra2, rc2, rfl⟩ := hR2.len
        replace S : St _ _ _ ([(b1, .cells #[.string ⟨bs.toArray⟩] 9 (0, 0))] ++ (Hn1 ++ (Hb ++ (Hl ++ (Ho ++ ((rsH rs) ++ Hr')))))) := S.perm (by classical rw [List.perm_iff_count]; intro x; simp only [List.count_append, List.count_cons, List.count_nil] <;> omega)
        refine L_op A rfl (by decide) rfl (y_assign (A.get (s := 58) rfl) fun ac A => ?_)
        replace A := A.keep [(0, .pointer (some ⟨p, 0, none⟩)), (3, .slice oa l2.length oc), (4, .slice la m.order.length lc), (5, .int .i64 (((i : Nat) : Int))), (6, .int .i64 (((k : Nat) : Int))), (7, .int .i64 ka), (8, .int .i64 kb), (9, .slice ra2 (j + 1) rc2), (10, .int .i64 (((j : Nat) : Int))), (11, .slice ta bs.length tc), (43, .bool true)] ⟨rfl, rfl, rfl, rfl, rfl, rfl, rfl, rfl, rfl, rfl, rfl, trivial⟩
        refine hK19 _ _ ?_
        refine region_seq ?_  -- region 13
        refine L_op A rfl (by decide) rfl (y_move (A.get (s := 10) rfl) fun ac A => ?_)
        refine L_op A rfl (by decide) rfl (y_add (A.get (s := 44) rfl) rfl (c := ((j + 1 : Nat) : Int)) ((wrap64 (by omega)).trans (by omega)) fun ac A => ?_)
        refine L_op A rfl (by decide) rfl (y_assign (A.get (s := 45) rfl) fun ac A => ?_)
        replace A := A.keep [(0, .pointer (some ⟨p, 0, none⟩)), (3, .slice oa l2.length oc), (4, .slice la m.order.length lc), (5, .int .i64 (((i : Nat) : Int))), (6, .int .i64 (((k : Nat) : Int))), (7, .int .i64 ka), (8, .int .i64 kb), (9, .slice ra2 (j + 1) rc2), (10, .int .i64 (((j + 1 : Nat) : Int))), (11, .slice ta bs.length tc), (43, .bool true)] ⟨rfl, rfl, rfl, rfl, rfl, rfl, rfl, rfl, rfl, rfl, rfl, trivial⟩
        replace A := A.keep [(0, .pointer (some ⟨p, 0, none⟩)), (3, .slice oa l2.length oc), (4, .slice la m.order.length lc), (5, .int .i64 (((i : Nat) : Int))), (6, .int .i64 (((k : Nat) : Int))), (7, .int .i64 ka), (8, .int .i64 kb), (9, .slice ra2 (j + 1) rc2), (10, .int .i64 (((j + 1 : Nat) : Int)))] ⟨rfl, rfl, rfl, rfl, rfl, rfl, rfl, rfl, rfl, trivial⟩
        replace S : St _ _ _ (Hn1 ++ (Hl ++ (Ho ++ ((rsH rs) ++ Hr')))) := St.app_left (K := ([(b1, .cells #[.string ⟨bs.toArray⟩] 9 (0, 0))] ++ Hb)) (S.perm (by classical rw [List.perm_iff_count]; intro x; simp only [List.count_append, List.count_cons, List.count_nil] <;> omega))
        exact ⟨k3 - 1, by omega, j + 1, ra2, rc2, _, _, by omega, A, S, hN, by rw [htk]; simpa using hR2⟩
      · obtain rfl : j = (rowF m ka kb).length := by omega
        rw [List.take_length] at hRow
        refine wp_seq_k fun K17 hK17 => ?_
        refine wp_seq_k fun K18 hK18 => ?_
        refine region_seq ?_  -- region 12
        refine L_op A rfl (by decide) rfl (y_move (A.get (s := 10) rfl) fun ac A => ?_)
        refine L_op A rfl (by decide) rfl (y_move (A.get (s := 0) rfl) fun ac A => ?_)
        refine L_op A rfl (by decide) rfl (y_move (A.get (s := 7) rfl) fun ac A => ?_)
        refine L_op A rfl (by decide) rfl (y_move (A.get (s := 8) rfl) fun ac A => ?_)
        refine L_op A rfl (by decide) rfl (y_call3 (by kernel_rfl) rfl (A.get (s := 39) rfl) (A.get (s := 40) rfl) (A.get (s := 41) rfl) (callN (len_is rfl hN (St.app_left (H := Hn) (K := (Hl ++ (Ho ++ ((rsH rs) ++ Hr)))) (S.perm (by classical rw [List.perm_iff_count]; intro x; simp only [List.count_append] <;> omega))).holds ia ib) fun v w H gG nN hf ac A => ?_))
        obtain ⟨rfl, rfl⟩ := hf
        replace S : St _ _ _ (Hn ++ (Hl ++ (Ho ++ ((rsH rs) ++ Hr)))) := (S.new gG nN).perm (by first | exact List.Perm.refl _ | (rw [List.append_assoc]; exact List.Perm.refl _) | (simp only [List.append_assoc, List.nil_append, List.append_nil]; exact List.Perm.refl _))
        refine L_op A rfl (by decide) rfl (y_lss (A.get (s := 38) rfl) (A.get (s := 42) rfl) (c := false) (decide_eq_false (by omega)) fun ac A => ?_)
        replace A := A.keep [(0, .pointer (some ⟨p, 0, none⟩)), (3, .slice oa l2.length oc), (4, .slice la m.order.length lc), (5, .int .i64 (((i : Nat) : Int))), (6, .int .i64 (((k : Nat) : Int))), (7, .int .i64 ka), (8, .int .i64 kb), (9, .slice ra (rowF m ka kb).length rc), (10, .int .i64 ((((rowF m ka kb).length : Nat) : Int))), (43, .bool false)] ⟨rfl, rfl, rfl, rfl, rfl, rfl, rfl, rfl, rfl, rfl, trivial⟩
        refine hK18 _ _ ?_
        refine wp_cond_false (A.get rfl) ?_
        refine wp_exit ?_
        refine hK15 _ _ ?_
        refine region_seq ?_  -- region 16
        refine L_op A rfl (by decide) rfl (y_move (A.get (s := 3) rfl) fun ac A => ?_)
        refine L_op A rfl (by decide) rfl (y_move (A.get (s := 9) rfl) fun ac A => ?_)
        refine L_op A rfl (by decide) rfl (y_buildSlice1 (c := #[.slice ra (rowF m ka kb).length rc]) (e := 29) (A.get (s := 60) rfl) (fun w => by kernel_rfl) fun b1 w gG nN ac A => ?_)
        replace S : St _ _ _ ([(b1, .cells #[.slice ra (rowF m ka kb).length rc] 29 (0, 0))] ++ (Hn ++ (Hl ++ (Ho ++ ((rsH rs) ++ Hr))))) := (S.new gG nN).perm (by first | exact List.Perm.refl _ | (rw [List.append_assoc]; exact List.Perm.refl _) | (simp only [List.append_assoc, List.nil_append, List.append_nil]; exact List.Perm.refl _))
        have hsrc : Src w 1 (.slice (some ⟨b1, 0, none⟩) 1 1) 1 [.slice ra (rowF m ka kb).length rc] := ⟨rfl, Or.inr ⟨_, _, rfl, cells_at (S.get 0 rfl) rfl⟩⟩
        replace S : St _ _ _ (Ho ++ ([(b1, .cells #[.slice ra (rowF m ka kb).length rc] 29 (0, 0))] ++ (Hn ++ (Hl ++ ((rsH rs) ++ Hr))))) := S.perm (by classical rw [List.perm_iff_count]; intro x; simp only [List.count_append, List.count_cons, List.count_nil] <;> omega)
        refine L_op A rfl (by decide) rfl (y_append okSSS (by kernel_rfl) (A.get (s := 59) rfl) (A.get (s := 61) rfl) S hR.sl hsrc (one_all rfl) (by omega) (by omega) fun v' w Ho' hs2 S ac A => ?_)
        have hR2 := hR.snoc hs2 hRow
        obtain ⟨oa2, oc2, rfl⟩ := hs2.len
        replace S : St _ _ _ ([(b1, .cells #[.slice ra (rowF m ka kb).length rc] 29 (0, 0))] ++ (Hn ++ (Hl ++ (Ho' ++ ((rsH rs) ++ Hr))))) := S.perm (by classical rw [List.perm_iff_count]; intro x; simp only [List.count_append, List.count_cons, List.count_nil] <;> omega)
        replace S : St _ _ _ ([(b1, .cells #[.slice ra (rowF m ka kb).length rc] 29 (0, 0))] ++ (Hn ++ (Hl ++ (Ho' ++ (rsH (rs ++ [(.slice ra (rowF m ka kb).length rc, Hr)])))))) := S.perm (by simp only [rsH, List.flatMap_append, List.flatMap_cons, List.flatMap_nil, List.append_nil]; exact List.Perm.refl _)
        refine L_op A rfl (by decide) rfl (y_assign (A.get (s := 62) rfl) fun ac A => ?_)
        replace A := A.keep [(0, .pointer (some ⟨p, 0, none⟩)), (3, .slice oa2 (l2.length + 1) oc2), (4, .slice la m.order.length lc), (5, .int .i64 (((i : Nat) : Int))), (6, .int .i64 (((k : Nat) : Int))), (7, .int .i64 ka), (8, .int .i64 kb), (9, .slice ra (rowF m ka kb).length rc), (10, .int .i64 ((((rowF m ka kb).length : Nat) : Int))), (43, .bool false)] ⟨rfl, rfl, rfl, rfl, rfl, rfl, rfl, rfl, rfl, rfl, trivial⟩
        refine hK12 _ _ ?_
        refine region_seq ?_  -- region 8
        refine L_op A rfl (by decide) rfl (y_move (A.get (s := 6) rfl) fun ac A => ?_)
        refine L_op A rfl (by decide) rfl (y_add (A.get (s := 23) rfl) rfl (c := ((k + 1 : Nat) : Int)) ((wrap64 (by omega)).trans (by omega)) fun ac A => ?_)
        refine L_op A rfl (by decide) rfl (y_assign (A.get (s := 24) rfl) fun ac A => ?_)
        replace A := A.keep [(0, .pointer (some ⟨p, 0, none⟩)), (3, .slice oa2 (l2.length + 1) oc2), (4, .slice la m.order.length lc), (5, .int .i64 (((i : Nat) : Int))), (6, .int .i64 (((k + 1 : Nat) : Int))), (7, .int .i64 ka), (8, .int .i64 kb), (9, .slice ra (rowF m ka kb).length rc), (10, .int .i64 ((((rowF m ka kb).length : Nat) : Int))), (43, .bool false)] ⟨rfl, rfl, rfl, rfl, rfl, rfl, rfl, rfl, rfl, rfl, trivial⟩
        replace A := A.keep [(0, .pointer (some ⟨p, 0, none⟩)), (3, .slice oa2 (l2.length + 1) oc2), (4, .slice la m.order.length lc), (5, .int .i64 (((i : Nat) : Int))), (6, .int .i64 (((k + 1 : Nat) : Int)))] ⟨rfl, rfl, rfl, rfl, rfl, trivial⟩
        replace S : St _ _ _ (Hn ++ (Hl ++ (Ho' ++ (rsH (rs ++ [(.slice ra (rowF m ka kb).length rc, Hr)]))))) := St.app_left (K := [(b1, .cells #[.slice ra (rowF m ka kb).length rc] 29 (0, 0))]) (S.perm (by classical rw [List.perm_iff_count]; intro x; simp only [List.count_append, List.count_cons, List.count_nil] <;> omega))
        exact ⟨k2 - 1, by omega, k + 1, l2 ++ [rowF m ka kb], oa2, oc2, _, _, _, by omega, hnx.symm, by simp; omega, (by simpa using A), S, hN, (by simpa using hR2)⟩
    · obtain rfl : k = 2 := by omega
      replace hl2 : l2 = ll ++ (both l).map (fun k => rowF m k.1 k.2) := hl2
      refine wp_seq_k fun K10 hK10 => ?_
      refine wp_seq_k fun K11 hK11 => ?_
      refine region_seq ?_  -- region 7
      refine L_op A rfl (by decide) rfl (y_move (A.get (s := 6) rfl) fun ac A => ?_)
      refine L_op A rfl (by decide) rfl (y_lss (A.get (s := 21) rfl) rfl (c := false) (decide_eq_false (by decide)) fun ac A => ?_)
      replace A := A.keep [(0, .pointer (some ⟨p, 0, none⟩)), (3, .slice oa l2.length oc), (4, .slice la m.order.length lc), (5, .int .i64 (((i : Nat) : Int))), (6, .int .i64 (((2 : Nat) : Int))), (22, .bool false)] ⟨rfl, rfl, rfl, rfl, rfl, rfl, trivial⟩
      refine hK11 _ _ ?_
      refine wp_cond_false (A.get rfl) ?_
      refine wp_exit ?_
      refine hK8 _ _ ?_
      refine region_seq ?_  -- region 5
      refine L_op A rfl (by decide) rfl (y_move (A.get (s := 5) rfl) fun ac A => ?_)
      refine L_op A rfl (by decide) rfl (y_add (A.get (s := 19) rfl) rfl (c := ((i + 1 : Nat) : Int)) ((wrap64 (by omega)).trans (by omega)) fun ac A => ?_)
      refine L_op A rfl (by decide) rfl (y_assign (A.get (s := 20) rfl) fun ac A => ?_)
      replace A := A.keep [(0, .pointer (some ⟨p, 0, none⟩)), (3, .slice oa l2.length oc), (4, .slice la m.order.length lc), (5, .int .i64 (((i + 1 : Nat) : Int))), (6, .int .i64 (((2 : Nat) : Int))), (22, .bool false)] ⟨rfl, rfl, rfl, rfl, rfl, rfl, trivial⟩
      replace A := A.keep [(0, .pointer (some ⟨p, 0, none⟩)), (3, .slice oa l2.length oc), (4, .slice la m.order.length lc), (5, .int .i64 (((i + 1 : Nat) : Int)))] ⟨rfl, rfl, rfl, rfl, trivial⟩
      replace S : St _ _ _ (Hn ++ (Hl ++ (Ho ++ (rsH rs)))) := S.perm (by classical rw [List.perm_iff_count]; intro x; simp only [List.count_append] <;> omega)
      exact ⟨kk - 1, by omega, i + 1, l2, oa, oc, _, _, _, by omega, by rw [hnext]; exact hl2, by omega, A, S, hN, hR⟩
  · obtain rfl : i = m.order.length := by omega
    rw [List.take_length] at hll
    refine wp_seq_k fun K6 hK6 => ?_
    refine wp_seq_k fun K7 hK7 => ?_
    refine region_seq ?_  -- region 4
    refine L_op A rfl (by decide) rfl (y_move (A.get (s := 5) rfl) fun ac A => ?_)
    refine L_op A rfl (by decide) rfl (y_move (A.get (s := 4) rfl) fun ac A => ?_)
    refine L_op A rfl (by decide) rfl (y_lenS (e := 28) (by kernel_rfl) (A.get (s := 16) rfl) fun ac A => ?_)
    refine L_op A rfl (by decide) rfl (y_lss (A.get (s := 15) rfl) (A.get (s := 17) rfl) (c := false) (decide_eq_false (by omega)) fun ac A => ?_)
    replace A := A.keep [(0, .pointer (some ⟨p, 0, none⟩)), (3, .slice oa ll.length oc), (4, .slice la m.order.length lc), (5, .int .i64 (((m.order.length : Nat) : Int))), (18, .bool false)] ⟨rfl, rfl, rfl, rfl, rfl, trivial⟩
    refine hK7 _ _ ?_
    refine wp_cond_false (A.get rfl) ?_
    refine wp_exit ?_
    refine hK4 _ _ ?_
    refine wp_seq_k fun K8 hK8 => ?_
    refine region_seq ?_  -- region 17
    refine L_op A rfl (by decide) rfl (y_move (A.get (s := 3) rfl) fun ac A => ?_)
    refine L_op A rfl (by decide) rfl (y_assign (A.get (s := 63) rfl) fun ac A => ?_)
    replace A := A.keep [(0, .pointer (some ⟨p, 0, none⟩)), (2, .slice oa ll.length oc), (3, .slice oa ll.length oc), (4, .slice la m.order.length lc), (5, .int .i64 (((m.order.length : Nat) : Int))), (18, .bool false)] ⟨rfl, rfl, rfl, rfl, rfl, rfl, trivial⟩
    refine hK8 _ _ ?_
    have S' : St _ _ _ (Hn ++ (Ho ++ rsH rs)) := St.app_left (K := Hl) (S.perm (by classical rw [List.perm_iff_count]; intro x; simp only [List.count_append] <;> omega))
    have hE : shownF m = ll := hll.symm
    exact wp_ret ⟨A.defers, _, res_run (rs := [.tmp 2]) (vs := [.slice oa ll.length oc]) rfl ⟨A.get rfl, trivial⟩, ⟨_, _, rfl, ⟨Hn, Ho, rs, hN, by rw [hE]; exact hR, rfl⟩, S'⟩⟩
end Go.Proofs.Ytaeidblipdjgnaa
