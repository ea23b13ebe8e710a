/-
  graphTakes_holds, part 3 of 5: merged by program from the texts that it needs.
-/
import Derived.Test.YtikmdkicccfjpaaTkB
set_option linter.unusedSimpArgs false
set_option linter.unusedVariables false
set_option linter.unnecessarySimpa false
namespace Go.Proofs.Ytikmdkicccfjpaa
open Go.RowKit
variable {P : Program} {T : Tab} {D : List Nat} {w0 : World} {K0 : World → Prop} {E : List (Nat × AV)} {M : List Blk} {β : Beta} {F : Nat → Frag} {I : Frag} {ρ : Operand → Value} {w : World}
variable {d : Option Tmp} {ty : TypeId} {pos : String} {aft : Array Edge} {gd : Option (Nat × Bool)} {oc : Option Orc} {out : Out}
theorem fl_put {K : World → Prop} {u b c e k m m2 o : Nat} {cells l : List AV} {ys zs : List Value} (hb : β[u]? = some (some ⟨b, 0, none⟩, c)) (hl : ys.length = c * k) (hm : cells.length = m * k) (hr : ∀ (j : Nat) c y, cells[j]? = some c → ys[j]? = some y → ARel K β c y)
  (hzl : zs.length = l.length) (hz : ∀ (j : Nat) c y, l[j]? = some c → zs[j]? = some y → ARel K β c y) (ho : o ≤ cells.length) (hm2 : m2 ≤ c) (hlen : (cells.take o ++ (l ++ cells.drop (o + l.length))).length = m2 * k) :
  BRel K β u (.fl e k m2 (cells.take o ++ (l ++ cells.drop (o + l.length)))) [(b, .cells (setCs ys.toArray o zs) e (0, 0))] := by
 have hck : m2 * k ≤ c * k := Nat.mul_le_mul_right _ hm2
 have hlen' := hlen
 simp only [List.length_append, List.length_take, List.length_drop] at hlen'
 have hle : o + zs.length ≤ ys.toArray.size := by simp; omega
 have he : (setCs ys.toArray o zs) = (setCs ys.toArray o zs).toList.toArray := by simp
 rw [he]
 refine .fl hb _ (by rw [Array.length_toList, setCs_size]; simpa using hl) hlen hm2 ?_
 intro j c z e1 e2
 rw [Array.getElem?_toList, setCs_get _ _ _ _ hle] at e2
 by_cases hj : o ≤ j ∧ j < o + zs.length
 ·rw [if_pos hj] at e2
  rw [List.getElem?_append_right (by simp; omega), List.getElem?_append_left (by simp; omega)] at e1
  refine hz (j - o) c z ?_ e2
  rw [← e1]; congr 1; simp; omega
 ·rw [if_neg hj] at e2
  rw [List.getElem?_toArray] at e2
  refine hr j c z ?_ e2
  rcases Nat.lt_or_ge j o with hjo | hjo
  ·rw [List.getElem?_append_left (by simp; omega), List.getElem?_take, if_pos hjo] at e1; exact e1
  ·rw [List.getElem?_append_right (by simp; omega), List.getElem?_append_right (by simp; omega), List.getElem?_drop] at e1
   rw [← e1]; congr 1; simp; omega
theorem flat_at {α : Type} {k : Nat} : ∀ {rows : List (List α)}, (∀ r ∈ rows, r.length = k) → rows.flatten.length = rows.length * k ∧ ∀ (i j : Nat) r, rows[i]? = some r → j < k → rows.flatten[i * k + j]? = r[j]?
 | [], _ => ⟨by simp, by simp⟩
 | r :: rs, h => by
  have hr := h r (by simp)
  obtain ⟨h1, h2⟩ := flat_at (rows := rs) (fun x hx => h x (by simp [hx]))
  refine ⟨by simp [h1, hr, Nat.succ_mul, Nat.add_comm], fun i j q hq hj => ?_⟩
  cases i with
  | zero => simp at hq; subst hq; rw [Nat.zero_mul, Nat.zero_add, List.flatten_cons, List.getElem?_append_left (by omega)]
  | succ i =>
   simp at hq
   rw [List.flatten_cons, List.getElem?_append_right (by rw [Nat.succ_mul]; omega), ← h2 i j q hq hj]
   congr 1; rw [Nat.succ_mul]; omega
theorem all_one {K : World → Prop} {l : List AV} {X : List Value} (h : l.all AV.one = true) (hl : X.length = l.length) (hr : ∀ (j : Nat) c z, l[j]? = some c → X[j]? = some z → ARel K β c z) : ∀ q ∈ X, oneC q = true := by
 intro q hq
 obtain ⟨j, hj, rfl⟩ := List.getElem_of_mem hq
 have hj' : j < l.length := by omega
 exact AV.one_ok (hr j _ _ (List.getElem?_eq_getElem hj') (List.getElem?_eq_getElem hj)) (List.all_eq_true.1 h _ (List.getElem_mem hj'))
def sCopyF (T : Tab) (E : List (Nat × AV)) (M : List Blk) (oc : Option Orc) (st : TypeId) (x y : Operand) : Option Out :=
 match tEl T st, evA E x, evA E y, oc with
 | some (_, k, _, _), some (.sf u k' 0 n _), some (.d (.ro k3 rows)), some (.res (.ag ds)) => (match M[u]? with
  | some (.fl e2 k2 m cells) => bif k.beq k' && (k.beq k2 && (k.beq k3 && n.ble m)) then some ⟨[OneR rows, (rows.flatten.map AV.d).take (min rows.length n * k) ++ cells.drop ((rows.flatten.map AV.d).take (min rows.length n * k)).length = ds.map AV.d], .d (.v (.int .i64 ((min rows.length n : Nat) : Int))), M.set u (.fl e2 k2 m (ds.map .d)), [u], [], none⟩ else none
  | _ => none)
 | _, _, _, _ => none
theorem sCopyF_ok (hT : tabB P T = true) {st xt : TypeId} {x y : Operand} (h : sCopyF T E M oc st x y = some out) : Does P ⟨d, .call ⟨.builtin .copy, #[x, y], #[st, xt]⟩, ty, pos, aft, gd⟩ E M out := by
 unfold sCopyF at h
 split at h
 rotate_left
 ·simp at h
 rename_i e k b z u k' n q k3 rows ds he hx hy
 obtain ⟨zv, ok, -, -⟩ := tEl_ok hT he
 split at h
 rotate_left
 ·simp at h
 rename_i e2 k2 m cells hM
 cases hc : (k.beq k' && (k.beq k2 && (k.beq k3 && n.ble m))) with
 | false => simp [hc] at h
 | true =>
 simp only [hc, cond_true, Option.some.injEq] at h; subst h
 simp only [Bool.and_eq_true] at hc
 obtain ⟨c1, c2, c4, c3⟩ := hc
 obtain rfl := Nat.eq_of_beq_eq_true c1
 obtain rfl := Nat.eq_of_beq_eq_true c2
 obtain rfl := Nat.eq_of_beq_eq_true c4
 have hon := Nat.le_of_ble_eq_true c3
 intro D w0 K0 β F I ρ w C hv
 obtain ⟨hone, hds, -⟩ := hv
 obtain ⟨yx, hyx, rx⟩ := C.ev' hx
 obtain ⟨yy, hyy, ry⟩ := C.ev' hy
 obtain ⟨X, ra, hs⟩ := rows_ro C.now ry
 have hX : ∀ i, i < rows.length → (X i).length = k := fun i hi => (ra.hl i _ (List.getElem?_eq_getElem hi)).2
 have hall : ∀ r ∈ rows, r.length = k := fun r hr => by
  obtain ⟨i, hi, rfl⟩ := List.getElem_of_mem hr
  exact (ra.hl i _ (List.getElem?_eq_getElem hi)).1
 obtain ⟨f1, f2⟩ := flat_at hall
 have hll := lay_len hX
 have s2 : (lay rows.length X).length = (rows.flatten.map AV.d).length := by rw [hll, List.length_map, f1]
 have s3 : ∀ (j : Nat) c z, (rows.flatten.map AV.d)[j]? = some c → (lay rows.length X)[j]? = some z → ARel (fun w => K0 w ∧ Holds w I) β c z := fun j c z e1 e2 => by
  have hjl : j < rows.length * k := by rw [← hll]; exact (List.getElem?_eq_some_iff.1 e2).1
  have hk : 0 < k := by
   rcases Nat.eq_zero_or_pos k with h0 | h0
   ·subst h0; simp at hjl
   ·exact h0
  have hd : j / k < rows.length := Nat.div_lt_of_lt_mul (by rw [Nat.mul_comm]; exact hjl)
  have hm : j % k < k := Nat.mod_lt _ hk
  have e : j / k * k + j % k = j := by rw [Nat.mul_comm, Nat.div_add_mod]
  have hrow : rows[j / k]? = some rows[j / k] := List.getElem?_eq_getElem hd
  have g1 := lay_get hX hd hm
  have g2 := f2 _ _ _ hrow hm
  rw [e] at g1 g2
  rw [g1] at e2
  rw [List.getElem?_map, g2, Option.map_eq_some_iff] at e1
  obtain ⟨c', e1, rfl⟩ := e1
  exact .d (ra.hr _ _ _ c' z hrow e1 e2)
 have hone2 : (rows.flatten.map AV.d).all AV.one = true := by
  unfold OneR at hone
  rw [List.all_eq_true] at hone ⊢
  intro c hc
  obtain ⟨c', h1, rfl⟩ := List.mem_map.1 hc
  obtain ⟨r, h2, h3⟩ := List.mem_flatten.1 h1
  exact List.all_eq_true.1 (hone r h2) c' h3
 have hones := all_one hone2 s2 s3
 have hmin : min rows.length n ≤ rows.length := Nat.min_le_left _ _
 obtain ⟨hlen, hfirst⟩ := hs.pre (P := P) hmin
 have hsz : ∀ w : World, (sizeOf e).run P w = .ok k w := fun w => by obtain ⟨i, hi, h1, -⟩ := ok.info; simp [sizeOf, typeInfo, Sem.run_bind, hi, h1]
 cases rx with
 | @sf _ _ _ _ bb cc cap _ hb hcap hn hq =>
 obtain ⟨H, hF, hB, hH⟩ := C.rm.at hM
 cases hB with
 | fl hb' ys hl hm hmc hr =>
 rw [hb] at hb'; cases hb'
 have hw := hH.one
 have a1 : n * k ≤ m * k := Nat.mul_le_mul_right _ hon
 have a2 : m * k ≤ ys.length := by rw [hl]; exact Nat.mul_le_mul_right _ hmc
 have a4 : min rows.length n * k ≤ n * k := Nat.mul_le_mul_right _ (Nat.min_le_right _ _)
 have a5 : min rows.length n * k ≤ rows.length * k := Nat.mul_le_mul_right _ hmin
 have hput := run_storeCells (P := P) ((lay rows.length X).take (min rows.length n * k)) w ys.toArray (0 * k) 0 hw (by simp; omega) (fun q hq => hones q (List.mem_of_mem_take hq))
 simp only [Nat.add_zero] at hput
 refine OpY.pure (v := .int .i64 ((min rows.length n : Nat) : Int)) (w' := setB w bb (.cells (setCs ys.toArray (0 * k) ((lay rows.length X).take (min rows.length n * k))) e2 (0, 0))) ?_ ?_
 ·have hmin' : Nat.min rows.length n = min rows.length n := rfl
  simp only [execOp, resolve, List.map_toArray, List.map, hyx, hyy, Sem.run_bind, Sem.run_pure, Result.andThen_ok, invoke, builtin, Builtin.copy_, List.getElem?_toArray, List.getElem?_cons_zero, List.getElem?_cons_succ, run_underlying ok.hst, hlen, hmin', hsz, hfirst, hput]
  rfl
 ·have hb3 := fl_put (K := fun w => K0 w ∧ Holds w I) (e := e2) (m2 := m) (o := 0 * k) (l := (rows.flatten.map AV.d).take (min rows.length n * k)) (zs := (lay rows.length X).take (min rows.length n * k)) hb hl hm hr (by rw [List.length_take, List.length_take, s2]) (fun j c z e1 e2 => by
    rw [List.getElem?_take] at e1 e2
    split at e1
    ·rename_i hj; rw [if_pos hj] at e2; exact s3 j c z e1 e2
    ·simp at e1) (by omega) hmc (by
    simp only [List.length_append, List.length_take, List.length_drop]
    omega)
  rw [Nat.zero_mul, List.take_zero, List.nil_append, Nat.zero_add, hds] at hb3
  rw [Nat.zero_mul]
  exact ⟨β, _, I, C.rm.set hM hF hb3, (Ext.refl β).b _, Grows.refl _, fun v hv hn => by simp only [updF]; rw [if_neg (by simpa using hn)], .d (.v _)⟩
def sIdxC (T : Tab) (E : List (Nat × AV)) (M : List Blk) (oc : Option Orc) (t : TypeId) (x ix : Operand) : Option Out :=
 match tUn T t, evA E x, intA (evA E ix), oc with
 | some (.ar n e), some (.ag l), some (_, z), some (.ix i [c]) => (match tSize T e with
  | some k => some (lk [z = (i : Int), i < n, prt T e l (i * k) = some (.d c)] (.d c) M)
  | none => none)
 | _, _, _, _ => none
theorem sIdxC_ok (hT : tabB P T = true) {t : TypeId} {x ix : Operand} (h : sIdxC T E M oc t x ix = some out) : Does P ⟨d, .index t x ix, ty, pos, aft, gd⟩ E M out := by
 unfold sIdxC at h
 split at h
 ·rename_i n e l _ z i c hu hx hz
  split at h
  ·rename_i k hk
   simp only [Option.some.injEq] at h; subst h
   have hsz : ∀ w : World, (sizeOf e).run P w = .ok k w := fun w => by
    have := tSize_ok hT hk
    cases hi : P.info? e with
    | none => simp [hi] at this
    | some inf => simp only [hi, Option.map_some, Option.some.injEq] at this; simp [sizeOf, typeInfo, Sem.run_bind, hi, this]
   refine Does.same ?_
   intro D w0 K0 β F I ρ w C hv
   obtain ⟨rfl, hlt, hp, -⟩ := hv
   have r := C.ev hx
   have hi := C.int hz
   generalize hy : ρ x = y at r
   cases r with
   | ag ys hl hr =>
    obtain ⟨y, h1, h2⟩ := prt_ok hT hp hl hr
    refine ⟨y, fun w' _ => ?_, h1⟩
    have hu' := tUn_ok hT hu
    have hc : (0 : Int) ≤ (i : Int) ∧ (i : Int) < (n : Int) := by omega
    simp only [execOp, hy, hi, Instr.index, asIntOf, Sem.run_bind, Sem.run_pure, run_underlying hu', Result.andThen_ok]
    rw [if_pos hc]
    simp only [Sem.run_bind, hsz, Result.andThen_ok, Int.toNat_natCast, h2, Sem.run_pure]
  ·simp at h
 ·simp at h
def sLoadF (T : Tab) (E : List (Nat × AV)) (M : List Blk) (t : TypeId) (x : Operand) : Option Out :=
 match evA E x with
 | some (.pt u o) => (match M[u]? with
  | some (.fl _ _ _ cells) => (match ldA T t cells o with | some v => some ⟨[], v, M, [], [], some [u]⟩ | none => none)
  | _ => none)
 | _ => none
theorem sLoadF_ok (hT : tabB P T = true) {t : TypeId} {x : Operand} (h : sLoadF T E M t x = some out) : Does P ⟨d, .load t x, ty, pos, aft, gd⟩ E M out := by
 unfold sLoadF at h
 split at h
 ·rename_i u o hv
  split at h
  ·rename_i Tt k m cells hM
   split at h
   ·rename_i v hld
    simp only [Option.some.injEq] at h; subst h
    refine Does.look (fun C _ => ?_) (by simpa using lt_of_some hM)
    obtain ⟨y, hy, r⟩ := C.ev' hv
    cases r with
    | pt hb =>
     obtain ⟨H, hF, hB, hH⟩ := C.rm.at hM
     cases hB with
     | fl hb' ys hl hm hc hr =>
      rw [hb] at hb'; cases hb'
      have hlen : cells.length ≤ ys.length := by rw [hl, hm]; exact Nat.mul_le_mul_right _ hc
      obtain ⟨y', h1, h2⟩ := ldA_ok hT (a := ⟨_, 0, none⟩) (ys := ys.take cells.length) (fun l ys => ARel.ag ys) hld (hy.trans (by rw [add_eq, Nat.zero_add])) (by simp; omega) (fun j c z e1 e2 => hr j c z e1 (by
       rw [List.getElem?_take] at e2
       split at e2
       ·exact e2
       ·simp at e2))
      refine ⟨y', h1, fun w' hs => h2 w' fun j z hj => ?_⟩
      have hw : Holds w' _ := hs.2 u (by simp)
      rw [hF] at hw
      rw [List.getElem?_take] at hj
      split at hj
      ·rw [add_eq, cell_of hw.one, Nat.zero_add]; simpa using hj
      ·simp at hj
   ·simp at h
  ·simp at h
 ·simp at h
def fnHd : List Value → Bool
 | .nilFunc :: _ => true
 | _ => false
def uAllocA (T : Tab) (M : List Blk) (t : TypeId) : Option Out :=
 match tUn T t, tZero T t with
 | some (.ar n e), some l => (match tSize T e with
  | some k => bif l.length.beq (n * k) && !fnHd l then some ⟨[], .pt M.length 0, M ++ [.fl t k n (plainA l)], [], [], none⟩ else none
  | none => none)
 | _, _ => none
theorem uAllocA_ok (hT : tabB P T = true) {t : TypeId} (h : uAllocA T M t = some out) : Does P ⟨d, .alloc t, ty, pos, aft, gd⟩ E M out := by
 unfold uAllocA at h
 split at h
 rotate_left
 ·simp at h
 rename_i n e l ht hz
 split at h
 rotate_left
 ·simp at h
 rename_i k hk
 cases hc : (l.length.beq (n * k) && !fnHd l) with
 | false => simp [hc] at h
 | true =>
  simp only [hc, cond_true, Option.some.injEq] at h; subst h
  have hll := Nat.eq_of_beq_eq_true (Bool.and_eq_true_iff.1 hc).1
  obtain ⟨z, hzc, hzr⟩ := tZero_ok hT hz
  intro D w0 K0 β F I ρ w C _
  refine y_allocN (hzr w) fun b w' g n' => ?_
  rw [hzc] at n'
  obtain ⟨h1, h2⟩ := plainA_ok (K := fun w => K0 w ∧ Holds w I) (β := β ++ [(some ⟨b, 0, none⟩, n)]) l
  exact ⟨_, _, I, C.rm.new (q := (some ⟨b, 0, none⟩, n)) g n' (.fl (new_at C.rm _) l hll (by rw [← h1, hll]) (Nat.le_refl _) h2), (Ext.app _ _).b _, Grows.refl _, updF_ne _ _, .pt (new_at C.rm _)⟩
def uSlA (T : Tab) (E : List (Nat × AV)) (M : List Blk) (t : TypeId) (x : Operand) (lo hi mx : Option Operand) : Option Out :=
 match tUn T t, evA E x, lo, hi, mx with
 | some (.ar n e), some (.pt u 0), none, none, none => (match tSize T e, M[u]? with
  | some k, some (.fl _ k2 m _) => bif k.beq k2 && (n.ble m && Nat.blt 0 n) then some (lk [] (.sf u k 0 n (some n)) M) else none
  | _, _ => none)
 | _, _, _, _, _ => none
theorem uSlA_ok (hT : tabB P T = true) {t : TypeId} {x : Operand} {lo hi mx : Option Operand} (h : uSlA T E M t x lo hi mx = some out) : Does P ⟨d, .slice t x lo hi mx, ty, pos, aft, gd⟩ E M out := by
 unfold uSlA at h
 split at h
 rotate_left
 ·simp at h
 rename_i n e u ht hx
 split at h
 rotate_left
 ·simp at h
 rename_i k T2 k2 m cells hk hM
 cases hc : (k.beq k2 && (n.ble m && Nat.blt 0 n)) with
 | false => simp [hc] at h
 | true =>
  simp only [hc, cond_true, Option.some.injEq] at h; subst h
  simp only [Bool.and_eq_true] at hc
  obtain ⟨c1, c2, c3⟩ := hc
  obtain rfl := Nat.eq_of_beq_eq_true c1
  have hnm := Nat.le_of_ble_eq_true c2
  have hpos : 0 < n := by simpa [Nat.blt_eq] using c3
  have ht' := tUn_ok hT ht
  refine Does.same fun {D w0 K0 β F I ρ w} C _ => ?_
  obtain ⟨y, hy, r⟩ := C.ev' hx
  cases r with
  | @pt _ _ b c hb =>
   obtain ⟨H, hF, hB, hH⟩ := C.rm.at hM
   cases hB with
   | fl hb' ys hl hm hmc hr =>
    rw [hb] at hb'; cases hb'
    have hs := ARel.sf (K := fun w => K0 w ∧ Holds w I) (u := u) (k := k) (o := 0) (n := n) (cap := n) (q := some n) hb (by omega) (Nat.le_refl _) rfl
    rw [Nat.zero_mul] at hs
    refine ⟨_, fun w' _ => ?_, hs⟩
    have hsz : (sizeOf e).run P w' = .ok k w' := by
     have := tSize_ok hT hk
     cases hin : P.info? e with
     | none => simp [hin] at this
     | some inf => simp only [hin, Option.map_some, Option.some.injEq] at this; simp [sizeOf, typeInfo, Sem.run_bind, hin, this]
    have hn0 : ¬ n = 0 := by omega
    simp [execOp, hy, Instr.sliceAt, Instr.sureAddr, Instr.sliceBounds, Sem.run_bind, run_underlying ht', hsz, hn0, add_eq]
end Go.Proofs.Ytikmdkicccfjpaa
namespace Go.Proofs.Ytikmdkicccfjpaa
open Go.RowKit
variable {P : Program} {T : Tab} {E : List (Nat × AV)} {M : List Blk}
variable {d : Option Tmp} {ty : TypeId} {pos : String} {aft : Array Edge} {gd : Option (Nat × Bool)} {oc : Option Orc} {out : Out}
inductive Clo where
 | fn (f : FuncId)
 | yl (u : Nat)
abbrev Walker := Clo → List AV → List Blk → Orc → Option Out
def CallsA (P : Program) (f : FuncId) (args : List AV) (M : List Blk) (out : Out) : Prop :=
 callable P f = true ∧ ∀ {D : List Nat} {w0 : World} {K0 : World → Prop} {β : Beta} {F : Nat → Frag} {I : Frag} {w : World} (ys : List Value), RM D w0 K0 M β F I w → (∀ w, Kp D w0 w → K0 w) → AllP out.vc → ys.length = args.length → (∀ (j : Nat) c y, args[j]? = some c → ys[j]? = some y → ARel (fun w => K0 w ∧ Holds w I) β c y) →
  Calls P f ys.toArray w fun e w' => ∃ v, e = .returned v ∧ ∃ β' F' I', RM D w0 K0 out.M β' F' I' w' ∧ ExtB out.mv β β' ∧ Grows I I' ∧ (∀ u, u < M.length → u ∉ out.tc → F' u = F u) ∧ ARel (fun w => K0 w ∧ Holds w I') β' out.av v
def YieldsA (P : Program) (u : Nat) (args : List AV) (M : List Blk) (out : Out) : Prop :=
 ∀ {D : List Nat} {w0 : World} {K0 : World → Prop} {β : Beta} {F : Nat → Frag} {I : Frag} {w : World} (ys : List Value) (l c : Nat), RM D w0 K0 M β F I w → (∀ w, Kp D w0 w → K0 w) → AllP out.vc → ys.length = args.length → (∀ (j : Nat) c y, args[j]? = some c → ys[j]? = some y → ARel (fun w => K0 w ∧ Holds w I) β c y) → β[u]? = some (some ⟨l, 0, none⟩, c) →
  ∃ fn tmps asg body, (Instr.yield l ys.toArray).run P w = .ok (.round l fn tmps asg body) w ∧ RoundIn Fence.wide 0 P l fn tmps asg body w fun e w' => ∃ v, e = .returned v ∧ ∃ β' F' I', RM D w0 K0 out.M β' F' I' w' ∧ ExtB out.mv β β' ∧ Grows I I' ∧ (∀ u, u < M.length → u ∉ out.tc → F' u = F u) ∧ ARel (fun w => K0 w ∧ Holds w I') β' out.av v
def ClOk (P : Program) (cl : Walker) : Prop := ∀ c args M o out, cl c args M o = some out → out.rd = none ∧ match c with | .fn f => CallsA P f args M out | .yl u => YieldsA P u args M out
def sInto (cl : Walker) (E : List (Nat × AV)) (M : List Blk) (o : Orc) (g : Operand) (args : Array Operand) : Option Out :=
 match evA E g, evsA E args.toList with
 | some (.fn f caps), some l => cl (.fn f) (l ++ caps) M o
 | some (.yl u), some l => cl (.yl u) l M o
 | _, _ => none
theorem sInto_ok {cl : Walker} (hcl : ClOk P cl) {o : Orc} {g : Operand} {args : Array Operand} {tys : Array TypeId} (h : sInto cl E M o g args = some out) : Does P ⟨d, .call ⟨.value g, args, tys⟩, ty, pos, aft, gd⟩ E M out := by
 unfold sInto at h
 split at h
 ·rename_i f caps l hg hl
  obtain ⟨hrd, hcall, hc⟩ := hcl _ _ _ _ _ h
  unfold Does
  rw [hrd]
  intro D w0 K0 β F I ρ w C hv
  obtain ⟨y, hy, r⟩ := C.ev' hg
  cases r with
  | fn cs hcl' hcr =>
   obtain ⟨hal, har⟩ := C.evs hl
   have hm : args.map ρ = (args.toList.map ρ).toArray := by rw [← Array.toList_map]
   refine y_closure hy hcall hm ?_
   have hcat : ((args.toList.map ρ).toArray ++ cs.toArray : Array Value) = (args.toList.map ρ ++ cs).toArray := by simp
   rw [hcat]
   refine hc _ C.rm C.k hv (by rw [List.length_append, List.length_append, hal, hcl']) ?_
   intro j c y h1 h2
   rcases Nat.lt_or_ge j l.length with hj | hj
   ·rw [List.getElem?_append_left hj] at h1
    rw [List.getElem?_append_left (by omega)] at h2
    exact har j c y h1 h2
   ·rw [List.getElem?_append_right hj] at h1
    rw [List.getElem?_append_right (by omega), hal] at h2
    exact hcr _ c y h1 h2
 ·rename_i u l hg hl
  obtain ⟨hrd, hc⟩ := hcl _ _ _ _ _ h
  unfold Does
  rw [hrd]
  intro D w0 K0 β F I ρ w C hv
  obtain ⟨y, hy, r⟩ := C.ev' hg
  cases r with
  | @yl _ bb cc hb =>
   obtain ⟨hal, har⟩ := C.evs hl
   obtain ⟨fn, tmps, asg, body, h1, h2⟩ := hc _ _ _ C.rm C.k hv hal har hb
   have hm : args.map ρ = (args.toList.map ρ).toArray := by rw [← Array.toList_map]
   unfold OpY
   have hr : (execOp ρ ⟨d, .call ⟨.value g, args, tys⟩, ty, pos, aft, gd⟩).run P w = .ok (.round bb fn tmps asg body) w := by
    simp [execOp, resolve, hy, hm, Deferred.ofValue, invoke, h1]
   rw [hr]
   exact h2
 ·simp at h
def sBin (P : Program) (T : Tab) (E : List (Nat × AV)) (M : List Blk) (oc : Option Orc) (op : BinOp) (t : TypeId) (x y : Operand) : Option Out :=
 match sBinI E M oc op x y with
 | some o => some o
 | none => (match sBinS E M oc op x y with
  | some o => some o
  | none => (match sEqA P E M oc op t x y with
   | some o => some o
   | none => (match sBinB P E M oc op t x y with
    | some o => some o
    | none => sNilS T E M oc op t x y)))
theorem sBin_ok (hT : tabB P T = true) {op : BinOp} {t t' : TypeId} {x y : Operand} (h : sBin P T E M oc op t x y = some out) : Does P ⟨d, .binOp op t x y t', ty, pos, aft, gd⟩ E M out := by
 unfold sBin at h
 split at h
 ·rename_i hh; simp only [Option.some.injEq] at h; subst h; exact sBinI_ok hh
 ·split at h
  ·rename_i hh; simp only [Option.some.injEq] at h; subst h; exact sBinS_ok hh
  ·split at h
   ·rename_i hh; simp only [Option.some.injEq] at h; subst h; exact sEqA_ok hh
   ·split at h
    ·rename_i hh; simp only [Option.some.injEq] at h; subst h; exact sBinB_ok hh
    ·exact sNilS_ok hT h
def sConv (T : Tab) (E : List (Nat × AV)) (M : List Blk) (oc : Option Orc) (t t' : TypeId) (x : Operand) : Option Out :=
 match sConvI T E M oc t t' x with
 | some o => some o
 | none => (match sStr T E M oc t t' x with
  | some o => some o
  | none => sConst T E M t t' x)
theorem sConv_ok (hT : tabB P T = true) {t t' : TypeId} {x : Operand} (h : sConv T E M oc t t' x = some out) : Does P ⟨d, .convert t t' x, ty, pos, aft, gd⟩ E M out := by
 unfold sConv at h
 split at h
 ·rename_i hh; simp only [Option.some.injEq] at h; subst h; exact sConvI_ok hT hh
 ·split at h
  ·rename_i hh; simp only [Option.some.injEq] at h; subst h; exact sStr_ok hT hh
  ·exact sConst_ok hT h
def step (P : Program) (T : Tab) (cl : Walker) (E : List (Nat × AV)) (M : List Blk) (oc : Option Orc) : Op → Option Out
 | .move x => sMove E M x
 | .assign x => sMove E M x
 | .nilCheck x => sNil E M x
 | .extract x i => sExtract E M x i
 | .fieldAddr s x f => sField T E M s x f
 | .indexAddr t x i => (match sIndex T E M oc t x i with | some o => some o | none => (match sIndexS T E M oc t x i with | some o => some o | none => (match sIndexK T E M oc t x i with | some o => some o | none => (match sIndexT T E M oc t x i with | some o => some o | none => (match sIndexA T E M oc t x i with | some o => some o | none => (match sIndexG T E M oc t x i with | some o => some o | none => sTabG T E M oc t x i))))))
 | .load t x => (match sLoad T E M oc t x with | some o => some o | none => (match sLoadA T E M oc t x with | some o => some o | none => (match sTake T E M oc t x with | some o => some o | none => sLoadF T E M t x)))
 | .store t x y => (match sStoreP T E M t x y with | some o => some o | none => (match sStoreE T E M oc t x y with | some o => some o | none => sStoreT T E M oc t x y))
 | .box t x => sBox E M t x
 | .alloc t => (match oc with | some (.b _) => uAllocA T M t | _ => sAlloc T M t)
 | .pick c x y => (match oc with | some (.res (.v r)) => sPickM E M r c x y | _ => sPick E M oc c x y)
 | .unOp .not _ x => sNot E M oc x
 | .unOp .xor _ x => sCom E M oc x
 | .binOp op t x y _ => (match sBin P T E M oc op t x y with | some o => some o | none => (match sNilP P E M op t x y with | some o => some o | none => (match sCat E M op x y with | some o => some o | none => sEqP P E M op t x y)))
 | .convert t t' x => (match sConv T E M oc t t' x with | some o => some o | none => (match sStrB T E M t t' x with | some o => some o | none => sConvP P E M oc t t' x))
 | .build t parts => (match sBuild T E M t parts with | some o => some o | none => sBuildA T E M t parts)
 | .field t x f => sFld T E M t x f
 | .index t x i => (match sIdx T E M oc t x i with | some o => some o | none => (match sIdxR T E M oc t x i with | some o => some o | none => (match sIdxS T E M oc t x i with | some o => some o | none => (match sIdxT T E M oc t x i with | some o => some o | none => sIdxC T E M oc t x i))))
 | .slice t x lo hi mx => (match sSl T E M oc t x lo hi mx with | some o => some o | none => (match sSlB T E M oc t x lo hi mx with | some o => some o | none => (match sSlR T E M oc t x lo hi mx with | some o => some o | none => (match sSlT T E M oc t x lo hi mx with | some o => some o | none => uSlA T E M t x lo hi mx))))
 | .buildSlice t len parts => sBSl T E M t len parts
 | .makeSlice t x y => (match sMake T E M oc t x y with | some o => some o | none => sMakeC T E M oc t x y)
 | .makeFunc fn first caps => sFunc E M fn first caps
 | .call ⟨.builtin bi, ⟨[x]⟩, ⟨[t]⟩⟩ => (match bi with | .len => sLen T E M oc t x | .clear => sClear T E M t x | .unsafeSliceData => sUData E M x | .cap => sCapN T E M t x | _ => none)
 | .call ⟨.builtin bi, ⟨[x, y]⟩, ⟨[st, xt]⟩⟩ => (match bi with | .append => (match sApp T E M st xt x y with | some o => some o | none => (match sAppS T E M st xt x y with | some o => some o | none => sAppT T E M st xt x y)) | .copy => (match sCopy T E M oc st x y with | some o => some o | none => sCopyF T E M oc st x y) | .delete => sDelete P T E M oc st x y | .unsafeString => sUStr P E M oc st x y | _ => sMM E M oc bi x y)
 | .call ⟨.value g, args, _⟩ => (match oc with | some (.into n tb) => sInto cl E M (.into n tb) g args | some (.con x) => sCon P E M (some (.con x)) g args | some (.mem l x M') => sConM P E M (some (.mem l x M')) g args | some (.stay l x) => sCallS P E M (some (.stay l x)) g args | some (.b _) => sNoEsc P E M g args | some (.n2 m e) => sMkNZ P E M (some (.n2 m e)) g args | _ => sCall P E M oc g args)
 | .makeMap t r => sMakeMap T M t r
 | .mapUpdate t m k x => sMapUp P T E M oc t m k x
 | .insert t m k x => sMapUp P T E M oc t m k x
 | .lookup t m k ok => sLook P T E M oc t m k ok
 | .range t x => sRange T E M t x
 | .entry x => sEntry E M oc x
 | _ => none
theorem step_ok (hT : tabB P T = true) {cl : Walker} (hcl : ClOk P cl) {op : Op} (h : step P T cl E M oc op = some out) : Does P ⟨d, op, ty, pos, aft, gd⟩ E M out := by
 unfold step at h
 split at h
 ·exact (sMove_ok h).1
 ·exact (sMove_ok h).2
 ·exact sNil_ok h
 ·exact sExtract_ok h
 ·exact sField_ok hT h
 ·split at h
  ·rename_i hh; simp only [Option.some.injEq] at h; subst h; exact sIndex_ok hT hh
  ·split at h
   ·rename_i hh; simp only [Option.some.injEq] at h; subst h; exact sIndexS_ok hT hh
   ·split at h
    ·rename_i hh; simp only [Option.some.injEq] at h; subst h; exact sIndexK_ok hT hh
    ·split at h
     ·rename_i hh; simp only [Option.some.injEq] at h; subst h; exact sIndexT_ok hT hh
     ·split at h
      ·rename_i hh; simp only [Option.some.injEq] at h; subst h; exact sIndexA_ok hT hh
      ·split at h
       ·rename_i hh; simp only [Option.some.injEq] at h; subst h; exact sIndexG_ok hT hh
       ·exact sTabG_ok hT h
 ·split at h
  ·rename_i hh; simp only [Option.some.injEq] at h; subst h; exact sLoad_ok hT hh
  ·split at h
   ·rename_i hh; simp only [Option.some.injEq] at h; subst h; exact sLoadA_ok hT hh
   ·split at h
    ·rename_i hh; simp only [Option.some.injEq] at h; subst h; exact sTake_ok hT hh
    ·exact sLoadF_ok hT h
 ·split at h
  ·rename_i hh; simp only [Option.some.injEq] at h; subst h; exact sStoreP_ok hT hh
  ·split at h
   ·rename_i hh; simp only [Option.some.injEq] at h; subst h; exact sStoreE_ok hT hh
   ·exact sStoreT_ok hT h
 ·exact sBox_ok h
 ·split at h
  ·exact uAllocA_ok hT h
  ·exact sAlloc_ok hT h
 ·split at h
  ·exact sPickM_ok h
  ·exact sPick_ok h
 ·exact sNot_ok h
 ·exact sCom_ok h
 ·split at h
  ·rename_i hh; simp only [Option.some.injEq] at h; subst h; exact sBin_ok hT hh
  ·split at h
   ·rename_i hh; simp only [Option.some.injEq] at h; subst h; exact sNilP_ok hh
   ·split at h
    ·rename_i hh; simp only [Option.some.injEq] at h; subst h; exact sCat_ok hh
    ·exact sEqP_ok h
 ·split at h
  ·rename_i hh; simp only [Option.some.injEq] at h; subst h; exact sConv_ok hT hh
  ·split at h
   ·rename_i hh; simp only [Option.some.injEq] at h; subst h; exact sStrB_ok hT hh
   ·exact sConvP_ok h
 ·split at h
  ·rename_i hh; simp only [Option.some.injEq] at h; subst h; exact sBuild_ok hT hh
  ·exact sBuildA_ok hT h
 ·exact sFld_ok hT h
 ·split at h
  ·rename_i hh; simp only [Option.some.injEq] at h; subst h; exact sIdx_ok hT hh
  ·split at h
   ·rename_i hh; simp only [Option.some.injEq] at h; subst h; exact sIdxR_ok hT hh
   ·split at h
    ·rename_i hh; simp only [Option.some.injEq] at h; subst h; exact sIdxS_ok hT hh
    ·split at h
     ·rename_i hh; simp only [Option.some.injEq] at h; subst h; exact sIdxT_ok hT hh
     ·exact sIdxC_ok hT h
 ·split at h
  ·rename_i hh; simp only [Option.some.injEq] at h; subst h; exact sSl_ok hT hh
  ·split at h
   ·rename_i hh; simp only [Option.some.injEq] at h; subst h; exact sSlB_ok hT hh
   ·split at h
    ·rename_i hh; simp only [Option.some.injEq] at h; subst h; exact sSlR_ok hT hh
    ·split at h
     ·rename_i hh; simp only [Option.some.injEq] at h; subst h; exact sSlT_ok hT hh
     ·exact uSlA_ok hT h
 ·exact sBSl_ok hT h
 ·split at h
  ·rename_i hh; simp only [Option.some.injEq] at h; subst h; exact sMake_ok hT hh
  ·exact sMakeC_ok hT h
 ·exact sFunc_ok h
 ·split at h
  ·exact sLen_ok hT h
  ·exact sClear_ok hT h
  ·exact sUData_ok h
  ·exact sCapN_ok hT h
  ·simp at h
 ·split at h
  ·split at h
   ·rename_i hh; simp only [Option.some.injEq] at h; subst h; exact sApp_ok hT hh
   ·split at h
    ·rename_i hh; simp only [Option.some.injEq] at h; subst h; exact sAppS_ok hT hh
    ·exact sAppT_ok hT h
  ·split at h
   ·rename_i hh; simp only [Option.some.injEq] at h; subst h; exact sCopy_ok hT hh
   ·exact sCopyF_ok hT h
  ·exact sDelete_ok hT h
  ·exact sUStr_ok h
  ·exact sMM_ok h
 ·split at h
  ·exact sInto_ok hcl h
  ·exact sCon_ok h
  ·exact sConM_ok h
  ·exact sCallS_ok h
  ·exact sNoEsc_ok h
  ·exact sMkNZ_ok h
  ·exact sCall_ok h
 ·exact sMakeMap_ok h
 ·exact (sMapUp_ok hT h).1
 ·exact (sMapUp_ok hT h).2
 ·exact sLook_ok hT h
 ·exact sRange_ok hT h
 ·exact sEntry_ok h
 ·simp at h
end Go.Proofs.Ytikmdkicccfjpaa
namespace Go.Proofs.Ytikmdkicccfjpaa
open Go.RowKit
def getO : List (Nat × Orc) → Nat → Option Orc
 | [], _ => none
 | (k, v) :: r, s => bif k.beq s then some v else getO r s
def putA (E : List (Nat × AV)) (dst : Option Nat) (v : AV) : List (Nat × AV) := match dst with | some d => (d, v) :: E | none => E
def killA (mv : List Nat) : List (Nat × AV) → List (Nat × AV)
 | [] => []
 | (k, v) :: r => (k, bif clear2 mv v then v else .d .jk) :: killA mv r
def keepA (mv : List Nat) (E : List (Nat × AV)) : List (Nat × AV) := match mv with | [] => E | _ => killA mv E
theorem killA_look {mv : List Nat} : ∀ {E : List (Nat × AV)} {t : Nat} {v : AV}, lookA (killA mv E) t = some v → ∃ u, lookA E t = some u ∧ v = bif clear2 mv u then u else .d .jk
 | [], t, v, h => by simp [killA, lookA] at h
 | (k, u) :: r, t, v, h => by
  unfold killA lookA at h
  unfold lookA
  cases hk : k.beq t with
  | true => simp only [hk, cond_true, Option.some.injEq] at h ⊢; exact ⟨u, rfl, h.symm⟩
  | false => simp only [hk, cond_false] at h ⊢; exact killA_look h
theorem killA_ok {K : World → Prop} {β β' : Beta} {mv : List Nat} (e : ExtB mv β β') {ρ : Operand → Value} {E : List (Nat × AV)} (h : ∀ t v, lookA E t = some v → ARel K β v (ρ (.tmp t))) : ∀ t v, lookA (killA mv E) t = some v → ARel K β' v (ρ (.tmp t)) := by
 intro t v hv
 obtain ⟨u, h1, h2⟩ := killA_look hv
 cases hc : clear2 mv u with
 | true => simp only [hc, cond_true] at h2; subst h2; exact clear2_ok e hc (h t _ h1)
 | false => simp only [hc, cond_false] at h2; subst h2; exact .d (.jk _)
theorem keepA_ok {K : World → Prop} {β β' : Beta} {mv : List Nat} (e : ExtB mv β β') {E : List (Nat × AV)} {ρ : Operand → Value} (h : ∀ t v, lookA E t = some v → ARel K β v (ρ (.tmp t))) : ∀ t v, lookA (keepA mv E) t = some v → ARel K β' v (ρ (.tmp t)) := by
 intro t v hx
 unfold keepA at hx
 split at hx
 ·exact (h t v hx).mono (fun _ h => h) fun u z hz => e u z (by simp) hz
 ·exact killA_ok e h t v hx
def guardV : Option AV → Option (Option Bool)
 | some (.d (.v (.bool c))) => some (some c)
 | some (.d (.v (.tuple _))) => some none
 | _ => none
def wantA (sz : Nat) (ops : Array Oper) (E : List (Nat × AV)) : Option (Nat × Bool) → Option Bool
 | none => some true
 | some (j, want) => (match dstOf ops j with
  | some s => (bif s.blt sz then (match guardV (lookA E s) with
   | some (some true) => some want
   | some (some false) => some (!want)
   | some none => some false
   | none => none) else none)
  | none => none)
def dstB (sz : Nat) : Option Nat → Bool
 | some d => d.blt sz
 | none => true
structure RS where
 vc : List Prop
 E : List (Nat × AV)
 M : List Blk
 tc : List Nat
 mv : List Nat
def mayA (P : Program) (T : Tab) (cl : Walker) (E : List (Nat × AV)) (M : List Blk) (op : Op) (oc : Orc) : Option (List Prop × List Nat × Value) :=
 match oc, op with
 | .con (.v x), .call ⟨.value g, args, _⟩ => (match sCon P E M (some (.con (.v x))) g args with | some out => some (out.vc, out.tc, x) | none => none)
 | oc, op => (match step P T cl E M (some oc) op with | some ⟨vc, .d (.v x), _, tc, _, some _⟩ => some (vc, tc, x) | _ => none)
def guardS (sz : Nat) (ops : Array Oper) (E : List (Nat × AV)) : Option (Nat × Bool) → Option (Value × Bool)
 | some (j, want) => (match dstOf ops j with
  | some s => bif s.blt sz then (match lookA E s with | some (.d (.v y)) => some (y, want) | _ => none) else none
  | none => none)
 | none => none
def boolOf (y : Value) : Option Bool := match y with | .bool b => some b | _ => none
def runOps (P : Program) (T : Tab) (cl : Walker) (sz : Nat) (ops : Array Oper) : List Oper → Nat → List (Nat × Orc) → RS → Option RS
 | [], _, _, s => some s
 | o :: r, i, oc, ⟨vc, E, M, tc, mv⟩ =>
  bif dstB sz o.dst then (match getO oc i with
  | some (.may c oo) => (match mayA P T cl E M o.op oo, guardS sz ops E o.guard with
   | some (vc', tc', x), some (y, want) => runOps P T cl sz ops r (i + 1) oc ⟨vc ++ [(boolOf y == some want) = c, c = true → AllP vc'], putA E o.dst (.d (.v (bif c then x else undef))), M, tc' ++ tc, mv⟩
   | _, _ => none)
  | _ => (match wantA sz ops E o.guard with
   | some true => (match step P T cl E M (getO oc i) o.op with
    | some out => (bif Nat.ble M.length out.M.length then runOps P T cl sz ops r (i + 1) oc ⟨vc ++ out.vc, putA (keepA out.mv E) o.dst out.av, out.M, out.tc ++ tc, out.mv ++ mv⟩ else none)
    | none => none)
   | some false => runOps P T cl sz ops r (i + 1) oc ⟨vc, putA E o.dst (.d (.v undef)), M, tc, mv⟩
   | none => none))
  else none
structure Base where
 β : Beta
 F : Nat → Frag
 I : Frag
 m : Nat
def Since (b : Base) (mv tc : List Nat) (β : Beta) (F : Nat → Frag) (I : Frag) : Prop := ExtB mv b.β β ∧ Grows b.I I ∧ ∀ u, u < b.m → u ∉ tc → F u = b.F u
theorem Since.step {b : Base} {mv tc mv' tc' : List Nat} {β β' : Beta} {F F' : Nat → Frag} {I I' : Frag} {n : Nat} (h : Since b mv tc β F I) (hn : b.m ≤ n) (e : ExtB mv' β β') (hI : Grows I I') (hF : ∀ u, u < n → u ∉ tc' → F' u = F u) : Since b (mv' ++ mv) (tc' ++ tc) β' F' I' :=
 ⟨fun u x hu hx => e u x (fun h' => hu (List.mem_append_left _ h')) (h.1 u x (fun h' => hu (List.mem_append_right _ h')) hx), h.2.1.trans hI, fun u hu ht => (hF u (by omega) fun h' => ht (List.mem_append_left _ h')).trans (h.2.2 u hu fun h' => ht (List.mem_append_right _ h'))⟩
variable {mk : Bool} {ro : Option Nat} {P : Program} {T : Tab} {cl : Walker} {D : List Nat} {w0 : World} {K0 : World → Prop} {E : List (Nat × AV)} {M : List Blk} {β : Beta} {F : Nat → Frag} {I : Frag} {ρ : Operand → Value} {w : World} {a : Act} {sz : Nat} {ops : Array Oper} {Q : Exit → Act → World → Prop}
def Mk (mk : Bool) (ds : List Deferred) (I : Frag) : Prop := match mk with
 | false => ds = []
 | true => ds.Nodup ∧ ∀ d ∈ ds, ∃ b, d = { target := .collected b, args := #[] } ∧ (b, Obj.deferred (some [])) ∈ I
theorem Mk.grow {ds : List Deferred} {I I' : Frag} (h : Mk mk ds I) (g : Grows I I') : Mk mk ds I' := by
 cases mk with
 | false => exact h
 | true => obtain ⟨J, rfl⟩ := g; exact ⟨h.1, fun d hd => let ⟨b, h1, h2⟩ := h.2 d hd; ⟨b, h1, List.mem_append_right _ h2⟩⟩
theorem Mk.nil (I : Frag) : Mk mk [] I := by cases mk with | false => rfl | true => exact ⟨List.nodup_nil, fun d hd => by cases hd⟩
theorem RE.put (size : a.tmps.size = sz) {β' : Beta} {I' : Frag} (defers : Mk mk a.defers I') (hs : ∀ t v, lookA E t = some v → ARel (fun w => K0 w ∧ Holds w I') β' v (a.eval (.tmp t))) {dst : Option Nat} (hd : dstB sz dst = true) {v : Value} {av : AV} (hv : ARel (fun w => K0 w ∧ Holds w I') β' av v) :
  (a.put dst v).tmps.size = sz ∧ Mk mk (a.put dst v).defers I' ∧ ∀ t u, lookA (putA E dst av) t = some u → ARel (fun w => K0 w ∧ Holds w I') β' u ((a.put dst v).eval (.tmp t)) := by
 refine ⟨by rw [put_size, size], by rw [put_defers]; exact defers, ?_⟩
 cases dst with
 | none => exact hs
 | some d =>
  have hlt : d < sz := by simpa [dstB, Nat.blt_eq] using hd
  intro t u hx
  unfold putA lookA at hx
  cases hk : d.beq t with
  | true =>
   simp only [hk, cond_true, Option.some.injEq] at hx
   subst hx
   rw [← Nat.eq_of_beq_eq_true hk, eval_put_same a d v (by omega)]; exact hv
  | false =>
   simp only [hk, cond_false] at hx
   rw [eval_put_other a d t v (fun e => by subst e; simp at hk)]; exact hs t u hx
theorem guardV_ok {K : World → Prop} {β : Beta} {av : Option AV} {y : Value} {g : Option Bool} (h : guardV av = some g) {v : AV} (hv : av = some v) (r : ARel K β v y) : boolOf y = g := by
 subst hv
 unfold guardV at h
 split at h
 ·rename_i hx; cases hx; simp only [Option.some.injEq] at h; subst h
  cases r with | d r => cases r; rfl
 ·rename_i hx; cases hx; simp only [Option.some.injEq] at h; subst h
  cases r with | d r => cases r; rfl
 ·simp at h
theorem wantA_ok {o : Oper} {b : Bool} (size : a.tmps.size = sz) {K : World → Prop} (hs : ∀ t v, lookA E t = some v → ARel K β v (a.eval (.tmp t))) (h : wantA sz ops E o.guard = some b) : Region.wanted o (yielded ops a.tmps) = b := by
 unfold Region.wanted
 cases hg : o.guard with
 | none => rw [hg] at h; simp only [wantA, Option.some.injEq] at h; exact h
 | some g =>
  obtain ⟨j, want⟩ := g
  rw [hg] at h
  unfold wantA at h
  cases hj : dstOf ops j with
  | none => simp [hj] at h
  | some s =>
   simp only [hj] at h
   cases hsz : s.blt sz with
   | false => simp [hsz] at h
   | true =>
    simp only [hsz, cond_true] at h
    have hlt : s < a.tmps.size := by rw [size]; simpa [Nat.blt_eq] using hsz
    have hy : ∀ g, guardV (lookA E s) = some g → yielded ops a.tmps j = g := by
     intro g hgv
     rw [yielded_eq hj hlt]
     show boolOf _ = g
     cases hl : lookA E s with
     | none => rw [hl] at hgv; simp [guardV] at hgv
     | some v => exact guardV_ok hgv hl (hs _ _ hl)
    split at h
    ·rename_i hgv; simp only [Option.some.injEq] at h; subst h; dsimp only; rw [hy _ hgv]; cases want <;> rfl
    ·rename_i hgv; simp only [Option.some.injEq] at h; subst h; dsimp only; rw [hy _ hgv]; cases want <;> rfl
    ·rename_i hgv; simp only [Option.some.injEq] at h; subst h; dsimp only; rw [hy _ hgv]; cases want <;> rfl
    ·simp at h
theorem run_vc (l : List Oper) : ∀ (i : Nat) (oc : List (Nat × Orc)) (s : RS) {s' : RS}, runOps P T cl sz ops l i oc s = some s' → AllP s'.vc → AllP s.vc := by
 induction l with
 | nil =>
  intro i oc s s' h
  simp only [runOps, Option.some.injEq] at h
  subst h; exact id
 | cons o r ih =>
  intro i oc s s' h hv
  obtain ⟨vc, E, M, tc, mv⟩ := s
  unfold runOps at h
  cases hd : dstB sz o.dst with
  | false => simp [hd] at h
  | true =>
   simp only [hd, cond_true] at h
   split at h
   ·split at h
    ·exact (AllP.app.1 (ih _ _ _ h hv)).1
    ·simp at h
   split at h
   ·split at h
    ·rename_i out _
     cases hb : Nat.ble M.length out.M.length with
     | false => simp [hb] at h
     | true => simp only [hb, cond_true] at h; exact (AllP.app.1 (ih _ _ _ h hv)).1
    ·simp at h
   ·have := ih _ _ _ h hv; exact this
   ·simp at h
def REg (mk : Bool) (D : List Nat) (w0 : World) (K0 : World → Prop) (sz : Nat) (E : List (Nat × AV)) (M : List Blk) (a : Act) (w : World) : Prop :=
 a.tmps.size = sz ∧ ∃ I, Mk mk a.defers I ∧ ∃ β F, RM D w0 K0 M β F I w ∧ ∀ t v, lookA E t = some v → ARel (fun w => K0 w ∧ Holds w I) β v (a.eval (.tmp t))
abbrev RE' (D : List Nat) (w0 : World) (K0 : World → Prop) (sz : Nat) (E : List (Nat × AV)) (M : List Blk) (a : Act) (w : World) : Prop := REg false D w0 K0 sz E M a w
def REb (mk : Bool) (D : List Nat) (w0 : World) (K0 : World → Prop) (sz : Nat) (b : Base) (s : RS) (a : Act) (w : World) : Prop :=
 a.tmps.size = sz ∧ ∃ I, Mk mk a.defers I ∧ b.m ≤ s.M.length ∧ ∃ β F, RM D w0 K0 s.M β F I w ∧ Since b s.mv s.tc β F I ∧ ∀ t v, lookA s.E t = some v → ARel (fun w => K0 w ∧ Holds w I) β v (a.eval (.tmp t))
theorem REg.nodef (r : REg false D w0 K0 sz E M a w) : a.defers = [] := let ⟨_, _, h, _⟩ := r; h
theorem REb.nodef {b : Base} {s : RS} (r : REb false D w0 K0 sz b s a w) : a.defers = [] := let ⟨_, _, h, _⟩ := r; h
theorem REb.re {b : Base} {s : RS} (r : REb mk D w0 K0 sz b s a w) : REg mk D w0 K0 sz s.E s.M a w := let ⟨h1, I, h2, _, β, F, h3, _, h4⟩ := r; ⟨h1, I, h2, β, F, h3, h4⟩
theorem REg.b (r : REg mk D w0 K0 sz E M a w) (vc : List Prop) : ∃ b, REb mk D w0 K0 sz b ⟨vc, E, M, [], []⟩ a w :=
 let ⟨h1, I, h2, β, F, h3, h4⟩ := r
 ⟨⟨β, F, I, M.length⟩, h1, I, h2, Nat.le_refl _, β, F, h3, ⟨fun _ _ _ h => h, Grows.refl _, fun _ _ _ => rfl⟩, h4⟩
theorem sCon_v {g : Operand} {args : Array Operand} {x : Value} {out : Out} (h : sCon P E M (some (.con (.v x))) g args = some out) : out.av = .d (.v x) ∧ out.M = M ∧ out.mv = [] ∧ out.rd = none := by
 unfold sCon at h
 split at h
 ·rename_i f caps l y _ _ hoc
  simp only [Option.some.injEq, Orc.con.injEq] at hoc; subst hoc
  cases hfl : (flat3 (DV.v x) && (l ++ caps).all cl2) with
  | false => rw [hfl] at h; cases h
  | true =>
   rw [hfl] at h
   simp only [cond_true, Option.some.injEq] at h; subst h
   exact ⟨rfl, rfl, rfl, rfl⟩
 ·cases h
theorem mayA_ok (hT : tabB P T = true) (hcl : ClOk P cl) {d : Option Tmp} {op : Op} {ty : TypeId} {pos : String} {aft : Array Edge} {gd : Option (Nat × Bool)} {oc : Orc} {vc : List Prop} {tc : List Nat} {x : Value} (h : mayA P T cl E M op oc = some (vc, tc, x)) :
  Eff P ⟨d, op, ty, pos, aft, gd⟩ E M ⟨vc, .d (.v x), M, tc, [], none⟩ := by
 unfold mayA at h
 split at h
 ·split at h
  ·rename_i out hs
   simp only [Option.some.injEq, Prod.mk.injEq] at h
   obtain ⟨rfl, rfl, rfl⟩ := h
   obtain ⟨h1, h2, h3, h4⟩ := sCon_v hs
   obtain ⟨vc, av, M2, tc, mv, rd⟩ := out
   dsimp only at h1 h2 h3 h4
   subst h1 h2 h3 h4
   intro D w0 K0 β F I ρ w C hv
   exact sCon_ok hs C hv
  ·cases h
 ·split at h
  ·rename_i hs
   simp only [Option.some.injEq, Prod.mk.injEq] at h
   obtain ⟨rfl, rfl, rfl⟩ := h
   have hd := step_ok (P := P) hT hcl (d := d) (ty := ty) (pos := pos) (aft := aft) (gd := gd) hs
   have hd2 := hd
   obtain ⟨-, h2, h3, -⟩ := hd2
   dsimp only at h2 h3
   subst h2 h3
   intro D w0 K0 β F I ρ w C hv
   exact hd.eff C hv
  ·cases h
theorem run_ok (hT : tabB P T = true) (hcl : ClOk P cl) (hK : ∀ w, Kp D w0 w → K0 w) {b : Base} : ∀ (l : List Oper) (i : Nat) (oc : List (Nat × Orc)) (s : RS) {s' : RS} (a : Act) (w : World), runOps P T cl sz ops l i oc s = some s' → REb mk D w0 K0 sz b s a w → AllP s'.vc → (∀ a' w', REb mk D w0 K0 sz b s' a' w' → Q .normal a' w') → wpL P ops Q (l.map (·, false)) a w := by
 intro l
 induction l with
 | nil =>
  intro i oc s s' a w h R _ k
  simp only [runOps, Option.some.injEq] at h
  subst h
  exact k a w R
 | cons o r ih =>
  intro i oc s s' a w h R hv k
  obtain ⟨vc, E, M, tc, mv⟩ := s
  unfold runOps at h
  cases hd : dstB sz o.dst with
  | false => simp [hd] at h
  | true =>
   simp only [hd, cond_true] at h
   obtain ⟨size, I, defers, hm, β, F, Rm, hsn, hs⟩ := R
   dsimp only at Rm hs hm hsn
   simp only [List.map_cons]
   unfold wpL
   simp only [cond_false]
   have hskip : runOps P T cl sz ops r (i + 1) oc ⟨vc, putA E o.dst (.d (.v undef)), M, tc, mv⟩ = some s' → wpL P ops Q (r.map (·, false)) (a.put o.dst undef) w := by
    intro hr
    obtain ⟨e1, e2, e3⟩ := RE.put (E := E) size defers hs hd (.d (.v undef))
    exact ih _ _ _ _ _ hr ⟨e1, I, e2, hm, β, F, Rm, hsn, e3⟩ hv k
   have hrun : ∀ out : Out, step P T cl E M (getO oc i) o.op = some out → (bif Nat.ble M.length out.M.length then runOps P T cl sz ops r (i + 1) oc ⟨vc ++ out.vc, putA (keepA out.mv E) o.dst out.av, out.M, out.tc ++ tc, out.mv ++ mv⟩ else none) = some s' → OpY P o a.eval w fun v w' => wpL P ops Q (r.map (·, false)) (a.put o.dst v) w' := by
    intro out hst hr
    cases hb : Nat.ble M.length out.M.length with
    | false => simp [hb] at hr
    | true =>
    simp only [hb, cond_true] at hr
    have hlen := Nat.le_of_ble_eq_true hb
    have C : Ctx D w0 K0 E M β F I a.eval w := ⟨Rm, hs, fun _ => rfl, fun _ => rfl, fun _ => rfl, hK⟩
    have hout := (AllP.app.1 (run_vc _ _ _ _ hr hv)).2
    have := (step_ok (P := P) hT hcl (d := o.dst) (ty := o.type) (pos := o.pos) (aft := o.after) (gd := o.guard) hst).eff C hout
    refine OpY.mono this fun v w' ⟨β', F', I', R', e, hI, hF, hr'⟩ => ?_
    have hk := keepA_ok (ρ := a.eval) e hs
    obtain ⟨e1, e2, e3⟩ := RE.put size (defers.grow hI) (fun t v hx => (hk t v hx).mono (fun w hw => ⟨hw.1, hI.holds w hw.2⟩) (Ext.refl _)) hd hr'
    exact ih _ _ _ _ _ hr ⟨e1, I', e2, Nat.le_trans hm hlen, β', F', R', hsn.step hm e hI hF, e3⟩ hv k
   split at h
   ·rename_i c oo hoc
    split at h
    rotate_left
    ·simp at h
    rename_i vc' tc' x y want hmay hgs
    have hv2 := (AllP.app.1 (run_vc _ _ _ _ h hv)).2
    obtain ⟨hc, hvc, -⟩ := hv2
    have C : Ctx D w0 K0 E M β F I a.eval w := ⟨Rm, hs, fun _ => rfl, fun _ => rfl, fun _ => rfl, hK⟩
    unfold guardS at hgs
    split at hgs
    rotate_left
    ·cases hgs
    rename_i j want' hg
    split at hgs
    rotate_left
    ·cases hgs
    rename_i s0 hj
    cases hsz : s0.blt sz with
    | false => simp [hsz] at hgs
    | true =>
    simp only [hsz, cond_true] at hgs
    split at hgs
    rotate_left
    ·cases hgs
    rename_i y' hlook
    simp only [Option.some.injEq, Prod.mk.injEq] at hgs
    obtain ⟨rfl, rfl⟩ := hgs
    have hlt : s0 < a.tmps.size := by rw [size]; simpa [Nat.blt_eq] using hsz
    have hyl : yielded ops a.tmps j = boolOf y' := by
     rw [yielded_eq hj hlt]
     have hr := hs _ _ hlook
     generalize a.eval (.tmp s0) = z at hr
     cases hr with | d hr => cases hr; rfl
    split
    ·rename_i hg2; rw [hg] at hg2; cases hg2
    ·rename_i j2 want2 hg2
     rw [hg] at hg2; cases hg2
     refine ⟨fun hn => ?_, fun hn => ?_⟩
     ·have hct : c = true := by rw [← hc, beq_iff_eq, ← hyl]; exact hn
      subst hct
      have := mayA_ok hT hcl (d := o.dst) (ty := o.type) (pos := o.pos) (aft := o.after) (gd := o.guard) hmay C (hvc rfl)
      refine OpY.mono this fun v w' ⟨β', F', I', R', e, hI, hF, hr'⟩ => ?_
      obtain ⟨e1, e2, e3⟩ := RE.put (E := E) size (defers.grow hI) (fun t v hx => (hs t v hx).mono (fun w hw => ⟨hw.1, hI.holds w hw.2⟩) (fun u x hx => e u x (by simp) hx)) hd hr'
      exact ih _ _ _ _ _ h ⟨e1, I', e2, hm, β', F', R', hsn.step (mv' := []) hm e hI hF, e3⟩ hv k
     ·have hcf : c = false := by rw [← hc, beq_eq_false_iff_ne, ← hyl]; exact hn
      subst hcf
      obtain ⟨e1, e2, e3⟩ := RE.put (E := E) size defers hs hd (.d (.v undef))
      exact ih _ _ _ _ _ h ⟨e1, I, e2, hm, β, F, Rm, ⟨hsn.1, hsn.2.1, fun u hu ht => hsn.2.2 u hu fun h' => ht (List.mem_append_right _ h')⟩, e3⟩ hv k
   split at h
   ·rename_i hw
    have hwant := wantA_ok (ops := ops) size hs hw
    split at h
    ·rename_i out hst
     have hgo := hrun out hst h
     split
     ·exact hgo
     ·rename_i j want hg
      refine ⟨fun _ => hgo, fun hn => ?_⟩
      simp only [Region.wanted, hg, beq_iff_eq] at hwant
      exact absurd hwant hn
    ·simp at h
   ·rename_i hw
    have hwant := wantA_ok (ops := ops) size hs hw
    split
    ·rename_i hg; simp [Region.wanted, hg] at hwant
    ·rename_i j want hg
     refine ⟨fun hn => ?_, fun _ => hskip h⟩
     simp only [Region.wanted, hg, beq_eq_false_iff_ne] at hwant
     exact absurd hn hwant
   ·simp at h
theorem regA (hT : tabB P T = true) (hcl : ClOk P cl) (hK : ∀ w, Kp D w0 w → K0 w) {b : Base} {s : RS} (R : REb mk D w0 K0 sz b s a w) (oc : List (Nat × Orc)) {id : Nat} {s' : RS} (h : runOps P T cl sz ops ops.toList 0 oc s = some s') (hv : AllP s'.vc) (k : ∀ a' w', REb mk D w0 K0 sz b s' a' w' → Q .normal a' w') : (Code.region id ops false).wpIn (Fl ro) 0 P Q a w :=
 region_seqI (run_ok hT hcl hK _ _ _ _ a w h R hv k)
def YieldsG (P : Program) (ops : Array Oper) (Rk : World → Prop) (o : Oper) (v : Value) (a : Act) : Prop :=
 (Region.wanted o (yielded ops a.tmps) = true ∧ ∀ w, Rk w → (execOp a.eval o).run P w = .ok (.value v) w) ∨ (Region.wanted o (yielded ops a.tmps) = false ∧ v = undef)
theorem YieldsG.wpOp {Rk : World → Prop} {i : Nat} {o : Oper} {v : Value} (hi : ops[i]? = some o) (hy : YieldsG P ops Rk o v a) {K : Act → World → Prop} (hR : Rk w) (h : K (a.put o.dst v) w) : Go.wpOpIn (Fl ro) 0 P ops Q i K a w := by
 unfold Go.wpOpIn
 simp only [hi]
 rcases hy with hy | ⟨hy, rfl⟩
 ·simp only [hy.1, if_true]
  refine ⟨fun _ _ => trivial, ?_⟩
  rw [show (Fl ro).round = ro from rfl, sem_val (hy.2 w hR)]; exact h
 ·simp only [hy, Bool.false_eq_true, if_false]; exact ⟨fun _ _ => trivial, h⟩
theorem wpAnyR_firstG {Rk : World → Prop} {i : Nat} {oi : Oper} {v : Value} (hi : ops[i]? = some oi) (hsel : ∀ (j : Nat) (o : Oper) cs b, ops[j]? = some o → o.op ≠ .select cs b)
  (hQ : ∀ c a w, Q (.panic c) (a.put oi.dst v) w → Q (.panic c) a w) :
  ∀ (fuel : Nat) (L : Array Bool) (a : Act) (w : World),
   (∀ j oj, ops[j]? = some oj → j ≠ i → L.getD j true = false → (∀ e ∈ oj.after, Region.binds .any e = true → e.on ≠ i) → oi.apart ops oj = true) →
   i ∈ Region.ready .any ops L → YieldsG P ops Rk oi v a →
   wpAnyR ro P ops Q Rk fuel (L.setIfInBounds i true) (a.put oi.dst v) w → wpAnyR ro P ops Q Rk (fuel + 1) L a w := by
 intro fuel
 induction fuel with
 | zero =>
  intro L a w _ hr hy H
  refine ⟨H.rk, fun h => (by rw [h] at hr; cases hr), fun j hj => ?_⟩
  by_cases hji : j = i
  ·subst hji; exact hy.wpOp hi H.rk H
  ·have := ready_mono hj hji
   rw [H.2.1] at this
   cases this
 | succ fuel ih =>
  intro L a w hfree hr hy H
  refine ⟨H.rk, fun h => (by rw [h] at hr; cases hr), fun j hj => ?_⟩
  by_cases hji : j = i
  ·subst hji; exact hy.wpOp hi H.rk H
  ·have h1 := H.2.2 j (ready_mono hj hji)
   obtain ⟨hjun, oj, hoj, hall⟩ := mem_ready.1 hj
   have hnot : ∀ e ∈ oj.after, Region.binds .any e = true → e.on ≠ i := fun e he hb heq => by
    have h1 := hall e he hb
    have h0 := (mem_ready.1 hr).1
    rw [heq] at h1
    rcases Nat.lt_or_ge i L.size with h' | h'
    ·simp [h'] at h0 h1; rw [h0] at h1; cases h1
    ·simp [Array.getElem?_eq_none h'] at h1
   have hap := hfree j oj hoj hji hjun hnot
   obtain ⟨_, _, h3⟩ := Oper.apart_spec hap
   have h2 := wpOp_behind (Y := YieldsG P ops Rk oi v) hoj hap (fun cs b => hsel j oj cs b hoj)
    (fun a hy u => by unfold YieldsG at *; rw [execOp_put oi (fun cs b => hsel i oi cs b hi) a oj.dst u h3, wanted_put oi a oj.dst u h3]; exact hy) (fun a d hy => hy) hQ hy h1
   have hfree' : ∀ k ok, ops[k]? = some ok → k ≠ i → (L.setIfInBounds j true).getD k true = false →
     (∀ e ∈ ok.after, Region.binds .any e = true → e.on ≠ i) → oi.apart ops ok = true := fun k ok hk hki hun hno => by
    refine hfree k ok hk hki ?_ hno
    by_cases hjk : j = k
    ·subst hjk; exact hjun
    ·rw [getD_set_ne true hjk] at hun; exact hun
   refine wpOpIn_mono (fun a' w' h3 => ih (L.setIfInBounds j true) a' w' hfree' (ready_mono hr (Ne.symm hji)) h3.1 ?_) h2
   rw [Array.setIfInBounds_comm _ _ hji]
   exact h3.2
def isPure : Op → Bool
 | .move _ => true
 | .assign _ => true
 | .pick _ _ _ => true
 | .load _ _ => true
 | .nilCheck _ => true
 | .binOp _ _ _ _ _ => true
 | .unOp _ _ _ => true
 | .fieldAddr _ _ _ => true
 | .indexAddr _ _ _ => true
 | .extract _ _ => true
 | .makeFunc _ _ _ => true
 | .build _ _ => true
 | .slice _ _ _ _ _ => true
 | .index _ _ _ => true
 | .field _ _ _ => true
 | .convert _ _ _ => true
 | .call ⟨.builtin .len, _, _⟩ => true
 | _ => false
def firstPure (ops : Array Oper) (L : Array Bool) : List Nat → Option Nat
 | [] => none
 | i :: r => (match ops[i]? with | some o => bif isPure o.op && Region.free .any ops L i then some i else firstPure ops L r | none => firstPure ops L r)
inductive Nxt where
 | fin
 | look (i : Nat)
 | one (i : Nat)
 | bad
def nxt' (ops : Array Oper) (L : Array Bool) : List Nat → Nxt
 | [] => .fin
 | [i] => .one i
 | i :: k :: r => (match firstPure ops L (i :: k :: r) with
  | some j => .look j
  | none => .bad)
def nxt (ops : Array Oper) (L : Array Bool) : Nxt := nxt' ops L (Region.ready .any ops L)
def away (rd tc : List Nat) : Bool := rd.all fun u => !(tc.elem u)
def depB (ops : Array Oper) (k i : Nat) : Bool := match ops[k]? with
 | some o => !(isPure o.op) && o.after.any fun e => Region.binds .any e && Nat.beq e.on i
 | none => false
def aliveB (ops : Array Oper) (i : Nat) (L : Array Bool) : Bool := (List.range ops.size).all fun k => !(depB ops k i && L.getD k true)
theorem aliveB_iff {i : Nat} {L : Array Bool} : aliveB ops i L = true ↔ ∀ k, k < ops.size → depB ops k i = true → L.getD k true = false := by
 unfold aliveB
 rw [List.all_eq_true]
 constructor
 ·intro h k hk hd
  have := h k (List.mem_range.2 hk)
  rw [hd] at this; simpa using this
 ·intro h k hk
  cases hd : depB ops k i with
  | false => rfl
  | true => rw [h k (List.mem_range.1 hk) hd]; rfl
theorem alive_set {i j : Nat} {L : Array Bool} (hd : depB ops j i = false) (h : aliveB ops i L = true) : aliveB ops i (L.setIfInBounds j true) = true := by
 rw [aliveB_iff] at *
 intro k hk hk2
 rw [getD_set_ne true (fun e => by subst e; rw [hd] at hk2; cases hk2)]
 exact h k hk hk2
theorem dep_pure {i j : Nat} {o : Oper} (ho : ops[j]? = some o) (hp : isPure o.op = true) : depB ops j i = false := by unfold depB; rw [ho]; simp [hp]
theorem dep_no {i j : Nat} {o : Oper} (ho : ops[j]? = some o) (hno : ∀ e ∈ o.after, Region.binds .any e = true → e.on ≠ i) : depB ops j i = false := by
 unfold depB; rw [ho]
 simp only [Bool.and_eq_false_iff]
 refine .inr ?_
 rw [Array.any_eq_false]
 intro q hq h
 simp only [Bool.and_eq_true] at h
 exact hno _ (Array.getElem_mem hq) h.1 (Nat.eq_of_beq_eq_true h.2)
def Sub (L L' : Array Bool) : Prop := ∀ k, L.getD k true = true → L'.getD k true = true
theorem Sub.refl (L : Array Bool) : Sub L L := fun _ h => h
theorem Sub.of_set {L L' : Array Bool} {j : Nat} (h : Sub (L.setIfInBounds j true) L') : Sub L L' := fun k hk => h k (by
 by_cases e : j = k
 ·subst e
  rcases Nat.lt_or_ge j L.size with h' | h'
  ·simp [h']
  ·simp [h']
 ·rw [getD_set_ne true e]; exact hk)
theorem alive_anti {i : Nat} {L L' : Array Bool} (h : Sub L L') (ha : aliveB ops i L' = true) : aliveB ops i L = true := by
 rw [aliveB_iff] at *
 intro k hk hd
 cases e : L.getD k true with
 | false => rfl
 | true => have h1 := ha k hk hd; rw [h k e] at h1; cases h1
def awayL (ops : Array Oper) (L : Array Bool) (rd : List (Nat × Nat)) (tc : List Nat) : Bool := rd.all fun q => !(tc.elem q.2) || !(aliveB ops q.1 L)
def wpAnyL (ro : Option Nat) (P : Program) (ops : Array Oper) (Q : Exit → Act → World → Prop) (Rk : Array Bool → World → Prop) : Nat → Array Bool → Act → World → Prop
 | 0, L, a, w => Rk L w ∧ Region.ready .any ops L = [] ∧ Q .normal a w
 | fuel + 1, L, a, w => Rk L w ∧ (Region.ready .any ops L = [] → Q .normal a w) ∧ ∀ i ∈ Region.ready .any ops L, wpOpIn (Fl ro) 0 P ops Q i (wpAnyL ro P ops Q Rk fuel (L.setIfInBounds i true)) a w
theorem wpAnyL.rk {Rk : Array Bool → World → Prop} {fuel : Nat} {L : Array Bool} {a : Act} {w : World} (h : wpAnyL ro P ops Q Rk fuel L a w) : Rk L w := by cases fuel <;> exact h.1
theorem wpAnyL.to {Rk : Array Bool → World → Prop} : ∀ {fuel : Nat} {L : Array Bool} {a : Act} {w : World}, wpAnyL ro P ops Q Rk fuel L a w → wpAnyIn (Fl ro) 0 P .any ops Q fuel L a w
 | 0, _, _, _, h => h.2
 | _ + 1, _, _, _, h => ⟨h.2.1, fun i hi => wpOpIn_mono (fun _ _ h => wpAnyL.to h) (h.2.2 i hi)⟩
theorem wpAnyL_weak {Rk Rk' : Array Bool → World → Prop} (h : ∀ L w, Rk' L w → Rk L w) : ∀ {fuel : Nat} {L : Array Bool} {a : Act} {w : World}, wpAnyL ro P ops Q Rk' fuel L a w → wpAnyL ro P ops Q Rk fuel L a w
 | 0, _, _, _, k => ⟨h _ _ k.1, k.2⟩
 | _ + 1, _, _, _, k => ⟨h _ _ k.1, k.2.1, fun i hi => wpOpIn_mono (fun _ _ k => wpAnyL_weak h k) (k.2.2 i hi)⟩
theorem wpAnyL_first {Rk : Array Bool → World → Prop} {S : World → Prop} {i : Nat} {oi : Oper} {v : Value} (hi : ops[i]? = some oi) (hp : isPure oi.op = true) (hsel : ∀ (j : Nat) (o : Oper) cs b, ops[j]? = some o → o.op ≠ .select cs b)
  (hQ : ∀ c a w, Q (.panic c) (a.put oi.dst v) w → Q (.panic c) a w) (hRS : ∀ L w, aliveB ops i L = true → Rk L w → S w) (hmono : ∀ L w, Rk (L.setIfInBounds i true) w → Rk L w) :
  ∀ (fuel : Nat) (L : Array Bool) (a : Act) (w : World),
   (∀ j oj, ops[j]? = some oj → j ≠ i → L.getD j true = false → (∀ e ∈ oj.after, Region.binds .any e = true → e.on ≠ i) → oi.apart ops oj = true) →
   i ∈ Region.ready .any ops L → aliveB ops i L = true → YieldsG P ops S oi v a →
   wpAnyL ro P ops Q Rk fuel (L.setIfInBounds i true) (a.put oi.dst v) w → wpAnyL ro P ops Q Rk (fuel + 1) L a w := by
 intro fuel
 induction fuel with
 | zero =>
  intro L a w _ hr hal hy H
  refine ⟨hmono _ _ H.rk, fun h => (by rw [h] at hr; cases hr), fun j hj => ?_⟩
  by_cases hji : j = i
  ·subst hji; exact hy.wpOp hi (hRS _ _ (alive_set (dep_pure hi hp) hal) H.rk) H
  ·have := ready_mono hj hji
   rw [H.2.1] at this
   cases this
 | succ fuel ih =>
  intro L a w hfree hr hal hy H
  refine ⟨hmono _ _ H.rk, fun h => (by rw [h] at hr; cases hr), fun j hj => ?_⟩
  by_cases hji : j = i
  ·subst hji; exact hy.wpOp hi (hRS _ _ (alive_set (dep_pure hi hp) hal) H.rk) H
  ·have h1 := H.2.2 j (ready_mono hj hji)
   obtain ⟨hjun, oj, hoj, hall⟩ := mem_ready.1 hj
   have hnot : ∀ e ∈ oj.after, Region.binds .any e = true → e.on ≠ i := fun e he hb heq => by
    have h1 := hall e he hb
    have h0 := (mem_ready.1 hr).1
    rw [heq] at h1
    rcases Nat.lt_or_ge i L.size with h' | h'
    ·simp [h'] at h0 h1; rw [h0] at h1; cases h1
    ·simp [Array.getElem?_eq_none h'] at h1
   have hap := hfree j oj hoj hji hjun hnot
   obtain ⟨_, _, h3⟩ := Oper.apart_spec hap
   have h2 := wpOp_behind (Y := YieldsG P ops S oi v) hoj hap (fun cs b => hsel j oj cs b hoj)
    (fun a hy u => by unfold YieldsG at *; rw [execOp_put oi (fun cs b => hsel i oi cs b hi) a oj.dst u h3, wanted_put oi a oj.dst u h3]; exact hy) (fun a d hy => hy) hQ hy h1
   have hfree' : ∀ k ok, ops[k]? = some ok → k ≠ i → (L.setIfInBounds j true).getD k true = false →
     (∀ e ∈ ok.after, Region.binds .any e = true → e.on ≠ i) → oi.apart ops ok = true := fun k ok hk hki hun hno => by
    refine hfree k ok hk hki ?_ hno
    by_cases hjk : j = k
    ·subst hjk; exact hjun
    ·rw [getD_set_ne true hjk] at hun; exact hun
   refine wpOpIn_mono (fun a' w' h3 => ih (L.setIfInBounds j true) a' w' hfree' (ready_mono hr (Ne.symm hji)) (alive_set (dep_no hoj hnot) hal) h3.1 ?_) h2
   rw [Array.setIfInBounds_comm _ _ hji]
   exact h3.2
def SeesL (ops : Array Oper) (K0 : World → Prop) (I : Frag) (F : Nat → Frag) (rd : List (Nat × Nat)) (L : Array Bool) (w : World) : Prop := (K0 w ∧ Holds w I) ∧ ∀ q ∈ rd, aliveB ops q.1 L = true → Holds w (F q.2)
def runD (P : Program) (T : Tab) (cl : Walker) (sz : Nat) (ops : Array Oper) (oc : List (Nat × Orc)) : Nat → Array Bool → List (Nat × Nat) → RS → Option RS
 | 0, L, _, s => (match nxt ops L with | .fin => some s | _ => none)
 | fuel + 1, L, rd, ⟨vc, E, M, tc, mv⟩ =>
  match nxt ops L with
  | .fin => some ⟨vc, E, M, tc, mv⟩
  | .bad => none
  | .look i => (match ops[i]? with
   | some o => (bif dstB sz o.dst && (isPure o.op && aliveB ops i L) then (match wantA sz ops E o.guard with
    | some true => (match step P T cl E M (getO oc i) o.op with
     | some ⟨vc', av, _, _, _, some rd'⟩ => runD P T cl sz ops oc fuel (L.setIfInBounds i true) (rd'.map (fun u => (i, u)) ++ rd) ⟨vc ++ vc', putA E o.dst av, M, tc, mv⟩
     | _ => none)
    | some false => runD P T cl sz ops oc fuel (L.setIfInBounds i true) rd ⟨vc, putA E o.dst (.d (.v undef)), M, tc, mv⟩
    | none => none) else none)
   | none => none)
  | .one i => (match ops[i]? with
   | some o => (bif dstB sz o.dst then (match wantA sz ops E o.guard with
    | some true => (match step P T cl E M (getO oc i) o.op with
     | some out => (bif awayL ops (L.setIfInBounds i true) rd out.tc && Nat.ble M.length out.M.length then runD P T cl sz ops oc fuel (L.setIfInBounds i true) rd ⟨vc ++ out.vc, putA (keepA out.mv E) o.dst out.av, out.M, out.tc ++ tc, out.mv ++ mv⟩ else none)
     | none => none)
    | some false => runD P T cl sz ops oc fuel (L.setIfInBounds i true) rd ⟨vc, putA E o.dst (.d (.v undef)), M, tc, mv⟩
    | none => none) else none)
   | none => none)
theorem firstPure_ok {L : Array Bool} : ∀ {r : List Nat} {i : Nat}, firstPure ops L r = some i → i ∈ r ∧ ∃ o, ops[i]? = some o ∧ Region.free .any ops L i = true
 | [], _, h => by simp [firstPure] at h
 | j :: r, i, h => by
  unfold firstPure at h
  split at h
  ·rename_i o ho
   cases hc : (isPure o.op && Region.free .any ops L j) with
   | true => simp only [hc, cond_true, Option.some.injEq] at h; subst h; simp only [Bool.and_eq_true] at hc; exact ⟨List.mem_cons_self, o, ho, hc.2⟩
   | false => simp only [hc, cond_false] at h; exact ⟨List.mem_cons_of_mem _ (firstPure_ok h).1, (firstPure_ok h).2⟩
  ·exact ⟨List.mem_cons_of_mem _ (firstPure_ok h).1, (firstPure_ok h).2⟩
theorem nxt'_ok {L : Array Bool} {r : List Nat} {n : Nxt} : nxt' ops L r = n → match n with | .fin => r = [] | .look i => i ∈ r ∧ ∃ o, ops[i]? = some o ∧ Region.free .any ops L i = true | .one i => r = [i] | .bad => True := by
 intro h
 match r, h with
 | [], h => simp only [nxt'] at h; subst h; rfl
 | [i], h => simp only [nxt'] at h; subst h; rfl
 | i :: k :: r, h =>
  rw [nxt'] at h
  cases hf : firstPure ops L (i :: k :: r) with
  | some j => rw [hf] at h; subst h; exact firstPure_ok hf
  | none => rw [hf] at h; subst h; trivial
theorem nxt_fin {L : Array Bool} (h : nxt ops L = .fin) : Region.ready .any ops L = [] := nxt'_ok h
theorem nxt_look {L : Array Bool} {i : Nat} (h : nxt ops L = .look i) : i ∈ Region.ready .any ops L ∧ ∃ o, ops[i]? = some o ∧ Region.free .any ops L i = true := nxt'_ok h
theorem nxt_one {L : Array Bool} {i : Nat} (h : nxt ops L = .one i) : Region.ready .any ops L = [i] := nxt'_ok h
theorem runD_vc {oc : List (Nat × Orc)} : ∀ (fuel : Nat) (L : Array Bool) (rd : List (Nat × Nat)) (s : RS) {s' : RS}, runD P T cl sz ops oc fuel L rd s = some s' → AllP s'.vc → AllP s.vc := by
 intro fuel
 induction fuel with
 | zero =>
  intro L rd s s' h hv
  unfold runD at h
  split at h
  ·simp only [Option.some.injEq] at h; subst h; exact hv
  ·simp at h
 | succ fuel ih =>
  intro L rd s s' h hv
  obtain ⟨vc, E, M, tc, mv⟩ := s
  unfold runD at h
  split at h
  ·simp only [Option.some.injEq] at h; subst h; exact hv
  ·simp at h
  ·rename_i i _
   split at h
   ·rename_i o ho
    cases hd : (dstB sz o.dst && (isPure o.op && aliveB ops i L)) with
    | false => simp [hd] at h
    | true =>
     simp only [hd, cond_true] at h
     split at h
     ·split at h
      ·exact (AllP.app.1 (ih _ _ _ h hv)).1
      ·simp at h
     ·have := ih _ _ _ h hv; exact this
     ·simp at h
   ·simp at h
  ·rename_i i _
   split at h
   ·rename_i o ho
    cases hd : dstB sz o.dst with
    | false => simp [hd] at h
    | true =>
     simp only [hd, cond_true] at h
     split at h
     ·split at h
      ·rename_i out _
       cases hc : (awayL ops (L.setIfInBounds i true) rd out.tc && Nat.ble M.length out.M.length) with
       | false => simp [hc] at h
       | true => simp only [hc, cond_true] at h; exact (AllP.app.1 (ih _ _ _ h hv)).1
      ·simp at h
     ·have := ih _ _ _ h hv; exact this
     ·simp at h
   ·simp at h
theorem runD_ok (hT : tabB P T = true) (hcl : ClOk P cl) {b : Base} (hK : ∀ w, Kp D w0 w → K0 w) (hsel : Region.noSelect ops = true) (hQ : ∀ d v c a w, Q (.panic c) (Act.put a d v) w → Q (.panic c) a w) {oc : List (Nat × Orc)} :
  ∀ (fuel : Nat) (L : Array Bool) (rd : List (Nat × Nat)) (s : RS) {s' : RS} (Rk : Array Bool → World → Prop) (β : Beta) (F : Nat → Frag) (I : Frag) (a : Act) (w : World), runD P T cl sz ops oc fuel L rd s = some s' → a.tmps.size = sz → Mk mk a.defers I → b.m ≤ s.M.length → RM D w0 K0 s.M β F I w → Since b s.mv s.tc β F I →
   (∀ t v, lookA s.E t = some v → ARel (fun w => K0 w ∧ Holds w I) β v (a.eval (.tmp t))) → (∀ q ∈ rd, q.2 < s.M.length) → (∀ L' w, Sub L L' → SeesL ops K0 I F rd L' w → Rk L' w) → (∀ (j : Nat) oj, ops[j]? = some oj → isPure oj.op = true → ∀ L' w, Rk (L'.setIfInBounds j true) w → Rk L' w) → AllP s'.vc → (∀ a' w', REb mk D w0 K0 sz b s' a' w' → Q .normal a' w') → wpAnyL ro P ops Q Rk fuel L a w := by
 intro fuel
 induction fuel with
 | zero =>
  intro L rd s s' Rk β F I a w h size defers hm Rm hsn hs hrd hRk hmn hv k
  obtain ⟨vc, E, M, tc, mv⟩ := s
  have C : Ctx D w0 K0 E M β F I a.eval w := ⟨Rm, hs, fun _ => rfl, fun _ => rfl, fun _ => rfl, hK⟩
  have hR := hRk L w (Sub.refl L) ⟨C.now, fun q hq _ => C.rm.holdsF (List.getElem?_eq_getElem (hrd q hq))⟩
  unfold runD at h
  split at h
  ·rename_i hn
   simp only [Option.some.injEq] at h; subst h
   exact ⟨hR, nxt_fin hn, k a w ⟨size, I, defers, hm, β, F, Rm, hsn, hs⟩⟩
  ·simp at h
 | succ fuel ih =>
  intro L rd s s' Rk β F I a w h size defers hm Rm hsn hs hrd hRk hmn hv k
  obtain ⟨vc, E, M, tc, mv⟩ := s
  dsimp only at hm Rm hsn hs hrd hRk
  have C : Ctx D w0 K0 E M β F I a.eval w := ⟨Rm, hs, fun _ => rfl, fun _ => rfl, fun _ => rfl, hK⟩
  have hR := hRk L w (Sub.refl L) ⟨C.now, fun q hq _ => C.rm.holdsF (List.getElem?_eq_getElem (hrd q hq))⟩
  unfold runD at h
  split at h
  ·rename_i hn
   simp only [Option.some.injEq] at h; subst h
   have hn := nxt_fin hn
   exact ⟨hR, fun _ => k a w ⟨size, I, defers, hm, β, F, Rm, hsn, hs⟩, fun i hi => by rw [hn] at hi; cases hi⟩
  ·simp at h
  ·rename_i i hn
   obtain ⟨hir, o', ho', hfree⟩ := nxt_look hn
   split at h
   ·rename_i o ho
    cases hdd : (dstB sz o.dst && (isPure o.op && aliveB ops i L)) with
    | false => simp [hdd] at h
    | true =>
     simp only [hdd, cond_true] at h
     simp only [Bool.and_eq_true] at hdd
     obtain ⟨hd, hpu, hal⟩ := hdd
     have hfr := fun j oj hj hne hun hno => Region.free_spec ho hfree j oj hj hne hun hno
     split at h
     ·rename_i hw
      have hwant := wantA_ok (ops := ops) size hs hw
      split at h
      ·rename_i vc' av _ _ _ rd' hst
       have hdo := step_ok (P := P) hT hcl (d := o.dst) (ty := o.type) (pos := o.pos) (aft := o.after) (gd := o.guard) hst
       obtain ⟨hpur, rfl, -, hlt⟩ := hdo
       have hout := (AllP.app.1 (runD_vc _ _ _ _ h hv)).2
       obtain ⟨v, hrel, hval⟩ := hpur C hout
       obtain ⟨e1, e2, e3⟩ := RE.put (E := E) size defers hs hd hrel
       have hstep := ih (L.setIfInBounds i true) _ _ (fun L w => Rk L w ∧ (aliveB ops i L = true → Sees K0 I F rd' w)) β F I (a.put o.dst v) w h e1 e2 hm Rm hsn e3 (fun q hq => by
         rcases List.mem_append.1 hq with e | e
         ·obtain ⟨u, hu, rfl⟩ := List.mem_map.1 e; exact hlt u hu
         ·exact hrd q e)
        (fun L' w hL hw => ⟨hRk L' w hL.of_set ⟨hw.1, fun q hq => hw.2 q (List.mem_append_right _ hq)⟩, fun ha => ⟨hw.1, fun u hu => hw.2 (i, u) (List.mem_append_left _ (List.mem_map.2 ⟨u, hu, rfl⟩)) ha⟩⟩)
        (fun j oj hj hpj L' w hw => ⟨hmn j oj hj hpj L' w hw.1, fun ha => hw.2 (alive_set (dep_pure hj hpj) ha)⟩) hv k
       exact wpAnyL_weak (fun L w hw => hw.1) (wpAnyL_first ho hpu (Region.noSelect_spec hsel) (hQ o.dst v) (fun L w ha hw => hw.2 ha) (fun L w hw => ⟨hmn i o ho hpu L w hw.1, fun ha => hw.2 (alive_set (dep_pure ho hpu) ha)⟩) _ L a w hfr hir hal (Or.inl ⟨hwant, fun w' hw' => hval w' hw'⟩) hstep)
      ·simp at h
     ·rename_i hw
      have hwant := wantA_ok (ops := ops) size hs hw
      obtain ⟨e1, e2, e3⟩ := RE.put (E := E) size defers hs hd (.d (.v undef))
      have hstep := ih (L.setIfInBounds i true) _ _ Rk β F I (a.put o.dst undef) w h e1 e2 hm Rm hsn e3 hrd (fun L' w hL => hRk L' w hL.of_set) hmn hv k
      exact wpAnyL_first (S := fun _ => True) ho hpu (Region.noSelect_spec hsel) (hQ o.dst undef) (fun _ _ _ _ => trivial) (hmn i o ho hpu) _ L a w hfr hir hal (Or.inr ⟨hwant, rfl⟩) hstep
     ·simp at h
   ·simp at h
  ·rename_i i hn
   have hone := nxt_one hn
   split at h
   ·rename_i o ho
    cases hd : dstB sz o.dst with
    | false => simp [hd] at h
    | true =>
     simp only [hd, cond_true] at h
     refine ⟨hR, fun h0 => (by rw [hone] at h0; simp at h0), fun j hj => ?_⟩
     rw [hone] at hj
     obtain rfl := List.mem_singleton.1 hj
     unfold wpOpIn
     simp only [ho]
     split at h
     ·rename_i hw
      have hwant := wantA_ok (ops := ops) size hs hw
      simp only [hwant, if_true]
      split at h
      ·rename_i out hst
       cases hc : (awayL ops (L.setIfInBounds j true) rd out.tc && Nat.ble M.length out.M.length) with
       | false => simp [hc] at h
       | true =>
        simp only [hc, cond_true] at h
        simp only [Bool.and_eq_true] at hc
        have hlen := Nat.le_of_ble_eq_true hc.2
        have hout := (AllP.app.1 (runD_vc _ _ _ _ h hv)).2
        have hdo := (step_ok (P := P) hT hcl (d := o.dst) (ty := o.type) (pos := o.pos) (aft := o.after) (gd := o.guard) hst).eff C hout
        refine OpY.wp hdo ?_
        rintro v w' ⟨β', F', I', R', e, hI, hF, hr'⟩
        have hk := keepA_ok (ρ := a.eval) e hs
        obtain ⟨e1, e2, e3⟩ := RE.put size (defers.grow hI) (fun t v hx => (hk t v hx).mono (fun w hw => ⟨hw.1, hI.holds w hw.2⟩) (Ext.refl _)) hd hr'
        refine ih (L.setIfInBounds j true) _ _ Rk β' F' I' (a.put o.dst v) w' h e1 e2 (Nat.le_trans hm hlen) R' (hsn.step hm e hI hF) e3 (fun q hq => Nat.lt_of_lt_of_le (hrd q hq) hlen) (fun L' w hL hw => hRk L' w hL.of_set ⟨⟨hw.1.1, hI.holds w hw.1.2⟩, fun q hq ha => ?_⟩) hmn hv k
        have hnt : q.2 ∉ out.tc := by
         have h1 := List.all_eq_true.1 hc.1 q hq
         rw [alive_anti hL ha] at h1
         simpa using h1
        rw [← hF q.2 (hrd q hq) hnt]; exact hw.2 q hq ha
      ·simp at h
     ·rename_i hw
      have hwant := wantA_ok (ops := ops) size hs hw
      simp only [hwant, Bool.false_eq_true, if_false]
      obtain ⟨e1, e2, e3⟩ := RE.put (E := E) size defers hs hd (.d (.v undef))
      exact ⟨fun _ _ => trivial, ih (L.setIfInBounds j true) _ _ Rk β F I (a.put o.dst undef) w h e1 e2 hm Rm hsn e3 hrd (fun L' w hL => hRk L' w hL.of_set) hmn hv k⟩
     ·simp at h
   ·simp at h
theorem regD (hT : tabB P T = true) (hcl : ClOk P cl) (hm : P.follows .mixedOrders = true) (hK : ∀ w, Kp D w0 w → K0 w) (hQ : ∀ d v c a w, Q (.panic c) (Act.put a d v) w → Q (.panic c) a w) {b : Base} {s : RS} (R : REb mk D w0 K0 sz b s a w) (oc : List (Nat × Orc)) {id : Nat} {s' : RS} (hsel : Region.noSelect ops = true)
  (h : runD P T cl sz ops oc ops.size (Array.replicate ops.size false) [] s = some s') (hv : AllP s'.vc) (k : ∀ a' w', REb mk D w0 K0 sz b s' a' w' → Q .normal a' w') : (Code.region id ops true).wpIn (Fl ro) 0 P Q a w := by
 refine wpIn_region_any hm ?_
 obtain ⟨size, I, defers, hb, β, F, Rm, hsn, hs⟩ := R
 have hg := Gr.drew w
 exact (runD_ok hT hcl hK hsel hQ ops.size _ [] s (fun _ _ => True) β F I a w.drew h size defers hb (Rm.gr hg) hsn hs (by simp) (fun _ _ _ _ => trivial) (fun _ _ _ _ _ _ _ => trivial) hv k).to
end Go.Proofs.Ytikmdkicccfjpaa
namespace Go.Proofs.Ytikmdkicccfjpaa
open Go.RowKit
inductive Tgt where
 | ends (R : Ending → World → Prop)
 | arr (l : Nat) (k : List Item) (Q : Act → World → Prop)
def Tgt.ro : Tgt → Option Nat
 | .ends _ => none
 | .arr l _ _ => some l
def Tgt.met (P : Program) (f : FuncId) (b : Frame) (cs : List Frame) : Tgt → Machine → Prop
 | .ends R, s => ∃ e w' fr, R e w' ∧ Comes P s (lone fr cs w') e ∧ fr.fn = f ∧ fr.leaving P w' e
 | .arr _ k Q, s => ∃ a' w', Q a' w' ∧ Steps P s (lone (b.atR a' k) cs w')
theorem Tgt.met.of {P : Program} {f : FuncId} {b : Frame} {cs : List Frame} {G : Tgt} {s s' : Machine} (h : Steps P s s') (g : G.met P f b cs s') : G.met P f b cs s := by
 cases G with
 | ends R => obtain ⟨e, w', fr, h1, h2, h3⟩ := g; exact ⟨e, w', fr, h1, .of_steps h h2, h3⟩
 | arr l k Q => obtain ⟨a', w', h1, h2⟩ := g; exact ⟨a', w', h1, h.trans h2⟩
def Goes (P : Program) (f : FuncId) (todo : List Item) (R : Tgt) (a : Act) (w : World) : Prop :=
 ∀ (b : Frame) (cs : List Frame), b.fn = f → b.kind = .normal → b.roundOf = R.ro → R.met P f b cs (lone (b.atR a todo) cs w)
section
variable {mk : Bool} {P : Program} {f : FuncId} {R : Tgt} {Re : Ending → World → Prop} {a a' : Act} {w w' : World} {todo todo' : List Item}
theorem Goes.step (h : ∀ (b : Frame) cs, Go.step P (lone (b.atR a todo) cs w) = .next (lone (b.atR a' todo') cs w')) (g : Goes P f todo' R a' w') : Goes P f todo R a w :=
 fun b cs hb hk hr => (g b cs hb hk hr).of (.one (h b cs))
theorem Goes.code {c : Code} {k : List Item} (h : c.wpIn (Fl R.ro) 0 P (fun e a w => e = .normal ∧ Goes P f k R a w) a w) : Goes P f (.code c :: k) R a w := by
 intro b cs hb hk hr
 obtain ⟨e, a1, w1, ⟨rfl, hg⟩, harr⟩ := h b k cs hr trivial (fun d hd => by cases hd)
 exact (hg b cs hb hk hr).of (stepsIn_wide.1 harr)
theorem Goes.ret {fn : Func} {k : List Item} (hf : P.funcs[f]? = some fn) (hd : a.defers = []) {v : Value} (hr : (results fn a.tmps).run P w = .ok v w) (h : Re (.returned v) w) : Goes P f (.code .ret :: k) (.ends Re) a w := by
 intro b cs hb hk hro
 rw [Frame.atR_of_none hro]
 exact ⟨.returned v, w, { b.at a (.code .ret :: k) with mode := .returning }, h, .of_steps (.one step_ret) (Steps.refl P _), hb, rfl, hd, hk, fn, by rw [← hb] at hf; exact hf, hr⟩
theorem Goes.fin {fn : Func} (hf : P.funcs[f]? = some fn) (hd : a.defers = []) {v : Value} (hr : (results fn a.tmps).run P w = .ok v w) (h : Re (.returned v) w) : Goes P f [] (.ends Re) a w := by
 intro b cs hb hk hro
 rw [Frame.atR_of_none hro]
 exact ⟨.returned v, w, { b.at a [] with mode := .returning }, h, .of_steps (.one step_end) (Steps.refl P _), hb, rfl, hd, hk, fn, by rw [← hb] at hf; exact hf, hr⟩
theorem Goes.arrive {l : Nat} {k : List Item} {Q : Act → World → Prop} (h : Q a w) : Goes P f k (.arr l k Q) a w := fun _ _ _ _ _ => ⟨a, w, h, Steps.refl P _⟩
theorem calls_of_goes {fn : Func} {c : Code} {args : Array Value} (hf : P.funcs[f]? = some fn) (hb : fn.body = some c) (h : Goes P f [.code c] (.ends Re) { tmps := args ++ Array.replicate (fn.ntmps - args.size) undef, defers := [] } w) : Calls P f args w Re := by
 intro cs
 let b : Frame := { (default : Frame) with fn := f, kind := .normal, roundOf := none }
 have henter : Frame.enter P f args .normal = b.atR { tmps := args ++ Array.replicate (fn.ntmps - args.size) undef, defers := [] } [.code c] := by
  simp [Frame.enter, Frame.atR, hf, hb, b]
 rw [henter]
 exact h b cs rfl rfl rfl
theorem Goes.loop {c : Code} {k : List Item} (h : Goes P f (.code c :: .inLoop c :: k) R a w) : Goes P f (.code (.loop c) :: k) R a w := Goes.step (fun _ _ => stepR_loop) h
theorem Goes.again {c : Code} {k : List Item} (h : Goes P f (.code c :: .inLoop c :: k) R a w) : Goes P f (.inLoop c :: k) R a w := Goes.step (fun _ _ => stepR_inLoop) h
theorem Goes.rounds {Φ : Nat → Act → World → Prop} (n : Nat) (h : ∀ i, i ≤ n → (i < n → ∀ a w, Φ (i + 1) a w → Goes P f todo R a w) → ∀ a w, Φ i a w → Goes P f todo R a w) {i : Nat} (hi : i ≤ n) (h0 : Φ i a w) : Goes P f todo R a w := by
 have key : ∀ m i, i ≤ n → n - i = m → ∀ a w, Φ i a w → Goes P f todo R a w := by
  intro m
  induction m with
  | zero => intro i hi hm; exact h i hi fun hlt => by omega
  | succ m ih => intro i hi hm; exact h i hi fun hlt => ih (i + 1) hlt (by omega)
 exact key _ i hi rfl a w h0
end
abbrev Tbl := List (Nat × List (Nat × Orc))
def getT : Tbl → Nat → List (Nat × Orc)
 | [], _ => []
 | (k, v) :: r, s => bif k.beq s then v else getT r s
def runReg (P : Program) (T : Tab) (cl : Walker) (sz : Nat) (ops : Array Oper) (draw : Bool) (oc : List (Nat × Orc)) (s : RS) : Option RS :=
 bif draw then (bif Region.noSelect ops then runD P T cl sz ops oc ops.size (Array.replicate ops.size false) [] s else none)
 else runOps P T cl sz ops ops.toList 0 oc s
def runC (P : Program) (T : Tab) (cl : Walker) (sz : Nat) (tb : Tbl) : Nat → List Item → RS → Option (List Item × RS)
 | 0, todo, s => some (todo, s)
 | n + 1, todo, s =>
  match todo with
  | .code .skip :: k => runC P T cl sz tb n k s
  | .code (.label _) :: k => runC P T cl sz tb n k s
  | .inBlock _ :: k => runC P T cl sz tb n k s
  | .code (.seq x y) :: k => runC P T cl sz tb n (.code x :: .code y :: k) s
  | .code (.cond c x y) :: k => (match boolA (evA s.E c) with
   | some true => runC P T cl sz tb n (.code x :: k) s
   | some false => runC P T cl sz tb n (.code y :: k) s
   | none => some (todo, s))
  | .code (.block id c) :: k => runC P T cl sz tb n (.code c :: .inBlock id :: k) s
  | .code (.exit id) :: k => (match exitTo id k with
   | some k' => runC P T cl sz tb n k' s
   | none => none)
  | .code (.region id ops draw) :: k => (match runReg P T cl sz ops draw (getT tb id) s with
   | some s' => runC P T cl sz tb n k s'
   | none => none)
  | _ => some (todo, s)
variable {mk : Bool} {P : Program} {T : Tab} {cl : Walker} {f : FuncId} {R : Tgt} {a : Act} {w : World} {D : List Nat} {w0 : World} {K0 : World → Prop} {E : List (Nat × AV)} {M : List Blk} {sz : Nat} {tb : Tbl} {todo todo' : List Item}
theorem runReg_vc {ops : Array Oper} {draw : Bool} {oc : List (Nat × Orc)} {s s' : RS} (h : runReg P T cl sz ops draw oc s = some s') (hv : AllP s'.vc) : AllP s.vc := by
 unfold runReg at h
 cases draw with
 | false => simp only [cond_false] at h; exact run_vc _ _ _ _ h hv
 | true =>
  simp only [cond_true] at h
  cases hs : Region.noSelect ops with
  | false => simp [hs] at h
  | true => simp only [hs, cond_true] at h; exact runD_vc _ _ _ _ h hv
theorem runC_vc : ∀ (n : Nat) (todo : List Item) (s : RS) {todo' : List Item} {s' : RS}, runC P T cl sz tb n todo s = some (todo', s') → AllP s'.vc → AllP s.vc := by
 intro n
 induction n with
 | zero => intro todo s todo' s' h hv; simp only [runC, Option.some.injEq, Prod.mk.injEq] at h; obtain ⟨-, rfl⟩ := h; exact hv
 | succ n ih =>
  intro todo s todo' s' h hv
  unfold runC at h
  split at h
  ·exact ih _ _ h hv
  ·exact ih _ _ h hv
  ·exact ih _ _ h hv
  ·exact ih _ _ h hv
  ·split at h
   ·exact ih _ _ h hv
   ·exact ih _ _ h hv
   ·simp only [Option.some.injEq, Prod.mk.injEq] at h; obtain ⟨-, rfl⟩ := h; exact hv
  ·exact ih _ _ h hv
  ·split at h
   ·exact ih _ _ h hv
   ·simp at h
  ·split at h
   ·rename_i hr; exact runReg_vc hr (ih _ _ h hv)
   ·simp at h
  ·simp only [Option.some.injEq, Prod.mk.injEq] at h; obtain ⟨-, rfl⟩ := h; exact hv
theorem REg.bool (R : REg mk D w0 K0 sz E M a w) {c : Operand} {b : Bool} (h : boolA (evA E c) = some b) : a.eval c = .bool b := by
 obtain ⟨-, I, -, β, F, Rm, hs⟩ := R
 unfold boolA at h
 split at h
 ·rename_i c' hv
  simp only [Option.some.injEq] at h; subst h
  cases c with
  | tmp t =>
   have := hs _ _ hv
   generalize a.eval (.tmp t) = y at *
   cases this with | d r => cases r; rfl
  | const v => simp only [evA, Option.some.injEq, AV.d.injEq, DV.v.injEq] at hv; rw [← hv]; rfl
  | global g => simp [evA] at hv
  | func f => simp [evA] at hv
 ·simp at h
theorem segb (hT : tabB P T = true) (hcl : ClOk P cl) (hm : P.follows .mixedOrders = true) (hK : ∀ w, Kp D w0 w → K0 w) {b : Base} : ∀ (n : Nat) {todo : List Item} {s : RS} {a : Act} {w : World} {todo' : List Item} {s' : RS}, runC P T cl sz tb n todo s = some (todo', s') → REb mk D w0 K0 sz b s a w → AllP s'.vc → (∀ a' w', REb mk D w0 K0 sz b s' a' w' → Goes P f todo' R a' w') → Goes P f todo R a w := by
 intro n
 induction n with
 | zero => intro todo s a w todo' s' h r hv k; simp only [runC, Option.some.injEq, Prod.mk.injEq] at h; obtain ⟨rfl, rfl⟩ := h; exact k a w r
 | succ n ih =>
  intro todo s a w todo' s' h r hv k
  unfold runC at h
  split at h
  ·exact Goes.step (fun _ _ => stepR_skip) (ih h r hv k)
  ·exact Goes.step (fun _ _ => stepR_label) (ih h r hv k)
  ·exact Goes.step (fun _ _ => stepR_inBlock) (ih h r hv k)
  ·exact Goes.step (fun _ _ => stepR_seq) (ih h r hv k)
  ·split at h
   ·rename_i hb; exact Goes.step (fun _ _ => stepR_cond (r.re.bool hb)) (ih h r hv k)
   ·rename_i hb; exact Goes.step (fun _ _ => stepR_cond (r.re.bool hb)) (ih h r hv k)
   ·simp only [Option.some.injEq, Prod.mk.injEq] at h; obtain ⟨rfl, rfl⟩ := h; exact k a w r
  ·exact Goes.step (fun _ _ => stepR_block) (ih h r hv k)
  ·split at h
   ·rename_i hx; exact Goes.step (fun _ _ => stepR_exit hx) (ih h r hv k)
   ·simp at h
  ·split at h
   ·rename_i id ops draw k0 _ s1 hr
    refine Goes.code ?_
    have hv1 := runC_vc _ _ _ h hv
    unfold runReg at hr
    cases draw with
    | false =>
     simp only [cond_false] at hr
     exact regA hT hcl hK r _ hr hv1 fun a' w' r' => ⟨rfl, ih h r' hv k⟩
    | true =>
     simp only [cond_true] at hr
     cases hs : Region.noSelect ops with
     | false => simp [hs] at hr
     | true =>
      simp only [hs, cond_true] at hr
      exact regD hT hcl hm hK (by rintro d v c a w ⟨h, -⟩; cases h) r _ hs hr hv1 fun a' w' r' => ⟨rfl, ih h r' hv k⟩
   ·simp at h
  ·simp only [Option.some.injEq, Prod.mk.injEq] at h; obtain ⟨rfl, rfl⟩ := h; exact k a w r
theorem seg (hT : tabB P T = true) (hcl : ClOk P cl) (hm : P.follows .mixedOrders = true) (hK : ∀ w, Kp D w0 w → K0 w) (n : Nat) {vc : List Prop} {s' : RS} (h : runC P T cl sz tb n todo ⟨vc, E, M, [], []⟩ = some (todo', s')) (r : REg mk D w0 K0 sz E M a w) (hv : AllP s'.vc) (k : ∀ a' w', REg mk D w0 K0 sz s'.E s'.M a' w' → Goes P f todo' R a' w') : Goes P f todo R a w :=
 let ⟨_, rb⟩ := r.b vc
 segb hT hcl hm hK n h rb hv fun a' w' r' => k a' w' r'.re
end Go.Proofs.Ytikmdkicccfjpaa
namespace Go.Proofs.Ytikmdkicccfjpaa
open Go.RowKit
def RetAe (w : World) (K : World → Prop) (x : DV) : Ending → World → Prop := RetN w fun r H => ∃ Ho Hi, H = Ho ++ Hi ∧ DRel (fun w => K w ∧ Holds w Hi) x r Ho
abbrev RetA (w : World) (K : World → Prop) (x : DV) : Tgt := .ends (RetAe w K x)
def argsA : List AV → Nat → List (Nat × AV)
 | [], _ => []
 | v :: r, i => (i, v) :: argsA r (i + 1)
theorem argsA_mem : ∀ (vs : List AV) (i : Nat) (x : Nat × AV), x ∈ argsA vs i → i ≤ x.1 ∧ vs[x.1 - i]? = some x.2 := by
 intro vs
 induction vs with
 | nil => intro i x hx; simp [argsA] at hx
 | cons v r ih =>
  intro i x hx
  simp only [argsA, List.mem_cons] at hx
  rcases hx with e | e
  ·subst e; simp
  ·obtain ⟨h1, h2⟩ := ih (i + 1) x e
   refine ⟨by omega, ?_⟩
   rw [show x.1 - i = (x.1 - (i + 1)) + 1 by omega]; simpa using h2
variable {mk : Bool} {P : Program} {T : Tab} {cl : Walker} {f : FuncId} {R : Tgt} {a : Act} {w : World} {D : List Nat} {w0 : World} {K0 : World → Prop} {E : List (Nat × AV)} {M : List Blk} {β : Beta} {F : Nat → Frag} {I X : Frag} {sz : Nat} {tb : Tbl} {todo todo' : List Item}
theorem Con.intro {fn : Func} {c : Code} {args : List AV} {x : DV} (hcall : callable P f = true) (hf : P.funcs[f]? = some fn) (hb : fn.body = some c) (n : Nat) (hn : fn.ntmps = n) (hle : Nat.ble args.length n = true)
  (h : ∀ (w0 : World) (K : World → Prop) (a : Act), (∀ w, Kp [] w0 w → K w) → RE' [] w0 K n (argsA args 0) [] a w0 → Goes P f [.code c] (RetA w0 K x) a w0) : Con P f args x := by
 refine ⟨hcall, fun w K ys hK hl hr => ?_⟩
 have hle := Nat.le_of_ble_eq_true hle
 refine calls_of_goes hf hb (h w K _ (fun w' k => hK w' k.to_gr) ⟨by simp; omega, [], rfl, [], fun _ => [], ⟨rfl, by simp, by simpa using St.none w⟩, ?_⟩)
 intro t v hv
 obtain ⟨y, rfl, rfl, hy⟩ : ∃ y : Nat × AV, y.1 = t ∧ y.2 = v ∧ y ∈ argsA args 0 := ⟨(t, v), rfl, rfl, lookA_mem hv⟩
 obtain ⟨-, h2⟩ := argsA_mem args 0 y hy
 simp only [Nat.sub_zero] at h2
 obtain ⟨hlt, -⟩ := List.getElem?_eq_some_iff.1 h2
 have hys : ys[y.1]? = some ys[y.1] := List.getElem?_eq_getElem (by omega)
 have he : ({ tmps := ys.toArray ++ Array.replicate (fn.ntmps - ys.toArray.size) undef, defers := [] } : Act).eval (.tmp y.1) = ys[y.1] := by
  have : y.1 < ys.length := by omega
  simp [Act.eval, Array.getD_eq_getD_getElem?, Array.getElem?_append, this]
 rw [he]
 exact (hr y.1 y.2 _ h2 hys).mono (fun w hw => hw.1) (Ext.refl _)
def resA (T : Tab) (E : List (Nat × AV)) (M : List Blk) : List ResultVar → Option (List AV)
 | [] => some []
 | .tmp t :: r => (match lookA E t, resA T E M r with | some v, some l => some (v :: l) | _, _ => none)
 | .cell t ty :: r => (match lookA E t, resA T E M r with
  | some (.pt u o), some l => (match M[u]? with | some (.bx _ cells) => (match ldA T ty cells o with | some v => some (v :: l) | none => none) | _ => none)
  | _, _ => none)
theorem resA_ok (hT : tabB P T = true) (R : RM D w0 K0 M β F I w) (hs : ∀ t v, lookA E t = some v → ARel (fun w => K0 w ∧ Holds w I) β v (a.eval (.tmp t))) : ∀ {rs : List ResultVar} {l : List AV}, resA T E M rs = some l → ∃ ys, resOk P w a rs ys ∧ ys.length = l.length ∧ ∀ (j : Nat) c y, l[j]? = some c → ys[j]? = some y → ARel (fun w => K0 w ∧ Holds w I) β c y
 | [], l, h => by simp only [resA, Option.some.injEq] at h; subst h; exact ⟨[], trivial, rfl, by simp⟩
 | .tmp t :: r, l, h => by
  unfold resA at h
  split at h
  ·rename_i v l' h1 h2
   simp only [Option.some.injEq] at h; subst h
   obtain ⟨ys, e1, e2, e3⟩ := resA_ok hT R hs h2
   refine ⟨a.eval (.tmp t) :: ys, ⟨rfl, e1⟩, by simp [e2], ?_⟩
   intro j c y h3 h4
   cases j with
   | zero => simp at h3 h4; subst h3 h4; exact hs _ _ h1
   | succ j => simp at h3 h4; exact e3 j c y h3 h4
  ·simp at h
 | .cell t ty :: r, l, h => by
  unfold resA at h
  split at h
  ·rename_i u o l' h1 h2
   split at h
   ·rename_i T0 cells hM
    split at h
    ·rename_i v hld
     simp only [Option.some.injEq] at h; subst h
     obtain ⟨ys, e1, e2, e3⟩ := resA_ok hT R hs h2
     have hr := hs _ _ h1
     generalize hy : a.eval (.tmp t) = y0 at hr
     cases hr with
     | pt hb =>
      obtain ⟨H, hF, hB, hH⟩ := R.at hM
      cases hB with
      | bx hb' zs hl hr =>
       rw [hb] at hb'; cases hb'
       obtain ⟨y', g1, g2⟩ := ldA_ok (d := none) (ty := 0) (pos := "") (aft := #[]) (gd := none) hT (x := .tmp t) (ρ := a.eval) (a := ⟨_, 0, none⟩) (R := ARel (fun w => K0 w ∧ Holds w I) β) (fun l ys => ARel.ag ys) hld (hy.trans (by rw [add_eq, Nat.zero_add])) hl hr
       have g3 := g2 w fun j z hj => by rw [add_eq, cell_of hH.one, Nat.zero_add]; simpa using hj
       refine ⟨y' :: ys, ⟨⟨_, hy, ?_⟩, e1⟩, by simp [e2], ?_⟩
       ·simp only [execOp, hy, Sem.run_bind, Instr.loadAt, Instr.sureAddr] at g3
        cases hv : (loadVar ty _).run P w with
        | ok q w' => rw [Sem.run_pure, Result.andThen_ok, hv] at g3; simp at g3; obtain ⟨rfl, rfl⟩ := g3; rfl
        | halt q w' => rw [Sem.run_pure, Result.andThen_ok, hv] at g3; simp [Result.andThen] at g3
       ·intro j c y h3 h4
        cases j with
        | zero => simp at h3 h4; subst h3 h4; exact g1
        | succ j => simp at h3 h4; exact e3 j c y h3 h4
    ·simp at h
   ·simp at h
  ·simp at h
def oneX : List DV → DV
 | [x] => x
 | l => .tu l
theorem back (hT : tabB P T = true) {fn : Func} (hf : P.funcs[f]? = some fn) (r : RE' [] w0 K0 sz E M a w) {l : List AV} {vc : List Prop} {xs : List DV} {M' : List Blk} {x : DV} (h1 : resA T E M fn.results.toList = some l) (h2 : pack2L M l = some (vc, xs, M')) (hv : AllP vc) (hx : oneX xs = x) :
  ∃ v, (results fn a.tmps).run P w = .ok v w ∧ RetAe w0 K0 x (.returned v) w := by
 obtain ⟨-, I, -, β, F, Rm, hs⟩ := r
 obtain ⟨ys, e1, e2, e3⟩ := resA_ok hT Rm hs h1
 obtain ⟨F', H, R', d⟩ := pack2L_ok Rm.x h2 hv e2 e3
 refine ⟨_, res_run rfl e1, _, rfl, R'.st.kp.to_gr, H ++ I, ⟨H, I, rfl, ?_⟩, ?_⟩
 ·subst hx
  have hl := d.len
  cases d with
  | nil => exact .tu [] (fun _ => []) rfl (by simp)
  | cons h r =>
   cases r with
   | nil => simpa [oneX] using h
   | cons h' r' =>
    have dd := DRelL.cons h (DRelL.cons h' r')
    obtain ⟨F2, hF, hG⟩ := dd.to
    rw [hF]
    exact .tu _ F2 dd.len hG
 ·have := R'.st.app_right
  exact (this.perm (by classical rw [List.perm_iff_count]; intro z; simp only [List.count_append, List.count_nil]; omega)).newF
theorem back_ret (hT : tabB P T = true) {fn : Func} (hf : P.funcs[f]? = some fn) {k : List Item} (r : RE' [] w0 K0 sz E M a w) {l : List AV} {vc : List Prop} {xs : List DV} {M' : List Blk} {x : DV} (h1 : resA T E M fn.results.toList = some l) (h2 : pack2L M l = some (vc, xs, M')) (hv : AllP vc) (hx : oneX xs = x) : Goes P f (.code .ret :: k) (RetA w0 K0 x) a w :=
 let ⟨_, h3, h4⟩ := back hT hf r h1 h2 hv hx
 Goes.ret hf (REg.nodef r) h3 h4
theorem back_fin (hT : tabB P T = true) {fn : Func} (hf : P.funcs[f]? = some fn) (r : RE' [] w0 K0 sz E M a w) {l : List AV} {vc : List Prop} {xs : List DV} {M' : List Blk} {x : DV} (h1 : resA T E M fn.results.toList = some l) (h2 : pack2L M l = some (vc, xs, M')) (hv : AllP vc) (hx : oneX xs = x) : Goes P f [] (RetA w0 K0 x) a w :=
 let ⟨_, h3, h4⟩ := back hT hf r h1 h2 hv hx
 Goes.fin hf (REg.nodef r) h3 h4
def oneA : List AV → AV
 | [v] => v
 | l => .tu l
def endA (T : Tab) (rs : List ResultVar) (s : RS) : Option Out :=
 match resA T s.E s.M rs with
 | some l => some ⟨s.vc, oneA l, s.M, s.tc, s.mv, none⟩
 | none => none
def endL : List Item → Option LS
 | [] => some .ready
 | .code .ret :: _ => some .left
 | _ => none
theorem round_of_goes {l : Nat} {tmps : Array Value} {asg body c2 : Code} {Φ : Value → World → Prop} {k2 : List Item} {s2 : LS} (hk2 : endL k2 = some s2)
  (h : Goes P f [.code asg, .beginRound, .code body] (.arr l [.beginRound, .code c2] fun a1 w1 => ∃ w2, (Instr.beginRound l).run P w1 = .ok () w2 ∧ Goes P f [.code c2] (.arr l k2 fun _ w3 => ∃ v w4, (Instr.endRound l s2.pend).run P w3 = .ok v w4 ∧ Φ v w4) a1 w2) { tmps := tmps, defers := [] } w) :
  RoundIn Fence.wide 0 P l f tmps asg body w fun e w' => ∃ v, e = .returned v ∧ Φ v w' := by
 refine ⟨trivial, fun c cs hr => ?_⟩
 let b : Frame := { (default : Frame) with fn := f, kind := .normal, roundOf := some l }
 have hb0 : Frame.round l f tmps asg body .normal = b.atR { tmps := tmps, defers := [] } [.code asg, .beginRound, .code body] := by simp [Frame.round, Frame.atR, b]
 obtain ⟨a1, w1, ⟨w2, hbr, hg⟩, st⟩ := h b (c :: cs) rfl rfl rfl
 obtain ⟨a2, w3, ⟨v, w4, hend, hΦ⟩, st2⟩ := hg b (c :: cs) rfl rfl rfl
 have s1 : Steps P (lone (b.atR a1 [.beginRound, .code c2]) (c :: cs) w1) (lone (b.atR a1 [.code c2]) (c :: cs) w2) := .one (stepR_beginRound rfl hbr)
 have s3 : Steps P (lone (b.atR a2 k2) (c :: cs) w3) (lone (c.finish v) cs w4) := by
  unfold endL at hk2
  split at hk2
  ·simp only [Option.some.injEq] at hk2; subst hk2; exact .one (stepR_round_end rfl rfl hend)
  ·simp only [Option.some.injEq] at hk2; subst hk2; exact .one (stepR_round_ret rfl rfl hend)
  ·simp at hk2
 rw [hb0]
 exact ⟨.returned v, w4, ⟨v, rfl, hΦ⟩, stepsIn_wide.2 (((st.trans s1).trans st2).trans s3)⟩
theorem run_begin {l : Nat} {r : Loop} (h : w.heap[l]? = some (.loop r)) (hs : r.state = .ready) : (Instr.beginRound l).run P w = .ok () (setB w l (.loop { r with state := .busy })) := by
 unfold Instr.beginRound Instr.getLoop
 simp only [Sem.run_bind, run_getA h rfl, Result.andThen_ok, Sem.run_pure, run_setA h rfl, hs]
def LS.on : LS → Bool
 | .left => false
 | _ => true
theorem run_endR {l : Nat} {r : Loop} {k2 : List Item} {s2 : LS} (hk2 : endL k2 = some s2) (h : w.heap[l]? = some (.loop r)) : (Instr.endRound l s2.pend).run P w = .ok (.bool s2.on) (setB w l (.loop { r with state := s2.state, pending := s2.pend })) := by
 unfold Instr.endRound Instr.getLoop
 simp only [Sem.run_bind, run_getA h rfl, Result.andThen_ok, Sem.run_pure, run_setA h rfl]
 unfold endL at hk2
 split at hk2
 ·simp only [Option.some.injEq] at hk2; subst hk2; rfl
 ·simp only [Option.some.injEq] at hk2; subst hk2; rfl
 ·simp at hk2
def setPs : List (Tmp × Value) → Array Value → Array Value
 | [], tm => tm
 | (t, v) :: r, tm => setPs r (tm.setIfInBounds t v)
theorem setPs_size : ∀ (l : List (Tmp × Value)) (tm : Array Value), (setPs l tm).size = tm.size
 | [], _ => rfl
 | (t, v) :: r, tm => by rw [setPs, setPs_size r]; simp
theorem setPs_other : ∀ (l : List (Tmp × Value)) (tm : Array Value) (t : Nat), t ∉ l.map (·.1) → (setPs l tm).getD t undef = tm.getD t undef
 | [], _, _, _ => rfl
 | (s, v) :: r, tm, t, h => by
  simp only [List.map_cons, List.mem_cons, not_or] at h
  rw [setPs, setPs_other r _ t h.2]
  simp only [Array.getD_eq_getD_getElem?, Array.getElem?_setIfInBounds]
  rw [if_neg (fun e => h.1 e.symm)]
theorem setPs_at : ∀ (l : List (Tmp × Value)) (tm : Array Value) (t : Nat) (v : Value), (l.map (·.1)).Nodup → (∀ x ∈ l, x.1 < tm.size) → (t, v) ∈ l → (setPs l tm).getD t undef = v
 | (s, u) :: r, tm, t, v, hn, hlt, h => by
  simp only [List.map_cons, List.nodup_cons] at hn
  rw [setPs]
  rcases List.mem_cons.1 h with e | h
  ·cases e
   rw [setPs_other r _ _ hn.1]
   have hs := hlt (s, u) (by simp)
   simp only at hs
   simp [Array.getD_eq_getD_getElem?, hs]
  ·exact setPs_at r _ t v hn.2 (fun x hx => by simpa using hlt x (List.mem_cons_of_mem _ hx)) h
def yieldW (P : Program) (T : Tab) (cl : Walker) (n : Nat) (tb : Tbl) (u : Nat) (args : List AV) (M : List Blk) : Option Out :=
 match M[u]? with
 | some (.lp .ready f sz E rf) => bif args.length.beq rf.ps.toList.length && rf.ps.toList.all (·.blt sz) && nodupB rf.ps.toList then
  (match runC P T cl sz tb n [.code rf.asg, .beginRound, .code rf.body] ⟨[], rf.ps.toList.zip args ++ E, M, [], []⟩ with
  | some ([.beginRound, .code c2], s1) => (match s1.M[u]? with
   | some (.lp .ready f2 sz2 E2 rf2) => bif f2.beq f && !(s1.mv.elem u) then (match runC P T cl sz tb n [.code c2] ⟨s1.vc, s1.E, s1.M.set u (.lp .busy f2 sz2 E2 rf2), u :: s1.tc, s1.mv⟩ with
    | some (k2, s2) => (match endL k2, s2.M[u]? with
     | some ls, some (.lp .busy f3 sz3 E3 rf3) => bif !(s2.mv.elem u) then some ⟨s2.vc, .d (.v (.bool ls.on)), s2.M.set u (.lp ls f3 sz3 E3 rf3), u :: s2.tc, s2.mv, none⟩ else none
     | _, _ => none)
    | _ => none) else none
   | _ => none)
  | _ => none) else none
 | _ => none
def walk (P : Program) (T : Tab) : Nat → Walker
 | 0 => fun _ _ _ _ => none
 | d + 1 => fun c args M o => match c, o with
  | .yl u, .into n tb => yieldW P T (walk P T d) n tb u args M
  | .fn f, .into n tb => (bif callable P f then (match P.funcs[f]? with
   | some fn => (bif Nat.ble args.length fn.ntmps then (match fn.body with
    | some c => (match runC P T (walk P T d) fn.ntmps tb n [.code c] ⟨[], argsA args 0, M, [], []⟩ with
     | some (.code .ret :: _, s) => endA T fn.results.toList s
     | some ([], s) => endA T fn.results.toList s
     | _ => none)
    | none => none) else none)
   | none => none) else none)
  | _, _ => none
theorem endA_ok (hT : tabB P T = true) {fn : Func} {s : RS} {out : Out} (h : endA T fn.results.toList s = some out) {b : Base} (r : REb mk D w0 K0 sz b s a w) :
  out.vc = s.vc ∧ out.rd = none ∧ ∃ v, (results fn a.tmps).run P w = .ok v w ∧ ∃ β' F' I', RM D w0 K0 out.M β' F' I' w ∧ ExtB out.mv b.β β' ∧ Grows b.I I' ∧ (∀ u, u < b.m → u ∉ out.tc → F' u = b.F u) ∧ ARel (fun w => K0 w ∧ Holds w I') β' out.av v := by
 unfold endA at h
 split at h
 ·rename_i l hl
  simp only [Option.some.injEq] at h; subst h
  obtain ⟨-, I, -, -, β, F, Rm, hsn, hs⟩ := r
  obtain ⟨ys, e1, e2, e3⟩ := resA_ok hT Rm hs hl
  refine ⟨rfl, rfl, _, res_run rfl e1, β, F, I, Rm, hsn.1, hsn.2.1, hsn.2.2, ?_⟩
  match ys, l, e2, e3 with
  | [], [], _, _ => exact .tu [] rfl (by simp)
  | [y], [v], _, e3 => exact e3 0 v y rfl rfl
  | y :: y' :: ys, v :: v' :: l, e2, e3 => exact .tu _ e2 e3
 ·simp at h
theorem lookA_app_left : ∀ {A E : List (Nat × AV)} {t : Nat} {v : AV}, lookA (A ++ E) t = some v → t ∈ A.map (·.1) → (t, v) ∈ A
 | [], _, _, _, _, h => by simp at h
 | (k, u) :: r, E, t, v, h, hm => by
  rw [List.cons_append] at h
  unfold lookA at h
  cases hk : k.beq t with
  | true => simp only [hk, cond_true, Option.some.injEq] at h; subst h; rw [Nat.eq_of_beq_eq_true hk]; exact List.mem_cons_self
  | false =>
   simp only [hk, cond_false] at h
   refine List.mem_cons_of_mem _ (lookA_app_left h ?_)
   rcases List.mem_cons.1 hm with e | e
   ·exfalso; simp only at e; rw [e] at hk; simp at hk
   ·exact e
theorem mem_zip_of {ps : List Nat} {args : List AV} {ys : List Value} {t : Nat} {v : AV} (h : (t, v) ∈ ps.zip args) (hl : ys.length = args.length) (hr : ∀ (j : Nat) c y, args[j]? = some c → ys[j]? = some y → ARel (fun w => K0 w ∧ Holds w I) β c y) : ∃ y, (t, y) ∈ ps.zip ys ∧ ARel (fun w => K0 w ∧ Holds w I) β v y := by
 obtain ⟨j, hj, e⟩ := List.getElem_of_mem h
 have h1 : (ps.zip args)[j]? = some (t, v) := by rw [List.getElem?_eq_getElem hj, e]
 obtain ⟨a1, a2⟩ := List.getElem?_zip_eq_some.1 h1
 have hlt := (List.getElem?_eq_some_iff.1 a2).1
 have hy : ys[j]? = some ys[j] := List.getElem?_eq_getElem (by omega)
 exact ⟨ys[j], List.mem_of_getElem? (List.getElem?_zip_eq_some.2 ⟨a1, hy⟩), hr j v _ a2 hy⟩
theorem foldl_setPs : ∀ (l : List (Tmp × Value)) (tm : Array Value), l.foldl (fun tmps (x : Tmp × Value) => tmps.setIfInBounds x.1 x.2) tm = setPs l tm
 | [], _ => rfl
 | (t, v) :: r, tm => by rw [List.foldl_cons, foldl_setPs r]; rfl
theorem yieldW_ok (hT : tabB P T = true) (hm : P.follows .mixedOrders = true) (hcl : ClOk P cl) {n : Nat} {tb : Tbl} {u : Nat} {args : List AV} {M : List Blk} {out : Out} (h : yieldW P T cl n tb u args M = some out) : out.rd = none ∧ YieldsA P u args M out := by
 unfold yieldW at h
 split at h
 rotate_left
 ·simp at h
 rename_i f sz E rf hM
 cases hc : (args.length.beq rf.ps.toList.length && rf.ps.toList.all (·.blt sz) && nodupB rf.ps.toList) with
 | false => simp only [hc, cond_false, reduceCtorEq] at h
 | true =>
  simp only [hc, cond_true] at h
  simp only [Bool.and_eq_true] at hc
  obtain ⟨⟨hc1, hc2⟩, hc3⟩ := hc
  have hc1 := Nat.eq_of_beq_eq_true hc1
  split at h
  rotate_left
  ·simp at h
  rename_i c2 s1 hr1
  split at h
  rotate_left
  ·simp at h
  rename_i f2 sz2 E2 rf2 hM1
  cases hf : (f2.beq f && !(s1.mv.elem u)) with
  | false => simp only [hf, cond_false, reduceCtorEq] at h
  | true =>
   simp only [hf, cond_true] at h
   simp only [Bool.and_eq_true, Bool.not_eq_true'] at hf
   obtain ⟨hf2, hmv1⟩ := hf
   obtain rfl := Nat.eq_of_beq_eq_true hf2
   split at h
   rotate_left
   ·simp at h
   rename_i k2 s2 hr2
   split at h
   rotate_left
   ·simp at h
   rename_i ls f3 sz3 E3 rf3 hk2 hM2
   cases hmv2 : (!(s2.mv.elem u)) with
   | false => simp only [hmv2, cond_false, reduceCtorEq] at h
   | true =>
    simp only [hmv2, cond_true, Option.some.injEq] at h; subst h
    refine ⟨rfl, ?_⟩
    intro D w0 K0 β F I w ys l c Rm hK hv hl hrel hβ
    have hv1 : AllP s1.vc := runC_vc n [.code c2] ⟨s1.vc, s1.E, s1.M.set u (.lp .busy f2 sz2 E2 rf2), u :: s1.tc, s1.mv⟩ hr2 hv
    obtain ⟨H, hF, hB, hH⟩ := Rm.at hM
    cases hB with
    | @lp b0 cc f0 sz0 dfr bz E0 rf0 tmps hb hsz hr =>
     rw [hβ] at hb; cases hb
     have hheap := hH.one
     have hlen : rf.ps.size = ys.toArray.size := by
      have e : rf.ps.toList.length = rf.ps.size := Array.length_toList
      have e2 : ys.toArray.size = ys.length := by simp
      omega
     have hy : (Instr.yield l ys.toArray).run P w = .ok (.round l f2 ((rf.ps.zip ys.toArray).foldl (fun tmps (x : Tmp × Value) => tmps.setIfInBounds x.1 x.2) tmps) rf.asg rf.body) w := by
      unfold Instr.yield Instr.getLoop
      simp only [Sem.run_bind, run_getA hheap rfl, Result.andThen_ok, Sem.run_pure]
      rw [if_neg (by simp [hlen])]
      rfl
     refine ⟨f2, _, rf.asg, rf.body, hy, ?_⟩
     have hfold : (rf.ps.zip ys.toArray).foldl (fun tmps (x : Tmp × Value) => tmps.setIfInBounds x.1 x.2) tmps = setPs (rf.ps.toList.zip ys) tmps := by
      rw [← foldl_setPs, ← Array.foldl_toList]; simp
     rw [hfold]
     have hkeys : (rf.ps.toList.zip ys).map (·.1) = rf.ps.toList := List.map_fst_zip (by rw [hl, hc1]; exact Nat.le_refl _)
     have r0 : REb false D w0 K0 sz ⟨β, F, I, M.length⟩ ⟨[], rf.ps.toList.zip args ++ E, M, [], []⟩ { tmps := setPs (rf.ps.toList.zip ys) tmps, defers := [] } w := by
      refine ⟨by rw [setPs_size, hsz], I, rfl, Nat.le_refl _, β, F, Rm, ⟨fun _ _ _ h => h, Grows.refl _, fun _ _ _ => rfl⟩, ?_⟩
      intro t v hv'
      have hmem := lookA_mem hv'
      show ARel _ β v ((setPs (rf.ps.toList.zip ys) tmps).getD t undef)
      by_cases ht : t ∈ rf.ps.toList
      ·have hz : (t, v) ∈ rf.ps.toList.zip args := by
        rcases List.mem_append.1 hmem with h1 | h1
        ·exact h1
        ·exact lookA_app_left hv' (by
          rw [List.map_fst_zip (by omega)]; exact ht)
       obtain ⟨y, hy1, hy2⟩ := mem_zip_of hz hl hrel
       rw [setPs_at _ _ t y (by rw [hkeys]; exact nodupB_ok hc3) (fun x hx => by
        have : x.1 ∈ rf.ps.toList := by rw [← hkeys]; exact List.mem_map_of_mem hx
        have := List.all_eq_true.1 hc2 _ this
        rw [hsz]; simpa [Nat.blt_eq] using this) hy1]
       exact hy2
      ·rcases List.mem_append.1 hmem with h1 | h1
       ·exact absurd (by have := List.mem_map_of_mem (f := fun x : Nat × AV => x.1) h1; rwa [List.map_fst_zip (by omega)] at this) ht
       ·rw [setPs_other _ _ _ (by rw [hkeys]; exact ht)]
        exact hr (t, v) h1
     refine round_of_goes (c2 := c2) hk2 (segb hT hcl hm hK n hr1 r0 hv1 fun a1 w1 r1 => Goes.arrive ?_)
     obtain ⟨z1, I1, z2, z3, β1, F1, Rm1, sn1, hs1⟩ := r1
     obtain ⟨H1, hF1, hB1, hH1⟩ := Rm1.at hM1
     have hβ1 : β1[u]? = some (some ⟨l, 0, none⟩, c) := sn1.1 u _ (by simpa using hmv1) hβ
     cases hB1 with
     | @lp b1 cc1 f1 sz1 dfr1 bz1 E1 rf1 tmps1 hb1 hsz1 hr1' =>
      rw [hβ1] at hb1; cases hb1
      refine ⟨_, run_begin hH1.one rfl, ?_⟩
      have Rm1' := Rm1.set hM1 hF1 (o' := .loop { state := .busy, pending := none, fn := f2, tmps := tmps1, params := rf2.ps, assign := rf2.asg, body := rf2.body, defers := dfr1 }) (blk' := .lp .busy f2 sz2 E2 rf2) (.lp (bz := .busy) (sz := sz2) hβ1 hsz1 hr1')
      have r1' : REb false D w0 K0 sz ⟨β, F, I, M.length⟩ ⟨s1.vc, s1.E, s1.M.set u (.lp .busy f2 sz2 E2 rf2), u :: s1.tc, s1.mv⟩ a1 (setB w1 l (.loop { state := .busy, pending := none, fn := f2, tmps := tmps1, params := rf2.ps, assign := rf2.asg, body := rf2.body, defers := dfr1 })) := by
       refine ⟨z1, I1, z2, by rw [List.length_set]; exact z3, β1, _, Rm1', ⟨sn1.1, sn1.2.1, fun v hv' hn => ?_⟩, hs1⟩
       simp only [List.mem_cons, not_or] at hn
       simp only [updF]; rw [if_neg hn.1]; exact sn1.2.2 v hv' hn.2
      refine segb hT hcl hm hK n hr2 r1' hv fun a2 w2 r2 => Goes.arrive ?_
      obtain ⟨y1, I2, y2, y3, β2, F2, Rm2, sn2, hs2⟩ := r2
      obtain ⟨H2, hF2, hB2, hH2⟩ := Rm2.at hM2
      have hβ2 : β2[u]? = some (some ⟨l, 0, none⟩, c) := sn2.1 u _ (by simpa using hmv2) hβ
      cases hB2 with
      | @lp b2 cc2 f2' sz2' dfr2 bz2 E2' rf2' tmps2 hb2 hsz2 hr2' =>
       rw [hβ2] at hb2; cases hb2
       have Rm2' := Rm2.set hM2 hF2 (o' := .loop { state := ls.state, pending := ls.pend, fn := f3, tmps := tmps2, params := rf3.ps, assign := rf3.asg, body := rf3.body, defers := dfr2 }) (blk' := .lp ls f3 sz3 E3 rf3) (.lp (bz := ls) (sz := sz3) hβ2 hsz2 hr2')
       refine ⟨_, _, run_endR hk2 hH2.one, β2, _, I2, Rm2', sn2.1, sn2.2.1, fun v hv' hn => ?_, .d (.v _)⟩
       simp only [List.mem_cons, not_or] at hn
       simp only [updF]; rw [if_neg hn.1]; exact sn2.2.2 v hv' hn.2
theorem walk_ok (hT : tabB P T = true) (hm : P.follows .mixedOrders = true) : ∀ d, ClOk P (walk P T d) := by
 intro d
 induction d with
 | zero => intro f args M o out h; simp [walk] at h
 | succ d ih =>
  intro f args M o out h
  unfold walk at h
  split at h
  ·exact yieldW_ok hT hm ih h
  ·rename_i f n tb
   cases hc : callable P f with
   | false => simp [hc] at h
   | true =>
    simp only [hc, cond_true] at h
    split at h
    ·rename_i fn hf
     cases hb : Nat.ble args.length fn.ntmps with
     | false => simp [hb] at h
     | true =>
      simp only [hb, cond_true] at h
      have hle := Nat.le_of_ble_eq_true hb
      split at h
      ·rename_i c hbody
       have key : ∀ {todo' : List Item} {s : RS}, runC P T (walk P T d) fn.ntmps tb n [.code c] ⟨[], argsA args 0, M, [], []⟩ = some (todo', s) → endA T fn.results.toList s = some out → (todo' = [] ∨ ∃ k, todo' = .code .ret :: k) → out.rd = none ∧ CallsA P f args M out := by
        intro todo' s hr he htodo
        have hrd : out.rd = none := by
         unfold endA at he
         split at he
         ·simp only [Option.some.injEq] at he; subst he; rfl
         ·simp at he
        refine ⟨hrd, hc, ?_⟩
        intro D w0 K0 β F I w ys Rm hK hv hl hrel
        have hvs : AllP s.vc := by
         unfold endA at he
         split at he
         ·simp only [Option.some.injEq] at he; subst he; exact hv
         ·simp at he
        refine calls_of_goes hf hbody ?_
        have r0 : REb false D w0 K0 fn.ntmps ⟨β, F, I, M.length⟩ ⟨[], argsA args 0, M, [], []⟩ { tmps := ys.toArray ++ Array.replicate (fn.ntmps - ys.toArray.size) undef, defers := [] } w := by
         refine ⟨by simp; omega, I, rfl, Nat.le_refl _, β, F, Rm, ⟨fun _ _ _ h => h, Grows.refl _, fun _ _ _ => rfl⟩, ?_⟩
         intro t v hv'
         obtain ⟨-, h2⟩ := argsA_mem args 0 (t, v) (lookA_mem hv')
         simp only [Nat.sub_zero] at h2
         obtain ⟨hlt, -⟩ := List.getElem?_eq_some_iff.1 h2
         have hys : ys[t]? = some ys[t] := List.getElem?_eq_getElem (by omega)
         have he : ({ tmps := ys.toArray ++ Array.replicate (fn.ntmps - ys.toArray.size) undef, defers := [] } : Act).eval (.tmp t) = ys[t] := by
          have : t < ys.length := by omega
          simp [Act.eval, Array.getD_eq_getD_getElem?, Array.getElem?_append, this]
         rw [he]
         exact hrel t v _ h2 hys
        refine segb hT ih hm hK n hr r0 hvs fun a' w' r' => ?_
        obtain ⟨-, -, v, h3, h4⟩ := endA_ok hT he r'
        rcases htodo with rfl | ⟨k, rfl⟩
        ·exact Goes.fin hf (REb.nodef r') h3 ⟨v, rfl, h4⟩
        ·exact Goes.ret hf (REb.nodef r') h3 ⟨v, rfl, h4⟩
       split at h
       ·rename_i k s hr; exact key hr h (Or.inr ⟨k, rfl⟩)
       ·rename_i s hr; exact key hr h (Or.inl rfl)
       ·simp at h
      ·simp at h
    ·simp at h
  ·simp at h
def Gives (T : Tab) (E : List (Nat × AV)) (M : List Blk) (rs : List ResultVar) (x : DV) : Prop := ∃ l vc xs M', resA T E M rs = some l ∧ pack2L M l = some (vc, xs, M') ∧ AllP vc ∧ oneX xs = x
theorem ret (hT : tabB P T = true) {fn : Func} (hf : P.funcs[f]? = some fn) {k : List Item} {x : DV} (r : RE' [] w0 K0 sz E M a w) (h : Gives T E M fn.results.toList x) : Goes P f (.code .ret :: k) (RetA w0 K0 x) a w :=
 let ⟨_, _, _, _, h1, h2, h3, h4⟩ := h
 back_ret hT hf r h1 h2 h3 h4
theorem fin (hT : tabB P T = true) {fn : Func} (hf : P.funcs[f]? = some fn) {x : DV} (r : RE' [] w0 K0 sz E M a w) (h : Gives T E M fn.results.toList x) : Goes P f [] (RetA w0 K0 x) a w :=
 let ⟨_, _, _, _, h1, h2, h3, h4⟩ := h
 back_fin hT hf r h1 h2 h3 h4
theorem Con.empty {k : Nat} {x : DV} {pre post : List AV} (h : ∀ a c, Con P f (pre ++ .d (.v (.slice a 0 c)) :: post) x) : Con P f (pre ++ .d (.ro k []) :: post) x := by
 refine ⟨(h none 0).1, fun w K ys hK hl hr => ?_⟩
 have hy : ∃ a c, ys[pre.length]? = some (.slice a 0 c) := by
  have hlt : pre.length < ys.length := by rw [hl]; simp
  have h1 := hr pre.length _ _ (by rw [List.getElem?_append_right (Nat.le_refl _), Nat.sub_self]; rfl) (List.getElem?_eq_getElem hlt)
  rw [List.getElem?_eq_getElem hlt]
  generalize ys[pre.length] = y at h1
  cases h1 with | d h1 => cases h1 with | ro X hl hy hs hr => obtain ⟨a, c, rfl, -⟩ := hy; exact ⟨a, c, rfl⟩
 obtain ⟨a, c, hy⟩ := hy
 refine (h a c).2 w K ys hK (by rw [hl]; simp) fun j v y h1 h2 => ?_
 rcases Nat.lt_trichotomy j pre.length with hj | hj | hj
 ·rw [List.getElem?_append_left hj] at h1
  exact hr j v y (by rw [List.getElem?_append_left hj]; exact h1) h2
 ·subst hj
  rw [List.getElem?_append_right (Nat.le_refl _), Nat.sub_self] at h1
  simp only [List.getElem?_cons_zero, Option.some.injEq] at h1; subst h1
  rw [hy, Option.some.injEq] at h2; subst h2
  exact .d (.v _)
 ·rw [List.getElem?_append_right (by omega)] at h1
  have e : j - pre.length = (j - pre.length - 1) + 1 := by omega
  rw [e, List.getElem?_cons_succ] at h1
  exact hr j v y (by rw [List.getElem?_append_right (by omega), e, List.getElem?_cons_succ]; exact h1) h2
theorem Con.nil {args : List AV} (T k : Nat) (h : Con P f args (.v (.slice none 0 0))) : Con P f args (.em T k []) := by
 refine ⟨h.1, fun w K ys hK hl hr => (h.2 w K ys hK hl hr).mono ?_⟩
 rintro e w' ⟨v, rfl, g, H, ⟨Ho, Hi, rfl, hd⟩, n⟩
 cases hd
 refine ⟨_, rfl, g, _, ⟨[], Hi, rfl, ?_⟩, n⟩
 have := DRel.em (K := fun w => K w ∧ Holds w Hi) (T := T) (k := k) (rows := []) (H0 := []) (fun _ => []) (fun _ _ => []) (by simp) (by simpa [lay] using SlRep.nil T k none) (by simp)
 simpa [layF] using this
end Go.Proofs.Ytikmdkicccfjpaa
namespace Go.Proofs.Ytikmdkicccfjpaa
open Go.RowKit
variable {mk : Bool} {P : Program} {T : Tab} {f : FuncId} {R : Tgt} {a : Act} {w : World} {D : List Nat} {w0 : World} {K0 : World → Prop} {E : List (Nat × AV)} {M : List Blk} {β : Beta} {F : Nat → Frag} {I X : Frag} {sz : Nat} {tb : Tbl} {todo todo' : List Item}
def finA (T : Tab) (rs : List ResultVar) (s : RS) : Option (Prop × DV) :=
 match resA T s.E s.M rs with
 | some l => (match pack2L s.M l with | some (vc, xs, _) => some (AllP (s.vc ++ vc), oneX xs) | none => none)
 | none => none
def outRet (P : Program) (T : Tab) (sz : Nat) (rs : List ResultVar) (tb : Tbl) (n : Nat) (todo : List Item) (E : List (Nat × AV)) (M : List Blk) : Option (Prop × DV) :=
 match runC P T (walk P T 3) sz tb n todo ⟨[], E, M, [], []⟩ with
 | some (.code .ret :: _, s) => finA T rs s
 | some ([], s) => finA T rs s
 | _ => none
theorem finA_ok {rs : List ResultVar} {s : RS} {A : Prop} {x : DV} (h : finA T rs s = some (A, x)) (hA : A) : AllP s.vc ∧ Gives T s.E s.M rs x := by
 unfold finA at h
 split at h
 ·rename_i l hl
  split at h
  ·rename_i vc xs M' hp
   simp only [Option.some.injEq, Prod.mk.injEq] at h
   obtain ⟨rfl, hx⟩ := h
   rw [AllP.app] at hA
   exact ⟨hA.1, l, vc, xs, M', hl, hp, hA.2, hx⟩
  ·simp at h
 ·simp at h
theorem toRet (hT : tabB P T = true) (hm : P.follows .mixedOrders = true) (hK : ∀ w, Kp [] w0 w → K0 w) {fn : Func} (hf : P.funcs[f]? = some fn) (tb : Tbl) (n : Nat) {x : DV} {A : Prop} (r : RE' [] w0 K0 sz E M a w)
  (h : outRet P T sz fn.results.toList tb n todo E M = some (A, x)) (hA : A) : Goes P f todo (RetA w0 K0 x) a w := by
 unfold outRet at h
 split at h
 ·rename_i k s hr
  obtain ⟨h1, h2⟩ := finA_ok h hA
  exact seg hT (walk_ok hT hm 3) hm hK n hr r h1 fun a' w' r' => ret hT hf r' h2
 ·rename_i s hr
  obtain ⟨h1, h2⟩ := finA_ok h hA
  exact seg hT (walk_ok hT hm 3) hm hK n hr r h1 fun a' w' r' => fin hT hf r' h2
 ·simp at h
theorem REg.ren (r : REg mk D w0 K0 sz E M a w) {l ts : List Nat} {M' : List Blk} {E' : List (Nat × AV)} (hn : nodupB l = true) (hM : renM l M l = some M') (hE : renE l E ts = some E') : REg mk D w0 K0 sz E' M' a w := by
 obtain ⟨h1, I, h2, β, F, Rm, hs⟩ := r
 obtain ⟨e1, e2⟩ := renM_at hM
 have hlt : ∀ u ∈ l, u < M.length := by
  intro u hu
  obtain ⟨i, hi, rfl⟩ := List.getElem_of_mem hu
  obtain ⟨u', b0, g1, g2, -⟩ := e2 i M'[i] (List.getElem?_eq_getElem (by omega))
  rw [List.getElem?_eq_getElem hi, Option.some.injEq] at g1
  rw [g1]; exact lt_of_some g2
 obtain ⟨rest, hst⟩ := give_all (nodupB_ok hn) hlt Rm.x
 refine ⟨h1, I, h2, renBeta β l, pickF F l, ⟨by rw [renBeta_len, e1], ?_, ?_⟩, renE_ok hs hE⟩
 ·intro i b hb
  obtain ⟨u, b0, g1, g2, g3⟩ := e2 i b hb
  rw [pickF_at g1]; exact renB_ok g1 g3 (Rm.blk u b0 g2)
 ·rw [e1, flat_idx]
  have := hst.app_right
  exact this.perm (by classical rw [List.perm_iff_count]; intro z; simp only [List.count_append, List.count_nil]; omega)
def loopsOf : Code → List Item → List (List Item)
 | .seq x y, k => loopsOf x (.code y :: k) ++ loopsOf y k
 | .cond _ x y, k => loopsOf x k ++ loopsOf y k
 | .block id c, k => loopsOf c (.inBlock id :: k)
 | .loop c, k => (.code c :: .inLoop c :: k) :: loopsOf c (.inLoop c :: k)
 | _, _ => []
def hd (fn : Func) (n : Nat) : List Item :=
 match fn.body with
 | some c => (match (loopsOf c [])[n]? with | some t => t | none => [])
 | none => []
def anewA (l ts : List Nat) (t : List Item) (s : RS) : Option (List Item × Prop × List (Nat × AV) × List Blk) :=
 match renM l s.M l, renE l s.E ts with
 | some M', some E' => some (t, AllP s.vc, E', M')
 | _, _ => none
def outTo (P : Program) (T : Tab) (sz : Nat) (tb : Tbl) (n : Nat) (l ts : List Nat) (todo : List Item) (E : List (Nat × AV)) (M : List Blk) : Option (List Item × Prop × List (Nat × AV) × List Blk) :=
 bif nodupB l then (match runC P T (walk P T 3) sz tb n todo ⟨[], E, M, [], []⟩ with
 | some (.code (.loop c) :: k, s) => anewA l ts (.code c :: .inLoop c :: k) s
 | some (.inLoop c :: k, s) => anewA l ts (.code c :: .inLoop c :: k) s
 | _ => none) else none
theorem anewA_ok {l ts : List Nat} {t t' : List Item} {s : RS} {A : Prop} {E' : List (Nat × AV)} {M' : List Blk} (h : anewA l ts t s = some (t', A, E', M')) : t = t' ∧ AllP s.vc = A ∧ renM l s.M l = some M' ∧ renE l s.E ts = some E' := by
 unfold anewA at h
 split at h
 ·rename_i h1 h2
  simp only [Option.some.injEq, Prod.mk.injEq] at h
  obtain ⟨rfl, hA, rfl, rfl⟩ := h
  exact ⟨rfl, hA, h1, h2⟩
 ·simp at h
theorem toHead (hT : tabB P T = true) (hm : P.follows .mixedOrders = true) (hK : ∀ w, Kp D w0 w → K0 w) (tb : Tbl) (n : Nat) (l ts : List Nat) {A : Prop} {E' : List (Nat × AV)} {M' : List Blk} (r : REg mk D w0 K0 sz E M a w)
  (h : outTo P T sz tb n l ts todo E M = some (todo', A, E', M')) (hA : A) (k : ∀ a' w', REg mk D w0 K0 sz E' M' a' w' → Goes P f todo' R a' w') : Goes P f todo R a w := by
 unfold outTo at h
 cases hn : nodupB l with
 | false => simp [hn] at h
 | true =>
  simp only [hn, cond_true] at h
  split at h
  ·rename_i c k' s hr
   obtain ⟨rfl, rfl, h3, h4⟩ := anewA_ok h
   exact seg hT (walk_ok hT hm 3) hm hK n hr r hA fun a' w' r' => Goes.loop (k a' w' (r'.ren hn h3 h4))
  ·rename_i c k' s hr
   obtain ⟨rfl, rfl, h3, h4⟩ := anewA_ok h
   exact seg hT (walk_ok hT hm 3) hm hK n hr r hA fun a' w' r' => Goes.again (k a' w' (r'.ren hn h3 h4))
  ·simp at h
end Go.Proofs.Ytikmdkicccfjpaa
namespace Go.Proofs.Ytikmdkicccfjpaa
open Go.RowKit
def tb : Tab := [
 (30, ⟨.sr [0, 1] [3, 28], 2, 16, [.int .i64 0, .int .u64 0]⟩),
 (3, ⟨.it .i64, 1, 8, [.int .i64 0]⟩),
 (33, ⟨.sr [0, 2, 3] [30, 28, 31], 4, 48, [.int .i64 0, .int .u64 0, .int .u64 0, .slice none 0 0]⟩),
 (31, ⟨.sl 30, 1, 24, [.slice none 0 0]⟩),
 (22, ⟨.sl 33, 1, 24, [.slice none 0 0]⟩),
 (44, ⟨.sl 3, 1, 24, [.slice none 0 0]⟩),
 (28, ⟨.it .u64, 1, 8, [.int .u64 0]⟩),
 (68, ⟨.sr [0, 1, 3, 4, 5, 6] [3, 30, 3, 65, 66, 33], 10, 128, [.int .i64 0, .int .i64 0, .int .u64 0, .int .i64 0, .slice none 0 0, .slice none 0 0, .int .i64 0, .int .u64 0, .int .u64 0, .slice none 0 0]⟩),
 (85, ⟨.sr [0, 1, 2, 3] [3, 28, 28, 28], 4, 32, [.int .i64 0, .int .u64 0, .int .u64 0, .int .u64 0]⟩),
 (72, ⟨.pl, 1, 8, [.nilFunc]⟩),
 (100, ⟨.it .u64, 1, 8, [.int .u64 0]⟩),
 (65, ⟨.sl 85, 1, 24, [.slice none 0 0]⟩),
 (104, ⟨.pl, 1, 8, [.pointer none]⟩),
 (57, ⟨.mp 30 3, 1, 8, [.map none]⟩),
 (5, ⟨.it .u8, 1, 1, [.int .u8 0]⟩),
 (76, ⟨.it .u64, 1, 8, [.int .u64 0]⟩),
 (66, ⟨.sl 5, 1, 24, [.slice none 0 0]⟩),
 (53, ⟨.ar 5 33, 20, 240, [.int .i64 0, .int .u64 0, .int .u64 0, .slice none 0 0, .int .i64 0, .int .u64 0, .int .u64 0, .slice none 0 0, .int .i64 0, .int .u64 0, .int .u64 0, .slice none 0 0, .int .i64 0, .int .u64 0, .int .u64 0, .slice none 0 0, .int .i64 0, .int .u64 0, .int .u64 0, .slice none 0 0]⟩),
 (4, ⟨.pl, 1, 1, [.bool false]⟩),
 (94, ⟨.it .u32, 1, 4, [.int .u32 0]⟩),
 (9, ⟨.st, 1, 16, [.string .empty]⟩),
 (77, ⟨.pl, 1, 8, [.nilFunc]⟩)]
theorem tk : tabB Try.prog tb = true := by kernel_rfl
theorem tq : Try.prog.follows .mixedOrders = true := by kernel_rfl
end Go.Proofs.Ytikmdkicccfjpaa
namespace Go.Proofs.Ytikmdkicccfjpaa
open Go.RowKit
variable {P : Program}
theorem an {a b : Prop} (h : a) (k : b) : a ∧ b := ⟨h, k⟩
theorem bv {a b : Bool} (h : a = b) : DV.v (.bool a) = .v (.bool b) := by rw [h]
theorem wi {x y : Int} (h : x = y ∧ -9223372036854775808 ≤ y ∧ y < 9223372036854775808) : IntKind.i64.wrap x = y := by
 obtain ⟨rfl, h1, h2⟩ := h; simp [IntKind.wrap, IntKind.signed, IntKind.bits]; omega
theorem wu {x y : Int} (h : x = y ∧ 0 ≤ y ∧ y < 18446744073709551616) : IntKind.u64.wrap x = y := by
 obtain ⟨rfl, h1, h2⟩ := h; simp [IntKind.wrap, IntKind.signed, IntKind.bits]; omega
theorem ne_of_beq_false {a b : Int} (h : (a == b) = false) : a ≠ b := by intro e; subst e; simp at h
theorem eq_of_bne {a b : Int} (h : (a != b) = false) : a = b := by simpa [bne] using h
theorem run_eqInt {t : TypeId} {k : IntKind} {a b : Int} (w : World) (d : Nat) (ht : P.underlying t = some (.int k)) : (Op.equalIn (d + 1) t (.int k a) (.int k b)).run P w = .ok (a == b) w := by
 simp [Op.equalIn, Sem.run_bind, run_underlying ht]
theorem run_eqTwo {d : Nat} {t : TypeId} {f0 f1 : Field} (hu : P.underlying t = some (.struct #[f0, f1])) (hs : P.stoodInHeld t = false) (n0 : f0.name ≠ "_") (n1 : f1.name ≠ "_") {w : World} {xs ys : Array Value} {x0 y0 x1 y1 : Value} {c0 c1 : Bool}
  (p0 : (part f0.type xs f0.offset).run P w = .ok x0 w) (q0 : (part f0.type ys f0.offset).run P w = .ok y0 w) (p1 : (part f1.type xs f1.offset).run P w = .ok x1 w) (q1 : (part f1.type ys f1.offset).run P w = .ok y1 w)
  (e0 : (Op.equalIn d f0.type x0 y0).run P w = .ok c0 w) (e1 : (Op.equalIn d f1.type x1 y1).run P w = .ok c1 w) : (Op.equalIn (d + 1) t (.agg xs) (.agg ys)).run P w = .ok (c0 && c1) w := by
 rw [Op.equalIn]
 simp [Sem.run_bind, run_underlying hu, hs, n0, n1, p0, q0, e0]
 cases c0 <;> simp [Sem.run_bind, p1, q1, e1]
 cases c1 <;> simp
theorem rfN (n : Nat) : n = n := rfl
theorem rfI (n : Int) : n = n := rfl
end Go.Proofs.Ytikmdkicccfjpaa
namespace Go.Proofs.Ytikmdkicccfjpaa
open Go.RowKit
variable {mk : Bool} {P : Program} {T : Tab} {f : FuncId} {R : Tgt} {a : Act} {w : World} {D : List Nat} {w0 : World} {K0 : World → Prop} {E : List (Nat × AV)} {M : List Blk} {β : Beta} {F : Nat → Frag} {I X : Frag} {sz : Nat} {tb : Tbl} {todo todo' : List Item} {b : Base}
def RBg (mk : Bool) (D : List Nat) (w0 : World) (K0 : World → Prop) (sz : Nat) (b : Base) (E : List (Nat × AV)) (M : List Blk) (a : Act) (w : World) : Prop :=
 b.β.length = b.m ∧ ∃ tc, REb mk D w0 K0 sz b ⟨[], E, M, tc, []⟩ a w
abbrev RB (D : List Nat) (w0 : World) (K0 : World → Prop) (sz : Nat) (b : Base) (E : List (Nat × AV)) (M : List Blk) (a : Act) (w : World) : Prop := RBg false D w0 K0 sz b E M a w
def RetMe (D : List Nat) (w0 : World) (K0 : World → Prop) (b : Base) (x : AV) (M' : List Blk) : Ending → World → Prop :=
 fun e w' => ∃ v, e = .returned v ∧ ∃ β' F' I', RM D w0 K0 M' β' F' I' w' ∧ Ext b.β β' ∧ Grows b.I I' ∧ ARel (fun w => K0 w ∧ Holds w I') β' x v
abbrev RetM (D : List Nat) (w0 : World) (K0 : World → Prop) (b : Base) (x : AV) (M' : List Blk) : Tgt := .ends (RetMe D w0 K0 b x M')
theorem ConM.intro {fn : Func} {c : Code} {args : List AV} {x : AV} {M' : List Blk} (hcall : callable P f = true) (hf : P.funcs[f]? = some fn) (hb : fn.body = some c) (n : Nat) (hn : fn.ntmps = n) (hle : Nat.ble args.length n = true)
  (h : ∀ (D : List Nat) (w0 : World) (K0 : World → Prop) (b : Base) (a : Act) (w : World), (∀ w, Kp D w0 w → K0 w) → b.m = M.length → RB D w0 K0 n b (argsA args 0) M a w → Goes P f [.code c] (RetM D w0 K0 b x M') a w) : ConM P f args M x M' := by
 refine ⟨hcall, ?_⟩
 intro D w0 K0 β F I w ys Rm hK hl hr
 have hle := Nat.le_of_ble_eq_true hle
 refine calls_of_goes hf hb (h D w0 K0 ⟨β, F, I, M.length⟩ _ w hK rfl ⟨Rm.len, [], by simp; omega, I, rfl, Nat.le_refl _, β, F, Rm, ⟨fun _ _ _ h => h, Grows.refl _, fun _ _ _ => rfl⟩, ?_⟩)
 intro t v hv
 obtain ⟨y, rfl, rfl, hy⟩ : ∃ y : Nat × AV, y.1 = t ∧ y.2 = v ∧ y ∈ argsA args 0 := ⟨(t, v), rfl, rfl, lookA_mem hv⟩
 obtain ⟨-, h2⟩ := argsA_mem args 0 y hy
 simp only [Nat.sub_zero] at h2
 obtain ⟨hlt, -⟩ := List.getElem?_eq_some_iff.1 h2
 have hys : ys[y.1]? = some ys[y.1] := List.getElem?_eq_getElem (by omega)
 have he : ({ tmps := ys.toArray ++ Array.replicate (fn.ntmps - ys.toArray.size) undef, defers := [] } : Act).eval (.tmp y.1) = ys[y.1] := by
  have : y.1 < ys.length := by omega
  simp [Act.eval, Array.getD_eq_getD_getElem?, Array.getElem?_append, this]
 rw [he]
 exact hr y.1 y.2 _ h2 hys
def startsB (m : Nat) (l : List Nat) : Bool := (List.range m).all fun i => match l[i]? with | some u => u.beq i | none => false
theorem startsB_at {m : Nat} {l : List Nat} (h : startsB m l = true) {i : Nat} (hi : i < m) : l[i]? = some i := by
 have := List.all_eq_true.1 h i (List.mem_range.2 hi)
 split at this
 ·rename_i u hu; rw [hu, Nat.eq_of_beq_eq_true this]
 ·simp at this
def farB (m : Nat) (mv : List Nat) : Bool := mv.all fun u => Nat.ble m u
theorem farB_at {m : Nat} {mv : List Nat} (h : farB m mv = true) {u : Nat} (hu : u < m) : u ∉ mv := fun hm => by
 have := Nat.le_of_ble_eq_true (List.all_eq_true.1 h u hm); omega
theorem ren_parts {l : List Nat} {M' : List Blk} (hn : nodupB l = true) (hM : renM l M l = some M') (Rm : RM D w0 K0 M β F I w) : RM D w0 K0 M' (renBeta β l) (pickF F l) I w := by
 obtain ⟨e1, e2⟩ := renM_at hM
 have hlt : ∀ u ∈ l, u < M.length := by
  intro u hu
  obtain ⟨i, hi, rfl⟩ := List.getElem_of_mem hu
  obtain ⟨u', b0, g1, g2, -⟩ := e2 i M'[i] (List.getElem?_eq_getElem (by omega))
  rw [List.getElem?_eq_getElem hi, Option.some.injEq] at g1
  rw [g1]; exact lt_of_some g2
 obtain ⟨rest, hst⟩ := give_all (nodupB_ok hn) hlt Rm.x
 refine ⟨by rw [renBeta_len, e1], ?_, ?_⟩
 ·intro i b hb
  obtain ⟨u, b0, g1, g2, g3⟩ := e2 i b hb
  rw [pickF_at g1]; exact renB_ok g1 g3 (Rm.blk u b0 g2)
 ·rw [e1, flat_idx]
  have := hst.app_right
  exact this.perm (by classical rw [List.perm_iff_count]; intro z; simp only [List.count_append, List.count_nil]; omega)
theorem ext_ren {l mv tc : List Nat} (hb : b.β.length = b.m) (hs : startsB b.m l = true) (hf : farB b.m mv = true) (h : Since b mv tc β F I) : Ext b.β (renBeta β l) := by
 intro u x hx
 have hu : u < b.m := by rw [← hb]; exact (List.getElem?_eq_some_iff.1 hx).1
 exact renBeta_at (startsB_at hs hu) (h.1 u x (farB_at hf hu) hx)
theorem REb.ren {s : RS} (hb : b.β.length = b.m) (r : REb mk D w0 K0 sz b s a w) {l ts : List Nat} {M' : List Blk} {E' : List (Nat × AV)} (hn : nodupB l = true) (hs : startsB b.m l = true) (hf : farB b.m s.mv = true) (hM : renM l s.M l = some M') (hE : renE l s.E ts = some E') : RBg mk D w0 K0 sz b E' M' a w := by
 obtain ⟨h1, I, h2, h3, β, F, Rm, hsn, hsl⟩ := r
 refine ⟨hb, List.range b.m, h1, I, h2, ?_, renBeta β l, pickF F l, ren_parts hn hM Rm, ⟨(ext_ren hb hs hf hsn).b _, hsn.2.1, fun u hu hn => absurd (List.mem_range.2 hu) hn⟩, renE_ok hsl hE⟩
 rw [(renM_at hM).1]
 rcases Nat.lt_or_ge l.length b.m with hl | hl
 ·have := startsB_at hs (i := l.length) hl
  rw [List.getElem?_eq_none (Nat.le_refl _)] at this; cases this
 ·exact hl
def outToM (P : Program) (T : Tab) (sz : Nat) (m : Nat) (tb : Tbl) (n : Nat) (l ts : List Nat) (todo : List Item) (E : List (Nat × AV)) (M : List Blk) : Option (List Item × Prop × List (Nat × AV) × List Blk) :=
 bif nodupB l && startsB m l then (match runC P T (walk P T 3) sz tb n todo ⟨[], E, M, [], []⟩ with
 | some (.code (.loop c) :: k, s) => bif farB m s.mv then anewA l ts (.code c :: .inLoop c :: k) s else none
 | some (.inLoop c :: k, s) => bif farB m s.mv then anewA l ts (.code c :: .inLoop c :: k) s else none
 | _ => none) else none
theorem RBg.re (r : RBg mk D w0 K0 sz b E M a w) : ∃ b', REb mk D w0 K0 sz b' ⟨[], E, M, [], []⟩ a w ∧ b'.β.length = b.m ∧ Ext b.β b'.β ∧ Grows b.I b'.I ∧ b'.m = b.m := by
 obtain ⟨hb, tc, h1, I, h2, h3, β, F, Rm, hsn, hsl⟩ := r
 refine ⟨⟨β.take b.m, F, I, b.m⟩, ⟨h1, I, h2, h3, β, F, Rm, ⟨fun u x _ hx => ?_, Grows.refl _, fun _ _ _ => rfl⟩, hsl⟩, ?_, fun u x hx => ?_, hsn.2.1, rfl⟩
 ·rw [List.getElem?_take] at hx
  split at hx
  ·exact hx
  ·simp at hx
 ·rw [List.length_take, Rm.len]; have h3' : b.m ≤ M.length := h3; omega
 ·have hu : u < b.m := by rw [← hb]; exact (List.getElem?_eq_some_iff.1 hx).1
  rw [List.getElem?_take, if_pos hu]
  exact hsn.1 u x (by simp) hx
theorem RBg.from {b' : Base} (hbm : b'.m = b.m) (hb : b.β.length = b.m) (hE : Ext b.β b'.β) (hG : Grows b.I b'.I) (r : RBg mk D w0 K0 sz b' E M a w) : RBg mk D w0 K0 sz b E M a w := by
 obtain ⟨-, tc, h1, I, h2, h3, β, F, Rm, hsn, hsl⟩ := r
 refine ⟨hb, List.range b.m, h1, I, h2, by rw [← hbm]; exact h3, β, F, Rm, ⟨fun u x _ hx => hsn.1 u x (by simp) (hE u x hx), hG.trans hsn.2.1, fun u hu hn => absurd (List.mem_range.2 hu) hn⟩, hsl⟩
theorem toHeadM (hT : tabB P T = true) (hm : P.follows .mixedOrders = true) (hK : ∀ w, Kp D w0 w → K0 w) {m : Nat} (hbm : b.m = m) (tb : Tbl) (n : Nat) (l ts : List Nat) {A : Prop} {E' : List (Nat × AV)} {M' : List Blk} (r : RBg mk D w0 K0 sz b E M a w)
  (h : outToM P T sz m tb n l ts todo E M = some (todo', A, E', M')) (hA : A) (k : ∀ a' w', RBg mk D w0 K0 sz b E' M' a' w' → Goes P f todo' R a' w') : Goes P f todo R a w := by
 subst hbm
 have hb := r.1
 obtain ⟨b', rb, hb', hE, hG, hm'⟩ := r.re
 unfold outToM at h
 cases hn : (nodupB l && startsB b.m l) with
 | false => simp [hn] at h
 | true =>
  simp only [hn, cond_true] at h
  simp only [Bool.and_eq_true] at hn
  have key : ∀ {s : RS} {a' : Act} {w' : World} {M' : List Blk} {E' : List (Nat × AV)}, farB b.m s.mv = true → renM l s.M l = some M' → renE l s.E ts = some E' → REb mk D w0 K0 sz b' s a' w' → RBg mk D w0 K0 sz b E' M' a' w' := fun hf h3 h4 r' =>
   RBg.from hm' hb hE hG (r'.ren (by rw [hb', hm']) hn.1 (by rw [hm']; exact hn.2) (by rw [hm']; exact hf) h3 h4)
  split at h
  ·rename_i c k' s hr
   cases hf : farB b.m s.mv with
   | false => simp [hf] at h
   | true =>
    simp only [hf, cond_true] at h
    obtain ⟨rfl, rfl, h3, h4⟩ := anewA_ok h
    exact segb hT (walk_ok hT hm 3) hm hK n hr rb hA fun a' w' r' => Goes.loop (k a' w' (key hf h3 h4 r'))
  ·rename_i c k' s hr
   cases hf : farB b.m s.mv with
   | false => simp [hf] at h
   | true =>
    simp only [hf, cond_true] at h
    obtain ⟨rfl, rfl, h3, h4⟩ := anewA_ok h
    exact segb hT (walk_ok hT hm 3) hm hK n hr rb hA fun a' w' r' => Goes.again (k a' w' (key hf h3 h4 r'))
  ·simp at h
def finM (T : Tab) (m : Nat) (keep : List Nat) (rs : List ResultVar) (s : RS) : Option (Prop × AV × List Blk) :=
 bif nodupB keep && startsB m keep && farB m s.mv then (match resA T s.E s.M rs with
 | some l => (match renM keep s.M keep, ren3 keep (oneA l) with
  | some M', some x => some (AllP s.vc, x, M')
  | _, _ => none)
 | none => none) else none
def outRetM (P : Program) (T : Tab) (sz : Nat) (m : Nat) (rs : List ResultVar) (tb : Tbl) (n : Nat) (keep : List Nat) (todo : List Item) (E : List (Nat × AV)) (M : List Blk) : Option (Prop × AV × List Blk) :=
 match runC P T (walk P T 3) sz tb n todo ⟨[], E, M, [], []⟩ with
 | some (.code .ret :: _, s) => finM T m keep rs s
 | some ([], s) => finM T m keep rs s
 | _ => none
theorem toRetM (hT : tabB P T = true) (hm : P.follows .mixedOrders = true) (hK : ∀ w, Kp D w0 w → K0 w) {fn : Func} (hf : P.funcs[f]? = some fn) {m : Nat} (hbm : b.m = m) (tb : Tbl) (n : Nat) (keep : List Nat) {x : AV} {M' : List Blk} {A : Prop} (r : RB D w0 K0 sz b E M a w)
  (h : outRetM P T sz m fn.results.toList tb n keep todo E M = some (A, x, M')) (hA : A) : Goes P f todo (RetM D w0 K0 b x M') a w := by
 subst hbm
 have hb := r.1
 obtain ⟨b', rb, hb', hE, hG, hm'⟩ := r.re
 have key : ∀ {s : RS} {a' : Act} {w' : World}, finM T b.m keep fn.results.toList s = some (A, x, M') → REb false D w0 K0 sz b' s a' w' → AllP s.vc = A ∧ ∃ v, (results fn a'.tmps).run P w' = .ok v w' ∧ RetMe D w0 K0 b x M' (.returned v) w' := by
  intro s a' w' hfin r'
  unfold finM at hfin
  cases hc : (nodupB keep && startsB b.m keep && farB b.m s.mv) with
  | false => simp only [hc, cond_false, reduceCtorEq] at hfin
  | true =>
   simp only [hc, cond_true] at hfin
   simp only [Bool.and_eq_true] at hc
   split at hfin
   ·rename_i l hl
    split at hfin
    ·rename_i M1 x1 hM hx
     simp only [Option.some.injEq, Prod.mk.injEq] at hfin
     obtain ⟨hA', rfl, rfl⟩ := hfin
     refine ⟨hA', ?_⟩
     obtain ⟨-, I, -, -, β, F, Rm, hsn, hs⟩ := r'
     obtain ⟨ys, e1, e2, e3⟩ := resA_ok hT Rm hs hl
     refine ⟨_, res_run rfl e1, _, rfl, renBeta β keep, pickF F keep, I, ren_parts hc.1.1 hM Rm, ?_, hG.trans hsn.2.1, ren3_ok hx ?_⟩
     ·have := ext_ren (b := b') (by rw [hb', hm']) (by rw [hm']; exact hc.1.2) (by rw [hm']; exact hc.2) hsn
      exact fun u q hq => this u q (hE u q hq)
     ·match ys, l, e2, e3 with
      | [], [], _, _ => exact .tu [] rfl (by simp)
      | [y], [v], _, e3 => exact e3 0 v y rfl rfl
      | y :: y' :: ys, v :: v' :: l, e2, e3 => exact .tu _ e2 e3
    ·simp at hfin
   ·simp at hfin
 unfold outRetM at h
 have hvc : ∀ {s : RS}, finM T b.m keep fn.results.toList s = some (A, x, M') → AllP s.vc := by
  intro s hfin
  unfold finM at hfin
  cases hc : (nodupB keep && startsB b.m keep && farB b.m s.mv) with
  | false => simp only [hc, cond_false, reduceCtorEq] at hfin
  | true =>
   simp only [hc, cond_true] at hfin
   split at hfin
   ·split at hfin
    ·simp only [Option.some.injEq, Prod.mk.injEq] at hfin
     rw [hfin.1]; exact hA
    ·simp at hfin
   ·simp at hfin
 split at h
 ·rename_i k s hr
  refine segb hT (walk_ok hT hm 3) hm hK n hr rb (hvc h) fun a' w' r' => ?_
  obtain ⟨-, v, h1, h2⟩ := key h r'
  exact Goes.ret hf (REb.nodef r') h1 h2
 ·rename_i s hr
  refine segb hT (walk_ok hT hm 3) hm hK n hr rb (hvc h) fun a' w' r' => ?_
  obtain ⟨-, v, h1, h2⟩ := key h r'
  exact Goes.fin hf (REb.nodef r') h1 h2
 ·simp at h
theorem castM {x y : AV} {N N' : List Blk} {todo : List Item} (e1 : x = y) (e2 : N = N') (h : Goes P f todo (RetM D w0 K0 b y N') a w) : Goes P f todo (RetM D w0 K0 b x N) a w := e1 ▸ e2 ▸ h
end Go.Proofs.Ytikmdkicccfjpaa
namespace Go.Proofs.Ytikmdkicccfjpaa
open Go.RowKit
variable {mk : Bool} {P : Program} {T : Tab} {f : FuncId} {R : Tgt} {a : Act} {w : World} {D : List Nat} {w0 : World} {K0 : World → Prop} {E E1 : List (Nat × AV)} {M M1 M2 : List Blk} {β : Beta} {F : Nat → Frag} {I X : Frag} {sz : Nat} {b : Base}
theorem RM.nil (h : RM D w0 K0 M β F I w) (T k : Nat) : RM D w0 K0 (M ++ [.rw T k []]) (β ++ [(none, 0)]) (updF F M.length []) I w := by
 refine h.new (Gr.refl w) (NewF.nil w w) ?_
 have : BRel (fun w => K0 w ∧ Holds w I) (β ++ [(none, 0)]) M.length (.rw T k []) ([] ++ layF ([] : List (List DV)).length k fun _ _ => []) :=
  .rw (c := 0) (a := none) (by rw [List.getElem?_append_right (by rw [h.len]; exact Nat.le_refl _), h.len]; simp) (fun _ => []) (fun _ _ => []) (by simp) (by simpa [lay] using SlRep.nil T k none) (by simp)
 simpa [layF] using this
theorem RM.cells (h : RM D w0 K0 M β F I w) {u Tb : Nat} {cells cells' : List AV} (hu : M[u]? = some (.bx Tb cells)) (hl : cells'.length = cells.length)
  (hc : ∀ (j : Nat) c c0 y, cells'[j]? = some c → cells[j]? = some c0 → ARel (fun w => K0 w ∧ Holds w I) β c0 y → ARel (fun w => K0 w ∧ Holds w I) β c y) : RM D w0 K0 (M.set u (.bx Tb cells')) β F I w where
 len := by rw [h.len, List.length_set]
 blk := by
  intro v bl hv
  rw [List.getElem?_set] at hv
  split at hv
  ·rename_i hvu; subst hvu
   split at hv
   ·simp only [Option.some.injEq] at hv; subst hv
    have hr := h.blk _ _ hu
    generalize F _ = H at hr ⊢
    cases hr with
    | bx hb ys hl' hr =>
     refine .bx hb ys (by omega) fun j c y h1 h2 => ?_
     have hj : j < cells.length := by rw [← hl]; exact (List.getElem?_eq_some_iff.1 h1).1
     exact hc j c _ y h1 (List.getElem?_eq_getElem hj) (hr j _ y (List.getElem?_eq_getElem hj) h2)
   ·cases hv
  ·exact h.blk v bl hv
 st := by rw [List.length_set]; exact h.st
def repA (E : List (Nat × AV)) (t : Nat) (v : AV) : List (Nat × AV) := E.map fun x => bif x.1.beq t then (x.1, v) else x
theorem repA_at {t : Nat} {v : AV} : ∀ {E : List (Nat × AV)} {s : Nat} {u : AV}, lookA (repA E t v) s = some u → (s = t ∧ u = v ∧ ∃ u0, lookA E t = some u0) ∨ (s ≠ t ∧ lookA E s = some u)
 | [], s, u, h => by simp [repA, lookA] at h
 | (k, x) :: r, s, u, h => by
  have ih := repA_at (t := t) (v := v) (E := r) (s := s) (u := u)
  unfold repA at ih h
  rw [List.map_cons] at h
  cases hk : k.beq t with
  | true =>
   have hkt := Nat.eq_of_beq_eq_true hk; subst hkt
   simp only [Nat.beq_refl, cond_true, lookA] at h ⊢
   cases hs : k.beq s with
   | true =>
    have := Nat.eq_of_beq_eq_true hs; subst this
    rw [hs, cond_true, Option.some.injEq] at h
    exact Or.inl ⟨rfl, h.symm, x, rfl⟩
   | false =>
    rw [hs, cond_false] at h
    rcases ih h with ⟨rfl, -, -⟩ | h2
    ·rw [Nat.beq_refl] at hs; cases hs
    ·exact Or.inr h2
  | false =>
   simp only [hk, cond_false, lookA] at h ⊢
   cases hs : k.beq s with
   | true =>
    have := Nat.eq_of_beq_eq_true hs; subst this
    rw [hs, cond_true] at h
    refine Or.inr ⟨?_, h⟩
    rintro rfl; rw [Nat.beq_refl] at hk; cases hk
   | false =>
    rw [hs, cond_false] at h
    exact ih h
def adS : List (Nat × Nat × Nat) → List (Nat × AV) → List Blk → Option (List (Nat × AV) × List Blk)
 | [], E, M => some (E, M)
 | (t, T, k) :: r, E, M => match lookA E t with
  | some (.d (.v (.slice none 0 0))) => adS r (repA E t (.sl M.length 0)) (M ++ [.rw T k []])
  | _ => none
def adC : List (Nat × Nat × Nat × Nat) → List Blk → Option (List Blk)
 | [], M => some M
 | (u, o, T, k) :: r, M => match M[u]? with
  | some (.bx Tb cells) => (match cells[o]? with
   | some (.d (.v (.slice none 0 0))) => adC r ((M ++ [Blk.rw T k []]).set u (.bx Tb (cells.set o (.sl M.length 0))))
   | _ => none)
  | _ => none
theorem nil_at (h : RM D w0 K0 M β F I w) : (β ++ [((none : Option Addr), 0)])[M.length]? = some (none, 0) := by rw [List.getElem?_append_right (by rw [h.len]; exact Nat.le_refl _), h.len]; simp
theorem adS_ok {ev : Nat → Value} {n : Nat} : ∀ {ls : List (Nat × Nat × Nat)} {E : List (Nat × AV)} {M : List Blk} {β : Beta} {F : Nat → Frag}, adS ls E M = some (E1, M1) → n ≤ M.length → RM D w0 K0 M β F I w → (∀ t v, lookA E t = some v → ARel (fun w => K0 w ∧ Holds w I) β v (ev t)) →
  ∃ β' F', RM D w0 K0 M1 β' F' I w ∧ Ext β β' ∧ (∀ u, u < n → F' u = F u) ∧ n ≤ M1.length ∧ ∀ t v, lookA E1 t = some v → ARel (fun w => K0 w ∧ Holds w I) β' v (ev t)
 | [], E, M, β, F, h, hn, hR, hs => by
  simp only [adS, Option.some.injEq, Prod.mk.injEq] at h; obtain ⟨rfl, rfl⟩ := h
  exact ⟨β, F, hR, fun _ _ h => h, fun _ _ => rfl, hn, hs⟩
 | (t, T, k) :: r, E, M, β, F, h, hn, hR, hs => by
  unfold adS at h
  split at h
  ·rename_i ht
   obtain ⟨β', F', h1, h2, h3, h4, h5⟩ := adS_ok h (n := n) (ev := ev) (by simp; omega) (hR.nil T k) fun s v hv => by
    rcases repA_at hv with ⟨rfl, rfl, -⟩ | ⟨-, h2⟩
    ·have := hs s _ ht
     generalize ev s = y at this
     cases this with | d h => cases h; exact .sl (nil_at hR)
    ·exact (hs s v h2).mono (fun _ h => h) (Ext.app β [((none : Option Addr), 0)])
   exact ⟨β', F', h1, fun u x hx => h2 u x (Ext.app β [((none : Option Addr), 0)] u x hx), fun u hu => (h3 u hu).trans (updF_ne (tc := []) F [] u (by omega) (by simp)), h4, h5⟩
  ·cases h
theorem adC_ok {ev : Nat → Value} {n : Nat} : ∀ {lc : List (Nat × Nat × Nat × Nat)} {M : List Blk} {β : Beta} {F : Nat → Frag}, adC lc M = some M1 → n ≤ M.length → RM D w0 K0 M β F I w → (∀ t v, lookA E t = some v → ARel (fun w => K0 w ∧ Holds w I) β v (ev t)) →
  ∃ β' F', RM D w0 K0 M1 β' F' I w ∧ Ext β β' ∧ (∀ u, u < n → F' u = F u) ∧ n ≤ M1.length ∧ ∀ t v, lookA E t = some v → ARel (fun w => K0 w ∧ Holds w I) β' v (ev t)
 | [], M, β, F, h, hn, hR, hs => by
  simp only [adC, Option.some.injEq] at h; subst h
  exact ⟨β, F, hR, fun _ _ h => h, fun _ _ => rfl, hn, hs⟩
 | (u, o, T, k) :: r, M, β, F, h, hn, hR, hs => by
  unfold adC at h
  split at h
  ·rename_i Tb cells hu
   split at h
   ·rename_i ho
    have hR1 := hR.nil T k
    have hR2 := hR1.cells (cells' := cells.set o (.sl M.length 0)) (by rw [List.getElem?_append_left (List.getElem?_eq_some_iff.1 hu).1]; exact hu) (by simp) fun j c c0 y h1 h2 h3 => by
     rw [List.getElem?_set] at h1
     split at h1
     ·rename_i hj; subst hj
      split at h1
      ·simp only [Option.some.injEq] at h1; subst h1
       rw [ho, Option.some.injEq] at h2; subst h2
       cases h3 with | d h => cases h; exact .sl (nil_at hR)
      ·cases h1
     ·rw [h1, Option.some.injEq] at h2; subst h2; exact h3
    obtain ⟨β', F', h1, h2, h3, h4, h5⟩ := adC_ok h (n := n) (ev := ev) (by simp; omega) hR2 fun s v hv => (hs s v hv).mono (fun _ h => h) (Ext.app β [((none : Option Addr), 0)])
    exact ⟨β', F', h1, fun u x hx => h2 u x (Ext.app β [((none : Option Addr), 0)] u x hx), fun u hu => (h3 u hu).trans (updF_ne (tc := []) F [] u (by omega) (by simp)), h4, h5⟩
   ·cases h
  ·cases h
theorem REg.adopt (r : REg mk D w0 K0 sz E M a w) (ls : List (Nat × Nat × Nat)) (lc : List (Nat × Nat × Nat × Nat)) (h : adS ls E M = some (E1, M1)) (h2 : adC lc M1 = some M2) : REg mk D w0 K0 sz E1 M2 a w := by
 obtain ⟨g1, I, g2, β, F, hR, hs⟩ := r
 obtain ⟨β1, F1, r1, -, -, -, s1⟩ := adS_ok (ev := fun t => a.eval (.tmp t)) (n := 0) h (Nat.zero_le _) hR hs
 obtain ⟨β2, F2, r2, -, -, -, s2⟩ := adC_ok (ev := fun t => a.eval (.tmp t)) (n := 0) h2 (Nat.zero_le _) r1 s1
 exact ⟨g1, I, g2, β2, F2, r2, s2⟩
theorem REg.cast {E' : List (Nat × AV)} {M' : List Blk} (r : REg mk D w0 K0 sz E M a w) (hE : E = E') (hM : M = M') : REg mk D w0 K0 sz E' M' a w := hE ▸ hM ▸ r
theorem RBg.cast {E' : List (Nat × AV)} {M' : List Blk} (r : RBg mk D w0 K0 sz b E M a w) (hE : E = E') (hM : M = M') : RBg mk D w0 K0 sz b E' M' a w := hE ▸ hM ▸ r
end Go.Proofs.Ytikmdkicccfjpaa
namespace Go.Proofs.Ytikmdkicccfjpaa
open Go.RowKit
variable {mk : Bool} {ro : Option Nat} {P : Program} {T : Tab} {cl : Walker} {f : FuncId} {R : Tgt} {a : Act} {w : World} {D : List Nat} {w0 : World} {K0 : World → Prop} {E : List (Nat × AV)} {M : List Blk} {sz : Nat} {tb : Tbl} {todo todo' : List Item} {ops : Array Oper} {Q : Exit → Act → World → Prop}
def lookD (P : Program) (T : Tab) (cl : Walker) (sz : Nat) (ops : Array Oper) (oc : List (Nat × Orc)) (rd : List Nat) (i : Nat) : RS → Option (List Nat × RS)
 | ⟨vc, E, M, tc, mv⟩ => match ops[i]? with
  | some o => (bif dstB sz o.dst then (match wantA sz ops E o.guard with
   | some true => (match step P T cl E M (getO oc i) o.op with
    | some ⟨vc', av, _, _, _, some rd'⟩ => some (rd' ++ rd, ⟨vc ++ vc', putA E o.dst av, M, tc, mv⟩)
    | _ => none)
   | some false => some (rd, ⟨vc, putA E o.dst (.d (.v undef)), M, tc, mv⟩)
   | none => none) else none)
  | none => none
def oneD (P : Program) (T : Tab) (cl : Walker) (sz : Nat) (ops : Array Oper) (oc : List (Nat × Orc)) (rd : List Nat) (i : Nat) : RS → Option RS
 | ⟨vc, E, M, tc, mv⟩ => match ops[i]? with
  | some o => (bif dstB sz o.dst then (match wantA sz ops E o.guard with
   | some true => (match step P T cl E M (getO oc i) o.op with
    | some out => (bif away rd out.tc && Nat.ble M.length out.M.length then some ⟨vc ++ out.vc, putA (keepA out.mv E) o.dst out.av, out.M, out.tc ++ tc, out.mv ++ mv⟩ else none)
    | none => none)
   | some false => some ⟨vc, putA E o.dst (.d (.v undef)), M, tc, mv⟩
   | none => none) else none)
  | none => none
def allJ (g : Nat → Option (List RS)) : List Nat → Option (List RS)
 | [] => some []
 | j :: r => match g j, allJ g r with | some l, some l' => some (l ++ l') | _, _ => none
theorem allJ_at {g : Nat → Option (List RS)} : ∀ {r : List Nat} {l : List RS}, allJ g r = some l → ∀ j ∈ r, ∃ l', g j = some l' ∧ ∀ s ∈ l', s ∈ l
 | [], _, _, j, hj => by cases hj
 | i :: r, l, h, j, hj => by
  unfold allJ at h
  split at h
  ·rename_i l1 l2 h1 h2
   simp only [Option.some.injEq] at h; subst h
   rcases List.mem_cons.1 hj with rfl | hj
   ·exact ⟨l1, h1, fun s hs => List.mem_append_left _ hs⟩
   ·obtain ⟨l', h3, h4⟩ := allJ_at h2 j hj
    exact ⟨l', h3, fun s hs => List.mem_append_right _ (h4 s hs)⟩
  ·cases h
def nxtT (ops : Array Oper) (nl : List Nat) (L : Array Bool) : Nxt := match Region.ready .any ops L with
 | [] => .fin
 | i :: r => match firstPure ops L ((i :: r).filter fun j => !(nl.elem j)) with
  | some j => .look j
  | none => .bad
theorem nxtT_fin {nl : List Nat} {L : Array Bool} (h : nxtT ops nl L = .fin) : Region.ready .any ops L = [] := by
 unfold nxtT at h
 split at h
 ·assumption
 ·split at h <;> cases h
theorem nxtT_look {nl : List Nat} {L : Array Bool} {i : Nat} (h : nxtT ops nl L = .look i) : i ∈ Region.ready .any ops L ∧ ∃ o, ops[i]? = some o ∧ Region.free .any ops L i = true := by
 unfold nxtT at h
 split at h
 ·cases h
 ·rename_i k r hr
  split at h
  ·rename_i j hj
   simp only [Nxt.look.injEq] at h; subst h
   obtain ⟨h1, h2⟩ := firstPure_ok hj
   exact ⟨by rw [hr]; exact (List.mem_filter.1 h1).1, h2⟩
  ·cases h
def runDT (P : Program) (T : Tab) (cl : Walker) (sz : Nat) (ops : Array Oper) (oc : List (Nat × Orc)) (nl : List Nat) : Nat → Array Bool → List Nat → RS → Option (List RS)
 | 0, L, _, s => (match nxtT ops nl L with | .fin => some [s] | _ => none)
 | fuel + 1, L, rd, s => match nxtT ops nl L with
  | .fin => some [s]
  | .look i => (match lookD P T cl sz ops oc rd i s with
   | some (rd', s1) => runDT P T cl sz ops oc nl fuel (L.setIfInBounds i true) rd' s1
   | none => none)
  | _ => allJ (fun j => match oneD P T cl sz ops oc rd j s with
   | some s1 => runDT P T cl sz ops oc nl fuel (L.setIfInBounds j true) rd s1
   | none => none) (Region.ready .any ops L)
theorem lookD_vc {oc : List (Nat × Orc)} {rd rd' : List Nat} {i : Nat} {s s1 : RS} (h : lookD P T cl sz ops oc rd i s = some (rd', s1)) (hv : AllP s1.vc) : AllP s.vc := by
 obtain ⟨vc, E, M, tc, mv⟩ := s
 unfold lookD at h
 dsimp only at h
 split at h
 ·rename_i o ho
  cases hd : dstB sz o.dst with
  | false => simp [hd] at h
  | true =>
   simp only [hd, cond_true] at h
   split at h
   ·split at h
    ·simp only [Option.some.injEq, Prod.mk.injEq] at h; obtain ⟨-, rfl⟩ := h; exact (AllP.app.1 hv).1
    ·cases h
   ·simp only [Option.some.injEq, Prod.mk.injEq] at h; obtain ⟨-, rfl⟩ := h; exact hv
   ·cases h
 ·cases h
theorem oneD_vc {oc : List (Nat × Orc)} {rd : List Nat} {i : Nat} {s s1 : RS} (h : oneD P T cl sz ops oc rd i s = some s1) (hv : AllP s1.vc) : AllP s.vc := by
 obtain ⟨vc, E, M, tc, mv⟩ := s
 unfold oneD at h
 dsimp only at h
 split at h
 ·rename_i o ho
  cases hd : dstB sz o.dst with
  | false => simp [hd] at h
  | true =>
   simp only [hd, cond_true] at h
   split at h
   ·split at h
    ·rename_i out _
     cases hc : (away rd out.tc && Nat.ble M.length out.M.length) with
     | false => simp [hc] at h
     | true => simp only [hc, cond_true, Option.some.injEq] at h; subst h; exact (AllP.app.1 hv).1
    ·cases h
   ·simp only [Option.some.injEq] at h; subst h; exact hv
   ·cases h
 ·cases h
theorem ready_some {nl : List Nat} {L : Array Bool} (h : nxtT ops nl L ≠ .fin) : ∃ j r, Region.ready .any ops L = j :: r := by
 unfold nxtT at h
 cases hr : Region.ready .any ops L with
 | nil => rw [hr] at h; exact absurd rfl h
 | cons j r => exact ⟨j, r, rfl⟩
theorem runDT_vc {oc : List (Nat × Orc)} {nl : List Nat} : ∀ (fuel : Nat) (L : Array Bool) (rd : List Nat) (s : RS) {l : List RS}, runDT P T cl sz ops oc nl fuel L rd s = some l → ∃ s' ∈ l, AllP s'.vc → AllP s.vc := by
 intro fuel
 induction fuel with
 | zero =>
  intro L rd s l h
  unfold runDT at h
  split at h
  ·simp only [Option.some.injEq] at h; subst h; exact ⟨s, by simp, id⟩
  ·cases h
 | succ fuel ih =>
  intro L rd s l h
  unfold runDT at h
  split at h
  ·simp only [Option.some.injEq] at h; subst h; exact ⟨s, by simp, id⟩
  ·split at h
   ·rename_i hl
    obtain ⟨s', h1, h2⟩ := ih _ _ _ h
    exact ⟨s', h1, fun hv => lookD_vc hl (h2 hv)⟩
   ·cases h
  ·rename_i hn _
   obtain ⟨j, r, hr⟩ := ready_some (ops := ops) (nl := nl) (L := L) (by intro hf; exact hn hf)
   obtain ⟨l', h1, h2⟩ := allJ_at h j (by rw [hr]; exact List.mem_cons_self)
   split at h1
   ·rename_i ho
    obtain ⟨s', h3, h4⟩ := ih _ _ _ h1
    exact ⟨s', h2 s' h3, fun hv => oneD_vc ho (h4 hv)⟩
   ·cases h1
theorem runDT_ok (hT : tabB P T = true) (hcl : ClOk P cl) {b : Base} (hK : ∀ w, Kp D w0 w → K0 w) (hsel : Region.noSelect ops = true) (hQ : ∀ d v c a w, Q (.panic c) (Act.put a d v) w → Q (.panic c) a w) {oc : List (Nat × Orc)} {nl : List Nat} :
  ∀ (fuel : Nat) (L : Array Bool) (rd : List Nat) (s : RS) {l : List RS} (Rk : World → Prop) (β : Beta) (F : Nat → Frag) (I : Frag) (a : Act) (w : World), runDT P T cl sz ops oc nl fuel L rd s = some l → a.tmps.size = sz → Mk mk a.defers I → b.m ≤ s.M.length → RM D w0 K0 s.M β F I w → Since b s.mv s.tc β F I →
   (∀ t v, lookA s.E t = some v → ARel (fun w => K0 w ∧ Holds w I) β v (a.eval (.tmp t))) → (∀ u ∈ rd, u < s.M.length) → (∀ w, Sees K0 I F rd w → Rk w) → (∀ s' ∈ l, AllP s'.vc ∧ ∀ a' w', REb mk D w0 K0 sz b s' a' w' → Q .normal a' w') → wpAnyR ro P ops Q Rk fuel L a w := by
 intro fuel
 induction fuel with
 | zero =>
  intro L rd s l Rk β F I a w h size defers hm Rm hsn hs hrd hRk k
  have C : Ctx D w0 K0 s.E s.M β F I a.eval w := ⟨Rm, hs, fun _ => rfl, fun _ => rfl, fun _ => rfl, hK⟩
  have hR := hRk w (C.sees hrd)
  unfold runDT at h
  split at h
  ·rename_i hn
   simp only [Option.some.injEq] at h; subst h
   exact ⟨hR, nxtT_fin hn, (k s (by simp)).2 a w ⟨size, I, defers, hm, β, F, Rm, hsn, hs⟩⟩
  ·cases h
 | succ fuel ih =>
  intro L rd s l Rk β F I a w h size defers hm Rm hsn hs hrd hRk k
  have C : Ctx D w0 K0 s.E s.M β F I a.eval w := ⟨Rm, hs, fun _ => rfl, fun _ => rfl, fun _ => rfl, hK⟩
  have hR := hRk w (C.sees hrd)
  unfold runDT at h
  split at h
  ·rename_i hn
   simp only [Option.some.injEq] at h; subst h
   have hn := nxtT_fin hn
   exact ⟨hR, fun _ => (k s (by simp)).2 a w ⟨size, I, defers, hm, β, F, Rm, hsn, hs⟩, fun i hi => by rw [hn] at hi; cases hi⟩
  ·rename_i i hn
   obtain ⟨hir, o', ho', hfree⟩ := nxtT_look hn
   split at h
   ·rename_i rd1 s1 hl
    obtain ⟨s', hs', hvc⟩ := runDT_vc _ _ _ _ h
    have hv1 := hvc (k s' hs').1
    obtain ⟨vc, E, M, tc, mv⟩ := s
    dsimp only at hm Rm hsn hs hrd hRk C
    unfold lookD at hl
    dsimp only at hl
    split at hl
    ·rename_i o ho
     cases hd : dstB sz o.dst with
     | false => simp [hd] at hl
     | true =>
      simp only [hd, cond_true] at hl
      have hfr := fun j oj hj hne hun hno => Region.free_spec ho hfree j oj hj hne hun hno
      split at hl
      ·rename_i hw
       have hwant := wantA_ok (ops := ops) size hs hw
       split at hl
       ·rename_i vc' av _ _ _ rd' hst
        simp only [Option.some.injEq, Prod.mk.injEq] at hl; obtain ⟨rfl, rfl⟩ := hl
        have hdo := step_ok (P := P) hT hcl (d := o.dst) (ty := o.type) (pos := o.pos) (aft := o.after) (gd := o.guard) hst
        obtain ⟨hpur, rfl, -, hlt⟩ := hdo
        have hout := (AllP.app.1 hv1).2
        obtain ⟨v, hrel, hval⟩ := hpur C hout
        obtain ⟨e1, e2, e3⟩ := RE.put (E := E) size defers hs hd hrel
        have hstep := ih (L.setIfInBounds i true) _ _ (fun w => Rk w ∧ Sees K0 I F rd' w) β F I (a.put o.dst v) w h e1 e2 hm Rm hsn e3 (fun u hu => by rcases List.mem_append.1 hu with e | e; exact hlt u e; exact hrd u e)
         (fun w hw => ⟨hRk w ⟨hw.1, fun u hu => hw.2 u (List.mem_append_right _ hu)⟩, hw.1, fun u hu => hw.2 u (List.mem_append_left _ hu)⟩) k
        exact wpAnyR_weak (fun w hw => hw.1) (wpAnyR_firstG ho (Region.noSelect_spec hsel) (hQ o.dst v) _ L a w hfr hir (Or.inl ⟨hwant, fun w' hw' => hval w' hw'.2⟩) hstep)
       ·cases hl
      ·rename_i hw
       simp only [Option.some.injEq, Prod.mk.injEq] at hl; obtain ⟨rfl, rfl⟩ := hl
       have hwant := wantA_ok (ops := ops) size hs hw
       obtain ⟨e1, e2, e3⟩ := RE.put (E := E) size defers hs hd (.d (.v undef))
       have hstep := ih (L.setIfInBounds i true) _ _ Rk β F I (a.put o.dst undef) w h e1 e2 hm Rm hsn e3 hrd hRk k
       exact wpAnyR_firstG ho (Region.noSelect_spec hsel) (hQ o.dst undef) _ L a w hfr hir (Or.inr ⟨hwant, rfl⟩) hstep
      ·cases hl
    ·cases hl
   ·cases h
  ·rename_i hn _
   obtain ⟨j0, r0, hr0⟩ := ready_some (ops := ops) (nl := nl) (L := L) (by intro hf; exact hn hf)
   refine ⟨hR, fun h0 => (by rw [hr0] at h0; cases h0), fun j hj => ?_⟩
   obtain ⟨l', h1, h2⟩ := allJ_at h j hj
   split at h1
   ·rename_i s1 ho1
    obtain ⟨s', hs', hvc⟩ := runDT_vc _ _ _ _ h1
    have hv1 := hvc (k s' (h2 s' hs')).1
    obtain ⟨vc, E, M, tc, mv⟩ := s
    dsimp only at hm Rm hsn hs hrd hRk C
    unfold oneD at ho1
    dsimp only at ho1
    unfold wpOpIn
    split at ho1
    ·rename_i o ho
     simp only [ho]
     cases hd : dstB sz o.dst with
     | false => simp [hd] at ho1
     | true =>
      simp only [hd, cond_true] at ho1
      split at ho1
      ·rename_i hw
       have hwant := wantA_ok (ops := ops) size hs hw
       simp only [hwant, if_true]
       split at ho1
       ·rename_i out hst
        cases hc : (away rd out.tc && Nat.ble M.length out.M.length) with
        | false => simp [hc] at ho1
        | true =>
         simp only [hc, cond_true, Option.some.injEq] at ho1; subst ho1
         simp only [Bool.and_eq_true] at hc
         have hlen := Nat.le_of_ble_eq_true hc.2
         have hout := (AllP.app.1 hv1).2
         have hdo := (step_ok (P := P) hT hcl (d := o.dst) (ty := o.type) (pos := o.pos) (aft := o.after) (gd := o.guard) hst).eff C hout
         refine OpY.wp hdo ?_
         rintro v w' ⟨β', F', I', R', e, hI, hF, hr'⟩
         have hk := keepA_ok (ρ := a.eval) e hs
         obtain ⟨e1, e2, e3⟩ := RE.put size (defers.grow hI) (fun t v hx => (hk t v hx).mono (fun w hw => ⟨hw.1, hI.holds w hw.2⟩) (Ext.refl _)) hd hr'
         refine ih (L.setIfInBounds j true) _ _ Rk β' F' I' (a.put o.dst v) w' h1 e1 e2 (Nat.le_trans hm hlen) R' (hsn.step hm e hI hF) e3 (fun u hu => Nat.lt_of_lt_of_le (hrd u hu) hlen) (fun w hw => hRk w ⟨⟨hw.1.1, hI.holds w hw.1.2⟩, fun u hu => ?_⟩) fun s' hs' => k s' (h2 s' hs')
         have hnt : u ∉ out.tc := by
          have := List.all_eq_true.1 hc.1 u hu
          simpa using this
         rw [← hF u (hrd u hu) hnt]; exact hw.2 u hu
       ·cases ho1
      ·rename_i hw
       simp only [Option.some.injEq] at ho1; subst ho1
       have hwant := wantA_ok (ops := ops) size hs hw
       simp only [hwant, Bool.false_eq_true, if_false]
       obtain ⟨e1, e2, e3⟩ := RE.put (E := E) size defers hs hd (.d (.v undef))
       exact ⟨fun _ _ => trivial, ih (L.setIfInBounds j true) _ _ Rk β F I (a.put o.dst undef) w h1 e1 e2 hm Rm hsn e3 hrd hRk fun s' hs' => k s' (h2 s' hs')⟩
      ·cases ho1
    ·cases ho1
   ·cases h1
theorem regT (hT : tabB P T = true) (hcl : ClOk P cl) (hm : P.follows .mixedOrders = true) (hK : ∀ w, Kp D w0 w → K0 w) (hQ : ∀ d v c a w, Q (.panic c) (Act.put a d v) w → Q (.panic c) a w) {b : Base} {s : RS} (R : REb mk D w0 K0 sz b s a w) (oc : List (Nat × Orc)) {nl : List Nat} {id : Nat} {l : List RS} (hsel : Region.noSelect ops = true)
  (h : runDT P T cl sz ops oc nl ops.size (Array.replicate ops.size false) [] s = some l) (k : ∀ s' ∈ l, AllP s'.vc ∧ ∀ a' w', REb mk D w0 K0 sz b s' a' w' → Q .normal a' w') : (Code.region id ops true).wpIn (Fl ro) 0 P Q a w := by
 refine wpIn_region_any hm ?_
 obtain ⟨size, I, defers, hb, β, F, Rm, hsn, hs⟩ := R
 have hg := Gr.drew w
 exact (runDT_ok hT hcl hK hsel hQ ops.size _ [] s (fun _ => True) β F I a w.drew h size defers hb (Rm.gr hg) hsn hs (by simp) (fun _ _ => trivial) k).to
def leavesA (ts : List Nat) : List (List Nat) → List RS → Option (List Prop × List (List (Nat × AV) × List Blk))
 | [], [] => some ([], [])
 | l :: ls, s :: r => bif nodupB l then (match renM l s.M l, renE l s.E ts, leavesA ts ls r with
  | some M', some E', some (A, r') => some (AllP s.vc :: A, (E', M') :: r')
  | _, _, _ => none) else none
 | _, _ => none
theorem leavesA_at {ts : List Nat} {E' : List (Nat × AV)} {M' : List Blk} : ∀ {ls : List (List Nat)} {r : List RS} {A : List Prop} {o : List (List (Nat × AV) × List Blk)}, leavesA ts ls r = some (A, o) → (∀ x ∈ o, x = (E', M')) → AllP A → ∀ s ∈ r, AllP s.vc ∧ ∃ l, nodupB l = true ∧ renM l s.M l = some M' ∧ renE l s.E ts = some E'
 | [], [], _, _, _, _, _, s, hs => by cases hs
 | [], _ :: _, _, _, h, _, _, _, _ => by simp [leavesA] at h
 | _ :: _, [], _, _, h, _, _, _, _ => by simp [leavesA] at h
 | l :: ls, s :: r, A, o, h, ho, hA, s', hs' => by
  unfold leavesA at h
  cases hn : nodupB l with
  | false => simp [hn] at h
  | true =>
   simp only [hn, cond_true] at h
   split at h
   ·rename_i M1 E1 A1 r1 h1 h2 h3
    simp only [Option.some.injEq, Prod.mk.injEq] at h; obtain ⟨rfl, rfl⟩ := h
    have e := ho _ List.mem_cons_self
    simp only [Prod.mk.injEq] at e; obtain ⟨rfl, rfl⟩ := e
    rcases List.mem_cons.1 hs' with rfl | hs'
    ·exact ⟨hA.1, l, hn, h1, h2⟩
    ·exact leavesA_at h3 (fun x hx => ho x (List.mem_cons_of_mem _ hx)) hA.2 s' hs'
   ·cases h
def outDraw (P : Program) (T : Tab) (sz : Nat) (tb : Tbl) (n : Nat) (nl : List Nat) (lls : List (List Nat)) (ts : List Nat) (todo : List Item) (E : List (Nat × AV)) (M : List Blk) : Option (List Item × Prop × List (List (Nat × AV) × List Blk)) :=
 match runC P T (walk P T 3) sz tb n todo ⟨[], E, M, [], []⟩ with
 | some (.code (.region id ops true) :: k, s) => bif Region.noSelect ops then (match runDT P T (walk P T 3) sz ops (getT tb id) nl ops.size (Array.replicate ops.size false) [] s with
  | some Ls => (match leavesA ts lls Ls with | some (A, o) => some (k, AllP A, o) | none => none)
  | none => none) else none
 | _ => none
theorem toDraw (hT : tabB P T = true) (hm : P.follows .mixedOrders = true) (hK : ∀ w, Kp D w0 w → K0 w) (tb : Tbl) (n m : Nat) (nl : List Nat) (lls : List (List Nat)) (ts : List Nat) {A : Prop} {E' : List (Nat × AV)} {M' : List Blk} (r : REg mk D w0 K0 sz E M a w)
  (h : outDraw P T sz tb n nl lls ts todo E M = some (todo', A, List.replicate m (E', M'))) (hA : A) (k : ∀ a' w', REg mk D w0 K0 sz E' M' a' w' → Goes P f todo' R a' w') : Goes P f todo R a w := by
 unfold outDraw at h
 split at h
 ·rename_i id ops k0 s hr
  cases hs : Region.noSelect ops with
  | false => simp [hs] at h
  | true =>
   simp only [hs, cond_true] at h
   split at h
   ·rename_i Ls hL
    split at h
    ·rename_i A1 o ho
     simp only [Option.some.injEq, Prod.mk.injEq] at h; obtain ⟨rfl, rfl, rfl⟩ := h
     have hl := leavesA_at ho (fun x hx => List.eq_of_mem_replicate hx) hA
     obtain ⟨s1, h1, h2⟩ := runDT_vc _ _ _ _ hL
     obtain ⟨b, rb⟩ := r.b []
     refine segb hT (walk_ok hT hm 3) hm hK n hr rb (h2 (hl s1 h1).1) fun a1 w1 r1 => Goes.code ?_
     refine regT hT (walk_ok hT hm 3) hm hK (by rintro d v c a w ⟨h, -⟩; cases h) r1 _ hs hL fun s' hs' => ⟨(hl s' hs').1, fun a' w' r' => ⟨rfl, ?_⟩⟩
     obtain ⟨-, l, g1, g2, g3⟩ := hl s' hs'
     exact k a' w' (r'.re.ren g1 g2 g3)
    ·cases h
   ·cases h
 ·cases h
def outAt (P : Program) (T : Tab) (sz : Nat) (tb : Tbl) (n : Nat) (l ts : List Nat) (todo : List Item) (E : List (Nat × AV)) (M : List Blk) : Option (List Item × Prop × List (Nat × AV) × List Blk) :=
 bif nodupB l then (match runC P T (walk P T 3) sz tb n todo ⟨[], E, M, [], []⟩ with
 | some (t, s) => anewA l ts t s
 | none => none) else none
theorem toAt (hT : tabB P T = true) (hm : P.follows .mixedOrders = true) (hK : ∀ w, Kp D w0 w → K0 w) (tb : Tbl) (n : Nat) (l ts : List Nat) {A : Prop} {E' : List (Nat × AV)} {M' : List Blk} (r : REg mk D w0 K0 sz E M a w)
  (h : outAt P T sz tb n l ts todo E M = some (todo', A, E', M')) (hA : A) (k : ∀ a' w', REg mk D w0 K0 sz E' M' a' w' → Goes P f todo' R a' w') : Goes P f todo R a w := by
 unfold outAt at h
 cases hn : nodupB l with
 | false => simp [hn] at h
 | true =>
  simp only [hn, cond_true] at h
  split at h
  ·rename_i t s hr
   unfold anewA at h
   split at h
   ·rename_i M1 E1 hM hE
    simp only [Option.some.injEq, Prod.mk.injEq] at h
    obtain ⟨rfl, rfl, rfl, rfl⟩ := h
    exact seg hT (walk_ok hT hm 3) hm hK n hr r hA fun a' w' r' => k a' w' (r'.ren hn hM hE)
   ·cases h
  ·cases h
def aftR (id : Nat) : Code → List Item → List (List Item)
 | .seq x y, k => aftR id x (.code y :: k) ++ aftR id y k
 | .cond _ x y, k => aftR id x k ++ aftR id y k
 | .block i c, k => aftR id c (.inBlock i :: k)
 | .loop c, k => aftR id c (.inLoop c :: k)
 | .region i _ _, k => bif i.beq id then [k] else []
 | _, _ => []
def aft (fn : Func) (id : Nat) : List Item :=
 match fn.body with
 | some c => (match aftR id c [] with | t :: _ => t | [] => [])
 | none => []
end Go.Proofs.Ytikmdkicccfjpaa
namespace Go.Proofs.Ytikmdkicccfjpaa
open Go.RowKit
variable {mk : Bool} {P : Program} {f : FuncId}
def Le (x x' : DV) : Prop := ∀ (K : World → Prop) (y : Value) (H : Frag), DRel K x y H → DRel K x' y H
theorem Le.refl (x : DV) : Le x x := fun _ _ _ h => h
theorem Le.nilRo (k : Nat) : Le (.v (.slice none 0 0)) (.ro k []) := by
 intro K y H h
 cases h
 exact .ro (fun _ => []) (by simp) ⟨none, 0, rfl, Nat.le_refl _⟩ (fun w _ => by simpa [lay] using (SlRep.nil 0 k none).src (Holds.nil w)) (by simp)
inductive LeL : List DV → List DV → Prop where
 | nil : LeL [] []
 | cons {x x' : DV} {l l' : List DV} (h : Le x x') (t : LeL l l') : LeL (x :: l) (x' :: l')
theorem LeL.ok {l l' : List DV} (h : LeL l l') : l.length = l'.length ∧ ∀ (j : Nat) c c', l[j]? = some c → l'[j]? = some c' → Le c c' := by
 induction h with
 | nil => simp
 | cons h t ih =>
  refine ⟨by simp [ih.1], fun j c c' h1 h2 => ?_⟩
  cases j with
  | zero => simp at h1 h2; subst h1 h2; exact h
  | succ j => exact ih.2 j c c' (by simpa using h1) (by simpa using h2)
end Go.Proofs.Ytikmdkicccfjpaa
namespace Go.Proofs.Ytikmdkicccfjpaa
open Go.RowKit
variable {mk : Bool} {P : Program} {T : Tab} {f : FuncId} {a : Act} {w : World} {D : List Nat} {w0 : World} {K0 : World → Prop} {E E1 : List (Nat × AV)} {M M1 M2 : List Blk} {β : Beta} {F : Nat → Frag} {I X : Frag} {sz : Nat} {b : Base}
theorem RMx.stay {J Y : Frag} (R : RMx D w0 K0 M β F I (J ++ Y) w) : RMx D w0 K0 M β F (J ++ I) Y w where
 len := R.len
 blk := fun u bl hb => (R.blk u bl hb).mono (fun w hw => ⟨hw.1, (Holds.app.1 hw.2).2⟩) (Ext.refl _)
 st := R.st.perm (List.Perm.append_left _ (by rw [← List.append_assoc]; exact List.Perm.append_right _ List.perm_append_comm))
theorem layF_none (n k : Nat) : layF n k (fun _ _ => ([] : Frag)) = [] := by simp [layF]
theorem layF_holds {n k : Nat} {G : Nat → Nat → Frag} {w : World} (h : Holds w (layF n k G)) {i j : Nat} (hi : i < n) (hj : j < k) : Holds w (G i j) := by
 intro x hx
 exact h x (List.mem_flatMap.2 ⟨i, List.mem_range.2 hi, List.mem_flatMap.2 ⟨j, List.mem_range.2 hj, hx⟩⟩)
theorem RM.freeze (R : RM D w0 K0 M β F I w) {u T k : Nat} {rows : List (List DV)} (hu : M[u]? = some (.rw T k rows)) : ∃ F' I', RM D w0 K0 (M.set u (.rw T k (frozR rows))) β F' I' w ∧ Grows I I' := by
 have hb := R.blk u _ hu
 have hlt := (List.getElem?_eq_some_iff.1 hu).1
 have g := R.x.give hu
 generalize F u = Fu at hb g
 cases hb with
 | rw hb X G hl hs hr =>
  rename_i H0
  have g2 := (g.perm (Y := layF rows.length k G ++ (H0 ++ [])) (by rw [List.nil_append, List.append_nil]; exact List.perm_append_comm)).stay
  have hrow : ∀ (i : Nat) r, (frozR rows)[i]? = some r → ∃ r0, rows[i]? = some r0 ∧ r = r0.map froz := by
   intro i r h; rw [frozR_map, List.getElem?_map, Option.map_eq_some_iff] at h
   obtain ⟨r0, h1, h2⟩ := h; exact ⟨r0, h1, h2.symm⟩
  have hlen : (frozR rows).length = rows.length := by rw [frozR_map, List.length_map]
  have hB : BRel (fun w => K0 w ∧ Holds w (layF rows.length k G ++ I)) β u (.rw T k (frozR rows)) (H0 ++ layF (frozR rows).length k fun _ _ => []) := by
   refine .rw hb X (fun _ _ => []) (fun i r h => ?_) (by rw [hlen]; exact hs) fun i r j c x h1 h2 h3 => ?_
   ·obtain ⟨r0, h1, rfl⟩ := hrow i r h
    rw [List.length_map]; exact hl i r0 h1
   ·obtain ⟨r0, g1, rfl⟩ := hrow i r h1
    rw [List.getElem?_map, Option.map_eq_some_iff] at h2
    obtain ⟨c0, g2, rfl⟩ := h2
    refine froz_ok (hr i r0 j c0 x g1 g2 h3) fun w hw => ⟨⟨hw.1, (Holds.app.1 hw.2).2⟩, layF_holds (Holds.app.1 hw.2).1 (List.getElem?_eq_some_iff.1 g1).1 ?_⟩
    rw [← (hl i r0 g1).1]; exact (List.getElem?_eq_some_iff.1 g2).1
  rw [layF_none, List.append_nil] at hB
  have g3 := g2.put (by rw [List.length_set]; exact hlt) (by simp [updF]) hB
  rw [List.set_set] at g3
  exact ⟨_, _, g3.nil rfl, _, rfl⟩
def frzM : List Nat → List Blk → Option (List Blk)
 | [], M => some M
 | u :: r, M => match M[u]? with
  | some (.rw T k rows) => frzM r (M.set u (.rw T k (frozR rows)))
  | _ => none
theorem frz_ok : ∀ {us : List Nat} {M : List Blk} {F : Nat → Frag} {I : Frag}, frzM us M = some M1 → RM D w0 K0 M β F I w → ∃ F' I', RM D w0 K0 M1 β F' I' w ∧ Grows I I'
 | [], M, F, I, h, R => by simp only [frzM, Option.some.injEq] at h; subst h; exact ⟨F, I, R, Grows.refl I⟩
 | u :: r, M, F, I, h, R => by
  unfold frzM at h
  split at h
  ·rename_i hu
   obtain ⟨F1, I1, R1, g1⟩ := R.freeze hu
   obtain ⟨F2, I2, R2, g2⟩ := frz_ok h R1
   exact ⟨F2, I2, R2, g1.trans g2⟩
  ·cases h
theorem REg.freeze (r : REg mk D w0 K0 sz E M a w) (us : List Nat) (h : frzM us M = some M1) (e : M1 = M2) : REg mk D w0 K0 sz E M2 a w := by
 subst e
 obtain ⟨h1, I, h2, β, F, R, hs⟩ := r
 obtain ⟨F', I', R', g⟩ := frz_ok h R
 exact ⟨h1, I', h2.grow g, β, F', R', fun t v hv => (hs t v hv).mono (fun w hw => ⟨hw.1, g.holds w hw.2⟩) (Ext.refl _)⟩
theorem RM.stay1 (R : RM D w0 K0 M β F I w) {v n T k : Nat} {rows : List (List DV)} (hv : M[v]? = some (.rw T k rows)) (hn : n = rows.length) : ∃ F' I', RM D w0 K0 (M.set v .dead) β F' I' w ∧ Grows I I' ∧ ∀ y, ARel (fun w => K0 w ∧ Holds w I) β (.sl v n) y → ARel (fun w => K0 w ∧ Holds w I') β (.d (.ro k (frozR rows))) y := by
 have R1 := R.x.give hv
 rw [List.nil_append] at R1
 have hB := R.blk v _ hv
 refine ⟨updF F v [], F v ++ I, ⟨R1.len, fun u bl hu => (R1.blk u bl hu).mono (fun w hw => ⟨hw.1, (Holds.app.1 hw.2).2⟩) (Ext.refl _), R1.st.perm (List.Perm.append_left _ List.perm_append_comm)⟩, ⟨F v, rfl⟩, fun y r => ?_⟩
 generalize F v = Fv at hB ⊢
 cases r with
 | sl hb =>
  cases hB with
  | rw hb' X G hl hs hr =>
   rw [hb] at hb'; cases hb'
   have hd := DRel.em (K := fun w => K0 w ∧ Holds w I) X G hl hs hr
   have := froz_ok (K' := fun w => K0 w ∧ Holds w (_ ++ I)) hd fun w hw => ⟨⟨hw.1, (Holds.app.1 hw.2).2⟩, (Holds.app.1 hw.2).1⟩
   rw [froz] at this
   rw [hn]
   exact .d this
def stS : List Nat → List (Nat × AV) → List Blk → Option (List Prop × List (Nat × AV) × List Blk)
 | [], E, M => some ([], E, M)
 | t :: r, E, M => match lookA E t with
  | some (.sl v n) => (match M[v]? with
   | some (.rw _ k rows) => (match stS r (repA E t (.d (.ro k (frozR rows)))) (M.set v .dead) with | some (p, E', M') => some ((n = rows.length) :: p, E', M') | none => none)
   | _ => none)
  | _ => none
def stC : List (Nat × Nat) → List Blk → Option (List Prop × List Blk)
 | [], M => some ([], M)
 | (u, o) :: r, M => match M[u]? with
  | some (.bx Tb cells) => (match cells[o]? with
   | some (.sl v n) => (match M[v]? with
    | some (.rw _ k rows) => (match stC r ((M.set v .dead).set u (.bx Tb (cells.set o (.d (.ro k (frozR rows)))))) with | some (p, M') => some ((n = rows.length) :: p, M') | none => none)
    | _ => none)
   | _ => none)
  | _ => none
theorem stS_ok {ev : Nat → Value} : ∀ {ls : List Nat} {E : List (Nat × AV)} {M : List Blk} {F : Nat → Frag} {I : Frag} {p : List Prop}, stS ls E M = some (p, E1, M1) → AllP p → RM D w0 K0 M β F I w → (∀ t v, lookA E t = some v → ARel (fun w => K0 w ∧ Holds w I) β v (ev t)) →
  ∃ F' I', RM D w0 K0 M1 β F' I' w ∧ Grows I I' ∧ ∀ t v, lookA E1 t = some v → ARel (fun w => K0 w ∧ Holds w I') β v (ev t)
 | [], E, M, F, I, p, h, _, R, hs => by
  simp only [stS, Option.some.injEq, Prod.mk.injEq] at h; obtain ⟨-, rfl, rfl⟩ := h
  exact ⟨F, I, R, Grows.refl I, hs⟩
 | t :: r, E, M, F, I, p, h, hp, R, hs => by
  unfold stS at h
  split at h
  ·rename_i v n ht
   split at h
   ·rename_i T k rows hv
    split at h
    ·rename_i p' E' M' hr
     simp only [Option.some.injEq, Prod.mk.injEq] at h; obtain ⟨rfl, e1, e2⟩ := h
     rw [e1, e2] at hr
     obtain ⟨F2, I2, R2, g, hA⟩ := R.stay1 hv hp.1
     suffices h9 : ∀ s x, lookA (repA E t (.d (.ro k (frozR rows)))) s = some x → ARel (fun w => K0 w ∧ Holds w I2) β x (ev s) by
      obtain ⟨F', I', q1, q2, q3⟩ := stS_ok (ev := ev) hr hp.2 R2 h9
      exact ⟨F', I', q1, g.trans q2, q3⟩
     intro s x hx
     rcases repA_at hx with ⟨rfl, rfl, -⟩ | ⟨-, h2⟩
     ·exact hA _ (hs _ _ ht)
     ·exact (hs s x h2).mono (fun w hw => ⟨hw.1, g.holds w hw.2⟩) (Ext.refl _)
    ·cases h
   ·cases h
  ·cases h
theorem stC_ok : ∀ {lc : List (Nat × Nat)} {M : List Blk} {F : Nat → Frag} {I : Frag} {p : List Prop}, stC lc M = some (p, M1) → AllP p → RM D w0 K0 M β F I w → ∃ F' I', RM D w0 K0 M1 β F' I' w ∧ Grows I I'
 | [], M, F, I, p, h, _, R => by
  simp only [stC, Option.some.injEq, Prod.mk.injEq] at h; obtain ⟨-, rfl⟩ := h
  exact ⟨F, I, R, Grows.refl I⟩
 | (u, o) :: r, M, F, I, p, h, hp, R => by
  unfold stC at h
  split at h
  ·rename_i Tb cells hu
   split at h
   ·rename_i v n ho
    split at h
    ·rename_i T k rows hv
     split at h
     ·rename_i p' M' hr
      simp only [Option.some.injEq, Prod.mk.injEq] at h; obtain ⟨rfl, e1⟩ := h
      rw [e1] at hr
      have huv : v ≠ u := fun e => by subst e; rw [hu] at hv; cases hv
      obtain ⟨F2, I2, R2, g, hA⟩ := R.stay1 hv hp.1
      have hB := R.blk u _ hu
      obtain ⟨hlt, -⟩ := List.getElem?_eq_some_iff.1 hu
      have hu2 : (M.set v .dead)[u]? = some (.bx Tb cells) := by rw [List.getElem?_set, if_neg huv]; exact hu
      have hFu := R2.blk u _ hu2
      have hnew : BRel (fun w => K0 w ∧ Holds w I2) β u (.bx Tb (cells.set o (.d (.ro k (frozR rows))))) (F2 u) := by
       have hst : ∀ {G : Frag}, BRel (fun w => K0 w ∧ Holds w I2) β u (.bx Tb cells) G → G = F2 u → BRel (fun w => K0 w ∧ Holds w I) β u (.bx Tb cells) (F u) → F2 u = F u → BRel (fun w => K0 w ∧ Holds w I2) β u (.bx Tb (cells.set o (.d (.ro k (frozR rows))))) (F2 u) := by
        intro G _ _ h3 h4
        rw [h4]
        generalize F u = Fu at h3 ⊢
        cases h3 with
        | bx hb ys hl hr2 =>
         refine .bx hb ys (by rw [List.length_set]; exact hl) fun j c y h1 h2 => ?_
         rw [List.getElem?_set] at h1
         split at h1
         ·rename_i hj; subst hj
          split at h1
          ·simp only [Option.some.injEq] at h1; subst h1
           exact hA _ (hr2 _ _ _ ho h2)
          ·cases h1
         ·exact (hr2 j c y h1 h2).mono (fun w hw => ⟨hw.1, g.holds w hw.2⟩) (Ext.refl _)
       have hF2 : F2 u = F u := by
        generalize hq : F2 u = q at hFu
        generalize hq0 : F u = q0 at hB
        cases hFu with
        | bx hb ys hl hr2 =>
         cases hB with
         | bx hb' ys' hl' hr2' =>
          rw [hb] at hb'; cases hb'
          have h1 : Holds w (F2 u) := R2.holdsF hu2
          have h2 : Holds w (F u) := R.holdsF hu
          rw [hq] at h1; rw [hq0] at h2
          have e1 := h1.one
          have e2 := h2.one
          rw [e1] at e2
          simp only [Option.some.injEq, Obj.cells.injEq] at e2
          rw [e2.1]
       exact hst hFu rfl hB hF2
      have R3 : RM D w0 K0 ((M.set v .dead).set u (.bx Tb (cells.set o (.d (.ro k (frozR rows)))))) β F2 I2 w := by
       refine ⟨by rw [List.length_set]; exact R2.len, fun x bl hx => ?_, by rw [List.length_set]; exact R2.st⟩
       rw [List.getElem?_set] at hx
       split at hx
       ·rename_i e; subst e
        split at hx
        ·simp only [Option.some.injEq] at hx; subst hx; exact hnew
        ·cases hx
       ·exact R2.blk x bl hx
      obtain ⟨F4, I4, R4, g4⟩ := stC_ok hr hp.2 R3
      exact ⟨F4, I4, R4, g.trans g4⟩
     ·cases h
    ·cases h
   ·cases h
  ·cases h
theorem REg.stay {E2 : List (Nat × AV)} {M3 : List Blk} {p1 p2 : List Prop} (r : REg mk D w0 K0 sz E M a w) (ls : List Nat) (lc : List (Nat × Nat)) (h : stS ls E M = some (p1, E1, M1)) (h2 : stC lc M1 = some (p2, M2)) (q1 : AllP p1) (q2 : AllP p2) (e : E1 = E2) (e2 : M2 = M3) : REg mk D w0 K0 sz E2 M3 a w := by
 subst e e2
 obtain ⟨g1, I, g2, β, F, R, hs⟩ := r
 obtain ⟨F1, I1, R1, gI, s1⟩ := stS_ok (ev := fun t => a.eval (.tmp t)) h q1 R hs
 obtain ⟨F2, I2, R2, g⟩ := stC_ok h2 q2 R1
 exact ⟨g1, I2, (g2.grow gI).grow g, β, F2, R2, fun t v hv => (s1 t v hv).mono (fun w hw => ⟨hw.1, g.holds w hw.2⟩) (Ext.refl _)⟩
def dAll : List AV → Option (List DV)
 | [] => some []
 | .d x :: r => (match dAll r with | some l => some (x :: l) | none => none)
 | _ => none
theorem dAll_eq : ∀ {l : List AV} {ds : List DV}, dAll l = some ds → l = ds.map .d
 | [], ds, h => by simp only [dAll, Option.some.injEq] at h; subst h; rfl
 | c :: r, ds, h => by
  unfold dAll at h
  split at h
  ·simp_all
  ·rename_i x r' heq
   simp only [List.cons.injEq] at heq
   obtain ⟨rfl, rfl⟩ := heq
   split at h
   ·rename_i l hl
    simp only [Option.some.injEq] at h; subst h
    rw [dAll_eq hl]; rfl
   ·cases h
  ·cases h
theorem lookA_map {f : AV → AV} : ∀ {E : List (Nat × AV)} {t : Nat} {v : AV}, lookA (E.map fun x => (x.1, f x.2)) t = some v → ∃ v0, lookA E t = some v0 ∧ v = f v0
 | [], t, v, h => by simp [lookA] at h
 | (k, x) :: r, t, v, h => by
  rw [List.map_cons] at h
  unfold lookA at h ⊢
  cases hk : k.beq t with
  | true => simp only [hk, cond_true, Option.some.injEq] at h ⊢; exact ⟨x, rfl, h.symm⟩
  | false => simp only [hk, cond_false] at h ⊢; exact lookA_map h
end Go.Proofs.Ytikmdkicccfjpaa
namespace Go.Proofs.Ytikmdkicccfjpaa
open Go.RowKit Go.Maps
variable {mk : Bool} {P : Program} {T : Tab} {f : FuncId} {R : Tgt} {a : Act} {w : World} {D : List Nat} {w0 : World} {K0 : World → Prop} {E : List (Nat × AV)} {M : List Blk} {sz : Nat} {todo : List Item}
def nextOps (ops : Array Oper) : Option (Nat × Nat × Nat) := match ops with
 | ⟨[⟨some d1, .next (.tmp t) false, _, _, _, none⟩, ⟨some d2, .extract (.tmp d3) 0, _, _, _, none⟩]⟩ => bif d1.beq d3 then some (t, d1, d2) else none
 | _ => none
theorem toNext (hT : tabB P T = true) (hm : P.follows .mixedOrders = true) (hK : ∀ w, Kp D w0 w → K0 w) (n : Nat) {id t d1 d2 ui um since c T' ck : Nat} {seen : List Nat} {es : List (Nat × MK × DV)} {k : List Item} {ops : Array Oper} (r : REg mk D w0 K0 sz E M a w)
  (h : runC P T (walk P T 3) sz [] n todo ⟨[], E, M, [], []⟩ = some (.code (.region id ops false) :: k, ⟨[], E, M, [], []⟩)) (ho : nextOps ops = some (t, d1, d2))
  (hd : (Nat.blt d1 sz && Nat.blt d2 sz && !(Nat.beq d1 d2) && !(Nat.beq d1 t)) = true) (hx : (lookA E d1).isNone = true ∧ (lookA E d2).isNone = true) (he : lookA E t = some (.pt ui 0)) (hi : M[ui]? = some (.it (some um) since seen c)) (hmm : M[um]? = some (.mp T' ck es))
  (h1 : ∀ e ∈ es, e.1 < since) (h2 : since ≤ c)
  (k0 : (∀ e ∈ es, e.1 ∈ seen) → ∀ a' w', REg mk D w0 K0 sz ((d2, .d (.v (.bool false))) :: E) M a' w' → Goes P f k R a' w')
  (k1 : ∀ (j b : Nat) (key : MK) (x : DV), es[j]? = some (b, key, x) → b ∉ seen → ∀ a' w', REg mk D w0 K0 sz ((d2, .d (.v (.bool true))) :: E) (M.set ui (.it (some um) since (seen ++ [b]) ck)) a' w' → Goes P f k R a' w') : Goes P f todo R a w := by
 refine seg hT (walk_ok hT hm 3) hm hK n h r trivial fun a w r => ?_
 clear h
 unfold nextOps at ho
 split at ho
 ·rename_i d1' t' ty1 p1 af1 d2' d3 ty2 p2 af2
  cases hb3 : d1'.beq d3 with
  | false => simp [hb3] at ho
  | true =>
   simp only [hb3, cond_true, Option.some.injEq, Prod.mk.injEq] at ho
   obtain ⟨rfl, rfl, rfl⟩ := ho
   obtain rfl := Nat.eq_of_beq_eq_true hb3
   simp only [Bool.and_eq_true, Bool.not_eq_true', Nat.blt_eq] at hd
   obtain ⟨⟨⟨hd1, hd2⟩, hd3⟩, hd4⟩ := hd
   have ne12 : d1' ≠ d2' := fun e => by subst e; simp at hd3
   obtain ⟨hsz, I, hdef, β, F, Rm, hs⟩ := r
   have hp := hs _ _ he
   generalize hy : a.eval (.tmp t') = y at hp
   cases hp with
   | @pt _ _ bi ci hbi =>
    obtain ⟨H1, hF1, hB1, hH1⟩ := Rm.at hi
    obtain ⟨H2, hF2, hB2, hH2⟩ := Rm.at hmm
    cases hB1 with
    | @it b bm c0 _ _ _ _ hbi' hmb =>
     rw [hbi] at hbi'; cases hbi'
     obtain ⟨c', hbm⟩ := hmb um rfl
     cases hB2 with
     | mp hb' vs G hl hr =>
      rw [hbm] at hb'; cases hb'
      have e1 := hH1.one
      have e2 := hH2.one
      have slots : ∀ (v1 v2 : Value) (c2 : AV) (β' : Beta) (I' : Frag) (K' : World → Prop), (∀ t v, lookA E t = some v → ARel K' β' v (a.eval (.tmp t))) → ARel K' β' c2 v2 →
        (((a.put (some d1') v1).put (some d2') v2).tmps.size = sz ∧ ((a.put (some d1') v1).put (some d2') v2).defers = a.defers ∧ ∀ t v, lookA ((d2', c2) :: E) t = some v → ARel K' β' v (((a.put (some d1') v1).put (some d2') v2).eval (.tmp t))) := by
       intro v1 v2 c2 β' I' K' hh h2'
       refine ⟨by simp [Act.put, hsz], by simp [Act.put], fun t v hv => ?_⟩
       unfold lookA at hv
       cases hk : d2'.beq t with
       | true =>
        simp only [hk, cond_true, Option.some.injEq] at hv; subst hv
        rw [← Nat.eq_of_beq_eq_true hk, eval_put_same _ d2' v2 (by simp [Act.put, hsz]; exact hd2)]; exact h2'
       | false =>
        simp only [hk, cond_false] at hv
        rw [eval_put_other _ d2' t v2 (fun e => by subst e; simp at hk)]
        rw [eval_put_other _ d1' t v1 (fun e => by subst e; rw [hv] at hx; simp at hx)]
        exact hh t v hv
      refine Goes.code (region_seqI ?_)
      show wpL P _ _ [(_, false), (_, false)] a w
      unfold wpL
      simp only [cond_false]
      refine y_nextM hy e1 e2 (fun x hx' => ?_) h2 (fun h0 => ?_) (fun en hen w1 g1 hh1 => ?_)
      ·obtain ⟨j, hj, rfl⟩ := List.getElem_of_mem hx'
       obtain ⟨e, v, a1, a2, a3⟩ := mEs_at (j := j) hl (List.getElem?_eq_getElem (by simpa using hj))
       rw [show (mEs es vs).toArray.toList[j] = (mEs es vs)[j]'(by simpa using hj) from rfl, a3]
       exact h1 e (List.mem_of_getElem? a1)
      ·unfold wpL
       simp only [cond_false]
       refine y_extract (vs := #[.bool false]) (v := .bool false) (by rw [eval_put_same _ d1' _ (by rw [hsz]; exact hd1)]) rfl ?_
       unfold wpL
       refine ⟨rfl, k0 (fun e he' => ?_) _ _ ?_⟩
       ·obtain ⟨j, hj, rfl⟩ := List.getElem_of_mem he'
        have hv : vs[j]? = some vs[j] := List.getElem?_eq_getElem (by omega)
        have hm' := mEs_of (List.getElem?_eq_getElem hj) hv
        unfold leftE at h0
        have := Array.filter_eq_empty_iff.1 (Array.eq_empty_of_size_eq_zero h0) _ (by simpa using List.mem_of_getElem? hm')
        simpa using this
       ·obtain ⟨q1, q2, q3⟩ := slots (.tuple #[.bool false]) (.bool false) (.d (.v (.bool false))) β I _ hs (.d (.v _))
        exact ⟨q1, I, by rw [q2]; exact hdef, β, F, Rm, q3⟩
      ·unfold wpL
       simp only [cond_false]
       refine y_extract (vs := #[.bool true, en.key, en.val]) (v := .bool true) (by rw [eval_put_same _ d1' _ (by rw [hsz]; exact hd1)]) rfl ?_
       unfold wpL
       unfold leftE at hen
       simp only [Array.toList_filter, List.mem_filter] at hen
       obtain ⟨hen1, hen2⟩ := hen
       obtain ⟨j, hj, rfl⟩ := List.getElem_of_mem hen1
       obtain ⟨e, v, a1, a2, a3⟩ := mEs_at (j := j) hl (List.getElem?_eq_getElem (by simpa using hj))
       have hborn : (mEs es vs).toArray.toList[j].born = e.1 := by rw [show (mEs es vs).toArray.toList[j] = (mEs es vs)[j]'(by simpa using hj) from rfl, a3]
       rw [hborn] at hen2 ⊢
       refine ⟨rfl, k1 j e.1 e.2.1 e.2.2 (by rw [a1]) (by simpa using hen2) _ _ ?_⟩
       have R1 := Rm.gr g1
       have R2 := R1.set hi hF1 (o' := .mapIter (some bm) since (seen.toArray.push e.1) ck) (blk' := .it (some um) since (seen ++ [e.1]) ck) (by
        have := BRel.it (K := fun w => K0 w ∧ Holds w I) (u := ui) (b := bi) (bm := bm) (since := since) (ck := ck) (um := some um) (seen := seen ++ [e.1]) hbi (fun v hv => by cases hv; exact ⟨_, hbm⟩)
        rw [show (seen ++ [e.1]).toArray = seen.toArray.push e.1 by simp] at this
        exact this)
       obtain ⟨q1, q2, q3⟩ := slots (.tuple #[.bool true, (mEs es vs).toArray.toList[j].key, (mEs es vs).toArray.toList[j].val]) (.bool true) (.d (.v (.bool true))) β I _ hs (.d (.v _))
       exact ⟨q1, I, by rw [q2]; exact hdef, β, _, R2, q3⟩
 ·simp at ho
end Go.Proofs.Ytikmdkicccfjpaa
namespace Go.Proofs.Ytikmdkicccfjpaa
open Go.RowKit
variable {mk : Bool} {P : Program} {T : Tab} {f : FuncId} {R : Tgt} {a : Act} {w : World} {D : List Nat} {w0 : World} {K0 : World → Prop} {E : List (Nat × AV)} {M : List Blk} {β : Beta} {F : Nat → Frag} {I : Frag} {sz : Nat} {todo todo' : List Item}
theorem Goes.rangeFunc {g : Operand} {ps : Array Tmp} {asg body : Code} {k : List Item} {l : Nat} {mark : List Deferred} {w1 w2 wd : World} {gf : FuncId} {args : Array Value} {dd : Deferred} (hro : R.ro = none)
  (he : (Instr.enterLoop f a.tmps ps asg body none).run P w = .ok (l, mark) w1) (hres : (resolve a.eval (rangeCall g l) 0).run P w1 = .ok dd wd) (hinv : (invoke dd.target dd.args).run P wd = .ok (.enter gf args) w2)
  (hc : Calls P gf args w2 fun e w3 => ∃ v, e = .returned v ∧ ∃ j w4, (Instr.endLoop l).run P w3 = .ok j w4 ∧ Goes P f ((j.map Item.code).toList ++ k) R { a with defers := mark ++ a.defers } w4) : Goes P f (.code (.rangeFunc g ps asg body) :: k) R a w := by
 intro b cs hb hk hr
 have hrn : b.roundOf = none := hr.trans hro
 have s1 := stepR_rangeFunc (P := P) (b := b) (a := a) (k := k) (cs := cs) (w := w) (by rw [hb, hrn]; exact he) hres hinv
 obtain ⟨e, w3, fr, ⟨v, rfl, j, w4, hend, hg⟩, hcome, hfn, hleave⟩ := hc (b.atR { a with defers := mark ++ a.defers } (.inRangeFunc l :: k) :: cs)
 have s2 := step_leave_returned (P := P) (c := b.atR { a with defers := mark ++ a.defers } (.inRangeFunc l :: k)) (cs := cs) hleave
 rw [finish_atR_inRangeFunc] at s2
 have s3 := stepR_endRangeFunc (P := P) (b := b) (a := { a with defers := mark ++ a.defers }) (k := k) (cs := cs) hend
 have hs : Steps P _ _ := hcome
 exact (hg b cs hb hk hr).of ((Steps.one s1).trans (hs.trans ((Steps.one s2).trans (.one s3))))
def pickR (E : List (Nat × AV)) : List Nat → Option (List (Nat × AV))
 | [] => some []
 | t :: r => (match lookA E t, pickR E r with | some v, some l => some ((t, v) :: l) | _, _ => none)
theorem pickR_ok : ∀ {ts : List Nat} {E1 : List (Nat × AV)}, pickR E ts = some E1 → ∀ x ∈ E1, lookA E x.1 = some x.2
 | [], E1, h, x, hx => by simp only [pickR, Option.some.injEq] at h; subst h; cases hx
 | t :: r, E1, h, x, hx => by
  unfold pickR at h
  split at h
  ·rename_i v l h1 h2
   simp only [Option.some.injEq] at h; subst h
   rcases List.mem_cons.1 hx with rfl | hx
   ·exact h1
   ·exact pickR_ok h2 x hx
  ·simp at h
def LS.still : LS → Bool
 | .busy => false
 | _ => true
def LS.then : LS → List Item → List Item
 | .left, k => .code .ret :: k
 | _, k => k
def outRange (P : Program) (T : Tab) (f : FuncId) (sz : Nat) (tb : Tbl) (n : Nat) (l ts : List Nat) (x : AV) (M' : List Blk) (keep slots : List Nat) (todo : List Item) (E : List (Nat × AV)) (M : List Blk) : Option (List Item × Prop × List (Nat × AV) × List Blk) :=
 match runC P T (walk P T 3) sz tb n todo ⟨[], E, M, [], []⟩ with
 | some (.code (.rangeFunc (.tmp g) ps asg body) :: k, s) => (match lookA s.E g, pickR s.E ts with
  | some (.fn gf caps), some E1 => (match ren2L (l ++ [s.M.length]) (.yl s.M.length :: caps), renM (l ++ [s.M.length]) (s.M ++ [.lp .ready f sz E1 ⟨ps, asg, body⟩]) (l ++ [s.M.length]) with
   | some told, some Ms => bif nodupB (l ++ [s.M.length]) && Nat.ble (l ++ [s.M.length]).length M'.length && callable P gf && nodupB keep then
    (match (putL (deadL (s.M ++ [.lp .ready f sz E1 ⟨ps, asg, body⟩]) (l ++ [s.M.length]) ++ (M'.drop (l ++ [s.M.length]).length).map (mapB (outer (l ++ [s.M.length]) (s.M.length + 1)))) (l ++ [s.M.length]) ((M'.take (l ++ [s.M.length]).length).map (mapB (outer (l ++ [s.M.length]) (s.M.length + 1)))))[s.M.length]? with
    | some (.lp ls _ _ _ _) => bif ls.still then anewA keep slots (ls.then k) ⟨ConM P gf told Ms x M' :: s.vc, s.E, (putL (deadL (s.M ++ [.lp .ready f sz E1 ⟨ps, asg, body⟩]) (l ++ [s.M.length]) ++ (M'.drop (l ++ [s.M.length]).length).map (mapB (outer (l ++ [s.M.length]) (s.M.length + 1)))) (l ++ [s.M.length]) ((M'.take (l ++ [s.M.length]).length).map (mapB (outer (l ++ [s.M.length]) (s.M.length + 1))))).set s.M.length .dead, [], []⟩ else none
    | _ => none) else none
   | _, _ => none)
  | _, _ => none)
 | _ => none
theorem run_endL {l : Nat} {r : Loop} {ls : LS} (h : w.heap[l]? = some (.loop r)) (hst : ls.still = true) (hs : r.state = ls.state) (hp : r.pending = ls.pend) : (Instr.endLoop l).run P w = .ok ls.pend (setB w l (.loop { r with state := .exhausted })) := by
 unfold Instr.endLoop Instr.getLoop
 simp only [Sem.run_bind, run_getA h rfl, Result.andThen_ok, Sem.run_pure, hs, hp]
 rw [if_neg (by cases ls <;> first | decide | simp [LS.still] at hst)]
 simp only [Sem.run_bind, run_setA h rfl, Result.andThen_ok, Sem.run_pure]
theorem LS.then_eq (ls : LS) (k : List Item) : (ls.pend.map Item.code).toList ++ k = ls.then k := by cases ls <;> rfl
theorem toRange (hT : tabB P T = true) (hm : P.follows .mixedOrders = true) (hK : ∀ w, Kp D w0 w → K0 w) (hro : R.ro = none) (tb : Tbl) (n : Nat) (l ts : List Nat) (x : AV) (M' : List Blk) (keep slots : List Nat) {A : Prop} {E2 : List (Nat × AV)} {M2 : List Blk} (r : REg true D w0 K0 sz E M a w)
  (h : outRange P T f sz tb n l ts x M' keep slots todo E M = some (todo', A, E2, M2)) (hA : A) (k : ∀ a' w', REg true D w0 K0 sz E2 M2 a' w' → Goes P f todo' R a' w') : Goes P f todo R a w := by
 unfold outRange at h
 split at h
 rotate_left
 ·simp at h
 rename_i g ps asg body k0 s hr
 split at h
 rotate_left
 ·simp at h
 rename_i gf caps E1 hg hE1
 split at h
 rotate_left
 ·simp at h
 rename_i told Ms htold hMs
 generalize hll : l ++ [s.M.length] = l2 at h htold hMs
 generalize hlp : (Blk.lp .ready f sz E1 ⟨ps, asg, body⟩) = lp at h hMs
 cases hc : (nodupB l2 && Nat.ble l2.length M'.length && callable P gf && nodupB keep) with
 | false => simp only [hc, cond_false, reduceCtorEq] at h
 | true =>
  simp only [hc, cond_true] at h
  simp only [Bool.and_eq_true] at hc
  obtain ⟨⟨⟨hnd, hle⟩, hcall⟩, hkeep⟩ := hc
  generalize hMo : putL (deadL (s.M ++ [lp]) l2 ++ (M'.drop l2.length).map (mapB (outer l2 (s.M.length + 1)))) l2 ((M'.take l2.length).map (mapB (outer l2 (s.M.length + 1)))) = Mo at h
  split at h
  rotate_left
  ·simp at h
  rename_i ls f9 sz9 E9 rf9 hMo9
  cases hst : ls.still with
  | false => simp only [hst, cond_false, reduceCtorEq] at h
  | true =>
  simp only [hst, cond_true] at h
  obtain ⟨rfl, rfl, h3, h4⟩ := anewA_ok h
  obtain ⟨hcon, hvs⟩ := hA
  refine seg hT (walk_ok hT hm 3) hm hK n hr r hvs fun a w r => ?_
  obtain ⟨hsz, I, hmk, β, F, Rm, hs⟩ := r
  have hgv := hs g _ hg
  generalize hy : a.eval (.tmp g) = y at hgv
  cases hgv with
  | fn cs hcl hcr =>
   have he := run_enterLoop_outer (P := P) (w := w) f a.tmps ps asg body
   refine Goes.rangeFunc (wd := (w.alloc (.deferred (some []))).alloc (.loop { state := .ready, pending := none, fn := f, tmps := a.tmps, params := ps, assign := asg, body, defers := w.heap.size })) (w2 := (w.alloc (.deferred (some []))).alloc (.loop { state := .ready, pending := none, fn := f, tmps := a.tmps, params := ps, assign := asg, body, defers := w.heap.size })) (gf := gf) (args := #[.func (.yield (w.heap.size + 1)) #[] #[]] ++ cs.toArray) (dd := { target := .fn (.func gf) cs.toArray, args := #[.func (.yield (w.heap.size + 1)) #[] #[]] }) hro he (by
    simp only [resolve, hy]
    simp [go_sem]) (by simp [invoke, go_sem, run_call hcall]) ?_
   have R1 : RM D w0 K0 s.M β F ((w.heap.size, .deferred (some [])) :: I) (w.alloc (.deferred (some []))) := by
    refine ⟨Rm.len, fun u b hb => (Rm.blk u b hb).mono (fun w hw => ⟨hw.1, (Holds.app.1 (show Holds w ([_] ++ I) from hw.2)).2⟩) (Ext.refl _), ?_⟩
    have := Rm.st.alloc (.deferred (some []))
    exact this.perm (by classical rw [List.perm_iff_count]; intro z; simp only [List.count_append, List.count_cons]; omega)
   have gI : Grows I ((w.heap.size, .deferred (some [])) :: I) := ⟨[_], rfl⟩
   have hs1 : ∀ t v, lookA s.E t = some v → ARel (fun w' => K0 w' ∧ Holds w' ((w.heap.size, .deferred (some [])) :: I)) β v (a.eval (.tmp t)) := fun t v hv => (hs t v hv).mono (fun w hw => ⟨hw.1, gI.holds w hw.2⟩) (Ext.refl _)
   have R2 := R1.new (q := (some ⟨w.heap.size + 1, 0, none⟩, 0)) (blk := lp) (Gr.alloc _ (.loop { state := .ready, pending := none, fn := f, tmps := a.tmps, params := ps, assign := asg, body, defers := w.heap.size })) (by have := NewF.alloc (w.alloc (.deferred (some []))) (.loop { state := .ready, pending := none, fn := f, tmps := a.tmps, params := ps, assign := asg, body, defers := w.heap.size }); rwa [World.size_alloc] at this) (by
    subst hlp
    exact .lp (bz := .ready) (new_at R1 _) hsz fun x hx => (hs1 x.1 x.2 (pickR_ok hE1 x hx)).mono (fun _ h => h) (Ext.app _ _))
   have hlen2 : (s.M ++ [lp]).length = s.M.length + 1 := by simp
   have hb2 := new_at R1 (some ⟨w.heap.size + 1, 0, none⟩, 0)
   have hcs := conM_calls (vs := .yl s.M.length :: caps) (ys := .func (.yield (w.heap.size + 1)) #[] #[] :: cs) R2 hK (by simp [hcl]) (fun j c y e1 e2 => by
    cases j with
    | zero => simp at e1 e2; subst e1 e2; exact .yl hb2
    | succ j => simp at e1 e2; exact ((hcr j c y e1 e2).mono (fun w hw => ⟨hw.1, gI.holds w hw.2⟩) (Ext.refl _)).mono (fun _ h => h) (Ext.app _ _)) htold hMs (nodupB_ok hnd) (Nat.le_of_ble_eq_true hle) hcon
   rw [hlen2, hMo] at hcs
   have hargs : (#[.func (.yield (w.heap.size + 1)) #[] #[]] ++ cs.toArray : Array Value) = (Value.func (.yield (w.heap.size + 1)) #[] #[] :: cs).toArray := by simp
   rw [hargs]
   refine hcs.mono ?_
   rintro e w3 ⟨v, rfl, β3, F3, I3, R3, e3, g3, -, -⟩
   refine ⟨v, rfl, ?_⟩
   obtain ⟨H, hF, hB, hH⟩ := R3.at hMo9
   have hβ3 : β3[s.M.length]? = some (some ⟨w.heap.size + 1, 0, none⟩, 0) := e3 _ _ (by simp) hb2
   cases hB with
   | @lp b0 c0 f0 sz0 dfr bz E0 rf0 tmps hb hsz0 hr0 =>
    rw [hβ3] at hb; cases hb
    refine ⟨_, _, run_endL (ls := ls) hH.one hst rfl rfl, ?_⟩
    rw [LS.then_eq]
    have R4 := R3.x.give hMo9
    rw [List.nil_append, hF] at R4
    have R5 : RM D w0 K0 (Mo.set s.M.length .dead) β3 (updF F3 s.M.length []) I3 (setB w3 (w.heap.size + 1) (.loop { state := .exhausted, pending := ls.pend, fn := f9, tmps, params := rf9.ps, assign := rf9.asg, body := rf9.body, defers := dfr })) := by
     refine ⟨R4.len, R4.blk, ?_⟩
     have s1 := (R4.st.perm (K := (w.heap.size + 1, .loop { state := ls.state, pending := ls.pend, fn := f9, tmps, params := rf9.ps, assign := rf9.asg, body := rf9.body, defers := dfr }) :: ((List.range (Mo.set s.M.length .dead).length).flatMap (updF F3 s.M.length []) ++ I3)) (by classical rw [List.perm_iff_count]; intro z; simp only [List.count_append, List.count_cons, List.count_nil]; omega)).set (.loop { state := .exhausted, pending := ls.pend, fn := f9, tmps, params := rf9.ps, assign := rf9.asg, body := rf9.body, defers := dfr })
     exact St.app_right (H := [_]) s1
    refine k _ _ (REg.ren (mk := true) (a := { a with defers := [{ target := .collected w.heap.size, args := #[] }] ++ a.defers }) (E := s.E) (M := Mo.set s.M.length .dead) ⟨hsz, I3, ?_, β3, _, R5, fun t v hv => ?_⟩ hkeep h3 h4)
    ·have := Mk.grow hmk (gI.trans g3)
     refine ⟨List.nodup_cons.2 ⟨fun hd => ?_, this.1⟩, fun d hd => ?_⟩
     ·obtain ⟨b, e1, e2⟩ := hmk.2 _ hd
      cases e1
      have hlt := (Array.getElem?_eq_some_iff.1 ((Holds.app.1 Rm.st.holds).2 _ e2)).1
      exact absurd hlt (Nat.lt_irrefl _)
     rcases List.mem_append.1 hd with hd | hd
     ·rw [List.mem_singleton] at hd; subst hd
      obtain ⟨J, hJ⟩ := g3
      exact ⟨_, rfl, by rw [hJ]; exact List.mem_append_right _ List.mem_cons_self⟩
     ·exact this.2 d hd
    ·exact ((hs1 t v hv).mono (fun w hw => ⟨hw.1, g3.holds w hw.2⟩) (Ext.refl _)).mono (fun _ h => h) (fun u q hq => e3 u q (by simp) (Ext.app _ _ _ _ hq))
end Go.Proofs.Ytikmdkicccfjpaa
namespace Go.Proofs.Ytikmdkicccfjpaa
open Go.RowKit
variable {mk : Bool} {P : Program} {T : Tab} {f : FuncId} {R : Tgt} {Re : Ending → World → Prop} {a : Act} {w : World} {D : List Nat} {w0 : World} {K0 : World → Prop} {E : List (Nat × AV)} {M : List Blk} {β : Beta} {F : Nat → Frag} {I H : Frag} {sz : Nat} {tb : Tbl} {todo todo' : List Item}
def IndA (x : AV) : Prop := ∀ (K K' : World → Prop) (β : Beta) (y : Value), ARel K β x y → ARel K' β x y
def IndB (b : Blk) : Prop := ∀ (K K' : World → Prop) (β : Beta) (u : Nat) (H : Frag), BRel K β u b H → BRel K' β u b H
theorem IndA.v (x : Value) : IndA (.d (.v x)) := fun K K' β y r => by cases r with | d r => cases r with | v => exact .d (.v _)
theorem IndA.mv (u : Nat) : IndA (.mv u) := fun K K' β y r => by cases r with | mv h => exact .mv h
theorem IndA.pt (u o : Nat) : IndA (.pt u o) := fun K K' β y r => by cases r with | pt h => exact .pt h
theorem IndB.bx {T : Nat} {cells : List AV} (h : ∀ c ∈ cells, IndA c) : IndB (.bx T cells) := fun K K' β u H r => by
 cases r with | bx hb ys hl hr => exact .bx hb ys hl (fun j c y h1 h2 => h c (List.mem_of_getElem? h1) _ _ _ _ (hr j c y h1 h2))
theorem IndB.mu {T c : Nat} {es : List (MK × DV)} (h : ∀ e ∈ es, Ind e.2) : IndB (.mu T c es) := fun K K' β u H r => by
 cases r with | mu es' hp hn hlt hb vs G hl hr => exact .mu es' hp hn hlt hb vs G hl (fun j e y h1 h2 => h e.2 (hp.mem_iff.1 (List.mem_map_of_mem (List.mem_of_getElem? h1))) _ _ _ _ (hr j e y h1 h2))
def Shut (P : Program) : List Deferred → World → World → Prop
 | [], w, w' => w = w'
 | d :: ds, w, w' => ∃ b w1, d.target = .collected b ∧ (Instr.takeDeferred b).run P w = .ok [] w1 ∧ Shut P ds w1 w'
theorem shut_steps {cs : List Frame} : ∀ {ds : List Deferred} {fr : Frame} {w w' : World}, fr.mode = .returning → fr.defers = ds → Shut P ds w w' → Steps P (lone fr cs w) (lone { fr with defers := [] } cs w')
 | [], fr, w, w', _, hd, h => by cases h; rw [show ({ fr with defers := [] } : Frame) = fr by cases fr; simp_all]; exact Steps.refl P _
 | d :: ds, fr, w, w', hm, hd, ⟨b, w1, h1, h2, h3⟩ => by
  have s1 := step_collected (P := P) (fr := fr) (cs := cs) (by rw [hm]; simp) hd h1 h2
  have s2 := shut_steps (cs := cs) (ds := ds) (fr := { fr with defers := [] ++ ds }) hm rfl h3
  exact (Steps.one s1).trans s2
theorem Goes.retK {fn : Func} {k : List Item} (hf : P.funcs[f]? = some fn) {w' : World} (hm : Shut P a.defers w w') {v : Value} (hr : (results fn a.tmps).run P w' = .ok v w') (h : Re (.returned v) w') : Goes P f (.code .ret :: k) (.ends Re) a w := by
 intro b cs hb hk hro
 rw [Frame.atR_of_none hro]
 have s2 := shut_steps (P := P) (cs := cs) (fr := { b.at a (.code .ret :: k) with mode := .returning }) rfl rfl hm
 exact ⟨.returned v, w', { b.at a (.code .ret :: k) with mode := .returning, defers := [] }, h, .of_steps ((Steps.one step_ret).trans s2) (Steps.refl P _), hb, rfl, rfl, hk, fn, by rw [← hb] at hf; exact hf, hr⟩
theorem run_take {b : Nat} {w : World} (h : w.heap[b]? = some (.deferred (some []))) : (Instr.takeDeferred b).run P w = .ok [] (setB w b (.deferred none)) := by
 unfold Instr.takeDeferred
 simp only [Sem.run_bind, run_getA h rfl, Result.andThen_ok, Sem.run_pure, run_setA h rfl]
theorem shut_all : ∀ {ds : List Deferred} {I : Frag} {w : World}, ds.Nodup → (∀ d ∈ ds, ∃ b, d = { target := .collected b, args := #[] } ∧ (b, Obj.deferred (some [])) ∈ I) → St D w0 w (H ++ I) → ∃ w' I', Shut P ds w w' ∧ St D w0 w' (H ++ I')
 | [], I, w, _, _, s => ⟨w, I, rfl, s⟩
 | d :: ds, I, w, hn, h, s => by
  obtain ⟨b, rfl, hb⟩ := h d List.mem_cons_self
  obtain ⟨s1, s2, rfl⟩ := List.append_of_mem hb
  rw [List.nodup_cons] at hn
  have e1 : St D w0 w ((b, .deferred (some [])) :: (H ++ (s1 ++ s2))) := s.perm (by classical rw [List.perm_iff_count]; intro z; simp only [List.count_append, List.count_cons]; omega)
  have e2 := e1.set (.deferred none)
  have e3 : St D w0 (setB w b (.deferred none)) (H ++ ((b, .deferred none) :: (s1 ++ s2))) := e2.perm (by classical rw [List.perm_iff_count]; intro z; simp only [List.count_append, List.count_cons]; omega)
  obtain ⟨w', I', g1, g2⟩ := shut_all (ds := ds) hn.2 (fun d hd => by
   obtain ⟨c, rfl, hc⟩ := h d (List.mem_cons_of_mem _ hd)
   refine ⟨c, rfl, ?_⟩
   have hne : c ≠ b := fun e => hn.1 (e ▸ hd)
   rcases List.mem_append.1 hc with hc | hc
   ·exact List.mem_cons_of_mem _ (List.mem_append_left _ hc)
   ·rcases List.mem_cons.1 hc with hc | hc
    ·cases hc; exact absurd rfl hne
    ·exact List.mem_cons_of_mem _ (List.mem_append_right _ hc)) e3
  exact ⟨w', I', ⟨b, _, rfl, run_take e1.holds.one, g1⟩, g2⟩
def outShut (P : Program) (T : Tab) (sz : Nat) (tb : Tbl) (n : Nat) (keep ts : List Nat) (todo : List Item) (E : List (Nat × AV)) (M : List Blk) : Option (Prop × List (Nat × AV) × List Blk) :=
 bif nodupB keep then (match runC P T (walk P T 3) sz tb n todo ⟨[], E, M, [], []⟩ with
 | some (.code .ret :: _, s) => (match renM keep s.M keep, renE keep s.E ts with
  | some M', some E' => some (AllP s.vc, E', M')
  | _, _ => none)
 | _ => none) else none
theorem toShut (hT : tabB P T = true) (hm : P.follows .mixedOrders = true) (hK : ∀ w, Kp D w0 w → K0 w) {fn : Func} (hf : P.funcs[f]? = some fn) (tb : Tbl) (n : Nat) (keep ts : List Nat) {A : Prop} {E' : List (Nat × AV)} {M' : List Blk} (r : REg true D w0 K0 sz E M a w)
  (h : outShut P T sz tb n keep ts todo E M = some (A, E', M')) (hA : A) (hE : ∀ x ∈ E', IndA x.2) (hM : ∀ b ∈ M', IndB b)
  (k : ∀ a' w', RE' D w0 K0 sz E' M' a' w' → ∃ v, (results fn a'.tmps).run P w' = .ok v w' ∧ Re (.returned v) w') : Goes P f todo (.ends Re) a w := by
 unfold outShut at h
 cases hk : nodupB keep with
 | false => simp [hk] at h
 | true =>
  simp only [hk, cond_true] at h
  split at h
  rotate_left
  ·simp at h
  rename_i k0 s hr
  split at h
  rotate_left
  ·simp at h
  rename_i M1 E1 hM1 hE1
  simp only [Option.some.injEq, Prod.mk.injEq] at h
  obtain ⟨hA', rfl, rfl⟩ := h
  refine seg hT (walk_ok hT hm 3) hm hK n hr r (by rw [hA']; exact hA) fun a w r => ?_
  obtain ⟨hsz, I, hmk, β, F, Rm, hs⟩ := REg.ren r hk hM1 hE1
  obtain ⟨w', I', g1, g2⟩ := shut_all (P := P) hmk.1 hmk.2 Rm.st
  have r' : RE' D w0 K0 sz E1 M1 { a with defers := [] } w' := by
   refine ⟨hsz, I', rfl, β, F, ⟨Rm.len, fun u b hb => hM b (List.mem_of_getElem? hb) _ _ _ _ _ (Rm.blk u b hb), g2⟩, fun t v hv => ?_⟩
   exact hE (t, v) (lookA_mem hv) _ _ _ _ (hs t v hv)
  obtain ⟨v, h1, h2⟩ := k _ _ r'
  exact Goes.retK hf g1 h1 h2
theorem toRetK (hT : tabB P T = true) (hm : P.follows .mixedOrders = true) (hK : ∀ w, Kp [] w0 w → K0 w) {fn : Func} (hf : P.funcs[f]? = some fn) (tb : Tbl) (n : Nat) (keep ts : List Nat) {A B : Prop} {E' : List (Nat × AV)} {M' : List Blk} {x : DV} (r : REg true [] w0 K0 sz E M a w)
  (h : outShut P T sz tb n keep ts todo E M = some (A, E', M')) (h2 : finA T fn.results.toList ⟨[], E', M', [], []⟩ = some (B, x)) (hA : A) (hB : B) (hE : ∀ x ∈ E', IndA x.2) (hM : ∀ b ∈ M', IndB b) : Goes P f todo (RetA w0 K0 x) a w := by
 refine toShut hT hm hK hf tb n keep ts r h hA hE hM fun a' w' r' => ?_
 obtain ⟨-, l, vc, xs, M2, g1, g2, g3, g4⟩ := finA_ok h2 hB
 exact back hT hf r' g1 g2 g3 g4
def Ret0e (w0 : World) (K0 : World → Prop) (x : AV) (M' : List Blk) : Ending → World → Prop := fun e w' => ∃ v, e = .returned v ∧ ∃ β' F' I', RM [] w0 K0 M' β' F' I' w' ∧ ARel (fun w => K0 w ∧ Holds w I') β' x v
abbrev Ret0 (w0 : World) (K0 : World → Prop) (x : AV) (M' : List Blk) : Tgt := .ends (Ret0e w0 K0 x M')
theorem ConM.intro0 {fn : Func} {c : Code} {args : List AV} {x : AV} {M' : List Blk} (hcall : callable P f = true) (hf : P.funcs[f]? = some fn) (hb : fn.body = some c) (n : Nat) (hn : fn.ntmps = n) (hle : Nat.ble args.length n = true)
  (h : ∀ (w0 : World) (K0 : World → Prop) (a : Act), (∀ w, Kp [] w0 w → K0 w) → RE' [] w0 K0 n (argsA args 0) [] a w0 → Goes P f [.code c] (Ret0 w0 K0 x M') a w0) : ConM P f args [] x M' := by
 refine ⟨hcall, ?_⟩
 intro D w0 K0 β F I w ys Rm hK hl hr
 have hle := Nat.le_of_ble_eq_true hle
 obtain rfl : β = [] := List.eq_nil_of_length_eq_zero Rm.len
 have hst : St D w0 w ([] ++ I) := Rm.st
 have hKk : ∀ w', Kp [] w w' → K0 w' ∧ Holds w' I := fun w' k => by
  have t : St [] w w' [] := ⟨k, by simp [keys], by simp [keys], Holds.nil _⟩
  have s' := St.call hst rfl t
  rw [List.nil_append] at s'
  exact ⟨hK _ s'.kp, s'.holds⟩
 have hg := h w (fun w => K0 w ∧ Holds w I) { tmps := ys.toArray ++ Array.replicate (fn.ntmps - ys.toArray.size) undef, defers := [] } hKk ⟨by simp; omega, [], rfl, [], fun _ => [], ⟨rfl, by simp, by simpa using St.none w⟩, by
  intro t v hv
  obtain ⟨y, rfl, rfl, hy⟩ : ∃ y : Nat × AV, y.1 = t ∧ y.2 = v ∧ y ∈ argsA args 0 := ⟨(t, v), rfl, rfl, lookA_mem hv⟩
  obtain ⟨-, h2⟩ := argsA_mem args 0 y hy
  simp only [Nat.sub_zero] at h2
  obtain ⟨hlt, -⟩ := List.getElem?_eq_some_iff.1 h2
  have hys : ys[y.1]? = some ys[y.1] := List.getElem?_eq_getElem (by omega)
  have he : ({ tmps := ys.toArray ++ Array.replicate (fn.ntmps - ys.toArray.size) undef, defers := [] } : Act).eval (.tmp y.1) = ys[y.1] := by
   have : y.1 < ys.length := by omega
   simp [Act.eval, Array.getD_eq_getD_getElem?, Array.getElem?_append, this]
  rw [he]
  exact (hr y.1 y.2 _ h2 hys).mono (fun w hw => hw.1) (Ext.refl _)⟩
 refine (calls_of_goes hf hb hg).mono ?_
 rintro e w' ⟨v, rfl, β', F', I', R', hx⟩
 have s2 := St.call hst rfl R'.st
 have hkk : ∀ w, K0 w ∧ Holds w (I' ++ I) → (K0 w ∧ Holds w I) ∧ Holds w I' := fun w hw => ⟨⟨hw.1, (Holds.app.1 hw.2).2⟩, (Holds.app.1 hw.2).1⟩
 refine ⟨v, rfl, β', F', I' ++ I, ⟨R'.len, fun u b hb => (R'.blk u b hb).mono hkk (Ext.refl _), ?_⟩, fun u q hq => by simp at hq, ⟨I', rfl⟩, hx.mono hkk (Ext.refl _)⟩
 rw [List.append_assoc] at s2
 exact s2
def fin0 (T : Tab) (rs : List ResultVar) (E : List (Nat × AV)) (M : List Blk) : Option AV := match resA T E M rs with | some l => some (oneA l) | none => none
theorem toRet0 (hT : tabB P T = true) (hm : P.follows .mixedOrders = true) (hK : ∀ w, Kp [] w0 w → K0 w) {fn : Func} (hf : P.funcs[f]? = some fn) (tb : Tbl) (n : Nat) (keep ts : List Nat) {A : Prop} {E' : List (Nat × AV)} {M' : List Blk} {x : AV} (r : REg true [] w0 K0 sz E M a w)
  (h : outShut P T sz tb n keep ts todo E M = some (A, E', M')) (h2 : fin0 T fn.results.toList E' M' = some x) (hA : A) (hE : ∀ x ∈ E', IndA x.2) (hM : ∀ b ∈ M', IndB b) : Goes P f todo (Ret0 w0 K0 x M') a w := by
 refine toShut hT hm hK hf tb n keep ts r h hA hE hM fun a' w' r' => ?_
 obtain ⟨-, I, -, β, F, Rm, hs⟩ := r'
 unfold fin0 at h2
 split at h2
 ·rename_i l hl
  simp only [Option.some.injEq] at h2; subst h2
  obtain ⟨ys, e1, e2, e3⟩ := resA_ok hT Rm hs hl
  refine ⟨_, res_run rfl e1, _, rfl, β, F, I, Rm, ?_⟩
  match ys, l, e2, e3 with
  | [], [], _, _ => exact .tu [] rfl (by simp)
  | [y], [v], _, e3 => exact e3 0 v y rfl rfl
  | y :: y' :: ys, v :: v' :: l, e2, e3 => exact .tu _ e2 e3
 ·simp at h2
theorem REg.mark (r : REg mk D w0 K0 sz E M a w) : REg true D w0 K0 sz E M a w := by
 cases mk with
 | true => exact r
 | false => obtain ⟨h1, I, h2, h3⟩ := r; exact ⟨h1, I, by rw [h2]; exact Mk.nil I, h3⟩
end Go.Proofs.Ytikmdkicccfjpaa
namespace Go.Proofs.Ytikmdkicccfjpaa
open Go.RowKit
variable {mk : Bool} {P : Program} {T : Tab} {f : FuncId} {R : Tgt} {a : Act} {w : World} {D : List Nat} {w0 : World} {K0 : World → Prop} {E : List (Nat × AV)} {M M2 : List Blk} {β : Beta} {F : Nat → Frag} {I H : Frag} {sz : Nat} {tb : Tbl} {todo todo' : List Item}
theorem REg.word (r : REg mk D w0 K0 sz E M a w) (u : Nat) {b b' : Blk} (hM : M[u]? = some b) (h : ∀ (K : World → Prop) (β : Beta) (H : Frag), BRel K β u b H → BRel K β u b' H) : REg mk D w0 K0 sz E (M.set u b') a w := by
 obtain ⟨h1, I, h2, β, F, Rm, hs⟩ := r
 refine ⟨h1, I, h2, β, F, ⟨by rw [List.length_set]; exact Rm.len, fun v c hv => ?_, by rw [List.length_set]; exact Rm.st⟩, hs⟩
 rw [List.getElem?_set] at hv
 split at hv
 ·rename_i e
  subst e
  split at hv
  ·simp only [Option.some.injEq] at hv; subst hv; exact h _ _ _ (Rm.blk u b hM)
  ·simp at hv
 ·exact Rm.blk v c hv
theorem REg.forget (r : REg mk D w0 K0 sz E M a w) (u : Nat) {Tm ck : Nat} {es : List (Nat × MK × DV)} {es2 : List (MK × DV)} (hM : M[u]? = some (.mp Tm ck es)) (hp : (es.map fun e => e.2).Perm es2) (hn : (es.map fun e => e.1).Nodup) (hlt : ∀ e ∈ es, e.1 < ck) : REg mk D w0 K0 sz E (M.set u (.mu Tm ck es2)) a w :=
 r.word u hM fun K β H h => by cases h with | mp hb vs G hl hr => exact .mu es hp hn hlt hb vs G hl hr
theorem REg.told (r : REg mk D w0 K0 sz E M a w) (u : Nat) {Tm ck : Nat} {es2 : List (MK × DV)} (hM : M[u]? = some (.mu Tm ck es2)) : ∃ es : List (Nat × MK × DV), (es.map fun e => e.2).Perm es2 ∧ (es.map fun e => e.1).Nodup ∧ (∀ e ∈ es, e.1 < ck) ∧ REg mk D w0 K0 sz E (M.set u (.mp Tm ck es)) a w := by
 obtain ⟨h1, I, h2, β, F, Rm, hs⟩ := r
 have hB := Rm.blk u _ hM
 generalize hF : F u = Fu at hB
 cases hB with
 | mu es hp hn hlt hb vs G hl hr =>
  refine ⟨es, hp, hn, hlt, h1, I, h2, β, F, ⟨by rw [List.length_set]; exact Rm.len, fun v c hv => ?_, by rw [List.length_set]; exact Rm.st⟩, hs⟩
  rw [List.getElem?_set] at hv
  split at hv
  ·rename_i e
   subst e
   split at hv
   ·simp only [Option.some.injEq] at hv; subst hv; rw [hF]; exact .mp hb vs G hl hr
   ·simp at hv
  ·exact Rm.blk v c hv
inductive LeR : List (List DV) → List (List DV) → Prop where
 | nil : LeR [] []
 | cons {x x' : List DV} {l l' : List (List DV)} (h : LeL x x') (t : LeR l l') : LeR (x :: l) (x' :: l')
theorem LeR.ok {l l' : List (List DV)} (h : LeR l l') : l.length = l'.length ∧ ∀ (i : Nat) r r', l[i]? = some r → l'[i]? = some r' → LeL r r' := by
 induction h with
 | nil => simp
 | cons h t ih =>
  refine ⟨by simp [ih.1], fun i r r' h1 h2 => ?_⟩
  cases i with
  | zero => simp at h1 h2; subst h1 h2; exact h
  | succ i => exact ih.2 i r r' (by simpa using h1) (by simpa using h2)
theorem REg.less (r : REg mk D w0 K0 sz E M a w) (u : Nat) {Tm k : Nat} {rows rows' : List (List DV)} (hM : M[u]? = some (.rw Tm k rows)) (h : LeR rows rows') : REg mk D w0 K0 sz E (M.set u (.rw Tm k rows')) a w :=
 r.word u hM fun K β H hb => by
  cases hb with
  | rw hb X G hl hs hr =>
   obtain ⟨e1, e2⟩ := h.ok
   rw [e1] at hs ⊢
   have key : ∀ (i : Nat) r', rows'[i]? = some r' → ∃ r, rows[i]? = some r ∧ r.length = r'.length ∧ ∀ (j : Nat) c c', r[j]? = some c → r'[j]? = some c' → Le c c' := fun i r' hi => by
    have hlt : i < rows.length := by rw [e1]; exact (List.getElem?_eq_some_iff.1 hi).1
    have e := List.getElem?_eq_getElem hlt
    exact ⟨_, e, (e2 i _ r' e hi).ok⟩
   refine .rw hb X G (fun i r' hi => ?_) hs fun i r' j c x hi h1 h2 => ?_
   ·obtain ⟨r, g1, g2, -⟩ := key i r' hi
    have := hl i r g1; omega
   ·obtain ⟨r, g1, g2, g3⟩ := key i r' hi
    have hj : j < r.length := by rw [g2]; exact (List.getElem?_eq_some_iff.1 h1).1
    have e := List.getElem?_eq_getElem hj
    exact g3 j _ c e h1 K x _ (hr i r j _ x g1 e h2)
def rowEk (u k : Nat) : AV → AV
 | .pt v o => bif v.beq u then .ep u k 0 o else .pt v o
 | c => bif clear2 [u] c then c else .d .jk
def rowMk (u k n : Nat) (M : List Blk) : Option (List Blk) := match M[u]? with
 | some (.bx T cells) => (match dAll cells with | some ds => bif Nat.beq ds.length (n * k) && Nat.blt 0 k then some ((M.map (killB [u])).set u (.rw T k ((List.range n).map fun i => (ds.drop (i * k)).take k))) else none | none => none)
 | _ => none
theorem REg.rowedK {E2 : List (Nat × AV)} {M3 : List Blk} (r : REg mk D w0 K0 sz E M a w) (u k n : Nat) (h : rowMk u k n M = some M2) (e : (E.map fun x => (x.1, rowEk u k x.2)) = E2) (e2 : M2 = M3) : REg mk D w0 K0 sz E2 M3 a w := by
 subst e e2
 obtain ⟨g1, I, g2, β, F, R, hs⟩ := r
 unfold rowMk at h
 split at h
 rotate_left
 ·cases h
 rename_i T cells hM
 split at h
 rotate_left
 ·cases h
 rename_i ds hds
 cases hc0 : (Nat.beq ds.length (n * k) && Nat.blt 0 k) with
 | false => simp [hc0] at h
 | true =>
  simp only [hc0, cond_true, Option.some.injEq] at h; subst h
  simp only [Bool.and_eq_true, Nat.blt_eq] at hc0
  have hnk := Nat.eq_of_beq_eq_true hc0.1
  have hk0 := hc0.2
  obtain rfl := dAll_eq hds
  have hB := R.blk u _ hM
  have hlt := (List.getElem?_eq_some_iff.1 hM).1
  have R1 := R.x.give hM
  rw [List.nil_append] at R1
  generalize hFu : F u = Fu at hB R1
  cases hB with
  | @bx b c _ _ hb ys hl hr =>
   rw [List.length_map] at hl
   have hq : (β.set u (some ⟨b, 0, none⟩, n))[u]? = some (some ⟨b, 0, none⟩, n) := by rw [List.getElem?_set, if_pos rfl, if_pos (by rw [R.len]; exact hlt)]
   have hlc := lay_chunk k n ys (by omega)
   have hin : ∀ i, i < n → i * k + k ≤ n * k := fun i hi => by have := Nat.mul_le_mul_right k (show i + 1 ≤ n from hi); rw [Nat.succ_mul] at this; exact this
   have hrow : ∀ (i : Nat) r, ((List.range n).map fun i => (ds.drop (i * k)).take k)[i]? = some r → i < n ∧ r = (ds.drop (i * k)).take k := fun i r hi => by
    rw [List.getElem?_map, Option.map_eq_some_iff] at hi
    obtain ⟨j, h1, rfl⟩ := hi
    obtain ⟨g, rfl⟩ := List.getElem?_eq_some_iff.1 h1
    rw [List.getElem_range]
    exact ⟨by simpa using g, rfl⟩
   have hnew : BRel (fun w => K0 w ∧ Holds w I) (β.set u (some ⟨b, 0, none⟩, n)) u (.rw T k ((List.range n).map fun i => (ds.drop (i * k)).take k)) [(b, .cells ys.toArray T (0, 0))] := by
    have hlen : ((List.range n).map fun i => (ds.drop (i * k)).take k).length = n := by simp
    have := BRel.rw (K := fun w => K0 w ∧ Holds w I) (u := u) (T := T) (k := k) (c := n) (a := some ⟨b, 0, none⟩) (rows := (List.range n).map fun i => (ds.drop (i * k)).take k) (H0 := [(b, .cells ys.toArray T (0, 0))]) (β := β.set u (some ⟨b, 0, none⟩, n)) hq (fun i => (ys.drop (i * k)).take k) (fun _ _ => []) (fun i r hi => by
     obtain ⟨h1, rfl⟩ := hrow i r hi
     have := hin i h1
     simp; omega) (by
      rw [hlen, hlc]
      exact ⟨by omega, Or.inr ⟨b, n, _, rfl, rfl, by simp; omega, Nat.le_refl _, by rw [List.take_of_length_le]; simp; omega⟩⟩) (fun i r j c x hi h1 h2 => by
      obtain ⟨g1, rfl⟩ := hrow i r hi
      rw [List.getElem?_take, List.getElem?_drop] at h1 h2
      split at h1
      ·rename_i hj
       rw [if_pos hj] at h2
       have := hr (i * k + j) (.d c) x (by rw [List.getElem?_map, h1]; rfl) h2
       cases this with | d h => exact h
      ·simp at h1)
    rw [layF_none, List.append_nil] at this
    exact this
   have R2 := ((R1.perm (Y := [(b, .cells ys.toArray T (0, 0))] ++ []) (by rw [List.append_nil])).renew (by rw [List.length_set]; exact hlt) (by simp [updF]) hnew).nil rfl
   rw [set_map_set] at R2
   refine ⟨g1, I, g2, _, _, R2, fun t v hv => ?_⟩
   obtain ⟨v0, h1, rfl⟩ := lookA_map hv
   have ho := hs t v0 h1
   have hE := extB_set β u (some ⟨b, 0, none⟩, n)
   unfold rowEk
   split
   ·rename_i v o
    cases hvu : v.beq u with
    | true =>
     rw [cond_true]
     obtain rfl := Nat.eq_of_beq_eq_true hvu
     generalize a.eval (.tmp t) = y at ho
     cases ho with
     | pt hb2 =>
      rw [hb] at hb2; cases hb2
      have := ARel.ep (K := fun w => K0 w ∧ Holds w I) (k := k) (i := 0) (o := o) hq
      simpa using this
    | false =>
     rw [cond_false]
     generalize a.eval (.tmp t) = y at ho
     cases ho with
     | pt hb2 => exact .pt (hE _ _ (by simp; rintro rfl; simp at hvu) hb2)
   ·cases hc : clear2 [u] v0 with
    | true => exact clear2_ok hE hc ho
    | false => exact .d (.jk _)
def rngs : Code → List Item → List (RF × List Item)
 | .seq x y, k => rngs x (.code y :: k) ++ rngs y k
 | .cond _ x y, k => rngs x k ++ rngs y k
 | .block i c, k => rngs c (.inBlock i :: k)
 | .loop c, k => rngs c (.inLoop c :: k)
 | .rangeFunc _ ps asg body, k => [(⟨ps, asg, body⟩, k)]
 | _, _ => []
def rfn (fn : Func) (n : Nat) : RF := match fn.body with | some c => (match (rngs c [])[n]? with | some x => x.1 | none => ⟨#[], .skip, .skip⟩) | none => ⟨#[], .skip, .skip⟩
def aftF (fn : Func) (n : Nat) : List Item := match fn.body with | some c => (match (rngs c [])[n]? with | some x => x.2 | none => []) | none => []
def opsR (id : Nat) : Code → List (Array Oper)
 | .seq x y => opsR id x ++ opsR id y
 | .cond _ x y => opsR id x ++ opsR id y
 | .block _ c => opsR id c
 | .loop c => opsR id c
 | .region i ops _ => bif i.beq id then [ops] else []
 | _ => []
def ops (fn : Func) (id : Nat) : Array Oper := match fn.body with | some c => (match opsR id c with | o :: _ => o | [] => #[]) | none => #[]
end Go.Proofs.Ytikmdkicccfjpaa
namespace Go.Proofs.Ytikmdkicccfjpaa
open Go.RowKit
variable {mk : Bool} {P : Program} {T : Tab} {f : FuncId} {R : Tgt} {a : Act} {w : World} {D : List Nat} {w0 : World} {K0 : World → Prop} {E : List (Nat × AV)} {M : List Blk} {sz : Nat} {todo todo' : List Item} {b : Base}
def fitM (m : Nat) : List (List Nat) → List RS → Bool
 | [], [] => true
 | l :: ls, s :: r => startsB m l && farB m s.mv && fitM m ls r
 | _, _ => false
theorem leavesM_at {m : Nat} {ts : List Nat} {E' : List (Nat × AV)} {M' : List Blk} : ∀ {ls : List (List Nat)} {r : List RS} {A : List Prop} {o : List (List (Nat × AV) × List Blk)}, leavesA ts ls r = some (A, o) → fitM m ls r = true → (∀ x ∈ o, x = (E', M')) → AllP A → ∀ s ∈ r, AllP s.vc ∧ ∃ l, nodupB l = true ∧ startsB m l = true ∧ farB m s.mv = true ∧ renM l s.M l = some M' ∧ renE l s.E ts = some E'
 | [], [], _, _, _, _, _, _, s, hs => by cases hs
 | [], _ :: _, _, _, h, _, _, _, _, _ => by simp [leavesA] at h
 | _ :: _, [], _, _, h, _, _, _, _, _ => by simp [leavesA] at h
 | l :: ls, s :: r, A, o, h, hf, ho, hA, s', hs' => by
  unfold leavesA at h
  simp only [fitM, Bool.and_eq_true] at hf
  cases hn : nodupB l with
  | false => simp [hn] at h
  | true =>
   simp only [hn, cond_true] at h
   split at h
   ·rename_i M1 E1 A1 r1 h1 h2 h3
    simp only [Option.some.injEq, Prod.mk.injEq] at h; obtain ⟨rfl, rfl⟩ := h
    have e := ho _ List.mem_cons_self
    simp only [Prod.mk.injEq] at e; obtain ⟨rfl, rfl⟩ := e
    rcases List.mem_cons.1 hs' with rfl | hs'
    ·exact ⟨hA.1, l, hn, hf.1.1, hf.1.2, h1, h2⟩
    ·exact leavesM_at h3 hf.2 (fun x hx => ho x (List.mem_cons_of_mem _ hx)) hA.2 s' hs'
   ·cases h
def outDrawM (P : Program) (T : Tab) (sz mm : Nat) (tb : Tbl) (n : Nat) (nl : List Nat) (lls : List (List Nat)) (ts : List Nat) (todo : List Item) (E : List (Nat × AV)) (M : List Blk) : Option (List Item × Prop × List (List (Nat × AV) × List Blk)) :=
 match runC P T (walk P T 3) sz tb n todo ⟨[], E, M, [], []⟩ with
 | some (.code (.region id ops true) :: k, s) => bif Region.noSelect ops then (match runDT P T (walk P T 3) sz ops (getT tb id) nl ops.size (Array.replicate ops.size false) [] s with
  | some Ls => bif fitM mm lls Ls then (match leavesA ts lls Ls with | some (A, o) => some (k, AllP A, o) | none => none) else none
  | none => none) else none
 | _ => none
theorem RBg.key (r : RBg mk D w0 K0 sz b E M a w) : ∃ b', REb mk D w0 K0 sz b' ⟨[], E, M, [], []⟩ a w ∧ ∀ {s : RS} {a' : Act} {w' : World} {M' : List Blk} {E' : List (Nat × AV)} {l ts : List Nat}, nodupB l = true → startsB b.m l = true → farB b.m s.mv = true → renM l s.M l = some M' → renE l s.E ts = some E' → REb mk D w0 K0 sz b' s a' w' → RBg mk D w0 K0 sz b E' M' a' w' := by
 have hb := r.1
 obtain ⟨b', rb, hb', hE, hG, hm'⟩ := r.re
 exact ⟨b', rb, fun hn hs hf h3 h4 r' => RBg.from hm' hb hE hG (r'.ren (by rw [hb', hm']) hn (by rw [hm']; exact hs) (by rw [hm']; exact hf) h3 h4)⟩
theorem toDrawM (hT : tabB P T = true) (hm : P.follows .mixedOrders = true) (hK : ∀ w, Kp D w0 w → K0 w) {mm : Nat} (hbm : b.m = mm) (tb : Tbl) (n m : Nat) (nl : List Nat) (lls : List (List Nat)) (ts : List Nat) {A : Prop} {E' : List (Nat × AV)} {M' : List Blk} (r : RBg mk D w0 K0 sz b E M a w)
  (h : outDrawM P T sz mm tb n nl lls ts todo E M = some (todo', A, List.replicate m (E', M'))) (hA : A) (k : ∀ a' w', RBg mk D w0 K0 sz b E' M' a' w' → Goes P f todo' R a' w') : Goes P f todo R a w := by
 subst hbm
 obtain ⟨b', rb, key⟩ := r.key
 unfold outDrawM at h
 split at h
 ·rename_i id ops k0 s hr
  cases hs : Region.noSelect ops with
  | false => simp [hs] at h
  | true =>
   simp only [hs, cond_true] at h
   split at h
   ·rename_i Ls hL
    cases hfit : fitM b.m lls Ls with
    | false => simp [hfit] at h
    | true =>
    simp only [hfit, cond_true] at h
    split at h
    ·rename_i A1 o ho
     simp only [Option.some.injEq, Prod.mk.injEq] at h; obtain ⟨rfl, rfl, rfl⟩ := h
     have hl := leavesM_at ho hfit (fun x hx => List.eq_of_mem_replicate hx) hA
     obtain ⟨s1, h1, h2⟩ := runDT_vc _ _ _ _ hL
     refine segb hT (walk_ok hT hm 3) hm hK n hr rb (h2 (hl s1 h1).1) fun a1 w1 r1 => Goes.code ?_
     refine regT hT (walk_ok hT hm 3) hm hK (by rintro d v c a w ⟨h, -⟩; cases h) r1 _ hs hL fun s' hs' => ⟨(hl s' hs').1, fun a' w' r' => ⟨rfl, ?_⟩⟩
     obtain ⟨-, l, g1, g2, g3, g4, g5⟩ := hl s' hs'
     exact k a' w' (key g1 g2 g3 g4 g5 r')
    ·cases h
   ·cases h
 ·cases h
end Go.Proofs.Ytikmdkicccfjpaa
namespace Go.Proofs.Ytikmdkicccfjpaa
open Go.RowKit
structure Proc where
 node : Int
 inc : Nat
deriving DecidableEq
def Proc.row (p : Proc) : List DV := [.v (.int .i64 p.node), .v (.int .u64 (p.inc : Int))]
abbrev procs (l : List Proc) : List (List DV) := l.map Proc.row
theorem procs_at {l : List Proc} {i : Nat} {p : Proc} (h : l[i]? = some p) : (procs l)[i]? = some [.v (.int .i64 p.node), .v (.int .u64 (p.inc : Int))] := by simp [procs, h, Proc.row]
def Proc.may (p : Proc) : Bool := decide (1 ≤ p.node ∧ p.node ≤ 10 ∧ 0 < p.inc)
theorem eqProcIn (d : Nat) (a b c e : Int) (w : World) : (Op.equalIn (d + 2) 30 (.agg #[.int .i64 a, .int .u64 b]) (.agg #[.int .i64 c, .int .u64 e])).run Try.prog w = .ok (a == c && b == e) w :=
 run_eqTwo (f0 := ⟨"Node", 3, 0, false, "", "", 0⟩) (f1 := ⟨"Inc", 28, 1, false, "", "", 8⟩) (by kernel_rfl) (by kernel_rfl) (by decide) (by decide) (run_partS w (by kernel_rfl) rfl) (run_partS w (by kernel_rfl) rfl) (run_partS w (by kernel_rfl) rfl) (run_partS w (by kernel_rfl) rfl)
  (run_eqInt w d (by kernel_rfl)) (run_eqInt w d (by kernel_rfl))
def idx {α : Type} [DecidableEq α] : List α → α → Nat → Int
 | [], _, _ => -1
 | x :: r, p, k => if x = p then (k : Int) else idx r p (k + 1)
theorem idx_at {α : Type} [DecidableEq α] {p : α} : ∀ {l : List α} {k i : Nat}, l[i]? = some p → (∀ j, j < i → l[j]? ≠ some p) → idx l p k = ((k + i : Nat) : Int)
 | [], _, _, h, _ => by simp at h
 | x :: r, k, 0, h, _ => by simp at h; simp [idx, h]
 | x :: r, k, i + 1, h, hb => by
  have h0 : x ≠ p := by have := hb 0 (by omega); simpa using this
  rw [idx, if_neg h0, idx_at (i := i) (by simpa using h) fun j hj => by simpa using hb (j + 1) (by omega)]
  congr 1; omega
theorem idx_none {α : Type} [DecidableEq α] {p : α} : ∀ {l : List α} {k : Nat}, (∀ j, j < l.length → l[j]? ≠ some p) → idx l p k = -1
 | [], _, _ => rfl
 | x :: r, k, h => by
  have h0 : x ≠ p := by have := h 0 (by simp); simpa using this
  rw [idx, if_neg h0]
  exact idx_none fun j hj => by simpa using h (j + 1) (by simpa using hj)
theorem iv {k : IntKind} {a b : Int} (h : a = b) : DV.v (.int k a) = .v (.int k b) := by rw [h]
theorem ext_of {α : Type} {a b : List α} (hl : a.length = b.length) (h : ∀ j, j < a.length → a[j]? = b[j]?) : a = b := by
 apply List.ext_getElem?
 intro j
 rcases Nat.lt_or_ge j a.length with hj | hj
 ·exact h j hj
 ·rw [List.getElem?_eq_none hj, List.getElem?_eq_none (by omega)]
theorem eqT {t : TypeId} {xs ys : List Value} {c c' : Bool} (e : EqAgg Try.prog t xs ys c) (h : c = c') : EqAgg Try.prog t xs ys c' := h ▸ e
theorem eqProc (a b c d : Int) : EqAgg Try.prog 30 [.int .i64 a, .int .u64 b] [.int .i64 c, .int .u64 d] (a == c && b == d) := ⟨by kernel_rfl, fun w => eqProcIn 9998 a b c d w⟩
theorem eqProcD (x y : Proc) : EqAgg Try.prog 30 [.int .i64 x.node, .int .u64 (x.inc : Int)] [.int .i64 y.node, .int .u64 (y.inc : Int)] (decide (x = y)) := by
 have h := eqProc x.node x.inc y.node y.inc
 refine eqT h ?_
 cases x with | mk a b => cases y with | mk c d =>
 rw [Bool.eq_iff_iff]
 simp only [Bool.and_eq_true, beq_iff_eq, decide_eq_true_eq, Proc.mk.injEq]
 omega
set_option maxRecDepth 100000 in
theorem procMay (p : Proc) : Con Try.prog 37 [.ag [.z p.node, .u p.inc]] (DV.v (.bool p.may)) := by
 refine Con.intro (by kernel_rfl) rfl rfl 16 rfl rfl fun w0 K ac hK r => ?_
 cases h0 : (decide ((1 : Int) ≤ p.node)) with
 | false =>
  have qh0 := of_decide_eq_false h0
  rw [show (DV.v (.bool p.may) : DV) = .v (.bool false) from (bv (by simp [Proc.may]; omega))]
  exact toRet tk tq hK rfl [(1, [(2, .b false)])] 2000 r (by kernel_rfl) (an h0 trivial)
 | true =>
  have qh0 := of_decide_eq_true h0
  cases h1 : (decide ((p.node : Int) ≤ 10)) with
  | false =>
   have qh1 := of_decide_eq_false h1
   rw [show (DV.v (.bool p.may) : DV) = .v (.bool false) from (bv (by simp [Proc.may]; omega))]
   exact toRet tk tq hK rfl [(1, [(2, .b true), (6, .b false)])] 2000 r (by kernel_rfl) (an h0 (an h1 trivial))
  | true =>
   have qh1 := of_decide_eq_true h1
   cases h2 : (decide ((0 : Int) < ((p.inc : Nat) : Int))) with
   | false =>
    have qh2 := of_decide_eq_false h2
    rw [show (DV.v (.bool p.may) : DV) = .v (.bool false) from (bv (by simp [Proc.may]; omega))]
    exact toRet tk tq hK rfl [(1, [(2, .b true), (6, .b true), (11, .b false)])] 2000 r (by kernel_rfl) (an h0 (an h1 (an h2 trivial)))
   | true =>
    have qh2 := of_decide_eq_true h2
    rw [show (DV.v (.bool p.may) : DV) = .v (.bool true) from (bv (by simp [Proc.may]; omega))]
    exact toRet tk tq hK rfl [(1, [(2, .b true), (6, .b true), (11, .b true)])] 2000 r (by kernel_rfl) (an h0 (an h1 (an h2 trivial)))
set_option maxRecDepth 100000 in
theorem refProcMay (p : Proc) : Con Try.prog 55 [.ag [.z p.node, .u p.inc]] (DV.v (.bool p.may)) := by
 refine Con.intro (by kernel_rfl) rfl rfl 16 rfl rfl fun w0 K ac hK r => ?_
 cases h0 : (decide ((1 : Int) ≤ p.node)) with
 | false =>
  have qh0 := of_decide_eq_false h0
  rw [show (DV.v (.bool p.may) : DV) = .v (.bool false) from (bv (by simp [Proc.may]; omega))]
  exact toRet tk tq hK rfl [(1, [(2, .b false)])] 2000 r (by kernel_rfl) (an h0 trivial)
 | true =>
  have qh0 := of_decide_eq_true h0
  cases h1 : (decide ((p.node : Int) ≤ 10)) with
  | false =>
   have qh1 := of_decide_eq_false h1
   rw [show (DV.v (.bool p.may) : DV) = .v (.bool false) from (bv (by simp [Proc.may]; omega))]
   exact toRet tk tq hK rfl [(1, [(2, .b true), (6, .b false)])] 2000 r (by kernel_rfl) (an h0 (an h1 trivial))
  | true =>
   have qh1 := of_decide_eq_true h1
   cases h2 : ((((p.inc : Nat) : Int) : Int) != 0) with
   | false =>
    have qh2 := eq_of_bne h2
    rw [show (DV.v (.bool p.may) : DV) = .v (.bool false) from (bv (by simp [Proc.may]; omega))]
    exact toRet tk tq hK rfl [(1, [(2, .b true), (6, .b true), (11, .b false)])] 2000 r (by kernel_rfl) (an h0 (an h1 (an h2 trivial)))
   | true =>
    have qh2 : ¬ _ = _ := bne_iff_ne.1 h2
    rw [show (DV.v (.bool p.may) : DV) = .v (.bool true) from (bv (by simp [Proc.may]; omega))]
    exact toRet tk tq hK rfl [(1, [(2, .b true), (6, .b true), (11, .b true)])] 2000 r (by kernel_rfl) (an h0 (an h1 (an h2 trivial)))
set_option maxRecDepth 100000 in
theorem indexProcs (l : List Proc) (p : Proc) (hb : l.length < 2147483648) : Con Try.prog 88 [.d (.ro 2 (procs l)), .ag [.z p.node, .u p.inc]] (DV.v (.int .i64 (idx l p 0))) := by
 refine Con.intro (by kernel_rfl) rfl rfl 19 rfl rfl fun w0 K ac hK r => ?_
 refine toHead (todo' := hd Try.f88 0) (E' := [(0, .d (.ro 2 (procs l))), (3, .pt 0 0), (7, .n l.length), (8, .n 0)]) (M' := [.bx 30 [.z p.node, .u p.inc]]) tk tq hK [(1, [(1, .z (((l.length : Nat) : Int)))])] 2000 [0] [0, 3, 7, 8] r (by kernel_rfl) (an ((by simp) : (((procs l).length : Nat) : Int) = ((l.length : Nat) : Int)) trivial) fun ac wd r => ?_
 refine Goes.rounds (Φ := fun (i : Nat) ac wd => (i ≤ l.length ∧ ∀ j, j < i → l[j]? ≠ some p) ∧ RE' [] w0 K 19 [(0, .d (.ro 2 (procs l))), (3, .pt 0 0), (7, .n l.length), (8, .n i)] [.bx 30 [.z p.node, .u p.inc]] ac wd) (l.length) ?_ (Nat.zero_le _) ⟨⟨by omega, by omega⟩, r⟩
 clear r
 rintro i hi0 again0 ac wd ⟨hv0, r⟩
 obtain ⟨hi1, hv0⟩ := hv0
 cases h0 : (decide ((((i : Nat) : Int) : Int) < ((l.length : Nat) : Int))) with
 | false =>
  have qh0 := of_decide_eq_false h0
  rw [show (DV.v (.int .i64 (idx l p 0)) : DV) = .z (-1) from (iv (by first | (rw [idx_at (i := i) (by rw [ge_l_i]; congr 1; first | (symm; assumption) | omega) (fun j hj => hv0 j hj)]; simp; done) | exact idx_none fun j hj => hv0 j (by omega)))]
  exact toRet tk tq hK rfl [(2, [(0, .b false)])] 2000 r (by kernel_rfl) (an h0 trivial)
 | true =>
  have qh0 := of_decide_eq_true h0
  obtain ⟨e_l_i, ge_l_i⟩ : ∃ x, l[i]? = some x := ⟨_, List.getElem?_eq_getElem (by omega)⟩
  cases h1 : (decide (p = e_l_i)) with
  | false =>
   have qh1 := of_decide_eq_false h1
   exact toHead (todo' := hd Try.f88 0) tk tq hK [(2, [(0, .b true)]), (4, [(3, .ix (i) [.z e_l_i.node, .u e_l_i.inc]), (5, .b false)]), (6, [(0, .z (((i + 1 : Nat) : Int)))])] 2000 [0] [0, 3, 7, 8] r (by kernel_rfl) (an h0 (an (rfI ((i : Nat) : Int)) (an (procs_at ge_l_i) (an ((eqT (eqProcD _ _) h1) : EqAgg Try.prog 30 [(.int .i64 (p.node)), (.int .u64 (((p.inc : Nat) : Int)))] [(.int .i64 (e_l_i.node)), (.int .u64 (((e_l_i.inc : Nat) : Int)))] false) (an ((wi (by omega)) : IntKind.i64.wrap ((((i : Nat) : Int) : Int) + 1) = ((i + 1 : Nat) : Int)) trivial))))) fun ac wd r => again0 (by omega) ac wd ⟨⟨by omega, fun j hj => by rcases Nat.lt_succ_iff_lt_or_eq.1 hj with h | rfl; exact hv0 j h; simp only [ge_l_i, Option.some.injEq, ne_eq]; intro e; first | omega | simp_all⟩, r⟩
  | true =>
   have qh1 := of_decide_eq_true h1
   rw [show (DV.v (.int .i64 (idx l p 0)) : DV) = .n i from (iv (by first | (rw [idx_at (i := i) (by rw [ge_l_i]; congr 1; first | (symm; assumption) | omega) (fun j hj => hv0 j hj)]; simp; done) | exact idx_none fun j hj => hv0 j (by omega)))]
   exact toRet tk tq hK rfl [(2, [(0, .b true)]), (4, [(3, .ix (i) [.z e_l_i.node, .u e_l_i.inc]), (5, .b true)])] 2000 r (by kernel_rfl) (an h0 (an (rfI ((i : Nat) : Int)) (an (procs_at ge_l_i) (an ((eqT (eqProcD _ _) h1) : EqAgg Try.prog 30 [(.int .i64 (p.node)), (.int .u64 (((p.inc : Nat) : Int)))] [(.int .i64 (e_l_i.node)), (.int .u64 (((e_l_i.inc : Nat) : Int)))] true) trivial))))
def cmpI (a b : Int) : Int := if a < b then -1 else if b < a then 1 else 0
def Proc.cmp (p q : Proc) : Int := if cmpI p.node q.node ≠ 0 then cmpI p.node q.node else cmpI p.inc q.inc
def Proc.lt (p q : Proc) : Bool := decide (p.node < q.node ∨ p.node = q.node ∧ p.inc < q.inc)
theorem cmp_lt (p q : Proc) : (decide (0 ≤ p.cmp q)) = !p.lt q := by
 unfold Proc.cmp Proc.lt cmpI
 rw [Bool.eq_iff_iff]
 simp only [decide_eq_true_eq, Bool.not_eq_true', decide_eq_false_iff_not]
 repeat' split
 all_goals omega
set_option maxRecDepth 100000 in
theorem cmpInt (a b : Int) : Con Try.prog 67 [.z a, .z b] (DV.v (.int .i64 (cmpI a b))) := by
 refine Con.intro (by kernel_rfl) rfl rfl 20 rfl rfl fun w0 K ac hK r => ?_
 cases h0 : (decide ((a : Int) < b)) with
 | false =>
  have qh0 := of_decide_eq_false h0
  cases h1 : (decide ((b : Int) < a)) with
  | false =>
   have qh1 := of_decide_eq_false h1
   rw [show (DV.v (.int .i64 (cmpI a b)) : DV) = .z 0 from (iv (by unfold cmpI; (repeat' split) <;> omega))]
   exact toRet tk tq hK rfl [(1, [(1, .into 200 [(1, [(2, .b false)])])]), (2, [(1, .into 200 [(1, [(2, .b false)])])]), (9, [(2, .b false)]), (11, [(2, .b false)])] 2000 r (by kernel_rfl) (an ((by simp) : ((a : Int) != a) = false) (an ((by simp) : ((b : Int) != b) = false) (an h0 (an h1 trivial))))
  | true =>
   have qh1 := of_decide_eq_true h1
   rw [show (DV.v (.int .i64 (cmpI a b)) : DV) = .z 1 from (iv (by unfold cmpI; (repeat' split) <;> omega))]
   exact toRet tk tq hK rfl [(1, [(1, .into 200 [(1, [(2, .b false)])])]), (2, [(1, .into 200 [(1, [(2, .b false)])])]), (9, [(2, .b false)]), (11, [(2, .b true)])] 2000 r (by kernel_rfl) (an ((by simp) : ((a : Int) != a) = false) (an ((by simp) : ((b : Int) != b) = false) (an h0 (an h1 trivial))))
 | true =>
  have qh0 := of_decide_eq_true h0
  rw [show (DV.v (.int .i64 (cmpI a b)) : DV) = .z (-1) from (iv (by unfold cmpI; (repeat' split) <;> omega))]
  exact toRet tk tq hK rfl [(1, [(1, .into 200 [(1, [(2, .b false)])])]), (2, [(1, .into 200 [(1, [(2, .b false)])])]), (9, [(2, .b true)])] 2000 r (by kernel_rfl) (an ((by simp) : ((a : Int) != a) = false) (an ((by simp) : ((b : Int) != b) = false) (an h0 trivial)))
set_option maxRecDepth 100000 in
theorem cmpUint (a b : Int) : Con Try.prog 69 [.d (.v (.int .u64 (a))), .d (.v (.int .u64 (b)))] (DV.v (.int .i64 (cmpI a b))) := by
 refine Con.intro (by kernel_rfl) rfl rfl 20 rfl rfl fun w0 K ac hK r => ?_
 cases h0 : (decide ((a : Int) < b)) with
 | false =>
  have qh0 := of_decide_eq_false h0
  cases h1 : (decide ((b : Int) < a)) with
  | false =>
   have qh1 := of_decide_eq_false h1
   rw [show (DV.v (.int .i64 (cmpI a b)) : DV) = .z 0 from (iv (by unfold cmpI; (repeat' split) <;> omega))]
   exact toRet tk tq hK rfl [(1, [(1, .into 200 [(1, [(2, .b false)])])]), (2, [(1, .into 200 [(1, [(2, .b false)])])]), (9, [(2, .b false)]), (11, [(2, .b false)])] 2000 r (by kernel_rfl) (an ((by simp) : ((a : Int) != a) = false) (an ((by simp) : ((b : Int) != b) = false) (an h0 (an h1 trivial))))
  | true =>
   have qh1 := of_decide_eq_true h1
   rw [show (DV.v (.int .i64 (cmpI a b)) : DV) = .z 1 from (iv (by unfold cmpI; (repeat' split) <;> omega))]
   exact toRet tk tq hK rfl [(1, [(1, .into 200 [(1, [(2, .b false)])])]), (2, [(1, .into 200 [(1, [(2, .b false)])])]), (9, [(2, .b false)]), (11, [(2, .b true)])] 2000 r (by kernel_rfl) (an ((by simp) : ((a : Int) != a) = false) (an ((by simp) : ((b : Int) != b) = false) (an h0 (an h1 trivial))))
 | true =>
  have qh0 := of_decide_eq_true h0
  rw [show (DV.v (.int .i64 (cmpI a b)) : DV) = .z (-1) from (iv (by unfold cmpI; (repeat' split) <;> omega))]
  exact toRet tk tq hK rfl [(1, [(1, .into 200 [(1, [(2, .b false)])])]), (2, [(1, .into 200 [(1, [(2, .b false)])])]), (9, [(2, .b true)])] 2000 r (by kernel_rfl) (an ((by simp) : ((a : Int) != a) = false) (an ((by simp) : ((b : Int) != b) = false) (an h0 trivial)))
set_option maxRecDepth 100000 in
theorem procCompare (p q : Proc) : Con Try.prog 52 [.ag [.z p.node, .u p.inc], .ag [.z q.node, .u q.inc]] (DV.v (.int .i64 (p.cmp q))) := by
 refine Con.intro (by kernel_rfl) rfl rfl 14 rfl rfl fun w0 K ac hK r => ?_
 have u0 := (cmpInt _ _ : Con Try.prog 67 [.z p.node, .z q.node] (.z (cmpI (p.node) (q.node))))
 cases h0 : ((cmpI (p.node) (q.node) : Int) != 0) with
 | false =>
  have qh0 := eq_of_bne h0
  rw [show (DV.v (.int .i64 (p.cmp q)) : DV) = .z (cmpI (((p.inc : Nat) : Int)) (((q.inc : Nat) : Int))) from (iv (by unfold Proc.cmp; simp_all))]
  exact toRet tk tq hK rfl [(2, [(5, .con (.z (cmpI (p.node) (q.node)))), (7, .into 200 [(1, [(1, .b false)]), (3, [(1, .into 200 [(1, [(4, .con (.z (cmpI (((p.inc : Nat) : Int)) (((q.inc : Nat) : Int)))))])])])])])] 2000 r (by kernel_rfl) (an u0 (an h0 (an (cmpUint _ _ : Con Try.prog 69 [.u p.inc, .u q.inc] (.z (cmpI (((p.inc : Nat) : Int)) (((q.inc : Nat) : Int))))) trivial)))
 | true =>
  have qh0 : ¬ _ = _ := bne_iff_ne.1 h0
  rw [show (DV.v (.int .i64 (p.cmp q)) : DV) = .z (cmpI (p.node) (q.node)) from (iv (by unfold Proc.cmp; simp_all))]
  exact toRet tk tq hK rfl [(2, [(5, .con (.z (cmpI (p.node) (q.node)))), (7, .into 200 [(1, [(1, .b true)])])])] 2000 r (by kernel_rfl) (an u0 (an h0 trivial))
set_option maxRecDepth 100000 in
theorem refBefore (p q : Proc) : Con Try.prog 56 [.ag [.z p.node, .u p.inc], .ag [.z q.node, .u q.inc]] (DV.v (.bool (p.lt q))) := by
 refine Con.intro (by kernel_rfl) rfl rfl 24 rfl rfl fun w0 K ac hK r => ?_
 cases h0 : (decide ((p.node : Int) < q.node)) with
 | false =>
  have qh0 := of_decide_eq_false h0
  cases h1 : ((p.node : Int) == q.node) with
  | false =>
   have qh1 := ne_of_beq_false h1
   rw [show (DV.v (.bool (p.lt q)) : DV) = .v (.bool false) from (bv (by simp [Proc.lt]; omega))]
   exact toRet tk tq hK rfl [(1, [(4, .b false), (10, .b false)])] 2000 r (by kernel_rfl) (an h0 (an h1 trivial))
  | true =>
   have qh1 := eq_of_beq h1
   cases h2 : (decide ((((p.inc : Nat) : Int) : Int) < ((q.inc : Nat) : Int))) with
   | false =>
    have qh2 := of_decide_eq_false h2
    rw [show (DV.v (.bool (p.lt q)) : DV) = .v (.bool false) from (bv (by simp [Proc.lt]; omega))]
    exact toRet tk tq hK rfl [(1, [(4, .b false), (10, .b true), (16, .b false)])] 2000 r (by kernel_rfl) (an h0 (an h1 (an h2 trivial)))
   | true =>
    have qh2 := of_decide_eq_true h2
    rw [show (DV.v (.bool (p.lt q)) : DV) = .v (.bool true) from (bv (by simp [Proc.lt]; omega))]
    exact toRet tk tq hK rfl [(1, [(4, .b false), (10, .b true), (16, .b true)])] 2000 r (by kernel_rfl) (an h0 (an h1 (an h2 trivial)))
 | true =>
  have qh0 := of_decide_eq_true h0
  rw [show (DV.v (.bool (p.lt q)) : DV) = .v (.bool true) from (bv (by simp [Proc.lt]; omega))]
  exact toRet tk tq hK rfl [(1, [(4, .b true)])] 2000 r (by kernel_rfl) (an h0 trivial)
end Go.Proofs.Ytikmdkicccfjpaa
namespace Go.Proofs.Ytikmdkicccfjpaa
open Go.RowKit
def SetTo (l : List Proc) (i : Nat) : Prop := (∀ j p, j < i → l[j]? = some p → p.may = true) ∧ ∀ j p q, j + 1 < i → l[j]? = some p → l[j + 1]? = some q → p.lt q = true
def ltAt (l : List Proc) (j : Nat) : Bool := match l[j]?, l[j + 1]? with | some p, some q => p.lt q | _, _ => true
def isSet (l : List Proc) : Bool := ((List.range l.length).all fun j => match l[j]? with | some p => p.may | none => true) && (List.range (l.length - 1)).all (ltAt l)
theorem isSet_iff (l : List Proc) : isSet l = true ↔ SetTo l l.length := by
 simp only [isSet, Bool.and_eq_true, List.all_eq_true, List.mem_range, SetTo]
 constructor
 ·rintro ⟨h1, h2⟩
  refine ⟨fun j p hj hp => by have := h1 j hj; simpa [hp] using this, fun j p q hj hp hq => ?_⟩
  have := h2 j (by omega); simpa [ltAt, hp, hq] using this
 ·rintro ⟨h1, h2⟩
  refine ⟨fun j hj => ?_, fun j hj => ?_⟩
  ·rw [List.getElem?_eq_getElem hj]; exact h1 j _ hj (List.getElem?_eq_getElem hj)
  ·have e1 : l[j]? = some l[j] := List.getElem?_eq_getElem (by omega)
   have e2 : l[j + 1]? = some l[j + 1] := List.getElem?_eq_getElem (by omega)
   simp only [ltAt, e1, e2]; exact h2 j _ _ (by omega) e1 e2
theorem isSet_yes {l : List Proc} (h : SetTo l l.length) : isSet l = true := (isSet_iff l).2 h
theorem isSet_no {l : List Proc} (h : ¬ SetTo l l.length) : isSet l = false := by
 cases hs : isSet l with
 | false => rfl
 | true => exact absurd ((isSet_iff l).1 hs) h
theorem SetTo.step {l : List Proc} {i : Nat} {p : Proc} (h : SetTo l i) (hp : l[i]? = some p) (hm : p.may = true) (hc : ∀ q, 0 < i → l[i - 1]? = some q → q.lt p = true) : SetTo l (i + 1) := by
 refine ⟨fun j q hj hq => ?_, fun j a b hj ha hb => ?_⟩
 ·rcases Nat.lt_succ_iff_lt_or_eq.1 hj with h' | rfl
  ·exact h.1 j q h' hq
  ·rw [hp] at hq; cases hq; exact hm
 ·rcases Nat.lt_succ_iff_lt_or_eq.1 hj with h' | h'
  ·exact h.2 j a b h' ha hb
  ·have : j = i - 1 := by omega
   subst this
   have hi : i - 1 + 1 = i := by omega
   rw [hi, hp] at hb; cases hb
   exact hc a (by omega) ha
theorem SetTo.no1 {l : List Proc} {i n : Nat} {p : Proc} (hp : l[i]? = some p) (hm : p.may = false) (hi : i < n) : ¬ SetTo l n := fun h => by have := h.1 i p hi hp; rw [hm] at this; cases this
theorem SetTo.no2 {l : List Proc} {i n : Nat} {p q : Proc} (hp : l[i]? = some p) (hq : l[i - 1]? = some q) (h0 : 0 < i) (hm : q.lt p = false) (hi : i < n) : ¬ SetTo l n := fun h => by
 have := h.2 (i - 1) q p (by omega) hq (by rw [show i - 1 + 1 = i by omega]; exact hp); rw [hm] at this; cases this
theorem lt_of_cmp {p q : Proc} {b : Bool} (h : (decide ((0 : Int) ≤ p.cmp q)) = b) : p.lt q = !b := by rw [← h, cmp_lt]; simp
set_option maxRecDepth 100000 in
theorem procSet (l : List Proc) (hb : l.length < 2147483648) : Con Try.prog 73 [.d (.ro 2 (procs l))] (DV.v (.bool (isSet l))) := by
 refine Con.intro (by kernel_rfl) rfl rfl 30 rfl rfl fun w0 K ac hK r => ?_
 refine toHead (todo' := hd Try.f73 0) (E' := [(0, .d (.ro 2 (procs l))), (5, .d (.ro 2 (procs l))), (6, .n l.length), (7, .n 0)]) (M' := []) tk tq hK [(1, [(1, .z (((l.length : Nat) : Int)))])] 2000 [] [0, 5, 6, 7] r (by kernel_rfl) (an ((by simp) : (((procs l).length : Nat) : Int) = ((l.length : Nat) : Int)) trivial) fun ac wd r => ?_
 refine Goes.rounds (Φ := fun (i : Nat) ac wd => (i ≤ l.length ∧ SetTo l i) ∧ RE' [] w0 K 30 [(0, .d (.ro 2 (procs l))), (5, .d (.ro 2 (procs l))), (6, .n l.length), (7, .n i)] [] ac wd) (l.length) ?_ (Nat.zero_le _) ⟨⟨by omega, by simp [SetTo]⟩, r⟩
 clear r
 rintro i hi0 again0 ac wd ⟨hv0, r⟩
 obtain ⟨hi1, hv0⟩ := hv0
 cases h0 : (decide ((((i : Nat) : Int) : Int) < ((l.length : Nat) : Int))) with
 | false =>
  have qh0 := of_decide_eq_false h0
  rw [show (DV.v (.bool (isSet l)) : DV) = .v (.bool true) from (bv (by first | exact isSet_yes (by rw [show l.length = i by omega]; exact hv0) | exact isSet_no (SetTo.no1 ge_l_i (by assumption) (by omega)) | exact isSet_no (SetTo.no2 ge_l_i ge_l_i1 (by omega) (by first | assumption | (rw [lt_of_cmp (by assumption)]; rfl)) (by omega))))]
  exact toRet tk tq hK rfl [(2, [(0, .b false)])] 2000 r (by kernel_rfl) (an h0 trivial)
 | true =>
  have qh0 := of_decide_eq_true h0
  obtain ⟨e_l_i, ge_l_i⟩ : ∃ x, l[i]? = some x := ⟨_, List.getElem?_eq_getElem (by omega)⟩
  cases h1 : (e_l_i.may) with
  | false =>
   rw [show (DV.v (.bool (isSet l)) : DV) = .v (.bool false) from (bv (by first | exact isSet_yes (by rw [show l.length = i by omega]; exact hv0) | exact isSet_no (SetTo.no1 ge_l_i (by assumption) (by omega)) | exact isSet_no (SetTo.no2 ge_l_i ge_l_i1 (by omega) (by first | assumption | (rw [lt_of_cmp (by assumption)]; rfl)) (by omega))))]
   exact toRet tk tq hK rfl [(2, [(0, .b true)]), (3, [(1, .ix (i) [.z e_l_i.node, .u e_l_i.inc])]), (4, [(1, .con (.v (.bool false)))])] 2000 r (by kernel_rfl) (an h0 (an (rfI ((i : Nat) : Int)) (an (procs_at ge_l_i) (an ((by have k := procMay e_l_i; rw [h1] at k; exact k) : Con Try.prog 37 [.ag [.z e_l_i.node, .u e_l_i.inc]] (.v (.bool false))) trivial))))
  | true =>
   have u0 := ((by have k := procMay e_l_i; rw [h1] at k; exact k) : Con Try.prog 37 [.ag [.z e_l_i.node, .u e_l_i.inc]] (.v (.bool true)))
   cases h2 : (decide ((0 : Int) < ((i : Nat) : Int))) with
   | false =>
    have qh2 := of_decide_eq_false h2
    exact toHead (todo' := hd Try.f73 0) tk tq hK [(2, [(0, .b true)]), (3, [(1, .ix (i) [.z e_l_i.node, .u e_l_i.inc])]), (4, [(1, .con (.v (.bool true))), (5, .b false)]), (6, [(0, .z (((i + 1 : Nat) : Int)))])] 2000 [] [0, 5, 6, 7] r (by kernel_rfl) (an h0 (an (rfI ((i : Nat) : Int)) (an (procs_at ge_l_i) (an u0 (an h2 (an ((wi (by omega)) : IntKind.i64.wrap ((((i : Nat) : Int) : Int) + 1) = ((i + 1 : Nat) : Int)) trivial)))))) fun ac wd r => again0 (by omega) ac wd ⟨⟨by omega, hv0.step ge_l_i (by assumption) fun q hq0 hq => by first | (exfalso; omega) | (rw [ge_l_i1] at hq; cases hq; first | assumption | (rw [lt_of_cmp (by assumption)]; rfl))⟩, r⟩
   | true =>
    have qh2 := of_decide_eq_true h2
    obtain ⟨e_l_i1, ge_l_i1⟩ : ∃ x, l[i - 1]? = some x := ⟨_, List.getElem?_eq_getElem (by omega)⟩
    have u1 := ((wi (by omega)) : IntKind.i64.wrap ((((i : Nat) : Int) : Int) - 1) = ((i - 1 : Nat) : Int))
    have u2 := (procCompare _ _ : Con Try.prog 52 [.ag [.z e_l_i1.node, .u e_l_i1.inc], .ag [.z e_l_i.node, .u e_l_i.inc]] (.z (e_l_i1.cmp e_l_i)))
    cases h3 : (decide ((0 : Int) ≤ e_l_i1.cmp e_l_i)) with
    | false =>
     have qh3 := of_decide_eq_false h3
     exact toHead (todo' := hd Try.f73 0) tk tq hK [(2, [(0, .b true)]), (3, [(1, .ix (i) [.z e_l_i.node, .u e_l_i.inc])]), (4, [(1, .con (.v (.bool true))), (5, .b true), (9, .z (((i - 1 : Nat) : Int))), (10, .ix (i - 1) [.z e_l_i1.node, .u e_l_i1.inc]), (13, .con (.z (e_l_i1.cmp e_l_i))), (14, .b false)]), (6, [(0, .z (((i + 1 : Nat) : Int)))])] 2000 [] [0, 5, 6, 7] r (by kernel_rfl) (an h0 (an (rfI ((i : Nat) : Int)) (an (procs_at ge_l_i) (an u0 (an h2 (an u1 (an (rfI ((i - 1 : Nat) : Int)) (an (procs_at ge_l_i1) (an u2 (an h3 (an ((wi (by omega)) : IntKind.i64.wrap ((((i : Nat) : Int) : Int) + 1) = ((i + 1 : Nat) : Int)) trivial))))))))))) fun ac wd r => again0 (by omega) ac wd ⟨⟨by omega, hv0.step ge_l_i (by assumption) fun q hq0 hq => by first | (exfalso; omega) | (rw [ge_l_i1] at hq; cases hq; first | assumption | (rw [lt_of_cmp (by assumption)]; rfl))⟩, r⟩
    | true =>
     have qh3 := of_decide_eq_true h3
     rw [show (DV.v (.bool (isSet l)) : DV) = .v (.bool false) from (bv (by first | exact isSet_yes (by rw [show l.length = i by omega]; exact hv0) | exact isSet_no (SetTo.no1 ge_l_i (by assumption) (by omega)) | exact isSet_no (SetTo.no2 ge_l_i ge_l_i1 (by omega) (by first | assumption | (rw [lt_of_cmp (by assumption)]; rfl)) (by omega))))]
     exact toRet tk tq hK rfl [(2, [(0, .b true)]), (3, [(1, .ix (i) [.z e_l_i.node, .u e_l_i.inc])]), (4, [(1, .con (.v (.bool true))), (5, .b true), (9, .z (((i - 1 : Nat) : Int))), (10, .ix (i - 1) [.z e_l_i1.node, .u e_l_i1.inc]), (13, .con (.z (e_l_i1.cmp e_l_i))), (14, .b true)])] 2000 r (by kernel_rfl) (an h0 (an (rfI ((i : Nat) : Int)) (an (procs_at ge_l_i) (an u0 (an h2 (an u1 (an (rfI ((i - 1 : Nat) : Int)) (an (procs_at ge_l_i1) (an u2 (an h3 trivial))))))))))
end Go.Proofs.Ytikmdkicccfjpaa
namespace Go.Proofs.Ytikmdkicccfjpaa
open Go.RowKit
structure Vid where
 round : Nat
 server : Proc
deriving DecidableEq
structure View where
 id : Vid
 members : List Proc
 starts : List Nat
deriving DecidableEq
end Go.Proofs.Ytikmdkicccfjpaa
namespace Go.Proofs.Ytikmdkicccfjpaa
open Go.RowKit
def placeN (l : List Proc) (p : Proc) : Nat := (idx l p 0).toNat
def placeB (l : List Proc) (p : Proc) : Bool := decide (0 ≤ idx l p 0)
def Lone (l : List Proc) (i : Nat) : Prop := ∀ a b p q, a < i → b < a → l[a]? = some p → l[b]? = some q → q.node ≠ p.node
def lone (l : List Proc) : Bool := (List.range l.length).all fun a => (List.range a).all fun b => match l[a]?, l[b]? with | some p, some q => decide (q.node ≠ p.node) | _, _ => true
theorem lone_iff (l : List Proc) : lone l = true ↔ Lone l l.length := by
 simp only [lone, List.all_eq_true, List.mem_range, Lone]
 constructor
 ·intro h a b p q ha hb hp hq
  have := h a ha b hb; simpa [hp, hq] using this
 ·intro h a ha b hb
  have e1 : l[a]? = some l[a] := List.getElem?_eq_getElem ha
  have e2 : l[b]? = some l[b] := List.getElem?_eq_getElem (by omega)
  simp only [e1, e2, decide_eq_true_eq]; exact h a b _ _ ha hb e1 e2
theorem lone_yes {l : List Proc} (h : Lone l l.length) : lone l = true := (lone_iff l).2 h
theorem lone_no {l : List Proc} {a b : Nat} {p q : Proc} (ha : a < l.length) (hb : b < a) (hp : l[a]? = some p) (hq : l[b]? = some q) (h : q.node = p.node) : lone l = false := by
 cases hs : lone l with
 | false => rfl
 | true => exact absurd h ((lone_iff l).1 hs a b p q ha hb hp hq)
end Go.Proofs.Ytikmdkicccfjpaa
namespace Go.Proofs.Ytikmdkicccfjpaa
open Go.RowKit
structure Slot where
 n : Nat
 body : List UInt8
deriving DecidableEq
def Slot.row (s : Slot) : List DV := [.v (.int .u64 (s.n : Int)), .ro 1 (bytesR s.body)]
abbrev slots (l : List Slot) : List (List DV) := l.map Slot.row
def findS (l : List Slot) (n : Nat) : Int := idx (l.map Slot.n) n 0
set_option maxRecDepth 100000 in
theorem cloneProcs_some (l : List Proc) (h0 : 0 < l.length) (hb : l.length < 2147483648) : Con Try.prog 34 [.d (.ro 2 (procs l))] (DV.em 30 2 (procs l)) := by
 refine Con.intro (by kernel_rfl) rfl rfl 8 rfl rfl fun w0 K ac hK r => ?_
 rw [show (DV.em 30 2 (procs l) : DV) = .em 30 2 ([] ++ (procs l)) from rfl]
 exact toRet tk tq hK rfl [] 2000 r (by kernel_rfl) (an ((by simpa using h0) : 0 < (procs l).length) (an ((by simp) : (0) = ([] : List (List DV)).length) (an ((by simp; omega) : (2 * ((0) + (procs l).length) + 0) * 16 ≤ 281474976710656) (an ((by simp; omega) : (0) + (procs l).length < 4611686018427387904) (an ((by simp [OneR, AV.one, oneC, Proc.row]) : OneR (procs l)) (an ((by simp) : (0 + (procs l).length) = ([] ++ (procs l) : List (List DV)).length) trivial))))))
set_option maxRecDepth 100000 in
theorem cloneProcs_none (c : Nat) : Con Try.prog 34 [.d (.v (.slice none 0 c))] (DV.v (.slice none 0 0)) := by
 refine Con.intro (by kernel_rfl) rfl rfl 8 rfl rfl fun w0 K ac hK r => ?_
 exact toRet tk tq hK rfl [] 2000 r (by kernel_rfl) trivial
set_option maxRecDepth 100000 in
theorem cloneProcs_no (a : Addr) (c : Nat) : Con Try.prog 34 [.d (.v (.slice (some a) 0 c))] (DV.em 30 2 ([] ++ [])) := by
 refine Con.intro (by kernel_rfl) rfl rfl 8 rfl rfl fun w0 K ac hK r => ?_
 exact toRet tk tq hK rfl [] 2000 r (by kernel_rfl) (an ((by simp) : (0) = ([] : List (List DV)).length) (an ((by simp) : (2 * ((0) + 0) + 0) * 16 ≤ 281474976710656) (an ((by simp) : (0) + 0 < 4611686018427387904) (an ((by simp [OneR]) : OneR (([] : List (List DV)))) (an ((by simp) : (0 + 0) = ([] ++ ([] : List (List DV)) : List (List DV)).length) trivial)))))
theorem cloneProcs (l : List Proc) (hb : l.length < 2147483648) : Con Try.prog 34 [.d (.ro 2 (procs l))] (.em 30 2 (procs l)) := by
 cases l with
 | nil =>
  refine Con.empty (pre := []) (post := []) fun a c => ?_
  cases a with
  | none => exact Con.nil 30 2 (cloneProcs_none c)
  | some a => exact cloneProcs_no a c
 | cons b l => exact cloneProcs_some (b :: l) (by simp) hb
end Go.Proofs.Ytikmdkicccfjpaa
namespace Go.Proofs.Ytikmdkicccfjpaa
open Go.RowKit
structure Msg where
 src : Proc
 n : Nat
 body : List UInt8
deriving DecidableEq
end Go.Proofs.Ytikmdkicccfjpaa
namespace Go.Proofs.Ytikmdkicccfjpaa
open Go.RowKit
theorem ind_v (x : Value) : Ind (.v x) := by intro K K2 y H h; cases h; exact .v _
end Go.Proofs.Ytikmdkicccfjpaa
namespace Go.Proofs.Ytikmdkicccfjpaa
open Go.RowKit
abbrev streams (l : List (List Slot)) : List (List DV) := l.map fun s => [.ro 2 (slots s)]
structure Flow where
 view : View
 streams : List (List Slot)
 handed : List Nat
deriving DecidableEq
end Go.Proofs.Ytikmdkicccfjpaa
namespace Go.Proofs.Ytikmdkicccfjpaa
open Go.RowKit
theorem Ind.tu {l : List DV} (h : ∀ c ∈ l, Ind c) : Ind (.tu l) := by
 intro K K' y H r
 cases r with | tu ys F hl hr => exact .tu ys F hl fun j c y h1 h2 => h c (List.mem_of_getElem? h1) _ _ _ _ (hr j c y h1 h2)
def streamAt (f : Flow) (i : Nat) : List Slot := (f.streams[i]?).getD []
def Flow.takes (f : Flow) (m : Msg) : Prop := placeB f.view.members m.src = true ∧ 1 ≤ m.n ∧ m.n ≤ 16 ∧ m.body.length ≤ 64 ∧ findS (streamAt f (placeN f.view.members m.src)) m.n < 0
instance (f : Flow) (m : Msg) : Decidable (f.takes m) := by unfold Flow.takes; infer_instance
end Go.Proofs.Ytikmdkicccfjpaa
