/-
  Slices that are one's own: what they hold; append.
-/
import Derived.Test.YtaeidblipdjgnaaOps
namespace Go.Proofs.Ytaeidblipdjgnaa
open Go.RowKit

/-- v is a slice of n elements of 'size' cells each, the cells xs, in a block of its own (or it is empty, and nothing is said of its address) -/
def SlRep (T : TypeId) (size : Nat) (v : Value) (n : Nat) (xs : List Value) (H : Frag) : Prop :=
  xs.length = n * size ∧ ((n = 0 ∧ H = [] ∧ ∃ a, v = .slice a 0 0) ∨
    ∃ b cap cs, v = .slice (some ⟨b, 0, none⟩) n cap ∧ H = [(b, .cells cs T (0, 0))] ∧ cs.size = cap * size ∧ n ≤ cap ∧ cs.toList.take (n * size) = xs)

theorem SlRep.nil (T : TypeId) (size : Nat) (a : Option Addr) : SlRep T size (.slice a 0 0) 0 [] [] := ⟨by simp, Or.inl ⟨rfl, rfl, a, rfl⟩⟩
theorem SlRep.len {T : TypeId} {size : Nat} {v : Value} {n : Nat} {xs : List Value} {H : Frag} (h : SlRep T size v n xs H) : ∃ a c, v = .slice a n c := by
  rcases h.2 with ⟨rfl, _, a, rfl⟩ | ⟨b, cap, cs, rfl, _⟩
  · exact ⟨a, 0, rfl⟩
  · exact ⟨_, _, rfl⟩

/-- what is appended: m elements, the cells X, as they stand in w -/
def Src (w : World) (size : Nat) (x : Value) (m : Nat) (X : List Value) : Prop :=
  X.length = m * size ∧ ((m = 0 ∧ ∃ a c, x = .slice a 0 c) ∨ ∃ a c, x = .slice (some a) m c ∧ ∀ j (hj : j < X.length), w.cell? (a.add j) = some X[j])

theorem Src.gr {w w' : World} {size : Nat} {x : Value} {m : Nat} {X : List Value} (h : Src w size x m X) (g : Gr w w') : Src w' size x m X := by
  refine ⟨h.1, ?_⟩
  rcases h.2 with h2 | ⟨a, c, h2, h3⟩
  · exact Or.inl h2
  · exact Or.inr ⟨a, c, h2, fun j hj => g.cell' (h3 j hj)⟩

variable {P : Program}

theorem run_loadCells {w : World} {a : Addr} {X : List Value} (h : ∀ j (hj : j < X.length), w.cell? (a.add j) = some X[j]) : (loadCells a X.length).run P w = .ok X.toArray w := by
  have := run_loadCellsFrom (P := P) (w := w) (a := a) (vs := X) 0 #[] (by simpa using h)
  simpa [loadCells] using this

theorem Src.first {w : World} {size : Nat} {x : Value} {m : Nat} {X : List Value} (h : Src w size x m X) : (Builtin.lenOf x).run P w = .ok m w ∧ (Builtin.firstCells size m x).run P w = .ok X.toArray w := by
  obtain ⟨hl, h⟩ := h
  rcases h with ⟨rfl, a, c, rfl⟩ | ⟨a, c, rfl, h⟩
  · have : X = [] := List.eq_nil_of_length_eq_zero (by simpa using hl)
    subst this
    cases a with
    | none => simp [Builtin.lenOf, Builtin.firstCells]
    | some a => simp [Builtin.lenOf, Builtin.firstCells, loadCells, loadCellsFrom]
  · refine ⟨by simp [Builtin.lenOf], ?_⟩
    simp only [Builtin.firstCells, ← hl]
    exact run_loadCells h

theorem growBy_le (need : Nat) : ∀ (r c : Nat), c ≤ need → Builtin.growBy need r c ≤ 2 * need + 192
  | 0, c, h => by simp [Builtin.growBy]; omega
  | r + 1, c, h => by
    unfold Builtin.growBy
    split
    · omega
    · by_cases h2 : c + (c + 768) / 4 ≤ need
      · exact growBy_le need r _ h2
      · have key : ∀ r c', need < c' → Builtin.growBy need r c' = c' := by
          intro r; induction r with
          | zero => intro c' _; rfl
          | succ r ih => intro c' hc'; unfold Builtin.growBy; rw [if_pos (by omega)]
        rw [key r _ (by omega)]; omega
theorem next_le {need old : Nat} (h : old < need) : Builtin.nextslicecap need old ≤ 2 * need + 192 := by
  unfold Builtin.nextslicecap
  split
  · omega
  · split
    · omega
    · exact growBy_le need 4 old (by omega)

/-- the facts of a slice's type that append asks -/
structure AppOk (P : Program) (st T size bytes : Nat) (z : Value) : Prop where
  hst : P.underlying st = some (.slice T)
  hsize : (P.info? T).map (·.size) = some size
  hbytes : (P.info? T).map (·.bytes) = some bytes
  hzero : (P.info? T).bind (·.zero) = some z
  hzs : z.cells.size = size

theorem AppOk.info {st T size bytes : Nat} {z : Value} (h : AppOk P st T size bytes z) : ∃ i, P.info? T = some i ∧ i.size = size ∧ i.bytes = bytes ∧ i.zero = some z := by
  cases hi : P.info? T with
  | none => have := h.hsize; simp [hi] at this
  | some i =>
    have h1 := h.hsize; have h2 := h.hbytes; have h3 := h.hzero
    simp only [hi, Option.map_some, Option.some.injEq, Option.bind_some] at h1 h2 h3
    exact ⟨i, rfl, h1, h2, h3⟩

theorem zeroCells_size (z : Array Value) (n : Nat) : (Builtin.zeroCells z n).size = n * z.size := by simp [Builtin.zeroCells]

theorem setCs_toList (c : Array Value) : ∀ (vs : List Value) (i : Nat), i + vs.length ≤ c.size → ∀ (d : Array Value), d.size = c.size → (setCs d i vs).toList.take (i + vs.length) = d.toList.take i ++ vs := by
  intro vs
  induction vs with
  | nil => intro i h d hd; simp [setCs]
  | cons v r ih =>
    intro i h d hd
    simp only [List.length_cons] at h
    have := ih (i + 1) (by omega) (d.setIfInBounds i v) (by simp [hd])
    simp only [setCs, List.length_cons]
    rw [show i + (r.length + 1) = i + 1 + r.length by omega, this]
    have hi : i < d.toList.length := by simp [hd]; omega
    simp only [Array.toList_setIfInBounds]
    rw [List.take_succ_eq_append_getElem (by simpa using hi)]
    simp [List.take_set_of_le]

/-- APPEND, to a slice that is one's own -/
theorem y_append {st T size bytes : Nat} {z : Value} {ρ : Operand → Value} {w w0 : World} {D : List Nat} {Φ : Value → World → Prop} {d : Option Tmp} {ty xt : TypeId} {pos : String} {aft : Array Edge} {gd : Option (Nat × Bool)} {x y : Operand} {v u : Value} {n m : Nat} {xs X : List Value} {H R : Frag}
    (ok : AppOk P st T size bytes z) (hxt : P.underlying xt = some (.slice T)) (hx : ρ x = v) (hy : ρ y = u) (S : St D w0 w (H ++ R)) (hv : SlRep T size v n xs H) (hu : Src w size u m X) (hone : ∀ q ∈ X, oneC q = true) (hroom : (2 * (n + m) + 192) * bytes ≤ 281474976710656) (hbig : n + m < 4611686018427387904)
    (hΦ : ∀ v' w' H', SlRep T size v' (n + m) (xs ++ X) H' → St D w0 w' (H' ++ R) → Φ v' w') : OpY P ⟨d, .call ⟨.builtin .append, #[x, y], #[st, xt]⟩, ty, pos, aft, gd⟩ ρ w Φ := by
  obtain ⟨i, hi, h1, h2, h3⟩ := ok.info
  obtain ⟨hlen, hfirst⟩ := hu.first (P := P)
  have hsz : ∀ w : World, (sizeOf T).run P w = .ok size w := fun w => by simp [sizeOf, typeInfo, Sem.run_bind, hi, h1]
  have hinfo : ∀ w : World, (typeInfo T).run P w = .ok i w := fun w => by simp [typeInfo, Sem.run_bind, hi]
  have hzero : ∀ w : World, (zeroValue T).run P w = .ok z w := fun w => by simp [zeroValue, Sem.run_bind, hinfo, h3]
  have hnx : n + m ≤ 9223372036854775807 := by omega
  -- what the built-in does, in both its ways
  have hexec : ∀ r : Result Value, (Builtin.append_ #[st, xt] ty #[v, u]).run P w = r → (execOp ρ ⟨d, .call ⟨.builtin .append, #[x, y], #[st, xt]⟩, ty, pos, aft, gd⟩).run P w = r.andThen fun v w' => .ok (.value v) w' := by
    intro r hr
    simp only [execOp, resolve, List.map_toArray, List.map, hx, hy, Sem.run_bind, Sem.run_pure, Result.andThen_ok, invoke, builtin, hr]
  have hplace : ∀ (a : Option Addr) (c : Nat) (w' : World), v = .slice a n c → n + m ≤ c → (match a with | some a => (storeCells (a.add (n * size)) X).run P w | none => .ok () w) = .ok () w' → (Builtin.append_ #[st, xt] ty #[v, u]).run P w = .ok (.slice a (n + m) c) w' := by
    intro a c w' hv hle hst
    subst hv
    unfold Builtin.append_
    simp only [List.getElem?_toArray, List.getElem?_cons_zero, List.getElem?_cons_succ, Sem.run_bind, run_underlying ok.hst, run_underlying hxt, Result.andThen_ok, hsz, Sem.run_pure, Bool.false_eq_true, if_false, hlen, hle, if_true, Bool.not_false, hfirst]
    cases a with
    | none => simp only at hst; cases hst; simp
    | some a => simp only at hst; simp [hst]
  have hgrow : ∀ (a : Option Addr) (c : Nat) (old : List Value), v = .slice a n c → c < n + m → (Builtin.firstCells size n v).run P w.drew = .ok old.toArray w.drew → old.length = n * size → ∃ k, n + m ≤ k ∧ (Builtin.append_ #[st, xt] ty #[v, u]).run P w = .ok (.slice (some ⟨w.heap.size, 0, none⟩) (n + m) k) (w.drew.alloc (.cells (old.toArray ++ X.toArray ++ Builtin.zeroCells z.cells (k - (n + m))) T)) := by
    intro a c old hv hlt hold holdl
    subst hv
    have hfirst' := (hu.gr (Gr.drew w)).first (P := P)
    have hnc : Builtin.nextslicecap (n + m) c * bytes ≤ 281474976710656 := Nat.le_trans (Nat.mul_le_mul_right _ (next_le hlt)) hroom
    refine ⟨(Question.appendCap (n + m) c T).cut (w.tape w.drawn (.appendCap (n + m) c T)), by simp [Question.cut], ?_⟩
    unfold Builtin.append_
    simp only [List.getElem?_toArray, List.getElem?_cons_zero, List.getElem?_cons_succ, Sem.run_bind, run_underlying ok.hst, run_underlying hxt, Result.andThen_ok, hsz, Sem.run_pure, Bool.false_eq_true, if_false, hlen]
    have hch : (choose (.appendCap (n + m) c T)).run P w = .ok ((Question.appendCap (n + m) c T).cut (w.tape w.drawn (.appendCap (n + m) c T))) w.drew := by
      simp [choose, Sem.run, Question.forced]
    have hask : ∀ (k : Nat) (w : World), (askRoom k).run P w = .ok () w := by
      intro k w; unfold askRoom; split <;> simp [mark, Sem.run]
    have hbig' : ¬ (((n + m : Nat) : Int) > IntKind.i64.max ∧ (False ∨ i.bytes = 0)) := by
      rintro ⟨h, _⟩
      simp [IntKind.max, IntKind.signed, IntKind.bits] at h
      omega
    have hnc' : ¬ (Builtin.nextslicecap (n + m) c * i.bytes > 2 ^ 48) := by rw [h2]; omega
    have hrow : ∀ (cs : Array Value) (w : World), (newRow T cs).run P w = .ok ⟨w.heap.size, 0, none⟩ (w.alloc (.cells cs T)) := by
      intro cs w; simp [newRow, newObj, Sem.run]
    rw [if_neg (by omega)]
    simp only [Sem.run_bind, hinfo, Result.andThen_ok]
    rw [if_neg hbig']
    simp only [Sem.run_bind, hinfo, Result.andThen_ok]
    rw [if_neg hnc']
    simp only [Sem.run_bind, hinfo, Result.andThen_ok, hch, hask, hold, Bool.not_false, if_true, hfirst'.2, hzero, hrow, Sem.run_pure]
    rfl
  have hsize : w.drew.heap.size = w.heap.size := rfl
  -- the end, where it has grown
  have hnew : ∀ (old : List Value) (k : Nat), old.length = n * size → old = xs → n + m ≤ k → ∀ b cs, cs = old.toArray ++ X.toArray ++ Builtin.zeroCells z.cells (k - (n + m)) → SlRep T size (.slice (some ⟨b, 0, none⟩) (n + m) k) (n + m) (xs ++ X) [(b, .cells cs T (0, 0))] := by
    intro old k hol hox hk b cs hcs
    subst hcs
    have hXl := hu.1
    have e1 : (n + m) * size = n * size + m * size := Nat.add_mul n m size
    refine ⟨by rw [List.length_append, ← hox, hol, hXl, e1], Or.inr ⟨b, k, _, rfl, rfl, ?_, hk, ?_⟩⟩
    · simp only [Array.size_append, List.size_toArray, zeroCells_size, ok.hzs, hol, hXl]
      rw [← e1, ← Nat.add_mul]; congr 1; omega
    · simp only [Array.toList_append, ← hox]
      rw [List.take_append_of_le_length (by simp [hol, hXl, e1]), List.take_of_length_le (by simp [hol, hXl, e1])]
  have hstep : ∀ (old : List Value) (k : Nat), old.length = n * size → old = xs → n + m ≤ k → Φ (.slice (some ⟨w.heap.size, 0, none⟩) (n + m) k) (w.drew.alloc (.cells (old.toArray ++ X.toArray ++ Builtin.zeroCells z.cells (k - (n + m))) T)) := by
    intro old k hol hox hk
    exact hΦ _ _ _ (hnew old k hol hox hk w.heap.size _ rfl) ((S.app_right.gr (Gr.drew w)).alloc _)
  rcases hv.2 with ⟨rfl, rfl, a, rfl⟩ | ⟨b, cap, cs, rfl, rfl, hcs, hle, htake⟩
  · have hxs : xs = [] := List.eq_nil_of_length_eq_zero (by simpa using hv.1)
    by_cases hm : m = 0
    · have hX : X = [] := List.eq_nil_of_length_eq_zero (by rw [hu.1, hm]; simp)
      refine .pure (v := .slice a (0 + m) 0) (w' := w) (by rw [hexec _ (hplace a 0 w rfl (by omega) (by subst hX; cases a <;> simp [storeCells]))]; rfl) (hΦ _ _ [] ?_ S)
      subst hm; rw [hxs, hX]; exact SlRep.nil T size a
    · obtain ⟨k, hk, hrun⟩ := hgrow a 0 [] rfl (by omega) (by cases a <;> simp [Builtin.firstCells, loadCells, loadCellsFrom]) (by simp)
      exact .pure (by rw [hexec _ hrun]; rfl) (hstep [] k (by simp) hxs.symm hk)
  · have hb : w.heap[b]? = some (.cells cs T (0, 0)) := S.holds (b, _) (by simp)
    by_cases hm : n + m ≤ cap
    · have hsz2 : n * size + X.length ≤ cs.size := by rw [hu.1, hcs, ← Nat.add_mul]; exact Nat.mul_le_mul_right _ hm
      have hst := run_storeCells (P := P) X w cs (n * size) 0 hb (by omega) hone
      refine .pure (v := .slice (some ⟨b, 0, none⟩) (n + m) cap) (w' := setB w b (.cells (setCs cs (n * size) X) T (0, 0))) (by rw [hexec _ (hplace _ cap _ rfl hm (by simp only [add_eq, Nat.zero_add]; exact hst))]; rfl) (hΦ _ _ [(b, .cells (setCs cs (n * size) X) T (0, 0))] ?_ (S.set _))
      have e1 : (n + m) * size = n * size + m * size := Nat.add_mul n m size
      refine ⟨by rw [List.length_append, hv.1, hu.1, e1], Or.inr ⟨b, cap, _, rfl, rfl, by rw [setCs_size, hcs], hm, ?_⟩⟩
      have := setCs_toList cs X (n * size) hsz2 cs rfl
      rw [hu.1] at this
      rw [e1, this, htake]
    · have hold : (Builtin.firstCells size n (.slice (some ⟨b, 0, none⟩) n cap)).run P w.drew = .ok xs.toArray w.drew := by
        simp only [Builtin.firstCells, ← hv.1]
        refine run_loadCells (fun j hj => ?_)
        rw [add_eq, Nat.zero_add]
        have hb' : w.drew.heap[b]? = some (.cells cs T (0, 0)) := hb
        rw [cell_of hb']
        have : (cs.toList.take (n * size))[j]? = some xs[j] := by rw [htake]; simp [hj]
        rw [List.getElem?_take] at this
        split at this
        · simpa using this
        · simp at this
      obtain ⟨k, hk, hrun⟩ := hgrow (some ⟨b, 0, none⟩) cap xs rfl (by omega) hold hv.1
      exact .pure (by rw [hexec _ hrun]; rfl) (hstep xs k hv.1 rfl hk)

/-- append within the capacity: in place -/
theorem y_appendIn {st T size bytes : Nat} {z : Value} {ρ : Operand → Value} {w w0 : World} {D : List Nat} {Φ : Value → World → Prop} {d : Option Tmp} {ty xt : TypeId} {pos : String} {aft : Array Edge} {gd : Option (Nat × Bool)} {x y : Operand} {u : Value} {b n m cap i : Nat} {cs : Array Value} {X : List Value} {H : Frag}
    (ok : AppOk P st T size bytes z) (hxt : P.underlying xt = some (.slice T)) (hx : ρ x = .slice (some ⟨b, 0, none⟩) n cap) (hy : ρ y = u) (S : St D w0 w H) (hb : H[i]? = some (b, .cells cs T (0, 0))) (hcs : cs.size = cap * size) (hm : n + m ≤ cap) (hu : Src w size u m X) (hone : ∀ q ∈ X, oneC q = true)
    (hΦ : St D w0 (setB w b (.cells (setCs cs (n * size) X) T (0, 0))) (H.set i (b, .cells (setCs cs (n * size) X) T (0, 0))) → Φ (.slice (some ⟨b, 0, none⟩) (n + m) cap) (setB w b (.cells (setCs cs (n * size) X) T (0, 0)))) : OpY P ⟨d, .call ⟨.builtin .append, #[x, y], #[st, xt]⟩, ty, pos, aft, gd⟩ ρ w Φ := by
  obtain ⟨inf, hi, h1, h2, h3⟩ := ok.info
  obtain ⟨hlen, hfirst⟩ := hu.first (P := P)
  have hsz : ∀ w : World, (sizeOf T).run P w = .ok size w := fun w => by simp [sizeOf, typeInfo, Sem.run_bind, hi, h1]
  have hsz2 : n * size + X.length ≤ cs.size := by rw [hu.1, hcs, ← Nat.add_mul]; exact Nat.mul_le_mul_right _ hm
  have hst := run_storeCells (P := P) X w cs (n * size) 0 (S.get i hb) (by omega) hone
  refine .pure (v := .slice (some ⟨b, 0, none⟩) (n + m) cap) (w' := setB w b (.cells (setCs cs (n * size) X) T (0, 0))) ?_ (hΦ (S.setAt i hb _))
  have : (Builtin.append_ #[st, xt] ty #[.slice (some ⟨b, 0, none⟩) n cap, u]).run P w = .ok (.slice (some ⟨b, 0, none⟩) (n + m) cap) (setB w b (.cells (setCs cs (n * size) X) T (0, 0))) := by
    unfold Builtin.append_
    simp only [List.getElem?_toArray, List.getElem?_cons_zero, List.getElem?_cons_succ, Sem.run_bind, run_underlying ok.hst, run_underlying hxt, Result.andThen_ok, hsz, Sem.run_pure, Bool.false_eq_true, if_false, hlen, hm, if_true, Bool.not_false, hfirst, add_eq, Nat.zero_add]
    simp only [Nat.add_zero] at hst
    simp [hst]
  simp only [execOp, resolve, List.map_toArray, List.map, hx, hy, Sem.run_bind, Sem.run_pure, Result.andThen_ok, invoke, builtin, this]

/-! slicing -/
section
variable {ρ : Operand → Value} {w : World} {Φ : Value → World → Prop} {d : Option Tmp} {ty t e : TypeId} {pos : String} {aft : Array Edge} {gd : Option (Nat × Bool)} {x lo hi mx : Operand} {size l h m b o n c : Nat}
def sliced (b o l h m size : Nat) : Value := .slice (some (if m = l then ⟨b, o, none⟩ else ⟨b, o + l * size, none⟩)) (h - l) (m - l)
theorem run_slice' (ht : P.underlying t = some (.slice e)) (hs : (P.info? e).map (·.size) = some size) {vl vh vm : Option Value} (hb : (Instr.sliceBounds true n c vl vh vm).run P w = .ok (l, h, m) w) :
    (Instr.sliceAt t (.slice (some ⟨b, o, none⟩) n c) vl vh vm).run P w = .ok (sliced b o l h m size) w := by
  cases hi : P.info? e with
  | none => simp [hi] at hs
  | some inf =>
    simp only [hi, Option.map_some, Option.some.injEq] at hs
    have hsz : (sizeOf e).run P w = .ok size w := by simp [sizeOf, typeInfo, Sem.run_bind, hi, hs]
    simp only [Instr.sliceAt, Instr.slice, Sem.run_bind, run_underlying ht, Result.andThen_ok, hb, hsz, Sem.run_pure, sliced, Option.map_some, add_eq]
    split <;> rfl
theorem run_bound {v : Nat} {y : Nat} {code : BoundsCode} (h : v ≤ y) : (Instr.sliceBound (.int .i64 v) y code).run P w = .ok v w := by
  simp only [Instr.sliceBound, Sem.run_bind, asIntOf, Sem.run_pure, Result.andThen_ok]
  rw [if_pos ⟨by omega, by omega⟩]; simp
theorem y_slice3 (ht : P.underlying t = some (.slice e)) (hs : (P.info? e).map (·.size) = some size) (hx : ρ x = .slice (some ⟨b, o, none⟩) n c) (hl : ρ lo = .int .i64 l) (hh : ρ hi = .int .i64 h) (hm : ρ mx = .int .i64 m) (h1 : l ≤ h) (h2 : h ≤ m) (h3 : m ≤ c) (hΦ : Φ (sliced b o l h m size) w) :
    OpY P ⟨d, .slice t x (some lo) (some hi) (some mx), ty, pos, aft, gd⟩ ρ w Φ :=
  .pure (by
    have := run_slice' (P := P) (w := w) (b := b) (o := o) ht hs (n := n) (c := c) (l := l) (h := h) (m := m) (vl := some (.int .i64 l)) (vh := some (.int .i64 h)) (vm := some (.int .i64 m)) (by simp [Instr.sliceBounds, run_bound h1, run_bound h2, run_bound h3])
    simp only [execOp, hx, hl, hh, hm, Option.map_some, Sem.run_bind, this, Result.andThen_ok, Sem.run_pure]) hΦ
theorem y_sliceHi (ht : P.underlying t = some (.slice e)) (hs : (P.info? e).map (·.size) = some size) (hx : ρ x = .slice (some ⟨b, o, none⟩) n c) (hh : ρ hi = .int .i64 h) (h2 : h ≤ c) (hΦ : Φ (sliced b o 0 h c size) w) :
    OpY P ⟨d, .slice t x none (some hi) none, ty, pos, aft, gd⟩ ρ w Φ :=
  .pure (by
    have := run_slice' (P := P) (w := w) (b := b) (o := o) ht hs (n := n) (c := c) (l := 0) (h := h) (m := c) (vl := none) (vh := some (.int .i64 h)) (vm := none) (by simp [Instr.sliceBounds, run_bound h2])
    simp only [execOp, hx, hh, Option.map_some, Option.map_none, Sem.run_bind, this, Result.andThen_ok, Sem.run_pure]) hΦ
theorem y_sliceLo (ht : P.underlying t = some (.slice e)) (hs : (P.info? e).map (·.size) = some size) (hx : ρ x = .slice (some ⟨b, o, none⟩) n c) (hl : ρ lo = .int .i64 l) (h1 : l ≤ n) (hΦ : Φ (sliced b o l n c size) w) :
    OpY P ⟨d, .slice t x (some lo) none none, ty, pos, aft, gd⟩ ρ w Φ :=
  .pure (by
    have := run_slice' (P := P) (w := w) (b := b) (o := o) ht hs (n := n) (c := c) (l := l) (h := n) (m := c) (vl := some (.int .i64 l)) (vh := none) (vm := none) (by simp [Instr.sliceBounds, run_bound h1])
    simp only [execOp, hx, hl, Option.map_some, Option.map_none, Sem.run_bind, this, Result.andThen_ok, Sem.run_pure]) hΦ
theorem y_sliceLH (ht : P.underlying t = some (.slice e)) (hs : (P.info? e).map (·.size) = some size) (hx : ρ x = .slice (some ⟨b, o, none⟩) n c) (hl : ρ lo = .int .i64 l) (hh : ρ hi = .int .i64 h) (h1 : l ≤ h) (h2 : h ≤ c) (hΦ : Φ (sliced b o l h c size) w) :
    OpY P ⟨d, .slice t x (some lo) (some hi) none, ty, pos, aft, gd⟩ ρ w Φ :=
  .pure (by
    have := run_slice' (P := P) (w := w) (b := b) (o := o) ht hs (n := n) (c := c) (l := l) (h := h) (m := c) (vl := some (.int .i64 l)) (vh := some (.int .i64 h)) (vm := none) (by simp [Instr.sliceBounds, run_bound h1, run_bound h2])
    simp only [execOp, hx, hl, hh, Option.map_some, Option.map_none, Sem.run_bind, this, Result.andThen_ok, Sem.run_pure]) hΦ

theorem y_indexS {ix : Operand} {k : IntKind} {i : Int} {j : Nat} (ht : P.underlying t = some (.slice e)) (hs : (P.info? e).map (·.size) = some size) (hx : ρ x = .slice (some ⟨b, o, none⟩) n c) (hi : ρ ix = .int k i) (h0 : 0 ≤ i) (h1 : i < n) (hj : o + i.toNat * size = j) (hΦ : Φ (.pointer (some ⟨b, j, none⟩)) w) :
    OpY P ⟨d, .indexAddr t x ix, ty, pos, aft, gd⟩ ρ w Φ := by
  subst hj
  refine .pure (v := .pointer (some ⟨b, o + i.toNat * size, none⟩)) ?_ hΦ
  cases hin : P.info? e with
  | none => simp [hin] at hs
  | some inf =>
    simp only [hin, Option.map_some, Option.some.injEq] at hs
    have hsz : (sizeOf e).run P w = .ok size w := by simp [sizeOf, typeInfo, Sem.run_bind, hin, hs]
    simp [execOp, hx, hi, Instr.indexAt, asIntOf, Sem.run_bind, run_underlying ht, h0, h1, hsz, add_eq]
/-- clear of a slice in a block of one's own -/
theorem y_clearS {z : Value} {Z : List Value} (ht : P.underlying t = some (.slice e)) (hz : (zeroValue e).run P w = .ok z w) (hx : ρ x = .slice (some ⟨b, o, none⟩) (n + 1) c) {cs : Array Value} {T : TypeId} (hb : w.heap[b]? = some (.cells cs T (0, 0))) (hZ : (Builtin.zeroCells z.cells (n + 1)).toList = Z) (hl : o + Z.length ≤ cs.size) (hone : ∀ q ∈ Z, oneC q = true)
    (hΦ : Φ (.tuple #[]) (setB w b (.cells (setCs cs o Z) T (0, 0)))) : OpY P ⟨d, .call ⟨.builtin .clear, #[x], #[t]⟩, ty, pos, aft, gd⟩ ρ w Φ :=
  .pure (by
    have hst := run_storeCells (P := P) Z w cs o 0 hb (by omega) hone
    simp only [Nat.add_zero] at hst
    have : (Builtin.clear_ #[t] ty #[.slice (some ⟨b, o, none⟩) (n + 1) c]).run P w = .ok (.tuple #[]) (setB w b (.cells (setCs cs o Z) T (0, 0))) := by
      unfold Builtin.clear_
      simp only [List.getElem?_toArray, List.getElem?_cons_zero, Sem.run_bind, run_underlying ht, Result.andThen_ok, hz, hZ, hst, Sem.run_pure]
    simp only [execOp, resolve, List.map_toArray, List.map, hx, Sem.run_bind, Sem.run_pure, Result.andThen_ok, invoke, builtin, this]) hΦ
end
end Go.Proofs.Ytaeidblipdjgnaa
