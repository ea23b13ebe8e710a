/-
  From a statement's readings to the walks' own predicates, and from a walk that only makes memory to the statement's post.
-/
import Derived.Test.YtaeidblipdjgnaaLoop
import Derived.Deep.Slices
import Derived.ProofKit
import Derived.Carry
namespace Go.Proofs.Ytaeidblipdjgnaa
open Go.RowKit Go.Deep

/-! ### what a statement asks behind a call that only makes memory -/
theorem trodAll_gr {H : Type} {enc : TypeId × Value → H} {P : Program} (hl : laidOutB P = true) {W W' : World} (g : Gr W W') : ∀ {ts : List TypeId} {vs : List Value} {ds : List (DataW H)} {ps : List MemPlace}, (∀ t ∈ ts, P.readableRec t = true ∧ t < P.types.size) → DataW.TrodAll enc P W 0 (fun _ => true) true ts vs ds ps → (∀ x ∈ ps, x.block < W.heap.size) → DataW.TrodAll enc P W' 0 (fun b => decide (b < W.heap.size)) true ts vs ds ps
  | [], [], [], _, _, h, _ => h
  | [], _ :: _, _, _, _, h, _ => h.elim
  | [], [], _ :: _, _, _, h, _ => h.elim
  | _ :: _, [], _, _, _, h, _ => h.elim
  | _ :: _, _ :: _, [], _, _, h, _ => h.elim
  | t :: ts, v :: vs, d :: ds, ps, ht, h, hp => by
    obtain ⟨p, q, h1, h2, rfl⟩ := h
    refine ⟨p, q, Below.trod hl (ht t (by simp)).1 (ht t (by simp)).2 h1 g (fun x hx => hp x (by simp [hx])), trodAll_gr hl g (fun t' h' => ht t' (by simp [h'])) h2 (fun x hx => hp x (by simp [hx])), rfl⟩

theorem law_post {H : Type} {enc : TypeId × Value → H} {P : Program} {f : Func} {s : ChangeSpec} {W W' : World} {args : Array Value} {ds gs : List (DataW H)} {before : List MemPlace} {tb : TypeId} (hl : laidOutB P = true)
    (hp : f.params.toList.all (fun t => P.readableRec t && decide (t < P.types.size)) = true) (hr : f.resultTypes = #[tb]) (ht : P.underlying tb = some .bool) (hv : s.vars = [])
    (hW : DataW.Whole enc P f.params.toList s.vars false W args.toList ds gs before) (hfn : s.fn H (ds ++ gs) = { results := [.lit (.bool true)], args := ds }) (g : Gr W W') : s.post enc P f false true false false W args (.bool true) W' := by
  have hW' := hW
  have hlt := hW.lt
  obtain ⟨p, q, hA, hV, rfl, hfz, hnd⟩ := hW
  rw [hv] at hV
  match gs, hV with
  | [], hV =>
    cases hV
    refine ⟨ds, [], _, [], p, [], hW', ?_, ?_, ?_, ?_, fun h => by cases h⟩
    · rw [hfn, hr]
      exact ⟨[], [], ⟨1, by simp [DataW.trod, ht, Value.cells]⟩, rfl, rfl⟩
    · rw [hfn]
      refine trodAll_gr hl g (fun t h => ?_) hA (fun x hx => hlt x (by simp [hx]))
      have := List.all_eq_true.1 hp t h
      simpa using this
    · rw [hfn, hv]; rfl
    · exact Below.frame g _

/-! ### readings -/
/-- these cells read, as a value of type t -/
def TR (P : Program) (w : World) (t : TypeId) (cs : List Value) : Prop := ∃ (H : Type) (enc : TypeId × Value → H) (base : Nat) (sp : Nat → Bool) (held : Bool) (fuel : Nat) (x : DataW H × List MemPlace), DataW.trod enc P w base sp held fuel t cs = some x
theorem TR.of {H : Type} {enc : TypeId × Value → H} {P : Program} {w : World} {base : Nat} {sp : Nat → Bool} {held : Bool} {t : TypeId} {v : Value} {d : DataW H} {ps : List MemPlace} (h : DataW.Trod enc P w base sp held t v d ps) : TR P w t v.cells.toList := by
  obtain ⟨n, h⟩ := h; exact ⟨H, enc, base, sp, held, n, _, h⟩
section
variable {P : Program} {w : World} {t e : TypeId} {cs : List Value}
theorem TR.int {k : IntKind} (ht : P.underlying t = some (.int k)) (h : TR P w t cs) : ∃ n, cs = [.int k n] ∧ (Lit.int k n).wf = true := by
  obtain ⟨H, enc, base, sp, held, fuel, x, h⟩ := h
  cases fuel with
  | zero => simp [DataW.trod] at h
  | succ fuel =>
    rw [DataW.trod_step] at h; unfold DataW.trodStep at h; simp only [ht] at h
    split at h <;> simp_all
theorem TR.bool (ht : P.underlying t = some .bool) (h : TR P w t cs) : ∃ b, cs = [.bool b] := by
  obtain ⟨H, enc, base, sp, held, fuel, x, h⟩ := h
  cases fuel with
  | zero => simp [DataW.trod] at h
  | succ fuel =>
    rw [DataW.trod_step] at h; unfold DataW.trodStep at h; simp only [ht] at h
    split at h <;> simp_all
theorem TR.string (ht : P.underlying t = some .string) (h : TR P w t cs) : ∃ l : List UInt8, cs = [.string ⟨l.toArray⟩] ∧ l.length ≤ maxLen := by
  obtain ⟨H, enc, base, sp, held, fuel, x, h⟩ := h
  cases fuel with
  | zero => simp [DataW.trod] at h
  | succ fuel =>
    rw [DataW.trod_step] at h; unfold DataW.trodStep at h; simp only [ht] at h
    split at h <;> try simp_all
    rename_i s
    exact ⟨s.data.toList, by simp, by rw [Array.length_toList]; exact h.1⟩
theorem cells?_some {base : Nat} {a : Addr} {n : Nat} {X : List Value} (h : w.cells? base a n = some X) : X.length = n ∧ ∀ j (hj : j < X.length), w.cell? (a.add j) = some X[j] := by
  obtain ⟨_, h1, h2⟩ := World.cells?_some h
  exact ⟨h1, fun j hj => by rw [h2 j (by omega)]; exact List.getElem?_eq_getElem hj⟩
theorem mapM_each {α β : Type} {f : α → Option β} : ∀ {l : List α} {r : List β}, l.mapM f = some r → ∀ x ∈ l, ∃ y, f x = some y
  | [], _, _, x, hx => by simp at hx
  | z :: l, r, h, x, hx => by
    rw [List.mapM_cons] at h
    obtain ⟨y, h1, h2⟩ := Option.bind_eq_some_iff.1 h
    obtain ⟨ys, h3, _⟩ := Option.bind_eq_some_iff.1 h2
    rcases List.mem_cons.1 hx with rfl | hx
    · exact ⟨y, h1⟩
    · exact mapM_each h3 x hx
theorem flat_len {X : Nat → List Value} {c : Nat} : ∀ {n : Nat}, (∀ i, i < n → (X i).length = c) → ((List.range n).flatMap X).length = n * c
  | 0, _ => by simp
  | k + 1, h => by rw [List.range_succ, List.flatMap_append, List.length_append, flat_len (n := k) (fun i hi => h i (by omega))]; simp [h k (by omega), Nat.succ_mul]
theorem TR.slice (ht : P.underlying t = some (.slice e)) (h : TR P w t cs) : ∃ (v : Value) (n : Nat) (X : Nat → List Value), cs = [v] ∧ n ≤ maxLen ∧ (∀ i, i < n → (X i).length = P.cellsOf e ∧ TR P w e (X i)) ∧ Src w (P.cellsOf e) v n ((List.range n).flatMap X) := by
  obtain ⟨H, enc, base, sp, held, fuel, x, h⟩ := h
  rcases open_slice ht h with ⟨rfl, _⟩ | ⟨a, len, cap, m, n, D, Pl, rfl, _, hlc, hmax, hm, _, hx⟩
  · exact ⟨_, 0, fun _ => [], rfl, by simp [maxLen], fun i hi => by omega, by simp [Src]⟩
  · have hle : len ≤ m := by rw [hm]; split <;> omega
    obtain ⟨X, hX⟩ := choose_lt (n := len) (α := List Value) (p := fun i c => w.cells? base (a.add (i * P.cellsOf e)) (P.cellsOf e) = some c ∧ DataW.trod enc P w base sp held n e c = some (D i, Pl i)) (fun i hi => hx i (by omega))
    have hlen : ∀ i, i < len → (X i).length = P.cellsOf e := fun i hi => (cells?_some (hX i hi).1).1
    refine ⟨_, len, X, rfl, by omega, fun i hi => ⟨hlen i hi, H, enc, base, sp, held, n, _, (hX i hi).2⟩, ?_, ?_⟩
    · exact flat_len hlen
    · refine Or.inr ⟨a, cap, rfl, ?_⟩
      have key : ∀ k, k ≤ len → ∀ j (hj : j < ((List.range k).flatMap X).length), w.cell? (a.add j) = some ((List.range k).flatMap X)[j] := by
        intro k
        induction k with
        | zero => intro _ j hj; simp at hj
        | succ k ih =>
          intro hk j hj
          have hl0 : ((List.range k).flatMap X).length = k * P.cellsOf e := flat_len (fun i hi => hlen i (by omega))
          have hE : (List.range (k + 1)).flatMap X = (List.range k).flatMap X ++ X k := by rw [List.range_succ, List.flatMap_append]; simp
          have hj2 : j < ((List.range k).flatMap X ++ X k).length := by rw [← hE]; exact hj
          have hgoal : ((List.range (k + 1)).flatMap X)[j] = ((List.range k).flatMap X ++ X k)[j] := by congr 1
          rw [hgoal]
          by_cases h1 : j < ((List.range k).flatMap X).length
          · rw [List.getElem_append_left h1]; exact ih (by omega) j h1
          · rw [List.getElem_append_right (by omega)]
            have h2 := (cells?_some (hX k (by omega)).1).2 (j - ((List.range k).flatMap X).length) (by rw [List.length_append] at hj2; omega)
            rw [← h2, Addr.add_add']
            congr 2
            omega
      exact key len (Nat.le_refl _)
theorem TR.struct {fs : Array Field} (ht : P.underlying t = some (.struct fs)) (h : TR P w t cs) : cs.length = P.cellsOf t ∧ ∀ f ∈ fs.toList, TR P w f.type ((cs.drop f.offset).take (P.cellsOf f.type)) := by
  obtain ⟨H, enc, base, sp, held, fuel, x, h⟩ := h
  cases fuel with
  | zero => simp [DataW.trod] at h
  | succ fuel =>
    rw [DataW.trod_step] at h; unfold DataW.trodStep at h; simp only [ht] at h
    split at h
    · rename_i hlen
      refine ⟨hlen, fun f hf => ?_⟩
      obtain ⟨xs, h1, _⟩ := Option.map_eq_some_iff.1 h
      obtain ⟨y, hy⟩ := mapM_each h1 f hf
      exact ⟨H, enc, base, sp, held, fuel, _, hy⟩
    · simp at h
theorem TR.array {n : Nat} (ht : P.underlying t = some (.array n e)) (h : TR P w t cs) : cs.length = P.cellsOf t ∧ ∀ i, i < n → TR P w e ((cs.drop (i * P.cellsOf e)).take (P.cellsOf e)) := by
  obtain ⟨H, enc, base, sp, held, fuel, x, h⟩ := h
  cases fuel with
  | zero => simp [DataW.trod] at h
  | succ fuel =>
    rw [DataW.trod_step] at h; unfold DataW.trodStep at h; simp only [ht] at h
    split at h
    · rename_i hlen
      refine ⟨hlen, fun i hi => ?_⟩
      obtain ⟨xs, h1, _⟩ := Option.map_eq_some_iff.1 h
      obtain ⟨y, hy⟩ := mapM_each h1 i (by simpa using hi)
      exact ⟨H, enc, base, sp, held, fuel, _, hy⟩
    · simp at h
end
end Go.Proofs.Ytaeidblipdjgnaa
