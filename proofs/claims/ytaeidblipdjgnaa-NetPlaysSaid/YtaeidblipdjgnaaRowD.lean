import Derived.Test.YtaeidblipdjgnaaApi
namespace Go.Proofs.Ytaeidblipdjgnaa
open Go.RowKit Go.Maps Go.WideMaps

def strv (l : List UInt8) : Value := .string ⟨l.toArray⟩
/-- a handed row of rows of bytes -/
def BBSrc (w : World) (v : Value) (ls : List (List UInt8)) : Prop := ∃ vs : List Value, Src w 1 v ls.length vs ∧ ∀ (i : Nat) (u : Value) (l : List UInt8), vs[i]? = some u → ls[i]? = some l → BSrc w u l
theorem BBSrc.at {w : World} {v : Value} {ls : List (List UInt8)} (h : BBSrc w v ls) {i : Nat} {l : List UInt8} (hl : ls[i]? = some l) : ∃ va vc ba bc, v = .slice (some va) ls.length vc ∧ w.cell? (va.add (((i : Nat) : Int).toNat * 1)) = some (.slice ba l.length bc) ∧ BSrc w (.slice ba l.length bc) l := by
  obtain ⟨vs, h1, h2⟩ := h
  have hi := lt_of_get hl
  have hlen : vs.length = ls.length := by have := h1.1; omega
  obtain ⟨va, vc, hv, hc⟩ := h1.row hi
  have h3 := hc 0 (by omega) (by omega)
  have hu : vs[i]? = some vs[i] := List.getElem?_eq_getElem (by omega)
  have hb := h2 i _ l hu hl
  obtain ⟨ba, bc, hba⟩ := hb.slice
  refine ⟨va, vc, ba, bc, hv, ?_, hba ▸ hb⟩
  have e0 : (va.add (i * 1)).add 0 = va.add (((i : Nat) : Int).toNat * 1) := by rw [Addr.add_add']; simp
  rw [e0] at h3
  rw [h3, ← hba]
  simp
theorem off_base {w0 w : World} {H R : Frag} {v : Value} {bs : List UInt8} (s : St [] w0 w (H ++ R)) (h : BSrc w0 v bs) : Off v (keys H) := by
  intro a n c e hn hb
  rcases s.own a.block (by rw [keys_app]; exact List.mem_append.2 (Or.inl hb)) with h1 | h1
  · rcases h.2 with ⟨h0, a', c', e'⟩ | ⟨a', c', e', h3⟩
    · rw [e] at e'; simp only [Value.slice.injEq] at e'; omega
    · rw [e] at e'; simp only [Value.slice.injEq, Option.some.injEq] at e'
      obtain ⟨rfl, rfl, -⟩ := e'
      have := cell_lt (h3 0 (by simp; omega))
      simp [Addr.add] at this; omega
  · simp at h1
theorem okSS : AppOk Try.prog 29 9 1 16 (.string ⟨#[]⟩) := ⟨by kernel_rfl, by kernel_rfl, by kernel_rfl, by kernel_rfl, rfl⟩
theorem str_one (l : List (List UInt8)) : ∀ q ∈ l.map strv, oneC q = true := by
  intro q hq; obtain ⟨b, _, rfl⟩ := List.mem_map.1 hq; rfl
def rw0 : M := M.fresh 2 [(1, 2)]
def rm (row : List (List UInt8)) : M := rw0.setq (1, 2) (row.map fun b => (b, false))
theorem rm_q (row : List (List UInt8)) : (rm row).q (1, 2) = row.map fun b => (b, false) := by simp [rm, M.setq]
theorem rm_link (row : List (List UInt8)) : (rm row).link (ends 1 2) = some false := rfl
theorem M.setq_setq (m : M) (k : Int × Int) (q q' : List (List UInt8 × Bool)) : (m.setq k q).setq k q' = m.setq k q' := by
  unfold M.setq; congr 1; funext k'; by_cases h : k' = k <;> simp [h]
theorem rm_nil : rm [] = rw0 := by
  unfold rm M.setq rw0 M.fresh; congr 1; funext k; by_cases h : k = (1, 2) <;> simp [h]
theorem rm_long {row : List (List UInt8)} {bs : List UInt8} (h : 512 < bs.length) : (rm row).send 1 2 bs = (2, rm row) := by
  unfold M.send; rw [rm_link]; simp [h]
theorem rm_full {row : List (List UInt8)} {bs : List UInt8} (h : ¬ 512 < bs.length) (h2 : row.length = 24) : (rm row).send 1 2 bs = (4, rm row) := by
  unfold M.send; rw [rm_link]; simp [h, rm_q, h2]
theorem rm_yes {row : List (List UInt8)} {bs : List UInt8} (h : ¬ 512 < bs.length) (h2 : row.length < 24) : (rm row).send 1 2 bs = (0, rm (row ++ [bs])) := by
  unfold M.send; rw [rm_link]; simp only [h, if_false, rm_q, List.length_map]
  rw [if_neg (by omega)]; simp [rm, M.setq_setq]
theorem rm_take {bs : List UInt8} {row : List (List UInt8)} : (rm (bs :: row)).take 1 2 0 = (bs, 0, rm row) := by
  unfold M.take M.pick; rw [rm_link]; simp [rm_q]; simp [rm, M.setq_setq]
theorem rm_none : (rm []).take 1 2 0 = ([], 5, rm []) := by
  unfold M.take M.pick; rw [rm_link]; simp [rm_q]
theorem rm_len : ((rm []).q (2, 1)).length = 0 := by rw [rm_nil]; rfl
theorem wrap64' {i n : Nat} (h : i < n) (hn : n ≤ 1000) : IntKind.wrap .i64 (((i : Nat) : Int) + 1) = ((i + 1 : Nat) : Int) := (wrap64 (by omega)).trans (by omega)

end Go.Proofs.Ytaeidblipdjgnaa
