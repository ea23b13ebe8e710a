/-
  Operations by what they answer: for those of a region that may come late.
-/
import Derived.Test.YtaeidblipdjgnaaOps
namespace Go.Proofs.Ytaeidblipdjgnaa
open Go.RowKit
section
variable {P : Program} {ρ : Operand → Value} {w : World} {d : Option Tmp} {ty : TypeId} {pos : String} {aft : Array Edge} {gd : Option (Nat × Bool)}
theorem r_load {t : TypeId} {x : Operand} {a : Addr} {v : Value} (ht : scalar P t = true) (h : ρ x = .pointer (some a)) (hc : w.cell? a = some v) : (execOp ρ ⟨d, .load t x, ty, pos, aft, gd⟩).run P w = .ok (.value v) w := by
  simp only [execOp, h, Sem.run_bind, run_loadAt_scalar ht hc, Result.andThen_ok, Sem.run_pure]
theorem r_loadAgg {t : TypeId} {x : Operand} {a : Addr} (vs : List Value) (ht : aggOf P t vs.length = true) (h : ρ x = .pointer (some a)) (hc : ∀ j (hj : j < vs.length), w.cell? (a.add j) = some vs[j]) : (execOp ρ ⟨d, .load t x, ty, pos, aft, gd⟩).run P w = .ok (.value (.agg vs.toArray)) w := by
  simp only [execOp, h, Sem.run_bind, run_loadAt_agg ht hc, Result.andThen_ok, Sem.run_pure]
theorem r_build0 {t : TypeId} {v : Value} (hr : (Instr.build t #[]).run P w = .ok v w) : (execOp ρ ⟨d, .build t #[], ty, pos, aft, gd⟩).run P w = .ok (.value v) w := by
  simp only [execOp, List.map_toArray, List.map, Sem.run_bind, hr, Result.andThen_ok, Sem.run_pure]
theorem r_build1 {t : TypeId} {v : Value} {i0 : Nat} {x0 : Operand} {v0 : Value} (h0 : ρ x0 = v0) (hr : (Instr.build t #[(i0, v0)]).run P w = .ok v w) : (execOp ρ ⟨d, .build t #[(i0, x0)], ty, pos, aft, gd⟩).run P w = .ok (.value v) w := by
  subst h0; simp only [execOp, List.map_toArray, List.map, Sem.run_bind, hr, Result.andThen_ok, Sem.run_pure]
theorem r_build2 {t : TypeId} {v : Value} {i0 : Nat} {x0 : Operand} {v0 : Value} {i1 : Nat} {x1 : Operand} {v1 : Value} (h0 : ρ x0 = v0) (h1 : ρ x1 = v1) (hr : (Instr.build t #[(i0, v0), (i1, v1)]).run P w = .ok v w) : (execOp ρ ⟨d, .build t #[(i0, x0), (i1, x1)], ty, pos, aft, gd⟩).run P w = .ok (.value v) w := by
  subst h0 h1; simp only [execOp, List.map_toArray, List.map, Sem.run_bind, hr, Result.andThen_ok, Sem.run_pure]
end
/-- under a guard that was itself passed over -/
theorem L_nu {P : Program} {ops : Array Oper} {Q : Exit → Act → World → Prop} {sz d j s : Nat} {want : Bool} {E : List (Nat × Value)} {a : Act} {w : World} {o : Oper} {r : List (Oper × Bool)} (A : Sl sz a E) (hd : o.dst = some d) (hlt : d < sz) (hg : o.guard = some (j, want)) (hj : dstOf ops j = some s) (hs : s < sz) (hv : a.eval (.tmp s) = undef)
    (h : ∀ a', Sl sz a' ((d, undef) :: but E d) → wpL P ops Q r a' w) : wpL P ops Q ((o, false) :: r) a w := by
  unfold wpL
  simp only [cond_false, hg]
  have hy : yielded ops a.tmps j = none := by rw [yielded_eq hj (by rw [A.size]; exact hs), hv]; rfl
  refine ⟨fun hn => by rw [hy] at hn; simp at hn, fun _ => ?_⟩
  rw [hd]
  exact h _ (A.put d undef hlt)
theorem Holds.at {w : World} {H : Frag} (h : Holds w H) (i : Nat) {b : Nat} {o : Obj} (hi : H[i]? = some (b, o)) : w.heap[b]? = some o := h (b, o) (List.mem_of_getElem? hi)
theorem Holds.cons {w : World} {H : Frag} {b : Nat} {o : Obj} (h : w.heap[b]? = some o) (g : Holds w H) : Holds w ((b, o) :: H) := by
  intro x hx; rcases List.mem_cons.1 hx with rfl | hx; exact h; exact g x hx
end Go.Proofs.Ytaeidblipdjgnaa
