/-
  worldNone_card, part 3 of 5: merged by program from the texts that it needs.
-/
import Derived.Test.YtkheephfkbpchaaGreatDoorWnB
set_option linter.unusedSimpArgs false
set_option linter.unusedVariables false
set_option linter.unnecessarySimpa false
namespace Go.Proofs.YtkheephfkbpchaaGreatDoor
open Go.RowKit
variable {mk : Bool} {P : Program} {T : Tab} {f : FuncId} {R : Tgt} {Re : Ending → World → Prop} {a : Act} {w : World} {D : List Nat} {w0 : World} {K0 : World → Prop} {E : List (Nat × AV)} {M : List Blk} {β : Beta} {F : Nat → Frag} {I H : Frag} {sz : Nat} {tb : Tbl} {todo todo' : List Item}
def IndA (x : AV) : Prop := ∀ (K K' : World → Prop) (β : Beta) (y : Value), ARel K β x y → ARel K' β x y
def IndB (b : Blk) : Prop := ∀ (K K' : World → Prop) (β : Beta) (u : Nat) (H : Frag), BRel K β u b H → BRel K' β u b H
theorem IndA.d {x : DV} (h : Ind x) : IndA (.d x) := fun K K' β y r => by cases r with | d r => exact .d (h _ _ _ _ r)
theorem IndA.mv (u : Nat) : IndA (.mv u) := fun K K' β y r => by cases r with | mv h => exact .mv h
theorem IndA.pt (u o : Nat) : IndA (.pt u o) := fun K K' β y r => by cases r with | pt h => exact .pt h
theorem IndA.sl (u n : Nat) : IndA (.sl u n) := fun K K' β y r => by cases r with | sl h => exact .sl h
theorem IndB.dead : IndB .dead := fun K K' β u H r => by cases r with | dead => exact .dead u
theorem IndB.bx {T : Nat} {cells : List AV} (h : ∀ c ∈ cells, IndA c) : IndB (.bx T cells) := fun K K' β u H r => by
 cases r with | bx hb ys hl hr => exact .bx hb ys hl (fun j c y h1 h2 => h c (List.mem_of_getElem? h1) _ _ _ _ (hr j c y h1 h2))
def Shut (P : Program) : List Deferred → World → World → Prop
 | [], w, w' => w = w'
 | d :: ds, w, w' => ∃ b w1, d.target = .collected b ∧ (Instr.takeDeferred b).run P w = .ok [] w1 ∧ Shut P ds w1 w'
theorem shut_steps {cs : List Frame} : ∀ {ds : List Deferred} {fr : Frame} {w w' : World}, fr.mode = .returning → fr.defers = ds → Shut P ds w w' → Steps P (lone fr cs w) (lone { fr with defers := [] } cs w')
 | [], fr, w, w', _, hd, h => by cases h; rw [show ({ fr with defers := [] } : Frame) = fr by cases fr; simp_all]; exact Steps.refl P _
 | d :: ds, fr, w, w', hm, hd, ⟨b, w1, h1, h2, h3⟩ => by
  have s1 := step_collected (P := P) (fr := fr) (cs := cs) (by rw [hm]; simp) hd h1 h2
  have s2 := shut_steps (cs := cs) (ds := ds) (fr := { fr with defers := [] ++ ds }) hm rfl h3
  exact (Steps.one s1).trans s2
theorem Goes.retK {fn : Func} {k : List Item} (hf : P.funcs[f]? = some fn) {w' : World} (hm : Shut P a.defers w w') {v : Value} (hr : (results fn a.tmps).run P w' = .ok v w') (h : Re (.returned v) w') : Goes P f (.code .ret :: k) (.ends Re) a w := by
 intro b cs hb hk hro
 rw [Frame.atR_of_none hro]
 have s2 := shut_steps (P := P) (cs := cs) (fr := { b.at a (.code .ret :: k) with mode := .returning }) rfl rfl hm
 exact ⟨.returned v, w', { b.at a (.code .ret :: k) with mode := .returning, defers := [] }, h, .of_steps ((Steps.one step_ret).trans s2) (Steps.refl P _), hb, rfl, rfl, hk, fn, by rw [← hb] at hf; exact hf, hr⟩
theorem run_take {b : Nat} {w : World} (h : w.heap[b]? = some (.deferred (some []))) : (Instr.takeDeferred b).run P w = .ok [] (setB w b (.deferred none)) := by
 unfold Instr.takeDeferred
 simp only [Sem.run_bind, run_getA h rfl, Result.andThen_ok, Sem.run_pure, run_setA h rfl]
theorem shut_all : ∀ {ds : List Deferred} {I : Frag} {w : World}, ds.Nodup → (∀ d ∈ ds, ∃ b, d = { target := .collected b, args := #[] } ∧ (b, Obj.deferred (some [])) ∈ I) → St D w0 w (H ++ I) → ∃ w' I', Shut P ds w w' ∧ St D w0 w' (H ++ I')
 | [], I, w, _, _, s => ⟨w, I, rfl, s⟩
 | d :: ds, I, w, hn, h, s => by
  obtain ⟨b, rfl, hb⟩ := h d List.mem_cons_self
  obtain ⟨s1, s2, rfl⟩ := List.append_of_mem hb
  rw [List.nodup_cons] at hn
  have e1 : St D w0 w ((b, .deferred (some [])) :: (H ++ (s1 ++ s2))) := s.perm (by classical rw [List.perm_iff_count]; intro z; simp only [List.count_append, List.count_cons]; omega)
  have e2 := e1.set (.deferred none)
  have e3 : St D w0 (setB w b (.deferred none)) (H ++ ((b, .deferred none) :: (s1 ++ s2))) := e2.perm (by classical rw [List.perm_iff_count]; intro z; simp only [List.count_append, List.count_cons]; omega)
  obtain ⟨w', I', g1, g2⟩ := shut_all (ds := ds) hn.2 (fun d hd => by
   obtain ⟨c, rfl, hc⟩ := h d (List.mem_cons_of_mem _ hd)
   refine ⟨c, rfl, ?_⟩
   have hne : c ≠ b := fun e => hn.1 (e ▸ hd)
   rcases List.mem_append.1 hc with hc | hc
   ·exact List.mem_cons_of_mem _ (List.mem_append_left _ hc)
   ·rcases List.mem_cons.1 hc with hc | hc
    ·cases hc; exact absurd rfl hne
    ·exact List.mem_cons_of_mem _ (List.mem_append_right _ hc)) e3
  exact ⟨w', I', ⟨b, _, rfl, run_take e1.holds.one, g1⟩, g2⟩
end Go.Proofs.YtkheephfkbpchaaGreatDoor
namespace Go.Proofs.YtkheephfkbpchaaGreatDoor
open Go.RowKit
open Go.Maps
variable {mk : Bool} {ro : Option Nat} {P : Program} {T : Tab} {cl : Walker} {f : FuncId} {R : Tgt} {D : List Nat} {w0 : World} {K0 : World → Prop} {E : List (Nat × AV)} {M : List Blk} {β : Beta} {F : Nat → Frag} {I : Frag} {ρ : Operand → Value} {w : World} {a : Act} {sz : Nat} {ops : Array Oper} {Q : Exit → Act → World → Prop}
def uRF (P : Program) (cl : Walker) (f sz m0 : Nat) (g : Operand) (ps : Array Tmp) (asg body : Code) (s : US) : Option (LS × US) :=
 match evA s.E g with
 | some (.fn gf caps) => bif callable P gf then (match cl (.fn gf) (.yl s.M.length :: caps) (s.M ++ [.lp .ready f sz (dedE [] s.E) ⟨ps, asg, body⟩]) (.n 0) with
  | some ⟨[], _, M', tc, [], _⟩ => (match M'[s.M.length]? with
   | some (.lp ls _ _ _ _) => bif ls.still then some (ls, ⟨s.E, M'.set s.M.length .dead, addT m0 tc s.tc⟩) else none
   | _ => none)
  | _ => none) else none
 | _ => none
theorem uRF_ok (hcl : ClOk P cl) (hK : ∀ w, Kp D w0 w → K0 w) (hro : R.ro = none) {b : Base} {g : Operand} {ps : Array Tmp} {asg body : Code} {s s' : US} {ls : LS} {k : List Item} (h : uRF P cl f sz b.m g ps asg body s = some (ls, s')) (r : REu true D w0 K0 sz b s a w)
  (kk : ∀ a' w', REu true D w0 K0 sz b s' a' w' → Goes P f (ls.then k) R a' w') : Goes P f (.code (.rangeFunc g ps asg body) :: k) R a w := by
 obtain ⟨E, M, tc⟩ := s
 unfold uRF at h
 split at h
 rotate_left
 ·simp at h
 rename_i gf caps hg
 dsimp only at h hg
 cases hcall : callable P gf with
 | false => simp [hcall] at h
 | true =>
 simp only [hcall, cond_true] at h
 generalize hlp : (Blk.lp .ready f sz (dedE [] E) ⟨ps, asg, body⟩) = lp at h
 split at h
 rotate_left
 ·simp at h
 rename_i av M' tc' rd hcw
 split at h
 rotate_left
 ·simp at h
 rename_i ls0 f9 sz9 E9 rf9 hMo9
 cases hst : ls0.still with
 | false => simp only [hst, cond_false, reduceCtorEq] at h
 | true =>
 simp only [hst, cond_true, Option.some.injEq, Prod.mk.injEq] at h
 obtain ⟨rfl, rfl⟩ := h
 obtain ⟨hsz, I, hmk, hbm, β, F, Rm, hsn, hs⟩ := r
 dsimp only at hbm Rm hsn hs
 obtain ⟨-, -, hcs⟩ := hcl _ _ _ _ _ hcw
 have C : Ctx D w0 K0 E M β F I a.eval w := ⟨Rm, hs, fun _ => rfl, fun _ => rfl, fun _ => rfl, hK⟩
 obtain ⟨y, hy, hgv⟩ := C.ev' hg
 cases hgv with
 | fn cs hcl' hcr =>
  have he := run_enterLoop_outer (P := P) (w := w) f a.tmps ps asg body
  refine Goes.rangeFunc (wd := (w.alloc (.deferred (some []))).alloc (.loop { state := .ready, pending := none, fn := f, tmps := a.tmps, params := ps, assign := asg, body, defers := w.heap.size })) (w2 := (w.alloc (.deferred (some []))).alloc (.loop { state := .ready, pending := none, fn := f, tmps := a.tmps, params := ps, assign := asg, body, defers := w.heap.size })) (gf := gf) (args := #[.func (.yield (w.heap.size + 1)) #[] #[]] ++ cs.toArray) (dd := { target := .fn (.func gf) cs.toArray, args := #[.func (.yield (w.heap.size + 1)) #[] #[]] }) hro he (by
   simp only [resolve, hy]
   simp [go_sem]) (by simp [invoke, go_sem, run_call hcall]) ?_
  have R1 : RM D w0 K0 M β F ((w.heap.size, .deferred (some [])) :: I) (w.alloc (.deferred (some []))) := by
   refine ⟨Rm.len, fun u b hb => (Rm.blk u b hb).mono (fun w hw => ⟨hw.1, (Holds.app.1 (show Holds w ([_] ++ I) from hw.2)).2⟩) (Ext.refl _), ?_⟩
   have := Rm.st.alloc (.deferred (some []))
   exact this.perm (by classical rw [List.perm_iff_count]; intro z; simp only [List.count_append, List.count_cons]; omega)
  have gI : Grows I ((w.heap.size, .deferred (some [])) :: I) := ⟨[_], rfl⟩
  have hs1 : ∀ t v, lookA E t = some v → ARel (fun w' => K0 w' ∧ Holds w' ((w.heap.size, .deferred (some [])) :: I)) β v (a.eval (.tmp t)) := fun t v hv => (hs t v hv).mono (fun w hw => ⟨hw.1, gI.holds w hw.2⟩) (Ext.refl _)
  have R2 := R1.new (q := (some ⟨w.heap.size + 1, 0, none⟩, 0)) (blk := lp) (Gr.alloc _ (.loop { state := .ready, pending := none, fn := f, tmps := a.tmps, params := ps, assign := asg, body, defers := w.heap.size })) (by have := NewF.alloc (w.alloc (.deferred (some []))) (.loop { state := .ready, pending := none, fn := f, tmps := a.tmps, params := ps, assign := asg, body, defers := w.heap.size }); rwa [World.size_alloc] at this) (by
   subst hlp
   refine .lp (bz := .ready) (new_at R1 _) hsz fun x hx => ?_
   have : lookA E x.1 = some x.2 := (dedE_look (dedE_self hx).1).1
   exact (hs1 x.1 x.2 this).mono (fun _ h => h) (Ext.app _ _))
  have hb2 := new_at R1 (some ⟨w.heap.size + 1, 0, none⟩, 0)
  have hargs : (#[.func (.yield (w.heap.size + 1)) #[] #[]] ++ cs.toArray : Array Value) = (Value.func (.yield (w.heap.size + 1)) #[] #[] :: cs).toArray := by simp
  rw [hargs]
  refine (hcs (Value.func (.yield (w.heap.size + 1)) #[] #[] :: cs) R2 hK trivial (by simp [hcl']) (fun j c y e1 e2 => by
   cases j with
   | zero => simp at e1 e2; subst e1 e2; exact .yl hb2
   | succ j => simp at e1 e2; exact ((hcr j c y e1 e2).mono (fun w hw => ⟨hw.1, gI.holds w hw.2⟩) (Ext.refl _)).mono (fun _ h => h) (Ext.app _ _))).mono ?_
  rintro e w3 ⟨v, rfl, β3, F3, I3, R3, e3, g3, hF3, -⟩
  dsimp only at R3 hF3
  refine ⟨v, rfl, ?_⟩
  obtain ⟨H, hF, hB, hH⟩ := R3.at hMo9
  have hβ3 : β3[M.length]? = some (some ⟨w.heap.size + 1, 0, none⟩, 0) := e3 _ _ (by simp) hb2
  cases hB with
  | @lp b0 c0 f0 sz0 dfr bz E0 rf0 tmps hb hsz0 hr0 =>
   rw [hβ3] at hb; cases hb
   refine ⟨_, _, run_endL (ls := ls0) hH.one hst rfl rfl, ?_⟩
   rw [LS.then_eq]
   have R4 := R3.x.give hMo9
   rw [List.nil_append, hF] at R4
   have R5 : RM D w0 K0 (M'.set M.length .dead) β3 (updF F3 M.length []) I3 (setB w3 (w.heap.size + 1) (.loop { state := .exhausted, pending := ls0.pend, fn := f9, tmps, params := rf9.ps, assign := rf9.asg, body := rf9.body, defers := dfr })) := by
    refine ⟨R4.len, R4.blk, ?_⟩
    have s1 := (R4.st.perm (K := (w.heap.size + 1, .loop { state := ls0.state, pending := ls0.pend, fn := f9, tmps, params := rf9.ps, assign := rf9.asg, body := rf9.body, defers := dfr }) :: ((List.range (M'.set M.length .dead).length).flatMap (updF F3 M.length []) ++ I3)) (by classical rw [List.perm_iff_count]; intro z; simp only [List.count_append, List.count_cons, List.count_nil]; omega)).set (.loop { state := .exhausted, pending := ls0.pend, fn := f9, tmps, params := rf9.ps, assign := rf9.asg, body := rf9.body, defers := dfr })
    exact St.app_right (H := [_]) s1
   have ext : Ext β β3 := fun u q hq => e3 u q (by simp) (Ext.app _ _ _ _ hq)
   have hlM : M.length < M'.length := lt_of_some hMo9
   refine kk _ _ ⟨hsz, I3, ?_, by simp; omega, β3, _, R5, ⟨fun u x hu hx => ext u x (hsn.1 u x hu hx), hsn.2.1.trans (gI.trans g3), fun v hv hnt => ?_⟩, fun t v hv => ?_⟩
   ·have := Mk.grow hmk (gI.trans g3)
    refine ⟨List.nodup_cons.2 ⟨fun hd => ?_, this.1⟩, fun d hd => ?_⟩
    ·obtain ⟨b, e1, e2⟩ := hmk.2 _ hd
     cases e1
     have hlt := (Array.getElem?_eq_some_iff.1 ((Holds.app.1 Rm.st.holds).2 _ e2)).1
     exact absurd hlt (Nat.lt_irrefl _)
    rcases List.mem_append.1 hd with hd | hd
    ·rw [List.mem_singleton] at hd; subst hd
     obtain ⟨J, hJ⟩ := g3
     exact ⟨_, rfl, by rw [hJ]; exact List.mem_append_right _ List.mem_cons_self⟩
    ·exact this.2 d hd
   ·have hvM : v < M.length := by omega
    simp only [updF]; rw [if_neg (by omega), hF3 v (by simp; omega) (fun hm => hnt (addT_new hm hv))]
    have : (updF F M.length [(w.heap.size + 1, Obj.loop { state := .ready, pending := none, fn := f, tmps := a.tmps, params := ps, assign := asg, body, defers := w.heap.size })]) v = F v := by simp only [updF]; rw [if_neg (by omega)]
    refine Eq.trans this (hsn.2.2 v hv fun hm => hnt (addT_old hm))
   ·exact ((hs1 t v hv).mono (fun w hw => ⟨hw.1, g3.holds w hw.2⟩) (Ext.refl _)).mono (fun _ h => h) ext
def joinU (g : US → Option (List (List Item × US))) : List US → Option (List (List Item × US))
 | [] => some []
 | b :: r => (match g b, joinU g r with | some x, some y => some (x ++ y) | _, _ => none)
theorem joinU_ok {g : US → Option (List (List Item × US))} : ∀ {l : List US} {fs : List (List Item × US)}, joinU g l = some fs → ∀ b ∈ l, ∃ x, g b = some x ∧ ∀ s ∈ x, s ∈ fs
 | [], _, _, b, hb => by cases hb
 | c :: r, fs, h, b, hb => by
  unfold joinU at h
  split at h
  ·rename_i x y h1 h2
   simp only [Option.some.injEq] at h; subst h
   rcases List.mem_cons.1 hb with rfl | hb
   ·exact ⟨x, h1, fun s hs => List.mem_append_left _ hs⟩
   ·obtain ⟨z, h3, h4⟩ := joinU_ok h2 b hb
    exact ⟨z, h3, fun s hs => List.mem_append_right _ (h4 s hs)⟩
  ·simp at h
def only1 : Option (List (List Item × US)) → Option (List Item × US)
 | some [x] => some x
 | _ => none
theorem only1_ok {o : Option (List (List Item × US))} {x : List Item × US} (h : only1 o = some x) : o = some [x] := by
 unfold only1 at h
 split at h
 ·simp only [Option.some.injEq] at h; rw [h]
 ·simp at h
def uC (P : Program) (T : Tab) (KL : List TypeId) (cl : Walker) (mk : Bool) (f sz : Nat) : Nat → Nat → List Item → US → Option (List (List Item × US))
 | 0, _, todo, s => some [(todo, s)]
 | n + 1, m0, todo, s =>
  match todo with
  | .code .skip :: k => uC P T KL cl mk f sz n m0 k s
  | .code (.label _) :: k => uC P T KL cl mk f sz n m0 k s
  | .inBlock _ :: k => uC P T KL cl mk f sz n m0 k s
  | .inScope _ :: k => uC P T KL cl mk f sz n m0 k s
  | .code (.scope c) :: k => uC P T KL cl mk f sz n m0 (.code c :: .inScope c :: k) s
  | .code (.goto l) :: k => (match gotoIn l k with
   | some k' => uC P T KL cl mk f sz n m0 k' s
   | none => none)
  | .code (.seq x y) :: k => uC P T KL cl mk f sz n m0 (.code x :: .code y :: k) s
  | .code (.cond c x y) :: k => (match boolA (evA s.E c) with
   | some true => uC P T KL cl mk f sz n m0 (.code x :: k) s
   | some false => uC P T KL cl mk f sz n m0 (.code y :: k) s
   | none => some [(todo, s)])
  | .code (.block id c) :: k => uC P T KL cl mk f sz n m0 (.code c :: .inBlock id :: k) s
  | .code (.loop c) :: k => (match rangeH c with
   | none => uC P T KL cl mk f sz n m0 (.code c :: .inLoop c :: k) s
   | some _ => (match ruleU (fun kb s => only1 (uC P T KL cl mk f sz n s.M.length kb s)) sz m0 c s with
    | some (kb, s') => uC P T KL cl mk f sz n m0 (kb ++ .inLoop c :: k) s'
    | none => (match forkU (fun kb s => only1 (uC P T KL cl mk f sz n s.M.length kb s)) sz m0 c s with
     | some (kb, fs) => joinU (fun s' => uC P T KL cl mk f sz n m0 (kb ++ .inLoop c :: k) s') fs
     | none => uC P T KL cl mk f sz n m0 (.code c :: .inLoop c :: k) s)))
  | .inLoop c :: k => uC P T KL cl mk f sz n m0 (.code c :: .inLoop c :: k) (tidy s)
  | .code (.exit id) :: k => (match exitTo id k with
   | some k' => uC P T KL cl mk f sz n m0 k' s
   | none => none)
  | .code (.region _ ops draw) :: k => (match uReg P T KL cl m0 sz ops draw s with
   | some s' => uC P T KL cl mk f sz n m0 k s'
   | none => some [(todo, s)])
  | .code (.rangeFunc g ps asg body) :: k => bif mk then (match uRF P cl f sz m0 g ps asg body s with
   | some (ls, s') => uC P T KL cl mk f sz n m0 (ls.then k) s'
   | none => some [(todo, s)]) else some [(todo, s)]
  | _ => some [(todo, s)]
theorem exitTo_app {id : Nat} : ∀ {k k' : List Item}, exitTo id k = some k' → ∀ l, exitTo id (k ++ l) = some (k' ++ l)
 | [], _, h, _ => by simp [exitTo] at h
 | x :: k, k', h, l => by
  cases x with
  | inBlock i =>
   rw [List.cons_append]
   unfold exitTo at h ⊢
   split at h
   ·rename_i hi; rw [if_pos hi]; simp only [Option.some.injEq] at h; rw [h]
   ·rename_i hi; rw [if_neg hi]; exact exitTo_app h l
  | _ =>
   rw [List.cons_append]
   first
    | (simp [exitTo] at h; done)
    | (unfold exitTo at h ⊢; exact exitTo_app h l)
theorem gotoIn_app {t : Nat} : ∀ {k k' : List Item}, gotoIn t k = some k' → ∀ l, gotoIn t (k ++ l) = some (k' ++ l)
 | [], _, h, _ => by simp [gotoIn] at h
 | x :: k, k', h, l => by
  cases x with
  | inScope c =>
   rw [List.cons_append]
   unfold gotoIn at h ⊢
   split at h
   ·simp only [Option.some.injEq] at h; rw [← h]; rfl
   ·exact gotoIn_app h l
  | _ =>
   rw [List.cons_append]
   first
    | (simp [gotoIn] at h; done)
    | (unfold gotoIn at h ⊢; exact gotoIn_app h l)
section
variable {b : Frame} {cs : List Frame}
theorem stepR_scope {c : Code} {k : List Item} : Go.step P (lone (b.atR a (.code (.scope c) :: k)) cs w) = .next (lone (b.atR a (.code c :: .inScope c :: k)) cs w) := step_lone_go (by simp [stepG, stepG.exec, Frame.atR])
theorem stepR_inScope {c : Code} {k : List Item} : Go.step P (lone (b.atR a (.inScope c :: k)) cs w) = .next (lone (b.atR a k) cs w) := step_lone_go (by simp [stepG, stepG.exec, Frame.atR])
end
theorem then_app (ls : LS) (k l : List Item) : ls.then k ++ l = ls.then (k ++ l) := by cases ls <;> rfl
theorem segA (hT : tabB P T = true) {KL : List TypeId} (hL : LawsOk P KL) (hcl : ClOk P cl) (hm : P.follows .mixedOrders = true) (hK : ∀ w, Kp D w0 w → K0 w) (hro : mk = true → R.ro = none) : ∀ (n : Nat) {b : Base} {todo : List Item} {s : US} {a : Act} {w : World} {outs : List (List Item × US)} (l : List Item), uC P T KL cl mk f sz n b.m todo s = some outs → REu mk D w0 K0 sz b s a w → (∀ o ∈ outs, ∀ a' w', REu mk D w0 K0 sz b o.2 a' w' → Goes P f (o.1 ++ l) R a' w') → Goes P f (todo ++ l) R a w := by
 intro n
 induction n with
 | zero => intro b todo s a w outs l h r k; simp only [uC, Option.some.injEq] at h; subst h; exact k _ (List.mem_singleton.2 rfl) a w r
 | succ n ih =>
  intro b todo s a w outs l h r k
  have stop : some [(todo, s)] = some outs → Goes P f (todo ++ l) R a w := fun h => by
   simp only [Option.some.injEq] at h; subst h; exact k _ (List.mem_singleton.2 rfl) a w r
  unfold uC at h
  split at h
  ·exact Goes.step (fun _ _ => stepR_skip) (ih l h r k)
  ·exact Goes.step (fun _ _ => stepR_label) (ih l h r k)
  ·exact Goes.step (fun _ _ => stepR_inBlock) (ih l h r k)
  ·exact Goes.step (fun _ _ => stepR_inScope) (ih l h r k)
  ·exact Goes.step (fun _ _ => stepR_scope) (ih l h r k)
  ·split at h
   ·rename_i hx; exact Goes.step (fun _ _ => stepR_goto (gotoIn_app hx l)) (ih l h r k)
   ·simp at h
  ·exact Goes.step (fun _ _ => stepR_seq) (ih l h r k)
  ·split at h
   ·rename_i hb; exact Goes.step (fun _ _ => stepR_cond (r.re.bool hb)) (ih l h r k)
   ·rename_i hb; exact Goes.step (fun _ _ => stepR_cond (r.re.bool hb)) (ih l h r k)
   ·exact stop h
  ·exact Goes.step (fun _ _ => stepR_block) (ih l h r k)
  ·split at h
   ·exact Goes.loop (ih l h r k)
   have hrun : ∀ {b' : Base} {kb : List Item} {s s' : US}, only1 (uC P T KL cl mk f sz n s.M.length kb s) = some ([], s') → b'.m = s.M.length → ∀ (l : List Item) (a : Act) (w : World), REu mk D w0 K0 sz b' s a w → (∀ a' w', REu mk D w0 K0 sz b' s' a' w' → Goes P f l R a' w') → Goes P f (kb ++ l) R a w := by
    intro b' kb s s' hr hb' l a w r k
    have hr := only1_ok hr
    rw [← hb'] at hr
    refine ih l hr r fun o ho a' w' r' => ?_
    rw [List.mem_singleton] at ho; subst ho
    exact k a' w' r'
   split at h
   ·rename_i kb s1 hru
    refine range_ok (run := fun kb s => only1 (uC P T KL cl mk f sz n s.M.length kb s)) hrun hru r fun a' w' r' => ?_
    have := ih l h r' k
    rw [List.append_assoc] at this; exact this
   ·split at h
    ·rename_i kb fs hfo
     refine fork_ok (run := fun kb s => only1 (uC P T KL cl mk f sz n s.M.length kb s)) hrun hfo r fun s2 hs2 a' w' r' => ?_
     obtain ⟨x, hx1, hx2⟩ := joinU_ok h s2 hs2
     have := ih l hx1 r' fun o ho => k o (hx2 o ho)
     rw [List.append_assoc] at this; exact this
    ·exact Goes.loop (ih l h r k)
  ·exact Goes.again (ih l h (tidy_ok r) k)
  ·split at h
   ·rename_i hx; exact Goes.step (fun _ _ => stepR_exit (exitTo_app hx l)) (ih l h r k)
   ·simp at h
  ·split at h
   ·rename_i id ops draw k0 _ s1 hr
    exact Goes.code (uReg_ok hT hL hcl hm hK (by rintro d v c a w ⟨h, -⟩; cases h) hr r fun a' w' r' => ⟨rfl, ih l h r' k⟩)
   ·exact stop h
  ·cases mk with
   | false => simp only [cond_false] at h; exact stop h
   | true =>
    simp only [cond_true] at h
    split at h
    ·rename_i ls s1 hru
     refine uRF_ok hcl hK (hro rfl) hru r fun a' w' r' => ?_
     have := ih l h r' k
     rw [then_app] at this; exact this
    ·exact stop h
  ·exact stop h
theorem segU (hT : tabB P T = true) {KL : List TypeId} (hL : LawsOk P KL) (hcl : ClOk P cl) (hm : P.follows .mixedOrders = true) (hK : ∀ w, Kp D w0 w → K0 w) (hro : mk = true → R.ro = none) {b : Base} (n : Nat) {todo : List Item} {s : US} {a : Act} {w : World} {outs : List (List Item × US)} (h : uC P T KL cl mk f sz n b.m todo s = some outs) (r : REu mk D w0 K0 sz b s a w) (k : ∀ o ∈ outs, ∀ a' w', REu mk D w0 K0 sz b o.2 a' w' → Goes P f o.1 R a' w') : Goes P f todo R a w := by
 have := segA (l := []) hT hL hcl hm hK hro n h r (by simpa using k)
 simpa using this
end Go.Proofs.YtkheephfkbpchaaGreatDoor
namespace Go.Proofs.YtkheephfkbpchaaGreatDoor
open Go.RowKit
open Go.Maps
variable {mk : Bool} {P : Program} {T : Tab} {cl : Walker} {f : FuncId} {R : Tgt} {D : List Nat} {w0 : World} {K0 : World → Prop} {E : List (Nat × AV)} {M : List Blk} {β : Beta} {F : Nat → Frag} {I : Frag} {w : World} {a : Act} {sz : Nat}
def reachU (M : List Blk) : Nat → List Nat → List Nat → List Nat
 | n + 1, u :: r, seen => bif seen.elem u then reachU M n r seen else (match M[u]? with | some b => reachU M n (idBU b ++ r) (u :: seen) | none => reachU M n r seen)
 | _, _, seen => seen
def lostU (m0 : Nat) (seen : List Nat) : Nat → List Blk → List Nat
 | _, [] => []
 | i, .dead :: r => lostU m0 seen (i + 1) r
 | i, _ :: r => bif i.blt m0 || seen.elem i then lostU m0 seen (i + 1) r else i :: lostU m0 seen (i + 1) r
theorem lostU_lt {m0 : Nat} {seen : List Nat} : ∀ {i : Nat} {M : List Blk} {u : Nat}, u ∈ lostU m0 seen i M → m0 ≤ u ∧ u < i + M.length
 | i, [], u, h => by simp [lostU] at h
 | i, b :: r, u, h => by
  have key : u ∈ lostU m0 seen (i + 1) r → m0 ≤ u ∧ u < i + (b :: r).length := fun h => by
   obtain ⟨h1, h2⟩ := lostU_lt h
   exact ⟨h1, by simp only [List.length_cons]; omega⟩
  have key2 : u ∈ (bif i.blt m0 || seen.elem i then lostU m0 seen (i + 1) r else i :: lostU m0 seen (i + 1) r) → m0 ≤ u ∧ u < i + (b :: r).length := fun h => by
   cases hc : (i.blt m0 || seen.elem i) with
   | true => simp only [hc, cond_true] at h; exact key h
   | false =>
    simp only [hc, cond_false] at h
    rcases List.mem_cons.1 h with rfl | h
    ·simp only [Bool.or_eq_false_iff] at hc
     refine ⟨?_, by simp⟩
     have h1 := hc.1
     rcases Nat.lt_or_ge u m0 with hl | hl
     ·rw [show u.blt m0 = true by simpa [Nat.blt_eq] using hl] at h1; cases h1
     ·exact hl
    ·exact key h
  cases b <;> first | exact key h | exact key2 h
def gcU (m0 : Nat) (o : Out) : List Nat := lostU m0 (reachU o.M 100000 (idsU o.av ++ o.tc) []) 0 o.M
def indD : DV → Bool
 | .v _ => true
 | .jk => true
 | .ro _ [] => false
 | _ => false
mutual
def indAB : AV → Bool
 | .d x => indD x
 | .sl _ _ => true
 | .sf _ _ _ _ _ => true
 | .pt _ _ => true
 | .mv _ => true
 | .yl _ => true
 | .fn _ l => indLB l
 | .fm _ l => indLB l
 | .ag l => indLB l
 | .tu l => indLB l
 | _ => false
def indLB : List AV → Bool
 | [] => true
 | x :: r => indAB x && indLB r
end
def indBB : Blk → Bool
 | .dead => true
 | .bx _ l => indLB l
 | .fl _ _ _ l => indLB l
 | .mf _ _ es => indLB (es.map fun e => e.2.2)
 | .it _ _ _ _ => true
 | .il _ _ _ _ => true
 | .lp _ _ _ E _ => indLB (E.map fun x => x.2)
 | _ => false
theorem indD_ok {x : DV} (h : indD x = true) : Ind x := by
 cases x with
 | v y => exact fun K K' y H r => by cases r with | v => exact .v _
 | jk => exact fun K K' y H r => by cases r with | jk => exact .jk _
 | ro k l => cases l <;> simp [indD] at h
 | _ => simp [indD] at h
theorem indLB_all : ∀ {l : List AV}, indLB l = true → ∀ x ∈ l, indAB x = true
 | [], _, x, hx => by cases hx
 | y :: r, h, x, hx => by
  simp only [indLB, Bool.and_eq_true] at h
  rcases List.mem_cons.1 hx with e | hx
  ·rw [e]; exact h.1
  ·exact indLB_all h.2 x hx
theorem indAB_ok : ∀ {x : AV}, indAB x = true → IndA x
 | .d x, h => IndA.d (indD_ok (by simpa only [indAB] using h))
 | .sl u n, _ => IndA.sl u n
 | .sf u k o n q, _ => fun K K' β y r => by cases r with | sf hb h1 h2 h3 => exact .sf hb h1 h2 h3
 | .pt u o, _ => IndA.pt u o
 | .mv u, _ => IndA.mv u
 | .yl u, _ => fun K K' β y r => by cases r with | yl h => exact .yl h
 | .fn f l, h => by
  have ih : ∀ x ∈ l, IndA x := fun x hx => indAB_ok (indLB_all (by simpa only [indAB] using h) x hx)
  exact fun K K' β y r => by cases r with | fn ys hl hr => exact .fn ys hl fun j c y h1 h2 => ih c (List.mem_of_getElem? h1) _ _ _ _ (hr j c y h1 h2)
 | .fm f l, h => by
  have ih : ∀ x ∈ l, IndA x := fun x hx => indAB_ok (indLB_all (by simpa only [indAB] using h) x hx)
  exact fun K K' β y r => by cases r with | fm ys hl hr => exact .fm ys hl fun j c y h1 h2 => ih c (List.mem_of_getElem? h1) _ _ _ _ (hr j c y h1 h2)
 | .ag l, h => by
  have ih : ∀ x ∈ l, IndA x := fun x hx => indAB_ok (indLB_all (by simpa only [indAB] using h) x hx)
  exact fun K K' β y r => by cases r with | ag ys hl hr => exact .ag ys hl fun j c y h1 h2 => ih c (List.mem_of_getElem? h1) _ _ _ _ (hr j c y h1 h2)
 | .tu l, h => by
  have ih : ∀ x ∈ l, IndA x := fun x hx => indAB_ok (indLB_all (by simpa only [indAB] using h) x hx)
  exact fun K K' β y r => by cases r with | tu ys hl hr => exact .tu ys hl fun j c y h1 h2 => ih c (List.mem_of_getElem? h1) _ _ _ _ (hr j c y h1 h2)
 | .sb _ _ _ _, h => by simp [indAB] at h
 | .ep _ _ _ _, h => by simp [indAB] at h
 | .rp _ _, h => by simp [indAB] at h
 | .bt _, h => by simp [indAB] at h
theorem indLB_ok {l : List AV} (h : indLB l = true) : ∀ x ∈ l, IndA x := fun x hx => indAB_ok (indLB_all h x hx)
theorem indBB_ok {b : Blk} (h : indBB b = true) : IndB b := by
 cases b with
 | dead => exact IndB.dead
 | bx T l => exact IndB.bx (indLB_ok h)
 | fl T k m l => exact fun K K' β u H r => by cases r with | fl hb ys hl hm hc hr => exact .fl hb ys hl hm hc fun j c y h1 h2 => indLB_ok h c (List.mem_of_getElem? h1) _ _ _ _ (hr j c y h1 h2)
 | mf T c es => exact fun K K' β u H r => by cases r with | mf hb vs hl hr => exact .mf hb vs hl fun j e y h1 h2 => indLB_ok h e.2.2 (List.mem_map_of_mem (f := fun e : Nat × MK × AV => e.2.2) (List.mem_of_getElem? h1)) _ _ _ _ (hr j e y h1 h2)
 | it um s l c => exact fun K K' β u H r => by cases r with | it hb hm => exact .it hb hm
 | il um s l c => exact fun K K' β u H r => by cases r with | il hb hm => exact .il hb hm
 | lp s f sz E rf => exact fun K K' β u H r => by cases r with | lp hb hsz hr => exact .lp hb hsz fun x hx => indLB_ok h x.2 (List.mem_map_of_mem (f := fun x : Nat × AV => x.2) hx) _ _ _ _ (hr x hx)
 | _ => simp [indBB] at h
def endT : List Item → Bool
 | [] => true
 | .code .ret :: _ => true
 | _ => false
def indE (E : List (Nat × AV)) : List (Nat × AV) := (dedE [] E).filter fun x => indAB x.2
theorem indE_ok {E : List (Nat × AV)} {t : Nat} {v : AV} (h : lookA (indE E) t = some v) : lookA E t = some v ∧ IndA v := by
 have hm := lookA_mem h
 obtain ⟨h1, h2⟩ := List.mem_filter.1 hm
 exact ⟨(dedE_look (dedE_self h1).1).1, indAB_ok h2⟩
def endE (mk : Bool) (E : List (Nat × AV)) : List (Nat × AV) := bif mk then indE E else E
def mixU (tc : List Nat) : Nat → List Blk → List Blk → List Blk
 | i, b0 :: r0, b :: r => (bif tc.elem i then b else b0) :: mixU tc (i + 1) r0 r
 | _, _, r => r
theorem mixU_len (tc : List Nat) : ∀ (i : Nat) (M0 M : List Blk), (mixU tc i M0 M).length = M.length
 | _, [], M => by simp [mixU]
 | _, b0 :: r0, [] => by simp [mixU]
 | i, b0 :: r0, b :: r => by simp [mixU, mixU_len tc (i + 1) r0 r]
theorem mixU_at (tc : List Nat) : ∀ (i : Nat) (M0 M : List Blk) (u : Nat) (b : Blk), (mixU tc i M0 M)[u]? = some b → (u < M0.length ∧ (i + u) ∉ tc ∧ M0[u]? = some b) ∨ (M[u]? = some b ∧ (u < M0.length → (i + u) ∈ tc))
 | _, [], M, u, b, h => by simp [mixU] at h; exact Or.inr ⟨h, by simp⟩
 | _, b0 :: r0, [], u, b, h => by simp [mixU] at h
 | i, b0 :: r0, c :: r, u, b, h => by
  unfold mixU at h
  cases u with
  | zero =>
   simp only [List.getElem?_cons_zero, Option.some.injEq] at h
   cases ht : tc.elem i with
   | true => rw [ht, cond_true] at h; subst h; exact Or.inr ⟨rfl, fun _ => by simpa using ht⟩
   | false => rw [ht, cond_false] at h; subst h; exact Or.inl ⟨by simp, by simpa using ht, rfl⟩
  | succ u =>
   simp only [List.getElem?_cons_succ] at h ⊢
   rcases mixU_at tc (i + 1) r0 r u b h with ⟨h1, h2, h3⟩ | ⟨h1, h2⟩
   ·exact Or.inl ⟨by simp; omega, by rwa [show i + (u + 1) = i + 1 + u by omega], h3⟩
   ·exact Or.inr ⟨h1, fun hu => by rw [show i + (u + 1) = i + 1 + u by omega]; exact h2 (by simp at hu; omega)⟩
def endM (mk : Bool) (M0 : List Blk) (s : US) : List Blk := bif mk then mixU s.tc 0 M0 s.M else s.M
def indM (tc : List Nat) (m0 : Nat) : Nat → List Blk → Bool
 | _, [] => true
 | i, b :: r => (i.blt m0 && !(tc.elem i) || indBB b) && indM tc m0 (i + 1) r
theorem indM_ok {tc : List Nat} {m0 : Nat} : ∀ {i : Nat} {M : List Blk}, indM tc m0 i M = true → ∀ (u : Nat) b, M[u]? = some b → (m0 ≤ i + u ∨ (i + u) ∈ tc) → IndB b
 | _, [], _, u, b, h, _ => by simp at h
 | i, c :: r, hi, u, b, h, hu => by
  simp only [indM, Bool.and_eq_true] at hi
  cases u with
  | zero =>
   simp at h; subst h
   have h1 := hi.1
   rw [Bool.or_eq_true] at h1
   rcases h1 with h1 | h1
   ·rw [Bool.and_eq_true, Nat.blt_eq] at h1
    rcases hu with hu | hu
    ·omega
    ·have h2 := h1.2
     rw [Nat.add_zero] at hu
     simp [hu] at h2
   ·exact indBB_ok h1
  | succ u =>
   simp at h
   exact indM_ok hi.2 u b h (by rw [show i + 1 + u = i + (u + 1) by omega]; exact hu)
def outsU (T : Tab) (mk : Bool) (M0 : List Blk) (rs : List ResultVar) : List (List Item × US) → Option (List Out)
 | [] => some []
 | (todo, s) :: r => bif endT todo && (!mk || indM s.tc M0.length 0 (endM mk M0 s)) then (match endA T rs ⟨[], endE mk s.E, endM mk M0 s, s.tc, []⟩, outsU T mk M0 rs r with | some o, some l => some (o :: l) | _, _ => none) else none
theorem outsU_ok {T : Tab} {mk : Bool} {M0 : List Blk} {rs : List ResultVar} : ∀ {l : List (List Item × US)} {os : List Out}, outsU T mk M0 rs l = some os → ∀ x ∈ l, endT x.1 = true ∧ (mk = true → indM x.2.tc M0.length 0 (endM mk M0 x.2) = true) ∧ ∃ o, endA T rs ⟨[], endE mk x.2.E, endM mk M0 x.2, x.2.tc, []⟩ = some o ∧ o ∈ os
 | [], _, _, x, hx => by cases hx
 | (todo, s) :: r, os, h, x, hx => by
  unfold outsU at h
  cases ht : (endT todo && (!mk || indM s.tc M0.length 0 (endM mk M0 s))) with
  | false => simp only [ht, cond_false, reduceCtorEq] at h
  | true =>
   simp only [ht, cond_true] at h
   obtain ⟨ht1, ht2⟩ := Bool.and_eq_true_iff.1 ht
   split at h
   ·rename_i o l h1 h2
    simp only [Option.some.injEq] at h; subst h
    rcases List.mem_cons.1 hx with rfl | hx
    ·refine ⟨ht1, fun hmk => ?_, o, h1, List.mem_cons_self⟩
     have ht3 := ht2
     rw [Bool.or_eq_true] at ht3
     rcases ht3 with h | h
     ·rw [hmk] at h; cases h
     ·exact h
    ·obtain ⟨h3, h3', o', h4, h5⟩ := outsU_ok h2 x hx
     exact ⟨h3, h3', o', h4, List.mem_cons_of_mem _ h5⟩
   ·simp at h
theorem outsU_form {T : Tab} {mk : Bool} {M0 : List Blk} {rs : List ResultVar} : ∀ {l : List (List Item × US)} {os : List Out}, outsU T mk M0 rs l = some os → ∀ o ∈ os, o.vc = [] ∧ o.mv = [] ∧ o.rd = none
 | [], os, h, o, ho => by simp only [outsU, Option.some.injEq] at h; subst h; cases ho
 | (todo, s) :: r, os, h, o, ho => by
  unfold outsU at h
  cases ht : (endT todo && (!mk || indM s.tc M0.length 0 (endM mk M0 s))) with
  | false => simp only [ht, cond_false, reduceCtorEq] at h
  | true =>
   simp only [ht, cond_true] at h
   split at h
   ·rename_i o' l h1 h2
    simp only [Option.some.injEq] at h; subst h
    rcases List.mem_cons.1 ho with rfl | ho
    ·unfold endA at h1
     split at h1
     ·simp only [Option.some.injEq] at h1; subst h1; exact ⟨rfl, rfl, rfl⟩
     ·simp at h1
    ·exact outsU_form h2 o ho
   ·simp at h
def mergeU (m0 : Nat) : List Out → Option Out
 | [o] => some o
 | o :: r => bif r.all (fun o' => avQ o'.av o.av && blksQ (dieL o'.M (gcU m0 o')) (dieL o.M (gcU m0 o))) then some ⟨[], o.av, dieL o.M (gcU m0 o), (o :: r).flatMap (fun o => o.tc), [], none⟩ else none
 | [] => none
def Ends1 (m0 : Nat) (o out : Out) : Prop := out.av = o.av ∧ (∀ u ∈ o.tc, u ∈ out.tc) ∧ ∃ b, (∀ u ∈ b, m0 ≤ u ∧ u < o.M.length) ∧ out.M = dieL o.M b
theorem mergeU_ok {m0 : Nat} {os : List Out} {out : Out} (h0 : ∀ o ∈ os, o.vc = [] ∧ o.mv = [] ∧ o.rd = none) (h : mergeU m0 os = some out) : out.vc = [] ∧ out.mv = [] ∧ out.rd = none ∧ ∀ o ∈ os, Ends1 m0 o out := by
 unfold mergeU at h
 split at h
 ·simp only [Option.some.injEq] at h; subst h
  obtain ⟨h1, h2, h3⟩ := h0 _ List.mem_cons_self
  refine ⟨h1, h2, h3, fun o ho => ?_⟩
  rw [List.mem_singleton] at ho; subst ho
  exact ⟨rfl, fun u hu => hu, [], by simp, rfl⟩
 ·rename_i o r hne
  cases hc : r.all (fun o' => avQ o'.av o.av && blksQ (dieL o'.M (gcU m0 o')) (dieL o.M (gcU m0 o))) with
  | false => simp [hc] at h
  | true =>
   simp only [hc, cond_true, Option.some.injEq] at h; subst h
   refine ⟨rfl, rfl, rfl, fun o' ho' => ⟨?_, fun u hu => List.mem_flatMap.2 ⟨o', ho', hu⟩, gcU m0 o', fun u hu => by have := lostU_lt hu; omega, ?_⟩⟩
   ·rcases List.mem_cons.1 ho' with rfl | ho'
    ·rfl
    ·have := List.all_eq_true.1 hc o' ho'
     simp only [Bool.and_eq_true] at this
     exact (avQ_eq this.1).symm
   ·rcases List.mem_cons.1 ho' with rfl | ho'
    ·rfl
    ·have := List.all_eq_true.1 hc o' ho'
     simp only [Bool.and_eq_true] at this
     exact (blksQ_eq this.2).symm
 ·simp at h
def hasRF : Code → Bool
 | .seq x y => hasRF x || hasRF y
 | .cond _ x y => hasRF x || hasRF y
 | .block _ c => hasRF c
 | .loop c => hasRF c
 | .scope c => hasRF c
 | .rangeFunc _ _ _ _ => true
 | _ => false
end Go.Proofs.YtkheephfkbpchaaGreatDoor
namespace Go.Proofs.YtkheephfkbpchaaGreatDoor
open Go.RowKit
open Go.Maps
variable {mk : Bool} {P : Program} {T : Tab} {cl : Walker} {f : FuncId} {R : Tgt} {D : List Nat} {w0 : World} {K0 : World → Prop} {E : List (Nat × AV)} {M : List Blk} {β : Beta} {F : Nat → Frag} {I : Frag} {w : World} {a : Act} {sz : Nat}
theorem idLU_mem {c : AV} {u : Nat} : ∀ {l : List AV}, c ∈ l → u ∈ idsU c → u ∈ idLU l
 | x :: r, h, hu => by
  unfold idLU
  rcases List.mem_cons.1 h with rfl | h
  ·exact List.mem_append_left _ hu
  ·exact List.mem_append_right _ (idLU_mem h hu)
theorem mapA_in {K : World → Prop} {β β' : Beta} {σ : Nat → Nat} {v : AV} {y : Value} (r : ARel K β v y) : (∀ u ∈ idsU v, ∀ x, β[u]? = some x → β'[σ u]? = some x) → ARel K β' (mapA σ v) y := by
 have key : ∀ {l : List AV} {ys : List Value}, (∀ u ∈ idLU l, ∀ x, β[u]? = some x → β'[σ u]? = some x) → (∀ (j : Nat) c y, l[j]? = some c → ys[j]? = some y → (∀ u ∈ idsU c, ∀ x, β[u]? = some x → β'[σ u]? = some x) → ARel K β' (mapA σ c) y) → ∀ (j : Nat) c y, (mapL σ l)[j]? = some c → ys[j]? = some y → ARel K β' c y := by
  intro l ys h hh j c y h1 h2
  rw [mapL_map, List.getElem?_map, Option.map_eq_some_iff] at h1
  obtain ⟨c', h1, rfl⟩ := h1
  exact hh j c' y h1 h2 fun u hu => h u (idLU_mem (List.mem_of_getElem? h1) hu)
 induction r with
 | d h => exact fun _ => .d h
 | sl hb => exact fun h => .sl (h _ (by simp [idsU]) _ hb)
 | pt hb => exact fun h => .pt (h _ (by simp [idsU]) _ hb)
 | mv hb => exact fun h => .mv (h _ (by simp [idsU]) _ hb)
 | yl hb => exact fun h => .yl (h _ (by simp [idsU]) _ hb)
 | sb hb => exact fun h => .sb (h _ (by simp [idsU]) _ hb)
 | sf hb h1 h2 h3 => exact fun h => .sf (h _ (by simp [idsU]) _ hb) h1 h2 h3
 | ep hb => exact fun h => .ep (h _ (by simp [idsU]) _ hb)
 | rp a X hl hc hr => exact fun _ => .rp a X hl hc hr
 | bt hd => exact fun _ => .bt hd
 | fn ys hl hr ih => exact fun h => .fn ys (by rw [mapL_map, List.length_map]; exact hl) (key (by simpa [idsU] using h) ih)
 | fm ys hl hr ih => exact fun h => .fm ys (by rw [mapL_map, List.length_map]; exact hl) (key (by simpa [idsU] using h) ih)
 | ag ys hl hr ih => exact fun h => .ag ys (by rw [mapL_map, List.length_map]; exact hl) (key (by simpa [idsU] using h) ih)
 | tu ys hl hr ih => exact fun h => .tu ys (by rw [mapL_map, List.length_map]; exact hl) (key (by simpa [idsU] using h) ih)
theorem mapB_in {K : World → Prop} {β β' : Beta} {σ : Nat → Nat} {u : Nat} {b : Blk} {H : Frag} (r : BRel K β u b H) (h0 : ∀ x, β[u]? = some x → β'[σ u]? = some x) (h : ∀ v ∈ idBU b, ∀ x, β[v]? = some x → β'[σ v]? = some x) : BRel K β' (σ u) (mapB σ b) H := by
 have hm : ∀ {l : List AV} {c : AV}, (∀ v ∈ idLU l, ∀ x, β[v]? = some x → β'[σ v]? = some x) → c ∈ l → ∀ v ∈ idsU c, ∀ x, β[v]? = some x → β'[σ v]? = some x := fun hl hc v hv => hl v (idLU_mem hc hv)
 cases r with
 | dead => exact .dead _
 | bx hb ys hl hr =>
  refine .bx (h0 _ hb) ys (by rw [mapL_map, List.length_map]; exact hl) fun j c y h1 h2 => ?_
  rw [mapL_map, List.getElem?_map, Option.map_eq_some_iff] at h1
  obtain ⟨c', h1, rfl⟩ := h1
  exact mapA_in (hr j c' y h1 h2) (hm h (List.mem_of_getElem? h1))
 | rw hb X G hl hs hr => exact .rw (h0 _ hb) X G hl hs hr
 | tw hb X G hl hs hr => exact .tw (h0 _ hb) X G hl hs hr
 | nm hb => exact .nm (h _ (by simp [idBU]) _ hb)
 | gw X hl hc hr => exact .gw X hl hc hr
 | fl hb ys hl hmm hc hr =>
  refine .fl (h0 _ hb) ys hl (by rw [mapL_map, List.length_map]; exact hmm) hc fun j c y h1 h2 => ?_
  rw [mapL_map, List.getElem?_map, Option.map_eq_some_iff] at h1
  obtain ⟨c', h1, rfl⟩ := h1
  exact mapA_in (hr j c' y h1 h2) (hm h (List.mem_of_getElem? h1))
 | @mf _ _ Tm ck0 es0 hb vs hl hr =>
  have hh := BRel.mf (K := K) (T := Tm) (ck := ck0) (u := σ u) (h0 _ hb) vs (by rw [List.length_map]; exact hl) (es := List.map (fun (e : Nat × MK × AV) => (e.1, e.2.1, mapA σ e.2.2)) es0) (fun j c y h1 h2 => by
   rw [List.getElem?_map, Option.map_eq_some_iff] at h1
   obtain ⟨c', h1, rfl⟩ := h1
   exact mapA_in (hr j c' y h1 h2) (hm h (List.mem_map_of_mem (f := fun e : Nat × MK × AV => e.2.2) (List.mem_of_getElem? h1))))
  rw [mEsA_map (fun (e : Nat × MK × AV) => (e.1, e.2.1, mapA σ e.2.2)) (fun _ => ⟨rfl, rfl⟩)] at hh
  exact hh
 | mp hb vs G hl hr => exact .mp (h0 _ hb) vs G hl hr
 | mu es' hp hn hlt hb vs G hl hr => exact .mu es' hp hn hlt (h0 _ hb) vs G hl hr
 | lp hb hsz hr =>
  refine .lp (h0 _ hb) hsz fun x hx => ?_
  obtain ⟨x0, hx0, rfl⟩ := List.mem_map.1 hx
  exact mapA_in (hr x0 hx0) (hm h (List.mem_map_of_mem (f := fun x : Nat × AV => x.2) hx0))
 | @il b bm c since last ck um seen hb hmm =>
  refine .il (bm := bm) (seen := seen) (h0 _ hb) (fun v hv => ?_)
  cases um with
  | none => cases hv
  | some v0 => cases hv; obtain ⟨c', h'⟩ := hmm v0 rfl; exact ⟨c', h _ (by simp [idBU]) _ h'⟩
 | @it b bm c since ck um seen hb hmm =>
  refine .it (bm := bm) (h0 _ hb) (fun v hv => ?_)
  cases um with
  | none => cases hv
  | some v0 => cases hv; obtain ⟨c', h'⟩ := hmm v0 rfl; exact ⟨c', h _ (by simp [idBU]) _ h'⟩
def trim2 (M0 : List Blk) (o : Out) (old : List (Nat × Blk)) (l : List Nat) (nb : List Blk) : Out :=
 bif nodupB l && (l.all (fun u => M0.length.ble u && u.blt o.M.length) && ((idsU o.av).all (fun u => u.blt M0.length || l.elem u) && (old.all (fun x => x.1.blt M0.length && (idBU x.2).all (fun u => u.blt M0.length || l.elem u)) && nb.all (fun b => (idBU b).all (fun u => u.blt M0.length || l.elem u))))) then
  ⟨[], mapA (sigD M0.length l) o.av, setL M0 (old.map fun x => (x.1, mapB (sigD M0.length l) x.2)) ++ nb.map (mapB (sigD M0.length l)), old.map (fun x => x.1), [], none⟩ else o
def trim1 (M0 : List Blk) (o : Out) (old : List (Nat × Blk)) (l : List Nat) : Out := match newB o.M l with
 | some nb => trim2 M0 o old l nb
 | none => o
def trimU (M0 : List Blk) (o : Out) : Out :=
 bif Nat.ble (M0.length + 2) o.M.length then (match oldB o.M (sortU M0.length o.tc) with
  | some old => trim1 M0 o old (reachD o.M M0.length 100000 (idsU o.av ++ old.flatMap fun x => idBU x.2) []).reverse
  | none => o) else o
theorem trim2_form {M0 : List Blk} {o : Out} {old : List (Nat × Blk)} {l : List Nat} {nb : List Blk} (h : o.vc = [] ∧ o.mv = [] ∧ o.rd = none) : (trim2 M0 o old l nb).vc = [] ∧ (trim2 M0 o old l nb).mv = [] ∧ (trim2 M0 o old l nb).rd = none := by
 unfold trim2
 cases (nodupB l && (l.all (fun u => M0.length.ble u && u.blt o.M.length) && ((idsU o.av).all (fun u => u.blt M0.length || l.elem u) && (old.all (fun x => x.1.blt M0.length && (idBU x.2).all (fun u => u.blt M0.length || l.elem u)) && nb.all (fun b => (idBU b).all (fun u => u.blt M0.length || l.elem u)))))) with
 | true => exact ⟨rfl, rfl, rfl⟩
 | false => exact h
theorem trimU_form {M0 : List Blk} {o : Out} (h : o.vc = [] ∧ o.mv = [] ∧ o.rd = none) : (trimU M0 o).vc = [] ∧ (trimU M0 o).mv = [] ∧ (trimU M0 o).rd = none := by
 unfold trimU
 cases Nat.ble (M0.length + 2) o.M.length with
 | false => exact h
 | true =>
  simp only [cond_true]
  split
  ·unfold trim1
   split
   ·exact trim2_form h
   ·exact h
  ·exact h
theorem trim2_ok {M0 : List Blk} {β0 : Beta} {F0 : Nat → Frag} {I0 : Frag} {ws : World} {o : Out} {old : List (Nat × Blk)} {l : List Nat} {nb : List Blk} {v : Value} (R0 : RM D w0 K0 M0 β0 F0 I0 ws) (ho : oldB o.M (sortU M0.length o.tc) = some old) (hnb : newB o.M l = some nb)
  (R : RM D w0 K0 o.M β F I w) (e : ExtB [] β0 β) (hI : Grows I0 I) (hF : ∀ u, u < M0.length → u ∉ o.tc → F u = F0 u) (r : ARel (fun w => K0 w ∧ Holds w I) β o.av v) :
  ∃ β' F', RM D w0 K0 (trim2 M0 o old l nb).M β' F' I w ∧ ExtB [] β0 β' ∧ (∀ u, u < M0.length → u ∉ (trim2 M0 o old l nb).tc → F' u = F0 u) ∧ ARel (fun w => K0 w ∧ Holds w I) β' (trim2 M0 o old l nb).av v := by
 unfold trim2
 cases hc : (nodupB l && (l.all (fun u => M0.length.ble u && u.blt o.M.length) && ((idsU o.av).all (fun u => u.blt M0.length || l.elem u) && (old.all (fun x => x.1.blt M0.length && (idBU x.2).all (fun u => u.blt M0.length || l.elem u)) && nb.all (fun b => (idBU b).all (fun u => u.blt M0.length || l.elem u)))))) with
 | false => exact ⟨β, F, R, e, hF, r⟩
 | true =>
 simp only [cond_true]
 obtain ⟨c1, hc⟩ := Bool.and_eq_true_iff.1 hc
 obtain ⟨c2, hc⟩ := Bool.and_eq_true_iff.1 hc
 obtain ⟨c3, hc⟩ := Bool.and_eq_true_iff.1 hc
 obtain ⟨c4, c5⟩ := Bool.and_eq_true_iff.1 hc
 have pn := nodupB_ok c1
 have hlr : ∀ u ∈ l, M0.length ≤ u ∧ u < o.M.length := fun u hu => by
  have := List.all_eq_true.1 c2 u hu
  rw [Bool.and_eq_true] at this
  exact ⟨Nat.le_of_ble_eq_true this.1, by simpa [Nat.blt_eq] using this.2⟩
 generalize hm : M0.length = m at *
 have hin : ∀ {us : List Nat}, us.all (fun u => u.blt m || l.elem u) = true → ∀ u ∈ us, u < m ∨ u ∈ l := fun h u hu => by
  have := List.all_eq_true.1 h u hu
  rw [Bool.or_eq_true] at this
  rcases this with h | h
  ·exact Or.inl (by simpa [Nat.blt_eq] using h)
  ·exact Or.inr (by simpa using h)
 obtain ⟨o1, o2⟩ := oldB_ok ho
 obtain ⟨n1, n2⟩ := newB_ok hnb
 have hβ0 : β0.length = m := by rw [R0.len]; exact hm
 have hβ : β.length = o.M.length := R.len
 have ext0 : Ext β0 β := fun u x hx => e u x (by simp) hx
 let β2 : Beta := β0 ++ l.map fun u => β.getD u (none, 0)
 have hb2 : ∀ i u, l[i]? = some u → β2[m + i]? = some (β.getD u (none, 0)) := fun i u hu => by
  show (β0 ++ l.map _)[m + i]? = _
  rw [List.getElem?_append_right (by omega), hβ0, show m + i - m = i by omega, List.getElem?_map, hu]; rfl
 have ext2 : Ext β0 β2 := Ext.app _ _
 have hml : m ≤ o.M.length := by
  rcases Nat.lt_or_ge o.M.length m with h | h
  ·have h1 := ext0 o.M.length β0[o.M.length] (List.getElem?_eq_getElem (by omega))
   rw [List.getElem?_eq_none (by omega)] at h1; cases h1
  ·exact h
 have hsig : ∀ u, (u < m ∨ u ∈ l) → ∀ q, β[u]? = some q → β2[sigD m l u]? = some q := by
  intro u hu q hq
  unfold sigD
  rcases Nat.lt_or_ge u m with hu' | hu'
  ·rw [show u.blt m = true by simpa [Nat.blt_eq] using hu', cond_true]
   have h1 : β0[u]? = some β0[u] := List.getElem?_eq_getElem (by omega)
   have h2 := ext0 u _ h1
   rw [hq] at h2; simp only [Option.some.injEq] at h2
   rw [h2]; exact ext2 u _ h1
  ·rw [show u.blt m = false by
    cases hb : u.blt m with
    | false => rfl
    | true => rw [Nat.blt_eq] at hb; omega, cond_false]
   have hmem : u ∈ l := hu.resolve_left (by omega)
   rw [hb2 _ u (idxN_at hmem)]
   simp [List.getD_eq_getElem?_getD, hq]
 have hsl : ∀ u, u < m → sigD m l u = u := fun u hu => by unfold sigD; rw [show u.blt m = true by simpa [Nat.blt_eq] using hu, cond_true]
 have hsn : ∀ i u, l[i]? = some u → sigD m l u = m + i := fun i u hu => by
  have := (hlr u (List.mem_of_getElem? hu)).1
  unfold sigD
  rw [show u.blt m = false by
   cases hb : u.blt m with
   | false => rfl
   | true => rw [Nat.blt_eq] at hb; omega, cond_false, idxN_get pn hu]
 let F2 : Nat → Frag := fun v => bif v.blt m then F v else match l[v - m]? with | some u => F u | none => []
 have hF2l : ∀ v, v < m → F2 v = F v := fun v hv => by show (bif v.blt m then F v else _) = F v; rw [show v.blt m = true by simpa [Nat.blt_eq] using hv]; rfl
 have hF2n : ∀ i, F2 (m + i) = (match l[i]? with | some u => F u | none => []) := fun i => by
  show (bif (m + i).blt m then F (m + i) else match l[m + i - m]? with | some u => F u | none => []) = _
  rw [show (m + i).blt m = false by
   cases hb : (m + i).blt m with
   | false => rfl
   | true => rw [Nat.blt_eq] at hb; omega, show m + i - m = i by omega]; rfl
 have kI : ∀ w, (K0 w ∧ Holds w I) → (K0 w ∧ Holds w I0) := fun w hw => ⟨hw.1, hI.holds w hw.2⟩
 have hll : (setL M0 (old.map fun x => (x.1, mapB (sigD m l) x.2))).length = m := by rw [setL_len, hm]
 refine ⟨β2, F2, ⟨?_, ?_, ?_⟩, fun u x hu hx => ext2 u x hx, fun v hv hnt => ?_, mapA_in r fun u hu => hsig u (hin c3 u hu)⟩
 ·show (β0 ++ l.map _).length = _
  simp only [List.length_append, List.length_map, hll, n1, hβ0]
 ·intro v b0 hb0
  rcases Nat.lt_or_ge v m with hvm | hvm
  ·rw [List.getElem?_append_left (by omega)] at hb0
   rw [hF2l v hvm]
   rcases setL_at hb0 with e' | ⟨e1, e2⟩
   ·obtain ⟨x, hx, he⟩ := List.mem_map.1 e'
    simp only [Prod.mk.injEq] at he
    obtain ⟨rfl, rfl⟩ := he
    have hcx := List.all_eq_true.1 c4 x hx
    rw [Bool.and_eq_true] at hcx
    have := mapB_in (σ := sigD m l) (R.blk _ _ (o1 x hx)) (hsig _ (Or.inl hvm)) fun u hu => hsig u (hin hcx.2 u hu)
    rw [hsl _ hvm] at this; exact this
   ·have hnt : v ∉ o.tc := fun ht => e2 (by
     rw [List.map_map]
     show v ∈ List.map (fun x => x.1) old
     rw [o2]; exact sortU_mem ht hvm)
    rw [hF v hvm hnt]
    exact (R0.blk v b0 e1).mono kI ext2
  ·obtain ⟨i, rfl⟩ : ∃ i, v = m + i := ⟨v - m, by omega⟩
   rw [List.getElem?_append_right (by omega), hll, show m + i - m = i by omega] at hb0
   rw [hF2n]
   rw [List.getElem?_map, Option.map_eq_some_iff] at hb0
   obtain ⟨b1, hb1, rfl⟩ := hb0
   obtain ⟨u, hu1, hu2⟩ := n2 i b1 hb1
   rw [hu1]
   have := mapB_in (σ := sigD m l) (R.blk _ _ hu2) (hsig _ (Or.inr (List.mem_of_getElem? hu1))) fun u hu => hsig u (hin (List.all_eq_true.1 c5 b1 (List.mem_of_getElem? hb1)) u hu)
   rw [hsn i u hu1] at this; exact this
 ·have hst := R.st
  obtain ⟨k, hk⟩ : ∃ k, o.M.length = m + k := ⟨o.M.length - m, by omega⟩
  have e2 : (setL M0 (old.map fun x => (x.1, mapB (sigD m l) x.2)) ++ nb.map (mapB (sigD m l))).length = m + l.length := by
   simp only [List.length_append, hll, List.length_map, n1]
  rw [e2]
  rw [hk, ranN_range, List.flatMap_append] at hst
  have hpp : (l ++ (ranN m k).filter fun u => !(l.elem u)).Perm (ranN m k) := by
   refine (List.perm_ext_iff_of_nodup ?_ ranN_nodup).2 fun u => ?_
   ·rw [List.nodup_append]
    refine ⟨pn, List.Pairwise.filter _ ranN_nodup, fun x hx y hy hxy => ?_⟩
    subst hxy
    have := (List.mem_filter.1 hy).2
    simp [hx] at this
   ·rw [List.mem_append, List.mem_filter, ranN_mem]
    constructor
    ·rintro (h | h)
     ·have := hlr u h; omega
     ·exact h.1
    ·intro h
     by_cases hu : u ∈ l
     ·exact Or.inl hu
     ·exact Or.inr ⟨h, by simpa using hu⟩
  have hp2 : ((ranN m k).flatMap F).Perm (l.flatMap F ++ ((ranN m k).filter fun u => !(l.elem u)).flatMap F) := by
   rw [← List.flatMap_append]
   exact (hpp.symm.flatMap_right F)
  have e3 : (List.range m).flatMap F2 = (List.range m).flatMap F := flat_congr fun v hv => hF2l v (List.mem_range.1 hv)
  have e5 : (ranN m l.length).flatMap F2 = l.flatMap F := by
   have := flat_new hF2n l.length 0 l (fun i => by simp)
   rw [Nat.add_zero] at this
   rw [this, List.take_length]
  rw [ranN_range, List.flatMap_append, e3, e5]
  have hst2 : St D w0 w (((ranN m k).filter fun u => !(l.elem u)).flatMap F ++ ((List.range m).flatMap F ++ l.flatMap F ++ I)) := by
   refine hst.perm ?_
   have := (List.Perm.append_left ((List.range m).flatMap F) hp2).append_right I
   refine this.trans ?_
   classical rw [List.perm_iff_count]; intro z; simp only [List.count_append]; omega
  exact hst2.app_right
 ·rw [hF2l v hv]
  refine hF v hv fun ht => hnt ?_
  rw [o2]; exact sortU_mem ht hv
theorem trimU_ok {M0 : List Blk} {β0 : Beta} {F0 : Nat → Frag} {I0 : Frag} {ws : World} {o : Out} {v : Value} (R0 : RM D w0 K0 M0 β0 F0 I0 ws)
  (R : RM D w0 K0 o.M β F I w) (e : ExtB [] β0 β) (hI : Grows I0 I) (hF : ∀ u, u < M0.length → u ∉ o.tc → F u = F0 u) (r : ARel (fun w => K0 w ∧ Holds w I) β o.av v) :
  ∃ β' F', RM D w0 K0 (trimU M0 o).M β' F' I w ∧ ExtB [] β0 β' ∧ (∀ u, u < M0.length → u ∉ (trimU M0 o).tc → F' u = F0 u) ∧ ARel (fun w => K0 w ∧ Holds w I) β' (trimU M0 o).av v := by
 unfold trimU
 cases Nat.ble (M0.length + 2) o.M.length with
 | false => exact ⟨β, F, R, e, hF, r⟩
 | true =>
  simp only [cond_true]
  split
  ·rename_i old ho
   unfold trim1
   split
   ·rename_i nb hnb
    exact trim2_ok R0 ho hnb R e hI hF r
   ·exact ⟨β, F, R, e, hF, r⟩
  ·exact ⟨β, F, R, e, hF, r⟩
end Go.Proofs.YtkheephfkbpchaaGreatDoor
namespace Go.Proofs.YtkheephfkbpchaaGreatDoor
open Go.RowKit
open Go.Maps
variable {mk : Bool} {P : Program} {T : Tab} {cl : Walker} {f : FuncId} {R : Tgt} {D : List Nat} {w0 : World} {K0 : World → Prop} {E : List (Nat × AV)} {M : List Blk} {β : Beta} {F : Nat → Frag} {I : Frag} {w : World} {a : Act} {sz : Nat}
def uY (P : Program) (T : Tab) (KL : List TypeId) (cl : Walker) (fuel : Nat) (u : Nat) (args : List AV) (M : List Blk) : Option Out :=
 match M[u]? with
 | some (.lp .ready f sz E rf) => bif args.length.beq rf.ps.toList.length && rf.ps.toList.all (·.blt sz) && nodupB rf.ps.toList then
  (match only1 (uC P T KL cl false f sz fuel M.length [.code rf.asg, .beginRound, .code rf.body] ⟨rf.ps.toList.zip args ++ E, M, []⟩) with
  | some ([.beginRound, .code c2], s1) => (match s1.M[u]? with
   | some (.lp .ready f2 sz2 E2 rf2) => bif f2.beq f then (match only1 (uC P T KL cl false f sz fuel M.length [.code c2] ⟨s1.E, s1.M.set u (.lp .busy f2 sz2 E2 rf2), u :: s1.tc⟩) with
    | some (k2, s2) => (match endL k2, s2.M[u]? with
     | some ls, some (.lp .busy f3 sz3 E3 rf3) => some ⟨[], .d (.v (.bool ls.on)), s2.M.set u (.lp ls f3 sz3 E3 rf3), u :: s2.tc, [], none⟩
     | _, _ => none)
    | _ => none) else none
   | _ => none)
  | _ => none) else none
 | _ => none
theorem uY_ok (hT : tabB P T = true) {KL : List TypeId} (hL : LawsOk P KL) (hm : P.follows .mixedOrders = true) (hcl : ClOk P cl) {n : Nat} {u : Nat} {args : List AV} {M : List Blk} {out : Out} (h : uY P T KL cl n u args M = some out) : out.rd = none ∧ YieldsA P u args M out := by
 unfold uY at h
 split at h
 rotate_left
 ·simp at h
 rename_i f sz E rf hM
 cases hc : (args.length.beq rf.ps.toList.length && rf.ps.toList.all (·.blt sz) && nodupB rf.ps.toList) with
 | false => simp only [hc, cond_false, reduceCtorEq] at h
 | true =>
  simp only [hc, cond_true] at h
  simp only [Bool.and_eq_true] at hc
  obtain ⟨⟨hc1, hc2⟩, hc3⟩ := hc
  have hc1 := Nat.eq_of_beq_eq_true hc1
  split at h
  rotate_left
  ·simp at h
  rename_i c2 s1 hr1
  have hr1 := only1_ok hr1
  split at h
  rotate_left
  ·simp at h
  rename_i f2 sz2 E2 rf2 hM1
  cases hf : (f2.beq f) with
  | false => simp only [hf, cond_false, reduceCtorEq] at h
  | true =>
   simp only [hf, cond_true] at h
   obtain rfl := Nat.eq_of_beq_eq_true hf
   split at h
   rotate_left
   ·simp at h
   rename_i k2 s2 hr2
   have hr2 := only1_ok hr2
   split at h
   rotate_left
   ·simp at h
   rename_i ls f3 sz3 E3 rf3 hk2 hM2
   simp only [Option.some.injEq] at h; subst h
   refine ⟨rfl, ?_⟩
   intro D w0 K0 β F I w ys l c Rm hK hv hl hrel hβ
   obtain ⟨H, hF, hB, hH⟩ := Rm.at hM
   cases hB with
   | @lp b0 cc f0 sz0 dfr bz E0 rf0 tmps hb hsz hr =>
    rw [hβ] at hb; cases hb
    have hheap := hH.one
    have hlen : rf.ps.size = ys.toArray.size := by
     have e : rf.ps.toList.length = rf.ps.size := Array.length_toList
     have e2 : ys.toArray.size = ys.length := by simp
     omega
    have hy : (Instr.yield l ys.toArray).run P w = .ok (.round l f2 ((rf.ps.zip ys.toArray).foldl (fun tmps (x : Tmp × Value) => tmps.setIfInBounds x.1 x.2) tmps) rf.asg rf.body) w := by
     unfold Instr.yield Instr.getLoop
     simp only [Sem.run_bind, run_getA hheap rfl, Result.andThen_ok, Sem.run_pure]
     rw [if_neg (by simp [hlen])]
     rfl
    refine ⟨f2, _, rf.asg, rf.body, hy, ?_⟩
    have hfold : (rf.ps.zip ys.toArray).foldl (fun tmps (x : Tmp × Value) => tmps.setIfInBounds x.1 x.2) tmps = setPs (rf.ps.toList.zip ys) tmps := by
     rw [← foldl_setPs, ← Array.foldl_toList]; simp
    rw [hfold]
    have hkeys : (rf.ps.toList.zip ys).map (·.1) = rf.ps.toList := List.map_fst_zip (by rw [hl, hc1]; exact Nat.le_refl _)
    have r0 : REu false D w0 K0 sz ⟨β, F, I, M.length⟩ ⟨rf.ps.toList.zip args ++ E, M, []⟩ { tmps := setPs (rf.ps.toList.zip ys) tmps, defers := [] } w := by
     refine ⟨by rw [setPs_size, hsz], I, rfl, Nat.le_refl _, β, F, Rm, ⟨fun _ _ _ h => h, Grows.refl _, fun _ _ _ => rfl⟩, ?_⟩
     intro t v hv'
     have hmem := lookA_mem hv'
     show ARel _ β v ((setPs (rf.ps.toList.zip ys) tmps).getD t undef)
     by_cases ht : t ∈ rf.ps.toList
     ·have hz : (t, v) ∈ rf.ps.toList.zip args := by
       rcases List.mem_append.1 hmem with h1 | h1
       ·exact h1
       ·exact lookA_app_left hv' (by
         rw [List.map_fst_zip (by omega)]; exact ht)
      obtain ⟨y, hy1, hy2⟩ := mem_zip_of hz hl hrel
      rw [setPs_at _ _ t y (by rw [hkeys]; exact nodupB_ok hc3) (fun x hx => by
       have : x.1 ∈ rf.ps.toList := by rw [← hkeys]; exact List.mem_map_of_mem hx
       have := List.all_eq_true.1 hc2 _ this
       rw [hsz]; simpa [Nat.blt_eq] using this) hy1]
      exact hy2
     ·rcases List.mem_append.1 hmem with h1 | h1
      ·exact absurd (by have := List.mem_map_of_mem (f := fun x : Nat × AV => x.1) h1; rwa [List.map_fst_zip (by omega)] at this) ht
      ·rw [setPs_other _ _ _ (by rw [hkeys]; exact ht)]
       exact hr (t, v) h1
    refine round_of_goes (c2 := c2) hk2 (segU hT hL hcl hm hK (by simp) n hr1 r0 fun o ho a1 w1 r1 => ?_)
    rw [List.mem_singleton] at ho; subst ho
    refine Goes.arrive ?_
    obtain ⟨z1, I1, z2, z3, β1, F1, Rm1, sn1, hs1⟩ := r1
    obtain ⟨H1, hF1, hB1, hH1⟩ := Rm1.at hM1
    have hβ1 : β1[u]? = some (some ⟨l, 0, none⟩, c) := sn1.1 u _ (by simp) hβ
    cases hB1 with
    | @lp b1 cc1 f1 sz1 dfr1 bz1 E1 rf1 tmps1 hb1 hsz1 hr1' =>
     rw [hβ1] at hb1; cases hb1
     refine ⟨_, run_begin hH1.one rfl, ?_⟩
     have Rm1' := Rm1.set hM1 hF1 (o' := .loop { state := .busy, pending := none, fn := f2, tmps := tmps1, params := rf2.ps, assign := rf2.asg, body := rf2.body, defers := dfr1 }) (blk' := .lp .busy f2 sz2 E2 rf2) (.lp (bz := .busy) (sz := sz2) hβ1 hsz1 hr1')
     have r1' : REu false D w0 K0 sz ⟨β, F, I, M.length⟩ ⟨s1.E, s1.M.set u (.lp .busy f2 sz2 E2 rf2), u :: s1.tc⟩ a1 (setB w1 l (.loop { state := .busy, pending := none, fn := f2, tmps := tmps1, params := rf2.ps, assign := rf2.asg, body := rf2.body, defers := dfr1 })) := by
      refine ⟨z1, I1, z2, by rw [List.length_set]; exact z3, β1, _, Rm1', ⟨sn1.1, sn1.2.1, fun v hv' hn => ?_⟩, hs1⟩
      simp only [List.mem_cons, not_or] at hn
      simp only [updF]; rw [if_neg hn.1]; exact sn1.2.2 v hv' hn.2
     refine segU hT hL hcl hm hK (by simp) n hr2 r1' fun o ho a2 w2 r2 => ?_
     rw [List.mem_singleton] at ho; subst ho
     refine Goes.arrive ?_
     obtain ⟨y1, I2, y2, y3, β2, F2, Rm2, sn2, hs2⟩ := r2
     obtain ⟨H2, hF2, hB2, hH2⟩ := Rm2.at hM2
     have hβ2 : β2[u]? = some (some ⟨l, 0, none⟩, c) := sn2.1 u _ (by simp) hβ
     cases hB2 with
     | @lp b2 cc2 f2' sz2' dfr2 bz2 E2' rf2' tmps2 hb2 hsz2 hr2' =>
      rw [hβ2] at hb2; cases hb2
      have Rm2' := Rm2.set hM2 hF2 (o' := .loop { state := ls.state, pending := ls.pend, fn := f3, tmps := tmps2, params := rf3.ps, assign := rf3.asg, body := rf3.body, defers := dfr2 }) (blk' := .lp ls f3 sz3 E3 rf3) (.lp (bz := ls) (sz := sz3) hβ2 hsz2 hr2')
      refine ⟨_, _, run_endR hk2 hH2.one, β2, _, I2, Rm2', sn2.1, sn2.2.1, fun v hv' hn => ?_, .d (.v _)⟩
      simp only [List.mem_cons, not_or] at hn
      simp only [updF]; rw [if_neg hn.1]; exact sn2.2.2 v hv' hn.2
theorem Goes.finK {Re : Ending → World → Prop} {fn : Func} (hf : P.funcs[f]? = some fn) {w' : World} (hm : Shut P a.defers w w') {v : Value} (hr : (results fn a.tmps).run P w' = .ok v w') (h : Re (.returned v) w') : Goes P f [] (.ends Re) a w := by
 intro b cs hb hk hro
 rw [Frame.atR_of_none hro]
 have s2 := shut_steps (P := P) (cs := cs) (fr := { b.at a [] with mode := .returning }) rfl rfl hm
 exact ⟨.returned v, w', { b.at a [] with mode := .returning, defers := [] }, h, .of_steps ((Steps.one step_end).trans s2) (Steps.refl P _), hb, rfl, rfl, hk, fn, by rw [← hb] at hf; exact hf, hr⟩
theorem lendAll (Rm : RM D w0 K0 M β F I w) (hK : ∀ w, Kp D w0 w → K0 w) : RM (keys ((List.range M.length).flatMap F)) w (fun w => K0 w ∧ Holds w I) M β F [] w ∧ ∀ w', Kp (keys ((List.range M.length).flatMap F)) w w' → K0 w' ∧ Holds w' I := by
 refine ⟨⟨Rm.len, fun u b hb => (Rm.blk u b hb).mono (fun w hw => hw.1) (Ext.refl _), ?_⟩, fun w' k => ?_⟩
 ·rw [List.append_nil]
  exact St.start Rm.st.app_left.nd Rm.st.app_left.holds
 ·have t : St (keys ((List.range M.length).flatMap F)) w w' [] := ⟨k, by simp [keys], by simp [keys], Holds.nil _⟩
  have s' := St.call Rm.st rfl t
  rw [List.nil_append] at s'
  exact ⟨hK _ s'.kp, s'.holds⟩
theorem backAll {M2 : List Blk} {β2 : Beta} {F2 : Nat → Frag} {I2 : Frag} {w2 : World} (Rm : RM D w0 K0 M β F I w) (R2 : RM (keys ((List.range M.length).flatMap F)) w (fun w => K0 w ∧ Holds w I) M2 β2 F2 I2 w2) : RM D w0 K0 M2 β2 F2 (I2 ++ I) w2 := by
 have s2 := St.call Rm.st rfl R2.st
 refine ⟨R2.len, fun u b hb => (R2.blk u b hb).mono (fun w hw => ⟨⟨hw.1, (Holds.app.1 hw.2).2⟩, (Holds.app.1 hw.2).1⟩) (Ext.refl _), ?_⟩
 rw [List.append_assoc] at s2
 exact s2
theorem Ends1.post {m0 : Nat} {o out : Out} (h : Ends1 m0 o out) (hmv : out.mv = []) {v : Value} (R : RM D w0 K0 o.M β F I w) (r : ARel (fun w => K0 w ∧ Holds w I) β o.av v) {F0 : Nat → Frag} (hF : ∀ u, u < m0 → u ∉ o.tc → F u = F0 u) :
  ∃ F' I', RM D w0 K0 out.M β F' I' w ∧ Grows I I' ∧ (∀ u, u < m0 → u ∉ out.tc → F' u = F0 u) ∧ ARel (fun w => K0 w ∧ Holds w I') β out.av v := by
 obtain ⟨h1, h2, b, h3, h4⟩ := h
 obtain ⟨F', I', g1, g2, -, g4⟩ := R.die (b := b) (fun u hu => (h3 u hu).2)
 refine ⟨F', I', by rw [h4]; exact g1, g2, fun u hu hn => ?_, by rw [h1]; exact r.mono (fun w hw => ⟨hw.1, g2.holds w hw.2⟩) (Ext.refl _)⟩
 rw [g4 u fun hm => by have := (h3 u hm).1; omega]
 exact hF u hu fun hm => hn (h2 u hm)
theorem args_rel {fn : Func} {args : List AV} {ys : List Value} {K : World → Prop} (hle : args.length ≤ fn.ntmps) (hl : ys.length = args.length) (hrel : ∀ (j : Nat) c y, args[j]? = some c → ys[j]? = some y → ARel K β c y) :
  ∀ t v, lookA (argsA args 0) t = some v → ARel K β v (({ tmps := ys.toArray ++ Array.replicate (fn.ntmps - ys.toArray.size) undef, defers := [] } : Act).eval (.tmp t)) := by
 intro t v hv'
 obtain ⟨-, h2⟩ := argsA_mem args 0 (t, v) (lookA_mem hv')
 simp only [Nat.sub_zero] at h2
 obtain ⟨hlt, -⟩ := List.getElem?_eq_some_iff.1 h2
 have hys : ys[t]? = some ys[t] := List.getElem?_eq_getElem (by omega)
 have he : ({ tmps := ys.toArray ++ Array.replicate (fn.ntmps - ys.toArray.size) undef, defers := [] } : Act).eval (.tmp t) = ys[t] := by
  have : t < ys.length := by omega
  simp [Act.eval, Array.getD_eq_getD_getElem?, Array.getElem?_append, this]
 rw [he]
 exact hrel t v _ h2 hys
theorem endT_ok {todo : List Item} (h : endT todo = true) : todo = [] ∨ ∃ k, todo = .code .ret :: k := by
 unfold endT at h
 split at h
 ·exact Or.inl rfl
 ·exact Or.inr ⟨_, rfl⟩
 ·cases h
def uFn (P : Program) (T : Tab) (KL : List TypeId) (cl : Walker) (fuel : Nat) (f : FuncId) (fn : Func) (c : Code) (mk : Bool) (args : List AV) (M : List Blk) : Option Out :=
 match uC P T KL cl mk f fn.ntmps fuel M.length [.code c] ⟨argsA args 0, M, []⟩ with
 | some l => (match outsU T mk M fn.results.toList l with
  | some os => (match mergeU M.length os with | some o => some (trimU M o) | none => none)
  | none => none)
 | none => none
theorem uFn_ok (hT : tabB P T = true) {KL : List TypeId} (hL : LawsOk P KL) (hm : P.follows .mixedOrders = true) (hcl : ClOk P cl) {fuel : Nat} {fn : Func} {c : Code} {args : List AV} {out : Out} (hc : callable P f = true) (hf : P.funcs[f]? = some fn) (hbody : fn.body = some c) (hle : args.length ≤ fn.ntmps)
  (h : uFn P T KL cl fuel f fn c mk args M = some out) : out.rd = none ∧ CallsA P f args M out := by
 unfold uFn at h
 split at h
 rotate_left
 ·simp at h
 rename_i l hr
 split at h
 rotate_left
 ·simp at h
 rename_i os hos
 split at h
 rotate_left
 ·simp at h
 rename_i o1 ho1
 simp only [Option.some.injEq] at h; subst h
 obtain ⟨hvc, hmv, hrd, hall⟩ := mergeU_ok (outsU_form hos) ho1
 obtain ⟨tvc, tmv, trd⟩ := trimU_form (M0 := M) ⟨hvc, hmv, hrd⟩
 refine ⟨trd, hc, ?_⟩
 intro D w0 K0 β F I w ys Rm hK hv hl hrel
 refine calls_of_goes hf hbody ?_
 cases mk with
 | false =>
  have r0 : REu false D w0 K0 fn.ntmps ⟨β, F, I, M.length⟩ ⟨argsA args 0, M, []⟩ { tmps := ys.toArray ++ Array.replicate (fn.ntmps - ys.toArray.size) undef, defers := [] } w :=
   ⟨by simp; omega, I, rfl, Nat.le_refl _, β, F, Rm, ⟨fun _ _ _ h => h, Grows.refl _, fun _ _ _ => rfl⟩, args_rel hle hl hrel⟩
  refine segU (b := ⟨β, F, I, M.length⟩) hT hL hcl hm hK (by simp) fuel hr r0 fun x hx a' w' r' => ?_
  obtain ⟨ht, -, o, ho, hmem⟩ := outsU_ok hos x hx
  obtain ⟨-, -, v, h3, β', F', I', h4, h5, h6, h7, h8⟩ := endA_ok hT ho r'
  obtain ⟨F2, I2, g1, g2, g3, g4⟩ := (hall o hmem).post hmv h4 h8 h7
  have omv : o.mv = [] := (outsU_form hos o hmem).2.1
  obtain ⟨β3, F3, t1, t2, t3, t4⟩ := trimU_ok Rm g1 (by rw [omv] at h5; exact h5) (h6.trans g2) g3 g4
  have hP : ∃ v', Ending.returned v = .returned v' ∧ ∃ β' F' I', RM D w0 K0 (trimU M o1).M β' F' I' w' ∧ ExtB (trimU M o1).mv β β' ∧ Grows I I' ∧ (∀ u, u < M.length → u ∉ (trimU M o1).tc → F' u = F u) ∧ ARel (fun w => K0 w ∧ Holds w I') β' (trimU M o1).av v' :=
   ⟨v, rfl, β3, F3, I2, t1, by rw [tmv]; exact t2, h6.trans g2, t3, t4⟩
  rcases endT_ok ht with e | ⟨k, e⟩
  ·rw [e]; exact Goes.fin hf (REb.nodef r') h3 hP
  ·rw [e]; exact Goes.ret hf (REb.nodef r') h3 hP
 | true =>
  obtain ⟨Rl, hKl⟩ := lendAll Rm hK
  have r0 : REu true (keys ((List.range M.length).flatMap F)) w (fun w => K0 w ∧ Holds w I) fn.ntmps ⟨β, F, [], M.length⟩ ⟨argsA args 0, M, []⟩ { tmps := ys.toArray ++ Array.replicate (fn.ntmps - ys.toArray.size) undef, defers := [] } w :=
   ⟨by simp; omega, [], Mk.nil _, Nat.le_refl _, β, F, Rl, ⟨fun _ _ _ h => h, Grows.refl _, fun _ _ _ => rfl⟩, args_rel hle hl fun j c y h1 h2 => (hrel j c y h1 h2).mono (fun w hw => hw.1) (Ext.refl _)⟩
  refine segU (b := ⟨β, F, [], M.length⟩) hT hL hcl hm hKl (fun _ => rfl) fuel hr r0 fun x hx a' w' r' => ?_
  obtain ⟨ht, hind, o, ho, hmem⟩ := outsU_ok hos x hx
  obtain ⟨q1, I1, q2, q3, β1, F1, R1, sn1, q4⟩ := r'
  dsimp only at R1 sn1 q3 q4
  obtain ⟨w2, I2, g1, g2⟩ := shut_all (P := P) q2.1 q2.2 R1.st
  have ext1 : Ext β β1 := fun u x hx => sn1.1 u x (by simp) hx
  have R2 : RM (keys ((List.range M.length).flatMap F)) w (fun w => K0 w ∧ Holds w I) (endM true M x.2) β1 F1 I2 w2 := by
   have hl2 : (endM true M x.2).length = x.2.M.length := mixU_len _ _ _ _
   refine ⟨by rw [hl2]; exact R1.len, fun u b hb => ?_, by rw [hl2]; exact g2⟩
   rcases mixU_at _ _ _ _ _ _ hb with ⟨e1, e2, e3⟩ | ⟨e1, e2⟩
   ·rw [Nat.zero_add] at e2
    rw [sn1.2.2 u e1 e2]
    exact (Rl.blk u b e3).mono (fun w hw => ⟨hw.1, Holds.nil w⟩) ext1
   ·have := indM_ok (hind rfl) u b hb (by
     rcases Nat.lt_or_ge u M.length with h | h
     ·exact Or.inr (e2 h)
     ·exact Or.inl (by omega))
    exact this _ _ _ _ _ (R1.blk u b e1)
  have r2 : REu false (keys ((List.range M.length).flatMap F)) w (fun w => K0 w ∧ Holds w I) fn.ntmps ⟨β, F, [], M.length⟩ ⟨endE true x.2.E, endM true M x.2, x.2.tc⟩ { a' with defers := [] } w2 :=
   ⟨q1, I2, rfl, by rw [show (endM true M x.2).length = x.2.M.length from mixU_len _ _ _ _]; exact q3, β1, F1, R2, ⟨sn1.1, ⟨I2, by simp⟩, sn1.2.2⟩, fun t v hv' => by
    obtain ⟨e1, e2⟩ := indE_ok hv'
    exact e2 _ _ _ _ (q4 t v e1)⟩
  obtain ⟨-, -, v, h3, β', F', I', h4, h5, h6, h7, h8⟩ := endA_ok hT ho r2
  obtain ⟨F3, I3, k1, k2, k3, k4⟩ := (hall o hmem).post hmv h4 h8 h7
  have omv : o.mv = [] := (outsU_form hos o hmem).2.1
  obtain ⟨β3, F4, t1, t2, t3, t4⟩ := trimU_ok Rl k1 (by rw [omv] at h5; exact h5) ⟨I3, by simp⟩ k3 k4
  have hP : ∃ v', Ending.returned v = .returned v' ∧ ∃ β' F' I', RM D w0 K0 (trimU M o1).M β' F' I' w2 ∧ ExtB (trimU M o1).mv β β' ∧ Grows I I' ∧ (∀ u, u < M.length → u ∉ (trimU M o1).tc → F' u = F u) ∧ ARel (fun w => K0 w ∧ Holds w I') β' (trimU M o1).av v' :=
   ⟨v, rfl, β3, F4, I3 ++ I, backAll Rm t1, by rw [tmv]; exact t2, ⟨I3, rfl⟩, t3, t4.mono (fun w hw => ⟨⟨hw.1, (Holds.app.1 hw.2).2⟩, (Holds.app.1 hw.2).1⟩) (Ext.refl _)⟩
  rcases endT_ok ht with e | ⟨k, e⟩
  ·rw [e]; exact Goes.finK hf g1 h3 hP
  ·rw [e]; exact Goes.retK hf g1 h3 hP
def uW (P : Program) (T : Tab) (KL : List TypeId) (X : Walker) (fuel : Nat) : Nat → Walker
 | 0 => fun _ _ _ _ => none
 | d + 1 => fun c args M o => match X c args M o with
  | some out => some out
  | none => (match c with
   | .yl u => uY P T KL (uW P T KL X fuel d) fuel u args M
   | .fn f => (bif callable P f then (match P.funcs[f]? with
    | some fn => (bif Nat.ble args.length fn.ntmps then (match fn.body with
     | some c => uFn P T KL (uW P T KL X fuel d) fuel f fn c (hasRF c) args M
     | none => none) else none)
    | none => none) else none))
theorem uW_ok (hT : tabB P T = true) {KL : List TypeId} (hL : LawsOk P KL) (hm : P.follows .mixedOrders = true) {X : Walker} (hX : ClOk P X) {fuel : Nat} : ∀ d, ClOk P (uW P T KL X fuel d) := by
 intro d
 induction d with
 | zero => intro f args M o out h; simp [uW] at h
 | succ d ih =>
  intro c args M o out h
  unfold uW at h
  split at h
  ·rename_i out' hx
   simp only [Option.some.injEq] at h; subst h
   exact hX _ _ _ _ _ hx
  cases c with
  | yl u => exact uY_ok hT hL hm ih h
  | fn f =>
  simp only at h
  cases hc : callable P f with
  | false => simp [hc] at h
  | true =>
   simp only [hc, cond_true] at h
   split at h
   ·rename_i fn hf
    cases hb : Nat.ble args.length fn.ntmps with
    | false => simp [hb] at h
    | true =>
     simp only [hb, cond_true] at h
     split at h
     ·rename_i c hbody
      exact uFn_ok hT hL hm ih hc hf hbody (Nat.le_of_ble_eq_true hb) h
     ·simp at h
   ·simp at h
def noX : Walker := fun _ _ _ _ => none
theorem noX_ok : ClOk P noX := by intro c args M o out h; cases h
def resU (T : Tab) (rs : List ResultVar) : List (List Item × US) → Option DV
 | [] => none
 | (todo, s) :: r => bif endT todo then (match resA T s.E s.M rs with
  | some [.d x] => (match r with
   | [] => some x
   | _ => (match resU T rs r with | some y => bif dvQ x y then some y else none | none => none))
  | _ => none) else none
theorem resU_ok {rs : List ResultVar} : ∀ {l : List (List Item × US)} {x : DV}, resU T rs l = some x → ∀ o ∈ l, endT o.1 = true ∧ resA T o.2.E o.2.M rs = some [.d x]
 | [], _, h, _, _ => by simp [resU] at h
 | (todo, s) :: r, x, h, o, ho => by
  unfold resU at h
  cases ht : endT todo with
  | false => simp [ht] at h
  | true =>
   simp only [ht, cond_true] at h
   split at h
   ·rename_i y hy
    split at h
    ·simp only [Option.some.injEq] at h; subst h
     rw [List.mem_singleton] at ho; subst ho
     exact ⟨ht, hy⟩
    ·split at h
     ·rename_i z hz
      cases hq : dvQ y z with
      | false => simp [hq] at h
      | true =>
       simp only [hq, cond_true, Option.some.injEq] at h; subst h
       obtain rfl := dvQ_eq hq
       rcases List.mem_cons.1 ho with rfl | ho
       ·exact ⟨ht, hy⟩
       ·exact resU_ok hz o ho
     ·simp at h
   ·simp at h
def topU (P : Program) (T : Tab) (KL : List TypeId) (X : Walker) (fuel d : Nat) (f : FuncId) (args : List AV) : Option DV :=
 bif callable P f then (match P.funcs[f]? with
 | some fn => (bif Nat.ble args.length fn.ntmps then (match fn.body with
  | some c => (match uC P T KL (uW P T KL X fuel d) false f fn.ntmps fuel 0 [.code c] ⟨argsA args 0, [], []⟩ with
   | some l => resU T fn.results.toList l
   | none => none)
  | none => none) else none)
 | none => none) else none
theorem topU_ok (hT : tabB P T = true) {KL : List TypeId} (hL : LawsOk P KL) (hm : P.follows .mixedOrders = true) {X : Walker} (hX : ClOk P X) {fuel d : Nat} {args : List AV} {x : DV} (h : topU P T KL X fuel d f args = some x) : Con P f args x := by
 unfold topU at h
 cases hc : callable P f with
 | false => simp [hc] at h
 | true =>
  simp only [hc, cond_true] at h
  split at h
  ·rename_i fn hf
   cases hle : Nat.ble args.length fn.ntmps with
   | false => simp [hle] at h
   | true =>
   simp only [hle, cond_true] at h
   split at h
   ·rename_i c hbody
    split at h
    rotate_left
    ·simp at h
    rename_i l hr
    refine Con.intro hc hf hbody fn.ntmps rfl hle fun w0 K a hK r => ?_
    obtain ⟨h1, I, h2, β, F, h3, h4⟩ := r
    have r0 : REu false [] w0 K fn.ntmps ⟨β, F, I, 0⟩ ⟨argsA args 0, [], []⟩ a w0 := ⟨h1, I, h2, Nat.le_refl _, β, F, h3, ⟨fun _ _ _ h => h, Grows.refl _, fun _ _ _ => rfl⟩, h4⟩
    refine segU (b := ⟨β, F, I, 0⟩) hT hL (uW_ok hT hL hm hX d) hm hK (by simp) fuel hr r0 fun o ho a' w' r' => ?_
    obtain ⟨ht, hres⟩ := resU_ok h o ho
    rcases endT_ok ht with e | ⟨k, e⟩
    ·rw [e]; exact fin hT hf r'.re (Gives.one hres rfl)
    ·rw [e]; exact ret hT hf r'.re (Gives.one hres rfl)
   ·simp at h
  ·simp at h
end Go.Proofs.YtkheephfkbpchaaGreatDoor
namespace Go.Proofs.YtkheephfkbpchaaGreatDoor
open Go.RowKit
open Go.Maps
variable {P : Program} {T : Tab} {cl : Walker} {f : FuncId} {R : Tgt} {D : List Nat} {w0 : World} {K0 : World → Prop} {E : List (Nat × AV)} {M : List Blk} {β : Beta} {F : Nat → Frag} {I : Frag} {w : World} {a : Act} {sz : Nat}
def isB : Option AV → Bool
 | some (.d (.v (.bool _))) => true
 | _ => false
def fin1 (T : Tab) (rs : List ResultVar) : Option (List (List Item × US)) → Option DV
 | some l => resU T rs l
 | none => none
def topF (P : Program) (T : Tab) (KL : List TypeId) (X : Walker) (fuel d n1 : Nat) (f : FuncId) (args : List AV) : Option DV :=
 bif callable P f then (match P.funcs[f]? with
 | some fn => (bif Nat.ble args.length fn.ntmps then (match fn.body with
  | some c => (match uC P T KL (uW P T KL X fuel d) false f fn.ntmps n1 0 [.code c] ⟨argsA args 0, [], []⟩ with
   | some [(.code (.cond g x y) :: k, s)] => bif isB (evA s.E g) then (match fin1 T fn.results.toList (uC P T KL (uW P T KL X fuel d) false f fn.ntmps fuel 0 (.code x :: k) s), fin1 T fn.results.toList (uC P T KL (uW P T KL X fuel d) false f fn.ntmps fuel 0 (.code y :: k) s) with
    | some a, some b => bif dvQ a b then some a else none
    | _, _ => none) else none
   | _ => none)
  | none => none) else none)
 | none => none) else none
def tellX (f : Nat) (y : Value) (X : Walker) : Walker := fun c args M o => match c, args with
 | .fn g, [] => bif Nat.beq g f then some ⟨[], .d (.v y), M, [], [], none⟩ else X c args M o
 | _, _ => X c args M o
theorem tellX_ok {y : Value} {X : Walker} (h : Con P f [] (.v y)) (hX : ClOk P X) : ClOk P (tellX f y X) := by
 intro c args M o out ho
 unfold tellX at ho
 split at ho
 ·rename_i g
  cases hg : Nat.beq g f with
  | false => simp only [hg, cond_false] at ho; exact hX _ _ _ _ _ ho
  | true =>
   simp only [hg, cond_true, Option.some.injEq] at ho; subst ho
   obtain rfl := Nat.eq_of_beq_eq_true hg
   refine ⟨rfl, h.1, ?_⟩
   intro D w0 K0 β F I w ys Rm hK hv hl hrel
   obtain rfl : ys = [] := List.eq_nil_of_length_eq_zero (by simpa using hl)
   refine (h.now Rm hK (b := []) (by simp) rfl (by simp) (fun hn => absurd rfl hn)).mono ?_
   rintro e w' ⟨v, rfl, I', X', R, hI, hd⟩
   cases hd with
   | v => exact ⟨_, rfl, β, F, I', R.nil rfl, fun _ _ _ h => h, hI, fun _ _ _ => rfl, .d (.v _)⟩
 ·exact hX _ _ _ _ _ ho
structure MemoE where
 f : Nat
 args : List AV
 M : List Blk
 out : Out
def findE (f : Nat) (args : List AV) (M : List Blk) : List MemoE → Option Out
 | [] => none
 | e :: r => bif Nat.beq e.f f && (avsQ args e.args && blksQ M e.M) then some e.out else findE f args M r
def memoX (l : List MemoE) (X : Walker) : Walker := fun c args M o => match c with
 | .fn f => (match findE f args M l with | some out => some out | none => X c args M o)
 | .yl u => X (.yl u) args M o
def MemoE.Ok (P : Program) (e : MemoE) : Prop := e.out.rd = none ∧ CallsA P e.f e.args e.M e.out
theorem findE_ok {P : Program} {f : Nat} {args : List AV} {M : List Blk} {out : Out} : ∀ {l : List MemoE}, (∀ e ∈ l, e.Ok P) → findE f args M l = some out → out.rd = none ∧ CallsA P f args M out
 | [], _, h => by simp [findE] at h
 | e :: r, hl, h => by
  unfold findE at h
  cases hc : (Nat.beq e.f f && (avsQ args e.args && blksQ M e.M)) with
  | false => simp only [hc, cond_false] at h; exact findE_ok (fun e' he => hl e' (List.mem_cons_of_mem _ he)) h
  | true =>
   simp only [hc, cond_true, Option.some.injEq] at h; subst h
   obtain ⟨h1, h2⟩ := Bool.and_eq_true_iff.1 hc
   obtain ⟨h2, h3⟩ := Bool.and_eq_true_iff.1 h2
   have := hl e List.mem_cons_self
   unfold MemoE.Ok at this
   rw [Nat.eq_of_beq_eq_true h1, ← avsQ_eq h2, ← blksQ_eq h3] at this
   exact this
theorem memoX_ok {P : Program} {l : List MemoE} {X : Walker} (hl : ∀ e ∈ l, e.Ok P) (hX : ClOk P X) : ClOk P (memoX l X) := by
 intro c args M o out h
 unfold memoX at h
 split at h
 ·split at h
  ·rename_i f out' hf
   simp only [Option.some.injEq] at h; subst h
   exact findE_ok hl hf
  ·exact hX _ _ _ _ _ h
 ·exact hX _ _ _ _ _ h
theorem MemoE.of (hT : tabB P T = true) {KL : List TypeId} (hL : LawsOk P KL) (hm : P.follows .mixedOrders = true) {X : Walker} (hX : ClOk P X) {fuel d : Nat} {e : MemoE} (h : uW P T KL X fuel d (.fn e.f) e.args e.M (.n 0) = some e.out) : e.Ok P := uW_ok hT hL hm hX d _ _ _ _ _ h
end Go.Proofs.YtkheephfkbpchaaGreatDoor
