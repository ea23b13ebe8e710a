/-
  specJudges_holds, part 3 of 6: merged by program from the texts that it needs.
-/
import Derived.Test.YtilhbhpldkjkaaaGreatJuB
set_option linter.unusedSimpArgs false
set_option linter.unusedVariables false
set_option linter.unnecessarySimpa false
namespace Go.Proofs.YtilhbhpldkjkaaaGreat
open Go.RowKit
def RetAe (w : World) (K : World → Prop) (x : DV) : Ending → World → Prop := RetN w fun r H => ∃ Ho Hi, H = Ho ++ Hi ∧ DRel (fun w => K w ∧ Holds w Hi) x r Ho
abbrev RetA (w : World) (K : World → Prop) (x : DV) : Tgt := .ends (RetAe w K x)
def argsA : List AV → Nat → List (Nat × AV)
 | [], _ => []
 | v :: r, i => (i, v) :: argsA r (i + 1)
theorem argsA_mem : ∀ (vs : List AV) (i : Nat) (x : Nat × AV), x ∈ argsA vs i → i ≤ x.1 ∧ vs[x.1 - i]? = some x.2 := by
 intro vs
 induction vs with
 | nil => intro i x hx; simp [argsA] at hx
 | cons v r ih =>
  intro i x hx
  simp only [argsA, List.mem_cons] at hx
  rcases hx with e | e
  ·subst e; simp
  ·obtain ⟨h1, h2⟩ := ih (i + 1) x e
   refine ⟨by omega, ?_⟩
   rw [show x.1 - i = (x.1 - (i + 1)) + 1 by omega]; simpa using h2
variable {mk : Bool} {P : Program} {T : Tab} {cl : Walker} {f : FuncId} {R : Tgt} {a : Act} {w : World} {D : List Nat} {w0 : World} {K0 : World → Prop} {E : List (Nat × AV)} {M : List Blk} {β : Beta} {F : Nat → Frag} {I X : Frag} {sz : Nat} {tb : Tbl} {todo todo' : List Item}
theorem Con.intro {fn : Func} {c : Code} {args : List AV} {x : DV} (hcall : callable P f = true) (hf : P.funcs[f]? = some fn) (hb : fn.body = some c) (n : Nat) (hn : fn.ntmps = n) (hle : Nat.ble args.length n = true)
  (h : ∀ (w0 : World) (K : World → Prop) (a : Act), (∀ w, Kp [] w0 w → K w) → RE' [] w0 K n (argsA args 0) [] a w0 → Goes P f [.code c] (RetA w0 K x) a w0) : Con P f args x := by
 refine ⟨hcall, fun w K ys hK hl hr => ?_⟩
 have hle := Nat.le_of_ble_eq_true hle
 refine calls_of_goes hf hb (h w K _ (fun w' k => hK w' k.to_gr) ⟨by simp; omega, [], rfl, [], fun _ => [], ⟨rfl, by simp, by simpa using St.none w⟩, ?_⟩)
 intro t v hv
 obtain ⟨y, rfl, rfl, hy⟩ : ∃ y : Nat × AV, y.1 = t ∧ y.2 = v ∧ y ∈ argsA args 0 := ⟨(t, v), rfl, rfl, lookA_mem hv⟩
 obtain ⟨-, h2⟩ := argsA_mem args 0 y hy
 simp only [Nat.sub_zero] at h2
 obtain ⟨hlt, -⟩ := List.getElem?_eq_some_iff.1 h2
 have hys : ys[y.1]? = some ys[y.1] := List.getElem?_eq_getElem (by omega)
 have he : ({ tmps := ys.toArray ++ Array.replicate (fn.ntmps - ys.toArray.size) undef, defers := [] } : Act).eval (.tmp y.1) = ys[y.1] := by
  have : y.1 < ys.length := by omega
  simp [Act.eval, Array.getD_eq_getD_getElem?, Array.getElem?_append, this]
 rw [he]
 exact (hr y.1 y.2 _ h2 hys).mono (fun w hw => hw.1) (Ext.refl _)
def resA (T : Tab) (E : List (Nat × AV)) (M : List Blk) : List ResultVar → Option (List AV)
 | [] => some []
 | .tmp t :: r => (match lookA E t, resA T E M r with | some v, some l => some (v :: l) | _, _ => none)
 | .cell t ty :: r => (match lookA E t, resA T E M r with
  | some (.pt u o), some l => (match M[u]? with | some (.bx _ cells) => (match ldA T ty cells o with | some v => some (v :: l) | none => none) | _ => none)
  | _, _ => none)
theorem resA_ok (hT : tabB P T = true) (R : RM D w0 K0 M β F I w) (hs : ∀ t v, lookA E t = some v → ARel (fun w => K0 w ∧ Holds w I) β v (a.eval (.tmp t))) : ∀ {rs : List ResultVar} {l : List AV}, resA T E M rs = some l → ∃ ys, resOk P w a rs ys ∧ ys.length = l.length ∧ ∀ (j : Nat) c y, l[j]? = some c → ys[j]? = some y → ARel (fun w => K0 w ∧ Holds w I) β c y
 | [], l, h => by simp only [resA, Option.some.injEq] at h; subst h; exact ⟨[], trivial, rfl, by simp⟩
 | .tmp t :: r, l, h => by
  unfold resA at h
  split at h
  ·rename_i v l' h1 h2
   simp only [Option.some.injEq] at h; subst h
   obtain ⟨ys, e1, e2, e3⟩ := resA_ok hT R hs h2
   refine ⟨a.eval (.tmp t) :: ys, ⟨rfl, e1⟩, by simp [e2], ?_⟩
   intro j c y h3 h4
   cases j with
   | zero => simp at h3 h4; subst h3 h4; exact hs _ _ h1
   | succ j => simp at h3 h4; exact e3 j c y h3 h4
  ·simp at h
 | .cell t ty :: r, l, h => by
  unfold resA at h
  split at h
  ·rename_i u o l' h1 h2
   split at h
   ·rename_i T0 cells hM
    split at h
    ·rename_i v hld
     simp only [Option.some.injEq] at h; subst h
     obtain ⟨ys, e1, e2, e3⟩ := resA_ok hT R hs h2
     have hr := hs _ _ h1
     generalize hy : a.eval (.tmp t) = y0 at hr
     cases hr with
     | pt hb =>
      obtain ⟨H, hF, hB, hH⟩ := R.at hM
      cases hB with
      | bx hb' zs hl hr =>
       rw [hb] at hb'; cases hb'
       obtain ⟨y', g1, g2⟩ := ldA_ok (d := none) (ty := 0) (pos := "") (aft := #[]) (gd := none) hT (x := .tmp t) (ρ := a.eval) (a := ⟨_, 0, none⟩) (R := ARel (fun w => K0 w ∧ Holds w I) β) (fun l ys => ARel.ag ys) hld (hy.trans (by rw [add_eq, Nat.zero_add])) hl hr
       have g3 := g2 w fun j z hj => by rw [add_eq, cell_of hH.one, Nat.zero_add]; simpa using hj
       refine ⟨y' :: ys, ⟨⟨_, hy, ?_⟩, e1⟩, by simp [e2], ?_⟩
       ·simp only [execOp, hy, Sem.run_bind, Instr.loadAt, Instr.sureAddr] at g3
        cases hv : (loadVar ty _).run P w with
        | ok q w' => rw [Sem.run_pure, Result.andThen_ok, hv] at g3; simp at g3; obtain ⟨rfl, rfl⟩ := g3; rfl
        | halt q w' => rw [Sem.run_pure, Result.andThen_ok, hv] at g3; simp [Result.andThen] at g3
       ·intro j c y h3 h4
        cases j with
        | zero => simp at h3 h4; subst h3 h4; exact g1
        | succ j => simp at h3 h4; exact e3 j c y h3 h4
    ·simp at h
   ·simp at h
  ·simp at h
def oneX : List DV → DV
 | [x] => x
 | l => .tu l
theorem back (hT : tabB P T = true) {fn : Func} (hf : P.funcs[f]? = some fn) (r : RE' [] w0 K0 sz E M a w) {l : List AV} {vc : List Prop} {xs : List DV} {M' : List Blk} {x : DV} (h1 : resA T E M fn.results.toList = some l) (h2 : pack2L M l = some (vc, xs, M')) (hv : AllP vc) (hx : oneX xs = x) :
  ∃ v, (results fn a.tmps).run P w = .ok v w ∧ RetAe w0 K0 x (.returned v) w := by
 obtain ⟨-, I, -, β, F, Rm, hs⟩ := r
 obtain ⟨ys, e1, e2, e3⟩ := resA_ok hT Rm hs h1
 obtain ⟨F', H, R', d⟩ := pack2L_ok Rm.x h2 hv e2 e3
 refine ⟨_, res_run rfl e1, _, rfl, R'.st.kp.to_gr, H ++ I, ⟨H, I, rfl, ?_⟩, ?_⟩
 ·subst hx
  have hl := d.len
  cases d with
  | nil => exact .tu [] (fun _ => []) rfl (by simp)
  | cons h r =>
   cases r with
   | nil => simpa [oneX] using h
   | cons h' r' =>
    have dd := DRelL.cons h (DRelL.cons h' r')
    obtain ⟨F2, hF, hG⟩ := dd.to
    rw [hF]
    exact .tu _ F2 dd.len hG
 ·have := R'.st.app_right
  exact (this.perm (by classical rw [List.perm_iff_count]; intro z; simp only [List.count_append, List.count_nil]; omega)).newF
theorem back_ret (hT : tabB P T = true) {fn : Func} (hf : P.funcs[f]? = some fn) {k : List Item} (r : RE' [] w0 K0 sz E M a w) {l : List AV} {vc : List Prop} {xs : List DV} {M' : List Blk} {x : DV} (h1 : resA T E M fn.results.toList = some l) (h2 : pack2L M l = some (vc, xs, M')) (hv : AllP vc) (hx : oneX xs = x) : Goes P f (.code .ret :: k) (RetA w0 K0 x) a w :=
 let ⟨_, h3, h4⟩ := back hT hf r h1 h2 hv hx
 Goes.ret hf (REg.nodef r) h3 h4
theorem back_fin (hT : tabB P T = true) {fn : Func} (hf : P.funcs[f]? = some fn) (r : RE' [] w0 K0 sz E M a w) {l : List AV} {vc : List Prop} {xs : List DV} {M' : List Blk} {x : DV} (h1 : resA T E M fn.results.toList = some l) (h2 : pack2L M l = some (vc, xs, M')) (hv : AllP vc) (hx : oneX xs = x) : Goes P f [] (RetA w0 K0 x) a w :=
 let ⟨_, h3, h4⟩ := back hT hf r h1 h2 hv hx
 Goes.fin hf (REg.nodef r) h3 h4
def oneA : List AV → AV
 | [v] => v
 | l => .tu l
def endA (T : Tab) (rs : List ResultVar) (s : RS) : Option Out :=
 match resA T s.E s.M rs with
 | some l => some ⟨s.vc, oneA l, s.M, s.tc, s.mv, none⟩
 | none => none
def endL : List Item → Option LS
 | [] => some .ready
 | .code .ret :: _ => some .left
 | _ => none
theorem round_of_goes {l : Nat} {tmps : Array Value} {asg body c2 : Code} {Φ : Value → World → Prop} {k2 : List Item} {s2 : LS} (hk2 : endL k2 = some s2)
  (h : Goes P f [.code asg, .beginRound, .code body] (.arr l [.beginRound, .code c2] fun a1 w1 => ∃ w2, (Instr.beginRound l).run P w1 = .ok () w2 ∧ Goes P f [.code c2] (.arr l k2 fun _ w3 => ∃ v w4, (Instr.endRound l s2.pend).run P w3 = .ok v w4 ∧ Φ v w4) a1 w2) { tmps := tmps, defers := [] } w) :
  RoundIn Fence.wide 0 P l f tmps asg body w fun e w' => ∃ v, e = .returned v ∧ Φ v w' := by
 refine ⟨trivial, fun c cs hr => ?_⟩
 let b : Frame := { (default : Frame) with fn := f, kind := .normal, roundOf := some l }
 have hb0 : Frame.round l f tmps asg body .normal = b.atR { tmps := tmps, defers := [] } [.code asg, .beginRound, .code body] := by simp [Frame.round, Frame.atR, b]
 obtain ⟨a1, w1, ⟨w2, hbr, hg⟩, st⟩ := h b (c :: cs) rfl rfl rfl
 obtain ⟨a2, w3, ⟨v, w4, hend, hΦ⟩, st2⟩ := hg b (c :: cs) rfl rfl rfl
 have s1 : Steps P (lone (b.atR a1 [.beginRound, .code c2]) (c :: cs) w1) (lone (b.atR a1 [.code c2]) (c :: cs) w2) := .one (stepR_beginRound rfl hbr)
 have s3 : Steps P (lone (b.atR a2 k2) (c :: cs) w3) (lone (c.finish v) cs w4) := by
  unfold endL at hk2
  split at hk2
  ·simp only [Option.some.injEq] at hk2; subst hk2; exact .one (stepR_round_end rfl rfl hend)
  ·simp only [Option.some.injEq] at hk2; subst hk2; exact .one (stepR_round_ret rfl rfl hend)
  ·simp at hk2
 rw [hb0]
 exact ⟨.returned v, w4, ⟨v, rfl, hΦ⟩, stepsIn_wide.2 (((st.trans s1).trans st2).trans s3)⟩
theorem run_begin {l : Nat} {r : Loop} (h : w.heap[l]? = some (.loop r)) (hs : r.state = .ready) : (Instr.beginRound l).run P w = .ok () (setB w l (.loop { r with state := .busy })) := by
 unfold Instr.beginRound Instr.getLoop
 simp only [Sem.run_bind, run_getA h rfl, Result.andThen_ok, Sem.run_pure, run_setA h rfl, hs]
def LS.on : LS → Bool
 | .left => false
 | _ => true
theorem run_endR {l : Nat} {r : Loop} {k2 : List Item} {s2 : LS} (hk2 : endL k2 = some s2) (h : w.heap[l]? = some (.loop r)) : (Instr.endRound l s2.pend).run P w = .ok (.bool s2.on) (setB w l (.loop { r with state := s2.state, pending := s2.pend })) := by
 unfold Instr.endRound Instr.getLoop
 simp only [Sem.run_bind, run_getA h rfl, Result.andThen_ok, Sem.run_pure, run_setA h rfl]
 unfold endL at hk2
 split at hk2
 ·simp only [Option.some.injEq] at hk2; subst hk2; rfl
 ·simp only [Option.some.injEq] at hk2; subst hk2; rfl
 ·simp at hk2
def setPs : List (Tmp × Value) → Array Value → Array Value
 | [], tm => tm
 | (t, v) :: r, tm => setPs r (tm.setIfInBounds t v)
theorem setPs_size : ∀ (l : List (Tmp × Value)) (tm : Array Value), (setPs l tm).size = tm.size
 | [], _ => rfl
 | (t, v) :: r, tm => by rw [setPs, setPs_size r]; simp
theorem setPs_other : ∀ (l : List (Tmp × Value)) (tm : Array Value) (t : Nat), t ∉ l.map (·.1) → (setPs l tm).getD t undef = tm.getD t undef
 | [], _, _, _ => rfl
 | (s, v) :: r, tm, t, h => by
  simp only [List.map_cons, List.mem_cons, not_or] at h
  rw [setPs, setPs_other r _ t h.2]
  simp only [Array.getD_eq_getD_getElem?, Array.getElem?_setIfInBounds]
  rw [if_neg (fun e => h.1 e.symm)]
theorem setPs_at : ∀ (l : List (Tmp × Value)) (tm : Array Value) (t : Nat) (v : Value), (l.map (·.1)).Nodup → (∀ x ∈ l, x.1 < tm.size) → (t, v) ∈ l → (setPs l tm).getD t undef = v
 | (s, u) :: r, tm, t, v, hn, hlt, h => by
  simp only [List.map_cons, List.nodup_cons] at hn
  rw [setPs]
  rcases List.mem_cons.1 h with e | h
  ·cases e
   rw [setPs_other r _ _ hn.1]
   have hs := hlt (s, u) (by simp)
   simp only at hs
   simp [Array.getD_eq_getD_getElem?, hs]
  ·exact setPs_at r _ t v hn.2 (fun x hx => by simpa using hlt x (List.mem_cons_of_mem _ hx)) h
def yieldW (P : Program) (T : Tab) (cl : Walker) (n : Nat) (tb : Tbl) (u : Nat) (args : List AV) (M : List Blk) : Option Out :=
 match M[u]? with
 | some (.lp .ready f sz E rf) => bif args.length.beq rf.ps.toList.length && rf.ps.toList.all (·.blt sz) && nodupB rf.ps.toList then
  (match runC P T cl sz tb n [.code rf.asg, .beginRound, .code rf.body] ⟨[], rf.ps.toList.zip args ++ E, M, [], []⟩ with
  | some ([.beginRound, .code c2], s1) => (match s1.M[u]? with
   | some (.lp .ready f2 sz2 E2 rf2) => bif f2.beq f && !(s1.mv.elem u) then (match runC P T cl sz tb n [.code c2] ⟨s1.vc, s1.E, s1.M.set u (.lp .busy f2 sz2 E2 rf2), u :: s1.tc, s1.mv⟩ with
    | some (k2, s2) => (match endL k2, s2.M[u]? with
     | some ls, some (.lp .busy f3 sz3 E3 rf3) => bif !(s2.mv.elem u) then some ⟨s2.vc, .d (.v (.bool ls.on)), s2.M.set u (.lp ls f3 sz3 E3 rf3), u :: s2.tc, s2.mv, none⟩ else none
     | _, _ => none)
    | _ => none) else none
   | _ => none)
  | _ => none) else none
 | _ => none
def walk (P : Program) (T : Tab) : Nat → Walker
 | 0 => fun _ _ _ _ => none
 | d + 1 => fun c args M o => match c, o with
  | .yl u, .into n tb => yieldW P T (walk P T d) n tb u args M
  | .fn f, .into n tb => (bif callable P f then (match P.funcs[f]? with
   | some fn => (bif Nat.ble args.length fn.ntmps then (match fn.body with
    | some c => (match runC P T (walk P T d) fn.ntmps tb n [.code c] ⟨[], argsA args 0, M, [], []⟩ with
     | some (.code .ret :: _, s) => endA T fn.results.toList s
     | some ([], s) => endA T fn.results.toList s
     | _ => none)
    | none => none) else none)
   | none => none) else none)
  | _, _ => none
theorem endA_ok (hT : tabB P T = true) {fn : Func} {s : RS} {out : Out} (h : endA T fn.results.toList s = some out) {b : Base} (r : REb mk D w0 K0 sz b s a w) :
  out.vc = s.vc ∧ out.rd = none ∧ ∃ v, (results fn a.tmps).run P w = .ok v w ∧ ∃ β' F' I', RM D w0 K0 out.M β' F' I' w ∧ ExtB out.mv b.β β' ∧ Grows b.I I' ∧ (∀ u, u < b.m → u ∉ out.tc → F' u = b.F u) ∧ ARel (fun w => K0 w ∧ Holds w I') β' out.av v := by
 unfold endA at h
 split at h
 ·rename_i l hl
  simp only [Option.some.injEq] at h; subst h
  obtain ⟨-, I, -, -, β, F, Rm, hsn, hs⟩ := r
  obtain ⟨ys, e1, e2, e3⟩ := resA_ok hT Rm hs hl
  refine ⟨rfl, rfl, _, res_run rfl e1, β, F, I, Rm, hsn.1, hsn.2.1, hsn.2.2, ?_⟩
  match ys, l, e2, e3 with
  | [], [], _, _ => exact .tu [] rfl (by simp)
  | [y], [v], _, e3 => exact e3 0 v y rfl rfl
  | y :: y' :: ys, v :: v' :: l, e2, e3 => exact .tu _ e2 e3
 ·simp at h
theorem lookA_app_left : ∀ {A E : List (Nat × AV)} {t : Nat} {v : AV}, lookA (A ++ E) t = some v → t ∈ A.map (·.1) → (t, v) ∈ A
 | [], _, _, _, _, h => by simp at h
 | (k, u) :: r, E, t, v, h, hm => by
  rw [List.cons_append] at h
  unfold lookA at h
  cases hk : k.beq t with
  | true => simp only [hk, cond_true, Option.some.injEq] at h; subst h; rw [Nat.eq_of_beq_eq_true hk]; exact List.mem_cons_self
  | false =>
   simp only [hk, cond_false] at h
   refine List.mem_cons_of_mem _ (lookA_app_left h ?_)
   rcases List.mem_cons.1 hm with e | e
   ·exfalso; simp only at e; rw [e] at hk; simp at hk
   ·exact e
theorem mem_zip_of {ps : List Nat} {args : List AV} {ys : List Value} {t : Nat} {v : AV} (h : (t, v) ∈ ps.zip args) (hl : ys.length = args.length) (hr : ∀ (j : Nat) c y, args[j]? = some c → ys[j]? = some y → ARel (fun w => K0 w ∧ Holds w I) β c y) : ∃ y, (t, y) ∈ ps.zip ys ∧ ARel (fun w => K0 w ∧ Holds w I) β v y := by
 obtain ⟨j, hj, e⟩ := List.getElem_of_mem h
 have h1 : (ps.zip args)[j]? = some (t, v) := by rw [List.getElem?_eq_getElem hj, e]
 obtain ⟨a1, a2⟩ := List.getElem?_zip_eq_some.1 h1
 have hlt := (List.getElem?_eq_some_iff.1 a2).1
 have hy : ys[j]? = some ys[j] := List.getElem?_eq_getElem (by omega)
 exact ⟨ys[j], List.mem_of_getElem? (List.getElem?_zip_eq_some.2 ⟨a1, hy⟩), hr j v _ a2 hy⟩
theorem foldl_setPs : ∀ (l : List (Tmp × Value)) (tm : Array Value), l.foldl (fun tmps (x : Tmp × Value) => tmps.setIfInBounds x.1 x.2) tm = setPs l tm
 | [], _ => rfl
 | (t, v) :: r, tm => by rw [List.foldl_cons, foldl_setPs r]; rfl
theorem yieldW_ok (hT : tabB P T = true) (hm : P.follows .mixedOrders = true) (hcl : ClOk P cl) {n : Nat} {tb : Tbl} {u : Nat} {args : List AV} {M : List Blk} {out : Out} (h : yieldW P T cl n tb u args M = some out) : out.rd = none ∧ YieldsA P u args M out := by
 unfold yieldW at h
 split at h
 rotate_left
 ·simp at h
 rename_i f sz E rf hM
 cases hc : (args.length.beq rf.ps.toList.length && rf.ps.toList.all (·.blt sz) && nodupB rf.ps.toList) with
 | false => simp only [hc, cond_false, reduceCtorEq] at h
 | true =>
  simp only [hc, cond_true] at h
  simp only [Bool.and_eq_true] at hc
  obtain ⟨⟨hc1, hc2⟩, hc3⟩ := hc
  have hc1 := Nat.eq_of_beq_eq_true hc1
  split at h
  rotate_left
  ·simp at h
  rename_i c2 s1 hr1
  split at h
  rotate_left
  ·simp at h
  rename_i f2 sz2 E2 rf2 hM1
  cases hf : (f2.beq f && !(s1.mv.elem u)) with
  | false => simp only [hf, cond_false, reduceCtorEq] at h
  | true =>
   simp only [hf, cond_true] at h
   simp only [Bool.and_eq_true, Bool.not_eq_true'] at hf
   obtain ⟨hf2, hmv1⟩ := hf
   obtain rfl := Nat.eq_of_beq_eq_true hf2
   split at h
   rotate_left
   ·simp at h
   rename_i k2 s2 hr2
   split at h
   rotate_left
   ·simp at h
   rename_i ls f3 sz3 E3 rf3 hk2 hM2
   cases hmv2 : (!(s2.mv.elem u)) with
   | false => simp only [hmv2, cond_false, reduceCtorEq] at h
   | true =>
    simp only [hmv2, cond_true, Option.some.injEq] at h; subst h
    refine ⟨rfl, ?_⟩
    intro D w0 K0 β F I w ys l c Rm hK hv hl hrel hβ
    have hv1 : AllP s1.vc := runC_vc n [.code c2] ⟨s1.vc, s1.E, s1.M.set u (.lp .busy f2 sz2 E2 rf2), u :: s1.tc, s1.mv⟩ hr2 hv
    obtain ⟨H, hF, hB, hH⟩ := Rm.at hM
    cases hB with
    | @lp b0 cc f0 sz0 dfr bz E0 rf0 tmps hb hsz hr =>
     rw [hβ] at hb; cases hb
     have hheap := hH.one
     have hlen : rf.ps.size = ys.toArray.size := by
      have e : rf.ps.toList.length = rf.ps.size := Array.length_toList
      have e2 : ys.toArray.size = ys.length := by simp
      omega
     have hy : (Instr.yield l ys.toArray).run P w = .ok (.round l f2 ((rf.ps.zip ys.toArray).foldl (fun tmps (x : Tmp × Value) => tmps.setIfInBounds x.1 x.2) tmps) rf.asg rf.body) w := by
      unfold Instr.yield Instr.getLoop
      simp only [Sem.run_bind, run_getA hheap rfl, Result.andThen_ok, Sem.run_pure]
      rw [if_neg (by simp [hlen])]
      rfl
     refine ⟨f2, _, rf.asg, rf.body, hy, ?_⟩
     have hfold : (rf.ps.zip ys.toArray).foldl (fun tmps (x : Tmp × Value) => tmps.setIfInBounds x.1 x.2) tmps = setPs (rf.ps.toList.zip ys) tmps := by
      rw [← foldl_setPs, ← Array.foldl_toList]; simp
     rw [hfold]
     have hkeys : (rf.ps.toList.zip ys).map (·.1) = rf.ps.toList := List.map_fst_zip (by rw [hl, hc1]; exact Nat.le_refl _)
     have r0 : REb false D w0 K0 sz ⟨β, F, I, M.length⟩ ⟨[], rf.ps.toList.zip args ++ E, M, [], []⟩ { tmps := setPs (rf.ps.toList.zip ys) tmps, defers := [] } w := by
      refine ⟨by rw [setPs_size, hsz], I, rfl, Nat.le_refl _, β, F, Rm, ⟨fun _ _ _ h => h, Grows.refl _, fun _ _ _ => rfl⟩, ?_⟩
      intro t v hv'
      have hmem := lookA_mem hv'
      show ARel _ β v ((setPs (rf.ps.toList.zip ys) tmps).getD t undef)
      by_cases ht : t ∈ rf.ps.toList
      ·have hz : (t, v) ∈ rf.ps.toList.zip args := by
        rcases List.mem_append.1 hmem with h1 | h1
        ·exact h1
        ·exact lookA_app_left hv' (by
          rw [List.map_fst_zip (by omega)]; exact ht)
       obtain ⟨y, hy1, hy2⟩ := mem_zip_of hz hl hrel
       rw [setPs_at _ _ t y (by rw [hkeys]; exact nodupB_ok hc3) (fun x hx => by
        have : x.1 ∈ rf.ps.toList := by rw [← hkeys]; exact List.mem_map_of_mem hx
        have := List.all_eq_true.1 hc2 _ this
        rw [hsz]; simpa [Nat.blt_eq] using this) hy1]
       exact hy2
      ·rcases List.mem_append.1 hmem with h1 | h1
       ·exact absurd (by have := List.mem_map_of_mem (f := fun x : Nat × AV => x.1) h1; rwa [List.map_fst_zip (by omega)] at this) ht
       ·rw [setPs_other _ _ _ (by rw [hkeys]; exact ht)]
        exact hr (t, v) h1
     refine round_of_goes (c2 := c2) hk2 (segb hT hcl hm hK n hr1 r0 hv1 fun a1 w1 r1 => Goes.arrive ?_)
     obtain ⟨z1, I1, z2, z3, β1, F1, Rm1, sn1, hs1⟩ := r1
     obtain ⟨H1, hF1, hB1, hH1⟩ := Rm1.at hM1
     have hβ1 : β1[u]? = some (some ⟨l, 0, none⟩, c) := sn1.1 u _ (by simpa using hmv1) hβ
     cases hB1 with
     | @lp b1 cc1 f1 sz1 dfr1 bz1 E1 rf1 tmps1 hb1 hsz1 hr1' =>
      rw [hβ1] at hb1; cases hb1
      refine ⟨_, run_begin hH1.one rfl, ?_⟩
      have Rm1' := Rm1.set hM1 hF1 (o' := .loop { state := .busy, pending := none, fn := f2, tmps := tmps1, params := rf2.ps, assign := rf2.asg, body := rf2.body, defers := dfr1 }) (blk' := .lp .busy f2 sz2 E2 rf2) (.lp (bz := .busy) (sz := sz2) hβ1 hsz1 hr1')
      have r1' : REb false D w0 K0 sz ⟨β, F, I, M.length⟩ ⟨s1.vc, s1.E, s1.M.set u (.lp .busy f2 sz2 E2 rf2), u :: s1.tc, s1.mv⟩ a1 (setB w1 l (.loop { state := .busy, pending := none, fn := f2, tmps := tmps1, params := rf2.ps, assign := rf2.asg, body := rf2.body, defers := dfr1 })) := by
       refine ⟨z1, I1, z2, by rw [List.length_set]; exact z3, β1, _, Rm1', ⟨sn1.1, sn1.2.1, fun v hv' hn => ?_⟩, hs1⟩
       simp only [List.mem_cons, not_or] at hn
       simp only [updF]; rw [if_neg hn.1]; exact sn1.2.2 v hv' hn.2
      refine segb hT hcl hm hK n hr2 r1' hv fun a2 w2 r2 => Goes.arrive ?_
      obtain ⟨y1, I2, y2, y3, β2, F2, Rm2, sn2, hs2⟩ := r2
      obtain ⟨H2, hF2, hB2, hH2⟩ := Rm2.at hM2
      have hβ2 : β2[u]? = some (some ⟨l, 0, none⟩, c) := sn2.1 u _ (by simpa using hmv2) hβ
      cases hB2 with
      | @lp b2 cc2 f2' sz2' dfr2 bz2 E2' rf2' tmps2 hb2 hsz2 hr2' =>
       rw [hβ2] at hb2; cases hb2
       have Rm2' := Rm2.set hM2 hF2 (o' := .loop { state := ls.state, pending := ls.pend, fn := f3, tmps := tmps2, params := rf3.ps, assign := rf3.asg, body := rf3.body, defers := dfr2 }) (blk' := .lp ls f3 sz3 E3 rf3) (.lp (bz := ls) (sz := sz3) hβ2 hsz2 hr2')
       refine ⟨_, _, run_endR hk2 hH2.one, β2, _, I2, Rm2', sn2.1, sn2.2.1, fun v hv' hn => ?_, .d (.v _)⟩
       simp only [List.mem_cons, not_or] at hn
       simp only [updF]; rw [if_neg hn.1]; exact sn2.2.2 v hv' hn.2
theorem walk_ok (hT : tabB P T = true) (hm : P.follows .mixedOrders = true) : ∀ d, ClOk P (walk P T d) := by
 intro d
 induction d with
 | zero => intro f args M o out h; simp [walk] at h
 | succ d ih =>
  intro f args M o out h
  unfold walk at h
  split at h
  ·exact yieldW_ok hT hm ih h
  ·rename_i f n tb
   cases hc : callable P f with
   | false => simp [hc] at h
   | true =>
    simp only [hc, cond_true] at h
    split at h
    ·rename_i fn hf
     cases hb : Nat.ble args.length fn.ntmps with
     | false => simp [hb] at h
     | true =>
      simp only [hb, cond_true] at h
      have hle := Nat.le_of_ble_eq_true hb
      split at h
      ·rename_i c hbody
       have key : ∀ {todo' : List Item} {s : RS}, runC P T (walk P T d) fn.ntmps tb n [.code c] ⟨[], argsA args 0, M, [], []⟩ = some (todo', s) → endA T fn.results.toList s = some out → (todo' = [] ∨ ∃ k, todo' = .code .ret :: k) → out.rd = none ∧ CallsA P f args M out := by
        intro todo' s hr he htodo
        have hrd : out.rd = none := by
         unfold endA at he
         split at he
         ·simp only [Option.some.injEq] at he; subst he; rfl
         ·simp at he
        refine ⟨hrd, hc, ?_⟩
        intro D w0 K0 β F I w ys Rm hK hv hl hrel
        have hvs : AllP s.vc := by
         unfold endA at he
         split at he
         ·simp only [Option.some.injEq] at he; subst he; exact hv
         ·simp at he
        refine calls_of_goes hf hbody ?_
        have r0 : REb false D w0 K0 fn.ntmps ⟨β, F, I, M.length⟩ ⟨[], argsA args 0, M, [], []⟩ { tmps := ys.toArray ++ Array.replicate (fn.ntmps - ys.toArray.size) undef, defers := [] } w := by
         refine ⟨by simp; omega, I, rfl, Nat.le_refl _, β, F, Rm, ⟨fun _ _ _ h => h, Grows.refl _, fun _ _ _ => rfl⟩, ?_⟩
         intro t v hv'
         obtain ⟨-, h2⟩ := argsA_mem args 0 (t, v) (lookA_mem hv')
         simp only [Nat.sub_zero] at h2
         obtain ⟨hlt, -⟩ := List.getElem?_eq_some_iff.1 h2
         have hys : ys[t]? = some ys[t] := List.getElem?_eq_getElem (by omega)
         have he : ({ tmps := ys.toArray ++ Array.replicate (fn.ntmps - ys.toArray.size) undef, defers := [] } : Act).eval (.tmp t) = ys[t] := by
          have : t < ys.length := by omega
          simp [Act.eval, Array.getD_eq_getD_getElem?, Array.getElem?_append, this]
         rw [he]
         exact hrel t v _ h2 hys
        refine segb hT ih hm hK n hr r0 hvs fun a' w' r' => ?_
        obtain ⟨-, -, v, h3, h4⟩ := endA_ok hT he r'
        rcases htodo with rfl | ⟨k, rfl⟩
        ·exact Goes.fin hf (REb.nodef r') h3 ⟨v, rfl, h4⟩
        ·exact Goes.ret hf (REb.nodef r') h3 ⟨v, rfl, h4⟩
       split at h
       ·rename_i k s hr; exact key hr h (Or.inr ⟨k, rfl⟩)
       ·rename_i s hr; exact key hr h (Or.inl rfl)
       ·simp at h
      ·simp at h
    ·simp at h
  ·simp at h
def Gives (T : Tab) (E : List (Nat × AV)) (M : List Blk) (rs : List ResultVar) (x : DV) : Prop := ∃ l vc xs M', resA T E M rs = some l ∧ pack2L M l = some (vc, xs, M') ∧ AllP vc ∧ oneX xs = x
theorem ret (hT : tabB P T = true) {fn : Func} (hf : P.funcs[f]? = some fn) {k : List Item} {x : DV} (r : RE' [] w0 K0 sz E M a w) (h : Gives T E M fn.results.toList x) : Goes P f (.code .ret :: k) (RetA w0 K0 x) a w :=
 let ⟨_, _, _, _, h1, h2, h3, h4⟩ := h
 back_ret hT hf r h1 h2 h3 h4
theorem fin (hT : tabB P T = true) {fn : Func} (hf : P.funcs[f]? = some fn) {x : DV} (r : RE' [] w0 K0 sz E M a w) (h : Gives T E M fn.results.toList x) : Goes P f [] (RetA w0 K0 x) a w :=
 let ⟨_, _, _, _, h1, h2, h3, h4⟩ := h
 back_fin hT hf r h1 h2 h3 h4
theorem Con.empty {k : Nat} {x : DV} {pre post : List AV} (h : ∀ a c, Con P f (pre ++ .d (.v (.slice a 0 c)) :: post) x) : Con P f (pre ++ .d (.ro k []) :: post) x := by
 refine ⟨(h none 0).1, fun w K ys hK hl hr => ?_⟩
 have hy : ∃ a c, ys[pre.length]? = some (.slice a 0 c) := by
  have hlt : pre.length < ys.length := by rw [hl]; simp
  have h1 := hr pre.length _ _ (by rw [List.getElem?_append_right (Nat.le_refl _), Nat.sub_self]; rfl) (List.getElem?_eq_getElem hlt)
  rw [List.getElem?_eq_getElem hlt]
  generalize ys[pre.length] = y at h1
  cases h1 with | d h1 => cases h1 with | ro X hl hy hs hr => obtain ⟨a, c, rfl, -⟩ := hy; exact ⟨a, c, rfl⟩
 obtain ⟨a, c, hy⟩ := hy
 refine (h a c).2 w K ys hK (by rw [hl]; simp) fun j v y h1 h2 => ?_
 rcases Nat.lt_trichotomy j pre.length with hj | hj | hj
 ·rw [List.getElem?_append_left hj] at h1
  exact hr j v y (by rw [List.getElem?_append_left hj]; exact h1) h2
 ·subst hj
  rw [List.getElem?_append_right (Nat.le_refl _), Nat.sub_self] at h1
  simp only [List.getElem?_cons_zero, Option.some.injEq] at h1; subst h1
  rw [hy, Option.some.injEq] at h2; subst h2
  exact .d (.v _)
 ·rw [List.getElem?_append_right (by omega)] at h1
  have e : j - pre.length = (j - pre.length - 1) + 1 := by omega
  rw [e, List.getElem?_cons_succ] at h1
  exact hr j v y (by rw [List.getElem?_append_right (by omega), e, List.getElem?_cons_succ]; exact h1) h2
theorem Con.nil {args : List AV} (T k : Nat) (h : Con P f args (.v (.slice none 0 0))) : Con P f args (.em T k []) := by
 refine ⟨h.1, fun w K ys hK hl hr => (h.2 w K ys hK hl hr).mono ?_⟩
 rintro e w' ⟨v, rfl, g, H, ⟨Ho, Hi, rfl, hd⟩, n⟩
 cases hd
 refine ⟨_, rfl, g, _, ⟨[], Hi, rfl, ?_⟩, n⟩
 have := DRel.em (K := fun w => K w ∧ Holds w Hi) (T := T) (k := k) (rows := []) (H0 := []) (fun _ => []) (fun _ _ => []) (by simp) (by simpa [lay] using SlRep.nil T k none) (by simp)
 simpa [layF] using this
end Go.Proofs.YtilhbhpldkjkaaaGreat
namespace Go.Proofs.YtilhbhpldkjkaaaGreat
open Go.RowKit
variable {mk : Bool} {P : Program} {T : Tab} {f : FuncId} {R : Tgt} {a : Act} {w : World} {D : List Nat} {w0 : World} {K0 : World → Prop} {E : List (Nat × AV)} {M : List Blk} {β : Beta} {F : Nat → Frag} {I X : Frag} {sz : Nat} {tb : Tbl} {todo todo' : List Item}
def finA (T : Tab) (rs : List ResultVar) (s : RS) : Option (Prop × DV) :=
 match resA T s.E s.M rs with
 | some l => (match pack2L s.M l with | some (vc, xs, _) => some (AllP (s.vc ++ vc), oneX xs) | none => none)
 | none => none
def outRet (P : Program) (T : Tab) (sz : Nat) (rs : List ResultVar) (tb : Tbl) (n : Nat) (todo : List Item) (E : List (Nat × AV)) (M : List Blk) : Option (Prop × DV) :=
 match runC P T (walk P T 3) sz tb n todo ⟨[], E, M, [], []⟩ with
 | some (.code .ret :: _, s) => finA T rs s
 | some ([], s) => finA T rs s
 | _ => none
theorem finA_ok {rs : List ResultVar} {s : RS} {A : Prop} {x : DV} (h : finA T rs s = some (A, x)) (hA : A) : AllP s.vc ∧ Gives T s.E s.M rs x := by
 unfold finA at h
 split at h
 ·rename_i l hl
  split at h
  ·rename_i vc xs M' hp
   simp only [Option.some.injEq, Prod.mk.injEq] at h
   obtain ⟨rfl, hx⟩ := h
   rw [AllP.app] at hA
   exact ⟨hA.1, l, vc, xs, M', hl, hp, hA.2, hx⟩
  ·simp at h
 ·simp at h
theorem toRet (hT : tabB P T = true) (hm : P.follows .mixedOrders = true) (hK : ∀ w, Kp [] w0 w → K0 w) {fn : Func} (hf : P.funcs[f]? = some fn) (tb : Tbl) (n : Nat) {x : DV} {A : Prop} (r : RE' [] w0 K0 sz E M a w)
  (h : outRet P T sz fn.results.toList tb n todo E M = some (A, x)) (hA : A) : Goes P f todo (RetA w0 K0 x) a w := by
 unfold outRet at h
 split at h
 ·rename_i k s hr
  obtain ⟨h1, h2⟩ := finA_ok h hA
  exact seg hT (walk_ok hT hm 3) hm hK n hr r h1 fun a' w' r' => ret hT hf r' h2
 ·rename_i s hr
  obtain ⟨h1, h2⟩ := finA_ok h hA
  exact seg hT (walk_ok hT hm 3) hm hK n hr r h1 fun a' w' r' => fin hT hf r' h2
 ·simp at h
theorem REg.ren (r : REg mk D w0 K0 sz E M a w) {l ts : List Nat} {M' : List Blk} {E' : List (Nat × AV)} (hn : nodupB l = true) (hM : renM l M l = some M') (hE : renE l E ts = some E') : REg mk D w0 K0 sz E' M' a w := by
 obtain ⟨h1, I, h2, β, F, Rm, hs⟩ := r
 obtain ⟨e1, e2⟩ := renM_at hM
 have hlt : ∀ u ∈ l, u < M.length := by
  intro u hu
  obtain ⟨i, hi, rfl⟩ := List.getElem_of_mem hu
  obtain ⟨u', b0, g1, g2, -⟩ := e2 i M'[i] (List.getElem?_eq_getElem (by omega))
  rw [List.getElem?_eq_getElem hi, Option.some.injEq] at g1
  rw [g1]; exact lt_of_some g2
 obtain ⟨rest, hst⟩ := give_all (nodupB_ok hn) hlt Rm.x
 refine ⟨h1, I, h2, renBeta β l, pickF F l, ⟨by rw [renBeta_len, e1], ?_, ?_⟩, renE_ok hs hE⟩
 ·intro i b hb
  obtain ⟨u, b0, g1, g2, g3⟩ := e2 i b hb
  rw [pickF_at g1]; exact renB_ok g1 g3 (Rm.blk u b0 g2)
 ·rw [e1, flat_idx]
  have := hst.app_right
  exact this.perm (by classical rw [List.perm_iff_count]; intro z; simp only [List.count_append, List.count_nil]; omega)
def loopsOf : Code → List Item → List (List Item)
 | .seq x y, k => loopsOf x (.code y :: k) ++ loopsOf y k
 | .cond _ x y, k => loopsOf x k ++ loopsOf y k
 | .block id c, k => loopsOf c (.inBlock id :: k)
 | .loop c, k => (.code c :: .inLoop c :: k) :: loopsOf c (.inLoop c :: k)
 | _, _ => []
def hd (fn : Func) (n : Nat) : List Item :=
 match fn.body with
 | some c => (match (loopsOf c [])[n]? with | some t => t | none => [])
 | none => []
def anewA (l ts : List Nat) (t : List Item) (s : RS) : Option (List Item × Prop × List (Nat × AV) × List Blk) :=
 match renM l s.M l, renE l s.E ts with
 | some M', some E' => some (t, AllP s.vc, E', M')
 | _, _ => none
def outTo (P : Program) (T : Tab) (sz : Nat) (tb : Tbl) (n : Nat) (l ts : List Nat) (todo : List Item) (E : List (Nat × AV)) (M : List Blk) : Option (List Item × Prop × List (Nat × AV) × List Blk) :=
 bif nodupB l then (match runC P T (walk P T 3) sz tb n todo ⟨[], E, M, [], []⟩ with
 | some (.code (.loop c) :: k, s) => anewA l ts (.code c :: .inLoop c :: k) s
 | some (.inLoop c :: k, s) => anewA l ts (.code c :: .inLoop c :: k) s
 | _ => none) else none
theorem anewA_ok {l ts : List Nat} {t t' : List Item} {s : RS} {A : Prop} {E' : List (Nat × AV)} {M' : List Blk} (h : anewA l ts t s = some (t', A, E', M')) : t = t' ∧ AllP s.vc = A ∧ renM l s.M l = some M' ∧ renE l s.E ts = some E' := by
 unfold anewA at h
 split at h
 ·rename_i h1 h2
  simp only [Option.some.injEq, Prod.mk.injEq] at h
  obtain ⟨rfl, hA, rfl, rfl⟩ := h
  exact ⟨rfl, hA, h1, h2⟩
 ·simp at h
theorem toHead (hT : tabB P T = true) (hm : P.follows .mixedOrders = true) (hK : ∀ w, Kp D w0 w → K0 w) (tb : Tbl) (n : Nat) (l ts : List Nat) {A : Prop} {E' : List (Nat × AV)} {M' : List Blk} (r : REg mk D w0 K0 sz E M a w)
  (h : outTo P T sz tb n l ts todo E M = some (todo', A, E', M')) (hA : A) (k : ∀ a' w', REg mk D w0 K0 sz E' M' a' w' → Goes P f todo' R a' w') : Goes P f todo R a w := by
 unfold outTo at h
 cases hn : nodupB l with
 | false => simp [hn] at h
 | true =>
  simp only [hn, cond_true] at h
  split at h
  ·rename_i c k' s hr
   obtain ⟨rfl, rfl, h3, h4⟩ := anewA_ok h
   exact seg hT (walk_ok hT hm 3) hm hK n hr r hA fun a' w' r' => Goes.loop (k a' w' (r'.ren hn h3 h4))
  ·rename_i c k' s hr
   obtain ⟨rfl, rfl, h3, h4⟩ := anewA_ok h
   exact seg hT (walk_ok hT hm 3) hm hK n hr r hA fun a' w' r' => Goes.again (k a' w' (r'.ren hn h3 h4))
  ·simp at h
end Go.Proofs.YtilhbhpldkjkaaaGreat
namespace Go.Proofs.YtilhbhpldkjkaaaGreat
open Go.RowKit
def tb : Tab := [
 (38, ⟨.sr [0, 1] [3, 36], 2, 16, [.int .i64 0, .int .u64 0]⟩),
 (3, ⟨.it .i64, 1, 8, [.int .i64 0]⟩),
 (41, ⟨.sl 38, 1, 24, [.slice none 0 0]⟩),
 (36, ⟨.it .u64, 1, 8, [.int .u64 0]⟩),
 (44, ⟨.sr [0, 3, 4] [40, 41, 42], 5, 72, [.int .u64 0, .int .i64 0, .int .u64 0, .slice none 0 0, .slice none 0 0]⟩),
 (216, ⟨.sr [0, 11] [64, 3], 12, 128, [.int .i64 0, .int .i64 0, .int .u64 0, .int .u64 0, .int .i64 0, .int .u64 0, .int .u64 0, .slice none 0 0, .int .u64 0, .slice none 0 0, .bool false, .int .i64 0]⟩),
 (46, ⟨.sr [0, 1, 3, 5, 6, 7, 12] [3, 38, 38, 36, 30, 44, 41], 13, 168, [.int .i64 0, .int .i64 0, .int .u64 0, .int .i64 0, .int .u64 0, .int .u64 0, .slice none 0 0, .int .u64 0, .int .i64 0, .int .u64 0, .slice none 0 0, .slice none 0 0, .slice none 0 0]⟩),
 (64, ⟨.sr [0, 1, 3, 6, 7, 8, 9, 10] [3, 38, 40, 36, 30, 36, 42, 4], 11, 120, [.int .i64 0, .int .i64 0, .int .u64 0, .int .u64 0, .int .i64 0, .int .u64 0, .int .u64 0, .slice none 0 0, .int .u64 0, .slice none 0 0, .bool false]⟩),
 (67, ⟨.sr [0, 2, 3, 10, 11, 12, 13, 14, 25, 26, 27, 32, 33, 40] [38, 3, 62, 36, 36, 4, 41, 64, 65, 4, 44, 65, 62, 64], 51, 680, [.int .i64 0, .int .u64 0, .int .i64 0, .int .u64 0, .int .i64 0, .int .u64 0, .slice none 0 0, .slice none 0 0, .slice none 0 0, .slice none 0 0, .int .u64 0, .int .u64 0, .bool false, .slice none 0 0, .int .i64 0, .int .i64 0, .int .u64 0, .int .u64 0, .int .i64 0, .int .u64 0, .int .u64 0, .slice none 0 0, .int .u64 0, .slice none 0 0, .bool false, .slice none 0 0, .bool false, .int .u64 0, .int .i64 0, .int .u64 0, .slice none 0 0, .slice none 0 0, .slice none 0 0, .int .u64 0, .int .i64 0, .int .u64 0, .slice none 0 0, .slice none 0 0, .slice none 0 0, .slice none 0 0, .int .i64 0, .int .i64 0, .int .u64 0, .int .u64 0, .int .i64 0, .int .u64 0, .int .u64 0, .slice none 0 0, .int .u64 0, .slice none 0 0, .bool false]⟩),
 (42, ⟨.sl 36, 1, 24, [.slice none 0 0]⟩),
 (35, ⟨.sl 3, 1, 24, [.slice none 0 0]⟩),
 (214, ⟨.sl 216, 1, 24, [.slice none 0 0]⟩),
 (211, ⟨.sr [0, 1] [36, 30], 2, 32, [.int .u64 0, .slice none 0 0]⟩),
 (22, ⟨.sl 46, 1, 24, [.slice none 0 0]⟩),
 (138, ⟨.sr [0, 51] [67, 97], 53, 728, [.int .i64 0, .int .u64 0, .int .i64 0, .int .u64 0, .int .i64 0, .int .u64 0, .slice none 0 0, .slice none 0 0, .slice none 0 0, .slice none 0 0, .int .u64 0, .int .u64 0, .bool false, .slice none 0 0, .int .i64 0, .int .i64 0, .int .u64 0, .int .u64 0, .int .i64 0, .int .u64 0, .int .u64 0, .slice none 0 0, .int .u64 0, .slice none 0 0, .bool false, .slice none 0 0, .bool false, .int .u64 0, .int .i64 0, .int .u64 0, .slice none 0 0, .slice none 0 0, .slice none 0 0, .int .u64 0, .int .i64 0, .int .u64 0, .slice none 0 0, .slice none 0 0, .slice none 0 0, .slice none 0 0, .int .i64 0, .int .i64 0, .int .u64 0, .int .u64 0, .int .i64 0, .int .u64 0, .int .u64 0, .slice none 0 0, .int .u64 0, .slice none 0 0, .bool false, .slice none 0 0, .slice none 0 0]⟩),
 (62, ⟨.sr [0, 5, 6] [44, 60, 42], 7, 120, [.int .u64 0, .int .i64 0, .int .u64 0, .slice none 0 0, .slice none 0 0, .slice none 0 0, .slice none 0 0]⟩),
 (40, ⟨.sr [0, 1] [36, 38], 3, 24, [.int .u64 0, .int .i64 0, .int .u64 0]⟩),
 (187, ⟨.sl 211, 1, 24, [.slice none 0 0]⟩),
 (189, ⟨.sr [0] [187], 1, 24, [.slice none 0 0]⟩),
 (97, ⟨.sr [0, 1] [74, 22], 2, 48, [.slice none 0 0, .slice none 0 0]⟩),
 (5, ⟨.it .u8, 1, 1, [.int .u8 0]⟩),
 (65, ⟨.sl 64, 1, 24, [.slice none 0 0]⟩),
 (30, ⟨.sl 5, 1, 24, [.slice none 0 0]⟩),
 (87, ⟨.sr [0, 1, 2, 7, 8, 9] [4, 4, 44, 3, 36, 3], 10, 104, [.bool false, .bool false, .int .u64 0, .int .i64 0, .int .u64 0, .slice none 0 0, .slice none 0 0, .int .i64 0, .int .u64 0, .int .i64 0]⟩),
 (149, ⟨.sr [0, 2] [38, 64], 13, 136, [.int .i64 0, .int .u64 0, .int .i64 0, .int .i64 0, .int .u64 0, .int .u64 0, .int .i64 0, .int .u64 0, .int .u64 0, .slice none 0 0, .int .u64 0, .slice none 0 0, .bool false]⟩),
 (74, ⟨.sl 149, 1, 24, [.slice none 0 0]⟩),
 (144, ⟨.sr [0, 1, 2] [36, 41, 44], 7, 104, [.int .u64 0, .slice none 0 0, .int .u64 0, .int .i64 0, .int .u64 0, .slice none 0 0, .slice none 0 0]⟩),
 (60, ⟨.sl 189, 1, 24, [.slice none 0 0]⟩),
 (185, ⟨.sr [0] [62], 7, 120, [.int .u64 0, .int .i64 0, .int .u64 0, .slice none 0 0, .slice none 0 0, .slice none 0 0, .slice none 0 0]⟩),
 (196, ⟨.sr [0, 2, 3] [38, 36, 30], 4, 48, [.int .i64 0, .int .u64 0, .int .u64 0, .slice none 0 0]⟩),
 (135, ⟨.pl, 1, 8, [.pointer none]⟩),
 (72, ⟨.sl 144, 1, 24, [.slice none 0 0]⟩),
 (4, ⟨.pl, 1, 1, [.bool false]⟩),
 (82, ⟨.sr [0, 5, 6, 7, 8] [44, 4, 3, 36, 42], 9, 120, [.int .u64 0, .int .i64 0, .int .u64 0, .slice none 0 0, .slice none 0 0, .bool false, .int .i64 0, .int .u64 0, .slice none 0 0]⟩),
 (134, ⟨.sr [0, 2, 5, 6, 7, 10, 11, 12] [38, 40, 22, 3, 40, 41, 41, 4], 13, 152, [.int .i64 0, .int .u64 0, .int .u64 0, .int .i64 0, .int .u64 0, .slice none 0 0, .int .i64 0, .int .u64 0, .int .i64 0, .int .u64 0, .slice none 0 0, .slice none 0 0, .bool false]⟩),
 (265, ⟨.pl, 1, 8, [.pointer none]⟩),
 (32, ⟨.sr [0, 1, 2, 3, 4] [3, 3, 3, 3, 30], 5, 56, [.int .i64 0, .int .i64 0, .int .i64 0, .int .i64 0, .slice none 0 0]⟩),
 (164, ⟨.pl, 1, 8, [.nilFunc]⟩),
 (57, ⟨.pl, 1, 8, [.pointer none]⟩),
 (220, ⟨.pl, 1, 8, [.nilFunc]⟩),
 (261, ⟨.it .u64, 1, 8, [.int .u64 0]⟩),
 (129, ⟨.sr [0, 2, 7] [38, 44, 41], 8, 112, [.int .i64 0, .int .u64 0, .int .u64 0, .int .i64 0, .int .u64 0, .slice none 0 0, .slice none 0 0, .slice none 0 0]⟩),
 (75, ⟨.sl 134, 1, 24, [.slice none 0 0]⟩),
 (234, ⟨.it .u64, 1, 8, [.int .u64 0]⟩),
 (54, ⟨.sr [0, 1, 2, 3] [49, 50, 51, 52], 4, 32, [.map none, .map none, .map none, .map none]⟩),
 (73, ⟨.ar 4 72, 4, 96, [.slice none 0 0, .slice none 0 0, .slice none 0 0, .slice none 0 0]⟩),
 (198, ⟨.sl 196, 1, 24, [.slice none 0 0]⟩),
 (29, ⟨.sl 32, 1, 24, [.slice none 0 0]⟩),
 (49, ⟨.mp 38 80, 1, 8, [.map none]⟩),
 (9, ⟨.st, 1, 16, [.string .empty]⟩),
 (120, ⟨.sl 129, 1, 24, [.slice none 0 0]⟩),
 (69, ⟨.ar 4 36, 4, 32, [.int .u64 0, .int .u64 0, .int .u64 0, .int .u64 0]⟩),
 (80, ⟨.pl, 1, 8, [.pointer none]⟩),
 (122, ⟨.sr [0, 5] [44, 120], 6, 96, [.int .u64 0, .int .i64 0, .int .u64 0, .slice none 0 0, .slice none 0 0, .slice none 0 0]⟩),
 (50, ⟨.mp 111 109, 1, 8, [.map none]⟩),
 (51, ⟨.mp 40 116, 1, 8, [.map none]⟩),
 (52, ⟨.mp 124 42, 1, 8, [.map none]⟩),
 (48, ⟨.pl, 1, 8, [.pointer none]⟩),
 (124, ⟨.sr [0, 3] [40, 40], 6, 48, [.int .u64 0, .int .i64 0, .int .u64 0, .int .u64 0, .int .i64 0, .int .u64 0]⟩),
 (166, ⟨.ar 3 24, 3, 24, [.nilFunc, .nilFunc, .nilFunc]⟩),
 (24, ⟨.pl, 1, 8, [.nilFunc]⟩),
 (109, ⟨.sr [0] [30], 1, 24, [.slice none 0 0]⟩),
 (71, ⟨.ar 4 4, 4, 4, [.bool false, .bool false, .bool false, .bool false]⟩),
 (76, ⟨.ar 4 3, 4, 32, [.int .i64 0, .int .i64 0, .int .i64 0, .int .i64 0]⟩),
 (228, ⟨.pl, 1, 8, [.nilFunc]⟩),
 (253, ⟨.it .u32, 1, 4, [.int .u32 0]⟩),
 (111, ⟨.sr [0, 3, 5] [40, 38, 36], 6, 48, [.int .u64 0, .int .i64 0, .int .u64 0, .int .i64 0, .int .u64 0, .int .u64 0]⟩),
 (70, ⟨.ar 4 41, 4, 96, [.slice none 0 0, .slice none 0 0, .slice none 0 0, .slice none 0 0]⟩),
 (105, ⟨.pl, 1, 8, [.nilFunc]⟩),
 (156, ⟨.pl, 1, 8, [.nilFunc]⟩),
 (116, ⟨.pl, 1, 8, [.pointer none]⟩),
 (205, ⟨.pl, 1, 8, [.nilFunc]⟩),
 (217, ⟨.pl, 1, 8, [.nilFunc]⟩)]
theorem tk : tabB Tryz.prog tb = true := by kernel_rfl
theorem mo : Tryz.prog.follows .mixedOrders = true := by kernel_rfl
end Go.Proofs.YtilhbhpldkjkaaaGreat
namespace Go.Proofs.YtilhbhpldkjkaaaGreat
open Go.RowKit
variable {P : Program}
theorem an {a b : Prop} (h : a) (k : b) : a ∧ b := ⟨h, k⟩
theorem bv {a b : Bool} (h : a = b) : DV.v (.bool a) = .v (.bool b) := by rw [h]
theorem wi {x y : Int} (h : x = y ∧ -9223372036854775808 ≤ y ∧ y < 9223372036854775808) : IntKind.i64.wrap x = y := by
 obtain ⟨rfl, h1, h2⟩ := h; simp [IntKind.wrap, IntKind.signed, IntKind.bits]; omega
theorem wu {x y : Int} (h : x = y ∧ 0 ≤ y ∧ y < 18446744073709551616) : IntKind.u64.wrap x = y := by
 obtain ⟨rfl, h1, h2⟩ := h; simp [IntKind.wrap, IntKind.signed, IntKind.bits]; omega
theorem ne_of_beq_false {a b : Int} (h : (a == b) = false) : a ≠ b := by intro e; subst e; simp at h
theorem eq_of_bne {a b : Int} (h : (a != b) = false) : a = b := by simpa [bne] using h
theorem run_eqInt {t : TypeId} {k : IntKind} {a b : Int} (w : World) (d : Nat) (ht : P.underlying t = some (.int k)) : (Op.equalIn (d + 1) t (.int k a) (.int k b)).run P w = .ok (a == b) w := by
 simp [Op.equalIn, Sem.run_bind, run_underlying ht]
theorem run_eqTwo {d : Nat} {t : TypeId} {f0 f1 : Field} (hu : P.underlying t = some (.struct #[f0, f1])) (hs : P.stoodInHeld t = false) (n0 : f0.name ≠ "_") (n1 : f1.name ≠ "_") {w : World} {xs ys : Array Value} {x0 y0 x1 y1 : Value} {c0 c1 : Bool}
  (p0 : (part f0.type xs f0.offset).run P w = .ok x0 w) (q0 : (part f0.type ys f0.offset).run P w = .ok y0 w) (p1 : (part f1.type xs f1.offset).run P w = .ok x1 w) (q1 : (part f1.type ys f1.offset).run P w = .ok y1 w)
  (e0 : (Op.equalIn d f0.type x0 y0).run P w = .ok c0 w) (e1 : (Op.equalIn d f1.type x1 y1).run P w = .ok c1 w) : (Op.equalIn (d + 1) t (.agg xs) (.agg ys)).run P w = .ok (c0 && c1) w := by
 rw [Op.equalIn]
 simp [Sem.run_bind, run_underlying hu, hs, n0, n1, p0, q0, e0]
 cases c0 <;> simp [Sem.run_bind, p1, q1, e1]
 cases c1 <;> simp
theorem rfD (x : DV) : x = x := rfl
theorem rfN (n : Nat) : n = n := rfl
theorem rfF (n : Nat) : n = n := rfl
theorem rfI (n : Int) : n = n := rfl
end Go.Proofs.YtilhbhpldkjkaaaGreat
namespace Go.Proofs.YtilhbhpldkjkaaaGreat
open Go.RowKit
variable {mk : Bool} {P : Program} {T : Tab} {f : FuncId} {R : Tgt} {a : Act} {w : World} {D : List Nat} {w0 : World} {K0 : World → Prop} {E : List (Nat × AV)} {M : List Blk} {β : Beta} {F : Nat → Frag} {I X : Frag} {sz : Nat} {tb : Tbl} {todo todo' : List Item} {b : Base}
def RBg (mk : Bool) (D : List Nat) (w0 : World) (K0 : World → Prop) (sz : Nat) (b : Base) (E : List (Nat × AV)) (M : List Blk) (a : Act) (w : World) : Prop :=
 b.β.length = b.m ∧ ∃ tc, REb mk D w0 K0 sz b ⟨[], E, M, tc, []⟩ a w
abbrev RB (D : List Nat) (w0 : World) (K0 : World → Prop) (sz : Nat) (b : Base) (E : List (Nat × AV)) (M : List Blk) (a : Act) (w : World) : Prop := RBg false D w0 K0 sz b E M a w
def RetMe (D : List Nat) (w0 : World) (K0 : World → Prop) (b : Base) (x : AV) (M' : List Blk) : Ending → World → Prop :=
 fun e w' => ∃ v, e = .returned v ∧ ∃ β' F' I', RM D w0 K0 M' β' F' I' w' ∧ Ext b.β β' ∧ Grows b.I I' ∧ ARel (fun w => K0 w ∧ Holds w I') β' x v
abbrev RetM (D : List Nat) (w0 : World) (K0 : World → Prop) (b : Base) (x : AV) (M' : List Blk) : Tgt := .ends (RetMe D w0 K0 b x M')
theorem ConM.intro {fn : Func} {c : Code} {args : List AV} {x : AV} {M' : List Blk} (hcall : callable P f = true) (hf : P.funcs[f]? = some fn) (hb : fn.body = some c) (n : Nat) (hn : fn.ntmps = n) (hle : Nat.ble args.length n = true)
  (h : ∀ (D : List Nat) (w0 : World) (K0 : World → Prop) (b : Base) (a : Act) (w : World), (∀ w, Kp D w0 w → K0 w) → b.m = M.length → RB D w0 K0 n b (argsA args 0) M a w → Goes P f [.code c] (RetM D w0 K0 b x M') a w) : ConM P f args M x M' := by
 refine ⟨hcall, ?_⟩
 intro D w0 K0 β F I w ys Rm hK hl hr
 have hle := Nat.le_of_ble_eq_true hle
 refine calls_of_goes hf hb (h D w0 K0 ⟨β, F, I, M.length⟩ _ w hK rfl ⟨Rm.len, [], by simp; omega, I, rfl, Nat.le_refl _, β, F, Rm, ⟨fun _ _ _ h => h, Grows.refl _, fun _ _ _ => rfl⟩, ?_⟩)
 intro t v hv
 obtain ⟨y, rfl, rfl, hy⟩ : ∃ y : Nat × AV, y.1 = t ∧ y.2 = v ∧ y ∈ argsA args 0 := ⟨(t, v), rfl, rfl, lookA_mem hv⟩
 obtain ⟨-, h2⟩ := argsA_mem args 0 y hy
 simp only [Nat.sub_zero] at h2
 obtain ⟨hlt, -⟩ := List.getElem?_eq_some_iff.1 h2
 have hys : ys[y.1]? = some ys[y.1] := List.getElem?_eq_getElem (by omega)
 have he : ({ tmps := ys.toArray ++ Array.replicate (fn.ntmps - ys.toArray.size) undef, defers := [] } : Act).eval (.tmp y.1) = ys[y.1] := by
  have : y.1 < ys.length := by omega
  simp [Act.eval, Array.getD_eq_getD_getElem?, Array.getElem?_append, this]
 rw [he]
 exact hr y.1 y.2 _ h2 hys
def startsB (m : Nat) (l : List Nat) : Bool := (List.range m).all fun i => match l[i]? with | some u => u.beq i | none => false
theorem startsB_at {m : Nat} {l : List Nat} (h : startsB m l = true) {i : Nat} (hi : i < m) : l[i]? = some i := by
 have := List.all_eq_true.1 h i (List.mem_range.2 hi)
 split at this
 ·rename_i u hu; rw [hu, Nat.eq_of_beq_eq_true this]
 ·simp at this
def farB (m : Nat) (mv : List Nat) : Bool := mv.all fun u => Nat.ble m u
theorem farB_at {m : Nat} {mv : List Nat} (h : farB m mv = true) {u : Nat} (hu : u < m) : u ∉ mv := fun hm => by
 have := Nat.le_of_ble_eq_true (List.all_eq_true.1 h u hm); omega
theorem ren_parts {l : List Nat} {M' : List Blk} (hn : nodupB l = true) (hM : renM l M l = some M') (Rm : RM D w0 K0 M β F I w) : RM D w0 K0 M' (renBeta β l) (pickF F l) I w := by
 obtain ⟨e1, e2⟩ := renM_at hM
 have hlt : ∀ u ∈ l, u < M.length := by
  intro u hu
  obtain ⟨i, hi, rfl⟩ := List.getElem_of_mem hu
  obtain ⟨u', b0, g1, g2, -⟩ := e2 i M'[i] (List.getElem?_eq_getElem (by omega))
  rw [List.getElem?_eq_getElem hi, Option.some.injEq] at g1
  rw [g1]; exact lt_of_some g2
 obtain ⟨rest, hst⟩ := give_all (nodupB_ok hn) hlt Rm.x
 refine ⟨by rw [renBeta_len, e1], ?_, ?_⟩
 ·intro i b hb
  obtain ⟨u, b0, g1, g2, g3⟩ := e2 i b hb
  rw [pickF_at g1]; exact renB_ok g1 g3 (Rm.blk u b0 g2)
 ·rw [e1, flat_idx]
  have := hst.app_right
  exact this.perm (by classical rw [List.perm_iff_count]; intro z; simp only [List.count_append, List.count_nil]; omega)
theorem ext_ren {l mv tc : List Nat} (hb : b.β.length = b.m) (hs : startsB b.m l = true) (hf : farB b.m mv = true) (h : Since b mv tc β F I) : Ext b.β (renBeta β l) := by
 intro u x hx
 have hu : u < b.m := by rw [← hb]; exact (List.getElem?_eq_some_iff.1 hx).1
 exact renBeta_at (startsB_at hs hu) (h.1 u x (farB_at hf hu) hx)
theorem REb.ren {s : RS} (hb : b.β.length = b.m) (r : REb mk D w0 K0 sz b s a w) {l ts : List Nat} {M' : List Blk} {E' : List (Nat × AV)} (hn : nodupB l = true) (hs : startsB b.m l = true) (hf : farB b.m s.mv = true) (hM : renM l s.M l = some M') (hE : renE l s.E ts = some E') : RBg mk D w0 K0 sz b E' M' a w := by
 obtain ⟨h1, I, h2, h3, β, F, Rm, hsn, hsl⟩ := r
 refine ⟨hb, List.range b.m, h1, I, h2, ?_, renBeta β l, pickF F l, ren_parts hn hM Rm, ⟨(ext_ren hb hs hf hsn).b _, hsn.2.1, fun u hu hn => absurd (List.mem_range.2 hu) hn⟩, renE_ok hsl hE⟩
 rw [(renM_at hM).1]
 rcases Nat.lt_or_ge l.length b.m with hl | hl
 ·have := startsB_at hs (i := l.length) hl
  rw [List.getElem?_eq_none (Nat.le_refl _)] at this; cases this
 ·exact hl
def outToM (P : Program) (T : Tab) (sz : Nat) (m : Nat) (tb : Tbl) (n : Nat) (l ts : List Nat) (todo : List Item) (E : List (Nat × AV)) (M : List Blk) : Option (List Item × Prop × List (Nat × AV) × List Blk) :=
 bif nodupB l && startsB m l then (match runC P T (walk P T 3) sz tb n todo ⟨[], E, M, [], []⟩ with
 | some (.code (.loop c) :: k, s) => bif farB m s.mv then anewA l ts (.code c :: .inLoop c :: k) s else none
 | some (.inLoop c :: k, s) => bif farB m s.mv then anewA l ts (.code c :: .inLoop c :: k) s else none
 | _ => none) else none
theorem RBg.re (r : RBg mk D w0 K0 sz b E M a w) : ∃ b', REb mk D w0 K0 sz b' ⟨[], E, M, [], []⟩ a w ∧ b'.β.length = b.m ∧ Ext b.β b'.β ∧ Grows b.I b'.I ∧ b'.m = b.m := by
 obtain ⟨hb, tc, h1, I, h2, h3, β, F, Rm, hsn, hsl⟩ := r
 refine ⟨⟨β.take b.m, F, I, b.m⟩, ⟨h1, I, h2, h3, β, F, Rm, ⟨fun u x _ hx => ?_, Grows.refl _, fun _ _ _ => rfl⟩, hsl⟩, ?_, fun u x hx => ?_, hsn.2.1, rfl⟩
 ·rw [List.getElem?_take] at hx
  split at hx
  ·exact hx
  ·simp at hx
 ·rw [List.length_take, Rm.len]; have h3' : b.m ≤ M.length := h3; omega
 ·have hu : u < b.m := by rw [← hb]; exact (List.getElem?_eq_some_iff.1 hx).1
  rw [List.getElem?_take, if_pos hu]
  exact hsn.1 u x (by simp) hx
theorem RBg.from {b' : Base} (hbm : b'.m = b.m) (hb : b.β.length = b.m) (hE : Ext b.β b'.β) (hG : Grows b.I b'.I) (r : RBg mk D w0 K0 sz b' E M a w) : RBg mk D w0 K0 sz b E M a w := by
 obtain ⟨-, tc, h1, I, h2, h3, β, F, Rm, hsn, hsl⟩ := r
 refine ⟨hb, List.range b.m, h1, I, h2, by rw [← hbm]; exact h3, β, F, Rm, ⟨fun u x _ hx => hsn.1 u x (by simp) (hE u x hx), hG.trans hsn.2.1, fun u hu hn => absurd (List.mem_range.2 hu) hn⟩, hsl⟩
theorem toHeadM (hT : tabB P T = true) (hm : P.follows .mixedOrders = true) (hK : ∀ w, Kp D w0 w → K0 w) {m : Nat} (hbm : b.m = m) (tb : Tbl) (n : Nat) (l ts : List Nat) {A : Prop} {E' : List (Nat × AV)} {M' : List Blk} (r : RBg mk D w0 K0 sz b E M a w)
  (h : outToM P T sz m tb n l ts todo E M = some (todo', A, E', M')) (hA : A) (k : ∀ a' w', RBg mk D w0 K0 sz b E' M' a' w' → Goes P f todo' R a' w') : Goes P f todo R a w := by
 subst hbm
 have hb := r.1
 obtain ⟨b', rb, hb', hE, hG, hm'⟩ := r.re
 unfold outToM at h
 cases hn : (nodupB l && startsB b.m l) with
 | false => simp [hn] at h
 | true =>
  simp only [hn, cond_true] at h
  simp only [Bool.and_eq_true] at hn
  have key : ∀ {s : RS} {a' : Act} {w' : World} {M' : List Blk} {E' : List (Nat × AV)}, farB b.m s.mv = true → renM l s.M l = some M' → renE l s.E ts = some E' → REb mk D w0 K0 sz b' s a' w' → RBg mk D w0 K0 sz b E' M' a' w' := fun hf h3 h4 r' =>
   RBg.from hm' hb hE hG (r'.ren (by rw [hb', hm']) hn.1 (by rw [hm']; exact hn.2) (by rw [hm']; exact hf) h3 h4)
  split at h
  ·rename_i c k' s hr
   cases hf : farB b.m s.mv with
   | false => simp [hf] at h
   | true =>
    simp only [hf, cond_true] at h
    obtain ⟨rfl, rfl, h3, h4⟩ := anewA_ok h
    exact segb hT (walk_ok hT hm 3) hm hK n hr rb hA fun a' w' r' => Goes.loop (k a' w' (key hf h3 h4 r'))
  ·rename_i c k' s hr
   cases hf : farB b.m s.mv with
   | false => simp [hf] at h
   | true =>
    simp only [hf, cond_true] at h
    obtain ⟨rfl, rfl, h3, h4⟩ := anewA_ok h
    exact segb hT (walk_ok hT hm 3) hm hK n hr rb hA fun a' w' r' => Goes.again (k a' w' (key hf h3 h4 r'))
  ·simp at h
def finM (T : Tab) (m : Nat) (keep : List Nat) (rs : List ResultVar) (s : RS) : Option (Prop × AV × List Blk) :=
 bif nodupB keep && startsB m keep && farB m s.mv then (match resA T s.E s.M rs with
 | some l => (match renM keep s.M keep, ren3 keep (oneA l) with
  | some M', some x => some (AllP s.vc, x, M')
  | _, _ => none)
 | none => none) else none
def outRetM (P : Program) (T : Tab) (sz : Nat) (m : Nat) (rs : List ResultVar) (tb : Tbl) (n : Nat) (keep : List Nat) (todo : List Item) (E : List (Nat × AV)) (M : List Blk) : Option (Prop × AV × List Blk) :=
 match runC P T (walk P T 3) sz tb n todo ⟨[], E, M, [], []⟩ with
 | some (.code .ret :: _, s) => finM T m keep rs s
 | some ([], s) => finM T m keep rs s
 | _ => none
theorem toRetM (hT : tabB P T = true) (hm : P.follows .mixedOrders = true) (hK : ∀ w, Kp D w0 w → K0 w) {fn : Func} (hf : P.funcs[f]? = some fn) {m : Nat} (hbm : b.m = m) (tb : Tbl) (n : Nat) (keep : List Nat) {x : AV} {M' : List Blk} {A : Prop} (r : RB D w0 K0 sz b E M a w)
  (h : outRetM P T sz m fn.results.toList tb n keep todo E M = some (A, x, M')) (hA : A) : Goes P f todo (RetM D w0 K0 b x M') a w := by
 subst hbm
 have hb := r.1
 obtain ⟨b', rb, hb', hE, hG, hm'⟩ := r.re
 have key : ∀ {s : RS} {a' : Act} {w' : World}, finM T b.m keep fn.results.toList s = some (A, x, M') → REb false D w0 K0 sz b' s a' w' → AllP s.vc = A ∧ ∃ v, (results fn a'.tmps).run P w' = .ok v w' ∧ RetMe D w0 K0 b x M' (.returned v) w' := by
  intro s a' w' hfin r'
  unfold finM at hfin
  cases hc : (nodupB keep && startsB b.m keep && farB b.m s.mv) with
  | false => simp only [hc, cond_false, reduceCtorEq] at hfin
  | true =>
   simp only [hc, cond_true] at hfin
   simp only [Bool.and_eq_true] at hc
   split at hfin
   ·rename_i l hl
    split at hfin
    ·rename_i M1 x1 hM hx
     simp only [Option.some.injEq, Prod.mk.injEq] at hfin
     obtain ⟨hA', rfl, rfl⟩ := hfin
     refine ⟨hA', ?_⟩
     obtain ⟨-, I, -, -, β, F, Rm, hsn, hs⟩ := r'
     obtain ⟨ys, e1, e2, e3⟩ := resA_ok hT Rm hs hl
     refine ⟨_, res_run rfl e1, _, rfl, renBeta β keep, pickF F keep, I, ren_parts hc.1.1 hM Rm, ?_, hG.trans hsn.2.1, ren3_ok hx ?_⟩
     ·have := ext_ren (b := b') (by rw [hb', hm']) (by rw [hm']; exact hc.1.2) (by rw [hm']; exact hc.2) hsn
      exact fun u q hq => this u q (hE u q hq)
     ·match ys, l, e2, e3 with
      | [], [], _, _ => exact .tu [] rfl (by simp)
      | [y], [v], _, e3 => exact e3 0 v y rfl rfl
      | y :: y' :: ys, v :: v' :: l, e2, e3 => exact .tu _ e2 e3
    ·simp at hfin
   ·simp at hfin
 unfold outRetM at h
 have hvc : ∀ {s : RS}, finM T b.m keep fn.results.toList s = some (A, x, M') → AllP s.vc := by
  intro s hfin
  unfold finM at hfin
  cases hc : (nodupB keep && startsB b.m keep && farB b.m s.mv) with
  | false => simp only [hc, cond_false, reduceCtorEq] at hfin
  | true =>
   simp only [hc, cond_true] at hfin
   split at hfin
   ·split at hfin
    ·simp only [Option.some.injEq, Prod.mk.injEq] at hfin
     rw [hfin.1]; exact hA
    ·simp at hfin
   ·simp at hfin
 split at h
 ·rename_i k s hr
  refine segb hT (walk_ok hT hm 3) hm hK n hr rb (hvc h) fun a' w' r' => ?_
  obtain ⟨-, v, h1, h2⟩ := key h r'
  exact Goes.ret hf (REb.nodef r') h1 h2
 ·rename_i s hr
  refine segb hT (walk_ok hT hm 3) hm hK n hr rb (hvc h) fun a' w' r' => ?_
  obtain ⟨-, v, h1, h2⟩ := key h r'
  exact Goes.fin hf (REb.nodef r') h1 h2
 ·simp at h
theorem castM {x y : AV} {N N' : List Blk} {todo : List Item} (e1 : x = y) (e2 : N = N') (h : Goes P f todo (RetM D w0 K0 b y N') a w) : Goes P f todo (RetM D w0 K0 b x N) a w := e1 ▸ e2 ▸ h
end Go.Proofs.YtilhbhpldkjkaaaGreat
namespace Go.Proofs.YtilhbhpldkjkaaaGreat
open Go.RowKit
variable {mk : Bool} {P : Program} {T : Tab} {f : FuncId} {R : Tgt} {a : Act} {w : World} {D : List Nat} {w0 : World} {K0 : World → Prop} {E E1 : List (Nat × AV)} {M M1 M2 : List Blk} {β : Beta} {F : Nat → Frag} {I X : Frag} {sz : Nat} {b : Base}
theorem RM.nil (h : RM D w0 K0 M β F I w) (T k : Nat) : RM D w0 K0 (M ++ [.rw T k []]) (β ++ [(none, 0)]) (updF F M.length []) I w := by
 refine h.new (Gr.refl w) (NewF.nil w w) ?_
 have : BRel (fun w => K0 w ∧ Holds w I) (β ++ [(none, 0)]) M.length (.rw T k []) ([] ++ layF ([] : List (List DV)).length k fun _ _ => []) :=
  .rw (c := 0) (a := none) (by rw [List.getElem?_append_right (by rw [h.len]; exact Nat.le_refl _), h.len]; simp) (fun _ => []) (fun _ _ => []) (by simp) (by simpa [lay] using SlRep.nil T k none) (by simp)
 simpa [layF] using this
theorem RM.cells (h : RM D w0 K0 M β F I w) {u Tb : Nat} {cells cells' : List AV} (hu : M[u]? = some (.bx Tb cells)) (hl : cells'.length = cells.length)
  (hc : ∀ (j : Nat) c c0 y, cells'[j]? = some c → cells[j]? = some c0 → ARel (fun w => K0 w ∧ Holds w I) β c0 y → ARel (fun w => K0 w ∧ Holds w I) β c y) : RM D w0 K0 (M.set u (.bx Tb cells')) β F I w where
 len := by rw [h.len, List.length_set]
 blk := by
  intro v bl hv
  rw [List.getElem?_set] at hv
  split at hv
  ·rename_i hvu; subst hvu
   split at hv
   ·simp only [Option.some.injEq] at hv; subst hv
    have hr := h.blk _ _ hu
    generalize F _ = H at hr ⊢
    cases hr with
    | bx hb ys hl' hr =>
     refine .bx hb ys (by omega) fun j c y h1 h2 => ?_
     have hj : j < cells.length := by rw [← hl]; exact (List.getElem?_eq_some_iff.1 h1).1
     exact hc j c _ y h1 (List.getElem?_eq_getElem hj) (hr j _ y (List.getElem?_eq_getElem hj) h2)
   ·cases hv
  ·exact h.blk v bl hv
 st := by rw [List.length_set]; exact h.st
def repA (E : List (Nat × AV)) (t : Nat) (v : AV) : List (Nat × AV) := E.map fun x => bif x.1.beq t then (x.1, v) else x
theorem repA_at {t : Nat} {v : AV} : ∀ {E : List (Nat × AV)} {s : Nat} {u : AV}, lookA (repA E t v) s = some u → (s = t ∧ u = v ∧ ∃ u0, lookA E t = some u0) ∨ (s ≠ t ∧ lookA E s = some u)
 | [], s, u, h => by simp [repA, lookA] at h
 | (k, x) :: r, s, u, h => by
  have ih := repA_at (t := t) (v := v) (E := r) (s := s) (u := u)
  unfold repA at ih h
  rw [List.map_cons] at h
  cases hk : k.beq t with
  | true =>
   have hkt := Nat.eq_of_beq_eq_true hk; subst hkt
   simp only [Nat.beq_refl, cond_true, lookA] at h ⊢
   cases hs : k.beq s with
   | true =>
    have := Nat.eq_of_beq_eq_true hs; subst this
    rw [hs, cond_true, Option.some.injEq] at h
    exact Or.inl ⟨rfl, h.symm, x, rfl⟩
   | false =>
    rw [hs, cond_false] at h
    rcases ih h with ⟨rfl, -, -⟩ | h2
    ·rw [Nat.beq_refl] at hs; cases hs
    ·exact Or.inr h2
  | false =>
   simp only [hk, cond_false, lookA] at h ⊢
   cases hs : k.beq s with
   | true =>
    have := Nat.eq_of_beq_eq_true hs; subst this
    rw [hs, cond_true] at h
    refine Or.inr ⟨?_, h⟩
    rintro rfl; rw [Nat.beq_refl] at hk; cases hk
   | false =>
    rw [hs, cond_false] at h
    exact ih h
def adS : List (Nat × Nat × Nat) → List (Nat × AV) → List Blk → Option (List (Nat × AV) × List Blk)
 | [], E, M => some (E, M)
 | (t, T, k) :: r, E, M => match lookA E t with
  | some (.d (.v (.slice none 0 0))) => adS r (repA E t (.sl M.length 0)) (M ++ [.rw T k []])
  | _ => none
def adC : List (Nat × Nat × Nat × Nat) → List Blk → Option (List Blk)
 | [], M => some M
 | (u, o, T, k) :: r, M => match M[u]? with
  | some (.bx Tb cells) => (match cells[o]? with
   | some (.d (.v (.slice none 0 0))) => adC r ((M ++ [Blk.rw T k []]).set u (.bx Tb (cells.set o (.sl M.length 0))))
   | _ => none)
  | _ => none
theorem nil_at (h : RM D w0 K0 M β F I w) : (β ++ [((none : Option Addr), 0)])[M.length]? = some (none, 0) := by rw [List.getElem?_append_right (by rw [h.len]; exact Nat.le_refl _), h.len]; simp
theorem adS_ok {ev : Nat → Value} {n : Nat} : ∀ {ls : List (Nat × Nat × Nat)} {E : List (Nat × AV)} {M : List Blk} {β : Beta} {F : Nat → Frag}, adS ls E M = some (E1, M1) → n ≤ M.length → RM D w0 K0 M β F I w → (∀ t v, lookA E t = some v → ARel (fun w => K0 w ∧ Holds w I) β v (ev t)) →
  ∃ β' F', RM D w0 K0 M1 β' F' I w ∧ Ext β β' ∧ (∀ u, u < n → F' u = F u) ∧ n ≤ M1.length ∧ ∀ t v, lookA E1 t = some v → ARel (fun w => K0 w ∧ Holds w I) β' v (ev t)
 | [], E, M, β, F, h, hn, hR, hs => by
  simp only [adS, Option.some.injEq, Prod.mk.injEq] at h; obtain ⟨rfl, rfl⟩ := h
  exact ⟨β, F, hR, fun _ _ h => h, fun _ _ => rfl, hn, hs⟩
 | (t, T, k) :: r, E, M, β, F, h, hn, hR, hs => by
  unfold adS at h
  split at h
  ·rename_i ht
   obtain ⟨β', F', h1, h2, h3, h4, h5⟩ := adS_ok h (n := n) (ev := ev) (by simp; omega) (hR.nil T k) fun s v hv => by
    rcases repA_at hv with ⟨rfl, rfl, -⟩ | ⟨-, h2⟩
    ·have := hs s _ ht
     generalize ev s = y at this
     cases this with | d h => cases h; exact .sl (nil_at hR)
    ·exact (hs s v h2).mono (fun _ h => h) (Ext.app β [((none : Option Addr), 0)])
   exact ⟨β', F', h1, fun u x hx => h2 u x (Ext.app β [((none : Option Addr), 0)] u x hx), fun u hu => (h3 u hu).trans (updF_ne (tc := []) F [] u (by omega) (by simp)), h4, h5⟩
  ·cases h
theorem adC_ok {ev : Nat → Value} {n : Nat} : ∀ {lc : List (Nat × Nat × Nat × Nat)} {M : List Blk} {β : Beta} {F : Nat → Frag}, adC lc M = some M1 → n ≤ M.length → RM D w0 K0 M β F I w → (∀ t v, lookA E t = some v → ARel (fun w => K0 w ∧ Holds w I) β v (ev t)) →
  ∃ β' F', RM D w0 K0 M1 β' F' I w ∧ Ext β β' ∧ (∀ u, u < n → F' u = F u) ∧ n ≤ M1.length ∧ ∀ t v, lookA E t = some v → ARel (fun w => K0 w ∧ Holds w I) β' v (ev t)
 | [], M, β, F, h, hn, hR, hs => by
  simp only [adC, Option.some.injEq] at h; subst h
  exact ⟨β, F, hR, fun _ _ h => h, fun _ _ => rfl, hn, hs⟩
 | (u, o, T, k) :: r, M, β, F, h, hn, hR, hs => by
  unfold adC at h
  split at h
  ·rename_i Tb cells hu
   split at h
   ·rename_i ho
    have hR1 := hR.nil T k
    have hR2 := hR1.cells (cells' := cells.set o (.sl M.length 0)) (by rw [List.getElem?_append_left (List.getElem?_eq_some_iff.1 hu).1]; exact hu) (by simp) fun j c c0 y h1 h2 h3 => by
     rw [List.getElem?_set] at h1
     split at h1
     ·rename_i hj; subst hj
      split at h1
      ·simp only [Option.some.injEq] at h1; subst h1
       rw [ho, Option.some.injEq] at h2; subst h2
       cases h3 with | d h => cases h; exact .sl (nil_at hR)
      ·cases h1
     ·rw [h1, Option.some.injEq] at h2; subst h2; exact h3
    obtain ⟨β', F', h1, h2, h3, h4, h5⟩ := adC_ok h (n := n) (ev := ev) (by simp; omega) hR2 fun s v hv => (hs s v hv).mono (fun _ h => h) (Ext.app β [((none : Option Addr), 0)])
    exact ⟨β', F', h1, fun u x hx => h2 u x (Ext.app β [((none : Option Addr), 0)] u x hx), fun u hu => (h3 u hu).trans (updF_ne (tc := []) F [] u (by omega) (by simp)), h4, h5⟩
   ·cases h
  ·cases h
theorem REg.adopt (r : REg mk D w0 K0 sz E M a w) (ls : List (Nat × Nat × Nat)) (lc : List (Nat × Nat × Nat × Nat)) (h : adS ls E M = some (E1, M1)) (h2 : adC lc M1 = some M2) : REg mk D w0 K0 sz E1 M2 a w := by
 obtain ⟨g1, I, g2, β, F, hR, hs⟩ := r
 obtain ⟨β1, F1, r1, -, -, -, s1⟩ := adS_ok (ev := fun t => a.eval (.tmp t)) (n := 0) h (Nat.zero_le _) hR hs
 obtain ⟨β2, F2, r2, -, -, -, s2⟩ := adC_ok (ev := fun t => a.eval (.tmp t)) (n := 0) h2 (Nat.zero_le _) r1 s1
 exact ⟨g1, I, g2, β2, F2, r2, s2⟩
theorem REg.cast {E' : List (Nat × AV)} {M' : List Blk} (r : REg mk D w0 K0 sz E M a w) (hE : E = E') (hM : M = M') : REg mk D w0 K0 sz E' M' a w := hE ▸ hM ▸ r
theorem RBg.cast {E' : List (Nat × AV)} {M' : List Blk} (r : RBg mk D w0 K0 sz b E M a w) (hE : E = E') (hM : M = M') : RBg mk D w0 K0 sz b E' M' a w := hE ▸ hM ▸ r
end Go.Proofs.YtilhbhpldkjkaaaGreat
namespace Go.Proofs.YtilhbhpldkjkaaaGreat
open Go.RowKit
variable {mk : Bool} {ro : Option Nat} {P : Program} {T : Tab} {cl : Walker} {f : FuncId} {R : Tgt} {a : Act} {w : World} {D : List Nat} {w0 : World} {K0 : World → Prop} {E : List (Nat × AV)} {M : List Blk} {sz : Nat} {tb : Tbl} {todo todo' : List Item} {ops : Array Oper} {Q : Exit → Act → World → Prop}
def lookD (P : Program) (T : Tab) (cl : Walker) (sz : Nat) (ops : Array Oper) (oc : List (Nat × Orc)) (rd : List Nat) (i : Nat) : RS → Option (List Nat × RS)
 | ⟨vc, E, M, tc, mv⟩ => match ops[i]? with
  | some o => (bif dstB sz o.dst then (match wantA sz ops E o.guard with
   | some true => (match step P T cl E M (getO oc i) o.op with
    | some ⟨vc', av, _, _, _, some rd'⟩ => some (rd' ++ rd, ⟨vc ++ vc', putA E o.dst av, M, tc, mv⟩)
    | _ => none)
   | some false => some (rd, ⟨vc, putA E o.dst (.d (.v undef)), M, tc, mv⟩)
   | none => none) else none)
  | none => none
def oneD (P : Program) (T : Tab) (cl : Walker) (sz : Nat) (ops : Array Oper) (oc : List (Nat × Orc)) (rd : List Nat) (i : Nat) : RS → Option RS
 | ⟨vc, E, M, tc, mv⟩ => match ops[i]? with
  | some o => (bif dstB sz o.dst then (match wantA sz ops E o.guard with
   | some true => (match step P T cl E M (getO oc i) o.op with
    | some out => (bif away rd out.tc && Nat.ble M.length out.M.length then some ⟨vc ++ out.vc, putA (keepA out.mv E) o.dst out.av, out.M, out.tc ++ tc, out.mv ++ mv⟩ else none)
    | none => none)
   | some false => some ⟨vc, putA E o.dst (.d (.v undef)), M, tc, mv⟩
   | none => none) else none)
  | none => none
def allJ (g : Nat → Option (List RS)) : List Nat → Option (List RS)
 | [] => some []
 | j :: r => match g j, allJ g r with | some l, some l' => some (l ++ l') | _, _ => none
theorem allJ_at {g : Nat → Option (List RS)} : ∀ {r : List Nat} {l : List RS}, allJ g r = some l → ∀ j ∈ r, ∃ l', g j = some l' ∧ ∀ s ∈ l', s ∈ l
 | [], _, _, j, hj => by cases hj
 | i :: r, l, h, j, hj => by
  unfold allJ at h
  split at h
  ·rename_i l1 l2 h1 h2
   simp only [Option.some.injEq] at h; subst h
   rcases List.mem_cons.1 hj with rfl | hj
   ·exact ⟨l1, h1, fun s hs => List.mem_append_left _ hs⟩
   ·obtain ⟨l', h3, h4⟩ := allJ_at h2 j hj
    exact ⟨l', h3, fun s hs => List.mem_append_right _ (h4 s hs)⟩
  ·cases h
def nxtT (ops : Array Oper) (nl : List Nat) (L : Array Bool) : Nxt := match Region.ready .any ops L with
 | [] => .fin
 | i :: r => match firstPure ops L ((i :: r).filter fun j => !(nl.elem j)) with
  | some j => .look j
  | none => .bad
theorem nxtT_fin {nl : List Nat} {L : Array Bool} (h : nxtT ops nl L = .fin) : Region.ready .any ops L = [] := by
 unfold nxtT at h
 split at h
 ·assumption
 ·split at h <;> cases h
theorem nxtT_look {nl : List Nat} {L : Array Bool} {i : Nat} (h : nxtT ops nl L = .look i) : i ∈ Region.ready .any ops L ∧ ∃ o, ops[i]? = some o ∧ Region.free .any ops L i = true := by
 unfold nxtT at h
 split at h
 ·cases h
 ·rename_i k r hr
  split at h
  ·rename_i j hj
   simp only [Nxt.look.injEq] at h; subst h
   obtain ⟨h1, h2⟩ := firstPure_ok hj
   exact ⟨by rw [hr]; exact (List.mem_filter.1 h1).1, h2⟩
  ·cases h
def runDT (P : Program) (T : Tab) (cl : Walker) (sz : Nat) (ops : Array Oper) (oc : List (Nat × Orc)) (nl : List Nat) : Nat → Array Bool → List Nat → RS → Option (List RS)
 | 0, L, _, s => (match nxtT ops nl L with | .fin => some [s] | _ => none)
 | fuel + 1, L, rd, s => match nxtT ops nl L with
  | .fin => some [s]
  | .look i => (match lookD P T cl sz ops oc rd i s with
   | some (rd', s1) => runDT P T cl sz ops oc nl fuel (L.setIfInBounds i true) rd' s1
   | none => none)
  | _ => allJ (fun j => match oneD P T cl sz ops oc rd j s with
   | some s1 => runDT P T cl sz ops oc nl fuel (L.setIfInBounds j true) rd s1
   | none => none) (Region.ready .any ops L)
theorem lookD_vc {oc : List (Nat × Orc)} {rd rd' : List Nat} {i : Nat} {s s1 : RS} (h : lookD P T cl sz ops oc rd i s = some (rd', s1)) (hv : AllP s1.vc) : AllP s.vc := by
 obtain ⟨vc, E, M, tc, mv⟩ := s
 unfold lookD at h
 dsimp only at h
 split at h
 ·rename_i o ho
  cases hd : dstB sz o.dst with
  | false => simp [hd] at h
  | true =>
   simp only [hd, cond_true] at h
   split at h
   ·split at h
    ·simp only [Option.some.injEq, Prod.mk.injEq] at h; obtain ⟨-, rfl⟩ := h; exact (AllP.app.1 hv).1
    ·cases h
   ·simp only [Option.some.injEq, Prod.mk.injEq] at h; obtain ⟨-, rfl⟩ := h; exact hv
   ·cases h
 ·cases h
theorem oneD_vc {oc : List (Nat × Orc)} {rd : List Nat} {i : Nat} {s s1 : RS} (h : oneD P T cl sz ops oc rd i s = some s1) (hv : AllP s1.vc) : AllP s.vc := by
 obtain ⟨vc, E, M, tc, mv⟩ := s
 unfold oneD at h
 dsimp only at h
 split at h
 ·rename_i o ho
  cases hd : dstB sz o.dst with
  | false => simp [hd] at h
  | true =>
   simp only [hd, cond_true] at h
   split at h
   ·split at h
    ·rename_i out _
     cases hc : (away rd out.tc && Nat.ble M.length out.M.length) with
     | false => simp [hc] at h
     | true => simp only [hc, cond_true, Option.some.injEq] at h; subst h; exact (AllP.app.1 hv).1
    ·cases h
   ·simp only [Option.some.injEq] at h; subst h; exact hv
   ·cases h
 ·cases h
theorem ready_some {nl : List Nat} {L : Array Bool} (h : nxtT ops nl L ≠ .fin) : ∃ j r, Region.ready .any ops L = j :: r := by
 unfold nxtT at h
 cases hr : Region.ready .any ops L with
 | nil => rw [hr] at h; exact absurd rfl h
 | cons j r => exact ⟨j, r, rfl⟩
theorem runDT_vc {oc : List (Nat × Orc)} {nl : List Nat} : ∀ (fuel : Nat) (L : Array Bool) (rd : List Nat) (s : RS) {l : List RS}, runDT P T cl sz ops oc nl fuel L rd s = some l → ∃ s' ∈ l, AllP s'.vc → AllP s.vc := by
 intro fuel
 induction fuel with
 | zero =>
  intro L rd s l h
  unfold runDT at h
  split at h
  ·simp only [Option.some.injEq] at h; subst h; exact ⟨s, by simp, id⟩
  ·cases h
 | succ fuel ih =>
  intro L rd s l h
  unfold runDT at h
  split at h
  ·simp only [Option.some.injEq] at h; subst h; exact ⟨s, by simp, id⟩
  ·split at h
   ·rename_i hl
    obtain ⟨s', h1, h2⟩ := ih _ _ _ h
    exact ⟨s', h1, fun hv => lookD_vc hl (h2 hv)⟩
   ·cases h
  ·rename_i hn _
   obtain ⟨j, r, hr⟩ := ready_some (ops := ops) (nl := nl) (L := L) (by intro hf; exact hn hf)
   obtain ⟨l', h1, h2⟩ := allJ_at h j (by rw [hr]; exact List.mem_cons_self)
   split at h1
   ·rename_i ho
    obtain ⟨s', h3, h4⟩ := ih _ _ _ h1
    exact ⟨s', h2 s' h3, fun hv => oneD_vc ho (h4 hv)⟩
   ·cases h1
theorem runDT_ok (hT : tabB P T = true) (hcl : ClOk P cl) {b : Base} (hK : ∀ w, Kp D w0 w → K0 w) (hsel : Region.noSelect ops = true) (hQ : ∀ d v c a w, Q (.panic c) (Act.put a d v) w → Q (.panic c) a w) {oc : List (Nat × Orc)} {nl : List Nat} :
  ∀ (fuel : Nat) (L : Array Bool) (rd : List Nat) (s : RS) {l : List RS} (Rk : World → Prop) (β : Beta) (F : Nat → Frag) (I : Frag) (a : Act) (w : World), runDT P T cl sz ops oc nl fuel L rd s = some l → a.tmps.size = sz → Mk mk a.defers I → b.m ≤ s.M.length → RM D w0 K0 s.M β F I w → Since b s.mv s.tc β F I →
   (∀ t v, lookA s.E t = some v → ARel (fun w => K0 w ∧ Holds w I) β v (a.eval (.tmp t))) → (∀ u ∈ rd, u < s.M.length) → (∀ w, Sees K0 I F rd w → Rk w) → (∀ s' ∈ l, AllP s'.vc ∧ ∀ a' w', REb mk D w0 K0 sz b s' a' w' → Q .normal a' w') → wpAnyR ro P ops Q Rk fuel L a w := by
 intro fuel
 induction fuel with
 | zero =>
  intro L rd s l Rk β F I a w h size defers hm Rm hsn hs hrd hRk k
  have C : Ctx D w0 K0 s.E s.M β F I a.eval w := ⟨Rm, hs, fun _ => rfl, fun _ => rfl, hK⟩
  have hR := hRk w (C.sees hrd)
  unfold runDT at h
  split at h
  ·rename_i hn
   simp only [Option.some.injEq] at h; subst h
   exact ⟨hR, nxtT_fin hn, (k s (by simp)).2 a w ⟨size, I, defers, hm, β, F, Rm, hsn, hs⟩⟩
  ·cases h
 | succ fuel ih =>
  intro L rd s l Rk β F I a w h size defers hm Rm hsn hs hrd hRk k
  have C : Ctx D w0 K0 s.E s.M β F I a.eval w := ⟨Rm, hs, fun _ => rfl, fun _ => rfl, hK⟩
  have hR := hRk w (C.sees hrd)
  unfold runDT at h
  split at h
  ·rename_i hn
   simp only [Option.some.injEq] at h; subst h
   have hn := nxtT_fin hn
   exact ⟨hR, fun _ => (k s (by simp)).2 a w ⟨size, I, defers, hm, β, F, Rm, hsn, hs⟩, fun i hi => by rw [hn] at hi; cases hi⟩
  ·rename_i i hn
   obtain ⟨hir, o', ho', hfree⟩ := nxtT_look hn
   split at h
   ·rename_i rd1 s1 hl
    obtain ⟨s', hs', hvc⟩ := runDT_vc _ _ _ _ h
    have hv1 := hvc (k s' hs').1
    obtain ⟨vc, E, M, tc, mv⟩ := s
    dsimp only at hm Rm hsn hs hrd hRk C
    unfold lookD at hl
    dsimp only at hl
    split at hl
    ·rename_i o ho
     cases hd : dstB sz o.dst with
     | false => simp [hd] at hl
     | true =>
      simp only [hd, cond_true] at hl
      have hfr := fun j oj hj hne hun hno => Region.free_spec ho hfree j oj hj hne hun hno
      split at hl
      ·rename_i hw
       have hwant := wantA_ok (ops := ops) size hs hw
       split at hl
       ·rename_i vc' av _ _ _ rd' hst
        simp only [Option.some.injEq, Prod.mk.injEq] at hl; obtain ⟨rfl, rfl⟩ := hl
        have hdo := step_ok (P := P) hT hcl (d := o.dst) (ty := o.type) (pos := o.pos) (aft := o.after) (gd := o.guard) hst
        obtain ⟨hpur, rfl, -, hlt⟩ := hdo
        have hout := (AllP.app.1 hv1).2
        obtain ⟨v, hrel, hval⟩ := hpur C hout
        obtain ⟨e1, e2, e3⟩ := RE.put (E := E) size defers hs hd hrel
        have hstep := ih (L.setIfInBounds i true) _ _ (fun w => Rk w ∧ Sees K0 I F rd' w) β F I (a.put o.dst v) w h e1 e2 hm Rm hsn e3 (fun u hu => by rcases List.mem_append.1 hu with e | e; exact hlt u e; exact hrd u e)
         (fun w hw => ⟨hRk w ⟨hw.1, fun u hu => hw.2 u (List.mem_append_right _ hu)⟩, hw.1, fun u hu => hw.2 u (List.mem_append_left _ hu)⟩) k
        exact wpAnyR_weak (fun w hw => hw.1) (wpAnyR_firstG ho (Region.noSelect_spec hsel) (hQ o.dst v) _ L a w hfr hir (Or.inl ⟨hwant, fun w' hw' => hval w' hw'.2⟩) hstep)
       ·cases hl
      ·rename_i hw
       simp only [Option.some.injEq, Prod.mk.injEq] at hl; obtain ⟨rfl, rfl⟩ := hl
       have hwant := wantA_ok (ops := ops) size hs hw
       obtain ⟨e1, e2, e3⟩ := RE.put (E := E) size defers hs hd (.d (.v undef))
       have hstep := ih (L.setIfInBounds i true) _ _ Rk β F I (a.put o.dst undef) w h e1 e2 hm Rm hsn e3 hrd hRk k
       exact wpAnyR_firstG ho (Region.noSelect_spec hsel) (hQ o.dst undef) _ L a w hfr hir (Or.inr ⟨hwant, rfl⟩) hstep
      ·cases hl
    ·cases hl
   ·cases h
  ·rename_i hn _
   obtain ⟨j0, r0, hr0⟩ := ready_some (ops := ops) (nl := nl) (L := L) (by intro hf; exact hn hf)
   refine ⟨hR, fun h0 => (by rw [hr0] at h0; cases h0), fun j hj => ?_⟩
   obtain ⟨l', h1, h2⟩ := allJ_at h j hj
   split at h1
   ·rename_i s1 ho1
    obtain ⟨s', hs', hvc⟩ := runDT_vc _ _ _ _ h1
    have hv1 := hvc (k s' (h2 s' hs')).1
    obtain ⟨vc, E, M, tc, mv⟩ := s
    dsimp only at hm Rm hsn hs hrd hRk C
    unfold oneD at ho1
    dsimp only at ho1
    unfold wpOpIn
    split at ho1
    ·rename_i o ho
     simp only [ho]
     cases hd : dstB sz o.dst with
     | false => simp [hd] at ho1
     | true =>
      simp only [hd, cond_true] at ho1
      split at ho1
      ·rename_i hw
       have hwant := wantA_ok (ops := ops) size hs hw
       simp only [hwant, if_true]
       split at ho1
       ·rename_i out hst
        cases hc : (away rd out.tc && Nat.ble M.length out.M.length) with
        | false => simp [hc] at ho1
        | true =>
         simp only [hc, cond_true, Option.some.injEq] at ho1; subst ho1
         simp only [Bool.and_eq_true] at hc
         have hlen := Nat.le_of_ble_eq_true hc.2
         have hout := (AllP.app.1 hv1).2
         have hdo := (step_ok (P := P) hT hcl (d := o.dst) (ty := o.type) (pos := o.pos) (aft := o.after) (gd := o.guard) hst).eff C hout
         refine OpY.wp hdo ?_
         rintro v w' ⟨β', F', I', R', e, hI, hF, hr'⟩
         have hk := keepA_ok (ρ := a.eval) e hs
         obtain ⟨e1, e2, e3⟩ := RE.put size (defers.grow hI) (fun t v hx => (hk t v hx).mono (fun w hw => ⟨hw.1, hI.holds w hw.2⟩) (Ext.refl _)) hd hr'
         refine ih (L.setIfInBounds j true) _ _ Rk β' F' I' (a.put o.dst v) w' h1 e1 e2 (Nat.le_trans hm hlen) R' (hsn.step hm e hI hF) e3 (fun u hu => Nat.lt_of_lt_of_le (hrd u hu) hlen) (fun w hw => hRk w ⟨⟨hw.1.1, hI.holds w hw.1.2⟩, fun u hu => ?_⟩) fun s' hs' => k s' (h2 s' hs')
         have hnt : u ∉ out.tc := by
          have := List.all_eq_true.1 hc.1 u hu
          simpa using this
         rw [← hF u (hrd u hu) hnt]; exact hw.2 u hu
       ·cases ho1
      ·rename_i hw
       simp only [Option.some.injEq] at ho1; subst ho1
       have hwant := wantA_ok (ops := ops) size hs hw
       simp only [hwant, Bool.false_eq_true, if_false]
       obtain ⟨e1, e2, e3⟩ := RE.put (E := E) size defers hs hd (.d (.v undef))
       exact ⟨fun _ _ => trivial, ih (L.setIfInBounds j true) _ _ Rk β F I (a.put o.dst undef) w h1 e1 e2 hm Rm hsn e3 hrd hRk fun s' hs' => k s' (h2 s' hs')⟩
      ·cases ho1
    ·cases ho1
   ·cases h1
theorem regT (hT : tabB P T = true) (hcl : ClOk P cl) (hm : P.follows .mixedOrders = true) (hK : ∀ w, Kp D w0 w → K0 w) (hQ : ∀ d v c a w, Q (.panic c) (Act.put a d v) w → Q (.panic c) a w) {b : Base} {s : RS} (R : REb mk D w0 K0 sz b s a w) (oc : List (Nat × Orc)) {nl : List Nat} {id : Nat} {l : List RS} (hsel : Region.noSelect ops = true)
  (h : runDT P T cl sz ops oc nl ops.size (Array.replicate ops.size false) [] s = some l) (k : ∀ s' ∈ l, AllP s'.vc ∧ ∀ a' w', REb mk D w0 K0 sz b s' a' w' → Q .normal a' w') : (Code.region id ops true).wpIn (Fl ro) 0 P Q a w := by
 refine wpIn_region_any hm ?_
 obtain ⟨size, I, defers, hb, β, F, Rm, hsn, hs⟩ := R
 have hg := Gr.drew w
 exact (runDT_ok hT hcl hK hsel hQ ops.size _ [] s (fun _ => True) β F I a w.drew h size defers hb (Rm.gr hg) hsn hs (by simp) (fun _ _ => trivial) k).to
def leavesA (ts : List Nat) : List (List Nat) → List RS → Option (List Prop × List (List (Nat × AV) × List Blk))
 | [], [] => some ([], [])
 | l :: ls, s :: r => bif nodupB l then (match renM l s.M l, renE l s.E ts, leavesA ts ls r with
  | some M', some E', some (A, r') => some (AllP s.vc :: A, (E', M') :: r')
  | _, _, _ => none) else none
 | _, _ => none
theorem leavesA_at {ts : List Nat} {E' : List (Nat × AV)} {M' : List Blk} : ∀ {ls : List (List Nat)} {r : List RS} {A : List Prop} {o : List (List (Nat × AV) × List Blk)}, leavesA ts ls r = some (A, o) → (∀ x ∈ o, x = (E', M')) → AllP A → ∀ s ∈ r, AllP s.vc ∧ ∃ l, nodupB l = true ∧ renM l s.M l = some M' ∧ renE l s.E ts = some E'
 | [], [], _, _, _, _, _, s, hs => by cases hs
 | [], _ :: _, _, _, h, _, _, _, _ => by simp [leavesA] at h
 | _ :: _, [], _, _, h, _, _, _, _ => by simp [leavesA] at h
 | l :: ls, s :: r, A, o, h, ho, hA, s', hs' => by
  unfold leavesA at h
  cases hn : nodupB l with
  | false => simp [hn] at h
  | true =>
   simp only [hn, cond_true] at h
   split at h
   ·rename_i M1 E1 A1 r1 h1 h2 h3
    simp only [Option.some.injEq, Prod.mk.injEq] at h; obtain ⟨rfl, rfl⟩ := h
    have e := ho _ List.mem_cons_self
    simp only [Prod.mk.injEq] at e; obtain ⟨rfl, rfl⟩ := e
    rcases List.mem_cons.1 hs' with rfl | hs'
    ·exact ⟨hA.1, l, hn, h1, h2⟩
    ·exact leavesA_at h3 (fun x hx => ho x (List.mem_cons_of_mem _ hx)) hA.2 s' hs'
   ·cases h
def outDraw (P : Program) (T : Tab) (sz : Nat) (tb : Tbl) (n : Nat) (nl : List Nat) (lls : List (List Nat)) (ts : List Nat) (todo : List Item) (E : List (Nat × AV)) (M : List Blk) : Option (List Item × Prop × List (List (Nat × AV) × List Blk)) :=
 match runC P T (walk P T 3) sz tb n todo ⟨[], E, M, [], []⟩ with
 | some (.code (.region id ops true) :: k, s) => bif Region.noSelect ops then (match runDT P T (walk P T 3) sz ops (getT tb id) nl ops.size (Array.replicate ops.size false) [] s with
  | some Ls => (match leavesA ts lls Ls with | some (A, o) => some (k, AllP A, o) | none => none)
  | none => none) else none
 | _ => none
theorem toDraw (hT : tabB P T = true) (hm : P.follows .mixedOrders = true) (hK : ∀ w, Kp D w0 w → K0 w) (tb : Tbl) (n m : Nat) (nl : List Nat) (lls : List (List Nat)) (ts : List Nat) {A : Prop} {E' : List (Nat × AV)} {M' : List Blk} (r : REg mk D w0 K0 sz E M a w)
  (h : outDraw P T sz tb n nl lls ts todo E M = some (todo', A, List.replicate m (E', M'))) (hA : A) (k : ∀ a' w', REg mk D w0 K0 sz E' M' a' w' → Goes P f todo' R a' w') : Goes P f todo R a w := by
 unfold outDraw at h
 split at h
 ·rename_i id ops k0 s hr
  cases hs : Region.noSelect ops with
  | false => simp [hs] at h
  | true =>
   simp only [hs, cond_true] at h
   split at h
   ·rename_i Ls hL
    split at h
    ·rename_i A1 o ho
     simp only [Option.some.injEq, Prod.mk.injEq] at h; obtain ⟨rfl, rfl, rfl⟩ := h
     have hl := leavesA_at ho (fun x hx => List.eq_of_mem_replicate hx) hA
     obtain ⟨s1, h1, h2⟩ := runDT_vc _ _ _ _ hL
     obtain ⟨b, rb⟩ := r.b []
     refine segb hT (walk_ok hT hm 3) hm hK n hr rb (h2 (hl s1 h1).1) fun a1 w1 r1 => Goes.code ?_
     refine regT hT (walk_ok hT hm 3) hm hK (by rintro d v c a w ⟨h, -⟩; cases h) r1 _ hs hL fun s' hs' => ⟨(hl s' hs').1, fun a' w' r' => ⟨rfl, ?_⟩⟩
     obtain ⟨-, l, g1, g2, g3⟩ := hl s' hs'
     exact k a' w' (r'.re.ren g1 g2 g3)
    ·cases h
   ·cases h
 ·cases h
def outAt (P : Program) (T : Tab) (sz : Nat) (tb : Tbl) (n : Nat) (l ts : List Nat) (todo : List Item) (E : List (Nat × AV)) (M : List Blk) : Option (List Item × Prop × List (Nat × AV) × List Blk) :=
 bif nodupB l then (match runC P T (walk P T 3) sz tb n todo ⟨[], E, M, [], []⟩ with
 | some (t, s) => anewA l ts t s
 | none => none) else none
theorem toAt (hT : tabB P T = true) (hm : P.follows .mixedOrders = true) (hK : ∀ w, Kp D w0 w → K0 w) (tb : Tbl) (n : Nat) (l ts : List Nat) {A : Prop} {E' : List (Nat × AV)} {M' : List Blk} (r : REg mk D w0 K0 sz E M a w)
  (h : outAt P T sz tb n l ts todo E M = some (todo', A, E', M')) (hA : A) (k : ∀ a' w', REg mk D w0 K0 sz E' M' a' w' → Goes P f todo' R a' w') : Goes P f todo R a w := by
 unfold outAt at h
 cases hn : nodupB l with
 | false => simp [hn] at h
 | true =>
  simp only [hn, cond_true] at h
  split at h
  ·rename_i t s hr
   unfold anewA at h
   split at h
   ·rename_i M1 E1 hM hE
    simp only [Option.some.injEq, Prod.mk.injEq] at h
    obtain ⟨rfl, rfl, rfl, rfl⟩ := h
    exact seg hT (walk_ok hT hm 3) hm hK n hr r hA fun a' w' r' => k a' w' (r'.ren hn hM hE)
   ·cases h
  ·cases h
def aftR (id : Nat) : Code → List Item → List (List Item)
 | .seq x y, k => aftR id x (.code y :: k) ++ aftR id y k
 | .cond _ x y, k => aftR id x k ++ aftR id y k
 | .block i c, k => aftR id c (.inBlock i :: k)
 | .loop c, k => aftR id c (.inLoop c :: k)
 | .region i _ _, k => bif i.beq id then [k] else []
 | _, _ => []
def aft (fn : Func) (id : Nat) : List Item :=
 match fn.body with
 | some c => (match aftR id c [] with | t :: _ => t | [] => [])
 | none => []
end Go.Proofs.YtilhbhpldkjkaaaGreat
namespace Go.Proofs.YtilhbhpldkjkaaaGreat
open Go.RowKit
variable {mk : Bool} {P : Program} {f : FuncId}
def Le (x x' : DV) : Prop := ∀ (K : World → Prop) (y : Value) (H : Frag), DRel K x y H → DRel K x' y H
theorem Le.refl (x : DV) : Le x x := fun _ _ _ h => h
theorem Le.nilRo (k : Nat) : Le (.v (.slice none 0 0)) (.ro k []) := by
 intro K y H h
 cases h
 exact .ro (fun _ => []) (by simp) ⟨none, 0, rfl, Nat.le_refl _⟩ (fun w _ => by simpa [lay] using (SlRep.nil 0 k none).src (Holds.nil w)) (by simp)
inductive LeL : List DV → List DV → Prop where
 | nil : LeL [] []
 | cons {x x' : DV} {l l' : List DV} (h : Le x x') (t : LeL l l') : LeL (x :: l) (x' :: l')
theorem LeL.ok {l l' : List DV} (h : LeL l l') : l.length = l'.length ∧ ∀ (j : Nat) c c', l[j]? = some c → l'[j]? = some c' → Le c c' := by
 induction h with
 | nil => simp
 | cons h t ih =>
  refine ⟨by simp [ih.1], fun j c c' h1 h2 => ?_⟩
  cases j with
  | zero => simp at h1 h2; subst h1 h2; exact h
  | succ j => exact ih.2 j c c' (by simpa using h1) (by simpa using h2)
end Go.Proofs.YtilhbhpldkjkaaaGreat
namespace Go.Proofs.YtilhbhpldkjkaaaGreat
open Go.RowKit
variable {mk : Bool} {P : Program} {T : Tab} {f : FuncId} {a : Act} {w : World} {D : List Nat} {w0 : World} {K0 : World → Prop} {E E1 : List (Nat × AV)} {M M1 M2 : List Blk} {β : Beta} {F : Nat → Frag} {I X : Frag} {sz : Nat} {b : Base}
def frzM : List Nat → List Blk → Option (List Blk)
 | [], M => some M
 | u :: r, M => match M[u]? with
  | some (.rw T k rows) => frzM r (M.set u (.rw T k (frozR rows)))
  | _ => none
theorem RM.stay1 (R : RM D w0 K0 M β F I w) {v n T k : Nat} {rows : List (List DV)} (hv : M[v]? = some (.rw T k rows)) (hn : n = rows.length) : ∃ F' I', RM D w0 K0 (M.set v .dead) β F' I' w ∧ Grows I I' ∧ ∀ y, ARel (fun w => K0 w ∧ Holds w I) β (.sl v n) y → ARel (fun w => K0 w ∧ Holds w I') β (.d (.ro k (frozR rows))) y := by
 have R1 := R.x.give hv
 rw [List.nil_append] at R1
 have hB := R.blk v _ hv
 refine ⟨updF F v [], F v ++ I, ⟨R1.len, fun u bl hu => (R1.blk u bl hu).mono (fun w hw => ⟨hw.1, (Holds.app.1 hw.2).2⟩) (Ext.refl _), R1.st.perm (List.Perm.append_left _ List.perm_append_comm)⟩, ⟨F v, rfl⟩, fun y r => ?_⟩
 generalize F v = Fv at hB ⊢
 cases r with
 | sl hb =>
  cases hB with
  | rw hb' X G hl hs hr =>
   rw [hb] at hb'; cases hb'
   have hd := DRel.em (K := fun w => K0 w ∧ Holds w I) X G hl hs hr
   have := froz_ok (K' := fun w => K0 w ∧ Holds w (_ ++ I)) hd fun w hw => ⟨⟨hw.1, (Holds.app.1 hw.2).2⟩, (Holds.app.1 hw.2).1⟩
   rw [froz] at this
   rw [hn]
   exact .d this
def stS : List Nat → List (Nat × AV) → List Blk → Option (List Prop × List (Nat × AV) × List Blk)
 | [], E, M => some ([], E, M)
 | t :: r, E, M => match lookA E t with
  | some (.sl v n) => (match M[v]? with
   | some (.rw _ k rows) => (match stS r (repA E t (.d (.ro k (frozR rows)))) (M.set v .dead) with | some (p, E', M') => some ((n = rows.length) :: p, E', M') | none => none)
   | _ => none)
  | _ => none
def stC : List (Nat × Nat) → List Blk → Option (List Prop × List Blk)
 | [], M => some ([], M)
 | (u, o) :: r, M => match M[u]? with
  | some (.bx Tb cells) => (match cells[o]? with
   | some (.sl v n) => (match M[v]? with
    | some (.rw _ k rows) => (match stC r ((M.set v .dead).set u (.bx Tb (cells.set o (.d (.ro k (frozR rows)))))) with | some (p, M') => some ((n = rows.length) :: p, M') | none => none)
    | _ => none)
   | _ => none)
  | _ => none
theorem stS_ok {ev : Nat → Value} : ∀ {ls : List Nat} {E : List (Nat × AV)} {M : List Blk} {F : Nat → Frag} {I : Frag} {p : List Prop}, stS ls E M = some (p, E1, M1) → AllP p → RM D w0 K0 M β F I w → (∀ t v, lookA E t = some v → ARel (fun w => K0 w ∧ Holds w I) β v (ev t)) →
  ∃ F' I', RM D w0 K0 M1 β F' I' w ∧ Grows I I' ∧ ∀ t v, lookA E1 t = some v → ARel (fun w => K0 w ∧ Holds w I') β v (ev t)
 | [], E, M, F, I, p, h, _, R, hs => by
  simp only [stS, Option.some.injEq, Prod.mk.injEq] at h; obtain ⟨-, rfl, rfl⟩ := h
  exact ⟨F, I, R, Grows.refl I, hs⟩
 | t :: r, E, M, F, I, p, h, hp, R, hs => by
  unfold stS at h
  split at h
  ·rename_i v n ht
   split at h
   ·rename_i T k rows hv
    split at h
    ·rename_i p' E' M' hr
     simp only [Option.some.injEq, Prod.mk.injEq] at h; obtain ⟨rfl, e1, e2⟩ := h
     rw [e1, e2] at hr
     obtain ⟨F2, I2, R2, g, hA⟩ := R.stay1 hv hp.1
     suffices h9 : ∀ s x, lookA (repA E t (.d (.ro k (frozR rows)))) s = some x → ARel (fun w => K0 w ∧ Holds w I2) β x (ev s) by
      obtain ⟨F', I', q1, q2, q3⟩ := stS_ok (ev := ev) hr hp.2 R2 h9
      exact ⟨F', I', q1, g.trans q2, q3⟩
     intro s x hx
     rcases repA_at hx with ⟨rfl, rfl, -⟩ | ⟨-, h2⟩
     ·exact hA _ (hs _ _ ht)
     ·exact (hs s x h2).mono (fun w hw => ⟨hw.1, g.holds w hw.2⟩) (Ext.refl _)
    ·cases h
   ·cases h
  ·cases h
theorem stC_ok : ∀ {lc : List (Nat × Nat)} {M : List Blk} {F : Nat → Frag} {I : Frag} {p : List Prop}, stC lc M = some (p, M1) → AllP p → RM D w0 K0 M β F I w → ∃ F' I', RM D w0 K0 M1 β F' I' w ∧ Grows I I'
 | [], M, F, I, p, h, _, R => by
  simp only [stC, Option.some.injEq, Prod.mk.injEq] at h; obtain ⟨-, rfl⟩ := h
  exact ⟨F, I, R, Grows.refl I⟩
 | (u, o) :: r, M, F, I, p, h, hp, R => by
  unfold stC at h
  split at h
  ·rename_i Tb cells hu
   split at h
   ·rename_i v n ho
    split at h
    ·rename_i T k rows hv
     split at h
     ·rename_i p' M' hr
      simp only [Option.some.injEq, Prod.mk.injEq] at h; obtain ⟨rfl, e1⟩ := h
      rw [e1] at hr
      have huv : v ≠ u := fun e => by subst e; rw [hu] at hv; cases hv
      obtain ⟨F2, I2, R2, g, hA⟩ := R.stay1 hv hp.1
      have hB := R.blk u _ hu
      obtain ⟨hlt, -⟩ := List.getElem?_eq_some_iff.1 hu
      have hu2 : (M.set v .dead)[u]? = some (.bx Tb cells) := by rw [List.getElem?_set, if_neg huv]; exact hu
      have hFu := R2.blk u _ hu2
      have hnew : BRel (fun w => K0 w ∧ Holds w I2) β u (.bx Tb (cells.set o (.d (.ro k (frozR rows))))) (F2 u) := by
       have hst : ∀ {G : Frag}, BRel (fun w => K0 w ∧ Holds w I2) β u (.bx Tb cells) G → G = F2 u → BRel (fun w => K0 w ∧ Holds w I) β u (.bx Tb cells) (F u) → F2 u = F u → BRel (fun w => K0 w ∧ Holds w I2) β u (.bx Tb (cells.set o (.d (.ro k (frozR rows))))) (F2 u) := by
        intro G _ _ h3 h4
        rw [h4]
        generalize F u = Fu at h3 ⊢
        cases h3 with
        | bx hb ys hl hr2 =>
         refine .bx hb ys (by rw [List.length_set]; exact hl) fun j c y h1 h2 => ?_
         rw [List.getElem?_set] at h1
         split at h1
         ·rename_i hj; subst hj
          split at h1
          ·simp only [Option.some.injEq] at h1; subst h1
           exact hA _ (hr2 _ _ _ ho h2)
          ·cases h1
         ·exact (hr2 j c y h1 h2).mono (fun w hw => ⟨hw.1, g.holds w hw.2⟩) (Ext.refl _)
       have hF2 : F2 u = F u := by
        generalize hq : F2 u = q at hFu
        generalize hq0 : F u = q0 at hB
        cases hFu with
        | bx hb ys hl hr2 =>
         cases hB with
         | bx hb' ys' hl' hr2' =>
          rw [hb] at hb'; cases hb'
          have h1 : Holds w (F2 u) := R2.holdsF hu2
          have h2 : Holds w (F u) := R.holdsF hu
          rw [hq] at h1; rw [hq0] at h2
          have e1 := h1.one
          have e2 := h2.one
          rw [e1] at e2
          simp only [Option.some.injEq, Obj.cells.injEq] at e2
          rw [e2.1]
       exact hst hFu rfl hB hF2
      have R3 : RM D w0 K0 ((M.set v .dead).set u (.bx Tb (cells.set o (.d (.ro k (frozR rows)))))) β F2 I2 w := by
       refine ⟨by rw [List.length_set]; exact R2.len, fun x bl hx => ?_, by rw [List.length_set]; exact R2.st⟩
       rw [List.getElem?_set] at hx
       split at hx
       ·rename_i e; subst e
        split at hx
        ·simp only [Option.some.injEq] at hx; subst hx; exact hnew
        ·cases hx
       ·exact R2.blk x bl hx
      obtain ⟨F4, I4, R4, g4⟩ := stC_ok hr hp.2 R3
      exact ⟨F4, I4, R4, g.trans g4⟩
     ·cases h
    ·cases h
   ·cases h
  ·cases h
theorem REg.stay {E2 : List (Nat × AV)} {M3 : List Blk} {p1 p2 : List Prop} (r : REg mk D w0 K0 sz E M a w) (ls : List Nat) (lc : List (Nat × Nat)) (h : stS ls E M = some (p1, E1, M1)) (h2 : stC lc M1 = some (p2, M2)) (q1 : AllP p1) (q2 : AllP p2) (e : E1 = E2) (e2 : M2 = M3) : REg mk D w0 K0 sz E2 M3 a w := by
 subst e e2
 obtain ⟨g1, I, g2, β, F, R, hs⟩ := r
 obtain ⟨F1, I1, R1, gI, s1⟩ := stS_ok (ev := fun t => a.eval (.tmp t)) h q1 R hs
 obtain ⟨F2, I2, R2, g⟩ := stC_ok h2 q2 R1
 exact ⟨g1, I2, (g2.grow gI).grow g, β, F2, R2, fun t v hv => (s1 t v hv).mono (fun w hw => ⟨hw.1, g.holds w hw.2⟩) (Ext.refl _)⟩
end Go.Proofs.YtilhbhpldkjkaaaGreat
namespace Go.Proofs.YtilhbhpldkjkaaaGreat
open Go.RowKit Go.Maps
variable {mk : Bool} {P : Program} {T : Tab} {f : FuncId} {R : Tgt} {a : Act} {w : World} {D : List Nat} {w0 : World} {K0 : World → Prop} {E : List (Nat × AV)} {M : List Blk} {sz : Nat} {todo : List Item}
def nextOps (ops : Array Oper) : Option (Nat × Nat × Nat) := match ops with
 | ⟨[⟨some d1, .next (.tmp t) false, _, _, _, none⟩, ⟨some d2, .extract (.tmp d3) 0, _, _, _, none⟩]⟩ => bif d1.beq d3 then some (t, d1, d2) else none
 | _ => none
theorem toNext (hT : tabB P T = true) (hm : P.follows .mixedOrders = true) (hK : ∀ w, Kp D w0 w → K0 w) (n : Nat) {id t d1 d2 ui um since c T' ck : Nat} {seen : List Nat} {es : List (Nat × MK × DV)} {k : List Item} {ops : Array Oper} (r : REg mk D w0 K0 sz E M a w)
  (h : runC P T (walk P T 3) sz [] n todo ⟨[], E, M, [], []⟩ = some (.code (.region id ops false) :: k, ⟨[], E, M, [], []⟩)) (ho : nextOps ops = some (t, d1, d2))
  (hd : (Nat.blt d1 sz && Nat.blt d2 sz && !(Nat.beq d1 d2) && !(Nat.beq d1 t)) = true) (hx : (lookA E d1).isNone = true ∧ (lookA E d2).isNone = true) (he : lookA E t = some (.pt ui 0)) (hi : M[ui]? = some (.it (some um) since seen c)) (hmm : M[um]? = some (.mp T' ck es))
  (h1 : ∀ e ∈ es, e.1 < since) (h2 : since ≤ c)
  (k0 : (∀ e ∈ es, e.1 ∈ seen) → ∀ a' w', REg mk D w0 K0 sz ((d2, .d (.v (.bool false))) :: E) M a' w' → Goes P f k R a' w')
  (k1 : ∀ (j b : Nat) (key : MK) (x : DV), es[j]? = some (b, key, x) → b ∉ seen → ∀ a' w', REg mk D w0 K0 sz ((d2, .d (.v (.bool true))) :: E) (M.set ui (.it (some um) since (seen ++ [b]) ck)) a' w' → Goes P f k R a' w') : Goes P f todo R a w := by
 refine seg hT (walk_ok hT hm 3) hm hK n h r trivial fun a w r => ?_
 clear h
 unfold nextOps at ho
 split at ho
 ·rename_i d1' t' ty1 p1 af1 d2' d3 ty2 p2 af2
  cases hb3 : d1'.beq d3 with
  | false => simp [hb3] at ho
  | true =>
   simp only [hb3, cond_true, Option.some.injEq, Prod.mk.injEq] at ho
   obtain ⟨rfl, rfl, rfl⟩ := ho
   obtain rfl := Nat.eq_of_beq_eq_true hb3
   simp only [Bool.and_eq_true, Bool.not_eq_true', Nat.blt_eq] at hd
   obtain ⟨⟨⟨hd1, hd2⟩, hd3⟩, hd4⟩ := hd
   have ne12 : d1' ≠ d2' := fun e => by subst e; simp at hd3
   obtain ⟨hsz, I, hdef, β, F, Rm, hs⟩ := r
   have hp := hs _ _ he
   generalize hy : a.eval (.tmp t') = y at hp
   cases hp with
   | @pt _ _ bi ci hbi =>
    obtain ⟨H1, hF1, hB1, hH1⟩ := Rm.at hi
    obtain ⟨H2, hF2, hB2, hH2⟩ := Rm.at hmm
    cases hB1 with
    | @it b bm c0 _ _ _ _ hbi' hmb =>
     rw [hbi] at hbi'; cases hbi'
     obtain ⟨c', hbm⟩ := hmb um rfl
     cases hB2 with
     | mp hb' vs G hl hr =>
      rw [hbm] at hb'; cases hb'
      have e1 := hH1.one
      have e2 := hH2.one
      have slots : ∀ (v1 v2 : Value) (c2 : AV) (β' : Beta) (I' : Frag) (K' : World → Prop), (∀ t v, lookA E t = some v → ARel K' β' v (a.eval (.tmp t))) → ARel K' β' c2 v2 →
        (((a.put (some d1') v1).put (some d2') v2).tmps.size = sz ∧ ((a.put (some d1') v1).put (some d2') v2).defers = a.defers ∧ ∀ t v, lookA ((d2', c2) :: E) t = some v → ARel K' β' v (((a.put (some d1') v1).put (some d2') v2).eval (.tmp t))) := by
       intro v1 v2 c2 β' I' K' hh h2'
       refine ⟨by simp [Act.put, hsz], by simp [Act.put], fun t v hv => ?_⟩
       unfold lookA at hv
       cases hk : d2'.beq t with
       | true =>
        simp only [hk, cond_true, Option.some.injEq] at hv; subst hv
        rw [← Nat.eq_of_beq_eq_true hk, eval_put_same _ d2' v2 (by simp [Act.put, hsz]; exact hd2)]; exact h2'
       | false =>
        simp only [hk, cond_false] at hv
        rw [eval_put_other _ d2' t v2 (fun e => by subst e; simp at hk)]
        rw [eval_put_other _ d1' t v1 (fun e => by subst e; rw [hv] at hx; simp at hx)]
        exact hh t v hv
      refine Goes.code (region_seqI ?_)
      show wpL P _ _ [(_, false), (_, false)] a w
      unfold wpL
      simp only [cond_false]
      refine y_nextM hy e1 e2 (fun x hx' => ?_) h2 (fun h0 => ?_) (fun en hen w1 g1 hh1 => ?_)
      ·obtain ⟨j, hj, rfl⟩ := List.getElem_of_mem hx'
       obtain ⟨e, v, a1, a2, a3⟩ := mEs_at (j := j) hl (List.getElem?_eq_getElem (by simpa using hj))
       rw [show (mEs es vs).toArray.toList[j] = (mEs es vs)[j]'(by simpa using hj) from rfl, a3]
       exact h1 e (List.mem_of_getElem? a1)
      ·unfold wpL
       simp only [cond_false]
       refine y_extract (vs := #[.bool false]) (v := .bool false) (by rw [eval_put_same _ d1' _ (by rw [hsz]; exact hd1)]) rfl ?_
       unfold wpL
       refine ⟨rfl, k0 (fun e he' => ?_) _ _ ?_⟩
       ·obtain ⟨j, hj, rfl⟩ := List.getElem_of_mem he'
        have hv : vs[j]? = some vs[j] := List.getElem?_eq_getElem (by omega)
        have hm' := mEs_of (List.getElem?_eq_getElem hj) hv
        unfold leftE at h0
        have := Array.filter_eq_empty_iff.1 (Array.eq_empty_of_size_eq_zero h0) _ (by simpa using List.mem_of_getElem? hm')
        simpa using this
       ·obtain ⟨q1, q2, q3⟩ := slots (.tuple #[.bool false]) (.bool false) (.d (.v (.bool false))) β I _ hs (.d (.v _))
        exact ⟨q1, I, by rw [q2]; exact hdef, β, F, Rm, q3⟩
      ·unfold wpL
       simp only [cond_false]
       refine y_extract (vs := #[.bool true, en.key, en.val]) (v := .bool true) (by rw [eval_put_same _ d1' _ (by rw [hsz]; exact hd1)]) rfl ?_
       unfold wpL
       unfold leftE at hen
       simp only [Array.toList_filter, List.mem_filter] at hen
       obtain ⟨hen1, hen2⟩ := hen
       obtain ⟨j, hj, rfl⟩ := List.getElem_of_mem hen1
       obtain ⟨e, v, a1, a2, a3⟩ := mEs_at (j := j) hl (List.getElem?_eq_getElem (by simpa using hj))
       have hborn : (mEs es vs).toArray.toList[j].born = e.1 := by rw [show (mEs es vs).toArray.toList[j] = (mEs es vs)[j]'(by simpa using hj) from rfl, a3]
       rw [hborn] at hen2 ⊢
       refine ⟨rfl, k1 j e.1 e.2.1 e.2.2 (by rw [a1]) (by simpa using hen2) _ _ ?_⟩
       have R1 := Rm.gr g1
       have R2 := R1.set hi hF1 (o' := .mapIter (some bm) since (seen.toArray.push e.1) ck) (blk' := .it (some um) since (seen ++ [e.1]) ck) (by
        have := BRel.it (K := fun w => K0 w ∧ Holds w I) (u := ui) (b := bi) (bm := bm) (since := since) (ck := ck) (um := some um) (seen := seen ++ [e.1]) hbi (fun v hv => by cases hv; exact ⟨_, hbm⟩)
        rw [show (seen ++ [e.1]).toArray = seen.toArray.push e.1 by simp] at this
        exact this)
       obtain ⟨q1, q2, q3⟩ := slots (.tuple #[.bool true, (mEs es vs).toArray.toList[j].key, (mEs es vs).toArray.toList[j].val]) (.bool true) (.d (.v (.bool true))) β I _ hs (.d (.v _))
       exact ⟨q1, I, by rw [q2]; exact hdef, β, _, R2, q3⟩
 ·simp at ho
theorem toNextM (hT : tabB P T = true) (hm : P.follows .mixedOrders = true) (hK : ∀ w, Kp D w0 w → K0 w) (n : Nat) {id t d1 d2 ui um since c T' ck : Nat} {seen : List Nat} {es : List (Nat × MK × DV)} {k : List Item} {ops : Array Oper} {bs : Base} (r : RBg mk D w0 K0 sz bs E M a w)
  (h : runC P T (walk P T 3) sz [] n todo ⟨[], E, M, [], []⟩ = some (.code (.region id ops false) :: k, ⟨[], E, M, [], []⟩)) (ho : nextOps ops = some (t, d1, d2))
  (hd : (Nat.blt d1 sz && Nat.blt d2 sz && !(Nat.beq d1 d2) && !(Nat.beq d1 t)) = true) (hx : (lookA E d1).isNone = true ∧ (lookA E d2).isNone = true) (he : lookA E t = some (.pt ui 0)) (hi : M[ui]? = some (.it (some um) since seen c)) (hmm : M[um]? = some (.mp T' ck es))
  (h1 : ∀ e ∈ es, e.1 < since) (h2 : since ≤ c)
  (k0 : (∀ e ∈ es, e.1 ∈ seen) → ∀ a' w', RBg mk D w0 K0 sz bs ((d2, .d (.v (.bool false))) :: E) M a' w' → Goes P f k R a' w')
  (k1 : ∀ (j b : Nat) (key : MK) (x : DV), es[j]? = some (b, key, x) → b ∉ seen → ∀ a' w', RBg mk D w0 K0 sz bs ((d2, .d (.v (.bool true))) :: E) (M.set ui (.it (some um) since (seen ++ [b]) ck)) a' w' → Goes P f k R a' w') : Goes P f todo R a w := by
 have hbs := r.1
 obtain ⟨b', rb, hb', hE, hG, hm'⟩ := r.re
 refine segb hT (walk_ok hT hm 3) hm hK n h rb trivial fun a w rb => ?_
 have r : RBg mk D w0 K0 sz bs E M a w := RBg.from hm' hbs hE hG ⟨by rw [hb', hm'], [], rb⟩
 clear h rb
 unfold nextOps at ho
 split at ho
 ·rename_i d1' t' ty1 p1 af1 d2' d3 ty2 p2 af2
  cases hb3 : d1'.beq d3 with
  | false => simp [hb3] at ho
  | true =>
   simp only [hb3, cond_true, Option.some.injEq, Prod.mk.injEq] at ho
   obtain ⟨rfl, rfl, rfl⟩ := ho
   obtain rfl := Nat.eq_of_beq_eq_true hb3
   simp only [Bool.and_eq_true, Bool.not_eq_true', Nat.blt_eq] at hd
   obtain ⟨⟨⟨hd1, hd2⟩, hd3⟩, hd4⟩ := hd
   have ne12 : d1' ≠ d2' := fun e => by subst e; simp at hd3
   obtain ⟨hb0, tc, hsz, I, hdef, hlen, β, F, Rm, hsn, hs⟩ := r
   dsimp only at Rm hs hlen hsn
   have hsince : ∀ {F' : Nat → Frag}, Since bs [] (List.range bs.m) β F' I := fun {F'} => ⟨hsn.1, hsn.2.1, fun u hu hn => absurd (List.mem_range.2 hu) hn⟩
   have hp := hs _ _ he
   generalize hy : a.eval (.tmp t') = y at hp
   cases hp with
   | @pt _ _ bi ci hbi =>
    obtain ⟨H1, hF1, hB1, hH1⟩ := Rm.at hi
    obtain ⟨H2, hF2, hB2, hH2⟩ := Rm.at hmm
    cases hB1 with
    | @it b bm c0 _ _ _ _ hbi' hmb =>
     rw [hbi] at hbi'; cases hbi'
     obtain ⟨c', hbm⟩ := hmb um rfl
     cases hB2 with
     | mp hb' vs G hl hr =>
      rw [hbm] at hb'; cases hb'
      have e1 := hH1.one
      have e2 := hH2.one
      have slots : ∀ (v1 v2 : Value) (c2 : AV) (β' : Beta) (I' : Frag) (K' : World → Prop), (∀ t v, lookA E t = some v → ARel K' β' v (a.eval (.tmp t))) → ARel K' β' c2 v2 →
        (((a.put (some d1') v1).put (some d2') v2).tmps.size = sz ∧ ((a.put (some d1') v1).put (some d2') v2).defers = a.defers ∧ ∀ t v, lookA ((d2', c2) :: E) t = some v → ARel K' β' v (((a.put (some d1') v1).put (some d2') v2).eval (.tmp t))) := by
       intro v1 v2 c2 β' I' K' hh h2'
       refine ⟨by simp [Act.put, hsz], by simp [Act.put], fun t v hv => ?_⟩
       unfold lookA at hv
       cases hk : d2'.beq t with
       | true =>
        simp only [hk, cond_true, Option.some.injEq] at hv; subst hv
        rw [← Nat.eq_of_beq_eq_true hk, eval_put_same _ d2' v2 (by simp [Act.put, hsz]; exact hd2)]; exact h2'
       | false =>
        simp only [hk, cond_false] at hv
        rw [eval_put_other _ d2' t v2 (fun e => by subst e; simp at hk)]
        rw [eval_put_other _ d1' t v1 (fun e => by subst e; rw [hv] at hx; simp at hx)]
        exact hh t v hv
      refine Goes.code (region_seqI ?_)
      show wpL P _ _ [(_, false), (_, false)] a w
      unfold wpL
      simp only [cond_false]
      refine y_nextM hy e1 e2 (fun x hx' => ?_) h2 (fun h0 => ?_) (fun en hen w1 g1 hh1 => ?_)
      ·obtain ⟨j, hj, rfl⟩ := List.getElem_of_mem hx'
       obtain ⟨e, v, a1, a2, a3⟩ := mEs_at (j := j) hl (List.getElem?_eq_getElem (by simpa using hj))
       rw [show (mEs es vs).toArray.toList[j] = (mEs es vs)[j]'(by simpa using hj) from rfl, a3]
       exact h1 e (List.mem_of_getElem? a1)
      ·unfold wpL
       simp only [cond_false]
       refine y_extract (vs := #[.bool false]) (v := .bool false) (by rw [eval_put_same _ d1' _ (by rw [hsz]; exact hd1)]) rfl ?_
       unfold wpL
       refine ⟨rfl, k0 (fun e he' => ?_) _ _ ?_⟩
       ·obtain ⟨j, hj, rfl⟩ := List.getElem_of_mem he'
        have hv : vs[j]? = some vs[j] := List.getElem?_eq_getElem (by omega)
        have hm' := mEs_of (List.getElem?_eq_getElem hj) hv
        unfold leftE at h0
        have := Array.filter_eq_empty_iff.1 (Array.eq_empty_of_size_eq_zero h0) _ (by simpa using List.mem_of_getElem? hm')
        simpa using this
       ·obtain ⟨q1, q2, q3⟩ := slots (.tuple #[.bool false]) (.bool false) (.d (.v (.bool false))) β I _ hs (.d (.v _))
        exact ⟨hb0, List.range bs.m, q1, I, by rw [q2]; exact hdef, hlen, β, F, Rm, hsince, q3⟩
      ·unfold wpL
       simp only [cond_false]
       refine y_extract (vs := #[.bool true, en.key, en.val]) (v := .bool true) (by rw [eval_put_same _ d1' _ (by rw [hsz]; exact hd1)]) rfl ?_
       unfold wpL
       unfold leftE at hen
       simp only [Array.toList_filter, List.mem_filter] at hen
       obtain ⟨hen1, hen2⟩ := hen
       obtain ⟨j, hj, rfl⟩ := List.getElem_of_mem hen1
       obtain ⟨e, v, a1, a2, a3⟩ := mEs_at (j := j) hl (List.getElem?_eq_getElem (by simpa using hj))
       have hborn : (mEs es vs).toArray.toList[j].born = e.1 := by rw [show (mEs es vs).toArray.toList[j] = (mEs es vs)[j]'(by simpa using hj) from rfl, a3]
       rw [hborn] at hen2 ⊢
       refine ⟨rfl, k1 j e.1 e.2.1 e.2.2 (by rw [a1]) (by simpa using hen2) _ _ ?_⟩
       have R1 := Rm.gr g1
       have R2 := R1.set hi hF1 (o' := .mapIter (some bm) since (seen.toArray.push e.1) ck) (blk' := .it (some um) since (seen ++ [e.1]) ck) (by
        have := BRel.it (K := fun w => K0 w ∧ Holds w I) (u := ui) (b := bi) (bm := bm) (since := since) (ck := ck) (um := some um) (seen := seen ++ [e.1]) hbi (fun v hv => by cases hv; exact ⟨_, hbm⟩)
        rw [show (seen ++ [e.1]).toArray = seen.toArray.push e.1 by simp] at this
        exact this)
       obtain ⟨q1, q2, q3⟩ := slots (.tuple #[.bool true, (mEs es vs).toArray.toList[j].key, (mEs es vs).toArray.toList[j].val]) (.bool true) (.d (.v (.bool true))) β I _ hs (.d (.v _))
       exact ⟨hb0, List.range bs.m, q1, I, by rw [q2]; exact hdef, by dsimp only; rw [List.length_set]; exact hlen, β, _, R2, hsince, q3⟩
 ·simp at ho
end Go.Proofs.YtilhbhpldkjkaaaGreat
namespace Go.Proofs.YtilhbhpldkjkaaaGreat
open Go.RowKit
variable {mk : Bool} {P : Program} {T : Tab} {f : FuncId} {R : Tgt} {a : Act} {w : World} {D : List Nat} {w0 : World} {K0 : World → Prop} {E : List (Nat × AV)} {M M2 : List Blk} {β : Beta} {F : Nat → Frag} {I H : Frag} {sz : Nat} {tb : Tbl} {todo todo' : List Item}
theorem REg.word (r : REg mk D w0 K0 sz E M a w) (u : Nat) {b b' : Blk} (hM : M[u]? = some b) (h : ∀ (K : World → Prop) (β : Beta) (H : Frag), BRel K β u b H → BRel K β u b' H) : REg mk D w0 K0 sz E (M.set u b') a w := by
 obtain ⟨h1, I, h2, β, F, Rm, hs⟩ := r
 refine ⟨h1, I, h2, β, F, ⟨by rw [List.length_set]; exact Rm.len, fun v c hv => ?_, by rw [List.length_set]; exact Rm.st⟩, hs⟩
 rw [List.getElem?_set] at hv
 split at hv
 ·rename_i e
  subst e
  split at hv
  ·simp only [Option.some.injEq] at hv; subst hv; exact h _ _ _ (Rm.blk u b hM)
  ·simp at hv
 ·exact Rm.blk v c hv
inductive LeR : List (List DV) → List (List DV) → Prop where
 | nil : LeR [] []
 | cons {x x' : List DV} {l l' : List (List DV)} (h : LeL x x') (t : LeR l l') : LeR (x :: l) (x' :: l')
theorem LeR.ok {l l' : List (List DV)} (h : LeR l l') : l.length = l'.length ∧ ∀ (i : Nat) r r', l[i]? = some r → l'[i]? = some r' → LeL r r' := by
 induction h with
 | nil => simp
 | cons h t ih =>
  refine ⟨by simp [ih.1], fun i r r' h1 h2 => ?_⟩
  cases i with
  | zero => simp at h1 h2; subst h1 h2; exact h
  | succ i => exact ih.2 i r r' (by simpa using h1) (by simpa using h2)
theorem REg.less (r : REg mk D w0 K0 sz E M a w) (u : Nat) {Tm k : Nat} {rows rows' : List (List DV)} (hM : M[u]? = some (.rw Tm k rows)) (h : LeR rows rows') : REg mk D w0 K0 sz E (M.set u (.rw Tm k rows')) a w :=
 r.word u hM fun K β H hb => by
  cases hb with
  | rw hb X G hl hs hr =>
   obtain ⟨e1, e2⟩ := h.ok
   rw [e1] at hs ⊢
   have key : ∀ (i : Nat) r', rows'[i]? = some r' → ∃ r, rows[i]? = some r ∧ r.length = r'.length ∧ ∀ (j : Nat) c c', r[j]? = some c → r'[j]? = some c' → Le c c' := fun i r' hi => by
    have hlt : i < rows.length := by rw [e1]; exact (List.getElem?_eq_some_iff.1 hi).1
    have e := List.getElem?_eq_getElem hlt
    exact ⟨_, e, (e2 i _ r' e hi).ok⟩
   refine .rw hb X G (fun i r' hi => ?_) hs fun i r' j c x hi h1 h2 => ?_
   ·obtain ⟨r, g1, g2, -⟩ := key i r' hi
    have := hl i r g1; omega
   ·obtain ⟨r, g1, g2, g3⟩ := key i r' hi
    have hj : j < r.length := by rw [g2]; exact (List.getElem?_eq_some_iff.1 h1).1
    have e := List.getElem?_eq_getElem hj
    exact g3 j _ c e h1 K x _ (hr i r j _ x g1 e h2)
def rngs : Code → List Item → List (RF × List Item)
 | .seq x y, k => rngs x (.code y :: k) ++ rngs y k
 | .cond _ x y, k => rngs x k ++ rngs y k
 | .block i c, k => rngs c (.inBlock i :: k)
 | .loop c, k => rngs c (.inLoop c :: k)
 | .rangeFunc _ ps asg body, k => [(⟨ps, asg, body⟩, k)]
 | _, _ => []
def rfn (fn : Func) (n : Nat) : RF := match fn.body with | some c => (match (rngs c [])[n]? with | some x => x.1 | none => ⟨#[], .skip, .skip⟩) | none => ⟨#[], .skip, .skip⟩
def opsR (id : Nat) : Code → List (Array Oper)
 | .seq x y => opsR id x ++ opsR id y
 | .cond _ x y => opsR id x ++ opsR id y
 | .block _ c => opsR id c
 | .loop c => opsR id c
 | .region i ops _ => bif i.beq id then [ops] else []
 | _ => []
def ops (fn : Func) (id : Nat) : Array Oper := match fn.body with | some c => (match opsR id c with | o :: _ => o | [] => #[]) | none => #[]
end Go.Proofs.YtilhbhpldkjkaaaGreat
namespace Go.Proofs.YtilhbhpldkjkaaaGreat
open Go.RowKit
variable {mk : Bool} {P : Program} {T : Tab} {f : FuncId} {R : Tgt} {a : Act} {w : World} {D : List Nat} {w0 : World} {K0 : World → Prop} {E : List (Nat × AV)} {M : List Blk} {sz : Nat} {todo todo' : List Item} {b : Base}
def fitM (m : Nat) : List (List Nat) → List RS → Bool
 | [], [] => true
 | l :: ls, s :: r => startsB m l && farB m s.mv && fitM m ls r
 | _, _ => false
theorem leavesM_at {m : Nat} {ts : List Nat} {E' : List (Nat × AV)} {M' : List Blk} : ∀ {ls : List (List Nat)} {r : List RS} {A : List Prop} {o : List (List (Nat × AV) × List Blk)}, leavesA ts ls r = some (A, o) → fitM m ls r = true → (∀ x ∈ o, x = (E', M')) → AllP A → ∀ s ∈ r, AllP s.vc ∧ ∃ l, nodupB l = true ∧ startsB m l = true ∧ farB m s.mv = true ∧ renM l s.M l = some M' ∧ renE l s.E ts = some E'
 | [], [], _, _, _, _, _, _, s, hs => by cases hs
 | [], _ :: _, _, _, h, _, _, _, _, _ => by simp [leavesA] at h
 | _ :: _, [], _, _, h, _, _, _, _, _ => by simp [leavesA] at h
 | l :: ls, s :: r, A, o, h, hf, ho, hA, s', hs' => by
  unfold leavesA at h
  simp only [fitM, Bool.and_eq_true] at hf
  cases hn : nodupB l with
  | false => simp [hn] at h
  | true =>
   simp only [hn, cond_true] at h
   split at h
   ·rename_i M1 E1 A1 r1 h1 h2 h3
    simp only [Option.some.injEq, Prod.mk.injEq] at h; obtain ⟨rfl, rfl⟩ := h
    have e := ho _ List.mem_cons_self
    simp only [Prod.mk.injEq] at e; obtain ⟨rfl, rfl⟩ := e
    rcases List.mem_cons.1 hs' with rfl | hs'
    ·exact ⟨hA.1, l, hn, hf.1.1, hf.1.2, h1, h2⟩
    ·exact leavesM_at h3 hf.2 (fun x hx => ho x (List.mem_cons_of_mem _ hx)) hA.2 s' hs'
   ·cases h
def outDrawM (P : Program) (T : Tab) (sz mm : Nat) (tb : Tbl) (n : Nat) (nl : List Nat) (lls : List (List Nat)) (ts : List Nat) (todo : List Item) (E : List (Nat × AV)) (M : List Blk) : Option (List Item × Prop × List (List (Nat × AV) × List Blk)) :=
 match runC P T (walk P T 3) sz tb n todo ⟨[], E, M, [], []⟩ with
 | some (.code (.region id ops true) :: k, s) => bif Region.noSelect ops then (match runDT P T (walk P T 3) sz ops (getT tb id) nl ops.size (Array.replicate ops.size false) [] s with
  | some Ls => bif fitM mm lls Ls then (match leavesA ts lls Ls with | some (A, o) => some (k, AllP A, o) | none => none) else none
  | none => none) else none
 | _ => none
theorem RBg.key (r : RBg mk D w0 K0 sz b E M a w) : ∃ b', REb mk D w0 K0 sz b' ⟨[], E, M, [], []⟩ a w ∧ ∀ {s : RS} {a' : Act} {w' : World} {M' : List Blk} {E' : List (Nat × AV)} {l ts : List Nat}, nodupB l = true → startsB b.m l = true → farB b.m s.mv = true → renM l s.M l = some M' → renE l s.E ts = some E' → REb mk D w0 K0 sz b' s a' w' → RBg mk D w0 K0 sz b E' M' a' w' := by
 have hb := r.1
 obtain ⟨b', rb, hb', hE, hG, hm'⟩ := r.re
 exact ⟨b', rb, fun hn hs hf h3 h4 r' => RBg.from hm' hb hE hG (r'.ren (by rw [hb', hm']) hn (by rw [hm']; exact hs) (by rw [hm']; exact hf) h3 h4)⟩
theorem toDrawM (hT : tabB P T = true) (hm : P.follows .mixedOrders = true) (hK : ∀ w, Kp D w0 w → K0 w) {mm : Nat} (hbm : b.m = mm) (tb : Tbl) (n m : Nat) (nl : List Nat) (lls : List (List Nat)) (ts : List Nat) {A : Prop} {E' : List (Nat × AV)} {M' : List Blk} (r : RBg mk D w0 K0 sz b E M a w)
  (h : outDrawM P T sz mm tb n nl lls ts todo E M = some (todo', A, List.replicate m (E', M'))) (hA : A) (k : ∀ a' w', RBg mk D w0 K0 sz b E' M' a' w' → Goes P f todo' R a' w') : Goes P f todo R a w := by
 subst hbm
 obtain ⟨b', rb, key⟩ := r.key
 unfold outDrawM at h
 split at h
 ·rename_i id ops k0 s hr
  cases hs : Region.noSelect ops with
  | false => simp [hs] at h
  | true =>
   simp only [hs, cond_true] at h
   split at h
   ·rename_i Ls hL
    cases hfit : fitM b.m lls Ls with
    | false => simp [hfit] at h
    | true =>
    simp only [hfit, cond_true] at h
    split at h
    ·rename_i A1 o ho
     simp only [Option.some.injEq, Prod.mk.injEq] at h; obtain ⟨rfl, rfl, rfl⟩ := h
     have hl := leavesM_at ho hfit (fun x hx => List.eq_of_mem_replicate hx) hA
     obtain ⟨s1, h1, h2⟩ := runDT_vc _ _ _ _ hL
     refine segb hT (walk_ok hT hm 3) hm hK n hr rb (h2 (hl s1 h1).1) fun a1 w1 r1 => Goes.code ?_
     refine regT hT (walk_ok hT hm 3) hm hK (by rintro d v c a w ⟨h, -⟩; cases h) r1 _ hs hL fun s' hs' => ⟨(hl s' hs').1, fun a' w' r' => ⟨rfl, ?_⟩⟩
     obtain ⟨-, l, g1, g2, g3, g4, g5⟩ := hl s' hs'
     exact k a' w' (key g1 g2 g3 g4 g5 r')
    ·cases h
   ·cases h
 ·cases h
def outAtM (P : Program) (T : Tab) (sz m : Nat) (tb : Tbl) (n : Nat) (l ts : List Nat) (todo : List Item) (E : List (Nat × AV)) (M : List Blk) : Option (List Item × Prop × List (Nat × AV) × List Blk) :=
 bif nodupB l && startsB m l then (match runC P T (walk P T 3) sz tb n todo ⟨[], E, M, [], []⟩ with
 | some (t, s) => bif farB m s.mv then anewA l ts t s else none
 | none => none) else none
theorem toAtM (hT : tabB P T = true) (hm : P.follows .mixedOrders = true) (hK : ∀ w, Kp D w0 w → K0 w) {m : Nat} (hbm : b.m = m) (tb : Tbl) (n : Nat) (l ts : List Nat) {A : Prop} {E' : List (Nat × AV)} {M' : List Blk} (r : RBg mk D w0 K0 sz b E M a w)
  (h : outAtM P T sz m tb n l ts todo E M = some (todo', A, E', M')) (hA : A) (k : ∀ a' w', RBg mk D w0 K0 sz b E' M' a' w' → Goes P f todo' R a' w') : Goes P f todo R a w := by
 subst hbm
 obtain ⟨b', rb, key⟩ := r.key
 unfold outAtM at h
 cases hn : (nodupB l && startsB b.m l) with
 | false => simp [hn] at h
 | true =>
  simp only [hn, cond_true] at h
  simp only [Bool.and_eq_true] at hn
  split at h
  ·rename_i t s hr
   cases hf : farB b.m s.mv with
   | false => simp [hf] at h
   | true =>
    simp only [hf, cond_true] at h
    obtain ⟨rfl, rfl, hM, hE⟩ := anewA_ok h
    exact segb hT (walk_ok hT hm 3) hm hK n hr rb hA fun a' w' r' => k a' w' (key hn.1 hn.2 hf hM hE r')
  ·cases h
end Go.Proofs.YtilhbhpldkjkaaaGreat
namespace Go.Proofs.YtilhbhpldkjkaaaGreat
open Go.RowKit
variable {mk : Bool} {P : Program} {T : Tab} {a : Act} {w : World} {D : List Nat} {w0 : World} {K0 : World → Prop} {E E1 E2 : List (Nat × AV)} {M M1 M2 M3 : List Blk} {β : Beta} {F : Nat → Frag} {I X : Frag} {sz : Nat} {b : Base}
theorem RBg.via {ι : Type} {N : ι → List Blk} (r : RBg mk D w0 K0 sz b E M a w) (h : ∀ β F I, RM D w0 K0 M β F I w → ∃ x β' F' I', RM D w0 K0 (N x) β' F' I' w ∧ Ext β β' ∧ Grows I I' ∧ M.length ≤ (N x).length) : ∃ x, RBg mk D w0 K0 sz b E (N x) a w := by
 obtain ⟨hb, tc, h1, I, h2, h3, β, F, R, hsn, hs⟩ := r
 obtain ⟨x, β', F', I', R', e, g, hl⟩ := h β F I R
 exact ⟨x, hb, List.range b.m, h1, I', h2.grow g, Nat.le_trans h3 hl, β', F', R', ⟨fun u x hu hx => e u x (hsn.1 u x hu hx), hsn.2.1.trans g, fun u hu hn => absurd (List.mem_range.2 hu) hn⟩, fun t v hv => (hs t v hv).mono (fun w hw => ⟨hw.1, g.holds w hw.2⟩) e⟩
theorem RM.name (R : RM D w0 K0 M β F I w) {u T : Nat} {cells : List AV} (hM : M[u]? = some (.bx T cells)) : ∃ x β' F' I', RM D w0 K0 (M ++ [Blk.nm u x]) β' F' I' w ∧ Ext β β' ∧ Grows I I' ∧ M.length ≤ (M ++ [Blk.nm u x]).length := by
 have hB := R.blk u _ hM
 generalize F u = G at hB
 cases hB with
 | @bx bb c _ _ hb ys hl hr =>
  exact ⟨bb, β ++ [(none, 0)], _, I, R.new (Gr.refl w) (NewF.nil w w) (.nm (Ext.app _ _ _ _ hb)), Ext.app _ _, Grows.refl _, by simp⟩
theorem RBg.name (r : RBg mk D w0 K0 sz b E M a w) {u T : Nat} {cells : List AV} (hM : M[u]? = some (.bx T cells)) : ∃ x, RBg mk D w0 K0 sz b E (M ++ [.nm u x]) a w := r.via fun _ _ _ R => R.name hM
theorem flat_put {G : Nat → Frag} {n j : Nat} (hj : j < n) (X : Frag) : ((List.range n).flatMap (updF G j X) ++ G j).Perm ((List.range n).flatMap G ++ X) := by
 rw [range_split hj G, range_split hj (updF G j X)]
 have c1 : (List.range j).flatMap (updF G j X) = (List.range j).flatMap G := flat_ext fun a ha => by have := List.mem_range.1 ha; simp [updF]; omega
 have c2 : (List.range' (j + 1) (n - (j + 1))).flatMap (updF G j X) = (List.range' (j + 1) (n - (j + 1))).flatMap G := flat_ext fun a ha => by have := (List.mem_range'_1.1 ha).1; simp [updF]; omega
 have hu' : updF G j X j = X := by simp [updF]
 rw [c1, c2, hu']
 classical
 rw [List.perm_iff_count]; intro z
 simp only [List.count_append]; omega
def ptrV (x : Nat) : DV := .v (.pointer (some ⟨x, 0, none⟩))
def setE (es : List (Nat × MK × DV)) (j : Nat) (x : DV) : List (Nat × MK × DV) := es.modify j fun e => (e.1, e.2.1, x)
def openB (T : Nat) (cells : List DV) (x : Nat) (M : List Blk) : List Blk := (unpL M cells).2 ++ [.bx T (unpL M cells).1, .nm (unpL M cells).2.length x]
theorem unpL_len (l : List DV) : ∀ M : List Blk, M.length ≤ (unpL M l).2.length := by
 induction l with
 | nil => intro M; simp [unpL]
 | cons c r ih =>
  intro M
  simp only [unpL]
  refine Nat.le_trans ?_ (ih _)
  unfold unp1; split <;> simp
theorem mod_same {es : List (Nat × MK × DV)} {vs : List Value} {j : Nat} {b0 : Nat} {k : MK} {x : DV} (hj : es[j]? = some (b0, k, x)) (x' : DV) : mEs (es.modify j fun e => (e.1, e.2.1, x')) vs = mEs es vs := by
 apply List.ext_getElem?
 intro i
 rw [mEs_get, mEs_get, List.getElem?_modify]
 by_cases e : j = i
 ·subst e; rw [hj]; simp only [if_true, Option.map_eq_map, Option.map_some]; cases vs[j]? <;> rfl
 ·simp only [if_neg e]; cases es[i]? <;> simp
theorem RMx.box {Y : Frag} (R : RMx D w0 K0 M β F I (X ++ Y) w) {T : Nat} {cells : List DV} {y : Value} (hf : cells.all flat1 = true) (h : DRel (fun w => K0 w ∧ Holds w I) (.pb T cells) y X) :
  ∃ x β' F', y = .pointer (some ⟨x, 0, none⟩) ∧ RMx D w0 K0 (openB T cells x M) β' F' I Y w ∧ Ext β β' ∧ M.length ≤ (openB T cells x M).length := by
 cases h with
 | @pb _ x _ ys G hl hr =>
  have R1 : RMx D w0 K0 M β F I ((List.range cells.length).flatMap G ++ ([(x, .cells ys.toArray T (0, 0))] ++ Y)) w := R.perm (by
   classical
   rw [List.perm_iff_count]; intro z
   simp only [List.count_append, List.count_cons, List.count_nil]; omega)
  obtain ⟨β2, F2, R2, e2, -, l2, n2, a2⟩ := unpL_ok hf R1 (DRelL.of hl hr)
  have hq : (β2 ++ [(some ⟨x, 0, none⟩, 0)])[(unpL M cells).2.length]? = some (some ⟨x, 0, none⟩, 0) := by rw [← R2.len]; simp
  have R3 := R2.take (.bx hq ys n2 fun j c y h1 h2 => (a2 j c y h1 h2).mono (fun _ h => h) (Ext.app _ _))
  have R4 : RMx D w0 K0 ((unpL M cells).2 ++ [.bx T (unpL M cells).1] ++ [.nm (unpL M cells).2.length x]) _ _ I Y w := RMx.take (X := []) (q := (none, 0)) R3 (.nm (Ext.app _ _ _ _ hq))
  rw [List.append_assoc] at R4
  refine ⟨x, _, _, rfl, R4, fun u z hz => Ext.app _ _ _ _ (Ext.app _ _ _ _ (e2 u z hz)), ?_⟩
  have := unpL_len cells M
  simp only [openB, List.length_append, List.length_cons, List.length_nil]; omega
theorem RM.openM (R : RM D w0 K0 M β F I w) {u Tm ck j b0 T : Nat} {k : MK} {es : List (Nat × MK × DV)} {cells : List DV} (hM : M[u]? = some (.mp Tm ck es)) (he : es[j]? = some (b0, k, .pb T cells)) (hf : cells.all flat1 = true) :
  ∃ x β' F' I', RM D w0 K0 (openB T cells x (M.set u (.mp Tm ck (setE es j (ptrV x))))) β' F' I' w ∧ Ext β β' ∧ Grows I I' ∧ M.length ≤ (openB T cells x (M.set u (.mp Tm ck (setE es j (ptrV x))))).length := by
 have hB := R.blk u _ hM
 have hlt := lt_of_some hM
 have R1 := R.x.give hM
 generalize hFu : F u = Fu at hB R1
 cases hB with
 | @mp bm c _ _ _ hb vs G hl hr =>
  obtain ⟨hj, -⟩ := List.getElem?_eq_some_iff.1 he
  have hvj : vs[j]? = some vs[j] := List.getElem?_eq_getElem (by omega)
  have hd := hr j _ _ he hvj
  have hput := flat_put (G := G) hj []
  rw [List.append_nil] at hput
  obtain ⟨x, hx⟩ : ∃ x, vs[j] = .pointer (some ⟨x, 0, none⟩) := by
   generalize vs[j] = y at hd
   generalize G j = H at hd
   cases hd with | pb => exact ⟨_, rfl⟩
  have hnew : BRel (fun w => K0 w ∧ Holds w I) β u (.mp Tm ck (setE es j (ptrV x))) ([(bm, .map (mEs es vs).toArray ck)] ++ (List.range es.length).flatMap (updF G j [])) := by
   have := BRel.mp (K := fun w => K0 w ∧ Holds w I) (T := Tm) (ck := ck) (es := setE es j (ptrV x)) hb vs (updF G j []) (by simp [setE, hl]) (fun i e y h1 h2 => by
    unfold setE at h1
    rw [List.getElem?_modify] at h1
    simp only [updF]
    by_cases hi : j = i
    ·subst hi
     rw [he] at h1; simp at h1; subst h1
     rw [hvj] at h2; cases h2
     rw [if_pos rfl, hx]; exact .v _
    ·simp only [if_neg hi] at h1
     rw [if_neg (fun e => hi e.symm)]
     cases hei : es[i]? with
     | none => rw [hei] at h1; simp at h1
     | some e0 => rw [hei] at h1; simp at h1; subst h1; exact hr i _ y hei h2)
   unfold setE at this ⊢
   rw [List.length_modify, mod_same he] at this
   exact this
  have R2 := R1.perm (Y := ([(bm, .map (mEs es vs).toArray ck)] ++ (List.range es.length).flatMap (updF G j [])) ++ (G j ++ [])) (by
   classical
   have hc := List.perm_iff_count.1 hput
   rw [List.perm_iff_count]; intro z
   have := hc z
   simp only [List.count_append, List.count_cons, List.count_nil] at this ⊢
   omega)
  have R3 := R2.back (by rw [List.length_set]; exact hlt) (by simp [updF]) hnew
  rw [List.set_set] at R3
  obtain ⟨x', β', F', hy, R4, e, hlen⟩ := R3.box hf hd
  rw [hx] at hy; cases hy
  exact ⟨x, β', F', I, R4.nil rfl, e, Grows.refl _, by rw [List.length_set] at hlen; exact hlen⟩
def foldB (M : List Blk) (u m j : Nat) : Option (List Prop × List Blk) := match M[u]? with
 | some (.bx T cs) => (match packL (M.set u .dead) cs with
  | some (vc, ds, M1) => (match M1[m]? with | some (.mp Tm ck es) => some (vc, M1.set m (.mp Tm ck (setE es j (.pb T ds)))) | _ => none)
  | none => none)
 | _ => none
theorem packL_len : ∀ {l : List AV} {M M1 : List Blk} {vc : List Prop} {ds : List DV}, packL M l = some (vc, ds, M1) → M1.length = M.length
 | [], M, M1, vc, ds, h => by simp only [packL, Option.some.injEq, Prod.mk.injEq] at h; obtain ⟨-, -, rfl⟩ := h; rfl
 | c :: r, M, M1, vc, ds, h => by
  unfold packL at h
  split at h
  ·rename_i v x M' h1
   split at h
   ·rename_i v' l' M2 h2
    simp only [Option.some.injEq, Prod.mk.injEq] at h; obtain ⟨-, -, rfl⟩ := h
    rw [packL_len h2]
    unfold pack1 at h1
    split at h1
    ·simp only [Option.some.injEq, Prod.mk.injEq] at h1; obtain ⟨-, -, rfl⟩ := h1; rfl
    ·split at h1
     ·simp only [Option.some.injEq, Prod.mk.injEq] at h1; obtain ⟨-, -, rfl⟩ := h1; simp
     ·simp at h1
    ·simp at h1
   ·simp at h
  ·simp at h
theorem set_dead_at {u m : Nat} {blk : Blk} (h : (M.set u Blk.dead)[m]? = some blk) (hd : blk ≠ .dead) : M[m]? = some blk := by
 rw [List.getElem?_set] at h
 split at h
 ·split at h
  ·simp only [Option.some.injEq] at h; exact absurd h.symm hd
  ·cases h
 ·exact h
theorem packL_at : ∀ {l : List AV} {M M1 : List Blk} {vc : List Prop} {ds : List DV} {m : Nat} {blk : Blk}, packL M l = some (vc, ds, M1) → M1[m]? = some blk → blk ≠ .dead → M[m]? = some blk
 | [], M, M1, vc, ds, m, blk, h, hm, _ => by simp only [packL, Option.some.injEq, Prod.mk.injEq] at h; obtain ⟨-, -, rfl⟩ := h; exact hm
 | c :: r, M, M1, vc, ds, m, blk, h, hm, hd => by
  unfold packL at h
  split at h
  ·rename_i v x M' h1
   split at h
   ·rename_i v' l' M2 h2
    simp only [Option.some.injEq, Prod.mk.injEq] at h; obtain ⟨-, -, rfl⟩ := h
    have h3 := packL_at h2 hm hd
    unfold pack1 at h1
    split at h1
    ·simp only [Option.some.injEq, Prod.mk.injEq] at h1; obtain ⟨-, -, rfl⟩ := h1; exact h3
    ·split at h1
     ·simp only [Option.some.injEq, Prod.mk.injEq] at h1; obtain ⟨-, -, rfl⟩ := h1; exact set_dead_at h3 hd
     ·simp at h1
    ·simp at h1
   ·simp at h
  ·simp at h
theorem RM.foldM (R : RM D w0 K0 M β F I w) {u v m j x b0 : Nat} {k : MK} {vc : List Prop} (hn : M[v]? = some (.nm u x)) (h : foldB M u m j = some (vc, M2)) (hv : AllP vc) (he : ∀ Tm ck es, M[m]? = some (.mp Tm ck es) → es[j]? = some (b0, k, ptrV x)) :
  ∃ β' F' I', RM D w0 K0 M2 β' F' I' w ∧ Ext β β' ∧ Grows I I' ∧ M.length ≤ M2.length := by
 unfold foldB at h
 split at h
 rotate_left
 ·cases h
 rename_i T cs hu
 split at h
 rotate_left
 ·cases h
 rename_i vc' ds M1 hpk
 split at h
 rotate_left
 ·cases h
 rename_i Tm ck es hm1
 simp only [Option.some.injEq, Prod.mk.injEq] at h
 obtain ⟨rfl, rfl⟩ := h
 have hB := R.blk u _ hu
 have hN := R.blk v _ hn
 have R1 := R.x.give hu
 rw [List.nil_append] at R1
 generalize hFu : F u = Fu at hB R1
 generalize F v = Fv at hN
 cases hN with
 | nm hbn =>
 cases hB with
 | @bx bb c _ _ hb ys hl hr =>
  rw [hb] at hbn; cases hbn
  obtain ⟨F2, H2, R2, dl⟩ := packL_ok R1 hpk hv hl hr
  have hm0 : M[m]? = some (.mp Tm ck es) := set_dead_at (packL_at hpk hm1 (by simp)) (by simp)
  have he' := he _ _ _ hm0
  have hlm := lt_of_some hm1
  have hBm := R2.blk m _ hm1
  have R3 := R2.give hm1
  generalize hFm : F2 m = Fm at hBm R3
  cases hBm with
  | @mp bm c2 _ _ _ hbm vs G hl2 hr2 =>
   obtain ⟨hj, -⟩ := List.getElem?_eq_some_iff.1 he'
   have hvj : vs[j]? = some vs[j] := List.getElem?_eq_getElem (by omega)
   have hd := hr2 j _ _ he' hvj
   obtain ⟨hGj, hvx⟩ : G j = [] ∧ vs[j] = .pointer (some ⟨x, 0, none⟩) := by
    generalize vs[j] = y at hd
    generalize G j = H at hd
    unfold ptrV at hd
    cases hd with | v => exact ⟨rfl, rfl⟩
   obtain ⟨G3, rfl, hG3⟩ := dl.to
   have hpb : DRel (fun w => K0 w ∧ Holds w I) (.pb T ds) (.pointer (some ⟨x, 0, none⟩)) ((x, .cells ys.toArray T (0, 0)) :: (List.range ds.length).flatMap G3) := .pb ys G3 dl.len hG3
   generalize hX : ((x, Obj.cells ys.toArray T (0, 0)) :: (List.range ds.length).flatMap G3) = X at hpb
   have hput := flat_put (G := G) hj X
   rw [hGj, List.append_nil] at hput
   have hnew : BRel (fun w => K0 w ∧ Holds w I) β m (.mp Tm ck (setE es j (.pb T ds))) ([(bm, .map (mEs es vs).toArray ck)] ++ (List.range es.length).flatMap (updF G j X)) := by
    have := BRel.mp (K := fun w => K0 w ∧ Holds w I) (T := Tm) (ck := ck) (es := setE es j (.pb T ds)) hbm vs (updF G j X) (by simp [setE, hl2]) (fun i e y h1 h2 => by
     unfold setE at h1
     rw [List.getElem?_modify] at h1
     simp only [updF]
     by_cases hi : j = i
     ·subst hi
      rw [he'] at h1; simp at h1; subst h1
      rw [hvj] at h2; cases h2
      rw [if_pos rfl, hvx]; exact hpb
     ·simp only [if_neg hi] at h1
      rw [if_neg (fun e => hi e.symm)]
      cases hei : es[i]? with
      | none => rw [hei] at h1; simp at h1
      | some e0 => rw [hei] at h1; simp at h1; subst h1; exact hr2 i _ y hei h2)
    unfold setE at this ⊢
    rw [List.length_modify, mod_same he'] at this
    exact this
   have R4 := R3.perm (Y := ([(bm, .map (mEs es vs).toArray ck)] ++ (List.range es.length).flatMap (updF G j X)) ++ []) (by
    classical
    have hc := List.perm_iff_count.1 hput
    rw [List.perm_iff_count]; intro z
    have := hc z
    rw [← hX] at this ⊢
    simp only [List.count_append, List.count_cons, List.count_nil] at this ⊢
    omega)
   have R5 := R4.back (by rw [List.length_set]; exact hlm) (by simp [updF]) hnew
   rw [List.set_set] at R5
   refine ⟨β, _, I, R5.nil rfl, Ext.refl _, Grows.refl _, ?_⟩
   rw [List.length_set, packL_len hpk, List.length_set]; exact Nat.le_refl _
theorem RBg.openM (r : RBg mk D w0 K0 sz b E M a w) {u Tm ck j b0 T : Nat} {k : MK} {es : List (Nat × MK × DV)} {cells : List DV} {N : Nat → List Blk} (hM : M[u]? = some (.mp Tm ck es)) (he : es[j]? = some (b0, k, .pb T cells)) (hf : cells.all flat1 = true) (hN : ∀ x, openB T cells x (M.set u (.mp Tm ck (setE es j (ptrV x)))) = N x) :
  ∃ x, RBg mk D w0 K0 sz b E (N x) a w := r.via fun _ _ _ R => by simp only [← hN]; exact R.openM hM he hf
theorem RBg.foldM (r : RBg mk D w0 K0 sz b E M a w) {u v m j x b0 : Nat} {k : MK} {vc : List Prop} (hn : M[v]? = some (.nm u x)) (h : foldB M u m j = some (vc, M1)) (hv : AllP vc) (he : ∀ Tm ck es, M[m]? = some (.mp Tm ck es) → es[j]? = some (b0, k, ptrV x)) (e : M1 = M2) : RBg mk D w0 K0 sz b E M2 a w := by
 obtain ⟨-, h⟩ := r.via (ι := Unit) (N := fun _ => M2) fun _ _ _ R => ⟨(), e ▸ R.foldM hn h hv he⟩
 exact h
theorem RBg.stayC (r : RBg mk D w0 K0 sz b E M a w) (lc : List (Nat × Nat)) {p : List Prop} (h : stC lc M = some (p, M1)) (q : AllP p) (hl : Nat.ble M.length M1.length = true) (e : M1 = M2) : RBg mk D w0 K0 sz b E M2 a w := by
 obtain ⟨-, h⟩ := r.via (ι := Unit) (N := fun _ => M2) fun β _ _ R => by
  subst e
  obtain ⟨F2, I2, R2, g⟩ := stC_ok h q R
  exact ⟨(), β, F2, I2, R2, Ext.refl _, g, Nat.le_of_ble_eq_true hl⟩
 exact h
end Go.Proofs.YtilhbhpldkjkaaaGreat
namespace Go.Proofs.YtilhbhpldkjkaaaGreat
open Go.RowKit
structure Proc where
 node : Int
 inc : Nat
deriving DecidableEq
def Proc.row (p : Proc) : List DV := [.v (.int .i64 p.node), .v (.int .u64 (p.inc : Int))]
abbrev procs (l : List Proc) : List (List DV) := l.map Proc.row
theorem procs_at {l : List Proc} {i : Nat} {p : Proc} (h : l[i]? = some p) : (procs l)[i]? = some [.v (.int .i64 p.node), .v (.int .u64 (p.inc : Int))] := by simp [procs, h, Proc.row]
abbrev nums (l : List Nat) : List (List DV) := l.map fun (n : Nat) => [.v (.int .u64 (n : Int))]
def Proc.may (p : Proc) : Bool := decide (1 ≤ p.node ∧ p.node ≤ 10 ∧ 0 < p.inc)
theorem eqProcIn (d : Nat) (a b c e : Int) (w : World) : (Op.equalIn (d + 2) 38 (.agg #[.int .i64 a, .int .u64 b]) (.agg #[.int .i64 c, .int .u64 e])).run Tryz.prog w = .ok (a == c && b == e) w :=
 run_eqTwo (f0 := ⟨"Node", 3, 0, false, "", "", 0⟩) (f1 := ⟨"Inc", 36, 1, false, "", "", 8⟩) (by kernel_rfl) (by kernel_rfl) (by decide) (by decide) (run_partS w (by kernel_rfl) rfl) (run_partS w (by kernel_rfl) rfl) (run_partS w (by kernel_rfl) rfl) (run_partS w (by kernel_rfl) rfl)
  (run_eqInt w d (by kernel_rfl)) (run_eqInt w d (by kernel_rfl))
def idx {α : Type} [DecidableEq α] : List α → α → Nat → Int
 | [], _, _ => -1
 | x :: r, p, k => if x = p then (k : Int) else idx r p (k + 1)
theorem idx_at {α : Type} [DecidableEq α] {p : α} : ∀ {l : List α} {k i : Nat}, l[i]? = some p → (∀ j, j < i → l[j]? ≠ some p) → idx l p k = ((k + i : Nat) : Int)
 | [], _, _, h, _ => by simp at h
 | x :: r, k, 0, h, _ => by simp at h; simp [idx, h]
 | x :: r, k, i + 1, h, hb => by
  have h0 : x ≠ p := by have := hb 0 (by omega); simpa using this
  rw [idx, if_neg h0, idx_at (i := i) (by simpa using h) fun j hj => by simpa using hb (j + 1) (by omega)]
  congr 1; omega
theorem idx_none {α : Type} [DecidableEq α] {p : α} : ∀ {l : List α} {k : Nat}, (∀ j, j < l.length → l[j]? ≠ some p) → idx l p k = -1
 | [], _, _ => rfl
 | x :: r, k, h => by
  have h0 : x ≠ p := by have := h 0 (by simp); simpa using this
  rw [idx, if_neg h0]
  exact idx_none fun j hj => by simpa using h (j + 1) (by simpa using hj)
theorem iv {k : IntKind} {a b : Int} (h : a = b) : DV.v (.int k a) = .v (.int k b) := by rw [h]
theorem ext_of {α : Type} {a b : List α} (hl : a.length = b.length) (h : ∀ j, j < a.length → a[j]? = b[j]?) : a = b := by
 apply List.ext_getElem?
 intro j
 rcases Nat.lt_or_ge j a.length with hj | hj
 ·exact h j hj
 ·rw [List.getElem?_eq_none hj, List.getElem?_eq_none (by omega)]
theorem eqT {t : TypeId} {xs ys : List Value} {c c' : Bool} (e : EqAgg Tryz.prog t xs ys c) (h : c = c') : EqAgg Tryz.prog t xs ys c' := h ▸ e
theorem nums_at {l : List Nat} {i x : Nat} (h : l[i]? = some x) : (nums l)[i]? = some [.v (.int .u64 (x : Int))] := by simp [nums, h]
theorem eqProc (a b c d : Int) : EqAgg Tryz.prog 38 [.int .i64 a, .int .u64 b] [.int .i64 c, .int .u64 d] (a == c && b == d) := ⟨by kernel_rfl, fun w => eqProcIn 9998 a b c d w⟩
theorem eqProcD (x y : Proc) : EqAgg Tryz.prog 38 [.int .i64 x.node, .int .u64 (x.inc : Int)] [.int .i64 y.node, .int .u64 (y.inc : Int)] (decide (x = y)) := by
 have h := eqProc x.node x.inc y.node y.inc
 refine eqT h ?_
 cases x with | mk a b => cases y with | mk c d =>
 rw [Bool.eq_iff_iff]
 simp only [Bool.and_eq_true, beq_iff_eq, decide_eq_true_eq, Proc.mk.injEq]
 omega
set_option maxRecDepth 100000 in
theorem procMay (p : Proc) : Con Tryz.prog 36 [.ag [.z p.node, .u p.inc]] (DV.v (.bool p.may)) := by
 refine Con.intro (by kernel_rfl) rfl rfl 16 rfl rfl fun w0 K ac hK r => ?_
 cases h0 : (decide ((1 : Int) ≤ p.node)) with
 | false =>
  have qh0 := of_decide_eq_false h0
  rw [show (DV.v (.bool p.may) : DV) = .v (.bool false) from (bv (by simp [Proc.may]; omega))]
  exact toRet tk mo hK rfl [(1, [(2, .b false)])] 2000 r (by kernel_rfl) (an h0 trivial)
 | true =>
  have qh0 := of_decide_eq_true h0
  cases h1 : (decide ((p.node : Int) ≤ 10)) with
  | false =>
   have qh1 := of_decide_eq_false h1
   rw [show (DV.v (.bool p.may) : DV) = .v (.bool false) from (bv (by simp [Proc.may]; omega))]
   exact toRet tk mo hK rfl [(1, [(2, .b true), (6, .b false)])] 2000 r (by kernel_rfl) (an h0 (an h1 trivial))
  | true =>
   have qh1 := of_decide_eq_true h1
   cases h2 : (decide ((0 : Int) < ((p.inc : Nat) : Int))) with
   | false =>
    have qh2 := of_decide_eq_false h2
    rw [show (DV.v (.bool p.may) : DV) = .v (.bool false) from (bv (by simp [Proc.may]; omega))]
    exact toRet tk mo hK rfl [(1, [(2, .b true), (6, .b true), (11, .b false)])] 2000 r (by kernel_rfl) (an h0 (an h1 (an h2 trivial)))
   | true =>
    have qh2 := of_decide_eq_true h2
    rw [show (DV.v (.bool p.may) : DV) = .v (.bool true) from (bv (by simp [Proc.may]; omega))]
    exact toRet tk mo hK rfl [(1, [(2, .b true), (6, .b true), (11, .b true)])] 2000 r (by kernel_rfl) (an h0 (an h1 (an h2 trivial)))
set_option maxRecDepth 100000 in
theorem refProcMay (p : Proc) : Con Tryz.prog 48 [.ag [.z p.node, .u p.inc]] (DV.v (.bool p.may)) := by
 refine Con.intro (by kernel_rfl) rfl rfl 16 rfl rfl fun w0 K ac hK r => ?_
 cases h0 : (decide ((1 : Int) ≤ p.node)) with
 | false =>
  have qh0 := of_decide_eq_false h0
  rw [show (DV.v (.bool p.may) : DV) = .v (.bool false) from (bv (by simp [Proc.may]; omega))]
  exact toRet tk mo hK rfl [(1, [(2, .b false)])] 2000 r (by kernel_rfl) (an h0 trivial)
 | true =>
  have qh0 := of_decide_eq_true h0
  cases h1 : (decide ((p.node : Int) ≤ 10)) with
  | false =>
   have qh1 := of_decide_eq_false h1
   rw [show (DV.v (.bool p.may) : DV) = .v (.bool false) from (bv (by simp [Proc.may]; omega))]
   exact toRet tk mo hK rfl [(1, [(2, .b true), (6, .b false)])] 2000 r (by kernel_rfl) (an h0 (an h1 trivial))
  | true =>
   have qh1 := of_decide_eq_true h1
   cases h2 : ((((p.inc : Nat) : Int) : Int) != 0) with
   | false =>
    have qh2 := eq_of_bne h2
    rw [show (DV.v (.bool p.may) : DV) = .v (.bool false) from (bv (by simp [Proc.may]; omega))]
    exact toRet tk mo hK rfl [(1, [(2, .b true), (6, .b true), (11, .b false)])] 2000 r (by kernel_rfl) (an h0 (an h1 (an h2 trivial)))
   | true =>
    have qh2 : ¬ _ = _ := bne_iff_ne.1 h2
    rw [show (DV.v (.bool p.may) : DV) = .v (.bool true) from (bv (by simp [Proc.may]; omega))]
    exact toRet tk mo hK rfl [(1, [(2, .b true), (6, .b true), (11, .b true)])] 2000 r (by kernel_rfl) (an h0 (an h1 (an h2 trivial)))
set_option maxRecDepth 100000 in
theorem equalProcs (a b : List Proc) (hb : a.length < 2147483648) : Con Tryz.prog 86 [.d (.ro 2 (procs a)), .d (.ro 2 (procs b))] (DV.v (.bool (decide (a = b)))) := by
 refine Con.intro (by kernel_rfl) rfl rfl 26 rfl rfl fun w0 K ac hK r => ?_
 have u0 := ((by simp) : (((procs a).length : Nat) : Int) = ((a.length : Nat) : Int))
 have u1 := ((by simp) : (((procs b).length : Nat) : Int) = ((b.length : Nat) : Int))
 cases h0 : ((((a.length : Nat) : Int) : Int) != ((b.length : Nat) : Int)) with
 | false =>
  have qh0 := eq_of_bne h0
  refine toHead (todo' := hd Tryz.f86 0) (E' := [(0, .d (.ro 2 (procs a))), (1, .d (.ro 2 (procs b))), (12, .n a.length), (13, .n 0)]) (M' := []) tk mo hK [(1, [(1, .z (((a.length : Nat) : Int))), (3, .z (((b.length : Nat) : Int))), (4, .b false)]), (3, [(1, .z (((a.length : Nat) : Int)))])] 2000 [] [0, 1, 12, 13] r (by kernel_rfl) (an u0 (an u1 (an h0 (an u0 trivial)))) fun ac wd r => ?_
  refine Goes.rounds (Φ := fun (i : Nat) ac wd => (i ≤ a.length ∧ ∀ j, j < i → a[j]? = b[j]?) ∧ RE' [] w0 K 26 [(0, .d (.ro 2 (procs a))), (1, .d (.ro 2 (procs b))), (12, .n a.length), (13, .n i)] [] ac wd) (a.length) ?_ (Nat.zero_le _) ⟨⟨by omega, by omega⟩, r⟩
  clear r
  rintro i hi0 again0 ac wd ⟨hv0, r⟩
  obtain ⟨hi1, hv0⟩ := hv0
  cases h1 : (decide ((((i : Nat) : Int) : Int) < ((a.length : Nat) : Int))) with
  | false =>
   have qh1 := of_decide_eq_false h1
   rw [show (DV.v (.bool (decide (a = b))) : DV) = .v (.bool true) from (bv (by first | (simp; intro e; subst e; simp_all; done) | (simp; exact ext_of (by omega) fun j hj => hv0 j (by omega))))]
   exact toRet tk mo hK rfl [(4, [(0, .b false)])] 2000 r (by kernel_rfl) (an h1 trivial)
  | true =>
   have qh1 := of_decide_eq_true h1
   obtain ⟨e_a_i, ge_a_i⟩ : ∃ x, a[i]? = some x := ⟨_, List.getElem?_eq_getElem (by omega)⟩
   obtain ⟨e_b_i, ge_b_i⟩ : ∃ x, b[i]? = some x := ⟨_, List.getElem?_eq_getElem (by omega)⟩
   cases h2 : (decide (e_a_i = e_b_i)) with
   | false =>
    have qh2 := of_decide_eq_false h2
    rw [show (DV.v (.bool (decide (a = b))) : DV) = .v (.bool false) from (bv (by first | (simp; intro e; subst e; simp_all; done) | (simp; exact ext_of (by omega) fun j hj => hv0 j (by omega))))]
    exact toRet tk mo hK rfl [(4, [(0, .b true)]), (6, [(2, .ix (i) [.z e_a_i.node, .u e_a_i.inc]), (6, .ix (i) [.z e_b_i.node, .u e_b_i.inc]), (8, .b false)])] 2000 r (by kernel_rfl) (an h1 (an (rfI ((i : Nat) : Int)) (an (procs_at ge_a_i) (an (rfI ((i : Nat) : Int)) (an (procs_at ge_b_i) (an ((eqT (eqProcD _ _) h2) : EqAgg Tryz.prog 38 [(.int .i64 (e_a_i.node)), (.int .u64 (((e_a_i.inc : Nat) : Int)))] [(.int .i64 (e_b_i.node)), (.int .u64 (((e_b_i.inc : Nat) : Int)))] false) trivial))))))
   | true =>
    have qh2 := of_decide_eq_true h2
    exact toHead (todo' := hd Tryz.f86 0) tk mo hK [(4, [(0, .b true)]), (6, [(2, .ix (i) [.z e_a_i.node, .u e_a_i.inc]), (6, .ix (i) [.z e_b_i.node, .u e_b_i.inc]), (8, .b true)]), (8, [(0, .z (((i + 1 : Nat) : Int)))])] 2000 [] [0, 1, 12, 13] r (by kernel_rfl) (an h1 (an (rfI ((i : Nat) : Int)) (an (procs_at ge_a_i) (an (rfI ((i : Nat) : Int)) (an (procs_at ge_b_i) (an ((eqT (eqProcD _ _) h2) : EqAgg Tryz.prog 38 [(.int .i64 (e_a_i.node)), (.int .u64 (((e_a_i.inc : Nat) : Int)))] [(.int .i64 (e_b_i.node)), (.int .u64 (((e_b_i.inc : Nat) : Int)))] true) (an ((wi (by omega)) : IntKind.i64.wrap ((((i : Nat) : Int) : Int) + 1) = ((i + 1 : Nat) : Int)) trivial))))))) fun ac wd r => again0 (by omega) ac wd ⟨⟨by omega, fun j hj => by rcases Nat.lt_succ_iff_lt_or_eq.1 hj with h | rfl; exact hv0 j h; simp only [ge_a_i, ge_b_i, Option.some.injEq]; first | assumption | omega⟩, r⟩
 | true =>
  have qh0 : ¬ _ = _ := bne_iff_ne.1 h0
  rw [show (DV.v (.bool (decide (a = b))) : DV) = .v (.bool false) from (bv (by first | (simp; intro e; subst e; simp_all; done) | (simp; exact ext_of (by omega) fun j hj => hv0 j (by omega))))]
  exact toRet tk mo hK rfl [(1, [(1, .z (((a.length : Nat) : Int))), (3, .z (((b.length : Nat) : Int))), (4, .b true)])] 2000 r (by kernel_rfl) (an u0 (an u1 (an h0 trivial)))
set_option maxRecDepth 100000 in
theorem equalNums (a b : List Nat) (hb : a.length < 2147483648) : Con Tryz.prog 88 [.d (.ro 1 (nums a)), .d (.ro 1 (nums b))] (DV.v (.bool (decide (a = b)))) := by
 refine Con.intro (by kernel_rfl) rfl rfl 26 rfl rfl fun w0 K ac hK r => ?_
 have u0 := ((by simp) : (((nums a).length : Nat) : Int) = ((a.length : Nat) : Int))
 have u1 := ((by simp) : (((nums b).length : Nat) : Int) = ((b.length : Nat) : Int))
 cases h0 : ((((a.length : Nat) : Int) : Int) != ((b.length : Nat) : Int)) with
 | false =>
  have qh0 := eq_of_bne h0
  refine toHead (todo' := hd Tryz.f88 0) (E' := [(0, .d (.ro 1 (nums a))), (1, .d (.ro 1 (nums b))), (12, .n a.length), (13, .n 0)]) (M' := []) tk mo hK [(1, [(1, .z (((a.length : Nat) : Int))), (3, .z (((b.length : Nat) : Int))), (4, .b false)]), (3, [(1, .z (((a.length : Nat) : Int)))])] 2000 [] [0, 1, 12, 13] r (by kernel_rfl) (an u0 (an u1 (an h0 (an u0 trivial)))) fun ac wd r => ?_
  refine Goes.rounds (Φ := fun (i : Nat) ac wd => (i ≤ a.length ∧ ∀ j, j < i → a[j]? = b[j]?) ∧ RE' [] w0 K 26 [(0, .d (.ro 1 (nums a))), (1, .d (.ro 1 (nums b))), (12, .n a.length), (13, .n i)] [] ac wd) (a.length) ?_ (Nat.zero_le _) ⟨⟨by omega, by omega⟩, r⟩
  clear r
  rintro i hi0 again0 ac wd ⟨hv0, r⟩
  obtain ⟨hi1, hv0⟩ := hv0
  cases h1 : (decide ((((i : Nat) : Int) : Int) < ((a.length : Nat) : Int))) with
  | false =>
   have qh1 := of_decide_eq_false h1
   rw [show (DV.v (.bool (decide (a = b))) : DV) = .v (.bool true) from (bv (by first | (simp; intro e; subst e; simp_all; done) | (simp; exact ext_of (by omega) fun j hj => hv0 j (by omega))))]
   exact toRet tk mo hK rfl [(4, [(0, .b false)])] 2000 r (by kernel_rfl) (an h1 trivial)
  | true =>
   have qh1 := of_decide_eq_true h1
   obtain ⟨e_a_i, ge_a_i⟩ : ∃ x, a[i]? = some x := ⟨_, List.getElem?_eq_getElem (by omega)⟩
   obtain ⟨e_b_i, ge_b_i⟩ : ∃ x, b[i]? = some x := ⟨_, List.getElem?_eq_getElem (by omega)⟩
   cases h2 : ((((e_a_i : Nat) : Int) : Int) != ((e_b_i : Nat) : Int)) with
   | false =>
    have qh2 := eq_of_bne h2
    exact toHead (todo' := hd Tryz.f88 0) tk mo hK [(4, [(0, .b true)]), (6, [(2, .ix (i) [.u e_a_i]), (6, .ix (i) [.u e_b_i]), (8, .b false)]), (8, [(0, .z (((i + 1 : Nat) : Int)))])] 2000 [] [0, 1, 12, 13] r (by kernel_rfl) (an h1 (an (rfI ((i : Nat) : Int)) (an (nums_at ge_a_i) (an (rfI ((i : Nat) : Int)) (an (nums_at ge_b_i) (an h2 (an ((wi (by omega)) : IntKind.i64.wrap ((((i : Nat) : Int) : Int) + 1) = ((i + 1 : Nat) : Int)) trivial))))))) fun ac wd r => again0 (by omega) ac wd ⟨⟨by omega, fun j hj => by rcases Nat.lt_succ_iff_lt_or_eq.1 hj with h | rfl; exact hv0 j h; simp only [ge_a_i, ge_b_i, Option.some.injEq]; first | assumption | omega⟩, r⟩
   | true =>
    have qh2 : ¬ _ = _ := bne_iff_ne.1 h2
    rw [show (DV.v (.bool (decide (a = b))) : DV) = .v (.bool false) from (bv (by first | (simp; intro e; subst e; simp_all; done) | (simp; exact ext_of (by omega) fun j hj => hv0 j (by omega))))]
    exact toRet tk mo hK rfl [(4, [(0, .b true)]), (6, [(2, .ix (i) [.u e_a_i]), (6, .ix (i) [.u e_b_i]), (8, .b true)])] 2000 r (by kernel_rfl) (an h1 (an (rfI ((i : Nat) : Int)) (an (nums_at ge_a_i) (an (rfI ((i : Nat) : Int)) (an (nums_at ge_b_i) (an h2 trivial))))))
 | true =>
  have qh0 : ¬ _ = _ := bne_iff_ne.1 h0
  rw [show (DV.v (.bool (decide (a = b))) : DV) = .v (.bool false) from (bv (by first | (simp; intro e; subst e; simp_all; done) | (simp; exact ext_of (by omega) fun j hj => hv0 j (by omega))))]
  exact toRet tk mo hK rfl [(1, [(1, .z (((a.length : Nat) : Int))), (3, .z (((b.length : Nat) : Int))), (4, .b true)])] 2000 r (by kernel_rfl) (an u0 (an u1 (an h0 trivial)))
set_option maxRecDepth 100000 in
theorem refEqual (a b : List Proc) (hb : a.length < 2147483648) : Con Tryz.prog 95 [.d (.ro 2 (procs a)), .d (.ro 2 (procs b))] (DV.v (.bool (decide (a = b)))) := by
 refine Con.intro (by kernel_rfl) rfl rfl 26 rfl rfl fun w0 K ac hK r => ?_
 have u0 := ((by simp) : (((procs a).length : Nat) : Int) = ((a.length : Nat) : Int))
 have u1 := ((by simp) : (((procs b).length : Nat) : Int) = ((b.length : Nat) : Int))
 cases h0 : ((((a.length : Nat) : Int) : Int) != ((b.length : Nat) : Int)) with
 | false =>
  have qh0 := eq_of_bne h0
  refine toHead (todo' := hd Tryz.f95 0) (E' := [(0, .d (.ro 2 (procs a))), (1, .d (.ro 2 (procs b))), (5, .n 0)]) (M' := []) tk mo hK [(1, [(1, .z (((a.length : Nat) : Int))), (3, .z (((b.length : Nat) : Int))), (4, .b false)])] 2000 [] [0, 1, 5] r (by kernel_rfl) (an u0 (an u1 (an h0 trivial))) fun ac wd r => ?_
  refine Goes.rounds (Φ := fun (i : Nat) ac wd => (i ≤ a.length ∧ ∀ j, j < i → a[j]? = b[j]?) ∧ RE' [] w0 K 26 [(0, .d (.ro 2 (procs a))), (1, .d (.ro 2 (procs b))), (5, .n i)] [] ac wd) (a.length) ?_ (Nat.zero_le _) ⟨⟨by omega, by omega⟩, r⟩
  clear r
  rintro i hi0 again0 ac wd ⟨hv0, r⟩
  obtain ⟨hi1, hv0⟩ := hv0
  cases h1 : (decide ((((i : Nat) : Int) : Int) < ((a.length : Nat) : Int))) with
  | false =>
   have qh1 := of_decide_eq_false h1
   rw [show (DV.v (.bool (decide (a = b))) : DV) = .v (.bool true) from (bv (by first | (simp; intro e; subst e; simp_all; done) | (simp; exact ext_of (by omega) fun j hj => hv0 j (by omega))))]
   exact toRet tk mo hK rfl [(4, [(2, .z (((a.length : Nat) : Int))), (3, .b false)])] 2000 r (by kernel_rfl) (an u0 (an h1 trivial))
  | true =>
   have qh1 := of_decide_eq_true h1
   obtain ⟨e_a_i, ge_a_i⟩ : ∃ x, a[i]? = some x := ⟨_, List.getElem?_eq_getElem (by omega)⟩
   obtain ⟨e_b_i, ge_b_i⟩ : ∃ x, b[i]? = some x := ⟨_, List.getElem?_eq_getElem (by omega)⟩
   cases h2 : (decide (e_a_i = e_b_i)) with
   | false =>
    have qh2 := of_decide_eq_false h2
    rw [show (DV.v (.bool (decide (a = b))) : DV) = .v (.bool false) from (bv (by first | (simp; intro e; subst e; simp_all; done) | (simp; exact ext_of (by omega) fun j hj => hv0 j (by omega))))]
    exact toRet tk mo hK rfl [(4, [(2, .z (((a.length : Nat) : Int))), (3, .b true)]), (6, [(2, .ix (i) [.z e_a_i.node, .u e_a_i.inc]), (6, .ix (i) [.z e_b_i.node, .u e_b_i.inc]), (8, .b false)])] 2000 r (by kernel_rfl) (an u0 (an h1 (an (rfI ((i : Nat) : Int)) (an (procs_at ge_a_i) (an (rfI ((i : Nat) : Int)) (an (procs_at ge_b_i) (an ((eqT (eqProcD _ _) h2) : EqAgg Tryz.prog 38 [(.int .i64 (e_a_i.node)), (.int .u64 (((e_a_i.inc : Nat) : Int)))] [(.int .i64 (e_b_i.node)), (.int .u64 (((e_b_i.inc : Nat) : Int)))] false) trivial)))))))
   | true =>
    have qh2 := of_decide_eq_true h2
    exact toHead (todo' := hd Tryz.f95 0) tk mo hK [(4, [(2, .z (((a.length : Nat) : Int))), (3, .b true)]), (5, [(1, .z (((i + 1 : Nat) : Int)))]), (6, [(2, .ix (i) [.z e_a_i.node, .u e_a_i.inc]), (6, .ix (i) [.z e_b_i.node, .u e_b_i.inc]), (8, .b true)])] 2000 [] [0, 1, 5] r (by kernel_rfl) (an u0 (an h1 (an (rfI ((i : Nat) : Int)) (an (procs_at ge_a_i) (an (rfI ((i : Nat) : Int)) (an (procs_at ge_b_i) (an ((eqT (eqProcD _ _) h2) : EqAgg Tryz.prog 38 [(.int .i64 (e_a_i.node)), (.int .u64 (((e_a_i.inc : Nat) : Int)))] [(.int .i64 (e_b_i.node)), (.int .u64 (((e_b_i.inc : Nat) : Int)))] true) (an ((wi (by omega)) : IntKind.i64.wrap ((((i : Nat) : Int) : Int) + 1) = ((i + 1 : Nat) : Int)) trivial)))))))) fun ac wd r => again0 (by omega) ac wd ⟨⟨by omega, fun j hj => by rcases Nat.lt_succ_iff_lt_or_eq.1 hj with h | rfl; exact hv0 j h; simp only [ge_a_i, ge_b_i, Option.some.injEq]; first | assumption | omega⟩, r⟩
 | true =>
  have qh0 : ¬ _ = _ := bne_iff_ne.1 h0
  rw [show (DV.v (.bool (decide (a = b))) : DV) = .v (.bool false) from (bv (by first | (simp; intro e; subst e; simp_all; done) | (simp; exact ext_of (by omega) fun j hj => hv0 j (by omega))))]
  exact toRet tk mo hK rfl [(1, [(1, .z (((a.length : Nat) : Int))), (3, .z (((b.length : Nat) : Int))), (4, .b true)])] 2000 r (by kernel_rfl) (an u0 (an u1 (an h0 trivial)))
set_option maxRecDepth 100000 in
theorem indexProcs (l : List Proc) (p : Proc) (hb : l.length < 2147483648) : Con Tryz.prog 76 [.d (.ro 2 (procs l)), .ag [.z p.node, .u p.inc]] (DV.v (.int .i64 (idx l p 0))) := by
 refine Con.intro (by kernel_rfl) rfl rfl 19 rfl rfl fun w0 K ac hK r => ?_
 refine toHead (todo' := hd Tryz.f76 0) (E' := [(0, .d (.ro 2 (procs l))), (3, .pt 0 0), (7, .n l.length), (8, .n 0)]) (M' := [.bx 38 [.z p.node, .u p.inc]]) tk mo hK [(1, [(1, .z (((l.length : Nat) : Int)))])] 2000 [0] [0, 3, 7, 8] r (by kernel_rfl) (an ((by simp) : (((procs l).length : Nat) : Int) = ((l.length : Nat) : Int)) trivial) fun ac wd r => ?_
 refine Goes.rounds (Φ := fun (i : Nat) ac wd => (i ≤ l.length ∧ ∀ j, j < i → l[j]? ≠ some p) ∧ RE' [] w0 K 19 [(0, .d (.ro 2 (procs l))), (3, .pt 0 0), (7, .n l.length), (8, .n i)] [.bx 38 [.z p.node, .u p.inc]] ac wd) (l.length) ?_ (Nat.zero_le _) ⟨⟨by omega, by omega⟩, r⟩
 clear r
 rintro i hi0 again0 ac wd ⟨hv0, r⟩
 obtain ⟨hi1, hv0⟩ := hv0
 cases h0 : (decide ((((i : Nat) : Int) : Int) < ((l.length : Nat) : Int))) with
 | false =>
  have qh0 := of_decide_eq_false h0
  rw [show (DV.v (.int .i64 (idx l p 0)) : DV) = .z (-1) from (iv (by first | (rw [idx_at (i := i) (by rw [ge_l_i]; congr 1; first | (symm; assumption) | omega) (fun j hj => hv0 j hj)]; simp; done) | exact idx_none fun j hj => hv0 j (by omega)))]
  exact toRet tk mo hK rfl [(2, [(0, .b false)])] 2000 r (by kernel_rfl) (an h0 trivial)
 | true =>
  have qh0 := of_decide_eq_true h0
  obtain ⟨e_l_i, ge_l_i⟩ : ∃ x, l[i]? = some x := ⟨_, List.getElem?_eq_getElem (by omega)⟩
  cases h1 : (decide (p = e_l_i)) with
  | false =>
   have qh1 := of_decide_eq_false h1
   exact toHead (todo' := hd Tryz.f76 0) tk mo hK [(2, [(0, .b true)]), (4, [(3, .ix (i) [.z e_l_i.node, .u e_l_i.inc]), (5, .b false)]), (6, [(0, .z (((i + 1 : Nat) : Int)))])] 2000 [0] [0, 3, 7, 8] r (by kernel_rfl) (an h0 (an (rfI ((i : Nat) : Int)) (an (procs_at ge_l_i) (an ((eqT (eqProcD _ _) h1) : EqAgg Tryz.prog 38 [(.int .i64 (p.node)), (.int .u64 (((p.inc : Nat) : Int)))] [(.int .i64 (e_l_i.node)), (.int .u64 (((e_l_i.inc : Nat) : Int)))] false) (an ((wi (by omega)) : IntKind.i64.wrap ((((i : Nat) : Int) : Int) + 1) = ((i + 1 : Nat) : Int)) trivial))))) fun ac wd r => again0 (by omega) ac wd ⟨⟨by omega, fun j hj => by rcases Nat.lt_succ_iff_lt_or_eq.1 hj with h | rfl; exact hv0 j h; simp only [ge_l_i, Option.some.injEq, ne_eq]; intro e; first | omega | simp_all⟩, r⟩
  | true =>
   have qh1 := of_decide_eq_true h1
   rw [show (DV.v (.int .i64 (idx l p 0)) : DV) = .n i from (iv (by first | (rw [idx_at (i := i) (by rw [ge_l_i]; congr 1; first | (symm; assumption) | omega) (fun j hj => hv0 j hj)]; simp; done) | exact idx_none fun j hj => hv0 j (by omega)))]
   exact toRet tk mo hK rfl [(2, [(0, .b true)]), (4, [(3, .ix (i) [.z e_l_i.node, .u e_l_i.inc]), (5, .b true)])] 2000 r (by kernel_rfl) (an h0 (an (rfI ((i : Nat) : Int)) (an (procs_at ge_l_i) (an ((eqT (eqProcD _ _) h1) : EqAgg Tryz.prog 38 [(.int .i64 (p.node)), (.int .u64 (((p.inc : Nat) : Int)))] [(.int .i64 (e_l_i.node)), (.int .u64 (((e_l_i.inc : Nat) : Int)))] true) trivial))))
set_option maxRecDepth 100000 in
theorem indexNums (l : List Nat) (x : Nat) (hb : l.length < 2147483648) : Con Tryz.prog 125 [.d (.ro 1 (nums l)), .u x] (DV.v (.int .i64 (idx l x 0))) := by
 refine Con.intro (by kernel_rfl) rfl rfl 19 rfl rfl fun w0 K ac hK r => ?_
 refine toHead (todo' := hd Tryz.f125 0) (E' := [(0, .d (.ro 1 (nums l))), (1, .u x), (7, .n l.length), (8, .n 0)]) (M' := []) tk mo hK [(1, [(1, .z (((l.length : Nat) : Int)))])] 2000 [] [0, 1, 7, 8] r (by kernel_rfl) (an ((by simp) : (((nums l).length : Nat) : Int) = ((l.length : Nat) : Int)) trivial) fun ac wd r => ?_
 refine Goes.rounds (Φ := fun (i : Nat) ac wd => (i ≤ l.length ∧ ∀ j, j < i → l[j]? ≠ some x) ∧ RE' [] w0 K 19 [(0, .d (.ro 1 (nums l))), (1, .u x), (7, .n l.length), (8, .n i)] [] ac wd) (l.length) ?_ (Nat.zero_le _) ⟨⟨by omega, by omega⟩, r⟩
 clear r
 rintro i hi0 again0 ac wd ⟨hv0, r⟩
 obtain ⟨hi1, hv0⟩ := hv0
 cases h0 : (decide ((((i : Nat) : Int) : Int) < ((l.length : Nat) : Int))) with
 | false =>
  have qh0 := of_decide_eq_false h0
  rw [show (DV.v (.int .i64 (idx l x 0)) : DV) = .z (-1) from (iv (by first | (rw [idx_at (i := i) (by rw [ge_l_i]; congr 1; first | (symm; assumption) | omega) (fun j hj => hv0 j hj)]; simp; done) | exact idx_none fun j hj => hv0 j (by omega)))]
  exact toRet tk mo hK rfl [(2, [(0, .b false)])] 2000 r (by kernel_rfl) (an h0 trivial)
 | true =>
  have qh0 := of_decide_eq_true h0
  obtain ⟨e_l_i, ge_l_i⟩ : ∃ x, l[i]? = some x := ⟨_, List.getElem?_eq_getElem (by omega)⟩
  cases h1 : ((((x : Nat) : Int) : Int) == ((e_l_i : Nat) : Int)) with
  | false =>
   have qh1 := ne_of_beq_false h1
   exact toHead (todo' := hd Tryz.f125 0) tk mo hK [(2, [(0, .b true)]), (4, [(3, .ix (i) [.u e_l_i]), (5, .b false)]), (6, [(0, .z (((i + 1 : Nat) : Int)))])] 2000 [] [0, 1, 7, 8] r (by kernel_rfl) (an h0 (an (rfI ((i : Nat) : Int)) (an (nums_at ge_l_i) (an h1 (an ((wi (by omega)) : IntKind.i64.wrap ((((i : Nat) : Int) : Int) + 1) = ((i + 1 : Nat) : Int)) trivial))))) fun ac wd r => again0 (by omega) ac wd ⟨⟨by omega, fun j hj => by rcases Nat.lt_succ_iff_lt_or_eq.1 hj with h | rfl; exact hv0 j h; simp only [ge_l_i, Option.some.injEq, ne_eq]; intro e; first | omega | simp_all⟩, r⟩
  | true =>
   have qh1 := eq_of_beq h1
   rw [show (DV.v (.int .i64 (idx l x 0)) : DV) = .n i from (iv (by first | (rw [idx_at (i := i) (by rw [ge_l_i]; congr 1; first | (symm; assumption) | omega) (fun j hj => hv0 j hj)]; simp; done) | exact idx_none fun j hj => hv0 j (by omega)))]
   exact toRet tk mo hK rfl [(2, [(0, .b true)]), (4, [(3, .ix (i) [.u e_l_i]), (5, .b true)])] 2000 r (by kernel_rfl) (an h0 (an (rfI ((i : Nat) : Int)) (an (nums_at ge_l_i) (an h1 trivial))))
def cmpI (a b : Int) : Int := if a < b then -1 else if b < a then 1 else 0
def Proc.cmp (p q : Proc) : Int := if cmpI p.node q.node ≠ 0 then cmpI p.node q.node else cmpI p.inc q.inc
def Proc.lt (p q : Proc) : Bool := decide (p.node < q.node ∨ p.node = q.node ∧ p.inc < q.inc)
theorem cmp_lt (p q : Proc) : (decide (0 ≤ p.cmp q)) = !p.lt q := by
 unfold Proc.cmp Proc.lt cmpI
 rw [Bool.eq_iff_iff]
 simp only [decide_eq_true_eq, Bool.not_eq_true', decide_eq_false_iff_not]
 repeat' split
 all_goals omega
set_option maxRecDepth 100000 in
theorem cmpInt (a b : Int) : Con Tryz.prog 128 [.z a, .z b] (DV.v (.int .i64 (cmpI a b))) := by
 refine Con.intro (by kernel_rfl) rfl rfl 20 rfl rfl fun w0 K ac hK r => ?_
 cases h0 : (decide ((a : Int) < b)) with
 | false =>
  have qh0 := of_decide_eq_false h0
  cases h1 : (decide ((b : Int) < a)) with
  | false =>
   have qh1 := of_decide_eq_false h1
   rw [show (DV.v (.int .i64 (cmpI a b)) : DV) = .z 0 from (iv (by unfold cmpI; (repeat' split) <;> omega))]
   exact toRet tk mo hK rfl [(1, [(1, .into 200 [(1, [(2, .b false)])])]), (2, [(1, .into 200 [(1, [(2, .b false)])])]), (9, [(2, .b false)]), (11, [(2, .b false)])] 2000 r (by kernel_rfl) (an ((by simp) : ((a : Int) != a) = false) (an ((by simp) : ((b : Int) != b) = false) (an h0 (an h1 trivial))))
  | true =>
   have qh1 := of_decide_eq_true h1
   rw [show (DV.v (.int .i64 (cmpI a b)) : DV) = .z 1 from (iv (by unfold cmpI; (repeat' split) <;> omega))]
   exact toRet tk mo hK rfl [(1, [(1, .into 200 [(1, [(2, .b false)])])]), (2, [(1, .into 200 [(1, [(2, .b false)])])]), (9, [(2, .b false)]), (11, [(2, .b true)])] 2000 r (by kernel_rfl) (an ((by simp) : ((a : Int) != a) = false) (an ((by simp) : ((b : Int) != b) = false) (an h0 (an h1 trivial))))
 | true =>
  have qh0 := of_decide_eq_true h0
  rw [show (DV.v (.int .i64 (cmpI a b)) : DV) = .z (-1) from (iv (by unfold cmpI; (repeat' split) <;> omega))]
  exact toRet tk mo hK rfl [(1, [(1, .into 200 [(1, [(2, .b false)])])]), (2, [(1, .into 200 [(1, [(2, .b false)])])]), (9, [(2, .b true)])] 2000 r (by kernel_rfl) (an ((by simp) : ((a : Int) != a) = false) (an ((by simp) : ((b : Int) != b) = false) (an h0 trivial)))
set_option maxRecDepth 100000 in
theorem cmpUint (a b : Int) : Con Tryz.prog 82 [.d (.v (.int .u64 (a))), .d (.v (.int .u64 (b)))] (DV.v (.int .i64 (cmpI a b))) := by
 refine Con.intro (by kernel_rfl) rfl rfl 20 rfl rfl fun w0 K ac hK r => ?_
 cases h0 : (decide ((a : Int) < b)) with
 | false =>
  have qh0 := of_decide_eq_false h0
  cases h1 : (decide ((b : Int) < a)) with
  | false =>
   have qh1 := of_decide_eq_false h1
   rw [show (DV.v (.int .i64 (cmpI a b)) : DV) = .z 0 from (iv (by unfold cmpI; (repeat' split) <;> omega))]
   exact toRet tk mo hK rfl [(1, [(1, .into 200 [(1, [(2, .b false)])])]), (2, [(1, .into 200 [(1, [(2, .b false)])])]), (9, [(2, .b false)]), (11, [(2, .b false)])] 2000 r (by kernel_rfl) (an ((by simp) : ((a : Int) != a) = false) (an ((by simp) : ((b : Int) != b) = false) (an h0 (an h1 trivial))))
  | true =>
   have qh1 := of_decide_eq_true h1
   rw [show (DV.v (.int .i64 (cmpI a b)) : DV) = .z 1 from (iv (by unfold cmpI; (repeat' split) <;> omega))]
   exact toRet tk mo hK rfl [(1, [(1, .into 200 [(1, [(2, .b false)])])]), (2, [(1, .into 200 [(1, [(2, .b false)])])]), (9, [(2, .b false)]), (11, [(2, .b true)])] 2000 r (by kernel_rfl) (an ((by simp) : ((a : Int) != a) = false) (an ((by simp) : ((b : Int) != b) = false) (an h0 (an h1 trivial))))
 | true =>
  have qh0 := of_decide_eq_true h0
  rw [show (DV.v (.int .i64 (cmpI a b)) : DV) = .z (-1) from (iv (by unfold cmpI; (repeat' split) <;> omega))]
  exact toRet tk mo hK rfl [(1, [(1, .into 200 [(1, [(2, .b false)])])]), (2, [(1, .into 200 [(1, [(2, .b false)])])]), (9, [(2, .b true)])] 2000 r (by kernel_rfl) (an ((by simp) : ((a : Int) != a) = false) (an ((by simp) : ((b : Int) != b) = false) (an h0 trivial)))
set_option maxRecDepth 100000 in
theorem procCompare (p q : Proc) : Con Tryz.prog 83 [.ag [.z p.node, .u p.inc], .ag [.z q.node, .u q.inc]] (DV.v (.int .i64 (p.cmp q))) := by
 refine Con.intro (by kernel_rfl) rfl rfl 14 rfl rfl fun w0 K ac hK r => ?_
 have u0 := (cmpInt _ _ : Con Tryz.prog 128 [.z p.node, .z q.node] (.z (cmpI (p.node) (q.node))))
 cases h0 : ((cmpI (p.node) (q.node) : Int) != 0) with
 | false =>
  have qh0 := eq_of_bne h0
  rw [show (DV.v (.int .i64 (p.cmp q)) : DV) = .z (cmpI (((p.inc : Nat) : Int)) (((q.inc : Nat) : Int))) from (iv (by unfold Proc.cmp; simp_all))]
  exact toRet tk mo hK rfl [(2, [(5, .con (.z (cmpI (p.node) (q.node)))), (7, .into 200 [(1, [(1, .b false)]), (3, [(1, .into 200 [(1, [(4, .con (.z (cmpI (((p.inc : Nat) : Int)) (((q.inc : Nat) : Int)))))])])])])])] 2000 r (by kernel_rfl) (an u0 (an h0 (an (cmpUint _ _ : Con Tryz.prog 82 [.u p.inc, .u q.inc] (.z (cmpI (((p.inc : Nat) : Int)) (((q.inc : Nat) : Int))))) trivial)))
 | true =>
  have qh0 : ¬ _ = _ := bne_iff_ne.1 h0
  rw [show (DV.v (.int .i64 (p.cmp q)) : DV) = .z (cmpI (p.node) (q.node)) from (iv (by unfold Proc.cmp; simp_all))]
  exact toRet tk mo hK rfl [(2, [(5, .con (.z (cmpI (p.node) (q.node)))), (7, .into 200 [(1, [(1, .b true)])])])] 2000 r (by kernel_rfl) (an u0 (an h0 trivial))
set_option maxRecDepth 100000 in
theorem refBefore (p q : Proc) : Con Tryz.prog 132 [.ag [.z p.node, .u p.inc], .ag [.z q.node, .u q.inc]] (DV.v (.bool (p.lt q))) := by
 refine Con.intro (by kernel_rfl) rfl rfl 24 rfl rfl fun w0 K ac hK r => ?_
 cases h0 : (decide ((p.node : Int) < q.node)) with
 | false =>
  have qh0 := of_decide_eq_false h0
  cases h1 : ((p.node : Int) == q.node) with
  | false =>
   have qh1 := ne_of_beq_false h1
   rw [show (DV.v (.bool (p.lt q)) : DV) = .v (.bool false) from (bv (by simp [Proc.lt]; omega))]
   exact toRet tk mo hK rfl [(1, [(4, .b false), (10, .b false)])] 2000 r (by kernel_rfl) (an h0 (an h1 trivial))
  | true =>
   have qh1 := eq_of_beq h1
   cases h2 : (decide ((((p.inc : Nat) : Int) : Int) < ((q.inc : Nat) : Int))) with
   | false =>
    have qh2 := of_decide_eq_false h2
    rw [show (DV.v (.bool (p.lt q)) : DV) = .v (.bool false) from (bv (by simp [Proc.lt]; omega))]
    exact toRet tk mo hK rfl [(1, [(4, .b false), (10, .b true), (16, .b false)])] 2000 r (by kernel_rfl) (an h0 (an h1 (an h2 trivial)))
   | true =>
    have qh2 := of_decide_eq_true h2
    rw [show (DV.v (.bool (p.lt q)) : DV) = .v (.bool true) from (bv (by simp [Proc.lt]; omega))]
    exact toRet tk mo hK rfl [(1, [(4, .b false), (10, .b true), (16, .b true)])] 2000 r (by kernel_rfl) (an h0 (an h1 (an h2 trivial)))
 | true =>
  have qh0 := of_decide_eq_true h0
  rw [show (DV.v (.bool (p.lt q)) : DV) = .v (.bool true) from (bv (by simp [Proc.lt]; omega))]
  exact toRet tk mo hK rfl [(1, [(4, .b true)])] 2000 r (by kernel_rfl) (an h0 trivial)
end Go.Proofs.YtilhbhpldkjkaaaGreat
namespace Go.Proofs.YtilhbhpldkjkaaaGreat
open Go.RowKit
def SetTo (l : List Proc) (i : Nat) : Prop := (∀ j p, j < i → l[j]? = some p → p.may = true) ∧ ∀ j p q, j + 1 < i → l[j]? = some p → l[j + 1]? = some q → p.lt q = true
def ltAt (l : List Proc) (j : Nat) : Bool := match l[j]?, l[j + 1]? with | some p, some q => p.lt q | _, _ => true
def isSet (l : List Proc) : Bool := ((List.range l.length).all fun j => match l[j]? with | some p => p.may | none => true) && (List.range (l.length - 1)).all (ltAt l)
theorem isSet_iff (l : List Proc) : isSet l = true ↔ SetTo l l.length := by
 simp only [isSet, Bool.and_eq_true, List.all_eq_true, List.mem_range, SetTo]
 constructor
 ·rintro ⟨h1, h2⟩
  refine ⟨fun j p hj hp => by have := h1 j hj; simpa [hp] using this, fun j p q hj hp hq => ?_⟩
  have := h2 j (by omega); simpa [ltAt, hp, hq] using this
 ·rintro ⟨h1, h2⟩
  refine ⟨fun j hj => ?_, fun j hj => ?_⟩
  ·rw [List.getElem?_eq_getElem hj]; exact h1 j _ hj (List.getElem?_eq_getElem hj)
  ·have e1 : l[j]? = some l[j] := List.getElem?_eq_getElem (by omega)
   have e2 : l[j + 1]? = some l[j + 1] := List.getElem?_eq_getElem (by omega)
   simp only [ltAt, e1, e2]; exact h2 j _ _ (by omega) e1 e2
theorem isSet_yes {l : List Proc} (h : SetTo l l.length) : isSet l = true := (isSet_iff l).2 h
theorem isSet_no {l : List Proc} (h : ¬ SetTo l l.length) : isSet l = false := by
 cases hs : isSet l with
 | false => rfl
 | true => exact absurd ((isSet_iff l).1 hs) h
theorem SetTo.step {l : List Proc} {i : Nat} {p : Proc} (h : SetTo l i) (hp : l[i]? = some p) (hm : p.may = true) (hc : ∀ q, 0 < i → l[i - 1]? = some q → q.lt p = true) : SetTo l (i + 1) := by
 refine ⟨fun j q hj hq => ?_, fun j a b hj ha hb => ?_⟩
 ·rcases Nat.lt_succ_iff_lt_or_eq.1 hj with h' | rfl
  ·exact h.1 j q h' hq
  ·rw [hp] at hq; cases hq; exact hm
 ·rcases Nat.lt_succ_iff_lt_or_eq.1 hj with h' | h'
  ·exact h.2 j a b h' ha hb
  ·have : j = i - 1 := by omega
   subst this
   have hi : i - 1 + 1 = i := by omega
   rw [hi, hp] at hb; cases hb
   exact hc a (by omega) ha
theorem SetTo.no1 {l : List Proc} {i n : Nat} {p : Proc} (hp : l[i]? = some p) (hm : p.may = false) (hi : i < n) : ¬ SetTo l n := fun h => by have := h.1 i p hi hp; rw [hm] at this; cases this
theorem SetTo.no2 {l : List Proc} {i n : Nat} {p q : Proc} (hp : l[i]? = some p) (hq : l[i - 1]? = some q) (h0 : 0 < i) (hm : q.lt p = false) (hi : i < n) : ¬ SetTo l n := fun h => by
 have := h.2 (i - 1) q p (by omega) hq (by rw [show i - 1 + 1 = i by omega]; exact hp); rw [hm] at this; cases this
theorem lt_of_cmp {p q : Proc} {b : Bool} (h : (decide ((0 : Int) ≤ p.cmp q)) = b) : p.lt q = !b := by rw [← h, cmp_lt]; simp
set_option maxRecDepth 100000 in
theorem procSet (l : List Proc) (hb : l.length < 2147483648) : Con Tryz.prog 78 [.d (.ro 2 (procs l))] (DV.v (.bool (isSet l))) := by
 refine Con.intro (by kernel_rfl) rfl rfl 30 rfl rfl fun w0 K ac hK r => ?_
 refine toHead (todo' := hd Tryz.f78 0) (E' := [(0, .d (.ro 2 (procs l))), (5, .d (.ro 2 (procs l))), (6, .n l.length), (7, .n 0)]) (M' := []) tk mo hK [(1, [(1, .z (((l.length : Nat) : Int)))])] 2000 [] [0, 5, 6, 7] r (by kernel_rfl) (an ((by simp) : (((procs l).length : Nat) : Int) = ((l.length : Nat) : Int)) trivial) fun ac wd r => ?_
 refine Goes.rounds (Φ := fun (i : Nat) ac wd => (i ≤ l.length ∧ SetTo l i) ∧ RE' [] w0 K 30 [(0, .d (.ro 2 (procs l))), (5, .d (.ro 2 (procs l))), (6, .n l.length), (7, .n i)] [] ac wd) (l.length) ?_ (Nat.zero_le _) ⟨⟨by omega, by simp [SetTo]⟩, r⟩
 clear r
 rintro i hi0 again0 ac wd ⟨hv0, r⟩
 obtain ⟨hi1, hv0⟩ := hv0
 cases h0 : (decide ((((i : Nat) : Int) : Int) < ((l.length : Nat) : Int))) with
 | false =>
  have qh0 := of_decide_eq_false h0
  rw [show (DV.v (.bool (isSet l)) : DV) = .v (.bool true) from (bv (by first | exact isSet_yes (by rw [show l.length = i by omega]; exact hv0) | exact isSet_no (SetTo.no1 ge_l_i (by assumption) (by omega)) | exact isSet_no (SetTo.no2 ge_l_i ge_l_i1 (by omega) (by first | assumption | (rw [lt_of_cmp (by assumption)]; rfl)) (by omega))))]
  exact toRet tk mo hK rfl [(2, [(0, .b false)])] 2000 r (by kernel_rfl) (an h0 trivial)
 | true =>
  have qh0 := of_decide_eq_true h0
  obtain ⟨e_l_i, ge_l_i⟩ : ∃ x, l[i]? = some x := ⟨_, List.getElem?_eq_getElem (by omega)⟩
  cases h1 : (e_l_i.may) with
  | false =>
   rw [show (DV.v (.bool (isSet l)) : DV) = .v (.bool false) from (bv (by first | exact isSet_yes (by rw [show l.length = i by omega]; exact hv0) | exact isSet_no (SetTo.no1 ge_l_i (by assumption) (by omega)) | exact isSet_no (SetTo.no2 ge_l_i ge_l_i1 (by omega) (by first | assumption | (rw [lt_of_cmp (by assumption)]; rfl)) (by omega))))]
   exact toRet tk mo hK rfl [(2, [(0, .b true)]), (3, [(1, .ix (i) [.z e_l_i.node, .u e_l_i.inc])]), (4, [(1, .con (.v (.bool false)))])] 2000 r (by kernel_rfl) (an h0 (an (rfI ((i : Nat) : Int)) (an (procs_at ge_l_i) (an ((by have k := procMay e_l_i; rw [h1] at k; exact k) : Con Tryz.prog 36 [.ag [.z e_l_i.node, .u e_l_i.inc]] (.v (.bool false))) trivial))))
  | true =>
   have u0 := ((by have k := procMay e_l_i; rw [h1] at k; exact k) : Con Tryz.prog 36 [.ag [.z e_l_i.node, .u e_l_i.inc]] (.v (.bool true)))
   cases h2 : (decide ((0 : Int) < ((i : Nat) : Int))) with
   | false =>
    have qh2 := of_decide_eq_false h2
    exact toHead (todo' := hd Tryz.f78 0) tk mo hK [(2, [(0, .b true)]), (3, [(1, .ix (i) [.z e_l_i.node, .u e_l_i.inc])]), (4, [(1, .con (.v (.bool true))), (5, .b false)]), (6, [(0, .z (((i + 1 : Nat) : Int)))])] 2000 [] [0, 5, 6, 7] r (by kernel_rfl) (an h0 (an (rfI ((i : Nat) : Int)) (an (procs_at ge_l_i) (an u0 (an h2 (an ((wi (by omega)) : IntKind.i64.wrap ((((i : Nat) : Int) : Int) + 1) = ((i + 1 : Nat) : Int)) trivial)))))) fun ac wd r => again0 (by omega) ac wd ⟨⟨by omega, hv0.step ge_l_i (by assumption) fun q hq0 hq => by first | (exfalso; omega) | (rw [ge_l_i1] at hq; cases hq; first | assumption | (rw [lt_of_cmp (by assumption)]; rfl))⟩, r⟩
   | true =>
    have qh2 := of_decide_eq_true h2
    obtain ⟨e_l_i1, ge_l_i1⟩ : ∃ x, l[i - 1]? = some x := ⟨_, List.getElem?_eq_getElem (by omega)⟩
    have u1 := ((wi (by omega)) : IntKind.i64.wrap ((((i : Nat) : Int) : Int) - 1) = ((i - 1 : Nat) : Int))
    have u2 := (procCompare _ _ : Con Tryz.prog 83 [.ag [.z e_l_i1.node, .u e_l_i1.inc], .ag [.z e_l_i.node, .u e_l_i.inc]] (.z (e_l_i1.cmp e_l_i)))
    cases h3 : (decide ((0 : Int) ≤ e_l_i1.cmp e_l_i)) with
    | false =>
     have qh3 := of_decide_eq_false h3
     exact toHead (todo' := hd Tryz.f78 0) tk mo hK [(2, [(0, .b true)]), (3, [(1, .ix (i) [.z e_l_i.node, .u e_l_i.inc])]), (4, [(1, .con (.v (.bool true))), (5, .b true), (9, .z (((i - 1 : Nat) : Int))), (10, .ix (i - 1) [.z e_l_i1.node, .u e_l_i1.inc]), (13, .con (.z (e_l_i1.cmp e_l_i))), (14, .b false)]), (6, [(0, .z (((i + 1 : Nat) : Int)))])] 2000 [] [0, 5, 6, 7] r (by kernel_rfl) (an h0 (an (rfI ((i : Nat) : Int)) (an (procs_at ge_l_i) (an u0 (an h2 (an u1 (an (rfI ((i - 1 : Nat) : Int)) (an (procs_at ge_l_i1) (an u2 (an h3 (an ((wi (by omega)) : IntKind.i64.wrap ((((i : Nat) : Int) : Int) + 1) = ((i + 1 : Nat) : Int)) trivial))))))))))) fun ac wd r => again0 (by omega) ac wd ⟨⟨by omega, hv0.step ge_l_i (by assumption) fun q hq0 hq => by first | (exfalso; omega) | (rw [ge_l_i1] at hq; cases hq; first | assumption | (rw [lt_of_cmp (by assumption)]; rfl))⟩, r⟩
    | true =>
     have qh3 := of_decide_eq_true h3
     rw [show (DV.v (.bool (isSet l)) : DV) = .v (.bool false) from (bv (by first | exact isSet_yes (by rw [show l.length = i by omega]; exact hv0) | exact isSet_no (SetTo.no1 ge_l_i (by assumption) (by omega)) | exact isSet_no (SetTo.no2 ge_l_i ge_l_i1 (by omega) (by first | assumption | (rw [lt_of_cmp (by assumption)]; rfl)) (by omega))))]
     exact toRet tk mo hK rfl [(2, [(0, .b true)]), (3, [(1, .ix (i) [.z e_l_i.node, .u e_l_i.inc])]), (4, [(1, .con (.v (.bool true))), (5, .b true), (9, .z (((i - 1 : Nat) : Int))), (10, .ix (i - 1) [.z e_l_i1.node, .u e_l_i1.inc]), (13, .con (.z (e_l_i1.cmp e_l_i))), (14, .b true)])] 2000 r (by kernel_rfl) (an h0 (an (rfI ((i : Nat) : Int)) (an (procs_at ge_l_i) (an u0 (an h2 (an u1 (an (rfI ((i - 1 : Nat) : Int)) (an (procs_at ge_l_i1) (an u2 (an h3 trivial))))))))))
set_option maxRecDepth 100000 in
theorem refSet (l : List Proc) (hb : l.length < 2147483648) : Con Tryz.prog 92 [.d (.ro 2 (procs l))] (DV.v (.bool (isSet l))) := by
 refine Con.intro (by kernel_rfl) rfl rfl 33 rfl rfl fun w0 K ac hK r => ?_
 refine toHead (todo' := hd Tryz.f92 0) (E' := [(0, .d (.ro 2 (procs l))), (3, .n 0)]) (M' := []) tk mo hK [] 2000 [] [0, 3] r (by kernel_rfl) trivial fun ac wd r => ?_
 refine Goes.rounds (Φ := fun (i : Nat) ac wd => (i ≤ l.length ∧ SetTo l i) ∧ RE' [] w0 K 33 [(0, .d (.ro 2 (procs l))), (3, .n i)] [] ac wd) (l.length) ?_ (Nat.zero_le _) ⟨⟨by omega, by simp [SetTo]⟩, r⟩
 clear r
 rintro i hi0 again0 ac wd ⟨hv0, r⟩
 obtain ⟨hi1, hv0⟩ := hv0
 have u0 := ((by simp) : (((procs l).length : Nat) : Int) = ((l.length : Nat) : Int))
 cases h0 : (decide ((((i : Nat) : Int) : Int) < ((l.length : Nat) : Int))) with
 | false =>
  have qh0 := of_decide_eq_false h0
  rw [show (DV.v (.bool (isSet l)) : DV) = .v (.bool true) from (bv (by first | exact isSet_yes (by rw [show l.length = i by omega]; exact hv0) | exact isSet_no (SetTo.no1 ge_l_i (by assumption) (by omega)) | exact isSet_no (SetTo.no2 ge_l_i ge_l_i1 (by omega) (by first | assumption | (rw [lt_of_cmp (by assumption)]; rfl)) (by omega))))]
  exact toRet tk mo hK rfl [(2, [(2, .z (((l.length : Nat) : Int))), (3, .b false)])] 2000 r (by kernel_rfl) (an u0 (an h0 trivial))
 | true =>
  have qh0 := of_decide_eq_true h0
  obtain ⟨e_l_i, ge_l_i⟩ : ∃ x, l[i]? = some x := ⟨_, List.getElem?_eq_getElem (by omega)⟩
  cases h1 : (e_l_i.may) with
  | false =>
   rw [show (DV.v (.bool (isSet l)) : DV) = .v (.bool false) from (bv (by first | exact isSet_yes (by rw [show l.length = i by omega]; exact hv0) | exact isSet_no (SetTo.no1 ge_l_i (by assumption) (by omega)) | exact isSet_no (SetTo.no2 ge_l_i ge_l_i1 (by omega) (by first | assumption | (rw [lt_of_cmp (by assumption)]; rfl)) (by omega))))]
   exact toRet tk mo hK rfl [(2, [(2, .z (((l.length : Nat) : Int))), (3, .b true)]), (4, [(2, .ix (i) [.z e_l_i.node, .u e_l_i.inc]), (4, .con (.v (.bool false)))])] 2000 r (by kernel_rfl) (an u0 (an h0 (an (rfI ((i : Nat) : Int)) (an (procs_at ge_l_i) (an ((by have k := refProcMay e_l_i; rw [h1] at k; exact k) : Con Tryz.prog 48 [.ag [.z e_l_i.node, .u e_l_i.inc]] (.v (.bool false))) trivial)))))
  | true =>
   have u1 := ((by have k := refProcMay e_l_i; rw [h1] at k; exact k) : Con Tryz.prog 48 [.ag [.z e_l_i.node, .u e_l_i.inc]] (.v (.bool true)))
   cases h2 : (decide ((0 : Int) < ((i : Nat) : Int))) with
   | false =>
    have qh2 := of_decide_eq_false h2
    exact toHead (todo' := hd Tryz.f92 0) tk mo hK [(2, [(2, .z (((l.length : Nat) : Int))), (3, .b true)]), (3, [(1, .z (((i + 1 : Nat) : Int)))]), (4, [(2, .ix (i) [.z e_l_i.node, .u e_l_i.inc]), (4, .con (.v (.bool true))), (8, .b false)])] 2000 [] [0, 3] r (by kernel_rfl) (an u0 (an h0 (an (rfI ((i : Nat) : Int)) (an (procs_at ge_l_i) (an u1 (an h2 (an ((wi (by omega)) : IntKind.i64.wrap ((((i : Nat) : Int) : Int) + 1) = ((i + 1 : Nat) : Int)) trivial))))))) fun ac wd r => again0 (by omega) ac wd ⟨⟨by omega, hv0.step ge_l_i (by assumption) fun q hq0 hq => by first | (exfalso; omega) | (rw [ge_l_i1] at hq; cases hq; first | assumption | (rw [lt_of_cmp (by assumption)]; rfl))⟩, r⟩
   | true =>
    have qh2 := of_decide_eq_true h2
    obtain ⟨e_l_i1, ge_l_i1⟩ : ∃ x, l[i - 1]? = some x := ⟨_, List.getElem?_eq_getElem (by omega)⟩
    have u2 := ((wi (by omega)) : IntKind.i64.wrap ((((i : Nat) : Int) : Int) - 1) = ((i - 1 : Nat) : Int))
    cases h3 : (e_l_i1.lt e_l_i) with
    | false =>
     rw [show (DV.v (.bool (isSet l)) : DV) = .v (.bool false) from (bv (by first | exact isSet_yes (by rw [show l.length = i by omega]; exact hv0) | exact isSet_no (SetTo.no1 ge_l_i (by assumption) (by omega)) | exact isSet_no (SetTo.no2 ge_l_i ge_l_i1 (by omega) (by first | assumption | (rw [lt_of_cmp (by assumption)]; rfl)) (by omega))))]
     exact toRet tk mo hK rfl [(2, [(2, .z (((l.length : Nat) : Int))), (3, .b true)]), (4, [(2, .ix (i) [.z e_l_i.node, .u e_l_i.inc]), (4, .con (.v (.bool true))), (8, .b true), (12, .z (((i - 1 : Nat) : Int))), (13, .ix (i - 1) [.z e_l_i1.node, .u e_l_i1.inc]), (17, .ix (i) [.z e_l_i.node, .u e_l_i.inc]), (19, .con (.v (.bool false)))])] 2000 r (by kernel_rfl) (an u0 (an h0 (an (rfI ((i : Nat) : Int)) (an (procs_at ge_l_i) (an u1 (an h2 (an u2 (an (rfI ((i - 1 : Nat) : Int)) (an (procs_at ge_l_i1) (an (rfI ((i : Nat) : Int)) (an (procs_at ge_l_i) (an ((by have k := refBefore e_l_i1 e_l_i; rw [h3] at k; exact k) : Con Tryz.prog 132 [.ag [.z e_l_i1.node, .u e_l_i1.inc], .ag [.z e_l_i.node, .u e_l_i.inc]] (.v (.bool false))) trivial))))))))))))
    | true =>
     exact toHead (todo' := hd Tryz.f92 0) tk mo hK [(2, [(2, .z (((l.length : Nat) : Int))), (3, .b true)]), (3, [(1, .z (((i + 1 : Nat) : Int)))]), (4, [(2, .ix (i) [.z e_l_i.node, .u e_l_i.inc]), (4, .con (.v (.bool true))), (8, .b true), (12, .z (((i - 1 : Nat) : Int))), (13, .ix (i - 1) [.z e_l_i1.node, .u e_l_i1.inc]), (17, .ix (i) [.z e_l_i.node, .u e_l_i.inc]), (19, .con (.v (.bool true)))])] 2000 [] [0, 3] r (by kernel_rfl) (an u0 (an h0 (an (rfI ((i : Nat) : Int)) (an (procs_at ge_l_i) (an u1 (an h2 (an u2 (an (rfI ((i - 1 : Nat) : Int)) (an (procs_at ge_l_i1) (an (rfI ((i : Nat) : Int)) (an (procs_at ge_l_i) (an ((by have k := refBefore e_l_i1 e_l_i; rw [h3] at k; exact k) : Con Tryz.prog 132 [.ag [.z e_l_i1.node, .u e_l_i1.inc], .ag [.z e_l_i.node, .u e_l_i.inc]] (.v (.bool true))) (an ((wi (by omega)) : IntKind.i64.wrap ((((i : Nat) : Int) : Int) + 1) = ((i + 1 : Nat) : Int)) trivial))))))))))))) fun ac wd r => again0 (by omega) ac wd ⟨⟨by omega, hv0.step ge_l_i (by assumption) fun q hq0 hq => by first | (exfalso; omega) | (rw [ge_l_i1] at hq; cases hq; first | assumption | (rw [lt_of_cmp (by assumption)]; rfl))⟩, r⟩
end Go.Proofs.YtilhbhpldkjkaaaGreat
namespace Go.Proofs.YtilhbhpldkjkaaaGreat
open Go.RowKit
structure Vid where
 round : Nat
 server : Proc
deriving DecidableEq
structure View where
 id : Vid
 members : List Proc
 starts : List Nat
deriving DecidableEq
def Vid.may (v : Vid) : Bool := decide (v.server.may = true ∧ (v.round = 0 ∨ v.server.node ≤ 4))
def View.first (p : Proc) : View := ⟨⟨0, p⟩, [p], [0]⟩
theorem eqVid (v w : Vid) : EqAgg Tryz.prog 40 [.int .u64 (v.round : Int), .int .i64 v.server.node, .int .u64 (v.server.inc : Int)] [.int .u64 (w.round : Int), .int .i64 w.server.node, .int .u64 (w.server.inc : Int)] (decide (v = w)) := by
 have h : EqAgg Tryz.prog 40 [.int .u64 (v.round : Int), .int .i64 v.server.node, .int .u64 (v.server.inc : Int)] [.int .u64 (w.round : Int), .int .i64 w.server.node, .int .u64 (w.server.inc : Int)] (((v.round : Int) == w.round) && (v.server.node == w.server.node && (v.server.inc : Int) == w.server.inc)) :=
  ⟨by kernel_rfl, fun wd => run_eqTwo (d := 9999) (f0 := ⟨"Round", 36, 0, false, "", "", 0⟩) (f1 := ⟨"Server", 38, 1, false, "", "", 8⟩) (by kernel_rfl) (by kernel_rfl) (by decide) (by decide) (run_partS wd (by kernel_rfl) rfl) (run_partS wd (by kernel_rfl) rfl) (run_partA (n := 2) wd (by kernel_rfl)) (run_partA (n := 2) wd (by kernel_rfl))
   (run_eqInt wd 9998 (by kernel_rfl)) (eqProcIn 9997 v.server.node v.server.inc w.server.node w.server.inc wd)⟩
 refine eqT h ?_
 cases v with | mk a p => cases w with | mk b q =>
 cases p with | mk x y => cases q with | mk z u =>
 rw [Bool.eq_iff_iff]
 simp only [Bool.and_eq_true, beq_iff_eq, decide_eq_true_eq, Vid.mk.injEq, Proc.mk.injEq]
 omega
def View.bounded (v : View) : Prop := v.members.length < 1073741824 ∧ v.starts.length < 1073741824
set_option maxRecDepth 100000 in
theorem viewMayId (v : Vid) : Con Tryz.prog 77 [.ag [.u v.round, .z v.server.node, .u v.server.inc]] (DV.v (.bool v.may)) := by
 refine Con.intro (by kernel_rfl) rfl rfl 17 rfl rfl fun w0 K ac hK r => ?_
 cases h0 : (v.server.may) with
 | false =>
  rw [show (DV.v (.bool v.may) : DV) = .v (.bool false) from (bv (by simp [Vid.may, *]; try omega))]
  exact toRet tk mo hK rfl [(1, [(2, .con (.v (.bool false)))])] 2000 r (by kernel_rfl) (an ((by have k := procMay v.server; rw [h0] at k; exact k) : Con Tryz.prog 36 [.ag [.z v.server.node, .u v.server.inc]] (.v (.bool false))) trivial)
 | true =>
  have u0 := ((by have k := procMay v.server; rw [h0] at k; exact k) : Con Tryz.prog 36 [.ag [.z v.server.node, .u v.server.inc]] (.v (.bool true)))
  cases h1 : ((((v.round : Nat) : Int) : Int) == 0) with
  | false =>
   have qh1 := ne_of_beq_false h1
   cases h2 : (decide ((v.server.node : Int) ≤ 4)) with
   | false =>
    have qh2 := of_decide_eq_false h2
    rw [show (DV.v (.bool v.may) : DV) = .v (.bool false) from (bv (by simp [Vid.may, *]; try omega))]
    exact toRet tk mo hK rfl [(1, [(2, .con (.v (.bool true))), (6, .b false), (11, .b false)])] 2000 r (by kernel_rfl) (an u0 (an h1 (an h2 trivial)))
   | true =>
    have qh2 := of_decide_eq_true h2
    rw [show (DV.v (.bool v.may) : DV) = .v (.bool true) from (bv (by simp [Vid.may, *]; try omega))]
    exact toRet tk mo hK rfl [(1, [(2, .con (.v (.bool true))), (6, .b false), (11, .b true)])] 2000 r (by kernel_rfl) (an u0 (an h1 (an h2 trivial)))
  | true =>
   have qh1 := eq_of_beq h1
   rw [show (DV.v (.bool v.may) : DV) = .v (.bool true) from (bv (by simp [Vid.may, *]; try omega))]
   exact toRet tk mo hK rfl [(1, [(2, .con (.v (.bool true))), (6, .b true)])] 2000 r (by kernel_rfl) (an u0 (an h1 trivial))
set_option maxRecDepth 100000 in
theorem refMayId (v : Vid) : Con Tryz.prog 91 [.ag [.u v.round, .z v.server.node, .u v.server.inc]] (DV.v (.bool v.may)) := by
 refine Con.intro (by kernel_rfl) rfl rfl 17 rfl rfl fun w0 K ac hK r => ?_
 cases h0 : (v.server.may) with
 | false =>
  rw [show (DV.v (.bool v.may) : DV) = .v (.bool false) from (bv (by simp [Vid.may, *]; try omega))]
  exact toRet tk mo hK rfl [(1, [(2, .con (.v (.bool false)))])] 2000 r (by kernel_rfl) (an ((by have k := refProcMay v.server; rw [h0] at k; exact k) : Con Tryz.prog 48 [.ag [.z v.server.node, .u v.server.inc]] (.v (.bool false))) trivial)
 | true =>
  have u0 := ((by have k := refProcMay v.server; rw [h0] at k; exact k) : Con Tryz.prog 48 [.ag [.z v.server.node, .u v.server.inc]] (.v (.bool true)))
  cases h1 : ((((v.round : Nat) : Int) : Int) == 0) with
  | false =>
   have qh1 := ne_of_beq_false h1
   cases h2 : (decide ((v.server.node : Int) ≤ 4)) with
   | false =>
    have qh2 := of_decide_eq_false h2
    rw [show (DV.v (.bool v.may) : DV) = .v (.bool false) from (bv (by simp [Vid.may, *]; try omega))]
    exact toRet tk mo hK rfl [(1, [(2, .con (.v (.bool true))), (6, .b false), (11, .b false)])] 2000 r (by kernel_rfl) (an u0 (an h1 (an h2 trivial)))
   | true =>
    have qh2 := of_decide_eq_true h2
    rw [show (DV.v (.bool v.may) : DV) = .v (.bool true) from (bv (by simp [Vid.may, *]; try omega))]
    exact toRet tk mo hK rfl [(1, [(2, .con (.v (.bool true))), (6, .b false), (11, .b true)])] 2000 r (by kernel_rfl) (an u0 (an h1 (an h2 trivial)))
  | true =>
   have qh1 := eq_of_beq h1
   rw [show (DV.v (.bool v.may) : DV) = .v (.bool true) from (bv (by simp [Vid.may, *]; try omega))]
   exact toRet tk mo hK rfl [(1, [(2, .con (.v (.bool true))), (6, .b true)])] 2000 r (by kernel_rfl) (an u0 (an h1 trivial))
set_option maxRecDepth 100000 in
theorem viewFirst (p : Proc) : Con Tryz.prog 38 [.ag [.z p.node, .u p.inc]] (.ag [.v (.int .u64 0), .v (.int .i64 p.node), .v (.int .u64 ((p.inc : Nat) : Int)), .em 38 2 (procs [p]), .em 36 1 (nums [0])]) := by
 refine Con.intro (by kernel_rfl) rfl rfl 9 rfl rfl fun w0 K ac hK r => ?_
 exact toRet tk mo hK rfl [] 2000 r (by kernel_rfl) (an ((by simp) : (1) = ([[.z p.node, .u p.inc]] : List (List DV)).length) (an ((by simp) : (1) = ([[.v (.int .u64 0)]] : List (List DV)).length) trivial))
set_option maxRecDepth 100000 in
theorem refFirst (p : Proc) : Con Tryz.prog 49 [.ag [.z p.node, .u p.inc]] (.ag [.v (.int .u64 0), .v (.int .i64 p.node), .v (.int .u64 ((p.inc : Nat) : Int)), .em 38 2 (procs [p]), .em 36 1 (nums [0])]) := by
 refine Con.intro (by kernel_rfl) rfl rfl 9 rfl rfl fun w0 K ac hK r => ?_
 exact toRet tk mo hK rfl [] 2000 r (by kernel_rfl) (an ((by simp) : (1) = ([[.z p.node, .u p.inc]] : List (List DV)).length) (an ((by simp) : (1) = ([[.v (.int .u64 0)]] : List (List DV)).length) trivial))
end Go.Proofs.YtilhbhpldkjkaaaGreat
namespace Go.Proofs.YtilhbhpldkjkaaaGreat
open Go.RowKit
theorem View.eq_iff {v w : View} : v = w ↔ v.id = w.id ∧ v.members = w.members ∧ v.starts = w.starts := by cases v; cases w; simp
def placeN (l : List Proc) (p : Proc) : Nat := (idx l p 0).toNat
def placeB (l : List Proc) (p : Proc) : Bool := decide (0 ≤ idx l p 0)
def Lone (l : List Proc) (i : Nat) : Prop := ∀ a b p q, a < i → b < a → l[a]? = some p → l[b]? = some q → q.node ≠ p.node
def lone (l : List Proc) : Bool := (List.range l.length).all fun a => (List.range a).all fun b => match l[a]?, l[b]? with | some p, some q => decide (q.node ≠ p.node) | _, _ => true
theorem lone_iff (l : List Proc) : lone l = true ↔ Lone l l.length := by
 simp only [lone, List.all_eq_true, List.mem_range, Lone]
 constructor
 ·intro h a b p q ha hb hp hq
  have := h a ha b hb; simpa [hp, hq] using this
 ·intro h a ha b hb
  have e1 : l[a]? = some l[a] := List.getElem?_eq_getElem ha
  have e2 : l[b]? = some l[b] := List.getElem?_eq_getElem (by omega)
  simp only [e1, e2, decide_eq_true_eq]; exact h a b _ _ ha hb e1 e2
theorem lone_yes {l : List Proc} (h : Lone l l.length) : lone l = true := (lone_iff l).2 h
theorem lone_no {l : List Proc} {a b : Nat} {p q : Proc} (ha : a < l.length) (hb : b < a) (hp : l[a]? = some p) (hq : l[b]? = some q) (h : q.node = p.node) : lone l = false := by
 cases hs : lone l with
 | false => rfl
 | true => exact absurd h ((lone_iff l).1 hs a b p q ha hb hp hq)
set_option maxRecDepth 100000 in
theorem viewSame (v w : View) (hb : v.bounded) : Con Tryz.prog 44 [.ag [.u v.id.round, .z v.id.server.node, .u v.id.server.inc, .d (.ro 2 (procs v.members)), .d (.ro 1 (nums v.starts))], .ag [.u w.id.round, .z w.id.server.node, .u w.id.server.inc, .d (.ro 2 (procs w.members)), .d (.ro 1 (nums w.starts))]] (DV.v (.bool (decide (v = w)))) := by
 obtain ⟨hb1, hb2⟩ := hb
 refine Con.intro (by kernel_rfl) rfl rfl 20 rfl rfl fun w0 K ac hK r => ?_
 refine toHead (todo' := hd Tryz.f44 0) (E' := [(2, .pt 0 0), (3, .pt 1 0), (12, .ag [.fn 84 [.pt 0 0, .pt 1 0], .fn 85 [.pt 0 0, .pt 1 0], .fn 87 [.pt 0 0, .pt 1 0]]), (13, .z 0)]) (M' := [.bx 44 [.u v.id.round, .z v.id.server.node, .u v.id.server.inc, .d (.ro 2 (procs v.members)), .d (.ro 1 (nums v.starts))], .bx 44 [.u w.id.round, .z w.id.server.node, .u w.id.server.inc, .d (.ro 2 (procs w.members)), .d (.ro 1 (nums w.starts))], .bx 166 [.fn 84 [.pt 0 0, .pt 1 0], .fn 85 [.pt 0 0, .pt 1 0], .fn 87 [.pt 0 0, .pt 1 0]]]) tk mo hK [] 2000 [0, 1, 2] [2, 3, 12, 13] r (by kernel_rfl) trivial fun ac wd r => ?_
 cases h0 : (decide (v.id = w.id)) with
 | false =>
  have qh0 := of_decide_eq_false h0
  rw [show (DV.v (.bool (decide (v = w))) : DV) = .v (.bool false) from (bv (by simp [View.eq_iff, *]))]
  exact toRet tk mo hK rfl [(4, [(0, .n 0)]), (5, [(1, .into 200 [(1, [(4, .b false)])])])] 2000 r (by kernel_rfl) (an (rfl : (0 : Int) = ((0 : Nat) : Int)) (an ((by omega) : (0) < 3) (an ((eqT (eqVid _ _) h0) : EqAgg Tryz.prog 40 [(.int .u64 (((v.id.round : Nat) : Int))), (.int .i64 (v.id.server.node)), (.int .u64 (((v.id.server.inc : Nat) : Int)))] [(.int .u64 (((w.id.round : Nat) : Int))), (.int .i64 (w.id.server.node)), (.int .u64 (((w.id.server.inc : Nat) : Int)))] false) trivial)))
 | true =>
  have qh0 := of_decide_eq_true h0
  refine toHead (todo' := hd Tryz.f44 0) (E' := [(2, .pt 0 0), (3, .pt 1 0), (12, .ag [.fn 84 [.pt 0 0, .pt 1 0], .fn 85 [.pt 0 0, .pt 1 0], .fn 87 [.pt 0 0, .pt 1 0]]), (13, .z 1)]) (M' := [.bx 44 [.u v.id.round, .z v.id.server.node, .u v.id.server.inc, .d (.ro 2 (procs v.members)), .d (.ro 1 (nums v.starts))], .bx 44 [.u w.id.round, .z w.id.server.node, .u w.id.server.inc, .d (.ro 2 (procs w.members)), .d (.ro 1 (nums w.starts))], .bx 166 [.fn 84 [.pt 0 0, .pt 1 0], .fn 85 [.pt 0 0, .pt 1 0], .fn 87 [.pt 0 0, .pt 1 0]]]) tk mo hK [(4, [(0, .n 0)]), (5, [(1, .into 200 [(1, [(4, .b true)])])]), (7, [(0, .z (1))])] 2000 [0, 1, 2] [2, 3, 12, 13] r (by kernel_rfl) (an (rfl : (0 : Int) = ((0 : Nat) : Int)) (an ((by omega) : (0) < 3) (an ((eqT (eqVid _ _) h0) : EqAgg Tryz.prog 40 [(.int .u64 (((v.id.round : Nat) : Int))), (.int .i64 (v.id.server.node)), (.int .u64 (((v.id.server.inc : Nat) : Int)))] [(.int .u64 (((w.id.round : Nat) : Int))), (.int .i64 (w.id.server.node)), (.int .u64 (((w.id.server.inc : Nat) : Int)))] true) (an ((wi (by omega)) : IntKind.i64.wrap ((0 : Int) + 1) = 1) trivial)))) fun ac wd r => ?_
  cases h1 : (decide (v.members = w.members)) with
  | false =>
   have qh1 := of_decide_eq_false h1
   rw [show (DV.v (.bool (decide (v = w))) : DV) = .v (.bool false) from (bv (by simp [View.eq_iff, *]))]
   exact toRet tk mo hK rfl [(4, [(0, .n 1)]), (5, [(1, .into 200 [(1, [(4, .con (.v (.bool false)))])])])] 2000 r (by kernel_rfl) (an (rfl : (1 : Int) = ((1 : Nat) : Int)) (an ((by omega) : (1) < 3) (an ((by have k := equalProcs v.members w.members (by omega); rw [h1] at k; exact k) : Con Tryz.prog 86 [.d (.ro 2 (procs v.members)), .d (.ro 2 (procs w.members))] (.v (.bool false))) trivial)))
  | true =>
   have qh1 := of_decide_eq_true h1
   refine toHead (todo' := hd Tryz.f44 0) (E' := [(2, .pt 0 0), (3, .pt 1 0), (12, .ag [.fn 84 [.pt 0 0, .pt 1 0], .fn 85 [.pt 0 0, .pt 1 0], .fn 87 [.pt 0 0, .pt 1 0]]), (13, .z 2)]) (M' := [.bx 44 [.u v.id.round, .z v.id.server.node, .u v.id.server.inc, .d (.ro 2 (procs v.members)), .d (.ro 1 (nums v.starts))], .bx 44 [.u w.id.round, .z w.id.server.node, .u w.id.server.inc, .d (.ro 2 (procs w.members)), .d (.ro 1 (nums w.starts))], .bx 166 [.fn 84 [.pt 0 0, .pt 1 0], .fn 85 [.pt 0 0, .pt 1 0], .fn 87 [.pt 0 0, .pt 1 0]]]) tk mo hK [(4, [(0, .n 1)]), (5, [(1, .into 200 [(1, [(4, .con (.v (.bool true)))])])]), (7, [(0, .z (2))])] 2000 [0, 1, 2] [2, 3, 12, 13] r (by kernel_rfl) (an (rfl : (1 : Int) = ((1 : Nat) : Int)) (an ((by omega) : (1) < 3) (an ((by have k := equalProcs v.members w.members (by omega); rw [h1] at k; exact k) : Con Tryz.prog 86 [.d (.ro 2 (procs v.members)), .d (.ro 2 (procs w.members))] (.v (.bool true))) (an ((wi (by omega)) : IntKind.i64.wrap ((1 : Int) + 1) = 2) trivial)))) fun ac wd r => ?_
   cases h2 : (decide (v.starts = w.starts)) with
   | false =>
    have qh2 := of_decide_eq_false h2
    rw [show (DV.v (.bool (decide (v = w))) : DV) = .v (.bool false) from (bv (by simp [View.eq_iff, *]))]
    exact toRet tk mo hK rfl [(4, [(0, .n 2)]), (5, [(1, .into 200 [(1, [(4, .con (.v (.bool false)))])])])] 2000 r (by kernel_rfl) (an (rfl : (2 : Int) = ((2 : Nat) : Int)) (an ((by omega) : (2) < 3) (an ((by have k := equalNums v.starts w.starts (by omega); rw [h2] at k; exact k) : Con Tryz.prog 88 [.d (.ro 1 (nums v.starts)), .d (.ro 1 (nums w.starts))] (.v (.bool false))) trivial)))
   | true =>
    have qh2 := of_decide_eq_true h2
    refine toHead (todo' := hd Tryz.f44 0) (E' := [(2, .pt 0 0), (3, .pt 1 0), (12, .ag [.fn 84 [.pt 0 0, .pt 1 0], .fn 85 [.pt 0 0, .pt 1 0], .fn 87 [.pt 0 0, .pt 1 0]]), (13, .z 3)]) (M' := [.bx 44 [.u v.id.round, .z v.id.server.node, .u v.id.server.inc, .d (.ro 2 (procs v.members)), .d (.ro 1 (nums v.starts))], .bx 44 [.u w.id.round, .z w.id.server.node, .u w.id.server.inc, .d (.ro 2 (procs w.members)), .d (.ro 1 (nums w.starts))], .bx 166 [.fn 84 [.pt 0 0, .pt 1 0], .fn 85 [.pt 0 0, .pt 1 0], .fn 87 [.pt 0 0, .pt 1 0]]]) tk mo hK [(4, [(0, .n 2)]), (5, [(1, .into 200 [(1, [(4, .con (.v (.bool true)))])])]), (7, [(0, .z (3))])] 2000 [0, 1, 2] [2, 3, 12, 13] r (by kernel_rfl) (an (rfl : (2 : Int) = ((2 : Nat) : Int)) (an ((by omega) : (2) < 3) (an ((by have k := equalNums v.starts w.starts (by omega); rw [h2] at k; exact k) : Con Tryz.prog 88 [.d (.ro 1 (nums v.starts)), .d (.ro 1 (nums w.starts))] (.v (.bool true))) (an ((wi (by omega)) : IntKind.i64.wrap ((2 : Int) + 1) = 3) trivial)))) fun ac wd r => ?_
    rw [show (DV.v (.bool (decide (v = w))) : DV) = .v (.bool true) from (bv (by simp [View.eq_iff, *]))]
    exact toRet tk mo hK rfl [] 2000 r (by kernel_rfl) trivial
set_option maxRecDepth 100000 in
theorem refViewSame (v w : View) (hb : v.bounded) : Con Tryz.prog 52 [.ag [.u v.id.round, .z v.id.server.node, .u v.id.server.inc, .d (.ro 2 (procs v.members)), .d (.ro 1 (nums v.starts))], .ag [.u w.id.round, .z w.id.server.node, .u w.id.server.inc, .d (.ro 2 (procs w.members)), .d (.ro 1 (nums w.starts))]] (DV.v (.bool (decide (v = w)))) := by
 obtain ⟨hb1, hb2⟩ := hb
 refine Con.intro (by kernel_rfl) rfl rfl 46 rfl rfl fun w0 K ac hK r => ?_
 cases h0 : (decide (v.id = w.id)) with
 | false =>
  have qh0 := of_decide_eq_false h0
  rw [show (DV.v (.bool (decide (v = w))) : DV) = .v (.bool false) from (bv (by first | (simp [View.eq_iff, *]; done) | (apply decide_eq_false; rw [View.eq_iff]; rintro ⟨-, -, e⟩; first | (have := congrArg List.length e; omega) | (rw [e, ge_w_starts_i] at ge_v_starts_i; cases ge_v_starts_i; omega)) | (apply decide_eq_true; rw [View.eq_iff]; exact ⟨by simp_all, by simp_all, ext_of (by omega) fun j hj => hv0 j (by omega)⟩)))]
  exact toRet tk mo hK rfl [(1, [(4, .b false)])] 2000 r (by kernel_rfl) (an ((eqT (eqVid _ _) h0) : EqAgg Tryz.prog 40 [(.int .u64 (((v.id.round : Nat) : Int))), (.int .i64 (v.id.server.node)), (.int .u64 (((v.id.server.inc : Nat) : Int)))] [(.int .u64 (((w.id.round : Nat) : Int))), (.int .i64 (w.id.server.node)), (.int .u64 (((w.id.server.inc : Nat) : Int)))] false) trivial)
 | true =>
  have qh0 := of_decide_eq_true h0
  have u0 := ((eqT (eqVid _ _) h0) : EqAgg Tryz.prog 40 [(.int .u64 (((v.id.round : Nat) : Int))), (.int .i64 (v.id.server.node)), (.int .u64 (((v.id.server.inc : Nat) : Int)))] [(.int .u64 (((w.id.round : Nat) : Int))), (.int .i64 (w.id.server.node)), (.int .u64 (((w.id.server.inc : Nat) : Int)))] true)
  cases h1 : (decide (v.members = w.members)) with
  | false =>
   have qh1 := of_decide_eq_false h1
   rw [show (DV.v (.bool (decide (v = w))) : DV) = .v (.bool false) from (bv (by first | (simp [View.eq_iff, *]; done) | (apply decide_eq_false; rw [View.eq_iff]; rintro ⟨-, -, e⟩; first | (have := congrArg List.length e; omega) | (rw [e, ge_w_starts_i] at ge_v_starts_i; cases ge_v_starts_i; omega)) | (apply decide_eq_true; rw [View.eq_iff]; exact ⟨by simp_all, by simp_all, ext_of (by omega) fun j hj => hv0 j (by omega)⟩)))]
   exact toRet tk mo hK rfl [(1, [(4, .b true), (10, .con (.v (.bool false)))])] 2000 r (by kernel_rfl) (an u0 (an ((by have k := refEqual v.members w.members (by omega); rw [h1] at k; exact k) : Con Tryz.prog 95 [.d (.ro 2 (procs v.members)), .d (.ro 2 (procs w.members))] (.v (.bool false))) trivial))
  | true =>
   have qh1 := of_decide_eq_true h1
   have u1 := ((by have k := refEqual v.members w.members (by omega); rw [h1] at k; exact k) : Con Tryz.prog 95 [.d (.ro 2 (procs v.members)), .d (.ro 2 (procs w.members))] (.v (.bool true)))
   have u2 := ((by simp) : (((nums v.starts).length : Nat) : Int) = ((v.starts.length : Nat) : Int))
   have u3 := ((by simp) : (((nums w.starts).length : Nat) : Int) = ((w.starts.length : Nat) : Int))
   cases h2 : ((((v.starts.length : Nat) : Int) : Int) != ((w.starts.length : Nat) : Int)) with
   | false =>
    have qh2 := eq_of_bne h2
    refine toHead (todo' := hd Tryz.f52 0) (E' := [(2, .pt 0 0), (3, .pt 1 0), (5, .n 0)]) (M' := [.bx 44 [.u v.id.round, .z v.id.server.node, .u v.id.server.inc, .d (.ro 2 (procs v.members)), .d (.ro 1 (nums v.starts))], .bx 44 [.u w.id.round, .z w.id.server.node, .u w.id.server.inc, .d (.ro 2 (procs w.members)), .d (.ro 1 (nums w.starts))]]) tk mo hK [(1, [(4, .b true), (10, .con (.v (.bool true))), (16, .z (((v.starts.length : Nat) : Int))), (19, .z (((w.starts.length : Nat) : Int))), (20, .b false)])] 2000 [0, 1] [2, 3, 5] r (by kernel_rfl) (an u0 (an u1 (an u2 (an u3 (an h2 trivial))))) fun ac wd r => ?_
    refine Goes.rounds (Φ := fun (i : Nat) ac wd => (i ≤ v.starts.length ∧ ∀ j, j < i → v.starts[j]? = w.starts[j]?) ∧ RE' [] w0 K 46 [(2, .pt 0 0), (3, .pt 1 0), (5, .n i)] [.bx 44 [.u v.id.round, .z v.id.server.node, .u v.id.server.inc, .d (.ro 2 (procs v.members)), .d (.ro 1 (nums v.starts))], .bx 44 [.u w.id.round, .z w.id.server.node, .u w.id.server.inc, .d (.ro 2 (procs w.members)), .d (.ro 1 (nums w.starts))]] ac wd) (v.starts.length) ?_ (Nat.zero_le _) ⟨⟨by omega, by omega⟩, r⟩
    clear r
    rintro i hi0 again0 ac wd ⟨hv0, r⟩
    obtain ⟨hi1, hv0⟩ := hv0
    cases h3 : (decide ((((i : Nat) : Int) : Int) < ((v.starts.length : Nat) : Int))) with
    | false =>
     have qh3 := of_decide_eq_false h3
     rw [show (DV.v (.bool (decide (v = w))) : DV) = .v (.bool true) from (bv (by first | (simp [View.eq_iff, *]; done) | (apply decide_eq_false; rw [View.eq_iff]; rintro ⟨-, -, e⟩; first | (have := congrArg List.length e; omega) | (rw [e, ge_w_starts_i] at ge_v_starts_i; cases ge_v_starts_i; omega)) | (apply decide_eq_true; rw [View.eq_iff]; exact ⟨by simp_all, by simp_all, ext_of (by omega) fun j hj => hv0 j (by omega)⟩)))]
     exact toRet tk mo hK rfl [(4, [(3, .z (((v.starts.length : Nat) : Int))), (4, .b false)])] 2000 r (by kernel_rfl) (an u2 (an h3 trivial))
    | true =>
     have qh3 := of_decide_eq_true h3
     obtain ⟨e_v_starts_i, ge_v_starts_i⟩ : ∃ x, v.starts[i]? = some x := ⟨_, List.getElem?_eq_getElem (by omega)⟩
     obtain ⟨e_w_starts_i, ge_w_starts_i⟩ : ∃ x, w.starts[i]? = some x := ⟨_, List.getElem?_eq_getElem (by omega)⟩
     cases h4 : ((((e_v_starts_i : Nat) : Int) : Int) != ((e_w_starts_i : Nat) : Int)) with
     | false =>
      have qh4 := eq_of_bne h4
      exact toHead (todo' := hd Tryz.f52 0) tk mo hK [(4, [(3, .z (((v.starts.length : Nat) : Int))), (4, .b true)]), (5, [(1, .z (((i + 1 : Nat) : Int)))]), (6, [(3, .ix (i) [.u e_v_starts_i]), (8, .ix (i) [.u e_w_starts_i]), (10, .b false)])] 2000 [0, 1] [2, 3, 5] r (by kernel_rfl) (an u2 (an h3 (an (rfI ((i : Nat) : Int)) (an (nums_at ge_v_starts_i) (an (rfI ((i : Nat) : Int)) (an (nums_at ge_w_starts_i) (an h4 (an ((wi (by omega)) : IntKind.i64.wrap ((((i : Nat) : Int) : Int) + 1) = ((i + 1 : Nat) : Int)) trivial)))))))) fun ac wd r => again0 (by omega) ac wd ⟨⟨by omega, fun j hj => by rcases Nat.lt_succ_iff_lt_or_eq.1 hj with h | rfl; exact hv0 j h; simp only [ge_v_starts_i, ge_w_starts_i, Option.some.injEq]; first | assumption | omega⟩, r⟩
     | true =>
      have qh4 : ¬ _ = _ := bne_iff_ne.1 h4
      rw [show (DV.v (.bool (decide (v = w))) : DV) = .v (.bool false) from (bv (by first | (simp [View.eq_iff, *]; done) | (apply decide_eq_false; rw [View.eq_iff]; rintro ⟨-, -, e⟩; first | (have := congrArg List.length e; omega) | (rw [e, ge_w_starts_i] at ge_v_starts_i; cases ge_v_starts_i; omega)) | (apply decide_eq_true; rw [View.eq_iff]; exact ⟨by simp_all, by simp_all, ext_of (by omega) fun j hj => hv0 j (by omega)⟩)))]
      exact toRet tk mo hK rfl [(4, [(3, .z (((v.starts.length : Nat) : Int))), (4, .b true)]), (6, [(3, .ix (i) [.u e_v_starts_i]), (8, .ix (i) [.u e_w_starts_i]), (10, .b true)])] 2000 r (by kernel_rfl) (an u2 (an h3 (an (rfI ((i : Nat) : Int)) (an (nums_at ge_v_starts_i) (an (rfI ((i : Nat) : Int)) (an (nums_at ge_w_starts_i) (an h4 trivial)))))))
   | true =>
    have qh2 : ¬ _ = _ := bne_iff_ne.1 h2
    rw [show (DV.v (.bool (decide (v = w))) : DV) = .v (.bool false) from (bv (by first | (simp [View.eq_iff, *]; done) | (apply decide_eq_false; rw [View.eq_iff]; rintro ⟨-, -, e⟩; first | (have := congrArg List.length e; omega) | (rw [e, ge_w_starts_i] at ge_v_starts_i; cases ge_v_starts_i; omega)) | (apply decide_eq_true; rw [View.eq_iff]; exact ⟨by simp_all, by simp_all, ext_of (by omega) fun j hj => hv0 j (by omega)⟩)))]
    exact toRet tk mo hK rfl [(1, [(4, .b true), (10, .con (.v (.bool true))), (16, .z (((v.starts.length : Nat) : Int))), (19, .z (((w.starts.length : Nat) : Int))), (20, .b true)])] 2000 r (by kernel_rfl) (an u0 (an u1 (an u2 (an u3 (an h2 trivial)))))
set_option maxRecDepth 100000 in
theorem containsNum (l : List Nat) (x : Nat) (hb : l.length < 2147483648) : Con Tryz.prog 80 [.d (.ro 1 (nums l)), .u x] (DV.v (.bool (decide (0 ≤ idx l x 0)))) := by
 refine Con.intro (by kernel_rfl) rfl rfl 9 rfl rfl fun w0 K ac hK r => ?_
 have u0 := (indexNums _ _ (by omega) : Con Tryz.prog 125 [.d (.ro 1 (nums l)), .u x] (.z (idx l x 0)))
 cases h0 : (decide ((0 : Int) ≤ idx l x 0)) with
 | false =>
  have qh0 := of_decide_eq_false h0
  exact toRet tk mo hK rfl [(1, [(2, .con (.z (idx l x 0))), (3, .b false)])] 2000 r (by kernel_rfl) (an u0 (an h0 trivial))
 | true =>
  have qh0 := of_decide_eq_true h0
  exact toRet tk mo hK rfl [(1, [(2, .con (.z (idx l x 0))), (3, .b true)])] 2000 r (by kernel_rfl) (an u0 (an h0 trivial))
set_option maxRecDepth 100000 in
theorem viewPlace (v : View) (p : Proc) (hb : v.bounded) : Con Tryz.prog 39 [.ag [.u v.id.round, .z v.id.server.node, .u v.id.server.inc, .d (.ro 2 (procs v.members)), .d (.ro 1 (nums v.starts))], .ag [.z p.node, .u p.inc]] (.tu [.v (.int .i64 ((placeN v.members p : Nat) : Int)), .v (.bool (placeB v.members p))]) := by
 obtain ⟨hb1, hb2⟩ := hb
 refine Con.intro (by kernel_rfl) rfl rfl 14 rfl rfl fun w0 K ac hK r => ?_
 have u0 := (indexProcs _ _ (by omega) : Con Tryz.prog 76 [.d (.ro 2 (procs v.members)), .ag [.z p.node, .u p.inc]] (.z (idx v.members p 0)))
 cases h0 : (decide ((idx v.members p 0 : Int) < 0)) with
 | false =>
  have qh0 := of_decide_eq_false h0
  rw [show (.tu [.v (.int .i64 ((placeN v.members p : Nat) : Int)), .v (.bool (placeB v.members p))] : DV) = .tu [.z (idx v.members p 0), .v (.bool true)] from (by unfold placeN placeB; simp; omega)]
  exact toRet tk mo hK rfl [(1, [(3, .con (.z (idx v.members p 0)))]), (2, [(1, .b false)])] 2000 r (by kernel_rfl) (an u0 (an h0 trivial))
 | true =>
  have qh0 := of_decide_eq_true h0
  rw [show (.tu [.v (.int .i64 ((placeN v.members p : Nat) : Int)), .v (.bool (placeB v.members p))] : DV) = .tu [.z 0, .v (.bool false)] from (by unfold placeN placeB; simp; omega)]
  exact toRet tk mo hK rfl [(1, [(3, .con (.z (idx v.members p 0)))]), (2, [(1, .b true)])] 2000 r (by kernel_rfl) (an u0 (an h0 trivial))
set_option maxRecDepth 100000 in
theorem refLives (l : List Proc) (hb : l.length < 2147483648) : Con Tryz.prog 93 [.d (.ro 2 (procs l))] (DV.v (.bool (lone l))) := by
 refine Con.intro (by kernel_rfl) rfl rfl 27 rfl rfl fun w0 K ac hK r => ?_
 refine toHead (todo' := hd Tryz.f93 0) (E' := [(0, .d (.ro 2 (procs l))), (3, .n 0)]) (M' := []) tk mo hK [] 2000 [] [0, 3] r (by kernel_rfl) trivial fun ac wd r => ?_
 refine Goes.rounds (Φ := fun (i : Nat) ac wd => (i ≤ l.length ∧ Lone l i) ∧ RE' [] w0 K 27 [(0, .d (.ro 2 (procs l))), (3, .n i)] [] ac wd) (l.length) ?_ (Nat.zero_le _) ⟨⟨by omega, by simp [Lone]⟩, r⟩
 clear r
 rintro i hi0 again0 ac wd ⟨hv0, r⟩
 obtain ⟨hi1, hv0⟩ := hv0
 have u0 := ((by simp) : (((procs l).length : Nat) : Int) = ((l.length : Nat) : Int))
 cases h0 : (decide ((((i : Nat) : Int) : Int) < ((l.length : Nat) : Int))) with
 | false =>
  have qh0 := of_decide_eq_false h0
  rw [show (DV.v (.bool (lone l)) : DV) = .v (.bool true) from (bv (by first | exact lone_yes (by rw [show l.length = i by omega]; exact hv0) | exact lone_no (a := i) (b := j) (by omega) (by omega) ge_l_i ge_l_j (by assumption)))]
  exact toRet tk mo hK rfl [(2, [(2, .z (((l.length : Nat) : Int))), (3, .b false)])] 2000 r (by kernel_rfl) (an u0 (an h0 trivial))
 | true =>
  have qh0 := of_decide_eq_true h0
  obtain ⟨e_l_i, ge_l_i⟩ : ∃ x, l[i]? = some x := ⟨_, List.getElem?_eq_getElem (by omega)⟩
  refine toHead (todo' := hd Tryz.f93 1) (E' := [(0, .d (.ro 2 (procs l))), (3, .n i), (4, .n 0)]) (M' := []) tk mo hK [(2, [(2, .z (((l.length : Nat) : Int))), (3, .b true)])] 2000 [] [0, 3, 4] r (by kernel_rfl) (an u0 (an h0 trivial)) fun ac wd r => ?_
  refine Goes.rounds (Φ := fun (j : Nat) ac wd => (j ≤ i ∧ ∀ b q, b < j → l[b]? = some q → q.node ≠ e_l_i.node) ∧ RE' [] w0 K 27 [(0, .d (.ro 2 (procs l))), (3, .n i), (4, .n j)] [] ac wd) (i) ?_ (Nat.zero_le _) ⟨⟨by omega, by omega⟩, r⟩
  clear r
  rintro j hi1 again1 ac wd ⟨hv1, r⟩
  obtain ⟨hj1, hv1⟩ := hv1
  cases h1 : (decide ((((j : Nat) : Int) : Int) < ((i : Nat) : Int))) with
  | false =>
   have qh1 := of_decide_eq_false h1
   exact toHead (todo' := hd Tryz.f93 0) tk mo hK [(3, [(1, .z (((i + 1 : Nat) : Int)))]), (5, [(2, .b false)])] 2000 [] [0, 3] r (by kernel_rfl) (an h1 (an ((wi (by omega)) : IntKind.i64.wrap ((((i : Nat) : Int) : Int) + 1) = ((i + 1 : Nat) : Int)) trivial)) fun ac wd r => again0 (by omega) ac wd ⟨⟨by omega, fun a b p q ha hb hp hq => by rcases Nat.lt_succ_iff_lt_or_eq.1 ha with h | rfl; exact hv0 a b p q h hb hp hq; rw [ge_l_i] at hp; cases hp; exact hv1 b q (by omega) hq⟩, r⟩
  | true =>
   have qh1 := of_decide_eq_true h1
   obtain ⟨e_l_j, ge_l_j⟩ : ∃ x, l[j]? = some x := ⟨_, List.getElem?_eq_getElem (by omega)⟩
   cases h2 : ((e_l_j.node : Int) == e_l_i.node) with
   | false =>
    have qh2 := ne_of_beq_false h2
    exact toHead (todo' := hd Tryz.f93 1) tk mo hK [(5, [(2, .b true)]), (6, [(1, .z (((j + 1 : Nat) : Int)))]), (7, [(2, .ix (j) [.z e_l_j.node, .u e_l_j.inc]), (7, .ix (i) [.z e_l_i.node, .u e_l_i.inc]), (10, .b false)])] 2000 [] [0, 3, 4] r (by kernel_rfl) (an h1 (an (rfI ((j : Nat) : Int)) (an (procs_at ge_l_j) (an (rfI ((i : Nat) : Int)) (an (procs_at ge_l_i) (an h2 (an ((wi (by omega)) : IntKind.i64.wrap ((((j : Nat) : Int) : Int) + 1) = ((j + 1 : Nat) : Int)) trivial))))))) fun ac wd r => again1 (by omega) ac wd ⟨⟨by omega, fun b q hb hq => by rcases Nat.lt_succ_iff_lt_or_eq.1 hb with h | rfl; exact hv1 b q h hq; rw [ge_l_j] at hq; cases hq; assumption⟩, r⟩
   | true =>
    have qh2 := eq_of_beq h2
    rw [show (DV.v (.bool (lone l)) : DV) = .v (.bool false) from (bv (by first | exact lone_yes (by rw [show l.length = i by omega]; exact hv0) | exact lone_no (a := i) (b := j) (by omega) (by omega) ge_l_i ge_l_j (by assumption)))]
    exact toRet tk mo hK rfl [(5, [(2, .b true)]), (7, [(2, .ix (j) [.z e_l_j.node, .u e_l_j.inc]), (7, .ix (i) [.z e_l_i.node, .u e_l_i.inc]), (10, .b true)])] 2000 r (by kernel_rfl) (an h1 (an (rfI ((j : Nat) : Int)) (an (procs_at ge_l_j) (an (rfI ((i : Nat) : Int)) (an (procs_at ge_l_i) (an h2 trivial))))))
end Go.Proofs.YtilhbhpldkjkaaaGreat
namespace Go.Proofs.YtilhbhpldkjkaaaGreat
open Go.RowKit
structure Slot where
 n : Nat
 body : List UInt8
deriving DecidableEq
def Slot.row (s : Slot) : List DV := [.v (.int .u64 (s.n : Int)), .ro 1 (bytesR s.body)]
abbrev slots (l : List Slot) : List (List DV) := l.map Slot.row
def findS (l : List Slot) (n : Nat) : Int := idx (l.map Slot.n) n 0
set_option maxRecDepth 100000 in
theorem cloneProcs_some (l : List Proc) (h0 : 0 < l.length) (hb : l.length < 2147483648) : Con Tryz.prog 99 [.d (.ro 2 (procs l))] (DV.em 38 2 (procs l)) := by
 refine Con.intro (by kernel_rfl) rfl rfl 8 rfl rfl fun w0 K ac hK r => ?_
 rw [show (DV.em 38 2 (procs l) : DV) = .em 38 2 ([] ++ (procs l)) from rfl]
 exact toRet tk mo hK rfl [] 2000 r (by kernel_rfl) (an ((by simpa using h0) : 0 < (procs l).length) (an ((by simp) : (0) = ([] : List (List DV)).length) (an ((by simp; omega) : (2 * ((0) + (procs l).length) + 192) * 16 ≤ 281474976710656) (an ((by simp; omega) : (0) + (procs l).length < 4611686018427387904) (an ((by simp [OneR, AV.one, oneC, Proc.row]) : OneR (procs l)) (an ((by simp) : (0 + (procs l).length) = ([] ++ (procs l) : List (List DV)).length) trivial))))))
set_option maxRecDepth 100000 in
theorem cloneProcs_none (c : Nat) : Con Tryz.prog 99 [.d (.v (.slice none 0 c))] (DV.v (.slice none 0 0)) := by
 refine Con.intro (by kernel_rfl) rfl rfl 8 rfl rfl fun w0 K ac hK r => ?_
 exact toRet tk mo hK rfl [] 2000 r (by kernel_rfl) trivial
set_option maxRecDepth 100000 in
theorem cloneProcs_no (a : Addr) (c : Nat) : Con Tryz.prog 99 [.d (.v (.slice (some a) 0 c))] (DV.em 38 2 ([] ++ [])) := by
 refine Con.intro (by kernel_rfl) rfl rfl 8 rfl rfl fun w0 K ac hK r => ?_
 exact toRet tk mo hK rfl [] 2000 r (by kernel_rfl) (an ((by simp) : (0) = ([] : List (List DV)).length) (an ((by simp) : (2 * ((0) + 0) + 192) * 16 ≤ 281474976710656) (an ((by simp) : (0) + 0 < 4611686018427387904) (an ((by simp [OneR]) : OneR (([] : List (List DV)))) (an ((by simp) : (0 + 0) = ([] ++ ([] : List (List DV)) : List (List DV)).length) trivial)))))
theorem cloneProcs (l : List Proc) (hb : l.length < 2147483648) : Con Tryz.prog 99 [.d (.ro 2 (procs l))] (.em 38 2 (procs l)) := by
 cases l with
 | nil =>
  refine Con.empty (pre := []) (post := []) fun a c => ?_
  cases a with
  | none => exact Con.nil 38 2 (cloneProcs_none c)
  | some a => exact cloneProcs_no a c
 | cons b l => exact cloneProcs_some (b :: l) (by simp) hb
end Go.Proofs.YtilhbhpldkjkaaaGreat
namespace Go.Proofs.YtilhbhpldkjkaaaGreat
open Go.RowKit
structure Msg where
 src : Proc
 n : Nat
 body : List UInt8
deriving DecidableEq
end Go.Proofs.YtilhbhpldkjkaaaGreat
namespace Go.Proofs.YtilhbhpldkjkaaaGreat
open Go.RowKit
theorem ind_v (x : Value) : Ind (.v x) := by intro K K2 y H h; cases h; exact .v _
def View.may (v : View) : Bool :=
 if v.id.round = 0 then v.id.server.may && decide (v = View.first v.id.server)
 else v.id.may && decide (1 ≤ v.members.length) && decide (v.members.length ≤ 6) && decide (v.starts.length = v.members.length) && isSet v.members && lone v.members && v.starts.all fun n => decide (n ≠ 0)
theorem all_yes {l : List Nat} {q : Nat → Bool} (h : ∀ (j x : Nat), j < l.length → l[j]? = some x → q x = true) : l.all q = true := by
 rw [List.all_eq_true]; intro x hx
 obtain ⟨j, hj, rfl⟩ := List.getElem_of_mem hx
 exact h j _ hj (List.getElem?_eq_getElem hj)
theorem all_no {l : List Nat} {q : Nat → Bool} {j x : Nat} (h : l[j]? = some x) (hq : q x = false) : l.all q = false := by
 cases ha : l.all q with
 | false => rfl
 | true => rw [List.all_eq_true] at ha; have := ha x (List.mem_of_getElem? h); rw [hq] at this; cases this
theorem View.may_no {v : View} {i x : Nat} (h : v.id.round ≠ 0) (hx : v.starts[i]? = some x) (h0 : x = 0) : v.may = false := by
 unfold View.may; rw [if_neg h, all_no hx (by simp [h0])]; simp
theorem View.may_yes {v : View} {i : Nat} (h : v.id.round ≠ 0) (h1 : v.id.may = true) (h2 : 1 ≤ v.members.length) (h3 : v.members.length ≤ 6) (h4 : v.starts.length = v.members.length) (h5 : isSet v.members = true) (h6 : lone v.members = true) (hi : v.starts.length ≤ i) (hs : ∀ (j x : Nat), j < i → v.starts[j]? = some x → x ≠ 0) : v.may = true := by
 unfold View.may; rw [if_neg h, all_yes fun j x hj hx => decide_eq_true (hs j x (Nat.lt_of_lt_of_le hj hi) hx)]; simp [*]
theorem View.may_first {v : View} (h : v.id.round = 0) : v.may = (v.id.server.may && decide (v = View.first v.id.server)) := by unfold View.may; rw [if_pos h]
theorem View.may_first0 {v : View} (h : v.id.round = 0) (h1 : v.id.server.may = false) : v.may = false := by rw [View.may_first h, h1]; rfl
theorem View.may_first1 {v : View} {c : Bool} (h : v.id.round = 0) (h1 : v.id.server.may = true) (h2 : decide (v = View.first v.id.server) = c) : v.may = c := by rw [View.may_first h, h1, h2]; rfl
theorem View.may_bad {v : View} (h : v.id.round ≠ 0) (hb : v.id.may = false ∨ v.members.length < 1 ∨ 6 < v.members.length ∨ v.starts.length ≠ v.members.length ∨ isSet v.members = false ∨ lone v.members = false) : v.may = false := by
 unfold View.may; rw [if_neg h]
 rcases hb with h | h | h | h | h | h
 ·simp [h]
 ·rw [decide_eq_false (by omega : ¬ 1 ≤ v.members.length)]; simp
 ·rw [decide_eq_false (by omega : ¬ v.members.length ≤ 6)]; simp
 ·simp [h]
 ·simp [h]
 ·simp [h]
set_option maxRecDepth 100000 in
theorem refViewMay (v : View) (hb : v.bounded) : Con Tryz.prog 50 [.ag [.u v.id.round, .z v.id.server.node, .u v.id.server.inc, .d (.ro 2 (procs v.members)), .d (.ro 1 (nums v.starts))]] (DV.v (.bool v.may)) := by
 obtain ⟨hb1, hb2⟩ := id hb
 refine Con.intro (by kernel_rfl) rfl rfl 70 rfl rfl fun w0 K ac hK r => ?_
 cases h0 : ((((v.id.round : Nat) : Int) : Int) == 0) with
 | false =>
  have qh0 := ne_of_beq_false h0
  cases h1 : (v.id.may) with
  | false =>
   rw [show (DV.v (.bool v.may) : DV) = .v (.bool false) from (bv (by first | exact View.may_no (by omega) ge_v_starts_i (by omega) | exact View.may_yes (by omega) (by assumption) (by omega) (by omega) (by omega) (by assumption) (by assumption) (by omega) hv0 | exact View.may_first0 (by omega) (by assumption) | exact View.may_first1 (by omega) (by assumption) (by assumption) | exact View.may_bad (by omega) (by first | (left; assumption) | (right; left; omega) | (right; right; left; omega) | (right; right; right; left; omega) | (right; right; right; right; left; assumption) | (right; right; right; right; right; assumption))))]
   exact toRet tk mo hK rfl [(1, [(3, .b false)]), (3, [(2, .con (.v (.bool false)))])] 2000 r (by kernel_rfl) (an h0 (an ((by have k := refMayId v.id; rw [h1] at k; exact k) : Con Tryz.prog 91 [.ag [.u v.id.round, .z v.id.server.node, .u v.id.server.inc]] (.v (.bool false))) trivial))
  | true =>
   have u0 := ((by have k := refMayId v.id; rw [h1] at k; exact k) : Con Tryz.prog 91 [.ag [.u v.id.round, .z v.id.server.node, .u v.id.server.inc]] (.v (.bool true)))
   have u1 := ((by simp) : (((procs v.members).length : Nat) : Int) = ((v.members.length : Nat) : Int))
   cases h2 : (decide ((((v.members.length : Nat) : Int) : Int) < 1)) with
   | false =>
    have qh2 := of_decide_eq_false h2
    cases h3 : (decide ((6 : Int) < ((v.members.length : Nat) : Int))) with
    | false =>
     have qh3 := of_decide_eq_false h3
     have u2 := ((by simp) : (((nums v.starts).length : Nat) : Int) = ((v.starts.length : Nat) : Int))
     cases h4 : ((((v.starts.length : Nat) : Int) : Int) != ((v.members.length : Nat) : Int)) with
     | false =>
      have qh4 := eq_of_bne h4
      cases h5 : (isSet v.members) with
      | false =>
       rw [show (DV.v (.bool v.may) : DV) = .v (.bool false) from (bv (by first | exact View.may_no (by omega) ge_v_starts_i (by omega) | exact View.may_yes (by omega) (by assumption) (by omega) (by omega) (by omega) (by assumption) (by assumption) (by omega) hv0 | exact View.may_first0 (by omega) (by assumption) | exact View.may_first1 (by omega) (by assumption) (by assumption) | exact View.may_bad (by omega) (by first | (left; assumption) | (right; left; omega) | (right; right; left; omega) | (right; right; right; left; omega) | (right; right; right; right; left; assumption) | (right; right; right; right; right; assumption))))]
       exact toRet tk mo hK rfl [(1, [(3, .b false)]), (3, [(2, .con (.v (.bool true))), (7, .z (((v.members.length : Nat) : Int))), (8, .b false), (13, .z (((v.members.length : Nat) : Int))), (14, .b false), (19, .z (((v.starts.length : Nat) : Int))), (22, .z (((v.members.length : Nat) : Int))), (23, .b false), (28, .con (.v (.bool false)))])] 2000 r (by kernel_rfl) (an h0 (an u0 (an u1 (an h2 (an u1 (an h3 (an u2 (an u1 (an h4 (an ((by have k := refSet v.members (by omega); rw [h5] at k; exact k) : Con Tryz.prog 92 [.d (.ro 2 (procs v.members))] (.v (.bool false))) trivial))))))))))
      | true =>
       have u3 := ((by have k := refSet v.members (by omega); rw [h5] at k; exact k) : Con Tryz.prog 92 [.d (.ro 2 (procs v.members))] (.v (.bool true)))
       cases h6 : (lone v.members) with
       | false =>
        rw [show (DV.v (.bool v.may) : DV) = .v (.bool false) from (bv (by first | exact View.may_no (by omega) ge_v_starts_i (by omega) | exact View.may_yes (by omega) (by assumption) (by omega) (by omega) (by omega) (by assumption) (by assumption) (by omega) hv0 | exact View.may_first0 (by omega) (by assumption) | exact View.may_first1 (by omega) (by assumption) (by assumption) | exact View.may_bad (by omega) (by first | (left; assumption) | (right; left; omega) | (right; right; left; omega) | (right; right; right; left; omega) | (right; right; right; right; left; assumption) | (right; right; right; right; right; assumption))))]
        exact toRet tk mo hK rfl [(1, [(3, .b false)]), (3, [(2, .con (.v (.bool true))), (7, .z (((v.members.length : Nat) : Int))), (8, .b false), (13, .z (((v.members.length : Nat) : Int))), (14, .b false), (19, .z (((v.starts.length : Nat) : Int))), (22, .z (((v.members.length : Nat) : Int))), (23, .b false), (28, .con (.v (.bool true))), (34, .con (.v (.bool false)))])] 2000 r (by kernel_rfl) (an h0 (an u0 (an u1 (an h2 (an u1 (an h3 (an u2 (an u1 (an h4 (an u3 (an ((by have k := refLives v.members (by omega); rw [h6] at k; exact k) : Con Tryz.prog 93 [.d (.ro 2 (procs v.members))] (.v (.bool false))) trivial)))))))))))
       | true =>
        refine toHead (todo' := hd Tryz.f50 0) (E' := [(1, .pt 0 0), (3, .n 0)]) (M' := [.bx 44 [.u v.id.round, .z v.id.server.node, .u v.id.server.inc, .d (.ro 2 (procs v.members)), .d (.ro 1 (nums v.starts))]]) tk mo hK [(1, [(3, .b false)]), (3, [(2, .con (.v (.bool true))), (7, .z (((v.members.length : Nat) : Int))), (8, .b false), (13, .z (((v.members.length : Nat) : Int))), (14, .b false), (19, .z (((v.starts.length : Nat) : Int))), (22, .z (((v.members.length : Nat) : Int))), (23, .b false), (28, .con (.v (.bool true))), (34, .con (.v (.bool true)))])] 2000 [0] [1, 3] r (by kernel_rfl) (an h0 (an u0 (an u1 (an h2 (an u1 (an h3 (an u2 (an u1 (an h4 (an u3 (an ((by have k := refLives v.members (by omega); rw [h6] at k; exact k) : Con Tryz.prog 93 [.d (.ro 2 (procs v.members))] (.v (.bool true))) trivial))))))))))) fun ac wd r => ?_
        refine Goes.rounds (Φ := fun (i : Nat) ac wd => (i ≤ v.starts.length ∧ ∀ (j x : Nat), j < i → v.starts[j]? = some x → x ≠ 0) ∧ RE' [] w0 K 70 [(1, .pt 0 0), (3, .n i)] [.bx 44 [.u v.id.round, .z v.id.server.node, .u v.id.server.inc, .d (.ro 2 (procs v.members)), .d (.ro 1 (nums v.starts))]] ac wd) (v.starts.length) ?_ (Nat.zero_le _) ⟨⟨by omega, by omega⟩, r⟩
        clear r
        rintro i hi0 again0 ac wd ⟨hv0, r⟩
        obtain ⟨hi1, hv0⟩ := hv0
        cases h7 : (decide ((((i : Nat) : Int) : Int) < ((v.starts.length : Nat) : Int))) with
        | false =>
         have qh7 := of_decide_eq_false h7
         rw [show (DV.v (.bool v.may) : DV) = .v (.bool true) from (bv (by first | exact View.may_no (by omega) ge_v_starts_i (by omega) | exact View.may_yes (by omega) (by assumption) (by omega) (by omega) (by omega) (by assumption) (by assumption) (by omega) hv0 | exact View.may_first0 (by omega) (by assumption) | exact View.may_first1 (by omega) (by assumption) (by assumption) | exact View.may_bad (by omega) (by first | (left; assumption) | (right; left; omega) | (right; right; left; omega) | (right; right; right; left; omega) | (right; right; right; right; left; assumption) | (right; right; right; right; right; assumption))))]
         exact toRet tk mo hK rfl [(6, [(3, .z (((v.starts.length : Nat) : Int))), (4, .b false)])] 2000 r (by kernel_rfl) (an u2 (an h7 trivial))
        | true =>
         have qh7 := of_decide_eq_true h7
         obtain ⟨e_v_starts_i, ge_v_starts_i⟩ : ∃ x, v.starts[i]? = some x := ⟨_, List.getElem?_eq_getElem (by omega)⟩
         cases h8 : ((((e_v_starts_i : Nat) : Int) : Int) == 0) with
         | false =>
          have qh8 := ne_of_beq_false h8
          exact toHead (todo' := hd Tryz.f50 0) tk mo hK [(6, [(3, .z (((v.starts.length : Nat) : Int))), (4, .b true)]), (7, [(1, .z (((i + 1 : Nat) : Int)))]), (8, [(3, .ix (i) [.u e_v_starts_i]), (5, .b false)])] 2000 [0] [1, 3] r (by kernel_rfl) (an u2 (an h7 (an (rfI ((i : Nat) : Int)) (an (nums_at ge_v_starts_i) (an h8 (an ((wi (by omega)) : IntKind.i64.wrap ((((i : Nat) : Int) : Int) + 1) = ((i + 1 : Nat) : Int)) trivial)))))) fun ac wd r => again0 (by omega) ac wd ⟨⟨by omega, fun j x hj hx => by rcases Nat.lt_succ_iff_lt_or_eq.1 hj with h | rfl; exact hv0 j x h hx; rw [ge_v_starts_i] at hx; cases hx; omega⟩, r⟩
         | true =>
          have qh8 := eq_of_beq h8
          rw [show (DV.v (.bool v.may) : DV) = .v (.bool false) from (bv (by first | exact View.may_no (by omega) ge_v_starts_i (by omega) | exact View.may_yes (by omega) (by assumption) (by omega) (by omega) (by omega) (by assumption) (by assumption) (by omega) hv0 | exact View.may_first0 (by omega) (by assumption) | exact View.may_first1 (by omega) (by assumption) (by assumption) | exact View.may_bad (by omega) (by first | (left; assumption) | (right; left; omega) | (right; right; left; omega) | (right; right; right; left; omega) | (right; right; right; right; left; assumption) | (right; right; right; right; right; assumption))))]
          exact toRet tk mo hK rfl [(6, [(3, .z (((v.starts.length : Nat) : Int))), (4, .b true)]), (8, [(3, .ix (i) [.u e_v_starts_i]), (5, .b true)])] 2000 r (by kernel_rfl) (an u2 (an h7 (an (rfI ((i : Nat) : Int)) (an (nums_at ge_v_starts_i) (an h8 trivial)))))
     | true =>
      have qh4 : ¬ _ = _ := bne_iff_ne.1 h4
      rw [show (DV.v (.bool v.may) : DV) = .v (.bool false) from (bv (by first | exact View.may_no (by omega) ge_v_starts_i (by omega) | exact View.may_yes (by omega) (by assumption) (by omega) (by omega) (by omega) (by assumption) (by assumption) (by omega) hv0 | exact View.may_first0 (by omega) (by assumption) | exact View.may_first1 (by omega) (by assumption) (by assumption) | exact View.may_bad (by omega) (by first | (left; assumption) | (right; left; omega) | (right; right; left; omega) | (right; right; right; left; omega) | (right; right; right; right; left; assumption) | (right; right; right; right; right; assumption))))]
      exact toRet tk mo hK rfl [(1, [(3, .b false)]), (3, [(2, .con (.v (.bool true))), (7, .z (((v.members.length : Nat) : Int))), (8, .b false), (13, .z (((v.members.length : Nat) : Int))), (14, .b false), (19, .z (((v.starts.length : Nat) : Int))), (22, .z (((v.members.length : Nat) : Int))), (23, .b true)])] 2000 r (by kernel_rfl) (an h0 (an u0 (an u1 (an h2 (an u1 (an h3 (an u2 (an u1 (an h4 trivial)))))))))
    | true =>
     have qh3 := of_decide_eq_true h3
     rw [show (DV.v (.bool v.may) : DV) = .v (.bool false) from (bv (by first | exact View.may_no (by omega) ge_v_starts_i (by omega) | exact View.may_yes (by omega) (by assumption) (by omega) (by omega) (by omega) (by assumption) (by assumption) (by omega) hv0 | exact View.may_first0 (by omega) (by assumption) | exact View.may_first1 (by omega) (by assumption) (by assumption) | exact View.may_bad (by omega) (by first | (left; assumption) | (right; left; omega) | (right; right; left; omega) | (right; right; right; left; omega) | (right; right; right; right; left; assumption) | (right; right; right; right; right; assumption))))]
     exact toRet tk mo hK rfl [(1, [(3, .b false)]), (3, [(2, .con (.v (.bool true))), (7, .z (((v.members.length : Nat) : Int))), (8, .b false), (13, .z (((v.members.length : Nat) : Int))), (14, .b true)])] 2000 r (by kernel_rfl) (an h0 (an u0 (an u1 (an h2 (an u1 (an h3 trivial))))))
   | true =>
    have qh2 := of_decide_eq_true h2
    rw [show (DV.v (.bool v.may) : DV) = .v (.bool false) from (bv (by first | exact View.may_no (by omega) ge_v_starts_i (by omega) | exact View.may_yes (by omega) (by assumption) (by omega) (by omega) (by omega) (by assumption) (by assumption) (by omega) hv0 | exact View.may_first0 (by omega) (by assumption) | exact View.may_first1 (by omega) (by assumption) (by assumption) | exact View.may_bad (by omega) (by first | (left; assumption) | (right; left; omega) | (right; right; left; omega) | (right; right; right; left; omega) | (right; right; right; right; left; assumption) | (right; right; right; right; right; assumption))))]
    exact toRet tk mo hK rfl [(1, [(3, .b false)]), (3, [(2, .con (.v (.bool true))), (7, .z (((v.members.length : Nat) : Int))), (8, .b true)])] 2000 r (by kernel_rfl) (an h0 (an u0 (an u1 (an h2 trivial))))
 | true =>
  have qh0 := eq_of_beq h0
  cases h9 : (v.id.server.may) with
  | false =>
   rw [show (DV.v (.bool v.may) : DV) = .v (.bool false) from (bv (by first | exact View.may_no (by omega) ge_v_starts_i (by omega) | exact View.may_yes (by omega) (by assumption) (by omega) (by omega) (by omega) (by assumption) (by assumption) (by omega) hv0 | exact View.may_first0 (by omega) (by assumption) | exact View.may_first1 (by omega) (by assumption) (by assumption) | exact View.may_bad (by omega) (by first | (left; assumption) | (right; left; omega) | (right; right; left; omega) | (right; right; right; left; omega) | (right; right; right; right; left; assumption) | (right; right; right; right; right; assumption))))]
   exact toRet tk mo hK rfl [(1, [(3, .b true)]), (2, [(3, .con (.v (.bool false)))])] 2000 r (by kernel_rfl) (an h0 (an ((by have k := refProcMay v.id.server; rw [h9] at k; exact k) : Con Tryz.prog 48 [.ag [.z v.id.server.node, .u v.id.server.inc]] (.v (.bool false))) trivial))
  | true =>
   have u4 := ((by have k := refProcMay v.id.server; rw [h9] at k; exact k) : Con Tryz.prog 48 [.ag [.z v.id.server.node, .u v.id.server.inc]] (.v (.bool true)))
   cases h10 : (decide (v = View.first v.id.server)) with
   | false =>
    have qh10 := of_decide_eq_false h10
    rw [show (DV.v (.bool v.may) : DV) = .v (.bool false) from (bv (by first | exact View.may_no (by omega) ge_v_starts_i (by omega) | exact View.may_yes (by omega) (by assumption) (by omega) (by omega) (by omega) (by assumption) (by assumption) (by omega) hv0 | exact View.may_first0 (by omega) (by assumption) | exact View.may_first1 (by omega) (by assumption) (by assumption) | exact View.may_bad (by omega) (by first | (left; assumption) | (right; left; omega) | (right; right; left; omega) | (right; right; right; left; omega) | (right; right; right; right; left; assumption) | (right; right; right; right; right; assumption))))]
    exact toRet tk mo hK rfl [(1, [(3, .b true)]), (2, [(3, .con (.v (.bool true))), (9, .con (.ag [.v (.int .u64 0), .z v.id.server.node, .u v.id.server.inc, .em 38 2 (procs [v.id.server]), .em 36 1 (nums [0])])), (10, .call [.ag [.u v.id.round, .z v.id.server.node, .u v.id.server.inc, .d (.ro 2 (procs v.members)), .d (.ro 1 (nums v.starts))], .ag [.d (.v (.int .u64 0)), .z v.id.server.node, .u v.id.server.inc, .d (.ro 2 (procs [v.id.server])), .d (.ro 1 (nums [0]))]] (.v (.bool false)))])] 2000 r (by kernel_rfl) (an h0 (an u4 (an (refFirst v.id.server) (an ((by have k := refViewSame v (View.first v.id.server) hb; rw [h10] at k; exact k) : Con Tryz.prog 52 [.ag [.u v.id.round, .z v.id.server.node, .u v.id.server.inc, .d (.ro 2 (procs v.members)), .d (.ro 1 (nums v.starts))], .ag [.d (.v (.int .u64 0)), .z v.id.server.node, .u v.id.server.inc, .d (.ro 2 (procs [v.id.server])), .d (.ro 1 (nums [0]))]] (.v (.bool false))) (an ((ind_v _) : Ind (.v (.bool false))) (an (rfD (.u v.id.round)) (an (rfD (.z v.id.server.node)) (an (rfD (.u v.id.server.inc)) (an (rfD (.ro 2 (procs v.members))) (an (rfD (.ro 1 (nums v.starts))) (an (rfD (.v (.int .u64 0))) (an (rfD (.z v.id.server.node)) (an (rfD (.u v.id.server.inc)) (an (rfN (2)) (an (rfN ((procs [v.id.server]).length)) (an ((by simp [frozR_map, froz, Proc.row]) : frozR (procs [v.id.server]) = procs [v.id.server]) (an (rfN (1)) (an (rfN ((nums [0]).length)) (an ((by simp [frozR_map, froz, Proc.row]) : frozR (nums [0]) = nums [0]) trivial)))))))))))))))))))
   | true =>
    have qh10 := of_decide_eq_true h10
    rw [show (DV.v (.bool v.may) : DV) = .v (.bool true) from (bv (by first | exact View.may_no (by omega) ge_v_starts_i (by omega) | exact View.may_yes (by omega) (by assumption) (by omega) (by omega) (by omega) (by assumption) (by assumption) (by omega) hv0 | exact View.may_first0 (by omega) (by assumption) | exact View.may_first1 (by omega) (by assumption) (by assumption) | exact View.may_bad (by omega) (by first | (left; assumption) | (right; left; omega) | (right; right; left; omega) | (right; right; right; left; omega) | (right; right; right; right; left; assumption) | (right; right; right; right; right; assumption))))]
    exact toRet tk mo hK rfl [(1, [(3, .b true)]), (2, [(3, .con (.v (.bool true))), (9, .con (.ag [.v (.int .u64 0), .z v.id.server.node, .u v.id.server.inc, .em 38 2 (procs [v.id.server]), .em 36 1 (nums [0])])), (10, .call [.ag [.u v.id.round, .z v.id.server.node, .u v.id.server.inc, .d (.ro 2 (procs v.members)), .d (.ro 1 (nums v.starts))], .ag [.d (.v (.int .u64 0)), .z v.id.server.node, .u v.id.server.inc, .d (.ro 2 (procs [v.id.server])), .d (.ro 1 (nums [0]))]] (.v (.bool true)))])] 2000 r (by kernel_rfl) (an h0 (an u4 (an (refFirst v.id.server) (an ((by have k := refViewSame v (View.first v.id.server) hb; rw [h10] at k; exact k) : Con Tryz.prog 52 [.ag [.u v.id.round, .z v.id.server.node, .u v.id.server.inc, .d (.ro 2 (procs v.members)), .d (.ro 1 (nums v.starts))], .ag [.d (.v (.int .u64 0)), .z v.id.server.node, .u v.id.server.inc, .d (.ro 2 (procs [v.id.server])), .d (.ro 1 (nums [0]))]] (.v (.bool true))) (an ((ind_v _) : Ind (.v (.bool true))) (an (rfD (.u v.id.round)) (an (rfD (.z v.id.server.node)) (an (rfD (.u v.id.server.inc)) (an (rfD (.ro 2 (procs v.members))) (an (rfD (.ro 1 (nums v.starts))) (an (rfD (.v (.int .u64 0))) (an (rfD (.z v.id.server.node)) (an (rfD (.u v.id.server.inc)) (an (rfN (2)) (an (rfN ((procs [v.id.server]).length)) (an ((by simp [frozR_map, froz, Proc.row]) : frozR (procs [v.id.server]) = procs [v.id.server]) (an (rfN (1)) (an (rfN ((nums [0]).length)) (an ((by simp [frozR_map, froz, Proc.row]) : frozR (nums [0]) = nums [0]) trivial)))))))))))))))))))
end Go.Proofs.YtilhbhpldkjkaaaGreat
namespace Go.Proofs.YtilhbhpldkjkaaaGreat
open Go.RowKit
abbrev streams (l : List (List Slot)) : List (List DV) := l.map fun s => [.ro 2 (slots s)]
structure Flow where
 view : View
 streams : List (List Slot)
 handed : List Nat
deriving DecidableEq
end Go.Proofs.YtilhbhpldkjkaaaGreat
namespace Go.Proofs.YtilhbhpldkjkaaaGreat
open Go.RowKit
def slotsO (l : List Slot) : List (List DV) := l.map fun s => [.v (.int .u64 (s.n : Int)), .em 5 1 (bytesR s.body)]
def streamsO (l : List (List Slot)) : List (List DV) := l.map fun s => [.em 211 2 (slotsO s)]
@[simp] theorem slotsO_len (l : List Slot) : (slotsO l).length = l.length := by simp [slotsO]
@[simp] theorem streamsO_len (l : List (List Slot)) : (streamsO l).length = l.length := by simp [streamsO]
end Go.Proofs.YtilhbhpldkjkaaaGreat
namespace Go.Proofs.YtilhbhpldkjkaaaGreat
open Go.RowKit
theorem idx_mem {α : Type} [DecidableEq α] {p : α} : ∀ {l : List α} {k : Nat}, p ∈ l → 0 ≤ idx l p k
 | [], _, h => by cases h
 | x :: r, k, h => by
  unfold idx
  split
  ·omega
  ·rename_i hx
   rcases List.mem_cons.1 h with rfl | h
   ·exact absurd rfl hx
   ·exact idx_mem h
end Go.Proofs.YtilhbhpldkjkaaaGreat
namespace Go.Proofs.YtilhbhpldkjkaaaGreat
open Go.RowKit
theorem idx_some {α : Type} [DecidableEq α] {p : α} : ∀ {l : List α} {k : Nat}, 0 ≤ idx l p k → ∃ i, idx l p k = ((k + i : Nat) : Int) ∧ l[i]? = some p
 | [], k, h => by simp [idx] at h
 | x :: r, k, h => by
  unfold idx at h ⊢
  split
  ·rename_i hx; exact ⟨0, by simp, by simp [hx]⟩
  ·rename_i hx
   rw [if_neg hx] at h
   obtain ⟨i, h1, h2⟩ := idx_some h
   exact ⟨i + 1, by rw [h1]; congr 1; omega, by simpa using h2⟩
end Go.Proofs.YtilhbhpldkjkaaaGreat
namespace Go.Proofs.YtilhbhpldkjkaaaGreat
open Go.RowKit
theorem Ind.tu {l : List DV} (h : ∀ c ∈ l, Ind c) : Ind (.tu l) := by
 intro K K' y H r
 cases r with | tu ys F hl hr => exact .tu ys F hl fun j c y h1 h2 => h c (List.mem_of_getElem? h1) _ _ _ _ (hr j c y h1 h2)
def streamAt (f : Flow) (i : Nat) : List Slot := (f.streams[i]?).getD []
def Flow.takes (f : Flow) (m : Msg) : Prop := placeB f.view.members m.src = true ∧ 1 ≤ m.n ∧ m.n ≤ 16 ∧ m.body.length ≤ 64 ∧ findS (streamAt f (placeN f.view.members m.src)) m.n < 0
instance (f : Flow) (m : Msg) : Decidable (f.takes m) := by unfold Flow.takes; infer_instance
end Go.Proofs.YtilhbhpldkjkaaaGreat
namespace Go.Proofs.YtilhbhpldkjkaaaGreat
open Go.RowKit
abbrev ints (l : List Int) : List (List DV) := l.map fun z => [.v (.int .i64 z)]
theorem ints_at {l : List Int} {i : Nat} {z : Int} (h : l[i]? = some z) : (ints l)[i]? = some [.v (.int .i64 z)] := by simp [ints, h]
theorem ints_set (l : List Int) (i : Nat) (z : Int) : List.set (ints l) i [.v (.int .i64 z)] = ints (l.set i z) := by unfold ints; rw [List.map_set]
theorem ints_app (l : List Int) (z : Int) : ints l ++ [[.v (.int .i64 z)]] = ints (l ++ [z]) := by unfold ints; rw [List.map_append]; rfl
theorem froz_ints (l : List Int) : frozR (ints l) = ints l := by
 rw [frozR_map]; unfold ints; rw [List.map_map]; apply List.map_congr_left; intro s _; show [froz (.v _)] = _; rw [froz]
def Rising (l : List Int) : Prop := ∀ (i : Nat) a b, l[i]? = some a → l[i + 1]? = some b → a ≤ b
def blen (n : Nat) : Nat := match n with | 0 => 0 | 1 => 1 | 2 => 2 | 3 => 2 | 4 => 3 | 5 => 3 | _ => 3
set_option maxRecDepth 100000 in
theorem len64_0  : Con Tryz.prog 180 [.d (.v (.int .u64 0))] (.v (.int .i64 0)) := by
 refine Con.intro (by kernel_rfl) rfl rfl 25 rfl rfl fun w0 K ac hK r => ?_
 exact toRet tk mo hK rfl [(10, [(2, .z (0)), (3, .n 0), (4, .z (0)), (5, .z (0))])] 2000 r (by kernel_rfl) (an ((by decide) : IntKind.u8.wrap (0) = 0) (an (rfl : (0 : Int) = ((0 : Nat) : Int)) (an ((by decide) : IntKind.i64.wrap (0) = 0) (an ((by decide) : IntKind.i64.wrap ((0 : Int) + 0) = 0) trivial))))
set_option maxRecDepth 100000 in
theorem bitsLen_0  : Con Tryz.prog 158 [.d (.v (.int .u64 0))] (.v (.int .i64 0)) := by
 refine Con.intro (by kernel_rfl) rfl rfl 8 rfl rfl fun w0 K ac hK r => ?_
 exact toRet tk mo hK rfl [(2, [(1, .con (.z 0))])] 2000 r (by kernel_rfl) (an (len64_0) trivial)
set_option maxRecDepth 100000 in
theorem len64_1  : Con Tryz.prog 180 [.d (.v (.int .u64 1))] (.v (.int .i64 1)) := by
 refine Con.intro (by kernel_rfl) rfl rfl 25 rfl rfl fun w0 K ac hK r => ?_
 exact toRet tk mo hK rfl [(10, [(2, .z (1)), (3, .n 1), (4, .z (1)), (5, .z (1))])] 2000 r (by kernel_rfl) (an ((by decide) : IntKind.u8.wrap (1) = 1) (an (rfl : (1 : Int) = ((1 : Nat) : Int)) (an ((by decide) : IntKind.i64.wrap (1) = 1) (an ((by decide) : IntKind.i64.wrap ((0 : Int) + 1) = 1) trivial))))
set_option maxRecDepth 100000 in
theorem bitsLen_1  : Con Tryz.prog 158 [.d (.v (.int .u64 1))] (.v (.int .i64 1)) := by
 refine Con.intro (by kernel_rfl) rfl rfl 8 rfl rfl fun w0 K ac hK r => ?_
 exact toRet tk mo hK rfl [(2, [(1, .con (.z 1))])] 2000 r (by kernel_rfl) (an (len64_1) trivial)
set_option maxRecDepth 100000 in
theorem len64_2  : Con Tryz.prog 180 [.d (.v (.int .u64 2))] (.v (.int .i64 2)) := by
 refine Con.intro (by kernel_rfl) rfl rfl 25 rfl rfl fun w0 K ac hK r => ?_
 exact toRet tk mo hK rfl [(10, [(2, .z (2)), (3, .n 2), (4, .z (2)), (5, .z (2))])] 2000 r (by kernel_rfl) (an ((by decide) : IntKind.u8.wrap (2) = 2) (an (rfl : (2 : Int) = ((2 : Nat) : Int)) (an ((by decide) : IntKind.i64.wrap (2) = 2) (an ((by decide) : IntKind.i64.wrap ((0 : Int) + 2) = 2) trivial))))
set_option maxRecDepth 100000 in
theorem bitsLen_2  : Con Tryz.prog 158 [.d (.v (.int .u64 2))] (.v (.int .i64 2)) := by
 refine Con.intro (by kernel_rfl) rfl rfl 8 rfl rfl fun w0 K ac hK r => ?_
 exact toRet tk mo hK rfl [(2, [(1, .con (.z 2))])] 2000 r (by kernel_rfl) (an (len64_2) trivial)
set_option maxRecDepth 100000 in
theorem len64_3  : Con Tryz.prog 180 [.d (.v (.int .u64 3))] (.v (.int .i64 2)) := by
 refine Con.intro (by kernel_rfl) rfl rfl 25 rfl rfl fun w0 K ac hK r => ?_
 exact toRet tk mo hK rfl [(10, [(2, .z (3)), (3, .n 3), (4, .z (2)), (5, .z (2))])] 2000 r (by kernel_rfl) (an ((by decide) : IntKind.u8.wrap (3) = 3) (an (rfl : (3 : Int) = ((3 : Nat) : Int)) (an ((by decide) : IntKind.i64.wrap (2) = 2) (an ((by decide) : IntKind.i64.wrap ((0 : Int) + 2) = 2) trivial))))
set_option maxRecDepth 100000 in
theorem bitsLen_3  : Con Tryz.prog 158 [.d (.v (.int .u64 3))] (.v (.int .i64 2)) := by
 refine Con.intro (by kernel_rfl) rfl rfl 8 rfl rfl fun w0 K ac hK r => ?_
 exact toRet tk mo hK rfl [(2, [(1, .con (.z 2))])] 2000 r (by kernel_rfl) (an (len64_3) trivial)
set_option maxRecDepth 100000 in
theorem len64_4  : Con Tryz.prog 180 [.d (.v (.int .u64 4))] (.v (.int .i64 3)) := by
 refine Con.intro (by kernel_rfl) rfl rfl 25 rfl rfl fun w0 K ac hK r => ?_
 exact toRet tk mo hK rfl [(10, [(2, .z (4)), (3, .n 4), (4, .z (3)), (5, .z (3))])] 2000 r (by kernel_rfl) (an ((by decide) : IntKind.u8.wrap (4) = 4) (an (rfl : (4 : Int) = ((4 : Nat) : Int)) (an ((by decide) : IntKind.i64.wrap (3) = 3) (an ((by decide) : IntKind.i64.wrap ((0 : Int) + 3) = 3) trivial))))
set_option maxRecDepth 100000 in
theorem bitsLen_4  : Con Tryz.prog 158 [.d (.v (.int .u64 4))] (.v (.int .i64 3)) := by
 refine Con.intro (by kernel_rfl) rfl rfl 8 rfl rfl fun w0 K ac hK r => ?_
 exact toRet tk mo hK rfl [(2, [(1, .con (.z 3))])] 2000 r (by kernel_rfl) (an (len64_4) trivial)
set_option maxRecDepth 100000 in
theorem len64_5  : Con Tryz.prog 180 [.d (.v (.int .u64 5))] (.v (.int .i64 3)) := by
 refine Con.intro (by kernel_rfl) rfl rfl 25 rfl rfl fun w0 K ac hK r => ?_
 exact toRet tk mo hK rfl [(10, [(2, .z (5)), (3, .n 5), (4, .z (3)), (5, .z (3))])] 2000 r (by kernel_rfl) (an ((by decide) : IntKind.u8.wrap (5) = 5) (an (rfl : (5 : Int) = ((5 : Nat) : Int)) (an ((by decide) : IntKind.i64.wrap (3) = 3) (an ((by decide) : IntKind.i64.wrap ((0 : Int) + 3) = 3) trivial))))
set_option maxRecDepth 100000 in
theorem bitsLen_5  : Con Tryz.prog 158 [.d (.v (.int .u64 5))] (.v (.int .i64 3)) := by
 refine Con.intro (by kernel_rfl) rfl rfl 8 rfl rfl fun w0 K ac hK r => ?_
 exact toRet tk mo hK rfl [(2, [(1, .con (.z 3))])] 2000 r (by kernel_rfl) (an (len64_5) trivial)
set_option maxRecDepth 100000 in
theorem len64_6  : Con Tryz.prog 180 [.d (.v (.int .u64 6))] (.v (.int .i64 3)) := by
 refine Con.intro (by kernel_rfl) rfl rfl 25 rfl rfl fun w0 K ac hK r => ?_
 exact toRet tk mo hK rfl [(10, [(2, .z (6)), (3, .n 6), (4, .z (3)), (5, .z (3))])] 2000 r (by kernel_rfl) (an ((by decide) : IntKind.u8.wrap (6) = 6) (an (rfl : (6 : Int) = ((6 : Nat) : Int)) (an ((by decide) : IntKind.i64.wrap (3) = 3) (an ((by decide) : IntKind.i64.wrap ((0 : Int) + 3) = 3) trivial))))
set_option maxRecDepth 100000 in
theorem bitsLen_6  : Con Tryz.prog 158 [.d (.v (.int .u64 6))] (.v (.int .i64 3)) := by
 refine Con.intro (by kernel_rfl) rfl rfl 8 rfl rfl fun w0 K ac hK r => ?_
 exact toRet tk mo hK rfl [(2, [(1, .con (.z 3))])] 2000 r (by kernel_rfl) (an (len64_6) trivial)
theorem bitsLen (n : Nat) (h : n ≤ 6) : Con Tryz.prog 158 [.d (.v (.int .u64 ((n : Nat) : Int)))] (.v (.int .i64 ((blen n : Nat) : Int))) :=
 match n, h with
 | 0, _ => bitsLen_0
 | 1, _ => bitsLen_1
 | 2, _ => bitsLen_2
 | 3, _ => bitsLen_3
 | 4, _ => bitsLen_4
 | 5, _ => bitsLen_5
 | 6, _ => bitsLen_6
 | n + 7, h => absurd h (by omega)
set_option maxRecDepth 100000 in
theorem notNan (x : Int) : Con Tryz.prog 159 [.z x] (.v (.bool false)) := by
 refine Con.intro (by kernel_rfl) rfl rfl 6 rfl rfl fun w0 K ac hK r => ?_
 exact toRet tk mo hK rfl [(1, [(2, .b false)])] 2000 r (by kernel_rfl) (an ((by simp) : ((x : Int) != x) = false) trivial)
set_option maxRecDepth 100000 in
theorem lessOk (x y : Int) : Con Tryz.prog 176 [.z x, .z y] (.v (.bool (decide (x < y)))) := by
 refine Con.intro (by kernel_rfl) rfl rfl 17 rfl rfl fun w0 K ac hK r => ?_
 cases h0 : (decide ((x : Int) < y)) with
 | false =>
  have qh0 := of_decide_eq_false h0
  exact toRet tk mo hK rfl [(1, [(1, .con (.v (.bool false))), (10, .b false)])] 2000 r (by kernel_rfl) (an (notNan _ : Con Tryz.prog 159 [.z x] (.v (.bool false))) (an h0 trivial))
 | true =>
  have qh0 := of_decide_eq_true h0
  exact toRet tk mo hK rfl [(1, [(1, .con (.v (.bool false))), (10, .b true)])] 2000 r (by kernel_rfl) (an (notNan _ : Con Tryz.prog 159 [.z x] (.v (.bool false))) (an h0 trivial))
set_option maxRecDepth 100000 in
theorem insSort (l : List Int) (hs : Rising l) (hb : l.length < 1073741824) : Con Tryz.prog 170 [.d (.ro 1 (ints l)), .z 0, .n l.length] (.tu []) := by
 refine Con.intro (by kernel_rfl) rfl rfl 49 rfl rfl fun w0 K ac hK r => ?_
 refine toHead (todo' := hd Tryz.f170 0) (E' := [(0, .d (.ro 1 (ints l))), (1, .z 0), (2, .n l.length), (6, .n (0 + 1))]) (M' := []) tk mo hK [(0, [(1, .z (1))])] 2000 [] [0, 1, 2, 6] r (by kernel_rfl) (an ((wi (by omega)) : IntKind.i64.wrap ((0 : Int) + 1) = 1) trivial) fun ac wd r => ?_
 refine Goes.rounds (Φ := fun (i : Nat) ac wd => (True) ∧ RE' [] w0 K 49 [(0, .d (.ro 1 (ints l))), (1, .z 0), (2, .n l.length), (6, .n (i + 1))] [] ac wd) (l.length) ?_ (Nat.zero_le _) ⟨trivial, r⟩
 clear r
 rintro i hi0 again0 ac wd ⟨hv0, r⟩
 cases h0 : (decide ((((i + 1 : Nat) : Int) : Int) < ((l.length : Nat) : Int))) with
 | false =>
  have qh0 := of_decide_eq_false h0
  exact toRet tk mo hK rfl [(1, [(2, .b false)])] 2000 r (by kernel_rfl) (an h0 trivial)
 | true =>
  have qh0 := of_decide_eq_true h0
  obtain ⟨e_l_i1, ge_l_i1⟩ : ∃ x, l[i + 1]? = some x := ⟨_, List.getElem?_eq_getElem (by omega)⟩
  obtain ⟨e_l_i11, ge_l_i11⟩ : ∃ x, l[i + 1 - 1]? = some x := ⟨_, List.getElem?_eq_getElem (by omega)⟩
  refine toHead (todo' := hd Tryz.f170 1) (E' := [(0, .d (.ro 1 (ints l))), (1, .z 0), (2, .n l.length), (6, .n (i + 1)), (7, .n (i + 1))]) (M' := []) tk mo hK [(1, [(2, .b true)])] 2000 [] [0, 1, 2, 6, 7] r (by kernel_rfl) (an h0 trivial) fun ac wd r => ?_
  cases h1 : (decide ((0 : Int) < ((i + 1 : Nat) : Int))) with
  | false =>
   have qh1 := of_decide_eq_false h1
   exact toHead (todo' := hd Tryz.f170 0) tk mo hK [(2, [(1, .z (((i + 1 + 1 : Nat) : Int)))]), (4, [(2, .b false)])] 2000 [] [0, 1, 2, 6] r (by kernel_rfl) (an h1 (an ((wi (by omega)) : IntKind.i64.wrap ((((i + 1 : Nat) : Int) : Int) + 1) = ((i + 1 + 1 : Nat) : Int)) trivial)) fun ac wd r => again0 (by omega) ac wd ⟨trivial, r⟩
  | true =>
   have qh1 := of_decide_eq_true h1
   have u0 := ((wi (by omega)) : IntKind.i64.wrap ((((i + 1 : Nat) : Int) : Int) - 1) = ((i + 1 - 1 : Nat) : Int))
   cases h2 : (decide (e_l_i1 < e_l_i11)) with
   | false =>
    have qh2 := of_decide_eq_false h2
    exact toHead (todo' := hd Tryz.f170 0) tk mo hK [(2, [(1, .z (((i + 1 + 1 : Nat) : Int)))]), (4, [(2, .b true), (6, .ix (i + 1) [.z e_l_i1]), (10, .z (((i + 1 - 1 : Nat) : Int))), (11, .ix (i + 1 - 1) [.z e_l_i11]), (13, .con (.v (.bool false)))])] 2000 [] [0, 1, 2, 6] r (by kernel_rfl) (an h1 (an (rfI ((i + 1 : Nat) : Int)) (an (ints_at ge_l_i1) (an u0 (an (rfI ((i + 1 - 1 : Nat) : Int)) (an (ints_at ge_l_i11) (an ((by have k := lessOk (e_l_i1) (e_l_i11); rw [h2] at k; exact k) : Con Tryz.prog 176 [.z e_l_i1, .z e_l_i11] (.v (.bool false))) (an ((wi (by omega)) : IntKind.i64.wrap ((((i + 1 : Nat) : Int) : Int) + 1) = ((i + 1 + 1 : Nat) : Int)) trivial)))))))) fun ac wd r => again0 (by omega) ac wd ⟨trivial, r⟩
   | true =>
    have qh2 := of_decide_eq_true h2
    exact absurd (hs i _ _ (by simpa using ge_l_i11) ge_l_i1) (by omega)
set_option maxRecDepth 100000 in
theorem pdqSort (l : List Int) (k : Nat) (hs : Rising l) (hb : l.length ≤ 12) : Con Tryz.prog 157 [.d (.ro 1 (ints l)), .z 0, .n l.length, .n k] (.tu []) := by
 refine Con.intro (by kernel_rfl) rfl rfl 134 rfl rfl fun w0 K ac hK r => ?_
 refine toHead (todo' := hd Tryz.f157 0) (E' := [(0, .d (.ro 1 (ints l))), (1, .z 0), (2, .n l.length), (3, .n k), (8, .d (.v (.bool true))), (9, .d (.v (.bool true)))]) (M' := []) tk mo hK [] 2000 [] [0, 1, 2, 3, 8, 9] r (by kernel_rfl) trivial fun ac wd r => ?_
 have u0 := ((wi (by omega)) : IntKind.i64.wrap ((((l.length : Nat) : Int) : Int) - 0) = ((l.length : Nat) : Int))
 cases h0 : (decide ((((l.length : Nat) : Int) : Int) ≤ 12)) with
 | false =>
  have qh0 := of_decide_eq_false h0
  exact absurd qh0 (by omega)
 | true =>
  have qh0 := of_decide_eq_true h0
  exact toRet tk mo hK rfl [(2, [(2, .z (((l.length : Nat) : Int)))]), (3, [(1, .b true)]), (4, [(3, .con (.tu []))])] 2000 r (by kernel_rfl) (an u0 (an h0 (an (insSort l hs (by omega)) trivial)))
set_option maxRecDepth 100000 in
theorem sortOk (l : List Int) (hs : Rising l) (hb : l.length ≤ 6) : Con Tryz.prog 122 [.d (.ro 1 (ints l))] (.tu []) := by
 refine Con.intro (by kernel_rfl) rfl rfl 11 rfl rfl fun w0 K ac hK r => ?_
 exact toRet tk mo hK rfl [(0, [(1, .z (((l.length : Nat) : Int)))]), (1, [(3, .z (((l.length : Nat) : Int))), (4, .con (.n (blen l.length))), (5, .con (.tu []))])] 2000 r (by kernel_rfl) (an ((by simp) : (((ints l).length : Nat) : Int) = ((l.length : Nat) : Int)) (an ((wu (by omega)) : IntKind.u64.wrap (((l.length : Nat) : Int)) = ((l.length : Nat) : Int)) (an (bitsLen l.length (by omega)) (an (pdqSort l (blen l.length) hs (by omega)) trivial))))
def ddStep (l : List Int) (p : Nat) (o : List Int) : List Int := match l[p]? with | some a => (if 0 < p ∧ l[p - 1]? = some a then o else o ++ [a]) | none => o
def ddTo (l : List Int) : Nat → List Int
 | 0 => []
 | p + 1 => ddStep l p (ddTo l p)
def wr (l : List Int) (k : Nat) : Nat → List Int
 | 0 => l
 | j + 1 => match l[k + (j + 1)]? with | some a => (if l[k + j]? = some a then wr l k j else (wr l k j).set (ddTo l (k + 1 + j)).length a) | none => wr l k j
theorem ddTo_same {l : List Int} {p : Nat} {a : Int} (h : l[p]? = some a) (hp : 0 < p) (h2 : l[p - 1]? = some a) : ddTo l (p + 1) = ddTo l p := by rw [ddTo, ddStep, h]; simp [hp, h2]
theorem ddTo_new {l : List Int} {p : Nat} {a b : Int} (h : l[p]? = some a) (h2 : l[p - 1]? = some b) (hab : a ≠ b) : ddTo l (p + 1) = ddTo l p ++ [a] := by
 rw [ddTo, ddStep, h]; simp only [h2]; rw [if_neg]; rintro ⟨-, e⟩; cases e; exact hab rfl
theorem ddTo_one {l : List Int} {a : Int} (h : l[0]? = some a) : ddTo l 1 = [a] := by rw [ddTo, ddStep, h]; simp [ddTo]
theorem ddTo_le (l : List Int) (p : Nat) : (ddTo l (p + 1)).length ≤ (ddTo l p).length + 1 := by
 rw [ddTo, ddStep]; split
 ·split <;> simp
 ·omega
theorem dd_le {l : List Int} {k : Nat} (h : (ddTo l (k + 1)).length ≤ k) : ∀ j, (ddTo l (k + 1 + j)).length ≤ k + j
 | 0 => h
 | j + 1 => by have h1 := dd_le h j; have h2 := ddTo_le l (k + 1 + j); rw [← Nat.add_assoc]; omega
@[simp] theorem wr_len (l : List Int) (k : Nat) : ∀ j, (wr l k j).length = l.length
 | 0 => rfl
 | j + 1 => by
  rw [wr]; split
  ·split
   ·exact wr_len l k j
   ·rw [List.length_set, wr_len l k j]
  ·exact wr_len l k j
theorem wr_at {l : List Int} {k : Nat} (h : (ddTo l (k + 1)).length ≤ k) : ∀ {j p : Nat}, k + j ≤ p → (wr l k j)[p]? = l[p]?
 | 0, p, _ => rfl
 | j + 1, p, hp => by
  have h1 := dd_le h j
  rw [wr]; split
  ·split
   ·exact wr_at h (by omega)
   ·rw [List.getElem?_set, if_neg (by omega)]; exact wr_at h (by omega)
  ·exact wr_at h (by omega)
theorem wr_same {l : List Int} {k j : Nat} {a : Int} (h : l[k + (j + 1)]? = some a) (h2 : l[k + j]? = some a) : wr l k (j + 1) = wr l k j := by rw [wr, h]; simp [h2]
theorem wr_new {l : List Int} {k j : Nat} {a b : Int} (h : l[k + (j + 1)]? = some a) (h2 : l[k + j]? = some b) (hab : a ≠ b) : wr l k (j + 1) = (wr l k j).set (ddTo l (k + 1 + j)).length a := by
 rw [wr, h]; simp only [h2]; rw [if_neg]; intro e; cases e; exact hab rfl
theorem wr_take {l : List Int} {k : Nat} (h : ddTo l (k + 1) = l.take k) (hk : k < l.length) : ∀ {j : Nat}, k + 1 + j ≤ l.length → (wr l k j).take (ddTo l (k + 1 + j)).length = ddTo l (k + 1 + j)
 | 0, _ => by
  show l.take (ddTo l (k + 1)).length = ddTo l (k + 1)
  rw [h, List.length_take, Nat.min_eq_left (by omega)]
 | j + 1, hj => by
  have hle : (ddTo l (k + 1)).length ≤ k := by rw [h, List.length_take]; omega
  have h1 := dd_le hle j
  have ih := wr_take h hk (j := j) (by omega)
  have e1 : l[k + 1 + j]? = some l[k + 1 + j] := List.getElem?_eq_getElem (by omega)
  have e2 : l[k + j]? = some l[k + j] := List.getElem?_eq_getElem (by omega)
  have e3 : k + 1 + j - 1 = k + j := by omega
  have e4 : k + (j + 1) = k + 1 + j := by omega
  rw [← Nat.add_assoc]
  by_cases hab : l[k + 1 + j] = l[k + j]
  ·rw [ddTo_same e1 (by omega) (by rw [e3, e2, hab]), wr_same (by rw [e4]; exact e1) (by rw [e2, hab])]; exact ih
  ·rw [ddTo_new e1 (by rw [e3]; exact e2) hab, wr_new (by rw [e4]; exact e1) e2 hab]
   rw [List.length_append, List.length_singleton, List.take_succ_eq_append_getElem (by rw [List.length_set, wr_len]; omega), List.take_set_of_le (Nat.le_refl _), ih, List.getElem_set_self]
theorem dd_short {l : List Int} (h : l.length < 2) : ddTo l l.length = l := by
 match l, h with
 | [], _ => rfl
 | [a], _ => exact ddTo_one rfl
theorem ints_take (l : List Int) (n : Nat) : (ints l).take n = ints (l.take n) := by unfold ints; rw [List.map_take]
theorem rwB {T k : Nat} {a b : List (List DV)} (h : a = b) : [Blk.rw T k a] = [.rw T k b] := by rw [h]
theorem cut_take {A B : List (List DV)} {n : Nat} (h : n ≤ A.length) : (A.take n ++ B).take n = A.take n := by
 rw [List.take_append_of_le_length (by simp; omega), List.take_take, Nat.min_self]
theorem dd_start {l : List Int} (h : 0 < l.length) : ddTo l 1 = l.take 1 := by
 match l, h with
 | a :: r, _ => exact ddTo_one rfl
theorem dd_next {l : List Int} {k : Nat} {a : Int} (h : l[k]? = some a) : l.take (k + 1) = l.take k ++ [a] := by
 obtain ⟨hk, rfl⟩ := List.getElem?_eq_some_iff.1 h
 rw [List.take_succ_eq_append_getElem hk]
set_option maxRecDepth 100000 in
theorem compactOk (l : List Int) (hb : l.length < 1073741824) : ConM Tryz.prog 124 [.sl 0 (l.length)] [.rw 3 1 (ints l)] (.sl 0 (ddTo l l.length).length) ([.rw 3 1 (ints (ddTo l l.length))]) := by
 refine ConM.intro (by kernel_rfl) rfl rfl 61 rfl rfl fun D w0 K bs ac wd hK (hbm : bs.m = 1) r => ?_
 cases h0 : (decide ((((l.length : Nat) : Int) : Int) < 2)) with
 | false =>
  have qh0 := of_decide_eq_false h0
  refine toHeadM (todo' := hd Tryz.f124 0) (E' := [(0, .sl 0 (l.length)), (3, .n (0 + 1))]) (M' := [.rw 3 1 (ints l)]) tk mo hK hbm [(1, [(2, .b false)])] 2000 [0] [0, 3] r (by kernel_rfl) (an h0 trivial) fun ac wd r => ?_
  refine Goes.rounds (Φ := fun (i : Nat) ac wd => (i + 1 ≤ l.length ∧ ddTo l (i + 1) = l.take (i + 1)) ∧ RB D w0 K 61 bs [(0, .sl 0 (l.length)), (3, .n (i + 1))] [.rw 3 1 (ints l)] ac wd) (l.length) ?_ (Nat.zero_le _) ⟨⟨by omega, dd_start (by omega)⟩, r⟩
  clear r
  rintro i hi0 again0 ac wd ⟨hv0, r⟩
  obtain ⟨hi2, hi3⟩ := hv0
  cases h1 : (decide ((((i + 1 : Nat) : Int) : Int) < ((l.length : Nat) : Int))) with
  | false =>
   have qh1 := of_decide_eq_false h1
   refine castM (y := .sl 0 (l.length)) (N' := [.rw 3 1 (ints l)]) ((by first | (rw [dd_short (by omega)]; done) | (rw [show ddTo l l.length = l by rw [show l.length = i + 1 by omega, hi3]; exact List.take_of_length_le (by omega)]; done) | (rw [show l.length = i + 1 + 1 + j by omega]))) ((by first | (rw [dd_short (by omega)]; done) | (rw [show ddTo l l.length = l by rw [show l.length = i + 1 by omega, hi3]; exact List.take_of_length_le (by omega)]; done) | (refine rwB ?_; rw [cut_take (by rw [List.length_map, wr_len]; have := dd_le hlt j; omega), ints_take, wr_take hdd (by omega) (by omega)]; rw [show l.length = i + 1 + 1 + j by omega]))) ?_
   exact toRetM tk mo hK rfl hbm [(4, [(3, .b false)])] 2000 [0] r (by kernel_rfl) (an h1 trivial)
  | true =>
   have qh1 := of_decide_eq_true h1
   obtain ⟨e_l_i1, ge_l_i1⟩ : ∃ x, l[i + 1]? = some x := ⟨_, List.getElem?_eq_getElem (by omega)⟩
   obtain ⟨e_l_i11, ge_l_i11⟩ : ∃ x, l[i + 1 - 1]? = some x := ⟨_, List.getElem?_eq_getElem (by omega)⟩
   have u0 := ((by first | omega | (have := dd_le hlt j; omega)) : (i + 1) < (l.length))
   have u1 := ((wi (by omega)) : IntKind.i64.wrap ((((i + 1 : Nat) : Int) : Int) - 1) = ((i + 1 - 1 : Nat) : Int))
   have u2 := ((by first | omega | (have := dd_le hlt j; omega)) : (i + 1 - 1) < (l.length))
   cases h2 : ((e_l_i1 : Int) == e_l_i11) with
   | false =>
    have qh2 := ne_of_beq_false h2
    exact toHeadM (todo' := hd Tryz.f124 0) tk mo hK hbm [(4, [(3, .b true)]), (5, [(1, .z (((i + 1 + 1 : Nat) : Int)))]), (6, [(2, .n (i + 1)), (3, .ix 0 [.z e_l_i1]), (6, .z (((i + 1 - 1 : Nat) : Int))), (7, .n (i + 1 - 1)), (8, .ix 0 [.z e_l_i11]), (9, .b false)])] 2000 [0] [0, 3] r (by kernel_rfl) (an h1 (an (rfI ((i + 1 : Nat) : Int)) (an u0 (an ((by simp <;> omega) : (l.length) ≤ (ints l).length) (an (ints_at ge_l_i1) (an u1 (an (rfI ((i + 1 - 1 : Nat) : Int)) (an u2 (an ((by simp <;> omega) : (l.length) ≤ (ints l).length) (an (ints_at ge_l_i11) (an h2 (an ((wi (by omega)) : IntKind.i64.wrap ((((i + 1 : Nat) : Int) : Int) + 1) = ((i + 1 + 1 : Nat) : Int)) trivial)))))))))))) fun ac wd r => again0 (by omega) ac wd ⟨⟨by omega, by rw [ddTo_new (p := i + 1) ge_l_i1 ge_l_i11 (by omega), hi3, ← dd_next ge_l_i1]⟩, r⟩
   | true =>
    have qh2 := eq_of_beq h2
    have hdd : ddTo l (i + 1 + 1) = l.take (i + 1) := by rw [ddTo_same (p := i + 1) ge_l_i1 (by omega) (by rw [ge_l_i11, ‹e_l_i1 = e_l_i11›])]; exact hi3
    have hlt : (ddTo l (i + 1 + 1)).length ≤ i + 1 := by rw [hdd, List.length_take]; omega
    refine toHeadM (todo' := hd Tryz.f124 1) (E' := [(0, .sl 0 (l.length)), (3, .n (i + 1)), (4, .sb 0 1 (i + 1) (l.length - (i + 1))), (5, .z 1)]) (M' := [.rw 3 1 (ints l)]) tk mo hK hbm [(4, [(3, .b true)]), (6, [(2, .n (i + 1)), (3, .ix 0 [.z e_l_i1]), (6, .z (((i + 1 - 1 : Nat) : Int))), (7, .n (i + 1 - 1)), (8, .ix 0 [.z e_l_i11]), (9, .b true)]), (7, [(2, .n (i + 1))])] 2000 [0] [0, 3, 4, 5] r (by kernel_rfl) (an h1 (an (rfI ((i + 1 : Nat) : Int)) (an u0 (an ((by simp <;> omega) : (l.length) ≤ (ints l).length) (an (ints_at ge_l_i1) (an u1 (an (rfI ((i + 1 - 1 : Nat) : Int)) (an u2 (an ((by simp <;> omega) : (l.length) ≤ (ints l).length) (an (ints_at ge_l_i11) (an h2 (an (rfI ((i + 1 : Nat) : Int)) (an u0 (an ((by simp <;> omega) : (l.length) = (ints l).length) trivial)))))))))))))) fun ac wd r => ?_
    refine Goes.rounds (Φ := fun (j : Nat) ac wd => (i + 1 + 1 + j ≤ l.length) ∧ RB D w0 K 61 bs [(0, .sl 0 (l.length)), (3, .n ((ddTo l (i + 1 + 1 + j)).length)), (4, .sb 0 1 (i + 1) (l.length - (i + 1))), (5, .n (j + 1))] [.rw 3 1 (ints (wr l (i + 1) j))] ac wd) (l.length) ?_ (Nat.zero_le _) ⟨by omega, (r).cast (by rw [hdd]; simp; omega) rfl⟩
    clear r
    rintro j hi1 again1 ac wd ⟨hv1, r⟩
    cases h3 : (decide ((((j + 1 : Nat) : Int) : Int) < ((l.length - (i + 1) : Nat) : Int))) with
    | false =>
     have qh3 := of_decide_eq_false h3
     have hddj := dd_le hlt j
     refine castM (y := .sl 0 ((ddTo l (i + 1 + 1 + j)).length)) (N' := [.rw 3 1 (((ints (wr l (i + 1) j)).take ((ddTo l (i + 1 + 1 + j)).length) ++ (List.replicate (l.length - ((ddTo l (i + 1 + 1 + j)).length)) ([.z 0] : List DV) ++ (ints (wr l (i + 1) j)).drop (((ddTo l (i + 1 + 1 + j)).length) + (l.length - ((ddTo l (i + 1 + 1 + j)).length))))).take ((ddTo l (i + 1 + 1 + j)).length))]) ((by first | (rw [dd_short (by omega)]; done) | (rw [show ddTo l l.length = l by rw [show l.length = i + 1 by omega, hi3]; exact List.take_of_length_le (by omega)]; done) | (rw [show l.length = i + 1 + 1 + j by omega]))) ((by first | (rw [dd_short (by omega)]; done) | (rw [show ddTo l l.length = l by rw [show l.length = i + 1 by omega, hi3]; exact List.take_of_length_le (by omega)]; done) | (refine rwB ?_; rw [cut_take (by rw [List.length_map, wr_len]; have := dd_le hlt j; omega), ints_take, wr_take hdd (by omega) (by omega)]; rw [show l.length = i + 1 + 1 + j by omega]))) ?_
     exact toRetM tk mo hK rfl hbm [(9, [(3, .b false)]), (14, [(2, .n ((ddTo l (i + 1 + 1 + j)).length))]), (15, [(2, .n ((ddTo l (i + 1 + 1 + j)).length))])] 2000 [0] r (by kernel_rfl) (an h3 (an (rfI (((ddTo l (i + 1 + 1 + j)).length : Nat) : Int)) (an ((by first | omega | (have := dd_le hlt j; omega)) : ((ddTo l (i + 1 + 1 + j)).length) < (l.length)) (an ((by simp <;> omega) : (l.length) = (ints (wr l (i + 1) j)).length) (an ((by first | omega | (have := dd_le hlt j; omega)) : 0 < (l.length - ((ddTo l (i + 1 + 1 + j)).length))) (an ((by simp <;> omega) : ((ddTo l (i + 1 + 1 + j)).length) + (l.length - ((ddTo l (i + 1 + 1 + j)).length)) ≤ (ints (wr l (i + 1) j)).length) (an (rfI (((ddTo l (i + 1 + 1 + j)).length : Nat) : Int)) (an ((by first | omega | (have := dd_le hlt j; omega)) : ((ddTo l (i + 1 + 1 + j)).length) ≤ (l.length)) (an ((by simp <;> omega) : (l.length) = ((ints (wr l (i + 1) j)).take ((ddTo l (i + 1 + 1 + j)).length) ++ (List.replicate (l.length - ((ddTo l (i + 1 + 1 + j)).length)) ([.z 0] : List DV) ++ (ints (wr l (i + 1) j)).drop (((ddTo l (i + 1 + 1 + j)).length) + (l.length - ((ddTo l (i + 1 + 1 + j)).length)))) : List (List DV)).length) trivial)))))))))
    | true =>
     have qh3 := of_decide_eq_true h3
     obtain ⟨e_l_i1j1, ge_l_i1j1⟩ : ∃ x, l[i + 1 + (j + 1)]? = some x := ⟨_, List.getElem?_eq_getElem (by omega)⟩
     obtain ⟨e_l_i1j11, ge_l_i1j11⟩ : ∃ x, l[i + 1 + (j + 1 - 1)]? = some x := ⟨_, List.getElem?_eq_getElem (by omega)⟩
     have hddj := dd_le hlt j
     obtain ⟨old, gold⟩ : ∃ x, (wr l (i + 1) j)[(ddTo l (i + 1 + 1 + j)).length]? = some x := ⟨_, List.getElem?_eq_getElem (by rw [wr_len]; omega)⟩
     have u3 := ((by first | omega | (have := dd_le hlt j; omega)) : (j + 1) < (l.length - (i + 1)))
     have u4 := ((by simp <;> omega) : (i + 1) + (l.length - (i + 1)) ≤ (ints (wr l (i + 1) j)).length)
     have u5 := (ints_at (by rw [wr_at hlt (by omega)]; exact ge_l_i1j1) : (ints (wr l (i + 1) j))[i + 1 + (j + 1)]? = some [.z e_l_i1j1])
     have u6 := ((wi (by omega)) : IntKind.i64.wrap ((((j + 1 : Nat) : Int) : Int) - 1) = ((j + 1 - 1 : Nat) : Int))
     have u7 := ((by first | omega | (have := dd_le hlt j; omega)) : (j + 1 - 1) < (l.length - (i + 1)))
     have u8 := (ints_at (by rw [wr_at hlt (by omega)]; exact ge_l_i1j11) : (ints (wr l (i + 1) j))[i + 1 + (j + 1 - 1)]? = some [.z e_l_i1j11])
     cases h4 : ((e_l_i1j1 : Int) != e_l_i1j11) with
     | false =>
      have qh4 := eq_of_bne h4
      exact toHeadM (todo' := hd Tryz.f124 1) (E' := [(0, .sl 0 (l.length)), (3, .n ((ddTo l (i + 1 + 1 + j)).length)), (4, .sb 0 1 (i + 1) (l.length - (i + 1))), (5, .n (j + 1 + 1))]) (M' := [.rw 3 1 (ints (wr l (i + 1) j))]) tk mo hK hbm [(9, [(3, .b true)]), (10, [(1, .z (((j + 1 + 1 : Nat) : Int)))]), (11, [(2, .n (j + 1)), (3, .ix 0 [.z e_l_i1j1]), (6, .z (((j + 1 - 1 : Nat) : Int))), (7, .n (j + 1 - 1)), (8, .ix 0 [.z e_l_i1j11]), (9, .b false)])] 2000 [0] [0, 3, 4, 5] r (by kernel_rfl) (an h3 (an (rfI ((j + 1 : Nat) : Int)) (an u3 (an u4 (an u5 (an u6 (an (rfI ((j + 1 - 1 : Nat) : Int)) (an u7 (an u4 (an u8 (an h4 (an ((wi (by omega)) : IntKind.i64.wrap ((((j + 1 : Nat) : Int) : Int) + 1) = ((j + 1 + 1 : Nat) : Int)) trivial)))))))))))) fun ac wd r => again1 (by omega) ac wd ⟨by omega, r.cast (by have e : i + 1 + 1 + (j + 1) = (i + 1 + (j + 1)) + 1 := (by omega); have e2 : i + 1 + (j + 1) = i + 1 + 1 + j := (by omega); rw [e]; first | (rw [ddTo_new (p := i + 1 + (j + 1)) ge_l_i1j1 (by have k := ge_l_i1j11; simpa using k) (by omega), e2]; simp; done) | (rw [ddTo_same (p := i + 1 + (j + 1)) ge_l_i1j1 (by omega) (by have k := ge_l_i1j11; rw [show e_l_i1j1 = e_l_i1j11 by omega]; simpa using k), e2]; done)) (by first | (rw [ints_set, wr_new (k := i + 1) (j := j) ge_l_i1j1 (by have k := ge_l_i1j11; simpa using k) (by omega)]; done) | (rw [wr_same (k := i + 1) (j := j) ge_l_i1j1 (by have k := ge_l_i1j11; rw [show e_l_i1j1 = e_l_i1j11 by omega]; simpa using k)]; done))⟩
     | true =>
      have qh4 : ¬ _ = _ := bne_iff_ne.1 h4
      exact toHeadM (todo' := hd Tryz.f124 1) (E' := [(0, .sl 0 (l.length)), (3, .n ((ddTo l (i + 1 + 1 + j)).length + 1)), (4, .sb 0 1 (i + 1) (l.length - (i + 1))), (5, .n (j + 1 + 1))]) (M' := [.rw 3 1 (List.set (ints (wr l (i + 1) j)) ((ddTo l (i + 1 + 1 + j)).length) [.z e_l_i1j1])]) tk mo hK hbm [(9, [(3, .b true)]), (10, [(1, .z (((j + 1 + 1 : Nat) : Int)))]), (11, [(2, .n (j + 1)), (3, .ix 0 [.z e_l_i1j1]), (6, .z (((j + 1 - 1 : Nat) : Int))), (7, .n (j + 1 - 1)), (8, .ix 0 [.z e_l_i1j11]), (9, .b true)]), (12, [(4, .n (j + 1)), (5, .ix 0 [.z e_l_i1j1]), (6, .n ((ddTo l (i + 1 + 1 + j)).length)), (7, .ix 0 [.z old])]), (13, [(1, .z ((((ddTo l (i + 1 + 1 + j)).length + 1 : Nat) : Int)))])] 2000 [0] [0, 3, 4, 5] r (by kernel_rfl) (an h3 (an (rfI ((j + 1 : Nat) : Int)) (an u3 (an u4 (an u5 (an u6 (an (rfI ((j + 1 - 1 : Nat) : Int)) (an u7 (an u4 (an u8 (an h4 (an (rfI ((j + 1 : Nat) : Int)) (an u3 (an u4 (an u5 (an (rfI (((ddTo l (i + 1 + 1 + j)).length : Nat) : Int)) (an ((by first | omega | (have := dd_le hlt j; omega)) : ((ddTo l (i + 1 + 1 + j)).length) < (l.length)) (an ((by simp <;> omega) : (l.length) ≤ (ints (wr l (i + 1) j)).length) (an (ints_at gold) (an ((wi (by omega)) : IntKind.i64.wrap (((((ddTo l (i + 1 + 1 + j)).length : Nat) : Int) : Int) + 1) = (((ddTo l (i + 1 + 1 + j)).length + 1 : Nat) : Int)) (an ((wi (by omega)) : IntKind.i64.wrap ((((j + 1 : Nat) : Int) : Int) + 1) = ((j + 1 + 1 : Nat) : Int)) trivial))))))))))))))))))))) fun ac wd r => again1 (by omega) ac wd ⟨by omega, r.cast (by have e : i + 1 + 1 + (j + 1) = (i + 1 + (j + 1)) + 1 := (by omega); have e2 : i + 1 + (j + 1) = i + 1 + 1 + j := (by omega); rw [e]; first | (rw [ddTo_new (p := i + 1 + (j + 1)) ge_l_i1j1 (by have k := ge_l_i1j11; simpa using k) (by omega), e2]; simp; done) | (rw [ddTo_same (p := i + 1 + (j + 1)) ge_l_i1j1 (by omega) (by have k := ge_l_i1j11; rw [show e_l_i1j1 = e_l_i1j11 by omega]; simpa using k), e2]; done)) (by first | (rw [ints_set, wr_new (k := i + 1) (j := j) ge_l_i1j1 (by have k := ge_l_i1j11; simpa using k) (by omega)]; done) | (rw [wr_same (k := i + 1) (j := j) ge_l_i1j1 (by have k := ge_l_i1j11; rw [show e_l_i1j1 = e_l_i1j11 by omega]; simpa using k)]; done))⟩
 | true =>
  have qh0 := of_decide_eq_true h0
  refine castM (y := .sl 0 (l.length)) (N' := [.rw 3 1 (ints l)]) ((by first | (rw [dd_short (by omega)]; done) | (rw [show ddTo l l.length = l by rw [show l.length = i + 1 by omega, hi3]; exact List.take_of_length_le (by omega)]; done) | (rw [show l.length = i + 1 + 1 + j by omega]))) ((by first | (rw [dd_short (by omega)]; done) | (rw [show ddTo l l.length = l by rw [show l.length = i + 1 by omega, hi3]; exact List.take_of_length_le (by omega)]; done) | (refine rwB ?_; rw [cut_take (by rw [List.length_map, wr_len]; have := dd_le hlt j; omega), ints_take, wr_take hdd (by omega) (by omega)]; rw [show l.length = i + 1 + 1 + j by omega]))) ?_
  exact toRetM tk mo hK rfl hbm [(1, [(2, .b true)])] 2000 [0] r (by kernel_rfl) (an h0 trivial)
end Go.Proofs.YtilhbhpldkjkaaaGreat
namespace Go.Proofs.YtilhbhpldkjkaaaGreat
open Go.RowKit
theorem ddTo_take {l : List Int} (h : ∀ (i : Nat) (a b : Int), l[i]? = some a → l[i + 1]? = some b → b ≠ a) : ∀ {p : Nat}, p ≤ l.length → ddTo l p = l.take p
 | 0, _ => by simp [ddTo]
 | 1, hp => dd_start (by omega)
 | p + 2, hp => by
  have e1 : l[p + 1]? = some l[p + 1] := List.getElem?_eq_getElem (by omega)
  have e2 : l[p]? = some l[p] := List.getElem?_eq_getElem (by omega)
  rw [ddTo_new (p := p + 1) e1 (by simp) (h p _ _ e2 e1), ddTo_take h (p := p + 1) (by omega), ← dd_next e1]
theorem ddTo_le' (l : List Int) : ∀ p, (ddTo l p).length ≤ p
 | 0 => by simp [ddTo]
 | p + 1 => by have := ddTo_le l p; have := ddTo_le' l p; omega
theorem lone_nodes {l : List Proc} (hs : isSet l = true) : ((ddTo (l.map Proc.node) (l.map Proc.node).length).length = l.length) ↔ lone l = true := by
 have hset := (isSet_iff l).1 hs
 have hle : ∀ (i : Nat) p q, l[i]? = some p → l[i + 1]? = some q → p.node ≤ q.node := fun i p q hp hq => by
  have := hset.2 i p q (List.getElem?_eq_some_iff.1 hq).1 hp hq
  unfold Proc.lt at this
  have := of_decide_eq_true this
  omega
 have mono : ∀ (d i : Nat) p q, l[i]? = some p → l[i + d]? = some q → p.node ≤ q.node := by
  intro d
  induction d with
  | zero => intro i p q hp hq; rw [Nat.add_zero, hp] at hq; cases hq; omega
  | succ d ih =>
   intro i p q hp hq
   have hlt := (List.getElem?_eq_some_iff.1 hq).1
   have e : l[i + d]? = some l[i + d] := List.getElem?_eq_getElem (by omega)
   have h1 := ih i p _ hp e
   have h2 := hle (i + d) _ q e (by rw [Nat.add_assoc]; exact hq)
   omega
 constructor
 ·intro h
  cases hl : lone l with
  | true => rfl
  | false =>
   exfalso
   have hn : ¬ Lone l l.length := fun hh => by rw [lone_yes hh] at hl; cases hl
   apply hn
   intro a b p q ha hb hp hq e
   have hpos : 0 < a := by omega
   have e1 : l[a - 1]? = some l[a - 1] := List.getElem?_eq_getElem (by omega)
   have h1 := mono (a - 1 - b) b q _ hq (by rw [show b + (a - 1 - b) = a - 1 by omega]; exact e1)
   have h2 := hle (a - 1) _ p e1 (by rw [show a - 1 + 1 = a by omega]; exact hp)
   have g1 : (l.map Proc.node)[a]? = some p.node := by rw [List.getElem?_map, hp]; rfl
   have g2 : (l.map Proc.node)[a - 1]? = some p.node := by rw [List.getElem?_map, e1]; simp; omega
   have h3 := ddTo_same g1 hpos g2
   have h4 := ddTo_le' (l.map Proc.node) a
   have h5 := dd_le (l := l.map Proc.node) (k := a) (by rw [h3]; exact h4) (l.length - (a + 1))
   rw [show a + 1 + (l.length - (a + 1)) = (l.map Proc.node).length by simp; omega] at h5
   omega
 ·intro h
  have hlone := (lone_iff l).1 h
  rw [ddTo_take (fun i a b ha hb => ?_) (Nat.le_refl _), List.take_length, List.length_map]
  rw [List.getElem?_map, Option.map_eq_some_iff] at ha hb
  obtain ⟨p, hp, rfl⟩ := ha
  obtain ⟨q, hq, rfl⟩ := hb
  exact fun e => hlone (i + 1) i q p (List.getElem?_eq_some_iff.1 hq).1 (by omega) hq hp e.symm
theorem set_rising {l : List Proc} (hs : isSet l = true) : Rising (l.map Proc.node) := by
 have hset := (isSet_iff l).1 hs
 intro i a b ha hb
 rw [List.getElem?_map, Option.map_eq_some_iff] at ha hb
 obtain ⟨p, hp, rfl⟩ := ha
 obtain ⟨q, hq, rfl⟩ := hb
 have := hset.2 i p q (List.getElem?_eq_some_iff.1 hq).1 hp hq
 unfold Proc.lt at this
 have := of_decide_eq_true this
 omega
theorem compactI (l : List Int) (i : Nat) (h : i = l.length) (hb : l.length < 1073741824) : ConM Tryz.prog 124 [.sl 0 i] [.rw 3 1 (ints l)] (.sl 0 (ddTo l l.length).length) [.rw 3 1 (ints (ddTo l l.length))] := by subst h; exact compactOk l hb
theorem nodes_next {l : List Proc} {i : Nat} {p : Proc} (h : l[i]? = some p) : ints ((l.take i).map Proc.node) ++ [[.v (.int .i64 p.node)]] = ints ((l.take (i + 1)).map Proc.node) := by
 obtain ⟨hi, rfl⟩ := List.getElem?_eq_some_iff.1 h
 rw [ints_app, List.take_succ_eq_append_getElem hi, List.map_append]; rfl
set_option maxRecDepth 100000 in
theorem nodesOk (l : List Proc) (hs : Rising (l.map Proc.node)) (hb : l.length ≤ 6) : Con Tryz.prog 79 [.d (.ro 2 (procs l))] (.ro 1 (ints (ddTo (l.map Proc.node) (l.map Proc.node).length))) := by
 refine Con.intro (by kernel_rfl) rfl rfl 26 rfl rfl fun w0 K ac hK r => ?_
 refine toHead (todo' := hd Tryz.f79 0) (E' := [(3, .sl 0 (0)), (9, .d (.ro 2 (procs l))), (10, .n l.length), (11, .z 0)]) (M' := [.rw 3 1 ([])]) tk mo hK [(1, [(1, .z (((l.length : Nat) : Int))), (2, .n2 (0) (l.length))]), (2, [(1, .z (((l.length : Nat) : Int)))])] 2000 [0] [3, 9, 10, 11] r (by kernel_rfl) (an ((by simp) : (((procs l).length : Nat) : Int) = ((l.length : Nat) : Int)) (an (rfl : (0 : Int) = ((0 : Nat) : Int)) (an (rfI ((l.length : Nat) : Int)) (an ((by first | omega | (simp; omega)) : (0) ≤ (l.length)) (an ((by first | omega | (simp; omega)) : 8 * (l.length) ≤ 281474976710656) (an ((by first | omega | (simp; omega)) : (l.length) < 4611686018427387904) (an ((by simp) : (((procs l).length : Nat) : Int) = ((l.length : Nat) : Int)) trivial))))))) fun ac wd r => ?_
 refine Goes.rounds (Φ := fun (i : Nat) ac wd => (i ≤ l.length) ∧ RE' [] w0 K 26 [(3, .sl 0 (i)), (9, .d (.ro 2 (procs l))), (10, .n l.length), (11, .n i)] [.rw 3 1 (ints ((l.take i).map Proc.node))] ac wd) (l.length) ?_ (Nat.zero_le _) ⟨by omega, (r).cast rfl rfl⟩
 clear r
 rintro i hi0 again0 ac wd ⟨hv0, r⟩
 cases h0 : (decide ((((i : Nat) : Int) : Int) < ((l.length : Nat) : Int))) with
 | false =>
  have qh0 := of_decide_eq_false h0
  have hall : l.take i = l := List.take_of_length_le (by omega)
  exact toRet tk mo hK rfl [(3, [(0, .b false)]), (7, [(1, .call [.d (.ro 1 (ints (l.map Proc.node)))] (.tu []))]), (8, [(1, .mem [0] (.sl 0 ((ddTo (l.map Proc.node) (l.map Proc.node).length).length)) [.rw 3 1 (ints (ddTo (l.map Proc.node) (l.map Proc.node).length))]), (2, .into 200 [(1, [(5, .res (.ro 1 (ints (ddTo (l.map Proc.node) (l.map Proc.node).length))))])])])] 2000 r (by kernel_rfl) (an h0 (an (sortOk (l.map Proc.node) hs (by simp; omega)) (an ((.tu (by simp)) : Ind (.tu [])) (an (rfN (1)) (an ((by simp <;> omega) : (i) = (ints ((l.take i).map Proc.node)).length) (an ((by rw [froz_ints, hall]) : frozR (ints ((l.take i).map Proc.node)) = ints (l.map Proc.node)) (an ((by rw [hall]; exact compactI (l.map Proc.node) (i) (by simp; omega) (by simp; omega)) : ConM Tryz.prog 124 [.sl 0 (i)] [.rw 3 1 (ints ((l.take i).map Proc.node))] (.sl 0 ((ddTo (l.map Proc.node) (l.map Proc.node).length).length)) [.rw 3 1 (ints (ddTo (l.map Proc.node) (l.map Proc.node).length))]) (an (rfI (((ddTo (l.map Proc.node) (l.map Proc.node).length).length : Nat) : Int)) (an (rfI (((ddTo (l.map Proc.node) (l.map Proc.node).length).length : Nat) : Int)) (an ((by simp <;> omega) : ((ddTo (l.map Proc.node) (l.map Proc.node).length).length) = (ints (ddTo (l.map Proc.node) (l.map Proc.node).length)).length) (an (rfN (1)) (an (froz_ints _ : frozR (ints (ddTo (l.map Proc.node) (l.map Proc.node).length)) = ints (ddTo (l.map Proc.node) (l.map Proc.node).length)) trivial))))))))))))
 | true =>
  have qh0 := of_decide_eq_true h0
  obtain ⟨e_l_i, ge_l_i⟩ : ∃ x, l[i]? = some x := ⟨_, List.getElem?_eq_getElem (by omega)⟩
  exact toHead (todo' := hd Tryz.f79 0) (E' := [(3, .sl 0 (i + (1))), (9, .d (.ro 2 (procs l))), (10, .n l.length), (11, .n (i + 1))]) (M' := [.rw 3 1 (ints ((l.take i).map Proc.node) ++ [[.z e_l_i.node]])]) tk mo hK [(3, [(0, .b true)]), (4, [(0, .ix (i) [.z e_l_i.node, .u e_l_i.inc])]), (6, [(0, .z (((i + 1 : Nat) : Int)))])] 2000 [0] [3, 9, 10, 11] r (by kernel_rfl) (an h0 (an (rfI ((i : Nat) : Int)) (an (procs_at ge_l_i) (an ((by simp <;> omega) : (i) = (ints ((l.take i).map Proc.node)).length) (an ((by simp <;> omega) : (1) = ([[.z e_l_i.node]] : List (List DV)).length) (an ((by first | omega | (simp; done) | (simp; omega)) : (2 * ((i) + (1)) + 192) * 8 ≤ 281474976710656) (an ((by first | omega | (simp; done) | (simp; omega)) : (i) + (1) < 4611686018427387904) (an ((by simp [OneR, AV.one, oneC]) : OneR ([[.z e_l_i.node]])) (an ((wi (by omega)) : IntKind.i64.wrap ((((i : Nat) : Int) : Int) + 1) = ((i + 1 : Nat) : Int)) trivial))))))))) fun ac wd r => again0 (by omega) ac wd ⟨by omega, r.cast rfl (by rw [nodes_next ge_l_i])⟩
end Go.Proofs.YtilhbhpldkjkaaaGreat
