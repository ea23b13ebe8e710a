/-
  specJudges_holds, part 5 of 6: merged by program from the texts that it needs.
-/
import Derived.Test.YtilhbhpldkjkaaaGreatJuD
set_option linter.unusedSimpArgs false
set_option linter.unusedVariables false
set_option linter.unnecessarySimpa false
namespace Go.Proofs.YtilhbhpldkjkaaaGreat
open Go.RowKit
abbrev Camed := List (Nat × Vid × Come)
abbrev Goned := List (Nat × StepK × List Nat)
abbrev goneD (h : List Nat) : DV := .ro 1 (nums h)
structure ViewR where
 err : Int
 C : Camed
 nc : Nat
 G : Goned
 ng : Nat
 f : Life
def Life.enter (f : Life) (v : View) : Life := { f with view := v, stands := 0, sent := 0, handed := List.replicate v.members.length 0 }
def cameL (C : Camed) (v : Vid) : List Comer := match getK C v with | some c => c.came | none => []
def viewBad (C : Camed) (f : Life) (e : Ev) : Bool := !(e.view.may) || (decide (e.view.id.round = 0) || (!(decide (e.who ∈ e.view.members)) || (decide (e.view.id.cmp f.view.id ≤ 0) || (match getK C e.view.id with | some c => !(decide (c.view = e.view)) | none => false))))
def goneBad (G : Goned) (f : Life) (e : Ev) : Bool := match getK G (f.view.id, e.view.id) with | some h => !(decide (h = f.handed)) | none => false
def transitBad (C : Camed) (f : Life) (e : Ev) : Bool := !(mayT f.view e) || (match getK C e.view.id with | some c => !(agreesB c f.view e) | none => false)
def viewOkJ (C : Camed) (nc : Nat) (G : Goned) (ng : Nat) (f : Life) (e : Ev) : ViewR :=
 ⟨0, putK C nc e.view.id ⟨e.view, cameL C e.view.id ++ [⟨e.who, f.view, e.transit⟩]⟩, putC C nc e.view.id, putK G ng (f.view.id, e.view.id) f.handed, putC G ng (f.view.id, e.view.id), f.enter e.view⟩
def viewJ (C : Camed) (nc : Nat) (G : Goned) (ng : Nat) (f : Life) (e : Ev) : ViewR :=
 if f.stands ≠ 2 then ⟨231, C, nc, G, ng, f⟩
 else if viewBad C f e = true then ⟨234, C, nc, G, ng, f⟩
 else if handedAt f e.who ≠ f.sent then ⟨235, C, nc, G, ng, f⟩
 else if goneBad G f e = true then ⟨236, C, nc, G, ng, f⟩
 else if transitBad C f e = true then ⟨237, C, nc, G, ng, f⟩
 else viewOkJ C nc G ng f e
section
variable {C : Camed} {nc : Nat} {G : Goned} {ng : Nat} {f : Life} {e : Ev}
theorem viewJ1 (h : ¬ f.stands = 2) : viewJ C nc G ng f e = ⟨231, C, nc, G, ng, f⟩ := by unfold viewJ; rw [if_pos h]
theorem viewJ2 (h : f.stands = 2) (h2 : viewBad C f e = true) : viewJ C nc G ng f e = ⟨234, C, nc, G, ng, f⟩ := by unfold viewJ; rw [if_neg (fun g => g h), if_pos h2]
theorem viewJ3 (h : f.stands = 2) (h2 : viewBad C f e = false) (h3 : handedAt f e.who ≠ f.sent) : viewJ C nc G ng f e = ⟨235, C, nc, G, ng, f⟩ := by unfold viewJ; rw [if_neg (fun g => g h), if_neg (by rw [h2]; decide), if_pos h3]
theorem viewJ4 (h : f.stands = 2) (h2 : viewBad C f e = false) (h3 : handedAt f e.who = f.sent) (h4 : goneBad G f e = true) : viewJ C nc G ng f e = ⟨236, C, nc, G, ng, f⟩ := by unfold viewJ; rw [if_neg (fun g => g h), if_neg (by rw [h2]; decide), if_neg (fun g => g h3), if_pos h4]
theorem viewJ5 (h : f.stands = 2) (h2 : viewBad C f e = false) (h3 : handedAt f e.who = f.sent) (h4 : goneBad G f e = false) (h5 : transitBad C f e = true) : viewJ C nc G ng f e = ⟨237, C, nc, G, ng, f⟩ := by unfold viewJ; rw [if_neg (fun g => g h), if_neg (by rw [h2]; decide), if_neg (fun g => g h3), if_neg (by rw [h4]; decide), if_pos h5]
theorem viewJ6 (h : f.stands = 2) (h2 : viewBad C f e = false) (h3 : handedAt f e.who = f.sent) (h4 : goneBad G f e = false) (h5 : transitBad C f e = false) : viewJ C nc G ng f e = viewOkJ C nc G ng f e := by unfold viewJ; rw [if_neg (fun g => g h), if_neg (by rw [h2]; decide), if_neg (fun g => g h3), if_neg (by rw [h4]; decide), if_neg (by rw [h5]; decide)]
end
structure CameOk (C : Camed) : Prop where
 n : keysN C
 ok : ∀ x ∈ C, x.2.1.okV
 id : ∀ x ∈ C, x.2.2.view.id = x.2.1
 may : ∀ x ∈ C, x.2.2.view.may = true
 came : ∀ x ∈ C, ∀ o ∈ x.2.2.came, o.Ok
 len : ∀ x ∈ C, x.2.2.came.length ≤ 100000
structure GoneOk (G : Goned) : Prop where
 n : keysN G
 ok : ∀ x ∈ G, StepK.ok x.2.1
 len : ∀ x ∈ G, x.2.2.length ≤ 1000
structure Life.Ok (f : Life) (p : Proc) : Prop where
 may : f.view.may = true
 mem : p ∈ f.view.members
 len : f.handed.length = f.view.members.length
 vid : f.view.id.okV
def lifeM (ok : Bool) (f : Life) : List Blk := bif ok then [.bx 82 (.u f.view.id.round :: .z f.view.id.server.node :: .u f.view.id.server.inc :: .d (.ro 2 (procs f.view.members)) :: .d (.ro 1 (nums f.view.starts)) :: .d (.v (.bool f.on)) :: .z f.stands :: .u f.sent :: .sl 7 f.handed.length :: []), .dead, .rw 36 1 (nums f.handed)]
 else [.bx 82 (.u f.view.id.round :: .z f.view.id.server.node :: .u f.view.id.server.inc :: .d (.ro 2 (procs f.view.members)) :: .d (.ro 1 (nums f.view.starts)) :: .d (.v (.bool f.on)) :: .z f.stands :: .u f.sent :: .sl 6 f.handed.length :: []), .rw 36 1 (nums f.handed)]
theorem setE_last {es : List (Nat × MK × DV)} {n b : Nat} {m : MK} {x y : DV} (h : n = es.length) : setE (es ++ [(b, m, x)]) n y = es ++ [(b, m, y)] := by
 subst h; unfold setE
 apply List.ext_getElem?; intro i
 rw [List.getElem?_modify]
 by_cases e : es.length = i
 ·subst e; simp
 ·simp only [if_neg e]
  rcases Nat.lt_or_ge i es.length with h | h
  ·rw [List.getElem?_append_left h, List.getElem?_append_left h]; simp
  ·rw [List.getElem?_append_right h, List.getElem?_append_right h]
   have : i - es.length = (i - es.length - 1) + 1 := by omega
   rw [this]; simp
theorem emap_len {κ α : Type} (k : κ → MK) (d : α → DV) (l : List (Nat × κ × α)) : (emap k d l).length = l.length := by simp [emap]
theorem comers_app (l : List Comer) (c : Comer) : comers l ++ [[.v (.int .i64 c.who.node), .v (.int .u64 (c.who.inc : Int)), .v (.int .u64 (c.frm.id.round : Int)), .v (.int .i64 c.frm.id.server.node), .v (.int .u64 (c.frm.id.server.inc : Int)), .ro 2 (procs c.frm.members), .ro 1 (nums c.frm.starts), .ro 2 (procs c.transit)]] = comers (l ++ [c]) := by simp [comers, Comer.row]
theorem nums_zero (n : Nat) : List.replicate n [DV.v (.int .u64 0)] = nums (List.replicate n 0) := by unfold nums; rw [List.map_replicate]; rfl
theorem froz_numsE (l : List Nat) : frozR (nums l) = nums l := by
 rw [frozR_map]; unfold nums; rw [List.map_map]; apply List.map_congr_left; intro s _; show [froz (.v _)] = _; rw [froz]
theorem lifeM_enter (f : Life) (v : View) : lifeM ((0 : Int) == 0) (f.enter v) = [.bx 82 [.u v.id.round, .z v.id.server.node, .u v.id.server.inc, .d (.ro 2 (procs v.members)), .d (.ro 1 (nums v.starts)), .d (.v (.bool f.on)), .z 0, .u 0, .sl 7 v.members.length], .dead, .rw 36 1 (nums (List.replicate v.members.length 0))] := by
 unfold lifeM Life.enter; simp only [List.length_replicate]; rfl
theorem putK_old {κ α : Type} [DecidableEq κ] {l : List (Nat × κ × α)} {c j b : Nat} {q : κ} {x y : α} (hn : keysN l) (h : l[j]? = some (b, q, y)) (hs : (getK l q).isSome = true) : putK l c q x = l.modify j fun e => (e.1, e.2.1, x) := by unfold putK; rw [if_pos hs, setK_mod hn h]
theorem came_fold {C : Camed} {j b : Nat} {q : Vid} {c : Come} {z : DV} {l : List Comer} (h : C[j]? = some (b, q, c)) : setE (setE (emap vk Come.d C) j z) j (.pb 122 [.u c.view.id.round, .z c.view.id.server.node, .u c.view.id.server.inc, .ro 2 (procs c.view.members), .ro 1 (nums c.view.starts), .em 129 8 (comers l)]) = emap vk Come.d (C.modify j fun e => (e.1, e.2.1, ⟨c.view, l⟩)) := emap_set (x := (⟨c.view, l⟩ : Come)) h z
theorem cameL_old {C : Camed} {v : Vid} {c : Come} (h : getK C v = some c) : cameL C v = c.came := by unfold cameL; rw [h]
theorem cameL_new {C : Camed} {v : Vid} (h : getK C v = none) : cameL C v = [] := by unfold cameL; rw [h]
theorem at_last {es : List (Nat × MK × DV)} {n b : Nat} {m : MK} {x : DV} (h : n = es.length) : (es ++ [(b, m, x)])[n]? = some (b, m, x) := by subst h; simp
set_option maxHeartbeats 4000000 in
set_option maxRecDepth 100000 in
theorem viewOk (X1 X2 : List (Nat × MK × DV)) (cl cs : Nat) (C : Camed) (nc : Nat) (G : Goned) (ng : Nat) (f : Life) (e : Ev) (ho : e.Ok) (hC : CameOk C) (hG : GoneOk G) (hf : f.Ok e.who) : ConM Tryz.prog 19 [.pt 0 0, .pt 5 0, .ag e.av] [.bx 54 [.mv 1, .mv 2, .mv 3, .mv 4], .mp 49 (cl) (X1), .mp 50 (cs) (X2), .mp 51 (nc) (emap vk Come.d C), .mp 52 (ng) (emap sk goneD G), .bx 82 (f.lav 6), .rw 36 1 (nums f.handed)] (.d (.z (viewJ C nc G ng f e).err)) ([.bx 54 [.mv 1, .mv 2, .mv 3, .mv 4], .mp 49 (cl) (X1), .mp 50 (cs) (X2), .mp 51 ((viewJ C nc G ng f e).nc) (emap vk Come.d (viewJ C nc G ng f e).C), .mp 52 ((viewJ C nc G ng f e).ng) (emap sk goneD (viewJ C nc G ng f e).G)] ++ lifeM ((viewJ C nc G ng f e).err == 0) (viewJ C nc G ng f e).f) := by
 have hme := ho.members
 have hfs := View.may_ss hf.may
 have hbf := View.may_bounded hf.may
 have hbe : e.view.bounded := ⟨by have := ho.members; omega, by have := ho.starts; omega⟩
 have hfl := hf.len
 obtain ⟨hw, gw⟩ : ∃ x, f.handed[placeN f.view.members e.who]? = some x := ⟨_, List.getElem?_eq_getElem (by have := place_lt (place_mem.2 hf.mem); omega)⟩
 have hpl := place_lt (place_mem.2 hf.mem)
 refine ConM.intro (by kernel_rfl) rfl rfl 188 rfl rfl fun D w0 K bs ac wd hK (hbm : bs.m = 7) r => ?_
 cases h0 : ((getK C e.view.id).isSome) with
 | false =>
  have hno : getK C e.view.id = none := by simpa using (show (getK C e.view.id).isSome = false by assumption)
  cases h1 : ((f.stands : Int) != 2) with
  | false =>
   have qh1 := eq_of_bne h1
   refine toAtM (todo' := aft Tryz.f19 1) (E' := [(0, .pt 0 0), (1, .pt 5 0), (5, .pt 7 0), (6, .z 0), (17, .d (.v (.bool false)))]) (M' := [.bx 54 [.mv 1, .mv 2, .mv 3, .mv 4], .mp 49 (cl) (X1), .mp 50 (cs) (X2), .mp 51 (nc) (emap vk Come.d C), .mp 52 (ng) (emap sk goneD G), .bx 82 (f.lav 6), .rw 36 1 (nums f.handed), .bx 46 e.av]) tk mo hK hbm [(1, [(4, .b false)])] 5 [0, 1, 2, 3, 4, 5, 6, 7] [0, 1, 5, 6, 17] r (by kernel_rfl) (an h1 trivial) fun ac wd r => ?_
   have u0 := ((keysV hC.ok ho.vid) : KeysOk Tryz.prog 40 ((vk e.view.id) :: List.map (fun (e : Nat × MK × DV) => e.2.1) (emap vk Come.d C)))
   have u1 := ((emap_fresh (fun _ _ h => vk_inj h) (q := e.view.id) hno) : ∀ zz ∈ (emap vk Come.d C : List (Nat × MK × DV)), zz.2.1 ≠ (vk e.view.id))
   cases h2 : (e.view.may) with
   | false =>
    refine toAtM (todo' := aft Tryz.f19 5) (E' := [(0, .pt 0 0), (1, .pt 5 0), (5, .pt 7 0), (6, .z 234), (7, .d (.v (.pointer none)))]) (M' := [.bx 54 [.mv 1, .mv 2, .mv 3, .mv 4], .mp 49 (cl) (X1), .mp 50 (cs) (X2), .mp 51 (nc) (emap vk Come.d C), .mp 52 (ng) (emap sk goneD G), .bx 82 (f.lav 6), .rw 36 1 (nums f.handed), .bx 46 e.av]) tk mo hK hbm [(3, [(7, .b false)]), (4, [(2, .con (.v (.bool false)))])] 10 [0, 1, 2, 3, 4, 5, 6, 7] [0, 1, 5, 6, 7] r (by kernel_rfl) (an u0 (an ((fun _ => rfl) : ZeroIs Tryz.prog 116 ((.pointer none))) (an u1 (an ((by have k := viewMay e.view hbe; rw [h2] at k; exact k) : Con Tryz.prog 41 [.ag (e.view.avs [])] (.v (.bool false))) trivial)))) fun ac wd r => ?_
    refine castM (y := .z 234) (N' := [.bx 54 [.mv 1, .mv 2, .mv 3, .mv 4], .mp 49 (cl) (X1), .mp 50 (cs) (X2), .mp 51 (nc) (emap vk Come.d C), .mp 52 (ng) (emap sk goneD G), .bx 82 (f.lav 6), .rw 36 1 (nums f.handed)]) ((by rw [viewJ2 (by omega) (by unfold viewBad; rw [hno]; first | (simp [*]; done) | (simp [*] <;> omega))])) ((by rw [viewJ2 (by omega) (by unfold viewBad; rw [hno]; first | (simp [*]; done) | (simp [*] <;> omega))]; rfl)) ?_
    exact toRetM tk mo hK rfl hbm [] 2000 [0, 1, 2, 3, 4, 5, 6] r (by kernel_rfl) trivial
   | true =>
    have u2 := ((by have k := viewMay e.view hbe; rw [h2] at k; exact k) : Con Tryz.prog 41 [.ag (e.view.avs [])] (.v (.bool true)))
    cases h3 : (((e.view.id.round : Nat) : Int) == 0) with
    | false =>
     have qh3 := ne_of_beq_false h3
     cases h4 : (decide (e.who ∈ e.view.members)) with
     | false =>
      have qh4 := of_decide_eq_false h4
      refine toAtM (todo' := aft Tryz.f19 5) (E' := [(0, .pt 0 0), (1, .pt 5 0), (5, .pt 7 0), (6, .z 234), (7, .d (.v (.pointer none)))]) (M' := [.bx 54 [.mv 1, .mv 2, .mv 3, .mv 4], .mp 49 (cl) (X1), .mp 50 (cs) (X2), .mp 51 (nc) (emap vk Come.d C), .mp 52 (ng) (emap sk goneD G), .bx 82 (f.lav 6), .rw 36 1 (nums f.handed), .bx 46 e.av]) tk mo hK hbm [(3, [(7, .b false)]), (4, [(2, .con (.v (.bool true))), (9, .b false), (17, .con (.v (.bool false)))])] 10 [0, 1, 2, 3, 4, 5, 6, 7] [0, 1, 5, 6, 7] r (by kernel_rfl) (an u0 (an ((fun _ => rfl) : ZeroIs Tryz.prog 116 ((.pointer none))) (an u1 (an u2 (an h3 (an ((by have k := procHas e.view.members e.who (by have := ho.members; omega); rw [h4] at k; exact k) : Con Tryz.prog 42 [.d (.ro 2 (procs e.view.members)), .ag [.z e.who.node, .u e.who.inc]] (.v (.bool false))) trivial)))))) fun ac wd r => ?_
      refine castM (y := .z 234) (N' := [.bx 54 [.mv 1, .mv 2, .mv 3, .mv 4], .mp 49 (cl) (X1), .mp 50 (cs) (X2), .mp 51 (nc) (emap vk Come.d C), .mp 52 (ng) (emap sk goneD G), .bx 82 (f.lav 6), .rw 36 1 (nums f.handed)]) ((by rw [viewJ2 (by omega) (by unfold viewBad; rw [hno]; first | (simp [*]; done) | (simp [*] <;> omega))])) ((by rw [viewJ2 (by omega) (by unfold viewBad; rw [hno]; first | (simp [*]; done) | (simp [*] <;> omega))]; rfl)) ?_
      exact toRetM tk mo hK rfl hbm [] 2000 [0, 1, 2, 3, 4, 5, 6] r (by kernel_rfl) trivial
     | true =>
      have qh4 := of_decide_eq_true h4
      have u3 := ((by have k := procHas e.view.members e.who (by have := ho.members; omega); rw [h4] at k; exact k) : Con Tryz.prog 42 [.d (.ro 2 (procs e.view.members)), .ag [.z e.who.node, .u e.who.inc]] (.v (.bool true)))
      cases h5 : (decide ((e.view.id.cmp f.view.id : Int) ≤ 0)) with
      | false =>
       have qh5 := of_decide_eq_false h5
       have u4 := ((by have k := viewPlace f.view e.who hbf; rw [place_mem.2 hf.mem] at k; exact k) : Con Tryz.prog 39 [.ag (f.view.avs []), .ag [.z e.who.node, .u e.who.inc]] (.tu [.n (placeN f.view.members e.who), .v (.bool true)]))
       have u5 := ((by first | omega | decide | (simp; done) | (simp; omega)) : (placeN f.view.members e.who) < (f.handed.length))
       have u6 := ((by first | rfl | (simp; done) | (simp <;> omega)) : (f.handed.length) ≤ (nums f.handed).length)
       cases h6 : (((hw : Nat) : Int) != ((f.sent : Nat) : Int)) with
       | false =>
        have qh6 := eq_of_bne h6
        cases h7 : ((getK G (f.view.id, e.view.id)).isSome) with
        | false =>
         have hnog : getK G (f.view.id, e.view.id) = none := by simpa using (show (getK G (f.view.id, e.view.id)).isSome = false by assumption)
         have u7 := ((keysS hG.ok (q := (f.view.id, e.view.id)) ⟨hf.vid, ho.vid⟩) : KeysOk Tryz.prog 124 ((sk (f.view.id, e.view.id)) :: List.map (fun (e : Nat × MK × DV) => e.2.1) (emap sk goneD G)))
         have u8 := ((emap_fresh (fun _ _ h => sk_inj h) (q := (f.view.id, e.view.id)) hnog) : ∀ zz ∈ (emap sk goneD G : List (Nat × MK × DV)), zz.2.1 ≠ (sk (f.view.id, e.view.id)))
         cases h8 : (mayT f.view e) with
         | false =>
          refine toAtM (todo' := aft Tryz.f19 14) (E' := [(0, .pt 0 0), (1, .pt 5 0), (5, .pt 7 0), (6, .z 237), (7, .d (.v (.pointer none))), (10, .pt 8 0)]) (M' := [.bx 54 [.mv 1, .mv 2, .mv 3, .mv 4], .mp 49 (cl) (X1), .mp 50 (cs) (X2), .mp 51 (nc) (emap vk Come.d C), .mp 52 (ng) (emap sk goneD G), .bx 82 (f.lav 6), .rw 36 1 (nums f.handed), .bx 46 e.av, .bx 124 [.u f.view.id.round, .z f.view.id.server.node, .u f.view.id.server.inc, .u e.view.id.round, .z e.view.id.server.node, .u e.view.id.server.inc]]) tk mo hK hbm [(3, [(7, .b false)]), (4, [(2, .con (.v (.bool true))), (9, .b false), (17, .con (.v (.bool true))), (29, .con (.z (e.view.id.cmp f.view.id))), (30, .b false)]), (6, [(6, .con (.tu [.n (placeN f.view.members e.who), .v (.bool true)]))]), (7, [(5, .n (placeN f.view.members e.who)), (6, .ix 0 [.u hw]), (11, .b false)]), (10, [(5, .b false)]), (13, [(5, .con (.v (.bool false)))])] 31 [0, 1, 2, 3, 4, 5, 6, 7, 8] [0, 1, 5, 6, 7, 10] r (by kernel_rfl) (an u0 (an ((fun _ => rfl) : ZeroIs Tryz.prog 116 ((.pointer none))) (an u1 (an u2 (an h3 (an u3 (an (viewCompare e.view.id f.view.id) (an h5 (an (ptrT116 : PtrT Tryz.prog 116) (an u4 (an (rfI ((placeN f.view.members e.who : Nat) : Int)) (an u5 (an u6 (an (nums_at gw) (an h6 (an u7 (an ((fun _ => rfl) : ZeroIs Tryz.prog 42 ((.slice none 0 0))) (an u8 (an ((by have k := mayTransitOk f.view e ho hfs.1 hfs.2 (View.may_ss (by assumption)).1; rw [h8] at k; exact k) : Con Tryz.prog 46 [.ag (f.view.avs []), .ag e.av] (.v (.bool false))) trivial))))))))))))))))))) fun ac wd r => ?_
          refine castM (y := .z 237) (N' := [.bx 54 [.mv 1, .mv 2, .mv 3, .mv 4], .mp 49 (cl) (X1), .mp 50 (cs) (X2), .mp 51 (nc) (emap vk Come.d C), .mp 52 (ng) (emap sk goneD G), .bx 82 (f.lav 6), .rw 36 1 (nums f.handed)]) ((by rw [viewJ5 (by omega) (by unfold viewBad; rw [hno]; first | (simp [*]; done) | (simp [*] <;> omega)) (by unfold handedAt; rw [gw]; simp only [Option.getD_some]; omega) (by unfold goneBad; simp [hnog]) (by unfold transitBad; simp [hno, *])])) ((by rw [viewJ5 (by omega) (by unfold viewBad; rw [hno]; first | (simp [*]; done) | (simp [*] <;> omega)) (by unfold handedAt; rw [gw]; simp only [Option.getD_some]; omega) (by unfold goneBad; simp [hnog]) (by unfold transitBad; simp [hno, *])]; rfl)) ?_
          exact toRetM tk mo hK rfl hbm [] 2000 [0, 1, 2, 3, 4, 5, 6] r (by kernel_rfl) trivial
         | true =>
          refine toAtM (todo' := aft Tryz.f19 16) (E' := [(0, .pt 0 0), (1, .pt 5 0), (5, .pt 7 0), (6, .z 0), (7, .pt 9 0), (10, .pt 8 0)]) (M' := [.bx 54 [.mv 1, .mv 2, .mv 3, .mv 4], .mp 49 (cl) (X1), .mp 50 (cs) (X2), .mp 51 (nc) (emap vk Come.d C), .mp 52 (ng) (emap sk goneD G), .bx 82 (f.lav 6), .rw 36 1 (nums f.handed), .bx 46 e.av, .bx 124 [.u f.view.id.round, .z f.view.id.server.node, .u f.view.id.server.inc, .u e.view.id.round, .z e.view.id.server.node, .u e.view.id.server.inc], .bx 122 (e.view.avs [.d (.v (.slice none 0 0))])]) tk mo hK hbm [(3, [(7, .b false)]), (4, [(2, .con (.v (.bool true))), (9, .b false), (17, .con (.v (.bool true))), (29, .con (.z (e.view.id.cmp f.view.id))), (30, .b false)]), (6, [(6, .con (.tu [.n (placeN f.view.members e.who), .v (.bool true)]))]), (7, [(5, .n (placeN f.view.members e.who)), (6, .ix 0 [.u hw]), (11, .b false)]), (10, [(5, .b false)]), (13, [(5, .con (.v (.bool true)))])] 36 [0, 1, 2, 3, 4, 5, 6, 7, 8, 9] [0, 1, 5, 6, 7, 10] r (by kernel_rfl) (an u0 (an ((fun _ => rfl) : ZeroIs Tryz.prog 116 ((.pointer none))) (an u1 (an u2 (an h3 (an u3 (an (viewCompare e.view.id f.view.id) (an h5 (an (ptrT116 : PtrT Tryz.prog 116) (an u4 (an (rfI ((placeN f.view.members e.who : Nat) : Int)) (an u5 (an u6 (an (nums_at gw) (an h6 (an u7 (an ((fun _ => rfl) : ZeroIs Tryz.prog 42 ((.slice none 0 0))) (an u8 (an ((by have k := mayTransitOk f.view e ho hfs.1 hfs.2 (View.may_ss (by assumption)).1; rw [h8] at k; exact k) : Con Tryz.prog 46 [.ag (f.view.avs []), .ag e.av] (.v (.bool true))) (an (ptrT116 : PtrT Tryz.prog 116) (an (ptrT116 : PtrT Tryz.prog 116) trivial))))))))))))))))))))) fun ac wd r => ?_
          obtain ⟨xb, r⟩ := r.name (u := 9) rfl
          have v18_0 := ((keysV hC.ok ho.vid) : KeysOk Tryz.prog 40 ((vk e.view.id) :: List.map (fun (e : Nat × MK × DV) => e.2.1) (emap vk Come.d C)))
          have v18_1 := ((emap_fresh (fun _ _ h => vk_inj h) (q := e.view.id) hno) : ∀ zz ∈ (emap vk Come.d C : List (Nat × MK × DV)), zz.2.1 ≠ (vk e.view.id))
          have v18_2 := ((by first | rfl | (simp; done) | (simp <;> omega)) : (1) = ([[.z e.who.node, .u e.who.inc, .u f.view.id.round, .z f.view.id.server.node, .u f.view.id.server.inc, .ro 2 (procs f.view.members), .ro 1 (nums f.view.starts), .ro 2 (procs e.transit)]] : List (List DV)).length)
          have v18_3 := ((by first | omega | (simp; done) | (simp <;> omega)) : (2 * (0 + (1)) + 192) * 112 ≤ 281474976710656)
          have v18_4 := ((by first | omega | (simp; done) | (simp <;> omega)) : 0 + (1) < 4611686018427387904)
          have v18_5 := ((by simp [OneR, AV.one, oneC, bytesR]) : OneR ([[.z e.who.node, .u e.who.inc, .u f.view.id.round, .z f.view.id.server.node, .u f.view.id.server.inc, .ro 2 (procs f.view.members), .ro 1 (nums f.view.starts), .ro 2 (procs e.transit)]]))
          refine toDrawM (todo' := aft Tryz.f19 18) (E' := [(0, .pt 0 0), (1, .pt 5 0), (5, .pt 7 0), (6, .z 0), (10, .pt 8 0)]) (M' := [.bx 54 [.mv 1, .mv 2, .mv 3, .mv 4], .mp 49 (cl) (X1), .mp 50 (cs) (X2), .mp 51 (nc + 1) (emap vk Come.d C ++ [(nc, (vk e.view.id), ptrV xb)]), .mp 52 (ng) (emap sk goneD G), .bx 82 (f.lav 6), .rw 36 1 (nums f.handed), .bx 46 e.av, .bx 124 [.u f.view.id.round, .z f.view.id.server.node, .u f.view.id.server.inc, .u e.view.id.round, .z e.view.id.server.node, .u e.view.id.server.inc], .bx 122 (e.view.avs [.sl 12 ((1))]), .nm 9 xb, .dead, .rw 129 8 ([[.z e.who.node, .u e.who.inc, .u f.view.id.round, .z f.view.id.server.node, .u f.view.id.server.inc, .ro 2 (procs f.view.members), .ro 1 (nums f.view.starts), .ro 2 (procs e.transit)]])]) tk mo hK hbm [(17, [(8, .n 10)]), (18, [])] 2 2 [4] [[0, 1, 2, 3, 4, 5, 6, 7, 8, 9, 10, 11, 12], [0, 1, 2, 3, 4, 5, 6, 7, 8, 9, 10, 11, 12]] [0, 1, 5, 6, 10] r (by kernel_rfl) (an (an v18_0 (an v18_1 (an v18_2 (an v18_3 (an v18_4 (an v18_5 trivial)))))) (an (an v18_0 (an v18_1 (an v18_2 (an v18_3 (an v18_4 (an v18_5 trivial)))))) trivial)) fun ac wd r => ?_
          have r := r.stayC [(5, 8)] (p := [(f.handed.length) = (nums f.handed).length]) (M1 := [.bx 54 [.mv 1, .mv 2, .mv 3, .mv 4], .mp 49 (cl) (X1), .mp 50 (cs) (X2), .mp 51 (nc + 1) (emap vk Come.d C ++ [(nc, (vk e.view.id), ptrV xb)]), .mp 52 (ng) (emap sk goneD G), .bx 82 (f.view.avs [.d (.v (.bool (f.on))), .z f.stands, .u f.sent, .d (.ro 1 (frozR (nums f.handed)))]), .dead, .bx 46 e.av, .bx 124 [.u f.view.id.round, .z f.view.id.server.node, .u f.view.id.server.inc, .u e.view.id.round, .z e.view.id.server.node, .u e.view.id.server.inc], .bx 122 (e.view.avs [.sl 12 ((1))]), .nm 9 xb, .dead, .rw 129 8 ([[.z e.who.node, .u e.who.inc, .u f.view.id.round, .z f.view.id.server.node, .u f.view.id.server.inc, .ro 2 (procs f.view.members), .ro 1 (nums f.view.starts), .ro 2 (procs e.transit)]])]) (M2 := [.bx 54 [.mv 1, .mv 2, .mv 3, .mv 4], .mp 49 (cl) (X1), .mp 50 (cs) (X2), .mp 51 (nc + 1) (emap vk Come.d C ++ [(nc, (vk e.view.id), ptrV xb)]), .mp 52 (ng) (emap sk goneD G), .bx 82 (f.view.avs [.d (.v (.bool (f.on))), .z f.stands, .u f.sent, .d (.ro 1 (nums f.handed))]), .dead, .bx 46 e.av, .bx 124 [.u f.view.id.round, .z f.view.id.server.node, .u f.view.id.server.inc, .u e.view.id.round, .z e.view.id.server.node, .u e.view.id.server.inc], .bx 122 (e.view.avs [.sl 12 ((1))]), .nm 9 xb, .dead, .rw 129 8 ([[.z e.who.node, .u e.who.inc, .u f.view.id.round, .z f.view.id.server.node, .u f.view.id.server.inc, .ro 2 (procs f.view.members), .ro 1 (nums f.view.starts), .ro 2 (procs e.transit)]])]) (by kernel_rfl) (And.intro (by simp) trivial) (by kernel_rfl) (by rw [froz_numsE])
          refine toAtM (todo' := aft Tryz.f19 21) (E' := [(6, .z 0)]) (M' := [.bx 54 [.mv 1, .mv 2, .mv 3, .mv 4], .mp 49 (cl) (X1), .mp 50 (cs) (X2), .mp 51 (nc + 1) (emap vk Come.d C ++ [(nc, (vk e.view.id), ptrV xb)]), .mp 52 (ng + 1) (emap sk goneD G ++ [(ng, (sk (f.view.id, e.view.id)), .ro 1 (nums f.handed))]), .bx 82 (e.view.avs [.d (.v (.bool (f.on))), .z 0, .d (.v (.int .u64 0)), .sl 14 (e.view.members.length)]), .dead, .bx 46 e.av, .bx 124 [.u f.view.id.round, .z f.view.id.server.node, .u f.view.id.server.inc, .u e.view.id.round, .z e.view.id.server.node, .u e.view.id.server.inc], .bx 122 (e.view.avs [.sl 12 ((1))]), .nm 9 xb, .dead, .rw 129 8 ([[.z e.who.node, .u e.who.inc, .u f.view.id.round, .z f.view.id.server.node, .u f.view.id.server.inc, .ro 2 (procs f.view.members), .ro 1 (nums f.view.starts), .ro 2 (procs e.transit)]]), .bx 44 (e.view.avs []), .rw 36 1 (List.replicate (e.view.members.length) [.v (.int .u64 0)])]) tk mo hK hbm [(19, [(9, .b false)]), (20, [(3, .into 200 [(4, [(3, .z (((e.view.members.length : Nat) : Int))), (4, .n (e.view.members.length))])])])] 6 [0, 1, 2, 3, 4, 5, 6, 7, 8, 9, 10, 11, 12, 13, 14] [6] r (by kernel_rfl) (an u7 (an u8 (an ((by first | rfl | simp [bytesR]) : (((procs e.view.members).length : Nat) : Int) = ((e.view.members.length : Nat) : Int)) (an (rfI ((e.view.members.length : Nat) : Int)) (an (rfI ((e.view.members.length : Nat) : Int)) (an ((by first | omega | decide | (simp; done) | (simp; omega)) : 8 * (e.view.members.length) ≤ 281474976710656) (an ((by first | omega | decide | (simp; done) | (simp; omega)) : (e.view.members.length) < 4611686018427387904) trivial))))))) fun ac wd r => ?_
          have r := r.foldM (u := 9) (v := 10) (m := 3) (j := C.length) (vc := [((1)) = ([[.z e.who.node, .u e.who.inc, .u f.view.id.round, .z f.view.id.server.node, .u f.view.id.server.inc, .ro 2 (procs f.view.members), .ro 1 (nums f.view.starts), .ro 2 (procs e.transit)]] : List (List DV)).length]) (M1 := [.bx 54 [.mv 1, .mv 2, .mv 3, .mv 4], .mp 49 (cl) (X1), .mp 50 (cs) (X2), .mp 51 (nc + 1) (setE (emap vk Come.d C ++ [(nc, (vk e.view.id), ptrV xb)]) (C.length) (.pb 122 (e.view.dvs [.em 129 8 ([[.z e.who.node, .u e.who.inc, .u f.view.id.round, .z f.view.id.server.node, .u f.view.id.server.inc, .ro 2 (procs f.view.members), .ro 1 (nums f.view.starts), .ro 2 (procs e.transit)]])]))), .mp 52 (ng + 1) (emap sk goneD G ++ [(ng, (sk (f.view.id, e.view.id)), .ro 1 (nums f.handed))]), .bx 82 (e.view.avs [.d (.v (.bool (f.on))), .z 0, .d (.v (.int .u64 0)), .sl 14 (e.view.members.length)]), .dead, .bx 46 e.av, .bx 124 [.u f.view.id.round, .z f.view.id.server.node, .u f.view.id.server.inc, .u e.view.id.round, .z e.view.id.server.node, .u e.view.id.server.inc], .dead, .nm 9 xb, .dead, .dead, .bx 44 (e.view.avs []), .rw 36 1 (List.replicate (e.view.members.length) [.v (.int .u64 0)])]) (M2 := [.bx 54 [.mv 1, .mv 2, .mv 3, .mv 4], .mp 49 (cl) (X1), .mp 50 (cs) (X2), .mp 51 (nc + 1) (emap vk Come.d (putK C nc e.view.id ⟨e.view, cameL C e.view.id ++ [⟨e.who, f.view, e.transit⟩]⟩)), .mp 52 (ng + 1) (emap sk goneD G ++ [(ng, (sk (f.view.id, e.view.id)), .ro 1 (nums f.handed))]), .bx 82 (e.view.avs [.d (.v (.bool (f.on))), .z 0, .d (.v (.int .u64 0)), .sl 14 (e.view.members.length)]), .dead, .bx 46 e.av, .bx 124 [.u f.view.id.round, .z f.view.id.server.node, .u f.view.id.server.inc, .u e.view.id.round, .z e.view.id.server.node, .u e.view.id.server.inc], .dead, .nm 9 xb, .dead, .dead, .bx 44 (e.view.avs []), .rw 36 1 (List.replicate (e.view.members.length) [.v (.int .u64 0)])]) rfl (by kernel_rfl) (And.intro (by first | rfl | simp) trivial) (fun _ _ _ hM => by cases hM; exact at_last (emap_len _ _ _).symm) (by rw [setE_last (emap_len _ _ _).symm, putNew (by assumption), cameL_new hno]; rfl)
          refine castM (y := .z 0) (N' := [.bx 54 [.mv 1, .mv 2, .mv 3, .mv 4], .mp 49 (cl) (X1), .mp 50 (cs) (X2), .mp 51 (nc + 1) (emap vk Come.d (putK C nc e.view.id ⟨e.view, cameL C e.view.id ++ [⟨e.who, f.view, e.transit⟩]⟩)), .mp 52 (ng + 1) (emap sk goneD G ++ [(ng, (sk (f.view.id, e.view.id)), .ro 1 (nums f.handed))]), .bx 82 (e.view.avs [.d (.v (.bool (f.on))), .z 0, .d (.v (.int .u64 0)), .sl 7 (e.view.members.length)]), .dead, .rw 36 1 (List.replicate (e.view.members.length) [.v (.int .u64 0)])]) ((by rw [viewJ6 (by omega) (by unfold viewBad; rw [hno]; first | (simp [*]; done) | (simp [*] <;> omega)) (by unfold handedAt; rw [gw]; simp only [Option.getD_some]; omega) (by unfold goneBad; simp [hnog]) (by unfold transitBad; simp [hno, *])]; rfl)) ((by rw [viewJ6 (by omega) (by unfold viewBad; rw [hno]; first | (simp [*]; done) | (simp [*] <;> omega)) (by unfold handedAt; rw [gw]; simp only [Option.getD_some]; omega) (by unfold goneBad; simp [hnog]) (by unfold transitBad; simp [hno, *])]; unfold viewOkJ; dsimp only; rw [putNewC (q := e.view.id) (by assumption), putNew (q := (f.view.id, e.view.id)) (by assumption), putNewC (q := (f.view.id, e.view.id)) (by assumption), nums_zero, lifeM_enter]; rfl)) ?_
          exact toRetM tk mo hK rfl hbm [] 2000 [0, 1, 2, 3, 4, 5, 6, 14] r (by kernel_rfl) trivial
        | true =>
         obtain ⟨hg, hhg⟩ := Option.isSome_iff_exists.1 (show (getK G (f.view.id, e.view.id)).isSome = true by assumption)
         obtain ⟨jg, bg, hjg⟩ := getK_some hhg
         have hgl := hG.len _ (List.mem_of_getElem? hjg)
         dsimp only at hgl
         have u9 := ((keysS hG.ok (q := (f.view.id, e.view.id)) ⟨hf.vid, ho.vid⟩) : KeysOk Tryz.prog 124 ((sk (f.view.id, e.view.id)) :: List.map (fun (e : Nat × MK × DV) => e.2.1) (emap sk goneD G)))
         have u10 := (rfl : ((sk (f.view.id, e.view.id)) : MK) = (sk (f.view.id, e.view.id)))
         have u11 := ((emap_nodup (fun _ _ h => sk_inj h) hG.n) : (List.map (fun (e : Nat × MK × DV) => e.2.1) (emap sk goneD G)).Nodup)
         have u12 := (⟨_, emap_at hjg⟩ : ∃ b0, (emap sk goneD G : List (Nat × MK × DV))[jg]? = some (b0, (sk (f.view.id, e.view.id)), .ro 1 (nums hg)))
         cases h9 : (decide (hg = f.handed)) with
         | false =>
          have qh9 := of_decide_eq_false h9
          refine toAtM (todo' := aft Tryz.f19 12) (E' := [(0, .pt 0 0), (1, .pt 5 0), (5, .pt 7 0), (6, .z 236), (7, .d (.v (.pointer none))), (10, .pt 8 0)]) (M' := [.bx 54 [.mv 1, .mv 2, .mv 3, .mv 4], .mp 49 (cl) (X1), .mp 50 (cs) (X2), .mp 51 (nc) (emap vk Come.d C), .mp 52 (ng) (emap sk goneD G), .bx 82 (f.lav 6), .rw 36 1 (nums f.handed), .bx 46 e.av, .bx 124 [.u f.view.id.round, .z f.view.id.server.node, .u f.view.id.server.inc, .u e.view.id.round, .z e.view.id.server.node, .u e.view.id.server.inc]]) tk mo hK hbm [(3, [(7, .b false)]), (4, [(2, .con (.v (.bool true))), (9, .b false), (17, .con (.v (.bool true))), (29, .con (.z (e.view.id.cmp f.view.id))), (30, .b false)]), (6, [(6, .con (.tu [.n (placeN f.view.members e.who), .v (.bool true)]))]), (7, [(5, .n (placeN f.view.members e.who)), (6, .ix 0 [.u hw]), (11, .b false)]), (10, [(5, .mk (jg) (sk (f.view.id, e.view.id)) (.ro 1 (nums hg)))]), (11, [(7, .call [.d (.ro 1 (nums hg)), .d (.ro 1 (nums f.handed))] (.v (.bool false)))])] 26 [0, 1, 2, 3, 4, 5, 6, 7, 8] [0, 1, 5, 6, 7, 10] r (by kernel_rfl) (an u0 (an ((fun _ => rfl) : ZeroIs Tryz.prog 116 ((.pointer none))) (an u1 (an u2 (an h3 (an u3 (an (viewCompare e.view.id f.view.id) (an h5 (an (ptrT116 : PtrT Tryz.prog 116) (an u4 (an (rfI ((placeN f.view.members e.who : Nat) : Int)) (an u5 (an u6 (an (nums_at gw) (an h6 (an u9 (an u10 (an u11 (an u12 (an ((by have k := specEqual hg f.handed (by omega); rw [h9] at k; exact k) : Con Tryz.prog 45 [.d (.ro 1 (nums hg)), .d (.ro 1 (nums f.handed))] (.v (.bool false))) (an ((ind_v _) : Ind (.v (.bool false))) (an (rfD (.ro 1 (nums hg))) (an (rfN (1)) (an ((by first | rfl | (simp; done) | (simp <;> omega)) : (f.handed.length) = (nums f.handed).length) (an ((froz_numsE _) : frozR (nums f.handed) = nums f.handed) trivial))))))))))))))))))))))))) fun ac wd r => ?_
          refine castM (y := .z 236) (N' := [.bx 54 [.mv 1, .mv 2, .mv 3, .mv 4], .mp 49 (cl) (X1), .mp 50 (cs) (X2), .mp 51 (nc) (emap vk Come.d C), .mp 52 (ng) (emap sk goneD G), .bx 82 (f.lav 6), .rw 36 1 (nums f.handed)]) ((by rw [viewJ4 (by omega) (by unfold viewBad; rw [hno]; first | (simp [*]; done) | (simp [*] <;> omega)) (by unfold handedAt; rw [gw]; simp only [Option.getD_some]; omega) (by unfold goneBad; simp [hhg, *])])) ((by rw [viewJ4 (by omega) (by unfold viewBad; rw [hno]; first | (simp [*]; done) | (simp [*] <;> omega)) (by unfold handedAt; rw [gw]; simp only [Option.getD_some]; omega) (by unfold goneBad; simp [hhg, *])]; rfl)) ?_
          exact toRetM tk mo hK rfl hbm [] 2000 [0, 1, 2, 3, 4, 5, 6] r (by kernel_rfl) trivial
         | true =>
          have qh9 := of_decide_eq_true h9
          have u13 := ((by have k := specEqual hg f.handed (by omega); rw [h9] at k; exact k) : Con Tryz.prog 45 [.d (.ro 1 (nums hg)), .d (.ro 1 (nums f.handed))] (.v (.bool true)))
          have u14 := ((by first | rfl | (simp; done) | (simp <;> omega)) : (f.handed.length) = (nums f.handed).length)
          cases h10 : (mayT f.view e) with
          | false =>
           refine toAtM (todo' := aft Tryz.f19 14) (E' := [(0, .pt 0 0), (1, .pt 5 0), (5, .pt 7 0), (6, .z 237), (7, .d (.v (.pointer none))), (10, .pt 8 0)]) (M' := [.bx 54 [.mv 1, .mv 2, .mv 3, .mv 4], .mp 49 (cl) (X1), .mp 50 (cs) (X2), .mp 51 (nc) (emap vk Come.d C), .mp 52 (ng) (emap sk goneD G), .bx 82 (f.lav 6), .rw 36 1 (nums f.handed), .bx 46 e.av, .bx 124 [.u f.view.id.round, .z f.view.id.server.node, .u f.view.id.server.inc, .u e.view.id.round, .z e.view.id.server.node, .u e.view.id.server.inc]]) tk mo hK hbm [(3, [(7, .b false)]), (4, [(2, .con (.v (.bool true))), (9, .b false), (17, .con (.v (.bool true))), (29, .con (.z (e.view.id.cmp f.view.id))), (30, .b false)]), (6, [(6, .con (.tu [.n (placeN f.view.members e.who), .v (.bool true)]))]), (7, [(5, .n (placeN f.view.members e.who)), (6, .ix 0 [.u hw]), (11, .b false)]), (10, [(5, .mk (jg) (sk (f.view.id, e.view.id)) (.ro 1 (nums hg)))]), (11, [(7, .call [.d (.ro 1 (nums hg)), .d (.ro 1 (nums f.handed))] (.v (.bool true)))]), (13, [(5, .con (.v (.bool false)))])] 31 [0, 1, 2, 3, 4, 5, 6, 7, 8] [0, 1, 5, 6, 7, 10] r (by kernel_rfl) (an u0 (an ((fun _ => rfl) : ZeroIs Tryz.prog 116 ((.pointer none))) (an u1 (an u2 (an h3 (an u3 (an (viewCompare e.view.id f.view.id) (an h5 (an (ptrT116 : PtrT Tryz.prog 116) (an u4 (an (rfI ((placeN f.view.members e.who : Nat) : Int)) (an u5 (an u6 (an (nums_at gw) (an h6 (an u9 (an u10 (an u11 (an u12 (an u13 (an ((ind_v _) : Ind (.v (.bool true))) (an (rfD (.ro 1 (nums hg))) (an (rfN (1)) (an u14 (an ((froz_numsE _) : frozR (nums f.handed) = nums f.handed) (an ((by have k := mayTransitOk f.view e ho hfs.1 hfs.2 (View.may_ss (by assumption)).1; rw [h10] at k; exact k) : Con Tryz.prog 46 [.ag (f.view.avs []), .ag e.av] (.v (.bool false))) trivial)))))))))))))))))))))))))) fun ac wd r => ?_
           refine castM (y := .z 237) (N' := [.bx 54 [.mv 1, .mv 2, .mv 3, .mv 4], .mp 49 (cl) (X1), .mp 50 (cs) (X2), .mp 51 (nc) (emap vk Come.d C), .mp 52 (ng) (emap sk goneD G), .bx 82 (f.lav 6), .rw 36 1 (nums f.handed)]) ((by rw [viewJ5 (by omega) (by unfold viewBad; rw [hno]; first | (simp [*]; done) | (simp [*] <;> omega)) (by unfold handedAt; rw [gw]; simp only [Option.getD_some]; omega) (by unfold goneBad; simp [hhg, *]) (by unfold transitBad; simp [hno, *])])) ((by rw [viewJ5 (by omega) (by unfold viewBad; rw [hno]; first | (simp [*]; done) | (simp [*] <;> omega)) (by unfold handedAt; rw [gw]; simp only [Option.getD_some]; omega) (by unfold goneBad; simp [hhg, *]) (by unfold transitBad; simp [hno, *])]; rfl)) ?_
           exact toRetM tk mo hK rfl hbm [] 2000 [0, 1, 2, 3, 4, 5, 6] r (by kernel_rfl) trivial
          | true =>
           refine toAtM (todo' := aft Tryz.f19 16) (E' := [(0, .pt 0 0), (1, .pt 5 0), (5, .pt 7 0), (6, .z 0), (7, .pt 9 0), (10, .pt 8 0)]) (M' := [.bx 54 [.mv 1, .mv 2, .mv 3, .mv 4], .mp 49 (cl) (X1), .mp 50 (cs) (X2), .mp 51 (nc) (emap vk Come.d C), .mp 52 (ng) (emap sk goneD G), .bx 82 (f.lav 6), .rw 36 1 (nums f.handed), .bx 46 e.av, .bx 124 [.u f.view.id.round, .z f.view.id.server.node, .u f.view.id.server.inc, .u e.view.id.round, .z e.view.id.server.node, .u e.view.id.server.inc], .bx 122 (e.view.avs [.d (.v (.slice none 0 0))])]) tk mo hK hbm [(3, [(7, .b false)]), (4, [(2, .con (.v (.bool true))), (9, .b false), (17, .con (.v (.bool true))), (29, .con (.z (e.view.id.cmp f.view.id))), (30, .b false)]), (6, [(6, .con (.tu [.n (placeN f.view.members e.who), .v (.bool true)]))]), (7, [(5, .n (placeN f.view.members e.who)), (6, .ix 0 [.u hw]), (11, .b false)]), (10, [(5, .mk (jg) (sk (f.view.id, e.view.id)) (.ro 1 (nums hg)))]), (11, [(7, .call [.d (.ro 1 (nums hg)), .d (.ro 1 (nums f.handed))] (.v (.bool true)))]), (13, [(5, .con (.v (.bool true)))])] 36 [0, 1, 2, 3, 4, 5, 6, 7, 8, 9] [0, 1, 5, 6, 7, 10] r (by kernel_rfl) (an u0 (an ((fun _ => rfl) : ZeroIs Tryz.prog 116 ((.pointer none))) (an u1 (an u2 (an h3 (an u3 (an (viewCompare e.view.id f.view.id) (an h5 (an (ptrT116 : PtrT Tryz.prog 116) (an u4 (an (rfI ((placeN f.view.members e.who : Nat) : Int)) (an u5 (an u6 (an (nums_at gw) (an h6 (an u9 (an u10 (an u11 (an u12 (an u13 (an ((ind_v _) : Ind (.v (.bool true))) (an (rfD (.ro 1 (nums hg))) (an (rfN (1)) (an u14 (an ((froz_numsE _) : frozR (nums f.handed) = nums f.handed) (an ((by have k := mayTransitOk f.view e ho hfs.1 hfs.2 (View.may_ss (by assumption)).1; rw [h10] at k; exact k) : Con Tryz.prog 46 [.ag (f.view.avs []), .ag e.av] (.v (.bool true))) (an (ptrT116 : PtrT Tryz.prog 116) (an (ptrT116 : PtrT Tryz.prog 116) trivial)))))))))))))))))))))))))))) fun ac wd r => ?_
           obtain ⟨xb, r⟩ := r.name (u := 9) rfl
           have v18_0 := ((keysV hC.ok ho.vid) : KeysOk Tryz.prog 40 ((vk e.view.id) :: List.map (fun (e : Nat × MK × DV) => e.2.1) (emap vk Come.d C)))
           have v18_1 := ((emap_fresh (fun _ _ h => vk_inj h) (q := e.view.id) hno) : ∀ zz ∈ (emap vk Come.d C : List (Nat × MK × DV)), zz.2.1 ≠ (vk e.view.id))
           have v18_2 := ((by first | rfl | (simp; done) | (simp <;> omega)) : (1) = ([[.z e.who.node, .u e.who.inc, .u f.view.id.round, .z f.view.id.server.node, .u f.view.id.server.inc, .ro 2 (procs f.view.members), .ro 1 (nums f.view.starts), .ro 2 (procs e.transit)]] : List (List DV)).length)
           have v18_3 := ((by first | omega | (simp; done) | (simp <;> omega)) : (2 * (0 + (1)) + 192) * 112 ≤ 281474976710656)
           have v18_4 := ((by first | omega | (simp; done) | (simp <;> omega)) : 0 + (1) < 4611686018427387904)
           have v18_5 := ((by simp [OneR, AV.one, oneC, bytesR]) : OneR ([[.z e.who.node, .u e.who.inc, .u f.view.id.round, .z f.view.id.server.node, .u f.view.id.server.inc, .ro 2 (procs f.view.members), .ro 1 (nums f.view.starts), .ro 2 (procs e.transit)]]))
           refine toDrawM (todo' := aft Tryz.f19 18) (E' := [(0, .pt 0 0), (1, .pt 5 0), (5, .pt 7 0), (6, .z 0), (10, .pt 8 0)]) (M' := [.bx 54 [.mv 1, .mv 2, .mv 3, .mv 4], .mp 49 (cl) (X1), .mp 50 (cs) (X2), .mp 51 (nc + 1) (emap vk Come.d C ++ [(nc, (vk e.view.id), ptrV xb)]), .mp 52 (ng) (emap sk goneD G), .bx 82 (f.lav 6), .rw 36 1 (nums f.handed), .bx 46 e.av, .bx 124 [.u f.view.id.round, .z f.view.id.server.node, .u f.view.id.server.inc, .u e.view.id.round, .z e.view.id.server.node, .u e.view.id.server.inc], .bx 122 (e.view.avs [.sl 12 ((1))]), .nm 9 xb, .dead, .rw 129 8 ([[.z e.who.node, .u e.who.inc, .u f.view.id.round, .z f.view.id.server.node, .u f.view.id.server.inc, .ro 2 (procs f.view.members), .ro 1 (nums f.view.starts), .ro 2 (procs e.transit)]])]) tk mo hK hbm [(17, [(8, .n 10)]), (18, [])] 2 2 [4] [[0, 1, 2, 3, 4, 5, 6, 7, 8, 9, 10, 11, 12], [0, 1, 2, 3, 4, 5, 6, 7, 8, 9, 10, 11, 12]] [0, 1, 5, 6, 10] r (by kernel_rfl) (an (an v18_0 (an v18_1 (an v18_2 (an v18_3 (an v18_4 (an v18_5 trivial)))))) (an (an v18_0 (an v18_1 (an v18_2 (an v18_3 (an v18_4 (an v18_5 trivial)))))) trivial)) fun ac wd r => ?_
           have r := r.stayC [(5, 8)] (p := [(f.handed.length) = (nums f.handed).length]) (M1 := [.bx 54 [.mv 1, .mv 2, .mv 3, .mv 4], .mp 49 (cl) (X1), .mp 50 (cs) (X2), .mp 51 (nc + 1) (emap vk Come.d C ++ [(nc, (vk e.view.id), ptrV xb)]), .mp 52 (ng) (emap sk goneD G), .bx 82 (f.view.avs [.d (.v (.bool (f.on))), .z f.stands, .u f.sent, .d (.ro 1 (frozR (nums f.handed)))]), .dead, .bx 46 e.av, .bx 124 [.u f.view.id.round, .z f.view.id.server.node, .u f.view.id.server.inc, .u e.view.id.round, .z e.view.id.server.node, .u e.view.id.server.inc], .bx 122 (e.view.avs [.sl 12 ((1))]), .nm 9 xb, .dead, .rw 129 8 ([[.z e.who.node, .u e.who.inc, .u f.view.id.round, .z f.view.id.server.node, .u f.view.id.server.inc, .ro 2 (procs f.view.members), .ro 1 (nums f.view.starts), .ro 2 (procs e.transit)]])]) (M2 := [.bx 54 [.mv 1, .mv 2, .mv 3, .mv 4], .mp 49 (cl) (X1), .mp 50 (cs) (X2), .mp 51 (nc + 1) (emap vk Come.d C ++ [(nc, (vk e.view.id), ptrV xb)]), .mp 52 (ng) (emap sk goneD G), .bx 82 (f.view.avs [.d (.v (.bool (f.on))), .z f.stands, .u f.sent, .d (.ro 1 (nums f.handed))]), .dead, .bx 46 e.av, .bx 124 [.u f.view.id.round, .z f.view.id.server.node, .u f.view.id.server.inc, .u e.view.id.round, .z e.view.id.server.node, .u e.view.id.server.inc], .bx 122 (e.view.avs [.sl 12 ((1))]), .nm 9 xb, .dead, .rw 129 8 ([[.z e.who.node, .u e.who.inc, .u f.view.id.round, .z f.view.id.server.node, .u f.view.id.server.inc, .ro 2 (procs f.view.members), .ro 1 (nums f.view.starts), .ro 2 (procs e.transit)]])]) (by kernel_rfl) (And.intro (by simp) trivial) (by kernel_rfl) (by rw [froz_numsE])
           refine toAtM (todo' := aft Tryz.f19 21) (E' := [(6, .z 0)]) (M' := [.bx 54 [.mv 1, .mv 2, .mv 3, .mv 4], .mp 49 (cl) (X1), .mp 50 (cs) (X2), .mp 51 (nc + 1) (emap vk Come.d C ++ [(nc, (vk e.view.id), ptrV xb)]), .mp 52 (ng) (List.modify (emap sk goneD G) (jg) fun zz => (zz.1, zz.2.1, .ro 1 (nums f.handed))), .bx 82 (e.view.avs [.d (.v (.bool (f.on))), .z 0, .d (.v (.int .u64 0)), .sl 14 (e.view.members.length)]), .dead, .bx 46 e.av, .bx 124 [.u f.view.id.round, .z f.view.id.server.node, .u f.view.id.server.inc, .u e.view.id.round, .z e.view.id.server.node, .u e.view.id.server.inc], .bx 122 (e.view.avs [.sl 12 ((1))]), .nm 9 xb, .dead, .rw 129 8 ([[.z e.who.node, .u e.who.inc, .u f.view.id.round, .z f.view.id.server.node, .u f.view.id.server.inc, .ro 2 (procs f.view.members), .ro 1 (nums f.view.starts), .ro 2 (procs e.transit)]]), .bx 44 (e.view.avs []), .rw 36 1 (List.replicate (e.view.members.length) [.v (.int .u64 0)])]) tk mo hK hbm [(19, [(9, .mk (jg) (sk (f.view.id, e.view.id)) (.ro 1 (nums hg)))]), (20, [(3, .into 200 [(4, [(3, .z (((e.view.members.length : Nat) : Int))), (4, .n (e.view.members.length))])])])] 6 [0, 1, 2, 3, 4, 5, 6, 7, 8, 9, 10, 11, 12, 13, 14] [6] r (by kernel_rfl) (an u9 (an u10 (an u11 (an (rfl : DV.cp2 (.ro 1 (nums hg)) = true) (an u12 (an ((by first | rfl | simp [bytesR]) : (((procs e.view.members).length : Nat) : Int) = ((e.view.members.length : Nat) : Int)) (an (rfI ((e.view.members.length : Nat) : Int)) (an (rfI ((e.view.members.length : Nat) : Int)) (an ((by first | omega | decide | (simp; done) | (simp; omega)) : 8 * (e.view.members.length) ≤ 281474976710656) (an ((by first | omega | decide | (simp; done) | (simp; omega)) : (e.view.members.length) < 4611686018427387904) trivial)))))))))) fun ac wd r => ?_
           have r := r.foldM (u := 9) (v := 10) (m := 3) (j := C.length) (vc := [((1)) = ([[.z e.who.node, .u e.who.inc, .u f.view.id.round, .z f.view.id.server.node, .u f.view.id.server.inc, .ro 2 (procs f.view.members), .ro 1 (nums f.view.starts), .ro 2 (procs e.transit)]] : List (List DV)).length]) (M1 := [.bx 54 [.mv 1, .mv 2, .mv 3, .mv 4], .mp 49 (cl) (X1), .mp 50 (cs) (X2), .mp 51 (nc + 1) (setE (emap vk Come.d C ++ [(nc, (vk e.view.id), ptrV xb)]) (C.length) (.pb 122 (e.view.dvs [.em 129 8 ([[.z e.who.node, .u e.who.inc, .u f.view.id.round, .z f.view.id.server.node, .u f.view.id.server.inc, .ro 2 (procs f.view.members), .ro 1 (nums f.view.starts), .ro 2 (procs e.transit)]])]))), .mp 52 (ng) (List.modify (emap sk goneD G) (jg) fun zz => (zz.1, zz.2.1, .ro 1 (nums f.handed))), .bx 82 (e.view.avs [.d (.v (.bool (f.on))), .z 0, .d (.v (.int .u64 0)), .sl 14 (e.view.members.length)]), .dead, .bx 46 e.av, .bx 124 [.u f.view.id.round, .z f.view.id.server.node, .u f.view.id.server.inc, .u e.view.id.round, .z e.view.id.server.node, .u e.view.id.server.inc], .dead, .nm 9 xb, .dead, .dead, .bx 44 (e.view.avs []), .rw 36 1 (List.replicate (e.view.members.length) [.v (.int .u64 0)])]) (M2 := [.bx 54 [.mv 1, .mv 2, .mv 3, .mv 4], .mp 49 (cl) (X1), .mp 50 (cs) (X2), .mp 51 (nc + 1) (emap vk Come.d (putK C nc e.view.id ⟨e.view, cameL C e.view.id ++ [⟨e.who, f.view, e.transit⟩]⟩)), .mp 52 (ng) (List.modify (emap sk goneD G) (jg) fun zz => (zz.1, zz.2.1, .ro 1 (nums f.handed))), .bx 82 (e.view.avs [.d (.v (.bool (f.on))), .z 0, .d (.v (.int .u64 0)), .sl 14 (e.view.members.length)]), .dead, .bx 46 e.av, .bx 124 [.u f.view.id.round, .z f.view.id.server.node, .u f.view.id.server.inc, .u e.view.id.round, .z e.view.id.server.node, .u e.view.id.server.inc], .dead, .nm 9 xb, .dead, .dead, .bx 44 (e.view.avs []), .rw 36 1 (List.replicate (e.view.members.length) [.v (.int .u64 0)])]) rfl (by kernel_rfl) (And.intro (by first | rfl | simp) trivial) (fun _ _ _ hM => by cases hM; exact at_last (emap_len _ _ _).symm) (by rw [setE_last (emap_len _ _ _).symm, putNew (by assumption), cameL_new hno]; rfl)
           refine castM (y := .z 0) (N' := [.bx 54 [.mv 1, .mv 2, .mv 3, .mv 4], .mp 49 (cl) (X1), .mp 50 (cs) (X2), .mp 51 (nc + 1) (emap vk Come.d (putK C nc e.view.id ⟨e.view, cameL C e.view.id ++ [⟨e.who, f.view, e.transit⟩]⟩)), .mp 52 (ng) (List.modify (emap sk goneD G) (jg) fun zz => (zz.1, zz.2.1, .ro 1 (nums f.handed))), .bx 82 (e.view.avs [.d (.v (.bool (f.on))), .z 0, .d (.v (.int .u64 0)), .sl 7 (e.view.members.length)]), .dead, .rw 36 1 (List.replicate (e.view.members.length) [.v (.int .u64 0)])]) ((by rw [viewJ6 (by omega) (by unfold viewBad; rw [hno]; first | (simp [*]; done) | (simp [*] <;> omega)) (by unfold handedAt; rw [gw]; simp only [Option.getD_some]; omega) (by unfold goneBad; simp [hhg, *]) (by unfold transitBad; simp [hno, *])]; rfl)) ((by rw [viewJ6 (by omega) (by unfold viewBad; rw [hno]; first | (simp [*]; done) | (simp [*] <;> omega)) (by unfold handedAt; rw [gw]; simp only [Option.getD_some]; omega) (by unfold goneBad; simp [hhg, *]) (by unfold transitBad; simp [hno, *])]; unfold viewOkJ; dsimp only; rw [putNewC (q := e.view.id) (by assumption), putOld hG.n hjg (by assumption), putOldC (q := (f.view.id, e.view.id)) (by assumption), nums_zero, lifeM_enter]; rfl)) ?_
           exact toRetM tk mo hK rfl hbm [] 2000 [0, 1, 2, 3, 4, 5, 6, 14] r (by kernel_rfl) trivial
       | true =>
        have qh6 : ¬ _ = _ := bne_iff_ne.1 h6
        refine toAtM (todo' := aft Tryz.f19 8) (E' := [(0, .pt 0 0), (1, .pt 5 0), (5, .pt 7 0), (6, .z 235), (7, .d (.v (.pointer none)))]) (M' := [.bx 54 [.mv 1, .mv 2, .mv 3, .mv 4], .mp 49 (cl) (X1), .mp 50 (cs) (X2), .mp 51 (nc) (emap vk Come.d C), .mp 52 (ng) (emap sk goneD G), .bx 82 (f.lav 6), .rw 36 1 (nums f.handed), .bx 46 e.av]) tk mo hK hbm [(3, [(7, .b false)]), (4, [(2, .con (.v (.bool true))), (9, .b false), (17, .con (.v (.bool true))), (29, .con (.z (e.view.id.cmp f.view.id))), (30, .b false)]), (6, [(6, .con (.tu [.n (placeN f.view.members e.who), .v (.bool true)]))]), (7, [(5, .n (placeN f.view.members e.who)), (6, .ix 0 [.u hw]), (11, .b true)])] 17 [0, 1, 2, 3, 4, 5, 6, 7] [0, 1, 5, 6, 7] r (by kernel_rfl) (an u0 (an ((fun _ => rfl) : ZeroIs Tryz.prog 116 ((.pointer none))) (an u1 (an u2 (an h3 (an u3 (an (viewCompare e.view.id f.view.id) (an h5 (an (ptrT116 : PtrT Tryz.prog 116) (an u4 (an (rfI ((placeN f.view.members e.who : Nat) : Int)) (an u5 (an u6 (an (nums_at gw) (an h6 trivial))))))))))))))) fun ac wd r => ?_
        refine castM (y := .z 235) (N' := [.bx 54 [.mv 1, .mv 2, .mv 3, .mv 4], .mp 49 (cl) (X1), .mp 50 (cs) (X2), .mp 51 (nc) (emap vk Come.d C), .mp 52 (ng) (emap sk goneD G), .bx 82 (f.lav 6), .rw 36 1 (nums f.handed)]) ((by rw [viewJ3 (by omega) (by unfold viewBad; rw [hno]; first | (simp [*]; done) | (simp [*] <;> omega)) (by unfold handedAt; rw [gw]; simp only [Option.getD_some]; omega)])) ((by rw [viewJ3 (by omega) (by unfold viewBad; rw [hno]; first | (simp [*]; done) | (simp [*] <;> omega)) (by unfold handedAt; rw [gw]; simp only [Option.getD_some]; omega)]; rfl)) ?_
        exact toRetM tk mo hK rfl hbm [] 2000 [0, 1, 2, 3, 4, 5, 6] r (by kernel_rfl) trivial
      | true =>
       have qh5 := of_decide_eq_true h5
       refine toAtM (todo' := aft Tryz.f19 5) (E' := [(0, .pt 0 0), (1, .pt 5 0), (5, .pt 7 0), (6, .z 234), (7, .d (.v (.pointer none)))]) (M' := [.bx 54 [.mv 1, .mv 2, .mv 3, .mv 4], .mp 49 (cl) (X1), .mp 50 (cs) (X2), .mp 51 (nc) (emap vk Come.d C), .mp 52 (ng) (emap sk goneD G), .bx 82 (f.lav 6), .rw 36 1 (nums f.handed), .bx 46 e.av]) tk mo hK hbm [(3, [(7, .b false)]), (4, [(2, .con (.v (.bool true))), (9, .b false), (17, .con (.v (.bool true))), (29, .con (.z (e.view.id.cmp f.view.id))), (30, .b true)])] 10 [0, 1, 2, 3, 4, 5, 6, 7] [0, 1, 5, 6, 7] r (by kernel_rfl) (an u0 (an ((fun _ => rfl) : ZeroIs Tryz.prog 116 ((.pointer none))) (an u1 (an u2 (an h3 (an u3 (an (viewCompare e.view.id f.view.id) (an h5 trivial)))))))) fun ac wd r => ?_
       refine castM (y := .z 234) (N' := [.bx 54 [.mv 1, .mv 2, .mv 3, .mv 4], .mp 49 (cl) (X1), .mp 50 (cs) (X2), .mp 51 (nc) (emap vk Come.d C), .mp 52 (ng) (emap sk goneD G), .bx 82 (f.lav 6), .rw 36 1 (nums f.handed)]) ((by rw [viewJ2 (by omega) (by unfold viewBad; rw [hno]; first | (simp [*]; done) | (simp [*] <;> omega))])) ((by rw [viewJ2 (by omega) (by unfold viewBad; rw [hno]; first | (simp [*]; done) | (simp [*] <;> omega))]; rfl)) ?_
       exact toRetM tk mo hK rfl hbm [] 2000 [0, 1, 2, 3, 4, 5, 6] r (by kernel_rfl) trivial
    | true =>
     have qh3 := eq_of_beq h3
     refine toAtM (todo' := aft Tryz.f19 5) (E' := [(0, .pt 0 0), (1, .pt 5 0), (5, .pt 7 0), (6, .z 234), (7, .d (.v (.pointer none)))]) (M' := [.bx 54 [.mv 1, .mv 2, .mv 3, .mv 4], .mp 49 (cl) (X1), .mp 50 (cs) (X2), .mp 51 (nc) (emap vk Come.d C), .mp 52 (ng) (emap sk goneD G), .bx 82 (f.lav 6), .rw 36 1 (nums f.handed), .bx 46 e.av]) tk mo hK hbm [(3, [(7, .b false)]), (4, [(2, .con (.v (.bool true))), (9, .b true)])] 10 [0, 1, 2, 3, 4, 5, 6, 7] [0, 1, 5, 6, 7] r (by kernel_rfl) (an u0 (an ((fun _ => rfl) : ZeroIs Tryz.prog 116 ((.pointer none))) (an u1 (an u2 (an h3 trivial))))) fun ac wd r => ?_
     refine castM (y := .z 234) (N' := [.bx 54 [.mv 1, .mv 2, .mv 3, .mv 4], .mp 49 (cl) (X1), .mp 50 (cs) (X2), .mp 51 (nc) (emap vk Come.d C), .mp 52 (ng) (emap sk goneD G), .bx 82 (f.lav 6), .rw 36 1 (nums f.handed)]) ((by rw [viewJ2 (by omega) (by unfold viewBad; rw [hno]; first | (simp [*]; done) | (simp [*] <;> omega))])) ((by rw [viewJ2 (by omega) (by unfold viewBad; rw [hno]; first | (simp [*]; done) | (simp [*] <;> omega))]; rfl)) ?_
     exact toRetM tk mo hK rfl hbm [] 2000 [0, 1, 2, 3, 4, 5, 6] r (by kernel_rfl) trivial
  | true =>
   have qh1 : ¬ _ = _ := bne_iff_ne.1 h1
   refine toAtM (todo' := aft Tryz.f19 1) (E' := [(0, .pt 0 0), (1, .pt 5 0), (5, .pt 7 0), (6, .z 0), (17, .d (.v (.bool true)))]) (M' := [.bx 54 [.mv 1, .mv 2, .mv 3, .mv 4], .mp 49 (cl) (X1), .mp 50 (cs) (X2), .mp 51 (nc) (emap vk Come.d C), .mp 52 (ng) (emap sk goneD G), .bx 82 (f.lav 6), .rw 36 1 (nums f.handed), .bx 46 e.av]) tk mo hK hbm [(1, [(4, .b true)])] 5 [0, 1, 2, 3, 4, 5, 6, 7] [0, 1, 5, 6, 17] r (by kernel_rfl) (an h1 trivial) fun ac wd r => ?_
   refine toAtM (todo' := aft Tryz.f19 2) (E' := [(0, .pt 0 0), (1, .pt 5 0), (5, .pt 7 0), (6, .z 231)]) (M' := [.bx 54 [.mv 1, .mv 2, .mv 3, .mv 4], .mp 49 (cl) (X1), .mp 50 (cs) (X2), .mp 51 (nc) (emap vk Come.d C), .mp 52 (ng) (emap sk goneD G), .bx 82 (f.lav 6), .rw 36 1 (nums f.handed), .bx 46 e.av]) tk mo hK hbm [] 3 [0, 1, 2, 3, 4, 5, 6, 7] [0, 1, 5, 6] r (by kernel_rfl) trivial fun ac wd r => ?_
   refine castM (y := .z 231) (N' := [.bx 54 [.mv 1, .mv 2, .mv 3, .mv 4], .mp 49 (cl) (X1), .mp 50 (cs) (X2), .mp 51 (nc) (emap vk Come.d C), .mp 52 (ng) (emap sk goneD G), .bx 82 (f.lav 6), .rw 36 1 (nums f.handed)]) ((by rw [viewJ1 (by omega)])) ((by rw [viewJ1 (by omega)]; rfl)) ?_
   exact toRetM tk mo hK rfl hbm [] 2000 [0, 1, 2, 3, 4, 5, 6] r (by kernel_rfl) trivial
 | true =>
  obtain ⟨co, hco⟩ := Option.isSome_iff_exists.1 (show (getK C e.view.id).isSome = true by assumption)
  obtain ⟨jo, bb, hjo⟩ := getK_some hco
  have hcm := hC.may _ (List.mem_of_getElem? hjo)
  have hcc := hC.came _ (List.mem_of_getElem? hjo)
  have hcl := hC.len _ (List.mem_of_getElem? hjo)
  dsimp only at hcm hcc hcl
  cases h11 : ((f.stands : Int) != 2) with
  | false =>
   have qh11 := eq_of_bne h11
   refine toAtM (todo' := aft Tryz.f19 1) (E' := [(0, .pt 0 0), (1, .pt 5 0), (5, .pt 7 0), (6, .z 0), (17, .d (.v (.bool false)))]) (M' := [.bx 54 [.mv 1, .mv 2, .mv 3, .mv 4], .mp 49 (cl) (X1), .mp 50 (cs) (X2), .mp 51 (nc) (emap vk Come.d C), .mp 52 (ng) (emap sk goneD G), .bx 82 (f.lav 6), .rw 36 1 (nums f.handed), .bx 46 e.av]) tk mo hK hbm [(1, [(4, .b false)])] 5 [0, 1, 2, 3, 4, 5, 6, 7] [0, 1, 5, 6, 17] r (by kernel_rfl) (an h11 trivial) fun ac wd r => ?_
   obtain ⟨xb, r⟩ := r.openM (u := 3) (N := fun xb => [.bx 54 [.mv 1, .mv 2, .mv 3, .mv 4], .mp 49 (cl) (X1), .mp 50 (cs) (X2), .mp 51 (nc) (setE (emap vk Come.d C) jo (ptrV xb)), .mp 52 (ng) (emap sk goneD G), .bx 82 (f.lav 6), .rw 36 1 (nums f.handed), .bx 46 e.av, .rw 129 8 (comers co.came), .bx 122 (co.view.avs [.sl 8 ((comers co.came).length)]), .nm 9 xb]) rfl (emap_at hjo) rfl (fun _ => rfl)
   have u15 := ((keys_setE (keysV hC.ok ho.vid)) : KeysOk Tryz.prog 40 ((vk e.view.id) :: List.map (fun (e : Nat × MK × DV) => e.2.1) (setE (emap vk Come.d C) jo (ptrV xb))))
   have u16 := (rfl : ((vk e.view.id) : MK) = (vk e.view.id))
   have u17 := ((by rw [setE_keys]; exact emap_nodup (fun _ _ h => vk_inj h) hC.n) : (List.map (fun (e : Nat × MK × DV) => e.2.1) (setE (emap vk Come.d C) jo (ptrV xb))).Nodup)
   have u18 := (⟨⟨_, setE_at _ (emap_at hjo)⟩, rfl⟩ : (∃ b0, (setE (emap vk Come.d C) jo (ptrV xb) : List (Nat × MK × DV))[jo]? = some (b0, (vk e.view.id), ptrV xb)) ∧ outP [.bx 54 [.mv 1, .mv 2, .mv 3, .mv 4], .mp 49 (cl) (X1), .mp 50 (cs) (X2), .mp 51 (nc) (setE (emap vk Come.d C) jo (ptrV xb)), .mp 52 (ng) (emap sk goneD G), .bx 82 (f.lav 6), .rw 36 1 (nums f.handed), .bx 46 e.av, .rw 129 8 (comers co.came), .bx 122 (co.view.avs [.sl 8 ((comers co.came).length)]), .nm 9 xb] (ptrV xb) (some 10))
   cases h12 : (e.view.may) with
   | false =>
    refine toAtM (todo' := aft Tryz.f19 5) (E' := [(0, .pt 0 0), (1, .pt 5 0), (5, .pt 7 0), (6, .z 234), (7, .pt 9 0)]) (M' := [.bx 54 [.mv 1, .mv 2, .mv 3, .mv 4], .mp 49 (cl) (X1), .mp 50 (cs) (X2), .mp 51 (nc) (setE (emap vk Come.d C) jo (ptrV xb)), .mp 52 (ng) (emap sk goneD G), .bx 82 (f.lav 6), .rw 36 1 (nums f.handed), .bx 46 e.av, .rw 129 8 (comers co.came), .bx 122 (co.view.avs [.sl 8 ((comers co.came).length)]), .nm 9 xb]) tk mo hK hbm [(3, [(7, .mkp (jo) (vk e.view.id) (ptrV xb) 10)]), (4, [(2, .con (.v (.bool false)))])] 10 [0, 1, 2, 3, 4, 5, 6, 7, 8, 9, 10] [0, 1, 5, 6, 7] r (by kernel_rfl) (an u15 (an u16 (an u17 (an u18 (an ((by have k := viewMay e.view hbe; rw [h12] at k; exact k) : Con Tryz.prog 41 [.ag (e.view.avs [])] (.v (.bool false))) trivial))))) fun ac wd r => ?_
    have r := r.foldM (u := 9) (v := 10) (m := 3) (j := jo) (vc := [((comers co.came).length) = (comers co.came : List (List DV)).length]) (M1 := [.bx 54 [.mv 1, .mv 2, .mv 3, .mv 4], .mp 49 (cl) (X1), .mp 50 (cs) (X2), .mp 51 (nc) (setE (setE (emap vk Come.d C) jo (ptrV xb)) (jo) (.pb 122 (co.view.dvs [.em 129 8 (comers co.came)]))), .mp 52 (ng) (emap sk goneD G), .bx 82 (f.lav 6), .rw 36 1 (nums f.handed), .bx 46 e.av, .dead, .dead, .nm 9 xb]) (M2 := [.bx 54 [.mv 1, .mv 2, .mv 3, .mv 4], .mp 49 (cl) (X1), .mp 50 (cs) (X2), .mp 51 (nc) (emap vk Come.d C), .mp 52 (ng) (emap sk goneD G), .bx 82 (f.lav 6), .rw 36 1 (nums f.handed), .bx 46 e.av, .dead, .dead, .nm 9 xb]) rfl (by kernel_rfl) (And.intro (by first | rfl | simp) trivial) (fun _ _ _ hM => by cases hM; exact setE_at _ (emap_at hjo)) (by rw [setE_same hjo])
    refine castM (y := .z 234) (N' := [.bx 54 [.mv 1, .mv 2, .mv 3, .mv 4], .mp 49 (cl) (X1), .mp 50 (cs) (X2), .mp 51 (nc) (emap vk Come.d C), .mp 52 (ng) (emap sk goneD G), .bx 82 (f.lav 6), .rw 36 1 (nums f.handed)]) ((by rw [viewJ2 (by omega) (by unfold viewBad; rw [hco]; first | (simp [*]; done) | (simp [*] <;> omega))])) ((by rw [viewJ2 (by omega) (by unfold viewBad; rw [hco]; first | (simp [*]; done) | (simp [*] <;> omega))]; rfl)) ?_
    exact toRetM tk mo hK rfl hbm [] 2000 [0, 1, 2, 3, 4, 5, 6] r (by kernel_rfl) trivial
   | true =>
    have u19 := ((by have k := viewMay e.view hbe; rw [h12] at k; exact k) : Con Tryz.prog 41 [.ag (e.view.avs [])] (.v (.bool true)))
    cases h13 : (((e.view.id.round : Nat) : Int) == 0) with
    | false =>
     have qh13 := ne_of_beq_false h13
     cases h14 : (decide (e.who ∈ e.view.members)) with
     | false =>
      have qh14 := of_decide_eq_false h14
      refine toAtM (todo' := aft Tryz.f19 5) (E' := [(0, .pt 0 0), (1, .pt 5 0), (5, .pt 7 0), (6, .z 234), (7, .pt 9 0)]) (M' := [.bx 54 [.mv 1, .mv 2, .mv 3, .mv 4], .mp 49 (cl) (X1), .mp 50 (cs) (X2), .mp 51 (nc) (setE (emap vk Come.d C) jo (ptrV xb)), .mp 52 (ng) (emap sk goneD G), .bx 82 (f.lav 6), .rw 36 1 (nums f.handed), .bx 46 e.av, .rw 129 8 (comers co.came), .bx 122 (co.view.avs [.sl 8 ((comers co.came).length)]), .nm 9 xb]) tk mo hK hbm [(3, [(7, .mkp (jo) (vk e.view.id) (ptrV xb) 10)]), (4, [(2, .con (.v (.bool true))), (9, .b false), (17, .con (.v (.bool false)))])] 10 [0, 1, 2, 3, 4, 5, 6, 7, 8, 9, 10] [0, 1, 5, 6, 7] r (by kernel_rfl) (an u15 (an u16 (an u17 (an u18 (an u19 (an h13 (an ((by have k := procHas e.view.members e.who (by have := ho.members; omega); rw [h14] at k; exact k) : Con Tryz.prog 42 [.d (.ro 2 (procs e.view.members)), .ag [.z e.who.node, .u e.who.inc]] (.v (.bool false))) trivial))))))) fun ac wd r => ?_
      have r := r.foldM (u := 9) (v := 10) (m := 3) (j := jo) (vc := [((comers co.came).length) = (comers co.came : List (List DV)).length]) (M1 := [.bx 54 [.mv 1, .mv 2, .mv 3, .mv 4], .mp 49 (cl) (X1), .mp 50 (cs) (X2), .mp 51 (nc) (setE (setE (emap vk Come.d C) jo (ptrV xb)) (jo) (.pb 122 (co.view.dvs [.em 129 8 (comers co.came)]))), .mp 52 (ng) (emap sk goneD G), .bx 82 (f.lav 6), .rw 36 1 (nums f.handed), .bx 46 e.av, .dead, .dead, .nm 9 xb]) (M2 := [.bx 54 [.mv 1, .mv 2, .mv 3, .mv 4], .mp 49 (cl) (X1), .mp 50 (cs) (X2), .mp 51 (nc) (emap vk Come.d C), .mp 52 (ng) (emap sk goneD G), .bx 82 (f.lav 6), .rw 36 1 (nums f.handed), .bx 46 e.av, .dead, .dead, .nm 9 xb]) rfl (by kernel_rfl) (And.intro (by first | rfl | simp) trivial) (fun _ _ _ hM => by cases hM; exact setE_at _ (emap_at hjo)) (by rw [setE_same hjo])
      refine castM (y := .z 234) (N' := [.bx 54 [.mv 1, .mv 2, .mv 3, .mv 4], .mp 49 (cl) (X1), .mp 50 (cs) (X2), .mp 51 (nc) (emap vk Come.d C), .mp 52 (ng) (emap sk goneD G), .bx 82 (f.lav 6), .rw 36 1 (nums f.handed)]) ((by rw [viewJ2 (by omega) (by unfold viewBad; rw [hco]; first | (simp [*]; done) | (simp [*] <;> omega))])) ((by rw [viewJ2 (by omega) (by unfold viewBad; rw [hco]; first | (simp [*]; done) | (simp [*] <;> omega))]; rfl)) ?_
      exact toRetM tk mo hK rfl hbm [] 2000 [0, 1, 2, 3, 4, 5, 6] r (by kernel_rfl) trivial
     | true =>
      have qh14 := of_decide_eq_true h14
      have u20 := ((by have k := procHas e.view.members e.who (by have := ho.members; omega); rw [h14] at k; exact k) : Con Tryz.prog 42 [.d (.ro 2 (procs e.view.members)), .ag [.z e.who.node, .u e.who.inc]] (.v (.bool true)))
      cases h15 : (decide ((e.view.id.cmp f.view.id : Int) ≤ 0)) with
      | false =>
       have qh15 := of_decide_eq_false h15
       cases h16 : (decide (co.view = e.view)) with
       | false =>
        have qh16 := of_decide_eq_false h16
        refine toAtM (todo' := aft Tryz.f19 5) (E' := [(0, .pt 0 0), (1, .pt 5 0), (5, .pt 7 0), (6, .z 234), (7, .pt 9 0)]) (M' := [.bx 54 [.mv 1, .mv 2, .mv 3, .mv 4], .mp 49 (cl) (X1), .mp 50 (cs) (X2), .mp 51 (nc) (setE (emap vk Come.d C) jo (ptrV xb)), .mp 52 (ng) (emap sk goneD G), .bx 82 (f.lav 6), .rw 36 1 (nums f.handed), .bx 46 e.av, .rw 129 8 (comers co.came), .bx 122 (co.view.avs [.sl 8 ((comers co.came).length)]), .nm 9 xb]) tk mo hK hbm [(3, [(7, .mkp (jo) (vk e.view.id) (ptrV xb) 10)]), (4, [(2, .con (.v (.bool true))), (9, .b false), (17, .con (.v (.bool true))), (29, .con (.z (e.view.id.cmp f.view.id))), (30, .b false), (42, .con (.v (.bool false)))])] 10 [0, 1, 2, 3, 4, 5, 6, 7, 8, 9, 10] [0, 1, 5, 6, 7] r (by kernel_rfl) (an u15 (an u16 (an u17 (an u18 (an u19 (an h13 (an u20 (an (viewCompare e.view.id f.view.id) (an h15 (an (ptrT116 : PtrT Tryz.prog 116) (an ((by have k := viewSame co.view e.view (View.may_bounded hcm); rw [h16] at k; exact k) : Con Tryz.prog 44 [.ag (co.view.avs []), .ag (e.view.avs [])] (.v (.bool false))) trivial))))))))))) fun ac wd r => ?_
        have r := r.foldM (u := 9) (v := 10) (m := 3) (j := jo) (vc := [((comers co.came).length) = (comers co.came : List (List DV)).length]) (M1 := [.bx 54 [.mv 1, .mv 2, .mv 3, .mv 4], .mp 49 (cl) (X1), .mp 50 (cs) (X2), .mp 51 (nc) (setE (setE (emap vk Come.d C) jo (ptrV xb)) (jo) (.pb 122 (co.view.dvs [.em 129 8 (comers co.came)]))), .mp 52 (ng) (emap sk goneD G), .bx 82 (f.lav 6), .rw 36 1 (nums f.handed), .bx 46 e.av, .dead, .dead, .nm 9 xb]) (M2 := [.bx 54 [.mv 1, .mv 2, .mv 3, .mv 4], .mp 49 (cl) (X1), .mp 50 (cs) (X2), .mp 51 (nc) (emap vk Come.d C), .mp 52 (ng) (emap sk goneD G), .bx 82 (f.lav 6), .rw 36 1 (nums f.handed), .bx 46 e.av, .dead, .dead, .nm 9 xb]) rfl (by kernel_rfl) (And.intro (by first | rfl | simp) trivial) (fun _ _ _ hM => by cases hM; exact setE_at _ (emap_at hjo)) (by rw [setE_same hjo])
        refine castM (y := .z 234) (N' := [.bx 54 [.mv 1, .mv 2, .mv 3, .mv 4], .mp 49 (cl) (X1), .mp 50 (cs) (X2), .mp 51 (nc) (emap vk Come.d C), .mp 52 (ng) (emap sk goneD G), .bx 82 (f.lav 6), .rw 36 1 (nums f.handed)]) ((by rw [viewJ2 (by omega) (by unfold viewBad; rw [hco]; first | (simp [*]; done) | (simp [*] <;> omega))])) ((by rw [viewJ2 (by omega) (by unfold viewBad; rw [hco]; first | (simp [*]; done) | (simp [*] <;> omega))]; rfl)) ?_
        exact toRetM tk mo hK rfl hbm [] 2000 [0, 1, 2, 3, 4, 5, 6] r (by kernel_rfl) trivial
       | true =>
        have qh16 := of_decide_eq_true h16
        have hcv : co.view = e.view := of_decide_eq_true (show decide (co.view = e.view) = true by assumption)
        have u21 := ((by have k := viewSame co.view e.view (View.may_bounded hcm); rw [h16] at k; exact k) : Con Tryz.prog 44 [.ag (co.view.avs []), .ag (e.view.avs [])] (.v (.bool true)))
        have u22 := ((by have k := viewPlace f.view e.who hbf; rw [place_mem.2 hf.mem] at k; exact k) : Con Tryz.prog 39 [.ag (f.view.avs []), .ag [.z e.who.node, .u e.who.inc]] (.tu [.n (placeN f.view.members e.who), .v (.bool true)]))
        have u23 := ((by first | omega | decide | (simp; done) | (simp; omega)) : (placeN f.view.members e.who) < (f.handed.length))
        have u24 := ((by first | rfl | (simp; done) | (simp <;> omega)) : (f.handed.length) ≤ (nums f.handed).length)
        cases h17 : (((hw : Nat) : Int) != ((f.sent : Nat) : Int)) with
        | false =>
         have qh17 := eq_of_bne h17
         cases h18 : ((getK G (f.view.id, e.view.id)).isSome) with
         | false =>
          have hnog : getK G (f.view.id, e.view.id) = none := by simpa using (show (getK G (f.view.id, e.view.id)).isSome = false by assumption)
          have u25 := ((keysS hG.ok (q := (f.view.id, e.view.id)) ⟨hf.vid, ho.vid⟩) : KeysOk Tryz.prog 124 ((sk (f.view.id, e.view.id)) :: List.map (fun (e : Nat × MK × DV) => e.2.1) (emap sk goneD G)))
          have u26 := ((emap_fresh (fun _ _ h => sk_inj h) (q := (f.view.id, e.view.id)) hnog) : ∀ zz ∈ (emap sk goneD G : List (Nat × MK × DV)), zz.2.1 ≠ (sk (f.view.id, e.view.id)))
          cases h19 : (mayT f.view e) with
          | false =>
           refine toAtM (todo' := aft Tryz.f19 14) (E' := [(0, .pt 0 0), (1, .pt 5 0), (5, .pt 7 0), (6, .z 237), (7, .pt 9 0), (10, .pt 11 0)]) (M' := [.bx 54 [.mv 1, .mv 2, .mv 3, .mv 4], .mp 49 (cl) (X1), .mp 50 (cs) (X2), .mp 51 (nc) (setE (emap vk Come.d C) jo (ptrV xb)), .mp 52 (ng) (emap sk goneD G), .bx 82 (f.lav 6), .rw 36 1 (nums f.handed), .bx 46 e.av, .rw 129 8 (comers co.came), .bx 122 (co.view.avs [.sl 8 ((comers co.came).length)]), .nm 9 xb, .bx 124 [.u f.view.id.round, .z f.view.id.server.node, .u f.view.id.server.inc, .u e.view.id.round, .z e.view.id.server.node, .u e.view.id.server.inc]]) tk mo hK hbm [(3, [(7, .mkp (jo) (vk e.view.id) (ptrV xb) 10)]), (4, [(2, .con (.v (.bool true))), (9, .b false), (17, .con (.v (.bool true))), (29, .con (.z (e.view.id.cmp f.view.id))), (30, .b false), (42, .con (.v (.bool true)))]), (6, [(6, .con (.tu [.n (placeN f.view.members e.who), .v (.bool true)]))]), (7, [(5, .n (placeN f.view.members e.who)), (6, .ix 0 [.u hw]), (11, .b false)]), (10, [(5, .b false)]), (13, [(5, .con (.v (.bool false)))])] 31 [0, 1, 2, 3, 4, 5, 6, 7, 8, 9, 10, 11] [0, 1, 5, 6, 7, 10] r (by kernel_rfl) (an u15 (an u16 (an u17 (an u18 (an u19 (an h13 (an u20 (an (viewCompare e.view.id f.view.id) (an h15 (an (ptrT116 : PtrT Tryz.prog 116) (an u21 (an u22 (an (rfI ((placeN f.view.members e.who : Nat) : Int)) (an u23 (an u24 (an (nums_at gw) (an h17 (an u25 (an ((fun _ => rfl) : ZeroIs Tryz.prog 42 ((.slice none 0 0))) (an u26 (an ((by have k := mayTransitOk f.view e ho hfs.1 hfs.2 (View.may_ss (by assumption)).1; rw [h19] at k; exact k) : Con Tryz.prog 46 [.ag (f.view.avs []), .ag e.av] (.v (.bool false))) trivial))))))))))))))))))))) fun ac wd r => ?_
           have r := r.foldM (u := 9) (v := 10) (m := 3) (j := jo) (vc := [((comers co.came).length) = (comers co.came : List (List DV)).length]) (M1 := [.bx 54 [.mv 1, .mv 2, .mv 3, .mv 4], .mp 49 (cl) (X1), .mp 50 (cs) (X2), .mp 51 (nc) (setE (setE (emap vk Come.d C) jo (ptrV xb)) (jo) (.pb 122 (co.view.dvs [.em 129 8 (comers co.came)]))), .mp 52 (ng) (emap sk goneD G), .bx 82 (f.lav 6), .rw 36 1 (nums f.handed), .bx 46 e.av, .dead, .dead, .nm 9 xb, .bx 124 [.u f.view.id.round, .z f.view.id.server.node, .u f.view.id.server.inc, .u e.view.id.round, .z e.view.id.server.node, .u e.view.id.server.inc]]) (M2 := [.bx 54 [.mv 1, .mv 2, .mv 3, .mv 4], .mp 49 (cl) (X1), .mp 50 (cs) (X2), .mp 51 (nc) (emap vk Come.d C), .mp 52 (ng) (emap sk goneD G), .bx 82 (f.lav 6), .rw 36 1 (nums f.handed), .bx 46 e.av, .dead, .dead, .nm 9 xb, .bx 124 [.u f.view.id.round, .z f.view.id.server.node, .u f.view.id.server.inc, .u e.view.id.round, .z e.view.id.server.node, .u e.view.id.server.inc]]) rfl (by kernel_rfl) (And.intro (by first | rfl | simp) trivial) (fun _ _ _ hM => by cases hM; exact setE_at _ (emap_at hjo)) (by rw [setE_same hjo])
           refine castM (y := .z 237) (N' := [.bx 54 [.mv 1, .mv 2, .mv 3, .mv 4], .mp 49 (cl) (X1), .mp 50 (cs) (X2), .mp 51 (nc) (emap vk Come.d C), .mp 52 (ng) (emap sk goneD G), .bx 82 (f.lav 6), .rw 36 1 (nums f.handed)]) ((by rw [viewJ5 (by omega) (by unfold viewBad; rw [hco]; first | (simp [*]; done) | (simp [*] <;> omega)) (by unfold handedAt; rw [gw]; simp only [Option.getD_some]; omega) (by unfold goneBad; simp [hnog]) (by unfold transitBad; simp [hco, *])])) ((by rw [viewJ5 (by omega) (by unfold viewBad; rw [hco]; first | (simp [*]; done) | (simp [*] <;> omega)) (by unfold handedAt; rw [gw]; simp only [Option.getD_some]; omega) (by unfold goneBad; simp [hnog]) (by unfold transitBad; simp [hco, *])]; rfl)) ?_
           exact toRetM tk mo hK rfl hbm [] 2000 [0, 1, 2, 3, 4, 5, 6] r (by kernel_rfl) trivial
          | true =>
           have u27 := ((by have k := mayTransitOk f.view e ho hfs.1 hfs.2 (View.may_ss (by assumption)).1; rw [h19] at k; exact k) : Con Tryz.prog 46 [.ag (f.view.avs []), .ag e.av] (.v (.bool true)))
           cases h20 : (agreesB co f.view e) with
           | false =>
            refine toAtM (todo' := aft Tryz.f19 14) (E' := [(0, .pt 0 0), (1, .pt 5 0), (5, .pt 7 0), (6, .z 237), (7, .pt 9 0), (10, .pt 11 0)]) (M' := [.bx 54 [.mv 1, .mv 2, .mv 3, .mv 4], .mp 49 (cl) (X1), .mp 50 (cs) (X2), .mp 51 (nc) (setE (emap vk Come.d C) jo (ptrV xb)), .mp 52 (ng) (emap sk goneD G), .bx 82 (f.lav 6), .rw 36 1 (nums f.handed), .bx 46 e.av, .rw 129 8 (comers co.came), .bx 122 (co.view.avs [.sl 8 ((comers co.came).length)]), .nm 9 xb, .bx 124 [.u f.view.id.round, .z f.view.id.server.node, .u f.view.id.server.inc, .u e.view.id.round, .z e.view.id.server.node, .u e.view.id.server.inc]]) tk mo hK hbm [(3, [(7, .mkp (jo) (vk e.view.id) (ptrV xb) 10)]), (4, [(2, .con (.v (.bool true))), (9, .b false), (17, .con (.v (.bool true))), (29, .con (.z (e.view.id.cmp f.view.id))), (30, .b false), (42, .con (.v (.bool true)))]), (6, [(6, .con (.tu [.n (placeN f.view.members e.who), .v (.bool true)]))]), (7, [(5, .n (placeN f.view.members e.who)), (6, .ix 0 [.u hw]), (11, .b false)]), (10, [(5, .b false)]), (13, [(5, .con (.v (.bool true))), (17, .mem [9, 8] (.d (.v (.bool false))) [.bx 122 (co.view.avs [.sl 1 ((comers co.came).length)]), .rw 129 8 (comers co.came)])])] 31 [0, 1, 2, 3, 4, 5, 6, 7, 8, 9, 10, 11] [0, 1, 5, 6, 7, 10] r (by kernel_rfl) (an u15 (an u16 (an u17 (an u18 (an u19 (an h13 (an u20 (an (viewCompare e.view.id f.view.id) (an h15 (an (ptrT116 : PtrT Tryz.prog 116) (an u21 (an u22 (an (rfI ((placeN f.view.members e.who : Nat) : Int)) (an u23 (an u24 (an (nums_at gw) (an h17 (an u25 (an ((fun _ => rfl) : ZeroIs Tryz.prog 42 ((.slice none 0 0))) (an u26 (an u27 (an (ptrT116 : PtrT Tryz.prog 116) (an ((by have k := agreesOk co f.view e ho hfs.2 hcc (by omega); rw [h20] at k; exact k) : ConM Tryz.prog 47 [.pt 0 0, .ag (f.view.avs []), .ag e.av] [.bx 122 (co.view.avs [.sl 1 ((comers co.came).length)]), .rw 129 8 (comers co.came)] (.d (.v (.bool false))) [.bx 122 (co.view.avs [.sl 1 ((comers co.came).length)]), .rw 129 8 (comers co.came)]) trivial))))))))))))))))))))))) fun ac wd r => ?_
            have r := r.foldM (u := 9) (v := 10) (m := 3) (j := jo) (vc := [((comers co.came).length) = (comers co.came : List (List DV)).length]) (M1 := [.bx 54 [.mv 1, .mv 2, .mv 3, .mv 4], .mp 49 (cl) (X1), .mp 50 (cs) (X2), .mp 51 (nc) (setE (setE (emap vk Come.d C) jo (ptrV xb)) (jo) (.pb 122 (co.view.dvs [.em 129 8 (comers co.came)]))), .mp 52 (ng) (emap sk goneD G), .bx 82 (f.lav 6), .rw 36 1 (nums f.handed), .bx 46 e.av, .dead, .dead, .nm 9 xb, .bx 124 [.u f.view.id.round, .z f.view.id.server.node, .u f.view.id.server.inc, .u e.view.id.round, .z e.view.id.server.node, .u e.view.id.server.inc]]) (M2 := [.bx 54 [.mv 1, .mv 2, .mv 3, .mv 4], .mp 49 (cl) (X1), .mp 50 (cs) (X2), .mp 51 (nc) (emap vk Come.d C), .mp 52 (ng) (emap sk goneD G), .bx 82 (f.lav 6), .rw 36 1 (nums f.handed), .bx 46 e.av, .dead, .dead, .nm 9 xb, .bx 124 [.u f.view.id.round, .z f.view.id.server.node, .u f.view.id.server.inc, .u e.view.id.round, .z e.view.id.server.node, .u e.view.id.server.inc]]) rfl (by kernel_rfl) (And.intro (by first | rfl | simp) trivial) (fun _ _ _ hM => by cases hM; exact setE_at _ (emap_at hjo)) (by rw [setE_same hjo])
            refine castM (y := .z 237) (N' := [.bx 54 [.mv 1, .mv 2, .mv 3, .mv 4], .mp 49 (cl) (X1), .mp 50 (cs) (X2), .mp 51 (nc) (emap vk Come.d C), .mp 52 (ng) (emap sk goneD G), .bx 82 (f.lav 6), .rw 36 1 (nums f.handed)]) ((by rw [viewJ5 (by omega) (by unfold viewBad; rw [hco]; first | (simp [*]; done) | (simp [*] <;> omega)) (by unfold handedAt; rw [gw]; simp only [Option.getD_some]; omega) (by unfold goneBad; simp [hnog]) (by unfold transitBad; simp [hco, *])])) ((by rw [viewJ5 (by omega) (by unfold viewBad; rw [hco]; first | (simp [*]; done) | (simp [*] <;> omega)) (by unfold handedAt; rw [gw]; simp only [Option.getD_some]; omega) (by unfold goneBad; simp [hnog]) (by unfold transitBad; simp [hco, *])]; rfl)) ?_
            exact toRetM tk mo hK rfl hbm [] 2000 [0, 1, 2, 3, 4, 5, 6] r (by kernel_rfl) trivial
           | true =>
            have v18_0 := ((keys_setE (keysV hC.ok ho.vid)) : KeysOk Tryz.prog 40 ((vk e.view.id) :: List.map (fun (e : Nat × MK × DV) => e.2.1) (setE (emap vk Come.d C) jo (ptrV xb))))
            have v18_1 := (rfl : ((vk e.view.id) : MK) = (vk e.view.id))
            have v18_2 := ((by rw [setE_keys]; exact emap_nodup (fun _ _ h => vk_inj h) hC.n) : (List.map (fun (e : Nat × MK × DV) => e.2.1) (setE (emap vk Come.d C) jo (ptrV xb))).Nodup)
            have v18_3 := (⟨⟨_, setE_at _ (emap_at hjo)⟩, rfl⟩ : (∃ b0, (setE (emap vk Come.d C) jo (ptrV xb) : List (Nat × MK × DV))[jo]? = some (b0, (vk e.view.id), ptrV xb)) ∧ outP [.bx 54 [.mv 1, .mv 2, .mv 3, .mv 4], .mp 49 (cl) (X1), .mp 50 (cs) (X2), .mp 51 (nc) (setE (emap vk Come.d C) jo (ptrV xb)), .mp 52 (ng) (emap sk goneD G), .bx 82 (f.lav 6), .rw 36 1 (nums f.handed), .bx 46 e.av, .rw 129 8 (comers co.came), .bx 122 (co.view.avs [.sl 8 ((comers co.came).length)]), .nm 9 xb] (ptrV xb) (some 10))
            have v18_4 := ((by have k := viewMay e.view hbe; rw [h12] at k; exact k) : Con Tryz.prog 41 [.ag (e.view.avs [])] (.v (.bool true)))
            have v18_5 := ((by have k := procHas e.view.members e.who (by have := ho.members; omega); rw [h14] at k; exact k) : Con Tryz.prog 42 [.d (.ro 2 (procs e.view.members)), .ag [.z e.who.node, .u e.who.inc]] (.v (.bool true)))
            have v18_6 := (viewCompare e.view.id f.view.id)
            have v18_7 := (ptrT116 : PtrT Tryz.prog 116)
            have v18_8 := ((by have k := viewSame co.view e.view (View.may_bounded hcm); rw [h16] at k; exact k) : Con Tryz.prog 44 [.ag (co.view.avs []), .ag (e.view.avs [])] (.v (.bool true)))
            have v18_9 := ((by have k := viewPlace f.view e.who hbf; rw [place_mem.2 hf.mem] at k; exact k) : Con Tryz.prog 39 [.ag (f.view.avs []), .ag [.z e.who.node, .u e.who.inc]] (.tu [.n (placeN f.view.members e.who), .v (.bool true)]))
            have v18_10 := (rfI ((placeN f.view.members e.who : Nat) : Int))
            have v18_11 := ((by first | omega | decide | (simp; done) | (simp; omega)) : (placeN f.view.members e.who) < (f.handed.length))
            have v18_12 := ((by first | rfl | (simp; done) | (simp <;> omega)) : (f.handed.length) ≤ (nums f.handed).length)
            have v18_13 := ((keysS hG.ok (q := (f.view.id, e.view.id)) ⟨hf.vid, ho.vid⟩) : KeysOk Tryz.prog 124 ((sk (f.view.id, e.view.id)) :: List.map (fun (e : Nat × MK × DV) => e.2.1) (emap sk goneD G)))
            have v18_14 := ((fun _ => rfl) : ZeroIs Tryz.prog 42 ((.slice none 0 0)))
            have v18_15 := ((emap_fresh (fun _ _ h => sk_inj h) (q := (f.view.id, e.view.id)) hnog) : ∀ zz ∈ (emap sk goneD G : List (Nat × MK × DV)), zz.2.1 ≠ (sk (f.view.id, e.view.id)))
            have v18_16 := ((by have k := mayTransitOk f.view e ho hfs.1 hfs.2 (View.may_ss (by assumption)).1; rw [h19] at k; exact k) : Con Tryz.prog 46 [.ag (f.view.avs []), .ag e.av] (.v (.bool true)))
            have v18_17 := ((by have k := agreesOk co f.view e ho hfs.2 hcc (by omega); rw [h20] at k; exact k) : ConM Tryz.prog 47 [.pt 0 0, .ag (f.view.avs []), .ag e.av] [.bx 122 (co.view.avs [.sl 1 ((comers co.came).length)]), .rw 129 8 (comers co.came)] (.d (.v (.bool true))) [.bx 122 (co.view.avs [.sl 1 ((comers co.came).length)]), .rw 129 8 (comers co.came)])
            have v18_18 := ((by first | rfl | (simp; done) | (simp <;> omega)) : ((comers co.came).length) = (comers co.came : List (List DV)).length)
            have v18_19 := ((by first | rfl | (simp; done) | (simp <;> omega)) : (1) = ([[.z e.who.node, .u e.who.inc, .u f.view.id.round, .z f.view.id.server.node, .u f.view.id.server.inc, .ro 2 (procs f.view.members), .ro 1 (nums f.view.starts), .ro 2 (procs e.transit)]] : List (List DV)).length)
            have v18_20 := ((by first | omega | (simp; done) | (simp <;> omega)) : (2 * (((comers co.came).length) + (1)) + 192) * 112 ≤ 281474976710656)
            have v18_21 := ((by first | omega | (simp; done) | (simp <;> omega)) : ((comers co.came).length) + (1) < 4611686018427387904)
            have v18_22 := ((by simp [OneR, AV.one, oneC, bytesR]) : OneR ([[.z e.who.node, .u e.who.inc, .u f.view.id.round, .z f.view.id.server.node, .u f.view.id.server.inc, .ro 2 (procs f.view.members), .ro 1 (nums f.view.starts), .ro 2 (procs e.transit)]]))
            refine toDrawM (todo' := aft Tryz.f19 18) (E' := [(0, .pt 0 0), (1, .pt 5 0), (5, .pt 7 0), (6, .z 0), (10, .pt 11 0)]) (M' := [.bx 54 [.mv 1, .mv 2, .mv 3, .mv 4], .mp 49 (cl) (X1), .mp 50 (cs) (X2), .mp 51 (nc) (setE (emap vk Come.d C) jo (ptrV xb)), .mp 52 (ng) (emap sk goneD G), .bx 82 (f.lav 6), .rw 36 1 (nums f.handed), .bx 46 e.av, .rw 129 8 (comers co.came ++ [[.z e.who.node, .u e.who.inc, .u f.view.id.round, .z f.view.id.server.node, .u f.view.id.server.inc, .ro 2 (procs f.view.members), .ro 1 (nums f.view.starts), .ro 2 (procs e.transit)]]), .bx 122 (co.view.avs [.sl 8 ((comers co.came).length + (1))]), .nm 9 xb, .bx 124 [.u f.view.id.round, .z f.view.id.server.node, .u f.view.id.server.inc, .u e.view.id.round, .z e.view.id.server.node, .u e.view.id.server.inc], .dead]) tk mo hK hbm [(3, [(7, .mkp (jo) (vk e.view.id) (ptrV xb) 10)]), (4, [(2, .con (.v (.bool true))), (9, .b false), (17, .con (.v (.bool true))), (29, .con (.z (e.view.id.cmp f.view.id))), (30, .b false), (42, .con (.v (.bool true)))]), (6, [(6, .con (.tu [.n (placeN f.view.members e.who), .v (.bool true)]))]), (7, [(5, .n (placeN f.view.members e.who)), (6, .ix 0 [.u hw]), (11, .b false)]), (10, [(5, .b false)]), (13, [(5, .con (.v (.bool true))), (17, .mem [9, 8] (.d (.v (.bool true))) [.bx 122 (co.view.avs [.sl 1 ((comers co.came).length)]), .rw 129 8 (comers co.came)])]), (18, [])] 36 2 [4] [[0, 1, 2, 3, 4, 5, 6, 7, 8, 9, 10, 11, 12], [0, 1, 2, 3, 4, 5, 6, 7, 8, 9, 10, 11, 12]] [0, 1, 5, 6, 10] r (by kernel_rfl) (an (an v18_0 (an v18_1 (an v18_2 (an v18_3 (an v18_4 (an h13 (an v18_5 (an v18_6 (an h15 (an v18_7 (an v18_8 (an v18_9 (an v18_10 (an v18_11 (an v18_12 (an (nums_at gw) (an h17 (an v18_13 (an v18_14 (an v18_15 (an v18_16 (an v18_7 (an v18_17 (an v18_7 (an v18_18 (an v18_19 (an v18_20 (an v18_21 (an v18_22 trivial))))))))))))))))))))))))))))) (an (an v18_0 (an v18_1 (an v18_2 (an v18_3 (an v18_4 (an h13 (an v18_5 (an v18_6 (an h15 (an v18_7 (an v18_8 (an v18_9 (an v18_10 (an v18_11 (an v18_12 (an (nums_at gw) (an h17 (an v18_13 (an v18_14 (an v18_15 (an v18_16 (an v18_7 (an v18_17 (an v18_7 (an v18_18 (an v18_19 (an v18_20 (an v18_21 (an v18_22 trivial))))))))))))))))))))))))))))) trivial)) fun ac wd r => ?_
            have r := r.stayC [(5, 8)] (p := [(f.handed.length) = (nums f.handed).length]) (M1 := [.bx 54 [.mv 1, .mv 2, .mv 3, .mv 4], .mp 49 (cl) (X1), .mp 50 (cs) (X2), .mp 51 (nc) (setE (emap vk Come.d C) jo (ptrV xb)), .mp 52 (ng) (emap sk goneD G), .bx 82 (f.view.avs [.d (.v (.bool (f.on))), .z f.stands, .u f.sent, .d (.ro 1 (frozR (nums f.handed)))]), .dead, .bx 46 e.av, .rw 129 8 (comers co.came ++ [[.z e.who.node, .u e.who.inc, .u f.view.id.round, .z f.view.id.server.node, .u f.view.id.server.inc, .ro 2 (procs f.view.members), .ro 1 (nums f.view.starts), .ro 2 (procs e.transit)]]), .bx 122 (co.view.avs [.sl 8 ((comers co.came).length + (1))]), .nm 9 xb, .bx 124 [.u f.view.id.round, .z f.view.id.server.node, .u f.view.id.server.inc, .u e.view.id.round, .z e.view.id.server.node, .u e.view.id.server.inc], .dead]) (M2 := [.bx 54 [.mv 1, .mv 2, .mv 3, .mv 4], .mp 49 (cl) (X1), .mp 50 (cs) (X2), .mp 51 (nc) (setE (emap vk Come.d C) jo (ptrV xb)), .mp 52 (ng) (emap sk goneD G), .bx 82 (f.view.avs [.d (.v (.bool (f.on))), .z f.stands, .u f.sent, .d (.ro 1 (nums f.handed))]), .dead, .bx 46 e.av, .rw 129 8 (comers co.came ++ [[.z e.who.node, .u e.who.inc, .u f.view.id.round, .z f.view.id.server.node, .u f.view.id.server.inc, .ro 2 (procs f.view.members), .ro 1 (nums f.view.starts), .ro 2 (procs e.transit)]]), .bx 122 (co.view.avs [.sl 8 ((comers co.came).length + (1))]), .nm 9 xb, .bx 124 [.u f.view.id.round, .z f.view.id.server.node, .u f.view.id.server.inc, .u e.view.id.round, .z e.view.id.server.node, .u e.view.id.server.inc], .dead]) (by kernel_rfl) (And.intro (by simp) trivial) (by kernel_rfl) (by rw [froz_numsE])
            refine toAtM (todo' := aft Tryz.f19 21) (E' := [(6, .z 0)]) (M' := [.bx 54 [.mv 1, .mv 2, .mv 3, .mv 4], .mp 49 (cl) (X1), .mp 50 (cs) (X2), .mp 51 (nc) (setE (emap vk Come.d C) jo (ptrV xb)), .mp 52 (ng + 1) (emap sk goneD G ++ [(ng, (sk (f.view.id, e.view.id)), .ro 1 (nums f.handed))]), .bx 82 (e.view.avs [.d (.v (.bool (f.on))), .z 0, .d (.v (.int .u64 0)), .sl 14 (e.view.members.length)]), .dead, .bx 46 e.av, .rw 129 8 (comers co.came ++ [[.z e.who.node, .u e.who.inc, .u f.view.id.round, .z f.view.id.server.node, .u f.view.id.server.inc, .ro 2 (procs f.view.members), .ro 1 (nums f.view.starts), .ro 2 (procs e.transit)]]), .bx 122 (co.view.avs [.sl 8 ((comers co.came).length + (1))]), .nm 9 xb, .bx 124 [.u f.view.id.round, .z f.view.id.server.node, .u f.view.id.server.inc, .u e.view.id.round, .z e.view.id.server.node, .u e.view.id.server.inc], .dead, .bx 44 (e.view.avs []), .rw 36 1 (List.replicate (e.view.members.length) [.v (.int .u64 0)])]) tk mo hK hbm [(19, [(9, .b false)]), (20, [(3, .into 200 [(4, [(3, .z (((e.view.members.length : Nat) : Int))), (4, .n (e.view.members.length))])])])] 6 [0, 1, 2, 3, 4, 5, 6, 7, 8, 9, 10, 11, 12, 13, 14] [6] r (by kernel_rfl) (an u25 (an u26 (an ((by first | rfl | simp [bytesR]) : (((procs e.view.members).length : Nat) : Int) = ((e.view.members.length : Nat) : Int)) (an (rfI ((e.view.members.length : Nat) : Int)) (an (rfI ((e.view.members.length : Nat) : Int)) (an ((by first | omega | decide | (simp; done) | (simp; omega)) : 8 * (e.view.members.length) ≤ 281474976710656) (an ((by first | omega | decide | (simp; done) | (simp; omega)) : (e.view.members.length) < 4611686018427387904) trivial))))))) fun ac wd r => ?_
            have r := r.foldM (u := 9) (v := 10) (m := 3) (j := jo) (vc := [((comers co.came).length + (1)) = (comers co.came ++ [[.z e.who.node, .u e.who.inc, .u f.view.id.round, .z f.view.id.server.node, .u f.view.id.server.inc, .ro 2 (procs f.view.members), .ro 1 (nums f.view.starts), .ro 2 (procs e.transit)]] : List (List DV)).length]) (M1 := [.bx 54 [.mv 1, .mv 2, .mv 3, .mv 4], .mp 49 (cl) (X1), .mp 50 (cs) (X2), .mp 51 (nc) (setE (setE (emap vk Come.d C) jo (ptrV xb)) (jo) (.pb 122 (co.view.dvs [.em 129 8 (comers co.came ++ [[.z e.who.node, .u e.who.inc, .u f.view.id.round, .z f.view.id.server.node, .u f.view.id.server.inc, .ro 2 (procs f.view.members), .ro 1 (nums f.view.starts), .ro 2 (procs e.transit)]])]))), .mp 52 (ng + 1) (emap sk goneD G ++ [(ng, (sk (f.view.id, e.view.id)), .ro 1 (nums f.handed))]), .bx 82 (e.view.avs [.d (.v (.bool (f.on))), .z 0, .d (.v (.int .u64 0)), .sl 14 (e.view.members.length)]), .dead, .bx 46 e.av, .dead, .dead, .nm 9 xb, .bx 124 [.u f.view.id.round, .z f.view.id.server.node, .u f.view.id.server.inc, .u e.view.id.round, .z e.view.id.server.node, .u e.view.id.server.inc], .dead, .bx 44 (e.view.avs []), .rw 36 1 (List.replicate (e.view.members.length) [.v (.int .u64 0)])]) (M2 := [.bx 54 [.mv 1, .mv 2, .mv 3, .mv 4], .mp 49 (cl) (X1), .mp 50 (cs) (X2), .mp 51 (nc) (emap vk Come.d (putK C nc e.view.id ⟨e.view, cameL C e.view.id ++ [⟨e.who, f.view, e.transit⟩]⟩)), .mp 52 (ng + 1) (emap sk goneD G ++ [(ng, (sk (f.view.id, e.view.id)), .ro 1 (nums f.handed))]), .bx 82 (e.view.avs [.d (.v (.bool (f.on))), .z 0, .d (.v (.int .u64 0)), .sl 14 (e.view.members.length)]), .dead, .bx 46 e.av, .dead, .dead, .nm 9 xb, .bx 124 [.u f.view.id.round, .z f.view.id.server.node, .u f.view.id.server.inc, .u e.view.id.round, .z e.view.id.server.node, .u e.view.id.server.inc], .dead, .bx 44 (e.view.avs []), .rw 36 1 (List.replicate (e.view.members.length) [.v (.int .u64 0)])]) rfl (by kernel_rfl) (And.intro (by first | rfl | simp) trivial) (fun _ _ _ hM => by cases hM; exact setE_at _ (emap_at hjo)) (by rw [comers_app co.came ⟨e.who, f.view, e.transit⟩, came_fold hjo, putK_old hC.n hjo (by assumption), cameL_old hco, hcv])
            refine castM (y := .z 0) (N' := [.bx 54 [.mv 1, .mv 2, .mv 3, .mv 4], .mp 49 (cl) (X1), .mp 50 (cs) (X2), .mp 51 (nc) (emap vk Come.d (putK C nc e.view.id ⟨e.view, cameL C e.view.id ++ [⟨e.who, f.view, e.transit⟩]⟩)), .mp 52 (ng + 1) (emap sk goneD G ++ [(ng, (sk (f.view.id, e.view.id)), .ro 1 (nums f.handed))]), .bx 82 (e.view.avs [.d (.v (.bool (f.on))), .z 0, .d (.v (.int .u64 0)), .sl 7 (e.view.members.length)]), .dead, .rw 36 1 (List.replicate (e.view.members.length) [.v (.int .u64 0)])]) ((by rw [viewJ6 (by omega) (by unfold viewBad; rw [hco]; first | (simp [*]; done) | (simp [*] <;> omega)) (by unfold handedAt; rw [gw]; simp only [Option.getD_some]; omega) (by unfold goneBad; simp [hnog]) (by unfold transitBad; simp [hco, *])]; rfl)) ((by rw [viewJ6 (by omega) (by unfold viewBad; rw [hco]; first | (simp [*]; done) | (simp [*] <;> omega)) (by unfold handedAt; rw [gw]; simp only [Option.getD_some]; omega) (by unfold goneBad; simp [hnog]) (by unfold transitBad; simp [hco, *])]; unfold viewOkJ; dsimp only; rw [putOldC (q := e.view.id) (by assumption), putNew (q := (f.view.id, e.view.id)) (by assumption), putNewC (q := (f.view.id, e.view.id)) (by assumption), nums_zero, lifeM_enter]; rfl)) ?_
            exact toRetM tk mo hK rfl hbm [] 2000 [0, 1, 2, 3, 4, 5, 6, 14] r (by kernel_rfl) trivial
         | true =>
          obtain ⟨hg, hhg⟩ := Option.isSome_iff_exists.1 (show (getK G (f.view.id, e.view.id)).isSome = true by assumption)
          obtain ⟨jg, bg, hjg⟩ := getK_some hhg
          have hgl := hG.len _ (List.mem_of_getElem? hjg)
          dsimp only at hgl
          have u28 := ((keysS hG.ok (q := (f.view.id, e.view.id)) ⟨hf.vid, ho.vid⟩) : KeysOk Tryz.prog 124 ((sk (f.view.id, e.view.id)) :: List.map (fun (e : Nat × MK × DV) => e.2.1) (emap sk goneD G)))
          have u29 := (rfl : ((sk (f.view.id, e.view.id)) : MK) = (sk (f.view.id, e.view.id)))
          have u30 := ((emap_nodup (fun _ _ h => sk_inj h) hG.n) : (List.map (fun (e : Nat × MK × DV) => e.2.1) (emap sk goneD G)).Nodup)
          have u31 := (⟨_, emap_at hjg⟩ : ∃ b0, (emap sk goneD G : List (Nat × MK × DV))[jg]? = some (b0, (sk (f.view.id, e.view.id)), .ro 1 (nums hg)))
          cases h21 : (decide (hg = f.handed)) with
          | false =>
           have qh21 := of_decide_eq_false h21
           refine toAtM (todo' := aft Tryz.f19 12) (E' := [(0, .pt 0 0), (1, .pt 5 0), (5, .pt 7 0), (6, .z 236), (7, .pt 9 0), (10, .pt 11 0)]) (M' := [.bx 54 [.mv 1, .mv 2, .mv 3, .mv 4], .mp 49 (cl) (X1), .mp 50 (cs) (X2), .mp 51 (nc) (setE (emap vk Come.d C) jo (ptrV xb)), .mp 52 (ng) (emap sk goneD G), .bx 82 (f.lav 6), .rw 36 1 (nums f.handed), .bx 46 e.av, .rw 129 8 (comers co.came), .bx 122 (co.view.avs [.sl 8 ((comers co.came).length)]), .nm 9 xb, .bx 124 [.u f.view.id.round, .z f.view.id.server.node, .u f.view.id.server.inc, .u e.view.id.round, .z e.view.id.server.node, .u e.view.id.server.inc]]) tk mo hK hbm [(3, [(7, .mkp (jo) (vk e.view.id) (ptrV xb) 10)]), (4, [(2, .con (.v (.bool true))), (9, .b false), (17, .con (.v (.bool true))), (29, .con (.z (e.view.id.cmp f.view.id))), (30, .b false), (42, .con (.v (.bool true)))]), (6, [(6, .con (.tu [.n (placeN f.view.members e.who), .v (.bool true)]))]), (7, [(5, .n (placeN f.view.members e.who)), (6, .ix 0 [.u hw]), (11, .b false)]), (10, [(5, .mk (jg) (sk (f.view.id, e.view.id)) (.ro 1 (nums hg)))]), (11, [(7, .call [.d (.ro 1 (nums hg)), .d (.ro 1 (nums f.handed))] (.v (.bool false)))])] 26 [0, 1, 2, 3, 4, 5, 6, 7, 8, 9, 10, 11] [0, 1, 5, 6, 7, 10] r (by kernel_rfl) (an u15 (an u16 (an u17 (an u18 (an u19 (an h13 (an u20 (an (viewCompare e.view.id f.view.id) (an h15 (an (ptrT116 : PtrT Tryz.prog 116) (an u21 (an u22 (an (rfI ((placeN f.view.members e.who : Nat) : Int)) (an u23 (an u24 (an (nums_at gw) (an h17 (an u28 (an u29 (an u30 (an u31 (an ((by have k := specEqual hg f.handed (by omega); rw [h21] at k; exact k) : Con Tryz.prog 45 [.d (.ro 1 (nums hg)), .d (.ro 1 (nums f.handed))] (.v (.bool false))) (an ((ind_v _) : Ind (.v (.bool false))) (an (rfD (.ro 1 (nums hg))) (an (rfN (1)) (an ((by first | rfl | (simp; done) | (simp <;> omega)) : (f.handed.length) = (nums f.handed).length) (an ((froz_numsE _) : frozR (nums f.handed) = nums f.handed) trivial))))))))))))))))))))))))))) fun ac wd r => ?_
           have r := r.foldM (u := 9) (v := 10) (m := 3) (j := jo) (vc := [((comers co.came).length) = (comers co.came : List (List DV)).length]) (M1 := [.bx 54 [.mv 1, .mv 2, .mv 3, .mv 4], .mp 49 (cl) (X1), .mp 50 (cs) (X2), .mp 51 (nc) (setE (setE (emap vk Come.d C) jo (ptrV xb)) (jo) (.pb 122 (co.view.dvs [.em 129 8 (comers co.came)]))), .mp 52 (ng) (emap sk goneD G), .bx 82 (f.lav 6), .rw 36 1 (nums f.handed), .bx 46 e.av, .dead, .dead, .nm 9 xb, .bx 124 [.u f.view.id.round, .z f.view.id.server.node, .u f.view.id.server.inc, .u e.view.id.round, .z e.view.id.server.node, .u e.view.id.server.inc]]) (M2 := [.bx 54 [.mv 1, .mv 2, .mv 3, .mv 4], .mp 49 (cl) (X1), .mp 50 (cs) (X2), .mp 51 (nc) (emap vk Come.d C), .mp 52 (ng) (emap sk goneD G), .bx 82 (f.lav 6), .rw 36 1 (nums f.handed), .bx 46 e.av, .dead, .dead, .nm 9 xb, .bx 124 [.u f.view.id.round, .z f.view.id.server.node, .u f.view.id.server.inc, .u e.view.id.round, .z e.view.id.server.node, .u e.view.id.server.inc]]) rfl (by kernel_rfl) (And.intro (by first | rfl | simp) trivial) (fun _ _ _ hM => by cases hM; exact setE_at _ (emap_at hjo)) (by rw [setE_same hjo])
           refine castM (y := .z 236) (N' := [.bx 54 [.mv 1, .mv 2, .mv 3, .mv 4], .mp 49 (cl) (X1), .mp 50 (cs) (X2), .mp 51 (nc) (emap vk Come.d C), .mp 52 (ng) (emap sk goneD G), .bx 82 (f.lav 6), .rw 36 1 (nums f.handed)]) ((by rw [viewJ4 (by omega) (by unfold viewBad; rw [hco]; first | (simp [*]; done) | (simp [*] <;> omega)) (by unfold handedAt; rw [gw]; simp only [Option.getD_some]; omega) (by unfold goneBad; simp [hhg, *])])) ((by rw [viewJ4 (by omega) (by unfold viewBad; rw [hco]; first | (simp [*]; done) | (simp [*] <;> omega)) (by unfold handedAt; rw [gw]; simp only [Option.getD_some]; omega) (by unfold goneBad; simp [hhg, *])]; rfl)) ?_
           exact toRetM tk mo hK rfl hbm [] 2000 [0, 1, 2, 3, 4, 5, 6] r (by kernel_rfl) trivial
          | true =>
           have qh21 := of_decide_eq_true h21
           have u32 := ((by have k := specEqual hg f.handed (by omega); rw [h21] at k; exact k) : Con Tryz.prog 45 [.d (.ro 1 (nums hg)), .d (.ro 1 (nums f.handed))] (.v (.bool true)))
           have u33 := ((by first | rfl | (simp; done) | (simp <;> omega)) : (f.handed.length) = (nums f.handed).length)
           cases h22 : (mayT f.view e) with
           | false =>
            refine toAtM (todo' := aft Tryz.f19 14) (E' := [(0, .pt 0 0), (1, .pt 5 0), (5, .pt 7 0), (6, .z 237), (7, .pt 9 0), (10, .pt 11 0)]) (M' := [.bx 54 [.mv 1, .mv 2, .mv 3, .mv 4], .mp 49 (cl) (X1), .mp 50 (cs) (X2), .mp 51 (nc) (setE (emap vk Come.d C) jo (ptrV xb)), .mp 52 (ng) (emap sk goneD G), .bx 82 (f.lav 6), .rw 36 1 (nums f.handed), .bx 46 e.av, .rw 129 8 (comers co.came), .bx 122 (co.view.avs [.sl 8 ((comers co.came).length)]), .nm 9 xb, .bx 124 [.u f.view.id.round, .z f.view.id.server.node, .u f.view.id.server.inc, .u e.view.id.round, .z e.view.id.server.node, .u e.view.id.server.inc]]) tk mo hK hbm [(3, [(7, .mkp (jo) (vk e.view.id) (ptrV xb) 10)]), (4, [(2, .con (.v (.bool true))), (9, .b false), (17, .con (.v (.bool true))), (29, .con (.z (e.view.id.cmp f.view.id))), (30, .b false), (42, .con (.v (.bool true)))]), (6, [(6, .con (.tu [.n (placeN f.view.members e.who), .v (.bool true)]))]), (7, [(5, .n (placeN f.view.members e.who)), (6, .ix 0 [.u hw]), (11, .b false)]), (10, [(5, .mk (jg) (sk (f.view.id, e.view.id)) (.ro 1 (nums hg)))]), (11, [(7, .call [.d (.ro 1 (nums hg)), .d (.ro 1 (nums f.handed))] (.v (.bool true)))]), (13, [(5, .con (.v (.bool false)))])] 31 [0, 1, 2, 3, 4, 5, 6, 7, 8, 9, 10, 11] [0, 1, 5, 6, 7, 10] r (by kernel_rfl) (an u15 (an u16 (an u17 (an u18 (an u19 (an h13 (an u20 (an (viewCompare e.view.id f.view.id) (an h15 (an (ptrT116 : PtrT Tryz.prog 116) (an u21 (an u22 (an (rfI ((placeN f.view.members e.who : Nat) : Int)) (an u23 (an u24 (an (nums_at gw) (an h17 (an u28 (an u29 (an u30 (an u31 (an u32 (an ((ind_v _) : Ind (.v (.bool true))) (an (rfD (.ro 1 (nums hg))) (an (rfN (1)) (an u33 (an ((froz_numsE _) : frozR (nums f.handed) = nums f.handed) (an ((by have k := mayTransitOk f.view e ho hfs.1 hfs.2 (View.may_ss (by assumption)).1; rw [h22] at k; exact k) : Con Tryz.prog 46 [.ag (f.view.avs []), .ag e.av] (.v (.bool false))) trivial)))))))))))))))))))))))))))) fun ac wd r => ?_
            have r := r.foldM (u := 9) (v := 10) (m := 3) (j := jo) (vc := [((comers co.came).length) = (comers co.came : List (List DV)).length]) (M1 := [.bx 54 [.mv 1, .mv 2, .mv 3, .mv 4], .mp 49 (cl) (X1), .mp 50 (cs) (X2), .mp 51 (nc) (setE (setE (emap vk Come.d C) jo (ptrV xb)) (jo) (.pb 122 (co.view.dvs [.em 129 8 (comers co.came)]))), .mp 52 (ng) (emap sk goneD G), .bx 82 (f.lav 6), .rw 36 1 (nums f.handed), .bx 46 e.av, .dead, .dead, .nm 9 xb, .bx 124 [.u f.view.id.round, .z f.view.id.server.node, .u f.view.id.server.inc, .u e.view.id.round, .z e.view.id.server.node, .u e.view.id.server.inc]]) (M2 := [.bx 54 [.mv 1, .mv 2, .mv 3, .mv 4], .mp 49 (cl) (X1), .mp 50 (cs) (X2), .mp 51 (nc) (emap vk Come.d C), .mp 52 (ng) (emap sk goneD G), .bx 82 (f.lav 6), .rw 36 1 (nums f.handed), .bx 46 e.av, .dead, .dead, .nm 9 xb, .bx 124 [.u f.view.id.round, .z f.view.id.server.node, .u f.view.id.server.inc, .u e.view.id.round, .z e.view.id.server.node, .u e.view.id.server.inc]]) rfl (by kernel_rfl) (And.intro (by first | rfl | simp) trivial) (fun _ _ _ hM => by cases hM; exact setE_at _ (emap_at hjo)) (by rw [setE_same hjo])
            refine castM (y := .z 237) (N' := [.bx 54 [.mv 1, .mv 2, .mv 3, .mv 4], .mp 49 (cl) (X1), .mp 50 (cs) (X2), .mp 51 (nc) (emap vk Come.d C), .mp 52 (ng) (emap sk goneD G), .bx 82 (f.lav 6), .rw 36 1 (nums f.handed)]) ((by rw [viewJ5 (by omega) (by unfold viewBad; rw [hco]; first | (simp [*]; done) | (simp [*] <;> omega)) (by unfold handedAt; rw [gw]; simp only [Option.getD_some]; omega) (by unfold goneBad; simp [hhg, *]) (by unfold transitBad; simp [hco, *])])) ((by rw [viewJ5 (by omega) (by unfold viewBad; rw [hco]; first | (simp [*]; done) | (simp [*] <;> omega)) (by unfold handedAt; rw [gw]; simp only [Option.getD_some]; omega) (by unfold goneBad; simp [hhg, *]) (by unfold transitBad; simp [hco, *])]; rfl)) ?_
            exact toRetM tk mo hK rfl hbm [] 2000 [0, 1, 2, 3, 4, 5, 6] r (by kernel_rfl) trivial
           | true =>
            have u34 := ((by have k := mayTransitOk f.view e ho hfs.1 hfs.2 (View.may_ss (by assumption)).1; rw [h22] at k; exact k) : Con Tryz.prog 46 [.ag (f.view.avs []), .ag e.av] (.v (.bool true)))
            cases h23 : (agreesB co f.view e) with
            | false =>
             refine toAtM (todo' := aft Tryz.f19 14) (E' := [(0, .pt 0 0), (1, .pt 5 0), (5, .pt 7 0), (6, .z 237), (7, .pt 9 0), (10, .pt 11 0)]) (M' := [.bx 54 [.mv 1, .mv 2, .mv 3, .mv 4], .mp 49 (cl) (X1), .mp 50 (cs) (X2), .mp 51 (nc) (setE (emap vk Come.d C) jo (ptrV xb)), .mp 52 (ng) (emap sk goneD G), .bx 82 (f.lav 6), .rw 36 1 (nums f.handed), .bx 46 e.av, .rw 129 8 (comers co.came), .bx 122 (co.view.avs [.sl 8 ((comers co.came).length)]), .nm 9 xb, .bx 124 [.u f.view.id.round, .z f.view.id.server.node, .u f.view.id.server.inc, .u e.view.id.round, .z e.view.id.server.node, .u e.view.id.server.inc]]) tk mo hK hbm [(3, [(7, .mkp (jo) (vk e.view.id) (ptrV xb) 10)]), (4, [(2, .con (.v (.bool true))), (9, .b false), (17, .con (.v (.bool true))), (29, .con (.z (e.view.id.cmp f.view.id))), (30, .b false), (42, .con (.v (.bool true)))]), (6, [(6, .con (.tu [.n (placeN f.view.members e.who), .v (.bool true)]))]), (7, [(5, .n (placeN f.view.members e.who)), (6, .ix 0 [.u hw]), (11, .b false)]), (10, [(5, .mk (jg) (sk (f.view.id, e.view.id)) (.ro 1 (nums hg)))]), (11, [(7, .call [.d (.ro 1 (nums hg)), .d (.ro 1 (nums f.handed))] (.v (.bool true)))]), (13, [(5, .con (.v (.bool true))), (17, .mem [9, 8] (.d (.v (.bool false))) [.bx 122 (co.view.avs [.sl 1 ((comers co.came).length)]), .rw 129 8 (comers co.came)])])] 31 [0, 1, 2, 3, 4, 5, 6, 7, 8, 9, 10, 11] [0, 1, 5, 6, 7, 10] r (by kernel_rfl) (an u15 (an u16 (an u17 (an u18 (an u19 (an h13 (an u20 (an (viewCompare e.view.id f.view.id) (an h15 (an (ptrT116 : PtrT Tryz.prog 116) (an u21 (an u22 (an (rfI ((placeN f.view.members e.who : Nat) : Int)) (an u23 (an u24 (an (nums_at gw) (an h17 (an u28 (an u29 (an u30 (an u31 (an u32 (an ((ind_v _) : Ind (.v (.bool true))) (an (rfD (.ro 1 (nums hg))) (an (rfN (1)) (an u33 (an ((froz_numsE _) : frozR (nums f.handed) = nums f.handed) (an u34 (an (ptrT116 : PtrT Tryz.prog 116) (an ((by have k := agreesOk co f.view e ho hfs.2 hcc (by omega); rw [h23] at k; exact k) : ConM Tryz.prog 47 [.pt 0 0, .ag (f.view.avs []), .ag e.av] [.bx 122 (co.view.avs [.sl 1 ((comers co.came).length)]), .rw 129 8 (comers co.came)] (.d (.v (.bool false))) [.bx 122 (co.view.avs [.sl 1 ((comers co.came).length)]), .rw 129 8 (comers co.came)]) trivial)))))))))))))))))))))))))))))) fun ac wd r => ?_
             have r := r.foldM (u := 9) (v := 10) (m := 3) (j := jo) (vc := [((comers co.came).length) = (comers co.came : List (List DV)).length]) (M1 := [.bx 54 [.mv 1, .mv 2, .mv 3, .mv 4], .mp 49 (cl) (X1), .mp 50 (cs) (X2), .mp 51 (nc) (setE (setE (emap vk Come.d C) jo (ptrV xb)) (jo) (.pb 122 (co.view.dvs [.em 129 8 (comers co.came)]))), .mp 52 (ng) (emap sk goneD G), .bx 82 (f.lav 6), .rw 36 1 (nums f.handed), .bx 46 e.av, .dead, .dead, .nm 9 xb, .bx 124 [.u f.view.id.round, .z f.view.id.server.node, .u f.view.id.server.inc, .u e.view.id.round, .z e.view.id.server.node, .u e.view.id.server.inc]]) (M2 := [.bx 54 [.mv 1, .mv 2, .mv 3, .mv 4], .mp 49 (cl) (X1), .mp 50 (cs) (X2), .mp 51 (nc) (emap vk Come.d C), .mp 52 (ng) (emap sk goneD G), .bx 82 (f.lav 6), .rw 36 1 (nums f.handed), .bx 46 e.av, .dead, .dead, .nm 9 xb, .bx 124 [.u f.view.id.round, .z f.view.id.server.node, .u f.view.id.server.inc, .u e.view.id.round, .z e.view.id.server.node, .u e.view.id.server.inc]]) rfl (by kernel_rfl) (And.intro (by first | rfl | simp) trivial) (fun _ _ _ hM => by cases hM; exact setE_at _ (emap_at hjo)) (by rw [setE_same hjo])
             refine castM (y := .z 237) (N' := [.bx 54 [.mv 1, .mv 2, .mv 3, .mv 4], .mp 49 (cl) (X1), .mp 50 (cs) (X2), .mp 51 (nc) (emap vk Come.d C), .mp 52 (ng) (emap sk goneD G), .bx 82 (f.lav 6), .rw 36 1 (nums f.handed)]) ((by rw [viewJ5 (by omega) (by unfold viewBad; rw [hco]; first | (simp [*]; done) | (simp [*] <;> omega)) (by unfold handedAt; rw [gw]; simp only [Option.getD_some]; omega) (by unfold goneBad; simp [hhg, *]) (by unfold transitBad; simp [hco, *])])) ((by rw [viewJ5 (by omega) (by unfold viewBad; rw [hco]; first | (simp [*]; done) | (simp [*] <;> omega)) (by unfold handedAt; rw [gw]; simp only [Option.getD_some]; omega) (by unfold goneBad; simp [hhg, *]) (by unfold transitBad; simp [hco, *])]; rfl)) ?_
             exact toRetM tk mo hK rfl hbm [] 2000 [0, 1, 2, 3, 4, 5, 6] r (by kernel_rfl) trivial
            | true =>
             have v18_0 := ((keys_setE (keysV hC.ok ho.vid)) : KeysOk Tryz.prog 40 ((vk e.view.id) :: List.map (fun (e : Nat × MK × DV) => e.2.1) (setE (emap vk Come.d C) jo (ptrV xb))))
             have v18_1 := (rfl : ((vk e.view.id) : MK) = (vk e.view.id))
             have v18_2 := ((by rw [setE_keys]; exact emap_nodup (fun _ _ h => vk_inj h) hC.n) : (List.map (fun (e : Nat × MK × DV) => e.2.1) (setE (emap vk Come.d C) jo (ptrV xb))).Nodup)
             have v18_3 := (⟨⟨_, setE_at _ (emap_at hjo)⟩, rfl⟩ : (∃ b0, (setE (emap vk Come.d C) jo (ptrV xb) : List (Nat × MK × DV))[jo]? = some (b0, (vk e.view.id), ptrV xb)) ∧ outP [.bx 54 [.mv 1, .mv 2, .mv 3, .mv 4], .mp 49 (cl) (X1), .mp 50 (cs) (X2), .mp 51 (nc) (setE (emap vk Come.d C) jo (ptrV xb)), .mp 52 (ng) (emap sk goneD G), .bx 82 (f.lav 6), .rw 36 1 (nums f.handed), .bx 46 e.av, .rw 129 8 (comers co.came), .bx 122 (co.view.avs [.sl 8 ((comers co.came).length)]), .nm 9 xb] (ptrV xb) (some 10))
             have v18_4 := ((by have k := viewMay e.view hbe; rw [h12] at k; exact k) : Con Tryz.prog 41 [.ag (e.view.avs [])] (.v (.bool true)))
             have v18_5 := ((by have k := procHas e.view.members e.who (by have := ho.members; omega); rw [h14] at k; exact k) : Con Tryz.prog 42 [.d (.ro 2 (procs e.view.members)), .ag [.z e.who.node, .u e.who.inc]] (.v (.bool true)))
             have v18_6 := (viewCompare e.view.id f.view.id)
             have v18_7 := (ptrT116 : PtrT Tryz.prog 116)
             have v18_8 := ((by have k := viewSame co.view e.view (View.may_bounded hcm); rw [h16] at k; exact k) : Con Tryz.prog 44 [.ag (co.view.avs []), .ag (e.view.avs [])] (.v (.bool true)))
             have v18_9 := ((by have k := viewPlace f.view e.who hbf; rw [place_mem.2 hf.mem] at k; exact k) : Con Tryz.prog 39 [.ag (f.view.avs []), .ag [.z e.who.node, .u e.who.inc]] (.tu [.n (placeN f.view.members e.who), .v (.bool true)]))
             have v18_10 := (rfI ((placeN f.view.members e.who : Nat) : Int))
             have v18_11 := ((by first | omega | decide | (simp; done) | (simp; omega)) : (placeN f.view.members e.who) < (f.handed.length))
             have v18_12 := ((by first | rfl | (simp; done) | (simp <;> omega)) : (f.handed.length) ≤ (nums f.handed).length)
             have v18_13 := ((keysS hG.ok (q := (f.view.id, e.view.id)) ⟨hf.vid, ho.vid⟩) : KeysOk Tryz.prog 124 ((sk (f.view.id, e.view.id)) :: List.map (fun (e : Nat × MK × DV) => e.2.1) (emap sk goneD G)))
             have v18_14 := (rfl : ((sk (f.view.id, e.view.id)) : MK) = (sk (f.view.id, e.view.id)))
             have v18_15 := ((emap_nodup (fun _ _ h => sk_inj h) hG.n) : (List.map (fun (e : Nat × MK × DV) => e.2.1) (emap sk goneD G)).Nodup)
             have v18_16 := (⟨_, emap_at hjg⟩ : ∃ b0, (emap sk goneD G : List (Nat × MK × DV))[jg]? = some (b0, (sk (f.view.id, e.view.id)), .ro 1 (nums hg)))
             have v18_17 := ((by have k := specEqual hg f.handed (by omega); rw [h21] at k; exact k) : Con Tryz.prog 45 [.d (.ro 1 (nums hg)), .d (.ro 1 (nums f.handed))] (.v (.bool true)))
             have v18_18 := ((ind_v _) : Ind (.v (.bool true)))
             have v18_19 := ((by first | rfl | (simp; done) | (simp <;> omega)) : (f.handed.length) = (nums f.handed).length)
             have v18_20 := ((froz_numsE _) : frozR (nums f.handed) = nums f.handed)
             have v18_21 := ((by have k := mayTransitOk f.view e ho hfs.1 hfs.2 (View.may_ss (by assumption)).1; rw [h22] at k; exact k) : Con Tryz.prog 46 [.ag (f.view.avs []), .ag e.av] (.v (.bool true)))
             have v18_22 := ((by have k := agreesOk co f.view e ho hfs.2 hcc (by omega); rw [h23] at k; exact k) : ConM Tryz.prog 47 [.pt 0 0, .ag (f.view.avs []), .ag e.av] [.bx 122 (co.view.avs [.sl 1 ((comers co.came).length)]), .rw 129 8 (comers co.came)] (.d (.v (.bool true))) [.bx 122 (co.view.avs [.sl 1 ((comers co.came).length)]), .rw 129 8 (comers co.came)])
             have v18_23 := ((by first | rfl | (simp; done) | (simp <;> omega)) : ((comers co.came).length) = (comers co.came : List (List DV)).length)
             have v18_24 := ((by first | rfl | (simp; done) | (simp <;> omega)) : (1) = ([[.z e.who.node, .u e.who.inc, .u f.view.id.round, .z f.view.id.server.node, .u f.view.id.server.inc, .ro 2 (procs f.view.members), .ro 1 (nums f.view.starts), .ro 2 (procs e.transit)]] : List (List DV)).length)
             have v18_25 := ((by first | omega | (simp; done) | (simp <;> omega)) : (2 * (((comers co.came).length) + (1)) + 192) * 112 ≤ 281474976710656)
             have v18_26 := ((by first | omega | (simp; done) | (simp <;> omega)) : ((comers co.came).length) + (1) < 4611686018427387904)
             have v18_27 := ((by simp [OneR, AV.one, oneC, bytesR]) : OneR ([[.z e.who.node, .u e.who.inc, .u f.view.id.round, .z f.view.id.server.node, .u f.view.id.server.inc, .ro 2 (procs f.view.members), .ro 1 (nums f.view.starts), .ro 2 (procs e.transit)]]))
             refine toDrawM (todo' := aft Tryz.f19 18) (E' := [(0, .pt 0 0), (1, .pt 5 0), (5, .pt 7 0), (6, .z 0), (10, .pt 11 0)]) (M' := [.bx 54 [.mv 1, .mv 2, .mv 3, .mv 4], .mp 49 (cl) (X1), .mp 50 (cs) (X2), .mp 51 (nc) (setE (emap vk Come.d C) jo (ptrV xb)), .mp 52 (ng) (emap sk goneD G), .bx 82 (f.lav 6), .rw 36 1 (nums f.handed), .bx 46 e.av, .rw 129 8 (comers co.came ++ [[.z e.who.node, .u e.who.inc, .u f.view.id.round, .z f.view.id.server.node, .u f.view.id.server.inc, .ro 2 (procs f.view.members), .ro 1 (nums f.view.starts), .ro 2 (procs e.transit)]]), .bx 122 (co.view.avs [.sl 8 ((comers co.came).length + (1))]), .nm 9 xb, .bx 124 [.u f.view.id.round, .z f.view.id.server.node, .u f.view.id.server.inc, .u e.view.id.round, .z e.view.id.server.node, .u e.view.id.server.inc], .dead]) tk mo hK hbm [(3, [(7, .mkp (jo) (vk e.view.id) (ptrV xb) 10)]), (4, [(2, .con (.v (.bool true))), (9, .b false), (17, .con (.v (.bool true))), (29, .con (.z (e.view.id.cmp f.view.id))), (30, .b false), (42, .con (.v (.bool true)))]), (6, [(6, .con (.tu [.n (placeN f.view.members e.who), .v (.bool true)]))]), (7, [(5, .n (placeN f.view.members e.who)), (6, .ix 0 [.u hw]), (11, .b false)]), (10, [(5, .mk (jg) (sk (f.view.id, e.view.id)) (.ro 1 (nums hg)))]), (11, [(7, .call [.d (.ro 1 (nums hg)), .d (.ro 1 (nums f.handed))] (.v (.bool true)))]), (13, [(5, .con (.v (.bool true))), (17, .mem [9, 8] (.d (.v (.bool true))) [.bx 122 (co.view.avs [.sl 1 ((comers co.came).length)]), .rw 129 8 (comers co.came)])]), (18, [])] 36 2 [4] [[0, 1, 2, 3, 4, 5, 6, 7, 8, 9, 10, 11, 12], [0, 1, 2, 3, 4, 5, 6, 7, 8, 9, 10, 11, 12]] [0, 1, 5, 6, 10] r (by kernel_rfl) (an (an v18_0 (an v18_1 (an v18_2 (an v18_3 (an v18_4 (an h13 (an v18_5 (an v18_6 (an h15 (an v18_7 (an v18_8 (an v18_9 (an v18_10 (an v18_11 (an v18_12 (an (nums_at gw) (an h17 (an v18_13 (an v18_14 (an v18_15 (an v18_16 (an v18_17 (an v18_18 (an (rfD (.ro 1 (nums hg))) (an (rfN (1)) (an v18_19 (an v18_20 (an v18_21 (an v18_7 (an v18_22 (an v18_7 (an v18_23 (an v18_24 (an v18_25 (an v18_26 (an v18_27 trivial)))))))))))))))))))))))))))))))))))) (an (an v18_0 (an v18_1 (an v18_2 (an v18_3 (an v18_4 (an h13 (an v18_5 (an v18_6 (an h15 (an v18_7 (an v18_8 (an v18_9 (an v18_10 (an v18_11 (an v18_12 (an (nums_at gw) (an h17 (an v18_13 (an v18_14 (an v18_15 (an v18_16 (an v18_17 (an v18_18 (an (rfD (.ro 1 (nums hg))) (an (rfN (1)) (an v18_19 (an v18_20 (an v18_21 (an v18_7 (an v18_22 (an v18_7 (an v18_23 (an v18_24 (an v18_25 (an v18_26 (an v18_27 trivial)))))))))))))))))))))))))))))))))))) trivial)) fun ac wd r => ?_
             have r := r.stayC [(5, 8)] (p := [(f.handed.length) = (nums f.handed).length]) (M1 := [.bx 54 [.mv 1, .mv 2, .mv 3, .mv 4], .mp 49 (cl) (X1), .mp 50 (cs) (X2), .mp 51 (nc) (setE (emap vk Come.d C) jo (ptrV xb)), .mp 52 (ng) (emap sk goneD G), .bx 82 (f.view.avs [.d (.v (.bool (f.on))), .z f.stands, .u f.sent, .d (.ro 1 (frozR (nums f.handed)))]), .dead, .bx 46 e.av, .rw 129 8 (comers co.came ++ [[.z e.who.node, .u e.who.inc, .u f.view.id.round, .z f.view.id.server.node, .u f.view.id.server.inc, .ro 2 (procs f.view.members), .ro 1 (nums f.view.starts), .ro 2 (procs e.transit)]]), .bx 122 (co.view.avs [.sl 8 ((comers co.came).length + (1))]), .nm 9 xb, .bx 124 [.u f.view.id.round, .z f.view.id.server.node, .u f.view.id.server.inc, .u e.view.id.round, .z e.view.id.server.node, .u e.view.id.server.inc], .dead]) (M2 := [.bx 54 [.mv 1, .mv 2, .mv 3, .mv 4], .mp 49 (cl) (X1), .mp 50 (cs) (X2), .mp 51 (nc) (setE (emap vk Come.d C) jo (ptrV xb)), .mp 52 (ng) (emap sk goneD G), .bx 82 (f.view.avs [.d (.v (.bool (f.on))), .z f.stands, .u f.sent, .d (.ro 1 (nums f.handed))]), .dead, .bx 46 e.av, .rw 129 8 (comers co.came ++ [[.z e.who.node, .u e.who.inc, .u f.view.id.round, .z f.view.id.server.node, .u f.view.id.server.inc, .ro 2 (procs f.view.members), .ro 1 (nums f.view.starts), .ro 2 (procs e.transit)]]), .bx 122 (co.view.avs [.sl 8 ((comers co.came).length + (1))]), .nm 9 xb, .bx 124 [.u f.view.id.round, .z f.view.id.server.node, .u f.view.id.server.inc, .u e.view.id.round, .z e.view.id.server.node, .u e.view.id.server.inc], .dead]) (by kernel_rfl) (And.intro (by simp) trivial) (by kernel_rfl) (by rw [froz_numsE])
             refine toAtM (todo' := aft Tryz.f19 21) (E' := [(6, .z 0)]) (M' := [.bx 54 [.mv 1, .mv 2, .mv 3, .mv 4], .mp 49 (cl) (X1), .mp 50 (cs) (X2), .mp 51 (nc) (setE (emap vk Come.d C) jo (ptrV xb)), .mp 52 (ng) (List.modify (emap sk goneD G) (jg) fun zz => (zz.1, zz.2.1, .ro 1 (nums f.handed))), .bx 82 (e.view.avs [.d (.v (.bool (f.on))), .z 0, .d (.v (.int .u64 0)), .sl 14 (e.view.members.length)]), .dead, .bx 46 e.av, .rw 129 8 (comers co.came ++ [[.z e.who.node, .u e.who.inc, .u f.view.id.round, .z f.view.id.server.node, .u f.view.id.server.inc, .ro 2 (procs f.view.members), .ro 1 (nums f.view.starts), .ro 2 (procs e.transit)]]), .bx 122 (co.view.avs [.sl 8 ((comers co.came).length + (1))]), .nm 9 xb, .bx 124 [.u f.view.id.round, .z f.view.id.server.node, .u f.view.id.server.inc, .u e.view.id.round, .z e.view.id.server.node, .u e.view.id.server.inc], .dead, .bx 44 (e.view.avs []), .rw 36 1 (List.replicate (e.view.members.length) [.v (.int .u64 0)])]) tk mo hK hbm [(19, [(9, .mk (jg) (sk (f.view.id, e.view.id)) (.ro 1 (nums hg)))]), (20, [(3, .into 200 [(4, [(3, .z (((e.view.members.length : Nat) : Int))), (4, .n (e.view.members.length))])])])] 6 [0, 1, 2, 3, 4, 5, 6, 7, 8, 9, 10, 11, 12, 13, 14] [6] r (by kernel_rfl) (an u28 (an u29 (an u30 (an (rfl : DV.cp2 (.ro 1 (nums hg)) = true) (an u31 (an ((by first | rfl | simp [bytesR]) : (((procs e.view.members).length : Nat) : Int) = ((e.view.members.length : Nat) : Int)) (an (rfI ((e.view.members.length : Nat) : Int)) (an (rfI ((e.view.members.length : Nat) : Int)) (an ((by first | omega | decide | (simp; done) | (simp; omega)) : 8 * (e.view.members.length) ≤ 281474976710656) (an ((by first | omega | decide | (simp; done) | (simp; omega)) : (e.view.members.length) < 4611686018427387904) trivial)))))))))) fun ac wd r => ?_
             have r := r.foldM (u := 9) (v := 10) (m := 3) (j := jo) (vc := [((comers co.came).length + (1)) = (comers co.came ++ [[.z e.who.node, .u e.who.inc, .u f.view.id.round, .z f.view.id.server.node, .u f.view.id.server.inc, .ro 2 (procs f.view.members), .ro 1 (nums f.view.starts), .ro 2 (procs e.transit)]] : List (List DV)).length]) (M1 := [.bx 54 [.mv 1, .mv 2, .mv 3, .mv 4], .mp 49 (cl) (X1), .mp 50 (cs) (X2), .mp 51 (nc) (setE (setE (emap vk Come.d C) jo (ptrV xb)) (jo) (.pb 122 (co.view.dvs [.em 129 8 (comers co.came ++ [[.z e.who.node, .u e.who.inc, .u f.view.id.round, .z f.view.id.server.node, .u f.view.id.server.inc, .ro 2 (procs f.view.members), .ro 1 (nums f.view.starts), .ro 2 (procs e.transit)]])]))), .mp 52 (ng) (List.modify (emap sk goneD G) (jg) fun zz => (zz.1, zz.2.1, .ro 1 (nums f.handed))), .bx 82 (e.view.avs [.d (.v (.bool (f.on))), .z 0, .d (.v (.int .u64 0)), .sl 14 (e.view.members.length)]), .dead, .bx 46 e.av, .dead, .dead, .nm 9 xb, .bx 124 [.u f.view.id.round, .z f.view.id.server.node, .u f.view.id.server.inc, .u e.view.id.round, .z e.view.id.server.node, .u e.view.id.server.inc], .dead, .bx 44 (e.view.avs []), .rw 36 1 (List.replicate (e.view.members.length) [.v (.int .u64 0)])]) (M2 := [.bx 54 [.mv 1, .mv 2, .mv 3, .mv 4], .mp 49 (cl) (X1), .mp 50 (cs) (X2), .mp 51 (nc) (emap vk Come.d (putK C nc e.view.id ⟨e.view, cameL C e.view.id ++ [⟨e.who, f.view, e.transit⟩]⟩)), .mp 52 (ng) (List.modify (emap sk goneD G) (jg) fun zz => (zz.1, zz.2.1, .ro 1 (nums f.handed))), .bx 82 (e.view.avs [.d (.v (.bool (f.on))), .z 0, .d (.v (.int .u64 0)), .sl 14 (e.view.members.length)]), .dead, .bx 46 e.av, .dead, .dead, .nm 9 xb, .bx 124 [.u f.view.id.round, .z f.view.id.server.node, .u f.view.id.server.inc, .u e.view.id.round, .z e.view.id.server.node, .u e.view.id.server.inc], .dead, .bx 44 (e.view.avs []), .rw 36 1 (List.replicate (e.view.members.length) [.v (.int .u64 0)])]) rfl (by kernel_rfl) (And.intro (by first | rfl | simp) trivial) (fun _ _ _ hM => by cases hM; exact setE_at _ (emap_at hjo)) (by rw [comers_app co.came ⟨e.who, f.view, e.transit⟩, came_fold hjo, putK_old hC.n hjo (by assumption), cameL_old hco, hcv])
             refine castM (y := .z 0) (N' := [.bx 54 [.mv 1, .mv 2, .mv 3, .mv 4], .mp 49 (cl) (X1), .mp 50 (cs) (X2), .mp 51 (nc) (emap vk Come.d (putK C nc e.view.id ⟨e.view, cameL C e.view.id ++ [⟨e.who, f.view, e.transit⟩]⟩)), .mp 52 (ng) (List.modify (emap sk goneD G) (jg) fun zz => (zz.1, zz.2.1, .ro 1 (nums f.handed))), .bx 82 (e.view.avs [.d (.v (.bool (f.on))), .z 0, .d (.v (.int .u64 0)), .sl 7 (e.view.members.length)]), .dead, .rw 36 1 (List.replicate (e.view.members.length) [.v (.int .u64 0)])]) ((by rw [viewJ6 (by omega) (by unfold viewBad; rw [hco]; first | (simp [*]; done) | (simp [*] <;> omega)) (by unfold handedAt; rw [gw]; simp only [Option.getD_some]; omega) (by unfold goneBad; simp [hhg, *]) (by unfold transitBad; simp [hco, *])]; rfl)) ((by rw [viewJ6 (by omega) (by unfold viewBad; rw [hco]; first | (simp [*]; done) | (simp [*] <;> omega)) (by unfold handedAt; rw [gw]; simp only [Option.getD_some]; omega) (by unfold goneBad; simp [hhg, *]) (by unfold transitBad; simp [hco, *])]; unfold viewOkJ; dsimp only; rw [putOldC (q := e.view.id) (by assumption), putOld hG.n hjg (by assumption), putOldC (q := (f.view.id, e.view.id)) (by assumption), nums_zero, lifeM_enter]; rfl)) ?_
             exact toRetM tk mo hK rfl hbm [] 2000 [0, 1, 2, 3, 4, 5, 6, 14] r (by kernel_rfl) trivial
        | true =>
         have qh17 : ¬ _ = _ := bne_iff_ne.1 h17
         refine toAtM (todo' := aft Tryz.f19 8) (E' := [(0, .pt 0 0), (1, .pt 5 0), (5, .pt 7 0), (6, .z 235), (7, .pt 9 0)]) (M' := [.bx 54 [.mv 1, .mv 2, .mv 3, .mv 4], .mp 49 (cl) (X1), .mp 50 (cs) (X2), .mp 51 (nc) (setE (emap vk Come.d C) jo (ptrV xb)), .mp 52 (ng) (emap sk goneD G), .bx 82 (f.lav 6), .rw 36 1 (nums f.handed), .bx 46 e.av, .rw 129 8 (comers co.came), .bx 122 (co.view.avs [.sl 8 ((comers co.came).length)]), .nm 9 xb]) tk mo hK hbm [(3, [(7, .mkp (jo) (vk e.view.id) (ptrV xb) 10)]), (4, [(2, .con (.v (.bool true))), (9, .b false), (17, .con (.v (.bool true))), (29, .con (.z (e.view.id.cmp f.view.id))), (30, .b false), (42, .con (.v (.bool true)))]), (6, [(6, .con (.tu [.n (placeN f.view.members e.who), .v (.bool true)]))]), (7, [(5, .n (placeN f.view.members e.who)), (6, .ix 0 [.u hw]), (11, .b true)])] 17 [0, 1, 2, 3, 4, 5, 6, 7, 8, 9, 10] [0, 1, 5, 6, 7] r (by kernel_rfl) (an u15 (an u16 (an u17 (an u18 (an u19 (an h13 (an u20 (an (viewCompare e.view.id f.view.id) (an h15 (an (ptrT116 : PtrT Tryz.prog 116) (an u21 (an u22 (an (rfI ((placeN f.view.members e.who : Nat) : Int)) (an u23 (an u24 (an (nums_at gw) (an h17 trivial))))))))))))))))) fun ac wd r => ?_
         have r := r.foldM (u := 9) (v := 10) (m := 3) (j := jo) (vc := [((comers co.came).length) = (comers co.came : List (List DV)).length]) (M1 := [.bx 54 [.mv 1, .mv 2, .mv 3, .mv 4], .mp 49 (cl) (X1), .mp 50 (cs) (X2), .mp 51 (nc) (setE (setE (emap vk Come.d C) jo (ptrV xb)) (jo) (.pb 122 (co.view.dvs [.em 129 8 (comers co.came)]))), .mp 52 (ng) (emap sk goneD G), .bx 82 (f.lav 6), .rw 36 1 (nums f.handed), .bx 46 e.av, .dead, .dead, .nm 9 xb]) (M2 := [.bx 54 [.mv 1, .mv 2, .mv 3, .mv 4], .mp 49 (cl) (X1), .mp 50 (cs) (X2), .mp 51 (nc) (emap vk Come.d C), .mp 52 (ng) (emap sk goneD G), .bx 82 (f.lav 6), .rw 36 1 (nums f.handed), .bx 46 e.av, .dead, .dead, .nm 9 xb]) rfl (by kernel_rfl) (And.intro (by first | rfl | simp) trivial) (fun _ _ _ hM => by cases hM; exact setE_at _ (emap_at hjo)) (by rw [setE_same hjo])
         refine castM (y := .z 235) (N' := [.bx 54 [.mv 1, .mv 2, .mv 3, .mv 4], .mp 49 (cl) (X1), .mp 50 (cs) (X2), .mp 51 (nc) (emap vk Come.d C), .mp 52 (ng) (emap sk goneD G), .bx 82 (f.lav 6), .rw 36 1 (nums f.handed)]) ((by rw [viewJ3 (by omega) (by unfold viewBad; rw [hco]; first | (simp [*]; done) | (simp [*] <;> omega)) (by unfold handedAt; rw [gw]; simp only [Option.getD_some]; omega)])) ((by rw [viewJ3 (by omega) (by unfold viewBad; rw [hco]; first | (simp [*]; done) | (simp [*] <;> omega)) (by unfold handedAt; rw [gw]; simp only [Option.getD_some]; omega)]; rfl)) ?_
         exact toRetM tk mo hK rfl hbm [] 2000 [0, 1, 2, 3, 4, 5, 6] r (by kernel_rfl) trivial
      | true =>
       have qh15 := of_decide_eq_true h15
       refine toAtM (todo' := aft Tryz.f19 5) (E' := [(0, .pt 0 0), (1, .pt 5 0), (5, .pt 7 0), (6, .z 234), (7, .pt 9 0)]) (M' := [.bx 54 [.mv 1, .mv 2, .mv 3, .mv 4], .mp 49 (cl) (X1), .mp 50 (cs) (X2), .mp 51 (nc) (setE (emap vk Come.d C) jo (ptrV xb)), .mp 52 (ng) (emap sk goneD G), .bx 82 (f.lav 6), .rw 36 1 (nums f.handed), .bx 46 e.av, .rw 129 8 (comers co.came), .bx 122 (co.view.avs [.sl 8 ((comers co.came).length)]), .nm 9 xb]) tk mo hK hbm [(3, [(7, .mkp (jo) (vk e.view.id) (ptrV xb) 10)]), (4, [(2, .con (.v (.bool true))), (9, .b false), (17, .con (.v (.bool true))), (29, .con (.z (e.view.id.cmp f.view.id))), (30, .b true)])] 10 [0, 1, 2, 3, 4, 5, 6, 7, 8, 9, 10] [0, 1, 5, 6, 7] r (by kernel_rfl) (an u15 (an u16 (an u17 (an u18 (an u19 (an h13 (an u20 (an (viewCompare e.view.id f.view.id) (an h15 trivial))))))))) fun ac wd r => ?_
       have r := r.foldM (u := 9) (v := 10) (m := 3) (j := jo) (vc := [((comers co.came).length) = (comers co.came : List (List DV)).length]) (M1 := [.bx 54 [.mv 1, .mv 2, .mv 3, .mv 4], .mp 49 (cl) (X1), .mp 50 (cs) (X2), .mp 51 (nc) (setE (setE (emap vk Come.d C) jo (ptrV xb)) (jo) (.pb 122 (co.view.dvs [.em 129 8 (comers co.came)]))), .mp 52 (ng) (emap sk goneD G), .bx 82 (f.lav 6), .rw 36 1 (nums f.handed), .bx 46 e.av, .dead, .dead, .nm 9 xb]) (M2 := [.bx 54 [.mv 1, .mv 2, .mv 3, .mv 4], .mp 49 (cl) (X1), .mp 50 (cs) (X2), .mp 51 (nc) (emap vk Come.d C), .mp 52 (ng) (emap sk goneD G), .bx 82 (f.lav 6), .rw 36 1 (nums f.handed), .bx 46 e.av, .dead, .dead, .nm 9 xb]) rfl (by kernel_rfl) (And.intro (by first | rfl | simp) trivial) (fun _ _ _ hM => by cases hM; exact setE_at _ (emap_at hjo)) (by rw [setE_same hjo])
       refine castM (y := .z 234) (N' := [.bx 54 [.mv 1, .mv 2, .mv 3, .mv 4], .mp 49 (cl) (X1), .mp 50 (cs) (X2), .mp 51 (nc) (emap vk Come.d C), .mp 52 (ng) (emap sk goneD G), .bx 82 (f.lav 6), .rw 36 1 (nums f.handed)]) ((by rw [viewJ2 (by omega) (by unfold viewBad; rw [hco]; first | (simp [*]; done) | (simp [*] <;> omega))])) ((by rw [viewJ2 (by omega) (by unfold viewBad; rw [hco]; first | (simp [*]; done) | (simp [*] <;> omega))]; rfl)) ?_
       exact toRetM tk mo hK rfl hbm [] 2000 [0, 1, 2, 3, 4, 5, 6] r (by kernel_rfl) trivial
    | true =>
     have qh13 := eq_of_beq h13
     refine toAtM (todo' := aft Tryz.f19 5) (E' := [(0, .pt 0 0), (1, .pt 5 0), (5, .pt 7 0), (6, .z 234), (7, .pt 9 0)]) (M' := [.bx 54 [.mv 1, .mv 2, .mv 3, .mv 4], .mp 49 (cl) (X1), .mp 50 (cs) (X2), .mp 51 (nc) (setE (emap vk Come.d C) jo (ptrV xb)), .mp 52 (ng) (emap sk goneD G), .bx 82 (f.lav 6), .rw 36 1 (nums f.handed), .bx 46 e.av, .rw 129 8 (comers co.came), .bx 122 (co.view.avs [.sl 8 ((comers co.came).length)]), .nm 9 xb]) tk mo hK hbm [(3, [(7, .mkp (jo) (vk e.view.id) (ptrV xb) 10)]), (4, [(2, .con (.v (.bool true))), (9, .b true)])] 10 [0, 1, 2, 3, 4, 5, 6, 7, 8, 9, 10] [0, 1, 5, 6, 7] r (by kernel_rfl) (an u15 (an u16 (an u17 (an u18 (an u19 (an h13 trivial)))))) fun ac wd r => ?_
     have r := r.foldM (u := 9) (v := 10) (m := 3) (j := jo) (vc := [((comers co.came).length) = (comers co.came : List (List DV)).length]) (M1 := [.bx 54 [.mv 1, .mv 2, .mv 3, .mv 4], .mp 49 (cl) (X1), .mp 50 (cs) (X2), .mp 51 (nc) (setE (setE (emap vk Come.d C) jo (ptrV xb)) (jo) (.pb 122 (co.view.dvs [.em 129 8 (comers co.came)]))), .mp 52 (ng) (emap sk goneD G), .bx 82 (f.lav 6), .rw 36 1 (nums f.handed), .bx 46 e.av, .dead, .dead, .nm 9 xb]) (M2 := [.bx 54 [.mv 1, .mv 2, .mv 3, .mv 4], .mp 49 (cl) (X1), .mp 50 (cs) (X2), .mp 51 (nc) (emap vk Come.d C), .mp 52 (ng) (emap sk goneD G), .bx 82 (f.lav 6), .rw 36 1 (nums f.handed), .bx 46 e.av, .dead, .dead, .nm 9 xb]) rfl (by kernel_rfl) (And.intro (by first | rfl | simp) trivial) (fun _ _ _ hM => by cases hM; exact setE_at _ (emap_at hjo)) (by rw [setE_same hjo])
     refine castM (y := .z 234) (N' := [.bx 54 [.mv 1, .mv 2, .mv 3, .mv 4], .mp 49 (cl) (X1), .mp 50 (cs) (X2), .mp 51 (nc) (emap vk Come.d C), .mp 52 (ng) (emap sk goneD G), .bx 82 (f.lav 6), .rw 36 1 (nums f.handed)]) ((by rw [viewJ2 (by omega) (by unfold viewBad; rw [hco]; first | (simp [*]; done) | (simp [*] <;> omega))])) ((by rw [viewJ2 (by omega) (by unfold viewBad; rw [hco]; first | (simp [*]; done) | (simp [*] <;> omega))]; rfl)) ?_
     exact toRetM tk mo hK rfl hbm [] 2000 [0, 1, 2, 3, 4, 5, 6] r (by kernel_rfl) trivial
  | true =>
   have qh11 : ¬ _ = _ := bne_iff_ne.1 h11
   refine toAtM (todo' := aft Tryz.f19 1) (E' := [(0, .pt 0 0), (1, .pt 5 0), (5, .pt 7 0), (6, .z 0), (17, .d (.v (.bool true)))]) (M' := [.bx 54 [.mv 1, .mv 2, .mv 3, .mv 4], .mp 49 (cl) (X1), .mp 50 (cs) (X2), .mp 51 (nc) (emap vk Come.d C), .mp 52 (ng) (emap sk goneD G), .bx 82 (f.lav 6), .rw 36 1 (nums f.handed), .bx 46 e.av]) tk mo hK hbm [(1, [(4, .b true)])] 5 [0, 1, 2, 3, 4, 5, 6, 7] [0, 1, 5, 6, 17] r (by kernel_rfl) (an h11 trivial) fun ac wd r => ?_
   refine toAtM (todo' := aft Tryz.f19 2) (E' := [(0, .pt 0 0), (1, .pt 5 0), (5, .pt 7 0), (6, .z 231)]) (M' := [.bx 54 [.mv 1, .mv 2, .mv 3, .mv 4], .mp 49 (cl) (X1), .mp 50 (cs) (X2), .mp 51 (nc) (emap vk Come.d C), .mp 52 (ng) (emap sk goneD G), .bx 82 (f.lav 6), .rw 36 1 (nums f.handed), .bx 46 e.av]) tk mo hK hbm [] 3 [0, 1, 2, 3, 4, 5, 6, 7] [0, 1, 5, 6] r (by kernel_rfl) trivial fun ac wd r => ?_
   refine castM (y := .z 231) (N' := [.bx 54 [.mv 1, .mv 2, .mv 3, .mv 4], .mp 49 (cl) (X1), .mp 50 (cs) (X2), .mp 51 (nc) (emap vk Come.d C), .mp 52 (ng) (emap sk goneD G), .bx 82 (f.lav 6), .rw 36 1 (nums f.handed)]) ((by rw [viewJ1 (by omega)])) ((by rw [viewJ1 (by omega)]; rfl)) ?_
   exact toRetM tk mo hK rfl hbm [] 2000 [0, 1, 2, 3, 4, 5, 6] r (by kernel_rfl) trivial
end Go.Proofs.YtilhbhpldkjkaaaGreat
namespace Go.Proofs.YtilhbhpldkjkaaaGreat
open Go.RowKit
theorem Con.frozen {P : Program} {f : FuncId} {args : List AV} {x : DV} (h : Con P f args x) : Con P f args (froz x) := by
 refine ⟨h.1, fun w K ys hK hl hr => (h.2 w K ys hK hl hr).mono ?_⟩
 rintro ed w' ⟨v, rfl, g, H, ⟨Ho, Hi, rfl, hd⟩, n⟩
 exact ⟨_, rfl, g, _, ⟨[], Ho ++ Hi, rfl, froz_ok hd fun w hw => ⟨⟨hw.1, (Holds.app.1 hw.2).2⟩, (Holds.app.1 hw.2).1⟩⟩, n⟩
theorem nodup_few {α : Type} [DecidableEq α] : ∀ {l m : List α}, l.Nodup → (∀ x ∈ l, x ∈ m) → l.length ≤ m.length
 | [], _, _, _ => by simp
 | x :: l, m, hn, h => by
  rw [List.nodup_cons] at hn
  have hx := h x List.mem_cons_self
  have := nodup_few (l := l) (m := m.erase x) hn.2 fun y hy => (List.mem_erase_of_ne (fun e => hn.1 (by rw [← e]; exact hy))).2 (h y (List.mem_cons_of_mem _ hy))
  have hp : 0 < m.length := List.length_pos_of_mem hx
  rw [List.length_erase_of_mem hx] at this
  simp; omega
abbrev Lives := List (Nat × Proc × Life)
structure LivesOk (L : Lives) (nl : Nat) : Prop where
 n : keysN L
 ok : ∀ x ∈ L, x.2.1.okP
 born : (L.map fun x => x.1).Nodup
 lt : ∀ x ∈ L, x.1 < nl
 nodes : L.Pairwise fun x y => x.2.1.node ≠ y.2.1.node
 life : ∀ x ∈ L, x.2.2.Ok x.2.1
def endsB (L : Lives) (p : Proc) : Bool := L.any fun x => decide (x.2.1.node = p.node) && (x.2.2.on || decide (p.inc ≤ x.2.1.inc))
def others (L : Lives) (p : Proc) : Lives := L.filter fun x => decide (x.2.1.node ≠ p.node)
def Life.new (p : Proc) : Life := ⟨View.first p, true, 0, 0, [0]⟩
structure BegR where
 err : Int
 L : Lives
 nl : Nat
def beginJ (L : Lives) (nl : Nat) (p : Proc) : BegR :=
 if p.may = false then ⟨230, L, nl⟩ else if endsB L p = true then ⟨230, L, nl⟩ else ⟨0, others L p ++ [(nl, p, Life.new p)], nl + 1⟩
theorem beginJ1 {L : Lives} {nl : Nat} {p : Proc} (h : p.may = false) : beginJ L nl p = ⟨230, L, nl⟩ := by unfold beginJ; rw [if_pos h]
theorem beginJ2 {L : Lives} {nl : Nat} {p : Proc} (h2 : endsB L p = true) : beginJ L nl p = ⟨230, L, nl⟩ := by unfold beginJ; rw [if_pos h2]; split <;> rfl
theorem beginJ3 {L : Lives} {nl : Nat} {p : Proc} (h : p.may = true) (h2 : endsB L p = false) : beginJ L nl p = ⟨0, others L p ++ [(nl, p, Life.new p)], nl + 1⟩ := by unfold beginJ; rw [if_neg (by rw [h]; decide), if_neg (by rw [h2]; decide)]
def begL (L : Lives) (p : Proc) (sn : List Nat) : Lives := L.filter fun x => !(decide (x.1 ∈ sn) && decide (x.2.1.node = p.node))
theorem begL_nil (L : Lives) (p : Proc) : begL L p [] = L := by unfold begL; rw [List.filter_eq_self]; intro x _; simp
structure BegI (L : Lives) (p : Proc) (sn : List Nat) (i : Nat) : Prop where
 len : sn.length = i
 nd : sn.Nodup
 sub : ∀ b ∈ sn, b ∈ L.map fun x => x.1
 ok : ∀ x ∈ L, x.1 ∈ sn → x.2.1.node = p.node → x.2.2.on = false ∧ x.2.1.inc < p.inc
theorem BegI.start (L : Lives) (p : Proc) : BegI L p [] 0 := ⟨rfl, List.nodup_nil, by simp, by simp⟩
section
variable {L : Lives} {nl i jj b : Nat} {p q : Proc} {f : Life} {sn : List Nat}
theorem begL_mem {x : Nat × Proc × Life} (h : x ∈ begL L p sn) : x ∈ L := (List.mem_filter.1 h).1
theorem BegI.less (h : BegI L p sn i) (hq : (begL L p sn)[jj]? = some (b, q, f)) (hb : b ∉ sn) : i < L.length := by
 have h1 : ∀ c ∈ b :: sn, c ∈ L.map fun x => x.1 := fun c hc => by
  rcases List.mem_cons.1 hc with rfl | hc
  ·exact List.mem_map.2 ⟨_, begL_mem (List.mem_of_getElem? hq), rfl⟩
  ·exact h.sub c hc
 have := nodup_few (List.nodup_cons.2 ⟨hb, h.nd⟩) h1
 rw [List.length_cons, h.len, List.length_map] at this; omega
theorem uniq (hL : LivesOk L nl) {x y : Nat × Proc × Life} (hx : x ∈ L) (hy : y ∈ L) (h : x.2.1.node = y.2.1.node) : x = y := by
 obtain ⟨i, hi, rfl⟩ := List.getElem_of_mem hx
 obtain ⟨j, hj, rfl⟩ := List.getElem_of_mem hy
 rcases Nat.lt_trichotomy i j with hlt | heq | hgt
 ·exact absurd h (List.pairwise_iff_getElem.1 hL.nodes i j hi hj hlt)
 ·subst heq; rfl
 ·exact absurd h.symm (List.pairwise_iff_getElem.1 hL.nodes j i hj hi hgt)
theorem born_uniq (hL : LivesOk L nl) {x y : Nat × Proc × Life} (hx : x ∈ L) (hy : y ∈ L) (h : x.1 = y.1) : x = y := by
 obtain ⟨i, hi, rfl⟩ := List.getElem_of_mem hx
 obtain ⟨j, hj, rfl⟩ := List.getElem_of_mem hy
 have : i = j := (List.getElem?_inj (by simpa using hi) hL.born).1 (by rw [List.getElem?_map, List.getElem?_map, List.getElem?_eq_getElem hi, List.getElem?_eq_getElem hj]; simp [h])
 subst this; rfl
theorem begL_pass (hL : LivesOk L nl) (hq : (begL L p sn)[jj]? = some (b, q, f)) (hn : q.node ≠ p.node) : begL L p (sn ++ [b]) = begL L p sn := by
 unfold begL
 apply List.filter_congr; intro x hx
 by_cases h1 : x.1 = b
 ·have := born_uniq hL hx (begL_mem (List.mem_of_getElem? hq)) h1
  subst this; simp [hn]
 ·simp [h1]
theorem BegI.pass (h : BegI L p sn i) (hL : LivesOk L nl) (hq : (begL L p sn)[jj]? = some (b, q, f)) (hb : b ∉ sn) (hok : q.node = p.node → f.on = false ∧ q.inc < p.inc) : BegI L p (sn ++ [b]) (i + 1) where
 len := by simp [h.len]
 nd := List.nodup_append.2 ⟨h.nd, by simp, fun a ha c hc e => by simp at hc; subst hc; subst e; exact hb ha⟩
 sub := fun c hc => by
  rcases List.mem_append.1 hc with hc | hc
  ·exact h.sub c hc
  ·simp at hc; subst hc; exact List.mem_map.2 ⟨_, begL_mem (List.mem_of_getElem? hq), rfl⟩
 ok := fun x hx hs hn => by
  rcases List.mem_append.1 hs with hs | hs
  ·exact h.ok x hx hs hn
  ·simp at hs
   have := born_uniq hL hx (begL_mem (List.mem_of_getElem? hq)) hs
   subst this; exact hok hn
theorem begL_cut (hL : LivesOk L nl) (hq : (begL L p sn)[jj]? = some (b, q, f)) (hn : q.node = p.node) : (begL L p sn).eraseIdx jj = begL L p (sn ++ [b]) := by
 have hmem := begL_mem (List.mem_of_getElem? hq)
 have h1 : begL L p (sn ++ [b]) = (begL L p sn).filter fun x => !(decide (x.1 = b)) := by
  unfold begL
  rw [List.filter_filter]
  apply List.filter_congr; intro x hx
  by_cases h1 : x.1 = b
  ·have := born_uniq hL hx hmem h1
   subst this; simp [hn]
  ·simp [h1]
 rw [h1]
 have hnd : ((begL L p sn).map fun x => x.1).Nodup := (List.Sublist.map _ List.filter_sublist).nodup hL.born
 generalize begL L p sn = M at hq hnd
 clear h1
 induction M generalizing jj with
 | nil => simp at hq
 | cons y r ih =>
  simp only [List.map_cons, List.nodup_cons] at hnd
  cases jj with
  | zero =>
   simp at hq; subst hq
   rw [List.eraseIdx_cons_zero, List.filter_cons_of_neg (by simp), eq_comm, List.filter_eq_self]
   intro x hx
   have : x.1 ≠ b := fun e => hnd.1 (List.mem_map.2 ⟨x, hx, e⟩)
   simpa using this
  | succ j =>
   simp at hq
   have : y.1 ≠ b := fun e => hnd.1 (by rw [e]; exact List.mem_map.2 ⟨_, List.mem_of_getElem? hq, rfl⟩)
   rw [List.eraseIdx_cons_succ, List.filter_cons_of_pos (by simpa using this), ih hq hnd.2]
theorem begL_whole (hL : LivesOk L nl) (hq : (begL L p sn)[jj]? = some (b, q, f)) (hb : b ∉ sn) (hn : q.node = p.node) : begL L p sn = L := by
 have hmem := begL_mem (List.mem_of_getElem? hq)
 unfold begL; rw [List.filter_eq_self]; intro x hx
 by_cases h : x.2.1.node = p.node
 ·have := uniq hL hx hmem (h.trans hn.symm)
  subst this; simp [hb]
 ·simp [h]
theorem ends_yes (hq : (begL L p sn)[jj]? = some (b, q, f)) (hn : q.node = p.node) (h : f.on = true ∨ p.inc ≤ q.inc) : endsB L p = true := by
 unfold endsB; rw [List.any_eq_true]
 exact ⟨_, begL_mem (List.mem_of_getElem? hq), by simp [hn]; exact h⟩
theorem beg_end (hall : ∀ e ∈ emap pk Life.d (begL L p sn), e.1 ∈ sn) : begL L p sn = others L p := by
 have h1 : ∀ x ∈ begL L p sn, x.1 ∈ sn := fun x hx => hall (x.1, pk x.2.1, x.2.2.d) (List.mem_map.2 ⟨x, hx, rfl⟩)
 unfold begL others
 apply List.filter_congr; intro x hx
 by_cases h : x.2.1.node = p.node
 ·by_cases h2 : x.1 ∈ sn
  ·simp [h, h2]
  ·exact absurd (h1 x (List.mem_filter.2 ⟨hx, by simp [h2]⟩)) h2
 ·simp [h]
theorem ends_no (h : BegI L p sn i) (hall : ∀ e ∈ emap pk Life.d (begL L p sn), e.1 ∈ sn) : endsB L p = false := by
 have h1 : ∀ x ∈ begL L p sn, x.1 ∈ sn := fun x hx => hall (x.1, pk x.2.1, x.2.2.d) (List.mem_map.2 ⟨x, hx, rfl⟩)
 cases he : endsB L p with
 | false => rfl
 | true =>
  unfold endsB at he; rw [List.any_eq_true] at he
  obtain ⟨x, hx, hc⟩ := he
  simp only [Bool.and_eq_true, decide_eq_true_eq, Bool.or_eq_true] at hc
  have hs : x.1 ∈ sn := by
   by_cases h2 : x.1 ∈ sn
   ·exact h2
   ·exact h1 x (List.mem_filter.2 ⟨hx, by simp [h2]⟩)
  obtain ⟨g1, g2⟩ := h.ok x hx hs hc.1
  rcases hc.2 with g | g
  ·rw [g1] at g; cases g
  ·omega
theorem others_fresh : getK (others L p) p = none := by
 unfold getK; rw [Option.map_eq_none_iff, List.find?_eq_none]
 intro x hx
 have := (List.mem_filter.1 hx).2
 simp at this ⊢
 intro e; exact this (by rw [e])
theorem others_sub {x : Nat × Proc × Life} (h : x ∈ others L p) : x ∈ L := (List.mem_filter.1 h).1
theorem begL_lt (hL : LivesOk L nl) : ∀ e ∈ emap pk Life.d (begL L p sn), e.1 < nl := fun e he => by
 obtain ⟨x, hx, rfl⟩ := List.mem_map.1 he
 exact hL.lt x (begL_mem hx)
theorem setE_born (es : List (Nat × MK × DV)) (j : Nat) (z : DV) : List.map (fun (e : Nat × MK × DV) => e.1) (setE es j z) = List.map (fun (e : Nat × MK × DV) => e.1) es := by
 unfold setE
 apply List.ext_getElem?; intro i
 simp only [List.getElem?_modify, List.getElem?_map]
 by_cases e : j = i
 ·subst e; cases es[j]? <;> simp
 ·simp only [if_neg e]; cases es[i]? <;> simp
theorem begL_born (hL : LivesOk L nl) (j : Nat) (z : DV) : (List.map (fun (e : Nat × MK × DV) => e.1) (setE (emap pk Life.d (begL L p sn)) j z)).Nodup := by
 rw [setE_born, emap_born]; exact (List.Sublist.map _ List.filter_sublist).nodup hL.born
theorem begL_keys (hL : LivesOk L nl) (j : Nat) (z : DV) : (List.map (fun (e : Nat × MK × DV) => e.2.1) (setE (emap pk Life.d (begL L p sn)) j z)).Nodup := by
 rw [setE_keys]; exact emap_nodup (fun _ _ h => pk_inj h) ((List.Sublist.map _ List.filter_sublist).nodup hL.n)
theorem setE_erase (es : List (Nat × MK × DV)) (j : Nat) (z : DV) : (setE es j z).eraseIdx j = es.eraseIdx j := by
 unfold setE
 apply List.ext_getElem?; intro i
 rw [List.getElem?_eraseIdx, List.getElem?_eraseIdx]
 split
 ·rename_i hi; simp [List.getElem?_modify, show ¬ j = i by omega]
 ·rename_i hi; simp [List.getElem?_modify, show ¬ j = i + 1 by omega]
theorem emap_erase {κ α : Type} (k : κ → MK) (d : α → DV) (l : List (Nat × κ × α)) (j : Nat) : (emap k d l).eraseIdx j = emap k d (l.eraseIdx j) := by
 unfold emap; rw [eraseIdx_map']
end
theorem viewFirstR (p : Proc) : Con Tryz.prog 38 [.ag [.z p.node, .u p.inc]] (.ag [.u (View.first p).id.round, .z (View.first p).id.server.node, .u (View.first p).id.server.inc, .ro 2 (procs (View.first p).members), .ro 1 (nums (View.first p).starts)]) := by
 have h := (viewFirst p).frozen
 simp only [froz, frozL, froz_procs, froz_numsE] at h
 exact h
set_option maxRecDepth 100000 in
theorem beginOk (X2 X3 X4 : List (Nat × MK × DV)) (cs cc cg : Nat) (L : Lives) (nl : Nat) (p : Proc) (hp : p.okP) (hL : LivesOk L nl) : ConM Tryz.prog 15 [.pt 0 0, .ag [.z p.node, .u p.inc]] [.bx 54 [.mv 1, .mv 2, .mv 3, .mv 4], .mp 49 (nl) (emap pk Life.d L), .mp 50 (cs) (X2), .mp 51 (cc) (X3), .mp 52 (cg) (X4)] (.d (.z (beginJ L nl p).err)) ([.bx 54 [.mv 1, .mv 2, .mv 3, .mv 4], .mp 49 ((beginJ L nl p).nl) (emap pk Life.d (beginJ L nl p).L), .mp 50 (cs) (X2), .mp 51 (cc) (X3), .mp 52 (cg) (X4)]) := by
 have hf1 : (View.first p).members.length = 1 := rfl
 refine ConM.intro (by kernel_rfl) rfl rfl 54 rfl rfl fun D w0 K bs ac wd hK (hbm : bs.m = 5) r => ?_
 cases h0 : (p.may) with
 | false =>
  refine castM (y := .z 230) (N' := [.bx 54 [.mv 1, .mv 2, .mv 3, .mv 4], .mp 49 (nl) (emap pk Life.d L), .mp 50 (cs) (X2), .mp 51 (cc) (X3), .mp 52 (cg) (X4)]) ((by rw [beginJ1 (by assumption)])) ((by rw [beginJ1 (by assumption)])) ?_
  exact toRetM tk mo hK rfl hbm [(1, [(1, .con (.v (.bool false)))])] 2000 [0, 1, 2, 3, 4] r (by kernel_rfl) (an ((by have k := procMay p; rw [h0] at k; exact k) : Con Tryz.prog 36 [.ag [.z p.node, .u p.inc]] (.v (.bool false))) trivial)
 | true =>
  refine toHeadM (todo' := hd Tryz.f15 0) (E' := [(0, .pt 0 0), (3, .pt 5 0), (15, .pt 6 0)]) (M' := [.bx 54 [.mv 1, .mv 2, .mv 3, .mv 4], .mp 49 (nl) (emap pk Life.d L), .mp 50 (cs) (X2), .mp 51 (cc) (X3), .mp 52 (cg) (X4), .bx 38 [.z p.node, .u p.inc], .it (some 1) (nl) ([]) (nl)]) tk mo hK hbm [(1, [(1, .con (.v (.bool true)))])] 2000 [0, 1, 2, 3, 4, 5, 6] [0, 3, 15] r (by kernel_rfl) (an ((by have k := procMay p; rw [h0] at k; exact k) : Con Tryz.prog 36 [.ag [.z p.node, .u p.inc]] (.v (.bool true))) trivial) fun ac wd r => ?_
  refine Goes.rounds (Φ := fun (i : Nat) ac wd => ∃ sn : List Nat, (BegI L p sn i) ∧ RB D w0 K 54 bs [(0, .pt 0 0), (3, .pt 5 0), (15, .pt 6 0)] [.bx 54 [.mv 1, .mv 2, .mv 3, .mv 4], .mp 49 (nl) (emap pk Life.d (begL L p sn)), .mp 50 (cs) (X2), .mp 51 (cc) (X3), .mp 52 (cg) (X4), .bx 38 [.z p.node, .u p.inc], .it (some 1) (nl) (sn) (nl)] ac wd) (L.length) ?_ (Nat.zero_le _) ⟨[], (BegI.start L p), (r).cast rfl (by rw [begL_nil])⟩
  clear r
  rintro i hi0 again0 ac wd ⟨sn, hv0, r⟩
  refine toNextM (id := 4) (t := 15) (d1 := 16) (d2 := 17) (ui := 6) (um := 1) (since := nl) (c := nl) (T' := 49) (ck := nl) (seen := sn) (es := emap pk Life.d (begL L p sn)) (k := aft Tryz.f15 4) (ops := ops Tryz.f15 4) tk mo hK 1 r (by kernel_rfl) (by kernel_rfl) (by kernel_rfl) ⟨by kernel_rfl, by kernel_rfl⟩ (by kernel_rfl) (by kernel_rfl) (by kernel_rfl) (begL_lt hL) (Nat.le_refl _) (fun hall4 ac wd r => ?_) (fun jj4 bb4 kk4 xx4 hj4 hb4 ac wd r => ?_)
  ·
   refine toAtM (todo' := aft Tryz.f15 11) (E' := [(0, .pt 0 0), (3, .pt 5 0), (7, .pt 7 0)]) (M' := [.bx 54 [.mv 1, .mv 2, .mv 3, .mv 4], .mp 49 (nl) (emap pk Life.d (begL L p sn)), .mp 50 (cs) (X2), .mp 51 (cc) (X3), .mp 52 (cg) (X4), .bx 38 [.z p.node, .u p.inc], .it (some 1) (nl) (sn) (nl), .bx 82 ((View.first p).avs [.d (.v (.bool true)), .z 0, .d (.v (.int .u64 0)), .sl 9 ((procs (View.first p).members).length)]), .bx 44 ((View.first p).avs []), .rw 36 1 (List.replicate ((procs (View.first p).members).length) [.v (.int .u64 0)])]) tk mo hK hbm [(11, [(2, .con (.ag ((View.first p).dvs []))), (3, .into 200 [(4, [(4, .n ((procs (View.first p).members).length))])])])] 7 [0, 1, 2, 3, 4, 5, 6, 7, 8, 9] [0, 3, 7] r (by kernel_rfl) (an (viewFirstR p) (an (rfI (((procs (View.first p).members).length : Nat) : Int)) (an (rfI (((procs (View.first p).members).length : Nat) : Int)) (an ((by first | omega | decide | (simp; done) | (simp; omega)) : 8 * ((procs (View.first p).members).length) ≤ 281474976710656) (an ((by first | omega | decide | (simp; done) | (simp; omega)) : ((procs (View.first p).members).length) < 4611686018427387904) trivial))))) fun ac wd r => ?_
   obtain ⟨xb, r⟩ := r.name (u := 7) rfl
   refine toAtM (todo' := aft Tryz.f15 13) (E' := [(4, .z 0)]) (M' := [.bx 54 [.mv 1, .mv 2, .mv 3, .mv 4], .mp 49 (nl + 1) (emap pk Life.d (begL L p sn) ++ [(nl, (pk p), ptrV xb)]), .mp 50 (cs) (X2), .mp 51 (cc) (X3), .mp 52 (cg) (X4), .bx 38 [.z p.node, .u p.inc], .it (some 1) (nl) (sn) (nl), .bx 82 ((View.first p).avs [.d (.v (.bool true)), .z 0, .d (.v (.int .u64 0)), .sl 9 ((procs (View.first p).members).length)]), .bx 44 ((View.first p).avs []), .rw 36 1 (List.replicate ((procs (View.first p).members).length) [.v (.int .u64 0)]), .nm 7 xb]) tk mo hK hbm [(12, [(6, .n 10)])] 4 [0, 1, 2, 3, 4, 5, 6, 7, 8, 9, 10] [4] r (by kernel_rfl) (an ((keysP (fun x hx => hL.ok x (begL_mem hx)) hp) : KeysOk Tryz.prog 38 ((pk p) :: List.map (fun (e : Nat × MK × DV) => e.2.1) (emap pk Life.d (begL L p sn)))) (an ((by rw [beg_end hall4]; exact emap_fresh (fun _ _ h => pk_inj h) others_fresh) : ∀ zz ∈ (emap pk Life.d (begL L p sn) : List (Nat × MK × DV)), zz.2.1 ≠ (pk p)) trivial)) fun ac wd r => ?_
   have r := r.foldM (u := 7) (v := 10) (m := 1) (j := (others L p).length) (vc := [((procs (View.first p).members).length) = (List.replicate ((procs (View.first p).members).length) [.v (.int .u64 0)] : List (List DV)).length]) (M1 := [.bx 54 [.mv 1, .mv 2, .mv 3, .mv 4], .mp 49 (nl + 1) (setE (emap pk Life.d (begL L p sn) ++ [(nl, (pk p), ptrV xb)]) ((others L p).length) (.pb 82 ((View.first p).dvs [.v (.bool true), .z 0, .v (.int .u64 0), .em 36 1 (List.replicate ((procs (View.first p).members).length) [.v (.int .u64 0)])]))), .mp 50 (cs) (X2), .mp 51 (cc) (X3), .mp 52 (cg) (X4), .bx 38 [.z p.node, .u p.inc], .it (some 1) (nl) (sn) (nl), .dead, .bx 44 ((View.first p).avs []), .dead, .nm 7 xb]) (M2 := [.bx 54 [.mv 1, .mv 2, .mv 3, .mv 4], .mp 49 (nl + 1) (emap pk Life.d (others L p ++ [(nl, p, Life.new p)])), .mp 50 (cs) (X2), .mp 51 (cc) (X3), .mp 52 (cg) (X4), .bx 38 [.z p.node, .u p.inc], .it (some 1) (nl) (sn) (nl), .dead, .bx 44 ((View.first p).avs []), .dead, .nm 7 xb]) rfl (by kernel_rfl) (And.intro (by first | rfl | simp) trivial) (fun _ _ _ hM => by cases hM; exact (by rw [beg_end hall4]; exact at_last (emap_len _ _ _).symm)) (by rw [beg_end hall4, setE_last (emap_len _ _ _).symm, nums_zero]; exact congrArg (fun (z : List (Nat × MK × DV)) => ([.bx 54 [.mv 1, .mv 2, .mv 3, .mv 4], .mp 49 (nl + 1) (z), .mp 50 (cs) (X2), .mp 51 (cc) (X3), .mp 52 (cg) (X4), .bx 38 [.z p.node, .u p.inc], .it (some 1) (nl) (sn) (nl), .dead, .bx 44 ((View.first p).avs []), .dead, .nm 7 xb] : List Blk)) (emap_app (k := pk) (d := Life.d) (others L p) nl p (Life.new p)))
   refine castM (y := .z 0) (N' := [.bx 54 [.mv 1, .mv 2, .mv 3, .mv 4], .mp 49 (nl + 1) (emap pk Life.d (others L p ++ [(nl, p, Life.new p)])), .mp 50 (cs) (X2), .mp 51 (cc) (X3), .mp 52 (cg) (X4)]) ((by rw [beginJ3 (by assumption) (ends_no hv0 hall4)])) ((by rw [beginJ3 (by assumption) (ends_no hv0 hall4)])) ?_
   exact toRetM tk mo hK rfl hbm [] 2000 [0, 1, 2, 3, 4] r (by kernel_rfl) trivial
  ·
   obtain ⟨q, fo, hq, rfl, rfl⟩ := emap_get hj4
   obtain ⟨xb, r⟩ := r.openM (u := 1) (N := fun xb => [.bx 54 [.mv 1, .mv 2, .mv 3, .mv 4], .mp 49 (nl) (setE (emap pk Life.d (begL L p sn)) jj4 (ptrV xb)), .mp 50 (cs) (X2), .mp 51 (cc) (X3), .mp 52 (cg) (X4), .bx 38 [.z p.node, .u p.inc], .it (some 1) (nl) (sn ++ [bb4]) (nl), .rw 36 1 (nums fo.handed), .bx 82 (fo.view.avs [.d (.v (.bool (fo.on))), .z fo.stands, .u fo.sent, .sl 7 ((nums fo.handed).length)]), .nm 8 xb]) rfl (emap_at hq) rfl (fun _ => rfl)
   have u0 := (⟨_, _, setE_at _ (emap_at hq), rfl⟩ : ∃ b0 s0, (setE (emap pk Life.d (begL L p sn)) jj4 (ptrV xb) : List (Nat × MK × DV))[jj4]? = some (b0, (pk q), ptrV xb) ∧ (sn ++ [bb4] : List Nat) = s0 ++ [b0])
   have u1 := ((begL_born hL _ _) : (List.map (fun (e : Nat × MK × DV) => e.1) (setE (emap pk Life.d (begL L p sn)) jj4 (ptrV xb))).Nodup)
   have u2 := (rfl : outP [.bx 54 [.mv 1, .mv 2, .mv 3, .mv 4], .mp 49 (nl) (setE (emap pk Life.d (begL L p sn)) jj4 (ptrV xb)), .mp 50 (cs) (X2), .mp 51 (cc) (X3), .mp 52 (cg) (X4), .bx 38 [.z p.node, .u p.inc], .it (some 1) (nl) (sn ++ [bb4]) (nl), .rw 36 1 (nums fo.handed), .bx 82 (fo.view.avs [.d (.v (.bool (fo.on))), .z fo.stands, .u fo.sent, .sl 7 ((nums fo.handed).length)]), .nm 8 xb] (ptrV xb) (some 9))
   cases h1 : (fo.on) with
   | false =>
    cases h2 : ((q.node : Int) != p.node) with
    | false =>
     have qh2 := eq_of_bne h2
     refine toAtM (todo' := aft Tryz.f15 6) (E' := [(0, .pt 0 0), (3, .pt 5 0), (15, .pt 6 0), (17, .d (.v (.bool true))), (18, .tu [.ag [.z q.node, .u q.inc], .pt 8 0]), (19, .ag [.z q.node, .u q.inc]), (20, .pt 8 0), (5, .pt 10 0), (6, .pt 8 0), (21, .pt 10 0), (22, .z q.node), (23, .pt 5 0), (24, .z p.node), (25, .d (.v (.bool false)))]) (M' := [.bx 54 [.mv 1, .mv 2, .mv 3, .mv 4], .mp 49 (nl) (setE (emap pk Life.d (begL L p sn)) jj4 (ptrV xb)), .mp 50 (cs) (X2), .mp 51 (cc) (X3), .mp 52 (cg) (X4), .bx 38 [.z p.node, .u p.inc], .it (some 1) (nl) (sn ++ [bb4]) (nl), .rw 36 1 (nums fo.handed), .bx 82 (fo.view.avs [.d (.v (.bool (fo.on))), .z fo.stands, .u fo.sent, .sl 7 ((nums fo.handed).length)]), .nm 8 xb, .bx 38 [.z q.node, .u q.inc]]) tk mo hK hbm [(5, [(0, .mkp (jj4) (pk q) (ptrV xb) 9)]), (6, [(4, .b false)])] 9 [0, 1, 2, 3, 4, 5, 6, 7, 8, 9, 10] [0, 3, 15, 17, 18, 19, 20, 5, 6, 21, 22, 23, 24, 25] r (by kernel_rfl) (an u0 (an u1 (an (rfl : (nl : Nat) = nl) (an u2 (an h2 trivial))))) fun ac wd r => ?_
     have r := r.cast (M' := [.bx 54 [.mv 1, .mv 2, .mv 3, .mv 4], .mp 49 (nl) (setE (emap pk Life.d (begL L p sn)) jj4 (ptrV xb)), .mp 50 (cs) (X2), .mp 51 (cc) (X3), .mp 52 (cg) (X4), .bx 38 [.z p.node, .u p.inc], .it (some 1) (nl) (sn ++ [bb4]) (nl), .rw 36 1 (nums fo.handed), .bx 82 (fo.view.avs [.d (.v (.bool false)), .z fo.stands, .u fo.sent, .sl 7 ((nums fo.handed).length)]), .nm 8 xb, .bx 38 [.z q.node, .u q.inc]]) rfl (by rw [h1])
     cases h3 : (decide (((p.inc : Nat) : Int) ≤ ((q.inc : Nat) : Int))) with
     | false =>
      have qh3 := of_decide_eq_false h3
      exact toHeadM (todo' := hd Tryz.f15 0) (E' := [(0, .pt 0 0), (3, .pt 5 0), (15, .pt 6 0)]) (M' := [.bx 54 [.mv 1, .mv 2, .mv 3, .mv 4], .mp 49 (nl) (List.eraseIdx (setE (emap pk Life.d (begL L p sn)) jj4 (ptrV xb)) (jj4)), .mp 50 (cs) (X2), .mp 51 (cc) (X3), .mp 52 (cg) (X4), .bx 38 [.z p.node, .u p.inc], .it (some 1) (nl) (sn ++ [bb4]) (nl)]) tk mo hK hbm [(7, [(9, .b false)]), (9, [(5, .mk (jj4) (pk q) (ptrV xb))])] 2000 [0, 1, 2, 3, 4, 5, 6] [0, 3, 15] r (by kernel_rfl) (an h3 (an ((keys_setE (keysP (fun x hx => hL.ok x (begL_mem hx)) (hL.ok _ (begL_mem (List.mem_of_getElem? hq))))) : KeysOk Tryz.prog 38 ((pk q) :: List.map (fun (e : Nat × MK × DV) => e.2.1) (setE (emap pk Life.d (begL L p sn)) jj4 (ptrV xb)))) (an (rfl : ((pk q) : MK) = (pk q)) (an ((begL_keys hL _ _) : (List.map (fun (e : Nat × MK × DV) => e.2.1) (setE (emap pk Life.d (begL L p sn)) jj4 (ptrV xb))).Nodup) (an (rfl : DV.cp2 (ptrV xb) = true) (an (⟨_, setE_at _ (emap_at hq)⟩ : ∃ b0, (setE (emap pk Life.d (begL L p sn)) jj4 (ptrV xb) : List (Nat × MK × DV))[jj4]? = some (b0, (pk q), ptrV xb)) trivial)))))) fun ac wd r => again0 (hv0.less hq hb4) ac wd ⟨(sn ++ [bb4]), (hv0.pass hL hq hb4 (fun h => ⟨by assumption, by omega⟩)), r.cast rfl (by rw [setE_erase, emap_erase, begL_cut hL hq (by omega)])⟩
     | true =>
      have qh3 := of_decide_eq_true h3
      refine toAtM (todo' := aft Tryz.f15 8) (E' := [(0, .pt 0 0), (3, .pt 5 0), (15, .pt 6 0), (17, .d (.v (.bool true))), (18, .tu [.ag [.z q.node, .u q.inc], .pt 8 0]), (19, .ag [.z q.node, .u q.inc]), (20, .pt 8 0), (5, .pt 10 0), (6, .pt 8 0), (21, .pt 10 0), (22, .z q.node), (23, .pt 5 0), (24, .z p.node), (25, .d (.v (.bool false))), (26, .pt 8 0), (27, .pt 8 0), (28, .pt 8 5), (29, .d (.v (.bool false))), (30, .d (.v (.bool false))), (31, .pt 10 1), (32, .u q.inc), (33, .pt 5 1), (34, .u p.inc), (35, .d (.v (.bool true))), (36, .d (.v (.bool true))), (4, .z 230)]) (M' := [.bx 54 [.mv 1, .mv 2, .mv 3, .mv 4], .mp 49 (nl) (setE (emap pk Life.d (begL L p sn)) jj4 (ptrV xb)), .mp 50 (cs) (X2), .mp 51 (cc) (X3), .mp 52 (cg) (X4), .bx 38 [.z p.node, .u p.inc], .it (some 1) (nl) (sn ++ [bb4]) (nl), .rw 36 1 (nums fo.handed), .bx 82 (fo.view.avs [.d (.v (.bool false)), .z fo.stands, .u fo.sent, .sl 7 ((nums fo.handed).length)]), .nm 8 xb, .bx 38 [.z q.node, .u q.inc]]) tk mo hK hbm [(7, [(9, .b true)])] 8 [0, 1, 2, 3, 4, 5, 6, 7, 8, 9, 10] [0, 3, 15, 17, 18, 19, 20, 5, 6, 21, 22, 23, 24, 25, 26, 27, 28, 29, 30, 31, 32, 33, 34, 35, 36, 4] r (by kernel_rfl) (an h3 trivial) fun ac wd r => ?_
      have r := r.foldM (u := 8) (v := 9) (m := 1) (j := jj4) (vc := [((nums fo.handed).length) = (nums fo.handed : List (List DV)).length]) (M1 := [.bx 54 [.mv 1, .mv 2, .mv 3, .mv 4], .mp 49 (nl) (setE (setE (emap pk Life.d (begL L p sn)) jj4 (ptrV xb)) (jj4) (.pb 82 (fo.view.dvs [.v (.bool false), .z fo.stands, .u fo.sent, .em 36 1 (nums fo.handed)]))), .mp 50 (cs) (X2), .mp 51 (cc) (X3), .mp 52 (cg) (X4), .bx 38 [.z p.node, .u p.inc], .it (some 1) (nl) (sn ++ [bb4]) (nl), .dead, .dead, .nm 8 xb, .bx 38 [.z q.node, .u q.inc]]) (M2 := [.bx 54 [.mv 1, .mv 2, .mv 3, .mv 4], .mp 49 (nl) (emap pk Life.d L), .mp 50 (cs) (X2), .mp 51 (cc) (X3), .mp 52 (cg) (X4), .bx 38 [.z p.node, .u p.inc], .it (some 1) (nl) (sn ++ [bb4]) (nl), .dead, .dead, .nm 8 xb, .bx 38 [.z q.node, .u q.inc]]) rfl (by kernel_rfl) (And.intro (by first | rfl | simp) trivial) (fun _ _ _ hM => by cases hM; exact setE_at _ (emap_at hq)) (by rw [← h1, setE_same hq, begL_whole hL hq hb4 (by omega)])
      refine castM (y := .z 230) (N' := [.bx 54 [.mv 1, .mv 2, .mv 3, .mv 4], .mp 49 (nl) (emap pk Life.d L), .mp 50 (cs) (X2), .mp 51 (cc) (X3), .mp 52 (cg) (X4)]) ((by rw [beginJ2 (ends_yes hq (by omega) (by first | exact .inl (by assumption) | exact .inr (by omega)))])) ((by rw [beginJ2 (ends_yes hq (by omega) (by first | exact .inl (by assumption) | exact .inr (by omega)))])) ?_
      exact toRetM tk mo hK rfl hbm [] 2000 [0, 1, 2, 3, 4] r (by kernel_rfl) trivial
    | true =>
     have qh2 : ¬ _ = _ := bne_iff_ne.1 h2
     refine toAtM (todo' := aft Tryz.f15 6) (E' := [(0, .pt 0 0), (3, .pt 5 0), (15, .pt 6 0), (17, .d (.v (.bool true))), (18, .tu [.ag [.z q.node, .u q.inc], .pt 8 0]), (19, .ag [.z q.node, .u q.inc]), (20, .pt 8 0), (5, .pt 10 0), (6, .pt 8 0), (21, .pt 10 0), (22, .z q.node), (23, .pt 5 0), (24, .z p.node), (25, .d (.v (.bool true)))]) (M' := [.bx 54 [.mv 1, .mv 2, .mv 3, .mv 4], .mp 49 (nl) (setE (emap pk Life.d (begL L p sn)) jj4 (ptrV xb)), .mp 50 (cs) (X2), .mp 51 (cc) (X3), .mp 52 (cg) (X4), .bx 38 [.z p.node, .u p.inc], .it (some 1) (nl) (sn ++ [bb4]) (nl), .rw 36 1 (nums fo.handed), .bx 82 (fo.view.avs [.d (.v (.bool (fo.on))), .z fo.stands, .u fo.sent, .sl 7 ((nums fo.handed).length)]), .nm 8 xb, .bx 38 [.z q.node, .u q.inc]]) tk mo hK hbm [(5, [(0, .mkp (jj4) (pk q) (ptrV xb) 9)]), (6, [(4, .b true)])] 9 [0, 1, 2, 3, 4, 5, 6, 7, 8, 9, 10] [0, 3, 15, 17, 18, 19, 20, 5, 6, 21, 22, 23, 24, 25] r (by kernel_rfl) (an u0 (an u1 (an (rfl : (nl : Nat) = nl) (an u2 (an h2 trivial))))) fun ac wd r => ?_
     have r := r.foldM (u := 8) (v := 9) (m := 1) (j := jj4) (vc := [((nums fo.handed).length) = (nums fo.handed : List (List DV)).length]) (M1 := [.bx 54 [.mv 1, .mv 2, .mv 3, .mv 4], .mp 49 (nl) (setE (setE (emap pk Life.d (begL L p sn)) jj4 (ptrV xb)) (jj4) (.pb 82 (fo.view.dvs [.v (.bool (fo.on)), .z fo.stands, .u fo.sent, .em 36 1 (nums fo.handed)]))), .mp 50 (cs) (X2), .mp 51 (cc) (X3), .mp 52 (cg) (X4), .bx 38 [.z p.node, .u p.inc], .it (some 1) (nl) (sn ++ [bb4]) (nl), .dead, .dead, .nm 8 xb, .bx 38 [.z q.node, .u q.inc]]) (M2 := [.bx 54 [.mv 1, .mv 2, .mv 3, .mv 4], .mp 49 (nl) (emap pk Life.d (begL L p sn)), .mp 50 (cs) (X2), .mp 51 (cc) (X3), .mp 52 (cg) (X4), .bx 38 [.z p.node, .u p.inc], .it (some 1) (nl) (sn ++ [bb4]) (nl), .dead, .dead, .nm 8 xb, .bx 38 [.z q.node, .u q.inc]]) rfl (by kernel_rfl) (And.intro (by first | rfl | simp) trivial) (fun _ _ _ hM => by cases hM; exact setE_at _ (emap_at hq)) (by rw [setE_same hq])
     exact toHeadM (todo' := hd Tryz.f15 0) (E' := [(0, .pt 0 0), (3, .pt 5 0), (15, .pt 6 0)]) (M' := [.bx 54 [.mv 1, .mv 2, .mv 3, .mv 4], .mp 49 (nl) (emap pk Life.d (begL L p sn)), .mp 50 (cs) (X2), .mp 51 (cc) (X3), .mp 52 (cg) (X4), .bx 38 [.z p.node, .u p.inc], .it (some 1) (nl) (sn ++ [bb4]) (nl)]) tk mo hK hbm [] 2000 [0, 1, 2, 3, 4, 5, 6] [0, 3, 15] r (by kernel_rfl) trivial fun ac wd r => again0 (hv0.less hq hb4) ac wd ⟨(sn ++ [bb4]), (hv0.pass hL hq hb4 (fun h => absurd h (by omega))), r.cast rfl (by rw [begL_pass hL hq (by omega)])⟩
   | true =>
    cases h4 : ((q.node : Int) != p.node) with
    | false =>
     have qh4 := eq_of_bne h4
     refine toAtM (todo' := aft Tryz.f15 6) (E' := [(0, .pt 0 0), (3, .pt 5 0), (15, .pt 6 0), (17, .d (.v (.bool true))), (18, .tu [.ag [.z q.node, .u q.inc], .pt 8 0]), (19, .ag [.z q.node, .u q.inc]), (20, .pt 8 0), (5, .pt 10 0), (6, .pt 8 0), (21, .pt 10 0), (22, .z q.node), (23, .pt 5 0), (24, .z p.node), (25, .d (.v (.bool false)))]) (M' := [.bx 54 [.mv 1, .mv 2, .mv 3, .mv 4], .mp 49 (nl) (setE (emap pk Life.d (begL L p sn)) jj4 (ptrV xb)), .mp 50 (cs) (X2), .mp 51 (cc) (X3), .mp 52 (cg) (X4), .bx 38 [.z p.node, .u p.inc], .it (some 1) (nl) (sn ++ [bb4]) (nl), .rw 36 1 (nums fo.handed), .bx 82 (fo.view.avs [.d (.v (.bool (fo.on))), .z fo.stands, .u fo.sent, .sl 7 ((nums fo.handed).length)]), .nm 8 xb, .bx 38 [.z q.node, .u q.inc]]) tk mo hK hbm [(5, [(0, .mkp (jj4) (pk q) (ptrV xb) 9)]), (6, [(4, .b false)])] 9 [0, 1, 2, 3, 4, 5, 6, 7, 8, 9, 10] [0, 3, 15, 17, 18, 19, 20, 5, 6, 21, 22, 23, 24, 25] r (by kernel_rfl) (an u0 (an u1 (an (rfl : (nl : Nat) = nl) (an u2 (an h4 trivial))))) fun ac wd r => ?_
     have r := r.cast (M' := [.bx 54 [.mv 1, .mv 2, .mv 3, .mv 4], .mp 49 (nl) (setE (emap pk Life.d (begL L p sn)) jj4 (ptrV xb)), .mp 50 (cs) (X2), .mp 51 (cc) (X3), .mp 52 (cg) (X4), .bx 38 [.z p.node, .u p.inc], .it (some 1) (nl) (sn ++ [bb4]) (nl), .rw 36 1 (nums fo.handed), .bx 82 (fo.view.avs [.d (.v (.bool true)), .z fo.stands, .u fo.sent, .sl 7 ((nums fo.handed).length)]), .nm 8 xb, .bx 38 [.z q.node, .u q.inc]]) rfl (by rw [h1])
     refine toAtM (todo' := aft Tryz.f15 8) (E' := [(0, .pt 0 0), (3, .pt 5 0), (15, .pt 6 0), (17, .d (.v (.bool true))), (18, .tu [.ag [.z q.node, .u q.inc], .pt 8 0]), (19, .ag [.z q.node, .u q.inc]), (20, .pt 8 0), (5, .pt 10 0), (6, .pt 8 0), (21, .pt 10 0), (22, .z q.node), (23, .pt 5 0), (24, .z p.node), (25, .d (.v (.bool false))), (26, .pt 8 0), (27, .pt 8 0), (28, .pt 8 5), (29, .d (.v (.bool true))), (30, .d (.v (.bool true))), (36, .d (.v (.bool true))), (4, .z 230)]) (M' := [.bx 54 [.mv 1, .mv 2, .mv 3, .mv 4], .mp 49 (nl) (setE (emap pk Life.d (begL L p sn)) jj4 (ptrV xb)), .mp 50 (cs) (X2), .mp 51 (cc) (X3), .mp 52 (cg) (X4), .bx 38 [.z p.node, .u p.inc], .it (some 1) (nl) (sn ++ [bb4]) (nl), .rw 36 1 (nums fo.handed), .bx 82 (fo.view.avs [.d (.v (.bool true)), .z fo.stands, .u fo.sent, .sl 7 ((nums fo.handed).length)]), .nm 8 xb, .bx 38 [.z q.node, .u q.inc]]) tk mo hK hbm [] 8 [0, 1, 2, 3, 4, 5, 6, 7, 8, 9, 10] [0, 3, 15, 17, 18, 19, 20, 5, 6, 21, 22, 23, 24, 25, 26, 27, 28, 29, 30, 36, 4] r (by kernel_rfl) trivial fun ac wd r => ?_
     have r := r.foldM (u := 8) (v := 9) (m := 1) (j := jj4) (vc := [((nums fo.handed).length) = (nums fo.handed : List (List DV)).length]) (M1 := [.bx 54 [.mv 1, .mv 2, .mv 3, .mv 4], .mp 49 (nl) (setE (setE (emap pk Life.d (begL L p sn)) jj4 (ptrV xb)) (jj4) (.pb 82 (fo.view.dvs [.v (.bool true), .z fo.stands, .u fo.sent, .em 36 1 (nums fo.handed)]))), .mp 50 (cs) (X2), .mp 51 (cc) (X3), .mp 52 (cg) (X4), .bx 38 [.z p.node, .u p.inc], .it (some 1) (nl) (sn ++ [bb4]) (nl), .dead, .dead, .nm 8 xb, .bx 38 [.z q.node, .u q.inc]]) (M2 := [.bx 54 [.mv 1, .mv 2, .mv 3, .mv 4], .mp 49 (nl) (emap pk Life.d L), .mp 50 (cs) (X2), .mp 51 (cc) (X3), .mp 52 (cg) (X4), .bx 38 [.z p.node, .u p.inc], .it (some 1) (nl) (sn ++ [bb4]) (nl), .dead, .dead, .nm 8 xb, .bx 38 [.z q.node, .u q.inc]]) rfl (by kernel_rfl) (And.intro (by first | rfl | simp) trivial) (fun _ _ _ hM => by cases hM; exact setE_at _ (emap_at hq)) (by rw [← h1, setE_same hq, begL_whole hL hq hb4 (by omega)])
     refine castM (y := .z 230) (N' := [.bx 54 [.mv 1, .mv 2, .mv 3, .mv 4], .mp 49 (nl) (emap pk Life.d L), .mp 50 (cs) (X2), .mp 51 (cc) (X3), .mp 52 (cg) (X4)]) ((by rw [beginJ2 (ends_yes hq (by omega) (by first | exact .inl (by assumption) | exact .inr (by omega)))])) ((by rw [beginJ2 (ends_yes hq (by omega) (by first | exact .inl (by assumption) | exact .inr (by omega)))])) ?_
     exact toRetM tk mo hK rfl hbm [] 2000 [0, 1, 2, 3, 4] r (by kernel_rfl) trivial
    | true =>
     have qh4 : ¬ _ = _ := bne_iff_ne.1 h4
     refine toAtM (todo' := aft Tryz.f15 6) (E' := [(0, .pt 0 0), (3, .pt 5 0), (15, .pt 6 0), (17, .d (.v (.bool true))), (18, .tu [.ag [.z q.node, .u q.inc], .pt 8 0]), (19, .ag [.z q.node, .u q.inc]), (20, .pt 8 0), (5, .pt 10 0), (6, .pt 8 0), (21, .pt 10 0), (22, .z q.node), (23, .pt 5 0), (24, .z p.node), (25, .d (.v (.bool true)))]) (M' := [.bx 54 [.mv 1, .mv 2, .mv 3, .mv 4], .mp 49 (nl) (setE (emap pk Life.d (begL L p sn)) jj4 (ptrV xb)), .mp 50 (cs) (X2), .mp 51 (cc) (X3), .mp 52 (cg) (X4), .bx 38 [.z p.node, .u p.inc], .it (some 1) (nl) (sn ++ [bb4]) (nl), .rw 36 1 (nums fo.handed), .bx 82 (fo.view.avs [.d (.v (.bool (fo.on))), .z fo.stands, .u fo.sent, .sl 7 ((nums fo.handed).length)]), .nm 8 xb, .bx 38 [.z q.node, .u q.inc]]) tk mo hK hbm [(5, [(0, .mkp (jj4) (pk q) (ptrV xb) 9)]), (6, [(4, .b true)])] 9 [0, 1, 2, 3, 4, 5, 6, 7, 8, 9, 10] [0, 3, 15, 17, 18, 19, 20, 5, 6, 21, 22, 23, 24, 25] r (by kernel_rfl) (an u0 (an u1 (an (rfl : (nl : Nat) = nl) (an u2 (an h4 trivial))))) fun ac wd r => ?_
     have r := r.foldM (u := 8) (v := 9) (m := 1) (j := jj4) (vc := [((nums fo.handed).length) = (nums fo.handed : List (List DV)).length]) (M1 := [.bx 54 [.mv 1, .mv 2, .mv 3, .mv 4], .mp 49 (nl) (setE (setE (emap pk Life.d (begL L p sn)) jj4 (ptrV xb)) (jj4) (.pb 82 (fo.view.dvs [.v (.bool (fo.on)), .z fo.stands, .u fo.sent, .em 36 1 (nums fo.handed)]))), .mp 50 (cs) (X2), .mp 51 (cc) (X3), .mp 52 (cg) (X4), .bx 38 [.z p.node, .u p.inc], .it (some 1) (nl) (sn ++ [bb4]) (nl), .dead, .dead, .nm 8 xb, .bx 38 [.z q.node, .u q.inc]]) (M2 := [.bx 54 [.mv 1, .mv 2, .mv 3, .mv 4], .mp 49 (nl) (emap pk Life.d (begL L p sn)), .mp 50 (cs) (X2), .mp 51 (cc) (X3), .mp 52 (cg) (X4), .bx 38 [.z p.node, .u p.inc], .it (some 1) (nl) (sn ++ [bb4]) (nl), .dead, .dead, .nm 8 xb, .bx 38 [.z q.node, .u q.inc]]) rfl (by kernel_rfl) (And.intro (by first | rfl | simp) trivial) (fun _ _ _ hM => by cases hM; exact setE_at _ (emap_at hq)) (by rw [setE_same hq])
     exact toHeadM (todo' := hd Tryz.f15 0) (E' := [(0, .pt 0 0), (3, .pt 5 0), (15, .pt 6 0)]) (M' := [.bx 54 [.mv 1, .mv 2, .mv 3, .mv 4], .mp 49 (nl) (emap pk Life.d (begL L p sn)), .mp 50 (cs) (X2), .mp 51 (cc) (X3), .mp 52 (cg) (X4), .bx 38 [.z p.node, .u p.inc], .it (some 1) (nl) (sn ++ [bb4]) (nl)]) tk mo hK hbm [] 2000 [0, 1, 2, 3, 4, 5, 6] [0, 3, 15] r (by kernel_rfl) trivial fun ac wd r => again0 (hv0.less hq hb4) ac wd ⟨(sn ++ [bb4]), (hv0.pass hL hq hb4 (fun h => absurd h (by omega))), r.cast rfl (by rw [begL_pass hL hq (by omega)])⟩
end Go.Proofs.YtilhbhpldkjkaaaGreat
namespace Go.Proofs.YtilhbhpldkjkaaaGreat
open Go.RowKit
structure JS where
 L : Lives
 nl : Nat
 A : Sent
 ns : Nat
 C : Camed
 nc : Nat
 G : Goned
 ng : Nat
def Life.turn (f : Life) (a b : Int) : Int × Life := if f.stands ≠ a then (231, f) else (0, { f with stands := b })
def lifeJ (s : JS) (f : Life) (e : Ev) : Int × JS :=
 if e.kind = 1 then ((sendJ s.A s.ns f e).err, { s with A := (sendJ s.A s.ns f e).A, ns := (sendJ s.A s.ns f e).ns, L := setK s.L e.who (sendJ s.A s.ns f e).f })
 else if e.kind = 2 then ((deliverJ s.A f e).err, { s with L := setK s.L e.who (deliverJ s.A f e).f })
 else if e.kind = 3 then ((f.turn 0 1).1, { s with L := setK s.L e.who (f.turn 0 1).2 })
 else if e.kind = 4 then ((f.turn 1 2).1, { s with L := setK s.L e.who (f.turn 1 2).2 })
 else if e.kind = 5 then ((viewJ s.C s.nc s.G s.ng f e).err, { s with C := (viewJ s.C s.nc s.G s.ng f e).C, nc := (viewJ s.C s.nc s.G s.ng f e).nc, G := (viewJ s.C s.nc s.G s.ng f e).G, ng := (viewJ s.C s.nc s.G s.ng f e).ng, L := setK s.L e.who (viewJ s.C s.nc s.G s.ng f e).f })
 else if e.kind = 7 then (0, { s with L := setK s.L e.who { f with on := false } })
 else (230, s)
def nextJ (s : JS) (e : Ev) : Int × JS :=
 if e.kind = 6 then ((beginJ s.L s.nl e.who).err, { s with L := (beginJ s.L s.nl e.who).L, nl := (beginJ s.L s.nl e.who).nl })
 else match getK s.L e.who with
 | none => (230, s)
 | some f => if f.on = false then (230, s) else lifeJ s f e
section
variable {s : JS} {e : Ev} {f : Life}
theorem nextJ6 (h : e.kind = 6) : nextJ s e = ((beginJ s.L s.nl e.who).err, { s with L := (beginJ s.L s.nl e.who).L, nl := (beginJ s.L s.nl e.who).nl }) := by unfold nextJ; rw [if_pos h]
theorem nextJn (h : ¬ e.kind = 6) (hg : getK s.L e.who = none) : nextJ s e = (230, s) := by unfold nextJ; rw [if_neg h, hg]
theorem nextJo (h : ¬ e.kind = 6) (hg : getK s.L e.who = some f) (ho : f.on = false) : nextJ s e = (230, s) := by unfold nextJ; rw [if_neg h, hg]; dsimp only; rw [if_pos ho]
theorem nextJl (h : ¬ e.kind = 6) (hg : getK s.L e.who = some f) (ho : f.on = true) : nextJ s e = lifeJ s f e := by unfold nextJ; rw [if_neg h, hg]; dsimp only; rw [if_neg (by rw [ho]; decide)]
end
structure JS.Ok (s : JS) (k : Nat) : Prop where
 lives : LivesOk s.L s.nl
 sent : SentOk s.A
 came : CameOk s.C
 gone : GoneOk s.G
 few : ∀ x ∈ s.C, x.2.2.came.length ≤ k
theorem nums_lenE (l : List Nat) : (nums l).length = l.length := by simp [nums]
theorem live_fold {L : Lives} {j b : Nat} {q : Proc} {f f' : Life} {z : DV} (hn : keysN L) (h : L[j]? = some (b, q, f)) : setE (setE (emap pk Life.d L) j z) j (.pb 82 (Life.cells f')) = emap pk Life.d (setK L q f') := by rw [setK_mod hn h]; exact emap_set (x := f') h z
theorem turn_no {f : Life} {a b : Int} (h : ¬ f.stands = a) : f.turn a b = (231, f) := by unfold Life.turn; rw [if_pos h]
theorem turn_yes {f : Life} {a b : Int} (h : f.stands = a) : f.turn a b = (0, { f with stands := b }) := by unfold Life.turn; rw [if_neg (fun g => g h)]
theorem lifeJ_no {s : JS} {f : Life} {e : Ev} (h1 : ¬ e.kind = 1) (h2 : ¬ e.kind = 2) (h3 : ¬ e.kind = 3) (h4 : ¬ e.kind = 4) (h5 : ¬ e.kind = 5) (h7 : ¬ e.kind = 7) : lifeJ s f e = (230, s) := by unfold lifeJ; rw [if_neg h1, if_neg h2, if_neg h3, if_neg h4, if_neg h5, if_neg h7]
theorem lifeJ1 {s : JS} {f : Life} {e : Ev} (h : e.kind = 1) : lifeJ s f e = ((sendJ s.A s.ns f e).err, { s with A := (sendJ s.A s.ns f e).A, ns := (sendJ s.A s.ns f e).ns, L := setK s.L e.who (sendJ s.A s.ns f e).f }) := by unfold lifeJ; simp only [h]; rfl
theorem lifeJ2 {s : JS} {f : Life} {e : Ev} (h : e.kind = 2) : lifeJ s f e = ((deliverJ s.A f e).err, { s with L := setK s.L e.who (deliverJ s.A f e).f }) := by unfold lifeJ; simp only [h]; rfl
theorem lifeJ3 {s : JS} {f : Life} {e : Ev} (h : e.kind = 3) : lifeJ s f e = ((f.turn 0 1).1, { s with L := setK s.L e.who (f.turn 0 1).2 }) := by unfold lifeJ; simp only [h]; rfl
theorem lifeJ4 {s : JS} {f : Life} {e : Ev} (h : e.kind = 4) : lifeJ s f e = ((f.turn 1 2).1, { s with L := setK s.L e.who (f.turn 1 2).2 }) := by unfold lifeJ; simp only [h]; rfl
theorem lifeJ5 {s : JS} {f : Life} {e : Ev} (h : e.kind = 5) : lifeJ s f e = ((viewJ s.C s.nc s.G s.ng f e).err, { s with C := (viewJ s.C s.nc s.G s.ng f e).C, nc := (viewJ s.C s.nc s.G s.ng f e).nc, G := (viewJ s.C s.nc s.G s.ng f e).G, ng := (viewJ s.C s.nc s.G s.ng f e).ng, L := setK s.L e.who (viewJ s.C s.nc s.G s.ng f e).f }) := by unfold lifeJ; simp only [h]; rfl
theorem lifeJ7 {s : JS} {f : Life} {e : Ev} (h : e.kind = 7) : lifeJ s f e = (0, { s with L := setK s.L e.who { f with on := false } }) := by unfold lifeJ; simp only [h]; rfl
set_option maxHeartbeats 4000000 in
set_option maxRecDepth 100000 in
theorem nextOk (s : JS) (e : Ev) (ho : e.Ok) (n : Nat) (hn : n ≤ 100000) (hs : s.Ok n) : ConM Tryz.prog 11 [.pt 0 0, .ag e.av] [.bx 54 [.mv 1, .mv 2, .mv 3, .mv 4], .mp 49 (s.nl) (emap pk Life.d s.L), .mp 50 (s.ns) (emap mk6 textD s.A), .mp 51 (s.nc) (emap vk Come.d s.C), .mp 52 (s.ng) (emap sk goneD s.G)] (.d (.z (nextJ s e).1)) ([.bx 54 [.mv 1, .mv 2, .mv 3, .mv 4], .mp 49 ((nextJ s e).2.nl) (emap pk Life.d (nextJ s e).2.L), .mp 50 ((nextJ s e).2.ns) (emap mk6 textD (nextJ s e).2.A), .mp 51 ((nextJ s e).2.nc) (emap vk Come.d (nextJ s e).2.C), .mp 52 ((nextJ s e).2.ng) (emap sk goneD (nextJ s e).2.G)]) := by
 refine ConM.intro (by kernel_rfl) rfl rfl 62 rfl rfl fun D w0 K bs ac wd hK (hbm : bs.m = 5) r => ?_
 cases h0 : ((getK s.L e.who).isSome) with
 | false =>
  have hno : getK s.L e.who = none := by simpa using (show (getK s.L e.who).isSome = false by assumption)
  cases h1 : ((e.kind : Int) == 6) with
  | false =>
   have qh1 := ne_of_beq_false h1
   refine toAtM (todo' := aft Tryz.f11 1) (E' := [(0, .pt 0 0), (3, .pt 5 0), (4, .z 0), (8, .d (.v (.bool false)))]) (M' := [.bx 54 [.mv 1, .mv 2, .mv 3, .mv 4], .mp 49 (s.nl) (emap pk Life.d s.L), .mp 50 (s.ns) (emap mk6 textD s.A), .mp 51 (s.nc) (emap vk Come.d s.C), .mp 52 (s.ng) (emap sk goneD s.G), .bx 46 e.av]) tk mo hK hbm [(1, [(2, .b false)])] 5 [0, 1, 2, 3, 4, 5] [0, 3, 4, 8] r (by kernel_rfl) (an h1 trivial) fun ac wd r => ?_
   refine toAtM (todo' := aft Tryz.f11 3) (E' := [(0, .pt 0 0), (3, .pt 5 0), (4, .z 0), (5, .d (.v (.pointer none)))]) (M' := [.bx 54 [.mv 1, .mv 2, .mv 3, .mv 4], .mp 49 (s.nl) (emap pk Life.d s.L), .mp 50 (s.ns) (emap mk6 textD s.A), .mp 51 (s.nc) (emap vk Come.d s.C), .mp 52 (s.ng) (emap sk goneD s.G), .bx 46 e.av]) tk mo hK hbm [(3, [(6, .b false)])] 4 [0, 1, 2, 3, 4, 5] [0, 3, 4, 5] r (by kernel_rfl) (an ((keysP hs.lives.ok ho.who) : KeysOk Tryz.prog 38 ((pk e.who) :: List.map (fun (e : Nat × MK × DV) => e.2.1) (emap pk Life.d s.L))) (an ((fun _ => rfl) : ZeroIs Tryz.prog 80 ((.pointer none))) (an ((emap_fresh (fun _ _ h => pk_inj h) hno) : ∀ zz ∈ (emap pk Life.d s.L : List (Nat × MK × DV)), zz.2.1 ≠ (pk e.who)) trivial))) fun ac wd r => ?_
   refine toAtM (todo' := aft Tryz.f11 4) (E' := [(0, .pt 0 0), (3, .pt 5 0), (4, .z 0), (5, .d (.v (.pointer none))), (28, .d (.v (.bool true)))]) (M' := [.bx 54 [.mv 1, .mv 2, .mv 3, .mv 4], .mp 49 (s.nl) (emap pk Life.d s.L), .mp 50 (s.ns) (emap mk6 textD s.A), .mp 51 (s.nc) (emap vk Come.d s.C), .mp 52 (s.ng) (emap sk goneD s.G), .bx 46 e.av]) tk mo hK hbm [] 3 [0, 1, 2, 3, 4, 5] [0, 3, 4, 5, 28] r (by kernel_rfl) (an (ptrT80 : PtrT Tryz.prog 80) trivial) fun ac wd r => ?_
   refine toAtM (todo' := aft Tryz.f11 5) (E' := [(0, .pt 0 0), (3, .pt 5 0), (4, .z 230), (5, .d (.v (.pointer none)))]) (M' := [.bx 54 [.mv 1, .mv 2, .mv 3, .mv 4], .mp 49 (s.nl) (emap pk Life.d s.L), .mp 50 (s.ns) (emap mk6 textD s.A), .mp 51 (s.nc) (emap vk Come.d s.C), .mp 52 (s.ng) (emap sk goneD s.G), .bx 46 e.av]) tk mo hK hbm [] 3 [0, 1, 2, 3, 4, 5] [0, 3, 4, 5] r (by kernel_rfl) trivial fun ac wd r => ?_
   refine castM (y := .z 230) (N' := [.bx 54 [.mv 1, .mv 2, .mv 3, .mv 4], .mp 49 (s.nl) (emap pk Life.d s.L), .mp 50 (s.ns) (emap mk6 textD s.A), .mp 51 (s.nc) (emap vk Come.d s.C), .mp 52 (s.ng) (emap sk goneD s.G)]) ((by rw [nextJn (by omega) hno])) ((by rw [nextJn (by omega) hno])) ?_
   exact toRetM tk mo hK rfl hbm [] 2000 [0, 1, 2, 3, 4] r (by kernel_rfl) trivial
  | true =>
   have qh1 := eq_of_beq h1
   refine toAtM (todo' := aft Tryz.f11 1) (E' := [(0, .pt 0 0), (3, .pt 5 0), (4, .z 0), (8, .d (.v (.bool true)))]) (M' := [.bx 54 [.mv 1, .mv 2, .mv 3, .mv 4], .mp 49 (s.nl) (emap pk Life.d s.L), .mp 50 (s.ns) (emap mk6 textD s.A), .mp 51 (s.nc) (emap vk Come.d s.C), .mp 52 (s.ng) (emap sk goneD s.G), .bx 46 e.av]) tk mo hK hbm [(1, [(2, .b true)])] 5 [0, 1, 2, 3, 4, 5] [0, 3, 4, 8] r (by kernel_rfl) (an h1 trivial) fun ac wd r => ?_
   refine castM (y := .z ((beginJ s.L s.nl e.who).err)) (N' := [.bx 54 [.mv 1, .mv 2, .mv 3, .mv 4], .mp 49 ((beginJ s.L s.nl e.who).nl) (emap pk Life.d (beginJ s.L s.nl e.who).L), .mp 50 (s.ns) (emap mk6 textD s.A), .mp 51 (s.nc) (emap vk Come.d s.C), .mp 52 (s.ng) (emap sk goneD s.G)]) ((by rw [nextJ6 (by omega)])) ((by rw [nextJ6 (by omega)])) ?_
   exact toRetM tk mo hK rfl hbm [(2, [(3, .mem [0, 1, 2, 3, 4] (.z ((beginJ s.L s.nl e.who).err)) [.bx 54 [.mv 1, .mv 2, .mv 3, .mv 4], .mp 49 ((beginJ s.L s.nl e.who).nl) (emap pk Life.d (beginJ s.L s.nl e.who).L), .mp 50 (s.ns) (emap mk6 textD s.A), .mp 51 (s.nc) (emap vk Come.d s.C), .mp 52 (s.ng) (emap sk goneD s.G)])])] 2000 [0, 1, 2, 3, 4] r (by kernel_rfl) (an (beginOk (emap mk6 textD s.A) (emap vk Come.d s.C) (emap sk goneD s.G) s.ns s.nc s.ng s.L s.nl e.who ho.who hs.lives) trivial)
 | true =>
  obtain ⟨fo, hgl⟩ := Option.isSome_iff_exists.1 (show (getK s.L e.who).isSome = true by assumption)
  obtain ⟨jo, bb, hjo⟩ := getK_some hgl
  have hfo := hs.lives.life _ (List.mem_of_getElem? hjo)
  dsimp only at hfo
  cases h2 : ((e.kind : Int) == 6) with
  | false =>
   have qh2 := ne_of_beq_false h2
   refine toAtM (todo' := aft Tryz.f11 1) (E' := [(0, .pt 0 0), (3, .pt 5 0), (4, .z 0), (8, .d (.v (.bool false)))]) (M' := [.bx 54 [.mv 1, .mv 2, .mv 3, .mv 4], .mp 49 (s.nl) (emap pk Life.d s.L), .mp 50 (s.ns) (emap mk6 textD s.A), .mp 51 (s.nc) (emap vk Come.d s.C), .mp 52 (s.ng) (emap sk goneD s.G), .bx 46 e.av]) tk mo hK hbm [(1, [(2, .b false)])] 5 [0, 1, 2, 3, 4, 5] [0, 3, 4, 8] r (by kernel_rfl) (an h2 trivial) fun ac wd r => ?_
   obtain ⟨xb, r⟩ := r.openM (u := 1) (N := fun xb => [.bx 54 [.mv 1, .mv 2, .mv 3, .mv 4], .mp 49 (s.nl) (setE (emap pk Life.d s.L) jo (ptrV xb)), .mp 50 (s.ns) (emap mk6 textD s.A), .mp 51 (s.nc) (emap vk Come.d s.C), .mp 52 (s.ng) (emap sk goneD s.G), .bx 46 e.av, .rw 36 1 (nums fo.handed), .bx 82 (fo.view.avs [.d (.v (.bool (fo.on))), .z fo.stands, .u fo.sent, .sl 6 ((nums fo.handed).length)]), .nm 7 xb]) rfl (emap_at hjo) rfl (fun _ => rfl)
   have r := r.cast (M' := [.bx 54 [.mv 1, .mv 2, .mv 3, .mv 4], .mp 49 (s.nl) (setE (emap pk Life.d s.L) jo (ptrV xb)), .mp 50 (s.ns) (emap mk6 textD s.A), .mp 51 (s.nc) (emap vk Come.d s.C), .mp 52 (s.ng) (emap sk goneD s.G), .bx 46 e.av, .rw 36 1 (nums fo.handed), .bx 82 (fo.lav 6), .nm 7 xb]) rfl (by rw [nums_lenE])
   cases h3 : (fo.on) with
   | false =>
    refine toAtM (todo' := aft Tryz.f11 3) (E' := [(0, .pt 0 0), (3, .pt 5 0), (4, .z 0), (5, .pt 7 0)]) (M' := [.bx 54 [.mv 1, .mv 2, .mv 3, .mv 4], .mp 49 (s.nl) (setE (emap pk Life.d s.L) jo (ptrV xb)), .mp 50 (s.ns) (emap mk6 textD s.A), .mp 51 (s.nc) (emap vk Come.d s.C), .mp 52 (s.ng) (emap sk goneD s.G), .bx 46 e.av, .rw 36 1 (nums fo.handed), .bx 82 (fo.lav 6), .nm 7 xb]) tk mo hK hbm [(3, [(6, .mkp (jo) (pk e.who) (ptrV xb) 8)])] 4 [0, 1, 2, 3, 4, 5, 6, 7, 8] [0, 3, 4, 5] r (by kernel_rfl) (an ((keys_setE (keysP hs.lives.ok ho.who)) : KeysOk Tryz.prog 38 ((pk e.who) :: List.map (fun (e : Nat × MK × DV) => e.2.1) (setE (emap pk Life.d s.L) jo (ptrV xb)))) (an (rfl : ((pk e.who) : MK) = (pk e.who)) (an ((by rw [setE_keys]; exact emap_nodup (fun _ _ h => pk_inj h) hs.lives.n) : (List.map (fun (e : Nat × MK × DV) => e.2.1) (setE (emap pk Life.d s.L) jo (ptrV xb))).Nodup) (an (⟨⟨_, setE_at _ (emap_at hjo)⟩, rfl⟩ : (∃ b0, (setE (emap pk Life.d s.L) jo (ptrV xb) : List (Nat × MK × DV))[jo]? = some (b0, (pk e.who), ptrV xb)) ∧ outP [.bx 54 [.mv 1, .mv 2, .mv 3, .mv 4], .mp 49 (s.nl) (setE (emap pk Life.d s.L) jo (ptrV xb)), .mp 50 (s.ns) (emap mk6 textD s.A), .mp 51 (s.nc) (emap vk Come.d s.C), .mp 52 (s.ng) (emap sk goneD s.G), .bx 46 e.av, .rw 36 1 (nums fo.handed), .bx 82 (fo.lav 6), .nm 7 xb] (ptrV xb) (some 8)) trivial)))) fun ac wd r => ?_
    have r := r.cast (M' := [.bx 54 [.mv 1, .mv 2, .mv 3, .mv 4], .mp 49 (s.nl) (setE (emap pk Life.d s.L) jo (ptrV xb)), .mp 50 (s.ns) (emap mk6 textD s.A), .mp 51 (s.nc) (emap vk Come.d s.C), .mp 52 (s.ng) (emap sk goneD s.G), .bx 46 e.av, .rw 36 1 (nums fo.handed), .bx 82 (fo.view.avs [.d (.v (.bool false)), .z fo.stands, .u fo.sent, .sl 6 (fo.handed.length)]), .nm 7 xb]) rfl (by first | rw [h3] | simp only [Life.lav, h3])
    refine toAtM (todo' := aft Tryz.f11 4) (E' := [(0, .pt 0 0), (3, .pt 5 0), (4, .z 0), (5, .pt 7 0), (28, .d (.v (.bool true)))]) (M' := [.bx 54 [.mv 1, .mv 2, .mv 3, .mv 4], .mp 49 (s.nl) (setE (emap pk Life.d s.L) jo (ptrV xb)), .mp 50 (s.ns) (emap mk6 textD s.A), .mp 51 (s.nc) (emap vk Come.d s.C), .mp 52 (s.ng) (emap sk goneD s.G), .bx 46 e.av, .rw 36 1 (nums fo.handed), .bx 82 (fo.view.avs [.d (.v (.bool false)), .z fo.stands, .u fo.sent, .sl 6 (fo.handed.length)]), .nm 7 xb]) tk mo hK hbm [] 3 [0, 1, 2, 3, 4, 5, 6, 7, 8] [0, 3, 4, 5, 28] r (by kernel_rfl) (an (ptrT80 : PtrT Tryz.prog 80) trivial) fun ac wd r => ?_
    have r := r.cast (M' := [.bx 54 [.mv 1, .mv 2, .mv 3, .mv 4], .mp 49 (s.nl) (setE (emap pk Life.d s.L) jo (ptrV xb)), .mp 50 (s.ns) (emap mk6 textD s.A), .mp 51 (s.nc) (emap vk Come.d s.C), .mp 52 (s.ng) (emap sk goneD s.G), .bx 46 e.av, .rw 36 1 (nums fo.handed), .bx 82 (fo.lav 6), .nm 7 xb]) rfl (by first | rw [h3] | simp only [Life.lav, h3])
    refine toAtM (todo' := aft Tryz.f11 5) (E' := [(0, .pt 0 0), (3, .pt 5 0), (4, .z 230), (5, .pt 7 0)]) (M' := [.bx 54 [.mv 1, .mv 2, .mv 3, .mv 4], .mp 49 (s.nl) (setE (emap pk Life.d s.L) jo (ptrV xb)), .mp 50 (s.ns) (emap mk6 textD s.A), .mp 51 (s.nc) (emap vk Come.d s.C), .mp 52 (s.ng) (emap sk goneD s.G), .bx 46 e.av, .rw 36 1 (nums fo.handed), .bx 82 (fo.lav 6), .nm 7 xb]) tk mo hK hbm [] 3 [0, 1, 2, 3, 4, 5, 6, 7, 8] [0, 3, 4, 5] r (by kernel_rfl) trivial fun ac wd r => ?_
    have r := r.foldM (u := 7) (v := 8) (m := 1) (j := jo) (vc := [(fo.handed.length) = (nums fo.handed : List (List DV)).length]) (M1 := [.bx 54 [.mv 1, .mv 2, .mv 3, .mv 4], .mp 49 (s.nl) (setE (setE (emap pk Life.d s.L) jo (ptrV xb)) (jo) (.pb 82 (fo.view.dvs [.v (.bool (fo.on)), .z fo.stands, .u fo.sent, .em 36 1 (nums fo.handed)]))), .mp 50 (s.ns) (emap mk6 textD s.A), .mp 51 (s.nc) (emap vk Come.d s.C), .mp 52 (s.ng) (emap sk goneD s.G), .bx 46 e.av, .dead, .dead, .nm 7 xb]) (M2 := [.bx 54 [.mv 1, .mv 2, .mv 3, .mv 4], .mp 49 (s.nl) (emap pk Life.d s.L), .mp 50 (s.ns) (emap mk6 textD s.A), .mp 51 (s.nc) (emap vk Come.d s.C), .mp 52 (s.ng) (emap sk goneD s.G), .bx 46 e.av, .dead, .dead, .nm 7 xb]) rfl (by kernel_rfl) (And.intro (by first | rfl | simp) trivial) (fun _ _ _ hM => by cases hM; exact setE_at _ (emap_at hjo)) (by rw [setE_same hjo])
    refine castM (y := .z 230) (N' := [.bx 54 [.mv 1, .mv 2, .mv 3, .mv 4], .mp 49 (s.nl) (emap pk Life.d s.L), .mp 50 (s.ns) (emap mk6 textD s.A), .mp 51 (s.nc) (emap vk Come.d s.C), .mp 52 (s.ng) (emap sk goneD s.G)]) ((by rw [nextJo (by omega) hgl (by assumption)])) ((by rw [nextJo (by omega) hgl (by assumption)])) ?_
    exact toRetM tk mo hK rfl hbm [] 2000 [0, 1, 2, 3, 4] r (by kernel_rfl) trivial
   | true =>
    refine toAtM (todo' := aft Tryz.f11 3) (E' := [(0, .pt 0 0), (3, .pt 5 0), (4, .z 0), (5, .pt 7 0)]) (M' := [.bx 54 [.mv 1, .mv 2, .mv 3, .mv 4], .mp 49 (s.nl) (setE (emap pk Life.d s.L) jo (ptrV xb)), .mp 50 (s.ns) (emap mk6 textD s.A), .mp 51 (s.nc) (emap vk Come.d s.C), .mp 52 (s.ng) (emap sk goneD s.G), .bx 46 e.av, .rw 36 1 (nums fo.handed), .bx 82 (fo.lav 6), .nm 7 xb]) tk mo hK hbm [(3, [(6, .mkp (jo) (pk e.who) (ptrV xb) 8)])] 4 [0, 1, 2, 3, 4, 5, 6, 7, 8] [0, 3, 4, 5] r (by kernel_rfl) (an ((keys_setE (keysP hs.lives.ok ho.who)) : KeysOk Tryz.prog 38 ((pk e.who) :: List.map (fun (e : Nat × MK × DV) => e.2.1) (setE (emap pk Life.d s.L) jo (ptrV xb)))) (an (rfl : ((pk e.who) : MK) = (pk e.who)) (an ((by rw [setE_keys]; exact emap_nodup (fun _ _ h => pk_inj h) hs.lives.n) : (List.map (fun (e : Nat × MK × DV) => e.2.1) (setE (emap pk Life.d s.L) jo (ptrV xb))).Nodup) (an (⟨⟨_, setE_at _ (emap_at hjo)⟩, rfl⟩ : (∃ b0, (setE (emap pk Life.d s.L) jo (ptrV xb) : List (Nat × MK × DV))[jo]? = some (b0, (pk e.who), ptrV xb)) ∧ outP [.bx 54 [.mv 1, .mv 2, .mv 3, .mv 4], .mp 49 (s.nl) (setE (emap pk Life.d s.L) jo (ptrV xb)), .mp 50 (s.ns) (emap mk6 textD s.A), .mp 51 (s.nc) (emap vk Come.d s.C), .mp 52 (s.ng) (emap sk goneD s.G), .bx 46 e.av, .rw 36 1 (nums fo.handed), .bx 82 (fo.lav 6), .nm 7 xb] (ptrV xb) (some 8)) trivial)))) fun ac wd r => ?_
    have r := r.cast (M' := [.bx 54 [.mv 1, .mv 2, .mv 3, .mv 4], .mp 49 (s.nl) (setE (emap pk Life.d s.L) jo (ptrV xb)), .mp 50 (s.ns) (emap mk6 textD s.A), .mp 51 (s.nc) (emap vk Come.d s.C), .mp 52 (s.ng) (emap sk goneD s.G), .bx 46 e.av, .rw 36 1 (nums fo.handed), .bx 82 (fo.view.avs [.d (.v (.bool true)), .z fo.stands, .u fo.sent, .sl 6 (fo.handed.length)]), .nm 7 xb]) rfl (by first | rw [h3] | simp only [Life.lav, h3])
    refine toAtM (todo' := aft Tryz.f11 4) (E' := [(0, .pt 0 0), (3, .pt 5 0), (4, .z 0), (5, .pt 7 0), (28, .d (.v (.bool false)))]) (M' := [.bx 54 [.mv 1, .mv 2, .mv 3, .mv 4], .mp 49 (s.nl) (setE (emap pk Life.d s.L) jo (ptrV xb)), .mp 50 (s.ns) (emap mk6 textD s.A), .mp 51 (s.nc) (emap vk Come.d s.C), .mp 52 (s.ng) (emap sk goneD s.G), .bx 46 e.av, .rw 36 1 (nums fo.handed), .bx 82 (fo.view.avs [.d (.v (.bool true)), .z fo.stands, .u fo.sent, .sl 6 (fo.handed.length)]), .nm 7 xb]) tk mo hK hbm [] 3 [0, 1, 2, 3, 4, 5, 6, 7, 8] [0, 3, 4, 5, 28] r (by kernel_rfl) (an (ptrT80 : PtrT Tryz.prog 80) trivial) fun ac wd r => ?_
    have r := r.cast (M' := [.bx 54 [.mv 1, .mv 2, .mv 3, .mv 4], .mp 49 (s.nl) (setE (emap pk Life.d s.L) jo (ptrV xb)), .mp 50 (s.ns) (emap mk6 textD s.A), .mp 51 (s.nc) (emap vk Come.d s.C), .mp 52 (s.ng) (emap sk goneD s.G), .bx 46 e.av, .rw 36 1 (nums fo.handed), .bx 82 (fo.lav 6), .nm 7 xb]) rfl (by first | rw [h3] | simp only [Life.lav, h3])
    cases h4 : ((e.kind : Int) == 1) with
    | false =>
     have qh4 := ne_of_beq_false h4
     cases h5 : ((e.kind : Int) == 2) with
     | false =>
      have qh5 := ne_of_beq_false h5
      cases h6 : ((e.kind : Int) == 3) with
      | false =>
       have qh6 := ne_of_beq_false h6
       cases h7 : ((e.kind : Int) == 4) with
       | false =>
        have qh7 := ne_of_beq_false h7
        cases h8 : ((e.kind : Int) == 5) with
        | false =>
         have qh8 := ne_of_beq_false h8
         cases h9 : ((e.kind : Int) == 7) with
         | false =>
          have qh9 := ne_of_beq_false h9
          refine toAtM (todo' := aft Tryz.f11 20) (E' := [(4, .z 230)]) (M' := [.bx 54 [.mv 1, .mv 2, .mv 3, .mv 4], .mp 49 (s.nl) (setE (emap pk Life.d s.L) jo (ptrV xb)), .mp 50 (s.ns) (emap mk6 textD s.A), .mp 51 (s.nc) (emap vk Come.d s.C), .mp 52 (s.ng) (emap sk goneD s.G), .bx 46 e.av, .rw 36 1 (nums fo.handed), .bx 82 (fo.lav 6), .nm 7 xb]) tk mo hK hbm [(7, [(0, .b false)]), (9, [(0, .b false)]), (11, [(0, .b false)]), (13, [(0, .b false)]), (15, [(0, .b false)]), (17, [(0, .b false)])] 28 [0, 1, 2, 3, 4, 5, 6, 7, 8] [4] r (by kernel_rfl) (an h4 (an h5 (an h6 (an h7 (an h8 (an h9 trivial)))))) fun ac wd r => ?_
          have r := r.foldM (u := 7) (v := 8) (m := 1) (j := jo) (vc := [(fo.handed.length) = (nums fo.handed : List (List DV)).length]) (M1 := [.bx 54 [.mv 1, .mv 2, .mv 3, .mv 4], .mp 49 (s.nl) (setE (setE (emap pk Life.d s.L) jo (ptrV xb)) (jo) (.pb 82 (fo.view.dvs [.v (.bool (fo.on)), .z fo.stands, .u fo.sent, .em 36 1 (nums fo.handed)]))), .mp 50 (s.ns) (emap mk6 textD s.A), .mp 51 (s.nc) (emap vk Come.d s.C), .mp 52 (s.ng) (emap sk goneD s.G), .bx 46 e.av, .dead, .dead, .nm 7 xb]) (M2 := [.bx 54 [.mv 1, .mv 2, .mv 3, .mv 4], .mp 49 (s.nl) (emap pk Life.d s.L), .mp 50 (s.ns) (emap mk6 textD s.A), .mp 51 (s.nc) (emap vk Come.d s.C), .mp 52 (s.ng) (emap sk goneD s.G), .bx 46 e.av, .dead, .dead, .nm 7 xb]) rfl (by kernel_rfl) (And.intro (by first | rfl | simp) trivial) (fun _ _ _ hM => by cases hM; exact setE_at _ (emap_at hjo)) (by rw [setE_same hjo])
          refine castM (y := .z 230) (N' := [.bx 54 [.mv 1, .mv 2, .mv 3, .mv 4], .mp 49 (s.nl) (emap pk Life.d s.L), .mp 50 (s.ns) (emap mk6 textD s.A), .mp 51 (s.nc) (emap vk Come.d s.C), .mp 52 (s.ng) (emap sk goneD s.G)]) ((by rw [nextJl (by omega) hgl (by assumption), lifeJ_no (by omega) (by omega) (by omega) (by omega) (by omega) (by omega)])) ((by rw [nextJl (by omega) hgl (by assumption), lifeJ_no (by omega) (by omega) (by omega) (by omega) (by omega) (by omega)])) ?_
          exact toRetM tk mo hK rfl hbm [] 2000 [0, 1, 2, 3, 4] r (by kernel_rfl) trivial
         | true =>
          have qh9 := eq_of_beq h9
          refine toAtM (todo' := aft Tryz.f11 19) (E' := [(4, .z 0)]) (M' := [.bx 54 [.mv 1, .mv 2, .mv 3, .mv 4], .mp 49 (s.nl) (setE (emap pk Life.d s.L) jo (ptrV xb)), .mp 50 (s.ns) (emap mk6 textD s.A), .mp 51 (s.nc) (emap vk Come.d s.C), .mp 52 (s.ng) (emap sk goneD s.G), .bx 46 e.av, .rw 36 1 (nums fo.handed), .bx 82 (fo.view.avs [.d (.v (.bool false)), .z fo.stands, .u fo.sent, .sl 6 (fo.handed.length)]), .nm 7 xb]) tk mo hK hbm [(7, [(0, .b false)]), (9, [(0, .b false)]), (11, [(0, .b false)]), (13, [(0, .b false)]), (15, [(0, .b false)]), (17, [(0, .b true)])] 28 [0, 1, 2, 3, 4, 5, 6, 7, 8] [4] r (by kernel_rfl) (an h4 (an h5 (an h6 (an h7 (an h8 (an h9 trivial)))))) fun ac wd r => ?_
          have r := r.foldM (u := 7) (v := 8) (m := 1) (j := jo) (vc := [(fo.handed.length) = (nums fo.handed : List (List DV)).length]) (M1 := [.bx 54 [.mv 1, .mv 2, .mv 3, .mv 4], .mp 49 (s.nl) (setE (setE (emap pk Life.d s.L) jo (ptrV xb)) (jo) (.pb 82 (fo.view.dvs [.v (.bool false), .z fo.stands, .u fo.sent, .em 36 1 (nums fo.handed)]))), .mp 50 (s.ns) (emap mk6 textD s.A), .mp 51 (s.nc) (emap vk Come.d s.C), .mp 52 (s.ng) (emap sk goneD s.G), .bx 46 e.av, .dead, .dead, .nm 7 xb]) (M2 := [.bx 54 [.mv 1, .mv 2, .mv 3, .mv 4], .mp 49 (s.nl) (emap pk Life.d (setK s.L e.who ({ fo with on := false } : Life))), .mp 50 (s.ns) (emap mk6 textD s.A), .mp 51 (s.nc) (emap vk Come.d s.C), .mp 52 (s.ng) (emap sk goneD s.G), .bx 46 e.av, .dead, .dead, .nm 7 xb]) rfl (by kernel_rfl) (And.intro (by first | rfl | simp) trivial) (fun _ _ _ hM => by cases hM; exact setE_at _ (emap_at hjo)) (by rw [live_fold (f' := ({ fo with on := false } : Life)) hs.lives.n hjo])
          refine castM (y := .z 0) (N' := [.bx 54 [.mv 1, .mv 2, .mv 3, .mv 4], .mp 49 (s.nl) (emap pk Life.d (setK s.L e.who ({ fo with on := false } : Life))), .mp 50 (s.ns) (emap mk6 textD s.A), .mp 51 (s.nc) (emap vk Come.d s.C), .mp 52 (s.ng) (emap sk goneD s.G)]) ((by rw [nextJl (by omega) hgl (by assumption), lifeJ7 (by omega)])) ((by rw [nextJl (by omega) hgl (by assumption), lifeJ7 (by omega)])) ?_
          exact toRetM tk mo hK rfl hbm [] 2000 [0, 1, 2, 3, 4] r (by kernel_rfl) trivial
        | true =>
         have qh8 := eq_of_beq h8
         cases h10 : ((viewJ s.C s.nc s.G s.ng fo e).err == 0) with
         | false =>
          refine toAtM (todo' := aft Tryz.f11 16) (E' := [(4, .z ((viewJ s.C s.nc s.G s.ng fo e).err))]) (M' := [.bx 54 [.mv 1, .mv 2, .mv 3, .mv 4], .mp 49 (s.nl) (setE (emap pk Life.d s.L) jo (ptrV xb)), .mp 50 (s.ns) (emap mk6 textD s.A), .mp 51 ((viewJ s.C s.nc s.G s.ng fo e).nc) (emap vk Come.d (viewJ s.C s.nc s.G s.ng fo e).C), .mp 52 ((viewJ s.C s.nc s.G s.ng fo e).ng) (emap sk goneD (viewJ s.C s.nc s.G s.ng fo e).G), .bx 46 e.av, .rw 36 1 (nums (viewJ s.C s.nc s.G s.ng fo e).f.handed), .bx 82 ((viewJ s.C s.nc s.G s.ng fo e).f.view.avs [.d (.v (.bool ((viewJ s.C s.nc s.G s.ng fo e).f.on))), .z ((viewJ s.C s.nc s.G s.ng fo e).f.stands), .u ((viewJ s.C s.nc s.G s.ng fo e).f.sent), .sl 6 ((viewJ s.C s.nc s.G s.ng fo e).f.handed.length)]), .nm 7 xb]) tk mo hK hbm [(7, [(0, .b false)]), (9, [(0, .b false)]), (11, [(0, .b false)]), (13, [(0, .b false)]), (15, [(0, .b true)]), (16, [(3, .mem [0, 1, 2, 3, 4, 7, 6] (.z ((viewJ s.C s.nc s.G s.ng fo e).err)) [.bx 54 [.mv 1, .mv 2, .mv 3, .mv 4], .mp 49 (s.nl) (setE (emap pk Life.d s.L) jo (ptrV xb)), .mp 50 (s.ns) (emap mk6 textD s.A), .mp 51 ((viewJ s.C s.nc s.G s.ng fo e).nc) (emap vk Come.d (viewJ s.C s.nc s.G s.ng fo e).C), .mp 52 ((viewJ s.C s.nc s.G s.ng fo e).ng) (emap sk goneD (viewJ s.C s.nc s.G s.ng fo e).G), .bx 82 ((viewJ s.C s.nc s.G s.ng fo e).f.view.avs [.d (.v (.bool ((viewJ s.C s.nc s.G s.ng fo e).f.on))), .z ((viewJ s.C s.nc s.G s.ng fo e).f.stands), .u ((viewJ s.C s.nc s.G s.ng fo e).f.sent), .sl 6 ((viewJ s.C s.nc s.G s.ng fo e).f.handed.length)]), .rw 36 1 (nums (viewJ s.C s.nc s.G s.ng fo e).f.handed)])])] 23 [0, 1, 2, 3, 4, 5, 6, 7, 8] [4] r (by kernel_rfl) (an h4 (an h5 (an h6 (an h7 (an h8 (an ((by have k := viewOk (setE (emap pk Life.d s.L) jo (ptrV xb)) (emap mk6 textD s.A) s.nl s.ns s.C s.nc s.G s.ng fo e ho hs.came hs.gone hfo; rw [h10] at k; exact k) : ConM Tryz.prog 19 [.pt 0 0, .pt 5 0, .ag e.av] [.bx 54 [.mv 1, .mv 2, .mv 3, .mv 4], .mp 49 (s.nl) (setE (emap pk Life.d s.L) jo (ptrV xb)), .mp 50 (s.ns) (emap mk6 textD s.A), .mp 51 (s.nc) (emap vk Come.d s.C), .mp 52 (s.ng) (emap sk goneD s.G), .bx 82 (fo.lav 6), .rw 36 1 (nums fo.handed)] (.z ((viewJ s.C s.nc s.G s.ng fo e).err)) [.bx 54 [.mv 1, .mv 2, .mv 3, .mv 4], .mp 49 (s.nl) (setE (emap pk Life.d s.L) jo (ptrV xb)), .mp 50 (s.ns) (emap mk6 textD s.A), .mp 51 ((viewJ s.C s.nc s.G s.ng fo e).nc) (emap vk Come.d (viewJ s.C s.nc s.G s.ng fo e).C), .mp 52 ((viewJ s.C s.nc s.G s.ng fo e).ng) (emap sk goneD (viewJ s.C s.nc s.G s.ng fo e).G), .bx 82 ((viewJ s.C s.nc s.G s.ng fo e).f.view.avs [.d (.v (.bool ((viewJ s.C s.nc s.G s.ng fo e).f.on))), .z ((viewJ s.C s.nc s.G s.ng fo e).f.stands), .u ((viewJ s.C s.nc s.G s.ng fo e).f.sent), .sl 6 ((viewJ s.C s.nc s.G s.ng fo e).f.handed.length)]), .rw 36 1 (nums (viewJ s.C s.nc s.G s.ng fo e).f.handed)]) trivial)))))) fun ac wd r => ?_
          have r := r.foldM (u := 7) (v := 8) (m := 1) (j := jo) (vc := [((viewJ s.C s.nc s.G s.ng fo e).f.handed.length) = (nums (viewJ s.C s.nc s.G s.ng fo e).f.handed : List (List DV)).length]) (M1 := [.bx 54 [.mv 1, .mv 2, .mv 3, .mv 4], .mp 49 (s.nl) (setE (setE (emap pk Life.d s.L) jo (ptrV xb)) (jo) (.pb 82 ((viewJ s.C s.nc s.G s.ng fo e).f.view.dvs [.v (.bool ((viewJ s.C s.nc s.G s.ng fo e).f.on)), .z ((viewJ s.C s.nc s.G s.ng fo e).f.stands), .u ((viewJ s.C s.nc s.G s.ng fo e).f.sent), .em 36 1 (nums (viewJ s.C s.nc s.G s.ng fo e).f.handed)]))), .mp 50 (s.ns) (emap mk6 textD s.A), .mp 51 ((viewJ s.C s.nc s.G s.ng fo e).nc) (emap vk Come.d (viewJ s.C s.nc s.G s.ng fo e).C), .mp 52 ((viewJ s.C s.nc s.G s.ng fo e).ng) (emap sk goneD (viewJ s.C s.nc s.G s.ng fo e).G), .bx 46 e.av, .dead, .dead, .nm 7 xb]) (M2 := [.bx 54 [.mv 1, .mv 2, .mv 3, .mv 4], .mp 49 (s.nl) (emap pk Life.d (setK s.L e.who (viewJ s.C s.nc s.G s.ng fo e).f)), .mp 50 (s.ns) (emap mk6 textD s.A), .mp 51 ((viewJ s.C s.nc s.G s.ng fo e).nc) (emap vk Come.d (viewJ s.C s.nc s.G s.ng fo e).C), .mp 52 ((viewJ s.C s.nc s.G s.ng fo e).ng) (emap sk goneD (viewJ s.C s.nc s.G s.ng fo e).G), .bx 46 e.av, .dead, .dead, .nm 7 xb]) rfl (by kernel_rfl) (And.intro (by first | rfl | simp) trivial) (fun _ _ _ hM => by cases hM; exact setE_at _ (emap_at hjo)) (by rw [live_fold (f' := (viewJ s.C s.nc s.G s.ng fo e).f) hs.lives.n hjo])
          refine castM (y := .z ((viewJ s.C s.nc s.G s.ng fo e).err)) (N' := [.bx 54 [.mv 1, .mv 2, .mv 3, .mv 4], .mp 49 (s.nl) (emap pk Life.d (setK s.L e.who (viewJ s.C s.nc s.G s.ng fo e).f)), .mp 50 (s.ns) (emap mk6 textD s.A), .mp 51 ((viewJ s.C s.nc s.G s.ng fo e).nc) (emap vk Come.d (viewJ s.C s.nc s.G s.ng fo e).C), .mp 52 ((viewJ s.C s.nc s.G s.ng fo e).ng) (emap sk goneD (viewJ s.C s.nc s.G s.ng fo e).G)]) ((by rw [nextJl (by omega) hgl (by assumption), lifeJ5 (by omega)])) ((by rw [nextJl (by omega) hgl (by assumption), lifeJ5 (by omega)])) ?_
          exact toRetM tk mo hK rfl hbm [] 2000 [0, 1, 2, 3, 4] r (by kernel_rfl) trivial
         | true =>
          refine toAtM (todo' := aft Tryz.f11 16) (E' := [(4, .z ((viewJ s.C s.nc s.G s.ng fo e).err))]) (M' := [.bx 54 [.mv 1, .mv 2, .mv 3, .mv 4], .mp 49 (s.nl) (setE (emap pk Life.d s.L) jo (ptrV xb)), .mp 50 (s.ns) (emap mk6 textD s.A), .mp 51 ((viewJ s.C s.nc s.G s.ng fo e).nc) (emap vk Come.d (viewJ s.C s.nc s.G s.ng fo e).C), .mp 52 ((viewJ s.C s.nc s.G s.ng fo e).ng) (emap sk goneD (viewJ s.C s.nc s.G s.ng fo e).G), .bx 46 e.av, .dead, .bx 82 ((viewJ s.C s.nc s.G s.ng fo e).f.view.avs [.d (.v (.bool ((viewJ s.C s.nc s.G s.ng fo e).f.on))), .z ((viewJ s.C s.nc s.G s.ng fo e).f.stands), .u ((viewJ s.C s.nc s.G s.ng fo e).f.sent), .sl 9 ((viewJ s.C s.nc s.G s.ng fo e).f.handed.length)]), .nm 7 xb, .rw 36 1 (nums (viewJ s.C s.nc s.G s.ng fo e).f.handed)]) tk mo hK hbm [(7, [(0, .b false)]), (9, [(0, .b false)]), (11, [(0, .b false)]), (13, [(0, .b false)]), (15, [(0, .b true)]), (16, [(3, .mem [0, 1, 2, 3, 4, 7, 6] (.z ((viewJ s.C s.nc s.G s.ng fo e).err)) [.bx 54 [.mv 1, .mv 2, .mv 3, .mv 4], .mp 49 (s.nl) (setE (emap pk Life.d s.L) jo (ptrV xb)), .mp 50 (s.ns) (emap mk6 textD s.A), .mp 51 ((viewJ s.C s.nc s.G s.ng fo e).nc) (emap vk Come.d (viewJ s.C s.nc s.G s.ng fo e).C), .mp 52 ((viewJ s.C s.nc s.G s.ng fo e).ng) (emap sk goneD (viewJ s.C s.nc s.G s.ng fo e).G), .bx 82 ((viewJ s.C s.nc s.G s.ng fo e).f.view.avs [.d (.v (.bool ((viewJ s.C s.nc s.G s.ng fo e).f.on))), .z ((viewJ s.C s.nc s.G s.ng fo e).f.stands), .u ((viewJ s.C s.nc s.G s.ng fo e).f.sent), .sl 7 ((viewJ s.C s.nc s.G s.ng fo e).f.handed.length)]), .dead, .rw 36 1 (nums (viewJ s.C s.nc s.G s.ng fo e).f.handed)])])] 23 [0, 1, 2, 3, 4, 5, 6, 7, 8, 9] [4] r (by kernel_rfl) (an h4 (an h5 (an h6 (an h7 (an h8 (an ((by have k := viewOk (setE (emap pk Life.d s.L) jo (ptrV xb)) (emap mk6 textD s.A) s.nl s.ns s.C s.nc s.G s.ng fo e ho hs.came hs.gone hfo; rw [h10] at k; exact k) : ConM Tryz.prog 19 [.pt 0 0, .pt 5 0, .ag e.av] [.bx 54 [.mv 1, .mv 2, .mv 3, .mv 4], .mp 49 (s.nl) (setE (emap pk Life.d s.L) jo (ptrV xb)), .mp 50 (s.ns) (emap mk6 textD s.A), .mp 51 (s.nc) (emap vk Come.d s.C), .mp 52 (s.ng) (emap sk goneD s.G), .bx 82 (fo.lav 6), .rw 36 1 (nums fo.handed)] (.z ((viewJ s.C s.nc s.G s.ng fo e).err)) [.bx 54 [.mv 1, .mv 2, .mv 3, .mv 4], .mp 49 (s.nl) (setE (emap pk Life.d s.L) jo (ptrV xb)), .mp 50 (s.ns) (emap mk6 textD s.A), .mp 51 ((viewJ s.C s.nc s.G s.ng fo e).nc) (emap vk Come.d (viewJ s.C s.nc s.G s.ng fo e).C), .mp 52 ((viewJ s.C s.nc s.G s.ng fo e).ng) (emap sk goneD (viewJ s.C s.nc s.G s.ng fo e).G), .bx 82 ((viewJ s.C s.nc s.G s.ng fo e).f.view.avs [.d (.v (.bool ((viewJ s.C s.nc s.G s.ng fo e).f.on))), .z ((viewJ s.C s.nc s.G s.ng fo e).f.stands), .u ((viewJ s.C s.nc s.G s.ng fo e).f.sent), .sl 7 ((viewJ s.C s.nc s.G s.ng fo e).f.handed.length)]), .dead, .rw 36 1 (nums (viewJ s.C s.nc s.G s.ng fo e).f.handed)]) trivial)))))) fun ac wd r => ?_
          have r := r.foldM (u := 7) (v := 8) (m := 1) (j := jo) (vc := [((viewJ s.C s.nc s.G s.ng fo e).f.handed.length) = (nums (viewJ s.C s.nc s.G s.ng fo e).f.handed : List (List DV)).length]) (M1 := [.bx 54 [.mv 1, .mv 2, .mv 3, .mv 4], .mp 49 (s.nl) (setE (setE (emap pk Life.d s.L) jo (ptrV xb)) (jo) (.pb 82 ((viewJ s.C s.nc s.G s.ng fo e).f.view.dvs [.v (.bool ((viewJ s.C s.nc s.G s.ng fo e).f.on)), .z ((viewJ s.C s.nc s.G s.ng fo e).f.stands), .u ((viewJ s.C s.nc s.G s.ng fo e).f.sent), .em 36 1 (nums (viewJ s.C s.nc s.G s.ng fo e).f.handed)]))), .mp 50 (s.ns) (emap mk6 textD s.A), .mp 51 ((viewJ s.C s.nc s.G s.ng fo e).nc) (emap vk Come.d (viewJ s.C s.nc s.G s.ng fo e).C), .mp 52 ((viewJ s.C s.nc s.G s.ng fo e).ng) (emap sk goneD (viewJ s.C s.nc s.G s.ng fo e).G), .bx 46 e.av, .dead, .dead, .nm 7 xb, .dead]) (M2 := [.bx 54 [.mv 1, .mv 2, .mv 3, .mv 4], .mp 49 (s.nl) (emap pk Life.d (setK s.L e.who (viewJ s.C s.nc s.G s.ng fo e).f)), .mp 50 (s.ns) (emap mk6 textD s.A), .mp 51 ((viewJ s.C s.nc s.G s.ng fo e).nc) (emap vk Come.d (viewJ s.C s.nc s.G s.ng fo e).C), .mp 52 ((viewJ s.C s.nc s.G s.ng fo e).ng) (emap sk goneD (viewJ s.C s.nc s.G s.ng fo e).G), .bx 46 e.av, .dead, .dead, .nm 7 xb, .dead]) rfl (by kernel_rfl) (And.intro (by first | rfl | simp) trivial) (fun _ _ _ hM => by cases hM; exact setE_at _ (emap_at hjo)) (by rw [live_fold (f' := (viewJ s.C s.nc s.G s.ng fo e).f) hs.lives.n hjo])
          refine castM (y := .z ((viewJ s.C s.nc s.G s.ng fo e).err)) (N' := [.bx 54 [.mv 1, .mv 2, .mv 3, .mv 4], .mp 49 (s.nl) (emap pk Life.d (setK s.L e.who (viewJ s.C s.nc s.G s.ng fo e).f)), .mp 50 (s.ns) (emap mk6 textD s.A), .mp 51 ((viewJ s.C s.nc s.G s.ng fo e).nc) (emap vk Come.d (viewJ s.C s.nc s.G s.ng fo e).C), .mp 52 ((viewJ s.C s.nc s.G s.ng fo e).ng) (emap sk goneD (viewJ s.C s.nc s.G s.ng fo e).G)]) ((by rw [nextJl (by omega) hgl (by assumption), lifeJ5 (by omega)])) ((by rw [nextJl (by omega) hgl (by assumption), lifeJ5 (by omega)])) ?_
          exact toRetM tk mo hK rfl hbm [] 2000 [0, 1, 2, 3, 4] r (by kernel_rfl) trivial
       | true =>
        have qh7 := eq_of_beq h7
        cases h11 : ((fo.stands : Int) != 1) with
        | false =>
         have qh11 := eq_of_bne h11
         refine toAtM (todo' := aft Tryz.f11 14) (E' := [(4, .z 0)]) (M' := [.bx 54 [.mv 1, .mv 2, .mv 3, .mv 4], .mp 49 (s.nl) (setE (emap pk Life.d s.L) jo (ptrV xb)), .mp 50 (s.ns) (emap mk6 textD s.A), .mp 51 (s.nc) (emap vk Come.d s.C), .mp 52 (s.ng) (emap sk goneD s.G), .bx 46 e.av, .rw 36 1 (nums fo.handed), .bx 82 (fo.view.avs [.d (.v (.bool (fo.on))), .z 2, .u fo.sent, .sl 6 (fo.handed.length)]), .nm 7 xb]) tk mo hK hbm [(7, [(0, .b false)]), (9, [(0, .b false)]), (11, [(0, .b false)]), (13, [(0, .b true)]), (14, [(1, .into 200 [(1, [(5, .b false)])])])] 20 [0, 1, 2, 3, 4, 5, 6, 7, 8] [4] r (by kernel_rfl) (an h4 (an h5 (an h6 (an h7 (an h11 trivial))))) fun ac wd r => ?_
         have r := r.foldM (u := 7) (v := 8) (m := 1) (j := jo) (vc := [(fo.handed.length) = (nums fo.handed : List (List DV)).length]) (M1 := [.bx 54 [.mv 1, .mv 2, .mv 3, .mv 4], .mp 49 (s.nl) (setE (setE (emap pk Life.d s.L) jo (ptrV xb)) (jo) (.pb 82 (fo.view.dvs [.v (.bool (fo.on)), .z 2, .u fo.sent, .em 36 1 (nums fo.handed)]))), .mp 50 (s.ns) (emap mk6 textD s.A), .mp 51 (s.nc) (emap vk Come.d s.C), .mp 52 (s.ng) (emap sk goneD s.G), .bx 46 e.av, .dead, .dead, .nm 7 xb]) (M2 := [.bx 54 [.mv 1, .mv 2, .mv 3, .mv 4], .mp 49 (s.nl) (emap pk Life.d (setK s.L e.who ({ fo with stands := 2 } : Life))), .mp 50 (s.ns) (emap mk6 textD s.A), .mp 51 (s.nc) (emap vk Come.d s.C), .mp 52 (s.ng) (emap sk goneD s.G), .bx 46 e.av, .dead, .dead, .nm 7 xb]) rfl (by kernel_rfl) (And.intro (by first | rfl | simp) trivial) (fun _ _ _ hM => by cases hM; exact setE_at _ (emap_at hjo)) (by rw [live_fold (f' := ({ fo with stands := 2 } : Life)) hs.lives.n hjo])
         refine castM (y := .z 0) (N' := [.bx 54 [.mv 1, .mv 2, .mv 3, .mv 4], .mp 49 (s.nl) (emap pk Life.d (setK s.L e.who ({ fo with stands := 2 } : Life))), .mp 50 (s.ns) (emap mk6 textD s.A), .mp 51 (s.nc) (emap vk Come.d s.C), .mp 52 (s.ng) (emap sk goneD s.G)]) ((by rw [nextJl (by omega) hgl (by assumption), lifeJ4 (by omega), turn_yes (by omega)])) ((by rw [nextJl (by omega) hgl (by assumption), lifeJ4 (by omega), turn_yes (by omega)])) ?_
         exact toRetM tk mo hK rfl hbm [] 2000 [0, 1, 2, 3, 4] r (by kernel_rfl) trivial
        | true =>
         have qh11 : ¬ _ = _ := bne_iff_ne.1 h11
         refine toAtM (todo' := aft Tryz.f11 14) (E' := [(4, .z 231)]) (M' := [.bx 54 [.mv 1, .mv 2, .mv 3, .mv 4], .mp 49 (s.nl) (setE (emap pk Life.d s.L) jo (ptrV xb)), .mp 50 (s.ns) (emap mk6 textD s.A), .mp 51 (s.nc) (emap vk Come.d s.C), .mp 52 (s.ng) (emap sk goneD s.G), .bx 46 e.av, .rw 36 1 (nums fo.handed), .bx 82 (fo.lav 6), .nm 7 xb]) tk mo hK hbm [(7, [(0, .b false)]), (9, [(0, .b false)]), (11, [(0, .b false)]), (13, [(0, .b true)]), (14, [(1, .into 200 [(1, [(5, .b true)])])])] 20 [0, 1, 2, 3, 4, 5, 6, 7, 8] [4] r (by kernel_rfl) (an h4 (an h5 (an h6 (an h7 (an h11 trivial))))) fun ac wd r => ?_
         have r := r.foldM (u := 7) (v := 8) (m := 1) (j := jo) (vc := [(fo.handed.length) = (nums fo.handed : List (List DV)).length]) (M1 := [.bx 54 [.mv 1, .mv 2, .mv 3, .mv 4], .mp 49 (s.nl) (setE (setE (emap pk Life.d s.L) jo (ptrV xb)) (jo) (.pb 82 (fo.view.dvs [.v (.bool (fo.on)), .z fo.stands, .u fo.sent, .em 36 1 (nums fo.handed)]))), .mp 50 (s.ns) (emap mk6 textD s.A), .mp 51 (s.nc) (emap vk Come.d s.C), .mp 52 (s.ng) (emap sk goneD s.G), .bx 46 e.av, .dead, .dead, .nm 7 xb]) (M2 := [.bx 54 [.mv 1, .mv 2, .mv 3, .mv 4], .mp 49 (s.nl) (emap pk Life.d (setK s.L e.who fo)), .mp 50 (s.ns) (emap mk6 textD s.A), .mp 51 (s.nc) (emap vk Come.d s.C), .mp 52 (s.ng) (emap sk goneD s.G), .bx 46 e.av, .dead, .dead, .nm 7 xb]) rfl (by kernel_rfl) (And.intro (by first | rfl | simp) trivial) (fun _ _ _ hM => by cases hM; exact setE_at _ (emap_at hjo)) (by rw [live_fold (f' := fo) hs.lives.n hjo])
         refine castM (y := .z 231) (N' := [.bx 54 [.mv 1, .mv 2, .mv 3, .mv 4], .mp 49 (s.nl) (emap pk Life.d (setK s.L e.who fo)), .mp 50 (s.ns) (emap mk6 textD s.A), .mp 51 (s.nc) (emap vk Come.d s.C), .mp 52 (s.ng) (emap sk goneD s.G)]) ((by rw [nextJl (by omega) hgl (by assumption), lifeJ4 (by omega), turn_no (by omega)])) ((by rw [nextJl (by omega) hgl (by assumption), lifeJ4 (by omega), turn_no (by omega)])) ?_
         exact toRetM tk mo hK rfl hbm [] 2000 [0, 1, 2, 3, 4] r (by kernel_rfl) trivial
      | true =>
       have qh6 := eq_of_beq h6
       cases h12 : ((fo.stands : Int) != 0) with
       | false =>
        have qh12 := eq_of_bne h12
        refine toAtM (todo' := aft Tryz.f11 12) (E' := [(4, .z 0)]) (M' := [.bx 54 [.mv 1, .mv 2, .mv 3, .mv 4], .mp 49 (s.nl) (setE (emap pk Life.d s.L) jo (ptrV xb)), .mp 50 (s.ns) (emap mk6 textD s.A), .mp 51 (s.nc) (emap vk Come.d s.C), .mp 52 (s.ng) (emap sk goneD s.G), .bx 46 e.av, .rw 36 1 (nums fo.handed), .bx 82 (fo.view.avs [.d (.v (.bool (fo.on))), .z 1, .u fo.sent, .sl 6 (fo.handed.length)]), .nm 7 xb]) tk mo hK hbm [(7, [(0, .b false)]), (9, [(0, .b false)]), (11, [(0, .b true)]), (12, [(1, .into 200 [(1, [(5, .b false)])])])] 17 [0, 1, 2, 3, 4, 5, 6, 7, 8] [4] r (by kernel_rfl) (an h4 (an h5 (an h6 (an h12 trivial)))) fun ac wd r => ?_
        have r := r.foldM (u := 7) (v := 8) (m := 1) (j := jo) (vc := [(fo.handed.length) = (nums fo.handed : List (List DV)).length]) (M1 := [.bx 54 [.mv 1, .mv 2, .mv 3, .mv 4], .mp 49 (s.nl) (setE (setE (emap pk Life.d s.L) jo (ptrV xb)) (jo) (.pb 82 (fo.view.dvs [.v (.bool (fo.on)), .z 1, .u fo.sent, .em 36 1 (nums fo.handed)]))), .mp 50 (s.ns) (emap mk6 textD s.A), .mp 51 (s.nc) (emap vk Come.d s.C), .mp 52 (s.ng) (emap sk goneD s.G), .bx 46 e.av, .dead, .dead, .nm 7 xb]) (M2 := [.bx 54 [.mv 1, .mv 2, .mv 3, .mv 4], .mp 49 (s.nl) (emap pk Life.d (setK s.L e.who ({ fo with stands := 1 } : Life))), .mp 50 (s.ns) (emap mk6 textD s.A), .mp 51 (s.nc) (emap vk Come.d s.C), .mp 52 (s.ng) (emap sk goneD s.G), .bx 46 e.av, .dead, .dead, .nm 7 xb]) rfl (by kernel_rfl) (And.intro (by first | rfl | simp) trivial) (fun _ _ _ hM => by cases hM; exact setE_at _ (emap_at hjo)) (by rw [live_fold (f' := ({ fo with stands := 1 } : Life)) hs.lives.n hjo])
        refine castM (y := .z 0) (N' := [.bx 54 [.mv 1, .mv 2, .mv 3, .mv 4], .mp 49 (s.nl) (emap pk Life.d (setK s.L e.who ({ fo with stands := 1 } : Life))), .mp 50 (s.ns) (emap mk6 textD s.A), .mp 51 (s.nc) (emap vk Come.d s.C), .mp 52 (s.ng) (emap sk goneD s.G)]) ((by rw [nextJl (by omega) hgl (by assumption), lifeJ3 (by omega), turn_yes (by omega)])) ((by rw [nextJl (by omega) hgl (by assumption), lifeJ3 (by omega), turn_yes (by omega)])) ?_
        exact toRetM tk mo hK rfl hbm [] 2000 [0, 1, 2, 3, 4] r (by kernel_rfl) trivial
       | true =>
        have qh12 : ¬ _ = _ := bne_iff_ne.1 h12
        refine toAtM (todo' := aft Tryz.f11 12) (E' := [(4, .z 231)]) (M' := [.bx 54 [.mv 1, .mv 2, .mv 3, .mv 4], .mp 49 (s.nl) (setE (emap pk Life.d s.L) jo (ptrV xb)), .mp 50 (s.ns) (emap mk6 textD s.A), .mp 51 (s.nc) (emap vk Come.d s.C), .mp 52 (s.ng) (emap sk goneD s.G), .bx 46 e.av, .rw 36 1 (nums fo.handed), .bx 82 (fo.lav 6), .nm 7 xb]) tk mo hK hbm [(7, [(0, .b false)]), (9, [(0, .b false)]), (11, [(0, .b true)]), (12, [(1, .into 200 [(1, [(5, .b true)])])])] 17 [0, 1, 2, 3, 4, 5, 6, 7, 8] [4] r (by kernel_rfl) (an h4 (an h5 (an h6 (an h12 trivial)))) fun ac wd r => ?_
        have r := r.foldM (u := 7) (v := 8) (m := 1) (j := jo) (vc := [(fo.handed.length) = (nums fo.handed : List (List DV)).length]) (M1 := [.bx 54 [.mv 1, .mv 2, .mv 3, .mv 4], .mp 49 (s.nl) (setE (setE (emap pk Life.d s.L) jo (ptrV xb)) (jo) (.pb 82 (fo.view.dvs [.v (.bool (fo.on)), .z fo.stands, .u fo.sent, .em 36 1 (nums fo.handed)]))), .mp 50 (s.ns) (emap mk6 textD s.A), .mp 51 (s.nc) (emap vk Come.d s.C), .mp 52 (s.ng) (emap sk goneD s.G), .bx 46 e.av, .dead, .dead, .nm 7 xb]) (M2 := [.bx 54 [.mv 1, .mv 2, .mv 3, .mv 4], .mp 49 (s.nl) (emap pk Life.d (setK s.L e.who fo)), .mp 50 (s.ns) (emap mk6 textD s.A), .mp 51 (s.nc) (emap vk Come.d s.C), .mp 52 (s.ng) (emap sk goneD s.G), .bx 46 e.av, .dead, .dead, .nm 7 xb]) rfl (by kernel_rfl) (And.intro (by first | rfl | simp) trivial) (fun _ _ _ hM => by cases hM; exact setE_at _ (emap_at hjo)) (by rw [live_fold (f' := fo) hs.lives.n hjo])
        refine castM (y := .z 231) (N' := [.bx 54 [.mv 1, .mv 2, .mv 3, .mv 4], .mp 49 (s.nl) (emap pk Life.d (setK s.L e.who fo)), .mp 50 (s.ns) (emap mk6 textD s.A), .mp 51 (s.nc) (emap vk Come.d s.C), .mp 52 (s.ng) (emap sk goneD s.G)]) ((by rw [nextJl (by omega) hgl (by assumption), lifeJ3 (by omega), turn_no (by omega)])) ((by rw [nextJl (by omega) hgl (by assumption), lifeJ3 (by omega), turn_no (by omega)])) ?_
        exact toRetM tk mo hK rfl hbm [] 2000 [0, 1, 2, 3, 4] r (by kernel_rfl) trivial
     | true =>
      have qh5 := eq_of_beq h5
      refine toAtM (todo' := aft Tryz.f11 10) (E' := [(4, .z ((deliverJ s.A fo e).err))]) (M' := [.bx 54 [.mv 1, .mv 2, .mv 3, .mv 4], .mp 49 (s.nl) (setE (emap pk Life.d s.L) jo (ptrV xb)), .mp 50 (s.ns) (emap mk6 textD s.A), .mp 51 (s.nc) (emap vk Come.d s.C), .mp 52 (s.ng) (emap sk goneD s.G), .bx 46 e.av, .rw 36 1 (nums (deliverJ s.A fo e).f.handed), .bx 82 ((deliverJ s.A fo e).f.view.avs [.d (.v (.bool ((deliverJ s.A fo e).f.on))), .z ((deliverJ s.A fo e).f.stands), .u ((deliverJ s.A fo e).f.sent), .sl 6 ((deliverJ s.A fo e).f.handed.length)]), .nm 7 xb]) tk mo hK hbm [(7, [(0, .b false)]), (9, [(0, .b true)]), (10, [(3, .mem [0, 1, 2, 3, 4, 7, 6] (.z ((deliverJ s.A fo e).err)) [.bx 54 [.mv 1, .mv 2, .mv 3, .mv 4], .mp 49 (s.nl) (setE (emap pk Life.d s.L) jo (ptrV xb)), .mp 50 (s.ns) (emap mk6 textD s.A), .mp 51 (s.nc) (emap vk Come.d s.C), .mp 52 (s.ng) (emap sk goneD s.G), .bx 82 ((deliverJ s.A fo e).f.view.avs [.d (.v (.bool ((deliverJ s.A fo e).f.on))), .z ((deliverJ s.A fo e).f.stands), .u ((deliverJ s.A fo e).f.sent), .sl 6 ((deliverJ s.A fo e).f.handed.length)]), .rw 36 1 (nums (deliverJ s.A fo e).f.handed)])])] 14 [0, 1, 2, 3, 4, 5, 6, 7, 8] [4] r (by kernel_rfl) (an h4 (an h5 (an ((by have k := deliverOk (setE (emap pk Life.d s.L) jo (ptrV xb)) (emap vk Come.d s.C) (emap sk goneD s.G) s.nl s.nc s.ng s.A s.ns fo e ho hs.sent hfo.vid (View.may_bounded hfo.may) hfo.len; exact k) : ConM Tryz.prog 17 [.pt 0 0, .pt 5 0, .ag e.av] [.bx 54 [.mv 1, .mv 2, .mv 3, .mv 4], .mp 49 (s.nl) (setE (emap pk Life.d s.L) jo (ptrV xb)), .mp 50 (s.ns) (emap mk6 textD s.A), .mp 51 (s.nc) (emap vk Come.d s.C), .mp 52 (s.ng) (emap sk goneD s.G), .bx 82 (fo.lav 6), .rw 36 1 (nums fo.handed)] (.z ((deliverJ s.A fo e).err)) [.bx 54 [.mv 1, .mv 2, .mv 3, .mv 4], .mp 49 (s.nl) (setE (emap pk Life.d s.L) jo (ptrV xb)), .mp 50 (s.ns) (emap mk6 textD s.A), .mp 51 (s.nc) (emap vk Come.d s.C), .mp 52 (s.ng) (emap sk goneD s.G), .bx 82 ((deliverJ s.A fo e).f.view.avs [.d (.v (.bool ((deliverJ s.A fo e).f.on))), .z ((deliverJ s.A fo e).f.stands), .u ((deliverJ s.A fo e).f.sent), .sl 6 ((deliverJ s.A fo e).f.handed.length)]), .rw 36 1 (nums (deliverJ s.A fo e).f.handed)]) trivial))) fun ac wd r => ?_
      have r := r.foldM (u := 7) (v := 8) (m := 1) (j := jo) (vc := [((deliverJ s.A fo e).f.handed.length) = (nums (deliverJ s.A fo e).f.handed : List (List DV)).length]) (M1 := [.bx 54 [.mv 1, .mv 2, .mv 3, .mv 4], .mp 49 (s.nl) (setE (setE (emap pk Life.d s.L) jo (ptrV xb)) (jo) (.pb 82 ((deliverJ s.A fo e).f.view.dvs [.v (.bool ((deliverJ s.A fo e).f.on)), .z ((deliverJ s.A fo e).f.stands), .u ((deliverJ s.A fo e).f.sent), .em 36 1 (nums (deliverJ s.A fo e).f.handed)]))), .mp 50 (s.ns) (emap mk6 textD s.A), .mp 51 (s.nc) (emap vk Come.d s.C), .mp 52 (s.ng) (emap sk goneD s.G), .bx 46 e.av, .dead, .dead, .nm 7 xb]) (M2 := [.bx 54 [.mv 1, .mv 2, .mv 3, .mv 4], .mp 49 (s.nl) (emap pk Life.d (setK s.L e.who (deliverJ s.A fo e).f)), .mp 50 (s.ns) (emap mk6 textD s.A), .mp 51 (s.nc) (emap vk Come.d s.C), .mp 52 (s.ng) (emap sk goneD s.G), .bx 46 e.av, .dead, .dead, .nm 7 xb]) rfl (by kernel_rfl) (And.intro (by first | rfl | simp) trivial) (fun _ _ _ hM => by cases hM; exact setE_at _ (emap_at hjo)) (by rw [live_fold (f' := (deliverJ s.A fo e).f) hs.lives.n hjo])
      refine castM (y := .z ((deliverJ s.A fo e).err)) (N' := [.bx 54 [.mv 1, .mv 2, .mv 3, .mv 4], .mp 49 (s.nl) (emap pk Life.d (setK s.L e.who (deliverJ s.A fo e).f)), .mp 50 (s.ns) (emap mk6 textD s.A), .mp 51 (s.nc) (emap vk Come.d s.C), .mp 52 (s.ng) (emap sk goneD s.G)]) ((by rw [nextJl (by omega) hgl (by assumption), lifeJ2 (by omega)])) ((by rw [nextJl (by omega) hgl (by assumption), lifeJ2 (by omega)])) ?_
      exact toRetM tk mo hK rfl hbm [] 2000 [0, 1, 2, 3, 4] r (by kernel_rfl) trivial
    | true =>
     have qh4 := eq_of_beq h4
     refine toAtM (todo' := aft Tryz.f11 8) (E' := [(4, .z ((sendJ s.A s.ns fo e).err))]) (M' := [.bx 54 [.mv 1, .mv 2, .mv 3, .mv 4], .mp 49 (s.nl) (setE (emap pk Life.d s.L) jo (ptrV xb)), .mp 50 ((sendJ s.A s.ns fo e).ns) (emap mk6 textD (sendJ s.A s.ns fo e).A), .mp 51 (s.nc) (emap vk Come.d s.C), .mp 52 (s.ng) (emap sk goneD s.G), .bx 46 e.av, .rw 36 1 (nums (sendJ s.A s.ns fo e).f.handed), .bx 82 ((sendJ s.A s.ns fo e).f.view.avs [.d (.v (.bool ((sendJ s.A s.ns fo e).f.on))), .z ((sendJ s.A s.ns fo e).f.stands), .u ((sendJ s.A s.ns fo e).f.sent), .sl 6 ((sendJ s.A s.ns fo e).f.handed.length)]), .nm 7 xb]) tk mo hK hbm [(7, [(0, .b true)]), (8, [(3, .mem [0, 1, 2, 3, 4, 7, 6] (.z ((sendJ s.A s.ns fo e).err)) [.bx 54 [.mv 1, .mv 2, .mv 3, .mv 4], .mp 49 (s.nl) (setE (emap pk Life.d s.L) jo (ptrV xb)), .mp 50 ((sendJ s.A s.ns fo e).ns) (emap mk6 textD (sendJ s.A s.ns fo e).A), .mp 51 (s.nc) (emap vk Come.d s.C), .mp 52 (s.ng) (emap sk goneD s.G), .bx 82 ((sendJ s.A s.ns fo e).f.view.avs [.d (.v (.bool ((sendJ s.A s.ns fo e).f.on))), .z ((sendJ s.A s.ns fo e).f.stands), .u ((sendJ s.A s.ns fo e).f.sent), .sl 6 ((sendJ s.A s.ns fo e).f.handed.length)]), .rw 36 1 (nums (sendJ s.A s.ns fo e).f.handed)])])] 11 [0, 1, 2, 3, 4, 5, 6, 7, 8] [4] r (by kernel_rfl) (an h4 (an ((by have k := sendOk (setE (emap pk Life.d s.L) jo (ptrV xb)) (emap vk Come.d s.C) (emap sk goneD s.G) s.nl s.nc s.ng s.A s.ns fo e ho hs.sent hfo.vid; exact k) : ConM Tryz.prog 16 [.pt 0 0, .pt 5 0, .ag e.av] [.bx 54 [.mv 1, .mv 2, .mv 3, .mv 4], .mp 49 (s.nl) (setE (emap pk Life.d s.L) jo (ptrV xb)), .mp 50 (s.ns) (emap mk6 textD s.A), .mp 51 (s.nc) (emap vk Come.d s.C), .mp 52 (s.ng) (emap sk goneD s.G), .bx 82 (fo.lav 6), .rw 36 1 (nums fo.handed)] (.z ((sendJ s.A s.ns fo e).err)) [.bx 54 [.mv 1, .mv 2, .mv 3, .mv 4], .mp 49 (s.nl) (setE (emap pk Life.d s.L) jo (ptrV xb)), .mp 50 ((sendJ s.A s.ns fo e).ns) (emap mk6 textD (sendJ s.A s.ns fo e).A), .mp 51 (s.nc) (emap vk Come.d s.C), .mp 52 (s.ng) (emap sk goneD s.G), .bx 82 ((sendJ s.A s.ns fo e).f.view.avs [.d (.v (.bool ((sendJ s.A s.ns fo e).f.on))), .z ((sendJ s.A s.ns fo e).f.stands), .u ((sendJ s.A s.ns fo e).f.sent), .sl 6 ((sendJ s.A s.ns fo e).f.handed.length)]), .rw 36 1 (nums (sendJ s.A s.ns fo e).f.handed)]) trivial)) fun ac wd r => ?_
     have r := r.foldM (u := 7) (v := 8) (m := 1) (j := jo) (vc := [((sendJ s.A s.ns fo e).f.handed.length) = (nums (sendJ s.A s.ns fo e).f.handed : List (List DV)).length]) (M1 := [.bx 54 [.mv 1, .mv 2, .mv 3, .mv 4], .mp 49 (s.nl) (setE (setE (emap pk Life.d s.L) jo (ptrV xb)) (jo) (.pb 82 ((sendJ s.A s.ns fo e).f.view.dvs [.v (.bool ((sendJ s.A s.ns fo e).f.on)), .z ((sendJ s.A s.ns fo e).f.stands), .u ((sendJ s.A s.ns fo e).f.sent), .em 36 1 (nums (sendJ s.A s.ns fo e).f.handed)]))), .mp 50 ((sendJ s.A s.ns fo e).ns) (emap mk6 textD (sendJ s.A s.ns fo e).A), .mp 51 (s.nc) (emap vk Come.d s.C), .mp 52 (s.ng) (emap sk goneD s.G), .bx 46 e.av, .dead, .dead, .nm 7 xb]) (M2 := [.bx 54 [.mv 1, .mv 2, .mv 3, .mv 4], .mp 49 (s.nl) (emap pk Life.d (setK s.L e.who (sendJ s.A s.ns fo e).f)), .mp 50 ((sendJ s.A s.ns fo e).ns) (emap mk6 textD (sendJ s.A s.ns fo e).A), .mp 51 (s.nc) (emap vk Come.d s.C), .mp 52 (s.ng) (emap sk goneD s.G), .bx 46 e.av, .dead, .dead, .nm 7 xb]) rfl (by kernel_rfl) (And.intro (by first | rfl | simp) trivial) (fun _ _ _ hM => by cases hM; exact setE_at _ (emap_at hjo)) (by rw [live_fold (f' := (sendJ s.A s.ns fo e).f) hs.lives.n hjo])
     refine castM (y := .z ((sendJ s.A s.ns fo e).err)) (N' := [.bx 54 [.mv 1, .mv 2, .mv 3, .mv 4], .mp 49 (s.nl) (emap pk Life.d (setK s.L e.who (sendJ s.A s.ns fo e).f)), .mp 50 ((sendJ s.A s.ns fo e).ns) (emap mk6 textD (sendJ s.A s.ns fo e).A), .mp 51 (s.nc) (emap vk Come.d s.C), .mp 52 (s.ng) (emap sk goneD s.G)]) ((by rw [nextJl (by omega) hgl (by assumption), lifeJ1 (by omega)])) ((by rw [nextJl (by omega) hgl (by assumption), lifeJ1 (by omega)])) ?_
     exact toRetM tk mo hK rfl hbm [] 2000 [0, 1, 2, 3, 4] r (by kernel_rfl) trivial
  | true =>
   have qh2 := eq_of_beq h2
   refine toAtM (todo' := aft Tryz.f11 1) (E' := [(0, .pt 0 0), (3, .pt 5 0), (4, .z 0), (8, .d (.v (.bool true)))]) (M' := [.bx 54 [.mv 1, .mv 2, .mv 3, .mv 4], .mp 49 (s.nl) (emap pk Life.d s.L), .mp 50 (s.ns) (emap mk6 textD s.A), .mp 51 (s.nc) (emap vk Come.d s.C), .mp 52 (s.ng) (emap sk goneD s.G), .bx 46 e.av]) tk mo hK hbm [(1, [(2, .b true)])] 5 [0, 1, 2, 3, 4, 5] [0, 3, 4, 8] r (by kernel_rfl) (an h2 trivial) fun ac wd r => ?_
   refine castM (y := .z ((beginJ s.L s.nl e.who).err)) (N' := [.bx 54 [.mv 1, .mv 2, .mv 3, .mv 4], .mp 49 ((beginJ s.L s.nl e.who).nl) (emap pk Life.d (beginJ s.L s.nl e.who).L), .mp 50 (s.ns) (emap mk6 textD s.A), .mp 51 (s.nc) (emap vk Come.d s.C), .mp 52 (s.ng) (emap sk goneD s.G)]) ((by rw [nextJ6 (by omega)])) ((by rw [nextJ6 (by omega)])) ?_
   exact toRetM tk mo hK rfl hbm [(2, [(3, .mem [0, 1, 2, 3, 4] (.z ((beginJ s.L s.nl e.who).err)) [.bx 54 [.mv 1, .mv 2, .mv 3, .mv 4], .mp 49 ((beginJ s.L s.nl e.who).nl) (emap pk Life.d (beginJ s.L s.nl e.who).L), .mp 50 (s.ns) (emap mk6 textD s.A), .mp 51 (s.nc) (emap vk Come.d s.C), .mp 52 (s.ng) (emap sk goneD s.G)])])] 2000 [0, 1, 2, 3, 4] r (by kernel_rfl) (an (beginOk (emap mk6 textD s.A) (emap vk Come.d s.C) (emap sk goneD s.G) s.ns s.nc s.ng s.L s.nl e.who ho.who hs.lives) trivial)
end Go.Proofs.YtilhbhpldkjkaaaGreat
namespace Go.Proofs.YtilhbhpldkjkaaaGreat
open Go.RowKit
theorem LivesOk.set {L : Lives} {nl : Nat} (h : LivesOk L nl) {q : Proc} {f : Life} (hf : f.Ok q) : LivesOk (setK L q f) nl where
 n := setK_n h.n q f
 ok := setK_ok h.ok q f
 born := by
  have : (setK L q f).map (fun x => x.1) = L.map fun x => x.1 := by
   unfold setK; rw [List.map_map]; apply List.map_congr_left; intro e _; simp only [Function.comp]; split <;> rfl
  rw [this]; exact h.born
 lt := fun x hx => by
  obtain ⟨y, hy, rfl⟩ := List.mem_map.1 hx
  have := h.lt y hy
  split <;> exact this
 nodes := by
  unfold setK
  rw [List.pairwise_map]
  refine h.nodes.imp fun {a b} hab => ?_
  split <;> split <;> exact hab
 life := fun x hx => by
  obtain ⟨y, hy, rfl⟩ := List.mem_map.1 hx
  have := h.life y hy
  split
  ·rename_i e; dsimp only; rw [e]; exact hf
  ·exact this
theorem Life.new_ok {p : Proc} (hp : p.okP) (hm : p.may = true) : (Life.new p).Ok p where
 may := by unfold Life.new; rw [View.may_first rfl]; show (p.may && decide (View.first p = View.first p)) = true; rw [hm]; simp
 mem := List.mem_singleton.2 rfl
 len := rfl
 vid := ⟨by show 0 ≤ _; omega, hp⟩
theorem LivesOk.begin {L : Lives} {nl : Nat} (h : LivesOk L nl) {p : Proc} (hp : p.okP) (hm : p.may = true) : LivesOk (others L p ++ [(nl, p, Life.new p)]) (nl + 1) where
 n := by
  unfold keysN; rw [List.map_append, List.nodup_append]
  refine ⟨(List.Sublist.map _ List.filter_sublist).nodup h.n, by simp, fun a ha b hb e => ?_⟩
  obtain ⟨x, hx, rfl⟩ := List.mem_map.1 ha
  simp at hb; subst hb; exact getK_none others_fresh x hx e
 ok := fun x hx => by
  rcases List.mem_append.1 hx with hx | hx
  ·exact h.ok x (others_sub hx)
  ·simp at hx; subst hx; exact hp
 born := by
  rw [List.map_append, List.nodup_append]
  refine ⟨(List.Sublist.map _ List.filter_sublist).nodup h.born, by simp, fun a ha b hb e => ?_⟩
  obtain ⟨x, hx, rfl⟩ := List.mem_map.1 ha
  have := h.lt x (others_sub hx)
  simp at hb; omega
 lt := fun x hx => by
  rcases List.mem_append.1 hx with hx | hx
  ·have := h.lt x (others_sub hx); omega
  ·simp at hx; subst hx; exact Nat.lt_succ_self _
 nodes := by
  rw [List.pairwise_append]
  refine ⟨List.Pairwise.filter _ h.nodes, by simp, fun a ha b hb => ?_⟩
  simp at hb; subst hb
  have := (List.mem_filter.1 ha).2
  simpa using this
 life := fun x hx => by
  rcases List.mem_append.1 hx with hx | hx
  ·exact h.life x (others_sub hx)
  ·simp at hx; subst hx; exact Life.new_ok hp hm
theorem SentOk.put {A : Sent} (h : SentOk A) {c : Nat} {q : MsgK} (hq : q.ok) (b : List UInt8) : SentOk (putK A c q b) := ⟨putK_n h.n c q b, putK_ok (p := fun q => MsgK.ok q) h.ok hq b⟩
theorem putK_mem {κ α : Type} [DecidableEq κ] {l : List (Nat × κ × α)} {c : Nat} {q : κ} {x : α} {y : Nat × κ × α} (h : y ∈ putK l c q x) : (y.2.1 = q ∧ y.2.2 = x) ∨ y ∈ l := by
 unfold putK at h
 split at h
 ·obtain ⟨z, hz, rfl⟩ := List.mem_map.1 h
  split
  ·rename_i e; exact .inl ⟨e, rfl⟩
  ·exact .inr hz
 ·rcases List.mem_append.1 h with h | h
  ·exact .inr h
  ·simp at h; subst h; exact .inl ⟨rfl, rfl⟩
theorem GoneOk.put {G : Goned} (h : GoneOk G) {c : Nat} {q : StepK} (hq : q.ok) {l : List Nat} (hl : l.length ≤ 1000) : GoneOk (putK G c q l) := ⟨putK_n h.n c q l, putK_ok (p := fun q => StepK.ok q) h.ok hq l, fun x hx => by
 rcases putK_mem hx with ⟨-, e⟩ | hx
 ·rw [e]; exact hl
 ·exact h.len x hx⟩
theorem getK_mem {κ α : Type} [DecidableEq κ] {l : List (Nat × κ × α)} {q : κ} {x : α} (h : getK l q = some x) : ∃ b, (b, q, x) ∈ l := by
 obtain ⟨j, b, hj⟩ := getK_some h; exact ⟨b, List.mem_of_getElem? hj⟩
theorem cameL_few {C : Camed} {v : Vid} {k : Nat} (h : ∀ x ∈ C, x.2.2.came.length ≤ k) : (cameL C v).length ≤ k := by
 unfold cameL
 split
 ·rename_i c hc; obtain ⟨b, hb⟩ := getK_mem hc; exact h _ hb
 ·simp
theorem cameL_ok {C : Camed} {v : Vid} (h : CameOk C) : ∀ o ∈ cameL C v, o.Ok := by
 unfold cameL
 split
 ·rename_i c hc; obtain ⟨b, hb⟩ := getK_mem hc; exact h.came _ hb
 ·simp
theorem viewJ_cases {C : Camed} {nc : Nat} {G : Goned} {ng : Nat} {f : Life} {e : Ev} : ((viewJ C nc G ng f e).err ≠ 0 ∧ (viewJ C nc G ng f e).C = C ∧ (viewJ C nc G ng f e).nc = nc ∧ (viewJ C nc G ng f e).G = G ∧ (viewJ C nc G ng f e).ng = ng ∧ (viewJ C nc G ng f e).f = f) ∨
  (viewJ C nc G ng f e = viewOkJ C nc G ng f e ∧ f.stands = 2 ∧ viewBad C f e = false ∧ handedAt f e.who = f.sent ∧ goneBad G f e = false ∧ transitBad C f e = false) := by
 unfold viewJ
 split
 ·exact .inl ⟨by simp, rfl, rfl, rfl, rfl, rfl⟩
 ·rename_i h1
  split
  ·exact .inl ⟨by simp, rfl, rfl, rfl, rfl, rfl⟩
  ·rename_i h2
   split
   ·exact .inl ⟨by simp, rfl, rfl, rfl, rfl, rfl⟩
   ·rename_i h3
    split
    ·exact .inl ⟨by simp, rfl, rfl, rfl, rfl, rfl⟩
    ·rename_i h4
     split
     ·exact .inl ⟨by simp, rfl, rfl, rfl, rfl, rfl⟩
     ·rename_i h5
      exact .inr ⟨rfl, by simpa using h1, by simpa using h2, by simpa using h3, by simpa using h4, by simpa using h5⟩
theorem JS.Ok.more {s : JS} {k m : Nat} (h : s.Ok k) (hk : k ≤ m) : s.Ok m := ⟨h.lives, h.sent, h.came, h.gone, fun x hx => Nat.le_trans (h.few x hx) hk⟩
theorem viewBad_no {C : Camed} {f : Life} {e : Ev} (h : viewBad C f e = false) : e.view.may = true ∧ e.view.id.round ≠ 0 ∧ e.who ∈ e.view.members ∧ 0 < e.view.id.cmp f.view.id ∧ ∀ c, getK C e.view.id = some c → c.view = e.view := by
 unfold viewBad at h
 simp only [Bool.or_eq_false_iff, Bool.not_eq_false', decide_eq_false_iff_not, decide_eq_true_eq] at h
 obtain ⟨h1, h2, h3, h4, h5⟩ := h
 refine ⟨h1, h2, h3, by omega, fun c hc => ?_⟩
 rw [hc] at h5; simpa using h5
theorem lifeJ_ok {s : JS} {e : Ev} {f : Life} {k : Nat} (ho : e.Ok) (h : s.Ok k) (hk : k + 1 ≤ 100000) (hf : getK s.L e.who = some f) : (lifeJ s f e).2.Ok (k + 1) := by
 obtain ⟨b, hb⟩ := getK_mem hf
 have hfo : f.Ok e.who := h.lives.life _ hb
 have h1 := h.more (Nat.le_succ k)
 unfold lifeJ
 split
 ·refine ⟨h.lives.set ?_, ?_, h.came, h.gone, h1.few⟩
  ·unfold sendJ; split
   ·exact hfo
   ·split
    ·exact hfo
    ·exact ⟨hfo.may, hfo.mem, hfo.len, hfo.vid⟩
  ·show SentOk (sendJ s.A s.ns f e).A
   unfold sendJ; split
   ·exact h.sent
   ·split
    ·exact h.sent
    ·exact h.sent.put (q := (f.view.id, e.who, e.n)) ⟨hfo.vid, ho.who, ho.n⟩ _
 ·split
  ·refine ⟨h.lives.set ?_, h.sent, h.came, h.gone, h1.few⟩
   unfold deliverJ; split
   ·exact hfo
   ·split
    ·exact hfo
    ·split
     ·exact ⟨hfo.may, hfo.mem, by show (List.set _ _ _).length = _; rw [List.length_set]; exact hfo.len, hfo.vid⟩
     ·exact hfo
  ·have turns : ∀ a c : Int, ((f.turn a c).2).Ok e.who := fun a c => by
    unfold Life.turn; split
    ·exact hfo
    ·exact ⟨hfo.may, hfo.mem, hfo.len, hfo.vid⟩
   split
   ·exact ⟨h.lives.set (turns 0 1), h.sent, h.came, h.gone, h1.few⟩
   ·split
    ·exact ⟨h.lives.set (turns 1 2), h.sent, h.came, h.gone, h1.few⟩
    ·split
     ·rcases viewJ_cases (C := s.C) (nc := s.nc) (G := s.G) (ng := s.ng) (f := f) (e := e) with ⟨-, g1, g2, g3, g4, g5⟩ | ⟨g0, -, gb, -, -, -⟩
      ·exact ⟨by dsimp only; rw [g5]; exact h.lives.set hfo, h.sent, by dsimp only; rw [g1]; exact h.came, by dsimp only; rw [g3]; exact h.gone, by dsimp only; rw [g1]; exact h1.few⟩
      ·obtain ⟨b1, b2, b3, b4, b5⟩ := viewBad_no gb
       rw [g0]
       refine ⟨h.lives.set ⟨b1, b3, by simp [viewOkJ, Life.enter], ho.vid⟩, h.sent, ?_, ?_, ?_⟩
       ·refine ⟨putK_n h.came.n _ _ _, putK_ok (p := fun q => Vid.okV q) h.came.ok ho.vid _, fun x hx => ?_, fun x hx => ?_, fun x hx => ?_, fun x hx => ?_⟩
        ·rcases putK_mem hx with ⟨e1, e2⟩ | hx
         ·rw [e1, e2]
         ·exact h.came.id x hx
        ·rcases putK_mem hx with ⟨e1, e2⟩ | hx
         ·rw [e2]; exact b1
         ·exact h.came.may x hx
        ·rcases putK_mem hx with ⟨e1, e2⟩ | hx
         ·rw [e2]; intro o hoo
          rcases List.mem_append.1 hoo with hoo | hoo
          ·exact cameL_ok h.came o hoo
          ·simp at hoo; subst hoo
           exact ⟨by have := (View.may_ss hfo.may).2; show f.view.members.length ≤ 1000; omega, by have := ho.transit; show e.transit.length ≤ 1000; omega⟩
         ·exact h.came.came x hx
        ·rcases putK_mem hx with ⟨e1, e2⟩ | hx
         ·rw [e2]; show (cameL s.C e.view.id ++ [_]).length ≤ _; have := cameL_few (v := e.view.id) h.few; rw [List.length_append]; simp only [List.length_singleton]; omega
         ·have := h.few x hx; omega
       ·exact h.gone.put (q := (f.view.id, e.view.id)) ⟨hfo.vid, ho.vid⟩ (by have := (View.may_ss hfo.may).2; rw [hfo.len]; omega)
       ·intro x hx
        rcases putK_mem hx with ⟨e1, e2⟩ | hx
        ·rw [e2]; show (cameL s.C e.view.id ++ [_]).length ≤ _; have := cameL_few (v := e.view.id) h.few; rw [List.length_append]; simp only [List.length_singleton]; omega
        ·exact h1.few x hx
     ·split
      ·exact ⟨h.lives.set ⟨hfo.may, hfo.mem, hfo.len, hfo.vid⟩, h.sent, h.came, h.gone, h1.few⟩
      ·exact h1
theorem nextJ_ok {s : JS} {e : Ev} {k : Nat} (ho : e.Ok) (h : s.Ok k) (hk : k + 1 ≤ 100000) : (nextJ s e).2.Ok (k + 1) := by
 have h1 := h.more (Nat.le_succ k)
 unfold nextJ
 split
 ·refine ⟨?_, h.sent, h.came, h.gone, h1.few⟩
  dsimp only
  unfold beginJ
  split
  ·exact h.lives
  ·rename_i hm
   split
   ·exact h.lives
   ·exact h.lives.begin ho.who (by simpa using hm)
 ·split
  ·exact h1
  ·rename_i f hf
   split
   ·exact h1
   ·exact lifeJ_ok ho h hk hf
def JS.zero : JS := ⟨[], 0, [], 0, [], 0, [], 0⟩
theorem JS.zero_ok : JS.zero.Ok 0 := by
 refine ⟨⟨List.nodup_nil, ?_, List.nodup_nil, ?_, List.Pairwise.nil, ?_⟩, ⟨List.nodup_nil, ?_⟩, ⟨List.nodup_nil, ?_, ?_, ?_, ?_, ?_⟩, ⟨List.nodup_nil, ?_, ?_⟩, ?_⟩ <;> intro x hx <;> cases hx
def stF (l : List Ev) : Nat → JS
 | 0 => JS.zero
 | i + 1 => match l[i]? with | some e => (nextJ (stF l i) e).2 | none => stF l i
def errAt (l : List Ev) (i : Nat) : Int := match l[i]? with | some e => (nextJ (stF l i) e).1 | none => 0
def judge (l : List Ev) : Nat × Int := match (List.range l.length).find? fun i => decide (errAt l i ≠ 0) with | some i => (i, errAt l i) | none => (l.length, 0)
theorem stF_succ {l : List Ev} {i : Nat} {e : Ev} (h : l[i]? = some e) : stF l (i + 1) = (nextJ (stF l i) e).2 := by rw [stF, h]
theorem errAt_some {l : List Ev} {i : Nat} {e : Ev} (h : l[i]? = some e) : errAt l i = (nextJ (stF l i) e).1 := by rw [errAt, h]
theorem stF_ok {l : List Ev} (ho : ∀ e ∈ l, e.Ok) (hl : l.length ≤ 100000) : ∀ {i : Nat}, i ≤ l.length → (stF l i).Ok i
 | 0, _ => JS.zero_ok
 | i + 1, h => by
  have e := List.getElem?_eq_getElem (show i < l.length by omega)
  rw [stF_succ e]
  exact nextJ_ok (ho _ (List.getElem_mem _)) (stF_ok ho hl (by omega)) (by omega)
theorem judge_at {l : List Ev} {i : Nat} {e : Ev} (h : l[i]? = some e) (h1 : ∀ j, j < i → errAt l j = 0) (h2 : (nextJ (stF l i) e).1 ≠ 0) : judge l = (i, (nextJ (stF l i) e).1) := by
 have hi := (List.getElem?_eq_some_iff.1 h).1
 have h3 : ((List.range l.length).find? fun i => decide (errAt l i ≠ 0)) = some i := by
  rw [List.find?_range_eq_some]
  refine ⟨by rw [errAt_some h]; simpa using h2, by simpa using hi, fun j hj => by simp [h1 j hj]⟩
 unfold judge; rw [h3]; dsimp only; rw [errAt_some h]
theorem judge_all {l : List Ev} (h1 : ∀ j, j < l.length → errAt l j = 0) : judge l = (l.length, 0) := by
 have h3 : ((List.range l.length).find? fun i => decide (errAt l i ≠ 0)) = none := by
  rw [List.find?_eq_none]; intro i hi; simp [h1 i (by simpa using hi)]
 unfold judge; rw [h3]
set_option maxRecDepth 100000 in
theorem judgeOk (l : List Ev) (ho : ∀ e ∈ l, e.Ok) (hl : l.length ≤ 100000) : Con Tryz.prog 8 [.d (.ro 13 (evs l))] (.tu [.v (.int .i64 (((judge l).1 : Nat) : Int)), .v (.int .i64 (judge l).2)]) := by
 refine Con.intro (by kernel_rfl) rfl rfl 31 rfl rfl fun w0 K ac hK r => ?_
 refine toHead (todo' := hd Tryz.f8 0) (E' := [(0, .d (.ro 13 (evs l))), (4, .pt 0 0), (14, .d (.ro 13 (evs l))), (15, .n l.length), (16, .z 0)]) (M' := [.bx 54 [.mv 1, .mv 2, .mv 3, .mv 4], .mp 49 (0) ([]), .mp 50 (0) ([]), .mp 51 (0) ([]), .mp 52 (0) ([])]) tk mo hK [(2, [(1, .z (((l.length : Nat) : Int)))])] 2000 [4, 0, 1, 2, 3] [0, 4, 14, 15, 16] r (by kernel_rfl) (an ((by first | rfl | simp [bytesR]) : (((evs l).length : Nat) : Int) = ((l.length : Nat) : Int)) trivial) fun ac wd r => ?_
 refine Goes.rounds (Φ := fun (i : Nat) ac wd => (∀ j, j < i → errAt l j = 0) ∧ RE' [] w0 K 31 [(0, .d (.ro 13 (evs l))), (4, .pt 0 0), (14, .d (.ro 13 (evs l))), (15, .n l.length), (16, .n i)] [.bx 54 [.mv 1, .mv 2, .mv 3, .mv 4], .mp 49 ((stF l i).nl) (emap pk Life.d (stF l i).L), .mp 50 ((stF l i).ns) (emap mk6 textD (stF l i).A), .mp 51 ((stF l i).nc) (emap vk Come.d (stF l i).C), .mp 52 ((stF l i).ng) (emap sk goneD (stF l i).G)] ac wd) (l.length) ?_ (Nat.zero_le _) ⟨(fun j h => absurd h (Nat.not_lt_zero _)), (r).cast rfl rfl⟩
 clear r
 rintro i hi0 again0 ac wd ⟨hv0, r⟩
 cases h0 : (decide (((i : Nat) : Int) < ((l.length : Nat) : Int))) with
 | false =>
  have qh0 := of_decide_eq_false h0
  rw [show (.tu [.v (.int .i64 (((judge l).1 : Nat) : Int)), .v (.int .i64 (judge l).2)] : DV) = .tu [.n l.length, .z 0] from (by first | rw [judge_at ge_l_i hv0 (by omega)] | (rw [judge_all (fun j hj => hv0 j (by omega))]))]
  exact toRet tk mo hK rfl [(3, [(0, .b false)]), (9, [(1, .z (((l.length : Nat) : Int)))])] 2000 r (by kernel_rfl) (an h0 (an ((by first | rfl | simp [bytesR]) : (((evs l).length : Nat) : Int) = ((l.length : Nat) : Int)) trivial))
 | true =>
  have qh0 := of_decide_eq_true h0
  obtain ⟨e_l_i, ge_l_i⟩ : ∃ x, l[i]? = some x := ⟨_, List.getElem?_eq_getElem (by omega)⟩
  have u0 := (nextOk (stF l i) e_l_i (ho _ (List.mem_of_getElem? ge_l_i)) i (by omega) (stF_ok ho hl (by omega)) : ConM Tryz.prog 11 [.pt 0 0, .ag e_l_i.av] [.bx 54 [.mv 1, .mv 2, .mv 3, .mv 4], .mp 49 ((stF l i).nl) (emap pk Life.d (stF l i).L), .mp 50 ((stF l i).ns) (emap mk6 textD (stF l i).A), .mp 51 ((stF l i).nc) (emap vk Come.d (stF l i).C), .mp 52 ((stF l i).ng) (emap sk goneD (stF l i).G)] (.z ((nextJ (stF l i) e_l_i).1)) [.bx 54 [.mv 1, .mv 2, .mv 3, .mv 4], .mp 49 ((nextJ (stF l i) e_l_i).2.nl) (emap pk Life.d (nextJ (stF l i) e_l_i).2.L), .mp 50 ((nextJ (stF l i) e_l_i).2.ns) (emap mk6 textD (nextJ (stF l i) e_l_i).2.A), .mp 51 ((nextJ (stF l i) e_l_i).2.nc) (emap vk Come.d (nextJ (stF l i) e_l_i).2.C), .mp 52 ((nextJ (stF l i) e_l_i).2.ng) (emap sk goneD (nextJ (stF l i) e_l_i).2.G)])
  cases h1 : (((nextJ (stF l i) e_l_i).1 : Int) != 0) with
  | false =>
   have qh1 := eq_of_bne h1
   exact toHead (todo' := hd Tryz.f8 0) (E' := [(0, .d (.ro 13 (evs l))), (4, .pt 0 0), (14, .d (.ro 13 (evs l))), (15, .n l.length), (16, .n (i + 1))]) (M' := [.bx 54 [.mv 1, .mv 2, .mv 3, .mv 4], .mp 49 ((nextJ (stF l i) e_l_i).2.nl) (emap pk Life.d (nextJ (stF l i) e_l_i).2.L), .mp 50 ((nextJ (stF l i) e_l_i).2.ns) (emap mk6 textD (nextJ (stF l i) e_l_i).2.A), .mp 51 ((nextJ (stF l i) e_l_i).2.nc) (emap vk Come.d (nextJ (stF l i) e_l_i).2.C), .mp 52 ((nextJ (stF l i) e_l_i).2.ng) (emap sk goneD (nextJ (stF l i) e_l_i).2.G)]) tk mo hK [(3, [(0, .b true)]), (4, [(1, .ix (i) e_l_i.row)]), (5, [(2, .mem [0, 1, 2, 3, 4] (.z ((nextJ (stF l i) e_l_i).1)) [.bx 54 [.mv 1, .mv 2, .mv 3, .mv 4], .mp 49 ((nextJ (stF l i) e_l_i).2.nl) (emap pk Life.d (nextJ (stF l i) e_l_i).2.L), .mp 50 ((nextJ (stF l i) e_l_i).2.ns) (emap mk6 textD (nextJ (stF l i) e_l_i).2.A), .mp 51 ((nextJ (stF l i) e_l_i).2.nc) (emap vk Come.d (nextJ (stF l i) e_l_i).2.C), .mp 52 ((nextJ (stF l i) e_l_i).2.ng) (emap sk goneD (nextJ (stF l i) e_l_i).2.G)])]), (6, [(1, .b false)]), (8, [(0, .z (((i + 1 : Nat) : Int)))])] 2000 [0, 1, 2, 3, 4] [0, 4, 14, 15, 16] r (by kernel_rfl) (an h0 (an (rfI ((i : Nat) : Int)) (an (evs_at ge_l_i) (an u0 (an h1 (an (wiS i (by omega)) trivial)))))) fun ac wd r => again0 (by omega) ac wd ⟨(fun j hj => by rcases Nat.lt_succ_iff_lt_or_eq.1 hj with h | rfl; exact hv0 j h; rw [errAt_some ge_l_i]; omega), r.cast rfl (by rw [stF_succ ge_l_i])⟩
  | true =>
   have qh1 : ¬ _ = _ := bne_iff_ne.1 h1
   rw [show (.tu [.v (.int .i64 (((judge l).1 : Nat) : Int)), .v (.int .i64 (judge l).2)] : DV) = .tu [.n i, .z ((nextJ (stF l i) e_l_i).1)] from (by first | rw [judge_at ge_l_i hv0 (by omega)] | (rw [judge_all (fun j hj => hv0 j (by omega))]))]
   exact toRet tk mo hK rfl [(3, [(0, .b true)]), (4, [(1, .ix (i) e_l_i.row)]), (5, [(2, .mem [0, 1, 2, 3, 4] (.z ((nextJ (stF l i) e_l_i).1)) [.bx 54 [.mv 1, .mv 2, .mv 3, .mv 4], .mp 49 ((nextJ (stF l i) e_l_i).2.nl) (emap pk Life.d (nextJ (stF l i) e_l_i).2.L), .mp 50 ((nextJ (stF l i) e_l_i).2.ns) (emap mk6 textD (nextJ (stF l i) e_l_i).2.A), .mp 51 ((nextJ (stF l i) e_l_i).2.nc) (emap vk Come.d (nextJ (stF l i) e_l_i).2.C), .mp 52 ((nextJ (stF l i) e_l_i).2.ng) (emap sk goneD (nextJ (stF l i) e_l_i).2.G)])]), (6, [(1, .b true)])] 2000 r (by kernel_rfl) (an h0 (an (rfI ((i : Nat) : Int)) (an (evs_at ge_l_i) (an u0 (an h1 trivial)))))
end Go.Proofs.YtilhbhpldkjkaaaGreat
namespace Go.Proofs.YtilhbhpldkjkaaaGreat
open Go.RowKit
theorem ind_two (x y : Value) : Ind (.tu [.v x, .v y]) := by
 intro K K' z H h
 cases h with
 | tu ys F hl hr =>
  refine .tu ys F hl fun j c w h1 h2 => ?_
  have := hr j c w h1 h2
  match j with
  | 0 => simp at h1; subst h1; exact ind_v _ _ _ _ _ this
  | 1 => simp at h1; subst h1; exact ind_v _ _ _ _ _ this
  | j + 2 => simp at h1
def heavyE (e : Ev) : Bool := decide (200 < e.body.length) || (decide (50 < e.view.members.length) || (decide (50 < e.view.starts.length) || decide (50 < e.transit.length)))
def heavyL (l : List Ev) : Bool := decide (250 < l.length) || l.any heavyE
theorem heavy_len {l : List Ev} (h : 250 < l.length) : heavyL l = true := by unfold heavyL; rw [decide_eq_true h]; rfl
theorem heavy_yes {l : List Ev} {i : Nat} {e : Ev} (h : l[i]? = some e) (he : heavyE e = true) : heavyL l = true := by
 unfold heavyL; rw [Bool.or_eq_true, List.any_eq_true]; exact .inr ⟨e, List.mem_of_getElem? h, he⟩
theorem heavy_no {l : List Ev} {i : Nat} (h0 : ¬ 250 < l.length) (hi : l.length ≤ i) (h : ∀ j e, j < i → l[j]? = some e → heavyE e = false) : heavyL l = false := by
 unfold heavyL
 rw [decide_eq_false h0, Bool.false_or, List.any_eq_false]
 intro e he
 obtain ⟨j, hj, rfl⟩ := List.getElem_of_mem he
 rw [h j _ (by omega) (List.getElem?_eq_getElem hj)]; decide
structure Ev.Rd (e : Ev) : Prop where
 who : e.who.okP
 frm : e.frm.okP
 n : e.n ≤ 18446744073709551615
 vid : e.view.id.okV
 body : e.body.length ≤ 9223372036854775807
 members : e.view.members.length ≤ 9223372036854775807
 starts : e.view.starts.length ≤ 9223372036854775807
 transit : e.transit.length ≤ 9223372036854775807
theorem heavy_ok {l : List Ev} (hr : ∀ e ∈ l, e.Rd) (h : heavyL l = false) : l.length ≤ 250 ∧ ∀ e ∈ l, e.Ok := by
 unfold heavyL at h
 simp only [Bool.or_eq_false_iff, decide_eq_false_iff_not, List.any_eq_false] at h
 refine ⟨by omega, fun e he => ?_⟩
 have h1 := h.2 e he
 have h2 := hr e he
 simp only [heavyE, Bool.or_eq_true, decide_eq_true_eq, not_or] at h1
 exact ⟨h2.who, h2.frm, h2.n, h2.vid, by omega, by omega, by omega, by omega⟩
theorem froz_evs (l : List Ev) : frozR (evs l) = evs l := by
 rw [frozR_map]; unfold evs; rw [List.map_map]; apply List.map_congr_left; intro s _
 simp only [Function.comp, Ev.row, List.map_cons, List.map_nil, froz]
theorem evs_take (l : List Ev) (k : Nat) : List.take k (evs l) = evs (l.take k) := by unfold evs; rw [List.map_take]
set_option maxRecDepth 100000 in
theorem heavyOk (l : List Ev) (hl : l.length ≤ 9223372036854775807) (hr : ∀ e ∈ l, e.Rd) : Con Tryz.prog 6 [.d (.ro 13 (evs l))] (.v (.bool (heavyL l))) := by
 refine Con.intro (by kernel_rfl) rfl rfl 49 rfl rfl fun w0 K ac hK r => ?_
 have u0 := ((by first | rfl | simp [bytesR]) : (((evs l).length : Nat) : Int) = ((l.length : Nat) : Int))
 cases h0 : (decide ((250 : Int) < ((l.length : Nat) : Int))) with
 | false =>
  have qh0 := of_decide_eq_false h0
  refine toHead (todo' := hd Tryz.f6 0) (E' := [(0, .d (.ro 13 (evs l))), (3, .n 0)]) (M' := []) tk mo hK [(1, [(1, .z (((l.length : Nat) : Int))), (2, .b false)])] 2000 [] [0, 3] r (by kernel_rfl) (an u0 (an h0 trivial)) fun ac wd r => ?_
  refine Goes.rounds (Φ := fun (i : Nat) ac wd => (∀ j e, j < i → l[j]? = some e → heavyE e = false) ∧ RE' [] w0 K 49 [(0, .d (.ro 13 (evs l))), (3, .n i)] [] ac wd) (l.length) ?_ (Nat.zero_le _) ⟨(fun j e h => absurd h (Nat.not_lt_zero _)), r⟩
  clear r
  rintro i hi0 again0 ac wd ⟨hv0, r⟩
  cases h1 : (decide (((i : Nat) : Int) < ((l.length : Nat) : Int))) with
  | false =>
   have qh1 := of_decide_eq_false h1
   rw [show (.v (.bool (heavyL l)) : DV) = .v (.bool false) from (by first | rw [heavy_len (by omega)] | rw [heavy_no (by omega) (by omega) hv0] | rw [heavy_yes ge_l_i (by unfold heavyE; first | (simp; omega) | (rw [Bool.or_eq_true, Bool.or_eq_true, Bool.or_eq_true]; simp; omega))])]
   exact toRet tk mo hK rfl [(4, [(2, .z (((l.length : Nat) : Int))), (3, .b false)])] 2000 r (by kernel_rfl) (an u0 (an h1 trivial))
  | true =>
   have qh1 := of_decide_eq_true h1
   obtain ⟨e_l_i, ge_l_i⟩ : ∃ x, l[i]? = some x := ⟨_, List.getElem?_eq_getElem (by omega)⟩
   have hb := (hr _ (List.mem_of_getElem? ge_l_i)).body
   have hm := (hr _ (List.mem_of_getElem? ge_l_i)).members
   have hs := (hr _ (List.mem_of_getElem? ge_l_i)).starts
   have ht := (hr _ (List.mem_of_getElem? ge_l_i)).transit
   have u1 := ((by first | rfl | simp [bytesR]) : (((bytesR e_l_i.body).length : Nat) : Int) = ((e_l_i.body.length : Nat) : Int))
   cases h2 : (decide ((200 : Int) < ((e_l_i.body.length : Nat) : Int))) with
   | false =>
    have qh2 := of_decide_eq_false h2
    have u2 := ((by first | rfl | simp [bytesR]) : (((procs e_l_i.view.members).length : Nat) : Int) = ((e_l_i.view.members.length : Nat) : Int))
    cases h3 : (decide ((50 : Int) < ((e_l_i.view.members.length : Nat) : Int))) with
    | false =>
     have qh3 := of_decide_eq_false h3
     have u3 := ((by first | rfl | simp [bytesR]) : (((nums e_l_i.view.starts).length : Nat) : Int) = ((e_l_i.view.starts.length : Nat) : Int))
     cases h4 : (decide ((50 : Int) < ((e_l_i.view.starts.length : Nat) : Int))) with
     | false =>
      have qh4 := of_decide_eq_false h4
      have u4 := ((by first | rfl | simp [bytesR]) : (((procs e_l_i.transit).length : Nat) : Int) = ((e_l_i.transit.length : Nat) : Int))
      cases h5 : (decide ((50 : Int) < ((e_l_i.transit.length : Nat) : Int))) with
      | false =>
       have qh5 := of_decide_eq_false h5
       exact toHead (todo' := hd Tryz.f6 0) tk mo hK [(4, [(2, .z (((l.length : Nat) : Int))), (3, .b true)]), (5, [(1, .z (((i + 1 : Nat) : Int)))]), (6, [(2, .ix (i) e_l_i.row), (5, .z (((e_l_i.body.length : Nat) : Int))), (6, .b false), (10, .ix (i) e_l_i.row), (14, .z (((e_l_i.view.members.length : Nat) : Int))), (15, .b false), (20, .ix (i) e_l_i.row), (24, .z (((e_l_i.view.starts.length : Nat) : Int))), (25, .b false), (30, .ix (i) e_l_i.row), (33, .z (((e_l_i.transit.length : Nat) : Int))), (34, .b false)])] 2000 [] [0, 3] r (by kernel_rfl) (an u0 (an h1 (an (rfI ((i : Nat) : Int)) (an (evs_at ge_l_i) (an u1 (an h2 (an (rfI ((i : Nat) : Int)) (an (evs_at ge_l_i) (an u2 (an h3 (an (rfI ((i : Nat) : Int)) (an (evs_at ge_l_i) (an u3 (an h4 (an (rfI ((i : Nat) : Int)) (an (evs_at ge_l_i) (an u4 (an h5 (an (wiS i (by omega)) trivial))))))))))))))))))) fun ac wd r => again0 (by omega) ac wd ⟨(fun j o hj hx => by rcases Nat.lt_succ_iff_lt_or_eq.1 hj with h | rfl; exact hv0 j o h hx; rw [ge_l_i] at hx; cases hx; unfold heavyE; simp; omega), r⟩
      | true =>
       have qh5 := of_decide_eq_true h5
       rw [show (.v (.bool (heavyL l)) : DV) = .v (.bool true) from (by first | rw [heavy_len (by omega)] | rw [heavy_no (by omega) (by omega) hv0] | rw [heavy_yes ge_l_i (by unfold heavyE; first | (simp; omega) | (rw [Bool.or_eq_true, Bool.or_eq_true, Bool.or_eq_true]; simp; omega))])]
       exact toRet tk mo hK rfl [(4, [(2, .z (((l.length : Nat) : Int))), (3, .b true)]), (6, [(2, .ix (i) e_l_i.row), (5, .z (((e_l_i.body.length : Nat) : Int))), (6, .b false), (10, .ix (i) e_l_i.row), (14, .z (((e_l_i.view.members.length : Nat) : Int))), (15, .b false), (20, .ix (i) e_l_i.row), (24, .z (((e_l_i.view.starts.length : Nat) : Int))), (25, .b false), (30, .ix (i) e_l_i.row), (33, .z (((e_l_i.transit.length : Nat) : Int))), (34, .b true)])] 2000 r (by kernel_rfl) (an u0 (an h1 (an (rfI ((i : Nat) : Int)) (an (evs_at ge_l_i) (an u1 (an h2 (an (rfI ((i : Nat) : Int)) (an (evs_at ge_l_i) (an u2 (an h3 (an (rfI ((i : Nat) : Int)) (an (evs_at ge_l_i) (an u3 (an h4 (an (rfI ((i : Nat) : Int)) (an (evs_at ge_l_i) (an u4 (an h5 trivial))))))))))))))))))
     | true =>
      have qh4 := of_decide_eq_true h4
      rw [show (.v (.bool (heavyL l)) : DV) = .v (.bool true) from (by first | rw [heavy_len (by omega)] | rw [heavy_no (by omega) (by omega) hv0] | rw [heavy_yes ge_l_i (by unfold heavyE; first | (simp; omega) | (rw [Bool.or_eq_true, Bool.or_eq_true, Bool.or_eq_true]; simp; omega))])]
      exact toRet tk mo hK rfl [(4, [(2, .z (((l.length : Nat) : Int))), (3, .b true)]), (6, [(2, .ix (i) e_l_i.row), (5, .z (((e_l_i.body.length : Nat) : Int))), (6, .b false), (10, .ix (i) e_l_i.row), (14, .z (((e_l_i.view.members.length : Nat) : Int))), (15, .b false), (20, .ix (i) e_l_i.row), (24, .z (((e_l_i.view.starts.length : Nat) : Int))), (25, .b true)])] 2000 r (by kernel_rfl) (an u0 (an h1 (an (rfI ((i : Nat) : Int)) (an (evs_at ge_l_i) (an u1 (an h2 (an (rfI ((i : Nat) : Int)) (an (evs_at ge_l_i) (an u2 (an h3 (an (rfI ((i : Nat) : Int)) (an (evs_at ge_l_i) (an u3 (an h4 trivial))))))))))))))
    | true =>
     have qh3 := of_decide_eq_true h3
     rw [show (.v (.bool (heavyL l)) : DV) = .v (.bool true) from (by first | rw [heavy_len (by omega)] | rw [heavy_no (by omega) (by omega) hv0] | rw [heavy_yes ge_l_i (by unfold heavyE; first | (simp; omega) | (rw [Bool.or_eq_true, Bool.or_eq_true, Bool.or_eq_true]; simp; omega))])]
     exact toRet tk mo hK rfl [(4, [(2, .z (((l.length : Nat) : Int))), (3, .b true)]), (6, [(2, .ix (i) e_l_i.row), (5, .z (((e_l_i.body.length : Nat) : Int))), (6, .b false), (10, .ix (i) e_l_i.row), (14, .z (((e_l_i.view.members.length : Nat) : Int))), (15, .b true)])] 2000 r (by kernel_rfl) (an u0 (an h1 (an (rfI ((i : Nat) : Int)) (an (evs_at ge_l_i) (an u1 (an h2 (an (rfI ((i : Nat) : Int)) (an (evs_at ge_l_i) (an u2 (an h3 trivial))))))))))
   | true =>
    have qh2 := of_decide_eq_true h2
    rw [show (.v (.bool (heavyL l)) : DV) = .v (.bool true) from (by first | rw [heavy_len (by omega)] | rw [heavy_no (by omega) (by omega) hv0] | rw [heavy_yes ge_l_i (by unfold heavyE; first | (simp; omega) | (rw [Bool.or_eq_true, Bool.or_eq_true, Bool.or_eq_true]; simp; omega))])]
    exact toRet tk mo hK rfl [(4, [(2, .z (((l.length : Nat) : Int))), (3, .b true)]), (6, [(2, .ix (i) e_l_i.row), (5, .z (((e_l_i.body.length : Nat) : Int))), (6, .b true)])] 2000 r (by kernel_rfl) (an u0 (an h1 (an (rfI ((i : Nat) : Int)) (an (evs_at ge_l_i) (an u1 (an h2 trivial))))))
 | true =>
  have qh0 := of_decide_eq_true h0
  rw [show (.v (.bool (heavyL l)) : DV) = .v (.bool true) from (by first | rw [heavy_len (by omega)] | rw [heavy_no (by omega) (by omega) hv0] | rw [heavy_yes ge_l_i (by unfold heavyE; first | (simp; omega) | (rw [Bool.or_eq_true, Bool.or_eq_true, Bool.or_eq_true]; simp; omega))])]
  exact toRet tk mo hK rfl [(1, [(1, .z (((l.length : Nat) : Int))), (2, .b true)])] 2000 r (by kernel_rfl) (an u0 (an h0 trivial))
def pEx : Proc := ⟨5, 1⟩
def evEx (k : Int) (f : Proc) (n : Nat) : Ev := ⟨k, pEx, f, n, [], ⟨⟨0, ⟨0, 0⟩⟩, [], []⟩, []⟩
def p00 : Proc := ⟨0, 0⟩
def exEv : List Ev := [evEx 6 p00 0, evEx 1 p00 1, evEx 2 pEx 1, evEx 3 p00 0, evEx 4 p00 0, evEx 1 p00 2]
theorem exEv_ok : ∀ e ∈ exEv, e.Ok := by
 intro e he
 simp only [exEv, List.mem_cons, List.not_mem_nil, or_false] at he
 have q1 : pEx.okP := by unfold Proc.okP pEx; dsimp only; omega
 have q2 : p00.okP := by unfold Proc.okP p00; dsimp only; omega
 have q3 : (⟨0, p00⟩ : Vid).okV := ⟨by dsimp only; omega, q2⟩
 rcases he with rfl | rfl | rfl | rfl | rfl | rfl <;> refine ⟨q1, by first | exact q1 | exact q2, by show _ ≤ _; decide, q3, by decide, by decide, by decide, by decide⟩
theorem ex_1 : judge exEv = (5, 231) := by kernel_rfl
theorem ex_2 : judge [evEx 6 p00 0, evEx 2 pEx 1] = (1, 233) := by kernel_rfl
theorem ex_3 : judge (exEv.take 5) = (5, 0) := by kernel_rfl
theorem exJ (l : List Ev) (h : ∀ e ∈ l, e ∈ exEv) (hl : l.length ≤ 6) {n : Nat} {x : Int} (hj : judge l = (n, x)) : Con Tryz.prog 8 [.d (.ro 13 (evs l))] (.tu [.v (.int .i64 ((n : Nat) : Int)), .v (.int .i64 x)]) := by
 have k := judgeOk l (fun e he => exEv_ok e (h e he)) (by omega)
 rw [hj] at k; exact k
theorem ex_take : List.take 5 (evs exEv) = evs (exEv.take 5) := evs_take _ _
set_option maxRecDepth 100000 in
theorem awakeOk  : Con Tryz.prog 7 [] (.v (.bool true)) := by
 refine Con.intro (by kernel_rfl) rfl rfl 68 rfl rfl fun w0 K ac hK r => ?_
 refine toAt (todo' := aft Tryz.f7 2) (E' := [(0, .d (.v (.bool false))), (2, .sl 1 (6))]) (M' := [.bx 38 [.z 5, .d (.v (.int .u64 1))], .rw 46 13 ([[.z 6, .z 5, .v (.int .u64 1), .z 0, .v (.int .u64 0), .v (.int .u64 0), .v (.slice none 0 0), .v (.int .u64 0), .z 0, .v (.int .u64 0), .v (.slice none 0 0), .v (.slice none 0 0), .v (.slice none 0 0)], [.z 1, .z 5, .v (.int .u64 1), .z 0, .v (.int .u64 0), .v (.int .u64 1), .v (.slice none 0 0), .v (.int .u64 0), .z 0, .v (.int .u64 0), .v (.slice none 0 0), .v (.slice none 0 0), .v (.slice none 0 0)], [.z 2, .z 5, .v (.int .u64 1), .z 5, .v (.int .u64 1), .v (.int .u64 1), .v (.slice none 0 0), .v (.int .u64 0), .z 0, .v (.int .u64 0), .v (.slice none 0 0), .v (.slice none 0 0), .v (.slice none 0 0)], [.z 3, .z 5, .v (.int .u64 1), .z 0, .v (.int .u64 0), .v (.int .u64 0), .v (.slice none 0 0), .v (.int .u64 0), .z 0, .v (.int .u64 0), .v (.slice none 0 0), .v (.slice none 0 0), .v (.slice none 0 0)], [.z 4, .z 5, .v (.int .u64 1), .z 0, .v (.int .u64 0), .v (.int .u64 0), .v (.slice none 0 0), .v (.int .u64 0), .z 0, .v (.int .u64 0), .v (.slice none 0 0), .v (.slice none 0 0), .v (.slice none 0 0)], [.z 1, .z 5, .v (.int .u64 1), .z 0, .v (.int .u64 0), .v (.int .u64 2), .v (.slice none 0 0), .v (.int .u64 0), .z 0, .v (.int .u64 0), .v (.slice none 0 0), .v (.slice none 0 0), .v (.slice none 0 0)]])]) tk mo hK [] 6 [0, 1] [0, 2] r (by kernel_rfl) trivial fun ac wd r => ?_
 have r := (r.less 1 rfl (LeR.cons (LeL.cons (Le.refl _) (LeL.cons (Le.refl _) (LeL.cons (Le.refl _) (LeL.cons (Le.refl _) (LeL.cons (Le.refl _) (LeL.cons (Le.refl _) (LeL.cons (Le.nilRo 1) (LeL.cons (Le.refl _) (LeL.cons (Le.refl _) (LeL.cons (Le.refl _) (LeL.cons (Le.nilRo 2) (LeL.cons (Le.nilRo 1) (LeL.cons (Le.nilRo 2) (LeL.nil)))))))))))))) (LeR.cons (LeL.cons (Le.refl _) (LeL.cons (Le.refl _) (LeL.cons (Le.refl _) (LeL.cons (Le.refl _) (LeL.cons (Le.refl _) (LeL.cons (Le.refl _) (LeL.cons (Le.nilRo 1) (LeL.cons (Le.refl _) (LeL.cons (Le.refl _) (LeL.cons (Le.refl _) (LeL.cons (Le.nilRo 2) (LeL.cons (Le.nilRo 1) (LeL.cons (Le.nilRo 2) (LeL.nil)))))))))))))) (LeR.cons (LeL.cons (Le.refl _) (LeL.cons (Le.refl _) (LeL.cons (Le.refl _) (LeL.cons (Le.refl _) (LeL.cons (Le.refl _) (LeL.cons (Le.refl _) (LeL.cons (Le.nilRo 1) (LeL.cons (Le.refl _) (LeL.cons (Le.refl _) (LeL.cons (Le.refl _) (LeL.cons (Le.nilRo 2) (LeL.cons (Le.nilRo 1) (LeL.cons (Le.nilRo 2) (LeL.nil)))))))))))))) (LeR.cons (LeL.cons (Le.refl _) (LeL.cons (Le.refl _) (LeL.cons (Le.refl _) (LeL.cons (Le.refl _) (LeL.cons (Le.refl _) (LeL.cons (Le.refl _) (LeL.cons (Le.nilRo 1) (LeL.cons (Le.refl _) (LeL.cons (Le.refl _) (LeL.cons (Le.refl _) (LeL.cons (Le.nilRo 2) (LeL.cons (Le.nilRo 1) (LeL.cons (Le.nilRo 2) (LeL.nil)))))))))))))) (LeR.cons (LeL.cons (Le.refl _) (LeL.cons (Le.refl _) (LeL.cons (Le.refl _) (LeL.cons (Le.refl _) (LeL.cons (Le.refl _) (LeL.cons (Le.refl _) (LeL.cons (Le.nilRo 1) (LeL.cons (Le.refl _) (LeL.cons (Le.refl _) (LeL.cons (Le.refl _) (LeL.cons (Le.nilRo 2) (LeL.cons (Le.nilRo 1) (LeL.cons (Le.nilRo 2) (LeL.nil)))))))))))))) (LeR.cons (LeL.cons (Le.refl _) (LeL.cons (Le.refl _) (LeL.cons (Le.refl _) (LeL.cons (Le.refl _) (LeL.cons (Le.refl _) (LeL.cons (Le.refl _) (LeL.cons (Le.nilRo 1) (LeL.cons (Le.refl _) (LeL.cons (Le.refl _) (LeL.cons (Le.refl _) (LeL.cons (Le.nilRo 2) (LeL.cons (Le.nilRo 1) (LeL.cons (Le.nilRo 2) (LeL.nil)))))))))))))) (LeR.nil)))))))).cast (M' := [.bx 38 [.z 5, .d (.v (.int .u64 1))], .rw 46 13 (evs exEv)]) rfl rfl
 have r := r.stay (p1 := [(6) = (evs exEv).length]) (p2 := []) (E1 := [(0, .d (.v (.bool false))), (2, .d (.ro 13 (frozR (evs exEv))))]) (M1 := [.bx 38 [.z 5, .d (.v (.int .u64 1))], .dead]) (M2 := [.bx 38 [.z 5, .d (.v (.int .u64 1))], .dead]) (E2 := [(0, .d (.v (.bool false))), (2, .d (.ro 13 (evs exEv)))]) (M3 := [.bx 38 [.z 5, .d (.v (.int .u64 1))], .dead]) [2] [] (by kernel_rfl) (by kernel_rfl) (And.intro (by kernel_rfl) trivial) trivial (by rw [froz_evs]) rfl
 exact toRet tk mo hK rfl [(3, [(1, .con (.tu [.z 5, .z 231]))]), (4, [(1, .ix (0) [.z ((evEx 6 p00 0).kind), .z ((evEx 6 p00 0).who.node), .u ((evEx 6 p00 0).who.inc), .z ((evEx 6 p00 0).frm.node), .u ((evEx 6 p00 0).frm.inc), .u ((evEx 6 p00 0).n), .ro 1 (bytesR (evEx 6 p00 0).body), .u ((evEx 6 p00 0).view.id.round), .z ((evEx 6 p00 0).view.id.server.node), .u ((evEx 6 p00 0).view.id.server.inc), .ro 2 (procs (evEx 6 p00 0).view.members), .ro 1 (nums (evEx 6 p00 0).view.starts), .ro 2 (procs (evEx 6 p00 0).transit)]), (4, .ix (2) [.z ((evEx 2 pEx 1).kind), .z ((evEx 2 pEx 1).who.node), .u ((evEx 2 pEx 1).who.inc), .z ((evEx 2 pEx 1).frm.node), .u ((evEx 2 pEx 1).frm.inc), .u ((evEx 2 pEx 1).n), .ro 1 (bytesR (evEx 2 pEx 1).body), .u ((evEx 2 pEx 1).view.id.round), .z ((evEx 2 pEx 1).view.id.server.node), .u ((evEx 2 pEx 1).view.id.server.inc), .ro 2 (procs (evEx 2 pEx 1).view.members), .ro 1 (nums (evEx 2 pEx 1).view.starts), .ro 2 (procs (evEx 2 pEx 1).transit)]), (7, .call [.d (.ro 13 (evs [evEx 6 p00 0, evEx 2 pEx 1]))] (.tu [.z 1, .z 233]))]), (5, [(1, .n2 (5) (0)), (2, .con (.tu [.z 5, .z 0]))])] 2000 r (by kernel_rfl) (an (exJ exEv (fun _ h => h) (by decide) ex_1 : Con Tryz.prog 8 [.d (.ro 13 (evs exEv))] (.tu [.z 5, .z 231])) (an (rfl : (0) = ((0 : Nat) : Int)) (an ((evs_at (l := exEv) rfl) : (evs exEv)[0]? = some [.z ((evEx 6 p00 0).kind), .z ((evEx 6 p00 0).who.node), .u ((evEx 6 p00 0).who.inc), .z ((evEx 6 p00 0).frm.node), .u ((evEx 6 p00 0).frm.inc), .u ((evEx 6 p00 0).n), .ro 1 (bytesR (evEx 6 p00 0).body), .u ((evEx 6 p00 0).view.id.round), .z ((evEx 6 p00 0).view.id.server.node), .u ((evEx 6 p00 0).view.id.server.inc), .ro 2 (procs (evEx 6 p00 0).view.members), .ro 1 (nums (evEx 6 p00 0).view.starts), .ro 2 (procs (evEx 6 p00 0).transit)]) (an (rfl : (2) = ((2 : Nat) : Int)) (an ((evs_at (l := exEv) rfl) : (evs exEv)[2]? = some [.z ((evEx 2 pEx 1).kind), .z ((evEx 2 pEx 1).who.node), .u ((evEx 2 pEx 1).who.inc), .z ((evEx 2 pEx 1).frm.node), .u ((evEx 2 pEx 1).frm.inc), .u ((evEx 2 pEx 1).n), .ro 1 (bytesR (evEx 2 pEx 1).body), .u ((evEx 2 pEx 1).view.id.round), .z ((evEx 2 pEx 1).view.id.server.node), .u ((evEx 2 pEx 1).view.id.server.inc), .ro 2 (procs (evEx 2 pEx 1).view.members), .ro 1 (nums (evEx 2 pEx 1).view.starts), .ro 2 (procs (evEx 2 pEx 1).transit)]) (an (exJ [evEx 6 p00 0, evEx 2 pEx 1] (by unfold exEv; simp) (by decide) ex_2) (an ((ind_two _ _) : Ind (.tu [.z 1, .z 233])) (an (rfN (13)) (an ((by first | rfl | (simp; done) | (simp <;> omega)) : (2) = ([[.z ((evEx 6 p00 0).kind), .z ((evEx 6 p00 0).who.node), .u ((evEx 6 p00 0).who.inc), .z ((evEx 6 p00 0).frm.node), .u ((evEx 6 p00 0).frm.inc), .u ((evEx 6 p00 0).n), .ro 1 (bytesR (evEx 6 p00 0).body), .u ((evEx 6 p00 0).view.id.round), .z ((evEx 6 p00 0).view.id.server.node), .u ((evEx 6 p00 0).view.id.server.inc), .ro 2 (procs (evEx 6 p00 0).view.members), .ro 1 (nums (evEx 6 p00 0).view.starts), .ro 2 (procs (evEx 6 p00 0).transit)], [.z ((evEx 2 pEx 1).kind), .z ((evEx 2 pEx 1).who.node), .u ((evEx 2 pEx 1).who.inc), .z ((evEx 2 pEx 1).frm.node), .u ((evEx 2 pEx 1).frm.inc), .u ((evEx 2 pEx 1).n), .ro 1 (bytesR (evEx 2 pEx 1).body), .u ((evEx 2 pEx 1).view.id.round), .z ((evEx 2 pEx 1).view.id.server.node), .u ((evEx 2 pEx 1).view.id.server.inc), .ro 2 (procs (evEx 2 pEx 1).view.members), .ro 1 (nums (evEx 2 pEx 1).view.starts), .ro 2 (procs (evEx 2 pEx 1).transit)]] : List (List DV)).length) (an ((by first | rfl | exact froz_evs [evEx 6 p00 0, evEx 2 pEx 1]) : frozR ([[.z ((evEx 6 p00 0).kind), .z ((evEx 6 p00 0).who.node), .u ((evEx 6 p00 0).who.inc), .z ((evEx 6 p00 0).frm.node), .u ((evEx 6 p00 0).frm.inc), .u ((evEx 6 p00 0).n), .ro 1 (bytesR (evEx 6 p00 0).body), .u ((evEx 6 p00 0).view.id.round), .z ((evEx 6 p00 0).view.id.server.node), .u ((evEx 6 p00 0).view.id.server.inc), .ro 2 (procs (evEx 6 p00 0).view.members), .ro 1 (nums (evEx 6 p00 0).view.starts), .ro 2 (procs (evEx 6 p00 0).transit)], [.z ((evEx 2 pEx 1).kind), .z ((evEx 2 pEx 1).who.node), .u ((evEx 2 pEx 1).who.inc), .z ((evEx 2 pEx 1).frm.node), .u ((evEx 2 pEx 1).frm.inc), .u ((evEx 2 pEx 1).n), .ro 1 (bytesR (evEx 2 pEx 1).body), .u ((evEx 2 pEx 1).view.id.round), .z ((evEx 2 pEx 1).view.id.server.node), .u ((evEx 2 pEx 1).view.id.server.inc), .ro 2 (procs (evEx 2 pEx 1).view.members), .ro 1 (nums (evEx 2 pEx 1).view.starts), .ro 2 (procs (evEx 2 pEx 1).transit)]]) = evs [evEx 6 p00 0, evEx 2 pEx 1]) (an (rfl : (5 : Int) = ((5 : Nat) : Int)) (an ((Nat.le_of_ble_eq_true (by kernel_rfl)) : (5) ≤ (evs exEv : List (List DV)).length) (an ((by rw [ex_take]; exact exJ (exEv.take 5) (fun _ h => List.mem_of_mem_take h) (by decide) ex_3) : Con Tryz.prog 8 [.d (.ro 13 (List.take (5) (evs exEv)))] (.tu [.z 5, .z 0])) trivial)))))))))))))
theorem stF_take (l : List Ev) (k : Nat) : ∀ {i : Nat}, i ≤ k → stF (l.take k) i = stF l i
 | 0, _ => rfl
 | i + 1, h => by
  have e : (l.take k)[i]? = l[i]? := by rw [List.getElem?_take, if_pos (by omega)]
  rw [stF, stF, e, stF_take l k (show i ≤ k by omega)]
theorem errAt_take {l : List Ev} {k i : Nat} (h : i < k) : errAt (l.take k) i = errAt l i := by
 have e : (l.take k)[i]? = l[i]? := by rw [List.getElem?_take, if_pos h]
 rw [errAt, errAt, e, stF_take l k (show i ≤ k by omega)]
end Go.Proofs.YtilhbhpldkjkaaaGreat
namespace Go.Proofs.YtilhbhpldkjkaaaGreat
open Go.RowKit
theorem Tryz.own : ownKnob Tryz.prog.godebug = none := by kernel_rfl
deriving instance Inhabited for Proc, Vid, View, Ev
variable {w : World}
theorem Rd.int' {P : Program} {t : TypeId} (h : P.underlying t = some (.int .i64)) : Rd P w t (fun n : Int => [.z n]) fun n => -9223372036854775808 ≤ n ∧ n ≤ 9223372036854775807 := fun cs hc => by
 obtain ⟨n, rfl, hw⟩ := hc.int h
 have hw' : -9223372036854775808 ≤ n ∧ n ≤ 9223372036854775807 := by simpa [Lit.wf, IntKind.min, IntKind.max, IntKind.signed, IntKind.bits] using hw
 exact ⟨n, hw', .one (.v _)⟩
def Rs (P : Program) (w : World) (fs : List Field) (off tot : Nat) {α : Type} (row : α → List DV) (ok : α → Prop) : Prop := ∀ cs : List Value, cs.length = tot → (∀ f ∈ fs, TR P w f.type ((cs.drop f.offset).take (P.cellsOf f.type))) → ∃ x, ok x ∧ DRs w (row x) (cs.drop off)
theorem Rs.nil {P : Program} {tot : Nat} : Rs P w [] tot tot (fun _ : Unit => []) fun _ => True := fun cs hl _ => ⟨(), trivial, by rw [List.drop_of_length_le (by omega)]; exact ⟨rfl, by simp⟩⟩
theorem Rs.cons {P : Program} {f : Field} {fs : List Field} {off k tot : Nat} {α β : Type} {row0 : α → List DV} {row1 : β → List DV} {ok0 : α → Prop} {ok1 : β → Prop} (h0 : f.offset = off) (hk : P.cellsOf f.type = k) (r : Rd P w f.type row0 ok0) (rs : Rs P w fs (off + k) tot row1 ok1) : Rs P w (f :: fs) off tot (fun x : α × β => row0 x.1 ++ row1 x.2) fun x => ok0 x.1 ∧ ok1 x.2 := fun cs hl hf => by
 have a0 := hf f List.mem_cons_self
 rw [h0, hk] at a0
 obtain ⟨x, b0, c0⟩ := r _ a0
 obtain ⟨y, b1, c1⟩ := rs cs hl fun g hg => hf g (List.mem_cons_of_mem _ hg)
 refine ⟨(x, y), ⟨b0, b1⟩, ?_⟩
 have := c0.app c1
 rwa [← List.drop_drop, List.take_append_drop] at this
theorem Rd.struct {P : Program} {t tot : Nat} {fs : List Field} {α : Type} {row : α → List DV} {ok : α → Prop} (h : P.underlying t = some (.struct fs.toArray)) (ht : P.cellsOf t = tot) (rs : Rs P w fs 0 tot row ok) : Rd P w t row ok := fun cs hc => by
 obtain ⟨hl, hf⟩ := hc.struct h
 obtain ⟨x, h1, h2⟩ := rs cs (by omega) (by simpa using hf)
 exact ⟨x, h1, by simpa using h2⟩
theorem rd_proc : Rd Tryz.prog w 38 Proc.row Proc.okP := ((Rd.struct (fs := [⟨"Node", 3, 0, false, "", "", 0⟩, ⟨"Inc", 36, 1, false, "", "", 8⟩]) (tot := 2) (by kernel_rfl) (by kernel_rfl) (Rs.cons rfl (k := 1) (by kernel_rfl) (Rd.int' Tryz.underlying3) (Rs.cons rfl (k := 1) (by kernel_rfl) (Rd.u64 Tryz.underlying36) Rs.nil))).map fun x => Proc.mk x.1 x.2.1) (fun _ => rfl) fun _ h => ⟨h.1, h.2.1⟩
theorem rd_bytes : Rd Tryz.prog w 30 (fun l : List UInt8 => [.ro 1 (bytesR l)]) fun l => l.length ≤ 9223372036854775807 := ((Rd.slice Tryz.underlying30 (by kernel_rfl) (Rd.byte Tryz.underlying5)).map id) (fun _ => rfl) fun _ h => h.1
theorem rd_nums : Rd Tryz.prog w 42 (fun l : List Nat => [.ro 1 (nums l)]) fun l => l.length ≤ 9223372036854775807 ∧ ∀ n ∈ l, n ≤ 18446744073709551615 := Rd.slice Tryz.underlying42 (by kernel_rfl) (Rd.u64 Tryz.underlying36)
theorem rd_procs : Rd Tryz.prog w 41 (fun l : List Proc => [.ro 2 (procs l)]) fun l => l.length ≤ 9223372036854775807 ∧ ∀ p ∈ l, p.okP := Rd.slice Tryz.underlying41 (by kernel_rfl) rd_proc
def Vid.row (v : Vid) : List DV := .u v.round :: v.server.row
theorem rd_vid : Rd Tryz.prog w 40 Vid.row Vid.okV := ((Rd.struct (fs := [⟨"Round", 36, 0, false, "", "", 0⟩, ⟨"Server", 38, 1, false, "", "", 8⟩]) (tot := 3) (by kernel_rfl) (by kernel_rfl) (Rs.cons rfl (k := 1) (by kernel_rfl) (Rd.u64 Tryz.underlying36) (Rs.cons rfl (k := 2) (by kernel_rfl) rd_proc Rs.nil))).map fun x => Vid.mk x.1 x.2.1) (fun x => by simp [Vid.row]) fun _ h => ⟨h.1, h.2.1⟩
structure View.Rd (v : View) : Prop where
 vid : v.id.okV
 members : v.members.length ≤ 9223372036854775807
 starts : v.starts.length ≤ 9223372036854775807
theorem rd_view : Go.Proofs.YtilhbhpldkjkaaaGreat.Rd Tryz.prog w 44 View.row View.Rd := ((Rd.struct (fs := [⟨"Id", 40, 0, false, "", "", 0⟩, ⟨"Members", 41, 3, false, "", "", 24⟩, ⟨"Starts", 42, 4, false, "", "", 48⟩]) (tot := 5) (by kernel_rfl) (by kernel_rfl) (Rs.cons rfl (k := 3) (by kernel_rfl) rd_vid (Rs.cons rfl (k := 1) (by kernel_rfl) rd_procs (Rs.cons rfl (k := 1) (by kernel_rfl) rd_nums Rs.nil)))).map fun x => View.mk x.1 x.2.1 x.2.2.1) (fun x => by simp [View.row, Vid.row, Proc.row]) fun _ h => ⟨h.1, h.2.1.1, h.2.2.1.1⟩
theorem rd_ev : Go.Proofs.YtilhbhpldkjkaaaGreat.Rd Tryz.prog w 46 Ev.row Ev.Rd := ((Rd.struct (fs := [⟨"Kind", 3, 0, false, "", "", 0⟩, ⟨"Who", 38, 1, false, "", "", 8⟩, ⟨"From", 38, 3, false, "", "", 24⟩, ⟨"N", 36, 5, false, "", "", 40⟩, ⟨"Body", 30, 6, false, "", "", 48⟩, ⟨"View", 44, 7, false, "", "", 72⟩, ⟨"Transit", 41, 12, false, "", "", 144⟩]) (tot := 13) (by kernel_rfl) (by kernel_rfl) (Rs.cons rfl (k := 1) (by kernel_rfl) (Rd.int' Tryz.underlying3) (Rs.cons rfl (k := 2) (by kernel_rfl) rd_proc (Rs.cons rfl (k := 2) (by kernel_rfl) rd_proc (Rs.cons rfl (k := 1) (by kernel_rfl) (Rd.u64 Tryz.underlying36) (Rs.cons rfl (k := 1) (by kernel_rfl) rd_bytes (Rs.cons rfl (k := 5) (by kernel_rfl) rd_view (Rs.cons rfl (k := 1) (by kernel_rfl) rd_procs Rs.nil)))))))).map fun x => Ev.mk x.1 x.2.1 x.2.2.1 x.2.2.2.1 x.2.2.2.2.1 x.2.2.2.2.2.1 x.2.2.2.2.2.2.1) (fun x => by simp [Ev.row, View.row, Proc.row]) fun _ h => ⟨h.2.1, h.2.2.1, h.2.2.2.1, h.2.2.2.2.2.1.vid, h.2.2.2.2.1, h.2.2.2.2.2.1.members, h.2.2.2.2.2.1.starts, h.2.2.2.2.2.2.1.1⟩
theorem rd_evs : Go.Proofs.YtilhbhpldkjkaaaGreat.Rd Tryz.prog w 22 (fun l : List Ev => [.ro 13 (evs l)]) fun l => l.length ≤ 9223372036854775807 ∧ ∀ e ∈ l, e.Rd := Rd.slice Tryz.underlying22 (by kernel_rfl) rd_ev
end Go.Proofs.YtilhbhpldkjkaaaGreat
namespace Go.Proofs.YtilhbhpldkjkaaaGreat
open Go.RowKit
theorem getK_others {L : Lives} {p q : Proc} : getK (others L p) q = if q.node = p.node then none else getK L q := by
 unfold others
 induction L with
 | nil => simp [getK]
 | cons x r ih =>
  rw [List.filter_cons, getK_cons]
  by_cases h1 : x.2.1.node = p.node
  ·rw [if_neg (by simp [h1]), ih]
   by_cases h2 : q.node = p.node
   ·rw [if_pos h2, if_pos h2]
   ·rw [if_neg h2, if_neg h2, if_neg (fun e => h2 (by rw [← e]; exact h1))]
  ·rw [if_pos (by simp [h1]), getK_cons, ih]
   by_cases h3 : x.2.1 = q
   ·rw [if_pos h3, if_neg (by rw [← h3]; exact h1), if_pos h3]
   ·rw [if_neg h3, if_neg h3]
theorem begin_zero {L : Lives} {nl : Nat} {p : Proc} (h : (beginJ L nl p).err = 0) : p.may = true ∧ endsB L p = false ∧ beginJ L nl p = ⟨0, others L p ++ [(nl, p, Life.new p)], nl + 1⟩ := by
 by_cases h1 : p.may = false
 ·rw [beginJ1 h1] at h; exact absurd h (by simp)
 ·have h1 : p.may = true := by simpa using h1
  by_cases h2 : endsB L p = true
  ·rw [beginJ2 h2] at h; exact absurd h (by simp)
  ·have h2 : endsB L p = false := by simpa using h2
   exact ⟨h1, h2, beginJ3 h1 h2⟩
theorem ends_off {L : Lives} {p q : Proc} {f : Life} (h : endsB L p = false) (hf : getK L q = some f) (hn : q.node = p.node) : f.on = false ∧ q.inc < p.inc := by
 obtain ⟨b, hb⟩ := getK_mem hf
 unfold endsB at h; rw [List.any_eq_false] at h
 have := h _ hb
 simp only [hn, decide_true, Bool.true_and, Bool.or_eq_true, decide_eq_true_eq, not_or] at this
 exact ⟨by simpa using this.1, by omega⟩
theorem life_zero {s : JS} {e : Ev} (h : (nextJ s e).1 = 0) (h6 : e.kind ≠ 6) : ∃ f, getK s.L e.who = some f ∧ f.on = true ∧ nextJ s e = lifeJ s f e := by
 cases hg : getK s.L e.who with
 | none => rw [nextJn h6 hg] at h; exact absurd h (by simp)
 | some f =>
  cases ho : f.on with
  | false => rw [nextJo h6 hg ho] at h; exact absurd h (by simp)
  | true => exact ⟨f, rfl, ho, nextJl h6 hg ho⟩
end Go.Proofs.YtilhbhpldkjkaaaGreat
