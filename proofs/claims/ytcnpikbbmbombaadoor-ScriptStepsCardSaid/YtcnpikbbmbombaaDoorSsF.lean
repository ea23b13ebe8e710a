/-
  scriptSteps_card, part 6 of 6: merged by program from the texts that it needs.
-/
import Derived.Test.YtcnpikbbmbombaaDoorSsE
set_option linter.unusedSimpArgs false
set_option linter.unusedVariables false
set_option linter.unnecessarySimpa false
namespace Go.Proofs.YtcnpikbbmbombaaDoor
open Go.ChangeShapes Go.WideShapes Go.ChangeAt Go.RowKit
theorem Tryd.laidOut:laidOutB Tryd.prog=true:=by kernel_rfl
theorem Tryd.own:ownKnob Tryd.prog.godebug=none:=by kernel_rfl
theorem Kv {w:World} {laid:List (String×DataW Unit)} (h:laidMet Tryd.prog laid w) (h0:("caucus/script.shapes",Rows.laid_caucus_script_shapes) ∈ laid) (h1:("internal/strconv.uint64pow10",Rows.laid_internal_strconv_uint64pow10) ∈ laid):sn [.gw 0 aj,.gw 1 aL] (Gr w):=fun u blk hu=>by
 match u,hu with
 | 0,hu=>cases hu;exact Ak h h0 (t:=85) 5 Kt (by kernel_rfl) (by kernel_rfl) (by kernel_rfl)
 | 1,hu=>cases hu;exact Ak h h1 (t:=139) 5 Ku (by kernel_rfl) (by kernel_rfl) (by kernel_rfl)
 | k+2,hu=>simp at hu
end Go.Proofs.YtcnpikbbmbombaaDoor
namespace Go.Proofs.YtcnpikbbmbombaaDoor
open Go.ChangeShapes Go.WideShapes Go.ChangeAt Go.RowKit
theorem EZ:Tryd.prog.funcs.any Func.goes=false:=by kernel_rfl
theorem Ig {P:Program} (h:P.funcs.any Func.goes=false) (f:FuncId):P.goes f=false:=by
 have h1:∀ (g:Nat) fn,P.funcs[g]?=some fn→fn.goes=false:=fun g fn hg=>by
  have:=Array.any_eq_false.1 h g (Array.getElem?_eq_some_iff.1 hg).1
  obtain ⟨aF,rfl⟩:=Array.getElem?_eq_some_iff.1 hg
  simpa using this
 unfold Program.goes
 rw [h,Bool.and_false,Bool.or_false,List.any_eq_false]
 intro g _
 cases hg:P.funcs[g]? with
 | none=>simp
 | some fn=>simp [h1 g fn hg]
theorem E4 {P:Program} {c:OpenClaim} (hs:c.start=.entering) (h:P.funcs.any Func.goes=false):false=c.goesBy P:=by
 unfold OpenClaim.goesBy Program.goesAt Program.goesFrom
 rw [hs]
 cases P.funcNamed c.func with
 | none=>rfl
 | some f=>simp [Ig h f]
end Go.Proofs.YtcnpikbbmbombaaDoor
namespace Go.Proofs.YtcnpikbbmbombaaDoor
open Go.ChangeShapes Go.WideShapes Go.ChangeAt Go.RowKit
theorem Ih {w:World}:Rd Tryd.prog w 29 (fun l:List UInt8=>[.ro 1 (af l)]) fun l=>l.length≤9223372036854775807∧∀ b ∈ l,True:=Rd.slice (e:=5) (by kernel_rfl) (by kernel_rfl) (Rd.byte (by kernel_rfl))
theorem GH {w:World} {l:List UInt8} {v:Value} {a:Option Addr} {n c:Nat} (e:v=.slice a n c) (h:qS w [.ro 1 (af l)] v.cells.toList):ao (Gr w) [] (.d (.ro 1 (af l))) v:=by
 subst e
 exact .d (h.2 0 _ _ rfl rfl)
set_option maxRecDepth 100000 in
theorem C2 (os:Os) (started:os.Started) (H:Type) (enc:TypeId×Value→H):
  ReturnsInHanded {} Tryd.checked os 4 .any (fun w args=>(Rows.scriptStepsSpec.pre enc Tryd.prog Tryd.f4 [] false w args∧laidMetH Tryd.prog Rows.scriptStepsRow.laid w)∧sizedMet enc Tryd.prog Tryd.f4 (OpenSpec.ofChange Rows.scriptStepsSpec) false w args)
   (Rows.scriptStepsSpec.post enc Tryd.prog Tryd.f4 false true false false):=by
 refine returnsInHanded_of_change_and (C:=Tryd.checked) (X:=fun w _=>laidMetH Tryd.prog Rows.scriptStepsRow.laid w) (fun _ _ _ hh h=>h.of_heap hh) Tryd.own started (by kernel_rfl) Tryd.func4
  (ChangeSpec.witness_shaped (enc:=enc) (C:=Tryd.checked) (os:=os) (X:=fun w _=>laidMetH Tryd.prog Rows.scriptStepsRow.laid w) false (World.laidAll Tryd.prog os Rows.scriptStepsRow.laid) #[.slice none 0 0] 8 (World.laidAll_os _ _ _) (World.shaped_of_ZipB (by kernel_rfl) (by kernel_rfl)) (by kernel_rfl) (by kernel_rfl) (by kernel_rfl)
   (by rw [MakeChecks.laidMetH_plain _ _ _ (by kernel_rfl)];exact laidMet_laidAll _ (by kernel_rfl) (by kernel_rfl))) ?_
 intro W base args ds gs before Kw hW _ bj hX _
 have x3:DataW.Whole enc Tryd.prog Tryd.f4.params.toList Rows.scriptStepsSpec.vars false W args.toList ds gs before:=hW
 obtain ⟨p,q,MQ,hV,rfl,L8,fM⟩:=hW
 have hA:DataW.TrodAll enc Tryd.prog W 0 (fun _=>true) true Tryd.f4.params.toList args.toList ds p:=MQ
 have l5:∀ (j:Nat) t v,Tryd.f4.params[j]?=some t→args[j]?=some v→Value.okWide Tryd.prog W .any base t v:=Kw
 rw [Tryd.params4] at hA l5
 obtain ⟨v0,N1,d0,N2,p0,q0,MR,rfl,rfl,h0,r0⟩:=trodAll_cons hA
 obtain ⟨rfl,rfl,rfl⟩:=trodAll_nil r0
 obtain rfl:args=#[v0]:=by cases args;simp_all
 obtain ⟨rfl,rfl⟩:=trodVars_none hV
 have N3:=reachBytes_lt
 obtain ⟨a0,n0,c0,aq⟩:=okWide_slice (P:=Tryd.prog) (e:=5) (by kernel_rfl) (l5 0 29 v0 rfl rfl)
 obtain ⟨l,⟨hl,-⟩,hs⟩:=Ih _ (TR.of h0)
 refine (ax.IJ (Ie l hl) (Kv ((MakeChecks.laidMetH_plain _ _ _ (by kernel_rfl)).mp hX) (by simp [Rows.scriptStepsRow]) (by simp [Rows.scriptStepsRow])) (ys:=[_]) rfl fun j x y e1 e2=>?_).mono fun e W' ⟨he,hg⟩=>?_
 ·match j,e1,e2 with
  | 0,e1,e2=>cases e1;cases e2;exact GH aq hs
  | k+1,e1,e2=>simp at e1
 ·subst he
  exact ⟨_,rfl,FZ Tryd.laidOut (by kernel_rfl) (by kernel_rfl) Tryd.underlying4 rfl x3 rfl hg⟩
theorem C4:joinedFacts Tryd.pinned.checked.prog 4 Tryd.f4 Rows.scriptStepsSpec Rows.scriptStepsRow=true:=by kernel_rfl
theorem C5:Rows.ScriptStepsSaid:=
 OpenClaim.holds_of_wide 4 Tryd.f4 rfl rfl rfl rfl rfl rfl rfl ⟨rfl,rfl,rfl,rfl,rfl⟩ rfl rfl rfl rfl rfl (by kernel_rfl) Tryd.func4 C4
  (of_decide_eq_true (by kernel_rfl)) (by unfold Func.isWrapper;first | (rw [if_pos (by decide +kernel)];kernel_rfl) | (rw [if_neg (by decide +kernel)];exact ⟨rfl,rfl⟩))
  (fun os started H enc _=>C2 os started H enc)
theorem C8:Tryd.pinned.checked.prog.wantsStandIn 29=false:=by kernel_rfl
theorem scriptSteps_card:Rows.ScriptStepsCardSaid:=
 Claim7.holds_tied_plain_at .later [] [.data,.data,.data,.data,.data,.pinned] true (true, "0edacff6e8291fc64211613a97ae50fcf3cacb0915dc33591f8cf181fd7d35d1") false C5 (fun _ h=>by cases h) (by kernel_rfl) (fun _ h=>by cases h) scriptSteps_row_tie rfl ⟨rfl,rfl⟩ (by kernel_rfl) rfl
  (fun f fn hf mF=>by
   obtain rfl:f=4:=Option.some.inj ((show Tryd.prog.funcNamed "caucus/caucuslaw27.ScriptSteps"=some 4 by kernel_rfl).symm.trans hf) |>.symm
   obtain rfl:fn=Tryd.f4:=(Option.some.inj (Tryd.func4.symm.trans mF)).symm
   exact ⟨by kernel_rfl,fun j t ht=>by
    rw [Tryd.params4] at ht
    match j,ht with
    | 0,ht=>
     obtain rfl:t=29:=by simpa using ht.symm
     exact C8
    | k+1,ht=>simp at ht⟩)
  (E4 rfl EZ)
end Go.Proofs.YtcnpikbbmbombaaDoor
