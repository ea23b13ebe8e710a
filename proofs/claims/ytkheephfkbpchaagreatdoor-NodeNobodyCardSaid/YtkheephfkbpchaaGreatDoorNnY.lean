/-
  nodeNobody_card, part 25 of 25: merged by program from the texts that it needs.
-/
import Derived.Test.YtkheephfkbpchaaGreatDoorNnE
import Derived.Test.YtkheephfkbpchaaGreatDoorNnF
import Derived.Test.YtkheephfkbpchaaGreatDoorNnK
import Derived.Test.YtkheephfkbpchaaGreatDoorNnS
import Derived.Test.YtkheephfkbpchaaGreatDoorNnT
import Derived.Test.YtkheephfkbpchaaGreatDoorNnX
set_option linter.unusedSimpArgs false
set_option linter.unusedVariables false
set_option linter.unnecessarySimpa false
namespace Go.Proofs.YtkheephfkbpchaaGreatDoor
open Go.RowKit
def Tq:List Part:=[Tj,To,Tp,PK,PL,PS,PW,P0,P4,P8,Qc,Qe,Qg,Qk,Qr,Qt,Qv,QW,QZ,Q6,Mq,MH,ML,MO,MV,MY,M8,Nb,Nf,Nv,NH,NJ,NW,N9,Ob,Oq,Ov,OC,OF,ON,OQ,OX,O0,O3,O6,Pb,Pe,Pg,Pj]
theorem ada:aU Tryz.prog Tq:=(.cons pk4 (.cons pk8 (.cons pk9 (.cons aff (.cons afg (.cons afh (.cons afi (.cons afj (.cons afk (.cons afl (.cons afm (.cons afn (.cons afo (.cons afp (.cons afq (.cons afr (.cons afs (.cons afw (.cons afu (.cons afv (.cons acq (.cons acr (.cons acb (.cons acd (.cons ace (.cons acf (.cons acg (.cons ach (.cons aci (.cons acs (.cons acj (.cons ack (.cons acu (.cons acv (.cons acm (.cons acw (.cons acn (.cons aco (.cons acp (.cons ac0 (.cons ac1 (.cons ac2 (.cons ac3 (.cons ac4 (.cons ac5 (.cons ac6 (.cons ac7 (.cons ac8 (.cons ac9 .nil)))))))))))))))))))))))))))))))))))))))))))))))))
theorem Yk:ei Tryz.prog 7 [.gw 0 bp] [] (.v (.bool true)):=Wu (T:=tb) (KL:=[3,309,25]) (X:=Eb Tq AH) (fuel:=100000) (d:=60) tk ao tq (bd ada al) (by kernel_rfl)
end Go.Proofs.YtkheephfkbpchaaGreatDoor
namespace Go.Proofs.YtkheephfkbpchaaGreatDoor
open Go.ChangeShapes Go.WideShapes Go.ChangeAt Go.RowKit
theorem Tx:Rows.NodeNobodySaid:=
 OpenClaim.holds_of_wide 3 Tryz.f3 rfl rfl rfl rfl rfl rfl rfl ⟨rfl,rfl,rfl,rfl,rfl⟩ rfl rfl rfl rfl rfl (by kernel_rfl) Tryz.func3 Zh
  (of_decide_eq_true (by kernel_rfl)) (by unfold Func.isWrapper;first | (rw [if_pos (by decide +kernel)];kernel_rfl) | (rw [if_neg (by decide +kernel)];exact ⟨rfl,rfl⟩))
  (fun os started H enc _=>Tw Yk os started H enc)
theorem Vi:Tryz.prog.funcs.any Func.goes=false:=by kernel_rfl
theorem Yl {P:Program} (h:P.funcs.any Func.goes=false) (f:FuncId):P.goes f=false:=by
 have h1:∀ (g:Nat) fn,P.funcs[g]?=some fn→fn.goes=false:=fun g fn hg=>by
  have:=Array.any_eq_false.1 h g (Array.getElem?_eq_some_iff.1 hg).1
  obtain ⟨aG,rfl⟩:=Array.getElem?_eq_some_iff.1 hg
  simpa using this
 unfold Program.goes
 rw [h,Bool.and_false,Bool.or_false,List.any_eq_false]
 intro g _
 cases hg:P.funcs[g]? with
 | none=>simp
 | some fn=>simp [h1 g fn hg]
theorem Vj {P:Program} {c:OpenClaim} (hs:c.start=.entering) (h:P.funcs.any Func.goes=false):false=c.goesBy P:=by
 unfold OpenClaim.goesBy Program.goesAt Program.goesFrom
 rw [hs]
 cases P.funcNamed c.func with
 | none=>rfl
 | some f=>simp [Yl h f]
theorem Zp:Tryz.pinned.checked.prog.wantsStandIn 33=false:=by kernel_rfl
theorem nodeNobody_card:Rows.NodeNobodyCardSaid:=
 Claim7.holds_tied_plain_at .later [] [.data] true (true, "79d2c3962f32077a78f1d56559559dee9b0d386692dff5dc77fb4503cf0c87cb") false Tx (fun _ h=>by cases h) (by kernel_rfl) (fun _ h=>by cases h) nodeNobody_row_tie rfl ⟨rfl,rfl⟩ (by kernel_rfl) rfl
  (fun f fn hf th=>by
   obtain rfl:f=3:=Option.some.inj ((show Tryz.prog.funcNamed "caucus/caucuslaw24.NodeNobody"=some 3 by kernel_rfl).symm.trans hf) |>.symm
   obtain rfl:fn=Tryz.f3:=(Option.some.inj (Tryz.func3.symm.trans th)).symm
   exact ⟨by kernel_rfl,fun j t ht=>by
    rw [Tryz.params3] at ht
    match j,ht with
    | 0,ht=>
     obtain rfl:t=33:=by simpa using ht.symm
     exact Zp
    | k+1,ht=>simp at ht⟩)
  (Vj rfl Vi)
end Go.Proofs.YtkheephfkbpchaaGreatDoor
