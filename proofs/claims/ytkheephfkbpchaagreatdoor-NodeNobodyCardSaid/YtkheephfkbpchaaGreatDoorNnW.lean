/-
  nodeNobody_card, part 23 of 25: merged by program from the texts that it needs.
-/
import Derived.Test.YtkheephfkbpchaaGreatDoorNnE
import Derived.Test.YtkheephfkbpchaaGreatDoorNnR
import Derived.Test.YtkheephfkbpchaaGreatDoorNnU
import Derived.Test.YtkheephfkbpchaaGreatDoorNnV
set_option linter.unusedSimpArgs false
set_option linter.unusedVariables false
set_option linter.unnecessarySimpa false
namespace Go.Proofs.YtkheephfkbpchaaGreatDoor
open Go.RowKit
def Sb:List Part:=[OH,OI,OJ,OK,OL,OM,OO,OP,OR,OS,OT,OU,OV,OW,OY,OZ,O1,O2,O4,O5,O7,O8,O9,Pa,Pc,Pd,Pf,Ph]++OG
theorem Zo:aU Tryz.prog Sb:=aU.app (.cons acx (.cons acy (.cons acz (.cons acA (.cons acB (.cons acC (.cons acD (.cons acE (.cons acF (.cons acG (.cons acH (.cons acI (.cons acJ (.cons acK (.cons acL (.cons acM (.cons acN (.cons acO (.cons acP (.cons acQ (.cons acR (.cons acS (.cons acT (.cons acU (.cons acV (.cons acW (.cons acX (.cons acY .nil)))))))))))))))))))))))))))) b8
end Go.Proofs.YtkheephfkbpchaaGreatDoor
namespace Go.Proofs.YtkheephfkbpchaaGreatDoor
open Go.RowKit
def acZ:List Part:=[]++Sb
theorem lB:aU Tryz.prog acZ:=aU.app .nil Zo
end Go.Proofs.YtkheephfkbpchaaGreatDoor
