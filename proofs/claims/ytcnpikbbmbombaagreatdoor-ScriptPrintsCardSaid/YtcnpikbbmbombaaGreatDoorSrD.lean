/-
  scriptPrints_card, part 4 of 7: merged by program from the texts that it needs.
-/
import Derived.Test.YtcnpikbbmbombaaGreatDoorSrC
set_option linter.unusedSimpArgs false
set_option linter.unusedVariables false
set_option linter.unnecessarySimpa false
namespace Go.Proofs.YtcnpikbbmbombaaGreatDoor
open Go.RowKit
theorem A4 {k:Nat} (h:k<14):(cD k).length≤4:=kG (p:=fun k=>(cD k).length≤4) (by decide) (by decide) (by decide) (by decide) (by decide) (by decide) (by decide) (by decide) (by decide) (by decide) (by decide) (by decide) (by decide) (by decide) h
theorem oq (k:Int):(fieldsOf k).length≤9223372036854775807:=by
 unfold fieldsOf;split
 ·have:=A4 (k:=k.toNat) (by omega);omega
 ·decide
theorem JS {k:Nat} (h:k<14):(cD k==[45])=false:=kG (p:=fun k=>(cD k==[45])=false) (by decide) (by decide) (by decide) (by decide) (by decide) (by decide) (by decide) (by decide) (by decide) (by decide) (by decide) (by decide) (by decide) (by decide) h
theorem FO {k:Nat} (h:k<14):bj (cD k) 110=(af k).node∧bj (cD k) 112=(af k).peer∧bj (cD k) 105=(af k).n∧bj (cD k) 98=(af k).bit∧bj (cD k) 99=(af k).inc∧bj (cD k) 116=(af k).body:=
 kG (p:=fun k=>bj (cD k) 110=(af k).node∧bj (cD k) 112=(af k).peer∧bj (cD k) 105=(af k).n∧bj (cD k) 98=(af k).bit∧bj (cD k) 99=(af k).inc∧bj (cD k) 116=(af k).body) (by decide) (by decide) (by decide) (by decide) (by decide) (by decide) (by decide) (by decide) (by decide) (by decide) (by decide) (by decide) (by decide) (by decide) h
def fH (s:aL):Bool:=bif fieldsOf s.kind==([45]:List UInt8) then false else (bif decide ((s.node:Int)<0) then false else (bif decide ((255:Int)<s.node) then false else (bif decide ((s.peer:Int)<0) then false else (bif decide ((255:Int)<s.peer) then false else (bif decide ((s.n:Int)<0) then false else (bif decide ((255:Int)<s.n) then false else (bif decide ((s.bit:Int)<0) then false else (bif decide ((65535:Int)<s.bit) then false else (bif decide ((255:Int)<((s.body.length:Nat):Int)) then false else (bif ((s.node:Int)==0||bj (fieldsOf s.kind) 110) then (bif ((s.peer:Int)==0||bj (fieldsOf s.kind) 112) then (bif ((s.n:Int)==0||bj (fieldsOf s.kind) 105) then (bif ((s.bit:Int)==0||bj (fieldsOf s.kind) 98) then (bif ((((s.inc:Nat):Int):Int)==0||bj (fieldsOf s.kind) 99) then (((((s.body.length:Nat):Int):Int)==0||bj (fieldsOf s.kind) 116)) else false) else false) else false) else false) else false))))))))))
theorem Of (c y:Bool):(bif c then false else y)=(!c&&y):=by cases c<;>rfl
theorem Og (c y:Bool):(bif c then y else false)=(c&&y):=by cases c<;>rfl
theorem gh (s:aL):fH s=hasB s:=by
 unfold fH hasB
 by_cases hk:0≤s.kind∧s.kind<14
 ·obtain ⟨h1,h2⟩:=hk
  rw [pV h1 h2,JS (by omega)]
  obtain ⟨e1,e2,e3,e4,e5,e6⟩:=FO (k:=s.kind.toNat) (by omega)
  rw [e1,e2,e3,e4,e5,e6,decide_eq_true h1,decide_eq_true h2]
  unfold fB dh
  generalize af s.kind.toNat=x
  simp only [Of,Og]
  rw [Bool.eq_iff_iff]
  simp only [Bool.not_false,Bool.true_and,Bool.and_eq_true,Bool.or_eq_true,decide_eq_true_eq,Bool.not_eq_true',decide_eq_false_iff_not,beq_iff_eq]
  cases x.node<;>cases x.peer<;>cases x.n<;>cases x.bit<;>cases x.inc<;>cases x.body<;>simp only [Bool.false_eq_true,false_and,or_false,true_and,or_true,and_true,true_or,false_or]<;>omega
 ·rw [rF (by omega)]
  have:(decide (0≤s.kind)&&decide (s.kind<14))=false:=by simp;omega
  rw [show (decide (0≤s.kind)&&(decide (s.kind<14)&&fB s (af s.kind.toNat)))=false by rw [← Bool.and_assoc,this];rfl];rfl
set_option maxRecDepth 100000 in
theorem Ap (s:aL) (hb:s.body.length≤9223372036854775807):al Tryz.prog 30 [.ag [.z s.kind,.z s.node,.z s.peer,.z s.n,.z s.bit,.u s.inc,.d (.ro 1 (ae s.body))]] (.v (.bool (hasB s))):=by
 refine al.intro (by kernel_rfl) rfl rfl 108 rfl rfl fun w0 K ac hK r=>?_
 cases h0:((fieldsOf s.kind)==([45]:List UInt8)) with
 | false=>
  cases h1:(decide ((s.node:Int)<0)) with
  | false=>
   have bP:=of_decide_eq_false h1
   cases h2:(decide ((255:Int)<s.node)) with
   | false=>
    have c8:=of_decide_eq_false h2
    cases h3:(decide ((s.peer:Int)<0)) with
    | false=>
     have dP:=of_decide_eq_false h3
     cases h4:(decide ((255:Int)<s.peer)) with
     | false=>
      have fa:=of_decide_eq_false h4
      cases h5:(decide ((s.n:Int)<0)) with
      | false=>
       have fb:=of_decide_eq_false h5
       cases h6:(decide ((255:Int)<s.n)) with
       | false=>
        have fL:=of_decide_eq_false h6
        cases h7:(decide ((s.bit:Int)<0)) with
        | false=>
         have eh:=of_decide_eq_false h7
         cases h8:(decide ((65535:Int)<s.bit)) with
         | false=>
          have fM:=of_decide_eq_false h8
          have aM:=((by first | rfl | simp [ae,ah,ints,steps,strs]):(((ae s.body).length:Nat):Int)=((s.body.length:Nat):Int))
          cases h9:(decide ((255:Int)<((s.body.length:Nat):Int))) with
          | false=>
           have k6:=of_decide_eq_false h9
           have br:=(pz _:(fT (Value.bool ((s.node:Int)==0))==some false)=(!((s.node:Int)==0)))
           have cT:=(fun hc=>⟨(by rw [hc];exact oL (fieldsOf s.kind) 110 (oq _)),trivial⟩:(!((s.node:Int)==0))=true→(al Tryz.prog 60 [.d (.v (bif (!((s.node:Int)==0)) then ((.string ⟨(fieldsOf s.kind).toArray⟩)) else undef)),.d (.v (.int .u8 110))] (.v (.bool ((bj (fieldsOf s.kind) 110)))))∧True)
           cases cy:((((s.node:Int)==0)||(bj (fieldsOf s.kind) 110))) with
           | false=>
            rw [show (.v (.bool (hasB s)):DV)=.v (.bool false) from (bv (by rw [← gh];unfold fH;simp only [cond_true,cond_false,h0,h1,h2,h3,h4,h5,h6,h7,h8,h9,cy]))]
            exact aK tk mo hK rfl [(1,[(2,.au (.v (.string ⟨(fieldsOf s.kind).toArray⟩)))]),(2,[(1,.b false),(5,.b false),(10,.b false),(15,.b false),(20,.b false),(25,.b false),(30,.b false),(35,.b false),(40,.b false),(45,.z (((s.body.length:Nat):Int))),(46,.b false)]),(4,[(4,.may (!((s.node:Int)==0)) (.n 0)),(5,.may (!((s.node:Int)==0)) (.au (.v (.bool ((bj (fieldsOf s.kind) 110)))))),(6,.res (.v (.bool false)))])] 2000 r (by kernel_rfl) (U (df s.kind) (U h0 (U h1 (U h2 (U h3 (U h4 (U h5 (U h6 (U h7 (U h8 (U aM (U h9 (U br (U (fun hc=>trivial:(!((s.node:Int)==0))=true→True) (U br (U cT (U ((by have k:=jQ ((s.node:Int)==0) (bj (fieldsOf s.kind) 110);rw [cy] at k;exact k):∃ b0:Bool,(Value.bool ((s.node:Int)==0))=.bool b0∧(bif b0 then Value.bool true else (bif (!((s.node:Int)==0)) then Value.bool (bj (fieldsOf s.kind) 110) else undef))=.bool false) trivial)))))))))))))))))
           | true=>
            have dx:=((by have k:=jQ ((s.node:Int)==0) (bj (fieldsOf s.kind) 110);rw [cy] at k;exact k):∃ b0:Bool,(Value.bool ((s.node:Int)==0))=.bool b0∧(bif b0 then Value.bool true else (bif (!((s.node:Int)==0)) then Value.bool (bj (fieldsOf s.kind) 110) else undef))=.bool true)
            have dQ:=(pz _:(fT (Value.bool ((s.peer:Int)==0))==some false)=(!((s.peer:Int)==0)))
            have fc:=(fun hc=>⟨(by rw [hc];exact oL (fieldsOf s.kind) 112 (oq _)),trivial⟩:(!((s.peer:Int)==0))=true→(al Tryz.prog 60 [.d (.v (bif (!((s.peer:Int)==0)) then ((.string ⟨(fieldsOf s.kind).toArray⟩)) else undef)),.d (.v (.int .u8 112))] (.v (.bool ((bj (fieldsOf s.kind) 112)))))∧True)
            cases eb:((((s.peer:Int)==0)||(bj (fieldsOf s.kind) 112))) with
            | false=>
             rw [show (.v (.bool (hasB s)):DV)=.v (.bool false) from (bv (by rw [← gh];unfold fH;simp only [cond_true,cond_false,h0,h1,h2,h3,h4,h5,h6,h7,h8,h9,cy,eb]))]
             exact aK tk mo hK rfl [(1,[(2,.au (.v (.string ⟨(fieldsOf s.kind).toArray⟩)))]),(2,[(1,.b false),(5,.b false),(10,.b false),(15,.b false),(20,.b false),(25,.b false),(30,.b false),(35,.b false),(40,.b false),(45,.z (((s.body.length:Nat):Int))),(46,.b false)]),(4,[(4,.may (!((s.node:Int)==0)) (.n 0)),(5,.may (!((s.node:Int)==0)) (.au (.v (.bool ((bj (fieldsOf s.kind) 110)))))),(6,.res (.v (.bool true))),(12,.may (!((s.peer:Int)==0)) (.n 0)),(13,.may (!((s.peer:Int)==0)) (.au (.v (.bool ((bj (fieldsOf s.kind) 112)))))),(14,.res (.v (.bool false)))])] 2000 r (by kernel_rfl) (U (df s.kind) (U h0 (U h1 (U h2 (U h3 (U h4 (U h5 (U h6 (U h7 (U h8 (U aM (U h9 (U br (U (fun hc=>trivial:(!((s.node:Int)==0))=true→True) (U br (U cT (U dx (U dQ (U (fun hc=>trivial:(!((s.peer:Int)==0))=true→True) (U dQ (U fc (U ((by have k:=jQ ((s.peer:Int)==0) (bj (fieldsOf s.kind) 112);rw [eb] at k;exact k):∃ b0:Bool,(Value.bool ((s.peer:Int)==0))=.bool b0∧(bif b0 then Value.bool true else (bif (!((s.peer:Int)==0)) then Value.bool (bj (fieldsOf s.kind) 112) else undef))=.bool false) trivial))))))))))))))))))))))
            | true=>
             have dE:=((by have k:=jQ ((s.peer:Int)==0) (bj (fieldsOf s.kind) 112);rw [eb] at k;exact k):∃ b0:Bool,(Value.bool ((s.peer:Int)==0))=.bool b0∧(bif b0 then Value.bool true else (bif (!((s.peer:Int)==0)) then Value.bool (bj (fieldsOf s.kind) 112) else undef))=.bool true)
             have dF:=(pz _:(fT (Value.bool ((s.n:Int)==0))==some false)=(!((s.n:Int)==0)))
             have eK:=(fun hc=>⟨(by rw [hc];exact oL (fieldsOf s.kind) 105 (oq _)),trivial⟩:(!((s.n:Int)==0))=true→(al Tryz.prog 60 [.d (.v (bif (!((s.n:Int)==0)) then ((.string ⟨(fieldsOf s.kind).toArray⟩)) else undef)),.d (.v (.int .u8 105))] (.v (.bool ((bj (fieldsOf s.kind) 105)))))∧True)
             cases dc:((((s.n:Int)==0)||(bj (fieldsOf s.kind) 105))) with
             | false=>
              rw [show (.v (.bool (hasB s)):DV)=.v (.bool false) from (bv (by rw [← gh];unfold fH;simp only [cond_true,cond_false,h0,h1,h2,h3,h4,h5,h6,h7,h8,h9,cy,eb,dc]))]
              exact aK tk mo hK rfl [(1,[(2,.au (.v (.string ⟨(fieldsOf s.kind).toArray⟩)))]),(2,[(1,.b false),(5,.b false),(10,.b false),(15,.b false),(20,.b false),(25,.b false),(30,.b false),(35,.b false),(40,.b false),(45,.z (((s.body.length:Nat):Int))),(46,.b false)]),(4,[(4,.may (!((s.node:Int)==0)) (.n 0)),(5,.may (!((s.node:Int)==0)) (.au (.v (.bool ((bj (fieldsOf s.kind) 110)))))),(6,.res (.v (.bool true))),(12,.may (!((s.peer:Int)==0)) (.n 0)),(13,.may (!((s.peer:Int)==0)) (.au (.v (.bool ((bj (fieldsOf s.kind) 112)))))),(14,.res (.v (.bool true))),(21,.may (!((s.n:Int)==0)) (.n 0)),(22,.may (!((s.n:Int)==0)) (.au (.v (.bool ((bj (fieldsOf s.kind) 105)))))),(23,.res (.v (.bool false)))])] 2000 r (by kernel_rfl) (U (df s.kind) (U h0 (U h1 (U h2 (U h3 (U h4 (U h5 (U h6 (U h7 (U h8 (U aM (U h9 (U br (U (fun hc=>trivial:(!((s.node:Int)==0))=true→True) (U br (U cT (U dx (U dQ (U (fun hc=>trivial:(!((s.peer:Int)==0))=true→True) (U dQ (U fc (U dE (U dF (U (fun hc=>trivial:(!((s.n:Int)==0))=true→True) (U dF (U eK (U ((by have k:=jQ ((s.n:Int)==0) (bj (fieldsOf s.kind) 105);rw [dc] at k;exact k):∃ b0:Bool,(Value.bool ((s.n:Int)==0))=.bool b0∧(bif b0 then Value.bool true else (bif (!((s.n:Int)==0)) then Value.bool (bj (fieldsOf s.kind) 105) else undef))=.bool false) trivial)))))))))))))))))))))))))))
             | true=>
              have gG:=((by have k:=jQ ((s.n:Int)==0) (bj (fieldsOf s.kind) 105);rw [dc] at k;exact k):∃ b0:Bool,(Value.bool ((s.n:Int)==0))=.bool b0∧(bif b0 then Value.bool true else (bif (!((s.n:Int)==0)) then Value.bool (bj (fieldsOf s.kind) 105) else undef))=.bool true)
              have iw:=(pz _:(fT (Value.bool ((s.bit:Int)==0))==some false)=(!((s.bit:Int)==0)))
              have nP:=(fun hc=>⟨(by rw [hc];exact oL (fieldsOf s.kind) 98 (oq _)),trivial⟩:(!((s.bit:Int)==0))=true→(al Tryz.prog 60 [.d (.v (bif (!((s.bit:Int)==0)) then ((.string ⟨(fieldsOf s.kind).toArray⟩)) else undef)),.d (.v (.int .u8 98))] (.v (.bool ((bj (fieldsOf s.kind) 98)))))∧True)
              cases ei:((((s.bit:Int)==0)||(bj (fieldsOf s.kind) 98))) with
              | false=>
               rw [show (.v (.bool (hasB s)):DV)=.v (.bool false) from (bv (by rw [← gh];unfold fH;simp only [cond_true,cond_false,h0,h1,h2,h3,h4,h5,h6,h7,h8,h9,cy,eb,dc,ei]))]
               exact aK tk mo hK rfl [(1,[(2,.au (.v (.string ⟨(fieldsOf s.kind).toArray⟩)))]),(2,[(1,.b false),(5,.b false),(10,.b false),(15,.b false),(20,.b false),(25,.b false),(30,.b false),(35,.b false),(40,.b false),(45,.z (((s.body.length:Nat):Int))),(46,.b false)]),(4,[(4,.may (!((s.node:Int)==0)) (.n 0)),(5,.may (!((s.node:Int)==0)) (.au (.v (.bool ((bj (fieldsOf s.kind) 110)))))),(6,.res (.v (.bool true))),(12,.may (!((s.peer:Int)==0)) (.n 0)),(13,.may (!((s.peer:Int)==0)) (.au (.v (.bool ((bj (fieldsOf s.kind) 112)))))),(14,.res (.v (.bool true))),(21,.may (!((s.n:Int)==0)) (.n 0)),(22,.may (!((s.n:Int)==0)) (.au (.v (.bool ((bj (fieldsOf s.kind) 105)))))),(23,.res (.v (.bool true))),(30,.may (!((s.bit:Int)==0)) (.n 0)),(31,.may (!((s.bit:Int)==0)) (.au (.v (.bool ((bj (fieldsOf s.kind) 98)))))),(32,.res (.v (.bool false)))])] 2000 r (by kernel_rfl) (U (df s.kind) (U h0 (U h1 (U h2 (U h3 (U h4 (U h5 (U h6 (U h7 (U h8 (U aM (U h9 (U br (U (fun hc=>trivial:(!((s.node:Int)==0))=true→True) (U br (U cT (U dx (U dQ (U (fun hc=>trivial:(!((s.peer:Int)==0))=true→True) (U dQ (U fc (U dE (U dF (U (fun hc=>trivial:(!((s.n:Int)==0))=true→True) (U dF (U eK (U gG (U iw (U (fun hc=>trivial:(!((s.bit:Int)==0))=true→True) (U iw (U nP (U ((by have k:=jQ ((s.bit:Int)==0) (bj (fieldsOf s.kind) 98);rw [ei] at k;exact k):∃ b0:Bool,(Value.bool ((s.bit:Int)==0))=.bool b0∧(bif b0 then Value.bool true else (bif (!((s.bit:Int)==0)) then Value.bool (bj (fieldsOf s.kind) 98) else undef))=.bool false) trivial))))))))))))))))))))))))))))))))
              | true=>
               have pe:=((by have k:=jQ ((s.bit:Int)==0) (bj (fieldsOf s.kind) 98);rw [ei] at k;exact k):∃ b0:Bool,(Value.bool ((s.bit:Int)==0))=.bool b0∧(bif b0 then Value.bool true else (bif (!((s.bit:Int)==0)) then Value.bool (bj (fieldsOf s.kind) 98) else undef))=.bool true)
               have pf:=(pz _:(fT (Value.bool ((((s.inc:Nat):Int):Int)==0))==some false)=(!((((s.inc:Nat):Int):Int)==0)))
               have xV:=(fun hc=>trivial:(!((((s.inc:Nat):Int):Int)==0))=true→True)
               have xW:=(fun hc=>⟨(by rw [hc];exact oL (fieldsOf s.kind) 99 (oq _)),trivial⟩:(!((((s.inc:Nat):Int):Int)==0))=true→(al Tryz.prog 60 [.d (.v (bif (!((((s.inc:Nat):Int):Int)==0)) then ((.string ⟨(fieldsOf s.kind).toArray⟩)) else undef)),.d (.v (.int .u8 99))] (.v (.bool ((bj (fieldsOf s.kind) 99)))))∧True)
               cases iY:((((((s.inc:Nat):Int):Int)==0)||(bj (fieldsOf s.kind) 99))) with
               | false=>
                rw [show (.v (.bool (hasB s)):DV)=.v (.bool false) from (bv (by rw [← gh];unfold fH;simp only [cond_true,cond_false,h0,h1,h2,h3,h4,h5,h6,h7,h8,h9,cy,eb,dc,ei,iY]))]
                exact aK tk mo hK rfl [(1,[(2,.au (.v (.string ⟨(fieldsOf s.kind).toArray⟩)))]),(2,[(1,.b false),(5,.b false),(10,.b false),(15,.b false),(20,.b false),(25,.b false),(30,.b false),(35,.b false),(40,.b false),(45,.z (((s.body.length:Nat):Int))),(46,.b false)]),(4,[(4,.may (!((s.node:Int)==0)) (.n 0)),(5,.may (!((s.node:Int)==0)) (.au (.v (.bool ((bj (fieldsOf s.kind) 110)))))),(6,.res (.v (.bool true))),(12,.may (!((s.peer:Int)==0)) (.n 0)),(13,.may (!((s.peer:Int)==0)) (.au (.v (.bool ((bj (fieldsOf s.kind) 112)))))),(14,.res (.v (.bool true))),(21,.may (!((s.n:Int)==0)) (.n 0)),(22,.may (!((s.n:Int)==0)) (.au (.v (.bool ((bj (fieldsOf s.kind) 105)))))),(23,.res (.v (.bool true))),(30,.may (!((s.bit:Int)==0)) (.n 0)),(31,.may (!((s.bit:Int)==0)) (.au (.v (.bool ((bj (fieldsOf s.kind) 98)))))),(32,.res (.v (.bool true))),(39,.may (!((((s.inc:Nat):Int):Int)==0)) (.n 0)),(40,.may (!((((s.inc:Nat):Int):Int)==0)) (.au (.v (.bool ((bj (fieldsOf s.kind) 99)))))),(41,.res (.v (.bool false)))])] 2000 r (by kernel_rfl) (U (df s.kind) (U h0 (U h1 (U h2 (U h3 (U h4 (U h5 (U h6 (U h7 (U h8 (U aM (U h9 (U br (U (fun hc=>trivial:(!((s.node:Int)==0))=true→True) (U br (U cT (U dx (U dQ (U (fun hc=>trivial:(!((s.peer:Int)==0))=true→True) (U dQ (U fc (U dE (U dF (U (fun hc=>trivial:(!((s.n:Int)==0))=true→True) (U dF (U eK (U gG (U iw (U (fun hc=>trivial:(!((s.bit:Int)==0))=true→True) (U iw (U nP (U pe (U pf (U xV (U pf (U xW (U ((by have k:=jQ ((((s.inc:Nat):Int):Int)==0) (bj (fieldsOf s.kind) 99);rw [iY] at k;exact k):∃ b0:Bool,(Value.bool ((((s.inc:Nat):Int):Int)==0))=.bool b0∧(bif b0 then Value.bool true else (bif (!((((s.inc:Nat):Int):Int)==0)) then Value.bool (bj (fieldsOf s.kind) 99) else undef))=.bool false) trivial)))))))))))))))))))))))))))))))))))))
               | true=>
                have Cz:=((by have k:=jQ ((((s.inc:Nat):Int):Int)==0) (bj (fieldsOf s.kind) 99);rw [iY] at k;exact k):∃ b0:Bool,(Value.bool ((((s.inc:Nat):Int):Int)==0))=.bool b0∧(bif b0 then Value.bool true else (bif (!((((s.inc:Nat):Int):Int)==0)) then Value.bool (bj (fieldsOf s.kind) 99) else undef))=.bool true)
                have tj:=(pz _:(fT (Value.bool ((((s.body.length:Nat):Int):Int)==0))==some false)=(!((((s.body.length:Nat):Int):Int)==0)))
                have CA:=(fun hc=>trivial:(!((((s.body.length:Nat):Int):Int)==0))=true→True)
                have CB:=(fun hc=>⟨(by rw [hc];exact oL (fieldsOf s.kind) 116 (oq _)),trivial⟩:(!((((s.body.length:Nat):Int):Int)==0))=true→(al Tryz.prog 60 [.d (.v (bif (!((((s.body.length:Nat):Int):Int)==0)) then ((.string ⟨(fieldsOf s.kind).toArray⟩)) else undef)),.d (.v (.int .u8 116))] (.v (.bool ((bj (fieldsOf s.kind) 116)))))∧True)
                cases l6:((((((s.body.length:Nat):Int):Int)==0)||(bj (fieldsOf s.kind) 116))) with
                | false=>
                 rw [show (.v (.bool (hasB s)):DV)=.v (.bool false) from (bv (by rw [← gh];unfold fH;simp only [cond_true,cond_false,h0,h1,h2,h3,h4,h5,h6,h7,h8,h9,cy,eb,dc,ei,iY,l6]))]
                 exact aK tk mo hK rfl [(1,[(2,.au (.v (.string ⟨(fieldsOf s.kind).toArray⟩)))]),(2,[(1,.b false),(5,.b false),(10,.b false),(15,.b false),(20,.b false),(25,.b false),(30,.b false),(35,.b false),(40,.b false),(45,.z (((s.body.length:Nat):Int))),(46,.b false)]),(4,[(4,.may (!((s.node:Int)==0)) (.n 0)),(5,.may (!((s.node:Int)==0)) (.au (.v (.bool ((bj (fieldsOf s.kind) 110)))))),(6,.res (.v (.bool true))),(12,.may (!((s.peer:Int)==0)) (.n 0)),(13,.may (!((s.peer:Int)==0)) (.au (.v (.bool ((bj (fieldsOf s.kind) 112)))))),(14,.res (.v (.bool true))),(21,.may (!((s.n:Int)==0)) (.n 0)),(22,.may (!((s.n:Int)==0)) (.au (.v (.bool ((bj (fieldsOf s.kind) 105)))))),(23,.res (.v (.bool true))),(30,.may (!((s.bit:Int)==0)) (.n 0)),(31,.may (!((s.bit:Int)==0)) (.au (.v (.bool ((bj (fieldsOf s.kind) 98)))))),(32,.res (.v (.bool true))),(39,.may (!((((s.inc:Nat):Int):Int)==0)) (.n 0)),(40,.may (!((((s.inc:Nat):Int):Int)==0)) (.au (.v (.bool ((bj (fieldsOf s.kind) 99)))))),(41,.res (.v (.bool true))),(46,.z (((s.body.length:Nat):Int))),(49,.may (!((((s.body.length:Nat):Int):Int)==0)) (.n 0)),(50,.may (!((((s.body.length:Nat):Int):Int)==0)) (.au (.v (.bool ((bj (fieldsOf s.kind) 116)))))),(51,.res (.v (.bool false)))])] 2000 r (by kernel_rfl) (U (df s.kind) (U h0 (U h1 (U h2 (U h3 (U h4 (U h5 (U h6 (U h7 (U h8 (U aM (U h9 (U br (U (fun hc=>trivial:(!((s.node:Int)==0))=true→True) (U br (U cT (U dx (U dQ (U (fun hc=>trivial:(!((s.peer:Int)==0))=true→True) (U dQ (U fc (U dE (U dF (U (fun hc=>trivial:(!((s.n:Int)==0))=true→True) (U dF (U eK (U gG (U iw (U (fun hc=>trivial:(!((s.bit:Int)==0))=true→True) (U iw (U nP (U pe (U pf (U xV (U pf (U xW (U Cz (U aM (U tj (U CA (U tj (U CB (U ((by have k:=jQ ((((s.body.length:Nat):Int):Int)==0) (bj (fieldsOf s.kind) 116);rw [l6] at k;exact k):∃ b0:Bool,(Value.bool ((((s.body.length:Nat):Int):Int)==0))=.bool b0∧(bif b0 then Value.bool true else (bif (!((((s.body.length:Nat):Int):Int)==0)) then Value.bool (bj (fieldsOf s.kind) 116) else undef))=.bool false) trivial)))))))))))))))))))))))))))))))))))))))))))
                | true=>
                 rw [show (.v (.bool (hasB s)):DV)=.v (.bool true) from (bv (by rw [← gh];unfold fH;simp only [cond_true,cond_false,h0,h1,h2,h3,h4,h5,h6,h7,h8,h9,cy,eb,dc,ei,iY,l6]))]
                 exact aK tk mo hK rfl [(1,[(2,.au (.v (.string ⟨(fieldsOf s.kind).toArray⟩)))]),(2,[(1,.b false),(5,.b false),(10,.b false),(15,.b false),(20,.b false),(25,.b false),(30,.b false),(35,.b false),(40,.b false),(45,.z (((s.body.length:Nat):Int))),(46,.b false)]),(4,[(4,.may (!((s.node:Int)==0)) (.n 0)),(5,.may (!((s.node:Int)==0)) (.au (.v (.bool ((bj (fieldsOf s.kind) 110)))))),(6,.res (.v (.bool true))),(12,.may (!((s.peer:Int)==0)) (.n 0)),(13,.may (!((s.peer:Int)==0)) (.au (.v (.bool ((bj (fieldsOf s.kind) 112)))))),(14,.res (.v (.bool true))),(21,.may (!((s.n:Int)==0)) (.n 0)),(22,.may (!((s.n:Int)==0)) (.au (.v (.bool ((bj (fieldsOf s.kind) 105)))))),(23,.res (.v (.bool true))),(30,.may (!((s.bit:Int)==0)) (.n 0)),(31,.may (!((s.bit:Int)==0)) (.au (.v (.bool ((bj (fieldsOf s.kind) 98)))))),(32,.res (.v (.bool true))),(39,.may (!((((s.inc:Nat):Int):Int)==0)) (.n 0)),(40,.may (!((((s.inc:Nat):Int):Int)==0)) (.au (.v (.bool ((bj (fieldsOf s.kind) 99)))))),(41,.res (.v (.bool true))),(46,.z (((s.body.length:Nat):Int))),(49,.may (!((((s.body.length:Nat):Int):Int)==0)) (.n 0)),(50,.may (!((((s.body.length:Nat):Int):Int)==0)) (.au (.v (.bool ((bj (fieldsOf s.kind) 116)))))),(51,.res (.v (.bool true)))])] 2000 r (by kernel_rfl) (U (df s.kind) (U h0 (U h1 (U h2 (U h3 (U h4 (U h5 (U h6 (U h7 (U h8 (U aM (U h9 (U br (U (fun hc=>trivial:(!((s.node:Int)==0))=true→True) (U br (U cT (U dx (U dQ (U (fun hc=>trivial:(!((s.peer:Int)==0))=true→True) (U dQ (U fc (U dE (U dF (U (fun hc=>trivial:(!((s.n:Int)==0))=true→True) (U dF (U eK (U gG (U iw (U (fun hc=>trivial:(!((s.bit:Int)==0))=true→True) (U iw (U nP (U pe (U pf (U xV (U pf (U xW (U Cz (U aM (U tj (U CA (U tj (U CB (U ((by have k:=jQ ((((s.body.length:Nat):Int):Int)==0) (bj (fieldsOf s.kind) 116);rw [l6] at k;exact k):∃ b0:Bool,(Value.bool ((((s.body.length:Nat):Int):Int)==0))=.bool b0∧(bif b0 then Value.bool true else (bif (!((((s.body.length:Nat):Int):Int)==0)) then Value.bool (bj (fieldsOf s.kind) 116) else undef))=.bool true) trivial)))))))))))))))))))))))))))))))))))))))))))
          | true=>
           have k6:=of_decide_eq_true h9
           rw [show (.v (.bool (hasB s)):DV)=.v (.bool false) from (bv (by rw [← gh];unfold fH;simp only [cond_true,cond_false,h0,h1,h2,h3,h4,h5,h6,h7,h8,h9]))]
           exact aK tk mo hK rfl [(1,[(2,.au (.v (.string ⟨(fieldsOf s.kind).toArray⟩)))]),(2,[(1,.b false),(5,.b false),(10,.b false),(15,.b false),(20,.b false),(25,.b false),(30,.b false),(35,.b false),(40,.b false),(45,.z (((s.body.length:Nat):Int))),(46,.b true)])] 2000 r (by kernel_rfl) (U (df s.kind) (U h0 (U h1 (U h2 (U h3 (U h4 (U h5 (U h6 (U h7 (U h8 (U aM (U h9 trivial))))))))))))
         | true=>
          have fM:=of_decide_eq_true h8
          rw [show (.v (.bool (hasB s)):DV)=.v (.bool false) from (bv (by rw [← gh];unfold fH;simp only [cond_true,cond_false,h0,h1,h2,h3,h4,h5,h6,h7,h8]))]
          exact aK tk mo hK rfl [(1,[(2,.au (.v (.string ⟨(fieldsOf s.kind).toArray⟩)))]),(2,[(1,.b false),(5,.b false),(10,.b false),(15,.b false),(20,.b false),(25,.b false),(30,.b false),(35,.b false),(40,.b true)])] 2000 r (by kernel_rfl) (U (df s.kind) (U h0 (U h1 (U h2 (U h3 (U h4 (U h5 (U h6 (U h7 (U h8 trivial))))))))))
        | true=>
         have eh:=of_decide_eq_true h7
         rw [show (.v (.bool (hasB s)):DV)=.v (.bool false) from (bv (by rw [← gh];unfold fH;simp only [cond_true,cond_false,h0,h1,h2,h3,h4,h5,h6,h7]))]
         exact aK tk mo hK rfl [(1,[(2,.au (.v (.string ⟨(fieldsOf s.kind).toArray⟩)))]),(2,[(1,.b false),(5,.b false),(10,.b false),(15,.b false),(20,.b false),(25,.b false),(30,.b false),(35,.b true)])] 2000 r (by kernel_rfl) (U (df s.kind) (U h0 (U h1 (U h2 (U h3 (U h4 (U h5 (U h6 (U h7 trivial)))))))))
       | true=>
        have fL:=of_decide_eq_true h6
        rw [show (.v (.bool (hasB s)):DV)=.v (.bool false) from (bv (by rw [← gh];unfold fH;simp only [cond_true,cond_false,h0,h1,h2,h3,h4,h5,h6]))]
        exact aK tk mo hK rfl [(1,[(2,.au (.v (.string ⟨(fieldsOf s.kind).toArray⟩)))]),(2,[(1,.b false),(5,.b false),(10,.b false),(15,.b false),(20,.b false),(25,.b false),(30,.b true)])] 2000 r (by kernel_rfl) (U (df s.kind) (U h0 (U h1 (U h2 (U h3 (U h4 (U h5 (U h6 trivial))))))))
      | true=>
       have fb:=of_decide_eq_true h5
       rw [show (.v (.bool (hasB s)):DV)=.v (.bool false) from (bv (by rw [← gh];unfold fH;simp only [cond_true,cond_false,h0,h1,h2,h3,h4,h5]))]
       exact aK tk mo hK rfl [(1,[(2,.au (.v (.string ⟨(fieldsOf s.kind).toArray⟩)))]),(2,[(1,.b false),(5,.b false),(10,.b false),(15,.b false),(20,.b false),(25,.b true)])] 2000 r (by kernel_rfl) (U (df s.kind) (U h0 (U h1 (U h2 (U h3 (U h4 (U h5 trivial)))))))
     | true=>
      have fa:=of_decide_eq_true h4
      rw [show (.v (.bool (hasB s)):DV)=.v (.bool false) from (bv (by rw [← gh];unfold fH;simp only [cond_true,cond_false,h0,h1,h2,h3,h4]))]
      exact aK tk mo hK rfl [(1,[(2,.au (.v (.string ⟨(fieldsOf s.kind).toArray⟩)))]),(2,[(1,.b false),(5,.b false),(10,.b false),(15,.b false),(20,.b true)])] 2000 r (by kernel_rfl) (U (df s.kind) (U h0 (U h1 (U h2 (U h3 (U h4 trivial))))))
    | true=>
     have dP:=of_decide_eq_true h3
     rw [show (.v (.bool (hasB s)):DV)=.v (.bool false) from (bv (by rw [← gh];unfold fH;simp only [cond_true,cond_false,h0,h1,h2,h3]))]
     exact aK tk mo hK rfl [(1,[(2,.au (.v (.string ⟨(fieldsOf s.kind).toArray⟩)))]),(2,[(1,.b false),(5,.b false),(10,.b false),(15,.b true)])] 2000 r (by kernel_rfl) (U (df s.kind) (U h0 (U h1 (U h2 (U h3 trivial)))))
   | true=>
    have c8:=of_decide_eq_true h2
    rw [show (.v (.bool (hasB s)):DV)=.v (.bool false) from (bv (by rw [← gh];unfold fH;simp only [cond_true,cond_false,h0,h1,h2]))]
    exact aK tk mo hK rfl [(1,[(2,.au (.v (.string ⟨(fieldsOf s.kind).toArray⟩)))]),(2,[(1,.b false),(5,.b false),(10,.b true)])] 2000 r (by kernel_rfl) (U (df s.kind) (U h0 (U h1 (U h2 trivial))))
  | true=>
   have bP:=of_decide_eq_true h1
   rw [show (.v (.bool (hasB s)):DV)=.v (.bool false) from (bv (by rw [← gh];unfold fH;simp only [cond_true,cond_false,h0,h1]))]
   exact aK tk mo hK rfl [(1,[(2,.au (.v (.string ⟨(fieldsOf s.kind).toArray⟩)))]),(2,[(1,.b false),(5,.b true)])] 2000 r (by kernel_rfl) (U (df s.kind) (U h0 (U h1 trivial)))
 | true=>
  rw [show (.v (.bool (hasB s)):DV)=.v (.bool false) from (bv (by rw [← gh];unfold fH;simp only [cond_true,cond_false,h0]))]
  exact aK tk mo hK rfl [(1,[(2,.au (.v (.string ⟨(fieldsOf s.kind).toArray⟩)))]),(2,[(1,.b true)])] 2000 r (by kernel_rfl) (U (df s.kind) (U h0 trivial))
end Go.Proofs.YtcnpikbbmbombaaGreatDoor
namespace Go.Proofs.YtcnpikbbmbombaaGreatDoor
open Go.RowKit
theorem al.stays {P:Program} {f:FuncId} {args:List AV} {x:DV} (h:al P f args x):al P f args (ew x):=by
 refine ⟨h.1,fun w K ys hK hl hr=>(h.2 w K ys hK hl hr).mono ?_⟩
 rintro ed w' ⟨v,rfl,g,H,⟨Ho,Hi,rfl,hd⟩,n⟩
 exact ⟨_,rfl,g,_,⟨[],Ho++Hi,rfl,sc hd fun w hw=>⟨⟨hw.1,(Holds.app.1 hw.2).2⟩,(Holds.app.1 hw.2).1⟩⟩,n⟩
theorem ou (l:List (Int×Int)):c6 (ah l)=ah l:=by rw [kx];unfold ah;rw [List.map_map];apply List.map_congr_left;intro b _;rfl
theorem ov (l:List Int):c6 (ints l)=ints l:=by rw [kx];unfold ints;rw [List.map_map];apply List.map_congr_left;intro b _;rfl
def jN (n:Nat):List aL→Nat
 | []=>n
 | s::r=>if n≤2000 then jN (n+(1+s.body.length / 64)) r else n
def ji (c:bN) (l:List aL):Bool:=decide ((2000:Int)<((jN (c.ah.length+c.homes.length) l:Nat):Int))
theorem Aq:∀ (l:List aL) (n:Nat),n≤jN n l
 | [],n=>Nat.le_refl _
 | s::r,n=>by
  unfold jN;split
  ·have:=Aq r (n+(1+s.body.length / 64));omega
  ·exact Nat.le_refl _
theorem rJ {l:List aL} {n:Nat} (h:2000<n):jN n l=n:=by
 cases l with
 | nil=>rfl
 | cons s r=>unfold jN;rw [if_neg (by omega)]
theorem ES {l:List aL} {i n:Nat} {s:aL} (h:l[i]?=some s) (hn:n≤2000):jN n (l.drop i)=jN (n+(1+s.body.length / 64)) (l.drop (i+1)):=by
 obtain ⟨aO,rfl⟩:=List.getElem?_eq_some_iff.1 h
 rw [List.drop_eq_getElem_cons aO]
 show (if n≤2000 then _ else _)=_
 rw [if_pos hn]
theorem Hg {c:bN} {l:List aL} (h:ji c l=false):c.ah.length+c.homes.length+l.length≤2000∧∀ s ∈ l,s.body.length / 64≤2000:=by
 have key:∀ (l:List aL) (n:Nat),jN n l≤2000→n+l.length≤2000∧∀ s ∈ l,s.body.length / 64≤2000:=by
  intro l
  induction l with
  | nil=>intro n h;exact ⟨h,by simp⟩
  | cons s r ih=>
   intro n h
   have h0:n≤2000:=Nat.le_trans (Aq (s::r) n) h
   unfold jN at h;rw [if_pos h0] at h
   obtain ⟨h1,h2⟩:=ih _ h
   refine ⟨by simp only [List.length_cons];omega,fun x hx=>?_⟩
   rcases List.mem_cons.1 hx with rfl | hx
   ·omega
   ·exact h2 x hx
 unfold ji at h
 exact key l _ (by have:=of_decide_eq_false h;omega)
structure aL.Rd (s:aL):Prop where
 body:s.body.length≤9223372036854775807
 inc:s.inc≤18446744073709551615
theorem JT (n:Nat):((n:Int)).tdiv 64=((n / 64:Nat):Int):=(Int.ofNat_tdiv n 64).symm
theorem ext_get {α:Type} {a b:List α} (hl:a.length=b.length) (h:∀ (j:Nat) x y,j<a.length→a[j]?=some x→b[j]?=some y→x=y):a=b:=by
 apply List.ext_getElem hl
 intro i h1 h2
 exact h i _ _ h1 (List.getElem?_eq_getElem h1) (List.getElem?_eq_getElem h2)
theorem lK {a b:List UInt8} (h:(a==b)=false):a≠b:=by intro e;subst e;simp at h
set_option maxRecDepth 100000 in
theorem Bw (c:bN) (l:List aL) (hc:c.ah.length+c.homes.length≤9223372036854775807) (hl:l.length≤9223372036854775807) (hr:∀ s ∈ l,s.Rd):al Tryz.prog 7 [.ag [.z c.az,.d (.ro 2 (ah c.ah)),.d (.ro 1 (ints c.homes))],.d (.ro 7 (steps l))] (.v (.bool (ji c l))):=by
 refine al.intro (by kernel_rfl) rfl rfl 36 rfl rfl fun w0 K ac hK r=>?_
 refine aU (todo':=hd Tryz.f7 0) (E':=[(1,.d (.ro 7 (steps l))),(5,.n (c.ah.length+c.homes.length)),(6,.n 0)]) (M':=[]) tk mo hK [(1,[(2,.z (((c.ah.length:Nat):Int))),(5,.z (((c.homes.length:Nat):Int))),(6,.z (((c.ah.length+c.homes.length:Nat):Int)))])] 2000 [] [1,5,6] r (by kernel_rfl) (U ((by first | rfl | simp [ae,ah,ints,steps,strs]):(((ah c.ah).length:Nat):Int)=((c.ah.length:Nat):Int)) (U ((by first | rfl | simp [ae,ah,ints,steps,strs]):(((ints c.homes).length:Nat):Int)=((c.homes.length:Nat):Int)) (U ((wi (by omega)):IntKind.i64.wrap ((((c.ah.length:Nat):Int):Int)+((c.homes.length:Nat):Int))=((c.ah.length+c.homes.length:Nat):Int)) trivial))) fun ac wd r=>?_
 refine aF.rounds (Φ:=fun (i:Nat) ac wd=>∃ n:Nat,(n≤9223372036854775807∧jN (c.ah.length+c.homes.length) l=jN n (l.drop i))∧cN [] w0 K 36 [(1,.d (.ro 7 (steps l))),(5,.n n),(6,.n i)] [] ac wd) (l.length) ?_ (Nat.zero_le _) ⟨(c.ah.length+c.homes.length),⟨hc,rfl⟩,r⟩
 clear r
 rintro i dw bH ac wd ⟨n,aq,r⟩
 obtain ⟨q6,aq⟩:=aq
 have aM:=((by first | rfl | simp [ae,ah,ints,steps,strs]):(((steps l).length:Nat):Int)=((l.length:Nat):Int))
 cases h0:(decide ((((i:Nat):Int):Int)<((l.length:Nat):Int))) with
 | false=>
  have a7:=of_decide_eq_false h0
  cases h1:(decide ((2000:Int)<((n:Nat):Int))) with
  | false=>
   have bP:=of_decide_eq_false h1
   rw [show (.v (.bool (ji c l)):DV)=.v (.bool false) from (bv (by unfold ji;rw [aq];first | (rw [List.drop_of_length_le (by omega)];exact h1) | (rw [rJ (by omega)];exact h1)))]
   exact aK tk mo hK rfl [(3,[(2,.z (((l.length:Nat):Int))),(3,.b false)]),(6,[(1,.b false)])] 2000 r (by kernel_rfl) (U aM (U h0 (U h1 trivial)))
  | true=>
   have bP:=of_decide_eq_true h1
   rw [show (.v (.bool (ji c l)):DV)=.v (.bool true) from (bv (by unfold ji;rw [aq];first | (rw [List.drop_of_length_le (by omega)];exact h1) | (rw [rJ (by omega)];exact h1)))]
   exact aK tk mo hK rfl [(3,[(2,.z (((l.length:Nat):Int))),(3,.b false)]),(6,[(1,.b true)])] 2000 r (by kernel_rfl) (U aM (U h0 (U h1 trivial)))
 | true=>
  have a7:=of_decide_eq_true h0
  obtain ⟨ay,bY⟩:∃ x_,l[i]?=some x_:=⟨_,List.getElem?_eq_getElem (by omega)⟩
  have hb:=(hr _ (List.mem_of_getElem? bY)).body
  cases h2:(decide ((((n:Nat):Int):Int)≤2000)) with
  | false=>
   have c8:=of_decide_eq_false h2
   cases h3:(decide ((2000:Int)<((n:Nat):Int))) with
   | false=>
    have dP:=of_decide_eq_false h3
    rw [show (.v (.bool (ji c l)):DV)=.v (.bool false) from (bv (by unfold ji;rw [aq];first | (rw [List.drop_of_length_le (by omega)];exact h3) | (rw [rJ (by omega)];exact h3)))]
    exact aK tk mo hK rfl [(3,[(2,.z (((l.length:Nat):Int))),(3,.b true),(6,.b false)]),(6,[(1,.b false)])] 2000 r (by kernel_rfl) (U aM (U h0 (U h2 (U h3 trivial))))
   | true=>
    have dP:=of_decide_eq_true h3
    rw [show (.v (.bool (ji c l)):DV)=.v (.bool true) from (bv (by unfold ji;rw [aq];first | (rw [List.drop_of_length_le (by omega)];exact h3) | (rw [rJ (by omega)];exact h3)))]
    exact aK tk mo hK rfl [(3,[(2,.z (((l.length:Nat):Int))),(3,.b true),(6,.b false)]),(6,[(1,.b true)])] 2000 r (by kernel_rfl) (U aM (U h0 (U h2 (U h3 trivial))))
  | true=>
   have c8:=of_decide_eq_true h2
   exact aU (todo':=hd Tryz.f7 0) tk mo hK [(3,[(2,.z (((l.length:Nat):Int))),(3,.b true),(6,.b true)]),(4,[(1,.z (((i+1:Nat):Int)))]),(5,[(3,.ix (i) [.z ay.kind,.z ay.node,.z ay.peer,.z ay.n,.z ay.bit,.u ay.inc,.ro 1 (ae ay.body)]),(6,.z (((ay.body.length:Nat):Int))),(7,.z (((ay.body.length / 64:Nat):Int))),(8,.z (((1+ay.body.length / 64:Nat):Int))),(9,.z (((n+(1+ay.body.length / 64):Nat):Int)))])] 2000 [] [1,5,6] r (by kernel_rfl) (U aM (U h0 (U h2 (U (aC ((i:Nat):Int)) (U (jb bY) (U ((by first | rfl | simp [ae,ah,ints,steps,strs]):(((ae ay.body).length:Nat):Int)=((ay.body.length:Nat):Int)) (U ((wi (by rw [JT];omega)):IntKind.i64.wrap ((((ay.body.length:Nat):Int):Int).tdiv 64)=((ay.body.length / 64:Nat):Int)) (U ((by decide):(64:Int)≠0) (U ((wi (by omega)):IntKind.i64.wrap ((1:Int)+((ay.body.length / 64:Nat):Int))=((1+ay.body.length / 64:Nat):Int)) (U ((wi (by omega)):IntKind.i64.wrap ((((n:Nat):Int):Int)+((1+ay.body.length / 64:Nat):Int))=((n+(1+ay.body.length / 64):Nat):Int)) (U ((wi (by omega)):IntKind.i64.wrap ((((i:Nat):Int):Int)+1)=((i+1:Nat):Int)) trivial))))))))))) fun ac wd r=>bH (by omega) ac wd ⟨n+(1+ay.body.length / 64),⟨by omega,by rw [aq,ES bY (by omega)]⟩,r⟩
def iN (a b:List aL):Bool:=decide (a=b)
theorem kA {a b:List aL} (h:a≠b):iN a b=false:=decide_eq_false h
theorem fQ {a b:List aL} {i:Nat} {x y:aL} (g:a[i]?=some x) (g2:b[i]?=some y) (h:x≠y):iN a b=false:=kA fun e=>by subst e;rw [g] at g2;cases g2;exact h rfl
theorem k7 {a b:List aL} {i:Nat} (h1:(a.length:Int)=b.length) (hi:¬ (i:Int)<a.length) (h3:∀ (k:Nat) x y,k<i→a[k]?=some x→b[k]?=some y→x=y):iN a b=true:=decide_eq_true (ext_get (by omega) fun k x y hk=>h3 k x y (by omega))
theorem fV {x y:aL} (h:x.kind≠y.kind∨x.node≠y.node∨x.peer≠y.peer∨x.n≠y.n∨x.bit≠y.bit∨(x.inc:Int)≠y.inc∨x.body≠y.body):x≠y:=by
 intro e;subst e;simp at h
theorem JU {x y:aL} (h1:x.kind=y.kind) (h2:x.node=y.node) (h3:x.peer=y.peer) (h4:x.n=y.n) (h5:x.bit=y.bit) (h6:(x.inc:Int)=y.inc) (h7:x.body=y.body):x=y:=by
 cases x;cases y;dsimp only at *;subst h1 h2 h3 h4 h5 h7;congr 1;omega
theorem at_next {α:Type} {a b:List α} {i:Nat} {x y:α} (h:∀ (k:Nat) x y,k<i→a[k]?=some x→b[k]?=some y→x=y) (g:a[i]?=some x) (g2:b[i]?=some y) (e:x=y):∀ (k:Nat) x y,k<i+1→a[k]?=some x→b[k]?=some y→x=y:=fun k u v hk hu hv=>by
 rcases Nat.lt_succ_iff_lt_or_eq.1 hk with h' | rfl
 ·exact h k u v h' hu hv
 ·rw [g] at hu;rw [g2] at hv;cases hu;cases hv;exact e
set_option maxRecDepth 100000 in
theorem IH (a b:List aL) (hl:a.length≤9223372036854775807):al Tryz.prog 14 [.d (.ro 7 (steps a)),.d (.ro 7 (steps b))] (.v (.bool (iN a b))):=by
 refine al.intro (by kernel_rfl) rfl rfl 76 rfl rfl fun w0 K ac hK r=>?_
 have aM:=((by first | rfl | simp [ae,ah,ints,steps,strs]):(((steps a).length:Nat):Int)=((a.length:Nat):Int))
 have br:=((by first | rfl | simp [ae,ah,ints,steps,strs]):(((steps b).length:Nat):Int)=((b.length:Nat):Int))
 cases h0:((((a.length:Nat):Int):Int) != ((b.length:Nat):Int)) with
 | false=>
  have a7:=iG h0
  refine aU (todo':=hd Tryz.f14 0) (E':=[(0,.d (.ro 7 (steps a))),(1,.d (.ro 7 (steps b))),(5,.n 0)]) (M':=[]) tk mo hK [(1,[(1,.z (((a.length:Nat):Int))),(3,.z (((b.length:Nat):Int))),(4,.b false)])] 2000 [] [0,1,5] r (by kernel_rfl) (U aM (U br (U h0 trivial))) fun ac wd r=>?_
  refine aF.rounds (Φ:=fun (i:Nat) ac wd=>(∀ (k:Nat) x y,k<i→a[k]?=some x→b[k]?=some y→x=y)∧cN [] w0 K 76 [(0,.d (.ro 7 (steps a))),(1,.d (.ro 7 (steps b))),(5,.n i)] [] ac wd) (a.length) ?_ (Nat.zero_le _) ⟨(fun k x y h=>absurd h (Nat.not_lt_zero _)),r⟩
  clear r
  rintro i dw bH ac wd ⟨aq,r⟩
  cases h1:(decide ((((i:Nat):Int):Int)<((a.length:Nat):Int))) with
  | false=>
   have bP:=of_decide_eq_false h1
   rw [show (.v (.bool (iN a b)):DV)=.v (.bool true) from (bv (by first | exact k7 (by omega) (by omega) aq | exact kA (fun e=>by subst e;omega) | exact fQ fi fj (fV (by omega)) | exact fQ fi fj (fV (.inr (.inr (.inr (.inr (.inr (.inr (lK (by assumption)))))))))))]
   exact aK tk mo hK rfl [(4,[(2,.z (((a.length:Nat):Int))),(3,.b false)])] 2000 r (by kernel_rfl) (U aM (U h1 trivial))
  | true=>
   have bP:=of_decide_eq_true h1
   obtain ⟨cz,fi⟩:∃ x_,a[i]?=some x_:=⟨_,List.getElem?_eq_getElem (by omega)⟩
   obtain ⟨cA,fj⟩:∃ x_,b[i]?=some x_:=⟨_,List.getElem?_eq_getElem (by omega)⟩
   have CC:=((by first | rfl | simp [ae,ah,ints,steps,strs]):(((steps a).length:Nat):Int)=((a.length:Nat):Int))
   refine Br (todo':=aft Tryz.f14 6) (E':=[(0,.d (.ro 7 (steps a))),(1,.d (.ro 7 (steps b))),(5,.n i),(13,.n i),(14,.d (.ro 7 (steps a))),(15,.n a.length),(16,.d (.v (.bool true))),(19,.d (.ro 7 (steps a))),(20,.n i),(21,.rp [.z cz.kind,.z cz.node,.z cz.peer,.z cz.n,.z cz.bit,.u cz.inc,.ro 1 (ae cz.body)] 0),(22,.ag [.z cz.kind,.z cz.node,.z cz.peer,.z cz.n,.z cz.bit,.u cz.inc,.d (.ro 1 (ae cz.body))]),(23,.d (.ro 7 (steps b))),(24,.n i),(25,.rp [.z cA.kind,.z cA.node,.z cA.peer,.z cA.n,.z cA.bit,.u cA.inc,.ro 1 (ae cA.body)] 0),(26,.ag [.z cA.kind,.z cA.node,.z cA.peer,.z cA.n,.z cA.bit,.u cA.inc,.d (.ro 1 (ae cA.body))]),(6,.pt 0 0),(7,.pt 1 0)]) (M':=[.bx 42 [.z cz.kind,.z cz.node,.z cz.peer,.z cz.n,.z cz.bit,.u cz.inc,.d (.ro 1 (ae cz.body))],.bx 42 [.z cA.kind,.z cA.node,.z cA.peer,.z cA.n,.z cA.bit,.u cA.inc,.d (.ro 1 (ae cA.body))]]) tk mo hK [(4,[(2,.z (((a.length:Nat):Int))),(3,.b true)]),(6,[(2,.ix (i) [.z cz.kind,.z cz.node,.z cz.peer,.z cz.n,.z cz.bit,.u cz.inc,.ro 1 (ae cz.body)]),(6,.ix (i) [.z cA.kind,.z cA.node,.z cA.peer,.z cA.n,.z cA.bit,.u cA.inc,.ro 1 (ae cA.body)])])] 8 2 [] [[0,1],[1,0]] [0,1,5,13,14,15,16,19,20,21,22,23,24,25,26,6,7] r (by kernel_rfl) (U (U CC (U h1 (U (aC ((i:Nat):Int)) (U (jb fi) (U (aC ((i:Nat):Int)) (U (jb fj) trivial)))))) (U (U CC (U h1 (U (aC ((i:Nat):Int)) (U (jb fi) (U (aC ((i:Nat):Int)) (U (jb fj) trivial)))))) trivial)) fun ac wd r=>?_
   cases h2:((cz.kind:Int) != cA.kind) with
   | false=>
    have c8:=iG h2
    cases h3:((cz.node:Int) != cA.node) with
    | false=>
     have dP:=iG h3
     cases h4:((cz.peer:Int) != cA.peer) with
     | false=>
      have fa:=iG h4
      cases h5:((cz.n:Int) != cA.n) with
      | false=>
       have fb:=iG h5
       cases h6:((cz.bit:Int) != cA.bit) with
       | false=>
        have fL:=iG h6
        cases h7:((((cz.inc:Nat):Int):Int) != ((cA.inc:Nat):Int)) with
        | false=>
         have eh:=iG h7
         cases h8:(cz.body==cA.body) with
         | false=>
          have fM:cz.body≠cA.body:=by simpa using h8
          rw [show (.v (.bool (iN a b)):DV)=.v (.bool false) from (bv (by first | exact k7 (by omega) (by omega) aq | exact kA (fun e=>by subst e;omega) | exact fQ fi fj (fV (by omega)) | exact fQ fi fj (fV (.inr (.inr (.inr (.inr (.inr (.inr (lK (by assumption)))))))))))]
          exact aK tk mo hK rfl [(7,[(4,.b false),(10,.b false),(17,.b false),(24,.b false),(31,.b false),(38,.b false),(43,.res (.v (.string ⟨(cz.body).toArray⟩))),(46,.res (.v (.string ⟨(cA.body).toArray⟩))),(47,.b true)])] 2000 r (by kernel_rfl) (U h2 (U h3 (U h4 (U h5 (U h6 (U h7 (U (rfl:ae cz.body=ae (cz.body)) (U (rfl:ae cA.body=ae (cA.body)) (U ((by simpa [bne] using h8):(cz.body != cA.body)=true) trivial)))))))))
         | true=>
          have fM:cz.body=cA.body:=by simpa using h8
          exact aU (todo':=hd Tryz.f14 0) tk mo hK [(5,[(1,.z (((i+1:Nat):Int)))]),(7,[(4,.b false),(10,.b false),(17,.b false),(24,.b false),(31,.b false),(38,.b false),(43,.res (.v (.string ⟨(cz.body).toArray⟩))),(46,.res (.v (.string ⟨(cA.body).toArray⟩))),(47,.b false)])] 2000 [] [0,1,5] r (by kernel_rfl) (U h2 (U h3 (U h4 (U h5 (U h6 (U h7 (U (rfl:ae cz.body=ae (cz.body)) (U (rfl:ae cA.body=ae (cA.body)) (U ((by simpa [bne] using h8):(cz.body != cA.body)=false) (U ((wi (by omega)):IntKind.i64.wrap ((((i:Nat):Int):Int)+1)=((i+1:Nat):Int)) trivial)))))))))) fun ac wd r=>bH (by omega) ac wd ⟨(at_next aq fi fj (JU (by omega) (by omega) (by omega) (by omega) (by omega) (by omega) (eq_of_beq (by assumption)))),r⟩
        | true=>
         have eh:¬ _=_:=bne_iff_ne.1 h7
         rw [show (.v (.bool (iN a b)):DV)=.v (.bool false) from (bv (by first | exact k7 (by omega) (by omega) aq | exact kA (fun e=>by subst e;omega) | exact fQ fi fj (fV (by omega)) | exact fQ fi fj (fV (.inr (.inr (.inr (.inr (.inr (.inr (lK (by assumption)))))))))))]
         exact aK tk mo hK rfl [(7,[(4,.b false),(10,.b false),(17,.b false),(24,.b false),(31,.b false),(38,.b true)])] 2000 r (by kernel_rfl) (U h2 (U h3 (U h4 (U h5 (U h6 (U h7 trivial))))))
       | true=>
        have fL:¬ _=_:=bne_iff_ne.1 h6
        rw [show (.v (.bool (iN a b)):DV)=.v (.bool false) from (bv (by first | exact k7 (by omega) (by omega) aq | exact kA (fun e=>by subst e;omega) | exact fQ fi fj (fV (by omega)) | exact fQ fi fj (fV (.inr (.inr (.inr (.inr (.inr (.inr (lK (by assumption)))))))))))]
        exact aK tk mo hK rfl [(7,[(4,.b false),(10,.b false),(17,.b false),(24,.b false),(31,.b true)])] 2000 r (by kernel_rfl) (U h2 (U h3 (U h4 (U h5 (U h6 trivial)))))
      | true=>
       have fb:¬ _=_:=bne_iff_ne.1 h5
       rw [show (.v (.bool (iN a b)):DV)=.v (.bool false) from (bv (by first | exact k7 (by omega) (by omega) aq | exact kA (fun e=>by subst e;omega) | exact fQ fi fj (fV (by omega)) | exact fQ fi fj (fV (.inr (.inr (.inr (.inr (.inr (.inr (lK (by assumption)))))))))))]
       exact aK tk mo hK rfl [(7,[(4,.b false),(10,.b false),(17,.b false),(24,.b true)])] 2000 r (by kernel_rfl) (U h2 (U h3 (U h4 (U h5 trivial))))
     | true=>
      have fa:¬ _=_:=bne_iff_ne.1 h4
      rw [show (.v (.bool (iN a b)):DV)=.v (.bool false) from (bv (by first | exact k7 (by omega) (by omega) aq | exact kA (fun e=>by subst e;omega) | exact fQ fi fj (fV (by omega)) | exact fQ fi fj (fV (.inr (.inr (.inr (.inr (.inr (.inr (lK (by assumption)))))))))))]
      exact aK tk mo hK rfl [(7,[(4,.b false),(10,.b false),(17,.b true)])] 2000 r (by kernel_rfl) (U h2 (U h3 (U h4 trivial)))
    | true=>
     have dP:¬ _=_:=bne_iff_ne.1 h3
     rw [show (.v (.bool (iN a b)):DV)=.v (.bool false) from (bv (by first | exact k7 (by omega) (by omega) aq | exact kA (fun e=>by subst e;omega) | exact fQ fi fj (fV (by omega)) | exact fQ fi fj (fV (.inr (.inr (.inr (.inr (.inr (.inr (lK (by assumption)))))))))))]
     exact aK tk mo hK rfl [(7,[(4,.b false),(10,.b true)])] 2000 r (by kernel_rfl) (U h2 (U h3 trivial))
   | true=>
    have c8:¬ _=_:=bne_iff_ne.1 h2
    rw [show (.v (.bool (iN a b)):DV)=.v (.bool false) from (bv (by first | exact k7 (by omega) (by omega) aq | exact kA (fun e=>by subst e;omega) | exact fQ fi fj (fV (by omega)) | exact fQ fi fj (fV (.inr (.inr (.inr (.inr (.inr (.inr (lK (by assumption)))))))))))]
    exact aK tk mo hK rfl [(7,[(4,.b true)])] 2000 r (by kernel_rfl) (U h2 trivial)
 | true=>
  have a7:¬ _=_:=bne_iff_ne.1 h0
  rw [show (.v (.bool (iN a b)):DV)=.v (.bool false) from (bv (by first | exact k7 (by omega) (by omega) aq | exact kA (fun e=>by subst e;omega) | exact fQ fi fj (fV (by omega)) | exact fQ fi fj (fV (.inr (.inr (.inr (.inr (.inr (.inr (lK (by assumption)))))))))))]
  exact aK tk mo hK rfl [(1,[(1,.z (((a.length:Nat):Int))),(3,.z (((b.length:Nat):Int))),(4,.b true)])] 2000 r (by kernel_rfl) (U aM (U br (U h0 trivial)))
end Go.Proofs.YtcnpikbbmbombaaGreatDoor
namespace Go.Proofs.YtcnpikbbmbombaaGreatDoor
open Go.RowKit
theorem qk:c9 Tryz.prog 51:=by unfold c9;kernel_rfl
def bz (z:Int):UInt8:=UInt8.ofNat (z%256).toNat
theorem Bx (z:Int):(((bz z).toNat:Nat):Int)=z%256:=by
 unfold bz;rw [UInt8.toNat_ofNat'];omega
theorem bQ (z:Int):IntKind.u8.wrap z=(((bz z).toNat:Nat):Int):=by
 rw [Bx];simp [IntKind.wrap,IntKind.signed,IntKind.bits]
theorem Hh (b:UInt8):bz ((b.toNat:Nat):Int)=b:=by
 apply UInt8.toNat_inj.1
 have h:=Bx ((b.toNat:Nat):Int)
 have:=b.toNat_lt
 omega
theorem xX (x:Nat):((x:Nat):Int).fdiv (2 ^ (min (8:Int).toNat IntKind.u64.bits))=((x / 256:Nat):Int):=by
 show ((x:Nat):Int).fdiv 256=_
 rw [Int.fdiv_eq_ediv_of_nonneg _ (by omega)];omega
theorem M5 (x:Nat):((x:Nat):Int).fdiv (2 ^ (min (7:Int).toNat IntKind.u64.bits))=((x / 128:Nat):Int):=by
 show ((x:Nat):Int).fdiv 128=_
 rw [Int.fdiv_eq_ediv_of_nonneg _ (by omega)];omega
theorem JV {x:Nat} (h:x<18446744073709551616):IntKind.u64.wrap ((BitVec.ofInt IntKind.u64.bits (x:Int) &&& BitVec.ofInt IntKind.u64.bits 127).toNat:Int)=((x%128:Nat):Int):=by
 have h1:(BitVec.ofInt 64 (x:Int) &&& BitVec.ofInt 64 127).toNat=x%128:=by
  rw [BitVec.toNat_and]
  have e1:(BitVec.ofInt 64 (x:Int)).toNat=x:=by simp [BitVec.toNat_ofInt];omega
  have e2:(BitVec.ofInt 64 127).toNat=2 ^ 7-1:=by decide
  rw [e1,e2,Nat.and_two_pow_sub_one_eq_mod]
 show IntKind.u64.wrap ((BitVec.ofInt 64 (x:Int) &&& BitVec.ofInt 64 127).toNat:Int)=_
 rw [h1]
 simp [IntKind.wrap,IntKind.signed,IntKind.bits];omega
theorem Lu {x:Nat} (h:x<128):IntKind.u64.wrap ((BitVec.ofInt IntKind.u64.bits (x:Int) ||| BitVec.ofInt IntKind.u64.bits 128).toNat:Int)=((x+128:Nat):Int):=by
 have h1:(BitVec.ofInt 64 (x:Int) ||| BitVec.ofInt 64 128).toNat=x+128:=by
  rw [BitVec.toNat_or]
  have e1:(BitVec.ofInt 64 (x:Int)).toNat=x:=by simp [BitVec.toNat_ofInt];omega
  have e2:(BitVec.ofInt 64 128).toNat=2 ^ 7*1:=by decide
  rw [e1,e2,Nat.or_comm,← Nat.two_pow_add_eq_or_of_lt (i:=7) (by omega)];omega
 show IntKind.u64.wrap ((BitVec.ofInt 64 (x:Int) ||| BitVec.ofInt 64 128).toNat:Int)=_
 rw [h1]
 simp [IntKind.wrap,IntKind.signed,IntKind.bits];omega
def iZ (l:List UInt8):List ai:=[.rw 91 1 [[.em 5 1 (ae l)]]]
theorem CD {l l':List UInt8} {rows:List (List DV)} (h:rows=ae l'):([ai.rw 91 1 (List.set (List.set [[.em 5 1 (ae l)]] 0 [.jk]) 0 [.em 5 1 rows])]:List ai)=iZ l':=by subst h;rfl
theorem Lv {l l':List UInt8} {r0 rows:List (List DV)} (h:rows=ae l'):([ai.rw 91 1 (List.set (List.set (List.set (List.set [[.em 5 1 (ae l)]] 0 [.jk]) 0 [.em 5 1 r0]) 0 [.jk]) 0 [.em 5 1 rows])]:List ai)=iZ l':=by subst h;rfl
def cM (x:Nat):List UInt8:=if h:x<128 then [bz x] else bz ((x%128+128:Nat):Int)::cM (x / 128)
termination_by x
theorem rK {x:Nat} (h:x<128):cM x=[bz x]:=by rw [cM,dif_pos h]
theorem ug {x:Nat} (h:¬ x<128):cM x=bz ((x%128+128:Nat):Int)::cM (x / 128):=by rw [cM,dif_neg h]
theorem By {x i:Nat} (hx:x<18446744073709551616) (h:128≤x / 128 ^ i):i+1≤9:=by
 rcases Nat.lt_or_ge i 9 with h1 | h1
 ·omega
 ·have h2:128 ^ 9≤128 ^ i:=Nat.pow_le_pow_right (by omega) h1
  have h3:x / 128 ^ i≤x / 128 ^ 9:=Nat.div_le_div_left h2 (by decide)
  have:x / 128 ^ 9<128:=by rw [Nat.div_lt_iff_lt_mul (by decide)];omega
  omega
theorem r8 (x i:Nat):x / 128 ^ i / 128=x / 128 ^ (i+1):=by rw [Nat.div_div_eq_div_mul,Nat.pow_succ]
set_option maxRecDepth 100000 in
theorem xb (l:List UInt8) (x:Nat) (hl:l.length≤4294967296):aE Tryz.prog 88 [.ep 0 1 (0) 0,.u x,.z 1] [.rw 91 1 ([[.em 5 1 (ae l)]])] (.tu []) (iZ (l++[bz ((x:Nat):Int)])):=by
 refine aE.intro (by kernel_rfl) rfl rfl 25 rfl rfl fun D w0 K bs ac wd hK (ao:bs.m=1) r=>?_
 refine cQ (todo':=hd Tryz.f88 0) (E':=[(0,.ep 0 1 (0) 0),(1,.u x),(8,.z 1),(9,.z 0)]) (M':=[.rw 91 1 ([[.em 5 1 (ae l)]])]) tk mo hK ao [] 2000 [0] [0,1,8,9] r (by kernel_rfl) (U (qk:c9 Tryz.prog 51) trivial) fun ac wd r=>?_
 refine cQ (todo':=hd Tryz.f88 0) (E':=[(0,.ep 0 1 (0) 0),(1,.u (x / 256)),(8,.z 1),(9,.z 1)]) (M':=[.rw 91 1 (List.set (List.set ([[.em 5 1 (ae l)]]) (0) [.jk]) (0) [.em 5 1 (ae l++[[.v (.int .u8 ((((bz (((x:Nat):Int))).toNat:Nat):Int)))]])]),.dead,.dead]) tk mo hK ao [(3,[(4,.ix 0 [.em 5 1 (ae l)]),(6,.z ((((bz (((x:Nat):Int))).toNat:Nat):Int))),(11,.ix 0 [.jk])]),(4,[(1,.z (((x / 256:Nat):Int)))]),(5,[(0,.z (1))])] 2000 [0,1,2] [0,1,8,9] r (by kernel_rfl) (U (rfl:([[.em 5 1 (ae l)]]:List (List DV))[0]?=some [.em 5 1 (ae l)]) (U ((bQ _):IntKind.u8.wrap (((x:Nat):Int))=(((bz (((x:Nat):Int))).toNat:Nat):Int)) (U (ft ((ae l).length)) (U ((by first | rfl | (simp [ae];done) | (simp [ae];omega)):(1)=([[.v (.int .u8 ((((bz (((x:Nat):Int))).toNat:Nat):Int)))]]:List (List DV)).length) (U ((by first | omega | (simp [ae];done) | (simp [ae];omega)):(2*(((ae l).length)+(1))+192)*1≤281474976710656) (U ((by first | omega | (simp [ae];done) | (simp [ae];omega)):((ae l).length)+(1)<4611686018427387904) (U ((by simp [aD,AV.one,bf,ae,ah,ints,steps,strs]):aD ([[.v (.int .u8 ((((bz (((x:Nat):Int))).toNat:Nat):Int)))]])) (U (rfl:(List.set ([[.em 5 1 (ae l)]]) (0) [.jk]:List (List DV))[0]?=some [.jk]) (U ((by first | rfl | (simp [ae];done) | (simp [ae];omega)):((ae l).length+(1))=(ae l++[[.v (.int .u8 ((((bz (((x:Nat):Int))).toNat:Nat):Int)))]]:List (List DV)).length) (U ((xX _):(((x:Nat):Int):Int).fdiv (2 ^ (min (8:Int).toNat IntKind.u64.bits))=((x / 256:Nat):Int)) (U ((by first | decide | omega):(0:Int)≤8) (U ((wi (by omega)):IntKind.i64.wrap ((0:Int)+1)=1) trivial)))))))))))) fun ac wd r=>?_
 refine bq (y:=.tu []) (N':=[.rw 91 1 (List.set (List.set ([[.em 5 1 (ae l)]]) (0) [.jk]) (0) [.em 5 1 (ae l++[[.v (.int .u8 ((((bz (((x:Nat):Int))).toNat:Nat):Int)))]])])]) (rfl) ((CD (by simp [ae])).symm) ?_
 exact bp tk mo hK rfl ao [] 2000 [0] r (by kernel_rfl) trivial
set_option maxRecDepth 100000 in
theorem Lw (l:List UInt8) (x:Nat) (hl:l.length≤4294967296):aE Tryz.prog 88 [.ep 0 1 (0) 0,.u x,.z 2] [.rw 91 1 ([[.em 5 1 (ae l)]])] (.tu []) (iZ (l++[bz ((x:Nat):Int),bz ((x / 256:Nat):Int)])):=by
 refine aE.intro (by kernel_rfl) rfl rfl 25 rfl rfl fun D w0 K bs ac wd hK (ao:bs.m=1) r=>?_
 refine cQ (todo':=hd Tryz.f88 0) (E':=[(0,.ep 0 1 (0) 0),(1,.u x),(8,.z 2),(9,.z 0)]) (M':=[.rw 91 1 ([[.em 5 1 (ae l)]])]) tk mo hK ao [] 2000 [0] [0,1,8,9] r (by kernel_rfl) (U (qk:c9 Tryz.prog 51) trivial) fun ac wd r=>?_
 refine cQ (todo':=hd Tryz.f88 0) (E':=[(0,.ep 0 1 (0) 0),(1,.u (x / 256)),(8,.z 2),(9,.z 1)]) (M':=[.rw 91 1 (List.set (List.set ([[.em 5 1 (ae l)]]) (0) [.jk]) (0) [.em 5 1 (ae l++[[.v (.int .u8 ((((bz (((x:Nat):Int))).toNat:Nat):Int)))]])]),.dead,.dead]) tk mo hK ao [(3,[(4,.ix 0 [.em 5 1 (ae l)]),(6,.z ((((bz (((x:Nat):Int))).toNat:Nat):Int))),(11,.ix 0 [.jk])]),(4,[(1,.z (((x / 256:Nat):Int)))]),(5,[(0,.z (1))])] 2000 [0,1,2] [0,1,8,9] r (by kernel_rfl) (U (rfl:([[.em 5 1 (ae l)]]:List (List DV))[0]?=some [.em 5 1 (ae l)]) (U ((bQ _):IntKind.u8.wrap (((x:Nat):Int))=(((bz (((x:Nat):Int))).toNat:Nat):Int)) (U (ft ((ae l).length)) (U ((by first | rfl | (simp [ae];done) | (simp [ae];omega)):(1)=([[.v (.int .u8 ((((bz (((x:Nat):Int))).toNat:Nat):Int)))]]:List (List DV)).length) (U ((by first | omega | (simp [ae];done) | (simp [ae];omega)):(2*(((ae l).length)+(1))+192)*1≤281474976710656) (U ((by first | omega | (simp [ae];done) | (simp [ae];omega)):((ae l).length)+(1)<4611686018427387904) (U ((by simp [aD,AV.one,bf,ae,ah,ints,steps,strs]):aD ([[.v (.int .u8 ((((bz (((x:Nat):Int))).toNat:Nat):Int)))]])) (U (rfl:(List.set ([[.em 5 1 (ae l)]]) (0) [.jk]:List (List DV))[0]?=some [.jk]) (U ((by first | rfl | (simp [ae];done) | (simp [ae];omega)):((ae l).length+(1))=(ae l++[[.v (.int .u8 ((((bz (((x:Nat):Int))).toNat:Nat):Int)))]]:List (List DV)).length) (U ((xX _):(((x:Nat):Int):Int).fdiv (2 ^ (min (8:Int).toNat IntKind.u64.bits))=((x / 256:Nat):Int)) (U ((by first | decide | omega):(0:Int)≤8) (U ((wi (by omega)):IntKind.i64.wrap ((0:Int)+1)=1) trivial)))))))))))) fun ac wd r=>?_
 refine cQ (todo':=hd Tryz.f88 0) (E':=[(0,.ep 0 1 (0) 0),(1,.u ((x / 256) / 256)),(8,.z 2),(9,.z 2)]) (M':=[.rw 91 1 (List.set (List.set (List.set (List.set ([[.em 5 1 (ae l)]]) (0) [.jk]) (0) [.em 5 1 (ae l++[[.v (.int .u8 ((((bz (((x:Nat):Int))).toNat:Nat):Int)))]])]) (0) [.jk]) (0) [.em 5 1 (ae l++[[.v (.int .u8 ((((bz (((x:Nat):Int))).toNat:Nat):Int)))]]++[[.v (.int .u8 ((((bz (((x / 256:Nat):Int))).toNat:Nat):Int)))]])]),.dead,.dead,.dead,.dead]) tk mo hK ao [(3,[(4,.ix 0 [.em 5 1 (ae l++[[.v (.int .u8 ((((bz (((x:Nat):Int))).toNat:Nat):Int)))]])]),(6,.z ((((bz (((x / 256:Nat):Int))).toNat:Nat):Int))),(11,.ix 0 [.jk])]),(4,[(1,.z ((((x / 256) / 256:Nat):Int)))]),(5,[(0,.z (2))])] 2000 [0,1,2,3,4] [0,1,8,9] r (by kernel_rfl) (U (rfl:(List.set (List.set ([[.em 5 1 (ae l)]]) (0) [.jk]) (0) [.em 5 1 (ae l++[[.v (.int .u8 ((((bz (((x:Nat):Int))).toNat:Nat):Int)))]])]:List (List DV))[0]?=some [.em 5 1 (ae l++[[.v (.int .u8 ((((bz (((x:Nat):Int))).toNat:Nat):Int)))]])]) (U ((bQ _):IntKind.u8.wrap (((x / 256:Nat):Int))=(((bz (((x / 256:Nat):Int))).toNat:Nat):Int)) (U (ft ((ae l++[[.v (.int .u8 ((((bz (((x:Nat):Int))).toNat:Nat):Int)))]]:List (List DV)).length)) (U ((by first | rfl | (simp [ae];done) | (simp [ae];omega)):(1)=([[.v (.int .u8 ((((bz (((x / 256:Nat):Int))).toNat:Nat):Int)))]]:List (List DV)).length) (U ((by first | omega | (simp [ae];done) | (simp [ae];omega)):(2*(((ae l++[[.v (.int .u8 ((((bz (((x:Nat):Int))).toNat:Nat):Int)))]]:List (List DV)).length)+(1))+192)*1≤281474976710656) (U ((by first | omega | (simp [ae];done) | (simp [ae];omega)):((ae l++[[.v (.int .u8 ((((bz (((x:Nat):Int))).toNat:Nat):Int)))]]:List (List DV)).length)+(1)<4611686018427387904) (U ((by simp [aD,AV.one,bf,ae,ah,ints,steps,strs]):aD ([[.v (.int .u8 ((((bz (((x / 256:Nat):Int))).toNat:Nat):Int)))]])) (U (rfl:(List.set (List.set (List.set ([[.em 5 1 (ae l)]]) (0) [.jk]) (0) [.em 5 1 (ae l++[[.v (.int .u8 ((((bz (((x:Nat):Int))).toNat:Nat):Int)))]])]) (0) [.jk]:List (List DV))[0]?=some [.jk]) (U ((by first | rfl | (simp [ae];done) | (simp [ae];omega)):((ae l++[[.v (.int .u8 ((((bz (((x:Nat):Int))).toNat:Nat):Int)))]]:List (List DV)).length+(1))=(ae l++[[.v (.int .u8 ((((bz (((x:Nat):Int))).toNat:Nat):Int)))]]++[[.v (.int .u8 ((((bz (((x / 256:Nat):Int))).toNat:Nat):Int)))]]:List (List DV)).length) (U ((xX _):(((x / 256:Nat):Int):Int).fdiv (2 ^ (min (8:Int).toNat IntKind.u64.bits))=(((x / 256) / 256:Nat):Int)) (U ((by first | decide | omega):(0:Int)≤8) (U ((wi (by omega)):IntKind.i64.wrap ((1:Int)+1)=2) trivial)))))))))))) fun ac wd r=>?_
 refine bq (y:=.tu []) (N':=[.rw 91 1 (List.set (List.set (List.set (List.set ([[.em 5 1 (ae l)]]) (0) [.jk]) (0) [.em 5 1 (ae l++[[.v (.int .u8 ((((bz (((x:Nat):Int))).toNat:Nat):Int)))]])]) (0) [.jk]) (0) [.em 5 1 (ae l++[[.v (.int .u8 ((((bz (((x:Nat):Int))).toNat:Nat):Int)))]]++[[.v (.int .u8 ((((bz (((x / 256:Nat):Int))).toNat:Nat):Int)))]])])]) (rfl) ((Lv (by simp [ae])).symm) ?_
 exact bp tk mo hK rfl ao [] 2000 [0] r (by kernel_rfl) trivial
set_option maxRecDepth 100000 in
theorem kt (l:List UInt8) (b:UInt8) (hl:l.length≤4294967296):aE Tryz.prog 53 [.ep 0 1 (0) 0,.d (.v (.int .u8 (((b.toNat:Nat):Int))))] [.rw 91 1 ([[.em 5 1 (ae l)]])] (.tu []) (iZ (l++[b])):=by
 refine aE.intro (by kernel_rfl) rfl rfl 8 rfl rfl fun D w0 K bs ac wd hK (ao:bs.m=1) r=>?_
 refine bq (y:=.tu []) (N':=[.rw 91 1 ([[.em 5 1 (ae (l++[bz ((b.toNat:Nat):Int)]))]])]) (rfl) ((by rw [Hh];rfl)) ?_
 exact bp tk mo hK rfl ao [(0,[(2,.z (((b.toNat:Nat):Int))),(3,.mem [0] (.tu []) [.rw 91 1 ([[.em 5 1 (ae (l++[bz ((b.toNat:Nat):Int)]))]])])])] 2000 [0] r (by kernel_rfl) (U ((wu ⟨rfl,by omega,by have:=b.toNat_lt;omega⟩):IntKind.u64.wrap (((b.toNat:Nat):Int))=((b.toNat:Nat):Int)) (U (xb l b.toNat (by omega)) trivial))
set_option maxRecDepth 100000 in
theorem M6 (l:List UInt8) (x:Nat) (hx:x<65536) (hl:l.length≤4294967296):aE Tryz.prog 55 [.ep 0 1 (0) 0,.d (.v (.int .u16 (((x:Nat):Int))))] [.rw 91 1 ([[.em 5 1 (ae l)]])] (.tu []) (iZ (l++[bz ((x:Nat):Int),bz ((x / 256:Nat):Int)])):=by
 refine aE.intro (by kernel_rfl) rfl rfl 8 rfl rfl fun D w0 K bs ac wd hK (ao:bs.m=1) r=>?_
 refine bq (y:=.tu []) (N':=[.rw 91 1 ([[.em 5 1 (ae (l++[bz ((x:Nat):Int),bz ((x / 256:Nat):Int)]))]])]) (rfl) (rfl) ?_
 exact bp tk mo hK rfl ao [(0,[(2,.z (((x:Nat):Int))),(3,.mem [0] (.tu []) [.rw 91 1 ([[.em 5 1 (ae (l++[bz ((x:Nat):Int),bz ((x / 256:Nat):Int)]))]])])])] 2000 [0] r (by kernel_rfl) (U ((wu (by omega)):IntKind.u64.wrap (((x:Nat):Int))=((x:Nat):Int)) (U (Lw l x (by omega)) trivial))
set_option maxRecDepth 100000 in
theorem Lx (l:List UInt8) (x:Nat) (hx:x<18446744073709551616) (hl:l.length≤4294967200):aE Tryz.prog 56 [.ep 0 1 (0) 0,.u x] [.rw 91 1 ([[.em 5 1 (ae l)]])] (.tu []) (iZ (l++cM x)):=by
 refine aE.intro (by kernel_rfl) rfl rfl 16 rfl rfl fun D w0 K bs ac wd hK (ao:bs.m=1) r=>?_
 refine cQ (todo':=hd Tryz.f56 0) (E':=[(0,.ep 0 1 (0) 0),(1,.u x)]) (M':=[.rw 91 1 ([[.em 5 1 (ae l)]])]) tk mo hK ao [] 2000 [0] [0,1] r (by kernel_rfl) trivial fun ac wd r=>?_
 refine aF.rounds (Φ:=fun (i:Nat) ac wd=>∃ o:List UInt8,(o.length=l.length+i∧l++cM x=o++cM (x / 128 ^ i))∧RB D w0 K 16 bs [(0,.ep 0 1 (0) 0),(1,.u (x / 128 ^ i))] [.rw 91 1 ([[.em 5 1 (ae o)]])] ac wd) (9) ?_ (Nat.zero_le _) ⟨l,⟨rfl,by simp⟩,(r).cast (by simp) (by simp)⟩
 clear r
 rintro i dw bH ac wd ⟨o,aq,r⟩
 obtain ⟨Oh,aq⟩:=aq
 cases h0:(decide ((128:Int)≤((x / 128 ^ i:Nat):Int))) with
 | false=>
  have a7:=of_decide_eq_false h0
  refine bq (y:=.tu []) (N':=[.rw 91 1 ([[.em 5 1 (ae (o++[bz ((x / 128 ^ i:Nat):Int)]))]])]) (rfl) ((by rw [aq,rK (by omega)];rfl)) ?_
  exact bp tk mo hK rfl ao [(0,[(1,.b false)]),(3,[(2,.mem [0] (.tu []) [.rw 91 1 ([[.em 5 1 (ae (o++[bz ((x / 128 ^ i:Nat):Int)]))]])])])] 2000 [0] r (by kernel_rfl) (U h0 (U (xb o (x / 128 ^ i) (by omega)) trivial))
 | true=>
  have a7:=of_decide_eq_true h0
  exact cQ (todo':=hd Tryz.f56 0) tk mo hK ao [(0,[(1,.b true)]),(1,[(1,.z (((x / 128 ^ (i+1):Nat):Int)))]),(2,[(2,.z (((x / 128 ^ i%128:Nat):Int))),(3,.z (((x / 128 ^ i%128+128:Nat):Int))),(4,.mem [0] (.tu []) [.rw 91 1 ([[.em 5 1 (ae (o++[bz ((x / 128 ^ i%128+128:Nat):Int)]))]])])])] 2000 [0] [0,1] r (by kernel_rfl) (U h0 (U ((JV (by have:=Nat.div_le_self x (128 ^ i);omega)):IntKind.u64.wrap ((BitVec.ofInt IntKind.u64.bits (((x / 128 ^ i:Nat):Int)) &&& BitVec.ofInt IntKind.u64.bits (127)).toNat:Int)=((x / 128 ^ i%128:Nat):Int)) (U ((Lu (by omega)):IntKind.u64.wrap ((BitVec.ofInt IntKind.u64.bits (((x / 128 ^ i%128:Nat):Int)) ||| BitVec.ofInt IntKind.u64.bits (128)).toNat:Int)=((x / 128 ^ i%128+128:Nat):Int)) (U (xb o (x / 128 ^ i%128+128) (by omega)) (U ((by rw [M5,r8]):(((x / 128 ^ i:Nat):Int):Int).fdiv (2 ^ (min (7:Int).toNat IntKind.u64.bits))=((x / 128 ^ (i+1):Nat):Int)) (U ((by first | decide | omega):(0:Int)≤7) trivial)))))) fun ac wd r=>bH (by have:=By (i:=i) hx (by omega);omega) ac wd ⟨(o++[bz ((x / 128 ^ i%128+128:Nat):Int)]),⟨by simp;omega,by rw [aq,ug (by omega),r8,List.append_assoc];rfl⟩,r⟩
set_option maxRecDepth 100000 in
theorem M7 (l b:List UInt8) (hb:b.length≤4294967296) (hl:l.length≤4294967296):aE Tryz.prog 57 [.ep 0 1 (0) 0,.d (.ro 1 (ae b))] [.rw 91 1 ([[.em 5 1 (ae l)]])] (.tu []) (iZ (l++b)):=by
 refine aE.intro (by kernel_rfl) rfl rfl 15 rfl rfl fun D w0 K bs ac wd hK (ao:bs.m=1) r=>?_
 refine bq (y:=.tu []) (N':=[.rw 91 1 (List.set (List.set ([[.em 5 1 (ae l)]]) (0) [.jk]) (0) [.em 5 1 (ae l++(ae b))])]) (rfl) ((CD (by simp [ae])).symm) ?_
 exact bp tk mo hK rfl ao [(1,[(4,.ix 0 [.em 5 1 (ae l)]),(9,.ix 0 [.jk])])] 2000 [0] r (by kernel_rfl) (U (qk:c9 Tryz.prog 51) (U (rfl:([[.em 5 1 (ae l)]]:List (List DV))[0]?=some [.em 5 1 (ae l)]) (U (ft ((ae l).length)) (U ((by first | omega | (simp [ae];done) | (simp [ae];omega)):(2*(((ae l).length)+(ae b).length)+192)*1≤281474976710656) (U ((by first | omega | (simp [ae];done) | (simp [ae];omega)):((ae l).length)+(ae b).length<4611686018427387904) (U ((by simp [aD,AV.one,bf,ae,ah,ints,steps,strs]):aD (ae b)) (U (rfl:(List.set ([[.em 5 1 (ae l)]]) (0) [.jk]:List (List DV))[0]?=some [.jk]) (U ((by first | rfl | (simp [ae];done) | (simp [ae];omega)):((ae l).length+(ae b).length)=(ae l++(ae b):List (List DV)).length) trivial))))))))
set_option maxRecDepth 100000 in
theorem D1 (l:List UInt8) (h0:0<l.length) (hb:l.length<2147483648):al Tryz.prog 58 [.d (.ro 1 (ae l))] (DV.em 5 1 (ae l)):=by
 refine al.intro (by kernel_rfl) rfl rfl 8 rfl rfl fun w0 K ac hK r=>?_
 rw [show (DV.em 5 1 (ae l):DV)=.em 5 1 ([]++(ae l)) from rfl]
 exact aK tk mo hK rfl [] 2000 r (by kernel_rfl) (U ((by simpa [ae] using h0):0<(ae l).length) (U ((by simp):(0)=([]:List (List DV)).length) (U ((by simp [ae];omega):(2*((0)+(ae l).length)+192)*1≤281474976710656) (U ((by simp [ae];omega):(0)+(ae l).length<4611686018427387904) (U ((by simp [aD,AV.one,bf,ae]):aD (ae l)) (U ((by simp):(0+(ae l).length)=([]++(ae l):List (List DV)).length) trivial))))))
set_option maxRecDepth 100000 in
theorem D2 (c:Nat):al Tryz.prog 58 [.d (.v (.slice none 0 c))] (DV.v (.slice none 0 0)):=by
 refine al.intro (by kernel_rfl) rfl rfl 8 rfl rfl fun w0 K ac hK r=>?_
 exact aK tk mo hK rfl [] 2000 r (by kernel_rfl) trivial
set_option maxRecDepth 100000 in
theorem D9 (a:Addr) (c:Nat):al Tryz.prog 58 [.d (.v (.slice (some a) 0 c))] (DV.em 5 1 ([]++[])):=by
 refine al.intro (by kernel_rfl) rfl rfl 8 rfl rfl fun w0 K ac hK r=>?_
 exact aK tk mo hK rfl [] 2000 r (by kernel_rfl) (U ((by simp):(0)=([]:List (List DV)).length) (U ((by simp):(2*((0)+0)+192)*1≤281474976710656) (U ((by simp):(0)+0<4611686018427387904) (U ((by simp [aD]):aD (([]:List (List DV)))) (U ((by simp):(0+0)=([]++([]:List (List DV)):List (List DV)).length) trivial)))))
theorem tW (l:List UInt8) (hb:l.length<2147483648):al Tryz.prog 58 [.d (.ro 1 (ae l))] (.em 5 1 (ae l)):=by
 cases l with
 | nil=>
  refine al.empty (pre:=[]) (post:=[]) fun a c=>?_
  cases a with
  | none=>exact al.nil 5 1 (D2 c)
  | some a=>exact D9 a c
 | cons b l=>exact D1 (b::l) (by simp) hb
theorem zR (l:List UInt8) (hb:l.length<2147483648):al Tryz.prog 58 [.d (.ro 1 (ae l))] (.ro 1 (ae l)):=by
 have h:=(tW l hb).stays
 simp only [ew,tR] at h
 exact h
theorem jj (x:Value):gv (.v x):=by intro K K2 y H h;cases h;exact .v _
theorem JW {T:Nat} {rows:List (List DV)} (h:∀ (i:Nat) r (j:Nat) c,rows[i]?=some r→r[j]?=some c→gv c):gv (.em T 1 rows):=by
 intro K K' y H hd
 cases hd with
 | em X F hl hs hr=>exact .em X F hl hs fun i r j c x h1 h2 h3=>h i r j c h1 h2 _ _ _ _ (hr i r j c x h1 h2 h3)
theorem zS (T:Nat) (l:List UInt8):gv (.em T 1 (ae l)):=JW fun i r j c h1 h2=>by
 simp only [ae,List.getElem?_map,Option.map_eq_some_iff] at h1
 obtain ⟨b,-,rfl⟩:=h1
 cases j with
 | zero=>simp at h2;subst h2;exact jj _
 | succ j=>simp at h2
set_option maxRecDepth 100000 in
theorem JX (l:List UInt8) (hl:l.length<2147483648):aE Tryz.prog 27 [.ep 0 1 (0) 0] [.rw 91 1 ([[.em 5 1 (ae l)]])] (.sl 1 l.length) ([.rw 91 1 (List.set [[.em 5 1 (ae l)]] 0 [.jk]),.rw 5 1 (ae l)]):=by
 refine aE.intro (by kernel_rfl) rfl rfl 10 rfl rfl fun D w0 K bs ac wd hK (ao:bs.m=1) r=>?_
 refine bq (y:=.sl 1 ((ae l).length)) (N':=[.rw 91 1 (List.set ([[.em 5 1 (ae l)]]) (0) [.jk]),.rw 5 1 (ae l)]) ((by simp [ae])) (rfl) ?_
 exact bp tk mo hK rfl ao [(3,[(3,.ix 0 [.em 5 1 (ae l)]),(4,.call [.d (.ro 1 (ae l))] (.em 5 1 (ae l)))])] 2000 [0,2] r (by kernel_rfl) (U (qk:c9 Tryz.prog 51) (U (rfl:([[.em 5 1 (ae l)]]:List (List DV))[0]?=some [.em 5 1 (ae l)]) (U (tW _ (by omega):al Tryz.prog 58 [.d (.ro 1 (ae l))] (.em 5 1 (ae l))) (U ((zS _ _):gv (.em 5 1 (ae l))) (U (ft (1)) (U (ft ((ae l).length)) (U ((tR _):c6 (ae l)=ae l) trivial)))))))
set_option maxRecDepth 100000 in
theorem CE :aE Tryz.prog 22 [] [] (.pt 0 0) ([.bx 91 [.d (.v (.slice none 0 0))]]):=by
 refine aE.intro (by kernel_rfl) rfl rfl 3 rfl rfl fun D w0 K bs ac wd hK (ao:bs.m=0) r=>?_
 refine bq (y:=.pt 0 0) (N':=[.bx 91 [.d (.v (.slice none 0 0))]]) (rfl) (rfl) ?_
 exact bp tk mo hK rfl ao [] 2000 [0] r (by kernel_rfl) trivial
set_option maxRecDepth 100000 in
theorem Ly (a:Option Addr) (n c:Nat):al Tryz.prog 25 [.rp [.v (.slice a n c)] 0] (DV.n n):=by
 refine al.intro (by kernel_rfl) rfl rfl 10 rfl rfl fun w0 K ac hK r=>?_
 rw [show (DV.n n:DV)=.n n from rfl]
 exact aK tk mo hK rfl [] 2000 r (by kernel_rfl) (U (qk:c9 Tryz.prog 51) trivial)
theorem aE.M8 {P:Program} {f:FuncId} {T T2:Nat} {rows:List (List DV)} {x:DV} (h:∀ (a:Option Addr) (c:Nat),al P f [.rp [.v (.slice a rows.length c)] 0] x) (hx:gv x) (hs:∀ {K:World→Prop} {y:Value} {H:ak},bM K x y H→bM K x y []):aE P f [.ep 0 1 0 0] [.rw T 1 [[.em T2 1 rows]]] (.d x) [.rw T 1 [[.em T2 1 rows]]]:=by
 refine ⟨(h none 0).1,fun {D w0 K0 β F I w} ys R hK hl hr=>?_⟩
 obtain ⟨y,rfl⟩:∃ y,ys=[y]:=by
  cases ys with
  | nil=>simp at hl
  | cons y r=>cases r with
   | nil=>exact ⟨y,rfl⟩
   | cons _ _=>simp at hl
 have hy:=hr 0 _ y rfl rfl
 cases hy with
 | @ep _ _ _ _ b cc hb=>
 obtain ⟨H,hF,hB,hH⟩:=R.at (u:=0) rfl
 cases hB with
 | rw aS X G mX kX jW=>
  rw [hb] at aS;cases aS
  obtain ⟨b',cap,cs,fz,he,rfl,ey,cF,dA,lU⟩:=kX.block (by simp)
  simp only [Value.slice.injEq,Option.some.injEq,Addr.mk.injEq] at he
  obtain ⟨⟨rfl,-⟩,-,rfl⟩:=he
  have hX:=(mX 0 _ rfl).2
  obtain ⟨v,hv⟩:∃ v,(X 0)[0]?=some v:=⟨(X 0)[0]'(by omega),List.getElem?_eq_getElem _⟩
  have hd:=jW 0 _ 0 _ v rfl rfl hv
  obtain ⟨a,n,c,rfl⟩:=hd.slice (.inr ⟨_,_,_,rfl⟩)
  have hn:n=rows.length:=by
   generalize G 0 0=GG at hd
   cases hd with
   | em X' F' cS ez nb=>
    obtain ⟨a',c',e⟩:=ez.len
    simp only [Value.slice.injEq] at e
    exact e.2.1
  subst hn
  have hw:w.heap[b]?=some (.cells cs T fz):=(Holds.app.1 hH).1.one
  have ka:w.cell? ⟨b,0,none⟩=some (.slice a rows.length c):=by
   rw [cell_of hw]
   have Oi:lay 1 X=X 0:=by simp [lay,List.range_succ]
   have e1:(cs.toList.take (1*1))[0]?=cs[0]?:=by rw [List.getElem?_take,if_pos (by omega),Array.getElem?_toList]
   rw [← e1,show (cs.toList.take (1*1))=X 0 from lU.trans Oi];exact hv
  refine ((h a c).2 w (fun w'=>w'.cell? ⟨b,0,none⟩=some (.slice a rows.length c)) [.pointer (some ⟨b,0*1+0,none⟩)] (fun w' g=>g.sF ka) rfl fun j q y h1 h2=>?_).mono ?_
  ·cases j with
   | succ j=>simp at h1
   | zero=>
    simp only [List.getElem?_cons_zero,Option.some.injEq] at h1 h2
    subst h1;subst h2
    have e0:(⟨b,0*1+0,none⟩:Addr)=(⟨b,0,none⟩:Addr).add 0:=by rw [add_zero']
    rw [e0]
    refine .rp _ [.slice a rows.length c] rfl (fun w' dC j z hj=>?_) (fun j q z h1 h2=>?_)
    ·cases j with
     | succ j=>simp at hj
     | zero=>simp at hj;subst hj;rw [add_zero'];exact dC
    ·cases j with
     | succ j=>simp at h1
     | zero=>simp at h1 h2;subst h1;subst h2;exact .v _
  ·rintro e w' ⟨v,rfl,g,H2,⟨Ho,Hi,rfl,tE⟩,n2⟩
   refine ⟨v,rfl,β,F,I,⟨R.len,R.blk,R.st.gr g⟩,Ext.refl _,bS.refl _,.d (hx _ _ _ _ (hs tE))⟩
theorem tl (l:List UInt8):aE Tryz.prog 25 [.ep 0 1 0 0] (iZ l) (.n l.length) (iZ l):=by
 have h:=aE.M8 (T:=91) (T2:=5) (rows:=ae l) (fun a c=>Ly a (ae l).length c) (jj _) (fun hd=>by cases hd;exact .v _)
 rw [show (ae l).length=l.length by simp [ae]] at h
 exact h
end Go.Proofs.YtcnpikbbmbombaaGreatDoor
namespace Go.Proofs.YtcnpikbbmbombaaGreatDoor
open Go.RowKit
def fw (i:Nat) (x:Int) (c:UInt8):Int:=IntKind.u64.wrap ((BitVec.ofInt IntKind.u64.bits x ||| BitVec.ofInt IntKind.u64.bits (IntKind.u64.wrap (IntKind.u64.wrap (IntKind.u8.wrap ((BitVec.ofInt IntKind.u8.bits (c.toNat:Int) &&& BitVec.ofInt IntKind.u8.bits 127).toNat:Int))*2 ^ (min (((7*i:Nat):Int)).toNat IntKind.u64.bits)))).toNat:Int)
def gT:List UInt8→Nat→Int→Int×Nat
 | [],_,_=>(0,0)
 | c::r,i,x=>if i=9∧1<c.toNat then (0,0) else if c.toNat<128 then (if c.toNat=0∧0<i then (0,0) else (fw i x c,i+1)) else gT r (i+1) (fw i x c)
theorem rL {l:List UInt8} {i:Nat} {c:UInt8} (h:l[i]?=some c):l.drop i=c::l.drop (i+1):=by
 obtain ⟨aO,rfl⟩:=List.getElem?_eq_some_iff.1 h
 exact List.drop_eq_getElem_cons aO
structure gp (l:List UInt8) (i:Nat) (x:Int):Prop where
 le:i≤l.length
 nine:i≤9∨l.length≤i
 eq:gT (l.drop i) i x=gT l 0 0
theorem gp.start (l:List UInt8):gp l 0 0:=⟨Nat.zero_le _,Or.inl (by omega),by rw [List.drop_zero]⟩
section
variable {l:List UInt8} {i:Nat} {x:Int} {c:UInt8}
theorem gp.wide (h:gp l i x) (hc:l[i]?=some c) (h9:i=9) (h1:1<c.toNat):gT l 0 0=(0,0):=by
 rw [← h.eq,rL hc];unfold gT;rw [if_pos ⟨h9,h1⟩]
theorem gp.zero (h:gp l i x) (hc:l[i]?=some c) (h9:¬ (i=9∧1<c.toNat)) (h1:c.toNat=0) (h2:0<i):gT l 0 0=(0,0):=by
 rw [← h.eq,rL hc];unfold gT;rw [if_neg h9,if_pos (by omega),if_pos ⟨h1,h2⟩]
theorem gp.last (h:gp l i x) (hc:l[i]?=some c) (h9:¬ (i=9∧1<c.toNat)) (h1:c.toNat<128) (h2:¬ (c.toNat=0∧0<i)):gT l 0 0=(fw i x c,i+1):=by
 rw [← h.eq,rL hc];unfold gT;rw [if_neg h9,if_pos h1,if_neg h2]
theorem gp.next (h:gp l i x) (hc:l[i]?=some c) (h9:¬ (i=9∧1<c.toNat)) (h1:¬ c.toNat<128):gp l (i+1) (fw i x c) where
 le:=(List.getElem?_eq_some_iff.1 hc).1
 nine:=by
  rcases h.nine with h | h
  ·left;omega
  ·exact absurd (List.getElem?_eq_some_iff.1 hc).1 (by omega)
 eq:=by rw [← h.eq,rL hc];conv=>rhs;unfold gT;rw [if_neg h9,if_neg h1]
theorem gp.none (h:gp l i x) (hi:¬ i<l.length):gT l 0 0=(0,0):=by
 rw [← h.eq,List.drop_of_length_le (by omega)];rfl
theorem gp.i9 (h:gp l i x) (hc:l[i]?=some c):i≤9:=by
 rcases h.nine with h | h
 ·exact h
 ·exact absurd (List.getElem?_eq_some_iff.1 hc).1 (by omega)
end
theorem dm {p q:Int×Nat} (h:p=q):AV.tu [.d (.v (.int .u64 p.1)),.n p.2]=.tu [.d (.v (.int .u64 q.1)),.n q.2]:=by rw [h]
set_option maxRecDepth 100000 in
theorem II (l:List UInt8) (n:Nat) (hn:n≤l.length):aE Tryz.prog 92 [.pt 0 0,.n n] [.bx 108 [.d (.ro 1 (ae l)),.d (.v (.bool false))]] (.d (.ro 1 (ae (l.take n)))) ([.bx 108 [.d (.ro 1 (ae (l.drop n))),.d (.v (.bool false))]]):=by
 refine aE.intro (by kernel_rfl) rfl rfl 43 rfl rfl fun D w0 K bs ac wd hK (ao:bs.m=1) r=>?_
 cases h0:(decide ((((n:Nat):Int):Int)<0)) with
 | false=>
  have a7:=of_decide_eq_false h0
  have aM:=((by first | rfl | simp [ae,ah,ints,steps,strs]):(((ae l).length:Nat):Int)=((l.length:Nat):Int))
  cases h1:(decide ((((l.length:Nat):Int):Int)<((n:Nat):Int))) with
  | false=>
   have bP:=of_decide_eq_false h1
   refine bq (y:=.d (.ro 1 (List.take (n) (ae l)))) (N':=[.bx 108 [.d (.ro 1 (List.drop (n) (ae l))),.d (.v (.bool false))]]) ((by rw [za])) ((by rw [zb])) ?_
   exact bp tk mo hK rfl ao [(1,[(6,.b false),(14,.z (((l.length:Nat):Int))),(15,.b false)]),(4,[(6,.n2 (n) (0))]),(5,[(6,.n2 (0) (n))])] 2000 [0] r (by kernel_rfl) (U h0 (U aM (U h1 (U (aC ((n:Nat):Int)) (U (aC ((n:Nat):Int)) (U ((by first | omega | (simp [ae,ah,ints,steps,strs];done) | (simp [ae,ah,ints,steps,strs];omega)):(n)≤(ae l).length) (U (aC ((n:Nat):Int)) (U ((by first | omega | (simp [ae,ah,ints,steps,strs];done) | (simp [ae,ah,ints,steps,strs];omega)):(n)≤(ae l).length) trivial))))))))
  | true=>
   have bP:=of_decide_eq_true h1
   exact absurd bP (by omega)
 | true=>
  have a7:=of_decide_eq_true h0
  exact absurd a7 (by omega)
set_option maxRecDepth 100000 in
theorem Hj (l:List UInt8) (n:Nat) (hn:l.length<n):aE Tryz.prog 92 [.pt 0 0,.n n] [.bx 108 [.d (.ro 1 (ae l)),.d (.v (.bool false))]] (.d (.v (.slice none 0 0))) ([.bx 108 [.d (.ro 1 (ae l)),.d (.v (.bool true))]]):=by
 refine aE.intro (by kernel_rfl) rfl rfl 43 rfl rfl fun D w0 K bs ac wd hK (ao:bs.m=1) r=>?_
 cases h0:(decide ((((n:Nat):Int):Int)<0)) with
 | false=>
  have a7:=of_decide_eq_false h0
  have aM:=((by first | rfl | simp [ae,ah,ints,steps,strs]):(((ae l).length:Nat):Int)=((l.length:Nat):Int))
  cases h1:(decide ((((l.length:Nat):Int):Int)<((n:Nat):Int))) with
  | false=>
   have bP:=of_decide_eq_false h1
   exact absurd bP (by omega)
  | true=>
   have bP:=of_decide_eq_true h1
   refine bq (y:=.d (.v (.slice none 0 0))) (N':=[.bx 108 [.d (.ro 1 (ae l)),.d (.v (.bool true))]]) (rfl) (rfl) ?_
   exact bp tk mo hK rfl ao [(1,[(6,.b false),(14,.z (((l.length:Nat):Int))),(15,.b true)])] 2000 [0] r (by kernel_rfl) (U h0 (U aM (U h1 trivial)))
 | true=>
  have a7:=of_decide_eq_true h0
  exact absurd a7 (by omega)
set_option maxRecDepth 100000 in
theorem IJ (l:List UInt8) (z:Int) (hz:z<0):aE Tryz.prog 92 [.pt 0 0,.z z] [.bx 108 [.d (.ro 1 (ae l)),.d (.v (.bool false))]] (.d (.v (.slice none 0 0))) ([.bx 108 [.d (.ro 1 (ae l)),.d (.v (.bool true))]]):=by
 refine aE.intro (by kernel_rfl) rfl rfl 43 rfl rfl fun D w0 K bs ac wd hK (ao:bs.m=1) r=>?_
 cases h0:(decide ((z:Int)<0)) with
 | false=>
  have a7:=of_decide_eq_false h0
  exact absurd a7 (by omega)
 | true=>
  have a7:=of_decide_eq_true h0
  refine bq (y:=.d (.v (.slice none 0 0))) (N':=[.bx 108 [.d (.ro 1 (ae l)),.d (.v (.bool true))]]) (rfl) (rfl) ?_
  exact bp tk mo hK rfl ao [(1,[(6,.b true)])] 2000 [0] r (by kernel_rfl) (U h0 trivial)
set_option maxRecDepth 100000 in
theorem IK (l:List UInt8) (z:Int):aE Tryz.prog 92 [.pt 0 0,.z z] [.bx 108 [.d (.ro 1 (ae l)),.d (.v (.bool true))]] (.d (.v (.slice none 0 0))) ([.bx 108 [.d (.ro 1 (ae l)),.d (.v (.bool true))]]):=by
 refine aE.intro (by kernel_rfl) rfl rfl 43 rfl rfl fun D w0 K bs ac wd hK (ao:bs.m=1) r=>?_
 refine bq (y:=.d (.v (.slice none 0 0))) (N':=[.bx 108 [.d (.ro 1 (ae l)),.d (.v (.bool true))]]) (rfl) (rfl) ?_
 exact bp tk mo hK rfl ao [] 2000 [0] r (by kernel_rfl) trivial
set_option maxRecDepth 100000 in
theorem JY (l:List UInt8):aE Tryz.prog 91 [.pt 0 0] [.bx 108 [.d (.ro 1 (ae l)),.d (.v (.bool true))]] (.tu [.d (.v (.int .u64 0)),.d (.v (.int .i64 0))]) ([.bx 108 [.d (.ro 1 (ae l)),.d (.v (.bool true))]]):=by
 refine aE.intro (by kernel_rfl) rfl rfl 47 rfl rfl fun D w0 K bs ac wd hK (ao:bs.m=1) r=>?_
 refine bq (y:=.tu [.d (.v (.int .u64 0)),.z 0]) (N':=[.bx 108 [.d (.ro 1 (ae l)),.d (.v (.bool true))]]) (rfl) (rfl) ?_
 exact bp tk mo hK rfl ao [] 2000 [0] r (by kernel_rfl) trivial
set_option maxRecDepth 100000 in
theorem Lz (l:List UInt8):aE Tryz.prog 91 [.pt 0 0] [.bx 108 [.d (.ro 1 (ae l)),.d (.v (.bool false))]] (.tu [.d (.v (.int .u64 (gT l 0 0).1)),.n (gT l 0 0).2]) ([.bx 108 [.d (.ro 1 (ae l)),.d (.v (.bool false))]]):=by
 refine aE.intro (by kernel_rfl) rfl rfl 47 rfl rfl fun D w0 K bs ac wd hK (ao:bs.m=1) r=>?_
 refine cQ (todo':=hd Tryz.f91 0) (E':=[(14,.d (.ro 1 (ae l))),(15,.n l.length),(16,.n 0),(4,.d (.v (.int .u64 (0))))]) (M':=[.bx 108 [.d (.ro 1 (ae l)),.d (.v (.bool false))]]) tk mo hK ao [(4,[(4,.z (((l.length:Nat):Int)))])] 2000 [0] [14,15,16,4] r (by kernel_rfl) (U ((by first | rfl | simp [ae,ah,ints,steps,strs]):(((ae l).length:Nat):Int)=((l.length:Nat):Int)) trivial) fun ac wd r=>?_
 refine aF.rounds (Φ:=fun (i:Nat) ac wd=>∃ x:Int,(gp l i x)∧RB D w0 K 47 bs [(14,.d (.ro 1 (ae l))),(15,.n l.length),(16,.n i),(4,.d (.v (.int .u64 (x))))] [.bx 108 [.d (.ro 1 (ae l)),.d (.v (.bool false))]] ac wd) (l.length) ?_ (Nat.zero_le _) ⟨0,gp.start l,r⟩
 clear r
 rintro i dw bH ac wd ⟨x,aq,r⟩
 have Pu:=aq.le
 cases h0:(decide ((((i:Nat):Int):Int)<((l.length:Nat):Int))) with
 | false=>
  have a7:=of_decide_eq_false h0
  refine bq (y:=.tu [.d (.v (.int .u64 0)),.z 0]) (N':=[.bx 108 [.d (.ro 1 (ae l)),.d (.v (.bool false))]]) ((by first | exact (dm (aq.none (by omega))) | exact (dm (aq.wide cX (by omega) (by omega))) | exact (dm (aq.zero cX (by rintro ⟨_,_⟩;omega) (by omega) (by omega))) | exact (dm (aq.last cX (by rintro ⟨_,_⟩;omega) (by omega) (by rintro ⟨_,_⟩;omega))))) (rfl) ?_
  exact bp tk mo hK rfl ao [(5,[(0,.b false)])] 2000 [0] r (by kernel_rfl) (U h0 trivial)
 | true=>
  have a7:=of_decide_eq_true h0
  obtain ⟨bL,cX⟩:∃ x,l[i]?=some x:=⟨_,List.getElem?_eq_getElem (by omega)⟩
  have Pv:=aq.i9 cX
  cases h1:((((i:Nat):Int):Int)==9) with
  | false=>
   have bP:=ne_of_beq_false h1
   have aM:=(rfl:IntKind.u8.wrap ((BitVec.ofInt IntKind.u8.bits (((bL.toNat:Nat):Int)) &&& BitVec.ofInt IntKind.u8.bits (127)).toNat:Int)=IntKind.u8.wrap ((BitVec.ofInt IntKind.u8.bits (((bL.toNat:Nat):Int)) &&& BitVec.ofInt IntKind.u8.bits (127)).toNat:Int))
   have br:=(rfl:IntKind.u64.wrap (IntKind.u8.wrap ((BitVec.ofInt IntKind.u8.bits (((bL.toNat:Nat):Int)) &&& BitVec.ofInt IntKind.u8.bits (127)).toNat:Int))=IntKind.u64.wrap (IntKind.u8.wrap ((BitVec.ofInt IntKind.u8.bits (((bL.toNat:Nat):Int)) &&& BitVec.ofInt IntKind.u8.bits (127)).toNat:Int)))
   have cT:=((wi (by omega)):IntKind.i64.wrap ((7:Int)*((i:Nat):Int))=((7*i:Nat):Int))
   have dx:=(rfl:IntKind.u64.wrap ((IntKind.u64.wrap (IntKind.u8.wrap ((BitVec.ofInt IntKind.u8.bits (((bL.toNat:Nat):Int)) &&& BitVec.ofInt IntKind.u8.bits (127)).toNat:Int)):Int)*2 ^ (min (((7*i:Nat):Int):Int).toNat IntKind.u64.bits))=IntKind.u64.wrap ((IntKind.u64.wrap (IntKind.u8.wrap ((BitVec.ofInt IntKind.u8.bits (((bL.toNat:Nat):Int)) &&& BitVec.ofInt IntKind.u8.bits (127)).toNat:Int)):Int)*2 ^ (min (((7*i:Nat):Int):Int).toNat IntKind.u64.bits)))
   have dQ:=(rfl:IntKind.u64.wrap ((BitVec.ofInt IntKind.u64.bits (x) ||| BitVec.ofInt IntKind.u64.bits (IntKind.u64.wrap ((IntKind.u64.wrap (IntKind.u8.wrap ((BitVec.ofInt IntKind.u8.bits (((bL.toNat:Nat):Int)) &&& BitVec.ofInt IntKind.u8.bits (127)).toNat:Int)):Int)*2 ^ (min (((7*i:Nat):Int):Int).toNat IntKind.u64.bits)))).toNat:Int)=fw i x bL)
   cases h2:(decide ((((bL.toNat:Nat):Int):Int)<128)) with
   | false=>
    have c8:=of_decide_eq_false h2
    exact cQ (todo':=hd Tryz.f91 0) tk mo hK ao [(5,[(0,.b true)]),(6,[(1,.ix (i) [.v (.int .u8 (((bL.toNat:Nat):Int)))])]),(7,[(1,.b false)]),(9,[(2,.z (IntKind.u8.wrap ((BitVec.ofInt IntKind.u8.bits (((bL.toNat:Nat):Int)) &&& BitVec.ofInt IntKind.u8.bits (127)).toNat:Int))),(3,.z (IntKind.u64.wrap (IntKind.u8.wrap ((BitVec.ofInt IntKind.u8.bits (((bL.toNat:Nat):Int)) &&& BitVec.ofInt IntKind.u8.bits (127)).toNat:Int)))),(5,.z (((7*i:Nat):Int))),(6,.z (IntKind.u64.wrap ((IntKind.u64.wrap (IntKind.u8.wrap ((BitVec.ofInt IntKind.u8.bits (((bL.toNat:Nat):Int)) &&& BitVec.ofInt IntKind.u8.bits (127)).toNat:Int)):Int)*2 ^ (min (((7*i:Nat):Int):Int).toNat IntKind.u64.bits)))),(7,.z (fw i x bL))]),(10,[(1,.b false)]),(14,[(0,.z (((i+1:Nat):Int)))])] 2000 [0] [14,15,16,4] r (by kernel_rfl) (U h0 (U (aC ((i:Nat):Int)) (U (jF cX) (U h1 (U aM (U br (U cT (U dx (U ((by first | decide | omega):(0:Int)≤((7*i:Nat):Int)) (U dQ (U h2 (U ((wi (by omega)):IntKind.i64.wrap ((((i:Nat):Int):Int)+1)=((i+1:Nat):Int)) trivial)))))))))))) fun ac wd r=>bH (by omega) ac wd ⟨fw i x bL,aq.next cX (by rintro ⟨_,_⟩;omega) (by omega),r⟩
   | true=>
    have c8:=of_decide_eq_true h2
    cases h3:((((bL.toNat:Nat):Int):Int)==0) with
    | false=>
     have dP:=ne_of_beq_false h3
     refine bq (y:=.tu [.d (.v (.int .u64 (fw i x bL))),.n (i+1)]) (N':=[.bx 108 [.d (.ro 1 (ae l)),.d (.v (.bool false))]]) ((by first | exact (dm (aq.none (by omega))) | exact (dm (aq.wide cX (by omega) (by omega))) | exact (dm (aq.zero cX (by rintro ⟨_,_⟩;omega) (by omega) (by omega))) | exact (dm (aq.last cX (by rintro ⟨_,_⟩;omega) (by omega) (by rintro ⟨_,_⟩;omega))))) (rfl) ?_
     exact bp tk mo hK rfl ao [(5,[(0,.b true)]),(6,[(1,.ix (i) [.v (.int .u8 (((bL.toNat:Nat):Int)))])]),(7,[(1,.b false)]),(9,[(2,.z (IntKind.u8.wrap ((BitVec.ofInt IntKind.u8.bits (((bL.toNat:Nat):Int)) &&& BitVec.ofInt IntKind.u8.bits (127)).toNat:Int))),(3,.z (IntKind.u64.wrap (IntKind.u8.wrap ((BitVec.ofInt IntKind.u8.bits (((bL.toNat:Nat):Int)) &&& BitVec.ofInt IntKind.u8.bits (127)).toNat:Int)))),(5,.z (((7*i:Nat):Int))),(6,.z (IntKind.u64.wrap ((IntKind.u64.wrap (IntKind.u8.wrap ((BitVec.ofInt IntKind.u8.bits (((bL.toNat:Nat):Int)) &&& BitVec.ofInt IntKind.u8.bits (127)).toNat:Int)):Int)*2 ^ (min (((7*i:Nat):Int):Int).toNat IntKind.u64.bits)))),(7,.z (fw i x bL))]),(10,[(1,.b true)]),(11,[(1,.b false)]),(13,[(2,.z (((i+1:Nat):Int)))])] 2000 [0] r (by kernel_rfl) (U h0 (U (aC ((i:Nat):Int)) (U (jF cX) (U h1 (U aM (U br (U cT (U dx (U ((by first | decide | omega):(0:Int)≤((7*i:Nat):Int)) (U dQ (U h2 (U h3 (U ((wi (by omega)):IntKind.i64.wrap ((((i:Nat):Int):Int)+1)=((i+1:Nat):Int)) trivial)))))))))))))
    | true=>
     have dP:=eq_of_beq h3
     cases h4:(decide ((0:Int)<((i:Nat):Int))) with
     | false=>
      have fa:=of_decide_eq_false h4
      refine bq (y:=.tu [.d (.v (.int .u64 (fw i x bL))),.n (i+1)]) (N':=[.bx 108 [.d (.ro 1 (ae l)),.d (.v (.bool false))]]) ((by first | exact (dm (aq.none (by omega))) | exact (dm (aq.wide cX (by omega) (by omega))) | exact (dm (aq.zero cX (by rintro ⟨_,_⟩;omega) (by omega) (by omega))) | exact (dm (aq.last cX (by rintro ⟨_,_⟩;omega) (by omega) (by rintro ⟨_,_⟩;omega))))) (rfl) ?_
      exact bp tk mo hK rfl ao [(5,[(0,.b true)]),(6,[(1,.ix (i) [.v (.int .u8 (((bL.toNat:Nat):Int)))])]),(7,[(1,.b false)]),(9,[(2,.z (IntKind.u8.wrap ((BitVec.ofInt IntKind.u8.bits (((bL.toNat:Nat):Int)) &&& BitVec.ofInt IntKind.u8.bits (127)).toNat:Int))),(3,.z (IntKind.u64.wrap (IntKind.u8.wrap ((BitVec.ofInt IntKind.u8.bits (((bL.toNat:Nat):Int)) &&& BitVec.ofInt IntKind.u8.bits (127)).toNat:Int)))),(5,.z (((7*i:Nat):Int))),(6,.z (IntKind.u64.wrap ((IntKind.u64.wrap (IntKind.u8.wrap ((BitVec.ofInt IntKind.u8.bits (((bL.toNat:Nat):Int)) &&& BitVec.ofInt IntKind.u8.bits (127)).toNat:Int)):Int)*2 ^ (min (((7*i:Nat):Int):Int).toNat IntKind.u64.bits)))),(7,.z (fw i x bL))]),(10,[(1,.b true)]),(11,[(1,.b true),(4,.b false)]),(13,[(2,.z (((i+1:Nat):Int)))])] 2000 [0] r (by kernel_rfl) (U h0 (U (aC ((i:Nat):Int)) (U (jF cX) (U h1 (U aM (U br (U cT (U dx (U ((by first | decide | omega):(0:Int)≤((7*i:Nat):Int)) (U dQ (U h2 (U h3 (U h4 (U ((wi (by omega)):IntKind.i64.wrap ((((i:Nat):Int):Int)+1)=((i+1:Nat):Int)) trivial))))))))))))))
     | true=>
      have fa:=of_decide_eq_true h4
      refine bq (y:=.tu [.d (.v (.int .u64 0)),.z 0]) (N':=[.bx 108 [.d (.ro 1 (ae l)),.d (.v (.bool false))]]) ((by first | exact (dm (aq.none (by omega))) | exact (dm (aq.wide cX (by omega) (by omega))) | exact (dm (aq.zero cX (by rintro ⟨_,_⟩;omega) (by omega) (by omega))) | exact (dm (aq.last cX (by rintro ⟨_,_⟩;omega) (by omega) (by rintro ⟨_,_⟩;omega))))) (rfl) ?_
      exact bp tk mo hK rfl ao [(5,[(0,.b true)]),(6,[(1,.ix (i) [.v (.int .u8 (((bL.toNat:Nat):Int)))])]),(7,[(1,.b false)]),(9,[(2,.z (IntKind.u8.wrap ((BitVec.ofInt IntKind.u8.bits (((bL.toNat:Nat):Int)) &&& BitVec.ofInt IntKind.u8.bits (127)).toNat:Int))),(3,.z (IntKind.u64.wrap (IntKind.u8.wrap ((BitVec.ofInt IntKind.u8.bits (((bL.toNat:Nat):Int)) &&& BitVec.ofInt IntKind.u8.bits (127)).toNat:Int)))),(5,.z (((7*i:Nat):Int))),(6,.z (IntKind.u64.wrap ((IntKind.u64.wrap (IntKind.u8.wrap ((BitVec.ofInt IntKind.u8.bits (((bL.toNat:Nat):Int)) &&& BitVec.ofInt IntKind.u8.bits (127)).toNat:Int)):Int)*2 ^ (min (((7*i:Nat):Int):Int).toNat IntKind.u64.bits)))),(7,.z (fw i x bL))]),(10,[(1,.b true)]),(11,[(1,.b true),(4,.b true)])] 2000 [0] r (by kernel_rfl) (U h0 (U (aC ((i:Nat):Int)) (U (jF cX) (U h1 (U aM (U br (U cT (U dx (U ((by first | decide | omega):(0:Int)≤((7*i:Nat):Int)) (U dQ (U h2 (U h3 (U h4 trivial)))))))))))))
  | true=>
   have bP:=eq_of_beq h1
   cases h5:(decide ((1:Int)<((bL.toNat:Nat):Int))) with
   | false=>
    have fb:=of_decide_eq_false h5
    have fc:=(rfl:IntKind.u8.wrap ((BitVec.ofInt IntKind.u8.bits (((bL.toNat:Nat):Int)) &&& BitVec.ofInt IntKind.u8.bits (127)).toNat:Int)=IntKind.u8.wrap ((BitVec.ofInt IntKind.u8.bits (((bL.toNat:Nat):Int)) &&& BitVec.ofInt IntKind.u8.bits (127)).toNat:Int))
    have dE:=(rfl:IntKind.u64.wrap (IntKind.u8.wrap ((BitVec.ofInt IntKind.u8.bits (((bL.toNat:Nat):Int)) &&& BitVec.ofInt IntKind.u8.bits (127)).toNat:Int))=IntKind.u64.wrap (IntKind.u8.wrap ((BitVec.ofInt IntKind.u8.bits (((bL.toNat:Nat):Int)) &&& BitVec.ofInt IntKind.u8.bits (127)).toNat:Int)))
    have dF:=((wi (by omega)):IntKind.i64.wrap ((7:Int)*((i:Nat):Int))=((7*i:Nat):Int))
    have eK:=(rfl:IntKind.u64.wrap ((IntKind.u64.wrap (IntKind.u8.wrap ((BitVec.ofInt IntKind.u8.bits (((bL.toNat:Nat):Int)) &&& BitVec.ofInt IntKind.u8.bits (127)).toNat:Int)):Int)*2 ^ (min (((7*i:Nat):Int):Int).toNat IntKind.u64.bits))=IntKind.u64.wrap ((IntKind.u64.wrap (IntKind.u8.wrap ((BitVec.ofInt IntKind.u8.bits (((bL.toNat:Nat):Int)) &&& BitVec.ofInt IntKind.u8.bits (127)).toNat:Int)):Int)*2 ^ (min (((7*i:Nat):Int):Int).toNat IntKind.u64.bits)))
    have gG:=(rfl:IntKind.u64.wrap ((BitVec.ofInt IntKind.u64.bits (x) ||| BitVec.ofInt IntKind.u64.bits (IntKind.u64.wrap ((IntKind.u64.wrap (IntKind.u8.wrap ((BitVec.ofInt IntKind.u8.bits (((bL.toNat:Nat):Int)) &&& BitVec.ofInt IntKind.u8.bits (127)).toNat:Int)):Int)*2 ^ (min (((7*i:Nat):Int):Int).toNat IntKind.u64.bits)))).toNat:Int)=fw i x bL)
    cases h6:(decide ((((bL.toNat:Nat):Int):Int)<128)) with
    | false=>
     have fL:=of_decide_eq_false h6
     exact cQ (todo':=hd Tryz.f91 0) tk mo hK ao [(5,[(0,.b true)]),(6,[(1,.ix (i) [.v (.int .u8 (((bL.toNat:Nat):Int)))])]),(7,[(1,.b true),(4,.b false)]),(9,[(2,.z (IntKind.u8.wrap ((BitVec.ofInt IntKind.u8.bits (((bL.toNat:Nat):Int)) &&& BitVec.ofInt IntKind.u8.bits (127)).toNat:Int))),(3,.z (IntKind.u64.wrap (IntKind.u8.wrap ((BitVec.ofInt IntKind.u8.bits (((bL.toNat:Nat):Int)) &&& BitVec.ofInt IntKind.u8.bits (127)).toNat:Int)))),(5,.z (((7*i:Nat):Int))),(6,.z (IntKind.u64.wrap ((IntKind.u64.wrap (IntKind.u8.wrap ((BitVec.ofInt IntKind.u8.bits (((bL.toNat:Nat):Int)) &&& BitVec.ofInt IntKind.u8.bits (127)).toNat:Int)):Int)*2 ^ (min (((7*i:Nat):Int):Int).toNat IntKind.u64.bits)))),(7,.z (fw i x bL))]),(10,[(1,.b false)]),(14,[(0,.z (((i+1:Nat):Int)))])] 2000 [0] [14,15,16,4] r (by kernel_rfl) (U h0 (U (aC ((i:Nat):Int)) (U (jF cX) (U h1 (U h5 (U fc (U dE (U dF (U eK (U ((by first | decide | omega):(0:Int)≤((7*i:Nat):Int)) (U gG (U h6 (U ((wi (by omega)):IntKind.i64.wrap ((((i:Nat):Int):Int)+1)=((i+1:Nat):Int)) trivial))))))))))))) fun ac wd r=>bH (by omega) ac wd ⟨fw i x bL,aq.next cX (by rintro ⟨_,_⟩;omega) (by omega),r⟩
    | true=>
     have fL:=of_decide_eq_true h6
     cases h7:((((bL.toNat:Nat):Int):Int)==0) with
     | false=>
      have eh:=ne_of_beq_false h7
      refine bq (y:=.tu [.d (.v (.int .u64 (fw i x bL))),.n (i+1)]) (N':=[.bx 108 [.d (.ro 1 (ae l)),.d (.v (.bool false))]]) ((by first | exact (dm (aq.none (by omega))) | exact (dm (aq.wide cX (by omega) (by omega))) | exact (dm (aq.zero cX (by rintro ⟨_,_⟩;omega) (by omega) (by omega))) | exact (dm (aq.last cX (by rintro ⟨_,_⟩;omega) (by omega) (by rintro ⟨_,_⟩;omega))))) (rfl) ?_
      exact bp tk mo hK rfl ao [(5,[(0,.b true)]),(6,[(1,.ix (i) [.v (.int .u8 (((bL.toNat:Nat):Int)))])]),(7,[(1,.b true),(4,.b false)]),(9,[(2,.z (IntKind.u8.wrap ((BitVec.ofInt IntKind.u8.bits (((bL.toNat:Nat):Int)) &&& BitVec.ofInt IntKind.u8.bits (127)).toNat:Int))),(3,.z (IntKind.u64.wrap (IntKind.u8.wrap ((BitVec.ofInt IntKind.u8.bits (((bL.toNat:Nat):Int)) &&& BitVec.ofInt IntKind.u8.bits (127)).toNat:Int)))),(5,.z (((7*i:Nat):Int))),(6,.z (IntKind.u64.wrap ((IntKind.u64.wrap (IntKind.u8.wrap ((BitVec.ofInt IntKind.u8.bits (((bL.toNat:Nat):Int)) &&& BitVec.ofInt IntKind.u8.bits (127)).toNat:Int)):Int)*2 ^ (min (((7*i:Nat):Int):Int).toNat IntKind.u64.bits)))),(7,.z (fw i x bL))]),(10,[(1,.b true)]),(11,[(1,.b false)]),(13,[(2,.z (((i+1:Nat):Int)))])] 2000 [0] r (by kernel_rfl) (U h0 (U (aC ((i:Nat):Int)) (U (jF cX) (U h1 (U h5 (U fc (U dE (U dF (U eK (U ((by first | decide | omega):(0:Int)≤((7*i:Nat):Int)) (U gG (U h6 (U h7 (U ((wi (by omega)):IntKind.i64.wrap ((((i:Nat):Int):Int)+1)=((i+1:Nat):Int)) trivial))))))))))))))
     | true=>
      have eh:=eq_of_beq h7
      cases h8:(decide ((0:Int)<((i:Nat):Int))) with
      | false=>
       have fM:=of_decide_eq_false h8
       refine bq (y:=.tu [.d (.v (.int .u64 (fw i x bL))),.n (i+1)]) (N':=[.bx 108 [.d (.ro 1 (ae l)),.d (.v (.bool false))]]) ((by first | exact (dm (aq.none (by omega))) | exact (dm (aq.wide cX (by omega) (by omega))) | exact (dm (aq.zero cX (by rintro ⟨_,_⟩;omega) (by omega) (by omega))) | exact (dm (aq.last cX (by rintro ⟨_,_⟩;omega) (by omega) (by rintro ⟨_,_⟩;omega))))) (rfl) ?_
       exact bp tk mo hK rfl ao [(5,[(0,.b true)]),(6,[(1,.ix (i) [.v (.int .u8 (((bL.toNat:Nat):Int)))])]),(7,[(1,.b true),(4,.b false)]),(9,[(2,.z (IntKind.u8.wrap ((BitVec.ofInt IntKind.u8.bits (((bL.toNat:Nat):Int)) &&& BitVec.ofInt IntKind.u8.bits (127)).toNat:Int))),(3,.z (IntKind.u64.wrap (IntKind.u8.wrap ((BitVec.ofInt IntKind.u8.bits (((bL.toNat:Nat):Int)) &&& BitVec.ofInt IntKind.u8.bits (127)).toNat:Int)))),(5,.z (((7*i:Nat):Int))),(6,.z (IntKind.u64.wrap ((IntKind.u64.wrap (IntKind.u8.wrap ((BitVec.ofInt IntKind.u8.bits (((bL.toNat:Nat):Int)) &&& BitVec.ofInt IntKind.u8.bits (127)).toNat:Int)):Int)*2 ^ (min (((7*i:Nat):Int):Int).toNat IntKind.u64.bits)))),(7,.z (fw i x bL))]),(10,[(1,.b true)]),(11,[(1,.b true),(4,.b false)]),(13,[(2,.z (((i+1:Nat):Int)))])] 2000 [0] r (by kernel_rfl) (U h0 (U (aC ((i:Nat):Int)) (U (jF cX) (U h1 (U h5 (U fc (U dE (U dF (U eK (U ((by first | decide | omega):(0:Int)≤((7*i:Nat):Int)) (U gG (U h6 (U h7 (U h8 (U ((wi (by omega)):IntKind.i64.wrap ((((i:Nat):Int):Int)+1)=((i+1:Nat):Int)) trivial)))))))))))))))
      | true=>
       have fM:=of_decide_eq_true h8
       refine bq (y:=.tu [.d (.v (.int .u64 0)),.z 0]) (N':=[.bx 108 [.d (.ro 1 (ae l)),.d (.v (.bool false))]]) ((by first | exact (dm (aq.none (by omega))) | exact (dm (aq.wide cX (by omega) (by omega))) | exact (dm (aq.zero cX (by rintro ⟨_,_⟩;omega) (by omega) (by omega))) | exact (dm (aq.last cX (by rintro ⟨_,_⟩;omega) (by omega) (by rintro ⟨_,_⟩;omega))))) (rfl) ?_
       exact bp tk mo hK rfl ao [(5,[(0,.b true)]),(6,[(1,.ix (i) [.v (.int .u8 (((bL.toNat:Nat):Int)))])]),(7,[(1,.b true),(4,.b false)]),(9,[(2,.z (IntKind.u8.wrap ((BitVec.ofInt IntKind.u8.bits (((bL.toNat:Nat):Int)) &&& BitVec.ofInt IntKind.u8.bits (127)).toNat:Int))),(3,.z (IntKind.u64.wrap (IntKind.u8.wrap ((BitVec.ofInt IntKind.u8.bits (((bL.toNat:Nat):Int)) &&& BitVec.ofInt IntKind.u8.bits (127)).toNat:Int)))),(5,.z (((7*i:Nat):Int))),(6,.z (IntKind.u64.wrap ((IntKind.u64.wrap (IntKind.u8.wrap ((BitVec.ofInt IntKind.u8.bits (((bL.toNat:Nat):Int)) &&& BitVec.ofInt IntKind.u8.bits (127)).toNat:Int)):Int)*2 ^ (min (((7*i:Nat):Int):Int).toNat IntKind.u64.bits)))),(7,.z (fw i x bL))]),(10,[(1,.b true)]),(11,[(1,.b true),(4,.b true)])] 2000 [0] r (by kernel_rfl) (U h0 (U (aC ((i:Nat):Int)) (U (jF cX) (U h1 (U h5 (U fc (U dE (U dF (U eK (U ((by first | decide | omega):(0:Int)≤((7*i:Nat):Int)) (U gG (U h6 (U h7 (U h8 trivial))))))))))))))
   | true=>
    have fb:=of_decide_eq_true h5
    refine bq (y:=.tu [.d (.v (.int .u64 0)),.z 0]) (N':=[.bx 108 [.d (.ro 1 (ae l)),.d (.v (.bool false))]]) ((by first | exact (dm (aq.none (by omega))) | exact (dm (aq.wide cX (by omega) (by omega))) | exact (dm (aq.zero cX (by rintro ⟨_,_⟩;omega) (by omega) (by omega))) | exact (dm (aq.last cX (by rintro ⟨_,_⟩;omega) (by omega) (by rintro ⟨_,_⟩;omega))))) (rfl) ?_
    exact bp tk mo hK rfl ao [(5,[(0,.b true)]),(6,[(1,.ix (i) [.v (.int .u8 (((bL.toNat:Nat):Int)))])]),(7,[(1,.b true),(4,.b true)])] 2000 [0] r (by kernel_rfl) (U h0 (U (aC ((i:Nat):Int)) (U (jF cX) (U h1 (U h5 trivial)))))
theorem aE.nil {P:Program} {f:FuncId} {args:List AV} {M M':List ai} {k:Nat} (h:aE P f args M (.d (.v (.slice none 0 0))) M'):aE P f args M (.d (.ro k [])) M':=by
 refine ⟨h.1,fun ys R hK hl hr=>(h.2 ys R hK hl hr).mono ?_⟩
 rintro e w' ⟨v,rfl,aB,F',I',R',e1,hI,ha⟩
 refine ⟨v,rfl,aB,F',I',R',e1,hI,?_⟩
 cases ha with
 | d hd=>
  cases hd with
  | v=>exact .d (.ro (fun _=>[]) (by simp) ⟨none,0,rfl,Nat.le_refl _⟩ (fun w hw=>⟨by simp [lay],Or.inl ⟨rfl,none,0,rfl⟩⟩) (by simp))
def j1 (l:List UInt8) (b:Bool) (z:Int):Prop:=b=true∨z<0∨(l.length:Int)<z
instance {l:List UInt8} {b:Bool} {z:Int}:Decidable (j1 l b z):=by unfold j1;infer_instance
def aT (l:List UInt8) (b:Bool) (z:Int):List UInt8:=if j1 l b z then [] else l.take z.toNat
def eA (l:List UInt8) (b:Bool) (z:Int):List UInt8:=if j1 l b z then l else l.drop z.toNat
def eM (l:List UInt8) (b:Bool) (z:Int):Bool:=if j1 l b z then true else false
def iB (l:List UInt8) (b:Bool):List ai:=[.bx 108 [.d (.ro 1 (ae l)),.d (.v (.bool b))]]
theorem nA:c9 Tryz.prog 61:=by unfold c9;kernel_rfl
theorem ve (l:List UInt8) (b:Bool) (z:Int):aE Tryz.prog 92 [.pt 0 0,.z z] (iB l b) (.d (.ro 1 (ae (aT l b z)))) (iB (eA l b z) (eM l b z)):=by
 unfold aT eA eM
 by_cases h:j1 l b z
 ·rw [if_pos h,if_pos h,if_pos h]
  cases b with
  | true=>exact (IK l z).nil
  | false=>
   rcases h.resolve_left (by decide) with h1 | h1
   ·exact (IJ l z h1).nil
   ·obtain ⟨n,rfl⟩:=Int.eq_ofNat_of_zero_le (show 0≤z by omega)
    exact (Hj l n (by omega)).nil
 ·rw [if_neg h,if_neg h,if_neg h]
  unfold j1 at h
  obtain ⟨n,rfl⟩:=Int.eq_ofNat_of_zero_le (show 0≤z by omega)
  cases b with
  | true=>exact absurd (Or.inl rfl) h
  | false=>exact II l n (by omega)
def fe (l:List UInt8) (b:Bool):Int×Nat:=if b=true then (0,0) else gT l 0 0
theorem Bz (l:List UInt8) (b:Bool):aE Tryz.prog 91 [.pt 0 0] (iB l b) (.tu [.d (.v (.int .u64 (fe l b).1)),.n (fe l b).2]) (iB l b):=by
 cases b with
 | true=>exact JY l
 | false=>exact Lz l
theorem BA {l:List UInt8} {b:Bool} {z:Int}:(eA l b z).length≤l.length:=by unfold eA;split<;>simp
def pE (l:List UInt8) (b:Bool):List UInt8:=if (fe l b).2=0 then l else eA l b (fe l b).2
def rr (l:List UInt8) (b:Bool):Bool:=if (fe l b).2=0 then true else eM l b (fe l b).2
def n9 (l:List UInt8) (b:Bool):Int:=if (fe l b).2=0 then 0 else (fe l b).1
theorem JZ {l:List UInt8} {b:Bool}:(pE l b).length≤l.length:=by unfold pE;split<;>first | exact Nat.le_refl _ | exact BA
set_option maxRecDepth 100000 in
theorem IL (l:List UInt8) (b:Bool):aE Tryz.prog 64 [.pt 0 0] [.bx 108 [.d (.ro 1 (ae l)),.d (.v (.bool b))]] (.d (.v (.int .u64 (n9 l b)))) (iB (pE l b) (rr l b)):=by
 refine aE.intro (by kernel_rfl) rfl rfl 26 rfl rfl fun D w0 K bs ac wd hK (ao:bs.m=1) r=>?_
 cases h0:(((((fe l b).2:Nat):Int):Int)==0) with
 | false=>
  have a7:=ne_of_beq_false h0
  refine bq (y:=.d (.v (.int .u64 ((fe l b).1)))) (N':=[.bx 108 [.d (.ro 1 (ae (eA l b (fe l b).2))),.d (.v (.bool ((eM l b (fe l b).2))))]]) ((by unfold n9;first | rw [if_pos (by omega)] | rw [if_neg (by omega)])) ((by unfold pE rr;first | (rw [if_pos (by omega),if_pos (by omega)];rfl) | (rw [if_neg (by omega),if_neg (by omega)];rfl))) ?_
  exact bp tk mo hK rfl ao [(3,[(3,.mem [0] (.tu [.d (.v (.int .u64 ((fe l b).1))),.n ((fe l b).2)]) [.bx 108 [.d (.ro 1 (ae l)),.d (.v (.bool b))]])]),(4,[(1,.b false)]),(7,[(4,.mem [0] (.d (.ro 1 (ae (aT l b (fe l b).2)))) [.bx 108 [.d (.ro 1 (ae (eA l b (fe l b).2))),.d (.v (.bool ((eM l b (fe l b).2))))]])])] 2000 [0] r (by kernel_rfl) (U (nA:c9 Tryz.prog 61) (U (Bz l b) (U h0 (U (ve l b (fe l b).2) trivial))))
 | true=>
  have a7:=eq_of_beq h0
  refine bq (y:=.d (.v (.int .u64 0))) (N':=[.bx 108 [.d (.ro 1 (ae l)),.d (.v (.bool true))]]) ((by unfold n9;first | rw [if_pos (by omega)] | rw [if_neg (by omega)])) ((by unfold pE rr;first | (rw [if_pos (by omega),if_pos (by omega)];rfl) | (rw [if_neg (by omega),if_neg (by omega)];rfl))) ?_
  exact bp tk mo hK rfl ao [(3,[(3,.mem [0] (.tu [.d (.v (.int .u64 ((fe l b).1))),.n ((fe l b).2)]) [.bx 108 [.d (.ro 1 (ae l)),.d (.v (.bool b))]])]),(4,[(1,.b true)])] 2000 [0] r (by kernel_rfl) (U (nA:c9 Tryz.prog 61) (U (Bz l b) (U h0 trivial)))
set_option maxRecDepth 100000 in
theorem A5 (l:List UInt8) (b:Bool):aE Tryz.prog 35 [.pt 0 0] [.bx 108 [.d (.ro 1 (ae l)),.d (.v (.bool b))]] (.n l.length) ([.bx 108 [.d (.ro 1 (ae l)),.d (.v (.bool b))]]):=by
 refine aE.intro (by kernel_rfl) rfl rfl 11 rfl rfl fun D w0 K bs ac wd hK (ao:bs.m=1) r=>?_
 refine bq (y:=.n l.length) (N':=[.bx 108 [.d (.ro 1 (ae l)),.d (.v (.bool b))]]) (rfl) (rfl) ?_
 exact bp tk mo hK rfl ao [(3,[(5,.z (((l.length:Nat):Int)))])] 2000 [0] r (by kernel_rfl) (U (nA:c9 Tryz.prog 61) (U ((by first | rfl | simp [ae,ah,ints,steps,strs]):(((ae l).length:Nat):Int)=((l.length:Nat):Int)) trivial))
set_option maxRecDepth 100000 in
theorem Hk (l:List UInt8):aE Tryz.prog 34 [.pt 0 0] [.bx 108 [.d (.ro 1 (ae l)),.d (.v (.bool true))]] (.z 3) ([.bx 108 [.d (.ro 1 (ae l)),.d (.v (.bool true))]]):=by
 refine aE.intro (by kernel_rfl) rfl rfl 12 rfl rfl fun D w0 K bs ac wd hK (ao:bs.m=1) r=>?_
 refine bq (y:=.z 3) (N':=[.bx 108 [.d (.ro 1 (ae l)),.d (.v (.bool true))]]) (rfl) (rfl) ?_
 exact bp tk mo hK rfl ao [] 2000 [0] r (by kernel_rfl) (U (nA:c9 Tryz.prog 61) trivial)
set_option maxRecDepth 100000 in
theorem FP (l:List UInt8):aE Tryz.prog 34 [.pt 0 0] [.bx 108 [.d (.ro 1 (ae l)),.d (.v (.bool false))]] (.z 0) ([.bx 108 [.d (.ro 1 (ae l)),.d (.v (.bool false))]]):=by
 refine aE.intro (by kernel_rfl) rfl rfl 12 rfl rfl fun D w0 K bs ac wd hK (ao:bs.m=1) r=>?_
 refine bq (y:=.z 0) (N':=[.bx 108 [.d (.ro 1 (ae l)),.d (.v (.bool false))]]) (rfl) (rfl) ?_
 exact bp tk mo hK rfl ao [] 2000 [0] r (by kernel_rfl) (U (nA:c9 Tryz.prog 61) trivial)
theorem vY (l:List UInt8) (b:Bool):aE Tryz.prog 34 [.pt 0 0] (iB l b) (.z (if b=true then 3 else 0)) (iB l b):=by
 cases b with
 | true=>exact Hk l
 | false=>exact FP l
set_option maxRecDepth 100000 in
theorem uh (l:List UInt8) (hb:l.length<2147483648):aE Tryz.prog 32 [.d (.ro 1 (ae l))] [] (.pt 0 0) (iB l false):=by
 refine aE.intro (by kernel_rfl) rfl rfl 8 rfl rfl fun D w0 K bs ac wd hK (ao:bs.m=0) r=>?_
 refine bq (y:=.pt 0 0) (N':=[.bx 108 [.d (.ro 1 (ae l)),.d (.v (.bool false))]]) (rfl) (rfl) ?_
 exact bp tk mo hK rfl ao [(1,[(1,.au (.ro 1 (ae l)))])] 2000 [0] r (by kernel_rfl) (U (zR l hb) trivial)
end Go.Proofs.YtcnpikbbmbombaaGreatDoor
namespace Go.Proofs.YtcnpikbbmbombaaGreatDoor
open Go.RowKit
def DC (i:Nat) (y x:Int):Int:=IntKind.u64.wrap ((BitVec.ofInt IntKind.u64.bits x ||| BitVec.ofInt IntKind.u64.bits (IntKind.u64.wrap (IntKind.u64.wrap y*2 ^ (min ((8*i:Nat):Int).toNat IntKind.u64.bits)))).toNat:Int)
theorem IM {i:Nat} {y x:Nat} (hi:i<8) (hy:y<256) (hx:x<256 ^ i):DC i (y:Int) (x:Int)=((x+y*256 ^ i:Nat):Int):=by
 have p8:(256:Nat) ^ i=2 ^ (8*i):=by rw [Nat.pow_mul]
 have hle:y*256 ^ i+256 ^ i≤256 ^ (i+1):=by
  rw [Nat.pow_succ,Nat.mul_comm (256 ^ i) 256]
  have:=Nat.mul_le_mul_right (256 ^ i) (show y+1≤256 by omega)
  rw [Nat.add_mul,Nat.one_mul] at this;exact this
 have Pw:(256:Nat) ^ (i+1)≤256 ^ 8:=Nat.pow_le_pow_right (by decide) (by omega)
 have e8:(256:Nat) ^ 8=18446744073709551616:=by decide
 have w1:IntKind.u64.wrap (y:Int)=(y:Int):=by simp [IntKind.wrap,IntKind.signed,IntKind.bits];omega
 have o8:(min ((8*i:Nat):Int).toNat IntKind.u64.bits)=8*i:=by simp [IntKind.bits];omega
 have hm:((y:Int)*2 ^ (8*i))=((y*256 ^ i:Nat):Int):=by rw [p8];push_cast;rfl
 unfold DC
 rw [w1,o8,hm]
 have w2:IntKind.u64.wrap ((y*256 ^ i:Nat):Int)=((y*256 ^ i:Nat):Int):=by
  generalize y*256 ^ i=q at *
  simp [IntKind.wrap,IntKind.signed,IntKind.bits];omega
 rw [w2]
 have h1:(BitVec.ofInt 64 (x:Int) ||| BitVec.ofInt 64 ((y*256 ^ i:Nat):Int)).toNat=x+y*256 ^ i:=by
  rw [BitVec.toNat_or]
  have a1:(BitVec.ofInt 64 (x:Int)).toNat=x:=by
   have:x<18446744073709551616:=by omega
   rw [BitVec.ofInt_natCast,BitVec.toNat_ofNat];omega
  have a2:(BitVec.ofInt 64 ((y*256 ^ i:Nat):Int)).toNat=y*256 ^ i:=by
   have:y*256 ^ i<18446744073709551616:=by omega
   rw [BitVec.ofInt_natCast,BitVec.toNat_ofNat];omega
  rw [a1,a2,p8,Nat.mul_comm y,Nat.or_comm,← Nat.two_pow_add_eq_or_of_lt (by rw [← p8];exact hx)];omega
 show IntKind.u64.wrap ((BitVec.ofInt 64 (x:Int) ||| BitVec.ofInt 64 ((y*256 ^ i:Nat):Int)).toNat:Int)=_
 rw [h1]
 generalize x+y*256 ^ i=q at *
 simp [IntKind.wrap,IntKind.signed,IntKind.bits];omega
def fu (X:List UInt8):Nat→Nat
 | 0=>0
 | i+1=>fu X i+(X.getD i 0).toNat*256 ^ i
def bD (X:List UInt8) (i:Nat):DV:=.v (.int .u8 (((X.getD i 0).toNat:Nat):Int))
theorem BB (X:List UInt8):∀ i,fu X i<256 ^ i
 | 0=>Nat.one_pos
 | i+1=>by
  have h:=BB X i
  have hb:=(X.getD i 0).toNat_lt
  have:=Nat.mul_le_mul_right (256 ^ i) (show (X.getD i 0).toNat+1≤256 by omega)
  rw [fu,Nat.pow_succ];rw [Nat.add_mul,Nat.one_mul] at this;omega
theorem Ar {l:List UInt8} {k:Nat} (h:l.length≤k):l.getD k 0=0:=by rw [List.getD_eq_getElem?_getD,List.getElem?_eq_none h];rfl
theorem LA:∀ X:List UInt8,X.length≤8→List.take (min (ae X).length 8*1) (List.map AV.d (List.flatten (ae X)))++List.drop (List.take (min (ae X).length 8*1) (List.map AV.d (List.flatten (ae X)))).length ([.d (.v (.int .u8 0)),.d (.v (.int .u8 0)),.d (.v (.int .u8 0)),.d (.v (.int .u8 0)),.d (.v (.int .u8 0)),.d (.v (.int .u8 0)),.d (.v (.int .u8 0)),.d (.v (.int .u8 0))]:List AV)=List.map AV.d [bD X 0,bD X 1,bD X 2,bD X 3,bD X 4,bD X 5,bD X 6,bD X 7]
 | [],_=>rfl | [_],_=>rfl | [_,_],_=>rfl | [_,_,_],_=>rfl | [_,_,_,_],_=>rfl | [_,_,_,_,_],_=>rfl | [_,_,_,_,_,_],_=>rfl | [_,_,_,_,_,_,_],_=>rfl | [_,_,_,_,_,_,_,_],_=>rfl
 | _::_::_::_::_::_::_::_::_::_,h=>by simp at h
theorem LB (X:List UInt8):∀ {i:Nat},i<8→nX tb 5 ([bD X 0,bD X 1,bD X 2,bD X 3,bD X 4,bD X 5,bD X 6,bD X 7].map AV.d) (i*1)=some (.d (bD X i))
 | 0,_=>by kernel_rfl | 1,_=>by kernel_rfl | 2,_=>by kernel_rfl | 3,_=>by kernel_rfl | 4,_=>by kernel_rfl | 5,_=>by kernel_rfl | 6,_=>by kernel_rfl | 7,_=>by kernel_rfl
 | _+8,h=>by omega
theorem vZ (l:List UInt8) (b:Bool) (n:Nat):(aT l b n).length≤n:=by unfold aT;split;exact Nat.zero_le _;simp;omega
set_option maxRecDepth 100000 in
theorem BC (l:List UInt8) (b:Bool) (n:Nat) (hn:n≤8):aE Tryz.prog 90 [.pt 0 0,.n n] [.bx 108 [.d (.ro 1 (ae l)),.d (.v (.bool b))]] (.u (fu (aT l b n) 8)) (iB (eA l b n) (eM l b n)):=by
 refine aE.intro (by kernel_rfl) rfl rfl 32 rfl rfl fun D w0 K bs ac wd hK (ao:bs.m=1) r=>?_
 refine cQ (todo':=hd Tryz.f90 0) (E':=[(6,.u (fu (aT l b n) 0)),(18,.ag [.d (bD (aT l b n) 0),.d (bD (aT l b n) 1),.d (bD (aT l b n) 2),.d (bD (aT l b n) 3),.d (bD (aT l b n) 4),.d (bD (aT l b n) 5),.d (bD (aT l b n) 6),.d (bD (aT l b n) 7)]),(19,.n 0)]) (M':=[.bx 108 [.d (.ro 1 (ae (eA l b n))),.d (.v (.bool ((eM l b n))))]]) tk mo hK ao [(3,[(0,.b true)]),(4,[(5,.mem [0] (.d (.ro 1 (ae (aT l b n)))) [.bx 108 [.d (.ro 1 (ae (eA l b n))),.d (.v (.bool ((eM l b n))))]]),(6,.res (.ag [bD (aT l b n) 0,bD (aT l b n) 1,bD (aT l b n) 2,bD (aT l b n) 3,bD (aT l b n) 4,bD (aT l b n) 5,bD (aT l b n) 6,bD (aT l b n) 7]))])] 2000 [0] [6,18,19] r (by kernel_rfl) (U (nA:c9 Tryz.prog 61) (U (ve l b n) (U ((by simp [aD,AV.one,bf,ae]):aD (ae (aT l b n))) (U ((LA (aT l b n) (Nat.le_trans (vZ l b n) hn)):(List.take (min (ae (aT l b n)).length 8*1) (List.map AV.d (List.flatten (ae (aT l b n)))))++List.drop (List.take (min (ae (aT l b n)).length 8*1) (List.map AV.d (List.flatten (ae (aT l b n))))).length ([.d (.v (.int .u8 0)),.d (.v (.int .u8 0)),.d (.v (.int .u8 0)),.d (.v (.int .u8 0)),.d (.v (.int .u8 0)),.d (.v (.int .u8 0)),.d (.v (.int .u8 0)),.d (.v (.int .u8 0))]:List AV)=List.map AV.d [bD (aT l b n) 0,bD (aT l b n) 1,bD (aT l b n) 2,bD (aT l b n) 3,bD (aT l b n) 4,bD (aT l b n) 5,bD (aT l b n) 6,bD (aT l b n) 7]) trivial)))) fun ac wd r=>?_
 refine aF.rounds (Φ:=fun (i:Nat) ac wd=>(i≤8)∧RB D w0 K 32 bs [(6,.u (fu (aT l b n) i)),(18,.ag [.d (bD (aT l b n) 0),.d (bD (aT l b n) 1),.d (bD (aT l b n) 2),.d (bD (aT l b n) 3),.d (bD (aT l b n) 4),.d (bD (aT l b n) 5),.d (bD (aT l b n) 6),.d (bD (aT l b n) 7)]),(19,.n i)] [.bx 108 [.d (.ro 1 (ae (eA l b n))),.d (.v (.bool ((eM l b n))))]] ac wd) (8) ?_ (Nat.zero_le _) ⟨(Nat.zero_le _),r⟩
 clear r
 rintro i dw bH ac wd ⟨aq,r⟩
 cases h0:(decide ((((i:Nat):Int):Int)<8)) with
 | false=>
  have a7:=of_decide_eq_false h0
  refine bq (y:=.u (fu (aT l b n) i)) (N':=[.bx 108 [.d (.ro 1 (ae (eA l b n))),.d (.v (.bool ((eM l b n))))]]) ((by rw [show i=8 by omega])) (rfl) ?_
  exact bp tk mo hK rfl ao [(7,[(0,.b false)])] 2000 [0] r (by kernel_rfl) (U h0 trivial)
 | true=>
  have a7:=of_decide_eq_true h0
  exact cQ (todo':=hd Tryz.f90 0) tk mo hK ao [(7,[(0,.b true)]),(8,[(1,.ix (i) [.v (.int .u8 (((((aT l b n).getD i 0).toNat:Nat):Int)))])]),(9,[(2,.z (IntKind.u64.wrap ((((aT l b n).getD i 0).toNat:Nat):Int))),(4,.z (((8*i:Nat):Int))),(5,.z (IntKind.u64.wrap (IntKind.u64.wrap ((((aT l b n).getD i 0).toNat:Nat):Int)*2 ^ (min ((8*i:Nat):Int).toNat IntKind.u64.bits)))),(6,.z (((fu (aT l b n) (i+1):Nat):Int)))]),(10,[(0,.z (((i+1:Nat):Int)))])] 2000 [0] [6,18,19] r (by kernel_rfl) (U h0 (U (aC ((i:Nat):Int)) (U ((by first | omega | decide | (simp;done) | (simp;omega)):(i)<8) (U ((LB (aT l b n) (by omega)):nX tb 5 [.d (bD (aT l b n) 0),.d (bD (aT l b n) 1),.d (bD (aT l b n) 2),.d (bD (aT l b n) 3),.d (bD (aT l b n) 4),.d (bD (aT l b n) 5),.d (bD (aT l b n) 6),.d (bD (aT l b n) 7)] ((i)*1)=some (.d (.v (.int .u8 (((((aT l b n).getD i 0).toNat:Nat):Int)))))) (U (rfl:IntKind.u64.wrap (((((aT l b n).getD i 0).toNat:Nat):Int))=IntKind.u64.wrap ((((aT l b n).getD i 0).toNat:Nat):Int)) (U ((wi (by omega)):IntKind.i64.wrap ((8:Int)*((i:Nat):Int))=((8*i:Nat):Int)) (U (rfl:IntKind.u64.wrap ((IntKind.u64.wrap ((((aT l b n).getD i 0).toNat:Nat):Int):Int)*2 ^ (min (((8*i:Nat):Int):Int).toNat IntKind.u64.bits))=IntKind.u64.wrap (IntKind.u64.wrap ((((aT l b n).getD i 0).toNat:Nat):Int)*2 ^ (min ((8*i:Nat):Int).toNat IntKind.u64.bits))) (U ((by first | decide | omega):(0:Int)≤((8*i:Nat):Int)) (U ((IM (by omega) (UInt8.toNat_lt _) (BB _ _)):IntKind.u64.wrap ((BitVec.ofInt IntKind.u64.bits (((fu (aT l b n) i:Nat):Int)) ||| BitVec.ofInt IntKind.u64.bits (IntKind.u64.wrap (IntKind.u64.wrap ((((aT l b n).getD i 0).toNat:Nat):Int)*2 ^ (min ((8*i:Nat):Int).toNat IntKind.u64.bits)))).toNat:Int)=((fu (aT l b n) (i+1):Nat):Int)) (U ((wi (by omega)):IntKind.i64.wrap ((((i:Nat):Int):Int)+1)=((i+1:Nat):Int)) trivial)))))))))) fun ac wd r=>bH (by omega) ac wd ⟨(by omega),r⟩
theorem xc {X:List UInt8} {n:Nat} (h:X.length≤n):∀ k,fu X (n+k)=fu X n
 | 0=>rfl
 | k+1=>by rw [← Nat.add_assoc,fu,xc h k,Ar (by omega)];simp
theorem LC {X:List UInt8} (h:X.length≤1):fu X 8=(X.getD 0 0).toNat:=by rw [xc (n:=1) h 7];simp [fu]
theorem LD {X:List UInt8} (h:X.length≤2):fu X 8=(X.getD 0 0).toNat+(X.getD 1 0).toNat*256:=by rw [xc (n:=2) h 6];simp [fu]
theorem w8 {z:Int} (h:0≤z∧z≤255):IntKind.u8.wrap z=z:=by simp [IntKind.wrap,IntKind.signed,IntKind.bits];omega
theorem Oj {z:Int} (h:0≤z∧z≤65535):IntKind.u16.wrap z=z:=by simp [IntKind.wrap,IntKind.signed,IntKind.bits];omega
set_option maxRecDepth 100000 in
theorem DD (l:List UInt8) (b:Bool):aE Tryz.prog 62 [.pt 0 0] [.bx 108 [.d (.ro 1 (ae l)),.d (.v (.bool b))]] (.d (.v (.int .u8 ((((aT l b 1).getD 0 0).toNat:Nat):Int)))) (iB (eA l b 1) (eM l b 1)):=by
 refine aE.intro (by kernel_rfl) rfl rfl 6 rfl rfl fun D w0 K bs ac wd hK (ao:bs.m=1) r=>?_
 refine bq (y:=.d (.v (.int .u8 (((((aT l b 1).getD 0 0).toNat:Nat):Int))))) (N':=[.bx 108 [.d (.ro 1 (ae (eA l b 1))),.d (.v (.bool ((eM l b 1))))]]) (rfl) (rfl) ?_
 exact bp tk mo hK rfl ao [(1,[(1,.mem [0] (.u (fu (aT l b 1) 8)) [.bx 108 [.d (.ro 1 (ae (eA l b 1))),.d (.v (.bool ((eM l b 1))))]]),(2,.z (((((aT l b 1).getD 0 0).toNat:Nat):Int)))])] 2000 [0] r (by kernel_rfl) (U (BC l b 1 (by decide)) (U ((by rw [LC (X:=aT l b 1) (vZ l b 1)];exact w8 (by have:=((aT l b 1).getD 0 0).toNat_lt;have:=((aT l b 1).getD 1 0).toNat_lt;omega)):IntKind.u8.wrap (((fu (aT l b 1) 8:Nat):Int))=((((aT l b 1).getD 0 0).toNat:Nat):Int)) trivial))
set_option maxRecDepth 100000 in
theorem M9 (l:List UInt8) (b:Bool):aE Tryz.prog 63 [.pt 0 0] [.bx 108 [.d (.ro 1 (ae l)),.d (.v (.bool b))]] (.d (.v (.int .u16 (((((aT l b 2).getD 0 0).toNat+((aT l b 2).getD 1 0).toNat*256):Nat):Int)))) (iB (eA l b 2) (eM l b 2)):=by
 refine aE.intro (by kernel_rfl) rfl rfl 6 rfl rfl fun D w0 K bs ac wd hK (ao:bs.m=1) r=>?_
 refine bq (y:=.d (.v (.int .u16 ((((((aT l b 2).getD 0 0).toNat+((aT l b 2).getD 1 0).toNat*256):Nat):Int))))) (N':=[.bx 108 [.d (.ro 1 (ae (eA l b 2))),.d (.v (.bool ((eM l b 2))))]]) (rfl) (rfl) ?_
 exact bp tk mo hK rfl ao [(1,[(1,.mem [0] (.u (fu (aT l b 2) 8)) [.bx 108 [.d (.ro 1 (ae (eA l b 2))),.d (.v (.bool ((eM l b 2))))]]),(2,.z ((((((aT l b 2).getD 0 0).toNat+((aT l b 2).getD 1 0).toNat*256):Nat):Int)))])] 2000 [0] r (by kernel_rfl) (U (BC l b 2 (by decide)) (U ((by rw [LD (X:=aT l b 2) (vZ l b 2)];exact Oj (by have:=((aT l b 2).getD 0 0).toNat_lt;have:=((aT l b 2).getD 1 0).toNat_lt;omega)):IntKind.u16.wrap (((fu (aT l b 2) 8:Nat):Int))=(((((aT l b 2).getD 0 0).toNat+((aT l b 2).getD 1 0).toNat*256):Nat):Int)) trivial))
end Go.Proofs.YtcnpikbbmbombaaGreatDoor
namespace Go.Proofs.YtcnpikbbmbombaaGreatDoor
open Go.RowKit
theorem oa {a b:List UInt8} (h:a=b) (r:List ai):(ai.rw 91 1 [[.em 5 1 (ae a)]]::r)=ai.rw 91 1 [[.em 5 1 (ae b)]]::r:=by rw [h]
def di (l:List (Int×Int)):List UInt8:=l.flatMap fun x=>[bz x.1,bz x.2]
def bV (c:bN):List UInt8:=[bz c.az]++[bz ((c.ah.length:Nat):Int)]++di c.ah++[bz ((c.homes.length:Nat):Int)]++c.homes.map bz
def fI (x:jZ) (s:aL):List UInt8:=(if x.node then [bz s.node] else [])++(if x.peer then [bz s.peer] else [])++(if x.n then [bz s.n] else [])++(if x.bit then [bz s.bit,bz (s.bit / 256)] else [])++(if x.inc then cM s.inc else [])++(if x.body then bz ((s.body.length:Nat):Int)::s.body else [])
def bd (s:aL):List UInt8:=bz s.kind::fI (af s.kind.toNat) s
theorem qx {α:Type} {b:Bool} {l:List α} {n:Nat} (h:l.length≤n):(if b=true then l else []).length≤n:=by split;exact h;exact Nat.zero_le _
theorem cK (l:List (Int×Int)):(di l).length=2*l.length:=by
 unfold di;induction l with
 | nil=>rfl
 | cons x r ih=>rw [List.flatMap_cons,List.length_append,ih];simp;omega
theorem zT {l:List (Int×Int)} {i:Nat} {x:Int×Int} (h:l[i]?=some x):di (l.take (i+1))=di (l.take i)++[bz x.1,bz x.2]:=by
 unfold di;rw [List.take_add_one,h];simp
theorem zw {l:List Int} {i:Nat} {x:Int} (h:l[i]?=some x):(l.take (i+1)).map bz=(l.take i).map bz++[bz x]:=by
 rw [List.take_add_one,h];simp
theorem zx:∀ (k x:Nat),x<128 ^ (k+1)→(cM x).length≤k+1
 | 0,x,h=>by rw [rK (by omega)];simp
 | k+1,x,h=>by
  by_cases hx:x<128
  ·rw [rK hx];simp
  ·rw [ug hx]
   have:=zx k (x / 128) (by rw [Nat.div_lt_iff_lt_mul (by decide),← Nat.pow_succ];exact h)
   simp;omega
theorem aH {x:Nat} (h:x<18446744073709551616):(cM x).length≤10:=zx 9 x (Nat.lt_of_lt_of_le h (by decide))
theorem Na {z:Int} (h:0≤z) (h2:z≤65535):IntKind.u16.wrap z=((z.toNat:Nat):Int):=by
 simp [IntKind.wrap,IntKind.signed,IntKind.bits];omega
set_option maxRecDepth 100000 in
theorem J0 (l:List UInt8) (c:bN) (hl:l.length≤16777216) (hc:c.ah.length≤1048576) (hh:c.homes.length≤1048576):aE Tryz.prog 23 [.ep 0 1 (0) 0,.ag [.z c.az,.d (.ro 2 (ah c.ah)),.d (.ro 1 (ints c.homes))]] [.rw 91 1 ([[.em 5 1 (ae l)]])] (.tu []) (iZ (l++bV c)):=by
 refine aE.intro (by kernel_rfl) rfl rfl 55 rfl rfl fun D w0 K bs ac wd hK (ao:bs.m=1) r=>?_
 refine cQ (todo':=hd Tryz.f23 0) (E':=[(0,.ep 0 1 (0) 0),(3,.pt 1 0),(20,.d (.ro 2 (ah c.ah))),(21,.n c.ah.length),(22,.z 0)]) (M':=[.rw 91 1 ([[.em 5 1 (ae ((l++[(bz c.az)])++[(bz ((c.ah.length:Nat):Int))]))]]),.bx 25 [.z c.az,.d (.ro 2 (ah c.ah)),.d (.ro 1 (ints c.homes))]]) tk mo hK ao [(1,[(3,.z ((((bz c.az).toNat:Nat):Int))),(4,.mem [0] (.tu []) [.rw 91 1 ([[.em 5 1 (ae (l++[(bz c.az)]))]])])]),(2,[(3,.z (((c.ah.length:Nat):Int))),(4,.z ((((bz ((c.ah.length:Nat):Int)).toNat:Nat):Int))),(5,.mem [0] (.tu []) [.rw 91 1 ([[.em 5 1 (ae ((l++[(bz c.az)])++[(bz ((c.ah.length:Nat):Int))]))]])])]),(3,[(2,.z (((c.ah.length:Nat):Int)))])] 2000 [0,1] [0,3,20,21,22] r (by kernel_rfl) (U ((bQ _):IntKind.u8.wrap (c.az)=(((bz c.az).toNat:Nat):Int)) (U (kt l (bz c.az) (by first | omega | (simp [cK,aH];omega))) (U ((by first | rfl | simp [ae,ah,ints,steps,strs]):(((ah c.ah).length:Nat):Int)=((c.ah.length:Nat):Int)) (U ((bQ _):IntKind.u8.wrap (((c.ah.length:Nat):Int))=(((bz ((c.ah.length:Nat):Int)).toNat:Nat):Int)) (U (kt (l++[(bz c.az)]) (bz ((c.ah.length:Nat):Int)) (by first | omega | (simp [cK,aH];omega))) (U ((by first | rfl | simp [ae,ah,ints,steps,strs]):(((ah c.ah).length:Nat):Int)=((c.ah.length:Nat):Int)) trivial)))))) fun ac wd r=>?_
 refine aF.rounds (Φ:=fun (i:Nat) ac wd=>(True)∧RB D w0 K 55 bs [(0,.ep 0 1 (0) 0),(3,.pt 1 0),(20,.d (.ro 2 (ah c.ah))),(21,.n c.ah.length),(22,.n i)] [.rw 91 1 ([[.em 5 1 (ae (l++[bz c.az]++[bz ((c.ah.length:Nat):Int)]++di (c.ah.take i)))]]),.bx 25 [.z c.az,.d (.ro 2 (ah c.ah)),.d (.ro 1 (ints c.homes))]] ac wd) (c.ah.length) ?_ (Nat.zero_le _) ⟨trivial,(r).cast rfl (oa (by simp [di]) _)⟩
 clear r
 rintro i dw bH ac wd ⟨aq,r⟩
 cases h0:(decide ((((i:Nat):Int):Int)<((c.ah.length:Nat):Int))) with
 | false=>
  have a7:=of_decide_eq_false h0
  refine cQ (todo':=hd Tryz.f23 1) (E':=[(0,.ep 0 1 (0) 0),(3,.pt 1 0),(44,.d (.ro 1 (ints c.homes))),(45,.n c.homes.length),(46,.z 0)]) (M':=[.rw 91 1 ([[.em 5 1 (ae ((l++[bz c.az]++[bz ((c.ah.length:Nat):Int)]++di (c.ah.take i))++[(bz ((c.homes.length:Nat):Int))]))]]),.bx 25 [.z c.az,.d (.ro 2 (ah c.ah)),.d (.ro 1 (ints c.homes))]]) tk mo hK ao [(4,[(0,.b false)]),(9,[(3,.z (((c.homes.length:Nat):Int))),(4,.z ((((bz ((c.homes.length:Nat):Int)).toNat:Nat):Int))),(5,.mem [0] (.tu []) [.rw 91 1 ([[.em 5 1 (ae ((l++[bz c.az]++[bz ((c.ah.length:Nat):Int)]++di (c.ah.take i))++[(bz ((c.homes.length:Nat):Int))]))]])])]),(10,[(2,.z (((c.homes.length:Nat):Int)))])] 2000 [0,1] [0,3,44,45,46] r (by kernel_rfl) (U h0 (U ((by first | rfl | simp [ae,ah,ints,steps,strs]):(((ints c.homes).length:Nat):Int)=((c.homes.length:Nat):Int)) (U ((bQ _):IntKind.u8.wrap (((c.homes.length:Nat):Int))=(((bz ((c.homes.length:Nat):Int)).toNat:Nat):Int)) (U (kt (l++[bz c.az]++[bz ((c.ah.length:Nat):Int)]++di (c.ah.take i)) (bz ((c.homes.length:Nat):Int)) (by first | omega | (simp [cK,aH];omega))) (U ((by first | rfl | simp [ae,ah,ints,steps,strs]):(((ints c.homes).length:Nat):Int)=((c.homes.length:Nat):Int)) trivial))))) fun ac wd r=>?_
  refine aF.rounds (Φ:=fun (i:Nat) ac wd=>(True)∧RB D w0 K 55 bs [(0,.ep 0 1 (0) 0),(3,.pt 1 0),(44,.d (.ro 1 (ints c.homes))),(45,.n c.homes.length),(46,.n i)] [.rw 91 1 ([[.em 5 1 (ae (l++[bz c.az]++[bz ((c.ah.length:Nat):Int)]++di c.ah++[bz ((c.homes.length:Nat):Int)]++(c.homes.take i).map bz))]]),.bx 25 [.z c.az,.d (.ro 2 (ah c.ah)),.d (.ro 1 (ints c.homes))]] ac wd) (c.homes.length) ?_ (Nat.zero_le _) ⟨trivial,(r).cast rfl (oa (by rw [List.take_of_length_le (by omega)];simp) _)⟩
  clear r
  rintro i n8 fU ac wd ⟨ea,r⟩
  cases h1:(decide ((((i:Nat):Int):Int)<((c.homes.length:Nat):Int))) with
  | false=>
   have bP:=of_decide_eq_false h1
   refine bq (y:=.tu []) (N':=[.rw 91 1 ([[.em 5 1 (ae (l++[bz c.az]++[bz ((c.ah.length:Nat):Int)]++di c.ah++[bz ((c.homes.length:Nat):Int)]++(c.homes.take i).map bz))]])]) (rfl) ((oa (by rw [List.take_of_length_le (by omega)];simp [bV]) [])) ?_
   exact bp tk mo hK rfl ao [(11,[(0,.b false)])] 2000 [0] r (by kernel_rfl) (U h1 trivial)
  | true=>
   have bP:=of_decide_eq_true h1
   obtain ⟨cW,cr⟩:∃ x_,c.homes[i]?=some x_:=⟨_,List.getElem?_eq_getElem (by omega)⟩
   exact cQ (todo':=hd Tryz.f23 1) (E':=[(0,.ep 0 1 (0) 0),(3,.pt 1 0),(44,.d (.ro 1 (ints c.homes))),(45,.n c.homes.length),(46,.n (i+1))]) (M':=[.rw 91 1 ([[.em 5 1 (ae ((l++[bz c.az]++[bz ((c.ah.length:Nat):Int)]++di c.ah++[bz ((c.homes.length:Nat):Int)]++(c.homes.take i).map bz)++[(bz cW)]))]]),.bx 25 [.z c.az,.d (.ro 2 (ah c.ah)),.d (.ro 1 (ints c.homes))]]) tk mo hK ao [(11,[(0,.b true)]),(12,[(0,.ix (i) [.z cW])]),(13,[(2,.z ((((bz cW).toNat:Nat):Int))),(3,.mem [0] (.tu []) [.rw 91 1 ([[.em 5 1 (ae ((l++[bz c.az]++[bz ((c.ah.length:Nat):Int)]++di c.ah++[bz ((c.homes.length:Nat):Int)]++(c.homes.take i).map bz)++[(bz cW)]))]])])]),(14,[(0,.z (((i+1:Nat):Int)))])] 2000 [0,1] [0,3,44,45,46] r (by kernel_rfl) (U h1 (U (aC ((i:Nat):Int)) (U (ints_at cr) (U ((bQ _):IntKind.u8.wrap (cW)=(((bz cW).toNat:Nat):Int)) (U (kt (l++[bz c.az]++[bz ((c.ah.length:Nat):Int)]++di c.ah++[bz ((c.homes.length:Nat):Int)]++(c.homes.take i).map bz) (bz cW) (by first | omega | (simp [cK,aH];omega))) (U ((wi (by omega)):IntKind.i64.wrap ((((i:Nat):Int):Int)+1)=((i+1:Nat):Int)) trivial)))))) fun ac wd r=>fU (by omega) ac wd ⟨trivial,r.cast rfl (oa (by rw [zw cr];simp) _)⟩
 | true=>
  have a7:=of_decide_eq_true h0
  obtain ⟨aA,a8⟩:∃ x_,c.ah[i]?=some x_:=⟨_,List.getElem?_eq_getElem (by omega)⟩
  exact cQ (todo':=hd Tryz.f23 0) (E':=[(0,.ep 0 1 (0) 0),(3,.pt 1 0),(20,.d (.ro 2 (ah c.ah))),(21,.n c.ah.length),(22,.n (i+1))]) (M':=[.rw 91 1 ([[.em 5 1 (ae (((l++[bz c.az]++[bz ((c.ah.length:Nat):Int)]++di (c.ah.take i))++[(bz aA.1)])++[(bz aA.2)]))]]),.bx 25 [.z c.az,.d (.ro 2 (ah c.ah)),.d (.ro 1 (ints c.homes))]]) tk mo hK ao [(4,[(0,.b true)]),(5,[(0,.ix (i) [.z aA.1,.z aA.2])]),(6,[(1,.n 0),(3,.z ((((bz aA.1).toNat:Nat):Int))),(4,.mem [0] (.tu []) [.rw 91 1 ([[.em 5 1 (ae ((l++[bz c.az]++[bz ((c.ah.length:Nat):Int)]++di (c.ah.take i))++[(bz aA.1)]))]])])]),(7,[(1,.n 1),(3,.z ((((bz aA.2).toNat:Nat):Int))),(4,.mem [0] (.tu []) [.rw 91 1 ([[.em 5 1 (ae (((l++[bz c.az]++[bz ((c.ah.length:Nat):Int)]++di (c.ah.take i))++[(bz aA.1)])++[(bz aA.2)]))]])])]),(8,[(0,.z (((i+1:Nat):Int)))])] 2000 [0,1] [0,3,20,21,22] r (by kernel_rfl) (U h0 (U (aC ((i:Nat):Int)) (U (cP a8) (U (rfl:(0)=((0:Nat):Int)) (U ((by omega):(0)<2) (U ((bQ _):IntKind.u8.wrap (aA.1)=(((bz aA.1).toNat:Nat):Int)) (U (kt (l++[bz c.az]++[bz ((c.ah.length:Nat):Int)]++di (c.ah.take i)) (bz aA.1) (by first | omega | (simp [cK,aH];omega))) (U (rfl:(1)=((1:Nat):Int)) (U ((by omega):(1)<2) (U ((bQ _):IntKind.u8.wrap (aA.2)=(((bz aA.2).toNat:Nat):Int)) (U (kt ((l++[bz c.az]++[bz ((c.ah.length:Nat):Int)]++di (c.ah.take i))++[(bz aA.1)]) (bz aA.2) (by first | omega | (simp [cK,aH];omega))) (U ((wi (by omega)):IntKind.i64.wrap ((((i:Nat):Int):Int)+1)=((i+1:Nat):Int)) trivial)))))))))))) fun ac wd r=>bH (by omega) ac wd ⟨trivial,r.cast rfl (oa (by rw [zT a8];simp) _)⟩
set_option maxRecDepth 100000 in
theorem FQ (l:List UInt8) (s:aL) (hl:l.length≤16777216) (hb:s.body.length≤255) (hi:s.inc<18446744073709551616) (eo:0≤s.bit) (fK:s.bit≤65535) (k0:0≤s.kind) (k1:s.kind<14):aE Tryz.prog 26 [.ep 0 1 (0) 0,.ag [.z s.kind,.z s.node,.z s.peer,.z s.n,.z s.bit,.u s.inc,.d (.ro 1 (ae s.body))]] [.rw 91 1 ([[.em 5 1 (ae l)]]),.gw 0 aj] (.tu []) ([.rw 91 1 [[.em 5 1 (ae (l++bd s))]],.gw 0 aj]):=by
 refine aE.intro (by kernel_rfl) rfl rfl 60 rfl rfl fun D w0 K bs ac wd hK (ao:bs.m=2) r=>?_
 refine b6 (todo':=aft Tryz.f26 3) (E':=[(0,.ep 0 1 (0) 0),(3,.pt 2 0),(4,.pt 3 0),(15,.d (.v (.bool ((af s.kind.toNat).node))))]) (M':=[.rw 91 1 ([[.em 5 1 (ae (l++[(bz s.kind)]))]]),.gw 0 aj,.bx 42 [.z s.kind,.z s.node,.z s.peer,.z s.n,.z s.bit,.u s.inc,.d (.ro 1 (ae s.body))],.bx 94 [.d (.v (.string ⟨((af s.kind.toNat).word).toArray⟩)),.d (.v (.bool ((af s.kind.toNat).node))),.d (.v (.bool ((af s.kind.toNat).peer))),.d (.v (.bool ((af s.kind.toNat).n))),.d (.v (.bool ((af s.kind.toNat).bit))),.d (.v (.bool ((af s.kind.toNat).inc))),.d (.v (.bool ((af s.kind.toNat).body)))]]) tk mo hK ao [(1,[(2,.ix (s.kind.toNat) [.v (.string ⟨((af s.kind.toNat).word).toArray⟩),.v (.bool ((af s.kind.toNat).node)),.v (.bool ((af s.kind.toNat).peer)),.v (.bool ((af s.kind.toNat).n)),.v (.bool ((af s.kind.toNat).bit)),.v (.bool ((af s.kind.toNat).inc)),.v (.bool ((af s.kind.toNat).body))])]),(2,[(3,.z ((((bz s.kind).toNat:Nat):Int))),(4,.mem [0] (.tu []) [.rw 91 1 ([[.em 5 1 (ae (l++[(bz s.kind)]))]])])])] 9 [0,1,2,3] [0,3,4,15] r (by kernel_rfl) (U ((by omega):(s.kind)=((s.kind.toNat:Nat):Int)) (U ((by omega):(s.kind.toNat)<14) (U (np (by omega):List.take 7 (List.drop ((s.kind.toNat)*7) (aj:List DV))=([.v (.string ⟨((af s.kind.toNat).word).toArray⟩),.v (.bool ((af s.kind.toNat).node)),.v (.bool ((af s.kind.toNat).peer)),.v (.bool ((af s.kind.toNat).n)),.v (.bool ((af s.kind.toNat).bit)),.v (.bool ((af s.kind.toNat).inc)),.v (.bool ((af s.kind.toNat).body))]:List DV)) (U ((bQ _):IntKind.u8.wrap (s.kind)=(((bz s.kind).toNat:Nat):Int)) (U (kt l (bz s.kind) (by first | omega | (simp [cK,aH];omega))) trivial))))) fun ac wd r=>?_
 suffices J5:∀ ac wd,RB D w0 K 60 bs [(0,.ep 0 1 (0) 0),(3,.pt 2 0),(4,.pt 3 0),(22,.d (.v (.bool ((af s.kind.toNat).peer))))] [.rw 91 1 ([[.em 5 1 (ae (l++[bz s.kind]++(if (af s.kind.toNat).node=true then [bz s.node] else [])))]]),.gw 0 aj,.bx 42 [.z s.kind,.z s.node,.z s.peer,.z s.n,.z s.bit,.u s.inc,.d (.ro 1 (ae s.body))],.bx 94 [.d (.v (.string ⟨((af s.kind.toNat).word).toArray⟩)),.d (.v (.bool ((af s.kind.toNat).node))),.d (.v (.bool ((af s.kind.toNat).peer))),.d (.v (.bool ((af s.kind.toNat).n))),.d (.v (.bool ((af s.kind.toNat).bit))),.d (.v (.bool ((af s.kind.toNat).inc))),.d (.v (.bool ((af s.kind.toNat).body)))]] ac wd→aF Tryz.prog 26 (aft Tryz.f26 5) (eZ D w0 K bs (.tu []) ([.rw 91 1 [[.em 5 1 (ae (l++bd s))]],.gw 0 aj])) ac wd by
  cases h0:((af s.kind.toNat).node) with
  | false=>
   have r:=r.cast (E':=[(0,.ep 0 1 (0) 0),(3,.pt 2 0),(4,.pt 3 0),(15,.d (.v (.bool false)))]) (M':=[.rw 91 1 ([[.em 5 1 (ae (l++[(bz s.kind)]))]]),.gw 0 aj,.bx 42 [.z s.kind,.z s.node,.z s.peer,.z s.n,.z s.bit,.u s.inc,.d (.ro 1 (ae s.body))],.bx 94 [.d (.v (.string ⟨((af s.kind.toNat).word).toArray⟩)),.d (.v (.bool false)),.d (.v (.bool ((af s.kind.toNat).peer))),.d (.v (.bool ((af s.kind.toNat).n))),.d (.v (.bool ((af s.kind.toNat).bit))),.d (.v (.bool ((af s.kind.toNat).inc))),.d (.v (.bool ((af s.kind.toNat).body)))]]) (by rw [h0]) (by rw [h0])
   refine b6 (todo':=aft Tryz.f26 5) (E':=[(0,.ep 0 1 (0) 0),(3,.pt 2 0),(4,.pt 3 0),(22,.d (.v (.bool ((af s.kind.toNat).peer))))]) (M':=[.rw 91 1 ([[.em 5 1 (ae (l++[(bz s.kind)]))]]),.gw 0 aj,.bx 42 [.z s.kind,.z s.node,.z s.peer,.z s.n,.z s.bit,.u s.inc,.d (.ro 1 (ae s.body))],.bx 94 [.d (.v (.string ⟨((af s.kind.toNat).word).toArray⟩)),.d (.v (.bool false)),.d (.v (.bool ((af s.kind.toNat).peer))),.d (.v (.bool ((af s.kind.toNat).n))),.d (.v (.bool ((af s.kind.toNat).bit))),.d (.v (.bool ((af s.kind.toNat).inc))),.d (.v (.bool ((af s.kind.toNat).body)))]]) tk mo hK ao [] 5 [0,1,2,3] [0,3,4,22] r (by kernel_rfl) trivial fun ac wd r=>?_
   exact J5 ac wd (r.cast rfl (by rw [if_neg (ne_true_of_eq_false h0),h0]<;>simp [Int.max_eq_left eo]))
  | true=>
   have r:=r.cast (E':=[(0,.ep 0 1 (0) 0),(3,.pt 2 0),(4,.pt 3 0),(15,.d (.v (.bool true)))]) (M':=[.rw 91 1 ([[.em 5 1 (ae (l++[(bz s.kind)]))]]),.gw 0 aj,.bx 42 [.z s.kind,.z s.node,.z s.peer,.z s.n,.z s.bit,.u s.inc,.d (.ro 1 (ae s.body))],.bx 94 [.d (.v (.string ⟨((af s.kind.toNat).word).toArray⟩)),.d (.v (.bool true)),.d (.v (.bool ((af s.kind.toNat).peer))),.d (.v (.bool ((af s.kind.toNat).n))),.d (.v (.bool ((af s.kind.toNat).bit))),.d (.v (.bool ((af s.kind.toNat).inc))),.d (.v (.bool ((af s.kind.toNat).body)))]]) (by rw [h0]) (by rw [h0])
   refine b6 (todo':=aft Tryz.f26 5) (E':=[(0,.ep 0 1 (0) 0),(3,.pt 2 0),(4,.pt 3 0),(22,.d (.v (.bool ((af s.kind.toNat).peer))))]) (M':=[.rw 91 1 ([[.em 5 1 (ae ((l++[(bz s.kind)])++[(bz s.node)]))]]),.gw 0 aj,.bx 42 [.z s.kind,.z s.node,.z s.peer,.z s.n,.z s.bit,.u s.inc,.d (.ro 1 (ae s.body))],.bx 94 [.d (.v (.string ⟨((af s.kind.toNat).word).toArray⟩)),.d (.v (.bool true)),.d (.v (.bool ((af s.kind.toNat).peer))),.d (.v (.bool ((af s.kind.toNat).n))),.d (.v (.bool ((af s.kind.toNat).bit))),.d (.v (.bool ((af s.kind.toNat).inc))),.d (.v (.bool ((af s.kind.toNat).body)))]]) tk mo hK ao [(4,[(3,.z ((((bz s.node).toNat:Nat):Int))),(4,.mem [0] (.tu []) [.rw 91 1 ([[.em 5 1 (ae ((l++[(bz s.kind)])++[(bz s.node)]))]])])])] 5 [0,1,2,3] [0,3,4,22] r (by kernel_rfl) (U ((bQ _):IntKind.u8.wrap (s.node)=(((bz s.node).toNat:Nat):Int)) (U (kt (l++[(bz s.kind)]) (bz s.node) (by first | omega | (simp [cK,aH];omega))) trivial)) fun ac wd r=>?_
   exact J5 ac wd (r.cast rfl (by rw [if_pos h0,h0]<;>simp [Int.max_eq_left eo]))
 intro ac wd r
 have Ok:=qx (b:=(af s.kind.toNat).node) (l:=[bz s.node]) (n:=2) (by first | (simp;done) | exact aH hi)
 suffices J7:∀ ac wd,RB D w0 K 60 bs [(0,.ep 0 1 (0) 0),(3,.pt 2 0),(4,.pt 3 0),(29,.d (.v (.bool ((af s.kind.toNat).n))))] [.rw 91 1 ([[.em 5 1 (ae (l++[bz s.kind]++(if (af s.kind.toNat).node=true then [bz s.node] else [])++(if (af s.kind.toNat).peer=true then [bz s.peer] else [])))]]),.gw 0 aj,.bx 42 [.z s.kind,.z s.node,.z s.peer,.z s.n,.z s.bit,.u s.inc,.d (.ro 1 (ae s.body))],.bx 94 [.d (.v (.string ⟨((af s.kind.toNat).word).toArray⟩)),.d (.v (.bool ((af s.kind.toNat).node))),.d (.v (.bool ((af s.kind.toNat).peer))),.d (.v (.bool ((af s.kind.toNat).n))),.d (.v (.bool ((af s.kind.toNat).bit))),.d (.v (.bool ((af s.kind.toNat).inc))),.d (.v (.bool ((af s.kind.toNat).body)))]] ac wd→aF Tryz.prog 26 (aft Tryz.f26 7) (eZ D w0 K bs (.tu []) ([.rw 91 1 [[.em 5 1 (ae (l++bd s))]],.gw 0 aj])) ac wd by
  cases h1:((af s.kind.toNat).peer) with
  | false=>
   have r:=r.cast (E':=[(0,.ep 0 1 (0) 0),(3,.pt 2 0),(4,.pt 3 0),(22,.d (.v (.bool false)))]) (M':=[.rw 91 1 ([[.em 5 1 (ae (l++[bz s.kind]++(if (af s.kind.toNat).node=true then [bz s.node] else [])))]]),.gw 0 aj,.bx 42 [.z s.kind,.z s.node,.z s.peer,.z s.n,.z s.bit,.u s.inc,.d (.ro 1 (ae s.body))],.bx 94 [.d (.v (.string ⟨((af s.kind.toNat).word).toArray⟩)),.d (.v (.bool ((af s.kind.toNat).node))),.d (.v (.bool false)),.d (.v (.bool ((af s.kind.toNat).n))),.d (.v (.bool ((af s.kind.toNat).bit))),.d (.v (.bool ((af s.kind.toNat).inc))),.d (.v (.bool ((af s.kind.toNat).body)))]]) (by rw [h1]) (by rw [h1])
   refine b6 (todo':=aft Tryz.f26 7) (E':=[(0,.ep 0 1 (0) 0),(3,.pt 2 0),(4,.pt 3 0),(29,.d (.v (.bool ((af s.kind.toNat).n))))]) (M':=[.rw 91 1 ([[.em 5 1 (ae (l++[bz s.kind]++(if (af s.kind.toNat).node=true then [bz s.node] else [])))]]),.gw 0 aj,.bx 42 [.z s.kind,.z s.node,.z s.peer,.z s.n,.z s.bit,.u s.inc,.d (.ro 1 (ae s.body))],.bx 94 [.d (.v (.string ⟨((af s.kind.toNat).word).toArray⟩)),.d (.v (.bool ((af s.kind.toNat).node))),.d (.v (.bool false)),.d (.v (.bool ((af s.kind.toNat).n))),.d (.v (.bool ((af s.kind.toNat).bit))),.d (.v (.bool ((af s.kind.toNat).inc))),.d (.v (.bool ((af s.kind.toNat).body)))]]) tk mo hK ao [] 5 [0,1,2,3] [0,3,4,29] r (by kernel_rfl) trivial fun ac wd r=>?_
   exact J7 ac wd (r.cast rfl (by rw [if_neg (ne_true_of_eq_false h1),h1]<;>simp [Int.max_eq_left eo]))
  | true=>
   have r:=r.cast (E':=[(0,.ep 0 1 (0) 0),(3,.pt 2 0),(4,.pt 3 0),(22,.d (.v (.bool true)))]) (M':=[.rw 91 1 ([[.em 5 1 (ae (l++[bz s.kind]++(if (af s.kind.toNat).node=true then [bz s.node] else [])))]]),.gw 0 aj,.bx 42 [.z s.kind,.z s.node,.z s.peer,.z s.n,.z s.bit,.u s.inc,.d (.ro 1 (ae s.body))],.bx 94 [.d (.v (.string ⟨((af s.kind.toNat).word).toArray⟩)),.d (.v (.bool ((af s.kind.toNat).node))),.d (.v (.bool true)),.d (.v (.bool ((af s.kind.toNat).n))),.d (.v (.bool ((af s.kind.toNat).bit))),.d (.v (.bool ((af s.kind.toNat).inc))),.d (.v (.bool ((af s.kind.toNat).body)))]]) (by rw [h1]) (by rw [h1])
   refine b6 (todo':=aft Tryz.f26 7) (E':=[(0,.ep 0 1 (0) 0),(3,.pt 2 0),(4,.pt 3 0),(29,.d (.v (.bool ((af s.kind.toNat).n))))]) (M':=[.rw 91 1 ([[.em 5 1 (ae ((l++[bz s.kind]++(if (af s.kind.toNat).node=true then [bz s.node] else []))++[(bz s.peer)]))]]),.gw 0 aj,.bx 42 [.z s.kind,.z s.node,.z s.peer,.z s.n,.z s.bit,.u s.inc,.d (.ro 1 (ae s.body))],.bx 94 [.d (.v (.string ⟨((af s.kind.toNat).word).toArray⟩)),.d (.v (.bool ((af s.kind.toNat).node))),.d (.v (.bool true)),.d (.v (.bool ((af s.kind.toNat).n))),.d (.v (.bool ((af s.kind.toNat).bit))),.d (.v (.bool ((af s.kind.toNat).inc))),.d (.v (.bool ((af s.kind.toNat).body)))]]) tk mo hK ao [(6,[(3,.z ((((bz s.peer).toNat:Nat):Int))),(4,.mem [0] (.tu []) [.rw 91 1 ([[.em 5 1 (ae ((l++[bz s.kind]++(if (af s.kind.toNat).node=true then [bz s.node] else []))++[(bz s.peer)]))]])])])] 5 [0,1,2,3] [0,3,4,29] r (by kernel_rfl) (U ((bQ _):IntKind.u8.wrap (s.peer)=(((bz s.peer).toNat:Nat):Int)) (U (kt (l++[bz s.kind]++(if (af s.kind.toNat).node=true then [bz s.node] else [])) (bz s.peer) (by first | omega | (simp [cK,aH];omega))) trivial)) fun ac wd r=>?_
   exact J7 ac wd (r.cast rfl (by rw [if_pos h1,h1]<;>simp [Int.max_eq_left eo]))
 intro ac wd r
 have yL:=qx (b:=(af s.kind.toNat).peer) (l:=[bz s.peer]) (n:=2) (by first | (simp;done) | exact aH hi)
 suffices J9:∀ ac wd,RB D w0 K 60 bs [(0,.ep 0 1 (0) 0),(3,.pt 2 0),(4,.pt 3 0),(36,.d (.v (.bool ((af s.kind.toNat).bit))))] [.rw 91 1 ([[.em 5 1 (ae (l++[bz s.kind]++(if (af s.kind.toNat).node=true then [bz s.node] else [])++(if (af s.kind.toNat).peer=true then [bz s.peer] else [])++(if (af s.kind.toNat).n=true then [bz s.n] else [])))]]),.gw 0 aj,.bx 42 [.z s.kind,.z s.node,.z s.peer,.z s.n,.z s.bit,.u s.inc,.d (.ro 1 (ae s.body))],.bx 94 [.d (.v (.string ⟨((af s.kind.toNat).word).toArray⟩)),.d (.v (.bool ((af s.kind.toNat).node))),.d (.v (.bool ((af s.kind.toNat).peer))),.d (.v (.bool ((af s.kind.toNat).n))),.d (.v (.bool ((af s.kind.toNat).bit))),.d (.v (.bool ((af s.kind.toNat).inc))),.d (.v (.bool ((af s.kind.toNat).body)))]] ac wd→aF Tryz.prog 26 (aft Tryz.f26 9) (eZ D w0 K bs (.tu []) ([.rw 91 1 [[.em 5 1 (ae (l++bd s))]],.gw 0 aj])) ac wd by
  cases h2:((af s.kind.toNat).n) with
  | false=>
   have r:=r.cast (E':=[(0,.ep 0 1 (0) 0),(3,.pt 2 0),(4,.pt 3 0),(29,.d (.v (.bool false)))]) (M':=[.rw 91 1 ([[.em 5 1 (ae (l++[bz s.kind]++(if (af s.kind.toNat).node=true then [bz s.node] else [])++(if (af s.kind.toNat).peer=true then [bz s.peer] else [])))]]),.gw 0 aj,.bx 42 [.z s.kind,.z s.node,.z s.peer,.z s.n,.z s.bit,.u s.inc,.d (.ro 1 (ae s.body))],.bx 94 [.d (.v (.string ⟨((af s.kind.toNat).word).toArray⟩)),.d (.v (.bool ((af s.kind.toNat).node))),.d (.v (.bool ((af s.kind.toNat).peer))),.d (.v (.bool false)),.d (.v (.bool ((af s.kind.toNat).bit))),.d (.v (.bool ((af s.kind.toNat).inc))),.d (.v (.bool ((af s.kind.toNat).body)))]]) (by rw [h2]) (by rw [h2])
   refine b6 (todo':=aft Tryz.f26 9) (E':=[(0,.ep 0 1 (0) 0),(3,.pt 2 0),(4,.pt 3 0),(36,.d (.v (.bool ((af s.kind.toNat).bit))))]) (M':=[.rw 91 1 ([[.em 5 1 (ae (l++[bz s.kind]++(if (af s.kind.toNat).node=true then [bz s.node] else [])++(if (af s.kind.toNat).peer=true then [bz s.peer] else [])))]]),.gw 0 aj,.bx 42 [.z s.kind,.z s.node,.z s.peer,.z s.n,.z s.bit,.u s.inc,.d (.ro 1 (ae s.body))],.bx 94 [.d (.v (.string ⟨((af s.kind.toNat).word).toArray⟩)),.d (.v (.bool ((af s.kind.toNat).node))),.d (.v (.bool ((af s.kind.toNat).peer))),.d (.v (.bool false)),.d (.v (.bool ((af s.kind.toNat).bit))),.d (.v (.bool ((af s.kind.toNat).inc))),.d (.v (.bool ((af s.kind.toNat).body)))]]) tk mo hK ao [] 5 [0,1,2,3] [0,3,4,36] r (by kernel_rfl) trivial fun ac wd r=>?_
   exact J9 ac wd (r.cast rfl (by rw [if_neg (ne_true_of_eq_false h2),h2]<;>simp [Int.max_eq_left eo]))
  | true=>
   have r:=r.cast (E':=[(0,.ep 0 1 (0) 0),(3,.pt 2 0),(4,.pt 3 0),(29,.d (.v (.bool true)))]) (M':=[.rw 91 1 ([[.em 5 1 (ae (l++[bz s.kind]++(if (af s.kind.toNat).node=true then [bz s.node] else [])++(if (af s.kind.toNat).peer=true then [bz s.peer] else [])))]]),.gw 0 aj,.bx 42 [.z s.kind,.z s.node,.z s.peer,.z s.n,.z s.bit,.u s.inc,.d (.ro 1 (ae s.body))],.bx 94 [.d (.v (.string ⟨((af s.kind.toNat).word).toArray⟩)),.d (.v (.bool ((af s.kind.toNat).node))),.d (.v (.bool ((af s.kind.toNat).peer))),.d (.v (.bool true)),.d (.v (.bool ((af s.kind.toNat).bit))),.d (.v (.bool ((af s.kind.toNat).inc))),.d (.v (.bool ((af s.kind.toNat).body)))]]) (by rw [h2]) (by rw [h2])
   refine b6 (todo':=aft Tryz.f26 9) (E':=[(0,.ep 0 1 (0) 0),(3,.pt 2 0),(4,.pt 3 0),(36,.d (.v (.bool ((af s.kind.toNat).bit))))]) (M':=[.rw 91 1 ([[.em 5 1 (ae ((l++[bz s.kind]++(if (af s.kind.toNat).node=true then [bz s.node] else [])++(if (af s.kind.toNat).peer=true then [bz s.peer] else []))++[(bz s.n)]))]]),.gw 0 aj,.bx 42 [.z s.kind,.z s.node,.z s.peer,.z s.n,.z s.bit,.u s.inc,.d (.ro 1 (ae s.body))],.bx 94 [.d (.v (.string ⟨((af s.kind.toNat).word).toArray⟩)),.d (.v (.bool ((af s.kind.toNat).node))),.d (.v (.bool ((af s.kind.toNat).peer))),.d (.v (.bool true)),.d (.v (.bool ((af s.kind.toNat).bit))),.d (.v (.bool ((af s.kind.toNat).inc))),.d (.v (.bool ((af s.kind.toNat).body)))]]) tk mo hK ao [(8,[(3,.z ((((bz s.n).toNat:Nat):Int))),(4,.mem [0] (.tu []) [.rw 91 1 ([[.em 5 1 (ae ((l++[bz s.kind]++(if (af s.kind.toNat).node=true then [bz s.node] else [])++(if (af s.kind.toNat).peer=true then [bz s.peer] else []))++[(bz s.n)]))]])])])] 5 [0,1,2,3] [0,3,4,36] r (by kernel_rfl) (U ((bQ _):IntKind.u8.wrap (s.n)=(((bz s.n).toNat:Nat):Int)) (U (kt (l++[bz s.kind]++(if (af s.kind.toNat).node=true then [bz s.node] else [])++(if (af s.kind.toNat).peer=true then [bz s.peer] else [])) (bz s.n) (by first | omega | (simp [cK,aH];omega))) trivial)) fun ac wd r=>?_
   exact J9 ac wd (r.cast rfl (by rw [if_pos h2,h2]<;>simp [Int.max_eq_left eo]))
 intro ac wd r
 have Ol:=qx (b:=(af s.kind.toNat).n) (l:=[bz s.n]) (n:=2) (by first | (simp;done) | exact aH hi)
 suffices ru:∀ ac wd,RB D w0 K 60 bs [(0,.ep 0 1 (0) 0),(3,.pt 2 0),(4,.pt 3 0),(43,.d (.v (.bool ((af s.kind.toNat).inc))))] [.rw 91 1 ([[.em 5 1 (ae (l++[bz s.kind]++(if (af s.kind.toNat).node=true then [bz s.node] else [])++(if (af s.kind.toNat).peer=true then [bz s.peer] else [])++(if (af s.kind.toNat).n=true then [bz s.n] else [])++(if (af s.kind.toNat).bit=true then [bz s.bit,bz (s.bit / 256)] else [])))]]),.gw 0 aj,.bx 42 [.z s.kind,.z s.node,.z s.peer,.z s.n,.z s.bit,.u s.inc,.d (.ro 1 (ae s.body))],.bx 94 [.d (.v (.string ⟨((af s.kind.toNat).word).toArray⟩)),.d (.v (.bool ((af s.kind.toNat).node))),.d (.v (.bool ((af s.kind.toNat).peer))),.d (.v (.bool ((af s.kind.toNat).n))),.d (.v (.bool ((af s.kind.toNat).bit))),.d (.v (.bool ((af s.kind.toNat).inc))),.d (.v (.bool ((af s.kind.toNat).body)))]] ac wd→aF Tryz.prog 26 (aft Tryz.f26 11) (eZ D w0 K bs (.tu []) ([.rw 91 1 [[.em 5 1 (ae (l++bd s))]],.gw 0 aj])) ac wd by
  cases h3:((af s.kind.toNat).bit) with
  | false=>
   have r:=r.cast (E':=[(0,.ep 0 1 (0) 0),(3,.pt 2 0),(4,.pt 3 0),(36,.d (.v (.bool false)))]) (M':=[.rw 91 1 ([[.em 5 1 (ae (l++[bz s.kind]++(if (af s.kind.toNat).node=true then [bz s.node] else [])++(if (af s.kind.toNat).peer=true then [bz s.peer] else [])++(if (af s.kind.toNat).n=true then [bz s.n] else [])))]]),.gw 0 aj,.bx 42 [.z s.kind,.z s.node,.z s.peer,.z s.n,.z s.bit,.u s.inc,.d (.ro 1 (ae s.body))],.bx 94 [.d (.v (.string ⟨((af s.kind.toNat).word).toArray⟩)),.d (.v (.bool ((af s.kind.toNat).node))),.d (.v (.bool ((af s.kind.toNat).peer))),.d (.v (.bool ((af s.kind.toNat).n))),.d (.v (.bool false)),.d (.v (.bool ((af s.kind.toNat).inc))),.d (.v (.bool ((af s.kind.toNat).body)))]]) (by rw [h3]) (by rw [h3])
   refine b6 (todo':=aft Tryz.f26 11) (E':=[(0,.ep 0 1 (0) 0),(3,.pt 2 0),(4,.pt 3 0),(43,.d (.v (.bool ((af s.kind.toNat).inc))))]) (M':=[.rw 91 1 ([[.em 5 1 (ae (l++[bz s.kind]++(if (af s.kind.toNat).node=true then [bz s.node] else [])++(if (af s.kind.toNat).peer=true then [bz s.peer] else [])++(if (af s.kind.toNat).n=true then [bz s.n] else [])))]]),.gw 0 aj,.bx 42 [.z s.kind,.z s.node,.z s.peer,.z s.n,.z s.bit,.u s.inc,.d (.ro 1 (ae s.body))],.bx 94 [.d (.v (.string ⟨((af s.kind.toNat).word).toArray⟩)),.d (.v (.bool ((af s.kind.toNat).node))),.d (.v (.bool ((af s.kind.toNat).peer))),.d (.v (.bool ((af s.kind.toNat).n))),.d (.v (.bool false)),.d (.v (.bool ((af s.kind.toNat).inc))),.d (.v (.bool ((af s.kind.toNat).body)))]]) tk mo hK ao [] 5 [0,1,2,3] [0,3,4,43] r (by kernel_rfl) trivial fun ac wd r=>?_
   exact ru ac wd (r.cast rfl (by rw [if_neg (ne_true_of_eq_false h3),h3]<;>simp [Int.max_eq_left eo]))
  | true=>
   have r:=r.cast (E':=[(0,.ep 0 1 (0) 0),(3,.pt 2 0),(4,.pt 3 0),(36,.d (.v (.bool true)))]) (M':=[.rw 91 1 ([[.em 5 1 (ae (l++[bz s.kind]++(if (af s.kind.toNat).node=true then [bz s.node] else [])++(if (af s.kind.toNat).peer=true then [bz s.peer] else [])++(if (af s.kind.toNat).n=true then [bz s.n] else [])))]]),.gw 0 aj,.bx 42 [.z s.kind,.z s.node,.z s.peer,.z s.n,.z s.bit,.u s.inc,.d (.ro 1 (ae s.body))],.bx 94 [.d (.v (.string ⟨((af s.kind.toNat).word).toArray⟩)),.d (.v (.bool ((af s.kind.toNat).node))),.d (.v (.bool ((af s.kind.toNat).peer))),.d (.v (.bool ((af s.kind.toNat).n))),.d (.v (.bool true)),.d (.v (.bool ((af s.kind.toNat).inc))),.d (.v (.bool ((af s.kind.toNat).body)))]]) (by rw [h3]) (by rw [h3])
   refine b6 (todo':=aft Tryz.f26 11) (E':=[(0,.ep 0 1 (0) 0),(3,.pt 2 0),(4,.pt 3 0),(43,.d (.v (.bool ((af s.kind.toNat).inc))))]) (M':=[.rw 91 1 ([[.em 5 1 (ae ((l++[bz s.kind]++(if (af s.kind.toNat).node=true then [bz s.node] else [])++(if (af s.kind.toNat).peer=true then [bz s.peer] else [])++(if (af s.kind.toNat).n=true then [bz s.n] else []))++[bz ((s.bit.toNat:Nat):Int),bz ((s.bit.toNat / 256:Nat):Int)]))]]),.gw 0 aj,.bx 42 [.z s.kind,.z s.node,.z s.peer,.z s.n,.z s.bit,.u s.inc,.d (.ro 1 (ae s.body))],.bx 94 [.d (.v (.string ⟨((af s.kind.toNat).word).toArray⟩)),.d (.v (.bool ((af s.kind.toNat).node))),.d (.v (.bool ((af s.kind.toNat).peer))),.d (.v (.bool ((af s.kind.toNat).n))),.d (.v (.bool true)),.d (.v (.bool ((af s.kind.toNat).inc))),.d (.v (.bool ((af s.kind.toNat).body)))]]) tk mo hK ao [(10,[(3,.z (((s.bit.toNat:Nat):Int))),(4,.mem [0] (.tu []) [.rw 91 1 ([[.em 5 1 (ae ((l++[bz s.kind]++(if (af s.kind.toNat).node=true then [bz s.node] else [])++(if (af s.kind.toNat).peer=true then [bz s.peer] else [])++(if (af s.kind.toNat).n=true then [bz s.n] else []))++[bz ((s.bit.toNat:Nat):Int),bz ((s.bit.toNat / 256:Nat):Int)]))]])])])] 5 [0,1,2,3] [0,3,4,43] r (by kernel_rfl) (U ((Na (by omega) (by omega)):IntKind.u16.wrap (s.bit)=((s.bit.toNat:Nat):Int)) (U (M6 (l++[bz s.kind]++(if (af s.kind.toNat).node=true then [bz s.node] else [])++(if (af s.kind.toNat).peer=true then [bz s.peer] else [])++(if (af s.kind.toNat).n=true then [bz s.n] else [])) s.bit.toNat (by omega) (by first | omega | (simp [cK,aH];omega))) trivial)) fun ac wd r=>?_
   exact ru ac wd (r.cast rfl (by rw [if_pos h3,h3]<;>simp [Int.max_eq_left eo]))
 intro ac wd r
 have Om:=qx (b:=(af s.kind.toNat).bit) (l:=[bz s.bit,bz (s.bit / 256)]) (n:=2) (by first | (simp;done) | exact aH hi)
 suffices rv:∀ ac wd,RB D w0 K 60 bs [(0,.ep 0 1 (0) 0),(3,.pt 2 0),(4,.pt 3 0),(49,.d (.v (.bool ((af s.kind.toNat).body))))] [.rw 91 1 ([[.em 5 1 (ae (l++[bz s.kind]++(if (af s.kind.toNat).node=true then [bz s.node] else [])++(if (af s.kind.toNat).peer=true then [bz s.peer] else [])++(if (af s.kind.toNat).n=true then [bz s.n] else [])++(if (af s.kind.toNat).bit=true then [bz s.bit,bz (s.bit / 256)] else [])++(if (af s.kind.toNat).inc=true then cM s.inc else [])))]]),.gw 0 aj,.bx 42 [.z s.kind,.z s.node,.z s.peer,.z s.n,.z s.bit,.u s.inc,.d (.ro 1 (ae s.body))],.bx 94 [.d (.v (.string ⟨((af s.kind.toNat).word).toArray⟩)),.d (.v (.bool ((af s.kind.toNat).node))),.d (.v (.bool ((af s.kind.toNat).peer))),.d (.v (.bool ((af s.kind.toNat).n))),.d (.v (.bool ((af s.kind.toNat).bit))),.d (.v (.bool ((af s.kind.toNat).inc))),.d (.v (.bool ((af s.kind.toNat).body)))]] ac wd→aF Tryz.prog 26 (aft Tryz.f26 13) (eZ D w0 K bs (.tu []) ([.rw 91 1 [[.em 5 1 (ae (l++bd s))]],.gw 0 aj])) ac wd by
  cases h4:((af s.kind.toNat).inc) with
  | false=>
   have r:=r.cast (E':=[(0,.ep 0 1 (0) 0),(3,.pt 2 0),(4,.pt 3 0),(43,.d (.v (.bool false)))]) (M':=[.rw 91 1 ([[.em 5 1 (ae (l++[bz s.kind]++(if (af s.kind.toNat).node=true then [bz s.node] else [])++(if (af s.kind.toNat).peer=true then [bz s.peer] else [])++(if (af s.kind.toNat).n=true then [bz s.n] else [])++(if (af s.kind.toNat).bit=true then [bz s.bit,bz (s.bit / 256)] else [])))]]),.gw 0 aj,.bx 42 [.z s.kind,.z s.node,.z s.peer,.z s.n,.z s.bit,.u s.inc,.d (.ro 1 (ae s.body))],.bx 94 [.d (.v (.string ⟨((af s.kind.toNat).word).toArray⟩)),.d (.v (.bool ((af s.kind.toNat).node))),.d (.v (.bool ((af s.kind.toNat).peer))),.d (.v (.bool ((af s.kind.toNat).n))),.d (.v (.bool ((af s.kind.toNat).bit))),.d (.v (.bool false)),.d (.v (.bool ((af s.kind.toNat).body)))]]) (by rw [h4]) (by rw [h4])
   refine b6 (todo':=aft Tryz.f26 13) (E':=[(0,.ep 0 1 (0) 0),(3,.pt 2 0),(4,.pt 3 0),(49,.d (.v (.bool ((af s.kind.toNat).body))))]) (M':=[.rw 91 1 ([[.em 5 1 (ae (l++[bz s.kind]++(if (af s.kind.toNat).node=true then [bz s.node] else [])++(if (af s.kind.toNat).peer=true then [bz s.peer] else [])++(if (af s.kind.toNat).n=true then [bz s.n] else [])++(if (af s.kind.toNat).bit=true then [bz s.bit,bz (s.bit / 256)] else [])))]]),.gw 0 aj,.bx 42 [.z s.kind,.z s.node,.z s.peer,.z s.n,.z s.bit,.u s.inc,.d (.ro 1 (ae s.body))],.bx 94 [.d (.v (.string ⟨((af s.kind.toNat).word).toArray⟩)),.d (.v (.bool ((af s.kind.toNat).node))),.d (.v (.bool ((af s.kind.toNat).peer))),.d (.v (.bool ((af s.kind.toNat).n))),.d (.v (.bool ((af s.kind.toNat).bit))),.d (.v (.bool false)),.d (.v (.bool ((af s.kind.toNat).body)))]]) tk mo hK ao [] 4 [0,1,2,3] [0,3,4,49] r (by kernel_rfl) trivial fun ac wd r=>?_
   exact rv ac wd (r.cast rfl (by rw [if_neg (ne_true_of_eq_false h4),h4]<;>simp [Int.max_eq_left eo]))
  | true=>
   have r:=r.cast (E':=[(0,.ep 0 1 (0) 0),(3,.pt 2 0),(4,.pt 3 0),(43,.d (.v (.bool true)))]) (M':=[.rw 91 1 ([[.em 5 1 (ae (l++[bz s.kind]++(if (af s.kind.toNat).node=true then [bz s.node] else [])++(if (af s.kind.toNat).peer=true then [bz s.peer] else [])++(if (af s.kind.toNat).n=true then [bz s.n] else [])++(if (af s.kind.toNat).bit=true then [bz s.bit,bz (s.bit / 256)] else [])))]]),.gw 0 aj,.bx 42 [.z s.kind,.z s.node,.z s.peer,.z s.n,.z s.bit,.u s.inc,.d (.ro 1 (ae s.body))],.bx 94 [.d (.v (.string ⟨((af s.kind.toNat).word).toArray⟩)),.d (.v (.bool ((af s.kind.toNat).node))),.d (.v (.bool ((af s.kind.toNat).peer))),.d (.v (.bool ((af s.kind.toNat).n))),.d (.v (.bool ((af s.kind.toNat).bit))),.d (.v (.bool true)),.d (.v (.bool ((af s.kind.toNat).body)))]]) (by rw [h4]) (by rw [h4])
   refine b6 (todo':=aft Tryz.f26 13) (E':=[(0,.ep 0 1 (0) 0),(3,.pt 2 0),(4,.pt 3 0),(49,.d (.v (.bool ((af s.kind.toNat).body))))]) (M':=[.rw 91 1 ([[.em 5 1 (ae ((l++[bz s.kind]++(if (af s.kind.toNat).node=true then [bz s.node] else [])++(if (af s.kind.toNat).peer=true then [bz s.peer] else [])++(if (af s.kind.toNat).n=true then [bz s.n] else [])++(if (af s.kind.toNat).bit=true then [bz s.bit,bz (s.bit / 256)] else []))++cM s.inc))]]),.gw 0 aj,.bx 42 [.z s.kind,.z s.node,.z s.peer,.z s.n,.z s.bit,.u s.inc,.d (.ro 1 (ae s.body))],.bx 94 [.d (.v (.string ⟨((af s.kind.toNat).word).toArray⟩)),.d (.v (.bool ((af s.kind.toNat).node))),.d (.v (.bool ((af s.kind.toNat).peer))),.d (.v (.bool ((af s.kind.toNat).n))),.d (.v (.bool ((af s.kind.toNat).bit))),.d (.v (.bool true)),.d (.v (.bool ((af s.kind.toNat).body)))]]) tk mo hK ao [(12,[(3,.mem [0] (.tu []) [.rw 91 1 ([[.em 5 1 (ae ((l++[bz s.kind]++(if (af s.kind.toNat).node=true then [bz s.node] else [])++(if (af s.kind.toNat).peer=true then [bz s.peer] else [])++(if (af s.kind.toNat).n=true then [bz s.n] else [])++(if (af s.kind.toNat).bit=true then [bz s.bit,bz (s.bit / 256)] else []))++cM s.inc))]])])])] 4 [0,1,2,3] [0,3,4,49] r (by kernel_rfl) (U (Lx (l++[bz s.kind]++(if (af s.kind.toNat).node=true then [bz s.node] else [])++(if (af s.kind.toNat).peer=true then [bz s.peer] else [])++(if (af s.kind.toNat).n=true then [bz s.n] else [])++(if (af s.kind.toNat).bit=true then [bz s.bit,bz (s.bit / 256)] else [])) s.inc (by omega) (by first | omega | (simp [cK,aH];omega))) trivial) fun ac wd r=>?_
   exact rv ac wd (r.cast rfl (by rw [if_pos h4,h4]<;>simp [Int.max_eq_left eo]))
 intro ac wd r
 have Px:=qx (b:=(af s.kind.toNat).inc) (l:=cM s.inc) (n:=10) (by first | (simp;done) | exact aH hi)
 cases h5:((af s.kind.toNat).body) with
 | false=>
  have r:=r.cast (E':=[(0,.ep 0 1 (0) 0),(3,.pt 2 0),(4,.pt 3 0),(49,.d (.v (.bool false)))]) (M':=[.rw 91 1 ([[.em 5 1 (ae (l++[bz s.kind]++(if (af s.kind.toNat).node=true then [bz s.node] else [])++(if (af s.kind.toNat).peer=true then [bz s.peer] else [])++(if (af s.kind.toNat).n=true then [bz s.n] else [])++(if (af s.kind.toNat).bit=true then [bz s.bit,bz (s.bit / 256)] else [])++(if (af s.kind.toNat).inc=true then cM s.inc else [])))]]),.gw 0 aj,.bx 42 [.z s.kind,.z s.node,.z s.peer,.z s.n,.z s.bit,.u s.inc,.d (.ro 1 (ae s.body))],.bx 94 [.d (.v (.string ⟨((af s.kind.toNat).word).toArray⟩)),.d (.v (.bool ((af s.kind.toNat).node))),.d (.v (.bool ((af s.kind.toNat).peer))),.d (.v (.bool ((af s.kind.toNat).n))),.d (.v (.bool ((af s.kind.toNat).bit))),.d (.v (.bool ((af s.kind.toNat).inc))),.d (.v (.bool false))]]) (by rw [h5]) (by rw [h5])
  refine bq (y:=.tu []) (N':=[.rw 91 1 ([[.em 5 1 (ae (l++[bz s.kind]++(if (af s.kind.toNat).node=true then [bz s.node] else [])++(if (af s.kind.toNat).peer=true then [bz s.peer] else [])++(if (af s.kind.toNat).n=true then [bz s.n] else [])++(if (af s.kind.toNat).bit=true then [bz s.bit,bz (s.bit / 256)] else [])++(if (af s.kind.toNat).inc=true then cM s.inc else [])))]]),.gw 0 aj]) (rfl) ((oa (by unfold bd fI;rw [if_neg (ne_true_of_eq_false h5)];simp) _)) ?_
  exact bp tk mo hK rfl ao [] 2000 [0,1] r (by kernel_rfl) trivial
 | true=>
  have r:=r.cast (E':=[(0,.ep 0 1 (0) 0),(3,.pt 2 0),(4,.pt 3 0),(49,.d (.v (.bool true)))]) (M':=[.rw 91 1 ([[.em 5 1 (ae (l++[bz s.kind]++(if (af s.kind.toNat).node=true then [bz s.node] else [])++(if (af s.kind.toNat).peer=true then [bz s.peer] else [])++(if (af s.kind.toNat).n=true then [bz s.n] else [])++(if (af s.kind.toNat).bit=true then [bz s.bit,bz (s.bit / 256)] else [])++(if (af s.kind.toNat).inc=true then cM s.inc else [])))]]),.gw 0 aj,.bx 42 [.z s.kind,.z s.node,.z s.peer,.z s.n,.z s.bit,.u s.inc,.d (.ro 1 (ae s.body))],.bx 94 [.d (.v (.string ⟨((af s.kind.toNat).word).toArray⟩)),.d (.v (.bool ((af s.kind.toNat).node))),.d (.v (.bool ((af s.kind.toNat).peer))),.d (.v (.bool ((af s.kind.toNat).n))),.d (.v (.bool ((af s.kind.toNat).bit))),.d (.v (.bool ((af s.kind.toNat).inc))),.d (.v (.bool true))]]) (by rw [h5]) (by rw [h5])
  refine bq (y:=.tu []) (N':=[.rw 91 1 ([[.em 5 1 (ae (((l++[bz s.kind]++(if (af s.kind.toNat).node=true then [bz s.node] else [])++(if (af s.kind.toNat).peer=true then [bz s.peer] else [])++(if (af s.kind.toNat).n=true then [bz s.n] else [])++(if (af s.kind.toNat).bit=true then [bz s.bit,bz (s.bit / 256)] else [])++(if (af s.kind.toNat).inc=true then cM s.inc else []))++[(bz ((s.body.length:Nat):Int))])++s.body))]]),.gw 0 aj]) (rfl) ((oa (by unfold bd fI;rw [if_pos h5];simp) _)) ?_
  exact bp tk mo hK rfl ao [(14,[(3,.z (((s.body.length:Nat):Int))),(4,.z ((((bz ((s.body.length:Nat):Int)).toNat:Nat):Int))),(5,.mem [0] (.tu []) [.rw 91 1 ([[.em 5 1 (ae ((l++[bz s.kind]++(if (af s.kind.toNat).node=true then [bz s.node] else [])++(if (af s.kind.toNat).peer=true then [bz s.peer] else [])++(if (af s.kind.toNat).n=true then [bz s.n] else [])++(if (af s.kind.toNat).bit=true then [bz s.bit,bz (s.bit / 256)] else [])++(if (af s.kind.toNat).inc=true then cM s.inc else []))++[(bz ((s.body.length:Nat):Int))]))]])])]),(15,[(3,.mem [0] (.tu []) [.rw 91 1 ([[.em 5 1 (ae (((l++[bz s.kind]++(if (af s.kind.toNat).node=true then [bz s.node] else [])++(if (af s.kind.toNat).peer=true then [bz s.peer] else [])++(if (af s.kind.toNat).n=true then [bz s.n] else [])++(if (af s.kind.toNat).bit=true then [bz s.bit,bz (s.bit / 256)] else [])++(if (af s.kind.toNat).inc=true then cM s.inc else []))++[(bz ((s.body.length:Nat):Int))])++s.body))]])])])] 2000 [0,1] r (by kernel_rfl) (U ((by first | rfl | simp [ae,ah,ints,steps,strs]):(((ae s.body).length:Nat):Int)=((s.body.length:Nat):Int)) (U ((bQ _):IntKind.u8.wrap (((s.body.length:Nat):Int))=(((bz ((s.body.length:Nat):Int)).toNat:Nat):Int)) (U (kt (l++[bz s.kind]++(if (af s.kind.toNat).node=true then [bz s.node] else [])++(if (af s.kind.toNat).peer=true then [bz s.peer] else [])++(if (af s.kind.toNat).n=true then [bz s.n] else [])++(if (af s.kind.toNat).bit=true then [bz s.bit,bz (s.bit / 256)] else [])++(if (af s.kind.toNat).inc=true then cM s.inc else [])) (bz ((s.body.length:Nat):Int)) (by first | omega | (simp [cK,aH];omega))) (U (M7 ((l++[bz s.kind]++(if (af s.kind.toNat).node=true then [bz s.node] else [])++(if (af s.kind.toNat).peer=true then [bz s.peer] else [])++(if (af s.kind.toNat).n=true then [bz s.n] else [])++(if (af s.kind.toNat).bit=true then [bz s.bit,bz (s.bit / 256)] else [])++(if (af s.kind.toNat).inc=true then cM s.inc else []))++[(bz ((s.body.length:Nat):Int))]) s.body (by omega) (by first | omega | (simp [cK,aH];omega))) trivial))))
end Go.Proofs.YtcnpikbbmbombaaGreatDoor
namespace Go.Proofs.YtcnpikbbmbombaaGreatDoor
open Go.RowKit
def dM (c:bN) (l:List aL):List UInt8:=bV c++l.flatMap bd
noncomputable def ch (c:bN) (l:List aL):Int:=bif bU c then (bif l.all hasB then (bif decide (65536<(dM c l).length) then 2 else 0) else 1) else 1
noncomputable def mL (c:bN) (l:List aL):AV:=bif decide (ch c l=0) then .tu [.sl 1 (dM c l).length,.z 0] else .tu [.d (.v (.slice none 0 0)),.z (ch c l)]
noncomputable def mM (c:bN) (l:List aL):List ai:=bif decide (ch c l=0) then [.gw 0 aj,.rw 5 1 (ae (dM c l))] else [.gw 0 aj]
def cv (a:List UInt8):List aL→List UInt8
 | []=>a
 | s::r=>cv (if a.length≤65536 then a++bd s else a) r
theorem rM {l:List aL} {i:Nat} {s:aL} (a:List UInt8) (h:l[i]?=some s):cv a (l.take (i+1))=if (cv a (l.take i)).length≤65536 then cv a (l.take i)++bd s else cv a (l.take i):=by
 have key:∀ (l:List aL) (a:List UInt8) (s:aL),cv a (l++[s])=if (cv a l).length≤65536 then cv a l++bd s else cv a l:=by
  intro l
  induction l with
  | nil=>intro a s;rfl
  | cons x r ih=>intro a s;rw [List.cons_append,cv,cv,ih]
 rw [List.take_add_one,h];exact key _ _ _
theorem si:∀ (l:List aL) (a:List UInt8),(if 65536<(cv a l).length then 65536<(a++l.flatMap bd).length else cv a l=a++l.flatMap bd)
 | [],a=>by simp [cv]
 | s::r,a=>by
  rw [cv]
  by_cases h:a.length≤65536
  ·rw [if_pos h]
   have:=si r (a++bd s)
   rw [List.flatMap_cons,← List.append_assoc];exact this
  ·rw [if_neg h]
   have h1:65536<(cv a r).length:=by
    have:=si r a
    rcases Nat.lt_or_ge 65536 (cv a r).length with h2 | h2
    ·exact h2
    ·rw [if_neg (by omega)] at this;rw [this,List.length_append] at h2;omega
   rw [if_pos h1,List.length_append];omega
theorem mi {c:bN} {l:List aL} {i:Nat} (hi:¬ (i:Int)<l.length) (h:65536<(cv (bV c) (l.take i)).length):65536<(dM c l).length:=by rw [List.take_of_length_le (by omega)] at h;have:=si l (bV c);rw [if_pos h] at this;exact this
theorem gP {c:bN} {l:List aL} {i:Nat} (hi:¬ (i:Int)<l.length) (h:(cv (bV c) (l.take i)).length≤65536):cv (bV c) (l.take i)=dM c l:=by rw [List.take_of_length_le (by omega)] at h ⊢;have:=si l (bV c);rw [if_neg (by omega)] at this;exact this
theorem sQ {s:aL} (h:hasB s=true):0≤s.kind∧s.kind<14∧s.body.length≤255∧0≤s.bit∧s.bit≤65535∧0≤s.node∧s.node≤255∧0≤s.peer∧s.peer≤255∧0≤s.n∧s.n≤255:=by
 unfold hasB fB dh at h
 simp only [Bool.and_eq_true,Bool.or_eq_true,decide_eq_true_eq] at h
 omega
theorem Hl {x:jZ} {s:aL} (hb:s.body.length≤255) (hi:s.inc<18446744073709551616):(fI x s).length≤300:=by
 have:=aH hi
 unfold fI
 simp only [List.length_append]
 have h1:∀ {b:Bool} {p:List UInt8} {n:Nat},p.length≤n→(if b=true then p else []).length≤n:=by
  intro b p n h;split
  ·exact h
  ·simp
 have a1:=h1 (b:=x.node) (p:=[bz s.node]) (n:=1) (by simp)
 have a2:=h1 (b:=x.peer) (p:=[bz s.peer]) (n:=1) (by simp)
 have a3:=h1 (b:=x.n) (p:=[bz s.n]) (n:=1) (by simp)
 have a4:=h1 (b:=x.bit) (p:=[bz s.bit,bz (s.bit / 256)]) (n:=2) (by simp)
 have a5:=h1 (b:=x.inc) (p:=cM s.inc) (n:=10) this
 have a6:=h1 (b:=x.body) (p:=bz ((s.body.length:Nat):Int)::s.body) (n:=256) (by simp;omega)
 omega
theorem As {s:aL} (hb:s.body.length≤255) (hi:s.inc<18446744073709551616):(bd s).length≤301:=by
 have:=Hl (x:=af s.kind.toNat) hb hi
 unfold bd;simp;omega
theorem uH (c:bN):(bV c).length=3+2*c.ah.length+c.homes.length:=by unfold bV;simp [cK];omega
def kh (l:List aL) (i:Nat):Prop:=∀ (j:Nat) s,j<i→l[j]?=some s→hasB s=true
theorem kh.none (l:List aL):kh l 0:=fun _ _ h=>absurd h (Nat.not_lt_zero _)
theorem kh.next {l:List aL} {i:Nat} {s:aL} (h:kh l i) (g:l[i]?=some s) (h1:hasB s=true):kh l (i+1):=fun j y hj gy=>by
 rcases Nat.lt_succ_iff_lt_or_eq.1 hj with h' | rfl
 ·exact h j y h' gy
 ·rw [g] at gy;cases gy;exact h1
theorem kh.all {l:List aL} {i:Nat} (h:kh l i) (hi:¬ (i:Int)<l.length):l.all hasB=true:=by
 rw [List.all_eq_true];intro s hs
 obtain ⟨j,hj,rfl⟩:=List.getElem_of_mem hs
 exact h j _ (by omega) (List.getElem?_eq_getElem hj)
theorem jL {l:List aL} {i:Nat} {s:aL} (g:l[i]?=some s) (h1:hasB s=false):l.all hasB=false:=by
 rw [List.all_eq_false];exact ⟨s,List.mem_of_getElem? g,by simp [h1]⟩
section
variable {c:bN} {l:List aL}
theorem et (h:bU c=false∨l.all hasB=false):ch c l=1:=by
 unfold ch
 rcases h with h | h
 ·rw [h];rfl
 ·rw [h];cases bU c<;>rfl
theorem jG (h1:bU c=true) (h2:l.all hasB=true) (h:65536<(dM c l).length):ch c l=2:=by unfold ch;rw [h1,h2,decide_eq_true h];rfl
theorem jc (h1:bU c=true) (h2:l.all hasB=true) (h:(dM c l).length≤65536):ch c l=0:=by unfold ch;rw [h1,h2,decide_eq_false (by omega)];rfl
theorem jH {z:Int} (h:ch c l=z) (hz:z≠0):mL c l=.tu [.d (.v (.slice none 0 0)),.z z]:=by unfold mL;rw [decide_eq_false (by omega),h];rfl
theorem jI {z:Int} (h:ch c l=z) (hz:z≠0):mM c l=[.gw 0 aj]:=by unfold mM;rw [decide_eq_false (by omega)];rfl
theorem Hm (h:ch c l=0):mL c l=.tu [.sl 1 (dM c l).length,.z 0]:=by unfold mL;rw [decide_eq_true h];rfl
theorem Hn (h:ch c l=0):mM c l=[.gw 0 aj,.rw 5 1 (ae (dM c l))]:=by unfold mM;rw [decide_eq_true h];rfl
end
theorem rN {c:bN} {l:List aL} {b:List UInt8} (h:ch c l=0) (hb:b=dM c l):mL c l=.tu [.sl 1 b.length,.z 0]:=by rw [Hm h,hb]
theorem rO {c:bN} {l:List aL} {b:List UInt8} (h:ch c l=0) (hb:b=dM c l):mM c l=[.gw 0 aj,.rw 5 1 (ae b)]:=by rw [Hn h,hb]
theorem LF:aE Tryz.prog 22 [] [] (.ep 0 1 0 0) (iZ []):=by
 refine ⟨CE.1,fun {D w0 K0 β F I w} ys R hK hl hr=>(CE.2 ys R hK hl hr).mono ?_⟩
 rintro e w' ⟨v,rfl,aB,F',I',R',e1,hI,ha⟩
 have rD:β=[]:=List.eq_nil_of_length_eq_zero R.len
 subst rD
 cases ha with
 | @pt _ _ b cc hb=>
 have hB:=R'.blk 0 _ rfl
 generalize pv:F' 0=F0 at hB
 cases hB with
 | bx aS ys mX jW=>
  rw [hb] at aS;cases aS
  obtain ⟨y,rfl⟩:∃ y,ys=[y]:=by
   cases ys with
   | nil=>simp at mX
   | cons y r=>cases r with
    | nil=>exact ⟨y,rfl⟩
    | cons _ _=>simp at mX
  have hy:y=.slice none 0 0:=by
   have h0:=jW 0 _ y rfl rfl
   cases h0 with | d h0=>cases h0;rfl
  subst hy
  refine ⟨_,rfl,[(some ⟨b,0,none⟩,1)],F',I',⟨rfl,fun u blk hu=>?_,R'.st⟩,fun u x hx=>by simp at hx,hI,.ep (u:=0) rfl⟩
  cases u with
  | succ u=>simp [iZ] at hu
  | zero=>
   simp only [iZ,List.getElem?_cons_zero,Option.some.injEq] at hu;subst hu
   rw [pv]
   have:=bF.rw (K:=fun w=>K0 w∧Holds w I') (β:=[(some ⟨b,0,none⟩,1)]) (u:=0) (T:=91) (k:=1) (rows:=[[DV.em 5 1 (ae [])]]) (H0:=[(b,.cells #[.slice none 0 0] 91 (0,0))]) rfl (fun _=>[.slice none 0 0]) (fun _ _=>[]) (fun i r hi=>by
    cases i with
    | zero=>simp at hi;subst hi;exact ⟨rfl,rfl⟩
    | succ i=>simp at hi) ⟨rfl,Or.inr ⟨b,1,_,(0,0),rfl,rfl,kl _,rfl,Nat.le_refl _,rfl⟩⟩ (fun i r j c x hi h1 h2=>by
    cases i with
    | succ i=>simp at hi
    | zero=>
     simp at hi;subst hi
     cases j with
     | succ j=>simp at h1
     | zero=>simp at h1 h2;subst h1;subst h2;exact Le.B2 _ _ _ _ _ (.v _))
   simpa [bI] using this
set_option maxRecDepth 100000 in
theorem BD (c:bN) (l:List aL) (hc:c.ah.length≤1048576) (hh:c.homes.length≤1048576) (hl:l.length≤9223372036854775807) (hr:∀ s ∈ l,s.Rd):aE Tryz.prog 11 [.ag [.z c.az,.d (.ro 2 (ah c.ah)),.d (.ro 1 (ints c.homes))],.d (.ro 7 (steps l))] [.gw 0 aj] (mL c l) (mM c l):=by
 refine aE.intro (by kernel_rfl) rfl rfl 37 rfl rfl fun D w0 K bs ac wd hK (ao:bs.m=1) r=>?_
 cases h0:(bU c) with
 | false=>
  refine bq (y:=.tu [.d (.v (.slice none 0 0)),.z 1]) (N':=[.gw 0 aj]) ((by first | exact jH (et (.inl (by assumption))) (by decide) | exact jH (et (.inr (jL bY (by assumption)))) (by decide) | exact jH (jG (by assumption) (aq.1.all (by assumption)) (mi (by assumption) (by omega))) (by decide) | exact rN (jc (by assumption) (aq.1.all (by assumption)) (by rw [← gP (by assumption) (by omega)];omega)) (gP (by assumption) (by omega)))) ((by first | exact jI (et (.inl (by assumption))) (by decide) | exact jI (et (.inr (jL bY (by assumption)))) (by decide) | exact jI (jG (by assumption) (aq.1.all (by assumption)) (mi (by assumption) (by omega))) (by decide) | exact rO (jc (by assumption) (aq.1.all (by assumption)) (by rw [← gP (by assumption) (by omega)];omega)) (gP (by assumption) (by omega)))) ?_
  exact bp tk mo hK rfl ao [(1,[(1,.au (.v (.bool false)))])] 2000 [0] r (by kernel_rfl) (U ((by have k:=qw c (by omega) (by omega);rw [h0] at k;exact k):al Tryz.prog 21 [.ag [.z c.az,.d (.ro 2 (ah c.ah)),.d (.ro 1 (ints c.homes))]] (.v (.bool false))) trivial)
 | true=>
  refine cQ (todo':=hd Tryz.f11 0) (E':=[(6,.ep 2 1 (0) 0),(16,.d (.ro 7 (steps l))),(17,.n l.length),(18,.z 0)]) (M':=[.gw 0 aj,.bx 25 [.z c.az,.d (.ro 2 (ah c.ah)),.d (.ro 1 (ints c.homes))],.rw 91 1 ([[.em 5 1 (ae (([])++bV c))]])]) tk mo hK ao [(1,[(1,.au (.v (.bool true)))]),(3,[(0,.mem [] (.ep 0 1 (0) 0) [.rw 91 1 ([[.em 5 1 (ae ([]))]])])]),(4,[(2,.mem [2] (.tu []) [.rw 91 1 ([[.em 5 1 (ae (([])++bV c))]])])]),(5,[(1,.z (((l.length:Nat):Int)))])] 2000 [0,1,2] [6,16,17,18] r (by kernel_rfl) (U ((by have k:=qw c (by omega) (by omega);rw [h0] at k;exact k):al Tryz.prog 21 [.ag [.z c.az,.d (.ro 2 (ah c.ah)),.d (.ro 1 (ints c.homes))]] (.v (.bool true))) (U (LF) (U (J0 ([]) c (by simp) hc hh) (U ((by first | rfl | simp [ae,ah,ints,steps,strs]):(((steps l).length:Nat):Int)=((l.length:Nat):Int)) trivial)))) fun ac wd r=>?_
  refine aF.rounds (Φ:=fun (i:Nat) ac wd=>(kh l i∧(cv (bV c) (l.take i)).length≤3200000)∧RB D w0 K 37 bs [(6,.ep 2 1 (0) 0),(16,.d (.ro 7 (steps l))),(17,.n l.length),(18,.n i)] [.gw 0 aj,.bx 25 [.z c.az,.d (.ro 2 (ah c.ah)),.d (.ro 1 (ints c.homes))],.rw 91 1 ([[.em 5 1 (ae (cv (bV c) (l.take i)))]])] ac wd) (l.length) ?_ (Nat.zero_le _) ⟨⟨kh.none l,by rw [List.take_zero];simp only [cv];rw [uH];omega⟩,(r).cast rfl (by simp [cv])⟩
  clear r
  rintro i dw bH ac wd ⟨aq,r⟩
  have hlen:=aq.2
  cases h1:(decide ((((i:Nat):Int):Int)<((l.length:Nat):Int))) with
  | false=>
   have bP:=of_decide_eq_false h1
   cases h2:(decide ((65536:Int)<(((cv (bV c) (l.take i)).length:Nat):Int))) with
   | false=>
    have c8:=of_decide_eq_false h2
    refine bq (y:=.tu [.sl 1 ((cv (bV c) (l.take i)).length),.z 0]) (N':=[.gw 0 aj,.rw 5 1 (ae (cv (bV c) (l.take i)))]) ((by first | exact jH (et (.inl (by assumption))) (by decide) | exact jH (et (.inr (jL bY (by assumption)))) (by decide) | exact jH (jG (by assumption) (aq.1.all (by assumption)) (mi (by assumption) (by omega))) (by decide) | exact rN (jc (by assumption) (aq.1.all (by assumption)) (by rw [← gP (by assumption) (by omega)];omega)) (gP (by assumption) (by omega)))) ((by first | exact jI (et (.inl (by assumption))) (by decide) | exact jI (et (.inr (jL bY (by assumption)))) (by decide) | exact jI (jG (by assumption) (aq.1.all (by assumption)) (mi (by assumption) (by omega))) (by decide) | exact rO (jc (by assumption) (aq.1.all (by assumption)) (by rw [← gP (by assumption) (by omega)];omega)) (gP (by assumption) (by omega)))) ?_
    exact bp tk mo hK rfl ao [(6,[(0,.b false)]),(13,[(1,.mem [2] (.n ((cv (bV c) (l.take i)).length)) [.rw 91 1 ([[.em 5 1 (ae (cv (bV c) (l.take i)))]])]),(2,.b false)]),(15,[(1,.mem [2] (.sl 1 ((cv (bV c) (l.take i)).length)) [.rw 91 1 (List.set [[.em 5 1 (ae (cv (bV c) (l.take i)))]] 0 [.jk]),.rw 5 1 (ae (cv (bV c) (l.take i)))])])] 2000 [0,3] r (by kernel_rfl) (U h1 (U (tl (cv (bV c) (l.take i))) (U h2 (U (JX (cv (bV c) (l.take i)) (by omega)) trivial))))
   | true=>
    have c8:=of_decide_eq_true h2
    refine bq (y:=.tu [.d (.v (.slice none 0 0)),.z 2]) (N':=[.gw 0 aj]) ((by first | exact jH (et (.inl (by assumption))) (by decide) | exact jH (et (.inr (jL bY (by assumption)))) (by decide) | exact jH (jG (by assumption) (aq.1.all (by assumption)) (mi (by assumption) (by omega))) (by decide) | exact rN (jc (by assumption) (aq.1.all (by assumption)) (by rw [← gP (by assumption) (by omega)];omega)) (gP (by assumption) (by omega)))) ((by first | exact jI (et (.inl (by assumption))) (by decide) | exact jI (et (.inr (jL bY (by assumption)))) (by decide) | exact jI (jG (by assumption) (aq.1.all (by assumption)) (mi (by assumption) (by omega))) (by decide) | exact rO (jc (by assumption) (aq.1.all (by assumption)) (by rw [← gP (by assumption) (by omega)];omega)) (gP (by assumption) (by omega)))) ?_
    exact bp tk mo hK rfl ao [(6,[(0,.b false)]),(13,[(1,.mem [2] (.n ((cv (bV c) (l.take i)).length)) [.rw 91 1 ([[.em 5 1 (ae (cv (bV c) (l.take i)))]])]),(2,.b true)])] 2000 [0] r (by kernel_rfl) (U h1 (U (tl (cv (bV c) (l.take i))) (U h2 trivial)))
  | true=>
   have bP:=of_decide_eq_true h1
   obtain ⟨ay,bY⟩:∃ x_,l[i]?=some x_:=⟨_,List.getElem?_eq_getElem (by omega)⟩
   have eH:=(hr _ (List.mem_of_getElem? bY)).inc
   cases h3:(hasB ay) with
   | false=>
    refine bq (y:=.tu [.d (.v (.slice none 0 0)),.z 1]) (N':=[.gw 0 aj]) ((by first | exact jH (et (.inl (by assumption))) (by decide) | exact jH (et (.inr (jL bY (by assumption)))) (by decide) | exact jH (jG (by assumption) (aq.1.all (by assumption)) (mi (by assumption) (by omega))) (by decide) | exact rN (jc (by assumption) (aq.1.all (by assumption)) (by rw [← gP (by assumption) (by omega)];omega)) (gP (by assumption) (by omega)))) ((by first | exact jI (et (.inl (by assumption))) (by decide) | exact jI (et (.inr (jL bY (by assumption)))) (by decide) | exact jI (jG (by assumption) (aq.1.all (by assumption)) (mi (by assumption) (by omega))) (by decide) | exact rO (jc (by assumption) (aq.1.all (by assumption)) (by rw [← gP (by assumption) (by omega)];omega)) (gP (by assumption) (by omega)))) ?_
    exact bp tk mo hK rfl ao [(6,[(0,.b true)]),(7,[(0,.ix (i) [.z ay.kind,.z ay.node,.z ay.peer,.z ay.n,.z ay.bit,.u ay.inc,.ro 1 (ae ay.body)])]),(8,[(1,.mem [0] (.d (.v (.bool (hasB ay)))) [.gw 0 aj]),(2,.b true)])] 2000 [0] r (by kernel_rfl) (U h1 (U (aC ((i:Nat):Int)) (U (jb bY) (U (xa ay) (U ((by rw [h3];rfl):(!(hasB ay))=true) trivial)))))
   | true=>
    have yN:=sQ ‹hasB ay=true›
    have dO:=As (s:=ay) (by omega) (by omega)
    cases h4:(decide (((((cv (bV c) (l.take i)).length:Nat):Int):Int)≤65536)) with
    | false=>
     have fa:=of_decide_eq_false h4
     exact cQ (todo':=hd Tryz.f11 0) (E':=[(6,.ep 2 1 (0) 0),(16,.d (.ro 7 (steps l))),(17,.n l.length),(18,.n (i+1))]) (M':=[.gw 0 aj,.bx 25 [.z c.az,.d (.ro 2 (ah c.ah)),.d (.ro 1 (ints c.homes))],.rw 91 1 ([[.em 5 1 (ae (cv (bV c) (l.take i)))]])]) tk mo hK ao [(6,[(0,.b true)]),(7,[(0,.ix (i) [.z ay.kind,.z ay.node,.z ay.peer,.z ay.n,.z ay.bit,.u ay.inc,.ro 1 (ae ay.body)])]),(8,[(1,.mem [0] (.d (.v (.bool (hasB ay)))) [.gw 0 aj]),(2,.b false)]),(10,[(1,.mem [2] (.n ((cv (bV c) (l.take i)).length)) [.rw 91 1 ([[.em 5 1 (ae (cv (bV c) (l.take i)))]])]),(2,.b false)]),(12,[(0,.z (((i+1:Nat):Int)))])] 2000 [0,1,2] [6,16,17,18] r (by kernel_rfl) (U h1 (U (aC ((i:Nat):Int)) (U (jb bY) (U (xa ay) (U ((by rw [h3];rfl):(!(hasB ay))=false) (U (tl (cv (bV c) (l.take i))) (U h4 (U ((wi (by omega)):IntKind.i64.wrap ((((i:Nat):Int):Int)+1)=((i+1:Nat):Int)) trivial)))))))) fun ac wd r=>bH (by omega) ac wd ⟨⟨aq.1.next bY (by assumption),by rw [rM _ bY];split<;>first | omega | (simp;omega)⟩,r.cast rfl (by rw [rM _ bY];first | rw [if_pos (by omega)] | rw [if_neg (by omega)])⟩
    | true=>
     have fa:=of_decide_eq_true h4
     exact cQ (todo':=hd Tryz.f11 0) (E':=[(6,.ep 2 1 (0) 0),(16,.d (.ro 7 (steps l))),(17,.n l.length),(18,.n (i+1))]) (M':=[.gw 0 aj,.bx 25 [.z c.az,.d (.ro 2 (ah c.ah)),.d (.ro 1 (ints c.homes))],.rw 91 1 ([[.em 5 1 (ae ((cv (bV c) (l.take i))++bd ay))]])]) tk mo hK ao [(6,[(0,.b true)]),(7,[(0,.ix (i) [.z ay.kind,.z ay.node,.z ay.peer,.z ay.n,.z ay.bit,.u ay.inc,.ro 1 (ae ay.body)])]),(8,[(1,.mem [0] (.d (.v (.bool (hasB ay)))) [.gw 0 aj]),(2,.b false)]),(10,[(1,.mem [2] (.n ((cv (bV c) (l.take i)).length)) [.rw 91 1 ([[.em 5 1 (ae (cv (bV c) (l.take i)))]])]),(2,.b true)]),(11,[(2,.mem [2,0] (.tu []) [.rw 91 1 ([[.em 5 1 (ae ((cv (bV c) (l.take i))++bd ay))]]),.gw 0 aj])]),(12,[(0,.z (((i+1:Nat):Int)))])] 2000 [0,1,2] [6,16,17,18] r (by kernel_rfl) (U h1 (U (aC ((i:Nat):Int)) (U (jb bY) (U (xa ay) (U ((by rw [h3];rfl):(!(hasB ay))=false) (U (tl (cv (bV c) (l.take i))) (U h4 (U (FQ (cv (bV c) (l.take i)) ay (by omega) (by omega) (by omega) (by omega) (by omega) (by omega) (by omega)) (U ((wi (by omega)):IntKind.i64.wrap ((((i:Nat):Int):Int)+1)=((i+1:Nat):Int)) trivial))))))))) fun ac wd r=>bH (by omega) ac wd ⟨⟨aq.1.next bY (by assumption),by rw [rM _ bY];split<;>first | omega | (simp;omega)⟩,r.cast rfl (by rw [rM _ bY];first | rw [if_pos (by omega)] | rw [if_neg (by omega)])⟩
end Go.Proofs.YtcnpikbbmbombaaGreatDoor
