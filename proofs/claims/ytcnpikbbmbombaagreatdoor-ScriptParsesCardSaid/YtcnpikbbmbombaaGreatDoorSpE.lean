/-
  scriptParses_card, part 5 of 6: merged by program from the texts that it needs.
-/
import Derived.Test.YtcnpikbbmbombaaGreatDoorSpD
set_option linter.unusedSimpArgs false
set_option linter.unusedVariables false
set_option linter.unnecessarySimpa false
namespace Go.Proofs.YtcnpikbbmbombaaGreatDoor
open Go.RowKit
def hx (b:UInt8):Int:=Go.Lib.indexByte [48,49,50,51,52,53,54,55,56,57,97,98,99,100,101,102] b
def bG (b:UInt8):Nat:=(hx b).toNat
theorem yt (b:UInt8):hx b<16:=by
 have key:∀ n,n<256→hx (UInt8.ofNat n)<16:=by decide +kernel
 have:=key b.toNat b.toNat_lt
 rwa [UInt8.ofNat_toNat] at this
theorem oe {b:UInt8} (h:decide (hx b<0)=false):hx b=((bG b:Nat):Int)∧bG b<16:=by
 have h:=of_decide_eq_false h
 have:=yt b
 unfold bG;omega
theorem MJ {b:UInt8} (h:decide (hx b<0)=true):hx b = -1:=by
 have h:=of_decide_eq_true h
 have:=Go.Lib.indexByte_ge [48,49,50,51,52,53,54,55,56,57,97,98,99,100,101,102] b
 unfold hx at *;omega
theorem pX {b:UInt8} (h:decide (hx b<0)=false):ay Tryz.prog 102 [.d (.v (.string ⟨([48,49,50,51,52,53,54,55,56,57,97,98,99,100,101,102]:List UInt8).toArray⟩)),.d (.v (.int .u8 ((b.toNat:Nat):Int)))] (.n (bG b)):=by
 have q:=Ag [48,49,50,51,52,53,54,55,56,57,97,98,99,100,101,102] b
 rw [show Go.Lib.indexByte [48,49,50,51,52,53,54,55,56,57,97,98,99,100,101,102] b=((bG b:Nat):Int) from (oe h).1] at q;exact q
theorem uE {b:UInt8} (h:decide (hx b<0)=true):ay Tryz.prog 102 [.d (.v (.string ⟨([48,49,50,51,52,53,54,55,56,57,97,98,99,100,101,102]:List UInt8).toArray⟩)),.d (.v (.int .u8 ((b.toNat:Nat):Int)))] (.z (-1)):=by
 have q:=Ag [48,49,50,51,52,53,54,55,56,57,97,98,99,100,101,102] b
 rw [show Go.Lib.indexByte [48,49,50,51,52,53,54,55,56,57,97,98,99,100,101,102] b = -1 from MJ h] at q;exact q
theorem DT {h:Nat} (hh:h<16):IntKind.i64.wrap (((h:Nat):Int)*2 ^ (min (4:Int).toNat IntKind.i64.bits))=((16*h:Nat):Int):=by
 show IntKind.i64.wrap (((h:Nat):Int)*16)=_
 simp [IntKind.wrap,IntKind.signed,IntKind.bits];omega
theorem Di {h l:Nat} (hh:h<16) (hl:l<16):IntKind.i64.wrap ((BitVec.ofInt IntKind.i64.bits ((16*h:Nat):Int) ||| BitVec.ofInt IntKind.i64.bits ((l:Nat):Int)).toNat:Int)=((16*h+l:Nat):Int):=by
 have h1:(BitVec.ofInt 64 ((16*h:Nat):Int) ||| BitVec.ofInt 64 ((l:Nat):Int)).toNat=16*h+l:=by
  rw [BitVec.toNat_or,BitVec.ofInt_natCast,BitVec.ofInt_natCast,BitVec.toNat_ofNat,BitVec.toNat_ofNat,Nat.mod_eq_of_lt (by omega),Nat.mod_eq_of_lt (by omega)]
  have:=Nat.two_pow_add_eq_or_of_lt (i:=4) (b:=l) (by omega) h
  rw [show 16*h=2 ^ 4*h from by omega];omega
 show IntKind.i64.wrap ((BitVec.ofInt 64 ((16*h:Nat):Int) ||| BitVec.ofInt 64 ((l:Nat):Int)).toNat:Int)=_
 rw [h1];simp [IntKind.wrap,IntKind.signed,IntKind.bits];omega
def dJ:List UInt8→Option (List UInt8)
 | a::b::r=>if hx a<0∨hx b<0 then none else (dJ r).map fun q=>bz ((16*bG a+bG b:Nat):Int)::q
 | _=>some []
def dj (w:List UInt8):List UInt8×Bool:=if w=[45] then ([],true) else if w=[]∨w.length%2≠0∨510<w.length then ([],false) else (match dJ w with | some q=>(q,true) | none=>([],false))
theorem py {w:List UInt8} {i:Nat} {a b:UInt8} (h1:w[2*i]?=some a) (h2:w[2*i+1]?=some b):dJ (w.drop (2*i))=if hx a<0∨hx b<0 then none else (dJ (w.drop (2*(i+1)))).map fun q=>bz ((16*bG a+bG b:Nat):Int)::q:=by
 obtain ⟨N1,rfl⟩:=List.getElem?_eq_some_iff.1 h1
 obtain ⟨N2,rfl⟩:=List.getElem?_eq_some_iff.1 h2
 rw [List.drop_eq_getElem_cons N1,List.drop_eq_getElem_cons N2,dJ];rfl
theorem By {w:List UInt8} (h1:w≠[45]) (h:w=[]∨w.length%2≠0∨510<w.length):dj w=([],false):=by unfold dj;rw [if_neg h1,if_pos h]
theorem AZ {w:List UInt8} (h1:w≠[45]) (h:¬ (w=[]∨w.length%2≠0∨510<w.length)) (e:dJ w=none):dj w=([],false):=by unfold dj;rw [if_neg h1,if_neg h,e]
theorem A0 {w q:List UInt8} (h1:w≠[45]) (h:¬ (w=[]∨w.length%2≠0∨510<w.length)) (e:dJ w=some q):dj w=(q,true):=by unfold dj;rw [if_neg h1,if_neg h,e]
theorem yu (n:Nat):((n:Nat):Int).tmod 2=((n%2:Nat):Int):=(Int.ofNat_tmod n 2).symm
set_option maxRecDepth 100000 in
theorem Ki (w:List UInt8) (h1:w≠[45]) (hN:¬ (w=[]∨w.length%2≠0∨510<w.length)) (q:List UInt8) (hq:dJ w=some q):ay Tryz.prog 85 [.d (.v (.string ⟨w.toArray⟩))] (DV.tu [.em 5 1 (af q),.v (.bool true)]):=by
 refine ay.intro (by kernel_rfl) rfl rfl 53 rfl rfl fun w0 K ac hK r=>?_
 cases h0:(w==([45]:List UInt8)) with
 | false=>
  cases h1:(w==([]:List UInt8)) with
  | false=>
   have aI:=((yu _):(((w.length:Nat):Int):Int).tmod 2=((w.length%2:Nat):Int))
   cases h2:((((w.length%2:Nat):Int):Int) != 0) with
   | false=>
    have cz:=fM h2
    cases h3:(decide ((510:Int)<((w.length:Nat):Int))) with
    | false=>
     have cT:=of_decide_eq_false h3
     refine bX (todo':=hd Tryz.f85 0) (E':=[(0,.d (.v (.string ⟨w.toArray⟩))),(4,.d (.v (.slice none 0 0))),(5,.z 0)]) (M':=[]) tk mo hK [(1,[(1,.b false)]),(3,[(1,.b false),(5,.z (((w.length%2:Nat):Int))),(6,.b false),(11,.b false)])] 2000 [] [0,4,5] r (by kernel_rfl) (U h0 (U h1 (U aI (U ((by decide):(2:Int)≠0) (U h2 (U h3 trivial)))))) fun ac wd r=>?_
     refine aF.rounds (Φ:=fun (i:Nat) ac wd=>∃ o:List UInt8,(o.length=i∧2*i≤w.length∧dJ w=(dJ (w.drop (2*i))).map fun q=>o++q)∧dn [] w0 K 53 [(0,.d (.v (.string ⟨w.toArray⟩))),(4,.sl 0 (i)),(5,.n (2*i))] [.rw 5 1 (af o)] ac wd) (255) ?_ (Nat.zero_le _) ⟨[],⟨rfl,Nat.zero_le _,by simp⟩,r.dA (M1:=[.rw 5 1 []]) [(4,5,1)] [] (by kernel_rfl) (by kernel_rfl)⟩
     clear r
     rintro i dw bj ac wd ⟨o,ao,r⟩
     have lH:=ao.1
     have zS:=ao.2.1
     cases h4:(decide ((((2*i:Nat):Int):Int)<((w.length:Nat):Int))) with
     | false=>
      have dT:=of_decide_eq_false h4
      rw [show (DV.tu [.em 5 1 (af q),.v (.bool true)]:DV)=.tu [.em 5 1 (af o),.v (.bool true)] from (by have e:=hq.symm.trans ao.2.2;rw [List.drop_of_length_le (by omega)] at e;simp [dJ] at e;rw [e])]
      exact aV tk mo hK rfl [(7,[(3,.b false)])] 2000 r (by kernel_rfl) (U h4 (U ((by first | rfl | (simp [af];done) | (simp [af];omega)):(i)=(af o).length) trivial))
     | true=>
      have dT:=of_decide_eq_true h4
      obtain ⟨b4,iM⟩:∃ x_,w[2*i]?=some x_:=⟨_,List.getElem?_eq_getElem (by omega)⟩
      obtain ⟨cu,iN⟩:∃ x_,w[2*i+1]?=some x_:=⟨_,List.getElem?_eq_getElem (by omega)⟩
      have bd:=(⟨_,iM,rfl⟩:∃ u:UInt8,(w:List UInt8)[2*i]?=some u∧(.v (.int .u8 (((b4.toNat:Nat):Int))):DV)=.v (.int .u8 (u.toNat:Int)))
      have b6:=((wi (by omega)):IntKind.i64.wrap ((((2*i:Nat):Int):Int)+1)=((2*i+1:Nat):Int))
      have cO:=(⟨_,iN,rfl⟩:∃ u:UInt8,(w:List UInt8)[2*i+1]?=some u∧(.v (.int .u8 (((cu.toNat:Nat):Int))):DV)=.v (.int .u8 (u.toNat:Int)))
      cases h5:(decide (hx b4<0)) with
      | false=>
       have du:=of_decide_eq_false h5
       cases h6:(decide (hx cu<0)) with
       | false=>
        have dx:=of_decide_eq_false h6
        cases h7:(decide ((((bG b4:Nat):Int):Int)<0)) with
        | false=>
         have dL:=of_decide_eq_false h7
         cases h8:(decide ((((bG cu:Nat):Int):Int)<0)) with
         | false=>
          have fg:=of_decide_eq_false h8
          exact bX (todo':=hd Tryz.f85 0) (E':=[(0,.d (.v (.string ⟨w.toArray⟩))),(4,.sl 0 (i+(1))),(5,.n (2*(i+1)))]) (M':=[.rw 5 1 (af o++[[.v (.int .u8 ((((bz (((16*bG b4+bG cu:Nat):Int))).toNat:Nat):Int)))]])]) tk mo hK [(7,[(3,.b true)]),(8,[(1,.z (((2*(i+1):Nat):Int)))]),(9,[(2,.ix (2*i) [.v (.int .u8 (((b4.toNat:Nat):Int)))]),(6,.z (((2*i+1:Nat):Int))),(7,.ix (2*i+1) [.v (.int .u8 (((cu.toNat:Nat):Int)))]),(3,.aG (.n (bG b4))),(8,.aG (.n (bG cu)))]),(10,[(1,.b false),(4,.b false)]),(12,[(2,.z (((16*bG b4:Nat):Int))),(4,.z (((16*bG b4+bG cu:Nat):Int))),(5,.z ((((bz (((16*bG b4+bG cu:Nat):Int))).toNat:Nat):Int)))])] 2000 [0] [0,4,5] r (by kernel_rfl) (U h4 (U (ax ((2*i:Nat):Int)) (U bd (U b6 (U (ax ((2*i+1:Nat):Int)) (U cO (U (pX h5) (U (pX h6) (U h7 (U h8 (U ((DT (oe (by assumption)).2):IntKind.i64.wrap ((((bG b4:Nat):Int):Int)*2 ^ (min (4:Int).toNat IntKind.i64.bits))=((16*bG b4:Nat):Int)) (U ((by first | decide | omega):(0:Int)≤4) (U ((Di (oe (by assumption)).2 (oe (by assumption)).2):IntKind.i64.wrap ((BitVec.ofInt IntKind.i64.bits (((16*bG b4:Nat):Int)) ||| BitVec.ofInt IntKind.i64.bits (((bG cu:Nat):Int))).toNat:Int)=((16*bG b4+bG cu:Nat):Int)) (U ((gW _):IntKind.u8.wrap (((16*bG b4+bG cu:Nat):Int))=(((bz (((16*bG b4+bG cu:Nat):Int))).toNat:Nat):Int)) (U ((by first | rfl | (simp [af];done) | (simp [af];omega)):(i)=(af o).length) (U ((by first | rfl | (simp [af];done) | (simp [af];omega)):(1)=([[.v (.int .u8 ((((bz (((16*bG b4+bG cu:Nat):Int))).toNat:Nat):Int)))]]:List (List DV)).length) (U ((by first | omega | (simp [af];omega)):(2*((i)+(1))+192)*1≤281474976710656) (U ((by first | omega | (simp [af];omega)):(i)+(1)<4611686018427387904) (U ((by simp [aW,AV.one,bQ,af,ah,ints,steps,strs]):aW ([[.v (.int .u8 ((((bz (((16*bG b4+bG cu:Nat):Int))).toNat:Nat):Int)))]])) (U ((wi (by omega)):IntKind.i64.wrap ((((2*i:Nat):Int):Int)+2)=((2*(i+1):Nat):Int)) trivial)))))))))))))))))))) fun ac wd r=>bj (by omega) ac wd ⟨(o++[bz ((16*bG b4+bG cu:Nat):Int)]),⟨by simp;omega,by omega,by rw [ao.2.2,py iM iN,if_neg (by rintro (h | h);exact absurd h (of_decide_eq_false (by assumption));exact absurd h (of_decide_eq_false (by assumption)))];simp [Option.map_map,Function.comp_def]⟩,r.cast rfl (by simp [af])⟩
         | true=>
          have fg:=of_decide_eq_true h8
          exact absurd fg (by omega)
        | true=>
         have dL:=of_decide_eq_true h7
         exact absurd dL (by omega)
       | true=>
        have dx:=of_decide_eq_true h6
        exact absurd (hq.symm.trans (ao.2.2.trans (by rw [py iM iN,if_pos (by first | exact .inl (of_decide_eq_true (by assumption)) | exact .inr (of_decide_eq_true (by assumption)))]))) (by simp)
      | true=>
       have du:=of_decide_eq_true h5
       exact absurd (hq.symm.trans (ao.2.2.trans (by rw [py iM iN,if_pos (by first | exact .inl (of_decide_eq_true (by assumption)) | exact .inr (of_decide_eq_true (by assumption)))]))) (by simp)
    | true=>
     have cT:=of_decide_eq_true h3
     exact absurd (.inr (.inr (by omega))) hN
   | true=>
    have cz:¬ _=_:=bne_iff_ne.1 h2
    exact absurd (.inr (.inl (by omega))) hN
  | true=>
   exact absurd (.inl (eq_of_beq h1)) hN
 | true=>
  exact absurd (eq_of_beq h0) h1
set_option maxRecDepth 100000 in
theorem Kj (w:List UInt8) (h1:w≠[45]) (hN:¬ (w=[]∨w.length%2≠0∨510<w.length)) (hq:dJ w=none):ay Tryz.prog 85 [.d (.v (.string ⟨w.toArray⟩))] (.tu [.v (.slice none 0 0),.v (.bool false)]):=by
 refine ay.intro (by kernel_rfl) rfl rfl 53 rfl rfl fun w0 K ac hK r=>?_
 cases h0:(w==([45]:List UInt8)) with
 | false=>
  cases h1:(w==([]:List UInt8)) with
  | false=>
   have aI:=((yu _):(((w.length:Nat):Int):Int).tmod 2=((w.length%2:Nat):Int))
   cases h2:((((w.length%2:Nat):Int):Int) != 0) with
   | false=>
    have cz:=fM h2
    cases h3:(decide ((510:Int)<((w.length:Nat):Int))) with
    | false=>
     have cT:=of_decide_eq_false h3
     refine bX (todo':=hd Tryz.f85 0) (E':=[(0,.d (.v (.string ⟨w.toArray⟩))),(4,.d (.v (.slice none 0 0))),(5,.z 0)]) (M':=[]) tk mo hK [(1,[(1,.b false)]),(3,[(1,.b false),(5,.z (((w.length%2:Nat):Int))),(6,.b false),(11,.b false)])] 2000 [] [0,4,5] r (by kernel_rfl) (U h0 (U h1 (U aI (U ((by decide):(2:Int)≠0) (U h2 (U h3 trivial)))))) fun ac wd r=>?_
     refine aF.rounds (Φ:=fun (i:Nat) ac wd=>∃ o:List UInt8,(o.length=i∧2*i≤w.length∧dJ w=(dJ (w.drop (2*i))).map fun q=>o++q)∧dn [] w0 K 53 [(0,.d (.v (.string ⟨w.toArray⟩))),(4,.sl 0 (i)),(5,.n (2*i))] [.rw 5 1 (af o)] ac wd) (255) ?_ (Nat.zero_le _) ⟨[],⟨rfl,Nat.zero_le _,by simp⟩,r.dA (M1:=[.rw 5 1 []]) [(4,5,1)] [] (by kernel_rfl) (by kernel_rfl)⟩
     clear r
     rintro i dw bj ac wd ⟨o,ao,r⟩
     have lH:=ao.1
     have zS:=ao.2.1
     cases h4:(decide ((((2*i:Nat):Int):Int)<((w.length:Nat):Int))) with
     | false=>
      have dT:=of_decide_eq_false h4
      rw [show (.tu [.v (.slice none 0 0),.v (.bool false)]:DV)=.tu [.em 5 1 (af o),.v (.bool true)] from (by have e:=hq.symm.trans ao.2.2;rw [List.drop_of_length_le (by omega)] at e;simp [dJ] at e)]
      exact aV tk mo hK rfl [(7,[(3,.b false)])] 2000 r (by kernel_rfl) (U h4 (U ((by first | rfl | (simp [af];done) | (simp [af];omega)):(i)=(af o).length) trivial))
     | true=>
      have dT:=of_decide_eq_true h4
      obtain ⟨b4,iM⟩:∃ x_,w[2*i]?=some x_:=⟨_,List.getElem?_eq_getElem (by omega)⟩
      obtain ⟨cu,iN⟩:∃ x_,w[2*i+1]?=some x_:=⟨_,List.getElem?_eq_getElem (by omega)⟩
      have bd:=(⟨_,iM,rfl⟩:∃ u:UInt8,(w:List UInt8)[2*i]?=some u∧(.v (.int .u8 (((b4.toNat:Nat):Int))):DV)=.v (.int .u8 (u.toNat:Int)))
      have b6:=((wi (by omega)):IntKind.i64.wrap ((((2*i:Nat):Int):Int)+1)=((2*i+1:Nat):Int))
      have cO:=(⟨_,iN,rfl⟩:∃ u:UInt8,(w:List UInt8)[2*i+1]?=some u∧(.v (.int .u8 (((cu.toNat:Nat):Int))):DV)=.v (.int .u8 (u.toNat:Int)))
      cases h5:(decide (hx b4<0)) with
      | false=>
       have du:=of_decide_eq_false h5
       cases h6:(decide (hx cu<0)) with
       | false=>
        have dx:=of_decide_eq_false h6
        cases h7:(decide ((((bG b4:Nat):Int):Int)<0)) with
        | false=>
         have dL:=of_decide_eq_false h7
         cases h8:(decide ((((bG cu:Nat):Int):Int)<0)) with
         | false=>
          have fg:=of_decide_eq_false h8
          exact bX (todo':=hd Tryz.f85 0) (E':=[(0,.d (.v (.string ⟨w.toArray⟩))),(4,.sl 0 (i+(1))),(5,.n (2*(i+1)))]) (M':=[.rw 5 1 (af o++[[.v (.int .u8 ((((bz (((16*bG b4+bG cu:Nat):Int))).toNat:Nat):Int)))]])]) tk mo hK [(7,[(3,.b true)]),(8,[(1,.z (((2*(i+1):Nat):Int)))]),(9,[(2,.ix (2*i) [.v (.int .u8 (((b4.toNat:Nat):Int)))]),(6,.z (((2*i+1:Nat):Int))),(7,.ix (2*i+1) [.v (.int .u8 (((cu.toNat:Nat):Int)))]),(3,.aG (.n (bG b4))),(8,.aG (.n (bG cu)))]),(10,[(1,.b false),(4,.b false)]),(12,[(2,.z (((16*bG b4:Nat):Int))),(4,.z (((16*bG b4+bG cu:Nat):Int))),(5,.z ((((bz (((16*bG b4+bG cu:Nat):Int))).toNat:Nat):Int)))])] 2000 [0] [0,4,5] r (by kernel_rfl) (U h4 (U (ax ((2*i:Nat):Int)) (U bd (U b6 (U (ax ((2*i+1:Nat):Int)) (U cO (U (pX h5) (U (pX h6) (U h7 (U h8 (U ((DT (oe (by assumption)).2):IntKind.i64.wrap ((((bG b4:Nat):Int):Int)*2 ^ (min (4:Int).toNat IntKind.i64.bits))=((16*bG b4:Nat):Int)) (U ((by first | decide | omega):(0:Int)≤4) (U ((Di (oe (by assumption)).2 (oe (by assumption)).2):IntKind.i64.wrap ((BitVec.ofInt IntKind.i64.bits (((16*bG b4:Nat):Int)) ||| BitVec.ofInt IntKind.i64.bits (((bG cu:Nat):Int))).toNat:Int)=((16*bG b4+bG cu:Nat):Int)) (U ((gW _):IntKind.u8.wrap (((16*bG b4+bG cu:Nat):Int))=(((bz (((16*bG b4+bG cu:Nat):Int))).toNat:Nat):Int)) (U ((by first | rfl | (simp [af];done) | (simp [af];omega)):(i)=(af o).length) (U ((by first | rfl | (simp [af];done) | (simp [af];omega)):(1)=([[.v (.int .u8 ((((bz (((16*bG b4+bG cu:Nat):Int))).toNat:Nat):Int)))]]:List (List DV)).length) (U ((by first | omega | (simp [af];omega)):(2*((i)+(1))+192)*1≤281474976710656) (U ((by first | omega | (simp [af];omega)):(i)+(1)<4611686018427387904) (U ((by simp [aW,AV.one,bQ,af,ah,ints,steps,strs]):aW ([[.v (.int .u8 ((((bz (((16*bG b4+bG cu:Nat):Int))).toNat:Nat):Int)))]])) (U ((wi (by omega)):IntKind.i64.wrap ((((2*i:Nat):Int):Int)+2)=((2*(i+1):Nat):Int)) trivial)))))))))))))))))))) fun ac wd r=>bj (by omega) ac wd ⟨(o++[bz ((16*bG b4+bG cu:Nat):Int)]),⟨by simp;omega,by omega,by rw [ao.2.2,py iM iN,if_neg (by rintro (h | h);exact absurd h (of_decide_eq_false (by assumption));exact absurd h (of_decide_eq_false (by assumption)))];simp [Option.map_map,Function.comp_def]⟩,r.cast rfl (by simp [af])⟩
         | true=>
          have fg:=of_decide_eq_true h8
          exact absurd fg (by omega)
        | true=>
         have dL:=of_decide_eq_true h7
         exact absurd dL (by omega)
       | true=>
        have dx:=of_decide_eq_true h6
        cases h9:(decide ((((bG b4:Nat):Int):Int)<0)) with
        | false=>
         have lL:=of_decide_eq_false h9
         rw [show (.tu [.v (.slice none 0 0),.v (.bool false)]:DV)=.tu [.v (.slice none 0 0),.v (.bool false)] from rfl]
         exact aV tk mo hK rfl [(7,[(3,.b true)]),(9,[(2,.ix (2*i) [.v (.int .u8 (((b4.toNat:Nat):Int)))]),(6,.z (((2*i+1:Nat):Int))),(7,.ix (2*i+1) [.v (.int .u8 (((cu.toNat:Nat):Int)))]),(3,.aG (.n (bG b4))),(8,.aG (.z (-1)))]),(10,[(1,.b false)])] 2000 r (by kernel_rfl) (U h4 (U (ax ((2*i:Nat):Int)) (U bd (U b6 (U (ax ((2*i+1:Nat):Int)) (U cO (U (pX h5) (U (uE h6) (U h9 trivial)))))))))
        | true=>
         have lL:=of_decide_eq_true h9
         exact absurd lL (by omega)
      | true=>
       have du:=of_decide_eq_true h5
       cases cW:(decide (hx cu<0)) with
       | false=>
        have kO:=of_decide_eq_false cW
        rw [show (.tu [.v (.slice none 0 0),.v (.bool false)]:DV)=.tu [.v (.slice none 0 0),.v (.bool false)] from rfl]
        exact aV tk mo hK rfl [(7,[(3,.b true)]),(9,[(2,.ix (2*i) [.v (.int .u8 (((b4.toNat:Nat):Int)))]),(6,.z (((2*i+1:Nat):Int))),(7,.ix (2*i+1) [.v (.int .u8 (((cu.toNat:Nat):Int)))]),(3,.aG (.z (-1))),(8,.aG (.n (bG cu)))])] 2000 r (by kernel_rfl) (U h4 (U (ax ((2*i:Nat):Int)) (U bd (U b6 (U (ax ((2*i+1:Nat):Int)) (U cO (U (uE h5) (U (pX cW) trivial))))))))
       | true=>
        have kO:=of_decide_eq_true cW
        rw [show (.tu [.v (.slice none 0 0),.v (.bool false)]:DV)=.tu [.v (.slice none 0 0),.v (.bool false)] from rfl]
        exact aV tk mo hK rfl [(7,[(3,.b true)]),(9,[(2,.ix (2*i) [.v (.int .u8 (((b4.toNat:Nat):Int)))]),(6,.z (((2*i+1:Nat):Int))),(7,.ix (2*i+1) [.v (.int .u8 (((cu.toNat:Nat):Int)))]),(3,.aG (.z (-1))),(8,.aG (.z (-1)))])] 2000 r (by kernel_rfl) (U h4 (U (ax ((2*i:Nat):Int)) (U bd (U b6 (U (ax ((2*i+1:Nat):Int)) (U cO (U (uE h5) (U (uE cW) trivial))))))))
    | true=>
     have cT:=of_decide_eq_true h3
     exact absurd (.inr (.inr (by omega))) hN
   | true=>
    have cz:¬ _=_:=bne_iff_ne.1 h2
    exact absurd (.inr (.inl (by omega))) hN
  | true=>
   exact absurd (.inl (eq_of_beq h1)) hN
 | true=>
  exact absurd (eq_of_beq h0) h1
set_option maxRecDepth 100000 in
theorem Kk :ay Tryz.prog 85 [.d (.v (.string ⟨([45]).toArray⟩))] (.tu [.v (.slice none 0 0),.v (.bool true)]):=by
 refine ay.intro (by kernel_rfl) rfl rfl 53 rfl rfl fun w0 K ac hK r=>?_
 rw [show (.tu [.v (.slice none 0 0),.v (.bool true)]:DV)=.tu [.v (.slice none 0 0),.v (.bool true)] from rfl]
 exact aV tk mo hK rfl [(1,[(1,.b true)])] 2000 r (by kernel_rfl) (U ((by first | decide | simp):(([45]:List UInt8)==[45])=true) trivial)
set_option maxRecDepth 100000 in
theorem Lr (w:List UInt8) (h1:w≠[45]) (hO:w=[]∨w.length%2≠0∨510<w.length):ay Tryz.prog 85 [.d (.v (.string ⟨w.toArray⟩))] (.tu [.v (.slice none 0 0),.v (.bool false)]):=by
 refine ay.intro (by kernel_rfl) rfl rfl 53 rfl rfl fun w0 K ac hK r=>?_
 cases h0:(w==([45]:List UInt8)) with
 | false=>
  cases h1:(w==([]:List UInt8)) with
  | false=>
   have aI:=((yu _):(((w.length:Nat):Int):Int).tmod 2=((w.length%2:Nat):Int))
   cases h2:((((w.length%2:Nat):Int):Int) != 0) with
   | false=>
    have cz:=fM h2
    cases h3:(decide ((510:Int)<((w.length:Nat):Int))) with
    | false=>
     have cT:=of_decide_eq_false h3
     exact absurd hO (by rintro (h | h | h);exact absurd h (by have q:=‹(w==([]:List UInt8))=false›;intro e;subst e;simp at q);omega;omega)
    | true=>
     have cT:=of_decide_eq_true h3
     rw [show (.tu [.v (.slice none 0 0),.v (.bool false)]:DV)=.tu [.v (.slice none 0 0),.v (.bool false)] from rfl]
     exact aV tk mo hK rfl [(1,[(1,.b false)]),(3,[(1,.b false),(5,.z (((w.length%2:Nat):Int))),(6,.b false),(11,.b true)])] 2000 r (by kernel_rfl) (U h0 (U h1 (U aI (U ((by decide):(2:Int)≠0) (U h2 (U h3 trivial))))))
   | true=>
    have cz:¬ _=_:=bne_iff_ne.1 h2
    rw [show (.tu [.v (.slice none 0 0),.v (.bool false)]:DV)=.tu [.v (.slice none 0 0),.v (.bool false)] from rfl]
    exact aV tk mo hK rfl [(1,[(1,.b false)]),(3,[(1,.b false),(5,.z (((w.length%2:Nat):Int))),(6,.b true)])] 2000 r (by kernel_rfl) (U h0 (U h1 (U aI (U ((by decide):(2:Int)≠0) (U h2 trivial)))))
  | true=>
   rw [show (.tu [.v (.slice none 0 0),.v (.bool false)]:DV)=.tu [.v (.slice none 0 0),.v (.bool false)] from rfl]
   exact aV tk mo hK rfl [(1,[(1,.b false)]),(3,[(1,.b true)])] 2000 r (by kernel_rfl) (U h0 (U h1 trivial))
 | true=>
  exact absurd (eq_of_beq h0) h1
theorem Ai (w:List UInt8):ay Tryz.prog 85 [.d (.v (.string ⟨w.toArray⟩))] (.tu [.em 5 1 (af (dj w).1),.v (.bool (dj w).2)]):=by
 have nl:∀ {b:Bool},ay Tryz.prog 85 [.d (.v (.string ⟨w.toArray⟩))] (.tu [.v (.slice none 0 0),.v (.bool b)])→ay Tryz.prog 85 [.d (.v (.string ⟨w.toArray⟩))] (.tu [.em 5 1 (af []),.v (.bool b)]):=fun h=>h.le (cx.tu (.cons (Le.tR 5 1) (.cons (Le.refl _) .nil)))
 by_cases h1:w=[45]
 ·subst h1;exact nl Kk
 ·by_cases hO:w=[]∨w.length%2≠0∨510<w.length
  ·rw [By h1 hO];exact nl (Lr w h1 hO)
  ·cases hq:dJ w with
   | none=>rw [AZ h1 hO hq];exact nl (Kj w h1 hO hq)
   | some q=>rw [A0 h1 hO hq];exact Ki w h1 hO q hq
end Go.Proofs.YtcnpikbbmbombaaGreatDoor
namespace Go.Proofs.YtcnpikbbmbombaaGreatDoor
open Go.RowKit
set_option maxRecDepth 100000 in
theorem Lt (l:List UInt8) (b:Bool) (z:Int) (hb:l.length<2147483648):aC Tryz.prog 65 [.pt 0 0,.z z] [.bx 108 [.d (.ro 1 (af l)),.d (.v (.bool b))]] (.d (.ro 1 (af (aR l b z)))) (jg (fo l b z) (fz l b z)):=by
 refine aC.intro (by kernel_rfl) rfl rfl 13 rfl rfl fun D w0 K bs ac wd hK (al:bs.m=1) r=>?_
 refine aY (y:=.d (.ro 1 (af (aR l b z)))) (N':=[.bx 108 [.d (.ro 1 (af (fo l b z))),.d (.v (.bool ((fz l b z))))]]) (rfl) (rfl) ?_
 exact aX tk mo hK rfl al [(3,[(4,.mem [0] (.d (.ro 1 (af (aR l b z)))) [.bx 108 [.d (.ro 1 (af (fo l b z))),.d (.v (.bool ((fz l b z))))]]),(5,.aG (.ro 1 (af (aR l b z))))])] 2000 [0] r (by kernel_rfl) (U (od:dB Tryz.prog 61) (U (wH l b z) (U (AX (aR l b z) (by unfold aR;split;simp;simp;omega)) trivial)))
abbrev eD:=List UInt8×Bool
def qu (r:eD):List aj:=jg r.1 r.2
def bH (z:Int) (r:eD):eD:=(fo r.1 r.2 z,fz r.1 r.2 z)
def v8 (r:eD):Nat:=((aR r.1 r.2 1).getD 0 0).toNat
def kv (r:eD):Nat:=((aR r.1 r.2 2).getD 0 0).toNat+((aR r.1 r.2 2).getD 1 0).toNat*256
def vU (r:eD):Nat:=(oX r.1 r.2).toNat
def rU (r:eD):eD:=(qs r.1 r.2,sw r.1 r.2)
theorem ML (r:eD):v8 r<256:=UInt8.toNat_lt _
theorem Lu (r:eD):kv r<65536:=by
 have h1:=((aR r.1 r.2 2).getD 0 0).toNat_lt
 have h2:=((aR r.1 r.2 2).getD 1 0).toNat_lt
 unfold kv;omega
theorem sB (r:eD):IntKind.i64.wrap ((v8 r:Nat):Int)=((v8 r:Nat):Int):=wi (by have:=ML r;omega)
theorem N3 (r:eD):IntKind.i64.wrap ((kv r:Nat):Int)=((kv r:Nat):Int):=wi (by have:=Lu r;omega)
theorem qv (r:eD):aC Tryz.prog 62 [.pt 0 0] (qu r) (.d (.v (.int .u8 ((v8 r:Nat):Int)))) (qu (bH 1 r)):=EL r.1 r.2
theorem N4 (r:eD):aC Tryz.prog 63 [.pt 0 0] (qu r) (.d (.v (.int .u16 ((kv r:Nat):Int)))) (qu (bH 2 r)):=NW r.1 r.2
theorem Dj (z:Int):0≤IntKind.u64.wrap z:=by simp [IntKind.wrap,IntKind.signed,IntKind.bits];omega
theorem Bz:∀ (l:List UInt8) (i:Nat) (x:Int),0≤x→0≤(iE l i x).1
 | [],_,_,_=>Int.le_refl _
 | c::r,i,x,h=>by
  unfold iE
  split
  ·exact Int.le_refl _
  ·split
   ·split
    ·exact Int.le_refl _
    ·exact Dj _
   ·exact Bz r (i+1) _ (Dj _)
theorem Kl (l:List UInt8) (b:Bool):0≤oX l b:=by
 unfold oX fJ;split
 ·exact Int.le_refl _
 ·split
  ·exact Int.le_refl _
  ·exact Bz _ _ _ (Int.le_refl _)
theorem MM (r:eD):aC Tryz.prog 64 [.pt 0 0] (qu r) (.d (.v (.int .u64 ((vU r:Nat):Int)))) (qu (rU r)):=by
 have h:=J1 r.1 r.2
 rw [show oX r.1 r.2=((vU r:Nat):Int) by have:=Kl r.1 r.2;unfold vU;omega] at h;exact h
def gK (l:List UInt8):Nat:=v8 (l,false)
def cr (l:List UInt8):eD:=bH 1 (l,false)
def eo (l:List UInt8):eD:=cond (ae (gK l)).node (bH 1 (cr l)) (cr l)
def er (l:List UInt8):eD:=cond (ae (gK l)).peer (bH 1 (eo l)) (eo l)
def et (l:List UInt8):eD:=cond (ae (gK l)).n (bH 1 (er l)) (er l)
def eZ (l:List UInt8):eD:=cond (ae (gK l)).bit (bH 2 (et l)) (et l)
def bu (l:List UInt8):eD:=cond (ae (gK l)).inc (rU (eZ l)) (eZ l)
def dO (l:List UInt8):eD:=cond (ae (gK l)).body (bH (v8 (bu l)) (bH 1 (bu l))) (bu l)
def dH (l:List UInt8):Nat:=cond (ae (gK l)).node (v8 (cr l)) 0
def eE (l:List UInt8):Nat:=cond (ae (gK l)).peer (v8 (eo l)) 0
def fA (l:List UInt8):Nat:=cond (ae (gK l)).n (v8 (er l)) 0
def hC (l:List UInt8):Nat:=cond (ae (gK l)).bit (kv (et l)) 0
def j6 (l:List UInt8):Nat:=cond (ae (gK l)).inc (vU (eZ l)) 0
def j7 (l:List UInt8):List UInt8:=cond (ae (gK l)).body (aR (bH 1 (bu l)).1 (bH 1 (bu l)).2 (v8 (bu l))) []
def DU (l:List UInt8):aB:=⟨gK l,dH l,eE l,fA l,hC l,j6 l,j7 l⟩
def gZ:aB:=⟨0,0,0,0,0,0,[]⟩
def bA (l:List UInt8):aB×Nat:=if 14≤gK l then (gZ,1) else cond (dO l).2 (gZ,1) (DU l,l.length-(dO l).1.length)
theorem B7 {l:List UInt8} (h:14≤gK l):bA l=(gZ,1):=by unfold bA;rw [if_pos h]
theorem B8 {l:List UInt8} (h:gK l<14) (e:(dO l).2=true):bA l=(gZ,1):=by unfold bA;rw [if_neg (by omega),e];rfl
theorem B9 {l:List UInt8} (h:gK l<14) (e:(dO l).2=false):bA l=(DU l,l.length-(dO l).1.length):=by unfold bA;rw [if_neg (by omega),e];rfl
theorem fp {b c:Bool} {α:Type} {x y z:α} (h:b=c) (e:cond c x y=z):cond b x y=z:=h▸e
theorem iY (z:Int) (r:eD):(bH z r).1.length≤r.1.length:=CE
theorem Dk (r:eD):(rU r).1.length≤r.1.length:=Lj
theorem kc {b:Bool} {r s:eD} {n:Nat} (h:r.1.length≤n) (k:s.1.length≤n):(cond b r s).1.length≤n:=by cases b;exact k;exact h
theorem CK (l:List UInt8):(cr l).1.length≤l.length:=iY 1 (l,false)
theorem CL (l:List UInt8):(eo l).1.length≤l.length:=kc (Nat.le_trans (iY _ _) (CK l)) (CK l)
theorem CM (l:List UInt8):(er l).1.length≤l.length:=kc (Nat.le_trans (iY _ _) (CL l)) (CL l)
theorem CN (l:List UInt8):(et l).1.length≤l.length:=kc (Nat.le_trans (iY _ _) (CM l)) (CM l)
theorem CO (l:List UInt8):(eZ l).1.length≤l.length:=kc (Nat.le_trans (iY _ _) (CN l)) (CN l)
theorem tC (l:List UInt8):(bu l).1.length≤l.length:=kc (Nat.le_trans (Dk _) (CO l)) (CO l)
theorem Lv (l:List UInt8):(dO l).1.length≤l.length:=kc (Nat.le_trans (iY _ _) (Nat.le_trans (iY _ _) (tC l))) (tC l)
def gX (q:aB×Nat):AV:=.tu [.ag [.z q.1.kind,.z q.1.node,.z q.1.peer,.z q.1.n,.z q.1.bit,.u q.1.inc,.sl 1 (af q.1.body).length],.n q.2]
def oZ (q:aB×Nat):List aj:=[.gw 0 ai,.rw 5 1 (af q.1.body)]
theorem MN {l:List UInt8} (h:(ae (gK l)).node=true):eo l=bH 1 (cr l):=fp h rfl
theorem MO {l:List UInt8} (h:(ae (gK l)).node=true):dH l=v8 (cr l):=fp h rfl
theorem MP {l:List UInt8} (h:(ae (gK l)).node=false):eo l=cr l:=fp h rfl
theorem MQ {l:List UInt8} (h:(ae (gK l)).node=false):dH l=0:=fp h rfl
theorem MR {l:List UInt8} (h:(ae (gK l)).peer=true):er l=bH 1 (eo l):=fp h rfl
theorem MS {l:List UInt8} (h:(ae (gK l)).peer=true):eE l=v8 (eo l):=fp h rfl
theorem MT {l:List UInt8} (h:(ae (gK l)).peer=false):er l=eo l:=fp h rfl
theorem MU {l:List UInt8} (h:(ae (gK l)).peer=false):eE l=0:=fp h rfl
theorem MV {l:List UInt8} (h:(ae (gK l)).n=true):et l=bH 1 (er l):=fp h rfl
theorem MW {l:List UInt8} (h:(ae (gK l)).n=true):fA l=v8 (er l):=fp h rfl
theorem MX {l:List UInt8} (h:(ae (gK l)).n=false):et l=er l:=fp h rfl
theorem MY {l:List UInt8} (h:(ae (gK l)).n=false):fA l=0:=fp h rfl
theorem MZ {l:List UInt8} (h:(ae (gK l)).bit=true):eZ l=bH 2 (et l):=fp h rfl
theorem M0 {l:List UInt8} (h:(ae (gK l)).bit=true):hC l=kv (et l):=fp h rfl
theorem M4 {l:List UInt8} (h:(ae (gK l)).bit=false):eZ l=et l:=fp h rfl
theorem M5 {l:List UInt8} (h:(ae (gK l)).bit=false):hC l=0:=fp h rfl
theorem M6 {l:List UInt8} (h:(ae (gK l)).inc=true):bu l=rU (eZ l):=fp h rfl
theorem M7 {l:List UInt8} (h:(ae (gK l)).inc=true):j6 l=vU (eZ l):=fp h rfl
theorem M8 {l:List UInt8} (h:(ae (gK l)).inc=false):bu l=eZ l:=fp h rfl
theorem M9 {l:List UInt8} (h:(ae (gK l)).inc=false):j6 l=0:=fp h rfl
theorem Dl {l:List UInt8} (h:(ae (gK l)).body=true):dO l=bH (v8 (bu l)) (bH 1 (bu l)):=fp h rfl
theorem Na {l:List UInt8} (h:(ae (gK l)).body=true):j7 l=aR (bH 1 (bu l)).1 (bH 1 (bu l)).2 (v8 (bu l)):=fp h rfl
theorem Dm {l:List UInt8} (h:(ae (gK l)).body=false):dO l=bu l:=fp h rfl
theorem Nb {l:List UInt8} (h:(ae (gK l)).body=false):j7 l=[]:=fp h rfl
theorem Dn {b:Bool} (h:¬ (if b=true then (3:Int) else 0)=0):b=true:=by cases b;exact absurd rfl h;rfl
theorem Dp {b:Bool} (h:(if b=true then (3:Int) else 0)=0):b=false:=by cases b;rfl;exact absurd h (by decide)
set_option maxRecDepth 100000 in
theorem He (l:List UInt8) (hl:l.length<2147483648):aC Tryz.prog 36 [.d (.ro 1 (af l))] [.gw 0 ai] (gX (bA l)) (oZ (bA l)):=by
 refine aC.intro (by kernel_rfl) rfl rfl 69 rfl rfl fun D w0 K bs ac wd hK (al:bs.m=1) r=>?_
 have aI:=((sB _):IntKind.i64.wrap (((gK l:Nat):Int))=((gK l:Nat):Int))
 cases h0:(decide ((14:Int)≤((gK l:Nat):Int))) with
 | false=>
  have aT:=of_decide_eq_false h0
  refine bS (todo':=aft Tryz.f36 6) (E':=[(0,.d (.ro 1 (af l))),(2,.pt 1 0),(3,.z 0),(4,.pt 2 0),(6,.pt 3 0),(7,.pt 4 0)]) (M':=[.gw 0 ai,.bx 42 [.z 0,.z 0,.z 0,.z 0,.z 0,.d (.v (.int .u64 0)),.d (.v (.slice none 0 0))],.bx 108 [.d (.ro 1 (af (cr l).1)),.d (.v (.bool ((cr l).2)))],.bx 94 [.d (.v (.string ⟨((ae (gK l)).word).toArray⟩)),.d (.v (.bool ((ae (gK l)).node))),.d (.v (.bool ((ae (gK l)).peer))),.d (.v (.bool ((ae (gK l)).n))),.d (.v (.bool ((ae (gK l)).bit))),.d (.v (.bool ((ae (gK l)).inc))),.d (.v (.bool ((ae (gK l)).body)))],.bx 42 [.n (gK l),.z 0,.z 0,.z 0,.z 0,.d (.v (.int .u64 0)),.d (.v (.slice none 0 0))]]) tk mo hK al [(1,[(1,.mem [] (.pt 0 0) [.bx 108 [.d (.ro 1 (af ((l,false)).1)),.d (.v (.bool (((l,false)).2)))]])]),(2,[(1,.mem [2] (.d (.v (.int .u8 (((gK l:Nat):Int))))) [.bx 108 [.d (.ro 1 (af (cr l).1)),.d (.v (.bool ((cr l).2)))]]),(2,.z (((gK l:Nat):Int)))]),(3,[(1,.b false)]),(5,[(1,.ix (gK l) [.v (.string ⟨((ae (gK l)).word).toArray⟩),.v (.bool ((ae (gK l)).node)),.v (.bool ((ae (gK l)).peer)),.v (.bool ((ae (gK l)).n)),.v (.bool ((ae (gK l)).bit)),.v (.bool ((ae (gK l)).inc)),.v (.bool ((ae (gK l)).body))])])] 15 [0,1,2,3,4] [0,2,3,4,6,7] r (by kernel_rfl) (U (vw l hl) (U (qv ((l,false))) (U aI (U h0 (U (ax ((gK l:Nat):Int)) (U ((by omega):(gK l)<14) (U (nZ (by omega):List.take 7 (List.drop ((gK l)*7) (ai:List DV))=([.v (.string ⟨((ae (gK l)).word).toArray⟩),.v (.bool ((ae (gK l)).node)),.v (.bool ((ae (gK l)).peer)),.v (.bool ((ae (gK l)).n)),.v (.bool ((ae (gK l)).bit)),.v (.bool ((ae (gK l)).inc)),.v (.bool ((ae (gK l)).body))]:List DV)) trivial))))))) fun ac wd r=>?_
  have r:=r.dA (E1:=[(0,.d (.ro 1 (af l))),(2,.pt 1 0),(3,.z 0),(4,.pt 2 0),(6,.pt 3 0),(7,.pt 4 0)]) (M1:=[.gw 0 ai,.bx 42 [.z 0,.z 0,.z 0,.z 0,.z 0,.d (.v (.int .u64 0)),.d (.v (.slice none 0 0))],.bx 108 [.d (.ro 1 (af (cr l).1)),.d (.v (.bool ((cr l).2)))],.bx 94 [.d (.v (.string ⟨((ae (gK l)).word).toArray⟩)),.d (.v (.bool ((ae (gK l)).node))),.d (.v (.bool ((ae (gK l)).peer))),.d (.v (.bool ((ae (gK l)).n))),.d (.v (.bool ((ae (gK l)).bit))),.d (.v (.bool ((ae (gK l)).inc))),.d (.v (.bool ((ae (gK l)).body)))],.bx 42 [.n (gK l),.z 0,.z 0,.z 0,.z 0,.d (.v (.int .u64 0)),.d (.v (.slice none 0 0))]]) (M2:=[.gw 0 ai,.bx 42 [.z 0,.z 0,.z 0,.z 0,.z 0,.d (.v (.int .u64 0)),.d (.v (.slice none 0 0))],.bx 108 [.d (.ro 1 (af (cr l).1)),.d (.v (.bool ((cr l).2)))],.bx 94 [.d (.v (.string ⟨((ae (gK l)).word).toArray⟩)),.d (.v (.bool ((ae (gK l)).node))),.d (.v (.bool ((ae (gK l)).peer))),.d (.v (.bool ((ae (gK l)).n))),.d (.v (.bool ((ae (gK l)).bit))),.d (.v (.bool ((ae (gK l)).inc))),.d (.v (.bool ((ae (gK l)).body)))],.bx 42 [.n (gK l),.z 0,.z 0,.z 0,.z 0,.d (.v (.int .u64 0)),.sl 5 (0)],.rw 5 1 ([])]) [] [(4,6,5,1)] (by kernel_rfl) (by kernel_rfl)
  refine bS (todo':=aft Tryz.f36 7) (E':=[(0,.d (.ro 1 (af l))),(2,.pt 1 0),(3,.z 0),(4,.pt 2 0),(6,.pt 3 0),(7,.pt 4 0),(22,.d (.v (.bool ((ae (gK l)).node))))]) (M':=[.gw 0 ai,.bx 42 [.z 0,.z 0,.z 0,.z 0,.z 0,.d (.v (.int .u64 0)),.d (.v (.slice none 0 0))],.bx 108 [.d (.ro 1 (af (cr l).1)),.d (.v (.bool ((cr l).2)))],.bx 94 [.d (.v (.string ⟨((ae (gK l)).word).toArray⟩)),.d (.v (.bool ((ae (gK l)).node))),.d (.v (.bool ((ae (gK l)).peer))),.d (.v (.bool ((ae (gK l)).n))),.d (.v (.bool ((ae (gK l)).bit))),.d (.v (.bool ((ae (gK l)).inc))),.d (.v (.bool ((ae (gK l)).body)))],.bx 42 [.n (gK l),.z 0,.z 0,.z 0,.z 0,.d (.v (.int .u64 0)),.sl 5 (0)],.rw 5 1 ([])]) tk mo hK al [] 3 [0,1,2,3,4,5] [0,2,3,4,6,7,22] r (by kernel_rfl) trivial fun ac wd r=>?_
  suffices J9:∀ ac wd,RB D w0 K 69 bs [(0,.d (.ro 1 (af l))),(2,.pt 1 0),(4,.pt 2 0),(7,.pt 4 0),(6,.pt 3 0),(28,.d (.v (.bool ((ae (gK l)).peer))))] [.gw 0 ai,.bx 42 [.z 0,.z 0,.z 0,.z 0,.z 0,.d (.v (.int .u64 0)),.d (.v (.slice none 0 0))],.bx 108 [.d (.ro 1 (af (eo l).1)),.d (.v (.bool ((eo l).2)))],.bx 94 [.d (.v (.string ⟨((ae (gK l)).word).toArray⟩)),.d (.v (.bool ((ae (gK l)).node))),.d (.v (.bool ((ae (gK l)).peer))),.d (.v (.bool ((ae (gK l)).n))),.d (.v (.bool ((ae (gK l)).bit))),.d (.v (.bool ((ae (gK l)).inc))),.d (.v (.bool ((ae (gK l)).body)))],.bx 42 [.n (gK l),.n (dH l),.z 0,.z 0,.z 0,.d (.v (.int .u64 0)),.sl 5 (0)],.rw 5 1 ([])] ac wd→aF Tryz.prog 36 (aft Tryz.f36 9) (fE D w0 K bs (gX (bA l)) (oZ (bA l))) ac wd by
   cases h1:((ae (gK l)).node) with
   | false=>
    have r:=r.cast (E':=[(0,.d (.ro 1 (af l))),(2,.pt 1 0),(3,.z 0),(4,.pt 2 0),(6,.pt 3 0),(7,.pt 4 0),(22,.d (.v (.bool false)))]) (M':=[.gw 0 ai,.bx 42 [.z 0,.z 0,.z 0,.z 0,.z 0,.d (.v (.int .u64 0)),.d (.v (.slice none 0 0))],.bx 108 [.d (.ro 1 (af (cr l).1)),.d (.v (.bool ((cr l).2)))],.bx 94 [.d (.v (.string ⟨((ae (gK l)).word).toArray⟩)),.d (.v (.bool false)),.d (.v (.bool ((ae (gK l)).peer))),.d (.v (.bool ((ae (gK l)).n))),.d (.v (.bool ((ae (gK l)).bit))),.d (.v (.bool ((ae (gK l)).inc))),.d (.v (.bool ((ae (gK l)).body)))],.bx 42 [.n (gK l),.z 0,.z 0,.z 0,.z 0,.d (.v (.int .u64 0)),.sl 5 (0)],.rw 5 1 ([])]) (by rw [h1]) (by rw [h1])
    refine bS (todo':=aft Tryz.f36 9) (E':=[(0,.d (.ro 1 (af l))),(2,.pt 1 0),(4,.pt 2 0),(7,.pt 4 0),(6,.pt 3 0),(28,.d (.v (.bool ((ae (gK l)).peer))))]) (M':=[.gw 0 ai,.bx 42 [.z 0,.z 0,.z 0,.z 0,.z 0,.d (.v (.int .u64 0)),.d (.v (.slice none 0 0))],.bx 108 [.d (.ro 1 (af (cr l).1)),.d (.v (.bool ((cr l).2)))],.bx 94 [.d (.v (.string ⟨((ae (gK l)).word).toArray⟩)),.d (.v (.bool false)),.d (.v (.bool ((ae (gK l)).peer))),.d (.v (.bool ((ae (gK l)).n))),.d (.v (.bool ((ae (gK l)).bit))),.d (.v (.bool ((ae (gK l)).inc))),.d (.v (.bool ((ae (gK l)).body)))],.bx 42 [.n (gK l),.z 0,.z 0,.z 0,.z 0,.d (.v (.int .u64 0)),.sl 5 (0)],.rw 5 1 ([])]) tk mo hK al [] 5 [0,1,2,3,4,5] [0,2,4,7,6,28] r (by kernel_rfl) trivial fun ac wd r=>?_
    exact J9 ac wd (r.cast rfl (by rw [MP h1,MQ h1,h1]<;>rfl))
   | true=>
    have r:=r.cast (E':=[(0,.d (.ro 1 (af l))),(2,.pt 1 0),(3,.z 0),(4,.pt 2 0),(6,.pt 3 0),(7,.pt 4 0),(22,.d (.v (.bool true)))]) (M':=[.gw 0 ai,.bx 42 [.z 0,.z 0,.z 0,.z 0,.z 0,.d (.v (.int .u64 0)),.d (.v (.slice none 0 0))],.bx 108 [.d (.ro 1 (af (cr l).1)),.d (.v (.bool ((cr l).2)))],.bx 94 [.d (.v (.string ⟨((ae (gK l)).word).toArray⟩)),.d (.v (.bool true)),.d (.v (.bool ((ae (gK l)).peer))),.d (.v (.bool ((ae (gK l)).n))),.d (.v (.bool ((ae (gK l)).bit))),.d (.v (.bool ((ae (gK l)).inc))),.d (.v (.bool ((ae (gK l)).body)))],.bx 42 [.n (gK l),.z 0,.z 0,.z 0,.z 0,.d (.v (.int .u64 0)),.sl 5 (0)],.rw 5 1 ([])]) (by rw [h1]) (by rw [h1])
    refine bS (todo':=aft Tryz.f36 9) (E':=[(0,.d (.ro 1 (af l))),(2,.pt 1 0),(4,.pt 2 0),(7,.pt 4 0),(6,.pt 3 0),(28,.d (.v (.bool ((ae (gK l)).peer))))]) (M':=[.gw 0 ai,.bx 42 [.z 0,.z 0,.z 0,.z 0,.z 0,.d (.v (.int .u64 0)),.d (.v (.slice none 0 0))],.bx 108 [.d (.ro 1 (af (bH 1 (cr l)).1)),.d (.v (.bool ((bH 1 (cr l)).2)))],.bx 94 [.d (.v (.string ⟨((ae (gK l)).word).toArray⟩)),.d (.v (.bool true)),.d (.v (.bool ((ae (gK l)).peer))),.d (.v (.bool ((ae (gK l)).n))),.d (.v (.bool ((ae (gK l)).bit))),.d (.v (.bool ((ae (gK l)).inc))),.d (.v (.bool ((ae (gK l)).body)))],.bx 42 [.n (gK l),.n (v8 (cr l)),.z 0,.z 0,.z 0,.d (.v (.int .u64 0)),.sl 5 (0)],.rw 5 1 ([])]) tk mo hK al [(8,[(1,.mem [2] (.d (.v (.int .u8 (((v8 (cr l):Nat):Int))))) [.bx 108 [.d (.ro 1 (af (bH 1 (cr l)).1)),.d (.v (.bool ((bH 1 (cr l)).2)))]]),(2,.z (((v8 (cr l):Nat):Int)))])] 5 [0,1,2,3,4,5] [0,2,4,7,6,28] r (by kernel_rfl) (U (qv (cr l)) (U ((sB _):IntKind.i64.wrap (((v8 (cr l):Nat):Int))=((v8 (cr l):Nat):Int)) trivial)) fun ac wd r=>?_
    exact J9 ac wd (r.cast rfl (by rw [MN h1,MO h1,h1]<;>rfl))
  intro ac wd r
  suffices sx:∀ ac wd,RB D w0 K 69 bs [(0,.d (.ro 1 (af l))),(2,.pt 1 0),(4,.pt 2 0),(7,.pt 4 0),(6,.pt 3 0),(34,.d (.v (.bool ((ae (gK l)).n))))] [.gw 0 ai,.bx 42 [.z 0,.z 0,.z 0,.z 0,.z 0,.d (.v (.int .u64 0)),.d (.v (.slice none 0 0))],.bx 108 [.d (.ro 1 (af (er l).1)),.d (.v (.bool ((er l).2)))],.bx 94 [.d (.v (.string ⟨((ae (gK l)).word).toArray⟩)),.d (.v (.bool ((ae (gK l)).node))),.d (.v (.bool ((ae (gK l)).peer))),.d (.v (.bool ((ae (gK l)).n))),.d (.v (.bool ((ae (gK l)).bit))),.d (.v (.bool ((ae (gK l)).inc))),.d (.v (.bool ((ae (gK l)).body)))],.bx 42 [.n (gK l),.n (dH l),.n (eE l),.z 0,.z 0,.d (.v (.int .u64 0)),.sl 5 (0)],.rw 5 1 ([])] ac wd→aF Tryz.prog 36 (aft Tryz.f36 11) (fE D w0 K bs (gX (bA l)) (oZ (bA l))) ac wd by
   cases h2:((ae (gK l)).peer) with
   | false=>
    have r:=r.cast (E':=[(0,.d (.ro 1 (af l))),(2,.pt 1 0),(4,.pt 2 0),(7,.pt 4 0),(6,.pt 3 0),(28,.d (.v (.bool false)))]) (M':=[.gw 0 ai,.bx 42 [.z 0,.z 0,.z 0,.z 0,.z 0,.d (.v (.int .u64 0)),.d (.v (.slice none 0 0))],.bx 108 [.d (.ro 1 (af (eo l).1)),.d (.v (.bool ((eo l).2)))],.bx 94 [.d (.v (.string ⟨((ae (gK l)).word).toArray⟩)),.d (.v (.bool ((ae (gK l)).node))),.d (.v (.bool false)),.d (.v (.bool ((ae (gK l)).n))),.d (.v (.bool ((ae (gK l)).bit))),.d (.v (.bool ((ae (gK l)).inc))),.d (.v (.bool ((ae (gK l)).body)))],.bx 42 [.n (gK l),.n (dH l),.z 0,.z 0,.z 0,.d (.v (.int .u64 0)),.sl 5 (0)],.rw 5 1 ([])]) (by rw [h2]) (by rw [h2])
    refine bS (todo':=aft Tryz.f36 11) (E':=[(0,.d (.ro 1 (af l))),(2,.pt 1 0),(4,.pt 2 0),(7,.pt 4 0),(6,.pt 3 0),(34,.d (.v (.bool ((ae (gK l)).n))))]) (M':=[.gw 0 ai,.bx 42 [.z 0,.z 0,.z 0,.z 0,.z 0,.d (.v (.int .u64 0)),.d (.v (.slice none 0 0))],.bx 108 [.d (.ro 1 (af (eo l).1)),.d (.v (.bool ((eo l).2)))],.bx 94 [.d (.v (.string ⟨((ae (gK l)).word).toArray⟩)),.d (.v (.bool ((ae (gK l)).node))),.d (.v (.bool false)),.d (.v (.bool ((ae (gK l)).n))),.d (.v (.bool ((ae (gK l)).bit))),.d (.v (.bool ((ae (gK l)).inc))),.d (.v (.bool ((ae (gK l)).body)))],.bx 42 [.n (gK l),.n (dH l),.z 0,.z 0,.z 0,.d (.v (.int .u64 0)),.sl 5 (0)],.rw 5 1 ([])]) tk mo hK al [] 5 [0,1,2,3,4,5] [0,2,4,7,6,34] r (by kernel_rfl) trivial fun ac wd r=>?_
    exact sx ac wd (r.cast rfl (by rw [MT h2,MU h2,h2]<;>rfl))
   | true=>
    have r:=r.cast (E':=[(0,.d (.ro 1 (af l))),(2,.pt 1 0),(4,.pt 2 0),(7,.pt 4 0),(6,.pt 3 0),(28,.d (.v (.bool true)))]) (M':=[.gw 0 ai,.bx 42 [.z 0,.z 0,.z 0,.z 0,.z 0,.d (.v (.int .u64 0)),.d (.v (.slice none 0 0))],.bx 108 [.d (.ro 1 (af (eo l).1)),.d (.v (.bool ((eo l).2)))],.bx 94 [.d (.v (.string ⟨((ae (gK l)).word).toArray⟩)),.d (.v (.bool ((ae (gK l)).node))),.d (.v (.bool true)),.d (.v (.bool ((ae (gK l)).n))),.d (.v (.bool ((ae (gK l)).bit))),.d (.v (.bool ((ae (gK l)).inc))),.d (.v (.bool ((ae (gK l)).body)))],.bx 42 [.n (gK l),.n (dH l),.z 0,.z 0,.z 0,.d (.v (.int .u64 0)),.sl 5 (0)],.rw 5 1 ([])]) (by rw [h2]) (by rw [h2])
    refine bS (todo':=aft Tryz.f36 11) (E':=[(0,.d (.ro 1 (af l))),(2,.pt 1 0),(4,.pt 2 0),(7,.pt 4 0),(6,.pt 3 0),(34,.d (.v (.bool ((ae (gK l)).n))))]) (M':=[.gw 0 ai,.bx 42 [.z 0,.z 0,.z 0,.z 0,.z 0,.d (.v (.int .u64 0)),.d (.v (.slice none 0 0))],.bx 108 [.d (.ro 1 (af (bH 1 (eo l)).1)),.d (.v (.bool ((bH 1 (eo l)).2)))],.bx 94 [.d (.v (.string ⟨((ae (gK l)).word).toArray⟩)),.d (.v (.bool ((ae (gK l)).node))),.d (.v (.bool true)),.d (.v (.bool ((ae (gK l)).n))),.d (.v (.bool ((ae (gK l)).bit))),.d (.v (.bool ((ae (gK l)).inc))),.d (.v (.bool ((ae (gK l)).body)))],.bx 42 [.n (gK l),.n (dH l),.n (v8 (eo l)),.z 0,.z 0,.d (.v (.int .u64 0)),.sl 5 (0)],.rw 5 1 ([])]) tk mo hK al [(10,[(1,.mem [2] (.d (.v (.int .u8 (((v8 (eo l):Nat):Int))))) [.bx 108 [.d (.ro 1 (af (bH 1 (eo l)).1)),.d (.v (.bool ((bH 1 (eo l)).2)))]]),(2,.z (((v8 (eo l):Nat):Int)))])] 5 [0,1,2,3,4,5] [0,2,4,7,6,34] r (by kernel_rfl) (U (qv (eo l)) (U ((sB _):IntKind.i64.wrap (((v8 (eo l):Nat):Int))=((v8 (eo l):Nat):Int)) trivial)) fun ac wd r=>?_
    exact sx ac wd (r.cast rfl (by rw [MR h2,MS h2,h2]<;>rfl))
  intro ac wd r
  suffices sy:∀ ac wd,RB D w0 K 69 bs [(0,.d (.ro 1 (af l))),(2,.pt 1 0),(4,.pt 2 0),(7,.pt 4 0),(6,.pt 3 0),(40,.d (.v (.bool ((ae (gK l)).bit))))] [.gw 0 ai,.bx 42 [.z 0,.z 0,.z 0,.z 0,.z 0,.d (.v (.int .u64 0)),.d (.v (.slice none 0 0))],.bx 108 [.d (.ro 1 (af (et l).1)),.d (.v (.bool ((et l).2)))],.bx 94 [.d (.v (.string ⟨((ae (gK l)).word).toArray⟩)),.d (.v (.bool ((ae (gK l)).node))),.d (.v (.bool ((ae (gK l)).peer))),.d (.v (.bool ((ae (gK l)).n))),.d (.v (.bool ((ae (gK l)).bit))),.d (.v (.bool ((ae (gK l)).inc))),.d (.v (.bool ((ae (gK l)).body)))],.bx 42 [.n (gK l),.n (dH l),.n (eE l),.n (fA l),.z 0,.d (.v (.int .u64 0)),.sl 5 (0)],.rw 5 1 ([])] ac wd→aF Tryz.prog 36 (aft Tryz.f36 13) (fE D w0 K bs (gX (bA l)) (oZ (bA l))) ac wd by
   cases h3:((ae (gK l)).n) with
   | false=>
    have r:=r.cast (E':=[(0,.d (.ro 1 (af l))),(2,.pt 1 0),(4,.pt 2 0),(7,.pt 4 0),(6,.pt 3 0),(34,.d (.v (.bool false)))]) (M':=[.gw 0 ai,.bx 42 [.z 0,.z 0,.z 0,.z 0,.z 0,.d (.v (.int .u64 0)),.d (.v (.slice none 0 0))],.bx 108 [.d (.ro 1 (af (er l).1)),.d (.v (.bool ((er l).2)))],.bx 94 [.d (.v (.string ⟨((ae (gK l)).word).toArray⟩)),.d (.v (.bool ((ae (gK l)).node))),.d (.v (.bool ((ae (gK l)).peer))),.d (.v (.bool false)),.d (.v (.bool ((ae (gK l)).bit))),.d (.v (.bool ((ae (gK l)).inc))),.d (.v (.bool ((ae (gK l)).body)))],.bx 42 [.n (gK l),.n (dH l),.n (eE l),.z 0,.z 0,.d (.v (.int .u64 0)),.sl 5 (0)],.rw 5 1 ([])]) (by rw [h3]) (by rw [h3])
    refine bS (todo':=aft Tryz.f36 13) (E':=[(0,.d (.ro 1 (af l))),(2,.pt 1 0),(4,.pt 2 0),(7,.pt 4 0),(6,.pt 3 0),(40,.d (.v (.bool ((ae (gK l)).bit))))]) (M':=[.gw 0 ai,.bx 42 [.z 0,.z 0,.z 0,.z 0,.z 0,.d (.v (.int .u64 0)),.d (.v (.slice none 0 0))],.bx 108 [.d (.ro 1 (af (er l).1)),.d (.v (.bool ((er l).2)))],.bx 94 [.d (.v (.string ⟨((ae (gK l)).word).toArray⟩)),.d (.v (.bool ((ae (gK l)).node))),.d (.v (.bool ((ae (gK l)).peer))),.d (.v (.bool false)),.d (.v (.bool ((ae (gK l)).bit))),.d (.v (.bool ((ae (gK l)).inc))),.d (.v (.bool ((ae (gK l)).body)))],.bx 42 [.n (gK l),.n (dH l),.n (eE l),.z 0,.z 0,.d (.v (.int .u64 0)),.sl 5 (0)],.rw 5 1 ([])]) tk mo hK al [] 5 [0,1,2,3,4,5] [0,2,4,7,6,40] r (by kernel_rfl) trivial fun ac wd r=>?_
    exact sy ac wd (r.cast rfl (by rw [MX h3,MY h3,h3]<;>rfl))
   | true=>
    have r:=r.cast (E':=[(0,.d (.ro 1 (af l))),(2,.pt 1 0),(4,.pt 2 0),(7,.pt 4 0),(6,.pt 3 0),(34,.d (.v (.bool true)))]) (M':=[.gw 0 ai,.bx 42 [.z 0,.z 0,.z 0,.z 0,.z 0,.d (.v (.int .u64 0)),.d (.v (.slice none 0 0))],.bx 108 [.d (.ro 1 (af (er l).1)),.d (.v (.bool ((er l).2)))],.bx 94 [.d (.v (.string ⟨((ae (gK l)).word).toArray⟩)),.d (.v (.bool ((ae (gK l)).node))),.d (.v (.bool ((ae (gK l)).peer))),.d (.v (.bool true)),.d (.v (.bool ((ae (gK l)).bit))),.d (.v (.bool ((ae (gK l)).inc))),.d (.v (.bool ((ae (gK l)).body)))],.bx 42 [.n (gK l),.n (dH l),.n (eE l),.z 0,.z 0,.d (.v (.int .u64 0)),.sl 5 (0)],.rw 5 1 ([])]) (by rw [h3]) (by rw [h3])
    refine bS (todo':=aft Tryz.f36 13) (E':=[(0,.d (.ro 1 (af l))),(2,.pt 1 0),(4,.pt 2 0),(7,.pt 4 0),(6,.pt 3 0),(40,.d (.v (.bool ((ae (gK l)).bit))))]) (M':=[.gw 0 ai,.bx 42 [.z 0,.z 0,.z 0,.z 0,.z 0,.d (.v (.int .u64 0)),.d (.v (.slice none 0 0))],.bx 108 [.d (.ro 1 (af (bH 1 (er l)).1)),.d (.v (.bool ((bH 1 (er l)).2)))],.bx 94 [.d (.v (.string ⟨((ae (gK l)).word).toArray⟩)),.d (.v (.bool ((ae (gK l)).node))),.d (.v (.bool ((ae (gK l)).peer))),.d (.v (.bool true)),.d (.v (.bool ((ae (gK l)).bit))),.d (.v (.bool ((ae (gK l)).inc))),.d (.v (.bool ((ae (gK l)).body)))],.bx 42 [.n (gK l),.n (dH l),.n (eE l),.n (v8 (er l)),.z 0,.d (.v (.int .u64 0)),.sl 5 (0)],.rw 5 1 ([])]) tk mo hK al [(12,[(1,.mem [2] (.d (.v (.int .u8 (((v8 (er l):Nat):Int))))) [.bx 108 [.d (.ro 1 (af (bH 1 (er l)).1)),.d (.v (.bool ((bH 1 (er l)).2)))]]),(2,.z (((v8 (er l):Nat):Int)))])] 5 [0,1,2,3,4,5] [0,2,4,7,6,40] r (by kernel_rfl) (U (qv (er l)) (U ((sB _):IntKind.i64.wrap (((v8 (er l):Nat):Int))=((v8 (er l):Nat):Int)) trivial)) fun ac wd r=>?_
    exact sy ac wd (r.cast rfl (by rw [MV h3,MW h3,h3]<;>rfl))
  intro ac wd r
  suffices EO:∀ ac wd,RB D w0 K 69 bs [(0,.d (.ro 1 (af l))),(2,.pt 1 0),(4,.pt 2 0),(7,.pt 4 0),(6,.pt 3 0),(46,.d (.v (.bool ((ae (gK l)).inc))))] [.gw 0 ai,.bx 42 [.z 0,.z 0,.z 0,.z 0,.z 0,.d (.v (.int .u64 0)),.d (.v (.slice none 0 0))],.bx 108 [.d (.ro 1 (af (eZ l).1)),.d (.v (.bool ((eZ l).2)))],.bx 94 [.d (.v (.string ⟨((ae (gK l)).word).toArray⟩)),.d (.v (.bool ((ae (gK l)).node))),.d (.v (.bool ((ae (gK l)).peer))),.d (.v (.bool ((ae (gK l)).n))),.d (.v (.bool ((ae (gK l)).bit))),.d (.v (.bool ((ae (gK l)).inc))),.d (.v (.bool ((ae (gK l)).body)))],.bx 42 [.n (gK l),.n (dH l),.n (eE l),.n (fA l),.n (hC l),.d (.v (.int .u64 0)),.sl 5 (0)],.rw 5 1 ([])] ac wd→aF Tryz.prog 36 (aft Tryz.f36 15) (fE D w0 K bs (gX (bA l)) (oZ (bA l))) ac wd by
   cases h4:((ae (gK l)).bit) with
   | false=>
    have r:=r.cast (E':=[(0,.d (.ro 1 (af l))),(2,.pt 1 0),(4,.pt 2 0),(7,.pt 4 0),(6,.pt 3 0),(40,.d (.v (.bool false)))]) (M':=[.gw 0 ai,.bx 42 [.z 0,.z 0,.z 0,.z 0,.z 0,.d (.v (.int .u64 0)),.d (.v (.slice none 0 0))],.bx 108 [.d (.ro 1 (af (et l).1)),.d (.v (.bool ((et l).2)))],.bx 94 [.d (.v (.string ⟨((ae (gK l)).word).toArray⟩)),.d (.v (.bool ((ae (gK l)).node))),.d (.v (.bool ((ae (gK l)).peer))),.d (.v (.bool ((ae (gK l)).n))),.d (.v (.bool false)),.d (.v (.bool ((ae (gK l)).inc))),.d (.v (.bool ((ae (gK l)).body)))],.bx 42 [.n (gK l),.n (dH l),.n (eE l),.n (fA l),.z 0,.d (.v (.int .u64 0)),.sl 5 (0)],.rw 5 1 ([])]) (by rw [h4]) (by rw [h4])
    refine bS (todo':=aft Tryz.f36 15) (E':=[(0,.d (.ro 1 (af l))),(2,.pt 1 0),(4,.pt 2 0),(7,.pt 4 0),(6,.pt 3 0),(46,.d (.v (.bool ((ae (gK l)).inc))))]) (M':=[.gw 0 ai,.bx 42 [.z 0,.z 0,.z 0,.z 0,.z 0,.d (.v (.int .u64 0)),.d (.v (.slice none 0 0))],.bx 108 [.d (.ro 1 (af (et l).1)),.d (.v (.bool ((et l).2)))],.bx 94 [.d (.v (.string ⟨((ae (gK l)).word).toArray⟩)),.d (.v (.bool ((ae (gK l)).node))),.d (.v (.bool ((ae (gK l)).peer))),.d (.v (.bool ((ae (gK l)).n))),.d (.v (.bool false)),.d (.v (.bool ((ae (gK l)).inc))),.d (.v (.bool ((ae (gK l)).body)))],.bx 42 [.n (gK l),.n (dH l),.n (eE l),.n (fA l),.z 0,.d (.v (.int .u64 0)),.sl 5 (0)],.rw 5 1 ([])]) tk mo hK al [] 5 [0,1,2,3,4,5] [0,2,4,7,6,46] r (by kernel_rfl) trivial fun ac wd r=>?_
    exact EO ac wd (r.cast rfl (by rw [M4 h4,M5 h4,h4]<;>rfl))
   | true=>
    have r:=r.cast (E':=[(0,.d (.ro 1 (af l))),(2,.pt 1 0),(4,.pt 2 0),(7,.pt 4 0),(6,.pt 3 0),(40,.d (.v (.bool true)))]) (M':=[.gw 0 ai,.bx 42 [.z 0,.z 0,.z 0,.z 0,.z 0,.d (.v (.int .u64 0)),.d (.v (.slice none 0 0))],.bx 108 [.d (.ro 1 (af (et l).1)),.d (.v (.bool ((et l).2)))],.bx 94 [.d (.v (.string ⟨((ae (gK l)).word).toArray⟩)),.d (.v (.bool ((ae (gK l)).node))),.d (.v (.bool ((ae (gK l)).peer))),.d (.v (.bool ((ae (gK l)).n))),.d (.v (.bool true)),.d (.v (.bool ((ae (gK l)).inc))),.d (.v (.bool ((ae (gK l)).body)))],.bx 42 [.n (gK l),.n (dH l),.n (eE l),.n (fA l),.z 0,.d (.v (.int .u64 0)),.sl 5 (0)],.rw 5 1 ([])]) (by rw [h4]) (by rw [h4])
    refine bS (todo':=aft Tryz.f36 15) (E':=[(0,.d (.ro 1 (af l))),(2,.pt 1 0),(4,.pt 2 0),(7,.pt 4 0),(6,.pt 3 0),(46,.d (.v (.bool ((ae (gK l)).inc))))]) (M':=[.gw 0 ai,.bx 42 [.z 0,.z 0,.z 0,.z 0,.z 0,.d (.v (.int .u64 0)),.d (.v (.slice none 0 0))],.bx 108 [.d (.ro 1 (af (bH 2 (et l)).1)),.d (.v (.bool ((bH 2 (et l)).2)))],.bx 94 [.d (.v (.string ⟨((ae (gK l)).word).toArray⟩)),.d (.v (.bool ((ae (gK l)).node))),.d (.v (.bool ((ae (gK l)).peer))),.d (.v (.bool ((ae (gK l)).n))),.d (.v (.bool true)),.d (.v (.bool ((ae (gK l)).inc))),.d (.v (.bool ((ae (gK l)).body)))],.bx 42 [.n (gK l),.n (dH l),.n (eE l),.n (fA l),.n (kv (et l)),.d (.v (.int .u64 0)),.sl 5 (0)],.rw 5 1 ([])]) tk mo hK al [(14,[(1,.mem [2] (.d (.v (.int .u16 (((kv (et l):Nat):Int))))) [.bx 108 [.d (.ro 1 (af (bH 2 (et l)).1)),.d (.v (.bool ((bH 2 (et l)).2)))]]),(2,.z (((kv (et l):Nat):Int)))])] 5 [0,1,2,3,4,5] [0,2,4,7,6,46] r (by kernel_rfl) (U (N4 (et l)) (U ((N3 _):IntKind.i64.wrap (((kv (et l):Nat):Int))=((kv (et l):Nat):Int)) trivial)) fun ac wd r=>?_
    exact EO ac wd (r.cast rfl (by rw [MZ h4,M0 h4,h4]<;>rfl))
  intro ac wd r
  suffices EP:∀ ac wd,RB D w0 K 69 bs [(0,.d (.ro 1 (af l))),(2,.pt 1 0),(4,.pt 2 0),(7,.pt 4 0),(51,.d (.v (.bool ((ae (gK l)).body))))] [.gw 0 ai,.bx 42 [.z 0,.z 0,.z 0,.z 0,.z 0,.d (.v (.int .u64 0)),.d (.v (.slice none 0 0))],.bx 108 [.d (.ro 1 (af (bu l).1)),.d (.v (.bool ((bu l).2)))],.bx 94 [.d (.v (.string ⟨((ae (gK l)).word).toArray⟩)),.d (.v (.bool ((ae (gK l)).node))),.d (.v (.bool ((ae (gK l)).peer))),.d (.v (.bool ((ae (gK l)).n))),.d (.v (.bool ((ae (gK l)).bit))),.d (.v (.bool ((ae (gK l)).inc))),.d (.v (.bool ((ae (gK l)).body)))],.bx 42 [.n (gK l),.n (dH l),.n (eE l),.n (fA l),.n (hC l),.u (j6 l),.sl 5 (0)],.rw 5 1 ([])] ac wd→aF Tryz.prog 36 (aft Tryz.f36 17) (fE D w0 K bs (gX (bA l)) (oZ (bA l))) ac wd by
   cases h5:((ae (gK l)).inc) with
   | false=>
    have r:=r.cast (E':=[(0,.d (.ro 1 (af l))),(2,.pt 1 0),(4,.pt 2 0),(7,.pt 4 0),(6,.pt 3 0),(46,.d (.v (.bool false)))]) (M':=[.gw 0 ai,.bx 42 [.z 0,.z 0,.z 0,.z 0,.z 0,.d (.v (.int .u64 0)),.d (.v (.slice none 0 0))],.bx 108 [.d (.ro 1 (af (eZ l).1)),.d (.v (.bool ((eZ l).2)))],.bx 94 [.d (.v (.string ⟨((ae (gK l)).word).toArray⟩)),.d (.v (.bool ((ae (gK l)).node))),.d (.v (.bool ((ae (gK l)).peer))),.d (.v (.bool ((ae (gK l)).n))),.d (.v (.bool ((ae (gK l)).bit))),.d (.v (.bool false)),.d (.v (.bool ((ae (gK l)).body)))],.bx 42 [.n (gK l),.n (dH l),.n (eE l),.n (fA l),.n (hC l),.d (.v (.int .u64 0)),.sl 5 (0)],.rw 5 1 ([])]) (by rw [h5]) (by rw [h5])
    refine bS (todo':=aft Tryz.f36 17) (E':=[(0,.d (.ro 1 (af l))),(2,.pt 1 0),(4,.pt 2 0),(7,.pt 4 0),(51,.d (.v (.bool ((ae (gK l)).body))))]) (M':=[.gw 0 ai,.bx 42 [.z 0,.z 0,.z 0,.z 0,.z 0,.d (.v (.int .u64 0)),.d (.v (.slice none 0 0))],.bx 108 [.d (.ro 1 (af (eZ l).1)),.d (.v (.bool ((eZ l).2)))],.bx 94 [.d (.v (.string ⟨((ae (gK l)).word).toArray⟩)),.d (.v (.bool ((ae (gK l)).node))),.d (.v (.bool ((ae (gK l)).peer))),.d (.v (.bool ((ae (gK l)).n))),.d (.v (.bool ((ae (gK l)).bit))),.d (.v (.bool false)),.d (.v (.bool ((ae (gK l)).body)))],.bx 42 [.n (gK l),.n (dH l),.n (eE l),.n (fA l),.n (hC l),.d (.v (.int .u64 0)),.sl 5 (0)],.rw 5 1 ([])]) tk mo hK al [] 5 [0,1,2,3,4,5] [0,2,4,7,51] r (by kernel_rfl) trivial fun ac wd r=>?_
    exact EP ac wd (r.cast rfl (by rw [M8 h5,M9 h5,h5]<;>rfl))
   | true=>
    have r:=r.cast (E':=[(0,.d (.ro 1 (af l))),(2,.pt 1 0),(4,.pt 2 0),(7,.pt 4 0),(6,.pt 3 0),(46,.d (.v (.bool true)))]) (M':=[.gw 0 ai,.bx 42 [.z 0,.z 0,.z 0,.z 0,.z 0,.d (.v (.int .u64 0)),.d (.v (.slice none 0 0))],.bx 108 [.d (.ro 1 (af (eZ l).1)),.d (.v (.bool ((eZ l).2)))],.bx 94 [.d (.v (.string ⟨((ae (gK l)).word).toArray⟩)),.d (.v (.bool ((ae (gK l)).node))),.d (.v (.bool ((ae (gK l)).peer))),.d (.v (.bool ((ae (gK l)).n))),.d (.v (.bool ((ae (gK l)).bit))),.d (.v (.bool true)),.d (.v (.bool ((ae (gK l)).body)))],.bx 42 [.n (gK l),.n (dH l),.n (eE l),.n (fA l),.n (hC l),.d (.v (.int .u64 0)),.sl 5 (0)],.rw 5 1 ([])]) (by rw [h5]) (by rw [h5])
    refine bS (todo':=aft Tryz.f36 17) (E':=[(0,.d (.ro 1 (af l))),(2,.pt 1 0),(4,.pt 2 0),(7,.pt 4 0),(51,.d (.v (.bool ((ae (gK l)).body))))]) (M':=[.gw 0 ai,.bx 42 [.z 0,.z 0,.z 0,.z 0,.z 0,.d (.v (.int .u64 0)),.d (.v (.slice none 0 0))],.bx 108 [.d (.ro 1 (af (rU (eZ l)).1)),.d (.v (.bool ((rU (eZ l)).2)))],.bx 94 [.d (.v (.string ⟨((ae (gK l)).word).toArray⟩)),.d (.v (.bool ((ae (gK l)).node))),.d (.v (.bool ((ae (gK l)).peer))),.d (.v (.bool ((ae (gK l)).n))),.d (.v (.bool ((ae (gK l)).bit))),.d (.v (.bool true)),.d (.v (.bool ((ae (gK l)).body)))],.bx 42 [.n (gK l),.n (dH l),.n (eE l),.n (fA l),.n (hC l),.u (vU (eZ l)),.sl 5 (0)],.rw 5 1 ([])]) tk mo hK al [(16,[(1,.mem [2] (.u (vU (eZ l))) [.bx 108 [.d (.ro 1 (af (rU (eZ l)).1)),.d (.v (.bool ((rU (eZ l)).2)))]])])] 5 [0,1,2,3,4,5] [0,2,4,7,51] r (by kernel_rfl) (U (MM (eZ l)) trivial) fun ac wd r=>?_
    exact EP ac wd (r.cast rfl (by rw [M6 h5,M7 h5,h5]<;>rfl))
  intro ac wd r
  suffices o0:∀ ac wd,RB D w0 K 69 bs [(0,.d (.ro 1 (af l))),(2,.pt 1 0),(4,.pt 2 0),(7,.pt 4 0),(61,.d (.v (.bool ((((if (dO l).2=true then 3 else 0):Int) != 0)))))] [.gw 0 ai,.bx 42 [.z 0,.z 0,.z 0,.z 0,.z 0,.d (.v (.int .u64 0)),.d (.v (.slice none 0 0))],.bx 108 [.d (.ro 1 (af (dO l).1)),.d (.v (.bool ((dO l).2)))],.bx 94 [.d (.v (.string ⟨((ae (gK l)).word).toArray⟩)),.d (.v (.bool ((ae (gK l)).node))),.d (.v (.bool ((ae (gK l)).peer))),.d (.v (.bool ((ae (gK l)).n))),.d (.v (.bool ((ae (gK l)).bit))),.d (.v (.bool ((ae (gK l)).inc))),.d (.v (.bool ((ae (gK l)).body)))],.bx 42 [.n (gK l),.n (dH l),.n (eE l),.n (fA l),.n (hC l),.u (j6 l),.sl 5 ((af (j7 l)).length)],.rw 5 1 (af (j7 l))] ac wd→aF Tryz.prog 36 (aft Tryz.f36 19) (fE D w0 K bs (gX (bA l)) (oZ (bA l))) ac wd by
   cases h6:((ae (gK l)).body) with
   | false=>
    have r:=r.cast (E':=[(0,.d (.ro 1 (af l))),(2,.pt 1 0),(4,.pt 2 0),(7,.pt 4 0),(51,.d (.v (.bool false)))]) (M':=[.gw 0 ai,.bx 42 [.z 0,.z 0,.z 0,.z 0,.z 0,.d (.v (.int .u64 0)),.d (.v (.slice none 0 0))],.bx 108 [.d (.ro 1 (af (bu l).1)),.d (.v (.bool ((bu l).2)))],.bx 94 [.d (.v (.string ⟨((ae (gK l)).word).toArray⟩)),.d (.v (.bool ((ae (gK l)).node))),.d (.v (.bool ((ae (gK l)).peer))),.d (.v (.bool ((ae (gK l)).n))),.d (.v (.bool ((ae (gK l)).bit))),.d (.v (.bool ((ae (gK l)).inc))),.d (.v (.bool false))],.bx 42 [.n (gK l),.n (dH l),.n (eE l),.n (fA l),.n (hC l),.u (j6 l),.sl 5 (0)],.rw 5 1 ([])]) (by rw [h6]) (by rw [h6])
    refine bS (todo':=aft Tryz.f36 19) (E':=[(0,.d (.ro 1 (af l))),(2,.pt 1 0),(4,.pt 2 0),(7,.pt 4 0),(61,.d (.v (.bool ((((if (bu l).2=true then 3 else 0):Int) != 0)))))]) (M':=[.gw 0 ai,.bx 42 [.z 0,.z 0,.z 0,.z 0,.z 0,.d (.v (.int .u64 0)),.d (.v (.slice none 0 0))],.bx 108 [.d (.ro 1 (af (bu l).1)),.d (.v (.bool ((bu l).2)))],.bx 94 [.d (.v (.string ⟨((ae (gK l)).word).toArray⟩)),.d (.v (.bool ((ae (gK l)).node))),.d (.v (.bool ((ae (gK l)).peer))),.d (.v (.bool ((ae (gK l)).n))),.d (.v (.bool ((ae (gK l)).bit))),.d (.v (.bool ((ae (gK l)).inc))),.d (.v (.bool false))],.bx 42 [.n (gK l),.n (dH l),.n (eE l),.n (fA l),.n (hC l),.u (j6 l),.sl 5 (0)],.rw 5 1 ([])]) tk mo hK al [(19,[(1,.mem [2] (.z ((if (bu l).2=true then 3 else 0))) [.bx 108 [.d (.ro 1 (af (bu l).1)),.d (.v (.bool ((bu l).2)))]])])] 5 [0,1,2,3,4,5] [0,2,4,7,61] r (by kernel_rfl) (U (xq (bu l).1 (bu l).2) trivial) fun ac wd r=>?_
    exact o0 ac wd (r.cast (by rw [Dm h6]) (by rw [Dm h6,Nb h6,h6]<;>rfl))
   | true=>
    have r:=r.cast (E':=[(0,.d (.ro 1 (af l))),(2,.pt 1 0),(4,.pt 2 0),(7,.pt 4 0),(51,.d (.v (.bool true)))]) (M':=[.gw 0 ai,.bx 42 [.z 0,.z 0,.z 0,.z 0,.z 0,.d (.v (.int .u64 0)),.d (.v (.slice none 0 0))],.bx 108 [.d (.ro 1 (af (bu l).1)),.d (.v (.bool ((bu l).2)))],.bx 94 [.d (.v (.string ⟨((ae (gK l)).word).toArray⟩)),.d (.v (.bool ((ae (gK l)).node))),.d (.v (.bool ((ae (gK l)).peer))),.d (.v (.bool ((ae (gK l)).n))),.d (.v (.bool ((ae (gK l)).bit))),.d (.v (.bool ((ae (gK l)).inc))),.d (.v (.bool true))],.bx 42 [.n (gK l),.n (dH l),.n (eE l),.n (fA l),.n (hC l),.u (j6 l),.sl 5 (0)],.rw 5 1 ([])]) (by rw [h6]) (by rw [h6])
    refine bS (todo':=aft Tryz.f36 19) (E':=[(0,.d (.ro 1 (af l))),(2,.pt 1 0),(4,.pt 2 0),(7,.pt 4 0),(61,.d (.v (.bool ((((if (bH ((v8 (bu l):Nat):Int) (bH 1 (bu l))).2=true then 3 else 0):Int) != 0)))))]) (M':=[.gw 0 ai,.bx 42 [.z 0,.z 0,.z 0,.z 0,.z 0,.d (.v (.int .u64 0)),.d (.v (.slice none 0 0))],.bx 108 [.d (.ro 1 (af (bH ((v8 (bu l):Nat):Int) (bH 1 (bu l))).1)),.d (.v (.bool ((bH ((v8 (bu l):Nat):Int) (bH 1 (bu l))).2)))],.bx 94 [.d (.v (.string ⟨((ae (gK l)).word).toArray⟩)),.d (.v (.bool ((ae (gK l)).node))),.d (.v (.bool ((ae (gK l)).peer))),.d (.v (.bool ((ae (gK l)).n))),.d (.v (.bool ((ae (gK l)).bit))),.d (.v (.bool ((ae (gK l)).inc))),.d (.v (.bool true))],.bx 42 [.n (gK l),.n (dH l),.n (eE l),.n (fA l),.n (hC l),.u (j6 l),.sl 5 ((af (aR (bH 1 (bu l)).1 (bH 1 (bu l)).2 ((v8 (bu l):Nat):Int))).length)],.rw 5 1 (af (aR (bH 1 (bu l)).1 (bH 1 (bu l)).2 ((v8 (bu l):Nat):Int)))]) tk mo hK al [(18,[(2,.mem [2] (.d (.v (.int .u8 (((v8 (bu l):Nat):Int))))) [.bx 108 [.d (.ro 1 (af (bH 1 (bu l)).1)),.d (.v (.bool ((bH 1 (bu l)).2)))]]),(3,.z (((v8 (bu l):Nat):Int))),(4,.mem [2] (.d (.ro 1 (af (aR (bH 1 (bu l)).1 (bH 1 (bu l)).2 ((v8 (bu l):Nat):Int))))) [.bx 108 [.d (.ro 1 (af (bH ((v8 (bu l):Nat):Int) (bH 1 (bu l))).1)),.d (.v (.bool ((bH ((v8 (bu l):Nat):Int) (bH 1 (bu l))).2)))]]),(5,.aG (.em 5 1 (af (aR (bH 1 (bu l)).1 (bH 1 (bu l)).2 ((v8 (bu l):Nat):Int)))))]),(19,[(1,.mem [2] (.z ((if (bH ((v8 (bu l):Nat):Int) (bH 1 (bu l))).2=true then 3 else 0))) [.bx 108 [.d (.ro 1 (af (bH ((v8 (bu l):Nat):Int) (bH 1 (bu l))).1)),.d (.v (.bool ((bH ((v8 (bu l):Nat):Int) (bH 1 (bu l))).2)))]])])] 5 [0,1,2,3,4,6] [0,2,4,7,61] r (by kernel_rfl) (U (qv (bu l)) (U ((sB _):IntKind.i64.wrap (((v8 (bu l):Nat):Int))=((v8 (bu l):Nat):Int)) (U (Lt (bH 1 (bu l)).1 (bH 1 (bu l)).2 ((v8 (bu l):Nat):Int) (by have:=iY 1 (bu l);have:=tC l;omega)) (U (vk (aR (bH 1 (bu l)).1 (bH 1 (bu l)).2 ((v8 (bu l):Nat):Int)) (by have:=iY 1 (bu l);have:=tC l;unfold aR;split<;>simp<;>omega)) (U (xq (bH ((v8 (bu l):Nat):Int) (bH 1 (bu l))).1 (bH ((v8 (bu l):Nat):Int) (bH 1 (bu l))).2) trivial))))) fun ac wd r=>?_
    exact o0 ac wd (r.cast (by rw [Dl h6]) (by rw [Dl h6,Na h6,h6]<;>rfl))
  intro ac wd r
  cases h7:((((if (dO l).2=true then 3 else 0):Int) != 0)) with
  | false=>
   have dL:=fM h7
   have r:=r.cast (E':=[(0,.d (.ro 1 (af l))),(2,.pt 1 0),(4,.pt 2 0),(7,.pt 4 0),(61,.d (.v (.bool false)))]) (by rw [h7]) rfl
   refine aY (y:=.tu [.ag [.n (gK l),.n (dH l),.n (eE l),.n (fA l),.n (hC l),.u (j6 l),.sl 1 ((af (j7 l)).length)],.n (l.length-(dO l).1.length)]) (N':=[.gw 0 ai,.rw 5 1 (af (j7 l))]) ((by rw [B9 (by omega) (Dp dL)];rfl)) ((by rw [B9 (by omega) (Dp dL)];rfl)) ?_
   exact aX tk mo hK rfl al [(21,[(2,.z (((l.length:Nat):Int))),(4,.mem [2] (.n ((dO l).1.length)) [.bx 108 [.d (.ro 1 (af (dO l).1)),.d (.v (.bool ((dO l).2)))]]),(5,.z (((l.length-(dO l).1.length:Nat):Int)))])] 2000 [0,5] r (by kernel_rfl) (U ((by first | rfl | simp [af,ah,ints,steps,strs]):(((af l).length:Nat):Int)=((l.length:Nat):Int)) (U (B5 (dO l).1 (dO l).2) (U ((wi (by have:=Lv l;simp;omega)):IntKind.i64.wrap ((((l.length:Nat):Int):Int)-(((dO l).1.length:Nat):Int))=((l.length-(dO l).1.length:Nat):Int)) trivial)))
  | true=>
   have dL:¬ _=_:=bne_iff_ne.1 h7
   have r:=r.cast (E':=[(0,.d (.ro 1 (af l))),(2,.pt 1 0),(4,.pt 2 0),(7,.pt 4 0),(61,.d (.v (.bool true)))]) (by rw [h7]) rfl
   refine bS (todo':=aft Tryz.f36 20) (E':=[(0,.d (.ro 1 (af l))),(2,.pt 1 0),(4,.pt 2 0),(7,.pt 4 0),(3,.z 1)]) (M':=[.gw 0 ai,.bx 42 [.z 0,.z 0,.z 0,.z 0,.z 0,.d (.v (.int .u64 0)),.d (.v (.slice none 0 0))],.bx 108 [.d (.ro 1 (af (dO l).1)),.d (.v (.bool ((dO l).2)))],.bx 94 [.d (.v (.string ⟨((ae (gK l)).word).toArray⟩)),.d (.v (.bool ((ae (gK l)).node))),.d (.v (.bool ((ae (gK l)).peer))),.d (.v (.bool ((ae (gK l)).n))),.d (.v (.bool ((ae (gK l)).bit))),.d (.v (.bool ((ae (gK l)).inc))),.d (.v (.bool ((ae (gK l)).body)))],.bx 42 [.n (gK l),.n (dH l),.n (eE l),.n (fA l),.n (hC l),.u (j6 l),.sl 5 ((af (j7 l)).length)],.rw 5 1 (af (j7 l))]) tk mo hK al [] 3 [0,1,2,3,4,5] [0,2,4,7,3] r (by kernel_rfl) trivial fun ac wd r=>?_
   have r:=r.dA (E1:=[(0,.d (.ro 1 (af l))),(2,.pt 1 0),(4,.pt 2 0),(7,.pt 4 0),(3,.z 1)]) (M1:=[.gw 0 ai,.bx 42 [.z 0,.z 0,.z 0,.z 0,.z 0,.d (.v (.int .u64 0)),.d (.v (.slice none 0 0))],.bx 108 [.d (.ro 1 (af (dO l).1)),.d (.v (.bool ((dO l).2)))],.bx 94 [.d (.v (.string ⟨((ae (gK l)).word).toArray⟩)),.d (.v (.bool ((ae (gK l)).node))),.d (.v (.bool ((ae (gK l)).peer))),.d (.v (.bool ((ae (gK l)).n))),.d (.v (.bool ((ae (gK l)).bit))),.d (.v (.bool ((ae (gK l)).inc))),.d (.v (.bool ((ae (gK l)).body)))],.bx 42 [.n (gK l),.n (dH l),.n (eE l),.n (fA l),.n (hC l),.u (j6 l),.sl 5 ((af (j7 l)).length)],.rw 5 1 (af (j7 l))]) (M2:=[.gw 0 ai,.bx 42 [.z 0,.z 0,.z 0,.z 0,.z 0,.d (.v (.int .u64 0)),.sl 6 (0)],.bx 108 [.d (.ro 1 (af (dO l).1)),.d (.v (.bool ((dO l).2)))],.bx 94 [.d (.v (.string ⟨((ae (gK l)).word).toArray⟩)),.d (.v (.bool ((ae (gK l)).node))),.d (.v (.bool ((ae (gK l)).peer))),.d (.v (.bool ((ae (gK l)).n))),.d (.v (.bool ((ae (gK l)).bit))),.d (.v (.bool ((ae (gK l)).inc))),.d (.v (.bool ((ae (gK l)).body)))],.bx 42 [.n (gK l),.n (dH l),.n (eE l),.n (fA l),.n (hC l),.u (j6 l),.sl 5 ((af (j7 l)).length)],.rw 5 1 (af (j7 l)),.rw 5 1 ([])]) [] [(1,6,5,1)] (by kernel_rfl) (by kernel_rfl)
   refine aY (y:=.tu [.ag [.z 0,.z 0,.z 0,.z 0,.z 0,.d (.v (.int .u64 0)),.sl 1 (0)],.z 1]) (N':=[.gw 0 ai,.rw 5 1 ([])]) ((by rw [B8 (by omega) (Dn dL)];rfl)) ((by rw [B8 (by omega) (Dn dL)];rfl)) ?_
   exact aX tk mo hK rfl al [] 2000 [0,6] r (by kernel_rfl) trivial
 | true=>
  have aT:=of_decide_eq_true h0
  refine bS (todo':=aft Tryz.f36 4) (E':=[(0,.d (.ro 1 (af l))),(2,.pt 1 0),(3,.z 1),(4,.pt 2 0),(5,.n (gK l))]) (M':=[.gw 0 ai,.bx 42 [.z 0,.z 0,.z 0,.z 0,.z 0,.d (.v (.int .u64 0)),.d (.v (.slice none 0 0))],.bx 108 [.d (.ro 1 (af (cr l).1)),.d (.v (.bool ((cr l).2)))]]) tk mo hK al [(1,[(1,.mem [] (.pt 0 0) [.bx 108 [.d (.ro 1 (af ((l,false)).1)),.d (.v (.bool (((l,false)).2)))]])]),(2,[(1,.mem [2] (.d (.v (.int .u8 (((gK l:Nat):Int))))) [.bx 108 [.d (.ro 1 (af (cr l).1)),.d (.v (.bool ((cr l).2)))]]),(2,.z (((gK l:Nat):Int)))]),(3,[(1,.b true)])] 12 [0,1,2] [0,2,3,4,5] r (by kernel_rfl) (U (vw l hl) (U (qv ((l,false))) (U aI (U h0 trivial)))) fun ac wd r=>?_
  have r:=r.dA (E1:=[(0,.d (.ro 1 (af l))),(2,.pt 1 0),(3,.z 1),(4,.pt 2 0),(5,.n (gK l))]) (M1:=[.gw 0 ai,.bx 42 [.z 0,.z 0,.z 0,.z 0,.z 0,.d (.v (.int .u64 0)),.d (.v (.slice none 0 0))],.bx 108 [.d (.ro 1 (af (cr l).1)),.d (.v (.bool ((cr l).2)))]]) (M2:=[.gw 0 ai,.bx 42 [.z 0,.z 0,.z 0,.z 0,.z 0,.d (.v (.int .u64 0)),.sl 3 (0)],.bx 108 [.d (.ro 1 (af (cr l).1)),.d (.v (.bool ((cr l).2)))],.rw 5 1 ([])]) [] [(1,6,5,1)] (by kernel_rfl) (by kernel_rfl)
  refine aY (y:=.tu [.ag [.z 0,.z 0,.z 0,.z 0,.z 0,.d (.v (.int .u64 0)),.sl 1 (0)],.z 1]) (N':=[.gw 0 ai,.rw 5 1 ([])]) ((by rw [B7 (by omega)];rfl)) ((by rw [B7 (by omega)];rfl)) ?_
  exact aX tk mo hK rfl al [] 2000 [0,3] r (by kernel_rfl) trivial
end Go.Proofs.YtcnpikbbmbombaaGreatDoor
namespace Go.Proofs.YtcnpikbbmbombaaGreatDoor
open Go.RowKit
theorem pJ {z:Int} {r:eD} (h:(bH z r).2=false):r.2=false:=by
 obtain ⟨l,b⟩:=r
 cases b with
 | false=>rfl
 | true=>
  have e:ku l true z:=.inl rfl
  unfold bH fz at h;simp only [if_pos e] at h;cases h
theorem Nc {r:eD} (h:(rU r).2=false):r.2=false:=by
 obtain ⟨l,b⟩:=r
 cases b with
 | false=>rfl
 | true=>unfold rU sw fJ at h;simp at h
theorem pz {c:Bool} {r s q:eD} (h:(cond c r s).2=false) (hr:r.2=false→q.2=false) (hs:s.2=false→q.2=false):q.2=false:=by cases c;exact hs h;exact hr h
theorem Nd {l:List UInt8} (h:(dO l).2=false):(cr l).2=false:=
 have h5:=pz (q:=bu l) h (fun h=>pJ (pJ h)) id
 have h4:=pz (q:=eZ l) h5 Nc id
 have h3:=pz (q:=et l) h4 pJ id
 have h2:=pz (q:=er l) h3 pJ id
 have h1:=pz (q:=eo l) h2 pJ id
 pz (q:=cr l) h1 pJ id
theorem Km {l:List UInt8} (h:(cr l).2=false):(cr l).1.length+1=l.length:=by
 by_cases e:ku l false 1
 ·unfold cr bH fz at h;simp only [if_pos e] at h;cases h
 ·unfold cr bH fo;simp only [if_neg e]
  unfold ku at e;simp;omega
theorem Kn (l:List UInt8):(dO l).1.length≤(cr l).1.length:=
 have h1:(eo l).1.length≤(cr l).1.length:=kc (iY _ _) (Nat.le_refl _)
 have h2:(er l).1.length≤(cr l).1.length:=kc (Nat.le_trans (iY _ _) h1) h1
 have h3:(et l).1.length≤(cr l).1.length:=kc (Nat.le_trans (iY _ _) h2) h2
 have h4:(eZ l).1.length≤(cr l).1.length:=kc (Nat.le_trans (iY _ _) h3) h3
 have h5:(bu l).1.length≤(cr l).1.length:=kc (Nat.le_trans (Dk _) h4) h4
 kc (Nat.le_trans (iY _ _) (Nat.le_trans (iY _ _) h5)) h5
theorem Ca (l:List UInt8):1≤(bA l).2:=by
 unfold bA;split
 ·exact Nat.le_refl _
 ·cases e:(dO l).2 with
  | true=>exact Nat.le_refl _
  | false=>
   have h1:=Km (Nd e)
   have h2:=Kn l
   show 1≤l.length-(dO l).1.length
   omega
theorem Lw {l:List UInt8} (h:1≤l.length):(bA l).2≤l.length:=by
 unfold bA;split
 ·exact h
 ·cases (dO l).2 with
  | true=>exact h
  | false=>exact Nat.sub_le _ _
def kP (b:List UInt8):List aB:=if h:b=[] then [] else (bA (b.take 258)).1::kP (b.drop (bA (b.take 258)).2)
termination_by b.length
decreasing_by
 have h1:=Ca (b.take 258)
 have h2:0<b.length:=List.length_pos_iff.2 h
 simp;omega
theorem vV:kP []=[]:=by rw [kP,dif_pos rfl]
theorem sP {b:List UInt8} (h:0<b.length):kP b=(bA (b.take 258)).1::kP (b.drop (bA (b.take 258)).2):=by
 rw [kP,dif_neg (List.length_pos_iff.1 h)]
theorem N5 (l:List UInt8) (a:Nat) (ha:a≤l.length):List.drop a (List.take (min l.length (a+258)) (af l))=af ((l.drop a).take 258):=by
 rw [← Ae,← Af]
 congr 1
 rw [List.drop_take]
 rcases Nat.le_total (a+258) l.length with h | h
 ·rw [Nat.min_eq_right h,Nat.add_sub_cancel_left]
 ·rw [Nat.min_eq_left h,List.take_of_length_le (by simp),List.take_of_length_le (by simp;omega)]
def aB.jw (s:aB):List DV:=[.z s.kind,.z s.node,.z s.peer,.z s.n,.z s.bit,.u s.inc,.em 5 1 (af s.body)]
def bO (l:List aB):List (List DV):=l.map aB.jw
theorem j8 (l:List aB):(bO l).length=l.length:=by simp [bO]
set_option maxRecDepth 100000 in
theorem Lx (l:List UInt8) (hl:l.length≤65536) (hG:gE l≤l.length) (hM:bY (gC l)=true):aC Tryz.prog 15 [.d (.ro 1 (af l))] [.gw 0 ai] (.tu [.ag [.z (gV l 0),.sl 1 (gN l),.sl 2 (gM l)],.sl 3 (kP (l.drop (gE l))).length,.z 0]) ([.gw 0 ai,.rw 60 2 (ah (gL l (gN l))),.rw 3 1 (ints (gH l (gM l))),.rw 42 7 (bO (kP (l.drop (gE l))))]):=by
 refine aC.intro (by kernel_rfl) rfl rfl 58 rfl rfl fun D w0 K bs ac wd hK (al:bs.m=1) r=>?_
 have aI:=((by simp [af]):(((af l).length:Nat):Int)=((l.length:Nat):Int))
 cases h0:(decide ((65536:Int)<((l.length:Nat):Int))) with
 | false=>
  have aT:=of_decide_eq_false h0
  have bd:=((by have h:=vw l (by omega);unfold jg at h;simpa using h):aC Tryz.prog 32 [.d (.ro 1 (af l))] [] (.pt 0 0) [.bx 108 [.d (.ro 1 (af (l.drop (0)))),.d (.v (.bool ((decide (l.length<(0))))))]])
  have b6:=(xq (l.drop (2+2*gN l+1+gM l)) (decide (l.length<(2+2*gN l+1+gM l))))
  cases h1:(((if (decide (l.length<(2+2*gN l+1+gM l)))=true then 3 else 0):Int) != 0) with
  | false=>
   have bR:=fM h1
   cases h2:(bY (gC l)) with
   | false=>
    exact absurd h2 (by rw [hM];decide)
   | true=>
    refine bp (todo':=hd Tryz.f15 0) (E':=[(0,.d (.ro 1 (af l))),(2,.pt 1 0),(6,.pt 2 0),(7,.d (.v (.slice none 0 0))),(8,.n (gE l))]) (M':=[.gw 0 ai,.bx 25 [.z 0,.d (.v (.slice none 0 0)),.d (.v (.slice none 0 0))],.bx 25 [.z (gV l 0),.sl 3 ((gN l)),.sl 4 ((gM l))],.rw 60 2 (ah (gL l (gN l))),.rw 3 1 (ints (gH l (gM l)))]) tk mo hK al [(1,[(1,.z (((l.length:Nat):Int))),(2,.b false)]),(3,[(1,.mem [] (.pt 0 0) [.bx 108 [.d (.ro 1 (af (l.drop (0)))),.d (.v (.bool ((decide (l.length<(0))))))]])]),(4,[(1,.mem [2] (.ag [.z (gV l 0),.sl 1 ((gN l)),.sl 2 ((gM l))]) [.bx 108 [.d (.ro 1 (af (l.drop (2+2*gN l+1+gM l)))),.d (.v (.bool ((decide (l.length<(2+2*gN l+1+gM l))))))],.rw 60 2 (ah (gL l (gN l))),.rw 3 1 (ints (gH l (gM l)))])]),(5,[(1,.mem [2] (.z ((if (decide (l.length<(2+2*gN l+1+gM l)))=true then 3 else 0))) [.bx 108 [.d (.ro 1 (af (l.drop (2+2*gN l+1+gM l)))),.d (.v (.bool ((decide (l.length<(2+2*gN l+1+gM l))))))]]),(2,.b false),(5,.call [.ag [.z (gV l 0),.d (.ro 2 (ah (gL l (gN l)))),.d (.ro 1 (ints (gH l (gM l))))]] (.v (.bool true)))]),(8,[(1,.z (((l.length:Nat):Int))),(3,.mem [2] (.n ((l.drop (2+2*gN l+1+gM l)).length)) [.bx 108 [.d (.ro 1 (af (l.drop (2+2*gN l+1+gM l)))),.d (.v (.bool ((decide (l.length<(2+2*gN l+1+gM l))))))]]),(4,.z (((gE l:Nat):Int)))])] 2000 [0,1,5,3,4] [0,2,6,7,8] r (by kernel_rfl) (U aI (U h0 (U bd (U (Lm l) (U b6 (U h1 (U ((by have k:=rD (gC l) (by show (gL l (gN l)).length≤_;rw [dY];have:=yp l;omega) (by show (gH l (gM l)).length≤_;rw [dZ];have:=yq l;omega);rw [h2] at k;exact k):ay Tryz.prog 21 [.ag [.z (gV l 0),.d (.ro 2 (ah (gL l (gN l)))),.d (.ro 1 (ints (gH l (gM l))))]] (.v (.bool true))) (U ((ft _):fe (.v (.bool true))) (U (iK (.z (gV l 0))) (U (cK (2)) (U ((by first | rfl | (simp [af,ah,ints,dY,dZ,j8];done) | (simp [af,ah,ints,dY,dZ,j8];omega)):((gN l))=(ah (gL l (gN l)):List (List DV)).length) (U ((by first | exact ew _ | exact ey _):b5 (ah (gL l (gN l)))=ah (gL l (gN l))) (U (cK (1)) (U ((by first | rfl | (simp [af,ah,ints,dY,dZ,j8];done) | (simp [af,ah,ints,dY,dZ,j8];omega)):((gM l))=(ints (gH l (gM l))).length) (U ((by first | exact ew _ | exact ey _):b5 (ints (gH l (gM l)))=ints (gH l (gM l))) (U aI (U (B5 (l.drop (2+2*gN l+1+gM l)) (decide (l.length<(2+2*gN l+1+gM l)))) (U ((wi (by simp;unfold gE at *;omega)):IntKind.i64.wrap ((((l.length:Nat):Int):Int)-(((l.drop (2+2*gN l+1+gM l)).length:Nat):Int))=((gE l:Nat):Int)) trivial)))))))))))))))))) fun ac wd r=>?_
    refine aF.rounds (Φ:=fun (i:Nat) ac wd=>∃ a:Nat,∃ S:List aB,(i≤a∧a≤l.length∧S.length=i∧S++kP (l.drop a)=kP (l.drop (gE l)))∧RB D w0 K 58 bs [(0,.d (.ro 1 (af l))),(2,.pt 1 0),(6,.pt 2 0),(7,.sl 5 (i)),(8,.n a)] [.gw 0 ai,.bx 25 [.z 0,.d (.v (.slice none 0 0)),.d (.v (.slice none 0 0))],.bx 25 [.z (gV l 0),.sl 3 ((gN l)),.sl 4 ((gM l))],.rw 60 2 (ah (gL l (gN l))),.rw 3 1 (ints (gH l (gM l))),.rw 42 7 (bO S)] ac wd) (l.length) ?_ (Nat.zero_le _) ⟨(gE l),[],⟨Nat.zero_le _,hG,rfl,by simp⟩,r.dA (M1:=[.gw 0 ai,.bx 25 [.z 0,.d (.v (.slice none 0 0)),.d (.v (.slice none 0 0))],.bx 25 [.z (gV l 0),.sl 3 ((gN l)),.sl 4 ((gM l))],.rw 60 2 (ah (gL l (gN l))),.rw 3 1 (ints (gH l (gM l))),.rw 42 7 []]) [(7,42,7)] [] (by kernel_rfl) (by kernel_rfl)⟩
    clear r
    rintro i dw bj ac wd ⟨a,S,ao,r⟩
    have QD:=ao.1
    have eC:=ao.2.1
    have eU:=ao.2.2.1
    cases h3:(decide ((((a:Nat):Int):Int)<((l.length:Nat):Int))) with
    | false=>
     have cT:=of_decide_eq_false h3
     refine aY (y:=.tu [.ag [.z (gV l 0),.sl 1 ((gN l)),.sl 2 ((gM l))],.sl 3 (i),.z 0]) (N':=[.gw 0 ai,.rw 60 2 (ah (gL l (gN l))),.rw 3 1 (ints (gH l (gM l))),.rw 42 7 (bO S)]) ((by first | rfl | (rw [← ao.2.2.2,List.drop_of_length_le (by omega),vV,List.append_nil,ao.2.2.1]))) ((by first | rfl | (rw [← ao.2.2.2,List.drop_of_length_le (by omega),vV,List.append_nil]))) ?_
     exact aX tk mo hK rfl al [(9,[(2,.z (((l.length:Nat):Int))),(3,.b false)])] 2000 [0,3,4,5] r (by kernel_rfl) (U aI (U h3 trivial))
    | true=>
     have cT:=of_decide_eq_true h3
     have Pj:1≤((l.drop a).take 258).length:=by simp;omega
     have QE:=Ca ((l.drop a).take 258)
     have lK:=Lw Pj
     have QF:((l.drop a).take 258).length≤l.length-a:=by simp;omega
     have Pk:=sP (b:=l.drop a) (by simp;omega)
     exact bp (todo':=hd Tryz.f15 0) (E':=[(0,.d (.ro 1 (af l))),(2,.pt 1 0),(6,.pt 2 0),(7,.sl 5 (i+(1))),(8,.n (a+(bA ((l.drop a).take 258)).2))]) (M':=[.gw 0 ai,.bx 25 [.z 0,.d (.v (.slice none 0 0)),.d (.v (.slice none 0 0))],.bx 25 [.z (gV l 0),.sl 3 ((gN l)),.sl 4 ((gM l))],.rw 60 2 (ah (gL l (gN l))),.rw 3 1 (ints (gH l (gM l))),.rw 42 7 (bO S++[[.z ((bA ((l.drop a).take 258)).1.kind),.z ((bA ((l.drop a).take 258)).1.node),.z ((bA ((l.drop a).take 258)).1.peer),.z ((bA ((l.drop a).take 258)).1.n),.z ((bA ((l.drop a).take 258)).1.bit),.u ((bA ((l.drop a).take 258)).1.inc),.em 5 1 (af (bA ((l.drop a).take 258)).1.body)]])]) tk mo hK al [(9,[(2,.z (((l.length:Nat):Int))),(3,.b true)]),(10,[(3,.z (((l.length:Nat):Int))),(5,.z (((a+258:Nat):Int))),(6,.z (((min (l.length) (a+258):Nat):Int))),(7,.n2 (min (l.length) (a+258)) (a)),(8,.mem [0] (.tu [.ag [.z ((bA ((l.drop a).take 258)).1.kind),.z ((bA ((l.drop a).take 258)).1.node),.z ((bA ((l.drop a).take 258)).1.peer),.z ((bA ((l.drop a).take 258)).1.n),.z ((bA ((l.drop a).take 258)).1.bit),.u ((bA ((l.drop a).take 258)).1.inc),.sl 1 ((af (bA ((l.drop a).take 258)).1.body).length)],.n ((bA ((l.drop a).take 258)).2)]) [.gw 0 ai,.rw 5 1 (af (bA ((l.drop a).take 258)).1.body)])]),(12,[(2,.z (((a+(bA ((l.drop a).take 258)).2:Nat):Int)))])] 2000 [0,1,2,3,4,5] [0,2,6,7,8] r (by kernel_rfl) (U aI (U h3 (U aI (U ((wi (by omega)):IntKind.i64.wrap ((((a:Nat):Int):Int)+258)=((a+258:Nat):Int)) (U ((by omega):(min (((l.length:Nat):Int)) (((a+258:Nat):Int)):Int)=((min (l.length) (a+258):Nat):Int)) (U (ax ((a:Nat):Int)) (U (ax ((min (l.length) (a+258):Nat):Int)) (U ((by first | omega | decide | (simp;done) | (simp;omega)):(a)≤(min (l.length) (a+258))) (U ((by simp [af];omega):(min (l.length) (a+258))≤(af l).length) (U ((by have h:=He ((l.drop a).take 258) (by simp;omega);rw [N5 l a (by omega)];exact h):aC Tryz.prog 36 [.d (.ro 1 (List.drop (a) (List.take (min (l.length) (a+258)) (af l))))] [.gw 0 ai] (.tu [.ag [.z ((bA ((l.drop a).take 258)).1.kind),.z ((bA ((l.drop a).take 258)).1.node),.z ((bA ((l.drop a).take 258)).1.peer),.z ((bA ((l.drop a).take 258)).1.n),.z ((bA ((l.drop a).take 258)).1.bit),.u ((bA ((l.drop a).take 258)).1.inc),.sl 1 ((af (bA ((l.drop a).take 258)).1.body).length)],.n ((bA ((l.drop a).take 258)).2)]) [.gw 0 ai,.rw 5 1 (af (bA ((l.drop a).take 258)).1.body)]) (U (cK ((af (bA ((l.drop a).take 258)).1.body).length)) (U ((by first | rfl | (simp [af,ah,ints,dY,dZ,j8];done) | (simp [af,ah,ints,dY,dZ,j8];omega)):(i)=(bO S:List (List DV)).length) (U ((by first | rfl | (simp [af,ah,ints,dY,dZ,j8];done) | (simp [af,ah,ints,dY,dZ,j8];omega)):(1)=([[.z ((bA ((l.drop a).take 258)).1.kind),.z ((bA ((l.drop a).take 258)).1.node),.z ((bA ((l.drop a).take 258)).1.peer),.z ((bA ((l.drop a).take 258)).1.n),.z ((bA ((l.drop a).take 258)).1.bit),.u ((bA ((l.drop a).take 258)).1.inc),.em 5 1 (af (bA ((l.drop a).take 258)).1.body)]]:List (List DV)).length) (U ((by first | omega | (simp [af,ah,ints,dY,dZ,j8];done) | (simp [af,ah,ints,dY,dZ,j8];omega)):(2*((i)+(1))+192)*72≤281474976710656) (U ((by first | omega | (simp [af,ah,ints,dY,dZ,j8];done) | (simp [af,ah,ints,dY,dZ,j8];omega)):(i)+(1)<4611686018427387904) (U ((by simp [aW,AV.one,bQ,af,ah,ints,steps,strs]):aW ([[.z ((bA ((l.drop a).take 258)).1.kind),.z ((bA ((l.drop a).take 258)).1.node),.z ((bA ((l.drop a).take 258)).1.peer),.z ((bA ((l.drop a).take 258)).1.n),.z ((bA ((l.drop a).take 258)).1.bit),.u ((bA ((l.drop a).take 258)).1.inc),.em 5 1 (af (bA ((l.drop a).take 258)).1.body)]])) (U ((wi (by omega)):IntKind.i64.wrap ((((a:Nat):Int):Int)+(((bA ((l.drop a).take 258)).2:Nat):Int))=((a+(bA ((l.drop a).take 258)).2:Nat):Int)) trivial))))))))))))))))) fun ac wd r=>bj (by omega) ac wd ⟨(a+(bA ((l.drop a).take 258)).2),(S++[(bA ((l.drop a).take 258)).1]),⟨by omega,by omega,by simp;omega,by rw [← ao.2.2.2,Pk,List.drop_drop];simp⟩,r.cast rfl (by simp [bO,aB.jw])⟩
  | true=>
   have bR:¬ _=_:=bne_iff_ne.1 h1
   exact absurd (if_neg (by rw [decide_eq_true_eq];unfold gE at hG;omega)) bR
 | true=>
  have aT:=of_decide_eq_true h0
  exact absurd aT (by omega)
end Go.Proofs.YtcnpikbbmbombaaGreatDoor
namespace Go.Proofs.YtcnpikbbmbombaaGreatDoor
open Go.RowKit
theorem wK (w:List UInt8) {most:Nat} (h9:9≤most):(aL w most).1≤most:=by
 unfold aL
 split
 ·exact Nat.zero_le _
 ·cases e:dD most w 0 with
  | none=>exact Nat.zero_le _
  | some n=>exact wJ (Nat.zero_le _) h9 e
abbrev Ws:=List (List UInt8)×Bool
def qw (s:Ws):List aj:=[.bx 87 [.d (.ro 1 (strs s.1))],.bx 4 [.d (.v (.bool s.2))]]
def qx (s:Ws):List aj:=[.bx 87 [.d (.ro 1 (strs s.1))],.bx 4 [.d (.v (.bool s.2))],.bx 79 [.fn 83 [.pt 0 0,.pt 1 0]]]
def bf (s:Ws):List UInt8:=s.1.headD []
def bg (s:Ws):Ws:=(s.1.tail,s.2&&!s.1.isEmpty)
def pN (b:Bool) (most:Nat) (s:Ws):Nat:=cond b (aL (bf s) most).1 0
def pS (b:Bool) (most:Nat) (s:Ws):Ws:=cond b ((bg s).1,(bg s).2&&(aL (bf s) most).2) s
theorem tV (b:Bool) (s:Ws) {most:Nat} (h9:9≤most):pN b most s≤most:=by cases b;exact Nat.zero_le _;exact wK _ h9
def ia (s:Ws):Prop:=∀ w ∈ s.1,w.length≤1048576
theorem ia.w {s:Ws} (h:ia s):(bf s).length≤1048576:=by
 obtain ⟨l,b⟩:=s
 cases l with
 | nil=>exact Nat.zero_le _
 | cons x r=>exact h x (by simp)
theorem ia.s {s:Ws} (h:ia s):ia (bg s):=fun w hw=>h w (List.mem_of_mem_tail hw)
theorem ia.p {s:Ws} (h:ia s) (b:Bool) (m:Nat):ia (pS b m s):=by cases b;exact h;exact h.s
set_option maxRecDepth 100000 in
theorem IH (g:Bool):aC Tryz.prog 83 [.pt 0 0,.pt 1 0] [.bx 87 [.d (.ro 1 (strs (([]:List (List UInt8)),g).1))],.bx 4 [.d (.v (.bool ((([]:List (List UInt8)),g).2)))]] (.d (.v (.string ⟨(bf (([]:List (List UInt8)),g)).toArray⟩))) (qw (bg (([]:List (List UInt8)),g))):=by
 refine aC.intro (by kernel_rfl) rfl rfl 13 rfl rfl fun D w0 K bs ac wd hK (al:bs.m=2) r=>?_
 refine aY (y:=.d (.v (.string .empty))) (N':=[.bx 87 [.d (.ro 1 (strs (([]:List (List UInt8)),g).1))],.bx 4 [.d (.v (.bool false))]]) (rfl) ((by simp [bg,qw,strs])) ?_
 exact aX tk mo hK rfl al [(1,[(1,.z (0))])] 2000 [0,1] r (by kernel_rfl) (U ((by first | rfl | simp [strs]):(((strs (([]:List (List UInt8)),g).1).length:Nat):Int)=0) trivial)
set_option maxRecDepth 100000 in
theorem Hf (x:List UInt8) (q:List (List UInt8)) (g:Bool):aC Tryz.prog 83 [.pt 0 0,.pt 1 0] [.bx 87 [.d (.ro 1 (strs ((x::q),g).1))],.bx 4 [.d (.v (.bool (((x::q),g).2)))]] (.d (.v (.string ⟨(bf ((x::q),g)).toArray⟩))) (qw (bg ((x::q),g))):=by
 refine aC.intro (by kernel_rfl) rfl rfl 13 rfl rfl fun D w0 K bs ac wd hK (al:bs.m=2) r=>?_
 have aI:=((by first | rfl | simp [strs]):(((strs ((x::q),g).1).length:Nat):Int)=((q.length+1:Nat):Int))
 cases h0:((((q.length+1:Nat):Int):Int)==0) with
 | false=>
  have aT:=ne_of_beq_false h0
  refine aY (y:=.d (.v (.string ⟨x.toArray⟩))) (N':=[.bx 87 [.d (.ro 1 (List.drop (1) (strs ((x::q),g).1)))],.bx 4 [.d (.v (.bool (((x::q),g).2)))]]) (rfl) ((by simp [bg,qw,strs])) ?_
  exact aX tk mo hK rfl al [(1,[(1,.z (((q.length+1:Nat):Int))),(2,.b false)]),(4,[(1,.ix (0) [.v (.string ⟨x.toArray⟩)])]),(5,[(1,.n2 (0) (1))])] 2000 [0,1] r (by kernel_rfl) (U aI (U h0 (U (rfl:(0)=((0:Nat):Int)) (U (rfl:(strs ((x::q),g).1)[0]?=some [.v (.string ⟨x.toArray⟩)]) (U (rfl:(1:Int)=((1:Nat):Int)) (U ((by simp [strs]):(1)≤(strs ((x::q),g).1:List (List DV)).length) trivial))))))
 | true=>
  have aT:=eq_of_beq h0
  exact absurd aT (by omega)
theorem pL (s:Ws):aC Tryz.prog 83 [.pt 0 0,.pt 1 0] (qw s) (.d (.v (.string ⟨(bf s).toArray⟩))) (qw (bg s)):=by
 obtain ⟨l,g⟩:=s
 cases l with
 | nil=>exact IH g
 | cons x r=>exact Hf x r g
set_option maxRecDepth 100000 in
theorem II (most:Nat) (s:Ws) (h9:9≤most) (hm:most<18446744073709551616) (hs:ia s):aC Tryz.prog 84 [.d (.v (.bool true)),.u most,.pt 2 0,.pt 1 0] [.bx 87 [.d (.ro 1 (strs s.1))],.bx 4 [.d (.v (.bool (s.2)))],.bx 79 [.fn 83 [.pt 0 0,.pt 1 0]]] (.u (pN true most s)) (qx (pS true most s)):=by
 refine aC.intro (by kernel_rfl) rfl rfl 23 rfl rfl fun D w0 K bs ac wd hK (al:bs.m=3) r=>?_
 cases h0:((aL (bf s) most).2) with
 | false=>
  refine aY (y:=.u ((aL (bf s) most).1)) (N':=[.bx 87 [.d (.ro 1 (strs (bg s).1))],.bx 4 [.d (.v (.bool (((bg s).2&&false))))],.bx 79 [.fn 83 [.pt 0 0,.pt 1 0]]]) (rfl) ((by unfold qx pS;rw [h0];rfl)) ?_
  exact aX tk mo hK rfl al [(3,[(1,.mem [0,1] (.d (.v (.string ⟨(bf s).toArray⟩))) [.bx 87 [.d (.ro 1 (strs (bg s).1))],.bx 4 [.d (.v (.bool ((bg s).2)))]]),(3,.aG (.tu [.u ((aL (bf s) most).1),.v (.bool false)]))]),(4,[(2,.may (bg s).2 (.n 0)),(3,.res (.v (.bool ((bg s).2&&false))))])] 2000 [0,1,2] r (by kernel_rfl) (U (pL s) (U ((by have k:=s8 (bf s) most (Nat.le_trans hs.w (by decide)) h9 hm;rw [h0] at k;exact k):ay Tryz.prog 82 [.d (.v (.string ⟨(bf s).toArray⟩)),.u most] (.tu [.u ((aL (bf s) most).1),.v (.bool false)])) (U (iJ _:(fO (Value.bool (bg s).2)==some true)=(bg s).2) (U (fun hc=>trivial:(bg s).2=true→True) (U (jI _ _:∃ b0:Bool,(Value.bool (bg s).2)=.bool b0∧(bif b0 then (bif (bg s).2 then Value.bool false else undef) else Value.bool false)=.bool ((bg s).2&&false)) trivial)))))
 | true=>
  refine aY (y:=.u ((aL (bf s) most).1)) (N':=[.bx 87 [.d (.ro 1 (strs (bg s).1))],.bx 4 [.d (.v (.bool (((bg s).2&&true))))],.bx 79 [.fn 83 [.pt 0 0,.pt 1 0]]]) (rfl) ((by unfold qx pS;rw [h0];rfl)) ?_
  exact aX tk mo hK rfl al [(3,[(1,.mem [0,1] (.d (.v (.string ⟨(bf s).toArray⟩))) [.bx 87 [.d (.ro 1 (strs (bg s).1))],.bx 4 [.d (.v (.bool ((bg s).2)))]]),(3,.aG (.tu [.u ((aL (bf s) most).1),.v (.bool true)]))]),(4,[(2,.may (bg s).2 (.n 0)),(3,.res (.v (.bool ((bg s).2&&true))))])] 2000 [0,1,2] r (by kernel_rfl) (U (pL s) (U ((by have k:=s8 (bf s) most (Nat.le_trans hs.w (by decide)) h9 hm;rw [h0] at k;exact k):ay Tryz.prog 82 [.d (.v (.string ⟨(bf s).toArray⟩)),.u most] (.tu [.u ((aL (bf s) most).1),.v (.bool true)])) (U (iJ _:(fO (Value.bool (bg s).2)==some true)=(bg s).2) (U (fun hc=>trivial:(bg s).2=true→True) (U (jI _ _:∃ b0:Bool,(Value.bool (bg s).2)=.bool b0∧(bif b0 then (bif (bg s).2 then Value.bool true else undef) else Value.bool false)=.bool ((bg s).2&&true)) trivial)))))
set_option maxRecDepth 100000 in
theorem Hg (most:Nat) (s:Ws) (h9:9≤most) (hm:most<18446744073709551616) (hs:ia s):aC Tryz.prog 84 [.d (.v (.bool false)),.u most,.pt 2 0,.pt 1 0] [.bx 87 [.d (.ro 1 (strs s.1))],.bx 4 [.d (.v (.bool (s.2)))],.bx 79 [.fn 83 [.pt 0 0,.pt 1 0]]] (.u (pN false most s)) (qx (pS false most s)):=by
 refine aC.intro (by kernel_rfl) rfl rfl 23 rfl rfl fun D w0 K bs ac wd hK (al:bs.m=3) r=>?_
 refine aY (y:=.d (.v (.int .u64 0))) (N':=[.bx 87 [.d (.ro 1 (strs s.1))],.bx 4 [.d (.v (.bool (s.2)))],.bx 79 [.fn 83 [.pt 0 0,.pt 1 0]]]) (rfl) (rfl) ?_
 exact aX tk mo hK rfl al [] 2000 [0,1,2] r (by kernel_rfl) trivial
theorem rh (b:Bool) (most:Nat) (s:Ws) (h9:9≤most) (hm:most<18446744073709551616) (hs:ia s):aC Tryz.prog 84 [.d (.v (.bool b)),.u most,.pt 2 0,.pt 1 0] (qx s) (.u (pN b most s)) (qx (pS b most s)):=by
 cases b with
 | true=>exact II most s h9 hm hs
 | false=>exact Hg most s h9 hm hs
def ov (x:List UInt8):Nat:=lh.findIdx fun y=>y.word==x
theorem tq {k:Nat} (h:k<14):lh[k]?=some (ae k):=l4 (p:=fun k=>lh[k]?=some (ae k)) rfl rfl rfl rfl rfl rfl rfl rfl rfl rfl rfl rfl rfl rfl h
theorem Hh {x:List UInt8} {k:Nat} (h:k<14) (hn:∀ j,j<k→(ae j).word≠x) (e:(ae k).word=x):ov x=k:=by
 have hk:=tq h
 obtain ⟨h1,h2⟩:=List.getElem?_eq_some_iff.1 hk
 unfold ov
 rw [List.findIdx_eq h1]
 refine ⟨by rw [h2];simpa using e,fun j hj=>?_⟩
 obtain ⟨h3,h4⟩:=List.getElem?_eq_some_iff.1 (tq (show j<14 by omega))
 rw [h4];simpa using hn j hj
theorem IJ {x:List UInt8} (hn:∀ j,j<14→(ae j).word≠x):ov x=14:=by
 unfold ov
 refine (List.findIdx_eq_length (xs:=lh)).2 fun y hy=>?_
 obtain ⟨j,hj,e⟩:=List.getElem_of_mem hy
 obtain ⟨h3,h4⟩:=List.getElem?_eq_some_iff.1 (tq (show j<14 from hj))
 rw [← e,h4];simpa using hn j hj
def pK (l:List UInt8):Nat:=ov (bf (ak 32 l,true))
def dQ (l:List UInt8):Ws:=((ak 32 l).tail,true)
def cY (l:List UInt8):Ws:=pS (ae (pK l)).node 255 (dQ l)
def cZ (l:List UInt8):Ws:=pS (ae (pK l)).peer 255 (cY l)
def c6 (l:List UInt8):Ws:=pS (ae (pK l)).n 255 (cZ l)
def dq (l:List UInt8):Ws:=pS (ae (pK l)).bit 65535 (c6 l)
def aU (l:List UInt8):Ws:=pS (ae (pK l)).inc 18446744073709551615 (dq l)
def gv (l:List UInt8):Ws:=cond (ae (pK l)).body ((bg (aU l)).1,(bg (aU l)).2&&(dj (bf (aU l))).2) (aU l)
def pB (l:List UInt8):List UInt8:=cond (ae (pK l)).body (dj (bf (aU l))).1 []
def fU (l:List UInt8):aB:=⟨pK l,pN (ae (pK l)).node 255 (dQ l),pN (ae (pK l)).peer 255 (cY l),pN (ae (pK l)).n 255 (cZ l),pN (ae (pK l)).bit 65535 (c6 l),pN (ae (pK l)).inc 18446744073709551615 (dq l),pB l⟩
def dt (l:List UInt8):Bool:=decide (pK l<14)&&((gv l).2&&(gv l).1.isEmpty)
def aA (l:List UInt8):aB×Bool:=cond (dt l) (fU l,true) (gZ,false)
def qy (q:aB×Bool):AV:=.tu [.ag [.z q.1.kind,.z q.1.node,.z q.1.peer,.z q.1.n,.z q.1.bit,.u q.1.inc,.sl 1 (af q.1.body).length],.d (.v (.bool q.2))]
def qe (q:aB×Bool):List aj:=[.gw 0 ai,.rw 5 1 (af q.1.body)]
theorem ri {l:List UInt8} (h:dt l=false):aA l=(gZ,false):=by unfold aA;rw [h];rfl
theorem q4 {l:List UInt8} (h:dt l=true):aA l=(fU l,true):=by unfold aA;rw [h];rfl
theorem kz {c:UInt8}:∀ {s w:List UInt8},w ∈ ak c s→w.length≤s.length
 | [],w,h=>by simp [ak] at h;subst h;exact Nat.le_refl _
 | x::r,w,h=>by
  unfold ak at h;split at h
  ·rcases List.mem_cons.1 h with rfl | h
   ·exact Nat.zero_le _
   ·exact Nat.le_succ_of_le (kz h)
  ·cases e:ak c r with
   | nil=>rw [e] at h;simp at h;subst h;simp
   | cons y ys=>
    rw [e] at h
    rcases List.mem_cons.1 h with rfl | h
    ·exact Nat.succ_le_succ (kz (by rw [e];simp))
    ·exact Nat.le_succ_of_le (kz (by rw [e];exact List.mem_cons_of_mem _ h))
theorem s9 (c:UInt8) (l:List UInt8):(strs (ak c l))[0]?=some [.v (.string ⟨(bf (ak c l,true)).toArray⟩)]:=by
 have h:=ga c l
 cases e:ak c l with
 | nil=>rw [e] at h;simp at h
 | cons x r=>rfl
theorem drop_one (c:UInt8) (l:List UInt8):List.drop 1 (strs (ak c l))=strs (ak c l).tail:=by unfold strs;rw [← List.map_drop,List.drop_one]
theorem Ly {l:List UInt8} (h:l.length≤1048576):ia (dQ l):=fun x hx=>Nat.le_trans (kz (List.mem_of_mem_tail hx)) h
theorem BA {l:List (List UInt8)}:decide ((0:Int)<(((strs l).length:Nat):Int))=!l.isEmpty:=by cases l with
 | nil=>rfl
 | cons x r=>simp [strs]
theorem rj {l:List UInt8} (h:pK l<14) (b:(ae (pK l)).body=true):dt l=(((bg (aU l)).2&&(dj (bf (aU l))).2)&&(bg (aU l)).1.isEmpty):=by unfold dt gv;rw [b,decide_eq_true h];rfl
theorem tD {l:List UInt8} (h:pK l<14) (b:(ae (pK l)).body=false):dt l=((aU l).2&&(aU l).1.isEmpty):=by unfold dt gv;rw [b,decide_eq_true h];rfl
theorem Dq {l:List (List UInt8)} (h:decide ((0:Int)<(((strs l).length:Nat):Int))=true):l.isEmpty=false:=by rw [BA] at h;simpa using h
theorem Dr {l:List (List UInt8)} (h:decide ((0:Int)<(((strs l).length:Nat):Int))=false):l.isEmpty=true:=by rw [BA] at h;simpa using h
theorem tW {z:Int} (h:0≤z) (h2:z≤65535):IntKind.i64.wrap z=z:=wi (by omega)
set_option maxRecDepth 100000 in
theorem nX (line:List UInt8) (hl:line.length≤1048576):aC Tryz.prog 48 [.d (.v (.string ⟨line.toArray⟩))] [.gw 0 ai] (qy (aA line)) (qe (aA line)):=by
 refine aC.intro (by kernel_rfl) rfl rfl 93 rfl rfl fun D w0 K bs ac wd hK (al:bs.m=1) r=>?_
 refine bp (todo':=hd Tryz.f48 0) (E':=[(0,.d (.v (.string ⟨line.toArray⟩))),(2,.pt 1 0),(4,.pt 2 0),(5,.n 0)]) (M':=[.gw 0 ai,.bx 42 [.z 0,.z 0,.z 0,.z 0,.z 0,.d (.v (.int .u64 0)),.d (.v (.slice none 0 0))],.bx 87 [.d (.ro 1 (strs (ak 32 line)))]]) tk mo hK al [(1,[(1,.aG (.ro 1 (strs (ak 32 line))))])] 2000 [0,1,2] [0,2,4,5] r (by kernel_rfl) (U (tn 32 line hl) trivial) fun ac wd r=>?_
 refine aF.rounds (Φ:=fun (i:Nat) ac wd=>(∀ j,j<i→(ae j).word≠(bf (ak 32 line,true)))∧RB D w0 K 93 bs [(0,.d (.v (.string ⟨line.toArray⟩))),(2,.pt 1 0),(4,.pt 2 0),(5,.n i)] [.gw 0 ai,.bx 42 [.z 0,.z 0,.z 0,.z 0,.z 0,.d (.v (.int .u64 0)),.d (.v (.slice none 0 0))],.bx 87 [.d (.ro 1 (strs (ak 32 line)))]] ac wd) (14) ?_ (Nat.zero_le _) ⟨(fun j hj=>absurd hj (Nat.not_lt_zero _)),r⟩
 clear r
 rintro i dw bj ac wd ⟨ao,r⟩
 cases h0:(decide ((((i:Nat):Int):Int)<14)) with
 | false=>
  have aT:=of_decide_eq_false h0
  cases h1:((((i:Nat):Int):Int)==14) with
  | false=>
   have bR:=ne_of_beq_false h1
   exact absurd (show ((i:Nat):Int)=14 by omega) bR
  | true=>
   have bR:=eq_of_beq h1
   refine bS (todo':=aft Tryz.f48 5) (E':=[(2,.pt 1 0),(4,.pt 2 0),(5,.n i),(30,.d (.v (.bool true)))]) (M':=[.gw 0 ai,.bx 42 [.z 0,.z 0,.z 0,.z 0,.z 0,.d (.v (.int .u64 0)),.d (.v (.slice none 0 0))],.bx 87 [.d (.ro 1 (strs (ak 32 line)))]]) tk mo hK al [(3,[(1,.b false)]),(5,[(1,.b true)])] 8 [0,1,2] [2,4,5,30] r (by kernel_rfl) (U h0 (U h1 trivial)) fun ac wd r=>?_
   have hk:pK line=14:=IJ fun j hj=>ao j (by omega)
   refine bS (todo':=aft Tryz.f48 6) (E':=[(2,.pt 1 0),(4,.pt 2 0),(5,.n i),(3,.d (.v (.bool false)))]) (M':=[.gw 0 ai,.bx 42 [.z 0,.z 0,.z 0,.z 0,.z 0,.d (.v (.int .u64 0)),.d (.v (.slice none 0 0))],.bx 87 [.d (.ro 1 (strs (ak 32 line)))]]) tk mo hK al [] 3 [0,1,2] [2,4,5,3] r (by kernel_rfl) trivial fun ac wd r=>?_
   have r:=r.dA (E1:=[(2,.pt 1 0),(4,.pt 2 0),(5,.n i),(3,.d (.v (.bool false)))]) (M1:=[.gw 0 ai,.bx 42 [.z 0,.z 0,.z 0,.z 0,.z 0,.d (.v (.int .u64 0)),.d (.v (.slice none 0 0))],.bx 87 [.d (.ro 1 (strs (ak 32 line)))]]) (M2:=[.gw 0 ai,.bx 42 [.z 0,.z 0,.z 0,.z 0,.z 0,.d (.v (.int .u64 0)),.sl 3 (0)],.bx 87 [.d (.ro 1 (strs (ak 32 line)))],.rw 5 1 ([])]) [] [(1,6,5,1)] (by kernel_rfl) (by kernel_rfl)
   refine aY (y:=.tu [.ag [.z 0,.z 0,.z 0,.z 0,.z 0,.d (.v (.int .u64 0)),.sl 1 (0)],.d (.v (.bool false))]) (N':=[.gw 0 ai,.rw 5 1 ([])]) ((by rw [ri (by unfold dt;rw [decide_eq_false (by omega)];rfl)];rfl)) ((by rw [ri (by unfold dt;rw [decide_eq_false (by omega)];rfl)];rfl)) ?_
   exact aX tk mo hK rfl al [] 2000 [0,3] r (by kernel_rfl) trivial
 | true=>
  have aT:=of_decide_eq_true h0
  have aI:=(nZ (by omega):List.take 7 (List.drop ((i)*7) (ai:List DV))=([.v (.string ⟨((ae i).word).toArray⟩),.v (.bool ((ae i).node)),.v (.bool ((ae i).peer)),.v (.bool ((ae i).n)),.v (.bool ((ae i).bit)),.v (.bool ((ae i).inc)),.v (.bool ((ae i).body))]:List DV))
  have bd:=(s9 32 line:(strs (ak 32 line))[0]?=some [.v (.string ⟨(bf (ak 32 line,true)).toArray⟩)])
  cases h2:((ae i).word==(bf (ak 32 line,true))) with
  | false=>
   exact bp (todo':=hd Tryz.f48 0) tk mo hK al [(3,[(1,.b true),(4,.ix (i) [.v (.string ⟨((ae i).word).toArray⟩),.v (.bool ((ae i).node)),.v (.bool ((ae i).peer)),.v (.bool ((ae i).n)),.v (.bool ((ae i).bit)),.v (.bool ((ae i).inc)),.v (.bool ((ae i).body))]),(8,.ix (0) [.v (.string ⟨(bf (ak 32 line,true)).toArray⟩)]),(10,.b true)]),(4,[(1,.z (((i+1:Nat):Int)))])] 2000 [0,1,2] [0,2,4,5] r (by kernel_rfl) (U h0 (U (ax ((i:Nat):Int)) (U ((by omega):(i)<14) (U aI (U (rfl:(0)=((0:Nat):Int)) (U bd (U ((by simpa [bne] using h2):((ae i).word != (bf (ak 32 line,true)))=true) (U ((wi (by omega)):IntKind.i64.wrap ((((i:Nat):Int):Int)+1)=((i+1:Nat):Int)) trivial)))))))) fun ac wd r=>bj (by omega) ac wd ⟨(fun j hj=>by rcases Nat.lt_succ_iff_lt_or_eq.1 hj with h | rfl;exact ao j h;simpa using h2),r⟩
  | true=>
   have b6:=((by simpa [bne] using h2):((ae i).word != (bf (ak 32 line,true)))=false)
   cases h3:((((i:Nat):Int):Int)==14) with
   | false=>
    have cT:=ne_of_beq_false h3
    refine bS (todo':=aft Tryz.f48 5) (E':=[(2,.pt 1 0),(4,.pt 2 0),(5,.n i),(30,.d (.v (.bool false)))]) (M':=[.gw 0 ai,.bx 42 [.z 0,.z 0,.z 0,.z 0,.z 0,.d (.v (.int .u64 0)),.d (.v (.slice none 0 0))],.bx 87 [.d (.ro 1 (strs (ak 32 line)))]]) tk mo hK al [(3,[(1,.b true),(4,.ix (i) [.v (.string ⟨((ae i).word).toArray⟩),.v (.bool ((ae i).node)),.v (.bool ((ae i).peer)),.v (.bool ((ae i).n)),.v (.bool ((ae i).bit)),.v (.bool ((ae i).inc)),.v (.bool ((ae i).body))]),(8,.ix (0) [.v (.string ⟨(bf (ak 32 line,true)).toArray⟩)]),(10,.b false)]),(5,[(1,.b false)])] 8 [0,1,2] [2,4,5,30] r (by kernel_rfl) (U h0 (U (ax ((i:Nat):Int)) (U ((by omega):(i)<14) (U aI (U (rfl:(0)=((0:Nat):Int)) (U bd (U b6 (U h3 trivial)))))))) fun ac wd r=>?_
    have hk:pK line=i:=Hh (by omega) (fun j hj=>ao j hj) (by simpa using h2)
    subst hk
    have ER:=Ly hl
    have mG:ia (cY line):=ER.p _ _
    have kQ:ia (cZ line):=mG.p _ _
    have ES:ia (c6 line):=kQ.p _ _
    have ET:ia (dq line):=ES.p _ _
    have QG:ia (aU line):=ET.p _ _
    refine bS (todo':=aft Tryz.f48 12) (E':=[(2,.pt 1 0),(4,.pt 2 0),(6,.pt 3 0),(7,.pt 4 0),(8,.pt 5 0),(9,.fn 84 [.pt 5 0,.pt 4 0]),(10,.pt 6 0)]) (M':=[.gw 0 ai,.bx 42 [.z 0,.z 0,.z 0,.z 0,.z 0,.d (.v (.int .u64 0)),.d (.v (.slice none 0 0))],.bx 87 [.d (.ro 1 (List.drop (1) (strs (ak 32 line))))],.bx 94 [.d (.v (.string ⟨((ae (pK line)).word).toArray⟩)),.d (.v (.bool ((ae (pK line)).node))),.d (.v (.bool ((ae (pK line)).peer))),.d (.v (.bool ((ae (pK line)).n))),.d (.v (.bool ((ae (pK line)).bit))),.d (.v (.bool ((ae (pK line)).inc))),.d (.v (.bool ((ae (pK line)).body)))],.bx 4 [.d (.v (.bool true))],.bx 79 [.fn 83 [.pt 2 0,.pt 4 0]],.bx 42 [.n (pK line),.z 0,.z 0,.z 0,.z 0,.d (.v (.int .u64 0)),.d (.v (.slice none 0 0))]]) tk mo hK al [(7,[(1,.ix (pK line) [.v (.string ⟨((ae (pK line)).word).toArray⟩),.v (.bool ((ae (pK line)).node)),.v (.bool ((ae (pK line)).peer)),.v (.bool ((ae (pK line)).n)),.v (.bool ((ae (pK line)).bit)),.v (.bool ((ae (pK line)).inc)),.v (.bool ((ae (pK line)).body))])]),(8,[(1,.n2 (0) (1))])] 14 [0,1,2,3,4,5,6] [2,4,6,7,8,9,10] r (by kernel_rfl) (U (ax ((pK line:Nat):Int)) (U ((by omega):(pK line)<14) (U (nZ (by omega):List.take 7 (List.drop ((pK line)*7) (ai:List DV))=([.v (.string ⟨((ae (pK line)).word).toArray⟩),.v (.bool ((ae (pK line)).node)),.v (.bool ((ae (pK line)).peer)),.v (.bool ((ae (pK line)).n)),.v (.bool ((ae (pK line)).bit)),.v (.bool ((ae (pK line)).inc)),.v (.bool ((ae (pK line)).body))]:List DV)) (U (rfl:(1:Int)=((1:Nat):Int)) (U ((by have:=ga 32 line;simp [strs];omega):(1)≤(strs (ak 32 line):List (List DV)).length) trivial))))) fun ac wd r=>?_
    have r:=r.dA (E1:=[(2,.pt 1 0),(4,.pt 2 0),(6,.pt 3 0),(7,.pt 4 0),(8,.pt 5 0),(9,.fn 84 [.pt 5 0,.pt 4 0]),(10,.pt 6 0)]) (M1:=[.gw 0 ai,.bx 42 [.z 0,.z 0,.z 0,.z 0,.z 0,.d (.v (.int .u64 0)),.d (.v (.slice none 0 0))],.bx 87 [.d (.ro 1 (List.drop (1) (strs (ak 32 line))))],.bx 94 [.d (.v (.string ⟨((ae (pK line)).word).toArray⟩)),.d (.v (.bool ((ae (pK line)).node))),.d (.v (.bool ((ae (pK line)).peer))),.d (.v (.bool ((ae (pK line)).n))),.d (.v (.bool ((ae (pK line)).bit))),.d (.v (.bool ((ae (pK line)).inc))),.d (.v (.bool ((ae (pK line)).body)))],.bx 4 [.d (.v (.bool true))],.bx 79 [.fn 83 [.pt 2 0,.pt 4 0]],.bx 42 [.n (pK line),.z 0,.z 0,.z 0,.z 0,.d (.v (.int .u64 0)),.d (.v (.slice none 0 0))]]) (M2:=[.gw 0 ai,.bx 42 [.z 0,.z 0,.z 0,.z 0,.z 0,.d (.v (.int .u64 0)),.d (.v (.slice none 0 0))],.bx 87 [.d (.ro 1 (List.drop (1) (strs (ak 32 line))))],.bx 94 [.d (.v (.string ⟨((ae (pK line)).word).toArray⟩)),.d (.v (.bool ((ae (pK line)).node))),.d (.v (.bool ((ae (pK line)).peer))),.d (.v (.bool ((ae (pK line)).n))),.d (.v (.bool ((ae (pK line)).bit))),.d (.v (.bool ((ae (pK line)).inc))),.d (.v (.bool ((ae (pK line)).body)))],.bx 4 [.d (.v (.bool true))],.bx 79 [.fn 83 [.pt 2 0,.pt 4 0]],.bx 42 [.n (pK line),.z 0,.z 0,.z 0,.z 0,.d (.v (.int .u64 0)),.sl 7 (0)],.rw 5 1 ([])]) [] [(6,6,5,1)] (by kernel_rfl) (by kernel_rfl)
    refine bS (todo':=aft Tryz.f48 18) (E':=[(2,.pt 1 0),(4,.pt 2 0),(7,.pt 4 0),(8,.pt 5 0),(10,.pt 6 0),(71,.d (.v (.bool ((ae (pK line)).body))))]) (M':=[.gw 0 ai,.bx 42 [.z 0,.z 0,.z 0,.z 0,.z 0,.d (.v (.int .u64 0)),.d (.v (.slice none 0 0))],.bx 87 [.d (.ro 1 (strs (aU line).1))],.bx 94 [.d (.v (.string ⟨((ae (pK line)).word).toArray⟩)),.d (.v (.bool ((ae (pK line)).node))),.d (.v (.bool ((ae (pK line)).peer))),.d (.v (.bool ((ae (pK line)).n))),.d (.v (.bool ((ae (pK line)).bit))),.d (.v (.bool ((ae (pK line)).inc))),.d (.v (.bool ((ae (pK line)).body)))],.bx 4 [.d (.v (.bool ((aU line).2)))],.bx 79 [.fn 83 [.pt 2 0,.pt 4 0]],.bx 42 [.n (pK line),.n (pN (ae (pK line)).node 255 (dQ line)),.n (pN (ae (pK line)).peer 255 (cY line)),.n (pN (ae (pK line)).n 255 (cZ line)),.n (pN (ae (pK line)).bit 65535 (c6 line)),.u (pN (ae (pK line)).inc 18446744073709551615 (dq line)),.sl 7 (0)],.rw 5 1 ([])]) tk mo hK al [(13,[(3,.mem [2,4,5] (.u (pN (ae (pK line)).node 255 (dQ line))) [.bx 87 [.d (.ro 1 (strs (cY line).1))],.bx 4 [.d (.v (.bool ((cY line).2)))],.bx 79 [.fn 83 [.pt 0 0,.pt 1 0]]]),(4,.z (((pN (ae (pK line)).node 255 (dQ line):Nat):Int)))]),(14,[(3,.mem [2,4,5] (.u (pN (ae (pK line)).peer 255 (cY line))) [.bx 87 [.d (.ro 1 (strs (cZ line).1))],.bx 4 [.d (.v (.bool ((cZ line).2)))],.bx 79 [.fn 83 [.pt 0 0,.pt 1 0]]]),(4,.z (((pN (ae (pK line)).peer 255 (cY line):Nat):Int)))]),(15,[(3,.mem [2,4,5] (.u (pN (ae (pK line)).n 255 (cZ line))) [.bx 87 [.d (.ro 1 (strs (c6 line).1))],.bx 4 [.d (.v (.bool ((c6 line).2)))],.bx 79 [.fn 83 [.pt 0 0,.pt 1 0]]]),(4,.z (((pN (ae (pK line)).n 255 (cZ line):Nat):Int)))]),(16,[(3,.mem [2,4,5] (.u (pN (ae (pK line)).bit 65535 (c6 line))) [.bx 87 [.d (.ro 1 (strs (dq line).1))],.bx 4 [.d (.v (.bool ((dq line).2)))],.bx 79 [.fn 83 [.pt 0 0,.pt 1 0]]]),(4,.z (((pN (ae (pK line)).bit 65535 (c6 line):Nat):Int)))]),(17,[(3,.mem [2,4,5] (.u (pN (ae (pK line)).inc 18446744073709551615 (dq line))) [.bx 87 [.d (.ro 1 (strs (aU line).1))],.bx 4 [.d (.v (.bool ((aU line).2)))],.bx 79 [.fn 83 [.pt 0 0,.pt 1 0]]])])] 13 [0,1,2,3,4,5,6,7] [2,4,7,8,10,71] r (by kernel_rfl) (U ((by rw [drop_one];exact rh _ _ (dQ line) (by decide) (by decide) ER):aC Tryz.prog 84 [.d (.v (.bool ((ae (pK line)).node))),.d (.v (.int .u64 255)),.pt 2 0,.pt 1 0] [.bx 87 [.d (.ro 1 (List.drop (1) (strs (ak 32 line))))],.bx 4 [.d (.v (.bool true))],.bx 79 [.fn 83 [.pt 0 0,.pt 1 0]]] (.u (pN (ae (pK line)).node 255 (dQ line))) [.bx 87 [.d (.ro 1 (strs (cY line).1))],.bx 4 [.d (.v (.bool ((cY line).2)))],.bx 79 [.fn 83 [.pt 0 0,.pt 1 0]]]) (U ((tW (by omega) (by have:=tV (ae (pK line)).node (dQ line) (most:=255) (by decide);omega)):IntKind.i64.wrap (((pN (ae (pK line)).node 255 (dQ line):Nat):Int))=((pN (ae (pK line)).node 255 (dQ line):Nat):Int)) (U (rh _ _ (cY line) (by decide) (by decide) mG:aC Tryz.prog 84 [.d (.v (.bool ((ae (pK line)).peer))),.d (.v (.int .u64 255)),.pt 2 0,.pt 1 0] [.bx 87 [.d (.ro 1 (strs (cY line).1))],.bx 4 [.d (.v (.bool ((cY line).2)))],.bx 79 [.fn 83 [.pt 0 0,.pt 1 0]]] (.u (pN (ae (pK line)).peer 255 (cY line))) [.bx 87 [.d (.ro 1 (strs (cZ line).1))],.bx 4 [.d (.v (.bool ((cZ line).2)))],.bx 79 [.fn 83 [.pt 0 0,.pt 1 0]]]) (U ((tW (by omega) (by have:=tV (ae (pK line)).peer (cY line) (most:=255) (by decide);omega)):IntKind.i64.wrap (((pN (ae (pK line)).peer 255 (cY line):Nat):Int))=((pN (ae (pK line)).peer 255 (cY line):Nat):Int)) (U (rh _ _ (cZ line) (by decide) (by decide) kQ:aC Tryz.prog 84 [.d (.v (.bool ((ae (pK line)).n))),.d (.v (.int .u64 255)),.pt 2 0,.pt 1 0] [.bx 87 [.d (.ro 1 (strs (cZ line).1))],.bx 4 [.d (.v (.bool ((cZ line).2)))],.bx 79 [.fn 83 [.pt 0 0,.pt 1 0]]] (.u (pN (ae (pK line)).n 255 (cZ line))) [.bx 87 [.d (.ro 1 (strs (c6 line).1))],.bx 4 [.d (.v (.bool ((c6 line).2)))],.bx 79 [.fn 83 [.pt 0 0,.pt 1 0]]]) (U ((tW (by omega) (by have:=tV (ae (pK line)).n (cZ line) (most:=255) (by decide);omega)):IntKind.i64.wrap (((pN (ae (pK line)).n 255 (cZ line):Nat):Int))=((pN (ae (pK line)).n 255 (cZ line):Nat):Int)) (U (rh _ _ (c6 line) (by decide) (by decide) ES:aC Tryz.prog 84 [.d (.v (.bool ((ae (pK line)).bit))),.d (.v (.int .u64 65535)),.pt 2 0,.pt 1 0] [.bx 87 [.d (.ro 1 (strs (c6 line).1))],.bx 4 [.d (.v (.bool ((c6 line).2)))],.bx 79 [.fn 83 [.pt 0 0,.pt 1 0]]] (.u (pN (ae (pK line)).bit 65535 (c6 line))) [.bx 87 [.d (.ro 1 (strs (dq line).1))],.bx 4 [.d (.v (.bool ((dq line).2)))],.bx 79 [.fn 83 [.pt 0 0,.pt 1 0]]]) (U ((tW (by omega) (by have:=tV (ae (pK line)).bit (c6 line) (most:=65535) (by decide);omega)):IntKind.i64.wrap (((pN (ae (pK line)).bit 65535 (c6 line):Nat):Int))=((pN (ae (pK line)).bit 65535 (c6 line):Nat):Int)) (U (rh _ _ (dq line) (by decide) (by decide) ET:aC Tryz.prog 84 [.d (.v (.bool ((ae (pK line)).inc))),.d (.v (.int .u64 18446744073709551615)),.pt 2 0,.pt 1 0] [.bx 87 [.d (.ro 1 (strs (dq line).1))],.bx 4 [.d (.v (.bool ((dq line).2)))],.bx 79 [.fn 83 [.pt 0 0,.pt 1 0]]] (.u (pN (ae (pK line)).inc 18446744073709551615 (dq line))) [.bx 87 [.d (.ro 1 (strs (aU line).1))],.bx 4 [.d (.v (.bool ((aU line).2)))],.bx 79 [.fn 83 [.pt 0 0,.pt 1 0]]]) trivial))))))))) fun ac wd r=>?_
    suffices sC:dt line=false→∀ ac wd,RB D w0 K 93 bs [(2,.pt 1 0),(3,.d (.v (.bool false)))] [.gw 0 ai,.bx 42 [.z 0,.z 0,.z 0,.z 0,.z 0,.d (.v (.int .u64 0)),.d (.v (.slice none 0 0))]] ac wd→aF Tryz.prog 48 (aft Tryz.f48 22) (fE D w0 K bs (qy (aA line)) (qe (aA line))) ac wd by
     cases h4:((ae (pK line)).body) with
     | false=>
      have r:=r.cast (E':=[(2,.pt 1 0),(4,.pt 2 0),(7,.pt 4 0),(8,.pt 5 0),(10,.pt 6 0),(71,.d (.v (.bool false)))]) (M':=[.gw 0 ai,.bx 42 [.z 0,.z 0,.z 0,.z 0,.z 0,.d (.v (.int .u64 0)),.d (.v (.slice none 0 0))],.bx 87 [.d (.ro 1 (strs (aU line).1))],.bx 94 [.d (.v (.string ⟨((ae (pK line)).word).toArray⟩)),.d (.v (.bool ((ae (pK line)).node))),.d (.v (.bool ((ae (pK line)).peer))),.d (.v (.bool ((ae (pK line)).n))),.d (.v (.bool ((ae (pK line)).bit))),.d (.v (.bool ((ae (pK line)).inc))),.d (.v (.bool false))],.bx 4 [.d (.v (.bool ((aU line).2)))],.bx 79 [.fn 83 [.pt 2 0,.pt 4 0]],.bx 42 [.n (pK line),.n (pN (ae (pK line)).node 255 (dQ line)),.n (pN (ae (pK line)).peer 255 (cY line)),.n (pN (ae (pK line)).n 255 (cZ line)),.n (pN (ae (pK line)).bit 65535 (c6 line)),.u (pN (ae (pK line)).inc 18446744073709551615 (dq line)),.sl 7 (0)],.rw 5 1 ([])]) (by rw [h4]) (by rw [h4])
      cases h5:((aU line).2) with
      | false=>
       have r:=r.cast (M':=[.gw 0 ai,.bx 42 [.z 0,.z 0,.z 0,.z 0,.z 0,.d (.v (.int .u64 0)),.d (.v (.slice none 0 0))],.bx 87 [.d (.ro 1 (strs (aU line).1))],.bx 94 [.d (.v (.string ⟨((ae (pK line)).word).toArray⟩)),.d (.v (.bool ((ae (pK line)).node))),.d (.v (.bool ((ae (pK line)).peer))),.d (.v (.bool ((ae (pK line)).n))),.d (.v (.bool ((ae (pK line)).bit))),.d (.v (.bool ((ae (pK line)).inc))),.d (.v (.bool false))],.bx 4 [.d (.v (.bool false))],.bx 79 [.fn 83 [.pt 2 0,.pt 4 0]],.bx 42 [.n (pK line),.n (pN (ae (pK line)).node 255 (dQ line)),.n (pN (ae (pK line)).peer 255 (cY line)),.n (pN (ae (pK line)).n 255 (cZ line)),.n (pN (ae (pK line)).bit 65535 (c6 line)),.u (pN (ae (pK line)).inc 18446744073709551615 (dq line)),.sl 7 (0)],.rw 5 1 ([])]) rfl (by rw [h5])
       refine bS (todo':=aft Tryz.f48 22) (E':=[(2,.pt 1 0),(3,.d (.v (.bool false)))]) (M':=[.gw 0 ai,.bx 42 [.z 0,.z 0,.z 0,.z 0,.z 0,.d (.v (.int .u64 0)),.d (.v (.slice none 0 0))]]) tk mo hK al [] 8 [0,1] [2,3] r (by kernel_rfl) trivial fun ac wd r=>?_
       exact sC (by rw [tD (by omega) h4];simp_all) ac wd (r.cast rfl rfl)
      | true=>
       have r:=r.cast (M':=[.gw 0 ai,.bx 42 [.z 0,.z 0,.z 0,.z 0,.z 0,.d (.v (.int .u64 0)),.d (.v (.slice none 0 0))],.bx 87 [.d (.ro 1 (strs (aU line).1))],.bx 94 [.d (.v (.string ⟨((ae (pK line)).word).toArray⟩)),.d (.v (.bool ((ae (pK line)).node))),.d (.v (.bool ((ae (pK line)).peer))),.d (.v (.bool ((ae (pK line)).n))),.d (.v (.bool ((ae (pK line)).bit))),.d (.v (.bool ((ae (pK line)).inc))),.d (.v (.bool false))],.bx 4 [.d (.v (.bool true))],.bx 79 [.fn 83 [.pt 2 0,.pt 4 0]],.bx 42 [.n (pK line),.n (pN (ae (pK line)).node 255 (dQ line)),.n (pN (ae (pK line)).peer 255 (cY line)),.n (pN (ae (pK line)).n 255 (cZ line)),.n (pN (ae (pK line)).bit 65535 (c6 line)),.u (pN (ae (pK line)).inc 18446744073709551615 (dq line)),.sl 7 (0)],.rw 5 1 ([])]) rfl (by rw [h5])
       cases h6:(decide ((0:Int)<(((strs (aU line).1).length:Nat):Int))) with
       | false=>
        have dx:=of_decide_eq_false h6
        have hE:=Dr ‹decide ((0:Int)<(((strs (aU line).1).length:Nat):Int))=false›
        refine aY (y:=.tu [.ag [.n (pK line),.n (pN (ae (pK line)).node 255 (dQ line)),.n (pN (ae (pK line)).peer 255 (cY line)),.n (pN (ae (pK line)).n 255 (cZ line)),.n (pN (ae (pK line)).bit 65535 (c6 line)),.u (pN (ae (pK line)).inc 18446744073709551615 (dq line)),.sl 1 (0)],.d (.v (.bool true))]) (N':=[.gw 0 ai,.rw 5 1 ([])]) ((by rw [q4 (by rw [tD (by omega) h4];simp_all)];simp [qy,qe,fU,pB,af,h4])) ((by rw [q4 (by rw [tD (by omega) h4];simp_all)];simp [qy,qe,fU,pB,af,h4])) ?_
        exact aX tk mo hK rfl al [(21,[(5,.b false)])] 2000 [0,7] r (by kernel_rfl) (U h6 trivial)
       | true=>
        have dx:=of_decide_eq_true h6
        have hE:=Dq ‹decide ((0:Int)<(((strs (aU line).1).length:Nat):Int))=true›
        refine bS (todo':=aft Tryz.f48 22) (E':=[(2,.pt 1 0),(3,.d (.v (.bool false)))]) (M':=[.gw 0 ai,.bx 42 [.z 0,.z 0,.z 0,.z 0,.z 0,.d (.v (.int .u64 0)),.d (.v (.slice none 0 0))]]) tk mo hK al [(21,[(5,.b true)])] 8 [0,1] [2,3] r (by kernel_rfl) (U h6 trivial) fun ac wd r=>?_
        exact sC (by rw [tD (by omega) h4];simp_all) ac wd (r.cast rfl rfl)
     | true=>
      have r:=r.cast (E':=[(2,.pt 1 0),(4,.pt 2 0),(7,.pt 4 0),(8,.pt 5 0),(10,.pt 6 0),(71,.d (.v (.bool true)))]) (M':=[.gw 0 ai,.bx 42 [.z 0,.z 0,.z 0,.z 0,.z 0,.d (.v (.int .u64 0)),.d (.v (.slice none 0 0))],.bx 87 [.d (.ro 1 (strs (aU line).1))],.bx 94 [.d (.v (.string ⟨((ae (pK line)).word).toArray⟩)),.d (.v (.bool ((ae (pK line)).node))),.d (.v (.bool ((ae (pK line)).peer))),.d (.v (.bool ((ae (pK line)).n))),.d (.v (.bool ((ae (pK line)).bit))),.d (.v (.bool ((ae (pK line)).inc))),.d (.v (.bool true))],.bx 4 [.d (.v (.bool ((aU line).2)))],.bx 79 [.fn 83 [.pt 2 0,.pt 4 0]],.bx 42 [.n (pK line),.n (pN (ae (pK line)).node 255 (dQ line)),.n (pN (ae (pK line)).peer 255 (cY line)),.n (pN (ae (pK line)).n 255 (cZ line)),.n (pN (ae (pK line)).bit 65535 (c6 line)),.u (pN (ae (pK line)).inc 18446744073709551615 (dq line)),.sl 7 (0)],.rw 5 1 ([])]) (by rw [h4]) (by rw [h4])
      cases h7:((dj (bf (aU line))).2) with
      | false=>
       have cO:=((by have k:=Ai (bf (aU line));rw [h7] at k;exact k):ay Tryz.prog 85 [.d (.v (.string ⟨(bf (aU line)).toArray⟩))] (.tu [.em 5 1 (af (dj (bf (aU line))).1),.v (.bool false)]))
       have cg:=(iJ _:(fO (Value.bool (bg (aU line)).2)==some true)=(bg (aU line)).2)
       have ek:=(jI _ _:∃ b0:Bool,(Value.bool (bg (aU line)).2)=.bool b0∧(bif b0 then (bif (bg (aU line)).2 then Value.bool false else undef) else Value.bool false)=.bool ((bg (aU line)).2&&false))
       cases h8:(((bg (aU line)).2&&false)) with
       | false=>
        refine bS (todo':=aft Tryz.f48 22) (E':=[(2,.pt 1 0),(3,.d (.v (.bool false)))]) (M':=[.gw 0 ai,.bx 42 [.z 0,.z 0,.z 0,.z 0,.z 0,.d (.v (.int .u64 0)),.d (.v (.slice none 0 0))]]) tk mo hK al [(19,[(1,.mem [2,4] (.d (.v (.string ⟨(bf (aU line)).toArray⟩))) [.bx 87 [.d (.ro 1 (strs (bg (aU line)).1))],.bx 4 [.d (.v (.bool ((bg (aU line)).2)))]]),(2,.aG (.tu [.em 5 1 (af (dj (bf (aU line))).1),.v (.bool false)]))]),(20,[(3,.may (bg (aU line)).2 (.n 0)),(4,.res (.v (.bool ((bg (aU line)).2&&false))))]),(21,[(1,.b true)])] 10 [0,1] [2,3] r (by kernel_rfl) (U (pL (aU line)) (U cO (U cg (U (fun hc=>trivial:(bg (aU line)).2=true→True) (U ek (U ((by rw [h8];rfl):(!(((bg (aU line)).2&&false)))=true) trivial)))))) fun ac wd r=>?_
        exact sC (by rw [rj (by omega) h4];simp_all) ac wd (r.cast rfl rfl)
       | true=>
        exact absurd h8 (by simp)
      | true=>
       have df:=((by have k:=Ai (bf (aU line));rw [h7] at k;exact k):ay Tryz.prog 85 [.d (.v (.string ⟨(bf (aU line)).toArray⟩))] (.tu [.em 5 1 (af (dj (bf (aU line))).1),.v (.bool true)]))
       have en:=(iJ _:(fO (Value.bool (bg (aU line)).2)==some true)=(bg (aU line)).2)
       have gu:=(jI _ _:∃ b0:Bool,(Value.bool (bg (aU line)).2)=.bool b0∧(bif b0 then (bif (bg (aU line)).2 then Value.bool true else undef) else Value.bool false)=.bool ((bg (aU line)).2&&true))
       cases h9:(((bg (aU line)).2&&true)) with
       | false=>
        refine bS (todo':=aft Tryz.f48 22) (E':=[(2,.pt 1 0),(3,.d (.v (.bool false)))]) (M':=[.gw 0 ai,.bx 42 [.z 0,.z 0,.z 0,.z 0,.z 0,.d (.v (.int .u64 0)),.d (.v (.slice none 0 0))]]) tk mo hK al [(19,[(1,.mem [2,4] (.d (.v (.string ⟨(bf (aU line)).toArray⟩))) [.bx 87 [.d (.ro 1 (strs (bg (aU line)).1))],.bx 4 [.d (.v (.bool ((bg (aU line)).2)))]]),(2,.aG (.tu [.em 5 1 (af (dj (bf (aU line))).1),.v (.bool true)]))]),(20,[(3,.may (bg (aU line)).2 (.n 0)),(4,.res (.v (.bool ((bg (aU line)).2&&true))))]),(21,[(1,.b true)])] 10 [0,1] [2,3] r (by kernel_rfl) (U (pL (aU line)) (U df (U en (U (fun hc=>trivial:(bg (aU line)).2=true→True) (U gu (U ((by rw [h9];rfl):(!(((bg (aU line)).2&&true)))=true) trivial)))))) fun ac wd r=>?_
        exact sC (by rw [rj (by omega) h4];simp_all) ac wd (r.cast rfl rfl)
       | true=>
        cases cW:(decide ((0:Int)<(((strs (bg (aU line)).1).length:Nat):Int))) with
        | false=>
         have kO:=of_decide_eq_false cW
         have hE:=Dr ‹decide ((0:Int)<(((strs (bg (aU line)).1).length:Nat):Int))=false›
         refine aY (y:=.tu [.ag [.n (pK line),.n (pN (ae (pK line)).node 255 (dQ line)),.n (pN (ae (pK line)).peer 255 (cY line)),.n (pN (ae (pK line)).n 255 (cZ line)),.n (pN (ae (pK line)).bit 65535 (c6 line)),.u (pN (ae (pK line)).inc 18446744073709551615 (dq line)),.sl 1 ((af (dj (bf (aU line))).1).length)],.d (.v (.bool true))]) (N':=[.gw 0 ai,.rw 5 1 (af (dj (bf (aU line))).1)]) ((by rw [q4 (by rw [rj (by omega) h4];simp_all)];simp [qy,qe,fU,pB,af,h4])) ((by rw [q4 (by rw [rj (by omega) h4];simp_all)];simp [qy,qe,fU,pB,af,h4])) ?_
         exact aX tk mo hK rfl al [(19,[(1,.mem [2,4] (.d (.v (.string ⟨(bf (aU line)).toArray⟩))) [.bx 87 [.d (.ro 1 (strs (bg (aU line)).1))],.bx 4 [.d (.v (.bool ((bg (aU line)).2)))]]),(2,.aG (.tu [.em 5 1 (af (dj (bf (aU line))).1),.v (.bool true)]))]),(20,[(3,.may (bg (aU line)).2 (.n 0)),(4,.res (.v (.bool ((bg (aU line)).2&&true))))]),(21,[(1,.b false),(5,.b false)])] 2000 [0,8] r (by kernel_rfl) (U (pL (aU line)) (U df (U en (U (fun hc=>trivial:(bg (aU line)).2=true→True) (U gu (U ((by rw [h9];rfl):(!(((bg (aU line)).2&&true)))=false) (U cW trivial)))))))
        | true=>
         have kO:=of_decide_eq_true cW
         have hE:=Dq ‹decide ((0:Int)<(((strs (bg (aU line)).1).length:Nat):Int))=true›
         refine bS (todo':=aft Tryz.f48 22) (E':=[(2,.pt 1 0),(3,.d (.v (.bool false)))]) (M':=[.gw 0 ai,.bx 42 [.z 0,.z 0,.z 0,.z 0,.z 0,.d (.v (.int .u64 0)),.d (.v (.slice none 0 0))]]) tk mo hK al [(19,[(1,.mem [2,4] (.d (.v (.string ⟨(bf (aU line)).toArray⟩))) [.bx 87 [.d (.ro 1 (strs (bg (aU line)).1))],.bx 4 [.d (.v (.bool ((bg (aU line)).2)))]]),(2,.aG (.tu [.em 5 1 (af (dj (bf (aU line))).1),.v (.bool true)]))]),(20,[(3,.may (bg (aU line)).2 (.n 0)),(4,.res (.v (.bool ((bg (aU line)).2&&true))))]),(21,[(1,.b false),(5,.b true)])] 10 [0,1] [2,3] r (by kernel_rfl) (U (pL (aU line)) (U df (U en (U (fun hc=>trivial:(bg (aU line)).2=true→True) (U gu (U ((by rw [h9];rfl):(!(((bg (aU line)).2&&true)))=false) (U cW trivial))))))) fun ac wd r=>?_
         exact sC (by rw [rj (by omega) h4];simp_all) ac wd (r.cast rfl rfl)
    intro hJ ac wd r
    have r:=r.dA (E1:=[(2,.pt 1 0),(3,.d (.v (.bool false)))]) (M1:=[.gw 0 ai,.bx 42 [.z 0,.z 0,.z 0,.z 0,.z 0,.d (.v (.int .u64 0)),.d (.v (.slice none 0 0))]]) (M2:=[.gw 0 ai,.bx 42 [.z 0,.z 0,.z 0,.z 0,.z 0,.d (.v (.int .u64 0)),.sl 2 (0)],.rw 5 1 ([])]) [] [(1,6,5,1)] (by kernel_rfl) (by kernel_rfl)
    refine aY (y:=.tu [.ag [.z 0,.z 0,.z 0,.z 0,.z 0,.d (.v (.int .u64 0)),.sl 1 (0)],.d (.v (.bool false))]) (N':=[.gw 0 ai,.rw 5 1 ([])]) ((by rw [ri hJ];rfl)) ((by rw [ri hJ];rfl)) ?_
    exact aX tk mo hK rfl al [] 2000 [0,2] r (by kernel_rfl) trivial
   | true=>
    have cT:=eq_of_beq h3
    exact absurd cT (by omega)
end Go.Proofs.YtcnpikbbmbombaaGreatDoor
namespace Go.Proofs.YtcnpikbbmbombaaGreatDoor
open Go.RowKit
def ki (w:List UInt8):Int:=(((aL w 255).1:Nat):Int)
def cF (w:List UInt8):List UInt8×List UInt8:=if 0<w.count 45 then (au 45 w,bq 45 w) else (w,[])
abbrev qz:=List (Int×Int)×List Int×Bool×Bool
def fR (s:qz) (w:List UInt8):qz:=
 if s.2.2.1=true then (s.1,s.2.1++[ki w],true,s.2.2.2&&(aL w 255).2)
 else if w=[58] then (s.1,s.2.1,true,s.2.2.2)
 else (s.1++[(ki (cF w).1,ki (cF w).2)],s.2.1,false,s.2.2.2&&(aL (cF w).1 255).2&&(aL (cF w).2 255).2)
theorem wL {ws:List (List UInt8)} {i:Nat} {w:List UInt8} {s0 s s2:qz} (g:ws[i]?=some w) (h:(ws.take i).foldl fR s0=s) (e:fR s w=s2):(ws.take (i+1)).foldl fR s0=s2:=by
 rw [List.take_add_one,g,Option.toList_some,List.foldl_append,h];exact e
theorem EU (L:List (Int×Int)) (H:List Int) (g:Bool) (w:List UInt8):fR (L,H,true,g) w=(L,H++[(((aL w 255).1:Nat):Int)],true,g&&(aL w 255).2):=rfl
theorem EV {L:List (Int×Int)} {H:List Int} {g:Bool} {w:List UInt8} (h:(w==([58]:List UInt8))=true):fR (L,H,false,g) w=(L,H,true,g):=by
 have:w=[58]:=by simpa using h
 subst this;rfl
theorem EW {L:List (Int×Int)} {H:List Int} {g:Bool} {w:List UInt8} (h:(w==([58]:List UInt8))=false):fR (L,H,false,g) w=(L++[((((aL (cF w).1 255).1:Nat):Int),(((aL (cF w).2 255).1:Nat):Int))],H,false,(g&&(aL (cF w).1 255).2)&&(aL (cF w).2 255).2):=by
 have hw:w≠[58]:=by intro e;subst e;simp at h
 unfold fR;rw [if_neg (by simp),if_neg hw];rfl
theorem mZ (c:UInt8) (s:List UInt8):(au c s).length≤s.length:=by
 have:=congrArg List.length (qO (c:=c) s);simp at this;omega
theorem Ko (c:UInt8) (s:List UInt8):(bq c s).length≤s.length:=by unfold bq;simp
theorem wM (w:List UInt8):(cF w).1.length≤w.length∧(cF w).2.length≤w.length:=by
 unfold cF;split
 ·exact ⟨mZ _ _,Ko _ _⟩
 ·exact ⟨Nat.le_refl _,Nat.zero_le _⟩
theorem Lz (w:List UInt8) (hl:w.length≤1048576):ay Tryz.prog 79 [.d (.v (.string ⟨w.toArray⟩)),.d (.v (.string ⟨[45].toArray⟩))] (.tu [.v (.string ⟨(cF w).1.toArray⟩),.v (.string ⟨(cF w).2.toArray⟩),.v (.bool (decide (0<w.count 45)))]):=by
 by_cases h:0<w.count 45
 ·unfold cF;rw [if_pos h,decide_eq_true h];exact px 45 w (by omega) h
 ·unfold cF;rw [if_neg h,decide_eq_false h];exact CI 45 w (by omega) (by omega)
def dh (l:List UInt8):List (List UInt8):=(ak 32 l).drop 2
def aZ (l:List UInt8):List UInt8:=(ak 32 l).getD 1 []
def lO (l:List UInt8):qz:=(dh l).foldl fR ([],[],false,(aL (aZ l) 255).2)
def jS (l:List UInt8):bK:=⟨ki (aZ l),(lO l).1,(lO l).2.1⟩
noncomputable def gT (l:List UInt8):Bool:=(decide (3≤(ak 32 l).length)&&(bf (ak 32 l,true)==[119,111,114,108,100]))&&(((lO l).2.2.2&&(lO l).2.2.1)&&bY (jS l))
noncomputable def ct (l:List UInt8):bK×Bool:=cond (gT l) (jS l,true) (⟨0,[],[]⟩,false)
def u1 (q:bK×Bool):AV:=.tu [.ag [.z q.1.aD,.sl 0 q.1.ah.length,.sl 1 q.1.homes.length],.d (.v (.bool q.2))]
def uF (q:bK×Bool):List aj:=[.rw 60 2 (ah q.1.ah),.rw 3 1 (ints q.1.homes)]
theorem nc {l:List UInt8} (h:gT l=false):ct l=(⟨0,[],[]⟩,false):=by unfold ct;rw [h];rfl
theorem q5 {l:List UInt8} (h:gT l=true):ct l=(jS l,true):=by unfold ct;rw [h];rfl
theorem xw {l:List UInt8} (h:(ak 32 l).length<3):gT l=false:=by unfold gT;rw [decide_eq_false (by omega)];rfl
theorem xx {l:List UInt8} (h:(bf (ak 32 l,true)==[119,111,114,108,100])=false):gT l=false:=by unfold gT;rw [h,Bool.and_false];rfl
theorem pY {l:List UInt8} {i:Nat} {s:qz} (hi:(dh l).length≤i) (h:((dh l).take i).foldl fR ([],[],false,(aL (aZ l) 255).2)=s):lO l=s:=by rw [List.take_of_length_le hi] at h;exact h
theorem tX {l:List UInt8} {L:List (Int×Int)} {H:List Int} {b g:Bool} (e:lO l=(L,H,b,g)) (h:((g&&b)&&bY ⟨ki (aZ l),L,H⟩)=false):gT l=false:=by unfold gT jS;rw [e];simp only [h,Bool.and_false]
theorem xy {l:List UInt8} {L:List (Int×Int)} {H:List Int} (e:lO l=(L,H,true,true)) (h3:3≤(ak 32 l).length) (hw:(bf (ak 32 l,true)==[119,111,114,108,100])=true) (h:bY ⟨ki (aZ l),L,H⟩=true):gT l=true:=by unfold gT jS;rw [e,hw,decide_eq_true h3];simp only [h];rfl
theorem vW {l:List UInt8} {i:Nat} {x:List UInt8} (h:(dh l)[i]?=some x):(List.drop 2 (strs (ak 32 l)))[i]?=some [.v (.string ⟨x.toArray⟩)]:=by unfold strs;rw [← List.map_drop,List.getElem?_map];unfold dh at h;rw [h];rfl
theorem A2 {l:List UInt8} (h:3≤(ak 32 l).length):(strs (ak 32 l))[1]?=some [.v (.string ⟨(aZ l).toArray⟩)]:=by
 unfold strs aZ;rw [List.getElem?_map,List.getD_eq_getElem?_getD,List.getElem?_eq_getElem (by omega)];rfl
theorem Cb (l:List UInt8):(dh l).length=(ak 32 l).length-2:=by unfold dh;simp
theorem tE {l:List UInt8} {i:Nat} {x:List UInt8} (hl:l.length≤1048576) (h:(dh l)[i]?=some x):x.length≤1048576:=Nat.le_trans (kz (List.mem_of_mem_drop (List.mem_of_getElem? h))) hl
theorem CP {l:List UInt8} (hl:l.length≤1048576):(aZ l).length≤1048576:=by
 unfold aZ;rw [List.getD_eq_getElem?_getD]
 cases h:(ak 32 l)[1]? with
 | none=>exact Nat.zero_le _
 | some x=>exact Nat.le_trans (kz (List.mem_of_getElem? h)) hl
set_option maxRecDepth 100000 in
theorem tF (x:List UInt8) (g:Bool) (hl:x.length≤1048576):aC Tryz.prog 81 [.d (.v (.string ⟨x.toArray⟩)),.pt 0 0] [.bx 4 [.d (.v (.bool g))]] (.n (aL x 255).1) ([.bx 4 [.d (.v (.bool (g&&(aL x 255).2)))]]):=by
 refine aC.intro (by kernel_rfl) rfl rfl 17 rfl rfl fun D w0 K bs ac wd hK (al:bs.m=1) r=>?_
 cases h0:((aL x 255).2) with
 | false=>
  refine aY (y:=.n ((aL x 255).1)) (N':=[.bx 4 [.d (.v (.bool ((g&&false))))]]) (rfl) (rfl) ?_
  exact aX tk mo hK rfl al [(1,[(1,.aG (.tu [.u ((aL x 255).1),.v (.bool false)]))]),(2,[(2,.may g (.n 0)),(3,.res (.v (.bool (g&&false))))]),(3,[(1,.z ((((aL x 255).1:Nat):Int)))])] 2000 [0] r (by kernel_rfl) (U ((by have k:=s8 x 255 (by omega) (by omega) (by omega);rw [h0] at k;exact k):ay Tryz.prog 82 [.d (.v (.string ⟨x.toArray⟩)),.d (.v (.int .u64 255))] (.tu [.u ((aL x 255).1),.v (.bool false)])) (U (iJ _:(fO (Value.bool g)==some true)=g) (U (fun hc=>trivial:g=true→True) (U (jI _ _:∃ b0:Bool,(Value.bool g)=.bool b0∧(bif b0 then (bif g then Value.bool false else undef) else Value.bool false)=.bool (g&&false)) (U ((wi (by have:=wK x (most:=255) (by omega);omega)):IntKind.i64.wrap ((((aL x 255).1:Nat):Int))=(((aL x 255).1:Nat):Int)) trivial)))))
 | true=>
  refine aY (y:=.n ((aL x 255).1)) (N':=[.bx 4 [.d (.v (.bool ((g&&true))))]]) (rfl) (rfl) ?_
  exact aX tk mo hK rfl al [(1,[(1,.aG (.tu [.u ((aL x 255).1),.v (.bool true)]))]),(2,[(2,.may g (.n 0)),(3,.res (.v (.bool (g&&true))))]),(3,[(1,.z ((((aL x 255).1:Nat):Int)))])] 2000 [0] r (by kernel_rfl) (U ((by have k:=s8 x 255 (by omega) (by omega) (by omega);rw [h0] at k;exact k):ay Tryz.prog 82 [.d (.v (.string ⟨x.toArray⟩)),.d (.v (.int .u64 255))] (.tu [.u ((aL x 255).1),.v (.bool true)])) (U (iJ _:(fO (Value.bool g)==some true)=g) (U (fun hc=>trivial:g=true→True) (U (jI _ _:∃ b0:Bool,(Value.bool g)=.bool b0∧(bif b0 then (bif g then Value.bool true else undef) else Value.bool false)=.bool (g&&true)) (U ((wi (by have:=wK x (most:=255) (by omega);omega)):IntKind.i64.wrap ((((aL x 255).1:Nat):Int))=(((aL x 255).1:Nat):Int)) trivial)))))
set_option maxRecDepth 100000 in
theorem sH (line:List UInt8) (hl:line.length≤1048576):aC Tryz.prog 47 [.d (.v (.string ⟨line.toArray⟩))] [] (u1 (ct line)) (uF (ct line)):=by
 refine aC.intro (by kernel_rfl) rfl rfl 85 rfl rfl fun D w0 K bs ac wd hK (al:bs.m=0) r=>?_
 have aI:=((by first | rfl | (simp [strs];done) | (simp [strs,dh];done) | (simp [strs];omega)):(((strs (ak 32 line)).length:Nat):Int)=(((ak 32 line).length:Nat):Int))
 cases h0:(decide (((((ak 32 line).length:Nat):Int):Int)<3)) with
 | false=>
  have aT:=of_decide_eq_false h0
  have bd:=(s9 32 line:(strs (ak 32 line))[0]?=some [.v (.string ⟨(bf (ak 32 line,true)).toArray⟩)])
  cases h1:((bf (ak 32 line,true))==([119,111,114,108,100]:List UInt8)) with
  | false=>
   refine bS (todo':=aft Tryz.f47 3) (E':=[(2,.pt 0 0),(3,.d (.v (.bool false))),(4,.d (.ro 1 (strs (ak 32 line))))]) (M':=[.bx 25 [.z 0,.d (.v (.slice none 0 0)),.d (.v (.slice none 0 0))]]) tk mo hK al [(1,[(1,.aG (.ro 1 (strs (ak 32 line))))]),(2,[(1,.z ((((ak 32 line).length:Nat):Int))),(2,.b false),(5,.ix (0) [.v (.string ⟨(bf (ak 32 line,true)).toArray⟩)]),(7,.b true)])] 10 [0] [2,3,4] r (by kernel_rfl) (U (tn 32 line hl) (U aI (U h0 (U (rfl:(0)=((0:Nat):Int)) (U bd (U ((by simpa [bne] using h1):((bf (ak 32 line,true)) != ([119,111,114,108,100]:List UInt8))=true) trivial)))))) fun ac wd r=>?_
   have r:=r.dA (E1:=[(2,.pt 0 0),(3,.d (.v (.bool false))),(4,.d (.ro 1 (strs (ak 32 line))))]) (M1:=[.bx 25 [.z 0,.d (.v (.slice none 0 0)),.d (.v (.slice none 0 0))]]) (M2:=[.bx 25 [.z 0,.sl 1 (0),.sl 2 (0)],.rw 60 2 ([]),.rw 3 1 ([])]) [] [(0,1,60,2),(0,2,3,1)] (by kernel_rfl) (by kernel_rfl)
   refine aY (y:=.tu [.ag [.z 0,.sl 0 (0),.sl 1 (0)],.d (.v (.bool false))]) (N':=[.rw 60 2 ([]),.rw 3 1 ([])]) ((by rw [nc (xx h1)];rfl)) ((by rw [nc (xx h1)];rfl)) ?_
   exact aX tk mo hK rfl al [] 2000 [1,2] r (by kernel_rfl) trivial
  | true=>
   refine bS (todo':=aft Tryz.f47 7) (E':=[(2,.pt 0 0),(3,.d (.v (.bool false))),(4,.d (.ro 1 (strs (ak 32 line)))),(5,.pt 1 0),(6,.fn 81 [.pt 1 0]),(7,.pt 2 0),(8,.d (.v (.bool false)))]) (M':=[.bx 25 [.z 0,.d (.v (.slice none 0 0)),.d (.v (.slice none 0 0))],.bx 4 [.d (.v (.bool ((true&&(aL (aZ line) 255).2))))],.bx 25 [.n ((aL (aZ line) 255).1),.d (.v (.slice none 0 0)),.d (.v (.slice none 0 0))]]) tk mo hK al [(1,[(1,.aG (.ro 1 (strs (ak 32 line))))]),(2,[(1,.z ((((ak 32 line).length:Nat):Int))),(2,.b false),(5,.ix (0) [.v (.string ⟨(bf (ak 32 line,true)).toArray⟩)]),(7,.b false)]),(6,[(2,.ix (1) [.v (.string ⟨(aZ line).toArray⟩)]),(4,.mem [1] (.n ((aL (aZ line) 255).1)) [.bx 4 [.d (.v (.bool ((true&&(aL (aZ line) 255).2))))]])])] 17 [0,1,2] [2,3,4,5,6,7,8] r (by kernel_rfl) (U (tn 32 line hl) (U aI (U h0 (U (rfl:(0)=((0:Nat):Int)) (U bd (U ((by simpa [bne] using h1):((bf (ak 32 line,true)) != ([119,111,114,108,100]:List UInt8))=false) (U (rfl:(1)=((1:Nat):Int)) (U (A2 (by omega):(strs (ak 32 line))[1]?=some [.v (.string ⟨(aZ line).toArray⟩)]) (U (tF (aZ line) true (CP hl)) trivial))))))))) fun ac wd r=>?_
   suffices o0:gT line=false→∀ ac wd,RB D w0 K 85 bs [(2,.pt 0 0),(3,.d (.v (.bool false)))] [.bx 25 [.z 0,.d (.v (.slice none 0 0)),.d (.v (.slice none 0 0))]] ac wd→aF Tryz.prog 47 (aft Tryz.f47 19) (fE D w0 K bs (u1 (ct line)) (uF (ct line))) ac wd by
    refine bp (todo':=hd Tryz.f47 0) (E':=[(2,.pt 0 0),(5,.pt 1 0),(6,.fn 81 [.pt 1 0]),(7,.pt 2 0),(8,.d (.v (.bool false))),(34,.d (.ro 1 (List.drop (2) (strs (ak 32 line))))),(35,.n ((dh line).length)),(36,.z 0)]) (M':=[.bx 25 [.z 0,.d (.v (.slice none 0 0)),.d (.v (.slice none 0 0))],.bx 4 [.d (.v (.bool ((true&&(aL (aZ line) 255).2))))],.bx 25 [.n ((aL (aZ line) 255).1),.d (.v (.slice none 0 0)),.d (.v (.slice none 0 0))]]) tk mo hK al [(8,[(1,.n2 (0) (2)),(2,.z ((((dh line).length:Nat):Int)))])] 2000 [0,1,2] [2,5,6,7,8,34,35,36] r (by kernel_rfl) (U (rfl:(2:Int)=((2:Nat):Int)) (U ((by have:=ga 32 line;simp [strs];omega):(2)≤(strs (ak 32 line):List (List DV)).length) (U ((by first | rfl | (simp [strs];done) | (simp [strs,dh];done) | (simp [strs];omega)):(((List.drop (2) (strs (ak 32 line))).length:Nat):Int)=(((dh line).length:Nat):Int)) trivial))) fun ac wd r=>?_
    refine aF.rounds (Φ:=fun (i:Nat) ac wd=>∃ L:List (Int×Int),∃ H:List Int,∃ bh:Bool,∃ g:Bool,(i≤(dh line).length∧((dh line).take i).foldl fR ([],[],false,(aL (aZ line) 255).2)=(L,H,bh,g)∧L.length≤i∧H.length≤i)∧RB D w0 K 85 bs [(2,.pt 0 0),(5,.pt 1 0),(6,.fn 81 [.pt 1 0]),(7,.pt 2 0),(8,.d (.v (.bool bh))),(34,.d (.ro 1 (List.drop 2 (strs (ak 32 line))))),(35,.n ((dh line).length)),(36,.n i)] [.bx 25 [.z 0,.d (.v (.slice none 0 0)),.d (.v (.slice none 0 0))],.bx 4 [.d (.v (.bool g))],.bx 25 [.n ((aL (aZ line) 255).1),.sl 3 (L.length),.sl 4 (H.length)],.rw 60 2 (ah L),.rw 3 1 (ints H)] ac wd) ((dh line).length) ?_ (Nat.zero_le _) ⟨[],[],false,(aL (aZ line) 255).2,⟨Nat.zero_le _,rfl,Nat.le_refl _,Nat.le_refl _⟩,(r.dA (E1:=[(2,.pt 0 0),(5,.pt 1 0),(6,.fn 81 [.pt 1 0]),(7,.pt 2 0),(8,.d (.v (.bool false))),(34,.d (.ro 1 (List.drop (2) (strs (ak 32 line))))),(35,.n ((dh line).length)),(36,.z 0)]) (M2:=[.bx 25 [.z 0,.d (.v (.slice none 0 0)),.d (.v (.slice none 0 0))],.bx 4 [.d (.v (.bool ((true&&(aL (aZ line) 255).2))))],.bx 25 [.n ((aL (aZ line) 255).1),.sl 3 (0),.sl 4 (0)],.rw 60 2 ([]),.rw 3 1 ([])]) (M1:=[.bx 25 [.z 0,.d (.v (.slice none 0 0)),.d (.v (.slice none 0 0))],.bx 4 [.d (.v (.bool ((true&&(aL (aZ line) 255).2))))],.bx 25 [.n ((aL (aZ line) 255).1),.d (.v (.slice none 0 0)),.d (.v (.slice none 0 0))]]) [] [(2,1,60,2),(2,2,3,1)] (by kernel_rfl) (by kernel_rfl)).cast rfl rfl⟩
    clear r
    rintro i dw bj ac wd ⟨L,H,bh,g,ao,r⟩
    have Pl:=Cb line
    have eU:=ga 32 line
    have zJ:=List.count_le_length (a:=(32:UInt8)) (l:=line)
    have sD:L.length≤9223372036854775807:=by omega
    have sE:H.length≤9223372036854775807:=by omega
    cases bh with
    | false=>
     cases h2:(decide ((((i:Nat):Int):Int)<(((dh line).length:Nat):Int))) with
     | false=>
      have cz:=of_decide_eq_false h2
      cases h3:(g) with
      | false=>
       refine bS (todo':=aft Tryz.f47 19) (E':=[(2,.pt 0 0),(3,.d (.v (.bool false)))]) (M':=[.bx 25 [.z 0,.d (.v (.slice none 0 0)),.d (.v (.slice none 0 0))]]) tk mo hK al [(9,[(0,.b false)]),(18,[(1,.b true)])] 11 [0] [2,3] r (by kernel_rfl) (U h2 (U ((by rw [h3];rfl):(!(g))=true) trivial)) fun ac wd r=>?_
       exact o0 (tX (pY (by omega) ao.2.1) (by simp [h3])) ac wd (r.cast rfl rfl)
      | true=>
       refine bS (todo':=aft Tryz.f47 19) (E':=[(2,.pt 0 0),(3,.d (.v (.bool false)))]) (M':=[.bx 25 [.z 0,.d (.v (.slice none 0 0)),.d (.v (.slice none 0 0))]]) tk mo hK al [(9,[(0,.b false)]),(18,[(1,.b false)])] 11 [0] [2,3] r (by kernel_rfl) (U h2 (U ((by rw [h3];rfl):(!(g))=false) trivial)) fun ac wd r=>?_
       exact o0 (tX (pY (by omega) ao.2.1) (by simp [h3])) ac wd (r.cast rfl rfl)
     | true=>
      have cz:=of_decide_eq_true h2
      obtain ⟨cQ,lX⟩:∃ x_,(dh line)[i]?=some x_:=⟨_,List.getElem?_eq_getElem (by omega)⟩
      have EX:=tE hl lX
      cases h4:(cQ==([58]:List UInt8)) with
      | false=>
       exact bp (todo':=hd Tryz.f47 0) (E':=[(2,.pt 0 0),(5,.pt 1 0),(6,.fn 81 [.pt 1 0]),(7,.pt 2 0),(8,.d (.v (.bool false))),(34,.d (.ro 1 (List.drop 2 (strs (ak 32 line))))),(35,.n ((dh line).length)),(36,.n (i+1))]) (M':=[.bx 25 [.z 0,.d (.v (.slice none 0 0)),.d (.v (.slice none 0 0))],.bx 4 [.d (.v (.bool (((g&&(aL ((cF cQ).1) 255).2)&&(aL ((cF cQ).2) 255).2))))],.bx 25 [.n ((aL (aZ line) 255).1),.sl 3 (L.length+(1)),.sl 4 (H.length)],.rw 60 2 (ah L++[[.n ((aL ((cF cQ).1) 255).1),.n ((aL ((cF cQ).2) 255).1)]]),.rw 3 1 (ints H)]) tk mo hK al [(9,[(0,.b true)]),(10,[(0,.ix (i) [.v (.string ⟨cQ.toArray⟩)])]),(11,[(1,.aG (.tu [.v (.string ⟨((cF cQ).1).toArray⟩),.v (.string ⟨((cF cQ).2).toArray⟩),.v (.bool (decide (0<cQ.count 45)))]))]),(12,[(4,.mem [1] (.n ((aL ((cF cQ).1) 255).1)) [.bx 4 [.d (.v (.bool ((g&&(aL ((cF cQ).1) 255).2))))]]),(7,.mem [1] (.n ((aL ((cF cQ).2) 255).1)) [.bx 4 [.d (.v (.bool (((g&&(aL ((cF cQ).1) 255).2)&&(aL ((cF cQ).2) 255).2))))]])]),(15,[(1,.b false)]),(17,[(0,.z (((i+1:Nat):Int)))])] 2000 [0,1,2,3,4] [2,5,6,7,8,34,35,36] r (by kernel_rfl) (U h2 (U (ax ((i:Nat):Int)) (U (vW lX) (U h4 (U (Lz cQ EX) (U (tF ((cF cQ).1) g (by have:=wM cQ;omega)) (U (tF ((cF cQ).2) (g&&(aL ((cF cQ).1) 255).2) (by have:=wM cQ;omega)) (U ((by first | rfl | (simp [ah,ints];done) | (simp [ah,ints];omega)):(L.length)=(ah L:List (List DV)).length) (U ((by first | rfl | (simp [ah,ints];done) | (simp [ah,ints];omega)):(1)=([[.n ((aL ((cF cQ).1) 255).1),.n ((aL ((cF cQ).2) 255).1)]]:List (List DV)).length) (U ((by first | omega | (simp [ah,ints];done) | (simp [ah,ints];omega)):(2*((L.length)+(1))+192)*16≤281474976710656) (U ((by first | omega | (simp [ah,ints];done) | (simp [ah,ints];omega)):(L.length)+(1)<4611686018427387904) (U ((by simp [aW,AV.one,bQ,af,ah,ints,steps,strs]):aW ([[.n ((aL ((cF cQ).1) 255).1),.n ((aL ((cF cQ).2) 255).1)]])) (U ((wi (by omega)):IntKind.i64.wrap ((((i:Nat):Int):Int)+1)=((i+1:Nat):Int)) trivial))))))))))))) fun ac wd r=>bj (by omega) ac wd ⟨(L++[((((aL (cF cQ).1 255).1:Nat):Int),(((aL (cF cQ).2 255).1:Nat):Int))]),H,false,((g&&(aL (cF cQ).1 255).2)&&(aL (cF cQ).2 255).2),⟨by omega,wL lX ao.2.1 (EW h4),by simp;omega,by omega⟩,r.cast rfl (by simp [ah,ints])⟩
      | true=>
       exact bp (todo':=hd Tryz.f47 0) (E':=[(2,.pt 0 0),(5,.pt 1 0),(6,.fn 81 [.pt 1 0]),(7,.pt 2 0),(8,.d (.v (.bool true))),(34,.d (.ro 1 (List.drop 2 (strs (ak 32 line))))),(35,.n ((dh line).length)),(36,.n (i+1))]) (M':=[.bx 25 [.z 0,.d (.v (.slice none 0 0)),.d (.v (.slice none 0 0))],.bx 4 [.d (.v (.bool g))],.bx 25 [.n ((aL (aZ line) 255).1),.sl 3 (L.length),.sl 4 (H.length)],.rw 60 2 (ah L),.rw 3 1 (ints H)]) tk mo hK al [(9,[(0,.b true)]),(10,[(0,.ix (i) [.v (.string ⟨cQ.toArray⟩)])]),(15,[(1,.b true)]),(17,[(0,.z (((i+1:Nat):Int)))])] 2000 [0,1,2,3,4] [2,5,6,7,8,34,35,36] r (by kernel_rfl) (U h2 (U (ax ((i:Nat):Int)) (U (vW lX) (U h4 (U ((wi (by omega)):IntKind.i64.wrap ((((i:Nat):Int):Int)+1)=((i+1:Nat):Int)) trivial))))) fun ac wd r=>bj (by omega) ac wd ⟨L,H,true,g,⟨by omega,wL lX ao.2.1 (EV h4),by omega,by omega⟩,r.cast rfl (by simp [ah,ints])⟩
    | true=>
     cases h5:(decide ((((i:Nat):Int):Int)<(((dh line).length:Nat):Int))) with
     | false=>
      have du:=of_decide_eq_false h5
      cases h6:(g) with
      | false=>
       refine bS (todo':=aft Tryz.f47 19) (E':=[(2,.pt 0 0),(3,.d (.v (.bool false)))]) (M':=[.bx 25 [.z 0,.d (.v (.slice none 0 0)),.d (.v (.slice none 0 0))]]) tk mo hK al [(9,[(0,.b false)]),(18,[(1,.b true)])] 11 [0] [2,3] r (by kernel_rfl) (U h5 (U ((by rw [h6];rfl):(!(g))=true) trivial)) fun ac wd r=>?_
       exact o0 (tX (pY (by omega) ao.2.1) (by simp [h6])) ac wd (r.cast rfl rfl)
      | true=>
       cases h7:(bY ⟨ki (aZ line),L,H⟩) with
       | false=>
        refine bS (todo':=aft Tryz.f47 19) (E':=[(2,.pt 0 0),(3,.d (.v (.bool false)))]) (M':=[.bx 25 [.z 0,.d (.v (.slice none 0 0)),.d (.v (.slice none 0 0))]]) tk mo hK al [(9,[(0,.b false)]),(18,[(1,.b false),(8,.call [.ag [.n ((aL (aZ line) 255).1),.d (.ro 2 (ah L)),.d (.ro 1 (ints H))]] (.v (.bool false)))])] 11 [0] [2,3] r (by kernel_rfl) (U h5 (U ((by rw [h6];rfl):(!(g))=false) (U ((by have k:=rD ⟨ki (aZ line),L,H⟩ sD sE;rw [h7] at k;exact k):ay Tryz.prog 21 [.ag [.n ((aL (aZ line) 255).1),.d (.ro 2 (ah L)),.d (.ro 1 (ints H))]] (.v (.bool false))) (U ((ft _):fe (.v (.bool false))) (U (iK (.n ((aL (aZ line) 255).1))) (U (cK (2)) (U ((by first | rfl | (simp [ah,ints];done) | (simp [ah,ints];omega)):(L.length)=(ah L:List (List DV)).length) (U ((by first | exact ew _ | exact ey _):b5 (ah L)=ah L) (U (cK (1)) (U ((by first | rfl | (simp [ah,ints];done) | (simp [ah,ints];omega)):(H.length)=(ints H).length) (U ((by first | exact ew _ | exact ey _):b5 (ints H)=ints H) trivial))))))))))) fun ac wd r=>?_
        exact o0 (tX (pY (by omega) ao.2.1) (by simp [h6,h7])) ac wd (r.cast rfl rfl)
       | true=>
        refine aY (y:=.tu [.ag [.n ((aL (aZ line) 255).1),.sl 0 (L.length),.sl 1 (H.length)],.d (.v (.bool true))]) (N':=[.rw 60 2 (ah L),.rw 3 1 (ints H)]) ((by have e:=pY (by omega) ao.2.1;rw [h6] at e;rw [q5 (xy e (by omega) h1 h7)];unfold u1 jS;rw [e]<;>rfl)) ((by have e:=pY (by omega) ao.2.1;rw [h6] at e;rw [q5 (xy e (by omega) h1 h7)];unfold uF jS;rw [e]<;>rfl)) ?_
        exact aX tk mo hK rfl al [(9,[(0,.b false)]),(18,[(1,.b false),(8,.call [.ag [.n ((aL (aZ line) 255).1),.d (.ro 2 (ah L)),.d (.ro 1 (ints H))]] (.v (.bool true)))])] 2000 [3,4] r (by kernel_rfl) (U h5 (U ((by rw [h6];rfl):(!(g))=false) (U ((by have k:=rD ⟨ki (aZ line),L,H⟩ sD sE;rw [h7] at k;exact k):ay Tryz.prog 21 [.ag [.n ((aL (aZ line) 255).1),.d (.ro 2 (ah L)),.d (.ro 1 (ints H))]] (.v (.bool true))) (U ((ft _):fe (.v (.bool true))) (U (iK (.n ((aL (aZ line) 255).1))) (U (cK (2)) (U ((by first | rfl | (simp [ah,ints];done) | (simp [ah,ints];omega)):(L.length)=(ah L:List (List DV)).length) (U ((by first | exact ew _ | exact ey _):b5 (ah L)=ah L) (U (cK (1)) (U ((by first | rfl | (simp [ah,ints];done) | (simp [ah,ints];omega)):(H.length)=(ints H).length) (U ((by first | exact ew _ | exact ey _):b5 (ints H)=ints H) trivial)))))))))))
     | true=>
      have du:=of_decide_eq_true h5
      obtain ⟨cQ,lX⟩:∃ x_,(dh line)[i]?=some x_:=⟨_,List.getElem?_eq_getElem (by omega)⟩
      have EX:=tE hl lX
      exact bp (todo':=hd Tryz.f47 0) (E':=[(2,.pt 0 0),(5,.pt 1 0),(6,.fn 81 [.pt 1 0]),(7,.pt 2 0),(8,.d (.v (.bool true))),(34,.d (.ro 1 (List.drop 2 (strs (ak 32 line))))),(35,.n ((dh line).length)),(36,.n (i+1))]) (M':=[.bx 25 [.z 0,.d (.v (.slice none 0 0)),.d (.v (.slice none 0 0))],.bx 4 [.d (.v (.bool ((g&&(aL cQ 255).2))))],.bx 25 [.n ((aL (aZ line) 255).1),.sl 3 (L.length),.sl 4 (H.length+(1))],.rw 60 2 (ah L),.rw 3 1 (ints H++[[.n ((aL cQ 255).1)]])]) tk mo hK al [(9,[(0,.b true)]),(10,[(0,.ix (i) [.v (.string ⟨cQ.toArray⟩)])]),(14,[(4,.mem [1] (.n ((aL cQ 255).1)) [.bx 4 [.d (.v (.bool ((g&&(aL cQ 255).2))))]])]),(17,[(0,.z (((i+1:Nat):Int)))])] 2000 [0,1,2,3,4] [2,5,6,7,8,34,35,36] r (by kernel_rfl) (U h5 (U (ax ((i:Nat):Int)) (U (vW lX) (U (tF cQ g (by have:=wM cQ;omega)) (U ((by first | rfl | (simp [ah,ints];done) | (simp [ah,ints];omega)):(H.length)=(ints H).length) (U ((by first | rfl | (simp [ah,ints];done) | (simp [ah,ints];omega)):(1)=([[.n ((aL cQ 255).1)]]:List (List DV)).length) (U ((by first | omega | (simp [ah,ints];done) | (simp [ah,ints];omega)):(2*((H.length)+(1))+192)*8≤281474976710656) (U ((by first | omega | (simp [ah,ints];done) | (simp [ah,ints];omega)):(H.length)+(1)<4611686018427387904) (U ((by simp [aW,AV.one,bQ,af,ah,ints,steps,strs]):aW ([[.n ((aL cQ 255).1)]])) (U ((wi (by omega)):IntKind.i64.wrap ((((i:Nat):Int):Int)+1)=((i+1:Nat):Int)) trivial)))))))))) fun ac wd r=>bj (by omega) ac wd ⟨L,(H++[(((aL cQ 255).1:Nat):Int)]),true,(g&&(aL cQ 255).2),⟨by omega,wL lX ao.2.1 (EU L H g cQ),by omega,by simp;omega⟩,r.cast rfl (by simp [ah,ints])⟩
   intro hJ ac wd r
   have r:=r.dA (E1:=[(2,.pt 0 0),(3,.d (.v (.bool false)))]) (M1:=[.bx 25 [.z 0,.d (.v (.slice none 0 0)),.d (.v (.slice none 0 0))]]) (M2:=[.bx 25 [.z 0,.sl 1 (0),.sl 2 (0)],.rw 60 2 ([]),.rw 3 1 ([])]) [] [(0,1,60,2),(0,2,3,1)] (by kernel_rfl) (by kernel_rfl)
   refine aY (y:=.tu [.ag [.z 0,.sl 0 (0),.sl 1 (0)],.d (.v (.bool false))]) (N':=[.rw 60 2 ([]),.rw 3 1 ([])]) ((by rw [nc hJ];rfl)) ((by rw [nc hJ];rfl)) ?_
   exact aX tk mo hK rfl al [] 2000 [1,2] r (by kernel_rfl) trivial
 | true=>
  have aT:=of_decide_eq_true h0
  refine bS (todo':=aft Tryz.f47 3) (E':=[(2,.pt 0 0),(3,.d (.v (.bool false))),(4,.d (.ro 1 (strs (ak 32 line))))]) (M':=[.bx 25 [.z 0,.d (.v (.slice none 0 0)),.d (.v (.slice none 0 0))]]) tk mo hK al [(1,[(1,.aG (.ro 1 (strs (ak 32 line))))]),(2,[(1,.z ((((ak 32 line).length:Nat):Int))),(2,.b true)])] 10 [0] [2,3,4] r (by kernel_rfl) (U (tn 32 line hl) (U aI (U h0 trivial))) fun ac wd r=>?_
  have r:=r.dA (E1:=[(2,.pt 0 0),(3,.d (.v (.bool false))),(4,.d (.ro 1 (strs (ak 32 line))))]) (M1:=[.bx 25 [.z 0,.d (.v (.slice none 0 0)),.d (.v (.slice none 0 0))]]) (M2:=[.bx 25 [.z 0,.sl 1 (0),.sl 2 (0)],.rw 60 2 ([]),.rw 3 1 ([])]) [] [(0,1,60,2),(0,2,3,1)] (by kernel_rfl) (by kernel_rfl)
  refine aY (y:=.tu [.ag [.z 0,.sl 0 (0),.sl 1 (0)],.d (.v (.bool false))]) (N':=[.rw 60 2 ([]),.rw 3 1 ([])]) ((by rw [nc (xw (by omega))];rfl)) ((by rw [nc (xw (by omega))];rfl)) ?_
  exact aX tk mo hK rfl al [] 2000 [1,2] r (by kernel_rfl) trivial
end Go.Proofs.YtcnpikbbmbombaaGreatDoor
namespace Go.Proofs.YtcnpikbbmbombaaGreatDoor
open Go.RowKit
theorem nU {z:Int} (h:0≤z) (h2:z≤65535):IntKind.u64.wrap z=((z.toNat:Nat):Int):=by
 simp [IntKind.wrap,IntKind.signed,IntKind.bits];omega
def qf (x:kt) (s:aB):List (List UInt8):=(if x.node then [cn s.node] else [])++(if x.peer then [cn s.peer] else [])++(if x.n then [cn s.n] else [])++(if x.bit then [cn s.bit] else [])++(if x.inc then [Go.Lib.decDigits s.inc] else [])++(if x.body then [jK s.body] else [])
def cM (s:aB):List (List UInt8):=(ae s.kind.toNat).word::qf (ae s.kind.toNat) s
theorem Hj {l:List UInt8} {n:Nat} (h:l.length≤n):(jK l).length≤2*n+1:=by
 unfold jK;split
 ·simp
 ·rw [dR];omega
theorem IK (k:Nat):(ae k).word.length≤7:=by
 rcases Nat.lt_or_ge k 14 with h | h
 ·exact l4 (p:=fun k=>(ae k).word.length≤7) (by decide) (by decide) (by decide) (by decide) (by decide) (by decide) (by decide) (by decide) (by decide) (by decide) (by decide) (by decide) (by decide) (by decide) h
 ·unfold ae;rw [List.getD_eq_getElem?_getD,List.getElem?_eq_none (by simpa [lh] using h)];decide
theorem IL (x:kt) (s:aB):(qf x s).length≤6:=by
 unfold qf
 simp only [List.length_append]
 have h1:∀ {b:Bool} {p:List (List UInt8)},p.length≤1→(if b=true then p else []).length≤1:=by
  intro b p h;split
  ·exact h
  ·simp
 have a1:=h1 (b:=x.node) (p:=[cn s.node]) (by simp)
 have a2:=h1 (b:=x.peer) (p:=[cn s.peer]) (by simp)
 have a3:=h1 (b:=x.n) (p:=[cn s.n]) (by simp)
 have a4:=h1 (b:=x.bit) (p:=[cn s.bit]) (by simp)
 have a5:=h1 (b:=x.inc) (p:=[Go.Lib.decDigits s.inc]) (by simp)
 have a6:=h1 (b:=x.body) (p:=[jK s.body]) (by simp)
 omega
theorem qX {s:aB} (hb:s.body.length≤255) (hi:s.inc<18446744073709551616) (h0:s.node≤65535) (h1:s.peer≤65535) (h2:s.n≤65535) (h3:s.bit≤65535):(cM s).flatten.length≤3577∧(cM s).length≤7:=by
 have hl:=IL (ae s.kind.toNat) s
 have hn:(cM s).length≤7:=by unfold cM;simp;omega
 refine ⟨?_,hn⟩
 have hd:∀ {z:Int},z≤65535→(cn z).length≤511:=fun {z} h=>by
  have:=s7 z.toNat (by omega)
  unfold cn;omega
 have h:=AD (l:=cM s) (n:=511) fun x hx=>by
  unfold cM at hx
  rcases List.mem_cons.1 hx with rfl | hx
  ·exact Nat.le_trans (IK _) (by decide)
  ·unfold qf at hx
   simp only [List.mem_append] at hx
   have key:∀ {b:Bool} {w x:List UInt8},x ∈ (if b=true then [w] else [])→x=w:=by
    intro b w x h;split at h
    ·simpa using h
    ·simp at h
   rcases hx with ((((hx | hx) | hx) | hx) | hx) | hx
   ·rw [key hx];exact hd h0
   ·rw [key hx];exact hd h1
   ·rw [key hx];exact hd h2
   ·rw [key hx];exact hd h3
   ·rw [key hx];exact Nat.le_trans (s7 _ hi) (by decide)
   ·rw [key hx];exact Hj hb
 have:=Nat.mul_le_mul_left 511 hn
 omega
def nE (b:Bool) (x:List UInt8) (l:List (List UInt8)):List (List UInt8):=cond b (l++[x]) l
theorem IM (b:Bool) (x:List UInt8) (l:List (List UInt8)):(nE b x l).length≤l.length+1:=by cases b<;>simp [nE]
theorem Kq (b:Bool) (x:List UInt8) (l:List (List UInt8)):nE b x l=l++(if b=true then [x] else []):=by cases b<;>simp [nE]
def o1 (s:aB):Nat→Bool×List UInt8
 | 0=>((ae s.kind.toNat).node,cn s.node)
 | 1=>((ae s.kind.toNat).peer,cn s.peer)
 | 2=>((ae s.kind.toNat).n,cn s.n)
 | 3=>((ae s.kind.toNat).bit,cn s.bit)
 | _=>((ae s.kind.toNat).inc,Go.Lib.decDigits s.inc)
def bk (s:aB):Nat→List (List UInt8)
 | 0=>[(ae s.kind.toNat).word]
 | j+1=>nE (o1 s j).1 (o1 s j).2 (bk s j)
theorem gG (s:aB):∀ j,(bk s j).length≤j+1
 | 0=>Nat.le_refl _
 | j+1=>Nat.le_trans (IM _ _ _) (Nat.succ_le_succ (gG s j))
theorem CQ (s:aB):cM s=nE (ae s.kind.toNat).body (jK s.body) (bk s 5):=by
 unfold cM qf;simp only [bk,o1,Kq];simp
theorem rG {s:aB} {j:Nat} (h:(o1 s j).1=true):strs (bk s (j+1))=strs (bk s j)++[[.v (.string ⟨(o1 s j).2.toArray⟩)]]:=by rw [bk,h];simp [nE,strs]
theorem rl {s:aB} {j:Nat} (h:(o1 s j).1=true):(bk s (j+1)).length=(bk s j).length+1:=by rw [bk,h];simp [nE]
theorem rH {s:aB} {j:Nat} (h:(o1 s j).1=false):bk s (j+1)=bk s j:=by rw [bk,h];rfl
theorem Ds {s:aB} (h:(ae s.kind.toNat).body=true):cM s=bk s 5++[jK s.body]:=by rw [CQ,h];rfl
theorem Dt {s:aB} (h:(ae s.kind.toNat).body=false):cM s=bk s 5:=by rw [CQ,h];rfl
set_option maxRecDepth 100000 in
theorem Gh (s:aB) (hb:s.body.length≤255) (hi:s.inc<18446744073709551616) (uS:0≤s.node) (qA:s.node≤65535) (EY:0≤s.peer) (qB:s.peer≤65535) (EZ:0≤s.n) (qC:s.n≤65535) (ff:0≤s.bit) (gj:s.bit≤65535) (k0:0≤s.kind) (k1:s.kind<14):aC Tryz.prog 42 [.ag [.z s.kind,.z s.node,.z s.peer,.z s.n,.z s.bit,.u s.inc,.d (.ro 1 (af s.body))]] [.gw 0 ai,.gw 1 aS] (.d (.v (.string ⟨(bF (cM s)).toArray⟩))) ([.gw 0 ai,.gw 1 aS]):=by
 refine aC.intro (by kernel_rfl) rfl rfl 58 rfl rfl fun D w0 K bs ac wd hK (al:bs.m=2) r=>?_
 refine bS (todo':=aft Tryz.f42 3) (E':=[(1,.pt 2 0),(2,.d (.v (.string .empty))),(3,.pt 3 0),(4,.pt 5 0),(5,.fn 72 [.pt 5 0])]) (M':=[.gw 0 ai,.gw 1 aS,.bx 42 [.z s.kind,.z s.node,.z s.peer,.z s.n,.z s.bit,.u s.inc,.d (.ro 1 (af s.body))],.bx 94 [.d (.v (.string ⟨((ae s.kind.toNat).word).toArray⟩)),.d (.v (.bool ((ae s.kind.toNat).node))),.d (.v (.bool ((ae s.kind.toNat).peer))),.d (.v (.bool ((ae s.kind.toNat).n))),.d (.v (.bool ((ae s.kind.toNat).bit))),.d (.v (.bool ((ae s.kind.toNat).inc))),.d (.v (.bool ((ae s.kind.toNat).body)))],.rw 9 1 ([[.v (.string ⟨((ae s.kind.toNat).word).toArray⟩)]]),.bx 87 [.sl 4 (1)]]) tk mo hK al [(1,[(2,.ix (s.kind.toNat) [.v (.string ⟨((ae s.kind.toNat).word).toArray⟩),.v (.bool ((ae s.kind.toNat).node)),.v (.bool ((ae s.kind.toNat).peer)),.v (.bool ((ae s.kind.toNat).n)),.v (.bool ((ae s.kind.toNat).bit)),.v (.bool ((ae s.kind.toNat).inc)),.v (.bool ((ae s.kind.toNat).body))])])] 8 [0,1,2,3,4,5] [1,2,3,4,5] r (by kernel_rfl) (U ((by omega):(s.kind)=((s.kind.toNat:Nat):Int)) (U ((by omega):(s.kind.toNat)<14) (U (nZ (by omega):List.take 7 (List.drop ((s.kind.toNat)*7) (ai:List DV))=([.v (.string ⟨((ae s.kind.toNat).word).toArray⟩),.v (.bool ((ae s.kind.toNat).node)),.v (.bool ((ae s.kind.toNat).peer)),.v (.bool ((ae s.kind.toNat).n)),.v (.bool ((ae s.kind.toNat).bit)),.v (.bool ((ae s.kind.toNat).inc)),.v (.bool ((ae s.kind.toNat).body))]:List DV)) trivial))) fun ac wd r=>?_
 suffices J4:∀ ac wd,RB D w0 K 58 bs [(1,.pt 2 0),(3,.pt 3 0),(4,.pt 4 0),(5,.fn 72 [.pt 4 0])] [.gw 0 ai,.gw 1 aS,.bx 42 [.z s.kind,.z s.node,.z s.peer,.z s.n,.z s.bit,.u s.inc,.d (.ro 1 (af s.body))],.bx 94 [.d (.v (.string ⟨((ae s.kind.toNat).word).toArray⟩)),.d (.v (.bool ((ae s.kind.toNat).node))),.d (.v (.bool ((ae s.kind.toNat).peer))),.d (.v (.bool ((ae s.kind.toNat).n))),.d (.v (.bool ((ae s.kind.toNat).bit))),.d (.v (.bool ((ae s.kind.toNat).inc))),.d (.v (.bool ((ae s.kind.toNat).body)))],.bx 87 [.sl 5 ((bk s 1).length)],.rw 9 1 (strs (bk s 1))] ac wd→aF Tryz.prog 42 (aft Tryz.f42 4) (fE D w0 K bs (.d (.v (.string ⟨(bF (cM s)).toArray⟩))) ([.gw 0 ai,.gw 1 aS])) ac wd by
  cases h0:((ae s.kind.toNat).node) with
  | false=>
   have r:=r.cast (M':=[.gw 0 ai,.gw 1 aS,.bx 42 [.z s.kind,.z s.node,.z s.peer,.z s.n,.z s.bit,.u s.inc,.d (.ro 1 (af s.body))],.bx 94 [.d (.v (.string ⟨((ae s.kind.toNat).word).toArray⟩)),.d (.v (.bool false)),.d (.v (.bool ((ae s.kind.toNat).peer))),.d (.v (.bool ((ae s.kind.toNat).n))),.d (.v (.bool ((ae s.kind.toNat).bit))),.d (.v (.bool ((ae s.kind.toNat).inc))),.d (.v (.bool ((ae s.kind.toNat).body)))],.rw 9 1 ([[.v (.string ⟨((ae s.kind.toNat).word).toArray⟩)]]),.bx 87 [.sl 4 (1)]]) rfl (by rw [h0])
   refine bS (todo':=aft Tryz.f42 4) (E':=[(1,.pt 2 0),(3,.pt 3 0),(4,.pt 4 0),(5,.fn 72 [.pt 4 0])]) (M':=[.gw 0 ai,.gw 1 aS,.bx 42 [.z s.kind,.z s.node,.z s.peer,.z s.n,.z s.bit,.u s.inc,.d (.ro 1 (af s.body))],.bx 94 [.d (.v (.string ⟨((ae s.kind.toNat).word).toArray⟩)),.d (.v (.bool false)),.d (.v (.bool ((ae s.kind.toNat).peer))),.d (.v (.bool ((ae s.kind.toNat).n))),.d (.v (.bool ((ae s.kind.toNat).bit))),.d (.v (.bool ((ae s.kind.toNat).inc))),.d (.v (.bool ((ae s.kind.toNat).body)))],.bx 87 [.sl 5 (1)],.rw 9 1 ([[.v (.string ⟨((ae s.kind.toNat).word).toArray⟩)]])]) tk mo hK al [(4,[(5,.z (((s.node.toNat:Nat):Int))),(6,.bw 200 [])])] 2 [0,1,2,3,5,4] [1,3,4,5] r (by kernel_rfl) (U ((nU uS qA):IntKind.u64.wrap (s.node)=((s.node.toNat:Nat):Int)) trivial) fun ac wd r=>?_
   exact J4 ac wd (r.cast rfl (by rw [rH (j:=0) h0,h0]<;>rfl))
  | true=>
   have r:=r.cast (M':=[.gw 0 ai,.gw 1 aS,.bx 42 [.z s.kind,.z s.node,.z s.peer,.z s.n,.z s.bit,.u s.inc,.d (.ro 1 (af s.body))],.bx 94 [.d (.v (.string ⟨((ae s.kind.toNat).word).toArray⟩)),.d (.v (.bool true)),.d (.v (.bool ((ae s.kind.toNat).peer))),.d (.v (.bool ((ae s.kind.toNat).n))),.d (.v (.bool ((ae s.kind.toNat).bit))),.d (.v (.bool ((ae s.kind.toNat).inc))),.d (.v (.bool ((ae s.kind.toNat).body)))],.rw 9 1 ([[.v (.string ⟨((ae s.kind.toNat).word).toArray⟩)]]),.bx 87 [.sl 4 (1)]]) rfl (by rw [h0])
   refine bS (todo':=aft Tryz.f42 4) (E':=[(1,.pt 2 0),(3,.pt 3 0),(4,.pt 4 0),(5,.fn 72 [.pt 4 0])]) (M':=[.gw 0 ai,.gw 1 aS,.bx 42 [.z s.kind,.z s.node,.z s.peer,.z s.n,.z s.bit,.u s.inc,.d (.ro 1 (af s.body))],.bx 94 [.d (.v (.string ⟨((ae s.kind.toNat).word).toArray⟩)),.d (.v (.bool true)),.d (.v (.bool ((ae s.kind.toNat).peer))),.d (.v (.bool ((ae s.kind.toNat).n))),.d (.v (.bool ((ae s.kind.toNat).bit))),.d (.v (.bool ((ae s.kind.toNat).inc))),.d (.v (.bool ((ae s.kind.toNat).body)))],.bx 87 [.sl 5 (1+(1))],.rw 9 1 ([[.v (.string ⟨((ae s.kind.toNat).word).toArray⟩)]]++[[.v (.string ⟨(Go.Lib.decDigits s.node.toNat).toArray⟩)]])]) tk mo hK al [(4,[(5,.z (((s.node.toNat:Nat):Int))),(6,.bw 200 [(1,[(2,.mem [1] (.d (.v (.string ⟨(Go.Lib.decDigits s.node.toNat).toArray⟩))) [.gw 1 aS])])])])] 2 [0,1,2,3,5,4] [1,3,4,5] r (by kernel_rfl) (U ((nU uS qA):IntKind.u64.wrap (s.node)=((s.node.toNat:Nat):Int)) (U (rV s.node.toNat (by omega)) (U ((by first | rfl | (simp [strs];done) | (simp [strs];omega)):(1)=([[.v (.string ⟨((ae s.kind.toNat).word).toArray⟩)]]:List (List DV)).length) (U ((by first | rfl | (simp [strs];done) | (simp [strs];omega)):(1)=([[.v (.string ⟨(Go.Lib.decDigits s.node.toNat).toArray⟩)]]:List (List DV)).length) (U ((by first | omega | (simp [strs];done) | (have:=gG s 5;simp [strs];omega)):(2*((1)+(1))+192)*16≤281474976710656) (U ((by first | omega | (simp [strs];done) | (have:=gG s 5;simp [strs];omega)):(1)+(1)<4611686018427387904) (U ((by simp [aW,AV.one,bQ,af,ah,ints,steps,strs]):aW ([[.v (.string ⟨(Go.Lib.decDigits s.node.toNat).toArray⟩)]])) trivial))))))) fun ac wd r=>?_
   exact J4 ac wd (r.cast rfl (by rw [rG (j:=0) h0,rl (j:=0) h0,h0]<;>rfl))
 intro ac wd r
 have QH:=gG s 1
 suffices J5:∀ ac wd,RB D w0 K 58 bs [(1,.pt 2 0),(3,.pt 3 0),(4,.pt 4 0),(5,.fn 72 [.pt 4 0])] [.gw 0 ai,.gw 1 aS,.bx 42 [.z s.kind,.z s.node,.z s.peer,.z s.n,.z s.bit,.u s.inc,.d (.ro 1 (af s.body))],.bx 94 [.d (.v (.string ⟨((ae s.kind.toNat).word).toArray⟩)),.d (.v (.bool ((ae s.kind.toNat).node))),.d (.v (.bool ((ae s.kind.toNat).peer))),.d (.v (.bool ((ae s.kind.toNat).n))),.d (.v (.bool ((ae s.kind.toNat).bit))),.d (.v (.bool ((ae s.kind.toNat).inc))),.d (.v (.bool ((ae s.kind.toNat).body)))],.bx 87 [.sl 5 ((bk s 2).length)],.rw 9 1 (strs (bk s 2))] ac wd→aF Tryz.prog 42 (aft Tryz.f42 5) (fE D w0 K bs (.d (.v (.string ⟨(bF (cM s)).toArray⟩))) ([.gw 0 ai,.gw 1 aS])) ac wd by
  cases h1:((ae s.kind.toNat).peer) with
  | false=>
   have r:=r.cast (M':=[.gw 0 ai,.gw 1 aS,.bx 42 [.z s.kind,.z s.node,.z s.peer,.z s.n,.z s.bit,.u s.inc,.d (.ro 1 (af s.body))],.bx 94 [.d (.v (.string ⟨((ae s.kind.toNat).word).toArray⟩)),.d (.v (.bool ((ae s.kind.toNat).node))),.d (.v (.bool false)),.d (.v (.bool ((ae s.kind.toNat).n))),.d (.v (.bool ((ae s.kind.toNat).bit))),.d (.v (.bool ((ae s.kind.toNat).inc))),.d (.v (.bool ((ae s.kind.toNat).body)))],.bx 87 [.sl 5 ((bk s 1).length)],.rw 9 1 (strs (bk s 1))]) rfl (by rw [h1])
   refine bS (todo':=aft Tryz.f42 5) (E':=[(1,.pt 2 0),(3,.pt 3 0),(4,.pt 4 0),(5,.fn 72 [.pt 4 0])]) (M':=[.gw 0 ai,.gw 1 aS,.bx 42 [.z s.kind,.z s.node,.z s.peer,.z s.n,.z s.bit,.u s.inc,.d (.ro 1 (af s.body))],.bx 94 [.d (.v (.string ⟨((ae s.kind.toNat).word).toArray⟩)),.d (.v (.bool ((ae s.kind.toNat).node))),.d (.v (.bool false)),.d (.v (.bool ((ae s.kind.toNat).n))),.d (.v (.bool ((ae s.kind.toNat).bit))),.d (.v (.bool ((ae s.kind.toNat).inc))),.d (.v (.bool ((ae s.kind.toNat).body)))],.bx 87 [.sl 5 ((bk s 1).length)],.rw 9 1 (strs (bk s 1))]) tk mo hK al [(5,[(5,.z (((s.peer.toNat:Nat):Int))),(6,.bw 200 [])])] 2 [0,1,2,3,4,5] [1,3,4,5] r (by kernel_rfl) (U ((nU EY qB):IntKind.u64.wrap (s.peer)=((s.peer.toNat:Nat):Int)) trivial) fun ac wd r=>?_
   exact J5 ac wd (r.cast rfl (by rw [rH (j:=1) h1,h1]<;>rfl))
  | true=>
   have r:=r.cast (M':=[.gw 0 ai,.gw 1 aS,.bx 42 [.z s.kind,.z s.node,.z s.peer,.z s.n,.z s.bit,.u s.inc,.d (.ro 1 (af s.body))],.bx 94 [.d (.v (.string ⟨((ae s.kind.toNat).word).toArray⟩)),.d (.v (.bool ((ae s.kind.toNat).node))),.d (.v (.bool true)),.d (.v (.bool ((ae s.kind.toNat).n))),.d (.v (.bool ((ae s.kind.toNat).bit))),.d (.v (.bool ((ae s.kind.toNat).inc))),.d (.v (.bool ((ae s.kind.toNat).body)))],.bx 87 [.sl 5 ((bk s 1).length)],.rw 9 1 (strs (bk s 1))]) rfl (by rw [h1])
   refine bS (todo':=aft Tryz.f42 5) (E':=[(1,.pt 2 0),(3,.pt 3 0),(4,.pt 4 0),(5,.fn 72 [.pt 4 0])]) (M':=[.gw 0 ai,.gw 1 aS,.bx 42 [.z s.kind,.z s.node,.z s.peer,.z s.n,.z s.bit,.u s.inc,.d (.ro 1 (af s.body))],.bx 94 [.d (.v (.string ⟨((ae s.kind.toNat).word).toArray⟩)),.d (.v (.bool ((ae s.kind.toNat).node))),.d (.v (.bool true)),.d (.v (.bool ((ae s.kind.toNat).n))),.d (.v (.bool ((ae s.kind.toNat).bit))),.d (.v (.bool ((ae s.kind.toNat).inc))),.d (.v (.bool ((ae s.kind.toNat).body)))],.bx 87 [.sl 5 ((bk s 1).length+(1))],.rw 9 1 (strs (bk s 1)++[[.v (.string ⟨(Go.Lib.decDigits s.peer.toNat).toArray⟩)]])]) tk mo hK al [(5,[(5,.z (((s.peer.toNat:Nat):Int))),(6,.bw 200 [(1,[(2,.mem [1] (.d (.v (.string ⟨(Go.Lib.decDigits s.peer.toNat).toArray⟩))) [.gw 1 aS])])])])] 2 [0,1,2,3,4,5] [1,3,4,5] r (by kernel_rfl) (U ((nU EY qB):IntKind.u64.wrap (s.peer)=((s.peer.toNat:Nat):Int)) (U (rV s.peer.toNat (by omega)) (U ((by first | rfl | (simp [strs];done) | (simp [strs];omega)):((bk s 1).length)=(strs (bk s 1):List (List DV)).length) (U ((by first | rfl | (simp [strs];done) | (simp [strs];omega)):(1)=([[.v (.string ⟨(Go.Lib.decDigits s.peer.toNat).toArray⟩)]]:List (List DV)).length) (U ((by first | omega | (simp [strs];done) | (have:=gG s 5;simp [strs];omega)):(2*(((bk s 1).length)+(1))+192)*16≤281474976710656) (U ((by first | omega | (simp [strs];done) | (have:=gG s 5;simp [strs];omega)):((bk s 1).length)+(1)<4611686018427387904) (U ((by simp [aW,AV.one,bQ,af,ah,ints,steps,strs]):aW ([[.v (.string ⟨(Go.Lib.decDigits s.peer.toNat).toArray⟩)]])) trivial))))))) fun ac wd r=>?_
   exact J5 ac wd (r.cast rfl (by rw [rG (j:=1) h1,rl (j:=1) h1,h1]<;>rfl))
 intro ac wd r
 have O8:=gG s 2
 suffices J6:∀ ac wd,RB D w0 K 58 bs [(1,.pt 2 0),(3,.pt 3 0),(4,.pt 4 0),(5,.fn 72 [.pt 4 0])] [.gw 0 ai,.gw 1 aS,.bx 42 [.z s.kind,.z s.node,.z s.peer,.z s.n,.z s.bit,.u s.inc,.d (.ro 1 (af s.body))],.bx 94 [.d (.v (.string ⟨((ae s.kind.toNat).word).toArray⟩)),.d (.v (.bool ((ae s.kind.toNat).node))),.d (.v (.bool ((ae s.kind.toNat).peer))),.d (.v (.bool ((ae s.kind.toNat).n))),.d (.v (.bool ((ae s.kind.toNat).bit))),.d (.v (.bool ((ae s.kind.toNat).inc))),.d (.v (.bool ((ae s.kind.toNat).body)))],.bx 87 [.sl 5 ((bk s 3).length)],.rw 9 1 (strs (bk s 3))] ac wd→aF Tryz.prog 42 (aft Tryz.f42 6) (fE D w0 K bs (.d (.v (.string ⟨(bF (cM s)).toArray⟩))) ([.gw 0 ai,.gw 1 aS])) ac wd by
  cases h2:((ae s.kind.toNat).n) with
  | false=>
   have r:=r.cast (M':=[.gw 0 ai,.gw 1 aS,.bx 42 [.z s.kind,.z s.node,.z s.peer,.z s.n,.z s.bit,.u s.inc,.d (.ro 1 (af s.body))],.bx 94 [.d (.v (.string ⟨((ae s.kind.toNat).word).toArray⟩)),.d (.v (.bool ((ae s.kind.toNat).node))),.d (.v (.bool ((ae s.kind.toNat).peer))),.d (.v (.bool false)),.d (.v (.bool ((ae s.kind.toNat).bit))),.d (.v (.bool ((ae s.kind.toNat).inc))),.d (.v (.bool ((ae s.kind.toNat).body)))],.bx 87 [.sl 5 ((bk s 2).length)],.rw 9 1 (strs (bk s 2))]) rfl (by rw [h2])
   refine bS (todo':=aft Tryz.f42 6) (E':=[(1,.pt 2 0),(3,.pt 3 0),(4,.pt 4 0),(5,.fn 72 [.pt 4 0])]) (M':=[.gw 0 ai,.gw 1 aS,.bx 42 [.z s.kind,.z s.node,.z s.peer,.z s.n,.z s.bit,.u s.inc,.d (.ro 1 (af s.body))],.bx 94 [.d (.v (.string ⟨((ae s.kind.toNat).word).toArray⟩)),.d (.v (.bool ((ae s.kind.toNat).node))),.d (.v (.bool ((ae s.kind.toNat).peer))),.d (.v (.bool false)),.d (.v (.bool ((ae s.kind.toNat).bit))),.d (.v (.bool ((ae s.kind.toNat).inc))),.d (.v (.bool ((ae s.kind.toNat).body)))],.bx 87 [.sl 5 ((bk s 2).length)],.rw 9 1 (strs (bk s 2))]) tk mo hK al [(6,[(5,.z (((s.n.toNat:Nat):Int))),(6,.bw 200 [])])] 2 [0,1,2,3,4,5] [1,3,4,5] r (by kernel_rfl) (U ((nU EZ qC):IntKind.u64.wrap (s.n)=((s.n.toNat:Nat):Int)) trivial) fun ac wd r=>?_
   exact J6 ac wd (r.cast rfl (by rw [rH (j:=2) h2,h2]<;>rfl))
  | true=>
   have r:=r.cast (M':=[.gw 0 ai,.gw 1 aS,.bx 42 [.z s.kind,.z s.node,.z s.peer,.z s.n,.z s.bit,.u s.inc,.d (.ro 1 (af s.body))],.bx 94 [.d (.v (.string ⟨((ae s.kind.toNat).word).toArray⟩)),.d (.v (.bool ((ae s.kind.toNat).node))),.d (.v (.bool ((ae s.kind.toNat).peer))),.d (.v (.bool true)),.d (.v (.bool ((ae s.kind.toNat).bit))),.d (.v (.bool ((ae s.kind.toNat).inc))),.d (.v (.bool ((ae s.kind.toNat).body)))],.bx 87 [.sl 5 ((bk s 2).length)],.rw 9 1 (strs (bk s 2))]) rfl (by rw [h2])
   refine bS (todo':=aft Tryz.f42 6) (E':=[(1,.pt 2 0),(3,.pt 3 0),(4,.pt 4 0),(5,.fn 72 [.pt 4 0])]) (M':=[.gw 0 ai,.gw 1 aS,.bx 42 [.z s.kind,.z s.node,.z s.peer,.z s.n,.z s.bit,.u s.inc,.d (.ro 1 (af s.body))],.bx 94 [.d (.v (.string ⟨((ae s.kind.toNat).word).toArray⟩)),.d (.v (.bool ((ae s.kind.toNat).node))),.d (.v (.bool ((ae s.kind.toNat).peer))),.d (.v (.bool true)),.d (.v (.bool ((ae s.kind.toNat).bit))),.d (.v (.bool ((ae s.kind.toNat).inc))),.d (.v (.bool ((ae s.kind.toNat).body)))],.bx 87 [.sl 5 ((bk s 2).length+(1))],.rw 9 1 (strs (bk s 2)++[[.v (.string ⟨(Go.Lib.decDigits s.n.toNat).toArray⟩)]])]) tk mo hK al [(6,[(5,.z (((s.n.toNat:Nat):Int))),(6,.bw 200 [(1,[(2,.mem [1] (.d (.v (.string ⟨(Go.Lib.decDigits s.n.toNat).toArray⟩))) [.gw 1 aS])])])])] 2 [0,1,2,3,4,5] [1,3,4,5] r (by kernel_rfl) (U ((nU EZ qC):IntKind.u64.wrap (s.n)=((s.n.toNat:Nat):Int)) (U (rV s.n.toNat (by omega)) (U ((by first | rfl | (simp [strs];done) | (simp [strs];omega)):((bk s 2).length)=(strs (bk s 2):List (List DV)).length) (U ((by first | rfl | (simp [strs];done) | (simp [strs];omega)):(1)=([[.v (.string ⟨(Go.Lib.decDigits s.n.toNat).toArray⟩)]]:List (List DV)).length) (U ((by first | omega | (simp [strs];done) | (have:=gG s 5;simp [strs];omega)):(2*(((bk s 2).length)+(1))+192)*16≤281474976710656) (U ((by first | omega | (simp [strs];done) | (have:=gG s 5;simp [strs];omega)):((bk s 2).length)+(1)<4611686018427387904) (U ((by simp [aW,AV.one,bQ,af,ah,ints,steps,strs]):aW ([[.v (.string ⟨(Go.Lib.decDigits s.n.toNat).toArray⟩)]])) trivial))))))) fun ac wd r=>?_
   exact J6 ac wd (r.cast rfl (by rw [rG (j:=2) h2,rl (j:=2) h2,h2]<;>rfl))
 intro ac wd r
 have O9:=gG s 3
 suffices J7:∀ ac wd,RB D w0 K 58 bs [(1,.pt 2 0),(3,.pt 3 0),(4,.pt 4 0),(5,.fn 72 [.pt 4 0])] [.gw 0 ai,.gw 1 aS,.bx 42 [.z s.kind,.z s.node,.z s.peer,.z s.n,.z s.bit,.u s.inc,.d (.ro 1 (af s.body))],.bx 94 [.d (.v (.string ⟨((ae s.kind.toNat).word).toArray⟩)),.d (.v (.bool ((ae s.kind.toNat).node))),.d (.v (.bool ((ae s.kind.toNat).peer))),.d (.v (.bool ((ae s.kind.toNat).n))),.d (.v (.bool ((ae s.kind.toNat).bit))),.d (.v (.bool ((ae s.kind.toNat).inc))),.d (.v (.bool ((ae s.kind.toNat).body)))],.bx 87 [.sl 5 ((bk s 4).length)],.rw 9 1 (strs (bk s 4))] ac wd→aF Tryz.prog 42 (aft Tryz.f42 7) (fE D w0 K bs (.d (.v (.string ⟨(bF (cM s)).toArray⟩))) ([.gw 0 ai,.gw 1 aS])) ac wd by
  cases h3:((ae s.kind.toNat).bit) with
  | false=>
   have r:=r.cast (M':=[.gw 0 ai,.gw 1 aS,.bx 42 [.z s.kind,.z s.node,.z s.peer,.z s.n,.z s.bit,.u s.inc,.d (.ro 1 (af s.body))],.bx 94 [.d (.v (.string ⟨((ae s.kind.toNat).word).toArray⟩)),.d (.v (.bool ((ae s.kind.toNat).node))),.d (.v (.bool ((ae s.kind.toNat).peer))),.d (.v (.bool ((ae s.kind.toNat).n))),.d (.v (.bool false)),.d (.v (.bool ((ae s.kind.toNat).inc))),.d (.v (.bool ((ae s.kind.toNat).body)))],.bx 87 [.sl 5 ((bk s 3).length)],.rw 9 1 (strs (bk s 3))]) rfl (by rw [h3])
   refine bS (todo':=aft Tryz.f42 7) (E':=[(1,.pt 2 0),(3,.pt 3 0),(4,.pt 4 0),(5,.fn 72 [.pt 4 0])]) (M':=[.gw 0 ai,.gw 1 aS,.bx 42 [.z s.kind,.z s.node,.z s.peer,.z s.n,.z s.bit,.u s.inc,.d (.ro 1 (af s.body))],.bx 94 [.d (.v (.string ⟨((ae s.kind.toNat).word).toArray⟩)),.d (.v (.bool ((ae s.kind.toNat).node))),.d (.v (.bool ((ae s.kind.toNat).peer))),.d (.v (.bool ((ae s.kind.toNat).n))),.d (.v (.bool false)),.d (.v (.bool ((ae s.kind.toNat).inc))),.d (.v (.bool ((ae s.kind.toNat).body)))],.bx 87 [.sl 5 ((bk s 3).length)],.rw 9 1 (strs (bk s 3))]) tk mo hK al [(7,[(5,.z (((s.bit.toNat:Nat):Int))),(6,.bw 200 [])])] 2 [0,1,2,3,4,5] [1,3,4,5] r (by kernel_rfl) (U ((nU ff gj):IntKind.u64.wrap (s.bit)=((s.bit.toNat:Nat):Int)) trivial) fun ac wd r=>?_
   exact J7 ac wd (r.cast rfl (by rw [rH (j:=3) h3,h3]<;>rfl))
  | true=>
   have r:=r.cast (M':=[.gw 0 ai,.gw 1 aS,.bx 42 [.z s.kind,.z s.node,.z s.peer,.z s.n,.z s.bit,.u s.inc,.d (.ro 1 (af s.body))],.bx 94 [.d (.v (.string ⟨((ae s.kind.toNat).word).toArray⟩)),.d (.v (.bool ((ae s.kind.toNat).node))),.d (.v (.bool ((ae s.kind.toNat).peer))),.d (.v (.bool ((ae s.kind.toNat).n))),.d (.v (.bool true)),.d (.v (.bool ((ae s.kind.toNat).inc))),.d (.v (.bool ((ae s.kind.toNat).body)))],.bx 87 [.sl 5 ((bk s 3).length)],.rw 9 1 (strs (bk s 3))]) rfl (by rw [h3])
   refine bS (todo':=aft Tryz.f42 7) (E':=[(1,.pt 2 0),(3,.pt 3 0),(4,.pt 4 0),(5,.fn 72 [.pt 4 0])]) (M':=[.gw 0 ai,.gw 1 aS,.bx 42 [.z s.kind,.z s.node,.z s.peer,.z s.n,.z s.bit,.u s.inc,.d (.ro 1 (af s.body))],.bx 94 [.d (.v (.string ⟨((ae s.kind.toNat).word).toArray⟩)),.d (.v (.bool ((ae s.kind.toNat).node))),.d (.v (.bool ((ae s.kind.toNat).peer))),.d (.v (.bool ((ae s.kind.toNat).n))),.d (.v (.bool true)),.d (.v (.bool ((ae s.kind.toNat).inc))),.d (.v (.bool ((ae s.kind.toNat).body)))],.bx 87 [.sl 5 ((bk s 3).length+(1))],.rw 9 1 (strs (bk s 3)++[[.v (.string ⟨(Go.Lib.decDigits s.bit.toNat).toArray⟩)]])]) tk mo hK al [(7,[(5,.z (((s.bit.toNat:Nat):Int))),(6,.bw 200 [(1,[(2,.mem [1] (.d (.v (.string ⟨(Go.Lib.decDigits s.bit.toNat).toArray⟩))) [.gw 1 aS])])])])] 2 [0,1,2,3,4,5] [1,3,4,5] r (by kernel_rfl) (U ((nU ff gj):IntKind.u64.wrap (s.bit)=((s.bit.toNat:Nat):Int)) (U (rV s.bit.toNat (by omega)) (U ((by first | rfl | (simp [strs];done) | (simp [strs];omega)):((bk s 3).length)=(strs (bk s 3):List (List DV)).length) (U ((by first | rfl | (simp [strs];done) | (simp [strs];omega)):(1)=([[.v (.string ⟨(Go.Lib.decDigits s.bit.toNat).toArray⟩)]]:List (List DV)).length) (U ((by first | omega | (simp [strs];done) | (have:=gG s 5;simp [strs];omega)):(2*(((bk s 3).length)+(1))+192)*16≤281474976710656) (U ((by first | omega | (simp [strs];done) | (have:=gG s 5;simp [strs];omega)):((bk s 3).length)+(1)<4611686018427387904) (U ((by simp [aW,AV.one,bQ,af,ah,ints,steps,strs]):aW ([[.v (.string ⟨(Go.Lib.decDigits s.bit.toNat).toArray⟩)]])) trivial))))))) fun ac wd r=>?_
   exact J7 ac wd (r.cast rfl (by rw [rG (j:=3) h3,rl (j:=3) h3,h3]<;>rfl))
 intro ac wd r
 have Pa:=gG s 4
 suffices J8:∀ ac wd,RB D w0 K 58 bs [(1,.pt 2 0),(3,.pt 3 0),(4,.pt 4 0),(5,.fn 72 [.pt 4 0])] [.gw 0 ai,.gw 1 aS,.bx 42 [.z s.kind,.z s.node,.z s.peer,.z s.n,.z s.bit,.u s.inc,.d (.ro 1 (af s.body))],.bx 94 [.d (.v (.string ⟨((ae s.kind.toNat).word).toArray⟩)),.d (.v (.bool ((ae s.kind.toNat).node))),.d (.v (.bool ((ae s.kind.toNat).peer))),.d (.v (.bool ((ae s.kind.toNat).n))),.d (.v (.bool ((ae s.kind.toNat).bit))),.d (.v (.bool ((ae s.kind.toNat).inc))),.d (.v (.bool ((ae s.kind.toNat).body)))],.bx 87 [.sl 5 ((bk s 5).length)],.rw 9 1 (strs (bk s 5))] ac wd→aF Tryz.prog 42 (aft Tryz.f42 8) (fE D w0 K bs (.d (.v (.string ⟨(bF (cM s)).toArray⟩))) ([.gw 0 ai,.gw 1 aS])) ac wd by
  cases h4:((ae s.kind.toNat).inc) with
  | false=>
   have r:=r.cast (M':=[.gw 0 ai,.gw 1 aS,.bx 42 [.z s.kind,.z s.node,.z s.peer,.z s.n,.z s.bit,.u s.inc,.d (.ro 1 (af s.body))],.bx 94 [.d (.v (.string ⟨((ae s.kind.toNat).word).toArray⟩)),.d (.v (.bool ((ae s.kind.toNat).node))),.d (.v (.bool ((ae s.kind.toNat).peer))),.d (.v (.bool ((ae s.kind.toNat).n))),.d (.v (.bool ((ae s.kind.toNat).bit))),.d (.v (.bool false)),.d (.v (.bool ((ae s.kind.toNat).body)))],.bx 87 [.sl 5 ((bk s 4).length)],.rw 9 1 (strs (bk s 4))]) rfl (by rw [h4])
   refine bS (todo':=aft Tryz.f42 8) (E':=[(1,.pt 2 0),(3,.pt 3 0),(4,.pt 4 0),(5,.fn 72 [.pt 4 0])]) (M':=[.gw 0 ai,.gw 1 aS,.bx 42 [.z s.kind,.z s.node,.z s.peer,.z s.n,.z s.bit,.u s.inc,.d (.ro 1 (af s.body))],.bx 94 [.d (.v (.string ⟨((ae s.kind.toNat).word).toArray⟩)),.d (.v (.bool ((ae s.kind.toNat).node))),.d (.v (.bool ((ae s.kind.toNat).peer))),.d (.v (.bool ((ae s.kind.toNat).n))),.d (.v (.bool ((ae s.kind.toNat).bit))),.d (.v (.bool false)),.d (.v (.bool ((ae s.kind.toNat).body)))],.bx 87 [.sl 5 ((bk s 4).length)],.rw 9 1 (strs (bk s 4))]) tk mo hK al [(8,[(5,.bw 200 [])])] 2 [0,1,2,3,4,5] [1,3,4,5] r (by kernel_rfl) trivial fun ac wd r=>?_
   exact J8 ac wd (r.cast rfl (by rw [rH (j:=4) h4,h4]<;>rfl))
  | true=>
   have r:=r.cast (M':=[.gw 0 ai,.gw 1 aS,.bx 42 [.z s.kind,.z s.node,.z s.peer,.z s.n,.z s.bit,.u s.inc,.d (.ro 1 (af s.body))],.bx 94 [.d (.v (.string ⟨((ae s.kind.toNat).word).toArray⟩)),.d (.v (.bool ((ae s.kind.toNat).node))),.d (.v (.bool ((ae s.kind.toNat).peer))),.d (.v (.bool ((ae s.kind.toNat).n))),.d (.v (.bool ((ae s.kind.toNat).bit))),.d (.v (.bool true)),.d (.v (.bool ((ae s.kind.toNat).body)))],.bx 87 [.sl 5 ((bk s 4).length)],.rw 9 1 (strs (bk s 4))]) rfl (by rw [h4])
   refine bS (todo':=aft Tryz.f42 8) (E':=[(1,.pt 2 0),(3,.pt 3 0),(4,.pt 4 0),(5,.fn 72 [.pt 4 0])]) (M':=[.gw 0 ai,.gw 1 aS,.bx 42 [.z s.kind,.z s.node,.z s.peer,.z s.n,.z s.bit,.u s.inc,.d (.ro 1 (af s.body))],.bx 94 [.d (.v (.string ⟨((ae s.kind.toNat).word).toArray⟩)),.d (.v (.bool ((ae s.kind.toNat).node))),.d (.v (.bool ((ae s.kind.toNat).peer))),.d (.v (.bool ((ae s.kind.toNat).n))),.d (.v (.bool ((ae s.kind.toNat).bit))),.d (.v (.bool true)),.d (.v (.bool ((ae s.kind.toNat).body)))],.bx 87 [.sl 5 ((bk s 4).length+(1))],.rw 9 1 (strs (bk s 4)++[[.v (.string ⟨(Go.Lib.decDigits s.inc).toArray⟩)]])]) tk mo hK al [(8,[(5,.bw 200 [(1,[(2,.mem [1] (.d (.v (.string ⟨(Go.Lib.decDigits s.inc).toArray⟩))) [.gw 1 aS])])])])] 2 [0,1,2,3,4,5] [1,3,4,5] r (by kernel_rfl) (U (rV s.inc (by omega)) (U ((by first | rfl | (simp [strs];done) | (simp [strs];omega)):((bk s 4).length)=(strs (bk s 4):List (List DV)).length) (U ((by first | rfl | (simp [strs];done) | (simp [strs];omega)):(1)=([[.v (.string ⟨(Go.Lib.decDigits s.inc).toArray⟩)]]:List (List DV)).length) (U ((by first | omega | (simp [strs];done) | (have:=gG s 5;simp [strs];omega)):(2*(((bk s 4).length)+(1))+192)*16≤281474976710656) (U ((by first | omega | (simp [strs];done) | (have:=gG s 5;simp [strs];omega)):((bk s 4).length)+(1)<4611686018427387904) (U ((by simp [aW,AV.one,bQ,af,ah,ints,steps,strs]):aW ([[.v (.string ⟨(Go.Lib.decDigits s.inc).toArray⟩)]])) trivial)))))) fun ac wd r=>?_
   exact J8 ac wd (r.cast rfl (by rw [rG (j:=4) h4,rl (j:=4) h4,h4]<;>rfl))
 intro ac wd r
 have Pb:=gG s 5
 refine bS (todo':=aft Tryz.f42 9) (E':=[(1,.pt 2 0),(4,.pt 4 0),(49,.d (.v (.bool ((ae s.kind.toNat).body))))]) (M':=[.gw 0 ai,.gw 1 aS,.bx 42 [.z s.kind,.z s.node,.z s.peer,.z s.n,.z s.bit,.u s.inc,.d (.ro 1 (af s.body))],.bx 94 [.d (.v (.string ⟨((ae s.kind.toNat).word).toArray⟩)),.d (.v (.bool ((ae s.kind.toNat).node))),.d (.v (.bool ((ae s.kind.toNat).peer))),.d (.v (.bool ((ae s.kind.toNat).n))),.d (.v (.bool ((ae s.kind.toNat).bit))),.d (.v (.bool ((ae s.kind.toNat).inc))),.d (.v (.bool ((ae s.kind.toNat).body)))],.bx 87 [.sl 5 ((bk s 5).length)],.rw 9 1 (strs (bk s 5))]) tk mo hK al [] 3 [0,1,2,3,4,5] [1,4,49] r (by kernel_rfl) trivial fun ac wd r=>?_
 cases h5:((ae s.kind.toNat).body) with
 | false=>
  have r:=r.cast (E':=[(1,.pt 2 0),(4,.pt 4 0),(49,.d (.v (.bool false)))]) (M':=[.gw 0 ai,.gw 1 aS,.bx 42 [.z s.kind,.z s.node,.z s.peer,.z s.n,.z s.bit,.u s.inc,.d (.ro 1 (af s.body))],.bx 94 [.d (.v (.string ⟨((ae s.kind.toNat).word).toArray⟩)),.d (.v (.bool ((ae s.kind.toNat).node))),.d (.v (.bool ((ae s.kind.toNat).peer))),.d (.v (.bool ((ae s.kind.toNat).n))),.d (.v (.bool ((ae s.kind.toNat).bit))),.d (.v (.bool ((ae s.kind.toNat).inc))),.d (.v (.bool false))],.bx 87 [.sl 5 ((bk s 5).length)],.rw 9 1 (strs (bk s 5))]) (by rw [h5]) (by rw [h5])
  refine aY (y:=.d (.v (.string ⟨(bF (cM s)).toArray⟩))) (N':=[.gw 0 ai,.gw 1 aS]) (rfl) (rfl) ?_
  exact aX tk mo hK rfl al [(11,[(1,.call [.d (.ro 1 (strs (cM s))),.d (.v (.string ⟨([32]).toArray⟩))] (.v (.string ⟨(bF (cM s)).toArray⟩)))])] 2000 [0,1] r (by kernel_rfl) (U (xv _ _ (Nat.le_trans (Nat.le_of_succ_le (qX (s:=s) hb hi qA qB qC gj).2) (by decide)) (Nat.le_trans (qX (s:=s) hb hi qA qB qC gj).1 (by decide)):ay Tryz.prog 71 [.d (.ro 1 (strs (cM s))),.d (.v (.string ⟨([32]).toArray⟩))] (.v (.string ⟨(bF (cM s)).toArray⟩))) (U ((ft _):fe (.v (.string ⟨(bF (cM s)).toArray⟩))) (U (cK (1)) (U ((by first | rfl | (simp [strs];done) | (simp [strs];omega)):((bk s 5).length)=(strs (bk s 5):List (List DV)).length) (U ((by first | (rw [Dt (by assumption)];simp [strs,kx,fa];done) | (rw [Ds (by assumption)];simp [strs,kx,fa])):b5 (strs (bk s 5))=strs (cM s)) (U (iK (.v (.string ⟨([32]).toArray⟩))) trivial))))))
 | true=>
  have r:=r.cast (E':=[(1,.pt 2 0),(4,.pt 4 0),(49,.d (.v (.bool true)))]) (M':=[.gw 0 ai,.gw 1 aS,.bx 42 [.z s.kind,.z s.node,.z s.peer,.z s.n,.z s.bit,.u s.inc,.d (.ro 1 (af s.body))],.bx 94 [.d (.v (.string ⟨((ae s.kind.toNat).word).toArray⟩)),.d (.v (.bool ((ae s.kind.toNat).node))),.d (.v (.bool ((ae s.kind.toNat).peer))),.d (.v (.bool ((ae s.kind.toNat).n))),.d (.v (.bool ((ae s.kind.toNat).bit))),.d (.v (.bool ((ae s.kind.toNat).inc))),.d (.v (.bool true))],.bx 87 [.sl 5 ((bk s 5).length)],.rw 9 1 (strs (bk s 5))]) (by rw [h5]) (by rw [h5])
  refine aY (y:=.d (.v (.string ⟨(bF (cM s)).toArray⟩))) (N':=[.gw 0 ai,.gw 1 aS]) (rfl) (rfl) ?_
  exact aX tk mo hK rfl al [(10,[(3,.aG (.v (.string ⟨(jK s.body).toArray⟩)))]),(11,[(1,.call [.d (.ro 1 (strs (cM s))),.d (.v (.string ⟨([32]).toArray⟩))] (.v (.string ⟨(bF (cM s)).toArray⟩)))])] 2000 [0,1] r (by kernel_rfl) (U (Gf s.body (by omega)) (U ((by first | rfl | (simp [strs];done) | (simp [strs];omega)):((bk s 5).length)=(strs (bk s 5):List (List DV)).length) (U ((by first | rfl | (simp [strs];done) | (simp [strs];omega)):(1)=([[.v (.string ⟨(jK s.body).toArray⟩)]]:List (List DV)).length) (U ((by first | omega | (simp [strs];done) | (have:=gG s 5;simp [strs];omega)):(2*(((bk s 5).length)+(1))+192)*16≤281474976710656) (U ((by first | omega | (simp [strs];done) | (have:=gG s 5;simp [strs];omega)):((bk s 5).length)+(1)<4611686018427387904) (U ((by simp [aW,AV.one,bQ,af,ah,ints,steps,strs]):aW ([[.v (.string ⟨(jK s.body).toArray⟩)]])) (U (xv _ _ (Nat.le_trans (Nat.le_of_succ_le (qX (s:=s) hb hi qA qB qC gj).2) (by decide)) (Nat.le_trans (qX (s:=s) hb hi qA qB qC gj).1 (by decide)):ay Tryz.prog 71 [.d (.ro 1 (strs (cM s))),.d (.v (.string ⟨([32]).toArray⟩))] (.v (.string ⟨(bF (cM s)).toArray⟩))) (U ((ft _):fe (.v (.string ⟨(bF (cM s)).toArray⟩))) (U (cK (1)) (U ((by first | rfl | (simp [strs];done) | (simp [strs];omega)):((bk s 5).length+(1))=(strs (bk s 5)++[[.v (.string ⟨(jK s.body).toArray⟩)]]:List (List DV)).length) (U ((by first | (rw [Dt (by assumption)];simp [strs,kx,fa];done) | (rw [Ds (by assumption)];simp [strs,kx,fa])):b5 (strs (bk s 5)++[[.v (.string ⟨(jK s.body).toArray⟩)]])=strs (cM s)) (U (iK (.v (.string ⟨([32]).toArray⟩))) trivial))))))))))))
end Go.Proofs.YtcnpikbbmbombaaGreatDoor
namespace Go.Proofs.YtcnpikbbmbombaaGreatDoor
open Go.RowKit
def dz (l:List aB):List UInt8:=l.flatMap fun s=>bF (cM s)++[10]
def tG (c:bK) (l:List aB):List UInt8:=bF (ch c)++[10]++dz l
theorem AE {l:List aB} {i:Nat} {s:aB} (h:l[i]?=some s):dz (l.take (i+1))=dz (l.take i)++bF (cM s)++[10]:=by
 unfold dz;rw [List.take_add_one,h];simp
theorem A3 (l:List (List UInt8)):(bF l).length≤l.flatten.length+l.length:=by
 cases l with
 | nil=>simp [bF]
 | cons x r=>simp only [bF,List.length_append,qW,List.flatten_cons,List.length_cons];omega
theorem Gi {c:bK} {l:List aB} (h:decide (fv c l=0)=true):bY c=true∧l.all hasB=true∧(fu c l).length≤65536:=by
 have h2:=IA h
 have h:=of_decide_eq_true h
 unfold fv at h
 generalize bY c=a at h;generalize l.all hasB=b at h
 refine ⟨?_,?_,h2⟩<;>cases a<;>cases b<;>first | rfl | (simp at h)
theorem IN (s:aB):1≤(fF s).length:=by unfold fF;simp
theorem Kr (c:bK) (l:List aB):c.ah.length+c.homes.length+l.length≤(fu c l).length:=by
 have h:l.length≤(l.flatMap fF).length:=by
  induction l with
  | nil=>simp
  | cons x r ih=>rw [List.flatMap_cons,List.length_append,List.length_cons];have:=IN x;omega
 unfold fu;rw [List.length_append,Br];omega
set_option maxRecDepth 100000 in
theorem Nf (c:bK) (l:List aB) (hc:c.ah.length≤1048576) (hh:c.homes.length≤1048576) (hl:l.length≤9223372036854775807) (hr:∀ s ∈ l,s.Rd) (hE:decide (fv c l=0)=true) (hm:bY c=true) (ha:∀ s ∈ l,hasB s=true) (hn:c.ah.length+c.homes.length+l.length≤65536) (hj:(bF (ch c)).length≤2818048):aC Tryz.prog 17 [.ag [.z c.aD,.d (.ro 2 (ah c.ah)),.d (.ro 1 (ints c.homes))],.d (.ro 7 (steps l))] [.gw 0 ai,.gw 1 aS] (.tu [.d (.v (.string ⟨(tG c l).toArray⟩)),.z 0]) ([.gw 0 ai,.gw 1 aS]):=by
 refine aC.intro (by kernel_rfl) rfl rfl 36 rfl rfl fun D w0 K bs ac wd hK (al:bs.m=2) r=>?_
 refine bp (todo':=hd Tryz.f17 0) (E':=[(8,.pt 2 0),(24,.d (.ro 7 (steps l))),(25,.n l.length),(26,.z 0)]) (M':=[.gw 0 ai,.gw 1 aS,.bx 71 [.pt 2 0,.sl 3 (((bF (ch c))).length+(1))],.rw 5 1 (af (bF (ch c))++[[.v (.int .u8 10)]])]) tk mo hK al [(1,[(2,.mem [0] (.tu [.sl 1 ((fu c l).length),.z 0]) [.gw 0 ai,.rw 5 1 (af (fu c l))])]),(5,[(1,.aG (.v (.string ⟨(bF (ch c)).toArray⟩))),(2,.bw 200 [(1,[(1,.bw 200 [(1,[(2,.b true),(3,.b true),(4,.b false)])])])])]),(6,[(0,.bw 200 [(1,[(1,.bw 200 [])])])]),(7,[(1,.z (((l.length:Nat):Int)))])] 2000 [0,1,4,5] [8,24,25,26] r (by kernel_rfl) (U ((CH c l hc hh hl hr hE):aC Tryz.prog 11 [.ag [.z c.aD,.d (.ro 2 (ah c.ah)),.d (.ro 1 (ints c.homes))],.d (.ro 7 (steps l))] [.gw 0 ai] (.tu [.sl 1 ((fu c l).length),.z 0]) [.gw 0 ai,.rw 5 1 (af (fu c l))]) (U (Hd c hm (by omega)) (U (kd:dB Tryz.prog 69) (U ((by kernel_rfl):(bif true then nv Tryz.prog 69 140 else nw Tryz.prog 69 140 71 2)=true) (U ((by decide):0<2) (U (yr:rB Tryz.prog 95) (U ((by kernel_rfl):(bif false then nv Tryz.prog 140 69 else nw Tryz.prog 140 69 71 2)=true) (U ((by decide):0<2) (U ((by first | omega | (simp [af];done) | (simp [af];omega)):(2*(0+((bF (ch c))).length)+192)*1≤281474976710656) (U ((by first | omega | (simp [af];done) | (simp [af];omega)):0+((bF (ch c))).length<4611686018427387904) (U (kd:dB Tryz.prog 69) (U ((by kernel_rfl):jP Tryz.prog 69=true) (U ((by first | rfl | (simp [af];done) | (simp [af];omega)):(((bF (ch c))).length)=(af (bF (ch c))).length) (U ((by first | rfl | (simp [af];done) | (simp [af];omega)):(1)=([[.v (.int .u8 10)]]:List (List DV)).length) (U ((by first | omega | (simp [af];done) | (simp [af];omega)):(2*((((bF (ch c))).length)+(1))+192)*1≤281474976710656) (U ((by first | omega | (simp [af];done) | (simp [af];omega)):(((bF (ch c))).length)+(1)<4611686018427387904) (U ((by simp [aW,AV.one,bQ,af]):aW ([[.v (.int .u8 10)]])) (U ((by first | rfl | simp [af,ah,ints,steps,strs]):(((steps l).length:Nat):Int)=((l.length:Nat):Int)) trivial)))))))))))))))))) fun ac wd r=>?_
 refine aF.rounds (Φ:=fun (i:Nat) ac wd=>(i≤l.length∧(bF (ch c)++[10]++dz (l.take i)).length≤2818049+4000*i)∧RB D w0 K 36 bs [(8,.pt 2 0),(24,.d (.ro 7 (steps l))),(25,.n l.length),(26,.n i)] [.gw 0 ai,.gw 1 aS,.bx 71 [.pt 2 0,.sl 3 ((bF (ch c)++[10]++dz (l.take i)).length)],.rw 5 1 (af (bF (ch c)++[10]++dz (l.take i)))] ac wd) (l.length) ?_ (Nat.zero_le _) ⟨⟨Nat.zero_le _,by simp [dz];omega⟩,(r).cast rfl (by simp [dz,af])⟩
 clear r
 rintro i dw bj ac wd ⟨ao,r⟩
 have hlen:=ao.2
 have QI:(bF (ch c)++[10]++dz (l.take i)).length=(bF (ch c)).length+1+(dz (l.take i)).length:=by simp;omega
 cases h0:(decide ((((i:Nat):Int):Int)<((l.length:Nat):Int))) with
 | false=>
  have aT:=of_decide_eq_false h0
  refine aY (y:=.tu [.d (.v (.string ⟨((bF (ch c)++[10]++dz (l.take i))).toArray⟩)),.z 0]) (N':=[.gw 0 ai,.gw 1 aS]) ((by rw [List.take_of_length_le (by omega)];rfl)) (rfl) ?_
  exact aX tk mo hK rfl al [(8,[(0,.b false)]),(13,[(0,.bw 200 [(1,[(10,.res (.v (.string ⟨((bF (ch c)++[10]++dz (l.take i))).toArray⟩)))])])])] 2000 [0,1] r (by kernel_rfl) (U h0 (U ((by first | rfl | (simp [af];done) | (simp [af];omega)):((bF (ch c)++[10]++dz (l.take i)).length)=(af (bF (ch c)++[10]++dz (l.take i)):List (List DV)).length) (U ((by first | omega | decide | (simp [af];done) | (simp [af];omega)):0<((bF (ch c)++[10]++dz (l.take i)).length)) (U ((by simp [af]):((((bF (ch c)++[10]++dz (l.take i)).length:Nat):Int):Int)=(((af (bF (ch c)++[10]++dz (l.take i)):List (List DV)).length:Nat):Int)) (U ((by first | omega | (simp [af];done) | (simp [af];omega)):0<(af (bF (ch c)++[10]++dz (l.take i)):List (List DV)).length) (U (rfl:af (bF (ch c)++[10]++dz (l.take i))=af ((bF (ch c)++[10]++dz (l.take i)))) (U ((by kernel_rfl):rO Tryz.prog 121 5=true) (U ((by first | omega | decide | (simp [af];done) | (simp [af];omega)):(af (bF (ch c)++[10]++dz (l.take i)):List (List DV)).length≤9223372036854775807) trivial))))))))
 | true=>
  have aT:=of_decide_eq_true h0
  obtain ⟨cb,fj⟩:∃ x_,l[i]?=some x_:=⟨_,List.getElem?_eq_getElem (by omega)⟩
  have fV:=(hr _ (List.mem_of_getElem? fj)).inc
  have Pc:=Df (ha _ (List.mem_of_getElem? fj))
  have eU:=qX (s:=cb) (by omega) (by omega) (by omega) (by omega) (by omega) (by omega)
  have uR:=A3 (cM cb)
  exact bp (todo':=hd Tryz.f17 0) (E':=[(8,.pt 2 0),(24,.d (.ro 7 (steps l))),(25,.n l.length),(26,.n (i+1))]) (M':=[.gw 0 ai,.gw 1 aS,.bx 71 [.pt 2 0,.sl 3 ((bF (ch c)++[10]++dz (l.take i)).length+((bF (cM cb))).length+(1))],.rw 5 1 (af (bF (ch c)++[10]++dz (l.take i))++af (bF (cM cb))++[[.v (.int .u8 10)]])]) tk mo hK al [(8,[(0,.b true)]),(9,[(0,.ix (i) [.z cb.kind,.z cb.node,.z cb.peer,.z cb.n,.z cb.bit,.u cb.inc,.ro 1 (af cb.body)])]),(10,[(1,.mem [0,1] (.d (.v (.string ⟨(bF (cM cb)).toArray⟩))) [.gw 0 ai,.gw 1 aS]),(2,.bw 200 [(1,[(1,.bw 200 [])])])]),(11,[(0,.bw 200 [(1,[(1,.bw 200 [])])])]),(12,[(0,.z (((i+1:Nat):Int)))])] 2000 [0,1,2,3] [8,24,25,26] r (by kernel_rfl) (U h0 (U (ax ((i:Nat):Int)) (U (mV fj) (U (Gh cb (by omega) (by omega) (by omega) (by omega) (by omega) (by omega) (by omega) (by omega) (by omega) (by omega) (by omega) (by omega)) (U (kd:dB Tryz.prog 69) (U ((by kernel_rfl):jP Tryz.prog 69=true) (U ((by first | rfl | (simp [af];done) | (simp [af];omega)):((bF (ch c)++[10]++dz (l.take i)).length)=(af (bF (ch c)++[10]++dz (l.take i)):List (List DV)).length) (U ((by first | omega | (simp [af];done) | (simp [af];omega)):(2*(((bF (ch c)++[10]++dz (l.take i)).length)+((bF (cM cb))).length)+192)*1≤281474976710656) (U ((by first | omega | (simp [af];done) | (simp [af];omega)):((bF (ch c)++[10]++dz (l.take i)).length)+((bF (cM cb))).length<4611686018427387904) (U (kd:dB Tryz.prog 69) (U ((by kernel_rfl):jP Tryz.prog 69=true) (U ((by first | rfl | (simp [af];done) | (simp [af];omega)):((bF (ch c)++[10]++dz (l.take i)).length+((bF (cM cb))).length)=(af (bF (ch c)++[10]++dz (l.take i))++af (bF (cM cb)):List (List DV)).length) (U ((by first | rfl | (simp [af];done) | (simp [af];omega)):(1)=([[.v (.int .u8 10)]]:List (List DV)).length) (U ((by first | omega | (simp [af];done) | (simp [af];omega)):(2*(((bF (ch c)++[10]++dz (l.take i)).length+((bF (cM cb))).length)+(1))+192)*1≤281474976710656) (U ((by first | omega | (simp [af];done) | (simp [af];omega)):((bF (ch c)++[10]++dz (l.take i)).length+((bF (cM cb))).length)+(1)<4611686018427387904) (U ((by simp [aW,AV.one,bQ,af]):aW ([[.v (.int .u8 10)]])) (U ((wi (by omega)):IntKind.i64.wrap ((((i:Nat):Int):Int)+1)=((i+1:Nat):Int)) trivial))))))))))))))))) fun ac wd r=>bj (by omega) ac wd ⟨⟨by omega,by rw [AE fj];simp at *;omega⟩,r.cast rfl (by rw [AE fj];simp [af,Nat.add_assoc];omega)⟩
theorem Ks {l:List aB} (h:l.all hasB=true):∀ s ∈ l,hasB s=true:=List.all_eq_true.1 h
theorem IP (c:bK) (l:List aB) (hc:c.ah.length≤1048576) (hh:c.homes.length≤1048576) (hl:l.length≤9223372036854775807) (hr:∀ s ∈ l,s.Rd) (hE:decide (fv c l=0)=true):aC Tryz.prog 17 [.ag [.z c.aD,.d (.ro 2 (ah c.ah)),.d (.ro 1 (ints c.homes))],.d (.ro 7 (steps l))] [.gw 0 ai,.gw 1 aS] (.tu [.d (.v (.string ⟨(tG c l).toArray⟩)),.z 0]) [.gw 0 ai,.gw 1 aS]:=by
 obtain ⟨h1,h2,h3⟩:=Gi hE
 have h4:=Kr c l
 refine Nf c l hc hh hl hr hE h1 (Ks h2) (by omega) ?_
 have h5:=Bx h1;have h6:=CJ c;have h7:=A3 (ch c)
 omega
end Go.Proofs.YtcnpikbbmbombaaGreatDoor
namespace Go.Proofs.YtcnpikbbmbombaaGreatDoor
open Go.RowKit
theorem nq {u:Nat} (h:u<10):Go.Lib.decDigits u=[UInt8.ofNat (48+u)]:=by rw [Go.Lib.decDigits,dif_pos h]
theorem rI {u:Nat} (h:¬ u<10):Go.Lib.decDigits u=Go.Lib.decDigits (u / 10)++[UInt8.ofNat (48+u%10)]:=by rw [Go.Lib.decDigits,dif_neg h]
theorem u2 {k:Nat} (h:k<10):(UInt8.ofNat (48+k)).toNat=48+k:=by rw [UInt8.toNat_ofNat'];omega
theorem PH:∀ (n u:Nat),u≤n→∀ b ∈ Go.Lib.decDigits u,48≤b.toNat∧b.toNat≤57:=by
 intro n
 induction n with
 | zero=>
  intro u hu b hb
  obtain rfl:u=0:=by omega
  rw [nq (by decide),List.mem_singleton] at hb;subst hb;rw [u2 (by decide)];omega
 | succ n ih=>
  intro u hu b hb
  by_cases h:u<10
  ·rw [nq h,List.mem_singleton] at hb;subst hb;rw [u2 h];omega
  ·rw [rI h,List.mem_append,List.mem_singleton] at hb
   rcases hb with hb | rfl
   ·exact ih _ (by omega) b hb
   ·rw [u2 (by omega)];omega
theorem Ng (u:Nat):Go.Lib.decDigits u≠[]:=by
 by_cases h:u<10
 ·rw [nq h];simp
 ·rw [rI h];simp
theorem Kt:∀ (n u:Nat),u≤n→(Go.Lib.decDigits u).head?=some 48→u=0:=by
 intro n
 induction n with
 | zero=>intro u hu _;omega
 | succ n ih=>
  intro u hu hh
  by_cases h:u<10
  ·rw [nq h] at hh
   have:=congrArg UInt8.toNat (Option.some.inj hh)
   rw [u2 h] at this
   have e:(48:UInt8).toNat=48:=rfl
   omega
  ·rw [rI h,List.head?_append] at hh
   cases e:(Go.Lib.decDigits (u / 10)).head? with
   | none=>exact absurd (List.head?_eq_none_iff.1 e) (Ng _)
   | some c=>
    rw [e] at hh
    have h1:=ih (u / 10) (by omega) (by rw [e];exact hh)
    omega
theorem Hk {k:Nat} (h:k<14):ov (ae k).word=k:=l4 (p:=fun k=>ov (ae k).word=k) (by decide) (by decide) (by decide) (by decide) (by decide) (by decide) (by decide) (by decide) (by decide) (by decide) (by decide) (by decide) (by decide) (by decide) h
end Go.Proofs.YtcnpikbbmbombaaGreatDoor
namespace Go.Proofs.YtcnpikbbmbombaaGreatDoor
open Go.RowKit
theorem BB {most:Nat} {b:UInt8}:∀ (w:List UInt8) (n k:Nat),dD most (w++[b]) n=some k→∃ m,dD most w n=some m∧dD most [b] m=some k
 | [],n,k,h=>⟨n,rfl,h⟩
 | c::r,n,k,h=>by
  rw [List.cons_append,dD] at h
  rw [dD]
  split at h
  ·cases h
  ·rename_i h1
   rw [if_neg h1]
   split at h
   ·cases h
   ·rename_i h2
    rw [if_neg h2];exact BB r _ k h
theorem Ku {most:Nat}:∀ (k:Nat) (w:List UInt8) (n:Nat),w.length≤k→w≠[]→¬ (w.head?=some 48∧w≠[48])→dD most w 0=some n→Go.Lib.decDigits n=w:=by
 intro k
 induction k with
 | zero=>intro w n hl hw;exact absurd (List.eq_nil_of_length_eq_zero (by omega)) hw
 | succ k ih=>
  intro w n hl hw hh e
  obtain ⟨p,b,rfl⟩:∃ p b,w=p++[b]:=⟨w.dropLast,w.getLast hw,(List.dropLast_concat_getLast hw).symm⟩
  obtain ⟨m,e1,e2⟩:=BB p 0 n e
  have uO:¬ (b.toNat<48∨57<b.toNat)∧n=10*m+(b.toNat-48):=by
   unfold dD dD at e2
   split at e2
   ·cases e2
   ·rename_i h1
    split at e2
    ·cases e2
    ·exact ⟨h1,(Option.some.inj e2).symm⟩
  obtain ⟨hb,rfl⟩:=uO
  have eb:UInt8.ofNat (48+(b.toNat-48))=b:=by rw [show 48+(b.toNat-48)=b.toNat by omega,UInt8.ofNat_toNat]
  by_cases hp:p=[]
  ·subst hp
   obtain rfl:m=0:=by simpa [dD] using e1.symm
   rw [nq (by omega),show 48+(10*0+(b.toNat-48))=48+(b.toNat-48) by omega,eb];rfl
  ·have hd:(p++[b]).head?=p.head?:=by cases p with
    | nil=>exact absurd rfl hp
    | cons x r=>rfl
   have E4:p.head?≠some 48:=fun h=>hh ⟨hd.trans h,fun e=>by have h1:=congrArg List.length e;have h2:=List.length_pos_iff.2 hp;rw [List.length_append] at h1;simp only [List.length_cons,List.length_nil] at h1;omega⟩
   have q:=ih p m (by simp at hl;omega) hp (fun h=>E4 h.1) e1
   have hm:0<m:=by
    rcases Nat.eq_zero_or_pos m with h | h
    ·subst h;rw [nq (by decide)] at q;exact absurd (by rw [← q];rfl) E4
    ·exact h
   rw [rI (by omega),show (10*m+(b.toNat-48)) / 10=m by omega,show (10*m+(b.toNat-48))%10=b.toNat-48 by omega,q,eb]
def dN (w:List UInt8) (most:Nat):Nat×Bool:=match dD most w 0 with | none=>(0,false) | some n=>(n,!(w==[])&&(Go.Lib.decDigits n==w))
theorem iX {w:List UInt8} {most:Nat} (e:dD most w 0=none):dN w most=(0,false):=by unfold dN;rw [e]
theorem lY {w:List UInt8} {most n:Nat} (e:dD most w 0=some n):dN w most=(n,!(w==[])&&(Go.Lib.decDigits n==w)):=by unfold dN;rw [e]
theorem ke (w:List UInt8) {most:Nat} (h9:9≤most):(dN w most).1≤most:=by
 cases e:dD most w 0 with
 | none=>rw [iX e];exact Nat.zero_le _
 | some n=>rw [lY e];exact wJ (Nat.zero_le _) h9 e
theorem dV (w:List UInt8) (most:Nat):(dN w most).2=(aL w most).2∧((aL w most).2=true→(dN w most).1=(aL w most).1):=by
 by_cases hR:w=[]∨(w.head?=some 48∧w≠[48])
 ·rw [ky hR]
  refine ⟨?_,fun h=>by cases h⟩
  cases e:dD most w 0 with
  | none=>rw [iX e]
  | some n=>
   rw [lY e]
   rcases hR with rfl | ⟨h1,h2⟩
   ·rfl
   ·have:(Go.Lib.decDigits n==w)=false:=by
     rw [beq_eq_false_iff_ne];rintro rfl
     have:=Kt n n (Nat.le_refl _) h1;subst this
     exact h2 (nq (by decide))
    simp [this]
 ·cases e:dD most w 0 with
  | none=>rw [iX e,gb hR e];exact ⟨rfl,fun h=>by cases h⟩
  | some n=>
   rw [lY e,k7 hR e]
   have h1:w≠[]:=fun h=>hR (.inl h)
   have:=Ku w.length w n (Nat.le_refl _) h1 (fun h=>hR (.inr h)) e
   refine ⟨?_,fun _=>rfl⟩
   rw [this];simp [h1]
theorem ik (w:List UInt8) (most:Nat):(dN w most).2=(aL w most).2:=(dV w most).1
def fh (n:Nat):UInt8:=UInt8.ofNat (if n<10 then 48+n else 87+n)
theorem tY (a:UInt8) {h:Nat} (hh:h<16):fh h=a↔hx a=((h:Nat):Int):=by
 have key:∀ n,n<256→∀ h,h<16→(fh h=UInt8.ofNat n↔hx (UInt8.ofNat n)=((h:Nat):Int)):=by decide +kernel
 have:=key a.toNat a.toNat_lt h hh
 rwa [UInt8.ofNat_toNat] at this
def u3 (a b:UInt8) (x:Nat):Prop:=fh (x / 16)=a∧fh (x%16)=b
theorem Cc {a b:UInt8} {x:Nat} (nG:x<256) (h:u3 a b x):¬ (hx a<0∨hx b<0)∧16*bG a+bG b=x:=by
 have e1:=(tY a (show x / 16<16 by omega)).1 h.1
 have e2:=(tY b (show x%16<16 by omega)).1 h.2
 unfold bG;omega
theorem LA {a b:UInt8} (h:∀ y,y<256→¬ u3 a b y):hx a<0∨hx b<0:=by
 have h1:=yt a
 have h2:=yt b
 rcases Int.lt_or_le (hx a) 0 with ha | ha
 ·exact .inl ha
 ·rcases Int.lt_or_le (hx b) 0 with hb | hb
  ·exact .inr hb
  ·refine absurd ?_ (h (16*(hx a).toNat+(hx b).toNat) (by omega))
   exact ⟨(tY a (by omega)).2 (by omega),(tY b (by omega)).2 (by omega)⟩
end Go.Proofs.YtcnpikbbmbombaaGreatDoor
namespace Go.Proofs.YtcnpikbbmbombaaGreatDoor
open Go.RowKit
theorem Cd {c:UInt8}:∀ {x:List UInt8} {j:Nat},c ∉ x.take j→x[j]?=some c→au c x=x.take j∧bq c x=x.drop (j+1)∧0<x.count c
 | [],j,_,h=>by simp at h
 | y::r,0,_,h=>by
  obtain rfl:y=c:=by simpa using h
  refine ⟨by rw [au,if_pos rfl];rfl,?_,by simp⟩
  unfold bq;rw [au,if_pos rfl];rfl
 | y::r,j+1,hn,h=>by
  rw [List.take_succ_cons] at hn
  have h1:y≠c:=fun e=>hn (e▸List.mem_cons_self)
  obtain ⟨a,b,d⟩:=Cd (x:=r) (j:=j) (fun e=>hn (List.mem_cons_of_mem _ e)) (by simpa using h)
  refine ⟨by rw [au,if_neg h1,a,List.take_succ_cons],?_,by rw [List.count_cons_of_ne h1];exact d⟩
  unfold bq at b ⊢;rw [au,if_neg h1,List.length_cons,List.drop_succ_cons,b,List.drop_succ_cons]
def im (c:UInt8) (s:List UInt8) (i a:Nat) (O:List (List UInt8)):Prop:=
 O.length≤i∧((i≤s.length∧a≤i∧O++ak c (s.drop a)=ak c s∧c ∉ (s.drop a).take (i-a))∨(i=s.length+1∧O=ak c s))
theorem im.start (c:UInt8) (s:List UInt8):im c s 0 0 []:=⟨Nat.le_refl _,.inl ⟨Nat.zero_le _,Nat.le_refl _,rfl,by simp⟩⟩
theorem im.le {c:UInt8} {s:List UInt8} {i a:Nat} {O:List (List UInt8)} (h:im c s i a O) (hi:i≤s.length):a≤i:=by
 rcases h.2 with h | h
 ·exact h.2.1
 ·omega
theorem im.hit {c:UInt8} {s:List UInt8} {i a:Nat} {O:List (List UInt8)} (h:im c s i a O) (g:s[i]?=some c):im c s (i+1) (i+1) (O++[List.drop a (List.take i s)]):=by
 have hi:=(List.getElem?_eq_some_iff.1 g).1
 obtain ⟨h0,h | h⟩:=h
 ·obtain ⟨h1,h2,h3,h4⟩:=h
  obtain ⟨e1,e2,e3⟩:=Cd (x:=s.drop a) (j:=i-a) h4 (by rw [List.getElem?_drop,show a+(i-a)=i by omega];exact g)
  refine ⟨by simp;omega,.inl ⟨by omega,Nat.le_refl _,?_,by simp⟩⟩
  rw [o6 e3,e1,e2,List.drop_drop,show a+(i-a+1)=i+1 by omega] at h3
  rw [List.drop_take,List.append_assoc,← h3];rfl
 ·omega
theorem im.N6 {c b:UInt8} {s:List UInt8} {i a:Nat} {O:List (List UInt8)} (h:im c s i a O) (g:s[i]?=some b) (hb:b≠c):im c s (i+1) a O:=by
 have hi:=(List.getElem?_eq_some_iff.1 g).1
 obtain ⟨h0,h | h⟩:=h
 ·obtain ⟨h1,h2,h3,h4⟩:=h
  refine ⟨by omega,.inl ⟨by omega,by omega,h3,?_⟩⟩
  rw [show i+1-a=i-a+1 by omega,List.take_add_one,List.getElem?_drop,show a+(i-a)=i by omega,g]
  intro e
  rcases List.mem_append.1 e with e | e
  ·exact h4 e
  ·simp at e;exact hb e.symm
 ·omega
theorem im.last {c:UInt8} {s:List UInt8} {i a:Nat} {O:List (List UInt8)} (h:im c s i a O) (hi:i=s.length):im c s (i+1) (i+1) (O++[List.drop a (List.take i s)]):=by
 obtain ⟨h0,h | h⟩:=h
 ·obtain ⟨h1,h2,h3,h4⟩:=h
  refine ⟨by simp;omega,.inr ⟨by omega,?_⟩⟩
  rw [List.take_of_length_le (by simp;omega)] at h4
  rw [o5 (List.count_eq_zero.2 h4)] at h3
  rw [List.take_of_length_le (by omega)];exact h3
 ·omega
theorem im.done {c:UInt8} {s:List UInt8} {i a:Nat} {O:List (List UInt8)} (h:im c s i a O) (hi:s.length<i):O=ak c s:=by
 obtain ⟨h0,h | h⟩:=h
 ·omega
 ·exact h.2
theorem rW {e c:UInt8} (h:(((e.toNat:Nat):Int)==((c.toNat:Nat):Int))=true):e=c:=by apply UInt8.toNat_inj.1;have:=eq_of_beq h;omega
theorem rX {e c:UInt8} (h:(((e.toNat:Nat):Int)==((c.toNat:Nat):Int))=false):e≠c:=by rintro rfl;simp at h
theorem DW {n:Nat}:IntKind.u8.wrap ((n:Nat):Int)=(((UInt8.ofNat n).toNat:Nat):Int):=by
 rw [UInt8.toNat_ofNat'];simp [IntKind.wrap,IntKind.signed,IntKind.bits]
set_option maxRecDepth 100000 in
theorem Nh (s:List UInt8) (c:UInt8) (hl:s.length≤1048576):ay Tryz.prog 49 [.d (.v (.string ⟨s.toArray⟩)),.d (.v (.int .u8 (((c.toNat:Nat):Int))))] (DV.em 9 1 (strs (ak c s))):=by
 refine ay.intro (by kernel_rfl) rfl rfl 35 rfl rfl fun w0 K ac hK r=>?_
 refine bX (todo':=hd Tryz.f49 0) (E':=[(0,.d (.v (.string ⟨s.toArray⟩))),(1,.d (.v (.int .u8 (((c.toNat:Nat):Int))))),(5,.d (.v (.slice none 0 0))),(6,.z 0),(7,.z 0)]) (M':=[]) tk mo hK [] 2000 [] [0,1,5,6,7] r (by kernel_rfl) trivial fun ac wd r=>?_
 refine aF.rounds (Φ:=fun (i:Nat) ac wd=>∃ a:Nat,∃ O:List (List UInt8),(im c s i a O)∧dn [] w0 K 35 [(0,.d (.v (.string ⟨s.toArray⟩))),(1,.d (.v (.int .u8 (((c.toNat:Nat):Int))))),(5,.sl 0 (O.length)),(6,.n a),(7,.n i)] [.rw 9 1 (strs O)] ac wd) (s.length+1) ?_ (Nat.zero_le _) ⟨0,[],(im.start c s),r.dA (M1:=[.rw 9 1 []]) [(5,9,1)] [] (by kernel_rfl) (by kernel_rfl)⟩
 clear r
 rintro i dw bj ac wd ⟨a,O,ao,r⟩
 have hO:=ao.1
 cases h0:(decide ((((i:Nat):Int):Int)≤((s.length:Nat):Int))) with
 | false=>
  have aT:=of_decide_eq_false h0
  rw [show (DV.em 9 1 (strs (ak c s)):DV)=.em 9 1 (strs O) from (by rw [ao.done (by omega)])]
  exact aV tk mo hK rfl [(4,[(3,.b false)])] 2000 r (by kernel_rfl) (U h0 (U ((by first | rfl | (simp [strs];done)):(O.length)=(strs O:List (List DV)).length) trivial))
 | true=>
  have aT:=of_decide_eq_true h0
  cases h1:((((i:Nat):Int):Int)==((s.length:Nat):Int)) with
  | false=>
   have bR:=ne_of_beq_false h1
   obtain ⟨cv,gk⟩:∃ x_,s[i]?=some x_:=⟨_,List.getElem?_eq_getElem (by omega)⟩
   have aI:=(⟨_,gk,rfl⟩:∃ u:UInt8,(s:List UInt8)[i]?=some u∧(.v (.int .u8 (((cv.toNat:Nat):Int))):DV)=.v (.int .u8 (u.toNat:Int)))
   cases h2:((((cv.toNat:Nat):Int):Int)==((c.toNat:Nat):Int)) with
   | false=>
    have cz:=ne_of_beq_false h2
    exact bX (todo':=hd Tryz.f49 0) (E':=[(0,.d (.v (.string ⟨s.toArray⟩))),(1,.d (.v (.int .u8 (((c.toNat:Nat):Int))))),(5,.sl 0 (O.length)),(6,.n a),(7,.n (i+1))]) (M':=[.rw 9 1 (strs O)]) tk mo hK [(4,[(3,.b true)]),(5,[(1,.z (((i+1:Nat):Int)))]),(6,[(3,.b false),(7,.ix (i) [.v (.int .u8 (((cv.toNat:Nat):Int)))]),(9,.b false)])] 2000 [0] [0,1,5,6,7] r (by kernel_rfl) (U h0 (U h1 (U (ax ((i:Nat):Int)) (U aI (U h2 (U ((wi (by omega)):IntKind.i64.wrap ((((i:Nat):Int):Int)+1)=((i+1:Nat):Int)) trivial)))))) fun ac wd r=>bj (by omega) ac wd ⟨a,O,(ao.N6 gk (rX h2)),r.cast (by simp) (by simp [strs])⟩
   | true=>
    have cz:=eq_of_beq h2
    exact bX (todo':=hd Tryz.f49 0) (E':=[(0,.d (.v (.string ⟨s.toArray⟩))),(1,.d (.v (.int .u8 (((c.toNat:Nat):Int))))),(5,.sl 0 (O.length+(1))),(6,.n (i+1)),(7,.n (i+1))]) (M':=[.rw 9 1 (strs O++[[.v (.string ⟨(List.drop (a) (List.take (i) (s))).toArray⟩)]])]) tk mo hK [(4,[(3,.b true)]),(5,[(1,.z (((i+1:Nat):Int)))]),(6,[(3,.b false),(7,.ix (i) [.v (.int .u8 (((cv.toNat:Nat):Int)))]),(9,.b true)]),(7,[(4,.n2 (i) (a))]),(8,[(1,.z (((i+1:Nat):Int)))])] 2000 [0] [0,1,5,6,7] r (by kernel_rfl) (U h0 (U h1 (U (ax ((i:Nat):Int)) (U aI (U h2 (U (ax ((a:Nat):Int)) (U (ax ((i:Nat):Int)) (U ((by first | omega | exact ao.le (by omega)):(a)≤(i)) (U ((by omega):(i)≤(s:List UInt8).length) (U ((by first | rfl | (simp [strs];done)):(O.length)=(strs O:List (List DV)).length) (U ((by first | rfl | (simp [strs];done)):(1)=([[.v (.string ⟨(List.drop (a) (List.take (i) (s))).toArray⟩)]]:List (List DV)).length) (U ((by first | omega | (simp [strs];omega)):(2*((O.length)+(1))+192)*16≤281474976710656) (U ((by first | omega | (simp [strs];omega)):(O.length)+(1)<4611686018427387904) (U ((by simp [aW,AV.one,bQ,af,ah,ints,steps,strs]):aW ([[.v (.string ⟨(List.drop (a) (List.take (i) (s))).toArray⟩)]])) (U ((wi (by omega)):IntKind.i64.wrap ((((i:Nat):Int):Int)+1)=((i+1:Nat):Int)) (U ((wi (by omega)):IntKind.i64.wrap ((((i:Nat):Int):Int)+1)=((i+1:Nat):Int)) trivial)))))))))))))))) fun ac wd r=>bj (by omega) ac wd ⟨(i+1),(O++[List.drop (a) (List.take (i) (s))]),(ao.hit (gk.trans (congrArg some (rW h2)))),r.cast (by simp) (by simp [strs])⟩
  | true=>
   have bR:=eq_of_beq h1
   exact bX (todo':=hd Tryz.f49 0) (E':=[(0,.d (.v (.string ⟨s.toArray⟩))),(1,.d (.v (.int .u8 (((c.toNat:Nat):Int))))),(5,.sl 0 (O.length+(1))),(6,.n (i+1)),(7,.n (i+1))]) (M':=[.rw 9 1 (strs O++[[.v (.string ⟨(List.drop (a) (List.take (i) (s))).toArray⟩)]])]) tk mo hK [(4,[(3,.b true)]),(5,[(1,.z (((i+1:Nat):Int)))]),(6,[(3,.b true)]),(7,[(4,.n2 (i) (a))]),(8,[(1,.z (((i+1:Nat):Int)))])] 2000 [0] [0,1,5,6,7] r (by kernel_rfl) (U h0 (U h1 (U (ax ((a:Nat):Int)) (U (ax ((i:Nat):Int)) (U ((by first | omega | exact ao.le (by omega)):(a)≤(i)) (U ((by omega):(i)≤(s:List UInt8).length) (U ((by first | rfl | (simp [strs];done)):(O.length)=(strs O:List (List DV)).length) (U ((by first | rfl | (simp [strs];done)):(1)=([[.v (.string ⟨(List.drop (a) (List.take (i) (s))).toArray⟩)]]:List (List DV)).length) (U ((by first | omega | (simp [strs];omega)):(2*((O.length)+(1))+192)*16≤281474976710656) (U ((by first | omega | (simp [strs];omega)):(O.length)+(1)<4611686018427387904) (U ((by simp [aW,AV.one,bQ,af,ah,ints,steps,strs]):aW ([[.v (.string ⟨(List.drop (a) (List.take (i) (s))).toArray⟩)]])) (U ((wi (by omega)):IntKind.i64.wrap ((((i:Nat):Int):Int)+1)=((i+1:Nat):Int)) (U ((wi (by omega)):IntKind.i64.wrap ((((i:Nat):Int):Int)+1)=((i+1:Nat):Int)) trivial))))))))))))) fun ac wd r=>bj (by omega) ac wd ⟨(i+1),(O++[List.drop (a) (List.take (i) (s))]),(ao.last (by omega)),r.cast (by simp) (by simp [strs])⟩
theorem nF (s:List UInt8) (c:UInt8) (hl:s.length≤1048576):ay Tryz.prog 49 [.d (.v (.string ⟨s.toArray⟩)),.d (.v (.int .u8 ((c.toNat:Nat):Int)))] (.ro 1 (strs (ak c s))):=by
 have h:=(Nh s c hl).stays
 simp only [fa,Ah] at h
 exact h
set_option maxRecDepth 100000 in
theorem Du (n:Nat) (h:n<10):ay Tryz.prog 75 [.u n] (.v (.string ⟨(Go.Lib.decDigits n).toArray⟩)):=by
 refine ay.intro (by kernel_rfl) rfl rfl 20 rfl rfl fun w0 K ac hK r=>?_
 cases h0:(decide ((((n:Nat):Int):Int)<10)) with
 | false=>
  have aT:=of_decide_eq_false h0
  exact absurd aT (by omega)
 | true=>
  have aT:=of_decide_eq_true h0
  rw [show (.v (.string ⟨(Go.Lib.decDigits n).toArray⟩):DV)=.v (.string ⟨([(UInt8.ofNat (48+n))]).toArray⟩) from (by rw [nq h])]
  exact aV tk mo hK rfl [(1,[(1,.b true)]),(2,[(1,.z (((48+n:Nat):Int))),(2,.z ((((UInt8.ofNat (48+n)).toNat:Nat):Int))),(4,.res (.v (.string ⟨([(UInt8.ofNat (48+n))]).toArray⟩)))])] 2000 r (by kernel_rfl) (U h0 (U ((wu (by omega)):IntKind.u64.wrap ((48:Int)+((n:Nat):Int))=((48+n:Nat):Int)) (U (DW:IntKind.u8.wrap (((48+n:Nat):Int))=(((UInt8.ofNat (48+n)).toNat:Nat):Int)) (U ((by first | rfl | (simp;done) | (simp<;>omega)):(1)=([[.v (.int .u8 ((((UInt8.ofNat (48+n)).toNat:Nat):Int)))]]:List (List DV)).length) (U (rfl:[[.v (.int .u8 ((((UInt8.ofNat (48+n)).toNat:Nat):Int)))]]=af ([(UInt8.ofNat (48+n))])) trivial)))))
set_option maxRecDepth 100000 in
theorem Ni (n:Nat) (h:10≤n) (hn:n<18446744073709551616) (ih:ay Tryz.prog 75 [.u (n / 10)] (.v (.string ⟨(Go.Lib.decDigits (n / 10)).toArray⟩))):ay Tryz.prog 75 [.u n] (.v (.string ⟨(Go.Lib.decDigits n).toArray⟩)):=by
 refine ay.intro (by kernel_rfl) rfl rfl 20 rfl rfl fun w0 K ac hK r=>?_
 cases h0:(decide ((((n:Nat):Int):Int)<10)) with
 | false=>
  have aT:=of_decide_eq_false h0
  have DX:=((tB (by omega)):IntKind.u64.wrap ((((n:Nat):Int):Int).tdiv 10)=((n / 10:Nat):Int))
  have uG:=((by decide):(10:Int)≠0)
  have DY:=((Int.ofNat_tmod n 10).symm:(((n:Nat):Int):Int).tmod 10=((n%10:Nat):Int))
  have DZ:=((wu (by omega)):IntKind.u64.wrap ((48:Int)+((n%10:Nat):Int))=((48+n%10:Nat):Int))
  have D0:=(DW:IntKind.u8.wrap (((48+n%10:Nat):Int))=(((UInt8.ofNat (48+n%10)).toNat:Nat):Int))
  have D1:=((by first | rfl | (simp;done) | (simp<;>omega)):(1)=([[.v (.int .u8 ((((UInt8.ofNat (48+n%10)).toNat:Nat):Int)))]]:List (List DV)).length)
  have D2:=(rfl:[[.v (.int .u8 ((((UInt8.ofNat (48+n%10)).toNat:Nat):Int)))]]=af ([(UInt8.ofNat (48+n%10))]))
  have D3:=((by have:=s7 (n / 10) (by omega);simp;omega):((Go.Lib.decDigits (n / 10)):List UInt8).length+([(UInt8.ofNat (48+n%10))]:List UInt8).length≤9223372036854775807)
  refine Cy (todo':=aft Tryz.f75 3) (E':=[(2,.d (.v (.string ⟨((Go.Lib.decDigits (n / 10))++[(UInt8.ofNat (48+n%10))]).toArray⟩)))]) (M':=[.rw 5 1 ([[.v (.int .u8 ((((UInt8.ofNat (48+n%10)).toNat:Nat):Int)))]])]) tk mo hK [(1,[(1,.b false)]),(3,[(1,.z (((n / 10:Nat):Int))),(2,.aG (.v (.string ⟨(Go.Lib.decDigits (n / 10)).toArray⟩))),(4,.z (((n%10:Nat):Int))),(5,.z (((48+n%10:Nat):Int))),(6,.z ((((UInt8.ofNat (48+n%10)).toNat:Nat):Int))),(8,.res (.v (.string ⟨([(UInt8.ofNat (48+n%10))]).toArray⟩)))])] 8 2 [] [[0],[0]] [2] r (by kernel_rfl) (U (U h0 (U DX (U uG (U DY (U uG (U DZ (U D0 (U (ih) (U D1 (U D2 (U D3 trivial))))))))))) (U (U h0 (U DX (U uG (U DY (U uG (U DZ (U D0 (U D1 (U D2 (U (ih) (U D3 trivial))))))))))) trivial)) fun ac wd r=>?_
  rw [show (.v (.string ⟨(Go.Lib.decDigits n).toArray⟩):DV)=.v (.string ⟨((Go.Lib.decDigits (n / 10))++[(UInt8.ofNat (48+n%10))]).toArray⟩) from (by rw [rI (by omega)])]
  exact aV tk mo hK rfl [] 2000 r (by kernel_rfl) trivial
 | true=>
  have aT:=of_decide_eq_true h0
  exact absurd aT (by omega)
theorem Kv:∀ (k n:Nat),n≤k→n<18446744073709551616→ay Tryz.prog 75 [.u n] (.v (.string ⟨(Go.Lib.decDigits n).toArray⟩)):=by
 intro k
 induction k with
 | zero=>intro n h hn;exact Du n (by omega)
 | succ k ih=>
  intro n h hn
  by_cases h1:n<10
  ·exact Du n h1
  ·exact Ni n (by omega) hn (ih (n / 10) (by omega) (by omega))
theorem D4 (n:Nat) (hn:n<18446744073709551616):ay Tryz.prog 75 [.u n] (.v (.string ⟨(Go.Lib.decDigits n).toArray⟩)):=Kv n n (Nat.le_refl _) hn
theorem CR {n:Nat} (h:n<10):(fh n).toNat=48+n:=by unfold fh;rw [if_pos h,UInt8.toNat_ofNat'];omega
theorem CS {n:Nat} (h:¬ n<10) (h2:n<16):(fh n).toNat=87+n:=by unfold fh;rw [if_neg h,UInt8.toNat_ofNat'];omega
set_option maxRecDepth 100000 in
theorem lj (n:Nat) (h:n<16):ay Tryz.prog 99 [.d (.v (.int .u8 (((n:Nat):Int))))] (.v (.int .u8 (((fh n).toNat:Nat):Int))):=by
 refine ay.intro (by kernel_rfl) rfl rfl 10 rfl rfl fun w0 K ac hK r=>?_
 cases h0:(decide ((((n:Nat):Int):Int)<10)) with
 | false=>
  have aT:=of_decide_eq_false h0
  rw [show (.v (.int .u8 (((fh n).toNat:Nat):Int)):DV)=.v (.int .u8 (((87+n:Nat):Int))) from (by first | rw [CR (by omega)] | rw [CS (by omega) h])]
  exact aV tk mo hK rfl [(1,[(1,.b false)]),(3,[(1,.z (((97+n:Nat):Int))),(2,.z (((87+n:Nat):Int)))])] 2000 r (by kernel_rfl) (U h0 (U ((by simp [IntKind.wrap,IntKind.signed,IntKind.bits];omega):IntKind.u8.wrap ((97:Int)+((n:Nat):Int))=((97+n:Nat):Int)) (U ((by simp [IntKind.wrap,IntKind.signed,IntKind.bits];omega):IntKind.u8.wrap ((((97+n:Nat):Int):Int)-10)=((87+n:Nat):Int)) trivial)))
 | true=>
  have aT:=of_decide_eq_true h0
  rw [show (.v (.int .u8 (((fh n).toNat:Nat):Int)):DV)=.v (.int .u8 (((48+n:Nat):Int))) from (by first | rw [CR (by omega)] | rw [CS (by omega) h])]
  exact aV tk mo hK rfl [(1,[(1,.b true)]),(2,[(1,.z (((48+n:Nat):Int)))])] 2000 r (by kernel_rfl) (U h0 (U ((by simp [IntKind.wrap,IntKind.signed,IntKind.bits];omega):IntKind.u8.wrap ((48:Int)+((n:Nat):Int))=((48+n:Nat):Int)) trivial))
set_option maxRecDepth 100000 in
theorem k8 (w:List UInt8) (most:Nat) (hl:w.length≤9223372036854775807) (h9:9≤most) (hm:most<18446744073709551616):ay Tryz.prog 86 [.d (.v (.string ⟨w.toArray⟩)),.u most] (.tu [.u (dN w most).1,.v (.bool (dN w most).2)]):=by
 refine ay.intro (by kernel_rfl) rfl rfl 56 rfl rfl fun w0 K ac hK r=>?_
 refine bX (todo':=hd Tryz.f86 0) (E':=[(0,.d (.v (.string ⟨w.toArray⟩))),(1,.u most),(6,.u 0),(7,.n 0)]) (M':=[]) tk mo hK [] 2000 [] [0,1,6,7] r (by kernel_rfl) trivial fun ac wd r=>?_
 refine aF.rounds (Φ:=fun (i:Nat) ac wd=>∃ n:Nat,(dD most (w.drop i) n=dD most w 0∧n≤most)∧dn [] w0 K 56 [(0,.d (.v (.string ⟨w.toArray⟩))),(1,.u most),(6,.u n),(7,.n i)] [] ac wd) (w.length) ?_ (Nat.zero_le _) ⟨0,⟨rfl,Nat.zero_le _⟩,r⟩
 clear r
 rintro i dw bj ac wd ⟨n,ao,r⟩
 have zH:=ao.2
 cases h0:(decide ((((i:Nat):Int):Int)<((w.length:Nat):Int))) with
 | false=>
  have aT:=of_decide_eq_false h0
  cases h1:(w==([]:List UInt8)) with
  | false=>
   cases h2:((Go.Lib.decDigits n)==w) with
   | false=>
    rw [show (.tu [.u (dN w most).1,.v (.bool (dN w most).2)]:DV)=.tu [.u n,.v (.bool false)] from (by first | exact da (iX (ao.1.symm.trans ((dy gk).trans (if_pos (by omega))))) | exact da (iX (ao.1.symm.trans ((dy gk).trans ((if_neg (by omega)).trans (if_pos (by omega)))))) | exact jh ((lY (ao.1.symm.trans (by rw [List.drop_of_length_le (by omega)];rfl))).trans (Prod.ext rfl (by simp_all))))]
    exact aV tk mo hK rfl [(3,[(3,.b false)]),(9,[(2,.b true),(5,.aG (.v (.string ⟨(Go.Lib.decDigits n).toArray⟩))),(7,.b false)])] 2000 r (by kernel_rfl) (U h0 (U ((by simpa [bne] using h1):(w != ([]:List UInt8))=true) (U (D4 n (by omega)) (U h2 trivial))))
   | true=>
    rw [show (.tu [.u (dN w most).1,.v (.bool (dN w most).2)]:DV)=.tu [.u n,.v (.bool true)] from (by first | exact da (iX (ao.1.symm.trans ((dy gk).trans (if_pos (by omega))))) | exact da (iX (ao.1.symm.trans ((dy gk).trans ((if_neg (by omega)).trans (if_pos (by omega)))))) | exact jh ((lY (ao.1.symm.trans (by rw [List.drop_of_length_le (by omega)];rfl))).trans (Prod.ext rfl (by simp_all))))]
    exact aV tk mo hK rfl [(3,[(3,.b false)]),(9,[(2,.b true),(5,.aG (.v (.string ⟨(Go.Lib.decDigits n).toArray⟩))),(7,.b true)])] 2000 r (by kernel_rfl) (U h0 (U ((by simpa [bne] using h1):(w != ([]:List UInt8))=true) (U (D4 n (by omega)) (U h2 trivial))))
  | true=>
   rw [show (.tu [.u (dN w most).1,.v (.bool (dN w most).2)]:DV)=.tu [.u n,.v (.bool false)] from (by first | exact da (iX (ao.1.symm.trans ((dy gk).trans (if_pos (by omega))))) | exact da (iX (ao.1.symm.trans ((dy gk).trans ((if_neg (by omega)).trans (if_pos (by omega)))))) | exact jh ((lY (ao.1.symm.trans (by rw [List.drop_of_length_le (by omega)];rfl))).trans (Prod.ext rfl (by simp_all))))]
   exact aV tk mo hK rfl [(3,[(3,.b false)]),(9,[(2,.b false)])] 2000 r (by kernel_rfl) (U h0 (U ((by simpa [bne] using h1):(w != ([]:List UInt8))=false) trivial))
 | true=>
  have aT:=of_decide_eq_true h0
  obtain ⟨cv,gk⟩:∃ x_,w[i]?=some x_:=⟨_,List.getElem?_eq_getElem (by omega)⟩
  have mD:=cv.toNat_lt
  cases h3:(decide ((((cv.toNat:Nat):Int):Int)<48)) with
  | false=>
   have cT:=of_decide_eq_false h3
   have aI:=(⟨_,gk,rfl⟩:∃ u:UInt8,(w:List UInt8)[i]?=some u∧(.v (.int .u8 (((cv.toNat:Nat):Int))):DV)=.v (.int .u8 (u.toNat:Int)))
   have bd:=((wu (by omega)):IntKind.u64.wrap (((cv.toNat:Nat):Int))=((cv.toNat:Nat):Int))
   have b6:=((by simp [IntKind.wrap,IntKind.signed,IntKind.bits];omega):IntKind.u64.wrap ((((cv.toNat:Nat):Int):Int)-48)=((cv.toNat-48:Nat):Int))
   cases h4:(decide ((57:Int)<((cv.toNat:Nat):Int))) with
   | false=>
    have dT:=of_decide_eq_false h4
    have cO:=((wu (by omega)):IntKind.u64.wrap ((((most:Nat):Int):Int)-((cv.toNat-48:Nat):Int))=((most-(cv.toNat-48):Nat):Int))
    have cg:=((tB (by omega)):IntKind.u64.wrap ((((most-(cv.toNat-48):Nat):Int):Int).tdiv 10)=(((most-(cv.toNat-48)) / 10:Nat):Int))
    cases h5:(decide (((((most-(cv.toNat-48)) / 10:Nat):Int):Int)<((n:Nat):Int))) with
    | false=>
     have du:=of_decide_eq_false h5
     cases h6:(decide ((((most:Nat):Int):Int)<((cv.toNat-48:Nat):Int))) with
     | false=>
      have dx:=of_decide_eq_false h6
      exact bX (todo':=hd Tryz.f86 0) tk mo hK [(3,[(3,.b true)]),(4,[(1,.z (((i+1:Nat):Int)))]),(5,[(2,.ix (i) [.v (.int .u8 (((cv.toNat:Nat):Int)))]),(3,.z (((cv.toNat:Nat):Int))),(4,.z (((cv.toNat-48:Nat):Int)))]),(6,[(2,.ix (i) [.v (.int .u8 (((cv.toNat:Nat):Int)))]),(3,.b false),(7,.ix (i) [.v (.int .u8 (((cv.toNat:Nat):Int)))]),(8,.b false),(14,.z (((most-(cv.toNat-48):Nat):Int))),(15,.z ((((most-(cv.toNat-48)) / 10:Nat):Int))),(16,.b false),(21,.b false)]),(8,[(1,.z (((10*n:Nat):Int))),(3,.z (((10*n+(cv.toNat-48):Nat):Int)))])] 2000 [] [0,1,6,7] r (by kernel_rfl) (U h0 (U (ax ((i:Nat):Int)) (U aI (U bd (U b6 (U (ax ((i:Nat):Int)) (U aI (U h3 (U (ax ((i:Nat):Int)) (U aI (U h4 (U cO (U cg (U ((by decide):(10:Int)≠0) (U h5 (U h6 (U ((wu (by omega)):IntKind.u64.wrap ((10:Int)*((n:Nat):Int))=((10*n:Nat):Int)) (U ((wu (by omega)):IntKind.u64.wrap ((((10*n:Nat):Int):Int)+((cv.toNat-48:Nat):Int))=((10*n+(cv.toNat-48):Nat):Int)) (U ((wi (by omega)):IntKind.i64.wrap ((((i:Nat):Int):Int)+1)=((i+1:Nat):Int)) trivial))))))))))))))))))) fun ac wd r=>bj (by omega) ac wd ⟨(10*n+(cv.toNat-48)),⟨by rw [← ao.1,dy gk,if_neg (by omega),if_neg (by omega)],by omega⟩,r⟩
     | true=>
      have dx:=of_decide_eq_true h6
      exact absurd dx (by omega)
    | true=>
     have du:=of_decide_eq_true h5
     rw [show (.tu [.u (dN w most).1,.v (.bool (dN w most).2)]:DV)=.tu [.v (.int .u64 0),.v (.bool false)] from (by first | exact da (iX (ao.1.symm.trans ((dy gk).trans (if_pos (by omega))))) | exact da (iX (ao.1.symm.trans ((dy gk).trans ((if_neg (by omega)).trans (if_pos (by omega)))))) | exact jh ((lY (ao.1.symm.trans (by rw [List.drop_of_length_le (by omega)];rfl))).trans (Prod.ext rfl (by simp_all))))]
     exact aV tk mo hK rfl [(3,[(3,.b true)]),(5,[(2,.ix (i) [.v (.int .u8 (((cv.toNat:Nat):Int)))]),(3,.z (((cv.toNat:Nat):Int))),(4,.z (((cv.toNat-48:Nat):Int)))]),(6,[(2,.ix (i) [.v (.int .u8 (((cv.toNat:Nat):Int)))]),(3,.b false),(7,.ix (i) [.v (.int .u8 (((cv.toNat:Nat):Int)))]),(8,.b false),(14,.z (((most-(cv.toNat-48):Nat):Int))),(15,.z ((((most-(cv.toNat-48)) / 10:Nat):Int))),(16,.b true)])] 2000 r (by kernel_rfl) (U h0 (U (ax ((i:Nat):Int)) (U aI (U bd (U b6 (U (ax ((i:Nat):Int)) (U aI (U h3 (U (ax ((i:Nat):Int)) (U aI (U h4 (U cO (U cg (U ((by decide):(10:Int)≠0) (U h5 trivial)))))))))))))))
   | true=>
    have dT:=of_decide_eq_true h4
    rw [show (.tu [.u (dN w most).1,.v (.bool (dN w most).2)]:DV)=.tu [.v (.int .u64 0),.v (.bool false)] from (by first | exact da (iX (ao.1.symm.trans ((dy gk).trans (if_pos (by omega))))) | exact da (iX (ao.1.symm.trans ((dy gk).trans ((if_neg (by omega)).trans (if_pos (by omega)))))) | exact jh ((lY (ao.1.symm.trans (by rw [List.drop_of_length_le (by omega)];rfl))).trans (Prod.ext rfl (by simp_all))))]
    exact aV tk mo hK rfl [(3,[(3,.b true)]),(5,[(2,.ix (i) [.v (.int .u8 (((cv.toNat:Nat):Int)))]),(3,.z (((cv.toNat:Nat):Int))),(4,.z (((cv.toNat-48:Nat):Int)))]),(6,[(2,.ix (i) [.v (.int .u8 (((cv.toNat:Nat):Int)))]),(3,.b false),(7,.ix (i) [.v (.int .u8 (((cv.toNat:Nat):Int)))]),(8,.b true)])] 2000 r (by kernel_rfl) (U h0 (U (ax ((i:Nat):Int)) (U aI (U bd (U b6 (U (ax ((i:Nat):Int)) (U aI (U h3 (U (ax ((i:Nat):Int)) (U aI (U h4 trivial)))))))))))
  | true=>
   have cT:=of_decide_eq_true h3
   rw [show (.tu [.u (dN w most).1,.v (.bool (dN w most).2)]:DV)=.tu [.v (.int .u64 0),.v (.bool false)] from (by first | exact da (iX (ao.1.symm.trans ((dy gk).trans (if_pos (by omega))))) | exact da (iX (ao.1.symm.trans ((dy gk).trans ((if_neg (by omega)).trans (if_pos (by omega)))))) | exact jh ((lY (ao.1.symm.trans (by rw [List.drop_of_length_le (by omega)];rfl))).trans (Prod.ext rfl (by simp_all))))]
   exact aV tk mo hK rfl [(3,[(3,.b true)]),(5,[(2,.ix (i) [.v (.int .u8 (((cv.toNat:Nat):Int)))]),(3,.z (((cv.toNat:Nat):Int))),(4,.z (((18446744073709551568+cv.toNat:Nat):Int)))]),(6,[(2,.ix (i) [.v (.int .u8 (((cv.toNat:Nat):Int)))]),(3,.b true)])] 2000 r (by kernel_rfl) (U h0 (U (ax ((i:Nat):Int)) (U (⟨_,gk,rfl⟩:∃ u:UInt8,(w:List UInt8)[i]?=some u∧(.v (.int .u8 (((cv.toNat:Nat):Int))):DV)=.v (.int .u8 (u.toNat:Int))) (U ((wu (by omega)):IntKind.u64.wrap (((cv.toNat:Nat):Int))=((cv.toNat:Nat):Int)) (U ((by simp [IntKind.wrap,IntKind.signed,IntKind.bits];omega):IntKind.u64.wrap ((((cv.toNat:Nat):Int):Int)-48)=((18446744073709551568+cv.toNat:Nat):Int)) (U (ax ((i:Nat):Int)) (U (⟨_,gk,rfl⟩:∃ u:UInt8,(w:List UInt8)[i]?=some u∧(.v (.int .u8 (((cv.toNat:Nat):Int))):DV)=.v (.int .u8 (u.toNat:Int))) (U h3 trivial))))))))
end Go.Proofs.YtcnpikbbmbombaaGreatDoor
namespace Go.Proofs.YtcnpikbbmbombaaGreatDoor
open Go.RowKit
theorem CT {x:Nat} (h:x<256):IntKind.i64.wrap (((x:Nat):Int).tdiv 16)=((x / 16:Nat):Int):=by
 have e:((x:Nat):Int).tdiv 16=((x / 16:Nat):Int):=(Int.ofNat_tdiv x 16).symm
 rw [e];simp [IntKind.wrap,IntKind.signed,IntKind.bits];omega
theorem uH {x:Nat} (h:x<256):IntKind.u8.wrap ((x:Nat):Int)=((x:Nat):Int):=by simp [IntKind.wrap,IntKind.signed,IntKind.bits];omega
theorem Kw {w o:List UInt8} {i:Nat} {a b:UInt8} (h1:w[2*i]?=some a) (h2:w[2*i+1]?=some b) (h:dJ w=(dJ (w.drop (2*i))).map fun q=>o++q) (hn:hx a<0∨hx b<0):dJ w=none:=by rw [h,py h1 h2,if_pos hn];rfl
theorem ta {w o:List UInt8} {i:Nat} {a b:UInt8} (h1:w[2*i]?=some a) (h2:w[2*i+1]?=some b) (h:dJ w=(dJ (w.drop (2*i))).map fun q=>o++q) (hn:¬ (hx a<0∨hx b<0)):dJ w=(dJ (w.drop (2*(i+1)))).map fun q=>(o++[bz ((16*bG a+bG b:Nat):Int)])++q:=by rw [h,py h1 h2,if_neg hn];simp [Option.map_map,Function.comp_def]
set_option maxRecDepth 100000 in
theorem IQ (w:List UInt8) (h1:w≠[45]) (hN:¬ (w=[]∨w.length%2≠0∨510<w.length)) (q:List UInt8) (hq:dJ w=some q):ay Tryz.prog 87 [.d (.v (.string ⟨w.toArray⟩))] (DV.tu [.em 5 1 (af q),.v (.bool true)]):=by
 refine ay.intro (by kernel_rfl) rfl rfl 65 rfl rfl fun w0 K ac hK r=>?_
 cases h0:(w==([45]:List UInt8)) with
 | false=>
  cases h1:((((w.length:Nat):Int):Int)==0) with
  | false=>
   have bR:=ne_of_beq_false h1
   have aI:=((Int.ofNat_tmod _ _).symm:(((w.length:Nat):Int):Int).tmod 2=((w.length%2:Nat):Int))
   cases h2:((((w.length%2:Nat):Int):Int) != 0) with
   | false=>
    have cz:=fM h2
    cases h3:(decide ((510:Int)<((w.length:Nat):Int))) with
    | false=>
     have cT:=of_decide_eq_false h3
     refine bX (todo':=hd Tryz.f87 0) (E':=[(0,.d (.v (.string ⟨w.toArray⟩))),(4,.d (.v (.slice none 0 0))),(5,.z 0)]) (M':=[]) tk mo hK [(1,[(1,.b false)]),(3,[(2,.b false),(6,.z (((w.length%2:Nat):Int))),(7,.b false),(12,.b false)])] 2000 [] [0,4,5] r (by kernel_rfl) (U h0 (U h1 (U aI (U ((by decide):(2:Int)≠0) (U h2 (U h3 trivial)))))) fun ac wd r=>?_
     refine aF.rounds (Φ:=fun (i:Nat) ac wd=>∃ o:List UInt8,(o.length=i∧2*i≤w.length∧dJ w=(dJ (w.drop (2*i))).map fun q=>o++q)∧dn [] w0 K 65 [(0,.d (.v (.string ⟨w.toArray⟩))),(4,.sl 0 (o.length)),(5,.n (2*i))] [.rw 5 1 (af o)] ac wd) (255) ?_ (Nat.zero_le _) ⟨[],⟨rfl,Nat.zero_le _,by simp⟩,r.dA (M1:=[.rw 5 1 []]) [(4,5,1)] [] (by kernel_rfl) (by kernel_rfl)⟩
     clear r
     rintro i dw bj ac wd ⟨o,ao,r⟩
     have lH:=ao.1
     have zS:=ao.2.1
     cases h4:(decide ((((2*i:Nat):Int):Int)<((w.length:Nat):Int))) with
     | false=>
      have dT:=of_decide_eq_false h4
      rw [show (DV.tu [.em 5 1 (af q),.v (.bool true)]:DV)=.tu [.em 5 1 (af o),.v (.bool true)] from (by have e:=hq.symm.trans ao.2.2;rw [List.drop_of_length_le (by omega)] at e;simp [dJ] at e;rw [e])]
      exact aV tk mo hK rfl [(7,[(3,.b false)])] 2000 r (by kernel_rfl) (U h4 (U ((by first | rfl | (simp [af];done) | (simp [af];omega)):(o.length)=(af o).length) trivial))
     | true=>
      have dT:=of_decide_eq_true h4
      obtain ⟨b4,iM⟩:∃ x_,w[2*i]?=some x_:=⟨_,List.getElem?_eq_getElem (by omega)⟩
      obtain ⟨cu,iN⟩:∃ x_,w[2*i+1]?=some x_:=⟨_,List.getElem?_eq_getElem (by omega)⟩
      refine bX (todo':=hd Tryz.f87 1) (E':=[(0,.d (.v (.string ⟨w.toArray⟩))),(4,.sl 0 (o.length)),(5,.n (2*i)),(6,.d (.v (.bool false))),(7,.n 0)]) (M':=[.rw 5 1 (af o)]) tk mo hK [(7,[(3,.b true)])] 2000 [0] [0,4,5,6,7] r (by kernel_rfl) (U h4 trivial) fun ac wd r=>?_
      refine aF.rounds (Φ:=fun (x:Nat) ac wd=>∃ o2:List UInt8,∃ fd:Bool,(x≤256∧(fd=false→o2=o∧∀ y,y<x→¬ u3 b4 cu y)∧(fd=true→¬ (hx b4<0∨hx cu<0)∧o2=o++[bz ((16*bG b4+bG cu:Nat):Int)]))∧dn [] w0 K 65 [(0,.d (.v (.string ⟨w.toArray⟩))),(4,.sl 0 (o2.length)),(5,.n (2*i)),(6,.d (.v (.bool fd))),(7,.n x)] [.rw 5 1 (af o2)] ac wd) (256) ?_ (Nat.zero_le _) ⟨o,false,⟨Nat.zero_le _,(fun _=>⟨rfl,fun y hy=>absurd hy (Nat.not_lt_zero _)⟩),(fun h=>by cases h)⟩,r⟩
      clear r
      rintro x kX c9 ac wd ⟨o2,fd,bo,r⟩
      have N7:o2.length≤256:=by cases fd;rw [(bo.2.1 rfl).1];omega;rw [(bo.2.2 rfl).2];simp;omega
      cases fd with
      | false=>
       cases h5:(decide ((((x:Nat):Int):Int)<256)) with
       | false=>
        have du:=of_decide_eq_false h5
        exact absurd (hq.symm.trans (Kw iM iN ao.2.2 (LA fun y hy=>(bo.2.1 rfl).2 y (by omega)))) (by simp)
       | true=>
        have du:=of_decide_eq_true h5
        have bd:=((CT (by omega)):IntKind.i64.wrap ((((x:Nat):Int):Int).tdiv 16)=((x / 16:Nat):Int))
        have b6:=((uH (by omega)):IntKind.u8.wrap (((x / 16:Nat):Int))=((x / 16:Nat):Int))
        have cO:=(⟨_,iM,rfl⟩:∃ u:UInt8,(w:List UInt8)[2*i]?=some u∧(.v (.int .u8 (((b4.toNat:Nat):Int))):DV)=.v (.int .u8 (u.toNat:Int)))
        cases h6:(((((fh (x / 16)).toNat:Nat):Int):Int)==((b4.toNat:Nat):Int)) with
        | false=>
         have dx:=ne_of_beq_false h6
         exact bX (todo':=hd Tryz.f87 1) (E':=[(0,.d (.v (.string ⟨w.toArray⟩))),(4,.sl 0 (o2.length)),(5,.n (2*i)),(6,.d (.v (.bool false))),(7,.n (x+1))]) (M':=[.rw 5 1 (af o2)]) tk mo hK [(11,[(1,.b true)]),(12,[(1,.z (((x+1:Nat):Int)))]),(13,[(1,.z (((x / 16:Nat):Int))),(2,.z (((x / 16:Nat):Int))),(6,.ix (2*i) [.v (.int .u8 (((b4.toNat:Nat):Int)))]),(3,.aG (.v (.int .u8 ((((fh (x / 16)).toNat:Nat):Int))))),(7,.b false)])] 2000 [0] [0,4,5,6,7] r (by kernel_rfl) (U h5 (U bd (U ((by decide):(16:Int)≠0) (U b6 (U (ax ((2*i:Nat):Int)) (U cO (U (lj (x / 16) (by omega)) (U h6 (U ((wi (by omega)):IntKind.i64.wrap ((((x:Nat):Int):Int)+1)=((x+1:Nat):Int)) trivial))))))))) fun ac wd r=>c9 (by omega) ac wd ⟨o2,false,⟨by omega,fun _=>⟨(bo.2.1 rfl).1,fun y hy=>by rcases Nat.lt_succ_iff_lt_or_eq.1 hy with h | rfl;exact (bo.2.1 rfl).2 y h;exact fun hd=>rX h6 hd.1⟩,(fun h=>by cases h)⟩,r.cast (by first | rfl | (simp;done)) (by first | rfl | (simp [af];done))⟩
        | true=>
         have dx:=eq_of_beq h6
         have cg:=((Int.ofNat_tmod _ _).symm:(((x:Nat):Int):Int).tmod 16=((x%16:Nat):Int))
         have ek:=((uH (by omega)):IntKind.u8.wrap (((x%16:Nat):Int))=((x%16:Nat):Int))
         have df:=((wi (by omega)):IntKind.i64.wrap ((((2*i:Nat):Int):Int)+1)=((2*i+1:Nat):Int))
         have en:=(⟨_,iN,rfl⟩:∃ u:UInt8,(w:List UInt8)[2*i+1]?=some u∧(.v (.int .u8 (((cu.toNat:Nat):Int))):DV)=.v (.int .u8 (u.toNat:Int)))
         cases h7:(((((fh (x%16)).toNat:Nat):Int):Int)==((cu.toNat:Nat):Int)) with
         | false=>
          have dL:=ne_of_beq_false h7
          exact bX (todo':=hd Tryz.f87 1) (E':=[(0,.d (.v (.string ⟨w.toArray⟩))),(4,.sl 0 (o2.length)),(5,.n (2*i)),(6,.d (.v (.bool false))),(7,.n (x+1))]) (M':=[.rw 5 1 (af o2)]) tk mo hK [(11,[(1,.b true)]),(12,[(1,.z (((x+1:Nat):Int)))]),(13,[(1,.z (((x / 16:Nat):Int))),(2,.z (((x / 16:Nat):Int))),(6,.ix (2*i) [.v (.int .u8 (((b4.toNat:Nat):Int)))]),(3,.aG (.v (.int .u8 ((((fh (x / 16)).toNat:Nat):Int))))),(7,.b true),(10,.z (((x%16:Nat):Int))),(11,.z (((x%16:Nat):Int))),(15,.z (((2*i+1:Nat):Int))),(16,.ix (2*i+1) [.v (.int .u8 (((cu.toNat:Nat):Int)))]),(12,.aG (.v (.int .u8 ((((fh (x%16)).toNat:Nat):Int))))),(17,.b false)])] 2000 [0] [0,4,5,6,7] r (by kernel_rfl) (U h5 (U bd (U ((by decide):(16:Int)≠0) (U b6 (U (ax ((2*i:Nat):Int)) (U cO (U (lj (x / 16) (by omega)) (U h6 (U cg (U ((by decide):(16:Int)≠0) (U ek (U df (U (ax ((2*i+1:Nat):Int)) (U en (U (lj (x%16) (by omega)) (U h7 (U ((wi (by omega)):IntKind.i64.wrap ((((x:Nat):Int):Int)+1)=((x+1:Nat):Int)) trivial))))))))))))))))) fun ac wd r=>c9 (by omega) ac wd ⟨o2,false,⟨by omega,fun _=>⟨(bo.2.1 rfl).1,fun y hy=>by rcases Nat.lt_succ_iff_lt_or_eq.1 hy with h | rfl;exact (bo.2.1 rfl).2 y h;exact fun hd=>rX h7 hd.2⟩,(fun h=>by cases h)⟩,r.cast (by first | rfl | (simp;done)) (by first | rfl | (simp [af];done))⟩
         | true=>
          have dL:=eq_of_beq h7
          exact bX (todo':=hd Tryz.f87 1) (E':=[(0,.d (.v (.string ⟨w.toArray⟩))),(4,.sl 0 (o2.length+(1))),(5,.n (2*i)),(6,.d (.v (.bool true))),(7,.n (x+1))]) (M':=[.rw 5 1 (af o2++[[.v (.int .u8 ((((bz ((x:Nat):Int)).toNat:Nat):Int)))]])]) tk mo hK [(11,[(1,.b true)]),(12,[(1,.z (((x+1:Nat):Int)))]),(13,[(1,.z (((x / 16:Nat):Int))),(2,.z (((x / 16:Nat):Int))),(6,.ix (2*i) [.v (.int .u8 (((b4.toNat:Nat):Int)))]),(3,.aG (.v (.int .u8 ((((fh (x / 16)).toNat:Nat):Int))))),(7,.b true),(10,.z (((x%16:Nat):Int))),(11,.z (((x%16:Nat):Int))),(15,.z (((2*i+1:Nat):Int))),(16,.ix (2*i+1) [.v (.int .u8 (((cu.toNat:Nat):Int)))]),(12,.aG (.v (.int .u8 ((((fh (x%16)).toNat:Nat):Int))))),(17,.b true)]),(14,[(2,.z ((((bz ((x:Nat):Int)).toNat:Nat):Int)))])] 2000 [0] [0,4,5,6,7] r (by kernel_rfl) (U h5 (U bd (U ((by decide):(16:Int)≠0) (U b6 (U (ax ((2*i:Nat):Int)) (U cO (U (lj (x / 16) (by omega)) (U h6 (U cg (U ((by decide):(16:Int)≠0) (U ek (U df (U (ax ((2*i+1:Nat):Int)) (U en (U (lj (x%16) (by omega)) (U h7 (U ((gW _):IntKind.u8.wrap (((x:Nat):Int))=(((bz ((x:Nat):Int)).toNat:Nat):Int)) (U ((by first | rfl | (simp [af];done) | (simp [af];omega)):(o2.length)=(af o2).length) (U ((by first | rfl | (simp [af];done) | (simp [af];omega)):(1)=([[.v (.int .u8 ((((bz ((x:Nat):Int)).toNat:Nat):Int)))]]:List (List DV)).length) (U ((by first | omega | (simp [af];omega)):(2*((o2.length)+(1))+192)*1≤281474976710656) (U ((by first | omega | (simp [af];omega)):(o2.length)+(1)<4611686018427387904) (U ((by simp [aW,AV.one,bQ,af,ah,ints,steps,strs]):aW ([[.v (.int .u8 ((((bz ((x:Nat):Int)).toNat:Nat):Int)))]])) (U ((wi (by omega)):IntKind.i64.wrap ((((x:Nat):Int):Int)+1)=((x+1:Nat):Int)) trivial))))))))))))))))))))))) fun ac wd r=>c9 (by omega) ac wd ⟨(o2++[bz ((x:Nat):Int)]),true,⟨by omega,(fun h=>by cases h),fun _=>(by have k:=Cc (by omega) ⟨rW h6,rW h7⟩;exact ⟨k.1,by rw [k.2,(bo.2.1 rfl).1]⟩)⟩,r.cast (by first | rfl | (simp;done)) (by first | rfl | (simp [af];done))⟩
      | true=>
       cases h8:(decide ((((x:Nat):Int):Int)<256)) with
       | false=>
        have fg:=of_decide_eq_false h8
        exact bX (todo':=hd Tryz.f87 0) (E':=[(0,.d (.v (.string ⟨w.toArray⟩))),(4,.sl 0 (o2.length)),(5,.n (2*(i+1)))]) (M':=[.rw 5 1 (af o2)]) tk mo hK [(8,[(1,.z (((2*(i+1):Nat):Int)))]),(11,[(1,.b false)])] 2000 [0] [0,4,5] r (by kernel_rfl) (U h8 (U ((wi (by omega)):IntKind.i64.wrap ((((2*i:Nat):Int):Int)+2)=((2*(i+1):Nat):Int)) trivial)) fun ac wd r=>bj (by omega) ac wd ⟨o2,⟨by rw [(bo.2.2 rfl).2];simp;omega,by omega,by rw [(bo.2.2 rfl).2];exact ta iM iN ao.2.2 (bo.2.2 rfl).1⟩,r.cast rfl rfl⟩
       | true=>
        have fg:=of_decide_eq_true h8
        exact bX (todo':=hd Tryz.f87 0) (E':=[(0,.d (.v (.string ⟨w.toArray⟩))),(4,.sl 0 (o2.length)),(5,.n (2*(i+1)))]) (M':=[.rw 5 1 (af o2)]) tk mo hK [(8,[(1,.z (((2*(i+1):Nat):Int)))]),(11,[(1,.b true)])] 2000 [0] [0,4,5] r (by kernel_rfl) (U h8 (U ((wi (by omega)):IntKind.i64.wrap ((((2*i:Nat):Int):Int)+2)=((2*(i+1):Nat):Int)) trivial)) fun ac wd r=>bj (by omega) ac wd ⟨o2,⟨by rw [(bo.2.2 rfl).2];simp;omega,by omega,by rw [(bo.2.2 rfl).2];exact ta iM iN ao.2.2 (bo.2.2 rfl).1⟩,r.cast rfl rfl⟩
    | true=>
     have cT:=of_decide_eq_true h3
     exact absurd (.inr (.inr (by omega))) hN
   | true=>
    have cz:¬ _=_:=bne_iff_ne.1 h2
    exact absurd (.inr (.inl (by omega))) hN
  | true=>
   have bR:=eq_of_beq h1
   exact absurd (.inl (List.eq_nil_of_length_eq_zero (by omega))) hN
 | true=>
  exact absurd (eq_of_beq h0) h1
set_option maxRecDepth 100000 in
theorem IS (w:List UInt8) (h1:w≠[45]) (hN:¬ (w=[]∨w.length%2≠0∨510<w.length)) (hq:dJ w=none):ay Tryz.prog 87 [.d (.v (.string ⟨w.toArray⟩))] (.tu [.v (.slice none 0 0),.v (.bool false)]):=by
 refine ay.intro (by kernel_rfl) rfl rfl 65 rfl rfl fun w0 K ac hK r=>?_
 cases h0:(w==([45]:List UInt8)) with
 | false=>
  cases h1:((((w.length:Nat):Int):Int)==0) with
  | false=>
   have bR:=ne_of_beq_false h1
   have aI:=((Int.ofNat_tmod _ _).symm:(((w.length:Nat):Int):Int).tmod 2=((w.length%2:Nat):Int))
   cases h2:((((w.length%2:Nat):Int):Int) != 0) with
   | false=>
    have cz:=fM h2
    cases h3:(decide ((510:Int)<((w.length:Nat):Int))) with
    | false=>
     have cT:=of_decide_eq_false h3
     refine bX (todo':=hd Tryz.f87 0) (E':=[(0,.d (.v (.string ⟨w.toArray⟩))),(4,.d (.v (.slice none 0 0))),(5,.z 0)]) (M':=[]) tk mo hK [(1,[(1,.b false)]),(3,[(2,.b false),(6,.z (((w.length%2:Nat):Int))),(7,.b false),(12,.b false)])] 2000 [] [0,4,5] r (by kernel_rfl) (U h0 (U h1 (U aI (U ((by decide):(2:Int)≠0) (U h2 (U h3 trivial)))))) fun ac wd r=>?_
     refine aF.rounds (Φ:=fun (i:Nat) ac wd=>∃ o:List UInt8,(o.length=i∧2*i≤w.length∧dJ w=(dJ (w.drop (2*i))).map fun q=>o++q)∧dn [] w0 K 65 [(0,.d (.v (.string ⟨w.toArray⟩))),(4,.sl 0 (o.length)),(5,.n (2*i))] [.rw 5 1 (af o)] ac wd) (255) ?_ (Nat.zero_le _) ⟨[],⟨rfl,Nat.zero_le _,by simp⟩,r.dA (M1:=[.rw 5 1 []]) [(4,5,1)] [] (by kernel_rfl) (by kernel_rfl)⟩
     clear r
     rintro i dw bj ac wd ⟨o,ao,r⟩
     have lH:=ao.1
     have zS:=ao.2.1
     cases h4:(decide ((((2*i:Nat):Int):Int)<((w.length:Nat):Int))) with
     | false=>
      have dT:=of_decide_eq_false h4
      rw [show (.tu [.v (.slice none 0 0),.v (.bool false)]:DV)=.tu [.em 5 1 (af o),.v (.bool true)] from (by have e:=hq.symm.trans ao.2.2;rw [List.drop_of_length_le (by omega)] at e;simp [dJ] at e)]
      exact aV tk mo hK rfl [(7,[(3,.b false)])] 2000 r (by kernel_rfl) (U h4 (U ((by first | rfl | (simp [af];done) | (simp [af];omega)):(o.length)=(af o).length) trivial))
     | true=>
      have dT:=of_decide_eq_true h4
      obtain ⟨b4,iM⟩:∃ x_,w[2*i]?=some x_:=⟨_,List.getElem?_eq_getElem (by omega)⟩
      obtain ⟨cu,iN⟩:∃ x_,w[2*i+1]?=some x_:=⟨_,List.getElem?_eq_getElem (by omega)⟩
      refine bX (todo':=hd Tryz.f87 1) (E':=[(0,.d (.v (.string ⟨w.toArray⟩))),(4,.sl 0 (o.length)),(5,.n (2*i)),(6,.d (.v (.bool false))),(7,.n 0)]) (M':=[.rw 5 1 (af o)]) tk mo hK [(7,[(3,.b true)])] 2000 [0] [0,4,5,6,7] r (by kernel_rfl) (U h4 trivial) fun ac wd r=>?_
      refine aF.rounds (Φ:=fun (x:Nat) ac wd=>∃ o2:List UInt8,∃ fd:Bool,(x≤256∧(fd=false→o2=o∧∀ y,y<x→¬ u3 b4 cu y)∧(fd=true→¬ (hx b4<0∨hx cu<0)∧o2=o++[bz ((16*bG b4+bG cu:Nat):Int)]))∧dn [] w0 K 65 [(0,.d (.v (.string ⟨w.toArray⟩))),(4,.sl 0 (o2.length)),(5,.n (2*i)),(6,.d (.v (.bool fd))),(7,.n x)] [.rw 5 1 (af o2)] ac wd) (256) ?_ (Nat.zero_le _) ⟨o,false,⟨Nat.zero_le _,(fun _=>⟨rfl,fun y hy=>absurd hy (Nat.not_lt_zero _)⟩),(fun h=>by cases h)⟩,r⟩
      clear r
      rintro x kX c9 ac wd ⟨o2,fd,bo,r⟩
      have N7:o2.length≤256:=by cases fd;rw [(bo.2.1 rfl).1];omega;rw [(bo.2.2 rfl).2];simp;omega
      cases fd with
      | false=>
       cases h5:(decide ((((x:Nat):Int):Int)<256)) with
       | false=>
        have du:=of_decide_eq_false h5
        rw [show (.tu [.v (.slice none 0 0),.v (.bool false)]:DV)=.tu [.v (.slice none 0 0),.v (.bool false)] from rfl]
        exact aV tk mo hK rfl [(11,[(1,.b false)])] 2000 r (by kernel_rfl) (U h5 trivial)
       | true=>
        have du:=of_decide_eq_true h5
        have bd:=((CT (by omega)):IntKind.i64.wrap ((((x:Nat):Int):Int).tdiv 16)=((x / 16:Nat):Int))
        have b6:=((uH (by omega)):IntKind.u8.wrap (((x / 16:Nat):Int))=((x / 16:Nat):Int))
        have cO:=(⟨_,iM,rfl⟩:∃ u:UInt8,(w:List UInt8)[2*i]?=some u∧(.v (.int .u8 (((b4.toNat:Nat):Int))):DV)=.v (.int .u8 (u.toNat:Int)))
        cases h6:(((((fh (x / 16)).toNat:Nat):Int):Int)==((b4.toNat:Nat):Int)) with
        | false=>
         have dx:=ne_of_beq_false h6
         exact bX (todo':=hd Tryz.f87 1) (E':=[(0,.d (.v (.string ⟨w.toArray⟩))),(4,.sl 0 (o2.length)),(5,.n (2*i)),(6,.d (.v (.bool false))),(7,.n (x+1))]) (M':=[.rw 5 1 (af o2)]) tk mo hK [(11,[(1,.b true)]),(12,[(1,.z (((x+1:Nat):Int)))]),(13,[(1,.z (((x / 16:Nat):Int))),(2,.z (((x / 16:Nat):Int))),(6,.ix (2*i) [.v (.int .u8 (((b4.toNat:Nat):Int)))]),(3,.aG (.v (.int .u8 ((((fh (x / 16)).toNat:Nat):Int))))),(7,.b false)])] 2000 [0] [0,4,5,6,7] r (by kernel_rfl) (U h5 (U bd (U ((by decide):(16:Int)≠0) (U b6 (U (ax ((2*i:Nat):Int)) (U cO (U (lj (x / 16) (by omega)) (U h6 (U ((wi (by omega)):IntKind.i64.wrap ((((x:Nat):Int):Int)+1)=((x+1:Nat):Int)) trivial))))))))) fun ac wd r=>c9 (by omega) ac wd ⟨o2,false,⟨by omega,fun _=>⟨(bo.2.1 rfl).1,fun y hy=>by rcases Nat.lt_succ_iff_lt_or_eq.1 hy with h | rfl;exact (bo.2.1 rfl).2 y h;exact fun hd=>rX h6 hd.1⟩,(fun h=>by cases h)⟩,r.cast (by first | rfl | (simp;done)) (by first | rfl | (simp [af];done))⟩
        | true=>
         have dx:=eq_of_beq h6
         have cg:=((Int.ofNat_tmod _ _).symm:(((x:Nat):Int):Int).tmod 16=((x%16:Nat):Int))
         have ek:=((uH (by omega)):IntKind.u8.wrap (((x%16:Nat):Int))=((x%16:Nat):Int))
         have df:=((wi (by omega)):IntKind.i64.wrap ((((2*i:Nat):Int):Int)+1)=((2*i+1:Nat):Int))
         have en:=(⟨_,iN,rfl⟩:∃ u:UInt8,(w:List UInt8)[2*i+1]?=some u∧(.v (.int .u8 (((cu.toNat:Nat):Int))):DV)=.v (.int .u8 (u.toNat:Int)))
         cases h7:(((((fh (x%16)).toNat:Nat):Int):Int)==((cu.toNat:Nat):Int)) with
         | false=>
          have dL:=ne_of_beq_false h7
          exact bX (todo':=hd Tryz.f87 1) (E':=[(0,.d (.v (.string ⟨w.toArray⟩))),(4,.sl 0 (o2.length)),(5,.n (2*i)),(6,.d (.v (.bool false))),(7,.n (x+1))]) (M':=[.rw 5 1 (af o2)]) tk mo hK [(11,[(1,.b true)]),(12,[(1,.z (((x+1:Nat):Int)))]),(13,[(1,.z (((x / 16:Nat):Int))),(2,.z (((x / 16:Nat):Int))),(6,.ix (2*i) [.v (.int .u8 (((b4.toNat:Nat):Int)))]),(3,.aG (.v (.int .u8 ((((fh (x / 16)).toNat:Nat):Int))))),(7,.b true),(10,.z (((x%16:Nat):Int))),(11,.z (((x%16:Nat):Int))),(15,.z (((2*i+1:Nat):Int))),(16,.ix (2*i+1) [.v (.int .u8 (((cu.toNat:Nat):Int)))]),(12,.aG (.v (.int .u8 ((((fh (x%16)).toNat:Nat):Int))))),(17,.b false)])] 2000 [0] [0,4,5,6,7] r (by kernel_rfl) (U h5 (U bd (U ((by decide):(16:Int)≠0) (U b6 (U (ax ((2*i:Nat):Int)) (U cO (U (lj (x / 16) (by omega)) (U h6 (U cg (U ((by decide):(16:Int)≠0) (U ek (U df (U (ax ((2*i+1:Nat):Int)) (U en (U (lj (x%16) (by omega)) (U h7 (U ((wi (by omega)):IntKind.i64.wrap ((((x:Nat):Int):Int)+1)=((x+1:Nat):Int)) trivial))))))))))))))))) fun ac wd r=>c9 (by omega) ac wd ⟨o2,false,⟨by omega,fun _=>⟨(bo.2.1 rfl).1,fun y hy=>by rcases Nat.lt_succ_iff_lt_or_eq.1 hy with h | rfl;exact (bo.2.1 rfl).2 y h;exact fun hd=>rX h7 hd.2⟩,(fun h=>by cases h)⟩,r.cast (by first | rfl | (simp;done)) (by first | rfl | (simp [af];done))⟩
         | true=>
          have dL:=eq_of_beq h7
          exact bX (todo':=hd Tryz.f87 1) (E':=[(0,.d (.v (.string ⟨w.toArray⟩))),(4,.sl 0 (o2.length+(1))),(5,.n (2*i)),(6,.d (.v (.bool true))),(7,.n (x+1))]) (M':=[.rw 5 1 (af o2++[[.v (.int .u8 ((((bz ((x:Nat):Int)).toNat:Nat):Int)))]])]) tk mo hK [(11,[(1,.b true)]),(12,[(1,.z (((x+1:Nat):Int)))]),(13,[(1,.z (((x / 16:Nat):Int))),(2,.z (((x / 16:Nat):Int))),(6,.ix (2*i) [.v (.int .u8 (((b4.toNat:Nat):Int)))]),(3,.aG (.v (.int .u8 ((((fh (x / 16)).toNat:Nat):Int))))),(7,.b true),(10,.z (((x%16:Nat):Int))),(11,.z (((x%16:Nat):Int))),(15,.z (((2*i+1:Nat):Int))),(16,.ix (2*i+1) [.v (.int .u8 (((cu.toNat:Nat):Int)))]),(12,.aG (.v (.int .u8 ((((fh (x%16)).toNat:Nat):Int))))),(17,.b true)]),(14,[(2,.z ((((bz ((x:Nat):Int)).toNat:Nat):Int)))])] 2000 [0] [0,4,5,6,7] r (by kernel_rfl) (U h5 (U bd (U ((by decide):(16:Int)≠0) (U b6 (U (ax ((2*i:Nat):Int)) (U cO (U (lj (x / 16) (by omega)) (U h6 (U cg (U ((by decide):(16:Int)≠0) (U ek (U df (U (ax ((2*i+1:Nat):Int)) (U en (U (lj (x%16) (by omega)) (U h7 (U ((gW _):IntKind.u8.wrap (((x:Nat):Int))=(((bz ((x:Nat):Int)).toNat:Nat):Int)) (U ((by first | rfl | (simp [af];done) | (simp [af];omega)):(o2.length)=(af o2).length) (U ((by first | rfl | (simp [af];done) | (simp [af];omega)):(1)=([[.v (.int .u8 ((((bz ((x:Nat):Int)).toNat:Nat):Int)))]]:List (List DV)).length) (U ((by first | omega | (simp [af];omega)):(2*((o2.length)+(1))+192)*1≤281474976710656) (U ((by first | omega | (simp [af];omega)):(o2.length)+(1)<4611686018427387904) (U ((by simp [aW,AV.one,bQ,af,ah,ints,steps,strs]):aW ([[.v (.int .u8 ((((bz ((x:Nat):Int)).toNat:Nat):Int)))]])) (U ((wi (by omega)):IntKind.i64.wrap ((((x:Nat):Int):Int)+1)=((x+1:Nat):Int)) trivial))))))))))))))))))))))) fun ac wd r=>c9 (by omega) ac wd ⟨(o2++[bz ((x:Nat):Int)]),true,⟨by omega,(fun h=>by cases h),fun _=>(by have k:=Cc (by omega) ⟨rW h6,rW h7⟩;exact ⟨k.1,by rw [k.2,(bo.2.1 rfl).1]⟩)⟩,r.cast (by first | rfl | (simp;done)) (by first | rfl | (simp [af];done))⟩
      | true=>
       cases h8:(decide ((((x:Nat):Int):Int)<256)) with
       | false=>
        have fg:=of_decide_eq_false h8
        exact bX (todo':=hd Tryz.f87 0) (E':=[(0,.d (.v (.string ⟨w.toArray⟩))),(4,.sl 0 (o2.length)),(5,.n (2*(i+1)))]) (M':=[.rw 5 1 (af o2)]) tk mo hK [(8,[(1,.z (((2*(i+1):Nat):Int)))]),(11,[(1,.b false)])] 2000 [0] [0,4,5] r (by kernel_rfl) (U h8 (U ((wi (by omega)):IntKind.i64.wrap ((((2*i:Nat):Int):Int)+2)=((2*(i+1):Nat):Int)) trivial)) fun ac wd r=>bj (by omega) ac wd ⟨o2,⟨by rw [(bo.2.2 rfl).2];simp;omega,by omega,by rw [(bo.2.2 rfl).2];exact ta iM iN ao.2.2 (bo.2.2 rfl).1⟩,r.cast rfl rfl⟩
       | true=>
        have fg:=of_decide_eq_true h8
        exact bX (todo':=hd Tryz.f87 0) (E':=[(0,.d (.v (.string ⟨w.toArray⟩))),(4,.sl 0 (o2.length)),(5,.n (2*(i+1)))]) (M':=[.rw 5 1 (af o2)]) tk mo hK [(8,[(1,.z (((2*(i+1):Nat):Int)))]),(11,[(1,.b true)])] 2000 [0] [0,4,5] r (by kernel_rfl) (U h8 (U ((wi (by omega)):IntKind.i64.wrap ((((2*i:Nat):Int):Int)+2)=((2*(i+1):Nat):Int)) trivial)) fun ac wd r=>bj (by omega) ac wd ⟨o2,⟨by rw [(bo.2.2 rfl).2];simp;omega,by omega,by rw [(bo.2.2 rfl).2];exact ta iM iN ao.2.2 (bo.2.2 rfl).1⟩,r.cast rfl rfl⟩
    | true=>
     have cT:=of_decide_eq_true h3
     exact absurd (.inr (.inr (by omega))) hN
   | true=>
    have cz:¬ _=_:=bne_iff_ne.1 h2
    exact absurd (.inr (.inl (by omega))) hN
  | true=>
   have bR:=eq_of_beq h1
   exact absurd (.inl (List.eq_nil_of_length_eq_zero (by omega))) hN
 | true=>
  exact absurd (eq_of_beq h0) h1
set_option maxRecDepth 100000 in
theorem IT :ay Tryz.prog 87 [.d (.v (.string ⟨([45]).toArray⟩))] (.tu [.v (.slice none 0 0),.v (.bool true)]):=by
 refine ay.intro (by kernel_rfl) rfl rfl 65 rfl rfl fun w0 K ac hK r=>?_
 rw [show (.tu [.v (.slice none 0 0),.v (.bool true)]:DV)=.tu [.v (.slice none 0 0),.v (.bool true)] from rfl]
 exact aV tk mo hK rfl [(1,[(1,.b true)])] 2000 r (by kernel_rfl) (U ((by first | decide | simp):(([45]:List UInt8)==[45])=true) trivial)
set_option maxRecDepth 100000 in
theorem Kx (w:List UInt8) (h1:w≠[45]) (hO:w=[]∨w.length%2≠0∨510<w.length):ay Tryz.prog 87 [.d (.v (.string ⟨w.toArray⟩))] (.tu [.v (.slice none 0 0),.v (.bool false)]):=by
 refine ay.intro (by kernel_rfl) rfl rfl 65 rfl rfl fun w0 K ac hK r=>?_
 cases h0:(w==([45]:List UInt8)) with
 | false=>
  cases h1:((((w.length:Nat):Int):Int)==0) with
  | false=>
   have bR:=ne_of_beq_false h1
   have aI:=((Int.ofNat_tmod _ _).symm:(((w.length:Nat):Int):Int).tmod 2=((w.length%2:Nat):Int))
   cases h2:((((w.length%2:Nat):Int):Int) != 0) with
   | false=>
    have cz:=fM h2
    cases h3:(decide ((510:Int)<((w.length:Nat):Int))) with
    | false=>
     have cT:=of_decide_eq_false h3
     exact absurd hO (by rintro (h | h | h);subst h;simp at *;omega;omega)
    | true=>
     have cT:=of_decide_eq_true h3
     rw [show (.tu [.v (.slice none 0 0),.v (.bool false)]:DV)=.tu [.v (.slice none 0 0),.v (.bool false)] from rfl]
     exact aV tk mo hK rfl [(1,[(1,.b false)]),(3,[(2,.b false),(6,.z (((w.length%2:Nat):Int))),(7,.b false),(12,.b true)])] 2000 r (by kernel_rfl) (U h0 (U h1 (U aI (U ((by decide):(2:Int)≠0) (U h2 (U h3 trivial))))))
   | true=>
    have cz:¬ _=_:=bne_iff_ne.1 h2
    rw [show (.tu [.v (.slice none 0 0),.v (.bool false)]:DV)=.tu [.v (.slice none 0 0),.v (.bool false)] from rfl]
    exact aV tk mo hK rfl [(1,[(1,.b false)]),(3,[(2,.b false),(6,.z (((w.length%2:Nat):Int))),(7,.b true)])] 2000 r (by kernel_rfl) (U h0 (U h1 (U aI (U ((by decide):(2:Int)≠0) (U h2 trivial)))))
  | true=>
   have bR:=eq_of_beq h1
   rw [show (.tu [.v (.slice none 0 0),.v (.bool false)]:DV)=.tu [.v (.slice none 0 0),.v (.bool false)] from rfl]
   exact aV tk mo hK rfl [(1,[(1,.b false)]),(3,[(2,.b true)])] 2000 r (by kernel_rfl) (U h0 (U h1 trivial))
 | true=>
  exact absurd (eq_of_beq h0) h1
theorem Nj (w:List UInt8):ay Tryz.prog 87 [.d (.v (.string ⟨w.toArray⟩))] (.tu [.em 5 1 (af (dj w).1),.v (.bool (dj w).2)]):=by
 have nl:∀ {b:Bool},ay Tryz.prog 87 [.d (.v (.string ⟨w.toArray⟩))] (.tu [.v (.slice none 0 0),.v (.bool b)])→ay Tryz.prog 87 [.d (.v (.string ⟨w.toArray⟩))] (.tu [.em 5 1 (af []),.v (.bool b)]):=fun h=>h.le (cx.tu (.cons (Le.tR 5 1) (.cons (Le.refl _) .nil)))
 by_cases h1:w=[45]
 ·subst h1;exact nl IT
 ·by_cases hO:w=[]∨w.length%2≠0∨510<w.length
  ·rw [By h1 hO];exact nl (Kx w h1 hO)
  ·cases hq:dJ w with
   | none=>rw [AZ h1 hO hq];exact nl (IS w h1 hO hq)
   | some q=>rw [A0 h1 hO hq];exact IQ w h1 hO q hq
end Go.Proofs.YtcnpikbbmbombaaGreatDoor
