/-
  scriptPrints_card, part 6 of 7: merged by program from the texts that it needs.
-/
import Derived.Test.YtcnpikbbmbombaaGreatDoorSrE
set_option linter.unusedSimpArgs false
set_option linter.unusedVariables false
set_option linter.unnecessarySimpa false
namespace Go.Proofs.YtcnpikbbmbombaaGreatDoor
open Go.RowKit
def hx (b:UInt8):Int:=Go.Lib.indexByte [48,49,50,51,52,53,54,55,56,57,97,98,99,100,101,102] b
def bO (b:UInt8):Nat:=(hx b).toNat
theorem LK (b:UInt8):hx b<16:=by
 have key:∀ n,n<256→hx (UInt8.ofNat n)<16:=by decide +kernel
 have:=key b.toNat b.toNat_lt
 rwa [UInt8.ofNat_toNat] at this
theorem nB {b:UInt8} (h:decide (hx b<0)=false):hx b=((bO b:Nat):Int)∧bO b<16:=by
 have h:=of_decide_eq_false h
 have:=LK b
 unfold bO;omega
theorem LL {b:UInt8} (h:decide (hx b<0)=true):hx b = -1:=by
 have h:=of_decide_eq_true h
 have:=Go.Lib.indexByte_ge [48,49,50,51,52,53,54,55,56,57,97,98,99,100,101,102] b
 unfold hx at *;omega
theorem o2 {b:UInt8} (h:decide (hx b<0)=false):al Tryz.prog 102 [.d (.v (.string ⟨([48,49,50,51,52,53,54,55,56,57,97,98,99,100,101,102]:List UInt8).toArray⟩)),.d (.v (.int .u8 ((b.toNat:Nat):Int)))] (.n (bO b)):=by
 have q:=zd [48,49,50,51,52,53,54,55,56,57,97,98,99,100,101,102] b
 rw [show Go.Lib.indexByte [48,49,50,51,52,53,54,55,56,57,97,98,99,100,101,102] b=((bO b:Nat):Int) from (nB h).1] at q;exact q
theorem tn {b:UInt8} (h:decide (hx b<0)=true):al Tryz.prog 102 [.d (.v (.string ⟨([48,49,50,51,52,53,54,55,56,57,97,98,99,100,101,102]:List UInt8).toArray⟩)),.d (.v (.int .u8 ((b.toNat:Nat):Int)))] (.z (-1)):=by
 have q:=zd [48,49,50,51,52,53,54,55,56,57,97,98,99,100,101,102] b
 rw [show Go.Lib.indexByte [48,49,50,51,52,53,54,55,56,57,97,98,99,100,101,102] b = -1 from LL h] at q;exact q
theorem CH {h:Nat} (hh:h<16):IntKind.i64.wrap (((h:Nat):Int)*2 ^ (min (4:Int).toNat IntKind.i64.bits))=((16*h:Nat):Int):=by
 show IntKind.i64.wrap (((h:Nat):Int)*16)=_
 simp [IntKind.wrap,IntKind.signed,IntKind.bits];omega
theorem B8 {h l:Nat} (hh:h<16) (hl:l<16):IntKind.i64.wrap ((BitVec.ofInt IntKind.i64.bits ((16*h:Nat):Int) ||| BitVec.ofInt IntKind.i64.bits ((l:Nat):Int)).toNat:Int)=((16*h+l:Nat):Int):=by
 have h1:(BitVec.ofInt 64 ((16*h:Nat):Int) ||| BitVec.ofInt 64 ((l:Nat):Int)).toNat=16*h+l:=by
  rw [BitVec.toNat_or,BitVec.ofInt_natCast,BitVec.ofInt_natCast,BitVec.toNat_ofNat,BitVec.toNat_ofNat,Nat.mod_eq_of_lt (by omega),Nat.mod_eq_of_lt (by omega)]
  have:=Nat.two_pow_add_eq_or_of_lt (i:=4) (b:=l) (by omega) h
  rw [show 16*h=2 ^ 4*h from by omega];omega
 show IntKind.i64.wrap ((BitVec.ofInt 64 ((16*h:Nat):Int) ||| BitVec.ofInt 64 ((l:Nat):Int)).toNat:Int)=_
 rw [h1];simp [IntKind.wrap,IntKind.signed,IntKind.bits];omega
def gU:List UInt8→Option (List UInt8)
 | a::b::r=>if hx a<0∨hx b<0 then none else (gU r).map fun q=>bz ((16*bO a+bO b:Nat):Int)::q
 | _=>some []
def fD (w:List UInt8):List UInt8×Bool:=if w=[45] then ([],true) else if w=[]∨w.length%2≠0∨510<w.length then ([],false) else (match gU w with | some q=>(q,true) | none=>([],false))
theorem so {w:List UInt8} {i:Nat} {a b:UInt8} (h1:w[2*i]?=some a) (h2:w[2*i+1]?=some b):gU (w.drop (2*i))=if hx a<0∨hx b<0 then none else (gU (w.drop (2*(i+1)))).map fun q=>bz ((16*bO a+bO b:Nat):Int)::q:=by
 obtain ⟨Nh,rfl⟩:=List.getElem?_eq_some_iff.1 h1
 obtain ⟨Ni,rfl⟩:=List.getElem?_eq_some_iff.1 h2
 rw [List.drop_eq_getElem_cons Nh,List.drop_eq_getElem_cons Ni,gU];rfl
theorem HA {w:List UInt8} (h1:w≠[45]) (h:w=[]∨w.length%2≠0∨510<w.length):fD w=([],false):=by unfold fD;rw [if_neg h1,if_pos h]
theorem F5 {w:List UInt8} (h1:w≠[45]) (h:¬ (w=[]∨w.length%2≠0∨510<w.length)) (e:gU w=none):fD w=([],false):=by unfold fD;rw [if_neg h1,if_neg h,e]
theorem F6 {w q:List UInt8} (h1:w≠[45]) (h:¬ (w=[]∨w.length%2≠0∨510<w.length)) (e:gU w=some q):fD w=(q,true):=by unfold fD;rw [if_neg h1,if_neg h,e]
theorem xg (n:Nat):((n:Nat):Int).tmod 2=((n%2:Nat):Int):=(Int.ofNat_tmod n 2).symm
set_option maxRecDepth 100000 in
theorem I8 (w:List UInt8) (h1:w≠[45]) (hN:¬ (w=[]∨w.length%2≠0∨510<w.length)) (q:List UInt8) (hq:gU w=some q):al Tryz.prog 85 [.d (.v (.string ⟨w.toArray⟩))] (DV.tu [.em 5 1 (ae q),.v (.bool true)]):=by
 refine al.intro (by kernel_rfl) rfl rfl 53 rfl rfl fun w0 K ac hK r=>?_
 cases h0:(w==([45]:List UInt8)) with
 | false=>
  cases h1:(w==([]:List UInt8)) with
  | false=>
   have aM:=((xg _):(((w.length:Nat):Int):Int).tmod 2=((w.length%2:Nat):Int))
   cases h2:((((w.length%2:Nat):Int):Int) != 0) with
   | false=>
    have c8:=iG h2
    cases h3:(decide ((510:Int)<((w.length:Nat):Int))) with
    | false=>
     have dP:=of_decide_eq_false h3
     refine aU (todo':=hd Tryz.f85 0) (E':=[(0,.d (.v (.string ⟨w.toArray⟩))),(4,.d (.v (.slice none 0 0))),(5,.z 0)]) (M':=[]) tk mo hK [(1,[(1,.b false)]),(3,[(1,.b false),(5,.z (((w.length%2:Nat):Int))),(6,.b false),(11,.b false)])] 2000 [] [0,4,5] r (by kernel_rfl) (U h0 (U h1 (U aM (U ((by decide):(2:Int)≠0) (U h2 (U h3 trivial)))))) fun ac wd r=>?_
     refine aF.rounds (Φ:=fun (i:Nat) ac wd=>∃ o:List UInt8,(o.length=i∧2*i≤w.length∧gU w=(gU (w.drop (2*i))).map fun q=>o++q)∧cN [] w0 K 53 [(0,.d (.v (.string ⟨w.toArray⟩))),(4,.sl 0 (i)),(5,.n (2*i))] [.rw 5 1 (ae o)] ac wd) (255) ?_ (Nat.zero_le _) ⟨[],⟨rfl,Nat.zero_le _,by simp⟩,r.fG (M1:=[.rw 5 1 []]) [(4,5,1)] [] (by kernel_rfl) (by kernel_rfl)⟩
     clear r
     rintro i dw bH ac wd ⟨o,aq,r⟩
     have mS:=aq.1
     have OA:=aq.2.1
     cases h4:(decide ((((2*i:Nat):Int):Int)<((w.length:Nat):Int))) with
     | false=>
      have fa:=of_decide_eq_false h4
      rw [show (DV.tu [.em 5 1 (ae q),.v (.bool true)]:DV)=.tu [.em 5 1 (ae o),.v (.bool true)] from (by have e:=hq.symm.trans aq.2.2;rw [List.drop_of_length_le (by omega)] at e;simp [gU] at e;rw [e])]
      exact aK tk mo hK rfl [(7,[(3,.b false)])] 2000 r (by kernel_rfl) (U h4 (U ((by first | rfl | (simp [ae];done) | (simp [ae];omega)):(i)=(ae o).length) trivial))
     | true=>
      have fa:=of_decide_eq_true h4
      obtain ⟨cJ,ob⟩:∃ x_,w[2*i]?=some x_:=⟨_,List.getElem?_eq_getElem (by omega)⟩
      obtain ⟨cZ,od⟩:∃ x_,w[2*i+1]?=some x_:=⟨_,List.getElem?_eq_getElem (by omega)⟩
      have br:=(⟨_,ob,rfl⟩:∃ u:UInt8,(w:List UInt8)[2*i]?=some u∧(.v (.int .u8 (((cJ.toNat:Nat):Int))):DV)=.v (.int .u8 (u.toNat:Int)))
      have cT:=((wi (by omega)):IntKind.i64.wrap ((((2*i:Nat):Int):Int)+1)=((2*i+1:Nat):Int))
      have dx:=(⟨_,od,rfl⟩:∃ u:UInt8,(w:List UInt8)[2*i+1]?=some u∧(.v (.int .u8 (((cZ.toNat:Nat):Int))):DV)=.v (.int .u8 (u.toNat:Int)))
      cases h5:(decide (hx cJ<0)) with
      | false=>
       have fb:=of_decide_eq_false h5
       cases h6:(decide (hx cZ<0)) with
       | false=>
        have fL:=of_decide_eq_false h6
        cases h7:(decide ((((bO cJ:Nat):Int):Int)<0)) with
        | false=>
         have eh:=of_decide_eq_false h7
         cases h8:(decide ((((bO cZ:Nat):Int):Int)<0)) with
         | false=>
          have fM:=of_decide_eq_false h8
          exact aU (todo':=hd Tryz.f85 0) (E':=[(0,.d (.v (.string ⟨w.toArray⟩))),(4,.sl 0 (i+(1))),(5,.n (2*(i+1)))]) (M':=[.rw 5 1 (ae o++[[.v (.int .u8 ((((bz (((16*bO cJ+bO cZ:Nat):Int))).toNat:Nat):Int)))]])]) tk mo hK [(7,[(3,.b true)]),(8,[(1,.z (((2*(i+1):Nat):Int)))]),(9,[(2,.ix (2*i) [.v (.int .u8 (((cJ.toNat:Nat):Int)))]),(6,.z (((2*i+1:Nat):Int))),(7,.ix (2*i+1) [.v (.int .u8 (((cZ.toNat:Nat):Int)))]),(3,.au (.n (bO cJ))),(8,.au (.n (bO cZ)))]),(10,[(1,.b false),(4,.b false)]),(12,[(2,.z (((16*bO cJ:Nat):Int))),(4,.z (((16*bO cJ+bO cZ:Nat):Int))),(5,.z ((((bz (((16*bO cJ+bO cZ:Nat):Int))).toNat:Nat):Int)))])] 2000 [0] [0,4,5] r (by kernel_rfl) (U h4 (U (aC ((2*i:Nat):Int)) (U br (U cT (U (aC ((2*i+1:Nat):Int)) (U dx (U (o2 h5) (U (o2 h6) (U h7 (U h8 (U ((CH (nB (by assumption)).2):IntKind.i64.wrap ((((bO cJ:Nat):Int):Int)*2 ^ (min (4:Int).toNat IntKind.i64.bits))=((16*bO cJ:Nat):Int)) (U ((by first | decide | omega):(0:Int)≤4) (U ((B8 (nB (by assumption)).2 (nB (by assumption)).2):IntKind.i64.wrap ((BitVec.ofInt IntKind.i64.bits (((16*bO cJ:Nat):Int)) ||| BitVec.ofInt IntKind.i64.bits (((bO cZ:Nat):Int))).toNat:Int)=((16*bO cJ+bO cZ:Nat):Int)) (U ((bQ _):IntKind.u8.wrap (((16*bO cJ+bO cZ:Nat):Int))=(((bz (((16*bO cJ+bO cZ:Nat):Int))).toNat:Nat):Int)) (U ((by first | rfl | (simp [ae];done) | (simp [ae];omega)):(i)=(ae o).length) (U ((by first | rfl | (simp [ae];done) | (simp [ae];omega)):(1)=([[.v (.int .u8 ((((bz (((16*bO cJ+bO cZ:Nat):Int))).toNat:Nat):Int)))]]:List (List DV)).length) (U ((by first | omega | (simp [ae];omega)):(2*((i)+(1))+192)*1≤281474976710656) (U ((by first | omega | (simp [ae];omega)):(i)+(1)<4611686018427387904) (U ((by simp [aD,AV.one,bf,ae,ah,ints,steps,strs]):aD ([[.v (.int .u8 ((((bz (((16*bO cJ+bO cZ:Nat):Int))).toNat:Nat):Int)))]])) (U ((wi (by omega)):IntKind.i64.wrap ((((2*i:Nat):Int):Int)+2)=((2*(i+1):Nat):Int)) trivial)))))))))))))))))))) fun ac wd r=>bH (by omega) ac wd ⟨(o++[bz ((16*bO cJ+bO cZ:Nat):Int)]),⟨by simp;omega,by omega,by rw [aq.2.2,so ob od,if_neg (by rintro (h | h);exact absurd h (of_decide_eq_false (by assumption));exact absurd h (of_decide_eq_false (by assumption)))];simp [Option.map_map,Function.comp_def]⟩,r.cast rfl (by simp [ae])⟩
         | true=>
          have fM:=of_decide_eq_true h8
          exact absurd fM (by omega)
        | true=>
         have eh:=of_decide_eq_true h7
         exact absurd eh (by omega)
       | true=>
        have fL:=of_decide_eq_true h6
        exact absurd (hq.symm.trans (aq.2.2.trans (by rw [so ob od,if_pos (by first | exact .inl (of_decide_eq_true (by assumption)) | exact .inr (of_decide_eq_true (by assumption)))]))) (by simp)
      | true=>
       have fb:=of_decide_eq_true h5
       exact absurd (hq.symm.trans (aq.2.2.trans (by rw [so ob od,if_pos (by first | exact .inl (of_decide_eq_true (by assumption)) | exact .inr (of_decide_eq_true (by assumption)))]))) (by simp)
    | true=>
     have dP:=of_decide_eq_true h3
     exact absurd (.inr (.inr (by omega))) hN
   | true=>
    have c8:¬ _=_:=bne_iff_ne.1 h2
    exact absurd (.inr (.inl (by omega))) hN
  | true=>
   exact absurd (.inl (eq_of_beq h1)) hN
 | true=>
  exact absurd (eq_of_beq h0) h1
set_option maxRecDepth 100000 in
theorem I9 (w:List UInt8) (h1:w≠[45]) (hN:¬ (w=[]∨w.length%2≠0∨510<w.length)) (hq:gU w=none):al Tryz.prog 85 [.d (.v (.string ⟨w.toArray⟩))] (.tu [.v (.slice none 0 0),.v (.bool false)]):=by
 refine al.intro (by kernel_rfl) rfl rfl 53 rfl rfl fun w0 K ac hK r=>?_
 cases h0:(w==([45]:List UInt8)) with
 | false=>
  cases h1:(w==([]:List UInt8)) with
  | false=>
   have aM:=((xg _):(((w.length:Nat):Int):Int).tmod 2=((w.length%2:Nat):Int))
   cases h2:((((w.length%2:Nat):Int):Int) != 0) with
   | false=>
    have c8:=iG h2
    cases h3:(decide ((510:Int)<((w.length:Nat):Int))) with
    | false=>
     have dP:=of_decide_eq_false h3
     refine aU (todo':=hd Tryz.f85 0) (E':=[(0,.d (.v (.string ⟨w.toArray⟩))),(4,.d (.v (.slice none 0 0))),(5,.z 0)]) (M':=[]) tk mo hK [(1,[(1,.b false)]),(3,[(1,.b false),(5,.z (((w.length%2:Nat):Int))),(6,.b false),(11,.b false)])] 2000 [] [0,4,5] r (by kernel_rfl) (U h0 (U h1 (U aM (U ((by decide):(2:Int)≠0) (U h2 (U h3 trivial)))))) fun ac wd r=>?_
     refine aF.rounds (Φ:=fun (i:Nat) ac wd=>∃ o:List UInt8,(o.length=i∧2*i≤w.length∧gU w=(gU (w.drop (2*i))).map fun q=>o++q)∧cN [] w0 K 53 [(0,.d (.v (.string ⟨w.toArray⟩))),(4,.sl 0 (i)),(5,.n (2*i))] [.rw 5 1 (ae o)] ac wd) (255) ?_ (Nat.zero_le _) ⟨[],⟨rfl,Nat.zero_le _,by simp⟩,r.fG (M1:=[.rw 5 1 []]) [(4,5,1)] [] (by kernel_rfl) (by kernel_rfl)⟩
     clear r
     rintro i dw bH ac wd ⟨o,aq,r⟩
     have mS:=aq.1
     have OA:=aq.2.1
     cases h4:(decide ((((2*i:Nat):Int):Int)<((w.length:Nat):Int))) with
     | false=>
      have fa:=of_decide_eq_false h4
      rw [show (.tu [.v (.slice none 0 0),.v (.bool false)]:DV)=.tu [.em 5 1 (ae o),.v (.bool true)] from (by have e:=hq.symm.trans aq.2.2;rw [List.drop_of_length_le (by omega)] at e;simp [gU] at e)]
      exact aK tk mo hK rfl [(7,[(3,.b false)])] 2000 r (by kernel_rfl) (U h4 (U ((by first | rfl | (simp [ae];done) | (simp [ae];omega)):(i)=(ae o).length) trivial))
     | true=>
      have fa:=of_decide_eq_true h4
      obtain ⟨cJ,ob⟩:∃ x_,w[2*i]?=some x_:=⟨_,List.getElem?_eq_getElem (by omega)⟩
      obtain ⟨cZ,od⟩:∃ x_,w[2*i+1]?=some x_:=⟨_,List.getElem?_eq_getElem (by omega)⟩
      have br:=(⟨_,ob,rfl⟩:∃ u:UInt8,(w:List UInt8)[2*i]?=some u∧(.v (.int .u8 (((cJ.toNat:Nat):Int))):DV)=.v (.int .u8 (u.toNat:Int)))
      have cT:=((wi (by omega)):IntKind.i64.wrap ((((2*i:Nat):Int):Int)+1)=((2*i+1:Nat):Int))
      have dx:=(⟨_,od,rfl⟩:∃ u:UInt8,(w:List UInt8)[2*i+1]?=some u∧(.v (.int .u8 (((cZ.toNat:Nat):Int))):DV)=.v (.int .u8 (u.toNat:Int)))
      cases h5:(decide (hx cJ<0)) with
      | false=>
       have fb:=of_decide_eq_false h5
       cases h6:(decide (hx cZ<0)) with
       | false=>
        have fL:=of_decide_eq_false h6
        cases h7:(decide ((((bO cJ:Nat):Int):Int)<0)) with
        | false=>
         have eh:=of_decide_eq_false h7
         cases h8:(decide ((((bO cZ:Nat):Int):Int)<0)) with
         | false=>
          have fM:=of_decide_eq_false h8
          exact aU (todo':=hd Tryz.f85 0) (E':=[(0,.d (.v (.string ⟨w.toArray⟩))),(4,.sl 0 (i+(1))),(5,.n (2*(i+1)))]) (M':=[.rw 5 1 (ae o++[[.v (.int .u8 ((((bz (((16*bO cJ+bO cZ:Nat):Int))).toNat:Nat):Int)))]])]) tk mo hK [(7,[(3,.b true)]),(8,[(1,.z (((2*(i+1):Nat):Int)))]),(9,[(2,.ix (2*i) [.v (.int .u8 (((cJ.toNat:Nat):Int)))]),(6,.z (((2*i+1:Nat):Int))),(7,.ix (2*i+1) [.v (.int .u8 (((cZ.toNat:Nat):Int)))]),(3,.au (.n (bO cJ))),(8,.au (.n (bO cZ)))]),(10,[(1,.b false),(4,.b false)]),(12,[(2,.z (((16*bO cJ:Nat):Int))),(4,.z (((16*bO cJ+bO cZ:Nat):Int))),(5,.z ((((bz (((16*bO cJ+bO cZ:Nat):Int))).toNat:Nat):Int)))])] 2000 [0] [0,4,5] r (by kernel_rfl) (U h4 (U (aC ((2*i:Nat):Int)) (U br (U cT (U (aC ((2*i+1:Nat):Int)) (U dx (U (o2 h5) (U (o2 h6) (U h7 (U h8 (U ((CH (nB (by assumption)).2):IntKind.i64.wrap ((((bO cJ:Nat):Int):Int)*2 ^ (min (4:Int).toNat IntKind.i64.bits))=((16*bO cJ:Nat):Int)) (U ((by first | decide | omega):(0:Int)≤4) (U ((B8 (nB (by assumption)).2 (nB (by assumption)).2):IntKind.i64.wrap ((BitVec.ofInt IntKind.i64.bits (((16*bO cJ:Nat):Int)) ||| BitVec.ofInt IntKind.i64.bits (((bO cZ:Nat):Int))).toNat:Int)=((16*bO cJ+bO cZ:Nat):Int)) (U ((bQ _):IntKind.u8.wrap (((16*bO cJ+bO cZ:Nat):Int))=(((bz (((16*bO cJ+bO cZ:Nat):Int))).toNat:Nat):Int)) (U ((by first | rfl | (simp [ae];done) | (simp [ae];omega)):(i)=(ae o).length) (U ((by first | rfl | (simp [ae];done) | (simp [ae];omega)):(1)=([[.v (.int .u8 ((((bz (((16*bO cJ+bO cZ:Nat):Int))).toNat:Nat):Int)))]]:List (List DV)).length) (U ((by first | omega | (simp [ae];omega)):(2*((i)+(1))+192)*1≤281474976710656) (U ((by first | omega | (simp [ae];omega)):(i)+(1)<4611686018427387904) (U ((by simp [aD,AV.one,bf,ae,ah,ints,steps,strs]):aD ([[.v (.int .u8 ((((bz (((16*bO cJ+bO cZ:Nat):Int))).toNat:Nat):Int)))]])) (U ((wi (by omega)):IntKind.i64.wrap ((((2*i:Nat):Int):Int)+2)=((2*(i+1):Nat):Int)) trivial)))))))))))))))))))) fun ac wd r=>bH (by omega) ac wd ⟨(o++[bz ((16*bO cJ+bO cZ:Nat):Int)]),⟨by simp;omega,by omega,by rw [aq.2.2,so ob od,if_neg (by rintro (h | h);exact absurd h (of_decide_eq_false (by assumption));exact absurd h (of_decide_eq_false (by assumption)))];simp [Option.map_map,Function.comp_def]⟩,r.cast rfl (by simp [ae])⟩
         | true=>
          have fM:=of_decide_eq_true h8
          exact absurd fM (by omega)
        | true=>
         have eh:=of_decide_eq_true h7
         exact absurd eh (by omega)
       | true=>
        have fL:=of_decide_eq_true h6
        cases h9:(decide ((((bO cJ:Nat):Int):Int)<0)) with
        | false=>
         have k6:=of_decide_eq_false h9
         rw [show (.tu [.v (.slice none 0 0),.v (.bool false)]:DV)=.tu [.v (.slice none 0 0),.v (.bool false)] from rfl]
         exact aK tk mo hK rfl [(7,[(3,.b true)]),(9,[(2,.ix (2*i) [.v (.int .u8 (((cJ.toNat:Nat):Int)))]),(6,.z (((2*i+1:Nat):Int))),(7,.ix (2*i+1) [.v (.int .u8 (((cZ.toNat:Nat):Int)))]),(3,.au (.n (bO cJ))),(8,.au (.z (-1)))]),(10,[(1,.b false)])] 2000 r (by kernel_rfl) (U h4 (U (aC ((2*i:Nat):Int)) (U br (U cT (U (aC ((2*i+1:Nat):Int)) (U dx (U (o2 h5) (U (tn h6) (U h9 trivial)))))))))
        | true=>
         have k6:=of_decide_eq_true h9
         exact absurd k6 (by omega)
      | true=>
       have fb:=of_decide_eq_true h5
       cases cy:(decide (hx cZ<0)) with
       | false=>
        have lJ:=of_decide_eq_false cy
        rw [show (.tu [.v (.slice none 0 0),.v (.bool false)]:DV)=.tu [.v (.slice none 0 0),.v (.bool false)] from rfl]
        exact aK tk mo hK rfl [(7,[(3,.b true)]),(9,[(2,.ix (2*i) [.v (.int .u8 (((cJ.toNat:Nat):Int)))]),(6,.z (((2*i+1:Nat):Int))),(7,.ix (2*i+1) [.v (.int .u8 (((cZ.toNat:Nat):Int)))]),(3,.au (.z (-1))),(8,.au (.n (bO cZ)))])] 2000 r (by kernel_rfl) (U h4 (U (aC ((2*i:Nat):Int)) (U br (U cT (U (aC ((2*i+1:Nat):Int)) (U dx (U (tn h5) (U (o2 cy) trivial))))))))
       | true=>
        have lJ:=of_decide_eq_true cy
        rw [show (.tu [.v (.slice none 0 0),.v (.bool false)]:DV)=.tu [.v (.slice none 0 0),.v (.bool false)] from rfl]
        exact aK tk mo hK rfl [(7,[(3,.b true)]),(9,[(2,.ix (2*i) [.v (.int .u8 (((cJ.toNat:Nat):Int)))]),(6,.z (((2*i+1:Nat):Int))),(7,.ix (2*i+1) [.v (.int .u8 (((cZ.toNat:Nat):Int)))]),(3,.au (.z (-1))),(8,.au (.z (-1)))])] 2000 r (by kernel_rfl) (U h4 (U (aC ((2*i:Nat):Int)) (U br (U cT (U (aC ((2*i+1:Nat):Int)) (U dx (U (tn h5) (U (tn cy) trivial))))))))
    | true=>
     have dP:=of_decide_eq_true h3
     exact absurd (.inr (.inr (by omega))) hN
   | true=>
    have c8:¬ _=_:=bne_iff_ne.1 h2
    exact absurd (.inr (.inl (by omega))) hN
  | true=>
   exact absurd (.inl (eq_of_beq h1)) hN
 | true=>
  exact absurd (eq_of_beq h0) h1
set_option maxRecDepth 100000 in
theorem Ja :al Tryz.prog 85 [.d (.v (.string ⟨([45]).toArray⟩))] (.tu [.v (.slice none 0 0),.v (.bool true)]):=by
 refine al.intro (by kernel_rfl) rfl rfl 53 rfl rfl fun w0 K ac hK r=>?_
 rw [show (.tu [.v (.slice none 0 0),.v (.bool true)]:DV)=.tu [.v (.slice none 0 0),.v (.bool true)] from rfl]
 exact aK tk mo hK rfl [(1,[(1,.b true)])] 2000 r (by kernel_rfl) (U ((by first | decide | simp):(([45]:List UInt8)==[45])=true) trivial)
set_option maxRecDepth 100000 in
theorem Ko (w:List UInt8) (h1:w≠[45]) (hO:w=[]∨w.length%2≠0∨510<w.length):al Tryz.prog 85 [.d (.v (.string ⟨w.toArray⟩))] (.tu [.v (.slice none 0 0),.v (.bool false)]):=by
 refine al.intro (by kernel_rfl) rfl rfl 53 rfl rfl fun w0 K ac hK r=>?_
 cases h0:(w==([45]:List UInt8)) with
 | false=>
  cases h1:(w==([]:List UInt8)) with
  | false=>
   have aM:=((xg _):(((w.length:Nat):Int):Int).tmod 2=((w.length%2:Nat):Int))
   cases h2:((((w.length%2:Nat):Int):Int) != 0) with
   | false=>
    have c8:=iG h2
    cases h3:(decide ((510:Int)<((w.length:Nat):Int))) with
    | false=>
     have dP:=of_decide_eq_false h3
     exact absurd hO (by rintro (h | h | h);exact absurd h (by have q:=‹(w==([]:List UInt8))=false›;intro e;subst e;simp at q);omega;omega)
    | true=>
     have dP:=of_decide_eq_true h3
     rw [show (.tu [.v (.slice none 0 0),.v (.bool false)]:DV)=.tu [.v (.slice none 0 0),.v (.bool false)] from rfl]
     exact aK tk mo hK rfl [(1,[(1,.b false)]),(3,[(1,.b false),(5,.z (((w.length%2:Nat):Int))),(6,.b false),(11,.b true)])] 2000 r (by kernel_rfl) (U h0 (U h1 (U aM (U ((by decide):(2:Int)≠0) (U h2 (U h3 trivial))))))
   | true=>
    have c8:¬ _=_:=bne_iff_ne.1 h2
    rw [show (.tu [.v (.slice none 0 0),.v (.bool false)]:DV)=.tu [.v (.slice none 0 0),.v (.bool false)] from rfl]
    exact aK tk mo hK rfl [(1,[(1,.b false)]),(3,[(1,.b false),(5,.z (((w.length%2:Nat):Int))),(6,.b true)])] 2000 r (by kernel_rfl) (U h0 (U h1 (U aM (U ((by decide):(2:Int)≠0) (U h2 trivial)))))
  | true=>
   rw [show (.tu [.v (.slice none 0 0),.v (.bool false)]:DV)=.tu [.v (.slice none 0 0),.v (.bool false)] from rfl]
   exact aK tk mo hK rfl [(1,[(1,.b false)]),(3,[(1,.b true)])] 2000 r (by kernel_rfl) (U h0 (U h1 trivial))
 | true=>
  exact absurd (eq_of_beq h0) h1
theorem ze (w:List UInt8):al Tryz.prog 85 [.d (.v (.string ⟨w.toArray⟩))] (.tu [.em 5 1 (ae (fD w).1),.v (.bool (fD w).2)]):=by
 have nl:∀ {b:Bool},al Tryz.prog 85 [.d (.v (.string ⟨w.toArray⟩))] (.tu [.v (.slice none 0 0),.v (.bool b)])→al Tryz.prog 85 [.d (.v (.string ⟨w.toArray⟩))] (.tu [.em 5 1 (ae []),.v (.bool b)]):=fun h=>h.le (c7.tu (.cons (Le.B2 5 1) (.cons (Le.refl _) .nil)))
 by_cases h1:w=[45]
 ·subst h1;exact nl Ja
 ·by_cases hO:w=[]∨w.length%2≠0∨510<w.length
  ·rw [HA h1 hO];exact nl (Ko w h1 hO)
  ·cases hq:gU w with
   | none=>rw [F5 h1 hO hq];exact nl (I9 w h1 hO hq)
   | some q=>rw [F6 h1 hO hq];exact I8 w h1 hO q hq
end Go.Proofs.YtcnpikbbmbombaaGreatDoor
namespace Go.Proofs.YtcnpikbbmbombaaGreatDoor
open Go.RowKit
set_option maxRecDepth 100000 in
theorem Kq (l:List UInt8) (b:Bool) (z:Int) (hb:l.length<2147483648):aE Tryz.prog 65 [.pt 0 0,.z z] [.bx 108 [.d (.ro 1 (ae l)),.d (.v (.bool b))]] (.d (.ro 1 (ae (aT l b z)))) (iB (eA l b z) (eM l b z)):=by
 refine aE.intro (by kernel_rfl) rfl rfl 13 rfl rfl fun D w0 K bs ac wd hK (ao:bs.m=1) r=>?_
 refine bq (y:=.d (.ro 1 (ae (aT l b z)))) (N':=[.bx 108 [.d (.ro 1 (ae (eA l b z))),.d (.v (.bool ((eM l b z))))]]) (rfl) (rfl) ?_
 exact bp tk mo hK rfl ao [(3,[(4,.mem [0] (.d (.ro 1 (ae (aT l b z)))) [.bx 108 [.d (.ro 1 (ae (eA l b z))),.d (.v (.bool ((eM l b z))))]]),(5,.au (.ro 1 (ae (aT l b z))))])] 2000 [0] r (by kernel_rfl) (U (nA:c9 Tryz.prog 61) (U (ve l b z) (U (zR (aT l b z) (by unfold aT;split;simp;simp;omega)) trivial)))
abbrev dR:=List UInt8×Bool
def pG (r:dR):List ai:=iB r.1 r.2
def bG (z:Int) (r:dR):dR:=(eA r.1 r.2 z,eM r.1 r.2 z)
def v8 (r:dR):Nat:=((aT r.1 r.2 1).getD 0 0).toNat
def j3 (r:dR):Nat:=((aT r.1 r.2 2).getD 0 0).toNat+((aT r.1 r.2 2).getD 1 0).toNat*256
def vU (r:dR):Nat:=(n9 r.1 r.2).toNat
def rU (r:dR):dR:=(pE r.1 r.2,rr r.1 r.2)
theorem LM (r:dR):v8 r<256:=UInt8.toNat_lt _
theorem Kr (r:dR):j3 r<65536:=by
 have h1:=((aT r.1 r.2 2).getD 0 0).toNat_lt
 have h2:=((aT r.1 r.2 2).getD 1 0).toNat_lt
 unfold j3;omega
theorem rA (r:dR):IntKind.i64.wrap ((v8 r:Nat):Int)=((v8 r:Nat):Int):=wi (by have:=LM r;omega)
theorem Nj (r:dR):IntKind.i64.wrap ((j3 r:Nat):Int)=((j3 r:Nat):Int):=wi (by have:=Kr r;omega)
theorem pH (r:dR):aE Tryz.prog 62 [.pt 0 0] (pG r) (.d (.v (.int .u8 ((v8 r:Nat):Int)))) (pG (bG 1 r)):=DD r.1 r.2
theorem Nk (r:dR):aE Tryz.prog 63 [.pt 0 0] (pG r) (.d (.v (.int .u16 ((j3 r:Nat):Int)))) (pG (bG 2 r)):=M9 r.1 r.2
theorem B9 (z:Int):0≤IntKind.u64.wrap z:=by simp [IntKind.wrap,IntKind.signed,IntKind.bits];omega
theorem Az:∀ (l:List UInt8) (i:Nat) (x:Int),0≤x→0≤(gT l i x).1
 | [],_,_,_=>Int.le_refl _
 | c::r,i,x,h=>by
  unfold gT
  split
  ·exact Int.le_refl _
  ·split
   ·split
    ·exact Int.le_refl _
    ·exact B9 _
   ·exact Az r (i+1) _ (B9 _)
theorem Jb (l:List UInt8) (b:Bool):0≤n9 l b:=by
 unfold n9 fe;split
 ·exact Int.le_refl _
 ·split
  ·exact Int.le_refl _
  ·exact Az _ _ _ (Int.le_refl _)
theorem LN (r:dR):aE Tryz.prog 64 [.pt 0 0] (pG r) (.d (.v (.int .u64 ((vU r:Nat):Int)))) (pG (rU r)):=by
 have h:=IL r.1 r.2
 rw [show n9 r.1 r.2=((vU r:Nat):Int) by have:=Jb r.1 r.2;unfold vU;omega] at h;exact h
def gK (l:List UInt8):Nat:=v8 (l,false)
def cf (l:List UInt8):dR:=bG 1 (l,false)
def dG (l:List UInt8):dR:=cond (af (gK l)).node (bG 1 (cf l)) (cf l)
def dH (l:List UInt8):dR:=cond (af (gK l)).peer (bG 1 (dG l)) (dG l)
def dI (l:List UInt8):dR:=cond (af (gK l)).n (bG 1 (dH l)) (dH l)
def ej (l:List UInt8):dR:=cond (af (gK l)).bit (bG 2 (dI l)) (dI l)
def bu (l:List UInt8):dR:=cond (af (gK l)).inc (rU (ej l)) (ej l)
def dn (l:List UInt8):dR:=cond (af (gK l)).body (bG (v8 (bu l)) (bG 1 (bu l))) (bu l)
def de (l:List UInt8):Nat:=cond (af (gK l)).node (v8 (cf l)) 0
def dS (l:List UInt8):Nat:=cond (af (gK l)).peer (v8 (dG l)) 0
def eO (l:List UInt8):Nat:=cond (af (gK l)).n (v8 (dH l)) 0
def ga (l:List UInt8):Nat:=cond (af (gK l)).bit (j3 (dI l)) 0
def jA (l:List UInt8):Nat:=cond (af (gK l)).inc (vU (ej l)) 0
def jB (l:List UInt8):List UInt8:=cond (af (gK l)).body (aT (bG 1 (bu l)).1 (bG 1 (bu l)).2 (v8 (bu l))) []
def CI (l:List UInt8):aL:=⟨gK l,de l,dS l,eO l,ga l,jA l,jB l⟩
def gZ:aL:=⟨0,0,0,0,0,0,[]⟩
def bw (l:List UInt8):aL×Nat:=if 14≤gK l then (gZ,1) else cond (dn l).2 (gZ,1) (CI l,l.length-(dn l).1.length)
theorem A9 {l:List UInt8} (h:14≤gK l):bw l=(gZ,1):=by unfold bw;rw [if_pos h]
theorem Ba {l:List UInt8} (h:gK l<14) (e:(dn l).2=true):bw l=(gZ,1):=by unfold bw;rw [if_neg (by omega),e];rfl
theorem Bb {l:List UInt8} (h:gK l<14) (e:(dn l).2=false):bw l=(CI l,l.length-(dn l).1.length):=by unfold bw;rw [if_neg (by omega),e];rfl
theorem eC {b c:Bool} {α:Type} {x y z:α} (h:b=c) (e:cond c x y=z):cond b x y=z:=h▸e
theorem im (z:Int) (r:dR):(bG z r).1.length≤r.1.length:=BA
theorem Ca (r:dR):(rU r).1.length≤r.1.length:=JZ
theorem jK {b:Bool} {r s:dR} {n:Nat} (h:r.1.length≤n) (k:s.1.length≤n):(cond b r s).1.length≤n:=by cases b;exact k;exact h
theorem BG (l:List UInt8):(cf l).1.length≤l.length:=im 1 (l,false)
theorem BH (l:List UInt8):(dG l).1.length≤l.length:=jK (Nat.le_trans (im _ _) (BG l)) (BG l)
theorem BI (l:List UInt8):(dH l).1.length≤l.length:=jK (Nat.le_trans (im _ _) (BH l)) (BH l)
theorem BJ (l:List UInt8):(dI l).1.length≤l.length:=jK (Nat.le_trans (im _ _) (BI l)) (BI l)
theorem BK (l:List UInt8):(ej l).1.length≤l.length:=jK (Nat.le_trans (im _ _) (BJ l)) (BJ l)
theorem sA (l:List UInt8):(bu l).1.length≤l.length:=jK (Nat.le_trans (Ca _) (BK l)) (BK l)
theorem Ks (l:List UInt8):(dn l).1.length≤l.length:=jK (Nat.le_trans (im _ _) (Nat.le_trans (im _ _) (sA l))) (sA l)
def gX (q:aL×Nat):AV:=.tu [.ag [.z q.1.kind,.z q.1.node,.z q.1.peer,.z q.1.n,.z q.1.bit,.u q.1.inc,.sl 1 (ae q.1.body).length],.n q.2]
def oe (q:aL×Nat):List ai:=[.gw 0 aj,.rw 5 1 (ae q.1.body)]
theorem LO {l:List UInt8} (h:(af (gK l)).node=true):dG l=bG 1 (cf l):=eC h rfl
theorem LP {l:List UInt8} (h:(af (gK l)).node=true):de l=v8 (cf l):=eC h rfl
theorem LQ {l:List UInt8} (h:(af (gK l)).node=false):dG l=cf l:=eC h rfl
theorem LR {l:List UInt8} (h:(af (gK l)).node=false):de l=0:=eC h rfl
theorem LU {l:List UInt8} (h:(af (gK l)).peer=true):dH l=bG 1 (dG l):=eC h rfl
theorem LV {l:List UInt8} (h:(af (gK l)).peer=true):dS l=v8 (dG l):=eC h rfl
theorem LW {l:List UInt8} (h:(af (gK l)).peer=false):dH l=dG l:=eC h rfl
theorem LX {l:List UInt8} (h:(af (gK l)).peer=false):dS l=0:=eC h rfl
theorem LY {l:List UInt8} (h:(af (gK l)).n=true):dI l=bG 1 (dH l):=eC h rfl
theorem LZ {l:List UInt8} (h:(af (gK l)).n=true):eO l=v8 (dH l):=eC h rfl
theorem L0 {l:List UInt8} (h:(af (gK l)).n=false):dI l=dH l:=eC h rfl
theorem L2 {l:List UInt8} (h:(af (gK l)).n=false):eO l=0:=eC h rfl
theorem L3 {l:List UInt8} (h:(af (gK l)).bit=true):ej l=bG 2 (dI l):=eC h rfl
theorem L4 {l:List UInt8} (h:(af (gK l)).bit=true):ga l=j3 (dI l):=eC h rfl
theorem L5 {l:List UInt8} (h:(af (gK l)).bit=false):ej l=dI l:=eC h rfl
theorem L6 {l:List UInt8} (h:(af (gK l)).bit=false):ga l=0:=eC h rfl
theorem L7 {l:List UInt8} (h:(af (gK l)).inc=true):bu l=rU (ej l):=eC h rfl
theorem L8 {l:List UInt8} (h:(af (gK l)).inc=true):jA l=vU (ej l):=eC h rfl
theorem L9 {l:List UInt8} (h:(af (gK l)).inc=false):bu l=ej l:=eC h rfl
theorem Ma {l:List UInt8} (h:(af (gK l)).inc=false):jA l=0:=eC h rfl
theorem Cb {l:List UInt8} (h:(af (gK l)).body=true):dn l=bG (v8 (bu l)) (bG 1 (bu l)):=eC h rfl
theorem Mb {l:List UInt8} (h:(af (gK l)).body=true):jB l=aT (bG 1 (bu l)).1 (bG 1 (bu l)).2 (v8 (bu l)):=eC h rfl
theorem Cc {l:List UInt8} (h:(af (gK l)).body=false):dn l=bu l:=eC h rfl
theorem Mc {l:List UInt8} (h:(af (gK l)).body=false):jB l=[]:=eC h rfl
theorem Cd {b:Bool} (h:¬ (if b=true then (3:Int) else 0)=0):b=true:=by cases b;exact absurd rfl h;rfl
theorem Ce {b:Bool} (h:(if b=true then (3:Int) else 0)=0):b=false:=by cases b;rfl;exact absurd h (by decide)
set_option maxRecDepth 100000 in
theorem F7 (l:List UInt8) (hl:l.length<2147483648):aE Tryz.prog 36 [.d (.ro 1 (ae l))] [.gw 0 aj] (gX (bw l)) (oe (bw l)):=by
 refine aE.intro (by kernel_rfl) rfl rfl 69 rfl rfl fun D w0 K bs ac wd hK (ao:bs.m=1) r=>?_
 have aM:=((rA _):IntKind.i64.wrap (((gK l:Nat):Int))=((gK l:Nat):Int))
 cases h0:(decide ((14:Int)≤((gK l:Nat):Int))) with
 | false=>
  have a7:=of_decide_eq_false h0
  refine b6 (todo':=aft Tryz.f36 6) (E':=[(0,.d (.ro 1 (ae l))),(2,.pt 1 0),(3,.z 0),(4,.pt 2 0),(6,.pt 3 0),(7,.pt 4 0)]) (M':=[.gw 0 aj,.bx 42 [.z 0,.z 0,.z 0,.z 0,.z 0,.d (.v (.int .u64 0)),.d (.v (.slice none 0 0))],.bx 108 [.d (.ro 1 (ae (cf l).1)),.d (.v (.bool ((cf l).2)))],.bx 94 [.d (.v (.string ⟨((af (gK l)).word).toArray⟩)),.d (.v (.bool ((af (gK l)).node))),.d (.v (.bool ((af (gK l)).peer))),.d (.v (.bool ((af (gK l)).n))),.d (.v (.bool ((af (gK l)).bit))),.d (.v (.bool ((af (gK l)).inc))),.d (.v (.bool ((af (gK l)).body)))],.bx 42 [.n (gK l),.z 0,.z 0,.z 0,.z 0,.d (.v (.int .u64 0)),.d (.v (.slice none 0 0))]]) tk mo hK ao [(1,[(1,.mem [] (.pt 0 0) [.bx 108 [.d (.ro 1 (ae ((l,false)).1)),.d (.v (.bool (((l,false)).2)))]])]),(2,[(1,.mem [2] (.d (.v (.int .u8 (((gK l:Nat):Int))))) [.bx 108 [.d (.ro 1 (ae (cf l).1)),.d (.v (.bool ((cf l).2)))]]),(2,.z (((gK l:Nat):Int)))]),(3,[(1,.b false)]),(5,[(1,.ix (gK l) [.v (.string ⟨((af (gK l)).word).toArray⟩),.v (.bool ((af (gK l)).node)),.v (.bool ((af (gK l)).peer)),.v (.bool ((af (gK l)).n)),.v (.bool ((af (gK l)).bit)),.v (.bool ((af (gK l)).inc)),.v (.bool ((af (gK l)).body))])])] 15 [0,1,2,3,4] [0,2,3,4,6,7] r (by kernel_rfl) (U (uh l hl) (U (pH ((l,false))) (U aM (U h0 (U (aC ((gK l:Nat):Int)) (U ((by omega):(gK l)<14) (U (np (by omega):List.take 7 (List.drop ((gK l)*7) (aj:List DV))=([.v (.string ⟨((af (gK l)).word).toArray⟩),.v (.bool ((af (gK l)).node)),.v (.bool ((af (gK l)).peer)),.v (.bool ((af (gK l)).n)),.v (.bool ((af (gK l)).bit)),.v (.bool ((af (gK l)).inc)),.v (.bool ((af (gK l)).body))]:List DV)) trivial))))))) fun ac wd r=>?_
  have r:=r.fG (E1:=[(0,.d (.ro 1 (ae l))),(2,.pt 1 0),(3,.z 0),(4,.pt 2 0),(6,.pt 3 0),(7,.pt 4 0)]) (M1:=[.gw 0 aj,.bx 42 [.z 0,.z 0,.z 0,.z 0,.z 0,.d (.v (.int .u64 0)),.d (.v (.slice none 0 0))],.bx 108 [.d (.ro 1 (ae (cf l).1)),.d (.v (.bool ((cf l).2)))],.bx 94 [.d (.v (.string ⟨((af (gK l)).word).toArray⟩)),.d (.v (.bool ((af (gK l)).node))),.d (.v (.bool ((af (gK l)).peer))),.d (.v (.bool ((af (gK l)).n))),.d (.v (.bool ((af (gK l)).bit))),.d (.v (.bool ((af (gK l)).inc))),.d (.v (.bool ((af (gK l)).body)))],.bx 42 [.n (gK l),.z 0,.z 0,.z 0,.z 0,.d (.v (.int .u64 0)),.d (.v (.slice none 0 0))]]) (M2:=[.gw 0 aj,.bx 42 [.z 0,.z 0,.z 0,.z 0,.z 0,.d (.v (.int .u64 0)),.d (.v (.slice none 0 0))],.bx 108 [.d (.ro 1 (ae (cf l).1)),.d (.v (.bool ((cf l).2)))],.bx 94 [.d (.v (.string ⟨((af (gK l)).word).toArray⟩)),.d (.v (.bool ((af (gK l)).node))),.d (.v (.bool ((af (gK l)).peer))),.d (.v (.bool ((af (gK l)).n))),.d (.v (.bool ((af (gK l)).bit))),.d (.v (.bool ((af (gK l)).inc))),.d (.v (.bool ((af (gK l)).body)))],.bx 42 [.n (gK l),.z 0,.z 0,.z 0,.z 0,.d (.v (.int .u64 0)),.sl 5 (0)],.rw 5 1 ([])]) [] [(4,6,5,1)] (by kernel_rfl) (by kernel_rfl)
  refine b6 (todo':=aft Tryz.f36 7) (E':=[(0,.d (.ro 1 (ae l))),(2,.pt 1 0),(3,.z 0),(4,.pt 2 0),(6,.pt 3 0),(7,.pt 4 0),(22,.d (.v (.bool ((af (gK l)).node))))]) (M':=[.gw 0 aj,.bx 42 [.z 0,.z 0,.z 0,.z 0,.z 0,.d (.v (.int .u64 0)),.d (.v (.slice none 0 0))],.bx 108 [.d (.ro 1 (ae (cf l).1)),.d (.v (.bool ((cf l).2)))],.bx 94 [.d (.v (.string ⟨((af (gK l)).word).toArray⟩)),.d (.v (.bool ((af (gK l)).node))),.d (.v (.bool ((af (gK l)).peer))),.d (.v (.bool ((af (gK l)).n))),.d (.v (.bool ((af (gK l)).bit))),.d (.v (.bool ((af (gK l)).inc))),.d (.v (.bool ((af (gK l)).body)))],.bx 42 [.n (gK l),.z 0,.z 0,.z 0,.z 0,.d (.v (.int .u64 0)),.sl 5 (0)],.rw 5 1 ([])]) tk mo hK ao [] 3 [0,1,2,3,4,5] [0,2,3,4,6,7,22] r (by kernel_rfl) trivial fun ac wd r=>?_
  suffices J9:∀ ac wd,RB D w0 K 69 bs [(0,.d (.ro 1 (ae l))),(2,.pt 1 0),(4,.pt 2 0),(7,.pt 4 0),(6,.pt 3 0),(28,.d (.v (.bool ((af (gK l)).peer))))] [.gw 0 aj,.bx 42 [.z 0,.z 0,.z 0,.z 0,.z 0,.d (.v (.int .u64 0)),.d (.v (.slice none 0 0))],.bx 108 [.d (.ro 1 (ae (dG l).1)),.d (.v (.bool ((dG l).2)))],.bx 94 [.d (.v (.string ⟨((af (gK l)).word).toArray⟩)),.d (.v (.bool ((af (gK l)).node))),.d (.v (.bool ((af (gK l)).peer))),.d (.v (.bool ((af (gK l)).n))),.d (.v (.bool ((af (gK l)).bit))),.d (.v (.bool ((af (gK l)).inc))),.d (.v (.bool ((af (gK l)).body)))],.bx 42 [.n (gK l),.n (de l),.z 0,.z 0,.z 0,.d (.v (.int .u64 0)),.sl 5 (0)],.rw 5 1 ([])] ac wd→aF Tryz.prog 36 (aft Tryz.f36 9) (eZ D w0 K bs (gX (bw l)) (oe (bw l))) ac wd by
   cases h1:((af (gK l)).node) with
   | false=>
    have r:=r.cast (E':=[(0,.d (.ro 1 (ae l))),(2,.pt 1 0),(3,.z 0),(4,.pt 2 0),(6,.pt 3 0),(7,.pt 4 0),(22,.d (.v (.bool false)))]) (M':=[.gw 0 aj,.bx 42 [.z 0,.z 0,.z 0,.z 0,.z 0,.d (.v (.int .u64 0)),.d (.v (.slice none 0 0))],.bx 108 [.d (.ro 1 (ae (cf l).1)),.d (.v (.bool ((cf l).2)))],.bx 94 [.d (.v (.string ⟨((af (gK l)).word).toArray⟩)),.d (.v (.bool false)),.d (.v (.bool ((af (gK l)).peer))),.d (.v (.bool ((af (gK l)).n))),.d (.v (.bool ((af (gK l)).bit))),.d (.v (.bool ((af (gK l)).inc))),.d (.v (.bool ((af (gK l)).body)))],.bx 42 [.n (gK l),.z 0,.z 0,.z 0,.z 0,.d (.v (.int .u64 0)),.sl 5 (0)],.rw 5 1 ([])]) (by rw [h1]) (by rw [h1])
    refine b6 (todo':=aft Tryz.f36 9) (E':=[(0,.d (.ro 1 (ae l))),(2,.pt 1 0),(4,.pt 2 0),(7,.pt 4 0),(6,.pt 3 0),(28,.d (.v (.bool ((af (gK l)).peer))))]) (M':=[.gw 0 aj,.bx 42 [.z 0,.z 0,.z 0,.z 0,.z 0,.d (.v (.int .u64 0)),.d (.v (.slice none 0 0))],.bx 108 [.d (.ro 1 (ae (cf l).1)),.d (.v (.bool ((cf l).2)))],.bx 94 [.d (.v (.string ⟨((af (gK l)).word).toArray⟩)),.d (.v (.bool false)),.d (.v (.bool ((af (gK l)).peer))),.d (.v (.bool ((af (gK l)).n))),.d (.v (.bool ((af (gK l)).bit))),.d (.v (.bool ((af (gK l)).inc))),.d (.v (.bool ((af (gK l)).body)))],.bx 42 [.n (gK l),.z 0,.z 0,.z 0,.z 0,.d (.v (.int .u64 0)),.sl 5 (0)],.rw 5 1 ([])]) tk mo hK ao [] 5 [0,1,2,3,4,5] [0,2,4,7,6,28] r (by kernel_rfl) trivial fun ac wd r=>?_
    exact J9 ac wd (r.cast rfl (by rw [LQ h1,LR h1,h1]<;>rfl))
   | true=>
    have r:=r.cast (E':=[(0,.d (.ro 1 (ae l))),(2,.pt 1 0),(3,.z 0),(4,.pt 2 0),(6,.pt 3 0),(7,.pt 4 0),(22,.d (.v (.bool true)))]) (M':=[.gw 0 aj,.bx 42 [.z 0,.z 0,.z 0,.z 0,.z 0,.d (.v (.int .u64 0)),.d (.v (.slice none 0 0))],.bx 108 [.d (.ro 1 (ae (cf l).1)),.d (.v (.bool ((cf l).2)))],.bx 94 [.d (.v (.string ⟨((af (gK l)).word).toArray⟩)),.d (.v (.bool true)),.d (.v (.bool ((af (gK l)).peer))),.d (.v (.bool ((af (gK l)).n))),.d (.v (.bool ((af (gK l)).bit))),.d (.v (.bool ((af (gK l)).inc))),.d (.v (.bool ((af (gK l)).body)))],.bx 42 [.n (gK l),.z 0,.z 0,.z 0,.z 0,.d (.v (.int .u64 0)),.sl 5 (0)],.rw 5 1 ([])]) (by rw [h1]) (by rw [h1])
    refine b6 (todo':=aft Tryz.f36 9) (E':=[(0,.d (.ro 1 (ae l))),(2,.pt 1 0),(4,.pt 2 0),(7,.pt 4 0),(6,.pt 3 0),(28,.d (.v (.bool ((af (gK l)).peer))))]) (M':=[.gw 0 aj,.bx 42 [.z 0,.z 0,.z 0,.z 0,.z 0,.d (.v (.int .u64 0)),.d (.v (.slice none 0 0))],.bx 108 [.d (.ro 1 (ae (bG 1 (cf l)).1)),.d (.v (.bool ((bG 1 (cf l)).2)))],.bx 94 [.d (.v (.string ⟨((af (gK l)).word).toArray⟩)),.d (.v (.bool true)),.d (.v (.bool ((af (gK l)).peer))),.d (.v (.bool ((af (gK l)).n))),.d (.v (.bool ((af (gK l)).bit))),.d (.v (.bool ((af (gK l)).inc))),.d (.v (.bool ((af (gK l)).body)))],.bx 42 [.n (gK l),.n (v8 (cf l)),.z 0,.z 0,.z 0,.d (.v (.int .u64 0)),.sl 5 (0)],.rw 5 1 ([])]) tk mo hK ao [(8,[(1,.mem [2] (.d (.v (.int .u8 (((v8 (cf l):Nat):Int))))) [.bx 108 [.d (.ro 1 (ae (bG 1 (cf l)).1)),.d (.v (.bool ((bG 1 (cf l)).2)))]]),(2,.z (((v8 (cf l):Nat):Int)))])] 5 [0,1,2,3,4,5] [0,2,4,7,6,28] r (by kernel_rfl) (U (pH (cf l)) (U ((rA _):IntKind.i64.wrap (((v8 (cf l):Nat):Int))=((v8 (cf l):Nat):Int)) trivial)) fun ac wd r=>?_
    exact J9 ac wd (r.cast rfl (by rw [LO h1,LP h1,h1]<;>rfl))
  intro ac wd r
  suffices ru:∀ ac wd,RB D w0 K 69 bs [(0,.d (.ro 1 (ae l))),(2,.pt 1 0),(4,.pt 2 0),(7,.pt 4 0),(6,.pt 3 0),(34,.d (.v (.bool ((af (gK l)).n))))] [.gw 0 aj,.bx 42 [.z 0,.z 0,.z 0,.z 0,.z 0,.d (.v (.int .u64 0)),.d (.v (.slice none 0 0))],.bx 108 [.d (.ro 1 (ae (dH l).1)),.d (.v (.bool ((dH l).2)))],.bx 94 [.d (.v (.string ⟨((af (gK l)).word).toArray⟩)),.d (.v (.bool ((af (gK l)).node))),.d (.v (.bool ((af (gK l)).peer))),.d (.v (.bool ((af (gK l)).n))),.d (.v (.bool ((af (gK l)).bit))),.d (.v (.bool ((af (gK l)).inc))),.d (.v (.bool ((af (gK l)).body)))],.bx 42 [.n (gK l),.n (de l),.n (dS l),.z 0,.z 0,.d (.v (.int .u64 0)),.sl 5 (0)],.rw 5 1 ([])] ac wd→aF Tryz.prog 36 (aft Tryz.f36 11) (eZ D w0 K bs (gX (bw l)) (oe (bw l))) ac wd by
   cases h2:((af (gK l)).peer) with
   | false=>
    have r:=r.cast (E':=[(0,.d (.ro 1 (ae l))),(2,.pt 1 0),(4,.pt 2 0),(7,.pt 4 0),(6,.pt 3 0),(28,.d (.v (.bool false)))]) (M':=[.gw 0 aj,.bx 42 [.z 0,.z 0,.z 0,.z 0,.z 0,.d (.v (.int .u64 0)),.d (.v (.slice none 0 0))],.bx 108 [.d (.ro 1 (ae (dG l).1)),.d (.v (.bool ((dG l).2)))],.bx 94 [.d (.v (.string ⟨((af (gK l)).word).toArray⟩)),.d (.v (.bool ((af (gK l)).node))),.d (.v (.bool false)),.d (.v (.bool ((af (gK l)).n))),.d (.v (.bool ((af (gK l)).bit))),.d (.v (.bool ((af (gK l)).inc))),.d (.v (.bool ((af (gK l)).body)))],.bx 42 [.n (gK l),.n (de l),.z 0,.z 0,.z 0,.d (.v (.int .u64 0)),.sl 5 (0)],.rw 5 1 ([])]) (by rw [h2]) (by rw [h2])
    refine b6 (todo':=aft Tryz.f36 11) (E':=[(0,.d (.ro 1 (ae l))),(2,.pt 1 0),(4,.pt 2 0),(7,.pt 4 0),(6,.pt 3 0),(34,.d (.v (.bool ((af (gK l)).n))))]) (M':=[.gw 0 aj,.bx 42 [.z 0,.z 0,.z 0,.z 0,.z 0,.d (.v (.int .u64 0)),.d (.v (.slice none 0 0))],.bx 108 [.d (.ro 1 (ae (dG l).1)),.d (.v (.bool ((dG l).2)))],.bx 94 [.d (.v (.string ⟨((af (gK l)).word).toArray⟩)),.d (.v (.bool ((af (gK l)).node))),.d (.v (.bool false)),.d (.v (.bool ((af (gK l)).n))),.d (.v (.bool ((af (gK l)).bit))),.d (.v (.bool ((af (gK l)).inc))),.d (.v (.bool ((af (gK l)).body)))],.bx 42 [.n (gK l),.n (de l),.z 0,.z 0,.z 0,.d (.v (.int .u64 0)),.sl 5 (0)],.rw 5 1 ([])]) tk mo hK ao [] 5 [0,1,2,3,4,5] [0,2,4,7,6,34] r (by kernel_rfl) trivial fun ac wd r=>?_
    exact ru ac wd (r.cast rfl (by rw [LW h2,LX h2,h2]<;>rfl))
   | true=>
    have r:=r.cast (E':=[(0,.d (.ro 1 (ae l))),(2,.pt 1 0),(4,.pt 2 0),(7,.pt 4 0),(6,.pt 3 0),(28,.d (.v (.bool true)))]) (M':=[.gw 0 aj,.bx 42 [.z 0,.z 0,.z 0,.z 0,.z 0,.d (.v (.int .u64 0)),.d (.v (.slice none 0 0))],.bx 108 [.d (.ro 1 (ae (dG l).1)),.d (.v (.bool ((dG l).2)))],.bx 94 [.d (.v (.string ⟨((af (gK l)).word).toArray⟩)),.d (.v (.bool ((af (gK l)).node))),.d (.v (.bool true)),.d (.v (.bool ((af (gK l)).n))),.d (.v (.bool ((af (gK l)).bit))),.d (.v (.bool ((af (gK l)).inc))),.d (.v (.bool ((af (gK l)).body)))],.bx 42 [.n (gK l),.n (de l),.z 0,.z 0,.z 0,.d (.v (.int .u64 0)),.sl 5 (0)],.rw 5 1 ([])]) (by rw [h2]) (by rw [h2])
    refine b6 (todo':=aft Tryz.f36 11) (E':=[(0,.d (.ro 1 (ae l))),(2,.pt 1 0),(4,.pt 2 0),(7,.pt 4 0),(6,.pt 3 0),(34,.d (.v (.bool ((af (gK l)).n))))]) (M':=[.gw 0 aj,.bx 42 [.z 0,.z 0,.z 0,.z 0,.z 0,.d (.v (.int .u64 0)),.d (.v (.slice none 0 0))],.bx 108 [.d (.ro 1 (ae (bG 1 (dG l)).1)),.d (.v (.bool ((bG 1 (dG l)).2)))],.bx 94 [.d (.v (.string ⟨((af (gK l)).word).toArray⟩)),.d (.v (.bool ((af (gK l)).node))),.d (.v (.bool true)),.d (.v (.bool ((af (gK l)).n))),.d (.v (.bool ((af (gK l)).bit))),.d (.v (.bool ((af (gK l)).inc))),.d (.v (.bool ((af (gK l)).body)))],.bx 42 [.n (gK l),.n (de l),.n (v8 (dG l)),.z 0,.z 0,.d (.v (.int .u64 0)),.sl 5 (0)],.rw 5 1 ([])]) tk mo hK ao [(10,[(1,.mem [2] (.d (.v (.int .u8 (((v8 (dG l):Nat):Int))))) [.bx 108 [.d (.ro 1 (ae (bG 1 (dG l)).1)),.d (.v (.bool ((bG 1 (dG l)).2)))]]),(2,.z (((v8 (dG l):Nat):Int)))])] 5 [0,1,2,3,4,5] [0,2,4,7,6,34] r (by kernel_rfl) (U (pH (dG l)) (U ((rA _):IntKind.i64.wrap (((v8 (dG l):Nat):Int))=((v8 (dG l):Nat):Int)) trivial)) fun ac wd r=>?_
    exact ru ac wd (r.cast rfl (by rw [LU h2,LV h2,h2]<;>rfl))
  intro ac wd r
  suffices rv:∀ ac wd,RB D w0 K 69 bs [(0,.d (.ro 1 (ae l))),(2,.pt 1 0),(4,.pt 2 0),(7,.pt 4 0),(6,.pt 3 0),(40,.d (.v (.bool ((af (gK l)).bit))))] [.gw 0 aj,.bx 42 [.z 0,.z 0,.z 0,.z 0,.z 0,.d (.v (.int .u64 0)),.d (.v (.slice none 0 0))],.bx 108 [.d (.ro 1 (ae (dI l).1)),.d (.v (.bool ((dI l).2)))],.bx 94 [.d (.v (.string ⟨((af (gK l)).word).toArray⟩)),.d (.v (.bool ((af (gK l)).node))),.d (.v (.bool ((af (gK l)).peer))),.d (.v (.bool ((af (gK l)).n))),.d (.v (.bool ((af (gK l)).bit))),.d (.v (.bool ((af (gK l)).inc))),.d (.v (.bool ((af (gK l)).body)))],.bx 42 [.n (gK l),.n (de l),.n (dS l),.n (eO l),.z 0,.d (.v (.int .u64 0)),.sl 5 (0)],.rw 5 1 ([])] ac wd→aF Tryz.prog 36 (aft Tryz.f36 13) (eZ D w0 K bs (gX (bw l)) (oe (bw l))) ac wd by
   cases h3:((af (gK l)).n) with
   | false=>
    have r:=r.cast (E':=[(0,.d (.ro 1 (ae l))),(2,.pt 1 0),(4,.pt 2 0),(7,.pt 4 0),(6,.pt 3 0),(34,.d (.v (.bool false)))]) (M':=[.gw 0 aj,.bx 42 [.z 0,.z 0,.z 0,.z 0,.z 0,.d (.v (.int .u64 0)),.d (.v (.slice none 0 0))],.bx 108 [.d (.ro 1 (ae (dH l).1)),.d (.v (.bool ((dH l).2)))],.bx 94 [.d (.v (.string ⟨((af (gK l)).word).toArray⟩)),.d (.v (.bool ((af (gK l)).node))),.d (.v (.bool ((af (gK l)).peer))),.d (.v (.bool false)),.d (.v (.bool ((af (gK l)).bit))),.d (.v (.bool ((af (gK l)).inc))),.d (.v (.bool ((af (gK l)).body)))],.bx 42 [.n (gK l),.n (de l),.n (dS l),.z 0,.z 0,.d (.v (.int .u64 0)),.sl 5 (0)],.rw 5 1 ([])]) (by rw [h3]) (by rw [h3])
    refine b6 (todo':=aft Tryz.f36 13) (E':=[(0,.d (.ro 1 (ae l))),(2,.pt 1 0),(4,.pt 2 0),(7,.pt 4 0),(6,.pt 3 0),(40,.d (.v (.bool ((af (gK l)).bit))))]) (M':=[.gw 0 aj,.bx 42 [.z 0,.z 0,.z 0,.z 0,.z 0,.d (.v (.int .u64 0)),.d (.v (.slice none 0 0))],.bx 108 [.d (.ro 1 (ae (dH l).1)),.d (.v (.bool ((dH l).2)))],.bx 94 [.d (.v (.string ⟨((af (gK l)).word).toArray⟩)),.d (.v (.bool ((af (gK l)).node))),.d (.v (.bool ((af (gK l)).peer))),.d (.v (.bool false)),.d (.v (.bool ((af (gK l)).bit))),.d (.v (.bool ((af (gK l)).inc))),.d (.v (.bool ((af (gK l)).body)))],.bx 42 [.n (gK l),.n (de l),.n (dS l),.z 0,.z 0,.d (.v (.int .u64 0)),.sl 5 (0)],.rw 5 1 ([])]) tk mo hK ao [] 5 [0,1,2,3,4,5] [0,2,4,7,6,40] r (by kernel_rfl) trivial fun ac wd r=>?_
    exact rv ac wd (r.cast rfl (by rw [L0 h3,L2 h3,h3]<;>rfl))
   | true=>
    have r:=r.cast (E':=[(0,.d (.ro 1 (ae l))),(2,.pt 1 0),(4,.pt 2 0),(7,.pt 4 0),(6,.pt 3 0),(34,.d (.v (.bool true)))]) (M':=[.gw 0 aj,.bx 42 [.z 0,.z 0,.z 0,.z 0,.z 0,.d (.v (.int .u64 0)),.d (.v (.slice none 0 0))],.bx 108 [.d (.ro 1 (ae (dH l).1)),.d (.v (.bool ((dH l).2)))],.bx 94 [.d (.v (.string ⟨((af (gK l)).word).toArray⟩)),.d (.v (.bool ((af (gK l)).node))),.d (.v (.bool ((af (gK l)).peer))),.d (.v (.bool true)),.d (.v (.bool ((af (gK l)).bit))),.d (.v (.bool ((af (gK l)).inc))),.d (.v (.bool ((af (gK l)).body)))],.bx 42 [.n (gK l),.n (de l),.n (dS l),.z 0,.z 0,.d (.v (.int .u64 0)),.sl 5 (0)],.rw 5 1 ([])]) (by rw [h3]) (by rw [h3])
    refine b6 (todo':=aft Tryz.f36 13) (E':=[(0,.d (.ro 1 (ae l))),(2,.pt 1 0),(4,.pt 2 0),(7,.pt 4 0),(6,.pt 3 0),(40,.d (.v (.bool ((af (gK l)).bit))))]) (M':=[.gw 0 aj,.bx 42 [.z 0,.z 0,.z 0,.z 0,.z 0,.d (.v (.int .u64 0)),.d (.v (.slice none 0 0))],.bx 108 [.d (.ro 1 (ae (bG 1 (dH l)).1)),.d (.v (.bool ((bG 1 (dH l)).2)))],.bx 94 [.d (.v (.string ⟨((af (gK l)).word).toArray⟩)),.d (.v (.bool ((af (gK l)).node))),.d (.v (.bool ((af (gK l)).peer))),.d (.v (.bool true)),.d (.v (.bool ((af (gK l)).bit))),.d (.v (.bool ((af (gK l)).inc))),.d (.v (.bool ((af (gK l)).body)))],.bx 42 [.n (gK l),.n (de l),.n (dS l),.n (v8 (dH l)),.z 0,.d (.v (.int .u64 0)),.sl 5 (0)],.rw 5 1 ([])]) tk mo hK ao [(12,[(1,.mem [2] (.d (.v (.int .u8 (((v8 (dH l):Nat):Int))))) [.bx 108 [.d (.ro 1 (ae (bG 1 (dH l)).1)),.d (.v (.bool ((bG 1 (dH l)).2)))]]),(2,.z (((v8 (dH l):Nat):Int)))])] 5 [0,1,2,3,4,5] [0,2,4,7,6,40] r (by kernel_rfl) (U (pH (dH l)) (U ((rA _):IntKind.i64.wrap (((v8 (dH l):Nat):Int))=((v8 (dH l):Nat):Int)) trivial)) fun ac wd r=>?_
    exact rv ac wd (r.cast rfl (by rw [LY h3,LZ h3,h3]<;>rfl))
  intro ac wd r
  suffices DH:∀ ac wd,RB D w0 K 69 bs [(0,.d (.ro 1 (ae l))),(2,.pt 1 0),(4,.pt 2 0),(7,.pt 4 0),(6,.pt 3 0),(46,.d (.v (.bool ((af (gK l)).inc))))] [.gw 0 aj,.bx 42 [.z 0,.z 0,.z 0,.z 0,.z 0,.d (.v (.int .u64 0)),.d (.v (.slice none 0 0))],.bx 108 [.d (.ro 1 (ae (ej l).1)),.d (.v (.bool ((ej l).2)))],.bx 94 [.d (.v (.string ⟨((af (gK l)).word).toArray⟩)),.d (.v (.bool ((af (gK l)).node))),.d (.v (.bool ((af (gK l)).peer))),.d (.v (.bool ((af (gK l)).n))),.d (.v (.bool ((af (gK l)).bit))),.d (.v (.bool ((af (gK l)).inc))),.d (.v (.bool ((af (gK l)).body)))],.bx 42 [.n (gK l),.n (de l),.n (dS l),.n (eO l),.n (ga l),.d (.v (.int .u64 0)),.sl 5 (0)],.rw 5 1 ([])] ac wd→aF Tryz.prog 36 (aft Tryz.f36 15) (eZ D w0 K bs (gX (bw l)) (oe (bw l))) ac wd by
   cases h4:((af (gK l)).bit) with
   | false=>
    have r:=r.cast (E':=[(0,.d (.ro 1 (ae l))),(2,.pt 1 0),(4,.pt 2 0),(7,.pt 4 0),(6,.pt 3 0),(40,.d (.v (.bool false)))]) (M':=[.gw 0 aj,.bx 42 [.z 0,.z 0,.z 0,.z 0,.z 0,.d (.v (.int .u64 0)),.d (.v (.slice none 0 0))],.bx 108 [.d (.ro 1 (ae (dI l).1)),.d (.v (.bool ((dI l).2)))],.bx 94 [.d (.v (.string ⟨((af (gK l)).word).toArray⟩)),.d (.v (.bool ((af (gK l)).node))),.d (.v (.bool ((af (gK l)).peer))),.d (.v (.bool ((af (gK l)).n))),.d (.v (.bool false)),.d (.v (.bool ((af (gK l)).inc))),.d (.v (.bool ((af (gK l)).body)))],.bx 42 [.n (gK l),.n (de l),.n (dS l),.n (eO l),.z 0,.d (.v (.int .u64 0)),.sl 5 (0)],.rw 5 1 ([])]) (by rw [h4]) (by rw [h4])
    refine b6 (todo':=aft Tryz.f36 15) (E':=[(0,.d (.ro 1 (ae l))),(2,.pt 1 0),(4,.pt 2 0),(7,.pt 4 0),(6,.pt 3 0),(46,.d (.v (.bool ((af (gK l)).inc))))]) (M':=[.gw 0 aj,.bx 42 [.z 0,.z 0,.z 0,.z 0,.z 0,.d (.v (.int .u64 0)),.d (.v (.slice none 0 0))],.bx 108 [.d (.ro 1 (ae (dI l).1)),.d (.v (.bool ((dI l).2)))],.bx 94 [.d (.v (.string ⟨((af (gK l)).word).toArray⟩)),.d (.v (.bool ((af (gK l)).node))),.d (.v (.bool ((af (gK l)).peer))),.d (.v (.bool ((af (gK l)).n))),.d (.v (.bool false)),.d (.v (.bool ((af (gK l)).inc))),.d (.v (.bool ((af (gK l)).body)))],.bx 42 [.n (gK l),.n (de l),.n (dS l),.n (eO l),.z 0,.d (.v (.int .u64 0)),.sl 5 (0)],.rw 5 1 ([])]) tk mo hK ao [] 5 [0,1,2,3,4,5] [0,2,4,7,6,46] r (by kernel_rfl) trivial fun ac wd r=>?_
    exact DH ac wd (r.cast rfl (by rw [L5 h4,L6 h4,h4]<;>rfl))
   | true=>
    have r:=r.cast (E':=[(0,.d (.ro 1 (ae l))),(2,.pt 1 0),(4,.pt 2 0),(7,.pt 4 0),(6,.pt 3 0),(40,.d (.v (.bool true)))]) (M':=[.gw 0 aj,.bx 42 [.z 0,.z 0,.z 0,.z 0,.z 0,.d (.v (.int .u64 0)),.d (.v (.slice none 0 0))],.bx 108 [.d (.ro 1 (ae (dI l).1)),.d (.v (.bool ((dI l).2)))],.bx 94 [.d (.v (.string ⟨((af (gK l)).word).toArray⟩)),.d (.v (.bool ((af (gK l)).node))),.d (.v (.bool ((af (gK l)).peer))),.d (.v (.bool ((af (gK l)).n))),.d (.v (.bool true)),.d (.v (.bool ((af (gK l)).inc))),.d (.v (.bool ((af (gK l)).body)))],.bx 42 [.n (gK l),.n (de l),.n (dS l),.n (eO l),.z 0,.d (.v (.int .u64 0)),.sl 5 (0)],.rw 5 1 ([])]) (by rw [h4]) (by rw [h4])
    refine b6 (todo':=aft Tryz.f36 15) (E':=[(0,.d (.ro 1 (ae l))),(2,.pt 1 0),(4,.pt 2 0),(7,.pt 4 0),(6,.pt 3 0),(46,.d (.v (.bool ((af (gK l)).inc))))]) (M':=[.gw 0 aj,.bx 42 [.z 0,.z 0,.z 0,.z 0,.z 0,.d (.v (.int .u64 0)),.d (.v (.slice none 0 0))],.bx 108 [.d (.ro 1 (ae (bG 2 (dI l)).1)),.d (.v (.bool ((bG 2 (dI l)).2)))],.bx 94 [.d (.v (.string ⟨((af (gK l)).word).toArray⟩)),.d (.v (.bool ((af (gK l)).node))),.d (.v (.bool ((af (gK l)).peer))),.d (.v (.bool ((af (gK l)).n))),.d (.v (.bool true)),.d (.v (.bool ((af (gK l)).inc))),.d (.v (.bool ((af (gK l)).body)))],.bx 42 [.n (gK l),.n (de l),.n (dS l),.n (eO l),.n (j3 (dI l)),.d (.v (.int .u64 0)),.sl 5 (0)],.rw 5 1 ([])]) tk mo hK ao [(14,[(1,.mem [2] (.d (.v (.int .u16 (((j3 (dI l):Nat):Int))))) [.bx 108 [.d (.ro 1 (ae (bG 2 (dI l)).1)),.d (.v (.bool ((bG 2 (dI l)).2)))]]),(2,.z (((j3 (dI l):Nat):Int)))])] 5 [0,1,2,3,4,5] [0,2,4,7,6,46] r (by kernel_rfl) (U (Nk (dI l)) (U ((Nj _):IntKind.i64.wrap (((j3 (dI l):Nat):Int))=((j3 (dI l):Nat):Int)) trivial)) fun ac wd r=>?_
    exact DH ac wd (r.cast rfl (by rw [L3 h4,L4 h4,h4]<;>rfl))
  intro ac wd r
  suffices DI:∀ ac wd,RB D w0 K 69 bs [(0,.d (.ro 1 (ae l))),(2,.pt 1 0),(4,.pt 2 0),(7,.pt 4 0),(51,.d (.v (.bool ((af (gK l)).body))))] [.gw 0 aj,.bx 42 [.z 0,.z 0,.z 0,.z 0,.z 0,.d (.v (.int .u64 0)),.d (.v (.slice none 0 0))],.bx 108 [.d (.ro 1 (ae (bu l).1)),.d (.v (.bool ((bu l).2)))],.bx 94 [.d (.v (.string ⟨((af (gK l)).word).toArray⟩)),.d (.v (.bool ((af (gK l)).node))),.d (.v (.bool ((af (gK l)).peer))),.d (.v (.bool ((af (gK l)).n))),.d (.v (.bool ((af (gK l)).bit))),.d (.v (.bool ((af (gK l)).inc))),.d (.v (.bool ((af (gK l)).body)))],.bx 42 [.n (gK l),.n (de l),.n (dS l),.n (eO l),.n (ga l),.u (jA l),.sl 5 (0)],.rw 5 1 ([])] ac wd→aF Tryz.prog 36 (aft Tryz.f36 17) (eZ D w0 K bs (gX (bw l)) (oe (bw l))) ac wd by
   cases h5:((af (gK l)).inc) with
   | false=>
    have r:=r.cast (E':=[(0,.d (.ro 1 (ae l))),(2,.pt 1 0),(4,.pt 2 0),(7,.pt 4 0),(6,.pt 3 0),(46,.d (.v (.bool false)))]) (M':=[.gw 0 aj,.bx 42 [.z 0,.z 0,.z 0,.z 0,.z 0,.d (.v (.int .u64 0)),.d (.v (.slice none 0 0))],.bx 108 [.d (.ro 1 (ae (ej l).1)),.d (.v (.bool ((ej l).2)))],.bx 94 [.d (.v (.string ⟨((af (gK l)).word).toArray⟩)),.d (.v (.bool ((af (gK l)).node))),.d (.v (.bool ((af (gK l)).peer))),.d (.v (.bool ((af (gK l)).n))),.d (.v (.bool ((af (gK l)).bit))),.d (.v (.bool false)),.d (.v (.bool ((af (gK l)).body)))],.bx 42 [.n (gK l),.n (de l),.n (dS l),.n (eO l),.n (ga l),.d (.v (.int .u64 0)),.sl 5 (0)],.rw 5 1 ([])]) (by rw [h5]) (by rw [h5])
    refine b6 (todo':=aft Tryz.f36 17) (E':=[(0,.d (.ro 1 (ae l))),(2,.pt 1 0),(4,.pt 2 0),(7,.pt 4 0),(51,.d (.v (.bool ((af (gK l)).body))))]) (M':=[.gw 0 aj,.bx 42 [.z 0,.z 0,.z 0,.z 0,.z 0,.d (.v (.int .u64 0)),.d (.v (.slice none 0 0))],.bx 108 [.d (.ro 1 (ae (ej l).1)),.d (.v (.bool ((ej l).2)))],.bx 94 [.d (.v (.string ⟨((af (gK l)).word).toArray⟩)),.d (.v (.bool ((af (gK l)).node))),.d (.v (.bool ((af (gK l)).peer))),.d (.v (.bool ((af (gK l)).n))),.d (.v (.bool ((af (gK l)).bit))),.d (.v (.bool false)),.d (.v (.bool ((af (gK l)).body)))],.bx 42 [.n (gK l),.n (de l),.n (dS l),.n (eO l),.n (ga l),.d (.v (.int .u64 0)),.sl 5 (0)],.rw 5 1 ([])]) tk mo hK ao [] 5 [0,1,2,3,4,5] [0,2,4,7,51] r (by kernel_rfl) trivial fun ac wd r=>?_
    exact DI ac wd (r.cast rfl (by rw [L9 h5,Ma h5,h5]<;>rfl))
   | true=>
    have r:=r.cast (E':=[(0,.d (.ro 1 (ae l))),(2,.pt 1 0),(4,.pt 2 0),(7,.pt 4 0),(6,.pt 3 0),(46,.d (.v (.bool true)))]) (M':=[.gw 0 aj,.bx 42 [.z 0,.z 0,.z 0,.z 0,.z 0,.d (.v (.int .u64 0)),.d (.v (.slice none 0 0))],.bx 108 [.d (.ro 1 (ae (ej l).1)),.d (.v (.bool ((ej l).2)))],.bx 94 [.d (.v (.string ⟨((af (gK l)).word).toArray⟩)),.d (.v (.bool ((af (gK l)).node))),.d (.v (.bool ((af (gK l)).peer))),.d (.v (.bool ((af (gK l)).n))),.d (.v (.bool ((af (gK l)).bit))),.d (.v (.bool true)),.d (.v (.bool ((af (gK l)).body)))],.bx 42 [.n (gK l),.n (de l),.n (dS l),.n (eO l),.n (ga l),.d (.v (.int .u64 0)),.sl 5 (0)],.rw 5 1 ([])]) (by rw [h5]) (by rw [h5])
    refine b6 (todo':=aft Tryz.f36 17) (E':=[(0,.d (.ro 1 (ae l))),(2,.pt 1 0),(4,.pt 2 0),(7,.pt 4 0),(51,.d (.v (.bool ((af (gK l)).body))))]) (M':=[.gw 0 aj,.bx 42 [.z 0,.z 0,.z 0,.z 0,.z 0,.d (.v (.int .u64 0)),.d (.v (.slice none 0 0))],.bx 108 [.d (.ro 1 (ae (rU (ej l)).1)),.d (.v (.bool ((rU (ej l)).2)))],.bx 94 [.d (.v (.string ⟨((af (gK l)).word).toArray⟩)),.d (.v (.bool ((af (gK l)).node))),.d (.v (.bool ((af (gK l)).peer))),.d (.v (.bool ((af (gK l)).n))),.d (.v (.bool ((af (gK l)).bit))),.d (.v (.bool true)),.d (.v (.bool ((af (gK l)).body)))],.bx 42 [.n (gK l),.n (de l),.n (dS l),.n (eO l),.n (ga l),.u (vU (ej l)),.sl 5 (0)],.rw 5 1 ([])]) tk mo hK ao [(16,[(1,.mem [2] (.u (vU (ej l))) [.bx 108 [.d (.ro 1 (ae (rU (ej l)).1)),.d (.v (.bool ((rU (ej l)).2)))]])])] 5 [0,1,2,3,4,5] [0,2,4,7,51] r (by kernel_rfl) (U (LN (ej l)) trivial) fun ac wd r=>?_
    exact DI ac wd (r.cast rfl (by rw [L7 h5,L8 h5,h5]<;>rfl))
  intro ac wd r
  suffices og:∀ ac wd,RB D w0 K 69 bs [(0,.d (.ro 1 (ae l))),(2,.pt 1 0),(4,.pt 2 0),(7,.pt 4 0),(61,.d (.v (.bool ((((if (dn l).2=true then 3 else 0):Int) != 0)))))] [.gw 0 aj,.bx 42 [.z 0,.z 0,.z 0,.z 0,.z 0,.d (.v (.int .u64 0)),.d (.v (.slice none 0 0))],.bx 108 [.d (.ro 1 (ae (dn l).1)),.d (.v (.bool ((dn l).2)))],.bx 94 [.d (.v (.string ⟨((af (gK l)).word).toArray⟩)),.d (.v (.bool ((af (gK l)).node))),.d (.v (.bool ((af (gK l)).peer))),.d (.v (.bool ((af (gK l)).n))),.d (.v (.bool ((af (gK l)).bit))),.d (.v (.bool ((af (gK l)).inc))),.d (.v (.bool ((af (gK l)).body)))],.bx 42 [.n (gK l),.n (de l),.n (dS l),.n (eO l),.n (ga l),.u (jA l),.sl 5 ((ae (jB l)).length)],.rw 5 1 (ae (jB l))] ac wd→aF Tryz.prog 36 (aft Tryz.f36 19) (eZ D w0 K bs (gX (bw l)) (oe (bw l))) ac wd by
   cases h6:((af (gK l)).body) with
   | false=>
    have r:=r.cast (E':=[(0,.d (.ro 1 (ae l))),(2,.pt 1 0),(4,.pt 2 0),(7,.pt 4 0),(51,.d (.v (.bool false)))]) (M':=[.gw 0 aj,.bx 42 [.z 0,.z 0,.z 0,.z 0,.z 0,.d (.v (.int .u64 0)),.d (.v (.slice none 0 0))],.bx 108 [.d (.ro 1 (ae (bu l).1)),.d (.v (.bool ((bu l).2)))],.bx 94 [.d (.v (.string ⟨((af (gK l)).word).toArray⟩)),.d (.v (.bool ((af (gK l)).node))),.d (.v (.bool ((af (gK l)).peer))),.d (.v (.bool ((af (gK l)).n))),.d (.v (.bool ((af (gK l)).bit))),.d (.v (.bool ((af (gK l)).inc))),.d (.v (.bool false))],.bx 42 [.n (gK l),.n (de l),.n (dS l),.n (eO l),.n (ga l),.u (jA l),.sl 5 (0)],.rw 5 1 ([])]) (by rw [h6]) (by rw [h6])
    refine b6 (todo':=aft Tryz.f36 19) (E':=[(0,.d (.ro 1 (ae l))),(2,.pt 1 0),(4,.pt 2 0),(7,.pt 4 0),(61,.d (.v (.bool ((((if (bu l).2=true then 3 else 0):Int) != 0)))))]) (M':=[.gw 0 aj,.bx 42 [.z 0,.z 0,.z 0,.z 0,.z 0,.d (.v (.int .u64 0)),.d (.v (.slice none 0 0))],.bx 108 [.d (.ro 1 (ae (bu l).1)),.d (.v (.bool ((bu l).2)))],.bx 94 [.d (.v (.string ⟨((af (gK l)).word).toArray⟩)),.d (.v (.bool ((af (gK l)).node))),.d (.v (.bool ((af (gK l)).peer))),.d (.v (.bool ((af (gK l)).n))),.d (.v (.bool ((af (gK l)).bit))),.d (.v (.bool ((af (gK l)).inc))),.d (.v (.bool false))],.bx 42 [.n (gK l),.n (de l),.n (dS l),.n (eO l),.n (ga l),.u (jA l),.sl 5 (0)],.rw 5 1 ([])]) tk mo hK ao [(19,[(1,.mem [2] (.z ((if (bu l).2=true then 3 else 0))) [.bx 108 [.d (.ro 1 (ae (bu l).1)),.d (.v (.bool ((bu l).2)))]])])] 5 [0,1,2,3,4,5] [0,2,4,7,61] r (by kernel_rfl) (U (vY (bu l).1 (bu l).2) trivial) fun ac wd r=>?_
    exact og ac wd (r.cast (by rw [Cc h6]) (by rw [Cc h6,Mc h6,h6]<;>rfl))
   | true=>
    have r:=r.cast (E':=[(0,.d (.ro 1 (ae l))),(2,.pt 1 0),(4,.pt 2 0),(7,.pt 4 0),(51,.d (.v (.bool true)))]) (M':=[.gw 0 aj,.bx 42 [.z 0,.z 0,.z 0,.z 0,.z 0,.d (.v (.int .u64 0)),.d (.v (.slice none 0 0))],.bx 108 [.d (.ro 1 (ae (bu l).1)),.d (.v (.bool ((bu l).2)))],.bx 94 [.d (.v (.string ⟨((af (gK l)).word).toArray⟩)),.d (.v (.bool ((af (gK l)).node))),.d (.v (.bool ((af (gK l)).peer))),.d (.v (.bool ((af (gK l)).n))),.d (.v (.bool ((af (gK l)).bit))),.d (.v (.bool ((af (gK l)).inc))),.d (.v (.bool true))],.bx 42 [.n (gK l),.n (de l),.n (dS l),.n (eO l),.n (ga l),.u (jA l),.sl 5 (0)],.rw 5 1 ([])]) (by rw [h6]) (by rw [h6])
    refine b6 (todo':=aft Tryz.f36 19) (E':=[(0,.d (.ro 1 (ae l))),(2,.pt 1 0),(4,.pt 2 0),(7,.pt 4 0),(61,.d (.v (.bool ((((if (bG ((v8 (bu l):Nat):Int) (bG 1 (bu l))).2=true then 3 else 0):Int) != 0)))))]) (M':=[.gw 0 aj,.bx 42 [.z 0,.z 0,.z 0,.z 0,.z 0,.d (.v (.int .u64 0)),.d (.v (.slice none 0 0))],.bx 108 [.d (.ro 1 (ae (bG ((v8 (bu l):Nat):Int) (bG 1 (bu l))).1)),.d (.v (.bool ((bG ((v8 (bu l):Nat):Int) (bG 1 (bu l))).2)))],.bx 94 [.d (.v (.string ⟨((af (gK l)).word).toArray⟩)),.d (.v (.bool ((af (gK l)).node))),.d (.v (.bool ((af (gK l)).peer))),.d (.v (.bool ((af (gK l)).n))),.d (.v (.bool ((af (gK l)).bit))),.d (.v (.bool ((af (gK l)).inc))),.d (.v (.bool true))],.bx 42 [.n (gK l),.n (de l),.n (dS l),.n (eO l),.n (ga l),.u (jA l),.sl 5 ((ae (aT (bG 1 (bu l)).1 (bG 1 (bu l)).2 ((v8 (bu l):Nat):Int))).length)],.rw 5 1 (ae (aT (bG 1 (bu l)).1 (bG 1 (bu l)).2 ((v8 (bu l):Nat):Int)))]) tk mo hK ao [(18,[(2,.mem [2] (.d (.v (.int .u8 (((v8 (bu l):Nat):Int))))) [.bx 108 [.d (.ro 1 (ae (bG 1 (bu l)).1)),.d (.v (.bool ((bG 1 (bu l)).2)))]]),(3,.z (((v8 (bu l):Nat):Int))),(4,.mem [2] (.d (.ro 1 (ae (aT (bG 1 (bu l)).1 (bG 1 (bu l)).2 ((v8 (bu l):Nat):Int))))) [.bx 108 [.d (.ro 1 (ae (bG ((v8 (bu l):Nat):Int) (bG 1 (bu l))).1)),.d (.v (.bool ((bG ((v8 (bu l):Nat):Int) (bG 1 (bu l))).2)))]]),(5,.au (.em 5 1 (ae (aT (bG 1 (bu l)).1 (bG 1 (bu l)).2 ((v8 (bu l):Nat):Int)))))]),(19,[(1,.mem [2] (.z ((if (bG ((v8 (bu l):Nat):Int) (bG 1 (bu l))).2=true then 3 else 0))) [.bx 108 [.d (.ro 1 (ae (bG ((v8 (bu l):Nat):Int) (bG 1 (bu l))).1)),.d (.v (.bool ((bG ((v8 (bu l):Nat):Int) (bG 1 (bu l))).2)))]])])] 5 [0,1,2,3,4,6] [0,2,4,7,61] r (by kernel_rfl) (U (pH (bu l)) (U ((rA _):IntKind.i64.wrap (((v8 (bu l):Nat):Int))=((v8 (bu l):Nat):Int)) (U (Kq (bG 1 (bu l)).1 (bG 1 (bu l)).2 ((v8 (bu l):Nat):Int) (by have:=im 1 (bu l);have:=sA l;omega)) (U (tW (aT (bG 1 (bu l)).1 (bG 1 (bu l)).2 ((v8 (bu l):Nat):Int)) (by have:=im 1 (bu l);have:=sA l;unfold aT;split<;>simp<;>omega)) (U (vY (bG ((v8 (bu l):Nat):Int) (bG 1 (bu l))).1 (bG ((v8 (bu l):Nat):Int) (bG 1 (bu l))).2) trivial))))) fun ac wd r=>?_
    exact og ac wd (r.cast (by rw [Cb h6]) (by rw [Cb h6,Mb h6,h6]<;>rfl))
  intro ac wd r
  cases h7:((((if (dn l).2=true then 3 else 0):Int) != 0)) with
  | false=>
   have eh:=iG h7
   have r:=r.cast (E':=[(0,.d (.ro 1 (ae l))),(2,.pt 1 0),(4,.pt 2 0),(7,.pt 4 0),(61,.d (.v (.bool false)))]) (by rw [h7]) rfl
   refine bq (y:=.tu [.ag [.n (gK l),.n (de l),.n (dS l),.n (eO l),.n (ga l),.u (jA l),.sl 1 ((ae (jB l)).length)],.n (l.length-(dn l).1.length)]) (N':=[.gw 0 aj,.rw 5 1 (ae (jB l))]) ((by rw [Bb (by omega) (Ce eh)];rfl)) ((by rw [Bb (by omega) (Ce eh)];rfl)) ?_
   exact bp tk mo hK rfl ao [(21,[(2,.z (((l.length:Nat):Int))),(4,.mem [2] (.n ((dn l).1.length)) [.bx 108 [.d (.ro 1 (ae (dn l).1)),.d (.v (.bool ((dn l).2)))]]),(5,.z (((l.length-(dn l).1.length:Nat):Int)))])] 2000 [0,5] r (by kernel_rfl) (U ((by first | rfl | simp [ae,ah,ints,steps,strs]):(((ae l).length:Nat):Int)=((l.length:Nat):Int)) (U (A5 (dn l).1 (dn l).2) (U ((wi (by have:=Ks l;simp;omega)):IntKind.i64.wrap ((((l.length:Nat):Int):Int)-(((dn l).1.length:Nat):Int))=((l.length-(dn l).1.length:Nat):Int)) trivial)))
  | true=>
   have eh:¬ _=_:=bne_iff_ne.1 h7
   have r:=r.cast (E':=[(0,.d (.ro 1 (ae l))),(2,.pt 1 0),(4,.pt 2 0),(7,.pt 4 0),(61,.d (.v (.bool true)))]) (by rw [h7]) rfl
   refine b6 (todo':=aft Tryz.f36 20) (E':=[(0,.d (.ro 1 (ae l))),(2,.pt 1 0),(4,.pt 2 0),(7,.pt 4 0),(3,.z 1)]) (M':=[.gw 0 aj,.bx 42 [.z 0,.z 0,.z 0,.z 0,.z 0,.d (.v (.int .u64 0)),.d (.v (.slice none 0 0))],.bx 108 [.d (.ro 1 (ae (dn l).1)),.d (.v (.bool ((dn l).2)))],.bx 94 [.d (.v (.string ⟨((af (gK l)).word).toArray⟩)),.d (.v (.bool ((af (gK l)).node))),.d (.v (.bool ((af (gK l)).peer))),.d (.v (.bool ((af (gK l)).n))),.d (.v (.bool ((af (gK l)).bit))),.d (.v (.bool ((af (gK l)).inc))),.d (.v (.bool ((af (gK l)).body)))],.bx 42 [.n (gK l),.n (de l),.n (dS l),.n (eO l),.n (ga l),.u (jA l),.sl 5 ((ae (jB l)).length)],.rw 5 1 (ae (jB l))]) tk mo hK ao [] 3 [0,1,2,3,4,5] [0,2,4,7,3] r (by kernel_rfl) trivial fun ac wd r=>?_
   have r:=r.fG (E1:=[(0,.d (.ro 1 (ae l))),(2,.pt 1 0),(4,.pt 2 0),(7,.pt 4 0),(3,.z 1)]) (M1:=[.gw 0 aj,.bx 42 [.z 0,.z 0,.z 0,.z 0,.z 0,.d (.v (.int .u64 0)),.d (.v (.slice none 0 0))],.bx 108 [.d (.ro 1 (ae (dn l).1)),.d (.v (.bool ((dn l).2)))],.bx 94 [.d (.v (.string ⟨((af (gK l)).word).toArray⟩)),.d (.v (.bool ((af (gK l)).node))),.d (.v (.bool ((af (gK l)).peer))),.d (.v (.bool ((af (gK l)).n))),.d (.v (.bool ((af (gK l)).bit))),.d (.v (.bool ((af (gK l)).inc))),.d (.v (.bool ((af (gK l)).body)))],.bx 42 [.n (gK l),.n (de l),.n (dS l),.n (eO l),.n (ga l),.u (jA l),.sl 5 ((ae (jB l)).length)],.rw 5 1 (ae (jB l))]) (M2:=[.gw 0 aj,.bx 42 [.z 0,.z 0,.z 0,.z 0,.z 0,.d (.v (.int .u64 0)),.sl 6 (0)],.bx 108 [.d (.ro 1 (ae (dn l).1)),.d (.v (.bool ((dn l).2)))],.bx 94 [.d (.v (.string ⟨((af (gK l)).word).toArray⟩)),.d (.v (.bool ((af (gK l)).node))),.d (.v (.bool ((af (gK l)).peer))),.d (.v (.bool ((af (gK l)).n))),.d (.v (.bool ((af (gK l)).bit))),.d (.v (.bool ((af (gK l)).inc))),.d (.v (.bool ((af (gK l)).body)))],.bx 42 [.n (gK l),.n (de l),.n (dS l),.n (eO l),.n (ga l),.u (jA l),.sl 5 ((ae (jB l)).length)],.rw 5 1 (ae (jB l)),.rw 5 1 ([])]) [] [(1,6,5,1)] (by kernel_rfl) (by kernel_rfl)
   refine bq (y:=.tu [.ag [.z 0,.z 0,.z 0,.z 0,.z 0,.d (.v (.int .u64 0)),.sl 1 (0)],.z 1]) (N':=[.gw 0 aj,.rw 5 1 ([])]) ((by rw [Ba (by omega) (Cd eh)];rfl)) ((by rw [Ba (by omega) (Cd eh)];rfl)) ?_
   exact bp tk mo hK rfl ao [] 2000 [0,6] r (by kernel_rfl) trivial
 | true=>
  have a7:=of_decide_eq_true h0
  refine b6 (todo':=aft Tryz.f36 4) (E':=[(0,.d (.ro 1 (ae l))),(2,.pt 1 0),(3,.z 1),(4,.pt 2 0),(5,.n (gK l))]) (M':=[.gw 0 aj,.bx 42 [.z 0,.z 0,.z 0,.z 0,.z 0,.d (.v (.int .u64 0)),.d (.v (.slice none 0 0))],.bx 108 [.d (.ro 1 (ae (cf l).1)),.d (.v (.bool ((cf l).2)))]]) tk mo hK ao [(1,[(1,.mem [] (.pt 0 0) [.bx 108 [.d (.ro 1 (ae ((l,false)).1)),.d (.v (.bool (((l,false)).2)))]])]),(2,[(1,.mem [2] (.d (.v (.int .u8 (((gK l:Nat):Int))))) [.bx 108 [.d (.ro 1 (ae (cf l).1)),.d (.v (.bool ((cf l).2)))]]),(2,.z (((gK l:Nat):Int)))]),(3,[(1,.b true)])] 12 [0,1,2] [0,2,3,4,5] r (by kernel_rfl) (U (uh l hl) (U (pH ((l,false))) (U aM (U h0 trivial)))) fun ac wd r=>?_
  have r:=r.fG (E1:=[(0,.d (.ro 1 (ae l))),(2,.pt 1 0),(3,.z 1),(4,.pt 2 0),(5,.n (gK l))]) (M1:=[.gw 0 aj,.bx 42 [.z 0,.z 0,.z 0,.z 0,.z 0,.d (.v (.int .u64 0)),.d (.v (.slice none 0 0))],.bx 108 [.d (.ro 1 (ae (cf l).1)),.d (.v (.bool ((cf l).2)))]]) (M2:=[.gw 0 aj,.bx 42 [.z 0,.z 0,.z 0,.z 0,.z 0,.d (.v (.int .u64 0)),.sl 3 (0)],.bx 108 [.d (.ro 1 (ae (cf l).1)),.d (.v (.bool ((cf l).2)))],.rw 5 1 ([])]) [] [(1,6,5,1)] (by kernel_rfl) (by kernel_rfl)
  refine bq (y:=.tu [.ag [.z 0,.z 0,.z 0,.z 0,.z 0,.d (.v (.int .u64 0)),.sl 1 (0)],.z 1]) (N':=[.gw 0 aj,.rw 5 1 ([])]) ((by rw [A9 (by omega)];rfl)) ((by rw [A9 (by omega)];rfl)) ?_
  exact bp tk mo hK rfl ao [] 2000 [0,3] r (by kernel_rfl) trivial
end Go.Proofs.YtcnpikbbmbombaaGreatDoor
namespace Go.Proofs.YtcnpikbbmbombaaGreatDoor
open Go.RowKit
theorem oR {z:Int} {r:dR} (h:(bG z r).2=false):r.2=false:=by
 obtain ⟨l,b⟩:=r
 cases b with
 | false=>rfl
 | true=>
  have e:j1 l true z:=.inl rfl
  unfold bG eM at h;simp only [if_pos e] at h;cases h
theorem Md {r:dR} (h:(rU r).2=false):r.2=false:=by
 obtain ⟨l,b⟩:=r
 cases b with
 | false=>rfl
 | true=>unfold rU rr fe at h;simp at h
theorem oM {c:Bool} {r s q:dR} (h:(cond c r s).2=false) (hr:r.2=false→q.2=false) (hs:s.2=false→q.2=false):q.2=false:=by cases c;exact hs h;exact hr h
theorem Me {l:List UInt8} (h:(dn l).2=false):(cf l).2=false:=
 have h5:=oM (q:=bu l) h (fun h=>oR (oR h)) id
 have h4:=oM (q:=ej l) h5 Md id
 have h3:=oM (q:=dI l) h4 oR id
 have h2:=oM (q:=dH l) h3 oR id
 have h1:=oM (q:=dG l) h2 oR id
 oM (q:=cf l) h1 oR id
theorem Jc {l:List UInt8} (h:(cf l).2=false):(cf l).1.length+1=l.length:=by
 by_cases e:j1 l false 1
 ·unfold cf bG eM at h;simp only [if_pos e] at h;cases h
 ·unfold cf bG eA;simp only [if_neg e]
  unfold j1 at e;simp;omega
theorem Jd (l:List UInt8):(dn l).1.length≤(cf l).1.length:=
 have h1:(dG l).1.length≤(cf l).1.length:=jK (im _ _) (Nat.le_refl _)
 have h2:(dH l).1.length≤(cf l).1.length:=jK (Nat.le_trans (im _ _) h1) h1
 have h3:(dI l).1.length≤(cf l).1.length:=jK (Nat.le_trans (im _ _) h2) h2
 have h4:(ej l).1.length≤(cf l).1.length:=jK (Nat.le_trans (im _ _) h3) h3
 have h5:(bu l).1.length≤(cf l).1.length:=jK (Nat.le_trans (Ca _) h4) h4
 jK (Nat.le_trans (im _ _) (Nat.le_trans (im _ _) h5)) h5
theorem Bc (l:List UInt8):1≤(bw l).2:=by
 unfold bw;split
 ·exact Nat.le_refl _
 ·cases e:(dn l).2 with
  | true=>exact Nat.le_refl _
  | false=>
   have h1:=Jc (Me e)
   have h2:=Jd l
   show 1≤l.length-(dn l).1.length
   omega
theorem Kt {l:List UInt8} (h:1≤l.length):(bw l).2≤l.length:=by
 unfold bw;split
 ·exact h
 ·cases (dn l).2 with
  | true=>exact h
  | false=>exact Nat.sub_le _ _
def ki (b:List UInt8):List aL:=if h:b=[] then [] else (bw (b.take 258)).1::ki (b.drop (bw (b.take 258)).2)
termination_by b.length
decreasing_by
 have h1:=Bc (b.take 258)
 have h2:0<b.length:=List.length_pos_iff.2 h
 simp;omega
theorem uK:ki []=[]:=by rw [ki,dif_pos rfl]
theorem rP {b:List UInt8} (h:0<b.length):ki b=(bw (b.take 258)).1::ki (b.drop (bw (b.take 258)).2):=by
 rw [ki,dif_neg (List.length_pos_iff.1 h)]
theorem Nl (l:List UInt8) (a:Nat) (ha:a≤l.length):List.drop a (List.take (min l.length (a+258)) (ae l))=ae ((l.drop a).take 258):=by
 rw [← za,← zb]
 congr 1
 rw [List.drop_take]
 rcases Nat.le_total (a+258) l.length with h | h
 ·rw [Nat.min_eq_right h,Nat.add_sub_cancel_left]
 ·rw [Nat.min_eq_left h,List.take_of_length_le (by simp),List.take_of_length_le (by simp;omega)]
def aL.xY (s:aL):List DV:=[.z s.kind,.z s.node,.z s.peer,.z s.n,.z s.bit,.u s.inc,.em 5 1 (ae s.body)]
def eW (l:List aL):List (List DV):=l.map aL.xY
theorem jE (l:List aL):(eW l).length=l.length:=by simp [eW]
set_option maxRecDepth 100000 in
theorem Ku (l:List UInt8) (hl:l.length≤65536) (hG:gE l≤l.length) (hM:bU (gC l)=true):aE Tryz.prog 15 [.d (.ro 1 (ae l))] [.gw 0 aj] (.tu [.ag [.z (gV l 0),.sl 1 (gN l),.sl 2 (gM l)],.sl 3 (ki (l.drop (gE l))).length,.z 0]) ([.gw 0 aj,.rw 60 2 (ah (gL l (gN l))),.rw 3 1 (ints (gH l (gM l))),.rw 42 7 (eW (ki (l.drop (gE l))))]):=by
 refine aE.intro (by kernel_rfl) rfl rfl 58 rfl rfl fun D w0 K bs ac wd hK (ao:bs.m=1) r=>?_
 have aM:=((by simp [ae]):(((ae l).length:Nat):Int)=((l.length:Nat):Int))
 cases h0:(decide ((65536:Int)<((l.length:Nat):Int))) with
 | false=>
  have a7:=of_decide_eq_false h0
  have br:=((by have h:=uh l (by omega);unfold iB at h;simpa using h):aE Tryz.prog 32 [.d (.ro 1 (ae l))] [] (.pt 0 0) [.bx 108 [.d (.ro 1 (ae (l.drop (0)))),.d (.v (.bool ((decide (l.length<(0))))))]])
  have cT:=(vY (l.drop (2+2*gN l+1+gM l)) (decide (l.length<(2+2*gN l+1+gM l))))
  cases h1:(((if (decide (l.length<(2+2*gN l+1+gM l)))=true then 3 else 0):Int) != 0) with
  | false=>
   have bP:=iG h1
   cases h2:(bU (gC l)) with
   | false=>
    exact absurd h2 (by rw [hM];decide)
   | true=>
    refine cQ (todo':=hd Tryz.f15 0) (E':=[(0,.d (.ro 1 (ae l))),(2,.pt 1 0),(6,.pt 2 0),(7,.d (.v (.slice none 0 0))),(8,.n (gE l))]) (M':=[.gw 0 aj,.bx 25 [.z 0,.d (.v (.slice none 0 0)),.d (.v (.slice none 0 0))],.bx 25 [.z (gV l 0),.sl 3 ((gN l)),.sl 4 ((gM l))],.rw 60 2 (ah (gL l (gN l))),.rw 3 1 (ints (gH l (gM l)))]) tk mo hK ao [(1,[(1,.z (((l.length:Nat):Int))),(2,.b false)]),(3,[(1,.mem [] (.pt 0 0) [.bx 108 [.d (.ro 1 (ae (l.drop (0)))),.d (.v (.bool ((decide (l.length<(0))))))]])]),(4,[(1,.mem [2] (.ag [.z (gV l 0),.sl 1 ((gN l)),.sl 2 ((gM l))]) [.bx 108 [.d (.ro 1 (ae (l.drop (2+2*gN l+1+gM l)))),.d (.v (.bool ((decide (l.length<(2+2*gN l+1+gM l))))))],.rw 60 2 (ah (gL l (gN l))),.rw 3 1 (ints (gH l (gM l)))])]),(5,[(1,.mem [2] (.z ((if (decide (l.length<(2+2*gN l+1+gM l)))=true then 3 else 0))) [.bx 108 [.d (.ro 1 (ae (l.drop (2+2*gN l+1+gM l)))),.d (.v (.bool ((decide (l.length<(2+2*gN l+1+gM l))))))]]),(2,.b false),(5,.call [.ag [.z (gV l 0),.d (.ro 2 (ah (gL l (gN l)))),.d (.ro 1 (ints (gH l (gM l))))]] (.v (.bool true)))]),(8,[(1,.z (((l.length:Nat):Int))),(3,.mem [2] (.n ((l.drop (2+2*gN l+1+gM l)).length)) [.bx 108 [.d (.ro 1 (ae (l.drop (2+2*gN l+1+gM l)))),.d (.v (.bool ((decide (l.length<(2+2*gN l+1+gM l))))))]]),(4,.z (((gE l:Nat):Int)))])] 2000 [0,1,5,3,4] [0,2,6,7,8] r (by kernel_rfl) (U aM (U h0 (U br (U (Ki l) (U cT (U h1 (U ((by have k:=qw (gC l) (by show (gL l (gN l)).length≤_;rw [dy];have:=xd l;omega) (by show (gH l (gM l)).length≤_;rw [dz];have:=xe l;omega);rw [h2] at k;exact k):al Tryz.prog 21 [.ag [.z (gV l 0),.d (.ro 2 (ah (gL l (gN l)))),.d (.ro 1 (ints (gH l (gM l))))]] (.v (.bool true))) (U ((jj _):gv (.v (.bool true))) (U (nh (.z (gV l 0))) (U (ft (2)) (U ((by first | rfl | (simp [ae,ah,ints,dy,dz,jE];done) | (simp [ae,ah,ints,dy,dz,jE];omega)):((gN l))=(ah (gL l (gN l)):List (List DV)).length) (U ((by first | exact ou _ | exact ov _):c6 (ah (gL l (gN l)))=ah (gL l (gN l))) (U (ft (1)) (U ((by first | rfl | (simp [ae,ah,ints,dy,dz,jE];done) | (simp [ae,ah,ints,dy,dz,jE];omega)):((gM l))=(ints (gH l (gM l))).length) (U ((by first | exact ou _ | exact ov _):c6 (ints (gH l (gM l)))=ints (gH l (gM l))) (U aM (U (A5 (l.drop (2+2*gN l+1+gM l)) (decide (l.length<(2+2*gN l+1+gM l)))) (U ((wi (by simp;unfold gE at *;omega)):IntKind.i64.wrap ((((l.length:Nat):Int):Int)-(((l.drop (2+2*gN l+1+gM l)).length:Nat):Int))=((gE l:Nat):Int)) trivial)))))))))))))))))) fun ac wd r=>?_
    refine aF.rounds (Φ:=fun (i:Nat) ac wd=>∃ a:Nat,∃ S:List aL,(i≤a∧a≤l.length∧S.length=i∧S++ki (l.drop a)=ki (l.drop (gE l)))∧RB D w0 K 58 bs [(0,.d (.ro 1 (ae l))),(2,.pt 1 0),(6,.pt 2 0),(7,.sl 5 (i)),(8,.n a)] [.gw 0 aj,.bx 25 [.z 0,.d (.v (.slice none 0 0)),.d (.v (.slice none 0 0))],.bx 25 [.z (gV l 0),.sl 3 ((gN l)),.sl 4 ((gM l))],.rw 60 2 (ah (gL l (gN l))),.rw 3 1 (ints (gH l (gM l))),.rw 42 7 (eW S)] ac wd) (l.length) ?_ (Nat.zero_le _) ⟨(gE l),[],⟨Nat.zero_le _,hG,rfl,by simp⟩,r.fG (M1:=[.gw 0 aj,.bx 25 [.z 0,.d (.v (.slice none 0 0)),.d (.v (.slice none 0 0))],.bx 25 [.z (gV l 0),.sl 3 ((gN l)),.sl 4 ((gM l))],.rw 60 2 (ah (gL l (gN l))),.rw 3 1 (ints (gH l (gM l))),.rw 42 7 []]) [(7,42,7)] [] (by kernel_rfl) (by kernel_rfl)⟩
    clear r
    rintro i dw bH ac wd ⟨a,S,aq,r⟩
    have PM:=aq.1
    have dN:=aq.2.1
    have dO:=aq.2.2.1
    cases h3:(decide ((((a:Nat):Int):Int)<((l.length:Nat):Int))) with
    | false=>
     have dP:=of_decide_eq_false h3
     refine bq (y:=.tu [.ag [.z (gV l 0),.sl 1 ((gN l)),.sl 2 ((gM l))],.sl 3 (i),.z 0]) (N':=[.gw 0 aj,.rw 60 2 (ah (gL l (gN l))),.rw 3 1 (ints (gH l (gM l))),.rw 42 7 (eW S)]) ((by first | rfl | (rw [← aq.2.2.2,List.drop_of_length_le (by omega),uK,List.append_nil,aq.2.2.1]))) ((by first | rfl | (rw [← aq.2.2.2,List.drop_of_length_le (by omega),uK,List.append_nil]))) ?_
     exact bp tk mo hK rfl ao [(9,[(2,.z (((l.length:Nat):Int))),(3,.b false)])] 2000 [0,3,4,5] r (by kernel_rfl) (U aM (U h3 trivial))
    | true=>
     have dP:=of_decide_eq_true h3
     have yQ:1≤((l.drop a).take 258).length:=by simp;omega
     have PN:=Bc ((l.drop a).take 258)
     have kZ:=Kt yQ
     have PO:((l.drop a).take 258).length≤l.length-a:=by simp;omega
     have OB:=rP (b:=l.drop a) (by simp;omega)
     exact cQ (todo':=hd Tryz.f15 0) (E':=[(0,.d (.ro 1 (ae l))),(2,.pt 1 0),(6,.pt 2 0),(7,.sl 5 (i+(1))),(8,.n (a+(bw ((l.drop a).take 258)).2))]) (M':=[.gw 0 aj,.bx 25 [.z 0,.d (.v (.slice none 0 0)),.d (.v (.slice none 0 0))],.bx 25 [.z (gV l 0),.sl 3 ((gN l)),.sl 4 ((gM l))],.rw 60 2 (ah (gL l (gN l))),.rw 3 1 (ints (gH l (gM l))),.rw 42 7 (eW S++[[.z ((bw ((l.drop a).take 258)).1.kind),.z ((bw ((l.drop a).take 258)).1.node),.z ((bw ((l.drop a).take 258)).1.peer),.z ((bw ((l.drop a).take 258)).1.n),.z ((bw ((l.drop a).take 258)).1.bit),.u ((bw ((l.drop a).take 258)).1.inc),.em 5 1 (ae (bw ((l.drop a).take 258)).1.body)]])]) tk mo hK ao [(9,[(2,.z (((l.length:Nat):Int))),(3,.b true)]),(10,[(3,.z (((l.length:Nat):Int))),(5,.z (((a+258:Nat):Int))),(6,.z (((min (l.length) (a+258):Nat):Int))),(7,.n2 (min (l.length) (a+258)) (a)),(8,.mem [0] (.tu [.ag [.z ((bw ((l.drop a).take 258)).1.kind),.z ((bw ((l.drop a).take 258)).1.node),.z ((bw ((l.drop a).take 258)).1.peer),.z ((bw ((l.drop a).take 258)).1.n),.z ((bw ((l.drop a).take 258)).1.bit),.u ((bw ((l.drop a).take 258)).1.inc),.sl 1 ((ae (bw ((l.drop a).take 258)).1.body).length)],.n ((bw ((l.drop a).take 258)).2)]) [.gw 0 aj,.rw 5 1 (ae (bw ((l.drop a).take 258)).1.body)])]),(12,[(2,.z (((a+(bw ((l.drop a).take 258)).2:Nat):Int)))])] 2000 [0,1,2,3,4,5] [0,2,6,7,8] r (by kernel_rfl) (U aM (U h3 (U aM (U ((wi (by omega)):IntKind.i64.wrap ((((a:Nat):Int):Int)+258)=((a+258:Nat):Int)) (U ((by omega):(min (((l.length:Nat):Int)) (((a+258:Nat):Int)):Int)=((min (l.length) (a+258):Nat):Int)) (U (aC ((a:Nat):Int)) (U (aC ((min (l.length) (a+258):Nat):Int)) (U ((by first | omega | decide | (simp;done) | (simp;omega)):(a)≤(min (l.length) (a+258))) (U ((by simp [ae];omega):(min (l.length) (a+258))≤(ae l).length) (U ((by have h:=F7 ((l.drop a).take 258) (by simp;omega);rw [Nl l a (by omega)];exact h):aE Tryz.prog 36 [.d (.ro 1 (List.drop (a) (List.take (min (l.length) (a+258)) (ae l))))] [.gw 0 aj] (.tu [.ag [.z ((bw ((l.drop a).take 258)).1.kind),.z ((bw ((l.drop a).take 258)).1.node),.z ((bw ((l.drop a).take 258)).1.peer),.z ((bw ((l.drop a).take 258)).1.n),.z ((bw ((l.drop a).take 258)).1.bit),.u ((bw ((l.drop a).take 258)).1.inc),.sl 1 ((ae (bw ((l.drop a).take 258)).1.body).length)],.n ((bw ((l.drop a).take 258)).2)]) [.gw 0 aj,.rw 5 1 (ae (bw ((l.drop a).take 258)).1.body)]) (U (ft ((ae (bw ((l.drop a).take 258)).1.body).length)) (U ((by first | rfl | (simp [ae,ah,ints,dy,dz,jE];done) | (simp [ae,ah,ints,dy,dz,jE];omega)):(i)=(eW S:List (List DV)).length) (U ((by first | rfl | (simp [ae,ah,ints,dy,dz,jE];done) | (simp [ae,ah,ints,dy,dz,jE];omega)):(1)=([[.z ((bw ((l.drop a).take 258)).1.kind),.z ((bw ((l.drop a).take 258)).1.node),.z ((bw ((l.drop a).take 258)).1.peer),.z ((bw ((l.drop a).take 258)).1.n),.z ((bw ((l.drop a).take 258)).1.bit),.u ((bw ((l.drop a).take 258)).1.inc),.em 5 1 (ae (bw ((l.drop a).take 258)).1.body)]]:List (List DV)).length) (U ((by first | omega | (simp [ae,ah,ints,dy,dz,jE];done) | (simp [ae,ah,ints,dy,dz,jE];omega)):(2*((i)+(1))+192)*72≤281474976710656) (U ((by first | omega | (simp [ae,ah,ints,dy,dz,jE];done) | (simp [ae,ah,ints,dy,dz,jE];omega)):(i)+(1)<4611686018427387904) (U ((by simp [aD,AV.one,bf,ae,ah,ints,steps,strs]):aD ([[.z ((bw ((l.drop a).take 258)).1.kind),.z ((bw ((l.drop a).take 258)).1.node),.z ((bw ((l.drop a).take 258)).1.peer),.z ((bw ((l.drop a).take 258)).1.n),.z ((bw ((l.drop a).take 258)).1.bit),.u ((bw ((l.drop a).take 258)).1.inc),.em 5 1 (ae (bw ((l.drop a).take 258)).1.body)]])) (U ((wi (by omega)):IntKind.i64.wrap ((((a:Nat):Int):Int)+(((bw ((l.drop a).take 258)).2:Nat):Int))=((a+(bw ((l.drop a).take 258)).2:Nat):Int)) trivial))))))))))))))))) fun ac wd r=>bH (by omega) ac wd ⟨(a+(bw ((l.drop a).take 258)).2),(S++[(bw ((l.drop a).take 258)).1]),⟨by omega,by omega,by simp;omega,by rw [← aq.2.2.2,OB,List.drop_drop];simp⟩,r.cast rfl (by simp [eW,aL.xY])⟩
  | true=>
   have bP:¬ _=_:=bne_iff_ne.1 h1
   exact absurd (if_neg (by rw [decide_eq_true_eq];unfold gE at hG;omega)) bP
 | true=>
  have a7:=of_decide_eq_true h0
  exact absurd a7 (by omega)
end Go.Proofs.YtcnpikbbmbombaaGreatDoor
namespace Go.Proofs.YtcnpikbbmbombaaGreatDoor
open Go.RowKit
theorem vg (w:List UInt8) {most:Nat} (h9:9≤most):(aR w most).1≤most:=by
 unfold aR
 split
 ·exact Nat.zero_le _
 ·cases e:iT most w 0 with
  | none=>exact Nat.zero_le _
  | some n=>exact A8 (Nat.zero_le _) h9 e
abbrev Ws:=List (List UInt8)×Bool
def pI (s:Ws):List ai:=[.bx 87 [.d (.ro 1 (strs s.1))],.bx 4 [.d (.v (.bool s.2))]]
def pJ (s:Ws):List ai:=[.bx 87 [.d (.ro 1 (strs s.1))],.bx 4 [.d (.v (.bool s.2))],.bx 79 [.fn 83 [.pt 0 0,.pt 1 0]]]
def b4 (s:Ws):List UInt8:=s.1.headD []
def bE (s:Ws):Ws:=(s.1.tail,s.2&&!s.1.isEmpty)
def pN (b:Bool) (most:Nat) (s:Ws):Nat:=cond b (aR (b4 s) most).1 0
def pS (b:Bool) (most:Nat) (s:Ws):Ws:=cond b ((bE s).1,(bE s).2&&(aR (b4 s) most).2) s
theorem sS (b:Bool) (s:Ws) {most:Nat} (h9:9≤most):pN b most s≤most:=by cases b;exact Nat.zero_le _;exact vg _ h9
def gj (s:Ws):Prop:=∀ w ∈ s.1,w.length≤1048576
theorem gj.w {s:Ws} (h:gj s):(b4 s).length≤1048576:=by
 obtain ⟨l,b⟩:=s
 cases l with
 | nil=>exact Nat.zero_le _
 | cons x r=>exact h x (by simp)
theorem gj.s {s:Ws} (h:gj s):gj (bE s):=fun w hw=>h w (List.mem_of_mem_tail hw)
theorem gj.p {s:Ws} (h:gj s) (b:Bool) (m:Nat):gj (pS b m s):=by cases b;exact h;exact h.s
set_option maxRecDepth 100000 in
theorem HB (g:Bool):aE Tryz.prog 83 [.pt 0 0,.pt 1 0] [.bx 87 [.d (.ro 1 (strs (([]:List (List UInt8)),g).1))],.bx 4 [.d (.v (.bool ((([]:List (List UInt8)),g).2)))]] (.d (.v (.string ⟨(b4 (([]:List (List UInt8)),g)).toArray⟩))) (pI (bE (([]:List (List UInt8)),g))):=by
 refine aE.intro (by kernel_rfl) rfl rfl 13 rfl rfl fun D w0 K bs ac wd hK (ao:bs.m=2) r=>?_
 refine bq (y:=.d (.v (.string .empty))) (N':=[.bx 87 [.d (.ro 1 (strs (([]:List (List UInt8)),g).1))],.bx 4 [.d (.v (.bool false))]]) (rfl) ((by simp [bE,pI,strs])) ?_
 exact bp tk mo hK rfl ao [(1,[(1,.z (0))])] 2000 [0,1] r (by kernel_rfl) (U ((by first | rfl | simp [strs]):(((strs (([]:List (List UInt8)),g).1).length:Nat):Int)=0) trivial)
set_option maxRecDepth 100000 in
theorem F8 (x:List UInt8) (q:List (List UInt8)) (g:Bool):aE Tryz.prog 83 [.pt 0 0,.pt 1 0] [.bx 87 [.d (.ro 1 (strs ((x::q),g).1))],.bx 4 [.d (.v (.bool (((x::q),g).2)))]] (.d (.v (.string ⟨(b4 ((x::q),g)).toArray⟩))) (pI (bE ((x::q),g))):=by
 refine aE.intro (by kernel_rfl) rfl rfl 13 rfl rfl fun D w0 K bs ac wd hK (ao:bs.m=2) r=>?_
 have aM:=((by first | rfl | simp [strs]):(((strs ((x::q),g).1).length:Nat):Int)=((q.length+1:Nat):Int))
 cases h0:((((q.length+1:Nat):Int):Int)==0) with
 | false=>
  have a7:=ne_of_beq_false h0
  refine bq (y:=.d (.v (.string ⟨x.toArray⟩))) (N':=[.bx 87 [.d (.ro 1 (List.drop (1) (strs ((x::q),g).1)))],.bx 4 [.d (.v (.bool (((x::q),g).2)))]]) (rfl) ((by simp [bE,pI,strs])) ?_
  exact bp tk mo hK rfl ao [(1,[(1,.z (((q.length+1:Nat):Int))),(2,.b false)]),(4,[(1,.ix (0) [.v (.string ⟨x.toArray⟩)])]),(5,[(1,.n2 (0) (1))])] 2000 [0,1] r (by kernel_rfl) (U aM (U h0 (U (rfl:(0)=((0:Nat):Int)) (U (rfl:(strs ((x::q),g).1)[0]?=some [.v (.string ⟨x.toArray⟩)]) (U (rfl:(1:Int)=((1:Nat):Int)) (U ((by simp [strs]):(1)≤(strs ((x::q),g).1:List (List DV)).length) trivial))))))
 | true=>
  have a7:=eq_of_beq h0
  exact absurd a7 (by omega)
theorem oS (s:Ws):aE Tryz.prog 83 [.pt 0 0,.pt 1 0] (pI s) (.d (.v (.string ⟨(b4 s).toArray⟩))) (pI (bE s)):=by
 obtain ⟨l,g⟩:=s
 cases l with
 | nil=>exact HB g
 | cons x r=>exact F8 x r g
set_option maxRecDepth 100000 in
theorem HC (most:Nat) (s:Ws) (h9:9≤most) (hm:most<18446744073709551616) (hs:gj s):aE Tryz.prog 84 [.d (.v (.bool true)),.u most,.pt 2 0,.pt 1 0] [.bx 87 [.d (.ro 1 (strs s.1))],.bx 4 [.d (.v (.bool (s.2)))],.bx 79 [.fn 83 [.pt 0 0,.pt 1 0]]] (.u (pN true most s)) (pJ (pS true most s)):=by
 refine aE.intro (by kernel_rfl) rfl rfl 23 rfl rfl fun D w0 K bs ac wd hK (ao:bs.m=3) r=>?_
 cases h0:((aR (b4 s) most).2) with
 | false=>
  refine bq (y:=.u ((aR (b4 s) most).1)) (N':=[.bx 87 [.d (.ro 1 (strs (bE s).1))],.bx 4 [.d (.v (.bool (((bE s).2&&false))))],.bx 79 [.fn 83 [.pt 0 0,.pt 1 0]]]) (rfl) ((by unfold pJ pS;rw [h0];rfl)) ?_
  exact bp tk mo hK rfl ao [(3,[(1,.mem [0,1] (.d (.v (.string ⟨(b4 s).toArray⟩))) [.bx 87 [.d (.ro 1 (strs (bE s).1))],.bx 4 [.d (.v (.bool ((bE s).2)))]]),(3,.au (.tu [.u ((aR (b4 s) most).1),.v (.bool false)]))]),(4,[(2,.may (bE s).2 (.n 0)),(3,.res (.v (.bool ((bE s).2&&false))))])] 2000 [0,1,2] r (by kernel_rfl) (U (oS s) (U ((by have k:=r9 (b4 s) most (Nat.le_trans hs.w (by decide)) h9 hm;rw [h0] at k;exact k):al Tryz.prog 82 [.d (.v (.string ⟨(b4 s).toArray⟩)),.u most] (.tu [.u ((aR (b4 s) most).1),.v (.bool false)])) (U (py _:(fT (Value.bool (bE s).2)==some true)=(bE s).2) (U (fun hc=>trivial:(bE s).2=true→True) (U (o1 _ _:∃ b0:Bool,(Value.bool (bE s).2)=.bool b0∧(bif b0 then (bif (bE s).2 then Value.bool false else undef) else Value.bool false)=.bool ((bE s).2&&false)) trivial)))))
 | true=>
  refine bq (y:=.u ((aR (b4 s) most).1)) (N':=[.bx 87 [.d (.ro 1 (strs (bE s).1))],.bx 4 [.d (.v (.bool (((bE s).2&&true))))],.bx 79 [.fn 83 [.pt 0 0,.pt 1 0]]]) (rfl) ((by unfold pJ pS;rw [h0];rfl)) ?_
  exact bp tk mo hK rfl ao [(3,[(1,.mem [0,1] (.d (.v (.string ⟨(b4 s).toArray⟩))) [.bx 87 [.d (.ro 1 (strs (bE s).1))],.bx 4 [.d (.v (.bool ((bE s).2)))]]),(3,.au (.tu [.u ((aR (b4 s) most).1),.v (.bool true)]))]),(4,[(2,.may (bE s).2 (.n 0)),(3,.res (.v (.bool ((bE s).2&&true))))])] 2000 [0,1,2] r (by kernel_rfl) (U (oS s) (U ((by have k:=r9 (b4 s) most (Nat.le_trans hs.w (by decide)) h9 hm;rw [h0] at k;exact k):al Tryz.prog 82 [.d (.v (.string ⟨(b4 s).toArray⟩)),.u most] (.tu [.u ((aR (b4 s) most).1),.v (.bool true)])) (U (py _:(fT (Value.bool (bE s).2)==some true)=(bE s).2) (U (fun hc=>trivial:(bE s).2=true→True) (U (o1 _ _:∃ b0:Bool,(Value.bool (bE s).2)=.bool b0∧(bif b0 then (bif (bE s).2 then Value.bool true else undef) else Value.bool false)=.bool ((bE s).2&&true)) trivial)))))
set_option maxRecDepth 100000 in
theorem F9 (most:Nat) (s:Ws) (h9:9≤most) (hm:most<18446744073709551616) (hs:gj s):aE Tryz.prog 84 [.d (.v (.bool false)),.u most,.pt 2 0,.pt 1 0] [.bx 87 [.d (.ro 1 (strs s.1))],.bx 4 [.d (.v (.bool (s.2)))],.bx 79 [.fn 83 [.pt 0 0,.pt 1 0]]] (.u (pN false most s)) (pJ (pS false most s)):=by
 refine aE.intro (by kernel_rfl) rfl rfl 23 rfl rfl fun D w0 K bs ac wd hK (ao:bs.m=3) r=>?_
 refine bq (y:=.d (.v (.int .u64 0))) (N':=[.bx 87 [.d (.ro 1 (strs s.1))],.bx 4 [.d (.v (.bool (s.2)))],.bx 79 [.fn 83 [.pt 0 0,.pt 1 0]]]) (rfl) (rfl) ?_
 exact bp tk mo hK rfl ao [] 2000 [0,1,2] r (by kernel_rfl) trivial
theorem ql (b:Bool) (most:Nat) (s:Ws) (h9:9≤most) (hm:most<18446744073709551616) (hs:gj s):aE Tryz.prog 84 [.d (.v (.bool b)),.u most,.pt 2 0,.pt 1 0] (pJ s) (.u (pN b most s)) (pJ (pS b most s)):=by
 cases b with
 | true=>exact HC most s h9 hm hs
 | false=>exact F9 most s h9 hm hs
def qz (x:List UInt8):Nat:=eV.findIdx fun y=>y.word==x
theorem vi {k:Nat} (h:k<14):eV[k]?=some (af k):=kG (p:=fun k=>eV[k]?=some (af k)) rfl rfl rfl rfl rfl rfl rfl rfl rfl rfl rfl rfl rfl rfl h
theorem Ga {x:List UInt8} {k:Nat} (h:k<14) (hn:∀ j,j<k→(af j).word≠x) (e:(af k).word=x):qz x=k:=by
 have hk:=vi h
 obtain ⟨h1,h2⟩:=List.getElem?_eq_some_iff.1 hk
 unfold qz
 rw [List.findIdx_eq h1]
 refine ⟨by rw [h2];simpa using e,fun j hj=>?_⟩
 obtain ⟨h3,h4⟩:=List.getElem?_eq_some_iff.1 (vi (show j<14 by omega))
 rw [h4];simpa using hn j hj
theorem HD {x:List UInt8} (hn:∀ j,j<14→(af j).word≠x):qz x=14:=by
 unfold qz
 refine (List.findIdx_eq_length (xs:=eV)).2 fun y hy=>?_
 obtain ⟨j,hj,e⟩:=List.getElem_of_mem hy
 obtain ⟨h3,h4⟩:=List.getElem?_eq_some_iff.1 (vi (show j<14 from hj))
 rw [← e,h4];simpa using hn j hj
def pK (l:List UInt8):Nat:=qz (b4 (aW 32 l,true))
def gJ (l:List UInt8):Ws:=((aW 32 l).tail,true)
def eQ (l:List UInt8):Ws:=pS (af (pK l)).node 255 (gJ l)
def eR (l:List UInt8):Ws:=pS (af (pK l)).peer 255 (eQ l)
def eT (l:List UInt8):Ws:=pS (af (pK l)).n 255 (eR l)
def fN (l:List UInt8):Ws:=pS (af (pK l)).bit 65535 (eT l)
def bn (l:List UInt8):Ws:=pS (af (pK l)).inc 18446744073709551615 (fN l)
def tN (l:List UInt8):Ws:=cond (af (pK l)).body ((bE (bn l)).1,(bE (bn l)).2&&(fD (b4 (bn l))).2) (bn l)
def pB (l:List UInt8):List UInt8:=cond (af (pK l)).body (fD (b4 (bn l))).1 []
def pg (l:List UInt8):aL:=⟨pK l,pN (af (pK l)).node 255 (gJ l),pN (af (pK l)).peer 255 (eQ l),pN (af (pK l)).n 255 (eR l),pN (af (pK l)).bit 65535 (eT l),pN (af (pK l)).inc 18446744073709551615 (fN l),pB l⟩
def kU (l:List UInt8):Bool:=decide (pK l<14)&&((tN l).2&&(tN l).1.isEmpty)
def kv (l:List UInt8):aL×Bool:=cond (kU l) (pg l,true) (gZ,false)
def pL (q:aL×Bool):AV:=.tu [.ag [.z q.1.kind,.z q.1.node,.z q.1.peer,.z q.1.n,.z q.1.bit,.u q.1.inc,.sl 1 (ae q.1.body).length],.d (.v (.bool q.2))]
def ph (q:aL×Bool):List ai:=[.gw 0 aj,.rw 5 1 (ae q.1.body)]
theorem sB {l:List UInt8} (h:kU l=false):kv l=(gZ,false):=by unfold kv;rw [h];rfl
theorem sq {l:List UInt8} (h:kU l=true):kv l=(pg l,true):=by unfold kv;rw [h];rfl
theorem oD {c:UInt8}:∀ {s w:List UInt8},w ∈ aW c s→w.length≤s.length
 | [],w,h=>by simp [aW] at h;subst h;exact Nat.le_refl _
 | x::r,w,h=>by
  unfold aW at h;split at h
  ·rcases List.mem_cons.1 h with rfl | h
   ·exact Nat.zero_le _
   ·exact Nat.le_succ_of_le (oD h)
  ·cases e:aW c r with
   | nil=>rw [e] at h;simp at h;subst h;simp
   | cons y ys=>
    rw [e] at h
    rcases List.mem_cons.1 h with rfl | h
    ·exact Nat.succ_le_succ (oD (by rw [e];simp))
    ·exact Nat.le_succ_of_le (oD (by rw [e];exact List.mem_cons_of_mem _ h))
theorem AA (c:UInt8) (l:List UInt8):(strs (aW c l))[0]?=some [.v (.string ⟨(b4 (aW c l,true)).toArray⟩)]:=by
 have h:=ic c l
 cases e:aW c l with
 | nil=>rw [e] at h;simp at h
 | cons x r=>rfl
theorem drop_one (c:UInt8) (l:List UInt8):List.drop 1 (strs (aW c l))=strs (aW c l).tail:=by unfold strs;rw [← List.map_drop,List.drop_one]
theorem Kv {l:List UInt8} (h:l.length≤1048576):gj (gJ l):=fun x hx=>Nat.le_trans (oD (List.mem_of_mem_tail hx)) h
theorem AB {l:List (List UInt8)}:decide ((0:Int)<(((strs l).length:Nat):Int))=!l.isEmpty:=by cases l with
 | nil=>rfl
 | cons x r=>simp [strs]
theorem qm {l:List UInt8} (h:pK l<14) (b:(af (pK l)).body=true):kU l=(((bE (bn l)).2&&(fD (b4 (bn l))).2)&&(bE (bn l)).1.isEmpty):=by unfold kU tN;rw [b,decide_eq_true h];rfl
theorem sC {l:List UInt8} (h:pK l<14) (b:(af (pK l)).body=false):kU l=((bn l).2&&(bn l).1.isEmpty):=by unfold kU tN;rw [b,decide_eq_true h];rfl
theorem Cf {l:List (List UInt8)} (h:decide ((0:Int)<(((strs l).length:Nat):Int))=true):l.isEmpty=false:=by rw [AB] at h;simpa using h
theorem Cg {l:List (List UInt8)} (h:decide ((0:Int)<(((strs l).length:Nat):Int))=false):l.isEmpty=true:=by rw [AB] at h;simpa using h
theorem sT {z:Int} (h:0≤z) (h2:z≤65535):IntKind.i64.wrap z=z:=wi (by omega)
set_option maxRecDepth 100000 in
theorem tT (line:List UInt8) (hl:line.length≤1048576):aE Tryz.prog 48 [.d (.v (.string ⟨line.toArray⟩))] [.gw 0 aj] (pL (kv line)) (ph (kv line)):=by
 refine aE.intro (by kernel_rfl) rfl rfl 93 rfl rfl fun D w0 K bs ac wd hK (ao:bs.m=1) r=>?_
 refine cQ (todo':=hd Tryz.f48 0) (E':=[(0,.d (.v (.string ⟨line.toArray⟩))),(2,.pt 1 0),(4,.pt 2 0),(5,.n 0)]) (M':=[.gw 0 aj,.bx 42 [.z 0,.z 0,.z 0,.z 0,.z 0,.d (.v (.int .u64 0)),.d (.v (.slice none 0 0))],.bx 87 [.d (.ro 1 (strs (aW 32 line)))]]) tk mo hK ao [(1,[(1,.au (.ro 1 (strs (aW 32 line))))])] 2000 [0,1,2] [0,2,4,5] r (by kernel_rfl) (U (sk 32 line hl) trivial) fun ac wd r=>?_
 refine aF.rounds (Φ:=fun (i:Nat) ac wd=>(∀ j,j<i→(af j).word≠(b4 (aW 32 line,true)))∧RB D w0 K 93 bs [(0,.d (.v (.string ⟨line.toArray⟩))),(2,.pt 1 0),(4,.pt 2 0),(5,.n i)] [.gw 0 aj,.bx 42 [.z 0,.z 0,.z 0,.z 0,.z 0,.d (.v (.int .u64 0)),.d (.v (.slice none 0 0))],.bx 87 [.d (.ro 1 (strs (aW 32 line)))]] ac wd) (14) ?_ (Nat.zero_le _) ⟨(fun j hj=>absurd hj (Nat.not_lt_zero _)),r⟩
 clear r
 rintro i dw bH ac wd ⟨aq,r⟩
 cases h0:(decide ((((i:Nat):Int):Int)<14)) with
 | false=>
  have a7:=of_decide_eq_false h0
  cases h1:((((i:Nat):Int):Int)==14) with
  | false=>
   have bP:=ne_of_beq_false h1
   exact absurd (show ((i:Nat):Int)=14 by omega) bP
  | true=>
   have bP:=eq_of_beq h1
   refine b6 (todo':=aft Tryz.f48 5) (E':=[(2,.pt 1 0),(4,.pt 2 0),(5,.n i),(30,.d (.v (.bool true)))]) (M':=[.gw 0 aj,.bx 42 [.z 0,.z 0,.z 0,.z 0,.z 0,.d (.v (.int .u64 0)),.d (.v (.slice none 0 0))],.bx 87 [.d (.ro 1 (strs (aW 32 line)))]]) tk mo hK ao [(3,[(1,.b false)]),(5,[(1,.b true)])] 8 [0,1,2] [2,4,5,30] r (by kernel_rfl) (U h0 (U h1 trivial)) fun ac wd r=>?_
   have hk:pK line=14:=HD fun j hj=>aq j (by omega)
   refine b6 (todo':=aft Tryz.f48 6) (E':=[(2,.pt 1 0),(4,.pt 2 0),(5,.n i),(3,.d (.v (.bool false)))]) (M':=[.gw 0 aj,.bx 42 [.z 0,.z 0,.z 0,.z 0,.z 0,.d (.v (.int .u64 0)),.d (.v (.slice none 0 0))],.bx 87 [.d (.ro 1 (strs (aW 32 line)))]]) tk mo hK ao [] 3 [0,1,2] [2,4,5,3] r (by kernel_rfl) trivial fun ac wd r=>?_
   have r:=r.fG (E1:=[(2,.pt 1 0),(4,.pt 2 0),(5,.n i),(3,.d (.v (.bool false)))]) (M1:=[.gw 0 aj,.bx 42 [.z 0,.z 0,.z 0,.z 0,.z 0,.d (.v (.int .u64 0)),.d (.v (.slice none 0 0))],.bx 87 [.d (.ro 1 (strs (aW 32 line)))]]) (M2:=[.gw 0 aj,.bx 42 [.z 0,.z 0,.z 0,.z 0,.z 0,.d (.v (.int .u64 0)),.sl 3 (0)],.bx 87 [.d (.ro 1 (strs (aW 32 line)))],.rw 5 1 ([])]) [] [(1,6,5,1)] (by kernel_rfl) (by kernel_rfl)
   refine bq (y:=.tu [.ag [.z 0,.z 0,.z 0,.z 0,.z 0,.d (.v (.int .u64 0)),.sl 1 (0)],.d (.v (.bool false))]) (N':=[.gw 0 aj,.rw 5 1 ([])]) ((by rw [sB (by unfold kU;rw [decide_eq_false (by omega)];rfl)];rfl)) ((by rw [sB (by unfold kU;rw [decide_eq_false (by omega)];rfl)];rfl)) ?_
   exact bp tk mo hK rfl ao [] 2000 [0,3] r (by kernel_rfl) trivial
 | true=>
  have a7:=of_decide_eq_true h0
  have aM:=(np (by omega):List.take 7 (List.drop ((i)*7) (aj:List DV))=([.v (.string ⟨((af i).word).toArray⟩),.v (.bool ((af i).node)),.v (.bool ((af i).peer)),.v (.bool ((af i).n)),.v (.bool ((af i).bit)),.v (.bool ((af i).inc)),.v (.bool ((af i).body))]:List DV))
  have br:=(AA 32 line:(strs (aW 32 line))[0]?=some [.v (.string ⟨(b4 (aW 32 line,true)).toArray⟩)])
  cases h2:((af i).word==(b4 (aW 32 line,true))) with
  | false=>
   exact cQ (todo':=hd Tryz.f48 0) tk mo hK ao [(3,[(1,.b true),(4,.ix (i) [.v (.string ⟨((af i).word).toArray⟩),.v (.bool ((af i).node)),.v (.bool ((af i).peer)),.v (.bool ((af i).n)),.v (.bool ((af i).bit)),.v (.bool ((af i).inc)),.v (.bool ((af i).body))]),(8,.ix (0) [.v (.string ⟨(b4 (aW 32 line,true)).toArray⟩)]),(10,.b true)]),(4,[(1,.z (((i+1:Nat):Int)))])] 2000 [0,1,2] [0,2,4,5] r (by kernel_rfl) (U h0 (U (aC ((i:Nat):Int)) (U ((by omega):(i)<14) (U aM (U (rfl:(0)=((0:Nat):Int)) (U br (U ((by simpa [bne] using h2):((af i).word != (b4 (aW 32 line,true)))=true) (U ((wi (by omega)):IntKind.i64.wrap ((((i:Nat):Int):Int)+1)=((i+1:Nat):Int)) trivial)))))))) fun ac wd r=>bH (by omega) ac wd ⟨(fun j hj=>by rcases Nat.lt_succ_iff_lt_or_eq.1 hj with h | rfl;exact aq j h;simpa using h2),r⟩
  | true=>
   have cT:=((by simpa [bne] using h2):((af i).word != (b4 (aW 32 line,true)))=false)
   cases h3:((((i:Nat):Int):Int)==14) with
   | false=>
    have dP:=ne_of_beq_false h3
    refine b6 (todo':=aft Tryz.f48 5) (E':=[(2,.pt 1 0),(4,.pt 2 0),(5,.n i),(30,.d (.v (.bool false)))]) (M':=[.gw 0 aj,.bx 42 [.z 0,.z 0,.z 0,.z 0,.z 0,.d (.v (.int .u64 0)),.d (.v (.slice none 0 0))],.bx 87 [.d (.ro 1 (strs (aW 32 line)))]]) tk mo hK ao [(3,[(1,.b true),(4,.ix (i) [.v (.string ⟨((af i).word).toArray⟩),.v (.bool ((af i).node)),.v (.bool ((af i).peer)),.v (.bool ((af i).n)),.v (.bool ((af i).bit)),.v (.bool ((af i).inc)),.v (.bool ((af i).body))]),(8,.ix (0) [.v (.string ⟨(b4 (aW 32 line,true)).toArray⟩)]),(10,.b false)]),(5,[(1,.b false)])] 8 [0,1,2] [2,4,5,30] r (by kernel_rfl) (U h0 (U (aC ((i:Nat):Int)) (U ((by omega):(i)<14) (U aM (U (rfl:(0)=((0:Nat):Int)) (U br (U cT (U h3 trivial)))))))) fun ac wd r=>?_
    have hk:pK line=i:=Ga (by omega) (fun j hj=>aq j hj) (by simpa using h2)
    subst hk
    have yR:=Kv hl
    have ng:gj (eQ line):=yR.p _ _
    have kX:gj (eR line):=ng.p _ _
    have DJ:gj (eT line):=kX.p _ _
    have DK:gj (fN line):=DJ.p _ _
    have PQ:gj (bn line):=DK.p _ _
    refine b6 (todo':=aft Tryz.f48 12) (E':=[(2,.pt 1 0),(4,.pt 2 0),(6,.pt 3 0),(7,.pt 4 0),(8,.pt 5 0),(9,.fn 84 [.pt 5 0,.pt 4 0]),(10,.pt 6 0)]) (M':=[.gw 0 aj,.bx 42 [.z 0,.z 0,.z 0,.z 0,.z 0,.d (.v (.int .u64 0)),.d (.v (.slice none 0 0))],.bx 87 [.d (.ro 1 (List.drop (1) (strs (aW 32 line))))],.bx 94 [.d (.v (.string ⟨((af (pK line)).word).toArray⟩)),.d (.v (.bool ((af (pK line)).node))),.d (.v (.bool ((af (pK line)).peer))),.d (.v (.bool ((af (pK line)).n))),.d (.v (.bool ((af (pK line)).bit))),.d (.v (.bool ((af (pK line)).inc))),.d (.v (.bool ((af (pK line)).body)))],.bx 4 [.d (.v (.bool true))],.bx 79 [.fn 83 [.pt 2 0,.pt 4 0]],.bx 42 [.n (pK line),.z 0,.z 0,.z 0,.z 0,.d (.v (.int .u64 0)),.d (.v (.slice none 0 0))]]) tk mo hK ao [(7,[(1,.ix (pK line) [.v (.string ⟨((af (pK line)).word).toArray⟩),.v (.bool ((af (pK line)).node)),.v (.bool ((af (pK line)).peer)),.v (.bool ((af (pK line)).n)),.v (.bool ((af (pK line)).bit)),.v (.bool ((af (pK line)).inc)),.v (.bool ((af (pK line)).body))])]),(8,[(1,.n2 (0) (1))])] 14 [0,1,2,3,4,5,6] [2,4,6,7,8,9,10] r (by kernel_rfl) (U (aC ((pK line:Nat):Int)) (U ((by omega):(pK line)<14) (U (np (by omega):List.take 7 (List.drop ((pK line)*7) (aj:List DV))=([.v (.string ⟨((af (pK line)).word).toArray⟩),.v (.bool ((af (pK line)).node)),.v (.bool ((af (pK line)).peer)),.v (.bool ((af (pK line)).n)),.v (.bool ((af (pK line)).bit)),.v (.bool ((af (pK line)).inc)),.v (.bool ((af (pK line)).body))]:List DV)) (U (rfl:(1:Int)=((1:Nat):Int)) (U ((by have:=ic 32 line;simp [strs];omega):(1)≤(strs (aW 32 line):List (List DV)).length) trivial))))) fun ac wd r=>?_
    have r:=r.fG (E1:=[(2,.pt 1 0),(4,.pt 2 0),(6,.pt 3 0),(7,.pt 4 0),(8,.pt 5 0),(9,.fn 84 [.pt 5 0,.pt 4 0]),(10,.pt 6 0)]) (M1:=[.gw 0 aj,.bx 42 [.z 0,.z 0,.z 0,.z 0,.z 0,.d (.v (.int .u64 0)),.d (.v (.slice none 0 0))],.bx 87 [.d (.ro 1 (List.drop (1) (strs (aW 32 line))))],.bx 94 [.d (.v (.string ⟨((af (pK line)).word).toArray⟩)),.d (.v (.bool ((af (pK line)).node))),.d (.v (.bool ((af (pK line)).peer))),.d (.v (.bool ((af (pK line)).n))),.d (.v (.bool ((af (pK line)).bit))),.d (.v (.bool ((af (pK line)).inc))),.d (.v (.bool ((af (pK line)).body)))],.bx 4 [.d (.v (.bool true))],.bx 79 [.fn 83 [.pt 2 0,.pt 4 0]],.bx 42 [.n (pK line),.z 0,.z 0,.z 0,.z 0,.d (.v (.int .u64 0)),.d (.v (.slice none 0 0))]]) (M2:=[.gw 0 aj,.bx 42 [.z 0,.z 0,.z 0,.z 0,.z 0,.d (.v (.int .u64 0)),.d (.v (.slice none 0 0))],.bx 87 [.d (.ro 1 (List.drop (1) (strs (aW 32 line))))],.bx 94 [.d (.v (.string ⟨((af (pK line)).word).toArray⟩)),.d (.v (.bool ((af (pK line)).node))),.d (.v (.bool ((af (pK line)).peer))),.d (.v (.bool ((af (pK line)).n))),.d (.v (.bool ((af (pK line)).bit))),.d (.v (.bool ((af (pK line)).inc))),.d (.v (.bool ((af (pK line)).body)))],.bx 4 [.d (.v (.bool true))],.bx 79 [.fn 83 [.pt 2 0,.pt 4 0]],.bx 42 [.n (pK line),.z 0,.z 0,.z 0,.z 0,.d (.v (.int .u64 0)),.sl 7 (0)],.rw 5 1 ([])]) [] [(6,6,5,1)] (by kernel_rfl) (by kernel_rfl)
    refine b6 (todo':=aft Tryz.f48 18) (E':=[(2,.pt 1 0),(4,.pt 2 0),(7,.pt 4 0),(8,.pt 5 0),(10,.pt 6 0),(71,.d (.v (.bool ((af (pK line)).body))))]) (M':=[.gw 0 aj,.bx 42 [.z 0,.z 0,.z 0,.z 0,.z 0,.d (.v (.int .u64 0)),.d (.v (.slice none 0 0))],.bx 87 [.d (.ro 1 (strs (bn line).1))],.bx 94 [.d (.v (.string ⟨((af (pK line)).word).toArray⟩)),.d (.v (.bool ((af (pK line)).node))),.d (.v (.bool ((af (pK line)).peer))),.d (.v (.bool ((af (pK line)).n))),.d (.v (.bool ((af (pK line)).bit))),.d (.v (.bool ((af (pK line)).inc))),.d (.v (.bool ((af (pK line)).body)))],.bx 4 [.d (.v (.bool ((bn line).2)))],.bx 79 [.fn 83 [.pt 2 0,.pt 4 0]],.bx 42 [.n (pK line),.n (pN (af (pK line)).node 255 (gJ line)),.n (pN (af (pK line)).peer 255 (eQ line)),.n (pN (af (pK line)).n 255 (eR line)),.n (pN (af (pK line)).bit 65535 (eT line)),.u (pN (af (pK line)).inc 18446744073709551615 (fN line)),.sl 7 (0)],.rw 5 1 ([])]) tk mo hK ao [(13,[(3,.mem [2,4,5] (.u (pN (af (pK line)).node 255 (gJ line))) [.bx 87 [.d (.ro 1 (strs (eQ line).1))],.bx 4 [.d (.v (.bool ((eQ line).2)))],.bx 79 [.fn 83 [.pt 0 0,.pt 1 0]]]),(4,.z (((pN (af (pK line)).node 255 (gJ line):Nat):Int)))]),(14,[(3,.mem [2,4,5] (.u (pN (af (pK line)).peer 255 (eQ line))) [.bx 87 [.d (.ro 1 (strs (eR line).1))],.bx 4 [.d (.v (.bool ((eR line).2)))],.bx 79 [.fn 83 [.pt 0 0,.pt 1 0]]]),(4,.z (((pN (af (pK line)).peer 255 (eQ line):Nat):Int)))]),(15,[(3,.mem [2,4,5] (.u (pN (af (pK line)).n 255 (eR line))) [.bx 87 [.d (.ro 1 (strs (eT line).1))],.bx 4 [.d (.v (.bool ((eT line).2)))],.bx 79 [.fn 83 [.pt 0 0,.pt 1 0]]]),(4,.z (((pN (af (pK line)).n 255 (eR line):Nat):Int)))]),(16,[(3,.mem [2,4,5] (.u (pN (af (pK line)).bit 65535 (eT line))) [.bx 87 [.d (.ro 1 (strs (fN line).1))],.bx 4 [.d (.v (.bool ((fN line).2)))],.bx 79 [.fn 83 [.pt 0 0,.pt 1 0]]]),(4,.z (((pN (af (pK line)).bit 65535 (eT line):Nat):Int)))]),(17,[(3,.mem [2,4,5] (.u (pN (af (pK line)).inc 18446744073709551615 (fN line))) [.bx 87 [.d (.ro 1 (strs (bn line).1))],.bx 4 [.d (.v (.bool ((bn line).2)))],.bx 79 [.fn 83 [.pt 0 0,.pt 1 0]]])])] 13 [0,1,2,3,4,5,6,7] [2,4,7,8,10,71] r (by kernel_rfl) (U ((by rw [drop_one];exact ql _ _ (gJ line) (by decide) (by decide) yR):aE Tryz.prog 84 [.d (.v (.bool ((af (pK line)).node))),.d (.v (.int .u64 255)),.pt 2 0,.pt 1 0] [.bx 87 [.d (.ro 1 (List.drop (1) (strs (aW 32 line))))],.bx 4 [.d (.v (.bool true))],.bx 79 [.fn 83 [.pt 0 0,.pt 1 0]]] (.u (pN (af (pK line)).node 255 (gJ line))) [.bx 87 [.d (.ro 1 (strs (eQ line).1))],.bx 4 [.d (.v (.bool ((eQ line).2)))],.bx 79 [.fn 83 [.pt 0 0,.pt 1 0]]]) (U ((sT (by omega) (by have:=sS (af (pK line)).node (gJ line) (most:=255) (by decide);omega)):IntKind.i64.wrap (((pN (af (pK line)).node 255 (gJ line):Nat):Int))=((pN (af (pK line)).node 255 (gJ line):Nat):Int)) (U (ql _ _ (eQ line) (by decide) (by decide) ng:aE Tryz.prog 84 [.d (.v (.bool ((af (pK line)).peer))),.d (.v (.int .u64 255)),.pt 2 0,.pt 1 0] [.bx 87 [.d (.ro 1 (strs (eQ line).1))],.bx 4 [.d (.v (.bool ((eQ line).2)))],.bx 79 [.fn 83 [.pt 0 0,.pt 1 0]]] (.u (pN (af (pK line)).peer 255 (eQ line))) [.bx 87 [.d (.ro 1 (strs (eR line).1))],.bx 4 [.d (.v (.bool ((eR line).2)))],.bx 79 [.fn 83 [.pt 0 0,.pt 1 0]]]) (U ((sT (by omega) (by have:=sS (af (pK line)).peer (eQ line) (most:=255) (by decide);omega)):IntKind.i64.wrap (((pN (af (pK line)).peer 255 (eQ line):Nat):Int))=((pN (af (pK line)).peer 255 (eQ line):Nat):Int)) (U (ql _ _ (eR line) (by decide) (by decide) kX:aE Tryz.prog 84 [.d (.v (.bool ((af (pK line)).n))),.d (.v (.int .u64 255)),.pt 2 0,.pt 1 0] [.bx 87 [.d (.ro 1 (strs (eR line).1))],.bx 4 [.d (.v (.bool ((eR line).2)))],.bx 79 [.fn 83 [.pt 0 0,.pt 1 0]]] (.u (pN (af (pK line)).n 255 (eR line))) [.bx 87 [.d (.ro 1 (strs (eT line).1))],.bx 4 [.d (.v (.bool ((eT line).2)))],.bx 79 [.fn 83 [.pt 0 0,.pt 1 0]]]) (U ((sT (by omega) (by have:=sS (af (pK line)).n (eR line) (most:=255) (by decide);omega)):IntKind.i64.wrap (((pN (af (pK line)).n 255 (eR line):Nat):Int))=((pN (af (pK line)).n 255 (eR line):Nat):Int)) (U (ql _ _ (eT line) (by decide) (by decide) DJ:aE Tryz.prog 84 [.d (.v (.bool ((af (pK line)).bit))),.d (.v (.int .u64 65535)),.pt 2 0,.pt 1 0] [.bx 87 [.d (.ro 1 (strs (eT line).1))],.bx 4 [.d (.v (.bool ((eT line).2)))],.bx 79 [.fn 83 [.pt 0 0,.pt 1 0]]] (.u (pN (af (pK line)).bit 65535 (eT line))) [.bx 87 [.d (.ro 1 (strs (fN line).1))],.bx 4 [.d (.v (.bool ((fN line).2)))],.bx 79 [.fn 83 [.pt 0 0,.pt 1 0]]]) (U ((sT (by omega) (by have:=sS (af (pK line)).bit (eT line) (most:=65535) (by decide);omega)):IntKind.i64.wrap (((pN (af (pK line)).bit 65535 (eT line):Nat):Int))=((pN (af (pK line)).bit 65535 (eT line):Nat):Int)) (U (ql _ _ (fN line) (by decide) (by decide) DK:aE Tryz.prog 84 [.d (.v (.bool ((af (pK line)).inc))),.d (.v (.int .u64 18446744073709551615)),.pt 2 0,.pt 1 0] [.bx 87 [.d (.ro 1 (strs (fN line).1))],.bx 4 [.d (.v (.bool ((fN line).2)))],.bx 79 [.fn 83 [.pt 0 0,.pt 1 0]]] (.u (pN (af (pK line)).inc 18446744073709551615 (fN line))) [.bx 87 [.d (.ro 1 (strs (bn line).1))],.bx 4 [.d (.v (.bool ((bn line).2)))],.bx 79 [.fn 83 [.pt 0 0,.pt 1 0]]]) trivial))))))))) fun ac wd r=>?_
    suffices rB:kU line=false→∀ ac wd,RB D w0 K 93 bs [(2,.pt 1 0),(3,.d (.v (.bool false)))] [.gw 0 aj,.bx 42 [.z 0,.z 0,.z 0,.z 0,.z 0,.d (.v (.int .u64 0)),.d (.v (.slice none 0 0))]] ac wd→aF Tryz.prog 48 (aft Tryz.f48 22) (eZ D w0 K bs (pL (kv line)) (ph (kv line))) ac wd by
     cases h4:((af (pK line)).body) with
     | false=>
      have r:=r.cast (E':=[(2,.pt 1 0),(4,.pt 2 0),(7,.pt 4 0),(8,.pt 5 0),(10,.pt 6 0),(71,.d (.v (.bool false)))]) (M':=[.gw 0 aj,.bx 42 [.z 0,.z 0,.z 0,.z 0,.z 0,.d (.v (.int .u64 0)),.d (.v (.slice none 0 0))],.bx 87 [.d (.ro 1 (strs (bn line).1))],.bx 94 [.d (.v (.string ⟨((af (pK line)).word).toArray⟩)),.d (.v (.bool ((af (pK line)).node))),.d (.v (.bool ((af (pK line)).peer))),.d (.v (.bool ((af (pK line)).n))),.d (.v (.bool ((af (pK line)).bit))),.d (.v (.bool ((af (pK line)).inc))),.d (.v (.bool false))],.bx 4 [.d (.v (.bool ((bn line).2)))],.bx 79 [.fn 83 [.pt 2 0,.pt 4 0]],.bx 42 [.n (pK line),.n (pN (af (pK line)).node 255 (gJ line)),.n (pN (af (pK line)).peer 255 (eQ line)),.n (pN (af (pK line)).n 255 (eR line)),.n (pN (af (pK line)).bit 65535 (eT line)),.u (pN (af (pK line)).inc 18446744073709551615 (fN line)),.sl 7 (0)],.rw 5 1 ([])]) (by rw [h4]) (by rw [h4])
      cases h5:((bn line).2) with
      | false=>
       have r:=r.cast (M':=[.gw 0 aj,.bx 42 [.z 0,.z 0,.z 0,.z 0,.z 0,.d (.v (.int .u64 0)),.d (.v (.slice none 0 0))],.bx 87 [.d (.ro 1 (strs (bn line).1))],.bx 94 [.d (.v (.string ⟨((af (pK line)).word).toArray⟩)),.d (.v (.bool ((af (pK line)).node))),.d (.v (.bool ((af (pK line)).peer))),.d (.v (.bool ((af (pK line)).n))),.d (.v (.bool ((af (pK line)).bit))),.d (.v (.bool ((af (pK line)).inc))),.d (.v (.bool false))],.bx 4 [.d (.v (.bool false))],.bx 79 [.fn 83 [.pt 2 0,.pt 4 0]],.bx 42 [.n (pK line),.n (pN (af (pK line)).node 255 (gJ line)),.n (pN (af (pK line)).peer 255 (eQ line)),.n (pN (af (pK line)).n 255 (eR line)),.n (pN (af (pK line)).bit 65535 (eT line)),.u (pN (af (pK line)).inc 18446744073709551615 (fN line)),.sl 7 (0)],.rw 5 1 ([])]) rfl (by rw [h5])
       refine b6 (todo':=aft Tryz.f48 22) (E':=[(2,.pt 1 0),(3,.d (.v (.bool false)))]) (M':=[.gw 0 aj,.bx 42 [.z 0,.z 0,.z 0,.z 0,.z 0,.d (.v (.int .u64 0)),.d (.v (.slice none 0 0))]]) tk mo hK ao [] 8 [0,1] [2,3] r (by kernel_rfl) trivial fun ac wd r=>?_
       exact rB (by rw [sC (by omega) h4];simp_all) ac wd (r.cast rfl rfl)
      | true=>
       have r:=r.cast (M':=[.gw 0 aj,.bx 42 [.z 0,.z 0,.z 0,.z 0,.z 0,.d (.v (.int .u64 0)),.d (.v (.slice none 0 0))],.bx 87 [.d (.ro 1 (strs (bn line).1))],.bx 94 [.d (.v (.string ⟨((af (pK line)).word).toArray⟩)),.d (.v (.bool ((af (pK line)).node))),.d (.v (.bool ((af (pK line)).peer))),.d (.v (.bool ((af (pK line)).n))),.d (.v (.bool ((af (pK line)).bit))),.d (.v (.bool ((af (pK line)).inc))),.d (.v (.bool false))],.bx 4 [.d (.v (.bool true))],.bx 79 [.fn 83 [.pt 2 0,.pt 4 0]],.bx 42 [.n (pK line),.n (pN (af (pK line)).node 255 (gJ line)),.n (pN (af (pK line)).peer 255 (eQ line)),.n (pN (af (pK line)).n 255 (eR line)),.n (pN (af (pK line)).bit 65535 (eT line)),.u (pN (af (pK line)).inc 18446744073709551615 (fN line)),.sl 7 (0)],.rw 5 1 ([])]) rfl (by rw [h5])
       cases h6:(decide ((0:Int)<(((strs (bn line).1).length:Nat):Int))) with
       | false=>
        have fL:=of_decide_eq_false h6
        have hE:=Cg ‹decide ((0:Int)<(((strs (bn line).1).length:Nat):Int))=false›
        refine bq (y:=.tu [.ag [.n (pK line),.n (pN (af (pK line)).node 255 (gJ line)),.n (pN (af (pK line)).peer 255 (eQ line)),.n (pN (af (pK line)).n 255 (eR line)),.n (pN (af (pK line)).bit 65535 (eT line)),.u (pN (af (pK line)).inc 18446744073709551615 (fN line)),.sl 1 (0)],.d (.v (.bool true))]) (N':=[.gw 0 aj,.rw 5 1 ([])]) ((by rw [sq (by rw [sC (by omega) h4];simp_all)];simp [pL,ph,pg,pB,ae,h4])) ((by rw [sq (by rw [sC (by omega) h4];simp_all)];simp [pL,ph,pg,pB,ae,h4])) ?_
        exact bp tk mo hK rfl ao [(21,[(5,.b false)])] 2000 [0,7] r (by kernel_rfl) (U h6 trivial)
       | true=>
        have fL:=of_decide_eq_true h6
        have hE:=Cf ‹decide ((0:Int)<(((strs (bn line).1).length:Nat):Int))=true›
        refine b6 (todo':=aft Tryz.f48 22) (E':=[(2,.pt 1 0),(3,.d (.v (.bool false)))]) (M':=[.gw 0 aj,.bx 42 [.z 0,.z 0,.z 0,.z 0,.z 0,.d (.v (.int .u64 0)),.d (.v (.slice none 0 0))]]) tk mo hK ao [(21,[(5,.b true)])] 8 [0,1] [2,3] r (by kernel_rfl) (U h6 trivial) fun ac wd r=>?_
        exact rB (by rw [sC (by omega) h4];simp_all) ac wd (r.cast rfl rfl)
     | true=>
      have r:=r.cast (E':=[(2,.pt 1 0),(4,.pt 2 0),(7,.pt 4 0),(8,.pt 5 0),(10,.pt 6 0),(71,.d (.v (.bool true)))]) (M':=[.gw 0 aj,.bx 42 [.z 0,.z 0,.z 0,.z 0,.z 0,.d (.v (.int .u64 0)),.d (.v (.slice none 0 0))],.bx 87 [.d (.ro 1 (strs (bn line).1))],.bx 94 [.d (.v (.string ⟨((af (pK line)).word).toArray⟩)),.d (.v (.bool ((af (pK line)).node))),.d (.v (.bool ((af (pK line)).peer))),.d (.v (.bool ((af (pK line)).n))),.d (.v (.bool ((af (pK line)).bit))),.d (.v (.bool ((af (pK line)).inc))),.d (.v (.bool true))],.bx 4 [.d (.v (.bool ((bn line).2)))],.bx 79 [.fn 83 [.pt 2 0,.pt 4 0]],.bx 42 [.n (pK line),.n (pN (af (pK line)).node 255 (gJ line)),.n (pN (af (pK line)).peer 255 (eQ line)),.n (pN (af (pK line)).n 255 (eR line)),.n (pN (af (pK line)).bit 65535 (eT line)),.u (pN (af (pK line)).inc 18446744073709551615 (fN line)),.sl 7 (0)],.rw 5 1 ([])]) (by rw [h4]) (by rw [h4])
      cases h7:((fD (b4 (bn line))).2) with
      | false=>
       have dx:=((by have k:=ze (b4 (bn line));rw [h7] at k;exact k):al Tryz.prog 85 [.d (.v (.string ⟨(b4 (bn line)).toArray⟩))] (.tu [.em 5 1 (ae (fD (b4 (bn line))).1),.v (.bool false)]))
       have dQ:=(py _:(fT (Value.bool (bE (bn line)).2)==some true)=(bE (bn line)).2)
       have fc:=(o1 _ _:∃ b0:Bool,(Value.bool (bE (bn line)).2)=.bool b0∧(bif b0 then (bif (bE (bn line)).2 then Value.bool false else undef) else Value.bool false)=.bool ((bE (bn line)).2&&false))
       cases h8:(((bE (bn line)).2&&false)) with
       | false=>
        refine b6 (todo':=aft Tryz.f48 22) (E':=[(2,.pt 1 0),(3,.d (.v (.bool false)))]) (M':=[.gw 0 aj,.bx 42 [.z 0,.z 0,.z 0,.z 0,.z 0,.d (.v (.int .u64 0)),.d (.v (.slice none 0 0))]]) tk mo hK ao [(19,[(1,.mem [2,4] (.d (.v (.string ⟨(b4 (bn line)).toArray⟩))) [.bx 87 [.d (.ro 1 (strs (bE (bn line)).1))],.bx 4 [.d (.v (.bool ((bE (bn line)).2)))]]),(2,.au (.tu [.em 5 1 (ae (fD (b4 (bn line))).1),.v (.bool false)]))]),(20,[(3,.may (bE (bn line)).2 (.n 0)),(4,.res (.v (.bool ((bE (bn line)).2&&false))))]),(21,[(1,.b true)])] 10 [0,1] [2,3] r (by kernel_rfl) (U (oS (bn line)) (U dx (U dQ (U (fun hc=>trivial:(bE (bn line)).2=true→True) (U fc (U ((by rw [h8];rfl):(!(((bE (bn line)).2&&false)))=true) trivial)))))) fun ac wd r=>?_
        exact rB (by rw [qm (by omega) h4];simp_all) ac wd (r.cast rfl rfl)
       | true=>
        exact absurd h8 (by simp)
      | true=>
       have dE:=((by have k:=ze (b4 (bn line));rw [h7] at k;exact k):al Tryz.prog 85 [.d (.v (.string ⟨(b4 (bn line)).toArray⟩))] (.tu [.em 5 1 (ae (fD (b4 (bn line))).1),.v (.bool true)]))
       have dF:=(py _:(fT (Value.bool (bE (bn line)).2)==some true)=(bE (bn line)).2)
       have eK:=(o1 _ _:∃ b0:Bool,(Value.bool (bE (bn line)).2)=.bool b0∧(bif b0 then (bif (bE (bn line)).2 then Value.bool true else undef) else Value.bool false)=.bool ((bE (bn line)).2&&true))
       cases h9:(((bE (bn line)).2&&true)) with
       | false=>
        refine b6 (todo':=aft Tryz.f48 22) (E':=[(2,.pt 1 0),(3,.d (.v (.bool false)))]) (M':=[.gw 0 aj,.bx 42 [.z 0,.z 0,.z 0,.z 0,.z 0,.d (.v (.int .u64 0)),.d (.v (.slice none 0 0))]]) tk mo hK ao [(19,[(1,.mem [2,4] (.d (.v (.string ⟨(b4 (bn line)).toArray⟩))) [.bx 87 [.d (.ro 1 (strs (bE (bn line)).1))],.bx 4 [.d (.v (.bool ((bE (bn line)).2)))]]),(2,.au (.tu [.em 5 1 (ae (fD (b4 (bn line))).1),.v (.bool true)]))]),(20,[(3,.may (bE (bn line)).2 (.n 0)),(4,.res (.v (.bool ((bE (bn line)).2&&true))))]),(21,[(1,.b true)])] 10 [0,1] [2,3] r (by kernel_rfl) (U (oS (bn line)) (U dE (U dF (U (fun hc=>trivial:(bE (bn line)).2=true→True) (U eK (U ((by rw [h9];rfl):(!(((bE (bn line)).2&&true)))=true) trivial)))))) fun ac wd r=>?_
        exact rB (by rw [qm (by omega) h4];simp_all) ac wd (r.cast rfl rfl)
       | true=>
        cases cy:(decide ((0:Int)<(((strs (bE (bn line)).1).length:Nat):Int))) with
        | false=>
         have lJ:=of_decide_eq_false cy
         have hE:=Cg ‹decide ((0:Int)<(((strs (bE (bn line)).1).length:Nat):Int))=false›
         refine bq (y:=.tu [.ag [.n (pK line),.n (pN (af (pK line)).node 255 (gJ line)),.n (pN (af (pK line)).peer 255 (eQ line)),.n (pN (af (pK line)).n 255 (eR line)),.n (pN (af (pK line)).bit 65535 (eT line)),.u (pN (af (pK line)).inc 18446744073709551615 (fN line)),.sl 1 ((ae (fD (b4 (bn line))).1).length)],.d (.v (.bool true))]) (N':=[.gw 0 aj,.rw 5 1 (ae (fD (b4 (bn line))).1)]) ((by rw [sq (by rw [qm (by omega) h4];simp_all)];simp [pL,ph,pg,pB,ae,h4])) ((by rw [sq (by rw [qm (by omega) h4];simp_all)];simp [pL,ph,pg,pB,ae,h4])) ?_
         exact bp tk mo hK rfl ao [(19,[(1,.mem [2,4] (.d (.v (.string ⟨(b4 (bn line)).toArray⟩))) [.bx 87 [.d (.ro 1 (strs (bE (bn line)).1))],.bx 4 [.d (.v (.bool ((bE (bn line)).2)))]]),(2,.au (.tu [.em 5 1 (ae (fD (b4 (bn line))).1),.v (.bool true)]))]),(20,[(3,.may (bE (bn line)).2 (.n 0)),(4,.res (.v (.bool ((bE (bn line)).2&&true))))]),(21,[(1,.b false),(5,.b false)])] 2000 [0,8] r (by kernel_rfl) (U (oS (bn line)) (U dE (U dF (U (fun hc=>trivial:(bE (bn line)).2=true→True) (U eK (U ((by rw [h9];rfl):(!(((bE (bn line)).2&&true)))=false) (U cy trivial)))))))
        | true=>
         have lJ:=of_decide_eq_true cy
         have hE:=Cf ‹decide ((0:Int)<(((strs (bE (bn line)).1).length:Nat):Int))=true›
         refine b6 (todo':=aft Tryz.f48 22) (E':=[(2,.pt 1 0),(3,.d (.v (.bool false)))]) (M':=[.gw 0 aj,.bx 42 [.z 0,.z 0,.z 0,.z 0,.z 0,.d (.v (.int .u64 0)),.d (.v (.slice none 0 0))]]) tk mo hK ao [(19,[(1,.mem [2,4] (.d (.v (.string ⟨(b4 (bn line)).toArray⟩))) [.bx 87 [.d (.ro 1 (strs (bE (bn line)).1))],.bx 4 [.d (.v (.bool ((bE (bn line)).2)))]]),(2,.au (.tu [.em 5 1 (ae (fD (b4 (bn line))).1),.v (.bool true)]))]),(20,[(3,.may (bE (bn line)).2 (.n 0)),(4,.res (.v (.bool ((bE (bn line)).2&&true))))]),(21,[(1,.b false),(5,.b true)])] 10 [0,1] [2,3] r (by kernel_rfl) (U (oS (bn line)) (U dE (U dF (U (fun hc=>trivial:(bE (bn line)).2=true→True) (U eK (U ((by rw [h9];rfl):(!(((bE (bn line)).2&&true)))=false) (U cy trivial))))))) fun ac wd r=>?_
         exact rB (by rw [qm (by omega) h4];simp_all) ac wd (r.cast rfl rfl)
    intro hJ ac wd r
    have r:=r.fG (E1:=[(2,.pt 1 0),(3,.d (.v (.bool false)))]) (M1:=[.gw 0 aj,.bx 42 [.z 0,.z 0,.z 0,.z 0,.z 0,.d (.v (.int .u64 0)),.d (.v (.slice none 0 0))]]) (M2:=[.gw 0 aj,.bx 42 [.z 0,.z 0,.z 0,.z 0,.z 0,.d (.v (.int .u64 0)),.sl 2 (0)],.rw 5 1 ([])]) [] [(1,6,5,1)] (by kernel_rfl) (by kernel_rfl)
    refine bq (y:=.tu [.ag [.z 0,.z 0,.z 0,.z 0,.z 0,.d (.v (.int .u64 0)),.sl 1 (0)],.d (.v (.bool false))]) (N':=[.gw 0 aj,.rw 5 1 ([])]) ((by rw [sB hJ];rfl)) ((by rw [sB hJ];rfl)) ?_
    exact bp tk mo hK rfl ao [] 2000 [0,2] r (by kernel_rfl) trivial
   | true=>
    have dP:=eq_of_beq h3
    exact absurd dP (by omega)
end Go.Proofs.YtcnpikbbmbombaaGreatDoor
namespace Go.Proofs.YtcnpikbbmbombaaGreatDoor
open Go.RowKit
def kj (w:List UInt8):Int:=(((aR w 255).1:Nat):Int)
def cU (w:List UInt8):List UInt8×List UInt8:=if 0<w.count 45 then (bT 45 w,fC 45 w) else (w,[])
abbrev rC:=List (Int×Int)×List Int×Bool×Bool
def kH (s:rC) (w:List UInt8):rC:=
 if s.2.2.1=true then (s.1,s.2.1++[kj w],true,s.2.2.2&&(aR w 255).2)
 else if w=[58] then (s.1,s.2.1,true,s.2.2.2)
 else (s.1++[(kj (cU w).1,kj (cU w).2)],s.2.1,false,s.2.2.2&&(aR (cU w).1 255).2&&(aR (cU w).2 255).2)
theorem vj {ws:List (List UInt8)} {i:Nat} {w:List UInt8} {s0 s s2:rC} (g:ws[i]?=some w) (h:(ws.take i).foldl kH s0=s) (e:kH s w=s2):(ws.take (i+1)).foldl kH s0=s2:=by
 rw [List.take_add_one,g,Option.toList_some,List.foldl_append,h];exact e
theorem OC (L:List (Int×Int)) (H:List Int) (g:Bool) (w:List UInt8):kH (L,H,true,g) w=(L,H++[(((aR w 255).1:Nat):Int)],true,g&&(aR w 255).2):=rfl
theorem OD {L:List (Int×Int)} {H:List Int} {g:Bool} {w:List UInt8} (h:(w==([58]:List UInt8))=true):kH (L,H,false,g) w=(L,H,true,g):=by
 have:w=[58]:=by simpa using h
 subst this;rfl
theorem OE {L:List (Int×Int)} {H:List Int} {g:Bool} {w:List UInt8} (h:(w==([58]:List UInt8))=false):kH (L,H,false,g) w=(L++[((((aR (cU w).1 255).1:Nat):Int),(((aR (cU w).2 255).1:Nat):Int))],H,false,(g&&(aR (cU w).1 255).2)&&(aR (cU w).2 255).2):=by
 have hw:w≠[58]:=by intro e;subst e;simp at h
 unfold kH;rw [if_neg (by simp),if_neg hw];rfl
theorem Je (c:UInt8) (s:List UInt8):(bT c s).length≤s.length:=by
 have:=congrArg List.length (p6 (c:=c) s);simp at this;omega
theorem Jf (c:UInt8) (s:List UInt8):(fC c s).length≤s.length:=by unfold fC;simp
theorem vk (w:List UInt8):(cU w).1.length≤w.length∧(cU w).2.length≤w.length:=by
 unfold cU;split
 ·exact ⟨Je _ _,Jf _ _⟩
 ·exact ⟨Nat.le_refl _,Nat.zero_le _⟩
theorem Kw (w:List UInt8) (hl:w.length≤1048576):al Tryz.prog 79 [.d (.v (.string ⟨w.toArray⟩)),.d (.v (.string ⟨[45].toArray⟩))] (.tu [.v (.string ⟨(cU w).1.toArray⟩),.v (.string ⟨(cU w).2.toArray⟩),.v (.bool (decide (0<w.count 45)))]):=by
 by_cases h:0<w.count 45
 ·unfold cU;rw [if_pos h,decide_eq_true h];exact qi 45 w (by omega) h
 ·unfold cU;rw [if_neg h,decide_eq_false h];exact Kk 45 w (by omega) (by omega)
def er (l:List UInt8):List (List UInt8):=(aW 32 l).drop 2
def cO (l:List UInt8):List UInt8:=(aW 32 l).getD 1 []
def nj (l:List UInt8):rC:=(er l).foldl kH ([],[],false,(aR (cO l) 255).2)
def mO (l:List UInt8):bN:=⟨kj (cO l),(nj l).1,(nj l).2.1⟩
noncomputable def jR (l:List UInt8):Bool:=(decide (3≤(aW 32 l).length)&&(b4 (aW 32 l,true)==[119,111,114,108,100]))&&(((nj l).2.2.2&&(nj l).2.2.1)&&bU (mO l))
noncomputable def nk (l:List UInt8):bN×Bool:=cond (jR l) (mO l,true) (⟨0,[],[]⟩,false)
def yS (q:bN×Bool):AV:=.tu [.ag [.z q.1.az,.sl 0 q.1.ah.length,.sl 1 q.1.homes.length],.d (.v (.bool q.2))]
def xZ (q:bN×Bool):List ai:=[.rw 60 2 (ah q.1.ah),.rw 3 1 (ints q.1.homes)]
theorem oT {l:List UInt8} (h:jR l=false):nk l=(⟨0,[],[]⟩,false):=by unfold nk;rw [h];rfl
theorem vn {l:List UInt8} (h:jR l=true):nk l=(mO l,true):=by unfold nk;rw [h];rfl
theorem BL {l:List UInt8} (h:(aW 32 l).length<3):jR l=false:=by unfold jR;rw [decide_eq_false (by omega)];rfl
theorem BM {l:List UInt8} (h:(b4 (aW 32 l,true)==[119,111,114,108,100])=false):jR l=false:=by unfold jR;rw [h,Bool.and_false];rfl
theorem o3 {l:List UInt8} {i:Nat} {s:rC} (hi:(er l).length≤i) (h:((er l).take i).foldl kH ([],[],false,(aR (cO l) 255).2)=s):nj l=s:=by rw [List.take_of_length_le hi] at h;exact h
theorem sU {l:List UInt8} {L:List (Int×Int)} {H:List Int} {b g:Bool} (e:nj l=(L,H,b,g)) (h:((g&&b)&&bU ⟨kj (cO l),L,H⟩)=false):jR l=false:=by unfold jR mO;rw [e];simp only [h,Bool.and_false]
theorem we {l:List UInt8} {L:List (Int×Int)} {H:List Int} (e:nj l=(L,H,true,true)) (h3:3≤(aW 32 l).length) (hw:(b4 (aW 32 l,true)==[119,111,114,108,100])=true) (h:bU ⟨kj (cO l),L,H⟩=true):jR l=true:=by unfold jR mO;rw [e,hw,decide_eq_true h3];simp only [h];rfl
theorem uL {l:List UInt8} {i:Nat} {x:List UInt8} (h:(er l)[i]?=some x):(List.drop 2 (strs (aW 32 l)))[i]?=some [.v (.string ⟨x.toArray⟩)]:=by unfold strs;rw [← List.map_drop,List.getElem?_map];unfold er at h;rw [h];rfl
theorem Gb {l:List UInt8} (h:3≤(aW 32 l).length):(strs (aW 32 l))[1]?=some [.v (.string ⟨(cO l).toArray⟩)]:=by
 unfold strs cO;rw [List.getElem?_map,List.getD_eq_getElem?_getD,List.getElem?_eq_getElem (by omega)];rfl
theorem Jg (l:List UInt8):(er l).length=(aW 32 l).length-2:=by unfold er;simp
theorem BN {l:List UInt8} {i:Nat} {x:List UInt8} (hl:l.length≤1048576) (h:(er l)[i]?=some x):x.length≤1048576:=Nat.le_trans (oD (List.mem_of_mem_drop (List.mem_of_getElem? h))) hl
theorem Kx {l:List UInt8} (hl:l.length≤1048576):(cO l).length≤1048576:=by
 unfold cO;rw [List.getD_eq_getElem?_getD]
 cases h:(aW 32 l)[1]? with
 | none=>exact Nat.zero_le _
 | some x=>exact Nat.le_trans (oD (List.mem_of_getElem? h)) hl
set_option maxRecDepth 100000 in
theorem sD (x:List UInt8) (g:Bool) (hl:x.length≤1048576):aE Tryz.prog 81 [.d (.v (.string ⟨x.toArray⟩)),.pt 0 0] [.bx 4 [.d (.v (.bool g))]] (.n (aR x 255).1) ([.bx 4 [.d (.v (.bool (g&&(aR x 255).2)))]]):=by
 refine aE.intro (by kernel_rfl) rfl rfl 17 rfl rfl fun D w0 K bs ac wd hK (ao:bs.m=1) r=>?_
 cases h0:((aR x 255).2) with
 | false=>
  refine bq (y:=.n ((aR x 255).1)) (N':=[.bx 4 [.d (.v (.bool ((g&&false))))]]) (rfl) (rfl) ?_
  exact bp tk mo hK rfl ao [(1,[(1,.au (.tu [.u ((aR x 255).1),.v (.bool false)]))]),(2,[(2,.may g (.n 0)),(3,.res (.v (.bool (g&&false))))]),(3,[(1,.z ((((aR x 255).1:Nat):Int)))])] 2000 [0] r (by kernel_rfl) (U ((by have k:=r9 x 255 (by omega) (by omega) (by omega);rw [h0] at k;exact k):al Tryz.prog 82 [.d (.v (.string ⟨x.toArray⟩)),.d (.v (.int .u64 255))] (.tu [.u ((aR x 255).1),.v (.bool false)])) (U (py _:(fT (Value.bool g)==some true)=g) (U (fun hc=>trivial:g=true→True) (U (o1 _ _:∃ b0:Bool,(Value.bool g)=.bool b0∧(bif b0 then (bif g then Value.bool false else undef) else Value.bool false)=.bool (g&&false)) (U ((wi (by have:=vg x (most:=255) (by omega);omega)):IntKind.i64.wrap ((((aR x 255).1:Nat):Int))=(((aR x 255).1:Nat):Int)) trivial)))))
 | true=>
  refine bq (y:=.n ((aR x 255).1)) (N':=[.bx 4 [.d (.v (.bool ((g&&true))))]]) (rfl) (rfl) ?_
  exact bp tk mo hK rfl ao [(1,[(1,.au (.tu [.u ((aR x 255).1),.v (.bool true)]))]),(2,[(2,.may g (.n 0)),(3,.res (.v (.bool (g&&true))))]),(3,[(1,.z ((((aR x 255).1:Nat):Int)))])] 2000 [0] r (by kernel_rfl) (U ((by have k:=r9 x 255 (by omega) (by omega) (by omega);rw [h0] at k;exact k):al Tryz.prog 82 [.d (.v (.string ⟨x.toArray⟩)),.d (.v (.int .u64 255))] (.tu [.u ((aR x 255).1),.v (.bool true)])) (U (py _:(fT (Value.bool g)==some true)=g) (U (fun hc=>trivial:g=true→True) (U (o1 _ _:∃ b0:Bool,(Value.bool g)=.bool b0∧(bif b0 then (bif g then Value.bool true else undef) else Value.bool false)=.bool (g&&true)) (U ((wi (by have:=vg x (most:=255) (by omega);omega)):IntKind.i64.wrap ((((aR x 255).1:Nat):Int))=(((aR x 255).1:Nat):Int)) trivial)))))
set_option maxRecDepth 100000 in
theorem Ea (line:List UInt8) (hl:line.length≤1048576):aE Tryz.prog 47 [.d (.v (.string ⟨line.toArray⟩))] [] (yS (nk line)) (xZ (nk line)):=by
 refine aE.intro (by kernel_rfl) rfl rfl 85 rfl rfl fun D w0 K bs ac wd hK (ao:bs.m=0) r=>?_
 have aM:=((by first | rfl | (simp [strs];done) | (simp [strs,er];done) | (simp [strs];omega)):(((strs (aW 32 line)).length:Nat):Int)=(((aW 32 line).length:Nat):Int))
 cases h0:(decide (((((aW 32 line).length:Nat):Int):Int)<3)) with
 | false=>
  have a7:=of_decide_eq_false h0
  have br:=(AA 32 line:(strs (aW 32 line))[0]?=some [.v (.string ⟨(b4 (aW 32 line,true)).toArray⟩)])
  cases h1:((b4 (aW 32 line,true))==([119,111,114,108,100]:List UInt8)) with
  | false=>
   refine b6 (todo':=aft Tryz.f47 3) (E':=[(2,.pt 0 0),(3,.d (.v (.bool false))),(4,.d (.ro 1 (strs (aW 32 line))))]) (M':=[.bx 25 [.z 0,.d (.v (.slice none 0 0)),.d (.v (.slice none 0 0))]]) tk mo hK ao [(1,[(1,.au (.ro 1 (strs (aW 32 line))))]),(2,[(1,.z ((((aW 32 line).length:Nat):Int))),(2,.b false),(5,.ix (0) [.v (.string ⟨(b4 (aW 32 line,true)).toArray⟩)]),(7,.b true)])] 10 [0] [2,3,4] r (by kernel_rfl) (U (sk 32 line hl) (U aM (U h0 (U (rfl:(0)=((0:Nat):Int)) (U br (U ((by simpa [bne] using h1):((b4 (aW 32 line,true)) != ([119,111,114,108,100]:List UInt8))=true) trivial)))))) fun ac wd r=>?_
   have r:=r.fG (E1:=[(2,.pt 0 0),(3,.d (.v (.bool false))),(4,.d (.ro 1 (strs (aW 32 line))))]) (M1:=[.bx 25 [.z 0,.d (.v (.slice none 0 0)),.d (.v (.slice none 0 0))]]) (M2:=[.bx 25 [.z 0,.sl 1 (0),.sl 2 (0)],.rw 60 2 ([]),.rw 3 1 ([])]) [] [(0,1,60,2),(0,2,3,1)] (by kernel_rfl) (by kernel_rfl)
   refine bq (y:=.tu [.ag [.z 0,.sl 0 (0),.sl 1 (0)],.d (.v (.bool false))]) (N':=[.rw 60 2 ([]),.rw 3 1 ([])]) ((by rw [oT (BM h1)];rfl)) ((by rw [oT (BM h1)];rfl)) ?_
   exact bp tk mo hK rfl ao [] 2000 [1,2] r (by kernel_rfl) trivial
  | true=>
   refine b6 (todo':=aft Tryz.f47 7) (E':=[(2,.pt 0 0),(3,.d (.v (.bool false))),(4,.d (.ro 1 (strs (aW 32 line)))),(5,.pt 1 0),(6,.fn 81 [.pt 1 0]),(7,.pt 2 0),(8,.d (.v (.bool false)))]) (M':=[.bx 25 [.z 0,.d (.v (.slice none 0 0)),.d (.v (.slice none 0 0))],.bx 4 [.d (.v (.bool ((true&&(aR (cO line) 255).2))))],.bx 25 [.n ((aR (cO line) 255).1),.d (.v (.slice none 0 0)),.d (.v (.slice none 0 0))]]) tk mo hK ao [(1,[(1,.au (.ro 1 (strs (aW 32 line))))]),(2,[(1,.z ((((aW 32 line).length:Nat):Int))),(2,.b false),(5,.ix (0) [.v (.string ⟨(b4 (aW 32 line,true)).toArray⟩)]),(7,.b false)]),(6,[(2,.ix (1) [.v (.string ⟨(cO line).toArray⟩)]),(4,.mem [1] (.n ((aR (cO line) 255).1)) [.bx 4 [.d (.v (.bool ((true&&(aR (cO line) 255).2))))]])])] 17 [0,1,2] [2,3,4,5,6,7,8] r (by kernel_rfl) (U (sk 32 line hl) (U aM (U h0 (U (rfl:(0)=((0:Nat):Int)) (U br (U ((by simpa [bne] using h1):((b4 (aW 32 line,true)) != ([119,111,114,108,100]:List UInt8))=false) (U (rfl:(1)=((1:Nat):Int)) (U (Gb (by omega):(strs (aW 32 line))[1]?=some [.v (.string ⟨(cO line).toArray⟩)]) (U (sD (cO line) true (Kx hl)) trivial))))))))) fun ac wd r=>?_
   suffices og:jR line=false→∀ ac wd,RB D w0 K 85 bs [(2,.pt 0 0),(3,.d (.v (.bool false)))] [.bx 25 [.z 0,.d (.v (.slice none 0 0)),.d (.v (.slice none 0 0))]] ac wd→aF Tryz.prog 47 (aft Tryz.f47 19) (eZ D w0 K bs (yS (nk line)) (xZ (nk line))) ac wd by
    refine cQ (todo':=hd Tryz.f47 0) (E':=[(2,.pt 0 0),(5,.pt 1 0),(6,.fn 81 [.pt 1 0]),(7,.pt 2 0),(8,.d (.v (.bool false))),(34,.d (.ro 1 (List.drop (2) (strs (aW 32 line))))),(35,.n ((er line).length)),(36,.z 0)]) (M':=[.bx 25 [.z 0,.d (.v (.slice none 0 0)),.d (.v (.slice none 0 0))],.bx 4 [.d (.v (.bool ((true&&(aR (cO line) 255).2))))],.bx 25 [.n ((aR (cO line) 255).1),.d (.v (.slice none 0 0)),.d (.v (.slice none 0 0))]]) tk mo hK ao [(8,[(1,.n2 (0) (2)),(2,.z ((((er line).length:Nat):Int)))])] 2000 [0,1,2] [2,5,6,7,8,34,35,36] r (by kernel_rfl) (U (rfl:(2:Int)=((2:Nat):Int)) (U ((by have:=ic 32 line;simp [strs];omega):(2)≤(strs (aW 32 line):List (List DV)).length) (U ((by first | rfl | (simp [strs];done) | (simp [strs,er];done) | (simp [strs];omega)):(((List.drop (2) (strs (aW 32 line))).length:Nat):Int)=(((er line).length:Nat):Int)) trivial))) fun ac wd r=>?_
    refine aF.rounds (Φ:=fun (i:Nat) ac wd=>∃ L:List (Int×Int),∃ H:List Int,∃ bh:Bool,∃ g:Bool,(i≤(er line).length∧((er line).take i).foldl kH ([],[],false,(aR (cO line) 255).2)=(L,H,bh,g)∧L.length≤i∧H.length≤i)∧RB D w0 K 85 bs [(2,.pt 0 0),(5,.pt 1 0),(6,.fn 81 [.pt 1 0]),(7,.pt 2 0),(8,.d (.v (.bool bh))),(34,.d (.ro 1 (List.drop 2 (strs (aW 32 line))))),(35,.n ((er line).length)),(36,.n i)] [.bx 25 [.z 0,.d (.v (.slice none 0 0)),.d (.v (.slice none 0 0))],.bx 4 [.d (.v (.bool g))],.bx 25 [.n ((aR (cO line) 255).1),.sl 3 (L.length),.sl 4 (H.length)],.rw 60 2 (ah L),.rw 3 1 (ints H)] ac wd) ((er line).length) ?_ (Nat.zero_le _) ⟨[],[],false,(aR (cO line) 255).2,⟨Nat.zero_le _,rfl,Nat.le_refl _,Nat.le_refl _⟩,(r.fG (E1:=[(2,.pt 0 0),(5,.pt 1 0),(6,.fn 81 [.pt 1 0]),(7,.pt 2 0),(8,.d (.v (.bool false))),(34,.d (.ro 1 (List.drop (2) (strs (aW 32 line))))),(35,.n ((er line).length)),(36,.z 0)]) (M2:=[.bx 25 [.z 0,.d (.v (.slice none 0 0)),.d (.v (.slice none 0 0))],.bx 4 [.d (.v (.bool ((true&&(aR (cO line) 255).2))))],.bx 25 [.n ((aR (cO line) 255).1),.sl 3 (0),.sl 4 (0)],.rw 60 2 ([]),.rw 3 1 ([])]) (M1:=[.bx 25 [.z 0,.d (.v (.slice none 0 0)),.d (.v (.slice none 0 0))],.bx 4 [.d (.v (.bool ((true&&(aR (cO line) 255).2))))],.bx 25 [.n ((aR (cO line) 255).1),.d (.v (.slice none 0 0)),.d (.v (.slice none 0 0))]]) [] [(2,1,60,2),(2,2,3,1)] (by kernel_rfl) (by kernel_rfl)).cast rfl rfl⟩
    clear r
    rintro i dw bH ac wd ⟨L,H,bh,g,aq,r⟩
    have PR:=Jg line
    have dO:=ic 32 line
    have Dq:=List.count_le_length (a:=(32:UInt8)) (l:=line)
    have DL:L.length≤9223372036854775807:=by omega
    have DM:H.length≤9223372036854775807:=by omega
    cases bh with
    | false=>
     cases h2:(decide ((((i:Nat):Int):Int)<(((er line).length:Nat):Int))) with
     | false=>
      have c8:=of_decide_eq_false h2
      cases h3:(g) with
      | false=>
       refine b6 (todo':=aft Tryz.f47 19) (E':=[(2,.pt 0 0),(3,.d (.v (.bool false)))]) (M':=[.bx 25 [.z 0,.d (.v (.slice none 0 0)),.d (.v (.slice none 0 0))]]) tk mo hK ao [(9,[(0,.b false)]),(18,[(1,.b true)])] 11 [0] [2,3] r (by kernel_rfl) (U h2 (U ((by rw [h3];rfl):(!(g))=true) trivial)) fun ac wd r=>?_
       exact og (sU (o3 (by omega) aq.2.1) (by simp [h3])) ac wd (r.cast rfl rfl)
      | true=>
       refine b6 (todo':=aft Tryz.f47 19) (E':=[(2,.pt 0 0),(3,.d (.v (.bool false)))]) (M':=[.bx 25 [.z 0,.d (.v (.slice none 0 0)),.d (.v (.slice none 0 0))]]) tk mo hK ao [(9,[(0,.b false)]),(18,[(1,.b false)])] 11 [0] [2,3] r (by kernel_rfl) (U h2 (U ((by rw [h3];rfl):(!(g))=false) trivial)) fun ac wd r=>?_
       exact og (sU (o3 (by omega) aq.2.1) (by simp [h3])) ac wd (r.cast rfl rfl)
     | true=>
      have c8:=of_decide_eq_true h2
      obtain ⟨cI,lf⟩:∃ x_,(er line)[i]?=some x_:=⟨_,List.getElem?_eq_getElem (by omega)⟩
      have DN:=BN hl lf
      cases h4:(cI==([58]:List UInt8)) with
      | false=>
       exact cQ (todo':=hd Tryz.f47 0) (E':=[(2,.pt 0 0),(5,.pt 1 0),(6,.fn 81 [.pt 1 0]),(7,.pt 2 0),(8,.d (.v (.bool false))),(34,.d (.ro 1 (List.drop 2 (strs (aW 32 line))))),(35,.n ((er line).length)),(36,.n (i+1))]) (M':=[.bx 25 [.z 0,.d (.v (.slice none 0 0)),.d (.v (.slice none 0 0))],.bx 4 [.d (.v (.bool (((g&&(aR ((cU cI).1) 255).2)&&(aR ((cU cI).2) 255).2))))],.bx 25 [.n ((aR (cO line) 255).1),.sl 3 (L.length+(1)),.sl 4 (H.length)],.rw 60 2 (ah L++[[.n ((aR ((cU cI).1) 255).1),.n ((aR ((cU cI).2) 255).1)]]),.rw 3 1 (ints H)]) tk mo hK ao [(9,[(0,.b true)]),(10,[(0,.ix (i) [.v (.string ⟨cI.toArray⟩)])]),(11,[(1,.au (.tu [.v (.string ⟨((cU cI).1).toArray⟩),.v (.string ⟨((cU cI).2).toArray⟩),.v (.bool (decide (0<cI.count 45)))]))]),(12,[(4,.mem [1] (.n ((aR ((cU cI).1) 255).1)) [.bx 4 [.d (.v (.bool ((g&&(aR ((cU cI).1) 255).2))))]]),(7,.mem [1] (.n ((aR ((cU cI).2) 255).1)) [.bx 4 [.d (.v (.bool (((g&&(aR ((cU cI).1) 255).2)&&(aR ((cU cI).2) 255).2))))]])]),(15,[(1,.b false)]),(17,[(0,.z (((i+1:Nat):Int)))])] 2000 [0,1,2,3,4] [2,5,6,7,8,34,35,36] r (by kernel_rfl) (U h2 (U (aC ((i:Nat):Int)) (U (uL lf) (U h4 (U (Kw cI DN) (U (sD ((cU cI).1) g (by have:=vk cI;omega)) (U (sD ((cU cI).2) (g&&(aR ((cU cI).1) 255).2) (by have:=vk cI;omega)) (U ((by first | rfl | (simp [ah,ints];done) | (simp [ah,ints];omega)):(L.length)=(ah L:List (List DV)).length) (U ((by first | rfl | (simp [ah,ints];done) | (simp [ah,ints];omega)):(1)=([[.n ((aR ((cU cI).1) 255).1),.n ((aR ((cU cI).2) 255).1)]]:List (List DV)).length) (U ((by first | omega | (simp [ah,ints];done) | (simp [ah,ints];omega)):(2*((L.length)+(1))+192)*16≤281474976710656) (U ((by first | omega | (simp [ah,ints];done) | (simp [ah,ints];omega)):(L.length)+(1)<4611686018427387904) (U ((by simp [aD,AV.one,bf,ae,ah,ints,steps,strs]):aD ([[.n ((aR ((cU cI).1) 255).1),.n ((aR ((cU cI).2) 255).1)]])) (U ((wi (by omega)):IntKind.i64.wrap ((((i:Nat):Int):Int)+1)=((i+1:Nat):Int)) trivial))))))))))))) fun ac wd r=>bH (by omega) ac wd ⟨(L++[((((aR (cU cI).1 255).1:Nat):Int),(((aR (cU cI).2 255).1:Nat):Int))]),H,false,((g&&(aR (cU cI).1 255).2)&&(aR (cU cI).2 255).2),⟨by omega,vj lf aq.2.1 (OE h4),by simp;omega,by omega⟩,r.cast rfl (by simp [ah,ints])⟩
      | true=>
       exact cQ (todo':=hd Tryz.f47 0) (E':=[(2,.pt 0 0),(5,.pt 1 0),(6,.fn 81 [.pt 1 0]),(7,.pt 2 0),(8,.d (.v (.bool true))),(34,.d (.ro 1 (List.drop 2 (strs (aW 32 line))))),(35,.n ((er line).length)),(36,.n (i+1))]) (M':=[.bx 25 [.z 0,.d (.v (.slice none 0 0)),.d (.v (.slice none 0 0))],.bx 4 [.d (.v (.bool g))],.bx 25 [.n ((aR (cO line) 255).1),.sl 3 (L.length),.sl 4 (H.length)],.rw 60 2 (ah L),.rw 3 1 (ints H)]) tk mo hK ao [(9,[(0,.b true)]),(10,[(0,.ix (i) [.v (.string ⟨cI.toArray⟩)])]),(15,[(1,.b true)]),(17,[(0,.z (((i+1:Nat):Int)))])] 2000 [0,1,2,3,4] [2,5,6,7,8,34,35,36] r (by kernel_rfl) (U h2 (U (aC ((i:Nat):Int)) (U (uL lf) (U h4 (U ((wi (by omega)):IntKind.i64.wrap ((((i:Nat):Int):Int)+1)=((i+1:Nat):Int)) trivial))))) fun ac wd r=>bH (by omega) ac wd ⟨L,H,true,g,⟨by omega,vj lf aq.2.1 (OD h4),by omega,by omega⟩,r.cast rfl (by simp [ah,ints])⟩
    | true=>
     cases h5:(decide ((((i:Nat):Int):Int)<(((er line).length:Nat):Int))) with
     | false=>
      have fb:=of_decide_eq_false h5
      cases h6:(g) with
      | false=>
       refine b6 (todo':=aft Tryz.f47 19) (E':=[(2,.pt 0 0),(3,.d (.v (.bool false)))]) (M':=[.bx 25 [.z 0,.d (.v (.slice none 0 0)),.d (.v (.slice none 0 0))]]) tk mo hK ao [(9,[(0,.b false)]),(18,[(1,.b true)])] 11 [0] [2,3] r (by kernel_rfl) (U h5 (U ((by rw [h6];rfl):(!(g))=true) trivial)) fun ac wd r=>?_
       exact og (sU (o3 (by omega) aq.2.1) (by simp [h6])) ac wd (r.cast rfl rfl)
      | true=>
       cases h7:(bU ⟨kj (cO line),L,H⟩) with
       | false=>
        refine b6 (todo':=aft Tryz.f47 19) (E':=[(2,.pt 0 0),(3,.d (.v (.bool false)))]) (M':=[.bx 25 [.z 0,.d (.v (.slice none 0 0)),.d (.v (.slice none 0 0))]]) tk mo hK ao [(9,[(0,.b false)]),(18,[(1,.b false),(8,.call [.ag [.n ((aR (cO line) 255).1),.d (.ro 2 (ah L)),.d (.ro 1 (ints H))]] (.v (.bool false)))])] 11 [0] [2,3] r (by kernel_rfl) (U h5 (U ((by rw [h6];rfl):(!(g))=false) (U ((by have k:=qw ⟨kj (cO line),L,H⟩ DL DM;rw [h7] at k;exact k):al Tryz.prog 21 [.ag [.n ((aR (cO line) 255).1),.d (.ro 2 (ah L)),.d (.ro 1 (ints H))]] (.v (.bool false))) (U ((jj _):gv (.v (.bool false))) (U (nh (.n ((aR (cO line) 255).1))) (U (ft (2)) (U ((by first | rfl | (simp [ah,ints];done) | (simp [ah,ints];omega)):(L.length)=(ah L:List (List DV)).length) (U ((by first | exact ou _ | exact ov _):c6 (ah L)=ah L) (U (ft (1)) (U ((by first | rfl | (simp [ah,ints];done) | (simp [ah,ints];omega)):(H.length)=(ints H).length) (U ((by first | exact ou _ | exact ov _):c6 (ints H)=ints H) trivial))))))))))) fun ac wd r=>?_
        exact og (sU (o3 (by omega) aq.2.1) (by simp [h6,h7])) ac wd (r.cast rfl rfl)
       | true=>
        refine bq (y:=.tu [.ag [.n ((aR (cO line) 255).1),.sl 0 (L.length),.sl 1 (H.length)],.d (.v (.bool true))]) (N':=[.rw 60 2 (ah L),.rw 3 1 (ints H)]) ((by have e:=o3 (by omega) aq.2.1;rw [h6] at e;rw [vn (we e (by omega) h1 h7)];unfold yS mO;rw [e]<;>rfl)) ((by have e:=o3 (by omega) aq.2.1;rw [h6] at e;rw [vn (we e (by omega) h1 h7)];unfold xZ mO;rw [e]<;>rfl)) ?_
        exact bp tk mo hK rfl ao [(9,[(0,.b false)]),(18,[(1,.b false),(8,.call [.ag [.n ((aR (cO line) 255).1),.d (.ro 2 (ah L)),.d (.ro 1 (ints H))]] (.v (.bool true)))])] 2000 [3,4] r (by kernel_rfl) (U h5 (U ((by rw [h6];rfl):(!(g))=false) (U ((by have k:=qw ⟨kj (cO line),L,H⟩ DL DM;rw [h7] at k;exact k):al Tryz.prog 21 [.ag [.n ((aR (cO line) 255).1),.d (.ro 2 (ah L)),.d (.ro 1 (ints H))]] (.v (.bool true))) (U ((jj _):gv (.v (.bool true))) (U (nh (.n ((aR (cO line) 255).1))) (U (ft (2)) (U ((by first | rfl | (simp [ah,ints];done) | (simp [ah,ints];omega)):(L.length)=(ah L:List (List DV)).length) (U ((by first | exact ou _ | exact ov _):c6 (ah L)=ah L) (U (ft (1)) (U ((by first | rfl | (simp [ah,ints];done) | (simp [ah,ints];omega)):(H.length)=(ints H).length) (U ((by first | exact ou _ | exact ov _):c6 (ints H)=ints H) trivial)))))))))))
     | true=>
      have fb:=of_decide_eq_true h5
      obtain ⟨cI,lf⟩:∃ x_,(er line)[i]?=some x_:=⟨_,List.getElem?_eq_getElem (by omega)⟩
      have DN:=BN hl lf
      exact cQ (todo':=hd Tryz.f47 0) (E':=[(2,.pt 0 0),(5,.pt 1 0),(6,.fn 81 [.pt 1 0]),(7,.pt 2 0),(8,.d (.v (.bool true))),(34,.d (.ro 1 (List.drop 2 (strs (aW 32 line))))),(35,.n ((er line).length)),(36,.n (i+1))]) (M':=[.bx 25 [.z 0,.d (.v (.slice none 0 0)),.d (.v (.slice none 0 0))],.bx 4 [.d (.v (.bool ((g&&(aR cI 255).2))))],.bx 25 [.n ((aR (cO line) 255).1),.sl 3 (L.length),.sl 4 (H.length+(1))],.rw 60 2 (ah L),.rw 3 1 (ints H++[[.n ((aR cI 255).1)]])]) tk mo hK ao [(9,[(0,.b true)]),(10,[(0,.ix (i) [.v (.string ⟨cI.toArray⟩)])]),(14,[(4,.mem [1] (.n ((aR cI 255).1)) [.bx 4 [.d (.v (.bool ((g&&(aR cI 255).2))))]])]),(17,[(0,.z (((i+1:Nat):Int)))])] 2000 [0,1,2,3,4] [2,5,6,7,8,34,35,36] r (by kernel_rfl) (U h5 (U (aC ((i:Nat):Int)) (U (uL lf) (U (sD cI g (by have:=vk cI;omega)) (U ((by first | rfl | (simp [ah,ints];done) | (simp [ah,ints];omega)):(H.length)=(ints H).length) (U ((by first | rfl | (simp [ah,ints];done) | (simp [ah,ints];omega)):(1)=([[.n ((aR cI 255).1)]]:List (List DV)).length) (U ((by first | omega | (simp [ah,ints];done) | (simp [ah,ints];omega)):(2*((H.length)+(1))+192)*8≤281474976710656) (U ((by first | omega | (simp [ah,ints];done) | (simp [ah,ints];omega)):(H.length)+(1)<4611686018427387904) (U ((by simp [aD,AV.one,bf,ae,ah,ints,steps,strs]):aD ([[.n ((aR cI 255).1)]])) (U ((wi (by omega)):IntKind.i64.wrap ((((i:Nat):Int):Int)+1)=((i+1:Nat):Int)) trivial)))))))))) fun ac wd r=>bH (by omega) ac wd ⟨L,(H++[(((aR cI 255).1:Nat):Int)]),true,(g&&(aR cI 255).2),⟨by omega,vj lf aq.2.1 (OC L H g cI),by omega,by simp;omega⟩,r.cast rfl (by simp [ah,ints])⟩
   intro hJ ac wd r
   have r:=r.fG (E1:=[(2,.pt 0 0),(3,.d (.v (.bool false)))]) (M1:=[.bx 25 [.z 0,.d (.v (.slice none 0 0)),.d (.v (.slice none 0 0))]]) (M2:=[.bx 25 [.z 0,.sl 1 (0),.sl 2 (0)],.rw 60 2 ([]),.rw 3 1 ([])]) [] [(0,1,60,2),(0,2,3,1)] (by kernel_rfl) (by kernel_rfl)
   refine bq (y:=.tu [.ag [.z 0,.sl 0 (0),.sl 1 (0)],.d (.v (.bool false))]) (N':=[.rw 60 2 ([]),.rw 3 1 ([])]) ((by rw [oT hJ];rfl)) ((by rw [oT hJ];rfl)) ?_
   exact bp tk mo hK rfl ao [] 2000 [1,2] r (by kernel_rfl) trivial
 | true=>
  have a7:=of_decide_eq_true h0
  refine b6 (todo':=aft Tryz.f47 3) (E':=[(2,.pt 0 0),(3,.d (.v (.bool false))),(4,.d (.ro 1 (strs (aW 32 line))))]) (M':=[.bx 25 [.z 0,.d (.v (.slice none 0 0)),.d (.v (.slice none 0 0))]]) tk mo hK ao [(1,[(1,.au (.ro 1 (strs (aW 32 line))))]),(2,[(1,.z ((((aW 32 line).length:Nat):Int))),(2,.b true)])] 10 [0] [2,3,4] r (by kernel_rfl) (U (sk 32 line hl) (U aM (U h0 trivial))) fun ac wd r=>?_
  have r:=r.fG (E1:=[(2,.pt 0 0),(3,.d (.v (.bool false))),(4,.d (.ro 1 (strs (aW 32 line))))]) (M1:=[.bx 25 [.z 0,.d (.v (.slice none 0 0)),.d (.v (.slice none 0 0))]]) (M2:=[.bx 25 [.z 0,.sl 1 (0),.sl 2 (0)],.rw 60 2 ([]),.rw 3 1 ([])]) [] [(0,1,60,2),(0,2,3,1)] (by kernel_rfl) (by kernel_rfl)
  refine bq (y:=.tu [.ag [.z 0,.sl 0 (0),.sl 1 (0)],.d (.v (.bool false))]) (N':=[.rw 60 2 ([]),.rw 3 1 ([])]) ((by rw [oT (BL (by omega))];rfl)) ((by rw [oT (BL (by omega))];rfl)) ?_
  exact bp tk mo hK rfl ao [] 2000 [1,2] r (by kernel_rfl) trivial
end Go.Proofs.YtcnpikbbmbombaaGreatDoor
namespace Go.Proofs.YtcnpikbbmbombaaGreatDoor
open Go.RowKit
theorem nn {z:Int} (h:0≤z) (h2:z≤65535):IntKind.u64.wrap z=((z.toNat:Nat):Int):=by
 simp [IntKind.wrap,IntKind.signed,IntKind.bits];omega
def mP (x:jZ) (s:aL):List (List UInt8):=(if x.node then [aV s.node] else [])++(if x.peer then [aV s.peer] else [])++(if x.n then [aV s.n] else [])++(if x.bit then [aV s.bit] else [])++(if x.inc then [Go.Lib.decDigits s.inc] else [])++(if x.body then [eE s.body] else [])
def b7 (s:aL):List (List UInt8):=(af s.kind.toNat).word::mP (af s.kind.toNat) s
theorem iH {l:List UInt8} {n:Nat} (h:l.length≤n):(eE l).length≤2*n+1:=by
 unfold eE;split
 ·simp
 ·rw [dq];omega
theorem AD (k:Nat):(af k).word.length≤7:=by
 rcases Nat.lt_or_ge k 14 with h | h
 ·exact kG (p:=fun k=>(af k).word.length≤7) (by decide) (by decide) (by decide) (by decide) (by decide) (by decide) (by decide) (by decide) (by decide) (by decide) (by decide) (by decide) (by decide) (by decide) h
 ·unfold af;rw [List.getD_eq_getElem?_getD,List.getElem?_eq_none (by simpa [eV] using h)];decide
theorem HE (x:jZ) (s:aL):(mP x s).length≤6:=by
 unfold mP
 simp only [List.length_append]
 have h1:∀ {b:Bool} {p:List (List UInt8)},p.length≤1→(if b=true then p else []).length≤1:=by
  intro b p h;split
  ·exact h
  ·simp
 have a1:=h1 (b:=x.node) (p:=[aV s.node]) (by simp)
 have a2:=h1 (b:=x.peer) (p:=[aV s.peer]) (by simp)
 have a3:=h1 (b:=x.n) (p:=[aV s.n]) (by simp)
 have a4:=h1 (b:=x.bit) (p:=[aV s.bit]) (by simp)
 have a5:=h1 (b:=x.inc) (p:=[Go.Lib.decDigits s.inc]) (by simp)
 have a6:=h1 (b:=x.body) (p:=[eE s.body]) (by simp)
 omega
theorem oE {s:aL} (hb:s.body.length≤255) (hi:s.inc<18446744073709551616) (h0:s.node≤65535) (h1:s.peer≤65535) (h2:s.n≤65535) (h3:s.bit≤65535):(b7 s).flatten.length≤3577∧(b7 s).length≤7:=by
 have hl:=HE (af s.kind.toNat) s
 have hn:(b7 s).length≤7:=by unfold b7;simp;omega
 refine ⟨?_,hn⟩
 have hd:∀ {z:Int},z≤65535→(aV z).length≤511:=fun {z} h=>by
  have:=gg z.toNat (by omega)
  unfold aV;omega
 have h:=zC (l:=b7 s) (n:=511) fun x hx=>by
  unfold b7 at hx
  rcases List.mem_cons.1 hx with rfl | hx
  ·exact Nat.le_trans (AD _) (by decide)
  ·unfold mP at hx
   simp only [List.mem_append] at hx
   have key:∀ {b:Bool} {w x:List UInt8},x ∈ (if b=true then [w] else [])→x=w:=by
    intro b w x h;split at h
    ·simpa using h
    ·simp at h
   rcases hx with ((((hx | hx) | hx) | hx) | hx) | hx
   ·rw [key hx];exact hd h0
   ·rw [key hx];exact hd h1
   ·rw [key hx];exact hd h2
   ·rw [key hx];exact hd h3
   ·rw [key hx];exact Nat.le_trans (gg _ hi) (by decide)
   ·rw [key hx];exact iH hb
 have:=Nat.mul_le_mul_left 511 hn
 omega
def mQ (b:Bool) (x:List UInt8) (l:List (List UInt8)):List (List UInt8):=cond b (l++[x]) l
theorem HF (b:Bool) (x:List UInt8) (l:List (List UInt8)):(mQ b x l).length≤l.length+1:=by cases b<;>simp [mQ]
theorem Jh (b:Bool) (x:List UInt8) (l:List (List UInt8)):mQ b x l=l++(if b=true then [x] else []):=by cases b<;>simp [mQ]
def oh (s:aL):Nat→Bool×List UInt8
 | 0=>((af s.kind.toNat).node,aV s.node)
 | 1=>((af s.kind.toNat).peer,aV s.peer)
 | 2=>((af s.kind.toNat).n,aV s.n)
 | 3=>((af s.kind.toNat).bit,aV s.bit)
 | _=>((af s.kind.toNat).inc,Go.Lib.decDigits s.inc)
def bg (s:aL):Nat→List (List UInt8)
 | 0=>[(af s.kind.toNat).word]
 | j+1=>mQ (oh s j).1 (oh s j).2 (bg s j)
theorem fR (s:aL):∀ j,(bg s j).length≤j+1
 | 0=>Nat.le_refl _
 | j+1=>Nat.le_trans (HF _ _ _) (Nat.succ_le_succ (fR s j))
theorem BO (s:aL):b7 s=mQ (af s.kind.toNat).body (eE s.body) (bg s 5):=by
 unfold b7 mP;simp only [bg,oh,Jh];simp
theorem qA {s:aL} {j:Nat} (h:(oh s j).1=true):strs (bg s (j+1))=strs (bg s j)++[[.v (.string ⟨(oh s j).2.toArray⟩)]]:=by rw [bg,h];simp [mQ,strs]
theorem qn {s:aL} {j:Nat} (h:(oh s j).1=true):(bg s (j+1)).length=(bg s j).length+1:=by rw [bg,h];simp [mQ]
theorem qB {s:aL} {j:Nat} (h:(oh s j).1=false):bg s (j+1)=bg s j:=by rw [bg,h];rfl
theorem Ch {s:aL} (h:(af s.kind.toNat).body=true):b7 s=bg s 5++[eE s.body]:=by rw [BO,h];rfl
theorem Ci {s:aL} (h:(af s.kind.toNat).body=false):b7 s=bg s 5:=by rw [BO,h];rfl
set_option maxRecDepth 100000 in
theorem EX (s:aL) (hb:s.body.length≤255) (hi:s.inc<18446744073709551616) (q6:0≤s.node) (pM:s.node≤65535) (DO:0≤s.peer) (pO:s.peer≤65535) (DP:0≤s.n) (pP:s.n≤65535) (eo:0≤s.bit) (fK:s.bit≤65535) (k0:0≤s.kind) (k1:s.kind<14):aE Tryz.prog 42 [.ag [.z s.kind,.z s.node,.z s.peer,.z s.n,.z s.bit,.u s.inc,.d (.ro 1 (ae s.body))]] [.gw 0 aj,.gw 1 bc] (.d (.v (.string ⟨(aQ (b7 s)).toArray⟩))) ([.gw 0 aj,.gw 1 bc]):=by
 refine aE.intro (by kernel_rfl) rfl rfl 58 rfl rfl fun D w0 K bs ac wd hK (ao:bs.m=2) r=>?_
 refine b6 (todo':=aft Tryz.f42 3) (E':=[(1,.pt 2 0),(2,.d (.v (.string .empty))),(3,.pt 3 0),(4,.pt 5 0),(5,.fn 72 [.pt 5 0])]) (M':=[.gw 0 aj,.gw 1 bc,.bx 42 [.z s.kind,.z s.node,.z s.peer,.z s.n,.z s.bit,.u s.inc,.d (.ro 1 (ae s.body))],.bx 94 [.d (.v (.string ⟨((af s.kind.toNat).word).toArray⟩)),.d (.v (.bool ((af s.kind.toNat).node))),.d (.v (.bool ((af s.kind.toNat).peer))),.d (.v (.bool ((af s.kind.toNat).n))),.d (.v (.bool ((af s.kind.toNat).bit))),.d (.v (.bool ((af s.kind.toNat).inc))),.d (.v (.bool ((af s.kind.toNat).body)))],.rw 9 1 ([[.v (.string ⟨((af s.kind.toNat).word).toArray⟩)]]),.bx 87 [.sl 4 (1)]]) tk mo hK ao [(1,[(2,.ix (s.kind.toNat) [.v (.string ⟨((af s.kind.toNat).word).toArray⟩),.v (.bool ((af s.kind.toNat).node)),.v (.bool ((af s.kind.toNat).peer)),.v (.bool ((af s.kind.toNat).n)),.v (.bool ((af s.kind.toNat).bit)),.v (.bool ((af s.kind.toNat).inc)),.v (.bool ((af s.kind.toNat).body))])])] 8 [0,1,2,3,4,5] [1,2,3,4,5] r (by kernel_rfl) (U ((by omega):(s.kind)=((s.kind.toNat:Nat):Int)) (U ((by omega):(s.kind.toNat)<14) (U (np (by omega):List.take 7 (List.drop ((s.kind.toNat)*7) (aj:List DV))=([.v (.string ⟨((af s.kind.toNat).word).toArray⟩),.v (.bool ((af s.kind.toNat).node)),.v (.bool ((af s.kind.toNat).peer)),.v (.bool ((af s.kind.toNat).n)),.v (.bool ((af s.kind.toNat).bit)),.v (.bool ((af s.kind.toNat).inc)),.v (.bool ((af s.kind.toNat).body))]:List DV)) trivial))) fun ac wd r=>?_
 suffices J4:∀ ac wd,RB D w0 K 58 bs [(1,.pt 2 0),(3,.pt 3 0),(4,.pt 4 0),(5,.fn 72 [.pt 4 0])] [.gw 0 aj,.gw 1 bc,.bx 42 [.z s.kind,.z s.node,.z s.peer,.z s.n,.z s.bit,.u s.inc,.d (.ro 1 (ae s.body))],.bx 94 [.d (.v (.string ⟨((af s.kind.toNat).word).toArray⟩)),.d (.v (.bool ((af s.kind.toNat).node))),.d (.v (.bool ((af s.kind.toNat).peer))),.d (.v (.bool ((af s.kind.toNat).n))),.d (.v (.bool ((af s.kind.toNat).bit))),.d (.v (.bool ((af s.kind.toNat).inc))),.d (.v (.bool ((af s.kind.toNat).body)))],.bx 87 [.sl 5 ((bg s 1).length)],.rw 9 1 (strs (bg s 1))] ac wd→aF Tryz.prog 42 (aft Tryz.f42 4) (eZ D w0 K bs (.d (.v (.string ⟨(aQ (b7 s)).toArray⟩))) ([.gw 0 aj,.gw 1 bc])) ac wd by
  cases h0:((af s.kind.toNat).node) with
  | false=>
   have r:=r.cast (M':=[.gw 0 aj,.gw 1 bc,.bx 42 [.z s.kind,.z s.node,.z s.peer,.z s.n,.z s.bit,.u s.inc,.d (.ro 1 (ae s.body))],.bx 94 [.d (.v (.string ⟨((af s.kind.toNat).word).toArray⟩)),.d (.v (.bool false)),.d (.v (.bool ((af s.kind.toNat).peer))),.d (.v (.bool ((af s.kind.toNat).n))),.d (.v (.bool ((af s.kind.toNat).bit))),.d (.v (.bool ((af s.kind.toNat).inc))),.d (.v (.bool ((af s.kind.toNat).body)))],.rw 9 1 ([[.v (.string ⟨((af s.kind.toNat).word).toArray⟩)]]),.bx 87 [.sl 4 (1)]]) rfl (by rw [h0])
   refine b6 (todo':=aft Tryz.f42 4) (E':=[(1,.pt 2 0),(3,.pt 3 0),(4,.pt 4 0),(5,.fn 72 [.pt 4 0])]) (M':=[.gw 0 aj,.gw 1 bc,.bx 42 [.z s.kind,.z s.node,.z s.peer,.z s.n,.z s.bit,.u s.inc,.d (.ro 1 (ae s.body))],.bx 94 [.d (.v (.string ⟨((af s.kind.toNat).word).toArray⟩)),.d (.v (.bool false)),.d (.v (.bool ((af s.kind.toNat).peer))),.d (.v (.bool ((af s.kind.toNat).n))),.d (.v (.bool ((af s.kind.toNat).bit))),.d (.v (.bool ((af s.kind.toNat).inc))),.d (.v (.bool ((af s.kind.toNat).body)))],.bx 87 [.sl 5 (1)],.rw 9 1 ([[.v (.string ⟨((af s.kind.toNat).word).toArray⟩)]])]) tk mo hK ao [(4,[(5,.z (((s.node.toNat:Nat):Int))),(6,.bX 200 [])])] 2 [0,1,2,3,5,4] [1,3,4,5] r (by kernel_rfl) (U ((nn q6 pM):IntKind.u64.wrap (s.node)=((s.node.toNat:Nat):Int)) trivial) fun ac wd r=>?_
   exact J4 ac wd (r.cast rfl (by rw [qB (j:=0) h0,h0]<;>rfl))
  | true=>
   have r:=r.cast (M':=[.gw 0 aj,.gw 1 bc,.bx 42 [.z s.kind,.z s.node,.z s.peer,.z s.n,.z s.bit,.u s.inc,.d (.ro 1 (ae s.body))],.bx 94 [.d (.v (.string ⟨((af s.kind.toNat).word).toArray⟩)),.d (.v (.bool true)),.d (.v (.bool ((af s.kind.toNat).peer))),.d (.v (.bool ((af s.kind.toNat).n))),.d (.v (.bool ((af s.kind.toNat).bit))),.d (.v (.bool ((af s.kind.toNat).inc))),.d (.v (.bool ((af s.kind.toNat).body)))],.rw 9 1 ([[.v (.string ⟨((af s.kind.toNat).word).toArray⟩)]]),.bx 87 [.sl 4 (1)]]) rfl (by rw [h0])
   refine b6 (todo':=aft Tryz.f42 4) (E':=[(1,.pt 2 0),(3,.pt 3 0),(4,.pt 4 0),(5,.fn 72 [.pt 4 0])]) (M':=[.gw 0 aj,.gw 1 bc,.bx 42 [.z s.kind,.z s.node,.z s.peer,.z s.n,.z s.bit,.u s.inc,.d (.ro 1 (ae s.body))],.bx 94 [.d (.v (.string ⟨((af s.kind.toNat).word).toArray⟩)),.d (.v (.bool true)),.d (.v (.bool ((af s.kind.toNat).peer))),.d (.v (.bool ((af s.kind.toNat).n))),.d (.v (.bool ((af s.kind.toNat).bit))),.d (.v (.bool ((af s.kind.toNat).inc))),.d (.v (.bool ((af s.kind.toNat).body)))],.bx 87 [.sl 5 (1+(1))],.rw 9 1 ([[.v (.string ⟨((af s.kind.toNat).word).toArray⟩)]]++[[.v (.string ⟨(Go.Lib.decDigits s.node.toNat).toArray⟩)]])]) tk mo hK ao [(4,[(5,.z (((s.node.toNat:Nat):Int))),(6,.bX 200 [(1,[(2,.mem [1] (.d (.v (.string ⟨(Go.Lib.decDigits s.node.toNat).toArray⟩))) [.gw 1 bc])])])])] 2 [0,1,2,3,5,4] [1,3,4,5] r (by kernel_rfl) (U ((nn q6 pM):IntKind.u64.wrap (s.node)=((s.node.toNat:Nat):Int)) (U (qM s.node.toNat (by omega)) (U ((by first | rfl | (simp [strs];done) | (simp [strs];omega)):(1)=([[.v (.string ⟨((af s.kind.toNat).word).toArray⟩)]]:List (List DV)).length) (U ((by first | rfl | (simp [strs];done) | (simp [strs];omega)):(1)=([[.v (.string ⟨(Go.Lib.decDigits s.node.toNat).toArray⟩)]]:List (List DV)).length) (U ((by first | omega | (simp [strs];done) | (have:=fR s 5;simp [strs];omega)):(2*((1)+(1))+192)*16≤281474976710656) (U ((by first | omega | (simp [strs];done) | (have:=fR s 5;simp [strs];omega)):(1)+(1)<4611686018427387904) (U ((by simp [aD,AV.one,bf,ae,ah,ints,steps,strs]):aD ([[.v (.string ⟨(Go.Lib.decDigits s.node.toNat).toArray⟩)]])) trivial))))))) fun ac wd r=>?_
   exact J4 ac wd (r.cast rfl (by rw [qA (j:=0) h0,qn (j:=0) h0,h0]<;>rfl))
 intro ac wd r
 have PS:=fR s 1
 suffices J5:∀ ac wd,RB D w0 K 58 bs [(1,.pt 2 0),(3,.pt 3 0),(4,.pt 4 0),(5,.fn 72 [.pt 4 0])] [.gw 0 aj,.gw 1 bc,.bx 42 [.z s.kind,.z s.node,.z s.peer,.z s.n,.z s.bit,.u s.inc,.d (.ro 1 (ae s.body))],.bx 94 [.d (.v (.string ⟨((af s.kind.toNat).word).toArray⟩)),.d (.v (.bool ((af s.kind.toNat).node))),.d (.v (.bool ((af s.kind.toNat).peer))),.d (.v (.bool ((af s.kind.toNat).n))),.d (.v (.bool ((af s.kind.toNat).bit))),.d (.v (.bool ((af s.kind.toNat).inc))),.d (.v (.bool ((af s.kind.toNat).body)))],.bx 87 [.sl 5 ((bg s 2).length)],.rw 9 1 (strs (bg s 2))] ac wd→aF Tryz.prog 42 (aft Tryz.f42 5) (eZ D w0 K bs (.d (.v (.string ⟨(aQ (b7 s)).toArray⟩))) ([.gw 0 aj,.gw 1 bc])) ac wd by
  cases h1:((af s.kind.toNat).peer) with
  | false=>
   have r:=r.cast (M':=[.gw 0 aj,.gw 1 bc,.bx 42 [.z s.kind,.z s.node,.z s.peer,.z s.n,.z s.bit,.u s.inc,.d (.ro 1 (ae s.body))],.bx 94 [.d (.v (.string ⟨((af s.kind.toNat).word).toArray⟩)),.d (.v (.bool ((af s.kind.toNat).node))),.d (.v (.bool false)),.d (.v (.bool ((af s.kind.toNat).n))),.d (.v (.bool ((af s.kind.toNat).bit))),.d (.v (.bool ((af s.kind.toNat).inc))),.d (.v (.bool ((af s.kind.toNat).body)))],.bx 87 [.sl 5 ((bg s 1).length)],.rw 9 1 (strs (bg s 1))]) rfl (by rw [h1])
   refine b6 (todo':=aft Tryz.f42 5) (E':=[(1,.pt 2 0),(3,.pt 3 0),(4,.pt 4 0),(5,.fn 72 [.pt 4 0])]) (M':=[.gw 0 aj,.gw 1 bc,.bx 42 [.z s.kind,.z s.node,.z s.peer,.z s.n,.z s.bit,.u s.inc,.d (.ro 1 (ae s.body))],.bx 94 [.d (.v (.string ⟨((af s.kind.toNat).word).toArray⟩)),.d (.v (.bool ((af s.kind.toNat).node))),.d (.v (.bool false)),.d (.v (.bool ((af s.kind.toNat).n))),.d (.v (.bool ((af s.kind.toNat).bit))),.d (.v (.bool ((af s.kind.toNat).inc))),.d (.v (.bool ((af s.kind.toNat).body)))],.bx 87 [.sl 5 ((bg s 1).length)],.rw 9 1 (strs (bg s 1))]) tk mo hK ao [(5,[(5,.z (((s.peer.toNat:Nat):Int))),(6,.bX 200 [])])] 2 [0,1,2,3,4,5] [1,3,4,5] r (by kernel_rfl) (U ((nn DO pO):IntKind.u64.wrap (s.peer)=((s.peer.toNat:Nat):Int)) trivial) fun ac wd r=>?_
   exact J5 ac wd (r.cast rfl (by rw [qB (j:=1) h1,h1]<;>rfl))
  | true=>
   have r:=r.cast (M':=[.gw 0 aj,.gw 1 bc,.bx 42 [.z s.kind,.z s.node,.z s.peer,.z s.n,.z s.bit,.u s.inc,.d (.ro 1 (ae s.body))],.bx 94 [.d (.v (.string ⟨((af s.kind.toNat).word).toArray⟩)),.d (.v (.bool ((af s.kind.toNat).node))),.d (.v (.bool true)),.d (.v (.bool ((af s.kind.toNat).n))),.d (.v (.bool ((af s.kind.toNat).bit))),.d (.v (.bool ((af s.kind.toNat).inc))),.d (.v (.bool ((af s.kind.toNat).body)))],.bx 87 [.sl 5 ((bg s 1).length)],.rw 9 1 (strs (bg s 1))]) rfl (by rw [h1])
   refine b6 (todo':=aft Tryz.f42 5) (E':=[(1,.pt 2 0),(3,.pt 3 0),(4,.pt 4 0),(5,.fn 72 [.pt 4 0])]) (M':=[.gw 0 aj,.gw 1 bc,.bx 42 [.z s.kind,.z s.node,.z s.peer,.z s.n,.z s.bit,.u s.inc,.d (.ro 1 (ae s.body))],.bx 94 [.d (.v (.string ⟨((af s.kind.toNat).word).toArray⟩)),.d (.v (.bool ((af s.kind.toNat).node))),.d (.v (.bool true)),.d (.v (.bool ((af s.kind.toNat).n))),.d (.v (.bool ((af s.kind.toNat).bit))),.d (.v (.bool ((af s.kind.toNat).inc))),.d (.v (.bool ((af s.kind.toNat).body)))],.bx 87 [.sl 5 ((bg s 1).length+(1))],.rw 9 1 (strs (bg s 1)++[[.v (.string ⟨(Go.Lib.decDigits s.peer.toNat).toArray⟩)]])]) tk mo hK ao [(5,[(5,.z (((s.peer.toNat:Nat):Int))),(6,.bX 200 [(1,[(2,.mem [1] (.d (.v (.string ⟨(Go.Lib.decDigits s.peer.toNat).toArray⟩))) [.gw 1 bc])])])])] 2 [0,1,2,3,4,5] [1,3,4,5] r (by kernel_rfl) (U ((nn DO pO):IntKind.u64.wrap (s.peer)=((s.peer.toNat:Nat):Int)) (U (qM s.peer.toNat (by omega)) (U ((by first | rfl | (simp [strs];done) | (simp [strs];omega)):((bg s 1).length)=(strs (bg s 1):List (List DV)).length) (U ((by first | rfl | (simp [strs];done) | (simp [strs];omega)):(1)=([[.v (.string ⟨(Go.Lib.decDigits s.peer.toNat).toArray⟩)]]:List (List DV)).length) (U ((by first | omega | (simp [strs];done) | (have:=fR s 5;simp [strs];omega)):(2*(((bg s 1).length)+(1))+192)*16≤281474976710656) (U ((by first | omega | (simp [strs];done) | (have:=fR s 5;simp [strs];omega)):((bg s 1).length)+(1)<4611686018427387904) (U ((by simp [aD,AV.one,bf,ae,ah,ints,steps,strs]):aD ([[.v (.string ⟨(Go.Lib.decDigits s.peer.toNat).toArray⟩)]])) trivial))))))) fun ac wd r=>?_
   exact J5 ac wd (r.cast rfl (by rw [qA (j:=1) h1,qn (j:=1) h1,h1]<;>rfl))
 intro ac wd r
 have Ok:=fR s 2
 suffices J6:∀ ac wd,RB D w0 K 58 bs [(1,.pt 2 0),(3,.pt 3 0),(4,.pt 4 0),(5,.fn 72 [.pt 4 0])] [.gw 0 aj,.gw 1 bc,.bx 42 [.z s.kind,.z s.node,.z s.peer,.z s.n,.z s.bit,.u s.inc,.d (.ro 1 (ae s.body))],.bx 94 [.d (.v (.string ⟨((af s.kind.toNat).word).toArray⟩)),.d (.v (.bool ((af s.kind.toNat).node))),.d (.v (.bool ((af s.kind.toNat).peer))),.d (.v (.bool ((af s.kind.toNat).n))),.d (.v (.bool ((af s.kind.toNat).bit))),.d (.v (.bool ((af s.kind.toNat).inc))),.d (.v (.bool ((af s.kind.toNat).body)))],.bx 87 [.sl 5 ((bg s 3).length)],.rw 9 1 (strs (bg s 3))] ac wd→aF Tryz.prog 42 (aft Tryz.f42 6) (eZ D w0 K bs (.d (.v (.string ⟨(aQ (b7 s)).toArray⟩))) ([.gw 0 aj,.gw 1 bc])) ac wd by
  cases h2:((af s.kind.toNat).n) with
  | false=>
   have r:=r.cast (M':=[.gw 0 aj,.gw 1 bc,.bx 42 [.z s.kind,.z s.node,.z s.peer,.z s.n,.z s.bit,.u s.inc,.d (.ro 1 (ae s.body))],.bx 94 [.d (.v (.string ⟨((af s.kind.toNat).word).toArray⟩)),.d (.v (.bool ((af s.kind.toNat).node))),.d (.v (.bool ((af s.kind.toNat).peer))),.d (.v (.bool false)),.d (.v (.bool ((af s.kind.toNat).bit))),.d (.v (.bool ((af s.kind.toNat).inc))),.d (.v (.bool ((af s.kind.toNat).body)))],.bx 87 [.sl 5 ((bg s 2).length)],.rw 9 1 (strs (bg s 2))]) rfl (by rw [h2])
   refine b6 (todo':=aft Tryz.f42 6) (E':=[(1,.pt 2 0),(3,.pt 3 0),(4,.pt 4 0),(5,.fn 72 [.pt 4 0])]) (M':=[.gw 0 aj,.gw 1 bc,.bx 42 [.z s.kind,.z s.node,.z s.peer,.z s.n,.z s.bit,.u s.inc,.d (.ro 1 (ae s.body))],.bx 94 [.d (.v (.string ⟨((af s.kind.toNat).word).toArray⟩)),.d (.v (.bool ((af s.kind.toNat).node))),.d (.v (.bool ((af s.kind.toNat).peer))),.d (.v (.bool false)),.d (.v (.bool ((af s.kind.toNat).bit))),.d (.v (.bool ((af s.kind.toNat).inc))),.d (.v (.bool ((af s.kind.toNat).body)))],.bx 87 [.sl 5 ((bg s 2).length)],.rw 9 1 (strs (bg s 2))]) tk mo hK ao [(6,[(5,.z (((s.n.toNat:Nat):Int))),(6,.bX 200 [])])] 2 [0,1,2,3,4,5] [1,3,4,5] r (by kernel_rfl) (U ((nn DP pP):IntKind.u64.wrap (s.n)=((s.n.toNat:Nat):Int)) trivial) fun ac wd r=>?_
   exact J6 ac wd (r.cast rfl (by rw [qB (j:=2) h2,h2]<;>rfl))
  | true=>
   have r:=r.cast (M':=[.gw 0 aj,.gw 1 bc,.bx 42 [.z s.kind,.z s.node,.z s.peer,.z s.n,.z s.bit,.u s.inc,.d (.ro 1 (ae s.body))],.bx 94 [.d (.v (.string ⟨((af s.kind.toNat).word).toArray⟩)),.d (.v (.bool ((af s.kind.toNat).node))),.d (.v (.bool ((af s.kind.toNat).peer))),.d (.v (.bool true)),.d (.v (.bool ((af s.kind.toNat).bit))),.d (.v (.bool ((af s.kind.toNat).inc))),.d (.v (.bool ((af s.kind.toNat).body)))],.bx 87 [.sl 5 ((bg s 2).length)],.rw 9 1 (strs (bg s 2))]) rfl (by rw [h2])
   refine b6 (todo':=aft Tryz.f42 6) (E':=[(1,.pt 2 0),(3,.pt 3 0),(4,.pt 4 0),(5,.fn 72 [.pt 4 0])]) (M':=[.gw 0 aj,.gw 1 bc,.bx 42 [.z s.kind,.z s.node,.z s.peer,.z s.n,.z s.bit,.u s.inc,.d (.ro 1 (ae s.body))],.bx 94 [.d (.v (.string ⟨((af s.kind.toNat).word).toArray⟩)),.d (.v (.bool ((af s.kind.toNat).node))),.d (.v (.bool ((af s.kind.toNat).peer))),.d (.v (.bool true)),.d (.v (.bool ((af s.kind.toNat).bit))),.d (.v (.bool ((af s.kind.toNat).inc))),.d (.v (.bool ((af s.kind.toNat).body)))],.bx 87 [.sl 5 ((bg s 2).length+(1))],.rw 9 1 (strs (bg s 2)++[[.v (.string ⟨(Go.Lib.decDigits s.n.toNat).toArray⟩)]])]) tk mo hK ao [(6,[(5,.z (((s.n.toNat:Nat):Int))),(6,.bX 200 [(1,[(2,.mem [1] (.d (.v (.string ⟨(Go.Lib.decDigits s.n.toNat).toArray⟩))) [.gw 1 bc])])])])] 2 [0,1,2,3,4,5] [1,3,4,5] r (by kernel_rfl) (U ((nn DP pP):IntKind.u64.wrap (s.n)=((s.n.toNat:Nat):Int)) (U (qM s.n.toNat (by omega)) (U ((by first | rfl | (simp [strs];done) | (simp [strs];omega)):((bg s 2).length)=(strs (bg s 2):List (List DV)).length) (U ((by first | rfl | (simp [strs];done) | (simp [strs];omega)):(1)=([[.v (.string ⟨(Go.Lib.decDigits s.n.toNat).toArray⟩)]]:List (List DV)).length) (U ((by first | omega | (simp [strs];done) | (have:=fR s 5;simp [strs];omega)):(2*(((bg s 2).length)+(1))+192)*16≤281474976710656) (U ((by first | omega | (simp [strs];done) | (have:=fR s 5;simp [strs];omega)):((bg s 2).length)+(1)<4611686018427387904) (U ((by simp [aD,AV.one,bf,ae,ah,ints,steps,strs]):aD ([[.v (.string ⟨(Go.Lib.decDigits s.n.toNat).toArray⟩)]])) trivial))))))) fun ac wd r=>?_
   exact J6 ac wd (r.cast rfl (by rw [qA (j:=2) h2,qn (j:=2) h2,h2]<;>rfl))
 intro ac wd r
 have yL:=fR s 3
 suffices J7:∀ ac wd,RB D w0 K 58 bs [(1,.pt 2 0),(3,.pt 3 0),(4,.pt 4 0),(5,.fn 72 [.pt 4 0])] [.gw 0 aj,.gw 1 bc,.bx 42 [.z s.kind,.z s.node,.z s.peer,.z s.n,.z s.bit,.u s.inc,.d (.ro 1 (ae s.body))],.bx 94 [.d (.v (.string ⟨((af s.kind.toNat).word).toArray⟩)),.d (.v (.bool ((af s.kind.toNat).node))),.d (.v (.bool ((af s.kind.toNat).peer))),.d (.v (.bool ((af s.kind.toNat).n))),.d (.v (.bool ((af s.kind.toNat).bit))),.d (.v (.bool ((af s.kind.toNat).inc))),.d (.v (.bool ((af s.kind.toNat).body)))],.bx 87 [.sl 5 ((bg s 4).length)],.rw 9 1 (strs (bg s 4))] ac wd→aF Tryz.prog 42 (aft Tryz.f42 7) (eZ D w0 K bs (.d (.v (.string ⟨(aQ (b7 s)).toArray⟩))) ([.gw 0 aj,.gw 1 bc])) ac wd by
  cases h3:((af s.kind.toNat).bit) with
  | false=>
   have r:=r.cast (M':=[.gw 0 aj,.gw 1 bc,.bx 42 [.z s.kind,.z s.node,.z s.peer,.z s.n,.z s.bit,.u s.inc,.d (.ro 1 (ae s.body))],.bx 94 [.d (.v (.string ⟨((af s.kind.toNat).word).toArray⟩)),.d (.v (.bool ((af s.kind.toNat).node))),.d (.v (.bool ((af s.kind.toNat).peer))),.d (.v (.bool ((af s.kind.toNat).n))),.d (.v (.bool false)),.d (.v (.bool ((af s.kind.toNat).inc))),.d (.v (.bool ((af s.kind.toNat).body)))],.bx 87 [.sl 5 ((bg s 3).length)],.rw 9 1 (strs (bg s 3))]) rfl (by rw [h3])
   refine b6 (todo':=aft Tryz.f42 7) (E':=[(1,.pt 2 0),(3,.pt 3 0),(4,.pt 4 0),(5,.fn 72 [.pt 4 0])]) (M':=[.gw 0 aj,.gw 1 bc,.bx 42 [.z s.kind,.z s.node,.z s.peer,.z s.n,.z s.bit,.u s.inc,.d (.ro 1 (ae s.body))],.bx 94 [.d (.v (.string ⟨((af s.kind.toNat).word).toArray⟩)),.d (.v (.bool ((af s.kind.toNat).node))),.d (.v (.bool ((af s.kind.toNat).peer))),.d (.v (.bool ((af s.kind.toNat).n))),.d (.v (.bool false)),.d (.v (.bool ((af s.kind.toNat).inc))),.d (.v (.bool ((af s.kind.toNat).body)))],.bx 87 [.sl 5 ((bg s 3).length)],.rw 9 1 (strs (bg s 3))]) tk mo hK ao [(7,[(5,.z (((s.bit.toNat:Nat):Int))),(6,.bX 200 [])])] 2 [0,1,2,3,4,5] [1,3,4,5] r (by kernel_rfl) (U ((nn eo fK):IntKind.u64.wrap (s.bit)=((s.bit.toNat:Nat):Int)) trivial) fun ac wd r=>?_
   exact J7 ac wd (r.cast rfl (by rw [qB (j:=3) h3,h3]<;>rfl))
  | true=>
   have r:=r.cast (M':=[.gw 0 aj,.gw 1 bc,.bx 42 [.z s.kind,.z s.node,.z s.peer,.z s.n,.z s.bit,.u s.inc,.d (.ro 1 (ae s.body))],.bx 94 [.d (.v (.string ⟨((af s.kind.toNat).word).toArray⟩)),.d (.v (.bool ((af s.kind.toNat).node))),.d (.v (.bool ((af s.kind.toNat).peer))),.d (.v (.bool ((af s.kind.toNat).n))),.d (.v (.bool true)),.d (.v (.bool ((af s.kind.toNat).inc))),.d (.v (.bool ((af s.kind.toNat).body)))],.bx 87 [.sl 5 ((bg s 3).length)],.rw 9 1 (strs (bg s 3))]) rfl (by rw [h3])
   refine b6 (todo':=aft Tryz.f42 7) (E':=[(1,.pt 2 0),(3,.pt 3 0),(4,.pt 4 0),(5,.fn 72 [.pt 4 0])]) (M':=[.gw 0 aj,.gw 1 bc,.bx 42 [.z s.kind,.z s.node,.z s.peer,.z s.n,.z s.bit,.u s.inc,.d (.ro 1 (ae s.body))],.bx 94 [.d (.v (.string ⟨((af s.kind.toNat).word).toArray⟩)),.d (.v (.bool ((af s.kind.toNat).node))),.d (.v (.bool ((af s.kind.toNat).peer))),.d (.v (.bool ((af s.kind.toNat).n))),.d (.v (.bool true)),.d (.v (.bool ((af s.kind.toNat).inc))),.d (.v (.bool ((af s.kind.toNat).body)))],.bx 87 [.sl 5 ((bg s 3).length+(1))],.rw 9 1 (strs (bg s 3)++[[.v (.string ⟨(Go.Lib.decDigits s.bit.toNat).toArray⟩)]])]) tk mo hK ao [(7,[(5,.z (((s.bit.toNat:Nat):Int))),(6,.bX 200 [(1,[(2,.mem [1] (.d (.v (.string ⟨(Go.Lib.decDigits s.bit.toNat).toArray⟩))) [.gw 1 bc])])])])] 2 [0,1,2,3,4,5] [1,3,4,5] r (by kernel_rfl) (U ((nn eo fK):IntKind.u64.wrap (s.bit)=((s.bit.toNat:Nat):Int)) (U (qM s.bit.toNat (by omega)) (U ((by first | rfl | (simp [strs];done) | (simp [strs];omega)):((bg s 3).length)=(strs (bg s 3):List (List DV)).length) (U ((by first | rfl | (simp [strs];done) | (simp [strs];omega)):(1)=([[.v (.string ⟨(Go.Lib.decDigits s.bit.toNat).toArray⟩)]]:List (List DV)).length) (U ((by first | omega | (simp [strs];done) | (have:=fR s 5;simp [strs];omega)):(2*(((bg s 3).length)+(1))+192)*16≤281474976710656) (U ((by first | omega | (simp [strs];done) | (have:=fR s 5;simp [strs];omega)):((bg s 3).length)+(1)<4611686018427387904) (U ((by simp [aD,AV.one,bf,ae,ah,ints,steps,strs]):aD ([[.v (.string ⟨(Go.Lib.decDigits s.bit.toNat).toArray⟩)]])) trivial))))))) fun ac wd r=>?_
   exact J7 ac wd (r.cast rfl (by rw [qA (j:=3) h3,qn (j:=3) h3,h3]<;>rfl))
 intro ac wd r
 have Ol:=fR s 4
 suffices J8:∀ ac wd,RB D w0 K 58 bs [(1,.pt 2 0),(3,.pt 3 0),(4,.pt 4 0),(5,.fn 72 [.pt 4 0])] [.gw 0 aj,.gw 1 bc,.bx 42 [.z s.kind,.z s.node,.z s.peer,.z s.n,.z s.bit,.u s.inc,.d (.ro 1 (ae s.body))],.bx 94 [.d (.v (.string ⟨((af s.kind.toNat).word).toArray⟩)),.d (.v (.bool ((af s.kind.toNat).node))),.d (.v (.bool ((af s.kind.toNat).peer))),.d (.v (.bool ((af s.kind.toNat).n))),.d (.v (.bool ((af s.kind.toNat).bit))),.d (.v (.bool ((af s.kind.toNat).inc))),.d (.v (.bool ((af s.kind.toNat).body)))],.bx 87 [.sl 5 ((bg s 5).length)],.rw 9 1 (strs (bg s 5))] ac wd→aF Tryz.prog 42 (aft Tryz.f42 8) (eZ D w0 K bs (.d (.v (.string ⟨(aQ (b7 s)).toArray⟩))) ([.gw 0 aj,.gw 1 bc])) ac wd by
  cases h4:((af s.kind.toNat).inc) with
  | false=>
   have r:=r.cast (M':=[.gw 0 aj,.gw 1 bc,.bx 42 [.z s.kind,.z s.node,.z s.peer,.z s.n,.z s.bit,.u s.inc,.d (.ro 1 (ae s.body))],.bx 94 [.d (.v (.string ⟨((af s.kind.toNat).word).toArray⟩)),.d (.v (.bool ((af s.kind.toNat).node))),.d (.v (.bool ((af s.kind.toNat).peer))),.d (.v (.bool ((af s.kind.toNat).n))),.d (.v (.bool ((af s.kind.toNat).bit))),.d (.v (.bool false)),.d (.v (.bool ((af s.kind.toNat).body)))],.bx 87 [.sl 5 ((bg s 4).length)],.rw 9 1 (strs (bg s 4))]) rfl (by rw [h4])
   refine b6 (todo':=aft Tryz.f42 8) (E':=[(1,.pt 2 0),(3,.pt 3 0),(4,.pt 4 0),(5,.fn 72 [.pt 4 0])]) (M':=[.gw 0 aj,.gw 1 bc,.bx 42 [.z s.kind,.z s.node,.z s.peer,.z s.n,.z s.bit,.u s.inc,.d (.ro 1 (ae s.body))],.bx 94 [.d (.v (.string ⟨((af s.kind.toNat).word).toArray⟩)),.d (.v (.bool ((af s.kind.toNat).node))),.d (.v (.bool ((af s.kind.toNat).peer))),.d (.v (.bool ((af s.kind.toNat).n))),.d (.v (.bool ((af s.kind.toNat).bit))),.d (.v (.bool false)),.d (.v (.bool ((af s.kind.toNat).body)))],.bx 87 [.sl 5 ((bg s 4).length)],.rw 9 1 (strs (bg s 4))]) tk mo hK ao [(8,[(5,.bX 200 [])])] 2 [0,1,2,3,4,5] [1,3,4,5] r (by kernel_rfl) trivial fun ac wd r=>?_
   exact J8 ac wd (r.cast rfl (by rw [qB (j:=4) h4,h4]<;>rfl))
  | true=>
   have r:=r.cast (M':=[.gw 0 aj,.gw 1 bc,.bx 42 [.z s.kind,.z s.node,.z s.peer,.z s.n,.z s.bit,.u s.inc,.d (.ro 1 (ae s.body))],.bx 94 [.d (.v (.string ⟨((af s.kind.toNat).word).toArray⟩)),.d (.v (.bool ((af s.kind.toNat).node))),.d (.v (.bool ((af s.kind.toNat).peer))),.d (.v (.bool ((af s.kind.toNat).n))),.d (.v (.bool ((af s.kind.toNat).bit))),.d (.v (.bool true)),.d (.v (.bool ((af s.kind.toNat).body)))],.bx 87 [.sl 5 ((bg s 4).length)],.rw 9 1 (strs (bg s 4))]) rfl (by rw [h4])
   refine b6 (todo':=aft Tryz.f42 8) (E':=[(1,.pt 2 0),(3,.pt 3 0),(4,.pt 4 0),(5,.fn 72 [.pt 4 0])]) (M':=[.gw 0 aj,.gw 1 bc,.bx 42 [.z s.kind,.z s.node,.z s.peer,.z s.n,.z s.bit,.u s.inc,.d (.ro 1 (ae s.body))],.bx 94 [.d (.v (.string ⟨((af s.kind.toNat).word).toArray⟩)),.d (.v (.bool ((af s.kind.toNat).node))),.d (.v (.bool ((af s.kind.toNat).peer))),.d (.v (.bool ((af s.kind.toNat).n))),.d (.v (.bool ((af s.kind.toNat).bit))),.d (.v (.bool true)),.d (.v (.bool ((af s.kind.toNat).body)))],.bx 87 [.sl 5 ((bg s 4).length+(1))],.rw 9 1 (strs (bg s 4)++[[.v (.string ⟨(Go.Lib.decDigits s.inc).toArray⟩)]])]) tk mo hK ao [(8,[(5,.bX 200 [(1,[(2,.mem [1] (.d (.v (.string ⟨(Go.Lib.decDigits s.inc).toArray⟩))) [.gw 1 bc])])])])] 2 [0,1,2,3,4,5] [1,3,4,5] r (by kernel_rfl) (U (qM s.inc (by omega)) (U ((by first | rfl | (simp [strs];done) | (simp [strs];omega)):((bg s 4).length)=(strs (bg s 4):List (List DV)).length) (U ((by first | rfl | (simp [strs];done) | (simp [strs];omega)):(1)=([[.v (.string ⟨(Go.Lib.decDigits s.inc).toArray⟩)]]:List (List DV)).length) (U ((by first | omega | (simp [strs];done) | (have:=fR s 5;simp [strs];omega)):(2*(((bg s 4).length)+(1))+192)*16≤281474976710656) (U ((by first | omega | (simp [strs];done) | (have:=fR s 5;simp [strs];omega)):((bg s 4).length)+(1)<4611686018427387904) (U ((by simp [aD,AV.one,bf,ae,ah,ints,steps,strs]):aD ([[.v (.string ⟨(Go.Lib.decDigits s.inc).toArray⟩)]])) trivial)))))) fun ac wd r=>?_
   exact J8 ac wd (r.cast rfl (by rw [qA (j:=4) h4,qn (j:=4) h4,h4]<;>rfl))
 intro ac wd r
 have Om:=fR s 5
 refine b6 (todo':=aft Tryz.f42 9) (E':=[(1,.pt 2 0),(4,.pt 4 0),(49,.d (.v (.bool ((af s.kind.toNat).body))))]) (M':=[.gw 0 aj,.gw 1 bc,.bx 42 [.z s.kind,.z s.node,.z s.peer,.z s.n,.z s.bit,.u s.inc,.d (.ro 1 (ae s.body))],.bx 94 [.d (.v (.string ⟨((af s.kind.toNat).word).toArray⟩)),.d (.v (.bool ((af s.kind.toNat).node))),.d (.v (.bool ((af s.kind.toNat).peer))),.d (.v (.bool ((af s.kind.toNat).n))),.d (.v (.bool ((af s.kind.toNat).bit))),.d (.v (.bool ((af s.kind.toNat).inc))),.d (.v (.bool ((af s.kind.toNat).body)))],.bx 87 [.sl 5 ((bg s 5).length)],.rw 9 1 (strs (bg s 5))]) tk mo hK ao [] 3 [0,1,2,3,4,5] [1,4,49] r (by kernel_rfl) trivial fun ac wd r=>?_
 cases h5:((af s.kind.toNat).body) with
 | false=>
  have r:=r.cast (E':=[(1,.pt 2 0),(4,.pt 4 0),(49,.d (.v (.bool false)))]) (M':=[.gw 0 aj,.gw 1 bc,.bx 42 [.z s.kind,.z s.node,.z s.peer,.z s.n,.z s.bit,.u s.inc,.d (.ro 1 (ae s.body))],.bx 94 [.d (.v (.string ⟨((af s.kind.toNat).word).toArray⟩)),.d (.v (.bool ((af s.kind.toNat).node))),.d (.v (.bool ((af s.kind.toNat).peer))),.d (.v (.bool ((af s.kind.toNat).n))),.d (.v (.bool ((af s.kind.toNat).bit))),.d (.v (.bool ((af s.kind.toNat).inc))),.d (.v (.bool false))],.bx 87 [.sl 5 ((bg s 5).length)],.rw 9 1 (strs (bg s 5))]) (by rw [h5]) (by rw [h5])
  refine bq (y:=.d (.v (.string ⟨(aQ (b7 s)).toArray⟩))) (N':=[.gw 0 aj,.gw 1 bc]) (rfl) (rfl) ?_
  exact bp tk mo hK rfl ao [(11,[(1,.call [.d (.ro 1 (strs (b7 s))),.d (.v (.string ⟨([32]).toArray⟩))] (.v (.string ⟨(aQ (b7 s)).toArray⟩)))])] 2000 [0,1] r (by kernel_rfl) (U (wa _ _ (Nat.le_trans (Nat.le_of_succ_le (oE (s:=s) hb hi pM pO pP fK).2) (by decide)) (Nat.le_trans (oE (s:=s) hb hi pM pO pP fK).1 (by decide)):al Tryz.prog 71 [.d (.ro 1 (strs (b7 s))),.d (.v (.string ⟨([32]).toArray⟩))] (.v (.string ⟨(aQ (b7 s)).toArray⟩))) (U ((jj _):gv (.v (.string ⟨(aQ (b7 s)).toArray⟩))) (U (ft (1)) (U ((by first | rfl | (simp [strs];done) | (simp [strs];omega)):((bg s 5).length)=(strs (bg s 5):List (List DV)).length) (U ((by first | (rw [Ci (by assumption)];simp [strs,kx,ew];done) | (rw [Ch (by assumption)];simp [strs,kx,ew])):c6 (strs (bg s 5))=strs (b7 s)) (U (nh (.v (.string ⟨([32]).toArray⟩))) trivial))))))
 | true=>
  have r:=r.cast (E':=[(1,.pt 2 0),(4,.pt 4 0),(49,.d (.v (.bool true)))]) (M':=[.gw 0 aj,.gw 1 bc,.bx 42 [.z s.kind,.z s.node,.z s.peer,.z s.n,.z s.bit,.u s.inc,.d (.ro 1 (ae s.body))],.bx 94 [.d (.v (.string ⟨((af s.kind.toNat).word).toArray⟩)),.d (.v (.bool ((af s.kind.toNat).node))),.d (.v (.bool ((af s.kind.toNat).peer))),.d (.v (.bool ((af s.kind.toNat).n))),.d (.v (.bool ((af s.kind.toNat).bit))),.d (.v (.bool ((af s.kind.toNat).inc))),.d (.v (.bool true))],.bx 87 [.sl 5 ((bg s 5).length)],.rw 9 1 (strs (bg s 5))]) (by rw [h5]) (by rw [h5])
  refine bq (y:=.d (.v (.string ⟨(aQ (b7 s)).toArray⟩))) (N':=[.gw 0 aj,.gw 1 bc]) (rfl) (rfl) ?_
  exact bp tk mo hK rfl ao [(10,[(3,.au (.v (.string ⟨(eE s.body).toArray⟩)))]),(11,[(1,.call [.d (.ro 1 (strs (b7 s))),.d (.v (.string ⟨([32]).toArray⟩))] (.v (.string ⟨(aQ (b7 s)).toArray⟩)))])] 2000 [0,1] r (by kernel_rfl) (U (EV s.body (by omega)) (U ((by first | rfl | (simp [strs];done) | (simp [strs];omega)):((bg s 5).length)=(strs (bg s 5):List (List DV)).length) (U ((by first | rfl | (simp [strs];done) | (simp [strs];omega)):(1)=([[.v (.string ⟨(eE s.body).toArray⟩)]]:List (List DV)).length) (U ((by first | omega | (simp [strs];done) | (have:=fR s 5;simp [strs];omega)):(2*(((bg s 5).length)+(1))+192)*16≤281474976710656) (U ((by first | omega | (simp [strs];done) | (have:=fR s 5;simp [strs];omega)):((bg s 5).length)+(1)<4611686018427387904) (U ((by simp [aD,AV.one,bf,ae,ah,ints,steps,strs]):aD ([[.v (.string ⟨(eE s.body).toArray⟩)]])) (U (wa _ _ (Nat.le_trans (Nat.le_of_succ_le (oE (s:=s) hb hi pM pO pP fK).2) (by decide)) (Nat.le_trans (oE (s:=s) hb hi pM pO pP fK).1 (by decide)):al Tryz.prog 71 [.d (.ro 1 (strs (b7 s))),.d (.v (.string ⟨([32]).toArray⟩))] (.v (.string ⟨(aQ (b7 s)).toArray⟩))) (U ((jj _):gv (.v (.string ⟨(aQ (b7 s)).toArray⟩))) (U (ft (1)) (U ((by first | rfl | (simp [strs];done) | (simp [strs];omega)):((bg s 5).length+(1))=(strs (bg s 5)++[[.v (.string ⟨(eE s.body).toArray⟩)]]:List (List DV)).length) (U ((by first | (rw [Ci (by assumption)];simp [strs,kx,ew];done) | (rw [Ch (by assumption)];simp [strs,kx,ew])):c6 (strs (bg s 5)++[[.v (.string ⟨(eE s.body).toArray⟩)]])=strs (b7 s)) (U (nh (.v (.string ⟨([32]).toArray⟩))) trivial))))))))))))
end Go.Proofs.YtcnpikbbmbombaaGreatDoor
namespace Go.Proofs.YtcnpikbbmbombaaGreatDoor
open Go.RowKit
def bZ (l:List aL):List UInt8:=l.flatMap fun s=>aQ (b7 s)++[10]
def j9 (c:bN) (l:List aL):List UInt8:=aQ (bo c)++[10]++bZ l
theorem pW {l:List aL} {i:Nat} {s:aL} (h:l[i]?=some s):bZ (l.take (i+1))=bZ (l.take i)++aQ (b7 s)++[10]:=by
 unfold bZ;rw [List.take_add_one,h];simp
theorem rQ (l:List (List UInt8)):(aQ l).length≤l.flatten.length+l.length:=by
 cases l with
 | nil=>simp [aQ]
 | cons x r=>simp only [aQ,List.length_append,qe,List.flatten_cons,List.length_cons];omega
theorem zD {c:bN} {l:List aL} (h:decide (ch c l=0)=true):bU c=true∧l.all hasB=true∧(dM c l).length≤65536:=by
 have h2:=Ht h
 have h:=of_decide_eq_true h
 unfold ch at h
 generalize bU c=a at h;generalize l.all hasB=b at h
 refine ⟨?_,?_,h2⟩<;>cases a<;>cases b<;>first | rfl | (simp at h)
theorem HG (s:aL):1≤(bd s).length:=by unfold bd;simp
theorem Bd (c:bN) (l:List aL):c.ah.length+c.homes.length+l.length≤(dM c l).length:=by
 have h:l.length≤(l.flatMap bd).length:=by
  induction l with
  | nil=>simp
  | cons x r ih=>rw [List.flatMap_cons,List.length_append,List.length_cons];have:=HG x;omega
 unfold dM;rw [List.length_append,uH];omega
set_option maxRecDepth 100000 in
theorem Mf (c:bN) (l:List aL) (hc:c.ah.length≤1048576) (hh:c.homes.length≤1048576) (hl:l.length≤9223372036854775807) (hr:∀ s ∈ l,s.Rd) (hE:decide (ch c l=0)=true) (hm:bU c=true) (ha:∀ s ∈ l,hasB s=true) (hn:c.ah.length+c.homes.length+l.length≤65536) (hj:(aQ (bo c)).length≤2818048):aE Tryz.prog 17 [.ag [.z c.az,.d (.ro 2 (ah c.ah)),.d (.ro 1 (ints c.homes))],.d (.ro 7 (steps l))] [.gw 0 aj,.gw 1 bc] (.tu [.d (.v (.string ⟨(j9 c l).toArray⟩)),.z 0]) ([.gw 0 aj,.gw 1 bc]):=by
 refine aE.intro (by kernel_rfl) rfl rfl 36 rfl rfl fun D w0 K bs ac wd hK (ao:bs.m=2) r=>?_
 refine cQ (todo':=hd Tryz.f17 0) (E':=[(8,.pt 2 0),(24,.d (.ro 7 (steps l))),(25,.n l.length),(26,.z 0)]) (M':=[.gw 0 aj,.gw 1 bc,.bx 71 [.pt 2 0,.sl 3 (((aQ (bo c))).length+(1))],.rw 5 1 (ae (aQ (bo c))++[[.v (.int .u8 10)]])]) tk mo hK ao [(1,[(2,.mem [0] (.tu [.sl 1 ((dM c l).length),.z 0]) [.gw 0 aj,.rw 5 1 (ae (dM c l))])]),(5,[(1,.au (.v (.string ⟨(aQ (bo c)).toArray⟩))),(2,.bX 200 [(1,[(1,.bX 200 [(1,[(2,.b true),(3,.b true),(4,.b false)])])])])]),(6,[(0,.bX 200 [(1,[(1,.bX 200 [])])])]),(7,[(1,.z (((l.length:Nat):Int)))])] 2000 [0,1,4,5] [8,24,25,26] r (by kernel_rfl) (U ((BF c l hc hh hl hr hE):aE Tryz.prog 11 [.ag [.z c.az,.d (.ro 2 (ah c.ah)),.d (.ro 1 (ints c.homes))],.d (.ro 7 (steps l))] [.gw 0 aj] (.tu [.sl 1 ((dM c l).length),.z 0]) [.gw 0 aj,.rw 5 1 (ae (dM c l))]) (U (FZ c hm (by omega)) (U (jM:c9 Tryz.prog 69) (U ((by kernel_rfl):(bif true then mE Tryz.prog 69 140 else mF Tryz.prog 69 140 71 2)=true) (U ((by decide):0<2) (U (xf:qu Tryz.prog 95) (U ((by kernel_rfl):(bif false then mE Tryz.prog 140 69 else mF Tryz.prog 140 69 71 2)=true) (U ((by decide):0<2) (U ((by first | omega | (simp [ae];done) | (simp [ae];omega)):(2*(0+((aQ (bo c))).length)+192)*1≤281474976710656) (U ((by first | omega | (simp [ae];done) | (simp [ae];omega)):0+((aQ (bo c))).length<4611686018427387904) (U (jM:c9 Tryz.prog 69) (U ((by kernel_rfl):js Tryz.prog 69=true) (U ((by first | rfl | (simp [ae];done) | (simp [ae];omega)):(((aQ (bo c))).length)=(ae (aQ (bo c))).length) (U ((by first | rfl | (simp [ae];done) | (simp [ae];omega)):(1)=([[.v (.int .u8 10)]]:List (List DV)).length) (U ((by first | omega | (simp [ae];done) | (simp [ae];omega)):(2*((((aQ (bo c))).length)+(1))+192)*1≤281474976710656) (U ((by first | omega | (simp [ae];done) | (simp [ae];omega)):(((aQ (bo c))).length)+(1)<4611686018427387904) (U ((by simp [aD,AV.one,bf,ae]):aD ([[.v (.int .u8 10)]])) (U ((by first | rfl | simp [ae,ah,ints,steps,strs]):(((steps l).length:Nat):Int)=((l.length:Nat):Int)) trivial)))))))))))))))))) fun ac wd r=>?_
 refine aF.rounds (Φ:=fun (i:Nat) ac wd=>(i≤l.length∧(aQ (bo c)++[10]++bZ (l.take i)).length≤2818049+4000*i)∧RB D w0 K 36 bs [(8,.pt 2 0),(24,.d (.ro 7 (steps l))),(25,.n l.length),(26,.n i)] [.gw 0 aj,.gw 1 bc,.bx 71 [.pt 2 0,.sl 3 ((aQ (bo c)++[10]++bZ (l.take i)).length)],.rw 5 1 (ae (aQ (bo c)++[10]++bZ (l.take i)))] ac wd) (l.length) ?_ (Nat.zero_le _) ⟨⟨Nat.zero_le _,by simp [bZ];omega⟩,(r).cast rfl (by simp [bZ,ae])⟩
 clear r
 rintro i dw bH ac wd ⟨aq,r⟩
 have hlen:=aq.2
 have OF:(aQ (bo c)++[10]++bZ (l.take i)).length=(aQ (bo c)).length+1+(bZ (l.take i)).length:=by simp;omega
 cases h0:(decide ((((i:Nat):Int):Int)<((l.length:Nat):Int))) with
 | false=>
  have a7:=of_decide_eq_false h0
  refine bq (y:=.tu [.d (.v (.string ⟨((aQ (bo c)++[10]++bZ (l.take i))).toArray⟩)),.z 0]) (N':=[.gw 0 aj,.gw 1 bc]) ((by rw [List.take_of_length_le (by omega)];rfl)) (rfl) ?_
  exact bp tk mo hK rfl ao [(8,[(0,.b false)]),(13,[(0,.bX 200 [(1,[(10,.res (.v (.string ⟨((aQ (bo c)++[10]++bZ (l.take i))).toArray⟩)))])])])] 2000 [0,1] r (by kernel_rfl) (U h0 (U ((by first | rfl | (simp [ae];done) | (simp [ae];omega)):((aQ (bo c)++[10]++bZ (l.take i)).length)=(ae (aQ (bo c)++[10]++bZ (l.take i)):List (List DV)).length) (U ((by first | omega | decide | (simp [ae];done) | (simp [ae];omega)):0<((aQ (bo c)++[10]++bZ (l.take i)).length)) (U ((by simp [ae]):((((aQ (bo c)++[10]++bZ (l.take i)).length:Nat):Int):Int)=(((ae (aQ (bo c)++[10]++bZ (l.take i)):List (List DV)).length:Nat):Int)) (U ((by first | omega | (simp [ae];done) | (simp [ae];omega)):0<(ae (aQ (bo c)++[10]++bZ (l.take i)):List (List DV)).length) (U (rfl:ae (aQ (bo c)++[10]++bZ (l.take i))=ae ((aQ (bo c)++[10]++bZ (l.take i)))) (U ((by kernel_rfl):qI Tryz.prog 121 5=true) (U ((by first | omega | decide | (simp [ae];done) | (simp [ae];omega)):(ae (aQ (bo c)++[10]++bZ (l.take i)):List (List DV)).length≤9223372036854775807) trivial))))))))
 | true=>
  have a7:=of_decide_eq_true h0
  obtain ⟨ay,bY⟩:∃ x_,l[i]?=some x_:=⟨_,List.getElem?_eq_getElem (by omega)⟩
  have eH:=(hr _ (List.mem_of_getElem? bY)).inc
  have yN:=sQ (ha _ (List.mem_of_getElem? bY))
  have dO:=oE (s:=ay) (by omega) (by omega) (by omega) (by omega) (by omega) (by omega)
  have q5:=rQ (b7 ay)
  exact cQ (todo':=hd Tryz.f17 0) (E':=[(8,.pt 2 0),(24,.d (.ro 7 (steps l))),(25,.n l.length),(26,.n (i+1))]) (M':=[.gw 0 aj,.gw 1 bc,.bx 71 [.pt 2 0,.sl 3 ((aQ (bo c)++[10]++bZ (l.take i)).length+((aQ (b7 ay))).length+(1))],.rw 5 1 (ae (aQ (bo c)++[10]++bZ (l.take i))++ae (aQ (b7 ay))++[[.v (.int .u8 10)]])]) tk mo hK ao [(8,[(0,.b true)]),(9,[(0,.ix (i) [.z ay.kind,.z ay.node,.z ay.peer,.z ay.n,.z ay.bit,.u ay.inc,.ro 1 (ae ay.body)])]),(10,[(1,.mem [0,1] (.d (.v (.string ⟨(aQ (b7 ay)).toArray⟩))) [.gw 0 aj,.gw 1 bc]),(2,.bX 200 [(1,[(1,.bX 200 [])])])]),(11,[(0,.bX 200 [(1,[(1,.bX 200 [])])])]),(12,[(0,.z (((i+1:Nat):Int)))])] 2000 [0,1,2,3] [8,24,25,26] r (by kernel_rfl) (U h0 (U (aC ((i:Nat):Int)) (U (jb bY) (U (EX ay (by omega) (by omega) (by omega) (by omega) (by omega) (by omega) (by omega) (by omega) (by omega) (by omega) (by omega) (by omega)) (U (jM:c9 Tryz.prog 69) (U ((by kernel_rfl):js Tryz.prog 69=true) (U ((by first | rfl | (simp [ae];done) | (simp [ae];omega)):((aQ (bo c)++[10]++bZ (l.take i)).length)=(ae (aQ (bo c)++[10]++bZ (l.take i)):List (List DV)).length) (U ((by first | omega | (simp [ae];done) | (simp [ae];omega)):(2*(((aQ (bo c)++[10]++bZ (l.take i)).length)+((aQ (b7 ay))).length)+192)*1≤281474976710656) (U ((by first | omega | (simp [ae];done) | (simp [ae];omega)):((aQ (bo c)++[10]++bZ (l.take i)).length)+((aQ (b7 ay))).length<4611686018427387904) (U (jM:c9 Tryz.prog 69) (U ((by kernel_rfl):js Tryz.prog 69=true) (U ((by first | rfl | (simp [ae];done) | (simp [ae];omega)):((aQ (bo c)++[10]++bZ (l.take i)).length+((aQ (b7 ay))).length)=(ae (aQ (bo c)++[10]++bZ (l.take i))++ae (aQ (b7 ay)):List (List DV)).length) (U ((by first | rfl | (simp [ae];done) | (simp [ae];omega)):(1)=([[.v (.int .u8 10)]]:List (List DV)).length) (U ((by first | omega | (simp [ae];done) | (simp [ae];omega)):(2*(((aQ (bo c)++[10]++bZ (l.take i)).length+((aQ (b7 ay))).length)+(1))+192)*1≤281474976710656) (U ((by first | omega | (simp [ae];done) | (simp [ae];omega)):((aQ (bo c)++[10]++bZ (l.take i)).length+((aQ (b7 ay))).length)+(1)<4611686018427387904) (U ((by simp [aD,AV.one,bf,ae]):aD ([[.v (.int .u8 10)]])) (U ((wi (by omega)):IntKind.i64.wrap ((((i:Nat):Int):Int)+1)=((i+1:Nat):Int)) trivial))))))))))))))))) fun ac wd r=>bH (by omega) ac wd ⟨⟨by omega,by rw [pW bY];simp at *;omega⟩,r.cast rfl (by rw [pW bY];simp [ae,Nat.add_assoc];omega)⟩
set_option maxRecDepth 100000 in
theorem Nn (c:bN) (l:List aL) (hc:c.ah.length≤1048576) (hh:c.homes.length≤1048576) (hl:l.length≤9223372036854775807) (hr:∀ s ∈ l,s.Rd) (hE:decide (ch c l=0)=false):aE Tryz.prog 17 [.ag [.z c.az,.d (.ro 2 (ah c.ah)),.d (.ro 1 (ints c.homes))],.d (.ro 7 (steps l))] [.gw 0 aj,.gw 1 bc] (.tu [.d (.v (.string ⟨[].toArray⟩)),.z (ch c l)]) ([.gw 0 aj,.gw 1 bc]):=by
 refine aE.intro (by kernel_rfl) rfl rfl 36 rfl rfl fun D w0 K bs ac wd hK (ao:bs.m=2) r=>?_
 have aM:=((LH c l hc hh hl hr hE):aE Tryz.prog 11 [.ag [.z c.az,.d (.ro 2 (ah c.ah)),.d (.ro 1 (ints c.homes))],.d (.ro 7 (steps l))] [.gw 0 aj] (.tu [.d (.ro 1 (ae [])),.z (ch c l)]) [.gw 0 aj])
 cases h0:((ch c l:Int) != 0) with
 | false=>
  have a7:=iG h0
  exact absurd a7 (of_decide_eq_false hE)
 | true=>
  have a7:¬ _=_:=bne_iff_ne.1 h0
  refine bq (y:=.tu [.d (.v (.string .empty)),.z (ch c l)]) (N':=[.gw 0 aj,.gw 1 bc]) (rfl) (rfl) ?_
  exact bp tk mo hK rfl ao [(1,[(2,.mem [0] (.tu [.d (.ro 1 (ae [])),.z (ch c l)]) [.gw 0 aj])]),(2,[(1,.b true)])] 2000 [0,1] r (by kernel_rfl) (U aM (U h0 trivial))
theorem Be {l:List aL} (h:l.all hasB=true):∀ s ∈ l,hasB s=true:=List.all_eq_true.1 h
theorem AE (c:bN) (l:List aL) (hc:c.ah.length≤1048576) (hh:c.homes.length≤1048576) (hl:l.length≤9223372036854775807) (hr:∀ s ∈ l,s.Rd) (hE:decide (ch c l=0)=true):aE Tryz.prog 17 [.ag [.z c.az,.d (.ro 2 (ah c.ah)),.d (.ro 1 (ints c.homes))],.d (.ro 7 (steps l))] [.gw 0 aj,.gw 1 bc] (.tu [.d (.v (.string ⟨(j9 c l).toArray⟩)),.z 0]) [.gw 0 aj,.gw 1 bc]:=by
 obtain ⟨h1,h2,h3⟩:=zD hE
 have h4:=Bd c l
 refine Mf c l hc hh hl hr hE h1 (Be h2) (by omega) ?_
 have h5:=uJ h1;have h6:=wb c;have h7:=rQ (bo c)
 omega
end Go.Proofs.YtcnpikbbmbombaaGreatDoor
namespace Go.Proofs.YtcnpikbbmbombaaGreatDoor
open Go.RowKit
theorem xh {u:Nat} (h:u<10):Go.Lib.decDigits u=[UInt8.ofNat (48+u)]:=by rw [Go.Lib.decDigits,dif_pos h]
theorem Cj {u:Nat} (h:¬ u<10):Go.Lib.decDigits u=Go.Lib.decDigits (u / 10)++[UInt8.ofNat (48+u%10)]:=by rw [Go.Lib.decDigits,dif_neg h]
end Go.Proofs.YtcnpikbbmbombaaGreatDoor
namespace Go.Proofs.YtcnpikbbmbombaaGreatDoor
open Go.RowKit
def fO (n:Nat):UInt8:=UInt8.ofNat (if n<10 then 48+n else 87+n)
end Go.Proofs.YtcnpikbbmbombaaGreatDoor
namespace Go.Proofs.YtcnpikbbmbombaaGreatDoor
open Go.RowKit
theorem CJ {n:Nat}:IntKind.u8.wrap ((n:Nat):Int)=(((UInt8.ofNat n).toNat:Nat):Int):=by
 rw [UInt8.toNat_ofNat'];simp [IntKind.wrap,IntKind.signed,IntKind.bits]
set_option maxRecDepth 100000 in
theorem Ck (n:Nat) (h:n<10):al Tryz.prog 75 [.u n] (.v (.string ⟨(Go.Lib.decDigits n).toArray⟩)):=by
 refine al.intro (by kernel_rfl) rfl rfl 20 rfl rfl fun w0 K ac hK r=>?_
 cases h0:(decide ((((n:Nat):Int):Int)<10)) with
 | false=>
  have a7:=of_decide_eq_false h0
  exact absurd a7 (by omega)
 | true=>
  have a7:=of_decide_eq_true h0
  rw [show (.v (.string ⟨(Go.Lib.decDigits n).toArray⟩):DV)=.v (.string ⟨([(UInt8.ofNat (48+n))]).toArray⟩) from (by rw [xh h])]
  exact aK tk mo hK rfl [(1,[(1,.b true)]),(2,[(1,.z (((48+n:Nat):Int))),(2,.z ((((UInt8.ofNat (48+n)).toNat:Nat):Int))),(4,.res (.v (.string ⟨([(UInt8.ofNat (48+n))]).toArray⟩)))])] 2000 r (by kernel_rfl) (U h0 (U ((wu (by omega)):IntKind.u64.wrap ((48:Int)+((n:Nat):Int))=((48+n:Nat):Int)) (U (CJ:IntKind.u8.wrap (((48+n:Nat):Int))=(((UInt8.ofNat (48+n)).toNat:Nat):Int)) (U ((by first | rfl | (simp;done) | (simp<;>omega)):(1)=([[.v (.int .u8 ((((UInt8.ofNat (48+n)).toNat:Nat):Int)))]]:List (List DV)).length) (U (rfl:[[.v (.int .u8 ((((UInt8.ofNat (48+n)).toNat:Nat):Int)))]]=ae ([(UInt8.ofNat (48+n))])) trivial)))))
set_option maxRecDepth 100000 in
theorem Mg (n:Nat) (h:10≤n) (hn:n<18446744073709551616) (ih:al Tryz.prog 75 [.u (n / 10)] (.v (.string ⟨(Go.Lib.decDigits (n / 10)).toArray⟩))):al Tryz.prog 75 [.u n] (.v (.string ⟨(Go.Lib.decDigits n).toArray⟩)):=by
 refine al.intro (by kernel_rfl) rfl rfl 20 rfl rfl fun w0 K ac hK r=>?_
 cases h0:(decide ((((n:Nat):Int):Int)<10)) with
 | false=>
  have a7:=of_decide_eq_false h0
  have CK:=((wc (by omega)):IntKind.u64.wrap ((((n:Nat):Int):Int).tdiv 10)=((n / 10:Nat):Int))
  have tp:=((by decide):(10:Int)≠0)
  have CL:=((Int.ofNat_tmod n 10).symm:(((n:Nat):Int):Int).tmod 10=((n%10:Nat):Int))
  have CM:=((wu (by omega)):IntKind.u64.wrap ((48:Int)+((n%10:Nat):Int))=((48+n%10:Nat):Int))
  have CN:=(CJ:IntKind.u8.wrap (((48+n%10:Nat):Int))=(((UInt8.ofNat (48+n%10)).toNat:Nat):Int))
  have CO:=((by first | rfl | (simp;done) | (simp<;>omega)):(1)=([[.v (.int .u8 ((((UInt8.ofNat (48+n%10)).toNat:Nat):Int)))]]:List (List DV)).length)
  have CP:=(rfl:[[.v (.int .u8 ((((UInt8.ofNat (48+n%10)).toNat:Nat):Int)))]]=ae ([(UInt8.ofNat (48+n%10))]))
  have CQ:=((by have:=gg (n / 10) (by omega);simp;omega):((Go.Lib.decDigits (n / 10)):List UInt8).length+([(UInt8.ofNat (48+n%10))]:List UInt8).length≤9223372036854775807)
  refine Br (todo':=aft Tryz.f75 3) (E':=[(2,.d (.v (.string ⟨((Go.Lib.decDigits (n / 10))++[(UInt8.ofNat (48+n%10))]).toArray⟩)))]) (M':=[.rw 5 1 ([[.v (.int .u8 ((((UInt8.ofNat (48+n%10)).toNat:Nat):Int)))]])]) tk mo hK [(1,[(1,.b false)]),(3,[(1,.z (((n / 10:Nat):Int))),(2,.au (.v (.string ⟨(Go.Lib.decDigits (n / 10)).toArray⟩))),(4,.z (((n%10:Nat):Int))),(5,.z (((48+n%10:Nat):Int))),(6,.z ((((UInt8.ofNat (48+n%10)).toNat:Nat):Int))),(8,.res (.v (.string ⟨([(UInt8.ofNat (48+n%10))]).toArray⟩)))])] 8 2 [] [[0],[0]] [2] r (by kernel_rfl) (U (U h0 (U CK (U tp (U CL (U tp (U CM (U CN (U (ih) (U CO (U CP (U CQ trivial))))))))))) (U (U h0 (U CK (U tp (U CL (U tp (U CM (U CN (U CO (U CP (U (ih) (U CQ trivial))))))))))) trivial)) fun ac wd r=>?_
  rw [show (.v (.string ⟨(Go.Lib.decDigits n).toArray⟩):DV)=.v (.string ⟨((Go.Lib.decDigits (n / 10))++[(UInt8.ofNat (48+n%10))]).toArray⟩) from (by rw [Cj (by omega)])]
  exact aK tk mo hK rfl [] 2000 r (by kernel_rfl) trivial
 | true=>
  have a7:=of_decide_eq_true h0
  exact absurd a7 (by omega)
theorem Ji:∀ (k n:Nat),n≤k→n<18446744073709551616→al Tryz.prog 75 [.u n] (.v (.string ⟨(Go.Lib.decDigits n).toArray⟩)):=by
 intro k
 induction k with
 | zero=>intro n h hn;exact Ck n (by omega)
 | succ k ih=>
  intro n h hn
  by_cases h1:n<10
  ·exact Ck n h1
  ·exact Mg n (by omega) hn (ih (n / 10) (by omega) (by omega))
theorem lO (n:Nat) (hn:n<18446744073709551616):al Tryz.prog 75 [.u n] (.v (.string ⟨(Go.Lib.decDigits n).toArray⟩)):=Ji n n (Nat.le_refl _) hn
theorem BP {n:Nat} (h:n<10):(fO n).toNat=48+n:=by unfold fO;rw [if_pos h,UInt8.toNat_ofNat'];omega
theorem BQ {n:Nat} (h:¬ n<10) (h2:n<16):(fO n).toNat=87+n:=by unfold fO;rw [if_neg h,UInt8.toNat_ofNat'];omega
set_option maxRecDepth 100000 in
theorem BR (n:Nat) (h:n<16):al Tryz.prog 99 [.d (.v (.int .u8 (((n:Nat):Int))))] (.v (.int .u8 (((fO n).toNat:Nat):Int))):=by
 refine al.intro (by kernel_rfl) rfl rfl 10 rfl rfl fun w0 K ac hK r=>?_
 cases h0:(decide ((((n:Nat):Int):Int)<10)) with
 | false=>
  have a7:=of_decide_eq_false h0
  rw [show (.v (.int .u8 (((fO n).toNat:Nat):Int)):DV)=.v (.int .u8 (((87+n:Nat):Int))) from (by first | rw [BP (by omega)] | rw [BQ (by omega) h])]
  exact aK tk mo hK rfl [(1,[(1,.b false)]),(3,[(1,.z (((97+n:Nat):Int))),(2,.z (((87+n:Nat):Int)))])] 2000 r (by kernel_rfl) (U h0 (U ((by simp [IntKind.wrap,IntKind.signed,IntKind.bits];omega):IntKind.u8.wrap ((97:Int)+((n:Nat):Int))=((97+n:Nat):Int)) (U ((by simp [IntKind.wrap,IntKind.signed,IntKind.bits];omega):IntKind.u8.wrap ((((97+n:Nat):Int):Int)-10)=((87+n:Nat):Int)) trivial)))
 | true=>
  have a7:=of_decide_eq_true h0
  rw [show (.v (.int .u8 (((fO n).toNat:Nat):Int)):DV)=.v (.int .u8 (((48+n:Nat):Int))) from (by first | rw [BP (by omega)] | rw [BQ (by omega) h])]
  exact aK tk mo hK rfl [(1,[(1,.b true)]),(2,[(1,.z (((48+n:Nat):Int)))])] 2000 r (by kernel_rfl) (U h0 (U ((by simp [IntKind.wrap,IntKind.signed,IntKind.bits];omega):IntKind.u8.wrap ((48:Int)+((n:Nat):Int))=((48+n:Nat):Int)) trivial))
end Go.Proofs.YtcnpikbbmbombaaGreatDoor
namespace Go.Proofs.YtcnpikbbmbombaaGreatDoor
open Go.RowKit
theorem HH {k:Nat} (h:k<14):([[.v (.string ⟨([110,111,110,101]).toArray⟩)],[.v (.string ⟨([116,105,99,107]).toArray⟩)],[.v (.string ⟨([100,101,108,105,118,101,114]).toArray⟩)],[.v (.string ⟨([100,114,111,112]).toArray⟩)],[.v (.string ⟨([100,111,117,98,108,101]).toArray⟩)],[.v (.string ⟨([115,112,111,105,108]).toArray⟩)],[.v (.string ⟨([99,117,116]).toArray⟩)],[.v (.string ⟨([104,101,97,108]).toArray⟩)],[.v (.string ⟨([99,114,97,115,104]).toArray⟩)],[.v (.string ⟨([115,116,97,114,116]).toArray⟩)],[.v (.string ⟨([115,101,110,100]).toArray⟩)],[.v (.string ⟨([98,108,111,99,107,111,107]).toArray⟩)],[.v (.string ⟨([106,111,105,110]).toArray⟩)],[.v (.string ⟨([108,101,97,118,101]).toArray⟩)]]:List (List DV))[k]?=some [.v (.string ⟨((af k).word).toArray⟩)]:=kG (p:=fun k=>([[.v (.string ⟨([110,111,110,101]).toArray⟩)],[.v (.string ⟨([116,105,99,107]).toArray⟩)],[.v (.string ⟨([100,101,108,105,118,101,114]).toArray⟩)],[.v (.string ⟨([100,114,111,112]).toArray⟩)],[.v (.string ⟨([100,111,117,98,108,101]).toArray⟩)],[.v (.string ⟨([115,112,111,105,108]).toArray⟩)],[.v (.string ⟨([99,117,116]).toArray⟩)],[.v (.string ⟨([104,101,97,108]).toArray⟩)],[.v (.string ⟨([99,114,97,115,104]).toArray⟩)],[.v (.string ⟨([115,116,97,114,116]).toArray⟩)],[.v (.string ⟨([115,101,110,100]).toArray⟩)],[.v (.string ⟨([98,108,111,99,107,111,107]).toArray⟩)],[.v (.string ⟨([106,111,105,110]).toArray⟩)],[.v (.string ⟨([108,101,97,118,101]).toArray⟩)]]:List (List DV))[k]?=some [.v (.string ⟨((af k).word).toArray⟩)]) rfl rfl rfl rfl rfl rfl rfl rfl rfl rfl rfl rfl rfl rfl h
set_option maxRecDepth 100000 in
theorem Jj (k:Nat) (h:k<14):al Tryz.prog 76 [.n k] (.v (.string ⟨((af k).word).toArray⟩)):=by
 refine al.intro (by kernel_rfl) rfl rfl 7 rfl rfl fun w0 K ac hK r=>?_
 rw [show (.v (.string ⟨((af k).word).toArray⟩):DV)=.v (.string ⟨((af k).word).toArray⟩) from rfl]
 exact aK tk mo hK rfl [(1,[(2,.n (k)),(3,.ix 0 [.v (.string ⟨((af k).word).toArray⟩)])])] 2000 r (by kernel_rfl) (U (aC ((k:Nat):Int)) (U ((by first | omega | decide | (simp;done) | (simp;omega)):(k)<(14)) (U ((by first | rfl | (simp;done) | (simp<;>omega)):(14)≤([[.v (.string ⟨([110,111,110,101]).toArray⟩)],[.v (.string ⟨([116,105,99,107]).toArray⟩)],[.v (.string ⟨([100,101,108,105,118,101,114]).toArray⟩)],[.v (.string ⟨([100,114,111,112]).toArray⟩)],[.v (.string ⟨([100,111,117,98,108,101]).toArray⟩)],[.v (.string ⟨([115,112,111,105,108]).toArray⟩)],[.v (.string ⟨([99,117,116]).toArray⟩)],[.v (.string ⟨([104,101,97,108]).toArray⟩)],[.v (.string ⟨([99,114,97,115,104]).toArray⟩)],[.v (.string ⟨([115,116,97,114,116]).toArray⟩)],[.v (.string ⟨([115,101,110,100]).toArray⟩)],[.v (.string ⟨([98,108,111,99,107,111,107]).toArray⟩)],[.v (.string ⟨([106,111,105,110]).toArray⟩)],[.v (.string ⟨([108,101,97,118,101]).toArray⟩)]]:List (List DV)).length) (U (HH (by omega):([[.v (.string ⟨([110,111,110,101]).toArray⟩)],[.v (.string ⟨([116,105,99,107]).toArray⟩)],[.v (.string ⟨([100,101,108,105,118,101,114]).toArray⟩)],[.v (.string ⟨([100,114,111,112]).toArray⟩)],[.v (.string ⟨([100,111,117,98,108,101]).toArray⟩)],[.v (.string ⟨([115,112,111,105,108]).toArray⟩)],[.v (.string ⟨([99,117,116]).toArray⟩)],[.v (.string ⟨([104,101,97,108]).toArray⟩)],[.v (.string ⟨([99,114,97,115,104]).toArray⟩)],[.v (.string ⟨([115,116,97,114,116]).toArray⟩)],[.v (.string ⟨([115,101,110,100]).toArray⟩)],[.v (.string ⟨([98,108,111,99,107,111,107]).toArray⟩)],[.v (.string ⟨([106,111,105,110]).toArray⟩)],[.v (.string ⟨([108,101,97,118,101]).toArray⟩)]]:List (List DV))[k]?=some [.v (.string ⟨((af k).word).toArray⟩)]) trivial))))
end Go.Proofs.YtcnpikbbmbombaaGreatDoor
namespace Go.Proofs.YtcnpikbbmbombaaGreatDoor
open Go.RowKit
theorem wg:∀ (n:Nat) (l:List Nat),l.Nodup→(∀ x ∈ l,x<n)→l.length≤n
 | 0,l,_,h=>by
  cases l with
  | nil=>exact Nat.le_refl _
  | cons x r=>exact absurd (h x List.mem_cons_self) (Nat.not_lt_zero _)
 | n+1,l,hd,h=>by
  by_cases hm:n ∈ l
  ·have h1:=wg n (l.erase n) (hd.erase n) fun x hx=>by
    have h2:=(hd.mem_erase_iff).1 hx
    have h3:=h x h2.2
    have h4:=h2.1
    omega
   have h2:=List.length_erase_of_mem hm
   omega
  ·exact Nat.le_succ_of_le (wg n l hd fun x hx=>by
    have h3:=h x hx
    have h4:x≠n:=fun e=>hm (e▸hx)
    omega)
theorem mK.OG {c:bN} (h:mK c):c.ah.length≤25:=by
 have h1:=wg 25 (c.ah.map fun x=>(x.1*5+x.2).toNat) (by
  rw [List.nodup_iff_pairwise_ne,List.pairwise_map,List.pairwise_iff_getElem]
  intro i j hi hj OH e
  have a:=h.link i _ (List.getElem?_eq_getElem hi)
  have b:=h.link j _ (List.getElem?_eq_getElem hj)
  have d:=h.lone j i _ _ (List.getElem?_eq_getElem hj) OH (List.getElem?_eq_getElem hi)
  have hd:=h.head
  unfold iS at a b
  exact d.1 (by omega)) fun x hx=>by
  obtain ⟨y,hy,rfl⟩:=List.mem_map.1 hx
  obtain ⟨i,hi,rfl⟩:=List.getElem_of_mem hy
  have a:=h.link i _ (List.getElem?_eq_getElem hi)
  have hd:=h.head
  unfold iS at a
  omega
 simpa using h1
theorem mK.fits {c:bN} (h:mK c):(0≤c.az∧c.az≤255)∧c.ah.length≤255∧c.homes.length≤255∧(∀ x ∈ c.ah,0≤x.1∧x.1≤255∧0≤x.2∧x.2≤255)∧∀ x ∈ c.homes,0≤x∧x≤255:=by
 have hd:=h.head
 have hf:=h.OG
 refine ⟨by omega,by omega,by omega,fun x hx=>?_,fun x hx=>?_⟩
 ·obtain ⟨i,hi,rfl⟩:=List.getElem_of_mem hx
  have a:=h.link i _ (List.getElem?_eq_getElem hi)
  unfold iS at a;omega
 ·obtain ⟨i,hi,rfl⟩:=List.getElem_of_mem hx
  have a:=h.home i _ (List.getElem?_eq_getElem hi)
  unfold iS at a;omega
end Go.Proofs.YtcnpikbbmbombaaGreatDoor
namespace Go.Proofs.YtcnpikbbmbombaaGreatDoor
open Go.RowKit
theorem wh:∀ (k u:Nat),u<10 ^ (k+1)→(Go.Lib.decDigits u).length≤k+1
 | 0,u,h=>by rw [xh (by omega)];simp
 | k+1,u,h=>by
  by_cases hu:u<10
  ·rw [xh hu];simp
  ·rw [Cj hu,List.length_append]
   have:=wh k (u / 10) (by rw [Nat.pow_succ] at h;omega)
   simp;omega
theorem bC {z:Int} (h:z≤255):(aV z).length≤3:=wh 2 z.toNat (by omega)
theorem jl {z:Int} (h:z≤65535):(aV z).length≤5:=wh 4 z.toNat (by omega)
end Go.Proofs.YtcnpikbbmbombaaGreatDoor
namespace Go.Proofs.YtcnpikbbmbombaaGreatDoor
open Go.RowKit
theorem Bf {n:Nat} (h:n<16):dr n=fO n:=by
 have key:∀ n,n<16→dr n=fO n:=by decide +kernel
 exact key n h
theorem OI {x:Nat} (h:x<256):IntKind.u8.wrap (((x:Nat):Int).tdiv 16)=((x / 16:Nat):Int):=by
 have e:((x:Nat):Int).tdiv 16=((x / 16:Nat):Int):=(Int.ofNat_tdiv x 16).symm
 rw [e];simp [IntKind.wrap,IntKind.signed,IntKind.bits];omega
theorem Gc {l:List UInt8} {i:Nat} {b:UInt8} (h:l[i]?=some b):cx (l.take (i+1))=cx (l.take i)++[fO (b.toNat / 16),fO (b.toNat%16)]:=by
 have hb:=b.toNat_lt
 unfold cx
 rw [List.take_add_one,h,Option.toList_some,List.flatMap_append,List.flatMap_cons,List.flatMap_nil,List.append_nil,Bf (by omega),Bf (by omega)]
theorem kB (l:List UInt8):(cx l).length=2*l.length:=by
 unfold cx
 induction l with
 | nil=>rfl
 | cons x r ih=>rw [List.flatMap_cons,List.length_append,ih];simp;omega
set_option maxRecDepth 100000 in
theorem Ky (l:List UInt8) (hl:l.length≤1048576):al Tryz.prog 77 [.d (.ro 1 (ae l))] (.v (.string ⟨(eE l).toArray⟩)):=by
 refine al.intro (by kernel_rfl) rfl rfl 31 rfl rfl fun w0 K ac hK r=>?_
 have aM:=((by first | rfl | simp [ae,ah,ints,steps,strs]):(((ae l).length:Nat):Int)=((l.length:Nat):Int))
 cases h0:((((l.length:Nat):Int):Int)==0) with
 | false=>
  have a7:=ne_of_beq_false h0
  refine aU (todo':=hd Tryz.f77 0) (E':=[(0,.d (.ro 1 (ae l))),(3,.d (.v (.slice none 0 0))),(4,.z 0)]) (M':=[]) tk mo hK [(1,[(1,.z (((l.length:Nat):Int))),(2,.b false)])] 2000 [] [0,3,4] r (by kernel_rfl) (U aM (U h0 trivial)) fun ac wd r=>?_
  refine aF.rounds (Φ:=fun (i:Nat) ac wd=>(i≤l.length)∧cN [] w0 K 31 [(0,.d (.ro 1 (ae l))),(3,.sl 0 (2*i)),(4,.n i)] [.rw 5 1 (ae (cx (l.take i)))] ac wd) (l.length) ?_ (Nat.zero_le _) ⟨(Nat.zero_le _),(r.fG (M1:=[.rw 5 1 []]) [(3,5,1)] [] (by kernel_rfl) (by kernel_rfl)).cast rfl rfl⟩
  clear r
  rintro i dw bH ac wd ⟨aq,r⟩
  cases h1:(decide ((((i:Nat):Int):Int)<((l.length:Nat):Int))) with
  | false=>
   have bP:=of_decide_eq_false h1
   rw [show (.v (.string ⟨(eE l).toArray⟩):DV)=.v (.string ⟨((cx (l.take i))).toArray⟩) from (by first | (have e0:l=[]:=List.eq_nil_of_length_eq_zero (by omega);subst e0;rfl) | (unfold eE;rw [if_neg (by intro h;subst h;simp at *),List.take_of_length_le (by omega)]))]
   exact aK tk mo hK rfl [(5,[(2,.z (((l.length:Nat):Int))),(3,.b false)]),(8,[(1,.res (.v (.string ⟨((cx (l.take i))).toArray⟩)))])] 2000 r (by kernel_rfl) (U aM (U h1 (U ((by first | rfl | (simp [ae,kB];done) | (simp [ae,kB];omega)):(2*i)=(ae (cx (l.take i))).length) (U (rfl:ae (cx (l.take i))=ae ((cx (l.take i)))) trivial))))
  | true=>
   have bP:=of_decide_eq_true h1
   obtain ⟨ay,bY⟩:∃ x_,l[i]?=some x_:=⟨_,List.getElem?_eq_getElem (by omega)⟩
   have lX:=ay.toNat_lt
   exact aU (todo':=hd Tryz.f77 0) (E':=[(0,.d (.ro 1 (ae l))),(3,.sl 0 (2*i+(2))),(4,.n (i+1))]) (M':=[.rw 5 1 (ae (cx (l.take i))++[[.v (.int .u8 ((((fO (ay.toNat / 16)).toNat:Nat):Int)))],[.v (.int .u8 ((((fO (ay.toNat%16)).toNat:Nat):Int)))]])]) tk mo hK [(5,[(2,.z (((l.length:Nat):Int))),(3,.b true)]),(6,[(1,.z (((i+1:Nat):Int)))]),(7,[(3,.ix (i) [.v (.int .u8 (((ay.toNat:Nat):Int)))]),(5,.z (((ay.toNat / 16:Nat):Int))),(9,.ix (i) [.v (.int .u8 (((ay.toNat:Nat):Int)))]),(11,.z (((ay.toNat%16:Nat):Int))),(6,.au (.v (.int .u8 ((((fO (ay.toNat / 16)).toNat:Nat):Int))))),(12,.au (.v (.int .u8 ((((fO (ay.toNat%16)).toNat:Nat):Int)))))])] 2000 [0] [0,3,4] r (by kernel_rfl) (U aM (U h1 (U (aC ((i:Nat):Int)) (U (jF bY) (U ((OI (by omega)):IntKind.u8.wrap ((((ay.toNat:Nat):Int):Int).tdiv 16)=((ay.toNat / 16:Nat):Int)) (U ((by decide):(16:Int)≠0) (U (aC ((i:Nat):Int)) (U (jF bY) (U ((Int.ofNat_tmod _ _).symm:(((ay.toNat:Nat):Int):Int).tmod 16=((ay.toNat%16:Nat):Int)) (U ((by decide):(16:Int)≠0) (U (BR (ay.toNat / 16) (by omega)) (U (BR (ay.toNat%16) (by omega)) (U ((by first | rfl | (simp [ae,kB];done) | (simp [ae,kB];omega)):(2*i)=(ae (cx (l.take i))).length) (U ((by first | rfl | (simp [ae,kB];done) | (simp [ae,kB];omega)):(2)=([[.v (.int .u8 ((((fO (ay.toNat / 16)).toNat:Nat):Int)))],[.v (.int .u8 ((((fO (ay.toNat%16)).toNat:Nat):Int)))]]:List (List DV)).length) (U ((by first | omega | (simp [ae,kB];done) | (simp [ae,kB];omega)):(2*((2*i)+(2))+192)*1≤281474976710656) (U ((by first | omega | (simp [ae,kB];done) | (simp [ae,kB];omega)):(2*i)+(2)<4611686018427387904) (U ((by simp [aD,AV.one,bf,ae,ah,ints,steps,strs]):aD ([[.v (.int .u8 ((((fO (ay.toNat / 16)).toNat:Nat):Int)))],[.v (.int .u8 ((((fO (ay.toNat%16)).toNat:Nat):Int)))]])) (U ((wi (by omega)):IntKind.i64.wrap ((((i:Nat):Int):Int)+1)=((i+1:Nat):Int)) trivial)))))))))))))))))) fun ac wd r=>bH (by omega) ac wd ⟨(by omega),r.cast rfl (by rw [Gc bY];simp [ae])⟩
 | true=>
  have a7:=eq_of_beq h0
  rw [show (.v (.string ⟨(eE l).toArray⟩):DV)=.v (.string ⟨([45]).toArray⟩) from (by first | (have e0:l=[]:=List.eq_nil_of_length_eq_zero (by omega);subst e0;rfl) | (unfold eE;rw [if_neg (by intro h;subst h;simp at *),List.take_of_length_le (by omega)]))]
  exact aK tk mo hK rfl [(1,[(1,.z (((l.length:Nat):Int))),(2,.b true)])] 2000 r (by kernel_rfl) (U aM (U h0 trivial))
theorem mR {z:Int} (h:0≤z) (h2:z≤65535):IntKind.u64.wrap z=((z.toNat:Nat):Int):=by
 simp [IntKind.wrap,IntKind.signed,IntKind.bits];omega
def ib (c:bN) (i:Nat):List UInt8:=([119,111,114,108,100,32]++aV c.az)++(c.ah.take i).flatMap fun x=>32::fY x
def jC (c:bN) (j:Nat):List UInt8:=(ib c c.ah.length++[32,58])++(c.homes.take j).flatMap fun x=>32::aV x
theorem AF {c:bN} {i:Nat} {x:Int×Int} (h:c.ah[i]?=some x):ib c (i+1)=ib c i++32::fY x:=by
 unfold ib;rw [List.take_add_one,h];simp
theorem AG {c:bN} {i:Nat} {x:Int} (h:c.homes[i]?=some x):jC c (i+1)=jC c i++32::aV x:=by
 unfold jC;rw [List.take_add_one,h];simp
theorem Kz (c:bN):jC c c.homes.length=aQ (bo c):=by
 unfold jC ib bo aQ cB
 rw [List.take_of_length_le (Nat.le_refl _),List.take_of_length_le (Nat.le_refl _)]
 simp [List.flatMap_append,List.flatMap_map,List.append_assoc]
theorem HI {x:Int×Int} (h1:x.1≤255) (h2:x.2≤255):(fY x).length≤7:=by
 have a:=bC h1;have b:=bC h2
 unfold fY;simp;omega
set_option maxRecDepth 100000 in
theorem KA (c:bN) (yR:0≤c.az) (ng:c.az≤255) (N9:c.ah.length≤255) (PT:c.homes.length≤255) (hL:∀ x ∈ c.ah,0≤x.1∧x.1≤255∧0≤x.2∧x.2≤255) (hH:∀ x ∈ c.homes,0≤x∧x≤255):al Tryz.prog 44 [.ag [.z c.az,.d (.ro 2 (ah c.ah)),.d (.ro 1 (ints c.homes))]] (.v (.string ⟨(aQ (bo c)).toArray⟩)):=by
 refine al.intro (by kernel_rfl) rfl rfl 59 rfl rfl fun w0 K ac hK r=>?_
 refine aU (todo':=hd Tryz.f44 0) (E':=[(1,.pt 0 0),(3,.d (.v (.string ⟨([119,111,114,108,100,32]++(Go.Lib.decDigits c.az.toNat)).toArray⟩))),(4,.z 0)]) (M':=[.bx 25 [.z c.az,.d (.ro 2 (ah c.ah)),.d (.ro 1 (ints c.homes))]]) tk mo hK [(1,[(2,.z (((c.az.toNat:Nat):Int))),(3,.au (.v (.string ⟨(Go.Lib.decDigits c.az.toNat).toArray⟩)))])] 2000 [0] [1,3,4] r (by kernel_rfl) (U ((mR (by omega) (by omega)):IntKind.u64.wrap (c.az)=((c.az.toNat:Nat):Int)) (U (lO c.az.toNat (by omega)) (U ((by first | omega | (have:=bC (z:=c.az) (by omega);unfold aV at *;simp;omega) | (simp;omega) | (have:=bC (z:=aA.1) (by omega);have:=bC (z:=aA.2) (by omega);unfold aV at *;simp;omega) | (have:=bC (z:=gb) (by omega);unfold aV at *;simp;omega)):([119,111,114,108,100,32]:List UInt8).length+((Go.Lib.decDigits c.az.toNat):List UInt8).length≤9223372036854775807) trivial))) fun ac wd r=>?_
 refine aF.rounds (Φ:=fun (i:Nat) ac wd=>(i≤c.ah.length∧(ib c i).length≤9+8*i)∧cN [] w0 K 59 [(1,.pt 0 0),(3,.d (.v (.string ⟨(ib c i).toArray⟩))),(4,.n i)] [.bx 25 [.z c.az,.d (.ro 2 (ah c.ah)),.d (.ro 1 (ints c.homes))]] ac wd) (c.ah.length) ?_ (Nat.zero_le _) ⟨⟨Nat.zero_le _,by have h3:=bC (z:=c.az) (by omega);unfold ib;simp;omega⟩,(r).cast (by unfold ib;simp [aV]<;>rfl) rfl⟩
 clear r
 rintro i dw bH ac wd ⟨aq,r⟩
 have DQ:=aq.2
 have aM:=((by first | rfl | simp [ae,ah,ints,steps,strs]):(((ah c.ah).length:Nat):Int)=((c.ah.length:Nat):Int))
 cases h0:(decide ((((i:Nat):Int):Int)<((c.ah.length:Nat):Int))) with
 | false=>
  have a7:=of_decide_eq_false h0
  refine aU (todo':=hd Tryz.f44 1) (E':=[(1,.pt 0 0),(3,.d (.v (.string ⟨((ib c i)++[32,58]).toArray⟩))),(5,.z 0)]) (M':=[.bx 25 [.z c.az,.d (.ro 2 (ah c.ah)),.d (.ro 1 (ints c.homes))]]) tk mo hK [(3,[(3,.z (((c.ah.length:Nat):Int))),(4,.b false)])] 2000 [0] [1,3,5] r (by kernel_rfl) (U aM (U h0 (U ((by first | omega | (have:=bC (z:=c.az) (by omega);unfold aV at *;simp;omega) | (simp;omega) | (have:=bC (z:=aA.1) (by omega);have:=bC (z:=aA.2) (by omega);unfold aV at *;simp;omega) | (have:=bC (z:=gb) (by omega);unfold aV at *;simp;omega)):((ib c i):List UInt8).length+([32,58]:List UInt8).length≤9223372036854775807) trivial))) fun ac wd r=>?_
  refine aF.rounds (Φ:=fun (j:Nat) ac wd=>(j≤c.homes.length∧(jC c j).length≤2060+4*j)∧cN [] w0 K 59 [(1,.pt 0 0),(3,.d (.v (.string ⟨(jC c j).toArray⟩))),(5,.n j)] [.bx 25 [.z c.az,.d (.ro 2 (ah c.ah)),.d (.ro 1 (ints c.homes))]] ac wd) (c.homes.length) ?_ (Nat.zero_le _) ⟨⟨Nat.zero_le _,by rw [show i=c.ah.length by omega] at DQ;unfold jC;simp;omega⟩,(r).cast (by rw [show i=c.ah.length by omega];unfold jC;simp) rfl⟩
  clear r
  rintro j n8 fU ac wd ⟨ea,r⟩
  have PU:=ea.2
  have br:=((by first | rfl | simp [ae,ah,ints,steps,strs]):(((ints c.homes).length:Nat):Int)=((c.homes.length:Nat):Int))
  cases h1:(decide ((((j:Nat):Int):Int)<((c.homes.length:Nat):Int))) with
  | false=>
   have bP:=of_decide_eq_false h1
   rw [show (.v (.string ⟨(aQ (bo c)).toArray⟩):DV)=.v (.string ⟨(jC c j).toArray⟩) from (by rw [show j=c.homes.length by omega,Kz])]
   exact aK tk mo hK rfl [(8,[(3,.z (((c.homes.length:Nat):Int))),(4,.b false)])] 2000 r (by kernel_rfl) (U br (U h1 trivial))
  | true=>
   have bP:=of_decide_eq_true h1
   obtain ⟨gb,rE⟩:∃ x_,c.homes[j]?=some x_:=⟨_,List.getElem?_eq_getElem (by omega)⟩
   obtain ⟨k1,k2⟩:=hH _ (List.mem_of_getElem? rE)
   have yQ:=bC (z:=gb) (by omega)
   exact aU (todo':=hd Tryz.f44 1) (E':=[(1,.pt 0 0),(3,.d (.v (.string ⟨((jC c j)++[32]++(Go.Lib.decDigits gb.toNat)).toArray⟩))),(5,.n (j+1))]) (M':=[.bx 25 [.z c.az,.d (.ro 2 (ah c.ah)),.d (.ro 1 (ints c.homes))]]) tk mo hK [(8,[(3,.z (((c.homes.length:Nat):Int))),(4,.b true)]),(9,[(1,.z (((j+1:Nat):Int)))]),(10,[(5,.ix (j) [.z gb]),(7,.z (((gb.toNat:Nat):Int))),(8,.au (.v (.string ⟨(Go.Lib.decDigits gb.toNat).toArray⟩)))])] 2000 [0] [1,3,5] r (by kernel_rfl) (U br (U h1 (U ((by first | omega | (have:=bC (z:=c.az) (by omega);unfold aV at *;simp;omega) | (simp;omega) | (have:=bC (z:=aA.1) (by omega);have:=bC (z:=aA.2) (by omega);unfold aV at *;simp;omega) | (have:=bC (z:=gb) (by omega);unfold aV at *;simp;omega)):((jC c j):List UInt8).length+([32]:List UInt8).length≤9223372036854775807) (U (aC ((j:Nat):Int)) (U (ints_at rE) (U ((mR (by omega) (by omega)):IntKind.u64.wrap (gb)=((gb.toNat:Nat):Int)) (U (lO gb.toNat (by omega)) (U ((by first | omega | (have:=bC (z:=c.az) (by omega);unfold aV at *;simp;omega) | (simp;omega) | (have:=bC (z:=aA.1) (by omega);have:=bC (z:=aA.2) (by omega);unfold aV at *;simp;omega) | (have:=bC (z:=gb) (by omega);unfold aV at *;simp;omega)):((jC c j)++[32]:List UInt8).length+((Go.Lib.decDigits gb.toNat):List UInt8).length≤9223372036854775807) (U ((wi (by omega)):IntKind.i64.wrap ((((j:Nat):Int):Int)+1)=((j+1:Nat):Int)) trivial))))))))) fun ac wd r=>fU (by omega) ac wd ⟨⟨by omega,by rw [AG rE];simp;omega⟩,r.cast (by rw [AG rE];simp [aV]) rfl⟩
 | true=>
  have a7:=of_decide_eq_true h0
  obtain ⟨aA,a8⟩:∃ x_,c.ah[i]?=some x_:=⟨_,List.getElem?_eq_getElem (by omega)⟩
  obtain ⟨k1,k2,k3,k4⟩:=hL _ (List.mem_of_getElem? a8)
  have yQ:=HI (x:=aA) (by omega) (by omega)
  exact aU (todo':=hd Tryz.f44 0) (E':=[(1,.pt 0 0),(3,.d (.v (.string ⟨((ib c i)++[32]++(Go.Lib.decDigits aA.1.toNat)++[45]++(Go.Lib.decDigits aA.2.toNat)).toArray⟩))),(4,.n (i+1))]) (M':=[.bx 25 [.z c.az,.d (.ro 2 (ah c.ah)),.d (.ro 1 (ints c.homes))]]) tk mo hK [(3,[(3,.z (((c.ah.length:Nat):Int))),(4,.b true)]),(4,[(1,.z (((i+1:Nat):Int)))]),(5,[(5,.ix (i) [.z aA.1,.z aA.2]),(6,.n 0),(8,.z (((aA.1.toNat:Nat):Int))),(15,.ix (i) [.z aA.1,.z aA.2]),(16,.n 1),(18,.z (((aA.2.toNat:Nat):Int))),(9,.au (.v (.string ⟨(Go.Lib.decDigits aA.1.toNat).toArray⟩))),(19,.au (.v (.string ⟨(Go.Lib.decDigits aA.2.toNat).toArray⟩)))])] 2000 [0] [1,3,4] r (by kernel_rfl) (U aM (U h0 (U ((by first | omega | (have:=bC (z:=c.az) (by omega);unfold aV at *;simp;omega) | (simp;omega) | (have:=bC (z:=aA.1) (by omega);have:=bC (z:=aA.2) (by omega);unfold aV at *;simp;omega) | (have:=bC (z:=gb) (by omega);unfold aV at *;simp;omega)):((ib c i):List UInt8).length+([32]:List UInt8).length≤9223372036854775807) (U (aC ((i:Nat):Int)) (U (cP a8) (U (rfl:(0)=((0:Nat):Int)) (U ((by omega):(0)<2) (U ((mR (by omega) (by omega)):IntKind.u64.wrap (aA.1)=((aA.1.toNat:Nat):Int)) (U (aC ((i:Nat):Int)) (U (cP a8) (U (rfl:(1)=((1:Nat):Int)) (U ((by omega):(1)<2) (U ((mR (by omega) (by omega)):IntKind.u64.wrap (aA.2)=((aA.2.toNat:Nat):Int)) (U (lO aA.1.toNat (by omega)) (U ((by first | omega | (have:=bC (z:=c.az) (by omega);unfold aV at *;simp;omega) | (simp;omega) | (have:=bC (z:=aA.1) (by omega);have:=bC (z:=aA.2) (by omega);unfold aV at *;simp;omega) | (have:=bC (z:=gb) (by omega);unfold aV at *;simp;omega)):((ib c i)++[32]:List UInt8).length+((Go.Lib.decDigits aA.1.toNat):List UInt8).length≤9223372036854775807) (U ((by first | omega | (have:=bC (z:=c.az) (by omega);unfold aV at *;simp;omega) | (simp;omega) | (have:=bC (z:=aA.1) (by omega);have:=bC (z:=aA.2) (by omega);unfold aV at *;simp;omega) | (have:=bC (z:=gb) (by omega);unfold aV at *;simp;omega)):((ib c i)++[32]++(Go.Lib.decDigits aA.1.toNat):List UInt8).length+([45]:List UInt8).length≤9223372036854775807) (U (lO aA.2.toNat (by omega)) (U ((by first | omega | (have:=bC (z:=c.az) (by omega);unfold aV at *;simp;omega) | (simp;omega) | (have:=bC (z:=aA.1) (by omega);have:=bC (z:=aA.2) (by omega);unfold aV at *;simp;omega) | (have:=bC (z:=gb) (by omega);unfold aV at *;simp;omega)):((ib c i)++[32]++(Go.Lib.decDigits aA.1.toNat)++[45]:List UInt8).length+((Go.Lib.decDigits aA.2.toNat):List UInt8).length≤9223372036854775807) (U ((wi (by omega)):IntKind.i64.wrap ((((i:Nat):Int):Int)+1)=((i+1:Nat):Int)) trivial))))))))))))))))))) fun ac wd r=>bH (by omega) ac wd ⟨⟨by omega,by rw [AF a8];simp;omega⟩,r.cast (by rw [AF a8];simp [fY,aV]) rfl⟩
theorem headD (c:bN) (hm:bU c=true):al Tryz.prog 44 [.ag [.z c.az,.d (.ro 2 (ah c.ah)),.d (.ro 1 (ints c.homes))]] (.v (.string ⟨(aQ (bo c)).toArray⟩)):=by
 obtain ⟨⟨a,b⟩,h1,h2,h3,h4⟩:=(jh hm).fits
 exact KA c a b h1 h2 h3 h4
theorem Mh {k:Int} (h0:0≤k) (h:k<14):al Tryz.prog 76 [.z k] (.v (.string ⟨((af k.toNat).word).toArray⟩)):=by
 obtain ⟨n,rfl⟩:=Int.eq_ofNat_of_zero_le h0
 exact Jj n (by omega)
theorem Jk {k:Int} (h0:0≤k) (h:k<14):al Tryz.prog 59 [.z k] (.v (.string ⟨(cD k.toNat).toArray⟩)):=by
 have q:=df k
 rw [pV h0 h] at q;exact q
def jD (s:aL) (c:UInt8):List UInt8:=if c.toNat=110 then 32::aV s.node else if c.toNat=112 then 32::aV s.peer else if c.toNat=105 then 32::aV s.n else if c.toNat=98 then 32::aV s.bit else if c.toNat=99 then 32::Go.Lib.decDigits s.inc else if c.toNat=116 then 32::eE s.body else []
def dJ (s:aL) (i:Nat):List UInt8:=(af s.kind.toNat).word++((cD s.kind.toNat).take i).flatMap (jD s)
theorem iJ {s:aL} {i:Nat} {c:UInt8} (h:(cD s.kind.toNat)[i]?=some c):dJ s (i+1)=dJ s i++jD s c:=by
 unfold dJ;rw [List.take_add_one,h];simp
theorem KB (s:aL) {k:Nat} (h:k<14):(cD k).flatMap (jD s)=cB (mP (af k) s):=kG (p:=fun k=>(cD k).flatMap (jD s)=cB (mP (af k) s)) rfl rfl rfl rfl rfl rfl rfl rfl rfl rfl rfl rfl rfl rfl h
theorem KC {s:aL} {i:Nat} (h0:0≤s.kind) (h:s.kind<14) (hi:(cD s.kind.toNat).length≤i):dJ s i=aQ (b7 s):=by
 unfold dJ;rw [List.take_of_length_le hi,KB s (by omega)];rfl
theorem Jl {s:aL} (h1:s.node≤255) (h2:s.peer≤255) (h3:s.n≤255) (h4:s.bit≤65535) (h5:s.inc<18446744073709551616) (h6:s.body.length≤255) (c:UInt8):(jD s c).length≤512:=by
 have a1:=bC h1;have a2:=bC h2;have a3:=bC h3;have a4:=jl h4;have a5:=gg s.inc h5;have a6:=iH h6
 unfold jD
 repeat' split
 all_goals (simp only [List.length_cons,List.length_nil];omega)
theorem KD (l:List UInt8) (hl:l.length≤255):al Tryz.prog 77 [.d (.ro 1 (ae l))] (.v (.string ⟨(eE l).toArray⟩)):=Ky l (by omega)
set_option maxRecDepth 100000 in
theorem Mi (s:aL) (hi:s.inc<18446744073709551616) (k0:0≤s.kind) (k1:s.kind<14) (n0:0≤s.node) (n1:s.node≤255) (p0:0≤s.peer) (p1:s.peer≤255) (m0:0≤s.n) (m1:s.n≤255) (b0:0≤s.bit) (b1:s.bit≤65535) (hb:s.body.length≤255):al Tryz.prog 45 [.ag [.z s.kind,.z s.node,.z s.peer,.z s.n,.z s.bit,.u s.inc,.d (.ro 1 (ae s.body))]] (.v (.string ⟨(aQ (b7 s)).toArray⟩)):=by
 refine al.intro (by kernel_rfl) rfl rfl 74 rfl rfl fun w0 K ac hK r=>?_
 refine aU (todo':=hd Tryz.f45 0) (E':=[(1,.pt 0 0),(3,.d (.v (.string ⟨((af s.kind.toNat).word).toArray⟩))),(4,.d (.v (.string ⟨(cD s.kind.toNat).toArray⟩))),(5,.z 0)]) (M':=[.bx 42 [.z s.kind,.z s.node,.z s.peer,.z s.n,.z s.bit,.u s.inc,.d (.ro 1 (ae s.body))]]) tk mo hK [(1,[(2,.au (.v (.string ⟨((af s.kind.toNat).word).toArray⟩)))]),(2,[(2,.au (.v (.string ⟨(cD s.kind.toNat).toArray⟩)))])] 2000 [0] [1,3,4,5] r (by kernel_rfl) (U (Mh k0 k1) (U (Jk k0 k1) trivial)) fun ac wd r=>?_
 refine aF.rounds (Φ:=fun (i:Nat) ac wd=>(i≤(cD s.kind.toNat).length∧(dJ s i).length≤7+512*i)∧cN [] w0 K 74 [(1,.pt 0 0),(3,.d (.v (.string ⟨(dJ s i).toArray⟩))),(4,.d (.v (.string ⟨(cD s.kind.toNat).toArray⟩))),(5,.n i)] [.bx 42 [.z s.kind,.z s.node,.z s.peer,.z s.n,.z s.bit,.u s.inc,.d (.ro 1 (ae s.body))]] ac wd) ((cD s.kind.toNat).length) ?_ (Nat.zero_le _) ⟨⟨Nat.zero_le _,by have:=AD s.kind.toNat;unfold dJ;simp;omega⟩,(r).cast (by unfold dJ;simp) rfl⟩
 clear r
 rintro i dw bH ac wd ⟨aq,r⟩
 have DQ:=aq.2
 have PV:(cD s.kind.toNat).length≤4:=A4 (k:=s.kind.toNat) (by omega)
 cases h0:(decide ((((i:Nat):Int):Int)<(((cD s.kind.toNat).length:Nat):Int))) with
 | false=>
  have a7:=of_decide_eq_false h0
  rw [show (.v (.string ⟨(aQ (b7 s)).toArray⟩):DV)=.v (.string ⟨(dJ s i).toArray⟩) from (by rw [KC k0 k1 (by omega)])]
  exact aK tk mo hK rfl [(4,[(3,.b false)])] 2000 r (by kernel_rfl) (U h0 trivial)
 | true=>
  have a7:=of_decide_eq_true h0
  obtain ⟨iC,iD⟩:∃ x_,(cD s.kind.toNat)[i]?=some x_:=⟨_,List.getElem?_eq_getElem (by omega)⟩
  have C5:=Jl n1 p1 m1 b1 hi hb iC
  have aM:=(⟨_,iD,rfl⟩:∃ u:UInt8,((cD s.kind.toNat):List UInt8)[i]?=some u∧(.v (.int .u8 (((iC.toNat:Nat):Int))):DV)=.v (.int .u8 (u.toNat:Int)))
  cases h1:((((iC.toNat:Nat):Int):Int)==110) with
  | false=>
   have bP:=ne_of_beq_false h1
   cases h2:((((iC.toNat:Nat):Int):Int)==112) with
   | false=>
    have c8:=ne_of_beq_false h2
    cases h3:((((iC.toNat:Nat):Int):Int)==105) with
    | false=>
     have dP:=ne_of_beq_false h3
     cases h4:((((iC.toNat:Nat):Int):Int)==98) with
     | false=>
      have fa:=ne_of_beq_false h4
      cases h5:((((iC.toNat:Nat):Int):Int)==99) with
      | false=>
       have fb:=ne_of_beq_false h5
       cases h6:((((iC.toNat:Nat):Int):Int)==116) with
       | false=>
        have fL:=ne_of_beq_false h6
        exact aU (todo':=hd Tryz.f45 0) (E':=[(1,.pt 0 0),(3,.d (.v (.string ⟨(dJ s i).toArray⟩))),(4,.d (.v (.string ⟨(cD s.kind.toNat).toArray⟩))),(5,.n (i+1))]) (M':=[.bx 42 [.z s.kind,.z s.node,.z s.peer,.z s.n,.z s.bit,.u s.inc,.d (.ro 1 (ae s.body))]]) tk mo hK [(4,[(3,.b true)]),(5,[(1,.z (((i+1:Nat):Int)))]),(6,[(2,.ix (i) [.v (.int .u8 (((iC.toNat:Nat):Int)))])]),(7,[(0,.b false)]),(9,[(0,.b false)]),(11,[(0,.b false)]),(13,[(0,.b false)]),(15,[(0,.b false)]),(17,[(0,.b false)])] 2000 [0] [1,3,4,5] r (by kernel_rfl) (U h0 (U (aC ((i:Nat):Int)) (U aM (U h1 (U h2 (U h3 (U h4 (U h5 (U h6 (U ((wi (by omega)):IntKind.i64.wrap ((((i:Nat):Int):Int)+1)=((i+1:Nat):Int)) trivial)))))))))) fun ac wd r=>bH (by omega) ac wd ⟨⟨by omega,by rw [iJ iD];simp;omega⟩,r.cast (by rw [iJ iD];unfold jD;rw [if_neg (by omega),if_neg (by omega),if_neg (by omega),if_neg (by omega),if_neg (by omega),if_neg (by omega)];simp [aV]) rfl⟩
       | true=>
        have fL:=eq_of_beq h6
        exact aU (todo':=hd Tryz.f45 0) (E':=[(1,.pt 0 0),(3,.d (.v (.string ⟨((dJ s i)++[32]++(eE s.body)).toArray⟩))),(4,.d (.v (.string ⟨(cD s.kind.toNat).toArray⟩))),(5,.n (i+1))]) (M':=[.bx 42 [.z s.kind,.z s.node,.z s.peer,.z s.n,.z s.bit,.u s.inc,.d (.ro 1 (ae s.body))]]) tk mo hK [(4,[(3,.b true)]),(5,[(1,.z (((i+1:Nat):Int)))]),(6,[(2,.ix (i) [.v (.int .u8 (((iC.toNat:Nat):Int)))])]),(7,[(0,.b false)]),(9,[(0,.b false)]),(11,[(0,.b false)]),(13,[(0,.b false)]),(15,[(0,.b false)]),(17,[(0,.b true)]),(18,[(4,.au (.v (.string ⟨(eE s.body).toArray⟩)))])] 2000 [0] [1,3,4,5] r (by kernel_rfl) (U h0 (U (aC ((i:Nat):Int)) (U aM (U h1 (U h2 (U h3 (U h4 (U h5 (U h6 (U ((by first | omega | (simp;omega) | (have:=bC (z:=s.node) (by omega);have:=bC (z:=s.peer) (by omega);have:=bC (z:=s.n) (by omega);have:=jl (z:=s.bit) (by omega);have:=gg s.inc hi;have:=iH (l:=s.body) (n:=255) (by omega);unfold aV at *;simp;omega)):((dJ s i):List UInt8).length+([32]:List UInt8).length≤9223372036854775807) (U (KD s.body hb) (U ((by first | omega | (simp;omega) | (have:=bC (z:=s.node) (by omega);have:=bC (z:=s.peer) (by omega);have:=bC (z:=s.n) (by omega);have:=jl (z:=s.bit) (by omega);have:=gg s.inc hi;have:=iH (l:=s.body) (n:=255) (by omega);unfold aV at *;simp;omega)):((dJ s i)++[32]:List UInt8).length+((eE s.body):List UInt8).length≤9223372036854775807) (U ((wi (by omega)):IntKind.i64.wrap ((((i:Nat):Int):Int)+1)=((i+1:Nat):Int)) trivial))))))))))))) fun ac wd r=>bH (by omega) ac wd ⟨⟨by omega,by rw [iJ iD];simp;omega⟩,r.cast (by rw [iJ iD];unfold jD;rw [if_neg (by omega),if_neg (by omega),if_neg (by omega),if_neg (by omega),if_neg (by omega),if_pos (by omega)];simp [aV]) rfl⟩
      | true=>
       have fb:=eq_of_beq h5
       exact aU (todo':=hd Tryz.f45 0) (E':=[(1,.pt 0 0),(3,.d (.v (.string ⟨((dJ s i)++[32]++(Go.Lib.decDigits s.inc)).toArray⟩))),(4,.d (.v (.string ⟨(cD s.kind.toNat).toArray⟩))),(5,.n (i+1))]) (M':=[.bx 42 [.z s.kind,.z s.node,.z s.peer,.z s.n,.z s.bit,.u s.inc,.d (.ro 1 (ae s.body))]]) tk mo hK [(4,[(3,.b true)]),(5,[(1,.z (((i+1:Nat):Int)))]),(6,[(2,.ix (i) [.v (.int .u8 (((iC.toNat:Nat):Int)))])]),(7,[(0,.b false)]),(9,[(0,.b false)]),(11,[(0,.b false)]),(13,[(0,.b false)]),(15,[(0,.b true)]),(16,[(4,.au (.v (.string ⟨(Go.Lib.decDigits s.inc).toArray⟩)))])] 2000 [0] [1,3,4,5] r (by kernel_rfl) (U h0 (U (aC ((i:Nat):Int)) (U aM (U h1 (U h2 (U h3 (U h4 (U h5 (U ((by first | omega | (simp;omega) | (have:=bC (z:=s.node) (by omega);have:=bC (z:=s.peer) (by omega);have:=bC (z:=s.n) (by omega);have:=jl (z:=s.bit) (by omega);have:=gg s.inc hi;have:=iH (l:=s.body) (n:=255) (by omega);unfold aV at *;simp;omega)):((dJ s i):List UInt8).length+([32]:List UInt8).length≤9223372036854775807) (U (lO s.inc (by omega)) (U ((by first | omega | (simp;omega) | (have:=bC (z:=s.node) (by omega);have:=bC (z:=s.peer) (by omega);have:=bC (z:=s.n) (by omega);have:=jl (z:=s.bit) (by omega);have:=gg s.inc hi;have:=iH (l:=s.body) (n:=255) (by omega);unfold aV at *;simp;omega)):((dJ s i)++[32]:List UInt8).length+((Go.Lib.decDigits s.inc):List UInt8).length≤9223372036854775807) (U ((wi (by omega)):IntKind.i64.wrap ((((i:Nat):Int):Int)+1)=((i+1:Nat):Int)) trivial)))))))))))) fun ac wd r=>bH (by omega) ac wd ⟨⟨by omega,by rw [iJ iD];simp;omega⟩,r.cast (by rw [iJ iD];unfold jD;rw [if_neg (by omega),if_neg (by omega),if_neg (by omega),if_neg (by omega),if_pos (by omega)];simp [aV]) rfl⟩
     | true=>
      have fa:=eq_of_beq h4
      exact aU (todo':=hd Tryz.f45 0) (E':=[(1,.pt 0 0),(3,.d (.v (.string ⟨((dJ s i)++[32]++(Go.Lib.decDigits s.bit.toNat)).toArray⟩))),(4,.d (.v (.string ⟨(cD s.kind.toNat).toArray⟩))),(5,.n (i+1))]) (M':=[.bx 42 [.z s.kind,.z s.node,.z s.peer,.z s.n,.z s.bit,.u s.inc,.d (.ro 1 (ae s.body))]]) tk mo hK [(4,[(3,.b true)]),(5,[(1,.z (((i+1:Nat):Int)))]),(6,[(2,.ix (i) [.v (.int .u8 (((iC.toNat:Nat):Int)))])]),(7,[(0,.b false)]),(9,[(0,.b false)]),(11,[(0,.b false)]),(13,[(0,.b true)]),(14,[(4,.z (((s.bit.toNat:Nat):Int))),(5,.au (.v (.string ⟨(Go.Lib.decDigits s.bit.toNat).toArray⟩)))])] 2000 [0] [1,3,4,5] r (by kernel_rfl) (U h0 (U (aC ((i:Nat):Int)) (U aM (U h1 (U h2 (U h3 (U h4 (U ((by first | omega | (simp;omega) | (have:=bC (z:=s.node) (by omega);have:=bC (z:=s.peer) (by omega);have:=bC (z:=s.n) (by omega);have:=jl (z:=s.bit) (by omega);have:=gg s.inc hi;have:=iH (l:=s.body) (n:=255) (by omega);unfold aV at *;simp;omega)):((dJ s i):List UInt8).length+([32]:List UInt8).length≤9223372036854775807) (U ((mR (by omega) (by omega)):IntKind.u64.wrap (s.bit)=((s.bit.toNat:Nat):Int)) (U (lO s.bit.toNat (by omega)) (U ((by first | omega | (simp;omega) | (have:=bC (z:=s.node) (by omega);have:=bC (z:=s.peer) (by omega);have:=bC (z:=s.n) (by omega);have:=jl (z:=s.bit) (by omega);have:=gg s.inc hi;have:=iH (l:=s.body) (n:=255) (by omega);unfold aV at *;simp;omega)):((dJ s i)++[32]:List UInt8).length+((Go.Lib.decDigits s.bit.toNat):List UInt8).length≤9223372036854775807) (U ((wi (by omega)):IntKind.i64.wrap ((((i:Nat):Int):Int)+1)=((i+1:Nat):Int)) trivial)))))))))))) fun ac wd r=>bH (by omega) ac wd ⟨⟨by omega,by rw [iJ iD];simp;omega⟩,r.cast (by rw [iJ iD];unfold jD;rw [if_neg (by omega),if_neg (by omega),if_neg (by omega),if_pos (by omega)];simp [aV]) rfl⟩
    | true=>
     have dP:=eq_of_beq h3
     exact aU (todo':=hd Tryz.f45 0) (E':=[(1,.pt 0 0),(3,.d (.v (.string ⟨((dJ s i)++[32]++(Go.Lib.decDigits s.n.toNat)).toArray⟩))),(4,.d (.v (.string ⟨(cD s.kind.toNat).toArray⟩))),(5,.n (i+1))]) (M':=[.bx 42 [.z s.kind,.z s.node,.z s.peer,.z s.n,.z s.bit,.u s.inc,.d (.ro 1 (ae s.body))]]) tk mo hK [(4,[(3,.b true)]),(5,[(1,.z (((i+1:Nat):Int)))]),(6,[(2,.ix (i) [.v (.int .u8 (((iC.toNat:Nat):Int)))])]),(7,[(0,.b false)]),(9,[(0,.b false)]),(11,[(0,.b true)]),(12,[(4,.z (((s.n.toNat:Nat):Int))),(5,.au (.v (.string ⟨(Go.Lib.decDigits s.n.toNat).toArray⟩)))])] 2000 [0] [1,3,4,5] r (by kernel_rfl) (U h0 (U (aC ((i:Nat):Int)) (U aM (U h1 (U h2 (U h3 (U ((by first | omega | (simp;omega) | (have:=bC (z:=s.node) (by omega);have:=bC (z:=s.peer) (by omega);have:=bC (z:=s.n) (by omega);have:=jl (z:=s.bit) (by omega);have:=gg s.inc hi;have:=iH (l:=s.body) (n:=255) (by omega);unfold aV at *;simp;omega)):((dJ s i):List UInt8).length+([32]:List UInt8).length≤9223372036854775807) (U ((mR (by omega) (by omega)):IntKind.u64.wrap (s.n)=((s.n.toNat:Nat):Int)) (U (lO s.n.toNat (by omega)) (U ((by first | omega | (simp;omega) | (have:=bC (z:=s.node) (by omega);have:=bC (z:=s.peer) (by omega);have:=bC (z:=s.n) (by omega);have:=jl (z:=s.bit) (by omega);have:=gg s.inc hi;have:=iH (l:=s.body) (n:=255) (by omega);unfold aV at *;simp;omega)):((dJ s i)++[32]:List UInt8).length+((Go.Lib.decDigits s.n.toNat):List UInt8).length≤9223372036854775807) (U ((wi (by omega)):IntKind.i64.wrap ((((i:Nat):Int):Int)+1)=((i+1:Nat):Int)) trivial))))))))))) fun ac wd r=>bH (by omega) ac wd ⟨⟨by omega,by rw [iJ iD];simp;omega⟩,r.cast (by rw [iJ iD];unfold jD;rw [if_neg (by omega),if_neg (by omega),if_pos (by omega)];simp [aV]) rfl⟩
   | true=>
    have c8:=eq_of_beq h2
    exact aU (todo':=hd Tryz.f45 0) (E':=[(1,.pt 0 0),(3,.d (.v (.string ⟨((dJ s i)++[32]++(Go.Lib.decDigits s.peer.toNat)).toArray⟩))),(4,.d (.v (.string ⟨(cD s.kind.toNat).toArray⟩))),(5,.n (i+1))]) (M':=[.bx 42 [.z s.kind,.z s.node,.z s.peer,.z s.n,.z s.bit,.u s.inc,.d (.ro 1 (ae s.body))]]) tk mo hK [(4,[(3,.b true)]),(5,[(1,.z (((i+1:Nat):Int)))]),(6,[(2,.ix (i) [.v (.int .u8 (((iC.toNat:Nat):Int)))])]),(7,[(0,.b false)]),(9,[(0,.b true)]),(10,[(4,.z (((s.peer.toNat:Nat):Int))),(5,.au (.v (.string ⟨(Go.Lib.decDigits s.peer.toNat).toArray⟩)))])] 2000 [0] [1,3,4,5] r (by kernel_rfl) (U h0 (U (aC ((i:Nat):Int)) (U aM (U h1 (U h2 (U ((by first | omega | (simp;omega) | (have:=bC (z:=s.node) (by omega);have:=bC (z:=s.peer) (by omega);have:=bC (z:=s.n) (by omega);have:=jl (z:=s.bit) (by omega);have:=gg s.inc hi;have:=iH (l:=s.body) (n:=255) (by omega);unfold aV at *;simp;omega)):((dJ s i):List UInt8).length+([32]:List UInt8).length≤9223372036854775807) (U ((mR (by omega) (by omega)):IntKind.u64.wrap (s.peer)=((s.peer.toNat:Nat):Int)) (U (lO s.peer.toNat (by omega)) (U ((by first | omega | (simp;omega) | (have:=bC (z:=s.node) (by omega);have:=bC (z:=s.peer) (by omega);have:=bC (z:=s.n) (by omega);have:=jl (z:=s.bit) (by omega);have:=gg s.inc hi;have:=iH (l:=s.body) (n:=255) (by omega);unfold aV at *;simp;omega)):((dJ s i)++[32]:List UInt8).length+((Go.Lib.decDigits s.peer.toNat):List UInt8).length≤9223372036854775807) (U ((wi (by omega)):IntKind.i64.wrap ((((i:Nat):Int):Int)+1)=((i+1:Nat):Int)) trivial)))))))))) fun ac wd r=>bH (by omega) ac wd ⟨⟨by omega,by rw [iJ iD];simp;omega⟩,r.cast (by rw [iJ iD];unfold jD;rw [if_neg (by omega),if_pos (by omega)];simp [aV]) rfl⟩
  | true=>
   have bP:=eq_of_beq h1
   exact aU (todo':=hd Tryz.f45 0) (E':=[(1,.pt 0 0),(3,.d (.v (.string ⟨((dJ s i)++[32]++(Go.Lib.decDigits s.node.toNat)).toArray⟩))),(4,.d (.v (.string ⟨(cD s.kind.toNat).toArray⟩))),(5,.n (i+1))]) (M':=[.bx 42 [.z s.kind,.z s.node,.z s.peer,.z s.n,.z s.bit,.u s.inc,.d (.ro 1 (ae s.body))]]) tk mo hK [(4,[(3,.b true)]),(5,[(1,.z (((i+1:Nat):Int)))]),(6,[(2,.ix (i) [.v (.int .u8 (((iC.toNat:Nat):Int)))])]),(7,[(0,.b true)]),(8,[(4,.z (((s.node.toNat:Nat):Int))),(5,.au (.v (.string ⟨(Go.Lib.decDigits s.node.toNat).toArray⟩)))])] 2000 [0] [1,3,4,5] r (by kernel_rfl) (U h0 (U (aC ((i:Nat):Int)) (U aM (U h1 (U ((by first | omega | (simp;omega) | (have:=bC (z:=s.node) (by omega);have:=bC (z:=s.peer) (by omega);have:=bC (z:=s.n) (by omega);have:=jl (z:=s.bit) (by omega);have:=gg s.inc hi;have:=iH (l:=s.body) (n:=255) (by omega);unfold aV at *;simp;omega)):((dJ s i):List UInt8).length+([32]:List UInt8).length≤9223372036854775807) (U ((mR (by omega) (by omega)):IntKind.u64.wrap (s.node)=((s.node.toNat:Nat):Int)) (U (lO s.node.toNat (by omega)) (U ((by first | omega | (simp;omega) | (have:=bC (z:=s.node) (by omega);have:=bC (z:=s.peer) (by omega);have:=bC (z:=s.n) (by omega);have:=jl (z:=s.bit) (by omega);have:=gg s.inc hi;have:=iH (l:=s.body) (n:=255) (by omega);unfold aV at *;simp;omega)):((dJ s i)++[32]:List UInt8).length+((Go.Lib.decDigits s.node.toNat):List UInt8).length≤9223372036854775807) (U ((wi (by omega)):IntKind.i64.wrap ((((i:Nat):Int):Int)+1)=((i+1:Nat):Int)) trivial))))))))) fun ac wd r=>bH (by omega) ac wd ⟨⟨by omega,by rw [iJ iD];simp;omega⟩,r.cast (by rw [iJ iD];unfold jD;rw [if_pos (by omega)];simp [aV]) rfl⟩
end Go.Proofs.YtcnpikbbmbombaaGreatDoor
namespace Go.Proofs.YtcnpikbbmbombaaGreatDoor
open Go.RowKit
set_option maxRecDepth 100000 in
theorem KE (c:bN) (l:List aL) (hc:c.ah.length≤1048576) (hh:c.homes.length≤1048576) (hl:l.length≤1048576) (hr:∀ s ∈ l,s.Rd) (hE:decide (ch c l=0)=true) (hm:bU c=true) (ha:∀ s ∈ l,hasB s=true) (hj:(aQ (bo c)).length≤2818048):al Tryz.prog 18 [.ag [.z c.az,.d (.ro 2 (ah c.ah)),.d (.ro 1 (ints c.homes))],.d (.ro 7 (steps l))] (.tu [.v (.string ⟨(j9 c l).toArray⟩),.z 0]):=by
 refine al.intro (by kernel_rfl) rfl rfl 41 rfl rfl fun w0 K ac hK r=>?_
 refine aU (todo':=hd Tryz.f18 0) (E':=[(1,.d (.ro 7 (steps l))),(8,.sl 0 (((aQ (bo c))++[10]).length)),(9,.z 0)]) (M':=[.rw 5 1 (ae ((aQ (bo c))++[10]))]) tk mo hK [(1,[(2,.au (.tu [.ro 1 (ae (dM c l)),.z 0]))]),(4,[(1,.au (.v (.string ⟨(aQ (bo c)).toArray⟩))),(3,.n 0)])] 2000 [1] [1,8,9] r (by kernel_rfl) (U (FV c l hc hh hl hr hE) (U (headD c hm) (U ((by simp;omega):((aQ (bo c)):List UInt8).length+([10]:List UInt8).length≤9223372036854775807) trivial))) fun ac wd r=>?_
 refine aF.rounds (Φ:=fun (i:Nat) ac wd=>(i≤l.length∧(aQ (bo c)++[10]++bZ (l.take i)).length≤2818049+4000*i)∧cN [] w0 K 41 [(1,.d (.ro 7 (steps l))),(8,.sl 0 ((aQ (bo c)++[10]++bZ (l.take i)).length)),(9,.n i)] [.rw 5 1 (ae (aQ (bo c)++[10]++bZ (l.take i)))] ac wd) (l.length) ?_ (Nat.zero_le _) ⟨⟨Nat.zero_le _,by simp [bZ];omega⟩,(r).cast (by simp [bZ]) (by simp [bZ,ae])⟩
 clear r
 rintro i dw bH ac wd ⟨aq,r⟩
 have hlen:=aq.2
 have OF:(aQ (bo c)++[10]++bZ (l.take i)).length=(aQ (bo c)).length+1+(bZ (l.take i)).length:=by simp;omega
 have aM:=((by first | rfl | simp [ae,ah,ints,steps,strs]):(((steps l).length:Nat):Int)=((l.length:Nat):Int))
 cases h0:(decide ((((i:Nat):Int):Int)<((l.length:Nat):Int))) with
 | false=>
  have a7:=of_decide_eq_false h0
  rw [show (.tu [.v (.string ⟨(j9 c l).toArray⟩),.z 0]:DV)=.tu [.v (.string ⟨((aQ (bo c)++[10]++bZ (l.take i))).toArray⟩),.z 0] from (by rw [List.take_of_length_le (by omega)];rfl)]
  exact aK tk mo hK rfl [(6,[(2,.z (((l.length:Nat):Int))),(3,.b false)]),(10,[(1,.res (.v (.string ⟨((aQ (bo c)++[10]++bZ (l.take i))).toArray⟩)))])] 2000 r (by kernel_rfl) (U aM (U h0 (U ((by first | rfl | (simp [ae];done) | (simp [ae];omega)):((aQ (bo c)++[10]++bZ (l.take i)).length)=(ae (aQ (bo c)++[10]++bZ (l.take i)):List (List DV)).length) (U (rfl:ae (aQ (bo c)++[10]++bZ (l.take i))=ae ((aQ (bo c)++[10]++bZ (l.take i)))) trivial))))
 | true=>
  have a7:=of_decide_eq_true h0
  obtain ⟨ay,bY⟩:∃ x_,l[i]?=some x_:=⟨_,List.getElem?_eq_getElem (by omega)⟩
  have eH:=(hr _ (List.mem_of_getElem? bY)).inc
  have yN:=sQ (ha _ (List.mem_of_getElem? bY))
  have dO:=oE (s:=ay) (by omega) (by omega) (by omega) (by omega) (by omega) (by omega)
  have q5:=rQ (b7 ay)
  exact aU (todo':=hd Tryz.f18 0) (E':=[(1,.d (.ro 7 (steps l))),(8,.sl 0 ((aQ (bo c)++[10]++bZ (l.take i)).length+((aQ (b7 ay))).length+(1))),(9,.n (i+1))]) (M':=[.rw 5 1 (ae (aQ (bo c)++[10]++bZ (l.take i))++ae (aQ (b7 ay))++[[.v (.int .u8 10)]])]) tk mo hK [(6,[(2,.z (((l.length:Nat):Int))),(3,.b true)]),(7,[(1,.z (((i+1:Nat):Int)))]),(8,[(3,.ix (i) [.z ay.kind,.z ay.node,.z ay.peer,.z ay.n,.z ay.bit,.u ay.inc,.ro 1 (ae ay.body)]),(5,.au (.v (.string ⟨(aQ (b7 ay)).toArray⟩)))])] 2000 [0] [1,8,9] r (by kernel_rfl) (U aM (U h0 (U (aC ((i:Nat):Int)) (U (jb bY) (U (Mi ay (by omega) (by omega) (by omega) (by omega) (by omega) (by omega) (by omega) (by omega) (by omega) (by omega) (by omega) (by omega)) (U ((by first | rfl | (simp [ae];done) | (simp [ae];omega)):((aQ (bo c)++[10]++bZ (l.take i)).length)=(ae (aQ (bo c)++[10]++bZ (l.take i)):List (List DV)).length) (U ((by first | omega | (simp [ae];done) | (simp [ae];omega)):(2*(((aQ (bo c)++[10]++bZ (l.take i)).length)+((aQ (b7 ay))).length)+192)*1≤281474976710656) (U ((by first | omega | (simp [ae];done) | (simp [ae];omega)):((aQ (bo c)++[10]++bZ (l.take i)).length)+((aQ (b7 ay))).length<4611686018427387904) (U ((by first | rfl | (simp [ae];done) | (simp [ae];omega)):((aQ (bo c)++[10]++bZ (l.take i)).length+((aQ (b7 ay))).length)=(ae (aQ (bo c)++[10]++bZ (l.take i))++ae (aQ (b7 ay)):List (List DV)).length) (U ((by first | rfl | (simp [ae];done) | (simp [ae];omega)):(1)=([[.v (.int .u8 10)]]:List (List DV)).length) (U ((by first | omega | (simp [ae];done) | (simp [ae];omega)):(2*(((aQ (bo c)++[10]++bZ (l.take i)).length+((aQ (b7 ay))).length)+(1))+192)*1≤281474976710656) (U ((by first | omega | (simp [ae];done) | (simp [ae];omega)):((aQ (bo c)++[10]++bZ (l.take i)).length+((aQ (b7 ay))).length)+(1)<4611686018427387904) (U ((by simp [aD,AV.one,bf,ae]):aD ([[.v (.int .u8 10)]])) (U ((wi (by omega)):IntKind.i64.wrap ((((i:Nat):Int):Int)+1)=((i+1:Nat):Int)) trivial)))))))))))))) fun ac wd r=>bH (by omega) ac wd ⟨⟨by omega,by rw [pW bY];simp at *;omega⟩,r.cast (by rw [pW bY];simp;omega) (by rw [pW bY];simp [ae])⟩
set_option maxRecDepth 100000 in
theorem Mj (c:bN) (l:List aL) (hc:c.ah.length≤1048576) (hh:c.homes.length≤1048576) (hl:l.length≤1048576) (hr:∀ s ∈ l,s.Rd) (hE:decide (ch c l=0)=false):al Tryz.prog 18 [.ag [.z c.az,.d (.ro 2 (ah c.ah)),.d (.ro 1 (ints c.homes))],.d (.ro 7 (steps l))] (.tu [.v (.string ⟨[].toArray⟩),.z (ch c l)]):=by
 refine al.intro (by kernel_rfl) rfl rfl 41 rfl rfl fun w0 K ac hK r=>?_
 cases h0:((ch c l:Int) != 0) with
 | false=>
  have a7:=iG h0
  exact absurd a7 (of_decide_eq_false hE)
 | true=>
  have a7:¬ _=_:=bne_iff_ne.1 h0
  rw [show (.tu [.v (.string ⟨[].toArray⟩),.z (ch c l)]:DV)=.tu [.v (.string .empty),.z (ch c l)] from rfl]
  exact aK tk mo hK rfl [(1,[(2,.au (.tu [.ro 1 (ae []),.z (ch c l)]))]),(2,[(1,.b true)])] 2000 r (by kernel_rfl) (U (Hs c l hc hh hl hr hE) (U h0 trivial))
theorem Gd (c:bN) (l:List aL) (hc:c.ah.length≤1048576) (hh:c.homes.length≤1048576) (hl:l.length≤1048576) (hr:∀ s ∈ l,s.Rd) (hE:decide (ch c l=0)=true):al Tryz.prog 18 [.ag [.z c.az,.d (.ro 2 (ah c.ah)),.d (.ro 1 (ints c.homes))],.d (.ro 7 (steps l))] (.tu [.v (.string ⟨(j9 c l).toArray⟩),.z 0]):=by
 obtain ⟨h1,h2,h3⟩:=zD hE
 refine KE c l hc hh hl hr hE h1 (Be h2) ?_
 have h4:=Bd c l
 have h5:=uJ h1;have h6:=wb c;have h7:=rQ (bo c)
 omega
end Go.Proofs.YtcnpikbbmbombaaGreatDoor
namespace Go.Proofs.YtcnpikbbmbombaaGreatDoor
open Go.RowKit
theorem OJ:aE Tryz.prog 47 [.d (.v (.string ⟨([119,111,114,108,100,32,49,32,58,32,49]:List UInt8).toArray⟩))] [] (.tu [.ag [.z 1,.sl 0 0,.sl 1 1],.d (.v (.bool true))]) [.rw 60 2 (ah []),.rw 3 1 (ints [1])]:=by
 have hM:bU ⟨1,[],[1]⟩=true:=w9 ⟨by decide,fun i x h=>by simp at h,fun i k x o h=>by simp at h,fun i x h=>by
  cases i with
  | zero=>simp at h;subst h;exact ⟨by decide,by decide⟩
  | succ i=>simp at h⟩
 have h:=Ea [119,111,114,108,100,32,49,32,58,32,49] (by decide)
 have e:nj [119,111,114,108,100,32,49,32,58,32,49]=([],[1],true,true):=by kernel_rfl
 rw [vn (we e (by decide) (by decide) (by rw [show kj (cO [119,111,114,108,100,32,49,32,58,32,49])=1 by kernel_rfl];exact hM))] at h
 unfold mO at h
 rw [e,show kj (cO [119,111,114,108,100,32,49,32,58,32,49])=1 by kernel_rfl] at h;exact h
theorem OK:aE Tryz.prog 48 [.d (.v (.string ⟨([116,105,99,107,32,48]:List UInt8).toArray⟩))] [.gw 0 aj] (.tu [.ag [.z 1,.z 0,.z 0,.z 0,.z 0,.u 0,.sl 1 0],.d (.v (.bool true))]) [.gw 0 aj,.rw 5 1 []]:=by
 have h:=tT [116,105,99,107,32,48] (by decide)
 rw [show kv [116,105,99,107,32,48]=(⟨1,0,0,0,0,0,[]⟩,true) by kernel_rfl] at h;exact h
theorem OL:aE Tryz.prog 48 [.d (.v (.string ⟨([106,111,105,110,32,50]:List UInt8).toArray⟩))] [.gw 0 aj] (.tu [.ag [.z 12,.z 2,.z 0,.z 0,.z 0,.u 0,.sl 1 0],.d (.v (.bool true))]) [.gw 0 aj,.rw 5 1 []]:=by
 have h:=tT [106,111,105,110,32,50] (by decide)
 rw [show kv [106,111,105,110,32,50]=(⟨12,2,0,0,0,0,[]⟩,true) by kernel_rfl] at h;exact h
theorem OM:aE Tryz.prog 48 [.d (.v (.string ⟨([115,101,110,100,32,50,32,54,56,54,57]:List UInt8).toArray⟩))] [.gw 0 aj] (.tu [.ag [.z 10,.z 2,.z 0,.z 0,.z 0,.u 0,.sl 1 2],.d (.v (.bool true))]) [.gw 0 aj,.rw 5 1 (ae [104,105])]:=by
 have h:=tT [115,101,110,100,32,50,32,54,56,54,57] (by decide)
 rw [show kv [115,101,110,100,32,50,32,54,56,54,57]=(⟨10,2,0,0,0,0,[104,105]⟩,true) by kernel_rfl] at h;exact h
theorem KF:al Tryz.prog 79 [.d (.v (.string ⟨([119,111,114,108,100,32,49,32,58,32,49,10,116,105,99,107,32,48,10,106,111,105,110,32,50,10,115,101,110,100,32,50,32,54,56,54,57,10]:List UInt8).toArray⟩)),.d (.v (.string ⟨[10].toArray⟩))] (.tu [.v (.string ⟨([119,111,114,108,100,32,49,32,58,32,49]:List UInt8).toArray⟩),.v (.string ⟨([116,105,99,107,32,48,10,106,111,105,110,32,50,10,115,101,110,100,32,50,32,54,56,54,57,10]:List UInt8).toArray⟩),.v (.bool true)]):=by
 have h:=qi 10 [119,111,114,108,100,32,49,32,58,32,49,10,116,105,99,107,32,48,10,106,111,105,110,32,50,10,115,101,110,100,32,50,32,54,56,54,57,10] (by decide) (by decide)
 rw [show bT 10 [119,111,114,108,100,32,49,32,58,32,49,10,116,105,99,107,32,48,10,106,111,105,110,32,50,10,115,101,110,100,32,50,32,54,56,54,57,10]=[119,111,114,108,100,32,49,32,58,32,49] from by decide,show fC 10 [119,111,114,108,100,32,49,32,58,32,49,10,116,105,99,107,32,48,10,106,111,105,110,32,50,10,115,101,110,100,32,50,32,54,56,54,57,10]=[116,105,99,107,32,48,10,106,111,105,110,32,50,10,115,101,110,100,32,50,32,54,56,54,57,10] from by decide] at h;exact h
theorem KG:al Tryz.prog 79 [.d (.v (.string ⟨([116,105,99,107,32,48,10,106,111,105,110,32,50,10,115,101,110,100,32,50,32,54,56,54,57,10]:List UInt8).toArray⟩)),.d (.v (.string ⟨[10].toArray⟩))] (.tu [.v (.string ⟨([116,105,99,107,32,48]:List UInt8).toArray⟩),.v (.string ⟨([106,111,105,110,32,50,10,115,101,110,100,32,50,32,54,56,54,57,10]:List UInt8).toArray⟩),.v (.bool true)]):=by
 have h:=qi 10 [116,105,99,107,32,48,10,106,111,105,110,32,50,10,115,101,110,100,32,50,32,54,56,54,57,10] (by decide) (by decide)
 rw [show bT 10 [116,105,99,107,32,48,10,106,111,105,110,32,50,10,115,101,110,100,32,50,32,54,56,54,57,10]=[116,105,99,107,32,48] from by decide,show fC 10 [116,105,99,107,32,48,10,106,111,105,110,32,50,10,115,101,110,100,32,50,32,54,56,54,57,10]=[106,111,105,110,32,50,10,115,101,110,100,32,50,32,54,56,54,57,10] from by decide] at h;exact h
theorem KH:al Tryz.prog 79 [.d (.v (.string ⟨([106,111,105,110,32,50,10,115,101,110,100,32,50,32,54,56,54,57,10]:List UInt8).toArray⟩)),.d (.v (.string ⟨[10].toArray⟩))] (.tu [.v (.string ⟨([106,111,105,110,32,50]:List UInt8).toArray⟩),.v (.string ⟨([115,101,110,100,32,50,32,54,56,54,57,10]:List UInt8).toArray⟩),.v (.bool true)]):=by
 have h:=qi 10 [106,111,105,110,32,50,10,115,101,110,100,32,50,32,54,56,54,57,10] (by decide) (by decide)
 rw [show bT 10 [106,111,105,110,32,50,10,115,101,110,100,32,50,32,54,56,54,57,10]=[106,111,105,110,32,50] from by decide,show fC 10 [106,111,105,110,32,50,10,115,101,110,100,32,50,32,54,56,54,57,10]=[115,101,110,100,32,50,32,54,56,54,57,10] from by decide] at h;exact h
theorem KI:al Tryz.prog 79 [.d (.v (.string ⟨([115,101,110,100,32,50,32,54,56,54,57,10]:List UInt8).toArray⟩)),.d (.v (.string ⟨[10].toArray⟩))] (.tu [.v (.string ⟨([115,101,110,100,32,50,32,54,56,54,57]:List UInt8).toArray⟩),.v (.string ⟨([]:List UInt8).toArray⟩),.v (.bool true)]):=by
 have h:=qi 10 [115,101,110,100,32,50,32,54,56,54,57,10] (by decide) (by decide)
 rw [show bT 10 [115,101,110,100,32,50,32,54,56,54,57,10]=[115,101,110,100,32,50,32,54,56,54,57] from by decide,show fC 10 [115,101,110,100,32,50,32,54,56,54,57,10]=[] from by decide] at h;exact h
end Go.Proofs.YtcnpikbbmbombaaGreatDoor
