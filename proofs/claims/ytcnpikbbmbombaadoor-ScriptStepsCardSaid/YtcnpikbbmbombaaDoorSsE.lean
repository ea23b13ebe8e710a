/-
  scriptSteps_card, part 5 of 6: merged by program from the texts that it needs.
-/
import Derived.Test.YtcnpikbbmbombaaDoorSsD
set_option linter.unusedSimpArgs false
set_option linter.unusedVariables false
set_option linter.unnecessarySimpa false
namespace Go.Proofs.YtcnpikbbmbombaaDoor
open Go.RowKit
def dr (n:Nat):UInt8:=if n<10 then UInt8.ofNat (48+n) else UInt8.ofNat (87+n)
theorem r6 {n:Nat} (h:n<16):([48,49,50,51,52,53,54,55,56,57,97,98,99,100,101,102]:List UInt8)[n]?=some (dr n):=by
 have key:∀ k,k<16→([48,49,50,51,52,53,54,55,56,57,97,98,99,100,101,102]:List UInt8)[k]?=some (dr k):=by decide
 exact key n h
def cX (l:List UInt8):List UInt8:=l.flatMap fun b=>[dr (b.toNat / 16),dr (b.toNat%16)]
theorem Gl {l:List UInt8} {i:Nat} {b:UInt8} (h:l[i]?=some b):cX (l.take (i+1))=cX (l.take i)++[dr (b.toNat / 16),dr (b.toNat%16)]:=by
 unfold cX;rw [List.take_add_one,h];simp
theorem c9 (l:List UInt8):(cX l).length=2*l.length:=by
 unfold cX;induction l with
 | nil=>rfl
 | cons b r ih=>rw [List.flatMap_cons,List.length_append,ih];simp;omega
theorem B5 (b:UInt8):((b.toNat:Nat):Int).fdiv (2 ^ (min (4:Int).toNat IntKind.u8.bits))=((b.toNat / 16:Nat):Int):=by
 show ((b.toNat:Nat):Int).fdiv 16=_
 rw [Int.fdiv_eq_ediv_of_nonneg _ (by omega)];omega
theorem BE (b:UInt8):IntKind.u8.wrap ((BitVec.ofInt IntKind.u8.bits ((b.toNat:Nat):Int) &&& BitVec.ofInt IntKind.u8.bits 15).toNat:Int)=((b.toNat%16:Nat):Int):=by
 have hb:=b.toNat_lt
 have h1:(BitVec.ofInt 8 ((b.toNat:Nat):Int) &&& BitVec.ofInt 8 15).toNat=b.toNat%16:=by
  rw [BitVec.toNat_and]
  have e1:(BitVec.ofInt 8 ((b.toNat:Nat):Int)).toNat=b.toNat:=by simp [BitVec.toNat_ofInt]
  have e2:(BitVec.ofInt 8 15).toNat=2 ^ 4-1:=by decide
  rw [e1,e2,Nat.and_two_pow_sub_one_eq_mod]
 show IntKind.u8.wrap ((BitVec.ofInt 8 ((b.toNat:Nat):Int) &&& BitVec.ofInt 8 15).toNat:Int)=_
 rw [h1]
 simp [IntKind.wrap,IntKind.signed,IntKind.bits];omega
def iP (l:List UInt8):List UInt8:=if l=[] then [45] else cX l
set_option maxRecDepth 100000 in
theorem Dl (b:UInt8) (l:List UInt8) (hl:l.length≤16777216):ay Tryd.prog 45 [.d (.ro 1 (af (b::l)))] (.v (.string ⟨(cX (b::l)).toArray⟩)):=by
 refine ay.intro (by kernel_rfl) rfl rfl 25 rfl rfl fun w0 K ac hK r=>?_
 have aY:=((by first | rfl | (simp [af];done) | (simp [af];omega)):(((af (b::l)).length:Nat):Int)=(((l.length+1):Nat):Int))
 cases h0:(((((l.length+1):Nat):Int):Int)==0) with
 | false=>
  have bw:=ne_of_beq_false h0
  refine cT (todo':=hd Tryd.f45 0) (E':=[(0,.d (.ro 1 (af (b::l)))),(2,.d (.v (.string .empty))),(6,.d (.ro 1 (af (b::l)))),(7,.n ((l.length+1))),(8,.d (.v (.bool false))),(3,.pt 0 0),(9,.d (.ro 1 (af (b::l)))),(10,.n ((l.length+1))),(11,.z 0)]) (M':=[.bx 56 [.d (.v (.pointer none)),.d (.v (.slice none 0 0))]]) tk mo hK [(1,[(1,.z ((((l.length+1):Nat):Int))),(2,.b false)]),(4,[(1,.z ((((l.length+1):Nat):Int)))])] 2000 [0] [0,2,6,7,8,3,9,10,11] r (by kernel_rfl) (U aY (U h0 (U aY trivial))) fun ac wd r=>?_
  cases h1:(decide ((0:Int)<(((l.length+1):Nat):Int))) with
  | false=>
   have bW:=of_decide_eq_false h1
   exact absurd bW (by omega)
  | true=>
   have bW:=of_decide_eq_true h1
   refine cT (todo':=hd Tryd.f45 0) (E':=[(3,.pt 0 0),(9,.d (.ro 1 (af (b::l)))),(10,.n ((l.length+1))),(11,.z 1)]) (M':=[.bx 56 [.pt 0 0,.sl 1 ((1)+(1))],.rw 5 1 ([[.v (.int .u8 ((((dr (b.toNat / 16)).toNat:Nat):Int)))]]++[[.v (.int .u8 ((((dr (b.toNat%16)).toNat:Nat):Int)))]])]) tk mo hK [(5,[(0,.b true)]),(6,[(0,.ix (0) [.v (.int .u8 (((b.toNat:Nat):Int)))])]),(7,[(1,.z (((b.toNat / 16:Nat):Int))),(2,.ix (b.toNat / 16) [.v (.int .u8 ((((dr (b.toNat / 16)).toNat:Nat):Int)))]),(3,.bG 200 [(1,[(1,.bG 200 [(1,[(2,.b true),(3,.b true),(4,.b false)])])])])]),(8,[(1,.z (((b.toNat%16:Nat):Int))),(2,.ix (b.toNat%16) [.v (.int .u8 ((((dr (b.toNat%16)).toNat:Nat):Int)))]),(3,.bG 200 [(1,[(1,.bG 200 [])])])]),(9,[(0,.z (1))])] 2000 [0,2] [3,9,10,11] r (by kernel_rfl) (U h1 (U (rfl:(0)=((0:Nat):Int)) (U (rfl:(af (b::l))[0]?=some [.v (.int .u8 (((b.toNat:Nat):Int)))]) (U ((B5 _):(((b.toNat:Nat):Int):Int).fdiv (2 ^ (min (4:Int).toNat IntKind.u8.bits))=((b.toNat / 16:Nat):Int)) (U ((by first | decide | omega):(0:Int)≤4) (U (aN ((b.toNat / 16:Nat):Int)) (U (⟨_,r6 (by have:=(b).toNat_lt;omega),rfl⟩:∃ u:UInt8,([48,49,50,51,52,53,54,55,56,57,97,98,99,100,101,102]:List UInt8)[b.toNat / 16]?=some u∧(.v (.int .u8 ((((dr (b.toNat / 16)).toNat:Nat):Int))):DV)=.v (.int .u8 (u.toNat:Int))) (U (jj:cV Tryd.prog 54) (U ((by kernel_rfl):(bif true then l8 Tryd.prog 54 119 else l9 Tryd.prog 54 119 56 2)=true) (U ((by decide):0<2) (U (wH:qb Tryd.prog 59) (U ((by kernel_rfl):(bif false then l8 Tryd.prog 119 54 else l9 Tryd.prog 119 54 56 2)=true) (U ((by decide):0<2) (U ((by first | rfl | (simp [af,c9];done) | (simp [af,c9];omega)):(1)=([[.v (.int .u8 ((((dr (b.toNat / 16)).toNat:Nat):Int)))]]:List (List DV)).length) (U ((by first | omega | (simp [af,c9];omega)):(2*(0+(1))+192)*1≤281474976710656) (U ((by first | omega | (simp [af,c9];omega)):0+(1)<4611686018427387904) (U ((by simp [bf,AV.one,bS,af,ah,ints,steps,strs]):bf ([[.v (.int .u8 ((((dr (b.toNat / 16)).toNat:Nat):Int)))]])) (U ((BE _):IntKind.u8.wrap ((BitVec.ofInt IntKind.u8.bits (((b.toNat:Nat):Int)) &&& BitVec.ofInt IntKind.u8.bits (15)).toNat:Int)=((b.toNat%16:Nat):Int)) (U (aN ((b.toNat%16:Nat):Int)) (U (⟨_,r6 (by have:=(b).toNat_lt;omega),rfl⟩:∃ u:UInt8,([48,49,50,51,52,53,54,55,56,57,97,98,99,100,101,102]:List UInt8)[b.toNat%16]?=some u∧(.v (.int .u8 ((((dr (b.toNat%16)).toNat:Nat):Int))):DV)=.v (.int .u8 (u.toNat:Int))) (U (jj:cV Tryd.prog 54) (U ((by kernel_rfl):iU Tryd.prog 54=true) (U ((by first | rfl | (simp [af,c9];done) | (simp [af,c9];omega)):((1))=([[.v (.int .u8 ((((dr (b.toNat / 16)).toNat:Nat):Int)))]]:List (List DV)).length) (U ((by first | rfl | (simp [af,c9];done) | (simp [af,c9];omega)):(1)=([[.v (.int .u8 ((((dr (b.toNat%16)).toNat:Nat):Int)))]]:List (List DV)).length) (U ((by first | omega | (simp [af,c9];omega)):(2*(((1))+(1))+192)*1≤281474976710656) (U ((by first | omega | (simp [af,c9];omega)):((1))+(1)<4611686018427387904) (U ((by simp [bf,AV.one,bS,af,ah,ints,steps,strs]):bf ([[.v (.int .u8 ((((dr (b.toNat%16)).toNat:Nat):Int)))]])) (U ((wi (by omega)):IntKind.i64.wrap ((0:Int)+1)=1) trivial)))))))))))))))))))))))))))) fun ac wd r=>?_
   refine aC.rounds (Φ:=fun (i:Nat) ac wd=>(i≤l.length)∧dA [] w0 K 25 [(3,.pt 0 0),(9,.d (.ro 1 (af (b::l)))),(10,.n ((l.length+1))),(11,.n (i+1))] [.bx 56 [.pt 0 0,.sl 1 ((cX ((b::l).take (i+1))).length)],.rw 5 1 (af (cX ((b::l).take (i+1))))] ac wd) (l.length) ?_ (Nat.zero_le _) ⟨Nat.zero_le _,(r).cast rfl (by simp [cX,af])⟩
   clear r
   rintro i e7 b6 ac wd ⟨aq,r⟩
   cases h2:(decide ((((i+1:Nat):Int):Int)<(((l.length+1):Nat):Int))) with
   | false=>
    have dG:=of_decide_eq_false h2
    rw [show (.v (.string ⟨(cX (b::l)).toArray⟩):DV)=.v (.string ⟨((cX ((b::l).take (i+1)))).toArray⟩) from (by rw [List.take_of_length_le (by simp;omega)])]
    exact br tk mo hK rfl [(5,[(0,.b false)]),(10,[(0,.bG 200 [(1,[(10,.res (.v (.string ⟨((cX ((b::l).take (i+1)))).toArray⟩)))])])])] 2000 r (by kernel_rfl) (U h2 (U ((by first | rfl | (simp [af,c9];done) | (simp [af,c9];omega)):((cX ((b::l).take (i+1))).length)=(af (cX ((b::l).take (i+1)))).length) (U ((by first | omega | decide | (simp [af,c9];done) | (simp [af,c9];omega)):0<((cX ((b::l).take (i+1))).length)) (U ((by simp [af]):((((cX ((b::l).take (i+1))).length:Nat):Int):Int)=(((af (cX ((b::l).take (i+1)))).length:Nat):Int)) (U ((by first | omega | (simp [af,c9];done) | (simp [af,c9];omega)):0<(af (cX ((b::l).take (i+1)))).length) (U (rfl:af (cX ((b::l).take (i+1)))=af ((cX ((b::l).take (i+1))))) (U ((by kernel_rfl):qq Tryd.prog 98 5=true) (U ((by first | omega | decide | (simp [af,c9];done) | (simp [af,c9];omega)):(af (cX ((b::l).take (i+1)))).length≤9223372036854775807) trivial))))))))
   | true=>
    have dG:=of_decide_eq_true h2
    obtain ⟨dD,BF⟩:∃ y_,(b::l)[i+1]?=some y_:=⟨_,List.getElem?_eq_getElem (by simp;omega)⟩
    exact cT (todo':=hd Tryd.f45 0) (E':=[(3,.pt 0 0),(9,.d (.ro 1 (af (b::l)))),(10,.n ((l.length+1))),(11,.n (i+1+1))]) (M':=[.bx 56 [.pt 0 0,.sl 1 ((cX ((b::l).take (i+1))).length+(1)+(1))],.rw 5 1 (af (cX ((b::l).take (i+1)))++[[.v (.int .u8 ((((dr (dD.toNat / 16)).toNat:Nat):Int)))]]++[[.v (.int .u8 ((((dr (dD.toNat%16)).toNat:Nat):Int)))]])]) tk mo hK [(5,[(0,.b true)]),(6,[(0,.ix (i+1) [.v (.int .u8 (((dD.toNat:Nat):Int)))])]),(7,[(1,.z (((dD.toNat / 16:Nat):Int))),(2,.ix (dD.toNat / 16) [.v (.int .u8 ((((dr (dD.toNat / 16)).toNat:Nat):Int)))]),(3,.bG 200 [(1,[(1,.bG 200 [])])])]),(8,[(1,.z (((dD.toNat%16:Nat):Int))),(2,.ix (dD.toNat%16) [.v (.int .u8 ((((dr (dD.toNat%16)).toNat:Nat):Int)))]),(3,.bG 200 [(1,[(1,.bG 200 [])])])]),(9,[(0,.z (((i+1+1:Nat):Int)))])] 2000 [0,1] [3,9,10,11] r (by kernel_rfl) (U h2 (U (aN ((i+1:Nat):Int)) (U (j3 BF) (U ((B5 _):(((dD.toNat:Nat):Int):Int).fdiv (2 ^ (min (4:Int).toNat IntKind.u8.bits))=((dD.toNat / 16:Nat):Int)) (U ((by first | decide | omega):(0:Int)≤4) (U (aN ((dD.toNat / 16:Nat):Int)) (U (⟨_,r6 (by have:=(dD).toNat_lt;omega),rfl⟩:∃ u:UInt8,([48,49,50,51,52,53,54,55,56,57,97,98,99,100,101,102]:List UInt8)[dD.toNat / 16]?=some u∧(.v (.int .u8 ((((dr (dD.toNat / 16)).toNat:Nat):Int))):DV)=.v (.int .u8 (u.toNat:Int))) (U (jj:cV Tryd.prog 54) (U ((by kernel_rfl):iU Tryd.prog 54=true) (U ((by first | rfl | (simp [af,c9];done) | (simp [af,c9];omega)):((cX ((b::l).take (i+1))).length)=(af (cX ((b::l).take (i+1)))).length) (U ((by first | rfl | (simp [af,c9];done) | (simp [af,c9];omega)):(1)=([[.v (.int .u8 ((((dr (dD.toNat / 16)).toNat:Nat):Int)))]]:List (List DV)).length) (U ((by first | omega | (simp [af,c9];omega)):(2*(((cX ((b::l).take (i+1))).length)+(1))+192)*1≤281474976710656) (U ((by first | omega | (simp [af,c9];omega)):((cX ((b::l).take (i+1))).length)+(1)<4611686018427387904) (U ((by simp [bf,AV.one,bS,af,ah,ints,steps,strs]):bf ([[.v (.int .u8 ((((dr (dD.toNat / 16)).toNat:Nat):Int)))]])) (U ((BE _):IntKind.u8.wrap ((BitVec.ofInt IntKind.u8.bits (((dD.toNat:Nat):Int)) &&& BitVec.ofInt IntKind.u8.bits (15)).toNat:Int)=((dD.toNat%16:Nat):Int)) (U (aN ((dD.toNat%16:Nat):Int)) (U (⟨_,r6 (by have:=(dD).toNat_lt;omega),rfl⟩:∃ u:UInt8,([48,49,50,51,52,53,54,55,56,57,97,98,99,100,101,102]:List UInt8)[dD.toNat%16]?=some u∧(.v (.int .u8 ((((dr (dD.toNat%16)).toNat:Nat):Int))):DV)=.v (.int .u8 (u.toNat:Int))) (U (jj:cV Tryd.prog 54) (U ((by kernel_rfl):iU Tryd.prog 54=true) (U ((by first | rfl | (simp [af,c9];done) | (simp [af,c9];omega)):((cX ((b::l).take (i+1))).length+(1))=(af (cX ((b::l).take (i+1)))++[[.v (.int .u8 ((((dr (dD.toNat / 16)).toNat:Nat):Int)))]]:List (List DV)).length) (U ((by first | rfl | (simp [af,c9];done) | (simp [af,c9];omega)):(1)=([[.v (.int .u8 ((((dr (dD.toNat%16)).toNat:Nat):Int)))]]:List (List DV)).length) (U ((by first | omega | (simp [af,c9];omega)):(2*(((cX ((b::l).take (i+1))).length+(1))+(1))+192)*1≤281474976710656) (U ((by first | omega | (simp [af,c9];omega)):((cX ((b::l).take (i+1))).length+(1))+(1)<4611686018427387904) (U ((by simp [bf,AV.one,bS,af,ah,ints,steps,strs]):bf ([[.v (.int .u8 ((((dr (dD.toNat%16)).toNat:Nat):Int)))]])) (U ((wi (by omega)):IntKind.i64.wrap ((((i+1:Nat):Int):Int)+1)=((i+1+1:Nat):Int)) trivial))))))))))))))))))))))))) fun ac wd r=>b6 (by omega) ac wd ⟨(by omega),r.cast rfl (by rw [Gl BF];simp [af])⟩
 | true=>
  have bw:=eq_of_beq h0
  exact absurd bw (by omega)
set_option maxRecDepth 100000 in
theorem Dm (a:Option Addr) (n:Nat):ay Tryd.prog 45 [.d (.v (.slice a 0 n))] (.v (.string ⟨[45].toArray⟩)):=by
 refine ay.intro (by kernel_rfl) rfl rfl 25 rfl rfl fun w0 K ac hK r=>?_
 rw [show (.v (.string ⟨[45].toArray⟩):DV)=.v (.string ⟨([45]).toArray⟩) from rfl]
 exact br tk mo hK rfl [] 2000 r (by kernel_rfl) trivial
theorem D1 (l:List UInt8) (hl:l.length≤16777216):ay Tryd.prog 45 [.d (.ro 1 (af l))] (.v (.string ⟨(iP l).toArray⟩)):=by
 cases l with
 | nil=>exact ay.empty (pre:=[]) (post:=[]) fun a c=>Dm a c
 | cons b l=>exact Dl b l (by simp at hl;omega)
theorem D2 (l:List (List UInt8)):b9 (strs l)=strs l:=by rw [jy];unfold strs;rw [List.map_map];apply List.map_congr_left;intro b _;rfl
def bR (z:Int):List UInt8:=Go.Lib.decDigits z.toNat
theorem ub (u:Nat) (h:u<18446744073709551616):(Go.Lib.decDigits u).length≤20:=by
 rw [Go.Lib.decDigits_length]
 rcases Nat.eq_zero_or_pos u with rfl | h1
 ·rw [Go.Lib.nDigits_small (by omega)];omega
 ·have:=Go.Lib.numDigits_eq u h1 h;split at this<;>omega
theorem su {z:Int} (h0:0≤z) (h:z<100):ay Tryd.prog 41 [.z z] (.v (.string ⟨(bR z).toArray⟩)):=by
 obtain ⟨n,rfl⟩:=Int.eq_ofNat_of_zero_le h0
 exact I9 n (by omega)
theorem n6 {z:Int} (h:z<100):(bR z).length≤20:=ub _ (by omega)
def iX (x:Int×Int):List UInt8:=bR x.1++[45]++bR x.2
def bQ (c:bY):List (List UInt8):=[119,111,114,108,100]::([bR c.aK]++c.ah.map iX++[[58]]++c.homes.map bR)
theorem zG {α:Type} {f:α→List UInt8} {l:List α} {i:Nat} {x:α} (h:l[i]?=some x):(l.take (i+1)).map f=(l.take i).map f++[f x]:=by
 rw [List.take_add_one,h];simp
theorem yO {l:List (List UInt8)} {n:Nat} (h:∀ x ∈ l,x.length≤n):l.flatten.length≤n*l.length:=by
 induction l with
 | nil=>simp
 | cons x r ih=>
  have h1:=h x (by simp)
  have h2:=ih (fun y hy=>h y (by simp [hy]))
  rw [List.flatten_cons,List.length_append,List.length_cons,Nat.mul_succ];omega
theorem zH {c:bY} (h:bT c=true):(bQ c).flatten.length≤41*(bQ c).length:=by
 have m:=iO h
 have hs:=m.head
 refine yO fun x hx=>?_
 unfold bQ at hx
 simp only [List.mem_cons,List.mem_append,List.mem_map,List.not_mem_nil,or_false] at hx
 rcases hx with rfl | (((rfl | ⟨y,hy,rfl⟩) | rfl) | ⟨y,hy,rfl⟩)
 ·simp
 ·exact Nat.le_trans (n6 (by omega)) (by omega)
 ·obtain ⟨j,hj,rfl⟩:=List.getElem_of_mem hy
  have hl:=m.link j _ (List.getElem?_eq_getElem hj)
  have h1:=n6 (z:=(c.ah[j]).1) (by have:=hl.1.2;omega)
  have h2:=n6 (z:=(c.ah[j]).2) (by have:=hl.2.1.2;omega)
  unfold iX;simp only [List.length_append,List.length_cons,List.length_nil];omega
 ·simp
 ·obtain ⟨j,hj,rfl⟩:=List.getElem_of_mem hy
  have hl:=m.home j _ (List.getElem?_eq_getElem hj)
  exact Nat.le_trans (n6 (by have:=hl.2;omega)) (by omega)
theorem AR (c:bY):(bQ c).length=3+c.ah.length+c.homes.length:=by unfold bQ;simp;omega
set_option maxRecDepth 100000 in
theorem EO (c:bY) (hm:bT c=true) (hc:c.ah.length≤100000):ay Tryd.prog 21 [.ag [.z c.aK,.d (.ro 2 (ah c.ah)),.d (.ro 1 (ints c.homes))]] (.v (.string ⟨(bc (bQ c)).toArray⟩)):=by
 refine ay.intro (by kernel_rfl) rfl rfl 49 rfl rfl fun w0 K ac hK r=>?_
 refine cT (todo':=hd Tryd.f21 0) (E':=[(1,.pt 0 0),(3,.sl 1 (2)),(13,.d (.ro 2 (ah c.ah))),(14,.n c.ah.length),(15,.z 0)]) (M':=[.bx 25 [.z c.aK,.d (.ro 2 (ah c.ah)),.d (.ro 1 (ints c.homes))],.rw 9 1 ([[.v (.string ⟨([119,111,114,108,100]).toArray⟩)],[.v (.string ⟨(bR c.aK).toArray⟩)]])]) tk mo hK [(1,[(2,.aP (.v (.string ⟨(bR c.aK).toArray⟩)))]),(2,[(2,.z (((c.ah.length:Nat):Int)))])] 2000 [0,1] [1,3,13,14,15] r (by kernel_rfl) (U (su (z:=c.aK) (by first | omega | (have:=(iO hm).head;omega)) (by first | omega | (have:=(iO hm).head;omega))) (U ((by first | rfl | simp [af,ah,ints,steps,strs]):(((ah c.ah).length:Nat):Int)=((c.ah.length:Nat):Int)) trivial)) fun ac wd r=>?_
 refine aC.rounds (Φ:=fun (i:Nat) ac wd=>(i≤c.ah.length)∧dA [] w0 K 49 [(1,.pt 0 0),(3,.sl 1 ((2+i))),(13,.d (.ro 2 (ah c.ah))),(14,.n c.ah.length),(15,.n i)] [.bx 25 [.z c.aK,.d (.ro 2 (ah c.ah)),.d (.ro 1 (ints c.homes))],.rw 9 1 (strs ([[119,111,114,108,100]]++[bR c.aK]++(c.ah.take i).map iX))] ac wd) (c.ah.length) ?_ (Nat.zero_le _) ⟨Nat.zero_le _,(r).cast rfl (by simp [strs])⟩
 clear r
 rintro i e7 b6 ac wd ⟨aq,r⟩
 have NV:=(iO hm).head
 cases h0:(decide ((((i:Nat):Int):Int)<((c.ah.length:Nat):Int))) with
 | false=>
  have bw:=of_decide_eq_false h0
  refine cT (todo':=hd Tryd.f21 1) (E':=[(3,.sl 0 ((2+i)+(1))),(35,.d (.ro 1 (ints c.homes))),(36,.n c.homes.length),(37,.z 0)]) (M':=[.rw 9 1 (strs ([[119,111,114,108,100]]++[bR c.aK]++(c.ah.take i).map iX)++[[.v (.string ⟨([58]).toArray⟩)]])]) tk mo hK [(3,[(0,.b false)]),(8,[(2,.z (((c.homes.length:Nat):Int)))])] 2000 [1] [3,35,36,37] r (by kernel_rfl) (U h0 (U ((by first | rfl | (simp [strs];done) | (simp [strs];omega)):((2+i))=(strs ([[119,111,114,108,100]]++[bR c.aK]++(c.ah.take i).map iX):List (List DV)).length) (U ((by first | rfl | (simp [strs];done) | (simp [strs];omega)):(1)=([[.v (.string ⟨([58]).toArray⟩)]]:List (List DV)).length) (U ((by first | omega | (simp [strs];done) | (simp [strs];omega)):(2*(((2+i))+(1))+192)*16≤281474976710656) (U ((by first | omega | (simp [strs];done) | (simp [strs];omega)):((2+i))+(1)<4611686018427387904) (U ((by simp [bf,AV.one,bS,strs]):bf ([[.v (.string ⟨([58]).toArray⟩)]])) (U ((by first | rfl | simp [af,ah,ints,steps,strs]):(((ints c.homes).length:Nat):Int)=((c.homes.length:Nat):Int)) trivial))))))) fun ac wd r=>?_
  refine aC.rounds (Φ:=fun (i:Nat) ac wd=>(i≤c.homes.length)∧dA [] w0 K 49 [(3,.sl 0 ((3+c.ah.length+i))),(35,.d (.ro 1 (ints c.homes))),(36,.n c.homes.length),(37,.n i)] [.rw 9 1 (strs ([[119,111,114,108,100]]++[bR c.aK]++c.ah.map iX++[[58]]++(c.homes.take i).map bR))] ac wd) (c.homes.length) ?_ (Nat.zero_le _) ⟨Nat.zero_le _,(r).cast (by rw [show 2+i+1=3+c.ah.length+0 from by omega];rfl) (by rw [List.take_of_length_le (by omega)];simp [strs])⟩
  clear r
  rintro i qU jF ac wd ⟨dV,r⟩
  cases h1:(decide ((((i:Nat):Int):Int)<((c.homes.length:Nat):Int))) with
  | false=>
   have bW:=of_decide_eq_false h1
   rw [show (.v (.string ⟨(bc (bQ c)).toArray⟩):DV)=.v (.string ⟨(bc (bQ c)).toArray⟩) from rfl]
   exact br tk mo hK rfl [(9,[(0,.b false)]),(13,[(1,.call [.d (.ro 1 (strs (bQ c))),.d (.v (.string ⟨([32]).toArray⟩))] (.v (.string ⟨(bc (bQ c)).toArray⟩)))])] 2000 r (by kernel_rfl) (U h1 (U (vC _ _ (by simp;omega) (by have h1:=zH hm;have h2:=AR c;unfold bQ at h1 h2;omega):ay Tryd.prog 42 [.d (.ro 1 (strs (bQ c))),.d (.v (.string ⟨([32]).toArray⟩))] (.v (.string ⟨(bc (bQ c)).toArray⟩))) (U ((fX _):e6 (.v (.string ⟨(bc (bQ c)).toArray⟩))) (U (dW (1)) (U ((by first | rfl | (simp [strs];done) | (simp [strs];omega)):((3+c.ah.length+i))=(strs ([[119,111,114,108,100]]++[bR c.aK]++c.ah.map iX++[[58]]++(c.homes.take i).map bR):List (List DV)).length) (U ((by rw [List.take_of_length_le (by omega)];exact D2 _):b9 (strs ([[119,111,114,108,100]]++[bR c.aK]++c.ah.map iX++[[58]]++(c.homes.take i).map bR))=strs (bQ c)) (U (iA (.v (.string ⟨([32]).toArray⟩))) trivial)))))))
  | true=>
   have bW:=of_decide_eq_true h1
   obtain ⟨eR,dP⟩:∃ x_,c.homes[i]?=some x_:=⟨_,List.getElem?_eq_getElem (by omega)⟩
   have ME:=(iO hm).home i _ dP
   unfold im at ME
   exact cT (todo':=hd Tryd.f21 1) (E':=[(3,.sl 0 ((3+c.ah.length+i)+(1))),(35,.d (.ro 1 (ints c.homes))),(36,.n c.homes.length),(37,.n (i+1))]) (M':=[.rw 9 1 (strs ([[119,111,114,108,100]]++[bR c.aK]++c.ah.map iX++[[58]]++(c.homes.take i).map bR)++[[.v (.string ⟨(bR eR).toArray⟩)]])]) tk mo hK [(9,[(0,.b true)]),(10,[(0,.ix (i) [.z eR])]),(11,[(2,.aP (.v (.string ⟨(bR eR).toArray⟩)))]),(12,[(0,.z (((i+1:Nat):Int)))])] 2000 [0] [3,35,36,37] r (by kernel_rfl) (U h1 (U (aN ((i:Nat):Int)) (U (ints_at dP) (U (su (z:=eR) (by first | omega | (have:=(iO hm).head;omega)) (by first | omega | (have:=(iO hm).head;omega))) (U ((by first | rfl | (simp [strs];done) | (simp [strs];omega)):((3+c.ah.length+i))=(strs ([[119,111,114,108,100]]++[bR c.aK]++c.ah.map iX++[[58]]++(c.homes.take i).map bR):List (List DV)).length) (U ((by first | rfl | (simp [strs];done) | (simp [strs];omega)):(1)=([[.v (.string ⟨(bR eR).toArray⟩)]]:List (List DV)).length) (U ((by first | omega | (simp [strs];done) | (simp [strs];omega)):(2*(((3+c.ah.length+i))+(1))+192)*16≤281474976710656) (U ((by first | omega | (simp [strs];done) | (simp [strs];omega)):((3+c.ah.length+i))+(1)<4611686018427387904) (U ((by simp [bf,AV.one,bS,strs]):bf ([[.v (.string ⟨(bR eR).toArray⟩)]])) (U ((wi (by omega)):IntKind.i64.wrap ((((i:Nat):Int):Int)+1)=((i+1:Nat):Int)) trivial)))))))))) fun ac wd r=>jF (by omega) ac wd ⟨(by omega),r.cast rfl (by rw [zG dP];simp [strs])⟩
 | true=>
  have bw:=of_decide_eq_true h0
  obtain ⟨bn,cz⟩:∃ x_,c.ah[i]?=some x_:=⟨_,List.getElem?_eq_getElem (by omega)⟩
  have MF:=(iO hm).link i _ cz
  unfold im at MF
  have NW:=n6 (z:=bn.1) (by omega)
  have s7:=n6 (z:=bn.2) (by omega)
  exact cT (todo':=hd Tryd.f21 0) (E':=[(1,.pt 0 0),(3,.sl 1 ((2+i)+(1))),(13,.d (.ro 2 (ah c.ah))),(14,.n c.ah.length),(15,.n (i+1))]) (M':=[.bx 25 [.z c.aK,.d (.ro 2 (ah c.ah)),.d (.ro 1 (ints c.homes))],.rw 9 1 (strs ([[119,111,114,108,100]]++[bR c.aK]++(c.ah.take i).map iX)++[[.v (.string ⟨((bR bn.1)++[45]++(bR bn.2)).toArray⟩)]])]) tk mo hK [(3,[(0,.b true)]),(4,[(0,.ix (i) [.z bn.1,.z bn.2])]),(5,[(1,.n 0),(5,.n 1),(3,.aP (.v (.string ⟨(bR bn.1).toArray⟩))),(7,.aP (.v (.string ⟨(bR bn.2).toArray⟩)))]),(6,[(0,.z (((i+1:Nat):Int)))])] 2000 [0,1] [1,3,13,14,15] r (by kernel_rfl) (U h0 (U (aN ((i:Nat):Int)) (U (iE cz) (U (rfl:(0)=((0:Nat):Int)) (U ((by omega):(0)<2) (U (rfl:(1)=((1:Nat):Int)) (U ((by omega):(1)<2) (U (su (z:=bn.1) (by first | omega | (have:=(iO hm).head;omega)) (by first | omega | (have:=(iO hm).head;omega))) (U ((by first | omega | decide | (simp;done) | (simp;omega)):((bR bn.1):List UInt8).length+([45]:List UInt8).length≤9223372036854775807) (U (su (z:=bn.2) (by first | omega | (have:=(iO hm).head;omega)) (by first | omega | (have:=(iO hm).head;omega))) (U ((by first | omega | decide | (simp;done) | (simp;omega)):((bR bn.1)++[45]:List UInt8).length+((bR bn.2):List UInt8).length≤9223372036854775807) (U ((by first | rfl | (simp [strs];done) | (simp [strs];omega)):((2+i))=(strs ([[119,111,114,108,100]]++[bR c.aK]++(c.ah.take i).map iX):List (List DV)).length) (U ((by first | rfl | (simp [strs];done) | (simp [strs];omega)):(1)=([[.v (.string ⟨((bR bn.1)++[45]++(bR bn.2)).toArray⟩)]]:List (List DV)).length) (U ((by first | omega | (simp [strs];done) | (simp [strs];omega)):(2*(((2+i))+(1))+192)*16≤281474976710656) (U ((by first | omega | (simp [strs];done) | (simp [strs];omega)):((2+i))+(1)<4611686018427387904) (U ((by simp [bf,AV.one,bS,strs]):bf ([[.v (.string ⟨((bR bn.1)++[45]++(bR bn.2)).toArray⟩)]])) (U ((wi (by omega)):IntKind.i64.wrap ((((i:Nat):Int):Int)+1)=((i+1:Nat):Int)) trivial))))))))))))))))) fun ac wd r=>b6 (by omega) ac wd ⟨(by omega),r.cast rfl (by rw [zG cz];simp [strs,iX])⟩
end Go.Proofs.YtcnpikbbmbombaaDoor
namespace Go.Proofs.YtcnpikbbmbombaaDoor
open Go.RowKit
theorem mH {z:Int} (h:0≤z) (h2:z≤65535):IntKind.u64.wrap z=((z.toNat:Nat):Int):=by
 simp [IntKind.wrap,IntKind.signed,IntKind.bits];omega
def oX (x:jw) (s:aJ):List (List UInt8):=(if x.node then [bR s.node] else [])++(if x.peer then [bR s.peer] else [])++(if x.n then [bR s.n] else [])++(if x.bit then [bR s.bit] else [])++(if x.inc then [Go.Lib.decDigits s.inc] else [])++(if x.body then [iP s.body] else [])
def cq (s:aJ):List (List UInt8):=(ae s.kind.toNat).word::oX (ae s.kind.toNat) s
theorem EP {l:List UInt8} {n:Nat} (h:l.length≤n):(iP l).length≤2*n+1:=by
 unfold iP;split
 ·simp
 ·rw [c9];omega
theorem Gm (k:Nat):(ae k).word.length≤7:=by
 rcases Nat.lt_or_ge k 14 with h | h
 ·exact r4 (p:=fun k=>(ae k).word.length≤7) (by decide) (by decide) (by decide) (by decide) (by decide) (by decide) (by decide) (by decide) (by decide) (by decide) (by decide) (by decide) (by decide) (by decide) h
 ·unfold ae;rw [List.getD_eq_getElem?_getD,List.getElem?_eq_none (by simpa [lO] using h)];decide
theorem Gn (x:jw) (s:aJ):(oX x s).length≤6:=by
 unfold oX
 simp only [List.length_append]
 have h1:∀ {b:Bool} {p:List (List UInt8)},p.length≤1→(if b=true then p else []).length≤1:=by
  intro b p h;split
  ·exact h
  ·simp
 have a1:=h1 (b:=x.node) (p:=[bR s.node]) (by simp)
 have a2:=h1 (b:=x.peer) (p:=[bR s.peer]) (by simp)
 have a3:=h1 (b:=x.n) (p:=[bR s.n]) (by simp)
 have a4:=h1 (b:=x.bit) (p:=[bR s.bit]) (by simp)
 have a5:=h1 (b:=x.inc) (p:=[Go.Lib.decDigits s.inc]) (by simp)
 have a6:=h1 (b:=x.body) (p:=[iP s.body]) (by simp)
 omega
theorem pP {s:aJ} (hb:s.body.length≤255) (hi:s.inc<18446744073709551616) (h0:s.node≤65535) (h1:s.peer≤65535) (h2:s.n≤65535) (h3:s.bit≤65535):(cq s).flatten.length≤3577∧(cq s).length≤7:=by
 have hl:=Gn (ae s.kind.toNat) s
 have hn:(cq s).length≤7:=by unfold cq;simp;omega
 refine ⟨?_,hn⟩
 have hd:∀ {z:Int},z≤65535→(bR z).length≤511:=fun {z} h=>by
  have:=ub z.toNat (by omega)
  unfold bR;omega
 have h:=yO (l:=cq s) (n:=511) fun x hx=>by
  unfold cq at hx
  rcases List.mem_cons.1 hx with rfl | hx
  ·exact Nat.le_trans (Gm _) (by decide)
  ·unfold oX at hx
   simp only [List.mem_append] at hx
   have key:∀ {b:Bool} {w x:List UInt8},x ∈ (if b=true then [w] else [])→x=w:=by
    intro b w x h;split at h
    ·simpa using h
    ·simp at h
   rcases hx with ((((hx | hx) | hx) | hx) | hx) | hx
   ·rw [key hx];exact hd h0
   ·rw [key hx];exact hd h1
   ·rw [key hx];exact hd h2
   ·rw [key hx];exact hd h3
   ·rw [key hx];exact Nat.le_trans (ub _ hi) (by decide)
   ·rw [key hx];exact EP hb
 have:=Nat.mul_le_mul_left 511 hn
 omega
def mi (b:Bool) (x:List UInt8) (l:List (List UInt8)):List (List UInt8):=cond b (l++[x]) l
theorem Gp (b:Bool) (x:List UInt8) (l:List (List UInt8)):(mi b x l).length≤l.length+1:=by cases b<;>simp [mi]
theorem HU (b:Bool) (x:List UInt8) (l:List (List UInt8)):mi b x l=l++(if b=true then [x] else []):=by cases b<;>simp [mi]
def nQ (s:aJ):Nat→Bool×List UInt8
 | 0=>((ae s.kind.toNat).node,bR s.node)
 | 1=>((ae s.kind.toNat).peer,bR s.peer)
 | 2=>((ae s.kind.toNat).n,bR s.n)
 | 3=>((ae s.kind.toNat).bit,bR s.bit)
 | _=>((ae s.kind.toNat).inc,Go.Lib.decDigits s.inc)
def aT (s:aJ):Nat→List (List UInt8)
 | 0=>[(ae s.kind.toNat).word]
 | j+1=>mi (nQ s j).1 (nQ s j).2 (aT s j)
theorem fk (s:aJ):∀ j,(aT s j).length≤j+1
 | 0=>Nat.le_refl _
 | j+1=>Nat.le_trans (Gp _ _ _) (Nat.succ_le_succ (fk s j))
theorem AT (s:aJ):cq s=mi (ae s.kind.toNat).body (iP s.body) (aT s 5):=by
 unfold cq oX;simp only [aT,nQ,HU];simp
theorem qi {s:aJ} {j:Nat} (h:(nQ s j).1=true):strs (aT s (j+1))=strs (aT s j)++[[.v (.string ⟨(nQ s j).2.toArray⟩)]]:=by rw [aT,h];simp [mi,strs]
theorem pY {s:aJ} {j:Nat} (h:(nQ s j).1=true):(aT s (j+1)).length=(aT s j).length+1:=by rw [aT,h];simp [mi]
theorem qj {s:aJ} {j:Nat} (h:(nQ s j).1=false):aT s (j+1)=aT s j:=by rw [aT,h];rfl
theorem BG {s:aJ} (h:(ae s.kind.toNat).body=true):cq s=aT s 5++[iP s.body]:=by rw [AT,h];rfl
theorem BH {s:aJ} (h:(ae s.kind.toNat).body=false):cq s=aT s 5:=by rw [AT,h];rfl
set_option maxRecDepth 100000 in
theorem D3 (s:aJ) (hb:s.body.length≤255) (hi:s.inc<18446744073709551616) (s6:0≤s.node) (ph:s.node≤65535) (CS:0≤s.peer) (pj:s.peer≤65535) (CT:0≤s.n) (pk:s.n≤65535) (dM:0≤s.bit) (fw:s.bit≤65535) (k0:0≤s.kind) (k1:s.kind<14):ax Tryd.prog 23 [.ag [.z s.kind,.z s.node,.z s.peer,.z s.n,.z s.bit,.u s.inc,.d (.ro 1 (af s.body))]] [.gw 0 aj,.gw 1 aL] (.d (.v (.string ⟨(bc (cq s)).toArray⟩))) ([.gw 0 aj,.gw 1 aL]):=by
 refine ax.intro (by kernel_rfl) rfl rfl 58 rfl rfl fun D w0 K bs ac wd hK (al:bs.m=2) r=>?_
 refine bN (todo':=aft Tryd.f23 3) (E':=[(1,.pt 2 0),(2,.d (.v (.string .empty))),(3,.pt 3 0),(4,.pt 5 0),(5,.fn 43 [.pt 5 0])]) (M':=[.gw 0 aj,.gw 1 aL,.bx 45 [.z s.kind,.z s.node,.z s.peer,.z s.n,.z s.bit,.u s.inc,.d (.ro 1 (af s.body))],.bx 84 [.d (.v (.string ⟨((ae s.kind.toNat).word).toArray⟩)),.d (.v (.bool ((ae s.kind.toNat).node))),.d (.v (.bool ((ae s.kind.toNat).peer))),.d (.v (.bool ((ae s.kind.toNat).n))),.d (.v (.bool ((ae s.kind.toNat).bit))),.d (.v (.bool ((ae s.kind.toNat).inc))),.d (.v (.bool ((ae s.kind.toNat).body)))],.rw 9 1 ([[.v (.string ⟨((ae s.kind.toNat).word).toArray⟩)]]),.bx 93 [.sl 4 (1)]]) tk mo hK al [(1,[(2,.ix (s.kind.toNat) [.v (.string ⟨((ae s.kind.toNat).word).toArray⟩),.v (.bool ((ae s.kind.toNat).node)),.v (.bool ((ae s.kind.toNat).peer)),.v (.bool ((ae s.kind.toNat).n)),.v (.bool ((ae s.kind.toNat).bit)),.v (.bool ((ae s.kind.toNat).inc)),.v (.bool ((ae s.kind.toNat).body))])])] 8 [0,1,2,3,4,5] [1,2,3,4,5] r (by kernel_rfl) (U ((by omega):(s.kind)=((s.kind.toNat:Nat):Int)) (U ((by omega):(s.kind.toNat)<14) (U (mK (by omega):List.take 7 (List.drop ((s.kind.toNat)*7) (aj:List DV))=([.v (.string ⟨((ae s.kind.toNat).word).toArray⟩),.v (.bool ((ae s.kind.toNat).node)),.v (.bool ((ae s.kind.toNat).peer)),.v (.bool ((ae s.kind.toNat).n)),.v (.bool ((ae s.kind.toNat).bit)),.v (.bool ((ae s.kind.toNat).inc)),.v (.bool ((ae s.kind.toNat).body))]:List DV)) trivial))) fun ac wd r=>?_
 suffices J4:∀ ac wd,RB D w0 K 58 bs [(1,.pt 2 0),(3,.pt 3 0),(4,.pt 4 0),(5,.fn 43 [.pt 4 0])] [.gw 0 aj,.gw 1 aL,.bx 45 [.z s.kind,.z s.node,.z s.peer,.z s.n,.z s.bit,.u s.inc,.d (.ro 1 (af s.body))],.bx 84 [.d (.v (.string ⟨((ae s.kind.toNat).word).toArray⟩)),.d (.v (.bool ((ae s.kind.toNat).node))),.d (.v (.bool ((ae s.kind.toNat).peer))),.d (.v (.bool ((ae s.kind.toNat).n))),.d (.v (.bool ((ae s.kind.toNat).bit))),.d (.v (.bool ((ae s.kind.toNat).inc))),.d (.v (.bool ((ae s.kind.toNat).body)))],.bx 93 [.sl 5 ((aT s 1).length)],.rw 9 1 (strs (aT s 1))] ac wd→aC Tryd.prog 23 (aft Tryd.f23 4) (ew D w0 K bs (.d (.v (.string ⟨(bc (cq s)).toArray⟩))) ([.gw 0 aj,.gw 1 aL])) ac wd by
  cases h0:((ae s.kind.toNat).node) with
  | false=>
   have r:=r.cast (M':=[.gw 0 aj,.gw 1 aL,.bx 45 [.z s.kind,.z s.node,.z s.peer,.z s.n,.z s.bit,.u s.inc,.d (.ro 1 (af s.body))],.bx 84 [.d (.v (.string ⟨((ae s.kind.toNat).word).toArray⟩)),.d (.v (.bool false)),.d (.v (.bool ((ae s.kind.toNat).peer))),.d (.v (.bool ((ae s.kind.toNat).n))),.d (.v (.bool ((ae s.kind.toNat).bit))),.d (.v (.bool ((ae s.kind.toNat).inc))),.d (.v (.bool ((ae s.kind.toNat).body)))],.rw 9 1 ([[.v (.string ⟨((ae s.kind.toNat).word).toArray⟩)]]),.bx 93 [.sl 4 (1)]]) rfl (by rw [h0])
   refine bN (todo':=aft Tryd.f23 4) (E':=[(1,.pt 2 0),(3,.pt 3 0),(4,.pt 4 0),(5,.fn 43 [.pt 4 0])]) (M':=[.gw 0 aj,.gw 1 aL,.bx 45 [.z s.kind,.z s.node,.z s.peer,.z s.n,.z s.bit,.u s.inc,.d (.ro 1 (af s.body))],.bx 84 [.d (.v (.string ⟨((ae s.kind.toNat).word).toArray⟩)),.d (.v (.bool false)),.d (.v (.bool ((ae s.kind.toNat).peer))),.d (.v (.bool ((ae s.kind.toNat).n))),.d (.v (.bool ((ae s.kind.toNat).bit))),.d (.v (.bool ((ae s.kind.toNat).inc))),.d (.v (.bool ((ae s.kind.toNat).body)))],.bx 93 [.sl 5 (1)],.rw 9 1 ([[.v (.string ⟨((ae s.kind.toNat).word).toArray⟩)]])]) tk mo hK al [(4,[(5,.z (((s.node.toNat:Nat):Int))),(6,.bG 200 [])])] 2 [0,1,2,3,5,4] [1,3,4,5] r (by kernel_rfl) (U ((mH s6 ph):IntKind.u64.wrap (s.node)=((s.node.toNat:Nat):Int)) trivial) fun ac wd r=>?_
   exact J4 ac wd (r.cast rfl (by rw [qj (j:=0) h0,h0]<;>rfl))
  | true=>
   have r:=r.cast (M':=[.gw 0 aj,.gw 1 aL,.bx 45 [.z s.kind,.z s.node,.z s.peer,.z s.n,.z s.bit,.u s.inc,.d (.ro 1 (af s.body))],.bx 84 [.d (.v (.string ⟨((ae s.kind.toNat).word).toArray⟩)),.d (.v (.bool true)),.d (.v (.bool ((ae s.kind.toNat).peer))),.d (.v (.bool ((ae s.kind.toNat).n))),.d (.v (.bool ((ae s.kind.toNat).bit))),.d (.v (.bool ((ae s.kind.toNat).inc))),.d (.v (.bool ((ae s.kind.toNat).body)))],.rw 9 1 ([[.v (.string ⟨((ae s.kind.toNat).word).toArray⟩)]]),.bx 93 [.sl 4 (1)]]) rfl (by rw [h0])
   refine bN (todo':=aft Tryd.f23 4) (E':=[(1,.pt 2 0),(3,.pt 3 0),(4,.pt 4 0),(5,.fn 43 [.pt 4 0])]) (M':=[.gw 0 aj,.gw 1 aL,.bx 45 [.z s.kind,.z s.node,.z s.peer,.z s.n,.z s.bit,.u s.inc,.d (.ro 1 (af s.body))],.bx 84 [.d (.v (.string ⟨((ae s.kind.toNat).word).toArray⟩)),.d (.v (.bool true)),.d (.v (.bool ((ae s.kind.toNat).peer))),.d (.v (.bool ((ae s.kind.toNat).n))),.d (.v (.bool ((ae s.kind.toNat).bit))),.d (.v (.bool ((ae s.kind.toNat).inc))),.d (.v (.bool ((ae s.kind.toNat).body)))],.bx 93 [.sl 5 (1+(1))],.rw 9 1 ([[.v (.string ⟨((ae s.kind.toNat).word).toArray⟩)]]++[[.v (.string ⟨(Go.Lib.decDigits s.node.toNat).toArray⟩)]])]) tk mo hK al [(4,[(5,.z (((s.node.toNat:Nat):Int))),(6,.bG 200 [(1,[(2,.mem [1] (.d (.v (.string ⟨(Go.Lib.decDigits s.node.toNat).toArray⟩))) [.gw 1 aL])])])])] 2 [0,1,2,3,5,4] [1,3,4,5] r (by kernel_rfl) (U ((mH s6 ph):IntKind.u64.wrap (s.node)=((s.node.toNat:Nat):Int)) (U (qv s.node.toNat (by omega)) (U ((by first | rfl | (simp [strs];done) | (simp [strs];omega)):(1)=([[.v (.string ⟨((ae s.kind.toNat).word).toArray⟩)]]:List (List DV)).length) (U ((by first | rfl | (simp [strs];done) | (simp [strs];omega)):(1)=([[.v (.string ⟨(Go.Lib.decDigits s.node.toNat).toArray⟩)]]:List (List DV)).length) (U ((by first | omega | (simp [strs];done) | (have:=fk s 5;simp [strs];omega)):(2*((1)+(1))+192)*16≤281474976710656) (U ((by first | omega | (simp [strs];done) | (have:=fk s 5;simp [strs];omega)):(1)+(1)<4611686018427387904) (U ((by simp [bf,AV.one,bS,af,ah,ints,steps,strs]):bf ([[.v (.string ⟨(Go.Lib.decDigits s.node.toNat).toArray⟩)]])) trivial))))))) fun ac wd r=>?_
   exact J4 ac wd (r.cast rfl (by rw [qi (j:=0) h0,pY (j:=0) h0,h0]<;>rfl))
 intro ac wd r
 have NX:=fk s 1
 suffices J5:∀ ac wd,RB D w0 K 58 bs [(1,.pt 2 0),(3,.pt 3 0),(4,.pt 4 0),(5,.fn 43 [.pt 4 0])] [.gw 0 aj,.gw 1 aL,.bx 45 [.z s.kind,.z s.node,.z s.peer,.z s.n,.z s.bit,.u s.inc,.d (.ro 1 (af s.body))],.bx 84 [.d (.v (.string ⟨((ae s.kind.toNat).word).toArray⟩)),.d (.v (.bool ((ae s.kind.toNat).node))),.d (.v (.bool ((ae s.kind.toNat).peer))),.d (.v (.bool ((ae s.kind.toNat).n))),.d (.v (.bool ((ae s.kind.toNat).bit))),.d (.v (.bool ((ae s.kind.toNat).inc))),.d (.v (.bool ((ae s.kind.toNat).body)))],.bx 93 [.sl 5 ((aT s 2).length)],.rw 9 1 (strs (aT s 2))] ac wd→aC Tryd.prog 23 (aft Tryd.f23 5) (ew D w0 K bs (.d (.v (.string ⟨(bc (cq s)).toArray⟩))) ([.gw 0 aj,.gw 1 aL])) ac wd by
  cases h1:((ae s.kind.toNat).peer) with
  | false=>
   have r:=r.cast (M':=[.gw 0 aj,.gw 1 aL,.bx 45 [.z s.kind,.z s.node,.z s.peer,.z s.n,.z s.bit,.u s.inc,.d (.ro 1 (af s.body))],.bx 84 [.d (.v (.string ⟨((ae s.kind.toNat).word).toArray⟩)),.d (.v (.bool ((ae s.kind.toNat).node))),.d (.v (.bool false)),.d (.v (.bool ((ae s.kind.toNat).n))),.d (.v (.bool ((ae s.kind.toNat).bit))),.d (.v (.bool ((ae s.kind.toNat).inc))),.d (.v (.bool ((ae s.kind.toNat).body)))],.bx 93 [.sl 5 ((aT s 1).length)],.rw 9 1 (strs (aT s 1))]) rfl (by rw [h1])
   refine bN (todo':=aft Tryd.f23 5) (E':=[(1,.pt 2 0),(3,.pt 3 0),(4,.pt 4 0),(5,.fn 43 [.pt 4 0])]) (M':=[.gw 0 aj,.gw 1 aL,.bx 45 [.z s.kind,.z s.node,.z s.peer,.z s.n,.z s.bit,.u s.inc,.d (.ro 1 (af s.body))],.bx 84 [.d (.v (.string ⟨((ae s.kind.toNat).word).toArray⟩)),.d (.v (.bool ((ae s.kind.toNat).node))),.d (.v (.bool false)),.d (.v (.bool ((ae s.kind.toNat).n))),.d (.v (.bool ((ae s.kind.toNat).bit))),.d (.v (.bool ((ae s.kind.toNat).inc))),.d (.v (.bool ((ae s.kind.toNat).body)))],.bx 93 [.sl 5 ((aT s 1).length)],.rw 9 1 (strs (aT s 1))]) tk mo hK al [(5,[(5,.z (((s.peer.toNat:Nat):Int))),(6,.bG 200 [])])] 2 [0,1,2,3,4,5] [1,3,4,5] r (by kernel_rfl) (U ((mH CS pj):IntKind.u64.wrap (s.peer)=((s.peer.toNat:Nat):Int)) trivial) fun ac wd r=>?_
   exact J5 ac wd (r.cast rfl (by rw [qj (j:=1) h1,h1]<;>rfl))
  | true=>
   have r:=r.cast (M':=[.gw 0 aj,.gw 1 aL,.bx 45 [.z s.kind,.z s.node,.z s.peer,.z s.n,.z s.bit,.u s.inc,.d (.ro 1 (af s.body))],.bx 84 [.d (.v (.string ⟨((ae s.kind.toNat).word).toArray⟩)),.d (.v (.bool ((ae s.kind.toNat).node))),.d (.v (.bool true)),.d (.v (.bool ((ae s.kind.toNat).n))),.d (.v (.bool ((ae s.kind.toNat).bit))),.d (.v (.bool ((ae s.kind.toNat).inc))),.d (.v (.bool ((ae s.kind.toNat).body)))],.bx 93 [.sl 5 ((aT s 1).length)],.rw 9 1 (strs (aT s 1))]) rfl (by rw [h1])
   refine bN (todo':=aft Tryd.f23 5) (E':=[(1,.pt 2 0),(3,.pt 3 0),(4,.pt 4 0),(5,.fn 43 [.pt 4 0])]) (M':=[.gw 0 aj,.gw 1 aL,.bx 45 [.z s.kind,.z s.node,.z s.peer,.z s.n,.z s.bit,.u s.inc,.d (.ro 1 (af s.body))],.bx 84 [.d (.v (.string ⟨((ae s.kind.toNat).word).toArray⟩)),.d (.v (.bool ((ae s.kind.toNat).node))),.d (.v (.bool true)),.d (.v (.bool ((ae s.kind.toNat).n))),.d (.v (.bool ((ae s.kind.toNat).bit))),.d (.v (.bool ((ae s.kind.toNat).inc))),.d (.v (.bool ((ae s.kind.toNat).body)))],.bx 93 [.sl 5 ((aT s 1).length+(1))],.rw 9 1 (strs (aT s 1)++[[.v (.string ⟨(Go.Lib.decDigits s.peer.toNat).toArray⟩)]])]) tk mo hK al [(5,[(5,.z (((s.peer.toNat:Nat):Int))),(6,.bG 200 [(1,[(2,.mem [1] (.d (.v (.string ⟨(Go.Lib.decDigits s.peer.toNat).toArray⟩))) [.gw 1 aL])])])])] 2 [0,1,2,3,4,5] [1,3,4,5] r (by kernel_rfl) (U ((mH CS pj):IntKind.u64.wrap (s.peer)=((s.peer.toNat:Nat):Int)) (U (qv s.peer.toNat (by omega)) (U ((by first | rfl | (simp [strs];done) | (simp [strs];omega)):((aT s 1).length)=(strs (aT s 1):List (List DV)).length) (U ((by first | rfl | (simp [strs];done) | (simp [strs];omega)):(1)=([[.v (.string ⟨(Go.Lib.decDigits s.peer.toNat).toArray⟩)]]:List (List DV)).length) (U ((by first | omega | (simp [strs];done) | (have:=fk s 5;simp [strs];omega)):(2*(((aT s 1).length)+(1))+192)*16≤281474976710656) (U ((by first | omega | (simp [strs];done) | (have:=fk s 5;simp [strs];omega)):((aT s 1).length)+(1)<4611686018427387904) (U ((by simp [bf,AV.one,bS,af,ah,ints,steps,strs]):bf ([[.v (.string ⟨(Go.Lib.decDigits s.peer.toNat).toArray⟩)]])) trivial))))))) fun ac wd r=>?_
   exact J5 ac wd (r.cast rfl (by rw [qi (j:=1) h1,pY (j:=1) h1,h1]<;>rfl))
 intro ac wd r
 have Mg:=fk s 2
 suffices J6:∀ ac wd,RB D w0 K 58 bs [(1,.pt 2 0),(3,.pt 3 0),(4,.pt 4 0),(5,.fn 43 [.pt 4 0])] [.gw 0 aj,.gw 1 aL,.bx 45 [.z s.kind,.z s.node,.z s.peer,.z s.n,.z s.bit,.u s.inc,.d (.ro 1 (af s.body))],.bx 84 [.d (.v (.string ⟨((ae s.kind.toNat).word).toArray⟩)),.d (.v (.bool ((ae s.kind.toNat).node))),.d (.v (.bool ((ae s.kind.toNat).peer))),.d (.v (.bool ((ae s.kind.toNat).n))),.d (.v (.bool ((ae s.kind.toNat).bit))),.d (.v (.bool ((ae s.kind.toNat).inc))),.d (.v (.bool ((ae s.kind.toNat).body)))],.bx 93 [.sl 5 ((aT s 3).length)],.rw 9 1 (strs (aT s 3))] ac wd→aC Tryd.prog 23 (aft Tryd.f23 6) (ew D w0 K bs (.d (.v (.string ⟨(bc (cq s)).toArray⟩))) ([.gw 0 aj,.gw 1 aL])) ac wd by
  cases h2:((ae s.kind.toNat).n) with
  | false=>
   have r:=r.cast (M':=[.gw 0 aj,.gw 1 aL,.bx 45 [.z s.kind,.z s.node,.z s.peer,.z s.n,.z s.bit,.u s.inc,.d (.ro 1 (af s.body))],.bx 84 [.d (.v (.string ⟨((ae s.kind.toNat).word).toArray⟩)),.d (.v (.bool ((ae s.kind.toNat).node))),.d (.v (.bool ((ae s.kind.toNat).peer))),.d (.v (.bool false)),.d (.v (.bool ((ae s.kind.toNat).bit))),.d (.v (.bool ((ae s.kind.toNat).inc))),.d (.v (.bool ((ae s.kind.toNat).body)))],.bx 93 [.sl 5 ((aT s 2).length)],.rw 9 1 (strs (aT s 2))]) rfl (by rw [h2])
   refine bN (todo':=aft Tryd.f23 6) (E':=[(1,.pt 2 0),(3,.pt 3 0),(4,.pt 4 0),(5,.fn 43 [.pt 4 0])]) (M':=[.gw 0 aj,.gw 1 aL,.bx 45 [.z s.kind,.z s.node,.z s.peer,.z s.n,.z s.bit,.u s.inc,.d (.ro 1 (af s.body))],.bx 84 [.d (.v (.string ⟨((ae s.kind.toNat).word).toArray⟩)),.d (.v (.bool ((ae s.kind.toNat).node))),.d (.v (.bool ((ae s.kind.toNat).peer))),.d (.v (.bool false)),.d (.v (.bool ((ae s.kind.toNat).bit))),.d (.v (.bool ((ae s.kind.toNat).inc))),.d (.v (.bool ((ae s.kind.toNat).body)))],.bx 93 [.sl 5 ((aT s 2).length)],.rw 9 1 (strs (aT s 2))]) tk mo hK al [(6,[(5,.z (((s.n.toNat:Nat):Int))),(6,.bG 200 [])])] 2 [0,1,2,3,4,5] [1,3,4,5] r (by kernel_rfl) (U ((mH CT pk):IntKind.u64.wrap (s.n)=((s.n.toNat:Nat):Int)) trivial) fun ac wd r=>?_
   exact J6 ac wd (r.cast rfl (by rw [qj (j:=2) h2,h2]<;>rfl))
  | true=>
   have r:=r.cast (M':=[.gw 0 aj,.gw 1 aL,.bx 45 [.z s.kind,.z s.node,.z s.peer,.z s.n,.z s.bit,.u s.inc,.d (.ro 1 (af s.body))],.bx 84 [.d (.v (.string ⟨((ae s.kind.toNat).word).toArray⟩)),.d (.v (.bool ((ae s.kind.toNat).node))),.d (.v (.bool ((ae s.kind.toNat).peer))),.d (.v (.bool true)),.d (.v (.bool ((ae s.kind.toNat).bit))),.d (.v (.bool ((ae s.kind.toNat).inc))),.d (.v (.bool ((ae s.kind.toNat).body)))],.bx 93 [.sl 5 ((aT s 2).length)],.rw 9 1 (strs (aT s 2))]) rfl (by rw [h2])
   refine bN (todo':=aft Tryd.f23 6) (E':=[(1,.pt 2 0),(3,.pt 3 0),(4,.pt 4 0),(5,.fn 43 [.pt 4 0])]) (M':=[.gw 0 aj,.gw 1 aL,.bx 45 [.z s.kind,.z s.node,.z s.peer,.z s.n,.z s.bit,.u s.inc,.d (.ro 1 (af s.body))],.bx 84 [.d (.v (.string ⟨((ae s.kind.toNat).word).toArray⟩)),.d (.v (.bool ((ae s.kind.toNat).node))),.d (.v (.bool ((ae s.kind.toNat).peer))),.d (.v (.bool true)),.d (.v (.bool ((ae s.kind.toNat).bit))),.d (.v (.bool ((ae s.kind.toNat).inc))),.d (.v (.bool ((ae s.kind.toNat).body)))],.bx 93 [.sl 5 ((aT s 2).length+(1))],.rw 9 1 (strs (aT s 2)++[[.v (.string ⟨(Go.Lib.decDigits s.n.toNat).toArray⟩)]])]) tk mo hK al [(6,[(5,.z (((s.n.toNat:Nat):Int))),(6,.bG 200 [(1,[(2,.mem [1] (.d (.v (.string ⟨(Go.Lib.decDigits s.n.toNat).toArray⟩))) [.gw 1 aL])])])])] 2 [0,1,2,3,4,5] [1,3,4,5] r (by kernel_rfl) (U ((mH CT pk):IntKind.u64.wrap (s.n)=((s.n.toNat:Nat):Int)) (U (qv s.n.toNat (by omega)) (U ((by first | rfl | (simp [strs];done) | (simp [strs];omega)):((aT s 2).length)=(strs (aT s 2):List (List DV)).length) (U ((by first | rfl | (simp [strs];done) | (simp [strs];omega)):(1)=([[.v (.string ⟨(Go.Lib.decDigits s.n.toNat).toArray⟩)]]:List (List DV)).length) (U ((by first | omega | (simp [strs];done) | (have:=fk s 5;simp [strs];omega)):(2*(((aT s 2).length)+(1))+192)*16≤281474976710656) (U ((by first | omega | (simp [strs];done) | (have:=fk s 5;simp [strs];omega)):((aT s 2).length)+(1)<4611686018427387904) (U ((by simp [bf,AV.one,bS,af,ah,ints,steps,strs]):bf ([[.v (.string ⟨(Go.Lib.decDigits s.n.toNat).toArray⟩)]])) trivial))))))) fun ac wd r=>?_
   exact J6 ac wd (r.cast rfl (by rw [qi (j:=2) h2,pY (j:=2) h2,h2]<;>rfl))
 intro ac wd r
 have x4:=fk s 3
 suffices J7:∀ ac wd,RB D w0 K 58 bs [(1,.pt 2 0),(3,.pt 3 0),(4,.pt 4 0),(5,.fn 43 [.pt 4 0])] [.gw 0 aj,.gw 1 aL,.bx 45 [.z s.kind,.z s.node,.z s.peer,.z s.n,.z s.bit,.u s.inc,.d (.ro 1 (af s.body))],.bx 84 [.d (.v (.string ⟨((ae s.kind.toNat).word).toArray⟩)),.d (.v (.bool ((ae s.kind.toNat).node))),.d (.v (.bool ((ae s.kind.toNat).peer))),.d (.v (.bool ((ae s.kind.toNat).n))),.d (.v (.bool ((ae s.kind.toNat).bit))),.d (.v (.bool ((ae s.kind.toNat).inc))),.d (.v (.bool ((ae s.kind.toNat).body)))],.bx 93 [.sl 5 ((aT s 4).length)],.rw 9 1 (strs (aT s 4))] ac wd→aC Tryd.prog 23 (aft Tryd.f23 7) (ew D w0 K bs (.d (.v (.string ⟨(bc (cq s)).toArray⟩))) ([.gw 0 aj,.gw 1 aL])) ac wd by
  cases h3:((ae s.kind.toNat).bit) with
  | false=>
   have r:=r.cast (M':=[.gw 0 aj,.gw 1 aL,.bx 45 [.z s.kind,.z s.node,.z s.peer,.z s.n,.z s.bit,.u s.inc,.d (.ro 1 (af s.body))],.bx 84 [.d (.v (.string ⟨((ae s.kind.toNat).word).toArray⟩)),.d (.v (.bool ((ae s.kind.toNat).node))),.d (.v (.bool ((ae s.kind.toNat).peer))),.d (.v (.bool ((ae s.kind.toNat).n))),.d (.v (.bool false)),.d (.v (.bool ((ae s.kind.toNat).inc))),.d (.v (.bool ((ae s.kind.toNat).body)))],.bx 93 [.sl 5 ((aT s 3).length)],.rw 9 1 (strs (aT s 3))]) rfl (by rw [h3])
   refine bN (todo':=aft Tryd.f23 7) (E':=[(1,.pt 2 0),(3,.pt 3 0),(4,.pt 4 0),(5,.fn 43 [.pt 4 0])]) (M':=[.gw 0 aj,.gw 1 aL,.bx 45 [.z s.kind,.z s.node,.z s.peer,.z s.n,.z s.bit,.u s.inc,.d (.ro 1 (af s.body))],.bx 84 [.d (.v (.string ⟨((ae s.kind.toNat).word).toArray⟩)),.d (.v (.bool ((ae s.kind.toNat).node))),.d (.v (.bool ((ae s.kind.toNat).peer))),.d (.v (.bool ((ae s.kind.toNat).n))),.d (.v (.bool false)),.d (.v (.bool ((ae s.kind.toNat).inc))),.d (.v (.bool ((ae s.kind.toNat).body)))],.bx 93 [.sl 5 ((aT s 3).length)],.rw 9 1 (strs (aT s 3))]) tk mo hK al [(7,[(5,.z (((s.bit.toNat:Nat):Int))),(6,.bG 200 [])])] 2 [0,1,2,3,4,5] [1,3,4,5] r (by kernel_rfl) (U ((mH dM fw):IntKind.u64.wrap (s.bit)=((s.bit.toNat:Nat):Int)) trivial) fun ac wd r=>?_
   exact J7 ac wd (r.cast rfl (by rw [qj (j:=3) h3,h3]<;>rfl))
  | true=>
   have r:=r.cast (M':=[.gw 0 aj,.gw 1 aL,.bx 45 [.z s.kind,.z s.node,.z s.peer,.z s.n,.z s.bit,.u s.inc,.d (.ro 1 (af s.body))],.bx 84 [.d (.v (.string ⟨((ae s.kind.toNat).word).toArray⟩)),.d (.v (.bool ((ae s.kind.toNat).node))),.d (.v (.bool ((ae s.kind.toNat).peer))),.d (.v (.bool ((ae s.kind.toNat).n))),.d (.v (.bool true)),.d (.v (.bool ((ae s.kind.toNat).inc))),.d (.v (.bool ((ae s.kind.toNat).body)))],.bx 93 [.sl 5 ((aT s 3).length)],.rw 9 1 (strs (aT s 3))]) rfl (by rw [h3])
   refine bN (todo':=aft Tryd.f23 7) (E':=[(1,.pt 2 0),(3,.pt 3 0),(4,.pt 4 0),(5,.fn 43 [.pt 4 0])]) (M':=[.gw 0 aj,.gw 1 aL,.bx 45 [.z s.kind,.z s.node,.z s.peer,.z s.n,.z s.bit,.u s.inc,.d (.ro 1 (af s.body))],.bx 84 [.d (.v (.string ⟨((ae s.kind.toNat).word).toArray⟩)),.d (.v (.bool ((ae s.kind.toNat).node))),.d (.v (.bool ((ae s.kind.toNat).peer))),.d (.v (.bool ((ae s.kind.toNat).n))),.d (.v (.bool true)),.d (.v (.bool ((ae s.kind.toNat).inc))),.d (.v (.bool ((ae s.kind.toNat).body)))],.bx 93 [.sl 5 ((aT s 3).length+(1))],.rw 9 1 (strs (aT s 3)++[[.v (.string ⟨(Go.Lib.decDigits s.bit.toNat).toArray⟩)]])]) tk mo hK al [(7,[(5,.z (((s.bit.toNat:Nat):Int))),(6,.bG 200 [(1,[(2,.mem [1] (.d (.v (.string ⟨(Go.Lib.decDigits s.bit.toNat).toArray⟩))) [.gw 1 aL])])])])] 2 [0,1,2,3,4,5] [1,3,4,5] r (by kernel_rfl) (U ((mH dM fw):IntKind.u64.wrap (s.bit)=((s.bit.toNat:Nat):Int)) (U (qv s.bit.toNat (by omega)) (U ((by first | rfl | (simp [strs];done) | (simp [strs];omega)):((aT s 3).length)=(strs (aT s 3):List (List DV)).length) (U ((by first | rfl | (simp [strs];done) | (simp [strs];omega)):(1)=([[.v (.string ⟨(Go.Lib.decDigits s.bit.toNat).toArray⟩)]]:List (List DV)).length) (U ((by first | omega | (simp [strs];done) | (have:=fk s 5;simp [strs];omega)):(2*(((aT s 3).length)+(1))+192)*16≤281474976710656) (U ((by first | omega | (simp [strs];done) | (have:=fk s 5;simp [strs];omega)):((aT s 3).length)+(1)<4611686018427387904) (U ((by simp [bf,AV.one,bS,af,ah,ints,steps,strs]):bf ([[.v (.string ⟨(Go.Lib.decDigits s.bit.toNat).toArray⟩)]])) trivial))))))) fun ac wd r=>?_
   exact J7 ac wd (r.cast rfl (by rw [qi (j:=3) h3,pY (j:=3) h3,h3]<;>rfl))
 intro ac wd r
 have Mh:=fk s 4
 suffices J8:∀ ac wd,RB D w0 K 58 bs [(1,.pt 2 0),(3,.pt 3 0),(4,.pt 4 0),(5,.fn 43 [.pt 4 0])] [.gw 0 aj,.gw 1 aL,.bx 45 [.z s.kind,.z s.node,.z s.peer,.z s.n,.z s.bit,.u s.inc,.d (.ro 1 (af s.body))],.bx 84 [.d (.v (.string ⟨((ae s.kind.toNat).word).toArray⟩)),.d (.v (.bool ((ae s.kind.toNat).node))),.d (.v (.bool ((ae s.kind.toNat).peer))),.d (.v (.bool ((ae s.kind.toNat).n))),.d (.v (.bool ((ae s.kind.toNat).bit))),.d (.v (.bool ((ae s.kind.toNat).inc))),.d (.v (.bool ((ae s.kind.toNat).body)))],.bx 93 [.sl 5 ((aT s 5).length)],.rw 9 1 (strs (aT s 5))] ac wd→aC Tryd.prog 23 (aft Tryd.f23 8) (ew D w0 K bs (.d (.v (.string ⟨(bc (cq s)).toArray⟩))) ([.gw 0 aj,.gw 1 aL])) ac wd by
  cases h4:((ae s.kind.toNat).inc) with
  | false=>
   have r:=r.cast (M':=[.gw 0 aj,.gw 1 aL,.bx 45 [.z s.kind,.z s.node,.z s.peer,.z s.n,.z s.bit,.u s.inc,.d (.ro 1 (af s.body))],.bx 84 [.d (.v (.string ⟨((ae s.kind.toNat).word).toArray⟩)),.d (.v (.bool ((ae s.kind.toNat).node))),.d (.v (.bool ((ae s.kind.toNat).peer))),.d (.v (.bool ((ae s.kind.toNat).n))),.d (.v (.bool ((ae s.kind.toNat).bit))),.d (.v (.bool false)),.d (.v (.bool ((ae s.kind.toNat).body)))],.bx 93 [.sl 5 ((aT s 4).length)],.rw 9 1 (strs (aT s 4))]) rfl (by rw [h4])
   refine bN (todo':=aft Tryd.f23 8) (E':=[(1,.pt 2 0),(3,.pt 3 0),(4,.pt 4 0),(5,.fn 43 [.pt 4 0])]) (M':=[.gw 0 aj,.gw 1 aL,.bx 45 [.z s.kind,.z s.node,.z s.peer,.z s.n,.z s.bit,.u s.inc,.d (.ro 1 (af s.body))],.bx 84 [.d (.v (.string ⟨((ae s.kind.toNat).word).toArray⟩)),.d (.v (.bool ((ae s.kind.toNat).node))),.d (.v (.bool ((ae s.kind.toNat).peer))),.d (.v (.bool ((ae s.kind.toNat).n))),.d (.v (.bool ((ae s.kind.toNat).bit))),.d (.v (.bool false)),.d (.v (.bool ((ae s.kind.toNat).body)))],.bx 93 [.sl 5 ((aT s 4).length)],.rw 9 1 (strs (aT s 4))]) tk mo hK al [(8,[(5,.bG 200 [])])] 2 [0,1,2,3,4,5] [1,3,4,5] r (by kernel_rfl) trivial fun ac wd r=>?_
   exact J8 ac wd (r.cast rfl (by rw [qj (j:=4) h4,h4]<;>rfl))
  | true=>
   have r:=r.cast (M':=[.gw 0 aj,.gw 1 aL,.bx 45 [.z s.kind,.z s.node,.z s.peer,.z s.n,.z s.bit,.u s.inc,.d (.ro 1 (af s.body))],.bx 84 [.d (.v (.string ⟨((ae s.kind.toNat).word).toArray⟩)),.d (.v (.bool ((ae s.kind.toNat).node))),.d (.v (.bool ((ae s.kind.toNat).peer))),.d (.v (.bool ((ae s.kind.toNat).n))),.d (.v (.bool ((ae s.kind.toNat).bit))),.d (.v (.bool true)),.d (.v (.bool ((ae s.kind.toNat).body)))],.bx 93 [.sl 5 ((aT s 4).length)],.rw 9 1 (strs (aT s 4))]) rfl (by rw [h4])
   refine bN (todo':=aft Tryd.f23 8) (E':=[(1,.pt 2 0),(3,.pt 3 0),(4,.pt 4 0),(5,.fn 43 [.pt 4 0])]) (M':=[.gw 0 aj,.gw 1 aL,.bx 45 [.z s.kind,.z s.node,.z s.peer,.z s.n,.z s.bit,.u s.inc,.d (.ro 1 (af s.body))],.bx 84 [.d (.v (.string ⟨((ae s.kind.toNat).word).toArray⟩)),.d (.v (.bool ((ae s.kind.toNat).node))),.d (.v (.bool ((ae s.kind.toNat).peer))),.d (.v (.bool ((ae s.kind.toNat).n))),.d (.v (.bool ((ae s.kind.toNat).bit))),.d (.v (.bool true)),.d (.v (.bool ((ae s.kind.toNat).body)))],.bx 93 [.sl 5 ((aT s 4).length+(1))],.rw 9 1 (strs (aT s 4)++[[.v (.string ⟨(Go.Lib.decDigits s.inc).toArray⟩)]])]) tk mo hK al [(8,[(5,.bG 200 [(1,[(2,.mem [1] (.d (.v (.string ⟨(Go.Lib.decDigits s.inc).toArray⟩))) [.gw 1 aL])])])])] 2 [0,1,2,3,4,5] [1,3,4,5] r (by kernel_rfl) (U (qv s.inc (by omega)) (U ((by first | rfl | (simp [strs];done) | (simp [strs];omega)):((aT s 4).length)=(strs (aT s 4):List (List DV)).length) (U ((by first | rfl | (simp [strs];done) | (simp [strs];omega)):(1)=([[.v (.string ⟨(Go.Lib.decDigits s.inc).toArray⟩)]]:List (List DV)).length) (U ((by first | omega | (simp [strs];done) | (have:=fk s 5;simp [strs];omega)):(2*(((aT s 4).length)+(1))+192)*16≤281474976710656) (U ((by first | omega | (simp [strs];done) | (have:=fk s 5;simp [strs];omega)):((aT s 4).length)+(1)<4611686018427387904) (U ((by simp [bf,AV.one,bS,af,ah,ints,steps,strs]):bf ([[.v (.string ⟨(Go.Lib.decDigits s.inc).toArray⟩)]])) trivial)))))) fun ac wd r=>?_
   exact J8 ac wd (r.cast rfl (by rw [qi (j:=4) h4,pY (j:=4) h4,h4]<;>rfl))
 intro ac wd r
 have Mi:=fk s 5
 refine bN (todo':=aft Tryd.f23 9) (E':=[(1,.pt 2 0),(4,.pt 4 0),(49,.d (.v (.bool ((ae s.kind.toNat).body))))]) (M':=[.gw 0 aj,.gw 1 aL,.bx 45 [.z s.kind,.z s.node,.z s.peer,.z s.n,.z s.bit,.u s.inc,.d (.ro 1 (af s.body))],.bx 84 [.d (.v (.string ⟨((ae s.kind.toNat).word).toArray⟩)),.d (.v (.bool ((ae s.kind.toNat).node))),.d (.v (.bool ((ae s.kind.toNat).peer))),.d (.v (.bool ((ae s.kind.toNat).n))),.d (.v (.bool ((ae s.kind.toNat).bit))),.d (.v (.bool ((ae s.kind.toNat).inc))),.d (.v (.bool ((ae s.kind.toNat).body)))],.bx 93 [.sl 5 ((aT s 5).length)],.rw 9 1 (strs (aT s 5))]) tk mo hK al [] 3 [0,1,2,3,4,5] [1,4,49] r (by kernel_rfl) trivial fun ac wd r=>?_
 cases h5:((ae s.kind.toNat).body) with
 | false=>
  have r:=r.cast (E':=[(1,.pt 2 0),(4,.pt 4 0),(49,.d (.v (.bool false)))]) (M':=[.gw 0 aj,.gw 1 aL,.bx 45 [.z s.kind,.z s.node,.z s.peer,.z s.n,.z s.bit,.u s.inc,.d (.ro 1 (af s.body))],.bx 84 [.d (.v (.string ⟨((ae s.kind.toNat).word).toArray⟩)),.d (.v (.bool ((ae s.kind.toNat).node))),.d (.v (.bool ((ae s.kind.toNat).peer))),.d (.v (.bool ((ae s.kind.toNat).n))),.d (.v (.bool ((ae s.kind.toNat).bit))),.d (.v (.bool ((ae s.kind.toNat).inc))),.d (.v (.bool false))],.bx 93 [.sl 5 ((aT s 5).length)],.rw 9 1 (strs (aT s 5))]) (by rw [h5]) (by rw [h5])
  refine a7 (y:=.d (.v (.string ⟨(bc (cq s)).toArray⟩))) (N':=[.gw 0 aj,.gw 1 aL]) (rfl) (rfl) ?_
  exact aZ tk mo hK rfl al [(11,[(1,.call [.d (.ro 1 (strs (cq s))),.d (.v (.string ⟨([32]).toArray⟩))] (.v (.string ⟨(bc (cq s)).toArray⟩)))])] 2000 [0,1] r (by kernel_rfl) (U (vC _ _ (Nat.le_trans (Nat.le_of_succ_le (pP (s:=s) hb hi ph pj pk fw).2) (by decide)) (Nat.le_trans (pP (s:=s) hb hi ph pj pk fw).1 (by decide)):ay Tryd.prog 42 [.d (.ro 1 (strs (cq s))),.d (.v (.string ⟨([32]).toArray⟩))] (.v (.string ⟨(bc (cq s)).toArray⟩))) (U ((fX _):e6 (.v (.string ⟨(bc (cq s)).toArray⟩))) (U (dW (1)) (U ((by first | rfl | (simp [strs];done) | (simp [strs];omega)):((aT s 5).length)=(strs (aT s 5):List (List DV)).length) (U ((by first | (rw [BH (by assumption)];simp [strs,jy,dS];done) | (rw [BG (by assumption)];simp [strs,jy,dS])):b9 (strs (aT s 5))=strs (cq s)) (U (iA (.v (.string ⟨([32]).toArray⟩))) trivial))))))
 | true=>
  have r:=r.cast (E':=[(1,.pt 2 0),(4,.pt 4 0),(49,.d (.v (.bool true)))]) (M':=[.gw 0 aj,.gw 1 aL,.bx 45 [.z s.kind,.z s.node,.z s.peer,.z s.n,.z s.bit,.u s.inc,.d (.ro 1 (af s.body))],.bx 84 [.d (.v (.string ⟨((ae s.kind.toNat).word).toArray⟩)),.d (.v (.bool ((ae s.kind.toNat).node))),.d (.v (.bool ((ae s.kind.toNat).peer))),.d (.v (.bool ((ae s.kind.toNat).n))),.d (.v (.bool ((ae s.kind.toNat).bit))),.d (.v (.bool ((ae s.kind.toNat).inc))),.d (.v (.bool true))],.bx 93 [.sl 5 ((aT s 5).length)],.rw 9 1 (strs (aT s 5))]) (by rw [h5]) (by rw [h5])
  refine a7 (y:=.d (.v (.string ⟨(bc (cq s)).toArray⟩))) (N':=[.gw 0 aj,.gw 1 aL]) (rfl) (rfl) ?_
  exact aZ tk mo hK rfl al [(10,[(3,.aP (.v (.string ⟨(iP s.body).toArray⟩)))]),(11,[(1,.call [.d (.ro 1 (strs (cq s))),.d (.v (.string ⟨([32]).toArray⟩))] (.v (.string ⟨(bc (cq s)).toArray⟩)))])] 2000 [0,1] r (by kernel_rfl) (U (D1 s.body (by omega)) (U ((by first | rfl | (simp [strs];done) | (simp [strs];omega)):((aT s 5).length)=(strs (aT s 5):List (List DV)).length) (U ((by first | rfl | (simp [strs];done) | (simp [strs];omega)):(1)=([[.v (.string ⟨(iP s.body).toArray⟩)]]:List (List DV)).length) (U ((by first | omega | (simp [strs];done) | (have:=fk s 5;simp [strs];omega)):(2*(((aT s 5).length)+(1))+192)*16≤281474976710656) (U ((by first | omega | (simp [strs];done) | (have:=fk s 5;simp [strs];omega)):((aT s 5).length)+(1)<4611686018427387904) (U ((by simp [bf,AV.one,bS,af,ah,ints,steps,strs]):bf ([[.v (.string ⟨(iP s.body).toArray⟩)]])) (U (vC _ _ (Nat.le_trans (Nat.le_of_succ_le (pP (s:=s) hb hi ph pj pk fw).2) (by decide)) (Nat.le_trans (pP (s:=s) hb hi ph pj pk fw).1 (by decide)):ay Tryd.prog 42 [.d (.ro 1 (strs (cq s))),.d (.v (.string ⟨([32]).toArray⟩))] (.v (.string ⟨(bc (cq s)).toArray⟩))) (U ((fX _):e6 (.v (.string ⟨(bc (cq s)).toArray⟩))) (U (dW (1)) (U ((by first | rfl | (simp [strs];done) | (simp [strs];omega)):((aT s 5).length+(1))=(strs (aT s 5)++[[.v (.string ⟨(iP s.body).toArray⟩)]]:List (List DV)).length) (U ((by first | (rw [BH (by assumption)];simp [strs,jy,dS];done) | (rw [BG (by assumption)];simp [strs,jy,dS])):b9 (strs (aT s 5)++[[.v (.string ⟨(iP s.body).toArray⟩)]])=strs (cq s)) (U (iA (.v (.string ⟨([32]).toArray⟩))) trivial))))))))))))
end Go.Proofs.YtcnpikbbmbombaaDoor
namespace Go.Proofs.YtcnpikbbmbombaaDoor
open Go.RowKit
def cU (l:List aJ):List UInt8:=l.flatMap fun s=>bc (cq s)++[10]
def r7 (c:bY) (l:List aJ):List UInt8:=bc (bQ c)++[10]++cU l
theorem yP {l:List aJ} {i:Nat} {s:aJ} (h:l[i]?=some s):cU (l.take (i+1))=cU (l.take i)++bc (cq s)++[10]:=by
 unfold cU;rw [List.take_add_one,h];simp
theorem zc (l:List (List UInt8)):(bc l).length≤l.flatten.length+l.length:=by
 cases l with
 | nil=>simp [bc]
 | cons x r=>simp only [bc,List.length_append,pO,List.flatten_cons,List.length_cons];omega
theorem D4 {c:bY} {l:List aJ} (h:decide (dK c l=0)=true):bT c=true∧l.all hasB=true∧(dq c l).length≤65536:=by
 have h2:=Gd h
 have h:=of_decide_eq_true h
 unfold dK at h
 generalize bT c=a at h;generalize l.all hasB=b at h
 refine ⟨?_,?_,h2⟩<;>cases a<;>cases b<;>first | rfl | (simp at h)
theorem Gq (s:aJ):1≤(cg s).length:=by unfold cg;simp
theorem HV (c:bY) (l:List aJ):c.ah.length+c.homes.length+l.length≤(dq c l).length:=by
 have h:l.length≤(l.flatMap cg).length:=by
  induction l with
  | nil=>simp
  | cons x r ih=>rw [List.flatMap_cons,List.length_append,List.length_cons];have:=Gq x;omega
 unfold dq;rw [List.length_append,rH];omega
set_option maxRecDepth 100000 in
theorem Ki (c:bY) (l:List aJ) (hc:c.ah.length≤1048576) (hh:c.homes.length≤1048576) (hl:l.length≤9223372036854775807) (hr:∀ s ∈ l,s.Rd) (hE:decide (dK c l=0)=true) (hm:bT c=true) (ha:∀ s ∈ l,hasB s=true) (hn:c.ah.length+c.homes.length+l.length≤65536) (hj:(bc (bQ c)).length≤2818048):ax Tryd.prog 8 [.ag [.z c.aK,.d (.ro 2 (ah c.ah)),.d (.ro 1 (ints c.homes))],.d (.ro 7 (steps l))] [.gw 0 aj,.gw 1 aL] (.tu [.d (.v (.string ⟨(r7 c l).toArray⟩)),.z 0]) ([.gw 0 aj,.gw 1 aL]):=by
 refine ax.intro (by kernel_rfl) rfl rfl 36 rfl rfl fun D w0 K bs ac wd hK (al:bs.m=2) r=>?_
 refine cF (todo':=hd Tryd.f8 0) (E':=[(8,.pt 2 0),(24,.d (.ro 7 (steps l))),(25,.n l.length),(26,.z 0)]) (M':=[.gw 0 aj,.gw 1 aL,.bx 56 [.pt 2 0,.sl 3 (((bc (bQ c))).length+(1))],.rw 5 1 (af (bc (bQ c))++[[.v (.int .u8 10)]])]) tk mo hK al [(1,[(2,.mem [0] (.tu [.sl 1 ((dq c l).length),.z 0]) [.gw 0 aj,.rw 5 1 (af (dq c l))])]),(5,[(1,.aP (.v (.string ⟨(bc (bQ c)).toArray⟩))),(2,.bG 200 [(1,[(1,.bG 200 [(1,[(2,.b true),(3,.b true),(4,.b false)])])])])]),(6,[(0,.bG 200 [(1,[(1,.bG 200 [])])])]),(7,[(1,.z (((l.length:Nat):Int)))])] 2000 [0,1,4,5] [8,24,25,26] r (by kernel_rfl) (U ((AF c l hc hh hl hr hE):ax Tryd.prog 7 [.ag [.z c.aK,.d (.ro 2 (ah c.ah)),.d (.ro 1 (ints c.homes))],.d (.ro 7 (steps l))] [.gw 0 aj] (.tu [.sl 1 ((dq c l).length),.z 0]) [.gw 0 aj,.rw 5 1 (af (dq c l))]) (U (EO c hm (by omega)) (U (jj:cV Tryd.prog 54) (U ((by kernel_rfl):(bif true then l8 Tryd.prog 54 119 else l9 Tryd.prog 54 119 56 2)=true) (U ((by decide):0<2) (U (wH:qb Tryd.prog 59) (U ((by kernel_rfl):(bif false then l8 Tryd.prog 119 54 else l9 Tryd.prog 119 54 56 2)=true) (U ((by decide):0<2) (U ((by first | omega | (simp [af];done) | (simp [af];omega)):(2*(0+((bc (bQ c))).length)+192)*1≤281474976710656) (U ((by first | omega | (simp [af];done) | (simp [af];omega)):0+((bc (bQ c))).length<4611686018427387904) (U (jj:cV Tryd.prog 54) (U ((by kernel_rfl):iU Tryd.prog 54=true) (U ((by first | rfl | (simp [af];done) | (simp [af];omega)):(((bc (bQ c))).length)=(af (bc (bQ c))).length) (U ((by first | rfl | (simp [af];done) | (simp [af];omega)):(1)=([[.v (.int .u8 10)]]:List (List DV)).length) (U ((by first | omega | (simp [af];done) | (simp [af];omega)):(2*((((bc (bQ c))).length)+(1))+192)*1≤281474976710656) (U ((by first | omega | (simp [af];done) | (simp [af];omega)):(((bc (bQ c))).length)+(1)<4611686018427387904) (U ((by simp [bf,AV.one,bS,af]):bf ([[.v (.int .u8 10)]])) (U ((by first | rfl | simp [af,ah,ints,steps,strs]):(((steps l).length:Nat):Int)=((l.length:Nat):Int)) trivial)))))))))))))))))) fun ac wd r=>?_
 refine aC.rounds (Φ:=fun (i:Nat) ac wd=>(i≤l.length∧(bc (bQ c)++[10]++cU (l.take i)).length≤2818049+4000*i)∧RB D w0 K 36 bs [(8,.pt 2 0),(24,.d (.ro 7 (steps l))),(25,.n l.length),(26,.n i)] [.gw 0 aj,.gw 1 aL,.bx 56 [.pt 2 0,.sl 3 ((bc (bQ c)++[10]++cU (l.take i)).length)],.rw 5 1 (af (bc (bQ c)++[10]++cU (l.take i)))] ac wd) (l.length) ?_ (Nat.zero_le _) ⟨⟨Nat.zero_le _,by simp [cU];omega⟩,(r).cast rfl (by simp [cU,af])⟩
 clear r
 rintro i e7 b6 ac wd ⟨aq,r⟩
 have hlen:=aq.2
 have NY:(bc (bQ c)++[10]++cU (l.take i)).length=(bc (bQ c)).length+1+(cU (l.take i)).length:=by simp;omega
 cases h0:(decide ((((i:Nat):Int):Int)<((l.length:Nat):Int))) with
 | false=>
  have bw:=of_decide_eq_false h0
  refine a7 (y:=.tu [.d (.v (.string ⟨((bc (bQ c)++[10]++cU (l.take i))).toArray⟩)),.z 0]) (N':=[.gw 0 aj,.gw 1 aL]) ((by rw [List.take_of_length_le (by omega)];rfl)) (rfl) ?_
  exact aZ tk mo hK rfl al [(8,[(0,.b false)]),(13,[(0,.bG 200 [(1,[(10,.res (.v (.string ⟨((bc (bQ c)++[10]++cU (l.take i))).toArray⟩)))])])])] 2000 [0,1] r (by kernel_rfl) (U h0 (U ((by first | rfl | (simp [af];done) | (simp [af];omega)):((bc (bQ c)++[10]++cU (l.take i)).length)=(af (bc (bQ c)++[10]++cU (l.take i)):List (List DV)).length) (U ((by first | omega | decide | (simp [af];done) | (simp [af];omega)):0<((bc (bQ c)++[10]++cU (l.take i)).length)) (U ((by simp [af]):((((bc (bQ c)++[10]++cU (l.take i)).length:Nat):Int):Int)=(((af (bc (bQ c)++[10]++cU (l.take i)):List (List DV)).length:Nat):Int)) (U ((by first | omega | (simp [af];done) | (simp [af];omega)):0<(af (bc (bQ c)++[10]++cU (l.take i)):List (List DV)).length) (U (rfl:af (bc (bQ c)++[10]++cU (l.take i))=af ((bc (bQ c)++[10]++cU (l.take i)))) (U ((by kernel_rfl):qq Tryd.prog 98 5=true) (U ((by first | omega | decide | (simp [af];done) | (simp [af];omega)):(af (bc (bQ c)++[10]++cU (l.take i)):List (List DV)).length≤9223372036854775807) trivial))))))))
 | true=>
  have bw:=of_decide_eq_true h0
  obtain ⟨bO,dR⟩:∃ x_,l[i]?=some x_:=⟨_,List.getElem?_eq_getElem (by omega)⟩
  have eM:=(hr _ (List.mem_of_getElem? dR)).inc
  have Mj:=sq (ha _ (List.mem_of_getElem? dR))
  have dE:=pP (s:=bO) (by omega) (by omega) (by omega) (by omega) (by omega) (by omega)
  have s5:=zc (cq bO)
  exact cF (todo':=hd Tryd.f8 0) (E':=[(8,.pt 2 0),(24,.d (.ro 7 (steps l))),(25,.n l.length),(26,.n (i+1))]) (M':=[.gw 0 aj,.gw 1 aL,.bx 56 [.pt 2 0,.sl 3 ((bc (bQ c)++[10]++cU (l.take i)).length+((bc (cq bO))).length+(1))],.rw 5 1 (af (bc (bQ c)++[10]++cU (l.take i))++af (bc (cq bO))++[[.v (.int .u8 10)]])]) tk mo hK al [(8,[(0,.b true)]),(9,[(0,.ix (i) [.z bO.kind,.z bO.node,.z bO.peer,.z bO.n,.z bO.bit,.u bO.inc,.ro 1 (af bO.body)])]),(10,[(1,.mem [0,1] (.d (.v (.string ⟨(bc (cq bO)).toArray⟩))) [.gw 0 aj,.gw 1 aL]),(2,.bG 200 [(1,[(1,.bG 200 [])])])]),(11,[(0,.bG 200 [(1,[(1,.bG 200 [])])])]),(12,[(0,.z (((i+1:Nat):Int)))])] 2000 [0,1,2,3] [8,24,25,26] r (by kernel_rfl) (U h0 (U (aN ((i:Nat):Int)) (U (lI dR) (U (D3 bO (by omega) (by omega) (by omega) (by omega) (by omega) (by omega) (by omega) (by omega) (by omega) (by omega) (by omega) (by omega)) (U (jj:cV Tryd.prog 54) (U ((by kernel_rfl):iU Tryd.prog 54=true) (U ((by first | rfl | (simp [af];done) | (simp [af];omega)):((bc (bQ c)++[10]++cU (l.take i)).length)=(af (bc (bQ c)++[10]++cU (l.take i)):List (List DV)).length) (U ((by first | omega | (simp [af];done) | (simp [af];omega)):(2*(((bc (bQ c)++[10]++cU (l.take i)).length)+((bc (cq bO))).length)+192)*1≤281474976710656) (U ((by first | omega | (simp [af];done) | (simp [af];omega)):((bc (bQ c)++[10]++cU (l.take i)).length)+((bc (cq bO))).length<4611686018427387904) (U (jj:cV Tryd.prog 54) (U ((by kernel_rfl):iU Tryd.prog 54=true) (U ((by first | rfl | (simp [af];done) | (simp [af];omega)):((bc (bQ c)++[10]++cU (l.take i)).length+((bc (cq bO))).length)=(af (bc (bQ c)++[10]++cU (l.take i))++af (bc (cq bO)):List (List DV)).length) (U ((by first | rfl | (simp [af];done) | (simp [af];omega)):(1)=([[.v (.int .u8 10)]]:List (List DV)).length) (U ((by first | omega | (simp [af];done) | (simp [af];omega)):(2*(((bc (bQ c)++[10]++cU (l.take i)).length+((bc (cq bO))).length)+(1))+192)*1≤281474976710656) (U ((by first | omega | (simp [af];done) | (simp [af];omega)):((bc (bQ c)++[10]++cU (l.take i)).length+((bc (cq bO))).length)+(1)<4611686018427387904) (U ((by simp [bf,AV.one,bS,af]):bf ([[.v (.int .u8 10)]])) (U ((wi (by omega)):IntKind.i64.wrap ((((i:Nat):Int):Int)+1)=((i+1:Nat):Int)) trivial))))))))))))))))) fun ac wd r=>b6 (by omega) ac wd ⟨⟨by omega,by rw [yP dR];simp at *;omega⟩,r.cast rfl (by rw [yP dR];simp [af,Nat.add_assoc];omega)⟩
theorem HW {l:List aJ} (h:l.all hasB=true):∀ s ∈ l,hasB s=true:=List.all_eq_true.1 h
theorem Gs (c:bY) (l:List aJ) (hc:c.ah.length≤1048576) (hh:c.homes.length≤1048576) (hl:l.length≤9223372036854775807) (hr:∀ s ∈ l,s.Rd) (hE:decide (dK c l=0)=true):ax Tryd.prog 8 [.ag [.z c.aK,.d (.ro 2 (ah c.ah)),.d (.ro 1 (ints c.homes))],.d (.ro 7 (steps l))] [.gw 0 aj,.gw 1 aL] (.tu [.d (.v (.string ⟨(r7 c l).toArray⟩)),.z 0]) [.gw 0 aj,.gw 1 aL]:=by
 obtain ⟨h1,h2,h3⟩:=D4 hE
 have h4:=HV c l
 refine Ki c l hc hh hl hr hE h1 (HW h2) (by omega) ?_
 have h5:=zH h1;have h6:=AR c;have h7:=zc (bQ c)
 omega
end Go.Proofs.YtcnpikbbmbombaaDoor
namespace Go.Proofs.YtcnpikbbmbombaaDoor
open Go.RowKit
theorem DE (l:List (List UInt8)):b9 (strs l)=strs l:=by rw [jy];unfold strs;rw [List.map_map];apply List.map_congr_left;intro b _;rfl
def bF (c:UInt8):List UInt8→List UInt8
 | []=>[]
 | x::r=>if x=c then [] else x::bF c r
def eY (c:UInt8) (s:List UInt8):List UInt8:=s.drop ((bF c s).length+1)
def aM (c:UInt8):List UInt8→List (List UInt8)
 | []=>[[]]
 | x::r=>if x=c then []::aM c r else (match aM c r with | w::ws=>(x::w)::ws | []=>[[x]])
theorem tz {c:UInt8}:∀ {s:List UInt8},0<s.count c→aM c s=bF c s::aM c (eY c s)
 | [],h=>by simp at h
 | x::r,h=>by
  by_cases hx:x=c
  ·subst hx;simp [aM,bF,eY]
  ·have h2:0<r.count c:=by rw [List.count_cons_of_ne hx] at h;exact h
   have ih:=tz h2
   simp only [aM,bF,if_neg hx,eY,List.length_cons,List.drop_succ_cons]
   rw [ih];rfl
theorem tq {c:UInt8}:∀ {s:List UInt8},s.count c=0→aM c s=[s]
 | [],_=>rfl
 | x::r,h=>by
  by_cases hx:x=c
  ·subst hx;simp at h
  ·have h2:r.count c=0:=by rw [List.count_cons_of_ne hx] at h;exact h
   simp only [aM,if_neg hx];rw [tq h2]
theorem uP {c:UInt8}:∀ {s:List UInt8},0<s.count c→Go.Lib.indexByte s c=(((bF c s).length:Nat):Int)
 | [],h=>by simp at h
 | x::r,h=>by
  by_cases hx:x=c
  ·subst hx;simp [Go.Lib.indexByte,bF]
  ·have h2:0<r.count c:=by rw [List.count_cons_of_ne hx] at h;exact h
   have ih:=uP h2
   have hb:(x==c)=false:=by simpa using hx
   unfold Go.Lib.indexByte
   rw [hb,ih]
   simp only [bF,if_neg hx,List.length_cons,Bool.false_eq_true,if_false]
   rw [if_neg (by first | (simp;done) | (simp;omega))];simp
theorem zI {c:UInt8}:∀ {s:List UInt8},s.count c=0→Go.Lib.indexByte s c = -1
 | [],_=>rfl
 | x::r,h=>by
  by_cases hx:x=c
  ·subst hx;simp at h
  ·have h2:r.count c=0:=by rw [List.count_cons_of_ne hx] at h;exact h
   have hb:(x==c)=false:=by simpa using hx
   unfold Go.Lib.indexByte
   rw [hb,zI h2];rfl
theorem ji {c:UInt8}:∀ {s:List UInt8},0<s.count c→(bF c s).length<s.length
 | [],h=>by simp at h
 | x::r,h=>by
  by_cases hx:x=c
  ·subst hx;simp [bF]
  ·have h2:0<r.count c:=by rw [List.count_cons_of_ne hx] at h;exact h
   simp only [bF,if_neg hx,List.length_cons];have:=ji h2;omega
theorem pG {c:UInt8}:∀ (s:List UInt8),s.take (bF c s).length=bF c s
 | []=>rfl
 | x::r=>by
  by_cases hx:x=c
  ·subst hx;simp [bF]
  ·simp only [bF,if_neg hx,List.length_cons,List.take_succ_cons];rw [pG r]
theorem tA {c:UInt8}:∀ {s:List UInt8},0<s.count c→s.count c=(eY c s).count c+1
 | [],h=>by simp at h
 | x::r,h=>by
  by_cases hx:x=c
  ·subst hx;simp [bF,eY]
  ·have h2:0<r.count c:=by rw [List.count_cons_of_ne hx] at h;exact h
   have:=tA h2
   simp only [eY,bF,if_neg hx,List.length_cons,List.drop_succ_cons] at *
   rw [List.count_cons_of_ne hx];exact this
theorem gp (c:UInt8) (s:List UInt8):(aM c s).length=s.count c+1:=by
 have key:∀ (n:Nat) (s:List UInt8),s.count c=n→(aM c s).length=n+1:=by
  intro n
  induction n with
  | zero=>intro s h;rw [tq h];rfl
  | succ n ih=>intro s h;have h2:=tA (c:=c) (s:=s) (by omega);rw [tz (by omega),List.length_cons,ih _ (by omega)]
 exact key _ s rfl
def dI (c:UInt8) (l:List UInt8) (i:Nat):List (List UInt8):=(aM c l).take i++List.replicate (l.count c+1-i) []
theorem zJ (l:List (List UInt8)) (i:Nat) (x:List UInt8):(strs l).set i [.v (.string ⟨x.toArray⟩)]=strs (l.set i x):=by unfold strs;rw [List.map_set]
theorem yQ {c:UInt8} {l w:List UInt8} {i:Nat} (h:(aM c l)[i]?=some w):(dI c l i).set i w=dI c l (i+1):=by
 obtain ⟨aF,rfl⟩:=List.getElem?_eq_some_iff.1 h
 have hl:=gp c l
 unfold dI
 have h1:((aM c l).take i).length=i:=by simp;omega
 rw [List.set_append_right _ _ (by omega),h1,Nat.sub_self,List.take_add_one,List.getElem?_eq_getElem aF,show l.count c+1-i=(l.count c+1-(i+1))+1 from by omega,List.replicate_succ,List.set_cons_zero,List.append_assoc]
 rfl
theorem yR {c:UInt8} {l:List UInt8} {i:Nat} (h:i≤l.count c):(dI c l i)[i]?=some []:=by
 have hl:=gp c l
 have h1:((aM c l).take i).length=i:=by simp;omega
 unfold dI
 rw [List.getElem?_append_right (by omega),h1,Nat.sub_self,List.getElem?_replicate,if_pos (by omega)]
theorem ER {c:UInt8} {l w:List UInt8} {i:Nat} (h:(aM c l)[i]?=some w) (hi:i=l.count c):strs (aM c l)=List.take (i+1) ((strs (dI c l i)).set i [.v (.string ⟨w.toArray⟩)]):=by
 have hl:=gp c l
 rw [zJ,yQ h]
 have e:(aM c l).take (i+1)=aM c l:=List.take_of_length_le (by omega)
 unfold dI strs
 rw [show l.count c+1-(i+1)=0 from by omega,e,List.replicate_zero,List.append_nil,List.take_of_length_le (by simp;omega)]
theorem zK {α:Type} {l r:List α} {x:α} {i:Nat} (h:l.drop i=x::r):l[i]?=some x∧l.drop (i+1)=r:=by
 constructor
 ·have:=congrArg (fun q=>q[0]?) h;simpa using this
 ·have:=congrArg (fun q=>q.drop 1) h;simpa [List.drop_drop] using this
set_option maxRecDepth 100000 in
theorem DF (c:UInt8) (l:List UInt8) (hl:l.length≤1048576) (cA:l.count c≤l.length):ay Tryd.prog 67 [.d (.v (.string ⟨l.toArray⟩)),.d (.v (.string ⟨([c]).toArray⟩)),.z 0,.z (-1)] (DV.em 9 1 (strs (aM c l))):=by
 refine ay.intro (by kernel_rfl) rfl rfl 66 rfl rfl fun w0 K ac hK r=>?_
 refine cT (todo':=hd Tryd.f67 0) (E':=[(0,.d (.v (.string ⟨l.toArray⟩))),(1,.d (.v (.string ⟨([c]).toArray⟩))),(2,.z 0),(3,.n (l.count c)),(9,.sl 0 (l.count c+1)),(10,.z 0)]) (M':=[.rw 9 1 (List.replicate (l.count c+1) [.v (.string .empty)])]) tk mo hK [(3,[(1,.b false)]),(6,[(2,.aP (.n ((l.count c)))),(3,.z ((((l.count c)+1:Nat):Int)))]),(7,[(3,.z (((l.length+1:Nat):Int))),(4,.z (((l.count c+1:Nat):Int)))]),(8,[(1,.n (l.count c+1))]),(9,[(1,.z (((l.count c:Nat):Int)))])] 2000 [0] [0,1,2,3,9,10] r (by kernel_rfl) (U ((by first | decide | simp):(([c]:List UInt8)==[])=false) (U (HQ l c) (U ((wi (by omega)):IntKind.i64.wrap (((((l.count c):Nat):Int):Int)+1)=(((l.count c)+1:Nat):Int)) (U ((wi (by omega)):IntKind.i64.wrap ((((l.length:Nat):Int):Int)+1)=((l.length+1:Nat):Int)) (U ((by omega):(min ((((l.count c)+1:Nat):Int)) (((l.length+1:Nat):Int)):Int)=((l.count c+1:Nat):Int)) (U (aN ((l.count c+1:Nat):Int)) (U (aN ((l.count c+1:Nat):Int)) (U ((by first | omega | (have:=ji jX;omega)):16*(l.count c+1)≤281474976710656) (U ((by first | omega | (have:=ji jX;omega)):(l.count c+1)<4611686018427387904) (U ((wi (by omega)):IntKind.i64.wrap ((((l.count c+1:Nat):Int):Int)-1)=((l.count c:Nat):Int)) trivial)))))))))) fun ac wd r=>?_
 refine aC.rounds (Φ:=fun (i:Nat) ac wd=>∃ s:List UInt8,(i≤l.count c∧(aM c l).drop i=aM c s∧l.count c=i+s.count c∧s.length≤1048576)∧dA [] w0 K 66 [(0,.d (.v (.string ⟨s.toArray⟩))),(1,.d (.v (.string ⟨([c]).toArray⟩))),(2,.z 0),(3,.n ((l.count c))),(9,.sl 0 ((l.count c+1))),(10,.n i)] [.rw 9 1 (strs (dI c l i))] ac wd) ((l.count c)) ?_ (Nat.zero_le _) ⟨l,⟨Nat.zero_le _,rfl,by omega,hl⟩,(r).cast rfl (by simp [strs,dI];rfl)⟩
 clear r
 rintro i e7 b6 ac wd ⟨s,aq,r⟩
 cases h0:(decide ((((i:Nat):Int):Int)<(((l.count c):Nat):Int))) with
 | false=>
  have bw:=of_decide_eq_false h0
  rw [show (DV.em 9 1 (strs (aM c l)):DV)=.em 9 1 ((List.set (strs (dI c l i)) (i) [.v (.string ⟨s.toArray⟩)]).take (i+1)) from (by rw [ER (zK (aq.2.1.trans (tq (by omega)))).1 (by omega)])]
  exact br tk mo hK rfl [(11,[(2,.b false)]),(17,[(3,.n (i)),(4,.ix 0 [.v (.string ⟨([]).toArray⟩)])]),(18,[(2,.z (((i+1:Nat):Int))),(3,.n (i+1))])] 2000 r (by kernel_rfl) (U h0 (U (aN ((i:Nat):Int)) (U ((by first | omega | (have:=ji jX;omega)):(i)<((l.count c+1))) (U ((by first | rfl | (simp [strs,dI,gp];done) | (simp [strs,dI,gp];omega)):((l.count c+1))≤(strs (dI c l i):List (List DV)).length) (U (rO (yR (by omega)):(strs (dI c l i))[i]?=some [.v (.string ⟨([]).toArray⟩)]) (U ((wi (by omega)):IntKind.i64.wrap ((((i:Nat):Int):Int)+1)=((i+1:Nat):Int)) (U (aN ((i+1:Nat):Int)) (U ((by first | omega | (have:=ji jX;omega)):(i+1)≤((l.count c+1))) (U ((by first | rfl | (simp [strs,dI,gp];done) | (simp [strs,dI,gp];omega)):((l.count c+1))=(List.set (strs (dI c l i)) (i) [.v (.string ⟨s.toArray⟩)]:List (List DV)).length) (U ((by first | rfl | (simp [strs,dI,gp];done) | (simp [strs,dI,gp];omega)):(i+1)=((List.set (strs (dI c l i)) (i) [.v (.string ⟨s.toArray⟩)]).take (i+1):List (List DV)).length) trivial))))))))))
 | true=>
  have bw:=of_decide_eq_true h0
  have jX:0<s.count c:=by omega
  have aF:=ji jX
  have fJ:=tA jX
  have CU:=zK (aq.2.1.trans (tz jX))
  have aY:=((by have h:=HP s c;rw [uP jX] at h;exact h):ay Tryd.prog 78 [.d (.v (.string ⟨s.toArray⟩)),.d (.v (.string ⟨([c]).toArray⟩))] (.n ((bF c s).length)))
  cases h1:(decide (((((bF c s).length:Nat):Int):Int)<0)) with
  | false=>
   have bW:=of_decide_eq_false h1
   exact cT (todo':=hd Tryd.f67 0) (E':=[(0,.d (.v (.string ⟨(List.drop ((bF c s).length+1) (s)).toArray⟩))),(1,.d (.v (.string ⟨([c]).toArray⟩))),(2,.z 0),(3,.n ((l.count c))),(9,.sl 0 ((l.count c+1))),(10,.n (i+1))]) (M':=[.rw 9 1 (List.set (strs (dI c l i)) (i) [.v (.string ⟨(List.take ((bF c s).length+0) (s)).toArray⟩)])]) tk mo hK [(11,[(2,.b true)]),(12,[(2,.aP (.n ((bF c s).length)))]),(13,[(1,.b false)]),(14,[(5,.z ((((bF c s).length+0:Nat):Int))),(6,.n2 ((bF c s).length+0) (0)),(7,.n (i)),(8,.ix 0 [.v (.string ⟨([]).toArray⟩)])]),(15,[(3,.z (1)),(4,.z ((((bF c s).length+1:Nat):Int))),(5,.n2 (0) ((bF c s).length+1))]),(16,[(1,.z (((i+1:Nat):Int)))])] 2000 [0] [0,1,2,3,9,10] r (by kernel_rfl) (U h0 (U aY (U h1 (U ((wi (by omega)):IntKind.i64.wrap (((((bF c s).length:Nat):Int):Int)+0)=(((bF c s).length+0:Nat):Int)) (U (aN (((bF c s).length+0:Nat):Int)) (U ((by have:=ji jX;omega):((bF c s).length+0)≤(s:List UInt8).length) (U (aN ((i:Nat):Int)) (U ((by first | omega | (have:=ji jX;omega)):(i)<((l.count c+1))) (U ((by first | rfl | (simp [strs,dI,gp];done) | (simp [strs,dI,gp];omega)):((l.count c+1))≤(strs (dI c l i):List (List DV)).length) (U (rO (yR (by omega)):(strs (dI c l i))[i]?=some [.v (.string ⟨([]).toArray⟩)]) (U ((by first | rfl | simp):((([c]:List UInt8).length:Nat):Int)=1) (U ((wi (by omega)):IntKind.i64.wrap (((((bF c s).length:Nat):Int):Int)+1)=(((bF c s).length+1:Nat):Int)) (U (aN (((bF c s).length+1:Nat):Int)) (U ((by have:=ji jX;omega):((bF c s).length+1)≤(s:List UInt8).length) (U ((wi (by omega)):IntKind.i64.wrap ((((i:Nat):Int):Int)+1)=((i+1:Nat):Int)) trivial))))))))))))))) fun ac wd r=>b6 (by omega) ac wd ⟨(List.drop ((bF c s).length+1) (s)),⟨by omega,CU.2,by unfold eY at fJ;omega,by simp;omega⟩,r.cast rfl (by rw [Nat.add_zero,pG,zJ,yQ CU.1])⟩
  | true=>
   have bW:=of_decide_eq_true h1
   exact absurd bW (by omega)
theorem ES (c:UInt8) (l:List UInt8) (hl:l.length≤1048576):ay Tryd.prog 67 [.d (.v (.string ⟨l.toArray⟩)),.d (.v (.string ⟨[c].toArray⟩)),.z 0,.z (-1)] (.em 9 1 (strs (aM c l))):=DF c l hl List.count_le_length
set_option maxRecDepth 100000 in
theorem Gt (c:UInt8) (l:List UInt8) (hl:l.length≤1048576):ay Tryd.prog 52 [.d (.v (.string ⟨l.toArray⟩)),.d (.v (.string ⟨([c]).toArray⟩))] (DV.em 9 1 (strs (aM c l))):=by
 refine ay.intro (by kernel_rfl) rfl rfl 8 rfl rfl fun w0 K ac hK r=>?_
 rw [show (DV.em 9 1 (strs (aM c l)):DV)=.em 9 1 (strs (aM c l)) from rfl]
 exact br tk mo hK rfl [(1,[(2,.aP (.em 9 1 (strs (aM c l))))])] 2000 r (by kernel_rfl) (U (ES c l hl) (U (dW ((strs (aM c l):List (List DV)).length)) trivial))
theorem rT (c:UInt8) (l:List UInt8) (hl:l.length≤1048576):ay Tryd.prog 52 [.d (.v (.string ⟨l.toArray⟩)),.d (.v (.string ⟨[c].toArray⟩))] (.ro 1 (strs (aM c l))):=by
 have h:=(Gt c l hl).stays
 simp only [dS,DE] at h
 exact h
theorem zL (l:List UInt8) (c:UInt8):ay Tryd.prog 75 [.d (.v (.string ⟨l.toArray⟩)),.d (.v (.string ⟨[c].toArray⟩))] (.z (Go.Lib.indexByte l c)):=
 ay.pM (by kernel_rfl) (zs:=[.string ⟨l.toArray⟩,.string ⟨[c].toArray⟩]) fun w=>(Tryd.stringslite_Index_one ⟨l.toArray⟩ c w).mono fun e w' ⟨he,hw⟩=>⟨he,hw▸Below.refl _ _⟩
set_option maxRecDepth 100000 in
theorem Gu (c:UInt8) (l:List UInt8) (hl:l.length≤1048576) (hc:0<l.count c):ay Tryd.prog 66 [.d (.v (.string ⟨l.toArray⟩)),.d (.v (.string ⟨([c]).toArray⟩))] (.tu [.v (.string ⟨(bF c l).toArray⟩),.v (.string ⟨(eY c l).toArray⟩),.v (.bool true)]):=by
 refine ay.intro (by kernel_rfl) rfl rfl 23 rfl rfl fun w0 K ac hK r=>?_
 have aY:=((by have h:=zL l c;rw [uP hc] at h;exact h):ay Tryd.prog 75 [.d (.v (.string ⟨l.toArray⟩)),.d (.v (.string ⟨([c]).toArray⟩))] (.n ((bF c l).length)))
 cases h0:(decide ((0:Int)≤(((bF c l).length:Nat):Int))) with
 | false=>
  have bw:=of_decide_eq_false h0
  exact absurd bw (by omega)
 | true=>
  have bw:=of_decide_eq_true h0
  rw [show (.tu [.v (.string ⟨(bF c l).toArray⟩),.v (.string ⟨(eY c l).toArray⟩),.v (.bool true)]:DV)=.tu [.v (.string ⟨(List.take ((bF c l).length) (l)).toArray⟩),.v (.string ⟨(List.drop ((bF c l).length+1) (l)).toArray⟩),.v (.bool true)] from (by first | rfl | (rw [pG];rfl))]
  exact br tk mo hK rfl [(1,[(2,.aP (.n ((bF c l).length)))]),(2,[(1,.b true)]),(3,[(2,.n2 ((bF c l).length) (0)),(6,.z (1)),(7,.z ((((bF c l).length+1:Nat):Int))),(8,.n2 (0) ((bF c l).length+1))])] 2000 r (by kernel_rfl) (U aY (U h0 (U (aN (((bF c l).length:Nat):Int)) (U ((by have:=ji hc;omega):((bF c l).length)≤(l:List UInt8).length) (U ((by first | rfl | simp):((([c]:List UInt8).length:Nat):Int)=1) (U ((wi (by have:=ji hc;omega)):IntKind.i64.wrap (((((bF c l).length:Nat):Int):Int)+1)=(((bF c l).length+1:Nat):Int)) (U (aN (((bF c l).length+1:Nat):Int)) (U ((by have:=ji hc;omega):((bF c l).length+1)≤(l:List UInt8).length) trivial))))))))
set_option maxRecDepth 100000 in
theorem pT (c:UInt8) (l:List UInt8) (hl:l.length≤1048576) (hc:0<l.count c):ay Tryd.prog 51 [.d (.v (.string ⟨l.toArray⟩)),.d (.v (.string ⟨([c]).toArray⟩))] (.tu [.v (.string ⟨(bF c l).toArray⟩),.v (.string ⟨(eY c l).toArray⟩),.v (.bool true)]):=by
 refine ay.intro (by kernel_rfl) rfl rfl 13 rfl rfl fun w0 K ac hK r=>?_
 rw [show (.tu [.v (.string ⟨(bF c l).toArray⟩),.v (.string ⟨(eY c l).toArray⟩),.v (.bool true)]:DV)=.tu [.v (.string ⟨(bF c l).toArray⟩),.v (.string ⟨(eY c l).toArray⟩),.v (.bool true)] from rfl]
 exact br tk mo hK rfl [(1,[(2,.aP (.tu [.v (.string ⟨(bF c l).toArray⟩),.v (.string ⟨(eY c l).toArray⟩),.v (.bool true)]))])] 2000 r (by kernel_rfl) (U (Gu c l hl hc) trivial)
set_option maxRecDepth 100000 in
theorem HX (c:UInt8) (l:List UInt8) (hl:l.length≤1048576) (hc:l.count c=0):ay Tryd.prog 66 [.d (.v (.string ⟨l.toArray⟩)),.d (.v (.string ⟨([c]).toArray⟩))] (.tu [.v (.string ⟨(l).toArray⟩),.v (.string ⟨([]).toArray⟩),.v (.bool false)]):=by
 refine ay.intro (by kernel_rfl) rfl rfl 23 rfl rfl fun w0 K ac hK r=>?_
 rw [show (.tu [.v (.string ⟨(l).toArray⟩),.v (.string ⟨([]).toArray⟩),.v (.bool false)]:DV)=.tu [.v (.string ⟨l.toArray⟩),.v (.string .empty),.v (.bool false)] from (by first | rfl | (rw [pG];rfl))]
 exact br tk mo hK rfl [(1,[(2,.aP (.z (-1)))])] 2000 r (by kernel_rfl) (U ((by have h:=zL l c;rw [zI hc] at h;exact h):ay Tryd.prog 75 [.d (.v (.string ⟨l.toArray⟩)),.d (.v (.string ⟨([c]).toArray⟩))] (.z (-1))) trivial)
set_option maxRecDepth 100000 in
theorem Ja (c:UInt8) (l:List UInt8) (hl:l.length≤1048576) (hc:l.count c=0):ay Tryd.prog 51 [.d (.v (.string ⟨l.toArray⟩)),.d (.v (.string ⟨([c]).toArray⟩))] (.tu [.v (.string ⟨(l).toArray⟩),.v (.string ⟨([]).toArray⟩),.v (.bool false)]):=by
 refine ay.intro (by kernel_rfl) rfl rfl 13 rfl rfl fun w0 K ac hK r=>?_
 rw [show (.tu [.v (.string ⟨(l).toArray⟩),.v (.string ⟨([]).toArray⟩),.v (.bool false)]:DV)=.tu [.v (.string ⟨l.toArray⟩),.v (.string ⟨([]).toArray⟩),.v (.bool false)] from rfl]
 exact br tk mo hK rfl [(1,[(2,.aP (.tu [.v (.string ⟨l.toArray⟩),.v (.string ⟨([]).toArray⟩),.v (.bool false)]))])] 2000 r (by kernel_rfl) (U (HX c l hl hc) trivial)
end Go.Proofs.YtcnpikbbmbombaaDoor
namespace Go.Proofs.YtcnpikbbmbombaaDoor
open Go.RowKit
theorem AU {x:Nat} (h:x<18446744073709551616):IntKind.u64.wrap (((x:Nat):Int).tdiv 10)=((x / 10:Nat):Int):=by
 have e:((x:Nat):Int).tdiv 10=((x / 10:Nat):Int):=(Int.ofNat_tdiv x 10).symm
 rw [e];simp [IntKind.wrap,IntKind.signed,IntKind.bits];omega
def iq (most:Nat):List UInt8→Nat→Option Nat
 | [],n=>some n
 | b::r,n=>if b.toNat<48∨57<b.toNat then none else if (most-(b.toNat-48)) / 10<n then none else iq most r (10*n+(b.toNat-48))
def aH (w:List UInt8) (most:Nat):Nat×Bool:=if w=[]∨(w.head?=some 48∧w≠[48]) then (0,false) else (match iq most w 0 with | some n=>(n,true) | none=>(0,false))
theorem kE {w:List UInt8} {most:Nat} (h:w=[]∨(w.head?=some 48∧w≠[48])):aH w most=(0,false):=by unfold aH;rw [if_pos h]
theorem kB {w:List UInt8} {most n:Nat} (h:¬ (w=[]∨(w.head?=some 48∧w≠[48]))) (e:iq most w 0=some n):aH w most=(n,true):=by unfold aH;rw [if_neg h,e]
theorem fh {w:List UInt8} {most:Nat} (h:¬ (w=[]∨(w.head?=some 48∧w≠[48]))) (e:iq most w 0=none):aH w most=(0,false):=by unfold aH;rw [if_neg h,e]
theorem k6 {w:List UInt8} (h:(w==([48]:List UInt8))=false):w≠[48]:=by intro e;subst e;simp at h
theorem Kj {w:List UInt8} (hw:w≠[]) (h:(w==([48]:List UInt8))=true):¬ (w=[]∨(w.head?=some 48∧w≠[48])):=by
 rintro (h1 | ⟨_,h1⟩)
 ·exact hw h1
 ·exact h1 (by simpa using h)
theorem Kk {w:List UInt8} {e:UInt8} (hw:w≠[]) (g:w[0]?=some e) (h:¬ ((e.toNat:Nat):Int)=48):¬ (w=[]∨(w.head?=some 48∧w≠[48])):=by
 rintro (h1 | ⟨h1,_⟩)
 ·exact hw h1
 ·rw [List.head?_eq_getElem?,g] at h1;cases h1;exact h rfl
theorem eU {most n i:Nat} {w:List UInt8} {b:UInt8} (h:w[i]?=some b):iq most (w.drop i) n=if b.toNat<48∨57<b.toNat then none else if (most-(b.toNat-48)) / 10<n then none else iq most (w.drop (i+1)) (10*n+(b.toNat-48)):=by
 obtain ⟨aF,rfl⟩:=List.getElem?_eq_some_iff.1 h
 rw [List.drop_eq_getElem_cons aF];rfl
theorem Ai {most:Nat}:∀ {w:List UInt8} {n k:Nat},n≤most→9≤most→iq most w n=some k→k≤most
 | [],n,k,h,_,e=>by simp [iq] at e;omega
 | b::r,n,k,h,h9,e=>by
  unfold iq at e
  split at e
  ·cases e
  ·split at e
   ·cases e
   ·exact Ai (by omega) h9 e
theorem lx {p:Nat×Bool} {a:Nat} {b:Bool} (h:p=(a,b)):(DV.tu [.u p.1,.v (.bool p.2)]:DV)=.tu [.u a,.v (.bool b)]:=by rw [h]
theorem dz {p:Nat×Bool} {b:Bool} (h:p=(0,b)):(DV.tu [.u p.1,.v (.bool p.2)]:DV)=.tu [.v (.int .u64 0),.v (.bool b)]:=by rw [h];rfl
theorem kF {w:List UInt8} {e:UInt8} (h:w[0]?=some e):w.head?=some e:=by rw [List.head?_eq_getElem?];exact h
theorem ly {e:UInt8} (h:((e.toNat:Nat):Int)=48):e=48:=by apply UInt8.toNat_inj.1;simp;omega
set_option maxRecDepth 100000 in
theorem HY (w:List UInt8) (most:Nat) (e0:UInt8) (g0:w[0]?=some e0) (hw:w≠[]) (hl:w.length≤9223372036854775807) (h9:9≤most) (hm:most<18446744073709551616):ay Tryd.prog 54 [.d (.v (.string ⟨w.toArray⟩)),.u most] (.tu [.u (aH w most).1,.v (.bool (aH w most).2)]):=by
 refine ay.intro (by kernel_rfl) rfl rfl 52 rfl rfl fun w0 K ac hK r=>?_
 cases h0:(w==([]:List UInt8)) with
 | false=>
  have aY:=(⟨_,g0,rfl⟩:∃ u:UInt8,(w:List UInt8)[0]?=some u∧(.v (.int .u8 (((e0.toNat:Nat):Int))):DV)=.v (.int .u8 (u.toNat:Int)))
  cases h1:((((e0.toNat:Nat):Int):Int)==48) with
  | false=>
   have bW:=ne_of_beq_false h1
   have hR:=Kk hw g0 (by assumption)
   refine cT (todo':=hd Tryd.f54 0) (E':=[(0,.d (.v (.string ⟨w.toArray⟩))),(1,.u most),(6,.u 0),(21,.n w.length),(22,.n 0)]) (M':=[]) tk mo hK [(1,[(1,.b false),(4,.ix (0) [.v (.int .u8 (((e0.toNat:Nat):Int)))]),(5,.b false)])] 2000 [] [0,1,6,21,22] r (by kernel_rfl) (U h0 (U (rfl:(0:Int)=((0:Nat):Int)) (U aY (U h1 trivial)))) fun ac wd r=>?_
   refine aC.rounds (Φ:=fun (i:Nat) ac wd=>∃ n:Nat,(iq most (w.drop i) n=iq most w 0∧n≤most)∧dA [] w0 K 52 [(0,.d (.v (.string ⟨w.toArray⟩))),(1,.u most),(6,.u n),(21,.n w.length),(22,.n i)] [] ac wd) (w.length) ?_ (Nat.zero_le _) ⟨0,⟨rfl,Nat.zero_le _⟩,r⟩
   clear r
   rintro i e7 b6 ac wd ⟨n,aq,r⟩
   have CB:=aq.2
   cases h2:(decide ((((i:Nat):Int):Int)<((w.length:Nat):Int))) with
   | false=>
    have dG:=of_decide_eq_false h2
    rw [show (.tu [.u (aH w most).1,.v (.bool (aH w most).2)]:DV)=.tu [.u n,.v (.bool true)] from (by first | exact dz (kE (Or.inr ⟨(kF g0).trans (congrArg some (ly (by assumption))),k6 (by assumption)⟩)) | exact dz (fh hR (aq.1.symm.trans ((eU ea).trans (if_pos (by omega))))) | exact dz (fh hR (aq.1.symm.trans ((eU ea).trans ((if_neg (by omega)).trans (if_pos (by omega)))))) | exact lx (kB hR (aq.1.symm.trans (by rw [List.drop_of_length_le (by omega)];rfl))))]
    exact br tk mo hK rfl [(5,[(0,.b false)])] 2000 r (by kernel_rfl) (U h2 trivial)
   | true=>
    have dG:=of_decide_eq_true h2
    obtain ⟨bp,ea⟩:∃ x_,w[i]?=some x_:=⟨_,List.getElem?_eq_getElem (by omega)⟩
    have mB:=bp.toNat_lt
    have bH:=(⟨_,ea,rfl⟩:∃ u:UInt8,(w:List UInt8)[i]?=some u∧(.v (.int .u8 (((bp.toNat:Nat):Int))):DV)=.v (.int .u8 (u.toNat:Int)))
    cases h3:(decide ((((bp.toNat:Nat):Int):Int)<48)) with
    | false=>
     have dX:=of_decide_eq_false h3
     cases h4:(decide ((57:Int)<((bp.toNat:Nat):Int))) with
     | false=>
      have fx:=of_decide_eq_false h4
      have cB:=((by rw [w8 (by omega)];omega):IntKind.u8.wrap ((((bp.toNat:Nat):Int):Int)-48)=((bp.toNat-48:Nat):Int))
      have dH:=((wu (by omega)):IntKind.u64.wrap (((bp.toNat-48:Nat):Int))=((bp.toNat-48:Nat):Int))
      have gP:=((wu (by omega)):IntKind.u64.wrap ((((most:Nat):Int):Int)-((bp.toNat-48:Nat):Int))=((most-(bp.toNat-48):Nat):Int))
      have gQ:=((AU (by omega)):IntKind.u64.wrap ((((most-(bp.toNat-48):Nat):Int):Int).tdiv 10)=(((most-(bp.toNat-48)) / 10:Nat):Int))
      cases h5:(decide (((((most-(bp.toNat-48)) / 10:Nat):Int):Int)<((n:Nat):Int))) with
      | false=>
       have fy:=of_decide_eq_false h5
       exact cT (todo':=hd Tryd.f54 0) tk mo hK [(5,[(0,.b true)]),(7,[(2,.ix (i) [.v (.int .u8 (((bp.toNat:Nat):Int)))]),(3,.b false),(7,.ix (i) [.v (.int .u8 (((bp.toNat:Nat):Int)))]),(8,.b false)]),(9,[(2,.ix (i) [.v (.int .u8 (((bp.toNat:Nat):Int)))]),(3,.z (((bp.toNat-48:Nat):Int))),(4,.z (((bp.toNat-48:Nat):Int)))]),(10,[(3,.z (((most-(bp.toNat-48):Nat):Int))),(4,.z ((((most-(bp.toNat-48)) / 10:Nat):Int))),(5,.b false)]),(12,[(1,.z (((10*n:Nat):Int))),(3,.z (((10*n+(bp.toNat-48):Nat):Int)))]),(13,[(0,.z (((i+1:Nat):Int)))])] 2000 [] [0,1,6,21,22] r (by kernel_rfl) (U h2 (U (aN ((i:Nat):Int)) (U bH (U h3 (U (aN ((i:Nat):Int)) (U bH (U h4 (U (aN ((i:Nat):Int)) (U bH (U cB (U dH (U gP (U gQ (U ((by decide):(10:Int)≠0) (U h5 (U ((wu (by omega)):IntKind.u64.wrap ((10:Int)*((n:Nat):Int))=((10*n:Nat):Int)) (U ((wu (by omega)):IntKind.u64.wrap ((((10*n:Nat):Int):Int)+((bp.toNat-48:Nat):Int))=((10*n+(bp.toNat-48):Nat):Int)) (U ((wi (by omega)):IntKind.i64.wrap ((((i:Nat):Int):Int)+1)=((i+1:Nat):Int)) trivial)))))))))))))))))) fun ac wd r=>b6 (by omega) ac wd ⟨(10*n+(bp.toNat-48)),⟨by rw [← aq.1,eU ea,if_neg (by omega),if_neg (by omega)],by omega⟩,r⟩
      | true=>
       have fy:=of_decide_eq_true h5
       rw [show (.tu [.u (aH w most).1,.v (.bool (aH w most).2)]:DV)=.tu [.v (.int .u64 0),.v (.bool false)] from (by first | exact dz (kE (Or.inr ⟨(kF g0).trans (congrArg some (ly (by assumption))),k6 (by assumption)⟩)) | exact dz (fh hR (aq.1.symm.trans ((eU ea).trans (if_pos (by omega))))) | exact dz (fh hR (aq.1.symm.trans ((eU ea).trans ((if_neg (by omega)).trans (if_pos (by omega)))))) | exact lx (kB hR (aq.1.symm.trans (by rw [List.drop_of_length_le (by omega)];rfl))))]
       exact br tk mo hK rfl [(5,[(0,.b true)]),(7,[(2,.ix (i) [.v (.int .u8 (((bp.toNat:Nat):Int)))]),(3,.b false),(7,.ix (i) [.v (.int .u8 (((bp.toNat:Nat):Int)))]),(8,.b false)]),(9,[(2,.ix (i) [.v (.int .u8 (((bp.toNat:Nat):Int)))]),(3,.z (((bp.toNat-48:Nat):Int))),(4,.z (((bp.toNat-48:Nat):Int)))]),(10,[(3,.z (((most-(bp.toNat-48):Nat):Int))),(4,.z ((((most-(bp.toNat-48)) / 10:Nat):Int))),(5,.b true)])] 2000 r (by kernel_rfl) (U h2 (U (aN ((i:Nat):Int)) (U bH (U h3 (U (aN ((i:Nat):Int)) (U bH (U h4 (U (aN ((i:Nat):Int)) (U bH (U cB (U dH (U gP (U gQ (U ((by decide):(10:Int)≠0) (U h5 trivial)))))))))))))))
     | true=>
      have fx:=of_decide_eq_true h4
      rw [show (.tu [.u (aH w most).1,.v (.bool (aH w most).2)]:DV)=.tu [.v (.int .u64 0),.v (.bool false)] from (by first | exact dz (kE (Or.inr ⟨(kF g0).trans (congrArg some (ly (by assumption))),k6 (by assumption)⟩)) | exact dz (fh hR (aq.1.symm.trans ((eU ea).trans (if_pos (by omega))))) | exact dz (fh hR (aq.1.symm.trans ((eU ea).trans ((if_neg (by omega)).trans (if_pos (by omega)))))) | exact lx (kB hR (aq.1.symm.trans (by rw [List.drop_of_length_le (by omega)];rfl))))]
      exact br tk mo hK rfl [(5,[(0,.b true)]),(7,[(2,.ix (i) [.v (.int .u8 (((bp.toNat:Nat):Int)))]),(3,.b false),(7,.ix (i) [.v (.int .u8 (((bp.toNat:Nat):Int)))]),(8,.b true)])] 2000 r (by kernel_rfl) (U h2 (U (aN ((i:Nat):Int)) (U bH (U h3 (U (aN ((i:Nat):Int)) (U bH (U h4 trivial)))))))
    | true=>
     have dX:=of_decide_eq_true h3
     rw [show (.tu [.u (aH w most).1,.v (.bool (aH w most).2)]:DV)=.tu [.v (.int .u64 0),.v (.bool false)] from (by first | exact dz (kE (Or.inr ⟨(kF g0).trans (congrArg some (ly (by assumption))),k6 (by assumption)⟩)) | exact dz (fh hR (aq.1.symm.trans ((eU ea).trans (if_pos (by omega))))) | exact dz (fh hR (aq.1.symm.trans ((eU ea).trans ((if_neg (by omega)).trans (if_pos (by omega)))))) | exact lx (kB hR (aq.1.symm.trans (by rw [List.drop_of_length_le (by omega)];rfl))))]
     exact br tk mo hK rfl [(5,[(0,.b true)]),(7,[(2,.ix (i) [.v (.int .u8 (((bp.toNat:Nat):Int)))]),(3,.b true)])] 2000 r (by kernel_rfl) (U h2 (U (aN ((i:Nat):Int)) (U bH (U h3 trivial))))
  | true=>
   have bW:=eq_of_beq h1
   cases h6:(w==([48]:List UInt8)) with
   | false=>
    rw [show (.tu [.u (aH w most).1,.v (.bool (aH w most).2)]:DV)=.tu [.v (.int .u64 0),.v (.bool false)] from (by first | exact dz (kE (Or.inr ⟨(kF g0).trans (congrArg some (ly (by assumption))),k6 (by assumption)⟩)) | exact dz (fh hR (aq.1.symm.trans ((eU ea).trans (if_pos (by omega))))) | exact dz (fh hR (aq.1.symm.trans ((eU ea).trans ((if_neg (by omega)).trans (if_pos (by omega)))))) | exact lx (kB hR (aq.1.symm.trans (by rw [List.drop_of_length_le (by omega)];rfl))))]
    exact br tk mo hK rfl [(1,[(1,.b false),(4,.ix (0) [.v (.int .u8 (((e0.toNat:Nat):Int)))]),(5,.b true),(8,.b true)])] 2000 r (by kernel_rfl) (U h0 (U (rfl:(0:Int)=((0:Nat):Int)) (U aY (U h1 (U ((by simpa [bne] using h6):(w != ([48]:List UInt8))=true) trivial)))))
   | true=>
    have hR:=Kj hw (by assumption)
    refine cT (todo':=hd Tryd.f54 0) (E':=[(0,.d (.v (.string ⟨w.toArray⟩))),(1,.u most),(6,.u 0),(21,.n w.length),(22,.n 0)]) (M':=[]) tk mo hK [(1,[(1,.b false),(4,.ix (0) [.v (.int .u8 (((e0.toNat:Nat):Int)))]),(5,.b true),(8,.b false)])] 2000 [] [0,1,6,21,22] r (by kernel_rfl) (U h0 (U (rfl:(0:Int)=((0:Nat):Int)) (U aY (U h1 (U ((by simpa [bne] using h6):(w != ([48]:List UInt8))=false) trivial))))) fun ac wd r=>?_
    refine aC.rounds (Φ:=fun (i:Nat) ac wd=>∃ n:Nat,(iq most (w.drop i) n=iq most w 0∧n≤most)∧dA [] w0 K 52 [(0,.d (.v (.string ⟨w.toArray⟩))),(1,.u most),(6,.u n),(21,.n w.length),(22,.n i)] [] ac wd) (w.length) ?_ (Nat.zero_le _) ⟨0,⟨rfl,Nat.zero_le _⟩,r⟩
    clear r
    rintro i e7 b6 ac wd ⟨n,aq,r⟩
    have CB:=aq.2
    cases h7:(decide ((((i:Nat):Int):Int)<((w.length:Nat):Int))) with
    | false=>
     have eA:=of_decide_eq_false h7
     rw [show (.tu [.u (aH w most).1,.v (.bool (aH w most).2)]:DV)=.tu [.u n,.v (.bool true)] from (by first | exact dz (kE (Or.inr ⟨(kF g0).trans (congrArg some (ly (by assumption))),k6 (by assumption)⟩)) | exact dz (fh hR (aq.1.symm.trans ((eU ea).trans (if_pos (by omega))))) | exact dz (fh hR (aq.1.symm.trans ((eU ea).trans ((if_neg (by omega)).trans (if_pos (by omega)))))) | exact lx (kB hR (aq.1.symm.trans (by rw [List.drop_of_length_le (by omega)];rfl))))]
     exact br tk mo hK rfl [(5,[(0,.b false)])] 2000 r (by kernel_rfl) (U h7 trivial)
    | true=>
     have eA:=of_decide_eq_true h7
     obtain ⟨bp,ea⟩:∃ x_,w[i]?=some x_:=⟨_,List.getElem?_eq_getElem (by omega)⟩
     have mB:=bp.toNat_lt
     have eh:=(⟨_,ea,rfl⟩:∃ u:UInt8,(w:List UInt8)[i]?=some u∧(.v (.int .u8 (((bp.toNat:Nat):Int))):DV)=.v (.int .u8 (u.toNat:Int)))
     cases h8:(decide ((((bp.toNat:Nat):Int):Int)<48)) with
     | false=>
      have gO:=of_decide_eq_false h8
      cases h9:(decide ((57:Int)<((bp.toNat:Nat):Int))) with
      | false=>
       have pd:=of_decide_eq_false h9
       have fz:=((by rw [w8 (by omega)];omega):IntKind.u8.wrap ((((bp.toNat:Nat):Int):Int)-48)=((bp.toNat-48:Nat):Int))
       have fO:=((wu (by omega)):IntKind.u64.wrap (((bp.toNat-48:Nat):Int))=((bp.toNat-48:Nat):Int))
       have jx:=((wu (by omega)):IntKind.u64.wrap ((((most:Nat):Int):Int)-((bp.toNat-48:Nat):Int))=((most-(bp.toNat-48):Nat):Int))
       have oW:=((AU (by omega)):IntKind.u64.wrap ((((most-(bp.toNat-48):Nat):Int):Int).tdiv 10)=(((most-(bp.toNat-48)) / 10:Nat):Int))
       cases di:(decide (((((most-(bp.toNat-48)) / 10:Nat):Int):Int)<((n:Nat):Int))) with
       | false=>
        have nr:=of_decide_eq_false di
        exact cT (todo':=hd Tryd.f54 0) tk mo hK [(5,[(0,.b true)]),(7,[(2,.ix (i) [.v (.int .u8 (((bp.toNat:Nat):Int)))]),(3,.b false),(7,.ix (i) [.v (.int .u8 (((bp.toNat:Nat):Int)))]),(8,.b false)]),(9,[(2,.ix (i) [.v (.int .u8 (((bp.toNat:Nat):Int)))]),(3,.z (((bp.toNat-48:Nat):Int))),(4,.z (((bp.toNat-48:Nat):Int)))]),(10,[(3,.z (((most-(bp.toNat-48):Nat):Int))),(4,.z ((((most-(bp.toNat-48)) / 10:Nat):Int))),(5,.b false)]),(12,[(1,.z (((10*n:Nat):Int))),(3,.z (((10*n+(bp.toNat-48):Nat):Int)))]),(13,[(0,.z (((i+1:Nat):Int)))])] 2000 [] [0,1,6,21,22] r (by kernel_rfl) (U h7 (U (aN ((i:Nat):Int)) (U eh (U h8 (U (aN ((i:Nat):Int)) (U eh (U h9 (U (aN ((i:Nat):Int)) (U eh (U fz (U fO (U jx (U oW (U ((by decide):(10:Int)≠0) (U di (U ((wu (by omega)):IntKind.u64.wrap ((10:Int)*((n:Nat):Int))=((10*n:Nat):Int)) (U ((wu (by omega)):IntKind.u64.wrap ((((10*n:Nat):Int):Int)+((bp.toNat-48:Nat):Int))=((10*n+(bp.toNat-48):Nat):Int)) (U ((wi (by omega)):IntKind.i64.wrap ((((i:Nat):Int):Int)+1)=((i+1:Nat):Int)) trivial)))))))))))))))))) fun ac wd r=>b6 (by omega) ac wd ⟨(10*n+(bp.toNat-48)),⟨by rw [← aq.1,eU ea,if_neg (by omega),if_neg (by omega)],by omega⟩,r⟩
       | true=>
        have nr:=of_decide_eq_true di
        rw [show (.tu [.u (aH w most).1,.v (.bool (aH w most).2)]:DV)=.tu [.v (.int .u64 0),.v (.bool false)] from (by first | exact dz (kE (Or.inr ⟨(kF g0).trans (congrArg some (ly (by assumption))),k6 (by assumption)⟩)) | exact dz (fh hR (aq.1.symm.trans ((eU ea).trans (if_pos (by omega))))) | exact dz (fh hR (aq.1.symm.trans ((eU ea).trans ((if_neg (by omega)).trans (if_pos (by omega)))))) | exact lx (kB hR (aq.1.symm.trans (by rw [List.drop_of_length_le (by omega)];rfl))))]
        exact br tk mo hK rfl [(5,[(0,.b true)]),(7,[(2,.ix (i) [.v (.int .u8 (((bp.toNat:Nat):Int)))]),(3,.b false),(7,.ix (i) [.v (.int .u8 (((bp.toNat:Nat):Int)))]),(8,.b false)]),(9,[(2,.ix (i) [.v (.int .u8 (((bp.toNat:Nat):Int)))]),(3,.z (((bp.toNat-48:Nat):Int))),(4,.z (((bp.toNat-48:Nat):Int)))]),(10,[(3,.z (((most-(bp.toNat-48):Nat):Int))),(4,.z ((((most-(bp.toNat-48)) / 10:Nat):Int))),(5,.b true)])] 2000 r (by kernel_rfl) (U h7 (U (aN ((i:Nat):Int)) (U eh (U h8 (U (aN ((i:Nat):Int)) (U eh (U h9 (U (aN ((i:Nat):Int)) (U eh (U fz (U fO (U jx (U oW (U ((by decide):(10:Int)≠0) (U di trivial)))))))))))))))
      | true=>
       have pd:=of_decide_eq_true h9
       rw [show (.tu [.u (aH w most).1,.v (.bool (aH w most).2)]:DV)=.tu [.v (.int .u64 0),.v (.bool false)] from (by first | exact dz (kE (Or.inr ⟨(kF g0).trans (congrArg some (ly (by assumption))),k6 (by assumption)⟩)) | exact dz (fh hR (aq.1.symm.trans ((eU ea).trans (if_pos (by omega))))) | exact dz (fh hR (aq.1.symm.trans ((eU ea).trans ((if_neg (by omega)).trans (if_pos (by omega)))))) | exact lx (kB hR (aq.1.symm.trans (by rw [List.drop_of_length_le (by omega)];rfl))))]
       exact br tk mo hK rfl [(5,[(0,.b true)]),(7,[(2,.ix (i) [.v (.int .u8 (((bp.toNat:Nat):Int)))]),(3,.b false),(7,.ix (i) [.v (.int .u8 (((bp.toNat:Nat):Int)))]),(8,.b true)])] 2000 r (by kernel_rfl) (U h7 (U (aN ((i:Nat):Int)) (U eh (U h8 (U (aN ((i:Nat):Int)) (U eh (U h9 trivial)))))))
     | true=>
      have gO:=of_decide_eq_true h8
      rw [show (.tu [.u (aH w most).1,.v (.bool (aH w most).2)]:DV)=.tu [.v (.int .u64 0),.v (.bool false)] from (by first | exact dz (kE (Or.inr ⟨(kF g0).trans (congrArg some (ly (by assumption))),k6 (by assumption)⟩)) | exact dz (fh hR (aq.1.symm.trans ((eU ea).trans (if_pos (by omega))))) | exact dz (fh hR (aq.1.symm.trans ((eU ea).trans ((if_neg (by omega)).trans (if_pos (by omega)))))) | exact lx (kB hR (aq.1.symm.trans (by rw [List.drop_of_length_le (by omega)];rfl))))]
      exact br tk mo hK rfl [(5,[(0,.b true)]),(7,[(2,.ix (i) [.v (.int .u8 (((bp.toNat:Nat):Int)))]),(3,.b true)])] 2000 r (by kernel_rfl) (U h7 (U (aN ((i:Nat):Int)) (U eh (U h8 trivial))))
 | true=>
  exact absurd (eq_of_beq h0) hw
set_option maxRecDepth 100000 in
theorem Jb (most:Nat):ay Tryd.prog 54 [.d (.v (.string ⟨([]).toArray⟩)),.u most] (.tu [.v (.int .u64 0),.v (.bool false)]):=by
 refine ay.intro (by kernel_rfl) rfl rfl 52 rfl rfl fun w0 K ac hK r=>?_
 rw [show (.tu [.v (.int .u64 0),.v (.bool false)]:DV)=.tu [.v (.int .u64 0),.v (.bool false)] from rfl]
 exact br tk mo hK rfl [(1,[(1,.b true)])] 2000 r (by kernel_rfl) (U ((by first | decide | simp):(([]:List UInt8)==[])=true) trivial)
theorem rI (w:List UInt8) (most:Nat) (hl:w.length≤9223372036854775807) (h9:9≤most) (hm:most<18446744073709551616):ay Tryd.prog 54 [.d (.v (.string ⟨w.toArray⟩)),.u most] (.tu [.u (aH w most).1,.v (.bool (aH w most).2)]):=by
 cases w with
 | nil=>exact Jb most
 | cons b r=>exact HY (b::r) most b rfl (by simp) hl h9 hm
end Go.Proofs.YtcnpikbbmbombaaDoor
namespace Go.Proofs.YtcnpikbbmbombaaDoor
open Go.RowKit
def hx (b:UInt8):Int:=Go.Lib.indexByte [48,49,50,51,52,53,54,55,56,57,97,98,99,100,101,102] b
def bA (b:UInt8):Nat:=(hx b).toNat
theorem Kl (b:UInt8):hx b<16:=by
 have key:∀ n,n<256→hx (UInt8.ofNat n)<16:=by decide +kernel
 have:=key b.toNat b.toNat_lt
 rwa [UInt8.ofNat_toNat] at this
theorem mY {b:UInt8} (h:decide (hx b<0)=false):hx b=((bA b:Nat):Int)∧bA b<16:=by
 have h:=of_decide_eq_false h
 have:=Kl b
 unfold bA;omega
theorem Km {b:UInt8} (h:decide (hx b<0)=true):hx b = -1:=by
 have h:=of_decide_eq_true h
 have:=Go.Lib.indexByte_ge [48,49,50,51,52,53,54,55,56,57,97,98,99,100,101,102] b
 unfold hx at *;omega
theorem oL {b:UInt8} (h:decide (hx b<0)=false):ay Tryd.prog 68 [.d (.v (.string ⟨([48,49,50,51,52,53,54,55,56,57,97,98,99,100,101,102]:List UInt8).toArray⟩)),.d (.v (.int .u8 ((b.toNat:Nat):Int)))] (.n (bA b)):=by
 have q:=yr [48,49,50,51,52,53,54,55,56,57,97,98,99,100,101,102] b
 rw [show Go.Lib.indexByte [48,49,50,51,52,53,54,55,56,57,97,98,99,100,101,102] b=((bA b:Nat):Int) from (mY h).1] at q;exact q
theorem sS {b:UInt8} (h:decide (hx b<0)=true):ay Tryd.prog 68 [.d (.v (.string ⟨([48,49,50,51,52,53,54,55,56,57,97,98,99,100,101,102]:List UInt8).toArray⟩)),.d (.v (.int .u8 ((b.toNat:Nat):Int)))] (.z (-1)):=by
 have q:=yr [48,49,50,51,52,53,54,55,56,57,97,98,99,100,101,102] b
 rw [show Go.Lib.indexByte [48,49,50,51,52,53,54,55,56,57,97,98,99,100,101,102] b = -1 from Km h] at q;exact q
theorem B6 {h:Nat} (hh:h<16):IntKind.i64.wrap (((h:Nat):Int)*2 ^ (min (4:Int).toNat IntKind.i64.bits))=((16*h:Nat):Int):=by
 show IntKind.i64.wrap (((h:Nat):Int)*16)=_
 simp [IntKind.wrap,IntKind.signed,IntKind.bits];omega
theorem BI {h l:Nat} (hh:h<16) (hl:l<16):IntKind.i64.wrap ((BitVec.ofInt IntKind.i64.bits ((16*h:Nat):Int) ||| BitVec.ofInt IntKind.i64.bits ((l:Nat):Int)).toNat:Int)=((16*h+l:Nat):Int):=by
 have h1:(BitVec.ofInt 64 ((16*h:Nat):Int) ||| BitVec.ofInt 64 ((l:Nat):Int)).toNat=16*h+l:=by
  rw [BitVec.toNat_or,BitVec.ofInt_natCast,BitVec.ofInt_natCast,BitVec.toNat_ofNat,BitVec.toNat_ofNat,Nat.mod_eq_of_lt (by omega),Nat.mod_eq_of_lt (by omega)]
  have:=Nat.two_pow_add_eq_or_of_lt (i:=4) (b:=l) (by omega) h
  rw [show 16*h=2 ^ 4*h from by omega];omega
 show IntKind.i64.wrap ((BitVec.ofInt 64 ((16*h:Nat):Int) ||| BitVec.ofInt 64 ((l:Nat):Int)).toNat:Int)=_
 rw [h1];simp [IntKind.wrap,IntKind.signed,IntKind.bits];omega
def fZ:List UInt8→Option (List UInt8)
 | a::b::r=>if hx a<0∨hx b<0 then none else (fZ r).map fun q=>bz ((16*bA a+bA b:Nat):Int)::q
 | _=>some []
def eZ (w:List UInt8):List UInt8×Bool:=if w=[45] then ([],true) else if w=[]∨w.length%2≠0∨510<w.length then ([],false) else (match fZ w with | some q=>(q,true) | none=>([],false))
theorem rV {w:List UInt8} {i:Nat} {a b:UInt8} (h1:w[2*i]?=some a) (h2:w[2*i+1]?=some b):fZ (w.drop (2*i))=if hx a<0∨hx b<0 then none else (fZ (w.drop (2*(i+1)))).map fun q=>bz ((16*bA a+bA b:Nat):Int)::q:=by
 obtain ⟨Ld,rfl⟩:=List.getElem?_eq_some_iff.1 h1
 obtain ⟨Lf,rfl⟩:=List.getElem?_eq_some_iff.1 h2
 rw [List.drop_eq_getElem_cons Ld,List.drop_eq_getElem_cons Lf,fZ];rfl
theorem Gv {w:List UInt8} (h1:w≠[45]) (h:w=[]∨w.length%2≠0∨510<w.length):eZ w=([],false):=by unfold eZ;rw [if_neg h1,if_pos h]
theorem ET {w:List UInt8} (h1:w≠[45]) (h:¬ (w=[]∨w.length%2≠0∨510<w.length)) (e:fZ w=none):eZ w=([],false):=by unfold eZ;rw [if_neg h1,if_neg h,e]
theorem EU {w q:List UInt8} (h1:w≠[45]) (h:¬ (w=[]∨w.length%2≠0∨510<w.length)) (e:fZ w=some q):eZ w=(q,true):=by unfold eZ;rw [if_neg h1,if_neg h,e]
theorem wI (n:Nat):((n:Nat):Int).tmod 2=((n%2:Nat):Int):=(Int.ofNat_tmod n 2).symm
set_option maxRecDepth 100000 in
theorem HZ (w:List UInt8) (h1:w≠[45]) (hN:¬ (w=[]∨w.length%2≠0∨510<w.length)) (q:List UInt8) (hq:fZ w=some q):ay Tryd.prog 57 [.d (.v (.string ⟨w.toArray⟩))] (DV.tu [.em 5 1 (af q),.v (.bool true)]):=by
 refine ay.intro (by kernel_rfl) rfl rfl 53 rfl rfl fun w0 K ac hK r=>?_
 cases h0:(w==([45]:List UInt8)) with
 | false=>
  cases h1:(w==([]:List UInt8)) with
  | false=>
   have aY:=((wI _):(((w.length:Nat):Int):Int).tmod 2=((w.length%2:Nat):Int))
   cases h2:((((w.length%2:Nat):Int):Int) != 0) with
   | false=>
    have dG:=fg h2
    cases h3:(decide ((510:Int)<((w.length:Nat):Int))) with
    | false=>
     have dX:=of_decide_eq_false h3
     refine cT (todo':=hd Tryd.f57 0) (E':=[(0,.d (.v (.string ⟨w.toArray⟩))),(4,.d (.v (.slice none 0 0))),(5,.z 0)]) (M':=[]) tk mo hK [(1,[(1,.b false)]),(3,[(1,.b false),(5,.z (((w.length%2:Nat):Int))),(6,.b false),(11,.b false)])] 2000 [] [0,4,5] r (by kernel_rfl) (U h0 (U h1 (U aY (U ((by decide):(2:Int)≠0) (U h2 (U h3 trivial)))))) fun ac wd r=>?_
     refine aC.rounds (Φ:=fun (i:Nat) ac wd=>∃ o:List UInt8,(o.length=i∧2*i≤w.length∧fZ w=(fZ (w.drop (2*i))).map fun q=>o++q)∧dA [] w0 K 53 [(0,.d (.v (.string ⟨w.toArray⟩))),(4,.sl 0 (i)),(5,.n (2*i))] [.rw 5 1 (af o)] ac wd) (255) ?_ (Nat.zero_le _) ⟨[],⟨rfl,Nat.zero_le _,by simp⟩,r.fB (M1:=[.rw 5 1 []]) [(4,5,1)] [] (by kernel_rfl) (by kernel_rfl)⟩
     clear r
     rintro i e7 b6 ac wd ⟨o,aq,r⟩
     have ml:=aq.1
     have MG:=aq.2.1
     cases h4:(decide ((((2*i:Nat):Int):Int)<((w.length:Nat):Int))) with
     | false=>
      have fx:=of_decide_eq_false h4
      rw [show (DV.tu [.em 5 1 (af q),.v (.bool true)]:DV)=.tu [.em 5 1 (af o),.v (.bool true)] from (by have e:=hq.symm.trans aq.2.2;rw [List.drop_of_length_le (by omega)] at e;simp [fZ] at e;rw [e])]
      exact br tk mo hK rfl [(7,[(3,.b false)])] 2000 r (by kernel_rfl) (U h4 (U ((by first | rfl | (simp [af];done) | (simp [af];omega)):(i)=(af o).length) trivial))
     | true=>
      have fx:=of_decide_eq_true h4
      obtain ⟨cx,nR⟩:∃ x_,w[2*i]?=some x_:=⟨_,List.getElem?_eq_getElem (by omega)⟩
      obtain ⟨cN,nS⟩:∃ x_,w[2*i+1]?=some x_:=⟨_,List.getElem?_eq_getElem (by omega)⟩
      have bH:=(⟨_,nR,rfl⟩:∃ u:UInt8,(w:List UInt8)[2*i]?=some u∧(.v (.int .u8 (((cx.toNat:Nat):Int))):DV)=.v (.int .u8 (u.toNat:Int)))
      have cB:=((wi (by omega)):IntKind.i64.wrap ((((2*i:Nat):Int):Int)+1)=((2*i+1:Nat):Int))
      have dH:=(⟨_,nS,rfl⟩:∃ u:UInt8,(w:List UInt8)[2*i+1]?=some u∧(.v (.int .u8 (((cN.toNat:Nat):Int))):DV)=.v (.int .u8 (u.toNat:Int)))
      cases h5:(decide (hx cx<0)) with
      | false=>
       have fy:=of_decide_eq_false h5
       cases h6:(decide (hx cN<0)) with
       | false=>
        have jc:=of_decide_eq_false h6
        cases h7:(decide ((((bA cx:Nat):Int):Int)<0)) with
        | false=>
         have eA:=of_decide_eq_false h7
         cases h8:(decide ((((bA cN:Nat):Int):Int)<0)) with
         | false=>
          have gO:=of_decide_eq_false h8
          exact cT (todo':=hd Tryd.f57 0) (E':=[(0,.d (.v (.string ⟨w.toArray⟩))),(4,.sl 0 (i+(1))),(5,.n (2*(i+1)))]) (M':=[.rw 5 1 (af o++[[.v (.int .u8 ((((bz (((16*bA cx+bA cN:Nat):Int))).toNat:Nat):Int)))]])]) tk mo hK [(7,[(3,.b true)]),(8,[(1,.z (((2*(i+1):Nat):Int)))]),(9,[(2,.ix (2*i) [.v (.int .u8 (((cx.toNat:Nat):Int)))]),(6,.z (((2*i+1:Nat):Int))),(7,.ix (2*i+1) [.v (.int .u8 (((cN.toNat:Nat):Int)))]),(3,.aP (.n (bA cx))),(8,.aP (.n (bA cN)))]),(10,[(1,.b false),(4,.b false)]),(12,[(2,.z (((16*bA cx:Nat):Int))),(4,.z (((16*bA cx+bA cN:Nat):Int))),(5,.z ((((bz (((16*bA cx+bA cN:Nat):Int))).toNat:Nat):Int)))])] 2000 [0] [0,4,5] r (by kernel_rfl) (U h4 (U (aN ((2*i:Nat):Int)) (U bH (U cB (U (aN ((2*i+1:Nat):Int)) (U dH (U (oL h5) (U (oL h6) (U h7 (U h8 (U ((B6 (mY (by assumption)).2):IntKind.i64.wrap ((((bA cx:Nat):Int):Int)*2 ^ (min (4:Int).toNat IntKind.i64.bits))=((16*bA cx:Nat):Int)) (U ((by first | decide | omega):(0:Int)≤4) (U ((BI (mY (by assumption)).2 (mY (by assumption)).2):IntKind.i64.wrap ((BitVec.ofInt IntKind.i64.bits (((16*bA cx:Nat):Int)) ||| BitVec.ofInt IntKind.i64.bits (((bA cN:Nat):Int))).toNat:Int)=((16*bA cx+bA cN:Nat):Int)) (U ((gj _):IntKind.u8.wrap (((16*bA cx+bA cN:Nat):Int))=(((bz (((16*bA cx+bA cN:Nat):Int))).toNat:Nat):Int)) (U ((by first | rfl | (simp [af];done) | (simp [af];omega)):(i)=(af o).length) (U ((by first | rfl | (simp [af];done) | (simp [af];omega)):(1)=([[.v (.int .u8 ((((bz (((16*bA cx+bA cN:Nat):Int))).toNat:Nat):Int)))]]:List (List DV)).length) (U ((by first | omega | (simp [af];omega)):(2*((i)+(1))+192)*1≤281474976710656) (U ((by first | omega | (simp [af];omega)):(i)+(1)<4611686018427387904) (U ((by simp [bf,AV.one,bS,af,ah,ints,steps,strs]):bf ([[.v (.int .u8 ((((bz (((16*bA cx+bA cN:Nat):Int))).toNat:Nat):Int)))]])) (U ((wi (by omega)):IntKind.i64.wrap ((((2*i:Nat):Int):Int)+2)=((2*(i+1):Nat):Int)) trivial)))))))))))))))))))) fun ac wd r=>b6 (by omega) ac wd ⟨(o++[bz ((16*bA cx+bA cN:Nat):Int)]),⟨by simp;omega,by omega,by rw [aq.2.2,rV nR nS,if_neg (by rintro (h | h);exact absurd h (of_decide_eq_false (by assumption));exact absurd h (of_decide_eq_false (by assumption)))];simp [Option.map_map,Function.comp_def]⟩,r.cast rfl (by simp [af])⟩
         | true=>
          have gO:=of_decide_eq_true h8
          exact absurd gO (by omega)
        | true=>
         have eA:=of_decide_eq_true h7
         exact absurd eA (by omega)
       | true=>
        have jc:=of_decide_eq_true h6
        exact absurd (hq.symm.trans (aq.2.2.trans (by rw [rV nR nS,if_pos (by first | exact .inl (of_decide_eq_true (by assumption)) | exact .inr (of_decide_eq_true (by assumption)))]))) (by simp)
      | true=>
       have fy:=of_decide_eq_true h5
       exact absurd (hq.symm.trans (aq.2.2.trans (by rw [rV nR nS,if_pos (by first | exact .inl (of_decide_eq_true (by assumption)) | exact .inr (of_decide_eq_true (by assumption)))]))) (by simp)
    | true=>
     have dX:=of_decide_eq_true h3
     exact absurd (.inr (.inr (by omega))) hN
   | true=>
    have dG:¬ _=_:=bne_iff_ne.1 h2
    exact absurd (.inr (.inl (by omega))) hN
  | true=>
   exact absurd (.inl (eq_of_beq h1)) hN
 | true=>
  exact absurd (eq_of_beq h0) h1
set_option maxRecDepth 100000 in
theorem H3 (w:List UInt8) (h1:w≠[45]) (hN:¬ (w=[]∨w.length%2≠0∨510<w.length)) (hq:fZ w=none):ay Tryd.prog 57 [.d (.v (.string ⟨w.toArray⟩))] (.tu [.v (.slice none 0 0),.v (.bool false)]):=by
 refine ay.intro (by kernel_rfl) rfl rfl 53 rfl rfl fun w0 K ac hK r=>?_
 cases h0:(w==([45]:List UInt8)) with
 | false=>
  cases h1:(w==([]:List UInt8)) with
  | false=>
   have aY:=((wI _):(((w.length:Nat):Int):Int).tmod 2=((w.length%2:Nat):Int))
   cases h2:((((w.length%2:Nat):Int):Int) != 0) with
   | false=>
    have dG:=fg h2
    cases h3:(decide ((510:Int)<((w.length:Nat):Int))) with
    | false=>
     have dX:=of_decide_eq_false h3
     refine cT (todo':=hd Tryd.f57 0) (E':=[(0,.d (.v (.string ⟨w.toArray⟩))),(4,.d (.v (.slice none 0 0))),(5,.z 0)]) (M':=[]) tk mo hK [(1,[(1,.b false)]),(3,[(1,.b false),(5,.z (((w.length%2:Nat):Int))),(6,.b false),(11,.b false)])] 2000 [] [0,4,5] r (by kernel_rfl) (U h0 (U h1 (U aY (U ((by decide):(2:Int)≠0) (U h2 (U h3 trivial)))))) fun ac wd r=>?_
     refine aC.rounds (Φ:=fun (i:Nat) ac wd=>∃ o:List UInt8,(o.length=i∧2*i≤w.length∧fZ w=(fZ (w.drop (2*i))).map fun q=>o++q)∧dA [] w0 K 53 [(0,.d (.v (.string ⟨w.toArray⟩))),(4,.sl 0 (i)),(5,.n (2*i))] [.rw 5 1 (af o)] ac wd) (255) ?_ (Nat.zero_le _) ⟨[],⟨rfl,Nat.zero_le _,by simp⟩,r.fB (M1:=[.rw 5 1 []]) [(4,5,1)] [] (by kernel_rfl) (by kernel_rfl)⟩
     clear r
     rintro i e7 b6 ac wd ⟨o,aq,r⟩
     have ml:=aq.1
     have MG:=aq.2.1
     cases h4:(decide ((((2*i:Nat):Int):Int)<((w.length:Nat):Int))) with
     | false=>
      have fx:=of_decide_eq_false h4
      rw [show (.tu [.v (.slice none 0 0),.v (.bool false)]:DV)=.tu [.em 5 1 (af o),.v (.bool true)] from (by have e:=hq.symm.trans aq.2.2;rw [List.drop_of_length_le (by omega)] at e;simp [fZ] at e)]
      exact br tk mo hK rfl [(7,[(3,.b false)])] 2000 r (by kernel_rfl) (U h4 (U ((by first | rfl | (simp [af];done) | (simp [af];omega)):(i)=(af o).length) trivial))
     | true=>
      have fx:=of_decide_eq_true h4
      obtain ⟨cx,nR⟩:∃ x_,w[2*i]?=some x_:=⟨_,List.getElem?_eq_getElem (by omega)⟩
      obtain ⟨cN,nS⟩:∃ x_,w[2*i+1]?=some x_:=⟨_,List.getElem?_eq_getElem (by omega)⟩
      have bH:=(⟨_,nR,rfl⟩:∃ u:UInt8,(w:List UInt8)[2*i]?=some u∧(.v (.int .u8 (((cx.toNat:Nat):Int))):DV)=.v (.int .u8 (u.toNat:Int)))
      have cB:=((wi (by omega)):IntKind.i64.wrap ((((2*i:Nat):Int):Int)+1)=((2*i+1:Nat):Int))
      have dH:=(⟨_,nS,rfl⟩:∃ u:UInt8,(w:List UInt8)[2*i+1]?=some u∧(.v (.int .u8 (((cN.toNat:Nat):Int))):DV)=.v (.int .u8 (u.toNat:Int)))
      cases h5:(decide (hx cx<0)) with
      | false=>
       have fy:=of_decide_eq_false h5
       cases h6:(decide (hx cN<0)) with
       | false=>
        have jc:=of_decide_eq_false h6
        cases h7:(decide ((((bA cx:Nat):Int):Int)<0)) with
        | false=>
         have eA:=of_decide_eq_false h7
         cases h8:(decide ((((bA cN:Nat):Int):Int)<0)) with
         | false=>
          have gO:=of_decide_eq_false h8
          exact cT (todo':=hd Tryd.f57 0) (E':=[(0,.d (.v (.string ⟨w.toArray⟩))),(4,.sl 0 (i+(1))),(5,.n (2*(i+1)))]) (M':=[.rw 5 1 (af o++[[.v (.int .u8 ((((bz (((16*bA cx+bA cN:Nat):Int))).toNat:Nat):Int)))]])]) tk mo hK [(7,[(3,.b true)]),(8,[(1,.z (((2*(i+1):Nat):Int)))]),(9,[(2,.ix (2*i) [.v (.int .u8 (((cx.toNat:Nat):Int)))]),(6,.z (((2*i+1:Nat):Int))),(7,.ix (2*i+1) [.v (.int .u8 (((cN.toNat:Nat):Int)))]),(3,.aP (.n (bA cx))),(8,.aP (.n (bA cN)))]),(10,[(1,.b false),(4,.b false)]),(12,[(2,.z (((16*bA cx:Nat):Int))),(4,.z (((16*bA cx+bA cN:Nat):Int))),(5,.z ((((bz (((16*bA cx+bA cN:Nat):Int))).toNat:Nat):Int)))])] 2000 [0] [0,4,5] r (by kernel_rfl) (U h4 (U (aN ((2*i:Nat):Int)) (U bH (U cB (U (aN ((2*i+1:Nat):Int)) (U dH (U (oL h5) (U (oL h6) (U h7 (U h8 (U ((B6 (mY (by assumption)).2):IntKind.i64.wrap ((((bA cx:Nat):Int):Int)*2 ^ (min (4:Int).toNat IntKind.i64.bits))=((16*bA cx:Nat):Int)) (U ((by first | decide | omega):(0:Int)≤4) (U ((BI (mY (by assumption)).2 (mY (by assumption)).2):IntKind.i64.wrap ((BitVec.ofInt IntKind.i64.bits (((16*bA cx:Nat):Int)) ||| BitVec.ofInt IntKind.i64.bits (((bA cN:Nat):Int))).toNat:Int)=((16*bA cx+bA cN:Nat):Int)) (U ((gj _):IntKind.u8.wrap (((16*bA cx+bA cN:Nat):Int))=(((bz (((16*bA cx+bA cN:Nat):Int))).toNat:Nat):Int)) (U ((by first | rfl | (simp [af];done) | (simp [af];omega)):(i)=(af o).length) (U ((by first | rfl | (simp [af];done) | (simp [af];omega)):(1)=([[.v (.int .u8 ((((bz (((16*bA cx+bA cN:Nat):Int))).toNat:Nat):Int)))]]:List (List DV)).length) (U ((by first | omega | (simp [af];omega)):(2*((i)+(1))+192)*1≤281474976710656) (U ((by first | omega | (simp [af];omega)):(i)+(1)<4611686018427387904) (U ((by simp [bf,AV.one,bS,af,ah,ints,steps,strs]):bf ([[.v (.int .u8 ((((bz (((16*bA cx+bA cN:Nat):Int))).toNat:Nat):Int)))]])) (U ((wi (by omega)):IntKind.i64.wrap ((((2*i:Nat):Int):Int)+2)=((2*(i+1):Nat):Int)) trivial)))))))))))))))))))) fun ac wd r=>b6 (by omega) ac wd ⟨(o++[bz ((16*bA cx+bA cN:Nat):Int)]),⟨by simp;omega,by omega,by rw [aq.2.2,rV nR nS,if_neg (by rintro (h | h);exact absurd h (of_decide_eq_false (by assumption));exact absurd h (of_decide_eq_false (by assumption)))];simp [Option.map_map,Function.comp_def]⟩,r.cast rfl (by simp [af])⟩
         | true=>
          have gO:=of_decide_eq_true h8
          exact absurd gO (by omega)
        | true=>
         have eA:=of_decide_eq_true h7
         exact absurd eA (by omega)
       | true=>
        have jc:=of_decide_eq_true h6
        cases h9:(decide ((((bA cx:Nat):Int):Int)<0)) with
        | false=>
         have pd:=of_decide_eq_false h9
         rw [show (.tu [.v (.slice none 0 0),.v (.bool false)]:DV)=.tu [.v (.slice none 0 0),.v (.bool false)] from rfl]
         exact br tk mo hK rfl [(7,[(3,.b true)]),(9,[(2,.ix (2*i) [.v (.int .u8 (((cx.toNat:Nat):Int)))]),(6,.z (((2*i+1:Nat):Int))),(7,.ix (2*i+1) [.v (.int .u8 (((cN.toNat:Nat):Int)))]),(3,.aP (.n (bA cx))),(8,.aP (.z (-1)))]),(10,[(1,.b false)])] 2000 r (by kernel_rfl) (U h4 (U (aN ((2*i:Nat):Int)) (U bH (U cB (U (aN ((2*i+1:Nat):Int)) (U dH (U (oL h5) (U (sS h6) (U h9 trivial)))))))))
        | true=>
         have pd:=of_decide_eq_true h9
         exact absurd pd (by omega)
      | true=>
       have fy:=of_decide_eq_true h5
       cases di:(decide (hx cN<0)) with
       | false=>
        have nr:=of_decide_eq_false di
        rw [show (.tu [.v (.slice none 0 0),.v (.bool false)]:DV)=.tu [.v (.slice none 0 0),.v (.bool false)] from rfl]
        exact br tk mo hK rfl [(7,[(3,.b true)]),(9,[(2,.ix (2*i) [.v (.int .u8 (((cx.toNat:Nat):Int)))]),(6,.z (((2*i+1:Nat):Int))),(7,.ix (2*i+1) [.v (.int .u8 (((cN.toNat:Nat):Int)))]),(3,.aP (.z (-1))),(8,.aP (.n (bA cN)))])] 2000 r (by kernel_rfl) (U h4 (U (aN ((2*i:Nat):Int)) (U bH (U cB (U (aN ((2*i+1:Nat):Int)) (U dH (U (sS h5) (U (oL di) trivial))))))))
       | true=>
        have nr:=of_decide_eq_true di
        rw [show (.tu [.v (.slice none 0 0),.v (.bool false)]:DV)=.tu [.v (.slice none 0 0),.v (.bool false)] from rfl]
        exact br tk mo hK rfl [(7,[(3,.b true)]),(9,[(2,.ix (2*i) [.v (.int .u8 (((cx.toNat:Nat):Int)))]),(6,.z (((2*i+1:Nat):Int))),(7,.ix (2*i+1) [.v (.int .u8 (((cN.toNat:Nat):Int)))]),(3,.aP (.z (-1))),(8,.aP (.z (-1)))])] 2000 r (by kernel_rfl) (U h4 (U (aN ((2*i:Nat):Int)) (U bH (U cB (U (aN ((2*i+1:Nat):Int)) (U dH (U (sS h5) (U (sS di) trivial))))))))
    | true=>
     have dX:=of_decide_eq_true h3
     exact absurd (.inr (.inr (by omega))) hN
   | true=>
    have dG:¬ _=_:=bne_iff_ne.1 h2
    exact absurd (.inr (.inl (by omega))) hN
  | true=>
   exact absurd (.inl (eq_of_beq h1)) hN
 | true=>
  exact absurd (eq_of_beq h0) h1
set_option maxRecDepth 100000 in
theorem H4 :ay Tryd.prog 57 [.d (.v (.string ⟨([45]).toArray⟩))] (.tu [.v (.slice none 0 0),.v (.bool true)]):=by
 refine ay.intro (by kernel_rfl) rfl rfl 53 rfl rfl fun w0 K ac hK r=>?_
 rw [show (.tu [.v (.slice none 0 0),.v (.bool true)]:DV)=.tu [.v (.slice none 0 0),.v (.bool true)] from rfl]
 exact br tk mo hK rfl [(1,[(1,.b true)])] 2000 r (by kernel_rfl) (U ((by first | decide | simp):(([45]:List UInt8)==[45])=true) trivial)
set_option maxRecDepth 100000 in
theorem Jc (w:List UInt8) (h1:w≠[45]) (hO:w=[]∨w.length%2≠0∨510<w.length):ay Tryd.prog 57 [.d (.v (.string ⟨w.toArray⟩))] (.tu [.v (.slice none 0 0),.v (.bool false)]):=by
 refine ay.intro (by kernel_rfl) rfl rfl 53 rfl rfl fun w0 K ac hK r=>?_
 cases h0:(w==([45]:List UInt8)) with
 | false=>
  cases h1:(w==([]:List UInt8)) with
  | false=>
   have aY:=((wI _):(((w.length:Nat):Int):Int).tmod 2=((w.length%2:Nat):Int))
   cases h2:((((w.length%2:Nat):Int):Int) != 0) with
   | false=>
    have dG:=fg h2
    cases h3:(decide ((510:Int)<((w.length:Nat):Int))) with
    | false=>
     have dX:=of_decide_eq_false h3
     exact absurd hO (by rintro (h | h | h);exact absurd h (by have q:=‹(w==([]:List UInt8))=false›;intro e;subst e;simp at q);omega;omega)
    | true=>
     have dX:=of_decide_eq_true h3
     rw [show (.tu [.v (.slice none 0 0),.v (.bool false)]:DV)=.tu [.v (.slice none 0 0),.v (.bool false)] from rfl]
     exact br tk mo hK rfl [(1,[(1,.b false)]),(3,[(1,.b false),(5,.z (((w.length%2:Nat):Int))),(6,.b false),(11,.b true)])] 2000 r (by kernel_rfl) (U h0 (U h1 (U aY (U ((by decide):(2:Int)≠0) (U h2 (U h3 trivial))))))
   | true=>
    have dG:¬ _=_:=bne_iff_ne.1 h2
    rw [show (.tu [.v (.slice none 0 0),.v (.bool false)]:DV)=.tu [.v (.slice none 0 0),.v (.bool false)] from rfl]
    exact br tk mo hK rfl [(1,[(1,.b false)]),(3,[(1,.b false),(5,.z (((w.length%2:Nat):Int))),(6,.b true)])] 2000 r (by kernel_rfl) (U h0 (U h1 (U aY (U ((by decide):(2:Int)≠0) (U h2 trivial)))))
  | true=>
   rw [show (.tu [.v (.slice none 0 0),.v (.bool false)]:DV)=.tu [.v (.slice none 0 0),.v (.bool false)] from rfl]
   exact br tk mo hK rfl [(1,[(1,.b false)]),(3,[(1,.b true)])] 2000 r (by kernel_rfl) (U h0 (U h1 trivial))
 | true=>
  exact absurd (eq_of_beq h0) h1
theorem yt (w:List UInt8):ay Tryd.prog 57 [.d (.v (.string ⟨w.toArray⟩))] (.tu [.em 5 1 (af (eZ w).1),.v (.bool (eZ w).2)]):=by
 have nl:∀ {b:Bool},ay Tryd.prog 57 [.d (.v (.string ⟨w.toArray⟩))] (.tu [.v (.slice none 0 0),.v (.bool b)])→ay Tryd.prog 57 [.d (.v (.string ⟨w.toArray⟩))] (.tu [.em 5 1 (af []),.v (.bool b)]):=fun h=>h.le (cS.tu (.cons (Le.Ba 5 1) (.cons (Le.refl _) .nil)))
 by_cases h1:w=[45]
 ·subst h1;exact nl H4
 ·by_cases hO:w=[]∨w.length%2≠0∨510<w.length
  ·rw [Gv h1 hO];exact nl (Jc w h1 hO)
  ·cases hq:fZ w with
   | none=>rw [ET h1 hO hq];exact nl (H3 w h1 hO hq)
   | some q=>rw [EU h1 hO hq];exact HZ w h1 hO q hq
end Go.Proofs.YtcnpikbbmbombaaDoor
namespace Go.Proofs.YtcnpikbbmbombaaDoor
open Go.RowKit
theorem uQ (w:List UInt8) {most:Nat} (h9:9≤most):(aH w most).1≤most:=by
 unfold aH
 split
 ·exact Nat.zero_le _
 ·cases e:iq most w 0 with
  | none=>exact Nat.zero_le _
  | some n=>exact Ai (Nat.zero_le _) h9 e
abbrev Ws:=List (List UInt8)×Bool
def pn (s:Ws):List ai:=[.bx 93 [.d (.ro 1 (strs s.1))],.bx 4 [.d (.v (.bool s.2))]]
def po (s:Ws):List ai:=[.bx 93 [.d (.ro 1 (strs s.1))],.bx 4 [.d (.v (.bool s.2))],.bx 64 [.fn 55 [.pt 0 0,.pt 1 0]]]
def bL (s:Ws):List UInt8:=s.1.headD []
def bd (s:Ws):Ws:=(s.1.tail,s.2&&!s.1.isEmpty)
def pN (b:Bool) (most:Nat) (s:Ws):Nat:=cond b (aH (bL s) most).1 0
def pS (b:Bool) (most:Nat) (s:Ws):Ws:=cond b ((bd s).1,(bd s).2&&(aH (bL s) most).2) s
theorem sv (b:Bool) (s:Ws) {most:Nat} (h9:9≤most):pN b most s≤most:=by cases b;exact Nat.zero_le _;exact uQ _ h9
def fC (s:Ws):Prop:=∀ w ∈ s.1,w.length≤1048576
theorem fC.w {s:Ws} (h:fC s):(bL s).length≤1048576:=by
 obtain ⟨l,b⟩:=s
 cases l with
 | nil=>exact Nat.zero_le _
 | cons x r=>exact h x (by simp)
theorem fC.s {s:Ws} (h:fC s):fC (bd s):=fun w hw=>h w (List.mem_of_mem_tail hw)
theorem fC.p {s:Ws} (h:fC s) (b:Bool) (m:Nat):fC (pS b m s):=by cases b;exact h;exact h.s
set_option maxRecDepth 100000 in
theorem Gw (g:Bool):ax Tryd.prog 55 [.pt 0 0,.pt 1 0] [.bx 93 [.d (.ro 1 (strs (([]:List (List UInt8)),g).1))],.bx 4 [.d (.v (.bool ((([]:List (List UInt8)),g).2)))]] (.d (.v (.string ⟨(bL (([]:List (List UInt8)),g)).toArray⟩))) (pn (bd (([]:List (List UInt8)),g))):=by
 refine ax.intro (by kernel_rfl) rfl rfl 13 rfl rfl fun D w0 K bs ac wd hK (al:bs.m=2) r=>?_
 refine a7 (y:=.d (.v (.string .empty))) (N':=[.bx 93 [.d (.ro 1 (strs (([]:List (List UInt8)),g).1))],.bx 4 [.d (.v (.bool false))]]) (rfl) ((by simp [bd,pn,strs])) ?_
 exact aZ tk mo hK rfl al [(1,[(1,.z (0))])] 2000 [0,1] r (by kernel_rfl) (U ((by first | rfl | simp [strs]):(((strs (([]:List (List UInt8)),g).1).length:Nat):Int)=0) trivial)
set_option maxRecDepth 100000 in
theorem EV (x:List UInt8) (q:List (List UInt8)) (g:Bool):ax Tryd.prog 55 [.pt 0 0,.pt 1 0] [.bx 93 [.d (.ro 1 (strs ((x::q),g).1))],.bx 4 [.d (.v (.bool (((x::q),g).2)))]] (.d (.v (.string ⟨(bL ((x::q),g)).toArray⟩))) (pn (bd ((x::q),g))):=by
 refine ax.intro (by kernel_rfl) rfl rfl 13 rfl rfl fun D w0 K bs ac wd hK (al:bs.m=2) r=>?_
 have aY:=((by first | rfl | simp [strs]):(((strs ((x::q),g).1).length:Nat):Int)=((q.length+1:Nat):Int))
 cases h0:((((q.length+1:Nat):Int):Int)==0) with
 | false=>
  have bw:=ne_of_beq_false h0
  refine a7 (y:=.d (.v (.string ⟨x.toArray⟩))) (N':=[.bx 93 [.d (.ro 1 (List.drop (1) (strs ((x::q),g).1)))],.bx 4 [.d (.v (.bool (((x::q),g).2)))]]) (rfl) ((by simp [bd,pn,strs])) ?_
  exact aZ tk mo hK rfl al [(1,[(1,.z (((q.length+1:Nat):Int))),(2,.b false)]),(4,[(1,.ix (0) [.v (.string ⟨x.toArray⟩)])]),(5,[(1,.n2 (0) (1))])] 2000 [0,1] r (by kernel_rfl) (U aY (U h0 (U (rfl:(0)=((0:Nat):Int)) (U (rfl:(strs ((x::q),g).1)[0]?=some [.v (.string ⟨x.toArray⟩)]) (U (rfl:(1:Int)=((1:Nat):Int)) (U ((by simp [strs]):(1)≤(strs ((x::q),g).1:List (List DV)).length) trivial))))))
 | true=>
  have bw:=eq_of_beq h0
  exact absurd bw (by omega)
theorem oz (s:Ws):ax Tryd.prog 55 [.pt 0 0,.pt 1 0] (pn s) (.d (.v (.string ⟨(bL s).toArray⟩))) (pn (bd s)):=by
 obtain ⟨l,g⟩:=s
 cases l with
 | nil=>exact Gw g
 | cons x r=>exact EV x r g
set_option maxRecDepth 100000 in
theorem Gy (most:Nat) (s:Ws) (h9:9≤most) (hm:most<18446744073709551616) (hs:fC s):ax Tryd.prog 56 [.d (.v (.bool true)),.u most,.pt 2 0,.pt 1 0] [.bx 93 [.d (.ro 1 (strs s.1))],.bx 4 [.d (.v (.bool (s.2)))],.bx 64 [.fn 55 [.pt 0 0,.pt 1 0]]] (.u (pN true most s)) (po (pS true most s)):=by
 refine ax.intro (by kernel_rfl) rfl rfl 23 rfl rfl fun D w0 K bs ac wd hK (al:bs.m=3) r=>?_
 cases h0:((aH (bL s) most).2) with
 | false=>
  refine a7 (y:=.u ((aH (bL s) most).1)) (N':=[.bx 93 [.d (.ro 1 (strs (bd s).1))],.bx 4 [.d (.v (.bool (((bd s).2&&false))))],.bx 64 [.fn 55 [.pt 0 0,.pt 1 0]]]) (rfl) ((by unfold po pS;rw [h0];rfl)) ?_
  exact aZ tk mo hK rfl al [(3,[(1,.mem [0,1] (.d (.v (.string ⟨(bL s).toArray⟩))) [.bx 93 [.d (.ro 1 (strs (bd s).1))],.bx 4 [.d (.v (.bool ((bd s).2)))]]),(3,.aP (.tu [.u ((aH (bL s) most).1),.v (.bool false)]))]),(4,[(2,.may (bd s).2 (.n 0)),(3,.res (.v (.bool ((bd s).2&&false))))])] 2000 [0,1,2] r (by kernel_rfl) (U (oz s) (U ((by have k:=rI (bL s) most (Nat.le_trans hs.w (by decide)) h9 hm;rw [h0] at k;exact k):ay Tryd.prog 54 [.d (.v (.string ⟨(bL s).toArray⟩)),.u most] (.tu [.u ((aH (bL s) most).1),.v (.bool false)])) (U (o8 _:(jD (Value.bool (bd s).2)==some true)=(bd s).2) (U (fun hc=>trivial:(bd s).2=true→True) (U (oJ _ _:∃ b0:Bool,(Value.bool (bd s).2)=.bool b0∧(bif b0 then (bif (bd s).2 then Value.bool false else undef) else Value.bool false)=.bool ((bd s).2&&false)) trivial)))))
 | true=>
  refine a7 (y:=.u ((aH (bL s) most).1)) (N':=[.bx 93 [.d (.ro 1 (strs (bd s).1))],.bx 4 [.d (.v (.bool (((bd s).2&&true))))],.bx 64 [.fn 55 [.pt 0 0,.pt 1 0]]]) (rfl) ((by unfold po pS;rw [h0];rfl)) ?_
  exact aZ tk mo hK rfl al [(3,[(1,.mem [0,1] (.d (.v (.string ⟨(bL s).toArray⟩))) [.bx 93 [.d (.ro 1 (strs (bd s).1))],.bx 4 [.d (.v (.bool ((bd s).2)))]]),(3,.aP (.tu [.u ((aH (bL s) most).1),.v (.bool true)]))]),(4,[(2,.may (bd s).2 (.n 0)),(3,.res (.v (.bool ((bd s).2&&true))))])] 2000 [0,1,2] r (by kernel_rfl) (U (oz s) (U ((by have k:=rI (bL s) most (Nat.le_trans hs.w (by decide)) h9 hm;rw [h0] at k;exact k):ay Tryd.prog 54 [.d (.v (.string ⟨(bL s).toArray⟩)),.u most] (.tu [.u ((aH (bL s) most).1),.v (.bool true)])) (U (o8 _:(jD (Value.bool (bd s).2)==some true)=(bd s).2) (U (fun hc=>trivial:(bd s).2=true→True) (U (oJ _ _:∃ b0:Bool,(Value.bool (bd s).2)=.bool b0∧(bif b0 then (bif (bd s).2 then Value.bool true else undef) else Value.bool false)=.bool ((bd s).2&&true)) trivial)))))
set_option maxRecDepth 100000 in
theorem EW (most:Nat) (s:Ws) (h9:9≤most) (hm:most<18446744073709551616) (hs:fC s):ax Tryd.prog 56 [.d (.v (.bool false)),.u most,.pt 2 0,.pt 1 0] [.bx 93 [.d (.ro 1 (strs s.1))],.bx 4 [.d (.v (.bool (s.2)))],.bx 64 [.fn 55 [.pt 0 0,.pt 1 0]]] (.u (pN false most s)) (po (pS false most s)):=by
 refine ax.intro (by kernel_rfl) rfl rfl 23 rfl rfl fun D w0 K bs ac wd hK (al:bs.m=3) r=>?_
 refine a7 (y:=.d (.v (.int .u64 0))) (N':=[.bx 93 [.d (.ro 1 (strs s.1))],.bx 4 [.d (.v (.bool (s.2)))],.bx 64 [.fn 55 [.pt 0 0,.pt 1 0]]]) (rfl) (rfl) ?_
 exact aZ tk mo hK rfl al [] 2000 [0,1,2] r (by kernel_rfl) trivial
theorem pZ (b:Bool) (most:Nat) (s:Ws) (h9:9≤most) (hm:most<18446744073709551616) (hs:fC s):ax Tryd.prog 56 [.d (.v (.bool b)),.u most,.pt 2 0,.pt 1 0] (po s) (.u (pN b most s)) (po (pS b most s)):=by
 cases b with
 | true=>exact Gy most s h9 hm hs
 | false=>exact EW most s h9 hm hs
def qk (x:List UInt8):Nat:=lO.findIdx fun y=>y.word==x
theorem uR {k:Nat} (h:k<14):lO[k]?=some (ae k):=r4 (p:=fun k=>lO[k]?=some (ae k)) rfl rfl rfl rfl rfl rfl rfl rfl rfl rfl rfl rfl rfl rfl h
theorem EX {x:List UInt8} {k:Nat} (h:k<14) (hn:∀ j,j<k→(ae j).word≠x) (e:(ae k).word=x):qk x=k:=by
 have hk:=uR h
 obtain ⟨h1,h2⟩:=List.getElem?_eq_some_iff.1 hk
 unfold qk
 rw [List.findIdx_eq h1]
 refine ⟨by rw [h2];simpa using e,fun j hj=>?_⟩
 obtain ⟨h3,h4⟩:=List.getElem?_eq_some_iff.1 (uR (show j<14 by omega))
 rw [h4];simpa using hn j hj
theorem Gz {x:List UInt8} (hn:∀ j,j<14→(ae j).word≠x):qk x=14:=by
 unfold qk
 refine (List.findIdx_eq_length (xs:=lO)).2 fun y hy=>?_
 obtain ⟨j,hj,e⟩:=List.getElem_of_mem hy
 obtain ⟨h3,h4⟩:=List.getElem?_eq_some_iff.1 (uR (show j<14 from hj))
 rw [← e,h4];simpa using hn j hj
def pK (l:List UInt8):Nat:=qk (bL (aM 32 l,true))
def fQ (l:List UInt8):Ws:=((aM 32 l).tail,true)
def ei (l:List UInt8):Ws:=pS (ae (pK l)).node 255 (fQ l)
def ej (l:List UInt8):Ws:=pS (ae (pK l)).peer 255 (ei l)
def ek (l:List UInt8):Ws:=pS (ae (pK l)).n 255 (ej l)
def ff (l:List UInt8):Ws:=pS (ae (pK l)).bit 65535 (ek l)
def aV (l:List UInt8):Ws:=pS (ae (pK l)).inc 18446744073709551615 (ff l)
def th (l:List UInt8):Ws:=cond (ae (pK l)).body ((bd (aV l)).1,(bd (aV l)).2&&(eZ (bL (aV l))).2) (aV l)
def pB (l:List UInt8):List UInt8:=cond (ae (pK l)).body (eZ (bL (aV l))).1 []
def oY (l:List UInt8):aJ:=⟨pK l,pN (ae (pK l)).node 255 (fQ l),pN (ae (pK l)).peer 255 (ei l),pN (ae (pK l)).n 255 (ej l),pN (ae (pK l)).bit 65535 (ek l),pN (ae (pK l)).inc 18446744073709551615 (ff l),pB l⟩
def kn (l:List UInt8):Bool:=decide (pK l<14)&&((th l).2&&(th l).1.isEmpty)
def jY (l:List UInt8):aJ×Bool:=cond (kn l) (oY l,true) (gZ,false)
def pq (q:aJ×Bool):AV:=.tu [.ag [.z q.1.kind,.z q.1.node,.z q.1.peer,.z q.1.n,.z q.1.bit,.u q.1.inc,.sl 1 (af q.1.body).length],.d (.v (.bool q.2))]
def oZ (q:aJ×Bool):List ai:=[.gw 0 aj,.rw 5 1 (af q.1.body)]
theorem r8 {l:List UInt8} (h:kn l=false):jY l=(gZ,false):=by unfold jY;rw [h];rfl
theorem rW {l:List UInt8} (h:kn l=true):jY l=(oY l,true):=by unfold jY;rw [h];rfl
theorem n7 {c:UInt8}:∀ {s w:List UInt8},w ∈ aM c s→w.length≤s.length
 | [],w,h=>by simp [aM] at h;subst h;exact Nat.le_refl _
 | x::r,w,h=>by
  unfold aM at h;split at h
  ·rcases List.mem_cons.1 h with rfl | h
   ·exact Nat.zero_le _
   ·exact Nat.le_succ_of_le (n7 h)
  ·cases e:aM c r with
   | nil=>rw [e] at h;simp at h;subst h;simp
   | cons y ys=>
    rw [e] at h
    rcases List.mem_cons.1 h with rfl | h
    ·exact Nat.succ_le_succ (n7 (by rw [e];simp))
    ·exact Nat.le_succ_of_le (n7 (by rw [e];exact List.mem_cons_of_mem _ h))
theorem zM (c:UInt8) (l:List UInt8):(strs (aM c l))[0]?=some [.v (.string ⟨(bL (aM c l,true)).toArray⟩)]:=by
 have h:=gp c l
 cases e:aM c l with
 | nil=>rw [e] at h;simp at h
 | cons x r=>rfl
theorem drop_one (c:UInt8) (l:List UInt8):List.drop 1 (strs (aM c l))=strs (aM c l).tail:=by unfold strs;rw [← List.map_drop,List.drop_one]
theorem Jd {l:List UInt8} (h:l.length≤1048576):fC (fQ l):=fun x hx=>Nat.le_trans (n7 (List.mem_of_mem_tail hx)) h
theorem zN {l:List (List UInt8)}:decide ((0:Int)<(((strs l).length:Nat):Int))=!l.isEmpty:=by cases l with
 | nil=>rfl
 | cons x r=>simp [strs]
theorem p3 {l:List UInt8} (h:pK l<14) (b:(ae (pK l)).body=true):kn l=(((bd (aV l)).2&&(eZ (bL (aV l))).2)&&(bd (aV l)).1.isEmpty):=by unfold kn th;rw [b,decide_eq_true h];rfl
theorem r9 {l:List UInt8} (h:pK l<14) (b:(ae (pK l)).body=false):kn l=((aV l).2&&(aV l).1.isEmpty):=by unfold kn th;rw [b,decide_eq_true h];rfl
theorem BJ {l:List (List UInt8)} (h:decide ((0:Int)<(((strs l).length:Nat):Int))=true):l.isEmpty=false:=by rw [zN] at h;simpa using h
theorem BK {l:List (List UInt8)} (h:decide ((0:Int)<(((strs l).length:Nat):Int))=false):l.isEmpty=true:=by rw [zN] at h;simpa using h
theorem sw {z:Int} (h:0≤z) (h2:z≤65535):IntKind.i64.wrap z=z:=wi (by omega)
set_option maxRecDepth 100000 in
theorem tr (line:List UInt8) (hl:line.length≤1048576):ax Tryd.prog 32 [.d (.v (.string ⟨line.toArray⟩))] [.gw 0 aj] (pq (jY line)) (oZ (jY line)):=by
 refine ax.intro (by kernel_rfl) rfl rfl 93 rfl rfl fun D w0 K bs ac wd hK (al:bs.m=1) r=>?_
 refine cF (todo':=hd Tryd.f32 0) (E':=[(0,.d (.v (.string ⟨line.toArray⟩))),(2,.pt 1 0),(4,.pt 2 0),(5,.n 0)]) (M':=[.gw 0 aj,.bx 45 [.z 0,.z 0,.z 0,.z 0,.z 0,.d (.v (.int .u64 0)),.d (.v (.slice none 0 0))],.bx 93 [.d (.ro 1 (strs (aM 32 line)))]]) tk mo hK al [(1,[(1,.aP (.ro 1 (strs (aM 32 line))))])] 2000 [0,1,2] [0,2,4,5] r (by kernel_rfl) (U (rT 32 line hl) trivial) fun ac wd r=>?_
 refine aC.rounds (Φ:=fun (i:Nat) ac wd=>(∀ j,j<i→(ae j).word≠(bL (aM 32 line,true)))∧RB D w0 K 93 bs [(0,.d (.v (.string ⟨line.toArray⟩))),(2,.pt 1 0),(4,.pt 2 0),(5,.n i)] [.gw 0 aj,.bx 45 [.z 0,.z 0,.z 0,.z 0,.z 0,.d (.v (.int .u64 0)),.d (.v (.slice none 0 0))],.bx 93 [.d (.ro 1 (strs (aM 32 line)))]] ac wd) (14) ?_ (Nat.zero_le _) ⟨(fun j hj=>absurd hj (Nat.not_lt_zero _)),r⟩
 clear r
 rintro i e7 b6 ac wd ⟨aq,r⟩
 cases h0:(decide ((((i:Nat):Int):Int)<14)) with
 | false=>
  have bw:=of_decide_eq_false h0
  cases h1:((((i:Nat):Int):Int)==14) with
  | false=>
   have bW:=ne_of_beq_false h1
   exact absurd (show ((i:Nat):Int)=14 by omega) bW
  | true=>
   have bW:=eq_of_beq h1
   refine bN (todo':=aft Tryd.f32 5) (E':=[(2,.pt 1 0),(4,.pt 2 0),(5,.n i),(30,.d (.v (.bool true)))]) (M':=[.gw 0 aj,.bx 45 [.z 0,.z 0,.z 0,.z 0,.z 0,.d (.v (.int .u64 0)),.d (.v (.slice none 0 0))],.bx 93 [.d (.ro 1 (strs (aM 32 line)))]]) tk mo hK al [(3,[(1,.b false)]),(5,[(1,.b true)])] 8 [0,1,2] [2,4,5,30] r (by kernel_rfl) (U h0 (U h1 trivial)) fun ac wd r=>?_
   have hk:pK line=14:=Gz fun j hj=>aq j (by omega)
   refine bN (todo':=aft Tryd.f32 6) (E':=[(2,.pt 1 0),(4,.pt 2 0),(5,.n i),(3,.d (.v (.bool false)))]) (M':=[.gw 0 aj,.bx 45 [.z 0,.z 0,.z 0,.z 0,.z 0,.d (.v (.int .u64 0)),.d (.v (.slice none 0 0))],.bx 93 [.d (.ro 1 (strs (aM 32 line)))]]) tk mo hK al [] 3 [0,1,2] [2,4,5,3] r (by kernel_rfl) trivial fun ac wd r=>?_
   have r:=r.fB (E1:=[(2,.pt 1 0),(4,.pt 2 0),(5,.n i),(3,.d (.v (.bool false)))]) (M1:=[.gw 0 aj,.bx 45 [.z 0,.z 0,.z 0,.z 0,.z 0,.d (.v (.int .u64 0)),.d (.v (.slice none 0 0))],.bx 93 [.d (.ro 1 (strs (aM 32 line)))]]) (M2:=[.gw 0 aj,.bx 45 [.z 0,.z 0,.z 0,.z 0,.z 0,.d (.v (.int .u64 0)),.sl 3 (0)],.bx 93 [.d (.ro 1 (strs (aM 32 line)))],.rw 5 1 ([])]) [] [(1,6,5,1)] (by kernel_rfl) (by kernel_rfl)
   refine a7 (y:=.tu [.ag [.z 0,.z 0,.z 0,.z 0,.z 0,.d (.v (.int .u64 0)),.sl 1 (0)],.d (.v (.bool false))]) (N':=[.gw 0 aj,.rw 5 1 ([])]) ((by rw [r8 (by unfold kn;rw [decide_eq_false (by omega)];rfl)];rfl)) ((by rw [r8 (by unfold kn;rw [decide_eq_false (by omega)];rfl)];rfl)) ?_
   exact aZ tk mo hK rfl al [] 2000 [0,3] r (by kernel_rfl) trivial
 | true=>
  have bw:=of_decide_eq_true h0
  have aY:=(mK (by omega):List.take 7 (List.drop ((i)*7) (aj:List DV))=([.v (.string ⟨((ae i).word).toArray⟩),.v (.bool ((ae i).node)),.v (.bool ((ae i).peer)),.v (.bool ((ae i).n)),.v (.bool ((ae i).bit)),.v (.bool ((ae i).inc)),.v (.bool ((ae i).body))]:List DV))
  have bH:=(zM 32 line:(strs (aM 32 line))[0]?=some [.v (.string ⟨(bL (aM 32 line,true)).toArray⟩)])
  cases h2:((ae i).word==(bL (aM 32 line,true))) with
  | false=>
   exact cF (todo':=hd Tryd.f32 0) tk mo hK al [(3,[(1,.b true),(4,.ix (i) [.v (.string ⟨((ae i).word).toArray⟩),.v (.bool ((ae i).node)),.v (.bool ((ae i).peer)),.v (.bool ((ae i).n)),.v (.bool ((ae i).bit)),.v (.bool ((ae i).inc)),.v (.bool ((ae i).body))]),(8,.ix (0) [.v (.string ⟨(bL (aM 32 line,true)).toArray⟩)]),(10,.b true)]),(4,[(1,.z (((i+1:Nat):Int)))])] 2000 [0,1,2] [0,2,4,5] r (by kernel_rfl) (U h0 (U (aN ((i:Nat):Int)) (U ((by omega):(i)<14) (U aY (U (rfl:(0)=((0:Nat):Int)) (U bH (U ((by simpa [bne] using h2):((ae i).word != (bL (aM 32 line,true)))=true) (U ((wi (by omega)):IntKind.i64.wrap ((((i:Nat):Int):Int)+1)=((i+1:Nat):Int)) trivial)))))))) fun ac wd r=>b6 (by omega) ac wd ⟨(fun j hj=>by rcases Nat.lt_succ_iff_lt_or_eq.1 hj with h | rfl;exact aq j h;simpa using h2),r⟩
  | true=>
   have cB:=((by simpa [bne] using h2):((ae i).word != (bL (aM 32 line,true)))=false)
   cases h3:((((i:Nat):Int):Int)==14) with
   | false=>
    have dX:=ne_of_beq_false h3
    refine bN (todo':=aft Tryd.f32 5) (E':=[(2,.pt 1 0),(4,.pt 2 0),(5,.n i),(30,.d (.v (.bool false)))]) (M':=[.gw 0 aj,.bx 45 [.z 0,.z 0,.z 0,.z 0,.z 0,.d (.v (.int .u64 0)),.d (.v (.slice none 0 0))],.bx 93 [.d (.ro 1 (strs (aM 32 line)))]]) tk mo hK al [(3,[(1,.b true),(4,.ix (i) [.v (.string ⟨((ae i).word).toArray⟩),.v (.bool ((ae i).node)),.v (.bool ((ae i).peer)),.v (.bool ((ae i).n)),.v (.bool ((ae i).bit)),.v (.bool ((ae i).inc)),.v (.bool ((ae i).body))]),(8,.ix (0) [.v (.string ⟨(bL (aM 32 line,true)).toArray⟩)]),(10,.b false)]),(5,[(1,.b false)])] 8 [0,1,2] [2,4,5,30] r (by kernel_rfl) (U h0 (U (aN ((i:Nat):Int)) (U ((by omega):(i)<14) (U aY (U (rfl:(0)=((0:Nat):Int)) (U bH (U cB (U h3 trivial)))))))) fun ac wd r=>?_
    have hk:pK line=i:=EX (by omega) (fun j hj=>aq j hj) (by simpa using h2)
    subst hk
    have CV:=Jd hl
    have nL:fC (ei line):=CV.p _ _
    have kr:fC (ej line):=nL.p _ _
    have CW:fC (ek line):=kr.p _ _
    have CX:fC (ff line):=CW.p _ _
    have NZ:fC (aV line):=CX.p _ _
    refine bN (todo':=aft Tryd.f32 12) (E':=[(2,.pt 1 0),(4,.pt 2 0),(6,.pt 3 0),(7,.pt 4 0),(8,.pt 5 0),(9,.fn 56 [.pt 5 0,.pt 4 0]),(10,.pt 6 0)]) (M':=[.gw 0 aj,.bx 45 [.z 0,.z 0,.z 0,.z 0,.z 0,.d (.v (.int .u64 0)),.d (.v (.slice none 0 0))],.bx 93 [.d (.ro 1 (List.drop (1) (strs (aM 32 line))))],.bx 84 [.d (.v (.string ⟨((ae (pK line)).word).toArray⟩)),.d (.v (.bool ((ae (pK line)).node))),.d (.v (.bool ((ae (pK line)).peer))),.d (.v (.bool ((ae (pK line)).n))),.d (.v (.bool ((ae (pK line)).bit))),.d (.v (.bool ((ae (pK line)).inc))),.d (.v (.bool ((ae (pK line)).body)))],.bx 4 [.d (.v (.bool true))],.bx 64 [.fn 55 [.pt 2 0,.pt 4 0]],.bx 45 [.n (pK line),.z 0,.z 0,.z 0,.z 0,.d (.v (.int .u64 0)),.d (.v (.slice none 0 0))]]) tk mo hK al [(7,[(1,.ix (pK line) [.v (.string ⟨((ae (pK line)).word).toArray⟩),.v (.bool ((ae (pK line)).node)),.v (.bool ((ae (pK line)).peer)),.v (.bool ((ae (pK line)).n)),.v (.bool ((ae (pK line)).bit)),.v (.bool ((ae (pK line)).inc)),.v (.bool ((ae (pK line)).body))])]),(8,[(1,.n2 (0) (1))])] 14 [0,1,2,3,4,5,6] [2,4,6,7,8,9,10] r (by kernel_rfl) (U (aN ((pK line:Nat):Int)) (U ((by omega):(pK line)<14) (U (mK (by omega):List.take 7 (List.drop ((pK line)*7) (aj:List DV))=([.v (.string ⟨((ae (pK line)).word).toArray⟩),.v (.bool ((ae (pK line)).node)),.v (.bool ((ae (pK line)).peer)),.v (.bool ((ae (pK line)).n)),.v (.bool ((ae (pK line)).bit)),.v (.bool ((ae (pK line)).inc)),.v (.bool ((ae (pK line)).body))]:List DV)) (U (rfl:(1:Int)=((1:Nat):Int)) (U ((by have:=gp 32 line;simp [strs];omega):(1)≤(strs (aM 32 line):List (List DV)).length) trivial))))) fun ac wd r=>?_
    have r:=r.fB (E1:=[(2,.pt 1 0),(4,.pt 2 0),(6,.pt 3 0),(7,.pt 4 0),(8,.pt 5 0),(9,.fn 56 [.pt 5 0,.pt 4 0]),(10,.pt 6 0)]) (M1:=[.gw 0 aj,.bx 45 [.z 0,.z 0,.z 0,.z 0,.z 0,.d (.v (.int .u64 0)),.d (.v (.slice none 0 0))],.bx 93 [.d (.ro 1 (List.drop (1) (strs (aM 32 line))))],.bx 84 [.d (.v (.string ⟨((ae (pK line)).word).toArray⟩)),.d (.v (.bool ((ae (pK line)).node))),.d (.v (.bool ((ae (pK line)).peer))),.d (.v (.bool ((ae (pK line)).n))),.d (.v (.bool ((ae (pK line)).bit))),.d (.v (.bool ((ae (pK line)).inc))),.d (.v (.bool ((ae (pK line)).body)))],.bx 4 [.d (.v (.bool true))],.bx 64 [.fn 55 [.pt 2 0,.pt 4 0]],.bx 45 [.n (pK line),.z 0,.z 0,.z 0,.z 0,.d (.v (.int .u64 0)),.d (.v (.slice none 0 0))]]) (M2:=[.gw 0 aj,.bx 45 [.z 0,.z 0,.z 0,.z 0,.z 0,.d (.v (.int .u64 0)),.d (.v (.slice none 0 0))],.bx 93 [.d (.ro 1 (List.drop (1) (strs (aM 32 line))))],.bx 84 [.d (.v (.string ⟨((ae (pK line)).word).toArray⟩)),.d (.v (.bool ((ae (pK line)).node))),.d (.v (.bool ((ae (pK line)).peer))),.d (.v (.bool ((ae (pK line)).n))),.d (.v (.bool ((ae (pK line)).bit))),.d (.v (.bool ((ae (pK line)).inc))),.d (.v (.bool ((ae (pK line)).body)))],.bx 4 [.d (.v (.bool true))],.bx 64 [.fn 55 [.pt 2 0,.pt 4 0]],.bx 45 [.n (pK line),.z 0,.z 0,.z 0,.z 0,.d (.v (.int .u64 0)),.sl 7 (0)],.rw 5 1 ([])]) [] [(6,6,5,1)] (by kernel_rfl) (by kernel_rfl)
    refine bN (todo':=aft Tryd.f32 18) (E':=[(2,.pt 1 0),(4,.pt 2 0),(7,.pt 4 0),(8,.pt 5 0),(10,.pt 6 0),(71,.d (.v (.bool ((ae (pK line)).body))))]) (M':=[.gw 0 aj,.bx 45 [.z 0,.z 0,.z 0,.z 0,.z 0,.d (.v (.int .u64 0)),.d (.v (.slice none 0 0))],.bx 93 [.d (.ro 1 (strs (aV line).1))],.bx 84 [.d (.v (.string ⟨((ae (pK line)).word).toArray⟩)),.d (.v (.bool ((ae (pK line)).node))),.d (.v (.bool ((ae (pK line)).peer))),.d (.v (.bool ((ae (pK line)).n))),.d (.v (.bool ((ae (pK line)).bit))),.d (.v (.bool ((ae (pK line)).inc))),.d (.v (.bool ((ae (pK line)).body)))],.bx 4 [.d (.v (.bool ((aV line).2)))],.bx 64 [.fn 55 [.pt 2 0,.pt 4 0]],.bx 45 [.n (pK line),.n (pN (ae (pK line)).node 255 (fQ line)),.n (pN (ae (pK line)).peer 255 (ei line)),.n (pN (ae (pK line)).n 255 (ej line)),.n (pN (ae (pK line)).bit 65535 (ek line)),.u (pN (ae (pK line)).inc 18446744073709551615 (ff line)),.sl 7 (0)],.rw 5 1 ([])]) tk mo hK al [(13,[(3,.mem [2,4,5] (.u (pN (ae (pK line)).node 255 (fQ line))) [.bx 93 [.d (.ro 1 (strs (ei line).1))],.bx 4 [.d (.v (.bool ((ei line).2)))],.bx 64 [.fn 55 [.pt 0 0,.pt 1 0]]]),(4,.z (((pN (ae (pK line)).node 255 (fQ line):Nat):Int)))]),(14,[(3,.mem [2,4,5] (.u (pN (ae (pK line)).peer 255 (ei line))) [.bx 93 [.d (.ro 1 (strs (ej line).1))],.bx 4 [.d (.v (.bool ((ej line).2)))],.bx 64 [.fn 55 [.pt 0 0,.pt 1 0]]]),(4,.z (((pN (ae (pK line)).peer 255 (ei line):Nat):Int)))]),(15,[(3,.mem [2,4,5] (.u (pN (ae (pK line)).n 255 (ej line))) [.bx 93 [.d (.ro 1 (strs (ek line).1))],.bx 4 [.d (.v (.bool ((ek line).2)))],.bx 64 [.fn 55 [.pt 0 0,.pt 1 0]]]),(4,.z (((pN (ae (pK line)).n 255 (ej line):Nat):Int)))]),(16,[(3,.mem [2,4,5] (.u (pN (ae (pK line)).bit 65535 (ek line))) [.bx 93 [.d (.ro 1 (strs (ff line).1))],.bx 4 [.d (.v (.bool ((ff line).2)))],.bx 64 [.fn 55 [.pt 0 0,.pt 1 0]]]),(4,.z (((pN (ae (pK line)).bit 65535 (ek line):Nat):Int)))]),(17,[(3,.mem [2,4,5] (.u (pN (ae (pK line)).inc 18446744073709551615 (ff line))) [.bx 93 [.d (.ro 1 (strs (aV line).1))],.bx 4 [.d (.v (.bool ((aV line).2)))],.bx 64 [.fn 55 [.pt 0 0,.pt 1 0]]])])] 13 [0,1,2,3,4,5,6,7] [2,4,7,8,10,71] r (by kernel_rfl) (U ((by rw [drop_one];exact pZ _ _ (fQ line) (by decide) (by decide) CV):ax Tryd.prog 56 [.d (.v (.bool ((ae (pK line)).node))),.d (.v (.int .u64 255)),.pt 2 0,.pt 1 0] [.bx 93 [.d (.ro 1 (List.drop (1) (strs (aM 32 line))))],.bx 4 [.d (.v (.bool true))],.bx 64 [.fn 55 [.pt 0 0,.pt 1 0]]] (.u (pN (ae (pK line)).node 255 (fQ line))) [.bx 93 [.d (.ro 1 (strs (ei line).1))],.bx 4 [.d (.v (.bool ((ei line).2)))],.bx 64 [.fn 55 [.pt 0 0,.pt 1 0]]]) (U ((sw (by omega) (by have:=sv (ae (pK line)).node (fQ line) (most:=255) (by decide);omega)):IntKind.i64.wrap (((pN (ae (pK line)).node 255 (fQ line):Nat):Int))=((pN (ae (pK line)).node 255 (fQ line):Nat):Int)) (U (pZ _ _ (ei line) (by decide) (by decide) nL:ax Tryd.prog 56 [.d (.v (.bool ((ae (pK line)).peer))),.d (.v (.int .u64 255)),.pt 2 0,.pt 1 0] [.bx 93 [.d (.ro 1 (strs (ei line).1))],.bx 4 [.d (.v (.bool ((ei line).2)))],.bx 64 [.fn 55 [.pt 0 0,.pt 1 0]]] (.u (pN (ae (pK line)).peer 255 (ei line))) [.bx 93 [.d (.ro 1 (strs (ej line).1))],.bx 4 [.d (.v (.bool ((ej line).2)))],.bx 64 [.fn 55 [.pt 0 0,.pt 1 0]]]) (U ((sw (by omega) (by have:=sv (ae (pK line)).peer (ei line) (most:=255) (by decide);omega)):IntKind.i64.wrap (((pN (ae (pK line)).peer 255 (ei line):Nat):Int))=((pN (ae (pK line)).peer 255 (ei line):Nat):Int)) (U (pZ _ _ (ej line) (by decide) (by decide) kr:ax Tryd.prog 56 [.d (.v (.bool ((ae (pK line)).n))),.d (.v (.int .u64 255)),.pt 2 0,.pt 1 0] [.bx 93 [.d (.ro 1 (strs (ej line).1))],.bx 4 [.d (.v (.bool ((ej line).2)))],.bx 64 [.fn 55 [.pt 0 0,.pt 1 0]]] (.u (pN (ae (pK line)).n 255 (ej line))) [.bx 93 [.d (.ro 1 (strs (ek line).1))],.bx 4 [.d (.v (.bool ((ek line).2)))],.bx 64 [.fn 55 [.pt 0 0,.pt 1 0]]]) (U ((sw (by omega) (by have:=sv (ae (pK line)).n (ej line) (most:=255) (by decide);omega)):IntKind.i64.wrap (((pN (ae (pK line)).n 255 (ej line):Nat):Int))=((pN (ae (pK line)).n 255 (ej line):Nat):Int)) (U (pZ _ _ (ek line) (by decide) (by decide) CW:ax Tryd.prog 56 [.d (.v (.bool ((ae (pK line)).bit))),.d (.v (.int .u64 65535)),.pt 2 0,.pt 1 0] [.bx 93 [.d (.ro 1 (strs (ek line).1))],.bx 4 [.d (.v (.bool ((ek line).2)))],.bx 64 [.fn 55 [.pt 0 0,.pt 1 0]]] (.u (pN (ae (pK line)).bit 65535 (ek line))) [.bx 93 [.d (.ro 1 (strs (ff line).1))],.bx 4 [.d (.v (.bool ((ff line).2)))],.bx 64 [.fn 55 [.pt 0 0,.pt 1 0]]]) (U ((sw (by omega) (by have:=sv (ae (pK line)).bit (ek line) (most:=65535) (by decide);omega)):IntKind.i64.wrap (((pN (ae (pK line)).bit 65535 (ek line):Nat):Int))=((pN (ae (pK line)).bit 65535 (ek line):Nat):Int)) (U (pZ _ _ (ff line) (by decide) (by decide) CX:ax Tryd.prog 56 [.d (.v (.bool ((ae (pK line)).inc))),.d (.v (.int .u64 18446744073709551615)),.pt 2 0,.pt 1 0] [.bx 93 [.d (.ro 1 (strs (ff line).1))],.bx 4 [.d (.v (.bool ((ff line).2)))],.bx 64 [.fn 55 [.pt 0 0,.pt 1 0]]] (.u (pN (ae (pK line)).inc 18446744073709551615 (ff line))) [.bx 93 [.d (.ro 1 (strs (aV line).1))],.bx 4 [.d (.v (.bool ((aV line).2)))],.bx 64 [.fn 55 [.pt 0 0,.pt 1 0]]]) trivial))))))))) fun ac wd r=>?_
    suffices qY:kn line=false→∀ ac wd,RB D w0 K 93 bs [(2,.pt 1 0),(3,.d (.v (.bool false)))] [.gw 0 aj,.bx 45 [.z 0,.z 0,.z 0,.z 0,.z 0,.d (.v (.int .u64 0)),.d (.v (.slice none 0 0))]] ac wd→aC Tryd.prog 32 (aft Tryd.f32 22) (ew D w0 K bs (pq (jY line)) (oZ (jY line))) ac wd by
     cases h4:((ae (pK line)).body) with
     | false=>
      have r:=r.cast (E':=[(2,.pt 1 0),(4,.pt 2 0),(7,.pt 4 0),(8,.pt 5 0),(10,.pt 6 0),(71,.d (.v (.bool false)))]) (M':=[.gw 0 aj,.bx 45 [.z 0,.z 0,.z 0,.z 0,.z 0,.d (.v (.int .u64 0)),.d (.v (.slice none 0 0))],.bx 93 [.d (.ro 1 (strs (aV line).1))],.bx 84 [.d (.v (.string ⟨((ae (pK line)).word).toArray⟩)),.d (.v (.bool ((ae (pK line)).node))),.d (.v (.bool ((ae (pK line)).peer))),.d (.v (.bool ((ae (pK line)).n))),.d (.v (.bool ((ae (pK line)).bit))),.d (.v (.bool ((ae (pK line)).inc))),.d (.v (.bool false))],.bx 4 [.d (.v (.bool ((aV line).2)))],.bx 64 [.fn 55 [.pt 2 0,.pt 4 0]],.bx 45 [.n (pK line),.n (pN (ae (pK line)).node 255 (fQ line)),.n (pN (ae (pK line)).peer 255 (ei line)),.n (pN (ae (pK line)).n 255 (ej line)),.n (pN (ae (pK line)).bit 65535 (ek line)),.u (pN (ae (pK line)).inc 18446744073709551615 (ff line)),.sl 7 (0)],.rw 5 1 ([])]) (by rw [h4]) (by rw [h4])
      cases h5:((aV line).2) with
      | false=>
       have r:=r.cast (M':=[.gw 0 aj,.bx 45 [.z 0,.z 0,.z 0,.z 0,.z 0,.d (.v (.int .u64 0)),.d (.v (.slice none 0 0))],.bx 93 [.d (.ro 1 (strs (aV line).1))],.bx 84 [.d (.v (.string ⟨((ae (pK line)).word).toArray⟩)),.d (.v (.bool ((ae (pK line)).node))),.d (.v (.bool ((ae (pK line)).peer))),.d (.v (.bool ((ae (pK line)).n))),.d (.v (.bool ((ae (pK line)).bit))),.d (.v (.bool ((ae (pK line)).inc))),.d (.v (.bool false))],.bx 4 [.d (.v (.bool false))],.bx 64 [.fn 55 [.pt 2 0,.pt 4 0]],.bx 45 [.n (pK line),.n (pN (ae (pK line)).node 255 (fQ line)),.n (pN (ae (pK line)).peer 255 (ei line)),.n (pN (ae (pK line)).n 255 (ej line)),.n (pN (ae (pK line)).bit 65535 (ek line)),.u (pN (ae (pK line)).inc 18446744073709551615 (ff line)),.sl 7 (0)],.rw 5 1 ([])]) rfl (by rw [h5])
       refine bN (todo':=aft Tryd.f32 22) (E':=[(2,.pt 1 0),(3,.d (.v (.bool false)))]) (M':=[.gw 0 aj,.bx 45 [.z 0,.z 0,.z 0,.z 0,.z 0,.d (.v (.int .u64 0)),.d (.v (.slice none 0 0))]]) tk mo hK al [] 8 [0,1] [2,3] r (by kernel_rfl) trivial fun ac wd r=>?_
       exact qY (by rw [r9 (by omega) h4];simp_all) ac wd (r.cast rfl rfl)
      | true=>
       have r:=r.cast (M':=[.gw 0 aj,.bx 45 [.z 0,.z 0,.z 0,.z 0,.z 0,.d (.v (.int .u64 0)),.d (.v (.slice none 0 0))],.bx 93 [.d (.ro 1 (strs (aV line).1))],.bx 84 [.d (.v (.string ⟨((ae (pK line)).word).toArray⟩)),.d (.v (.bool ((ae (pK line)).node))),.d (.v (.bool ((ae (pK line)).peer))),.d (.v (.bool ((ae (pK line)).n))),.d (.v (.bool ((ae (pK line)).bit))),.d (.v (.bool ((ae (pK line)).inc))),.d (.v (.bool false))],.bx 4 [.d (.v (.bool true))],.bx 64 [.fn 55 [.pt 2 0,.pt 4 0]],.bx 45 [.n (pK line),.n (pN (ae (pK line)).node 255 (fQ line)),.n (pN (ae (pK line)).peer 255 (ei line)),.n (pN (ae (pK line)).n 255 (ej line)),.n (pN (ae (pK line)).bit 65535 (ek line)),.u (pN (ae (pK line)).inc 18446744073709551615 (ff line)),.sl 7 (0)],.rw 5 1 ([])]) rfl (by rw [h5])
       cases h6:(decide ((0:Int)<(((strs (aV line).1).length:Nat):Int))) with
       | false=>
        have jc:=of_decide_eq_false h6
        have hE:=BK ‹decide ((0:Int)<(((strs (aV line).1).length:Nat):Int))=false›
        refine a7 (y:=.tu [.ag [.n (pK line),.n (pN (ae (pK line)).node 255 (fQ line)),.n (pN (ae (pK line)).peer 255 (ei line)),.n (pN (ae (pK line)).n 255 (ej line)),.n (pN (ae (pK line)).bit 65535 (ek line)),.u (pN (ae (pK line)).inc 18446744073709551615 (ff line)),.sl 1 (0)],.d (.v (.bool true))]) (N':=[.gw 0 aj,.rw 5 1 ([])]) ((by rw [rW (by rw [r9 (by omega) h4];simp_all)];simp [pq,oZ,oY,pB,af,h4])) ((by rw [rW (by rw [r9 (by omega) h4];simp_all)];simp [pq,oZ,oY,pB,af,h4])) ?_
        exact aZ tk mo hK rfl al [(21,[(5,.b false)])] 2000 [0,7] r (by kernel_rfl) (U h6 trivial)
       | true=>
        have jc:=of_decide_eq_true h6
        have hE:=BJ ‹decide ((0:Int)<(((strs (aV line).1).length:Nat):Int))=true›
        refine bN (todo':=aft Tryd.f32 22) (E':=[(2,.pt 1 0),(3,.d (.v (.bool false)))]) (M':=[.gw 0 aj,.bx 45 [.z 0,.z 0,.z 0,.z 0,.z 0,.d (.v (.int .u64 0)),.d (.v (.slice none 0 0))]]) tk mo hK al [(21,[(5,.b true)])] 8 [0,1] [2,3] r (by kernel_rfl) (U h6 trivial) fun ac wd r=>?_
        exact qY (by rw [r9 (by omega) h4];simp_all) ac wd (r.cast rfl rfl)
     | true=>
      have r:=r.cast (E':=[(2,.pt 1 0),(4,.pt 2 0),(7,.pt 4 0),(8,.pt 5 0),(10,.pt 6 0),(71,.d (.v (.bool true)))]) (M':=[.gw 0 aj,.bx 45 [.z 0,.z 0,.z 0,.z 0,.z 0,.d (.v (.int .u64 0)),.d (.v (.slice none 0 0))],.bx 93 [.d (.ro 1 (strs (aV line).1))],.bx 84 [.d (.v (.string ⟨((ae (pK line)).word).toArray⟩)),.d (.v (.bool ((ae (pK line)).node))),.d (.v (.bool ((ae (pK line)).peer))),.d (.v (.bool ((ae (pK line)).n))),.d (.v (.bool ((ae (pK line)).bit))),.d (.v (.bool ((ae (pK line)).inc))),.d (.v (.bool true))],.bx 4 [.d (.v (.bool ((aV line).2)))],.bx 64 [.fn 55 [.pt 2 0,.pt 4 0]],.bx 45 [.n (pK line),.n (pN (ae (pK line)).node 255 (fQ line)),.n (pN (ae (pK line)).peer 255 (ei line)),.n (pN (ae (pK line)).n 255 (ej line)),.n (pN (ae (pK line)).bit 65535 (ek line)),.u (pN (ae (pK line)).inc 18446744073709551615 (ff line)),.sl 7 (0)],.rw 5 1 ([])]) (by rw [h4]) (by rw [h4])
      cases h7:((eZ (bL (aV line))).2) with
      | false=>
       have dH:=((by have k:=yt (bL (aV line));rw [h7] at k;exact k):ay Tryd.prog 57 [.d (.v (.string ⟨(bL (aV line)).toArray⟩))] (.tu [.em 5 1 (af (eZ (bL (aV line))).1),.v (.bool false)]))
       have gP:=(o8 _:(jD (Value.bool (bd (aV line)).2)==some true)=(bd (aV line)).2)
       have gQ:=(oJ _ _:∃ b0:Bool,(Value.bool (bd (aV line)).2)=.bool b0∧(bif b0 then (bif (bd (aV line)).2 then Value.bool false else undef) else Value.bool false)=.bool ((bd (aV line)).2&&false))
       cases h8:(((bd (aV line)).2&&false)) with
       | false=>
        refine bN (todo':=aft Tryd.f32 22) (E':=[(2,.pt 1 0),(3,.d (.v (.bool false)))]) (M':=[.gw 0 aj,.bx 45 [.z 0,.z 0,.z 0,.z 0,.z 0,.d (.v (.int .u64 0)),.d (.v (.slice none 0 0))]]) tk mo hK al [(19,[(1,.mem [2,4] (.d (.v (.string ⟨(bL (aV line)).toArray⟩))) [.bx 93 [.d (.ro 1 (strs (bd (aV line)).1))],.bx 4 [.d (.v (.bool ((bd (aV line)).2)))]]),(2,.aP (.tu [.em 5 1 (af (eZ (bL (aV line))).1),.v (.bool false)]))]),(20,[(3,.may (bd (aV line)).2 (.n 0)),(4,.res (.v (.bool ((bd (aV line)).2&&false))))]),(21,[(1,.b true)])] 10 [0,1] [2,3] r (by kernel_rfl) (U (oz (aV line)) (U dH (U gP (U (fun hc=>trivial:(bd (aV line)).2=true→True) (U gQ (U ((by rw [h8];rfl):(!(((bd (aV line)).2&&false)))=true) trivial)))))) fun ac wd r=>?_
        exact qY (by rw [p3 (by omega) h4];simp_all) ac wd (r.cast rfl rfl)
       | true=>
        exact absurd h8 (by simp)
      | true=>
       have eh:=((by have k:=yt (bL (aV line));rw [h7] at k;exact k):ay Tryd.prog 57 [.d (.v (.string ⟨(bL (aV line)).toArray⟩))] (.tu [.em 5 1 (af (eZ (bL (aV line))).1),.v (.bool true)]))
       have fz:=(o8 _:(jD (Value.bool (bd (aV line)).2)==some true)=(bd (aV line)).2)
       have fO:=(oJ _ _:∃ b0:Bool,(Value.bool (bd (aV line)).2)=.bool b0∧(bif b0 then (bif (bd (aV line)).2 then Value.bool true else undef) else Value.bool false)=.bool ((bd (aV line)).2&&true))
       cases h9:(((bd (aV line)).2&&true)) with
       | false=>
        refine bN (todo':=aft Tryd.f32 22) (E':=[(2,.pt 1 0),(3,.d (.v (.bool false)))]) (M':=[.gw 0 aj,.bx 45 [.z 0,.z 0,.z 0,.z 0,.z 0,.d (.v (.int .u64 0)),.d (.v (.slice none 0 0))]]) tk mo hK al [(19,[(1,.mem [2,4] (.d (.v (.string ⟨(bL (aV line)).toArray⟩))) [.bx 93 [.d (.ro 1 (strs (bd (aV line)).1))],.bx 4 [.d (.v (.bool ((bd (aV line)).2)))]]),(2,.aP (.tu [.em 5 1 (af (eZ (bL (aV line))).1),.v (.bool true)]))]),(20,[(3,.may (bd (aV line)).2 (.n 0)),(4,.res (.v (.bool ((bd (aV line)).2&&true))))]),(21,[(1,.b true)])] 10 [0,1] [2,3] r (by kernel_rfl) (U (oz (aV line)) (U eh (U fz (U (fun hc=>trivial:(bd (aV line)).2=true→True) (U fO (U ((by rw [h9];rfl):(!(((bd (aV line)).2&&true)))=true) trivial)))))) fun ac wd r=>?_
        exact qY (by rw [p3 (by omega) h4];simp_all) ac wd (r.cast rfl rfl)
       | true=>
        cases di:(decide ((0:Int)<(((strs (bd (aV line)).1).length:Nat):Int))) with
        | false=>
         have nr:=of_decide_eq_false di
         have hE:=BK ‹decide ((0:Int)<(((strs (bd (aV line)).1).length:Nat):Int))=false›
         refine a7 (y:=.tu [.ag [.n (pK line),.n (pN (ae (pK line)).node 255 (fQ line)),.n (pN (ae (pK line)).peer 255 (ei line)),.n (pN (ae (pK line)).n 255 (ej line)),.n (pN (ae (pK line)).bit 65535 (ek line)),.u (pN (ae (pK line)).inc 18446744073709551615 (ff line)),.sl 1 ((af (eZ (bL (aV line))).1).length)],.d (.v (.bool true))]) (N':=[.gw 0 aj,.rw 5 1 (af (eZ (bL (aV line))).1)]) ((by rw [rW (by rw [p3 (by omega) h4];simp_all)];simp [pq,oZ,oY,pB,af,h4])) ((by rw [rW (by rw [p3 (by omega) h4];simp_all)];simp [pq,oZ,oY,pB,af,h4])) ?_
         exact aZ tk mo hK rfl al [(19,[(1,.mem [2,4] (.d (.v (.string ⟨(bL (aV line)).toArray⟩))) [.bx 93 [.d (.ro 1 (strs (bd (aV line)).1))],.bx 4 [.d (.v (.bool ((bd (aV line)).2)))]]),(2,.aP (.tu [.em 5 1 (af (eZ (bL (aV line))).1),.v (.bool true)]))]),(20,[(3,.may (bd (aV line)).2 (.n 0)),(4,.res (.v (.bool ((bd (aV line)).2&&true))))]),(21,[(1,.b false),(5,.b false)])] 2000 [0,8] r (by kernel_rfl) (U (oz (aV line)) (U eh (U fz (U (fun hc=>trivial:(bd (aV line)).2=true→True) (U fO (U ((by rw [h9];rfl):(!(((bd (aV line)).2&&true)))=false) (U di trivial)))))))
        | true=>
         have nr:=of_decide_eq_true di
         have hE:=BJ ‹decide ((0:Int)<(((strs (bd (aV line)).1).length:Nat):Int))=true›
         refine bN (todo':=aft Tryd.f32 22) (E':=[(2,.pt 1 0),(3,.d (.v (.bool false)))]) (M':=[.gw 0 aj,.bx 45 [.z 0,.z 0,.z 0,.z 0,.z 0,.d (.v (.int .u64 0)),.d (.v (.slice none 0 0))]]) tk mo hK al [(19,[(1,.mem [2,4] (.d (.v (.string ⟨(bL (aV line)).toArray⟩))) [.bx 93 [.d (.ro 1 (strs (bd (aV line)).1))],.bx 4 [.d (.v (.bool ((bd (aV line)).2)))]]),(2,.aP (.tu [.em 5 1 (af (eZ (bL (aV line))).1),.v (.bool true)]))]),(20,[(3,.may (bd (aV line)).2 (.n 0)),(4,.res (.v (.bool ((bd (aV line)).2&&true))))]),(21,[(1,.b false),(5,.b true)])] 10 [0,1] [2,3] r (by kernel_rfl) (U (oz (aV line)) (U eh (U fz (U (fun hc=>trivial:(bd (aV line)).2=true→True) (U fO (U ((by rw [h9];rfl):(!(((bd (aV line)).2&&true)))=false) (U di trivial))))))) fun ac wd r=>?_
         exact qY (by rw [p3 (by omega) h4];simp_all) ac wd (r.cast rfl rfl)
    intro hJ ac wd r
    have r:=r.fB (E1:=[(2,.pt 1 0),(3,.d (.v (.bool false)))]) (M1:=[.gw 0 aj,.bx 45 [.z 0,.z 0,.z 0,.z 0,.z 0,.d (.v (.int .u64 0)),.d (.v (.slice none 0 0))]]) (M2:=[.gw 0 aj,.bx 45 [.z 0,.z 0,.z 0,.z 0,.z 0,.d (.v (.int .u64 0)),.sl 2 (0)],.rw 5 1 ([])]) [] [(1,6,5,1)] (by kernel_rfl) (by kernel_rfl)
    refine a7 (y:=.tu [.ag [.z 0,.z 0,.z 0,.z 0,.z 0,.d (.v (.int .u64 0)),.sl 1 (0)],.d (.v (.bool false))]) (N':=[.gw 0 aj,.rw 5 1 ([])]) ((by rw [r8 hJ];rfl)) ((by rw [r8 hJ];rfl)) ?_
    exact aZ tk mo hK rfl al [] 2000 [0,2] r (by kernel_rfl) trivial
   | true=>
    have dX:=eq_of_beq h3
    exact absurd dX (by omega)
end Go.Proofs.YtcnpikbbmbombaaDoor
namespace Go.Proofs.YtcnpikbbmbombaaDoor
open Go.RowKit
def jP (w:List UInt8):Int:=(((aH w 255).1:Nat):Int)
def cJ (w:List UInt8):List UInt8×List UInt8:=if 0<w.count 45 then (bF 45 w,eY 45 w) else (w,[])
abbrev qZ:=List (Int×Int)×List Int×Bool×Bool
def kb (s:qZ) (w:List UInt8):qZ:=
 if s.2.2.1=true then (s.1,s.2.1++[jP w],true,s.2.2.2&&(aH w 255).2)
 else if w=[58] then (s.1,s.2.1,true,s.2.2.2)
 else (s.1++[(jP (cJ w).1,jP (cJ w).2)],s.2.1,false,s.2.2.2&&(aH (cJ w).1 255).2&&(aH (cJ w).2 255).2)
theorem uS {ws:List (List UInt8)} {i:Nat} {w:List UInt8} {s0 s s2:qZ} (g:ws[i]?=some w) (h:(ws.take i).foldl kb s0=s) (e:kb s w=s2):(ws.take (i+1)).foldl kb s0=s2:=by
 rw [List.take_add_one,g,Option.toList_some,List.foldl_append,h];exact e
theorem MH (L:List (Int×Int)) (H:List Int) (g:Bool) (w:List UInt8):kb (L,H,true,g) w=(L,H++[(((aH w 255).1:Nat):Int)],true,g&&(aH w 255).2):=rfl
theorem MI {L:List (Int×Int)} {H:List Int} {g:Bool} {w:List UInt8} (h:(w==([58]:List UInt8))=true):kb (L,H,false,g) w=(L,H,true,g):=by
 have:w=[58]:=by simpa using h
 subst this;rfl
theorem MJ {L:List (Int×Int)} {H:List Int} {g:Bool} {w:List UInt8} (h:(w==([58]:List UInt8))=false):kb (L,H,false,g) w=(L++[((((aH (cJ w).1 255).1:Nat):Int),(((aH (cJ w).2 255).1:Nat):Int))],H,false,(g&&(aH (cJ w).1 255).2)&&(aH (cJ w).2 255).2):=by
 have hw:w≠[58]:=by intro e;subst e;simp at h
 unfold kb;rw [if_neg (by simp),if_neg hw];rfl
theorem H5 (c:UInt8) (s:List UInt8):(bF c s).length≤s.length:=by
 have:=congrArg List.length (pG (c:=c) s);simp at this;omega
theorem H6 (c:UInt8) (s:List UInt8):(eY c s).length≤s.length:=by unfold eY;simp
theorem uT (w:List UInt8):(cJ w).1.length≤w.length∧(cJ w).2.length≤w.length:=by
 unfold cJ;split
 ·exact ⟨H5 _ _,H6 _ _⟩
 ·exact ⟨Nat.le_refl _,Nat.zero_le _⟩
theorem Je (w:List UInt8) (hl:w.length≤1048576):ay Tryd.prog 51 [.d (.v (.string ⟨w.toArray⟩)),.d (.v (.string ⟨[45].toArray⟩))] (.tu [.v (.string ⟨(cJ w).1.toArray⟩),.v (.string ⟨(cJ w).2.toArray⟩),.v (.bool (decide (0<w.count 45)))]):=by
 by_cases h:0<w.count 45
 ·unfold cJ;rw [if_pos h,decide_eq_true h];exact pT 45 w (by omega) h
 ·unfold cJ;rw [if_neg h,decide_eq_false h];exact Ja 45 w (by omega) (by omega)
def dO (l:List UInt8):List (List UInt8):=(aM 32 l).drop 2
def cC (l:List UInt8):List UInt8:=(aM 32 l).getD 1 []
def mI (l:List UInt8):qZ:=(dO l).foldl kb ([],[],false,(aH (cC l) 255).2)
def mj (l:List UInt8):bY:=⟨jP (cC l),(mI l).1,(mI l).2.1⟩
noncomputable def jo (l:List UInt8):Bool:=(decide (3≤(aM 32 l).length)&&(bL (aM 32 l,true)==[119,111,114,108,100]))&&(((mI l).2.2.2&&(mI l).2.2.1)&&bT (mj l))
noncomputable def mJ (l:List UInt8):bY×Bool:=cond (jo l) (mj l,true) (⟨0,[],[]⟩,false)
def x9 (q:bY×Bool):AV:=.tu [.ag [.z q.1.aK,.sl 0 q.1.ah.length,.sl 1 q.1.homes.length],.d (.v (.bool q.2))]
def xm (q:bY×Bool):List ai:=[.rw 71 2 (ah q.1.ah),.rw 3 1 (ints q.1.homes)]
theorem oA {l:List UInt8} (h:jo l=false):mJ l=(⟨0,[],[]⟩,false):=by unfold mJ;rw [h];rfl
theorem uU {l:List UInt8} (h:jo l=true):mJ l=(mj l,true):=by unfold mJ;rw [h];rfl
theorem AW {l:List UInt8} (h:(aM 32 l).length<3):jo l=false:=by unfold jo;rw [decide_eq_false (by omega)];rfl
theorem AX {l:List UInt8} (h:(bL (aM 32 l,true)==[119,111,114,108,100])=false):jo l=false:=by unfold jo;rw [h,Bool.and_false];rfl
theorem oM {l:List UInt8} {i:Nat} {s:qZ} (hi:(dO l).length≤i) (h:((dO l).take i).foldl kb ([],[],false,(aH (cC l) 255).2)=s):mI l=s:=by rw [List.take_of_length_le hi] at h;exact h
theorem sx {l:List UInt8} {L:List (Int×Int)} {H:List Int} {b g:Bool} (e:mI l=(L,H,b,g)) (h:((g&&b)&&bT ⟨jP (cC l),L,H⟩)=false):jo l=false:=by unfold jo mj;rw [e];simp only [h,Bool.and_false]
theorem vD {l:List UInt8} {L:List (Int×Int)} {H:List Int} (e:mI l=(L,H,true,true)) (h3:3≤(aM 32 l).length) (hw:(bL (aM 32 l,true)==[119,111,114,108,100])=true) (h:bT ⟨jP (cC l),L,H⟩=true):jo l=true:=by unfold jo mj;rw [e,hw,decide_eq_true h3];simp only [h];rfl
theorem uc {l:List UInt8} {i:Nat} {x:List UInt8} (h:(dO l)[i]?=some x):(List.drop 2 (strs (aM 32 l)))[i]?=some [.v (.string ⟨x.toArray⟩)]:=by unfold strs;rw [← List.map_drop,List.getElem?_map];unfold dO at h;rw [h];rfl
theorem EY {l:List UInt8} (h:3≤(aM 32 l).length):(strs (aM 32 l))[1]?=some [.v (.string ⟨(cC l).toArray⟩)]:=by
 unfold strs cC;rw [List.getElem?_map,List.getD_eq_getElem?_getD,List.getElem?_eq_getElem (by omega)];rfl
theorem H7 (l:List UInt8):(dO l).length=(aM 32 l).length-2:=by unfold dO;simp
theorem AY {l:List UInt8} {i:Nat} {x:List UInt8} (hl:l.length≤1048576) (h:(dO l)[i]?=some x):x.length≤1048576:=Nat.le_trans (n7 (List.mem_of_mem_drop (List.mem_of_getElem? h))) hl
theorem Jf {l:List UInt8} (hl:l.length≤1048576):(cC l).length≤1048576:=by
 unfold cC;rw [List.getD_eq_getElem?_getD]
 cases h:(aM 32 l)[1]? with
 | none=>exact Nat.zero_le _
 | some x=>exact Nat.le_trans (n7 (List.mem_of_getElem? h)) hl
set_option maxRecDepth 100000 in
theorem sa (x:List UInt8) (g:Bool) (hl:x.length≤1048576):ax Tryd.prog 53 [.d (.v (.string ⟨x.toArray⟩)),.pt 0 0] [.bx 4 [.d (.v (.bool g))]] (.n (aH x 255).1) ([.bx 4 [.d (.v (.bool (g&&(aH x 255).2)))]]):=by
 refine ax.intro (by kernel_rfl) rfl rfl 17 rfl rfl fun D w0 K bs ac wd hK (al:bs.m=1) r=>?_
 cases h0:((aH x 255).2) with
 | false=>
  refine a7 (y:=.n ((aH x 255).1)) (N':=[.bx 4 [.d (.v (.bool ((g&&false))))]]) (rfl) (rfl) ?_
  exact aZ tk mo hK rfl al [(1,[(1,.aP (.tu [.u ((aH x 255).1),.v (.bool false)]))]),(2,[(2,.may g (.n 0)),(3,.res (.v (.bool (g&&false))))]),(3,[(1,.z ((((aH x 255).1:Nat):Int)))])] 2000 [0] r (by kernel_rfl) (U ((by have k:=rI x 255 (by omega) (by omega) (by omega);rw [h0] at k;exact k):ay Tryd.prog 54 [.d (.v (.string ⟨x.toArray⟩)),.d (.v (.int .u64 255))] (.tu [.u ((aH x 255).1),.v (.bool false)])) (U (o8 _:(jD (Value.bool g)==some true)=g) (U (fun hc=>trivial:g=true→True) (U (oJ _ _:∃ b0:Bool,(Value.bool g)=.bool b0∧(bif b0 then (bif g then Value.bool false else undef) else Value.bool false)=.bool (g&&false)) (U ((wi (by have:=uQ x (most:=255) (by omega);omega)):IntKind.i64.wrap ((((aH x 255).1:Nat):Int))=(((aH x 255).1:Nat):Int)) trivial)))))
 | true=>
  refine a7 (y:=.n ((aH x 255).1)) (N':=[.bx 4 [.d (.v (.bool ((g&&true))))]]) (rfl) (rfl) ?_
  exact aZ tk mo hK rfl al [(1,[(1,.aP (.tu [.u ((aH x 255).1),.v (.bool true)]))]),(2,[(2,.may g (.n 0)),(3,.res (.v (.bool (g&&true))))]),(3,[(1,.z ((((aH x 255).1:Nat):Int)))])] 2000 [0] r (by kernel_rfl) (U ((by have k:=rI x 255 (by omega) (by omega) (by omega);rw [h0] at k;exact k):ay Tryd.prog 54 [.d (.v (.string ⟨x.toArray⟩)),.d (.v (.int .u64 255))] (.tu [.u ((aH x 255).1),.v (.bool true)])) (U (o8 _:(jD (Value.bool g)==some true)=g) (U (fun hc=>trivial:g=true→True) (U (oJ _ _:∃ b0:Bool,(Value.bool g)=.bool b0∧(bif b0 then (bif g then Value.bool true else undef) else Value.bool false)=.bool (g&&true)) (U ((wi (by have:=uQ x (most:=255) (by omega);omega)):IntKind.i64.wrap ((((aH x 255).1:Nat):Int))=(((aH x 255).1:Nat):Int)) trivial)))))
set_option maxRecDepth 100000 in
theorem Dg (line:List UInt8) (hl:line.length≤1048576):ax Tryd.prog 31 [.d (.v (.string ⟨line.toArray⟩))] [] (x9 (mJ line)) (xm (mJ line)):=by
 refine ax.intro (by kernel_rfl) rfl rfl 85 rfl rfl fun D w0 K bs ac wd hK (al:bs.m=0) r=>?_
 have aY:=((by first | rfl | (simp [strs];done) | (simp [strs,dO];done) | (simp [strs];omega)):(((strs (aM 32 line)).length:Nat):Int)=(((aM 32 line).length:Nat):Int))
 cases h0:(decide (((((aM 32 line).length:Nat):Int):Int)<3)) with
 | false=>
  have bw:=of_decide_eq_false h0
  have bH:=(zM 32 line:(strs (aM 32 line))[0]?=some [.v (.string ⟨(bL (aM 32 line,true)).toArray⟩)])
  cases h1:((bL (aM 32 line,true))==([119,111,114,108,100]:List UInt8)) with
  | false=>
   refine bN (todo':=aft Tryd.f31 3) (E':=[(2,.pt 0 0),(3,.d (.v (.bool false))),(4,.d (.ro 1 (strs (aM 32 line))))]) (M':=[.bx 25 [.z 0,.d (.v (.slice none 0 0)),.d (.v (.slice none 0 0))]]) tk mo hK al [(1,[(1,.aP (.ro 1 (strs (aM 32 line))))]),(2,[(1,.z ((((aM 32 line).length:Nat):Int))),(2,.b false),(5,.ix (0) [.v (.string ⟨(bL (aM 32 line,true)).toArray⟩)]),(7,.b true)])] 10 [0] [2,3,4] r (by kernel_rfl) (U (rT 32 line hl) (U aY (U h0 (U (rfl:(0)=((0:Nat):Int)) (U bH (U ((by simpa [bne] using h1):((bL (aM 32 line,true)) != ([119,111,114,108,100]:List UInt8))=true) trivial)))))) fun ac wd r=>?_
   have r:=r.fB (E1:=[(2,.pt 0 0),(3,.d (.v (.bool false))),(4,.d (.ro 1 (strs (aM 32 line))))]) (M1:=[.bx 25 [.z 0,.d (.v (.slice none 0 0)),.d (.v (.slice none 0 0))]]) (M2:=[.bx 25 [.z 0,.sl 1 (0),.sl 2 (0)],.rw 71 2 ([]),.rw 3 1 ([])]) [] [(0,1,71,2),(0,2,3,1)] (by kernel_rfl) (by kernel_rfl)
   refine a7 (y:=.tu [.ag [.z 0,.sl 0 (0),.sl 1 (0)],.d (.v (.bool false))]) (N':=[.rw 71 2 ([]),.rw 3 1 ([])]) ((by rw [oA (AX h1)];rfl)) ((by rw [oA (AX h1)];rfl)) ?_
   exact aZ tk mo hK rfl al [] 2000 [1,2] r (by kernel_rfl) trivial
  | true=>
   refine bN (todo':=aft Tryd.f31 7) (E':=[(2,.pt 0 0),(3,.d (.v (.bool false))),(4,.d (.ro 1 (strs (aM 32 line)))),(5,.pt 1 0),(6,.fn 53 [.pt 1 0]),(7,.pt 2 0),(8,.d (.v (.bool false)))]) (M':=[.bx 25 [.z 0,.d (.v (.slice none 0 0)),.d (.v (.slice none 0 0))],.bx 4 [.d (.v (.bool ((true&&(aH (cC line) 255).2))))],.bx 25 [.n ((aH (cC line) 255).1),.d (.v (.slice none 0 0)),.d (.v (.slice none 0 0))]]) tk mo hK al [(1,[(1,.aP (.ro 1 (strs (aM 32 line))))]),(2,[(1,.z ((((aM 32 line).length:Nat):Int))),(2,.b false),(5,.ix (0) [.v (.string ⟨(bL (aM 32 line,true)).toArray⟩)]),(7,.b false)]),(6,[(2,.ix (1) [.v (.string ⟨(cC line).toArray⟩)]),(4,.mem [1] (.n ((aH (cC line) 255).1)) [.bx 4 [.d (.v (.bool ((true&&(aH (cC line) 255).2))))]])])] 17 [0,1,2] [2,3,4,5,6,7,8] r (by kernel_rfl) (U (rT 32 line hl) (U aY (U h0 (U (rfl:(0)=((0:Nat):Int)) (U bH (U ((by simpa [bne] using h1):((bL (aM 32 line,true)) != ([119,111,114,108,100]:List UInt8))=false) (U (rfl:(1)=((1:Nat):Int)) (U (EY (by omega):(strs (aM 32 line))[1]?=some [.v (.string ⟨(cC line).toArray⟩)]) (U (sa (cC line) true (Jf hl)) trivial))))))))) fun ac wd r=>?_
   suffices nP:jo line=false→∀ ac wd,RB D w0 K 85 bs [(2,.pt 0 0),(3,.d (.v (.bool false)))] [.bx 25 [.z 0,.d (.v (.slice none 0 0)),.d (.v (.slice none 0 0))]] ac wd→aC Tryd.prog 31 (aft Tryd.f31 19) (ew D w0 K bs (x9 (mJ line)) (xm (mJ line))) ac wd by
    refine cF (todo':=hd Tryd.f31 0) (E':=[(2,.pt 0 0),(5,.pt 1 0),(6,.fn 53 [.pt 1 0]),(7,.pt 2 0),(8,.d (.v (.bool false))),(34,.d (.ro 1 (List.drop (2) (strs (aM 32 line))))),(35,.n ((dO line).length)),(36,.z 0)]) (M':=[.bx 25 [.z 0,.d (.v (.slice none 0 0)),.d (.v (.slice none 0 0))],.bx 4 [.d (.v (.bool ((true&&(aH (cC line) 255).2))))],.bx 25 [.n ((aH (cC line) 255).1),.d (.v (.slice none 0 0)),.d (.v (.slice none 0 0))]]) tk mo hK al [(8,[(1,.n2 (0) (2)),(2,.z ((((dO line).length:Nat):Int)))])] 2000 [0,1,2] [2,5,6,7,8,34,35,36] r (by kernel_rfl) (U (rfl:(2:Int)=((2:Nat):Int)) (U ((by have:=gp 32 line;simp [strs];omega):(2)≤(strs (aM 32 line):List (List DV)).length) (U ((by first | rfl | (simp [strs];done) | (simp [strs,dO];done) | (simp [strs];omega)):(((List.drop (2) (strs (aM 32 line))).length:Nat):Int)=(((dO line).length:Nat):Int)) trivial))) fun ac wd r=>?_
    refine aC.rounds (Φ:=fun (i:Nat) ac wd=>∃ L:List (Int×Int),∃ H:List Int,∃ bh:Bool,∃ g:Bool,(i≤(dO line).length∧((dO line).take i).foldl kb ([],[],false,(aH (cC line) 255).2)=(L,H,bh,g)∧L.length≤i∧H.length≤i)∧RB D w0 K 85 bs [(2,.pt 0 0),(5,.pt 1 0),(6,.fn 53 [.pt 1 0]),(7,.pt 2 0),(8,.d (.v (.bool bh))),(34,.d (.ro 1 (List.drop 2 (strs (aM 32 line))))),(35,.n ((dO line).length)),(36,.n i)] [.bx 25 [.z 0,.d (.v (.slice none 0 0)),.d (.v (.slice none 0 0))],.bx 4 [.d (.v (.bool g))],.bx 25 [.n ((aH (cC line) 255).1),.sl 3 (L.length),.sl 4 (H.length)],.rw 71 2 (ah L),.rw 3 1 (ints H)] ac wd) ((dO line).length) ?_ (Nat.zero_le _) ⟨[],[],false,(aH (cC line) 255).2,⟨Nat.zero_le _,rfl,Nat.le_refl _,Nat.le_refl _⟩,(r.fB (E1:=[(2,.pt 0 0),(5,.pt 1 0),(6,.fn 53 [.pt 1 0]),(7,.pt 2 0),(8,.d (.v (.bool false))),(34,.d (.ro 1 (List.drop (2) (strs (aM 32 line))))),(35,.n ((dO line).length)),(36,.z 0)]) (M2:=[.bx 25 [.z 0,.d (.v (.slice none 0 0)),.d (.v (.slice none 0 0))],.bx 4 [.d (.v (.bool ((true&&(aH (cC line) 255).2))))],.bx 25 [.n ((aH (cC line) 255).1),.sl 3 (0),.sl 4 (0)],.rw 71 2 ([]),.rw 3 1 ([])]) (M1:=[.bx 25 [.z 0,.d (.v (.slice none 0 0)),.d (.v (.slice none 0 0))],.bx 4 [.d (.v (.bool ((true&&(aH (cC line) 255).2))))],.bx 25 [.n ((aH (cC line) 255).1),.d (.v (.slice none 0 0)),.d (.v (.slice none 0 0))]]) [] [(2,1,71,2),(2,2,3,1)] (by kernel_rfl) (by kernel_rfl)).cast rfl rfl⟩
    clear r
    rintro i e7 b6 ac wd ⟨L,H,bh,g,aq,r⟩
    have N0:=H7 line
    have dE:=gp 32 line
    have CC:=List.count_le_length (a:=(32:UInt8)) (l:=line)
    have CY:L.length≤9223372036854775807:=by omega
    have CZ:H.length≤9223372036854775807:=by omega
    cases bh with
    | false=>
     cases h2:(decide ((((i:Nat):Int):Int)<(((dO line).length:Nat):Int))) with
     | false=>
      have dG:=of_decide_eq_false h2
      cases h3:(g) with
      | false=>
       refine bN (todo':=aft Tryd.f31 19) (E':=[(2,.pt 0 0),(3,.d (.v (.bool false)))]) (M':=[.bx 25 [.z 0,.d (.v (.slice none 0 0)),.d (.v (.slice none 0 0))]]) tk mo hK al [(9,[(0,.b false)]),(18,[(1,.b true)])] 11 [0] [2,3] r (by kernel_rfl) (U h2 (U ((by rw [h3];rfl):(!(g))=true) trivial)) fun ac wd r=>?_
       exact nP (sx (oM (by omega) aq.2.1) (by simp [h3])) ac wd (r.cast rfl rfl)
      | true=>
       refine bN (todo':=aft Tryd.f31 19) (E':=[(2,.pt 0 0),(3,.d (.v (.bool false)))]) (M':=[.bx 25 [.z 0,.d (.v (.slice none 0 0)),.d (.v (.slice none 0 0))]]) tk mo hK al [(9,[(0,.b false)]),(18,[(1,.b false)])] 11 [0] [2,3] r (by kernel_rfl) (U h2 (U ((by rw [h3];rfl):(!(g))=false) trivial)) fun ac wd r=>?_
       exact nP (sx (oM (by omega) aq.2.1) (by simp [h3])) ac wd (r.cast rfl rfl)
     | true=>
      have dG:=of_decide_eq_true h2
      obtain ⟨ct,kG⟩:∃ x_,(dO line)[i]?=some x_:=⟨_,List.getElem?_eq_getElem (by omega)⟩
      have C0:=AY hl kG
      cases h4:(ct==([58]:List UInt8)) with
      | false=>
       exact cF (todo':=hd Tryd.f31 0) (E':=[(2,.pt 0 0),(5,.pt 1 0),(6,.fn 53 [.pt 1 0]),(7,.pt 2 0),(8,.d (.v (.bool false))),(34,.d (.ro 1 (List.drop 2 (strs (aM 32 line))))),(35,.n ((dO line).length)),(36,.n (i+1))]) (M':=[.bx 25 [.z 0,.d (.v (.slice none 0 0)),.d (.v (.slice none 0 0))],.bx 4 [.d (.v (.bool (((g&&(aH ((cJ ct).1) 255).2)&&(aH ((cJ ct).2) 255).2))))],.bx 25 [.n ((aH (cC line) 255).1),.sl 3 (L.length+(1)),.sl 4 (H.length)],.rw 71 2 (ah L++[[.n ((aH ((cJ ct).1) 255).1),.n ((aH ((cJ ct).2) 255).1)]]),.rw 3 1 (ints H)]) tk mo hK al [(9,[(0,.b true)]),(10,[(0,.ix (i) [.v (.string ⟨ct.toArray⟩)])]),(11,[(1,.aP (.tu [.v (.string ⟨((cJ ct).1).toArray⟩),.v (.string ⟨((cJ ct).2).toArray⟩),.v (.bool (decide (0<ct.count 45)))]))]),(12,[(4,.mem [1] (.n ((aH ((cJ ct).1) 255).1)) [.bx 4 [.d (.v (.bool ((g&&(aH ((cJ ct).1) 255).2))))]]),(7,.mem [1] (.n ((aH ((cJ ct).2) 255).1)) [.bx 4 [.d (.v (.bool (((g&&(aH ((cJ ct).1) 255).2)&&(aH ((cJ ct).2) 255).2))))]])]),(15,[(1,.b false)]),(17,[(0,.z (((i+1:Nat):Int)))])] 2000 [0,1,2,3,4] [2,5,6,7,8,34,35,36] r (by kernel_rfl) (U h2 (U (aN ((i:Nat):Int)) (U (uc kG) (U h4 (U (Je ct C0) (U (sa ((cJ ct).1) g (by have:=uT ct;omega)) (U (sa ((cJ ct).2) (g&&(aH ((cJ ct).1) 255).2) (by have:=uT ct;omega)) (U ((by first | rfl | (simp [ah,ints];done) | (simp [ah,ints];omega)):(L.length)=(ah L:List (List DV)).length) (U ((by first | rfl | (simp [ah,ints];done) | (simp [ah,ints];omega)):(1)=([[.n ((aH ((cJ ct).1) 255).1),.n ((aH ((cJ ct).2) 255).1)]]:List (List DV)).length) (U ((by first | omega | (simp [ah,ints];done) | (simp [ah,ints];omega)):(2*((L.length)+(1))+192)*16≤281474976710656) (U ((by first | omega | (simp [ah,ints];done) | (simp [ah,ints];omega)):(L.length)+(1)<4611686018427387904) (U ((by simp [bf,AV.one,bS,af,ah,ints,steps,strs]):bf ([[.n ((aH ((cJ ct).1) 255).1),.n ((aH ((cJ ct).2) 255).1)]])) (U ((wi (by omega)):IntKind.i64.wrap ((((i:Nat):Int):Int)+1)=((i+1:Nat):Int)) trivial))))))))))))) fun ac wd r=>b6 (by omega) ac wd ⟨(L++[((((aH (cJ ct).1 255).1:Nat):Int),(((aH (cJ ct).2 255).1:Nat):Int))]),H,false,((g&&(aH (cJ ct).1 255).2)&&(aH (cJ ct).2 255).2),⟨by omega,uS kG aq.2.1 (MJ h4),by simp;omega,by omega⟩,r.cast rfl (by simp [ah,ints])⟩
      | true=>
       exact cF (todo':=hd Tryd.f31 0) (E':=[(2,.pt 0 0),(5,.pt 1 0),(6,.fn 53 [.pt 1 0]),(7,.pt 2 0),(8,.d (.v (.bool true))),(34,.d (.ro 1 (List.drop 2 (strs (aM 32 line))))),(35,.n ((dO line).length)),(36,.n (i+1))]) (M':=[.bx 25 [.z 0,.d (.v (.slice none 0 0)),.d (.v (.slice none 0 0))],.bx 4 [.d (.v (.bool g))],.bx 25 [.n ((aH (cC line) 255).1),.sl 3 (L.length),.sl 4 (H.length)],.rw 71 2 (ah L),.rw 3 1 (ints H)]) tk mo hK al [(9,[(0,.b true)]),(10,[(0,.ix (i) [.v (.string ⟨ct.toArray⟩)])]),(15,[(1,.b true)]),(17,[(0,.z (((i+1:Nat):Int)))])] 2000 [0,1,2,3,4] [2,5,6,7,8,34,35,36] r (by kernel_rfl) (U h2 (U (aN ((i:Nat):Int)) (U (uc kG) (U h4 (U ((wi (by omega)):IntKind.i64.wrap ((((i:Nat):Int):Int)+1)=((i+1:Nat):Int)) trivial))))) fun ac wd r=>b6 (by omega) ac wd ⟨L,H,true,g,⟨by omega,uS kG aq.2.1 (MI h4),by omega,by omega⟩,r.cast rfl (by simp [ah,ints])⟩
    | true=>
     cases h5:(decide ((((i:Nat):Int):Int)<(((dO line).length:Nat):Int))) with
     | false=>
      have fy:=of_decide_eq_false h5
      cases h6:(g) with
      | false=>
       refine bN (todo':=aft Tryd.f31 19) (E':=[(2,.pt 0 0),(3,.d (.v (.bool false)))]) (M':=[.bx 25 [.z 0,.d (.v (.slice none 0 0)),.d (.v (.slice none 0 0))]]) tk mo hK al [(9,[(0,.b false)]),(18,[(1,.b true)])] 11 [0] [2,3] r (by kernel_rfl) (U h5 (U ((by rw [h6];rfl):(!(g))=true) trivial)) fun ac wd r=>?_
       exact nP (sx (oM (by omega) aq.2.1) (by simp [h6])) ac wd (r.cast rfl rfl)
      | true=>
       cases h7:(bT ⟨jP (cC line),L,H⟩) with
       | false=>
        refine bN (todo':=aft Tryd.f31 19) (E':=[(2,.pt 0 0),(3,.d (.v (.bool false)))]) (M':=[.bx 25 [.z 0,.d (.v (.slice none 0 0)),.d (.v (.slice none 0 0))]]) tk mo hK al [(9,[(0,.b false)]),(18,[(1,.b false),(8,.call [.ag [.n ((aH (cC line) 255).1),.d (.ro 2 (ah L)),.d (.ro 1 (ints H))]] (.v (.bool false)))])] 11 [0] [2,3] r (by kernel_rfl) (U h5 (U ((by rw [h6];rfl):(!(g))=false) (U ((by have k:=oK ⟨jP (cC line),L,H⟩ CY CZ;rw [h7] at k;exact k):ay Tryd.prog 13 [.ag [.n ((aH (cC line) 255).1),.d (.ro 2 (ah L)),.d (.ro 1 (ints H))]] (.v (.bool false))) (U ((fX _):e6 (.v (.bool false))) (U (iA (.n ((aH (cC line) 255).1))) (U (dW (2)) (U ((by first | rfl | (simp [ah,ints];done) | (simp [ah,ints];omega)):(L.length)=(ah L:List (List DV)).length) (U ((by first | exact gS _ | exact gT _):b9 (ah L)=ah L) (U (dW (1)) (U ((by first | rfl | (simp [ah,ints];done) | (simp [ah,ints];omega)):(H.length)=(ints H).length) (U ((by first | exact gS _ | exact gT _):b9 (ints H)=ints H) trivial))))))))))) fun ac wd r=>?_
        exact nP (sx (oM (by omega) aq.2.1) (by simp [h6,h7])) ac wd (r.cast rfl rfl)
       | true=>
        refine a7 (y:=.tu [.ag [.n ((aH (cC line) 255).1),.sl 0 (L.length),.sl 1 (H.length)],.d (.v (.bool true))]) (N':=[.rw 71 2 (ah L),.rw 3 1 (ints H)]) ((by have e:=oM (by omega) aq.2.1;rw [h6] at e;rw [uU (vD e (by omega) h1 h7)];unfold x9 mj;rw [e]<;>rfl)) ((by have e:=oM (by omega) aq.2.1;rw [h6] at e;rw [uU (vD e (by omega) h1 h7)];unfold xm mj;rw [e]<;>rfl)) ?_
        exact aZ tk mo hK rfl al [(9,[(0,.b false)]),(18,[(1,.b false),(8,.call [.ag [.n ((aH (cC line) 255).1),.d (.ro 2 (ah L)),.d (.ro 1 (ints H))]] (.v (.bool true)))])] 2000 [3,4] r (by kernel_rfl) (U h5 (U ((by rw [h6];rfl):(!(g))=false) (U ((by have k:=oK ⟨jP (cC line),L,H⟩ CY CZ;rw [h7] at k;exact k):ay Tryd.prog 13 [.ag [.n ((aH (cC line) 255).1),.d (.ro 2 (ah L)),.d (.ro 1 (ints H))]] (.v (.bool true))) (U ((fX _):e6 (.v (.bool true))) (U (iA (.n ((aH (cC line) 255).1))) (U (dW (2)) (U ((by first | rfl | (simp [ah,ints];done) | (simp [ah,ints];omega)):(L.length)=(ah L:List (List DV)).length) (U ((by first | exact gS _ | exact gT _):b9 (ah L)=ah L) (U (dW (1)) (U ((by first | rfl | (simp [ah,ints];done) | (simp [ah,ints];omega)):(H.length)=(ints H).length) (U ((by first | exact gS _ | exact gT _):b9 (ints H)=ints H) trivial)))))))))))
     | true=>
      have fy:=of_decide_eq_true h5
      obtain ⟨ct,kG⟩:∃ x_,(dO line)[i]?=some x_:=⟨_,List.getElem?_eq_getElem (by omega)⟩
      have C0:=AY hl kG
      exact cF (todo':=hd Tryd.f31 0) (E':=[(2,.pt 0 0),(5,.pt 1 0),(6,.fn 53 [.pt 1 0]),(7,.pt 2 0),(8,.d (.v (.bool true))),(34,.d (.ro 1 (List.drop 2 (strs (aM 32 line))))),(35,.n ((dO line).length)),(36,.n (i+1))]) (M':=[.bx 25 [.z 0,.d (.v (.slice none 0 0)),.d (.v (.slice none 0 0))],.bx 4 [.d (.v (.bool ((g&&(aH ct 255).2))))],.bx 25 [.n ((aH (cC line) 255).1),.sl 3 (L.length),.sl 4 (H.length+(1))],.rw 71 2 (ah L),.rw 3 1 (ints H++[[.n ((aH ct 255).1)]])]) tk mo hK al [(9,[(0,.b true)]),(10,[(0,.ix (i) [.v (.string ⟨ct.toArray⟩)])]),(14,[(4,.mem [1] (.n ((aH ct 255).1)) [.bx 4 [.d (.v (.bool ((g&&(aH ct 255).2))))]])]),(17,[(0,.z (((i+1:Nat):Int)))])] 2000 [0,1,2,3,4] [2,5,6,7,8,34,35,36] r (by kernel_rfl) (U h5 (U (aN ((i:Nat):Int)) (U (uc kG) (U (sa ct g (by have:=uT ct;omega)) (U ((by first | rfl | (simp [ah,ints];done) | (simp [ah,ints];omega)):(H.length)=(ints H).length) (U ((by first | rfl | (simp [ah,ints];done) | (simp [ah,ints];omega)):(1)=([[.n ((aH ct 255).1)]]:List (List DV)).length) (U ((by first | omega | (simp [ah,ints];done) | (simp [ah,ints];omega)):(2*((H.length)+(1))+192)*8≤281474976710656) (U ((by first | omega | (simp [ah,ints];done) | (simp [ah,ints];omega)):(H.length)+(1)<4611686018427387904) (U ((by simp [bf,AV.one,bS,af,ah,ints,steps,strs]):bf ([[.n ((aH ct 255).1)]])) (U ((wi (by omega)):IntKind.i64.wrap ((((i:Nat):Int):Int)+1)=((i+1:Nat):Int)) trivial)))))))))) fun ac wd r=>b6 (by omega) ac wd ⟨L,(H++[(((aH ct 255).1:Nat):Int)]),true,(g&&(aH ct 255).2),⟨by omega,uS kG aq.2.1 (MH L H g ct),by omega,by simp;omega⟩,r.cast rfl (by simp [ah,ints])⟩
   intro hJ ac wd r
   have r:=r.fB (E1:=[(2,.pt 0 0),(3,.d (.v (.bool false)))]) (M1:=[.bx 25 [.z 0,.d (.v (.slice none 0 0)),.d (.v (.slice none 0 0))]]) (M2:=[.bx 25 [.z 0,.sl 1 (0),.sl 2 (0)],.rw 71 2 ([]),.rw 3 1 ([])]) [] [(0,1,71,2),(0,2,3,1)] (by kernel_rfl) (by kernel_rfl)
   refine a7 (y:=.tu [.ag [.z 0,.sl 0 (0),.sl 1 (0)],.d (.v (.bool false))]) (N':=[.rw 71 2 ([]),.rw 3 1 ([])]) ((by rw [oA hJ];rfl)) ((by rw [oA hJ];rfl)) ?_
   exact aZ tk mo hK rfl al [] 2000 [1,2] r (by kernel_rfl) trivial
 | true=>
  have bw:=of_decide_eq_true h0
  refine bN (todo':=aft Tryd.f31 3) (E':=[(2,.pt 0 0),(3,.d (.v (.bool false))),(4,.d (.ro 1 (strs (aM 32 line))))]) (M':=[.bx 25 [.z 0,.d (.v (.slice none 0 0)),.d (.v (.slice none 0 0))]]) tk mo hK al [(1,[(1,.aP (.ro 1 (strs (aM 32 line))))]),(2,[(1,.z ((((aM 32 line).length:Nat):Int))),(2,.b true)])] 10 [0] [2,3,4] r (by kernel_rfl) (U (rT 32 line hl) (U aY (U h0 trivial))) fun ac wd r=>?_
  have r:=r.fB (E1:=[(2,.pt 0 0),(3,.d (.v (.bool false))),(4,.d (.ro 1 (strs (aM 32 line))))]) (M1:=[.bx 25 [.z 0,.d (.v (.slice none 0 0)),.d (.v (.slice none 0 0))]]) (M2:=[.bx 25 [.z 0,.sl 1 (0),.sl 2 (0)],.rw 71 2 ([]),.rw 3 1 ([])]) [] [(0,1,71,2),(0,2,3,1)] (by kernel_rfl) (by kernel_rfl)
  refine a7 (y:=.tu [.ag [.z 0,.sl 0 (0),.sl 1 (0)],.d (.v (.bool false))]) (N':=[.rw 71 2 ([]),.rw 3 1 ([])]) ((by rw [oA (AW (by omega))];rfl)) ((by rw [oA (AW (by omega))];rfl)) ?_
  exact aZ tk mo hK rfl al [] 2000 [1,2] r (by kernel_rfl) trivial
end Go.Proofs.YtcnpikbbmbombaaDoor
namespace Go.Proofs.YtcnpikbbmbombaaDoor
open Go.RowKit
theorem ML:ax Tryd.prog 31 [.d (.v (.string ⟨([119,111,114,108,100,32,49,32,58,32,49]:List UInt8).toArray⟩))] [] (.tu [.ag [.z 1,.sl 0 0,.sl 1 1],.d (.v (.bool true))]) [.rw 71 2 (ah []),.rw 3 1 (ints [1])]:=by
 have hM:bT ⟨1,[],[1]⟩=true:=wA ⟨by decide,fun i x h=>by simp at h,fun i k x o h=>by simp at h,fun i x h=>by
  cases i with
  | zero=>simp at h;subst h;exact ⟨by decide,by decide⟩
  | succ i=>simp at h⟩
 have h:=Dg [119,111,114,108,100,32,49,32,58,32,49] (by decide)
 have e:mI [119,111,114,108,100,32,49,32,58,32,49]=([],[1],true,true):=by kernel_rfl
 rw [uU (vD e (by decide) (by decide) (by rw [show jP (cC [119,111,114,108,100,32,49,32,58,32,49])=1 by kernel_rfl];exact hM))] at h
 unfold mj at h
 rw [e,show jP (cC [119,111,114,108,100,32,49,32,58,32,49])=1 by kernel_rfl] at h;exact h
theorem MM:ax Tryd.prog 32 [.d (.v (.string ⟨([116,105,99,107,32,48]:List UInt8).toArray⟩))] [.gw 0 aj] (.tu [.ag [.z 1,.z 0,.z 0,.z 0,.z 0,.u 0,.sl 1 0],.d (.v (.bool true))]) [.gw 0 aj,.rw 5 1 []]:=by
 have h:=tr [116,105,99,107,32,48] (by decide)
 rw [show jY [116,105,99,107,32,48]=(⟨1,0,0,0,0,0,[]⟩,true) by kernel_rfl] at h;exact h
theorem MN:ax Tryd.prog 32 [.d (.v (.string ⟨([106,111,105,110,32,50]:List UInt8).toArray⟩))] [.gw 0 aj] (.tu [.ag [.z 12,.z 2,.z 0,.z 0,.z 0,.u 0,.sl 1 0],.d (.v (.bool true))]) [.gw 0 aj,.rw 5 1 []]:=by
 have h:=tr [106,111,105,110,32,50] (by decide)
 rw [show jY [106,111,105,110,32,50]=(⟨12,2,0,0,0,0,[]⟩,true) by kernel_rfl] at h;exact h
theorem MO:ax Tryd.prog 32 [.d (.v (.string ⟨([115,101,110,100,32,50,32,54,56,54,57]:List UInt8).toArray⟩))] [.gw 0 aj] (.tu [.ag [.z 10,.z 2,.z 0,.z 0,.z 0,.u 0,.sl 1 2],.d (.v (.bool true))]) [.gw 0 aj,.rw 5 1 (af [104,105])]:=by
 have h:=tr [115,101,110,100,32,50,32,54,56,54,57] (by decide)
 rw [show jY [115,101,110,100,32,50,32,54,56,54,57]=(⟨10,2,0,0,0,0,[104,105]⟩,true) by kernel_rfl] at h;exact h
theorem Jg:ay Tryd.prog 51 [.d (.v (.string ⟨([119,111,114,108,100,32,49,32,58,32,49,10,116,105,99,107,32,48,10,106,111,105,110,32,50,10,115,101,110,100,32,50,32,54,56,54,57,10]:List UInt8).toArray⟩)),.d (.v (.string ⟨[10].toArray⟩))] (.tu [.v (.string ⟨([119,111,114,108,100,32,49,32,58,32,49]:List UInt8).toArray⟩),.v (.string ⟨([116,105,99,107,32,48,10,106,111,105,110,32,50,10,115,101,110,100,32,50,32,54,56,54,57,10]:List UInt8).toArray⟩),.v (.bool true)]):=by
 have h:=pT 10 [119,111,114,108,100,32,49,32,58,32,49,10,116,105,99,107,32,48,10,106,111,105,110,32,50,10,115,101,110,100,32,50,32,54,56,54,57,10] (by decide) (by decide)
 rw [show bF 10 [119,111,114,108,100,32,49,32,58,32,49,10,116,105,99,107,32,48,10,106,111,105,110,32,50,10,115,101,110,100,32,50,32,54,56,54,57,10]=[119,111,114,108,100,32,49,32,58,32,49] from by decide,show eY 10 [119,111,114,108,100,32,49,32,58,32,49,10,116,105,99,107,32,48,10,106,111,105,110,32,50,10,115,101,110,100,32,50,32,54,56,54,57,10]=[116,105,99,107,32,48,10,106,111,105,110,32,50,10,115,101,110,100,32,50,32,54,56,54,57,10] from by decide] at h;exact h
theorem Jh:ay Tryd.prog 51 [.d (.v (.string ⟨([116,105,99,107,32,48,10,106,111,105,110,32,50,10,115,101,110,100,32,50,32,54,56,54,57,10]:List UInt8).toArray⟩)),.d (.v (.string ⟨[10].toArray⟩))] (.tu [.v (.string ⟨([116,105,99,107,32,48]:List UInt8).toArray⟩),.v (.string ⟨([106,111,105,110,32,50,10,115,101,110,100,32,50,32,54,56,54,57,10]:List UInt8).toArray⟩),.v (.bool true)]):=by
 have h:=pT 10 [116,105,99,107,32,48,10,106,111,105,110,32,50,10,115,101,110,100,32,50,32,54,56,54,57,10] (by decide) (by decide)
 rw [show bF 10 [116,105,99,107,32,48,10,106,111,105,110,32,50,10,115,101,110,100,32,50,32,54,56,54,57,10]=[116,105,99,107,32,48] from by decide,show eY 10 [116,105,99,107,32,48,10,106,111,105,110,32,50,10,115,101,110,100,32,50,32,54,56,54,57,10]=[106,111,105,110,32,50,10,115,101,110,100,32,50,32,54,56,54,57,10] from by decide] at h;exact h
theorem Ji:ay Tryd.prog 51 [.d (.v (.string ⟨([106,111,105,110,32,50,10,115,101,110,100,32,50,32,54,56,54,57,10]:List UInt8).toArray⟩)),.d (.v (.string ⟨[10].toArray⟩))] (.tu [.v (.string ⟨([106,111,105,110,32,50]:List UInt8).toArray⟩),.v (.string ⟨([115,101,110,100,32,50,32,54,56,54,57,10]:List UInt8).toArray⟩),.v (.bool true)]):=by
 have h:=pT 10 [106,111,105,110,32,50,10,115,101,110,100,32,50,32,54,56,54,57,10] (by decide) (by decide)
 rw [show bF 10 [106,111,105,110,32,50,10,115,101,110,100,32,50,32,54,56,54,57,10]=[106,111,105,110,32,50] from by decide,show eY 10 [106,111,105,110,32,50,10,115,101,110,100,32,50,32,54,56,54,57,10]=[115,101,110,100,32,50,32,54,56,54,57,10] from by decide] at h;exact h
theorem Jj:ay Tryd.prog 51 [.d (.v (.string ⟨([115,101,110,100,32,50,32,54,56,54,57,10]:List UInt8).toArray⟩)),.d (.v (.string ⟨[10].toArray⟩))] (.tu [.v (.string ⟨([115,101,110,100,32,50,32,54,56,54,57]:List UInt8).toArray⟩),.v (.string ⟨([]:List UInt8).toArray⟩),.v (.bool true)]):=by
 have h:=pT 10 [115,101,110,100,32,50,32,54,56,54,57,10] (by decide) (by decide)
 rw [show bF 10 [115,101,110,100,32,50,32,54,56,54,57,10]=[115,101,110,100,32,50,32,54,56,54,57] from by decide,show eY 10 [115,101,110,100,32,50,32,54,56,54,57,10]=[] from by decide] at h;exact h
end Go.Proofs.YtcnpikbbmbombaaDoor
namespace Go.Proofs.YtcnpikbbmbombaaDoor
open Go.RowKit
set_option maxRecDepth 100000 in
theorem H8 :ax Tryd.prog 50 [.yl 7,.pt 0 0] [.bx 9 [.d (.v (.string ⟨([119,111,114,108,100,32,49,32,58,32,49,10,116,105,99,107,32,48,10,106,111,105,110,32,50,10,115,101,110,100,32,50,32,54,56,54,57,10]).toArray⟩))],.gw 0 aj,.bx 25 [.z 0,.d (.v (.slice none 0 0)),.d (.v (.slice none 0 0))],.bx 26 [.d (.v (.slice none 0 0))],.bx 23 [.d (.v (.slice none 0 0))],.bx 30 [.z 0],.bx 4 [.d (.v (.bool false))],.lp .ready 12 61 [(2,.pt 2 0),(3,.pt 3 0),(4,.pt 4 0),(5,.pt 5 0),(6,.pt 6 0)] (lq Tryd.f12 0)] (.tu []) ([.bx 9 [.d (.v (.string ⟨([]).toArray⟩))],.gw 0 aj,.bx 25 [.z 1,.sl 8 (0),.sl 9 (1)],.bx 26 [.sl 10 (3)],.bx 23 [.d (.v (.slice none 0 0))],.bx 30 [.z 0],.bx 4 [.d (.v (.bool true))],.lp .ready 12 61 [(2,.pt 2 0),(3,.pt 3 0),(4,.pt 4 0),(5,.pt 5 0),(6,.pt 6 0)] (lq Tryd.f12 0),.rw 71 2 (ah []),.rw 3 1 (ints [1]),.rw 45 7 (cr [⟨1,0,0,0,0,0,[]⟩,⟨12,2,0,0,0,0,[]⟩,⟨10,2,0,0,0,0,[104,105]⟩])]):=by
 refine ax.intro (by kernel_rfl) rfl rfl 23 rfl rfl fun D w0 K bs ac wd hK (al:bs.m=8) r=>?_
 refine cF (todo':=hd Tryd.f50 0) (E':=[(0,.yl 7),(1,.pt 0 0),(3,.z 1)]) (M':=[.bx 9 [.d (.v (.string ⟨([119,111,114,108,100,32,49,32,58,32,49,10,116,105,99,107,32,48,10,106,111,105,110,32,50,10,115,101,110,100,32,50,32,54,56,54,57,10]).toArray⟩))],.gw 0 aj,.bx 25 [.z 0,.d (.v (.slice none 0 0)),.d (.v (.slice none 0 0))],.bx 26 [.d (.v (.slice none 0 0))],.bx 23 [.d (.v (.slice none 0 0))],.bx 30 [.z 0],.bx 4 [.d (.v (.bool false))],.lp .ready 12 61 [(2,.pt 2 0),(3,.pt 3 0),(4,.pt 4 0),(5,.pt 5 0),(6,.pt 6 0)] (lq Tryd.f12 0)]) tk mo hK al [] 2000 [0,1,2,3,4,5,6,7] [0,1,3] r (by kernel_rfl) trivial fun ac wd r=>?_
 refine cF (todo':=hd Tryd.f50 0) (E':=[(0,.yl 7),(1,.pt 0 0),(3,.z 2),(7,.d (.v (.string ⟨([119,111,114,108,100,32,49,32,58,32,49,10,116,105,99,107,32,48,10,106,111,105,110,32,50,10,115,101,110,100,32,50,32,54,56,54,57,10]).toArray⟩))),(8,.d (.v (.bool true))),(12,.d (.v (.string ⟨([119,111,114,108,100,32,49,32,58,32,49,10,116,105,99,107,32,48,10,106,111,105,110,32,50,10,115,101,110,100,32,50,32,54,56,54,57,10]).toArray⟩))),(13,.tu [.d (.v (.string ⟨([119,111,114,108,100,32,49,32,58,32,49]).toArray⟩)),.d (.v (.string ⟨([116,105,99,107,32,48,10,106,111,105,110,32,50,10,115,101,110,100,32,50,32,54,56,54,57,10]).toArray⟩)),.d (.v (.bool true))]),(11,.tu [.d (.v (.string ⟨([119,111,114,108,100,32,49,32,58,32,49]).toArray⟩)),.d (.v (.string ⟨([116,105,99,107,32,48,10,106,111,105,110,32,50,10,115,101,110,100,32,50,32,54,56,54,57,10]).toArray⟩)),.d (.v (.bool true))]),(14,.d (.v (.string ⟨([119,111,114,108,100,32,49,32,58,32,49]).toArray⟩))),(15,.d (.v (.string ⟨([116,105,99,107,32,48,10,106,111,105,110,32,50,10,115,101,110,100,32,50,32,54,56,54,57,10]).toArray⟩))),(16,.d (.v (.bool true))),(4,.d (.v (.string ⟨([119,111,114,108,100,32,49,32,58,32,49]).toArray⟩))),(5,.d (.v (.string ⟨([116,105,99,107,32,48,10,106,111,105,110,32,50,10,115,101,110,100,32,50,32,54,56,54,57,10]).toArray⟩))),(6,.d (.v (.bool true))),(17,.yl 7),(18,.z 1),(19,.d (.v (.string ⟨([119,111,114,108,100,32,49,32,58,32,49]).toArray⟩))),(20,.d (.v (.bool true))),(21,.d (.v (.bool false))),(22,.d (.v (.string ⟨([116,105,99,107,32,48,10,106,111,105,110,32,50,10,115,101,110,100,32,50,32,54,56,54,57,10]).toArray⟩))),(9,.z 1),(10,.z 2)]) (M':=[.bx 9 [.d (.v (.string ⟨([116,105,99,107,32,48,10,106,111,105,110,32,50,10,115,101,110,100,32,50,32,54,56,54,57,10]).toArray⟩))],.gw 0 aj,.bx 25 [.z 1,.sl 8 (0),.sl 9 (1)],.bx 26 [.d (.v (.slice none 0 0))],.bx 23 [.d (.v (.slice none 0 0))],.bx 30 [.z 0],.bx 4 [.d (.v (.bool true))],.lp .ready 12 61 [(2,.pt 2 0),(3,.pt 3 0),(4,.pt 4 0),(5,.pt 5 0),(6,.pt 6 0)] (lq Tryd.f12 0),.rw 71 2 (ah []),.rw 3 1 (ints [1]),.bx 25 [.z 1,.sl 8 (0),.sl 9 (1)]]) tk mo hK al [(1,[(1,.b true)]),(2,[(1,.z (2))]),(3,[(1,.aP (.tu [.v (.string ⟨([119,111,114,108,100,32,49,32,58,32,49]).toArray⟩),.v (.string ⟨([116,105,99,107,32,48,10,106,111,105,110,32,50,10,115,101,110,100,32,50,32,54,56,54,57,10]).toArray⟩),.v (.bool true)]))]),(4,[(3,.bG 200 [(7,[(1,.b false),(4,.n 0)]),(9,[(1,.mem [] (.tu [.ag [.z 1,.sl 0 (0),.sl 1 (1)],.d (.v (.bool true))]) [.rw 71 2 (ah []),.rw 3 1 (ints [1])])])])])] 2000 [0,1,2,3,4,5,6,7,8,9,10] [0,1,3,7,8,12,13,11,14,15,16,4,5,6,17,18,19,20,21,22,9,10] r (by kernel_rfl) (U ((by first | decide | simp):(([119,111,114,108,100,32,49,32,58,32,49,10,116,105,99,107,32,48,10,106,111,105,110,32,50,10,115,101,110,100,32,50,32,54,56,54,57,10]:List UInt8) != [])=true) (U (Jg) (U ((by first | decide | simp):(([119,111,114,108,100,32,49,32,58,32,49]:List UInt8)==[])=false) (U (rfl:(0:Int)=((0:Nat):Int)) (U (ML) (U ((wi (by omega)):IntKind.i64.wrap ((1:Int)+1)=2) trivial)))))) fun ac wd r=>?_
 refine cF (todo':=hd Tryd.f50 0) (E':=[(0,.yl 7),(1,.pt 0 0),(3,.z 3),(7,.d (.v (.string ⟨([116,105,99,107,32,48,10,106,111,105,110,32,50,10,115,101,110,100,32,50,32,54,56,54,57,10]).toArray⟩))),(8,.d (.v (.bool true))),(12,.d (.v (.string ⟨([116,105,99,107,32,48,10,106,111,105,110,32,50,10,115,101,110,100,32,50,32,54,56,54,57,10]).toArray⟩))),(13,.tu [.d (.v (.string ⟨([116,105,99,107,32,48]).toArray⟩)),.d (.v (.string ⟨([106,111,105,110,32,50,10,115,101,110,100,32,50,32,54,56,54,57,10]).toArray⟩)),.d (.v (.bool true))]),(11,.tu [.d (.v (.string ⟨([116,105,99,107,32,48]).toArray⟩)),.d (.v (.string ⟨([106,111,105,110,32,50,10,115,101,110,100,32,50,32,54,56,54,57,10]).toArray⟩)),.d (.v (.bool true))]),(14,.d (.v (.string ⟨([116,105,99,107,32,48]).toArray⟩))),(15,.d (.v (.string ⟨([106,111,105,110,32,50,10,115,101,110,100,32,50,32,54,56,54,57,10]).toArray⟩))),(16,.d (.v (.bool true))),(4,.d (.v (.string ⟨([116,105,99,107,32,48]).toArray⟩))),(5,.d (.v (.string ⟨([106,111,105,110,32,50,10,115,101,110,100,32,50,32,54,56,54,57,10]).toArray⟩))),(6,.d (.v (.bool true))),(17,.yl 7),(18,.z 2),(19,.d (.v (.string ⟨([116,105,99,107,32,48]).toArray⟩))),(20,.d (.v (.bool true))),(21,.d (.v (.bool false))),(22,.d (.v (.string ⟨([106,111,105,110,32,50,10,115,101,110,100,32,50,32,54,56,54,57,10]).toArray⟩))),(9,.z 2),(10,.z 3)]) (M':=[.bx 9 [.d (.v (.string ⟨([106,111,105,110,32,50,10,115,101,110,100,32,50,32,54,56,54,57,10]).toArray⟩))],.gw 0 aj,.bx 25 [.z 1,.sl 8 (0),.sl 9 (1)],.bx 26 [.sl 14 ((1))],.bx 23 [.d (.v (.slice none 0 0))],.bx 30 [.z 0],.bx 4 [.d (.v (.bool true))],.lp .ready 12 61 [(2,.pt 2 0),(3,.pt 3 0),(4,.pt 4 0),(5,.pt 5 0),(6,.pt 6 0)] (lq Tryd.f12 0),.rw 71 2 (ah []),.rw 3 1 (ints [1]),.bx 25 [.z 1,.sl 8 (0),.sl 9 (1)],.dead,.bx 45 [.z 1,.z 0,.z 0,.z 0,.z 0,.d (.v (.int .u64 0)),.sl 11 (0)],.dead,.rw 45 7 ([[.z 1,.z 0,.z 0,.z 0,.z 0,.v (.int .u64 0),.em 5 1 ([])]])]) tk mo hK al [(1,[(1,.b true)]),(2,[(1,.z (3))]),(3,[(1,.aP (.tu [.v (.string ⟨([116,105,99,107,32,48]).toArray⟩),.v (.string ⟨([106,111,105,110,32,50,10,115,101,110,100,32,50,32,54,56,54,57,10]).toArray⟩),.v (.bool true)]))]),(4,[(3,.bG 200 [(7,[(1,.b false),(4,.n 0)]),(13,[(1,.mem [1] (.tu [.ag [.z 1,.z 0,.z 0,.z 0,.z 0,.d (.v (.int .u64 0)),.sl 1 (0)],.d (.v (.bool true))]) [.gw 0 aj,.rw 5 1 ([])])])])])] 2000 [0,1,2,3,4,5,6,7,8,9,10,11,12,13,14] [0,1,3,7,8,12,13,11,14,15,16,4,5,6,17,18,19,20,21,22,9,10] r (by kernel_rfl) (U ((by first | decide | simp):(([116,105,99,107,32,48,10,106,111,105,110,32,50,10,115,101,110,100,32,50,32,54,56,54,57,10]:List UInt8) != [])=true) (U (Jh) (U ((by first | decide | simp):(([116,105,99,107,32,48]:List UInt8)==[])=false) (U (rfl:(0:Int)=((0:Nat):Int)) (U (MM) (U ((by first | rfl | decide):(0)=([]:List (List DV)).length) (U ((by first | rfl | decide):(1)=([[.z 1,.z 0,.z 0,.z 0,.z 0,.v (.int .u64 0),.em 5 1 ([])]]:List (List DV)).length) (U ((by decide):(2*(0+(1))+192)*72≤281474976710656) (U ((by decide):0+(1)<4611686018427387904) (U ((by simp [bf,AV.one,bS,af]):bf ([[.z 1,.z 0,.z 0,.z 0,.z 0,.v (.int .u64 0),.em 5 1 ([])]])) (U ((wi (by omega)):IntKind.i64.wrap ((2:Int)+1)=3) trivial))))))))))) fun ac wd r=>?_
 refine cF (todo':=hd Tryd.f50 0) (E':=[(0,.yl 7),(1,.pt 0 0),(3,.z 4),(7,.d (.v (.string ⟨([106,111,105,110,32,50,10,115,101,110,100,32,50,32,54,56,54,57,10]).toArray⟩))),(8,.d (.v (.bool true))),(12,.d (.v (.string ⟨([106,111,105,110,32,50,10,115,101,110,100,32,50,32,54,56,54,57,10]).toArray⟩))),(13,.tu [.d (.v (.string ⟨([106,111,105,110,32,50]).toArray⟩)),.d (.v (.string ⟨([115,101,110,100,32,50,32,54,56,54,57,10]).toArray⟩)),.d (.v (.bool true))]),(11,.tu [.d (.v (.string ⟨([106,111,105,110,32,50]).toArray⟩)),.d (.v (.string ⟨([115,101,110,100,32,50,32,54,56,54,57,10]).toArray⟩)),.d (.v (.bool true))]),(14,.d (.v (.string ⟨([106,111,105,110,32,50]).toArray⟩))),(15,.d (.v (.string ⟨([115,101,110,100,32,50,32,54,56,54,57,10]).toArray⟩))),(16,.d (.v (.bool true))),(4,.d (.v (.string ⟨([106,111,105,110,32,50]).toArray⟩))),(5,.d (.v (.string ⟨([115,101,110,100,32,50,32,54,56,54,57,10]).toArray⟩))),(6,.d (.v (.bool true))),(17,.yl 7),(18,.z 3),(19,.d (.v (.string ⟨([106,111,105,110,32,50]).toArray⟩))),(20,.d (.v (.bool true))),(21,.d (.v (.bool false))),(22,.d (.v (.string ⟨([115,101,110,100,32,50,32,54,56,54,57,10]).toArray⟩))),(9,.z 3),(10,.z 4)]) (M':=[.bx 9 [.d (.v (.string ⟨([115,101,110,100,32,50,32,54,56,54,57,10]).toArray⟩))],.gw 0 aj,.bx 25 [.z 1,.sl 8 (0),.sl 9 (1)],.bx 26 [.sl 14 ((1)+(1))],.bx 23 [.d (.v (.slice none 0 0))],.bx 30 [.z 0],.bx 4 [.d (.v (.bool true))],.lp .ready 12 61 [(2,.pt 2 0),(3,.pt 3 0),(4,.pt 4 0),(5,.pt 5 0),(6,.pt 6 0)] (lq Tryd.f12 0),.rw 71 2 (ah []),.rw 3 1 (ints [1]),.bx 25 [.z 1,.sl 8 (0),.sl 9 (1)],.dead,.bx 45 [.z 1,.z 0,.z 0,.z 0,.z 0,.d (.v (.int .u64 0)),.sl 11 (0)],.dead,.rw 45 7 ([[.z 1,.z 0,.z 0,.z 0,.z 0,.v (.int .u64 0),.em 5 1 ([])]]++[[.z 12,.z 2,.z 0,.z 0,.z 0,.v (.int .u64 0),.em 5 1 ([])]]),.dead,.bx 45 [.z 12,.z 2,.z 0,.z 0,.z 0,.d (.v (.int .u64 0)),.sl 15 (0)],.dead]) tk mo hK al [(1,[(1,.b true)]),(2,[(1,.z (4))]),(3,[(1,.aP (.tu [.v (.string ⟨([106,111,105,110,32,50]).toArray⟩),.v (.string ⟨([115,101,110,100,32,50,32,54,56,54,57,10]).toArray⟩),.v (.bool true)]))]),(4,[(3,.bG 200 [(7,[(1,.b false),(4,.n 0)]),(13,[(1,.mem [1] (.tu [.ag [.z 12,.z 2,.z 0,.z 0,.z 0,.d (.v (.int .u64 0)),.sl 1 (0)],.d (.v (.bool true))]) [.gw 0 aj,.rw 5 1 ([])])])])])] 2000 [0,1,2,3,4,5,6,7,8,9,10,11,12,13,14,15,16,17] [0,1,3,7,8,12,13,11,14,15,16,4,5,6,17,18,19,20,21,22,9,10] r (by kernel_rfl) (U ((by first | decide | simp):(([106,111,105,110,32,50,10,115,101,110,100,32,50,32,54,56,54,57,10]:List UInt8) != [])=true) (U (Ji) (U ((by first | decide | simp):(([106,111,105,110,32,50]:List UInt8)==[])=false) (U (rfl:(0:Int)=((0:Nat):Int)) (U (MN) (U ((by first | rfl | decide):(0)=([]:List (List DV)).length) (U ((by first | rfl | decide):((1))=([[.z 1,.z 0,.z 0,.z 0,.z 0,.v (.int .u64 0),.em 5 1 ([])]]:List (List DV)).length) (U ((by first | rfl | decide):(1)=([[.z 12,.z 2,.z 0,.z 0,.z 0,.v (.int .u64 0),.em 5 1 ([])]]:List (List DV)).length) (U ((by decide):(2*(((1))+(1))+192)*72≤281474976710656) (U ((by decide):((1))+(1)<4611686018427387904) (U ((by simp [bf,AV.one,bS,af]):bf ([[.z 12,.z 2,.z 0,.z 0,.z 0,.v (.int .u64 0),.em 5 1 ([])]])) (U ((wi (by omega)):IntKind.i64.wrap ((3:Int)+1)=4) trivial)))))))))))) fun ac wd r=>?_
 refine cF (todo':=hd Tryd.f50 0) (E':=[(0,.yl 7),(1,.pt 0 0),(3,.z 5),(7,.d (.v (.string ⟨([115,101,110,100,32,50,32,54,56,54,57,10]).toArray⟩))),(8,.d (.v (.bool true))),(12,.d (.v (.string ⟨([115,101,110,100,32,50,32,54,56,54,57,10]).toArray⟩))),(13,.tu [.d (.v (.string ⟨([115,101,110,100,32,50,32,54,56,54,57]).toArray⟩)),.d (.v (.string ⟨([]).toArray⟩)),.d (.v (.bool true))]),(11,.tu [.d (.v (.string ⟨([115,101,110,100,32,50,32,54,56,54,57]).toArray⟩)),.d (.v (.string ⟨([]).toArray⟩)),.d (.v (.bool true))]),(14,.d (.v (.string ⟨([115,101,110,100,32,50,32,54,56,54,57]).toArray⟩))),(15,.d (.v (.string ⟨([]).toArray⟩))),(16,.d (.v (.bool true))),(4,.d (.v (.string ⟨([115,101,110,100,32,50,32,54,56,54,57]).toArray⟩))),(5,.d (.v (.string ⟨([]).toArray⟩))),(6,.d (.v (.bool true))),(17,.yl 7),(18,.z 4),(19,.d (.v (.string ⟨([115,101,110,100,32,50,32,54,56,54,57]).toArray⟩))),(20,.d (.v (.bool true))),(21,.d (.v (.bool false))),(22,.d (.v (.string ⟨([]).toArray⟩))),(9,.z 4),(10,.z 5)]) (M':=[.bx 9 [.d (.v (.string ⟨([]).toArray⟩))],.gw 0 aj,.bx 25 [.z 1,.sl 8 (0),.sl 9 (1)],.bx 26 [.sl 14 ((1)+(1)+(1))],.bx 23 [.d (.v (.slice none 0 0))],.bx 30 [.z 0],.bx 4 [.d (.v (.bool true))],.lp .ready 12 61 [(2,.pt 2 0),(3,.pt 3 0),(4,.pt 4 0),(5,.pt 5 0),(6,.pt 6 0)] (lq Tryd.f12 0),.rw 71 2 (ah []),.rw 3 1 (ints [1]),.bx 25 [.z 1,.sl 8 (0),.sl 9 (1)],.dead,.bx 45 [.z 1,.z 0,.z 0,.z 0,.z 0,.d (.v (.int .u64 0)),.sl 11 (0)],.dead,.rw 45 7 ([[.z 1,.z 0,.z 0,.z 0,.z 0,.v (.int .u64 0),.em 5 1 ([])]]++[[.z 12,.z 2,.z 0,.z 0,.z 0,.v (.int .u64 0),.em 5 1 ([])]]++[[.z 10,.z 2,.z 0,.z 0,.z 0,.v (.int .u64 0),.em 5 1 (af [104,105])]]),.dead,.bx 45 [.z 12,.z 2,.z 0,.z 0,.z 0,.d (.v (.int .u64 0)),.sl 15 (0)],.dead,.dead,.bx 45 [.z 10,.z 2,.z 0,.z 0,.z 0,.d (.v (.int .u64 0)),.sl 18 (2)],.dead]) tk mo hK al [(1,[(1,.b true)]),(2,[(1,.z (5))]),(3,[(1,.aP (.tu [.v (.string ⟨([115,101,110,100,32,50,32,54,56,54,57]).toArray⟩),.v (.string ⟨([]).toArray⟩),.v (.bool true)]))]),(4,[(3,.bG 200 [(7,[(1,.b false),(4,.n 0)]),(13,[(1,.mem [1] (.tu [.ag [.z 10,.z 2,.z 0,.z 0,.z 0,.d (.v (.int .u64 0)),.sl 1 (2)],.d (.v (.bool true))]) [.gw 0 aj,.rw 5 1 (af [104,105])])])])])] 2000 [0,1,2,3,4,5,6,7,8,9,10,11,12,13,14,15,16,17,18,19,20] [0,1,3,7,8,12,13,11,14,15,16,4,5,6,17,18,19,20,21,22,9,10] r (by kernel_rfl) (U ((by first | decide | simp):(([115,101,110,100,32,50,32,54,56,54,57,10]:List UInt8) != [])=true) (U (Jj) (U ((by first | decide | simp):(([115,101,110,100,32,50,32,54,56,54,57]:List UInt8)==[])=false) (U (rfl:(0:Int)=((0:Nat):Int)) (U (MO) (U ((by first | rfl | decide):(2)=(af [104,105]).length) (U ((by first | rfl | decide):((1)+(1))=([[.z 1,.z 0,.z 0,.z 0,.z 0,.v (.int .u64 0),.em 5 1 ([])]]++[[.z 12,.z 2,.z 0,.z 0,.z 0,.v (.int .u64 0),.em 5 1 ([])]]:List (List DV)).length) (U ((by first | rfl | decide):(1)=([[.z 10,.z 2,.z 0,.z 0,.z 0,.v (.int .u64 0),.em 5 1 (af [104,105])]]:List (List DV)).length) (U ((by decide):(2*(((1)+(1))+(1))+192)*72≤281474976710656) (U ((by decide):((1)+(1))+(1)<4611686018427387904) (U ((by simp [bf,AV.one,bS,af]):bf ([[.z 10,.z 2,.z 0,.z 0,.z 0,.v (.int .u64 0),.em 5 1 (af [104,105])]])) (U ((wi (by omega)):IntKind.i64.wrap ((4:Int)+1)=5) trivial)))))))))))) fun ac wd r=>?_
 refine a7 (y:=.tu []) (N':=[.bx 9 [.d (.v (.string ⟨([]).toArray⟩))],.gw 0 aj,.bx 25 [.z 1,.sl 8 (0),.sl 9 (1)],.bx 26 [.sl 10 ((1)+(1)+(1))],.bx 23 [.d (.v (.slice none 0 0))],.bx 30 [.z 0],.bx 4 [.d (.v (.bool true))],.lp .ready 12 61 [(2,.pt 2 0),(3,.pt 3 0),(4,.pt 4 0),(5,.pt 5 0),(6,.pt 6 0)] (lq Tryd.f12 0),.rw 71 2 (ah []),.rw 3 1 (ints [1]),.rw 45 7 ([[.z 1,.z 0,.z 0,.z 0,.z 0,.v (.int .u64 0),.em 5 1 ([])]]++[[.z 12,.z 2,.z 0,.z 0,.z 0,.v (.int .u64 0),.em 5 1 ([])]]++[[.z 10,.z 2,.z 0,.z 0,.z 0,.v (.int .u64 0),.em 5 1 (af [104,105])]])]) (rfl) (rfl) ?_
 exact aZ tk mo hK rfl al [(1,[(1,.b false)])] 2000 [0,1,2,3,4,5,6,7,8,9,14] r (by kernel_rfl) (U ((by first | decide | simp):(([]:List UInt8) != [])=false) trivial)
end Go.Proofs.YtcnpikbbmbombaaDoor
namespace Go.Proofs.YtcnpikbbmbombaaDoor
open Go.RowKit
theorem iW.ya {T k:Nat} {rows:List (List DV)} (h:∀ r ∈ rows,∀ c ∈ r,e6 c):iW (.rw T k rows):=fun K K' β u H r=>by
 cases r with | rw hb X F hl hs hr=>exact .rw hb X F hl hs fun i r j c x h1 h2 h3=>h r (List.mem_of_getElem? h1) c (List.mem_of_getElem? h2) _ _ _ _ (hr i r j c x h1 h2 h3)
theorem GA (T k:Nat) (l:List (Int×Int)):iW (.rw T k (ah l)):=iW.ya fun r hr c hc=>by
 obtain ⟨x,-,rfl⟩:=List.mem_map.1 hr
 simp only [List.mem_cons,List.not_mem_nil,or_false] at hc
 rcases hc with rfl | rfl<;>exact fX _
theorem H9 (T k:Nat) (l:List Int):iW (.rw T k (ints l)):=iW.ya fun r hr c hc=>by
 obtain ⟨x,-,rfl⟩:=List.mem_map.1 hr
 simp only [List.mem_cons,List.not_mem_nil,or_false] at hc
 subst hc;exact fX _
theorem GB (T k:Nat) (l:List aJ):iW (.rw T k (cr l)):=iW.ya fun r hr c hc=>by
 obtain ⟨x,-,rfl⟩:=List.mem_map.1 hr
 simp only [aJ.sR,List.mem_cons,List.not_mem_nil,or_false] at hc
 rcases hc with rfl | rfl | rfl | rfl | rfl | rfl | rfl<;>first | exact fX _ | exact y9 _ _
set_option maxRecDepth 100000 in
theorem GC :ax Tryd.prog 12 [.d (.v (.string ⟨([119,111,114,108,100,32,49,32,58,32,49,10,116,105,99,107,32,48,10,106,111,105,110,32,50,10,115,101,110,100,32,50,32,54,56,54,57,10]).toArray⟩))] [.gw 0 aj] (mapA (·+1) (.tu [.ag [.z 1,.sl 4 0,.sl 5 1],.sl 6 3,.d (.v (.slice none 0 0)),.z 0])) (.gw 0 aj::List.map (eu (·+1)) ([.bx 25 [.z 1,.sl 4 0,.sl 5 1],.bx 26 [.sl 6 3],.bx 23 [.d (.v (.slice none 0 0))],.bx 30 [.z 0],.rw 71 2 (ah []),.rw 3 1 (ints [1]),.rw 45 7 (cr [⟨1,0,0,0,0,0,[]⟩,⟨12,2,0,0,0,0,[]⟩,⟨10,2,0,0,0,0,[104,105]⟩])])):=by
 refine ax.II (by kernel_rfl) rfl rfl 61 rfl rfl fun w0 K ac hK r=>?_
 have r:=r.mark
 refine Hx (todo':=KW Tryd.f12 0) (E2:=[(2,.pt 1 0),(3,.pt 2 0),(4,.pt 3 0),(5,.pt 4 0),(6,.pt 5 0)]) (M2:=[.gw 0 aj,.bx 25 [.z 1,.sl 6 (0),.sl 7 (1)],.bx 26 [.sl 8 (3)],.bx 23 [.d (.v (.slice none 0 0))],.bx 30 [.z 0],.bx 4 [.d (.v (.bool true))],.rw 71 2 (ah []),.rw 3 1 (ints [1]),.rw 45 7 (cr [⟨1,0,0,0,0,0,[]⟩,⟨12,2,0,0,0,0,[]⟩,⟨10,2,0,0,0,0,[104,105]⟩])]) tk mo hK rfl [(1,[(1,.z (38))]),(4,[(1,.bG 200 [])])] 15 [6,0,1,2,3,4,5] [2,3,4,5,6] (.tu []) [.bx 9 [.d (.v (.string ⟨([]).toArray⟩))],.gw 0 aj,.bx 25 [.z 1,.sl 8 (0),.sl 9 (1)],.bx 26 [.sl 10 (3)],.bx 23 [.d (.v (.slice none 0 0))],.bx 30 [.z 0],.bx 4 [.d (.v (.bool true))],.lp .ready 12 61 [(2,.pt 2 0),(3,.pt 3 0),(4,.pt 4 0),(5,.pt 5 0),(6,.pt 6 0)] (lq Tryd.f12 0),.rw 71 2 (ah []),.rw 3 1 (ints [1]),.rw 45 7 (cr [⟨1,0,0,0,0,0,[]⟩,⟨12,2,0,0,0,0,[]⟩,⟨10,2,0,0,0,0,[104,105]⟩])] [0,1,2,3,4,5,8,9,10] [2,3,4,5,6] r (by kernel_rfl) (U H8 (U ((by decide):((([119,111,114,108,100,32,49,32,58,32,49,10,116,105,99,107,32,48,10,106,111,105,110,32,50,10,115,101,110,100,32,50,32,54,56,54,57,10]:List UInt8).length:Nat):Int)=38) trivial)) fun ac wd r=>?_
 refine ow (E':=[(2,.pt 0 0),(3,.pt 1 0),(4,.pt 2 0),(5,.pt 3 0)]) (M':=[.bx 25 [.z 1,.sl 4 (0),.sl 5 (1)],.bx 26 [.sl 6 (3)],.bx 23 [.d (.v (.slice none 0 0))],.bx 30 [.z 0],.rw 71 2 (ah []),.rw 3 1 (ints [1]),.rw 45 7 (cr [⟨1,0,0,0,0,0,[]⟩,⟨12,2,0,0,0,0,[]⟩,⟨10,2,0,0,0,0,[104,105]⟩])]) tk mo hK rfl [] 2000 [1,2,3,4,6,7,8] [2,3,4,5] r (by kernel_rfl) (by kernel_rfl) trivial ?_ ?_
 ·intro x hx;simp only [List.mem_cons,List.not_mem_nil,or_false] at hx;rcases hx with rfl | rfl | rfl | rfl<;>exact fb.pt _ _
 ·intro x hx;simp only [List.mem_cons,List.not_mem_nil,or_false] at hx;rcases hx with rfl | rfl | rfl | rfl | rfl | rfl | rfl<;>first | exact GA _ _ _ | exact H9 _ _ _ | exact GB _ _ _ | (refine iW.bx fun c hc=>?_;simp only [List.mem_cons,List.not_mem_nil,or_false] at hc;first | (subst hc;first | exact fb.v _ | exact fb.sl _ _) | (rcases hc with rfl | rfl | rfl<;>first | exact fb.v _ | exact fb.sl _ _))
end Go.Proofs.YtcnpikbbmbombaaDoor
namespace Go.Proofs.YtcnpikbbmbombaaDoor
open Go.RowKit
def jq:bY:=⟨1,[],[1]⟩
def cG:List aJ:=[⟨1,0,0,0,0,0,[]⟩,⟨12,2,0,0,0,0,[]⟩,⟨10,2,0,0,0,0,[104,105]⟩]
theorem BL:bT jq=true:=wA ⟨by decide,fun i x h=>by simp [jq] at h,fun i k x o h=>by simp [jq] at h,fun i x h=>by
  cases i with
  | zero=>simp [jq] at h;subst h;exact ⟨by decide,by decide⟩
  | succ i=>simp [jq] at h⟩
theorem BM:dq jq cG=[1,0,1,1,1,0,12,2,10,2,2,104,105]:=by decide
theorem C1:dK jq cG=0:=j8 BL (by decide) (by rw [BM];decide)
theorem B7:∀ s ∈ cG,s.Rd:=by
 intro s hs
 simp only [cG,List.mem_cons,List.not_mem_nil,or_false] at hs
 rcases hs with rfl | rfl | rfl<;>exact ⟨by decide,by decide⟩
theorem Kn:ax Tryd.prog 7 [.ag [.z 1,.d (.ro 2 (ah [])),.d (.ro 1 (ints [1]))],.d (.ro 7 (steps cG))] [.gw 0 aj] (.tu [.sl 1 13,.z 0]) [.gw 0 aj,.rw 5 1 (af [1,0,1,1,1,0,12,2,10,2,2,104,105])]:=by
 have h:=AF jq cG (by decide) (by decide) (by decide) B7 (by rw [C1];rfl)
 rw [BM] at h;exact h
theorem Lg:r7 jq cG=[119,111,114,108,100,32,49,32,58,32,49,10,116,105,99,107,32,48,10,106,111,105,110,32,50,10,115,101,110,100,32,50,32,54,56,54,57,10]:=by
 simp [r7,bc,cu,bQ,cU,cq,oX,jq,cG,ae,lO,bR,Go.Lib.decDigits_one,iP,cX,dr]
theorem Ia:ax Tryd.prog 8 [.ag [.z 1,.d (.ro 2 (ah [])),.d (.ro 1 (ints [1]))],.d (.ro 7 (steps cG))] [.gw 0 aj,.gw 1 aL] (.tu [.d (.v (.string ⟨([119,111,114,108,100,32,49,32,58,32,49,10,116,105,99,107,32,48,10,106,111,105,110,32,50,10,115,101,110,100,32,50,32,54,56,54,57,10]:List UInt8).toArray⟩)),.z 0]) [.gw 0 aj,.gw 1 aL]:=by
 have h:=Gs jq cG (by decide) (by decide) (by decide) B7 (by rw [C1];rfl)
 rw [Lg] at h;exact h
theorem Lh:dT (List.drop 4 [1,0,1,1,1,0,12,2,10,2,2,104,105])=cG:=by
 rw [mL (by decide),show aX ((List.drop 4 ([1,0,1,1,1,0,12,2,10,2,2,104,105]:List UInt8)).take 258)=(⟨1,0,0,0,0,0,[]⟩,2) from by kernel_rfl]
 rw [mL (by decide),show aX (((List.drop 4 ([1,0,1,1,1,0,12,2,10,2,2,104,105]:List UInt8)).drop 2).take 258)=(⟨12,2,0,0,0,0,[]⟩,2) from by kernel_rfl]
 rw [mL (by decide),show aX ((((List.drop 4 ([1,0,1,1,1,0,12,2,10,2,2,104,105]:List UInt8)).drop 2).drop 2).take 258)=(⟨10,2,0,0,0,0,[104,105]⟩,5) from by kernel_rfl]
 rw [show (((List.drop 4 ([1,0,1,1,1,0,12,2,10,2,2,104,105]:List UInt8)).drop 2).drop 2).drop 5=[] from by decide,lK];rfl
theorem Ko:ax Tryd.prog 9 [.d (.ro 1 (af [1,0,1,1,1,0,12,2,10,2,2,104,105]))] [.gw 0 aj] (.tu [.ag [.z 1,.sl 1 0,.sl 2 1],.sl 3 3,.z 0]) [.gw 0 aj,.rw 71 2 (ah []),.rw 3 1 (ints [1]),.rw 45 7 (cr cG)]:=by
 have e1:gC [1,0,1,1,1,0,12,2,10,2,2,104,105]=jq:=by decide
 have h:=vw [1,0,1,1,1,0,12,2,10,2,2,104,105] (by decide) (by decide) (by rw [e1];exact BL)
 rw [show gE [1,0,1,1,1,0,12,2,10,2,2,104,105]=4 from by decide,Lh] at h;exact h
theorem Ib:ax Tryd.prog 12 [.d (.v (.string ⟨([119,111,114,108,100,32,49,32,58,32,49,10,116,105,99,107,32,48,10,106,111,105,110,32,50,10,115,101,110,100,32,50,32,54,56,54,57,10]:List UInt8).toArray⟩))] [.gw 0 aj] (.tu [.ag [.z 1,.sl 5 0,.sl 6 1],.sl 7 3,.d (.v (.slice none 0 0)),.z 0]) [.gw 0 aj,.bx 25 [.z 1,.sl 5 0,.sl 6 1],.bx 26 [.sl 7 3],.bx 23 [.d (.v (.slice none 0 0))],.bx 30 [.z 0],.rw 71 2 (ah []),.rw 3 1 (ints [1]),.rw 45 7 (cr cG)]:=GC
end Go.Proofs.YtcnpikbbmbombaaDoor
namespace Go.Proofs.YtcnpikbbmbombaaDoor
open Go.RowKit
set_option maxRecDepth 100000 in
theorem Jk :ax Tryd.prog 6 [] [.gw 0 aj,.gw 1 aL] (mapA (·+([.gw 0 aj,.gw 1 aL]:List ai).length) (.d (.v (.bool true)))) ([.gw 0 aj,.gw 1 aL]++List.map (eu (·+([.gw 0 aj,.gw 1 aL]:List ai).length)) ([])):=by
 refine ax.Ae (x:=.d (.v (.bool true))) (M':=[]) rfl (by kernel_rfl) rfl rfl 90 rfl rfl fun w0 K ac hK r=>?_
 have r:=r.mark
 refine oV (todo':=aft Tryd.f6 2) (E':=[(0,.d (.v (.bool false))),(1,.pt 3 0),(2,.sl 5 (3))]) (M':=[.gw 0 aj,.gw 1 aL,.rw 3 1 ([[.z 1]]),.bx 25 [.z 1,.d (.v (.slice none 0 0)),.sl 2 (1)],.dead,.rw 45 7 ([[.z 1,.z 0,.z 0,.z 0,.z 0,.v (.int .u64 0),.v (.slice none 0 0)],[.z 12,.z 2,.z 0,.z 0,.z 0,.v (.int .u64 0),.v (.slice none 0 0)],[.z 10,.z 2,.z 0,.z 0,.z 0,.v (.int .u64 0),.ro 1 ([[.v (.int .u8 104)],[.v (.int .u8 105)]])]])]) tk mo hK [] 6 [0,1,2,3,4,5] [0,1,2] r (by kernel_rfl) (U ((by simp):(2)=([[.v (.int .u8 104)],[.v (.int .u8 105)]]:List (List DV)).length) (U ((by simp):0<(2)) trivial)) fun ac wd r=>?_
 have r:=r.fB (E1:=[(0,.d (.v (.bool false))),(1,.pt 3 0),(2,.sl 5 (3))]) (M1:=[.gw 0 aj,.gw 1 aL,.rw 3 1 ([[.z 1]]),.bx 25 [.z 1,.d (.v (.slice none 0 0)),.sl 2 (1)],.dead,.rw 45 7 ([[.z 1,.z 0,.z 0,.z 0,.z 0,.v (.int .u64 0),.v (.slice none 0 0)],[.z 12,.z 2,.z 0,.z 0,.z 0,.v (.int .u64 0),.v (.slice none 0 0)],[.z 10,.z 2,.z 0,.z 0,.z 0,.v (.int .u64 0),.ro 1 ([[.v (.int .u8 104)],[.v (.int .u8 105)]])]])]) (M2:=[.gw 0 aj,.gw 1 aL,.rw 3 1 ([[.z 1]]),.bx 25 [.z 1,.sl 6 (0),.sl 2 (1)],.dead,.rw 45 7 ([[.z 1,.z 0,.z 0,.z 0,.z 0,.v (.int .u64 0),.v (.slice none 0 0)],[.z 12,.z 2,.z 0,.z 0,.z 0,.v (.int .u64 0),.v (.slice none 0 0)],[.z 10,.z 2,.z 0,.z 0,.z 0,.v (.int .u64 0),.ro 1 ([[.v (.int .u8 104)],[.v (.int .u8 105)]])]]),.rw 71 2 ([])]) [] [(3,1,71,2)] (by kernel_rfl) (by kernel_rfl)
 have r:=(r.less (rows':=steps cG) 5 rfl (ku.cons (cS.cons (Le.refl _) (cS.cons (Le.refl _) (cS.cons (Le.refl _) (cS.cons (Le.refl _) (cS.cons (Le.refl _) (cS.cons (Le.refl _) (cS.cons (Le.Bb _) cS.nil))))))) (ku.cons (cS.cons (Le.refl _) (cS.cons (Le.refl _) (cS.cons (Le.refl _) (cS.cons (Le.refl _) (cS.cons (Le.refl _) (cS.cons (Le.refl _) (cS.cons (Le.Bb _) cS.nil))))))) (ku.cons (cS.cons (Le.refl _) (cS.cons (Le.refl _) (cS.cons (Le.refl _) (cS.cons (Le.refl _) (cS.cons (Le.refl _) (cS.cons (Le.refl _) (cS.cons (Le.refl _) cS.nil))))))) ku.nil)))).cast (M':=[.gw 0 aj,.gw 1 aL,.rw 3 1 ([[.z 1]]),.bx 25 [.z 1,.sl 6 (0),.sl 2 (1)],.dead,.rw 45 7 (steps cG),.rw 71 2 ([])]) rfl rfl
 have r:=r.stay (p1:=[(3)=(steps cG:List (List DV)).length]) (p2:=[(0)=([]:List (List DV)).length,(1)=([[.z 1]]:List (List DV)).length]) (E1:=[(0,.d (.v (.bool false))),(1,.pt 3 0),(2,.d (.ro 7 (b9 (steps cG))))]) (M1:=[.gw 0 aj,.gw 1 aL,.rw 3 1 ([[.z 1]]),.bx 25 [.z 1,.sl 6 (0),.sl 2 (1)],.dead,.dead,.rw 71 2 ([])]) (M2:=[.gw 0 aj,.gw 1 aL,.dead,.bx 25 [.z 1,.d (.ro 2 (b9 ([]))),.d (.ro 1 (b9 ([[.z 1]])))],.dead,.dead,.dead]) (E2:=[(0,.d (.v (.bool false))),(1,.pt 3 0),(2,.d (.ro 7 (steps cG)))]) (M3:=[.gw 0 aj,.gw 1 aL,.dead,.bx 25 [.z 1,.d (.ro 2 (ah [])),.d (.ro 1 (ints [1]))],.dead,.dead,.dead]) [2] [(3,1),(3,2)] (by kernel_rfl) (by kernel_rfl) (U ((by first | rfl | decide):(3)=(steps cG:List (List DV)).length) trivial) (U ((by first | rfl | decide):(0)=([]:List (List DV)).length) (U ((by first | rfl | decide):(1)=([[.z 1]]:List (List DV)).length) trivial)) (by rfl) (by rfl)
 refine oV (todo':=aft Tryd.f6 3) (E':=[(0,.d (.v (.bool false))),(1,.pt 3 0),(2,.d (.ro 7 (steps cG))),(3,.sl 7 (13)),(4,.z 0)]) (M':=[.gw 0 aj,.gw 1 aL,.dead,.bx 25 [.z 1,.d (.ro 2 (ah [])),.d (.ro 1 (ints [1]))],.dead,.dead,.dead,.rw 5 1 (af [1,0,1,1,1,0,12,2,10,2,2,104,105])]) tk mo hK [(3,[(2,.mem [0] (.tu [.sl 1 (13),.z 0]) [.gw 0 aj,.rw 5 1 (af [1,0,1,1,1,0,12,2,10,2,2,104,105])])])] 2 [0,1,2,3,4,5,6,7] [0,1,2,3,4] r (by kernel_rfl) (U (Kn) trivial) fun ac wd r=>?_
 have r:=r.stay (p1:=[(13)=(af [1,0,1,1,1,0,12,2,10,2,2,104,105]).length]) (p2:=[]) (E1:=[(0,.d (.v (.bool false))),(1,.pt 3 0),(2,.d (.ro 7 (steps cG))),(3,.d (.ro 1 (b9 (af [1,0,1,1,1,0,12,2,10,2,2,104,105])))),(4,.z 0)]) (M1:=[.gw 0 aj,.gw 1 aL,.dead,.bx 25 [.z 1,.d (.ro 2 (ah [])),.d (.ro 1 (ints [1]))],.dead,.dead,.dead,.dead]) (M2:=[.gw 0 aj,.gw 1 aL,.dead,.bx 25 [.z 1,.d (.ro 2 (ah [])),.d (.ro 1 (ints [1]))],.dead,.dead,.dead,.dead]) (E2:=[(0,.d (.v (.bool false))),(1,.pt 3 0),(2,.d (.ro 7 (steps cG))),(3,.d (.ro 1 (af [1,0,1,1,1,0,12,2,10,2,2,104,105]))),(4,.z 0)]) (M3:=[.gw 0 aj,.gw 1 aL,.dead,.bx 25 [.z 1,.d (.ro 2 (ah [])),.d (.ro 1 (ints [1]))],.dead,.dead,.dead,.dead]) [3] [] (by kernel_rfl) (by kernel_rfl) (U ((by first | rfl | decide):(13)=(af [1,0,1,1,1,0,12,2,10,2,2,104,105]).length) trivial) trivial (by rfl) rfl
 refine ow (E':=[(0,.d (.v (.bool true)))]) (M':=[]) tk mo hK rfl [(4,[(2,.mem [0,1] (.tu [.d (.v (.string ⟨([119,111,114,108,100,32,49,32,58,32,49,10,116,105,99,107,32,48,10,106,111,105,110,32,50,10,115,101,110,100,32,50,32,54,56,54,57,10]).toArray⟩)),.z 0]) [.gw 0 aj,.gw 1 aL])]),(5,[(1,.mem [0] (.tu [.ag [.z 1,.sl 1 (0),.sl 2 (1)],.sl 3 (3),.z 0]) [.gw 0 aj,.rw 71 2 (ah []),.rw 3 1 (ints [1]),.rw 45 7 (cr cG)])]),(6,[(1,.mem [0] (.tu [.ag [.z 1,.sl 5 (0),.sl 6 (1)],.sl 7 (3),.d (.v (.slice none 0 0)),.z 0]) [.gw 0 aj,.bx 25 [.z 1,.sl 5 (0),.sl 6 (1)],.bx 26 [.sl 7 (3)],.bx 23 [.d (.v (.slice none 0 0))],.bx 30 [.z 0],.rw 71 2 (ah []),.rw 3 1 (ints [1]),.rw 45 7 (cr cG)])]),(7,[(4,.res (.v (.string ⟨([1,0,1,1,1,0,12,2,10,2,2,104,105]).toArray⟩))),(5,.b true),(13,.b true),(27,.call [.d (.ro 7 (steps cG)),.d (.ro 7 (steps cG))] (.v (.bool true))),(41,.call [.d (.ro 7 (steps cG)),.d (.ro 7 (steps cG))] (.v (.bool true)))])] 2000 [] [0] r (by kernel_rfl) (by kernel_rfl) (U (Ia) (U (Ko) (U (Ib) (U (rfl:af [1,0,1,1,1,0,12,2,10,2,2,104,105]=af ([1,0,1,1,1,0,12,2,10,2,2,104,105])) (U ((by first | decide | simp):(([1,0,1,1,1,0,12,2,10,2,2,104,105]:List UInt8)==[1,0,1,1,1,0,12,2,10,2,2,104,105])=true) (U ((by first | decide | simp):(([119,111,114,108,100,32,49,32,58,32,49,10,116,105,99,107,32,48,10,106,111,105,110,32,50,10,115,101,110,100,32,50,32,54,56,54,57,10]:List UInt8)==[119,111,114,108,100,32,49,32,58,32,49,10,116,105,99,107,32,48,10,106,111,105,110,32,50,10,115,101,110,100,32,50,32,54,56,54,57,10])=true) (U (tH cG (by decide)) (U ((fX _):e6 (.v (.bool true))) (U (dW (7)) (U ((by first | rfl | decide):(3)=(cr cG:List (List DV)).length) (U ((by rfl):b9 (cr cG)=steps cG) (U (iA (.ro 7 (steps cG))) (U (tH cG (by decide)) (U ((fX _):e6 (.v (.bool true))) (U (dW (7)) (U ((by first | rfl | decide):(3)=(cr cG:List (List DV)).length) (U ((by rfl):b9 (cr cG)=steps cG) (U (iA (.ro 7 (steps cG))) trivial)))))))))))))))))) ?_ ?_
 ·intro x hx;simp only [List.mem_cons,List.not_mem_nil,or_false] at hx;subst hx;exact fb.v _
 ·intro x hx;simp at hx
theorem rX:ax Tryd.prog 6 [] [.gw 0 aj,.gw 1 aL] (.d (.v (.bool true))) [.gw 0 aj,.gw 1 aL]:=Jk
end Go.Proofs.YtcnpikbbmbombaaDoor
namespace Go.Proofs.YtcnpikbbmbombaaDoor
open Go.RowKit
theorem nV (l:List aJ):b9 (cr l)=steps l:=by
 rw [jy];unfold cr steps;rw [List.map_map];apply List.map_congr_left;intro s _
 simp [aJ.sR,aJ.row,dS,ky]
def dc (l:List UInt8):List aJ:=dT (l.drop (gE l))
noncomputable def c7 (l:List UInt8):List UInt8:=dq (gC l) (dc l)
theorem Ic:∀ (n:Nat) (b:List UInt8),b.length≤n→(dT b).length≤n:=by
 intro n
 induction n with
 | zero=>intro b h;obtain rfl:b=[]:=List.eq_nil_of_length_eq_zero (by omega);rw [lK];exact Nat.zero_le _
 | succ n ih=>
  intro b h
  rcases Nat.eq_zero_or_pos b.length with h0 | h0
  ·obtain rfl:=List.eq_nil_of_length_eq_zero h0;rw [lK];exact Nat.zero_le _
  ·have h1:=rR (b.take 258)
   rw [mL h0,List.length_cons]
   have:=ih (b.drop (aX (b.take 258)).2) (by simp;omega)
   omega
theorem Aj (l:List UInt8):(dc l).length≤l.length:=Ic _ _ (by simp)
theorem Kq {l:List UInt8} (hl:l.length≤65536) (hG:gE l≤l.length) (hM:bT (gC l)=true):(c7 l).length≤l.length:=(again hl hG hM).2.len
theorem ud (l:List UInt8):(gC l).ah.length≤255∧(gC l).homes.length≤255:=by
 have h1:=qe l;have h2:=qf l
 exact ⟨by show (gL l (gN l)).length≤_;rw [b7];omega,by show (gH l (gM l)).length≤_;rw [b8];omega⟩
theorem Kr {l:List UInt8} (hl:l.length≤65536) (hG:gE l≤l.length) (hM:bT (gC l)=true):ax Tryd.prog 7 [.ag [.z (gV l 0),.d (.ro 2 (ah (gL l (gN l)))),.d (.ro 1 (ints (gH l (gM l))))],.d (.ro 7 (steps (dc l)))] [.gw 0 aj] (.tu [.sl 1 (c7 l).length,.z 0]) [.gw 0 aj,.rw 5 1 (af (c7 l))]:=by
 have hk:=ud l
 have hs:=Aj l
 have h:=AE (gC l) (dc l) (by omega) (by omega) (by omega) fun s hs=>by
  obtain ⟨h1,h2⟩:=(tI _ (l.drop (gE l)) (Nat.le_refl _)).1 s hs
  exact ⟨by have:=sq h1;omega,by omega⟩
 obtain ⟨e,-⟩:=again hl hG hM
 have e':dK (gC l) (dc l)=0:=e
 rw [zB e',zC e'] at h;exact h
theorem Ks {l:List UInt8} (hl:l.length≤65536) (hG:gE l≤l.length) (hM:bT (gC l)=true):ax Tryd.prog 9 [.d (.ro 1 (af (c7 l)))] [.gw 0 aj] (.tu [.ag [.z (gV l 0),.sl 1 (gN l),.sl 2 (gM l)],.sl 3 (dc l).length,.z 0]) [.gw 0 aj,.rw 71 2 (ah (gL l (gN l))),.rw 3 1 (ints (gH l (gM l))),.rw 45 7 (cr (dc l))]:=by
 obtain ⟨-,hA⟩:=again hl hG hM
 have hc:gC (c7 l)=gC l:=hA.cfg
 have hd:dT ((c7 l).drop (gE (c7 l)))=dc l:=hA.Mv
 have h:=vw (c7 l) (Nat.le_trans hA.len hl) hA.fit (by rw [hc];exact hM)
 have e0:gV (c7 l) 0=gV l 0:=congrArg bY.aK hc
 have e1:gL (c7 l) (gN (c7 l))=gL l (gN l):=congrArg bY.ah hc
 have e2:gH (c7 l) (gM (c7 l))=gH l (gM l):=congrArg bY.homes hc
 have n1:gN (c7 l)=gN l:=by rw [← b7 (c7 l) (gN (c7 l)),e1,b7]
 have n2:gM (c7 l)=gM l:=by rw [← b8 (c7 l) (gM (c7 l)),e2,b8]
 rw [hd,e0,e1,e2,n1,n2] at h;exact h
set_option maxHeartbeats 2000000 in
set_option maxRecDepth 100000 in
theorem GD (l:List UInt8) (hl:l.length≤9223372036854775807):ax Tryd.prog 4 [.d (.ro 1 (af l))] [.gw 0 aj,.gw 1 aL] (mapA (·+([.gw 0 aj,.gw 1 aL]:List ai).length) (.d (.v (.bool true)))) ([.gw 0 aj,.gw 1 aL]++List.map (eu (·+([.gw 0 aj,.gw 1 aL]:List ai).length)) ([])):=by
 refine ax.Ae (x:=.d (.v (.bool true))) (M':=[]) rfl (by kernel_rfl) rfl rfl 76 rfl rfl fun w0 K ac hK r=>?_
 have r:=r.mark
 have aY:=((by first | rfl | (simp [af];done) | (simp [cr];done)):(((af l).length:Nat):Int)=((l.length:Nat):Int))
 cases h0:(decide ((4000:Int)<((l.length:Nat):Int))) with
 | false=>
  have bw:=of_decide_eq_false h0
  cases h1:(decide (gE l≤l.length)) with
  | false=>
   have bW:=of_decide_eq_false h1
   refine oV (todo':=aft Tryd.f4 3) (E':=[(0,.d (.ro 1 (af l))),(2,.d (.v (.bool false))),(3,.pt 2 0),(4,.d (.v (.slice none 0 0))),(5,.z 3)]) (M':=[.gw 0 aj,.gw 1 aL,.bx 25 [.z 0,.d (.v (.slice none 0 0)),.d (.v (.slice none 0 0))]]) tk mo hK [(1,[(1,.z (((l.length:Nat):Int))),(2,.b false)]),(3,[(1,.mem [0] (.tu [.ag [.z 0,.d (.v (.slice none 0 0)),.d (.v (.slice none 0 0))],.d (.v (.slice none 0 0)),.z 3]) [.gw 0 aj])])] 9 [0,1,2] [0,2,3,4,5] r (by kernel_rfl) (U aY (U h0 (U (IX l (by omega) (by have:=of_decide_eq_false h1;omega)) trivial))) fun ac wd r=>?_
   have r:=r.stay (p1:=[]) (p2:=[]) (E1:=[(0,.d (.ro 1 (af l))),(2,.d (.v (.bool false))),(3,.pt 2 0),(4,.d (.v (.slice none 0 0))),(5,.z 3)]) (M1:=[.gw 0 aj,.gw 1 aL,.bx 25 [.z 0,.d (.v (.slice none 0 0)),.d (.v (.slice none 0 0))]]) (M2:=[.gw 0 aj,.gw 1 aL,.bx 25 [.z 0,.d (.v (.slice none 0 0)),.d (.v (.slice none 0 0))]]) (E2:=[(0,.d (.ro 1 (af l))),(2,.d (.v (.bool false))),(3,.pt 2 0),(4,.d (.v (.slice none 0 0))),(5,.z 3)]) (M3:=[.gw 0 aj,.gw 1 aL,.bx 25 [.z 0,.d (.v (.slice none 0 0)),.d (.v (.slice none 0 0))]]) [] [] (by kernel_rfl) (by kernel_rfl) trivial trivial rfl rfl
   refine ow (E':=[(2,.d (.v (.bool true)))]) (M':=[]) tk mo hK rfl [(5,[(13,.mem [0,1] (.d (.v (.bool true))) [.gw 0 aj,.gw 1 aL])])] 2000 [] [2] r (by kernel_rfl) (by kernel_rfl) (U (rX) trivial) ?_ ?_
   ·intro x hx;simp only [List.mem_cons,List.not_mem_nil,or_false] at hx;subst hx;exact fb.v _
   ·intro x hx;simp at hx
  | true=>
   have bW:=of_decide_eq_true h1
   cases h2:(bT (gC l)) with
   | false=>
    refine oV (todo':=aft Tryd.f4 3) (E':=[(0,.d (.ro 1 (af l))),(2,.d (.v (.bool false))),(3,.pt 2 0),(4,.d (.v (.slice none 0 0))),(5,.z 3)]) (M':=[.gw 0 aj,.gw 1 aL,.bx 25 [.z 0,.d (.v (.slice none 0 0)),.d (.v (.slice none 0 0))]]) tk mo hK [(1,[(1,.z (((l.length:Nat):Int))),(2,.b false)]),(3,[(1,.mem [0] (.tu [.ag [.z 0,.d (.v (.slice none 0 0)),.d (.v (.slice none 0 0))],.d (.v (.slice none 0 0)),.z 3]) [.gw 0 aj])])] 9 [0,1,2] [0,2,3,4,5] r (by kernel_rfl) (U aY (U h0 (U (IY l (by omega) (of_decide_eq_true h1) h2) trivial))) fun ac wd r=>?_
    have r:=r.stay (p1:=[]) (p2:=[]) (E1:=[(0,.d (.ro 1 (af l))),(2,.d (.v (.bool false))),(3,.pt 2 0),(4,.d (.v (.slice none 0 0))),(5,.z 3)]) (M1:=[.gw 0 aj,.gw 1 aL,.bx 25 [.z 0,.d (.v (.slice none 0 0)),.d (.v (.slice none 0 0))]]) (M2:=[.gw 0 aj,.gw 1 aL,.bx 25 [.z 0,.d (.v (.slice none 0 0)),.d (.v (.slice none 0 0))]]) (E2:=[(0,.d (.ro 1 (af l))),(2,.d (.v (.bool false))),(3,.pt 2 0),(4,.d (.v (.slice none 0 0))),(5,.z 3)]) (M3:=[.gw 0 aj,.gw 1 aL,.bx 25 [.z 0,.d (.v (.slice none 0 0)),.d (.v (.slice none 0 0))]]) [] [] (by kernel_rfl) (by kernel_rfl) trivial trivial rfl rfl
    refine ow (E':=[(2,.d (.v (.bool true)))]) (M':=[]) tk mo hK rfl [(5,[(13,.mem [0,1] (.d (.v (.bool true))) [.gw 0 aj,.gw 1 aL])])] 2000 [] [2] r (by kernel_rfl) (by kernel_rfl) (U (rX) trivial) ?_ ?_
    ·intro x hx;simp only [List.mem_cons,List.not_mem_nil,or_false] at hx;subst hx;exact fb.v _
    ·intro x hx;simp at hx
   | true=>
    have MP:=Kq (l:=l) (by omega) (of_decide_eq_true ‹decide (gE l≤l.length)=true›) ‹bT (gC l)=true›
    refine oV (todo':=aft Tryd.f4 3) (E':=[(0,.d (.ro 1 (af l))),(2,.d (.v (.bool false))),(3,.pt 5 0),(4,.sl 4 ((dc l).length)),(5,.z 0)]) (M':=[.gw 0 aj,.gw 1 aL,.rw 71 2 (ah (gL l (gN l))),.rw 3 1 (ints (gH l (gM l))),.rw 45 7 (cr (dc l)),.bx 25 [.z (gV l 0),.sl 2 ((gN l)),.sl 3 ((gM l))]]) tk mo hK [(1,[(1,.z (((l.length:Nat):Int))),(2,.b false)]),(3,[(1,.mem [0] (.tu [.ag [.z (gV l 0),.sl 1 ((gN l)),.sl 2 ((gM l))],.sl 3 ((dc l).length),.z 0]) [.gw 0 aj,.rw 71 2 (ah (gL l (gN l))),.rw 3 1 (ints (gH l (gM l))),.rw 45 7 (cr (dc l))])])] 9 [0,1,2,3,4,5] [0,2,3,4,5] r (by kernel_rfl) (U aY (U h0 (U (vw l (by omega) (of_decide_eq_true h1) h2) trivial))) fun ac wd r=>?_
    have r:=r.stay (p1:=[((dc l).length)=(cr (dc l):List (List DV)).length]) (p2:=[((gN l))=(ah (gL l (gN l)):List (List DV)).length,((gM l))=(ints (gH l (gM l))).length]) (E1:=[(0,.d (.ro 1 (af l))),(2,.d (.v (.bool false))),(3,.pt 5 0),(4,.d (.ro 7 (b9 (cr (dc l))))),(5,.z 0)]) (M1:=[.gw 0 aj,.gw 1 aL,.rw 71 2 (ah (gL l (gN l))),.rw 3 1 (ints (gH l (gM l))),.dead,.bx 25 [.z (gV l 0),.sl 2 ((gN l)),.sl 3 ((gM l))]]) (M2:=[.gw 0 aj,.gw 1 aL,.dead,.dead,.dead,.bx 25 [.z (gV l 0),.d (.ro 2 (b9 (ah (gL l (gN l))))),.d (.ro 1 (b9 (ints (gH l (gM l)))))]]) (E2:=[(0,.d (.ro 1 (af l))),(2,.d (.v (.bool false))),(3,.pt 5 0),(4,.d (.ro 7 (steps (dc l)))),(5,.z 0)]) (M3:=[.gw 0 aj,.gw 1 aL,.dead,.dead,.dead,.bx 25 [.z (gV l 0),.d (.ro 2 (ah (gL l (gN l)))),.d (.ro 1 (ints (gH l (gM l))))]]) [4] [(5,1),(5,2)] (by kernel_rfl) (by kernel_rfl) (U ((by first | rfl | (simp [ah,ints,b7,b8,cr];done) | (simp [af];done) | (simp [af];omega)):((dc l).length)=(cr (dc l):List (List DV)).length) trivial) (U ((by first | rfl | (simp [ah,ints,b7,b8,cr];done) | (simp [af];done) | (simp [af];omega)):((gN l))=(ah (gL l (gN l)):List (List DV)).length) (U ((by first | rfl | (simp [ah,ints,b7,b8,cr];done) | (simp [af];done) | (simp [af];omega)):((gM l))=(ints (gH l (gM l))).length) trivial)) (by first | rfl | simp only [gS,gT,nV,ky]) (by first | rfl | simp only [gS,gT,nV,ky])
    refine oV (todo':=aft Tryd.f4 6) (E':=[(0,.d (.ro 1 (af l))),(2,.d (.v (.bool false))),(3,.pt 5 0),(4,.d (.ro 7 (steps (dc l)))),(6,.sl 6 ((c7 l).length)),(7,.z 0)]) (M':=[.gw 0 aj,.gw 1 aL,.dead,.dead,.dead,.bx 25 [.z (gV l 0),.d (.ro 2 (ah (gL l (gN l)))),.d (.ro 1 (ints (gH l (gM l))))],.rw 5 1 (af (c7 l))]) tk mo hK [(6,[(2,.mem [0] (.tu [.sl 1 ((c7 l).length),.z 0]) [.gw 0 aj,.rw 5 1 (af (c7 l))])])] 7 [0,1,2,3,4,5,6] [0,2,3,4,6,7] r (by kernel_rfl) (U (Kr (by omega) (of_decide_eq_true h1) h2) trivial) fun ac wd r=>?_
    have r:=r.stay (p1:=[((c7 l).length)=(af (c7 l)).length]) (p2:=[]) (E1:=[(0,.d (.ro 1 (af l))),(2,.d (.v (.bool false))),(3,.pt 5 0),(4,.d (.ro 7 (steps (dc l)))),(6,.d (.ro 1 (b9 (af (c7 l))))),(7,.z 0)]) (M1:=[.gw 0 aj,.gw 1 aL,.dead,.dead,.dead,.bx 25 [.z (gV l 0),.d (.ro 2 (ah (gL l (gN l)))),.d (.ro 1 (ints (gH l (gM l))))],.dead]) (M2:=[.gw 0 aj,.gw 1 aL,.dead,.dead,.dead,.bx 25 [.z (gV l 0),.d (.ro 2 (ah (gL l (gN l)))),.d (.ro 1 (ints (gH l (gM l))))],.dead]) (E2:=[(0,.d (.ro 1 (af l))),(2,.d (.v (.bool false))),(3,.pt 5 0),(4,.d (.ro 7 (steps (dc l)))),(6,.d (.ro 1 (af (c7 l)))),(7,.z 0)]) (M3:=[.gw 0 aj,.gw 1 aL,.dead,.dead,.dead,.bx 25 [.z (gV l 0),.d (.ro 2 (ah (gL l (gN l)))),.d (.ro 1 (ints (gH l (gM l))))],.dead]) [6] [] (by kernel_rfl) (by kernel_rfl) (U ((by first | rfl | (simp [ah,ints,b7,b8,cr];done) | (simp [af];done) | (simp [af];omega)):((c7 l).length)=(af (c7 l)).length) trivial) trivial (by first | rfl | simp only [gS,gT,nV,ky]) rfl
    have bH:=((by first | rfl | (simp [af];done) | (simp [cr];done)):(((af (c7 l)).length:Nat):Int)=(((c7 l).length:Nat):Int))
    cases h3:(decide (((((c7 l).length:Nat):Int):Int)≤((l.length:Nat):Int))) with
    | false=>
     have dX:=of_decide_eq_false h3
     exact absurd MP (by omega)
    | true=>
     have dX:=of_decide_eq_true h3
     refine ow (E':=[(2,.d (.v (.bool true)))]) (M':=[]) tk mo hK rfl [(7,[(1,.mem [0] (.tu [.ag [.z (gV l 0),.sl 1 ((gN l)),.sl 2 ((gM l))],.sl 3 ((dc l).length),.z 0]) [.gw 0 aj,.rw 71 2 (ah (gL l (gN l))),.rw 3 1 (ints (gH l (gM l))),.rw 45 7 (cr (dc l))])]),(8,[(4,.z ((((c7 l).length:Nat):Int))),(6,.z (((l.length:Nat):Int))),(7,.b true),(16,.call [.ag [.z (gV l 0),.d (.ro 2 (ah (gL l (gN l)))),.d (.ro 1 (ints (gH l (gM l))))],.ag [.z (gV l 0),.d (.ro 2 (ah (gL l (gN l)))),.d (.ro 1 (ints (gH l (gM l))))]] (.v (.bool true))),(21,.call [.d (.ro 7 (steps (dc l))),.d (.ro 7 (steps (dc l)))] (.v (.bool true))),(24,.mem [0,1] (.d (.v (.bool true))) [.gw 0 aj,.gw 1 aL])])] 2000 [] [2] r (by kernel_rfl) (by kernel_rfl) (U (Ks (by omega) (of_decide_eq_true h1) h2) (U bH (U aY (U h3 (U (EL (gC l) (by have:=ud l;omega) (by have:=ud l;omega)) (U ((fX _):e6 (.v (.bool true))) (U (iA (.z (gV l 0))) (U (iA (.ro 2 (ah (gL l (gN l))))) (U (iA (.ro 1 (ints (gH l (gM l))))) (U (iA (.z (gV l 0))) (U (dW (2)) (U ((by first | rfl | (simp [ah,ints,b7,b8,cr];done) | (simp [af];done) | (simp [af];omega)):((gN l))=(ah (gL l (gN l)):List (List DV)).length) (U ((by first | exact gS _ | exact gT _ | exact nV _ | exact ky _):b9 (ah (gL l (gN l)))=ah (gL l (gN l))) (U (dW (1)) (U ((by first | rfl | (simp [ah,ints,b7,b8,cr];done) | (simp [af];done) | (simp [af];omega)):((gM l))=(ints (gH l (gM l))).length) (U ((by first | exact gS _ | exact gT _ | exact nV _ | exact ky _):b9 (ints (gH l (gM l)))=ints (gH l (gM l))) (U (tH (dc l) (by have:=Aj l;omega)) (U ((fX _):e6 (.v (.bool true))) (U (iA (.ro 7 (steps (dc l)))) (U (dW (7)) (U ((by first | rfl | (simp [ah,ints,b7,b8,cr];done) | (simp [af];done) | (simp [af];omega)):((dc l).length)=(cr (dc l):List (List DV)).length) (U ((by first | exact gS _ | exact gT _ | exact nV _ | exact ky _):b9 (cr (dc l))=steps (dc l)) (U (rX) trivial))))))))))))))))))))))) ?_ ?_
     ·intro x hx;simp only [List.mem_cons,List.not_mem_nil,or_false] at hx;subst hx;exact fb.v _
     ·intro x hx;simp at hx
 | true=>
  have bw:=of_decide_eq_true h0
  refine ow (E':=[(2,.d (.v (.bool true)))]) (M':=[]) tk mo hK rfl [(1,[(1,.z (((l.length:Nat):Int))),(2,.b true)]),(2,[(0,.mem [0,1] (.d (.v (.bool true))) [.gw 0 aj,.gw 1 aL])])] 2000 [] [2] r (by kernel_rfl) (by kernel_rfl) (U aY (U h0 (U (rX) trivial))) ?_ ?_
  ·intro x hx;simp only [List.mem_cons,List.not_mem_nil,or_false] at hx;subst hx;exact fb.v _
  ·intro x hx;simp at hx
theorem Ie (l:List UInt8) (hl:l.length≤9223372036854775807):ax Tryd.prog 4 [.d (.ro 1 (af l))] [.gw 0 aj,.gw 1 aL] (.d (.v (.bool true))) [.gw 0 aj,.gw 1 aL]:=GD l hl
end Go.Proofs.YtcnpikbbmbombaaDoor
namespace Go.Proofs.YtcnpikbbmbombaaDoor
open Go.RowKit
open Go.Deep
variable {w:World}
theorem mapM_at {α β:Type} {f:α→Option β}:∀ {l:List α} {r:List β},l.mapM f=some r→∀ (j:Nat) x,l[j]?=some x→∃ y,r[j]?=some y∧f x=some y
 | [],_,_,j,x,hx=>by simp at hx
 | z::l,r,h,j,x,hx=>by
  rw [List.mapM_cons] at h
  obtain ⟨y,h1,h2⟩:=Option.bind_eq_some_iff.1 h
  obtain ⟨ys,h3,h4⟩:=Option.bind_eq_some_iff.1 h2
  obtain rfl:y::ys=r:=Option.some.inj h4
  cases j with
  | zero=>simp at hx;subst hx;exact ⟨y,rfl,h1⟩
  | succ j=>simp at hx;obtain ⟨y',h5,h6⟩:=mapM_at h3 j x hx;exact ⟨y',by simpa using h5,h6⟩
section
variable {P:Program} {t e:TypeId} {cs:List Value} {cap:Nat}
end
instance:Inhabited aJ:=⟨⟨0,0,0,0,0,0,[]⟩⟩
end Go.Proofs.YtcnpikbbmbombaaDoor
namespace Go.Proofs.YtcnpikbbmbombaaDoor
open Go.RowKit
def l3 (F:TypeId→DataW Unit→Option (List Value)) (P:Program) (q4:Nat):List (TypeId×Nat)→List (DataW Unit)→Nat→Option (List Value)
 | [],[],off=>if off=q4 then some [] else none
 | q::L,d::ds,off=>if q.2=off then (F q.1 d).bind fun X=>(l3 F P q4 L ds (off+P.cellsOf q.1)).map fun Y=>X++Y else none
 | _,_,_=>none
def l4 (P:Program):Nat→TypeId→DataW Unit→Option (List Value)
 | 0,_,_=>none
 | _+1,t,.lit l=>match P.underlying t,l with
  | some .bool,.bool b=>some [.bool b]
  | some (.int _),.int k m=>some [.int k m]
  | some .string,.string s=>some [.string ⟨s.toArray⟩]
  | _,_=>none
 | n+1,t,.agg ps=>match P.underlying t with
  | some (.struct fs)=>l3 (l4 P n) P (P.cellsOf t) (fs.toList.map fun f=>(f.type,f.offset)) ps 0
  | some (.array m e)=>l3 (l4 P n) P (P.cellsOf t) ((List.range m).map fun i=>(e,i*P.cellsOf e)) ps 0
  | _=>none
 | _+1,_,_=>none
theorem uf {F:TypeId→DataW Unit→Option (List Value)} {P:Program} {q4:Nat} {cs:List Value} (hl:cs.length=q4):∀ {L:List (TypeId×Nat)} {ds:List (DataW Unit)} {off:Nat} {X:List Value},(∀ (j:Nat) q d,L[j]?=some q→ds[j]?=some d→∀ X,F q.1 d=some X→(cs.drop q.2).take (P.cellsOf q.1)=X)→l3 F P q4 L ds off=some X→cs.drop off=X
 | [],[],off,X,_,h=>by
  unfold l3 at h
  split at h
  ·simp at h;subst h;rename_i e;exact List.drop_of_length_le (by omega)
  ·simp at h
 | q::L,d::ds,off,X,hq,h=>by
  unfold l3 at h
  split at h
  ·rename_i e
   obtain ⟨X0,h0,h1⟩:=Option.bind_eq_some_iff.1 h
   obtain ⟨Y,h2,rfl⟩:=Option.map_eq_some_iff.1 h1
   have a:=hq 0 q d rfl rfl X0 h0
   have b:=uf hl (fun j q' d' g1 g2=>hq (j+1) q' d' (by simpa using g1) (by simpa using g2)) h2
   rw [e] at a
   rw [← a,← b,← List.drop_drop,List.take_append_drop]
  ·simp at h
 | [],_::_,_,_,_,h=>by simp [l3] at h
 | _::_,[],_,_,_,h=>by simp [l3] at h
theorem GF {P:Program} {w:World} {enc:TypeId×Value→Unit} {base:Nat} {sp:Nat→Bool} {held:Bool}:∀ {n fuel:Nat} {t:TypeId} {cs:List Value} {d:DataW Unit} {p:List MemPlace} {X:List Value},DataW.trod enc P w base sp held fuel t cs=some (d,p)→l4 P n t d=some X→cs=X:=by
 intro n
 induction n with
 | zero=>intro fuel t cs d p X _ h;simp [l4] at h
 | succ n ih=>
  intro fuel t cs d p X h hf
  cases fuel with
  | zero=>simp [DataW.trod] at h
  | succ fuel=>
   cases d with
   | lit l=>
    unfold l4 at hf
    split at hf
    ·rename_i ht
     rw [DataW.trod_step] at h;unfold DataW.trodStep at h;simp only [ht] at h
     split at h<;>simp_all
    ·rename_i ht
     rw [DataW.trod_step] at h;unfold DataW.trodStep at h;simp only [ht] at h
     split at h<;>simp_all
    ·rename_i ht
     rw [DataW.trod_step] at h;unfold DataW.trodStep at h;simp only [ht] at h
     split at h<;>try simp_all
     rename_i s _ _ _ _
     obtain ⟨-,rfl,-⟩:=h
     subst hf
     simp
    ·simp at hf
   | agg ps=>
    unfold l4 at hf
    split at hf
    ·rename_i fs ht
     rw [DataW.trod_step] at h;unfold DataW.trodStep at h;simp only [ht] at h
     split at h
     ·rename_i hlen
      obtain ⟨xs,h1,h2⟩:=Option.map_eq_some_iff.1 h
      simp only [Prod.mk.injEq,DataW.agg.injEq] at h2
      obtain ⟨rfl,-⟩:=h2
      have:=uf hlen (fun j q d g1 g2 Y gY=>?_) hf
      ·simpa using this
      ·rw [List.getElem?_map] at g1 g2
       obtain ⟨f,g3,rfl⟩:=Option.map_eq_some_iff.1 g1
       obtain ⟨y,g4,rfl⟩:=Option.map_eq_some_iff.1 g2
       obtain ⟨y',g5,g6⟩:=mapM_at h1 j f g3
       obtain rfl:y'=y:=Option.some.inj (g5.symm.trans g4)
       exact ih (d:=y'.1) (p:=y'.2) g6 gY
     ·simp at h
    ·rename_i m e ht
     rw [DataW.trod_step] at h;unfold DataW.trodStep at h;simp only [ht] at h
     split at h
     ·rename_i hlen
      obtain ⟨xs,h1,h2⟩:=Option.map_eq_some_iff.1 h
      simp only [Prod.mk.injEq,DataW.agg.injEq] at h2
      obtain ⟨rfl,-⟩:=h2
      have:=uf hlen (fun j q d g1 g2 Y gY=>?_) hf
      ·simpa using this
      ·rw [List.getElem?_map] at g1 g2
       obtain ⟨f,g3,rfl⟩:=Option.map_eq_some_iff.1 g1
       obtain ⟨y,g4,rfl⟩:=Option.map_eq_some_iff.1 g2
       obtain ⟨y',g5,g6⟩:=mapM_at h1 j f g3
       obtain rfl:y'=y:=Option.some.inj (g5.symm.trans g4)
       exact ih (d:=y'.1) (p:=y'.2) g6 gY
     ·simp at h
    ·simp at hf
   | _=>simp [l4] at hf
theorem yu {P:Program} {w:World}:∀ {l:List (String×DataW Unit)} {ps:List MemPlace},DataW.LaidVars P w l ps→∀ {n:String} {d:DataW Unit},(n,d) ∈ l→∃ g t cs fuel p,P.globalNamed n=some g∧(P.globals[g]?).map (·.type)=some t∧w.var? P n=some cs∧DataW.trod (fun _=>()) P w 0 (fun _=>true) false fuel t cs.toList=some (d,p)
 | [],_,_,_,_,hm=>by simp at hm
 | (n0,d0)::r,ps,h,n,d,hm=>by
  obtain ⟨g,t,cs,fuel,p,q,e1,e2,e3,e4,hr,rfl⟩:=h
  rcases List.mem_cons.1 hm with e | hm
  ·obtain ⟨rfl,rfl⟩:=Prod.mk.inj e;exact ⟨g,t,cs,fuel,p,e1,e2,e3,e4⟩
  ·exact yu hr hm
def xn:DV→Value
 | .v x=>x
 | _=>.bool false
def B8:DV→Bool
 | .v _=>true
 | _=>false
theorem Ak {P:Program} {w:World} {laid:List (String×DataW Unit)} (h:laidMet P laid w) {n:String} {d:DataW Unit} (hm:(n,d) ∈ laid) {g t:Nat} (k:Nat) {row:List DV} (hg:P.globalNamed n=some g) (ht:(P.globals[g]?).map (·.type)=some t) (hf:l4 P k t d=some (row.map xn)) (hv:row.all B8=true) {u:Nat}:bg (Gr w) [] u (.gw g row) []:=by
 obtain ⟨ps,hl,-⟩:=h
 obtain ⟨g',t',cs,fuel,p,e1,e2,e3,e4⟩:=yu hl hm
 obtain rfl:g=g':=Option.some.inj (hg.symm.trans e1)
 obtain rfl:t=t':=Option.some.inj (ht.symm.trans e2)
 have hX:=GF e4 hf
 refine .gw (row.map xn) (by simp) (fun w' hw j x hx=>hw.sc ?_) fun j c x hc hx=>?_
 ·unfold World.var? at e3
  rw [hg,Option.bind_some] at e3
  split at e3
  ·rename_i bJ t' fr hh
   obtain rfl:=Option.some.inj e3
   rw [← hX] at hx
   have h0:((⟨g,0,none⟩:Addr).add j)=⟨g,j,none⟩:=by simp [Addr.add];omega
   rw [h0]
   simp only [World.cell?,hh]
   simpa using hx
  ·simp at e3
 ·have hb:=List.all_eq_true.1 hv c (List.mem_of_getElem? hc)
  rw [List.getElem?_map,hc] at hx
  cases c<;>simp [B8] at hb
  simp [xn] at hx
  subst hx
  exact .v _
section
variable {w:World} {laid:List (String×DataW Unit)}
theorem Kt:Tryd.prog.globalNamed "caucus/script.shapes"=some 0:=by kernel_rfl
theorem Ku:Tryd.prog.globalNamed "internal/strconv.uint64pow10"=some 1:=by kernel_rfl
end
end Go.Proofs.YtcnpikbbmbombaaDoor
