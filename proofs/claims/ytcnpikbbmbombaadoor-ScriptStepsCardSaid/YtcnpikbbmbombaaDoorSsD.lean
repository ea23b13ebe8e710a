/-
  scriptSteps_card, part 4 of 6: merged by program from the texts that it needs.
-/
import Derived.Test.YtcnpikbbmbombaaDoorSsC
set_option linter.unusedSimpArgs false
set_option linter.unusedVariables false
set_option linter.unnecessarySimpa false
namespace Go.Proofs.YtcnpikbbmbombaaDoor
open Go.RowKit
def eo (i:Nat) (x:Int) (c:UInt8):Int:=IntKind.u64.wrap ((BitVec.ofInt IntKind.u64.bits x ||| BitVec.ofInt IntKind.u64.bits (IntKind.u64.wrap (IntKind.u64.wrap (IntKind.u8.wrap ((BitVec.ofInt IntKind.u8.bits (c.toNat:Int) &&& BitVec.ofInt IntKind.u8.bits 127).toNat:Int))*2 ^ (min (((7*i:Nat):Int)).toNat IntKind.u64.bits)))).toNat:Int)
def dJ:List UInt8→Nat→Int→Int×Nat
 | [],_,_=>(0,0)
 | c::r,i,x=>if i=9∧1<c.toNat then (0,0) else if c.toNat<128 then (if c.toNat=0∧0<i then (0,0) else (eo i x c,i+1)) else dJ r (i+1) (eo i x c)
theorem q9 {l:List UInt8} {i:Nat} {c:UInt8} (h:l[i]?=some c):l.drop i=c::l.drop (i+1):=by
 obtain ⟨aF,rfl⟩:=List.getElem?_eq_some_iff.1 h
 exact List.drop_eq_getElem_cons aF
structure fH (l:List UInt8) (i:Nat) (x:Int):Prop where
 le:i≤l.length
 nine:i≤9∨l.length≤i
 eq:dJ (l.drop i) i x=dJ l 0 0
theorem fH.start (l:List UInt8):fH l 0 0:=⟨Nat.zero_le _,Or.inl (by omega),by rw [List.drop_zero]⟩
section
variable {l:List UInt8} {i:Nat} {x:Int} {c:UInt8}
theorem fH.wide (h:fH l i x) (hc:l[i]?=some c) (h9:i=9) (h1:1<c.toNat):dJ l 0 0=(0,0):=by
 rw [← h.eq,q9 hc];unfold dJ;rw [if_pos ⟨h9,h1⟩]
theorem fH.zero (h:fH l i x) (hc:l[i]?=some c) (h9:¬ (i=9∧1<c.toNat)) (h1:c.toNat=0) (h2:0<i):dJ l 0 0=(0,0):=by
 rw [← h.eq,q9 hc];unfold dJ;rw [if_neg h9,if_pos (by omega),if_pos ⟨h1,h2⟩]
theorem fH.last (h:fH l i x) (hc:l[i]?=some c) (h9:¬ (i=9∧1<c.toNat)) (h1:c.toNat<128) (h2:¬ (c.toNat=0∧0<i)):dJ l 0 0=(eo i x c,i+1):=by
 rw [← h.eq,q9 hc];unfold dJ;rw [if_neg h9,if_pos h1,if_neg h2]
theorem fH.next (h:fH l i x) (hc:l[i]?=some c) (h9:¬ (i=9∧1<c.toNat)) (h1:¬ c.toNat<128):fH l (i+1) (eo i x c) where
 le:=(List.getElem?_eq_some_iff.1 hc).1
 nine:=by
  rcases h.nine with h | h
  ·left;omega
  ·exact absurd (List.getElem?_eq_some_iff.1 hc).1 (by omega)
 eq:=by rw [← h.eq,q9 hc];conv=>rhs;unfold dJ;rw [if_neg h9,if_neg h1]
theorem fH.none (h:fH l i x) (hi:¬ i<l.length):dJ l 0 0=(0,0):=by
 rw [← h.eq,List.drop_of_length_le (by omega)];rfl
theorem fH.i9 (h:fH l i x) (hc:l[i]?=some c):i≤9:=by
 rcases h.nine with h | h
 ·exact h
 ·exact absurd (List.getElem?_eq_some_iff.1 hc).1 (by omega)
end
theorem c8 {p q:Int×Nat} (h:p=q):AV.tu [.d (.v (.int .u64 p.1)),.n p.2]=.tu [.d (.v (.int .u64 q.1)),.n q.2]:=by rw [h]
set_option maxRecDepth 100000 in
theorem HB (l:List UInt8) (n:Nat) (hn:n≤l.length):ax Tryd.prog 65 [.pt 0 0,.n n] [.bx 102 [.d (.ro 1 (af l)),.d (.v (.bool false))]] (.d (.ro 1 (af (l.take n)))) ([.bx 102 [.d (.ro 1 (af (l.drop n))),.d (.v (.bool false))]]):=by
 refine ax.intro (by kernel_rfl) rfl rfl 43 rfl rfl fun D w0 K bs ac wd hK (al:bs.m=1) r=>?_
 cases h0:(decide ((((n:Nat):Int):Int)<0)) with
 | false=>
  have bw:=of_decide_eq_false h0
  have aY:=((by first | rfl | simp [af,ah,ints,steps,strs]):(((af l).length:Nat):Int)=((l.length:Nat):Int))
  cases h1:(decide ((((l.length:Nat):Int):Int)<((n:Nat):Int))) with
  | false=>
   have bW:=of_decide_eq_false h1
   refine a7 (y:=.d (.ro 1 (List.take (n) (af l)))) (N':=[.bx 102 [.d (.ro 1 (List.drop (n) (af l))),.d (.v (.bool false))]]) ((by rw [yp])) ((by rw [yq])) ?_
   exact aZ tk mo hK rfl al [(1,[(6,.b false),(14,.z (((l.length:Nat):Int))),(15,.b false)]),(4,[(6,.n2 (n) (0))]),(5,[(6,.n2 (0) (n))])] 2000 [0] r (by kernel_rfl) (U h0 (U aY (U h1 (U (aN ((n:Nat):Int)) (U (aN ((n:Nat):Int)) (U ((by first | omega | (simp [af,ah,ints,steps,strs];done) | (simp [af,ah,ints,steps,strs];omega)):(n)≤(af l).length) (U (aN ((n:Nat):Int)) (U ((by first | omega | (simp [af,ah,ints,steps,strs];done) | (simp [af,ah,ints,steps,strs];omega)):(n)≤(af l).length) trivial))))))))
  | true=>
   have bW:=of_decide_eq_true h1
   exact absurd bW (by omega)
 | true=>
  have bw:=of_decide_eq_true h0
  exact absurd bw (by omega)
set_option maxRecDepth 100000 in
theorem F9 (l:List UInt8) (n:Nat) (hn:l.length<n):ax Tryd.prog 65 [.pt 0 0,.n n] [.bx 102 [.d (.ro 1 (af l)),.d (.v (.bool false))]] (.d (.v (.slice none 0 0))) ([.bx 102 [.d (.ro 1 (af l)),.d (.v (.bool true))]]):=by
 refine ax.intro (by kernel_rfl) rfl rfl 43 rfl rfl fun D w0 K bs ac wd hK (al:bs.m=1) r=>?_
 cases h0:(decide ((((n:Nat):Int):Int)<0)) with
 | false=>
  have bw:=of_decide_eq_false h0
  have aY:=((by first | rfl | simp [af,ah,ints,steps,strs]):(((af l).length:Nat):Int)=((l.length:Nat):Int))
  cases h1:(decide ((((l.length:Nat):Int):Int)<((n:Nat):Int))) with
  | false=>
   have bW:=of_decide_eq_false h1
   exact absurd bW (by omega)
  | true=>
   have bW:=of_decide_eq_true h1
   refine a7 (y:=.d (.v (.slice none 0 0))) (N':=[.bx 102 [.d (.ro 1 (af l)),.d (.v (.bool true))]]) (rfl) (rfl) ?_
   exact aZ tk mo hK rfl al [(1,[(6,.b false),(14,.z (((l.length:Nat):Int))),(15,.b true)])] 2000 [0] r (by kernel_rfl) (U h0 (U aY (U h1 trivial)))
 | true=>
  have bw:=of_decide_eq_true h0
  exact absurd bw (by omega)
set_option maxRecDepth 100000 in
theorem HC (l:List UInt8) (z:Int) (hz:z<0):ax Tryd.prog 65 [.pt 0 0,.z z] [.bx 102 [.d (.ro 1 (af l)),.d (.v (.bool false))]] (.d (.v (.slice none 0 0))) ([.bx 102 [.d (.ro 1 (af l)),.d (.v (.bool true))]]):=by
 refine ax.intro (by kernel_rfl) rfl rfl 43 rfl rfl fun D w0 K bs ac wd hK (al:bs.m=1) r=>?_
 cases h0:(decide ((z:Int)<0)) with
 | false=>
  have bw:=of_decide_eq_false h0
  exact absurd bw (by omega)
 | true=>
  have bw:=of_decide_eq_true h0
  refine a7 (y:=.d (.v (.slice none 0 0))) (N':=[.bx 102 [.d (.ro 1 (af l)),.d (.v (.bool true))]]) (rfl) (rfl) ?_
  exact aZ tk mo hK rfl al [(1,[(6,.b true)])] 2000 [0] r (by kernel_rfl) (U h0 trivial)
set_option maxRecDepth 100000 in
theorem HD (l:List UInt8) (z:Int):ax Tryd.prog 65 [.pt 0 0,.z z] [.bx 102 [.d (.ro 1 (af l)),.d (.v (.bool true))]] (.d (.v (.slice none 0 0))) ([.bx 102 [.d (.ro 1 (af l)),.d (.v (.bool true))]]):=by
 refine ax.intro (by kernel_rfl) rfl rfl 43 rfl rfl fun D w0 K bs ac wd hK (al:bs.m=1) r=>?_
 refine a7 (y:=.d (.v (.slice none 0 0))) (N':=[.bx 102 [.d (.ro 1 (af l)),.d (.v (.bool true))]]) (rfl) (rfl) ?_
 exact aZ tk mo hK rfl al [] 2000 [0] r (by kernel_rfl) trivial
set_option maxRecDepth 100000 in
theorem IS (l:List UInt8):ax Tryd.prog 64 [.pt 0 0] [.bx 102 [.d (.ro 1 (af l)),.d (.v (.bool true))]] (.tu [.d (.v (.int .u64 0)),.d (.v (.int .i64 0))]) ([.bx 102 [.d (.ro 1 (af l)),.d (.v (.bool true))]]):=by
 refine ax.intro (by kernel_rfl) rfl rfl 47 rfl rfl fun D w0 K bs ac wd hK (al:bs.m=1) r=>?_
 refine a7 (y:=.tu [.d (.v (.int .u64 0)),.z 0]) (N':=[.bx 102 [.d (.ro 1 (af l)),.d (.v (.bool true))]]) (rfl) (rfl) ?_
 exact aZ tk mo hK rfl al [] 2000 [0] r (by kernel_rfl) trivial
set_option maxRecDepth 100000 in
theorem Ka (l:List UInt8):ax Tryd.prog 64 [.pt 0 0] [.bx 102 [.d (.ro 1 (af l)),.d (.v (.bool false))]] (.tu [.d (.v (.int .u64 (dJ l 0 0).1)),.n (dJ l 0 0).2]) ([.bx 102 [.d (.ro 1 (af l)),.d (.v (.bool false))]]):=by
 refine ax.intro (by kernel_rfl) rfl rfl 47 rfl rfl fun D w0 K bs ac wd hK (al:bs.m=1) r=>?_
 refine cF (todo':=hd Tryd.f64 0) (E':=[(14,.d (.ro 1 (af l))),(15,.n l.length),(16,.n 0),(4,.d (.v (.int .u64 (0))))]) (M':=[.bx 102 [.d (.ro 1 (af l)),.d (.v (.bool false))]]) tk mo hK al [(4,[(4,.z (((l.length:Nat):Int)))])] 2000 [0] [14,15,16,4] r (by kernel_rfl) (U ((by first | rfl | simp [af,ah,ints,steps,strs]):(((af l).length:Nat):Int)=((l.length:Nat):Int)) trivial) fun ac wd r=>?_
 refine aC.rounds (Φ:=fun (i:Nat) ac wd=>∃ x:Int,(fH l i x)∧RB D w0 K 47 bs [(14,.d (.ro 1 (af l))),(15,.n l.length),(16,.n i),(4,.d (.v (.int .u64 (x))))] [.bx 102 [.d (.ro 1 (af l)),.d (.v (.bool false))]] ac wd) (l.length) ?_ (Nat.zero_le _) ⟨0,fH.start l,r⟩
 clear r
 rintro i e7 b6 ac wd ⟨x,aq,r⟩
 have NB:=aq.le
 cases h0:(decide ((((i:Nat):Int):Int)<((l.length:Nat):Int))) with
 | false=>
  have bw:=of_decide_eq_false h0
  refine a7 (y:=.tu [.d (.v (.int .u64 0)),.z 0]) (N':=[.bx 102 [.d (.ro 1 (af l)),.d (.v (.bool false))]]) ((by first | exact (c8 (aq.none (by omega))) | exact (c8 (aq.wide cL (by omega) (by omega))) | exact (c8 (aq.zero cL (by rintro ⟨_,_⟩;omega) (by omega) (by omega))) | exact (c8 (aq.last cL (by rintro ⟨_,_⟩;omega) (by omega) (by rintro ⟨_,_⟩;omega))))) (rfl) ?_
  exact aZ tk mo hK rfl al [(5,[(0,.b false)])] 2000 [0] r (by kernel_rfl) (U h0 trivial)
 | true=>
  have bw:=of_decide_eq_true h0
  obtain ⟨bu,cL⟩:∃ x,l[i]?=some x:=⟨_,List.getElem?_eq_getElem (by omega)⟩
  have NC:=aq.i9 cL
  cases h1:((((i:Nat):Int):Int)==9) with
  | false=>
   have bW:=ne_of_beq_false h1
   have aY:=(rfl:IntKind.u8.wrap ((BitVec.ofInt IntKind.u8.bits (((bu.toNat:Nat):Int)) &&& BitVec.ofInt IntKind.u8.bits (127)).toNat:Int)=IntKind.u8.wrap ((BitVec.ofInt IntKind.u8.bits (((bu.toNat:Nat):Int)) &&& BitVec.ofInt IntKind.u8.bits (127)).toNat:Int))
   have bH:=(rfl:IntKind.u64.wrap (IntKind.u8.wrap ((BitVec.ofInt IntKind.u8.bits (((bu.toNat:Nat):Int)) &&& BitVec.ofInt IntKind.u8.bits (127)).toNat:Int))=IntKind.u64.wrap (IntKind.u8.wrap ((BitVec.ofInt IntKind.u8.bits (((bu.toNat:Nat):Int)) &&& BitVec.ofInt IntKind.u8.bits (127)).toNat:Int)))
   have cB:=((wi (by omega)):IntKind.i64.wrap ((7:Int)*((i:Nat):Int))=((7*i:Nat):Int))
   have dH:=(rfl:IntKind.u64.wrap ((IntKind.u64.wrap (IntKind.u8.wrap ((BitVec.ofInt IntKind.u8.bits (((bu.toNat:Nat):Int)) &&& BitVec.ofInt IntKind.u8.bits (127)).toNat:Int)):Int)*2 ^ (min (((7*i:Nat):Int):Int).toNat IntKind.u64.bits))=IntKind.u64.wrap ((IntKind.u64.wrap (IntKind.u8.wrap ((BitVec.ofInt IntKind.u8.bits (((bu.toNat:Nat):Int)) &&& BitVec.ofInt IntKind.u8.bits (127)).toNat:Int)):Int)*2 ^ (min (((7*i:Nat):Int):Int).toNat IntKind.u64.bits)))
   have gP:=(rfl:IntKind.u64.wrap ((BitVec.ofInt IntKind.u64.bits (x) ||| BitVec.ofInt IntKind.u64.bits (IntKind.u64.wrap ((IntKind.u64.wrap (IntKind.u8.wrap ((BitVec.ofInt IntKind.u8.bits (((bu.toNat:Nat):Int)) &&& BitVec.ofInt IntKind.u8.bits (127)).toNat:Int)):Int)*2 ^ (min (((7*i:Nat):Int):Int).toNat IntKind.u64.bits)))).toNat:Int)=eo i x bu)
   cases h2:(decide ((((bu.toNat:Nat):Int):Int)<128)) with
   | false=>
    have dG:=of_decide_eq_false h2
    exact cF (todo':=hd Tryd.f64 0) tk mo hK al [(5,[(0,.b true)]),(6,[(1,.ix (i) [.v (.int .u8 (((bu.toNat:Nat):Int)))])]),(7,[(1,.b false)]),(9,[(2,.z (IntKind.u8.wrap ((BitVec.ofInt IntKind.u8.bits (((bu.toNat:Nat):Int)) &&& BitVec.ofInt IntKind.u8.bits (127)).toNat:Int))),(3,.z (IntKind.u64.wrap (IntKind.u8.wrap ((BitVec.ofInt IntKind.u8.bits (((bu.toNat:Nat):Int)) &&& BitVec.ofInt IntKind.u8.bits (127)).toNat:Int)))),(5,.z (((7*i:Nat):Int))),(6,.z (IntKind.u64.wrap ((IntKind.u64.wrap (IntKind.u8.wrap ((BitVec.ofInt IntKind.u8.bits (((bu.toNat:Nat):Int)) &&& BitVec.ofInt IntKind.u8.bits (127)).toNat:Int)):Int)*2 ^ (min (((7*i:Nat):Int):Int).toNat IntKind.u64.bits)))),(7,.z (eo i x bu))]),(10,[(1,.b false)]),(14,[(0,.z (((i+1:Nat):Int)))])] 2000 [0] [14,15,16,4] r (by kernel_rfl) (U h0 (U (aN ((i:Nat):Int)) (U (j3 cL) (U h1 (U aY (U bH (U cB (U dH (U ((by first | decide | omega):(0:Int)≤((7*i:Nat):Int)) (U gP (U h2 (U ((wi (by omega)):IntKind.i64.wrap ((((i:Nat):Int):Int)+1)=((i+1:Nat):Int)) trivial)))))))))))) fun ac wd r=>b6 (by omega) ac wd ⟨eo i x bu,aq.next cL (by rintro ⟨_,_⟩;omega) (by omega),r⟩
   | true=>
    have dG:=of_decide_eq_true h2
    cases h3:((((bu.toNat:Nat):Int):Int)==0) with
    | false=>
     have dX:=ne_of_beq_false h3
     refine a7 (y:=.tu [.d (.v (.int .u64 (eo i x bu))),.n (i+1)]) (N':=[.bx 102 [.d (.ro 1 (af l)),.d (.v (.bool false))]]) ((by first | exact (c8 (aq.none (by omega))) | exact (c8 (aq.wide cL (by omega) (by omega))) | exact (c8 (aq.zero cL (by rintro ⟨_,_⟩;omega) (by omega) (by omega))) | exact (c8 (aq.last cL (by rintro ⟨_,_⟩;omega) (by omega) (by rintro ⟨_,_⟩;omega))))) (rfl) ?_
     exact aZ tk mo hK rfl al [(5,[(0,.b true)]),(6,[(1,.ix (i) [.v (.int .u8 (((bu.toNat:Nat):Int)))])]),(7,[(1,.b false)]),(9,[(2,.z (IntKind.u8.wrap ((BitVec.ofInt IntKind.u8.bits (((bu.toNat:Nat):Int)) &&& BitVec.ofInt IntKind.u8.bits (127)).toNat:Int))),(3,.z (IntKind.u64.wrap (IntKind.u8.wrap ((BitVec.ofInt IntKind.u8.bits (((bu.toNat:Nat):Int)) &&& BitVec.ofInt IntKind.u8.bits (127)).toNat:Int)))),(5,.z (((7*i:Nat):Int))),(6,.z (IntKind.u64.wrap ((IntKind.u64.wrap (IntKind.u8.wrap ((BitVec.ofInt IntKind.u8.bits (((bu.toNat:Nat):Int)) &&& BitVec.ofInt IntKind.u8.bits (127)).toNat:Int)):Int)*2 ^ (min (((7*i:Nat):Int):Int).toNat IntKind.u64.bits)))),(7,.z (eo i x bu))]),(10,[(1,.b true)]),(11,[(1,.b false)]),(13,[(2,.z (((i+1:Nat):Int)))])] 2000 [0] r (by kernel_rfl) (U h0 (U (aN ((i:Nat):Int)) (U (j3 cL) (U h1 (U aY (U bH (U cB (U dH (U ((by first | decide | omega):(0:Int)≤((7*i:Nat):Int)) (U gP (U h2 (U h3 (U ((wi (by omega)):IntKind.i64.wrap ((((i:Nat):Int):Int)+1)=((i+1:Nat):Int)) trivial)))))))))))))
    | true=>
     have dX:=eq_of_beq h3
     cases h4:(decide ((0:Int)<((i:Nat):Int))) with
     | false=>
      have fx:=of_decide_eq_false h4
      refine a7 (y:=.tu [.d (.v (.int .u64 (eo i x bu))),.n (i+1)]) (N':=[.bx 102 [.d (.ro 1 (af l)),.d (.v (.bool false))]]) ((by first | exact (c8 (aq.none (by omega))) | exact (c8 (aq.wide cL (by omega) (by omega))) | exact (c8 (aq.zero cL (by rintro ⟨_,_⟩;omega) (by omega) (by omega))) | exact (c8 (aq.last cL (by rintro ⟨_,_⟩;omega) (by omega) (by rintro ⟨_,_⟩;omega))))) (rfl) ?_
      exact aZ tk mo hK rfl al [(5,[(0,.b true)]),(6,[(1,.ix (i) [.v (.int .u8 (((bu.toNat:Nat):Int)))])]),(7,[(1,.b false)]),(9,[(2,.z (IntKind.u8.wrap ((BitVec.ofInt IntKind.u8.bits (((bu.toNat:Nat):Int)) &&& BitVec.ofInt IntKind.u8.bits (127)).toNat:Int))),(3,.z (IntKind.u64.wrap (IntKind.u8.wrap ((BitVec.ofInt IntKind.u8.bits (((bu.toNat:Nat):Int)) &&& BitVec.ofInt IntKind.u8.bits (127)).toNat:Int)))),(5,.z (((7*i:Nat):Int))),(6,.z (IntKind.u64.wrap ((IntKind.u64.wrap (IntKind.u8.wrap ((BitVec.ofInt IntKind.u8.bits (((bu.toNat:Nat):Int)) &&& BitVec.ofInt IntKind.u8.bits (127)).toNat:Int)):Int)*2 ^ (min (((7*i:Nat):Int):Int).toNat IntKind.u64.bits)))),(7,.z (eo i x bu))]),(10,[(1,.b true)]),(11,[(1,.b true),(4,.b false)]),(13,[(2,.z (((i+1:Nat):Int)))])] 2000 [0] r (by kernel_rfl) (U h0 (U (aN ((i:Nat):Int)) (U (j3 cL) (U h1 (U aY (U bH (U cB (U dH (U ((by first | decide | omega):(0:Int)≤((7*i:Nat):Int)) (U gP (U h2 (U h3 (U h4 (U ((wi (by omega)):IntKind.i64.wrap ((((i:Nat):Int):Int)+1)=((i+1:Nat):Int)) trivial))))))))))))))
     | true=>
      have fx:=of_decide_eq_true h4
      refine a7 (y:=.tu [.d (.v (.int .u64 0)),.z 0]) (N':=[.bx 102 [.d (.ro 1 (af l)),.d (.v (.bool false))]]) ((by first | exact (c8 (aq.none (by omega))) | exact (c8 (aq.wide cL (by omega) (by omega))) | exact (c8 (aq.zero cL (by rintro ⟨_,_⟩;omega) (by omega) (by omega))) | exact (c8 (aq.last cL (by rintro ⟨_,_⟩;omega) (by omega) (by rintro ⟨_,_⟩;omega))))) (rfl) ?_
      exact aZ tk mo hK rfl al [(5,[(0,.b true)]),(6,[(1,.ix (i) [.v (.int .u8 (((bu.toNat:Nat):Int)))])]),(7,[(1,.b false)]),(9,[(2,.z (IntKind.u8.wrap ((BitVec.ofInt IntKind.u8.bits (((bu.toNat:Nat):Int)) &&& BitVec.ofInt IntKind.u8.bits (127)).toNat:Int))),(3,.z (IntKind.u64.wrap (IntKind.u8.wrap ((BitVec.ofInt IntKind.u8.bits (((bu.toNat:Nat):Int)) &&& BitVec.ofInt IntKind.u8.bits (127)).toNat:Int)))),(5,.z (((7*i:Nat):Int))),(6,.z (IntKind.u64.wrap ((IntKind.u64.wrap (IntKind.u8.wrap ((BitVec.ofInt IntKind.u8.bits (((bu.toNat:Nat):Int)) &&& BitVec.ofInt IntKind.u8.bits (127)).toNat:Int)):Int)*2 ^ (min (((7*i:Nat):Int):Int).toNat IntKind.u64.bits)))),(7,.z (eo i x bu))]),(10,[(1,.b true)]),(11,[(1,.b true),(4,.b true)])] 2000 [0] r (by kernel_rfl) (U h0 (U (aN ((i:Nat):Int)) (U (j3 cL) (U h1 (U aY (U bH (U cB (U dH (U ((by first | decide | omega):(0:Int)≤((7*i:Nat):Int)) (U gP (U h2 (U h3 (U h4 trivial)))))))))))))
  | true=>
   have bW:=eq_of_beq h1
   cases h5:(decide ((1:Int)<((bu.toNat:Nat):Int))) with
   | false=>
    have fy:=of_decide_eq_false h5
    have gQ:=(rfl:IntKind.u8.wrap ((BitVec.ofInt IntKind.u8.bits (((bu.toNat:Nat):Int)) &&& BitVec.ofInt IntKind.u8.bits (127)).toNat:Int)=IntKind.u8.wrap ((BitVec.ofInt IntKind.u8.bits (((bu.toNat:Nat):Int)) &&& BitVec.ofInt IntKind.u8.bits (127)).toNat:Int))
    have eh:=(rfl:IntKind.u64.wrap (IntKind.u8.wrap ((BitVec.ofInt IntKind.u8.bits (((bu.toNat:Nat):Int)) &&& BitVec.ofInt IntKind.u8.bits (127)).toNat:Int))=IntKind.u64.wrap (IntKind.u8.wrap ((BitVec.ofInt IntKind.u8.bits (((bu.toNat:Nat):Int)) &&& BitVec.ofInt IntKind.u8.bits (127)).toNat:Int)))
    have fz:=((wi (by omega)):IntKind.i64.wrap ((7:Int)*((i:Nat):Int))=((7*i:Nat):Int))
    have fO:=(rfl:IntKind.u64.wrap ((IntKind.u64.wrap (IntKind.u8.wrap ((BitVec.ofInt IntKind.u8.bits (((bu.toNat:Nat):Int)) &&& BitVec.ofInt IntKind.u8.bits (127)).toNat:Int)):Int)*2 ^ (min (((7*i:Nat):Int):Int).toNat IntKind.u64.bits))=IntKind.u64.wrap ((IntKind.u64.wrap (IntKind.u8.wrap ((BitVec.ofInt IntKind.u8.bits (((bu.toNat:Nat):Int)) &&& BitVec.ofInt IntKind.u8.bits (127)).toNat:Int)):Int)*2 ^ (min (((7*i:Nat):Int):Int).toNat IntKind.u64.bits)))
    have jx:=(rfl:IntKind.u64.wrap ((BitVec.ofInt IntKind.u64.bits (x) ||| BitVec.ofInt IntKind.u64.bits (IntKind.u64.wrap ((IntKind.u64.wrap (IntKind.u8.wrap ((BitVec.ofInt IntKind.u8.bits (((bu.toNat:Nat):Int)) &&& BitVec.ofInt IntKind.u8.bits (127)).toNat:Int)):Int)*2 ^ (min (((7*i:Nat):Int):Int).toNat IntKind.u64.bits)))).toNat:Int)=eo i x bu)
    cases h6:(decide ((((bu.toNat:Nat):Int):Int)<128)) with
    | false=>
     have jc:=of_decide_eq_false h6
     exact cF (todo':=hd Tryd.f64 0) tk mo hK al [(5,[(0,.b true)]),(6,[(1,.ix (i) [.v (.int .u8 (((bu.toNat:Nat):Int)))])]),(7,[(1,.b true),(4,.b false)]),(9,[(2,.z (IntKind.u8.wrap ((BitVec.ofInt IntKind.u8.bits (((bu.toNat:Nat):Int)) &&& BitVec.ofInt IntKind.u8.bits (127)).toNat:Int))),(3,.z (IntKind.u64.wrap (IntKind.u8.wrap ((BitVec.ofInt IntKind.u8.bits (((bu.toNat:Nat):Int)) &&& BitVec.ofInt IntKind.u8.bits (127)).toNat:Int)))),(5,.z (((7*i:Nat):Int))),(6,.z (IntKind.u64.wrap ((IntKind.u64.wrap (IntKind.u8.wrap ((BitVec.ofInt IntKind.u8.bits (((bu.toNat:Nat):Int)) &&& BitVec.ofInt IntKind.u8.bits (127)).toNat:Int)):Int)*2 ^ (min (((7*i:Nat):Int):Int).toNat IntKind.u64.bits)))),(7,.z (eo i x bu))]),(10,[(1,.b false)]),(14,[(0,.z (((i+1:Nat):Int)))])] 2000 [0] [14,15,16,4] r (by kernel_rfl) (U h0 (U (aN ((i:Nat):Int)) (U (j3 cL) (U h1 (U h5 (U gQ (U eh (U fz (U fO (U ((by first | decide | omega):(0:Int)≤((7*i:Nat):Int)) (U jx (U h6 (U ((wi (by omega)):IntKind.i64.wrap ((((i:Nat):Int):Int)+1)=((i+1:Nat):Int)) trivial))))))))))))) fun ac wd r=>b6 (by omega) ac wd ⟨eo i x bu,aq.next cL (by rintro ⟨_,_⟩;omega) (by omega),r⟩
    | true=>
     have jc:=of_decide_eq_true h6
     cases h7:((((bu.toNat:Nat):Int):Int)==0) with
     | false=>
      have eA:=ne_of_beq_false h7
      refine a7 (y:=.tu [.d (.v (.int .u64 (eo i x bu))),.n (i+1)]) (N':=[.bx 102 [.d (.ro 1 (af l)),.d (.v (.bool false))]]) ((by first | exact (c8 (aq.none (by omega))) | exact (c8 (aq.wide cL (by omega) (by omega))) | exact (c8 (aq.zero cL (by rintro ⟨_,_⟩;omega) (by omega) (by omega))) | exact (c8 (aq.last cL (by rintro ⟨_,_⟩;omega) (by omega) (by rintro ⟨_,_⟩;omega))))) (rfl) ?_
      exact aZ tk mo hK rfl al [(5,[(0,.b true)]),(6,[(1,.ix (i) [.v (.int .u8 (((bu.toNat:Nat):Int)))])]),(7,[(1,.b true),(4,.b false)]),(9,[(2,.z (IntKind.u8.wrap ((BitVec.ofInt IntKind.u8.bits (((bu.toNat:Nat):Int)) &&& BitVec.ofInt IntKind.u8.bits (127)).toNat:Int))),(3,.z (IntKind.u64.wrap (IntKind.u8.wrap ((BitVec.ofInt IntKind.u8.bits (((bu.toNat:Nat):Int)) &&& BitVec.ofInt IntKind.u8.bits (127)).toNat:Int)))),(5,.z (((7*i:Nat):Int))),(6,.z (IntKind.u64.wrap ((IntKind.u64.wrap (IntKind.u8.wrap ((BitVec.ofInt IntKind.u8.bits (((bu.toNat:Nat):Int)) &&& BitVec.ofInt IntKind.u8.bits (127)).toNat:Int)):Int)*2 ^ (min (((7*i:Nat):Int):Int).toNat IntKind.u64.bits)))),(7,.z (eo i x bu))]),(10,[(1,.b true)]),(11,[(1,.b false)]),(13,[(2,.z (((i+1:Nat):Int)))])] 2000 [0] r (by kernel_rfl) (U h0 (U (aN ((i:Nat):Int)) (U (j3 cL) (U h1 (U h5 (U gQ (U eh (U fz (U fO (U ((by first | decide | omega):(0:Int)≤((7*i:Nat):Int)) (U jx (U h6 (U h7 (U ((wi (by omega)):IntKind.i64.wrap ((((i:Nat):Int):Int)+1)=((i+1:Nat):Int)) trivial))))))))))))))
     | true=>
      have eA:=eq_of_beq h7
      cases h8:(decide ((0:Int)<((i:Nat):Int))) with
      | false=>
       have gO:=of_decide_eq_false h8
       refine a7 (y:=.tu [.d (.v (.int .u64 (eo i x bu))),.n (i+1)]) (N':=[.bx 102 [.d (.ro 1 (af l)),.d (.v (.bool false))]]) ((by first | exact (c8 (aq.none (by omega))) | exact (c8 (aq.wide cL (by omega) (by omega))) | exact (c8 (aq.zero cL (by rintro ⟨_,_⟩;omega) (by omega) (by omega))) | exact (c8 (aq.last cL (by rintro ⟨_,_⟩;omega) (by omega) (by rintro ⟨_,_⟩;omega))))) (rfl) ?_
       exact aZ tk mo hK rfl al [(5,[(0,.b true)]),(6,[(1,.ix (i) [.v (.int .u8 (((bu.toNat:Nat):Int)))])]),(7,[(1,.b true),(4,.b false)]),(9,[(2,.z (IntKind.u8.wrap ((BitVec.ofInt IntKind.u8.bits (((bu.toNat:Nat):Int)) &&& BitVec.ofInt IntKind.u8.bits (127)).toNat:Int))),(3,.z (IntKind.u64.wrap (IntKind.u8.wrap ((BitVec.ofInt IntKind.u8.bits (((bu.toNat:Nat):Int)) &&& BitVec.ofInt IntKind.u8.bits (127)).toNat:Int)))),(5,.z (((7*i:Nat):Int))),(6,.z (IntKind.u64.wrap ((IntKind.u64.wrap (IntKind.u8.wrap ((BitVec.ofInt IntKind.u8.bits (((bu.toNat:Nat):Int)) &&& BitVec.ofInt IntKind.u8.bits (127)).toNat:Int)):Int)*2 ^ (min (((7*i:Nat):Int):Int).toNat IntKind.u64.bits)))),(7,.z (eo i x bu))]),(10,[(1,.b true)]),(11,[(1,.b true),(4,.b false)]),(13,[(2,.z (((i+1:Nat):Int)))])] 2000 [0] r (by kernel_rfl) (U h0 (U (aN ((i:Nat):Int)) (U (j3 cL) (U h1 (U h5 (U gQ (U eh (U fz (U fO (U ((by first | decide | omega):(0:Int)≤((7*i:Nat):Int)) (U jx (U h6 (U h7 (U h8 (U ((wi (by omega)):IntKind.i64.wrap ((((i:Nat):Int):Int)+1)=((i+1:Nat):Int)) trivial)))))))))))))))
      | true=>
       have gO:=of_decide_eq_true h8
       refine a7 (y:=.tu [.d (.v (.int .u64 0)),.z 0]) (N':=[.bx 102 [.d (.ro 1 (af l)),.d (.v (.bool false))]]) ((by first | exact (c8 (aq.none (by omega))) | exact (c8 (aq.wide cL (by omega) (by omega))) | exact (c8 (aq.zero cL (by rintro ⟨_,_⟩;omega) (by omega) (by omega))) | exact (c8 (aq.last cL (by rintro ⟨_,_⟩;omega) (by omega) (by rintro ⟨_,_⟩;omega))))) (rfl) ?_
       exact aZ tk mo hK rfl al [(5,[(0,.b true)]),(6,[(1,.ix (i) [.v (.int .u8 (((bu.toNat:Nat):Int)))])]),(7,[(1,.b true),(4,.b false)]),(9,[(2,.z (IntKind.u8.wrap ((BitVec.ofInt IntKind.u8.bits (((bu.toNat:Nat):Int)) &&& BitVec.ofInt IntKind.u8.bits (127)).toNat:Int))),(3,.z (IntKind.u64.wrap (IntKind.u8.wrap ((BitVec.ofInt IntKind.u8.bits (((bu.toNat:Nat):Int)) &&& BitVec.ofInt IntKind.u8.bits (127)).toNat:Int)))),(5,.z (((7*i:Nat):Int))),(6,.z (IntKind.u64.wrap ((IntKind.u64.wrap (IntKind.u8.wrap ((BitVec.ofInt IntKind.u8.bits (((bu.toNat:Nat):Int)) &&& BitVec.ofInt IntKind.u8.bits (127)).toNat:Int)):Int)*2 ^ (min (((7*i:Nat):Int):Int).toNat IntKind.u64.bits)))),(7,.z (eo i x bu))]),(10,[(1,.b true)]),(11,[(1,.b true),(4,.b true)])] 2000 [0] r (by kernel_rfl) (U h0 (U (aN ((i:Nat):Int)) (U (j3 cL) (U h1 (U h5 (U gQ (U eh (U fz (U fO (U ((by first | decide | omega):(0:Int)≤((7*i:Nat):Int)) (U jx (U h6 (U h7 (U h8 trivial))))))))))))))
   | true=>
    have fy:=of_decide_eq_true h5
    refine a7 (y:=.tu [.d (.v (.int .u64 0)),.z 0]) (N':=[.bx 102 [.d (.ro 1 (af l)),.d (.v (.bool false))]]) ((by first | exact (c8 (aq.none (by omega))) | exact (c8 (aq.wide cL (by omega) (by omega))) | exact (c8 (aq.zero cL (by rintro ⟨_,_⟩;omega) (by omega) (by omega))) | exact (c8 (aq.last cL (by rintro ⟨_,_⟩;omega) (by omega) (by rintro ⟨_,_⟩;omega))))) (rfl) ?_
    exact aZ tk mo hK rfl al [(5,[(0,.b true)]),(6,[(1,.ix (i) [.v (.int .u8 (((bu.toNat:Nat):Int)))])]),(7,[(1,.b true),(4,.b true)])] 2000 [0] r (by kernel_rfl) (U h0 (U (aN ((i:Nat):Int)) (U (j3 cL) (U h1 (U h5 trivial)))))
theorem ax.nil {P:Program} {f:FuncId} {args:List AV} {M M':List ai} {k:Nat} (h:ax P f args M (.d (.v (.slice none 0 0))) M'):ax P f args M (.d (.ro k [])) M':=by
 refine ⟨h.1,fun ys R hK hl hr=>(h.2 ys R hK hl hr).mono ?_⟩
 rintro e w' ⟨v,rfl,au,F',I',R',e1,hI,ha⟩
 refine ⟨v,rfl,au,F',I',R',e1,hI,?_⟩
 cases ha with
 | d hd=>
  cases hd with
  | v=>exact .d (.ro (fun _=>[]) (by simp) ⟨none,0,rfl,Nat.le_refl _⟩ (fun w hw=>⟨by simp [lay],Or.inl ⟨rfl,none,0,rfl⟩⟩) (by simp))
def gk (l:List UInt8) (b:Bool) (z:Int):Prop:=b=true∨z<0∨(l.length:Int)<z
instance {l:List UInt8} {b:Bool} {z:Int}:Decidable (gk l b z):=by unfold gk;infer_instance
def aG (l:List UInt8) (b:Bool) (z:Int):List UInt8:=if gk l b z then [] else l.take z.toNat
def dB (l:List UInt8) (b:Bool) (z:Int):List UInt8:=if gk l b z then l else l.drop z.toNat
def dN (l:List UInt8) (b:Bool) (z:Int):Bool:=if gk l b z then true else false
def fP (l:List UInt8) (b:Bool):List ai:=[.bx 102 [.d (.ro 1 (af l)),.d (.v (.bool b))]]
theorem mX:cV Tryd.prog 65:=by unfold cV;kernel_rfl
theorem uL (l:List UInt8) (b:Bool) (z:Int):ax Tryd.prog 65 [.pt 0 0,.z z] (fP l b) (.d (.ro 1 (af (aG l b z)))) (fP (dB l b z) (dN l b z)):=by
 unfold aG dB dN
 by_cases h:gk l b z
 ·rw [if_pos h,if_pos h,if_pos h]
  cases b with
  | true=>exact (HD l z).nil
  | false=>
   rcases h.resolve_left (by decide) with h1 | h1
   ·exact (HC l z h1).nil
   ·obtain ⟨n,rfl⟩:=Int.eq_ofNat_of_zero_le (show 0≤z by omega)
    exact (F9 l n (by omega)).nil
 ·rw [if_neg h,if_neg h,if_neg h]
  unfold gk at h
  obtain ⟨n,rfl⟩:=Int.eq_ofNat_of_zero_le (show 0≤z by omega)
  cases b with
  | true=>exact absurd (Or.inl rfl) h
  | false=>exact HB l n (by omega)
def da (l:List UInt8) (b:Bool):Int×Nat:=if b=true then (0,0) else dJ l 0 0
theorem Az (l:List UInt8) (b:Bool):ax Tryd.prog 64 [.pt 0 0] (fP l b) (.tu [.d (.v (.int .u64 (da l b).1)),.n (da l b).2]) (fP l b):=by
 cases b with
 | true=>exact IS l
 | false=>exact Ka l
theorem AA {l:List UInt8} {b:Bool} {z:Int}:(dB l b z).length≤l.length:=by unfold dB;split<;>simp
def mG (l:List UInt8) (b:Bool):List UInt8:=if (da l b).2=0 then l else dB l b (da l b).2
def nM (l:List UInt8) (b:Bool):Bool:=if (da l b).2=0 then true else dN l b (da l b).2
def lu (l:List UInt8) (b:Bool):Int:=if (da l b).2=0 then 0 else (da l b).1
theorem IT {l:List UInt8} {b:Bool}:(mG l b).length≤l.length:=by unfold mG;split<;>first | exact Nat.le_refl _ | exact AA
set_option maxRecDepth 100000 in
theorem HE (l:List UInt8) (b:Bool):ax Tryd.prog 48 [.pt 0 0] [.bx 102 [.d (.ro 1 (af l)),.d (.v (.bool b))]] (.d (.v (.int .u64 (lu l b)))) (fP (mG l b) (nM l b)):=by
 refine ax.intro (by kernel_rfl) rfl rfl 26 rfl rfl fun D w0 K bs ac wd hK (al:bs.m=1) r=>?_
 cases h0:(((((da l b).2:Nat):Int):Int)==0) with
 | false=>
  have bw:=ne_of_beq_false h0
  refine a7 (y:=.d (.v (.int .u64 ((da l b).1)))) (N':=[.bx 102 [.d (.ro 1 (af (dB l b (da l b).2))),.d (.v (.bool ((dN l b (da l b).2))))]]) ((by unfold lu;first | rw [if_pos (by omega)] | rw [if_neg (by omega)])) ((by unfold mG nM;first | (rw [if_pos (by omega),if_pos (by omega)];rfl) | (rw [if_neg (by omega),if_neg (by omega)];rfl))) ?_
  exact aZ tk mo hK rfl al [(3,[(3,.mem [0] (.tu [.d (.v (.int .u64 ((da l b).1))),.n ((da l b).2)]) [.bx 102 [.d (.ro 1 (af l)),.d (.v (.bool b))]])]),(4,[(1,.b false)]),(7,[(4,.mem [0] (.d (.ro 1 (af (aG l b (da l b).2)))) [.bx 102 [.d (.ro 1 (af (dB l b (da l b).2))),.d (.v (.bool ((dN l b (da l b).2))))]])])] 2000 [0] r (by kernel_rfl) (U (mX:cV Tryd.prog 65) (U (Az l b) (U h0 (U (uL l b (da l b).2) trivial))))
 | true=>
  have bw:=eq_of_beq h0
  refine a7 (y:=.d (.v (.int .u64 0))) (N':=[.bx 102 [.d (.ro 1 (af l)),.d (.v (.bool true))]]) ((by unfold lu;first | rw [if_pos (by omega)] | rw [if_neg (by omega)])) ((by unfold mG nM;first | (rw [if_pos (by omega),if_pos (by omega)];rfl) | (rw [if_neg (by omega),if_neg (by omega)];rfl))) ?_
  exact aZ tk mo hK rfl al [(3,[(3,.mem [0] (.tu [.d (.v (.int .u64 ((da l b).1))),.n ((da l b).2)]) [.bx 102 [.d (.ro 1 (af l)),.d (.v (.bool b))]])]),(4,[(1,.b true)])] 2000 [0] r (by kernel_rfl) (U (mX:cV Tryd.prog 65) (U (Az l b) (U h0 trivial)))
set_option maxRecDepth 100000 in
theorem Af (l:List UInt8) (b:Bool):ax Tryd.prog 28 [.pt 0 0] [.bx 102 [.d (.ro 1 (af l)),.d (.v (.bool b))]] (.n l.length) ([.bx 102 [.d (.ro 1 (af l)),.d (.v (.bool b))]]):=by
 refine ax.intro (by kernel_rfl) rfl rfl 11 rfl rfl fun D w0 K bs ac wd hK (al:bs.m=1) r=>?_
 refine a7 (y:=.n l.length) (N':=[.bx 102 [.d (.ro 1 (af l)),.d (.v (.bool b))]]) (rfl) (rfl) ?_
 exact aZ tk mo hK rfl al [(3,[(5,.z (((l.length:Nat):Int)))])] 2000 [0] r (by kernel_rfl) (U (mX:cV Tryd.prog 65) (U ((by first | rfl | simp [af,ah,ints,steps,strs]):(((af l).length:Nat):Int)=((l.length:Nat):Int)) trivial))
set_option maxRecDepth 100000 in
theorem Ga (l:List UInt8):ax Tryd.prog 27 [.pt 0 0] [.bx 102 [.d (.ro 1 (af l)),.d (.v (.bool true))]] (.z 3) ([.bx 102 [.d (.ro 1 (af l)),.d (.v (.bool true))]]):=by
 refine ax.intro (by kernel_rfl) rfl rfl 12 rfl rfl fun D w0 K bs ac wd hK (al:bs.m=1) r=>?_
 refine a7 (y:=.z 3) (N':=[.bx 102 [.d (.ro 1 (af l)),.d (.v (.bool true))]]) (rfl) (rfl) ?_
 exact aZ tk mo hK rfl al [] 2000 [0] r (by kernel_rfl) (U (mX:cV Tryd.prog 65) trivial)
set_option maxRecDepth 100000 in
theorem EI (l:List UInt8):ax Tryd.prog 27 [.pt 0 0] [.bx 102 [.d (.ro 1 (af l)),.d (.v (.bool false))]] (.z 0) ([.bx 102 [.d (.ro 1 (af l)),.d (.v (.bool false))]]):=by
 refine ax.intro (by kernel_rfl) rfl rfl 12 rfl rfl fun D w0 K bs ac wd hK (al:bs.m=1) r=>?_
 refine a7 (y:=.z 0) (N':=[.bx 102 [.d (.ro 1 (af l)),.d (.v (.bool false))]]) (rfl) (rfl) ?_
 exact aZ tk mo hK rfl al [] 2000 [0] r (by kernel_rfl) (U (mX:cV Tryd.prog 65) trivial)
theorem pW (l:List UInt8) (b:Bool):ax Tryd.prog 27 [.pt 0 0] (fP l b) (.z (if b=true then 3 else 0)) (fP l b):=by
 cases b with
 | true=>exact Ga l
 | false=>exact EI l
set_option maxRecDepth 100000 in
theorem pF (l:List UInt8) (hb:l.length<2147483648):ax Tryd.prog 25 [.d (.ro 1 (af l))] [] (.pt 0 0) (fP l false):=by
 refine ax.intro (by kernel_rfl) rfl rfl 8 rfl rfl fun D w0 K bs ac wd hK (al:bs.m=0) r=>?_
 refine a7 (y:=.pt 0 0) (N':=[.bx 102 [.d (.ro 1 (af l)),.d (.v (.bool false))]]) (rfl) (rfl) ?_
 exact aZ tk mo hK rfl al [(1,[(1,.aP (.ro 1 (af l)))])] 2000 [0] r (by kernel_rfl) (U (y8 l hb) trivial)
end Go.Proofs.YtcnpikbbmbombaaDoor
namespace Go.Proofs.YtcnpikbbmbombaaDoor
open Go.RowKit
def CN (i:Nat) (y x:Int):Int:=IntKind.u64.wrap ((BitVec.ofInt IntKind.u64.bits x ||| BitVec.ofInt IntKind.u64.bits (IntKind.u64.wrap (IntKind.u64.wrap y*2 ^ (min ((8*i:Nat):Int).toNat IntKind.u64.bits)))).toNat:Int)
theorem HF {i:Nat} {y x:Nat} (hi:i<8) (hy:y<256) (hx:x<256 ^ i):CN i (y:Int) (x:Int)=((x+y*256 ^ i:Nat):Int):=by
 have p8:(256:Nat) ^ i=2 ^ (8*i):=by rw [Nat.pow_mul]
 have hle:y*256 ^ i+256 ^ i≤256 ^ (i+1):=by
  rw [Nat.pow_succ,Nat.mul_comm (256 ^ i) 256]
  have:=Nat.mul_le_mul_right (256 ^ i) (show y+1≤256 by omega)
  rw [Nat.add_mul,Nat.one_mul] at this;exact this
 have ND:(256:Nat) ^ (i+1)≤256 ^ 8:=Nat.pow_le_pow_right (by decide) (by omega)
 have e8:(256:Nat) ^ 8=18446744073709551616:=by decide
 have w1:IntKind.u64.wrap (y:Int)=(y:Int):=by simp [IntKind.wrap,IntKind.signed,IntKind.bits];omega
 have l7:(min ((8*i:Nat):Int).toNat IntKind.u64.bits)=8*i:=by simp [IntKind.bits];omega
 have hm:((y:Int)*2 ^ (8*i))=((y*256 ^ i:Nat):Int):=by rw [p8];push_cast;rfl
 unfold CN
 rw [w1,l7,hm]
 have w2:IntKind.u64.wrap ((y*256 ^ i:Nat):Int)=((y*256 ^ i:Nat):Int):=by
  generalize y*256 ^ i=q at *
  simp [IntKind.wrap,IntKind.signed,IntKind.bits];omega
 rw [w2]
 have h1:(BitVec.ofInt 64 (x:Int) ||| BitVec.ofInt 64 ((y*256 ^ i:Nat):Int)).toNat=x+y*256 ^ i:=by
  rw [BitVec.toNat_or]
  have a1:(BitVec.ofInt 64 (x:Int)).toNat=x:=by
   have:x<18446744073709551616:=by omega
   rw [BitVec.ofInt_natCast,BitVec.toNat_ofNat];omega
  have a2:(BitVec.ofInt 64 ((y*256 ^ i:Nat):Int)).toNat=y*256 ^ i:=by
   have:y*256 ^ i<18446744073709551616:=by omega
   rw [BitVec.ofInt_natCast,BitVec.toNat_ofNat];omega
  rw [a1,a2,p8,Nat.mul_comm y,Nat.or_comm,← Nat.two_pow_add_eq_or_of_lt (by rw [← p8];exact hx)];omega
 show IntKind.u64.wrap ((BitVec.ofInt 64 (x:Int) ||| BitVec.ofInt 64 ((y*256 ^ i:Nat):Int)).toNat:Int)=_
 rw [h1]
 generalize x+y*256 ^ i=q at *
 simp [IntKind.wrap,IntKind.signed,IntKind.bits];omega
def eQ (X:List UInt8):Nat→Nat
 | 0=>0
 | i+1=>eQ X i+(X.getD i 0).toNat*256 ^ i
def bD (X:List UInt8) (i:Nat):DV:=.v (.int .u8 (((X.getD i 0).toNat:Nat):Int))
theorem AB (X:List UInt8):∀ i,eQ X i<256 ^ i
 | 0=>Nat.one_pos
 | i+1=>by
  have h:=AB X i
  have hb:=(X.getD i 0).toNat_lt
  have:=Nat.mul_le_mul_right (256 ^ i) (show (X.getD i 0).toNat+1≤256 by omega)
  rw [eQ,Nat.pow_succ];rw [Nat.add_mul,Nat.one_mul] at this;omega
theorem zA {l:List UInt8} {k:Nat} (h:l.length≤k):l.getD k 0=0:=by rw [List.getD_eq_getElem?_getD,List.getElem?_eq_none h];rfl
theorem Kb:∀ X:List UInt8,X.length≤8→List.take (min (af X).length 8*1) (List.map AV.d (List.flatten (af X)))++List.drop (List.take (min (af X).length 8*1) (List.map AV.d (List.flatten (af X)))).length ([.d (.v (.int .u8 0)),.d (.v (.int .u8 0)),.d (.v (.int .u8 0)),.d (.v (.int .u8 0)),.d (.v (.int .u8 0)),.d (.v (.int .u8 0)),.d (.v (.int .u8 0)),.d (.v (.int .u8 0))]:List AV)=List.map AV.d [bD X 0,bD X 1,bD X 2,bD X 3,bD X 4,bD X 5,bD X 6,bD X 7]
 | [],_=>rfl | [_],_=>rfl | [_,_],_=>rfl | [_,_,_],_=>rfl | [_,_,_,_],_=>rfl | [_,_,_,_,_],_=>rfl | [_,_,_,_,_,_],_=>rfl | [_,_,_,_,_,_,_],_=>rfl | [_,_,_,_,_,_,_,_],_=>rfl
 | _::_::_::_::_::_::_::_::_::_,h=>by simp at h
theorem Kc (X:List UInt8):∀ {i:Nat},i<8→nC tb 5 ([bD X 0,bD X 1,bD X 2,bD X 3,bD X 4,bD X 5,bD X 6,bD X 7].map AV.d) (i*1)=some (.d (bD X i))
 | 0,_=>by kernel_rfl | 1,_=>by kernel_rfl | 2,_=>by kernel_rfl | 3,_=>by kernel_rfl | 4,_=>by kernel_rfl | 5,_=>by kernel_rfl | 6,_=>by kernel_rfl | 7,_=>by kernel_rfl
 | _+8,h=>by omega
theorem vu (l:List UInt8) (b:Bool) (n:Nat):(aG l b n).length≤n:=by unfold aG;split;exact Nat.zero_le _;simp;omega
set_option maxRecDepth 100000 in
theorem AD (l:List UInt8) (b:Bool) (n:Nat) (hn:n≤8):ax Tryd.prog 63 [.pt 0 0,.n n] [.bx 102 [.d (.ro 1 (af l)),.d (.v (.bool b))]] (.u (eQ (aG l b n) 8)) (fP (dB l b n) (dN l b n)):=by
 refine ax.intro (by kernel_rfl) rfl rfl 32 rfl rfl fun D w0 K bs ac wd hK (al:bs.m=1) r=>?_
 refine cF (todo':=hd Tryd.f63 0) (E':=[(6,.u (eQ (aG l b n) 0)),(18,.ag [.d (bD (aG l b n) 0),.d (bD (aG l b n) 1),.d (bD (aG l b n) 2),.d (bD (aG l b n) 3),.d (bD (aG l b n) 4),.d (bD (aG l b n) 5),.d (bD (aG l b n) 6),.d (bD (aG l b n) 7)]),(19,.n 0)]) (M':=[.bx 102 [.d (.ro 1 (af (dB l b n))),.d (.v (.bool ((dN l b n))))]]) tk mo hK al [(3,[(0,.b true)]),(4,[(5,.mem [0] (.d (.ro 1 (af (aG l b n)))) [.bx 102 [.d (.ro 1 (af (dB l b n))),.d (.v (.bool ((dN l b n))))]]),(6,.res (.ag [bD (aG l b n) 0,bD (aG l b n) 1,bD (aG l b n) 2,bD (aG l b n) 3,bD (aG l b n) 4,bD (aG l b n) 5,bD (aG l b n) 6,bD (aG l b n) 7]))])] 2000 [0] [6,18,19] r (by kernel_rfl) (U (mX:cV Tryd.prog 65) (U (uL l b n) (U ((by simp [bf,AV.one,bS,af]):bf (af (aG l b n))) (U ((Kb (aG l b n) (Nat.le_trans (vu l b n) hn)):(List.take (min (af (aG l b n)).length 8*1) (List.map AV.d (List.flatten (af (aG l b n)))))++List.drop (List.take (min (af (aG l b n)).length 8*1) (List.map AV.d (List.flatten (af (aG l b n))))).length ([.d (.v (.int .u8 0)),.d (.v (.int .u8 0)),.d (.v (.int .u8 0)),.d (.v (.int .u8 0)),.d (.v (.int .u8 0)),.d (.v (.int .u8 0)),.d (.v (.int .u8 0)),.d (.v (.int .u8 0))]:List AV)=List.map AV.d [bD (aG l b n) 0,bD (aG l b n) 1,bD (aG l b n) 2,bD (aG l b n) 3,bD (aG l b n) 4,bD (aG l b n) 5,bD (aG l b n) 6,bD (aG l b n) 7]) trivial)))) fun ac wd r=>?_
 refine aC.rounds (Φ:=fun (i:Nat) ac wd=>(i≤8)∧RB D w0 K 32 bs [(6,.u (eQ (aG l b n) i)),(18,.ag [.d (bD (aG l b n) 0),.d (bD (aG l b n) 1),.d (bD (aG l b n) 2),.d (bD (aG l b n) 3),.d (bD (aG l b n) 4),.d (bD (aG l b n) 5),.d (bD (aG l b n) 6),.d (bD (aG l b n) 7)]),(19,.n i)] [.bx 102 [.d (.ro 1 (af (dB l b n))),.d (.v (.bool ((dN l b n))))]] ac wd) (8) ?_ (Nat.zero_le _) ⟨(Nat.zero_le _),r⟩
 clear r
 rintro i e7 b6 ac wd ⟨aq,r⟩
 cases h0:(decide ((((i:Nat):Int):Int)<8)) with
 | false=>
  have bw:=of_decide_eq_false h0
  refine a7 (y:=.u (eQ (aG l b n) i)) (N':=[.bx 102 [.d (.ro 1 (af (dB l b n))),.d (.v (.bool ((dN l b n))))]]) ((by rw [show i=8 by omega])) (rfl) ?_
  exact aZ tk mo hK rfl al [(7,[(0,.b false)])] 2000 [0] r (by kernel_rfl) (U h0 trivial)
 | true=>
  have bw:=of_decide_eq_true h0
  exact cF (todo':=hd Tryd.f63 0) tk mo hK al [(7,[(0,.b true)]),(8,[(1,.ix (i) [.v (.int .u8 (((((aG l b n).getD i 0).toNat:Nat):Int)))])]),(9,[(2,.z (IntKind.u64.wrap ((((aG l b n).getD i 0).toNat:Nat):Int))),(4,.z (((8*i:Nat):Int))),(5,.z (IntKind.u64.wrap (IntKind.u64.wrap ((((aG l b n).getD i 0).toNat:Nat):Int)*2 ^ (min ((8*i:Nat):Int).toNat IntKind.u64.bits)))),(6,.z (((eQ (aG l b n) (i+1):Nat):Int)))]),(10,[(0,.z (((i+1:Nat):Int)))])] 2000 [0] [6,18,19] r (by kernel_rfl) (U h0 (U (aN ((i:Nat):Int)) (U ((by first | omega | decide | (simp;done) | (simp;omega)):(i)<8) (U ((Kc (aG l b n) (by omega)):nC tb 5 [.d (bD (aG l b n) 0),.d (bD (aG l b n) 1),.d (bD (aG l b n) 2),.d (bD (aG l b n) 3),.d (bD (aG l b n) 4),.d (bD (aG l b n) 5),.d (bD (aG l b n) 6),.d (bD (aG l b n) 7)] ((i)*1)=some (.d (.v (.int .u8 (((((aG l b n).getD i 0).toNat:Nat):Int)))))) (U (rfl:IntKind.u64.wrap (((((aG l b n).getD i 0).toNat:Nat):Int))=IntKind.u64.wrap ((((aG l b n).getD i 0).toNat:Nat):Int)) (U ((wi (by omega)):IntKind.i64.wrap ((8:Int)*((i:Nat):Int))=((8*i:Nat):Int)) (U (rfl:IntKind.u64.wrap ((IntKind.u64.wrap ((((aG l b n).getD i 0).toNat:Nat):Int):Int)*2 ^ (min (((8*i:Nat):Int):Int).toNat IntKind.u64.bits))=IntKind.u64.wrap (IntKind.u64.wrap ((((aG l b n).getD i 0).toNat:Nat):Int)*2 ^ (min ((8*i:Nat):Int).toNat IntKind.u64.bits))) (U ((by first | decide | omega):(0:Int)≤((8*i:Nat):Int)) (U ((HF (by omega) (UInt8.toNat_lt _) (AB _ _)):IntKind.u64.wrap ((BitVec.ofInt IntKind.u64.bits (((eQ (aG l b n) i:Nat):Int)) ||| BitVec.ofInt IntKind.u64.bits (IntKind.u64.wrap (IntKind.u64.wrap ((((aG l b n).getD i 0).toNat:Nat):Int)*2 ^ (min ((8*i:Nat):Int).toNat IntKind.u64.bits)))).toNat:Int)=((eQ (aG l b n) (i+1):Nat):Int)) (U ((wi (by omega)):IntKind.i64.wrap ((((i:Nat):Int):Int)+1)=((i+1:Nat):Int)) trivial)))))))))) fun ac wd r=>b6 (by omega) ac wd ⟨(by omega),r⟩
theorem wD {X:List UInt8} {n:Nat} (h:X.length≤n):∀ k,eQ X (n+k)=eQ X n
 | 0=>rfl
 | k+1=>by rw [← Nat.add_assoc,eQ,wD h k,zA (by omega)];simp
theorem Kd {X:List UInt8} (h:X.length≤1):eQ X 8=(X.getD 0 0).toNat:=by rw [wD (n:=1) h 7];simp [eQ]
theorem Ke {X:List UInt8} (h:X.length≤2):eQ X 8=(X.getD 0 0).toNat+(X.getD 1 0).toNat*256:=by rw [wD (n:=2) h 6];simp [eQ]
theorem w8 {z:Int} (h:0≤z∧z≤255):IntKind.u8.wrap z=z:=by simp [IntKind.wrap,IntKind.signed,IntKind.bits];omega
theorem Mf {z:Int} (h:0≤z∧z≤65535):IntKind.u16.wrap z=z:=by simp [IntKind.wrap,IntKind.signed,IntKind.bits];omega
set_option maxRecDepth 100000 in
theorem CO (l:List UInt8) (b:Bool):ax Tryd.prog 46 [.pt 0 0] [.bx 102 [.d (.ro 1 (af l)),.d (.v (.bool b))]] (.d (.v (.int .u8 ((((aG l b 1).getD 0 0).toNat:Nat):Int)))) (fP (dB l b 1) (dN l b 1)):=by
 refine ax.intro (by kernel_rfl) rfl rfl 6 rfl rfl fun D w0 K bs ac wd hK (al:bs.m=1) r=>?_
 refine a7 (y:=.d (.v (.int .u8 (((((aG l b 1).getD 0 0).toNat:Nat):Int))))) (N':=[.bx 102 [.d (.ro 1 (af (dB l b 1))),.d (.v (.bool ((dN l b 1))))]]) (rfl) (rfl) ?_
 exact aZ tk mo hK rfl al [(1,[(1,.mem [0] (.u (eQ (aG l b 1) 8)) [.bx 102 [.d (.ro 1 (af (dB l b 1))),.d (.v (.bool ((dN l b 1))))]]),(2,.z (((((aG l b 1).getD 0 0).toNat:Nat):Int)))])] 2000 [0] r (by kernel_rfl) (U (AD l b 1 (by decide)) (U ((by rw [Kd (X:=aG l b 1) (vu l b 1)];exact w8 (by have:=((aG l b 1).getD 0 0).toNat_lt;have:=((aG l b 1).getD 1 0).toNat_lt;omega)):IntKind.u8.wrap (((eQ (aG l b 1) 8:Nat):Int))=((((aG l b 1).getD 0 0).toNat:Nat):Int)) trivial))
set_option maxRecDepth 100000 in
theorem K5 (l:List UInt8) (b:Bool):ax Tryd.prog 47 [.pt 0 0] [.bx 102 [.d (.ro 1 (af l)),.d (.v (.bool b))]] (.d (.v (.int .u16 (((((aG l b 2).getD 0 0).toNat+((aG l b 2).getD 1 0).toNat*256):Nat):Int)))) (fP (dB l b 2) (dN l b 2)):=by
 refine ax.intro (by kernel_rfl) rfl rfl 6 rfl rfl fun D w0 K bs ac wd hK (al:bs.m=1) r=>?_
 refine a7 (y:=.d (.v (.int .u16 ((((((aG l b 2).getD 0 0).toNat+((aG l b 2).getD 1 0).toNat*256):Nat):Int))))) (N':=[.bx 102 [.d (.ro 1 (af (dB l b 2))),.d (.v (.bool ((dN l b 2))))]]) (rfl) (rfl) ?_
 exact aZ tk mo hK rfl al [(1,[(1,.mem [0] (.u (eQ (aG l b 2) 8)) [.bx 102 [.d (.ro 1 (af (dB l b 2))),.d (.v (.bool ((dN l b 2))))]]),(2,.z ((((((aG l b 2).getD 0 0).toNat+((aG l b 2).getD 1 0).toNat*256):Nat):Int)))])] 2000 [0] r (by kernel_rfl) (U (AD l b 2 (by decide)) (U ((by rw [Ke (X:=aG l b 2) (vu l b 2)];exact Mf (by have:=((aG l b 2).getD 0 0).toNat_lt;have:=((aG l b 2).getD 1 0).toNat_lt;omega)):IntKind.u16.wrap (((eQ (aG l b 2) 8:Nat):Int))=(((((aG l b 2).getD 0 0).toNat+((aG l b 2).getD 1 0).toNat*256):Nat):Int)) trivial))
end Go.Proofs.YtcnpikbbmbombaaDoor
namespace Go.Proofs.YtcnpikbbmbombaaDoor
open Go.RowKit
theorem nN {a b:List UInt8} (h:a=b) (r:List ai):(ai.rw 81 1 [[.em 5 1 (af a)]]::r)=ai.rw 81 1 [[.em 5 1 (af b)]]::r:=by rw [h]
def cW (l:List (Int×Int)):List UInt8:=l.flatMap fun x=>[bz x.1,bz x.2]
def cf (c:bY):List UInt8:=[bz c.aK]++[bz ((c.ah.length:Nat):Int)]++cW c.ah++[bz ((c.homes.length:Nat):Int)]++c.homes.map bz
def jO (x:jw) (s:aJ):List UInt8:=(if x.node then [bz s.node] else [])++(if x.peer then [bz s.peer] else [])++(if x.n then [bz s.n] else [])++(if x.bit then [bz s.bit,bz (s.bit / 256)] else [])++(if x.inc then cm s.inc else [])++(if x.body then bz ((s.body.length:Nat):Int)::s.body else [])
def cg (s:aJ):List UInt8:=bz s.kind::jO (ae s.kind.toNat) s
theorem qd {α:Type} {b:Bool} {l:List α} {n:Nat} (h:l.length≤n):(if b=true then l else []).length≤n:=by split;exact h;exact Nat.zero_le _
theorem fT (l:List (Int×Int)):(cW l).length=2*l.length:=by
 unfold cW;induction l with
 | nil=>rfl
 | cons x r ih=>rw [List.flatMap_cons,List.length_append,ih];simp;omega
theorem EJ {l:List (Int×Int)} {i:Nat} {x:Int×Int} (h:l[i]?=some x):cW (l.take (i+1))=cW (l.take i)++[bz x.1,bz x.2]:=by
 unfold cW;rw [List.take_add_one,h];simp
theorem DY {l:List Int} {i:Nat} {x:Int} (h:l[i]?=some x):(l.take (i+1)).map bz=(l.take i).map bz++[bz x]:=by
 rw [List.take_add_one,h];simp
theorem yL:∀ (k x:Nat),x<128 ^ (k+1)→(cm x).length≤k+1
 | 0,x,h=>by rw [lE (by omega)];simp
 | k+1,x,h=>by
  by_cases hx:x<128
  ·rw [lE hx];simp
  ·rw [pE hx]
   have:=yL k (x / 128) (by rw [Nat.div_lt_iff_lt_mul (by decide),← Nat.pow_succ];exact h)
   simp;omega
theorem eC {x:Nat} (h:x<18446744073709551616):(cm x).length≤10:=yL 9 x (Nat.lt_of_lt_of_le h (by decide))
theorem K6 {z:Int} (h:0≤z) (h2:z≤65535):IntKind.u16.wrap z=((z.toNat:Nat):Int):=by
 simp [IntKind.wrap,IntKind.signed,IntKind.bits];omega
set_option maxRecDepth 100000 in
theorem IU (l:List UInt8) (c:bY) (hl:l.length≤16777216) (hc:c.ah.length≤1048576) (hh:c.homes.length≤1048576):ax Tryd.prog 15 [.ep 0 1 (0) 0,.ag [.z c.aK,.d (.ro 2 (ah c.ah)),.d (.ro 1 (ints c.homes))]] [.rw 81 1 ([[.em 5 1 (af l)]])] (.tu []) (iC (l++cf c)):=by
 refine ax.intro (by kernel_rfl) rfl rfl 55 rfl rfl fun D w0 K bs ac wd hK (al:bs.m=1) r=>?_
 refine cF (todo':=hd Tryd.f15 0) (E':=[(0,.ep 0 1 (0) 0),(3,.pt 1 0),(20,.d (.ro 2 (ah c.ah))),(21,.n c.ah.length),(22,.z 0)]) (M':=[.rw 81 1 ([[.em 5 1 (af ((l++[(bz c.aK)])++[(bz ((c.ah.length:Nat):Int))]))]]),.bx 25 [.z c.aK,.d (.ro 2 (ah c.ah)),.d (.ro 1 (ints c.homes))]]) tk mo hK al [(1,[(3,.z ((((bz c.aK).toNat:Nat):Int))),(4,.mem [0] (.tu []) [.rw 81 1 ([[.em 5 1 (af (l++[(bz c.aK)]))]])])]),(2,[(3,.z (((c.ah.length:Nat):Int))),(4,.z ((((bz ((c.ah.length:Nat):Int)).toNat:Nat):Int))),(5,.mem [0] (.tu []) [.rw 81 1 ([[.em 5 1 (af ((l++[(bz c.aK)])++[(bz ((c.ah.length:Nat):Int))]))]])])]),(3,[(2,.z (((c.ah.length:Nat):Int)))])] 2000 [0,1] [0,3,20,21,22] r (by kernel_rfl) (U ((gj _):IntKind.u8.wrap (c.aK)=(((bz c.aK).toNat:Nat):Int)) (U (jW l (bz c.aK) (by first | omega | (simp [fT,eC];omega))) (U ((by first | rfl | simp [af,ah,ints,steps,strs]):(((ah c.ah).length:Nat):Int)=((c.ah.length:Nat):Int)) (U ((gj _):IntKind.u8.wrap (((c.ah.length:Nat):Int))=(((bz ((c.ah.length:Nat):Int)).toNat:Nat):Int)) (U (jW (l++[(bz c.aK)]) (bz ((c.ah.length:Nat):Int)) (by first | omega | (simp [fT,eC];omega))) (U ((by first | rfl | simp [af,ah,ints,steps,strs]):(((ah c.ah).length:Nat):Int)=((c.ah.length:Nat):Int)) trivial)))))) fun ac wd r=>?_
 refine aC.rounds (Φ:=fun (i:Nat) ac wd=>(True)∧RB D w0 K 55 bs [(0,.ep 0 1 (0) 0),(3,.pt 1 0),(20,.d (.ro 2 (ah c.ah))),(21,.n c.ah.length),(22,.n i)] [.rw 81 1 ([[.em 5 1 (af (l++[bz c.aK]++[bz ((c.ah.length:Nat):Int)]++cW (c.ah.take i)))]]),.bx 25 [.z c.aK,.d (.ro 2 (ah c.ah)),.d (.ro 1 (ints c.homes))]] ac wd) (c.ah.length) ?_ (Nat.zero_le _) ⟨trivial,(r).cast rfl (nN (by simp [cW]) _)⟩
 clear r
 rintro i e7 b6 ac wd ⟨aq,r⟩
 cases h0:(decide ((((i:Nat):Int):Int)<((c.ah.length:Nat):Int))) with
 | false=>
  have bw:=of_decide_eq_false h0
  refine cF (todo':=hd Tryd.f15 1) (E':=[(0,.ep 0 1 (0) 0),(3,.pt 1 0),(44,.d (.ro 1 (ints c.homes))),(45,.n c.homes.length),(46,.z 0)]) (M':=[.rw 81 1 ([[.em 5 1 (af ((l++[bz c.aK]++[bz ((c.ah.length:Nat):Int)]++cW (c.ah.take i))++[(bz ((c.homes.length:Nat):Int))]))]]),.bx 25 [.z c.aK,.d (.ro 2 (ah c.ah)),.d (.ro 1 (ints c.homes))]]) tk mo hK al [(4,[(0,.b false)]),(9,[(3,.z (((c.homes.length:Nat):Int))),(4,.z ((((bz ((c.homes.length:Nat):Int)).toNat:Nat):Int))),(5,.mem [0] (.tu []) [.rw 81 1 ([[.em 5 1 (af ((l++[bz c.aK]++[bz ((c.ah.length:Nat):Int)]++cW (c.ah.take i))++[(bz ((c.homes.length:Nat):Int))]))]])])]),(10,[(2,.z (((c.homes.length:Nat):Int)))])] 2000 [0,1] [0,3,44,45,46] r (by kernel_rfl) (U h0 (U ((by first | rfl | simp [af,ah,ints,steps,strs]):(((ints c.homes).length:Nat):Int)=((c.homes.length:Nat):Int)) (U ((gj _):IntKind.u8.wrap (((c.homes.length:Nat):Int))=(((bz ((c.homes.length:Nat):Int)).toNat:Nat):Int)) (U (jW (l++[bz c.aK]++[bz ((c.ah.length:Nat):Int)]++cW (c.ah.take i)) (bz ((c.homes.length:Nat):Int)) (by first | omega | (simp [fT,eC];omega))) (U ((by first | rfl | simp [af,ah,ints,steps,strs]):(((ints c.homes).length:Nat):Int)=((c.homes.length:Nat):Int)) trivial))))) fun ac wd r=>?_
  refine aC.rounds (Φ:=fun (i:Nat) ac wd=>(True)∧RB D w0 K 55 bs [(0,.ep 0 1 (0) 0),(3,.pt 1 0),(44,.d (.ro 1 (ints c.homes))),(45,.n c.homes.length),(46,.n i)] [.rw 81 1 ([[.em 5 1 (af (l++[bz c.aK]++[bz ((c.ah.length:Nat):Int)]++cW c.ah++[bz ((c.homes.length:Nat):Int)]++(c.homes.take i).map bz))]]),.bx 25 [.z c.aK,.d (.ro 2 (ah c.ah)),.d (.ro 1 (ints c.homes))]] ac wd) (c.homes.length) ?_ (Nat.zero_le _) ⟨trivial,(r).cast rfl (nN (by rw [List.take_of_length_le (by omega)];simp) _)⟩
  clear r
  rintro i qU jF ac wd ⟨dV,r⟩
  cases h1:(decide ((((i:Nat):Int):Int)<((c.homes.length:Nat):Int))) with
  | false=>
   have bW:=of_decide_eq_false h1
   refine a7 (y:=.tu []) (N':=[.rw 81 1 ([[.em 5 1 (af (l++[bz c.aK]++[bz ((c.ah.length:Nat):Int)]++cW c.ah++[bz ((c.homes.length:Nat):Int)]++(c.homes.take i).map bz))]])]) (rfl) ((nN (by rw [List.take_of_length_le (by omega)];simp [cf]) [])) ?_
   exact aZ tk mo hK rfl al [(11,[(0,.b false)])] 2000 [0] r (by kernel_rfl) (U h1 trivial)
  | true=>
   have bW:=of_decide_eq_true h1
   obtain ⟨eR,dP⟩:∃ x_,c.homes[i]?=some x_:=⟨_,List.getElem?_eq_getElem (by omega)⟩
   exact cF (todo':=hd Tryd.f15 1) (E':=[(0,.ep 0 1 (0) 0),(3,.pt 1 0),(44,.d (.ro 1 (ints c.homes))),(45,.n c.homes.length),(46,.n (i+1))]) (M':=[.rw 81 1 ([[.em 5 1 (af ((l++[bz c.aK]++[bz ((c.ah.length:Nat):Int)]++cW c.ah++[bz ((c.homes.length:Nat):Int)]++(c.homes.take i).map bz)++[(bz eR)]))]]),.bx 25 [.z c.aK,.d (.ro 2 (ah c.ah)),.d (.ro 1 (ints c.homes))]]) tk mo hK al [(11,[(0,.b true)]),(12,[(0,.ix (i) [.z eR])]),(13,[(2,.z ((((bz eR).toNat:Nat):Int))),(3,.mem [0] (.tu []) [.rw 81 1 ([[.em 5 1 (af ((l++[bz c.aK]++[bz ((c.ah.length:Nat):Int)]++cW c.ah++[bz ((c.homes.length:Nat):Int)]++(c.homes.take i).map bz)++[(bz eR)]))]])])]),(14,[(0,.z (((i+1:Nat):Int)))])] 2000 [0,1] [0,3,44,45,46] r (by kernel_rfl) (U h1 (U (aN ((i:Nat):Int)) (U (ints_at dP) (U ((gj _):IntKind.u8.wrap (eR)=(((bz eR).toNat:Nat):Int)) (U (jW (l++[bz c.aK]++[bz ((c.ah.length:Nat):Int)]++cW c.ah++[bz ((c.homes.length:Nat):Int)]++(c.homes.take i).map bz) (bz eR) (by first | omega | (simp [fT,eC];omega))) (U ((wi (by omega)):IntKind.i64.wrap ((((i:Nat):Int):Int)+1)=((i+1:Nat):Int)) trivial)))))) fun ac wd r=>jF (by omega) ac wd ⟨trivial,r.cast rfl (nN (by rw [DY dP];simp) _)⟩
 | true=>
  have bw:=of_decide_eq_true h0
  obtain ⟨bn,cz⟩:∃ x_,c.ah[i]?=some x_:=⟨_,List.getElem?_eq_getElem (by omega)⟩
  exact cF (todo':=hd Tryd.f15 0) (E':=[(0,.ep 0 1 (0) 0),(3,.pt 1 0),(20,.d (.ro 2 (ah c.ah))),(21,.n c.ah.length),(22,.n (i+1))]) (M':=[.rw 81 1 ([[.em 5 1 (af (((l++[bz c.aK]++[bz ((c.ah.length:Nat):Int)]++cW (c.ah.take i))++[(bz bn.1)])++[(bz bn.2)]))]]),.bx 25 [.z c.aK,.d (.ro 2 (ah c.ah)),.d (.ro 1 (ints c.homes))]]) tk mo hK al [(4,[(0,.b true)]),(5,[(0,.ix (i) [.z bn.1,.z bn.2])]),(6,[(1,.n 0),(3,.z ((((bz bn.1).toNat:Nat):Int))),(4,.mem [0] (.tu []) [.rw 81 1 ([[.em 5 1 (af ((l++[bz c.aK]++[bz ((c.ah.length:Nat):Int)]++cW (c.ah.take i))++[(bz bn.1)]))]])])]),(7,[(1,.n 1),(3,.z ((((bz bn.2).toNat:Nat):Int))),(4,.mem [0] (.tu []) [.rw 81 1 ([[.em 5 1 (af (((l++[bz c.aK]++[bz ((c.ah.length:Nat):Int)]++cW (c.ah.take i))++[(bz bn.1)])++[(bz bn.2)]))]])])]),(8,[(0,.z (((i+1:Nat):Int)))])] 2000 [0,1] [0,3,20,21,22] r (by kernel_rfl) (U h0 (U (aN ((i:Nat):Int)) (U (iE cz) (U (rfl:(0)=((0:Nat):Int)) (U ((by omega):(0)<2) (U ((gj _):IntKind.u8.wrap (bn.1)=(((bz bn.1).toNat:Nat):Int)) (U (jW (l++[bz c.aK]++[bz ((c.ah.length:Nat):Int)]++cW (c.ah.take i)) (bz bn.1) (by first | omega | (simp [fT,eC];omega))) (U (rfl:(1)=((1:Nat):Int)) (U ((by omega):(1)<2) (U ((gj _):IntKind.u8.wrap (bn.2)=(((bz bn.2).toNat:Nat):Int)) (U (jW ((l++[bz c.aK]++[bz ((c.ah.length:Nat):Int)]++cW (c.ah.take i))++[(bz bn.1)]) (bz bn.2) (by first | omega | (simp [fT,eC];omega))) (U ((wi (by omega)):IntKind.i64.wrap ((((i:Nat):Int):Int)+1)=((i+1:Nat):Int)) trivial)))))))))))) fun ac wd r=>b6 (by omega) ac wd ⟨trivial,r.cast rfl (nN (by rw [EJ cz];simp) _)⟩
set_option maxRecDepth 100000 in
theorem EK (l:List UInt8) (s:aJ) (hl:l.length≤16777216) (hb:s.body.length≤255) (hi:s.inc<18446744073709551616) (dM:0≤s.bit) (fw:s.bit≤65535) (k0:0≤s.kind) (k1:s.kind<14):ax Tryd.prog 18 [.ep 0 1 (0) 0,.ag [.z s.kind,.z s.node,.z s.peer,.z s.n,.z s.bit,.u s.inc,.d (.ro 1 (af s.body))]] [.rw 81 1 ([[.em 5 1 (af l)]]),.gw 0 aj] (.tu []) ([.rw 81 1 [[.em 5 1 (af (l++cg s))]],.gw 0 aj]):=by
 refine ax.intro (by kernel_rfl) rfl rfl 60 rfl rfl fun D w0 K bs ac wd hK (al:bs.m=2) r=>?_
 refine bN (todo':=aft Tryd.f18 3) (E':=[(0,.ep 0 1 (0) 0),(3,.pt 2 0),(4,.pt 3 0),(15,.d (.v (.bool ((ae s.kind.toNat).node))))]) (M':=[.rw 81 1 ([[.em 5 1 (af (l++[(bz s.kind)]))]]),.gw 0 aj,.bx 45 [.z s.kind,.z s.node,.z s.peer,.z s.n,.z s.bit,.u s.inc,.d (.ro 1 (af s.body))],.bx 84 [.d (.v (.string ⟨((ae s.kind.toNat).word).toArray⟩)),.d (.v (.bool ((ae s.kind.toNat).node))),.d (.v (.bool ((ae s.kind.toNat).peer))),.d (.v (.bool ((ae s.kind.toNat).n))),.d (.v (.bool ((ae s.kind.toNat).bit))),.d (.v (.bool ((ae s.kind.toNat).inc))),.d (.v (.bool ((ae s.kind.toNat).body)))]]) tk mo hK al [(1,[(2,.ix (s.kind.toNat) [.v (.string ⟨((ae s.kind.toNat).word).toArray⟩),.v (.bool ((ae s.kind.toNat).node)),.v (.bool ((ae s.kind.toNat).peer)),.v (.bool ((ae s.kind.toNat).n)),.v (.bool ((ae s.kind.toNat).bit)),.v (.bool ((ae s.kind.toNat).inc)),.v (.bool ((ae s.kind.toNat).body))])]),(2,[(3,.z ((((bz s.kind).toNat:Nat):Int))),(4,.mem [0] (.tu []) [.rw 81 1 ([[.em 5 1 (af (l++[(bz s.kind)]))]])])])] 9 [0,1,2,3] [0,3,4,15] r (by kernel_rfl) (U ((by omega):(s.kind)=((s.kind.toNat:Nat):Int)) (U ((by omega):(s.kind.toNat)<14) (U (mK (by omega):List.take 7 (List.drop ((s.kind.toNat)*7) (aj:List DV))=([.v (.string ⟨((ae s.kind.toNat).word).toArray⟩),.v (.bool ((ae s.kind.toNat).node)),.v (.bool ((ae s.kind.toNat).peer)),.v (.bool ((ae s.kind.toNat).n)),.v (.bool ((ae s.kind.toNat).bit)),.v (.bool ((ae s.kind.toNat).inc)),.v (.bool ((ae s.kind.toNat).body))]:List DV)) (U ((gj _):IntKind.u8.wrap (s.kind)=(((bz s.kind).toNat:Nat):Int)) (U (jW l (bz s.kind) (by first | omega | (simp [fT,eC];omega))) trivial))))) fun ac wd r=>?_
 suffices J5:∀ ac wd,RB D w0 K 60 bs [(0,.ep 0 1 (0) 0),(3,.pt 2 0),(4,.pt 3 0),(22,.d (.v (.bool ((ae s.kind.toNat).peer))))] [.rw 81 1 ([[.em 5 1 (af (l++[bz s.kind]++(if (ae s.kind.toNat).node=true then [bz s.node] else [])))]]),.gw 0 aj,.bx 45 [.z s.kind,.z s.node,.z s.peer,.z s.n,.z s.bit,.u s.inc,.d (.ro 1 (af s.body))],.bx 84 [.d (.v (.string ⟨((ae s.kind.toNat).word).toArray⟩)),.d (.v (.bool ((ae s.kind.toNat).node))),.d (.v (.bool ((ae s.kind.toNat).peer))),.d (.v (.bool ((ae s.kind.toNat).n))),.d (.v (.bool ((ae s.kind.toNat).bit))),.d (.v (.bool ((ae s.kind.toNat).inc))),.d (.v (.bool ((ae s.kind.toNat).body)))]] ac wd→aC Tryd.prog 18 (aft Tryd.f18 5) (ew D w0 K bs (.tu []) ([.rw 81 1 [[.em 5 1 (af (l++cg s))]],.gw 0 aj])) ac wd by
  cases h0:((ae s.kind.toNat).node) with
  | false=>
   have r:=r.cast (E':=[(0,.ep 0 1 (0) 0),(3,.pt 2 0),(4,.pt 3 0),(15,.d (.v (.bool false)))]) (M':=[.rw 81 1 ([[.em 5 1 (af (l++[(bz s.kind)]))]]),.gw 0 aj,.bx 45 [.z s.kind,.z s.node,.z s.peer,.z s.n,.z s.bit,.u s.inc,.d (.ro 1 (af s.body))],.bx 84 [.d (.v (.string ⟨((ae s.kind.toNat).word).toArray⟩)),.d (.v (.bool false)),.d (.v (.bool ((ae s.kind.toNat).peer))),.d (.v (.bool ((ae s.kind.toNat).n))),.d (.v (.bool ((ae s.kind.toNat).bit))),.d (.v (.bool ((ae s.kind.toNat).inc))),.d (.v (.bool ((ae s.kind.toNat).body)))]]) (by rw [h0]) (by rw [h0])
   refine bN (todo':=aft Tryd.f18 5) (E':=[(0,.ep 0 1 (0) 0),(3,.pt 2 0),(4,.pt 3 0),(22,.d (.v (.bool ((ae s.kind.toNat).peer))))]) (M':=[.rw 81 1 ([[.em 5 1 (af (l++[(bz s.kind)]))]]),.gw 0 aj,.bx 45 [.z s.kind,.z s.node,.z s.peer,.z s.n,.z s.bit,.u s.inc,.d (.ro 1 (af s.body))],.bx 84 [.d (.v (.string ⟨((ae s.kind.toNat).word).toArray⟩)),.d (.v (.bool false)),.d (.v (.bool ((ae s.kind.toNat).peer))),.d (.v (.bool ((ae s.kind.toNat).n))),.d (.v (.bool ((ae s.kind.toNat).bit))),.d (.v (.bool ((ae s.kind.toNat).inc))),.d (.v (.bool ((ae s.kind.toNat).body)))]]) tk mo hK al [] 5 [0,1,2,3] [0,3,4,22] r (by kernel_rfl) trivial fun ac wd r=>?_
   exact J5 ac wd (r.cast rfl (by rw [if_neg (ne_true_of_eq_false h0),h0]<;>simp [Int.max_eq_left dM]))
  | true=>
   have r:=r.cast (E':=[(0,.ep 0 1 (0) 0),(3,.pt 2 0),(4,.pt 3 0),(15,.d (.v (.bool true)))]) (M':=[.rw 81 1 ([[.em 5 1 (af (l++[(bz s.kind)]))]]),.gw 0 aj,.bx 45 [.z s.kind,.z s.node,.z s.peer,.z s.n,.z s.bit,.u s.inc,.d (.ro 1 (af s.body))],.bx 84 [.d (.v (.string ⟨((ae s.kind.toNat).word).toArray⟩)),.d (.v (.bool true)),.d (.v (.bool ((ae s.kind.toNat).peer))),.d (.v (.bool ((ae s.kind.toNat).n))),.d (.v (.bool ((ae s.kind.toNat).bit))),.d (.v (.bool ((ae s.kind.toNat).inc))),.d (.v (.bool ((ae s.kind.toNat).body)))]]) (by rw [h0]) (by rw [h0])
   refine bN (todo':=aft Tryd.f18 5) (E':=[(0,.ep 0 1 (0) 0),(3,.pt 2 0),(4,.pt 3 0),(22,.d (.v (.bool ((ae s.kind.toNat).peer))))]) (M':=[.rw 81 1 ([[.em 5 1 (af ((l++[(bz s.kind)])++[(bz s.node)]))]]),.gw 0 aj,.bx 45 [.z s.kind,.z s.node,.z s.peer,.z s.n,.z s.bit,.u s.inc,.d (.ro 1 (af s.body))],.bx 84 [.d (.v (.string ⟨((ae s.kind.toNat).word).toArray⟩)),.d (.v (.bool true)),.d (.v (.bool ((ae s.kind.toNat).peer))),.d (.v (.bool ((ae s.kind.toNat).n))),.d (.v (.bool ((ae s.kind.toNat).bit))),.d (.v (.bool ((ae s.kind.toNat).inc))),.d (.v (.bool ((ae s.kind.toNat).body)))]]) tk mo hK al [(4,[(3,.z ((((bz s.node).toNat:Nat):Int))),(4,.mem [0] (.tu []) [.rw 81 1 ([[.em 5 1 (af ((l++[(bz s.kind)])++[(bz s.node)]))]])])])] 5 [0,1,2,3] [0,3,4,22] r (by kernel_rfl) (U ((gj _):IntKind.u8.wrap (s.node)=(((bz s.node).toNat:Nat):Int)) (U (jW (l++[(bz s.kind)]) (bz s.node) (by first | omega | (simp [fT,eC];omega))) trivial)) fun ac wd r=>?_
   exact J5 ac wd (r.cast rfl (by rw [if_pos h0,h0]<;>simp [Int.max_eq_left dM]))
 intro ac wd r
 have Mg:=qd (b:=(ae s.kind.toNat).node) (l:=[bz s.node]) (n:=2) (by first | (simp;done) | exact eC hi)
 suffices J7:∀ ac wd,RB D w0 K 60 bs [(0,.ep 0 1 (0) 0),(3,.pt 2 0),(4,.pt 3 0),(29,.d (.v (.bool ((ae s.kind.toNat).n))))] [.rw 81 1 ([[.em 5 1 (af (l++[bz s.kind]++(if (ae s.kind.toNat).node=true then [bz s.node] else [])++(if (ae s.kind.toNat).peer=true then [bz s.peer] else [])))]]),.gw 0 aj,.bx 45 [.z s.kind,.z s.node,.z s.peer,.z s.n,.z s.bit,.u s.inc,.d (.ro 1 (af s.body))],.bx 84 [.d (.v (.string ⟨((ae s.kind.toNat).word).toArray⟩)),.d (.v (.bool ((ae s.kind.toNat).node))),.d (.v (.bool ((ae s.kind.toNat).peer))),.d (.v (.bool ((ae s.kind.toNat).n))),.d (.v (.bool ((ae s.kind.toNat).bit))),.d (.v (.bool ((ae s.kind.toNat).inc))),.d (.v (.bool ((ae s.kind.toNat).body)))]] ac wd→aC Tryd.prog 18 (aft Tryd.f18 7) (ew D w0 K bs (.tu []) ([.rw 81 1 [[.em 5 1 (af (l++cg s))]],.gw 0 aj])) ac wd by
  cases h1:((ae s.kind.toNat).peer) with
  | false=>
   have r:=r.cast (E':=[(0,.ep 0 1 (0) 0),(3,.pt 2 0),(4,.pt 3 0),(22,.d (.v (.bool false)))]) (M':=[.rw 81 1 ([[.em 5 1 (af (l++[bz s.kind]++(if (ae s.kind.toNat).node=true then [bz s.node] else [])))]]),.gw 0 aj,.bx 45 [.z s.kind,.z s.node,.z s.peer,.z s.n,.z s.bit,.u s.inc,.d (.ro 1 (af s.body))],.bx 84 [.d (.v (.string ⟨((ae s.kind.toNat).word).toArray⟩)),.d (.v (.bool ((ae s.kind.toNat).node))),.d (.v (.bool false)),.d (.v (.bool ((ae s.kind.toNat).n))),.d (.v (.bool ((ae s.kind.toNat).bit))),.d (.v (.bool ((ae s.kind.toNat).inc))),.d (.v (.bool ((ae s.kind.toNat).body)))]]) (by rw [h1]) (by rw [h1])
   refine bN (todo':=aft Tryd.f18 7) (E':=[(0,.ep 0 1 (0) 0),(3,.pt 2 0),(4,.pt 3 0),(29,.d (.v (.bool ((ae s.kind.toNat).n))))]) (M':=[.rw 81 1 ([[.em 5 1 (af (l++[bz s.kind]++(if (ae s.kind.toNat).node=true then [bz s.node] else [])))]]),.gw 0 aj,.bx 45 [.z s.kind,.z s.node,.z s.peer,.z s.n,.z s.bit,.u s.inc,.d (.ro 1 (af s.body))],.bx 84 [.d (.v (.string ⟨((ae s.kind.toNat).word).toArray⟩)),.d (.v (.bool ((ae s.kind.toNat).node))),.d (.v (.bool false)),.d (.v (.bool ((ae s.kind.toNat).n))),.d (.v (.bool ((ae s.kind.toNat).bit))),.d (.v (.bool ((ae s.kind.toNat).inc))),.d (.v (.bool ((ae s.kind.toNat).body)))]]) tk mo hK al [] 5 [0,1,2,3] [0,3,4,29] r (by kernel_rfl) trivial fun ac wd r=>?_
   exact J7 ac wd (r.cast rfl (by rw [if_neg (ne_true_of_eq_false h1),h1]<;>simp [Int.max_eq_left dM]))
  | true=>
   have r:=r.cast (E':=[(0,.ep 0 1 (0) 0),(3,.pt 2 0),(4,.pt 3 0),(22,.d (.v (.bool true)))]) (M':=[.rw 81 1 ([[.em 5 1 (af (l++[bz s.kind]++(if (ae s.kind.toNat).node=true then [bz s.node] else [])))]]),.gw 0 aj,.bx 45 [.z s.kind,.z s.node,.z s.peer,.z s.n,.z s.bit,.u s.inc,.d (.ro 1 (af s.body))],.bx 84 [.d (.v (.string ⟨((ae s.kind.toNat).word).toArray⟩)),.d (.v (.bool ((ae s.kind.toNat).node))),.d (.v (.bool true)),.d (.v (.bool ((ae s.kind.toNat).n))),.d (.v (.bool ((ae s.kind.toNat).bit))),.d (.v (.bool ((ae s.kind.toNat).inc))),.d (.v (.bool ((ae s.kind.toNat).body)))]]) (by rw [h1]) (by rw [h1])
   refine bN (todo':=aft Tryd.f18 7) (E':=[(0,.ep 0 1 (0) 0),(3,.pt 2 0),(4,.pt 3 0),(29,.d (.v (.bool ((ae s.kind.toNat).n))))]) (M':=[.rw 81 1 ([[.em 5 1 (af ((l++[bz s.kind]++(if (ae s.kind.toNat).node=true then [bz s.node] else []))++[(bz s.peer)]))]]),.gw 0 aj,.bx 45 [.z s.kind,.z s.node,.z s.peer,.z s.n,.z s.bit,.u s.inc,.d (.ro 1 (af s.body))],.bx 84 [.d (.v (.string ⟨((ae s.kind.toNat).word).toArray⟩)),.d (.v (.bool ((ae s.kind.toNat).node))),.d (.v (.bool true)),.d (.v (.bool ((ae s.kind.toNat).n))),.d (.v (.bool ((ae s.kind.toNat).bit))),.d (.v (.bool ((ae s.kind.toNat).inc))),.d (.v (.bool ((ae s.kind.toNat).body)))]]) tk mo hK al [(6,[(3,.z ((((bz s.peer).toNat:Nat):Int))),(4,.mem [0] (.tu []) [.rw 81 1 ([[.em 5 1 (af ((l++[bz s.kind]++(if (ae s.kind.toNat).node=true then [bz s.node] else []))++[(bz s.peer)]))]])])])] 5 [0,1,2,3] [0,3,4,29] r (by kernel_rfl) (U ((gj _):IntKind.u8.wrap (s.peer)=(((bz s.peer).toNat:Nat):Int)) (U (jW (l++[bz s.kind]++(if (ae s.kind.toNat).node=true then [bz s.node] else [])) (bz s.peer) (by first | omega | (simp [fT,eC];omega))) trivial)) fun ac wd r=>?_
   exact J7 ac wd (r.cast rfl (by rw [if_pos h1,h1]<;>simp [Int.max_eq_left dM]))
 intro ac wd r
 have x4:=qd (b:=(ae s.kind.toNat).peer) (l:=[bz s.peer]) (n:=2) (by first | (simp;done) | exact eC hi)
 suffices J9:∀ ac wd,RB D w0 K 60 bs [(0,.ep 0 1 (0) 0),(3,.pt 2 0),(4,.pt 3 0),(36,.d (.v (.bool ((ae s.kind.toNat).bit))))] [.rw 81 1 ([[.em 5 1 (af (l++[bz s.kind]++(if (ae s.kind.toNat).node=true then [bz s.node] else [])++(if (ae s.kind.toNat).peer=true then [bz s.peer] else [])++(if (ae s.kind.toNat).n=true then [bz s.n] else [])))]]),.gw 0 aj,.bx 45 [.z s.kind,.z s.node,.z s.peer,.z s.n,.z s.bit,.u s.inc,.d (.ro 1 (af s.body))],.bx 84 [.d (.v (.string ⟨((ae s.kind.toNat).word).toArray⟩)),.d (.v (.bool ((ae s.kind.toNat).node))),.d (.v (.bool ((ae s.kind.toNat).peer))),.d (.v (.bool ((ae s.kind.toNat).n))),.d (.v (.bool ((ae s.kind.toNat).bit))),.d (.v (.bool ((ae s.kind.toNat).inc))),.d (.v (.bool ((ae s.kind.toNat).body)))]] ac wd→aC Tryd.prog 18 (aft Tryd.f18 9) (ew D w0 K bs (.tu []) ([.rw 81 1 [[.em 5 1 (af (l++cg s))]],.gw 0 aj])) ac wd by
  cases h2:((ae s.kind.toNat).n) with
  | false=>
   have r:=r.cast (E':=[(0,.ep 0 1 (0) 0),(3,.pt 2 0),(4,.pt 3 0),(29,.d (.v (.bool false)))]) (M':=[.rw 81 1 ([[.em 5 1 (af (l++[bz s.kind]++(if (ae s.kind.toNat).node=true then [bz s.node] else [])++(if (ae s.kind.toNat).peer=true then [bz s.peer] else [])))]]),.gw 0 aj,.bx 45 [.z s.kind,.z s.node,.z s.peer,.z s.n,.z s.bit,.u s.inc,.d (.ro 1 (af s.body))],.bx 84 [.d (.v (.string ⟨((ae s.kind.toNat).word).toArray⟩)),.d (.v (.bool ((ae s.kind.toNat).node))),.d (.v (.bool ((ae s.kind.toNat).peer))),.d (.v (.bool false)),.d (.v (.bool ((ae s.kind.toNat).bit))),.d (.v (.bool ((ae s.kind.toNat).inc))),.d (.v (.bool ((ae s.kind.toNat).body)))]]) (by rw [h2]) (by rw [h2])
   refine bN (todo':=aft Tryd.f18 9) (E':=[(0,.ep 0 1 (0) 0),(3,.pt 2 0),(4,.pt 3 0),(36,.d (.v (.bool ((ae s.kind.toNat).bit))))]) (M':=[.rw 81 1 ([[.em 5 1 (af (l++[bz s.kind]++(if (ae s.kind.toNat).node=true then [bz s.node] else [])++(if (ae s.kind.toNat).peer=true then [bz s.peer] else [])))]]),.gw 0 aj,.bx 45 [.z s.kind,.z s.node,.z s.peer,.z s.n,.z s.bit,.u s.inc,.d (.ro 1 (af s.body))],.bx 84 [.d (.v (.string ⟨((ae s.kind.toNat).word).toArray⟩)),.d (.v (.bool ((ae s.kind.toNat).node))),.d (.v (.bool ((ae s.kind.toNat).peer))),.d (.v (.bool false)),.d (.v (.bool ((ae s.kind.toNat).bit))),.d (.v (.bool ((ae s.kind.toNat).inc))),.d (.v (.bool ((ae s.kind.toNat).body)))]]) tk mo hK al [] 5 [0,1,2,3] [0,3,4,36] r (by kernel_rfl) trivial fun ac wd r=>?_
   exact J9 ac wd (r.cast rfl (by rw [if_neg (ne_true_of_eq_false h2),h2]<;>simp [Int.max_eq_left dM]))
  | true=>
   have r:=r.cast (E':=[(0,.ep 0 1 (0) 0),(3,.pt 2 0),(4,.pt 3 0),(29,.d (.v (.bool true)))]) (M':=[.rw 81 1 ([[.em 5 1 (af (l++[bz s.kind]++(if (ae s.kind.toNat).node=true then [bz s.node] else [])++(if (ae s.kind.toNat).peer=true then [bz s.peer] else [])))]]),.gw 0 aj,.bx 45 [.z s.kind,.z s.node,.z s.peer,.z s.n,.z s.bit,.u s.inc,.d (.ro 1 (af s.body))],.bx 84 [.d (.v (.string ⟨((ae s.kind.toNat).word).toArray⟩)),.d (.v (.bool ((ae s.kind.toNat).node))),.d (.v (.bool ((ae s.kind.toNat).peer))),.d (.v (.bool true)),.d (.v (.bool ((ae s.kind.toNat).bit))),.d (.v (.bool ((ae s.kind.toNat).inc))),.d (.v (.bool ((ae s.kind.toNat).body)))]]) (by rw [h2]) (by rw [h2])
   refine bN (todo':=aft Tryd.f18 9) (E':=[(0,.ep 0 1 (0) 0),(3,.pt 2 0),(4,.pt 3 0),(36,.d (.v (.bool ((ae s.kind.toNat).bit))))]) (M':=[.rw 81 1 ([[.em 5 1 (af ((l++[bz s.kind]++(if (ae s.kind.toNat).node=true then [bz s.node] else [])++(if (ae s.kind.toNat).peer=true then [bz s.peer] else []))++[(bz s.n)]))]]),.gw 0 aj,.bx 45 [.z s.kind,.z s.node,.z s.peer,.z s.n,.z s.bit,.u s.inc,.d (.ro 1 (af s.body))],.bx 84 [.d (.v (.string ⟨((ae s.kind.toNat).word).toArray⟩)),.d (.v (.bool ((ae s.kind.toNat).node))),.d (.v (.bool ((ae s.kind.toNat).peer))),.d (.v (.bool true)),.d (.v (.bool ((ae s.kind.toNat).bit))),.d (.v (.bool ((ae s.kind.toNat).inc))),.d (.v (.bool ((ae s.kind.toNat).body)))]]) tk mo hK al [(8,[(3,.z ((((bz s.n).toNat:Nat):Int))),(4,.mem [0] (.tu []) [.rw 81 1 ([[.em 5 1 (af ((l++[bz s.kind]++(if (ae s.kind.toNat).node=true then [bz s.node] else [])++(if (ae s.kind.toNat).peer=true then [bz s.peer] else []))++[(bz s.n)]))]])])])] 5 [0,1,2,3] [0,3,4,36] r (by kernel_rfl) (U ((gj _):IntKind.u8.wrap (s.n)=(((bz s.n).toNat:Nat):Int)) (U (jW (l++[bz s.kind]++(if (ae s.kind.toNat).node=true then [bz s.node] else [])++(if (ae s.kind.toNat).peer=true then [bz s.peer] else [])) (bz s.n) (by first | omega | (simp [fT,eC];omega))) trivial)) fun ac wd r=>?_
   exact J9 ac wd (r.cast rfl (by rw [if_pos h2,h2]<;>simp [Int.max_eq_left dM]))
 intro ac wd r
 have Mh:=qd (b:=(ae s.kind.toNat).n) (l:=[bz s.n]) (n:=2) (by first | (simp;done) | exact eC hi)
 suffices qV:∀ ac wd,RB D w0 K 60 bs [(0,.ep 0 1 (0) 0),(3,.pt 2 0),(4,.pt 3 0),(43,.d (.v (.bool ((ae s.kind.toNat).inc))))] [.rw 81 1 ([[.em 5 1 (af (l++[bz s.kind]++(if (ae s.kind.toNat).node=true then [bz s.node] else [])++(if (ae s.kind.toNat).peer=true then [bz s.peer] else [])++(if (ae s.kind.toNat).n=true then [bz s.n] else [])++(if (ae s.kind.toNat).bit=true then [bz s.bit,bz (s.bit / 256)] else [])))]]),.gw 0 aj,.bx 45 [.z s.kind,.z s.node,.z s.peer,.z s.n,.z s.bit,.u s.inc,.d (.ro 1 (af s.body))],.bx 84 [.d (.v (.string ⟨((ae s.kind.toNat).word).toArray⟩)),.d (.v (.bool ((ae s.kind.toNat).node))),.d (.v (.bool ((ae s.kind.toNat).peer))),.d (.v (.bool ((ae s.kind.toNat).n))),.d (.v (.bool ((ae s.kind.toNat).bit))),.d (.v (.bool ((ae s.kind.toNat).inc))),.d (.v (.bool ((ae s.kind.toNat).body)))]] ac wd→aC Tryd.prog 18 (aft Tryd.f18 11) (ew D w0 K bs (.tu []) ([.rw 81 1 [[.em 5 1 (af (l++cg s))]],.gw 0 aj])) ac wd by
  cases h3:((ae s.kind.toNat).bit) with
  | false=>
   have r:=r.cast (E':=[(0,.ep 0 1 (0) 0),(3,.pt 2 0),(4,.pt 3 0),(36,.d (.v (.bool false)))]) (M':=[.rw 81 1 ([[.em 5 1 (af (l++[bz s.kind]++(if (ae s.kind.toNat).node=true then [bz s.node] else [])++(if (ae s.kind.toNat).peer=true then [bz s.peer] else [])++(if (ae s.kind.toNat).n=true then [bz s.n] else [])))]]),.gw 0 aj,.bx 45 [.z s.kind,.z s.node,.z s.peer,.z s.n,.z s.bit,.u s.inc,.d (.ro 1 (af s.body))],.bx 84 [.d (.v (.string ⟨((ae s.kind.toNat).word).toArray⟩)),.d (.v (.bool ((ae s.kind.toNat).node))),.d (.v (.bool ((ae s.kind.toNat).peer))),.d (.v (.bool ((ae s.kind.toNat).n))),.d (.v (.bool false)),.d (.v (.bool ((ae s.kind.toNat).inc))),.d (.v (.bool ((ae s.kind.toNat).body)))]]) (by rw [h3]) (by rw [h3])
   refine bN (todo':=aft Tryd.f18 11) (E':=[(0,.ep 0 1 (0) 0),(3,.pt 2 0),(4,.pt 3 0),(43,.d (.v (.bool ((ae s.kind.toNat).inc))))]) (M':=[.rw 81 1 ([[.em 5 1 (af (l++[bz s.kind]++(if (ae s.kind.toNat).node=true then [bz s.node] else [])++(if (ae s.kind.toNat).peer=true then [bz s.peer] else [])++(if (ae s.kind.toNat).n=true then [bz s.n] else [])))]]),.gw 0 aj,.bx 45 [.z s.kind,.z s.node,.z s.peer,.z s.n,.z s.bit,.u s.inc,.d (.ro 1 (af s.body))],.bx 84 [.d (.v (.string ⟨((ae s.kind.toNat).word).toArray⟩)),.d (.v (.bool ((ae s.kind.toNat).node))),.d (.v (.bool ((ae s.kind.toNat).peer))),.d (.v (.bool ((ae s.kind.toNat).n))),.d (.v (.bool false)),.d (.v (.bool ((ae s.kind.toNat).inc))),.d (.v (.bool ((ae s.kind.toNat).body)))]]) tk mo hK al [] 5 [0,1,2,3] [0,3,4,43] r (by kernel_rfl) trivial fun ac wd r=>?_
   exact qV ac wd (r.cast rfl (by rw [if_neg (ne_true_of_eq_false h3),h3]<;>simp [Int.max_eq_left dM]))
  | true=>
   have r:=r.cast (E':=[(0,.ep 0 1 (0) 0),(3,.pt 2 0),(4,.pt 3 0),(36,.d (.v (.bool true)))]) (M':=[.rw 81 1 ([[.em 5 1 (af (l++[bz s.kind]++(if (ae s.kind.toNat).node=true then [bz s.node] else [])++(if (ae s.kind.toNat).peer=true then [bz s.peer] else [])++(if (ae s.kind.toNat).n=true then [bz s.n] else [])))]]),.gw 0 aj,.bx 45 [.z s.kind,.z s.node,.z s.peer,.z s.n,.z s.bit,.u s.inc,.d (.ro 1 (af s.body))],.bx 84 [.d (.v (.string ⟨((ae s.kind.toNat).word).toArray⟩)),.d (.v (.bool ((ae s.kind.toNat).node))),.d (.v (.bool ((ae s.kind.toNat).peer))),.d (.v (.bool ((ae s.kind.toNat).n))),.d (.v (.bool true)),.d (.v (.bool ((ae s.kind.toNat).inc))),.d (.v (.bool ((ae s.kind.toNat).body)))]]) (by rw [h3]) (by rw [h3])
   refine bN (todo':=aft Tryd.f18 11) (E':=[(0,.ep 0 1 (0) 0),(3,.pt 2 0),(4,.pt 3 0),(43,.d (.v (.bool ((ae s.kind.toNat).inc))))]) (M':=[.rw 81 1 ([[.em 5 1 (af ((l++[bz s.kind]++(if (ae s.kind.toNat).node=true then [bz s.node] else [])++(if (ae s.kind.toNat).peer=true then [bz s.peer] else [])++(if (ae s.kind.toNat).n=true then [bz s.n] else []))++[bz ((s.bit.toNat:Nat):Int),bz ((s.bit.toNat / 256:Nat):Int)]))]]),.gw 0 aj,.bx 45 [.z s.kind,.z s.node,.z s.peer,.z s.n,.z s.bit,.u s.inc,.d (.ro 1 (af s.body))],.bx 84 [.d (.v (.string ⟨((ae s.kind.toNat).word).toArray⟩)),.d (.v (.bool ((ae s.kind.toNat).node))),.d (.v (.bool ((ae s.kind.toNat).peer))),.d (.v (.bool ((ae s.kind.toNat).n))),.d (.v (.bool true)),.d (.v (.bool ((ae s.kind.toNat).inc))),.d (.v (.bool ((ae s.kind.toNat).body)))]]) tk mo hK al [(10,[(3,.z (((s.bit.toNat:Nat):Int))),(4,.mem [0] (.tu []) [.rw 81 1 ([[.em 5 1 (af ((l++[bz s.kind]++(if (ae s.kind.toNat).node=true then [bz s.node] else [])++(if (ae s.kind.toNat).peer=true then [bz s.peer] else [])++(if (ae s.kind.toNat).n=true then [bz s.n] else []))++[bz ((s.bit.toNat:Nat):Int),bz ((s.bit.toNat / 256:Nat):Int)]))]])])])] 5 [0,1,2,3] [0,3,4,43] r (by kernel_rfl) (U ((K6 (by omega) (by omega)):IntKind.u16.wrap (s.bit)=((s.bit.toNat:Nat):Int)) (U (K1 (l++[bz s.kind]++(if (ae s.kind.toNat).node=true then [bz s.node] else [])++(if (ae s.kind.toNat).peer=true then [bz s.peer] else [])++(if (ae s.kind.toNat).n=true then [bz s.n] else [])) s.bit.toNat (by omega) (by first | omega | (simp [fT,eC];omega))) trivial)) fun ac wd r=>?_
   exact qV ac wd (r.cast rfl (by rw [if_pos h3,h3]<;>simp [Int.max_eq_left dM]))
 intro ac wd r
 have Mi:=qd (b:=(ae s.kind.toNat).bit) (l:=[bz s.bit,bz (s.bit / 256)]) (n:=2) (by first | (simp;done) | exact eC hi)
 suffices qW:∀ ac wd,RB D w0 K 60 bs [(0,.ep 0 1 (0) 0),(3,.pt 2 0),(4,.pt 3 0),(49,.d (.v (.bool ((ae s.kind.toNat).body))))] [.rw 81 1 ([[.em 5 1 (af (l++[bz s.kind]++(if (ae s.kind.toNat).node=true then [bz s.node] else [])++(if (ae s.kind.toNat).peer=true then [bz s.peer] else [])++(if (ae s.kind.toNat).n=true then [bz s.n] else [])++(if (ae s.kind.toNat).bit=true then [bz s.bit,bz (s.bit / 256)] else [])++(if (ae s.kind.toNat).inc=true then cm s.inc else [])))]]),.gw 0 aj,.bx 45 [.z s.kind,.z s.node,.z s.peer,.z s.n,.z s.bit,.u s.inc,.d (.ro 1 (af s.body))],.bx 84 [.d (.v (.string ⟨((ae s.kind.toNat).word).toArray⟩)),.d (.v (.bool ((ae s.kind.toNat).node))),.d (.v (.bool ((ae s.kind.toNat).peer))),.d (.v (.bool ((ae s.kind.toNat).n))),.d (.v (.bool ((ae s.kind.toNat).bit))),.d (.v (.bool ((ae s.kind.toNat).inc))),.d (.v (.bool ((ae s.kind.toNat).body)))]] ac wd→aC Tryd.prog 18 (aft Tryd.f18 13) (ew D w0 K bs (.tu []) ([.rw 81 1 [[.em 5 1 (af (l++cg s))]],.gw 0 aj])) ac wd by
  cases h4:((ae s.kind.toNat).inc) with
  | false=>
   have r:=r.cast (E':=[(0,.ep 0 1 (0) 0),(3,.pt 2 0),(4,.pt 3 0),(43,.d (.v (.bool false)))]) (M':=[.rw 81 1 ([[.em 5 1 (af (l++[bz s.kind]++(if (ae s.kind.toNat).node=true then [bz s.node] else [])++(if (ae s.kind.toNat).peer=true then [bz s.peer] else [])++(if (ae s.kind.toNat).n=true then [bz s.n] else [])++(if (ae s.kind.toNat).bit=true then [bz s.bit,bz (s.bit / 256)] else [])))]]),.gw 0 aj,.bx 45 [.z s.kind,.z s.node,.z s.peer,.z s.n,.z s.bit,.u s.inc,.d (.ro 1 (af s.body))],.bx 84 [.d (.v (.string ⟨((ae s.kind.toNat).word).toArray⟩)),.d (.v (.bool ((ae s.kind.toNat).node))),.d (.v (.bool ((ae s.kind.toNat).peer))),.d (.v (.bool ((ae s.kind.toNat).n))),.d (.v (.bool ((ae s.kind.toNat).bit))),.d (.v (.bool false)),.d (.v (.bool ((ae s.kind.toNat).body)))]]) (by rw [h4]) (by rw [h4])
   refine bN (todo':=aft Tryd.f18 13) (E':=[(0,.ep 0 1 (0) 0),(3,.pt 2 0),(4,.pt 3 0),(49,.d (.v (.bool ((ae s.kind.toNat).body))))]) (M':=[.rw 81 1 ([[.em 5 1 (af (l++[bz s.kind]++(if (ae s.kind.toNat).node=true then [bz s.node] else [])++(if (ae s.kind.toNat).peer=true then [bz s.peer] else [])++(if (ae s.kind.toNat).n=true then [bz s.n] else [])++(if (ae s.kind.toNat).bit=true then [bz s.bit,bz (s.bit / 256)] else [])))]]),.gw 0 aj,.bx 45 [.z s.kind,.z s.node,.z s.peer,.z s.n,.z s.bit,.u s.inc,.d (.ro 1 (af s.body))],.bx 84 [.d (.v (.string ⟨((ae s.kind.toNat).word).toArray⟩)),.d (.v (.bool ((ae s.kind.toNat).node))),.d (.v (.bool ((ae s.kind.toNat).peer))),.d (.v (.bool ((ae s.kind.toNat).n))),.d (.v (.bool ((ae s.kind.toNat).bit))),.d (.v (.bool false)),.d (.v (.bool ((ae s.kind.toNat).body)))]]) tk mo hK al [] 4 [0,1,2,3] [0,3,4,49] r (by kernel_rfl) trivial fun ac wd r=>?_
   exact qW ac wd (r.cast rfl (by rw [if_neg (ne_true_of_eq_false h4),h4]<;>simp [Int.max_eq_left dM]))
  | true=>
   have r:=r.cast (E':=[(0,.ep 0 1 (0) 0),(3,.pt 2 0),(4,.pt 3 0),(43,.d (.v (.bool true)))]) (M':=[.rw 81 1 ([[.em 5 1 (af (l++[bz s.kind]++(if (ae s.kind.toNat).node=true then [bz s.node] else [])++(if (ae s.kind.toNat).peer=true then [bz s.peer] else [])++(if (ae s.kind.toNat).n=true then [bz s.n] else [])++(if (ae s.kind.toNat).bit=true then [bz s.bit,bz (s.bit / 256)] else [])))]]),.gw 0 aj,.bx 45 [.z s.kind,.z s.node,.z s.peer,.z s.n,.z s.bit,.u s.inc,.d (.ro 1 (af s.body))],.bx 84 [.d (.v (.string ⟨((ae s.kind.toNat).word).toArray⟩)),.d (.v (.bool ((ae s.kind.toNat).node))),.d (.v (.bool ((ae s.kind.toNat).peer))),.d (.v (.bool ((ae s.kind.toNat).n))),.d (.v (.bool ((ae s.kind.toNat).bit))),.d (.v (.bool true)),.d (.v (.bool ((ae s.kind.toNat).body)))]]) (by rw [h4]) (by rw [h4])
   refine bN (todo':=aft Tryd.f18 13) (E':=[(0,.ep 0 1 (0) 0),(3,.pt 2 0),(4,.pt 3 0),(49,.d (.v (.bool ((ae s.kind.toNat).body))))]) (M':=[.rw 81 1 ([[.em 5 1 (af ((l++[bz s.kind]++(if (ae s.kind.toNat).node=true then [bz s.node] else [])++(if (ae s.kind.toNat).peer=true then [bz s.peer] else [])++(if (ae s.kind.toNat).n=true then [bz s.n] else [])++(if (ae s.kind.toNat).bit=true then [bz s.bit,bz (s.bit / 256)] else []))++cm s.inc))]]),.gw 0 aj,.bx 45 [.z s.kind,.z s.node,.z s.peer,.z s.n,.z s.bit,.u s.inc,.d (.ro 1 (af s.body))],.bx 84 [.d (.v (.string ⟨((ae s.kind.toNat).word).toArray⟩)),.d (.v (.bool ((ae s.kind.toNat).node))),.d (.v (.bool ((ae s.kind.toNat).peer))),.d (.v (.bool ((ae s.kind.toNat).n))),.d (.v (.bool ((ae s.kind.toNat).bit))),.d (.v (.bool true)),.d (.v (.bool ((ae s.kind.toNat).body)))]]) tk mo hK al [(12,[(3,.mem [0] (.tu []) [.rw 81 1 ([[.em 5 1 (af ((l++[bz s.kind]++(if (ae s.kind.toNat).node=true then [bz s.node] else [])++(if (ae s.kind.toNat).peer=true then [bz s.peer] else [])++(if (ae s.kind.toNat).n=true then [bz s.n] else [])++(if (ae s.kind.toNat).bit=true then [bz s.bit,bz (s.bit / 256)] else []))++cm s.inc))]])])])] 4 [0,1,2,3] [0,3,4,49] r (by kernel_rfl) (U (J2 (l++[bz s.kind]++(if (ae s.kind.toNat).node=true then [bz s.node] else [])++(if (ae s.kind.toNat).peer=true then [bz s.peer] else [])++(if (ae s.kind.toNat).n=true then [bz s.n] else [])++(if (ae s.kind.toNat).bit=true then [bz s.bit,bz (s.bit / 256)] else [])) s.inc (by omega) (by first | omega | (simp [fT,eC];omega))) trivial) fun ac wd r=>?_
   exact qW ac wd (r.cast rfl (by rw [if_pos h4,h4]<;>simp [Int.max_eq_left dM]))
 intro ac wd r
 have NF:=qd (b:=(ae s.kind.toNat).inc) (l:=cm s.inc) (n:=10) (by first | (simp;done) | exact eC hi)
 cases h5:((ae s.kind.toNat).body) with
 | false=>
  have r:=r.cast (E':=[(0,.ep 0 1 (0) 0),(3,.pt 2 0),(4,.pt 3 0),(49,.d (.v (.bool false)))]) (M':=[.rw 81 1 ([[.em 5 1 (af (l++[bz s.kind]++(if (ae s.kind.toNat).node=true then [bz s.node] else [])++(if (ae s.kind.toNat).peer=true then [bz s.peer] else [])++(if (ae s.kind.toNat).n=true then [bz s.n] else [])++(if (ae s.kind.toNat).bit=true then [bz s.bit,bz (s.bit / 256)] else [])++(if (ae s.kind.toNat).inc=true then cm s.inc else [])))]]),.gw 0 aj,.bx 45 [.z s.kind,.z s.node,.z s.peer,.z s.n,.z s.bit,.u s.inc,.d (.ro 1 (af s.body))],.bx 84 [.d (.v (.string ⟨((ae s.kind.toNat).word).toArray⟩)),.d (.v (.bool ((ae s.kind.toNat).node))),.d (.v (.bool ((ae s.kind.toNat).peer))),.d (.v (.bool ((ae s.kind.toNat).n))),.d (.v (.bool ((ae s.kind.toNat).bit))),.d (.v (.bool ((ae s.kind.toNat).inc))),.d (.v (.bool false))]]) (by rw [h5]) (by rw [h5])
  refine a7 (y:=.tu []) (N':=[.rw 81 1 ([[.em 5 1 (af (l++[bz s.kind]++(if (ae s.kind.toNat).node=true then [bz s.node] else [])++(if (ae s.kind.toNat).peer=true then [bz s.peer] else [])++(if (ae s.kind.toNat).n=true then [bz s.n] else [])++(if (ae s.kind.toNat).bit=true then [bz s.bit,bz (s.bit / 256)] else [])++(if (ae s.kind.toNat).inc=true then cm s.inc else [])))]]),.gw 0 aj]) (rfl) ((nN (by unfold cg jO;rw [if_neg (ne_true_of_eq_false h5)];simp) _)) ?_
  exact aZ tk mo hK rfl al [] 2000 [0,1] r (by kernel_rfl) trivial
 | true=>
  have r:=r.cast (E':=[(0,.ep 0 1 (0) 0),(3,.pt 2 0),(4,.pt 3 0),(49,.d (.v (.bool true)))]) (M':=[.rw 81 1 ([[.em 5 1 (af (l++[bz s.kind]++(if (ae s.kind.toNat).node=true then [bz s.node] else [])++(if (ae s.kind.toNat).peer=true then [bz s.peer] else [])++(if (ae s.kind.toNat).n=true then [bz s.n] else [])++(if (ae s.kind.toNat).bit=true then [bz s.bit,bz (s.bit / 256)] else [])++(if (ae s.kind.toNat).inc=true then cm s.inc else [])))]]),.gw 0 aj,.bx 45 [.z s.kind,.z s.node,.z s.peer,.z s.n,.z s.bit,.u s.inc,.d (.ro 1 (af s.body))],.bx 84 [.d (.v (.string ⟨((ae s.kind.toNat).word).toArray⟩)),.d (.v (.bool ((ae s.kind.toNat).node))),.d (.v (.bool ((ae s.kind.toNat).peer))),.d (.v (.bool ((ae s.kind.toNat).n))),.d (.v (.bool ((ae s.kind.toNat).bit))),.d (.v (.bool ((ae s.kind.toNat).inc))),.d (.v (.bool true))]]) (by rw [h5]) (by rw [h5])
  refine a7 (y:=.tu []) (N':=[.rw 81 1 ([[.em 5 1 (af (((l++[bz s.kind]++(if (ae s.kind.toNat).node=true then [bz s.node] else [])++(if (ae s.kind.toNat).peer=true then [bz s.peer] else [])++(if (ae s.kind.toNat).n=true then [bz s.n] else [])++(if (ae s.kind.toNat).bit=true then [bz s.bit,bz (s.bit / 256)] else [])++(if (ae s.kind.toNat).inc=true then cm s.inc else []))++[(bz ((s.body.length:Nat):Int))])++s.body))]]),.gw 0 aj]) (rfl) ((nN (by unfold cg jO;rw [if_pos h5];simp) _)) ?_
  exact aZ tk mo hK rfl al [(14,[(3,.z (((s.body.length:Nat):Int))),(4,.z ((((bz ((s.body.length:Nat):Int)).toNat:Nat):Int))),(5,.mem [0] (.tu []) [.rw 81 1 ([[.em 5 1 (af ((l++[bz s.kind]++(if (ae s.kind.toNat).node=true then [bz s.node] else [])++(if (ae s.kind.toNat).peer=true then [bz s.peer] else [])++(if (ae s.kind.toNat).n=true then [bz s.n] else [])++(if (ae s.kind.toNat).bit=true then [bz s.bit,bz (s.bit / 256)] else [])++(if (ae s.kind.toNat).inc=true then cm s.inc else []))++[(bz ((s.body.length:Nat):Int))]))]])])]),(15,[(3,.mem [0] (.tu []) [.rw 81 1 ([[.em 5 1 (af (((l++[bz s.kind]++(if (ae s.kind.toNat).node=true then [bz s.node] else [])++(if (ae s.kind.toNat).peer=true then [bz s.peer] else [])++(if (ae s.kind.toNat).n=true then [bz s.n] else [])++(if (ae s.kind.toNat).bit=true then [bz s.bit,bz (s.bit / 256)] else [])++(if (ae s.kind.toNat).inc=true then cm s.inc else []))++[(bz ((s.body.length:Nat):Int))])++s.body))]])])])] 2000 [0,1] r (by kernel_rfl) (U ((by first | rfl | simp [af,ah,ints,steps,strs]):(((af s.body).length:Nat):Int)=((s.body.length:Nat):Int)) (U ((gj _):IntKind.u8.wrap (((s.body.length:Nat):Int))=(((bz ((s.body.length:Nat):Int)).toNat:Nat):Int)) (U (jW (l++[bz s.kind]++(if (ae s.kind.toNat).node=true then [bz s.node] else [])++(if (ae s.kind.toNat).peer=true then [bz s.peer] else [])++(if (ae s.kind.toNat).n=true then [bz s.n] else [])++(if (ae s.kind.toNat).bit=true then [bz s.bit,bz (s.bit / 256)] else [])++(if (ae s.kind.toNat).inc=true then cm s.inc else [])) (bz ((s.body.length:Nat):Int)) (by first | omega | (simp [fT,eC];omega))) (U (K3 ((l++[bz s.kind]++(if (ae s.kind.toNat).node=true then [bz s.node] else [])++(if (ae s.kind.toNat).peer=true then [bz s.peer] else [])++(if (ae s.kind.toNat).n=true then [bz s.n] else [])++(if (ae s.kind.toNat).bit=true then [bz s.bit,bz (s.bit / 256)] else [])++(if (ae s.kind.toNat).inc=true then cm s.inc else []))++[(bz ((s.body.length:Nat):Int))]) s.body (by omega) (by first | omega | (simp [fT,eC];omega))) trivial))))
end Go.Proofs.YtcnpikbbmbombaaDoor
namespace Go.Proofs.YtcnpikbbmbombaaDoor
open Go.RowKit
def dq (c:bY) (l:List aJ):List UInt8:=cf c++l.flatMap cg
noncomputable def dK (c:bY) (l:List aJ):Int:=bif bT c then (bif l.all hasB then (bif decide (65536<(dq c l).length) then 2 else 0) else 1) else 1
noncomputable def ns (c:bY) (l:List aJ):AV:=bif decide (dK c l=0) then .tu [.sl 1 (dq c l).length,.z 0] else .tu [.d (.v (.slice none 0 0)),.z (dK c l)]
noncomputable def nt (c:bY) (l:List aJ):List ai:=bif decide (dK c l=0) then [.gw 0 aj,.rw 5 1 (af (dq c l))] else [.gw 0 aj]
def b5 (a:List UInt8):List aJ→List UInt8
 | []=>a
 | s::r=>b5 (if a.length≤65536 then a++cg s else a) r
theorem rh {l:List aJ} {i:Nat} {s:aJ} (a:List UInt8) (h:l[i]?=some s):b5 a (l.take (i+1))=if (b5 a (l.take i)).length≤65536 then b5 a (l.take i)++cg s else b5 a (l.take i):=by
 have key:∀ (l:List aJ) (a:List UInt8) (s:aJ),b5 a (l++[s])=if (b5 a l).length≤65536 then b5 a l++cg s else b5 a l:=by
  intro l
  induction l with
  | nil=>intro a s;rfl
  | cons x r ih=>intro a s;rw [List.cons_append,b5,b5,ih]
 rw [List.take_add_one,h];exact key _ _ _
theorem rP:∀ (l:List aJ) (a:List UInt8),(if 65536<(b5 a l).length then 65536<(a++l.flatMap cg).length else b5 a l=a++l.flatMap cg)
 | [],a=>by simp [b5]
 | s::r,a=>by
  rw [b5]
  by_cases h:a.length≤65536
  ·rw [if_pos h]
   have:=rP r (a++cg s)
   rw [List.flatMap_cons,← List.append_assoc];exact this
  ·rw [if_neg h]
   have h1:65536<(b5 a r).length:=by
    have:=rP r a
    rcases Nat.lt_or_ge 65536 (b5 a r).length with h2 | h2
    ·exact h2
    ·rw [if_neg (by omega)] at this;rw [this,List.length_append] at h2;omega
   rw [if_pos h1,List.length_append];omega
theorem lJ {c:bY} {l:List aJ} {i:Nat} (hi:¬ (i:Int)<l.length) (h:65536<(b5 (cf c) (l.take i)).length):65536<(dq c l).length:=by rw [List.take_of_length_le (by omega)] at h;have:=rP l (cf c);rw [if_pos h] at this;exact this
theorem fU {c:bY} {l:List aJ} {i:Nat} (hi:¬ (i:Int)<l.length) (h:(b5 (cf c) (l.take i)).length≤65536):b5 (cf c) (l.take i)=dq c l:=by rw [List.take_of_length_le (by omega)] at h ⊢;have:=rP l (cf c);rw [if_neg (by omega)] at this;exact this
theorem sq {s:aJ} (h:hasB s=true):0≤s.kind∧s.kind<14∧s.body.length≤255∧0≤s.bit∧s.bit≤65535∧0≤s.node∧s.node≤255∧0≤s.peer∧s.peer≤255∧0≤s.n∧s.n≤255:=by
 unfold hasB eX cE at h
 simp only [Bool.and_eq_true,Bool.or_eq_true,decide_eq_true_eq] at h
 omega
theorem Gb {x:jw} {s:aJ} (hb:s.body.length≤255) (hi:s.inc<18446744073709551616):(jO x s).length≤300:=by
 have:=eC hi
 unfold jO
 simp only [List.length_append]
 have h1:∀ {b:Bool} {p:List UInt8} {n:Nat},p.length≤n→(if b=true then p else []).length≤n:=by
  intro b p n h;split
  ·exact h
  ·simp
 have a1:=h1 (b:=x.node) (p:=[bz s.node]) (n:=1) (by simp)
 have a2:=h1 (b:=x.peer) (p:=[bz s.peer]) (n:=1) (by simp)
 have a3:=h1 (b:=x.n) (p:=[bz s.n]) (n:=1) (by simp)
 have a4:=h1 (b:=x.bit) (p:=[bz s.bit,bz (s.bit / 256)]) (n:=2) (by simp)
 have a5:=h1 (b:=x.inc) (p:=cm s.inc) (n:=10) this
 have a6:=h1 (b:=x.body) (p:=bz ((s.body.length:Nat):Int)::s.body) (n:=256) (by simp;omega)
 omega
theorem Gc {s:aJ} (hb:s.body.length≤255) (hi:s.inc<18446744073709551616):(cg s).length≤301:=by
 have:=Gb (x:=ae s.kind.toNat) hb hi
 unfold cg;simp;omega
theorem rH (c:bY):(cf c).length=3+2*c.ah.length+c.homes.length:=by unfold cf;simp [fT];omega
def k4 (l:List aJ) (i:Nat):Prop:=∀ (j:Nat) s,j<i→l[j]?=some s→hasB s=true
theorem k4.none (l:List aJ):k4 l 0:=fun _ _ h=>absurd h (Nat.not_lt_zero _)
theorem k4.next {l:List aJ} {i:Nat} {s:aJ} (h:k4 l i) (g:l[i]?=some s) (h1:hasB s=true):k4 l (i+1):=fun j y hj gy=>by
 rcases Nat.lt_succ_iff_lt_or_eq.1 hj with h' | rfl
 ·exact h j y h' gy
 ·rw [g] at gy;cases gy;exact h1
theorem k4.all {l:List aJ} {i:Nat} (h:k4 l i) (hi:¬ (i:Int)<l.length):l.all hasB=true:=by
 rw [List.all_eq_true];intro s hs
 obtain ⟨j,hj,rfl⟩:=List.getElem_of_mem hs
 exact h j _ (by omega) (List.getElem?_eq_getElem hj)
theorem lQ {l:List aJ} {i:Nat} {s:aJ} (g:l[i]?=some s) (h1:hasB s=false):l.all hasB=false:=by
 rw [List.all_eq_false];exact ⟨s,List.mem_of_getElem? g,by simp [h1]⟩
section
variable {c:bY} {l:List aJ}
theorem fV (h:bT c=false∨l.all hasB=false):dK c l=1:=by
 unfold dK
 rcases h with h | h
 ·rw [h];rfl
 ·rw [h];cases bT c<;>rfl
theorem lF (h1:bT c=true) (h2:l.all hasB=true) (h:65536<(dq c l).length):dK c l=2:=by unfold dK;rw [h1,h2,decide_eq_true h];rfl
theorem j8 (h1:bT c=true) (h2:l.all hasB=true) (h:(dq c l).length≤65536):dK c l=0:=by unfold dK;rw [h1,h2,decide_eq_false (by omega)];rfl
theorem je {z:Int} (h:dK c l=z) (hz:z≠0):ns c l=.tu [.d (.v (.slice none 0 0)),.z z]:=by unfold ns;rw [decide_eq_false (by omega),h];rfl
theorem jf {z:Int} (h:dK c l=z) (hz:z≠0):nt c l=[.gw 0 aj]:=by unfold nt;rw [decide_eq_false (by omega)];rfl
theorem zB (h:dK c l=0):ns c l=.tu [.sl 1 (dq c l).length,.z 0]:=by unfold ns;rw [decide_eq_true h];rfl
theorem zC (h:dK c l=0):nt c l=[.gw 0 aj,.rw 5 1 (af (dq c l))]:=by unfold nt;rw [decide_eq_true h];rfl
end
theorem ri {c:bY} {l:List aJ} {b:List UInt8} (h:dK c l=0) (hb:b=dq c l):ns c l=.tu [.sl 1 b.length,.z 0]:=by rw [zB h,hb]
theorem rj {c:bY} {l:List aJ} {b:List UInt8} (h:dK c l=0) (hb:b=dq c l):nt c l=[.gw 0 aj,.rw 5 1 (af b)]:=by rw [zC h,hb]
theorem Kf:ax Tryd.prog 14 [] [] (.ep 0 1 0 0) (iC []):=by
 refine ⟨B3.1,fun {D w0 K0 β F I w} ys R hK hl hr=>(B3.2 ys R hK hl hr).mono ?_⟩
 rintro e w' ⟨v,rfl,au,F',I',R',e1,hI,ha⟩
 have q5:β=[]:=List.eq_nil_of_length_eq_zero R.len
 subst q5
 cases ha with
 | @pt _ _ b cc hb=>
 have hB:=R'.blk 0 _ rfl
 generalize o5:F' 0=F0 at hB
 cases hB with
 | bx aI ys my ju=>
  rw [hb] at aI;cases aI
  obtain ⟨y,rfl⟩:∃ y,ys=[y]:=by
   cases ys with
   | nil=>simp at my
   | cons y r=>cases r with
    | nil=>exact ⟨y,rfl⟩
    | cons _ _=>simp at my
  have hy:y=.slice none 0 0:=by
   have h0:=ju 0 _ y rfl rfl
   cases h0 with | d h0=>cases h0;rfl
  subst hy
  refine ⟨_,rfl,[(some ⟨b,0,none⟩,1)],F',I',⟨rfl,fun u blk hu=>?_,R'.st⟩,fun u x hx=>by simp at hx,hI,.ep (u:=0) rfl⟩
  cases u with
  | succ u=>simp [iC] at hu
  | zero=>
   simp only [iC,List.getElem?_cons_zero,Option.some.injEq] at hu;subst hu
   rw [o5]
   have:=bg.rw (K:=fun w=>K0 w∧Holds w I') (β:=[(some ⟨b,0,none⟩,1)]) (u:=0) (T:=81) (k:=1) (rows:=[[DV.em 5 1 (af [])]]) (H0:=[(b,.cells #[.slice none 0 0] 81 (0,0))]) rfl (fun _=>[.slice none 0 0]) (fun _ _=>[]) (fun i r hi=>by
    cases i with
    | zero=>simp at hi;subst hi;exact ⟨rfl,rfl⟩
    | succ i=>simp at hi) ⟨rfl,Or.inr ⟨b,1,_,rfl,rfl,rfl,Nat.le_refl _,rfl⟩⟩ (fun i r j c x hi h1 h2=>by
    cases i with
    | succ i=>simp at hi
    | zero=>
     simp at hi;subst hi
     cases j with
     | succ j=>simp at h1
     | zero=>simp at h1 h2;subst h1;subst h2;exact Le.Ba _ _ _ _ _ (.v _))
   simpa [bk] using this
set_option maxRecDepth 100000 in
theorem AE (c:bY) (l:List aJ) (hc:c.ah.length≤1048576) (hh:c.homes.length≤1048576) (hl:l.length≤9223372036854775807) (hr:∀ s ∈ l,s.Rd):ax Tryd.prog 7 [.ag [.z c.aK,.d (.ro 2 (ah c.ah)),.d (.ro 1 (ints c.homes))],.d (.ro 7 (steps l))] [.gw 0 aj] (ns c l) (nt c l):=by
 refine ax.intro (by kernel_rfl) rfl rfl 37 rfl rfl fun D w0 K bs ac wd hK (al:bs.m=1) r=>?_
 cases h0:(bT c) with
 | false=>
  refine a7 (y:=.tu [.d (.v (.slice none 0 0)),.z 1]) (N':=[.gw 0 aj]) ((by first | exact je (fV (.inl (by assumption))) (by decide) | exact je (fV (.inr (lQ dR (by assumption)))) (by decide) | exact je (lF (by assumption) (aq.1.all (by assumption)) (lJ (by assumption) (by omega))) (by decide) | exact ri (j8 (by assumption) (aq.1.all (by assumption)) (by rw [← fU (by assumption) (by omega)];omega)) (fU (by assumption) (by omega)))) ((by first | exact jf (fV (.inl (by assumption))) (by decide) | exact jf (fV (.inr (lQ dR (by assumption)))) (by decide) | exact jf (lF (by assumption) (aq.1.all (by assumption)) (lJ (by assumption) (by omega))) (by decide) | exact rj (j8 (by assumption) (aq.1.all (by assumption)) (by rw [← fU (by assumption) (by omega)];omega)) (fU (by assumption) (by omega)))) ?_
  exact aZ tk mo hK rfl al [(1,[(1,.aP (.v (.bool false)))])] 2000 [0] r (by kernel_rfl) (U ((by have k:=oK c (by omega) (by omega);rw [h0] at k;exact k):ay Tryd.prog 13 [.ag [.z c.aK,.d (.ro 2 (ah c.ah)),.d (.ro 1 (ints c.homes))]] (.v (.bool false))) trivial)
 | true=>
  refine cF (todo':=hd Tryd.f7 0) (E':=[(6,.ep 2 1 (0) 0),(16,.d (.ro 7 (steps l))),(17,.n l.length),(18,.z 0)]) (M':=[.gw 0 aj,.bx 25 [.z c.aK,.d (.ro 2 (ah c.ah)),.d (.ro 1 (ints c.homes))],.rw 81 1 ([[.em 5 1 (af (([])++cf c))]])]) tk mo hK al [(1,[(1,.aP (.v (.bool true)))]),(3,[(0,.mem [] (.ep 0 1 (0) 0) [.rw 81 1 ([[.em 5 1 (af ([]))]])])]),(4,[(2,.mem [2] (.tu []) [.rw 81 1 ([[.em 5 1 (af (([])++cf c))]])])]),(5,[(1,.z (((l.length:Nat):Int)))])] 2000 [0,1,2] [6,16,17,18] r (by kernel_rfl) (U ((by have k:=oK c (by omega) (by omega);rw [h0] at k;exact k):ay Tryd.prog 13 [.ag [.z c.aK,.d (.ro 2 (ah c.ah)),.d (.ro 1 (ints c.homes))]] (.v (.bool true))) (U (Kf) (U (IU ([]) c (by simp) hc hh) (U ((by first | rfl | simp [af,ah,ints,steps,strs]):(((steps l).length:Nat):Int)=((l.length:Nat):Int)) trivial)))) fun ac wd r=>?_
  refine aC.rounds (Φ:=fun (i:Nat) ac wd=>(k4 l i∧(b5 (cf c) (l.take i)).length≤3200000)∧RB D w0 K 37 bs [(6,.ep 2 1 (0) 0),(16,.d (.ro 7 (steps l))),(17,.n l.length),(18,.n i)] [.gw 0 aj,.bx 25 [.z c.aK,.d (.ro 2 (ah c.ah)),.d (.ro 1 (ints c.homes))],.rw 81 1 ([[.em 5 1 (af (b5 (cf c) (l.take i)))]])] ac wd) (l.length) ?_ (Nat.zero_le _) ⟨⟨k4.none l,by rw [List.take_zero];simp only [b5];rw [rH];omega⟩,(r).cast rfl (by simp [b5])⟩
  clear r
  rintro i e7 b6 ac wd ⟨aq,r⟩
  have hlen:=aq.2
  cases h1:(decide ((((i:Nat):Int):Int)<((l.length:Nat):Int))) with
  | false=>
   have bW:=of_decide_eq_false h1
   cases h2:(decide ((65536:Int)<(((b5 (cf c) (l.take i)).length:Nat):Int))) with
   | false=>
    have dG:=of_decide_eq_false h2
    refine a7 (y:=.tu [.sl 1 ((b5 (cf c) (l.take i)).length),.z 0]) (N':=[.gw 0 aj,.rw 5 1 (af (b5 (cf c) (l.take i)))]) ((by first | exact je (fV (.inl (by assumption))) (by decide) | exact je (fV (.inr (lQ dR (by assumption)))) (by decide) | exact je (lF (by assumption) (aq.1.all (by assumption)) (lJ (by assumption) (by omega))) (by decide) | exact ri (j8 (by assumption) (aq.1.all (by assumption)) (by rw [← fU (by assumption) (by omega)];omega)) (fU (by assumption) (by omega)))) ((by first | exact jf (fV (.inl (by assumption))) (by decide) | exact jf (fV (.inr (lQ dR (by assumption)))) (by decide) | exact jf (lF (by assumption) (aq.1.all (by assumption)) (lJ (by assumption) (by omega))) (by decide) | exact rj (j8 (by assumption) (aq.1.all (by assumption)) (by rw [← fU (by assumption) (by omega)];omega)) (fU (by assumption) (by omega)))) ?_
    exact aZ tk mo hK rfl al [(6,[(0,.b false)]),(13,[(1,.mem [2] (.n ((b5 (cf c) (l.take i)).length)) [.rw 81 1 ([[.em 5 1 (af (b5 (cf c) (l.take i)))]])]),(2,.b false)]),(15,[(1,.mem [2] (.sl 1 ((b5 (cf c) (l.take i)).length)) [.rw 81 1 (List.set [[.em 5 1 (af (b5 (cf c) (l.take i)))]] 0 [.jk]),.rw 5 1 (af (b5 (cf c) (l.take i)))])])] 2000 [0,3] r (by kernel_rfl) (U h1 (U (sQ (b5 (cf c) (l.take i))) (U h2 (U (IQ (b5 (cf c) (l.take i)) (by omega)) trivial))))
   | true=>
    have dG:=of_decide_eq_true h2
    refine a7 (y:=.tu [.d (.v (.slice none 0 0)),.z 2]) (N':=[.gw 0 aj]) ((by first | exact je (fV (.inl (by assumption))) (by decide) | exact je (fV (.inr (lQ dR (by assumption)))) (by decide) | exact je (lF (by assumption) (aq.1.all (by assumption)) (lJ (by assumption) (by omega))) (by decide) | exact ri (j8 (by assumption) (aq.1.all (by assumption)) (by rw [← fU (by assumption) (by omega)];omega)) (fU (by assumption) (by omega)))) ((by first | exact jf (fV (.inl (by assumption))) (by decide) | exact jf (fV (.inr (lQ dR (by assumption)))) (by decide) | exact jf (lF (by assumption) (aq.1.all (by assumption)) (lJ (by assumption) (by omega))) (by decide) | exact rj (j8 (by assumption) (aq.1.all (by assumption)) (by rw [← fU (by assumption) (by omega)];omega)) (fU (by assumption) (by omega)))) ?_
    exact aZ tk mo hK rfl al [(6,[(0,.b false)]),(13,[(1,.mem [2] (.n ((b5 (cf c) (l.take i)).length)) [.rw 81 1 ([[.em 5 1 (af (b5 (cf c) (l.take i)))]])]),(2,.b true)])] 2000 [0] r (by kernel_rfl) (U h1 (U (sQ (b5 (cf c) (l.take i))) (U h2 trivial)))
  | true=>
   have bW:=of_decide_eq_true h1
   obtain ⟨bO,dR⟩:∃ x_,l[i]?=some x_:=⟨_,List.getElem?_eq_getElem (by omega)⟩
   have eM:=(hr _ (List.mem_of_getElem? dR)).inc
   cases h3:(hasB bO) with
   | false=>
    refine a7 (y:=.tu [.d (.v (.slice none 0 0)),.z 1]) (N':=[.gw 0 aj]) ((by first | exact je (fV (.inl (by assumption))) (by decide) | exact je (fV (.inr (lQ dR (by assumption)))) (by decide) | exact je (lF (by assumption) (aq.1.all (by assumption)) (lJ (by assumption) (by omega))) (by decide) | exact ri (j8 (by assumption) (aq.1.all (by assumption)) (by rw [← fU (by assumption) (by omega)];omega)) (fU (by assumption) (by omega)))) ((by first | exact jf (fV (.inl (by assumption))) (by decide) | exact jf (fV (.inr (lQ dR (by assumption)))) (by decide) | exact jf (lF (by assumption) (aq.1.all (by assumption)) (lJ (by assumption) (by omega))) (by decide) | exact rj (j8 (by assumption) (aq.1.all (by assumption)) (by rw [← fU (by assumption) (by omega)];omega)) (fU (by assumption) (by omega)))) ?_
    exact aZ tk mo hK rfl al [(6,[(0,.b true)]),(7,[(0,.ix (i) [.z bO.kind,.z bO.node,.z bO.peer,.z bO.n,.z bO.bit,.u bO.inc,.ro 1 (af bO.body)])]),(8,[(1,.mem [0] (.d (.v (.bool (hasB bO)))) [.gw 0 aj]),(2,.b true)])] 2000 [0] r (by kernel_rfl) (U h1 (U (aN ((i:Nat):Int)) (U (lI dR) (U (wB bO) (U ((by rw [h3];rfl):(!(hasB bO))=true) trivial)))))
   | true=>
    have Mj:=sq ‹hasB bO=true›
    have dE:=Gc (s:=bO) (by omega) (by omega)
    cases h4:(decide (((((b5 (cf c) (l.take i)).length:Nat):Int):Int)≤65536)) with
    | false=>
     have fx:=of_decide_eq_false h4
     exact cF (todo':=hd Tryd.f7 0) (E':=[(6,.ep 2 1 (0) 0),(16,.d (.ro 7 (steps l))),(17,.n l.length),(18,.n (i+1))]) (M':=[.gw 0 aj,.bx 25 [.z c.aK,.d (.ro 2 (ah c.ah)),.d (.ro 1 (ints c.homes))],.rw 81 1 ([[.em 5 1 (af (b5 (cf c) (l.take i)))]])]) tk mo hK al [(6,[(0,.b true)]),(7,[(0,.ix (i) [.z bO.kind,.z bO.node,.z bO.peer,.z bO.n,.z bO.bit,.u bO.inc,.ro 1 (af bO.body)])]),(8,[(1,.mem [0] (.d (.v (.bool (hasB bO)))) [.gw 0 aj]),(2,.b false)]),(10,[(1,.mem [2] (.n ((b5 (cf c) (l.take i)).length)) [.rw 81 1 ([[.em 5 1 (af (b5 (cf c) (l.take i)))]])]),(2,.b false)]),(12,[(0,.z (((i+1:Nat):Int)))])] 2000 [0,1,2] [6,16,17,18] r (by kernel_rfl) (U h1 (U (aN ((i:Nat):Int)) (U (lI dR) (U (wB bO) (U ((by rw [h3];rfl):(!(hasB bO))=false) (U (sQ (b5 (cf c) (l.take i))) (U h4 (U ((wi (by omega)):IntKind.i64.wrap ((((i:Nat):Int):Int)+1)=((i+1:Nat):Int)) trivial)))))))) fun ac wd r=>b6 (by omega) ac wd ⟨⟨aq.1.next dR (by assumption),by rw [rh _ dR];split<;>first | omega | (simp;omega)⟩,r.cast rfl (by rw [rh _ dR];first | rw [if_pos (by omega)] | rw [if_neg (by omega)])⟩
    | true=>
     have fx:=of_decide_eq_true h4
     exact cF (todo':=hd Tryd.f7 0) (E':=[(6,.ep 2 1 (0) 0),(16,.d (.ro 7 (steps l))),(17,.n l.length),(18,.n (i+1))]) (M':=[.gw 0 aj,.bx 25 [.z c.aK,.d (.ro 2 (ah c.ah)),.d (.ro 1 (ints c.homes))],.rw 81 1 ([[.em 5 1 (af ((b5 (cf c) (l.take i))++cg bO))]])]) tk mo hK al [(6,[(0,.b true)]),(7,[(0,.ix (i) [.z bO.kind,.z bO.node,.z bO.peer,.z bO.n,.z bO.bit,.u bO.inc,.ro 1 (af bO.body)])]),(8,[(1,.mem [0] (.d (.v (.bool (hasB bO)))) [.gw 0 aj]),(2,.b false)]),(10,[(1,.mem [2] (.n ((b5 (cf c) (l.take i)).length)) [.rw 81 1 ([[.em 5 1 (af (b5 (cf c) (l.take i)))]])]),(2,.b true)]),(11,[(2,.mem [2,0] (.tu []) [.rw 81 1 ([[.em 5 1 (af ((b5 (cf c) (l.take i))++cg bO))]]),.gw 0 aj])]),(12,[(0,.z (((i+1:Nat):Int)))])] 2000 [0,1,2] [6,16,17,18] r (by kernel_rfl) (U h1 (U (aN ((i:Nat):Int)) (U (lI dR) (U (wB bO) (U ((by rw [h3];rfl):(!(hasB bO))=false) (U (sQ (b5 (cf c) (l.take i))) (U h4 (U (EK (b5 (cf c) (l.take i)) bO (by omega) (by omega) (by omega) (by omega) (by omega) (by omega) (by omega)) (U ((wi (by omega)):IntKind.i64.wrap ((((i:Nat):Int):Int)+1)=((i+1:Nat):Int)) trivial))))))))) fun ac wd r=>b6 (by omega) ac wd ⟨⟨aq.1.next dR (by assumption),by rw [rh _ dR];split<;>first | omega | (simp;omega)⟩,r.cast rfl (by rw [rh _ dR];first | rw [if_pos (by omega)] | rw [if_neg (by omega)])⟩
end Go.Proofs.YtcnpikbbmbombaaDoor
namespace Go.Proofs.YtcnpikbbmbombaaDoor
open Go.RowKit
theorem EL (c:bY) (hl:c.ah.length≤9223372036854775807) (hh:c.homes.length≤9223372036854775807):ay Tryd.prog 10 [.ag [.z c.aK,.d (.ro 2 (ah c.ah)),.d (.ro 1 (ints c.homes))],.ag [.z c.aK,.d (.ro 2 (ah c.ah)),.d (.ro 1 (ints c.homes))]] (.v (.bool true)):=by
 have q:=Hz c c hl hh
 rw [show kh c c=true from decide_eq_true rfl] at q;exact q
theorem tH (l:List aJ) (hl:l.length≤9223372036854775807):ay Tryd.prog 11 [.d (.ro 7 (steps l)),.d (.ro 7 (steps l))] (.v (.bool true)):=by
 have q:=HA l l hl
 rw [show ic l l=true from decide_eq_true rfl] at q;exact q
theorem Gd {c:bY} {l:List aJ} (h:decide (dK c l=0)=true):(dq c l).length≤65536:=by
 have h:=of_decide_eq_true h
 unfold dK at h
 cases h2:decide (65536<(dq c l).length) with
 | false=>exact Nat.not_lt.1 (of_decide_eq_false h2)
 | true=>
  rw [h2] at h
  generalize bT c=a at h;generalize l.all hasB=b at h
  cases a<;>cases b<;>cases h
theorem AF (c:bY) (l:List aJ) (hc:c.ah.length≤1048576) (hh:c.homes.length≤1048576) (hl:l.length≤9223372036854775807) (hr:∀ s ∈ l,s.Rd) (h:decide (dK c l=0)=true):ax Tryd.prog 7 [.ag [.z c.aK,.d (.ro 2 (ah c.ah)),.d (.ro 1 (ints c.homes))],.d (.ro 7 (steps l))] [.gw 0 aj] (.tu [.sl 1 (dq c l).length,.z 0]) [.gw 0 aj,.rw 5 1 (af (dq c l))]:=by
 have q:=AE c l hc hh hl hr
 unfold ns nt at q;rw [h] at q;exact q
end Go.Proofs.YtcnpikbbmbombaaDoor
namespace Go.Proofs.YtcnpikbbmbombaaDoor
open Go.RowKit
def x6 (l:List UInt8) (k:Nat):List ai:=fP (l.drop k) (decide (l.length<k))
theorem pe (l:List UInt8) (k:Nat):ax Tryd.prog 46 [.pt 0 0] (x6 l k) (.d (.v (.int .u8 (((l.getD k 0).toNat:Nat):Int)))) (x6 l (k+1)):=by
 have h:=CO (l.drop k) (decide (l.length<k))
 unfold aG dB dN at h
 unfold x6
 rcases Nat.lt_or_ge k l.length with h1 | h1
 ·have e:¬ gk (l.drop k) (decide (l.length<k)) 1:=by rintro (q | q | q);exact absurd (of_decide_eq_true q) (by omega);exact absurd q (by decide);simp at q;omega
  rw [if_neg e,if_neg e,if_neg e] at h
  rw [decide_eq_false (show ¬ l.length<k+1 by omega)]
  simp [List.getD_eq_getElem?_getD,List.getElem?_take,Nat.add_comm] at h ⊢
  exact h
 ·have e:gk (l.drop k) (decide (l.length<k)) 1:=.inr (.inr (by simp;omega))
  rw [if_pos e,if_pos e,if_pos e] at h
  rw [decide_eq_true (show l.length<k+1 by omega),zA h1]
  rw [List.drop_of_length_le (show l.length≤k+1 by omega)]
  rw [List.drop_of_length_le h1] at h ⊢
  exact h
theorem tg (b:UInt8):IntKind.i64.wrap ((b.toNat:Nat):Int)=((b.toNat:Nat):Int):=wi (by have:=b.toNat_lt;omega)
def gV (l:List UInt8) (k:Nat):Int:=(((l.getD k 0).toNat:Nat):Int)
def gN (l:List UInt8):Nat:=(l.getD 1 0).toNat
def gL (l:List UInt8) (i:Nat):List (Int×Int):=(List.range i).map fun j=>(gV l (2+2*j),gV l (2+2*j+1))
def gM (l:List UInt8):Nat:=(l.getD (2+2*gN l) 0).toNat
def gH (l:List UInt8) (i:Nat):List Int:=(List.range i).map fun j=>gV l (2+2*gN l+1+j)
def gC (l:List UInt8):bY:=⟨gV l 0,gL l (gN l),gH l (gM l)⟩
def gE (l:List UInt8):Nat:=2+2*gN l+1+gM l
theorem HG (l:List UInt8) (i:Nat):gL l (i+1)=gL l i++[(gV l (2+2*i),gV l (2+2*i+1))]:=by unfold gL;rw [List.range_succ,List.map_append];rfl
theorem HH (l:List UInt8) (i:Nat):gH l (i+1)=gH l i++[gV l (2+2*gN l+1+i)]:=by unfold gH;rw [List.range_succ,List.map_append];rfl
theorem b7 (l:List UInt8) (i:Nat):(gL l i).length=i:=by simp [gL]
theorem b8 (l:List UInt8) (i:Nat):(gH l i).length=i:=by simp [gH]
theorem qe (l:List UInt8):gN l<256:=(l.getD 1 0).toNat_lt
theorem qf (l:List UInt8):gM l<256:=(l.getD _ 0).toNat_lt
set_option maxRecDepth 100000 in
theorem vv (l:List UInt8):ax Tryd.prog 26 [.pt 0 0] [.bx 102 [.d (.ro 1 (af (l.drop (0)))),.d (.v (.bool ((decide (l.length<(0))))))]] (.ag [.z (gV l 0),.sl 1 (gN l),.sl 2 (gM l)]) ([.bx 102 [.d (.ro 1 (af (l.drop (2+2*gN l+1+gM l)))),.d (.v (.bool ((decide (l.length<(2+2*gN l+1+gM l))))))],.rw 71 2 (ah (gL l (gN l))),.rw 3 1 (ints (gH l (gM l)))]):=by
 refine ax.intro (by kernel_rfl) rfl rfl 42 rfl rfl fun D w0 K bs ac wd hK (al:bs.m=1) r=>?_
 refine cF (todo':=hd Tryd.f26 0) (E':=[(0,.pt 0 0),(2,.pt 1 0),(3,.pt 2 0),(10,.d (.v (.int .u8 ((((l.getD (0+1) 0).toNat:Nat):Int))))),(11,.d (.v (.int .u8 0)))]) (M':=[.bx 102 [.d (.ro 1 (af (l.drop (0+1+1)))),.d (.v (.bool ((decide (l.length<(0+1+1))))))],.bx 25 [.z 0,.d (.v (.slice none 0 0)),.d (.v (.slice none 0 0))],.bx 25 [.n ((l.getD (0) 0).toNat),.d (.v (.slice none 0 0)),.d (.v (.slice none 0 0))]]) tk mo hK al [(1,[(1,.mem [0] (.d (.v (.int .u8 ((((l.getD (0) 0).toNat:Nat):Int))))) [.bx 102 [.d (.ro 1 (af (l.drop (0+1)))),.d (.v (.bool ((decide (l.length<(0+1))))))]]),(2,.z ((((l.getD (0) 0).toNat:Nat):Int)))]),(2,[(1,.mem [0] (.d (.v (.int .u8 ((((l.getD (0+1) 0).toNat:Nat):Int))))) [.bx 102 [.d (.ro 1 (af (l.drop (0+1+1)))),.d (.v (.bool ((decide (l.length<(0+1+1))))))]])])] 2000 [0,1,2] [0,2,3,10,11] r (by kernel_rfl) (U (pe l (0)) (U ((tg _):IntKind.i64.wrap ((((l.getD (0) 0).toNat:Nat):Int))=(((l.getD (0) 0).toNat:Nat):Int)) (U (pe l (0+1)) trivial))) fun ac wd r=>?_
 refine aC.rounds (Φ:=fun (i:Nat) ac wd=>(i≤gN l)∧RB D w0 K 42 bs [(0,.pt 0 0),(2,.pt 1 0),(3,.pt 2 0),(10,.d (.v (.int .u8 (((gN l:Nat):Int))))),(11,.d (.v (.int .u8 (((i:Nat):Int)))))] [.bx 102 [.d (.ro 1 (af (l.drop (2+2*i)))),.d (.v (.bool ((decide (l.length<(2+2*i))))))],.bx 25 [.z 0,.d (.v (.slice none 0 0)),.d (.v (.slice none 0 0))],.bx 25 [.z (gV l 0),.sl 3 (i),.d (.v (.slice none 0 0))],.rw 71 2 (ah (gL l i))] ac wd) (gN l) ?_ (Nat.zero_le _) ⟨Nat.zero_le _,r.fB (M1:=[.bx 102 [.d (.ro 1 (af (l.drop (0+1+1)))),.d (.v (.bool ((decide (l.length<(0+1+1))))))],.bx 25 [.z 0,.d (.v (.slice none 0 0)),.d (.v (.slice none 0 0))],.bx 25 [.n ((l.getD (0) 0).toNat),.d (.v (.slice none 0 0)),.d (.v (.slice none 0 0))]]) [] [(2,1,71,2)] (by kernel_rfl) (by kernel_rfl)⟩
 clear r
 rintro i e7 b6 ac wd ⟨aq,r⟩
 have NG:=qe l
 cases h0:(decide ((((i:Nat):Int):Int)<((gN l:Nat):Int))) with
 | false=>
  have bw:=of_decide_eq_false h0
  refine cF (todo':=hd Tryd.f26 1) (E':=[(0,.pt 0 0),(2,.pt 1 0),(3,.pt 2 0),(29,.d (.v (.int .u8 ((((l.getD (2+2*i) 0).toNat:Nat):Int))))),(30,.d (.v (.int .u8 0)))]) (M':=[.bx 102 [.d (.ro 1 (af (l.drop (2+2*i+1)))),.d (.v (.bool ((decide (l.length<(2+2*i+1))))))],.bx 25 [.z 0,.d (.v (.slice none 0 0)),.d (.v (.slice none 0 0))],.bx 25 [.z (gV l 0),.sl 3 (i),.d (.v (.slice none 0 0))],.rw 71 2 (ah (gL l i))]) tk mo hK al [(3,[(0,.b false)]),(9,[(1,.mem [0] (.d (.v (.int .u8 ((((l.getD (2+2*i) 0).toNat:Nat):Int))))) [.bx 102 [.d (.ro 1 (af (l.drop (2+2*i+1)))),.d (.v (.bool ((decide (l.length<(2+2*i+1))))))]])])] 2000 [0,1,2,3] [0,2,3,29,30] r (by kernel_rfl) (U h0 (U (pe l (2+2*i)) trivial)) fun ac wd r=>?_
  refine aC.rounds (Φ:=fun (i:Nat) ac wd=>(i≤gM l)∧RB D w0 K 42 bs [(0,.pt 0 0),(2,.pt 1 0),(3,.pt 2 0),(29,.d (.v (.int .u8 (((gM l:Nat):Int))))),(30,.d (.v (.int .u8 (((i:Nat):Int)))))] [.bx 102 [.d (.ro 1 (af (l.drop (2+2*gN l+1+i)))),.d (.v (.bool ((decide (l.length<(2+2*gN l+1+i))))))],.bx 25 [.z 0,.d (.v (.slice none 0 0)),.d (.v (.slice none 0 0))],.bx 25 [.z (gV l 0),.sl 3 ((gN l)),.sl 4 (i)],.rw 71 2 (ah (gL l (gN l))),.rw 3 1 (ints (gH l i))] ac wd) (gM l) ?_ (Nat.zero_le _) ⟨Nat.zero_le _,(r.fB (E1:=[(0,.pt 0 0),(2,.pt 1 0),(3,.pt 2 0),(29,.d (.v (.int .u8 ((((l.getD (2+2*i) 0).toNat:Nat):Int))))),(30,.d (.v (.int .u8 0)))]) (M2:=[.bx 102 [.d (.ro 1 (af (l.drop (2+2*i+1)))),.d (.v (.bool ((decide (l.length<(2+2*i+1))))))],.bx 25 [.z 0,.d (.v (.slice none 0 0)),.d (.v (.slice none 0 0))],.bx 25 [.z (gV l 0),.sl 3 (i),.sl 4 (0)],.rw 71 2 (ah (gL l i)),.rw 3 1 ([])]) (M1:=[.bx 102 [.d (.ro 1 (af (l.drop (2+2*i+1)))),.d (.v (.bool ((decide (l.length<(2+2*i+1))))))],.bx 25 [.z 0,.d (.v (.slice none 0 0)),.d (.v (.slice none 0 0))],.bx 25 [.z (gV l 0),.sl 3 (i),.d (.v (.slice none 0 0))],.rw 71 2 (ah (gL l i))]) [] [(2,2,3,1)] (by kernel_rfl) (by kernel_rfl)).cast (by rw [show i=gN l from by omega];rfl) (by rw [show i=gN l from by omega];rfl)⟩
  clear r
  rintro i qU jF ac wd ⟨dV,r⟩
  have NH:=qf l
  cases h1:(decide ((((i:Nat):Int):Int)<((gM l:Nat):Int))) with
  | false=>
   have bW:=of_decide_eq_false h1
   refine a7 (y:=.ag [.z (gV l 0),.sl 1 ((gN l)),.sl 2 (i)]) (N':=[.bx 102 [.d (.ro 1 (af (l.drop (2+2*gN l+1+i)))),.d (.v (.bool ((decide (l.length<(2+2*gN l+1+i))))))],.rw 71 2 (ah (gL l (gN l))),.rw 3 1 (ints (gH l i))]) ((by rw [show i=gM l from by omega])) ((by rw [show i=gM l from by omega])) ?_
   exact aZ tk mo hK rfl al [(10,[(0,.b false)])] 2000 [0,3,4] r (by kernel_rfl) (U h1 trivial)
  | true=>
   have bW:=of_decide_eq_true h1
   exact cF (todo':=hd Tryd.f26 1) (E':=[(0,.pt 0 0),(2,.pt 1 0),(3,.pt 2 0),(29,.d (.v (.int .u8 (((gM l:Nat):Int))))),(30,.d (.v (.int .u8 (((i+1:Nat):Int)))))]) (M':=[.bx 102 [.d (.ro 1 (af (l.drop (2+2*gN l+1+i+1)))),.d (.v (.bool ((decide (l.length<(2+2*gN l+1+i+1))))))],.bx 25 [.z 0,.d (.v (.slice none 0 0)),.d (.v (.slice none 0 0))],.bx 25 [.z (gV l 0),.sl 3 ((gN l)),.sl 4 (i+(1))],.rw 71 2 (ah (gL l (gN l))),.rw 3 1 (ints (gH l i)++[[.n ((l.getD (2+2*gN l+1+i) 0).toNat)]])]) tk mo hK al [(10,[(0,.b true)]),(11,[(3,.mem [0] (.d (.v (.int .u8 ((((l.getD (2+2*gN l+1+i) 0).toNat:Nat):Int))))) [.bx 102 [.d (.ro 1 (af (l.drop (2+2*gN l+1+i+1)))),.d (.v (.bool ((decide (l.length<(2+2*gN l+1+i+1))))))]]),(4,.z ((((l.getD (2+2*gN l+1+i) 0).toNat:Nat):Int)))]),(12,[(0,.z (((i+1:Nat):Int)))])] 2000 [0,1,2,3,4] [0,2,3,29,30] r (by kernel_rfl) (U h1 (U (pe l (2+2*gN l+1+i)) (U ((tg _):IntKind.i64.wrap ((((l.getD (2+2*gN l+1+i) 0).toNat:Nat):Int))=(((l.getD (2+2*gN l+1+i) 0).toNat:Nat):Int)) (U ((by first | rfl | (simp [ah,ints,b7,b8];done) | (simp [ah,ints,b7,b8];omega)):(i)=(ints (gH l i)).length) (U ((by first | rfl | (simp [ah,ints,b7,b8];done) | (simp [ah,ints,b7,b8];omega)):(1)=([[.n ((l.getD (2+2*gN l+1+i) 0).toNat)]]:List (List DV)).length) (U ((by first | omega | (simp [ah,ints,b7,b8];done) | (simp [ah,ints,b7,b8];omega)):(2*((i)+(1))+192)*8≤281474976710656) (U ((by first | omega | (simp [ah,ints,b7,b8];done) | (simp [ah,ints,b7,b8];omega)):(i)+(1)<4611686018427387904) (U ((by simp [bf,AV.one,bS,af,ah,ints,steps,strs]):bf ([[.n ((l.getD (2+2*gN l+1+i) 0).toNat)]])) (U ((w8 (by have:=qf l;omega)):IntKind.u8.wrap ((((i:Nat):Int):Int)+1)=((i+1:Nat):Int)) trivial))))))))) fun ac wd r=>jF (by omega) ac wd ⟨(by omega),r.cast rfl (by rw [HH,show 2+2*gN l+1+(i+1)=2+2*gN l+1+i+1 from by omega];simp [ints,gV])⟩
 | true=>
  have bw:=of_decide_eq_true h0
  exact cF (todo':=hd Tryd.f26 0) (E':=[(0,.pt 0 0),(2,.pt 1 0),(3,.pt 2 0),(10,.d (.v (.int .u8 (((gN l:Nat):Int))))),(11,.d (.v (.int .u8 (((i+1:Nat):Int)))))]) (M':=[.bx 102 [.d (.ro 1 (af (l.drop (2+2*i+1+1)))),.d (.v (.bool ((decide (l.length<(2+2*i+1+1))))))],.bx 25 [.z 0,.d (.v (.slice none 0 0)),.d (.v (.slice none 0 0))],.bx 25 [.z (gV l 0),.sl 3 (i+(1)),.d (.v (.slice none 0 0))],.rw 71 2 (ah (gL l i)++[[.n ((l.getD (2+2*i) 0).toNat),.n ((l.getD (2+2*i+1) 0).toNat)]])]) tk mo hK al [(3,[(0,.b true)]),(5,[(1,.mem [0] (.d (.v (.int .u8 ((((l.getD (2+2*i) 0).toNat:Nat):Int))))) [.bx 102 [.d (.ro 1 (af (l.drop (2+2*i+1)))),.d (.v (.bool ((decide (l.length<(2+2*i+1))))))]]),(2,.z ((((l.getD (2+2*i) 0).toNat:Nat):Int))),(3,.n 0)]),(6,[(1,.mem [0] (.d (.v (.int .u8 ((((l.getD (2+2*i+1) 0).toNat:Nat):Int))))) [.bx 102 [.d (.ro 1 (af (l.drop (2+2*i+1+1)))),.d (.v (.bool ((decide (l.length<(2+2*i+1+1))))))]]),(2,.z ((((l.getD (2+2*i+1) 0).toNat:Nat):Int))),(3,.n 1)]),(8,[(0,.z (((i+1:Nat):Int)))])] 2000 [0,1,2,3] [0,2,3,10,11] r (by kernel_rfl) (U h0 (U (pe l (2+2*i)) (U ((tg _):IntKind.i64.wrap ((((l.getD (2+2*i) 0).toNat:Nat):Int))=(((l.getD (2+2*i) 0).toNat:Nat):Int)) (U (rfl:(0)=((0:Nat):Int)) (U ((by omega):(0)<2) (U (pe l (2+2*i+1)) (U ((tg _):IntKind.i64.wrap ((((l.getD (2+2*i+1) 0).toNat:Nat):Int))=(((l.getD (2+2*i+1) 0).toNat:Nat):Int)) (U (rfl:(1)=((1:Nat):Int)) (U ((by omega):(1)<2) (U ((by first | rfl | (simp [ah,ints,b7,b8];done) | (simp [ah,ints,b7,b8];omega)):(i)=(ah (gL l i):List (List DV)).length) (U ((by first | rfl | (simp [ah,ints,b7,b8];done) | (simp [ah,ints,b7,b8];omega)):(1)=([[.n ((l.getD (2+2*i) 0).toNat),.n ((l.getD (2+2*i+1) 0).toNat)]]:List (List DV)).length) (U ((by first | omega | (simp [ah,ints,b7,b8];done) | (simp [ah,ints,b7,b8];omega)):(2*((i)+(1))+192)*16≤281474976710656) (U ((by first | omega | (simp [ah,ints,b7,b8];done) | (simp [ah,ints,b7,b8];omega)):(i)+(1)<4611686018427387904) (U ((by simp [bf,AV.one,bS,af,ah,ints,steps,strs]):bf ([[.n ((l.getD (2+2*i) 0).toNat),.n ((l.getD (2+2*i+1) 0).toNat)]])) (U ((w8 (by have:=qe l;omega)):IntKind.u8.wrap ((((i:Nat):Int):Int)+1)=((i+1:Nat):Int)) trivial))))))))))))))) fun ac wd r=>b6 (by omega) ac wd ⟨(by omega),r.cast rfl (by rw [HG,show 2+2*(i+1)=2+2*i+1+1 from by omega];simp [ah,gV])⟩
end Go.Proofs.YtcnpikbbmbombaaDoor
namespace Go.Proofs.YtcnpikbbmbombaaDoor
open Go.RowKit
set_option maxRecDepth 100000 in
theorem IV (l:List UInt8) (b:Bool) (z:Int) (hb:l.length<2147483648):ax Tryd.prog 49 [.pt 0 0,.z z] [.bx 102 [.d (.ro 1 (af l)),.d (.v (.bool b))]] (.d (.ro 1 (af (aG l b z)))) (fP (dB l b z) (dN l b z)):=by
 refine ax.intro (by kernel_rfl) rfl rfl 13 rfl rfl fun D w0 K bs ac wd hK (al:bs.m=1) r=>?_
 refine a7 (y:=.d (.ro 1 (af (aG l b z)))) (N':=[.bx 102 [.d (.ro 1 (af (dB l b z))),.d (.v (.bool ((dN l b z))))]]) (rfl) (rfl) ?_
 exact aZ tk mo hK rfl al [(3,[(4,.mem [0] (.d (.ro 1 (af (aG l b z)))) [.bx 102 [.d (.ro 1 (af (dB l b z))),.d (.v (.bool ((dN l b z))))]]),(5,.aP (.ro 1 (af (aG l b z))))])] 2000 [0] r (by kernel_rfl) (U (mX:cV Tryd.prog 65) (U (uL l b z) (U (y8 (aG l b z) (by unfold aG;split;simp;simp;omega)) trivial)))
abbrev dj:=List UInt8×Bool
def pf (r:dj):List ai:=fP r.1 r.2
def aS (z:Int) (r:dj):dj:=(dB r.1 r.2 z,dN r.1 r.2 z)
def v8 (r:dj):Nat:=((aG r.1 r.2 1).getD 0 0).toNat
def gR (r:dj):Nat:=((aG r.1 r.2 2).getD 0 0).toNat+((aG r.1 r.2 2).getD 1 0).toNat*256
def vU (r:dj):Nat:=(lu r.1 r.2).toNat
def rU (r:dj):dj:=(mG r.1 r.2,nM r.1 r.2)
theorem qg (r:dj):v8 r<256:=UInt8.toNat_lt _
theorem AG (r:dj):gR r<65536:=by
 have h1:=((aG r.1 r.2 2).getD 0 0).toNat_lt
 have h2:=((aG r.1 r.2 2).getD 1 0).toNat_lt
 unfold gR;omega
theorem qX (r:dj):IntKind.i64.wrap ((v8 r:Nat):Int)=((v8 r:Nat):Int):=wi (by have:=qg r;omega)
theorem K7 (r:dj):IntKind.i64.wrap ((gR r:Nat):Int)=((gR r:Nat):Int):=wi (by have:=AG r;omega)
theorem pg (r:dj):ax Tryd.prog 46 [.pt 0 0] (pf r) (.d (.v (.int .u8 ((v8 r:Nat):Int)))) (pf (aS 1 r)):=CO r.1 r.2
theorem K8 (r:dj):ax Tryd.prog 47 [.pt 0 0] (pf r) (.d (.v (.int .u16 ((gR r:Nat):Int)))) (pf (aS 2 r)):=K5 r.1 r.2
theorem Be (z:Int):0≤IntKind.u64.wrap z:=by simp [IntKind.wrap,IntKind.signed,IntKind.bits];omega
theorem zD:∀ (l:List UInt8) (i:Nat) (x:Int),0≤x→0≤(dJ l i x).1
 | [],_,_,_=>Int.le_refl _
 | c::r,i,x,h=>by
  unfold dJ
  split
  ·exact Int.le_refl _
  ·split
   ·split
    ·exact Int.le_refl _
    ·exact Be _
   ·exact zD r (i+1) _ (Be _)
theorem HI (l:List UInt8) (b:Bool):0≤lu l b:=by
 unfold lu da;split
 ·exact Int.le_refl _
 ·split
  ·exact Int.le_refl _
  ·exact zD _ _ _ (Int.le_refl _)
theorem Kg (r:dj):ax Tryd.prog 48 [.pt 0 0] (pf r) (.d (.v (.int .u64 ((vU r:Nat):Int)))) (pf (rU r)):=by
 have h:=HE r.1 r.2
 rw [show lu r.1 r.2=((vU r:Nat):Int) by have:=HI r.1 r.2;unfold vU;omega] at h;exact h
def gK (l:List UInt8):Nat:=v8 (l,false)
def bK (l:List UInt8):dj:=aS 1 (l,false)
def cO (l:List UInt8):dj:=cond (ae (gK l)).node (aS 1 (bK l)) (bK l)
def cP (l:List UInt8):dj:=cond (ae (gK l)).peer (aS 1 (cO l)) (cO l)
def cQ (l:List UInt8):dj:=cond (ae (gK l)).n (aS 1 (cP l)) (cP l)
def db (l:List UInt8):dj:=cond (ae (gK l)).bit (aS 2 (cQ l)) (cQ l)
def aW (l:List UInt8):dj:=cond (ae (gK l)).inc (rU (db l)) (db l)
def cK (l:List UInt8):dj:=cond (ae (gK l)).body (aS (v8 (aW l)) (aS 1 (aW l))) (aW l)
def cI (l:List UInt8):Nat:=cond (ae (gK l)).node (v8 (bK l)) 0
def c6 (l:List UInt8):Nat:=cond (ae (gK l)).peer (v8 (cO l)) 0
def dx (l:List UInt8):Nat:=cond (ae (gK l)).n (v8 (cP l)) 0
def dY (l:List UInt8):Nat:=cond (ae (gK l)).bit (gR (cQ l)) 0
def fA (l:List UInt8):Nat:=cond (ae (gK l)).inc (vU (db l)) 0
def fe (l:List UInt8):List UInt8:=cond (ae (gK l)).body (aG (aS 1 (aW l)).1 (aS 1 (aW l)).2 (v8 (aW l))) []
def mg (l:List UInt8):aJ:=⟨gK l,cI l,c6 l,dx l,dY l,fA l,fe l⟩
def gZ:aJ:=⟨0,0,0,0,0,0,[]⟩
def aX (l:List UInt8):aJ×Nat:=if 14≤gK l then (gZ,1) else cond (cK l).2 (gZ,1) (mg l,l.length-(cK l).1.length)
theorem uM {l:List UInt8} (h:14≤gK l):aX l=(gZ,1):=by unfold aX;rw [if_pos h]
theorem uN {l:List UInt8} (h:gK l<14) (e:(cK l).2=true):aX l=(gZ,1):=by unfold aX;rw [if_neg (by omega),e];rfl
theorem rQ {l:List UInt8} (h:gK l<14) (e:(cK l).2=false):aX l=(mg l,l.length-(cK l).1.length):=by unfold aX;rw [if_neg (by omega),e];rfl
theorem dZ {b c:Bool} {α:Type} {x y z:α} (h:b=c) (e:cond c x y=z):cond b x y=z:=h▸e
theorem gA (z:Int) (r:dj):(aS z r).1.length≤r.1.length:=AA
theorem Bf (r:dj):(rU r).1.length≤r.1.length:=IT
theorem jg {b:Bool} {r s:dj} {n:Nat} (h:r.1.length≤n) (k:s.1.length≤n):(cond b r s).1.length≤n:=by cases b;exact k;exact h
theorem AH (l:List UInt8):(bK l).1.length≤l.length:=gA 1 (l,false)
theorem AI (l:List UInt8):(cO l).1.length≤l.length:=jg (Nat.le_trans (gA _ _) (AH l)) (AH l)
theorem AJ (l:List UInt8):(cP l).1.length≤l.length:=jg (Nat.le_trans (gA _ _) (AI l)) (AI l)
theorem AK (l:List UInt8):(cQ l).1.length≤l.length:=jg (Nat.le_trans (gA _ _) (AJ l)) (AJ l)
theorem AL (l:List UInt8):(db l).1.length≤l.length:=jg (Nat.le_trans (gA _ _) (AK l)) (AK l)
theorem r5 (l:List UInt8):(aW l).1.length≤l.length:=jg (Nat.le_trans (Bf _) (AL l)) (AL l)
theorem IW (l:List UInt8):(cK l).1.length≤l.length:=jg (Nat.le_trans (gA _ _) (Nat.le_trans (gA _ _) (r5 l))) (r5 l)
def gX (q:aJ×Nat):AV:=.tu [.ag [.z q.1.kind,.z q.1.node,.z q.1.peer,.z q.1.n,.z q.1.bit,.u q.1.inc,.sl 1 (af q.1.body).length],.n q.2]
def nO (q:aJ×Nat):List ai:=[.gw 0 aj,.rw 5 1 (af q.1.body)]
theorem Bg {l:List UInt8} (h:(ae (gK l)).node=true):cO l=aS 1 (bK l):=dZ h rfl
theorem Bh {l:List UInt8} (h:(ae (gK l)).node=true):cI l=v8 (bK l):=dZ h rfl
theorem Bi {l:List UInt8} (h:(ae (gK l)).node=false):cO l=bK l:=dZ h rfl
theorem Bj {l:List UInt8} (h:(ae (gK l)).node=false):cI l=0:=dZ h rfl
theorem Bk {l:List UInt8} (h:(ae (gK l)).peer=true):cP l=aS 1 (cO l):=dZ h rfl
theorem Bl {l:List UInt8} (h:(ae (gK l)).peer=true):c6 l=v8 (cO l):=dZ h rfl
theorem Bm {l:List UInt8} (h:(ae (gK l)).peer=false):cP l=cO l:=dZ h rfl
theorem Bn {l:List UInt8} (h:(ae (gK l)).peer=false):c6 l=0:=dZ h rfl
theorem Bo {l:List UInt8} (h:(ae (gK l)).n=true):cQ l=aS 1 (cP l):=dZ h rfl
theorem Bp {l:List UInt8} (h:(ae (gK l)).n=true):dx l=v8 (cP l):=dZ h rfl
theorem Bq {l:List UInt8} (h:(ae (gK l)).n=false):cQ l=cP l:=dZ h rfl
theorem Br {l:List UInt8} (h:(ae (gK l)).n=false):dx l=0:=dZ h rfl
theorem Bs {l:List UInt8} (h:(ae (gK l)).bit=true):db l=aS 2 (cQ l):=dZ h rfl
theorem Bt {l:List UInt8} (h:(ae (gK l)).bit=true):dY l=gR (cQ l):=dZ h rfl
theorem Bu {l:List UInt8} (h:(ae (gK l)).bit=false):db l=cQ l:=dZ h rfl
theorem Bv {l:List UInt8} (h:(ae (gK l)).bit=false):dY l=0:=dZ h rfl
theorem Bw {l:List UInt8} (h:(ae (gK l)).inc=true):aW l=rU (db l):=dZ h rfl
theorem Bx {l:List UInt8} (h:(ae (gK l)).inc=true):fA l=vU (db l):=dZ h rfl
theorem By {l:List UInt8} (h:(ae (gK l)).inc=false):aW l=db l:=dZ h rfl
theorem Bz {l:List UInt8} (h:(ae (gK l)).inc=false):fA l=0:=dZ h rfl
theorem wE {l:List UInt8} (h:(ae (gK l)).body=true):cK l=aS (v8 (aW l)) (aS 1 (aW l)):=dZ h rfl
theorem BA {l:List UInt8} (h:(ae (gK l)).body=true):fe l=aG (aS 1 (aW l)).1 (aS 1 (aW l)).2 (v8 (aW l)):=dZ h rfl
theorem wF {l:List UInt8} (h:(ae (gK l)).body=false):cK l=aW l:=dZ h rfl
theorem BB {l:List UInt8} (h:(ae (gK l)).body=false):fe l=[]:=dZ h rfl
theorem BC {b:Bool} (h:¬ (if b=true then (3:Int) else 0)=0):b=true:=by cases b;exact absurd rfl h;rfl
theorem BD {b:Bool} (h:(if b=true then (3:Int) else 0)=0):b=false:=by cases b;rfl;exact absurd h (by decide)
set_option maxRecDepth 100000 in
theorem EM (l:List UInt8) (hl:l.length<2147483648):ax Tryd.prog 29 [.d (.ro 1 (af l))] [.gw 0 aj] (gX (aX l)) (nO (aX l)):=by
 refine ax.intro (by kernel_rfl) rfl rfl 69 rfl rfl fun D w0 K bs ac wd hK (al:bs.m=1) r=>?_
 have aY:=((qX _):IntKind.i64.wrap (((gK l:Nat):Int))=((gK l:Nat):Int))
 cases h0:(decide ((14:Int)≤((gK l:Nat):Int))) with
 | false=>
  have bw:=of_decide_eq_false h0
  refine bN (todo':=aft Tryd.f29 6) (E':=[(0,.d (.ro 1 (af l))),(2,.pt 1 0),(3,.z 0),(4,.pt 2 0),(6,.pt 3 0),(7,.pt 4 0)]) (M':=[.gw 0 aj,.bx 45 [.z 0,.z 0,.z 0,.z 0,.z 0,.d (.v (.int .u64 0)),.d (.v (.slice none 0 0))],.bx 102 [.d (.ro 1 (af (bK l).1)),.d (.v (.bool ((bK l).2)))],.bx 84 [.d (.v (.string ⟨((ae (gK l)).word).toArray⟩)),.d (.v (.bool ((ae (gK l)).node))),.d (.v (.bool ((ae (gK l)).peer))),.d (.v (.bool ((ae (gK l)).n))),.d (.v (.bool ((ae (gK l)).bit))),.d (.v (.bool ((ae (gK l)).inc))),.d (.v (.bool ((ae (gK l)).body)))],.bx 45 [.n (gK l),.z 0,.z 0,.z 0,.z 0,.d (.v (.int .u64 0)),.d (.v (.slice none 0 0))]]) tk mo hK al [(1,[(1,.mem [] (.pt 0 0) [.bx 102 [.d (.ro 1 (af ((l,false)).1)),.d (.v (.bool (((l,false)).2)))]])]),(2,[(1,.mem [2] (.d (.v (.int .u8 (((gK l:Nat):Int))))) [.bx 102 [.d (.ro 1 (af (bK l).1)),.d (.v (.bool ((bK l).2)))]]),(2,.z (((gK l:Nat):Int)))]),(3,[(1,.b false)]),(5,[(1,.ix (gK l) [.v (.string ⟨((ae (gK l)).word).toArray⟩),.v (.bool ((ae (gK l)).node)),.v (.bool ((ae (gK l)).peer)),.v (.bool ((ae (gK l)).n)),.v (.bool ((ae (gK l)).bit)),.v (.bool ((ae (gK l)).inc)),.v (.bool ((ae (gK l)).body))])])] 15 [0,1,2,3,4] [0,2,3,4,6,7] r (by kernel_rfl) (U (pF l hl) (U (pg ((l,false))) (U aY (U h0 (U (aN ((gK l:Nat):Int)) (U ((by omega):(gK l)<14) (U (mK (by omega):List.take 7 (List.drop ((gK l)*7) (aj:List DV))=([.v (.string ⟨((ae (gK l)).word).toArray⟩),.v (.bool ((ae (gK l)).node)),.v (.bool ((ae (gK l)).peer)),.v (.bool ((ae (gK l)).n)),.v (.bool ((ae (gK l)).bit)),.v (.bool ((ae (gK l)).inc)),.v (.bool ((ae (gK l)).body))]:List DV)) trivial))))))) fun ac wd r=>?_
  have r:=r.fB (E1:=[(0,.d (.ro 1 (af l))),(2,.pt 1 0),(3,.z 0),(4,.pt 2 0),(6,.pt 3 0),(7,.pt 4 0)]) (M1:=[.gw 0 aj,.bx 45 [.z 0,.z 0,.z 0,.z 0,.z 0,.d (.v (.int .u64 0)),.d (.v (.slice none 0 0))],.bx 102 [.d (.ro 1 (af (bK l).1)),.d (.v (.bool ((bK l).2)))],.bx 84 [.d (.v (.string ⟨((ae (gK l)).word).toArray⟩)),.d (.v (.bool ((ae (gK l)).node))),.d (.v (.bool ((ae (gK l)).peer))),.d (.v (.bool ((ae (gK l)).n))),.d (.v (.bool ((ae (gK l)).bit))),.d (.v (.bool ((ae (gK l)).inc))),.d (.v (.bool ((ae (gK l)).body)))],.bx 45 [.n (gK l),.z 0,.z 0,.z 0,.z 0,.d (.v (.int .u64 0)),.d (.v (.slice none 0 0))]]) (M2:=[.gw 0 aj,.bx 45 [.z 0,.z 0,.z 0,.z 0,.z 0,.d (.v (.int .u64 0)),.d (.v (.slice none 0 0))],.bx 102 [.d (.ro 1 (af (bK l).1)),.d (.v (.bool ((bK l).2)))],.bx 84 [.d (.v (.string ⟨((ae (gK l)).word).toArray⟩)),.d (.v (.bool ((ae (gK l)).node))),.d (.v (.bool ((ae (gK l)).peer))),.d (.v (.bool ((ae (gK l)).n))),.d (.v (.bool ((ae (gK l)).bit))),.d (.v (.bool ((ae (gK l)).inc))),.d (.v (.bool ((ae (gK l)).body)))],.bx 45 [.n (gK l),.z 0,.z 0,.z 0,.z 0,.d (.v (.int .u64 0)),.sl 5 (0)],.rw 5 1 ([])]) [] [(4,6,5,1)] (by kernel_rfl) (by kernel_rfl)
  refine bN (todo':=aft Tryd.f29 7) (E':=[(0,.d (.ro 1 (af l))),(2,.pt 1 0),(3,.z 0),(4,.pt 2 0),(6,.pt 3 0),(7,.pt 4 0),(22,.d (.v (.bool ((ae (gK l)).node))))]) (M':=[.gw 0 aj,.bx 45 [.z 0,.z 0,.z 0,.z 0,.z 0,.d (.v (.int .u64 0)),.d (.v (.slice none 0 0))],.bx 102 [.d (.ro 1 (af (bK l).1)),.d (.v (.bool ((bK l).2)))],.bx 84 [.d (.v (.string ⟨((ae (gK l)).word).toArray⟩)),.d (.v (.bool ((ae (gK l)).node))),.d (.v (.bool ((ae (gK l)).peer))),.d (.v (.bool ((ae (gK l)).n))),.d (.v (.bool ((ae (gK l)).bit))),.d (.v (.bool ((ae (gK l)).inc))),.d (.v (.bool ((ae (gK l)).body)))],.bx 45 [.n (gK l),.z 0,.z 0,.z 0,.z 0,.d (.v (.int .u64 0)),.sl 5 (0)],.rw 5 1 ([])]) tk mo hK al [] 3 [0,1,2,3,4,5] [0,2,3,4,6,7,22] r (by kernel_rfl) trivial fun ac wd r=>?_
  suffices J9:∀ ac wd,RB D w0 K 69 bs [(0,.d (.ro 1 (af l))),(2,.pt 1 0),(4,.pt 2 0),(7,.pt 4 0),(6,.pt 3 0),(28,.d (.v (.bool ((ae (gK l)).peer))))] [.gw 0 aj,.bx 45 [.z 0,.z 0,.z 0,.z 0,.z 0,.d (.v (.int .u64 0)),.d (.v (.slice none 0 0))],.bx 102 [.d (.ro 1 (af (cO l).1)),.d (.v (.bool ((cO l).2)))],.bx 84 [.d (.v (.string ⟨((ae (gK l)).word).toArray⟩)),.d (.v (.bool ((ae (gK l)).node))),.d (.v (.bool ((ae (gK l)).peer))),.d (.v (.bool ((ae (gK l)).n))),.d (.v (.bool ((ae (gK l)).bit))),.d (.v (.bool ((ae (gK l)).inc))),.d (.v (.bool ((ae (gK l)).body)))],.bx 45 [.n (gK l),.n (cI l),.z 0,.z 0,.z 0,.d (.v (.int .u64 0)),.sl 5 (0)],.rw 5 1 ([])] ac wd→aC Tryd.prog 29 (aft Tryd.f29 9) (ew D w0 K bs (gX (aX l)) (nO (aX l))) ac wd by
   cases h1:((ae (gK l)).node) with
   | false=>
    have r:=r.cast (E':=[(0,.d (.ro 1 (af l))),(2,.pt 1 0),(3,.z 0),(4,.pt 2 0),(6,.pt 3 0),(7,.pt 4 0),(22,.d (.v (.bool false)))]) (M':=[.gw 0 aj,.bx 45 [.z 0,.z 0,.z 0,.z 0,.z 0,.d (.v (.int .u64 0)),.d (.v (.slice none 0 0))],.bx 102 [.d (.ro 1 (af (bK l).1)),.d (.v (.bool ((bK l).2)))],.bx 84 [.d (.v (.string ⟨((ae (gK l)).word).toArray⟩)),.d (.v (.bool false)),.d (.v (.bool ((ae (gK l)).peer))),.d (.v (.bool ((ae (gK l)).n))),.d (.v (.bool ((ae (gK l)).bit))),.d (.v (.bool ((ae (gK l)).inc))),.d (.v (.bool ((ae (gK l)).body)))],.bx 45 [.n (gK l),.z 0,.z 0,.z 0,.z 0,.d (.v (.int .u64 0)),.sl 5 (0)],.rw 5 1 ([])]) (by rw [h1]) (by rw [h1])
    refine bN (todo':=aft Tryd.f29 9) (E':=[(0,.d (.ro 1 (af l))),(2,.pt 1 0),(4,.pt 2 0),(7,.pt 4 0),(6,.pt 3 0),(28,.d (.v (.bool ((ae (gK l)).peer))))]) (M':=[.gw 0 aj,.bx 45 [.z 0,.z 0,.z 0,.z 0,.z 0,.d (.v (.int .u64 0)),.d (.v (.slice none 0 0))],.bx 102 [.d (.ro 1 (af (bK l).1)),.d (.v (.bool ((bK l).2)))],.bx 84 [.d (.v (.string ⟨((ae (gK l)).word).toArray⟩)),.d (.v (.bool false)),.d (.v (.bool ((ae (gK l)).peer))),.d (.v (.bool ((ae (gK l)).n))),.d (.v (.bool ((ae (gK l)).bit))),.d (.v (.bool ((ae (gK l)).inc))),.d (.v (.bool ((ae (gK l)).body)))],.bx 45 [.n (gK l),.z 0,.z 0,.z 0,.z 0,.d (.v (.int .u64 0)),.sl 5 (0)],.rw 5 1 ([])]) tk mo hK al [] 5 [0,1,2,3,4,5] [0,2,4,7,6,28] r (by kernel_rfl) trivial fun ac wd r=>?_
    exact J9 ac wd (r.cast rfl (by rw [Bi h1,Bj h1,h1]<;>rfl))
   | true=>
    have r:=r.cast (E':=[(0,.d (.ro 1 (af l))),(2,.pt 1 0),(3,.z 0),(4,.pt 2 0),(6,.pt 3 0),(7,.pt 4 0),(22,.d (.v (.bool true)))]) (M':=[.gw 0 aj,.bx 45 [.z 0,.z 0,.z 0,.z 0,.z 0,.d (.v (.int .u64 0)),.d (.v (.slice none 0 0))],.bx 102 [.d (.ro 1 (af (bK l).1)),.d (.v (.bool ((bK l).2)))],.bx 84 [.d (.v (.string ⟨((ae (gK l)).word).toArray⟩)),.d (.v (.bool true)),.d (.v (.bool ((ae (gK l)).peer))),.d (.v (.bool ((ae (gK l)).n))),.d (.v (.bool ((ae (gK l)).bit))),.d (.v (.bool ((ae (gK l)).inc))),.d (.v (.bool ((ae (gK l)).body)))],.bx 45 [.n (gK l),.z 0,.z 0,.z 0,.z 0,.d (.v (.int .u64 0)),.sl 5 (0)],.rw 5 1 ([])]) (by rw [h1]) (by rw [h1])
    refine bN (todo':=aft Tryd.f29 9) (E':=[(0,.d (.ro 1 (af l))),(2,.pt 1 0),(4,.pt 2 0),(7,.pt 4 0),(6,.pt 3 0),(28,.d (.v (.bool ((ae (gK l)).peer))))]) (M':=[.gw 0 aj,.bx 45 [.z 0,.z 0,.z 0,.z 0,.z 0,.d (.v (.int .u64 0)),.d (.v (.slice none 0 0))],.bx 102 [.d (.ro 1 (af (aS 1 (bK l)).1)),.d (.v (.bool ((aS 1 (bK l)).2)))],.bx 84 [.d (.v (.string ⟨((ae (gK l)).word).toArray⟩)),.d (.v (.bool true)),.d (.v (.bool ((ae (gK l)).peer))),.d (.v (.bool ((ae (gK l)).n))),.d (.v (.bool ((ae (gK l)).bit))),.d (.v (.bool ((ae (gK l)).inc))),.d (.v (.bool ((ae (gK l)).body)))],.bx 45 [.n (gK l),.n (v8 (bK l)),.z 0,.z 0,.z 0,.d (.v (.int .u64 0)),.sl 5 (0)],.rw 5 1 ([])]) tk mo hK al [(8,[(1,.mem [2] (.d (.v (.int .u8 (((v8 (bK l):Nat):Int))))) [.bx 102 [.d (.ro 1 (af (aS 1 (bK l)).1)),.d (.v (.bool ((aS 1 (bK l)).2)))]]),(2,.z (((v8 (bK l):Nat):Int)))])] 5 [0,1,2,3,4,5] [0,2,4,7,6,28] r (by kernel_rfl) (U (pg (bK l)) (U ((qX _):IntKind.i64.wrap (((v8 (bK l):Nat):Int))=((v8 (bK l):Nat):Int)) trivial)) fun ac wd r=>?_
    exact J9 ac wd (r.cast rfl (by rw [Bg h1,Bh h1,h1]<;>rfl))
  intro ac wd r
  suffices qV:∀ ac wd,RB D w0 K 69 bs [(0,.d (.ro 1 (af l))),(2,.pt 1 0),(4,.pt 2 0),(7,.pt 4 0),(6,.pt 3 0),(34,.d (.v (.bool ((ae (gK l)).n))))] [.gw 0 aj,.bx 45 [.z 0,.z 0,.z 0,.z 0,.z 0,.d (.v (.int .u64 0)),.d (.v (.slice none 0 0))],.bx 102 [.d (.ro 1 (af (cP l).1)),.d (.v (.bool ((cP l).2)))],.bx 84 [.d (.v (.string ⟨((ae (gK l)).word).toArray⟩)),.d (.v (.bool ((ae (gK l)).node))),.d (.v (.bool ((ae (gK l)).peer))),.d (.v (.bool ((ae (gK l)).n))),.d (.v (.bool ((ae (gK l)).bit))),.d (.v (.bool ((ae (gK l)).inc))),.d (.v (.bool ((ae (gK l)).body)))],.bx 45 [.n (gK l),.n (cI l),.n (c6 l),.z 0,.z 0,.d (.v (.int .u64 0)),.sl 5 (0)],.rw 5 1 ([])] ac wd→aC Tryd.prog 29 (aft Tryd.f29 11) (ew D w0 K bs (gX (aX l)) (nO (aX l))) ac wd by
   cases h2:((ae (gK l)).peer) with
   | false=>
    have r:=r.cast (E':=[(0,.d (.ro 1 (af l))),(2,.pt 1 0),(4,.pt 2 0),(7,.pt 4 0),(6,.pt 3 0),(28,.d (.v (.bool false)))]) (M':=[.gw 0 aj,.bx 45 [.z 0,.z 0,.z 0,.z 0,.z 0,.d (.v (.int .u64 0)),.d (.v (.slice none 0 0))],.bx 102 [.d (.ro 1 (af (cO l).1)),.d (.v (.bool ((cO l).2)))],.bx 84 [.d (.v (.string ⟨((ae (gK l)).word).toArray⟩)),.d (.v (.bool ((ae (gK l)).node))),.d (.v (.bool false)),.d (.v (.bool ((ae (gK l)).n))),.d (.v (.bool ((ae (gK l)).bit))),.d (.v (.bool ((ae (gK l)).inc))),.d (.v (.bool ((ae (gK l)).body)))],.bx 45 [.n (gK l),.n (cI l),.z 0,.z 0,.z 0,.d (.v (.int .u64 0)),.sl 5 (0)],.rw 5 1 ([])]) (by rw [h2]) (by rw [h2])
    refine bN (todo':=aft Tryd.f29 11) (E':=[(0,.d (.ro 1 (af l))),(2,.pt 1 0),(4,.pt 2 0),(7,.pt 4 0),(6,.pt 3 0),(34,.d (.v (.bool ((ae (gK l)).n))))]) (M':=[.gw 0 aj,.bx 45 [.z 0,.z 0,.z 0,.z 0,.z 0,.d (.v (.int .u64 0)),.d (.v (.slice none 0 0))],.bx 102 [.d (.ro 1 (af (cO l).1)),.d (.v (.bool ((cO l).2)))],.bx 84 [.d (.v (.string ⟨((ae (gK l)).word).toArray⟩)),.d (.v (.bool ((ae (gK l)).node))),.d (.v (.bool false)),.d (.v (.bool ((ae (gK l)).n))),.d (.v (.bool ((ae (gK l)).bit))),.d (.v (.bool ((ae (gK l)).inc))),.d (.v (.bool ((ae (gK l)).body)))],.bx 45 [.n (gK l),.n (cI l),.z 0,.z 0,.z 0,.d (.v (.int .u64 0)),.sl 5 (0)],.rw 5 1 ([])]) tk mo hK al [] 5 [0,1,2,3,4,5] [0,2,4,7,6,34] r (by kernel_rfl) trivial fun ac wd r=>?_
    exact qV ac wd (r.cast rfl (by rw [Bm h2,Bn h2,h2]<;>rfl))
   | true=>
    have r:=r.cast (E':=[(0,.d (.ro 1 (af l))),(2,.pt 1 0),(4,.pt 2 0),(7,.pt 4 0),(6,.pt 3 0),(28,.d (.v (.bool true)))]) (M':=[.gw 0 aj,.bx 45 [.z 0,.z 0,.z 0,.z 0,.z 0,.d (.v (.int .u64 0)),.d (.v (.slice none 0 0))],.bx 102 [.d (.ro 1 (af (cO l).1)),.d (.v (.bool ((cO l).2)))],.bx 84 [.d (.v (.string ⟨((ae (gK l)).word).toArray⟩)),.d (.v (.bool ((ae (gK l)).node))),.d (.v (.bool true)),.d (.v (.bool ((ae (gK l)).n))),.d (.v (.bool ((ae (gK l)).bit))),.d (.v (.bool ((ae (gK l)).inc))),.d (.v (.bool ((ae (gK l)).body)))],.bx 45 [.n (gK l),.n (cI l),.z 0,.z 0,.z 0,.d (.v (.int .u64 0)),.sl 5 (0)],.rw 5 1 ([])]) (by rw [h2]) (by rw [h2])
    refine bN (todo':=aft Tryd.f29 11) (E':=[(0,.d (.ro 1 (af l))),(2,.pt 1 0),(4,.pt 2 0),(7,.pt 4 0),(6,.pt 3 0),(34,.d (.v (.bool ((ae (gK l)).n))))]) (M':=[.gw 0 aj,.bx 45 [.z 0,.z 0,.z 0,.z 0,.z 0,.d (.v (.int .u64 0)),.d (.v (.slice none 0 0))],.bx 102 [.d (.ro 1 (af (aS 1 (cO l)).1)),.d (.v (.bool ((aS 1 (cO l)).2)))],.bx 84 [.d (.v (.string ⟨((ae (gK l)).word).toArray⟩)),.d (.v (.bool ((ae (gK l)).node))),.d (.v (.bool true)),.d (.v (.bool ((ae (gK l)).n))),.d (.v (.bool ((ae (gK l)).bit))),.d (.v (.bool ((ae (gK l)).inc))),.d (.v (.bool ((ae (gK l)).body)))],.bx 45 [.n (gK l),.n (cI l),.n (v8 (cO l)),.z 0,.z 0,.d (.v (.int .u64 0)),.sl 5 (0)],.rw 5 1 ([])]) tk mo hK al [(10,[(1,.mem [2] (.d (.v (.int .u8 (((v8 (cO l):Nat):Int))))) [.bx 102 [.d (.ro 1 (af (aS 1 (cO l)).1)),.d (.v (.bool ((aS 1 (cO l)).2)))]]),(2,.z (((v8 (cO l):Nat):Int)))])] 5 [0,1,2,3,4,5] [0,2,4,7,6,34] r (by kernel_rfl) (U (pg (cO l)) (U ((qX _):IntKind.i64.wrap (((v8 (cO l):Nat):Int))=((v8 (cO l):Nat):Int)) trivial)) fun ac wd r=>?_
    exact qV ac wd (r.cast rfl (by rw [Bk h2,Bl h2,h2]<;>rfl))
  intro ac wd r
  suffices qW:∀ ac wd,RB D w0 K 69 bs [(0,.d (.ro 1 (af l))),(2,.pt 1 0),(4,.pt 2 0),(7,.pt 4 0),(6,.pt 3 0),(40,.d (.v (.bool ((ae (gK l)).bit))))] [.gw 0 aj,.bx 45 [.z 0,.z 0,.z 0,.z 0,.z 0,.d (.v (.int .u64 0)),.d (.v (.slice none 0 0))],.bx 102 [.d (.ro 1 (af (cQ l).1)),.d (.v (.bool ((cQ l).2)))],.bx 84 [.d (.v (.string ⟨((ae (gK l)).word).toArray⟩)),.d (.v (.bool ((ae (gK l)).node))),.d (.v (.bool ((ae (gK l)).peer))),.d (.v (.bool ((ae (gK l)).n))),.d (.v (.bool ((ae (gK l)).bit))),.d (.v (.bool ((ae (gK l)).inc))),.d (.v (.bool ((ae (gK l)).body)))],.bx 45 [.n (gK l),.n (cI l),.n (c6 l),.n (dx l),.z 0,.d (.v (.int .u64 0)),.sl 5 (0)],.rw 5 1 ([])] ac wd→aC Tryd.prog 29 (aft Tryd.f29 13) (ew D w0 K bs (gX (aX l)) (nO (aX l))) ac wd by
   cases h3:((ae (gK l)).n) with
   | false=>
    have r:=r.cast (E':=[(0,.d (.ro 1 (af l))),(2,.pt 1 0),(4,.pt 2 0),(7,.pt 4 0),(6,.pt 3 0),(34,.d (.v (.bool false)))]) (M':=[.gw 0 aj,.bx 45 [.z 0,.z 0,.z 0,.z 0,.z 0,.d (.v (.int .u64 0)),.d (.v (.slice none 0 0))],.bx 102 [.d (.ro 1 (af (cP l).1)),.d (.v (.bool ((cP l).2)))],.bx 84 [.d (.v (.string ⟨((ae (gK l)).word).toArray⟩)),.d (.v (.bool ((ae (gK l)).node))),.d (.v (.bool ((ae (gK l)).peer))),.d (.v (.bool false)),.d (.v (.bool ((ae (gK l)).bit))),.d (.v (.bool ((ae (gK l)).inc))),.d (.v (.bool ((ae (gK l)).body)))],.bx 45 [.n (gK l),.n (cI l),.n (c6 l),.z 0,.z 0,.d (.v (.int .u64 0)),.sl 5 (0)],.rw 5 1 ([])]) (by rw [h3]) (by rw [h3])
    refine bN (todo':=aft Tryd.f29 13) (E':=[(0,.d (.ro 1 (af l))),(2,.pt 1 0),(4,.pt 2 0),(7,.pt 4 0),(6,.pt 3 0),(40,.d (.v (.bool ((ae (gK l)).bit))))]) (M':=[.gw 0 aj,.bx 45 [.z 0,.z 0,.z 0,.z 0,.z 0,.d (.v (.int .u64 0)),.d (.v (.slice none 0 0))],.bx 102 [.d (.ro 1 (af (cP l).1)),.d (.v (.bool ((cP l).2)))],.bx 84 [.d (.v (.string ⟨((ae (gK l)).word).toArray⟩)),.d (.v (.bool ((ae (gK l)).node))),.d (.v (.bool ((ae (gK l)).peer))),.d (.v (.bool false)),.d (.v (.bool ((ae (gK l)).bit))),.d (.v (.bool ((ae (gK l)).inc))),.d (.v (.bool ((ae (gK l)).body)))],.bx 45 [.n (gK l),.n (cI l),.n (c6 l),.z 0,.z 0,.d (.v (.int .u64 0)),.sl 5 (0)],.rw 5 1 ([])]) tk mo hK al [] 5 [0,1,2,3,4,5] [0,2,4,7,6,40] r (by kernel_rfl) trivial fun ac wd r=>?_
    exact qW ac wd (r.cast rfl (by rw [Bq h3,Br h3,h3]<;>rfl))
   | true=>
    have r:=r.cast (E':=[(0,.d (.ro 1 (af l))),(2,.pt 1 0),(4,.pt 2 0),(7,.pt 4 0),(6,.pt 3 0),(34,.d (.v (.bool true)))]) (M':=[.gw 0 aj,.bx 45 [.z 0,.z 0,.z 0,.z 0,.z 0,.d (.v (.int .u64 0)),.d (.v (.slice none 0 0))],.bx 102 [.d (.ro 1 (af (cP l).1)),.d (.v (.bool ((cP l).2)))],.bx 84 [.d (.v (.string ⟨((ae (gK l)).word).toArray⟩)),.d (.v (.bool ((ae (gK l)).node))),.d (.v (.bool ((ae (gK l)).peer))),.d (.v (.bool true)),.d (.v (.bool ((ae (gK l)).bit))),.d (.v (.bool ((ae (gK l)).inc))),.d (.v (.bool ((ae (gK l)).body)))],.bx 45 [.n (gK l),.n (cI l),.n (c6 l),.z 0,.z 0,.d (.v (.int .u64 0)),.sl 5 (0)],.rw 5 1 ([])]) (by rw [h3]) (by rw [h3])
    refine bN (todo':=aft Tryd.f29 13) (E':=[(0,.d (.ro 1 (af l))),(2,.pt 1 0),(4,.pt 2 0),(7,.pt 4 0),(6,.pt 3 0),(40,.d (.v (.bool ((ae (gK l)).bit))))]) (M':=[.gw 0 aj,.bx 45 [.z 0,.z 0,.z 0,.z 0,.z 0,.d (.v (.int .u64 0)),.d (.v (.slice none 0 0))],.bx 102 [.d (.ro 1 (af (aS 1 (cP l)).1)),.d (.v (.bool ((aS 1 (cP l)).2)))],.bx 84 [.d (.v (.string ⟨((ae (gK l)).word).toArray⟩)),.d (.v (.bool ((ae (gK l)).node))),.d (.v (.bool ((ae (gK l)).peer))),.d (.v (.bool true)),.d (.v (.bool ((ae (gK l)).bit))),.d (.v (.bool ((ae (gK l)).inc))),.d (.v (.bool ((ae (gK l)).body)))],.bx 45 [.n (gK l),.n (cI l),.n (c6 l),.n (v8 (cP l)),.z 0,.d (.v (.int .u64 0)),.sl 5 (0)],.rw 5 1 ([])]) tk mo hK al [(12,[(1,.mem [2] (.d (.v (.int .u8 (((v8 (cP l):Nat):Int))))) [.bx 102 [.d (.ro 1 (af (aS 1 (cP l)).1)),.d (.v (.bool ((aS 1 (cP l)).2)))]]),(2,.z (((v8 (cP l):Nat):Int)))])] 5 [0,1,2,3,4,5] [0,2,4,7,6,40] r (by kernel_rfl) (U (pg (cP l)) (U ((qX _):IntKind.i64.wrap (((v8 (cP l):Nat):Int))=((v8 (cP l):Nat):Int)) trivial)) fun ac wd r=>?_
    exact qW ac wd (r.cast rfl (by rw [Bo h3,Bp h3,h3]<;>rfl))
  intro ac wd r
  suffices CP:∀ ac wd,RB D w0 K 69 bs [(0,.d (.ro 1 (af l))),(2,.pt 1 0),(4,.pt 2 0),(7,.pt 4 0),(6,.pt 3 0),(46,.d (.v (.bool ((ae (gK l)).inc))))] [.gw 0 aj,.bx 45 [.z 0,.z 0,.z 0,.z 0,.z 0,.d (.v (.int .u64 0)),.d (.v (.slice none 0 0))],.bx 102 [.d (.ro 1 (af (db l).1)),.d (.v (.bool ((db l).2)))],.bx 84 [.d (.v (.string ⟨((ae (gK l)).word).toArray⟩)),.d (.v (.bool ((ae (gK l)).node))),.d (.v (.bool ((ae (gK l)).peer))),.d (.v (.bool ((ae (gK l)).n))),.d (.v (.bool ((ae (gK l)).bit))),.d (.v (.bool ((ae (gK l)).inc))),.d (.v (.bool ((ae (gK l)).body)))],.bx 45 [.n (gK l),.n (cI l),.n (c6 l),.n (dx l),.n (dY l),.d (.v (.int .u64 0)),.sl 5 (0)],.rw 5 1 ([])] ac wd→aC Tryd.prog 29 (aft Tryd.f29 15) (ew D w0 K bs (gX (aX l)) (nO (aX l))) ac wd by
   cases h4:((ae (gK l)).bit) with
   | false=>
    have r:=r.cast (E':=[(0,.d (.ro 1 (af l))),(2,.pt 1 0),(4,.pt 2 0),(7,.pt 4 0),(6,.pt 3 0),(40,.d (.v (.bool false)))]) (M':=[.gw 0 aj,.bx 45 [.z 0,.z 0,.z 0,.z 0,.z 0,.d (.v (.int .u64 0)),.d (.v (.slice none 0 0))],.bx 102 [.d (.ro 1 (af (cQ l).1)),.d (.v (.bool ((cQ l).2)))],.bx 84 [.d (.v (.string ⟨((ae (gK l)).word).toArray⟩)),.d (.v (.bool ((ae (gK l)).node))),.d (.v (.bool ((ae (gK l)).peer))),.d (.v (.bool ((ae (gK l)).n))),.d (.v (.bool false)),.d (.v (.bool ((ae (gK l)).inc))),.d (.v (.bool ((ae (gK l)).body)))],.bx 45 [.n (gK l),.n (cI l),.n (c6 l),.n (dx l),.z 0,.d (.v (.int .u64 0)),.sl 5 (0)],.rw 5 1 ([])]) (by rw [h4]) (by rw [h4])
    refine bN (todo':=aft Tryd.f29 15) (E':=[(0,.d (.ro 1 (af l))),(2,.pt 1 0),(4,.pt 2 0),(7,.pt 4 0),(6,.pt 3 0),(46,.d (.v (.bool ((ae (gK l)).inc))))]) (M':=[.gw 0 aj,.bx 45 [.z 0,.z 0,.z 0,.z 0,.z 0,.d (.v (.int .u64 0)),.d (.v (.slice none 0 0))],.bx 102 [.d (.ro 1 (af (cQ l).1)),.d (.v (.bool ((cQ l).2)))],.bx 84 [.d (.v (.string ⟨((ae (gK l)).word).toArray⟩)),.d (.v (.bool ((ae (gK l)).node))),.d (.v (.bool ((ae (gK l)).peer))),.d (.v (.bool ((ae (gK l)).n))),.d (.v (.bool false)),.d (.v (.bool ((ae (gK l)).inc))),.d (.v (.bool ((ae (gK l)).body)))],.bx 45 [.n (gK l),.n (cI l),.n (c6 l),.n (dx l),.z 0,.d (.v (.int .u64 0)),.sl 5 (0)],.rw 5 1 ([])]) tk mo hK al [] 5 [0,1,2,3,4,5] [0,2,4,7,6,46] r (by kernel_rfl) trivial fun ac wd r=>?_
    exact CP ac wd (r.cast rfl (by rw [Bu h4,Bv h4,h4]<;>rfl))
   | true=>
    have r:=r.cast (E':=[(0,.d (.ro 1 (af l))),(2,.pt 1 0),(4,.pt 2 0),(7,.pt 4 0),(6,.pt 3 0),(40,.d (.v (.bool true)))]) (M':=[.gw 0 aj,.bx 45 [.z 0,.z 0,.z 0,.z 0,.z 0,.d (.v (.int .u64 0)),.d (.v (.slice none 0 0))],.bx 102 [.d (.ro 1 (af (cQ l).1)),.d (.v (.bool ((cQ l).2)))],.bx 84 [.d (.v (.string ⟨((ae (gK l)).word).toArray⟩)),.d (.v (.bool ((ae (gK l)).node))),.d (.v (.bool ((ae (gK l)).peer))),.d (.v (.bool ((ae (gK l)).n))),.d (.v (.bool true)),.d (.v (.bool ((ae (gK l)).inc))),.d (.v (.bool ((ae (gK l)).body)))],.bx 45 [.n (gK l),.n (cI l),.n (c6 l),.n (dx l),.z 0,.d (.v (.int .u64 0)),.sl 5 (0)],.rw 5 1 ([])]) (by rw [h4]) (by rw [h4])
    refine bN (todo':=aft Tryd.f29 15) (E':=[(0,.d (.ro 1 (af l))),(2,.pt 1 0),(4,.pt 2 0),(7,.pt 4 0),(6,.pt 3 0),(46,.d (.v (.bool ((ae (gK l)).inc))))]) (M':=[.gw 0 aj,.bx 45 [.z 0,.z 0,.z 0,.z 0,.z 0,.d (.v (.int .u64 0)),.d (.v (.slice none 0 0))],.bx 102 [.d (.ro 1 (af (aS 2 (cQ l)).1)),.d (.v (.bool ((aS 2 (cQ l)).2)))],.bx 84 [.d (.v (.string ⟨((ae (gK l)).word).toArray⟩)),.d (.v (.bool ((ae (gK l)).node))),.d (.v (.bool ((ae (gK l)).peer))),.d (.v (.bool ((ae (gK l)).n))),.d (.v (.bool true)),.d (.v (.bool ((ae (gK l)).inc))),.d (.v (.bool ((ae (gK l)).body)))],.bx 45 [.n (gK l),.n (cI l),.n (c6 l),.n (dx l),.n (gR (cQ l)),.d (.v (.int .u64 0)),.sl 5 (0)],.rw 5 1 ([])]) tk mo hK al [(14,[(1,.mem [2] (.d (.v (.int .u16 (((gR (cQ l):Nat):Int))))) [.bx 102 [.d (.ro 1 (af (aS 2 (cQ l)).1)),.d (.v (.bool ((aS 2 (cQ l)).2)))]]),(2,.z (((gR (cQ l):Nat):Int)))])] 5 [0,1,2,3,4,5] [0,2,4,7,6,46] r (by kernel_rfl) (U (K8 (cQ l)) (U ((K7 _):IntKind.i64.wrap (((gR (cQ l):Nat):Int))=((gR (cQ l):Nat):Int)) trivial)) fun ac wd r=>?_
    exact CP ac wd (r.cast rfl (by rw [Bs h4,Bt h4,h4]<;>rfl))
  intro ac wd r
  suffices CQ:∀ ac wd,RB D w0 K 69 bs [(0,.d (.ro 1 (af l))),(2,.pt 1 0),(4,.pt 2 0),(7,.pt 4 0),(51,.d (.v (.bool ((ae (gK l)).body))))] [.gw 0 aj,.bx 45 [.z 0,.z 0,.z 0,.z 0,.z 0,.d (.v (.int .u64 0)),.d (.v (.slice none 0 0))],.bx 102 [.d (.ro 1 (af (aW l).1)),.d (.v (.bool ((aW l).2)))],.bx 84 [.d (.v (.string ⟨((ae (gK l)).word).toArray⟩)),.d (.v (.bool ((ae (gK l)).node))),.d (.v (.bool ((ae (gK l)).peer))),.d (.v (.bool ((ae (gK l)).n))),.d (.v (.bool ((ae (gK l)).bit))),.d (.v (.bool ((ae (gK l)).inc))),.d (.v (.bool ((ae (gK l)).body)))],.bx 45 [.n (gK l),.n (cI l),.n (c6 l),.n (dx l),.n (dY l),.u (fA l),.sl 5 (0)],.rw 5 1 ([])] ac wd→aC Tryd.prog 29 (aft Tryd.f29 17) (ew D w0 K bs (gX (aX l)) (nO (aX l))) ac wd by
   cases h5:((ae (gK l)).inc) with
   | false=>
    have r:=r.cast (E':=[(0,.d (.ro 1 (af l))),(2,.pt 1 0),(4,.pt 2 0),(7,.pt 4 0),(6,.pt 3 0),(46,.d (.v (.bool false)))]) (M':=[.gw 0 aj,.bx 45 [.z 0,.z 0,.z 0,.z 0,.z 0,.d (.v (.int .u64 0)),.d (.v (.slice none 0 0))],.bx 102 [.d (.ro 1 (af (db l).1)),.d (.v (.bool ((db l).2)))],.bx 84 [.d (.v (.string ⟨((ae (gK l)).word).toArray⟩)),.d (.v (.bool ((ae (gK l)).node))),.d (.v (.bool ((ae (gK l)).peer))),.d (.v (.bool ((ae (gK l)).n))),.d (.v (.bool ((ae (gK l)).bit))),.d (.v (.bool false)),.d (.v (.bool ((ae (gK l)).body)))],.bx 45 [.n (gK l),.n (cI l),.n (c6 l),.n (dx l),.n (dY l),.d (.v (.int .u64 0)),.sl 5 (0)],.rw 5 1 ([])]) (by rw [h5]) (by rw [h5])
    refine bN (todo':=aft Tryd.f29 17) (E':=[(0,.d (.ro 1 (af l))),(2,.pt 1 0),(4,.pt 2 0),(7,.pt 4 0),(51,.d (.v (.bool ((ae (gK l)).body))))]) (M':=[.gw 0 aj,.bx 45 [.z 0,.z 0,.z 0,.z 0,.z 0,.d (.v (.int .u64 0)),.d (.v (.slice none 0 0))],.bx 102 [.d (.ro 1 (af (db l).1)),.d (.v (.bool ((db l).2)))],.bx 84 [.d (.v (.string ⟨((ae (gK l)).word).toArray⟩)),.d (.v (.bool ((ae (gK l)).node))),.d (.v (.bool ((ae (gK l)).peer))),.d (.v (.bool ((ae (gK l)).n))),.d (.v (.bool ((ae (gK l)).bit))),.d (.v (.bool false)),.d (.v (.bool ((ae (gK l)).body)))],.bx 45 [.n (gK l),.n (cI l),.n (c6 l),.n (dx l),.n (dY l),.d (.v (.int .u64 0)),.sl 5 (0)],.rw 5 1 ([])]) tk mo hK al [] 5 [0,1,2,3,4,5] [0,2,4,7,51] r (by kernel_rfl) trivial fun ac wd r=>?_
    exact CQ ac wd (r.cast rfl (by rw [By h5,Bz h5,h5]<;>rfl))
   | true=>
    have r:=r.cast (E':=[(0,.d (.ro 1 (af l))),(2,.pt 1 0),(4,.pt 2 0),(7,.pt 4 0),(6,.pt 3 0),(46,.d (.v (.bool true)))]) (M':=[.gw 0 aj,.bx 45 [.z 0,.z 0,.z 0,.z 0,.z 0,.d (.v (.int .u64 0)),.d (.v (.slice none 0 0))],.bx 102 [.d (.ro 1 (af (db l).1)),.d (.v (.bool ((db l).2)))],.bx 84 [.d (.v (.string ⟨((ae (gK l)).word).toArray⟩)),.d (.v (.bool ((ae (gK l)).node))),.d (.v (.bool ((ae (gK l)).peer))),.d (.v (.bool ((ae (gK l)).n))),.d (.v (.bool ((ae (gK l)).bit))),.d (.v (.bool true)),.d (.v (.bool ((ae (gK l)).body)))],.bx 45 [.n (gK l),.n (cI l),.n (c6 l),.n (dx l),.n (dY l),.d (.v (.int .u64 0)),.sl 5 (0)],.rw 5 1 ([])]) (by rw [h5]) (by rw [h5])
    refine bN (todo':=aft Tryd.f29 17) (E':=[(0,.d (.ro 1 (af l))),(2,.pt 1 0),(4,.pt 2 0),(7,.pt 4 0),(51,.d (.v (.bool ((ae (gK l)).body))))]) (M':=[.gw 0 aj,.bx 45 [.z 0,.z 0,.z 0,.z 0,.z 0,.d (.v (.int .u64 0)),.d (.v (.slice none 0 0))],.bx 102 [.d (.ro 1 (af (rU (db l)).1)),.d (.v (.bool ((rU (db l)).2)))],.bx 84 [.d (.v (.string ⟨((ae (gK l)).word).toArray⟩)),.d (.v (.bool ((ae (gK l)).node))),.d (.v (.bool ((ae (gK l)).peer))),.d (.v (.bool ((ae (gK l)).n))),.d (.v (.bool ((ae (gK l)).bit))),.d (.v (.bool true)),.d (.v (.bool ((ae (gK l)).body)))],.bx 45 [.n (gK l),.n (cI l),.n (c6 l),.n (dx l),.n (dY l),.u (vU (db l)),.sl 5 (0)],.rw 5 1 ([])]) tk mo hK al [(16,[(1,.mem [2] (.u (vU (db l))) [.bx 102 [.d (.ro 1 (af (rU (db l)).1)),.d (.v (.bool ((rU (db l)).2)))]])])] 5 [0,1,2,3,4,5] [0,2,4,7,51] r (by kernel_rfl) (U (Kg (db l)) trivial) fun ac wd r=>?_
    exact CQ ac wd (r.cast rfl (by rw [Bw h5,Bx h5,h5]<;>rfl))
  intro ac wd r
  suffices nP:∀ ac wd,RB D w0 K 69 bs [(0,.d (.ro 1 (af l))),(2,.pt 1 0),(4,.pt 2 0),(7,.pt 4 0),(61,.d (.v (.bool ((((if (cK l).2=true then 3 else 0):Int) != 0)))))] [.gw 0 aj,.bx 45 [.z 0,.z 0,.z 0,.z 0,.z 0,.d (.v (.int .u64 0)),.d (.v (.slice none 0 0))],.bx 102 [.d (.ro 1 (af (cK l).1)),.d (.v (.bool ((cK l).2)))],.bx 84 [.d (.v (.string ⟨((ae (gK l)).word).toArray⟩)),.d (.v (.bool ((ae (gK l)).node))),.d (.v (.bool ((ae (gK l)).peer))),.d (.v (.bool ((ae (gK l)).n))),.d (.v (.bool ((ae (gK l)).bit))),.d (.v (.bool ((ae (gK l)).inc))),.d (.v (.bool ((ae (gK l)).body)))],.bx 45 [.n (gK l),.n (cI l),.n (c6 l),.n (dx l),.n (dY l),.u (fA l),.sl 5 ((af (fe l)).length)],.rw 5 1 (af (fe l))] ac wd→aC Tryd.prog 29 (aft Tryd.f29 19) (ew D w0 K bs (gX (aX l)) (nO (aX l))) ac wd by
   cases h6:((ae (gK l)).body) with
   | false=>
    have r:=r.cast (E':=[(0,.d (.ro 1 (af l))),(2,.pt 1 0),(4,.pt 2 0),(7,.pt 4 0),(51,.d (.v (.bool false)))]) (M':=[.gw 0 aj,.bx 45 [.z 0,.z 0,.z 0,.z 0,.z 0,.d (.v (.int .u64 0)),.d (.v (.slice none 0 0))],.bx 102 [.d (.ro 1 (af (aW l).1)),.d (.v (.bool ((aW l).2)))],.bx 84 [.d (.v (.string ⟨((ae (gK l)).word).toArray⟩)),.d (.v (.bool ((ae (gK l)).node))),.d (.v (.bool ((ae (gK l)).peer))),.d (.v (.bool ((ae (gK l)).n))),.d (.v (.bool ((ae (gK l)).bit))),.d (.v (.bool ((ae (gK l)).inc))),.d (.v (.bool false))],.bx 45 [.n (gK l),.n (cI l),.n (c6 l),.n (dx l),.n (dY l),.u (fA l),.sl 5 (0)],.rw 5 1 ([])]) (by rw [h6]) (by rw [h6])
    refine bN (todo':=aft Tryd.f29 19) (E':=[(0,.d (.ro 1 (af l))),(2,.pt 1 0),(4,.pt 2 0),(7,.pt 4 0),(61,.d (.v (.bool ((((if (aW l).2=true then 3 else 0):Int) != 0)))))]) (M':=[.gw 0 aj,.bx 45 [.z 0,.z 0,.z 0,.z 0,.z 0,.d (.v (.int .u64 0)),.d (.v (.slice none 0 0))],.bx 102 [.d (.ro 1 (af (aW l).1)),.d (.v (.bool ((aW l).2)))],.bx 84 [.d (.v (.string ⟨((ae (gK l)).word).toArray⟩)),.d (.v (.bool ((ae (gK l)).node))),.d (.v (.bool ((ae (gK l)).peer))),.d (.v (.bool ((ae (gK l)).n))),.d (.v (.bool ((ae (gK l)).bit))),.d (.v (.bool ((ae (gK l)).inc))),.d (.v (.bool false))],.bx 45 [.n (gK l),.n (cI l),.n (c6 l),.n (dx l),.n (dY l),.u (fA l),.sl 5 (0)],.rw 5 1 ([])]) tk mo hK al [(19,[(1,.mem [2] (.z ((if (aW l).2=true then 3 else 0))) [.bx 102 [.d (.ro 1 (af (aW l).1)),.d (.v (.bool ((aW l).2)))]])])] 5 [0,1,2,3,4,5] [0,2,4,7,61] r (by kernel_rfl) (U (pW (aW l).1 (aW l).2) trivial) fun ac wd r=>?_
    exact nP ac wd (r.cast (by rw [wF h6]) (by rw [wF h6,BB h6,h6]<;>rfl))
   | true=>
    have r:=r.cast (E':=[(0,.d (.ro 1 (af l))),(2,.pt 1 0),(4,.pt 2 0),(7,.pt 4 0),(51,.d (.v (.bool true)))]) (M':=[.gw 0 aj,.bx 45 [.z 0,.z 0,.z 0,.z 0,.z 0,.d (.v (.int .u64 0)),.d (.v (.slice none 0 0))],.bx 102 [.d (.ro 1 (af (aW l).1)),.d (.v (.bool ((aW l).2)))],.bx 84 [.d (.v (.string ⟨((ae (gK l)).word).toArray⟩)),.d (.v (.bool ((ae (gK l)).node))),.d (.v (.bool ((ae (gK l)).peer))),.d (.v (.bool ((ae (gK l)).n))),.d (.v (.bool ((ae (gK l)).bit))),.d (.v (.bool ((ae (gK l)).inc))),.d (.v (.bool true))],.bx 45 [.n (gK l),.n (cI l),.n (c6 l),.n (dx l),.n (dY l),.u (fA l),.sl 5 (0)],.rw 5 1 ([])]) (by rw [h6]) (by rw [h6])
    refine bN (todo':=aft Tryd.f29 19) (E':=[(0,.d (.ro 1 (af l))),(2,.pt 1 0),(4,.pt 2 0),(7,.pt 4 0),(61,.d (.v (.bool ((((if (aS ((v8 (aW l):Nat):Int) (aS 1 (aW l))).2=true then 3 else 0):Int) != 0)))))]) (M':=[.gw 0 aj,.bx 45 [.z 0,.z 0,.z 0,.z 0,.z 0,.d (.v (.int .u64 0)),.d (.v (.slice none 0 0))],.bx 102 [.d (.ro 1 (af (aS ((v8 (aW l):Nat):Int) (aS 1 (aW l))).1)),.d (.v (.bool ((aS ((v8 (aW l):Nat):Int) (aS 1 (aW l))).2)))],.bx 84 [.d (.v (.string ⟨((ae (gK l)).word).toArray⟩)),.d (.v (.bool ((ae (gK l)).node))),.d (.v (.bool ((ae (gK l)).peer))),.d (.v (.bool ((ae (gK l)).n))),.d (.v (.bool ((ae (gK l)).bit))),.d (.v (.bool ((ae (gK l)).inc))),.d (.v (.bool true))],.bx 45 [.n (gK l),.n (cI l),.n (c6 l),.n (dx l),.n (dY l),.u (fA l),.sl 5 ((af (aG (aS 1 (aW l)).1 (aS 1 (aW l)).2 ((v8 (aW l):Nat):Int))).length)],.rw 5 1 (af (aG (aS 1 (aW l)).1 (aS 1 (aW l)).2 ((v8 (aW l):Nat):Int)))]) tk mo hK al [(18,[(2,.mem [2] (.d (.v (.int .u8 (((v8 (aW l):Nat):Int))))) [.bx 102 [.d (.ro 1 (af (aS 1 (aW l)).1)),.d (.v (.bool ((aS 1 (aW l)).2)))]]),(3,.z (((v8 (aW l):Nat):Int))),(4,.mem [2] (.d (.ro 1 (af (aG (aS 1 (aW l)).1 (aS 1 (aW l)).2 ((v8 (aW l):Nat):Int))))) [.bx 102 [.d (.ro 1 (af (aS ((v8 (aW l):Nat):Int) (aS 1 (aW l))).1)),.d (.v (.bool ((aS ((v8 (aW l):Nat):Int) (aS 1 (aW l))).2)))]]),(5,.aP (.em 5 1 (af (aG (aS 1 (aW l)).1 (aS 1 (aW l)).2 ((v8 (aW l):Nat):Int)))))]),(19,[(1,.mem [2] (.z ((if (aS ((v8 (aW l):Nat):Int) (aS 1 (aW l))).2=true then 3 else 0))) [.bx 102 [.d (.ro 1 (af (aS ((v8 (aW l):Nat):Int) (aS 1 (aW l))).1)),.d (.v (.bool ((aS ((v8 (aW l):Nat):Int) (aS 1 (aW l))).2)))]])])] 5 [0,1,2,3,4,6] [0,2,4,7,61] r (by kernel_rfl) (U (pg (aW l)) (U ((qX _):IntKind.i64.wrap (((v8 (aW l):Nat):Int))=((v8 (aW l):Nat):Int)) (U (IV (aS 1 (aW l)).1 (aS 1 (aW l)).2 ((v8 (aW l):Nat):Int) (by have:=gA 1 (aW l);have:=r5 l;omega)) (U (tx (aG (aS 1 (aW l)).1 (aS 1 (aW l)).2 ((v8 (aW l):Nat):Int)) (by have:=gA 1 (aW l);have:=r5 l;unfold aG;split<;>simp<;>omega)) (U (pW (aS ((v8 (aW l):Nat):Int) (aS 1 (aW l))).1 (aS ((v8 (aW l):Nat):Int) (aS 1 (aW l))).2) trivial))))) fun ac wd r=>?_
    exact nP ac wd (r.cast (by rw [wE h6]) (by rw [wE h6,BA h6,h6]<;>rfl))
  intro ac wd r
  cases h7:((((if (cK l).2=true then 3 else 0):Int) != 0)) with
  | false=>
   have eA:=fg h7
   have r:=r.cast (E':=[(0,.d (.ro 1 (af l))),(2,.pt 1 0),(4,.pt 2 0),(7,.pt 4 0),(61,.d (.v (.bool false)))]) (by rw [h7]) rfl
   refine a7 (y:=.tu [.ag [.n (gK l),.n (cI l),.n (c6 l),.n (dx l),.n (dY l),.u (fA l),.sl 1 ((af (fe l)).length)],.n (l.length-(cK l).1.length)]) (N':=[.gw 0 aj,.rw 5 1 (af (fe l))]) ((by rw [rQ (by omega) (BD eA)];rfl)) ((by rw [rQ (by omega) (BD eA)];rfl)) ?_
   exact aZ tk mo hK rfl al [(21,[(2,.z (((l.length:Nat):Int))),(4,.mem [2] (.n ((cK l).1.length)) [.bx 102 [.d (.ro 1 (af (cK l).1)),.d (.v (.bool ((cK l).2)))]]),(5,.z (((l.length-(cK l).1.length:Nat):Int)))])] 2000 [0,5] r (by kernel_rfl) (U ((by first | rfl | simp [af,ah,ints,steps,strs]):(((af l).length:Nat):Int)=((l.length:Nat):Int)) (U (Af (cK l).1 (cK l).2) (U ((wi (by have:=IW l;simp;omega)):IntKind.i64.wrap ((((l.length:Nat):Int):Int)-(((cK l).1.length:Nat):Int))=((l.length-(cK l).1.length:Nat):Int)) trivial)))
  | true=>
   have eA:¬ _=_:=bne_iff_ne.1 h7
   have r:=r.cast (E':=[(0,.d (.ro 1 (af l))),(2,.pt 1 0),(4,.pt 2 0),(7,.pt 4 0),(61,.d (.v (.bool true)))]) (by rw [h7]) rfl
   refine bN (todo':=aft Tryd.f29 20) (E':=[(0,.d (.ro 1 (af l))),(2,.pt 1 0),(4,.pt 2 0),(7,.pt 4 0),(3,.z 1)]) (M':=[.gw 0 aj,.bx 45 [.z 0,.z 0,.z 0,.z 0,.z 0,.d (.v (.int .u64 0)),.d (.v (.slice none 0 0))],.bx 102 [.d (.ro 1 (af (cK l).1)),.d (.v (.bool ((cK l).2)))],.bx 84 [.d (.v (.string ⟨((ae (gK l)).word).toArray⟩)),.d (.v (.bool ((ae (gK l)).node))),.d (.v (.bool ((ae (gK l)).peer))),.d (.v (.bool ((ae (gK l)).n))),.d (.v (.bool ((ae (gK l)).bit))),.d (.v (.bool ((ae (gK l)).inc))),.d (.v (.bool ((ae (gK l)).body)))],.bx 45 [.n (gK l),.n (cI l),.n (c6 l),.n (dx l),.n (dY l),.u (fA l),.sl 5 ((af (fe l)).length)],.rw 5 1 (af (fe l))]) tk mo hK al [] 3 [0,1,2,3,4,5] [0,2,4,7,3] r (by kernel_rfl) trivial fun ac wd r=>?_
   have r:=r.fB (E1:=[(0,.d (.ro 1 (af l))),(2,.pt 1 0),(4,.pt 2 0),(7,.pt 4 0),(3,.z 1)]) (M1:=[.gw 0 aj,.bx 45 [.z 0,.z 0,.z 0,.z 0,.z 0,.d (.v (.int .u64 0)),.d (.v (.slice none 0 0))],.bx 102 [.d (.ro 1 (af (cK l).1)),.d (.v (.bool ((cK l).2)))],.bx 84 [.d (.v (.string ⟨((ae (gK l)).word).toArray⟩)),.d (.v (.bool ((ae (gK l)).node))),.d (.v (.bool ((ae (gK l)).peer))),.d (.v (.bool ((ae (gK l)).n))),.d (.v (.bool ((ae (gK l)).bit))),.d (.v (.bool ((ae (gK l)).inc))),.d (.v (.bool ((ae (gK l)).body)))],.bx 45 [.n (gK l),.n (cI l),.n (c6 l),.n (dx l),.n (dY l),.u (fA l),.sl 5 ((af (fe l)).length)],.rw 5 1 (af (fe l))]) (M2:=[.gw 0 aj,.bx 45 [.z 0,.z 0,.z 0,.z 0,.z 0,.d (.v (.int .u64 0)),.sl 6 (0)],.bx 102 [.d (.ro 1 (af (cK l).1)),.d (.v (.bool ((cK l).2)))],.bx 84 [.d (.v (.string ⟨((ae (gK l)).word).toArray⟩)),.d (.v (.bool ((ae (gK l)).node))),.d (.v (.bool ((ae (gK l)).peer))),.d (.v (.bool ((ae (gK l)).n))),.d (.v (.bool ((ae (gK l)).bit))),.d (.v (.bool ((ae (gK l)).inc))),.d (.v (.bool ((ae (gK l)).body)))],.bx 45 [.n (gK l),.n (cI l),.n (c6 l),.n (dx l),.n (dY l),.u (fA l),.sl 5 ((af (fe l)).length)],.rw 5 1 (af (fe l)),.rw 5 1 ([])]) [] [(1,6,5,1)] (by kernel_rfl) (by kernel_rfl)
   refine a7 (y:=.tu [.ag [.z 0,.z 0,.z 0,.z 0,.z 0,.d (.v (.int .u64 0)),.sl 1 (0)],.z 1]) (N':=[.gw 0 aj,.rw 5 1 ([])]) ((by rw [uN (by omega) (BC eA)];rfl)) ((by rw [uN (by omega) (BC eA)];rfl)) ?_
   exact aZ tk mo hK rfl al [] 2000 [0,6] r (by kernel_rfl) trivial
 | true=>
  have bw:=of_decide_eq_true h0
  refine bN (todo':=aft Tryd.f29 4) (E':=[(0,.d (.ro 1 (af l))),(2,.pt 1 0),(3,.z 1),(4,.pt 2 0),(5,.n (gK l))]) (M':=[.gw 0 aj,.bx 45 [.z 0,.z 0,.z 0,.z 0,.z 0,.d (.v (.int .u64 0)),.d (.v (.slice none 0 0))],.bx 102 [.d (.ro 1 (af (bK l).1)),.d (.v (.bool ((bK l).2)))]]) tk mo hK al [(1,[(1,.mem [] (.pt 0 0) [.bx 102 [.d (.ro 1 (af ((l,false)).1)),.d (.v (.bool (((l,false)).2)))]])]),(2,[(1,.mem [2] (.d (.v (.int .u8 (((gK l:Nat):Int))))) [.bx 102 [.d (.ro 1 (af (bK l).1)),.d (.v (.bool ((bK l).2)))]]),(2,.z (((gK l:Nat):Int)))]),(3,[(1,.b true)])] 12 [0,1,2] [0,2,3,4,5] r (by kernel_rfl) (U (pF l hl) (U (pg ((l,false))) (U aY (U h0 trivial)))) fun ac wd r=>?_
  have r:=r.fB (E1:=[(0,.d (.ro 1 (af l))),(2,.pt 1 0),(3,.z 1),(4,.pt 2 0),(5,.n (gK l))]) (M1:=[.gw 0 aj,.bx 45 [.z 0,.z 0,.z 0,.z 0,.z 0,.d (.v (.int .u64 0)),.d (.v (.slice none 0 0))],.bx 102 [.d (.ro 1 (af (bK l).1)),.d (.v (.bool ((bK l).2)))]]) (M2:=[.gw 0 aj,.bx 45 [.z 0,.z 0,.z 0,.z 0,.z 0,.d (.v (.int .u64 0)),.sl 3 (0)],.bx 102 [.d (.ro 1 (af (bK l).1)),.d (.v (.bool ((bK l).2)))],.rw 5 1 ([])]) [] [(1,6,5,1)] (by kernel_rfl) (by kernel_rfl)
  refine a7 (y:=.tu [.ag [.z 0,.z 0,.z 0,.z 0,.z 0,.d (.v (.int .u64 0)),.sl 1 (0)],.z 1]) (N':=[.gw 0 aj,.rw 5 1 ([])]) ((by rw [uM (by omega)];rfl)) ((by rw [uM (by omega)];rfl)) ?_
  exact aZ tk mo hK rfl al [] 2000 [0,3] r (by kernel_rfl) trivial
end Go.Proofs.YtcnpikbbmbombaaDoor
namespace Go.Proofs.YtcnpikbbmbombaaDoor
open Go.RowKit
theorem iL {z:Int} {r:dj} (h:(aS z r).2=false):r.2=false:=by
 obtain ⟨l,b⟩:=r
 cases b with
 | false=>rfl
 | true=>
  have e:gk l true z:=.inl rfl
  unfold aS dN at h;simp only [if_pos e] at h;cases h
theorem wG {r:dj} (h:(rU r).2=false):r.2=false:=by
 obtain ⟨l,b⟩:=r
 cases b with
 | false=>rfl
 | true=>unfold rU nM da at h;simp at h
theorem jh {c:Bool} {r s q:dj} (h:(cond c r s).2=false) (hr:r.2=false→q.2=false) (hs:s.2=false→q.2=false):q.2=false:=by cases c;exact hs h;exact hr h
theorem Kh {l:List UInt8} (h:(cK l).2=false):(bK l).2=false:=
 have h5:=jh (q:=aW l) h (fun h=>iL (iL h)) id
 have h4:=jh (q:=db l) h5 wG id
 have h3:=jh (q:=cQ l) h4 iL id
 have h2:=jh (q:=cP l) h3 iL id
 have h1:=jh (q:=cO l) h2 iL id
 jh (q:=bK l) h1 iL id
theorem Ag {l:List UInt8} (h:(bK l).2=false):(bK l).1.length+1=l.length:=by
 by_cases e:gk l false 1
 ·unfold bK aS dN at h;simp only [if_pos e] at h;cases h
 ·unfold bK aS dB;simp only [if_neg e]
  unfold gk at e;simp;omega
theorem HJ (l:List UInt8):(cK l).1.length≤(bK l).1.length:=
 have h1:(cO l).1.length≤(bK l).1.length:=jg (gA _ _) (Nat.le_refl _)
 have h2:(cP l).1.length≤(bK l).1.length:=jg (Nat.le_trans (gA _ _) h1) h1
 have h3:(cQ l).1.length≤(bK l).1.length:=jg (Nat.le_trans (gA _ _) h2) h2
 have h4:(db l).1.length≤(bK l).1.length:=jg (Nat.le_trans (gA _ _) h3) h3
 have h5:(aW l).1.length≤(bK l).1.length:=jg (Nat.le_trans (Bf _) h4) h4
 jg (Nat.le_trans (gA _ _) (Nat.le_trans (gA _ _) h5)) h5
theorem rR (l:List UInt8):1≤(aX l).2:=by
 unfold aX;split
 ·exact Nat.le_refl _
 ·cases e:(cK l).2 with
  | true=>exact Nat.le_refl _
  | false=>
   have h1:=Ag (Kh e)
   have h2:=HJ l
   show 1≤l.length-(cK l).1.length
   omega
theorem AM {l:List UInt8} (h:1≤l.length):(aX l).2≤l.length:=by
 unfold aX;split
 ·exact h
 ·cases (cK l).2 with
  | true=>exact h
  | false=>exact Nat.sub_le _ _
def dT (b:List UInt8):List aJ:=if h:b=[] then [] else (aX (b.take 258)).1::dT (b.drop (aX (b.take 258)).2)
termination_by b.length
decreasing_by
 have h1:=rR (b.take 258)
 have h2:0<b.length:=List.length_pos_iff.2 h
 simp;omega
theorem lK:dT []=[]:=by rw [dT,dif_pos rfl]
theorem mL {b:List UInt8} (h:0<b.length):dT b=(aX (b.take 258)).1::dT (b.drop (aX (b.take 258)).2):=by
 rw [dT,dif_neg (List.length_pos_iff.1 h)]
theorem K9 (l:List UInt8) (a:Nat) (ha:a≤l.length):List.drop a (List.take (min l.length (a+258)) (af l))=af ((l.drop a).take 258):=by
 rw [← yp,← yq]
 congr 1
 rw [List.drop_take]
 rcases Nat.le_total (a+258) l.length with h | h
 ·rw [Nat.min_eq_right h,Nat.add_sub_cancel_left]
 ·rw [Nat.min_eq_left h,List.take_of_length_le (by simp),List.take_of_length_le (by simp;omega)]
def aJ.sR (s:aJ):List DV:=[.z s.kind,.z s.node,.z s.peer,.z s.n,.z s.bit,.u s.inc,.em 5 1 (af s.body)]
def cr (l:List aJ):List (List DV):=l.map aJ.sR
theorem fR (l:List aJ):(cr l).length=l.length:=by simp [cr]
set_option maxRecDepth 100000 in
theorem vw (l:List UInt8) (hl:l.length≤65536) (hG:gE l≤l.length) (hM:bT (gC l)=true):ax Tryd.prog 9 [.d (.ro 1 (af l))] [.gw 0 aj] (.tu [.ag [.z (gV l 0),.sl 1 (gN l),.sl 2 (gM l)],.sl 3 (dT (l.drop (gE l))).length,.z 0]) ([.gw 0 aj,.rw 71 2 (ah (gL l (gN l))),.rw 3 1 (ints (gH l (gM l))),.rw 45 7 (cr (dT (l.drop (gE l))))]):=by
 refine ax.intro (by kernel_rfl) rfl rfl 58 rfl rfl fun D w0 K bs ac wd hK (al:bs.m=1) r=>?_
 have aY:=((by simp [af]):(((af l).length:Nat):Int)=((l.length:Nat):Int))
 cases h0:(decide ((65536:Int)<((l.length:Nat):Int))) with
 | false=>
  have bw:=of_decide_eq_false h0
  have bH:=((by have h:=pF l (by omega);unfold fP at h;simpa using h):ax Tryd.prog 25 [.d (.ro 1 (af l))] [] (.pt 0 0) [.bx 102 [.d (.ro 1 (af (l.drop (0)))),.d (.v (.bool ((decide (l.length<(0))))))]])
  have cB:=(pW (l.drop (2+2*gN l+1+gM l)) (decide (l.length<(2+2*gN l+1+gM l))))
  cases h1:(((if (decide (l.length<(2+2*gN l+1+gM l)))=true then 3 else 0):Int) != 0) with
  | false=>
   have bW:=fg h1
   cases h2:(bT (gC l)) with
   | false=>
    exact absurd h2 (by rw [hM];decide)
   | true=>
    refine cF (todo':=hd Tryd.f9 0) (E':=[(0,.d (.ro 1 (af l))),(2,.pt 1 0),(6,.pt 2 0),(7,.d (.v (.slice none 0 0))),(8,.n (gE l))]) (M':=[.gw 0 aj,.bx 25 [.z 0,.d (.v (.slice none 0 0)),.d (.v (.slice none 0 0))],.bx 25 [.z (gV l 0),.sl 3 ((gN l)),.sl 4 ((gM l))],.rw 71 2 (ah (gL l (gN l))),.rw 3 1 (ints (gH l (gM l)))]) tk mo hK al [(1,[(1,.z (((l.length:Nat):Int))),(2,.b false)]),(3,[(1,.mem [] (.pt 0 0) [.bx 102 [.d (.ro 1 (af (l.drop (0)))),.d (.v (.bool ((decide (l.length<(0))))))]])]),(4,[(1,.mem [2] (.ag [.z (gV l 0),.sl 1 ((gN l)),.sl 2 ((gM l))]) [.bx 102 [.d (.ro 1 (af (l.drop (2+2*gN l+1+gM l)))),.d (.v (.bool ((decide (l.length<(2+2*gN l+1+gM l))))))],.rw 71 2 (ah (gL l (gN l))),.rw 3 1 (ints (gH l (gM l)))])]),(5,[(1,.mem [2] (.z ((if (decide (l.length<(2+2*gN l+1+gM l)))=true then 3 else 0))) [.bx 102 [.d (.ro 1 (af (l.drop (2+2*gN l+1+gM l)))),.d (.v (.bool ((decide (l.length<(2+2*gN l+1+gM l))))))]]),(2,.b false),(5,.call [.ag [.z (gV l 0),.d (.ro 2 (ah (gL l (gN l)))),.d (.ro 1 (ints (gH l (gM l))))]] (.v (.bool true)))]),(8,[(1,.z (((l.length:Nat):Int))),(3,.mem [2] (.n ((l.drop (2+2*gN l+1+gM l)).length)) [.bx 102 [.d (.ro 1 (af (l.drop (2+2*gN l+1+gM l)))),.d (.v (.bool ((decide (l.length<(2+2*gN l+1+gM l))))))]]),(4,.z (((gE l:Nat):Int)))])] 2000 [0,1,5,3,4] [0,2,6,7,8] r (by kernel_rfl) (U aY (U h0 (U bH (U (vv l) (U cB (U h1 (U ((by have k:=oK (gC l) (by show (gL l (gN l)).length≤_;rw [b7];have:=qe l;omega) (by show (gH l (gM l)).length≤_;rw [b8];have:=qf l;omega);rw [h2] at k;exact k):ay Tryd.prog 13 [.ag [.z (gV l 0),.d (.ro 2 (ah (gL l (gN l)))),.d (.ro 1 (ints (gH l (gM l))))]] (.v (.bool true))) (U ((fX _):e6 (.v (.bool true))) (U (iA (.z (gV l 0))) (U (dW (2)) (U ((by first | rfl | (simp [af,ah,ints,b7,b8,fR];done) | (simp [af,ah,ints,b7,b8,fR];omega)):((gN l))=(ah (gL l (gN l)):List (List DV)).length) (U ((by first | exact gS _ | exact gT _):b9 (ah (gL l (gN l)))=ah (gL l (gN l))) (U (dW (1)) (U ((by first | rfl | (simp [af,ah,ints,b7,b8,fR];done) | (simp [af,ah,ints,b7,b8,fR];omega)):((gM l))=(ints (gH l (gM l))).length) (U ((by first | exact gS _ | exact gT _):b9 (ints (gH l (gM l)))=ints (gH l (gM l))) (U aY (U (Af (l.drop (2+2*gN l+1+gM l)) (decide (l.length<(2+2*gN l+1+gM l)))) (U ((wi (by simp;unfold gE at *;omega)):IntKind.i64.wrap ((((l.length:Nat):Int):Int)-(((l.drop (2+2*gN l+1+gM l)).length:Nat):Int))=((gE l:Nat):Int)) trivial)))))))))))))))))) fun ac wd r=>?_
    refine aC.rounds (Φ:=fun (i:Nat) ac wd=>∃ a:Nat,∃ S:List aJ,(i≤a∧a≤l.length∧S.length=i∧S++dT (l.drop a)=dT (l.drop (gE l)))∧RB D w0 K 58 bs [(0,.d (.ro 1 (af l))),(2,.pt 1 0),(6,.pt 2 0),(7,.sl 5 (i)),(8,.n a)] [.gw 0 aj,.bx 25 [.z 0,.d (.v (.slice none 0 0)),.d (.v (.slice none 0 0))],.bx 25 [.z (gV l 0),.sl 3 ((gN l)),.sl 4 ((gM l))],.rw 71 2 (ah (gL l (gN l))),.rw 3 1 (ints (gH l (gM l))),.rw 45 7 (cr S)] ac wd) (l.length) ?_ (Nat.zero_le _) ⟨(gE l),[],⟨Nat.zero_le _,hG,rfl,by simp⟩,r.fB (M1:=[.gw 0 aj,.bx 25 [.z 0,.d (.v (.slice none 0 0)),.d (.v (.slice none 0 0))],.bx 25 [.z (gV l 0),.sl 3 ((gN l)),.sl 4 ((gM l))],.rw 71 2 (ah (gL l (gN l))),.rw 3 1 (ints (gH l (gM l))),.rw 45 7 []]) [(7,45,7)] [] (by kernel_rfl) (by kernel_rfl)⟩
    clear r
    rintro i e7 b6 ac wd ⟨a,S,aq,r⟩
    have NI:=aq.1
    have dw:=aq.2.1
    have dE:=aq.2.2.1
    cases h3:(decide ((((a:Nat):Int):Int)<((l.length:Nat):Int))) with
    | false=>
     have dX:=of_decide_eq_false h3
     refine a7 (y:=.tu [.ag [.z (gV l 0),.sl 1 ((gN l)),.sl 2 ((gM l))],.sl 3 (i),.z 0]) (N':=[.gw 0 aj,.rw 71 2 (ah (gL l (gN l))),.rw 3 1 (ints (gH l (gM l))),.rw 45 7 (cr S)]) ((by first | rfl | (rw [← aq.2.2.2,List.drop_of_length_le (by omega),lK,List.append_nil,aq.2.2.1]))) ((by first | rfl | (rw [← aq.2.2.2,List.drop_of_length_le (by omega),lK,List.append_nil]))) ?_
     exact aZ tk mo hK rfl al [(9,[(2,.z (((l.length:Nat):Int))),(3,.b false)])] 2000 [0,3,4,5] r (by kernel_rfl) (U aY (U h3 trivial))
    | true=>
     have dX:=of_decide_eq_true h3
     have Ml:1≤((l.drop a).take 258).length:=by simp;omega
     have NJ:=rR ((l.drop a).take 258)
     have kt:=AM Ml
     have NK:((l.drop a).take 258).length≤l.length-a:=by simp;omega
     have Mm:=mL (b:=l.drop a) (by simp;omega)
     exact cF (todo':=hd Tryd.f9 0) (E':=[(0,.d (.ro 1 (af l))),(2,.pt 1 0),(6,.pt 2 0),(7,.sl 5 (i+(1))),(8,.n (a+(aX ((l.drop a).take 258)).2))]) (M':=[.gw 0 aj,.bx 25 [.z 0,.d (.v (.slice none 0 0)),.d (.v (.slice none 0 0))],.bx 25 [.z (gV l 0),.sl 3 ((gN l)),.sl 4 ((gM l))],.rw 71 2 (ah (gL l (gN l))),.rw 3 1 (ints (gH l (gM l))),.rw 45 7 (cr S++[[.z ((aX ((l.drop a).take 258)).1.kind),.z ((aX ((l.drop a).take 258)).1.node),.z ((aX ((l.drop a).take 258)).1.peer),.z ((aX ((l.drop a).take 258)).1.n),.z ((aX ((l.drop a).take 258)).1.bit),.u ((aX ((l.drop a).take 258)).1.inc),.em 5 1 (af (aX ((l.drop a).take 258)).1.body)]])]) tk mo hK al [(9,[(2,.z (((l.length:Nat):Int))),(3,.b true)]),(10,[(3,.z (((l.length:Nat):Int))),(5,.z (((a+258:Nat):Int))),(6,.z (((min (l.length) (a+258):Nat):Int))),(7,.n2 (min (l.length) (a+258)) (a)),(8,.mem [0] (.tu [.ag [.z ((aX ((l.drop a).take 258)).1.kind),.z ((aX ((l.drop a).take 258)).1.node),.z ((aX ((l.drop a).take 258)).1.peer),.z ((aX ((l.drop a).take 258)).1.n),.z ((aX ((l.drop a).take 258)).1.bit),.u ((aX ((l.drop a).take 258)).1.inc),.sl 1 ((af (aX ((l.drop a).take 258)).1.body).length)],.n ((aX ((l.drop a).take 258)).2)]) [.gw 0 aj,.rw 5 1 (af (aX ((l.drop a).take 258)).1.body)])]),(12,[(2,.z (((a+(aX ((l.drop a).take 258)).2:Nat):Int)))])] 2000 [0,1,2,3,4,5] [0,2,6,7,8] r (by kernel_rfl) (U aY (U h3 (U aY (U ((wi (by omega)):IntKind.i64.wrap ((((a:Nat):Int):Int)+258)=((a+258:Nat):Int)) (U ((by omega):(min (((l.length:Nat):Int)) (((a+258:Nat):Int)):Int)=((min (l.length) (a+258):Nat):Int)) (U (aN ((a:Nat):Int)) (U (aN ((min (l.length) (a+258):Nat):Int)) (U ((by first | omega | decide | (simp;done) | (simp;omega)):(a)≤(min (l.length) (a+258))) (U ((by simp [af];omega):(min (l.length) (a+258))≤(af l).length) (U ((by have h:=EM ((l.drop a).take 258) (by simp;omega);rw [K9 l a (by omega)];exact h):ax Tryd.prog 29 [.d (.ro 1 (List.drop (a) (List.take (min (l.length) (a+258)) (af l))))] [.gw 0 aj] (.tu [.ag [.z ((aX ((l.drop a).take 258)).1.kind),.z ((aX ((l.drop a).take 258)).1.node),.z ((aX ((l.drop a).take 258)).1.peer),.z ((aX ((l.drop a).take 258)).1.n),.z ((aX ((l.drop a).take 258)).1.bit),.u ((aX ((l.drop a).take 258)).1.inc),.sl 1 ((af (aX ((l.drop a).take 258)).1.body).length)],.n ((aX ((l.drop a).take 258)).2)]) [.gw 0 aj,.rw 5 1 (af (aX ((l.drop a).take 258)).1.body)]) (U (dW ((af (aX ((l.drop a).take 258)).1.body).length)) (U ((by first | rfl | (simp [af,ah,ints,b7,b8,fR];done) | (simp [af,ah,ints,b7,b8,fR];omega)):(i)=(cr S:List (List DV)).length) (U ((by first | rfl | (simp [af,ah,ints,b7,b8,fR];done) | (simp [af,ah,ints,b7,b8,fR];omega)):(1)=([[.z ((aX ((l.drop a).take 258)).1.kind),.z ((aX ((l.drop a).take 258)).1.node),.z ((aX ((l.drop a).take 258)).1.peer),.z ((aX ((l.drop a).take 258)).1.n),.z ((aX ((l.drop a).take 258)).1.bit),.u ((aX ((l.drop a).take 258)).1.inc),.em 5 1 (af (aX ((l.drop a).take 258)).1.body)]]:List (List DV)).length) (U ((by first | omega | (simp [af,ah,ints,b7,b8,fR];done) | (simp [af,ah,ints,b7,b8,fR];omega)):(2*((i)+(1))+192)*72≤281474976710656) (U ((by first | omega | (simp [af,ah,ints,b7,b8,fR];done) | (simp [af,ah,ints,b7,b8,fR];omega)):(i)+(1)<4611686018427387904) (U ((by simp [bf,AV.one,bS,af,ah,ints,steps,strs]):bf ([[.z ((aX ((l.drop a).take 258)).1.kind),.z ((aX ((l.drop a).take 258)).1.node),.z ((aX ((l.drop a).take 258)).1.peer),.z ((aX ((l.drop a).take 258)).1.n),.z ((aX ((l.drop a).take 258)).1.bit),.u ((aX ((l.drop a).take 258)).1.inc),.em 5 1 (af (aX ((l.drop a).take 258)).1.body)]])) (U ((wi (by omega)):IntKind.i64.wrap ((((a:Nat):Int):Int)+(((aX ((l.drop a).take 258)).2:Nat):Int))=((a+(aX ((l.drop a).take 258)).2:Nat):Int)) trivial))))))))))))))))) fun ac wd r=>b6 (by omega) ac wd ⟨(a+(aX ((l.drop a).take 258)).2),(S++[(aX ((l.drop a).take 258)).1]),⟨by omega,by omega,by simp;omega,by rw [← aq.2.2.2,Mm,List.drop_drop];simp⟩,r.cast rfl (by simp [cr,aJ.sR])⟩
  | true=>
   have bW:¬ _=_:=bne_iff_ne.1 h1
   exact absurd (if_neg (by rw [decide_eq_true_eq];unfold gE at hG;omega)) bW
 | true=>
  have bw:=of_decide_eq_true h0
  exact absurd bw (by omega)
set_option maxRecDepth 100000 in
theorem IX (l:List UInt8) (hl:l.length≤65536) (hG:l.length<gE l):ax Tryd.prog 9 [.d (.ro 1 (af l))] [.gw 0 aj] (.tu [.ag [.z 0,.d (.v (.slice none 0 0)),.d (.v (.slice none 0 0))],.d (.v (.slice none 0 0)),.z 3]) ([.gw 0 aj]):=by
 refine ax.intro (by kernel_rfl) rfl rfl 58 rfl rfl fun D w0 K bs ac wd hK (al:bs.m=1) r=>?_
 have aY:=((by simp [af]):(((af l).length:Nat):Int)=((l.length:Nat):Int))
 cases h0:(decide ((65536:Int)<((l.length:Nat):Int))) with
 | false=>
  have bw:=of_decide_eq_false h0
  have bH:=((by have h:=pF l (by omega);unfold fP at h;simpa using h):ax Tryd.prog 25 [.d (.ro 1 (af l))] [] (.pt 0 0) [.bx 102 [.d (.ro 1 (af (l.drop (0)))),.d (.v (.bool ((decide (l.length<(0))))))]])
  have cB:=(pW (l.drop (2+2*gN l+1+gM l)) (decide (l.length<(2+2*gN l+1+gM l))))
  cases h1:(((if (decide (l.length<(2+2*gN l+1+gM l)))=true then 3 else 0):Int) != 0) with
  | false=>
   have bW:=fg h1
   exact absurd bW (by rw [if_pos (by rw [decide_eq_true_eq];unfold gE at hG;omega)];decide)
  | true=>
   have bW:¬ _=_:=bne_iff_ne.1 h1
   refine a7 (y:=.tu [.ag [.z 0,.d (.v (.slice none 0 0)),.d (.v (.slice none 0 0))],.d (.v (.slice none 0 0)),.z 3]) (N':=[.gw 0 aj]) (rfl) (rfl) ?_
   exact aZ tk mo hK rfl al [(1,[(1,.z (((l.length:Nat):Int))),(2,.b false)]),(3,[(1,.mem [] (.pt 0 0) [.bx 102 [.d (.ro 1 (af (l.drop (0)))),.d (.v (.bool ((decide (l.length<(0))))))]])]),(4,[(1,.mem [2] (.ag [.z (gV l 0),.sl 1 ((gN l)),.sl 2 ((gM l))]) [.bx 102 [.d (.ro 1 (af (l.drop (2+2*gN l+1+gM l)))),.d (.v (.bool ((decide (l.length<(2+2*gN l+1+gM l))))))],.rw 71 2 (ah (gL l (gN l))),.rw 3 1 (ints (gH l (gM l)))])]),(5,[(1,.mem [2] (.z ((if (decide (l.length<(2+2*gN l+1+gM l)))=true then 3 else 0))) [.bx 102 [.d (.ro 1 (af (l.drop (2+2*gN l+1+gM l)))),.d (.v (.bool ((decide (l.length<(2+2*gN l+1+gM l))))))]]),(2,.b true)])] 2000 [0] r (by kernel_rfl) (U aY (U h0 (U bH (U (vv l) (U cB (U h1 trivial))))))
 | true=>
  have bw:=of_decide_eq_true h0
  exact absurd bw (by omega)
set_option maxRecDepth 100000 in
theorem IY (l:List UInt8) (hl:l.length≤65536) (hG:gE l≤l.length) (hM:bT (gC l)=false):ax Tryd.prog 9 [.d (.ro 1 (af l))] [.gw 0 aj] (.tu [.ag [.z 0,.d (.v (.slice none 0 0)),.d (.v (.slice none 0 0))],.d (.v (.slice none 0 0)),.z 3]) ([.gw 0 aj]):=by
 refine ax.intro (by kernel_rfl) rfl rfl 58 rfl rfl fun D w0 K bs ac wd hK (al:bs.m=1) r=>?_
 have aY:=((by simp [af]):(((af l).length:Nat):Int)=((l.length:Nat):Int))
 cases h0:(decide ((65536:Int)<((l.length:Nat):Int))) with
 | false=>
  have bw:=of_decide_eq_false h0
  have bH:=((by have h:=pF l (by omega);unfold fP at h;simpa using h):ax Tryd.prog 25 [.d (.ro 1 (af l))] [] (.pt 0 0) [.bx 102 [.d (.ro 1 (af (l.drop (0)))),.d (.v (.bool ((decide (l.length<(0))))))]])
  have cB:=(pW (l.drop (2+2*gN l+1+gM l)) (decide (l.length<(2+2*gN l+1+gM l))))
  cases h1:(((if (decide (l.length<(2+2*gN l+1+gM l)))=true then 3 else 0):Int) != 0) with
  | false=>
   have bW:=fg h1
   cases h2:(bT (gC l)) with
   | false=>
    refine a7 (y:=.tu [.ag [.z 0,.d (.v (.slice none 0 0)),.d (.v (.slice none 0 0))],.d (.v (.slice none 0 0)),.z 3]) (N':=[.gw 0 aj]) (rfl) (rfl) ?_
    exact aZ tk mo hK rfl al [(1,[(1,.z (((l.length:Nat):Int))),(2,.b false)]),(3,[(1,.mem [] (.pt 0 0) [.bx 102 [.d (.ro 1 (af (l.drop (0)))),.d (.v (.bool ((decide (l.length<(0))))))]])]),(4,[(1,.mem [2] (.ag [.z (gV l 0),.sl 1 ((gN l)),.sl 2 ((gM l))]) [.bx 102 [.d (.ro 1 (af (l.drop (2+2*gN l+1+gM l)))),.d (.v (.bool ((decide (l.length<(2+2*gN l+1+gM l))))))],.rw 71 2 (ah (gL l (gN l))),.rw 3 1 (ints (gH l (gM l)))])]),(5,[(1,.mem [2] (.z ((if (decide (l.length<(2+2*gN l+1+gM l)))=true then 3 else 0))) [.bx 102 [.d (.ro 1 (af (l.drop (2+2*gN l+1+gM l)))),.d (.v (.bool ((decide (l.length<(2+2*gN l+1+gM l))))))]]),(2,.b false),(5,.call [.ag [.z (gV l 0),.d (.ro 2 (ah (gL l (gN l)))),.d (.ro 1 (ints (gH l (gM l))))]] (.v (.bool false)))])] 2000 [0] r (by kernel_rfl) (U aY (U h0 (U bH (U (vv l) (U cB (U h1 (U ((by have k:=oK (gC l) (by show (gL l (gN l)).length≤_;rw [b7];have:=qe l;omega) (by show (gH l (gM l)).length≤_;rw [b8];have:=qf l;omega);rw [h2] at k;exact k):ay Tryd.prog 13 [.ag [.z (gV l 0),.d (.ro 2 (ah (gL l (gN l)))),.d (.ro 1 (ints (gH l (gM l))))]] (.v (.bool false))) (U ((fX _):e6 (.v (.bool false))) (U (iA (.z (gV l 0))) (U (dW (2)) (U ((by first | rfl | (simp [af,ah,ints,b7,b8,fR];done) | (simp [af,ah,ints,b7,b8,fR];omega)):((gN l))=(ah (gL l (gN l)):List (List DV)).length) (U ((by first | exact gS _ | exact gT _):b9 (ah (gL l (gN l)))=ah (gL l (gN l))) (U (dW (1)) (U ((by first | rfl | (simp [af,ah,ints,b7,b8,fR];done) | (simp [af,ah,ints,b7,b8,fR];omega)):((gM l))=(ints (gH l (gM l))).length) (U ((by first | exact gS _ | exact gT _):b9 (ints (gH l (gM l)))=ints (gH l (gM l))) trivial)))))))))))))))
   | true=>
    exact absurd h2 (by rw [hM];decide)
  | true=>
   have bW:¬ _=_:=bne_iff_ne.1 h1
   exact absurd (if_neg (by rw [decide_eq_true_eq];unfold gE at hG;omega)) bW
 | true=>
  have bw:=of_decide_eq_true h0
  exact absurd bw (by omega)
end Go.Proofs.YtcnpikbbmbombaaDoor
namespace Go.Proofs.YtcnpikbbmbombaaDoor
open Go.RowKit
theorem HK (c:UInt8):IntKind.u8.wrap ((BitVec.ofInt IntKind.u8.bits (c.toNat:Int) &&& BitVec.ofInt IntKind.u8.bits 127).toNat:Int)=((c.toNat%128:Nat):Int):=by
 have hb:=c.toNat_lt
 have h1:(BitVec.ofInt 8 ((c.toNat:Nat):Int) &&& BitVec.ofInt 8 127).toNat=c.toNat%128:=by
  rw [BitVec.toNat_and]
  have e1:(BitVec.ofInt 8 ((c.toNat:Nat):Int)).toNat=c.toNat:=by simp [BitVec.toNat_ofInt]
  have e2:(BitVec.ofInt 8 127).toNat=2 ^ 7-1:=by decide
  rw [e1,e2,Nat.and_two_pow_sub_one_eq_mod]
 show IntKind.u8.wrap ((BitVec.ofInt 8 ((c.toNat:Nat):Int) &&& BitVec.ofInt 8 127).toNat:Int)=_
 rw [h1]
 simp [IntKind.wrap,IntKind.signed,IntKind.bits];omega
theorem pw {i x:Nat} {c:UInt8} (hi:i≤9) (hx:x<128 ^ i) (h:x+c.toNat%128*128 ^ i<18446744073709551616):eo i (x:Int) c=((x+c.toNat%128*128 ^ i:Nat):Int):=by
 have p7:(128:Nat) ^ i=2 ^ (7*i):=by rw [Nat.pow_mul]
 unfold eo
 rw [HK]
 generalize c.toNat%128=y at *
 have hle:y≤y*128 ^ i:=Nat.le_mul_of_pos_right _ (Nat.pow_pos (by decide))
 have w1:IntKind.u64.wrap (y:Int)=(y:Int):=by simp [IntKind.wrap,IntKind.signed,IntKind.bits];omega
 have l7:(min (((7*i:Nat):Int)).toNat IntKind.u64.bits)=7*i:=by simp [IntKind.bits];omega
 have hm:((y:Int)*2 ^ (7*i))=((y*128 ^ i:Nat):Int):=by rw [p7];push_cast;rfl
 rw [w1,l7,hm]
 have w2:IntKind.u64.wrap ((y*128 ^ i:Nat):Int)=((y*128 ^ i:Nat):Int):=by
  generalize y*128 ^ i=q at *
  simp [IntKind.wrap,IntKind.signed,IntKind.bits];omega
 rw [w2]
 have h1:(BitVec.ofInt 64 (x:Int) ||| BitVec.ofInt 64 ((y*128 ^ i:Nat):Int)).toNat=x+y*128 ^ i:=by
  rw [BitVec.toNat_or]
  have a1:(BitVec.ofInt 64 (x:Int)).toNat=x:=by
   have:x<18446744073709551616:=by omega
   rw [BitVec.ofInt_natCast,BitVec.toNat_ofNat];omega
  have a2:(BitVec.ofInt 64 ((y*128 ^ i:Nat):Int)).toNat=y*128 ^ i:=by
   have:y*128 ^ i<18446744073709551616:=by omega
   rw [BitVec.ofInt_natCast,BitVec.toNat_ofNat];omega
  rw [a1,a2,p7,Nat.mul_comm y,Nat.or_comm,← Nat.two_pow_add_eq_or_of_lt (by rw [← p7];exact hx)];omega
 show IntKind.u64.wrap ((BitVec.ofInt 64 (x:Int) ||| BitVec.ofInt 64 ((y*128 ^ i:Nat):Int)).toNat:Int)=_
 rw [h1]
 generalize x+y*128 ^ i=q at *
 simp [IntKind.wrap,IntKind.signed,IntKind.bits];omega
theorem AN {i:Nat} (h:i≤8):128 ^ i*128≤9223372036854775808:=by
 rw [← Nat.pow_succ];exact Nat.le_trans (Nat.pow_le_pow_right (by decide) (show i+1≤9 by omega)) (by decide)
theorem k5 {n:Nat} (h:n<256):(bz ((n:Nat):Int)).toNat=n:=by have:=lP ((n:Nat):Int);omega
theorem yM (x:Nat):1≤(cm x).length:=by
 by_cases h:x<128
 ·rw [lE h];simp
 ·rw [pE h];simp
theorem DZ:∀ (n y:Nat),y≤n→∀ (i a:Nat) (r:List UInt8),i≤9→a<128 ^ i→(y=0→i=0)→a+y*128 ^ i<18446744073709551616→dJ (cm y++r) i (a:Int)=(((a+y*128 ^ i:Nat):Int),i+(cm y).length):=by
 intro n
 induction n with
 | zero=>
  intro y hy i a r hi ha h0 hm
  obtain rfl:y=0:=by omega
  obtain rfl:=h0 rfl
  rw [lE (by decide),List.cons_append]
  unfold dJ
  rw [k5 (by decide),if_neg (by decide),if_pos (by decide),if_neg (by decide),pw (by decide) ha (by rw [k5 (by decide)];omega),k5 (by decide)]
  rfl
 | succ n ih=>
  intro y hy i a r hi ha h0 hm
  by_cases hl:y<128
  ·rw [lE hl,List.cons_append]
   unfold dJ
   have e:(bz ((y:Nat):Int)).toNat%128=y:=by rw [k5 (by omega)];omega
   have h9:¬ (i=9∧1<y):=by
    rintro ⟨rfl,h1⟩
    have h2:=Nat.mul_le_mul_right (128 ^ 9) (show 2≤y by omega)
    have h3:(128:Nat) ^ 9=9223372036854775808:=by decide
    omega
   rw [k5 (by omega),if_neg h9,if_pos hl,if_neg (by omega),pw hi ha (by rw [e];exact hm),e]
   simp
  ·rw [pE hl,List.cons_append]
   unfold dJ
   have e0:(bz ((y%128+128:Nat):Int)).toNat=y%128+128:=k5 (by omega)
   have e:(bz ((y%128+128:Nat):Int)).toNat%128=y%128:=by rw [e0];omega
   have h9:i≤8:=by
    rcases Nat.lt_or_ge i 9 with h | h
    ·omega
    ·obtain rfl:i=9:=by omega
     have h2:=Nat.mul_le_mul_right (128 ^ 9) (show 128≤y by omega)
     have h3:(128:Nat) ^ 9=9223372036854775808:=by decide
     omega
   have hd:y=128*(y / 128)+y%128:=(Nat.div_add_mod y 128).symm
   have hs:a+y%128*128 ^ i+y / 128*128 ^ (i+1)=a+y*128 ^ i:=by
    rw [Nat.pow_succ,Nat.add_assoc,← Nat.mul_assoc,Nat.mul_right_comm,← Nat.add_mul]
    congr 2;omega
   have h2:=Nat.mul_le_mul_right (128 ^ i) (show y%128+1≤128 by omega)
   rw [Nat.add_mul,Nat.one_mul] at h2
   have Mn:a+y%128*128 ^ i<128 ^ (i+1):=by rw [Nat.pow_succ];omega
   rw [e0,if_neg (by omega),if_neg (by omega),pw hi ha (by rw [e];omega),e,
    ih (y / 128) (by omega) (i+1) _ r (by omega) Mn (by omega) (by omega),hs]
   simp;omega
theorem Ge {x:Nat} (hx:x<18446744073709551616) (r:List UInt8):da (cm x++r) false=((x:Int),(cm x).length):=by
 unfold da;rw [if_neg (by decide)]
 have h:=DZ x x (Nat.le_refl _) 0 0 r (by decide) (by decide) (fun _=>rfl) (by omega)
 simpa using h
theorem za:∀ (l:List UInt8) (i a:Nat),i≤9→a<128 ^ i→(dJ l i (a:Int)).2≠0→∃ y,(dJ l i (a:Int)).1=((a+y*128 ^ i:Nat):Int)∧i+(cm y).length≤(dJ l i (a:Int)).2∧a+y*128 ^ i<18446744073709551616
 | [],i,a,_,_,h=>absurd rfl h
 | c::r,i,a,hi,ha,h=>by
  have hm:=Nat.mod_lt c.toNat (show 0<128 by decide)
  unfold dJ at h ⊢
  by_cases hA:i=9∧1<c.toNat
  ·rw [if_pos hA] at h;exact absurd rfl h
  ·rw [if_neg hA] at h ⊢
   by_cases hc:c.toNat<128
   ·rw [if_pos hc] at h ⊢
    by_cases h0:c.toNat=0∧0<i
    ·rw [if_pos h0] at h;exact absurd rfl h
    ·rw [if_neg h0] at h ⊢
     have e:c.toNat%128=c.toNat:=by omega
     have hf:a+c.toNat*128 ^ i<18446744073709551616:=by
      rcases Nat.lt_or_ge i 9 with h9 | h9
      ·have h1:=AN (show i≤8 by omega)
       have h2:=Nat.mul_le_mul_right (128 ^ i) (show c.toNat+1≤128 by omega)
       rw [Nat.add_mul,Nat.one_mul] at h2;omega
      ·obtain rfl:i=9:=by omega
       have h2:=Nat.mul_le_mul_right (128 ^ 9) (show c.toNat≤1 by omega)
       have h3:(128:Nat) ^ 9=9223372036854775808:=by decide
       omega
     rw [pw hi ha (by rw [e];exact hf),e]
     exact ⟨c.toNat,rfl,by rw [lE hc];simp,hf⟩
   ·rw [if_neg hc] at h ⊢
    have h9:i≤8:=by
     rcases Nat.lt_or_ge i 9 with h | h
     ·omega
     ·exact absurd ⟨by omega,by omega⟩ hA
    have h1:=AN h9
    have h2:=Nat.mul_le_mul_right (128 ^ i) (show c.toNat%128+1≤128 by omega)
    rw [Nat.add_mul,Nat.one_mul] at h2
    have Mp:a+c.toNat%128*128 ^ i<128 ^ (i+1):=by rw [Nat.pow_succ];omega
    rw [pw hi ha (by omega)] at h ⊢
    obtain ⟨y,g1,g2,g3⟩:=za r (i+1) _ (by omega) Mp h
    have hs:a+c.toNat%128*128 ^ i+y*128 ^ (i+1)=a+(c.toNat%128+128*y)*128 ^ i:=by
     rw [Nat.pow_succ,Nat.add_mul,Nat.add_assoc,Nat.mul_comm 128 y,Nat.mul_assoc,Nat.mul_comm (128 ^ i) 128]
    refine ⟨c.toNat%128+128*y,by rw [g1,hs],?_,by rw [← hs];exact g3⟩
    by_cases hy:c.toNat%128+128*y<128
    ·rw [lE hy];have:=yM y;simp only [List.length_cons,List.length_nil];omega
    ·rw [pE hy,show (c.toNat%128+128*y) / 128=y by omega];simp only [List.length_cons];omega
theorem oh (p r:List UInt8) {z:Int} (h:z=((p.length:Nat):Int)):aS z (p++r,false)=(r,false):=by
 subst h
 have e:¬ gk (p++r) false (p.length:Int):=by rintro (q | q | q);cases q;omega;simp at q;omega
 unfold aS dB dN;simp only [if_neg e];simp
theorem uO (p r:List UInt8) {z:Int} (h:z=((p.length:Nat):Int)):aG (p++r) false z=p:=by
 subst h
 have e:¬ gk (p++r) false (p.length:Int):=by rintro (q | q | q);cases q;omega;simp at q;omega
 unfold aG;rw [if_neg e];simp
theorem vz (b:UInt8) (r:List UInt8):v8 (b::r,false)=b.toNat:=by show ((aG ([b]++r) false 1).getD 0 0).toNat=_;rw [uO [b] r (z:=1) rfl];rfl
theorem HL (a b:UInt8) (r:List UInt8):gR (a::b::r,false)=a.toNat+b.toNat*256:=by show ((aG ([a,b]++r) false 2).getD 0 0).toNat+((aG ([a,b]++r) false 2).getD 1 0).toNat*256=_;rw [uO [a,b] r (z:=2) rfl];rfl
theorem IZ {x:Nat} (hx:x<18446744073709551616) (r:List UInt8):rU (cm x++r,false)=(r,false)∧vU (cm x++r,false)=x:=by
 have h:=Ge hx r
 have hp:=yM x
 have e:=oh (cm x) r rfl
 unfold rU mG nM vU lu
 rw [h]
 simp only [if_neg (show ¬ (cm x).length=0 by omega)]
 exact ⟨e,rfl⟩
theorem oy {f:Bool} {z:Int} (h:cE f z 255=true) (q:List UInt8):cond f (aS 1 ((if f=true then [bz z] else [])++q,false)) ((if f=true then [bz z] else [])++q,false)=(q,false)∧((cond f (v8 ((if f=true then [bz z] else [])++q,false)) 0:Nat):Int)=z:=by
 unfold cE at h
 simp only [Bool.or_eq_true,Bool.and_eq_true,decide_eq_true_eq] at h
 cases f with
 | false=>exact ⟨rfl,by rcases h with h | h;exact h.symm;cases h.1⟩
 | true=>
  refine ⟨oh [bz z] q rfl,?_⟩
  show ((v8 (bz z::q,false):Nat):Int)=z
  rw [vz];have:=lP z;omega
theorem AO {f:Bool} {z:Int} (h:cE f z 65535=true) (q:List UInt8):cond f (aS 2 ((if f=true then [bz z,bz (z / 256)] else [])++q,false)) ((if f=true then [bz z,bz (z / 256)] else [])++q,false)=(q,false)∧((cond f (gR ((if f=true then [bz z,bz (z / 256)] else [])++q,false)) 0:Nat):Int)=z:=by
 unfold cE at h
 simp only [Bool.or_eq_true,Bool.and_eq_true,decide_eq_true_eq] at h
 cases f with
 | false=>exact ⟨rfl,by rcases h with h | h;exact h.symm;cases h.1⟩
 | true=>
  refine ⟨oh [bz z,bz (z / 256)] q rfl,?_⟩
  show ((gR (bz z::bz (z / 256)::q,false):Nat):Int)=z
  rw [HL];have:=lP z;have:=lP (z / 256);omega
theorem AP {f:Bool} {x:Nat} (h:(f||decide ((x:Int)=0))=true) (hx:x<18446744073709551616) (q:List UInt8):cond f (rU ((if f=true then cm x else [])++q,false)) ((if f=true then cm x else [])++q,false)=(q,false)∧cond f (vU ((if f=true then cm x else [])++q,false)) 0=x:=by
 cases f with
 | false=>exact ⟨rfl,by simp at h;exact h.symm⟩
 | true=>exact IZ hx q
theorem AQ {f:Bool} {b:List UInt8} (h:cE f b.length 255=true) (q:List UInt8):cond f (aS (v8 ((if f=true then bz ((b.length:Nat):Int)::b else [])++q,false)) (aS 1 ((if f=true then bz ((b.length:Nat):Int)::b else [])++q,false))) ((if f=true then bz ((b.length:Nat):Int)::b else [])++q,false)=(q,false)∧cond f (aG (aS 1 ((if f=true then bz ((b.length:Nat):Int)::b else [])++q,false)).1 (aS 1 ((if f=true then bz ((b.length:Nat):Int)::b else [])++q,false)).2 (v8 ((if f=true then bz ((b.length:Nat):Int)::b else [])++q,false))) []=b:=by
 unfold cE at h
 simp only [Bool.or_eq_true,Bool.and_eq_true,decide_eq_true_eq] at h
 cases f with
 | false=>exact ⟨rfl,by rcases h with h | h;exact (List.eq_nil_of_length_eq_zero (by omega)).symm;cases h.1⟩
 | true=>
  have e:v8 (bz ((b.length:Nat):Int)::(b++q),false)=b.length:=by rw [vz,k5 (by omega)]
  have e2:aS 1 (bz ((b.length:Nat):Int)::(b++q),false)=(b++q,false):=oh [bz ((b.length:Nat):Int)] (b++q) rfl
  show aS (v8 (bz ((b.length:Nat):Int)::(b++q),false)) (aS 1 (bz ((b.length:Nat):Int)::(b++q),false))=_∧aG (aS 1 (bz ((b.length:Nat):Int)::(b++q),false)).1 (aS 1 (bz ((b.length:Nat):Int)::(b++q),false)).2 (v8 (bz ((b.length:Nat):Int)::(b++q),false))=_
  rw [e,e2]
  exact ⟨oh b q rfl,uO b q rfl⟩
theorem I0 {s:aJ} (h:hasB s=true) (hi:s.inc<18446744073709551616) (r:List UInt8):gK (cg s++r)<14∧cK (cg s++r)=(r,false)∧mg (cg s++r)=s:=by
 unfold hasB eX at h
 simp only [Bool.and_eq_true,decide_eq_true_eq] at h
 obtain ⟨k0,k1,h1,h2,h3,h4,h6,h5⟩:=h
 have eK:gK (cg s++r)=s.kind.toNat:=by
  show v8 (bz s.kind::(jO (ae s.kind.toNat) s++r),false)=_
  rw [vz];have:=lP s.kind;omega
 have e0:bK (cg s++r)=(jO (ae s.kind.toNat) s++r,false):=oh [bz s.kind] (jO (ae s.kind.toNat) s++r) rfl
 have hx:ae (gK (cg s++r))=ae s.kind.toNat:=by rw [eK]
 generalize hl:cg s++r=l at eK e0 hx ⊢
 generalize ae s.kind.toNat=x at h1 h2 h3 h4 h5 h6 e0 hx
 unfold jO at e0
 simp only [List.append_assoc] at e0
 have e1:cO l=((if x.peer=true then [bz s.peer] else [])++((if x.n=true then [bz s.n] else [])++((if x.bit=true then [bz s.bit,bz (s.bit / 256)] else [])++((if x.inc=true then cm s.inc else [])++((if x.body=true then bz ((s.body.length:Nat):Int)::s.body else [])++(r))))),false):=by unfold cO;rw [hx,e0];exact (oy h1 _).1
 have e2:cP l=((if x.n=true then [bz s.n] else [])++((if x.bit=true then [bz s.bit,bz (s.bit / 256)] else [])++((if x.inc=true then cm s.inc else [])++((if x.body=true then bz ((s.body.length:Nat):Int)::s.body else [])++(r)))),false):=by unfold cP;rw [hx,e1];exact (oy h2 _).1
 have e3:cQ l=((if x.bit=true then [bz s.bit,bz (s.bit / 256)] else [])++((if x.inc=true then cm s.inc else [])++((if x.body=true then bz ((s.body.length:Nat):Int)::s.body else [])++(r))),false):=by unfold cQ;rw [hx,e2];exact (oy h3 _).1
 have e4:db l=((if x.inc=true then cm s.inc else [])++((if x.body=true then bz ((s.body.length:Nat):Int)::s.body else [])++(r)),false):=by unfold db;rw [hx,e3];exact (AO h4 _).1
 have e5:aW l=((if x.body=true then bz ((s.body.length:Nat):Int)::s.body else [])++(r),false):=by unfold aW;rw [hx,e4];exact (AP h5 hi _).1
 have v1:((cI l:Nat):Int)=s.node:=by unfold cI;rw [hx,e0];exact (oy h1 _).2
 have v2:((c6 l:Nat):Int)=s.peer:=by unfold c6;rw [hx,e1];exact (oy h2 _).2
 have v3:((dx l:Nat):Int)=s.n:=by unfold dx;rw [hx,e2];exact (oy h3 _).2
 have v4:((dY l:Nat):Int)=s.bit:=by unfold dY;rw [hx,e3];exact (AO h4 _).2
 have v5:fA l=s.inc:=by unfold fA;rw [hx,e4];exact (AP h5 hi _).2
 have v6:fe l=s.body:=by unfold fe;rw [hx,e5];exact (AQ h6 _).2
 refine ⟨by omega,by unfold cK;rw [hx,e5];exact (AQ h6 _).1,?_⟩
 obtain ⟨k,n,p,m,b,i,bo⟩:=s
 unfold mg
 simp only at v1 v2 v3 v4 v5 v6 eK k0
 rw [v1,v2,v3,v4,v5,v6,eK]
 congr 1;omega
theorem HM {s:aJ} (h:hasB s=true) (hi:s.inc<18446744073709551616) (r:List UInt8):aX (cg s++r)=(s,(cg s).length):=by
 obtain ⟨h1,h2,h3⟩:=I0 h hi r
 rw [rQ h1 (by rw [h2]),h2,h3];simp
theorem Gf (s:aJ):1≤(cg s).length:=by unfold cg;simp
theorem HN {k:Nat} (h:k<14):(ae k).body=true→(ae k).peer=false∧(ae k).n=false∧(ae k).bit=false∧(ae k).inc=false:=
 r4 (p:=fun k=>(ae k).body=true→(ae k).peer=false∧(ae k).n=false∧(ae k).bit=false∧(ae k).inc=false) (by decide) (by decide) (by decide) (by decide) (by decide) (by decide) (by decide) (by decide) (by decide) (by decide) (by decide) (by decide) (by decide) (by decide) h
theorem Gg {s:aJ} (h:hasB s=true) (hi:s.inc<18446744073709551616):(cg s).length≤258:=by
 have hp:=sq h
 have hf:=HN (k:=s.kind.toNat) (by omega)
 have h5:=eC hi
 unfold cg jO
 generalize ae s.kind.toNat=x at hf
 obtain ⟨w,n,p,m,b,i,bo⟩:=x
 simp only at hf ⊢
 cases bo with
 | true=>obtain ⟨rfl,rfl,rfl,rfl⟩:=hf rfl;cases n<;>simp<;>omega
 | false=>cases n<;>cases p<;>cases m<;>cases b<;>cases i<;>simp<;>omega
theorem zE:∀ (l:List aJ),(∀ s ∈ l,hasB s=true∧s.inc<18446744073709551616)→dT (l.flatMap cg)=l
 | [],_=>lK
 | s::l,h=>by
  obtain ⟨h1,h2⟩:=h s List.mem_cons_self
  have hp:=Gf s
  have hw:=Gg h1 h2
  rw [List.flatMap_cons,mL (by simp;omega),List.take_append,List.take_of_length_le hw,HM h1 h2]
  show s::dT (List.drop (cg s).length (cg s++l.flatMap cg))=_
  rw [List.drop_left,zE l fun s hs=>h s (List.mem_cons_of_mem _ hs)]
end Go.Proofs.YtcnpikbbmbombaaDoor
namespace Go.Proofs.YtcnpikbbmbombaaDoor
open Go.RowKit
theorem vA:∀ (n:Nat) (l:List Nat),l.Nodup→(∀ x ∈ l,x<n)→l.length≤n
 | 0,l,_,h=>by
  cases l with
  | nil=>exact Nat.le_refl _
  | cons x r=>exact absurd (h x List.mem_cons_self) (Nat.not_lt_zero _)
 | n+1,l,hd,h=>by
  by_cases hm:n ∈ l
  ·have h1:=vA n (l.erase n) (hd.erase n) fun x hx=>by
    have h2:=(hd.mem_erase_iff).1 hx
    have h3:=h x h2.2
    have h4:=h2.1
    omega
   have h2:=List.length_erase_of_mem hm
   omega
  ·exact Nat.le_succ_of_le (vA n l hd fun x hx=>by
    have h3:=h x hx
    have h4:x≠n:=fun e=>hm (e▸hx)
    omega)
theorem kY.Mq {c:bY} (h:kY c):c.ah.length≤25:=by
 have h1:=vA 25 (c.ah.map fun x=>(x.1*5+x.2).toNat) (by
  rw [List.nodup_iff_pairwise_ne,List.pairwise_map,List.pairwise_iff_getElem]
  intro i j hi hj Mr e
  have a:=h.link i _ (List.getElem?_eq_getElem hi)
  have b:=h.link j _ (List.getElem?_eq_getElem hj)
  have d:=h.lone j i _ _ (List.getElem?_eq_getElem hj) Mr (List.getElem?_eq_getElem hi)
  have hd:=h.head
  unfold im at a b
  exact d.1 (by omega)) fun x hx=>by
  obtain ⟨y,hy,rfl⟩:=List.mem_map.1 hx
  obtain ⟨i,hi,rfl⟩:=List.getElem_of_mem hy
  have a:=h.link i _ (List.getElem?_eq_getElem hi)
  have hd:=h.head
  unfold im at a
  omega
 simpa using h1
theorem kY.fits {c:bY} (h:kY c):(0≤c.aK∧c.aK≤255)∧c.ah.length≤255∧c.homes.length≤255∧(∀ x ∈ c.ah,0≤x.1∧x.1≤255∧0≤x.2∧x.2≤255)∧∀ x ∈ c.homes,0≤x∧x≤255:=by
 have hd:=h.head
 have hf:=h.Mq
 refine ⟨by omega,by omega,by omega,fun x hx=>?_,fun x hx=>?_⟩
 ·obtain ⟨i,hi,rfl⟩:=List.getElem_of_mem hx
  have a:=h.link i _ (List.getElem?_eq_getElem hi)
  unfold im at a;omega
 ·obtain ⟨i,hi,rfl⟩:=List.getElem_of_mem hx
  have a:=h.home i _ (List.getElem?_eq_getElem hi)
  unfold im at a;omega
theorem zF:∀ (l:List (Int×Int)) (j:Nat) (x:Int×Int),l[j]?=some x→(cW l)[2*j]?=some (bz x.1)∧(cW l)[2*j+1]?=some (bz x.2)
 | [],j,x,h=>by simp at h
 | y::l,0,x,h=>by
  simp at h;subst h
  exact ⟨rfl,rfl⟩
 | y::l,j+1,x,h=>by
  have:=zF l j x (by simpa using h)
  rw [show cW (y::l)=bz y.1::bz y.2::cW l from rfl,show 2*(j+1)=2*j+1+1 by omega]
  simpa using this
theorem Mt {z:Int} (h:0≤z∧z≤255):(((bz z).toNat:Nat):Int)=z:=by rw [lP];omega
theorem ss {l:List UInt8} {k:Nat} {z:Int} (h:l[k]?=some (bz z)) (hz:0≤z∧z≤255):gV l k=z:=by
 unfold gV;rw [List.getD_eq_getElem?_getD,h];exact Mt hz
theorem HO {c:bY} (h:kY c) (r:List UInt8):gC (cf c++r)=c∧gE (cf c++r)=(cf c).length:=by
 obtain ⟨h0,h1,h2,h3,h4⟩:=h.fits
 have e:cf c++r=bz c.aK::bz ((c.ah.length:Nat):Int)::(cW c.ah++(bz ((c.homes.length:Nat):Int)::(c.homes.map bz++r))):=by unfold cf;simp
 have hl:=fT c.ah
 generalize hL:cf c++r=L at e
 have n1:gN L=c.ah.length:=by unfold gN;rw [e];exact k5 (by omega)
 have x7:∀ k,L[2+k]?=(cW c.ah++(bz ((c.homes.length:Nat):Int)::(c.homes.map bz++r)))[k]?:=fun k=>by rw [e,show 2+k=k+1+1 by omega];simp
 have Mu:∀ k,L[2+2*c.ah.length+1+k]?=(c.homes.map bz++r)[k]?:=fun k=>by
  rw [show 2+2*c.ah.length+1+k=2+((cW c.ah).length+(k+1)) by omega,x7,List.getElem?_append_right (by omega)]
  rw [show (cW c.ah).length+(k+1)-(cW c.ah).length=k+1 by omega];simp
 have m1:gM L=c.homes.length:=by
  unfold gM;rw [n1,List.getD_eq_getElem?_getD,show 2+2*c.ah.length=2+(cW c.ah).length by omega,x7,List.getElem?_append_right (Nat.le_refl _),Nat.sub_self]
  exact k5 (by omega)
 refine ⟨?_,by unfold gE;rw [n1,m1,rH];omega⟩
 have s1:gV L 0=c.aK:=ss (by rw [e];rfl) h0
 have l1:gL L (gN L)=c.ah:=by
  rw [n1]
  apply List.ext_getElem?
  intro j
  unfold gL
  rcases Nat.lt_or_ge j c.ah.length with hj | hj
  ·have g:=List.getElem?_eq_getElem hj
   have hx:=h3 _ (List.getElem_mem hj)
   obtain ⟨b1,b2⟩:=zF _ _ _ g
   have ll:∀ k,k<(cW c.ah).length→L[2+k]?=(cW c.ah)[k]?:=fun k hk=>by rw [x7,List.getElem?_append_left hk]
   rw [List.getElem?_map,List.getElem?_range hj,g]
   show some (gV L (2+2*j),gV L (2+2*j+1))=_
   rw [ss (by rw [ll _ (by omega)];exact b1) (by omega),ss (by rw [Nat.add_assoc,ll _ (by omega)];exact b2) (by omega)]
  ·rw [List.getElem?_eq_none hj,List.getElem?_eq_none (by simp;omega)]
 have l2:gH L (gM L)=c.homes:=by
  rw [m1]
  apply List.ext_getElem?
  intro j
  unfold gH
  rcases Nat.lt_or_ge j c.homes.length with hj | hj
  ·have g:=List.getElem?_eq_getElem hj
   have hx:=h4 _ (List.getElem_mem hj)
   rw [List.getElem?_map,List.getElem?_range hj,g]
   show some (gV L (2+2*gN L+1+j))=_
   rw [n1,ss (by rw [Mu,List.getElem?_append_left (by simpa using hj),List.getElem?_map,g];rfl) (by omega)]
  ·rw [List.getElem?_eq_none hj,List.getElem?_eq_none (by simp;omega)]
 unfold gC;rw [s1,l1,l2]
theorem mT {z:Nat} {r:dj} (h:(aS z r).2=false):(aS z r).1.length+z=r.1.length∧(aG r.1 r.2 z).length=z:=by
 by_cases e:gk r.1 r.2 z
 ·unfold aS dN at h;simp only [if_pos e] at h;cases h
 ·unfold aS dB aG;simp only [if_neg e]
  unfold gk at e;simp;omega
theorem I5 {r:dj} (h:(rU r).2=false):(rU r).1.length+(cm (vU r)).length≤r.1.length∧vU r<18446744073709551616:=by
 have hb:=wG h
 obtain ⟨l,b⟩:=r
 simp only at hb;subst hb
 have hn:da l false=dJ l 0 ((0:Nat):Int):=by unfold da;rw [if_neg (by decide)];rfl
 unfold rU mG nM vU lu at *
 by_cases h0:(da l false).2=0
 ·simp only [if_pos h0] at h;cases h
 ·simp only [if_neg h0] at h ⊢
  have hk:=mT (z:=(da l false).2) (r:=(l,false)) h
  obtain ⟨y,g1,g2,g3⟩:=za l 0 0 (by decide) (by decide) (by rw [← hn];exact h0)
  rw [← hn] at g1 g2
  have e:(da l false).1.toNat=y:=by rw [g1];simp
  rw [e]
  have h1:(dB l false ((da l false).2:Nat)).length+(da l false).2=l.length:=hk.1
  exact ⟨by omega,by omega⟩
theorem pX {f:Bool} {n most:Int} (h:f=false→n=0) (h0:0≤n) (h1:n≤most):cE f n most=true:=by
 unfold cE
 cases f with
 | false=>rw [h rfl];rfl
 | true=>simp;omega
theorem Gh (l:List UInt8):hasB (aX l).1=true∧(aX l).1.inc<18446744073709551616∧(cg (aX l).1).length≤(aX l).2:=by
 have hz:hasB gZ=true∧gZ.inc<18446744073709551616∧(cg gZ).length≤1:=⟨by decide,by decide,by decide⟩
 rcases Nat.lt_or_ge (gK l) 14 with hk | hk
 ·cases h6:(cK l).2 with
  | true=>rw [uN hk h6];exact hz
  | false=>
   rw [rQ hk h6]
   have h5:(aW l).2=false:=jh h6 (fun h=>iL (iL h)) id
   have h4:(db l).2=false:=jh h5 wG id
   have h3:(cQ l).2=false:=jh h4 iL id
   have h2:(cP l).2=false:=jh h3 iL id
   have h1:(cO l).2=false:=jh h2 iL id
   have h0:(bK l).2=false:=jh h1 iL id
   have n0:=Ag h0
   have a1:cI l≤255∧((ae (gK l)).node=false→cI l=0)∧(cO l).1.length+(if (ae (gK l)).node=true then [bz ((cI l:Nat):Int)] else []).length≤(bK l).1.length:=by
    cases e:(ae (gK l)).node with
    | false=>rw [Bi e,Bj e];simp
    | true=>rw [Bg e] at h1 ⊢;rw [Bh e];have:=(mT (z:=1) h1).1;have:=qg (bK l);simp at *;omega
   have a2:c6 l≤255∧((ae (gK l)).peer=false→c6 l=0)∧(cP l).1.length+(if (ae (gK l)).peer=true then [bz ((c6 l:Nat):Int)] else []).length≤(cO l).1.length:=by
    cases e:(ae (gK l)).peer with
    | false=>rw [Bm e,Bn e];simp
    | true=>rw [Bk e] at h2 ⊢;rw [Bl e];have:=(mT (z:=1) h2).1;have:=qg (cO l);simp at *;omega
   have a3:dx l≤255∧((ae (gK l)).n=false→dx l=0)∧(cQ l).1.length+(if (ae (gK l)).n=true then [bz ((dx l:Nat):Int)] else []).length≤(cP l).1.length:=by
    cases e:(ae (gK l)).n with
    | false=>rw [Bq e,Br e];simp
    | true=>rw [Bo e] at h3 ⊢;rw [Bp e];have:=(mT (z:=1) h3).1;have:=qg (cP l);simp at *;omega
   have a4:dY l≤65535∧((ae (gK l)).bit=false→dY l=0)∧(db l).1.length+(if (ae (gK l)).bit=true then [bz ((dY l:Nat):Int),bz (((dY l:Nat):Int) / 256)] else []).length≤(cQ l).1.length:=by
    cases e:(ae (gK l)).bit with
    | false=>rw [Bu e,Bv e];simp
    | true=>rw [Bs e] at h4 ⊢;rw [Bt e];have:=(mT (z:=2) h4).1;have:=AG (cQ l);simp at *;omega
   have a5:fA l<18446744073709551616∧((ae (gK l)).inc=false→fA l=0)∧(aW l).1.length+(if (ae (gK l)).inc=true then cm (fA l) else []).length≤(db l).1.length:=by
    cases e:(ae (gK l)).inc with
    | false=>rw [By e,Bz e];simp
    | true=>rw [Bw e] at h5 ⊢;rw [Bx e];have:=I5 h5;simp;omega
   have a6:(fe l).length≤255∧((ae (gK l)).body=false→(fe l).length=0)∧(cK l).1.length+(if (ae (gK l)).body=true then bz (((fe l).length:Nat):Int)::fe l else []).length≤(aW l).1.length:=by
    cases e:(ae (gK l)).body with
    | false=>rw [wF e,BB e];simp
    | true=>
     rw [wE e] at h6 ⊢;rw [BA e]
     have b1:=mT (z:=v8 (aW l)) h6
     have b2:=(mT (z:=1) (iL h6)).1
     have b3:=qg (aW l)
     rw [b1.2];simp at *;omega
   refine ⟨?_,a5.1,?_⟩
   ·show hasB (mg l)=true
    unfold hasB eX mg
    simp only [Int.toNat_natCast,Bool.and_eq_true,decide_eq_true_eq,Bool.or_eq_true]
    refine ⟨by omega,by omega,pX (fun h=>by rw [a1.2.1 h];rfl) (by omega) (by omega),pX (fun h=>by rw [a2.2.1 h];rfl) (by omega) (by omega),pX (fun h=>by rw [a3.2.1 h];rfl) (by omega) (by omega),pX (fun h=>by rw [a4.2.1 h];rfl) (by omega) (by omega),pX (fun h=>by rw [a6.2.1 h];rfl) (by omega) (by omega),?_⟩
    cases e:(ae (gK l)).inc with
    | true=>exact .inl rfl
    | false=>exact .inr (by rw [a5.2.1 e];rfl)
   ·show (cg (mg l)).length≤l.length-(cK l).1.length
    unfold cg jO mg
    simp only [Int.toNat_natCast,List.length_cons,List.length_append]
    omega
 ·rw [uM hk];exact hz
theorem tI:∀ (n:Nat) (b:List UInt8),b.length≤n→(∀ s ∈ dT b,hasB s=true∧s.inc<18446744073709551616)∧((dT b).flatMap cg).length≤b.length
 | 0,b,h=>by
  obtain rfl:b=[]:=List.eq_nil_of_length_eq_zero (by omega)
  rw [lK];exact ⟨fun _ h=>(List.not_mem_nil h).elim,Nat.le_refl _⟩
 | n+1,b,h=>by
  rcases Nat.eq_zero_or_pos b.length with h0 | h0
  ·obtain rfl:=List.eq_nil_of_length_eq_zero h0
   rw [lK];exact ⟨fun _ h=>(List.not_mem_nil h).elim,Nat.le_refl _⟩
  ·have h1:=rR (b.take 258)
   have h2:=AM (l:=b.take 258) (by simp;omega)
   obtain ⟨b1,b2,b3⟩:=Gh (b.take 258)
   obtain ⟨i1,i2⟩:=tI n (b.drop (aX (b.take 258)).2) (by simp;omega)
   rw [mL h0]
   refine ⟨fun s hs=>?_,?_⟩
   ·rcases List.mem_cons.1 hs with rfl | hs
    ·exact ⟨b1,b2⟩
    ·exact i1 s hs
   ·rw [List.flatMap_cons,List.length_append]
    simp only [List.length_drop] at i2;simp only [List.length_take] at h2;omega
structure I6 (l x:List UInt8):Prop where
 len:x.length≤l.length
 fit:gE x≤x.length
 cfg:gC x=gC l
 Mv:dT (x.drop (gE x))=dT (l.drop (gE l))
theorem again {l:List UInt8} (hl:l.length≤65536) (hG:gE l≤l.length) (hM:bT (gC l)=true):dK (gC l) (dT (l.drop (gE l)))=0∧I6 l (dq (gC l) (dT (l.drop (gE l)))):=by
 obtain ⟨h1,h2⟩:=tI _ (l.drop (gE l)) (Nat.le_refl _)
 have hm:=iO hM
 have hc:(cf (gC l)).length=gE l:=by
  rw [rH];show 3+2*(gL l (gN l)).length+(gH l (gM l)).length=_
  rw [b7,b8];unfold gE;omega
 have hn:(dq (gC l) (dT (l.drop (gE l)))).length≤l.length:=by
  unfold dq;rw [List.length_append,hc];simp only [List.length_drop] at h2;omega
 obtain ⟨c1,c2⟩:=HO hm ((dT (l.drop (gE l))).flatMap cg)
 refine ⟨j8 hM (List.all_eq_true.2 fun s hs=>(h1 s hs).1) (by omega),hn,?_,c1,?_⟩
 ·unfold dq;rw [c2,List.length_append];omega
 ·unfold dq;rw [c2,List.drop_left];exact zE _ h1
end Go.Proofs.YtcnpikbbmbombaaDoor
namespace Go.Proofs.YtcnpikbbmbombaaDoor
open Go.RowKit
theorem consts {K:World→Prop} {zs ys:List Value} (hl:ys.length=(zs.map fun z=>AV.d (.v z)).length) (hr:∀ (j:Nat) c y,(zs.map fun z=>AV.d (.v z))[j]?=some c→ys[j]?=some y→ao K [] c y):ys=zs:=by
 apply List.ext_getElem (by simpa using hl)
 intro j h1 h2
 have key:∀ {a b:Value},ao K [] (.d (.v a)) b→b=a:=fun h=>by cases h with | d h=>cases h;rfl
 exact key (hr j (.d (.v zs[j])) ys[j] (by rw [List.getElem?_map,List.getElem?_eq_getElem h2];rfl) (List.getElem?_eq_getElem h1))
theorem ay.pM {P:Program} {f:FuncId} (hc:gu P f=true) {zs:List Value} {v:Value} (h:∀ w,Calls P f zs.toArray w fun e w'=>e=.returned v∧Below w.heap.size w w'):ay P f (zs.map fun z=>AV.d (.v z)) (.v v):=by
 refine ⟨hc,fun w K ys _ hl hr=>?_⟩
 obtain rfl:=consts hl hr
 exact (h w).mono fun e w' ⟨he,g⟩=>⟨v,he,g,[],⟨[],[],rfl,.v _⟩,df.nil _ _⟩
theorem HP (l:List UInt8) (c:UInt8):ay Tryd.prog 78 [.d (.v (.string ⟨l.toArray⟩)),.d (.v (.string ⟨[c].toArray⟩))] (.z (Go.Lib.indexByte l c)):=
 ay.pM (by kernel_rfl) (zs:=[.string ⟨l.toArray⟩,.string ⟨[c].toArray⟩]) fun w=>(Tryd.strings_Index_one ⟨l.toArray⟩ c w).mono fun e w' ⟨he,hw⟩=>⟨he,hw▸Below.refl _ _⟩
theorem yr (l:List UInt8) (c:UInt8):ay Tryd.prog 68 [.d (.v (.string ⟨l.toArray⟩)),.d (.v (.int .u8 ((c.toNat:Nat):Int)))] (.z (Go.Lib.indexByte l c)):=
 ay.pM (by kernel_rfl) (zs:=[.string ⟨l.toArray⟩,.int .u8 ((c.toNat:Nat):Int)]) fun w=>(Tryd.strings_IndexByte ⟨l.toArray⟩ ((c.toNat:Nat):Int) w).mono fun e w' ⟨he,hw⟩=>⟨by rw [he];simp,hw▸Below.refl _ _⟩
theorem HQ (l:List UInt8) (c:UInt8):ay Tryd.prog 77 [.d (.v (.string ⟨l.toArray⟩)),.d (.v (.string ⟨[c].toArray⟩))] (.z (Go.Lib.countByte l c)):=
 ay.pM (by kernel_rfl) (zs:=[.string ⟨l.toArray⟩,.string ⟨[c].toArray⟩]) fun w=>(Tryd.strings_Count_one ⟨l.toArray⟩ c w).mono fun e w' ⟨he,hw⟩=>⟨he,hw▸Below.refl _ _⟩
theorem wH:qb Tryd.prog 59:=⟨_,Tryd.func59,by kernel_rfl,by kernel_rfl,by kernel_rfl,by kernel_rfl⟩
theorem La:sJ Tryd.prog 80 5:=⟨_,_,Tryd.func80,by kernel_rfl,by kernel_rfl,by kernel_rfl,by kernel_rfl,rfl,Tryd.underlying29⟩
set_option maxRecDepth 100000 in
theorem I7 (n:Nat) (hn:n≤1099511627776):ax Tryd.prog 70 [.pt 0 0,.n n] [.bx 56 [.pt 0 0,.d (.v (.slice none 0 0))]] (.tu []) ([.bx 56 [.pt 0 0,.sl 1 0],.rw 5 1 []]):=by
 refine ax.intro (by kernel_rfl) rfl rfl 30 rfl rfl fun D w0 K bs ac wd hK (al:bs.m=1) r=>?_
 refine a7 (y:=.tu []) (N':=[.bx 56 [.pt 0 0,.sl 1 (0)],.rw 5 1 ((([]:List (List DV))).take (0)++((List.replicate (n) [.jk]).take (0)).drop (0))]) (rfl) (rfl) ?_
 exact aZ tk mo hK rfl al [(0,[(5,.z (0)),(7,.z (((n:Nat):Int))),(8,.n2 (n) 5),(14,.n (0))]),(1,[(5,.n (0))])] 2000 [0,1] r (by kernel_rfl) (U ((by decide):IntKind.i64.wrap ((2:Int)*0)=0) (U ((wi (by omega)):IntKind.i64.wrap ((0:Int)+((n:Nat):Int))=((n:Nat):Int)) (U (La:sJ Tryd.prog 80 5) (U (aN ((n:Nat):Int)) (U ((by first | omega | decide | (simp;done) | (simp;omega)):(n)≤281474976710656) (U (aN ((0:Nat):Int)) (U ((by first | omega | decide | (simp;done) | (simp;omega)):(0)≤(n)) (U ((by first | rfl | (simp;done) | (simp<;>omega)):(n)=(List.replicate (n) [.jk]:List (List DV)).length) (U ((by first | rfl | (simp;done) | (simp<;>omega)):(0)=((List.replicate (n) [.jk]).take (0):List (List DV)).length) (U (rfl:min (([]:List (List DV)):List (List DV)).length (0)=0) (U ((by simp [bf,AV.one,bS,af,ah,ints,steps,strs]):bf (([]:List (List DV)))) trivial)))))))))))
end Go.Proofs.YtcnpikbbmbombaaDoor
namespace Go.Proofs.YtcnpikbbmbombaaDoor
open Go.RowKit
theorem jj:cV Tryd.prog 54:=by unfold cV;kernel_rfl
theorem Gi {n:Nat} (h0:1≤n) (h:n≤1048576):¬ (1:Int)≥((9223372036854775807 / n:Nat):Int):=by
 have:2≤9223372036854775807 / n:=by rw [Nat.le_div_iff_mul_le h0];omega
 omega
theorem Lb (a b:Nat):((a:Nat):Int).tdiv ((b:Nat):Int)=((a / b:Nat):Int):=(Int.ofNat_tdiv a b).symm
theorem Lc {n:Nat} (h:n≤1048576):IntKind.i64.wrap ((9223372036854775807:Int).tdiv ((n:Nat):Int))=((9223372036854775807 / n:Nat):Int):=by
 have e:=Lb 9223372036854775807 n
 rw [show (9223372036854775807:Int)=((9223372036854775807:Nat):Int) from rfl,e]
 have h2:=Nat.div_le_self 9223372036854775807 n
 generalize 9223372036854775807 / n=q at h2 ⊢
 exact wi (by omega)
def cu (r:List (List UInt8)):List UInt8:=r.flatMap fun w=>32::w
theorem EN {r:List (List UInt8)} {i:Nat} {e:List UInt8} (h:r[i]?=some e):cu (r.take (i+1))=cu (r.take i)++[32]++e:=by
 unfold cu;rw [List.take_add_one,h];simp
theorem pO (r:List (List UInt8)):(cu r).length=r.length+r.flatten.length:=by
 unfold cu;induction r with
 | nil=>rfl
 | cons x r ih=>rw [List.flatMap_cons,List.length_append,ih];simp;omega
theorem zb {r:List (List UInt8)} {i:Nat} {e:List UInt8} (h:r[i]?=some e):(r.take (i+1)).flatten.length=(r.take i).flatten.length+e.length:=by
 rw [List.take_add_one,h];simp
theorem rS (r:List (List UInt8)) (i:Nat):(r.take i).flatten.length≤r.flatten.length:=by
 have:=congrArg (fun q=>q.flatten.length) (List.take_append_drop i r)
 simp only [List.flatten_append,List.length_append] at this
 omega
theorem Ah (r:List (List UInt8)) (i:Nat):(cu (r.take i)).length≤(cu r).length:=by
 rw [pO,pO];have h1:=rS r i;have h2:(r.take i).length≤r.length:=by simp;omega
 omega
theorem HR {r:List (List UInt8)} {i:Nat} (h:i≤r.length):i≤(cu (r.take i)).length:=by
 rw [pO,List.length_take];omega
set_option maxRecDepth 100000 in
theorem Gj (x:List UInt8) (q:List (List UInt8)) (hr:1≤q.length) (hl:q.length≤1000000) (hb:(x::q).flatten.length≤1073741824):ay Tryd.prog 42 [.d (.ro 1 (strs (x::q))),.d (.v (.string ⟨([32]).toArray⟩))] (.v (.string ⟨(x++cu q).toArray⟩)):=by
 refine ay.intro (by kernel_rfl) rfl rfl 75 rfl rfl fun w0 K ac hK r=>?_
 have aY:=((by first | rfl | (simp [strs];done) | (simp [strs];omega)):(((strs (x::q)).length:Nat):Int)=(((q.length+1):Nat):Int))
 cases h0:(((((q.length+1):Nat):Int):Int)==0) with
 | false=>
  have bw:=ne_of_beq_false h0
  cases h1:(((((q.length+1):Nat):Int):Int)==1) with
  | false=>
   have bW:=ne_of_beq_false h1
   have bH:=((by first | rfl | (simp [strs];done) | (simp [strs];omega)):((([32]:List UInt8).length:Nat):Int)=1)
   have cB:=((wi (by omega)):IntKind.i64.wrap (((((q.length+1):Nat):Int):Int)-1)=((q.length:Nat):Int))
   have dH:=((Lc (by omega)):IntKind.i64.wrap ((9223372036854775807:Int).tdiv ((q.length:Nat):Int))=((9223372036854775807 / q.length:Nat):Int))
   cases h2:(decide ((((9223372036854775807 / q.length:Nat):Int):Int)≤1)) with
   | false=>
    have dG:=of_decide_eq_false h2
    refine cT (todo':=hd Tryd.f42 0) (E':=[(0,.d (.ro 1 (strs (x::q)))),(1,.d (.v (.string ⟨([32]).toArray⟩))),(5,.n (q.length+((x::q).take 0).flatten.length)),(39,.d (.ro 1 (strs (x::q)))),(40,.n ((q.length+1))),(41,.n 0)]) (M':=[]) tk mo hK [(1,[(1,.z ((((q.length+1):Nat):Int)))]),(2,[(0,.b false)]),(4,[(0,.b false)]),(7,[(1,.z (1))]),(8,[(1,.z (1)),(3,.z ((((q.length+1):Nat):Int))),(4,.z (((q.length:Nat):Int))),(5,.z (((9223372036854775807 / q.length:Nat):Int))),(6,.b false)]),(10,[(2,.z (1)),(4,.z ((((q.length+1):Nat):Int))),(5,.z (((q.length:Nat):Int))),(6,.z (((q.length:Nat):Int))),(7,.z (((q.length:Nat):Int)))]),(11,[(1,.z ((((q.length+1):Nat):Int)))])] 2000 [] [0,1,5,39,40,41] r (by kernel_rfl) (U aY (U h0 (U h1 (U bH (U bH (U aY (U cB (U dH (U ((by omega):(((q.length:Nat):Int):Int)≠0) (U h2 (U bH (U aY (U cB (U ((wi (by omega)):IntKind.i64.wrap ((1:Int)*((q.length:Nat):Int))=((q.length:Nat):Int)) (U ((wi (by omega)):IntKind.i64.wrap ((0:Int)+((q.length:Nat):Int))=((q.length:Nat):Int)) (U aY trivial)))))))))))))))) fun ac wd r=>?_
    refine aC.rounds (Φ:=fun (i:Nat) ac wd=>(i≤q.length+1)∧dA [] w0 K 75 [(0,.d (.ro 1 (strs (x::q)))),(1,.d (.v (.string ⟨([32]).toArray⟩))),(5,.n (q.length+((x::q).take i).flatten.length)),(39,.d (.ro 1 (strs (x::q)))),(40,.n ((q.length+1))),(41,.n i)] [] ac wd) (q.length+1) ?_ (Nat.zero_le _) ⟨Nat.zero_le _,r⟩
    clear r
    rintro i e7 b6 ac wd ⟨aq,r⟩
    have Ct:=rS (x::q) i
    have sY:x.length≤(x::q).flatten.length:=by simp
    have NL:(cu q).length=q.length+q.flatten.length:=pO q
    have NM:(x::q).flatten.length=x.length+q.flatten.length:=by simp
    cases h3:(decide ((((i:Nat):Int):Int)<(((q.length+1):Nat):Int))) with
    | false=>
     have dX:=of_decide_eq_false h3
     have gP:=((by kernel_rfl):(bif true then l8 Tryd.prog 54 119 else l9 Tryd.prog 54 119 56 2)=true)
     have gQ:=((by kernel_rfl):(bif false then l8 Tryd.prog 119 54 else l9 Tryd.prog 119 54 56 2)=true)
     cases h4:(decide ((((q.length+((x::q).take i).flatten.length:Nat):Int):Int)<0)) with
     | false=>
      have fx:=of_decide_eq_false h4
      cases h5:(decide ((0:Int)<((q.length+((x::q).take i).flatten.length:Nat):Int))) with
      | false=>
       have fy:=of_decide_eq_false h5
       exact absurd fy (by omega)
      | true=>
       have fy:=of_decide_eq_true h5
       refine cT (todo':=hd Tryd.f42 1) (E':=[(1,.d (.v (.string ⟨([32]).toArray⟩))),(8,.pt 0 0),(63,.d (.ro 1 (List.drop (1) (strs (x::q))))),(64,.n q.length),(65,.z 0)]) (M':=[.bx 56 [.pt 0 0,.sl 1 (0+(x).length)],.rw 5 1 ([]++af x)]) tk mo hK [(12,[(0,.b false)]),(19,[(1,.bG 200 [(0,[(1,.bG 200 [(1,[(2,.b true),(3,.b true),(4,.b false)])])]),(1,[(1,.b false)]),(3,[(10,.z (0)),(12,.b true)]),(4,[(2,.mem [0] (.tu []) [.bx 56 [.pt 0 0,.sl 1 (0)],.rw 5 1 ([])])])])]),(20,[(1,.ix (0) [.v (.string ⟨x.toArray⟩)]),(3,.bG 200 [(1,[(1,.bG 200 [])])])]),(21,[(1,.n2 (0) (1)),(2,.z (((q.length:Nat):Int)))])] 2000 [0,1] [1,8,63,64,65] r (by kernel_rfl) (U h3 (U (jj:cV Tryd.prog 54) (U gP (U ((by decide):0<2) (U (wH:qb Tryd.prog 59) (U gQ (U ((by decide):0<2) (U h4 (U ((wi (by omega)):IntKind.i64.wrap ((0:Int)-0)=0) (U h5 (U (I7 (q.length+((x::q).take i).flatten.length) (by omega)) (U (rfl:(0)=((0:Nat):Int)) (U (rfl:(strs (x::q))[0]?=some [.v (.string ⟨x.toArray⟩)]) (U (jj:cV Tryd.prog 54) (U ((by kernel_rfl):iU Tryd.prog 54=true) (U ((by first | rfl | (simp [af,strs];done) | (simp [af,strs];omega)):(0)=([]:List (List DV)).length) (U ((by first | omega | (simp [af];omega)):(2*((0)+(x).length)+192)*1≤281474976710656) (U ((by first | omega | (simp [af];omega)):(0)+(x).length<4611686018427387904) (U (rfl:(1:Int)=((1:Nat):Int)) (U ((by first | omega | (simp [af,ah,ints,steps,strs];done) | (simp [af,ah,ints,steps,strs];omega)):(1)≤(strs (x::q):List (List DV)).length) (U ((by first | rfl | (simp [strs];done) | (simp [strs];omega)):(((List.drop (1) (strs (x::q))).length:Nat):Int)=((q.length:Nat):Int)) trivial))))))))))))))))))))) fun ac wd r=>?_
       refine aC.rounds (Φ:=fun (i:Nat) ac wd=>(i≤q.length)∧dA [] w0 K 75 [(1,.d (.v (.string ⟨([32]).toArray⟩))),(8,.pt 0 0),(63,.d (.ro 1 (List.drop 1 (strs (x::q))))),(64,.n q.length),(65,.n i)] [.bx 56 [.pt 0 0,.sl 1 ((x++cu (q.take i)).length)],.rw 5 1 (af (x++cu (q.take i)))] ac wd) (q.length) ?_ (Nat.zero_le _) ⟨Nat.zero_le _,(r).cast rfl (by simp [cu,af])⟩
       clear r
       rintro i qU jF ac wd ⟨dV,r⟩
       have NN:=HR dV
       have NO:(af (x++cu (q.take i))).length=x.length+(cu (q.take i)).length:=by simp [af]
       have NP:=Ah q i
       have M6:=Ah q (i+1)
       have ko:(x++cu (q.take i)).length=x.length+(cu (q.take i)).length:=by simp
       cases h6:(decide ((((i:Nat):Int):Int)<((q.length:Nat):Int))) with
       | false=>
        have jc:=of_decide_eq_false h6
        rw [show (.v (.string ⟨(x++cu q).toArray⟩):DV)=.v (.string ⟨((x++cu (q.take i))).toArray⟩) from (by rw [List.take_of_length_le (by omega)])]
        exact br tk mo hK rfl [(22,[(0,.b false)]),(27,[(0,.bG 200 [(1,[(10,.res (.v (.string ⟨((x++cu (q.take i))).toArray⟩)))])])])] 2000 r (by kernel_rfl) (U h6 (U ((by first | rfl | (simp [af,strs];done) | (simp [af,strs];omega)):((x++cu (q.take i)).length)=(af (x++cu (q.take i)):List (List DV)).length) (U ((by first | omega | decide | (simp;done) | (simp;omega)):0<((x++cu (q.take i)).length)) (U ((by simp [af]):((((x++cu (q.take i)).length:Nat):Int):Int)=(((af (x++cu (q.take i)):List (List DV)).length:Nat):Int)) (U ((by first | omega | (simp [af];omega)):0<(af (x++cu (q.take i)):List (List DV)).length) (U (rfl:af (x++cu (q.take i))=af ((x++cu (q.take i)))) (U ((by kernel_rfl):qq Tryd.prog 98 5=true) (U ((by first | omega | decide | (simp;done) | (simp;omega)):(af (x++cu (q.take i)):List (List DV)).length≤9223372036854775807) trivial))))))))
       | true=>
        have jc:=of_decide_eq_true h6
        obtain ⟨qh,vB⟩:∃ x_,q[i]?=some x_:=⟨_,List.getElem?_eq_getElem (by omega)⟩
        have mF:=zb vB
        have dL:=rS q (i+1)
        exact cT (todo':=hd Tryd.f42 1) (E':=[(1,.d (.v (.string ⟨([32]).toArray⟩))),(8,.pt 0 0),(63,.d (.ro 1 (List.drop 1 (strs (x::q))))),(64,.n q.length),(65,.n (i+1))]) (M':=[.bx 56 [.pt 0 0,.sl 1 ((x++cu (q.take i)).length+([32]:List UInt8).length+(qh).length)],.rw 5 1 (af (x++cu (q.take i))++af [32]++af qh)]) tk mo hK [(22,[(0,.b true)]),(23,[(0,.ix (i) [.v (.string ⟨qh.toArray⟩)])]),(24,[(1,.bG 200 [(1,[(1,.bG 200 [])]),(3,[(1,.z (1))])])]),(25,[(1,.bG 200 [(1,[(1,.bG 200 [])])])]),(26,[(0,.z (((i+1:Nat):Int)))])] 2000 [0,1] [1,8,63,64,65] r (by kernel_rfl) (U h6 (U (aN ((i:Nat):Int)) (U (rO vB) (U (jj:cV Tryd.prog 54) (U ((by kernel_rfl):iU Tryd.prog 54=true) (U ((by first | rfl | (simp [af,strs];done) | (simp [af,strs];omega)):((x++cu (q.take i)).length)=(af (x++cu (q.take i)):List (List DV)).length) (U ((by first | omega | (simp [af];omega)):(2*(((x++cu (q.take i)).length)+([32]:List UInt8).length)+192)*1≤281474976710656) (U ((by first | omega | (simp [af];omega)):((x++cu (q.take i)).length)+([32]:List UInt8).length<4611686018427387904) (U bH (U (jj:cV Tryd.prog 54) (U ((by kernel_rfl):iU Tryd.prog 54=true) (U ((by first | rfl | (simp [af,strs];done) | (simp [af,strs];omega)):((x++cu (q.take i)).length+([32]:List UInt8).length)=(af (x++cu (q.take i))++af [32]:List (List DV)).length) (U ((by first | omega | (simp [af];omega)):(2*(((x++cu (q.take i)).length+([32]:List UInt8).length)+(qh).length)+192)*1≤281474976710656) (U ((by first | omega | (simp [af];omega)):((x++cu (q.take i)).length+([32]:List UInt8).length)+(qh).length<4611686018427387904) (U ((wi (by omega)):IntKind.i64.wrap ((((i:Nat):Int):Int)+1)=((i+1:Nat):Int)) trivial))))))))))))))) fun ac wd r=>jF (by omega) ac wd ⟨(by omega),r.cast rfl (by rw [EN vB];simp [af,Nat.add_assoc];omega)⟩
     | true=>
      have fx:=of_decide_eq_true h4
      exact absurd fx (by omega)
    | true=>
     have dX:=of_decide_eq_true h3
     obtain ⟨tJ,yN⟩:∃ y_,(x::q)[i]?=some y_:=⟨_,List.getElem?_eq_getElem (by simp;omega)⟩
     have mF:=zb yN
     have dL:=rS (x::q) (i+1)
     have eh:=((wi (by omega)):IntKind.i64.wrap ((9223372036854775807:Int)-((q.length+((x::q).take i).flatten.length:Nat):Int))=9223372036854775807-((q.length+((x::q).take i).flatten.length:Nat):Int))
     cases h7:(decide ((9223372036854775807-((q.length+((x::q).take i).flatten.length:Nat):Int):Int)<((tJ.length:Nat):Int))) with
     | false=>
      have eA:=of_decide_eq_false h7
      exact cT (todo':=hd Tryd.f42 0) tk mo hK [(12,[(0,.b true)]),(13,[(0,.ix (i) [.v (.string ⟨tJ.toArray⟩)])]),(14,[(3,.z (9223372036854775807-((q.length+((x::q).take i).flatten.length:Nat):Int))),(4,.b false)]),(16,[(3,.z (((q.length+((x::q).take (i+1)).flatten.length:Nat):Int)))]),(17,[(0,.z (((i+1:Nat):Int)))])] 2000 [] [0,1,5,39,40,41] r (by kernel_rfl) (U h3 (U (aN ((i:Nat):Int)) (U (rO yN) (U eh (U h7 (U ((wi (by omega)):IntKind.i64.wrap ((((q.length+((x::q).take i).flatten.length:Nat):Int):Int)+((tJ.length:Nat):Int))=((q.length+((x::q).take (i+1)).flatten.length:Nat):Int)) (U ((wi (by omega)):IntKind.i64.wrap ((((i:Nat):Int):Int)+1)=((i+1:Nat):Int)) trivial))))))) fun ac wd r=>b6 (by omega) ac wd ⟨(by omega),r⟩
     | true=>
      have eA:=of_decide_eq_true h7
      exact absurd eA (by omega)
   | true=>
    have dG:=of_decide_eq_true h2
    exact absurd dG (Gi (by omega) (by omega))
  | true=>
   have bW:=eq_of_beq h1
   exact absurd bW (by omega)
 | true=>
  have bw:=eq_of_beq h0
  exact absurd bw (by omega)
set_option maxRecDepth 100000 in
theorem HS (x:List UInt8):ay Tryd.prog 42 [.d (.ro 1 (strs [x])),.d (.v (.string ⟨([32]).toArray⟩))] (.v (.string ⟨x.toArray⟩)):=by
 refine ay.intro (by kernel_rfl) rfl rfl 75 rfl rfl fun w0 K ac hK r=>?_
 rw [show (.v (.string ⟨x.toArray⟩):DV)=.v (.string ⟨x.toArray⟩) from rfl]
 exact br tk mo hK rfl [(1,[(1,.z (1))]),(5,[(1,.ix (0) [.v (.string ⟨x.toArray⟩)])])] 2000 r (by kernel_rfl) (U ((by simp [strs]):(((strs [x]).length:Nat):Int)=1) (U (rfl:(0)=((0:Nat):Int)) (U (rfl:(strs [x])[0]?=some [.v (.string ⟨x.toArray⟩)]) trivial)))
def bc:List (List UInt8)→List UInt8
 | []=>[]
 | x::r=>x++cu r
theorem vC (x:List UInt8) (r:List (List UInt8)) (hl:r.length≤1000000) (hb:(x::r).flatten.length≤1073741824):ay Tryd.prog 42 [.d (.ro 1 (strs (x::r))),.d (.v (.string ⟨[32].toArray⟩))] (.v (.string ⟨(bc (x::r)).toArray⟩)):=by
 cases r with
 | nil=>have h:=HS x;rw [show bc [x]=x from by simp [bc,cu]];exact h
 | cons y r=>exact Gj x (y::r) (by simp) hl hb
end Go.Proofs.YtcnpikbbmbombaaDoor
namespace Go.Proofs.YtcnpikbbmbombaaDoor
open Go.RowKit
theorem D0 (b j:Nat):(⟨b,0,none⟩:Addr).add j=⟨b,j,none⟩:=by rw [Go.Lib.add_plain];simp
def ki (w:World):Prop:=∀ i,i<20→w.cell? ⟨1,i,none⟩=some (.int .u64 ((10 ^ i:Nat):Int))
theorem ki.alloc {w:World} (h:ki w) (o:Obj):ki (w.alloc o):=fun i hi=>by
 have:=h i hi
 have g:Gr w (w.alloc o):=Gr.alloc w o
 exact g.sc this
open Go.Lib in
set_option maxHeartbeats 6400000 in
set_option maxRecDepth 100000 in
theorem I8 (u:Nat) (h1:1≤u) (h2:u<18446744073709551616) (w:World) (mh:ki w):Calls Tryd.prog 72 #[.int .u64 u] w fun e w'=>e=.returned (.int .i64 (nDigits u))∧w'=w:=by
 have mixed:(Tryd.prog).follows .mixedOrders=true:=by kernel_rfl
 have t0:=Tryd.underlying0;have a0:=Tryd.isAgg0;have z0:=Tryd.sizeOf0;have v0:=Tryd.zeroValue0;have t3:=Tryd.underlying3;have a3:=Tryd.isAgg3;have z3:=Tryd.sizeOf3;have v3:=Tryd.zeroValue3;have t4:=Tryd.underlying4;have a4:=Tryd.isAgg4;have z4:=Tryd.sizeOf4;have v4:=Tryd.zeroValue4;have t43:=Tryd.underlying43;have Mw:=Tryd.isAgg43;have Mx:=Tryd.sizeOf43;have My:=Tryd.zeroValue43;have t139:=Tryd.underlying139;have a139:=Tryd.isAgg139;have z139:=Tryd.sizeOf139;have v139:=Tryd.zeroValue139
 have eL:∀ args w,(callFunc 82 args).run Tryd.prog w=.ok (.enter 82 args) w:=enters_of Tryd.func82 (by kernel_rfl) rfl
 have eP:∀ args w,(callFunc 81 args).run Tryd.prog w=.ok (.enter 81 args) w:=enters_of Tryd.func81 (by kernel_rfl) rfl
 have e2:∀ args w,(callFunc 83 args).run Tryd.prog w=.ok (.enter 83 args) w:=enters_of Tryd.func83 (by kernel_rfl) rfl
 obtain ⟨fM,Mz⟩:=numDigits_eq u h1 h2
 have hL:Go.Lib.bitLen u≤64:=bitLen_le u 64 (Nat.le_refl _) h2
 have jG:w.cell? ⟨1,l10 (Go.Lib.bitLen u),none⟩=some (.int .u64 ((10 ^ l10 (Go.Lib.bitLen u):Nat):Int)):=mh _ (by omega)
 have MA:((u:Int)).toNat=u:=by omega
 generalize hq:l10 (Go.Lib.bitLen u)=q at fM Mz jG
 generalize hT:10 ^ q=T at fM jG
 have NQ:q<20:=by omega
 have MB:=Go.Lib.hid fM
 clear fM mh
 go_enter Tryd.func72,Tryd.ntmps72
 go_wp2_with (first
  | (go_at_fn 82;refine (Tryd.bits_Len64 _ _ (by omega) (by omega)).mono ?_;rintro e w' ⟨rfl,rfl⟩)
  | (go_at_fn 81;refine (Tryd.internal_strconv_log10Pow2 _ (by first | exact hL | (rw [MA];exact hL)) _).mono ?_;rintro e w' ⟨rfl,rfl⟩)
  | (go_at_fn 83;refine (Tryd.internal_strconv_bool2_int _ _).mono ?_;rintro e w' ⟨rfl,rfl⟩))
 all_goals go_ret
 all_goals (
  refine ⟨?_,rfl⟩
  have fM:=MB.out
  congr 2
  split at fM<;>simp_all<;>omega)
open Go.Lib Go.Sort in
set_option maxHeartbeats 6400000 in
set_option maxRecDepth 100000 in
theorem HT (u:Nat) (kX:u<18446744073709551616) (w:World) (mh:ki w):
  Calls Tryd.prog 62 #[.int .u64 u,.int .i64 10] w fun e w'=>e=.returned (.string ⟨(decDigits u).toArray⟩)∧∃ k os,w'=grow (w.drewN k) os:=by
 have mixed:(Tryd.prog).follows .mixedOrders=true:=by kernel_rfl
 have t0:=Tryd.underlying0;have a0:=Tryd.isAgg0;have z0:=Tryd.sizeOf0;have v0:=Tryd.zeroValue0;have t3:=Tryd.underlying3;have a3:=Tryd.isAgg3;have z3:=Tryd.sizeOf3;have v3:=Tryd.zeroValue3;have t4:=Tryd.underlying4;have a4:=Tryd.isAgg4;have z4:=Tryd.sizeOf4;have v4:=Tryd.zeroValue4;have t5:=Tryd.underlying5;have a5:=Tryd.isAgg5;have z5:=Tryd.sizeOf5;have v5:=Tryd.zeroValue5;have t9:=Tryd.underlying9;have a9:=Tryd.isAgg9;have z9:=Tryd.sizeOf9;have v9:=Tryd.zeroValue9;have t29:=Tryd.underlying29;have NR:=Tryd.isAgg29;have NS:=Tryd.sizeOf29;have NT:=Tryd.zeroValue29;have t43:=Tryd.underlying43;have Mw:=Tryd.isAgg43;have Mx:=Tryd.sizeOf43;have My:=Tryd.zeroValue43;have t128:=Tryd.underlying128;have M7:=Tryd.isAgg128;have M8:=Tryd.sizeOf128;have M9:=Tryd.zeroValue128
 have eS:∀ args w,(callFunc 71 args).run Tryd.prog w=.ok (.enter 71 args) w:=enters_of Tryd.func71 (by kernel_rfl) rfl
 have eN:∀ args w,(callFunc 72 args).run Tryd.prog w=.ok (.enter 72 args) w:=enters_of Tryd.func72 (by kernel_rfl) rfl
 have eB:∀ args w,(callFunc 73 args).run Tryd.prog w=.ok (.enter 73 args) w:=enters_of Tryd.func73 (by kernel_rfl) rfl
 by_cases hs:u<100
 ·go_enter Tryd.func62,Tryd.ntmps62
  go_wp2_with (go_at_fn 71;refine (Tryd.internal_strconv_small u hs _).mono ?_;rintro e w' ⟨rfl,rfl⟩)
  go_ret
  exact ⟨rfl,0,#[],by simp [World.drewN_zero]⟩
 ·have CR:1≤u:=by omega
  have MV:nDigits u≤20:=by have:=numDigits_eq u CR kX;split at this<;>omega
  have xV:nDigits u≤23:=by omega
  have dw:(Tryd.prog).arrayLen 128=24:=by kernel_rfl
  have Na:∀ W,(Instr.sliceAt 128 (.pointer (some ⟨w.heap.size,0,none⟩)) none (some (.int .i64 (nDigits u:Int))) none).run Tryd.prog W=.ok (.slice (some ⟨w.heap.size,0,none⟩) (nDigits u) 24) W:=fun W=>by
   rw [run_sliceAt_array_h W 128 ⟨w.heap.size,0,none⟩ (by kernel_rfl) .i64 (nDigits u:Int) (by omega) (by rw [dw];omega)]
   go_simp
  have x8:Go.Sort.Holds (fun (b:UInt8)=>Value.int .u8 (b.toNat:Int)) (w.alloc (.cells zeros24 128)) w.heap.size 0 (Array.replicate (nDigits u) (0:UInt8)):=fun j hj=>by
   have iu:j<nDigits u:=by simpa using hj
   refine ⟨?_,World.frozen?_alloc_new _ _ _ _⟩
   rw [World.cell?_alloc_new,zeros24_at _ (by omega),getElem!_pos _ j hj]
   simp
  have B4:=Tryd.internal_strconv_formatBase10 w.heap.size 0 24 u (Array.replicate (nDigits u) 0) (w.alloc (.cells zeros24 128)) x8 (by rw [Array.size_replicate];exact lt_pow_nDigits u) kX (by rw [Array.size_replicate];omega)
  rw [Array.size_replicate] at B4
  have MC:=Go.Lib.hid x8
  clear x8 dw
  go_enter Tryd.func62,Tryd.ntmps62
  go_wp2_with (go_at_fn 72;refine (I8 u CR kX _ (mh.alloc _)).mono ?_;rintro e w' ⟨rfl,rfl⟩)
  go_at_fn 73
  refine B4.mono ?_
  rintro e w' ⟨rfl,k,v',dk,rfl,hF⟩
  have NU:(convert 29 9 (.slice (some ⟨w.heap.size,0,none⟩) (nDigits u) 24)).run Tryd.prog ((putRow (fun (b:UInt8)=>Value.int .u8 (b.toNat:Int)) (w.alloc (.cells zeros24 128)) w.heap.size 0 dk).drewN k)=.ok (.string ⟨(decDigits u).toArray⟩) ((putRow (fun (b:UInt8)=>Value.int .u8 (b.toNat:Int)) (w.alloc (.cells zeros24 128)) w.heap.size 0 dk).drewN k):=by
   have h:=run_convert_bytes_back (P:=Tryd.prog) ((putRow (fun (b:UInt8)=>Value.int .u8 (b.toNat:Int)) (w.alloc (.cells zeros24 128)) w.heap.size 0 dk).drewN k) 29 9 5 ⟨w.heap.size,0,none⟩ 24 (decDigits u) t29 t5 t9 (fun j hj=>by
    rw [row_is_numeral hF j hj,add_plain,World.cell?_drewN]
    exact cell?_putRow (fun (b:UInt8)=>Value.int .u8 (b.toNat:Int)) _ w.heap.size 0 _ dk MC.out (by rw [hF.size,Array.size_replicate]) j (by rw [hF.size];rw [decDigits_length] at hj;exact hj))
   rw [decDigits_length] at h
   exact h
  go_wp2
  go_ret
  refine ⟨rfl,k,?_⟩
  rw [alloc_eq_grow]
  obtain ⟨MD,-,e⟩:=putRow_grow_new (fun (b:UInt8)=>Value.int .u8 (b.toNat:Int)) w #[.cells zeros24 128] w.heap.size 0 dk (Nat.le_refl _)
  exact ⟨MD,by rw [e];rfl⟩
open Go.Lib Go.Sort in
set_option maxHeartbeats 6400000 in
set_option maxRecDepth 100000 in
theorem Gk (u:Nat) (kX:u<18446744073709551616) (w:World) (mh:ki w):
  Calls Tryd.prog 44 #[.int .u64 u,.int .i64 10] w fun e w'=>e=.returned (.string ⟨(decDigits u).toArray⟩)∧Below w.heap.size w w':=by
 have mixed:(Tryd.prog).follows .mixedOrders=true:=by kernel_rfl
 have t9:=Tryd.underlying9;have a9:=Tryd.isAgg9;have z9:=Tryd.sizeOf9;have v9:=Tryd.zeroValue9
 have eF:∀ args w,(callFunc 62 args).run Tryd.prog w=.ok (.enter 62 args) w:=enters_of Tryd.func62 (by kernel_rfl) rfl
 go_enter Tryd.func44,Tryd.ntmps44
 go_wp2_with (go_at_fn 62;refine (HT u kX _ mh).mono ?_;rintro e w' ⟨rfl,k,os,rfl⟩)
 go_ret
 exact ⟨rfl,rfl,rfl,rfl,by simp [grow],fun k hk=>heap_grow_old _ _ hk⟩
def aL:List DV:=(List.range 20).map fun i=>DV.u (10 ^ i)
theorem ki.of {K:World→Prop} {β:Beta} {u:Nat} {H:ak} (h:bg K β u (.gw 1 aL) H) {w:World} (hw:K w):ki w:=by
 cases h with
 | gw X hl hc hr=>
  intro i hi
  have h1:aL[i]?=some (DV.u (10 ^ i)):=by simp [aL,hi]
  have aF:i<X.length:=by rw [hl];simp [aL];omega
  have h2:=hr i _ X[i] h1 (List.getElem?_eq_getElem aF)
  have h3:=hc w hw i X[i] (List.getElem?_eq_getElem aF)
  rw [D0] at h3
  have h4:X[i]=.int .u64 ((10 ^ i:Nat):Int):=by
   generalize X[i]=y at h2
   cases h2;rfl
  rw [h3,h4]
theorem qv (u:Nat) (kX:u<18446744073709551616):ax Tryd.prog 44 [.d (.v (.int .u64 u)),.d (.v (.int .i64 10))] [.gw 1 aL] (.d (.v (.string ⟨(Go.Lib.decDigits u).toArray⟩))) [.gw 1 aL]:=by
 refine ⟨by kernel_rfl,fun {D w0 K0 β F I w} ys R hK hl hr=>?_⟩
 have key:∀ {K:World→Prop} {β:Beta} {a b:Value},ao K β (.d (.v a)) b→b=a:=fun h=>by cases h with | d h=>cases h;rfl
 obtain ⟨y0,y1,rfl⟩:∃ a b,ys=[a,b]:=by
  match ys,hl with
  | [a,b],_=>exact ⟨a,b,rfl⟩
 obtain rfl:=key (hr 0 _ y0 rfl rfl)
 obtain rfl:=key (hr 1 _ y1 rfl rfl)
 have mh:ki w:=ki.of (R.blk 0 _ rfl) ⟨hK w R.st.kp,(Holds.app.1 R.st.holds).2⟩
 refine (Gk u kX w mh).mono ?_
 rintro e w' ⟨rfl,g⟩
 exact ⟨_,rfl,β,F,I,⟨R.len,R.blk,R.st.gr g⟩,Ext.refl _,bE.refl _,.d (.v _)⟩
theorem I9 (n:Nat) (h:n<100):ay Tryd.prog 41 [.d (.v (.int .i64 n))] (.v (.string ⟨(Go.Lib.decDigits n).toArray⟩)):=
 ay.pM (by kernel_rfl) (zs:=[.int .i64 n]) fun w=>(Tryd.strconv_Itoa_small n h w).mono fun e w' ⟨he,hw⟩=>⟨he,hw▸Below.refl _ _⟩
end Go.Proofs.YtcnpikbbmbombaaDoor
