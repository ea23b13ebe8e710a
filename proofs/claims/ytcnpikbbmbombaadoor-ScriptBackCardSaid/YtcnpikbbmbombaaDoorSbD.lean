/-
  scriptBack_card, part 4 of 6: merged by program from the texts that it needs.
-/
import Derived.Test.YtcnpikbbmbombaaDoorSbC
set_option linter.unusedSimpArgs false
set_option linter.unusedVariables false
set_option linter.unnecessarySimpa false
namespace Go.Proofs.YtcnpikbbmbombaaDoor
open Go.RowKit
def eE (i:Nat) (x:Int) (c:UInt8):Int:=IntKind.u64.wrap ((BitVec.ofInt IntKind.u64.bits x ||| BitVec.ofInt IntKind.u64.bits (IntKind.u64.wrap (IntKind.u64.wrap (IntKind.u8.wrap ((BitVec.ofInt IntKind.u8.bits (c.toNat:Int) &&& BitVec.ofInt IntKind.u8.bits 127).toNat:Int))*2 ^ (min (((7*i:Nat):Int)).toNat IntKind.u64.bits)))).toNat:Int)
def fh:List UInt8→Nat→Int→Int×Nat
 | [],_,_=>(0,0)
 | c::r,i,x=>if i=9∧1<c.toNat then (0,0) else if c.toNat<128 then (if c.toNat=0∧0<i then (0,0) else (eE i x c,i+1)) else fh r (i+1) (eE i x c)
theorem rH {l:List UInt8} {i:Nat} {c:UInt8} (h:l[i]?=some c):l.drop i=c::l.drop (i+1):=by
 obtain ⟨aI,rfl⟩:=List.getElem?_eq_some_iff.1 h
 exact List.drop_eq_getElem_cons aI
structure fS (l:List UInt8) (i:Nat) (x:Int):Prop where
 le:i≤l.length
 nine:i≤9∨l.length≤i
 eq:fh (l.drop i) i x=fh l 0 0
theorem fS.start (l:List UInt8):fS l 0 0:=⟨Nat.zero_le _,Or.inl (by omega),by rw [List.drop_zero]⟩
section
variable {l:List UInt8} {i:Nat} {x:Int} {c:UInt8}
theorem fS.wide (h:fS l i x) (hc:l[i]?=some c) (h9:i=9) (h1:1<c.toNat):fh l 0 0=(0,0):=by
 rw [← h.eq,rH hc];unfold fh;rw [if_pos ⟨h9,h1⟩]
theorem fS.zero (h:fS l i x) (hc:l[i]?=some c) (h9:¬ (i=9∧1<c.toNat)) (h1:c.toNat=0) (h2:0<i):fh l 0 0=(0,0):=by
 rw [← h.eq,rH hc];unfold fh;rw [if_neg h9,if_pos (by omega),if_pos ⟨h1,h2⟩]
theorem fS.last (h:fS l i x) (hc:l[i]?=some c) (h9:¬ (i=9∧1<c.toNat)) (h1:c.toNat<128) (h2:¬ (c.toNat=0∧0<i)):fh l 0 0=(eE i x c,i+1):=by
 rw [← h.eq,rH hc];unfold fh;rw [if_neg h9,if_pos h1,if_neg h2]
theorem fS.next (h:fS l i x) (hc:l[i]?=some c) (h9:¬ (i=9∧1<c.toNat)) (h1:¬ c.toNat<128):fS l (i+1) (eE i x c) where
 le:=(List.getElem?_eq_some_iff.1 hc).1
 nine:=by
  rcases h.nine with h | h
  ·left;omega
  ·exact absurd (List.getElem?_eq_some_iff.1 hc).1 (by omega)
 eq:=by rw [← h.eq,rH hc];conv=>rhs;unfold fh;rw [if_neg h9,if_neg h1]
theorem fS.none (h:fS l i x) (hi:¬ i<l.length):fh l 0 0=(0,0):=by
 rw [← h.eq,List.drop_of_length_le (by omega)];rfl
theorem fS.i9 (h:fS l i x) (hc:l[i]?=some c):i≤9:=by
 rcases h.nine with h | h
 ·exact h
 ·exact absurd (List.getElem?_eq_some_iff.1 hc).1 (by omega)
end
theorem c9 {p q:Int×Nat} (h:p=q):AV.tu [.d (.v (.int .u64 p.1)),.n p.2]=.tu [.d (.v (.int .u64 q.1)),.n q.2]:=by rw [h]
set_option maxRecDepth 100000 in
theorem IT (l:List UInt8) (n:Nat) (hn:n≤l.length):aA Tryd.prog 65 [.pt 0 0,.n n] [.bx 102 [.d (.ro 1 (af l)),.d (.v (.bool false))]] (.d (.ro 1 (af (l.take n)))) ([.bx 102 [.d (.ro 1 (af (l.drop n))),.d (.v (.bool false))]]):=by
 refine aA.intro (by kernel_rfl) rfl rfl 43 rfl rfl fun D w0 K bs ac wd hK (al:bs.m=1) r=>?_
 cases h0:(decide ((((n:Nat):Int):Int)<0)) with
 | false=>
  have bH:=of_decide_eq_false h0
  have aZ:=((by first | rfl | simp [af,ah,ints,steps,strs]):(((af l).length:Nat):Int)=((l.length:Nat):Int))
  cases h1:(decide ((((l.length:Nat):Int):Int)<((n:Nat):Int))) with
  | false=>
   have cm:=of_decide_eq_false h1
   refine a8 (y:=.d (.ro 1 (List.take (n) (af l)))) (N':=[.bx 102 [.d (.ro 1 (List.drop (n) (af l))),.d (.v (.bool false))]]) ((by rw [yW])) ((by rw [yX])) ?_
   exact a7 tk mo hK rfl al [(1,[(6,.b false),(14,.z (((l.length:Nat):Int))),(15,.b false)]),(4,[(6,.n2 (n) (0))]),(5,[(6,.n2 (0) (n))])] 2000 [0] r (by kernel_rfl) (U h0 (U aZ (U h1 (U (aP ((n:Nat):Int)) (U (aP ((n:Nat):Int)) (U ((by first | omega | (simp [af,ah,ints,steps,strs];done) | (simp [af,ah,ints,steps,strs];omega)):(n)≤(af l).length) (U (aP ((n:Nat):Int)) (U ((by first | omega | (simp [af,ah,ints,steps,strs];done) | (simp [af,ah,ints,steps,strs];omega)):(n)≤(af l).length) trivial))))))))
  | true=>
   have cm:=of_decide_eq_true h1
   exact absurd cm (by omega)
 | true=>
  have bH:=of_decide_eq_true h0
  exact absurd bH (by omega)
set_option maxRecDepth 100000 in
theorem Hl (l:List UInt8) (n:Nat) (hn:l.length<n):aA Tryd.prog 65 [.pt 0 0,.n n] [.bx 102 [.d (.ro 1 (af l)),.d (.v (.bool false))]] (.d (.v (.slice none 0 0))) ([.bx 102 [.d (.ro 1 (af l)),.d (.v (.bool true))]]):=by
 refine aA.intro (by kernel_rfl) rfl rfl 43 rfl rfl fun D w0 K bs ac wd hK (al:bs.m=1) r=>?_
 cases h0:(decide ((((n:Nat):Int):Int)<0)) with
 | false=>
  have bH:=of_decide_eq_false h0
  have aZ:=((by first | rfl | simp [af,ah,ints,steps,strs]):(((af l).length:Nat):Int)=((l.length:Nat):Int))
  cases h1:(decide ((((l.length:Nat):Int):Int)<((n:Nat):Int))) with
  | false=>
   have cm:=of_decide_eq_false h1
   exact absurd cm (by omega)
  | true=>
   have cm:=of_decide_eq_true h1
   refine a8 (y:=.d (.v (.slice none 0 0))) (N':=[.bx 102 [.d (.ro 1 (af l)),.d (.v (.bool true))]]) (rfl) (rfl) ?_
   exact a7 tk mo hK rfl al [(1,[(6,.b false),(14,.z (((l.length:Nat):Int))),(15,.b true)])] 2000 [0] r (by kernel_rfl) (U h0 (U aZ (U h1 trivial)))
 | true=>
  have bH:=of_decide_eq_true h0
  exact absurd bH (by omega)
set_option maxRecDepth 100000 in
theorem IU (l:List UInt8) (z:Int) (hz:z<0):aA Tryd.prog 65 [.pt 0 0,.z z] [.bx 102 [.d (.ro 1 (af l)),.d (.v (.bool false))]] (.d (.v (.slice none 0 0))) ([.bx 102 [.d (.ro 1 (af l)),.d (.v (.bool true))]]):=by
 refine aA.intro (by kernel_rfl) rfl rfl 43 rfl rfl fun D w0 K bs ac wd hK (al:bs.m=1) r=>?_
 cases h0:(decide ((z:Int)<0)) with
 | false=>
  have bH:=of_decide_eq_false h0
  exact absurd bH (by omega)
 | true=>
  have bH:=of_decide_eq_true h0
  refine a8 (y:=.d (.v (.slice none 0 0))) (N':=[.bx 102 [.d (.ro 1 (af l)),.d (.v (.bool true))]]) (rfl) (rfl) ?_
  exact a7 tk mo hK rfl al [(1,[(6,.b true)])] 2000 [0] r (by kernel_rfl) (U h0 trivial)
set_option maxRecDepth 100000 in
theorem IV (l:List UInt8) (z:Int):aA Tryd.prog 65 [.pt 0 0,.z z] [.bx 102 [.d (.ro 1 (af l)),.d (.v (.bool true))]] (.d (.v (.slice none 0 0))) ([.bx 102 [.d (.ro 1 (af l)),.d (.v (.bool true))]]):=by
 refine aA.intro (by kernel_rfl) rfl rfl 43 rfl rfl fun D w0 K bs ac wd hK (al:bs.m=1) r=>?_
 refine a8 (y:=.d (.v (.slice none 0 0))) (N':=[.bx 102 [.d (.ro 1 (af l)),.d (.v (.bool true))]]) (rfl) (rfl) ?_
 exact a7 tk mo hK rfl al [] 2000 [0] r (by kernel_rfl) trivial
set_option maxRecDepth 100000 in
theorem Kd (l:List UInt8):aA Tryd.prog 64 [.pt 0 0] [.bx 102 [.d (.ro 1 (af l)),.d (.v (.bool true))]] (.tu [.d (.v (.int .u64 0)),.d (.v (.int .i64 0))]) ([.bx 102 [.d (.ro 1 (af l)),.d (.v (.bool true))]]):=by
 refine aA.intro (by kernel_rfl) rfl rfl 47 rfl rfl fun D w0 K bs ac wd hK (al:bs.m=1) r=>?_
 refine a8 (y:=.tu [.d (.v (.int .u64 0)),.z 0]) (N':=[.bx 102 [.d (.ro 1 (af l)),.d (.v (.bool true))]]) (rfl) (rfl) ?_
 exact a7 tk mo hK rfl al [] 2000 [0] r (by kernel_rfl) trivial
set_option maxRecDepth 100000 in
theorem Lt (l:List UInt8):aA Tryd.prog 64 [.pt 0 0] [.bx 102 [.d (.ro 1 (af l)),.d (.v (.bool false))]] (.tu [.d (.v (.int .u64 (fh l 0 0).1)),.n (fh l 0 0).2]) ([.bx 102 [.d (.ro 1 (af l)),.d (.v (.bool false))]]):=by
 refine aA.intro (by kernel_rfl) rfl rfl 47 rfl rfl fun D w0 K bs ac wd hK (al:bs.m=1) r=>?_
 refine cd (todo':=hd Tryd.f64 0) (E':=[(14,.d (.ro 1 (af l))),(15,.n l.length),(16,.n 0),(4,.d (.v (.int .u64 (0))))]) (M':=[.bx 102 [.d (.ro 1 (af l)),.d (.v (.bool false))]]) tk mo hK al [(4,[(4,.z (((l.length:Nat):Int)))])] 2000 [0] [14,15,16,4] r (by kernel_rfl) (U ((by first | rfl | simp [af,ah,ints,steps,strs]):(((af l).length:Nat):Int)=((l.length:Nat):Int)) trivial) fun ac wd r=>?_
 refine aD.rounds (Φ:=fun (i:Nat) ac wd=>∃ x:Int,(fS l i x)∧RB D w0 K 47 bs [(14,.d (.ro 1 (af l))),(15,.n l.length),(16,.n i),(4,.d (.v (.int .u64 (x))))] [.bx 102 [.d (.ro 1 (af l)),.d (.v (.bool false))]] ac wd) (l.length) ?_ (Nat.zero_le _) ⟨0,fS.start l,r⟩
 clear r
 rintro i eA bP ac wd ⟨x,ao,r⟩
 have Pc:=ao.le
 cases h0:(decide ((((i:Nat):Int):Int)<((l.length:Nat):Int))) with
 | false=>
  have bH:=of_decide_eq_false h0
  refine a8 (y:=.tu [.d (.v (.int .u64 0)),.z 0]) (N':=[.bx 102 [.d (.ro 1 (af l)),.d (.v (.bool false))]]) ((by first | exact (c9 (ao.none (by omega))) | exact (c9 (ao.wide cQ (by omega) (by omega))) | exact (c9 (ao.zero cQ (by rintro ⟨_,_⟩;omega) (by omega) (by omega))) | exact (c9 (ao.last cQ (by rintro ⟨_,_⟩;omega) (by omega) (by rintro ⟨_,_⟩;omega))))) (rfl) ?_
  exact a7 tk mo hK rfl al [(5,[(0,.b false)])] 2000 [0] r (by kernel_rfl) (U h0 trivial)
 | true=>
  have bH:=of_decide_eq_true h0
  obtain ⟨bF,cQ⟩:∃ x,l[i]?=some x:=⟨_,List.getElem?_eq_getElem (by omega)⟩
  have Pd:=ao.i9 cQ
  cases h1:((((i:Nat):Int):Int)==9) with
  | false=>
   have cm:=ne_of_beq_false h1
   have aZ:=(rfl:IntKind.u8.wrap ((BitVec.ofInt IntKind.u8.bits (((bF.toNat:Nat):Int)) &&& BitVec.ofInt IntKind.u8.bits (127)).toNat:Int)=IntKind.u8.wrap ((BitVec.ofInt IntKind.u8.bits (((bF.toNat:Nat):Int)) &&& BitVec.ofInt IntKind.u8.bits (127)).toNat:Int))
   have bO:=(rfl:IntKind.u64.wrap (IntKind.u8.wrap ((BitVec.ofInt IntKind.u8.bits (((bF.toNat:Nat):Int)) &&& BitVec.ofInt IntKind.u8.bits (127)).toNat:Int))=IntKind.u64.wrap (IntKind.u8.wrap ((BitVec.ofInt IntKind.u8.bits (((bF.toNat:Nat):Int)) &&& BitVec.ofInt IntKind.u8.bits (127)).toNat:Int)))
   have cL:=((wi (by omega)):IntKind.i64.wrap ((7:Int)*((i:Nat):Int))=((7*i:Nat):Int))
   have dR:=(rfl:IntKind.u64.wrap ((IntKind.u64.wrap (IntKind.u8.wrap ((BitVec.ofInt IntKind.u8.bits (((bF.toNat:Nat):Int)) &&& BitVec.ofInt IntKind.u8.bits (127)).toNat:Int)):Int)*2 ^ (min (((7*i:Nat):Int):Int).toNat IntKind.u64.bits))=IntKind.u64.wrap ((IntKind.u64.wrap (IntKind.u8.wrap ((BitVec.ofInt IntKind.u8.bits (((bF.toNat:Nat):Int)) &&& BitVec.ofInt IntKind.u8.bits (127)).toNat:Int)):Int)*2 ^ (min (((7*i:Nat):Int):Int).toNat IntKind.u64.bits)))
   have ic:=(rfl:IntKind.u64.wrap ((BitVec.ofInt IntKind.u64.bits (x) ||| BitVec.ofInt IntKind.u64.bits (IntKind.u64.wrap ((IntKind.u64.wrap (IntKind.u8.wrap ((BitVec.ofInt IntKind.u8.bits (((bF.toNat:Nat):Int)) &&& BitVec.ofInt IntKind.u8.bits (127)).toNat:Int)):Int)*2 ^ (min (((7*i:Nat):Int):Int).toNat IntKind.u64.bits)))).toNat:Int)=eE i x bF)
   cases h2:(decide ((((bF.toNat:Nat):Int):Int)<128)) with
   | false=>
    have c8:=of_decide_eq_false h2
    exact cd (todo':=hd Tryd.f64 0) tk mo hK al [(5,[(0,.b true)]),(6,[(1,.ix (i) [.v (.int .u8 (((bF.toNat:Nat):Int)))])]),(7,[(1,.b false)]),(9,[(2,.z (IntKind.u8.wrap ((BitVec.ofInt IntKind.u8.bits (((bF.toNat:Nat):Int)) &&& BitVec.ofInt IntKind.u8.bits (127)).toNat:Int))),(3,.z (IntKind.u64.wrap (IntKind.u8.wrap ((BitVec.ofInt IntKind.u8.bits (((bF.toNat:Nat):Int)) &&& BitVec.ofInt IntKind.u8.bits (127)).toNat:Int)))),(5,.z (((7*i:Nat):Int))),(6,.z (IntKind.u64.wrap ((IntKind.u64.wrap (IntKind.u8.wrap ((BitVec.ofInt IntKind.u8.bits (((bF.toNat:Nat):Int)) &&& BitVec.ofInt IntKind.u8.bits (127)).toNat:Int)):Int)*2 ^ (min (((7*i:Nat):Int):Int).toNat IntKind.u64.bits)))),(7,.z (eE i x bF))]),(10,[(1,.b false)]),(14,[(0,.z (((i+1:Nat):Int)))])] 2000 [0] [14,15,16,4] r (by kernel_rfl) (U h0 (U (aP ((i:Nat):Int)) (U (kf cQ) (U h1 (U aZ (U bO (U cL (U dR (U ((by first | decide | omega):(0:Int)≤((7*i:Nat):Int)) (U ic (U h2 (U ((wi (by omega)):IntKind.i64.wrap ((((i:Nat):Int):Int)+1)=((i+1:Nat):Int)) trivial)))))))))))) fun ac wd r=>bP (by omega) ac wd ⟨eE i x bF,ao.next cQ (by rintro ⟨_,_⟩;omega) (by omega),r⟩
   | true=>
    have c8:=of_decide_eq_true h2
    cases h3:((((bF.toNat:Nat):Int):Int)==0) with
    | false=>
     have dQ:=ne_of_beq_false h3
     refine a8 (y:=.tu [.d (.v (.int .u64 (eE i x bF))),.n (i+1)]) (N':=[.bx 102 [.d (.ro 1 (af l)),.d (.v (.bool false))]]) ((by first | exact (c9 (ao.none (by omega))) | exact (c9 (ao.wide cQ (by omega) (by omega))) | exact (c9 (ao.zero cQ (by rintro ⟨_,_⟩;omega) (by omega) (by omega))) | exact (c9 (ao.last cQ (by rintro ⟨_,_⟩;omega) (by omega) (by rintro ⟨_,_⟩;omega))))) (rfl) ?_
     exact a7 tk mo hK rfl al [(5,[(0,.b true)]),(6,[(1,.ix (i) [.v (.int .u8 (((bF.toNat:Nat):Int)))])]),(7,[(1,.b false)]),(9,[(2,.z (IntKind.u8.wrap ((BitVec.ofInt IntKind.u8.bits (((bF.toNat:Nat):Int)) &&& BitVec.ofInt IntKind.u8.bits (127)).toNat:Int))),(3,.z (IntKind.u64.wrap (IntKind.u8.wrap ((BitVec.ofInt IntKind.u8.bits (((bF.toNat:Nat):Int)) &&& BitVec.ofInt IntKind.u8.bits (127)).toNat:Int)))),(5,.z (((7*i:Nat):Int))),(6,.z (IntKind.u64.wrap ((IntKind.u64.wrap (IntKind.u8.wrap ((BitVec.ofInt IntKind.u8.bits (((bF.toNat:Nat):Int)) &&& BitVec.ofInt IntKind.u8.bits (127)).toNat:Int)):Int)*2 ^ (min (((7*i:Nat):Int):Int).toNat IntKind.u64.bits)))),(7,.z (eE i x bF))]),(10,[(1,.b true)]),(11,[(1,.b false)]),(13,[(2,.z (((i+1:Nat):Int)))])] 2000 [0] r (by kernel_rfl) (U h0 (U (aP ((i:Nat):Int)) (U (kf cQ) (U h1 (U aZ (U bO (U cL (U dR (U ((by first | decide | omega):(0:Int)≤((7*i:Nat):Int)) (U ic (U h2 (U h3 (U ((wi (by omega)):IntKind.i64.wrap ((((i:Nat):Int):Int)+1)=((i+1:Nat):Int)) trivial)))))))))))))
    | true=>
     have dQ:=eq_of_beq h3
     cases h4:(decide ((0:Int)<((i:Nat):Int))) with
     | false=>
      have fk:=of_decide_eq_false h4
      refine a8 (y:=.tu [.d (.v (.int .u64 (eE i x bF))),.n (i+1)]) (N':=[.bx 102 [.d (.ro 1 (af l)),.d (.v (.bool false))]]) ((by first | exact (c9 (ao.none (by omega))) | exact (c9 (ao.wide cQ (by omega) (by omega))) | exact (c9 (ao.zero cQ (by rintro ⟨_,_⟩;omega) (by omega) (by omega))) | exact (c9 (ao.last cQ (by rintro ⟨_,_⟩;omega) (by omega) (by rintro ⟨_,_⟩;omega))))) (rfl) ?_
      exact a7 tk mo hK rfl al [(5,[(0,.b true)]),(6,[(1,.ix (i) [.v (.int .u8 (((bF.toNat:Nat):Int)))])]),(7,[(1,.b false)]),(9,[(2,.z (IntKind.u8.wrap ((BitVec.ofInt IntKind.u8.bits (((bF.toNat:Nat):Int)) &&& BitVec.ofInt IntKind.u8.bits (127)).toNat:Int))),(3,.z (IntKind.u64.wrap (IntKind.u8.wrap ((BitVec.ofInt IntKind.u8.bits (((bF.toNat:Nat):Int)) &&& BitVec.ofInt IntKind.u8.bits (127)).toNat:Int)))),(5,.z (((7*i:Nat):Int))),(6,.z (IntKind.u64.wrap ((IntKind.u64.wrap (IntKind.u8.wrap ((BitVec.ofInt IntKind.u8.bits (((bF.toNat:Nat):Int)) &&& BitVec.ofInt IntKind.u8.bits (127)).toNat:Int)):Int)*2 ^ (min (((7*i:Nat):Int):Int).toNat IntKind.u64.bits)))),(7,.z (eE i x bF))]),(10,[(1,.b true)]),(11,[(1,.b true),(4,.b false)]),(13,[(2,.z (((i+1:Nat):Int)))])] 2000 [0] r (by kernel_rfl) (U h0 (U (aP ((i:Nat):Int)) (U (kf cQ) (U h1 (U aZ (U bO (U cL (U dR (U ((by first | decide | omega):(0:Int)≤((7*i:Nat):Int)) (U ic (U h2 (U h3 (U h4 (U ((wi (by omega)):IntKind.i64.wrap ((((i:Nat):Int):Int)+1)=((i+1:Nat):Int)) trivial))))))))))))))
     | true=>
      have fk:=of_decide_eq_true h4
      refine a8 (y:=.tu [.d (.v (.int .u64 0)),.z 0]) (N':=[.bx 102 [.d (.ro 1 (af l)),.d (.v (.bool false))]]) ((by first | exact (c9 (ao.none (by omega))) | exact (c9 (ao.wide cQ (by omega) (by omega))) | exact (c9 (ao.zero cQ (by rintro ⟨_,_⟩;omega) (by omega) (by omega))) | exact (c9 (ao.last cQ (by rintro ⟨_,_⟩;omega) (by omega) (by rintro ⟨_,_⟩;omega))))) (rfl) ?_
      exact a7 tk mo hK rfl al [(5,[(0,.b true)]),(6,[(1,.ix (i) [.v (.int .u8 (((bF.toNat:Nat):Int)))])]),(7,[(1,.b false)]),(9,[(2,.z (IntKind.u8.wrap ((BitVec.ofInt IntKind.u8.bits (((bF.toNat:Nat):Int)) &&& BitVec.ofInt IntKind.u8.bits (127)).toNat:Int))),(3,.z (IntKind.u64.wrap (IntKind.u8.wrap ((BitVec.ofInt IntKind.u8.bits (((bF.toNat:Nat):Int)) &&& BitVec.ofInt IntKind.u8.bits (127)).toNat:Int)))),(5,.z (((7*i:Nat):Int))),(6,.z (IntKind.u64.wrap ((IntKind.u64.wrap (IntKind.u8.wrap ((BitVec.ofInt IntKind.u8.bits (((bF.toNat:Nat):Int)) &&& BitVec.ofInt IntKind.u8.bits (127)).toNat:Int)):Int)*2 ^ (min (((7*i:Nat):Int):Int).toNat IntKind.u64.bits)))),(7,.z (eE i x bF))]),(10,[(1,.b true)]),(11,[(1,.b true),(4,.b true)])] 2000 [0] r (by kernel_rfl) (U h0 (U (aP ((i:Nat):Int)) (U (kf cQ) (U h1 (U aZ (U bO (U cL (U dR (U ((by first | decide | omega):(0:Int)≤((7*i:Nat):Int)) (U ic (U h2 (U h3 (U h4 trivial)))))))))))))
  | true=>
   have cm:=eq_of_beq h1
   cases h5:(decide ((1:Int)<((bF.toNat:Nat):Int))) with
   | false=>
    have fL:=of_decide_eq_false h5
    have ie:=(rfl:IntKind.u8.wrap ((BitVec.ofInt IntKind.u8.bits (((bF.toNat:Nat):Int)) &&& BitVec.ofInt IntKind.u8.bits (127)).toNat:Int)=IntKind.u8.wrap ((BitVec.ofInt IntKind.u8.bits (((bF.toNat:Nat):Int)) &&& BitVec.ofInt IntKind.u8.bits (127)).toNat:Int))
    have eC:=(rfl:IntKind.u64.wrap (IntKind.u8.wrap ((BitVec.ofInt IntKind.u8.bits (((bF.toNat:Nat):Int)) &&& BitVec.ofInt IntKind.u8.bits (127)).toNat:Int))=IntKind.u64.wrap (IntKind.u8.wrap ((BitVec.ofInt IntKind.u8.bits (((bF.toNat:Nat):Int)) &&& BitVec.ofInt IntKind.u8.bits (127)).toNat:Int)))
    have fM:=((wi (by omega)):IntKind.i64.wrap ((7:Int)*((i:Nat):Int))=((7*i:Nat):Int))
    have fZ:=(rfl:IntKind.u64.wrap ((IntKind.u64.wrap (IntKind.u8.wrap ((BitVec.ofInt IntKind.u8.bits (((bF.toNat:Nat):Int)) &&& BitVec.ofInt IntKind.u8.bits (127)).toNat:Int)):Int)*2 ^ (min (((7*i:Nat):Int):Int).toNat IntKind.u64.bits))=IntKind.u64.wrap ((IntKind.u64.wrap (IntKind.u8.wrap ((BitVec.ofInt IntKind.u8.bits (((bF.toNat:Nat):Int)) &&& BitVec.ofInt IntKind.u8.bits (127)).toNat:Int)):Int)*2 ^ (min (((7*i:Nat):Int):Int).toNat IntKind.u64.bits)))
    have jJ:=(rfl:IntKind.u64.wrap ((BitVec.ofInt IntKind.u64.bits (x) ||| BitVec.ofInt IntKind.u64.bits (IntKind.u64.wrap ((IntKind.u64.wrap (IntKind.u8.wrap ((BitVec.ofInt IntKind.u8.bits (((bF.toNat:Nat):Int)) &&& BitVec.ofInt IntKind.u8.bits (127)).toNat:Int)):Int)*2 ^ (min (((7*i:Nat):Int):Int).toNat IntKind.u64.bits)))).toNat:Int)=eE i x bF)
    cases h6:(decide ((((bF.toNat:Nat):Int):Int)<128)) with
    | false=>
     have ia:=of_decide_eq_false h6
     exact cd (todo':=hd Tryd.f64 0) tk mo hK al [(5,[(0,.b true)]),(6,[(1,.ix (i) [.v (.int .u8 (((bF.toNat:Nat):Int)))])]),(7,[(1,.b true),(4,.b false)]),(9,[(2,.z (IntKind.u8.wrap ((BitVec.ofInt IntKind.u8.bits (((bF.toNat:Nat):Int)) &&& BitVec.ofInt IntKind.u8.bits (127)).toNat:Int))),(3,.z (IntKind.u64.wrap (IntKind.u8.wrap ((BitVec.ofInt IntKind.u8.bits (((bF.toNat:Nat):Int)) &&& BitVec.ofInt IntKind.u8.bits (127)).toNat:Int)))),(5,.z (((7*i:Nat):Int))),(6,.z (IntKind.u64.wrap ((IntKind.u64.wrap (IntKind.u8.wrap ((BitVec.ofInt IntKind.u8.bits (((bF.toNat:Nat):Int)) &&& BitVec.ofInt IntKind.u8.bits (127)).toNat:Int)):Int)*2 ^ (min (((7*i:Nat):Int):Int).toNat IntKind.u64.bits)))),(7,.z (eE i x bF))]),(10,[(1,.b false)]),(14,[(0,.z (((i+1:Nat):Int)))])] 2000 [0] [14,15,16,4] r (by kernel_rfl) (U h0 (U (aP ((i:Nat):Int)) (U (kf cQ) (U h1 (U h5 (U ie (U eC (U fM (U fZ (U ((by first | decide | omega):(0:Int)≤((7*i:Nat):Int)) (U jJ (U h6 (U ((wi (by omega)):IntKind.i64.wrap ((((i:Nat):Int):Int)+1)=((i+1:Nat):Int)) trivial))))))))))))) fun ac wd r=>bP (by omega) ac wd ⟨eE i x bF,ao.next cQ (by rintro ⟨_,_⟩;omega) (by omega),r⟩
    | true=>
     have ia:=of_decide_eq_true h6
     cases h7:((((bF.toNat:Nat):Int):Int)==0) with
     | false=>
      have eO:=ne_of_beq_false h7
      refine a8 (y:=.tu [.d (.v (.int .u64 (eE i x bF))),.n (i+1)]) (N':=[.bx 102 [.d (.ro 1 (af l)),.d (.v (.bool false))]]) ((by first | exact (c9 (ao.none (by omega))) | exact (c9 (ao.wide cQ (by omega) (by omega))) | exact (c9 (ao.zero cQ (by rintro ⟨_,_⟩;omega) (by omega) (by omega))) | exact (c9 (ao.last cQ (by rintro ⟨_,_⟩;omega) (by omega) (by rintro ⟨_,_⟩;omega))))) (rfl) ?_
      exact a7 tk mo hK rfl al [(5,[(0,.b true)]),(6,[(1,.ix (i) [.v (.int .u8 (((bF.toNat:Nat):Int)))])]),(7,[(1,.b true),(4,.b false)]),(9,[(2,.z (IntKind.u8.wrap ((BitVec.ofInt IntKind.u8.bits (((bF.toNat:Nat):Int)) &&& BitVec.ofInt IntKind.u8.bits (127)).toNat:Int))),(3,.z (IntKind.u64.wrap (IntKind.u8.wrap ((BitVec.ofInt IntKind.u8.bits (((bF.toNat:Nat):Int)) &&& BitVec.ofInt IntKind.u8.bits (127)).toNat:Int)))),(5,.z (((7*i:Nat):Int))),(6,.z (IntKind.u64.wrap ((IntKind.u64.wrap (IntKind.u8.wrap ((BitVec.ofInt IntKind.u8.bits (((bF.toNat:Nat):Int)) &&& BitVec.ofInt IntKind.u8.bits (127)).toNat:Int)):Int)*2 ^ (min (((7*i:Nat):Int):Int).toNat IntKind.u64.bits)))),(7,.z (eE i x bF))]),(10,[(1,.b true)]),(11,[(1,.b false)]),(13,[(2,.z (((i+1:Nat):Int)))])] 2000 [0] r (by kernel_rfl) (U h0 (U (aP ((i:Nat):Int)) (U (kf cQ) (U h1 (U h5 (U ie (U eC (U fM (U fZ (U ((by first | decide | omega):(0:Int)≤((7*i:Nat):Int)) (U jJ (U h6 (U h7 (U ((wi (by omega)):IntKind.i64.wrap ((((i:Nat):Int):Int)+1)=((i+1:Nat):Int)) trivial))))))))))))))
     | true=>
      have eO:=eq_of_beq h7
      cases h8:(decide ((0:Int)<((i:Nat):Int))) with
      | false=>
       have ib:=of_decide_eq_false h8
       refine a8 (y:=.tu [.d (.v (.int .u64 (eE i x bF))),.n (i+1)]) (N':=[.bx 102 [.d (.ro 1 (af l)),.d (.v (.bool false))]]) ((by first | exact (c9 (ao.none (by omega))) | exact (c9 (ao.wide cQ (by omega) (by omega))) | exact (c9 (ao.zero cQ (by rintro ⟨_,_⟩;omega) (by omega) (by omega))) | exact (c9 (ao.last cQ (by rintro ⟨_,_⟩;omega) (by omega) (by rintro ⟨_,_⟩;omega))))) (rfl) ?_
       exact a7 tk mo hK rfl al [(5,[(0,.b true)]),(6,[(1,.ix (i) [.v (.int .u8 (((bF.toNat:Nat):Int)))])]),(7,[(1,.b true),(4,.b false)]),(9,[(2,.z (IntKind.u8.wrap ((BitVec.ofInt IntKind.u8.bits (((bF.toNat:Nat):Int)) &&& BitVec.ofInt IntKind.u8.bits (127)).toNat:Int))),(3,.z (IntKind.u64.wrap (IntKind.u8.wrap ((BitVec.ofInt IntKind.u8.bits (((bF.toNat:Nat):Int)) &&& BitVec.ofInt IntKind.u8.bits (127)).toNat:Int)))),(5,.z (((7*i:Nat):Int))),(6,.z (IntKind.u64.wrap ((IntKind.u64.wrap (IntKind.u8.wrap ((BitVec.ofInt IntKind.u8.bits (((bF.toNat:Nat):Int)) &&& BitVec.ofInt IntKind.u8.bits (127)).toNat:Int)):Int)*2 ^ (min (((7*i:Nat):Int):Int).toNat IntKind.u64.bits)))),(7,.z (eE i x bF))]),(10,[(1,.b true)]),(11,[(1,.b true),(4,.b false)]),(13,[(2,.z (((i+1:Nat):Int)))])] 2000 [0] r (by kernel_rfl) (U h0 (U (aP ((i:Nat):Int)) (U (kf cQ) (U h1 (U h5 (U ie (U eC (U fM (U fZ (U ((by first | decide | omega):(0:Int)≤((7*i:Nat):Int)) (U jJ (U h6 (U h7 (U h8 (U ((wi (by omega)):IntKind.i64.wrap ((((i:Nat):Int):Int)+1)=((i+1:Nat):Int)) trivial)))))))))))))))
      | true=>
       have ib:=of_decide_eq_true h8
       refine a8 (y:=.tu [.d (.v (.int .u64 0)),.z 0]) (N':=[.bx 102 [.d (.ro 1 (af l)),.d (.v (.bool false))]]) ((by first | exact (c9 (ao.none (by omega))) | exact (c9 (ao.wide cQ (by omega) (by omega))) | exact (c9 (ao.zero cQ (by rintro ⟨_,_⟩;omega) (by omega) (by omega))) | exact (c9 (ao.last cQ (by rintro ⟨_,_⟩;omega) (by omega) (by rintro ⟨_,_⟩;omega))))) (rfl) ?_
       exact a7 tk mo hK rfl al [(5,[(0,.b true)]),(6,[(1,.ix (i) [.v (.int .u8 (((bF.toNat:Nat):Int)))])]),(7,[(1,.b true),(4,.b false)]),(9,[(2,.z (IntKind.u8.wrap ((BitVec.ofInt IntKind.u8.bits (((bF.toNat:Nat):Int)) &&& BitVec.ofInt IntKind.u8.bits (127)).toNat:Int))),(3,.z (IntKind.u64.wrap (IntKind.u8.wrap ((BitVec.ofInt IntKind.u8.bits (((bF.toNat:Nat):Int)) &&& BitVec.ofInt IntKind.u8.bits (127)).toNat:Int)))),(5,.z (((7*i:Nat):Int))),(6,.z (IntKind.u64.wrap ((IntKind.u64.wrap (IntKind.u8.wrap ((BitVec.ofInt IntKind.u8.bits (((bF.toNat:Nat):Int)) &&& BitVec.ofInt IntKind.u8.bits (127)).toNat:Int)):Int)*2 ^ (min (((7*i:Nat):Int):Int).toNat IntKind.u64.bits)))),(7,.z (eE i x bF))]),(10,[(1,.b true)]),(11,[(1,.b true),(4,.b true)])] 2000 [0] r (by kernel_rfl) (U h0 (U (aP ((i:Nat):Int)) (U (kf cQ) (U h1 (U h5 (U ie (U eC (U fM (U fZ (U ((by first | decide | omega):(0:Int)≤((7*i:Nat):Int)) (U jJ (U h6 (U h7 (U h8 trivial))))))))))))))
   | true=>
    have fL:=of_decide_eq_true h5
    refine a8 (y:=.tu [.d (.v (.int .u64 0)),.z 0]) (N':=[.bx 102 [.d (.ro 1 (af l)),.d (.v (.bool false))]]) ((by first | exact (c9 (ao.none (by omega))) | exact (c9 (ao.wide cQ (by omega) (by omega))) | exact (c9 (ao.zero cQ (by rintro ⟨_,_⟩;omega) (by omega) (by omega))) | exact (c9 (ao.last cQ (by rintro ⟨_,_⟩;omega) (by omega) (by rintro ⟨_,_⟩;omega))))) (rfl) ?_
    exact a7 tk mo hK rfl al [(5,[(0,.b true)]),(6,[(1,.ix (i) [.v (.int .u8 (((bF.toNat:Nat):Int)))])]),(7,[(1,.b true),(4,.b true)])] 2000 [0] r (by kernel_rfl) (U h0 (U (aP ((i:Nat):Int)) (U (kf cQ) (U h1 (U h5 trivial)))))
theorem aA.nil {P:Program} {f:FuncId} {args:List AV} {M M':List aj} {k:Nat} (h:aA P f args M (.d (.v (.slice none 0 0))) M'):aA P f args M (.d (.ro k [])) M':=by
 refine ⟨h.1,fun ys R hK hl hr=>(h.2 ys R hK hl hr).mono ?_⟩
 rintro e w' ⟨v,rfl,ax,F',I',R',e1,hI,ha⟩
 refine ⟨v,rfl,ax,F',I',R',e1,hI,?_⟩
 cases ha with
 | d hd=>
  cases hd with
  | v=>exact .d (.ro (fun _=>[]) (by simp) ⟨none,0,rfl,Nat.le_refl _⟩ (fun w hw=>⟨by simp [lay],Or.inl ⟨rfl,none,0,rfl⟩⟩) (by simp))
def iO (l:List UInt8) (b:Bool) (z:Int):Prop:=b=true∨z<0∨(l.length:Int)<z
instance {l:List UInt8} {b:Bool} {z:Int}:Decidable (iO l b z):=by unfold iO;infer_instance
def aK (l:List UInt8) (b:Bool) (z:Int):List UInt8:=if iO l b z then [] else l.take z.toNat
def dZ (l:List UInt8) (b:Bool) (z:Int):List UInt8:=if iO l b z then l else l.drop z.toNat
def ej (l:List UInt8) (b:Bool) (z:Int):Bool:=if iO l b z then true else false
def ig (l:List UInt8) (b:Bool):List aj:=[.bx 102 [.d (.ro 1 (af l)),.d (.v (.bool b))]]
theorem nh:cY Tryd.prog 65:=by unfold cY;kernel_rfl
theorem ve (l:List UInt8) (b:Bool) (z:Int):aA Tryd.prog 65 [.pt 0 0,.z z] (ig l b) (.d (.ro 1 (af (aK l b z)))) (ig (dZ l b z) (ej l b z)):=by
 unfold aK dZ ej
 by_cases h:iO l b z
 ·rw [if_pos h,if_pos h,if_pos h]
  cases b with
  | true=>exact (IV l z).nil
  | false=>
   rcases h.resolve_left (by decide) with h1 | h1
   ·exact (IU l z h1).nil
   ·obtain ⟨n,rfl⟩:=Int.eq_ofNat_of_zero_le (show 0≤z by omega)
    exact (Hl l n (by omega)).nil
 ·rw [if_neg h,if_neg h,if_neg h]
  unfold iO at h
  obtain ⟨n,rfl⟩:=Int.eq_ofNat_of_zero_le (show 0≤z by omega)
  cases b with
  | true=>exact absurd (Or.inl rfl) h
  | false=>exact IT l n (by omega)
def ek (l:List UInt8) (b:Bool):Int×Nat:=if b=true then (0,0) else fh l 0 0
theorem BA (l:List UInt8) (b:Bool):aA Tryd.prog 64 [.pt 0 0] (ig l b) (.tu [.d (.v (.int .u64 (ek l b).1)),.n (ek l b).2]) (ig l b):=by
 cases b with
 | true=>exact Kd l
 | false=>exact Lt l
theorem BB {l:List UInt8} {b:Bool} {z:Int}:(dZ l b z).length≤l.length:=by unfold dZ;split<;>simp
def nX (l:List UInt8) (b:Bool):List UInt8:=if (ek l b).2=0 then l else dZ l b (ek l b).2
def pD (l:List UInt8) (b:Bool):Bool:=if (ek l b).2=0 then true else ej l b (ek l b).2
def mR (l:List UInt8) (b:Bool):Int:=if (ek l b).2=0 then 0 else (ek l b).1
theorem Ke {l:List UInt8} {b:Bool}:(nX l b).length≤l.length:=by unfold nX;split<;>first | exact Nat.le_refl _ | exact BB
set_option maxRecDepth 100000 in
theorem IW (l:List UInt8) (b:Bool):aA Tryd.prog 48 [.pt 0 0] [.bx 102 [.d (.ro 1 (af l)),.d (.v (.bool b))]] (.d (.v (.int .u64 (mR l b)))) (ig (nX l b) (pD l b)):=by
 refine aA.intro (by kernel_rfl) rfl rfl 26 rfl rfl fun D w0 K bs ac wd hK (al:bs.m=1) r=>?_
 cases h0:(((((ek l b).2:Nat):Int):Int)==0) with
 | false=>
  have bH:=ne_of_beq_false h0
  refine a8 (y:=.d (.v (.int .u64 ((ek l b).1)))) (N':=[.bx 102 [.d (.ro 1 (af (dZ l b (ek l b).2))),.d (.v (.bool ((ej l b (ek l b).2))))]]) ((by unfold mR;first | rw [if_pos (by omega)] | rw [if_neg (by omega)])) ((by unfold nX pD;first | (rw [if_pos (by omega),if_pos (by omega)];rfl) | (rw [if_neg (by omega),if_neg (by omega)];rfl))) ?_
  exact a7 tk mo hK rfl al [(3,[(3,.mem [0] (.tu [.d (.v (.int .u64 ((ek l b).1))),.n ((ek l b).2)]) [.bx 102 [.d (.ro 1 (af l)),.d (.v (.bool b))]])]),(4,[(1,.b false)]),(7,[(4,.mem [0] (.d (.ro 1 (af (aK l b (ek l b).2)))) [.bx 102 [.d (.ro 1 (af (dZ l b (ek l b).2))),.d (.v (.bool ((ej l b (ek l b).2))))]])])] 2000 [0] r (by kernel_rfl) (U (nh:cY Tryd.prog 65) (U (BA l b) (U h0 (U (ve l b (ek l b).2) trivial))))
 | true=>
  have bH:=eq_of_beq h0
  refine a8 (y:=.d (.v (.int .u64 0))) (N':=[.bx 102 [.d (.ro 1 (af l)),.d (.v (.bool true))]]) ((by unfold mR;first | rw [if_pos (by omega)] | rw [if_neg (by omega)])) ((by unfold nX pD;first | (rw [if_pos (by omega),if_pos (by omega)];rfl) | (rw [if_neg (by omega),if_neg (by omega)];rfl))) ?_
  exact a7 tk mo hK rfl al [(3,[(3,.mem [0] (.tu [.d (.v (.int .u64 ((ek l b).1))),.n ((ek l b).2)]) [.bx 102 [.d (.ro 1 (af l)),.d (.v (.bool b))]])]),(4,[(1,.b true)])] 2000 [0] r (by kernel_rfl) (U (nh:cY Tryd.prog 65) (U (BA l b) (U h0 trivial)))
set_option maxRecDepth 100000 in
theorem Ba (l:List UInt8) (b:Bool):aA Tryd.prog 28 [.pt 0 0] [.bx 102 [.d (.ro 1 (af l)),.d (.v (.bool b))]] (.n l.length) ([.bx 102 [.d (.ro 1 (af l)),.d (.v (.bool b))]]):=by
 refine aA.intro (by kernel_rfl) rfl rfl 11 rfl rfl fun D w0 K bs ac wd hK (al:bs.m=1) r=>?_
 refine a8 (y:=.n l.length) (N':=[.bx 102 [.d (.ro 1 (af l)),.d (.v (.bool b))]]) (rfl) (rfl) ?_
 exact a7 tk mo hK rfl al [(3,[(5,.z (((l.length:Nat):Int)))])] 2000 [0] r (by kernel_rfl) (U (nh:cY Tryd.prog 65) (U ((by first | rfl | simp [af,ah,ints,steps,strs]):(((af l).length:Nat):Int)=((l.length:Nat):Int)) trivial))
set_option maxRecDepth 100000 in
theorem Hm (l:List UInt8):aA Tryd.prog 27 [.pt 0 0] [.bx 102 [.d (.ro 1 (af l)),.d (.v (.bool true))]] (.z 3) ([.bx 102 [.d (.ro 1 (af l)),.d (.v (.bool true))]]):=by
 refine aA.intro (by kernel_rfl) rfl rfl 12 rfl rfl fun D w0 K bs ac wd hK (al:bs.m=1) r=>?_
 refine a8 (y:=.z 3) (N':=[.bx 102 [.d (.ro 1 (af l)),.d (.v (.bool true))]]) (rfl) (rfl) ?_
 exact a7 tk mo hK rfl al [] 2000 [0] r (by kernel_rfl) (U (nh:cY Tryd.prog 65) trivial)
set_option maxRecDepth 100000 in
theorem FT (l:List UInt8):aA Tryd.prog 27 [.pt 0 0] [.bx 102 [.d (.ro 1 (af l)),.d (.v (.bool false))]] (.z 0) ([.bx 102 [.d (.ro 1 (af l)),.d (.v (.bool false))]]):=by
 refine aA.intro (by kernel_rfl) rfl rfl 12 rfl rfl fun D w0 K bs ac wd hK (al:bs.m=1) r=>?_
 refine a8 (y:=.z 0) (N':=[.bx 102 [.d (.ro 1 (af l)),.d (.v (.bool false))]]) (rfl) (rfl) ?_
 exact a7 tk mo hK rfl al [] 2000 [0] r (by kernel_rfl) (U (nh:cY Tryd.prog 65) trivial)
theorem vX (l:List UInt8) (b:Bool):aA Tryd.prog 27 [.pt 0 0] (ig l b) (.z (if b=true then 3 else 0)) (ig l b):=by
 cases b with
 | true=>exact Hm l
 | false=>exact FT l
set_option maxRecDepth 100000 in
theorem ui (l:List UInt8) (hb:l.length<2147483648):aA Tryd.prog 25 [.d (.ro 1 (af l))] [] (.pt 0 0) (ig l false):=by
 refine aA.intro (by kernel_rfl) rfl rfl 8 rfl rfl fun D w0 K bs ac wd hK (al:bs.m=0) r=>?_
 refine a8 (y:=.pt 0 0) (N':=[.bx 102 [.d (.ro 1 (af l)),.d (.v (.bool false))]]) (rfl) (rfl) ?_
 exact a7 tk mo hK rfl al [(1,[(1,.aO (.ro 1 (af l)))])] 2000 [0] r (by kernel_rfl) (U (zI l hb) trivial)
end Go.Proofs.YtcnpikbbmbombaaDoor
namespace Go.Proofs.YtcnpikbbmbombaaDoor
open Go.RowKit
def Dz (i:Nat) (y x:Int):Int:=IntKind.u64.wrap ((BitVec.ofInt IntKind.u64.bits x ||| BitVec.ofInt IntKind.u64.bits (IntKind.u64.wrap (IntKind.u64.wrap y*2 ^ (min ((8*i:Nat):Int).toNat IntKind.u64.bits)))).toNat:Int)
theorem IX {i:Nat} {y x:Nat} (hi:i<8) (hy:y<256) (hx:x<256 ^ i):Dz i (y:Int) (x:Int)=((x+y*256 ^ i:Nat):Int):=by
 have p8:(256:Nat) ^ i=2 ^ (8*i):=by rw [Nat.pow_mul]
 have hle:y*256 ^ i+256 ^ i≤256 ^ (i+1):=by
  rw [Nat.pow_succ,Nat.mul_comm (256 ^ i) 256]
  have:=Nat.mul_le_mul_right (256 ^ i) (show y+1≤256 by omega)
  rw [Nat.add_mul,Nat.one_mul] at this;exact this
 have Pe:(256:Nat) ^ (i+1)≤256 ^ 8:=Nat.pow_le_pow_right (by decide) (by omega)
 have e8:(256:Nat) ^ 8=18446744073709551616:=by decide
 have w1:IntKind.u64.wrap (y:Int)=(y:Int):=by simp [IntKind.wrap,IntKind.signed,IntKind.bits];omega
 have ml:(min ((8*i:Nat):Int).toNat IntKind.u64.bits)=8*i:=by simp [IntKind.bits];omega
 have hm:((y:Int)*2 ^ (8*i))=((y*256 ^ i:Nat):Int):=by rw [p8];push_cast;rfl
 unfold Dz
 rw [w1,ml,hm]
 have w2:IntKind.u64.wrap ((y*256 ^ i:Nat):Int)=((y*256 ^ i:Nat):Int):=by
  generalize y*256 ^ i=q at *
  simp [IntKind.wrap,IntKind.signed,IntKind.bits];omega
 rw [w2]
 have h1:(BitVec.ofInt 64 (x:Int) ||| BitVec.ofInt 64 ((y*256 ^ i:Nat):Int)).toNat=x+y*256 ^ i:=by
  rw [BitVec.toNat_or]
  have a1:(BitVec.ofInt 64 (x:Int)).toNat=x:=by
   have:x<18446744073709551616:=by omega
   rw [BitVec.ofInt_natCast,BitVec.toNat_ofNat];omega
  have a2:(BitVec.ofInt 64 ((y*256 ^ i:Nat):Int)).toNat=y*256 ^ i:=by
   have:y*256 ^ i<18446744073709551616:=by omega
   rw [BitVec.ofInt_natCast,BitVec.toNat_ofNat];omega
  rw [a1,a2,p8,Nat.mul_comm y,Nat.or_comm,← Nat.two_pow_add_eq_or_of_lt (by rw [← p8];exact hx)];omega
 show IntKind.u64.wrap ((BitVec.ofInt 64 (x:Int) ||| BitVec.ofInt 64 ((y*256 ^ i:Nat):Int)).toNat:Int)=_
 rw [h1]
 generalize x+y*256 ^ i=q at *
 simp [IntKind.wrap,IntKind.signed,IntKind.bits];omega
def e9 (X:List UInt8):Nat→Nat
 | 0=>0
 | i+1=>e9 X i+(X.getD i 0).toNat*256 ^ i
def bD (X:List UInt8) (i:Nat):DV:=.v (.int .u8 (((X.getD i 0).toNat:Nat):Int))
theorem BC (X:List UInt8):∀ i,e9 X i<256 ^ i
 | 0=>Nat.one_pos
 | i+1=>by
  have h:=BC X i
  have hb:=(X.getD i 0).toNat_lt
  have:=Nat.mul_le_mul_right (256 ^ i) (show (X.getD i 0).toNat+1≤256 by omega)
  rw [e9,Nat.pow_succ];rw [Nat.add_mul,Nat.one_mul] at this;omega
theorem Ao {l:List UInt8} {k:Nat} (h:l.length≤k):l.getD k 0=0:=by rw [List.getD_eq_getElem?_getD,List.getElem?_eq_none h];rfl
theorem Lu:∀ X:List UInt8,X.length≤8→List.take (min (af X).length 8*1) (List.map AV.d (List.flatten (af X)))++List.drop (List.take (min (af X).length 8*1) (List.map AV.d (List.flatten (af X)))).length ([.d (.v (.int .u8 0)),.d (.v (.int .u8 0)),.d (.v (.int .u8 0)),.d (.v (.int .u8 0)),.d (.v (.int .u8 0)),.d (.v (.int .u8 0)),.d (.v (.int .u8 0)),.d (.v (.int .u8 0))]:List AV)=List.map AV.d [bD X 0,bD X 1,bD X 2,bD X 3,bD X 4,bD X 5,bD X 6,bD X 7]
 | [],_=>rfl | [_],_=>rfl | [_,_],_=>rfl | [_,_,_],_=>rfl | [_,_,_,_],_=>rfl | [_,_,_,_,_],_=>rfl | [_,_,_,_,_,_],_=>rfl | [_,_,_,_,_,_,_],_=>rfl | [_,_,_,_,_,_,_,_],_=>rfl
 | _::_::_::_::_::_::_::_::_::_,h=>by simp at h
theorem Lv (X:List UInt8):∀ {i:Nat},i<8→nM tb 5 ([bD X 0,bD X 1,bD X 2,bD X 3,bD X 4,bD X 5,bD X 6,bD X 7].map AV.d) (i*1)=some (.d (bD X i))
 | 0,_=>by kernel_rfl | 1,_=>by kernel_rfl | 2,_=>by kernel_rfl | 3,_=>by kernel_rfl | 4,_=>by kernel_rfl | 5,_=>by kernel_rfl | 6,_=>by kernel_rfl | 7,_=>by kernel_rfl
 | _+8,h=>by omega
theorem vY (l:List UInt8) (b:Bool) (n:Nat):(aK l b n).length≤n:=by unfold aK;split;exact Nat.zero_le _;simp;omega
set_option maxRecDepth 100000 in
theorem BD (l:List UInt8) (b:Bool) (n:Nat) (hn:n≤8):aA Tryd.prog 63 [.pt 0 0,.n n] [.bx 102 [.d (.ro 1 (af l)),.d (.v (.bool b))]] (.u (e9 (aK l b n) 8)) (ig (dZ l b n) (ej l b n)):=by
 refine aA.intro (by kernel_rfl) rfl rfl 32 rfl rfl fun D w0 K bs ac wd hK (al:bs.m=1) r=>?_
 refine cd (todo':=hd Tryd.f63 0) (E':=[(6,.u (e9 (aK l b n) 0)),(18,.ag [.d (bD (aK l b n) 0),.d (bD (aK l b n) 1),.d (bD (aK l b n) 2),.d (bD (aK l b n) 3),.d (bD (aK l b n) 4),.d (bD (aK l b n) 5),.d (bD (aK l b n) 6),.d (bD (aK l b n) 7)]),(19,.n 0)]) (M':=[.bx 102 [.d (.ro 1 (af (dZ l b n))),.d (.v (.bool ((ej l b n))))]]) tk mo hK al [(3,[(0,.b true)]),(4,[(5,.mem [0] (.d (.ro 1 (af (aK l b n)))) [.bx 102 [.d (.ro 1 (af (dZ l b n))),.d (.v (.bool ((ej l b n))))]]),(6,.res (.ag [bD (aK l b n) 0,bD (aK l b n) 1,bD (aK l b n) 2,bD (aK l b n) 3,bD (aK l b n) 4,bD (aK l b n) 5,bD (aK l b n) 6,bD (aK l b n) 7]))])] 2000 [0] [6,18,19] r (by kernel_rfl) (U (nh:cY Tryd.prog 65) (U (ve l b n) (U ((by simp [bc,AV.one,bU,af]):bc (af (aK l b n))) (U ((Lu (aK l b n) (Nat.le_trans (vY l b n) hn)):(List.take (min (af (aK l b n)).length 8*1) (List.map AV.d (List.flatten (af (aK l b n)))))++List.drop (List.take (min (af (aK l b n)).length 8*1) (List.map AV.d (List.flatten (af (aK l b n))))).length ([.d (.v (.int .u8 0)),.d (.v (.int .u8 0)),.d (.v (.int .u8 0)),.d (.v (.int .u8 0)),.d (.v (.int .u8 0)),.d (.v (.int .u8 0)),.d (.v (.int .u8 0)),.d (.v (.int .u8 0))]:List AV)=List.map AV.d [bD (aK l b n) 0,bD (aK l b n) 1,bD (aK l b n) 2,bD (aK l b n) 3,bD (aK l b n) 4,bD (aK l b n) 5,bD (aK l b n) 6,bD (aK l b n) 7]) trivial)))) fun ac wd r=>?_
 refine aD.rounds (Φ:=fun (i:Nat) ac wd=>(i≤8)∧RB D w0 K 32 bs [(6,.u (e9 (aK l b n) i)),(18,.ag [.d (bD (aK l b n) 0),.d (bD (aK l b n) 1),.d (bD (aK l b n) 2),.d (bD (aK l b n) 3),.d (bD (aK l b n) 4),.d (bD (aK l b n) 5),.d (bD (aK l b n) 6),.d (bD (aK l b n) 7)]),(19,.n i)] [.bx 102 [.d (.ro 1 (af (dZ l b n))),.d (.v (.bool ((ej l b n))))]] ac wd) (8) ?_ (Nat.zero_le _) ⟨(Nat.zero_le _),r⟩
 clear r
 rintro i eA bP ac wd ⟨ao,r⟩
 cases h0:(decide ((((i:Nat):Int):Int)<8)) with
 | false=>
  have bH:=of_decide_eq_false h0
  refine a8 (y:=.u (e9 (aK l b n) i)) (N':=[.bx 102 [.d (.ro 1 (af (dZ l b n))),.d (.v (.bool ((ej l b n))))]]) ((by rw [show i=8 by omega])) (rfl) ?_
  exact a7 tk mo hK rfl al [(7,[(0,.b false)])] 2000 [0] r (by kernel_rfl) (U h0 trivial)
 | true=>
  have bH:=of_decide_eq_true h0
  exact cd (todo':=hd Tryd.f63 0) tk mo hK al [(7,[(0,.b true)]),(8,[(1,.ix (i) [.v (.int .u8 (((((aK l b n).getD i 0).toNat:Nat):Int)))])]),(9,[(2,.z (IntKind.u64.wrap ((((aK l b n).getD i 0).toNat:Nat):Int))),(4,.z (((8*i:Nat):Int))),(5,.z (IntKind.u64.wrap (IntKind.u64.wrap ((((aK l b n).getD i 0).toNat:Nat):Int)*2 ^ (min ((8*i:Nat):Int).toNat IntKind.u64.bits)))),(6,.z (((e9 (aK l b n) (i+1):Nat):Int)))]),(10,[(0,.z (((i+1:Nat):Int)))])] 2000 [0] [6,18,19] r (by kernel_rfl) (U h0 (U (aP ((i:Nat):Int)) (U ((by first | omega | decide | (simp;done) | (simp;omega)):(i)<8) (U ((Lv (aK l b n) (by omega)):nM tb 5 [.d (bD (aK l b n) 0),.d (bD (aK l b n) 1),.d (bD (aK l b n) 2),.d (bD (aK l b n) 3),.d (bD (aK l b n) 4),.d (bD (aK l b n) 5),.d (bD (aK l b n) 6),.d (bD (aK l b n) 7)] ((i)*1)=some (.d (.v (.int .u8 (((((aK l b n).getD i 0).toNat:Nat):Int)))))) (U (rfl:IntKind.u64.wrap (((((aK l b n).getD i 0).toNat:Nat):Int))=IntKind.u64.wrap ((((aK l b n).getD i 0).toNat:Nat):Int)) (U ((wi (by omega)):IntKind.i64.wrap ((8:Int)*((i:Nat):Int))=((8*i:Nat):Int)) (U (rfl:IntKind.u64.wrap ((IntKind.u64.wrap ((((aK l b n).getD i 0).toNat:Nat):Int):Int)*2 ^ (min (((8*i:Nat):Int):Int).toNat IntKind.u64.bits))=IntKind.u64.wrap (IntKind.u64.wrap ((((aK l b n).getD i 0).toNat:Nat):Int)*2 ^ (min ((8*i:Nat):Int).toNat IntKind.u64.bits))) (U ((by first | decide | omega):(0:Int)≤((8*i:Nat):Int)) (U ((IX (by omega) (UInt8.toNat_lt _) (BC _ _)):IntKind.u64.wrap ((BitVec.ofInt IntKind.u64.bits (((e9 (aK l b n) i:Nat):Int)) ||| BitVec.ofInt IntKind.u64.bits (IntKind.u64.wrap (IntKind.u64.wrap ((((aK l b n).getD i 0).toNat:Nat):Int)*2 ^ (min ((8*i:Nat):Int).toNat IntKind.u64.bits)))).toNat:Int)=((e9 (aK l b n) (i+1):Nat):Int)) (U ((wi (by omega)):IntKind.i64.wrap ((((i:Nat):Int):Int)+1)=((i+1:Nat):Int)) trivial)))))))))) fun ac wd r=>bP (by omega) ac wd ⟨(by omega),r⟩
theorem xb {X:List UInt8} {n:Nat} (h:X.length≤n):∀ k,e9 X (n+k)=e9 X n
 | 0=>rfl
 | k+1=>by rw [← Nat.add_assoc,e9,xb h k,Ao (by omega)];simp
theorem Lw {X:List UInt8} (h:X.length≤1):e9 X 8=(X.getD 0 0).toNat:=by rw [xb (n:=1) h 7];simp [e9]
theorem Lx {X:List UInt8} (h:X.length≤2):e9 X 8=(X.getD 0 0).toNat+(X.getD 1 0).toNat*256:=by rw [xb (n:=2) h 6];simp [e9]
theorem w8 {z:Int} (h:0≤z∧z≤255):IntKind.u8.wrap z=z:=by simp [IntKind.wrap,IntKind.signed,IntKind.bits];omega
theorem NY {z:Int} (h:0≤z∧z≤65535):IntKind.u16.wrap z=z:=by simp [IntKind.wrap,IntKind.signed,IntKind.bits];omega
set_option maxRecDepth 100000 in
theorem DA (l:List UInt8) (b:Bool):aA Tryd.prog 46 [.pt 0 0] [.bx 102 [.d (.ro 1 (af l)),.d (.v (.bool b))]] (.d (.v (.int .u8 ((((aK l b 1).getD 0 0).toNat:Nat):Int)))) (ig (dZ l b 1) (ej l b 1)):=by
 refine aA.intro (by kernel_rfl) rfl rfl 6 rfl rfl fun D w0 K bs ac wd hK (al:bs.m=1) r=>?_
 refine a8 (y:=.d (.v (.int .u8 (((((aK l b 1).getD 0 0).toNat:Nat):Int))))) (N':=[.bx 102 [.d (.ro 1 (af (dZ l b 1))),.d (.v (.bool ((ej l b 1))))]]) (rfl) (rfl) ?_
 exact a7 tk mo hK rfl al [(1,[(1,.mem [0] (.u (e9 (aK l b 1) 8)) [.bx 102 [.d (.ro 1 (af (dZ l b 1))),.d (.v (.bool ((ej l b 1))))]]),(2,.z (((((aK l b 1).getD 0 0).toNat:Nat):Int)))])] 2000 [0] r (by kernel_rfl) (U (BD l b 1 (by decide)) (U ((by rw [Lw (X:=aK l b 1) (vY l b 1)];exact w8 (by have:=((aK l b 1).getD 0 0).toNat_lt;have:=((aK l b 1).getD 1 0).toNat_lt;omega)):IntKind.u8.wrap (((e9 (aK l b 1) 8:Nat):Int))=((((aK l b 1).getD 0 0).toNat:Nat):Int)) trivial))
set_option maxRecDepth 100000 in
theorem MR (l:List UInt8) (b:Bool):aA Tryd.prog 47 [.pt 0 0] [.bx 102 [.d (.ro 1 (af l)),.d (.v (.bool b))]] (.d (.v (.int .u16 (((((aK l b 2).getD 0 0).toNat+((aK l b 2).getD 1 0).toNat*256):Nat):Int)))) (ig (dZ l b 2) (ej l b 2)):=by
 refine aA.intro (by kernel_rfl) rfl rfl 6 rfl rfl fun D w0 K bs ac wd hK (al:bs.m=1) r=>?_
 refine a8 (y:=.d (.v (.int .u16 ((((((aK l b 2).getD 0 0).toNat+((aK l b 2).getD 1 0).toNat*256):Nat):Int))))) (N':=[.bx 102 [.d (.ro 1 (af (dZ l b 2))),.d (.v (.bool ((ej l b 2))))]]) (rfl) (rfl) ?_
 exact a7 tk mo hK rfl al [(1,[(1,.mem [0] (.u (e9 (aK l b 2) 8)) [.bx 102 [.d (.ro 1 (af (dZ l b 2))),.d (.v (.bool ((ej l b 2))))]]),(2,.z ((((((aK l b 2).getD 0 0).toNat+((aK l b 2).getD 1 0).toNat*256):Nat):Int)))])] 2000 [0] r (by kernel_rfl) (U (BD l b 2 (by decide)) (U ((by rw [Lx (X:=aK l b 2) (vY l b 2)];exact NY (by have:=((aK l b 2).getD 0 0).toNat_lt;have:=((aK l b 2).getD 1 0).toNat_lt;omega)):IntKind.u16.wrap (((e9 (aK l b 2) 8:Nat):Int))=(((((aK l b 2).getD 0 0).toNat+((aK l b 2).getD 1 0).toNat*256):Nat):Int)) trivial))
end Go.Proofs.YtcnpikbbmbombaaDoor
namespace Go.Proofs.YtcnpikbbmbombaaDoor
open Go.RowKit
theorem nY {a b:List UInt8} (h:a=b) (r:List aj):(aj.rw 81 1 [[.em 5 1 (af a)]]::r)=aj.rw 81 1 [[.em 5 1 (af b)]]::r:=by rw [h]
def cZ (l:List (Int×Int)):List UInt8:=l.flatMap fun x=>[bz x.1,bz x.2]
def cg (c:bk):List UInt8:=[bz c.aq]++[bz ((c.ah.length:Nat):Int)]++cZ c.ah++[bz ((c.homes.length:Nat):Int)]++c.homes.map bz
def j4 (x:jI) (s:az):List UInt8:=(if x.node then [bz s.node] else [])++(if x.peer then [bz s.peer] else [])++(if x.n then [bz s.n] else [])++(if x.bit then [bz s.bit,bz (s.bit / 256)] else [])++(if x.inc then cb s.inc else [])++(if x.body then bz ((s.body.length:Nat):Int)::s.body else [])
def cz (s:az):List UInt8:=bz s.kind::j4 (ae s.kind.toNat) s
theorem qw {α:Type} {b:Bool} {l:List α} {n:Nat} (h:l.length≤n):(if b=true then l else []).length≤n:=by split;exact h;exact Nat.zero_le _
theorem gb (l:List (Int×Int)):(cZ l).length=2*l.length:=by
 unfold cZ;induction l with
 | nil=>rfl
 | cons x r ih=>rw [List.flatMap_cons,List.length_append,ih];simp;omega
theorem FU {l:List (Int×Int)} {i:Nat} {x:Int×Int} (h:l[i]?=some x):cZ (l.take (i+1))=cZ (l.take i)++[bz x.1,bz x.2]:=by
 unfold cZ;rw [List.take_add_one,h];simp
theorem EU {l:List Int} {i:Nat} {x:Int} (h:l[i]?=some x):(l.take (i+1)).map bz=(l.take i).map bz++[bz x]:=by
 rw [List.take_add_one,h];simp
theorem zj:∀ (k x:Nat),x<128 ^ (k+1)→(cb x).length≤k+1
 | 0,x,h=>by rw [kM (by omega)];simp
 | k+1,x,h=>by
  by_cases hx:x<128
  ·rw [kM hx];simp
  ·rw [oh hx]
   have:=zj k (x / 128) (by rw [Nat.div_lt_iff_lt_mul (by decide),← Nat.pow_succ];exact h)
   simp;omega
theorem eR {x:Nat} (h:x<18446744073709551616):(cb x).length≤10:=zj 9 x (Nat.lt_of_lt_of_le h (by decide))
theorem MS {z:Int} (h:0≤z) (h2:z≤65535):IntKind.u16.wrap z=((z.toNat:Nat):Int):=by
 simp [IntKind.wrap,IntKind.signed,IntKind.bits];omega
set_option maxRecDepth 100000 in
theorem Kf (l:List UInt8) (c:bk) (hl:l.length≤16777216) (hc:c.ah.length≤1048576) (hh:c.homes.length≤1048576):aA Tryd.prog 15 [.ep 0 1 (0) 0,.ag [.z c.aq,.d (.ro 2 (ah c.ah)),.d (.ro 1 (ints c.homes))]] [.rw 81 1 ([[.em 5 1 (af l)]])] (.tu []) (iN (l++cg c)):=by
 refine aA.intro (by kernel_rfl) rfl rfl 55 rfl rfl fun D w0 K bs ac wd hK (al:bs.m=1) r=>?_
 refine cd (todo':=hd Tryd.f15 0) (E':=[(0,.ep 0 1 (0) 0),(3,.pt 1 0),(20,.d (.ro 2 (ah c.ah))),(21,.n c.ah.length),(22,.z 0)]) (M':=[.rw 81 1 ([[.em 5 1 (af ((l++[(bz c.aq)])++[(bz ((c.ah.length:Nat):Int))]))]]),.bx 25 [.z c.aq,.d (.ro 2 (ah c.ah)),.d (.ro 1 (ints c.homes))]]) tk mo hK al [(1,[(3,.z ((((bz c.aq).toNat:Nat):Int))),(4,.mem [0] (.tu []) [.rw 81 1 ([[.em 5 1 (af (l++[(bz c.aq)]))]])])]),(2,[(3,.z (((c.ah.length:Nat):Int))),(4,.z ((((bz ((c.ah.length:Nat):Int)).toNat:Nat):Int))),(5,.mem [0] (.tu []) [.rw 81 1 ([[.em 5 1 (af ((l++[(bz c.aq)])++[(bz ((c.ah.length:Nat):Int))]))]])])]),(3,[(2,.z (((c.ah.length:Nat):Int)))])] 2000 [0,1] [0,3,20,21,22] r (by kernel_rfl) (U ((gv _):IntKind.u8.wrap (c.aq)=(((bz c.aq).toNat:Nat):Int)) (U (kb l (bz c.aq) (by first | omega | (simp [gb,eR];omega))) (U ((by first | rfl | simp [af,ah,ints,steps,strs]):(((ah c.ah).length:Nat):Int)=((c.ah.length:Nat):Int)) (U ((gv _):IntKind.u8.wrap (((c.ah.length:Nat):Int))=(((bz ((c.ah.length:Nat):Int)).toNat:Nat):Int)) (U (kb (l++[(bz c.aq)]) (bz ((c.ah.length:Nat):Int)) (by first | omega | (simp [gb,eR];omega))) (U ((by first | rfl | simp [af,ah,ints,steps,strs]):(((ah c.ah).length:Nat):Int)=((c.ah.length:Nat):Int)) trivial)))))) fun ac wd r=>?_
 refine aD.rounds (Φ:=fun (i:Nat) ac wd=>(True)∧RB D w0 K 55 bs [(0,.ep 0 1 (0) 0),(3,.pt 1 0),(20,.d (.ro 2 (ah c.ah))),(21,.n c.ah.length),(22,.n i)] [.rw 81 1 ([[.em 5 1 (af (l++[bz c.aq]++[bz ((c.ah.length:Nat):Int)]++cZ (c.ah.take i)))]]),.bx 25 [.z c.aq,.d (.ro 2 (ah c.ah)),.d (.ro 1 (ints c.homes))]] ac wd) (c.ah.length) ?_ (Nat.zero_le _) ⟨trivial,(r).cast rfl (nY (by simp [cZ]) _)⟩
 clear r
 rintro i eA bP ac wd ⟨ao,r⟩
 cases h0:(decide ((((i:Nat):Int):Int)<((c.ah.length:Nat):Int))) with
 | false=>
  have bH:=of_decide_eq_false h0
  refine cd (todo':=hd Tryd.f15 1) (E':=[(0,.ep 0 1 (0) 0),(3,.pt 1 0),(44,.d (.ro 1 (ints c.homes))),(45,.n c.homes.length),(46,.z 0)]) (M':=[.rw 81 1 ([[.em 5 1 (af ((l++[bz c.aq]++[bz ((c.ah.length:Nat):Int)]++cZ (c.ah.take i))++[(bz ((c.homes.length:Nat):Int))]))]]),.bx 25 [.z c.aq,.d (.ro 2 (ah c.ah)),.d (.ro 1 (ints c.homes))]]) tk mo hK al [(4,[(0,.b false)]),(9,[(3,.z (((c.homes.length:Nat):Int))),(4,.z ((((bz ((c.homes.length:Nat):Int)).toNat:Nat):Int))),(5,.mem [0] (.tu []) [.rw 81 1 ([[.em 5 1 (af ((l++[bz c.aq]++[bz ((c.ah.length:Nat):Int)]++cZ (c.ah.take i))++[(bz ((c.homes.length:Nat):Int))]))]])])]),(10,[(2,.z (((c.homes.length:Nat):Int)))])] 2000 [0,1] [0,3,44,45,46] r (by kernel_rfl) (U h0 (U ((by first | rfl | simp [af,ah,ints,steps,strs]):(((ints c.homes).length:Nat):Int)=((c.homes.length:Nat):Int)) (U ((gv _):IntKind.u8.wrap (((c.homes.length:Nat):Int))=(((bz ((c.homes.length:Nat):Int)).toNat:Nat):Int)) (U (kb (l++[bz c.aq]++[bz ((c.ah.length:Nat):Int)]++cZ (c.ah.take i)) (bz ((c.homes.length:Nat):Int)) (by first | omega | (simp [gb,eR];omega))) (U ((by first | rfl | simp [af,ah,ints,steps,strs]):(((ints c.homes).length:Nat):Int)=((c.homes.length:Nat):Int)) trivial))))) fun ac wd r=>?_
  refine aD.rounds (Φ:=fun (i:Nat) ac wd=>(True)∧RB D w0 K 55 bs [(0,.ep 0 1 (0) 0),(3,.pt 1 0),(44,.d (.ro 1 (ints c.homes))),(45,.n c.homes.length),(46,.n i)] [.rw 81 1 ([[.em 5 1 (af (l++[bz c.aq]++[bz ((c.ah.length:Nat):Int)]++cZ c.ah++[bz ((c.homes.length:Nat):Int)]++(c.homes.take i).map bz))]]),.bx 25 [.z c.aq,.d (.ro 2 (ah c.ah)),.d (.ro 1 (ints c.homes))]] ac wd) (c.homes.length) ?_ (Nat.zero_le _) ⟨trivial,(r).cast rfl (nY (by rw [List.take_of_length_le (by omega)];simp) _)⟩
  clear r
  rintro i rn jT ac wd ⟨dP,r⟩
  cases h1:(decide ((((i:Nat):Int):Int)<((c.homes.length:Nat):Int))) with
  | false=>
   have cm:=of_decide_eq_false h1
   refine a8 (y:=.tu []) (N':=[.rw 81 1 ([[.em 5 1 (af (l++[bz c.aq]++[bz ((c.ah.length:Nat):Int)]++cZ c.ah++[bz ((c.homes.length:Nat):Int)]++(c.homes.take i).map bz))]])]) (rfl) ((nY (by rw [List.take_of_length_le (by omega)];simp [cg]) [])) ?_
   exact a7 tk mo hK rfl al [(11,[(0,.b false)])] 2000 [0] r (by kernel_rfl) (U h1 trivial)
  | true=>
   have cm:=of_decide_eq_true h1
   obtain ⟨fa,eb⟩:∃ x_,c.homes[i]?=some x_:=⟨_,List.getElem?_eq_getElem (by omega)⟩
   exact cd (todo':=hd Tryd.f15 1) (E':=[(0,.ep 0 1 (0) 0),(3,.pt 1 0),(44,.d (.ro 1 (ints c.homes))),(45,.n c.homes.length),(46,.n (i+1))]) (M':=[.rw 81 1 ([[.em 5 1 (af ((l++[bz c.aq]++[bz ((c.ah.length:Nat):Int)]++cZ c.ah++[bz ((c.homes.length:Nat):Int)]++(c.homes.take i).map bz)++[(bz fa)]))]]),.bx 25 [.z c.aq,.d (.ro 2 (ah c.ah)),.d (.ro 1 (ints c.homes))]]) tk mo hK al [(11,[(0,.b true)]),(12,[(0,.ix (i) [.z fa])]),(13,[(2,.z ((((bz fa).toNat:Nat):Int))),(3,.mem [0] (.tu []) [.rw 81 1 ([[.em 5 1 (af ((l++[bz c.aq]++[bz ((c.ah.length:Nat):Int)]++cZ c.ah++[bz ((c.homes.length:Nat):Int)]++(c.homes.take i).map bz)++[(bz fa)]))]])])]),(14,[(0,.z (((i+1:Nat):Int)))])] 2000 [0,1] [0,3,44,45,46] r (by kernel_rfl) (U h1 (U (aP ((i:Nat):Int)) (U (ints_at eb) (U ((gv _):IntKind.u8.wrap (fa)=(((bz fa).toNat:Nat):Int)) (U (kb (l++[bz c.aq]++[bz ((c.ah.length:Nat):Int)]++cZ c.ah++[bz ((c.homes.length:Nat):Int)]++(c.homes.take i).map bz) (bz fa) (by first | omega | (simp [gb,eR];omega))) (U ((wi (by omega)):IntKind.i64.wrap ((((i:Nat):Int):Int)+1)=((i+1:Nat):Int)) trivial)))))) fun ac wd r=>jT (by omega) ac wd ⟨trivial,r.cast rfl (nY (by rw [EU eb];simp) _)⟩
 | true=>
  have bH:=of_decide_eq_true h0
  obtain ⟨bw,cG⟩:∃ x_,c.ah[i]?=some x_:=⟨_,List.getElem?_eq_getElem (by omega)⟩
  exact cd (todo':=hd Tryd.f15 0) (E':=[(0,.ep 0 1 (0) 0),(3,.pt 1 0),(20,.d (.ro 2 (ah c.ah))),(21,.n c.ah.length),(22,.n (i+1))]) (M':=[.rw 81 1 ([[.em 5 1 (af (((l++[bz c.aq]++[bz ((c.ah.length:Nat):Int)]++cZ (c.ah.take i))++[(bz bw.1)])++[(bz bw.2)]))]]),.bx 25 [.z c.aq,.d (.ro 2 (ah c.ah)),.d (.ro 1 (ints c.homes))]]) tk mo hK al [(4,[(0,.b true)]),(5,[(0,.ix (i) [.z bw.1,.z bw.2])]),(6,[(1,.n 0),(3,.z ((((bz bw.1).toNat:Nat):Int))),(4,.mem [0] (.tu []) [.rw 81 1 ([[.em 5 1 (af ((l++[bz c.aq]++[bz ((c.ah.length:Nat):Int)]++cZ (c.ah.take i))++[(bz bw.1)]))]])])]),(7,[(1,.n 1),(3,.z ((((bz bw.2).toNat:Nat):Int))),(4,.mem [0] (.tu []) [.rw 81 1 ([[.em 5 1 (af (((l++[bz c.aq]++[bz ((c.ah.length:Nat):Int)]++cZ (c.ah.take i))++[(bz bw.1)])++[(bz bw.2)]))]])])]),(8,[(0,.z (((i+1:Nat):Int)))])] 2000 [0,1] [0,3,20,21,22] r (by kernel_rfl) (U h0 (U (aP ((i:Nat):Int)) (U (iQ cG) (U (rfl:(0)=((0:Nat):Int)) (U ((by omega):(0)<2) (U ((gv _):IntKind.u8.wrap (bw.1)=(((bz bw.1).toNat:Nat):Int)) (U (kb (l++[bz c.aq]++[bz ((c.ah.length:Nat):Int)]++cZ (c.ah.take i)) (bz bw.1) (by first | omega | (simp [gb,eR];omega))) (U (rfl:(1)=((1:Nat):Int)) (U ((by omega):(1)<2) (U ((gv _):IntKind.u8.wrap (bw.2)=(((bz bw.2).toNat:Nat):Int)) (U (kb ((l++[bz c.aq]++[bz ((c.ah.length:Nat):Int)]++cZ (c.ah.take i))++[(bz bw.1)]) (bz bw.2) (by first | omega | (simp [gb,eR];omega))) (U ((wi (by omega)):IntKind.i64.wrap ((((i:Nat):Int):Int)+1)=((i+1:Nat):Int)) trivial)))))))))))) fun ac wd r=>bP (by omega) ac wd ⟨trivial,r.cast rfl (nY (by rw [FU cG];simp) _)⟩
set_option maxRecDepth 100000 in
theorem FV (l:List UInt8) (s:az) (hl:l.length≤16777216) (hb:s.body.length≤255) (hi:s.inc<18446744073709551616) (dX:0≤s.bit) (fw:s.bit≤65535) (k0:0≤s.kind) (k1:s.kind<14):aA Tryd.prog 18 [.ep 0 1 (0) 0,.ag [.z s.kind,.z s.node,.z s.peer,.z s.n,.z s.bit,.u s.inc,.d (.ro 1 (af s.body))]] [.rw 81 1 ([[.em 5 1 (af l)]]),.gw 0 ai] (.tu []) ([.rw 81 1 [[.em 5 1 (af (l++cz s))]],.gw 0 ai]):=by
 refine aA.intro (by kernel_rfl) rfl rfl 60 rfl rfl fun D w0 K bs ac wd hK (al:bs.m=2) r=>?_
 refine bT (todo':=aft Tryd.f18 3) (E':=[(0,.ep 0 1 (0) 0),(3,.pt 2 0),(4,.pt 3 0),(15,.d (.v (.bool ((ae s.kind.toNat).node))))]) (M':=[.rw 81 1 ([[.em 5 1 (af (l++[(bz s.kind)]))]]),.gw 0 ai,.bx 45 [.z s.kind,.z s.node,.z s.peer,.z s.n,.z s.bit,.u s.inc,.d (.ro 1 (af s.body))],.bx 84 [.d (.v (.string ⟨((ae s.kind.toNat).word).toArray⟩)),.d (.v (.bool ((ae s.kind.toNat).node))),.d (.v (.bool ((ae s.kind.toNat).peer))),.d (.v (.bool ((ae s.kind.toNat).n))),.d (.v (.bool ((ae s.kind.toNat).bit))),.d (.v (.bool ((ae s.kind.toNat).inc))),.d (.v (.bool ((ae s.kind.toNat).body)))]]) tk mo hK al [(1,[(2,.ix (s.kind.toNat) [.v (.string ⟨((ae s.kind.toNat).word).toArray⟩),.v (.bool ((ae s.kind.toNat).node)),.v (.bool ((ae s.kind.toNat).peer)),.v (.bool ((ae s.kind.toNat).n)),.v (.bool ((ae s.kind.toNat).bit)),.v (.bool ((ae s.kind.toNat).inc)),.v (.bool ((ae s.kind.toNat).body))])]),(2,[(3,.z ((((bz s.kind).toNat:Nat):Int))),(4,.mem [0] (.tu []) [.rw 81 1 ([[.em 5 1 (af (l++[(bz s.kind)]))]])])])] 9 [0,1,2,3] [0,3,4,15] r (by kernel_rfl) (U ((by omega):(s.kind)=((s.kind.toNat:Nat):Int)) (U ((by omega):(s.kind.toNat)<14) (U (mT (by omega):List.take 7 (List.drop ((s.kind.toNat)*7) (ai:List DV))=([.v (.string ⟨((ae s.kind.toNat).word).toArray⟩),.v (.bool ((ae s.kind.toNat).node)),.v (.bool ((ae s.kind.toNat).peer)),.v (.bool ((ae s.kind.toNat).n)),.v (.bool ((ae s.kind.toNat).bit)),.v (.bool ((ae s.kind.toNat).inc)),.v (.bool ((ae s.kind.toNat).body))]:List DV)) (U ((gv _):IntKind.u8.wrap (s.kind)=(((bz s.kind).toNat:Nat):Int)) (U (kb l (bz s.kind) (by first | omega | (simp [gb,eR];omega))) trivial))))) fun ac wd r=>?_
 suffices J5:∀ ac wd,RB D w0 K 60 bs [(0,.ep 0 1 (0) 0),(3,.pt 2 0),(4,.pt 3 0),(22,.d (.v (.bool ((ae s.kind.toNat).peer))))] [.rw 81 1 ([[.em 5 1 (af (l++[bz s.kind]++(if (ae s.kind.toNat).node=true then [bz s.node] else [])))]]),.gw 0 ai,.bx 45 [.z s.kind,.z s.node,.z s.peer,.z s.n,.z s.bit,.u s.inc,.d (.ro 1 (af s.body))],.bx 84 [.d (.v (.string ⟨((ae s.kind.toNat).word).toArray⟩)),.d (.v (.bool ((ae s.kind.toNat).node))),.d (.v (.bool ((ae s.kind.toNat).peer))),.d (.v (.bool ((ae s.kind.toNat).n))),.d (.v (.bool ((ae s.kind.toNat).bit))),.d (.v (.bool ((ae s.kind.toNat).inc))),.d (.v (.bool ((ae s.kind.toNat).body)))]] ac wd→aD Tryd.prog 18 (aft Tryd.f18 5) (eI D w0 K bs (.tu []) ([.rw 81 1 [[.em 5 1 (af (l++cz s))]],.gw 0 ai])) ac wd by
  cases h0:((ae s.kind.toNat).node) with
  | false=>
   have r:=r.cast (E':=[(0,.ep 0 1 (0) 0),(3,.pt 2 0),(4,.pt 3 0),(15,.d (.v (.bool false)))]) (M':=[.rw 81 1 ([[.em 5 1 (af (l++[(bz s.kind)]))]]),.gw 0 ai,.bx 45 [.z s.kind,.z s.node,.z s.peer,.z s.n,.z s.bit,.u s.inc,.d (.ro 1 (af s.body))],.bx 84 [.d (.v (.string ⟨((ae s.kind.toNat).word).toArray⟩)),.d (.v (.bool false)),.d (.v (.bool ((ae s.kind.toNat).peer))),.d (.v (.bool ((ae s.kind.toNat).n))),.d (.v (.bool ((ae s.kind.toNat).bit))),.d (.v (.bool ((ae s.kind.toNat).inc))),.d (.v (.bool ((ae s.kind.toNat).body)))]]) (by rw [h0]) (by rw [h0])
   refine bT (todo':=aft Tryd.f18 5) (E':=[(0,.ep 0 1 (0) 0),(3,.pt 2 0),(4,.pt 3 0),(22,.d (.v (.bool ((ae s.kind.toNat).peer))))]) (M':=[.rw 81 1 ([[.em 5 1 (af (l++[(bz s.kind)]))]]),.gw 0 ai,.bx 45 [.z s.kind,.z s.node,.z s.peer,.z s.n,.z s.bit,.u s.inc,.d (.ro 1 (af s.body))],.bx 84 [.d (.v (.string ⟨((ae s.kind.toNat).word).toArray⟩)),.d (.v (.bool false)),.d (.v (.bool ((ae s.kind.toNat).peer))),.d (.v (.bool ((ae s.kind.toNat).n))),.d (.v (.bool ((ae s.kind.toNat).bit))),.d (.v (.bool ((ae s.kind.toNat).inc))),.d (.v (.bool ((ae s.kind.toNat).body)))]]) tk mo hK al [] 5 [0,1,2,3] [0,3,4,22] r (by kernel_rfl) trivial fun ac wd r=>?_
   exact J5 ac wd (r.cast rfl (by rw [if_neg (ne_true_of_eq_false h0),h0]<;>simp [Int.max_eq_left dX]))
  | true=>
   have r:=r.cast (E':=[(0,.ep 0 1 (0) 0),(3,.pt 2 0),(4,.pt 3 0),(15,.d (.v (.bool true)))]) (M':=[.rw 81 1 ([[.em 5 1 (af (l++[(bz s.kind)]))]]),.gw 0 ai,.bx 45 [.z s.kind,.z s.node,.z s.peer,.z s.n,.z s.bit,.u s.inc,.d (.ro 1 (af s.body))],.bx 84 [.d (.v (.string ⟨((ae s.kind.toNat).word).toArray⟩)),.d (.v (.bool true)),.d (.v (.bool ((ae s.kind.toNat).peer))),.d (.v (.bool ((ae s.kind.toNat).n))),.d (.v (.bool ((ae s.kind.toNat).bit))),.d (.v (.bool ((ae s.kind.toNat).inc))),.d (.v (.bool ((ae s.kind.toNat).body)))]]) (by rw [h0]) (by rw [h0])
   refine bT (todo':=aft Tryd.f18 5) (E':=[(0,.ep 0 1 (0) 0),(3,.pt 2 0),(4,.pt 3 0),(22,.d (.v (.bool ((ae s.kind.toNat).peer))))]) (M':=[.rw 81 1 ([[.em 5 1 (af ((l++[(bz s.kind)])++[(bz s.node)]))]]),.gw 0 ai,.bx 45 [.z s.kind,.z s.node,.z s.peer,.z s.n,.z s.bit,.u s.inc,.d (.ro 1 (af s.body))],.bx 84 [.d (.v (.string ⟨((ae s.kind.toNat).word).toArray⟩)),.d (.v (.bool true)),.d (.v (.bool ((ae s.kind.toNat).peer))),.d (.v (.bool ((ae s.kind.toNat).n))),.d (.v (.bool ((ae s.kind.toNat).bit))),.d (.v (.bool ((ae s.kind.toNat).inc))),.d (.v (.bool ((ae s.kind.toNat).body)))]]) tk mo hK al [(4,[(3,.z ((((bz s.node).toNat:Nat):Int))),(4,.mem [0] (.tu []) [.rw 81 1 ([[.em 5 1 (af ((l++[(bz s.kind)])++[(bz s.node)]))]])])])] 5 [0,1,2,3] [0,3,4,22] r (by kernel_rfl) (U ((gv _):IntKind.u8.wrap (s.node)=(((bz s.node).toNat:Nat):Int)) (U (kb (l++[(bz s.kind)]) (bz s.node) (by first | omega | (simp [gb,eR];omega))) trivial)) fun ac wd r=>?_
   exact J5 ac wd (r.cast rfl (by rw [if_pos h0,h0]<;>simp [Int.max_eq_left dX]))
 intro ac wd r
 have NZ:=qw (b:=(ae s.kind.toNat).node) (l:=[bz s.node]) (n:=2) (by first | (simp;done) | exact eR hi)
 suffices J7:∀ ac wd,RB D w0 K 60 bs [(0,.ep 0 1 (0) 0),(3,.pt 2 0),(4,.pt 3 0),(29,.d (.v (.bool ((ae s.kind.toNat).n))))] [.rw 81 1 ([[.em 5 1 (af (l++[bz s.kind]++(if (ae s.kind.toNat).node=true then [bz s.node] else [])++(if (ae s.kind.toNat).peer=true then [bz s.peer] else [])))]]),.gw 0 ai,.bx 45 [.z s.kind,.z s.node,.z s.peer,.z s.n,.z s.bit,.u s.inc,.d (.ro 1 (af s.body))],.bx 84 [.d (.v (.string ⟨((ae s.kind.toNat).word).toArray⟩)),.d (.v (.bool ((ae s.kind.toNat).node))),.d (.v (.bool ((ae s.kind.toNat).peer))),.d (.v (.bool ((ae s.kind.toNat).n))),.d (.v (.bool ((ae s.kind.toNat).bit))),.d (.v (.bool ((ae s.kind.toNat).inc))),.d (.v (.bool ((ae s.kind.toNat).body)))]] ac wd→aD Tryd.prog 18 (aft Tryd.f18 7) (eI D w0 K bs (.tu []) ([.rw 81 1 [[.em 5 1 (af (l++cz s))]],.gw 0 ai])) ac wd by
  cases h1:((ae s.kind.toNat).peer) with
  | false=>
   have r:=r.cast (E':=[(0,.ep 0 1 (0) 0),(3,.pt 2 0),(4,.pt 3 0),(22,.d (.v (.bool false)))]) (M':=[.rw 81 1 ([[.em 5 1 (af (l++[bz s.kind]++(if (ae s.kind.toNat).node=true then [bz s.node] else [])))]]),.gw 0 ai,.bx 45 [.z s.kind,.z s.node,.z s.peer,.z s.n,.z s.bit,.u s.inc,.d (.ro 1 (af s.body))],.bx 84 [.d (.v (.string ⟨((ae s.kind.toNat).word).toArray⟩)),.d (.v (.bool ((ae s.kind.toNat).node))),.d (.v (.bool false)),.d (.v (.bool ((ae s.kind.toNat).n))),.d (.v (.bool ((ae s.kind.toNat).bit))),.d (.v (.bool ((ae s.kind.toNat).inc))),.d (.v (.bool ((ae s.kind.toNat).body)))]]) (by rw [h1]) (by rw [h1])
   refine bT (todo':=aft Tryd.f18 7) (E':=[(0,.ep 0 1 (0) 0),(3,.pt 2 0),(4,.pt 3 0),(29,.d (.v (.bool ((ae s.kind.toNat).n))))]) (M':=[.rw 81 1 ([[.em 5 1 (af (l++[bz s.kind]++(if (ae s.kind.toNat).node=true then [bz s.node] else [])))]]),.gw 0 ai,.bx 45 [.z s.kind,.z s.node,.z s.peer,.z s.n,.z s.bit,.u s.inc,.d (.ro 1 (af s.body))],.bx 84 [.d (.v (.string ⟨((ae s.kind.toNat).word).toArray⟩)),.d (.v (.bool ((ae s.kind.toNat).node))),.d (.v (.bool false)),.d (.v (.bool ((ae s.kind.toNat).n))),.d (.v (.bool ((ae s.kind.toNat).bit))),.d (.v (.bool ((ae s.kind.toNat).inc))),.d (.v (.bool ((ae s.kind.toNat).body)))]]) tk mo hK al [] 5 [0,1,2,3] [0,3,4,29] r (by kernel_rfl) trivial fun ac wd r=>?_
   exact J7 ac wd (r.cast rfl (by rw [if_neg (ne_true_of_eq_false h1),h1]<;>simp [Int.max_eq_left dX]))
  | true=>
   have r:=r.cast (E':=[(0,.ep 0 1 (0) 0),(3,.pt 2 0),(4,.pt 3 0),(22,.d (.v (.bool true)))]) (M':=[.rw 81 1 ([[.em 5 1 (af (l++[bz s.kind]++(if (ae s.kind.toNat).node=true then [bz s.node] else [])))]]),.gw 0 ai,.bx 45 [.z s.kind,.z s.node,.z s.peer,.z s.n,.z s.bit,.u s.inc,.d (.ro 1 (af s.body))],.bx 84 [.d (.v (.string ⟨((ae s.kind.toNat).word).toArray⟩)),.d (.v (.bool ((ae s.kind.toNat).node))),.d (.v (.bool true)),.d (.v (.bool ((ae s.kind.toNat).n))),.d (.v (.bool ((ae s.kind.toNat).bit))),.d (.v (.bool ((ae s.kind.toNat).inc))),.d (.v (.bool ((ae s.kind.toNat).body)))]]) (by rw [h1]) (by rw [h1])
   refine bT (todo':=aft Tryd.f18 7) (E':=[(0,.ep 0 1 (0) 0),(3,.pt 2 0),(4,.pt 3 0),(29,.d (.v (.bool ((ae s.kind.toNat).n))))]) (M':=[.rw 81 1 ([[.em 5 1 (af ((l++[bz s.kind]++(if (ae s.kind.toNat).node=true then [bz s.node] else []))++[(bz s.peer)]))]]),.gw 0 ai,.bx 45 [.z s.kind,.z s.node,.z s.peer,.z s.n,.z s.bit,.u s.inc,.d (.ro 1 (af s.body))],.bx 84 [.d (.v (.string ⟨((ae s.kind.toNat).word).toArray⟩)),.d (.v (.bool ((ae s.kind.toNat).node))),.d (.v (.bool true)),.d (.v (.bool ((ae s.kind.toNat).n))),.d (.v (.bool ((ae s.kind.toNat).bit))),.d (.v (.bool ((ae s.kind.toNat).inc))),.d (.v (.bool ((ae s.kind.toNat).body)))]]) tk mo hK al [(6,[(3,.z ((((bz s.peer).toNat:Nat):Int))),(4,.mem [0] (.tu []) [.rw 81 1 ([[.em 5 1 (af ((l++[bz s.kind]++(if (ae s.kind.toNat).node=true then [bz s.node] else []))++[(bz s.peer)]))]])])])] 5 [0,1,2,3] [0,3,4,29] r (by kernel_rfl) (U ((gv _):IntKind.u8.wrap (s.peer)=(((bz s.peer).toNat:Nat):Int)) (U (kb (l++[bz s.kind]++(if (ae s.kind.toNat).node=true then [bz s.node] else [])) (bz s.peer) (by first | omega | (simp [gb,eR];omega))) trivial)) fun ac wd r=>?_
   exact J7 ac wd (r.cast rfl (by rw [if_pos h1,h1]<;>simp [Int.max_eq_left dX]))
 intro ac wd r
 have yE:=qw (b:=(ae s.kind.toNat).peer) (l:=[bz s.peer]) (n:=2) (by first | (simp;done) | exact eR hi)
 suffices J9:∀ ac wd,RB D w0 K 60 bs [(0,.ep 0 1 (0) 0),(3,.pt 2 0),(4,.pt 3 0),(36,.d (.v (.bool ((ae s.kind.toNat).bit))))] [.rw 81 1 ([[.em 5 1 (af (l++[bz s.kind]++(if (ae s.kind.toNat).node=true then [bz s.node] else [])++(if (ae s.kind.toNat).peer=true then [bz s.peer] else [])++(if (ae s.kind.toNat).n=true then [bz s.n] else [])))]]),.gw 0 ai,.bx 45 [.z s.kind,.z s.node,.z s.peer,.z s.n,.z s.bit,.u s.inc,.d (.ro 1 (af s.body))],.bx 84 [.d (.v (.string ⟨((ae s.kind.toNat).word).toArray⟩)),.d (.v (.bool ((ae s.kind.toNat).node))),.d (.v (.bool ((ae s.kind.toNat).peer))),.d (.v (.bool ((ae s.kind.toNat).n))),.d (.v (.bool ((ae s.kind.toNat).bit))),.d (.v (.bool ((ae s.kind.toNat).inc))),.d (.v (.bool ((ae s.kind.toNat).body)))]] ac wd→aD Tryd.prog 18 (aft Tryd.f18 9) (eI D w0 K bs (.tu []) ([.rw 81 1 [[.em 5 1 (af (l++cz s))]],.gw 0 ai])) ac wd by
  cases h2:((ae s.kind.toNat).n) with
  | false=>
   have r:=r.cast (E':=[(0,.ep 0 1 (0) 0),(3,.pt 2 0),(4,.pt 3 0),(29,.d (.v (.bool false)))]) (M':=[.rw 81 1 ([[.em 5 1 (af (l++[bz s.kind]++(if (ae s.kind.toNat).node=true then [bz s.node] else [])++(if (ae s.kind.toNat).peer=true then [bz s.peer] else [])))]]),.gw 0 ai,.bx 45 [.z s.kind,.z s.node,.z s.peer,.z s.n,.z s.bit,.u s.inc,.d (.ro 1 (af s.body))],.bx 84 [.d (.v (.string ⟨((ae s.kind.toNat).word).toArray⟩)),.d (.v (.bool ((ae s.kind.toNat).node))),.d (.v (.bool ((ae s.kind.toNat).peer))),.d (.v (.bool false)),.d (.v (.bool ((ae s.kind.toNat).bit))),.d (.v (.bool ((ae s.kind.toNat).inc))),.d (.v (.bool ((ae s.kind.toNat).body)))]]) (by rw [h2]) (by rw [h2])
   refine bT (todo':=aft Tryd.f18 9) (E':=[(0,.ep 0 1 (0) 0),(3,.pt 2 0),(4,.pt 3 0),(36,.d (.v (.bool ((ae s.kind.toNat).bit))))]) (M':=[.rw 81 1 ([[.em 5 1 (af (l++[bz s.kind]++(if (ae s.kind.toNat).node=true then [bz s.node] else [])++(if (ae s.kind.toNat).peer=true then [bz s.peer] else [])))]]),.gw 0 ai,.bx 45 [.z s.kind,.z s.node,.z s.peer,.z s.n,.z s.bit,.u s.inc,.d (.ro 1 (af s.body))],.bx 84 [.d (.v (.string ⟨((ae s.kind.toNat).word).toArray⟩)),.d (.v (.bool ((ae s.kind.toNat).node))),.d (.v (.bool ((ae s.kind.toNat).peer))),.d (.v (.bool false)),.d (.v (.bool ((ae s.kind.toNat).bit))),.d (.v (.bool ((ae s.kind.toNat).inc))),.d (.v (.bool ((ae s.kind.toNat).body)))]]) tk mo hK al [] 5 [0,1,2,3] [0,3,4,36] r (by kernel_rfl) trivial fun ac wd r=>?_
   exact J9 ac wd (r.cast rfl (by rw [if_neg (ne_true_of_eq_false h2),h2]<;>simp [Int.max_eq_left dX]))
  | true=>
   have r:=r.cast (E':=[(0,.ep 0 1 (0) 0),(3,.pt 2 0),(4,.pt 3 0),(29,.d (.v (.bool true)))]) (M':=[.rw 81 1 ([[.em 5 1 (af (l++[bz s.kind]++(if (ae s.kind.toNat).node=true then [bz s.node] else [])++(if (ae s.kind.toNat).peer=true then [bz s.peer] else [])))]]),.gw 0 ai,.bx 45 [.z s.kind,.z s.node,.z s.peer,.z s.n,.z s.bit,.u s.inc,.d (.ro 1 (af s.body))],.bx 84 [.d (.v (.string ⟨((ae s.kind.toNat).word).toArray⟩)),.d (.v (.bool ((ae s.kind.toNat).node))),.d (.v (.bool ((ae s.kind.toNat).peer))),.d (.v (.bool true)),.d (.v (.bool ((ae s.kind.toNat).bit))),.d (.v (.bool ((ae s.kind.toNat).inc))),.d (.v (.bool ((ae s.kind.toNat).body)))]]) (by rw [h2]) (by rw [h2])
   refine bT (todo':=aft Tryd.f18 9) (E':=[(0,.ep 0 1 (0) 0),(3,.pt 2 0),(4,.pt 3 0),(36,.d (.v (.bool ((ae s.kind.toNat).bit))))]) (M':=[.rw 81 1 ([[.em 5 1 (af ((l++[bz s.kind]++(if (ae s.kind.toNat).node=true then [bz s.node] else [])++(if (ae s.kind.toNat).peer=true then [bz s.peer] else []))++[(bz s.n)]))]]),.gw 0 ai,.bx 45 [.z s.kind,.z s.node,.z s.peer,.z s.n,.z s.bit,.u s.inc,.d (.ro 1 (af s.body))],.bx 84 [.d (.v (.string ⟨((ae s.kind.toNat).word).toArray⟩)),.d (.v (.bool ((ae s.kind.toNat).node))),.d (.v (.bool ((ae s.kind.toNat).peer))),.d (.v (.bool true)),.d (.v (.bool ((ae s.kind.toNat).bit))),.d (.v (.bool ((ae s.kind.toNat).inc))),.d (.v (.bool ((ae s.kind.toNat).body)))]]) tk mo hK al [(8,[(3,.z ((((bz s.n).toNat:Nat):Int))),(4,.mem [0] (.tu []) [.rw 81 1 ([[.em 5 1 (af ((l++[bz s.kind]++(if (ae s.kind.toNat).node=true then [bz s.node] else [])++(if (ae s.kind.toNat).peer=true then [bz s.peer] else []))++[(bz s.n)]))]])])])] 5 [0,1,2,3] [0,3,4,36] r (by kernel_rfl) (U ((gv _):IntKind.u8.wrap (s.n)=(((bz s.n).toNat:Nat):Int)) (U (kb (l++[bz s.kind]++(if (ae s.kind.toNat).node=true then [bz s.node] else [])++(if (ae s.kind.toNat).peer=true then [bz s.peer] else [])) (bz s.n) (by first | omega | (simp [gb,eR];omega))) trivial)) fun ac wd r=>?_
   exact J9 ac wd (r.cast rfl (by rw [if_pos h2,h2]<;>simp [Int.max_eq_left dX]))
 intro ac wd r
 have N0:=qw (b:=(ae s.kind.toNat).n) (l:=[bz s.n]) (n:=2) (by first | (simp;done) | exact eR hi)
 suffices rq:∀ ac wd,RB D w0 K 60 bs [(0,.ep 0 1 (0) 0),(3,.pt 2 0),(4,.pt 3 0),(43,.d (.v (.bool ((ae s.kind.toNat).inc))))] [.rw 81 1 ([[.em 5 1 (af (l++[bz s.kind]++(if (ae s.kind.toNat).node=true then [bz s.node] else [])++(if (ae s.kind.toNat).peer=true then [bz s.peer] else [])++(if (ae s.kind.toNat).n=true then [bz s.n] else [])++(if (ae s.kind.toNat).bit=true then [bz s.bit,bz (s.bit / 256)] else [])))]]),.gw 0 ai,.bx 45 [.z s.kind,.z s.node,.z s.peer,.z s.n,.z s.bit,.u s.inc,.d (.ro 1 (af s.body))],.bx 84 [.d (.v (.string ⟨((ae s.kind.toNat).word).toArray⟩)),.d (.v (.bool ((ae s.kind.toNat).node))),.d (.v (.bool ((ae s.kind.toNat).peer))),.d (.v (.bool ((ae s.kind.toNat).n))),.d (.v (.bool ((ae s.kind.toNat).bit))),.d (.v (.bool ((ae s.kind.toNat).inc))),.d (.v (.bool ((ae s.kind.toNat).body)))]] ac wd→aD Tryd.prog 18 (aft Tryd.f18 11) (eI D w0 K bs (.tu []) ([.rw 81 1 [[.em 5 1 (af (l++cz s))]],.gw 0 ai])) ac wd by
  cases h3:((ae s.kind.toNat).bit) with
  | false=>
   have r:=r.cast (E':=[(0,.ep 0 1 (0) 0),(3,.pt 2 0),(4,.pt 3 0),(36,.d (.v (.bool false)))]) (M':=[.rw 81 1 ([[.em 5 1 (af (l++[bz s.kind]++(if (ae s.kind.toNat).node=true then [bz s.node] else [])++(if (ae s.kind.toNat).peer=true then [bz s.peer] else [])++(if (ae s.kind.toNat).n=true then [bz s.n] else [])))]]),.gw 0 ai,.bx 45 [.z s.kind,.z s.node,.z s.peer,.z s.n,.z s.bit,.u s.inc,.d (.ro 1 (af s.body))],.bx 84 [.d (.v (.string ⟨((ae s.kind.toNat).word).toArray⟩)),.d (.v (.bool ((ae s.kind.toNat).node))),.d (.v (.bool ((ae s.kind.toNat).peer))),.d (.v (.bool ((ae s.kind.toNat).n))),.d (.v (.bool false)),.d (.v (.bool ((ae s.kind.toNat).inc))),.d (.v (.bool ((ae s.kind.toNat).body)))]]) (by rw [h3]) (by rw [h3])
   refine bT (todo':=aft Tryd.f18 11) (E':=[(0,.ep 0 1 (0) 0),(3,.pt 2 0),(4,.pt 3 0),(43,.d (.v (.bool ((ae s.kind.toNat).inc))))]) (M':=[.rw 81 1 ([[.em 5 1 (af (l++[bz s.kind]++(if (ae s.kind.toNat).node=true then [bz s.node] else [])++(if (ae s.kind.toNat).peer=true then [bz s.peer] else [])++(if (ae s.kind.toNat).n=true then [bz s.n] else [])))]]),.gw 0 ai,.bx 45 [.z s.kind,.z s.node,.z s.peer,.z s.n,.z s.bit,.u s.inc,.d (.ro 1 (af s.body))],.bx 84 [.d (.v (.string ⟨((ae s.kind.toNat).word).toArray⟩)),.d (.v (.bool ((ae s.kind.toNat).node))),.d (.v (.bool ((ae s.kind.toNat).peer))),.d (.v (.bool ((ae s.kind.toNat).n))),.d (.v (.bool false)),.d (.v (.bool ((ae s.kind.toNat).inc))),.d (.v (.bool ((ae s.kind.toNat).body)))]]) tk mo hK al [] 5 [0,1,2,3] [0,3,4,43] r (by kernel_rfl) trivial fun ac wd r=>?_
   exact rq ac wd (r.cast rfl (by rw [if_neg (ne_true_of_eq_false h3),h3]<;>simp [Int.max_eq_left dX]))
  | true=>
   have r:=r.cast (E':=[(0,.ep 0 1 (0) 0),(3,.pt 2 0),(4,.pt 3 0),(36,.d (.v (.bool true)))]) (M':=[.rw 81 1 ([[.em 5 1 (af (l++[bz s.kind]++(if (ae s.kind.toNat).node=true then [bz s.node] else [])++(if (ae s.kind.toNat).peer=true then [bz s.peer] else [])++(if (ae s.kind.toNat).n=true then [bz s.n] else [])))]]),.gw 0 ai,.bx 45 [.z s.kind,.z s.node,.z s.peer,.z s.n,.z s.bit,.u s.inc,.d (.ro 1 (af s.body))],.bx 84 [.d (.v (.string ⟨((ae s.kind.toNat).word).toArray⟩)),.d (.v (.bool ((ae s.kind.toNat).node))),.d (.v (.bool ((ae s.kind.toNat).peer))),.d (.v (.bool ((ae s.kind.toNat).n))),.d (.v (.bool true)),.d (.v (.bool ((ae s.kind.toNat).inc))),.d (.v (.bool ((ae s.kind.toNat).body)))]]) (by rw [h3]) (by rw [h3])
   refine bT (todo':=aft Tryd.f18 11) (E':=[(0,.ep 0 1 (0) 0),(3,.pt 2 0),(4,.pt 3 0),(43,.d (.v (.bool ((ae s.kind.toNat).inc))))]) (M':=[.rw 81 1 ([[.em 5 1 (af ((l++[bz s.kind]++(if (ae s.kind.toNat).node=true then [bz s.node] else [])++(if (ae s.kind.toNat).peer=true then [bz s.peer] else [])++(if (ae s.kind.toNat).n=true then [bz s.n] else []))++[bz ((s.bit.toNat:Nat):Int),bz ((s.bit.toNat / 256:Nat):Int)]))]]),.gw 0 ai,.bx 45 [.z s.kind,.z s.node,.z s.peer,.z s.n,.z s.bit,.u s.inc,.d (.ro 1 (af s.body))],.bx 84 [.d (.v (.string ⟨((ae s.kind.toNat).word).toArray⟩)),.d (.v (.bool ((ae s.kind.toNat).node))),.d (.v (.bool ((ae s.kind.toNat).peer))),.d (.v (.bool ((ae s.kind.toNat).n))),.d (.v (.bool true)),.d (.v (.bool ((ae s.kind.toNat).inc))),.d (.v (.bool ((ae s.kind.toNat).body)))]]) tk mo hK al [(10,[(3,.z (((s.bit.toNat:Nat):Int))),(4,.mem [0] (.tu []) [.rw 81 1 ([[.em 5 1 (af ((l++[bz s.kind]++(if (ae s.kind.toNat).node=true then [bz s.node] else [])++(if (ae s.kind.toNat).peer=true then [bz s.peer] else [])++(if (ae s.kind.toNat).n=true then [bz s.n] else []))++[bz ((s.bit.toNat:Nat):Int),bz ((s.bit.toNat / 256:Nat):Int)]))]])])])] 5 [0,1,2,3] [0,3,4,43] r (by kernel_rfl) (U ((MS (by omega) (by omega)):IntKind.u16.wrap (s.bit)=((s.bit.toNat:Nat):Int)) (U (MO (l++[bz s.kind]++(if (ae s.kind.toNat).node=true then [bz s.node] else [])++(if (ae s.kind.toNat).peer=true then [bz s.peer] else [])++(if (ae s.kind.toNat).n=true then [bz s.n] else [])) s.bit.toNat (by omega) (by first | omega | (simp [gb,eR];omega))) trivial)) fun ac wd r=>?_
   exact rq ac wd (r.cast rfl (by rw [if_pos h3,h3]<;>simp [Int.max_eq_left dX]))
 intro ac wd r
 have N1:=qw (b:=(ae s.kind.toNat).bit) (l:=[bz s.bit,bz (s.bit / 256)]) (n:=2) (by first | (simp;done) | exact eR hi)
 suffices rr:∀ ac wd,RB D w0 K 60 bs [(0,.ep 0 1 (0) 0),(3,.pt 2 0),(4,.pt 3 0),(49,.d (.v (.bool ((ae s.kind.toNat).body))))] [.rw 81 1 ([[.em 5 1 (af (l++[bz s.kind]++(if (ae s.kind.toNat).node=true then [bz s.node] else [])++(if (ae s.kind.toNat).peer=true then [bz s.peer] else [])++(if (ae s.kind.toNat).n=true then [bz s.n] else [])++(if (ae s.kind.toNat).bit=true then [bz s.bit,bz (s.bit / 256)] else [])++(if (ae s.kind.toNat).inc=true then cb s.inc else [])))]]),.gw 0 ai,.bx 45 [.z s.kind,.z s.node,.z s.peer,.z s.n,.z s.bit,.u s.inc,.d (.ro 1 (af s.body))],.bx 84 [.d (.v (.string ⟨((ae s.kind.toNat).word).toArray⟩)),.d (.v (.bool ((ae s.kind.toNat).node))),.d (.v (.bool ((ae s.kind.toNat).peer))),.d (.v (.bool ((ae s.kind.toNat).n))),.d (.v (.bool ((ae s.kind.toNat).bit))),.d (.v (.bool ((ae s.kind.toNat).inc))),.d (.v (.bool ((ae s.kind.toNat).body)))]] ac wd→aD Tryd.prog 18 (aft Tryd.f18 13) (eI D w0 K bs (.tu []) ([.rw 81 1 [[.em 5 1 (af (l++cz s))]],.gw 0 ai])) ac wd by
  cases h4:((ae s.kind.toNat).inc) with
  | false=>
   have r:=r.cast (E':=[(0,.ep 0 1 (0) 0),(3,.pt 2 0),(4,.pt 3 0),(43,.d (.v (.bool false)))]) (M':=[.rw 81 1 ([[.em 5 1 (af (l++[bz s.kind]++(if (ae s.kind.toNat).node=true then [bz s.node] else [])++(if (ae s.kind.toNat).peer=true then [bz s.peer] else [])++(if (ae s.kind.toNat).n=true then [bz s.n] else [])++(if (ae s.kind.toNat).bit=true then [bz s.bit,bz (s.bit / 256)] else [])))]]),.gw 0 ai,.bx 45 [.z s.kind,.z s.node,.z s.peer,.z s.n,.z s.bit,.u s.inc,.d (.ro 1 (af s.body))],.bx 84 [.d (.v (.string ⟨((ae s.kind.toNat).word).toArray⟩)),.d (.v (.bool ((ae s.kind.toNat).node))),.d (.v (.bool ((ae s.kind.toNat).peer))),.d (.v (.bool ((ae s.kind.toNat).n))),.d (.v (.bool ((ae s.kind.toNat).bit))),.d (.v (.bool false)),.d (.v (.bool ((ae s.kind.toNat).body)))]]) (by rw [h4]) (by rw [h4])
   refine bT (todo':=aft Tryd.f18 13) (E':=[(0,.ep 0 1 (0) 0),(3,.pt 2 0),(4,.pt 3 0),(49,.d (.v (.bool ((ae s.kind.toNat).body))))]) (M':=[.rw 81 1 ([[.em 5 1 (af (l++[bz s.kind]++(if (ae s.kind.toNat).node=true then [bz s.node] else [])++(if (ae s.kind.toNat).peer=true then [bz s.peer] else [])++(if (ae s.kind.toNat).n=true then [bz s.n] else [])++(if (ae s.kind.toNat).bit=true then [bz s.bit,bz (s.bit / 256)] else [])))]]),.gw 0 ai,.bx 45 [.z s.kind,.z s.node,.z s.peer,.z s.n,.z s.bit,.u s.inc,.d (.ro 1 (af s.body))],.bx 84 [.d (.v (.string ⟨((ae s.kind.toNat).word).toArray⟩)),.d (.v (.bool ((ae s.kind.toNat).node))),.d (.v (.bool ((ae s.kind.toNat).peer))),.d (.v (.bool ((ae s.kind.toNat).n))),.d (.v (.bool ((ae s.kind.toNat).bit))),.d (.v (.bool false)),.d (.v (.bool ((ae s.kind.toNat).body)))]]) tk mo hK al [] 4 [0,1,2,3] [0,3,4,49] r (by kernel_rfl) trivial fun ac wd r=>?_
   exact rr ac wd (r.cast rfl (by rw [if_neg (ne_true_of_eq_false h4),h4]<;>simp [Int.max_eq_left dX]))
  | true=>
   have r:=r.cast (E':=[(0,.ep 0 1 (0) 0),(3,.pt 2 0),(4,.pt 3 0),(43,.d (.v (.bool true)))]) (M':=[.rw 81 1 ([[.em 5 1 (af (l++[bz s.kind]++(if (ae s.kind.toNat).node=true then [bz s.node] else [])++(if (ae s.kind.toNat).peer=true then [bz s.peer] else [])++(if (ae s.kind.toNat).n=true then [bz s.n] else [])++(if (ae s.kind.toNat).bit=true then [bz s.bit,bz (s.bit / 256)] else [])))]]),.gw 0 ai,.bx 45 [.z s.kind,.z s.node,.z s.peer,.z s.n,.z s.bit,.u s.inc,.d (.ro 1 (af s.body))],.bx 84 [.d (.v (.string ⟨((ae s.kind.toNat).word).toArray⟩)),.d (.v (.bool ((ae s.kind.toNat).node))),.d (.v (.bool ((ae s.kind.toNat).peer))),.d (.v (.bool ((ae s.kind.toNat).n))),.d (.v (.bool ((ae s.kind.toNat).bit))),.d (.v (.bool true)),.d (.v (.bool ((ae s.kind.toNat).body)))]]) (by rw [h4]) (by rw [h4])
   refine bT (todo':=aft Tryd.f18 13) (E':=[(0,.ep 0 1 (0) 0),(3,.pt 2 0),(4,.pt 3 0),(49,.d (.v (.bool ((ae s.kind.toNat).body))))]) (M':=[.rw 81 1 ([[.em 5 1 (af ((l++[bz s.kind]++(if (ae s.kind.toNat).node=true then [bz s.node] else [])++(if (ae s.kind.toNat).peer=true then [bz s.peer] else [])++(if (ae s.kind.toNat).n=true then [bz s.n] else [])++(if (ae s.kind.toNat).bit=true then [bz s.bit,bz (s.bit / 256)] else []))++cb s.inc))]]),.gw 0 ai,.bx 45 [.z s.kind,.z s.node,.z s.peer,.z s.n,.z s.bit,.u s.inc,.d (.ro 1 (af s.body))],.bx 84 [.d (.v (.string ⟨((ae s.kind.toNat).word).toArray⟩)),.d (.v (.bool ((ae s.kind.toNat).node))),.d (.v (.bool ((ae s.kind.toNat).peer))),.d (.v (.bool ((ae s.kind.toNat).n))),.d (.v (.bool ((ae s.kind.toNat).bit))),.d (.v (.bool true)),.d (.v (.bool ((ae s.kind.toNat).body)))]]) tk mo hK al [(12,[(3,.mem [0] (.tu []) [.rw 81 1 ([[.em 5 1 (af ((l++[bz s.kind]++(if (ae s.kind.toNat).node=true then [bz s.node] else [])++(if (ae s.kind.toNat).peer=true then [bz s.peer] else [])++(if (ae s.kind.toNat).n=true then [bz s.n] else [])++(if (ae s.kind.toNat).bit=true then [bz s.bit,bz (s.bit / 256)] else []))++cb s.inc))]])])])] 4 [0,1,2,3] [0,3,4,49] r (by kernel_rfl) (U (Lq (l++[bz s.kind]++(if (ae s.kind.toNat).node=true then [bz s.node] else [])++(if (ae s.kind.toNat).peer=true then [bz s.peer] else [])++(if (ae s.kind.toNat).n=true then [bz s.n] else [])++(if (ae s.kind.toNat).bit=true then [bz s.bit,bz (s.bit / 256)] else [])) s.inc (by omega) (by first | omega | (simp [gb,eR];omega))) trivial) fun ac wd r=>?_
   exact rr ac wd (r.cast rfl (by rw [if_pos h4,h4]<;>simp [Int.max_eq_left dX]))
 intro ac wd r
 have Pf:=qw (b:=(ae s.kind.toNat).inc) (l:=cb s.inc) (n:=10) (by first | (simp;done) | exact eR hi)
 cases h5:((ae s.kind.toNat).body) with
 | false=>
  have r:=r.cast (E':=[(0,.ep 0 1 (0) 0),(3,.pt 2 0),(4,.pt 3 0),(49,.d (.v (.bool false)))]) (M':=[.rw 81 1 ([[.em 5 1 (af (l++[bz s.kind]++(if (ae s.kind.toNat).node=true then [bz s.node] else [])++(if (ae s.kind.toNat).peer=true then [bz s.peer] else [])++(if (ae s.kind.toNat).n=true then [bz s.n] else [])++(if (ae s.kind.toNat).bit=true then [bz s.bit,bz (s.bit / 256)] else [])++(if (ae s.kind.toNat).inc=true then cb s.inc else [])))]]),.gw 0 ai,.bx 45 [.z s.kind,.z s.node,.z s.peer,.z s.n,.z s.bit,.u s.inc,.d (.ro 1 (af s.body))],.bx 84 [.d (.v (.string ⟨((ae s.kind.toNat).word).toArray⟩)),.d (.v (.bool ((ae s.kind.toNat).node))),.d (.v (.bool ((ae s.kind.toNat).peer))),.d (.v (.bool ((ae s.kind.toNat).n))),.d (.v (.bool ((ae s.kind.toNat).bit))),.d (.v (.bool ((ae s.kind.toNat).inc))),.d (.v (.bool false))]]) (by rw [h5]) (by rw [h5])
  refine a8 (y:=.tu []) (N':=[.rw 81 1 ([[.em 5 1 (af (l++[bz s.kind]++(if (ae s.kind.toNat).node=true then [bz s.node] else [])++(if (ae s.kind.toNat).peer=true then [bz s.peer] else [])++(if (ae s.kind.toNat).n=true then [bz s.n] else [])++(if (ae s.kind.toNat).bit=true then [bz s.bit,bz (s.bit / 256)] else [])++(if (ae s.kind.toNat).inc=true then cb s.inc else [])))]]),.gw 0 ai]) (rfl) ((nY (by unfold cz j4;rw [if_neg (ne_true_of_eq_false h5)];simp) _)) ?_
  exact a7 tk mo hK rfl al [] 2000 [0,1] r (by kernel_rfl) trivial
 | true=>
  have r:=r.cast (E':=[(0,.ep 0 1 (0) 0),(3,.pt 2 0),(4,.pt 3 0),(49,.d (.v (.bool true)))]) (M':=[.rw 81 1 ([[.em 5 1 (af (l++[bz s.kind]++(if (ae s.kind.toNat).node=true then [bz s.node] else [])++(if (ae s.kind.toNat).peer=true then [bz s.peer] else [])++(if (ae s.kind.toNat).n=true then [bz s.n] else [])++(if (ae s.kind.toNat).bit=true then [bz s.bit,bz (s.bit / 256)] else [])++(if (ae s.kind.toNat).inc=true then cb s.inc else [])))]]),.gw 0 ai,.bx 45 [.z s.kind,.z s.node,.z s.peer,.z s.n,.z s.bit,.u s.inc,.d (.ro 1 (af s.body))],.bx 84 [.d (.v (.string ⟨((ae s.kind.toNat).word).toArray⟩)),.d (.v (.bool ((ae s.kind.toNat).node))),.d (.v (.bool ((ae s.kind.toNat).peer))),.d (.v (.bool ((ae s.kind.toNat).n))),.d (.v (.bool ((ae s.kind.toNat).bit))),.d (.v (.bool ((ae s.kind.toNat).inc))),.d (.v (.bool true))]]) (by rw [h5]) (by rw [h5])
  refine a8 (y:=.tu []) (N':=[.rw 81 1 ([[.em 5 1 (af (((l++[bz s.kind]++(if (ae s.kind.toNat).node=true then [bz s.node] else [])++(if (ae s.kind.toNat).peer=true then [bz s.peer] else [])++(if (ae s.kind.toNat).n=true then [bz s.n] else [])++(if (ae s.kind.toNat).bit=true then [bz s.bit,bz (s.bit / 256)] else [])++(if (ae s.kind.toNat).inc=true then cb s.inc else []))++[(bz ((s.body.length:Nat):Int))])++s.body))]]),.gw 0 ai]) (rfl) ((nY (by unfold cz j4;rw [if_pos h5];simp) _)) ?_
  exact a7 tk mo hK rfl al [(14,[(3,.z (((s.body.length:Nat):Int))),(4,.z ((((bz ((s.body.length:Nat):Int)).toNat:Nat):Int))),(5,.mem [0] (.tu []) [.rw 81 1 ([[.em 5 1 (af ((l++[bz s.kind]++(if (ae s.kind.toNat).node=true then [bz s.node] else [])++(if (ae s.kind.toNat).peer=true then [bz s.peer] else [])++(if (ae s.kind.toNat).n=true then [bz s.n] else [])++(if (ae s.kind.toNat).bit=true then [bz s.bit,bz (s.bit / 256)] else [])++(if (ae s.kind.toNat).inc=true then cb s.inc else []))++[(bz ((s.body.length:Nat):Int))]))]])])]),(15,[(3,.mem [0] (.tu []) [.rw 81 1 ([[.em 5 1 (af (((l++[bz s.kind]++(if (ae s.kind.toNat).node=true then [bz s.node] else [])++(if (ae s.kind.toNat).peer=true then [bz s.peer] else [])++(if (ae s.kind.toNat).n=true then [bz s.n] else [])++(if (ae s.kind.toNat).bit=true then [bz s.bit,bz (s.bit / 256)] else [])++(if (ae s.kind.toNat).inc=true then cb s.inc else []))++[(bz ((s.body.length:Nat):Int))])++s.body))]])])])] 2000 [0,1] r (by kernel_rfl) (U ((by first | rfl | simp [af,ah,ints,steps,strs]):(((af s.body).length:Nat):Int)=((s.body.length:Nat):Int)) (U ((gv _):IntKind.u8.wrap (((s.body.length:Nat):Int))=(((bz ((s.body.length:Nat):Int)).toNat:Nat):Int)) (U (kb (l++[bz s.kind]++(if (ae s.kind.toNat).node=true then [bz s.node] else [])++(if (ae s.kind.toNat).peer=true then [bz s.peer] else [])++(if (ae s.kind.toNat).n=true then [bz s.n] else [])++(if (ae s.kind.toNat).bit=true then [bz s.bit,bz (s.bit / 256)] else [])++(if (ae s.kind.toNat).inc=true then cb s.inc else [])) (bz ((s.body.length:Nat):Int)) (by first | omega | (simp [gb,eR];omega))) (U (MP ((l++[bz s.kind]++(if (ae s.kind.toNat).node=true then [bz s.node] else [])++(if (ae s.kind.toNat).peer=true then [bz s.peer] else [])++(if (ae s.kind.toNat).n=true then [bz s.n] else [])++(if (ae s.kind.toNat).bit=true then [bz s.bit,bz (s.bit / 256)] else [])++(if (ae s.kind.toNat).inc=true then cb s.inc else []))++[(bz ((s.body.length:Nat):Int))]) s.body (by omega) (by first | omega | (simp [gb,eR];omega))) trivial))))
end Go.Proofs.YtcnpikbbmbombaaDoor
namespace Go.Proofs.YtcnpikbbmbombaaDoor
open Go.RowKit
def bY (c:bk) (l:List az):List UInt8:=cg c++l.flatMap cz
noncomputable def ct (c:bk) (l:List az):Int:=bif cf c then (bif l.all hasB then (bif decide (65536<(bY c l).length) then 2 else 0) else 1) else 1
noncomputable def mA (c:bk) (l:List az):AV:=bif decide (ct c l=0) then .tu [.sl 1 (bY c l).length,.z 0] else .tu [.d (.v (.slice none 0 0)),.z (ct c l)]
noncomputable def mB (c:bk) (l:List az):List aj:=bif decide (ct c l=0) then [.gw 0 ai,.rw 5 1 (af (bY c l))] else [.gw 0 ai]
def b9 (a:List UInt8):List az→List UInt8
 | []=>a
 | s::r=>b9 (if a.length≤65536 then a++cz s else a) r
theorem rI {l:List az} {i:Nat} {s:az} (a:List UInt8) (h:l[i]?=some s):b9 a (l.take (i+1))=if (b9 a (l.take i)).length≤65536 then b9 a (l.take i)++cz s else b9 a (l.take i):=by
 have key:∀ (l:List az) (a:List UInt8) (s:az),b9 a (l++[s])=if (b9 a l).length≤65536 then b9 a l++cz s else b9 a l:=by
  intro l
  induction l with
  | nil=>intro a s;rfl
  | cons x r ih=>intro a s;rw [List.cons_append,b9,b9,ih]
 rw [List.take_add_one,h];exact key _ _ _
theorem si:∀ (l:List az) (a:List UInt8),(if 65536<(b9 a l).length then 65536<(a++l.flatMap cz).length else b9 a l=a++l.flatMap cz)
 | [],a=>by simp [b9]
 | s::r,a=>by
  rw [b9]
  by_cases h:a.length≤65536
  ·rw [if_pos h]
   have:=si r (a++cz s)
   rw [List.flatMap_cons,← List.append_assoc];exact this
  ·rw [if_neg h]
   have h1:65536<(b9 a r).length:=by
    have:=si r a
    rcases Nat.lt_or_ge 65536 (b9 a r).length with h2 | h2
    ·exact h2
    ·rw [if_neg (by omega)] at this;rw [this,List.length_append] at h2;omega
   rw [if_pos h1,List.length_append];omega
theorem lV {c:bk} {l:List az} {i:Nat} (hi:¬ (i:Int)<l.length) (h:65536<(b9 (cg c) (l.take i)).length):65536<(bY c l).length:=by rw [List.take_of_length_le (by omega)] at h;have:=si l (cg c);rw [if_pos h] at this;exact this
theorem gg {c:bk} {l:List az} {i:Nat} (hi:¬ (i:Int)<l.length) (h:(b9 (cg c) (l.take i)).length≤65536):b9 (cg c) (l.take i)=bY c l:=by rw [List.take_of_length_le (by omega)] at h ⊢;have:=si l (cg c);rw [if_neg (by omega)] at this;exact this
theorem nq {s:az} (h:hasB s=true):0≤s.kind∧s.kind<14∧s.body.length≤255∧0≤s.bit∧s.bit≤65535∧0≤s.node∧s.node≤255∧0≤s.peer∧s.peer≤255∧0≤s.n∧s.n≤255:=by
 unfold hasB fg cH at h
 simp only [Bool.and_eq_true,Bool.or_eq_true,decide_eq_true_eq] at h
 omega
theorem Hn {x:jI} {s:az} (hb:s.body.length≤255) (hi:s.inc<18446744073709551616):(j4 x s).length≤300:=by
 have:=eR hi
 unfold j4
 simp only [List.length_append]
 have h1:∀ {b:Bool} {p:List UInt8} {n:Nat},p.length≤n→(if b=true then p else []).length≤n:=by
  intro b p n h;split
  ·exact h
  ·simp
 have a1:=h1 (b:=x.node) (p:=[bz s.node]) (n:=1) (by simp)
 have a2:=h1 (b:=x.peer) (p:=[bz s.peer]) (n:=1) (by simp)
 have a3:=h1 (b:=x.n) (p:=[bz s.n]) (n:=1) (by simp)
 have a4:=h1 (b:=x.bit) (p:=[bz s.bit,bz (s.bit / 256)]) (n:=2) (by simp)
 have a5:=h1 (b:=x.inc) (p:=cb s.inc) (n:=10) this
 have a6:=h1 (b:=x.body) (p:=bz ((s.body.length:Nat):Int)::s.body) (n:=256) (by simp;omega)
 omega
theorem Hq {s:az} (hb:s.body.length≤255) (hi:s.inc<18446744073709551616):(cz s).length≤301:=by
 have:=Hn (x:=ae s.kind.toNat) hb hi
 unfold cz;simp;omega
theorem r4 (c:bk):(cg c).length=3+2*c.ah.length+c.homes.length:=by unfold cg;simp [gb];omega
def ln (l:List az) (i:Nat):Prop:=∀ (j:Nat) s,j<i→l[j]?=some s→hasB s=true
theorem ln.none (l:List az):ln l 0:=fun _ _ h=>absurd h (Nat.not_lt_zero _)
theorem ln.next {l:List az} {i:Nat} {s:az} (h:ln l i) (g:l[i]?=some s) (h1:hasB s=true):ln l (i+1):=fun j y hj gy=>by
 rcases Nat.lt_succ_iff_lt_or_eq.1 hj with h' | rfl
 ·exact h j y h' gy
 ·rw [g] at gy;cases gy;exact h1
theorem ln.all {l:List az} {i:Nat} (h:ln l i) (hi:¬ (i:Int)<l.length):l.all hasB=true:=by
 rw [List.all_eq_true];intro s hs
 obtain ⟨j,hj,rfl⟩:=List.getElem_of_mem hs
 exact h j _ (by omega) (List.getElem?_eq_getElem hj)
theorem l3 {l:List az} {i:Nat} {s:az} (g:l[i]?=some s) (h1:hasB s=false):l.all hasB=false:=by
 rw [List.all_eq_false];exact ⟨s,List.mem_of_getElem? g,by simp [h1]⟩
section
variable {c:bk} {l:List az}
theorem gh (h:cf c=false∨l.all hasB=false):ct c l=1:=by
 unfold ct
 rcases h with h | h
 ·rw [h];rfl
 ·rw [h];cases cf c<;>rfl
theorem lS (h1:cf c=true) (h2:l.all hasB=true) (h:65536<(bY c l).length):ct c l=2:=by unfold ct;rw [h1,h2,decide_eq_true h];rfl
theorem kR (h1:cf c=true) (h2:l.all hasB=true) (h:(bY c l).length≤65536):ct c l=0:=by unfold ct;rw [h1,h2,decide_eq_false (by omega)];rfl
theorem jo {z:Int} (h:ct c l=z) (hz:z≠0):mA c l=.tu [.d (.v (.slice none 0 0)),.z z]:=by unfold mA;rw [decide_eq_false (by omega),h];rfl
theorem jq {z:Int} (h:ct c l=z) (hz:z≠0):mB c l=[.gw 0 ai]:=by unfold mB;rw [decide_eq_false (by omega)];rfl
theorem Hr (h:ct c l=0):mA c l=.tu [.sl 1 (bY c l).length,.z 0]:=by unfold mA;rw [decide_eq_true h];rfl
theorem Hs (h:ct c l=0):mB c l=[.gw 0 ai,.rw 5 1 (af (bY c l))]:=by unfold mB;rw [decide_eq_true h];rfl
end
theorem rJ {c:bk} {l:List az} {b:List UInt8} (h:ct c l=0) (hb:b=bY c l):mA c l=.tu [.sl 1 b.length,.z 0]:=by rw [Hr h,hb]
theorem rK {c:bk} {l:List az} {b:List UInt8} (h:ct c l=0) (hb:b=bY c l):mB c l=[.gw 0 ai,.rw 5 1 (af b)]:=by rw [Hs h,hb]
theorem Ly:aA Tryd.prog 14 [] [] (.ep 0 1 0 0) (iN []):=by
 refine ⟨CJ.1,fun {D w0 K0 β F I w} ys R hK hl hr=>(CJ.2 ys R hK hl hr).mono ?_⟩
 rintro e w' ⟨v,rfl,ax,F',I',R',e1,hI,ha⟩
 have rC:β=[]:=List.eq_nil_of_length_eq_zero R.len
 subst rC
 cases ha with
 | @pt _ _ b cc hb=>
 have hB:=R'.blk 0 _ rfl
 generalize pq:F' 0=F0 at hB
 cases hB with
 | bx aN ys mJ jG=>
  rw [hb] at aN;cases aN
  obtain ⟨y,rfl⟩:∃ y,ys=[y]:=by
   cases ys with
   | nil=>simp at mJ
   | cons y r=>cases r with
    | nil=>exact ⟨y,rfl⟩
    | cons _ _=>simp at mJ
  have hy:y=.slice none 0 0:=by
   have h0:=jG 0 _ y rfl rfl
   cases h0 with | d h0=>cases h0;rfl
  subst hy
  refine ⟨_,rfl,[(some ⟨b,0,none⟩,1)],F',I',⟨rfl,fun u blk hu=>?_,R'.st⟩,fun u x hx=>by simp at hx,hI,.ep (u:=0) rfl⟩
  cases u with
  | succ u=>simp [iN] at hu
  | zero=>
   simp only [iN,List.getElem?_cons_zero,Option.some.injEq] at hu;subst hu
   rw [pq]
   have:=bq.rw (K:=fun w=>K0 w∧Holds w I') (β:=[(some ⟨b,0,none⟩,1)]) (u:=0) (T:=81) (k:=1) (rows:=[[DV.em 5 1 (af [])]]) (H0:=[(b,.cells #[.slice none 0 0] 81 (0,0))]) rfl (fun _=>[.slice none 0 0]) (fun _ _=>[]) (fun i r hi=>by
    cases i with
    | zero=>simp at hi;subst hi;exact ⟨rfl,rfl⟩
    | succ i=>simp at hi) ⟨rfl,Or.inr ⟨b,1,_,rfl,rfl,rfl,Nat.le_refl _,rfl⟩⟩ (fun i r j c x hi h1 h2=>by
    cases i with
    | succ i=>simp at hi
    | zero=>
     simp at hi;subst hi
     cases j with
     | succ j=>simp at h1
     | zero=>simp at h1 h2;subst h1;subst h2;exact Le.B9 _ _ _ _ _ (.v _))
   simpa [bu] using this
set_option maxRecDepth 100000 in
theorem BE (c:bk) (l:List az) (hc:c.ah.length≤1048576) (hh:c.homes.length≤1048576) (hl:l.length≤9223372036854775807) (hr:∀ s ∈ l,s.Rd):aA Tryd.prog 7 [.ag [.z c.aq,.d (.ro 2 (ah c.ah)),.d (.ro 1 (ints c.homes))],.d (.ro 7 (steps l))] [.gw 0 ai] (mA c l) (mB c l):=by
 refine aA.intro (by kernel_rfl) rfl rfl 37 rfl rfl fun D w0 K bs ac wd hK (al:bs.m=1) r=>?_
 cases h0:(cf c) with
 | false=>
  refine a8 (y:=.tu [.d (.v (.slice none 0 0)),.z 1]) (N':=[.gw 0 ai]) ((by first | exact jo (gh (.inl (by assumption))) (by decide) | exact jo (gh (.inr (l3 dv (by assumption)))) (by decide) | exact jo (lS (by assumption) (ao.1.all (by assumption)) (lV (by assumption) (by omega))) (by decide) | exact rJ (kR (by assumption) (ao.1.all (by assumption)) (by rw [← gg (by assumption) (by omega)];omega)) (gg (by assumption) (by omega)))) ((by first | exact jq (gh (.inl (by assumption))) (by decide) | exact jq (gh (.inr (l3 dv (by assumption)))) (by decide) | exact jq (lS (by assumption) (ao.1.all (by assumption)) (lV (by assumption) (by omega))) (by decide) | exact rK (kR (by assumption) (ao.1.all (by assumption)) (by rw [← gg (by assumption) (by omega)];omega)) (gg (by assumption) (by omega)))) ?_
  exact a7 tk mo hK rfl al [(1,[(1,.aO (.v (.bool false)))])] 2000 [0] r (by kernel_rfl) (U ((by have k:=qv c (by omega) (by omega);rw [h0] at k;exact k):aB Tryd.prog 13 [.ag [.z c.aq,.d (.ro 2 (ah c.ah)),.d (.ro 1 (ints c.homes))]] (.v (.bool false))) trivial)
 | true=>
  refine cd (todo':=hd Tryd.f7 0) (E':=[(6,.ep 2 1 (0) 0),(16,.d (.ro 7 (steps l))),(17,.n l.length),(18,.z 0)]) (M':=[.gw 0 ai,.bx 25 [.z c.aq,.d (.ro 2 (ah c.ah)),.d (.ro 1 (ints c.homes))],.rw 81 1 ([[.em 5 1 (af (([])++cg c))]])]) tk mo hK al [(1,[(1,.aO (.v (.bool true)))]),(3,[(0,.mem [] (.ep 0 1 (0) 0) [.rw 81 1 ([[.em 5 1 (af ([]))]])])]),(4,[(2,.mem [2] (.tu []) [.rw 81 1 ([[.em 5 1 (af (([])++cg c))]])])]),(5,[(1,.z (((l.length:Nat):Int)))])] 2000 [0,1,2] [6,16,17,18] r (by kernel_rfl) (U ((by have k:=qv c (by omega) (by omega);rw [h0] at k;exact k):aB Tryd.prog 13 [.ag [.z c.aq,.d (.ro 2 (ah c.ah)),.d (.ro 1 (ints c.homes))]] (.v (.bool true))) (U (Ly) (U (Kf ([]) c (by simp) hc hh) (U ((by first | rfl | simp [af,ah,ints,steps,strs]):(((steps l).length:Nat):Int)=((l.length:Nat):Int)) trivial)))) fun ac wd r=>?_
  refine aD.rounds (Φ:=fun (i:Nat) ac wd=>(ln l i∧(b9 (cg c) (l.take i)).length≤3200000)∧RB D w0 K 37 bs [(6,.ep 2 1 (0) 0),(16,.d (.ro 7 (steps l))),(17,.n l.length),(18,.n i)] [.gw 0 ai,.bx 25 [.z c.aq,.d (.ro 2 (ah c.ah)),.d (.ro 1 (ints c.homes))],.rw 81 1 ([[.em 5 1 (af (b9 (cg c) (l.take i)))]])] ac wd) (l.length) ?_ (Nat.zero_le _) ⟨⟨ln.none l,by rw [List.take_zero];simp only [b9];rw [r4];omega⟩,(r).cast rfl (by simp [b9])⟩
  clear r
  rintro i eA bP ac wd ⟨ao,r⟩
  have hlen:=ao.2
  cases h1:(decide ((((i:Nat):Int):Int)<((l.length:Nat):Int))) with
  | false=>
   have cm:=of_decide_eq_false h1
   cases h2:(decide ((65536:Int)<(((b9 (cg c) (l.take i)).length:Nat):Int))) with
   | false=>
    have c8:=of_decide_eq_false h2
    refine a8 (y:=.tu [.sl 1 ((b9 (cg c) (l.take i)).length),.z 0]) (N':=[.gw 0 ai,.rw 5 1 (af (b9 (cg c) (l.take i)))]) ((by first | exact jo (gh (.inl (by assumption))) (by decide) | exact jo (gh (.inr (l3 dv (by assumption)))) (by decide) | exact jo (lS (by assumption) (ao.1.all (by assumption)) (lV (by assumption) (by omega))) (by decide) | exact rJ (kR (by assumption) (ao.1.all (by assumption)) (by rw [← gg (by assumption) (by omega)];omega)) (gg (by assumption) (by omega)))) ((by first | exact jq (gh (.inl (by assumption))) (by decide) | exact jq (gh (.inr (l3 dv (by assumption)))) (by decide) | exact jq (lS (by assumption) (ao.1.all (by assumption)) (lV (by assumption) (by omega))) (by decide) | exact rK (kR (by assumption) (ao.1.all (by assumption)) (by rw [← gg (by assumption) (by omega)];omega)) (gg (by assumption) (by omega)))) ?_
    exact a7 tk mo hK rfl al [(6,[(0,.b false)]),(13,[(1,.mem [2] (.n ((b9 (cg c) (l.take i)).length)) [.rw 81 1 ([[.em 5 1 (af (b9 (cg c) (l.take i)))]])]),(2,.b false)]),(15,[(1,.mem [2] (.sl 1 ((b9 (cg c) (l.take i)).length)) [.rw 81 1 (List.set [[.em 5 1 (af (b9 (cg c) (l.take i)))]] 0 [.jk]),.rw 5 1 (af (b9 (cg c) (l.take i)))])])] 2000 [0,3] r (by kernel_rfl) (U h1 (U (tl (b9 (cg c) (l.take i))) (U h2 (U (Kc (b9 (cg c) (l.take i)) (by omega)) trivial))))
   | true=>
    have c8:=of_decide_eq_true h2
    refine a8 (y:=.tu [.d (.v (.slice none 0 0)),.z 2]) (N':=[.gw 0 ai]) ((by first | exact jo (gh (.inl (by assumption))) (by decide) | exact jo (gh (.inr (l3 dv (by assumption)))) (by decide) | exact jo (lS (by assumption) (ao.1.all (by assumption)) (lV (by assumption) (by omega))) (by decide) | exact rJ (kR (by assumption) (ao.1.all (by assumption)) (by rw [← gg (by assumption) (by omega)];omega)) (gg (by assumption) (by omega)))) ((by first | exact jq (gh (.inl (by assumption))) (by decide) | exact jq (gh (.inr (l3 dv (by assumption)))) (by decide) | exact jq (lS (by assumption) (ao.1.all (by assumption)) (lV (by assumption) (by omega))) (by decide) | exact rK (kR (by assumption) (ao.1.all (by assumption)) (by rw [← gg (by assumption) (by omega)];omega)) (gg (by assumption) (by omega)))) ?_
    exact a7 tk mo hK rfl al [(6,[(0,.b false)]),(13,[(1,.mem [2] (.n ((b9 (cg c) (l.take i)).length)) [.rw 81 1 ([[.em 5 1 (af (b9 (cg c) (l.take i)))]])]),(2,.b true)])] 2000 [0] r (by kernel_rfl) (U h1 (U (tl (b9 (cg c) (l.take i))) (U h2 trivial)))
  | true=>
   have cm:=of_decide_eq_true h1
   obtain ⟨bg,dv⟩:∃ x_,l[i]?=some x_:=⟨_,List.getElem?_eq_getElem (by omega)⟩
   have e6:=(hr _ (List.mem_of_getElem? dv)).inc
   cases h3:(hasB bg) with
   | false=>
    refine a8 (y:=.tu [.d (.v (.slice none 0 0)),.z 1]) (N':=[.gw 0 ai]) ((by first | exact jo (gh (.inl (by assumption))) (by decide) | exact jo (gh (.inr (l3 dv (by assumption)))) (by decide) | exact jo (lS (by assumption) (ao.1.all (by assumption)) (lV (by assumption) (by omega))) (by decide) | exact rJ (kR (by assumption) (ao.1.all (by assumption)) (by rw [← gg (by assumption) (by omega)];omega)) (gg (by assumption) (by omega)))) ((by first | exact jq (gh (.inl (by assumption))) (by decide) | exact jq (gh (.inr (l3 dv (by assumption)))) (by decide) | exact jq (lS (by assumption) (ao.1.all (by assumption)) (lV (by assumption) (by omega))) (by decide) | exact rK (kR (by assumption) (ao.1.all (by assumption)) (by rw [← gg (by assumption) (by omega)];omega)) (gg (by assumption) (by omega)))) ?_
    exact a7 tk mo hK rfl al [(6,[(0,.b true)]),(7,[(0,.ix (i) [.z bg.kind,.z bg.node,.z bg.peer,.z bg.n,.z bg.bit,.u bg.inc,.ro 1 (af bg.body)])]),(8,[(1,.mem [0] (.d (.v (.bool (hasB bg)))) [.gw 0 ai]),(2,.b true)])] 2000 [0] r (by kernel_rfl) (U h1 (U (aP ((i:Nat):Int)) (U (kP dv) (U (w9 bg) (U ((by rw [h3];rfl):(!(hasB bg))=true) trivial)))))
   | true=>
    have N2:=nq ‹hasB bg=true›
    have dN:=Hq (s:=bg) (by omega) (by omega)
    cases h4:(decide (((((b9 (cg c) (l.take i)).length:Nat):Int):Int)≤65536)) with
    | false=>
     have fk:=of_decide_eq_false h4
     exact cd (todo':=hd Tryd.f7 0) (E':=[(6,.ep 2 1 (0) 0),(16,.d (.ro 7 (steps l))),(17,.n l.length),(18,.n (i+1))]) (M':=[.gw 0 ai,.bx 25 [.z c.aq,.d (.ro 2 (ah c.ah)),.d (.ro 1 (ints c.homes))],.rw 81 1 ([[.em 5 1 (af (b9 (cg c) (l.take i)))]])]) tk mo hK al [(6,[(0,.b true)]),(7,[(0,.ix (i) [.z bg.kind,.z bg.node,.z bg.peer,.z bg.n,.z bg.bit,.u bg.inc,.ro 1 (af bg.body)])]),(8,[(1,.mem [0] (.d (.v (.bool (hasB bg)))) [.gw 0 ai]),(2,.b false)]),(10,[(1,.mem [2] (.n ((b9 (cg c) (l.take i)).length)) [.rw 81 1 ([[.em 5 1 (af (b9 (cg c) (l.take i)))]])]),(2,.b false)]),(12,[(0,.z (((i+1:Nat):Int)))])] 2000 [0,1,2] [6,16,17,18] r (by kernel_rfl) (U h1 (U (aP ((i:Nat):Int)) (U (kP dv) (U (w9 bg) (U ((by rw [h3];rfl):(!(hasB bg))=false) (U (tl (b9 (cg c) (l.take i))) (U h4 (U ((wi (by omega)):IntKind.i64.wrap ((((i:Nat):Int):Int)+1)=((i+1:Nat):Int)) trivial)))))))) fun ac wd r=>bP (by omega) ac wd ⟨⟨ao.1.next dv (by assumption),by rw [rI _ dv];split<;>first | omega | (simp;omega)⟩,r.cast rfl (by rw [rI _ dv];first | rw [if_pos (by omega)] | rw [if_neg (by omega)])⟩
    | true=>
     have fk:=of_decide_eq_true h4
     exact cd (todo':=hd Tryd.f7 0) (E':=[(6,.ep 2 1 (0) 0),(16,.d (.ro 7 (steps l))),(17,.n l.length),(18,.n (i+1))]) (M':=[.gw 0 ai,.bx 25 [.z c.aq,.d (.ro 2 (ah c.ah)),.d (.ro 1 (ints c.homes))],.rw 81 1 ([[.em 5 1 (af ((b9 (cg c) (l.take i))++cz bg))]])]) tk mo hK al [(6,[(0,.b true)]),(7,[(0,.ix (i) [.z bg.kind,.z bg.node,.z bg.peer,.z bg.n,.z bg.bit,.u bg.inc,.ro 1 (af bg.body)])]),(8,[(1,.mem [0] (.d (.v (.bool (hasB bg)))) [.gw 0 ai]),(2,.b false)]),(10,[(1,.mem [2] (.n ((b9 (cg c) (l.take i)).length)) [.rw 81 1 ([[.em 5 1 (af (b9 (cg c) (l.take i)))]])]),(2,.b true)]),(11,[(2,.mem [2,0] (.tu []) [.rw 81 1 ([[.em 5 1 (af ((b9 (cg c) (l.take i))++cz bg))]]),.gw 0 ai])]),(12,[(0,.z (((i+1:Nat):Int)))])] 2000 [0,1,2] [6,16,17,18] r (by kernel_rfl) (U h1 (U (aP ((i:Nat):Int)) (U (kP dv) (U (w9 bg) (U ((by rw [h3];rfl):(!(hasB bg))=false) (U (tl (b9 (cg c) (l.take i))) (U h4 (U (FV (b9 (cg c) (l.take i)) bg (by omega) (by omega) (by omega) (by omega) (by omega) (by omega) (by omega)) (U ((wi (by omega)):IntKind.i64.wrap ((((i:Nat):Int):Int)+1)=((i+1:Nat):Int)) trivial))))))))) fun ac wd r=>bP (by omega) ac wd ⟨⟨ao.1.next dv (by assumption),by rw [rI _ dv];split<;>first | omega | (simp;omega)⟩,r.cast rfl (by rw [rI _ dv];first | rw [if_pos (by omega)] | rw [if_neg (by omega)])⟩
end Go.Proofs.YtcnpikbbmbombaaDoor
namespace Go.Proofs.YtcnpikbbmbombaaDoor
open Go.RowKit
theorem aA.MT {P:Program} {f:FuncId} {args:List AV} {M M':List aj} {k:Nat} {x:AV} (h:aA P f args M (.tu [.d (.v (.slice none 0 0)),x]) M'):aA P f args M (.tu [.d (.ro k []),x]) M':=by
 refine ⟨h.1,fun ys R hK hl hr=>(h.2 ys R hK hl hr).mono ?_⟩
 rintro e w' ⟨v,rfl,ax,F',I',R',e1,hI,ha⟩
 refine ⟨v,rfl,ax,F',I',R',e1,hI,?_⟩
 cases ha with
 | tu vs N3 DB=>
  refine .tu vs N3 fun j c y h1 h2=>?_
  cases j with
  | zero=>
   simp at h1;subst h1
   have h0:=DB 0 _ y rfl h2
   cases h0 with | d h0=>exact .d (Le.w5 k _ _ _ h0)
  | succ j=>exact DB (j+1) c y h1 h2
theorem zJ (c:bk) (hl:c.ah.length≤9223372036854775807) (hh:c.homes.length≤9223372036854775807):aB Tryd.prog 10 [.ag [.z c.aq,.d (.ro 2 (ah c.ah)),.d (.ro 1 (ints c.homes))],.ag [.z c.aq,.d (.ro 2 (ah c.ah)),.d (.ro 1 (ints c.homes))]] (.v (.bool true)):=by
 have q:=IQ c c hl hh
 rw [show ku c c=true from decide_eq_true rfl] at q;exact q
theorem rL (l:List az) (hl:l.length≤9223372036854775807):aB Tryd.prog 11 [.d (.ro 7 (steps l)),.d (.ro 7 (steps l))] (.v (.bool true)):=by
 have q:=IS l l hl
 rw [show iz l l=true from decide_eq_true rfl] at q;exact q
theorem Ap {c:bk} {l:List az} (h:decide (ct c l=0)=true):(bY c l).length≤65536:=by
 have h:=of_decide_eq_true h
 unfold ct at h
 cases h2:decide (65536<(bY c l).length) with
 | false=>exact Nat.not_lt.1 (of_decide_eq_false h2)
 | true=>
  rw [h2] at h
  generalize cf c=a at h;generalize l.all hasB=b at h
  cases a<;>cases b<;>cases h
theorem vZ (c:bk) (l:List az) (hc:c.ah.length≤1048576) (hh:c.homes.length≤1048576) (hl:l.length≤9223372036854775807) (hr:∀ s ∈ l,s.Rd) (h:decide (ct c l=0)=true):aA Tryd.prog 7 [.ag [.z c.aq,.d (.ro 2 (ah c.ah)),.d (.ro 1 (ints c.homes))],.d (.ro 7 (steps l))] [.gw 0 ai] (.tu [.sl 1 (bY c l).length,.z 0]) [.gw 0 ai,.rw 5 1 (af (bY c l))]:=by
 have q:=BE c l hc hh hl hr
 unfold mA mB at q;rw [h] at q;exact q
theorem Cc (c:bk) (l:List az) (hc:c.ah.length≤1048576) (hh:c.homes.length≤1048576) (hl:l.length≤9223372036854775807) (hr:∀ s ∈ l,s.Rd) (h:decide (ct c l=0)=false):aA Tryd.prog 7 [.ag [.z c.aq,.d (.ro 2 (ah c.ah)),.d (.ro 1 (ints c.homes))],.d (.ro 7 (steps l))] [.gw 0 ai] (.tu [.d (.ro 1 (af [])),.z (ct c l)]) [.gw 0 ai]:=by
 have q:=BE c l hc hh hl hr
 unfold mA mB at q;rw [h] at q;exact aA.MT q
end Go.Proofs.YtcnpikbbmbombaaDoor
namespace Go.Proofs.YtcnpikbbmbombaaDoor
open Go.RowKit
def yG (l:List UInt8) (k:Nat):List aj:=ig (l.drop k) (decide (l.length<k))
theorem pE (l:List UInt8) (k:Nat):aA Tryd.prog 46 [.pt 0 0] (yG l k) (.d (.v (.int .u8 (((l.getD k 0).toNat:Nat):Int)))) (yG l (k+1)):=by
 have h:=DA (l.drop k) (decide (l.length<k))
 unfold aK dZ ej at h
 unfold yG
 rcases Nat.lt_or_ge k l.length with h1 | h1
 ·have e:¬ iO (l.drop k) (decide (l.length<k)) 1:=by rintro (q | q | q);exact absurd (of_decide_eq_true q) (by omega);exact absurd q (by decide);simp at q;omega
  rw [if_neg e,if_neg e,if_neg e] at h
  rw [decide_eq_false (show ¬ l.length<k+1 by omega)]
  simp [List.getD_eq_getElem?_getD,List.getElem?_take,Nat.add_comm] at h ⊢
  exact h
 ·have e:iO (l.drop k) (decide (l.length<k)) 1:=.inr (.inr (by simp;omega))
  rw [if_pos e,if_pos e,if_pos e] at h
  rw [decide_eq_true (show l.length<k+1 by omega),Ao h1]
  rw [List.drop_of_length_le (show l.length≤k+1 by omega)]
  rw [List.drop_of_length_le h1] at h ⊢
  exact h
theorem tL (b:UInt8):IntKind.i64.wrap ((b.toNat:Nat):Int)=((b.toNat:Nat):Int):=wi (by have:=b.toNat_lt;omega)
def gV (l:List UInt8) (k:Nat):Int:=(((l.getD k 0).toNat:Nat):Int)
def gN (l:List UInt8):Nat:=(l.getD 1 0).toNat
def gL (l:List UInt8) (i:Nat):List (Int×Int):=(List.range i).map fun j=>(gV l (2+2*j),gV l (2+2*j+1))
def gM (l:List UInt8):Nat:=(l.getD (2+2*gN l) 0).toNat
def gH (l:List UInt8) (i:Nat):List Int:=(List.range i).map fun j=>gV l (2+2*gN l+1+j)
def gC (l:List UInt8):bk:=⟨gV l 0,gL l (gN l),gH l (gM l)⟩
def gE (l:List UInt8):Nat:=2+2*gN l+1+gM l
theorem IY (l:List UInt8) (i:Nat):gL l (i+1)=gL l i++[(gV l (2+2*i),gV l (2+2*i+1))]:=by unfold gL;rw [List.range_succ,List.map_append];rfl
theorem IZ (l:List UInt8) (i:Nat):gH l (i+1)=gH l i++[gV l (2+2*gN l+1+i)]:=by unfold gH;rw [List.range_succ,List.map_append];rfl
theorem df (l:List UInt8) (i:Nat):(gL l i).length=i:=by simp [gL]
theorem dh (l:List UInt8) (i:Nat):(gH l i).length=i:=by simp [gH]
theorem xc (l:List UInt8):gN l<256:=(l.getD 1 0).toNat_lt
theorem xd (l:List UInt8):gM l<256:=(l.getD _ 0).toNat_lt
set_option maxRecDepth 100000 in
theorem Kg (l:List UInt8):aA Tryd.prog 26 [.pt 0 0] [.bx 102 [.d (.ro 1 (af (l.drop (0)))),.d (.v (.bool ((decide (l.length<(0))))))]] (.ag [.z (gV l 0),.sl 1 (gN l),.sl 2 (gM l)]) ([.bx 102 [.d (.ro 1 (af (l.drop (2+2*gN l+1+gM l)))),.d (.v (.bool ((decide (l.length<(2+2*gN l+1+gM l))))))],.rw 71 2 (ah (gL l (gN l))),.rw 3 1 (ints (gH l (gM l)))]):=by
 refine aA.intro (by kernel_rfl) rfl rfl 42 rfl rfl fun D w0 K bs ac wd hK (al:bs.m=1) r=>?_
 refine cd (todo':=hd Tryd.f26 0) (E':=[(0,.pt 0 0),(2,.pt 1 0),(3,.pt 2 0),(10,.d (.v (.int .u8 ((((l.getD (0+1) 0).toNat:Nat):Int))))),(11,.d (.v (.int .u8 0)))]) (M':=[.bx 102 [.d (.ro 1 (af (l.drop (0+1+1)))),.d (.v (.bool ((decide (l.length<(0+1+1))))))],.bx 25 [.z 0,.d (.v (.slice none 0 0)),.d (.v (.slice none 0 0))],.bx 25 [.n ((l.getD (0) 0).toNat),.d (.v (.slice none 0 0)),.d (.v (.slice none 0 0))]]) tk mo hK al [(1,[(1,.mem [0] (.d (.v (.int .u8 ((((l.getD (0) 0).toNat:Nat):Int))))) [.bx 102 [.d (.ro 1 (af (l.drop (0+1)))),.d (.v (.bool ((decide (l.length<(0+1))))))]]),(2,.z ((((l.getD (0) 0).toNat:Nat):Int)))]),(2,[(1,.mem [0] (.d (.v (.int .u8 ((((l.getD (0+1) 0).toNat:Nat):Int))))) [.bx 102 [.d (.ro 1 (af (l.drop (0+1+1)))),.d (.v (.bool ((decide (l.length<(0+1+1))))))]])])] 2000 [0,1,2] [0,2,3,10,11] r (by kernel_rfl) (U (pE l (0)) (U ((tL _):IntKind.i64.wrap ((((l.getD (0) 0).toNat:Nat):Int))=(((l.getD (0) 0).toNat:Nat):Int)) (U (pE l (0+1)) trivial))) fun ac wd r=>?_
 refine aD.rounds (Φ:=fun (i:Nat) ac wd=>(i≤gN l)∧RB D w0 K 42 bs [(0,.pt 0 0),(2,.pt 1 0),(3,.pt 2 0),(10,.d (.v (.int .u8 (((gN l:Nat):Int))))),(11,.d (.v (.int .u8 (((i:Nat):Int)))))] [.bx 102 [.d (.ro 1 (af (l.drop (2+2*i)))),.d (.v (.bool ((decide (l.length<(2+2*i))))))],.bx 25 [.z 0,.d (.v (.slice none 0 0)),.d (.v (.slice none 0 0))],.bx 25 [.z (gV l 0),.sl 3 (i),.d (.v (.slice none 0 0))],.rw 71 2 (ah (gL l i))] ac wd) (gN l) ?_ (Nat.zero_le _) ⟨Nat.zero_le _,r.fE (M1:=[.bx 102 [.d (.ro 1 (af (l.drop (0+1+1)))),.d (.v (.bool ((decide (l.length<(0+1+1))))))],.bx 25 [.z 0,.d (.v (.slice none 0 0)),.d (.v (.slice none 0 0))],.bx 25 [.n ((l.getD (0) 0).toNat),.d (.v (.slice none 0 0)),.d (.v (.slice none 0 0))]]) [] [(2,1,71,2)] (by kernel_rfl) (by kernel_rfl)⟩
 clear r
 rintro i eA bP ac wd ⟨ao,r⟩
 have Pg:=xc l
 cases h0:(decide ((((i:Nat):Int):Int)<((gN l:Nat):Int))) with
 | false=>
  have bH:=of_decide_eq_false h0
  refine cd (todo':=hd Tryd.f26 1) (E':=[(0,.pt 0 0),(2,.pt 1 0),(3,.pt 2 0),(29,.d (.v (.int .u8 ((((l.getD (2+2*i) 0).toNat:Nat):Int))))),(30,.d (.v (.int .u8 0)))]) (M':=[.bx 102 [.d (.ro 1 (af (l.drop (2+2*i+1)))),.d (.v (.bool ((decide (l.length<(2+2*i+1))))))],.bx 25 [.z 0,.d (.v (.slice none 0 0)),.d (.v (.slice none 0 0))],.bx 25 [.z (gV l 0),.sl 3 (i),.d (.v (.slice none 0 0))],.rw 71 2 (ah (gL l i))]) tk mo hK al [(3,[(0,.b false)]),(9,[(1,.mem [0] (.d (.v (.int .u8 ((((l.getD (2+2*i) 0).toNat:Nat):Int))))) [.bx 102 [.d (.ro 1 (af (l.drop (2+2*i+1)))),.d (.v (.bool ((decide (l.length<(2+2*i+1))))))]])])] 2000 [0,1,2,3] [0,2,3,29,30] r (by kernel_rfl) (U h0 (U (pE l (2+2*i)) trivial)) fun ac wd r=>?_
  refine aD.rounds (Φ:=fun (i:Nat) ac wd=>(i≤gM l)∧RB D w0 K 42 bs [(0,.pt 0 0),(2,.pt 1 0),(3,.pt 2 0),(29,.d (.v (.int .u8 (((gM l:Nat):Int))))),(30,.d (.v (.int .u8 (((i:Nat):Int)))))] [.bx 102 [.d (.ro 1 (af (l.drop (2+2*gN l+1+i)))),.d (.v (.bool ((decide (l.length<(2+2*gN l+1+i))))))],.bx 25 [.z 0,.d (.v (.slice none 0 0)),.d (.v (.slice none 0 0))],.bx 25 [.z (gV l 0),.sl 3 ((gN l)),.sl 4 (i)],.rw 71 2 (ah (gL l (gN l))),.rw 3 1 (ints (gH l i))] ac wd) (gM l) ?_ (Nat.zero_le _) ⟨Nat.zero_le _,(r.fE (E1:=[(0,.pt 0 0),(2,.pt 1 0),(3,.pt 2 0),(29,.d (.v (.int .u8 ((((l.getD (2+2*i) 0).toNat:Nat):Int))))),(30,.d (.v (.int .u8 0)))]) (M2:=[.bx 102 [.d (.ro 1 (af (l.drop (2+2*i+1)))),.d (.v (.bool ((decide (l.length<(2+2*i+1))))))],.bx 25 [.z 0,.d (.v (.slice none 0 0)),.d (.v (.slice none 0 0))],.bx 25 [.z (gV l 0),.sl 3 (i),.sl 4 (0)],.rw 71 2 (ah (gL l i)),.rw 3 1 ([])]) (M1:=[.bx 102 [.d (.ro 1 (af (l.drop (2+2*i+1)))),.d (.v (.bool ((decide (l.length<(2+2*i+1))))))],.bx 25 [.z 0,.d (.v (.slice none 0 0)),.d (.v (.slice none 0 0))],.bx 25 [.z (gV l 0),.sl 3 (i),.d (.v (.slice none 0 0))],.rw 71 2 (ah (gL l i))]) [] [(2,2,3,1)] (by kernel_rfl) (by kernel_rfl)).cast (by rw [show i=gN l from by omega];rfl) (by rw [show i=gN l from by omega];rfl)⟩
  clear r
  rintro i rn jT ac wd ⟨dP,r⟩
  have Ph:=xd l
  cases h1:(decide ((((i:Nat):Int):Int)<((gM l:Nat):Int))) with
  | false=>
   have cm:=of_decide_eq_false h1
   refine a8 (y:=.ag [.z (gV l 0),.sl 1 ((gN l)),.sl 2 (i)]) (N':=[.bx 102 [.d (.ro 1 (af (l.drop (2+2*gN l+1+i)))),.d (.v (.bool ((decide (l.length<(2+2*gN l+1+i))))))],.rw 71 2 (ah (gL l (gN l))),.rw 3 1 (ints (gH l i))]) ((by rw [show i=gM l from by omega])) ((by rw [show i=gM l from by omega])) ?_
   exact a7 tk mo hK rfl al [(10,[(0,.b false)])] 2000 [0,3,4] r (by kernel_rfl) (U h1 trivial)
  | true=>
   have cm:=of_decide_eq_true h1
   exact cd (todo':=hd Tryd.f26 1) (E':=[(0,.pt 0 0),(2,.pt 1 0),(3,.pt 2 0),(29,.d (.v (.int .u8 (((gM l:Nat):Int))))),(30,.d (.v (.int .u8 (((i+1:Nat):Int)))))]) (M':=[.bx 102 [.d (.ro 1 (af (l.drop (2+2*gN l+1+i+1)))),.d (.v (.bool ((decide (l.length<(2+2*gN l+1+i+1))))))],.bx 25 [.z 0,.d (.v (.slice none 0 0)),.d (.v (.slice none 0 0))],.bx 25 [.z (gV l 0),.sl 3 ((gN l)),.sl 4 (i+(1))],.rw 71 2 (ah (gL l (gN l))),.rw 3 1 (ints (gH l i)++[[.n ((l.getD (2+2*gN l+1+i) 0).toNat)]])]) tk mo hK al [(10,[(0,.b true)]),(11,[(3,.mem [0] (.d (.v (.int .u8 ((((l.getD (2+2*gN l+1+i) 0).toNat:Nat):Int))))) [.bx 102 [.d (.ro 1 (af (l.drop (2+2*gN l+1+i+1)))),.d (.v (.bool ((decide (l.length<(2+2*gN l+1+i+1))))))]]),(4,.z ((((l.getD (2+2*gN l+1+i) 0).toNat:Nat):Int)))]),(12,[(0,.z (((i+1:Nat):Int)))])] 2000 [0,1,2,3,4] [0,2,3,29,30] r (by kernel_rfl) (U h1 (U (pE l (2+2*gN l+1+i)) (U ((tL _):IntKind.i64.wrap ((((l.getD (2+2*gN l+1+i) 0).toNat:Nat):Int))=(((l.getD (2+2*gN l+1+i) 0).toNat:Nat):Int)) (U ((by first | rfl | (simp [ah,ints,df,dh];done) | (simp [ah,ints,df,dh];omega)):(i)=(ints (gH l i)).length) (U ((by first | rfl | (simp [ah,ints,df,dh];done) | (simp [ah,ints,df,dh];omega)):(1)=([[.n ((l.getD (2+2*gN l+1+i) 0).toNat)]]:List (List DV)).length) (U ((by first | omega | (simp [ah,ints,df,dh];done) | (simp [ah,ints,df,dh];omega)):(2*((i)+(1))+192)*8≤281474976710656) (U ((by first | omega | (simp [ah,ints,df,dh];done) | (simp [ah,ints,df,dh];omega)):(i)+(1)<4611686018427387904) (U ((by simp [bc,AV.one,bU,af,ah,ints,steps,strs]):bc ([[.n ((l.getD (2+2*gN l+1+i) 0).toNat)]])) (U ((w8 (by have:=xd l;omega)):IntKind.u8.wrap ((((i:Nat):Int):Int)+1)=((i+1:Nat):Int)) trivial))))))))) fun ac wd r=>jT (by omega) ac wd ⟨(by omega),r.cast rfl (by rw [IZ,show 2+2*gN l+1+(i+1)=2+2*gN l+1+i+1 from by omega];simp [ints,gV])⟩
 | true=>
  have bH:=of_decide_eq_true h0
  exact cd (todo':=hd Tryd.f26 0) (E':=[(0,.pt 0 0),(2,.pt 1 0),(3,.pt 2 0),(10,.d (.v (.int .u8 (((gN l:Nat):Int))))),(11,.d (.v (.int .u8 (((i+1:Nat):Int)))))]) (M':=[.bx 102 [.d (.ro 1 (af (l.drop (2+2*i+1+1)))),.d (.v (.bool ((decide (l.length<(2+2*i+1+1))))))],.bx 25 [.z 0,.d (.v (.slice none 0 0)),.d (.v (.slice none 0 0))],.bx 25 [.z (gV l 0),.sl 3 (i+(1)),.d (.v (.slice none 0 0))],.rw 71 2 (ah (gL l i)++[[.n ((l.getD (2+2*i) 0).toNat),.n ((l.getD (2+2*i+1) 0).toNat)]])]) tk mo hK al [(3,[(0,.b true)]),(5,[(1,.mem [0] (.d (.v (.int .u8 ((((l.getD (2+2*i) 0).toNat:Nat):Int))))) [.bx 102 [.d (.ro 1 (af (l.drop (2+2*i+1)))),.d (.v (.bool ((decide (l.length<(2+2*i+1))))))]]),(2,.z ((((l.getD (2+2*i) 0).toNat:Nat):Int))),(3,.n 0)]),(6,[(1,.mem [0] (.d (.v (.int .u8 ((((l.getD (2+2*i+1) 0).toNat:Nat):Int))))) [.bx 102 [.d (.ro 1 (af (l.drop (2+2*i+1+1)))),.d (.v (.bool ((decide (l.length<(2+2*i+1+1))))))]]),(2,.z ((((l.getD (2+2*i+1) 0).toNat:Nat):Int))),(3,.n 1)]),(8,[(0,.z (((i+1:Nat):Int)))])] 2000 [0,1,2,3] [0,2,3,10,11] r (by kernel_rfl) (U h0 (U (pE l (2+2*i)) (U ((tL _):IntKind.i64.wrap ((((l.getD (2+2*i) 0).toNat:Nat):Int))=(((l.getD (2+2*i) 0).toNat:Nat):Int)) (U (rfl:(0)=((0:Nat):Int)) (U ((by omega):(0)<2) (U (pE l (2+2*i+1)) (U ((tL _):IntKind.i64.wrap ((((l.getD (2+2*i+1) 0).toNat:Nat):Int))=(((l.getD (2+2*i+1) 0).toNat:Nat):Int)) (U (rfl:(1)=((1:Nat):Int)) (U ((by omega):(1)<2) (U ((by first | rfl | (simp [ah,ints,df,dh];done) | (simp [ah,ints,df,dh];omega)):(i)=(ah (gL l i):List (List DV)).length) (U ((by first | rfl | (simp [ah,ints,df,dh];done) | (simp [ah,ints,df,dh];omega)):(1)=([[.n ((l.getD (2+2*i) 0).toNat),.n ((l.getD (2+2*i+1) 0).toNat)]]:List (List DV)).length) (U ((by first | omega | (simp [ah,ints,df,dh];done) | (simp [ah,ints,df,dh];omega)):(2*((i)+(1))+192)*16≤281474976710656) (U ((by first | omega | (simp [ah,ints,df,dh];done) | (simp [ah,ints,df,dh];omega)):(i)+(1)<4611686018427387904) (U ((by simp [bc,AV.one,bU,af,ah,ints,steps,strs]):bc ([[.n ((l.getD (2+2*i) 0).toNat),.n ((l.getD (2+2*i+1) 0).toNat)]])) (U ((w8 (by have:=xc l;omega)):IntKind.u8.wrap ((((i:Nat):Int):Int)+1)=((i+1:Nat):Int)) trivial))))))))))))))) fun ac wd r=>bP (by omega) ac wd ⟨(by omega),r.cast rfl (by rw [IY,show 2+2*(i+1)=2+2*i+1+1 from by omega];simp [ah,gV])⟩
end Go.Proofs.YtcnpikbbmbombaaDoor
namespace Go.Proofs.YtcnpikbbmbombaaDoor
open Go.RowKit
theorem consts {K:World→Prop} {zs ys:List Value} (hl:ys.length=(zs.map fun z=>AV.d (.v z)).length) (hr:∀ (j:Nat) c y,(zs.map fun z=>AV.d (.v z))[j]?=some c→ys[j]?=some y→au K [] c y):ys=zs:=by
 apply List.ext_getElem (by simpa using hl)
 intro j h1 h2
 have key:∀ {a b:Value},au K [] (.d (.v a)) b→b=a:=fun h=>by cases h with | d h=>cases h;rfl
 exact key (hr j (.d (.v zs[j])) ys[j] (by rw [List.getElem?_map,List.getElem?_eq_getElem h2];rfl) (List.getElem?_eq_getElem h1))
theorem aB.qd {P:Program} {f:FuncId} (hc:gG P f=true) {zs:List Value} {v:Value} (h:∀ w,Calls P f zs.toArray w fun e w'=>e=.returned v∧Below w.heap.size w w'):aB P f (zs.map fun z=>AV.d (.v z)) (.v v):=by
 refine ⟨hc,fun w K ys _ hl hr=>?_⟩
 obtain rfl:=consts hl hr
 exact (h w).mono fun e w' ⟨he,g⟩=>⟨v,he,g,[],⟨[],[],rfl,.v _⟩,di.nil _ _⟩
theorem I0 (l:List UInt8) (c:UInt8):aB Tryd.prog 78 [.d (.v (.string ⟨l.toArray⟩)),.d (.v (.string ⟨[c].toArray⟩))] (.z (Go.Lib.indexByte l c)):=
 aB.qd (by kernel_rfl) (zs:=[.string ⟨l.toArray⟩,.string ⟨[c].toArray⟩]) fun w=>(Tryd.strings_Index_one ⟨l.toArray⟩ c w).mono fun e w' ⟨he,hw⟩=>⟨he,hw▸Below.refl _ _⟩
theorem yY (l:List UInt8) (c:UInt8):aB Tryd.prog 68 [.d (.v (.string ⟨l.toArray⟩)),.d (.v (.int .u8 ((c.toNat:Nat):Int)))] (.z (Go.Lib.indexByte l c)):=
 aB.qd (by kernel_rfl) (zs:=[.string ⟨l.toArray⟩,.int .u8 ((c.toNat:Nat):Int)]) fun w=>(Tryd.strings_IndexByte ⟨l.toArray⟩ ((c.toNat:Nat):Int) w).mono fun e w' ⟨he,hw⟩=>⟨by rw [he];simp,hw▸Below.refl _ _⟩
theorem I5 (l:List UInt8) (c:UInt8):aB Tryd.prog 77 [.d (.v (.string ⟨l.toArray⟩)),.d (.v (.string ⟨[c].toArray⟩))] (.z (Go.Lib.countByte l c)):=
 aB.qd (by kernel_rfl) (zs:=[.string ⟨l.toArray⟩,.string ⟨[c].toArray⟩]) fun w=>(Tryd.strings_Count_one ⟨l.toArray⟩ c w).mono fun e w' ⟨he,hw⟩=>⟨he,hw▸Below.refl _ _⟩
theorem xe:qt Tryd.prog 59:=⟨_,Tryd.func59,by kernel_rfl,by kernel_rfl,by kernel_rfl,by kernel_rfl⟩
theorem MU:ta Tryd.prog 80 5:=⟨_,_,Tryd.func80,by kernel_rfl,by kernel_rfl,by kernel_rfl,by kernel_rfl,rfl,Tryd.underlying29⟩
set_option maxRecDepth 100000 in
theorem Kh (n:Nat) (hn:n≤1099511627776):aA Tryd.prog 70 [.pt 0 0,.n n] [.bx 56 [.pt 0 0,.d (.v (.slice none 0 0))]] (.tu []) ([.bx 56 [.pt 0 0,.sl 1 0],.rw 5 1 []]):=by
 refine aA.intro (by kernel_rfl) rfl rfl 30 rfl rfl fun D w0 K bs ac wd hK (al:bs.m=1) r=>?_
 refine a8 (y:=.tu []) (N':=[.bx 56 [.pt 0 0,.sl 1 (0)],.rw 5 1 ((([]:List (List DV))).take (0)++((List.replicate (n) [.jk]).take (0)).drop (0))]) (rfl) (rfl) ?_
 exact a7 tk mo hK rfl al [(0,[(5,.z (0)),(7,.z (((n:Nat):Int))),(8,.n2 (n) 5),(14,.n (0))]),(1,[(5,.n (0))])] 2000 [0,1] r (by kernel_rfl) (U ((by decide):IntKind.i64.wrap ((2:Int)*0)=0) (U ((wi (by omega)):IntKind.i64.wrap ((0:Int)+((n:Nat):Int))=((n:Nat):Int)) (U (MU:ta Tryd.prog 80 5) (U (aP ((n:Nat):Int)) (U ((by first | omega | decide | (simp;done) | (simp;omega)):(n)≤281474976710656) (U (aP ((0:Nat):Int)) (U ((by first | omega | decide | (simp;done) | (simp;omega)):(0)≤(n)) (U ((by first | rfl | (simp;done) | (simp<;>omega)):(n)=(List.replicate (n) [.jk]:List (List DV)).length) (U ((by first | rfl | (simp;done) | (simp<;>omega)):(0)=((List.replicate (n) [.jk]).take (0):List (List DV)).length) (U (rfl:min (([]:List (List DV)):List (List DV)).length (0)=0) (U ((by simp [bc,AV.one,bU,af,ah,ints,steps,strs]):bc (([]:List (List DV)))) trivial)))))))))))
end Go.Proofs.YtcnpikbbmbombaaDoor
namespace Go.Proofs.YtcnpikbbmbombaaDoor
open Go.RowKit
theorem Ey (l:List (List UInt8)):cx (strs l)=strs l:=by rw [jM];unfold strs;rw [List.map_map];apply List.map_congr_left;intro b _;rfl
def ay (c:UInt8):List UInt8→List UInt8
 | []=>[]
 | x::r=>if x=c then [] else x::ay c r
def bW (c:UInt8) (s:List UInt8):List UInt8:=s.drop ((ay c s).length+1)
def aL (c:UInt8):List UInt8→List (List UInt8)
 | []=>[[]]
 | x::r=>if x=c then []::aL c r else (match aL c r with | w::ws=>(x::w)::ws | []=>[[x]])
theorem tX {c:UInt8}:∀ {s:List UInt8},0<s.count c→aL c s=ay c s::aL c (bW c s)
 | [],h=>by simp at h
 | x::r,h=>by
  by_cases hx:x=c
  ·subst hx;simp [aL,ay,bW]
  ·have h2:0<r.count c:=by rw [List.count_cons_of_ne hx] at h;exact h
   have ih:=tX h2
   simp only [aL,ay,if_neg hx,bW,List.length_cons,List.drop_succ_cons]
   rw [ih];rfl
theorem tS {c:UInt8}:∀ {s:List UInt8},s.count c=0→aL c s=[s]
 | [],_=>rfl
 | x::r,h=>by
  by_cases hx:x=c
  ·subst hx;simp at h
  ·have h2:r.count c=0:=by rw [List.count_cons_of_ne hx] at h;exact h
   simp only [aL,if_neg hx];rw [tS h2]
theorem vf {c:UInt8}:∀ {s:List UInt8},0<s.count c→Go.Lib.indexByte s c=(((ay c s).length:Nat):Int)
 | [],h=>by simp at h
 | x::r,h=>by
  by_cases hx:x=c
  ·subst hx;simp [Go.Lib.indexByte,ay]
  ·have h2:0<r.count c:=by rw [List.count_cons_of_ne hx] at h;exact h
   have ih:=vf h2
   have hb:(x==c)=false:=by simpa using hx
   unfold Go.Lib.indexByte
   rw [hb,ih]
   simp only [ay,if_neg hx,List.length_cons,Bool.false_eq_true,if_false]
   rw [if_neg (by first | (simp;done) | (simp;omega))];simp
theorem Aq {c:UInt8}:∀ {s:List UInt8},s.count c=0→Go.Lib.indexByte s c = -1
 | [],_=>rfl
 | x::r,h=>by
  by_cases hx:x=c
  ·subst hx;simp at h
  ·have h2:r.count c=0:=by rw [List.count_cons_of_ne hx] at h;exact h
   have hb:(x==c)=false:=by simpa using hx
   unfold Go.Lib.indexByte
   rw [hb,Aq h2];rfl
theorem jr {c:UInt8}:∀ {s:List UInt8},0<s.count c→(ay c s).length<s.length
 | [],h=>by simp at h
 | x::r,h=>by
  by_cases hx:x=c
  ·subst hx;simp [ay]
  ·have h2:0<r.count c:=by rw [List.count_cons_of_ne hx] at h;exact h
   simp only [ay,if_neg hx,List.length_cons];have:=jr h2;omega
theorem p5 {c:UInt8}:∀ (s:List UInt8),s.take (ay c s).length=ay c s
 | []=>rfl
 | x::r=>by
  by_cases hx:x=c
  ·subst hx;simp [ay]
  ·simp only [ay,if_neg hx,List.length_cons,List.take_succ_cons];rw [p5 r]
theorem tY {c:UInt8}:∀ {s:List UInt8},0<s.count c→s.count c=(bW c s).count c+1
 | [],h=>by simp at h
 | x::r,h=>by
  by_cases hx:x=c
  ·subst hx;simp [ay,bW]
  ·have h2:0<r.count c:=by rw [List.count_cons_of_ne hx] at h;exact h
   have:=tY h2
   simp only [bW,ay,if_neg hx,List.length_cons,List.drop_succ_cons] at *
   rw [List.count_cons_of_ne hx];exact this
theorem gD (c:UInt8) (s:List UInt8):(aL c s).length=s.count c+1:=by
 have key:∀ (n:Nat) (s:List UInt8),s.count c=n→(aL c s).length=n+1:=by
  intro n
  induction n with
  | zero=>intro s h;rw [tS h];rfl
  | succ n ih=>intro s h;have h2:=tY (c:=c) (s:=s) (by omega);rw [tX (by omega),List.length_cons,ih _ (by omega)]
 exact key _ s rfl
def dV (c:UInt8) (l:List UInt8) (i:Nat):List (List UInt8):=(aL c l).take i++List.replicate (l.count c+1-i) []
theorem Ar (l:List (List UInt8)) (i:Nat) (x:List UInt8):(strs l).set i [.v (.string ⟨x.toArray⟩)]=strs (l.set i x):=by unfold strs;rw [List.map_set]
theorem zk {c:UInt8} {l w:List UInt8} {i:Nat} (h:(aL c l)[i]?=some w):(dV c l i).set i w=dV c l (i+1):=by
 obtain ⟨aI,rfl⟩:=List.getElem?_eq_some_iff.1 h
 have hl:=gD c l
 unfold dV
 have h1:((aL c l).take i).length=i:=by simp;omega
 rw [List.set_append_right _ _ (by omega),h1,Nat.sub_self,List.take_add_one,List.getElem?_eq_getElem aI,show l.count c+1-i=(l.count c+1-(i+1))+1 from by omega,List.replicate_succ,List.set_cons_zero,List.append_assoc]
 rfl
theorem zl {c:UInt8} {l:List UInt8} {i:Nat} (h:i≤l.count c):(dV c l i)[i]?=some []:=by
 have hl:=gD c l
 have h1:((aL c l).take i).length=i:=by simp;omega
 unfold dV
 rw [List.getElem?_append_right (by omega),h1,Nat.sub_self,List.getElem?_replicate,if_pos (by omega)]
theorem FW {c:UInt8} {l w:List UInt8} {i:Nat} (h:(aL c l)[i]?=some w) (hi:i=l.count c):strs (aL c l)=List.take (i+1) ((strs (dV c l i)).set i [.v (.string ⟨w.toArray⟩)]):=by
 have hl:=gD c l
 rw [Ar,zk h]
 have e:(aL c l).take (i+1)=aL c l:=List.take_of_length_le (by omega)
 unfold dV strs
 rw [show l.count c+1-(i+1)=0 from by omega,e,List.replicate_zero,List.append_nil,List.take_of_length_le (by simp;omega)]
theorem As {α:Type} {l r:List α} {x:α} {i:Nat} (h:l.drop i=x::r):l[i]?=some x∧l.drop (i+1)=r:=by
 constructor
 ·have:=congrArg (fun q=>q[0]?) h;simpa using this
 ·have:=congrArg (fun q=>q.drop 1) h;simpa [List.drop_drop] using this
set_option maxRecDepth 100000 in
theorem Ez (c:UInt8) (l:List UInt8) (hl:l.length≤1048576) (cu:l.count c≤l.length):aB Tryd.prog 67 [.d (.v (.string ⟨l.toArray⟩)),.d (.v (.string ⟨([c]).toArray⟩)),.z 0,.z (-1)] (DV.em 9 1 (strs (aL c l))):=by
 refine aB.intro (by kernel_rfl) rfl rfl 66 rfl rfl fun w0 K ac hK r=>?_
 refine cO (todo':=hd Tryd.f67 0) (E':=[(0,.d (.v (.string ⟨l.toArray⟩))),(1,.d (.v (.string ⟨([c]).toArray⟩))),(2,.z 0),(3,.n (l.count c)),(9,.sl 0 (l.count c+1)),(10,.z 0)]) (M':=[.rw 9 1 (List.replicate (l.count c+1) [.v (.string .empty)])]) tk mo hK [(3,[(1,.b false)]),(6,[(2,.aO (.n ((l.count c)))),(3,.z ((((l.count c)+1:Nat):Int)))]),(7,[(3,.z (((l.length+1:Nat):Int))),(4,.z (((l.count c+1:Nat):Int)))]),(8,[(1,.n (l.count c+1))]),(9,[(1,.z (((l.count c:Nat):Int)))])] 2000 [0] [0,1,2,3,9,10] r (by kernel_rfl) (U ((by first | decide | simp):(([c]:List UInt8)==[])=false) (U (I5 l c) (U ((wi (by omega)):IntKind.i64.wrap (((((l.count c):Nat):Int):Int)+1)=(((l.count c)+1:Nat):Int)) (U ((wi (by omega)):IntKind.i64.wrap ((((l.length:Nat):Int):Int)+1)=((l.length+1:Nat):Int)) (U ((by omega):(min ((((l.count c)+1:Nat):Int)) (((l.length+1:Nat):Int)):Int)=((l.count c+1:Nat):Int)) (U (aP ((l.count c+1:Nat):Int)) (U (aP ((l.count c+1:Nat):Int)) (U ((by first | omega | (have:=jr kc;omega)):16*(l.count c+1)≤281474976710656) (U ((by first | omega | (have:=jr kc;omega)):(l.count c+1)<4611686018427387904) (U ((wi (by omega)):IntKind.i64.wrap ((((l.count c+1:Nat):Int):Int)-1)=((l.count c:Nat):Int)) trivial)))))))))) fun ac wd r=>?_
 refine aD.rounds (Φ:=fun (i:Nat) ac wd=>∃ s:List UInt8,(i≤l.count c∧(aL c l).drop i=aL c s∧l.count c=i+s.count c∧s.length≤1048576)∧dz [] w0 K 66 [(0,.d (.v (.string ⟨s.toArray⟩))),(1,.d (.v (.string ⟨([c]).toArray⟩))),(2,.z 0),(3,.n ((l.count c))),(9,.sl 0 ((l.count c+1))),(10,.n i)] [.rw 9 1 (strs (dV c l i))] ac wd) ((l.count c)) ?_ (Nat.zero_le _) ⟨l,⟨Nat.zero_le _,rfl,by omega,hl⟩,(r).cast rfl (by simp [strs,dV];rfl)⟩
 clear r
 rintro i eA bP ac wd ⟨s,ao,r⟩
 cases h0:(decide ((((i:Nat):Int):Int)<(((l.count c):Nat):Int))) with
 | false=>
  have bH:=of_decide_eq_false h0
  rw [show (DV.em 9 1 (strs (aL c l)):DV)=.em 9 1 ((List.set (strs (dV c l i)) (i) [.v (.string ⟨s.toArray⟩)]).take (i+1)) from (by rw [FW (As (ao.2.1.trans (tS (by omega)))).1 (by omega)])]
  exact br tk mo hK rfl [(11,[(2,.b false)]),(17,[(3,.n (i)),(4,.ix 0 [.v (.string ⟨([]).toArray⟩)])]),(18,[(2,.z (((i+1:Nat):Int))),(3,.n (i+1))])] 2000 r (by kernel_rfl) (U h0 (U (aP ((i:Nat):Int)) (U ((by first | omega | (have:=jr kc;omega)):(i)<((l.count c+1))) (U ((by first | rfl | (simp [strs,dV,gD];done) | (simp [strs,dV,gD];omega)):((l.count c+1))≤(strs (dV c l i):List (List DV)).length) (U (sh (zl (by omega)):(strs (dV c l i))[i]?=some [.v (.string ⟨([]).toArray⟩)]) (U ((wi (by omega)):IntKind.i64.wrap ((((i:Nat):Int):Int)+1)=((i+1:Nat):Int)) (U (aP ((i+1:Nat):Int)) (U ((by first | omega | (have:=jr kc;omega)):(i+1)≤((l.count c+1))) (U ((by first | rfl | (simp [strs,dV,gD];done) | (simp [strs,dV,gD];omega)):((l.count c+1))=(List.set (strs (dV c l i)) (i) [.v (.string ⟨s.toArray⟩)]:List (List DV)).length) (U ((by first | rfl | (simp [strs,dV,gD];done) | (simp [strs,dV,gD];omega)):(i+1)=((List.set (strs (dV c l i)) (i) [.v (.string ⟨s.toArray⟩)]).take (i+1):List (List DV)).length) trivial))))))))))
 | true=>
  have bH:=of_decide_eq_true h0
  have kc:0<s.count c:=by omega
  have aI:=jr kc
  have fV:=tY kc
  have DC:=As (ao.2.1.trans (tX kc))
  have aZ:=((by have h:=I0 s c;rw [vf kc] at h;exact h):aB Tryd.prog 78 [.d (.v (.string ⟨s.toArray⟩)),.d (.v (.string ⟨([c]).toArray⟩))] (.n ((ay c s).length)))
  cases h1:(decide (((((ay c s).length:Nat):Int):Int)<0)) with
  | false=>
   have cm:=of_decide_eq_false h1
   exact cO (todo':=hd Tryd.f67 0) (E':=[(0,.d (.v (.string ⟨(List.drop ((ay c s).length+1) (s)).toArray⟩))),(1,.d (.v (.string ⟨([c]).toArray⟩))),(2,.z 0),(3,.n ((l.count c))),(9,.sl 0 ((l.count c+1))),(10,.n (i+1))]) (M':=[.rw 9 1 (List.set (strs (dV c l i)) (i) [.v (.string ⟨(List.take ((ay c s).length+0) (s)).toArray⟩)])]) tk mo hK [(11,[(2,.b true)]),(12,[(2,.aO (.n ((ay c s).length)))]),(13,[(1,.b false)]),(14,[(5,.z ((((ay c s).length+0:Nat):Int))),(6,.n2 ((ay c s).length+0) (0)),(7,.n (i)),(8,.ix 0 [.v (.string ⟨([]).toArray⟩)])]),(15,[(3,.z (1)),(4,.z ((((ay c s).length+1:Nat):Int))),(5,.n2 (0) ((ay c s).length+1))]),(16,[(1,.z (((i+1:Nat):Int)))])] 2000 [0] [0,1,2,3,9,10] r (by kernel_rfl) (U h0 (U aZ (U h1 (U ((wi (by omega)):IntKind.i64.wrap (((((ay c s).length:Nat):Int):Int)+0)=(((ay c s).length+0:Nat):Int)) (U (aP (((ay c s).length+0:Nat):Int)) (U ((by have:=jr kc;omega):((ay c s).length+0)≤(s:List UInt8).length) (U (aP ((i:Nat):Int)) (U ((by first | omega | (have:=jr kc;omega)):(i)<((l.count c+1))) (U ((by first | rfl | (simp [strs,dV,gD];done) | (simp [strs,dV,gD];omega)):((l.count c+1))≤(strs (dV c l i):List (List DV)).length) (U (sh (zl (by omega)):(strs (dV c l i))[i]?=some [.v (.string ⟨([]).toArray⟩)]) (U ((by first | rfl | simp):((([c]:List UInt8).length:Nat):Int)=1) (U ((wi (by omega)):IntKind.i64.wrap (((((ay c s).length:Nat):Int):Int)+1)=(((ay c s).length+1:Nat):Int)) (U (aP (((ay c s).length+1:Nat):Int)) (U ((by have:=jr kc;omega):((ay c s).length+1)≤(s:List UInt8).length) (U ((wi (by omega)):IntKind.i64.wrap ((((i:Nat):Int):Int)+1)=((i+1:Nat):Int)) trivial))))))))))))))) fun ac wd r=>bP (by omega) ac wd ⟨(List.drop ((ay c s).length+1) (s)),⟨by omega,DC.2,by unfold bW at fV;omega,by simp;omega⟩,r.cast rfl (by rw [Nat.add_zero,p5,Ar,zk DC.1])⟩
  | true=>
   have cm:=of_decide_eq_true h1
   exact absurd cm (by omega)
theorem FX (c:UInt8) (l:List UInt8) (hl:l.length≤1048576):aB Tryd.prog 67 [.d (.v (.string ⟨l.toArray⟩)),.d (.v (.string ⟨[c].toArray⟩)),.z 0,.z (-1)] (.em 9 1 (strs (aL c l))):=Ez c l hl List.count_le_length
set_option maxRecDepth 100000 in
theorem Ht (c:UInt8) (l:List UInt8) (hl:l.length≤1048576):aB Tryd.prog 52 [.d (.v (.string ⟨l.toArray⟩)),.d (.v (.string ⟨([c]).toArray⟩))] (DV.em 9 1 (strs (aL c l))):=by
 refine aB.intro (by kernel_rfl) rfl rfl 8 rfl rfl fun w0 K ac hK r=>?_
 rw [show (DV.em 9 1 (strs (aL c l)):DV)=.em 9 1 (strs (aL c l)) from rfl]
 exact br tk mo hK rfl [(1,[(2,.aO (.em 9 1 (strs (aL c l))))])] 2000 r (by kernel_rfl) (U (FX c l hl) (U (fj ((strs (aL c l):List (List DV)).length)) trivial))
theorem sj (c:UInt8) (l:List UInt8) (hl:l.length≤1048576):aB Tryd.prog 52 [.d (.v (.string ⟨l.toArray⟩)),.d (.v (.string ⟨[c].toArray⟩))] (.ro 1 (strs (aL c l))):=by
 have h:=(Ht c l hl).stays
 simp only [ef,Ey] at h
 exact h
theorem At (l:List UInt8) (c:UInt8):aB Tryd.prog 75 [.d (.v (.string ⟨l.toArray⟩)),.d (.v (.string ⟨[c].toArray⟩))] (.z (Go.Lib.indexByte l c)):=
 aB.qd (by kernel_rfl) (zs:=[.string ⟨l.toArray⟩,.string ⟨[c].toArray⟩]) fun w=>(Tryd.stringslite_Index_one ⟨l.toArray⟩ c w).mono fun e w' ⟨he,hw⟩=>⟨he,hw▸Below.refl _ _⟩
set_option maxRecDepth 100000 in
theorem Hu (c:UInt8) (l:List UInt8) (hl:l.length≤1048576) (hc:0<l.count c):aB Tryd.prog 66 [.d (.v (.string ⟨l.toArray⟩)),.d (.v (.string ⟨([c]).toArray⟩))] (.tu [.v (.string ⟨(ay c l).toArray⟩),.v (.string ⟨(bW c l).toArray⟩),.v (.bool true)]):=by
 refine aB.intro (by kernel_rfl) rfl rfl 23 rfl rfl fun w0 K ac hK r=>?_
 have aZ:=((by have h:=At l c;rw [vf hc] at h;exact h):aB Tryd.prog 75 [.d (.v (.string ⟨l.toArray⟩)),.d (.v (.string ⟨([c]).toArray⟩))] (.n ((ay c l).length)))
 cases h0:(decide ((0:Int)≤(((ay c l).length:Nat):Int))) with
 | false=>
  have bH:=of_decide_eq_false h0
  exact absurd bH (by omega)
 | true=>
  have bH:=of_decide_eq_true h0
  rw [show (.tu [.v (.string ⟨(ay c l).toArray⟩),.v (.string ⟨(bW c l).toArray⟩),.v (.bool true)]:DV)=.tu [.v (.string ⟨(List.take ((ay c l).length) (l)).toArray⟩),.v (.string ⟨(List.drop ((ay c l).length+1) (l)).toArray⟩),.v (.bool true)] from (by first | rfl | (rw [p5];rfl))]
  exact br tk mo hK rfl [(1,[(2,.aO (.n ((ay c l).length)))]),(2,[(1,.b true)]),(3,[(2,.n2 ((ay c l).length) (0)),(6,.z (1)),(7,.z ((((ay c l).length+1:Nat):Int))),(8,.n2 (0) ((ay c l).length+1))])] 2000 r (by kernel_rfl) (U aZ (U h0 (U (aP (((ay c l).length:Nat):Int)) (U ((by have:=jr hc;omega):((ay c l).length)≤(l:List UInt8).length) (U ((by first | rfl | simp):((([c]:List UInt8).length:Nat):Int)=1) (U ((wi (by have:=jr hc;omega)):IntKind.i64.wrap (((((ay c l).length:Nat):Int):Int)+1)=(((ay c l).length+1:Nat):Int)) (U (aP (((ay c l).length+1:Nat):Int)) (U ((by have:=jr hc;omega):((ay c l).length+1)≤(l:List UInt8).length) trivial))))))))
set_option maxRecDepth 100000 in
theorem oF (c:UInt8) (l:List UInt8) (hl:l.length≤1048576) (hc:0<l.count c):aB Tryd.prog 51 [.d (.v (.string ⟨l.toArray⟩)),.d (.v (.string ⟨([c]).toArray⟩))] (.tu [.v (.string ⟨(ay c l).toArray⟩),.v (.string ⟨(bW c l).toArray⟩),.v (.bool true)]):=by
 refine aB.intro (by kernel_rfl) rfl rfl 13 rfl rfl fun w0 K ac hK r=>?_
 rw [show (.tu [.v (.string ⟨(ay c l).toArray⟩),.v (.string ⟨(bW c l).toArray⟩),.v (.bool true)]:DV)=.tu [.v (.string ⟨(ay c l).toArray⟩),.v (.string ⟨(bW c l).toArray⟩),.v (.bool true)] from rfl]
 exact br tk mo hK rfl [(1,[(2,.aO (.tu [.v (.string ⟨(ay c l).toArray⟩),.v (.string ⟨(bW c l).toArray⟩),.v (.bool true)]))])] 2000 r (by kernel_rfl) (U (Hu c l hl hc) trivial)
set_option maxRecDepth 100000 in
theorem I6 (c:UInt8) (l:List UInt8) (hl:l.length≤1048576) (hc:l.count c=0):aB Tryd.prog 66 [.d (.v (.string ⟨l.toArray⟩)),.d (.v (.string ⟨([c]).toArray⟩))] (.tu [.v (.string ⟨(l).toArray⟩),.v (.string ⟨([]).toArray⟩),.v (.bool false)]):=by
 refine aB.intro (by kernel_rfl) rfl rfl 23 rfl rfl fun w0 K ac hK r=>?_
 rw [show (.tu [.v (.string ⟨(l).toArray⟩),.v (.string ⟨([]).toArray⟩),.v (.bool false)]:DV)=.tu [.v (.string ⟨l.toArray⟩),.v (.string .empty),.v (.bool false)] from (by first | rfl | (rw [p5];rfl))]
 exact br tk mo hK rfl [(1,[(2,.aO (.z (-1)))])] 2000 r (by kernel_rfl) (U ((by have h:=At l c;rw [Aq hc] at h;exact h):aB Tryd.prog 75 [.d (.v (.string ⟨l.toArray⟩)),.d (.v (.string ⟨([c]).toArray⟩))] (.z (-1))) trivial)
set_option maxRecDepth 100000 in
theorem BF (c:UInt8) (l:List UInt8) (hl:l.length≤1048576) (hc:l.count c=0):aB Tryd.prog 51 [.d (.v (.string ⟨l.toArray⟩)),.d (.v (.string ⟨([c]).toArray⟩))] (.tu [.v (.string ⟨(l).toArray⟩),.v (.string ⟨([]).toArray⟩),.v (.bool false)]):=by
 refine aB.intro (by kernel_rfl) rfl rfl 13 rfl rfl fun w0 K ac hK r=>?_
 rw [show (.tu [.v (.string ⟨(l).toArray⟩),.v (.string ⟨([]).toArray⟩),.v (.bool false)]:DV)=.tu [.v (.string ⟨l.toArray⟩),.v (.string ⟨([]).toArray⟩),.v (.bool false)] from rfl]
 exact br tk mo hK rfl [(1,[(2,.aO (.tu [.v (.string ⟨l.toArray⟩),.v (.string ⟨([]).toArray⟩),.v (.bool false)]))])] 2000 r (by kernel_rfl) (U (I6 c l hl hc) trivial)
end Go.Proofs.YtcnpikbbmbombaaDoor
namespace Go.Proofs.YtcnpikbbmbombaaDoor
open Go.RowKit
theorem ju:cY Tryd.prog 54:=by unfold cY;kernel_rfl
theorem Hv {n:Nat} (h0:1≤n) (h:n≤1048576):¬ (1:Int)≥((9223372036854775807 / n:Nat):Int):=by
 have:2≤9223372036854775807 / n:=by rw [Nat.le_div_iff_mul_le h0];omega
 omega
theorem MV (a b:Nat):((a:Nat):Int).tdiv ((b:Nat):Int)=((a / b:Nat):Int):=(Int.ofNat_tdiv a b).symm
theorem MW {n:Nat} (h:n≤1048576):IntKind.i64.wrap ((9223372036854775807:Int).tdiv ((n:Nat):Int))=((9223372036854775807 / n:Nat):Int):=by
 have e:=MV 9223372036854775807 n
 rw [show (9223372036854775807:Int)=((9223372036854775807:Nat):Int) from rfl,e]
 have h2:=Nat.div_le_self 9223372036854775807 n
 generalize 9223372036854775807 / n=q at h2 ⊢
 exact wi (by omega)
def b6 (r:List (List UInt8)):List UInt8:=r.flatMap fun w=>32::w
theorem FY {r:List (List UInt8)} {i:Nat} {e:List UInt8} (h:r[i]?=some e):b6 (r.take (i+1))=b6 (r.take i)++[32]++e:=by
 unfold b6;rw [List.take_add_one,h];simp
theorem ov (r:List (List UInt8)):(b6 r).length=r.length+r.flatten.length:=by
 unfold b6;induction r with
 | nil=>rfl
 | cons x r ih=>rw [List.flatMap_cons,List.length_append,ih];simp;omega
theorem zK {r:List (List UInt8)} {i:Nat} {e:List UInt8} (h:r[i]?=some e):(r.take (i+1)).flatten.length=(r.take i).flatten.length+e.length:=by
 rw [List.take_add_one,h];simp
theorem sk (r:List (List UInt8)) (i:Nat):(r.take i).flatten.length≤r.flatten.length:=by
 have:=congrArg (fun q=>q.flatten.length) (List.take_append_drop i r)
 simp only [List.flatten_append,List.length_append] at this
 omega
theorem Bb (r:List (List UInt8)) (i:Nat):(b6 (r.take i)).length≤(b6 r).length:=by
 rw [ov,ov];have h1:=sk r i;have h2:(r.take i).length≤r.length:=by simp;omega
 omega
theorem I7 {r:List (List UInt8)} {i:Nat} (h:i≤r.length):i≤(b6 (r.take i)).length:=by
 rw [ov,List.length_take];omega
set_option maxRecDepth 100000 in
theorem Hw (x:List UInt8) (q:List (List UInt8)) (hr:1≤q.length) (hl:q.length≤1000000) (hb:(x::q).flatten.length≤1073741824):aB Tryd.prog 42 [.d (.ro 1 (strs (x::q))),.d (.v (.string ⟨([32]).toArray⟩))] (.v (.string ⟨(x++b6 q).toArray⟩)):=by
 refine aB.intro (by kernel_rfl) rfl rfl 75 rfl rfl fun w0 K ac hK r=>?_
 have aZ:=((by first | rfl | (simp [strs];done) | (simp [strs];omega)):(((strs (x::q)).length:Nat):Int)=(((q.length+1):Nat):Int))
 cases h0:(((((q.length+1):Nat):Int):Int)==0) with
 | false=>
  have bH:=ne_of_beq_false h0
  cases h1:(((((q.length+1):Nat):Int):Int)==1) with
  | false=>
   have cm:=ne_of_beq_false h1
   have bO:=((by first | rfl | (simp [strs];done) | (simp [strs];omega)):((([32]:List UInt8).length:Nat):Int)=1)
   have cL:=((wi (by omega)):IntKind.i64.wrap (((((q.length+1):Nat):Int):Int)-1)=((q.length:Nat):Int))
   have dR:=((MW (by omega)):IntKind.i64.wrap ((9223372036854775807:Int).tdiv ((q.length:Nat):Int))=((9223372036854775807 / q.length:Nat):Int))
   cases h2:(decide ((((9223372036854775807 / q.length:Nat):Int):Int)≤1)) with
   | false=>
    have c8:=of_decide_eq_false h2
    refine cO (todo':=hd Tryd.f42 0) (E':=[(0,.d (.ro 1 (strs (x::q)))),(1,.d (.v (.string ⟨([32]).toArray⟩))),(5,.n (q.length+((x::q).take 0).flatten.length)),(39,.d (.ro 1 (strs (x::q)))),(40,.n ((q.length+1))),(41,.n 0)]) (M':=[]) tk mo hK [(1,[(1,.z ((((q.length+1):Nat):Int)))]),(2,[(0,.b false)]),(4,[(0,.b false)]),(7,[(1,.z (1))]),(8,[(1,.z (1)),(3,.z ((((q.length+1):Nat):Int))),(4,.z (((q.length:Nat):Int))),(5,.z (((9223372036854775807 / q.length:Nat):Int))),(6,.b false)]),(10,[(2,.z (1)),(4,.z ((((q.length+1):Nat):Int))),(5,.z (((q.length:Nat):Int))),(6,.z (((q.length:Nat):Int))),(7,.z (((q.length:Nat):Int)))]),(11,[(1,.z ((((q.length+1):Nat):Int)))])] 2000 [] [0,1,5,39,40,41] r (by kernel_rfl) (U aZ (U h0 (U h1 (U bO (U bO (U aZ (U cL (U dR (U ((by omega):(((q.length:Nat):Int):Int)≠0) (U h2 (U bO (U aZ (U cL (U ((wi (by omega)):IntKind.i64.wrap ((1:Int)*((q.length:Nat):Int))=((q.length:Nat):Int)) (U ((wi (by omega)):IntKind.i64.wrap ((0:Int)+((q.length:Nat):Int))=((q.length:Nat):Int)) (U aZ trivial)))))))))))))))) fun ac wd r=>?_
    refine aD.rounds (Φ:=fun (i:Nat) ac wd=>(i≤q.length+1)∧dz [] w0 K 75 [(0,.d (.ro 1 (strs (x::q)))),(1,.d (.v (.string ⟨([32]).toArray⟩))),(5,.n (q.length+((x::q).take i).flatten.length)),(39,.d (.ro 1 (strs (x::q)))),(40,.n ((q.length+1))),(41,.n i)] [] ac wd) (q.length+1) ?_ (Nat.zero_le _) ⟨Nat.zero_le _,r⟩
    clear r
    rintro i eA bP ac wd ⟨ao,r⟩
    have Dc:=sk (x::q) i
    have tB:x.length≤(x::q).flatten.length:=by simp
    have Pj:(b6 q).length=q.length+q.flatten.length:=ov q
    have Pk:(x::q).flatten.length=x.length+q.flatten.length:=by simp
    cases h3:(decide ((((i:Nat):Int):Int)<(((q.length+1):Nat):Int))) with
    | false=>
     have dQ:=of_decide_eq_false h3
     have ic:=((by kernel_rfl):(bif true then mn Tryd.prog 54 119 else mq Tryd.prog 54 119 56 2)=true)
     have ie:=((by kernel_rfl):(bif false then mn Tryd.prog 119 54 else mq Tryd.prog 119 54 56 2)=true)
     cases h4:(decide ((((q.length+((x::q).take i).flatten.length:Nat):Int):Int)<0)) with
     | false=>
      have fk:=of_decide_eq_false h4
      cases h5:(decide ((0:Int)<((q.length+((x::q).take i).flatten.length:Nat):Int))) with
      | false=>
       have fL:=of_decide_eq_false h5
       exact absurd fL (by omega)
      | true=>
       have fL:=of_decide_eq_true h5
       refine cO (todo':=hd Tryd.f42 1) (E':=[(1,.d (.v (.string ⟨([32]).toArray⟩))),(8,.pt 0 0),(63,.d (.ro 1 (List.drop (1) (strs (x::q))))),(64,.n q.length),(65,.z 0)]) (M':=[.bx 56 [.pt 0 0,.sl 1 (0+(x).length)],.rw 5 1 ([]++af x)]) tk mo hK [(12,[(0,.b false)]),(19,[(1,.bG 200 [(0,[(1,.bG 200 [(1,[(2,.b true),(3,.b true),(4,.b false)])])]),(1,[(1,.b false)]),(3,[(10,.z (0)),(12,.b true)]),(4,[(2,.mem [0] (.tu []) [.bx 56 [.pt 0 0,.sl 1 (0)],.rw 5 1 ([])])])])]),(20,[(1,.ix (0) [.v (.string ⟨x.toArray⟩)]),(3,.bG 200 [(1,[(1,.bG 200 [])])])]),(21,[(1,.n2 (0) (1)),(2,.z (((q.length:Nat):Int)))])] 2000 [0,1] [1,8,63,64,65] r (by kernel_rfl) (U h3 (U (ju:cY Tryd.prog 54) (U ic (U ((by decide):0<2) (U (xe:qt Tryd.prog 59) (U ie (U ((by decide):0<2) (U h4 (U ((wi (by omega)):IntKind.i64.wrap ((0:Int)-0)=0) (U h5 (U (Kh (q.length+((x::q).take i).flatten.length) (by omega)) (U (rfl:(0)=((0:Nat):Int)) (U (rfl:(strs (x::q))[0]?=some [.v (.string ⟨x.toArray⟩)]) (U (ju:cY Tryd.prog 54) (U ((by kernel_rfl):je Tryd.prog 54=true) (U ((by first | rfl | (simp [af,strs];done) | (simp [af,strs];omega)):(0)=([]:List (List DV)).length) (U ((by first | omega | (simp [af];omega)):(2*((0)+(x).length)+192)*1≤281474976710656) (U ((by first | omega | (simp [af];omega)):(0)+(x).length<4611686018427387904) (U (rfl:(1:Int)=((1:Nat):Int)) (U ((by first | omega | (simp [af,ah,ints,steps,strs];done) | (simp [af,ah,ints,steps,strs];omega)):(1)≤(strs (x::q):List (List DV)).length) (U ((by first | rfl | (simp [strs];done) | (simp [strs];omega)):(((List.drop (1) (strs (x::q))).length:Nat):Int)=((q.length:Nat):Int)) trivial))))))))))))))))))))) fun ac wd r=>?_
       refine aD.rounds (Φ:=fun (i:Nat) ac wd=>(i≤q.length)∧dz [] w0 K 75 [(1,.d (.v (.string ⟨([32]).toArray⟩))),(8,.pt 0 0),(63,.d (.ro 1 (List.drop 1 (strs (x::q))))),(64,.n q.length),(65,.n i)] [.bx 56 [.pt 0 0,.sl 1 ((x++b6 (q.take i)).length)],.rw 5 1 (af (x++b6 (q.take i)))] ac wd) (q.length) ?_ (Nat.zero_le _) ⟨Nat.zero_le _,(r).cast rfl (by simp [b6,af])⟩
       clear r
       rintro i rn jT ac wd ⟨dP,r⟩
       have Pm:=I7 dP
       have Pn:(af (x++b6 (q.take i))).length=x.length+(b6 (q.take i)).length:=by simp [af]
       have Po:=Bb q i
       have OI:=Bb q (i+1)
       have kC:(x++b6 (q.take i)).length=x.length+(b6 (q.take i)).length:=by simp
       cases h6:(decide ((((i:Nat):Int):Int)<((q.length:Nat):Int))) with
       | false=>
        have ia:=of_decide_eq_false h6
        rw [show (.v (.string ⟨(x++b6 q).toArray⟩):DV)=.v (.string ⟨((x++b6 (q.take i))).toArray⟩) from (by rw [List.take_of_length_le (by omega)])]
        exact br tk mo hK rfl [(22,[(0,.b false)]),(27,[(0,.bG 200 [(1,[(10,.res (.v (.string ⟨((x++b6 (q.take i))).toArray⟩)))])])])] 2000 r (by kernel_rfl) (U h6 (U ((by first | rfl | (simp [af,strs];done) | (simp [af,strs];omega)):((x++b6 (q.take i)).length)=(af (x++b6 (q.take i)):List (List DV)).length) (U ((by first | omega | decide | (simp;done) | (simp;omega)):0<((x++b6 (q.take i)).length)) (U ((by simp [af]):((((x++b6 (q.take i)).length:Nat):Int):Int)=(((af (x++b6 (q.take i)):List (List DV)).length:Nat):Int)) (U ((by first | omega | (simp [af];omega)):0<(af (x++b6 (q.take i)):List (List DV)).length) (U (rfl:af (x++b6 (q.take i))=af ((x++b6 (q.take i)))) (U ((by kernel_rfl):qH Tryd.prog 98 5=true) (U ((by first | omega | decide | (simp;done) | (simp;omega)):(af (x++b6 (q.take i)):List (List DV)).length≤9223372036854775807) trivial))))))))
       | true=>
        have ia:=of_decide_eq_true h6
        obtain ⟨qx,v7⟩:∃ x_,q[i]?=some x_:=⟨_,List.getElem?_eq_getElem (by omega)⟩
        have mQ:=zK v7
        have dW:=sk q (i+1)
        exact cO (todo':=hd Tryd.f42 1) (E':=[(1,.d (.v (.string ⟨([32]).toArray⟩))),(8,.pt 0 0),(63,.d (.ro 1 (List.drop 1 (strs (x::q))))),(64,.n q.length),(65,.n (i+1))]) (M':=[.bx 56 [.pt 0 0,.sl 1 ((x++b6 (q.take i)).length+([32]:List UInt8).length+(qx).length)],.rw 5 1 (af (x++b6 (q.take i))++af [32]++af qx)]) tk mo hK [(22,[(0,.b true)]),(23,[(0,.ix (i) [.v (.string ⟨qx.toArray⟩)])]),(24,[(1,.bG 200 [(1,[(1,.bG 200 [])]),(3,[(1,.z (1))])])]),(25,[(1,.bG 200 [(1,[(1,.bG 200 [])])])]),(26,[(0,.z (((i+1:Nat):Int)))])] 2000 [0,1] [1,8,63,64,65] r (by kernel_rfl) (U h6 (U (aP ((i:Nat):Int)) (U (sh v7) (U (ju:cY Tryd.prog 54) (U ((by kernel_rfl):je Tryd.prog 54=true) (U ((by first | rfl | (simp [af,strs];done) | (simp [af,strs];omega)):((x++b6 (q.take i)).length)=(af (x++b6 (q.take i)):List (List DV)).length) (U ((by first | omega | (simp [af];omega)):(2*(((x++b6 (q.take i)).length)+([32]:List UInt8).length)+192)*1≤281474976710656) (U ((by first | omega | (simp [af];omega)):((x++b6 (q.take i)).length)+([32]:List UInt8).length<4611686018427387904) (U bO (U (ju:cY Tryd.prog 54) (U ((by kernel_rfl):je Tryd.prog 54=true) (U ((by first | rfl | (simp [af,strs];done) | (simp [af,strs];omega)):((x++b6 (q.take i)).length+([32]:List UInt8).length)=(af (x++b6 (q.take i))++af [32]:List (List DV)).length) (U ((by first | omega | (simp [af];omega)):(2*(((x++b6 (q.take i)).length+([32]:List UInt8).length)+(qx).length)+192)*1≤281474976710656) (U ((by first | omega | (simp [af];omega)):((x++b6 (q.take i)).length+([32]:List UInt8).length)+(qx).length<4611686018427387904) (U ((wi (by omega)):IntKind.i64.wrap ((((i:Nat):Int):Int)+1)=((i+1:Nat):Int)) trivial))))))))))))))) fun ac wd r=>jT (by omega) ac wd ⟨(by omega),r.cast rfl (by rw [FY v7];simp [af,Nat.add_assoc];omega)⟩
     | true=>
      have fk:=of_decide_eq_true h4
      exact absurd fk (by omega)
    | true=>
     have dQ:=of_decide_eq_true h3
     obtain ⟨uj,zm⟩:∃ y_,(x::q)[i]?=some y_:=⟨_,List.getElem?_eq_getElem (by simp;omega)⟩
     have mQ:=zK zm
     have dW:=sk (x::q) (i+1)
     have eC:=((wi (by omega)):IntKind.i64.wrap ((9223372036854775807:Int)-((q.length+((x::q).take i).flatten.length:Nat):Int))=9223372036854775807-((q.length+((x::q).take i).flatten.length:Nat):Int))
     cases h7:(decide ((9223372036854775807-((q.length+((x::q).take i).flatten.length:Nat):Int):Int)<((uj.length:Nat):Int))) with
     | false=>
      have eO:=of_decide_eq_false h7
      exact cO (todo':=hd Tryd.f42 0) tk mo hK [(12,[(0,.b true)]),(13,[(0,.ix (i) [.v (.string ⟨uj.toArray⟩)])]),(14,[(3,.z (9223372036854775807-((q.length+((x::q).take i).flatten.length:Nat):Int))),(4,.b false)]),(16,[(3,.z (((q.length+((x::q).take (i+1)).flatten.length:Nat):Int)))]),(17,[(0,.z (((i+1:Nat):Int)))])] 2000 [] [0,1,5,39,40,41] r (by kernel_rfl) (U h3 (U (aP ((i:Nat):Int)) (U (sh zm) (U eC (U h7 (U ((wi (by omega)):IntKind.i64.wrap ((((q.length+((x::q).take i).flatten.length:Nat):Int):Int)+((uj.length:Nat):Int))=((q.length+((x::q).take (i+1)).flatten.length:Nat):Int)) (U ((wi (by omega)):IntKind.i64.wrap ((((i:Nat):Int):Int)+1)=((i+1:Nat):Int)) trivial))))))) fun ac wd r=>bP (by omega) ac wd ⟨(by omega),r⟩
     | true=>
      have eO:=of_decide_eq_true h7
      exact absurd eO (by omega)
   | true=>
    have c8:=of_decide_eq_true h2
    exact absurd c8 (Hv (by omega) (by omega))
  | true=>
   have cm:=eq_of_beq h1
   exact absurd cm (by omega)
 | true=>
  have bH:=eq_of_beq h0
  exact absurd bH (by omega)
set_option maxRecDepth 100000 in
theorem I8 (x:List UInt8):aB Tryd.prog 42 [.d (.ro 1 (strs [x])),.d (.v (.string ⟨([32]).toArray⟩))] (.v (.string ⟨x.toArray⟩)):=by
 refine aB.intro (by kernel_rfl) rfl rfl 75 rfl rfl fun w0 K ac hK r=>?_
 rw [show (.v (.string ⟨x.toArray⟩):DV)=.v (.string ⟨x.toArray⟩) from rfl]
 exact br tk mo hK rfl [(1,[(1,.z (1))]),(5,[(1,.ix (0) [.v (.string ⟨x.toArray⟩)])])] 2000 r (by kernel_rfl) (U ((by simp [strs]):(((strs [x]).length:Nat):Int)=1) (U (rfl:(0)=((0:Nat):Int)) (U (rfl:(strs [x])[0]?=some [.v (.string ⟨x.toArray⟩)]) trivial)))
def aQ:List (List UInt8)→List UInt8
 | []=>[]
 | x::r=>x++b6 r
theorem wa (x:List UInt8) (r:List (List UInt8)) (hl:r.length≤1000000) (hb:(x::r).flatten.length≤1073741824):aB Tryd.prog 42 [.d (.ro 1 (strs (x::r))),.d (.v (.string ⟨[32].toArray⟩))] (.v (.string ⟨(aQ (x::r)).toArray⟩)):=by
 cases r with
 | nil=>have h:=I8 x;rw [show aQ [x]=x from by simp [aQ,b6]];exact h
 | cons y r=>exact Hw x (y::r) (by simp) hl hb
end Go.Proofs.YtcnpikbbmbombaaDoor
namespace Go.Proofs.YtcnpikbbmbombaaDoor
open Go.RowKit
theorem EV (b j:Nat):(⟨b,0,none⟩:Addr).add j=⟨b,j,none⟩:=by rw [Go.Lib.add_plain];simp
def kv (w:World):Prop:=∀ i,i<20→w.cell? ⟨1,i,none⟩=some (.int .u64 ((10 ^ i:Nat):Int))
theorem kv.alloc {w:World} (h:kv w) (o:Obj):kv (w.alloc o):=fun i hi=>by
 have:=h i hi
 have g:Gr w (w.alloc o):=Gr.alloc w o
 exact g.sH this
open Go.Lib in
set_option maxHeartbeats 6400000 in
set_option maxRecDepth 100000 in
theorem Ki (u:Nat) (h1:1≤u) (h2:u<18446744073709551616) (w:World) (mC:kv w):Calls Tryd.prog 72 #[.int .u64 u] w fun e w'=>e=.returned (.int .i64 (nDigits u))∧w'=w:=by
 have mixed:(Tryd.prog).follows .mixedOrders=true:=by kernel_rfl
 have t0:=Tryd.underlying0;have a0:=Tryd.isAgg0;have z0:=Tryd.sizeOf0;have v0:=Tryd.zeroValue0;have t3:=Tryd.underlying3;have a3:=Tryd.isAgg3;have z3:=Tryd.sizeOf3;have v3:=Tryd.zeroValue3;have t4:=Tryd.underlying4;have a4:=Tryd.isAgg4;have z4:=Tryd.sizeOf4;have v4:=Tryd.zeroValue4;have t43:=Tryd.underlying43;have N4:=Tryd.isAgg43;have N5:=Tryd.sizeOf43;have N6:=Tryd.zeroValue43;have t139:=Tryd.underlying139;have a139:=Tryd.isAgg139;have z139:=Tryd.sizeOf139;have v139:=Tryd.zeroValue139
 have eL:∀ args w,(callFunc 82 args).run Tryd.prog w=.ok (.enter 82 args) w:=enters_of Tryd.func82 (by kernel_rfl) rfl
 have eP:∀ args w,(callFunc 81 args).run Tryd.prog w=.ok (.enter 81 args) w:=enters_of Tryd.func81 (by kernel_rfl) rfl
 have e2:∀ args w,(callFunc 83 args).run Tryd.prog w=.ok (.enter 83 args) w:=enters_of Tryd.func83 (by kernel_rfl) rfl
 obtain ⟨fX,N7⟩:=numDigits_eq u h1 h2
 have hL:Go.Lib.bitLen u≤64:=bitLen_le u 64 (Nat.le_refl _) h2
 have jU:w.cell? ⟨1,l10 (Go.Lib.bitLen u),none⟩=some (.int .u64 ((10 ^ l10 (Go.Lib.bitLen u):Nat):Int)):=mC _ (by omega)
 have N8:((u:Int)).toNat=u:=by omega
 generalize hq:l10 (Go.Lib.bitLen u)=q at fX N7 jU
 generalize hT:10 ^ q=T at fX jU
 have Pp:q<20:=by omega
 have N9:=Go.Lib.hid fX
 clear fX mC
 go_enter Tryd.func72,Tryd.ntmps72
 go_wp2_with (first
  | (go_at_fn 82;refine (Tryd.bits_Len64 _ _ (by omega) (by omega)).mono ?_;rintro e w' ⟨rfl,rfl⟩)
  | (go_at_fn 81;refine (Tryd.internal_strconv_log10Pow2 _ (by first | exact hL | (rw [N8];exact hL)) _).mono ?_;rintro e w' ⟨rfl,rfl⟩)
  | (go_at_fn 83;refine (Tryd.internal_strconv_bool2_int _ _).mono ?_;rintro e w' ⟨rfl,rfl⟩))
 all_goals go_ret
 all_goals (
  refine ⟨?_,rfl⟩
  have fX:=N9.out
  congr 2
  split at fX<;>simp_all<;>omega)
open Go.Lib Go.Sort in
set_option maxHeartbeats 6400000 in
set_option maxRecDepth 100000 in
theorem I9 (u:Nat) (lg:u<18446744073709551616) (w:World) (mC:kv w):
  Calls Tryd.prog 62 #[.int .u64 u,.int .i64 10] w fun e w'=>e=.returned (.string ⟨(decDigits u).toArray⟩)∧∃ k os,w'=grow (w.drewN k) os:=by
 have mixed:(Tryd.prog).follows .mixedOrders=true:=by kernel_rfl
 have t0:=Tryd.underlying0;have a0:=Tryd.isAgg0;have z0:=Tryd.sizeOf0;have v0:=Tryd.zeroValue0;have t3:=Tryd.underlying3;have a3:=Tryd.isAgg3;have z3:=Tryd.sizeOf3;have v3:=Tryd.zeroValue3;have t4:=Tryd.underlying4;have a4:=Tryd.isAgg4;have z4:=Tryd.sizeOf4;have v4:=Tryd.zeroValue4;have t5:=Tryd.underlying5;have a5:=Tryd.isAgg5;have z5:=Tryd.sizeOf5;have v5:=Tryd.zeroValue5;have t9:=Tryd.underlying9;have a9:=Tryd.isAgg9;have z9:=Tryd.sizeOf9;have v9:=Tryd.zeroValue9;have t29:=Tryd.underlying29;have Pq:=Tryd.isAgg29;have Pr:=Tryd.sizeOf29;have Ps:=Tryd.zeroValue29;have t43:=Tryd.underlying43;have N4:=Tryd.isAgg43;have N5:=Tryd.sizeOf43;have N6:=Tryd.zeroValue43;have t128:=Tryd.underlying128;have OJ:=Tryd.isAgg128;have OK:=Tryd.sizeOf128;have OL:=Tryd.zeroValue128
 have eS:∀ args w,(callFunc 71 args).run Tryd.prog w=.ok (.enter 71 args) w:=enters_of Tryd.func71 (by kernel_rfl) rfl
 have eN:∀ args w,(callFunc 72 args).run Tryd.prog w=.ok (.enter 72 args) w:=enters_of Tryd.func72 (by kernel_rfl) rfl
 have eB:∀ args w,(callFunc 73 args).run Tryd.prog w=.ok (.enter 73 args) w:=enters_of Tryd.func73 (by kernel_rfl) rfl
 by_cases hs:u<100
 ·go_enter Tryd.func62,Tryd.ntmps62
  go_wp2_with (go_at_fn 71;refine (Tryd.internal_strconv_small u hs _).mono ?_;rintro e w' ⟨rfl,rfl⟩)
  go_ret
  exact ⟨rfl,0,#[],by simp [World.drewN_zero]⟩
 ·have DD:1≤u:=by omega
  have OC:nDigits u≤20:=by have:=numDigits_eq u DD lg;split at this<;>omega
  have yu:nDigits u≤23:=by omega
  have dy:(Tryd.prog).arrayLen 128=24:=by kernel_rfl
  have OM:∀ W,(Instr.sliceAt 128 (.pointer (some ⟨w.heap.size,0,none⟩)) none (some (.int .i64 (nDigits u:Int))) none).run Tryd.prog W=.ok (.slice (some ⟨w.heap.size,0,none⟩) (nDigits u) 24) W:=fun W=>by
   rw [run_sliceAt_array_h W 128 ⟨w.heap.size,0,none⟩ (by kernel_rfl) .i64 (nDigits u:Int) (by omega) (by rw [dy];omega)]
   go_simp
  have yH:Go.Sort.Holds (fun (b:UInt8)=>Value.int .u8 (b.toNat:Int)) (w.alloc (.cells zeros24 128)) w.heap.size 0 (Array.replicate (nDigits u) (0:UInt8)):=fun j hj=>by
   have iI:j<nDigits u:=by simpa using hj
   refine ⟨?_,World.frozen?_alloc_new _ _ _ _⟩
   rw [World.cell?_alloc_new,zeros24_at _ (by omega),getElem!_pos _ j hj]
   simp
  have CK:=Tryd.internal_strconv_formatBase10 w.heap.size 0 24 u (Array.replicate (nDigits u) 0) (w.alloc (.cells zeros24 128)) yH (by rw [Array.size_replicate];exact lt_pow_nDigits u) lg (by rw [Array.size_replicate];omega)
  rw [Array.size_replicate] at CK
  have Oa:=Go.Lib.hid yH
  clear yH dy
  go_enter Tryd.func62,Tryd.ntmps62
  go_wp2_with (go_at_fn 72;refine (Ki u DD lg _ (mC.alloc _)).mono ?_;rintro e w' ⟨rfl,rfl⟩)
  go_at_fn 73
  refine CK.mono ?_
  rintro e w' ⟨rfl,k,v',dk,rfl,hF⟩
  have Pt:(convert 29 9 (.slice (some ⟨w.heap.size,0,none⟩) (nDigits u) 24)).run Tryd.prog ((putRow (fun (b:UInt8)=>Value.int .u8 (b.toNat:Int)) (w.alloc (.cells zeros24 128)) w.heap.size 0 dk).drewN k)=.ok (.string ⟨(decDigits u).toArray⟩) ((putRow (fun (b:UInt8)=>Value.int .u8 (b.toNat:Int)) (w.alloc (.cells zeros24 128)) w.heap.size 0 dk).drewN k):=by
   have h:=run_convert_bytes_back (P:=Tryd.prog) ((putRow (fun (b:UInt8)=>Value.int .u8 (b.toNat:Int)) (w.alloc (.cells zeros24 128)) w.heap.size 0 dk).drewN k) 29 9 5 ⟨w.heap.size,0,none⟩ 24 (decDigits u) t29 t5 t9 (fun j hj=>by
    rw [row_is_numeral hF j hj,add_plain,World.cell?_drewN]
    exact cell?_putRow (fun (b:UInt8)=>Value.int .u8 (b.toNat:Int)) _ w.heap.size 0 _ dk Oa.out (by rw [hF.size,Array.size_replicate]) j (by rw [hF.size];rw [decDigits_length] at hj;exact hj))
   rw [decDigits_length] at h
   exact h
  go_wp2
  go_ret
  refine ⟨rfl,k,?_⟩
  rw [alloc_eq_grow]
  obtain ⟨Ob,-,e⟩:=putRow_grow_new (fun (b:UInt8)=>Value.int .u8 (b.toNat:Int)) w #[.cells zeros24 128] w.heap.size 0 dk (Nat.le_refl _)
  exact ⟨Ob,by rw [e];rfl⟩
open Go.Lib Go.Sort in
set_option maxHeartbeats 6400000 in
set_option maxRecDepth 100000 in
theorem Hx (u:Nat) (lg:u<18446744073709551616) (w:World) (mC:kv w):
  Calls Tryd.prog 44 #[.int .u64 u,.int .i64 10] w fun e w'=>e=.returned (.string ⟨(decDigits u).toArray⟩)∧Below w.heap.size w w':=by
 have mixed:(Tryd.prog).follows .mixedOrders=true:=by kernel_rfl
 have t9:=Tryd.underlying9;have a9:=Tryd.isAgg9;have z9:=Tryd.sizeOf9;have v9:=Tryd.zeroValue9
 have eF:∀ args w,(callFunc 62 args).run Tryd.prog w=.ok (.enter 62 args) w:=enters_of Tryd.func62 (by kernel_rfl) rfl
 go_enter Tryd.func44,Tryd.ntmps44
 go_wp2_with (go_at_fn 62;refine (I9 u lg _ mC).mono ?_;rintro e w' ⟨rfl,k,os,rfl⟩)
 go_ret
 exact ⟨rfl,rfl,rfl,rfl,by simp [grow],fun k hk=>heap_grow_old _ _ hk⟩
def aM:List DV:=(List.range 20).map fun i=>DV.u (10 ^ i)
theorem kv.of {K:World→Prop} {β:Beta} {u:Nat} {H:ak} (h:bq K β u (.gw 1 aM) H) {w:World} (hw:K w):kv w:=by
 cases h with
 | gw X hl hc hr=>
  intro i hi
  have h1:aM[i]?=some (DV.u (10 ^ i)):=by simp [aM,hi]
  have aI:i<X.length:=by rw [hl];simp [aM];omega
  have h2:=hr i _ X[i] h1 (List.getElem?_eq_getElem aI)
  have h3:=hc w hw i X[i] (List.getElem?_eq_getElem aI)
  rw [EV] at h3
  have h4:X[i]=.int .u64 ((10 ^ i:Nat):Int):=by
   generalize X[i]=y at h2
   cases h2;rfl
  rw [h3,h4]
theorem qL (u:Nat) (lg:u<18446744073709551616):aA Tryd.prog 44 [.d (.v (.int .u64 u)),.d (.v (.int .i64 10))] [.gw 1 aM] (.d (.v (.string ⟨(Go.Lib.decDigits u).toArray⟩))) [.gw 1 aM]:=by
 refine ⟨by kernel_rfl,fun {D w0 K0 β F I w} ys R hK hl hr=>?_⟩
 have key:∀ {K:World→Prop} {β:Beta} {a b:Value},au K β (.d (.v a)) b→b=a:=fun h=>by cases h with | d h=>cases h;rfl
 obtain ⟨y0,y1,rfl⟩:∃ a b,ys=[a,b]:=by
  match ys,hl with
  | [a,b],_=>exact ⟨a,b,rfl⟩
 obtain rfl:=key (hr 0 _ y0 rfl rfl)
 obtain rfl:=key (hr 1 _ y1 rfl rfl)
 have mC:kv w:=kv.of (R.blk 0 _ rfl) ⟨hK w R.st.kp,(Holds.app.1 R.st.holds).2⟩
 refine (Hx u lg w mC).mono ?_
 rintro e w' ⟨rfl,g⟩
 exact ⟨_,rfl,β,F,I,⟨R.len,R.blk,R.st.gr g⟩,Ext.refl _,bK.refl _,.d (.v _)⟩
theorem Kj (n:Nat) (h:n<100):aB Tryd.prog 41 [.d (.v (.int .i64 n))] (.v (.string ⟨(Go.Lib.decDigits n).toArray⟩)):=
 aB.qd (by kernel_rfl) (zs:=[.int .i64 n]) fun w=>(Tryd.strconv_Itoa_small n h w).mono fun e w' ⟨he,hw⟩=>⟨he,hw▸Below.refl _ _⟩
end Go.Proofs.YtcnpikbbmbombaaDoor
namespace Go.Proofs.YtcnpikbbmbombaaDoor
open Go.RowKit
def cJ (n:Nat):UInt8:=if n<10 then UInt8.ofNat (48+n) else UInt8.ofNat (87+n)
theorem sA {n:Nat} (h:n<16):([48,49,50,51,52,53,54,55,56,57,97,98,99,100,101,102]:List UInt8)[n]?=some (cJ n):=by
 have key:∀ k,k<16→([48,49,50,51,52,53,54,55,56,57,97,98,99,100,101,102]:List UInt8)[k]?=some (cJ k):=by decide
 exact key n h
def cP (l:List UInt8):List UInt8:=l.flatMap fun b=>[cJ (b.toNat / 16),cJ (b.toNat%16)]
theorem Hy {l:List UInt8} {i:Nat} {b:UInt8} (h:l[i]?=some b):cP (l.take (i+1))=cP (l.take i)++[cJ (b.toNat / 16),cJ (b.toNat%16)]:=by
 unfold cP;rw [List.take_add_one,h];simp
theorem cX (l:List UInt8):(cP l).length=2*l.length:=by
 unfold cP;induction l with
 | nil=>rfl
 | cons b r ih=>rw [List.flatMap_cons,List.length_append,ih];simp;omega
theorem CL (b:UInt8):((b.toNat:Nat):Int).fdiv (2 ^ (min (4:Int).toNat IntKind.u8.bits))=((b.toNat / 16:Nat):Int):=by
 show ((b.toNat:Nat):Int).fdiv 16=_
 rw [Int.fdiv_eq_ediv_of_nonneg _ (by omega)];omega
theorem Cd (b:UInt8):IntKind.u8.wrap ((BitVec.ofInt IntKind.u8.bits ((b.toNat:Nat):Int) &&& BitVec.ofInt IntKind.u8.bits 15).toNat:Int)=((b.toNat%16:Nat):Int):=by
 have hb:=b.toNat_lt
 have h1:(BitVec.ofInt 8 ((b.toNat:Nat):Int) &&& BitVec.ofInt 8 15).toNat=b.toNat%16:=by
  rw [BitVec.toNat_and]
  have e1:(BitVec.ofInt 8 ((b.toNat:Nat):Int)).toNat=b.toNat:=by simp [BitVec.toNat_ofInt]
  have e2:(BitVec.ofInt 8 15).toNat=2 ^ 4-1:=by decide
  rw [e1,e2,Nat.and_two_pow_sub_one_eq_mod]
 show IntKind.u8.wrap ((BitVec.ofInt 8 ((b.toNat:Nat):Int) &&& BitVec.ofInt 8 15).toNat:Int)=_
 rw [h1]
 simp [IntKind.wrap,IntKind.signed,IntKind.bits];omega
def dJ (l:List UInt8):List UInt8:=if l=[] then [45] else cP l
set_option maxRecDepth 100000 in
theorem Ef (b:UInt8) (l:List UInt8) (hl:l.length≤16777216):aB Tryd.prog 45 [.d (.ro 1 (af (b::l)))] (.v (.string ⟨(cP (b::l)).toArray⟩)):=by
 refine aB.intro (by kernel_rfl) rfl rfl 25 rfl rfl fun w0 K ac hK r=>?_
 have aZ:=((by first | rfl | (simp [af];done) | (simp [af];omega)):(((af (b::l)).length:Nat):Int)=(((l.length+1):Nat):Int))
 cases h0:(((((l.length+1):Nat):Int):Int)==0) with
 | false=>
  have bH:=ne_of_beq_false h0
  refine cO (todo':=hd Tryd.f45 0) (E':=[(0,.d (.ro 1 (af (b::l)))),(2,.d (.v (.string .empty))),(6,.d (.ro 1 (af (b::l)))),(7,.n ((l.length+1))),(8,.d (.v (.bool false))),(3,.pt 0 0),(9,.d (.ro 1 (af (b::l)))),(10,.n ((l.length+1))),(11,.z 0)]) (M':=[.bx 56 [.d (.v (.pointer none)),.d (.v (.slice none 0 0))]]) tk mo hK [(1,[(1,.z ((((l.length+1):Nat):Int))),(2,.b false)]),(4,[(1,.z ((((l.length+1):Nat):Int)))])] 2000 [0] [0,2,6,7,8,3,9,10,11] r (by kernel_rfl) (U aZ (U h0 (U aZ trivial))) fun ac wd r=>?_
  cases h1:(decide ((0:Int)<(((l.length+1):Nat):Int))) with
  | false=>
   have cm:=of_decide_eq_false h1
   exact absurd cm (by omega)
  | true=>
   have cm:=of_decide_eq_true h1
   refine cO (todo':=hd Tryd.f45 0) (E':=[(3,.pt 0 0),(9,.d (.ro 1 (af (b::l)))),(10,.n ((l.length+1))),(11,.z 1)]) (M':=[.bx 56 [.pt 0 0,.sl 1 ((1)+(1))],.rw 5 1 ([[.v (.int .u8 ((((cJ (b.toNat / 16)).toNat:Nat):Int)))]]++[[.v (.int .u8 ((((cJ (b.toNat%16)).toNat:Nat):Int)))]])]) tk mo hK [(5,[(0,.b true)]),(6,[(0,.ix (0) [.v (.int .u8 (((b.toNat:Nat):Int)))])]),(7,[(1,.z (((b.toNat / 16:Nat):Int))),(2,.ix (b.toNat / 16) [.v (.int .u8 ((((cJ (b.toNat / 16)).toNat:Nat):Int)))]),(3,.bG 200 [(1,[(1,.bG 200 [(1,[(2,.b true),(3,.b true),(4,.b false)])])])])]),(8,[(1,.z (((b.toNat%16:Nat):Int))),(2,.ix (b.toNat%16) [.v (.int .u8 ((((cJ (b.toNat%16)).toNat:Nat):Int)))]),(3,.bG 200 [(1,[(1,.bG 200 [])])])]),(9,[(0,.z (1))])] 2000 [0,2] [3,9,10,11] r (by kernel_rfl) (U h1 (U (rfl:(0)=((0:Nat):Int)) (U (rfl:(af (b::l))[0]?=some [.v (.int .u8 (((b.toNat:Nat):Int)))]) (U ((CL _):(((b.toNat:Nat):Int):Int).fdiv (2 ^ (min (4:Int).toNat IntKind.u8.bits))=((b.toNat / 16:Nat):Int)) (U ((by first | decide | omega):(0:Int)≤4) (U (aP ((b.toNat / 16:Nat):Int)) (U (⟨_,sA (by have:=(b).toNat_lt;omega),rfl⟩:∃ u:UInt8,([48,49,50,51,52,53,54,55,56,57,97,98,99,100,101,102]:List UInt8)[b.toNat / 16]?=some u∧(.v (.int .u8 ((((cJ (b.toNat / 16)).toNat:Nat):Int))):DV)=.v (.int .u8 (u.toNat:Int))) (U (ju:cY Tryd.prog 54) (U ((by kernel_rfl):(bif true then mn Tryd.prog 54 119 else mq Tryd.prog 54 119 56 2)=true) (U ((by decide):0<2) (U (xe:qt Tryd.prog 59) (U ((by kernel_rfl):(bif false then mn Tryd.prog 119 54 else mq Tryd.prog 119 54 56 2)=true) (U ((by decide):0<2) (U ((by first | rfl | (simp [af,cX];done) | (simp [af,cX];omega)):(1)=([[.v (.int .u8 ((((cJ (b.toNat / 16)).toNat:Nat):Int)))]]:List (List DV)).length) (U ((by first | omega | (simp [af,cX];omega)):(2*(0+(1))+192)*1≤281474976710656) (U ((by first | omega | (simp [af,cX];omega)):0+(1)<4611686018427387904) (U ((by simp [bc,AV.one,bU,af,ah,ints,steps,strs]):bc ([[.v (.int .u8 ((((cJ (b.toNat / 16)).toNat:Nat):Int)))]])) (U ((Cd _):IntKind.u8.wrap ((BitVec.ofInt IntKind.u8.bits (((b.toNat:Nat):Int)) &&& BitVec.ofInt IntKind.u8.bits (15)).toNat:Int)=((b.toNat%16:Nat):Int)) (U (aP ((b.toNat%16:Nat):Int)) (U (⟨_,sA (by have:=(b).toNat_lt;omega),rfl⟩:∃ u:UInt8,([48,49,50,51,52,53,54,55,56,57,97,98,99,100,101,102]:List UInt8)[b.toNat%16]?=some u∧(.v (.int .u8 ((((cJ (b.toNat%16)).toNat:Nat):Int))):DV)=.v (.int .u8 (u.toNat:Int))) (U (ju:cY Tryd.prog 54) (U ((by kernel_rfl):je Tryd.prog 54=true) (U ((by first | rfl | (simp [af,cX];done) | (simp [af,cX];omega)):((1))=([[.v (.int .u8 ((((cJ (b.toNat / 16)).toNat:Nat):Int)))]]:List (List DV)).length) (U ((by first | rfl | (simp [af,cX];done) | (simp [af,cX];omega)):(1)=([[.v (.int .u8 ((((cJ (b.toNat%16)).toNat:Nat):Int)))]]:List (List DV)).length) (U ((by first | omega | (simp [af,cX];omega)):(2*(((1))+(1))+192)*1≤281474976710656) (U ((by first | omega | (simp [af,cX];omega)):((1))+(1)<4611686018427387904) (U ((by simp [bc,AV.one,bU,af,ah,ints,steps,strs]):bc ([[.v (.int .u8 ((((cJ (b.toNat%16)).toNat:Nat):Int)))]])) (U ((wi (by omega)):IntKind.i64.wrap ((0:Int)+1)=1) trivial)))))))))))))))))))))))))))) fun ac wd r=>?_
   refine aD.rounds (Φ:=fun (i:Nat) ac wd=>(i≤l.length)∧dz [] w0 K 25 [(3,.pt 0 0),(9,.d (.ro 1 (af (b::l)))),(10,.n ((l.length+1))),(11,.n (i+1))] [.bx 56 [.pt 0 0,.sl 1 ((cP ((b::l).take (i+1))).length)],.rw 5 1 (af (cP ((b::l).take (i+1))))] ac wd) (l.length) ?_ (Nat.zero_le _) ⟨Nat.zero_le _,(r).cast rfl (by simp [cP,af])⟩
   clear r
   rintro i eA bP ac wd ⟨ao,r⟩
   cases h2:(decide ((((i+1:Nat):Int):Int)<(((l.length+1):Nat):Int))) with
   | false=>
    have c8:=of_decide_eq_false h2
    rw [show (.v (.string ⟨(cP (b::l)).toArray⟩):DV)=.v (.string ⟨((cP ((b::l).take (i+1)))).toArray⟩) from (by rw [List.take_of_length_le (by simp;omega)])]
    exact br tk mo hK rfl [(5,[(0,.b false)]),(10,[(0,.bG 200 [(1,[(10,.res (.v (.string ⟨((cP ((b::l).take (i+1)))).toArray⟩)))])])])] 2000 r (by kernel_rfl) (U h2 (U ((by first | rfl | (simp [af,cX];done) | (simp [af,cX];omega)):((cP ((b::l).take (i+1))).length)=(af (cP ((b::l).take (i+1)))).length) (U ((by first | omega | decide | (simp [af,cX];done) | (simp [af,cX];omega)):0<((cP ((b::l).take (i+1))).length)) (U ((by simp [af]):((((cP ((b::l).take (i+1))).length:Nat):Int):Int)=(((af (cP ((b::l).take (i+1)))).length:Nat):Int)) (U ((by first | omega | (simp [af,cX];done) | (simp [af,cX];omega)):0<(af (cP ((b::l).take (i+1)))).length) (U (rfl:af (cP ((b::l).take (i+1)))=af ((cP ((b::l).take (i+1))))) (U ((by kernel_rfl):qH Tryd.prog 98 5=true) (U ((by first | omega | decide | (simp [af,cX];done) | (simp [af,cX];omega)):(af (cP ((b::l).take (i+1)))).length≤9223372036854775807) trivial))))))))
   | true=>
    have c8:=of_decide_eq_true h2
    obtain ⟨dL,Ce⟩:∃ y_,(b::l)[i+1]?=some y_:=⟨_,List.getElem?_eq_getElem (by simp;omega)⟩
    exact cO (todo':=hd Tryd.f45 0) (E':=[(3,.pt 0 0),(9,.d (.ro 1 (af (b::l)))),(10,.n ((l.length+1))),(11,.n (i+1+1))]) (M':=[.bx 56 [.pt 0 0,.sl 1 ((cP ((b::l).take (i+1))).length+(1)+(1))],.rw 5 1 (af (cP ((b::l).take (i+1)))++[[.v (.int .u8 ((((cJ (dL.toNat / 16)).toNat:Nat):Int)))]]++[[.v (.int .u8 ((((cJ (dL.toNat%16)).toNat:Nat):Int)))]])]) tk mo hK [(5,[(0,.b true)]),(6,[(0,.ix (i+1) [.v (.int .u8 (((dL.toNat:Nat):Int)))])]),(7,[(1,.z (((dL.toNat / 16:Nat):Int))),(2,.ix (dL.toNat / 16) [.v (.int .u8 ((((cJ (dL.toNat / 16)).toNat:Nat):Int)))]),(3,.bG 200 [(1,[(1,.bG 200 [])])])]),(8,[(1,.z (((dL.toNat%16:Nat):Int))),(2,.ix (dL.toNat%16) [.v (.int .u8 ((((cJ (dL.toNat%16)).toNat:Nat):Int)))]),(3,.bG 200 [(1,[(1,.bG 200 [])])])]),(9,[(0,.z (((i+1+1:Nat):Int)))])] 2000 [0,1] [3,9,10,11] r (by kernel_rfl) (U h2 (U (aP ((i+1:Nat):Int)) (U (kf Ce) (U ((CL _):(((dL.toNat:Nat):Int):Int).fdiv (2 ^ (min (4:Int).toNat IntKind.u8.bits))=((dL.toNat / 16:Nat):Int)) (U ((by first | decide | omega):(0:Int)≤4) (U (aP ((dL.toNat / 16:Nat):Int)) (U (⟨_,sA (by have:=(dL).toNat_lt;omega),rfl⟩:∃ u:UInt8,([48,49,50,51,52,53,54,55,56,57,97,98,99,100,101,102]:List UInt8)[dL.toNat / 16]?=some u∧(.v (.int .u8 ((((cJ (dL.toNat / 16)).toNat:Nat):Int))):DV)=.v (.int .u8 (u.toNat:Int))) (U (ju:cY Tryd.prog 54) (U ((by kernel_rfl):je Tryd.prog 54=true) (U ((by first | rfl | (simp [af,cX];done) | (simp [af,cX];omega)):((cP ((b::l).take (i+1))).length)=(af (cP ((b::l).take (i+1)))).length) (U ((by first | rfl | (simp [af,cX];done) | (simp [af,cX];omega)):(1)=([[.v (.int .u8 ((((cJ (dL.toNat / 16)).toNat:Nat):Int)))]]:List (List DV)).length) (U ((by first | omega | (simp [af,cX];omega)):(2*(((cP ((b::l).take (i+1))).length)+(1))+192)*1≤281474976710656) (U ((by first | omega | (simp [af,cX];omega)):((cP ((b::l).take (i+1))).length)+(1)<4611686018427387904) (U ((by simp [bc,AV.one,bU,af,ah,ints,steps,strs]):bc ([[.v (.int .u8 ((((cJ (dL.toNat / 16)).toNat:Nat):Int)))]])) (U ((Cd _):IntKind.u8.wrap ((BitVec.ofInt IntKind.u8.bits (((dL.toNat:Nat):Int)) &&& BitVec.ofInt IntKind.u8.bits (15)).toNat:Int)=((dL.toNat%16:Nat):Int)) (U (aP ((dL.toNat%16:Nat):Int)) (U (⟨_,sA (by have:=(dL).toNat_lt;omega),rfl⟩:∃ u:UInt8,([48,49,50,51,52,53,54,55,56,57,97,98,99,100,101,102]:List UInt8)[dL.toNat%16]?=some u∧(.v (.int .u8 ((((cJ (dL.toNat%16)).toNat:Nat):Int))):DV)=.v (.int .u8 (u.toNat:Int))) (U (ju:cY Tryd.prog 54) (U ((by kernel_rfl):je Tryd.prog 54=true) (U ((by first | rfl | (simp [af,cX];done) | (simp [af,cX];omega)):((cP ((b::l).take (i+1))).length+(1))=(af (cP ((b::l).take (i+1)))++[[.v (.int .u8 ((((cJ (dL.toNat / 16)).toNat:Nat):Int)))]]:List (List DV)).length) (U ((by first | rfl | (simp [af,cX];done) | (simp [af,cX];omega)):(1)=([[.v (.int .u8 ((((cJ (dL.toNat%16)).toNat:Nat):Int)))]]:List (List DV)).length) (U ((by first | omega | (simp [af,cX];omega)):(2*(((cP ((b::l).take (i+1))).length+(1))+(1))+192)*1≤281474976710656) (U ((by first | omega | (simp [af,cX];omega)):((cP ((b::l).take (i+1))).length+(1))+(1)<4611686018427387904) (U ((by simp [bc,AV.one,bU,af,ah,ints,steps,strs]):bc ([[.v (.int .u8 ((((cJ (dL.toNat%16)).toNat:Nat):Int)))]])) (U ((wi (by omega)):IntKind.i64.wrap ((((i+1:Nat):Int):Int)+1)=((i+1+1:Nat):Int)) trivial))))))))))))))))))))))))) fun ac wd r=>bP (by omega) ac wd ⟨(by omega),r.cast rfl (by rw [Hy Ce];simp [af])⟩
 | true=>
  have bH:=eq_of_beq h0
  exact absurd bH (by omega)
set_option maxRecDepth 100000 in
theorem Eg (a:Option Addr) (n:Nat):aB Tryd.prog 45 [.d (.v (.slice a 0 n))] (.v (.string ⟨[45].toArray⟩)):=by
 refine aB.intro (by kernel_rfl) rfl rfl 25 rfl rfl fun w0 K ac hK r=>?_
 rw [show (.v (.string ⟨[45].toArray⟩):DV)=.v (.string ⟨([45]).toArray⟩) from rfl]
 exact br tk mo hK rfl [] 2000 r (by kernel_rfl) trivial
theorem EW (l:List UInt8) (hl:l.length≤16777216):aB Tryd.prog 45 [.d (.ro 1 (af l))] (.v (.string ⟨(dJ l).toArray⟩)):=by
 cases l with
 | nil=>exact aB.empty (pre:=[]) (post:=[]) fun a c=>Eg a c
 | cons b l=>exact Ef b l (by simp at hl;omega)
theorem EX (l:List (List UInt8)):cx (strs l)=strs l:=by rw [jM];unfold strs;rw [List.map_map];apply List.map_congr_left;intro b _;rfl
def aS (z:Int):List UInt8:=Go.Lib.decDigits z.toNat
theorem uI (u:Nat) (h:u<18446744073709551616):(Go.Lib.decDigits u).length≤20:=by
 rw [Go.Lib.decDigits_length]
 rcases Nat.eq_zero_or_pos u with rfl | h1
 ·rw [Go.Lib.nDigits_small (by omega)];omega
 ·have:=Go.Lib.numDigits_eq u h1 h;split at this<;>omega
theorem sR {z:Int} (h0:0≤z) (h:z<100):aB Tryd.prog 41 [.z z] (.v (.string ⟨(aS z).toArray⟩)):=by
 obtain ⟨n,rfl⟩:=Int.eq_ofNat_of_zero_le h0
 exact Kj n (by omega)
theorem ow {z:Int} (h:z<100):(aS z).length≤20:=uI _ (by omega)
def dM (x:Int×Int):List UInt8:=aS x.1++[45]++aS x.2
def bE (c:bk):List (List UInt8):=[119,111,114,108,100]::([aS c.aq]++c.ah.map dM++[[58]]++c.homes.map aS)
theorem Au {α:Type} {f:α→List UInt8} {l:List α} {i:Nat} {x:α} (h:l[i]?=some x):(l.take (i+1)).map f=(l.take i).map f++[f x]:=by
 rw [List.take_add_one,h];simp
theorem zn {l:List (List UInt8)} {n:Nat} (h:∀ x ∈ l,x.length≤n):l.flatten.length≤n*l.length:=by
 induction l with
 | nil=>simp
 | cons x r ih=>
  have h1:=h x (by simp)
  have h2:=ih (fun y hy=>h y (by simp [hy]))
  rw [List.flatten_cons,List.length_append,List.length_cons,Nat.mul_succ];omega
theorem Av {c:bk} (h:cf c=true):(bE c).flatten.length≤41*(bE c).length:=by
 have m:=gR h
 have hs:=m.head
 refine zn fun x hx=>?_
 unfold bE at hx
 simp only [List.mem_cons,List.mem_append,List.mem_map,List.not_mem_nil,or_false] at hx
 rcases hx with rfl | (((rfl | ⟨y,hy,rfl⟩) | rfl) | ⟨y,hy,rfl⟩)
 ·simp
 ·exact Nat.le_trans (ow (by omega)) (by omega)
 ·obtain ⟨j,hj,rfl⟩:=List.getElem_of_mem hy
  have hl:=m.link j _ (List.getElem?_eq_getElem hj)
  have h1:=ow (z:=(c.ah[j]).1) (by have:=hl.1.2;omega)
  have h2:=ow (z:=(c.ah[j]).2) (by have:=hl.2.1.2;omega)
  unfold dM;simp only [List.length_append,List.length_cons,List.length_nil];omega
 ·simp
 ·obtain ⟨j,hj,rfl⟩:=List.getElem_of_mem hy
  have hl:=m.home j _ (List.getElem?_eq_getElem hj)
  exact Nat.le_trans (ow (by have:=hl.2;omega)) (by omega)
theorem wb (c:bk):(bE c).length=3+c.ah.length+c.homes.length:=by unfold bE;simp;omega
set_option maxRecDepth 100000 in
theorem FZ (c:bk) (hm:cf c=true) (hc:c.ah.length≤100000):aB Tryd.prog 21 [.ag [.z c.aq,.d (.ro 2 (ah c.ah)),.d (.ro 1 (ints c.homes))]] (.v (.string ⟨(aQ (bE c)).toArray⟩)):=by
 refine aB.intro (by kernel_rfl) rfl rfl 49 rfl rfl fun w0 K ac hK r=>?_
 refine cO (todo':=hd Tryd.f21 0) (E':=[(1,.pt 0 0),(3,.sl 1 (2)),(13,.d (.ro 2 (ah c.ah))),(14,.n c.ah.length),(15,.z 0)]) (M':=[.bx 25 [.z c.aq,.d (.ro 2 (ah c.ah)),.d (.ro 1 (ints c.homes))],.rw 9 1 ([[.v (.string ⟨([119,111,114,108,100]).toArray⟩)],[.v (.string ⟨(aS c.aq).toArray⟩)]])]) tk mo hK [(1,[(2,.aO (.v (.string ⟨(aS c.aq).toArray⟩)))]),(2,[(2,.z (((c.ah.length:Nat):Int)))])] 2000 [0,1] [1,3,13,14,15] r (by kernel_rfl) (U (sR (z:=c.aq) (by first | omega | (have:=(gR hm).head;omega)) (by first | omega | (have:=(gR hm).head;omega))) (U ((by first | rfl | simp [af,ah,ints,steps,strs]):(((ah c.ah).length:Nat):Int)=((c.ah.length:Nat):Int)) trivial)) fun ac wd r=>?_
 refine aD.rounds (Φ:=fun (i:Nat) ac wd=>(i≤c.ah.length)∧dz [] w0 K 49 [(1,.pt 0 0),(3,.sl 1 ((2+i))),(13,.d (.ro 2 (ah c.ah))),(14,.n c.ah.length),(15,.n i)] [.bx 25 [.z c.aq,.d (.ro 2 (ah c.ah)),.d (.ro 1 (ints c.homes))],.rw 9 1 (strs ([[119,111,114,108,100]]++[aS c.aq]++(c.ah.take i).map dM))] ac wd) (c.ah.length) ?_ (Nat.zero_le _) ⟨Nat.zero_le _,(r).cast rfl (by simp [strs])⟩
 clear r
 rintro i eA bP ac wd ⟨ao,r⟩
 have Pu:=(gR hm).head
 cases h0:(decide ((((i:Nat):Int):Int)<((c.ah.length:Nat):Int))) with
 | false=>
  have bH:=of_decide_eq_false h0
  refine cO (todo':=hd Tryd.f21 1) (E':=[(3,.sl 0 ((2+i)+(1))),(35,.d (.ro 1 (ints c.homes))),(36,.n c.homes.length),(37,.z 0)]) (M':=[.rw 9 1 (strs ([[119,111,114,108,100]]++[aS c.aq]++(c.ah.take i).map dM)++[[.v (.string ⟨([58]).toArray⟩)]])]) tk mo hK [(3,[(0,.b false)]),(8,[(2,.z (((c.homes.length:Nat):Int)))])] 2000 [1] [3,35,36,37] r (by kernel_rfl) (U h0 (U ((by first | rfl | (simp [strs];done) | (simp [strs];omega)):((2+i))=(strs ([[119,111,114,108,100]]++[aS c.aq]++(c.ah.take i).map dM):List (List DV)).length) (U ((by first | rfl | (simp [strs];done) | (simp [strs];omega)):(1)=([[.v (.string ⟨([58]).toArray⟩)]]:List (List DV)).length) (U ((by first | omega | (simp [strs];done) | (simp [strs];omega)):(2*(((2+i))+(1))+192)*16≤281474976710656) (U ((by first | omega | (simp [strs];done) | (simp [strs];omega)):((2+i))+(1)<4611686018427387904) (U ((by simp [bc,AV.one,bU,strs]):bc ([[.v (.string ⟨([58]).toArray⟩)]])) (U ((by first | rfl | simp [af,ah,ints,steps,strs]):(((ints c.homes).length:Nat):Int)=((c.homes.length:Nat):Int)) trivial))))))) fun ac wd r=>?_
  refine aD.rounds (Φ:=fun (i:Nat) ac wd=>(i≤c.homes.length)∧dz [] w0 K 49 [(3,.sl 0 ((3+c.ah.length+i))),(35,.d (.ro 1 (ints c.homes))),(36,.n c.homes.length),(37,.n i)] [.rw 9 1 (strs ([[119,111,114,108,100]]++[aS c.aq]++c.ah.map dM++[[58]]++(c.homes.take i).map aS))] ac wd) (c.homes.length) ?_ (Nat.zero_le _) ⟨Nat.zero_le _,(r).cast (by rw [show 2+i+1=3+c.ah.length+0 from by omega];rfl) (by rw [List.take_of_length_le (by omega)];simp [strs])⟩
  clear r
  rintro i rn jT ac wd ⟨dP,r⟩
  cases h1:(decide ((((i:Nat):Int):Int)<((c.homes.length:Nat):Int))) with
  | false=>
   have cm:=of_decide_eq_false h1
   rw [show (.v (.string ⟨(aQ (bE c)).toArray⟩):DV)=.v (.string ⟨(aQ (bE c)).toArray⟩) from rfl]
   exact br tk mo hK rfl [(9,[(0,.b false)]),(13,[(1,.call [.d (.ro 1 (strs (bE c))),.d (.v (.string ⟨([32]).toArray⟩))] (.v (.string ⟨(aQ (bE c)).toArray⟩)))])] 2000 r (by kernel_rfl) (U h1 (U (wa _ _ (by simp;omega) (by have h1:=Av hm;have h2:=wb c;unfold bE at h1 h2;omega):aB Tryd.prog 42 [.d (.ro 1 (strs (bE c))),.d (.v (.string ⟨([32]).toArray⟩))] (.v (.string ⟨(aQ (bE c)).toArray⟩))) (U ((gS _):fU (.v (.string ⟨(aQ (bE c)).toArray⟩))) (U (fj (1)) (U ((by first | rfl | (simp [strs];done) | (simp [strs];omega)):((3+c.ah.length+i))=(strs ([[119,111,114,108,100]]++[aS c.aq]++c.ah.map dM++[[58]]++(c.homes.take i).map aS):List (List DV)).length) (U ((by rw [List.take_of_length_le (by omega)];exact EX _):cx (strs ([[119,111,114,108,100]]++[aS c.aq]++c.ah.map dM++[[58]]++(c.homes.take i).map aS))=strs (bE c)) (U (ei (.v (.string ⟨([32]).toArray⟩))) trivial)))))))
  | true=>
   have cm:=of_decide_eq_true h1
   obtain ⟨fa,eb⟩:∃ x_,c.homes[i]?=some x_:=⟨_,List.getElem?_eq_getElem (by omega)⟩
   have Oc:=(gR hm).home i _ eb
   unfold iE at Oc
   exact cO (todo':=hd Tryd.f21 1) (E':=[(3,.sl 0 ((3+c.ah.length+i)+(1))),(35,.d (.ro 1 (ints c.homes))),(36,.n c.homes.length),(37,.n (i+1))]) (M':=[.rw 9 1 (strs ([[119,111,114,108,100]]++[aS c.aq]++c.ah.map dM++[[58]]++(c.homes.take i).map aS)++[[.v (.string ⟨(aS fa).toArray⟩)]])]) tk mo hK [(9,[(0,.b true)]),(10,[(0,.ix (i) [.z fa])]),(11,[(2,.aO (.v (.string ⟨(aS fa).toArray⟩)))]),(12,[(0,.z (((i+1:Nat):Int)))])] 2000 [0] [3,35,36,37] r (by kernel_rfl) (U h1 (U (aP ((i:Nat):Int)) (U (ints_at eb) (U (sR (z:=fa) (by first | omega | (have:=(gR hm).head;omega)) (by first | omega | (have:=(gR hm).head;omega))) (U ((by first | rfl | (simp [strs];done) | (simp [strs];omega)):((3+c.ah.length+i))=(strs ([[119,111,114,108,100]]++[aS c.aq]++c.ah.map dM++[[58]]++(c.homes.take i).map aS):List (List DV)).length) (U ((by first | rfl | (simp [strs];done) | (simp [strs];omega)):(1)=([[.v (.string ⟨(aS fa).toArray⟩)]]:List (List DV)).length) (U ((by first | omega | (simp [strs];done) | (simp [strs];omega)):(2*(((3+c.ah.length+i))+(1))+192)*16≤281474976710656) (U ((by first | omega | (simp [strs];done) | (simp [strs];omega)):((3+c.ah.length+i))+(1)<4611686018427387904) (U ((by simp [bc,AV.one,bU,strs]):bc ([[.v (.string ⟨(aS fa).toArray⟩)]])) (U ((wi (by omega)):IntKind.i64.wrap ((((i:Nat):Int):Int)+1)=((i+1:Nat):Int)) trivial)))))))))) fun ac wd r=>jT (by omega) ac wd ⟨(by omega),r.cast rfl (by rw [Au eb];simp [strs])⟩
 | true=>
  have bH:=of_decide_eq_true h0
  obtain ⟨bw,cG⟩:∃ x_,c.ah[i]?=some x_:=⟨_,List.getElem?_eq_getElem (by omega)⟩
  have nZ:=(gR hm).link i _ cG
  unfold iE at nZ
  have Pv:=ow (z:=bw.1) (by omega)
  have tF:=ow (z:=bw.2) (by omega)
  exact cO (todo':=hd Tryd.f21 0) (E':=[(1,.pt 0 0),(3,.sl 1 ((2+i)+(1))),(13,.d (.ro 2 (ah c.ah))),(14,.n c.ah.length),(15,.n (i+1))]) (M':=[.bx 25 [.z c.aq,.d (.ro 2 (ah c.ah)),.d (.ro 1 (ints c.homes))],.rw 9 1 (strs ([[119,111,114,108,100]]++[aS c.aq]++(c.ah.take i).map dM)++[[.v (.string ⟨((aS bw.1)++[45]++(aS bw.2)).toArray⟩)]])]) tk mo hK [(3,[(0,.b true)]),(4,[(0,.ix (i) [.z bw.1,.z bw.2])]),(5,[(1,.n 0),(5,.n 1),(3,.aO (.v (.string ⟨(aS bw.1).toArray⟩))),(7,.aO (.v (.string ⟨(aS bw.2).toArray⟩)))]),(6,[(0,.z (((i+1:Nat):Int)))])] 2000 [0,1] [1,3,13,14,15] r (by kernel_rfl) (U h0 (U (aP ((i:Nat):Int)) (U (iQ cG) (U (rfl:(0)=((0:Nat):Int)) (U ((by omega):(0)<2) (U (rfl:(1)=((1:Nat):Int)) (U ((by omega):(1)<2) (U (sR (z:=bw.1) (by first | omega | (have:=(gR hm).head;omega)) (by first | omega | (have:=(gR hm).head;omega))) (U ((by first | omega | decide | (simp;done) | (simp;omega)):((aS bw.1):List UInt8).length+([45]:List UInt8).length≤9223372036854775807) (U (sR (z:=bw.2) (by first | omega | (have:=(gR hm).head;omega)) (by first | omega | (have:=(gR hm).head;omega))) (U ((by first | omega | decide | (simp;done) | (simp;omega)):((aS bw.1)++[45]:List UInt8).length+((aS bw.2):List UInt8).length≤9223372036854775807) (U ((by first | rfl | (simp [strs];done) | (simp [strs];omega)):((2+i))=(strs ([[119,111,114,108,100]]++[aS c.aq]++(c.ah.take i).map dM):List (List DV)).length) (U ((by first | rfl | (simp [strs];done) | (simp [strs];omega)):(1)=([[.v (.string ⟨((aS bw.1)++[45]++(aS bw.2)).toArray⟩)]]:List (List DV)).length) (U ((by first | omega | (simp [strs];done) | (simp [strs];omega)):(2*(((2+i))+(1))+192)*16≤281474976710656) (U ((by first | omega | (simp [strs];done) | (simp [strs];omega)):((2+i))+(1)<4611686018427387904) (U ((by simp [bc,AV.one,bU,strs]):bc ([[.v (.string ⟨((aS bw.1)++[45]++(aS bw.2)).toArray⟩)]])) (U ((wi (by omega)):IntKind.i64.wrap ((((i:Nat):Int):Int)+1)=((i+1:Nat):Int)) trivial))))))))))))))))) fun ac wd r=>bP (by omega) ac wd ⟨(by omega),r.cast rfl (by rw [Au cG];simp [strs,dM])⟩
end Go.Proofs.YtcnpikbbmbombaaDoor
namespace Go.Proofs.YtcnpikbbmbombaaDoor
open Go.RowKit
theorem BG {x:Nat} (h:x<18446744073709551616):IntKind.u64.wrap (((x:Nat):Int).tdiv 10)=((x / 10:Nat):Int):=by
 have e:((x:Nat):Int).tdiv 10=((x / 10:Nat):Int):=(Int.ofNat_tdiv x 10).symm
 rw [e];simp [IntKind.wrap,IntKind.signed,IntKind.bits];omega
def dE (most:Nat):List UInt8→Nat→Option Nat
 | [],n=>some n
 | b::r,n=>if b.toNat<48∨57<b.toNat then none else if (most-(b.toNat-48)) / 10<n then none else dE most r (10*n+(b.toNat-48))
def aH (w:List UInt8) (most:Nat):Nat×Bool:=if w=[]∨(w.head?=some 48∧w≠[48]) then (0,false) else (match dE most w 0 with | some n=>(n,true) | none=>(0,false))
theorem kQ {w:List UInt8} {most:Nat} (h:w=[]∨(w.head?=some 48∧w≠[48])):aH w most=(0,false):=by unfold aH;rw [if_pos h]
theorem kg {w:List UInt8} {most n:Nat} (h:¬ (w=[]∨(w.head?=some 48∧w≠[48]))) (e:dE most w 0=some n):aH w most=(n,true):=by unfold aH;rw [if_neg h,e]
theorem fy {w:List UInt8} {most:Nat} (h:¬ (w=[]∨(w.head?=some 48∧w≠[48]))) (e:dE most w 0=none):aH w most=(0,false):=by unfold aH;rw [if_neg h,e]
theorem lq {w:List UInt8} (h:(w==([48]:List UInt8))=false):w≠[48]:=by intro e;subst e;simp at h
theorem Lz {w:List UInt8} (hw:w≠[]) (h:(w==([48]:List UInt8))=true):¬ (w=[]∨(w.head?=some 48∧w≠[48])):=by
 rintro (h1 | ⟨_,h1⟩)
 ·exact hw h1
 ·exact h1 (by simpa using h)
theorem LA {w:List UInt8} {e:UInt8} (hw:w≠[]) (g:w[0]?=some e) (h:¬ ((e.toNat:Nat):Int)=48):¬ (w=[]∨(w.head?=some 48∧w≠[48])):=by
 rintro (h1 | ⟨h1,_⟩)
 ·exact hw h1
 ·rw [List.head?_eq_getElem?,g] at h1;cases h1;exact h rfl
theorem fc {most n i:Nat} {w:List UInt8} {b:UInt8} (h:w[i]?=some b):dE most (w.drop i) n=if b.toNat<48∨57<b.toNat then none else if (most-(b.toNat-48)) / 10<n then none else dE most (w.drop (i+1)) (10*n+(b.toNat-48)):=by
 obtain ⟨aI,rfl⟩:=List.getElem?_eq_some_iff.1 h
 rw [List.drop_eq_getElem_cons aI];rfl
theorem Bc {most:Nat}:∀ {w:List UInt8} {n k:Nat},n≤most→9≤most→dE most w n=some k→k≤most
 | [],n,k,h,_,e=>by simp [dE] at e;omega
 | b::r,n,k,h,h9,e=>by
  unfold dE at e
  split at e
  ·cases e
  ·split at e
   ·cases e
   ·exact Bc (by omega) h9 e
theorem lJ {p:Nat×Bool} {a:Nat} {b:Bool} (h:p=(a,b)):(DV.tu [.u p.1,.v (.bool p.2)]:DV)=.tu [.u a,.v (.bool b)]:=by rw [h]
theorem dF {p:Nat×Bool} {b:Bool} (h:p=(0,b)):(DV.tu [.u p.1,.v (.bool p.2)]:DV)=.tu [.v (.int .u64 0),.v (.bool b)]:=by rw [h];rfl
theorem js {w:List UInt8} {e:UInt8} (h:w[0]?=some e):w.head?=some e:=by rw [List.head?_eq_getElem?];exact h
theorem lK {e:UInt8} (h:((e.toNat:Nat):Int)=48):e=48:=by apply UInt8.toNat_inj.1;simp;omega
set_option maxRecDepth 100000 in
theorem Ja (w:List UInt8) (most:Nat) (e0:UInt8) (g0:w[0]?=some e0) (hw:w≠[]) (hl:w.length≤9223372036854775807) (h9:9≤most) (hm:most<18446744073709551616):aB Tryd.prog 54 [.d (.v (.string ⟨w.toArray⟩)),.u most] (.tu [.u (aH w most).1,.v (.bool (aH w most).2)]):=by
 refine aB.intro (by kernel_rfl) rfl rfl 52 rfl rfl fun w0 K ac hK r=>?_
 cases h0:(w==([]:List UInt8)) with
 | false=>
  have aZ:=(⟨_,g0,rfl⟩:∃ u:UInt8,(w:List UInt8)[0]?=some u∧(.v (.int .u8 (((e0.toNat:Nat):Int))):DV)=.v (.int .u8 (u.toNat:Int)))
  cases h1:((((e0.toNat:Nat):Int):Int)==48) with
  | false=>
   have cm:=ne_of_beq_false h1
   have hR:=LA hw g0 (by assumption)
   refine cO (todo':=hd Tryd.f54 0) (E':=[(0,.d (.v (.string ⟨w.toArray⟩))),(1,.u most),(6,.u 0),(21,.n w.length),(22,.n 0)]) (M':=[]) tk mo hK [(1,[(1,.b false),(4,.ix (0) [.v (.int .u8 (((e0.toNat:Nat):Int)))]),(5,.b false)])] 2000 [] [0,1,6,21,22] r (by kernel_rfl) (U h0 (U (rfl:(0:Int)=((0:Nat):Int)) (U aZ (U h1 trivial)))) fun ac wd r=>?_
   refine aD.rounds (Φ:=fun (i:Nat) ac wd=>∃ n:Nat,(dE most (w.drop i) n=dE most w 0∧n≤most)∧dz [] w0 K 52 [(0,.d (.v (.string ⟨w.toArray⟩))),(1,.u most),(6,.u n),(21,.n w.length),(22,.n i)] [] ac wd) (w.length) ?_ (Nat.zero_le _) ⟨0,⟨rfl,Nat.zero_le _⟩,r⟩
   clear r
   rintro i eA bP ac wd ⟨n,ao,r⟩
   have Dk:=ao.2
   cases h2:(decide ((((i:Nat):Int):Int)<((w.length:Nat):Int))) with
   | false=>
    have c8:=of_decide_eq_false h2
    rw [show (.tu [.u (aH w most).1,.v (.bool (aH w most).2)]:DV)=.tu [.u n,.v (.bool true)] from (by first | exact dF (kQ (Or.inr ⟨(js g0).trans (congrArg some (lK (by assumption))),lq (by assumption)⟩)) | exact dF (fy hR (ao.1.symm.trans ((fc eo).trans (if_pos (by omega))))) | exact dF (fy hR (ao.1.symm.trans ((fc eo).trans ((if_neg (by omega)).trans (if_pos (by omega)))))) | exact lJ (kg hR (ao.1.symm.trans (by rw [List.drop_of_length_le (by omega)];rfl))))]
    exact br tk mo hK rfl [(5,[(0,.b false)])] 2000 r (by kernel_rfl) (U h2 trivial)
   | true=>
    have c8:=of_decide_eq_true h2
    obtain ⟨bA,eo⟩:∃ x_,w[i]?=some x_:=⟨_,List.getElem?_eq_getElem (by omega)⟩
    have mM:=bA.toNat_lt
    have bO:=(⟨_,eo,rfl⟩:∃ u:UInt8,(w:List UInt8)[i]?=some u∧(.v (.int .u8 (((bA.toNat:Nat):Int))):DV)=.v (.int .u8 (u.toNat:Int)))
    cases h3:(decide ((((bA.toNat:Nat):Int):Int)<48)) with
    | false=>
     have dQ:=of_decide_eq_false h3
     cases h4:(decide ((57:Int)<((bA.toNat:Nat):Int))) with
     | false=>
      have fk:=of_decide_eq_false h4
      have cL:=((by rw [w8 (by omega)];omega):IntKind.u8.wrap ((((bA.toNat:Nat):Int):Int)-48)=((bA.toNat-48:Nat):Int))
      have dR:=((wu (by omega)):IntKind.u64.wrap (((bA.toNat-48:Nat):Int))=((bA.toNat-48:Nat):Int))
      have ic:=((wu (by omega)):IntKind.u64.wrap ((((most:Nat):Int):Int)-((bA.toNat-48:Nat):Int))=((most-(bA.toNat-48):Nat):Int))
      have ie:=((BG (by omega)):IntKind.u64.wrap ((((most-(bA.toNat-48):Nat):Int):Int).tdiv 10)=(((most-(bA.toNat-48)) / 10:Nat):Int))
      cases h5:(decide (((((most-(bA.toNat-48)) / 10:Nat):Int):Int)<((n:Nat):Int))) with
      | false=>
       have fL:=of_decide_eq_false h5
       exact cO (todo':=hd Tryd.f54 0) tk mo hK [(5,[(0,.b true)]),(7,[(2,.ix (i) [.v (.int .u8 (((bA.toNat:Nat):Int)))]),(3,.b false),(7,.ix (i) [.v (.int .u8 (((bA.toNat:Nat):Int)))]),(8,.b false)]),(9,[(2,.ix (i) [.v (.int .u8 (((bA.toNat:Nat):Int)))]),(3,.z (((bA.toNat-48:Nat):Int))),(4,.z (((bA.toNat-48:Nat):Int)))]),(10,[(3,.z (((most-(bA.toNat-48):Nat):Int))),(4,.z ((((most-(bA.toNat-48)) / 10:Nat):Int))),(5,.b false)]),(12,[(1,.z (((10*n:Nat):Int))),(3,.z (((10*n+(bA.toNat-48):Nat):Int)))]),(13,[(0,.z (((i+1:Nat):Int)))])] 2000 [] [0,1,6,21,22] r (by kernel_rfl) (U h2 (U (aP ((i:Nat):Int)) (U bO (U h3 (U (aP ((i:Nat):Int)) (U bO (U h4 (U (aP ((i:Nat):Int)) (U bO (U cL (U dR (U ic (U ie (U ((by decide):(10:Int)≠0) (U h5 (U ((wu (by omega)):IntKind.u64.wrap ((10:Int)*((n:Nat):Int))=((10*n:Nat):Int)) (U ((wu (by omega)):IntKind.u64.wrap ((((10*n:Nat):Int):Int)+((bA.toNat-48:Nat):Int))=((10*n+(bA.toNat-48):Nat):Int)) (U ((wi (by omega)):IntKind.i64.wrap ((((i:Nat):Int):Int)+1)=((i+1:Nat):Int)) trivial)))))))))))))))))) fun ac wd r=>bP (by omega) ac wd ⟨(10*n+(bA.toNat-48)),⟨by rw [← ao.1,fc eo,if_neg (by omega),if_neg (by omega)],by omega⟩,r⟩
      | true=>
       have fL:=of_decide_eq_true h5
       rw [show (.tu [.u (aH w most).1,.v (.bool (aH w most).2)]:DV)=.tu [.v (.int .u64 0),.v (.bool false)] from (by first | exact dF (kQ (Or.inr ⟨(js g0).trans (congrArg some (lK (by assumption))),lq (by assumption)⟩)) | exact dF (fy hR (ao.1.symm.trans ((fc eo).trans (if_pos (by omega))))) | exact dF (fy hR (ao.1.symm.trans ((fc eo).trans ((if_neg (by omega)).trans (if_pos (by omega)))))) | exact lJ (kg hR (ao.1.symm.trans (by rw [List.drop_of_length_le (by omega)];rfl))))]
       exact br tk mo hK rfl [(5,[(0,.b true)]),(7,[(2,.ix (i) [.v (.int .u8 (((bA.toNat:Nat):Int)))]),(3,.b false),(7,.ix (i) [.v (.int .u8 (((bA.toNat:Nat):Int)))]),(8,.b false)]),(9,[(2,.ix (i) [.v (.int .u8 (((bA.toNat:Nat):Int)))]),(3,.z (((bA.toNat-48:Nat):Int))),(4,.z (((bA.toNat-48:Nat):Int)))]),(10,[(3,.z (((most-(bA.toNat-48):Nat):Int))),(4,.z ((((most-(bA.toNat-48)) / 10:Nat):Int))),(5,.b true)])] 2000 r (by kernel_rfl) (U h2 (U (aP ((i:Nat):Int)) (U bO (U h3 (U (aP ((i:Nat):Int)) (U bO (U h4 (U (aP ((i:Nat):Int)) (U bO (U cL (U dR (U ic (U ie (U ((by decide):(10:Int)≠0) (U h5 trivial)))))))))))))))
     | true=>
      have fk:=of_decide_eq_true h4
      rw [show (.tu [.u (aH w most).1,.v (.bool (aH w most).2)]:DV)=.tu [.v (.int .u64 0),.v (.bool false)] from (by first | exact dF (kQ (Or.inr ⟨(js g0).trans (congrArg some (lK (by assumption))),lq (by assumption)⟩)) | exact dF (fy hR (ao.1.symm.trans ((fc eo).trans (if_pos (by omega))))) | exact dF (fy hR (ao.1.symm.trans ((fc eo).trans ((if_neg (by omega)).trans (if_pos (by omega)))))) | exact lJ (kg hR (ao.1.symm.trans (by rw [List.drop_of_length_le (by omega)];rfl))))]
      exact br tk mo hK rfl [(5,[(0,.b true)]),(7,[(2,.ix (i) [.v (.int .u8 (((bA.toNat:Nat):Int)))]),(3,.b false),(7,.ix (i) [.v (.int .u8 (((bA.toNat:Nat):Int)))]),(8,.b true)])] 2000 r (by kernel_rfl) (U h2 (U (aP ((i:Nat):Int)) (U bO (U h3 (U (aP ((i:Nat):Int)) (U bO (U h4 trivial)))))))
    | true=>
     have dQ:=of_decide_eq_true h3
     rw [show (.tu [.u (aH w most).1,.v (.bool (aH w most).2)]:DV)=.tu [.v (.int .u64 0),.v (.bool false)] from (by first | exact dF (kQ (Or.inr ⟨(js g0).trans (congrArg some (lK (by assumption))),lq (by assumption)⟩)) | exact dF (fy hR (ao.1.symm.trans ((fc eo).trans (if_pos (by omega))))) | exact dF (fy hR (ao.1.symm.trans ((fc eo).trans ((if_neg (by omega)).trans (if_pos (by omega)))))) | exact lJ (kg hR (ao.1.symm.trans (by rw [List.drop_of_length_le (by omega)];rfl))))]
     exact br tk mo hK rfl [(5,[(0,.b true)]),(7,[(2,.ix (i) [.v (.int .u8 (((bA.toNat:Nat):Int)))]),(3,.b true)])] 2000 r (by kernel_rfl) (U h2 (U (aP ((i:Nat):Int)) (U bO (U h3 trivial))))
  | true=>
   have cm:=eq_of_beq h1
   cases h6:(w==([48]:List UInt8)) with
   | false=>
    rw [show (.tu [.u (aH w most).1,.v (.bool (aH w most).2)]:DV)=.tu [.v (.int .u64 0),.v (.bool false)] from (by first | exact dF (kQ (Or.inr ⟨(js g0).trans (congrArg some (lK (by assumption))),lq (by assumption)⟩)) | exact dF (fy hR (ao.1.symm.trans ((fc eo).trans (if_pos (by omega))))) | exact dF (fy hR (ao.1.symm.trans ((fc eo).trans ((if_neg (by omega)).trans (if_pos (by omega)))))) | exact lJ (kg hR (ao.1.symm.trans (by rw [List.drop_of_length_le (by omega)];rfl))))]
    exact br tk mo hK rfl [(1,[(1,.b false),(4,.ix (0) [.v (.int .u8 (((e0.toNat:Nat):Int)))]),(5,.b true),(8,.b true)])] 2000 r (by kernel_rfl) (U h0 (U (rfl:(0:Int)=((0:Nat):Int)) (U aZ (U h1 (U ((by simpa [bne] using h6):(w != ([48]:List UInt8))=true) trivial)))))
   | true=>
    have hR:=Lz hw (by assumption)
    refine cO (todo':=hd Tryd.f54 0) (E':=[(0,.d (.v (.string ⟨w.toArray⟩))),(1,.u most),(6,.u 0),(21,.n w.length),(22,.n 0)]) (M':=[]) tk mo hK [(1,[(1,.b false),(4,.ix (0) [.v (.int .u8 (((e0.toNat:Nat):Int)))]),(5,.b true),(8,.b false)])] 2000 [] [0,1,6,21,22] r (by kernel_rfl) (U h0 (U (rfl:(0:Int)=((0:Nat):Int)) (U aZ (U h1 (U ((by simpa [bne] using h6):(w != ([48]:List UInt8))=false) trivial))))) fun ac wd r=>?_
    refine aD.rounds (Φ:=fun (i:Nat) ac wd=>∃ n:Nat,(dE most (w.drop i) n=dE most w 0∧n≤most)∧dz [] w0 K 52 [(0,.d (.v (.string ⟨w.toArray⟩))),(1,.u most),(6,.u n),(21,.n w.length),(22,.n i)] [] ac wd) (w.length) ?_ (Nat.zero_le _) ⟨0,⟨rfl,Nat.zero_le _⟩,r⟩
    clear r
    rintro i eA bP ac wd ⟨n,ao,r⟩
    have Dk:=ao.2
    cases h7:(decide ((((i:Nat):Int):Int)<((w.length:Nat):Int))) with
    | false=>
     have eO:=of_decide_eq_false h7
     rw [show (.tu [.u (aH w most).1,.v (.bool (aH w most).2)]:DV)=.tu [.u n,.v (.bool true)] from (by first | exact dF (kQ (Or.inr ⟨(js g0).trans (congrArg some (lK (by assumption))),lq (by assumption)⟩)) | exact dF (fy hR (ao.1.symm.trans ((fc eo).trans (if_pos (by omega))))) | exact dF (fy hR (ao.1.symm.trans ((fc eo).trans ((if_neg (by omega)).trans (if_pos (by omega)))))) | exact lJ (kg hR (ao.1.symm.trans (by rw [List.drop_of_length_le (by omega)];rfl))))]
     exact br tk mo hK rfl [(5,[(0,.b false)])] 2000 r (by kernel_rfl) (U h7 trivial)
    | true=>
     have eO:=of_decide_eq_true h7
     obtain ⟨bA,eo⟩:∃ x_,w[i]?=some x_:=⟨_,List.getElem?_eq_getElem (by omega)⟩
     have mM:=bA.toNat_lt
     have eC:=(⟨_,eo,rfl⟩:∃ u:UInt8,(w:List UInt8)[i]?=some u∧(.v (.int .u8 (((bA.toNat:Nat):Int))):DV)=.v (.int .u8 (u.toNat:Int)))
     cases h8:(decide ((((bA.toNat:Nat):Int):Int)<48)) with
     | false=>
      have ib:=of_decide_eq_false h8
      cases h9:(decide ((57:Int)<((bA.toNat:Nat):Int))) with
      | false=>
       have pC:=of_decide_eq_false h9
       have fM:=((by rw [w8 (by omega)];omega):IntKind.u8.wrap ((((bA.toNat:Nat):Int):Int)-48)=((bA.toNat-48:Nat):Int))
       have fZ:=((wu (by omega)):IntKind.u64.wrap (((bA.toNat-48:Nat):Int))=((bA.toNat-48:Nat):Int))
       have jJ:=((wu (by omega)):IntKind.u64.wrap ((((most:Nat):Int):Int)-((bA.toNat-48:Nat):Int))=((most-(bA.toNat-48):Nat):Int))
       have pe:=((BG (by omega)):IntKind.u64.wrap ((((most-(bA.toNat-48):Nat):Int):Int).tdiv 10)=(((most-(bA.toNat-48)) / 10:Nat):Int))
       cases dm:(decide (((((most-(bA.toNat-48)) / 10:Nat):Int):Int)<((n:Nat):Int))) with
       | false=>
        have nC:=of_decide_eq_false dm
        exact cO (todo':=hd Tryd.f54 0) tk mo hK [(5,[(0,.b true)]),(7,[(2,.ix (i) [.v (.int .u8 (((bA.toNat:Nat):Int)))]),(3,.b false),(7,.ix (i) [.v (.int .u8 (((bA.toNat:Nat):Int)))]),(8,.b false)]),(9,[(2,.ix (i) [.v (.int .u8 (((bA.toNat:Nat):Int)))]),(3,.z (((bA.toNat-48:Nat):Int))),(4,.z (((bA.toNat-48:Nat):Int)))]),(10,[(3,.z (((most-(bA.toNat-48):Nat):Int))),(4,.z ((((most-(bA.toNat-48)) / 10:Nat):Int))),(5,.b false)]),(12,[(1,.z (((10*n:Nat):Int))),(3,.z (((10*n+(bA.toNat-48):Nat):Int)))]),(13,[(0,.z (((i+1:Nat):Int)))])] 2000 [] [0,1,6,21,22] r (by kernel_rfl) (U h7 (U (aP ((i:Nat):Int)) (U eC (U h8 (U (aP ((i:Nat):Int)) (U eC (U h9 (U (aP ((i:Nat):Int)) (U eC (U fM (U fZ (U jJ (U pe (U ((by decide):(10:Int)≠0) (U dm (U ((wu (by omega)):IntKind.u64.wrap ((10:Int)*((n:Nat):Int))=((10*n:Nat):Int)) (U ((wu (by omega)):IntKind.u64.wrap ((((10*n:Nat):Int):Int)+((bA.toNat-48:Nat):Int))=((10*n+(bA.toNat-48):Nat):Int)) (U ((wi (by omega)):IntKind.i64.wrap ((((i:Nat):Int):Int)+1)=((i+1:Nat):Int)) trivial)))))))))))))))))) fun ac wd r=>bP (by omega) ac wd ⟨(10*n+(bA.toNat-48)),⟨by rw [← ao.1,fc eo,if_neg (by omega),if_neg (by omega)],by omega⟩,r⟩
       | true=>
        have nC:=of_decide_eq_true dm
        rw [show (.tu [.u (aH w most).1,.v (.bool (aH w most).2)]:DV)=.tu [.v (.int .u64 0),.v (.bool false)] from (by first | exact dF (kQ (Or.inr ⟨(js g0).trans (congrArg some (lK (by assumption))),lq (by assumption)⟩)) | exact dF (fy hR (ao.1.symm.trans ((fc eo).trans (if_pos (by omega))))) | exact dF (fy hR (ao.1.symm.trans ((fc eo).trans ((if_neg (by omega)).trans (if_pos (by omega)))))) | exact lJ (kg hR (ao.1.symm.trans (by rw [List.drop_of_length_le (by omega)];rfl))))]
        exact br tk mo hK rfl [(5,[(0,.b true)]),(7,[(2,.ix (i) [.v (.int .u8 (((bA.toNat:Nat):Int)))]),(3,.b false),(7,.ix (i) [.v (.int .u8 (((bA.toNat:Nat):Int)))]),(8,.b false)]),(9,[(2,.ix (i) [.v (.int .u8 (((bA.toNat:Nat):Int)))]),(3,.z (((bA.toNat-48:Nat):Int))),(4,.z (((bA.toNat-48:Nat):Int)))]),(10,[(3,.z (((most-(bA.toNat-48):Nat):Int))),(4,.z ((((most-(bA.toNat-48)) / 10:Nat):Int))),(5,.b true)])] 2000 r (by kernel_rfl) (U h7 (U (aP ((i:Nat):Int)) (U eC (U h8 (U (aP ((i:Nat):Int)) (U eC (U h9 (U (aP ((i:Nat):Int)) (U eC (U fM (U fZ (U jJ (U pe (U ((by decide):(10:Int)≠0) (U dm trivial)))))))))))))))
      | true=>
       have pC:=of_decide_eq_true h9
       rw [show (.tu [.u (aH w most).1,.v (.bool (aH w most).2)]:DV)=.tu [.v (.int .u64 0),.v (.bool false)] from (by first | exact dF (kQ (Or.inr ⟨(js g0).trans (congrArg some (lK (by assumption))),lq (by assumption)⟩)) | exact dF (fy hR (ao.1.symm.trans ((fc eo).trans (if_pos (by omega))))) | exact dF (fy hR (ao.1.symm.trans ((fc eo).trans ((if_neg (by omega)).trans (if_pos (by omega)))))) | exact lJ (kg hR (ao.1.symm.trans (by rw [List.drop_of_length_le (by omega)];rfl))))]
       exact br tk mo hK rfl [(5,[(0,.b true)]),(7,[(2,.ix (i) [.v (.int .u8 (((bA.toNat:Nat):Int)))]),(3,.b false),(7,.ix (i) [.v (.int .u8 (((bA.toNat:Nat):Int)))]),(8,.b true)])] 2000 r (by kernel_rfl) (U h7 (U (aP ((i:Nat):Int)) (U eC (U h8 (U (aP ((i:Nat):Int)) (U eC (U h9 trivial)))))))
     | true=>
      have ib:=of_decide_eq_true h8
      rw [show (.tu [.u (aH w most).1,.v (.bool (aH w most).2)]:DV)=.tu [.v (.int .u64 0),.v (.bool false)] from (by first | exact dF (kQ (Or.inr ⟨(js g0).trans (congrArg some (lK (by assumption))),lq (by assumption)⟩)) | exact dF (fy hR (ao.1.symm.trans ((fc eo).trans (if_pos (by omega))))) | exact dF (fy hR (ao.1.symm.trans ((fc eo).trans ((if_neg (by omega)).trans (if_pos (by omega)))))) | exact lJ (kg hR (ao.1.symm.trans (by rw [List.drop_of_length_le (by omega)];rfl))))]
      exact br tk mo hK rfl [(5,[(0,.b true)]),(7,[(2,.ix (i) [.v (.int .u8 (((bA.toNat:Nat):Int)))]),(3,.b true)])] 2000 r (by kernel_rfl) (U h7 (U (aP ((i:Nat):Int)) (U eC (U h8 trivial))))
 | true=>
  exact absurd (eq_of_beq h0) hw
set_option maxRecDepth 100000 in
theorem Kk (most:Nat):aB Tryd.prog 54 [.d (.v (.string ⟨([]).toArray⟩)),.u most] (.tu [.v (.int .u64 0),.v (.bool false)]):=by
 refine aB.intro (by kernel_rfl) rfl rfl 52 rfl rfl fun w0 K ac hK r=>?_
 rw [show (.tu [.v (.int .u64 0),.v (.bool false)]:DV)=.tu [.v (.int .u64 0),.v (.bool false)] from rfl]
 exact br tk mo hK rfl [(1,[(1,.b true)])] 2000 r (by kernel_rfl) (U ((by first | decide | simp):(([]:List UInt8)==[])=true) trivial)
theorem r5 (w:List UInt8) (most:Nat) (hl:w.length≤9223372036854775807) (h9:9≤most) (hm:most<18446744073709551616):aB Tryd.prog 54 [.d (.v (.string ⟨w.toArray⟩)),.u most] (.tu [.u (aH w most).1,.v (.bool (aH w most).2)]):=by
 cases w with
 | nil=>exact Kk most
 | cons b r=>exact Ja (b::r) most b rfl (by simp) hl h9 hm
end Go.Proofs.YtcnpikbbmbombaaDoor
namespace Go.Proofs.YtcnpikbbmbombaaDoor
open Go.RowKit
def hx (b:UInt8):Int:=Go.Lib.indexByte [48,49,50,51,52,53,54,55,56,57,97,98,99,100,101,102] b
def bC (b:UInt8):Nat:=(hx b).toNat
theorem LB (b:UInt8):hx b<16:=by
 have key:∀ n,n<256→hx (UInt8.ofNat n)<16:=by decide +kernel
 have:=key b.toNat b.toNat_lt
 rwa [UInt8.ofNat_toNat] at this
theorem ni {b:UInt8} (h:decide (hx b<0)=false):hx b=((bC b:Nat):Int)∧bC b<16:=by
 have h:=of_decide_eq_false h
 have:=LB b
 unfold bC;omega
theorem LC {b:UInt8} (h:decide (hx b<0)=true):hx b = -1:=by
 have h:=of_decide_eq_true h
 have:=Go.Lib.indexByte_ge [48,49,50,51,52,53,54,55,56,57,97,98,99,100,101,102] b
 unfold hx at *;omega
theorem o1 {b:UInt8} (h:decide (hx b<0)=false):aB Tryd.prog 68 [.d (.v (.string ⟨([48,49,50,51,52,53,54,55,56,57,97,98,99,100,101,102]:List UInt8).toArray⟩)),.d (.v (.int .u8 ((b.toNat:Nat):Int)))] (.n (bC b)):=by
 have q:=yY [48,49,50,51,52,53,54,55,56,57,97,98,99,100,101,102] b
 rw [show Go.Lib.indexByte [48,49,50,51,52,53,54,55,56,57,97,98,99,100,101,102] b=((bC b:Nat):Int) from (ni h).1] at q;exact q
theorem tn {b:UInt8} (h:decide (hx b<0)=true):aB Tryd.prog 68 [.d (.v (.string ⟨([48,49,50,51,52,53,54,55,56,57,97,98,99,100,101,102]:List UInt8).toArray⟩)),.d (.v (.int .u8 ((b.toNat:Nat):Int)))] (.z (-1)):=by
 have q:=yY [48,49,50,51,52,53,54,55,56,57,97,98,99,100,101,102] b
 rw [show Go.Lib.indexByte [48,49,50,51,52,53,54,55,56,57,97,98,99,100,101,102] b = -1 from LC h] at q;exact q
theorem CM {h:Nat} (hh:h<16):IntKind.i64.wrap (((h:Nat):Int)*2 ^ (min (4:Int).toNat IntKind.i64.bits))=((16*h:Nat):Int):=by
 show IntKind.i64.wrap (((h:Nat):Int)*16)=_
 simp [IntKind.wrap,IntKind.signed,IntKind.bits];omega
theorem Cf {h l:Nat} (hh:h<16) (hl:l<16):IntKind.i64.wrap ((BitVec.ofInt IntKind.i64.bits ((16*h:Nat):Int) ||| BitVec.ofInt IntKind.i64.bits ((l:Nat):Int)).toNat:Int)=((16*h+l:Nat):Int):=by
 have h1:(BitVec.ofInt 64 ((16*h:Nat):Int) ||| BitVec.ofInt 64 ((l:Nat):Int)).toNat=16*h+l:=by
  rw [BitVec.toNat_or,BitVec.ofInt_natCast,BitVec.ofInt_natCast,BitVec.toNat_ofNat,BitVec.toNat_ofNat,Nat.mod_eq_of_lt (by omega),Nat.mod_eq_of_lt (by omega)]
  have:=Nat.two_pow_add_eq_or_of_lt (i:=4) (b:=l) (by omega) h
  rw [show 16*h=2 ^ 4*h from by omega];omega
 show IntKind.i64.wrap ((BitVec.ofInt 64 ((16*h:Nat):Int) ||| BitVec.ofInt 64 ((l:Nat):Int)).toNat:Int)=_
 rw [h1];simp [IntKind.wrap,IntKind.signed,IntKind.bits];omega
def fI:List UInt8→Option (List UInt8)
 | a::b::r=>if hx a<0∨hx b<0 then none else (fI r).map fun q=>bz ((16*bC a+bC b:Nat):Int)::q
 | _=>some []
def ew (w:List UInt8):List UInt8×Bool:=if w=[45] then ([],true) else if w=[]∨w.length%2≠0∨510<w.length then ([],false) else (match fI w with | some q=>(q,true) | none=>([],false))
theorem sn {w:List UInt8} {i:Nat} {a b:UInt8} (h1:w[2*i]?=some a) (h2:w[2*i+1]?=some b):fI (w.drop (2*i))=if hx a<0∨hx b<0 then none else (fI (w.drop (2*(i+1)))).map fun q=>bz ((16*bC a+bC b:Nat):Int)::q:=by
 obtain ⟨MX,rfl⟩:=List.getElem?_eq_some_iff.1 h1
 obtain ⟨MY,rfl⟩:=List.getElem?_eq_some_iff.1 h2
 rw [List.drop_eq_getElem_cons MX,List.drop_eq_getElem_cons MY,fI];rfl
theorem Hz {w:List UInt8} (h1:w≠[45]) (h:w=[]∨w.length%2≠0∨510<w.length):ew w=([],false):=by unfold ew;rw [if_neg h1,if_pos h]
theorem F5 {w:List UInt8} (h1:w≠[45]) (h:¬ (w=[]∨w.length%2≠0∨510<w.length)) (e:fI w=none):ew w=([],false):=by unfold ew;rw [if_neg h1,if_neg h,e]
theorem zL {w q:List UInt8} (h1:w≠[45]) (h:¬ (w=[]∨w.length%2≠0∨510<w.length)) (e:fI w=some q):ew w=(q,true):=by unfold ew;rw [if_neg h1,if_neg h,e]
theorem xf (n:Nat):((n:Nat):Int).tmod 2=((n%2:Nat):Int):=(Int.ofNat_tmod n 2).symm
set_option maxRecDepth 100000 in
theorem Jb (w:List UInt8) (h1:w≠[45]) (hN:¬ (w=[]∨w.length%2≠0∨510<w.length)) (q:List UInt8) (hq:fI w=some q):aB Tryd.prog 57 [.d (.v (.string ⟨w.toArray⟩))] (DV.tu [.em 5 1 (af q),.v (.bool true)]):=by
 refine aB.intro (by kernel_rfl) rfl rfl 53 rfl rfl fun w0 K ac hK r=>?_
 cases h0:(w==([45]:List UInt8)) with
 | false=>
  cases h1:(w==([]:List UInt8)) with
  | false=>
   have aZ:=((xf _):(((w.length:Nat):Int):Int).tmod 2=((w.length%2:Nat):Int))
   cases h2:((((w.length%2:Nat):Int):Int) != 0) with
   | false=>
    have c8:=fx h2
    cases h3:(decide ((510:Int)<((w.length:Nat):Int))) with
    | false=>
     have dQ:=of_decide_eq_false h3
     refine cO (todo':=hd Tryd.f57 0) (E':=[(0,.d (.v (.string ⟨w.toArray⟩))),(4,.d (.v (.slice none 0 0))),(5,.z 0)]) (M':=[]) tk mo hK [(1,[(1,.b false)]),(3,[(1,.b false),(5,.z (((w.length%2:Nat):Int))),(6,.b false),(11,.b false)])] 2000 [] [0,4,5] r (by kernel_rfl) (U h0 (U h1 (U aZ (U ((by decide):(2:Int)≠0) (U h2 (U h3 trivial)))))) fun ac wd r=>?_
     refine aD.rounds (Φ:=fun (i:Nat) ac wd=>∃ o:List UInt8,(o.length=i∧2*i≤w.length∧fI w=(fI (w.drop (2*i))).map fun q=>o++q)∧dz [] w0 K 53 [(0,.d (.v (.string ⟨w.toArray⟩))),(4,.sl 0 (i)),(5,.n (2*i))] [.rw 5 1 (af o)] ac wd) (255) ?_ (Nat.zero_le _) ⟨[],⟨rfl,Nat.zero_le _,by simp⟩,r.fE (M1:=[.rw 5 1 []]) [(4,5,1)] [] (by kernel_rfl) (by kernel_rfl)⟩
     clear r
     rintro i eA bP ac wd ⟨o,ao,r⟩
     have mE:=ao.1
     have Od:=ao.2.1
     cases h4:(decide ((((2*i:Nat):Int):Int)<((w.length:Nat):Int))) with
     | false=>
      have fk:=of_decide_eq_false h4
      rw [show (DV.tu [.em 5 1 (af q),.v (.bool true)]:DV)=.tu [.em 5 1 (af o),.v (.bool true)] from (by have e:=hq.symm.trans ao.2.2;rw [List.drop_of_length_le (by omega)] at e;simp [fI] at e;rw [e])]
      exact br tk mo hK rfl [(7,[(3,.b false)])] 2000 r (by kernel_rfl) (U h4 (U ((by first | rfl | (simp [af];done) | (simp [af];omega)):(i)=(af o).length) trivial))
     | true=>
      have fk:=of_decide_eq_true h4
      obtain ⟨cD,n3⟩:∃ x_,w[2*i]?=some x_:=⟨_,List.getElem?_eq_getElem (by omega)⟩
      obtain ⟨cS,n4⟩:∃ x_,w[2*i+1]?=some x_:=⟨_,List.getElem?_eq_getElem (by omega)⟩
      have bO:=(⟨_,n3,rfl⟩:∃ u:UInt8,(w:List UInt8)[2*i]?=some u∧(.v (.int .u8 (((cD.toNat:Nat):Int))):DV)=.v (.int .u8 (u.toNat:Int)))
      have cL:=((wi (by omega)):IntKind.i64.wrap ((((2*i:Nat):Int):Int)+1)=((2*i+1:Nat):Int))
      have dR:=(⟨_,n4,rfl⟩:∃ u:UInt8,(w:List UInt8)[2*i+1]?=some u∧(.v (.int .u8 (((cS.toNat:Nat):Int))):DV)=.v (.int .u8 (u.toNat:Int)))
      cases h5:(decide (hx cD<0)) with
      | false=>
       have fL:=of_decide_eq_false h5
       cases h6:(decide (hx cS<0)) with
       | false=>
        have ia:=of_decide_eq_false h6
        cases h7:(decide ((((bC cD:Nat):Int):Int)<0)) with
        | false=>
         have eO:=of_decide_eq_false h7
         cases h8:(decide ((((bC cS:Nat):Int):Int)<0)) with
         | false=>
          have ib:=of_decide_eq_false h8
          exact cO (todo':=hd Tryd.f57 0) (E':=[(0,.d (.v (.string ⟨w.toArray⟩))),(4,.sl 0 (i+(1))),(5,.n (2*(i+1)))]) (M':=[.rw 5 1 (af o++[[.v (.int .u8 ((((bz (((16*bC cD+bC cS:Nat):Int))).toNat:Nat):Int)))]])]) tk mo hK [(7,[(3,.b true)]),(8,[(1,.z (((2*(i+1):Nat):Int)))]),(9,[(2,.ix (2*i) [.v (.int .u8 (((cD.toNat:Nat):Int)))]),(6,.z (((2*i+1:Nat):Int))),(7,.ix (2*i+1) [.v (.int .u8 (((cS.toNat:Nat):Int)))]),(3,.aO (.n (bC cD))),(8,.aO (.n (bC cS)))]),(10,[(1,.b false),(4,.b false)]),(12,[(2,.z (((16*bC cD:Nat):Int))),(4,.z (((16*bC cD+bC cS:Nat):Int))),(5,.z ((((bz (((16*bC cD+bC cS:Nat):Int))).toNat:Nat):Int)))])] 2000 [0] [0,4,5] r (by kernel_rfl) (U h4 (U (aP ((2*i:Nat):Int)) (U bO (U cL (U (aP ((2*i+1:Nat):Int)) (U dR (U (o1 h5) (U (o1 h6) (U h7 (U h8 (U ((CM (ni (by assumption)).2):IntKind.i64.wrap ((((bC cD:Nat):Int):Int)*2 ^ (min (4:Int).toNat IntKind.i64.bits))=((16*bC cD:Nat):Int)) (U ((by first | decide | omega):(0:Int)≤4) (U ((Cf (ni (by assumption)).2 (ni (by assumption)).2):IntKind.i64.wrap ((BitVec.ofInt IntKind.i64.bits (((16*bC cD:Nat):Int)) ||| BitVec.ofInt IntKind.i64.bits (((bC cS:Nat):Int))).toNat:Int)=((16*bC cD+bC cS:Nat):Int)) (U ((gv _):IntKind.u8.wrap (((16*bC cD+bC cS:Nat):Int))=(((bz (((16*bC cD+bC cS:Nat):Int))).toNat:Nat):Int)) (U ((by first | rfl | (simp [af];done) | (simp [af];omega)):(i)=(af o).length) (U ((by first | rfl | (simp [af];done) | (simp [af];omega)):(1)=([[.v (.int .u8 ((((bz (((16*bC cD+bC cS:Nat):Int))).toNat:Nat):Int)))]]:List (List DV)).length) (U ((by first | omega | (simp [af];omega)):(2*((i)+(1))+192)*1≤281474976710656) (U ((by first | omega | (simp [af];omega)):(i)+(1)<4611686018427387904) (U ((by simp [bc,AV.one,bU,af,ah,ints,steps,strs]):bc ([[.v (.int .u8 ((((bz (((16*bC cD+bC cS:Nat):Int))).toNat:Nat):Int)))]])) (U ((wi (by omega)):IntKind.i64.wrap ((((2*i:Nat):Int):Int)+2)=((2*(i+1):Nat):Int)) trivial)))))))))))))))))))) fun ac wd r=>bP (by omega) ac wd ⟨(o++[bz ((16*bC cD+bC cS:Nat):Int)]),⟨by simp;omega,by omega,by rw [ao.2.2,sn n3 n4,if_neg (by rintro (h | h);exact absurd h (of_decide_eq_false (by assumption));exact absurd h (of_decide_eq_false (by assumption)))];simp [Option.map_map,Function.comp_def]⟩,r.cast rfl (by simp [af])⟩
         | true=>
          have ib:=of_decide_eq_true h8
          exact absurd ib (by omega)
        | true=>
         have eO:=of_decide_eq_true h7
         exact absurd eO (by omega)
       | true=>
        have ia:=of_decide_eq_true h6
        exact absurd (hq.symm.trans (ao.2.2.trans (by rw [sn n3 n4,if_pos (by first | exact .inl (of_decide_eq_true (by assumption)) | exact .inr (of_decide_eq_true (by assumption)))]))) (by simp)
      | true=>
       have fL:=of_decide_eq_true h5
       exact absurd (hq.symm.trans (ao.2.2.trans (by rw [sn n3 n4,if_pos (by first | exact .inl (of_decide_eq_true (by assumption)) | exact .inr (of_decide_eq_true (by assumption)))]))) (by simp)
    | true=>
     have dQ:=of_decide_eq_true h3
     exact absurd (.inr (.inr (by omega))) hN
   | true=>
    have c8:¬ _=_:=bne_iff_ne.1 h2
    exact absurd (.inr (.inl (by omega))) hN
  | true=>
   exact absurd (.inl (eq_of_beq h1)) hN
 | true=>
  exact absurd (eq_of_beq h0) h1
set_option maxRecDepth 100000 in
theorem Jc (w:List UInt8) (h1:w≠[45]) (hN:¬ (w=[]∨w.length%2≠0∨510<w.length)) (hq:fI w=none):aB Tryd.prog 57 [.d (.v (.string ⟨w.toArray⟩))] (.tu [.v (.slice none 0 0),.v (.bool false)]):=by
 refine aB.intro (by kernel_rfl) rfl rfl 53 rfl rfl fun w0 K ac hK r=>?_
 cases h0:(w==([45]:List UInt8)) with
 | false=>
  cases h1:(w==([]:List UInt8)) with
  | false=>
   have aZ:=((xf _):(((w.length:Nat):Int):Int).tmod 2=((w.length%2:Nat):Int))
   cases h2:((((w.length%2:Nat):Int):Int) != 0) with
   | false=>
    have c8:=fx h2
    cases h3:(decide ((510:Int)<((w.length:Nat):Int))) with
    | false=>
     have dQ:=of_decide_eq_false h3
     refine cO (todo':=hd Tryd.f57 0) (E':=[(0,.d (.v (.string ⟨w.toArray⟩))),(4,.d (.v (.slice none 0 0))),(5,.z 0)]) (M':=[]) tk mo hK [(1,[(1,.b false)]),(3,[(1,.b false),(5,.z (((w.length%2:Nat):Int))),(6,.b false),(11,.b false)])] 2000 [] [0,4,5] r (by kernel_rfl) (U h0 (U h1 (U aZ (U ((by decide):(2:Int)≠0) (U h2 (U h3 trivial)))))) fun ac wd r=>?_
     refine aD.rounds (Φ:=fun (i:Nat) ac wd=>∃ o:List UInt8,(o.length=i∧2*i≤w.length∧fI w=(fI (w.drop (2*i))).map fun q=>o++q)∧dz [] w0 K 53 [(0,.d (.v (.string ⟨w.toArray⟩))),(4,.sl 0 (i)),(5,.n (2*i))] [.rw 5 1 (af o)] ac wd) (255) ?_ (Nat.zero_le _) ⟨[],⟨rfl,Nat.zero_le _,by simp⟩,r.fE (M1:=[.rw 5 1 []]) [(4,5,1)] [] (by kernel_rfl) (by kernel_rfl)⟩
     clear r
     rintro i eA bP ac wd ⟨o,ao,r⟩
     have mE:=ao.1
     have Od:=ao.2.1
     cases h4:(decide ((((2*i:Nat):Int):Int)<((w.length:Nat):Int))) with
     | false=>
      have fk:=of_decide_eq_false h4
      rw [show (.tu [.v (.slice none 0 0),.v (.bool false)]:DV)=.tu [.em 5 1 (af o),.v (.bool true)] from (by have e:=hq.symm.trans ao.2.2;rw [List.drop_of_length_le (by omega)] at e;simp [fI] at e)]
      exact br tk mo hK rfl [(7,[(3,.b false)])] 2000 r (by kernel_rfl) (U h4 (U ((by first | rfl | (simp [af];done) | (simp [af];omega)):(i)=(af o).length) trivial))
     | true=>
      have fk:=of_decide_eq_true h4
      obtain ⟨cD,n3⟩:∃ x_,w[2*i]?=some x_:=⟨_,List.getElem?_eq_getElem (by omega)⟩
      obtain ⟨cS,n4⟩:∃ x_,w[2*i+1]?=some x_:=⟨_,List.getElem?_eq_getElem (by omega)⟩
      have bO:=(⟨_,n3,rfl⟩:∃ u:UInt8,(w:List UInt8)[2*i]?=some u∧(.v (.int .u8 (((cD.toNat:Nat):Int))):DV)=.v (.int .u8 (u.toNat:Int)))
      have cL:=((wi (by omega)):IntKind.i64.wrap ((((2*i:Nat):Int):Int)+1)=((2*i+1:Nat):Int))
      have dR:=(⟨_,n4,rfl⟩:∃ u:UInt8,(w:List UInt8)[2*i+1]?=some u∧(.v (.int .u8 (((cS.toNat:Nat):Int))):DV)=.v (.int .u8 (u.toNat:Int)))
      cases h5:(decide (hx cD<0)) with
      | false=>
       have fL:=of_decide_eq_false h5
       cases h6:(decide (hx cS<0)) with
       | false=>
        have ia:=of_decide_eq_false h6
        cases h7:(decide ((((bC cD:Nat):Int):Int)<0)) with
        | false=>
         have eO:=of_decide_eq_false h7
         cases h8:(decide ((((bC cS:Nat):Int):Int)<0)) with
         | false=>
          have ib:=of_decide_eq_false h8
          exact cO (todo':=hd Tryd.f57 0) (E':=[(0,.d (.v (.string ⟨w.toArray⟩))),(4,.sl 0 (i+(1))),(5,.n (2*(i+1)))]) (M':=[.rw 5 1 (af o++[[.v (.int .u8 ((((bz (((16*bC cD+bC cS:Nat):Int))).toNat:Nat):Int)))]])]) tk mo hK [(7,[(3,.b true)]),(8,[(1,.z (((2*(i+1):Nat):Int)))]),(9,[(2,.ix (2*i) [.v (.int .u8 (((cD.toNat:Nat):Int)))]),(6,.z (((2*i+1:Nat):Int))),(7,.ix (2*i+1) [.v (.int .u8 (((cS.toNat:Nat):Int)))]),(3,.aO (.n (bC cD))),(8,.aO (.n (bC cS)))]),(10,[(1,.b false),(4,.b false)]),(12,[(2,.z (((16*bC cD:Nat):Int))),(4,.z (((16*bC cD+bC cS:Nat):Int))),(5,.z ((((bz (((16*bC cD+bC cS:Nat):Int))).toNat:Nat):Int)))])] 2000 [0] [0,4,5] r (by kernel_rfl) (U h4 (U (aP ((2*i:Nat):Int)) (U bO (U cL (U (aP ((2*i+1:Nat):Int)) (U dR (U (o1 h5) (U (o1 h6) (U h7 (U h8 (U ((CM (ni (by assumption)).2):IntKind.i64.wrap ((((bC cD:Nat):Int):Int)*2 ^ (min (4:Int).toNat IntKind.i64.bits))=((16*bC cD:Nat):Int)) (U ((by first | decide | omega):(0:Int)≤4) (U ((Cf (ni (by assumption)).2 (ni (by assumption)).2):IntKind.i64.wrap ((BitVec.ofInt IntKind.i64.bits (((16*bC cD:Nat):Int)) ||| BitVec.ofInt IntKind.i64.bits (((bC cS:Nat):Int))).toNat:Int)=((16*bC cD+bC cS:Nat):Int)) (U ((gv _):IntKind.u8.wrap (((16*bC cD+bC cS:Nat):Int))=(((bz (((16*bC cD+bC cS:Nat):Int))).toNat:Nat):Int)) (U ((by first | rfl | (simp [af];done) | (simp [af];omega)):(i)=(af o).length) (U ((by first | rfl | (simp [af];done) | (simp [af];omega)):(1)=([[.v (.int .u8 ((((bz (((16*bC cD+bC cS:Nat):Int))).toNat:Nat):Int)))]]:List (List DV)).length) (U ((by first | omega | (simp [af];omega)):(2*((i)+(1))+192)*1≤281474976710656) (U ((by first | omega | (simp [af];omega)):(i)+(1)<4611686018427387904) (U ((by simp [bc,AV.one,bU,af,ah,ints,steps,strs]):bc ([[.v (.int .u8 ((((bz (((16*bC cD+bC cS:Nat):Int))).toNat:Nat):Int)))]])) (U ((wi (by omega)):IntKind.i64.wrap ((((2*i:Nat):Int):Int)+2)=((2*(i+1):Nat):Int)) trivial)))))))))))))))))))) fun ac wd r=>bP (by omega) ac wd ⟨(o++[bz ((16*bC cD+bC cS:Nat):Int)]),⟨by simp;omega,by omega,by rw [ao.2.2,sn n3 n4,if_neg (by rintro (h | h);exact absurd h (of_decide_eq_false (by assumption));exact absurd h (of_decide_eq_false (by assumption)))];simp [Option.map_map,Function.comp_def]⟩,r.cast rfl (by simp [af])⟩
         | true=>
          have ib:=of_decide_eq_true h8
          exact absurd ib (by omega)
        | true=>
         have eO:=of_decide_eq_true h7
         exact absurd eO (by omega)
       | true=>
        have ia:=of_decide_eq_true h6
        cases h9:(decide ((((bC cD:Nat):Int):Int)<0)) with
        | false=>
         have pC:=of_decide_eq_false h9
         rw [show (.tu [.v (.slice none 0 0),.v (.bool false)]:DV)=.tu [.v (.slice none 0 0),.v (.bool false)] from rfl]
         exact br tk mo hK rfl [(7,[(3,.b true)]),(9,[(2,.ix (2*i) [.v (.int .u8 (((cD.toNat:Nat):Int)))]),(6,.z (((2*i+1:Nat):Int))),(7,.ix (2*i+1) [.v (.int .u8 (((cS.toNat:Nat):Int)))]),(3,.aO (.n (bC cD))),(8,.aO (.z (-1)))]),(10,[(1,.b false)])] 2000 r (by kernel_rfl) (U h4 (U (aP ((2*i:Nat):Int)) (U bO (U cL (U (aP ((2*i+1:Nat):Int)) (U dR (U (o1 h5) (U (tn h6) (U h9 trivial)))))))))
        | true=>
         have pC:=of_decide_eq_true h9
         exact absurd pC (by omega)
      | true=>
       have fL:=of_decide_eq_true h5
       cases dm:(decide (hx cS<0)) with
       | false=>
        have nC:=of_decide_eq_false dm
        rw [show (.tu [.v (.slice none 0 0),.v (.bool false)]:DV)=.tu [.v (.slice none 0 0),.v (.bool false)] from rfl]
        exact br tk mo hK rfl [(7,[(3,.b true)]),(9,[(2,.ix (2*i) [.v (.int .u8 (((cD.toNat:Nat):Int)))]),(6,.z (((2*i+1:Nat):Int))),(7,.ix (2*i+1) [.v (.int .u8 (((cS.toNat:Nat):Int)))]),(3,.aO (.z (-1))),(8,.aO (.n (bC cS)))])] 2000 r (by kernel_rfl) (U h4 (U (aP ((2*i:Nat):Int)) (U bO (U cL (U (aP ((2*i+1:Nat):Int)) (U dR (U (tn h5) (U (o1 dm) trivial))))))))
       | true=>
        have nC:=of_decide_eq_true dm
        rw [show (.tu [.v (.slice none 0 0),.v (.bool false)]:DV)=.tu [.v (.slice none 0 0),.v (.bool false)] from rfl]
        exact br tk mo hK rfl [(7,[(3,.b true)]),(9,[(2,.ix (2*i) [.v (.int .u8 (((cD.toNat:Nat):Int)))]),(6,.z (((2*i+1:Nat):Int))),(7,.ix (2*i+1) [.v (.int .u8 (((cS.toNat:Nat):Int)))]),(3,.aO (.z (-1))),(8,.aO (.z (-1)))])] 2000 r (by kernel_rfl) (U h4 (U (aP ((2*i:Nat):Int)) (U bO (U cL (U (aP ((2*i+1:Nat):Int)) (U dR (U (tn h5) (U (tn dm) trivial))))))))
    | true=>
     have dQ:=of_decide_eq_true h3
     exact absurd (.inr (.inr (by omega))) hN
   | true=>
    have c8:¬ _=_:=bne_iff_ne.1 h2
    exact absurd (.inr (.inl (by omega))) hN
  | true=>
   exact absurd (.inl (eq_of_beq h1)) hN
 | true=>
  exact absurd (eq_of_beq h0) h1
set_option maxRecDepth 100000 in
theorem Jd :aB Tryd.prog 57 [.d (.v (.string ⟨([45]).toArray⟩))] (.tu [.v (.slice none 0 0),.v (.bool true)]):=by
 refine aB.intro (by kernel_rfl) rfl rfl 53 rfl rfl fun w0 K ac hK r=>?_
 rw [show (.tu [.v (.slice none 0 0),.v (.bool true)]:DV)=.tu [.v (.slice none 0 0),.v (.bool true)] from rfl]
 exact br tk mo hK rfl [(1,[(1,.b true)])] 2000 r (by kernel_rfl) (U ((by first | decide | simp):(([45]:List UInt8)==[45])=true) trivial)
set_option maxRecDepth 100000 in
theorem Kl (w:List UInt8) (h1:w≠[45]) (hO:w=[]∨w.length%2≠0∨510<w.length):aB Tryd.prog 57 [.d (.v (.string ⟨w.toArray⟩))] (.tu [.v (.slice none 0 0),.v (.bool false)]):=by
 refine aB.intro (by kernel_rfl) rfl rfl 53 rfl rfl fun w0 K ac hK r=>?_
 cases h0:(w==([45]:List UInt8)) with
 | false=>
  cases h1:(w==([]:List UInt8)) with
  | false=>
   have aZ:=((xf _):(((w.length:Nat):Int):Int).tmod 2=((w.length%2:Nat):Int))
   cases h2:((((w.length%2:Nat):Int):Int) != 0) with
   | false=>
    have c8:=fx h2
    cases h3:(decide ((510:Int)<((w.length:Nat):Int))) with
    | false=>
     have dQ:=of_decide_eq_false h3
     exact absurd hO (by rintro (h | h | h);exact absurd h (by have q:=‹(w==([]:List UInt8))=false›;intro e;subst e;simp at q);omega;omega)
    | true=>
     have dQ:=of_decide_eq_true h3
     rw [show (.tu [.v (.slice none 0 0),.v (.bool false)]:DV)=.tu [.v (.slice none 0 0),.v (.bool false)] from rfl]
     exact br tk mo hK rfl [(1,[(1,.b false)]),(3,[(1,.b false),(5,.z (((w.length%2:Nat):Int))),(6,.b false),(11,.b true)])] 2000 r (by kernel_rfl) (U h0 (U h1 (U aZ (U ((by decide):(2:Int)≠0) (U h2 (U h3 trivial))))))
   | true=>
    have c8:¬ _=_:=bne_iff_ne.1 h2
    rw [show (.tu [.v (.slice none 0 0),.v (.bool false)]:DV)=.tu [.v (.slice none 0 0),.v (.bool false)] from rfl]
    exact br tk mo hK rfl [(1,[(1,.b false)]),(3,[(1,.b false),(5,.z (((w.length%2:Nat):Int))),(6,.b true)])] 2000 r (by kernel_rfl) (U h0 (U h1 (U aZ (U ((by decide):(2:Int)≠0) (U h2 trivial)))))
  | true=>
   rw [show (.tu [.v (.slice none 0 0),.v (.bool false)]:DV)=.tu [.v (.slice none 0 0),.v (.bool false)] from rfl]
   exact br tk mo hK rfl [(1,[(1,.b false)]),(3,[(1,.b true)])] 2000 r (by kernel_rfl) (U h0 (U h1 trivial))
 | true=>
  exact absurd (eq_of_beq h0) h1
theorem yZ (w:List UInt8):aB Tryd.prog 57 [.d (.v (.string ⟨w.toArray⟩))] (.tu [.em 5 1 (af (ew w).1),.v (.bool (ew w).2)]):=by
 have nl:∀ {b:Bool},aB Tryd.prog 57 [.d (.v (.string ⟨w.toArray⟩))] (.tu [.v (.slice none 0 0),.v (.bool b)])→aB Tryd.prog 57 [.d (.v (.string ⟨w.toArray⟩))] (.tu [.em 5 1 (af []),.v (.bool b)]):=fun h=>h.le (cV.tu (.cons (Le.B9 5 1) (.cons (Le.refl _) .nil)))
 by_cases h1:w=[45]
 ·subst h1;exact nl Jd
 ·by_cases hO:w=[]∨w.length%2≠0∨510<w.length
  ·rw [Hz h1 hO];exact nl (Kl w h1 hO)
  ·cases hq:fI w with
   | none=>rw [F5 h1 hO hq];exact nl (Jc w h1 hO hq)
   | some q=>rw [zL h1 hO hq];exact Jb w h1 hO q hq
end Go.Proofs.YtcnpikbbmbombaaDoor
