/-
  vsyncAlone_holds, part 6 of 7: merged by program from the texts that it needs.
-/
import Derived.Test.YtgkdnnmcjjabdaaGreatVaC
import Derived.Test.YtgkdnnmcjjabdaaGreatVaE
set_option linter.unusedSimpArgs false
set_option linter.unusedVariables false
set_option linter.unnecessarySimpa false
namespace Go.Proofs.YtgkdnnmcjjabdaaGreat
open Go.RowKit
def au:Nat→List (List UInt8)→List Slot
 | _,[]=>[]
 | k,b::r=>⟨k+1,b⟩::au (k+1) r
theorem dr:∀ (l:List (List UInt8)) (k:Nat),(au k l).length=l.length
 | [],_=>rfl
 | _::r,k=>by simp [au,dr r]
theorem lL:∀ {l:List (List UInt8)} {k i:Nat} {s:Slot},(au k l)[i]?=some s→s.n=k+i+1∧l[i]?=some s.body
 | [],k,i,s,h=>by simp [au] at h
 | b::r,k,0,s,h=>by simp [au] at h;subst h;simp
 | b::r,k,i+1,s,h=>by
  simp only [au,List.getElem?_cons_succ] at h
  obtain ⟨h1,h2⟩:=lL h
  exact ⟨by omega,by simpa using h2⟩
theorem Aw:∀ (l:List (List UInt8)) (k:Nat) (b:List UInt8),au k (l++[b])=au k l++[⟨k+l.length+1,b⟩]
 | [],k,b=>by simp [au]
 | a::r,k,b=>by
  rw [List.cons_append,au,Aw r (k+1) b,au,List.cons_append]
  congr 3
  simp;omega
def fB (p:ay) (l:List (List UInt8)) (h:Nat):aA:=⟨View.first p,[au 0 l],[h]⟩
def eN (l:List (List UInt8)):Prop:=l.length≤16∧∀ b ∈ l,b.length≤64
theorem GY {l:List (List UInt8)} {j:Nat} (hj:j<l.length):eJ (au 0 l) (j+1)=(j:Int):=by
 have h:(au 0 l)[j]?=some ((au 0 l)[j]'(by rw [dr];exact hj)):=List.getElem?_eq_getElem _
 exact GV h (by rw [(lL h).1];omega) fun i t hi ht=>by rw [(lL ht).1];omega
theorem LL (l:List (List UInt8)):eJ (au 0 l) (l.length+1) = -1:=Fe fun j t hj ht=>by
 rw [(lL ht).1];rw [dr] at hj;omega
theorem pI (l:List (List UInt8)):b3 (au 0 l)=l.length:=uX (fun j hj=>by rw [GY hj];omega) (by rw [LL];omega)
theorem qk {p:ay} {l:List (List UInt8)} {h:Nat} (hp:p.may=true) (hl:eN l) (hh:h≤l.length):(fB p l h).may=true:=by
 refine aA.yes (i:=1) ?_ rfl rfl (by simp [fB]) fun j s k hj hs hk=>?_
 ·show (View.first p).may=true
  rw [View.FU rfl]
  show (p.may&&decide (View.first p=View.first p))=true
  rw [hp,decide_eq_true rfl];rfl
 ·obtain rfl:j=0:=by omega
  simp only [fB,List.getElem?_cons_zero,Option.some.injEq] at hs hk
  subst hs hk
  rw [pI]
  refine ⟨fun i x hi hx=>?_,hh⟩
  obtain ⟨h1,h2⟩:=lL hx
  have h3:=hl.2 _ (List.mem_of_getElem? h2)
  have h4:=(List.getElem?_eq_some_iff.1 h2).1
  have h5:=hl.1
  refine ⟨by omega,by omega,h3,fun y h6 hy=>?_⟩
  have:=(lL hy).1;omega
theorem Iy (p:ay):lJ [p] p=0∧lK [p] p=true:=by simp [lJ,lK,idx]
theorem H3 {l:List (List UInt8)} {b:List UInt8} (hl:eN l) (lq:l.length<16) (hb:b.length≤64):eN (l++[b]):=⟨by simp;omega,fun x hx=>by
 rcases List.mem_append.1 hx with h | h
 ·exact hl.2 x h
 ·rw [List.mem_singleton] at h;subst h;exact hb⟩
theorem Qm {p:ay} {l:List (List UInt8)} {h:Nat} (hp:p.may=true) (hl:eN l) (hh:h≤l.length):(fB p l h).owned.hand []=fB p l l.length:=by
 rw [aA.jH (qk hp hl hh)]
 unfold aA.hand
 show aA.mk (View.first p) [au 0 l] ([h].set 0 (max h (b3 (au 0 l))))=_
 rw [pI,List.set_cons_zero,Nat.max_eq_right hh];rfl
theorem O7 {p:ay} {l:List (List UInt8)} (hp:p.may=true) (hl:eN l):(fB p l l.length).owned.hand [l.length]=fB p l l.length:=by
 rw [aA.jH (qk hp hl (Nat.le_refl _))]
 unfold aA.hand
 show aA.mk (View.first p) [au 0 l] ([l.length].set 0 (max l.length (min (b3 (au 0 l)) l.length)))=_
 rw [pI,List.set_cons_zero,Nat.min_self,Nat.max_self];rfl
theorem Qn {p:ay} {l:List (List UInt8)} {b:List UInt8} (hp:p.may=true) (hl:eN (l++[b])):bR (fB p (l++[b]) l.length).owned [] (fB p (l++[b]) l.length).owned.streams.length=[⟨p,l.length+1,b⟩]:=by
 rw [aA.jH (qk hp hl (by simp))]
 have hc:br (au 0 (l++[b])) [] 0-l.length=1:=by show b3 _-l.length=1;rw [pI];simp
 show (List.range 1).flatMap _=_
 simp only [List.range_one,List.flatMap_cons,List.flatMap_nil,List.append_nil]
 show bW p (au 0 (l++[b])) l.length (br (au 0 (l++[b])) [] 0-l.length)=_
 rw [hc]
 show [wR p (au 0 (l++[b])) (l.length+1+0)]=_
 unfold wR
 rw [Nat.add_zero,GY (by simp),Aw]
 have e:(au 0 l++[(⟨0+l.length+1,b⟩:Slot)])[((l.length:Nat):Int).toNat]?=some ⟨0+l.length+1,b⟩:=by
  rw [Int.toNat_natCast,List.getElem?_append_right (by rw [dr];exact Nat.le_refl _),dr,Nat.sub_self];rfl
 rw [e];rfl
theorem Qo {p:ay} {l:List (List UInt8)} (hp:p.may=true) (hl:eN l):bR (fB p l l.length).owned [l.length] (fB p l l.length).owned.streams.length=[]:=by
 rw [aA.jH (qk hp hl (Nat.le_refl _))]
 show (List.range 1).flatMap _=_
 simp only [List.range_one,List.flatMap_cons,List.flatMap_nil,List.append_nil]
 show bW p (au 0 l) l.length (min (b3 (au 0 l)) l.length-l.length)=_
 rw [pI,Nat.min_self,Nat.sub_self];rfl
theorem Nl {p:ay} {l:List (List UInt8)} (hp:p.may=true) (hl:eN l):(fB p l l.length).counts=[l.length]:=by
 unfold aA.counts
 rw [aA.jH (qk hp hl (Nat.le_refl _))]
 show [b3 (au 0 l)]=_
 rw [pI]
theorem rF {p:ay} {l:List (List UInt8)} {h:Nat} (hl:eN l):(fB p l h).bounded:=by
 refine ⟨⟨by simp [fB,View.first],by simp [fB,View.first]⟩,by simp [fB],by simp [fB],fun s hs=>?_⟩
 simp only [fB,List.mem_singleton] at hs;subst hs
 refine ⟨by rw [dr];have:=hl.1;omega,fun x hx=>?_⟩
 obtain ⟨i,hi,rfl⟩:=List.getElem_of_mem hx
 have:=hl.2 _ (List.mem_of_getElem? (lL (List.getElem?_eq_getElem hi)).2);omega
end Go.Proofs.YtgkdnnmcjjabdaaGreat
namespace Go.Proofs.YtgkdnnmcjjabdaaGreat
open Go.RowKit
set_option maxRecDepth 100000 in
theorem Ff (l:List Slot) (m:fX) (hb:l.length<2147483648):al Tryz.prog 99 [.d (.ro 2 (aO l)),.fn 66 [.rp [.z m.src.node,.u m.src.inc,.u m.n,.ro 1 (aj m.body)] 0]] (.v (.int .i64 (gY l m.n 0))):=by
 refine al.intro (by kernel_rfl) rfl rfl 19 rfl rfl fun w0 K ac hK r=>?_
 refine bD (todo':=hd Tryz.f99 0) (E':=[(0,.d (.ro 2 (aO l))),(1,.fn 66 [.rp [.z m.src.node,.u m.src.inc,.u m.n,.ro 1 (aj m.body)] 0]),(7,.n l.length),(8,.n 0)]) (M':=[]) tk tq hK [(1,[(1,.z (((l.length:Nat):Int)))])] 2000 [] [0,1,7,8] r (by kernel_rfl) (U ((by simp [aj]):(((aO l).length:Nat):Int)=((l.length:Nat):Int)) trivial) fun ac wd r=>?_
 refine aG.rounds (Φ:=fun (i:Nat) ac wd=>(i≤l.length∧∀ j t,j<i→l[j]?=some t→t.n<m.n)∧dj [] w0 K 19 [(0,.d (.ro 2 (aO l))),(1,.fn 66 [.rp [.z m.src.node,.u m.src.inc,.u m.n,.ro 1 (aj m.body)] 0]),(7,.n l.length),(8,.n i)] [] ac wd) (l.length) ?_ (Nat.zero_le _) ⟨⟨by omega,by omega⟩,r⟩
 clear r
 rintro i eX b9 ac wd ⟨aT,r⟩
 obtain ⟨fp,aT⟩:=aT
 cases h0:(decide ((((i:Nat):Int):Int)<((l.length:Nat):Int))) with
 | false=>
  have bh:=of_decide_eq_false h0
  rw [show (.v (.int .i64 (gY l m.n 0)):DV)=.z (-1) from (iv (by first | (rw [zE cB (by omega) aT];simp;done) | exact uN fun j t hj ht=>aT j t (by omega) ht))]
  exact aN tk tq hK rfl [(2,[(0,.b false)])] 2000 r (by kernel_rfl) (U h0 trivial)
 | true=>
  have bh:=of_decide_eq_true h0
  obtain ⟨bU,cB⟩:∃ x,l[i]?=some x:=⟨_,List.getElem?_eq_getElem (by omega)⟩
  cases h1:(decide ((((m.n:Nat):Int):Int)≤((bU.n:Nat):Int))) with
  | false=>
   have bM:=of_decide_eq_false h1
   exact bD (todo':=hd Tryz.f99 0) tk tq hK [(2,[(0,.b true)]),(4,[(3,.ix (i) [.u bU.n,.ro 1 (aj bU.body)]),(5,.cg 200 [(1,[(4,.b false)])])]),(6,[(0,.z (((i+1:Nat):Int)))])] 2000 [] [0,1,7,8] r (by kernel_rfl) (U h0 (U (aJ ((i:Nat):Int)) (U (df cB) (U h1 (U ((wi (by omega)):IntKind.i64.wrap ((((i:Nat):Int):Int)+1)=((i+1:Nat):Int)) trivial))))) fun ac wd r=>b9 (by omega) ac wd ⟨⟨by omega,fun j t hj ht=>by rcases Nat.lt_succ_iff_lt_or_eq.1 hj with h | rfl;exact aT j t h ht;rw [cB] at ht;cases ht;omega⟩,r⟩
  | true=>
   have bM:=of_decide_eq_true h1
   rw [show (.v (.int .i64 (gY l m.n 0)):DV)=.n i from (iv (by first | (rw [zE cB (by omega) aT];simp;done) | exact uN fun j t hj ht=>aT j t (by omega) ht))]
   exact aN tk tq hK rfl [(2,[(0,.b true)]),(4,[(3,.ix (i) [.u bU.n,.ro 1 (aj bU.body)]),(5,.cg 200 [(1,[(4,.b true)])])])] 2000 r (by kernel_rfl) (U h0 (U (aJ ((i:Nat):Int)) (U (df cB) (U h1 trivial))))
set_option maxRecDepth 100000 in
theorem Mh (l:List Slot) (m:fX) (hb:l.length<2147483648):al Tryz.prog 65 [.d (.ro 2 (aO l)),.fn 66 [.rp [.z m.src.node,.u m.src.inc,.u m.n,.ro 1 (aj m.body)] 0]] (.v (.int .i64 ((ng l m.n:Nat):Int))):=by
 refine al.intro (by kernel_rfl) rfl rfl 14 rfl rfl fun w0 K ac hK r=>?_
 cases h0:(decide ((0:Int)≤gY l m.n 0)) with
 | false=>
  have bh:=of_decide_eq_false h0
  rw [show (.v (.int .i64 ((ng l m.n:Nat):Int)):DV)=.n l.length from (iv (by unfold ng;split<;>omega))]
  exact aN tk tq hK rfl [(1,[(2,.aM (.z (gY l m.n 0)))]),(2,[(1,.b false)]),(4,[(1,.z (((l.length:Nat):Int)))])] 2000 r (by kernel_rfl) (U (Ff l m (by omega)) (U h0 (U ((by simp [aj]):(((aO l).length:Nat):Int)=((l.length:Nat):Int)) trivial)))
 | true=>
  have bh:=of_decide_eq_true h0
  rw [show (.v (.int .i64 ((ng l m.n:Nat):Int)):DV)=.z (gY l m.n 0) from (iv (by unfold ng;split<;>omega))]
  exact aN tk tq hK rfl [(1,[(2,.aM (.z (gY l m.n 0)))]),(2,[(1,.b true)])] 2000 r (by kernel_rfl) (U (Ff l m (by omega)) (U h0 trivial))
theorem Nm {L:List (List Slot)} {i:Nat} {rows:List (List DV)} {l:List Slot} (h:bO rows=aO l):bO (List.set (List.set (aQ L) i [.jk]) i [.em 113 2 rows])=streams (L.set i l):=by
 rw [List.set_set,b8,List.map_set]
 have h1:(aQ L).map (fun r=>r.map bd)=streams L:=by rw [← b8,yn]
 rw [h1]
 show List.set _ _ [bd (.em 113 2 rows)]=_
 rw [bd,h];unfold streams;rw [List.map_set]
end Go.Proofs.YtgkdnnmcjjabdaaGreat
namespace Go.Proofs.YtgkdnnmcjjabdaaGreat
open Go.RowKit
abbrev ints (l:List Int):List (List DV):=l.map fun z=>[.v (.int .i64 z)]
theorem lD {l:List Int} {i:Nat} {z:Int} (h:l[i]?=some z):(ints l)[i]?=some [.v (.int .i64 z)]:=by simp [ints,h]
theorem ints_set (l:List Int) (i:Nat) (z:Int):List.set (ints l) i [.v (.int .i64 z)]=ints (l.set i z):=by unfold ints;rw [List.map_set]
theorem O8 (l:List Int) (z:Int):ints l++[[.v (.int .i64 z)]]=ints (l++[z]):=by unfold ints;rw [List.map_append];rfl
theorem F5 (l:List Int):bO (ints l)=ints l:=by
 rw [b8];unfold ints;rw [List.map_map];apply List.map_congr_left;intro s _;show [bd (.v _)]=_;rw [bd]
def sj (l:List Int):Prop:=∀ (i:Nat) a b,l[i]?=some a→l[i+1]?=some b→a≤b
def Dd (n:Nat):Nat:=match n with | 0=>0 | 1=>1 | 2=>2 | 3=>2 | 4=>3 | 5=>3 | 6=>3 | 7=>3 | _=>4
set_option maxRecDepth 100000 in
theorem Qp :al Tryz.prog 124 [.d (.v (.int .u64 0))] (.v (.int .i64 0)):=by
 refine al.intro (by kernel_rfl) rfl rfl 25 rfl rfl fun w0 K ac hK r=>?_
 exact aN tk tq hK rfl [(10,[(2,.z (0)),(3,.n 0),(4,.z (0)),(5,.z (0))])] 2000 r (by kernel_rfl) (U ((by decide):IntKind.u8.wrap (0)=0) (U (rfl:(0:Int)=((0:Nat):Int)) (U ((by decide):IntKind.i64.wrap (0)=0) (U ((by decide):IntKind.i64.wrap ((0:Int)+0)=0) trivial))))
set_option maxRecDepth 100000 in
theorem Nn :al Tryz.prog 109 [.d (.v (.int .u64 0))] (.v (.int .i64 0)):=by
 refine al.intro (by kernel_rfl) rfl rfl 8 rfl rfl fun w0 K ac hK r=>?_
 exact aN tk tq hK rfl [(2,[(1,.aM (.z 0))])] 2000 r (by kernel_rfl) (U (Qp) trivial)
set_option maxRecDepth 100000 in
theorem Qq :al Tryz.prog 124 [.d (.v (.int .u64 1))] (.v (.int .i64 1)):=by
 refine al.intro (by kernel_rfl) rfl rfl 25 rfl rfl fun w0 K ac hK r=>?_
 exact aN tk tq hK rfl [(10,[(2,.z (1)),(3,.n 1),(4,.z (1)),(5,.z (1))])] 2000 r (by kernel_rfl) (U ((by decide):IntKind.u8.wrap (1)=1) (U (rfl:(1:Int)=((1:Nat):Int)) (U ((by decide):IntKind.i64.wrap (1)=1) (U ((by decide):IntKind.i64.wrap ((0:Int)+1)=1) trivial))))
set_option maxRecDepth 100000 in
theorem No :al Tryz.prog 109 [.d (.v (.int .u64 1))] (.v (.int .i64 1)):=by
 refine al.intro (by kernel_rfl) rfl rfl 8 rfl rfl fun w0 K ac hK r=>?_
 exact aN tk tq hK rfl [(2,[(1,.aM (.z 1))])] 2000 r (by kernel_rfl) (U (Qq) trivial)
set_option maxRecDepth 100000 in
theorem Qr :al Tryz.prog 124 [.d (.v (.int .u64 2))] (.v (.int .i64 2)):=by
 refine al.intro (by kernel_rfl) rfl rfl 25 rfl rfl fun w0 K ac hK r=>?_
 exact aN tk tq hK rfl [(10,[(2,.z (2)),(3,.n 2),(4,.z (2)),(5,.z (2))])] 2000 r (by kernel_rfl) (U ((by decide):IntKind.u8.wrap (2)=2) (U (rfl:(2:Int)=((2:Nat):Int)) (U ((by decide):IntKind.i64.wrap (2)=2) (U ((by decide):IntKind.i64.wrap ((0:Int)+2)=2) trivial))))
set_option maxRecDepth 100000 in
theorem Np :al Tryz.prog 109 [.d (.v (.int .u64 2))] (.v (.int .i64 2)):=by
 refine al.intro (by kernel_rfl) rfl rfl 8 rfl rfl fun w0 K ac hK r=>?_
 exact aN tk tq hK rfl [(2,[(1,.aM (.z 2))])] 2000 r (by kernel_rfl) (U (Qr) trivial)
set_option maxRecDepth 100000 in
theorem Qs :al Tryz.prog 124 [.d (.v (.int .u64 3))] (.v (.int .i64 2)):=by
 refine al.intro (by kernel_rfl) rfl rfl 25 rfl rfl fun w0 K ac hK r=>?_
 exact aN tk tq hK rfl [(10,[(2,.z (3)),(3,.n 3),(4,.z (2)),(5,.z (2))])] 2000 r (by kernel_rfl) (U ((by decide):IntKind.u8.wrap (3)=3) (U (rfl:(3:Int)=((3:Nat):Int)) (U ((by decide):IntKind.i64.wrap (2)=2) (U ((by decide):IntKind.i64.wrap ((0:Int)+2)=2) trivial))))
set_option maxRecDepth 100000 in
theorem Nq :al Tryz.prog 109 [.d (.v (.int .u64 3))] (.v (.int .i64 2)):=by
 refine al.intro (by kernel_rfl) rfl rfl 8 rfl rfl fun w0 K ac hK r=>?_
 exact aN tk tq hK rfl [(2,[(1,.aM (.z 2))])] 2000 r (by kernel_rfl) (U (Qs) trivial)
set_option maxRecDepth 100000 in
theorem Qt :al Tryz.prog 124 [.d (.v (.int .u64 4))] (.v (.int .i64 3)):=by
 refine al.intro (by kernel_rfl) rfl rfl 25 rfl rfl fun w0 K ac hK r=>?_
 exact aN tk tq hK rfl [(10,[(2,.z (4)),(3,.n 4),(4,.z (3)),(5,.z (3))])] 2000 r (by kernel_rfl) (U ((by decide):IntKind.u8.wrap (4)=4) (U (rfl:(4:Int)=((4:Nat):Int)) (U ((by decide):IntKind.i64.wrap (3)=3) (U ((by decide):IntKind.i64.wrap ((0:Int)+3)=3) trivial))))
set_option maxRecDepth 100000 in
theorem Nr :al Tryz.prog 109 [.d (.v (.int .u64 4))] (.v (.int .i64 3)):=by
 refine al.intro (by kernel_rfl) rfl rfl 8 rfl rfl fun w0 K ac hK r=>?_
 exact aN tk tq hK rfl [(2,[(1,.aM (.z 3))])] 2000 r (by kernel_rfl) (U (Qt) trivial)
set_option maxRecDepth 100000 in
theorem Qu :al Tryz.prog 124 [.d (.v (.int .u64 5))] (.v (.int .i64 3)):=by
 refine al.intro (by kernel_rfl) rfl rfl 25 rfl rfl fun w0 K ac hK r=>?_
 exact aN tk tq hK rfl [(10,[(2,.z (5)),(3,.n 5),(4,.z (3)),(5,.z (3))])] 2000 r (by kernel_rfl) (U ((by decide):IntKind.u8.wrap (5)=5) (U (rfl:(5:Int)=((5:Nat):Int)) (U ((by decide):IntKind.i64.wrap (3)=3) (U ((by decide):IntKind.i64.wrap ((0:Int)+3)=3) trivial))))
set_option maxRecDepth 100000 in
theorem Ns :al Tryz.prog 109 [.d (.v (.int .u64 5))] (.v (.int .i64 3)):=by
 refine al.intro (by kernel_rfl) rfl rfl 8 rfl rfl fun w0 K ac hK r=>?_
 exact aN tk tq hK rfl [(2,[(1,.aM (.z 3))])] 2000 r (by kernel_rfl) (U (Qu) trivial)
set_option maxRecDepth 100000 in
theorem Qv :al Tryz.prog 124 [.d (.v (.int .u64 6))] (.v (.int .i64 3)):=by
 refine al.intro (by kernel_rfl) rfl rfl 25 rfl rfl fun w0 K ac hK r=>?_
 exact aN tk tq hK rfl [(10,[(2,.z (6)),(3,.n 6),(4,.z (3)),(5,.z (3))])] 2000 r (by kernel_rfl) (U ((by decide):IntKind.u8.wrap (6)=6) (U (rfl:(6:Int)=((6:Nat):Int)) (U ((by decide):IntKind.i64.wrap (3)=3) (U ((by decide):IntKind.i64.wrap ((0:Int)+3)=3) trivial))))
set_option maxRecDepth 100000 in
theorem Nt :al Tryz.prog 109 [.d (.v (.int .u64 6))] (.v (.int .i64 3)):=by
 refine al.intro (by kernel_rfl) rfl rfl 8 rfl rfl fun w0 K ac hK r=>?_
 exact aN tk tq hK rfl [(2,[(1,.aM (.z 3))])] 2000 r (by kernel_rfl) (U (Qv) trivial)
set_option maxRecDepth 100000 in
theorem Qw :al Tryz.prog 124 [.d (.v (.int .u64 7))] (.v (.int .i64 3)):=by
 refine al.intro (by kernel_rfl) rfl rfl 25 rfl rfl fun w0 K ac hK r=>?_
 exact aN tk tq hK rfl [(10,[(2,.z (7)),(3,.n 7),(4,.z (3)),(5,.z (3))])] 2000 r (by kernel_rfl) (U ((by decide):IntKind.u8.wrap (7)=7) (U (rfl:(7:Int)=((7:Nat):Int)) (U ((by decide):IntKind.i64.wrap (3)=3) (U ((by decide):IntKind.i64.wrap ((0:Int)+3)=3) trivial))))
set_option maxRecDepth 100000 in
theorem Nu :al Tryz.prog 109 [.d (.v (.int .u64 7))] (.v (.int .i64 3)):=by
 refine al.intro (by kernel_rfl) rfl rfl 8 rfl rfl fun w0 K ac hK r=>?_
 exact aN tk tq hK rfl [(2,[(1,.aM (.z 3))])] 2000 r (by kernel_rfl) (U (Qw) trivial)
set_option maxRecDepth 100000 in
theorem Qx :al Tryz.prog 124 [.d (.v (.int .u64 8))] (.v (.int .i64 4)):=by
 refine al.intro (by kernel_rfl) rfl rfl 25 rfl rfl fun w0 K ac hK r=>?_
 exact aN tk tq hK rfl [(10,[(2,.z (8)),(3,.n 8),(4,.z (4)),(5,.z (4))])] 2000 r (by kernel_rfl) (U ((by decide):IntKind.u8.wrap (8)=8) (U (rfl:(8:Int)=((8:Nat):Int)) (U ((by decide):IntKind.i64.wrap (4)=4) (U ((by decide):IntKind.i64.wrap ((0:Int)+4)=4) trivial))))
set_option maxRecDepth 100000 in
theorem Nv :al Tryz.prog 109 [.d (.v (.int .u64 8))] (.v (.int .i64 4)):=by
 refine al.intro (by kernel_rfl) rfl rfl 8 rfl rfl fun w0 K ac hK r=>?_
 exact aN tk tq hK rfl [(2,[(1,.aM (.z 4))])] 2000 r (by kernel_rfl) (U (Qx) trivial)
set_option maxRecDepth 100000 in
theorem Qy :al Tryz.prog 124 [.d (.v (.int .u64 9))] (.v (.int .i64 4)):=by
 refine al.intro (by kernel_rfl) rfl rfl 25 rfl rfl fun w0 K ac hK r=>?_
 exact aN tk tq hK rfl [(10,[(2,.z (9)),(3,.n 9),(4,.z (4)),(5,.z (4))])] 2000 r (by kernel_rfl) (U ((by decide):IntKind.u8.wrap (9)=9) (U (rfl:(9:Int)=((9:Nat):Int)) (U ((by decide):IntKind.i64.wrap (4)=4) (U ((by decide):IntKind.i64.wrap ((0:Int)+4)=4) trivial))))
set_option maxRecDepth 100000 in
theorem Nw :al Tryz.prog 109 [.d (.v (.int .u64 9))] (.v (.int .i64 4)):=by
 refine al.intro (by kernel_rfl) rfl rfl 8 rfl rfl fun w0 K ac hK r=>?_
 exact aN tk tq hK rfl [(2,[(1,.aM (.z 4))])] 2000 r (by kernel_rfl) (U (Qy) trivial)
set_option maxRecDepth 100000 in
theorem O9 :al Tryz.prog 124 [.d (.v (.int .u64 10))] (.v (.int .i64 4)):=by
 refine al.intro (by kernel_rfl) rfl rfl 25 rfl rfl fun w0 K ac hK r=>?_
 exact aN tk tq hK rfl [(10,[(2,.z (10)),(3,.n 10),(4,.z (4)),(5,.z (4))])] 2000 r (by kernel_rfl) (U ((by decide):IntKind.u8.wrap (10)=10) (U (rfl:(10:Int)=((10:Nat):Int)) (U ((by decide):IntKind.i64.wrap (4)=4) (U ((by decide):IntKind.i64.wrap ((0:Int)+4)=4) trivial))))
set_option maxRecDepth 100000 in
theorem Mi :al Tryz.prog 109 [.d (.v (.int .u64 10))] (.v (.int .i64 4)):=by
 refine al.intro (by kernel_rfl) rfl rfl 8 rfl rfl fun w0 K ac hK r=>?_
 exact aN tk tq hK rfl [(2,[(1,.aM (.z 4))])] 2000 r (by kernel_rfl) (U (O9) trivial)
set_option maxRecDepth 100000 in
theorem Pa :al Tryz.prog 124 [.d (.v (.int .u64 11))] (.v (.int .i64 4)):=by
 refine al.intro (by kernel_rfl) rfl rfl 25 rfl rfl fun w0 K ac hK r=>?_
 exact aN tk tq hK rfl [(10,[(2,.z (11)),(3,.n 11),(4,.z (4)),(5,.z (4))])] 2000 r (by kernel_rfl) (U ((by decide):IntKind.u8.wrap (11)=11) (U (rfl:(11:Int)=((11:Nat):Int)) (U ((by decide):IntKind.i64.wrap (4)=4) (U ((by decide):IntKind.i64.wrap ((0:Int)+4)=4) trivial))))
set_option maxRecDepth 100000 in
theorem Mj :al Tryz.prog 109 [.d (.v (.int .u64 11))] (.v (.int .i64 4)):=by
 refine al.intro (by kernel_rfl) rfl rfl 8 rfl rfl fun w0 K ac hK r=>?_
 exact aN tk tq hK rfl [(2,[(1,.aM (.z 4))])] 2000 r (by kernel_rfl) (U (Pa) trivial)
set_option maxRecDepth 100000 in
theorem Pb :al Tryz.prog 124 [.d (.v (.int .u64 12))] (.v (.int .i64 4)):=by
 refine al.intro (by kernel_rfl) rfl rfl 25 rfl rfl fun w0 K ac hK r=>?_
 exact aN tk tq hK rfl [(10,[(2,.z (12)),(3,.n 12),(4,.z (4)),(5,.z (4))])] 2000 r (by kernel_rfl) (U ((by decide):IntKind.u8.wrap (12)=12) (U (rfl:(12:Int)=((12:Nat):Int)) (U ((by decide):IntKind.i64.wrap (4)=4) (U ((by decide):IntKind.i64.wrap ((0:Int)+4)=4) trivial))))
set_option maxRecDepth 100000 in
theorem Ml :al Tryz.prog 109 [.d (.v (.int .u64 12))] (.v (.int .i64 4)):=by
 refine al.intro (by kernel_rfl) rfl rfl 8 rfl rfl fun w0 K ac hK r=>?_
 exact aN tk tq hK rfl [(2,[(1,.aM (.z 4))])] 2000 r (by kernel_rfl) (U (Pb) trivial)
theorem Qz (n:Nat) (h:n≤12):al Tryz.prog 109 [.d (.v (.int .u64 ((n:Nat):Int)))] (.v (.int .i64 ((Dd n:Nat):Int))):=
 match n,h with
 | 0,_=>Nn
 | 1,_=>No
 | 2,_=>Np
 | 3,_=>Nq
 | 4,_=>Nr
 | 5,_=>Ns
 | 6,_=>Nt
 | 7,_=>Nu
 | 8,_=>Nv
 | 9,_=>Nw
 | 10,_=>Mi
 | 11,_=>Mj
 | 12,_=>Ml
 | n+13,h=>absurd h (by omega)
set_option maxRecDepth 100000 in
theorem Iz (x:Int):al Tryz.prog 110 [.z x] (.v (.bool false)):=by
 refine al.intro (by kernel_rfl) rfl rfl 6 rfl rfl fun w0 K ac hK r=>?_
 exact aN tk tq hK rfl [(1,[(2,.b false)])] 2000 r (by kernel_rfl) (U ((by simp):((x:Int) != x)=false) trivial)
set_option maxRecDepth 100000 in
theorem Rw (x y:Int):al Tryz.prog 131 [.z x,.z y] (.v (.bool (decide (x<y)))):=by
 refine al.intro (by kernel_rfl) rfl rfl 17 rfl rfl fun w0 K ac hK r=>?_
 cases h0:(decide ((x:Int)<y)) with
 | false=>
  have bh:=of_decide_eq_false h0
  exact aN tk tq hK rfl [(1,[(1,.aM (.v (.bool false))),(10,.b false)])] 2000 r (by kernel_rfl) (U (Iz _:al Tryz.prog 110 [.z x] (.v (.bool false))) (U h0 trivial))
 | true=>
  have bh:=of_decide_eq_true h0
  exact aN tk tq hK rfl [(1,[(1,.aM (.v (.bool false))),(10,.b true)])] 2000 r (by kernel_rfl) (U (Iz _:al Tryz.prog 110 [.z x] (.v (.bool false))) (U h0 trivial))
set_option maxRecDepth 100000 in
theorem QA (l:List Int) (hs:sj l) (hb:l.length<1073741824):al Tryz.prog 125 [.d (.ro 1 (ints l)),.z 0,.n l.length] (.tu []):=by
 refine al.intro (by kernel_rfl) rfl rfl 49 rfl rfl fun w0 K ac hK r=>?_
 refine bD (todo':=hd Tryz.f125 0) (E':=[(0,.d (.ro 1 (ints l))),(1,.z 0),(2,.n l.length),(6,.n (0+1))]) (M':=[]) tk tq hK [(0,[(1,.z (1))])] 2000 [] [0,1,2,6] r (by kernel_rfl) (U ((wi (by omega)):IntKind.i64.wrap ((0:Int)+1)=1) trivial) fun ac wd r=>?_
 refine aG.rounds (Φ:=fun (i:Nat) ac wd=>(True)∧dj [] w0 K 49 [(0,.d (.ro 1 (ints l))),(1,.z 0),(2,.n l.length),(6,.n (i+1))] [] ac wd) (l.length) ?_ (Nat.zero_le _) ⟨trivial,r⟩
 clear r
 rintro i eX b9 ac wd ⟨aT,r⟩
 cases h0:(decide ((((i+1:Nat):Int):Int)<((l.length:Nat):Int))) with
 | false=>
  have bh:=of_decide_eq_false h0
  exact aN tk tq hK rfl [(1,[(2,.b false)])] 2000 r (by kernel_rfl) (U h0 trivial)
 | true=>
  have bh:=of_decide_eq_true h0
  obtain ⟨fe,gy⟩:∃ x,l[i+1]?=some x:=⟨_,List.getElem?_eq_getElem (by omega)⟩
  obtain ⟨lE,og⟩:∃ x,l[i+1-1]?=some x:=⟨_,List.getElem?_eq_getElem (by omega)⟩
  refine bD (todo':=hd Tryz.f125 1) (E':=[(0,.d (.ro 1 (ints l))),(1,.z 0),(2,.n l.length),(6,.n (i+1)),(7,.n (i+1))]) (M':=[]) tk tq hK [(1,[(2,.b true)])] 2000 [] [0,1,2,6,7] r (by kernel_rfl) (U h0 trivial) fun ac wd r=>?_
  cases h1:(decide ((0:Int)<((i+1:Nat):Int))) with
  | false=>
   have bM:=of_decide_eq_false h1
   exact bD (todo':=hd Tryz.f125 0) tk tq hK [(2,[(1,.z (((i+1+1:Nat):Int)))]),(4,[(2,.b false)])] 2000 [] [0,1,2,6] r (by kernel_rfl) (U h1 (U ((wi (by omega)):IntKind.i64.wrap ((((i+1:Nat):Int):Int)+1)=((i+1+1:Nat):Int)) trivial)) fun ac wd r=>b9 (by omega) ac wd ⟨trivial,r⟩
  | true=>
   have bM:=of_decide_eq_true h1
   have u0:=((wi (by omega)):IntKind.i64.wrap ((((i+1:Nat):Int):Int)-1)=((i+1-1:Nat):Int))
   cases h2:(decide (fe<lE)) with
   | false=>
    have cK:=of_decide_eq_false h2
    exact bD (todo':=hd Tryz.f125 0) tk tq hK [(2,[(1,.z (((i+1+1:Nat):Int)))]),(4,[(2,.b true),(6,.ix (i+1) [.z fe]),(10,.z (((i+1-1:Nat):Int))),(11,.ix (i+1-1) [.z lE]),(13,.aM (.v (.bool false)))])] 2000 [] [0,1,2,6] r (by kernel_rfl) (U h1 (U (aJ ((i+1:Nat):Int)) (U (lD gy) (U u0 (U (aJ ((i+1-1:Nat):Int)) (U (lD og) (U ((by have k:=Rw (fe) (lE);rw [h2] at k;exact k):al Tryz.prog 131 [.z fe,.z lE] (.v (.bool false))) (U ((wi (by omega)):IntKind.i64.wrap ((((i+1:Nat):Int):Int)+1)=((i+1+1:Nat):Int)) trivial)))))))) fun ac wd r=>b9 (by omega) ac wd ⟨trivial,r⟩
   | true=>
    have cK:=of_decide_eq_true h2
    exact absurd (hs i _ _ (by simpa using og) gy) (by omega)
set_option maxRecDepth 100000 in
theorem QB (l:List Int) (k:Nat) (hs:sj l) (hb:l.length≤12):al Tryz.prog 111 [.d (.ro 1 (ints l)),.z 0,.n l.length,.n k] (.tu []):=by
 refine al.intro (by kernel_rfl) rfl rfl 134 rfl rfl fun w0 K ac hK r=>?_
 refine bD (todo':=hd Tryz.f111 0) (E':=[(0,.d (.ro 1 (ints l))),(1,.z 0),(2,.n l.length),(3,.n k),(8,.d (.v (.bool true))),(9,.d (.v (.bool true)))]) (M':=[]) tk tq hK [] 2000 [] [0,1,2,3,8,9] r (by kernel_rfl) trivial fun ac wd r=>?_
 have u0:=((wi (by omega)):IntKind.i64.wrap ((((l.length:Nat):Int):Int)-0)=((l.length:Nat):Int))
 cases h0:(decide ((((l.length:Nat):Int):Int)≤12)) with
 | false=>
  have bh:=of_decide_eq_false h0
  exact absurd bh (by omega)
 | true=>
  have bh:=of_decide_eq_true h0
  exact aN tk tq hK rfl [(2,[(2,.z (((l.length:Nat):Int)))]),(3,[(1,.b true)]),(4,[(3,.aM (.tu []))])] 2000 r (by kernel_rfl) (U u0 (U h0 (U (QA l hs (by omega)) trivial)))
set_option maxRecDepth 100000 in
theorem Rx (l:List Int) (hs:sj l) (hb:l.length≤6):al Tryz.prog 85 [.d (.ro 1 (ints l))] (.tu []):=by
 refine al.intro (by kernel_rfl) rfl rfl 11 rfl rfl fun w0 K ac hK r=>?_
 exact aN tk tq hK rfl [(0,[(1,.z (((l.length:Nat):Int)))]),(1,[(3,.z (((l.length:Nat):Int))),(4,.aM (.n (Dd l.length))),(5,.aM (.tu []))])] 2000 r (by kernel_rfl) (U ((by simp):(((ints l).length:Nat):Int)=((l.length:Nat):Int)) (U ((wu (by omega)):IntKind.u64.wrap (((l.length:Nat):Int))=((l.length:Nat):Int)) (U (Qz l.length (by omega)) (U (QB l (Dd l.length) hs (by omega)) trivial))))
def ql (l:List Int) (p:Nat) (o:List Int):List Int:=match l[p]? with | some a=>(if 0<p∧l[p-1]?=some a then o else o++[a]) | none=>o
def a6 (l:List Int):Nat→List Int
 | 0=>[]
 | p+1=>ql l p (a6 l p)
def wr (l:List Int) (k:Nat):Nat→List Int
 | 0=>l
 | j+1=>match l[k+(j+1)]? with | some a=>(if l[k+j]?=some a then wr l k j else (wr l k j).set (a6 l (k+1+j)).length a) | none=>wr l k j
theorem rM {l:List Int} {p:Nat} {a:Int} (h:l[p]?=some a) (hp:0<p) (h2:l[p-1]?=some a):a6 l (p+1)=a6 l p:=by rw [a6,ql,h];simp [hp,h2]
theorem r3 {l:List Int} {p:Nat} {a b:Int} (h:l[p]?=some a) (h2:l[p-1]?=some b) (nX:a≠b):a6 l (p+1)=a6 l p++[a]:=by
 rw [a6,ql,h];simp only [h2];rw [if_neg];rintro ⟨-,e⟩;cases e;exact nX rfl
theorem GZ {l:List Int} {a:Int} (h:l[0]?=some a):a6 l 1=[a]:=by rw [a6,ql,h];simp [a6]
theorem H4 (l:List Int) (p:Nat):(a6 l (p+1)).length≤(a6 l p).length+1:=by
 rw [a6,ql];split
 ·split<;>simp
 ·omega
theorem gh {l:List Int} {k:Nat} (h:(a6 l (k+1)).length≤k):∀ j,(a6 l (k+1+j)).length≤k+j
 | 0=>h
 | j+1=>by have h1:=gh h j;have h2:=H4 l (k+1+j);rw [← Nat.add_assoc];omega
@[simp] theorem m3 (l:List Int) (k:Nat):∀ j,(wr l k j).length=l.length
 | 0=>rfl
 | j+1=>by
  rw [wr];split
  ·split
   ·exact m3 l k j
   ·rw [List.length_set,m3 l k j]
  ·exact m3 l k j
theorem sS {l:List Int} {k:Nat} (h:(a6 l (k+1)).length≤k):∀ {j p:Nat},k+j≤p→(wr l k j)[p]?=l[p]?
 | 0,p,_=>rfl
 | j+1,p,hp=>by
  have h1:=gh h j
  rw [wr];split
  ·split
   ·exact sS h (by omega)
   ·rw [List.getElem?_set,if_neg (by omega)];exact sS h (by omega)
  ·exact sS h (by omega)
theorem Ax {l:List Int} {k j:Nat} {a:Int} (h:l[k+(j+1)]?=some a) (h2:l[k+j]?=some a):wr l k (j+1)=wr l k j:=by rw [wr,h];simp [h2]
theorem Bh {l:List Int} {k j:Nat} {a b:Int} (h:l[k+(j+1)]?=some a) (h2:l[k+j]?=some b) (nX:a≠b):wr l k (j+1)=(wr l k j).set (a6 l (k+1+j)).length a:=by
 rw [wr,h];simp only [h2];rw [if_neg];intro e;cases e;exact nX rfl
theorem vT {l:List Int} {k:Nat} (h:a6 l (k+1)=l.take k) (hk:k<l.length):∀ {j:Nat},k+1+j≤l.length→(wr l k j).take (a6 l (k+1+j)).length=a6 l (k+1+j)
 | 0,_=>by
  show l.take (a6 l (k+1)).length=a6 l (k+1)
  rw [h,List.length_take,Nat.min_eq_left (by omega)]
 | j+1,hj=>by
  have hle:(a6 l (k+1)).length≤k:=by rw [h,List.length_take];omega
  have h1:=gh hle j
  have ih:=vT h hk (j:=j) (by omega)
  have e1:l[k+1+j]?=some l[k+1+j]:=List.getElem?_eq_getElem (by omega)
  have e2:l[k+j]?=some l[k+j]:=List.getElem?_eq_getElem (by omega)
  have e3:k+1+j-1=k+j:=by omega
  have e4:k+(j+1)=k+1+j:=by omega
  rw [← Nat.add_assoc]
  by_cases nX:l[k+1+j]=l[k+j]
  ·rw [rM e1 (by omega) (by rw [e3,e2,nX]),Ax (by rw [e4];exact e1) (by rw [e2,nX])];exact ih
  ·rw [r3 e1 (by rw [e3];exact e2) nX,Bh (by rw [e4];exact e1) e2 nX]
   rw [List.length_append,List.length_singleton,List.take_succ_eq_append_getElem (by rw [List.length_set,m3];omega),List.take_set_of_le (Nat.le_refl _),ih,List.getElem_set_self]
theorem pR {l:List Int} (h:l.length<2):a6 l l.length=l:=by
 match l,h with
 | [],_=>rfl
 | [a],_=>exact GZ rfl
theorem y5 (l:List Int) (n:Nat):(ints l).take n=ints (l.take n):=by unfold ints;rw [List.map_take]
theorem Ek {T k:Nat} {a b:List (List DV)} (h:a=b):[af.rw T k a]=[.rw T k b]:=by rw [h]
theorem zJ {A B:List (List DV)} {n:Nat} (h:n≤A.length):(A.take n++B).take n=A.take n:=by
 rw [List.take_append_of_le_length (by simp;omega),List.take_take,Nat.min_self]
theorem G3 {l:List Int} (h:0<l.length):a6 l 1=l.take 1:=by
 match l,h with
 | a::r,_=>exact GZ rfl
theorem H5 {l:List Int} {k:Nat} {a:Int} (h:l[k]?=some a):l.take (k+1)=l.take k++[a]:=by
 obtain ⟨hk,rfl⟩:=List.getElem?_eq_some_iff.1 h
 rw [List.take_succ_eq_append_getElem hk]
set_option maxRecDepth 100000 in
theorem Nx (l:List Int) (hb:l.length<1073741824):dh Tryz.prog 87 [.sl 0 (l.length)] [.rw 3 1 (ints l)] (.sl 0 (a6 l l.length).length) ([.rw 3 1 (ints (a6 l l.length))]):=by
 refine dh.intro (by kernel_rfl) rfl rfl 61 rfl rfl fun D w0 K bs ac wd hK (bG:bs.m=1) r=>?_
 cases h0:(decide ((((l.length:Nat):Int):Int)<2)) with
 | false=>
  have bh:=of_decide_eq_false h0
  refine ig (todo':=hd Tryz.f87 0) (E':=[(0,.sl 0 (l.length)),(3,.n (0+1))]) (M':=[.rw 3 1 (ints l)]) tk tq hK bG [(1,[(2,.b false)])] 2000 [0] [0,3] r (by kernel_rfl) (U h0 trivial) fun ac wd r=>?_
  refine aG.rounds (Φ:=fun (i:Nat) ac wd=>(i+1≤l.length∧a6 l (i+1)=l.take (i+1))∧RB D w0 K 61 bs [(0,.sl 0 (l.length)),(3,.n (i+1))] [.rw 3 1 (ints l)] ac wd) (l.length) ?_ (Nat.zero_le _) ⟨⟨by omega,G3 (by omega)⟩,r⟩
  clear r
  rintro i eX b9 ac wd ⟨aT,r⟩
  obtain ⟨VF,nY⟩:=aT
  cases h1:(decide ((((i+1:Nat):Int):Int)<((l.length:Nat):Int))) with
  | false=>
   have bM:=of_decide_eq_false h1
   refine gC (y:=.sl 0 (l.length)) (N':=[.rw 3 1 (ints l)]) ((by first | (rw [pR (by omega)];done) | (rw [show a6 l l.length=l by rw [show l.length=i+1 by omega,nY];exact List.take_of_length_le (by omega)];done) | (rw [show l.length=i+1+1+j by omega]))) ((by first | (rw [pR (by omega)];done) | (rw [show a6 l l.length=l by rw [show l.length=i+1 by omega,nY];exact List.take_of_length_le (by omega)];done) | (refine Ek ?_;rw [zJ (by rw [List.length_map,m3];have:=gh aH j;omega),y5,vT lg (by omega) (by omega)];rw [show l.length=i+1+1+j by omega]))) ?_
   exact gA tk tq hK rfl bG [(4,[(3,.b false)])] 2000 [0] r (by kernel_rfl) (U h1 trivial)
  | true=>
   have bM:=of_decide_eq_true h1
   obtain ⟨fe,gy⟩:∃ x,l[i+1]?=some x:=⟨_,List.getElem?_eq_getElem (by omega)⟩
   obtain ⟨lE,og⟩:∃ x,l[i+1-1]?=some x:=⟨_,List.getElem?_eq_getElem (by omega)⟩
   have u0:=((by first | omega | (have:=gh aH j;omega)):(i+1)<(l.length))
   have u1:=((wi (by omega)):IntKind.i64.wrap ((((i+1:Nat):Int):Int)-1)=((i+1-1:Nat):Int))
   have u2:=((by first | omega | (have:=gh aH j;omega)):(i+1-1)<(l.length))
   cases h2:((fe:Int)==lE) with
   | false=>
    have cK:=ne_of_beq_false h2
    exact ig (todo':=hd Tryz.f87 0) tk tq hK bG [(4,[(3,.b true)]),(5,[(1,.z (((i+1+1:Nat):Int)))]),(6,[(2,.n (i+1)),(3,.ix 0 [.z fe]),(6,.z (((i+1-1:Nat):Int))),(7,.n (i+1-1)),(8,.ix 0 [.z lE]),(9,.b false)])] 2000 [0] [0,3] r (by kernel_rfl) (U h1 (U (aJ ((i+1:Nat):Int)) (U u0 (U ((by simp<;>omega):(l.length)≤(ints l).length) (U (lD gy) (U u1 (U (aJ ((i+1-1:Nat):Int)) (U u2 (U ((by simp<;>omega):(l.length)≤(ints l).length) (U (lD og) (U h2 (U ((wi (by omega)):IntKind.i64.wrap ((((i+1:Nat):Int):Int)+1)=((i+1+1:Nat):Int)) trivial)))))))))))) fun ac wd r=>b9 (by omega) ac wd ⟨⟨by omega,by rw [r3 (p:=i+1) gy og (by omega),nY,← H5 gy]⟩,r⟩
   | true=>
    have cK:=eq_of_beq h2
    have lg:a6 l (i+1+1)=l.take (i+1):=by rw [rM (p:=i+1) gy (by omega) (by rw [og,‹fe=lE›])];exact nY
    have aH:(a6 l (i+1+1)).length≤i+1:=by rw [lg,List.length_take];omega
    refine ig (todo':=hd Tryz.f87 1) (E':=[(0,.sl 0 (l.length)),(3,.n (i+1)),(4,.sb 0 1 (i+1) (l.length-(i+1))),(5,.z 1)]) (M':=[.rw 3 1 (ints l)]) tk tq hK bG [(4,[(3,.b true)]),(6,[(2,.n (i+1)),(3,.ix 0 [.z fe]),(6,.z (((i+1-1:Nat):Int))),(7,.n (i+1-1)),(8,.ix 0 [.z lE]),(9,.b true)]),(7,[(2,.n (i+1))])] 2000 [0] [0,3,4,5] r (by kernel_rfl) (U h1 (U (aJ ((i+1:Nat):Int)) (U u0 (U ((by simp<;>omega):(l.length)≤(ints l).length) (U (lD gy) (U u1 (U (aJ ((i+1-1:Nat):Int)) (U u2 (U ((by simp<;>omega):(l.length)≤(ints l).length) (U (lD og) (U h2 (U (aJ ((i+1:Nat):Int)) (U u0 (U ((by simp<;>omega):(l.length)=(ints l).length) trivial)))))))))))))) fun ac wd r=>?_
    refine aG.rounds (Φ:=fun (j:Nat) ac wd=>(i+1+1+j≤l.length)∧RB D w0 K 61 bs [(0,.sl 0 (l.length)),(3,.n ((a6 l (i+1+1+j)).length)),(4,.sb 0 1 (i+1) (l.length-(i+1))),(5,.n (j+1))] [.rw 3 1 (ints (wr l (i+1) j))] ac wd) (l.length) ?_ (Nat.zero_le _) ⟨by omega,(r).cast (by rw [lg];simp;omega) rfl⟩
    clear r
    rintro j fp fP ac wd ⟨cN,r⟩
    cases h3:(decide ((((j+1:Nat):Int):Int)<((l.length-(i+1):Nat):Int))) with
    | false=>
     have fb:=of_decide_eq_false h3
     have TL:=gh aH j
     refine gC (y:=.sl 0 ((a6 l (i+1+1+j)).length)) (N':=[.rw 3 1 (((ints (wr l (i+1) j)).take ((a6 l (i+1+1+j)).length)++(List.replicate (l.length-((a6 l (i+1+1+j)).length)) ([.z 0]:List DV)++(ints (wr l (i+1) j)).drop (((a6 l (i+1+1+j)).length)+(l.length-((a6 l (i+1+1+j)).length))))).take ((a6 l (i+1+1+j)).length))]) ((by first | (rw [pR (by omega)];done) | (rw [show a6 l l.length=l by rw [show l.length=i+1 by omega,nY];exact List.take_of_length_le (by omega)];done) | (rw [show l.length=i+1+1+j by omega]))) ((by first | (rw [pR (by omega)];done) | (rw [show a6 l l.length=l by rw [show l.length=i+1 by omega,nY];exact List.take_of_length_le (by omega)];done) | (refine Ek ?_;rw [zJ (by rw [List.length_map,m3];have:=gh aH j;omega),y5,vT lg (by omega) (by omega)];rw [show l.length=i+1+1+j by omega]))) ?_
     exact gA tk tq hK rfl bG [(9,[(3,.b false)]),(14,[(2,.n ((a6 l (i+1+1+j)).length))]),(15,[(2,.n ((a6 l (i+1+1+j)).length))])] 2000 [0] r (by kernel_rfl) (U h3 (U (aJ (((a6 l (i+1+1+j)).length:Nat):Int)) (U ((by first | omega | (have:=gh aH j;omega)):((a6 l (i+1+1+j)).length)<(l.length)) (U ((by simp<;>omega):(l.length)=(ints (wr l (i+1) j)).length) (U ((by first | omega | (have:=gh aH j;omega)):0<(l.length-((a6 l (i+1+1+j)).length))) (U ((by simp<;>omega):((a6 l (i+1+1+j)).length)+(l.length-((a6 l (i+1+1+j)).length))≤(ints (wr l (i+1) j)).length) (U (aJ (((a6 l (i+1+1+j)).length:Nat):Int)) (U ((by first | omega | (have:=gh aH j;omega)):((a6 l (i+1+1+j)).length)≤(l.length)) (U ((by simp<;>omega):(l.length)=((ints (wr l (i+1) j)).take ((a6 l (i+1+1+j)).length)++(List.replicate (l.length-((a6 l (i+1+1+j)).length)) ([.z 0]:List DV)++(ints (wr l (i+1) j)).drop (((a6 l (i+1+1+j)).length)+(l.length-((a6 l (i+1+1+j)).length)))):List (List DV)).length) trivial)))))))))
    | true=>
     have fb:=of_decide_eq_true h3
     obtain ⟨kC,ly⟩:∃ x,l[i+1+(j+1)]?=some x:=⟨_,List.getElem?_eq_getElem (by omega)⟩
     obtain ⟨mQ,lu⟩:∃ x,l[i+1+(j+1-1)]?=some x:=⟨_,List.getElem?_eq_getElem (by omega)⟩
     have TL:=gh aH j
     obtain ⟨old,TM⟩:∃ x,(wr l (i+1) j)[(a6 l (i+1+1+j)).length]?=some x:=⟨_,List.getElem?_eq_getElem (by rw [m3];omega)⟩
     have u3:=((by first | omega | (have:=gh aH j;omega)):(j+1)<(l.length-(i+1)))
     have u4:=((by simp<;>omega):(i+1)+(l.length-(i+1))≤(ints (wr l (i+1) j)).length)
     have u5:=(lD (by rw [sS aH (by omega)];exact ly):(ints (wr l (i+1) j))[i+1+(j+1)]?=some [.z kC])
     have u6:=((wi (by omega)):IntKind.i64.wrap ((((j+1:Nat):Int):Int)-1)=((j+1-1:Nat):Int))
     have u7:=((by first | omega | (have:=gh aH j;omega)):(j+1-1)<(l.length-(i+1)))
     have u8:=(lD (by rw [sS aH (by omega)];exact lu):(ints (wr l (i+1) j))[i+1+(j+1-1)]?=some [.z mQ])
     cases h4:((kC:Int) != mQ) with
     | false=>
      have kv:=fY h4
      exact ig (todo':=hd Tryz.f87 1) (E':=[(0,.sl 0 (l.length)),(3,.n ((a6 l (i+1+1+j)).length)),(4,.sb 0 1 (i+1) (l.length-(i+1))),(5,.n (j+1+1))]) (M':=[.rw 3 1 (ints (wr l (i+1) j))]) tk tq hK bG [(9,[(3,.b true)]),(10,[(1,.z (((j+1+1:Nat):Int)))]),(11,[(2,.n (j+1)),(3,.ix 0 [.z kC]),(6,.z (((j+1-1:Nat):Int))),(7,.n (j+1-1)),(8,.ix 0 [.z mQ]),(9,.b false)])] 2000 [0] [0,3,4,5] r (by kernel_rfl) (U h3 (U (aJ ((j+1:Nat):Int)) (U u3 (U u4 (U u5 (U u6 (U (aJ ((j+1-1:Nat):Int)) (U u7 (U u4 (U u8 (U h4 (U ((wi (by omega)):IntKind.i64.wrap ((((j+1:Nat):Int):Int)+1)=((j+1+1:Nat):Int)) trivial)))))))))))) fun ac wd r=>fP (by omega) ac wd ⟨by omega,r.cast (by have e:i+1+1+(j+1)=(i+1+(j+1))+1:=(by omega);have e2:i+1+(j+1)=i+1+1+j:=(by omega);rw [e];first | (rw [r3 (p:=i+1+(j+1)) ly (by have k:=lu;simpa using k) (by omega),e2];simp;done) | (rw [rM (p:=i+1+(j+1)) ly (by omega) (by have k:=lu;rw [show kC=mQ by omega];simpa using k),e2];done)) (by first | (rw [ints_set,Bh (k:=i+1) (j:=j) ly (by have k:=lu;simpa using k) (by omega)];done) | (rw [Ax (k:=i+1) (j:=j) ly (by have k:=lu;rw [show kC=mQ by omega];simpa using k)];done))⟩
     | true=>
      have kv:¬ _=_:=bne_iff_ne.1 h4
      exact ig (todo':=hd Tryz.f87 1) (E':=[(0,.sl 0 (l.length)),(3,.n ((a6 l (i+1+1+j)).length+1)),(4,.sb 0 1 (i+1) (l.length-(i+1))),(5,.n (j+1+1))]) (M':=[.rw 3 1 (List.set (ints (wr l (i+1) j)) ((a6 l (i+1+1+j)).length) [.z kC])]) tk tq hK bG [(9,[(3,.b true)]),(10,[(1,.z (((j+1+1:Nat):Int)))]),(11,[(2,.n (j+1)),(3,.ix 0 [.z kC]),(6,.z (((j+1-1:Nat):Int))),(7,.n (j+1-1)),(8,.ix 0 [.z mQ]),(9,.b true)]),(12,[(4,.n (j+1)),(5,.ix 0 [.z kC]),(6,.n ((a6 l (i+1+1+j)).length)),(7,.ix 0 [.z old])]),(13,[(1,.z ((((a6 l (i+1+1+j)).length+1:Nat):Int)))])] 2000 [0] [0,3,4,5] r (by kernel_rfl) (U h3 (U (aJ ((j+1:Nat):Int)) (U u3 (U u4 (U u5 (U u6 (U (aJ ((j+1-1:Nat):Int)) (U u7 (U u4 (U u8 (U h4 (U (aJ ((j+1:Nat):Int)) (U u3 (U u4 (U u5 (U (aJ (((a6 l (i+1+1+j)).length:Nat):Int)) (U ((by first | omega | (have:=gh aH j;omega)):((a6 l (i+1+1+j)).length)<(l.length)) (U ((by simp<;>omega):(l.length)≤(ints (wr l (i+1) j)).length) (U (lD TM) (U ((wi (by omega)):IntKind.i64.wrap (((((a6 l (i+1+1+j)).length:Nat):Int):Int)+1)=(((a6 l (i+1+1+j)).length+1:Nat):Int)) (U ((wi (by omega)):IntKind.i64.wrap ((((j+1:Nat):Int):Int)+1)=((j+1+1:Nat):Int)) trivial))))))))))))))))))))) fun ac wd r=>fP (by omega) ac wd ⟨by omega,r.cast (by have e:i+1+1+(j+1)=(i+1+(j+1))+1:=(by omega);have e2:i+1+(j+1)=i+1+1+j:=(by omega);rw [e];first | (rw [r3 (p:=i+1+(j+1)) ly (by have k:=lu;simpa using k) (by omega),e2];simp;done) | (rw [rM (p:=i+1+(j+1)) ly (by omega) (by have k:=lu;rw [show kC=mQ by omega];simpa using k),e2];done)) (by first | (rw [ints_set,Bh (k:=i+1) (j:=j) ly (by have k:=lu;simpa using k) (by omega)];done) | (rw [Ax (k:=i+1) (j:=j) ly (by have k:=lu;rw [show kC=mQ by omega];simpa using k)];done))⟩
 | true=>
  have bh:=of_decide_eq_true h0
  refine gC (y:=.sl 0 (l.length)) (N':=[.rw 3 1 (ints l)]) ((by first | (rw [pR (by omega)];done) | (rw [show a6 l l.length=l by rw [show l.length=i+1 by omega,nY];exact List.take_of_length_le (by omega)];done) | (rw [show l.length=i+1+1+j by omega]))) ((by first | (rw [pR (by omega)];done) | (rw [show a6 l l.length=l by rw [show l.length=i+1 by omega,nY];exact List.take_of_length_le (by omega)];done) | (refine Ek ?_;rw [zJ (by rw [List.length_map,m3];have:=gh aH j;omega),y5,vT lg (by omega) (by omega)];rw [show l.length=i+1+1+j by omega]))) ?_
  exact gA tk tq hK rfl bG [(1,[(2,.b true)])] 2000 [0] r (by kernel_rfl) (U h0 trivial)
end Go.Proofs.YtgkdnnmcjjabdaaGreat
namespace Go.Proofs.YtgkdnnmcjjabdaaGreat
open Go.RowKit
theorem F6 {l:List Int} (h:∀ (i:Nat) (a b:Int),l[i]?=some a→l[i+1]?=some b→b≠a):∀ {p:Nat},p≤l.length→a6 l p=l.take p
 | 0,_=>by simp [a6]
 | 1,hp=>G3 (by omega)
 | p+2,hp=>by
  have e1:l[p+1]?=some l[p+1]:=List.getElem?_eq_getElem (by omega)
  have e2:l[p]?=some l[p]:=List.getElem?_eq_getElem (by omega)
  rw [r3 (p:=p+1) e1 (by simp) (h p _ _ e2 e1),F6 h (p:=p+1) (by omega),← H5 e1]
theorem G4 (l:List Int):∀ p,(a6 l p).length≤p
 | 0=>by simp [a6]
 | p+1=>by have:=H4 l p;have:=G4 l p;omega
theorem Fg {l:List ay} (hs:isSet l=true):((a6 (l.map ay.node) (l.map ay.node).length).length=l.length)↔lone l=true:=by
 have De:=(uV l).1 hs
 have hle:∀ (i:Nat) p q,l[i]?=some p→l[i+1]?=some q→p.node≤q.node:=fun i p q hp hq=>by
  have:=De.2 i p q (List.getElem?_eq_some_iff.1 hq).1 hp hq
  unfold ay.lt at this
  have:=of_decide_eq_true this
  omega
 have mono:∀ (d i:Nat) p q,l[i]?=some p→l[i+d]?=some q→p.node≤q.node:=by
  intro d
  induction d with
  | zero=>intro i p q hp hq;rw [Nat.add_zero,hp] at hq;cases hq;omega
  | succ d ih=>
   intro i p q hp hq
   have aH:=(List.getElem?_eq_some_iff.1 hq).1
   have e:l[i+d]?=some l[i+d]:=List.getElem?_eq_getElem (by omega)
   have h1:=ih i p _ hp e
   have h2:=hle (i+d) _ q e (by rw [Nat.add_assoc];exact hq)
   omega
 constructor
 ·intro h
  cases hl:lone l with
  | true=>rfl
  | false=>
   exfalso
   have hn:¬ Lone l l.length:=fun hh=>by rw [OU hh] at hl;cases hl
   apply hn
   intro a b p q ha hb hp hq e
   have kS:0<a:=by omega
   have e1:l[a-1]?=some l[a-1]:=List.getElem?_eq_getElem (by omega)
   have h1:=mono (a-1-b) b q _ hq (by rw [show b+(a-1-b)=a-1 by omega];exact e1)
   have h2:=hle (a-1) _ p e1 (by rw [show a-1+1=a by omega];exact hp)
   have g1:(l.map ay.node)[a]?=some p.node:=by rw [List.getElem?_map,hp];rfl
   have g2:(l.map ay.node)[a-1]?=some p.node:=by rw [List.getElem?_map,e1];simp;omega
   have h3:=rM g1 kS g2
   have h4:=G4 (l.map ay.node) a
   have h5:=gh (l:=l.map ay.node) (k:=a) (by rw [h3];exact h4) (l.length-(a+1))
   rw [show a+1+(l.length-(a+1))=(l.map ay.node).length by simp;omega] at h5
   omega
 ·intro h
  have Ci:=(GS l).1 h
  rw [F6 (fun i a b ha hb=>?_) (Nat.le_refl _),List.take_length,List.length_map]
  rw [List.getElem?_map,Option.map_eq_some_iff] at ha hb
  obtain ⟨p,hp,rfl⟩:=ha
  obtain ⟨q,hq,rfl⟩:=hb
  exact fun e=>Ci (i+1) i q p (List.getElem?_eq_some_iff.1 hq).1 (by omega) hq hp e.symm
theorem uO {l:List ay} (hs:isSet l=true):sj (l.map ay.node):=by
 have De:=(uV l).1 hs
 intro i a b ha hb
 rw [List.getElem?_map,Option.map_eq_some_iff] at ha hb
 obtain ⟨p,hp,rfl⟩:=ha
 obtain ⟨q,hq,rfl⟩:=hb
 have:=De.2 i p q (List.getElem?_eq_some_iff.1 hq).1 hp hq
 unfold ay.lt at this
 have:=of_decide_eq_true this
 omega
theorem Pc (l:List Int) (i:Nat) (h:i=l.length) (hb:l.length<1073741824):dh Tryz.prog 87 [.sl 0 i] [.rw 3 1 (ints l)] (.sl 0 (a6 l l.length).length) [.rw 3 1 (ints (a6 l l.length))]:=by subst h;exact Nx l hb
theorem Mm {l:List ay} {i:Nat} {p:ay} (h:l[i]?=some p):ints ((l.take i).map ay.node)++[[.v (.int .i64 p.node)]]=ints ((l.take (i+1)).map ay.node):=by
 obtain ⟨hi,rfl⟩:=List.getElem?_eq_some_iff.1 h
 rw [O8,List.take_succ_eq_append_getElem hi,List.map_append];rfl
set_option maxRecDepth 100000 in
theorem r9 (l:List ay) (hs:sj (l.map ay.node)) (hb:l.length≤6):al Tryz.prog 53 [.d (.ro 2 (procs l))] (.ro 1 (ints (a6 (l.map ay.node) (l.map ay.node).length))):=by
 refine al.intro (by kernel_rfl) rfl rfl 26 rfl rfl fun w0 K ac hK r=>?_
 refine bD (todo':=hd Tryz.f53 0) (E':=[(3,.sl 0 (0)),(9,.d (.ro 2 (procs l))),(10,.n l.length),(11,.z 0)]) (M':=[.rw 3 1 ([])]) tk tq hK [(1,[(1,.z (((l.length:Nat):Int))),(2,.n2 (0) (l.length))]),(2,[(1,.z (((l.length:Nat):Int)))])] 2000 [0] [3,9,10,11] r (by kernel_rfl) (U ((by simp):(((procs l).length:Nat):Int)=((l.length:Nat):Int)) (U (rfl:(0:Int)=((0:Nat):Int)) (U (aJ ((l.length:Nat):Int)) (U ((by first | omega | (simp;omega)):(0)≤(l.length)) (U ((by first | omega | (simp;omega)):8*(l.length)≤281474976710656) (U ((by first | omega | (simp;omega)):(l.length)<4611686018427387904) (U ((by simp):(((procs l).length:Nat):Int)=((l.length:Nat):Int)) trivial))))))) fun ac wd r=>?_
 refine aG.rounds (Φ:=fun (i:Nat) ac wd=>(i≤l.length)∧dj [] w0 K 26 [(3,.sl 0 (i)),(9,.d (.ro 2 (procs l))),(10,.n l.length),(11,.n i)] [.rw 3 1 (ints ((l.take i).map ay.node))] ac wd) (l.length) ?_ (Nat.zero_le _) ⟨by omega,(r).cast rfl rfl⟩
 clear r
 rintro i eX b9 ac wd ⟨aT,r⟩
 cases h0:(decide ((((i:Nat):Int):Int)<((l.length:Nat):Int))) with
 | false=>
  have bh:=of_decide_eq_false h0
  have dc:l.take i=l:=List.take_of_length_le (by omega)
  exact aN tk tq hK rfl [(3,[(0,.b false)]),(7,[(1,.call [.d (.ro 1 (ints (l.map ay.node)))] (.tu []))]),(8,[(1,.mem [0] (.sl 0 ((a6 (l.map ay.node) (l.map ay.node).length).length)) [.rw 3 1 (ints (a6 (l.map ay.node) (l.map ay.node).length))]),(2,.cg 200 [(1,[(5,.res (.ro 1 (ints (a6 (l.map ay.node) (l.map ay.node).length))))])])])] 2000 r (by kernel_rfl) (U h0 (U (Rx (l.map ay.node) hs (by simp;omega)) (U ((.tu (by simp)):de (.tu [])) (U (b7 (1)) (U ((by simp<;>omega):(i)=(ints ((l.take i).map ay.node)).length) (U ((by rw [F5,dc]):bO (ints ((l.take i).map ay.node))=ints (l.map ay.node)) (U ((by rw [dc];exact Pc (l.map ay.node) (i) (by simp;omega) (by simp;omega)):dh Tryz.prog 87 [.sl 0 (i)] [.rw 3 1 (ints ((l.take i).map ay.node))] (.sl 0 ((a6 (l.map ay.node) (l.map ay.node).length).length)) [.rw 3 1 (ints (a6 (l.map ay.node) (l.map ay.node).length))]) (U (aJ (((a6 (l.map ay.node) (l.map ay.node).length).length:Nat):Int)) (U (aJ (((a6 (l.map ay.node) (l.map ay.node).length).length:Nat):Int)) (U ((by simp<;>omega):((a6 (l.map ay.node) (l.map ay.node).length).length)=(ints (a6 (l.map ay.node) (l.map ay.node).length)).length) (U (b7 (1)) (U (F5 _:bO (ints (a6 (l.map ay.node) (l.map ay.node).length))=ints (a6 (l.map ay.node) (l.map ay.node).length)) trivial))))))))))))
 | true=>
  have bh:=of_decide_eq_true h0
  obtain ⟨bU,cB⟩:∃ x,l[i]?=some x:=⟨_,List.getElem?_eq_getElem (by omega)⟩
  exact bD (todo':=hd Tryz.f53 0) (E':=[(3,.sl 0 (i+(1))),(9,.d (.ro 2 (procs l))),(10,.n l.length),(11,.n (i+1))]) (M':=[.rw 3 1 (ints ((l.take i).map ay.node)++[[.z bU.node]])]) tk tq hK [(3,[(0,.b true)]),(4,[(0,.ix (i) [.z bU.node,.u bU.inc])]),(6,[(0,.z (((i+1:Nat):Int)))])] 2000 [0] [3,9,10,11] r (by kernel_rfl) (U h0 (U (aJ ((i:Nat):Int)) (U (fK cB) (U ((by simp<;>omega):(i)=(ints ((l.take i).map ay.node)).length) (U ((by simp<;>omega):(1)=([[.z bU.node]]:List (List DV)).length) (U ((by first | omega | (simp;done) | (simp;omega)):(2*((i)+(1))+192)*8≤281474976710656) (U ((by first | omega | (simp;done) | (simp;omega)):(i)+(1)<4611686018427387904) (U ((by simp [bY,AV.one,cD]):bY ([[.z bU.node]])) (U ((wi (by omega)):IntKind.i64.wrap ((((i:Nat):Int):Int)+1)=((i+1:Nat):Int)) trivial))))))))) fun ac wd r=>b9 (by omega) ac wd ⟨by omega,r.cast rfl (by rw [Mm cB])⟩
end Go.Proofs.YtgkdnnmcjjabdaaGreat
namespace Go.Proofs.YtgkdnnmcjjabdaaGreat
open Go.RowKit
theorem H6:∀ {l:List Nat} {x k:Nat},x ∈ l→0≤idx l x k
 | [],x,k,h=>by simp at h
 | y::r,x,k,h=>by
  unfold idx;split
  ·omega
  ·rename_i dD
   rcases List.mem_cons.1 h with e | e
   ·exact absurd e.symm dD
   ·exact H6 e
theorem View.kD {v:View} (h:v.id.round≠0) (h0:0≤idx v.ao 0 0):v.may=false:=by
 obtain ⟨i,-,h2⟩:=zG h0
 exact View.Ru h h2 rfl
theorem View.kM {v:View} (h0:¬ 0≤idx v.ao 0 0) (j x:Nat) (_:j<v.ao.length) (hx:v.ao[j]?=some x):x≠0:=by
 intro e;subst e;exact h0 (H6 (List.mem_of_getElem? hx))
theorem View.kN {v:View} (h:v.id.may=false):v.may=false:=by
 unfold View.may;split
 ·rename_i h0
  unfold eF.may at h
  have h1:=of_decide_eq_false h
  have:v.id.server.may=false:=by
   cases hs:v.id.server.may with
   | false=>rfl
   | true=>exact absurd ⟨hs,.inl h0⟩ h1
  rw [this];rfl
 ·rw [h];simp
theorem eF.kz {v:eF} (h:v.may=true):v.server.may=true:=(of_decide_eq_true h).1
set_option maxRecDepth 100000 in
theorem vU (v:View) (hb:v.bounded):al Tryz.prog 34 [.ag [.u v.id.round,.z v.id.server.node,.u v.id.server.inc,.d (.ro 2 (procs v.members)),.d (.ro 1 (ae v.ao))]] (DV.v (.bool v.may)):=by
 obtain ⟨eE,cv⟩:=id hb
 refine al.intro (by kernel_rfl) rfl rfl 53 rfl rfl fun w0 K ac hK r=>?_
 cases h0:(v.id.may) with
 | false=>
  rw [show (DV.v (.bool v.may):DV)=.v (.bool false) from (bv (by first | exact View.kN (by assumption) | exact View.kx (by omega) (eF.kz (by assumption)) (by assumption) | exact View.kD (by omega) (of_decide_eq_true (by assumption)) | exact View.kG (by omega) (by assumption) (by omega) (by omega) (by omega) (by assumption) (by assumption) (Nat.le_refl _) (View.kM (of_decide_eq_false (by assumption))) | exact View.kH (by omega) (by first | (left;assumption) | (right;left;omega) | (right;right;left;omega) | (right;right;right;left;omega) | (right;right;right;right;left;assumption) | (right;right;right;right;right;assumption))))]
  exact aN tk tq hK rfl [(1,[(2,.aM (.v (.bool false)))])] 2000 r (by kernel_rfl) (U ((by have k:=FP v.id;rw [h0] at k;exact k):al Tryz.prog 56 [.ag [.u v.id.round,.z v.id.server.node,.u v.id.server.inc]] (.v (.bool false))) trivial)
 | true=>
  have u0:=((by have k:=FP v.id;rw [h0] at k;exact k):al Tryz.prog 56 [.ag [.u v.id.round,.z v.id.server.node,.u v.id.server.inc]] (.v (.bool true)))
  cases h1:((((v.id.round:Nat):Int):Int)==0) with
  | false=>
   have bM:=ne_of_beq_false h1
   have u1:=((by simp):(((procs v.members).length:Nat):Int)=((v.members.length:Nat):Int))
   cases h2:(decide ((1:Int)≤((v.members.length:Nat):Int))) with
   | false=>
    have cK:=of_decide_eq_false h2
    rw [show (DV.v (.bool v.may):DV)=.v (.bool false) from (bv (by first | exact View.kN (by assumption) | exact View.kx (by omega) (eF.kz (by assumption)) (by assumption) | exact View.kD (by omega) (of_decide_eq_true (by assumption)) | exact View.kG (by omega) (by assumption) (by omega) (by omega) (by omega) (by assumption) (by assumption) (Nat.le_refl _) (View.kM (of_decide_eq_false (by assumption))) | exact View.kH (by omega) (by first | (left;assumption) | (right;left;omega) | (right;right;left;omega) | (right;right;right;left;omega) | (right;right;right;right;left;assumption) | (right;right;right;right;right;assumption))))]
    exact aN tk tq hK rfl [(1,[(2,.aM (.v (.bool true)))]),(3,[(3,.b false)]),(5,[(2,.z (((v.members.length:Nat):Int)))]),(6,[(1,.b false)])] 2000 r (by kernel_rfl) (U u0 (U h1 (U u1 (U h2 trivial))))
   | true=>
    have cK:=of_decide_eq_true h2
    cases h3:(decide ((((v.members.length:Nat):Int):Int)≤6)) with
    | false=>
     have fb:=of_decide_eq_false h3
     rw [show (DV.v (.bool v.may):DV)=.v (.bool false) from (bv (by first | exact View.kN (by assumption) | exact View.kx (by omega) (eF.kz (by assumption)) (by assumption) | exact View.kD (by omega) (of_decide_eq_true (by assumption)) | exact View.kG (by omega) (by assumption) (by omega) (by omega) (by omega) (by assumption) (by assumption) (Nat.le_refl _) (View.kM (of_decide_eq_false (by assumption))) | exact View.kH (by omega) (by first | (left;assumption) | (right;left;omega) | (right;right;left;omega) | (right;right;right;left;omega) | (right;right;right;right;left;assumption) | (right;right;right;right;right;assumption))))]
     exact aN tk tq hK rfl [(1,[(2,.aM (.v (.bool true)))]),(3,[(3,.b false)]),(5,[(2,.z (((v.members.length:Nat):Int)))]),(6,[(1,.b true),(4,.b false)])] 2000 r (by kernel_rfl) (U u0 (U h1 (U u1 (U h2 (U h3 trivial)))))
    | true=>
     have fb:=of_decide_eq_true h3
     cases h4:(isSet v.members) with
     | false=>
      rw [show (DV.v (.bool v.may):DV)=.v (.bool false) from (bv (by first | exact View.kN (by assumption) | exact View.kx (by omega) (eF.kz (by assumption)) (by assumption) | exact View.kD (by omega) (of_decide_eq_true (by assumption)) | exact View.kG (by omega) (by assumption) (by omega) (by omega) (by omega) (by assumption) (by assumption) (Nat.le_refl _) (View.kM (of_decide_eq_false (by assumption))) | exact View.kH (by omega) (by first | (left;assumption) | (right;left;omega) | (right;right;left;omega) | (right;right;right;left;omega) | (right;right;right;right;left;assumption) | (right;right;right;right;right;assumption))))]
      exact aN tk tq hK rfl [(1,[(2,.aM (.v (.bool true)))]),(3,[(3,.b false)]),(5,[(2,.z (((v.members.length:Nat):Int)))]),(6,[(1,.b true),(4,.b true),(9,.aM (.v (.bool false)))])] 2000 r (by kernel_rfl) (U u0 (U h1 (U u1 (U h2 (U h3 (U ((by have k:=At v.members (by omega);rw [h4] at k;exact k):al Tryz.prog 51 [.d (.ro 2 (procs v.members))] (.v (.bool false))) trivial))))))
     | true=>
      have u2:=((by have k:=At v.members (by omega);rw [h4] at k;exact k):al Tryz.prog 51 [.d (.ro 2 (procs v.members))] (.v (.bool true)))
      have u3:=((by simp):(((ints (a6 (v.members.map ay.node) (v.members.map ay.node).length)).length:Nat):Int)=(((a6 (v.members.map ay.node) (v.members.map ay.node).length).length:Nat):Int))
      cases h5:(((((a6 (v.members.map ay.node) (v.members.map ay.node).length).length:Nat):Int):Int)==((v.members.length:Nat):Int)) with
      | false=>
       have mH:=ne_of_beq_false h5
       have Ci:lone v.members=false:=by
        cases hl:lone v.members with
        | false=>rfl
        | true=>exact absurd ((Fg (by assumption)).2 hl) (by omega)
       rw [show (DV.v (.bool v.may):DV)=.v (.bool false) from (bv (by first | exact View.kN (by assumption) | exact View.kx (by omega) (eF.kz (by assumption)) (by assumption) | exact View.kD (by omega) (of_decide_eq_true (by assumption)) | exact View.kG (by omega) (by assumption) (by omega) (by omega) (by omega) (by assumption) (by assumption) (Nat.le_refl _) (View.kM (of_decide_eq_false (by assumption))) | exact View.kH (by omega) (by first | (left;assumption) | (right;left;omega) | (right;right;left;omega) | (right;right;right;left;omega) | (right;right;right;right;left;assumption) | (right;right;right;right;right;assumption))))]
       exact aN tk tq hK rfl [(1,[(2,.aM (.v (.bool true)))]),(3,[(3,.b false)]),(5,[(2,.z (((v.members.length:Nat):Int)))]),(6,[(1,.b true),(4,.b true),(9,.aM (.v (.bool true))),(14,.aM (.ro 1 (ints (a6 (v.members.map ay.node) (v.members.map ay.node).length)))),(15,.z ((((a6 (v.members.map ay.node) (v.members.map ay.node).length).length:Nat):Int))),(17,.b false)])] 2000 r (by kernel_rfl) (U u0 (U h1 (U u1 (U h2 (U h3 (U u2 (U (r9 v.members (uO (by assumption)) (by omega)) (U u3 (U h5 trivial)))))))))
      | true=>
       have mH:=eq_of_beq h5
       have Ci:lone v.members=true:=(Fg (by assumption)).1 (by omega)
       have u4:=((by simp):(((ae v.ao).length:Nat):Int)=((v.ao.length:Nat):Int))
       cases h6:((((v.ao.length:Nat):Int):Int)==((v.members.length:Nat):Int)) with
       | false=>
        have lj:=ne_of_beq_false h6
        rw [show (DV.v (.bool v.may):DV)=.v (.bool false) from (bv (by first | exact View.kN (by assumption) | exact View.kx (by omega) (eF.kz (by assumption)) (by assumption) | exact View.kD (by omega) (of_decide_eq_true (by assumption)) | exact View.kG (by omega) (by assumption) (by omega) (by omega) (by omega) (by assumption) (by assumption) (Nat.le_refl _) (View.kM (of_decide_eq_false (by assumption))) | exact View.kH (by omega) (by first | (left;assumption) | (right;left;omega) | (right;right;left;omega) | (right;right;right;left;omega) | (right;right;right;right;left;assumption) | (right;right;right;right;right;assumption))))]
        exact aN tk tq hK rfl [(1,[(2,.aM (.v (.bool true)))]),(3,[(3,.b false)]),(5,[(2,.z (((v.members.length:Nat):Int)))]),(6,[(1,.b true),(4,.b true),(9,.aM (.v (.bool true))),(14,.aM (.ro 1 (ints (a6 (v.members.map ay.node) (v.members.map ay.node).length)))),(15,.z ((((a6 (v.members.map ay.node) (v.members.map ay.node).length).length:Nat):Int))),(17,.b true),(22,.z (((v.ao.length:Nat):Int))),(24,.b false)])] 2000 r (by kernel_rfl) (U u0 (U h1 (U u1 (U h2 (U h3 (U u2 (U (r9 v.members (uO (by assumption)) (by omega)) (U u3 (U h5 (U u4 (U h6 trivial)))))))))))
       | true=>
        have lj:=eq_of_beq h6
        cases h7:(decide (0≤idx v.ao 0 0)) with
        | false=>
         have ln:=of_decide_eq_false h7
         rw [show (DV.v (.bool v.may):DV)=.v (.bool true) from (bv (by first | exact View.kN (by assumption) | exact View.kx (by omega) (eF.kz (by assumption)) (by assumption) | exact View.kD (by omega) (of_decide_eq_true (by assumption)) | exact View.kG (by omega) (by assumption) (by omega) (by omega) (by omega) (by assumption) (by assumption) (Nat.le_refl _) (View.kM (of_decide_eq_false (by assumption))) | exact View.kH (by omega) (by first | (left;assumption) | (right;left;omega) | (right;right;left;omega) | (right;right;right;left;omega) | (right;right;right;right;left;assumption) | (right;right;right;right;right;assumption))))]
         exact aN tk tq hK rfl [(1,[(2,.aM (.v (.bool true)))]),(3,[(3,.b false)]),(5,[(2,.z (((v.members.length:Nat):Int)))]),(6,[(1,.b true),(4,.b true),(9,.aM (.v (.bool true))),(14,.aM (.ro 1 (ints (a6 (v.members.map ay.node) (v.members.map ay.node).length)))),(15,.z ((((a6 (v.members.map ay.node) (v.members.map ay.node).length).length:Nat):Int))),(17,.b true),(22,.z (((v.ao.length:Nat):Int))),(24,.b true),(29,.aM (.v (.bool false)))])] 2000 r (by kernel_rfl) (U u0 (U h1 (U u1 (U h2 (U h3 (U u2 (U (r9 v.members (uO (by assumption)) (by omega)) (U u3 (U h5 (U u4 (U h6 (U ((by have k:=containsNum v.ao 0 (by omega);rw [h7] at k;exact k):al Tryz.prog 58 [.d (.ro 1 (ae v.ao)),.d (.v (.int .u64 0))] (.v (.bool false))) trivial))))))))))))
        | true=>
         have ln:=of_decide_eq_true h7
         rw [show (DV.v (.bool v.may):DV)=.v (.bool false) from (bv (by first | exact View.kN (by assumption) | exact View.kx (by omega) (eF.kz (by assumption)) (by assumption) | exact View.kD (by omega) (of_decide_eq_true (by assumption)) | exact View.kG (by omega) (by assumption) (by omega) (by omega) (by omega) (by assumption) (by assumption) (Nat.le_refl _) (View.kM (of_decide_eq_false (by assumption))) | exact View.kH (by omega) (by first | (left;assumption) | (right;left;omega) | (right;right;left;omega) | (right;right;right;left;omega) | (right;right;right;right;left;assumption) | (right;right;right;right;right;assumption))))]
         exact aN tk tq hK rfl [(1,[(2,.aM (.v (.bool true)))]),(3,[(3,.b false)]),(5,[(2,.z (((v.members.length:Nat):Int)))]),(6,[(1,.b true),(4,.b true),(9,.aM (.v (.bool true))),(14,.aM (.ro 1 (ints (a6 (v.members.map ay.node) (v.members.map ay.node).length)))),(15,.z ((((a6 (v.members.map ay.node) (v.members.map ay.node).length).length:Nat):Int))),(17,.b true),(22,.z (((v.ao.length:Nat):Int))),(24,.b true),(29,.aM (.v (.bool true)))])] 2000 r (by kernel_rfl) (U u0 (U h1 (U u1 (U h2 (U h3 (U u2 (U (r9 v.members (uO (by assumption)) (by omega)) (U u3 (U h5 (U u4 (U h6 (U ((by have k:=containsNum v.ao 0 (by omega);rw [h7] at k;exact k):al Tryz.prog 58 [.d (.ro 1 (ae v.ao)),.d (.v (.int .u64 0))] (.v (.bool true))) trivial))))))))))))
  | true=>
   have bM:=eq_of_beq h1
   cases h8:(decide (v=View.first v.id.server)) with
   | false=>
    have ur:=of_decide_eq_false h8
    rw [show (DV.v (.bool v.may):DV)=.v (.bool false) from (bv (by first | exact View.kN (by assumption) | exact View.kx (by omega) (eF.kz (by assumption)) (by assumption) | exact View.kD (by omega) (of_decide_eq_true (by assumption)) | exact View.kG (by omega) (by assumption) (by omega) (by omega) (by omega) (by assumption) (by assumption) (Nat.le_refl _) (View.kM (of_decide_eq_false (by assumption))) | exact View.kH (by omega) (by first | (left;assumption) | (right;left;omega) | (right;right;left;omega) | (right;right;right;left;omega) | (right;right;right;right;left;assumption) | (right;right;right;right;right;assumption))))]
    exact aN tk tq hK rfl [(1,[(2,.aM (.v (.bool true)))]),(3,[(3,.b true)]),(4,[(4,.aM (.ag [.v (.int .u64 0),.z v.id.server.node,.u v.id.server.inc,.em 24 2 (procs [v.id.server]),.em 22 1 (ae [0])])),(5,.call [.ag [.u v.id.round,.z v.id.server.node,.u v.id.server.inc,.d (.ro 2 (procs v.members)),.d (.ro 1 (ae v.ao))],.ag [.d (.v (.int .u64 0)),.z v.id.server.node,.u v.id.server.inc,.d (.ro 2 (procs [v.id.server])),.d (.ro 1 (ae [0]))]] (.v (.bool false)))])] 2000 r (by kernel_rfl) (U u0 (U h1 (U (yZ v.id.server) (U ((by have k:=GU v (View.first v.id.server) hb;rw [h8] at k;exact k):al Tryz.prog 57 [.ag [.u v.id.round,.z v.id.server.node,.u v.id.server.inc,.d (.ro 2 (procs v.members)),.d (.ro 1 (ae v.ao))],.ag [.d (.v (.int .u64 0)),.z v.id.server.node,.u v.id.server.inc,.d (.ro 2 (procs [v.id.server])),.d (.ro 1 (ae [0]))]] (.v (.bool false))) (U ((lV _):de (.v (.bool false))) (U (bk (.u v.id.round)) (U (bk (.z v.id.server.node)) (U (bk (.u v.id.server.inc)) (U (bk (.ro 2 (procs v.members))) (U (bk (.ro 1 (ae v.ao))) (U (bk (.v (.int .u64 0))) (U (bk (.z v.id.server.node)) (U (bk (.u v.id.server.inc)) (U (b7 (2)) (U (b7 ((procs [v.id.server]).length)) (U ((by simp [b8,bd,ay.row]):bO (procs [v.id.server])=procs [v.id.server]) (U (b7 (1)) (U (b7 ((ae [0]).length)) (U ((by simp [b8,bd,ay.row]):bO (ae [0])=ae [0]) trivial)))))))))))))))))))
   | true=>
    have ur:=of_decide_eq_true h8
    rw [show (DV.v (.bool v.may):DV)=.v (.bool true) from (bv (by first | exact View.kN (by assumption) | exact View.kx (by omega) (eF.kz (by assumption)) (by assumption) | exact View.kD (by omega) (of_decide_eq_true (by assumption)) | exact View.kG (by omega) (by assumption) (by omega) (by omega) (by omega) (by assumption) (by assumption) (Nat.le_refl _) (View.kM (of_decide_eq_false (by assumption))) | exact View.kH (by omega) (by first | (left;assumption) | (right;left;omega) | (right;right;left;omega) | (right;right;right;left;omega) | (right;right;right;right;left;assumption) | (right;right;right;right;right;assumption))))]
    exact aN tk tq hK rfl [(1,[(2,.aM (.v (.bool true)))]),(3,[(3,.b true)]),(4,[(4,.aM (.ag [.v (.int .u64 0),.z v.id.server.node,.u v.id.server.inc,.em 24 2 (procs [v.id.server]),.em 22 1 (ae [0])])),(5,.call [.ag [.u v.id.round,.z v.id.server.node,.u v.id.server.inc,.d (.ro 2 (procs v.members)),.d (.ro 1 (ae v.ao))],.ag [.d (.v (.int .u64 0)),.z v.id.server.node,.u v.id.server.inc,.d (.ro 2 (procs [v.id.server])),.d (.ro 1 (ae [0]))]] (.v (.bool true)))])] 2000 r (by kernel_rfl) (U u0 (U h1 (U (yZ v.id.server) (U ((by have k:=GU v (View.first v.id.server) hb;rw [h8] at k;exact k):al Tryz.prog 57 [.ag [.u v.id.round,.z v.id.server.node,.u v.id.server.inc,.d (.ro 2 (procs v.members)),.d (.ro 1 (ae v.ao))],.ag [.d (.v (.int .u64 0)),.z v.id.server.node,.u v.id.server.inc,.d (.ro 2 (procs [v.id.server])),.d (.ro 1 (ae [0]))]] (.v (.bool true))) (U ((lV _):de (.v (.bool true))) (U (bk (.u v.id.round)) (U (bk (.z v.id.server.node)) (U (bk (.u v.id.server.inc)) (U (bk (.ro 2 (procs v.members))) (U (bk (.ro 1 (ae v.ao))) (U (bk (.v (.int .u64 0))) (U (bk (.z v.id.server.node)) (U (bk (.u v.id.server.inc)) (U (b7 (2)) (U (b7 ((procs [v.id.server]).length)) (U ((by simp [b8,bd,ay.row]):bO (procs [v.id.server])=procs [v.id.server]) (U (b7 (1)) (U (b7 ((ae [0]).length)) (U ((by simp [b8,bd,ay.row]):bO (ae [0])=ae [0]) trivial)))))))))))))))))))
end Go.Proofs.YtgkdnnmcjjabdaaGreat
namespace Go.Proofs.YtgkdnnmcjjabdaaGreat
open Go.RowKit
theorem Pd (l:List (List UInt8)):ng (au 0 l) (l.length+1)=l.length:=by
 unfold ng
 rw [uN fun j t hj ht=>by rw [(lL ht).1];rw [dr] at hj;omega,if_neg (by omega),dr]
theorem Sx {p:ay} {l:List (List UInt8)} {h:Nat} (hp:p.may=true) (hl:eN l) (hh:h≤l.length):al Tryz.prog 64 [.ag [.d (.v (.int .u64 0)),.z p.node,.u p.inc,.d (.ro 2 (procs [p])),.d (.ro 1 (ae [0])),.d (.ro 1 (streams [au 0 l])),.d (.ro 1 (ae [h]))]] (.ag [.v (.int .u64 0),.z p.node,.u p.inc,.em 24 2 (procs [p]),.em 22 1 (ae [0]),.em 111 1 (aQ [au 0 l]),.em 22 1 (ae [h])]):=by
 have k:=Bg vU (fB p l h) (rF hl)
 rw [aA.jH (qk hp hl hh)] at k
 exact k
theorem Ry (p:ay):al Tryz.prog 55 [.ag [.d (.v (.int .u64 0)),.z p.node,.u p.inc,.d (.ro 2 (procs [p])),.d (.ro 1 (ae [0]))],.ag [.z p.node,.u p.inc]] (.tu [.v (.int .i64 ((0:Nat):Int)),.v (.bool true)]):=by
 have k:=Ni (View.first p) p ⟨by simp [View.first],by simp [View.first]⟩
 rw [show lJ (View.first p).members p=0 from (Iy p).1,show lK (View.first p).members p=true from (Iy p).2] at k
 exact k
theorem QC {p:ay} {l:List (List UInt8)} {b:List UInt8} (hl:eN l):al Tryz.prog 65 [.d (.ro 2 (aO (au 0 l))),.fn 66 [.rp [.z p.node,.u p.inc,.u ((l.length+1)),.ro 1 (aj b)] 0]] (.v (.int .i64 ((l.length:Nat):Int))):=by
 have k:=Mh (au 0 l) ⟨p,l.length+1,b⟩ (by rw [dr];have:=hl.1;omega)
 rw [show ng (au 0 l) (fX.mk p (l.length+1) b).n=l.length from Pd l] at k
 exact k
theorem LM (l:List (List UInt8)):bO (bK (au 0 l))=aO (au 0 l):=pC _
theorem Ny (l:List (List UInt8)) (b:List UInt8):bO (aO (au 0 l)++[[.v (.int .u64 ((l.length+1:Nat):Int)),.em 5 1 (aj b)]])=aO (au 0 (l++[b])):=by
 rw [Aw,Nat.zero_add,b8,List.map_append,← b8,pB];simp [bd,b8,Slot.row,aj]
set_option maxRecDepth 100000 in
theorem Sy (p:ay) (l:List (List UInt8)) (b:List UInt8) (hp:p.may=true) (hl:eN l) (lq:l.length<16) (hb:b.length≤64):al Tryz.prog 40 [.ag [.d (.v (.int .u64 0)),.z p.node,.u p.inc,.d (.ro 2 (procs [p])),.d (.ro 1 (ae [0])),.d (.ro 1 (streams [au 0 l])),.d (.ro 1 (ae [l.length]))],.ag [.z p.node,.u p.inc,.u ((l.length+1)),.d (.ro 1 (aj b))]] (.tu [.ag [.v (.int .u64 0),.z p.node,.u p.inc,.em 24 2 (procs [p]),.em 22 1 (ae [0]),.em 111 1 (streams [au 0 (l++[b])]),.em 22 1 (ae [l.length])],.v (.bool true)]):=by
 refine al.intro (by kernel_rfl) rfl rfl 86 rfl rfl fun w0 K ac hK r=>?_
 have gT:=(Sx hp hl (Nat.le_refl _):al Tryz.prog 64 [.ag [.d (.v (.int .u64 0)),.z p.node,.u p.inc,.d (.ro 2 (procs [p])),.d (.ro 1 (ae [0])),.d (.ro 1 (streams [au 0 l])),.d (.ro 1 (ae [l.length]))]] (.ag [.v (.int .u64 0),.z p.node,.u p.inc,.em 24 2 (procs [p]),.em 22 1 (ae [0]),.em 111 1 (aQ [au 0 l]),.em 22 1 (ae [l.length])]))
 have x7:=((by first | exact lV _ | exact de.two _ _):de (.tu [.n 0,.v (.bool true)]))
 have rC:=((by first | exact pB _ | exact pC _ | (simp [b8,bd,ay.row];done)):bO (procs [p])=procs [p])
 have El:=((by first | exact pB _ | exact pC _ | (simp [b8,bd,ay.row];done)):bO (ae [0])=ae [0])
 cases h0:(decide (((((l.length+1):Nat):Int):Int)<1)) with
 | false=>
  have bh:=of_decide_eq_false h0
  cases h1:(decide ((16:Int)<(((l.length+1):Nat):Int))) with
  | false=>
   have bM:=of_decide_eq_false h1
   have Em:=((by simp [aj,bK,dr]):(((aj b).length:Nat):Int)=((b.length:Nat):Int))
   cases h2:(decide ((64:Int)<((b.length:Nat):Int))) with
   | false=>
    have cK:=of_decide_eq_false h2
    refine nk (todo':=aft Tryz.f40 5) (E':=[(3,.pt 1 0),(4,.pt 2 0),(5,.d (.v (.bool false))),(6,.pt 7 0),(7,.n 0),(9,.sl 8 ((bK (au 0 l)).length))]) (M':=[.bx 37 [.d (.v (.int .u64 0)),.z p.node,.u p.inc,.d (.ro 2 (procs [p])),.d (.ro 1 (ae [0])),.d (.ro 1 (streams [au 0 l])),.d (.ro 1 (ae [l.length]))],.bx 94 [.z p.node,.u p.inc,.u ((l.length+1)),.d (.ro 1 (aj b))],.bx 37 [.d (.v (.int .u64 0)),.z 0,.d (.v (.int .u64 0)),.d (.v (.slice none 0 0)),.d (.v (.slice none 0 0)),.d (.v (.slice none 0 0)),.d (.v (.slice none 0 0))],.rw 24 2 (procs [p]),.rw 22 1 (ae [0]),.rw 111 1 (List.set (aQ [au 0 l]) (0) [.jk]),.rw 22 1 (ae [l.length]),.bx 124 [.d (.v (.int .u64 0)),.z p.node,.u p.inc,.sl 3 ((procs [p]).length),.sl 4 ((ae [0]).length),.sl 5 ((aQ [au 0 l]).length),.sl 6 ((ae [l.length]).length)],.rw 113 2 (bK (au 0 l))]) tk tq hK [(1,[(1,.aM (.ag [.v (.int .u64 0),.z p.node,.u p.inc,.em 24 2 (procs [p]),.em 22 1 (ae [0]),.em 111 1 (aQ [au 0 l]),.em 22 1 (ae [l.length])]))]),(2,[(5,.call [.ag [.d (.v (.int .u64 0)),.z p.node,.u p.inc,.d (.ro 2 (procs [p])),.d (.ro 1 (ae [0]))],.ag [.z p.node,.u p.inc]] (.tu [.n 0,.v (.bool true)]))]),(3,[(5,.b false),(10,.b false),(15,.z (((b.length:Nat):Int))),(16,.b false)]),(5,[(4,.n (0)),(6,.ix 0 [.em 113 2 (bK (au 0 l))])])] 13 [0,1,2,3,4,5,6,7,8] [3,4,5,6,7,9] r (by kernel_rfl) (U gT (U (Ry p) (U x7 (U (bk (.v (.int .u64 0))) (U (bk (.z p.node)) (U (bk (.u p.inc)) (U (b7 (2)) (U (b7 ((procs [p]).length)) (U rC (U (b7 (1)) (U (b7 ((ae [0]).length)) (U El (U (bk (.z p.node)) (U (bk (.u p.inc)) (U h0 (U h1 (U Em (U h2 (U (aJ ((0:Nat):Int)) (U ((by first | omega | decide | (simp;done) | (simp;omega)):(0)<((aQ [au 0 l]).length)) (U ((by first | rfl | omega | (simp;done) | (simp [bK,dr];done) | (simp [bK,dr]<;>omega)):((aQ [au 0 l]).length)≤(aQ [au 0 l]).length) (U (rfl:(aQ [au 0 l])[0]?=some [.em 113 2 (bK (au 0 l))]) trivial)))))))))))))))))))))) fun ac wd r=>?_
    have r:=r.freeze (M1:=[.bx 37 [.d (.v (.int .u64 0)),.z p.node,.u p.inc,.d (.ro 2 (procs [p])),.d (.ro 1 (ae [0])),.d (.ro 1 (streams [au 0 l])),.d (.ro 1 (ae [l.length]))],.bx 94 [.z p.node,.u p.inc,.u ((l.length+1)),.d (.ro 1 (aj b))],.bx 37 [.d (.v (.int .u64 0)),.z 0,.d (.v (.int .u64 0)),.d (.v (.slice none 0 0)),.d (.v (.slice none 0 0)),.d (.v (.slice none 0 0)),.d (.v (.slice none 0 0))],.rw 24 2 (procs [p]),.rw 22 1 (ae [0]),.rw 111 1 (List.set (aQ [au 0 l]) (0) [.jk]),.rw 22 1 (ae [l.length]),.bx 124 [.d (.v (.int .u64 0)),.z p.node,.u p.inc,.sl 3 ((procs [p]).length),.sl 4 ((ae [0]).length),.sl 5 ((aQ [au 0 l]).length),.sl 6 ((ae [l.length]).length)],.rw 113 2 (bO (bK (au 0 l)))]) (M2:=[.bx 37 [.d (.v (.int .u64 0)),.z p.node,.u p.inc,.d (.ro 2 (procs [p])),.d (.ro 1 (ae [0])),.d (.ro 1 (streams [au 0 l])),.d (.ro 1 (ae [l.length]))],.bx 94 [.z p.node,.u p.inc,.u ((l.length+1)),.d (.ro 1 (aj b))],.bx 37 [.d (.v (.int .u64 0)),.z 0,.d (.v (.int .u64 0)),.d (.v (.slice none 0 0)),.d (.v (.slice none 0 0)),.d (.v (.slice none 0 0)),.d (.v (.slice none 0 0))],.rw 24 2 (procs [p]),.rw 22 1 (ae [0]),.rw 111 1 (List.set (aQ [au 0 l]) (0) [.jk]),.rw 22 1 (ae [l.length]),.bx 124 [.d (.v (.int .u64 0)),.z p.node,.u p.inc,.sl 3 ((procs [p]).length),.sl 4 ((ae [0]).length),.sl 5 ((aQ [au 0 l]).length),.sl 6 ((ae [l.length]).length)],.rw 113 2 (aO (au 0 l))]) [8] (by kernel_rfl) (by rw [LM])
    have uv:=((by first | rfl | omega | (simp;done) | (simp [bK,dr];done) | (simp [bK,dr]<;>omega)):((bK (au 0 l)).length)=(aO (au 0 l)).length)
    have Ws:=((by first | exact pB _ | exact pC _ | (simp [b8,bd,ay.row];done)):bO (aO (au 0 l))=aO (au 0 l))
    have Wt:=(rfl:[.z p.node,.u p.inc,.u ((l.length+1)),.d (.ro 1 (aj b))]=List.map AV.d [.z p.node,.u p.inc,.u ((l.length+1)),.ro 1 (aj b)])
    have Wu:=((by simp [aj,bK,dr]):(((bK (au 0 l)).length:Nat):Int)=((l.length:Nat):Int))
    have Wv:=((by simp):(decide ((((l.length:Nat):Int):Int)<((l.length:Nat):Int)))=false)
    cases h3:(decide ((((l.length:Nat):Int):Int)<(((bK (au 0 l)).length:Nat):Int))) with
    | false=>
     have fb:=of_decide_eq_false h3
     have nw:=(QC (p:=p) (b:=b) hl)
     have nx:=((by first | exact lV _ | exact de.two _ _):de (.n l.length))
     have kZ:=((by first | rfl | omega | (simp;done) | (simp [bK,dr];done) | (simp [bK,dr]<;>omega)):((bK (au 0 l)).length)=(aO (au 0 l)).length)
     have ny:=((by first | exact pB _ | exact pC _ | (simp [b8,bd,ay.row];done)):bO (aO (au 0 l))=aO (au 0 l))
     have nz:=(rfl:[.z p.node,.u p.inc,.u ((l.length+1)),.d (.ro 1 (aj b))]=List.map AV.d [.z p.node,.u p.inc,.u ((l.length+1)),.ro 1 (aj b)])
     have l7:=((by simp [aj,bK,dr]):(((bK (au 0 l)).length:Nat):Int)=((l.length:Nat):Int))
     have TN:=((by simp):(decide ((((l.length:Nat):Int):Int)<((l.length:Nat):Int)))=false)
     have TO:=(uM b (by omega))
     have TP:=(b7 ((aj b).length))
     have TQ:=((by omega):(((l.length:Nat):Int):Int)=(((bK (au 0 l)).length:Nat):Int))
     have Sz:=((by simp):((((l.length:Nat):Int):Int)==((l.length:Nat):Int))=true)
     have SA:=((by first | rfl | omega | (simp;done) | (simp [bK,dr];done) | (simp [bK,dr]<;>omega)):(1)=([[.u ((l.length+1)),.em 5 1 (aj b)]]:List (List DV)).length)
     have SB:=((by first | omega | (simp [cU];done) | (simp [cU];omega)):(2*(((bK (au 0 l)).length)+(1))+192)*32≤281474976710656)
     have SC:=((by first | omega | (simp [cU];done) | (simp [cU];omega)):((bK (au 0 l)).length)+(1)<4611686018427387904)
     have SD:=((by simp [bY,AV.one,cD,aj]):bY ([[.u ((l.length+1)),.em 5 1 (aj b)]]))
     have SE:=((by first | omega | decide | (simp;done) | (simp;omega)):(0)<((aQ [au 0 l]).length))
     have SF:=((by first | rfl | omega | (simp;done) | (simp [bK,dr];done) | (simp [bK,dr]<;>omega)):((aQ [au 0 l]).length)≤(List.set (aQ [au 0 l]) (0) [.jk]:List (List DV)).length)
     have SG:=(rfl:(List.set (aQ [au 0 l]) (0) [.jk])[0]?=some [.jk])
     have SH:=((by first | rfl | omega | (simp;done) | (simp [bK,dr];done) | (simp [bK,dr]<;>omega)):((bK (au 0 l)).length+(1))=(aO (au 0 l)++[[.u ((l.length+1)),.em 5 1 (aj b)]]:List (List DV)).length)
     refine lI (todo':=aft Tryz.f40 9) (E':=[(4,.pt 2 0),(5,.d (.v (.bool false))),(6,.pt 7 0)]) (M':=[.bx 37 [.d (.v (.int .u64 0)),.z p.node,.u p.inc,.d (.ro 2 (procs [p])),.d (.ro 1 (ae [0])),.d (.ro 1 (streams [au 0 l])),.d (.ro 1 (ae [l.length]))],.bx 94 [.z p.node,.u p.inc,.u ((l.length+1)),.d (.ro 1 (aj b))],.bx 37 [.d (.v (.int .u64 0)),.z 0,.d (.v (.int .u64 0)),.d (.v (.slice none 0 0)),.d (.v (.slice none 0 0)),.d (.v (.slice none 0 0)),.d (.v (.slice none 0 0))],.rw 24 2 (procs [p]),.rw 22 1 (ae [0]),.rw 111 1 (List.set (List.set (aQ [au 0 l]) (0) [.jk]) (0) [.em 113 2 (aO (au 0 l)++[[.u ((l.length+1)),.em 5 1 (aj b)]])]),.rw 22 1 (ae [l.length]),.bx 124 [.d (.v (.int .u64 0)),.z p.node,.u p.inc,.sl 3 ((procs [p]).length),.sl 4 ((ae [0]).length),.sl 5 ((aQ [au 0 l]).length),.sl 6 ((ae [l.length]).length)],.dead,.dead,.dead]) tk tq hK [(6,[(2,.call [.d (.ro 2 (aO (au 0 l))),.fn 66 [.rp [.z p.node,.u p.inc,.u ((l.length+1)),.ro 1 (aj b)] 0]] (.n l.length))]),(7,[(2,.z (((l.length:Nat):Int))),(3,.b false)]),(9,[(10,.aM (.em 5 1 (aj b))),(13,.cg 200 [(1,[(2,.res (.ro 2 []))]),(5,[(1,.z (((l.length:Nat):Int)))]),(6,[(2,.b true)])]),(14,.n (0)),(16,.ix 0 [.jk])])] 8 1 [14] [[0,1,2,3,4,5,6,7,8,9,10]] [4,5,6] r (by kernel_rfl) (U (U nw (U nx (U (b7 (2)) (U kZ (U ny (U (UQ (66)) (U (b7 (0)) (U nz (U l7 (U TN (U TO (U TP (U TQ (U kZ (U l7 (U Sz (U kZ (U SA (U SB (U SC (U SD (U (aJ ((0:Nat):Int)) (U SE (U SF (U SG (U SH trivial)))))))))))))))))))))))))) trivial) fun ac wd r=>?_
     refine nk (todo':=aft Tryz.f40 10) (E':=[(4,.pt 2 0),(5,.d (.v (.bool true)))]) (M':=[.bx 37 [.d (.v (.int .u64 0)),.z p.node,.u p.inc,.d (.ro 2 (procs [p])),.d (.ro 1 (ae [0])),.d (.ro 1 (streams [au 0 l])),.d (.ro 1 (ae [l.length]))],.bx 94 [.z p.node,.u p.inc,.u ((l.length+1)),.d (.ro 1 (aj b))],.bx 37 [.d (.v (.int .u64 0)),.z p.node,.u p.inc,.sl 3 ((procs [p]).length),.sl 4 ((ae [0]).length),.sl 5 ((aQ [au 0 l]).length),.sl 6 ((ae [l.length]).length)],.rw 24 2 (procs [p]),.rw 22 1 (ae [0]),.rw 111 1 (List.set (List.set (aQ [au 0 l]) (0) [.jk]) (0) [.em 113 2 (aO (au 0 l)++[[.u ((l.length+1)),.em 5 1 (aj b)]])]),.rw 22 1 (ae [l.length]),.bx 124 [.d (.v (.int .u64 0)),.z p.node,.u p.inc,.sl 3 ((procs [p]).length),.sl 4 ((ae [0]).length),.sl 5 ((aQ [au 0 l]).length),.sl 6 ((ae [l.length]).length)],.dead,.dead,.dead]) tk tq hK [] 2 [0,1,2,3,4,5,6,7,8,9,10] [4,5] r (by kernel_rfl) trivial fun ac wd r=>?_
     have r:=r.freeze (M1:=[.bx 37 [.d (.v (.int .u64 0)),.z p.node,.u p.inc,.d (.ro 2 (procs [p])),.d (.ro 1 (ae [0])),.d (.ro 1 (streams [au 0 l])),.d (.ro 1 (ae [l.length]))],.bx 94 [.z p.node,.u p.inc,.u ((l.length+1)),.d (.ro 1 (aj b))],.bx 37 [.d (.v (.int .u64 0)),.z p.node,.u p.inc,.sl 3 ((procs [p]).length),.sl 4 ((ae [0]).length),.sl 5 ((aQ [au 0 l]).length),.sl 6 ((ae [l.length]).length)],.rw 24 2 (procs [p]),.rw 22 1 (ae [0]),.rw 111 1 (bO (List.set (List.set (aQ [au 0 l]) (0) [.jk]) (0) [.em 113 2 (aO (au 0 l)++[[.u ((l.length+1)),.em 5 1 (aj b)]])])),.rw 22 1 (ae [l.length]),.bx 124 [.d (.v (.int .u64 0)),.z p.node,.u p.inc,.sl 3 ((procs [p]).length),.sl 4 ((ae [0]).length),.sl 5 ((aQ [au 0 l]).length),.sl 6 ((ae [l.length]).length)],.dead,.dead,.dead]) (M2:=[.bx 37 [.d (.v (.int .u64 0)),.z p.node,.u p.inc,.d (.ro 2 (procs [p])),.d (.ro 1 (ae [0])),.d (.ro 1 (streams [au 0 l])),.d (.ro 1 (ae [l.length]))],.bx 94 [.z p.node,.u p.inc,.u ((l.length+1)),.d (.ro 1 (aj b))],.bx 37 [.d (.v (.int .u64 0)),.z p.node,.u p.inc,.sl 3 ((procs [p]).length),.sl 4 ((ae [0]).length),.sl 5 ((aQ [au 0 l]).length),.sl 6 ((ae [l.length]).length)],.rw 24 2 (procs [p]),.rw 22 1 (ae [0]),.rw 111 1 (streams [au 0 (l++[b])]),.rw 22 1 (ae [l.length]),.bx 124 [.d (.v (.int .u64 0)),.z p.node,.u p.inc,.sl 3 ((procs [p]).length),.sl 4 ((ae [0]).length),.sl 5 ((aQ [au 0 l]).length),.sl 6 ((ae [l.length]).length)],.dead,.dead,.dead]) [5] (by kernel_rfl) (by rw [Nm (Ny l b)];rfl)
     rw [show (.tu [.ag [.v (.int .u64 0),.z p.node,.u p.inc,.em 24 2 (procs [p]),.em 22 1 (ae [0]),.em 111 1 (streams [au 0 (l++[b])]),.em 22 1 (ae [l.length])],.v (.bool true)]:DV)=.tu [.ag [.v (.int .u64 0),.z p.node,.u p.inc,.em 24 2 (procs [p]),.em 22 1 (ae [0]),.em 111 1 (streams [au 0 (l++[b])]),.em 22 1 (ae [l.length])],.v (.bool true)] from rfl]
     exact aN tk tq hK rfl [] 2000 r (by kernel_rfl) (U (b7 ((procs [p]).length)) (U (b7 ((ae [0]).length)) (U ((by first | rfl | omega | (simp;done) | (simp [bK,dr];done) | (simp [bK,dr]<;>omega)):((aQ [au 0 l]).length)=(streams [au 0 (l++[b])]:List (List DV)).length) (U (b7 ((ae [l.length]).length)) trivial))))
    | true=>
     have fb:=of_decide_eq_true h3
     exact absurd fb (by first | omega | simp [bK,dr])
   | true=>
    have cK:=of_decide_eq_true h2
    exact absurd cK (by first | omega | simp [bK,dr])
  | true=>
   have bM:=of_decide_eq_true h1
   exact absurd bM (by first | omega | simp [bK,dr])
 | true=>
  have bh:=of_decide_eq_true h0
  exact absurd bh (by first | omega | simp [bK,dr])
end Go.Proofs.YtgkdnnmcjjabdaaGreat
namespace Go.Proofs.YtgkdnnmcjjabdaaGreat
open Go.RowKit
theorem al.bd {P:Program} {f:FuncId} {args:List AV} {x:DV} (h:al P f args x):al P f args (bd x):=by
 refine ⟨h.1,fun w K ys hK hl hr=>(h.2 w K ys hK hl hr).mono ?_⟩
 rintro ed w' ⟨v,rfl,g,H,⟨Ho,Hi,rfl,hd⟩,n⟩
 exact ⟨_,rfl,g,_,⟨[],Ho++Hi,rfl,vD hd fun w hw=>⟨⟨hw.1,(ai.app.1 hw.2).2⟩,(ai.app.1 hw.2).1⟩⟩,n⟩
theorem al.sub {P:Program} {f:FuncId} {args wS:List AV} {x:DV} (h:al P f args x) (hl:wS.length=args.length) (e:∀ (K:World→Prop) (j:Nat) c c' y,args[j]?=some c→wS[j]?=some c'→aq K [] c' y→aq K [] c y):al P f wS x:=by
 refine ⟨h.1,fun w K ys hK hy hr=>h.2 w K ys hK (by omega) fun j c y h1 h2=>?_⟩
 have hj:j<wS.length:=by rw [hl];exact (List.getElem?_eq_some_iff.1 h1).1
 have e1:=List.getElem?_eq_getElem hj
 exact e _ j c _ y h1 e1 (hr j _ y e1 h2)
theorem aq.le {K:World→Prop} {x x':DV} {y:Value} (e:Le x x') (h:aq K [] (.d x) y):aq K [] (.d x') y:=by
 cases h with | d h=>exact .d (e _ _ _ h)
theorem lr (l:List ay):bO (procs l)=procs l:=by simp [b8,bd,ay.row]
theorem kA (l:List Nat):bO (ae l)=ae l:=by simp [b8,bd]
theorem yB (l:List UInt8):bO (aj l)=aj l:=by simp [b8,bd,aj]
theorem mK (l:List (List Slot)):bO (streams l)=streams l:=by simp [b8,bd]
theorem Fh (l:List fX):bO (dK l)=msgs l:=by
 unfold dK msgs;rw [b8,List.map_map];apply List.map_congr_left;intro m _;simp [bd,yB,fX.row]
theorem SI (p:ay) (l:List (List UInt8)) (b:List UInt8) (hp:p.may=true) (hl:eN l) (lq:l.length<16) (hb:b.length≤64):al Tryz.prog 40 [.ag [.d (.v (.int .u64 0)),.z p.node,.u p.inc,.d (.ro 2 (procs [p])),.d (.ro 1 (ae [0])),.d (.ro 1 (streams [au 0 l])),.d (.ro 1 (ae [l.length]))],.ag [.z p.node,.u p.inc,.u ((l.length+1)),.d (.ro 1 (aj b))]] (.tu [.ag [.v (.int .u64 0),.z p.node,.u p.inc,.ro 2 (procs [p]),.ro 1 (ae [0]),.ro 1 (streams [au 0 (l++[b])]),.ro 1 (ae [l.length])],.v (.bool true)]):=by
 have h:=(Sy p l b hp hl lq hb).bd
 simp only [bd,ir,lr,kA,mK] at h
 exact h
theorem SJ (p:ay) (l:List (List UInt8)) (b:List UInt8) (hp:p.may=true) (hl:eN (l++[b])):al Tryz.prog 44 [.ag [.d (.v (.int .u64 0)),.z p.node,.u p.inc,.d (.ro 2 (procs [p])),.d (.ro 1 (ae [0])),.d (.ro 1 (streams [au 0 (l++[b])])),.d (.ro 1 (ae [l.length]))],.d (.v (.slice none 0 0))] (.tu [.ag [.v (.int .u64 0),.z p.node,.u p.inc,.ro 2 (procs [p]),.ro 1 (ae [0]),.ro 1 (streams [au 0 (l++[b])]),.ro 1 (ae [(l++[b]).length])],.ro 4 (msgs [⟨p,l.length+1,b⟩])]):=by
 have h:=Ix vU (fB p (l++[b]) l.length) [] (rF hl) (by simp)
 rw [Qm hp hl (by simp),Qn hp hl] at h
 have h:=h.bd
 simp only [bd,ir,lr,kA,mK,Fh,aA.half] at h
 have h:al Tryz.prog 44 [.ag [.d (.v (.int .u64 0)),.z p.node,.u p.inc,.d (.ro 2 (procs [p])),.d (.ro 1 (ae [0])),.d (.ro 1 (streams [au 0 (l++[b])])),.d (.ro 1 (ae [l.length]))],.d (.ro 1 (ae []))] (.tu [.ag [.v (.int .u64 0),.z p.node,.u p.inc,.ro 2 (procs [p]),.ro 1 (ae [0]),.ro 1 (streams [au 0 (l++[b])]),.ro 1 (ae [(l++[b]).length])],.ro 4 (msgs [⟨p,l.length+1,b⟩])]):=h
 refine (h.sub rfl fun K j c c' y h1 h2 r=>?_)
 match j with
 | 0=>simp at h1 h2;subst h1 h2;exact r
 | 1=>simp at h1 h2;subst h1 h2;exact aq.le (Le.wL 1) r
 | j+2=>simp at h1
theorem SK (p:ay) (l:List (List UInt8)) (hp:p.may=true) (hl:eN l):al Tryz.prog 44 [.ag [.d (.v (.int .u64 0)),.z p.node,.u p.inc,.d (.ro 2 (procs [p])),.d (.ro 1 (ae [0])),.d (.ro 1 (streams [au 0 l])),.d (.ro 1 (ae [l.length]))],.d (.ro 1 (ae [l.length]))] (.tu [.ag [.v (.int .u64 0),.z p.node,.u p.inc,.ro 2 (procs [p]),.ro 1 (ae [0]),.ro 1 (streams [au 0 l]),.ro 1 (ae [l.length])],.ro 4 (msgs [])]):=by
 have h:=Ix vU (fB p l l.length) [l.length] (rF hl) (by simp)
 rw [O7 hp hl,Qo hp hl] at h
 have h:=h.bd
 simp only [bd,ir,lr,kA,mK,Fh,aA.half] at h
 exact h
theorem QD (p:ay) (l:List (List UInt8)) (hp:p.may=true) (hl:eN l):al Tryz.prog 45 [.ag [.d (.v (.int .u64 0)),.z p.node,.u p.inc,.d (.ro 2 (procs [p])),.d (.ro 1 (ae [0])),.d (.ro 1 (streams [au 0 l])),.d (.ro 1 (ae [l.length]))]] (.ro 1 (ae [l.length])):=by
 have h:=O5 vU (fB p l l.length) (rF hl)
 rw [Nl hp hl] at h
 have h:=h.bd
 simp only [bd,kA] at h
 exact h
theorem wx (l:List ay) (hb:l.length<2147483648):al Tryz.prog 27 [.d (.ro 2 (procs l))] (.ro 2 (procs l)):=by have h:=(yL l hb).bd;simp only [bd,lr] at h;exact h
theorem sk (l:List Nat) (hb:l.length<2147483648):al Tryz.prog 37 [.d (.ro 1 (ae l))] (.ro 1 (ae l)):=by have h:=(FT l hb).bd;simp only [bd,kA] at h;exact h
theorem ow (l:List UInt8) (hb:l.length<2147483648):al Tryz.prog 18 [.d (.ro 1 (aj l))] (.ro 1 (aj l)):=by have h:=(uM l hb).bd;simp only [bd,yB] at h;exact h
structure xF where
 kind:Int
 src:ay
 vw:eF
 n:Nat
 aF:Nat
 cut:List Nat
set_option maxRecDepth 100000 in
theorem Rz :al Tryz.prog 63 [.d (.v (.slice none 0 0))] (.v (.slice none 0 0)):=by
 refine al.intro (by kernel_rfl) rfl rfl 8 rfl rfl fun w0 K ac hK r=>?_
 exact aN tk tq hK rfl [] 2000 r (by kernel_rfl) trivial
end Go.Proofs.YtgkdnnmcjjabdaaGreat
namespace Go.Proofs.YtgkdnnmcjjabdaaGreat
open Go.RowKit
set_option maxRecDepth 100000 in
theorem QE (x:xF) (hb:x.cut.length<2147483648):al Tryz.prog 22 [.ag [.z x.kind,.z x.src.node,.u x.src.inc,.u x.vw.round,.z x.vw.server.node,.u x.vw.server.inc,.u x.n,.d (.v (.slice none 0 0)),.u x.aF,.d (.ro 1 (ae x.cut)),.d (.v (.bool false))]] (.ag [.z x.kind,.z x.src.node,.u x.src.inc,.u x.vw.round,.z x.vw.server.node,.u x.vw.server.inc,.u x.n,.v (.slice none 0 0),.u x.aF,.ro 1 (ae x.cut),.v (.bool false)]):=by
 refine al.intro (by kernel_rfl) rfl rfl 12 rfl rfl fun w0 K ac hK r=>?_
 rw [show (.ag [.z x.kind,.z x.src.node,.u x.src.inc,.u x.vw.round,.z x.vw.server.node,.u x.vw.server.inc,.u x.n,.v (.slice none 0 0),.u x.aF,.ro 1 (ae x.cut),.v (.bool false)]:DV)=.ag [.z x.kind,.z x.src.node,.u x.src.inc,.u x.vw.round,.z x.vw.server.node,.u x.vw.server.inc,.u x.n,.v (.slice none 0 0),.u x.aF,.ro 1 (ae x.cut),.v (.bool false)] from rfl]
 exact aN tk tq hK rfl [(1,[(2,.cg 200 [(1,[(1,.aM (.v (.slice none 0 0)))])])]),(2,[(2,.aM (.ro 1 (ae x.cut)))])] 2000 r (by kernel_rfl) (U (x9 0) (U (sk x.cut (by first | assumption | omega | (simp;done))) trivial))
set_option maxRecDepth 100000 in
theorem Pe :al Tryz.prog 22 [.ag [.z 0,.z 0,.d (.v (.int .u64 0)),.d (.v (.int .u64 0)),.z 0,.d (.v (.int .u64 0)),.d (.v (.int .u64 0)),.d (.v (.slice none 0 0)),.d (.v (.int .u64 0)),.d (.ro 1 ([])),.d (.v (.bool false))]] (.ag [.z 0,.z 0,.v (.int .u64 0),.v (.int .u64 0),.z 0,.v (.int .u64 0),.v (.int .u64 0),.v (.slice none 0 0),.v (.int .u64 0),.ro 1 ([]),.v (.bool false)]):=by
 refine al.intro (by kernel_rfl) rfl rfl 12 rfl rfl fun w0 K ac hK r=>?_
 rw [show (.ag [.z 0,.z 0,.v (.int .u64 0),.v (.int .u64 0),.z 0,.v (.int .u64 0),.v (.int .u64 0),.v (.slice none 0 0),.v (.int .u64 0),.ro 1 ([]),.v (.bool false)]:DV)=.ag [.z 0,.z 0,.v (.int .u64 0),.v (.int .u64 0),.z 0,.v (.int .u64 0),.v (.int .u64 0),.v (.slice none 0 0),.v (.int .u64 0),.ro 1 ([]),.v (.bool false)] from rfl]
 exact aN tk tq hK rfl [(1,[(2,.cg 200 [(1,[(1,.aM (.v (.slice none 0 0)))])])]),(2,[(2,.aM (.ro 1 ([])))])] 2000 r (by kernel_rfl) (U (x9 0) (U (sk [] (by simp)) trivial))
set_option maxRecDepth 100000 in
theorem G5 :al Tryz.prog 39 [.d (.v (.slice none 0 0))] (.v (.slice none 0 0)):=by
 refine al.intro (by kernel_rfl) rfl rfl 21 rfl rfl fun w0 K ac hK r=>?_
 refine bD (todo':=hd Tryz.f39 0) (E':=[(0,.d (.v (.slice none 0 0))),(7,.d (.v (.slice none 0 0))),(8,.z 0),(9,.z 0)]) (M':=[]) tk tq hK [(1,[(1,.aM (.v (.slice none 0 0)))])] 2000 [] [0,7,8,9] r (by kernel_rfl) (U (Rz) trivial) fun ac wd r=>?_
 refine aG.rounds (Φ:=fun (i:Nat) ac wd=>(True)∧dj [] w0 K 21 [(0,.d (.v (.slice none 0 0))),(7,.d (.v (.slice none 0 0))),(8,.z 0),(9,.z 0)] [] ac wd) (0) ?_ (Nat.zero_le _) ⟨trivial,r⟩
 clear r
 rintro i eX b9 ac wd ⟨aT,r⟩
 rw [show (.v (.slice none 0 0):DV)=.v (.slice none 0 0) from rfl]
 exact aN tk tq hK rfl [] 2000 r (by kernel_rfl) trivial
set_option maxRecDepth 100000 in
theorem RA (v:View) (h1:v.members.length<2147483648) (h2:v.ao.length<2147483648):al Tryz.prog 36 [.ag [.u v.id.round,.z v.id.server.node,.u v.id.server.inc,.d (.ro 2 (procs v.members)),.d (.ro 1 (ae v.ao))]] (.ag [.u v.id.round,.z v.id.server.node,.u v.id.server.inc,.ro 2 (procs v.members),.ro 1 (ae v.ao)]):=by
 refine al.intro (by kernel_rfl) rfl rfl 12 rfl rfl fun w0 K ac hK r=>?_
 rw [show (.ag [.u v.id.round,.z v.id.server.node,.u v.id.server.inc,.ro 2 (procs v.members),.ro 1 (ae v.ao)]:DV)=.ag [.u v.id.round,.z v.id.server.node,.u v.id.server.inc,.ro 2 (procs v.members),.ro 1 (ae v.ao)] from rfl]
 exact aN tk tq hK rfl [(1,[(2,.aM (.ro 2 (procs v.members)))]),(2,[(2,.aM (.ro 1 (ae v.ao)))])] 2000 r (by kernel_rfl) (U (wx v.members (by first | assumption | omega | (simp;done))) (U (sk v.ao (by first | assumption | omega | (simp;done))) trivial))
set_option maxRecDepth 100000 in
theorem QF :al Tryz.prog 36 [.ag [.d (.v (.int .u64 0)),.z 0,.d (.v (.int .u64 0)),.d (.ro 2 ([])),.d (.ro 1 ([]))]] (.ag [.v (.int .u64 0),.z 0,.v (.int .u64 0),.ro 2 ([]),.ro 1 ([])]):=by
 refine al.intro (by kernel_rfl) rfl rfl 12 rfl rfl fun w0 K ac hK r=>?_
 rw [show (.ag [.v (.int .u64 0),.z 0,.v (.int .u64 0),.ro 2 ([]),.ro 1 ([])]:DV)=.ag [.v (.int .u64 0),.z 0,.v (.int .u64 0),.ro 2 ([]),.ro 1 ([])] from rfl]
 exact aN tk tq hK rfl [(1,[(2,.aM (.ro 2 ([])))]),(2,[(2,.aM (.ro 1 ([])))])] 2000 r (by kernel_rfl) (U (wx [] (by simp)) (U (sk [] (by simp)) trivial))
set_option maxRecDepth 100000 in
theorem Lb (l:List Slot) (h0:0<l.length) (hb:l.length<1000000):al Tryz.prog 62 [.d (.ro 2 (aO l))] (DV.em 113 2 (aO l)):=by
 refine al.intro (by kernel_rfl) rfl rfl 8 rfl rfl fun w0 K ac hK r=>?_
 rw [show (DV.em 113 2 (aO l):DV)=.em 113 2 ([]++(aO l)) from rfl]
 exact aN tk tq hK rfl [] 2000 r (by kernel_rfl) (U ((by simpa using h0):0<(aO l).length) (U ((by simp):(0)=([]:List (List DV)).length) (U ((by simp;omega):(2*((0)+(aO l).length)+192)*32≤281474976710656) (U ((by simp;omega):(0)+(aO l).length<4611686018427387904) (U ((by simp [bY,AV.one,cD,Slot.row]):bY (aO l)) (U ((by simp):(0+(aO l).length)=([]++(aO l):List (List DV)).length) trivial))))))
set_option maxRecDepth 100000 in
theorem Lc (c:Nat):al Tryz.prog 62 [.d (.v (.slice none 0 c))] (DV.v (.slice none 0 0)):=by
 refine al.intro (by kernel_rfl) rfl rfl 8 rfl rfl fun w0 K ac hK r=>?_
 exact aN tk tq hK rfl [] 2000 r (by kernel_rfl) trivial
set_option maxRecDepth 100000 in
theorem Lo (a:Addr) (c:Nat):al Tryz.prog 62 [.d (.v (.slice (some a) 0 c))] (DV.em 113 2 ([]++[])):=by
 refine al.intro (by kernel_rfl) rfl rfl 8 rfl rfl fun w0 K ac hK r=>?_
 exact aN tk tq hK rfl [] 2000 r (by kernel_rfl) (U ((by simp):(0)=([]:List (List DV)).length) (U ((by simp):(2*((0)+0)+192)*32≤281474976710656) (U ((by simp):(0)+0<4611686018427387904) (U ((by simp [bY]):bY (([]:List (List DV)))) (U ((by simp):(0+0)=([]++([]:List (List DV)):List (List DV)).length) trivial)))))
theorem Mn (l:List Slot) (hb:l.length<1000000):al Tryz.prog 62 [.d (.ro 2 (aO l))] (.em 113 2 (aO l)):=by
 cases l with
 | nil=>
  refine al.empty (pre:=[]) (post:=[]) fun a c=>?_
  cases a with
  | none=>exact al.nil 113 2 (Lc c)
  | some a=>exact Lo a c
 | cons b l=>exact Lb (b::l) (by simp) hb
set_option maxRecDepth 100000 in
theorem Ld (l:List (List Slot)) (h0:0<l.length) (hb:l.length<1000000):al Tryz.prog 61 [.d (.ro 1 (streams l))] (DV.em 111 1 (streams l)):=by
 refine al.intro (by kernel_rfl) rfl rfl 8 rfl rfl fun w0 K ac hK r=>?_
 rw [show (DV.em 111 1 (streams l):DV)=.em 111 1 ([]++(streams l)) from rfl]
 exact aN tk tq hK rfl [] 2000 r (by kernel_rfl) (U ((by simpa using h0):0<(streams l).length) (U ((by simp):(0)=([]:List (List DV)).length) (U ((by simp;omega):(2*((0)+(streams l).length)+192)*24≤281474976710656) (U ((by simp;omega):(0)+(streams l).length<4611686018427387904) (U ((by simp [bY,AV.one,cD,Slot.row]):bY (streams l)) (U ((by simp):(0+(streams l).length)=([]++(streams l):List (List DV)).length) trivial))))))
set_option maxRecDepth 100000 in
theorem Lf (c:Nat):al Tryz.prog 61 [.d (.v (.slice none 0 c))] (DV.v (.slice none 0 0)):=by
 refine al.intro (by kernel_rfl) rfl rfl 8 rfl rfl fun w0 K ac hK r=>?_
 exact aN tk tq hK rfl [] 2000 r (by kernel_rfl) trivial
set_option maxRecDepth 100000 in
theorem Lp (a:Addr) (c:Nat):al Tryz.prog 61 [.d (.v (.slice (some a) 0 c))] (DV.em 111 1 ([]++[])):=by
 refine al.intro (by kernel_rfl) rfl rfl 8 rfl rfl fun w0 K ac hK r=>?_
 exact aN tk tq hK rfl [] 2000 r (by kernel_rfl) (U ((by simp):(0)=([]:List (List DV)).length) (U ((by simp):(2*((0)+0)+192)*24≤281474976710656) (U ((by simp):(0)+0<4611686018427387904) (U ((by simp [bY]):bY (([]:List (List DV)))) (U ((by simp):(0+0)=([]++([]:List (List DV)):List (List DV)).length) trivial)))))
theorem Mo (l:List (List Slot)) (hb:l.length<1000000):al Tryz.prog 61 [.d (.ro 1 (streams l))] (.em 111 1 (streams l)):=by
 cases l with
 | nil=>
  refine al.empty (pre:=[]) (post:=[]) fun a c=>?_
  cases a with
  | none=>exact al.nil 111 1 (Lf c)
  | some a=>exact Lp a c
 | cons b l=>exact Ld (b::l) (by simp) hb
theorem G6 {α:Type} {l:List α} {i:Nat} {a:α} (h:l[i]?=some a):l.set i a=l:=by
 apply List.ext_getElem?;intro k
 rw [List.getElem?_set];split
 ·rename_i e;subst e;rw [if_pos (List.getElem?_eq_some_iff.1 h).1];exact h.symm
 ·rfl
theorem Nz {L:List (List Slot)} {i:Nat} {s:List Slot} (h:L[i]?=some s):bO ((streams L).set i [.em 113 2 (aO s)])=streams L:=by
 rw [b8,List.map_set,← b8,mK,show List.map bd [DV.em 113 2 (aO s)]=[.ro 2 (aO s)] by simp [bd,pB]]
 exact G6 (jd h)
def aA.short (f:aA):Prop:=f.view.members.length<1000∧f.view.ao.length<1000∧f.streams.length<1000∧f.az.length<1000∧∀ l ∈ f.streams,l.length<1000∧∀ x ∈ l,x.body.length<1000
set_option maxRecDepth 100000 in
theorem QG (f:aA) (hb:f.short):al Tryz.prog 38 [.ag [.u f.view.id.round,.z f.view.id.server.node,.u f.view.id.server.inc,.d (.ro 2 (procs f.view.members)),.d (.ro 1 (ae f.view.ao)),.d (.ro 1 (streams f.streams)),.d (.ro 1 (ae f.az))]] (.ag [.u f.view.id.round,.z f.view.id.server.node,.u f.view.id.server.inc,.ro 2 (procs f.view.members),.ro 1 (ae f.view.ao),.em 111 1 (streams f.streams),.ro 1 (ae f.az)]):=by
 obtain ⟨h1,h2,h3,h4,h5⟩:=hb
 refine al.intro (by kernel_rfl) rfl rfl 55 rfl rfl fun w0 K ac hK r=>?_
 refine bD (todo':=hd Tryz.f38 0) (E':=[(1,.pt 0 0),(2,.pt 1 0),(20,.sl 2 ((streams f.streams).length)),(21,.n f.streams.length),(22,.n 0)]) (M':=[.bx 37 [.u f.view.id.round,.z f.view.id.server.node,.u f.view.id.server.inc,.d (.ro 2 (procs f.view.members)),.d (.ro 1 (ae f.view.ao)),.sl 2 ((streams f.streams).length),.d (.ro 1 (ae f.az))],.bx 37 [.d (.v (.int .u64 0)),.z 0,.d (.v (.int .u64 0)),.d (.v (.slice none 0 0)),.d (.v (.slice none 0 0)),.d (.v (.slice none 0 0)),.d (.v (.slice none 0 0))],.rw 111 1 (streams f.streams)]) tk tq hK [(1,[(2,.aM (.ag [.u f.view.id.round,.z f.view.id.server.node,.u f.view.id.server.inc,.ro 2 (procs f.view.members),.ro 1 (ae f.view.ao)]))]),(2,[(2,.aM (.ro 1 (ae f.az)))]),(3,[(2,.aM (.em 111 1 (streams f.streams)))]),(4,[(2,.z (((f.streams.length:Nat):Int)))])] 2000 [0,1,2] [1,2,20,21,22] r (by kernel_rfl) (U (RA f.view (by omega) (by omega)) (U (sk f.az (by first | assumption | omega | (simp;done))) (U (Mo f.streams (by omega)) (U ((by simp [aj]):(((streams f.streams).length:Nat):Int)=((f.streams.length:Nat):Int)) trivial)))) fun ac wd r=>?_
 refine aG.rounds (Φ:=fun (i:Nat) ac wd=>(i≤f.streams.length)∧dj [] w0 K 55 [(1,.pt 0 0),(2,.pt 1 0),(20,.sl 2 ((streams f.streams).length)),(21,.n f.streams.length),(22,.n i)] [.bx 37 [.u f.view.id.round,.z f.view.id.server.node,.u f.view.id.server.inc,.d (.ro 2 (procs f.view.members)),.d (.ro 1 (ae f.view.ao)),.sl 2 ((streams f.streams).length),.d (.ro 1 (ae f.az))],.bx 37 [.d (.v (.int .u64 0)),.z 0,.d (.v (.int .u64 0)),.d (.v (.slice none 0 0)),.d (.v (.slice none 0 0)),.d (.v (.slice none 0 0)),.d (.v (.slice none 0 0))],.rw 111 1 (streams f.streams)] ac wd) (f.streams.length) ?_ (Nat.zero_le _) ⟨(Nat.zero_le _),r⟩
 clear r
 rintro i eX b9 ac wd ⟨aT,r⟩
 cases h0:(decide ((((i:Nat):Int):Int)<((f.streams.length:Nat):Int))) with
 | false=>
  have bh:=of_decide_eq_false h0
  rw [show (.ag [.u f.view.id.round,.z f.view.id.server.node,.u f.view.id.server.inc,.ro 2 (procs f.view.members),.ro 1 (ae f.view.ao),.em 111 1 (streams f.streams),.ro 1 (ae f.az)]:DV)=.ag [.u f.view.id.round,.z f.view.id.server.node,.u f.view.id.server.inc,.ro 2 (procs f.view.members),.ro 1 (ae f.view.ao),.em 111 1 (streams f.streams),.ro 1 (ae f.az)] from rfl]
  exact aN tk tq hK rfl [(5,[(0,.b false)])] 2000 r (by kernel_rfl) (U h0 (U (b7 ((streams f.streams).length)) trivial))
 | true=>
  have bh:=of_decide_eq_true h0
  obtain ⟨aV,cL⟩:∃ x,f.streams[i]?=some x:=⟨_,List.getElem?_eq_getElem (by omega)⟩
  obtain ⟨h6,h7⟩:=h5 _ (List.mem_of_getElem? cL)
  refine bD (todo':=hd Tryz.f38 1) (E':=[(1,.pt 0 0),(2,.pt 1 0),(20,.sl 2 ((streams f.streams).length)),(21,.n f.streams.length),(22,.n i),(3,.n i),(4,.pt 3 0),(32,.sl 4 ((aO aV).length)),(33,.n aV.length),(34,.z 0)]) (M':=[.bx 37 [.u f.view.id.round,.z f.view.id.server.node,.u f.view.id.server.inc,.d (.ro 2 (procs f.view.members)),.d (.ro 1 (ae f.view.ao)),.sl 2 ((streams f.streams).length),.d (.ro 1 (ae f.az))],.bx 37 [.d (.v (.int .u64 0)),.z 0,.d (.v (.int .u64 0)),.d (.v (.slice none 0 0)),.d (.v (.slice none 0 0)),.d (.v (.slice none 0 0)),.d (.v (.slice none 0 0))],.rw 111 1 (streams f.streams),.bx 111 [.sl 4 ((aO aV).length)],.rw 113 2 (aO aV)]) tk tq hK [(5,[(0,.b true)]),(6,[(1,.n (i)),(2,.ix 0 [.ro 2 (aO aV)])]),(7,[(2,.aM (.em 113 2 (aO aV)))]),(8,[(2,.z (((aV.length:Nat):Int)))])] 2000 [0,1,2,3,4] [1,2,20,21,22,3,4,32,33,34] r (by kernel_rfl) (U h0 (U (aJ ((i:Nat):Int)) (U ((by first | omega | decide | (simp;done) | (simp;omega)):(i)<((streams f.streams).length)) (U ((by first | rfl | (simp;done) | (simp<;>omega)):((streams f.streams).length)≤(streams f.streams).length) (U (jd cL) (U (Mn aV (by omega)) (U ((by simp [aj]):(((aO aV).length:Nat):Int)=((aV.length:Nat):Int)) trivial))))))) fun ac wd r=>?_
  refine aG.rounds (Φ:=fun (k:Nat) ac wd=>(k≤aV.length)∧dj [] w0 K 55 [(1,.pt 0 0),(2,.pt 1 0),(20,.sl 2 ((streams f.streams).length)),(21,.n f.streams.length),(22,.n i),(3,.n i),(4,.pt 3 0),(32,.sl 4 ((aO aV).length)),(33,.n aV.length),(34,.n k)] [.bx 37 [.u f.view.id.round,.z f.view.id.server.node,.u f.view.id.server.inc,.d (.ro 2 (procs f.view.members)),.d (.ro 1 (ae f.view.ao)),.sl 2 ((streams f.streams).length),.d (.ro 1 (ae f.az))],.bx 37 [.d (.v (.int .u64 0)),.z 0,.d (.v (.int .u64 0)),.d (.v (.slice none 0 0)),.d (.v (.slice none 0 0)),.d (.v (.slice none 0 0)),.d (.v (.slice none 0 0))],.rw 111 1 (streams f.streams),.bx 111 [.sl 4 ((aO aV).length)],.rw 113 2 (aO aV)] ac wd) (aV.length) ?_ (Nat.zero_le _) ⟨(Nat.zero_le _),(r).cast (by first | rfl | simp) (by first | rfl | simp)⟩
  clear r
  rintro k fp fP ac wd ⟨cN,r⟩
  cases h1:(decide ((((k:Nat):Int):Int)<((aV.length:Nat):Int))) with
  | false=>
   have bM:=of_decide_eq_false h1
   refine nk (todo':=aft Tryz.f38 13) (E':=[(1,.pt 0 0),(2,.pt 1 0),(20,.sl 2 ((streams f.streams).length)),(21,.n f.streams.length),(22,.n i),(3,.n i),(4,.pt 3 0),(32,.sl 4 ((aO aV).length)),(33,.n aV.length),(34,.n k),(35,.d (.v (.bool false))),(48,.pt 0 5),(49,.sl 2 ((streams f.streams).length)),(50,.n i),(51,.ag [.sl 4 ((aO aV).length)]),(52,.ep 2 1 (i) 0)]) (M':=[.bx 37 [.u f.view.id.round,.z f.view.id.server.node,.u f.view.id.server.inc,.d (.ro 2 (procs f.view.members)),.d (.ro 1 (ae f.view.ao)),.sl 2 ((streams f.streams).length),.d (.ro 1 (ae f.az))],.bx 37 [.d (.v (.int .u64 0)),.z 0,.d (.v (.int .u64 0)),.d (.v (.slice none 0 0)),.d (.v (.slice none 0 0)),.d (.v (.slice none 0 0)),.d (.v (.slice none 0 0))],.rw 111 1 (List.set (streams f.streams) (i) [.em 113 2 (aO aV)]),.bx 111 [.sl 4 ((aO aV).length)],.dead]) tk tq hK [(9,[(0,.b false)]),(13,[(4,.n (i)),(5,.ix 0 [.ro 2 (aO aV)])])] 6 [0,1,2,3,4] [1,2,20,21,22,3,4,32,33,34,35,48,49,50,51,52] r (by kernel_rfl) (U h1 (U (aJ ((i:Nat):Int)) (U ((by first | omega | decide | (simp;done) | (simp;omega)):(i)<((streams f.streams).length)) (U ((by first | rfl | (simp;done) | (simp<;>omega)):((streams f.streams).length)≤(streams f.streams).length) (U (jd cL) (U (b7 ((aO aV).length)) trivial)))))) fun ac wd r=>?_
   have r:=r.freeze (M1:=[.bx 37 [.u f.view.id.round,.z f.view.id.server.node,.u f.view.id.server.inc,.d (.ro 2 (procs f.view.members)),.d (.ro 1 (ae f.view.ao)),.sl 2 ((streams f.streams).length),.d (.ro 1 (ae f.az))],.bx 37 [.d (.v (.int .u64 0)),.z 0,.d (.v (.int .u64 0)),.d (.v (.slice none 0 0)),.d (.v (.slice none 0 0)),.d (.v (.slice none 0 0)),.d (.v (.slice none 0 0))],.rw 111 1 (bO (List.set (streams f.streams) (i) [.em 113 2 (aO aV)])),.bx 111 [.sl 4 ((aO aV).length)],.dead]) (M2:=[.bx 37 [.u f.view.id.round,.z f.view.id.server.node,.u f.view.id.server.inc,.d (.ro 2 (procs f.view.members)),.d (.ro 1 (ae f.view.ao)),.sl 2 ((streams f.streams).length),.d (.ro 1 (ae f.az))],.bx 37 [.d (.v (.int .u64 0)),.z 0,.d (.v (.int .u64 0)),.d (.v (.slice none 0 0)),.d (.v (.slice none 0 0)),.d (.v (.slice none 0 0)),.d (.v (.slice none 0 0))],.rw 111 1 (streams f.streams),.bx 111 [.sl 4 ((aO aV).length)],.dead]) [2] (by kernel_rfl) (by rw [Nz cL])
   exact bD (todo':=hd Tryz.f38 0) tk tq hK [(14,[(0,.z (((i+1:Nat):Int)))])] 2000 [0,1,2] [1,2,20,21,22] r (by kernel_rfl) (U ((wi (by omega)):IntKind.i64.wrap ((((i:Nat):Int):Int)+1)=((i+1:Nat):Int)) trivial) fun ac wd r=>b9 (by omega) ac wd ⟨(by omega),r⟩
  | true=>
   have bM:=of_decide_eq_true h1
   obtain ⟨bV,cO⟩:∃ x,aV[k]?=some x:=⟨_,List.getElem?_eq_getElem (by omega)⟩
   have h8:=h7 _ (List.mem_of_getElem? cO)
   exact bD (todo':=hd Tryz.f38 1) (E':=[(1,.pt 0 0),(2,.pt 1 0),(20,.sl 2 ((streams f.streams).length)),(21,.n f.streams.length),(22,.n i),(3,.n i),(4,.pt 3 0),(32,.sl 4 ((aO aV).length)),(33,.n aV.length),(34,.n (k+1))]) (M':=[.bx 37 [.u f.view.id.round,.z f.view.id.server.node,.u f.view.id.server.inc,.d (.ro 2 (procs f.view.members)),.d (.ro 1 (ae f.view.ao)),.sl 2 ((streams f.streams).length),.d (.ro 1 (ae f.az))],.bx 37 [.d (.v (.int .u64 0)),.z 0,.d (.v (.int .u64 0)),.d (.v (.slice none 0 0)),.d (.v (.slice none 0 0)),.d (.v (.slice none 0 0)),.d (.v (.slice none 0 0))],.rw 111 1 (streams f.streams),.bx 111 [.sl 4 ((aO aV).length)],.rw 113 2 (List.set (aO aV) (k) [.u bV.n,.ro 1 (aj bV.body)])]) tk tq hK [(9,[(0,.b true)]),(10,[(1,.n (k)),(2,.ix 0 [.u bV.n,.ro 1 (aj bV.body)])]),(11,[(5,.cg 200 [(1,[(1,.aM (.ro 1 (aj bV.body)))])]),(6,.n (k)),(8,.ix 0 [.u bV.n,.ro 1 (aj bV.body)])]),(12,[(0,.z (((k+1:Nat):Int)))])] 2000 [0,1,2,3,4] [1,2,20,21,22,3,4,32,33,34] r (by kernel_rfl) (U h1 (U (aJ ((k:Nat):Int)) (U ((by first | omega | decide | (simp;done) | (simp;omega)):(k)<((aO aV).length)) (U ((by first | rfl | (simp;done) | (simp<;>omega)):((aO aV).length)≤(aO aV).length) (U (df cO) (U (ow bV.body (by first | assumption | omega)) (U (aJ ((k:Nat):Int)) (U ((by first | omega | decide | (simp;done) | (simp;omega)):(k)<((aO aV).length)) (U ((by first | rfl | (simp;done) | (simp<;>omega)):((aO aV).length)≤(aO aV).length) (U (df cO) (U ((wi (by omega)):IntKind.i64.wrap ((((k:Nat):Int):Int)+1)=((k+1:Nat):Int)) trivial))))))))))) fun ac wd r=>fP (by omega) ac wd ⟨(by omega),r.cast rfl (by rw [G6 (df cO)])⟩
theorem IA (f:aA) (hb:f.short):al Tryz.prog 38 [.ag [.u f.view.id.round,.z f.view.id.server.node,.u f.view.id.server.inc,.d (.ro 2 (procs f.view.members)),.d (.ro 1 (ae f.view.ao)),.d (.ro 1 (streams f.streams)),.d (.ro 1 (ae f.az))]] (.ag [.u f.view.id.round,.z f.view.id.server.node,.u f.view.id.server.inc,.ro 2 (procs f.view.members),.ro 1 (ae f.view.ao),.ro 1 (streams f.streams),.ro 1 (ae f.az)]):=by
 have h:=(QG f hb).bd
 simp only [bd,ir,lr,kA,mK] at h
 exact h
end Go.Proofs.YtgkdnnmcjjabdaaGreat
namespace Go.Proofs.YtgkdnnmcjjabdaaGreat
open Go.RowKit
structure En where
 p:ay
 st:Int
 l:List (List UInt8)
 aF:Nat
 act:Bool
 set:List ay
 sy:xF
structure En.Ok (e:En):Prop where
 p:e.p.may=true
 l:eN e.l
 set:e.set.length<1000
 cut:e.sy.cut.length<1000
theorem Pf {p:ay} {l:List (List UInt8)} {h:Nat} (hl:eN l):(fB p l h).short:=by
 refine ⟨by simp [fB,View.first],by simp [fB,View.first],by simp [fB],by simp [fB],fun s hs=>?_⟩
 simp only [fB,List.mem_singleton] at hs;subst hs
 refine ⟨by rw [dr];have:=hl.1;omega,fun x hx=>?_⟩
 obtain ⟨i,hi,rfl⟩:=List.getElem_of_mem hx
 have:=hl.2 _ (List.mem_of_getElem? (lL (List.getElem?_eq_getElem hi)).2);omega
theorem Mp:aA.zero.short:=by simp [aA.short,aA.zero]
def EC (e:En):List AV:=[.z e.p.node,.u e.p.inc,.z e.st,.d (.v (.int .u64 0)),.z e.p.node,.u e.p.inc,.d (.ro 2 (procs [e.p])),.d (.ro 1 (ae [0])),.d (.ro 1 (streams [au 0 e.l])),.d (.ro 1 (ae [e.l.length])),.u e.l.length,.u e.aF,.d (.v (.bool (e.act))),.d (.ro 2 (procs e.set)),.z e.sy.kind,.z e.sy.src.node,.u e.sy.src.inc,.u e.sy.vw.round,.z e.sy.vw.server.node,.u e.sy.vw.server.inc,.u e.sy.n,.d (.v (.slice none 0 0)),.u e.sy.aF,.d (.ro 1 (ae e.sy.cut)),.d (.v (.bool false)),.d (.v (.slice none 0 0)),.d (.v (.bool false)),.d (.v (.int .u64 0)),.z 0,.d (.v (.int .u64 0)),.d (.ro 2 ([])),.d (.ro 1 ([])),.d (.v (.slice none 0 0)),.d (.v (.int .u64 0)),.z 0,.d (.v (.int .u64 0)),.d (.ro 2 ([])),.d (.ro 1 ([])),.d (.ro 1 ([])),.d (.ro 1 ([])),.z 0,.z 0,.d (.v (.int .u64 0)),.d (.v (.int .u64 0)),.z 0,.d (.v (.int .u64 0)),.d (.v (.int .u64 0)),.d (.v (.slice none 0 0)),.d (.v (.int .u64 0)),.d (.ro 1 ([])),.d (.v (.bool false))]
set_option maxRecDepth 100000 in
theorem jR (e:En) (h:e.Ok):dh Tryz.prog 16 [.ag [.z e.p.node,.u e.p.inc,.z e.st,.d (.v (.int .u64 0)),.z e.p.node,.u e.p.inc,.d (.ro 2 (procs [e.p])),.d (.ro 1 (ae [0])),.d (.ro 1 (streams [au 0 e.l])),.d (.ro 1 (ae [e.l.length])),.u e.l.length,.u e.aF,.d (.v (.bool (e.act))),.d (.ro 2 (procs e.set)),.z e.sy.kind,.z e.sy.src.node,.u e.sy.src.inc,.u e.sy.vw.round,.z e.sy.vw.server.node,.u e.sy.vw.server.inc,.u e.sy.n,.d (.v (.slice none 0 0)),.u e.sy.aF,.d (.ro 1 (ae e.sy.cut)),.d (.v (.bool false)),.d (.v (.slice none 0 0)),.d (.v (.bool false)),.d (.v (.int .u64 0)),.z 0,.d (.v (.int .u64 0)),.d (.ro 2 ([])),.d (.ro 1 ([])),.d (.v (.slice none 0 0)),.d (.v (.int .u64 0)),.z 0,.d (.v (.int .u64 0)),.d (.ro 2 ([])),.d (.ro 1 ([])),.d (.ro 1 ([])),.d (.ro 1 ([])),.z 0,.z 0,.d (.v (.int .u64 0)),.d (.v (.int .u64 0)),.z 0,.d (.v (.int .u64 0)),.d (.v (.int .u64 0)),.d (.v (.slice none 0 0)),.d (.v (.int .u64 0)),.d (.ro 1 ([])),.d (.v (.bool false))]] [] (.pt 0 0) ([.bx 68 (EC e++[.d (.v (.slice none 0 0)),.d (.v (.slice none 0 0))])]):=by
 refine dh.intro (by kernel_rfl) rfl rfl 38 rfl rfl fun D w0 K bs ac wd hK (bG:bs.m=0) r=>?_
 refine gC (y:=.pt 0 0) (N':=[.bx 68 [.z e.p.node,.u e.p.inc,.z e.st,.d (.v (.int .u64 0)),.z e.p.node,.u e.p.inc,.d (.ro 2 (procs [e.p])),.d (.ro 1 (ae [0])),.d (.ro 1 (streams [au 0 e.l])),.d (.ro 1 (ae [e.l.length])),.u e.l.length,.u e.aF,.d (.v (.bool (e.act))),.d (.ro 2 (procs e.set)),.z e.sy.kind,.z e.sy.src.node,.u e.sy.src.inc,.u e.sy.vw.round,.z e.sy.vw.server.node,.u e.sy.vw.server.inc,.u e.sy.n,.d (.v (.slice none 0 0)),.u e.sy.aF,.d (.ro 1 (ae e.sy.cut)),.d (.v (.bool false)),.d (.v (.slice none 0 0)),.d (.v (.bool false)),.d (.v (.int .u64 0)),.z 0,.d (.v (.int .u64 0)),.d (.ro 2 ([])),.d (.ro 1 ([])),.d (.v (.slice none 0 0)),.d (.v (.int .u64 0)),.z 0,.d (.v (.int .u64 0)),.d (.ro 2 ([])),.d (.ro 1 ([])),.d (.ro 1 ([])),.d (.ro 1 ([])),.z 0,.z 0,.d (.v (.int .u64 0)),.d (.v (.int .u64 0)),.z 0,.d (.v (.int .u64 0)),.d (.v (.int .u64 0)),.d (.v (.slice none 0 0)),.d (.v (.int .u64 0)),.d (.ro 1 ([])),.d (.v (.bool false)),.d (.v (.slice none 0 0)),.d (.v (.slice none 0 0))]]) (rfl) (rfl) ?_
 exact gA tk tq hK rfl bG [(1,[(2,.aM (.ag [.v (.int .u64 0),.z e.p.node,.u e.p.inc,.ro 2 (procs [e.p]),.ro 1 (ae [0]),.ro 1 (streams [au 0 e.l]),.ro 1 (ae [e.l.length])]))]),(2,[(2,.aM (.ro 2 (procs e.set)))]),(3,[(2,.aM (.ag [.z e.sy.kind,.z e.sy.src.node,.u e.sy.src.inc,.u e.sy.vw.round,.z e.sy.vw.server.node,.u e.sy.vw.server.inc,.u e.sy.n,.v (.slice none 0 0),.u e.sy.aF,.ro 1 (ae e.sy.cut),.v (.bool false)]))]),(4,[(2,.aM (.v (.slice none 0 0)))]),(5,[(2,.aM (.ag [.v (.int .u64 0),.z 0,.v (.int .u64 0),.ro 2 ([]),.ro 1 ([])]))]),(6,[(2,.aM (.v (.slice none 0 0)))]),(7,[(2,.aM (.ag [.v (.int .u64 0),.z 0,.v (.int .u64 0),.ro 2 ([]),.ro 1 ([]),.ro 1 ([]),.ro 1 ([])]))]),(8,[(2,.aM (.ag [.z 0,.z 0,.v (.int .u64 0),.v (.int .u64 0),.z 0,.v (.int .u64 0),.v (.int .u64 0),.v (.slice none 0 0),.v (.int .u64 0),.ro 1 ([]),.v (.bool false)]))])] 2000 [1] r (by kernel_rfl) (U (IA (fB e.p e.l e.l.length) (Pf h.l)) (U (wx e.set (by have:=h.set;omega)) (U (QE e.sy (by have:=h.cut;omega)) (U (G5) (U (QF) (U (G5) (U (IA aA.zero Mp) (U (Pe) trivial))))))))
end Go.Proofs.YtgkdnnmcjjabdaaGreat
namespace Go.Proofs.YtgkdnnmcjjabdaaGreat
open Go.RowKit
def cq (e:En) (b:List UInt8):List DV:=[.z 1,.z e.p.node,.u e.p.inc,.z 0,.v (.int .u64 0),.u ((e.l.length+1)),.ro 1 (aj b),.v (.int .u64 0),.z 0,.v (.int .u64 0),.v (.slice none 0 0),.v (.slice none 0 0),.v (.slice none 0 0)]
def gU (e:En) (b:List UInt8):List DV:=[.z 2,.z e.p.node,.u e.p.inc,.z e.p.node,.u e.p.inc,.u ((e.l.length+1)),.ro 1 (aj b),.v (.int .u64 0),.z 0,.v (.int .u64 0),.v (.slice none 0 0),.v (.slice none 0 0),.v (.slice none 0 0)]
set_option maxRecDepth 100000 in
theorem QH (e:En) (b:List UInt8):dh Tryz.prog 42 [.ag [.z e.p.node,.u e.p.inc],.pt 0 0] [.bx 65 [.pt 1 0],.bx 68 [.z e.p.node,.u e.p.inc,.z e.st,.d (.v (.int .u64 0)),.z e.p.node,.u e.p.inc,.d (.ro 2 (procs [e.p])),.d (.ro 1 (ae [0])),.d (.ro 1 (streams [au 0 (e.l++[b])])),.d (.ro 1 (ae [e.l.length])),.u ((e.l.length+1)),.u e.aF,.d (.v (.bool (e.act))),.d (.ro 2 (procs e.set)),.z e.sy.kind,.z e.sy.src.node,.u e.sy.src.inc,.u e.sy.vw.round,.z e.sy.vw.server.node,.u e.sy.vw.server.inc,.u e.sy.n,.d (.v (.slice none 0 0)),.u e.sy.aF,.d (.ro 1 (ae e.sy.cut)),.d (.v (.bool false)),.d (.v (.slice none 0 0)),.d (.v (.bool false)),.d (.v (.int .u64 0)),.z 0,.d (.v (.int .u64 0)),.d (.ro 2 ([])),.d (.ro 1 ([])),.d (.v (.slice none 0 0)),.d (.v (.int .u64 0)),.z 0,.d (.v (.int .u64 0)),.d (.ro 2 ([])),.d (.ro 1 ([])),.d (.ro 1 ([])),.d (.ro 1 ([])),.z 0,.z 0,.d (.v (.int .u64 0)),.d (.v (.int .u64 0)),.z 0,.d (.v (.int .u64 0)),.d (.v (.int .u64 0)),.d (.v (.slice none 0 0)),.d (.v (.int .u64 0)),.d (.ro 1 ([])),.d (.v (.bool false)),.d (.v (.slice none 0 0)),.sl 2 (1)],.rw 58 13 ([cq e b])] (.d (.v (.bool true))) ([.bx 65 [.pt 1 0],.bx 68 [.z e.p.node,.u e.p.inc,.z e.st,.d (.v (.int .u64 0)),.z e.p.node,.u e.p.inc,.d (.ro 2 (procs [e.p])),.d (.ro 1 (ae [0])),.d (.ro 1 (streams [au 0 (e.l++[b])])),.d (.ro 1 (ae [e.l.length])),.u ((e.l.length+1)),.u e.aF,.d (.v (.bool (e.act))),.d (.ro 2 (procs e.set)),.z e.sy.kind,.z e.sy.src.node,.u e.sy.src.inc,.u e.sy.vw.round,.z e.sy.vw.server.node,.u e.sy.vw.server.inc,.u e.sy.n,.d (.v (.slice none 0 0)),.u e.sy.aF,.d (.ro 1 (ae e.sy.cut)),.d (.v (.bool false)),.d (.v (.slice none 0 0)),.d (.v (.bool false)),.d (.v (.int .u64 0)),.z 0,.d (.v (.int .u64 0)),.d (.ro 2 ([])),.d (.ro 1 ([])),.d (.v (.slice none 0 0)),.d (.v (.int .u64 0)),.z 0,.d (.v (.int .u64 0)),.d (.ro 2 ([])),.d (.ro 1 ([])),.d (.ro 1 ([])),.d (.ro 1 ([])),.z 0,.z 0,.d (.v (.int .u64 0)),.d (.v (.int .u64 0)),.z 0,.d (.v (.int .u64 0)),.d (.v (.int .u64 0)),.d (.v (.slice none 0 0)),.d (.v (.int .u64 0)),.d (.ro 1 ([])),.d (.v (.bool false)),.d (.v (.slice none 0 0)),.sl 2 (1)],.rw 58 13 ([cq e b])]):=by
 refine dh.intro (by kernel_rfl) rfl rfl 11 rfl rfl fun D w0 K bs ac wd hK (bG:bs.m=3) r=>?_
 cases h0:(decide (e.p=e.p)) with
 | false=>
  have bh:=of_decide_eq_false h0
  exact absurd rfl bh
 | true=>
  have bh:=of_decide_eq_true h0
  refine gC (y:=.d (.v (.bool true))) (N':=[.bx 65 [.pt 1 0],.bx 68 [.z e.p.node,.u e.p.inc,.z e.st,.d (.v (.int .u64 0)),.z e.p.node,.u e.p.inc,.d (.ro 2 (procs [e.p])),.d (.ro 1 (ae [0])),.d (.ro 1 (streams [au 0 (e.l++[b])])),.d (.ro 1 (ae [e.l.length])),.u ((e.l.length+1)),.u e.aF,.d (.v (.bool (e.act))),.d (.ro 2 (procs e.set)),.z e.sy.kind,.z e.sy.src.node,.u e.sy.src.inc,.u e.sy.vw.round,.z e.sy.vw.server.node,.u e.sy.vw.server.inc,.u e.sy.n,.d (.v (.slice none 0 0)),.u e.sy.aF,.d (.ro 1 (ae e.sy.cut)),.d (.v (.bool false)),.d (.v (.slice none 0 0)),.d (.v (.bool false)),.d (.v (.int .u64 0)),.z 0,.d (.v (.int .u64 0)),.d (.ro 2 ([])),.d (.ro 1 ([])),.d (.v (.slice none 0 0)),.d (.v (.int .u64 0)),.z 0,.d (.v (.int .u64 0)),.d (.ro 2 ([])),.d (.ro 1 ([])),.d (.ro 1 ([])),.d (.ro 1 ([])),.z 0,.z 0,.d (.v (.int .u64 0)),.d (.v (.int .u64 0)),.z 0,.d (.v (.int .u64 0)),.d (.v (.int .u64 0)),.d (.v (.slice none 0 0)),.d (.v (.int .u64 0)),.d (.ro 1 ([])),.d (.v (.bool false)),.d (.v (.slice none 0 0)),.sl 2 (1)],.rw 58 13 ([cq e b])]) (rfl) (rfl) ?_
  exact gA tk tq hK rfl bG [(1,[(6,.b true)])] 2000 [0,1,2] r (by kernel_rfl) (U ((fG (ji _ _) h0):eh Tryz.prog 24 [(.int .i64 (e.p.node)),(.int .u64 (((e.p.inc:Nat):Int)))] [(.int .i64 (e.p.node)),(.int .u64 (((e.p.inc:Nat):Int)))] true) trivial)
set_option maxRecDepth 100000 in
theorem QI (e:En) (b:List UInt8):dh Tryz.prog 68 [.sl 0 (1),.fn 42 [.pt 1 0]] [.rw 24 2 (procs [e.p]),.bx 65 [.pt 2 0],.bx 68 [.z e.p.node,.u e.p.inc,.z e.st,.d (.v (.int .u64 0)),.z e.p.node,.u e.p.inc,.d (.ro 2 (procs [e.p])),.d (.ro 1 (ae [0])),.d (.ro 1 (streams [au 0 (e.l++[b])])),.d (.ro 1 (ae [e.l.length])),.u ((e.l.length+1)),.u e.aF,.d (.v (.bool (e.act))),.d (.ro 2 (procs e.set)),.z e.sy.kind,.z e.sy.src.node,.u e.sy.src.inc,.u e.sy.vw.round,.z e.sy.vw.server.node,.u e.sy.vw.server.inc,.u e.sy.n,.d (.v (.slice none 0 0)),.u e.sy.aF,.d (.ro 1 (ae e.sy.cut)),.d (.v (.bool false)),.d (.v (.slice none 0 0)),.d (.v (.bool false)),.d (.v (.int .u64 0)),.z 0,.d (.v (.int .u64 0)),.d (.ro 2 ([])),.d (.ro 1 ([])),.d (.v (.slice none 0 0)),.d (.v (.int .u64 0)),.z 0,.d (.v (.int .u64 0)),.d (.ro 2 ([])),.d (.ro 1 ([])),.d (.ro 1 ([])),.d (.ro 1 ([])),.z 0,.z 0,.d (.v (.int .u64 0)),.d (.v (.int .u64 0)),.z 0,.d (.v (.int .u64 0)),.d (.v (.int .u64 0)),.d (.v (.slice none 0 0)),.d (.v (.int .u64 0)),.d (.ro 1 ([])),.d (.v (.bool false)),.d (.v (.slice none 0 0)),.sl 3 (1)],.rw 58 13 ([cq e b])] (.d (.v (.int .i64 ((0:Nat):Int)))) ([.rw 24 2 (procs [e.p]),.bx 65 [.pt 2 0],.bx 68 [.z e.p.node,.u e.p.inc,.z e.st,.d (.v (.int .u64 0)),.z e.p.node,.u e.p.inc,.d (.ro 2 (procs [e.p])),.d (.ro 1 (ae [0])),.d (.ro 1 (streams [au 0 (e.l++[b])])),.d (.ro 1 (ae [e.l.length])),.u ((e.l.length+1)),.u e.aF,.d (.v (.bool (e.act))),.d (.ro 2 (procs e.set)),.z e.sy.kind,.z e.sy.src.node,.u e.sy.src.inc,.u e.sy.vw.round,.z e.sy.vw.server.node,.u e.sy.vw.server.inc,.u e.sy.n,.d (.v (.slice none 0 0)),.u e.sy.aF,.d (.ro 1 (ae e.sy.cut)),.d (.v (.bool false)),.d (.v (.slice none 0 0)),.d (.v (.bool false)),.d (.v (.int .u64 0)),.z 0,.d (.v (.int .u64 0)),.d (.ro 2 ([])),.d (.ro 1 ([])),.d (.v (.slice none 0 0)),.d (.v (.int .u64 0)),.z 0,.d (.v (.int .u64 0)),.d (.ro 2 ([])),.d (.ro 1 ([])),.d (.ro 1 ([])),.d (.ro 1 ([])),.z 0,.z 0,.d (.v (.int .u64 0)),.d (.v (.int .u64 0)),.z 0,.d (.v (.int .u64 0)),.d (.v (.int .u64 0)),.d (.v (.slice none 0 0)),.d (.v (.int .u64 0)),.d (.ro 1 ([])),.d (.v (.bool false)),.d (.v (.slice none 0 0)),.sl 3 (1)],.rw 58 13 ([cq e b])]):=by
 refine dh.intro (by kernel_rfl) rfl rfl 19 rfl rfl fun D w0 K bs ac wd hK (bG:bs.m=4) r=>?_
 refine ig (todo':=hd Tryz.f68 0) (E':=[(0,.sl 0 (1)),(1,.fn 42 [.pt 1 0]),(4,.z 0),(6,.sl 0 (1)),(7,.n 1),(8,.z 0)]) (M':=[.rw 24 2 (procs [e.p]),.bx 65 [.pt 2 0],.bx 68 [.z e.p.node,.u e.p.inc,.z e.st,.d (.v (.int .u64 0)),.z e.p.node,.u e.p.inc,.d (.ro 2 (procs [e.p])),.d (.ro 1 (ae [0])),.d (.ro 1 (streams [au 0 (e.l++[b])])),.d (.ro 1 (ae [e.l.length])),.u ((e.l.length+1)),.u e.aF,.d (.v (.bool (e.act))),.d (.ro 2 (procs e.set)),.z e.sy.kind,.z e.sy.src.node,.u e.sy.src.inc,.u e.sy.vw.round,.z e.sy.vw.server.node,.u e.sy.vw.server.inc,.u e.sy.n,.d (.v (.slice none 0 0)),.u e.sy.aF,.d (.ro 1 (ae e.sy.cut)),.d (.v (.bool false)),.d (.v (.slice none 0 0)),.d (.v (.bool false)),.d (.v (.int .u64 0)),.z 0,.d (.v (.int .u64 0)),.d (.ro 2 ([])),.d (.ro 1 ([])),.d (.v (.slice none 0 0)),.d (.v (.int .u64 0)),.z 0,.d (.v (.int .u64 0)),.d (.ro 2 ([])),.d (.ro 1 ([])),.d (.ro 1 ([])),.d (.ro 1 ([])),.z 0,.z 0,.d (.v (.int .u64 0)),.d (.v (.int .u64 0)),.z 0,.d (.v (.int .u64 0)),.d (.v (.int .u64 0)),.d (.v (.slice none 0 0)),.d (.v (.int .u64 0)),.d (.ro 1 ([])),.d (.v (.bool false)),.d (.v (.slice none 0 0)),.sl 3 (1)],.rw 58 13 ([cq e b])]) tk tq hK bG [] 2000 [0,1,2,3] [0,1,4,6,7,8] r (by kernel_rfl) trivial fun ac wd r=>?_
 refine gC (y:=.z 0) (N':=[.rw 24 2 (procs [e.p]),.bx 65 [.pt 2 0],.bx 68 [.z e.p.node,.u e.p.inc,.z e.st,.d (.v (.int .u64 0)),.z e.p.node,.u e.p.inc,.d (.ro 2 (procs [e.p])),.d (.ro 1 (ae [0])),.d (.ro 1 (streams [au 0 (e.l++[b])])),.d (.ro 1 (ae [e.l.length])),.u ((e.l.length+1)),.u e.aF,.d (.v (.bool (e.act))),.d (.ro 2 (procs e.set)),.z e.sy.kind,.z e.sy.src.node,.u e.sy.src.inc,.u e.sy.vw.round,.z e.sy.vw.server.node,.u e.sy.vw.server.inc,.u e.sy.n,.d (.v (.slice none 0 0)),.u e.sy.aF,.d (.ro 1 (ae e.sy.cut)),.d (.v (.bool false)),.d (.v (.slice none 0 0)),.d (.v (.bool false)),.d (.v (.int .u64 0)),.z 0,.d (.v (.int .u64 0)),.d (.ro 2 ([])),.d (.ro 1 ([])),.d (.v (.slice none 0 0)),.d (.v (.int .u64 0)),.z 0,.d (.v (.int .u64 0)),.d (.ro 2 ([])),.d (.ro 1 ([])),.d (.ro 1 ([])),.d (.ro 1 ([])),.z 0,.z 0,.d (.v (.int .u64 0)),.d (.v (.int .u64 0)),.z 0,.d (.v (.int .u64 0)),.d (.v (.int .u64 0)),.d (.v (.slice none 0 0)),.d (.v (.int .u64 0)),.d (.ro 1 ([])),.d (.v (.bool false)),.d (.v (.slice none 0 0)),.sl 3 (1)],.rw 58 13 ([cq e b])]) (rfl) (rfl) ?_
 exact gA tk tq hK rfl bG [(4,[(3,.n (0)),(4,.ix 0 [.z e.p.node,.u e.p.inc]),(5,.mem [1,2,3] (.d (.v (.bool true))) [.bx 65 [.pt 1 0],.bx 68 [.z e.p.node,.u e.p.inc,.z e.st,.d (.v (.int .u64 0)),.z e.p.node,.u e.p.inc,.d (.ro 2 (procs [e.p])),.d (.ro 1 (ae [0])),.d (.ro 1 (streams [au 0 (e.l++[b])])),.d (.ro 1 (ae [e.l.length])),.u ((e.l.length+1)),.u e.aF,.d (.v (.bool (e.act))),.d (.ro 2 (procs e.set)),.z e.sy.kind,.z e.sy.src.node,.u e.sy.src.inc,.u e.sy.vw.round,.z e.sy.vw.server.node,.u e.sy.vw.server.inc,.u e.sy.n,.d (.v (.slice none 0 0)),.u e.sy.aF,.d (.ro 1 (ae e.sy.cut)),.d (.v (.bool false)),.d (.v (.slice none 0 0)),.d (.v (.bool false)),.d (.v (.int .u64 0)),.z 0,.d (.v (.int .u64 0)),.d (.ro 2 ([])),.d (.ro 1 ([])),.d (.v (.slice none 0 0)),.d (.v (.int .u64 0)),.z 0,.d (.v (.int .u64 0)),.d (.ro 2 ([])),.d (.ro 1 ([])),.d (.ro 1 ([])),.d (.ro 1 ([])),.z 0,.z 0,.d (.v (.int .u64 0)),.d (.v (.int .u64 0)),.z 0,.d (.v (.int .u64 0)),.d (.v (.int .u64 0)),.d (.v (.slice none 0 0)),.d (.v (.int .u64 0)),.d (.ro 1 ([])),.d (.v (.bool false)),.d (.v (.slice none 0 0)),.sl 2 (1)],.rw 58 13 ([cq e b])])])] 2000 [0,1,2,3] r (by kernel_rfl) (U (rfl:(0)=((0:Nat):Int)) (U ((by first | omega | decide | (simp;done) | (simp;omega)):(0)<(1)) (U ((by first | rfl | (simp;done) | (simp<;>omega)):(1)≤(procs [e.p]).length) (U (rfl:(procs [e.p])[0]?=some [.z e.p.node,.u e.p.inc]) (U (QH e b) trivial)))))
set_option maxRecDepth 100000 in
theorem QJ (e:En) (b:List UInt8):dh Tryz.prog 41 [.sl 0 (1),.fn 42 [.pt 1 0]] [.rw 24 2 (procs [e.p]),.bx 65 [.pt 2 0],.bx 68 [.z e.p.node,.u e.p.inc,.z e.st,.d (.v (.int .u64 0)),.z e.p.node,.u e.p.inc,.d (.ro 2 (procs [e.p])),.d (.ro 1 (ae [0])),.d (.ro 1 (streams [au 0 (e.l++[b])])),.d (.ro 1 (ae [e.l.length])),.u ((e.l.length+1)),.u e.aF,.d (.v (.bool (e.act))),.d (.ro 2 (procs e.set)),.z e.sy.kind,.z e.sy.src.node,.u e.sy.src.inc,.u e.sy.vw.round,.z e.sy.vw.server.node,.u e.sy.vw.server.inc,.u e.sy.n,.d (.v (.slice none 0 0)),.u e.sy.aF,.d (.ro 1 (ae e.sy.cut)),.d (.v (.bool false)),.d (.v (.slice none 0 0)),.d (.v (.bool false)),.d (.v (.int .u64 0)),.z 0,.d (.v (.int .u64 0)),.d (.ro 2 ([])),.d (.ro 1 ([])),.d (.v (.slice none 0 0)),.d (.v (.int .u64 0)),.z 0,.d (.v (.int .u64 0)),.d (.ro 2 ([])),.d (.ro 1 ([])),.d (.ro 1 ([])),.d (.ro 1 ([])),.z 0,.z 0,.d (.v (.int .u64 0)),.d (.v (.int .u64 0)),.z 0,.d (.v (.int .u64 0)),.d (.v (.int .u64 0)),.d (.v (.slice none 0 0)),.d (.v (.int .u64 0)),.d (.ro 1 ([])),.d (.v (.bool false)),.d (.v (.slice none 0 0)),.sl 3 (1)],.rw 58 13 ([cq e b])] (.d (.ro 2 [])) ([.rw 24 2 ([[.v (.int .i64 0),.v (.int .u64 0)]]),.bx 65 [.pt 2 0],.bx 68 [.z e.p.node,.u e.p.inc,.z e.st,.d (.v (.int .u64 0)),.z e.p.node,.u e.p.inc,.d (.ro 2 (procs [e.p])),.d (.ro 1 (ae [0])),.d (.ro 1 (streams [au 0 (e.l++[b])])),.d (.ro 1 (ae [e.l.length])),.u ((e.l.length+1)),.u e.aF,.d (.v (.bool (e.act))),.d (.ro 2 (procs e.set)),.z e.sy.kind,.z e.sy.src.node,.u e.sy.src.inc,.u e.sy.vw.round,.z e.sy.vw.server.node,.u e.sy.vw.server.inc,.u e.sy.n,.d (.v (.slice none 0 0)),.u e.sy.aF,.d (.ro 1 (ae e.sy.cut)),.d (.v (.bool false)),.d (.v (.slice none 0 0)),.d (.v (.bool false)),.d (.v (.int .u64 0)),.z 0,.d (.v (.int .u64 0)),.d (.ro 2 ([])),.d (.ro 1 ([])),.d (.v (.slice none 0 0)),.d (.v (.int .u64 0)),.z 0,.d (.v (.int .u64 0)),.d (.ro 2 ([])),.d (.ro 1 ([])),.d (.ro 1 ([])),.d (.ro 1 ([])),.z 0,.z 0,.d (.v (.int .u64 0)),.d (.v (.int .u64 0)),.z 0,.d (.v (.int .u64 0)),.d (.v (.int .u64 0)),.d (.v (.slice none 0 0)),.d (.v (.int .u64 0)),.d (.ro 1 ([])),.d (.v (.bool false)),.d (.v (.slice none 0 0)),.sl 3 (1)],.rw 58 13 ([cq e b])]):=by
 refine dh.intro (by kernel_rfl) rfl rfl 42 rfl rfl fun D w0 K bs ac wd hK (bG:bs.m=4) r=>?_
 refine ig (todo':=hd Tryz.f41 0) (E':=[(0,.sl 0 (1)),(1,.fn 42 [.pt 1 0]),(4,.d (.v (.slice none 0 0))),(8,.sl 0 (1)),(9,.fn 42 [.pt 1 0]),(10,.n 0),(5,.n 0),(11,.n 0),(12,.d (.v (.bool false))),(14,.n 0),(15,.z 1),(6,.z 1)]) (M':=[.rw 24 2 (procs [e.p]),.bx 65 [.pt 2 0],.bx 68 [.z e.p.node,.u e.p.inc,.z e.st,.d (.v (.int .u64 0)),.z e.p.node,.u e.p.inc,.d (.ro 2 (procs [e.p])),.d (.ro 1 (ae [0])),.d (.ro 1 (streams [au 0 (e.l++[b])])),.d (.ro 1 (ae [e.l.length])),.u ((e.l.length+1)),.u e.aF,.d (.v (.bool (e.act))),.d (.ro 2 (procs e.set)),.z e.sy.kind,.z e.sy.src.node,.u e.sy.src.inc,.u e.sy.vw.round,.z e.sy.vw.server.node,.u e.sy.vw.server.inc,.u e.sy.n,.d (.v (.slice none 0 0)),.u e.sy.aF,.d (.ro 1 (ae e.sy.cut)),.d (.v (.bool false)),.d (.v (.slice none 0 0)),.d (.v (.bool false)),.d (.v (.int .u64 0)),.z 0,.d (.v (.int .u64 0)),.d (.ro 2 ([])),.d (.ro 1 ([])),.d (.v (.slice none 0 0)),.d (.v (.int .u64 0)),.z 0,.d (.v (.int .u64 0)),.d (.ro 2 ([])),.d (.ro 1 ([])),.d (.ro 1 ([])),.d (.ro 1 ([])),.z 0,.z 0,.d (.v (.int .u64 0)),.d (.v (.int .u64 0)),.z 0,.d (.v (.int .u64 0)),.d (.v (.int .u64 0)),.d (.v (.slice none 0 0)),.d (.v (.int .u64 0)),.d (.ro 1 ([])),.d (.v (.bool false)),.d (.v (.slice none 0 0)),.sl 3 (1)],.rw 58 13 ([cq e b])]) tk tq hK bG [(1,[(2,.mem [0,1,2,3] (.n 0) [.rw 24 2 (procs [e.p]),.bx 65 [.pt 2 0],.bx 68 [.z e.p.node,.u e.p.inc,.z e.st,.d (.v (.int .u64 0)),.z e.p.node,.u e.p.inc,.d (.ro 2 (procs [e.p])),.d (.ro 1 (ae [0])),.d (.ro 1 (streams [au 0 (e.l++[b])])),.d (.ro 1 (ae [e.l.length])),.u ((e.l.length+1)),.u e.aF,.d (.v (.bool (e.act))),.d (.ro 2 (procs e.set)),.z e.sy.kind,.z e.sy.src.node,.u e.sy.src.inc,.u e.sy.vw.round,.z e.sy.vw.server.node,.u e.sy.vw.server.inc,.u e.sy.n,.d (.v (.slice none 0 0)),.u e.sy.aF,.d (.ro 1 (ae e.sy.cut)),.d (.v (.bool false)),.d (.v (.slice none 0 0)),.d (.v (.bool false)),.d (.v (.int .u64 0)),.z 0,.d (.v (.int .u64 0)),.d (.ro 2 ([])),.d (.ro 1 ([])),.d (.v (.slice none 0 0)),.d (.v (.int .u64 0)),.z 0,.d (.v (.int .u64 0)),.d (.ro 2 ([])),.d (.ro 1 ([])),.d (.ro 1 ([])),.d (.ro 1 ([])),.z 0,.z 0,.d (.v (.int .u64 0)),.d (.v (.int .u64 0)),.z 0,.d (.v (.int .u64 0)),.d (.v (.int .u64 0)),.d (.v (.slice none 0 0)),.d (.v (.int .u64 0)),.d (.ro 1 ([])),.d (.v (.bool false)),.d (.v (.slice none 0 0)),.sl 3 (1)],.rw 58 13 ([cq e b])])]),(4,[(1,.z (1))])] 2000 [0,1,2,3] [0,1,4,8,9,10,5,11,12,14,15,6] r (by kernel_rfl) (U (QI e b) (U ((wi (by omega)):IntKind.i64.wrap ((0:Int)+1)=1) trivial)) fun ac wd r=>?_
 cases h0:(decide ((((0:Nat):Int):Int)<((1:Nat):Int))) with
 | false=>
  have bh:=of_decide_eq_false h0
  exact absurd bh (by omega)
 | true=>
  have bh:=of_decide_eq_true h0
  refine gC (y:=.d (.ro 2 ([]))) (N':=[.rw 24 2 ((procs [e.p]).take (0)++(List.replicate (1-0) ([.z 0,.v (.int .u64 0)]:List DV)++(procs [e.p]).drop ((0)+(1-0)))),.bx 65 [.pt 2 0],.bx 68 [.z e.p.node,.u e.p.inc,.z e.st,.d (.v (.int .u64 0)),.z e.p.node,.u e.p.inc,.d (.ro 2 (procs [e.p])),.d (.ro 1 (ae [0])),.d (.ro 1 (streams [au 0 (e.l++[b])])),.d (.ro 1 (ae [e.l.length])),.u ((e.l.length+1)),.u e.aF,.d (.v (.bool (e.act))),.d (.ro 2 (procs e.set)),.z e.sy.kind,.z e.sy.src.node,.u e.sy.src.inc,.u e.sy.vw.round,.z e.sy.vw.server.node,.u e.sy.vw.server.inc,.u e.sy.n,.d (.v (.slice none 0 0)),.u e.sy.aF,.d (.ro 1 (ae e.sy.cut)),.d (.v (.bool false)),.d (.v (.slice none 0 0)),.d (.v (.bool false)),.d (.v (.int .u64 0)),.z 0,.d (.v (.int .u64 0)),.d (.ro 2 ([])),.d (.ro 1 ([])),.d (.v (.slice none 0 0)),.d (.v (.int .u64 0)),.z 0,.d (.v (.int .u64 0)),.d (.ro 2 ([])),.d (.ro 1 ([])),.d (.ro 1 ([])),.d (.ro 1 ([])),.z 0,.z 0,.d (.v (.int .u64 0)),.d (.v (.int .u64 0)),.z 0,.d (.v (.int .u64 0)),.d (.v (.int .u64 0)),.d (.v (.slice none 0 0)),.d (.v (.int .u64 0)),.d (.ro 1 ([])),.d (.v (.bool false)),.d (.v (.slice none 0 0)),.sl 3 (1)],.rw 58 13 ([cq e b])]) (rfl) (rfl) ?_
  exact gA tk tq hK rfl bG [(11,[(2,.n (0))]),(12,[(2,.res (.ro 2 []))])] 2000 [0,1,2,3] r (by kernel_rfl) (U (aJ ((0:Nat):Int)) (U ((by first | omega | decide | (simp;done) | (simp;omega)):(0)<(1)) (U ((by first | rfl | (simp;done) | (simp<;>omega)):(1)=(procs [e.p]).length) (U ((by first | omega | decide | (simp;done) | (simp;omega)):0<(1-0)) (U ((by first | rfl | (simp;done) | (simp<;>omega)):(0)+(1-0)≤(procs [e.p]).length) (U ((by omega):(((0:Nat):Int):Int)=0) (U ((by first | rfl | (simp;done) | (simp<;>omega)):(1)=((procs [e.p]).take (0)++(List.replicate (1-0) ([.z 0,.v (.int .u64 0)]:List DV)++(procs [e.p]).drop ((0)+(1-0))):List (List DV)).length) trivial)))))))
set_option maxRecDepth 100000 in
theorem QK (e:En) (b:List UInt8):dh Tryz.prog 20 [.pt 0 0] [.bx 68 [.z e.p.node,.u e.p.inc,.z e.st,.d (.v (.int .u64 0)),.z e.p.node,.u e.p.inc,.d (.ro 2 (procs [e.p])),.d (.ro 1 (ae [0])),.d (.ro 1 (streams [au 0 (e.l++[b])])),.d (.ro 1 (ae [e.l.length])),.u ((e.l.length+1)),.u e.aF,.d (.v (.bool (e.act))),.d (.ro 2 (procs e.set)),.z e.sy.kind,.z e.sy.src.node,.u e.sy.src.inc,.u e.sy.vw.round,.z e.sy.vw.server.node,.u e.sy.vw.server.inc,.u e.sy.n,.d (.v (.slice none 0 0)),.u e.sy.aF,.d (.ro 1 (ae e.sy.cut)),.d (.v (.bool false)),.d (.v (.slice none 0 0)),.d (.v (.bool false)),.d (.v (.int .u64 0)),.z 0,.d (.v (.int .u64 0)),.d (.ro 2 ([])),.d (.ro 1 ([])),.d (.v (.slice none 0 0)),.d (.v (.int .u64 0)),.z 0,.d (.v (.int .u64 0)),.d (.ro 2 ([])),.d (.ro 1 ([])),.d (.ro 1 ([])),.d (.ro 1 ([])),.z 0,.z 0,.d (.v (.int .u64 0)),.d (.v (.int .u64 0)),.z 0,.d (.v (.int .u64 0)),.d (.v (.int .u64 0)),.d (.v (.slice none 0 0)),.d (.v (.int .u64 0)),.d (.ro 1 ([])),.d (.v (.bool false)),.d (.v (.slice none 0 0)),.sl 1 (1)],.rw 58 13 ([cq e b])] (.d (.ro 2 [])) ([.bx 68 [.z e.p.node,.u e.p.inc,.z e.st,.d (.v (.int .u64 0)),.z e.p.node,.u e.p.inc,.d (.ro 2 (procs [e.p])),.d (.ro 1 (ae [0])),.d (.ro 1 (streams [au 0 (e.l++[b])])),.d (.ro 1 (ae [e.l.length])),.u ((e.l.length+1)),.u e.aF,.d (.v (.bool (e.act))),.d (.ro 2 (procs e.set)),.z e.sy.kind,.z e.sy.src.node,.u e.sy.src.inc,.u e.sy.vw.round,.z e.sy.vw.server.node,.u e.sy.vw.server.inc,.u e.sy.n,.d (.v (.slice none 0 0)),.u e.sy.aF,.d (.ro 1 (ae e.sy.cut)),.d (.v (.bool false)),.d (.v (.slice none 0 0)),.d (.v (.bool false)),.d (.v (.int .u64 0)),.z 0,.d (.v (.int .u64 0)),.d (.ro 2 ([])),.d (.ro 1 ([])),.d (.v (.slice none 0 0)),.d (.v (.int .u64 0)),.z 0,.d (.v (.int .u64 0)),.d (.ro 2 ([])),.d (.ro 1 ([])),.d (.ro 1 ([])),.d (.ro 1 ([])),.z 0,.z 0,.d (.v (.int .u64 0)),.d (.v (.int .u64 0)),.z 0,.d (.v (.int .u64 0)),.d (.v (.int .u64 0)),.d (.v (.slice none 0 0)),.d (.v (.int .u64 0)),.d (.ro 1 ([])),.d (.v (.bool false)),.d (.v (.slice none 0 0)),.sl 1 (1)],.rw 58 13 ([cq e b])]):=by
 refine dh.intro (by kernel_rfl) rfl rfl 13 rfl rfl fun D w0 K bs ac wd hK (bG:bs.m=2) r=>?_
 refine gC (y:=.d (.ro 2 ([]))) (N':=[.bx 68 [.z e.p.node,.u e.p.inc,.z e.st,.d (.v (.int .u64 0)),.z e.p.node,.u e.p.inc,.d (.ro 2 (procs [e.p])),.d (.ro 1 (ae [0])),.d (.ro 1 (streams [au 0 (e.l++[b])])),.d (.ro 1 (ae [e.l.length])),.u ((e.l.length+1)),.u e.aF,.d (.v (.bool (e.act))),.d (.ro 2 (procs e.set)),.z e.sy.kind,.z e.sy.src.node,.u e.sy.src.inc,.u e.sy.vw.round,.z e.sy.vw.server.node,.u e.sy.vw.server.inc,.u e.sy.n,.d (.v (.slice none 0 0)),.u e.sy.aF,.d (.ro 1 (ae e.sy.cut)),.d (.v (.bool false)),.d (.v (.slice none 0 0)),.d (.v (.bool false)),.d (.v (.int .u64 0)),.z 0,.d (.v (.int .u64 0)),.d (.ro 2 ([])),.d (.ro 1 ([])),.d (.v (.slice none 0 0)),.d (.v (.int .u64 0)),.z 0,.d (.v (.int .u64 0)),.d (.ro 2 ([])),.d (.ro 1 ([])),.d (.ro 1 ([])),.d (.ro 1 ([])),.z 0,.z 0,.d (.v (.int .u64 0)),.d (.v (.int .u64 0)),.z 0,.d (.v (.int .u64 0)),.d (.v (.int .u64 0)),.d (.v (.slice none 0 0)),.d (.v (.int .u64 0)),.d (.ro 1 ([])),.d (.v (.bool false)),.d (.v (.slice none 0 0)),.sl 1 (1)],.rw 58 13 ([cq e b])]) (rfl) (rfl) ?_
 exact gA tk tq hK rfl bG [(1,[(7,.aM (.em 24 2 (procs [e.p]))),(9,.mem [3,2,0,1] (.d (.ro 2 ([]))) [.rw 24 2 ([[.v (.int .i64 0),.v (.int .u64 0)]]),.bx 65 [.pt 2 0],.bx 68 [.z e.p.node,.u e.p.inc,.z e.st,.d (.v (.int .u64 0)),.z e.p.node,.u e.p.inc,.d (.ro 2 (procs [e.p])),.d (.ro 1 (ae [0])),.d (.ro 1 (streams [au 0 (e.l++[b])])),.d (.ro 1 (ae [e.l.length])),.u ((e.l.length+1)),.u e.aF,.d (.v (.bool (e.act))),.d (.ro 2 (procs e.set)),.z e.sy.kind,.z e.sy.src.node,.u e.sy.src.inc,.u e.sy.vw.round,.z e.sy.vw.server.node,.u e.sy.vw.server.inc,.u e.sy.n,.d (.v (.slice none 0 0)),.u e.sy.aF,.d (.ro 1 (ae e.sy.cut)),.d (.v (.bool false)),.d (.v (.slice none 0 0)),.d (.v (.bool false)),.d (.v (.int .u64 0)),.z 0,.d (.v (.int .u64 0)),.d (.ro 2 ([])),.d (.ro 1 ([])),.d (.v (.slice none 0 0)),.d (.v (.int .u64 0)),.z 0,.d (.v (.int .u64 0)),.d (.ro 2 ([])),.d (.ro 1 ([])),.d (.ro 1 ([])),.d (.ro 1 ([])),.z 0,.z 0,.d (.v (.int .u64 0)),.d (.v (.int .u64 0)),.z 0,.d (.v (.int .u64 0)),.d (.v (.int .u64 0)),.d (.v (.slice none 0 0)),.d (.v (.int .u64 0)),.d (.ro 1 ([])),.d (.v (.bool false)),.d (.v (.slice none 0 0)),.sl 3 (1)],.rw 58 13 ([cq e b])])])] 2000 [0,1] r (by kernel_rfl) (U (yL [e.p] (by simp)) (U (QJ e b) trivial))
end Go.Proofs.YtgkdnnmcjjabdaaGreat
namespace Go.Proofs.YtgkdnnmcjjabdaaGreat
open Go.RowKit
theorem TS (e:En) (b:List UInt8):(msgs [⟨e.p,e.l.length+1,b⟩])[0]?=some [.z e.p.node,.u e.p.inc,.u ((e.l.length+1)),.ro 1 (aj b)]:=rfl
set_option maxRecDepth 100000 in
theorem SL (e:En) (b:List UInt8) (h:e.Ok) (hl:eN (e.l++[b])):dh Tryz.prog 23 [.pt 0 0,.d (.v (.slice none 0 0))] [.bx 68 [.z e.p.node,.u e.p.inc,.z e.st,.d (.v (.int .u64 0)),.z e.p.node,.u e.p.inc,.d (.ro 2 (procs [e.p])),.d (.ro 1 (ae [0])),.d (.ro 1 (streams [au 0 (e.l++[b])])),.d (.ro 1 (ae [e.l.length])),.u ((e.l.length+1)),.u e.aF,.d (.v (.bool (e.act))),.d (.ro 2 (procs e.set)),.z e.sy.kind,.z e.sy.src.node,.u e.sy.src.inc,.u e.sy.vw.round,.z e.sy.vw.server.node,.u e.sy.vw.server.inc,.u e.sy.n,.d (.v (.slice none 0 0)),.u e.sy.aF,.d (.ro 1 (ae e.sy.cut)),.d (.v (.bool false)),.d (.v (.slice none 0 0)),.d (.v (.bool false)),.d (.v (.int .u64 0)),.z 0,.d (.v (.int .u64 0)),.d (.ro 2 ([])),.d (.ro 1 ([])),.d (.v (.slice none 0 0)),.d (.v (.int .u64 0)),.z 0,.d (.v (.int .u64 0)),.d (.ro 2 ([])),.d (.ro 1 ([])),.d (.ro 1 ([])),.d (.ro 1 ([])),.z 0,.z 0,.d (.v (.int .u64 0)),.d (.v (.int .u64 0)),.z 0,.d (.v (.int .u64 0)),.d (.v (.int .u64 0)),.d (.v (.slice none 0 0)),.d (.v (.int .u64 0)),.d (.ro 1 ([])),.d (.v (.bool false)),.d (.v (.slice none 0 0)),.sl 1 (1)],.rw 58 13 ([cq e b])] (.tu []) ([.bx 68 [.z e.p.node,.u e.p.inc,.z e.st,.d (.v (.int .u64 0)),.z e.p.node,.u e.p.inc,.d (.ro 2 (procs [e.p])),.d (.ro 1 (ae [0])),.d (.ro 1 (streams [au 0 (e.l++[b])])),.d (.ro 1 (ae [(e.l++[b]).length])),.u ((e.l.length+1)),.u e.aF,.d (.v (.bool (e.act))),.d (.ro 2 (procs e.set)),.z e.sy.kind,.z e.sy.src.node,.u e.sy.src.inc,.u e.sy.vw.round,.z e.sy.vw.server.node,.u e.sy.vw.server.inc,.u e.sy.n,.d (.v (.slice none 0 0)),.u e.sy.aF,.d (.ro 1 (ae e.sy.cut)),.d (.v (.bool false)),.d (.v (.slice none 0 0)),.d (.v (.bool false)),.d (.v (.int .u64 0)),.z 0,.d (.v (.int .u64 0)),.d (.ro 2 ([])),.d (.ro 1 ([])),.d (.v (.slice none 0 0)),.d (.v (.int .u64 0)),.z 0,.d (.v (.int .u64 0)),.d (.ro 2 ([])),.d (.ro 1 ([])),.d (.ro 1 ([])),.d (.ro 1 ([])),.z 0,.z 0,.d (.v (.int .u64 0)),.d (.v (.int .u64 0)),.z 0,.d (.v (.int .u64 0)),.d (.v (.int .u64 0)),.d (.v (.slice none 0 0)),.d (.v (.int .u64 0)),.d (.ro 1 ([])),.d (.v (.bool false)),.d (.v (.slice none 0 0)),.sl 2 (2)],.dead,.rw 58 13 ([cq e b,gU e b])]):=by
 refine dh.intro (by kernel_rfl) rfl rfl 45 rfl rfl fun D w0 K bs ac wd hK (bG:bs.m=2) r=>?_
 refine Sm (todo':=aft Tryz.f23 0) (E':=[(0,.pt 0 0),(4,.pt 2 0),(5,.d (.ro 4 (msgs [⟨e.p,e.l.length+1,b⟩])))]) (M':=[.bx 68 [.z e.p.node,.u e.p.inc,.z e.st,.d (.v (.int .u64 0)),.z e.p.node,.u e.p.inc,.d (.ro 2 (procs [e.p])),.d (.ro 1 (ae [0])),.d (.ro 1 (streams [au 0 (e.l++[b])])),.d (.ro 1 (ae [e.l.length])),.u ((e.l.length+1)),.u e.aF,.d (.v (.bool (e.act))),.d (.ro 2 (procs e.set)),.z e.sy.kind,.z e.sy.src.node,.u e.sy.src.inc,.u e.sy.vw.round,.z e.sy.vw.server.node,.u e.sy.vw.server.inc,.u e.sy.n,.d (.v (.slice none 0 0)),.u e.sy.aF,.d (.ro 1 (ae e.sy.cut)),.d (.v (.bool false)),.d (.v (.slice none 0 0)),.d (.v (.bool false)),.d (.v (.int .u64 0)),.z 0,.d (.v (.int .u64 0)),.d (.ro 2 ([])),.d (.ro 1 ([])),.d (.v (.slice none 0 0)),.d (.v (.int .u64 0)),.z 0,.d (.v (.int .u64 0)),.d (.ro 2 ([])),.d (.ro 1 ([])),.d (.ro 1 ([])),.d (.ro 1 ([])),.z 0,.z 0,.d (.v (.int .u64 0)),.d (.v (.int .u64 0)),.z 0,.d (.v (.int .u64 0)),.d (.v (.int .u64 0)),.d (.v (.slice none 0 0)),.d (.v (.int .u64 0)),.d (.ro 1 ([])),.d (.v (.bool false)),.d (.v (.slice none 0 0)),.sl 1 (1)],.rw 58 13 ([cq e b]),.bx 37 [.d (.v (.int .u64 0)),.z e.p.node,.u e.p.inc,.d (.ro 2 (procs [e.p])),.d (.ro 1 (ae [0])),.d (.ro 1 (streams [au 0 (e.l++[b])])),.d (.ro 1 (ae [(e.l++[b]).length]))]]) tk tq hK bG [(0,[(6,.aM (.tu [.ag [.v (.int .u64 0),.z e.p.node,.u e.p.inc,.ro 2 (procs [e.p]),.ro 1 (ae [0]),.ro 1 (streams [au 0 (e.l++[b])]),.ro 1 (ae [(e.l++[b]).length])],.ro 4 (msgs [⟨e.p,e.l.length+1,b⟩])]))])] 2 [0,1,2] [0,4,5] r (by kernel_rfl) (U (SJ e.p e.l b h.p hl) trivial) fun ac wd r=>?_
 have r:=(r.shift 1 rfl).cast (M':=[.bx 68 [.z e.p.node,.u e.p.inc,.z e.st,.d (.v (.int .u64 0)),.z e.p.node,.u e.p.inc,.d (.ro 2 (procs [e.p])),.d (.ro 1 (ae [0])),.d (.ro 1 (streams [au 0 (e.l++[b])])),.d (.ro 1 (ae [e.l.length])),.u ((e.l.length+1)),.u e.aF,.d (.v (.bool (e.act))),.d (.ro 2 (procs e.set)),.z e.sy.kind,.z e.sy.src.node,.u e.sy.src.inc,.u e.sy.vw.round,.z e.sy.vw.server.node,.u e.sy.vw.server.inc,.u e.sy.n,.d (.v (.slice none 0 0)),.u e.sy.aF,.d (.ro 1 (ae e.sy.cut)),.d (.v (.bool false)),.d (.v (.slice none 0 0)),.d (.v (.bool false)),.d (.v (.int .u64 0)),.z 0,.d (.v (.int .u64 0)),.d (.ro 2 ([])),.d (.ro 1 ([])),.d (.v (.slice none 0 0)),.d (.v (.int .u64 0)),.z 0,.d (.v (.int .u64 0)),.d (.ro 2 ([])),.d (.ro 1 ([])),.d (.ro 1 ([])),.d (.ro 1 ([])),.z 0,.z 0,.d (.v (.int .u64 0)),.d (.v (.int .u64 0)),.z 0,.d (.v (.int .u64 0)),.d (.v (.int .u64 0)),.d (.v (.slice none 0 0)),.d (.v (.int .u64 0)),.d (.ro 1 ([])),.d (.v (.bool false)),.d (.v (.slice none 0 0)),.sl 3 (1)],.dead,.bx 37 [.d (.v (.int .u64 0)),.z e.p.node,.u e.p.inc,.d (.ro 2 (procs [e.p])),.d (.ro 1 (ae [0])),.d (.ro 1 (streams [au 0 (e.l++[b])])),.d (.ro 1 (ae [(e.l++[b]).length]))],.rw 58 13 ([cq e b])]) rfl rfl
 refine ig (todo':=hd Tryz.f23 0) (E':=[(0,.pt 0 0),(4,.pt 2 0),(5,.d (.ro 4 (msgs [⟨e.p,e.l.length+1,b⟩]))),(18,.pt 0 0),(19,.ag [.d (.v (.int .u64 0)),.z e.p.node,.u e.p.inc,.d (.ro 2 (procs [e.p])),.d (.ro 1 (ae [0])),.d (.ro 1 (streams [au 0 (e.l++[b])])),.d (.ro 1 (ae [(e.l++[b]).length]))]),(20,.pt 0 0),(21,.pt 0 0),(22,.pt 0 3),(23,.d (.ro 4 (msgs [⟨e.p,e.l.length+1,b⟩]))),(24,.n 1),(25,.z 0)]) (M':=[.bx 68 [.z e.p.node,.u e.p.inc,.z e.st,.d (.v (.int .u64 0)),.z e.p.node,.u e.p.inc,.d (.ro 2 (procs [e.p])),.d (.ro 1 (ae [0])),.d (.ro 1 (streams [au 0 (e.l++[b])])),.d (.ro 1 (ae [(e.l++[b]).length])),.u ((e.l.length+1)),.u e.aF,.d (.v (.bool (e.act))),.d (.ro 2 (procs e.set)),.z e.sy.kind,.z e.sy.src.node,.u e.sy.src.inc,.u e.sy.vw.round,.z e.sy.vw.server.node,.u e.sy.vw.server.inc,.u e.sy.n,.d (.v (.slice none 0 0)),.u e.sy.aF,.d (.ro 1 (ae e.sy.cut)),.d (.v (.bool false)),.d (.v (.slice none 0 0)),.d (.v (.bool false)),.d (.v (.int .u64 0)),.z 0,.d (.v (.int .u64 0)),.d (.ro 2 ([])),.d (.ro 1 ([])),.d (.v (.slice none 0 0)),.d (.v (.int .u64 0)),.z 0,.d (.v (.int .u64 0)),.d (.ro 2 ([])),.d (.ro 1 ([])),.d (.ro 1 ([])),.d (.ro 1 ([])),.z 0,.z 0,.d (.v (.int .u64 0)),.d (.v (.int .u64 0)),.z 0,.d (.v (.int .u64 0)),.d (.v (.int .u64 0)),.d (.v (.slice none 0 0)),.d (.v (.int .u64 0)),.d (.ro 1 ([])),.d (.v (.bool false)),.d (.v (.slice none 0 0)),.sl 3 (1)],.dead,.bx 37 [.d (.v (.int .u64 0)),.z e.p.node,.u e.p.inc,.d (.ro 2 (procs [e.p])),.d (.ro 1 (ae [0])),.d (.ro 1 (streams [au 0 (e.l++[b])])),.d (.ro 1 (ae [(e.l++[b]).length]))],.rw 58 13 ([cq e b])]) tk tq hK bG [(2,[(1,.z (((1:Nat):Int)))])] 2000 [0,1,2,3] [0,4,5,18,19,20,21,22,23,24,25] r (by kernel_rfl) (U (rfl:(((msgs [⟨e.p,e.l.length+1,b⟩]).length:Nat):Int)=((1:Nat):Int)) trivial) fun ac wd r=>?_
 have TT:=(rfl:(0)=((0:Nat):Int))
 have TV:=(TS e b:(msgs [⟨e.p,e.l.length+1,b⟩])[0]?=some [.z e.p.node,.u e.p.inc,.u ((e.l.length+1)),.ro 1 (aj b)])
 have TW:=((by first | rfl | (simp;done) | (simp<;>omega)):(1)=([cq e b]:List (List DV)).length)
 have TX:=((by first | rfl | (simp;done) | (simp<;>omega)):(1)=([[.z 2,.z e.p.node,.u e.p.inc,.z e.p.node,.u e.p.inc,.u ((e.l.length+1)),.ro 1 (aj b),.v (.int .u64 0),.z 0,.v (.int .u64 0),.v (.slice none 0 0),.v (.slice none 0 0),.v (.slice none 0 0)]]:List (List DV)).length)
 have TY:=((by first | omega | (simp [cU];done) | (simp [cU];omega)):(2*((1)+(1))+192)*168≤281474976710656)
 have TZ:=((by first | omega | (simp [cU];done) | (simp [cU];omega)):(1)+(1)<4611686018427387904)
 have T1:=((by simp [bY,AV.one,cD,aj]):bY ([[.z 2,.z e.p.node,.u e.p.inc,.z e.p.node,.u e.p.inc,.u ((e.l.length+1)),.ro 1 (aj b),.v (.int .u64 0),.z 0,.v (.int .u64 0),.v (.slice none 0 0),.v (.slice none 0 0),.v (.slice none 0 0)]]))
 refine HF (todo':=aft Tryz.f23 5) (E':=[(0,.pt 0 0),(23,.d (.ro 4 (msgs [⟨e.p,e.l.length+1,b⟩]))),(24,.n 1),(25,.z 0),(26,.d (.v (.bool true))),(27,.rp [.z e.p.node,.u e.p.inc,.u ((e.l.length+1)),.ro 1 (aj b)] 0),(28,.ag [.z e.p.node,.u e.p.inc,.u ((e.l.length+1)),.d (.ro 1 (aj b))]),(7,.pt 4 0),(29,.pt 0 0),(30,.pt 0 0),(31,.pt 0 0),(32,.pt 0 0),(33,.pt 0 0),(35,.pt 4 0),(36,.ag [.z e.p.node,.u e.p.inc]),(37,.pt 4 2),(38,.u ((e.l.length+1))),(39,.pt 4 3),(40,.d (.ro 1 (aj b))),(34,.ag [.z e.p.node,.u e.p.inc]),(41,.ag [.z 2,.z e.p.node,.u e.p.inc,.z e.p.node,.u e.p.inc,.u ((e.l.length+1)),.d (.ro 1 (aj b)),.d (.v (.int .u64 0)),.z 0,.d (.v (.int .u64 0)),.d (.v (.slice none 0 0)),.d (.v (.slice none 0 0)),.d (.v (.slice none 0 0))]),(42,.sl 5 (1))]) (M':=[.bx 68 [.z e.p.node,.u e.p.inc,.z e.st,.d (.v (.int .u64 0)),.z e.p.node,.u e.p.inc,.d (.ro 2 (procs [e.p])),.d (.ro 1 (ae [0])),.d (.ro 1 (streams [au 0 (e.l++[b])])),.d (.ro 1 (ae [(e.l++[b]).length])),.u ((e.l.length+1)),.u e.aF,.d (.v (.bool (e.act))),.d (.ro 2 (procs e.set)),.z e.sy.kind,.z e.sy.src.node,.u e.sy.src.inc,.u e.sy.vw.round,.z e.sy.vw.server.node,.u e.sy.vw.server.inc,.u e.sy.n,.d (.v (.slice none 0 0)),.u e.sy.aF,.d (.ro 1 (ae e.sy.cut)),.d (.v (.bool false)),.d (.v (.slice none 0 0)),.d (.v (.bool false)),.d (.v (.int .u64 0)),.z 0,.d (.v (.int .u64 0)),.d (.ro 2 ([])),.d (.ro 1 ([])),.d (.v (.slice none 0 0)),.d (.v (.int .u64 0)),.z 0,.d (.v (.int .u64 0)),.d (.ro 2 ([])),.d (.ro 1 ([])),.d (.ro 1 ([])),.d (.ro 1 ([])),.z 0,.z 0,.d (.v (.int .u64 0)),.d (.v (.int .u64 0)),.z 0,.d (.v (.int .u64 0)),.d (.v (.int .u64 0)),.d (.v (.slice none 0 0)),.d (.v (.int .u64 0)),.d (.ro 1 ([])),.d (.v (.bool false)),.d (.v (.slice none 0 0)),.sl 3 (1+(1))],.dead,.bx 37 [.d (.v (.int .u64 0)),.z e.p.node,.u e.p.inc,.d (.ro 2 (procs [e.p])),.d (.ro 1 (ae [0])),.d (.ro 1 (streams [au 0 (e.l++[b])])),.d (.ro 1 (ae [(e.l++[b]).length]))],.rw 58 13 ([cq e b]++[[.z 2,.z e.p.node,.u e.p.inc,.z e.p.node,.u e.p.inc,.u ((e.l.length+1)),.ro 1 (aj b),.v (.int .u64 0),.z 0,.v (.int .u64 0),.v (.slice none 0 0),.v (.slice none 0 0),.v (.slice none 0 0)]]),.bx 94 [.z e.p.node,.u e.p.inc,.u ((e.l.length+1)),.d (.ro 1 (aj b))],.dead]) tk tq hK bG [(4,[(0,.ix (0) [.z e.p.node,.u e.p.inc,.u ((e.l.length+1)),.ro 1 (aj b)])]),(5,[(14,.cg 200 [])])] 9 1 [5] [[0,1,2,3,4,5]] [0,23,24,25,26,27,28,7,29,30,31,32,33,35,36,37,38,39,40,34,41,42] r (by kernel_rfl) (U (U TT (U TV (U TW (U TX (U TY (U TZ (U T1 trivial))))))) trivial) fun ac wd r=>?_
 refine ig (todo':=hd Tryz.f23 0) (E':=[(0,.pt 0 0),(23,.d (.ro 4 (msgs [⟨e.p,e.l.length+1,b⟩]))),(24,.n 1),(25,.z 1),(26,.d (.v (.bool true))),(27,.rp [.z e.p.node,.u e.p.inc,.u ((e.l.length+1)),.ro 1 (aj b)] 0),(28,.ag [.z e.p.node,.u e.p.inc,.u ((e.l.length+1)),.d (.ro 1 (aj b))]),(7,.pt 4 0),(29,.pt 0 0),(30,.pt 0 0),(31,.pt 0 0),(32,.pt 0 0),(33,.pt 0 0),(35,.pt 4 0),(36,.ag [.z e.p.node,.u e.p.inc]),(37,.pt 4 2),(38,.u ((e.l.length+1))),(39,.pt 4 3),(40,.d (.ro 1 (aj b))),(34,.ag [.z e.p.node,.u e.p.inc]),(41,.ag [.z 2,.z e.p.node,.u e.p.inc,.z e.p.node,.u e.p.inc,.u ((e.l.length+1)),.d (.ro 1 (aj b)),.d (.v (.int .u64 0)),.z 0,.d (.v (.int .u64 0)),.d (.v (.slice none 0 0)),.d (.v (.slice none 0 0)),.d (.v (.slice none 0 0))]),(42,.sl 5 (1)),(44,.z 1)]) (M':=[.bx 68 [.z e.p.node,.u e.p.inc,.z e.st,.d (.v (.int .u64 0)),.z e.p.node,.u e.p.inc,.d (.ro 2 (procs [e.p])),.d (.ro 1 (ae [0])),.d (.ro 1 (streams [au 0 (e.l++[b])])),.d (.ro 1 (ae [(e.l++[b]).length])),.u ((e.l.length+1)),.u e.aF,.d (.v (.bool (e.act))),.d (.ro 2 (procs e.set)),.z e.sy.kind,.z e.sy.src.node,.u e.sy.src.inc,.u e.sy.vw.round,.z e.sy.vw.server.node,.u e.sy.vw.server.inc,.u e.sy.n,.d (.v (.slice none 0 0)),.u e.sy.aF,.d (.ro 1 (ae e.sy.cut)),.d (.v (.bool false)),.d (.v (.slice none 0 0)),.d (.v (.bool false)),.d (.v (.int .u64 0)),.z 0,.d (.v (.int .u64 0)),.d (.ro 2 ([])),.d (.ro 1 ([])),.d (.v (.slice none 0 0)),.d (.v (.int .u64 0)),.z 0,.d (.v (.int .u64 0)),.d (.ro 2 ([])),.d (.ro 1 ([])),.d (.ro 1 ([])),.d (.ro 1 ([])),.z 0,.z 0,.d (.v (.int .u64 0)),.d (.v (.int .u64 0)),.z 0,.d (.v (.int .u64 0)),.d (.v (.int .u64 0)),.d (.v (.slice none 0 0)),.d (.v (.int .u64 0)),.d (.ro 1 ([])),.d (.v (.bool false)),.d (.v (.slice none 0 0)),.sl 3 (1+(1))],.dead,.bx 37 [.d (.v (.int .u64 0)),.z e.p.node,.u e.p.inc,.d (.ro 2 (procs [e.p])),.d (.ro 1 (ae [0])),.d (.ro 1 (streams [au 0 (e.l++[b])])),.d (.ro 1 (ae [(e.l++[b]).length]))],.rw 58 13 ([cq e b]++[[.z 2,.z e.p.node,.u e.p.inc,.z e.p.node,.u e.p.inc,.u ((e.l.length+1)),.ro 1 (aj b),.v (.int .u64 0),.z 0,.v (.int .u64 0),.v (.slice none 0 0),.v (.slice none 0 0),.v (.slice none 0 0)]]),.bx 94 [.z e.p.node,.u e.p.inc,.u ((e.l.length+1)),.d (.ro 1 (aj b))],.dead]) tk tq hK bG [(6,[(0,.z (1))])] 2000 [0,1,2,3,4,5] [0,23,24,25,26,27,28,7,29,30,31,32,33,35,36,37,38,39,40,34,41,42,44] r (by kernel_rfl) (U ((wi (by omega)):IntKind.i64.wrap ((0:Int)+1)=1) trivial) fun ac wd r=>?_
 refine gC (y:=.tu []) (N':=[.bx 68 [.z e.p.node,.u e.p.inc,.z e.st,.d (.v (.int .u64 0)),.z e.p.node,.u e.p.inc,.d (.ro 2 (procs [e.p])),.d (.ro 1 (ae [0])),.d (.ro 1 (streams [au 0 (e.l++[b])])),.d (.ro 1 (ae [(e.l++[b]).length])),.u ((e.l.length+1)),.u e.aF,.d (.v (.bool (e.act))),.d (.ro 2 (procs e.set)),.z e.sy.kind,.z e.sy.src.node,.u e.sy.src.inc,.u e.sy.vw.round,.z e.sy.vw.server.node,.u e.sy.vw.server.inc,.u e.sy.n,.d (.v (.slice none 0 0)),.u e.sy.aF,.d (.ro 1 (ae e.sy.cut)),.d (.v (.bool false)),.d (.v (.slice none 0 0)),.d (.v (.bool false)),.d (.v (.int .u64 0)),.z 0,.d (.v (.int .u64 0)),.d (.ro 2 ([])),.d (.ro 1 ([])),.d (.v (.slice none 0 0)),.d (.v (.int .u64 0)),.z 0,.d (.v (.int .u64 0)),.d (.ro 2 ([])),.d (.ro 1 ([])),.d (.ro 1 ([])),.d (.ro 1 ([])),.z 0,.z 0,.d (.v (.int .u64 0)),.d (.v (.int .u64 0)),.z 0,.d (.v (.int .u64 0)),.d (.v (.int .u64 0)),.d (.v (.slice none 0 0)),.d (.v (.int .u64 0)),.d (.ro 1 ([])),.d (.v (.bool false)),.d (.v (.slice none 0 0)),.sl 2 (1+(1))],.dead,.rw 58 13 ([cq e b]++[[.z 2,.z e.p.node,.u e.p.inc,.z e.p.node,.u e.p.inc,.u ((e.l.length+1)),.ro 1 (aj b),.v (.int .u64 0),.z 0,.v (.int .u64 0),.v (.slice none 0 0),.v (.slice none 0 0),.v (.slice none 0 0)]])]) (rfl) (rfl) ?_
 exact gA tk tq hK rfl bG [] 2000 [0,1,3] r (by kernel_rfl) trivial
end Go.Proofs.YtgkdnnmcjjabdaaGreat
namespace Go.Proofs.YtgkdnnmcjjabdaaGreat
open Go.RowKit
def ED (e:En):List DV:=[.z e.p.node,.u e.p.inc,.z e.st,.v (.int .u64 0),.z e.p.node,.u e.p.inc,.ro 2 (procs [e.p]),.ro 1 (ae [0]),.ro 1 (streams [au 0 e.l]),.ro 1 (ae [e.l.length]),.u e.l.length,.u e.aF,.v (.bool (e.act)),.ro 2 (procs e.set),.z e.sy.kind,.z e.sy.src.node,.u e.sy.src.inc,.u e.sy.vw.round,.z e.sy.vw.server.node,.u e.sy.vw.server.inc,.u e.sy.n,.v (.slice none 0 0),.u e.sy.aF,.ro 1 (ae e.sy.cut),.v (.bool false),.v (.slice none 0 0),.v (.bool false),.v (.int .u64 0),.z 0,.v (.int .u64 0),.ro 2 ([]),.ro 1 ([]),.v (.slice none 0 0),.v (.int .u64 0),.z 0,.v (.int .u64 0),.ro 2 ([]),.ro 1 ([]),.ro 1 ([]),.ro 1 ([]),.z 0,.z 0,.v (.int .u64 0),.v (.int .u64 0),.z 0,.v (.int .u64 0),.v (.int .u64 0),.v (.slice none 0 0),.v (.int .u64 0),.ro 1 ([]),.v (.bool false)]
def En.new (p:ay):En:=⟨p,0,[],0,false,[],⟨0,⟨0,0⟩,⟨0,⟨0,0⟩⟩,0,0,[]⟩⟩
theorem SM (p:ay):al Tryz.prog 14 [.ag [.d (.v (.int .u64 0)),.z p.node,.u p.inc,.d (.ro 2 (procs [p])),.d (.ro 1 (ae [0]))]] (.ag [.v (.int .u64 0),.z p.node,.u p.inc,.ro 2 (procs [p]),.ro 1 (ae [0]),.ro 1 (streams [au 0 ([])]),.ro 1 (ae [0])]):=by
 have h:=(Iw (View.first p) ⟨by simp [View.first],by simp [View.first]⟩).bd
 exact h
set_option maxRecDepth 100000 in
theorem Bi (e:En) (b:List UInt8) (h:e.Ok) (z:Int) (hz:e.st=2∧z=6∨e.st≠2∧64<b.length∧z=2∨e.st≠2∧b.length≤64∧16≤e.l.length∧z=4):al Tryz.prog 8 [.ag [.z e.p.node,.u e.p.inc,.z e.st,.d (.v (.int .u64 0)),.z e.p.node,.u e.p.inc,.d (.ro 2 (procs [e.p])),.d (.ro 1 (ae [0])),.d (.ro 1 (streams [au 0 e.l])),.d (.ro 1 (ae [e.l.length])),.u e.l.length,.u e.aF,.d (.v (.bool (e.act))),.d (.ro 2 (procs e.set)),.z e.sy.kind,.z e.sy.src.node,.u e.sy.src.inc,.u e.sy.vw.round,.z e.sy.vw.server.node,.u e.sy.vw.server.inc,.u e.sy.n,.d (.v (.slice none 0 0)),.u e.sy.aF,.d (.ro 1 (ae e.sy.cut)),.d (.v (.bool false)),.d (.v (.slice none 0 0)),.d (.v (.bool false)),.d (.v (.int .u64 0)),.z 0,.d (.v (.int .u64 0)),.d (.ro 2 ([])),.d (.ro 1 ([])),.d (.v (.slice none 0 0)),.d (.v (.int .u64 0)),.z 0,.d (.v (.int .u64 0)),.d (.ro 2 ([])),.d (.ro 1 ([])),.d (.ro 1 ([])),.d (.ro 1 ([])),.z 0,.z 0,.d (.v (.int .u64 0)),.d (.v (.int .u64 0)),.z 0,.d (.v (.int .u64 0)),.d (.v (.int .u64 0)),.d (.v (.slice none 0 0)),.d (.v (.int .u64 0)),.d (.ro 1 ([])),.d (.v (.bool false))],.d (.ro 1 (aj b))] (.tu [.ag (ED e),.ag [.v (.slice none 0 0),.v (.slice none 0 0)],.v (.int .i64 z)]):=by
 refine al.intro (by kernel_rfl) rfl rfl 118 rfl rfl fun w0 K ac hK r=>?_
 cases h0:((e.st:Int)==2) with
 | false=>
  have bh:=ne_of_beq_false h0
  have gT:=((by simp [aj]):(((aj b).length:Nat):Int)=((b.length:Nat):Int))
  cases h1:(decide ((64:Int)<((b.length:Nat):Int))) with
  | false=>
   have bM:=of_decide_eq_false h1
   cases h2:(decide ((16:Int)≤((e.l.length:Nat):Int))) with
   | false=>
    have cK:=of_decide_eq_false h2
    exact absurd hz (by omega)
   | true=>
    have cK:=of_decide_eq_true h2
    rw [show (.tu [.ag (ED e),.ag [.v (.slice none 0 0),.v (.slice none 0 0)],.v (.int .i64 z)]:DV)=.tu [.ag [.z e.p.node,.u e.p.inc,.z e.st,.v (.int .u64 0),.z e.p.node,.u e.p.inc,.ro 2 (procs [e.p]),.ro 1 (ae [0]),.ro 1 (streams [au 0 e.l]),.ro 1 (ae [e.l.length]),.u e.l.length,.u e.aF,.v (.bool (e.act)),.ro 2 (procs e.set),.z e.sy.kind,.z e.sy.src.node,.u e.sy.src.inc,.u e.sy.vw.round,.z e.sy.vw.server.node,.u e.sy.vw.server.inc,.u e.sy.n,.v (.slice none 0 0),.u e.sy.aF,.ro 1 (ae e.sy.cut),.v (.bool false),.v (.slice none 0 0),.v (.bool false),.v (.int .u64 0),.z 0,.v (.int .u64 0),.ro 2 ([]),.ro 1 ([]),.v (.slice none 0 0),.v (.int .u64 0),.z 0,.v (.int .u64 0),.ro 2 ([]),.ro 1 ([]),.ro 1 ([]),.ro 1 ([]),.z 0,.z 0,.v (.int .u64 0),.v (.int .u64 0),.z 0,.v (.int .u64 0),.v (.int .u64 0),.v (.slice none 0 0),.v (.int .u64 0),.ro 1 ([]),.v (.bool false)],.ag [.v (.slice none 0 0),.v (.slice none 0 0)],.z 4] from (by first | (rw [show z=6 by omega];rfl) | (rw [show z=2 by omega];rfl) | (rw [show z=4 by omega];rfl))]
    exact aN tk tq hK rfl [(1,[(1,.mem [] (.pt 0 0) [.bx 68 [.z e.p.node,.u e.p.inc,.z e.st,.d (.v (.int .u64 0)),.z e.p.node,.u e.p.inc,.d (.ro 2 (procs [e.p])),.d (.ro 1 (ae [0])),.d (.ro 1 (streams [au 0 e.l])),.d (.ro 1 (ae [e.l.length])),.u e.l.length,.u e.aF,.d (.v (.bool (e.act))),.d (.ro 2 (procs e.set)),.z e.sy.kind,.z e.sy.src.node,.u e.sy.src.inc,.u e.sy.vw.round,.z e.sy.vw.server.node,.u e.sy.vw.server.inc,.u e.sy.n,.d (.v (.slice none 0 0)),.u e.sy.aF,.d (.ro 1 (ae e.sy.cut)),.d (.v (.bool false)),.d (.v (.slice none 0 0)),.d (.v (.bool false)),.d (.v (.int .u64 0)),.z 0,.d (.v (.int .u64 0)),.d (.ro 2 ([])),.d (.ro 1 ([])),.d (.v (.slice none 0 0)),.d (.v (.int .u64 0)),.z 0,.d (.v (.int .u64 0)),.d (.ro 2 ([])),.d (.ro 1 ([])),.d (.ro 1 ([])),.d (.ro 1 ([])),.z 0,.z 0,.d (.v (.int .u64 0)),.d (.v (.int .u64 0)),.z 0,.d (.v (.int .u64 0)),.d (.v (.int .u64 0)),.d (.v (.slice none 0 0)),.d (.v (.int .u64 0)),.d (.ro 1 ([])),.d (.v (.bool false)),.d (.v (.slice none 0 0)),.d (.v (.slice none 0 0))]])]),(2,[(5,.b false)]),(4,[(1,.z (((b.length:Nat):Int))),(2,.b false)]),(6,[(5,.b true)])] 2000 r (by kernel_rfl) (U (jR e h) (U h0 (U gT (U h1 (U h2 trivial)))))
  | true=>
   have bM:=of_decide_eq_true h1
   rw [show (.tu [.ag (ED e),.ag [.v (.slice none 0 0),.v (.slice none 0 0)],.v (.int .i64 z)]:DV)=.tu [.ag [.z e.p.node,.u e.p.inc,.z e.st,.v (.int .u64 0),.z e.p.node,.u e.p.inc,.ro 2 (procs [e.p]),.ro 1 (ae [0]),.ro 1 (streams [au 0 e.l]),.ro 1 (ae [e.l.length]),.u e.l.length,.u e.aF,.v (.bool (e.act)),.ro 2 (procs e.set),.z e.sy.kind,.z e.sy.src.node,.u e.sy.src.inc,.u e.sy.vw.round,.z e.sy.vw.server.node,.u e.sy.vw.server.inc,.u e.sy.n,.v (.slice none 0 0),.u e.sy.aF,.ro 1 (ae e.sy.cut),.v (.bool false),.v (.slice none 0 0),.v (.bool false),.v (.int .u64 0),.z 0,.v (.int .u64 0),.ro 2 ([]),.ro 1 ([]),.v (.slice none 0 0),.v (.int .u64 0),.z 0,.v (.int .u64 0),.ro 2 ([]),.ro 1 ([]),.ro 1 ([]),.ro 1 ([]),.z 0,.z 0,.v (.int .u64 0),.v (.int .u64 0),.z 0,.v (.int .u64 0),.v (.int .u64 0),.v (.slice none 0 0),.v (.int .u64 0),.ro 1 ([]),.v (.bool false)],.ag [.v (.slice none 0 0),.v (.slice none 0 0)],.z 2] from (by first | (rw [show z=6 by omega];rfl) | (rw [show z=2 by omega];rfl) | (rw [show z=4 by omega];rfl))]
   exact aN tk tq hK rfl [(1,[(1,.mem [] (.pt 0 0) [.bx 68 [.z e.p.node,.u e.p.inc,.z e.st,.d (.v (.int .u64 0)),.z e.p.node,.u e.p.inc,.d (.ro 2 (procs [e.p])),.d (.ro 1 (ae [0])),.d (.ro 1 (streams [au 0 e.l])),.d (.ro 1 (ae [e.l.length])),.u e.l.length,.u e.aF,.d (.v (.bool (e.act))),.d (.ro 2 (procs e.set)),.z e.sy.kind,.z e.sy.src.node,.u e.sy.src.inc,.u e.sy.vw.round,.z e.sy.vw.server.node,.u e.sy.vw.server.inc,.u e.sy.n,.d (.v (.slice none 0 0)),.u e.sy.aF,.d (.ro 1 (ae e.sy.cut)),.d (.v (.bool false)),.d (.v (.slice none 0 0)),.d (.v (.bool false)),.d (.v (.int .u64 0)),.z 0,.d (.v (.int .u64 0)),.d (.ro 2 ([])),.d (.ro 1 ([])),.d (.v (.slice none 0 0)),.d (.v (.int .u64 0)),.z 0,.d (.v (.int .u64 0)),.d (.ro 2 ([])),.d (.ro 1 ([])),.d (.ro 1 ([])),.d (.ro 1 ([])),.z 0,.z 0,.d (.v (.int .u64 0)),.d (.v (.int .u64 0)),.z 0,.d (.v (.int .u64 0)),.d (.v (.int .u64 0)),.d (.v (.slice none 0 0)),.d (.v (.int .u64 0)),.d (.ro 1 ([])),.d (.v (.bool false)),.d (.v (.slice none 0 0)),.d (.v (.slice none 0 0))]])]),(2,[(5,.b false)]),(4,[(1,.z (((b.length:Nat):Int))),(2,.b true)])] 2000 r (by kernel_rfl) (U (jR e h) (U h0 (U gT (U h1 trivial))))
 | true=>
  have bh:=eq_of_beq h0
  rw [show (.tu [.ag (ED e),.ag [.v (.slice none 0 0),.v (.slice none 0 0)],.v (.int .i64 z)]:DV)=.tu [.ag [.z e.p.node,.u e.p.inc,.z e.st,.v (.int .u64 0),.z e.p.node,.u e.p.inc,.ro 2 (procs [e.p]),.ro 1 (ae [0]),.ro 1 (streams [au 0 e.l]),.ro 1 (ae [e.l.length]),.u e.l.length,.u e.aF,.v (.bool (e.act)),.ro 2 (procs e.set),.z e.sy.kind,.z e.sy.src.node,.u e.sy.src.inc,.u e.sy.vw.round,.z e.sy.vw.server.node,.u e.sy.vw.server.inc,.u e.sy.n,.v (.slice none 0 0),.u e.sy.aF,.ro 1 (ae e.sy.cut),.v (.bool false),.v (.slice none 0 0),.v (.bool false),.v (.int .u64 0),.z 0,.v (.int .u64 0),.ro 2 ([]),.ro 1 ([]),.v (.slice none 0 0),.v (.int .u64 0),.z 0,.v (.int .u64 0),.ro 2 ([]),.ro 1 ([]),.ro 1 ([]),.ro 1 ([]),.z 0,.z 0,.v (.int .u64 0),.v (.int .u64 0),.z 0,.v (.int .u64 0),.v (.int .u64 0),.v (.slice none 0 0),.v (.int .u64 0),.ro 1 ([]),.v (.bool false)],.ag [.v (.slice none 0 0),.v (.slice none 0 0)],.z 6] from (by first | (rw [show z=6 by omega];rfl) | (rw [show z=2 by omega];rfl) | (rw [show z=4 by omega];rfl))]
  exact aN tk tq hK rfl [(1,[(1,.mem [] (.pt 0 0) [.bx 68 [.z e.p.node,.u e.p.inc,.z e.st,.d (.v (.int .u64 0)),.z e.p.node,.u e.p.inc,.d (.ro 2 (procs [e.p])),.d (.ro 1 (ae [0])),.d (.ro 1 (streams [au 0 e.l])),.d (.ro 1 (ae [e.l.length])),.u e.l.length,.u e.aF,.d (.v (.bool (e.act))),.d (.ro 2 (procs e.set)),.z e.sy.kind,.z e.sy.src.node,.u e.sy.src.inc,.u e.sy.vw.round,.z e.sy.vw.server.node,.u e.sy.vw.server.inc,.u e.sy.n,.d (.v (.slice none 0 0)),.u e.sy.aF,.d (.ro 1 (ae e.sy.cut)),.d (.v (.bool false)),.d (.v (.slice none 0 0)),.d (.v (.bool false)),.d (.v (.int .u64 0)),.z 0,.d (.v (.int .u64 0)),.d (.ro 2 ([])),.d (.ro 1 ([])),.d (.v (.slice none 0 0)),.d (.v (.int .u64 0)),.z 0,.d (.v (.int .u64 0)),.d (.ro 2 ([])),.d (.ro 1 ([])),.d (.ro 1 ([])),.d (.ro 1 ([])),.z 0,.z 0,.d (.v (.int .u64 0)),.d (.v (.int .u64 0)),.z 0,.d (.v (.int .u64 0)),.d (.v (.int .u64 0)),.d (.v (.slice none 0 0)),.d (.v (.int .u64 0)),.d (.ro 1 ([])),.d (.v (.bool false)),.d (.v (.slice none 0 0)),.d (.v (.slice none 0 0))]])]),(2,[(5,.b true)])] 2000 r (by kernel_rfl) (U (jR e h) (U h0 trivial))
set_option maxRecDepth 100000 in
theorem Pg (e:En) (b:List UInt8) (h:e.Ok) (hs:e.st≠2) (hb:b.length≤64) (lq:e.l.length<16):al Tryz.prog 8 [.ag [.z e.p.node,.u e.p.inc,.z e.st,.d (.v (.int .u64 0)),.z e.p.node,.u e.p.inc,.d (.ro 2 (procs [e.p])),.d (.ro 1 (ae [0])),.d (.ro 1 (streams [au 0 e.l])),.d (.ro 1 (ae [e.l.length])),.u e.l.length,.u e.aF,.d (.v (.bool (e.act))),.d (.ro 2 (procs e.set)),.z e.sy.kind,.z e.sy.src.node,.u e.sy.src.inc,.u e.sy.vw.round,.z e.sy.vw.server.node,.u e.sy.vw.server.inc,.u e.sy.n,.d (.v (.slice none 0 0)),.u e.sy.aF,.d (.ro 1 (ae e.sy.cut)),.d (.v (.bool false)),.d (.v (.slice none 0 0)),.d (.v (.bool false)),.d (.v (.int .u64 0)),.z 0,.d (.v (.int .u64 0)),.d (.ro 2 ([])),.d (.ro 1 ([])),.d (.v (.slice none 0 0)),.d (.v (.int .u64 0)),.z 0,.d (.v (.int .u64 0)),.d (.ro 2 ([])),.d (.ro 1 ([])),.d (.ro 1 ([])),.d (.ro 1 ([])),.z 0,.z 0,.d (.v (.int .u64 0)),.d (.v (.int .u64 0)),.z 0,.d (.v (.int .u64 0)),.d (.v (.int .u64 0)),.d (.v (.slice none 0 0)),.d (.v (.int .u64 0)),.d (.ro 1 ([])),.d (.v (.bool false))],.d (.ro 1 (aj b))] (.tu [.ag [.z e.p.node,.u e.p.inc,.z e.st,.v (.int .u64 0),.z e.p.node,.u e.p.inc,.ro 2 (procs [e.p]),.ro 1 (ae [0]),.ro 1 (streams [au 0 (e.l++[b])]),.ro 1 (ae [(e.l++[b]).length]),.u ((e.l.length+1)),.u e.aF,.v (.bool (e.act)),.ro 2 (procs e.set),.z e.sy.kind,.z e.sy.src.node,.u e.sy.src.inc,.u e.sy.vw.round,.z e.sy.vw.server.node,.u e.sy.vw.server.inc,.u e.sy.n,.v (.slice none 0 0),.u e.sy.aF,.ro 1 (ae e.sy.cut),.v (.bool false),.v (.slice none 0 0),.v (.bool false),.v (.int .u64 0),.z 0,.v (.int .u64 0),.ro 2 ([]),.ro 1 ([]),.v (.slice none 0 0),.v (.int .u64 0),.z 0,.v (.int .u64 0),.ro 2 ([]),.ro 1 ([]),.ro 1 ([]),.ro 1 ([]),.z 0,.z 0,.v (.int .u64 0),.v (.int .u64 0),.z 0,.v (.int .u64 0),.v (.int .u64 0),.v (.slice none 0 0),.v (.int .u64 0),.ro 1 ([]),.v (.bool false)],.ag [.v (.slice none 0 0),.em 58 13 [cq e b,gU e b]],.v (.int .i64 0)]):=by
 have g9:=H3 h.l lq hb
 refine al.intro (by kernel_rfl) rfl rfl 118 rfl rfl fun w0 K ac hK r=>?_
 cases h0:((e.st:Int)==2) with
 | false=>
  have bh:=ne_of_beq_false h0
  have gT:=((by first | rfl | simp [aj]):(((aj b).length:Nat):Int)=((b.length:Nat):Int))
  cases h1:(decide ((64:Int)<((b.length:Nat):Int))) with
  | false=>
   have bM:=of_decide_eq_false h1
   cases h2:(decide ((16:Int)≤((e.l.length:Nat):Int))) with
   | false=>
    have cK:=of_decide_eq_false h2
    have nw:=((by first | rfl | simp [aj]):(((aj b).length:Nat):Int)=((b.length:Nat):Int))
    have nx:=((wu (by omega)):IntKind.u64.wrap ((((e.l.length:Nat):Int):Int)+1)=((e.l.length+1:Nat):Int))
    have kZ:=((by first | rfl | (simp;done) | (simp<;>omega)):(1)=([[.z 1,.z e.p.node,.u e.p.inc,.z 0,.v (.int .u64 0),.u (e.l.length+1),.ro 1 (aj b),.v (.int .u64 0),.z 0,.v (.int .u64 0),.v (.slice none 0 0),.v (.slice none 0 0),.v (.slice none 0 0)]]:List (List DV)).length)
    have ny:=((by first | omega | (simp [cU];done) | (simp [cU];omega)):(2*(0+(1))+192)*168≤281474976710656)
    have nz:=((by first | omega | (simp [cU];done) | (simp [cU];omega)):0+(1)<4611686018427387904)
    have l7:=((by simp [bY,AV.one,cD,aj]):bY ([[.z 1,.z e.p.node,.u e.p.inc,.z 0,.v (.int .u64 0),.u (e.l.length+1),.ro 1 (aj b),.v (.int .u64 0),.z 0,.v (.int .u64 0),.v (.slice none 0 0),.v (.slice none 0 0),.v (.slice none 0 0)]]))
    refine lI (todo':=aft Tryz.f8 9) (E':=[(1,.d (.ro 1 (aj b))),(4,.pt 1 0),(5,.pt 2 0),(6,.z 0),(7,.pt 3 0)]) (M':=[.bx 42 [.z e.p.node,.u e.p.inc,.z e.st,.d (.v (.int .u64 0)),.z e.p.node,.u e.p.inc,.d (.ro 2 (procs [e.p])),.d (.ro 1 (ae [0])),.d (.ro 1 (streams [au 0 e.l])),.d (.ro 1 (ae [e.l.length])),.u e.l.length,.u e.aF,.d (.v (.bool (e.act))),.d (.ro 2 (procs e.set)),.z e.sy.kind,.z e.sy.src.node,.u e.sy.src.inc,.u e.sy.vw.round,.z e.sy.vw.server.node,.u e.sy.vw.server.inc,.u e.sy.n,.d (.v (.slice none 0 0)),.u e.sy.aF,.d (.ro 1 (ae e.sy.cut)),.d (.v (.bool false)),.d (.v (.slice none 0 0)),.d (.v (.bool false)),.d (.v (.int .u64 0)),.z 0,.d (.v (.int .u64 0)),.d (.ro 2 ([])),.d (.ro 1 ([])),.d (.v (.slice none 0 0)),.d (.v (.int .u64 0)),.z 0,.d (.v (.int .u64 0)),.d (.ro 2 ([])),.d (.ro 1 ([])),.d (.ro 1 ([])),.d (.ro 1 ([])),.z 0,.z 0,.d (.v (.int .u64 0)),.d (.v (.int .u64 0)),.z 0,.d (.v (.int .u64 0)),.d (.v (.int .u64 0)),.d (.v (.slice none 0 0)),.d (.v (.int .u64 0)),.d (.ro 1 ([])),.d (.v (.bool false))],.bx 42 [.z 0,.d (.v (.int .u64 0)),.z 0,.d (.v (.int .u64 0)),.z 0,.d (.v (.int .u64 0)),.d (.v (.slice none 0 0)),.d (.v (.slice none 0 0)),.d (.v (.slice none 0 0)),.d (.v (.slice none 0 0)),.d (.v (.int .u64 0)),.d (.v (.int .u64 0)),.d (.v (.bool false)),.d (.v (.slice none 0 0)),.z 0,.z 0,.d (.v (.int .u64 0)),.d (.v (.int .u64 0)),.z 0,.d (.v (.int .u64 0)),.d (.v (.int .u64 0)),.d (.v (.slice none 0 0)),.d (.v (.int .u64 0)),.d (.v (.slice none 0 0)),.d (.v (.bool false)),.d (.v (.slice none 0 0)),.d (.v (.bool false)),.d (.v (.int .u64 0)),.z 0,.d (.v (.int .u64 0)),.d (.v (.slice none 0 0)),.d (.v (.slice none 0 0)),.d (.v (.slice none 0 0)),.d (.v (.int .u64 0)),.z 0,.d (.v (.int .u64 0)),.d (.v (.slice none 0 0)),.d (.v (.slice none 0 0)),.d (.v (.slice none 0 0)),.d (.v (.slice none 0 0)),.z 0,.z 0,.d (.v (.int .u64 0)),.d (.v (.int .u64 0)),.z 0,.d (.v (.int .u64 0)),.d (.v (.int .u64 0)),.d (.v (.slice none 0 0)),.d (.v (.int .u64 0)),.d (.v (.slice none 0 0)),.d (.v (.bool false))],.bx 47 [.d (.v (.slice none 0 0)),.d (.v (.slice none 0 0))],.bx 68 [.z e.p.node,.u e.p.inc,.z e.st,.d (.v (.int .u64 0)),.z e.p.node,.u e.p.inc,.d (.ro 2 (procs [e.p])),.d (.ro 1 (ae [0])),.d (.ro 1 (streams [au 0 e.l])),.d (.ro 1 (ae [e.l.length])),.u (e.l.length+1),.u e.aF,.d (.v (.bool (e.act))),.d (.ro 2 (procs e.set)),.z e.sy.kind,.z e.sy.src.node,.u e.sy.src.inc,.u e.sy.vw.round,.z e.sy.vw.server.node,.u e.sy.vw.server.inc,.u e.sy.n,.d (.v (.slice none 0 0)),.u e.sy.aF,.d (.ro 1 (ae e.sy.cut)),.d (.v (.bool false)),.d (.v (.slice none 0 0)),.d (.v (.bool false)),.d (.v (.int .u64 0)),.z 0,.d (.v (.int .u64 0)),.d (.ro 2 ([])),.d (.ro 1 ([])),.d (.v (.slice none 0 0)),.d (.v (.int .u64 0)),.z 0,.d (.v (.int .u64 0)),.d (.ro 2 ([])),.d (.ro 1 ([])),.d (.ro 1 ([])),.d (.ro 1 ([])),.z 0,.z 0,.d (.v (.int .u64 0)),.d (.v (.int .u64 0)),.z 0,.d (.v (.int .u64 0)),.d (.v (.int .u64 0)),.d (.v (.slice none 0 0)),.d (.v (.int .u64 0)),.d (.ro 1 ([])),.d (.v (.bool false)),.d (.v (.slice none 0 0)),.sl 5 ((1))],.dead,.rw 58 13 ([[.z 1,.z e.p.node,.u e.p.inc,.z 0,.v (.int .u64 0),.u (e.l.length+1),.ro 1 (aj b),.v (.int .u64 0),.z 0,.v (.int .u64 0),.v (.slice none 0 0),.v (.slice none 0 0),.v (.slice none 0 0)]])]) tk tq hK [(1,[(1,.mem [] (.pt 0 0) [.bx 68 [.z e.p.node,.u e.p.inc,.z e.st,.d (.v (.int .u64 0)),.z e.p.node,.u e.p.inc,.d (.ro 2 (procs [e.p])),.d (.ro 1 (ae [0])),.d (.ro 1 (streams [au 0 e.l])),.d (.ro 1 (ae [e.l.length])),.u e.l.length,.u e.aF,.d (.v (.bool (e.act))),.d (.ro 2 (procs e.set)),.z e.sy.kind,.z e.sy.src.node,.u e.sy.src.inc,.u e.sy.vw.round,.z e.sy.vw.server.node,.u e.sy.vw.server.inc,.u e.sy.n,.d (.v (.slice none 0 0)),.u e.sy.aF,.d (.ro 1 (ae e.sy.cut)),.d (.v (.bool false)),.d (.v (.slice none 0 0)),.d (.v (.bool false)),.d (.v (.int .u64 0)),.z 0,.d (.v (.int .u64 0)),.d (.ro 2 ([])),.d (.ro 1 ([])),.d (.v (.slice none 0 0)),.d (.v (.int .u64 0)),.z 0,.d (.v (.int .u64 0)),.d (.ro 2 ([])),.d (.ro 1 ([])),.d (.ro 1 ([])),.d (.ro 1 ([])),.z 0,.z 0,.d (.v (.int .u64 0)),.d (.v (.int .u64 0)),.z 0,.d (.v (.int .u64 0)),.d (.v (.int .u64 0)),.d (.v (.slice none 0 0)),.d (.v (.int .u64 0)),.d (.ro 1 ([])),.d (.v (.bool false)),.d (.v (.slice none 0 0)),.d (.v (.slice none 0 0))]])]),(2,[(5,.b false)]),(4,[(1,.z (((b.length:Nat):Int))),(2,.b false)]),(6,[(5,.b false)]),(8,[(5,.z (((e.l.length+1:Nat):Int)))]),(9,[(12,.aM (.ro 1 (aj b))),(15,.cg 200 [])])] 20 6 [5,10] [[0,1,2,3,4,5],[0,1,2,3,4,5],[0,1,2,3,4,5],[0,1,2,3,4,5],[0,1,2,3,4,5],[0,1,2,3,4,5]] [1,4,5,6,7] r (by kernel_rfl) (U (U (jR e h) (U h0 (U nw (U h1 (U h2 (U nx (U (ow b (by omega)) (U kZ (U ny (U nz (U l7 trivial))))))))))) (U (U (jR e h) (U h0 (U nw (U h1 (U h2 (U nx (U (ow b (by omega)) (U kZ (U ny (U nz (U l7 trivial))))))))))) (U (U (jR e h) (U h0 (U nw (U h1 (U h2 (U nx (U (ow b (by omega)) (U kZ (U ny (U nz (U l7 trivial))))))))))) (U (U (jR e h) (U h0 (U nw (U h1 (U h2 (U nx (U (ow b (by omega)) (U kZ (U ny (U nz (U l7 trivial))))))))))) (U (U (jR e h) (U h0 (U nw (U h1 (U h2 (U nx (U (ow b (by omega)) (U kZ (U ny (U nz (U l7 trivial))))))))))) (U (U (jR e h) (U h0 (U nw (U h1 (U h2 (U nx (U (ow b (by omega)) (U kZ (U ny (U nz (U l7 trivial))))))))))) trivial)))))) fun ac wd r=>?_
    refine bD (todo':=hd Tryz.f8 0) (E':=[(1,.d (.ro 1 (aj b))),(4,.pt 1 0),(5,.pt 2 0),(6,.z 0),(7,.pt 3 0),(71,.pt 3 0),(72,.pt 3 0),(73,.pt 3 0),(74,.pt 3 0),(75,.ag [.z e.p.node,.u e.p.inc]),(76,.pt 3 0),(77,.pt 3 0),(78,.pt 3 0),(79,.pt 3 3),(80,.pt 3 3),(81,.pt 3 3),(82,.ag [.d (.v (.int .u64 0)),.z e.p.node,.u e.p.inc]),(83,.pt 3 0),(84,.pt 3 0),(85,.pt 3 0),(86,.pt 3 10),(87,.u (e.l.length+1)),(88,.d (.ro 1 (aj b))),(89,.ag [.z 7,.z e.p.node,.u e.p.inc,.d (.v (.int .u64 0)),.z e.p.node,.u e.p.inc,.u (e.l.length+1),.d (.ro 1 (aj b)),.d (.v (.int .u64 0)),.d (.v (.slice none 0 0)),.d (.v (.bool false))]),(8,.pt 6 0),(90,.pt 3 0),(91,.ag [.z 7,.z e.p.node,.u e.p.inc,.d (.v (.int .u64 0)),.z e.p.node,.u e.p.inc,.u (e.l.length+1),.d (.ro 1 (aj b)),.d (.v (.int .u64 0)),.d (.v (.slice none 0 0)),.d (.v (.bool false))]),(92,.d (.v (.bool true))),(93,.pt 3 0),(94,.d (.ro 2 (([]:List (List DV))))),(95,.n ((([]:List (List DV))).length)),(96,.z 0)]) (M':=[.bx 42 [.z e.p.node,.u e.p.inc,.z e.st,.d (.v (.int .u64 0)),.z e.p.node,.u e.p.inc,.d (.ro 2 (procs [e.p])),.d (.ro 1 (ae [0])),.d (.ro 1 (streams [au 0 e.l])),.d (.ro 1 (ae [e.l.length])),.u e.l.length,.u e.aF,.d (.v (.bool (e.act))),.d (.ro 2 (procs e.set)),.z e.sy.kind,.z e.sy.src.node,.u e.sy.src.inc,.u e.sy.vw.round,.z e.sy.vw.server.node,.u e.sy.vw.server.inc,.u e.sy.n,.d (.v (.slice none 0 0)),.u e.sy.aF,.d (.ro 1 (ae e.sy.cut)),.d (.v (.bool false)),.d (.v (.slice none 0 0)),.d (.v (.bool false)),.d (.v (.int .u64 0)),.z 0,.d (.v (.int .u64 0)),.d (.ro 2 ([])),.d (.ro 1 ([])),.d (.v (.slice none 0 0)),.d (.v (.int .u64 0)),.z 0,.d (.v (.int .u64 0)),.d (.ro 2 ([])),.d (.ro 1 ([])),.d (.ro 1 ([])),.d (.ro 1 ([])),.z 0,.z 0,.d (.v (.int .u64 0)),.d (.v (.int .u64 0)),.z 0,.d (.v (.int .u64 0)),.d (.v (.int .u64 0)),.d (.v (.slice none 0 0)),.d (.v (.int .u64 0)),.d (.ro 1 ([])),.d (.v (.bool false))],.bx 42 [.z 0,.d (.v (.int .u64 0)),.z 0,.d (.v (.int .u64 0)),.z 0,.d (.v (.int .u64 0)),.d (.v (.slice none 0 0)),.d (.v (.slice none 0 0)),.d (.v (.slice none 0 0)),.d (.v (.slice none 0 0)),.d (.v (.int .u64 0)),.d (.v (.int .u64 0)),.d (.v (.bool false)),.d (.v (.slice none 0 0)),.z 0,.z 0,.d (.v (.int .u64 0)),.d (.v (.int .u64 0)),.z 0,.d (.v (.int .u64 0)),.d (.v (.int .u64 0)),.d (.v (.slice none 0 0)),.d (.v (.int .u64 0)),.d (.v (.slice none 0 0)),.d (.v (.bool false)),.d (.v (.slice none 0 0)),.d (.v (.bool false)),.d (.v (.int .u64 0)),.z 0,.d (.v (.int .u64 0)),.d (.v (.slice none 0 0)),.d (.v (.slice none 0 0)),.d (.v (.slice none 0 0)),.d (.v (.int .u64 0)),.z 0,.d (.v (.int .u64 0)),.d (.v (.slice none 0 0)),.d (.v (.slice none 0 0)),.d (.v (.slice none 0 0)),.d (.v (.slice none 0 0)),.z 0,.z 0,.d (.v (.int .u64 0)),.d (.v (.int .u64 0)),.z 0,.d (.v (.int .u64 0)),.d (.v (.int .u64 0)),.d (.v (.slice none 0 0)),.d (.v (.int .u64 0)),.d (.v (.slice none 0 0)),.d (.v (.bool false))],.bx 47 [.d (.v (.slice none 0 0)),.d (.v (.slice none 0 0))],.bx 68 [.z e.p.node,.u e.p.inc,.z e.st,.d (.v (.int .u64 0)),.z e.p.node,.u e.p.inc,.d (.ro 2 (procs [e.p])),.d (.ro 1 (ae [0])),.d (.ro 1 (streams [au 0 (e.l++[b])])),.d (.ro 1 (ae [e.l.length])),.u ((e.l.length+1)),.u e.aF,.d (.v (.bool (e.act))),.d (.ro 2 (procs e.set)),.z e.sy.kind,.z e.sy.src.node,.u e.sy.src.inc,.u e.sy.vw.round,.z e.sy.vw.server.node,.u e.sy.vw.server.inc,.u e.sy.n,.d (.v (.slice none 0 0)),.u e.sy.aF,.d (.ro 1 (ae e.sy.cut)),.d (.v (.bool false)),.d (.v (.slice none 0 0)),.d (.v (.bool false)),.d (.v (.int .u64 0)),.z 0,.d (.v (.int .u64 0)),.d (.ro 2 ([])),.d (.ro 1 ([])),.d (.v (.slice none 0 0)),.d (.v (.int .u64 0)),.z 0,.d (.v (.int .u64 0)),.d (.ro 2 ([])),.d (.ro 1 ([])),.d (.ro 1 ([])),.d (.ro 1 ([])),.z 0,.z 0,.d (.v (.int .u64 0)),.d (.v (.int .u64 0)),.z 0,.d (.v (.int .u64 0)),.d (.v (.int .u64 0)),.d (.v (.slice none 0 0)),.d (.v (.int .u64 0)),.d (.ro 1 ([])),.d (.v (.bool false)),.d (.v (.slice none 0 0)),.sl 5 (1)],.dead,.rw 58 13 ([cq e b]),.bx 39 [.z 7,.z e.p.node,.u e.p.inc,.d (.v (.int .u64 0)),.z e.p.node,.u e.p.inc,.u (e.l.length+1),.d (.ro 1 (aj b)),.d (.v (.int .u64 0)),.d (.v (.slice none 0 0)),.d (.v (.bool false))],.bx 39 [.z 7,.z e.p.node,.u e.p.inc,.d (.v (.int .u64 0)),.z e.p.node,.u e.p.inc,.u (e.l.length+1),.d (.ro 1 (aj b)),.d (.v (.int .u64 0)),.d (.v (.slice none 0 0)),.d (.v (.bool false))]]) tk tq hK [(11,[(2,.cg 200 [(2,[(13,.aM (.tu [.ag [.v (.int .u64 0),.z e.p.node,.u e.p.inc,.ro 2 (procs [e.p]),.ro 1 (ae [0]),.ro 1 (streams [au 0 (e.l++[b])]),.ro 1 (ae [e.l.length])],.v (.bool true)]))])])]),(12,[(1,.mem [3,5] (.d (.ro 2 (([]:List (List DV))))) [.bx 68 [.z e.p.node,.u e.p.inc,.z e.st,.d (.v (.int .u64 0)),.z e.p.node,.u e.p.inc,.d (.ro 2 (procs [e.p])),.d (.ro 1 (ae [0])),.d (.ro 1 (streams [au 0 (e.l++[b])])),.d (.ro 1 (ae [e.l.length])),.u ((e.l.length+1)),.u e.aF,.d (.v (.bool (e.act))),.d (.ro 2 (procs e.set)),.z e.sy.kind,.z e.sy.src.node,.u e.sy.src.inc,.u e.sy.vw.round,.z e.sy.vw.server.node,.u e.sy.vw.server.inc,.u e.sy.n,.d (.v (.slice none 0 0)),.u e.sy.aF,.d (.ro 1 (ae e.sy.cut)),.d (.v (.bool false)),.d (.v (.slice none 0 0)),.d (.v (.bool false)),.d (.v (.int .u64 0)),.z 0,.d (.v (.int .u64 0)),.d (.ro 2 ([])),.d (.ro 1 ([])),.d (.v (.slice none 0 0)),.d (.v (.int .u64 0)),.z 0,.d (.v (.int .u64 0)),.d (.ro 2 ([])),.d (.ro 1 ([])),.d (.ro 1 ([])),.d (.ro 1 ([])),.z 0,.z 0,.d (.v (.int .u64 0)),.d (.v (.int .u64 0)),.z 0,.d (.v (.int .u64 0)),.d (.v (.int .u64 0)),.d (.v (.slice none 0 0)),.d (.v (.int .u64 0)),.d (.ro 1 ([])),.d (.v (.bool false)),.d (.v (.slice none 0 0)),.sl 1 (1)],.rw 58 13 ([cq e b])])])] 2000 [0,1,2,3,4,5,6,7] [1,4,5,6,7,71,72,73,74,75,76,77,78,79,80,81,82,83,84,85,86,87,88,89,8,90,91,92,93,94,95,96] r (by kernel_rfl) (U (SI e.p e.l b h.p h.l lq hb) (U (QK e b) trivial)) fun ac wd r=>?_
    cases h3:(decide ((0:Int)<(((([]:List (List DV))).length:Nat):Int))) with
    | false=>
     have fb:=of_decide_eq_false h3
     rw [show (.tu [.ag [.z e.p.node,.u e.p.inc,.z e.st,.v (.int .u64 0),.z e.p.node,.u e.p.inc,.ro 2 (procs [e.p]),.ro 1 (ae [0]),.ro 1 (streams [au 0 (e.l++[b])]),.ro 1 (ae [(e.l++[b]).length]),.u ((e.l.length+1)),.u e.aF,.v (.bool (e.act)),.ro 2 (procs e.set),.z e.sy.kind,.z e.sy.src.node,.u e.sy.src.inc,.u e.sy.vw.round,.z e.sy.vw.server.node,.u e.sy.vw.server.inc,.u e.sy.n,.v (.slice none 0 0),.u e.sy.aF,.ro 1 (ae e.sy.cut),.v (.bool false),.v (.slice none 0 0),.v (.bool false),.v (.int .u64 0),.z 0,.v (.int .u64 0),.ro 2 ([]),.ro 1 ([]),.v (.slice none 0 0),.v (.int .u64 0),.z 0,.v (.int .u64 0),.ro 2 ([]),.ro 1 ([]),.ro 1 ([]),.ro 1 ([]),.z 0,.z 0,.v (.int .u64 0),.v (.int .u64 0),.z 0,.v (.int .u64 0),.v (.int .u64 0),.v (.slice none 0 0),.v (.int .u64 0),.ro 1 ([]),.v (.bool false)],.ag [.v (.slice none 0 0),.em 58 13 [cq e b,gU e b]],.v (.int .i64 0)]:DV)=.tu [.ag [.z e.p.node,.u e.p.inc,.z e.st,.v (.int .u64 0),.z e.p.node,.u e.p.inc,.ro 2 (procs [e.p]),.ro 1 (ae [0]),.ro 1 (streams [au 0 (e.l++[b])]),.ro 1 (ae [(e.l++[b]).length]),.u ((e.l.length+1)),.u e.aF,.v (.bool (e.act)),.ro 2 (procs e.set),.z e.sy.kind,.z e.sy.src.node,.u e.sy.src.inc,.u e.sy.vw.round,.z e.sy.vw.server.node,.u e.sy.vw.server.inc,.u e.sy.n,.v (.slice none 0 0),.u e.sy.aF,.ro 1 (ae e.sy.cut),.v (.bool false),.v (.slice none 0 0),.v (.bool false),.v (.int .u64 0),.z 0,.v (.int .u64 0),.ro 2 ([]),.ro 1 ([]),.v (.slice none 0 0),.v (.int .u64 0),.z 0,.v (.int .u64 0),.ro 2 ([]),.ro 1 ([]),.ro 1 ([]),.ro 1 ([]),.z 0,.z 0,.v (.int .u64 0),.v (.int .u64 0),.z 0,.v (.int .u64 0),.v (.int .u64 0),.v (.slice none 0 0),.v (.int .u64 0),.ro 1 ([]),.v (.bool false)],.ag [.v (.slice none 0 0),.em 58 13 ([cq e b,gU e b])],.z 0] from rfl]
     exact aN tk tq hK rfl [(13,[(0,.b false)]),(17,[(1,.mem [3,5] (.tu []) [.bx 68 [.z e.p.node,.u e.p.inc,.z e.st,.d (.v (.int .u64 0)),.z e.p.node,.u e.p.inc,.d (.ro 2 (procs [e.p])),.d (.ro 1 (ae [0])),.d (.ro 1 (streams [au 0 (e.l++[b])])),.d (.ro 1 (ae [(e.l++[b]).length])),.u ((e.l.length+1)),.u e.aF,.d (.v (.bool (e.act))),.d (.ro 2 (procs e.set)),.z e.sy.kind,.z e.sy.src.node,.u e.sy.src.inc,.u e.sy.vw.round,.z e.sy.vw.server.node,.u e.sy.vw.server.inc,.u e.sy.n,.d (.v (.slice none 0 0)),.u e.sy.aF,.d (.ro 1 (ae e.sy.cut)),.d (.v (.bool false)),.d (.v (.slice none 0 0)),.d (.v (.bool false)),.d (.v (.int .u64 0)),.z 0,.d (.v (.int .u64 0)),.d (.ro 2 ([])),.d (.ro 1 ([])),.d (.v (.slice none 0 0)),.d (.v (.int .u64 0)),.z 0,.d (.v (.int .u64 0)),.d (.ro 2 ([])),.d (.ro 1 ([])),.d (.ro 1 ([])),.d (.ro 1 ([])),.z 0,.z 0,.d (.v (.int .u64 0)),.d (.v (.int .u64 0)),.z 0,.d (.v (.int .u64 0)),.d (.v (.int .u64 0)),.d (.v (.slice none 0 0)),.d (.v (.int .u64 0)),.d (.ro 1 ([])),.d (.v (.bool false)),.d (.v (.slice none 0 0)),.sl 2 (2)],.dead,.rw 58 13 ([cq e b,gU e b])])])] 2000 r (by kernel_rfl) (U h3 (U (SL e b h g9) (U ((by first | rfl | (simp;done) | (simp<;>omega)):(2)=([cq e b,gU e b]:List (List DV)).length) trivial)))
    | true=>
     have fb:=of_decide_eq_true h3
     exact absurd fb (by first | assumption | omega | simp)
   | true=>
    have cK:=of_decide_eq_true h2
    exact absurd cK (by first | assumption | omega | simp)
  | true=>
   have bM:=of_decide_eq_true h1
   exact absurd bM (by first | assumption | omega | simp)
 | true=>
  have bh:=eq_of_beq h0
  exact absurd bh (by first | assumption | omega | simp)
end Go.Proofs.YtgkdnnmcjjabdaaGreat
namespace Go.Proofs.YtgkdnnmcjjabdaaGreat
open Go.RowKit
set_option maxRecDepth 100000 in
theorem RC (e:En) (h:e.Ok) (v:List DV):dh Tryz.prog 23 [.pt 0 0,.d (.ro 1 (ae [e.l.length]))] [.bx 68 [.z e.p.node,.u e.p.inc,.z 2,.d (.v (.int .u64 0)),.z e.p.node,.u e.p.inc,.d (.ro 2 (procs [e.p])),.d (.ro 1 (ae [0])),.d (.ro 1 (streams [au 0 e.l])),.d (.ro 1 (ae [e.l.length])),.u e.l.length,.u e.aF,.d (.v (.bool true)),.d (.ro 2 (procs [e.p])),.z 8,.z e.p.node,.u e.p.inc,.d (.v (.int .u64 0)),.z e.p.node,.u e.p.inc,.d (.v (.int .u64 0)),.d (.v (.slice none 0 0)),.u e.aF,.d (.ro 1 (ae [e.l.length])),.d (.v (.bool false)),.d (.v (.slice none 0 0)),.d (.v (.bool false)),.d (.v (.int .u64 0)),.z 0,.d (.v (.int .u64 0)),.d (.ro 2 ([])),.d (.ro 1 ([])),.d (.v (.slice none 0 0)),.d (.v (.int .u64 0)),.z 0,.d (.v (.int .u64 0)),.d (.ro 2 ([])),.d (.ro 1 ([])),.d (.ro 1 ([])),.d (.ro 1 ([])),.z 0,.z 0,.d (.v (.int .u64 0)),.d (.v (.int .u64 0)),.z 0,.d (.v (.int .u64 0)),.d (.v (.int .u64 0)),.d (.v (.slice none 0 0)),.d (.v (.int .u64 0)),.d (.ro 1 ([])),.d (.v (.bool false)),.d (.v (.slice none 0 0)),.sl 1 (1)],.rw 58 13 ([v])] (.tu []) ([.bx 68 [.z e.p.node,.u e.p.inc,.z 2,.d (.v (.int .u64 0)),.z e.p.node,.u e.p.inc,.d (.ro 2 (procs [e.p])),.d (.ro 1 (ae [0])),.d (.ro 1 (streams [au 0 e.l])),.d (.ro 1 (ae [e.l.length])),.u e.l.length,.u e.aF,.d (.v (.bool true)),.d (.ro 2 (procs [e.p])),.z 8,.z e.p.node,.u e.p.inc,.d (.v (.int .u64 0)),.z e.p.node,.u e.p.inc,.d (.v (.int .u64 0)),.d (.v (.slice none 0 0)),.u e.aF,.d (.ro 1 (ae [e.l.length])),.d (.v (.bool false)),.d (.v (.slice none 0 0)),.d (.v (.bool false)),.d (.v (.int .u64 0)),.z 0,.d (.v (.int .u64 0)),.d (.ro 2 ([])),.d (.ro 1 ([])),.d (.v (.slice none 0 0)),.d (.v (.int .u64 0)),.z 0,.d (.v (.int .u64 0)),.d (.ro 2 ([])),.d (.ro 1 ([])),.d (.ro 1 ([])),.d (.ro 1 ([])),.z 0,.z 0,.d (.v (.int .u64 0)),.d (.v (.int .u64 0)),.z 0,.d (.v (.int .u64 0)),.d (.v (.int .u64 0)),.d (.v (.slice none 0 0)),.d (.v (.int .u64 0)),.d (.ro 1 ([])),.d (.v (.bool false)),.d (.v (.slice none 0 0)),.sl 1 (1)],.rw 58 13 ([v])]):=by
 refine dh.intro (by kernel_rfl) rfl rfl 45 rfl rfl fun D w0 K bs ac wd hK (bG:bs.m=2) r=>?_
 refine ig (todo':=hd Tryz.f23 0) (E':=[(0,.pt 0 0),(1,.d (.ro 1 (ae [e.l.length]))),(9,.pt 0 0),(10,.pt 0 0),(11,.pt 0 0),(12,.pt 0 3),(13,.ag [.d (.v (.int .u64 0)),.z e.p.node,.u e.p.inc,.d (.ro 2 (procs [e.p])),.d (.ro 1 (ae [0])),.d (.ro 1 (streams [au 0 e.l])),.d (.ro 1 (ae [e.l.length]))]),(14,.d (.ro 1 (ae [e.l.length]))),(15,.tu [.ag [.d (.v (.int .u64 0)),.z e.p.node,.u e.p.inc,.d (.ro 2 (procs [e.p])),.d (.ro 1 (ae [0])),.d (.ro 1 (streams [au 0 e.l])),.d (.ro 1 (ae [e.l.length]))],.d (.ro 4 (msgs []))]),(8,.tu [.ag [.d (.v (.int .u64 0)),.z e.p.node,.u e.p.inc,.d (.ro 2 (procs [e.p])),.d (.ro 1 (ae [0])),.d (.ro 1 (streams [au 0 e.l])),.d (.ro 1 (ae [e.l.length]))],.d (.ro 4 (msgs []))]),(16,.ag [.d (.v (.int .u64 0)),.z e.p.node,.u e.p.inc,.d (.ro 2 (procs [e.p])),.d (.ro 1 (ae [0])),.d (.ro 1 (streams [au 0 e.l])),.d (.ro 1 (ae [e.l.length]))]),(17,.d (.ro 4 (msgs []))),(4,.pt 2 0),(5,.d (.ro 4 (msgs []))),(18,.pt 0 0),(19,.ag [.d (.v (.int .u64 0)),.z e.p.node,.u e.p.inc,.d (.ro 2 (procs [e.p])),.d (.ro 1 (ae [0])),.d (.ro 1 (streams [au 0 e.l])),.d (.ro 1 (ae [e.l.length]))]),(20,.pt 0 0),(21,.pt 0 0),(22,.pt 0 3),(23,.d (.ro 4 (msgs []))),(24,.z 0),(25,.z 0)]) (M':=[.bx 68 [.z e.p.node,.u e.p.inc,.z 2,.d (.v (.int .u64 0)),.z e.p.node,.u e.p.inc,.d (.ro 2 (procs [e.p])),.d (.ro 1 (ae [0])),.d (.ro 1 (streams [au 0 e.l])),.d (.ro 1 (ae [e.l.length])),.u e.l.length,.u e.aF,.d (.v (.bool true)),.d (.ro 2 (procs [e.p])),.z 8,.z e.p.node,.u e.p.inc,.d (.v (.int .u64 0)),.z e.p.node,.u e.p.inc,.d (.v (.int .u64 0)),.d (.v (.slice none 0 0)),.u e.aF,.d (.ro 1 (ae [e.l.length])),.d (.v (.bool false)),.d (.v (.slice none 0 0)),.d (.v (.bool false)),.d (.v (.int .u64 0)),.z 0,.d (.v (.int .u64 0)),.d (.ro 2 ([])),.d (.ro 1 ([])),.d (.v (.slice none 0 0)),.d (.v (.int .u64 0)),.z 0,.d (.v (.int .u64 0)),.d (.ro 2 ([])),.d (.ro 1 ([])),.d (.ro 1 ([])),.d (.ro 1 ([])),.z 0,.z 0,.d (.v (.int .u64 0)),.d (.v (.int .u64 0)),.z 0,.d (.v (.int .u64 0)),.d (.v (.int .u64 0)),.d (.v (.slice none 0 0)),.d (.v (.int .u64 0)),.d (.ro 1 ([])),.d (.v (.bool false)),.d (.v (.slice none 0 0)),.sl 1 (1)],.rw 58 13 ([v]),.bx 37 [.d (.v (.int .u64 0)),.z e.p.node,.u e.p.inc,.d (.ro 2 (procs [e.p])),.d (.ro 1 (ae [0])),.d (.ro 1 (streams [au 0 e.l])),.d (.ro 1 (ae [e.l.length]))]]) tk tq hK bG [(0,[(6,.aM (.tu [.ag [.v (.int .u64 0),.z e.p.node,.u e.p.inc,.ro 2 (procs [e.p]),.ro 1 (ae [0]),.ro 1 (streams [au 0 e.l]),.ro 1 (ae [e.l.length])],.ro 4 (msgs [])]))]),(2,[(1,.z (0))])] 2000 [0,1,2] [0,1,9,10,11,12,13,14,15,8,16,17,4,5,18,19,20,21,22,23,24,25] r (by kernel_rfl) (U (SK e.p e.l h.p h.l) (U ((by first | rfl | simp [aj]):(((msgs []).length:Nat):Int)=0) trivial)) fun ac wd r=>?_
 refine gC (y:=.tu []) (N':=[.bx 68 [.z e.p.node,.u e.p.inc,.z 2,.d (.v (.int .u64 0)),.z e.p.node,.u e.p.inc,.d (.ro 2 (procs [e.p])),.d (.ro 1 (ae [0])),.d (.ro 1 (streams [au 0 e.l])),.d (.ro 1 (ae [e.l.length])),.u e.l.length,.u e.aF,.d (.v (.bool true)),.d (.ro 2 (procs [e.p])),.z 8,.z e.p.node,.u e.p.inc,.d (.v (.int .u64 0)),.z e.p.node,.u e.p.inc,.d (.v (.int .u64 0)),.d (.v (.slice none 0 0)),.u e.aF,.d (.ro 1 (ae [e.l.length])),.d (.v (.bool false)),.d (.v (.slice none 0 0)),.d (.v (.bool false)),.d (.v (.int .u64 0)),.z 0,.d (.v (.int .u64 0)),.d (.ro 2 ([])),.d (.ro 1 ([])),.d (.v (.slice none 0 0)),.d (.v (.int .u64 0)),.z 0,.d (.v (.int .u64 0)),.d (.ro 2 ([])),.d (.ro 1 ([])),.d (.ro 1 ([])),.d (.ro 1 ([])),.z 0,.z 0,.d (.v (.int .u64 0)),.d (.v (.int .u64 0)),.z 0,.d (.v (.int .u64 0)),.d (.v (.int .u64 0)),.d (.v (.slice none 0 0)),.d (.v (.int .u64 0)),.d (.ro 1 ([])),.d (.v (.bool false)),.d (.v (.slice none 0 0)),.sl 1 (1)],.rw 58 13 ([v])]) (rfl) (rfl) ?_
 exact gA tk tq hK rfl bG [] 2000 [0,1] r (by kernel_rfl) trivial
theorem SN (p:ay):(procs [p])[0]?=some [.z p.node,.u p.inc]:=rfl
set_option maxRecDepth 100000 in
theorem SO (e:En) (h:e.Ok) (v:List DV):dh Tryz.prog 24 [.pt 0 0] [.bx 68 [.z e.p.node,.u e.p.inc,.z 2,.d (.v (.int .u64 0)),.z e.p.node,.u e.p.inc,.d (.ro 2 (procs [e.p])),.d (.ro 1 (ae [0])),.d (.ro 1 (streams [au 0 e.l])),.d (.ro 1 (ae [e.l.length])),.u e.l.length,.u e.aF,.d (.v (.bool true)),.d (.ro 2 (procs [e.p])),.z e.sy.kind,.z e.sy.src.node,.u e.sy.src.inc,.u e.sy.vw.round,.z e.sy.vw.server.node,.u e.sy.vw.server.inc,.u e.sy.n,.d (.v (.slice none 0 0)),.u e.sy.aF,.d (.ro 1 (ae e.sy.cut)),.d (.v (.bool false)),.d (.v (.slice none 0 0)),.d (.v (.bool false)),.d (.v (.int .u64 0)),.z 0,.d (.v (.int .u64 0)),.d (.ro 2 ([])),.d (.ro 1 ([])),.d (.v (.slice none 0 0)),.d (.v (.int .u64 0)),.z 0,.d (.v (.int .u64 0)),.d (.ro 2 ([])),.d (.ro 1 ([])),.d (.ro 1 ([])),.d (.ro 1 ([])),.z 0,.z 0,.d (.v (.int .u64 0)),.d (.v (.int .u64 0)),.z 0,.d (.v (.int .u64 0)),.d (.v (.int .u64 0)),.d (.v (.slice none 0 0)),.d (.v (.int .u64 0)),.d (.ro 1 ([])),.d (.v (.bool false)),.d (.v (.slice none 0 0)),.sl 1 (1)],.rw 58 13 ([v])] (.tu []) ([.bx 68 [.z e.p.node,.u e.p.inc,.z 2,.d (.v (.int .u64 0)),.z e.p.node,.u e.p.inc,.d (.ro 2 (procs [e.p])),.d (.ro 1 (ae [0])),.d (.ro 1 (streams [au 0 e.l])),.d (.ro 1 (ae [e.l.length])),.u e.l.length,.u e.aF,.d (.v (.bool true)),.d (.ro 2 (procs [e.p])),.z 8,.z e.p.node,.u e.p.inc,.d (.v (.int .u64 0)),.z e.p.node,.u e.p.inc,.d (.v (.int .u64 0)),.d (.v (.slice none 0 0)),.u e.aF,.d (.ro 1 (ae [e.l.length])),.d (.v (.bool false)),.d (.v (.slice none 0 0)),.d (.v (.bool false)),.d (.v (.int .u64 0)),.z 0,.d (.v (.int .u64 0)),.d (.ro 2 ([])),.d (.ro 1 ([])),.d (.v (.slice none 0 0)),.d (.v (.int .u64 0)),.z 0,.d (.v (.int .u64 0)),.d (.ro 2 ([])),.d (.ro 1 ([])),.d (.ro 1 ([])),.d (.ro 1 ([])),.z 0,.z 0,.d (.v (.int .u64 0)),.d (.v (.int .u64 0)),.z 0,.d (.v (.int .u64 0)),.d (.v (.int .u64 0)),.d (.v (.slice none 0 0)),.d (.v (.int .u64 0)),.d (.ro 1 ([])),.d (.v (.bool false)),.d (.v (.slice none 0 0)),.sl 1 (1)],.rw 58 13 ([v])]):=by
 refine dh.intro (by kernel_rfl) rfl rfl 65 rfl rfl fun D w0 K bs ac wd hK (bG:bs.m=2) r=>?_
 have bI:=(QD e.p e.l h.p h.l)
 refine HF (todo':=aft Tryz.f24 0) (E':=[(0,.pt 0 0)]) (M':=[.bx 68 [.z e.p.node,.u e.p.inc,.z 2,.d (.v (.int .u64 0)),.z e.p.node,.u e.p.inc,.d (.ro 2 (procs [e.p])),.d (.ro 1 (ae [0])),.d (.ro 1 (streams [au 0 e.l])),.d (.ro 1 (ae [e.l.length])),.u e.l.length,.u e.aF,.d (.v (.bool true)),.d (.ro 2 (procs [e.p])),.z 8,.z e.p.node,.u e.p.inc,.d (.v (.int .u64 0)),.z e.p.node,.u e.p.inc,.d (.v (.int .u64 0)),.d (.v (.slice none 0 0)),.u e.aF,.d (.ro 1 (ae [e.l.length])),.d (.v (.bool false)),.d (.v (.slice none 0 0)),.d (.v (.bool false)),.d (.v (.int .u64 0)),.z 0,.d (.v (.int .u64 0)),.d (.ro 2 ([])),.d (.ro 1 ([])),.d (.v (.slice none 0 0)),.d (.v (.int .u64 0)),.z 0,.d (.v (.int .u64 0)),.d (.ro 2 ([])),.d (.ro 1 ([])),.d (.ro 1 ([])),.d (.ro 1 ([])),.z 0,.z 0,.d (.v (.int .u64 0)),.d (.v (.int .u64 0)),.z 0,.d (.v (.int .u64 0)),.d (.v (.int .u64 0)),.d (.v (.slice none 0 0)),.d (.v (.int .u64 0)),.d (.ro 1 ([])),.d (.v (.bool false)),.d (.v (.slice none 0 0)),.sl 1 (1)],.rw 58 13 ([v])]) tk tq hK bG [(0,[(23,.aM (.ro 1 (ae [e.l.length])))])] 1 60 [5,12,17,22] [[0,1],[0,1],[0,1],[0,1],[0,1],[0,1],[0,1],[0,1],[0,1],[0,1],[0,1],[0,1],[0,1],[0,1],[0,1],[0,1],[0,1],[0,1],[0,1],[0,1],[0,1],[0,1],[0,1],[0,1],[0,1],[0,1],[0,1],[0,1],[0,1],[0,1],[0,1],[0,1],[0,1],[0,1],[0,1],[0,1],[0,1],[0,1],[0,1],[0,1],[0,1],[0,1],[0,1],[0,1],[0,1],[0,1],[0,1],[0,1],[0,1],[0,1],[0,1],[0,1],[0,1],[0,1],[0,1],[0,1],[0,1],[0,1],[0,1],[0,1]] [0] r (by kernel_rfl) (U (U bI trivial) (U (U bI trivial) (U (U bI trivial) (U (U bI trivial) (U (U bI trivial) (U (U bI trivial) (U (U bI trivial) (U (U bI trivial) (U (U bI trivial) (U (U bI trivial) (U (U bI trivial) (U (U bI trivial) (U (U bI trivial) (U (U bI trivial) (U (U bI trivial) (U (U bI trivial) (U (U bI trivial) (U (U bI trivial) (U (U bI trivial) (U (U bI trivial) (U (U bI trivial) (U (U bI trivial) (U (U bI trivial) (U (U bI trivial) (U (U bI trivial) (U (U bI trivial) (U (U bI trivial) (U (U bI trivial) (U (U bI trivial) (U (U bI trivial) (U (U bI trivial) (U (U bI trivial) (U (U bI trivial) (U (U bI trivial) (U (U bI trivial) (U (U bI trivial) (U (U bI trivial) (U (U bI trivial) (U (U bI trivial) (U (U bI trivial) (U (U bI trivial) (U (U bI trivial) (U (U bI trivial) (U (U bI trivial) (U (U bI trivial) (U (U bI trivial) (U (U bI trivial) (U (U bI trivial) (U (U bI trivial) (U (U bI trivial) (U (U bI trivial) (U (U bI trivial) (U (U bI trivial) (U (U bI trivial) (U (U bI trivial) (U (U bI trivial) (U (U bI trivial) (U (U bI trivial) (U (U bI trivial) (U (U bI trivial) trivial)))))))))))))))))))))))))))))))))))))))))))))))))))))))))))) fun ac wd r=>?_
 refine ig (todo':=hd Tryz.f24 0) (E':=[(0,.pt 0 0),(32,.pt 0 0),(33,.pt 0 0),(34,.pt 0 0),(35,.pt 0 13),(36,.d (.ro 2 (procs [e.p]))),(37,.n 1),(38,.z 0)]) (M':=[.bx 68 [.z e.p.node,.u e.p.inc,.z 2,.d (.v (.int .u64 0)),.z e.p.node,.u e.p.inc,.d (.ro 2 (procs [e.p])),.d (.ro 1 (ae [0])),.d (.ro 1 (streams [au 0 e.l])),.d (.ro 1 (ae [e.l.length])),.u e.l.length,.u e.aF,.d (.v (.bool true)),.d (.ro 2 (procs [e.p])),.z 8,.z e.p.node,.u e.p.inc,.d (.v (.int .u64 0)),.z e.p.node,.u e.p.inc,.d (.v (.int .u64 0)),.d (.v (.slice none 0 0)),.u e.aF,.d (.ro 1 (ae [e.l.length])),.d (.v (.bool false)),.d (.v (.slice none 0 0)),.d (.v (.bool false)),.d (.v (.int .u64 0)),.z 0,.d (.v (.int .u64 0)),.d (.ro 2 ([])),.d (.ro 1 ([])),.d (.v (.slice none 0 0)),.d (.v (.int .u64 0)),.z 0,.d (.v (.int .u64 0)),.d (.ro 2 ([])),.d (.ro 1 ([])),.d (.ro 1 ([])),.d (.ro 1 ([])),.z 0,.z 0,.d (.v (.int .u64 0)),.d (.v (.int .u64 0)),.z 0,.d (.v (.int .u64 0)),.d (.v (.int .u64 0)),.d (.v (.slice none 0 0)),.d (.v (.int .u64 0)),.d (.ro 1 ([])),.d (.v (.bool false)),.d (.v (.slice none 0 0)),.sl 1 (1)],.rw 58 13 ([v])]) tk tq hK bG [(1,[(5,.z (((1:Nat):Int)))])] 2000 [0,1] [0,32,33,34,35,36,37,38] r (by kernel_rfl) (U ((by first | rfl | simp [aj]):(((procs [e.p]).length:Nat):Int)=((1:Nat):Int)) trivial) fun ac wd r=>?_
 cases h0:(decide (e.p=e.p)) with
 | false=>
  have bh:=of_decide_eq_false h0
  exact absurd rfl bh
 | true=>
  have bh:=of_decide_eq_true h0
  refine ig (todo':=hd Tryz.f24 0) (E':=[(0,.pt 0 0),(32,.pt 0 0),(33,.pt 0 0),(34,.pt 0 0),(35,.pt 0 13),(36,.d (.ro 2 (procs [e.p]))),(37,.n 1),(38,.z 1),(39,.d (.v (.bool true))),(40,.rp [.z e.p.node,.u e.p.inc] 0),(41,.ag [.z e.p.node,.u e.p.inc]),(3,.pt 2 0),(42,.ag [.z e.p.node,.u e.p.inc]),(43,.pt 0 0),(44,.pt 0 0),(45,.pt 0 0),(46,.pt 0 0),(47,.ag [.z e.p.node,.u e.p.inc]),(48,.d (.v (.bool false))),(60,.z 1)]) (M':=[.bx 68 [.z e.p.node,.u e.p.inc,.z 2,.d (.v (.int .u64 0)),.z e.p.node,.u e.p.inc,.d (.ro 2 (procs [e.p])),.d (.ro 1 (ae [0])),.d (.ro 1 (streams [au 0 e.l])),.d (.ro 1 (ae [e.l.length])),.u e.l.length,.u e.aF,.d (.v (.bool true)),.d (.ro 2 (procs [e.p])),.z 8,.z e.p.node,.u e.p.inc,.d (.v (.int .u64 0)),.z e.p.node,.u e.p.inc,.d (.v (.int .u64 0)),.d (.v (.slice none 0 0)),.u e.aF,.d (.ro 1 (ae [e.l.length])),.d (.v (.bool false)),.d (.v (.slice none 0 0)),.d (.v (.bool false)),.d (.v (.int .u64 0)),.z 0,.d (.v (.int .u64 0)),.d (.ro 2 ([])),.d (.ro 1 ([])),.d (.v (.slice none 0 0)),.d (.v (.int .u64 0)),.z 0,.d (.v (.int .u64 0)),.d (.ro 2 ([])),.d (.ro 1 ([])),.d (.ro 1 ([])),.d (.ro 1 ([])),.z 0,.z 0,.d (.v (.int .u64 0)),.d (.v (.int .u64 0)),.z 0,.d (.v (.int .u64 0)),.d (.v (.int .u64 0)),.d (.v (.slice none 0 0)),.d (.v (.int .u64 0)),.d (.ro 1 ([])),.d (.v (.bool false)),.d (.v (.slice none 0 0)),.sl 1 (1)],.rw 58 13 ([v]),.bx 24 [.z e.p.node,.u e.p.inc]]) tk tq hK bG [(3,[(0,.ix (0) [.z e.p.node,.u e.p.inc])]),(4,[(6,.b true)]),(6,[(0,.z (1))])] 2000 [0,1,2] [0,32,33,34,35,36,37,38,39,40,41,3,42,43,44,45,46,47,48,60] r (by kernel_rfl) (U (rfl:(0)=((0:Nat):Int)) (U (SN e.p:(procs [e.p])[0]?=some [.z e.p.node,.u e.p.inc]) (U ((fG (ji _ _) h0):eh Tryz.prog 24 [(.int .i64 (e.p.node)),(.int .u64 (((e.p.inc:Nat):Int)))] [(.int .i64 (e.p.node)),(.int .u64 (((e.p.inc:Nat):Int)))] true) (U ((wi (by omega)):IntKind.i64.wrap ((0:Int)+1)=1) trivial)))) fun ac wd r=>?_
  refine gC (y:=.tu []) (N':=[.bx 68 [.z e.p.node,.u e.p.inc,.z 2,.d (.v (.int .u64 0)),.z e.p.node,.u e.p.inc,.d (.ro 2 (procs [e.p])),.d (.ro 1 (ae [0])),.d (.ro 1 (streams [au 0 e.l])),.d (.ro 1 (ae [e.l.length])),.u e.l.length,.u e.aF,.d (.v (.bool true)),.d (.ro 2 (procs [e.p])),.z 8,.z e.p.node,.u e.p.inc,.d (.v (.int .u64 0)),.z e.p.node,.u e.p.inc,.d (.v (.int .u64 0)),.d (.v (.slice none 0 0)),.u e.aF,.d (.ro 1 (ae [e.l.length])),.d (.v (.bool false)),.d (.v (.slice none 0 0)),.d (.v (.bool false)),.d (.v (.int .u64 0)),.z 0,.d (.v (.int .u64 0)),.d (.ro 2 ([])),.d (.ro 1 ([])),.d (.v (.slice none 0 0)),.d (.v (.int .u64 0)),.z 0,.d (.v (.int .u64 0)),.d (.ro 2 ([])),.d (.ro 1 ([])),.d (.ro 1 ([])),.d (.ro 1 ([])),.z 0,.z 0,.d (.v (.int .u64 0)),.d (.v (.int .u64 0)),.z 0,.d (.v (.int .u64 0)),.d (.v (.int .u64 0)),.d (.v (.slice none 0 0)),.d (.v (.int .u64 0)),.d (.ro 1 ([])),.d (.v (.bool false)),.d (.v (.slice none 0 0)),.sl 1 (1)],.rw 58 13 ([v])]) (rfl) (rfl) ?_
  exact gA tk tq hK rfl bG [(7,[(2,.cg 200 []),(3,.mem [0,1] (.tu []) [.bx 68 [.z e.p.node,.u e.p.inc,.z 2,.d (.v (.int .u64 0)),.z e.p.node,.u e.p.inc,.d (.ro 2 (procs [e.p])),.d (.ro 1 (ae [0])),.d (.ro 1 (streams [au 0 e.l])),.d (.ro 1 (ae [e.l.length])),.u e.l.length,.u e.aF,.d (.v (.bool true)),.d (.ro 2 (procs [e.p])),.z 8,.z e.p.node,.u e.p.inc,.d (.v (.int .u64 0)),.z e.p.node,.u e.p.inc,.d (.v (.int .u64 0)),.d (.v (.slice none 0 0)),.u e.aF,.d (.ro 1 (ae [e.l.length])),.d (.v (.bool false)),.d (.v (.slice none 0 0)),.d (.v (.bool false)),.d (.v (.int .u64 0)),.z 0,.d (.v (.int .u64 0)),.d (.ro 2 ([])),.d (.ro 1 ([])),.d (.v (.slice none 0 0)),.d (.v (.int .u64 0)),.z 0,.d (.v (.int .u64 0)),.d (.ro 2 ([])),.d (.ro 1 ([])),.d (.ro 1 ([])),.d (.ro 1 ([])),.z 0,.z 0,.d (.v (.int .u64 0)),.d (.v (.int .u64 0)),.z 0,.d (.v (.int .u64 0)),.d (.v (.int .u64 0)),.d (.v (.slice none 0 0)),.d (.v (.int .u64 0)),.d (.ro 1 ([])),.d (.v (.bool false)),.d (.v (.slice none 0 0)),.sl 1 (1)],.rw 58 13 ([v])])])] 2000 [0,1] r (by kernel_rfl) (U (RC e h v) trivial)
set_option maxRecDepth 100000 in
theorem RD (e:En) (h:e.Ok) (v:List DV):dh Tryz.prog 25 [.pt 0 0] [.bx 68 [.z e.p.node,.u e.p.inc,.z 2,.d (.v (.int .u64 0)),.z e.p.node,.u e.p.inc,.d (.ro 2 (procs [e.p])),.d (.ro 1 (ae [0])),.d (.ro 1 (streams [au 0 e.l])),.d (.ro 1 (ae [e.l.length])),.u e.l.length,.u e.aF,.d (.v (.bool true)),.d (.ro 2 (procs [e.p])),.z 8,.z e.p.node,.u e.p.inc,.d (.v (.int .u64 0)),.z e.p.node,.u e.p.inc,.d (.v (.int .u64 0)),.d (.v (.slice none 0 0)),.u e.aF,.d (.ro 1 (ae [e.l.length])),.d (.v (.bool false)),.d (.v (.slice none 0 0)),.d (.v (.bool false)),.d (.v (.int .u64 0)),.z 0,.d (.v (.int .u64 0)),.d (.ro 2 ([])),.d (.ro 1 ([])),.d (.v (.slice none 0 0)),.d (.v (.int .u64 0)),.z 0,.d (.v (.int .u64 0)),.d (.ro 2 ([])),.d (.ro 1 ([])),.d (.ro 1 ([])),.d (.ro 1 ([])),.z 0,.z 0,.d (.v (.int .u64 0)),.d (.v (.int .u64 0)),.z 0,.d (.v (.int .u64 0)),.d (.v (.int .u64 0)),.d (.v (.slice none 0 0)),.d (.v (.int .u64 0)),.d (.ro 1 ([])),.d (.v (.bool false)),.d (.v (.slice none 0 0)),.sl 1 (1)],.rw 58 13 ([v])] (.tu []) ([.bx 68 [.z e.p.node,.u e.p.inc,.z 2,.d (.v (.int .u64 0)),.z e.p.node,.u e.p.inc,.d (.ro 2 (procs [e.p])),.d (.ro 1 (ae [0])),.d (.ro 1 (streams [au 0 e.l])),.d (.ro 1 (ae [e.l.length])),.u e.l.length,.u e.aF,.d (.v (.bool true)),.d (.ro 2 (procs [e.p])),.z 8,.z e.p.node,.u e.p.inc,.d (.v (.int .u64 0)),.z e.p.node,.u e.p.inc,.d (.v (.int .u64 0)),.d (.v (.slice none 0 0)),.u e.aF,.d (.ro 1 (ae [e.l.length])),.d (.v (.bool false)),.d (.v (.slice none 0 0)),.d (.v (.bool false)),.d (.v (.int .u64 0)),.z 0,.d (.v (.int .u64 0)),.d (.ro 2 ([])),.d (.ro 1 ([])),.d (.v (.slice none 0 0)),.d (.v (.int .u64 0)),.z 0,.d (.v (.int .u64 0)),.d (.ro 2 ([])),.d (.ro 1 ([])),.d (.ro 1 ([])),.d (.ro 1 ([])),.z 0,.z 0,.d (.v (.int .u64 0)),.d (.v (.int .u64 0)),.z 0,.d (.v (.int .u64 0)),.d (.v (.int .u64 0)),.d (.v (.slice none 0 0)),.d (.v (.int .u64 0)),.d (.ro 1 ([])),.d (.v (.bool false)),.d (.v (.slice none 0 0)),.sl 1 (1)],.rw 58 13 ([v])]):=by
 refine dh.intro (by kernel_rfl) rfl rfl 262 rfl rfl fun D w0 K bs ac wd hK (bG:bs.m=2) r=>?_
 refine gC (y:=.tu []) (N':=[.bx 68 [.z e.p.node,.u e.p.inc,.z 2,.d (.v (.int .u64 0)),.z e.p.node,.u e.p.inc,.d (.ro 2 (procs [e.p])),.d (.ro 1 (ae [0])),.d (.ro 1 (streams [au 0 e.l])),.d (.ro 1 (ae [e.l.length])),.u e.l.length,.u e.aF,.d (.v (.bool true)),.d (.ro 2 (procs [e.p])),.z 8,.z e.p.node,.u e.p.inc,.d (.v (.int .u64 0)),.z e.p.node,.u e.p.inc,.d (.v (.int .u64 0)),.d (.v (.slice none 0 0)),.u e.aF,.d (.ro 1 (ae [e.l.length])),.d (.v (.bool false)),.d (.v (.slice none 0 0)),.d (.v (.bool false)),.d (.v (.int .u64 0)),.z 0,.d (.v (.int .u64 0)),.d (.ro 2 ([])),.d (.ro 1 ([])),.d (.v (.slice none 0 0)),.d (.v (.int .u64 0)),.z 0,.d (.v (.int .u64 0)),.d (.ro 2 ([])),.d (.ro 1 ([])),.d (.ro 1 ([])),.d (.ro 1 ([])),.z 0,.z 0,.d (.v (.int .u64 0)),.d (.v (.int .u64 0)),.z 0,.d (.v (.int .u64 0)),.d (.v (.int .u64 0)),.d (.v (.slice none 0 0)),.d (.v (.int .u64 0)),.d (.ro 1 ([])),.d (.v (.bool false)),.d (.v (.slice none 0 0)),.sl 1 (1)],.rw 58 13 ([v])]) (rfl) (rfl) ?_
 exact gA tk tq hK rfl bG [] 2000 [0,1] r (by kernel_rfl) trivial
end Go.Proofs.YtgkdnnmcjjabdaaGreat
namespace Go.Proofs.YtgkdnnmcjjabdaaGreat
open Go.RowKit
def jC (e:En):List DV:=[.z 4,.z e.p.node,.u e.p.inc,.z 0,.v (.int .u64 0),.v (.int .u64 0),.v (.slice none 0 0),.v (.int .u64 0),.z 0,.v (.int .u64 0),.v (.slice none 0 0),.v (.slice none 0 0),.v (.slice none 0 0)]
def x8 (e:En):List DV:=[.z 3,.z e.p.node,.u e.p.inc,.z 0,.v (.int .u64 0),.v (.int .u64 0),.v (.slice none 0 0),.v (.int .u64 0),.z 0,.v (.int .u64 0),.v (.slice none 0 0),.v (.slice none 0 0),.v (.slice none 0 0)]
def En.asked (e:En):En:={ e with st:=1,act:=true,set:=[e.p] }
def En.blocked (e:En):En:={ e with st:=2,act:=true,set:=[e.p],sy:=⟨8,e.p,⟨0,e.p⟩,0,e.aF,[e.l.length]⟩ }
theorem En.Ok.asked {e:En} (h:e.Ok):e.asked.Ok:=⟨h.p,h.l,by simp [En.asked],h.cut⟩
theorem En.Ok.blocked {e:En} (h:e.Ok):e.blocked.Ok:=⟨h.p,h.l,by simp [En.blocked],by simp [En.blocked]⟩
set_option maxRecDepth 100000 in
theorem NA (e:En) (h:e.Ok):al Tryz.prog 9 [.ag [.z e.p.node,.u e.p.inc,.z 1,.d (.v (.int .u64 0)),.z e.p.node,.u e.p.inc,.d (.ro 2 (procs [e.p])),.d (.ro 1 (ae [0])),.d (.ro 1 (streams [au 0 e.l])),.d (.ro 1 (ae [e.l.length])),.u e.l.length,.u e.aF,.d (.v (.bool true)),.d (.ro 2 (procs [e.p])),.z e.sy.kind,.z e.sy.src.node,.u e.sy.src.inc,.u e.sy.vw.round,.z e.sy.vw.server.node,.u e.sy.vw.server.inc,.u e.sy.n,.d (.v (.slice none 0 0)),.u e.sy.aF,.d (.ro 1 (ae e.sy.cut)),.d (.v (.bool false)),.d (.v (.slice none 0 0)),.d (.v (.bool false)),.d (.v (.int .u64 0)),.z 0,.d (.v (.int .u64 0)),.d (.ro 2 ([])),.d (.ro 1 ([])),.d (.v (.slice none 0 0)),.d (.v (.int .u64 0)),.z 0,.d (.v (.int .u64 0)),.d (.ro 2 ([])),.d (.ro 1 ([])),.d (.ro 1 ([])),.d (.ro 1 ([])),.z 0,.z 0,.d (.v (.int .u64 0)),.d (.v (.int .u64 0)),.z 0,.d (.v (.int .u64 0)),.d (.v (.int .u64 0)),.d (.v (.slice none 0 0)),.d (.v (.int .u64 0)),.d (.ro 1 ([])),.d (.v (.bool false))]] (.tu [.ag [.z e.p.node,.u e.p.inc,.z 2,.v (.int .u64 0),.z e.p.node,.u e.p.inc,.ro 2 (procs [e.p]),.ro 1 (ae [0]),.ro 1 (streams [au 0 e.l]),.ro 1 (ae [e.l.length]),.u e.l.length,.u e.aF,.v (.bool true),.ro 2 (procs [e.p]),.z 8,.z e.p.node,.u e.p.inc,.v (.int .u64 0),.z e.p.node,.u e.p.inc,.v (.int .u64 0),.v (.slice none 0 0),.u e.aF,.ro 1 (ae [e.l.length]),.v (.bool false),.v (.slice none 0 0),.v (.bool false),.v (.int .u64 0),.z 0,.v (.int .u64 0),.ro 2 ([]),.ro 1 ([]),.v (.slice none 0 0),.v (.int .u64 0),.z 0,.v (.int .u64 0),.ro 2 ([]),.ro 1 ([]),.ro 1 ([]),.ro 1 ([]),.z 0,.z 0,.v (.int .u64 0),.v (.int .u64 0),.z 0,.v (.int .u64 0),.v (.int .u64 0),.v (.slice none 0 0),.v (.int .u64 0),.ro 1 ([]),.v (.bool false)],.ag [.v (.slice none 0 0),.em 58 13 [jC e]],.v (.int .i64 0)]):=by
 refine al.intro (by kernel_rfl) rfl rfl 44 rfl rfl fun w0 K ac hK r=>?_
 rw [show (.tu [.ag [.z e.p.node,.u e.p.inc,.z 2,.v (.int .u64 0),.z e.p.node,.u e.p.inc,.ro 2 (procs [e.p]),.ro 1 (ae [0]),.ro 1 (streams [au 0 e.l]),.ro 1 (ae [e.l.length]),.u e.l.length,.u e.aF,.v (.bool true),.ro 2 (procs [e.p]),.z 8,.z e.p.node,.u e.p.inc,.v (.int .u64 0),.z e.p.node,.u e.p.inc,.v (.int .u64 0),.v (.slice none 0 0),.u e.aF,.ro 1 (ae [e.l.length]),.v (.bool false),.v (.slice none 0 0),.v (.bool false),.v (.int .u64 0),.z 0,.v (.int .u64 0),.ro 2 ([]),.ro 1 ([]),.v (.slice none 0 0),.v (.int .u64 0),.z 0,.v (.int .u64 0),.ro 2 ([]),.ro 1 ([]),.ro 1 ([]),.ro 1 ([]),.z 0,.z 0,.v (.int .u64 0),.v (.int .u64 0),.z 0,.v (.int .u64 0),.v (.int .u64 0),.v (.slice none 0 0),.v (.int .u64 0),.ro 1 ([]),.v (.bool false)],.ag [.v (.slice none 0 0),.em 58 13 [jC e]],.v (.int .i64 0)]:DV)=.tu [.ag [.z e.p.node,.u e.p.inc,.z 2,.v (.int .u64 0),.z e.p.node,.u e.p.inc,.ro 2 (procs [e.p]),.ro 1 (ae [0]),.ro 1 (streams [au 0 e.l]),.ro 1 (ae [e.l.length]),.u e.l.length,.u e.aF,.v (.bool true),.ro 2 (procs [e.p]),.z 8,.z e.p.node,.u e.p.inc,.v (.int .u64 0),.z e.p.node,.u e.p.inc,.v (.int .u64 0),.v (.slice none 0 0),.u e.aF,.ro 1 (ae [e.l.length]),.v (.bool false),.v (.slice none 0 0),.v (.bool false),.v (.int .u64 0),.z 0,.v (.int .u64 0),.ro 2 ([]),.ro 1 ([]),.v (.slice none 0 0),.v (.int .u64 0),.z 0,.v (.int .u64 0),.ro 2 ([]),.ro 1 ([]),.ro 1 ([]),.ro 1 ([]),.z 0,.z 0,.v (.int .u64 0),.v (.int .u64 0),.z 0,.v (.int .u64 0),.v (.int .u64 0),.v (.slice none 0 0),.v (.int .u64 0),.ro 1 ([]),.v (.bool false)],.ag [.v (.slice none 0 0),.em 58 13 ([jC e])],.z 0] from rfl]
 exact aN tk tq hK rfl [(1,[(1,.mem [] (.pt 0 0) [.bx 68 [.z e.p.node,.u e.p.inc,.z 1,.d (.v (.int .u64 0)),.z e.p.node,.u e.p.inc,.d (.ro 2 (procs [e.p])),.d (.ro 1 (ae [0])),.d (.ro 1 (streams [au 0 e.l])),.d (.ro 1 (ae [e.l.length])),.u e.l.length,.u e.aF,.d (.v (.bool true)),.d (.ro 2 (procs [e.p])),.z e.sy.kind,.z e.sy.src.node,.u e.sy.src.inc,.u e.sy.vw.round,.z e.sy.vw.server.node,.u e.sy.vw.server.inc,.u e.sy.n,.d (.v (.slice none 0 0)),.u e.sy.aF,.d (.ro 1 (ae e.sy.cut)),.d (.v (.bool false)),.d (.v (.slice none 0 0)),.d (.v (.bool false)),.d (.v (.int .u64 0)),.z 0,.d (.v (.int .u64 0)),.d (.ro 2 ([])),.d (.ro 1 ([])),.d (.v (.slice none 0 0)),.d (.v (.int .u64 0)),.z 0,.d (.v (.int .u64 0)),.d (.ro 2 ([])),.d (.ro 1 ([])),.d (.ro 1 ([])),.d (.ro 1 ([])),.z 0,.z 0,.d (.v (.int .u64 0)),.d (.v (.int .u64 0)),.z 0,.d (.v (.int .u64 0)),.d (.v (.int .u64 0)),.d (.v (.slice none 0 0)),.d (.v (.int .u64 0)),.d (.ro 1 ([])),.d (.v (.bool false)),.d (.v (.slice none 0 0)),.d (.v (.slice none 0 0))]])]),(5,[(8,.cg 200 [])]),(6,[(1,.mem [3,5] (.tu []) [.bx 68 [.z e.p.node,.u e.p.inc,.z 2,.d (.v (.int .u64 0)),.z e.p.node,.u e.p.inc,.d (.ro 2 (procs [e.p])),.d (.ro 1 (ae [0])),.d (.ro 1 (streams [au 0 e.l])),.d (.ro 1 (ae [e.l.length])),.u e.l.length,.u e.aF,.d (.v (.bool true)),.d (.ro 2 (procs [e.p])),.z 8,.z e.p.node,.u e.p.inc,.d (.v (.int .u64 0)),.z e.p.node,.u e.p.inc,.d (.v (.int .u64 0)),.d (.v (.slice none 0 0)),.u e.aF,.d (.ro 1 (ae [e.l.length])),.d (.v (.bool false)),.d (.v (.slice none 0 0)),.d (.v (.bool false)),.d (.v (.int .u64 0)),.z 0,.d (.v (.int .u64 0)),.d (.ro 2 ([])),.d (.ro 1 ([])),.d (.v (.slice none 0 0)),.d (.v (.int .u64 0)),.z 0,.d (.v (.int .u64 0)),.d (.ro 2 ([])),.d (.ro 1 ([])),.d (.ro 1 ([])),.d (.ro 1 ([])),.z 0,.z 0,.d (.v (.int .u64 0)),.d (.v (.int .u64 0)),.z 0,.d (.v (.int .u64 0)),.d (.v (.int .u64 0)),.d (.v (.slice none 0 0)),.d (.v (.int .u64 0)),.d (.ro 1 ([])),.d (.v (.bool false)),.d (.v (.slice none 0 0)),.sl 1 (1)],.rw 58 13 ([jC e])])]),(7,[(1,.mem [3,5] (.tu []) [.bx 68 [.z e.p.node,.u e.p.inc,.z 2,.d (.v (.int .u64 0)),.z e.p.node,.u e.p.inc,.d (.ro 2 (procs [e.p])),.d (.ro 1 (ae [0])),.d (.ro 1 (streams [au 0 e.l])),.d (.ro 1 (ae [e.l.length])),.u e.l.length,.u e.aF,.d (.v (.bool true)),.d (.ro 2 (procs [e.p])),.z 8,.z e.p.node,.u e.p.inc,.d (.v (.int .u64 0)),.z e.p.node,.u e.p.inc,.d (.v (.int .u64 0)),.d (.v (.slice none 0 0)),.u e.aF,.d (.ro 1 (ae [e.l.length])),.d (.v (.bool false)),.d (.v (.slice none 0 0)),.d (.v (.bool false)),.d (.v (.int .u64 0)),.z 0,.d (.v (.int .u64 0)),.d (.ro 2 ([])),.d (.ro 1 ([])),.d (.v (.slice none 0 0)),.d (.v (.int .u64 0)),.z 0,.d (.v (.int .u64 0)),.d (.ro 2 ([])),.d (.ro 1 ([])),.d (.ro 1 ([])),.d (.ro 1 ([])),.z 0,.z 0,.d (.v (.int .u64 0)),.d (.v (.int .u64 0)),.z 0,.d (.v (.int .u64 0)),.d (.v (.int .u64 0)),.d (.v (.slice none 0 0)),.d (.v (.int .u64 0)),.d (.ro 1 ([])),.d (.v (.bool false)),.d (.v (.slice none 0 0)),.sl 1 (1)],.rw 58 13 ([jC e])])])] 2000 r (by kernel_rfl) (U (jR e.asked h.asked) (U ((by first | rfl | (simp;done) | (simp<;>omega)):(1)=([[.z 4,.z e.p.node,.u e.p.inc,.z 0,.v (.int .u64 0),.v (.int .u64 0),.v (.slice none 0 0),.v (.int .u64 0),.z 0,.v (.int .u64 0),.v (.slice none 0 0),.v (.slice none 0 0),.v (.slice none 0 0)]]:List (List DV)).length) (U ((by first | omega | (simp [cU];done) | (simp [cU];omega)):(2*(0+(1))+192)*168≤281474976710656) (U ((by first | omega | (simp [cU];done) | (simp [cU];omega)):0+(1)<4611686018427387904) (U ((by simp [bY,AV.one,cD,aj]):bY ([[.z 4,.z e.p.node,.u e.p.inc,.z 0,.v (.int .u64 0),.v (.int .u64 0),.v (.slice none 0 0),.v (.int .u64 0),.z 0,.v (.int .u64 0),.v (.slice none 0 0),.v (.slice none 0 0),.v (.slice none 0 0)]])) (U (SO e h (jC e)) (U (RD e h (jC e)) (U ((by first | rfl | (simp;done) | (simp<;>omega)):(1)=([jC e]:List (List DV)).length) trivial))))))))
theorem Ph (e:En) (h:e.Ok):al Tryz.prog 9 [.ag (EC e.asked)] (.tu [.ag (ED e.blocked),.ag [.v (.slice none 0 0),.ro 13 [jC e]],.v (.int .i64 0)]):=by
 have h:=(NA e h).bd
 simp only [bd,ir,bO,lr,kA,mK,jC] at h
 exact h
theorem T3 {p:ay} (hp:p.may=true):isSet [p]=true:=by simp [isSet,hp]
theorem T4 (p:ay):idx [p] p 0=0:=by simp [idx]
theorem RG (p:ay):al Tryz.prog 53 [.d (.ro 2 (procs [p]))] (.ro 1 (ints [p.node])):=by
 have h:=r9 [p] (fun i a b h1 h2=>by simp at h2) (by simp)
 have e:a6 ([p].map ay.node) ([p].map ay.node).length=[p.node]:=by simp [a6,ql]
 rw [e] at h;exact h
set_option maxRecDepth 100000 in
theorem QL (p:ay) (hp:p.may=true):al Tryz.prog 26 [.ag [.z p.node,.u p.inc],.d (.ro 2 (procs [p]))] (.v (.bool true)):=by
 refine al.intro (by kernel_rfl) rfl rfl 25 rfl rfl fun w0 K ac hK r=>?_
 rw [show (.v (.bool true):DV)=.v (.bool true) from rfl]
 exact aN tk tq hK rfl [(1,[(1,.z (((1:Nat):Int))),(5,.aM (.v (.bool true))),(10,.cg 200 [(1,[(2,.cg 200 [(1,[(2,.aM (.z 0))])])])]),(14,.aM (.ro 1 (ints [p.node]))),(15,.z (((1:Nat):Int))),(17,.z (((1:Nat):Int)))])] 2000 r (by kernel_rfl) (U (rfl:(((procs [p]).length:Nat):Int)=((1:Nat):Int)) (U ((by have k:=At [p] (by simp);rw [T3 hp] at k;exact k):al Tryz.prog 51 [.d (.ro 2 (procs [p]))] (.v (.bool true))) (U ((by have k:=Fc [p] p (by simp);rw [T4 p] at k;exact k):al Tryz.prog 88 [.d (.ro 2 (procs [p])),.ag [.z p.node,.u p.inc]] (.z 0)) (U (RG p) (U (rfl:(((ints [p.node]).length:Nat):Int)=((1:Nat):Int)) (U (rfl:(((procs [p]).length:Nat):Int)=((1:Nat):Int)) trivial))))))
set_option maxRecDepth 100000 in
theorem NB (e:En) (h:e.Ok) (h0:e.st=0) (c:Nat) (hc:e.aF<c):al Tryz.prog 10 [.ag [.z e.p.node,.u e.p.inc,.z e.st,.d (.v (.int .u64 0)),.z e.p.node,.u e.p.inc,.d (.ro 2 (procs [e.p])),.d (.ro 1 (ae [0])),.d (.ro 1 (streams [au 0 e.l])),.d (.ro 1 (ae [e.l.length])),.u e.l.length,.u e.aF,.d (.v (.bool (e.act))),.d (.ro 2 (procs e.set)),.z e.sy.kind,.z e.sy.src.node,.u e.sy.src.inc,.u e.sy.vw.round,.z e.sy.vw.server.node,.u e.sy.vw.server.inc,.u e.sy.n,.d (.v (.slice none 0 0)),.u e.sy.aF,.d (.ro 1 (ae e.sy.cut)),.d (.v (.bool false)),.d (.v (.slice none 0 0)),.d (.v (.bool false)),.d (.v (.int .u64 0)),.z 0,.d (.v (.int .u64 0)),.d (.ro 2 ([])),.d (.ro 1 ([])),.d (.v (.slice none 0 0)),.d (.v (.int .u64 0)),.z 0,.d (.v (.int .u64 0)),.d (.ro 2 ([])),.d (.ro 1 ([])),.d (.ro 1 ([])),.d (.ro 1 ([])),.z 0,.z 0,.d (.v (.int .u64 0)),.d (.v (.int .u64 0)),.z 0,.d (.v (.int .u64 0)),.d (.v (.int .u64 0)),.d (.v (.slice none 0 0)),.d (.v (.int .u64 0)),.d (.ro 1 ([])),.d (.v (.bool false))],.u c,.d (.ro 2 (procs [e.p]))] (.tu [.ag [.z e.p.node,.u e.p.inc,.z 1,.v (.int .u64 0),.z e.p.node,.u e.p.inc,.ro 2 (procs [e.p]),.ro 1 (ae [0]),.ro 1 (streams [au 0 e.l]),.ro 1 (ae [e.l.length]),.u e.l.length,.u c,.v (.bool true),.ro 2 (procs [e.p]),.z e.sy.kind,.z e.sy.src.node,.u e.sy.src.inc,.u e.sy.vw.round,.z e.sy.vw.server.node,.u e.sy.vw.server.inc,.u e.sy.n,.v (.slice none 0 0),.u e.sy.aF,.ro 1 (ae e.sy.cut),.v (.bool false),.v (.slice none 0 0),.v (.bool false),.v (.int .u64 0),.z 0,.v (.int .u64 0),.v (.slice none 0 0),.v (.slice none 0 0),.v (.slice none 0 0),.v (.int .u64 0),.z 0,.v (.int .u64 0),.ro 2 ([]),.ro 1 ([]),.ro 1 ([]),.ro 1 ([]),.z 0,.z 0,.v (.int .u64 0),.v (.int .u64 0),.z 0,.v (.int .u64 0),.v (.int .u64 0),.v (.slice none 0 0),.v (.int .u64 0),.ro 1 ([]),.v (.bool false)],.ag [.v (.slice none 0 0),.em 58 13 [x8 e]]]):=by
 refine al.intro (by kernel_rfl) rfl rfl 92 rfl rfl fun w0 K ac hK r=>?_
 cases h0:(decide ((((c:Nat):Int):Int)≤((e.aF:Nat):Int))) with
 | false=>
  have bh:=of_decide_eq_false h0
  cases h1:((e.st:Int)==0) with
  | false=>
   have bM:=ne_of_beq_false h1
   exact absurd bM (by omega)
  | true=>
   have bM:=eq_of_beq h1
   rw [show (.tu [.ag [.z e.p.node,.u e.p.inc,.z 1,.v (.int .u64 0),.z e.p.node,.u e.p.inc,.ro 2 (procs [e.p]),.ro 1 (ae [0]),.ro 1 (streams [au 0 e.l]),.ro 1 (ae [e.l.length]),.u e.l.length,.u c,.v (.bool true),.ro 2 (procs [e.p]),.z e.sy.kind,.z e.sy.src.node,.u e.sy.src.inc,.u e.sy.vw.round,.z e.sy.vw.server.node,.u e.sy.vw.server.inc,.u e.sy.n,.v (.slice none 0 0),.u e.sy.aF,.ro 1 (ae e.sy.cut),.v (.bool false),.v (.slice none 0 0),.v (.bool false),.v (.int .u64 0),.z 0,.v (.int .u64 0),.v (.slice none 0 0),.v (.slice none 0 0),.v (.slice none 0 0),.v (.int .u64 0),.z 0,.v (.int .u64 0),.ro 2 ([]),.ro 1 ([]),.ro 1 ([]),.ro 1 ([]),.z 0,.z 0,.v (.int .u64 0),.v (.int .u64 0),.z 0,.v (.int .u64 0),.v (.int .u64 0),.v (.slice none 0 0),.v (.int .u64 0),.ro 1 ([]),.v (.bool false)],.ag [.v (.slice none 0 0),.em 58 13 [x8 e]]]:DV)=.tu [.ag [.z e.p.node,.u e.p.inc,.z 1,.v (.int .u64 0),.z e.p.node,.u e.p.inc,.ro 2 (procs [e.p]),.ro 1 (ae [0]),.ro 1 (streams [au 0 e.l]),.ro 1 (ae [e.l.length]),.u e.l.length,.u c,.v (.bool true),.ro 2 (procs [e.p]),.z e.sy.kind,.z e.sy.src.node,.u e.sy.src.inc,.u e.sy.vw.round,.z e.sy.vw.server.node,.u e.sy.vw.server.inc,.u e.sy.n,.v (.slice none 0 0),.u e.sy.aF,.ro 1 (ae e.sy.cut),.v (.bool false),.v (.slice none 0 0),.v (.bool false),.v (.int .u64 0),.z 0,.v (.int .u64 0),.v (.slice none 0 0),.v (.slice none 0 0),.v (.slice none 0 0),.v (.int .u64 0),.z 0,.v (.int .u64 0),.ro 2 ([]),.ro 1 ([]),.ro 1 ([]),.ro 1 ([]),.z 0,.z 0,.v (.int .u64 0),.v (.int .u64 0),.z 0,.v (.int .u64 0),.v (.int .u64 0),.v (.slice none 0 0),.v (.int .u64 0),.ro 1 ([]),.v (.bool false)],.ag [.v (.slice none 0 0),.em 58 13 ([[.z 3,.z e.p.node,.u e.p.inc,.z 0,.v (.int .u64 0),.v (.int .u64 0),.v (.slice none 0 0),.v (.int .u64 0),.z 0,.v (.int .u64 0),.v (.slice none 0 0),.v (.slice none 0 0),.v (.slice none 0 0)]])]] from rfl]
   exact aN tk tq hK rfl [(1,[(1,.mem [] (.pt 0 0) [.bx 68 [.z e.p.node,.u e.p.inc,.z e.st,.d (.v (.int .u64 0)),.z e.p.node,.u e.p.inc,.d (.ro 2 (procs [e.p])),.d (.ro 1 (ae [0])),.d (.ro 1 (streams [au 0 e.l])),.d (.ro 1 (ae [e.l.length])),.u e.l.length,.u e.aF,.d (.v (.bool (e.act))),.d (.ro 2 (procs e.set)),.z e.sy.kind,.z e.sy.src.node,.u e.sy.src.inc,.u e.sy.vw.round,.z e.sy.vw.server.node,.u e.sy.vw.server.inc,.u e.sy.n,.d (.v (.slice none 0 0)),.u e.sy.aF,.d (.ro 1 (ae e.sy.cut)),.d (.v (.bool false)),.d (.v (.slice none 0 0)),.d (.v (.bool false)),.d (.v (.int .u64 0)),.z 0,.d (.v (.int .u64 0)),.d (.ro 2 ([])),.d (.ro 1 ([])),.d (.v (.slice none 0 0)),.d (.v (.int .u64 0)),.z 0,.d (.v (.int .u64 0)),.d (.ro 2 ([])),.d (.ro 1 ([])),.d (.ro 1 ([])),.d (.ro 1 ([])),.z 0,.z 0,.d (.v (.int .u64 0)),.d (.v (.int .u64 0)),.z 0,.d (.v (.int .u64 0)),.d (.v (.int .u64 0)),.d (.v (.slice none 0 0)),.d (.v (.int .u64 0)),.d (.ro 1 ([])),.d (.v (.bool false)),.d (.v (.slice none 0 0)),.d (.v (.slice none 0 0))]])]),(2,[(6,.b false),(14,.aM (.v (.bool true)))]),(4,[(5,.aM (.ro 2 (procs [e.p])))]),(7,[(0,.b true)]),(9,[(8,.cg 200 [])])] 2000 r (by kernel_rfl) (U (jR e h) (U h0 (U (QL e.p h.p) (U (wx [e.p] (by simp)) (U h1 (U ((by first | rfl | (simp;done) | (simp<;>omega)):(1)=([[.z 3,.z e.p.node,.u e.p.inc,.z 0,.v (.int .u64 0),.v (.int .u64 0),.v (.slice none 0 0),.v (.int .u64 0),.z 0,.v (.int .u64 0),.v (.slice none 0 0),.v (.slice none 0 0),.v (.slice none 0 0)]]:List (List DV)).length) (U ((by first | omega | (simp [cU];done) | (simp [cU];omega)):(2*(0+(1))+192)*168≤281474976710656) (U ((by first | omega | (simp [cU];done) | (simp [cU];omega)):0+(1)<4611686018427387904) (U ((by simp [bY,AV.one,cD,aj]):bY ([[.z 3,.z e.p.node,.u e.p.inc,.z 0,.v (.int .u64 0),.v (.int .u64 0),.v (.slice none 0 0),.v (.int .u64 0),.z 0,.v (.int .u64 0),.v (.slice none 0 0),.v (.slice none 0 0),.v (.slice none 0 0)]])) (U ((by first | rfl | (simp;done) | (simp<;>omega)):((1))=([[.z 3,.z e.p.node,.u e.p.inc,.z 0,.v (.int .u64 0),.v (.int .u64 0),.v (.slice none 0 0),.v (.int .u64 0),.z 0,.v (.int .u64 0),.v (.slice none 0 0),.v (.slice none 0 0),.v (.slice none 0 0)]]:List (List DV)).length) trivial))))))))))
 | true=>
  have bh:=of_decide_eq_true h0
  exact absurd bh (by omega)
theorem Pj (e:En) (h:e.Ok) (h0:e.st=0) (c:Nat) (hc:e.aF<c):al Tryz.prog 10 [.ag (EC e),.d (.v (.int .u64 ((c:Nat):Int))),.d (.ro 2 (procs [e.p]))] (.tu [.ag (ED ({ e with aF:=c }:En).asked),.ag [.v (.slice none 0 0),.ro 13 [x8 e]]]):=by
 have h:=(NB e h h0 c hc).bd
 simp only [bd,ir,bO,lr,kA,mK] at h
 refine h.le (gO.tu (.cons (gO.ag ?_) (.cons (Le.refl _) .nil)))
 repeat (first | exact .nil | refine .cons (by first | exact Le.refl _ | exact Le.wL _) ?_)
end Go.Proofs.YtgkdnnmcjjabdaaGreat
namespace Go.Proofs.YtgkdnnmcjjabdaaGreat
open Go.RowKit
theorem RH (p:ay):al Tryz.prog 15 [.ag [.z p.node,.u p.inc]] (.ag [.v (.int .u64 0),.z p.node,.u p.inc,.ro 2 (procs [p]),.ro 1 (ae [0])]):=by
 have h:=(yZ p).bd
 simp only [bd,ir,lr,kA] at h
 exact h
set_option maxRecDepth 100000 in
theorem SP (p:ay):al Tryz.prog 7 [.ag [.z p.node,.u p.inc]] (.ag [.z p.node,.u p.inc,.z 0,.v (.int .u64 0),.z p.node,.u p.inc,.ro 2 (procs [p]),.ro 1 (ae [0]),.ro 1 (streams [au 0 ([]:List (List UInt8))]),.ro 1 (ae [0]),.v (.int .u64 0),.v (.int .u64 0),.v (.bool false),.v (.slice none 0 0),.z 0,.z 0,.v (.int .u64 0),.v (.int .u64 0),.z 0,.v (.int .u64 0),.v (.int .u64 0),.v (.slice none 0 0),.v (.int .u64 0),.v (.slice none 0 0),.v (.bool false),.v (.slice none 0 0),.v (.bool false),.v (.int .u64 0),.z 0,.v (.int .u64 0),.v (.slice none 0 0),.v (.slice none 0 0),.v (.slice none 0 0),.v (.int .u64 0),.z 0,.v (.int .u64 0),.v (.slice none 0 0),.v (.slice none 0 0),.v (.slice none 0 0),.v (.slice none 0 0),.z 0,.z 0,.v (.int .u64 0),.v (.int .u64 0),.z 0,.v (.int .u64 0),.v (.int .u64 0),.v (.slice none 0 0),.v (.int .u64 0),.v (.slice none 0 0),.v (.bool false)]):=by
 refine al.intro (by kernel_rfl) rfl rfl 8 rfl rfl fun w0 K ac hK r=>?_
 rw [show (.ag [.z p.node,.u p.inc,.z 0,.v (.int .u64 0),.z p.node,.u p.inc,.ro 2 (procs [p]),.ro 1 (ae [0]),.ro 1 (streams [au 0 ([]:List (List UInt8))]),.ro 1 (ae [0]),.v (.int .u64 0),.v (.int .u64 0),.v (.bool false),.v (.slice none 0 0),.z 0,.z 0,.v (.int .u64 0),.v (.int .u64 0),.z 0,.v (.int .u64 0),.v (.int .u64 0),.v (.slice none 0 0),.v (.int .u64 0),.v (.slice none 0 0),.v (.bool false),.v (.slice none 0 0),.v (.bool false),.v (.int .u64 0),.z 0,.v (.int .u64 0),.v (.slice none 0 0),.v (.slice none 0 0),.v (.slice none 0 0),.v (.int .u64 0),.z 0,.v (.int .u64 0),.v (.slice none 0 0),.v (.slice none 0 0),.v (.slice none 0 0),.v (.slice none 0 0),.z 0,.z 0,.v (.int .u64 0),.v (.int .u64 0),.z 0,.v (.int .u64 0),.v (.int .u64 0),.v (.slice none 0 0),.v (.int .u64 0),.v (.slice none 0 0),.v (.bool false)]:DV)=.ag [.z p.node,.u p.inc,.z 0,.v (.int .u64 0),.z p.node,.u p.inc,.ro 2 (procs [p]),.ro 1 (ae [0]),.ro 1 (streams [au 0 ([]:List (List UInt8))]),.ro 1 (ae [0]),.v (.int .u64 0),.v (.int .u64 0),.v (.bool false),.v (.slice none 0 0),.z 0,.z 0,.v (.int .u64 0),.v (.int .u64 0),.z 0,.v (.int .u64 0),.v (.int .u64 0),.v (.slice none 0 0),.v (.int .u64 0),.v (.slice none 0 0),.v (.bool false),.v (.slice none 0 0),.v (.bool false),.v (.int .u64 0),.z 0,.v (.int .u64 0),.v (.slice none 0 0),.v (.slice none 0 0),.v (.slice none 0 0),.v (.int .u64 0),.z 0,.v (.int .u64 0),.v (.slice none 0 0),.v (.slice none 0 0),.v (.slice none 0 0),.v (.slice none 0 0),.z 0,.z 0,.v (.int .u64 0),.v (.int .u64 0),.z 0,.v (.int .u64 0),.v (.int .u64 0),.v (.slice none 0 0),.v (.int .u64 0),.v (.slice none 0 0),.v (.bool false)] from rfl]
 exact aN tk tq hK rfl [(1,[(2,.aM (.ag [.v (.int .u64 0),.z p.node,.u p.inc,.ro 2 (procs [p]),.ro 1 (ae [0])])),(3,.aM (.ag [.v (.int .u64 0),.z p.node,.u p.inc,.ro 2 (procs [p]),.ro 1 (ae [0]),.ro 1 (streams [au 0 ([]:List (List UInt8))]),.ro 1 (ae [0])]))])] 2000 r (by kernel_rfl) (U (RH p) (U (SM p) trivial))
theorem T5 (p:ay):al Tryz.prog 7 [.ag [.z p.node,.u p.inc]] (.ag (ED (En.new p))):=by
 refine (SP p).le (gO.ag ?_)
 repeat (first | exact .nil | refine .cons (by first | exact Le.refl _ | exact Le.wL _) ?_)
def En.run (p:ay) (l:List (List UInt8)):En:=⟨p,0,l,0,false,[],⟨0,⟨0,0⟩,⟨0,⟨0,0⟩⟩,0,0,[]⟩⟩
theorem En.jN {p:ay} {l:List (List UInt8)} (hp:p.may=true) (hl:eN l):(En.run p l).Ok:=⟨hp,hl,by simp [En.run],by simp [En.run]⟩
abbrev eA (l:List (List UInt8)):List (List DV):=l.map fun b=>[.ro 1 (aj b)]
theorem cx {l:List (List UInt8)} {i:Nat} {b:List UInt8} (h:l[i]?=some b):(eA l)[i]?=some [.ro 1 (aj b)]:=by simp [eA,h]
def En.T6 (e:En) (b:List UInt8):En:={ e with l:=e.l++[b] }
theorem QM (e:En) (b:List UInt8) (h:e.Ok) (hs:e.st≠2) (hb:b.length≤64) (lq:e.l.length<16):al Tryz.prog 8 [.ag (EC e),.d (.ro 1 (aj b))] (.tu [.ag (ED (e.T6 b)),.ag [.v (.slice none 0 0),.ro 13 [cq e b,gU e b]],.v (.int .i64 0)]):=by
 have k:=(Pg e b h hs hb lq).bd
 simp only [bd,ir,bO,lr,kA,mK,yB,cq,gU] at k
 have e1:(e.l++[b]).length=e.l.length+1:=by simp
 refine k.le (gO.tu (.cons (gO.ag ?_) (.cons (Le.refl _) (.cons (Le.refl _) .nil))))
 repeat (first | exact .nil | refine .cons (by first | exact Le.refl _ | (show Le (.v (.int .u64 ((e.l.length+1:Nat):Int))) (.v (.int .u64 (((e.l++[b]).length:Nat):Int)));rw [e1];exact Le.refl _)) ?_)
end Go.Proofs.YtgkdnnmcjjabdaaGreat
namespace Go.Proofs.YtgkdnnmcjjabdaaGreat
open Go.RowKit
def En.at (e:En) (c:Nat):En:={ e with aF:=c }
theorem En.Ok.at {e:En} (h:e.Ok) {c:Nat}:(e.at c).Ok:=⟨h.p,h.l,h.set,h.cut⟩
end Go.Proofs.YtgkdnnmcjjabdaaGreat
namespace Go.Proofs.YtgkdnnmcjjabdaaGreat
open Go.RowKit
set_option maxRecDepth 100000 in
theorem NC (a:List Nat) (hb:a.length<2147483648):al Tryz.prog 54 [.d (.ro 1 (ae a)),.d (.ro 1 (ae a))] (.v (.bool true)):=by
 refine al.intro (by kernel_rfl) rfl rfl 26 rfl rfl fun w0 K ac hK r=>?_
 refine bD (todo':=hd Tryz.f54 0) (E':=[(0,.d (.ro 1 (ae a))),(1,.d (.ro 1 (ae a))),(5,.n 0)]) (M':=[]) tk tq hK [(1,[(1,.z (((a.length:Nat):Int))),(3,.z (((a.length:Nat):Int))),(4,.b false)])] 2000 [] [0,1,5] r (by kernel_rfl) (U ((by simp [aj]):(((ae a).length:Nat):Int)=((a.length:Nat):Int)) (U ((by simp [aj]):(((ae a).length:Nat):Int)=((a.length:Nat):Int)) (U ((by simp):((((a.length:Nat):Int):Int) != ((a.length:Nat):Int))=false) trivial))) fun ac wd r=>?_
 refine aG.rounds (Φ:=fun (i:Nat) ac wd=>(i≤a.length)∧dj [] w0 K 26 [(0,.d (.ro 1 (ae a))),(1,.d (.ro 1 (ae a))),(5,.n i)] [] ac wd) (a.length) ?_ (Nat.zero_le _) ⟨(Nat.zero_le _),r⟩
 clear r
 rintro i eX b9 ac wd ⟨aT,r⟩
 have gT:=((by simp [aj]):(((ae a).length:Nat):Int)=((a.length:Nat):Int))
 cases h0:(decide ((((i:Nat):Int):Int)<((a.length:Nat):Int))) with
 | false=>
  have bh:=of_decide_eq_false h0
  exact aN tk tq hK rfl [(4,[(2,.z (((a.length:Nat):Int))),(3,.b false)])] 2000 r (by kernel_rfl) (U gT (U h0 trivial))
 | true=>
  have bh:=of_decide_eq_true h0
  obtain ⟨dJ,iq⟩:∃ x,a[i]?=some x:=⟨_,List.getElem?_eq_getElem (by omega)⟩
  exact bD (todo':=hd Tryz.f54 0) tk tq hK [(4,[(2,.z (((a.length:Nat):Int))),(3,.b true)]),(5,[(1,.z (((i+1:Nat):Int)))]),(6,[(2,.ix (i) [.u dJ]),(6,.ix (i) [.u dJ]),(8,.b false)])] 2000 [] [0,1,5] r (by kernel_rfl) (U gT (U h0 (U (aJ ((i:Nat):Int)) (U (eH iq) (U (aJ ((i:Nat):Int)) (U (eH iq) (U ((by simp):((((dJ:Nat):Int):Int) != ((dJ:Nat):Int))=false) (U ((wi (by omega)):IntKind.i64.wrap ((((i:Nat):Int):Int)+1)=((i+1:Nat):Int)) trivial)))))))) fun ac wd r=>b9 (by omega) ac wd ⟨(by omega),r⟩
set_option maxRecDepth 100000 in
theorem QN (x:xF) (hb:x.cut.length<2147483648):al Tryz.prog 30 [.ag [.z x.kind,.z x.src.node,.u x.src.inc,.u x.vw.round,.z x.vw.server.node,.u x.vw.server.inc,.u x.n,.d (.ro 1 (aj ([]:List UInt8))),.u x.aF,.d (.ro 1 (ae x.cut)),.d (.v (.bool false))],.ag [.z x.kind,.z x.src.node,.u x.src.inc,.u x.vw.round,.z x.vw.server.node,.u x.vw.server.inc,.u x.n,.d (.ro 1 (aj ([]:List UInt8))),.u x.aF,.d (.ro 1 (ae x.cut)),.d (.v (.bool false))]] (.v (.bool true)):=by
 refine al.intro (by kernel_rfl) rfl rfl 61 rfl rfl fun w0 K ac hK r=>?_
 cases h0:(decide (x.src=x.src)) with
 | false=>
  have bh:=of_decide_eq_false h0
  exact absurd rfl bh
 | true=>
  have bh:=of_decide_eq_true h0
  have gT:=((fG (ji _ _) h0):eh Tryz.prog 24 [(.int .i64 (x.src.node)),(.int .u64 (((x.src.inc:Nat):Int)))] [(.int .i64 (x.src.node)),(.int .u64 (((x.src.inc:Nat):Int)))] true)
  cases h1:(decide (x.vw=x.vw)) with
  | false=>
   have bM:=of_decide_eq_false h1
   exact absurd rfl bM
  | true=>
   have bM:=of_decide_eq_true h1
   exact aN tk tq hK rfl [(1,[(4,.b true),(10,.b true),(17,.b true),(24,.b true),(29,.res (.v (.string ⟨(([]:List UInt8)).toArray⟩))),(32,.res (.v (.string ⟨(([]:List UInt8)).toArray⟩))),(33,.b true),(40,.b true),(47,.aM (.v (.bool true)))])] 2000 r (by kernel_rfl) (U ((by simp):((x.kind:Int)==x.kind)=true) (U gT (U ((fG (sM _ _) h1):eh Tryz.prog 30 [(.int .u64 (((x.vw.round:Nat):Int))),(.int .i64 (x.vw.server.node)),(.int .u64 (((x.vw.server.inc:Nat):Int)))] [(.int .u64 (((x.vw.round:Nat):Int))),(.int .i64 (x.vw.server.node)),(.int .u64 (((x.vw.server.inc:Nat):Int)))] true) (U ((by simp):((((x.n:Nat):Int):Int)==((x.n:Nat):Int))=true) (U (rfl:aj ([]:List UInt8)=aj (([]:List UInt8))) (U (rfl:aj ([]:List UInt8)=aj (([]:List UInt8))) (U ((by simp):(([]:List UInt8)==([]:List UInt8))=true) (U ((by simp):((((x.aF:Nat):Int):Int)==((x.aF:Nat):Int))=true) (U (NC x.cut (by first | assumption | omega | simp)) trivial)))))))))
inductive nZ:List AV→List AV→Prop where
 | nil:nZ [] []
 | cons {c c':AV} {l l':List AV} (h:∀ (K:World→Prop) (y:Value),aq K [] c y→aq K [] c' y) (t:nZ l l'):nZ (c::l) (c'::l')
theorem nZ.ok {l l':List AV} (h:nZ l l'):l.length=l'.length∧∀ (j:Nat) c c',l[j]?=some c→l'[j]?=some c'→∀ (K:World→Prop) (y:Value),aq K [] c y→aq K [] c' y:=by
 induction h with
 | nil=>simp
 | cons h t ih=>
  refine ⟨by simp [ih.1],fun j c c' h1 h2=>?_⟩
  cases j with
  | zero=>simp at h1 h2;subst h1 h2;exact h
  | succ j=>exact ih.2 j c c' (by simpa using h1) (by simpa using h2)
theorem nZ.ag {l l':List AV} (h:nZ l l') {K:World→Prop} {y:Value} (r:aq K [] (.ag l) y):aq K [] (.ag l') y:=by
 cases r with
 | ag ys hl hr=>
  refine .ag ys (by rw [hl];exact h.ok.1) fun j c' z h1 h2=>?_
  have hj:j<l.length:=by rw [h.ok.1];exact (List.getElem?_eq_some_iff.1 h1).1
  have e:=List.getElem?_eq_getElem hj
  exact h.ok.2 j _ c' e h1 K z (hr j _ z e h2)
theorem al.two {P:Program} {f:FuncId} {l l':List AV} {x:DV} (h:al P f [.ag l',.ag l'] x) (e:nZ l l'):al P f [.ag l,.ag l] x:=by
 refine h.sub rfl fun K j c c' y h1 h2 r=>?_
 match j with
 | 0=>simp at h1 h2;subst h1 h2;exact e.ag r
 | 1=>simp at h1 h2;subst h1 h2;exact e.ag r
 | j+2=>simp at h1
theorem Bj (x:xF) (hb:x.cut.length<2147483648):al Tryz.prog 30 [.ag [.z x.kind,.z x.src.node,.u x.src.inc,.u x.vw.round,.z x.vw.server.node,.u x.vw.server.inc,.u x.n,.d (.v (.slice none 0 0)),.u x.aF,.d (.ro 1 (ae x.cut)),.d (.v (.bool false))],.ag [.z x.kind,.z x.src.node,.u x.src.inc,.u x.vw.round,.z x.vw.server.node,.u x.vw.server.inc,.u x.n,.d (.v (.slice none 0 0)),.u x.aF,.d (.ro 1 (ae x.cut)),.d (.v (.bool false))]] (.v (.bool true)):=by
 refine (QN x hb).two ?_
 repeat (first | exact .nil | refine .cons (by first | exact fun _ _ h=>h | exact fun _ _ h=>aq.le (Le.wL 1) h) ?_)
theorem H7:al Tryz.prog 30 [.ag [.z 0,.z 0,.d (.v (.int .u64 0)),.d (.v (.int .u64 0)),.z 0,.d (.v (.int .u64 0)),.d (.v (.int .u64 0)),.d (.v (.slice none 0 0)),.d (.v (.int .u64 0)),.d (.ro 1 ([])),.d (.v (.bool false))],.ag [.z 0,.z 0,.d (.v (.int .u64 0)),.d (.v (.int .u64 0)),.z 0,.d (.v (.int .u64 0)),.d (.v (.int .u64 0)),.d (.v (.slice none 0 0)),.d (.v (.int .u64 0)),.d (.ro 1 ([])),.d (.v (.bool false))]] (.v (.bool true)):=Bj ⟨0,⟨0,0⟩,⟨0,⟨0,0⟩⟩,0,0,[]⟩ (by simp)
set_option maxRecDepth 100000 in
theorem vV :al Tryz.prog 31 [.d (.v (.slice none 0 0)),.d (.v (.slice none 0 0))] (.v (.bool true)):=by
 refine al.intro (by kernel_rfl) rfl rfl 27 rfl rfl fun w0 K ac hK r=>?_
 refine bD (todo':=hd Tryz.f31 0) (E':=[(0,.d (.v (.slice none 0 0))),(1,.d (.v (.slice none 0 0))),(4,.d (.v (.bool false))),(6,.d (.v (.slice none 0 0))),(7,.n 0),(8,.d (.v (.slice none 0 0))),(9,.n 0),(10,.d (.v (.bool false))),(5,.z 0)]) (M':=[]) tk tq hK [] 2000 [] [0,1,4,6,7,8,9,10,5] r (by kernel_rfl) trivial fun ac wd r=>?_
 exact aN tk tq hK rfl [] 2000 r (by kernel_rfl) trivial
end Go.Proofs.YtgkdnnmcjjabdaaGreat
namespace Go.Proofs.YtgkdnnmcjjabdaaGreat
open Go.RowKit
theorem LB:aA.zero.bounded:=by simp [aA.bounded,View.bounded,aA.zero]
theorem IB {p:ay} {l:List (List UInt8)} (hl:eN l):al Tryz.prog 28 [.ag [.d (.v (.int .u64 0)),.z p.node,.u p.inc,.d (.ro 2 (procs [p])),.d (.ro 1 (ae [0])),.d (.ro 1 (streams [au 0 l])),.d (.ro 1 (ae [l.length]))],.ag [.d (.v (.int .u64 0)),.z p.node,.u p.inc,.d (.ro 2 (procs [p])),.d (.ro 1 (ae [0])),.d (.ro 1 (streams [au 0 l])),.d (.ro 1 (ae [l.length]))]] (.v (.bool true)):=by
 have k:=FV (fB p l l.length) (fB p l l.length) (rF hl)
 rw [decide_eq_true rfl] at k;exact k
theorem H8:al Tryz.prog 28 [.ag [.d (.v (.int .u64 0)),.z 0,.d (.v (.int .u64 0)),.d (.ro 2 ([])),.d (.ro 1 ([])),.d (.ro 1 ([])),.d (.ro 1 ([]))],.ag [.d (.v (.int .u64 0)),.z 0,.d (.v (.int .u64 0)),.d (.ro 2 ([])),.d (.ro 1 ([])),.d (.ro 1 ([])),.d (.ro 1 ([]))]] (.v (.bool true)):=by
 have k:=FV aA.zero aA.zero LB
 rw [decide_eq_true rfl] at k;exact k
theorem IC (l:List ay) (hb:l.length<2147483648):al Tryz.prog 29 [.d (.ro 2 (procs l)),.d (.ro 2 (procs l))] (.v (.bool true)):=by
 have k:=zD l l hb
 rw [decide_eq_true rfl] at k;exact k
theorem H9:al Tryz.prog 32 [.ag [.d (.v (.int .u64 0)),.z 0,.d (.v (.int .u64 0)),.d (.ro 2 ([])),.d (.ro 1 ([]))],.ag [.d (.v (.int .u64 0)),.z 0,.d (.v (.int .u64 0)),.d (.ro 2 ([])),.d (.ro 1 ([]))]] (.v (.bool true)):=by
 have k:=yz ⟨⟨0,⟨0,0⟩⟩,[],[]⟩ ⟨⟨0,⟨0,0⟩⟩,[],[]⟩ ⟨by simp,by simp⟩
 rw [decide_eq_true rfl] at k;exact k
set_option maxRecDepth 100000 in
theorem Lq (e:En) (h:e.Ok):al Tryz.prog 12 [.ag [.z e.p.node,.u e.p.inc,.z e.st,.d (.v (.int .u64 0)),.z e.p.node,.u e.p.inc,.d (.ro 2 (procs [e.p])),.d (.ro 1 (ae [0])),.d (.ro 1 (streams [au 0 e.l])),.d (.ro 1 (ae [e.l.length])),.u e.l.length,.u e.aF,.d (.v (.bool true)),.d (.ro 2 (procs e.set)),.z e.sy.kind,.z e.sy.src.node,.u e.sy.src.inc,.u e.sy.vw.round,.z e.sy.vw.server.node,.u e.sy.vw.server.inc,.u e.sy.n,.d (.v (.slice none 0 0)),.u e.sy.aF,.d (.ro 1 (ae e.sy.cut)),.d (.v (.bool false)),.d (.v (.slice none 0 0)),.d (.v (.bool false)),.d (.v (.int .u64 0)),.z 0,.d (.v (.int .u64 0)),.d (.ro 2 ([])),.d (.ro 1 ([])),.d (.v (.slice none 0 0)),.d (.v (.int .u64 0)),.z 0,.d (.v (.int .u64 0)),.d (.ro 2 ([])),.d (.ro 1 ([])),.d (.ro 1 ([])),.d (.ro 1 ([])),.z 0,.z 0,.d (.v (.int .u64 0)),.d (.v (.int .u64 0)),.z 0,.d (.v (.int .u64 0)),.d (.v (.int .u64 0)),.d (.v (.slice none 0 0)),.d (.v (.int .u64 0)),.d (.ro 1 ([])),.d (.v (.bool false))],.ag [.z e.p.node,.u e.p.inc,.z e.st,.d (.v (.int .u64 0)),.z e.p.node,.u e.p.inc,.d (.ro 2 (procs [e.p])),.d (.ro 1 (ae [0])),.d (.ro 1 (streams [au 0 e.l])),.d (.ro 1 (ae [e.l.length])),.u e.l.length,.u e.aF,.d (.v (.bool true)),.d (.ro 2 (procs e.set)),.z e.sy.kind,.z e.sy.src.node,.u e.sy.src.inc,.u e.sy.vw.round,.z e.sy.vw.server.node,.u e.sy.vw.server.inc,.u e.sy.n,.d (.v (.slice none 0 0)),.u e.sy.aF,.d (.ro 1 (ae e.sy.cut)),.d (.v (.bool false)),.d (.v (.slice none 0 0)),.d (.v (.bool false)),.d (.v (.int .u64 0)),.z 0,.d (.v (.int .u64 0)),.d (.ro 2 ([])),.d (.ro 1 ([])),.d (.v (.slice none 0 0)),.d (.v (.int .u64 0)),.z 0,.d (.v (.int .u64 0)),.d (.ro 2 ([])),.d (.ro 1 ([])),.d (.ro 1 ([])),.d (.ro 1 ([])),.z 0,.z 0,.d (.v (.int .u64 0)),.d (.v (.int .u64 0)),.z 0,.d (.v (.int .u64 0)),.d (.v (.int .u64 0)),.d (.v (.slice none 0 0)),.d (.v (.int .u64 0)),.d (.ro 1 ([])),.d (.v (.bool false))]] (.v (.bool true)):=by
 refine al.intro (by kernel_rfl) rfl rfl 101 rfl rfl fun w0 K ac hK r=>?_
 cases h0:(decide (e.p=e.p)) with
 | false=>
  have bh:=of_decide_eq_false h0
  exact absurd rfl bh
 | true=>
  have bh:=of_decide_eq_true h0
  exact aN tk tq hK rfl [(1,[(4,.b true),(10,.b true),(17,.aM (.v (.bool true))),(24,.b true),(31,.b true),(45,.aM (.v (.bool true))),(52,.aM (.v (.bool true))),(59,.aM (.v (.bool true))),(73,.aM (.v (.bool true))),(80,.aM (.v (.bool true))),(87,.aM (.v (.bool true))),(94,.aM (.v (.bool true)))])] 2000 r (by kernel_rfl) (U ((fG (ji _ _) h0):eh Tryz.prog 24 [(.int .i64 (e.p.node)),(.int .u64 (((e.p.inc:Nat):Int)))] [(.int .i64 (e.p.node)),(.int .u64 (((e.p.inc:Nat):Int)))] true) (U ((by simp):((e.st:Int)==e.st)=true) (U (IB (p:=e.p) h.l) (U ((by simp):((((e.l.length:Nat):Int):Int)==((e.l.length:Nat):Int))=true) (U ((by simp):((((e.aF:Nat):Int):Int)==((e.aF:Nat):Int))=true) (U (IC e.set (by have:=h.set;omega)) (U (Bj e.sy (by have:=h.cut;omega)) (U (vV) (U (H9) (U (vV) (U (H8) (U (H7) trivial))))))))))))
set_option maxRecDepth 100000 in
theorem Lk (e:En) (h:e.Ok):al Tryz.prog 12 [.ag [.z e.p.node,.u e.p.inc,.z e.st,.d (.v (.int .u64 0)),.z e.p.node,.u e.p.inc,.d (.ro 2 (procs [e.p])),.d (.ro 1 (ae [0])),.d (.ro 1 (streams [au 0 e.l])),.d (.ro 1 (ae [e.l.length])),.u e.l.length,.u e.aF,.d (.v (.bool false)),.d (.ro 2 (procs e.set)),.z e.sy.kind,.z e.sy.src.node,.u e.sy.src.inc,.u e.sy.vw.round,.z e.sy.vw.server.node,.u e.sy.vw.server.inc,.u e.sy.n,.d (.v (.slice none 0 0)),.u e.sy.aF,.d (.ro 1 (ae e.sy.cut)),.d (.v (.bool false)),.d (.v (.slice none 0 0)),.d (.v (.bool false)),.d (.v (.int .u64 0)),.z 0,.d (.v (.int .u64 0)),.d (.ro 2 ([])),.d (.ro 1 ([])),.d (.v (.slice none 0 0)),.d (.v (.int .u64 0)),.z 0,.d (.v (.int .u64 0)),.d (.ro 2 ([])),.d (.ro 1 ([])),.d (.ro 1 ([])),.d (.ro 1 ([])),.z 0,.z 0,.d (.v (.int .u64 0)),.d (.v (.int .u64 0)),.z 0,.d (.v (.int .u64 0)),.d (.v (.int .u64 0)),.d (.v (.slice none 0 0)),.d (.v (.int .u64 0)),.d (.ro 1 ([])),.d (.v (.bool false))],.ag [.z e.p.node,.u e.p.inc,.z e.st,.d (.v (.int .u64 0)),.z e.p.node,.u e.p.inc,.d (.ro 2 (procs [e.p])),.d (.ro 1 (ae [0])),.d (.ro 1 (streams [au 0 e.l])),.d (.ro 1 (ae [e.l.length])),.u e.l.length,.u e.aF,.d (.v (.bool false)),.d (.ro 2 (procs e.set)),.z e.sy.kind,.z e.sy.src.node,.u e.sy.src.inc,.u e.sy.vw.round,.z e.sy.vw.server.node,.u e.sy.vw.server.inc,.u e.sy.n,.d (.v (.slice none 0 0)),.u e.sy.aF,.d (.ro 1 (ae e.sy.cut)),.d (.v (.bool false)),.d (.v (.slice none 0 0)),.d (.v (.bool false)),.d (.v (.int .u64 0)),.z 0,.d (.v (.int .u64 0)),.d (.ro 2 ([])),.d (.ro 1 ([])),.d (.v (.slice none 0 0)),.d (.v (.int .u64 0)),.z 0,.d (.v (.int .u64 0)),.d (.ro 2 ([])),.d (.ro 1 ([])),.d (.ro 1 ([])),.d (.ro 1 ([])),.z 0,.z 0,.d (.v (.int .u64 0)),.d (.v (.int .u64 0)),.z 0,.d (.v (.int .u64 0)),.d (.v (.int .u64 0)),.d (.v (.slice none 0 0)),.d (.v (.int .u64 0)),.d (.ro 1 ([])),.d (.v (.bool false))]] (.v (.bool true)):=by
 refine al.intro (by kernel_rfl) rfl rfl 101 rfl rfl fun w0 K ac hK r=>?_
 cases h0:(decide (e.p=e.p)) with
 | false=>
  have bh:=of_decide_eq_false h0
  exact absurd rfl bh
 | true=>
  have bh:=of_decide_eq_true h0
  exact aN tk tq hK rfl [(1,[(4,.b true),(10,.b true),(17,.aM (.v (.bool true))),(24,.b true),(31,.b true),(45,.aM (.v (.bool true))),(52,.aM (.v (.bool true))),(59,.aM (.v (.bool true))),(73,.aM (.v (.bool true))),(80,.aM (.v (.bool true))),(87,.aM (.v (.bool true))),(94,.aM (.v (.bool true)))])] 2000 r (by kernel_rfl) (U ((fG (ji _ _) h0):eh Tryz.prog 24 [(.int .i64 (e.p.node)),(.int .u64 (((e.p.inc:Nat):Int)))] [(.int .i64 (e.p.node)),(.int .u64 (((e.p.inc:Nat):Int)))] true) (U ((by simp):((e.st:Int)==e.st)=true) (U (IB (p:=e.p) h.l) (U ((by simp):((((e.l.length:Nat):Int):Int)==((e.l.length:Nat):Int))=true) (U ((by simp):((((e.aF:Nat):Int):Int)==((e.aF:Nat):Int))=true) (U (IC e.set (by have:=h.set;omega)) (U (Bj e.sy (by have:=h.cut;omega)) (U (vV) (U (H9) (U (vV) (U (H8) (U (H7) trivial))))))))))))
theorem zK (e:En) (h:e.Ok):al Tryz.prog 12 [.ag (EC e),.ag (EC e)] (.v (.bool true)):=by
 obtain ⟨p,st,l,aF,act,set,sy⟩:=e
 cases act with
 | false=>exact Lk _ h
 | true=>exact Lq _ h
end Go.Proofs.YtgkdnnmcjjabdaaGreat
