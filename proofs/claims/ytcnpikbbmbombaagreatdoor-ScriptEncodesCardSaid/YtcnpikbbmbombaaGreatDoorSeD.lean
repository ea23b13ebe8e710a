/-
  scriptEncodes_card, part 4 of 6: merged by program from the texts that it needs.
-/
import Derived.Test.YtcnpikbbmbombaaGreatDoorSeC
set_option linter.unusedSimpArgs false
set_option linter.unusedVariables false
set_option linter.unnecessarySimpa false
namespace Go.Proofs.YtcnpikbbmbombaaGreatDoor
open Go.RowKit
theorem al.stays {P:Program} {f:FuncId} {args:List AV} {x:DV} (h:al P f args x):al P f args (dK x):=by
 refine ⟨h.1,fun w K ys hK hl hr=>(h.2 w K ys hK hl hr).mono ?_⟩
 rintro ed w' ⟨v,rfl,g,H,⟨Ho,Hi,rfl,hd⟩,n⟩
 exact ⟨_,rfl,g,_,⟨[],Ho++Hi,rfl,rJ hd fun w hw=>⟨⟨hw.1,(Holds.app.1 hw.2).2⟩,(Holds.app.1 hw.2).1⟩⟩,n⟩
theorem mF (l:List (Int×Int)):cN (ah l)=ah l:=by rw [jC];unfold ah;rw [List.map_map];apply List.map_congr_left;intro b _;rfl
theorem mG (l:List Int):cN (ints l)=ints l:=by rw [jC];unfold ints;rw [List.map_map];apply List.map_congr_left;intro b _;rfl
def aG.xw (s:aG):List DV:=[.z s.kind,.z s.node,.z s.peer,.z s.n,.z s.bit,.u s.inc,.em 5 1 ([]++ae s.body)]
def dO (l:List aG):List (List DV):=l.map aG.xw
theorem DA (l:List aG):cN (dO l)=steps l:=by
 rw [jC];unfold dO steps;rw [List.map_map];apply List.map_congr_left;intro b _
 simp only [Function.comp,aG.xw,aG.row,List.map_cons,List.map_nil,dK,List.nil_append,qU]
theorem DT {l:List aG} {i:Nat} {s:aG} (h:l[i]?=some s):dO (l.take i)++[s.xw]=dO (l.take (i+1)):=by
 unfold dO;rw [List.take_add_one,h];simp
def jh (n:Nat):List aG→Nat
 | []=>n
 | s::r=>if n≤2000 then jh (n+(1+s.body.length / 64)) r else n
def iF (c:bN) (l:List aG):Bool:=decide ((2000:Int)<((jh (c.ah.length+c.homes.length) l:Nat):Int))
theorem zV:∀ (l:List aG) (n:Nat),n≤jh n l
 | [],n=>Nat.le_refl _
 | s::r,n=>by
  unfold jh;split
  ·have:=zV r (n+(1+s.body.length / 64));omega
  ·exact Nat.le_refl _
theorem q4 {l:List aG} {n:Nat} (h:2000<n):jh n l=n:=by
 cases l with
 | nil=>rfl
 | cons s r=>unfold jh;rw [if_neg (by omega)]
theorem Ec {l:List aG} {i n:Nat} {s:aG} (h:l[i]?=some s) (hn:n≤2000):jh n (l.drop i)=jh (n+(1+s.body.length / 64)) (l.drop (i+1)):=by
 obtain ⟨aM,rfl⟩:=List.getElem?_eq_some_iff.1 h
 rw [List.drop_eq_getElem_cons aM]
 show (if n≤2000 then _ else _)=_
 rw [if_pos hn]
theorem Gu {c:bN} {l:List aG} (h:iF c l=false):c.ah.length+c.homes.length+l.length≤2000∧∀ s ∈ l,s.body.length / 64≤2000:=by
 have key:∀ (l:List aG) (n:Nat),jh n l≤2000→n+l.length≤2000∧∀ s ∈ l,s.body.length / 64≤2000:=by
  intro l
  induction l with
  | nil=>intro n h;exact ⟨h,by simp⟩
  | cons s r ih=>
   intro n h
   have h0:n≤2000:=Nat.le_trans (zV (s::r) n) h
   unfold jh at h;rw [if_pos h0] at h
   obtain ⟨h1,h2⟩:=ih _ h
   refine ⟨by simp only [List.length_cons];omega,fun x hx=>?_⟩
   rcases List.mem_cons.1 hx with rfl | hx
   ·omega
   ·exact h2 x hx
 unfold iF at h
 exact key l _ (by have:=of_decide_eq_false h;omega)
structure aG.Rd (s:aG):Prop where
 body:s.body.length≤9223372036854775807
 inc:s.inc≤18446744073709551615
theorem Jg (n:Nat):((n:Int)).tdiv 64=((n / 64:Nat):Int):=(Int.ofNat_tdiv n 64).symm
theorem ext_get {α:Type} {a b:List α} (hl:a.length=b.length) (h:∀ (j:Nat) x y,j<a.length→a[j]?=some x→b[j]?=some y→x=y):a=b:=by
 apply List.ext_getElem hl
 intro i h1 h2
 exact h i _ _ h1 (List.getElem?_eq_getElem h1) (List.getElem?_eq_getElem h2)
theorem k5 {a b:List UInt8} (h:(a==b)=false):a≠b:=by intro e;subst e;simp at h
set_option maxRecDepth 100000 in
theorem A4 (c:bN) (l:List aG) (hc:c.ah.length+c.homes.length≤9223372036854775807) (hl:l.length≤9223372036854775807) (hr:∀ s ∈ l,s.Rd):al Tryz.prog 7 [.ag [.z c.au,.d (.ro 2 (ah c.ah)),.d (.ro 1 (ints c.homes))],.d (.ro 7 (steps l))] (.v (.bool (iF c l))):=by
 refine al.intro (by kernel_rfl) rfl rfl 36 rfl rfl fun w0 K ac hK r=>?_
 refine aS (todo':=hd Tryz.f7 0) (E':=[(1,.d (.ro 7 (steps l))),(5,.n (c.ah.length+c.homes.length)),(6,.n 0)]) (M':=[]) tk mo hK [(1,[(2,.z (((c.ah.length:Nat):Int))),(5,.z (((c.homes.length:Nat):Int))),(6,.z (((c.ah.length+c.homes.length:Nat):Int)))])] 2000 [] [1,5,6] r (by kernel_rfl) (U ((by first | rfl | simp [ae,ah,ints,steps,strs]):(((ah c.ah).length:Nat):Int)=((c.ah.length:Nat):Int)) (U ((by first | rfl | simp [ae,ah,ints,steps,strs]):(((ints c.homes).length:Nat):Int)=((c.homes.length:Nat):Int)) (U ((wi (by omega)):IntKind.i64.wrap ((((c.ah.length:Nat):Int):Int)+((c.homes.length:Nat):Int))=((c.ah.length+c.homes.length:Nat):Int)) trivial))) fun ac wd r=>?_
 refine aD.rounds (Φ:=fun (i:Nat) ac wd=>∃ n:Nat,(n≤9223372036854775807∧jh (c.ah.length+c.homes.length) l=jh n (l.drop i))∧cK [] w0 K 36 [(1,.d (.ro 7 (steps l))),(5,.n n),(6,.n i)] [] ac wd) (l.length) ?_ (Nat.zero_le _) ⟨(c.ah.length+c.homes.length),⟨hc,rfl⟩,r⟩
 clear r
 rintro i dv bH ac wd ⟨n,aq,r⟩
 obtain ⟨qB,aq⟩:=aq
 have u0:=((by first | rfl | simp [ae,ah,ints,steps,strs]):(((steps l).length:Nat):Int)=((l.length:Nat):Int))
 cases h0:(decide ((((i:Nat):Int):Int)<((l.length:Nat):Int))) with
 | false=>
  have bo:=of_decide_eq_false h0
  cases h1:(decide ((2000:Int)<((n:Nat):Int))) with
  | false=>
   have bO:=of_decide_eq_false h1
   rw [show (.v (.bool (iF c l)):DV)=.v (.bool false) from (bv (by unfold iF;rw [aq];first | (rw [List.drop_of_length_le (by omega)];exact h1) | (rw [q4 (by omega)];exact h1)))]
   exact aH tk mo hK rfl [(3,[(2,.z (((l.length:Nat):Int))),(3,.b false)]),(6,[(1,.b false)])] 2000 r (by kernel_rfl) (U u0 (U h0 (U h1 trivial)))
  | true=>
   have bO:=of_decide_eq_true h1
   rw [show (.v (.bool (iF c l)):DV)=.v (.bool true) from (bv (by unfold iF;rw [aq];first | (rw [List.drop_of_length_le (by omega)];exact h1) | (rw [q4 (by omega)];exact h1)))]
   exact aH tk mo hK rfl [(3,[(2,.z (((l.length:Nat):Int))),(3,.b false)]),(6,[(1,.b true)])] 2000 r (by kernel_rfl) (U u0 (U h0 (U h1 trivial)))
 | true=>
  have bo:=of_decide_eq_true h0
  obtain ⟨ay,b7⟩:∃ x_,l[i]?=some x_:=⟨_,List.getElem?_eq_getElem (by omega)⟩
  have hb:=(hr _ (List.mem_of_getElem? b7)).body
  cases h2:(decide ((((n:Nat):Int):Int)≤2000)) with
  | false=>
   have cQ:=of_decide_eq_false h2
   cases h3:(decide ((2000:Int)<((n:Nat):Int))) with
   | false=>
    have dB:=of_decide_eq_false h3
    rw [show (.v (.bool (iF c l)):DV)=.v (.bool false) from (bv (by unfold iF;rw [aq];first | (rw [List.drop_of_length_le (by omega)];exact h3) | (rw [q4 (by omega)];exact h3)))]
    exact aH tk mo hK rfl [(3,[(2,.z (((l.length:Nat):Int))),(3,.b true),(6,.b false)]),(6,[(1,.b false)])] 2000 r (by kernel_rfl) (U u0 (U h0 (U h2 (U h3 trivial))))
   | true=>
    have dB:=of_decide_eq_true h3
    rw [show (.v (.bool (iF c l)):DV)=.v (.bool true) from (bv (by unfold iF;rw [aq];first | (rw [List.drop_of_length_le (by omega)];exact h3) | (rw [q4 (by omega)];exact h3)))]
    exact aH tk mo hK rfl [(3,[(2,.z (((l.length:Nat):Int))),(3,.b true),(6,.b false)]),(6,[(1,.b true)])] 2000 r (by kernel_rfl) (U u0 (U h0 (U h2 (U h3 trivial))))
  | true=>
   have cQ:=of_decide_eq_true h2
   exact aS (todo':=hd Tryz.f7 0) tk mo hK [(3,[(2,.z (((l.length:Nat):Int))),(3,.b true),(6,.b true)]),(4,[(1,.z (((i+1:Nat):Int)))]),(5,[(3,.ix (i) [.z ay.kind,.z ay.node,.z ay.peer,.z ay.n,.z ay.bit,.u ay.inc,.ro 1 (ae ay.body)]),(6,.z (((ay.body.length:Nat):Int))),(7,.z (((ay.body.length / 64:Nat):Int))),(8,.z (((1+ay.body.length / 64:Nat):Int))),(9,.z (((n+(1+ay.body.length / 64):Nat):Int)))])] 2000 [] [1,5,6] r (by kernel_rfl) (U u0 (U h0 (U h2 (U (aB ((i:Nat):Int)) (U (iy b7) (U ((by first | rfl | simp [ae,ah,ints,steps,strs]):(((ae ay.body).length:Nat):Int)=((ay.body.length:Nat):Int)) (U ((wi (by rw [Jg];omega)):IntKind.i64.wrap ((((ay.body.length:Nat):Int):Int).tdiv 64)=((ay.body.length / 64:Nat):Int)) (U ((by decide):(64:Int)≠0) (U ((wi (by omega)):IntKind.i64.wrap ((1:Int)+((ay.body.length / 64:Nat):Int))=((1+ay.body.length / 64:Nat):Int)) (U ((wi (by omega)):IntKind.i64.wrap ((((n:Nat):Int):Int)+((1+ay.body.length / 64:Nat):Int))=((n+(1+ay.body.length / 64):Nat):Int)) (U ((wi (by omega)):IntKind.i64.wrap ((((i:Nat):Int):Int)+1)=((i+1:Nat):Int)) trivial))))))))))) fun ac wd r=>bH (by omega) ac wd ⟨n+(1+ay.body.length / 64),⟨by omega,by rw [aq,Ec b7 (by omega)]⟩,r⟩
set_option maxRecDepth 100000 in
theorem EZ (c:bN) (hl:c.ah.length≤1048576) (hh:c.homes.length≤1048576):al Tryz.prog 9 [.ag [.z c.au,.d (.ro 2 (ah c.ah)),.d (.ro 1 (ints c.homes))]] (DV.ag [.z c.au,.em 60 2 ([]++ah c.ah),.em 3 1 ([]++ints c.homes)]):=by
 refine al.intro (by kernel_rfl) rfl rfl 14 rfl rfl fun w0 K ac hK r=>?_
 have oO:=((by simp [ah,ints]):(0)=([]:List (List DV)).length)
 have xx:=((by simp [ah,ints];omega):(2*((0)+(ah c.ah:List (List DV)).length)+192)*16≤281474976710656)
 have xy:=((by simp [ah,ints];omega):(0)+(ah c.ah:List (List DV)).length<4611686018427387904)
 have xA:=((by simp [aA,AV.one,aW,ae,ah,ints,steps,strs]):aA (ah c.ah))
 have xB:=((by simp [ah,ints];omega):(2*((0)+(ints c.homes).length)+192)*8≤281474976710656)
 have xC:=((by simp [ah,ints];omega):(0)+(ints c.homes).length<4611686018427387904)
 have xD:=((by simp [aA,AV.one,aW,ae,ah,ints,steps,strs]):aA (ints c.homes))
 refine AY (todo':=aft Tryz.f9 1) (E':=[(2,.pt 1 0)]) (M':=[.bx 25 [.z c.au,.d (.ro 2 (ah c.ah)),.d (.ro 1 (ints c.homes))],.bx 25 [.z c.au,.sl 2 (0+(ah c.ah:List (List DV)).length),.sl 3 (0+(ints c.homes).length)],.rw 60 2 ([]++(ah c.ah)),.rw 3 1 ([]++(ints c.homes))]) tk mo hK [(1,[])] 3 3 [] [[0,1,2,3],[0,1,2,3],[0,1,3,2]] [2] r (by kernel_rfl) (U (U oO (U xx (U xy (U xA (U oO (U xB (U xC (U xD trivial)))))))) (U (U oO (U xx (U xy (U xA (U oO (U xB (U xC (U xD trivial)))))))) (U (U oO (U xx (U xy (U xA (U oO (U xB (U xC (U xD trivial)))))))) trivial))) fun ac wd r=>?_
 rw [show (DV.ag [.z c.au,.em 60 2 ([]++ah c.ah),.em 3 1 ([]++ints c.homes)]:DV)=.ag [.z c.au,.em 60 2 ([]++(ah c.ah)),.em 3 1 ([]++(ints c.homes))] from rfl]
 exact aH tk mo hK rfl [] 2000 r (by kernel_rfl) (U ((by simp [ah,ints]):(0+(ah c.ah:List (List DV)).length)=([]++(ah c.ah):List (List DV)).length) (U ((by simp [ah,ints]):(0+(ints c.homes).length)=([]++(ints c.homes):List (List DV)).length) trivial))
theorem zW (c:bN) (hl:c.ah.length≤1048576) (hh:c.homes.length≤1048576):al Tryz.prog 9 [.ag [.z c.au,.d (.ro 2 (ah c.ah)),.d (.ro 1 (ints c.homes))]] (.ag [.z c.au,.ro 2 (ah c.ah),.ro 1 (ints c.homes)]):=by
 have h:=(EZ c hl hh).stays
 simp only [dK,lS,List.nil_append,mF,mG] at h
 exact h
set_option maxRecDepth 100000 in
theorem Jh (l:List aG) (hl:l.length≤1048576) (hr:∀ s ∈ l,s.body.length≤1048576):al Tryz.prog 10 [.d (.ro 7 (steps l))] (DV.em 42 7 (dO l)):=by
 refine al.intro (by kernel_rfl) rfl rfl 26 rfl rfl fun w0 K ac hK r=>?_
 refine aS (todo':=hd Tryz.f10 0) (E':=[(0,.d (.ro 7 (steps l))),(3,.d (.v (.slice none 0 0))),(4,.z 0)]) (M':=[]) tk mo hK [] 2000 [] [0,3,4] r (by kernel_rfl) trivial fun ac wd r=>?_
 refine aD.rounds (Φ:=fun (i:Nat) ac wd=>(i≤l.length)∧cK [] w0 K 26 [(0,.d (.ro 7 (steps l))),(3,.sl 0 (i)),(4,.n i)] [.rw 42 7 (dO (l.take i))] ac wd) (l.length) ?_ (Nat.zero_le _) ⟨Nat.zero_le _,(r.fk (M1:=[.rw 42 7 []]) [(3,42,7)] [] (by kernel_rfl) (by kernel_rfl)).cast rfl rfl⟩
 clear r
 rintro i dv bH ac wd ⟨aq,r⟩
 have u0:=((by first | rfl | simp [ae,ah,ints,steps,strs]):(((steps l).length:Nat):Int)=((l.length:Nat):Int))
 cases h0:(decide ((((i:Nat):Int):Int)<((l.length:Nat):Int))) with
 | false=>
  have bo:=of_decide_eq_false h0
  rw [show (DV.em 42 7 (dO l):DV)=.em 42 7 (dO (l.take i)) from (by rw [List.take_of_length_le (by omega)])]
  exact aH tk mo hK rfl [(3,[(2,.z (((l.length:Nat):Int))),(3,.b false)])] 2000 r (by kernel_rfl) (U u0 (U h0 (U ((by first | rfl | (simp [dO,ae];done) | (simp [dO];omega)):(i)=(dO (l.take i):List (List DV)).length) trivial)))
 | true=>
  have bo:=of_decide_eq_true h0
  obtain ⟨ay,b7⟩:∃ x_,l[i]?=some x_:=⟨_,List.getElem?_eq_getElem (by omega)⟩
  have hb:=hr _ (List.mem_of_getElem? b7)
  exact aS (todo':=hd Tryz.f10 0) (E':=[(0,.d (.ro 7 (steps l))),(3,.sl 0 (i+(1))),(4,.n (i+1))]) (M':=[.rw 42 7 (dO (l.take i)++[[.z ay.kind,.z ay.node,.z ay.peer,.z ay.n,.z ay.bit,.u ay.inc,.em 5 1 ([]++(ae ay.body))]])]) tk mo hK [(3,[(2,.z (((l.length:Nat):Int))),(3,.b true)]),(4,[(1,.z (((i+1:Nat):Int)))]),(5,[(2,.ix (i) [.z ay.kind,.z ay.node,.z ay.peer,.z ay.n,.z ay.bit,.u ay.inc,.ro 1 (ae ay.body)])])] 2000 [0] [0,3,4] r (by kernel_rfl) (U u0 (U h0 (U (aB ((i:Nat):Int)) (U (iy b7) (U ((by first | rfl | (simp [dO,ae];done) | (simp [dO];omega)):(0)=([]:List (List DV)).length) (U ((by first | omega | (simp [dO,ae];omega)):(2*((0)+(ae ay.body).length)+192)*1≤281474976710656) (U ((by first | omega | (simp [dO,ae];omega)):(0)+(ae ay.body).length<4611686018427387904) (U ((by simp [aA,AV.one,aW,ae]):aA (ae ay.body)) (U ((by first | rfl | (simp [dO,ae];done) | (simp [dO];omega)):(0+(ae ay.body).length)=([]++(ae ay.body):List (List DV)).length) (U ((by first | rfl | (simp [dO,ae];done) | (simp [dO];omega)):(i)=(dO (l.take i):List (List DV)).length) (U ((by first | rfl | (simp [dO,ae];done) | (simp [dO];omega)):(1)=([[.z ay.kind,.z ay.node,.z ay.peer,.z ay.n,.z ay.bit,.u ay.inc,.em 5 1 ([]++(ae ay.body))]]:List (List DV)).length) (U ((by first | omega | (simp [dO,ae];omega)):(2*((i)+(1))+192)*72≤281474976710656) (U ((by first | omega | (simp [dO,ae];omega)):(i)+(1)<4611686018427387904) (U ((by simp [aA,AV.one,aW,ae]):aA ([[.z ay.kind,.z ay.node,.z ay.peer,.z ay.n,.z ay.bit,.u ay.inc,.em 5 1 ([]++(ae ay.body))]])) (U ((wi (by omega)):IntKind.i64.wrap ((((i:Nat):Int):Int)+1)=((i+1:Nat):Int)) trivial))))))))))))))) fun ac wd r=>bH (by omega) ac wd ⟨(by omega),r.cast rfl (congrArg (fun q=>[ai.rw 42 7 q]) (DT b7))⟩
theorem BB (l:List aG) (hl:l.length≤1048576) (hr:∀ s ∈ l,s.body.length≤1048576):al Tryz.prog 10 [.d (.ro 7 (steps l))] (.ro 7 (steps l)):=by
 have h:=(Jh l hl hr).stays
 simp only [dK,DA] at h
 exact h
def kn (a b:bN):Bool:=decide (a=b)
theorem fx {a b:bN} (h:a≠b):kn a b=false:=decide_eq_false h
theorem nT {a b:bN} {i j:Nat} (h0:a.au=b.au) (h1:(a.ah.length:Int)=b.ah.length) (h2:(a.homes.length:Int)=b.homes.length) (hi:¬ (i:Int)<a.ah.length) (h3:∀ (k:Nat) x y,k<i→a.ah[k]?=some x→b.ah[k]?=some y→x=y) (hj:¬ (j:Int)<a.homes.length) (h4:∀ (k:Nat) x y,k<j→a.homes[k]?=some x→b.homes[k]?=some y→x=y):kn a b=true:=by
 refine decide_eq_true ?_
 cases a with | mk a1 a2 a3=>cases b with | mk b1 b2 b3=>
 dsimp only at *
 have e2:a2=b2:=ext_get (by omega) fun k x y hk=>h3 k x y (by omega)
 have e3:a3=b3:=ext_get (by omega) fun k x y hk=>h4 k x y (by omega)
 rw [h0,e2,e3]
def ib (a b:List aG):Bool:=decide (a=b)
theorem j6 {a b:List aG} (h:a≠b):ib a b=false:=decide_eq_false h
theorem fy {a b:List aG} {i:Nat} {x y:aG} (g:a[i]?=some x) (g2:b[i]?=some y) (h:x≠y):ib a b=false:=j6 fun e=>by subst e;rw [g] at g2;cases g2;exact h rfl
theorem kE {a b:List aG} {i:Nat} (h1:(a.length:Int)=b.length) (hi:¬ (i:Int)<a.length) (h3:∀ (k:Nat) x y,k<i→a[k]?=some x→b[k]?=some y→x=y):ib a b=true:=decide_eq_true (ext_get (by omega) fun k x y hk=>h3 k x y (by omega))
theorem fD {x y:aG} (h:x.kind≠y.kind∨x.node≠y.node∨x.peer≠y.peer∨x.n≠y.n∨x.bit≠y.bit∨(x.inc:Int)≠y.inc∨x.body≠y.body):x≠y:=by
 intro e;subst e;simp at h
theorem Ji {x y:aG} (h1:x.kind=y.kind) (h2:x.node=y.node) (h3:x.peer=y.peer) (h4:x.n=y.n) (h5:x.bit=y.bit) (h6:(x.inc:Int)=y.inc) (h7:x.body=y.body):x=y:=by
 cases x;cases y;dsimp only at *;subst h1 h2 h3 h4 h5 h7;congr 1;omega
theorem HX {x y:Int×Int} (h:(x.1==y.1&&x.2==y.2)=true):x=y:=by
 obtain ⟨a,b⟩:=x;obtain ⟨c,d⟩:=y;simpa using h
theorem n9 {x y:Int×Int} (h:(x.1==y.1&&x.2==y.2)=false):x≠y:=by
 intro e;subst e;simp at h
theorem at_next {α:Type} {a b:List α} {i:Nat} {x y:α} (h:∀ (k:Nat) x y,k<i→a[k]?=some x→b[k]?=some y→x=y) (g:a[i]?=some x) (g2:b[i]?=some y) (e:x=y):∀ (k:Nat) x y,k<i+1→a[k]?=some x→b[k]?=some y→x=y:=fun k u v hk hu hv=>by
 rcases Nat.lt_succ_iff_lt_or_eq.1 hk with h' | rfl
 ·exact h k u v h' hu hv
 ·rw [g] at hu;rw [g2] at hv;cases hu;cases hv;exact e
set_option maxRecDepth 100000 in
theorem HY (a b:bN) (hl:a.ah.length≤9223372036854775807) (hh:a.homes.length≤9223372036854775807):al Tryz.prog 13 [.ag [.z a.au,.d (.ro 2 (ah a.ah)),.d (.ro 1 (ints a.homes))],.ag [.z b.au,.d (.ro 2 (ah b.ah)),.d (.ro 1 (ints b.homes))]] (.v (.bool (kn a b))):=by
 refine al.intro (by kernel_rfl) rfl rfl 66 rfl rfl fun w0 K ac hK r=>?_
 cases h0:((a.au:Int) != b.au) with
 | false=>
  have bo:=fZ h0
  have u0:=((by first | rfl | simp [ae,ah,ints,steps,strs]):(((ah a.ah).length:Nat):Int)=((a.ah.length:Nat):Int))
  have u1:=((by first | rfl | simp [ae,ah,ints,steps,strs]):(((ah b.ah).length:Nat):Int)=((b.ah.length:Nat):Int))
  cases h1:((((a.ah.length:Nat):Int):Int) != ((b.ah.length:Nat):Int)) with
  | false=>
   have bO:=fZ h1
   have u2:=((by first | rfl | simp [ae,ah,ints,steps,strs]):(((ints a.homes).length:Nat):Int)=((a.homes.length:Nat):Int))
   have u3:=((by first | rfl | simp [ae,ah,ints,steps,strs]):(((ints b.homes).length:Nat):Int)=((b.homes.length:Nat):Int))
   cases h2:((((a.homes.length:Nat):Int):Int) != ((b.homes.length:Nat):Int)) with
   | false=>
    have cQ:=fZ h2
    refine aS (todo':=hd Tryz.f13 0) (E':=[(2,.pt 0 0),(3,.pt 1 0),(5,.n 0)]) (M':=[.bx 25 [.z a.au,.d (.ro 2 (ah a.ah)),.d (.ro 1 (ints a.homes))],.bx 25 [.z b.au,.d (.ro 2 (ah b.ah)),.d (.ro 1 (ints b.homes))]]) tk mo hK [(1,[(4,.b false),(8,.z (((a.ah.length:Nat):Int))),(11,.z (((b.ah.length:Nat):Int))),(12,.b false),(17,.z (((a.homes.length:Nat):Int))),(20,.z (((b.homes.length:Nat):Int))),(21,.b false)])] 2000 [0,1] [2,3,5] r (by kernel_rfl) (U h0 (U u0 (U u1 (U h1 (U u2 (U u3 (U h2 trivial))))))) fun ac wd r=>?_
    refine aD.rounds (Φ:=fun (i:Nat) ac wd=>(∀ (k:Nat) x y,k<i→a.ah[k]?=some x→b.ah[k]?=some y→x=y)∧cK [] w0 K 66 [(2,.pt 0 0),(3,.pt 1 0),(5,.n i)] [.bx 25 [.z a.au,.d (.ro 2 (ah a.ah)),.d (.ro 1 (ints a.homes))],.bx 25 [.z b.au,.d (.ro 2 (ah b.ah)),.d (.ro 1 (ints b.homes))]] ac wd) (a.ah.length) ?_ (Nat.zero_le _) ⟨(fun k x y h=>absurd h (Nat.not_lt_zero _)),r⟩
    clear r
    rintro i dv bH ac wd ⟨aq,r⟩
    cases h3:(decide ((((i:Nat):Int):Int)<((a.ah.length:Nat):Int))) with
    | false=>
     have dB:=of_decide_eq_false h3
     refine aS (todo':=hd Tryz.f13 1) (E':=[(2,.pt 0 0),(3,.pt 1 0),(6,.n 0)]) (M':=[.bx 25 [.z a.au,.d (.ro 2 (ah a.ah)),.d (.ro 1 (ints a.homes))],.bx 25 [.z b.au,.d (.ro 2 (ah b.ah)),.d (.ro 1 (ints b.homes))]]) tk mo hK [(4,[(3,.z (((a.ah.length:Nat):Int))),(4,.b false)])] 2000 [0,1] [2,3,6] r (by kernel_rfl) (U u0 (U h3 trivial)) fun ac wd r=>?_
     refine aD.rounds (Φ:=fun (i:Nat) ac wd=>(∀ (k:Nat) x y,k<i→a.homes[k]?=some x→b.homes[k]?=some y→x=y)∧cK [] w0 K 66 [(2,.pt 0 0),(3,.pt 1 0),(6,.n i)] [.bx 25 [.z a.au,.d (.ro 2 (ah a.ah)),.d (.ro 1 (ints a.homes))],.bx 25 [.z b.au,.d (.ro 2 (ah b.ah)),.d (.ro 1 (ints b.homes))]] ac wd) (a.homes.length) ?_ (Nat.zero_le _) ⟨(fun k x y h=>absurd h (Nat.not_lt_zero _)),r⟩
     clear r
     rintro i nE fC ac wd ⟨cZ,r⟩
     cases h4:(decide ((((i:Nat):Int):Int)<((a.homes.length:Nat):Int))) with
     | false=>
      have eM:=of_decide_eq_false h4
      rw [show (.v (.bool (kn a b)):DV)=.v (.bool true) from (bv (by first | exact nT (by omega) (by omega) (by omega) (by omega) aq (by omega) cZ | exact fx (fun e=>by subst e;omega) | exact fx (fun e=>by subst e;rw [kC] at gn;cases gn;exact n9 (by assumption) rfl) | exact fx (fun e=>by subst e;rw [kD] at gp;cases gp;omega)))]
      exact aH tk mo hK rfl [(9,[(3,.z (((a.homes.length:Nat):Int))),(4,.b false)])] 2000 r (by kernel_rfl) (U u2 (U h4 trivial))
     | true=>
      have eM:=of_decide_eq_true h4
      obtain ⟨tn,kD⟩:∃ x_,a.homes[i]?=some x_:=⟨_,List.getElem?_eq_getElem (by omega)⟩
      obtain ⟨tp,gp⟩:∃ x_,b.homes[i]?=some x_:=⟨_,List.getElem?_eq_getElem (by omega)⟩
      cases h5:((tn:Int) != tp) with
      | false=>
       have eO:=fZ h5
       exact aS (todo':=hd Tryz.f13 1) tk mo hK [(9,[(3,.z (((a.homes.length:Nat):Int))),(4,.b true)]),(10,[(1,.z (((i+1:Nat):Int)))]),(11,[(3,.ix (i) [.z tn]),(8,.ix (i) [.z tp]),(10,.b false)])] 2000 [0,1] [2,3,6] r (by kernel_rfl) (U u2 (U h4 (U (aB ((i:Nat):Int)) (U (ints_at kD) (U (aB ((i:Nat):Int)) (U (ints_at gp) (U h5 (U ((wi (by omega)):IntKind.i64.wrap ((((i:Nat):Int):Int)+1)=((i+1:Nat):Int)) trivial)))))))) fun ac wd r=>fC (by omega) ac wd ⟨(at_next cZ kD gp (by omega)),r⟩
      | true=>
       have eO:¬ _=_:=bne_iff_ne.1 h5
       rw [show (.v (.bool (kn a b)):DV)=.v (.bool false) from (bv (by first | exact nT (by omega) (by omega) (by omega) (by omega) aq (by omega) cZ | exact fx (fun e=>by subst e;omega) | exact fx (fun e=>by subst e;rw [kC] at gn;cases gn;exact n9 (by assumption) rfl) | exact fx (fun e=>by subst e;rw [kD] at gp;cases gp;omega)))]
       exact aH tk mo hK rfl [(9,[(3,.z (((a.homes.length:Nat):Int))),(4,.b true)]),(11,[(3,.ix (i) [.z tn]),(8,.ix (i) [.z tp]),(10,.b true)])] 2000 r (by kernel_rfl) (U u2 (U h4 (U (aB ((i:Nat):Int)) (U (ints_at kD) (U (aB ((i:Nat):Int)) (U (ints_at gp) (U h5 trivial)))))))
    | true=>
     have dB:=of_decide_eq_true h3
     obtain ⟨j3,kC⟩:∃ x_,a.ah[i]?=some x_:=⟨_,List.getElem?_eq_getElem (by omega)⟩
     obtain ⟨j4,gn⟩:∃ x_,b.ah[i]?=some x_:=⟨_,List.getElem?_eq_getElem (by omega)⟩
     cases h6:(j3.1==j4.1&&j3.2==j4.2) with
     | false=>
      rw [show (.v (.bool (kn a b)):DV)=.v (.bool false) from (bv (by first | exact nT (by omega) (by omega) (by omega) (by omega) aq (by omega) cZ | exact fx (fun e=>by subst e;omega) | exact fx (fun e=>by subst e;rw [kC] at gn;cases gn;exact n9 (by assumption) rfl) | exact fx (fun e=>by subst e;rw [kD] at gp;cases gp;omega)))]
      exact aH tk mo hK rfl [(4,[(3,.z (((a.ah.length:Nat):Int))),(4,.b true)]),(6,[(3,.ix (i) [.z j3.1,.z j3.2]),(8,.ix (i) [.z j4.1,.z j4.2]),(10,.b false)])] 2000 r (by kernel_rfl) (U u0 (U h3 (U (aB ((i:Nat):Int)) (U (cB kC) (U (aB ((i:Nat):Int)) (U (cB gn) (U ((o5 (oh _ _ _ _) h6):jI Tryz.prog 60 [(.int .i64 (j3.1)),(.int .i64 (j3.2))] [(.int .i64 (j4.1)),(.int .i64 (j4.2))] false) trivial)))))))
     | true=>
      exact aS (todo':=hd Tryz.f13 0) tk mo hK [(4,[(3,.z (((a.ah.length:Nat):Int))),(4,.b true)]),(5,[(1,.z (((i+1:Nat):Int)))]),(6,[(3,.ix (i) [.z j3.1,.z j3.2]),(8,.ix (i) [.z j4.1,.z j4.2]),(10,.b true)])] 2000 [0,1] [2,3,5] r (by kernel_rfl) (U u0 (U h3 (U (aB ((i:Nat):Int)) (U (cB kC) (U (aB ((i:Nat):Int)) (U (cB gn) (U ((o5 (oh _ _ _ _) h6):jI Tryz.prog 60 [(.int .i64 (j3.1)),(.int .i64 (j3.2))] [(.int .i64 (j4.1)),(.int .i64 (j4.2))] true) (U ((wi (by omega)):IntKind.i64.wrap ((((i:Nat):Int):Int)+1)=((i+1:Nat):Int)) trivial)))))))) fun ac wd r=>bH (by omega) ac wd ⟨(at_next aq kC gn (HX (by assumption))),r⟩
   | true=>
    have cQ:¬ _=_:=bne_iff_ne.1 h2
    rw [show (.v (.bool (kn a b)):DV)=.v (.bool false) from (bv (by first | exact nT (by omega) (by omega) (by omega) (by omega) aq (by omega) cZ | exact fx (fun e=>by subst e;omega) | exact fx (fun e=>by subst e;rw [kC] at gn;cases gn;exact n9 (by assumption) rfl) | exact fx (fun e=>by subst e;rw [kD] at gp;cases gp;omega)))]
    exact aH tk mo hK rfl [(1,[(4,.b false),(8,.z (((a.ah.length:Nat):Int))),(11,.z (((b.ah.length:Nat):Int))),(12,.b false),(17,.z (((a.homes.length:Nat):Int))),(20,.z (((b.homes.length:Nat):Int))),(21,.b true)])] 2000 r (by kernel_rfl) (U h0 (U u0 (U u1 (U h1 (U u2 (U u3 (U h2 trivial)))))))
  | true=>
   have bO:¬ _=_:=bne_iff_ne.1 h1
   rw [show (.v (.bool (kn a b)):DV)=.v (.bool false) from (bv (by first | exact nT (by omega) (by omega) (by omega) (by omega) aq (by omega) cZ | exact fx (fun e=>by subst e;omega) | exact fx (fun e=>by subst e;rw [kC] at gn;cases gn;exact n9 (by assumption) rfl) | exact fx (fun e=>by subst e;rw [kD] at gp;cases gp;omega)))]
   exact aH tk mo hK rfl [(1,[(4,.b false),(8,.z (((a.ah.length:Nat):Int))),(11,.z (((b.ah.length:Nat):Int))),(12,.b true)])] 2000 r (by kernel_rfl) (U h0 (U u0 (U u1 (U h1 trivial))))
 | true=>
  have bo:¬ _=_:=bne_iff_ne.1 h0
  rw [show (.v (.bool (kn a b)):DV)=.v (.bool false) from (bv (by first | exact nT (by omega) (by omega) (by omega) (by omega) aq (by omega) cZ | exact fx (fun e=>by subst e;omega) | exact fx (fun e=>by subst e;rw [kC] at gn;cases gn;exact n9 (by assumption) rfl) | exact fx (fun e=>by subst e;rw [kD] at gp;cases gp;omega)))]
  exact aH tk mo hK rfl [(1,[(4,.b true)])] 2000 r (by kernel_rfl) (U h0 trivial)
set_option maxRecDepth 100000 in
theorem HZ (a b:List aG) (hl:a.length≤9223372036854775807):al Tryz.prog 14 [.d (.ro 7 (steps a)),.d (.ro 7 (steps b))] (.v (.bool (ib a b))):=by
 refine al.intro (by kernel_rfl) rfl rfl 76 rfl rfl fun w0 K ac hK r=>?_
 have u0:=((by first | rfl | simp [ae,ah,ints,steps,strs]):(((steps a).length:Nat):Int)=((a.length:Nat):Int))
 have u1:=((by first | rfl | simp [ae,ah,ints,steps,strs]):(((steps b).length:Nat):Int)=((b.length:Nat):Int))
 cases h0:((((a.length:Nat):Int):Int) != ((b.length:Nat):Int)) with
 | false=>
  have bo:=fZ h0
  refine aS (todo':=hd Tryz.f14 0) (E':=[(0,.d (.ro 7 (steps a))),(1,.d (.ro 7 (steps b))),(5,.n 0)]) (M':=[]) tk mo hK [(1,[(1,.z (((a.length:Nat):Int))),(3,.z (((b.length:Nat):Int))),(4,.b false)])] 2000 [] [0,1,5] r (by kernel_rfl) (U u0 (U u1 (U h0 trivial))) fun ac wd r=>?_
  refine aD.rounds (Φ:=fun (i:Nat) ac wd=>(∀ (k:Nat) x y,k<i→a[k]?=some x→b[k]?=some y→x=y)∧cK [] w0 K 76 [(0,.d (.ro 7 (steps a))),(1,.d (.ro 7 (steps b))),(5,.n i)] [] ac wd) (a.length) ?_ (Nat.zero_le _) ⟨(fun k x y h=>absurd h (Nat.not_lt_zero _)),r⟩
  clear r
  rintro i dv bH ac wd ⟨aq,r⟩
  cases h1:(decide ((((i:Nat):Int):Int)<((a.length:Nat):Int))) with
  | false=>
   have bO:=of_decide_eq_false h1
   rw [show (.v (.bool (ib a b)):DV)=.v (.bool true) from (bv (by first | exact kE (by omega) (by omega) aq | exact j6 (fun e=>by subst e;omega) | exact fy eU eV (fD (by omega)) | exact fy eU eV (fD (.inr (.inr (.inr (.inr (.inr (.inr (k5 (by assumption)))))))))))]
   exact aH tk mo hK rfl [(4,[(2,.z (((a.length:Nat):Int))),(3,.b false)])] 2000 r (by kernel_rfl) (U u0 (U h1 trivial))
  | true=>
   have bO:=of_decide_eq_true h1
   obtain ⟨cq,eU⟩:∃ x_,a[i]?=some x_:=⟨_,List.getElem?_eq_getElem (by omega)⟩
   obtain ⟨cr,eV⟩:∃ x_,b[i]?=some x_:=⟨_,List.getElem?_eq_getElem (by omega)⟩
   have B4:=((by first | rfl | simp [ae,ah,ints,steps,strs]):(((steps a).length:Nat):Int)=((a.length:Nat):Int))
   refine AY (todo':=aft Tryz.f14 6) (E':=[(0,.d (.ro 7 (steps a))),(1,.d (.ro 7 (steps b))),(5,.n i),(13,.n i),(14,.d (.ro 7 (steps a))),(15,.n a.length),(16,.d (.v (.bool true))),(19,.d (.ro 7 (steps a))),(20,.n i),(21,.rp [.z cq.kind,.z cq.node,.z cq.peer,.z cq.n,.z cq.bit,.u cq.inc,.ro 1 (ae cq.body)] 0),(22,.ag [.z cq.kind,.z cq.node,.z cq.peer,.z cq.n,.z cq.bit,.u cq.inc,.d (.ro 1 (ae cq.body))]),(23,.d (.ro 7 (steps b))),(24,.n i),(25,.rp [.z cr.kind,.z cr.node,.z cr.peer,.z cr.n,.z cr.bit,.u cr.inc,.ro 1 (ae cr.body)] 0),(26,.ag [.z cr.kind,.z cr.node,.z cr.peer,.z cr.n,.z cr.bit,.u cr.inc,.d (.ro 1 (ae cr.body))]),(6,.pt 0 0),(7,.pt 1 0)]) (M':=[.bx 42 [.z cq.kind,.z cq.node,.z cq.peer,.z cq.n,.z cq.bit,.u cq.inc,.d (.ro 1 (ae cq.body))],.bx 42 [.z cr.kind,.z cr.node,.z cr.peer,.z cr.n,.z cr.bit,.u cr.inc,.d (.ro 1 (ae cr.body))]]) tk mo hK [(4,[(2,.z (((a.length:Nat):Int))),(3,.b true)]),(6,[(2,.ix (i) [.z cq.kind,.z cq.node,.z cq.peer,.z cq.n,.z cq.bit,.u cq.inc,.ro 1 (ae cq.body)]),(6,.ix (i) [.z cr.kind,.z cr.node,.z cr.peer,.z cr.n,.z cr.bit,.u cr.inc,.ro 1 (ae cr.body)])])] 8 2 [] [[0,1],[1,0]] [0,1,5,13,14,15,16,19,20,21,22,23,24,25,26,6,7] r (by kernel_rfl) (U (U B4 (U h1 (U (aB ((i:Nat):Int)) (U (iy eU) (U (aB ((i:Nat):Int)) (U (iy eV) trivial)))))) (U (U B4 (U h1 (U (aB ((i:Nat):Int)) (U (iy eU) (U (aB ((i:Nat):Int)) (U (iy eV) trivial)))))) trivial)) fun ac wd r=>?_
   cases h2:((cq.kind:Int) != cr.kind) with
   | false=>
    have cQ:=fZ h2
    cases h3:((cq.node:Int) != cr.node) with
    | false=>
     have dB:=fZ h3
     cases h4:((cq.peer:Int) != cr.peer) with
     | false=>
      have eM:=fZ h4
      cases h5:((cq.n:Int) != cr.n) with
      | false=>
       have eO:=fZ h5
       cases h6:((cq.bit:Int) != cr.bit) with
       | false=>
        have fX:=fZ h6
        cases h7:((((cq.inc:Nat):Int):Int) != ((cr.inc:Nat):Int)) with
        | false=>
         have dT:=fZ h7
         cases h8:(cq.body==cr.body) with
         | false=>
          have fu:cq.body≠cr.body:=by simpa using h8
          rw [show (.v (.bool (ib a b)):DV)=.v (.bool false) from (bv (by first | exact kE (by omega) (by omega) aq | exact j6 (fun e=>by subst e;omega) | exact fy eU eV (fD (by omega)) | exact fy eU eV (fD (.inr (.inr (.inr (.inr (.inr (.inr (k5 (by assumption)))))))))))]
          exact aH tk mo hK rfl [(7,[(4,.b false),(10,.b false),(17,.b false),(24,.b false),(31,.b false),(38,.b false),(43,.res (.v (.string ⟨(cq.body).toArray⟩))),(46,.res (.v (.string ⟨(cr.body).toArray⟩))),(47,.b true)])] 2000 r (by kernel_rfl) (U h2 (U h3 (U h4 (U h5 (U h6 (U h7 (U (rfl:ae cq.body=ae (cq.body)) (U (rfl:ae cr.body=ae (cr.body)) (U ((by simpa [bne] using h8):(cq.body != cr.body)=true) trivial)))))))))
         | true=>
          have fu:cq.body=cr.body:=by simpa using h8
          exact aS (todo':=hd Tryz.f14 0) tk mo hK [(5,[(1,.z (((i+1:Nat):Int)))]),(7,[(4,.b false),(10,.b false),(17,.b false),(24,.b false),(31,.b false),(38,.b false),(43,.res (.v (.string ⟨(cq.body).toArray⟩))),(46,.res (.v (.string ⟨(cr.body).toArray⟩))),(47,.b false)])] 2000 [] [0,1,5] r (by kernel_rfl) (U h2 (U h3 (U h4 (U h5 (U h6 (U h7 (U (rfl:ae cq.body=ae (cq.body)) (U (rfl:ae cr.body=ae (cr.body)) (U ((by simpa [bne] using h8):(cq.body != cr.body)=false) (U ((wi (by omega)):IntKind.i64.wrap ((((i:Nat):Int):Int)+1)=((i+1:Nat):Int)) trivial)))))))))) fun ac wd r=>bH (by omega) ac wd ⟨(at_next aq eU eV (Ji (by omega) (by omega) (by omega) (by omega) (by omega) (by omega) (eq_of_beq (by assumption)))),r⟩
        | true=>
         have dT:¬ _=_:=bne_iff_ne.1 h7
         rw [show (.v (.bool (ib a b)):DV)=.v (.bool false) from (bv (by first | exact kE (by omega) (by omega) aq | exact j6 (fun e=>by subst e;omega) | exact fy eU eV (fD (by omega)) | exact fy eU eV (fD (.inr (.inr (.inr (.inr (.inr (.inr (k5 (by assumption)))))))))))]
         exact aH tk mo hK rfl [(7,[(4,.b false),(10,.b false),(17,.b false),(24,.b false),(31,.b false),(38,.b true)])] 2000 r (by kernel_rfl) (U h2 (U h3 (U h4 (U h5 (U h6 (U h7 trivial))))))
       | true=>
        have fX:¬ _=_:=bne_iff_ne.1 h6
        rw [show (.v (.bool (ib a b)):DV)=.v (.bool false) from (bv (by first | exact kE (by omega) (by omega) aq | exact j6 (fun e=>by subst e;omega) | exact fy eU eV (fD (by omega)) | exact fy eU eV (fD (.inr (.inr (.inr (.inr (.inr (.inr (k5 (by assumption)))))))))))]
        exact aH tk mo hK rfl [(7,[(4,.b false),(10,.b false),(17,.b false),(24,.b false),(31,.b true)])] 2000 r (by kernel_rfl) (U h2 (U h3 (U h4 (U h5 (U h6 trivial)))))
      | true=>
       have eO:¬ _=_:=bne_iff_ne.1 h5
       rw [show (.v (.bool (ib a b)):DV)=.v (.bool false) from (bv (by first | exact kE (by omega) (by omega) aq | exact j6 (fun e=>by subst e;omega) | exact fy eU eV (fD (by omega)) | exact fy eU eV (fD (.inr (.inr (.inr (.inr (.inr (.inr (k5 (by assumption)))))))))))]
       exact aH tk mo hK rfl [(7,[(4,.b false),(10,.b false),(17,.b false),(24,.b true)])] 2000 r (by kernel_rfl) (U h2 (U h3 (U h4 (U h5 trivial))))
     | true=>
      have eM:¬ _=_:=bne_iff_ne.1 h4
      rw [show (.v (.bool (ib a b)):DV)=.v (.bool false) from (bv (by first | exact kE (by omega) (by omega) aq | exact j6 (fun e=>by subst e;omega) | exact fy eU eV (fD (by omega)) | exact fy eU eV (fD (.inr (.inr (.inr (.inr (.inr (.inr (k5 (by assumption)))))))))))]
      exact aH tk mo hK rfl [(7,[(4,.b false),(10,.b false),(17,.b true)])] 2000 r (by kernel_rfl) (U h2 (U h3 (U h4 trivial)))
    | true=>
     have dB:¬ _=_:=bne_iff_ne.1 h3
     rw [show (.v (.bool (ib a b)):DV)=.v (.bool false) from (bv (by first | exact kE (by omega) (by omega) aq | exact j6 (fun e=>by subst e;omega) | exact fy eU eV (fD (by omega)) | exact fy eU eV (fD (.inr (.inr (.inr (.inr (.inr (.inr (k5 (by assumption)))))))))))]
     exact aH tk mo hK rfl [(7,[(4,.b false),(10,.b true)])] 2000 r (by kernel_rfl) (U h2 (U h3 trivial))
   | true=>
    have cQ:¬ _=_:=bne_iff_ne.1 h2
    rw [show (.v (.bool (ib a b)):DV)=.v (.bool false) from (bv (by first | exact kE (by omega) (by omega) aq | exact j6 (fun e=>by subst e;omega) | exact fy eU eV (fD (by omega)) | exact fy eU eV (fD (.inr (.inr (.inr (.inr (.inr (.inr (k5 (by assumption)))))))))))]
    exact aH tk mo hK rfl [(7,[(4,.b true)])] 2000 r (by kernel_rfl) (U h2 trivial)
 | true=>
  have bo:¬ _=_:=bne_iff_ne.1 h0
  rw [show (.v (.bool (ib a b)):DV)=.v (.bool false) from (bv (by first | exact kE (by omega) (by omega) aq | exact j6 (fun e=>by subst e;omega) | exact fy eU eV (fD (by omega)) | exact fy eU eV (fD (.inr (.inr (.inr (.inr (.inr (.inr (k5 (by assumption)))))))))))]
  exact aH tk mo hK rfl [(1,[(1,.z (((a.length:Nat):Int))),(3,.z (((b.length:Nat):Int))),(4,.b true)])] 2000 r (by kernel_rfl) (U u0 (U u1 (U h0 trivial)))
end Go.Proofs.YtcnpikbbmbombaaGreatDoor
namespace Go.Proofs.YtcnpikbbmbombaaGreatDoor
open Go.RowKit
theorem pQ:cU Tryz.prog 51:=by unfold cU;kernel_rfl
def bz (z:Int):UInt8:=UInt8.ofNat (z%256).toNat
theorem A5 (z:Int):(((bz z).toNat:Nat):Int)=z%256:=by
 unfold bz;rw [UInt8.toNat_ofNat'];omega
theorem bI (z:Int):IntKind.u8.wrap z=(((bz z).toNat:Nat):Int):=by
 rw [A5];simp [IntKind.wrap,IntKind.signed,IntKind.bits]
theorem Gv (b:UInt8):bz ((b.toNat:Nat):Int)=b:=by
 apply UInt8.toNat_inj.1
 have h:=A5 ((b.toNat:Nat):Int)
 have:=b.toNat_lt
 omega
theorem xE (x:Nat):((x:Nat):Int).fdiv (2 ^ (min (8:Int).toNat IntKind.u64.bits))=((x / 256:Nat):Int):=by
 show ((x:Nat):Int).fdiv 256=_
 rw [Int.fdiv_eq_ediv_of_nonneg _ (by omega)];omega
theorem Me (x:Nat):((x:Nat):Int).fdiv (2 ^ (min (7:Int).toNat IntKind.u64.bits))=((x / 128:Nat):Int):=by
 show ((x:Nat):Int).fdiv 128=_
 rw [Int.fdiv_eq_ediv_of_nonneg _ (by omega)];omega
theorem Jj {x:Nat} (h:x<18446744073709551616):IntKind.u64.wrap ((BitVec.ofInt IntKind.u64.bits (x:Int) &&& BitVec.ofInt IntKind.u64.bits 127).toNat:Int)=((x%128:Nat):Int):=by
 have h1:(BitVec.ofInt 64 (x:Int) &&& BitVec.ofInt 64 127).toNat=x%128:=by
  rw [BitVec.toNat_and]
  have e1:(BitVec.ofInt 64 (x:Int)).toNat=x:=by simp [BitVec.toNat_ofInt];omega
  have e2:(BitVec.ofInt 64 127).toNat=2 ^ 7-1:=by decide
  rw [e1,e2,Nat.and_two_pow_sub_one_eq_mod]
 show IntKind.u64.wrap ((BitVec.ofInt 64 (x:Int) &&& BitVec.ofInt 64 127).toNat:Int)=_
 rw [h1]
 simp [IntKind.wrap,IntKind.signed,IntKind.bits];omega
theorem KJ {x:Nat} (h:x<128):IntKind.u64.wrap ((BitVec.ofInt IntKind.u64.bits (x:Int) ||| BitVec.ofInt IntKind.u64.bits 128).toNat:Int)=((x+128:Nat):Int):=by
 have h1:(BitVec.ofInt 64 (x:Int) ||| BitVec.ofInt 64 128).toNat=x+128:=by
  rw [BitVec.toNat_or]
  have e1:(BitVec.ofInt 64 (x:Int)).toNat=x:=by simp [BitVec.toNat_ofInt];omega
  have e2:(BitVec.ofInt 64 128).toNat=2 ^ 7*1:=by decide
  rw [e1,e2,Nat.or_comm,← Nat.two_pow_add_eq_or_of_lt (i:=7) (by omega)];omega
 show IntKind.u64.wrap ((BitVec.ofInt 64 (x:Int) ||| BitVec.ofInt 64 128).toNat:Int)=_
 rw [h1]
 simp [IntKind.wrap,IntKind.signed,IntKind.bits];omega
def iu (l:List UInt8):List ai:=[.rw 91 1 [[.em 5 1 (ae l)]]]
theorem B5 {l l':List UInt8} {rows:List (List DV)} (h:rows=ae l'):([ai.rw 91 1 (List.set (List.set [[.em 5 1 (ae l)]] 0 [.jk]) 0 [.em 5 1 rows])]:List ai)=iu l':=by subst h;rfl
theorem KK {l l':List UInt8} {r0 rows:List (List DV)} (h:rows=ae l'):([ai.rw 91 1 (List.set (List.set (List.set (List.set [[.em 5 1 (ae l)]] 0 [.jk]) 0 [.em 5 1 r0]) 0 [.jk]) 0 [.em 5 1 rows])]:List ai)=iu l':=by subst h;rfl
def cE (x:Nat):List UInt8:=if h:x<128 then [bz x] else bz ((x%128+128:Nat):Int)::cE (x / 128)
termination_by x
theorem q5 {x:Nat} (h:x<128):cE x=[bz x]:=by rw [cE,dif_pos h]
theorem tI {x:Nat} (h:¬ x<128):cE x=bz ((x%128+128:Nat):Int)::cE (x / 128):=by rw [cE,dif_neg h]
theorem A6 {x i:Nat} (hx:x<18446744073709551616) (h:128≤x / 128 ^ i):i+1≤9:=by
 rcases Nat.lt_or_ge i 9 with h1 | h1
 ·omega
 ·have h2:128 ^ 9≤128 ^ i:=Nat.pow_le_pow_right (by omega) h1
  have h3:x / 128 ^ i≤x / 128 ^ 9:=Nat.div_le_div_left h2 (by decide)
  have:x / 128 ^ 9<128:=by rw [Nat.div_lt_iff_lt_mul (by decide)];omega
  omega
theorem rG (x i:Nat):x / 128 ^ i / 128=x / 128 ^ (i+1):=by rw [Nat.div_div_eq_div_mul,Nat.pow_succ]
set_option maxRecDepth 100000 in
theorem wI (l:List UInt8) (x:Nat) (hl:l.length≤4294967296):aC Tryz.prog 88 [.ep 0 1 (0) 0,.u x,.z 1] [.rw 91 1 ([[.em 5 1 (ae l)]])] (.tu []) (iu (l++[bz ((x:Nat):Int)])):=by
 refine aC.intro (by kernel_rfl) rfl rfl 25 rfl rfl fun D w0 K bs ac wd hK (ao:bs.m=1) r=>?_
 refine cD (todo':=hd Tryz.f88 0) (E':=[(0,.ep 0 1 (0) 0),(1,.u x),(8,.z 1),(9,.z 0)]) (M':=[.rw 91 1 ([[.em 5 1 (ae l)]])]) tk mo hK ao [] 2000 [0] [0,1,8,9] r (by kernel_rfl) (U (pQ:cU Tryz.prog 51) trivial) fun ac wd r=>?_
 refine cD (todo':=hd Tryz.f88 0) (E':=[(0,.ep 0 1 (0) 0),(1,.u (x / 256)),(8,.z 1),(9,.z 1)]) (M':=[.rw 91 1 (List.set (List.set ([[.em 5 1 (ae l)]]) (0) [.jk]) (0) [.em 5 1 (ae l++[[.v (.int .u8 ((((bz (((x:Nat):Int))).toNat:Nat):Int)))]])]),.dead,.dead]) tk mo hK ao [(3,[(4,.ix 0 [.em 5 1 (ae l)]),(6,.z ((((bz (((x:Nat):Int))).toNat:Nat):Int))),(11,.ix 0 [.jk])]),(4,[(1,.z (((x / 256:Nat):Int)))]),(5,[(0,.z (1))])] 2000 [0,1,2] [0,1,8,9] r (by kernel_rfl) (U (rfl:([[.em 5 1 (ae l)]]:List (List DV))[0]?=some [.em 5 1 (ae l)]) (U ((bI _):IntKind.u8.wrap (((x:Nat):Int))=(((bz (((x:Nat):Int))).toNat:Nat):Int)) (U (eY ((ae l).length)) (U ((by first | rfl | (simp [ae];done) | (simp [ae];omega)):(1)=([[.v (.int .u8 ((((bz (((x:Nat):Int))).toNat:Nat):Int)))]]:List (List DV)).length) (U ((by first | omega | (simp [ae];done) | (simp [ae];omega)):(2*(((ae l).length)+(1))+192)*1≤281474976710656) (U ((by first | omega | (simp [ae];done) | (simp [ae];omega)):((ae l).length)+(1)<4611686018427387904) (U ((by simp [aA,AV.one,aW,ae,ah,ints,steps,strs]):aA ([[.v (.int .u8 ((((bz (((x:Nat):Int))).toNat:Nat):Int)))]])) (U (rfl:(List.set ([[.em 5 1 (ae l)]]) (0) [.jk]:List (List DV))[0]?=some [.jk]) (U ((by first | rfl | (simp [ae];done) | (simp [ae];omega)):((ae l).length+(1))=(ae l++[[.v (.int .u8 ((((bz (((x:Nat):Int))).toNat:Nat):Int)))]]:List (List DV)).length) (U ((xE _):(((x:Nat):Int):Int).fdiv (2 ^ (min (8:Int).toNat IntKind.u64.bits))=((x / 256:Nat):Int)) (U ((by first | decide | omega):(0:Int)≤8) (U ((wi (by omega)):IntKind.i64.wrap ((0:Int)+1)=1) trivial)))))))))))) fun ac wd r=>?_
 refine bg (y:=.tu []) (N':=[.rw 91 1 (List.set (List.set ([[.em 5 1 (ae l)]]) (0) [.jk]) (0) [.em 5 1 (ae l++[[.v (.int .u8 ((((bz (((x:Nat):Int))).toNat:Nat):Int)))]])])]) (rfl) ((B5 (by simp [ae])).symm) ?_
 exact bf tk mo hK rfl ao [] 2000 [0] r (by kernel_rfl) trivial
set_option maxRecDepth 100000 in
theorem KL (l:List UInt8) (x:Nat) (hl:l.length≤4294967296):aC Tryz.prog 88 [.ep 0 1 (0) 0,.u x,.z 2] [.rw 91 1 ([[.em 5 1 (ae l)]])] (.tu []) (iu (l++[bz ((x:Nat):Int),bz ((x / 256:Nat):Int)])):=by
 refine aC.intro (by kernel_rfl) rfl rfl 25 rfl rfl fun D w0 K bs ac wd hK (ao:bs.m=1) r=>?_
 refine cD (todo':=hd Tryz.f88 0) (E':=[(0,.ep 0 1 (0) 0),(1,.u x),(8,.z 2),(9,.z 0)]) (M':=[.rw 91 1 ([[.em 5 1 (ae l)]])]) tk mo hK ao [] 2000 [0] [0,1,8,9] r (by kernel_rfl) (U (pQ:cU Tryz.prog 51) trivial) fun ac wd r=>?_
 refine cD (todo':=hd Tryz.f88 0) (E':=[(0,.ep 0 1 (0) 0),(1,.u (x / 256)),(8,.z 2),(9,.z 1)]) (M':=[.rw 91 1 (List.set (List.set ([[.em 5 1 (ae l)]]) (0) [.jk]) (0) [.em 5 1 (ae l++[[.v (.int .u8 ((((bz (((x:Nat):Int))).toNat:Nat):Int)))]])]),.dead,.dead]) tk mo hK ao [(3,[(4,.ix 0 [.em 5 1 (ae l)]),(6,.z ((((bz (((x:Nat):Int))).toNat:Nat):Int))),(11,.ix 0 [.jk])]),(4,[(1,.z (((x / 256:Nat):Int)))]),(5,[(0,.z (1))])] 2000 [0,1,2] [0,1,8,9] r (by kernel_rfl) (U (rfl:([[.em 5 1 (ae l)]]:List (List DV))[0]?=some [.em 5 1 (ae l)]) (U ((bI _):IntKind.u8.wrap (((x:Nat):Int))=(((bz (((x:Nat):Int))).toNat:Nat):Int)) (U (eY ((ae l).length)) (U ((by first | rfl | (simp [ae];done) | (simp [ae];omega)):(1)=([[.v (.int .u8 ((((bz (((x:Nat):Int))).toNat:Nat):Int)))]]:List (List DV)).length) (U ((by first | omega | (simp [ae];done) | (simp [ae];omega)):(2*(((ae l).length)+(1))+192)*1≤281474976710656) (U ((by first | omega | (simp [ae];done) | (simp [ae];omega)):((ae l).length)+(1)<4611686018427387904) (U ((by simp [aA,AV.one,aW,ae,ah,ints,steps,strs]):aA ([[.v (.int .u8 ((((bz (((x:Nat):Int))).toNat:Nat):Int)))]])) (U (rfl:(List.set ([[.em 5 1 (ae l)]]) (0) [.jk]:List (List DV))[0]?=some [.jk]) (U ((by first | rfl | (simp [ae];done) | (simp [ae];omega)):((ae l).length+(1))=(ae l++[[.v (.int .u8 ((((bz (((x:Nat):Int))).toNat:Nat):Int)))]]:List (List DV)).length) (U ((xE _):(((x:Nat):Int):Int).fdiv (2 ^ (min (8:Int).toNat IntKind.u64.bits))=((x / 256:Nat):Int)) (U ((by first | decide | omega):(0:Int)≤8) (U ((wi (by omega)):IntKind.i64.wrap ((0:Int)+1)=1) trivial)))))))))))) fun ac wd r=>?_
 refine cD (todo':=hd Tryz.f88 0) (E':=[(0,.ep 0 1 (0) 0),(1,.u ((x / 256) / 256)),(8,.z 2),(9,.z 2)]) (M':=[.rw 91 1 (List.set (List.set (List.set (List.set ([[.em 5 1 (ae l)]]) (0) [.jk]) (0) [.em 5 1 (ae l++[[.v (.int .u8 ((((bz (((x:Nat):Int))).toNat:Nat):Int)))]])]) (0) [.jk]) (0) [.em 5 1 (ae l++[[.v (.int .u8 ((((bz (((x:Nat):Int))).toNat:Nat):Int)))]]++[[.v (.int .u8 ((((bz (((x / 256:Nat):Int))).toNat:Nat):Int)))]])]),.dead,.dead,.dead,.dead]) tk mo hK ao [(3,[(4,.ix 0 [.em 5 1 (ae l++[[.v (.int .u8 ((((bz (((x:Nat):Int))).toNat:Nat):Int)))]])]),(6,.z ((((bz (((x / 256:Nat):Int))).toNat:Nat):Int))),(11,.ix 0 [.jk])]),(4,[(1,.z ((((x / 256) / 256:Nat):Int)))]),(5,[(0,.z (2))])] 2000 [0,1,2,3,4] [0,1,8,9] r (by kernel_rfl) (U (rfl:(List.set (List.set ([[.em 5 1 (ae l)]]) (0) [.jk]) (0) [.em 5 1 (ae l++[[.v (.int .u8 ((((bz (((x:Nat):Int))).toNat:Nat):Int)))]])]:List (List DV))[0]?=some [.em 5 1 (ae l++[[.v (.int .u8 ((((bz (((x:Nat):Int))).toNat:Nat):Int)))]])]) (U ((bI _):IntKind.u8.wrap (((x / 256:Nat):Int))=(((bz (((x / 256:Nat):Int))).toNat:Nat):Int)) (U (eY ((ae l++[[.v (.int .u8 ((((bz (((x:Nat):Int))).toNat:Nat):Int)))]]:List (List DV)).length)) (U ((by first | rfl | (simp [ae];done) | (simp [ae];omega)):(1)=([[.v (.int .u8 ((((bz (((x / 256:Nat):Int))).toNat:Nat):Int)))]]:List (List DV)).length) (U ((by first | omega | (simp [ae];done) | (simp [ae];omega)):(2*(((ae l++[[.v (.int .u8 ((((bz (((x:Nat):Int))).toNat:Nat):Int)))]]:List (List DV)).length)+(1))+192)*1≤281474976710656) (U ((by first | omega | (simp [ae];done) | (simp [ae];omega)):((ae l++[[.v (.int .u8 ((((bz (((x:Nat):Int))).toNat:Nat):Int)))]]:List (List DV)).length)+(1)<4611686018427387904) (U ((by simp [aA,AV.one,aW,ae,ah,ints,steps,strs]):aA ([[.v (.int .u8 ((((bz (((x / 256:Nat):Int))).toNat:Nat):Int)))]])) (U (rfl:(List.set (List.set (List.set ([[.em 5 1 (ae l)]]) (0) [.jk]) (0) [.em 5 1 (ae l++[[.v (.int .u8 ((((bz (((x:Nat):Int))).toNat:Nat):Int)))]])]) (0) [.jk]:List (List DV))[0]?=some [.jk]) (U ((by first | rfl | (simp [ae];done) | (simp [ae];omega)):((ae l++[[.v (.int .u8 ((((bz (((x:Nat):Int))).toNat:Nat):Int)))]]:List (List DV)).length+(1))=(ae l++[[.v (.int .u8 ((((bz (((x:Nat):Int))).toNat:Nat):Int)))]]++[[.v (.int .u8 ((((bz (((x / 256:Nat):Int))).toNat:Nat):Int)))]]:List (List DV)).length) (U ((xE _):(((x / 256:Nat):Int):Int).fdiv (2 ^ (min (8:Int).toNat IntKind.u64.bits))=(((x / 256) / 256:Nat):Int)) (U ((by first | decide | omega):(0:Int)≤8) (U ((wi (by omega)):IntKind.i64.wrap ((1:Int)+1)=2) trivial)))))))))))) fun ac wd r=>?_
 refine bg (y:=.tu []) (N':=[.rw 91 1 (List.set (List.set (List.set (List.set ([[.em 5 1 (ae l)]]) (0) [.jk]) (0) [.em 5 1 (ae l++[[.v (.int .u8 ((((bz (((x:Nat):Int))).toNat:Nat):Int)))]])]) (0) [.jk]) (0) [.em 5 1 (ae l++[[.v (.int .u8 ((((bz (((x:Nat):Int))).toNat:Nat):Int)))]]++[[.v (.int .u8 ((((bz (((x / 256:Nat):Int))).toNat:Nat):Int)))]])])]) (rfl) ((KK (by simp [ae])).symm) ?_
 exact bf tk mo hK rfl ao [] 2000 [0] r (by kernel_rfl) trivial
set_option maxRecDepth 100000 in
theorem jY (l:List UInt8) (b:UInt8) (hl:l.length≤4294967296):aC Tryz.prog 53 [.ep 0 1 (0) 0,.d (.v (.int .u8 (((b.toNat:Nat):Int))))] [.rw 91 1 ([[.em 5 1 (ae l)]])] (.tu []) (iu (l++[b])):=by
 refine aC.intro (by kernel_rfl) rfl rfl 8 rfl rfl fun D w0 K bs ac wd hK (ao:bs.m=1) r=>?_
 refine bg (y:=.tu []) (N':=[.rw 91 1 ([[.em 5 1 (ae (l++[bz ((b.toNat:Nat):Int)]))]])]) (rfl) ((by rw [Gv];rfl)) ?_
 exact bf tk mo hK rfl ao [(0,[(2,.z (((b.toNat:Nat):Int))),(3,.mem [0] (.tu []) [.rw 91 1 ([[.em 5 1 (ae (l++[bz ((b.toNat:Nat):Int)]))]])])])] 2000 [0] r (by kernel_rfl) (U ((wu ⟨rfl,by omega,by have:=b.toNat_lt;omega⟩):IntKind.u64.wrap (((b.toNat:Nat):Int))=((b.toNat:Nat):Int)) (U (wI l b.toNat (by omega)) trivial))
set_option maxRecDepth 100000 in
theorem Mf (l:List UInt8) (x:Nat) (hx:x<65536) (hl:l.length≤4294967296):aC Tryz.prog 55 [.ep 0 1 (0) 0,.d (.v (.int .u16 (((x:Nat):Int))))] [.rw 91 1 ([[.em 5 1 (ae l)]])] (.tu []) (iu (l++[bz ((x:Nat):Int),bz ((x / 256:Nat):Int)])):=by
 refine aC.intro (by kernel_rfl) rfl rfl 8 rfl rfl fun D w0 K bs ac wd hK (ao:bs.m=1) r=>?_
 refine bg (y:=.tu []) (N':=[.rw 91 1 ([[.em 5 1 (ae (l++[bz ((x:Nat):Int),bz ((x / 256:Nat):Int)]))]])]) (rfl) (rfl) ?_
 exact bf tk mo hK rfl ao [(0,[(2,.z (((x:Nat):Int))),(3,.mem [0] (.tu []) [.rw 91 1 ([[.em 5 1 (ae (l++[bz ((x:Nat):Int),bz ((x / 256:Nat):Int)]))]])])])] 2000 [0] r (by kernel_rfl) (U ((wu (by omega)):IntKind.u64.wrap (((x:Nat):Int))=((x:Nat):Int)) (U (KL l x (by omega)) trivial))
set_option maxRecDepth 100000 in
theorem KM (l:List UInt8) (x:Nat) (hx:x<18446744073709551616) (hl:l.length≤4294967200):aC Tryz.prog 56 [.ep 0 1 (0) 0,.u x] [.rw 91 1 ([[.em 5 1 (ae l)]])] (.tu []) (iu (l++cE x)):=by
 refine aC.intro (by kernel_rfl) rfl rfl 16 rfl rfl fun D w0 K bs ac wd hK (ao:bs.m=1) r=>?_
 refine cD (todo':=hd Tryz.f56 0) (E':=[(0,.ep 0 1 (0) 0),(1,.u x)]) (M':=[.rw 91 1 ([[.em 5 1 (ae l)]])]) tk mo hK ao [] 2000 [0] [0,1] r (by kernel_rfl) trivial fun ac wd r=>?_
 refine aD.rounds (Φ:=fun (i:Nat) ac wd=>∃ o:List UInt8,(o.length=l.length+i∧l++cE x=o++cE (x / 128 ^ i))∧RB D w0 K 16 bs [(0,.ep 0 1 (0) 0),(1,.u (x / 128 ^ i))] [.rw 91 1 ([[.em 5 1 (ae o)]])] ac wd) (9) ?_ (Nat.zero_le _) ⟨l,⟨rfl,by simp⟩,(r).cast (by simp) (by simp)⟩
 clear r
 rintro i dv bH ac wd ⟨o,aq,r⟩
 obtain ⟨NA,aq⟩:=aq
 cases h0:(decide ((128:Int)≤((x / 128 ^ i:Nat):Int))) with
 | false=>
  have bo:=of_decide_eq_false h0
  refine bg (y:=.tu []) (N':=[.rw 91 1 ([[.em 5 1 (ae (o++[bz ((x / 128 ^ i:Nat):Int)]))]])]) (rfl) ((by rw [aq,q5 (by omega)];rfl)) ?_
  exact bf tk mo hK rfl ao [(0,[(1,.b false)]),(3,[(2,.mem [0] (.tu []) [.rw 91 1 ([[.em 5 1 (ae (o++[bz ((x / 128 ^ i:Nat):Int)]))]])])])] 2000 [0] r (by kernel_rfl) (U h0 (U (wI o (x / 128 ^ i) (by omega)) trivial))
 | true=>
  have bo:=of_decide_eq_true h0
  exact cD (todo':=hd Tryz.f56 0) tk mo hK ao [(0,[(1,.b true)]),(1,[(1,.z (((x / 128 ^ (i+1):Nat):Int)))]),(2,[(2,.z (((x / 128 ^ i%128:Nat):Int))),(3,.z (((x / 128 ^ i%128+128:Nat):Int))),(4,.mem [0] (.tu []) [.rw 91 1 ([[.em 5 1 (ae (o++[bz ((x / 128 ^ i%128+128:Nat):Int)]))]])])])] 2000 [0] [0,1] r (by kernel_rfl) (U h0 (U ((Jj (by have:=Nat.div_le_self x (128 ^ i);omega)):IntKind.u64.wrap ((BitVec.ofInt IntKind.u64.bits (((x / 128 ^ i:Nat):Int)) &&& BitVec.ofInt IntKind.u64.bits (127)).toNat:Int)=((x / 128 ^ i%128:Nat):Int)) (U ((KJ (by omega)):IntKind.u64.wrap ((BitVec.ofInt IntKind.u64.bits (((x / 128 ^ i%128:Nat):Int)) ||| BitVec.ofInt IntKind.u64.bits (128)).toNat:Int)=((x / 128 ^ i%128+128:Nat):Int)) (U (wI o (x / 128 ^ i%128+128) (by omega)) (U ((by rw [Me,rG]):(((x / 128 ^ i:Nat):Int):Int).fdiv (2 ^ (min (7:Int).toNat IntKind.u64.bits))=((x / 128 ^ (i+1):Nat):Int)) (U ((by first | decide | omega):(0:Int)≤7) trivial)))))) fun ac wd r=>bH (by have:=A6 (i:=i) hx (by omega);omega) ac wd ⟨(o++[bz ((x / 128 ^ i%128+128:Nat):Int)]),⟨by simp;omega,by rw [aq,tI (by omega),rG,List.append_assoc];rfl⟩,r⟩
set_option maxRecDepth 100000 in
theorem Mg (l b:List UInt8) (hb:b.length≤4294967296) (hl:l.length≤4294967296):aC Tryz.prog 57 [.ep 0 1 (0) 0,.d (.ro 1 (ae b))] [.rw 91 1 ([[.em 5 1 (ae l)]])] (.tu []) (iu (l++b)):=by
 refine aC.intro (by kernel_rfl) rfl rfl 15 rfl rfl fun D w0 K bs ac wd hK (ao:bs.m=1) r=>?_
 refine bg (y:=.tu []) (N':=[.rw 91 1 (List.set (List.set ([[.em 5 1 (ae l)]]) (0) [.jk]) (0) [.em 5 1 (ae l++(ae b))])]) (rfl) ((B5 (by simp [ae])).symm) ?_
 exact bf tk mo hK rfl ao [(1,[(4,.ix 0 [.em 5 1 (ae l)]),(9,.ix 0 [.jk])])] 2000 [0] r (by kernel_rfl) (U (pQ:cU Tryz.prog 51) (U (rfl:([[.em 5 1 (ae l)]]:List (List DV))[0]?=some [.em 5 1 (ae l)]) (U (eY ((ae l).length)) (U ((by first | omega | (simp [ae];done) | (simp [ae];omega)):(2*(((ae l).length)+(ae b).length)+192)*1≤281474976710656) (U ((by first | omega | (simp [ae];done) | (simp [ae];omega)):((ae l).length)+(ae b).length<4611686018427387904) (U ((by simp [aA,AV.one,aW,ae,ah,ints,steps,strs]):aA (ae b)) (U (rfl:(List.set ([[.em 5 1 (ae l)]]) (0) [.jk]:List (List DV))[0]?=some [.jk]) (U ((by first | rfl | (simp [ae];done) | (simp [ae];omega)):((ae l).length+(ae b).length)=(ae l++(ae b):List (List DV)).length) trivial))))))))
set_option maxRecDepth 100000 in
theorem Dl (l:List UInt8) (h0:0<l.length) (hb:l.length<2147483648):al Tryz.prog 58 [.d (.ro 1 (ae l))] (DV.em 5 1 (ae l)):=by
 refine al.intro (by kernel_rfl) rfl rfl 8 rfl rfl fun w0 K ac hK r=>?_
 rw [show (DV.em 5 1 (ae l):DV)=.em 5 1 ([]++(ae l)) from rfl]
 exact aH tk mo hK rfl [] 2000 r (by kernel_rfl) (U ((by simpa [ae] using h0):0<(ae l).length) (U ((by simp):(0)=([]:List (List DV)).length) (U ((by simp [ae];omega):(2*((0)+(ae l).length)+192)*1≤281474976710656) (U ((by simp [ae];omega):(0)+(ae l).length<4611686018427387904) (U ((by simp [aA,AV.one,aW,ae]):aA (ae l)) (U ((by simp):(0+(ae l).length)=([]++(ae l):List (List DV)).length) trivial))))))
set_option maxRecDepth 100000 in
theorem Dm (c:Nat):al Tryz.prog 58 [.d (.v (.slice none 0 c))] (DV.v (.slice none 0 0)):=by
 refine al.intro (by kernel_rfl) rfl rfl 8 rfl rfl fun w0 K ac hK r=>?_
 exact aH tk mo hK rfl [] 2000 r (by kernel_rfl) trivial
set_option maxRecDepth 100000 in
theorem Du (a:Addr) (c:Nat):al Tryz.prog 58 [.d (.v (.slice (some a) 0 c))] (DV.em 5 1 ([]++[])):=by
 refine al.intro (by kernel_rfl) rfl rfl 8 rfl rfl fun w0 K ac hK r=>?_
 exact aH tk mo hK rfl [] 2000 r (by kernel_rfl) (U ((by simp):(0)=([]:List (List DV)).length) (U ((by simp):(2*((0)+0)+192)*1≤281474976710656) (U ((by simp):(0)+0<4611686018427387904) (U ((by simp [aA]):aA (([]:List (List DV)))) (U ((by simp):(0+0)=([]++([]:List (List DV)):List (List DV)).length) trivial)))))
theorem tz (l:List UInt8) (hb:l.length<2147483648):al Tryz.prog 58 [.d (.ro 1 (ae l))] (.em 5 1 (ae l)):=by
 cases l with
 | nil=>
  refine al.empty (pre:=[]) (post:=[]) fun a c=>?_
  cases a with
  | none=>exact al.nil 5 1 (Dm c)
  | some a=>exact Du a c
 | cons b l=>exact Dl (b::l) (by simp) hb
theorem zp (l:List UInt8) (hb:l.length<2147483648):al Tryz.prog 58 [.d (.ro 1 (ae l))] (.ro 1 (ae l)):=by
 have h:=(tz l hb).stays
 simp only [dK,qU] at h
 exact h
theorem iG (x:Value):fS (.v x):=by intro K K2 y H h;cases h;exact .v _
theorem Jk {T:Nat} {rows:List (List DV)} (h:∀ (i:Nat) r (j:Nat) c,rows[i]?=some r→r[j]?=some c→fS c):fS (.em T 1 rows):=by
 intro K K' y H hd
 cases hd with
 | em X F hl hs hr=>exact .em X F hl hs fun i r j c x h1 h2 h3=>h i r j c h1 h2 _ _ _ _ (hr i r j c x h1 h2 h3)
theorem zq (T:Nat) (l:List UInt8):fS (.em T 1 (ae l)):=Jk fun i r j c h1 h2=>by
 simp only [ae,List.getElem?_map,Option.map_eq_some_iff] at h1
 obtain ⟨b,-,rfl⟩:=h1
 cases j with
 | zero=>simp at h2;subst h2;exact iG _
 | succ j=>simp at h2
set_option maxRecDepth 100000 in
theorem Jl (l:List UInt8) (hl:l.length<2147483648):aC Tryz.prog 27 [.ep 0 1 (0) 0] [.rw 91 1 ([[.em 5 1 (ae l)]])] (.sl 1 l.length) ([.rw 91 1 (List.set [[.em 5 1 (ae l)]] 0 [.jk]),.rw 5 1 (ae l)]):=by
 refine aC.intro (by kernel_rfl) rfl rfl 10 rfl rfl fun D w0 K bs ac wd hK (ao:bs.m=1) r=>?_
 refine bg (y:=.sl 1 ((ae l).length)) (N':=[.rw 91 1 (List.set ([[.em 5 1 (ae l)]]) (0) [.jk]),.rw 5 1 (ae l)]) ((by simp [ae])) (rfl) ?_
 exact bf tk mo hK rfl ao [(3,[(3,.ix 0 [.em 5 1 (ae l)]),(4,.call [.d (.ro 1 (ae l))] (.em 5 1 (ae l)))])] 2000 [0,2] r (by kernel_rfl) (U (pQ:cU Tryz.prog 51) (U (rfl:([[.em 5 1 (ae l)]]:List (List DV))[0]?=some [.em 5 1 (ae l)]) (U (tz _ (by omega):al Tryz.prog 58 [.d (.ro 1 (ae l))] (.em 5 1 (ae l))) (U ((zq _ _):fS (.em 5 1 (ae l))) (U (eY (1)) (U (eY ((ae l).length)) (U ((qU _):cN (ae l)=ae l) trivial)))))))
set_option maxRecDepth 100000 in
theorem B6 :aC Tryz.prog 22 [] [] (.pt 0 0) ([.bx 91 [.d (.v (.slice none 0 0))]]):=by
 refine aC.intro (by kernel_rfl) rfl rfl 3 rfl rfl fun D w0 K bs ac wd hK (ao:bs.m=0) r=>?_
 refine bg (y:=.pt 0 0) (N':=[.bx 91 [.d (.v (.slice none 0 0))]]) (rfl) (rfl) ?_
 exact bf tk mo hK rfl ao [] 2000 [0] r (by kernel_rfl) trivial
set_option maxRecDepth 100000 in
theorem KN (a:Option Addr) (n c:Nat):al Tryz.prog 25 [.rp [.v (.slice a n c)] 0] (DV.n n):=by
 refine al.intro (by kernel_rfl) rfl rfl 10 rfl rfl fun w0 K ac hK r=>?_
 rw [show (DV.n n:DV)=.n n from rfl]
 exact aH tk mo hK rfl [] 2000 r (by kernel_rfl) (U (pQ:cU Tryz.prog 51) trivial)
theorem aC.Mh {P:Program} {f:FuncId} {T T2:Nat} {rows:List (List DV)} {x:DV} (h:∀ (a:Option Addr) (c:Nat),al P f [.rp [.v (.slice a rows.length c)] 0] x) (hx:fS x) (hs:∀ {K:World→Prop} {y:Value} {H:ak},bF K x y H→bF K x y []):aC P f [.ep 0 1 0 0] [.rw T 1 [[.em T2 1 rows]]] (.d x) [.rw T 1 [[.em T2 1 rows]]]:=by
 refine ⟨(h none 0).1,fun {D w0 K0 β F I w} ys R hK hl hr=>?_⟩
 obtain ⟨y,rfl⟩:∃ y,ys=[y]:=by
  cases ys with
  | nil=>simp at hl
  | cons y r=>cases r with
   | nil=>exact ⟨y,rfl⟩
   | cons _ _=>simp at hl
 have hy:=hr 0 _ y rfl rfl
 cases hy with
 | @ep _ _ _ _ b cc hb=>
 obtain ⟨H,hF,hB,hH⟩:=R.at (u:=0) rfl
 cases hB with
 | rw aQ X G ml kx jw=>
  rw [hb] at aQ;cases aQ
  obtain ⟨b',cap,cs,he,rfl,cJ,dP,lf⟩:=kx.block (by simp)
  simp only [Value.slice.injEq,Option.some.injEq,Addr.mk.injEq] at he
  obtain ⟨⟨rfl,-⟩,-,rfl⟩:=he
  have hX:=(ml 0 _ rfl).2
  obtain ⟨v,hv⟩:∃ v,(X 0)[0]?=some v:=⟨(X 0)[0]'(by omega),List.getElem?_eq_getElem _⟩
  have hd:=jw 0 _ 0 _ v rfl rfl hv
  obtain ⟨a,n,c,rfl⟩:=hd.slice (.inr ⟨_,_,_,rfl⟩)
  have hn:n=rows.length:=by
   generalize G 0 0=GG at hd
   cases hd with
   | em X' F' cX ec my=>
    obtain ⟨a',c',e⟩:=ec.len
    simp only [Value.slice.injEq] at e
    exact e.2.1
  subst hn
  have hw:w.heap[b]?=some (.cells cs T (0,0)):=(Holds.app.1 hH).1.one
  have jH:w.cell? ⟨b,0,none⟩=some (.slice a rows.length c):=by
   rw [cell_of hw]
   have NB:lay 1 X=X 0:=by simp [lay,List.range_succ]
   have e1:(cs.toList.take (1*1))[0]?=cs[0]?:=by rw [List.getElem?_take,if_pos (by omega),Array.getElem?_toList]
   rw [← e1,show (cs.toList.take (1*1))=X 0 from lf.trans NB];exact hv
  refine ((h a c).2 w (fun w'=>w'.cell? ⟨b,0,none⟩=some (.slice a rows.length c)) [.pointer (some ⟨b,0*1+0,none⟩)] (fun w' g=>g.r7 jH) rfl fun j q y h1 h2=>?_).mono ?_
  ·cases j with
   | succ j=>simp at h1
   | zero=>
    simp only [List.getElem?_cons_zero,Option.some.injEq] at h1 h2
    subst h1;subst h2
    have e0:(⟨b,0*1+0,none⟩:Addr)=(⟨b,0,none⟩:Addr).add 0:=by rw [add_zero']
    rw [e0]
    refine .rp _ [.slice a rows.length c] rfl (fun w' dS j z hj=>?_) (fun j q z h1 h2=>?_)
    ·cases j with
     | succ j=>simp at hj
     | zero=>simp at hj;subst hj;rw [add_zero'];exact dS
    ·cases j with
     | succ j=>simp at h1
     | zero=>simp at h1 h2;subst h1;subst h2;exact .v _
  ·rintro e w' ⟨v,rfl,g,H2,⟨Ho,Hi,rfl,s4⟩,n2⟩
   refine ⟨v,rfl,β,F,I,⟨R.len,R.blk,R.st.gr g⟩,Ext.refl _,bK.refl _,.d (hx _ _ _ _ (hs s4))⟩
theorem sN (l:List UInt8):aC Tryz.prog 25 [.ep 0 1 0 0] (iu l) (.n l.length) (iu l):=by
 have h:=aC.Mh (T:=91) (T2:=5) (rows:=ae l) (fun a c=>KN a (ae l).length c) (iG _) (fun hd=>by cases hd;exact .v _)
 rw [show (ae l).length=l.length by simp [ae]] at h
 exact h
end Go.Proofs.YtcnpikbbmbombaaGreatDoor
namespace Go.Proofs.YtcnpikbbmbombaaGreatDoor
open Go.RowKit
theorem consts {K:World→Prop} {zs ys:List Value} (hl:ys.length=(zs.map fun z=>AV.d (.v z)).length) (hr:∀ (j:Nat) c y,(zs.map fun z=>AV.d (.v z))[j]?=some c→ys[j]?=some y→aw K [] c y):ys=zs:=by
 apply List.ext_getElem (by simpa using hl)
 intro j h1 h2
 have key:∀ {a b:Value},aw K [] (.d (.v a)) b→b=a:=fun h=>by cases h with | d h=>cases h;rfl
 exact key (hr j (.d (.v zs[j])) ys[j] (by rw [List.getElem?_map,List.getElem?_eq_getElem h2];rfl) (List.getElem?_eq_getElem h1))
theorem al.pE {P:Program} {f:FuncId} (hc:gv P f=true) {zs:List Value} {v:Value} (h:∀ w,Calls P f zs.toArray w fun e w'=>e=.returned v∧Below w.heap.size w w'):al P f (zs.map fun z=>AV.d (.v z)) (.v v):=by
 refine ⟨hc,fun w K ys _ hl hr=>?_⟩
 obtain rfl:=consts hl hr
 exact (h w).mono fun e w' ⟨he,g⟩=>⟨v,he,g,[],⟨[],[],rfl,.v _⟩,dh.nil _ _⟩
theorem H3 (l:List UInt8) (c:UInt8):al Tryz.prog 112 [.d (.v (.string ⟨l.toArray⟩)),.d (.v (.string ⟨[c].toArray⟩))] (.z (Go.Lib.indexByte l c)):=
 al.pE (by kernel_rfl) (zs:=[.string ⟨l.toArray⟩,.string ⟨[c].toArray⟩]) fun w=>(Tryz.strings_Index_one ⟨l.toArray⟩ c w).mono fun e w' ⟨he,hw⟩=>⟨he,hw▸Below.refl _ _⟩
theorem yI (l:List UInt8) (c:UInt8):al Tryz.prog 102 [.d (.v (.string ⟨l.toArray⟩)),.d (.v (.int .u8 ((c.toNat:Nat):Int)))] (.z (Go.Lib.indexByte l c)):=
 al.pE (by kernel_rfl) (zs:=[.string ⟨l.toArray⟩,.int .u8 ((c.toNat:Nat):Int)]) fun w=>(Tryz.strings_IndexByte ⟨l.toArray⟩ ((c.toNat:Nat):Int) w).mono fun e w' ⟨he,hw⟩=>⟨by rw [he];simp,hw▸Below.refl _ _⟩
theorem H4 (l:List UInt8) (c:UInt8):al Tryz.prog 111 [.d (.v (.string ⟨l.toArray⟩)),.d (.v (.string ⟨[c].toArray⟩))] (.z (Go.Lib.countByte l c)):=
 al.pE (by kernel_rfl) (zs:=[.string ⟨l.toArray⟩,.string ⟨[c].toArray⟩]) fun w=>(Tryz.strings_Count_one ⟨l.toArray⟩ c w).mono fun e w' ⟨he,hw⟩=>⟨he,hw▸Below.refl _ _⟩
theorem wJ:p3 Tryz.prog 95:=⟨_,Tryz.func95,by kernel_rfl,by kernel_rfl,by kernel_rfl,by kernel_rfl⟩
theorem Mi:sF Tryz.prog 114 5:=⟨_,_,Tryz.func114,by kernel_rfl,by kernel_rfl,by kernel_rfl,by kernel_rfl,rfl,Tryz.underlying31⟩
set_option maxRecDepth 100000 in
theorem Jm (n:Nat) (hn:n≤1099511627776):aC Tryz.prog 104 [.pt 0 0,.n n] [.bx 71 [.pt 0 0,.d (.v (.slice none 0 0))]] (.tu []) ([.bx 71 [.pt 0 0,.sl 1 0],.rw 5 1 []]):=by
 refine aC.intro (by kernel_rfl) rfl rfl 30 rfl rfl fun D w0 K bs ac wd hK (ao:bs.m=1) r=>?_
 refine bg (y:=.tu []) (N':=[.bx 71 [.pt 0 0,.sl 1 (0)],.rw 5 1 ((([]:List (List DV))).take (0)++((List.replicate (n) [.jk]).take (0)).drop (0))]) (rfl) (rfl) ?_
 exact bf tk mo hK rfl ao [(0,[(5,.z (0)),(7,.z (((n:Nat):Int))),(8,.n2 (n) 5),(14,.n (0))]),(1,[(5,.n (0))])] 2000 [0,1] r (by kernel_rfl) (U ((by decide):IntKind.i64.wrap ((2:Int)*0)=0) (U ((wi (by omega)):IntKind.i64.wrap ((0:Int)+((n:Nat):Int))=((n:Nat):Int)) (U (Mi:sF Tryz.prog 114 5) (U (aB ((n:Nat):Int)) (U ((by first | omega | decide | (simp;done) | (simp;omega)):(n)≤281474976710656) (U (aB ((0:Nat):Int)) (U ((by first | omega | decide | (simp;done) | (simp;omega)):(0)≤(n)) (U ((by first | rfl | (simp;done) | (simp<;>omega)):(n)=(List.replicate (n) [.jk]:List (List DV)).length) (U ((by first | rfl | (simp;done) | (simp<;>omega)):(0)=((List.replicate (n) [.jk]).take (0):List (List DV)).length) (U (rfl:min (([]:List (List DV)):List (List DV)).length (0)=0) (U ((by simp [aA,AV.one,aW,ae,ah,ints,steps,strs]):aA (([]:List (List DV)))) trivial)))))))))))
end Go.Proofs.YtcnpikbbmbombaaGreatDoor
namespace Go.Proofs.YtcnpikbbmbombaaGreatDoor
open Go.RowKit
theorem je:cU Tryz.prog 69:=by unfold cU;kernel_rfl
theorem Gw {n:Nat} (h0:1≤n) (h:n≤1048576):¬ (1:Int)≥((9223372036854775807 / n:Nat):Int):=by
 have:2≤9223372036854775807 / n:=by rw [Nat.le_div_iff_mul_le h0];omega
 omega
theorem Mj (a b:Nat):((a:Nat):Int).tdiv ((b:Nat):Int)=((a / b:Nat):Int):=(Int.ofNat_tdiv a b).symm
theorem Ml {n:Nat} (h:n≤1048576):IntKind.i64.wrap ((9223372036854775807:Int).tdiv ((n:Nat):Int))=((9223372036854775807 / n:Nat):Int):=by
 have e:=Mj 9223372036854775807 n
 rw [show (9223372036854775807:Int)=((9223372036854775807:Nat):Int) from rfl,e]
 have h2:=Nat.div_le_self 9223372036854775807 n
 generalize 9223372036854775807 / n=q at h2 ⊢
 exact wi (by omega)
def cz (r:List (List UInt8)):List UInt8:=r.flatMap fun w=>32::w
theorem E4 {r:List (List UInt8)} {i:Nat} {e:List UInt8} (h:r[i]?=some e):cz (r.take (i+1))=cz (r.take i)++[32]++e:=by
 unfold cz;rw [List.take_add_one,h];simp
theorem pF (r:List (List UInt8)):(cz r).length=r.length+r.flatten.length:=by
 unfold cz;induction r with
 | nil=>rfl
 | cons x r ih=>rw [List.flatMap_cons,List.length_append,ih];simp;omega
theorem zr {r:List (List UInt8)} {i:Nat} {e:List UInt8} (h:r[i]?=some e):(r.take (i+1)).flatten.length=(r.take i).flatten.length+e.length:=by
 rw [List.take_add_one,h];simp
theorem rN (r:List (List UInt8)) (i:Nat):(r.take i).flatten.length≤r.flatten.length:=by
 have:=congrArg (fun q=>q.flatten.length) (List.take_append_drop i r)
 simp only [List.flatten_append,List.length_append] at this
 omega
theorem AA (r:List (List UInt8)) (i:Nat):(cz (r.take i)).length≤(cz r).length:=by
 rw [pF,pF];have h1:=rN r i;have h2:(r.take i).length≤r.length:=by simp;omega
 omega
theorem H5 {r:List (List UInt8)} {i:Nat} (h:i≤r.length):i≤(cz (r.take i)).length:=by
 rw [pF,List.length_take];omega
set_option maxRecDepth 100000 in
theorem Gy (x:List UInt8) (q:List (List UInt8)) (hr:1≤q.length) (hl:q.length≤1000000) (hb:(x::q).flatten.length≤1073741824):al Tryz.prog 71 [.d (.ro 1 (strs (x::q))),.d (.v (.string ⟨([32]).toArray⟩))] (.v (.string ⟨(x++cz q).toArray⟩)):=by
 refine al.intro (by kernel_rfl) rfl rfl 75 rfl rfl fun w0 K ac hK r=>?_
 have u0:=((by first | rfl | (simp [strs];done) | (simp [strs];omega)):(((strs (x::q)).length:Nat):Int)=(((q.length+1):Nat):Int))
 cases h0:(((((q.length+1):Nat):Int):Int)==0) with
 | false=>
  have bo:=ne_of_beq_false h0
  cases h1:(((((q.length+1):Nat):Int):Int)==1) with
  | false=>
   have bO:=ne_of_beq_false h1
   have u1:=((by first | rfl | (simp [strs];done) | (simp [strs];omega)):((([32]:List UInt8).length:Nat):Int)=1)
   have u2:=((wi (by omega)):IntKind.i64.wrap (((((q.length+1):Nat):Int):Int)-1)=((q.length:Nat):Int))
   have u3:=((Ml (by omega)):IntKind.i64.wrap ((9223372036854775807:Int).tdiv ((q.length:Nat):Int))=((9223372036854775807 / q.length:Nat):Int))
   cases h2:(decide ((((9223372036854775807 / q.length:Nat):Int):Int)≤1)) with
   | false=>
    have cQ:=of_decide_eq_false h2
    refine aS (todo':=hd Tryz.f71 0) (E':=[(0,.d (.ro 1 (strs (x::q)))),(1,.d (.v (.string ⟨([32]).toArray⟩))),(5,.n (q.length+((x::q).take 0).flatten.length)),(39,.d (.ro 1 (strs (x::q)))),(40,.n ((q.length+1))),(41,.n 0)]) (M':=[]) tk mo hK [(1,[(1,.z ((((q.length+1):Nat):Int)))]),(2,[(0,.b false)]),(4,[(0,.b false)]),(7,[(1,.z (1))]),(8,[(1,.z (1)),(3,.z ((((q.length+1):Nat):Int))),(4,.z (((q.length:Nat):Int))),(5,.z (((9223372036854775807 / q.length:Nat):Int))),(6,.b false)]),(10,[(2,.z (1)),(4,.z ((((q.length+1):Nat):Int))),(5,.z (((q.length:Nat):Int))),(6,.z (((q.length:Nat):Int))),(7,.z (((q.length:Nat):Int)))]),(11,[(1,.z ((((q.length+1):Nat):Int)))])] 2000 [] [0,1,5,39,40,41] r (by kernel_rfl) (U u0 (U h0 (U h1 (U u1 (U u1 (U u0 (U u2 (U u3 (U ((by omega):(((q.length:Nat):Int):Int)≠0) (U h2 (U u1 (U u0 (U u2 (U ((wi (by omega)):IntKind.i64.wrap ((1:Int)*((q.length:Nat):Int))=((q.length:Nat):Int)) (U ((wi (by omega)):IntKind.i64.wrap ((0:Int)+((q.length:Nat):Int))=((q.length:Nat):Int)) (U u0 trivial)))))))))))))))) fun ac wd r=>?_
    refine aD.rounds (Φ:=fun (i:Nat) ac wd=>(i≤q.length+1)∧cK [] w0 K 75 [(0,.d (.ro 1 (strs (x::q)))),(1,.d (.v (.string ⟨([32]).toArray⟩))),(5,.n (q.length+((x::q).take i).flatten.length)),(39,.d (.ro 1 (strs (x::q)))),(40,.n ((q.length+1))),(41,.n i)] [] ac wd) (q.length+1) ?_ (Nat.zero_le _) ⟨Nat.zero_le _,r⟩
    clear r
    rintro i dv bH ac wd ⟨aq,r⟩
    have CA:=rN (x::q) i
    have sV:x.length≤(x::q).flatten.length:=by simp
    have OL:(cz q).length=q.length+q.flatten.length:=pF q
    have OM:(x::q).flatten.length=x.length+q.flatten.length:=by simp
    cases h3:(decide ((((i:Nat):Int):Int)<(((q.length+1):Nat):Int))) with
    | false=>
     have dB:=of_decide_eq_false h3
     have u4:=((by kernel_rfl):(bif true then l0 Tryz.prog 69 140 else l3 Tryz.prog 69 140 71 2)=true)
     have u5:=((by kernel_rfl):(bif false then l0 Tryz.prog 140 69 else l3 Tryz.prog 140 69 71 2)=true)
     cases h4:(decide ((((q.length+((x::q).take i).flatten.length:Nat):Int):Int)<0)) with
     | false=>
      have eM:=of_decide_eq_false h4
      cases h5:(decide ((0:Int)<((q.length+((x::q).take i).flatten.length:Nat):Int))) with
      | false=>
       have eO:=of_decide_eq_false h5
       exact absurd eO (by omega)
      | true=>
       have eO:=of_decide_eq_true h5
       refine aS (todo':=hd Tryz.f71 1) (E':=[(1,.d (.v (.string ⟨([32]).toArray⟩))),(8,.pt 0 0),(63,.d (.ro 1 (List.drop (1) (strs (x::q))))),(64,.n q.length),(65,.z 0)]) (M':=[.bx 71 [.pt 0 0,.sl 1 (0+(x).length)],.rw 5 1 ([]++ae x)]) tk mo hK [(12,[(0,.b false)]),(19,[(1,.bP 200 [(0,[(1,.bP 200 [(1,[(2,.b true),(3,.b true),(4,.b false)])])]),(1,[(1,.b false)]),(3,[(10,.z (0)),(12,.b true)]),(4,[(2,.mem [0] (.tu []) [.bx 71 [.pt 0 0,.sl 1 (0)],.rw 5 1 ([])])])])]),(20,[(1,.ix (0) [.v (.string ⟨x.toArray⟩)]),(3,.bP 200 [(1,[(1,.bP 200 [])])])]),(21,[(1,.n2 (0) (1)),(2,.z (((q.length:Nat):Int)))])] 2000 [0,1] [1,8,63,64,65] r (by kernel_rfl) (U h3 (U (je:cU Tryz.prog 69) (U u4 (U ((by decide):0<2) (U (wJ:p3 Tryz.prog 95) (U u5 (U ((by decide):0<2) (U h4 (U ((wi (by omega)):IntKind.i64.wrap ((0:Int)-0)=0) (U h5 (U (Jm (q.length+((x::q).take i).flatten.length) (by omega)) (U (rfl:(0)=((0:Nat):Int)) (U (rfl:(strs (x::q))[0]?=some [.v (.string ⟨x.toArray⟩)]) (U (je:cU Tryz.prog 69) (U ((by kernel_rfl):iN Tryz.prog 69=true) (U ((by first | rfl | (simp [ae,strs];done) | (simp [ae,strs];omega)):(0)=([]:List (List DV)).length) (U ((by first | omega | (simp [ae];omega)):(2*((0)+(x).length)+192)*1≤281474976710656) (U ((by first | omega | (simp [ae];omega)):(0)+(x).length<4611686018427387904) (U (rfl:(1:Int)=((1:Nat):Int)) (U ((by first | omega | (simp [ae,ah,ints,steps,strs];done) | (simp [ae,ah,ints,steps,strs];omega)):(1)≤(strs (x::q):List (List DV)).length) (U ((by first | rfl | (simp [strs];done) | (simp [strs];omega)):(((List.drop (1) (strs (x::q))).length:Nat):Int)=((q.length:Nat):Int)) trivial))))))))))))))))))))) fun ac wd r=>?_
       refine aD.rounds (Φ:=fun (i:Nat) ac wd=>(i≤q.length)∧cK [] w0 K 75 [(1,.d (.v (.string ⟨([32]).toArray⟩))),(8,.pt 0 0),(63,.d (.ro 1 (List.drop 1 (strs (x::q))))),(64,.n q.length),(65,.n i)] [.bx 71 [.pt 0 0,.sl 1 ((x++cz (q.take i)).length)],.rw 5 1 (ae (x++cz (q.take i)))] ac wd) (q.length) ?_ (Nat.zero_le _) ⟨Nat.zero_le _,(r).cast rfl (by simp [cz,ae])⟩
       clear r
       rintro i nE fC ac wd ⟨cZ,r⟩
       have ON:=H5 cZ
       have OO:(ae (x++cz (q.take i))).length=x.length+(cz (q.take i)).length:=by simp [ae]
       have OP:=AA q i
       have Od:=AA q (i+1)
       have kv:(x++cz (q.take i)).length=x.length+(cz (q.take i)).length:=by simp
       cases h6:(decide ((((i:Nat):Int):Int)<((q.length:Nat):Int))) with
       | false=>
        have fX:=of_decide_eq_false h6
        rw [show (.v (.string ⟨(x++cz q).toArray⟩):DV)=.v (.string ⟨((x++cz (q.take i))).toArray⟩) from (by rw [List.take_of_length_le (by omega)])]
        exact aH tk mo hK rfl [(22,[(0,.b false)]),(27,[(0,.bP 200 [(1,[(10,.res (.v (.string ⟨((x++cz (q.take i))).toArray⟩)))])])])] 2000 r (by kernel_rfl) (U h6 (U ((by first | rfl | (simp [ae,strs];done) | (simp [ae,strs];omega)):((x++cz (q.take i)).length)=(ae (x++cz (q.take i)):List (List DV)).length) (U ((by first | omega | decide | (simp;done) | (simp;omega)):0<((x++cz (q.take i)).length)) (U ((by simp [ae]):((((x++cz (q.take i)).length:Nat):Int):Int)=(((ae (x++cz (q.take i)):List (List DV)).length:Nat):Int)) (U ((by first | omega | (simp [ae];omega)):0<(ae (x++cz (q.take i)):List (List DV)).length) (U (rfl:ae (x++cz (q.take i))=ae ((x++cz (q.take i)))) (U ((by kernel_rfl):qj Tryz.prog 121 5=true) (U ((by first | omega | decide | (simp;done) | (simp;omega)):(ae (x++cz (q.take i)):List (List DV)).length≤9223372036854775807) trivial))))))))
       | true=>
        have fX:=of_decide_eq_true h6
        obtain ⟨p6,vE⟩:∃ x_,q[i]?=some x_:=⟨_,List.getElem?_eq_getElem (by omega)⟩
        have mB:=zr vE
        have dX:=rN q (i+1)
        exact aS (todo':=hd Tryz.f71 1) (E':=[(1,.d (.v (.string ⟨([32]).toArray⟩))),(8,.pt 0 0),(63,.d (.ro 1 (List.drop 1 (strs (x::q))))),(64,.n q.length),(65,.n (i+1))]) (M':=[.bx 71 [.pt 0 0,.sl 1 ((x++cz (q.take i)).length+([32]:List UInt8).length+(p6).length)],.rw 5 1 (ae (x++cz (q.take i))++ae [32]++ae p6)]) tk mo hK [(22,[(0,.b true)]),(23,[(0,.ix (i) [.v (.string ⟨p6.toArray⟩)])]),(24,[(1,.bP 200 [(1,[(1,.bP 200 [])]),(3,[(1,.z (1))])])]),(25,[(1,.bP 200 [(1,[(1,.bP 200 [])])])]),(26,[(0,.z (((i+1:Nat):Int)))])] 2000 [0,1] [1,8,63,64,65] r (by kernel_rfl) (U h6 (U (aB ((i:Nat):Int)) (U (rM vE) (U (je:cU Tryz.prog 69) (U ((by kernel_rfl):iN Tryz.prog 69=true) (U ((by first | rfl | (simp [ae,strs];done) | (simp [ae,strs];omega)):((x++cz (q.take i)).length)=(ae (x++cz (q.take i)):List (List DV)).length) (U ((by first | omega | (simp [ae];omega)):(2*(((x++cz (q.take i)).length)+([32]:List UInt8).length)+192)*1≤281474976710656) (U ((by first | omega | (simp [ae];omega)):((x++cz (q.take i)).length)+([32]:List UInt8).length<4611686018427387904) (U u1 (U (je:cU Tryz.prog 69) (U ((by kernel_rfl):iN Tryz.prog 69=true) (U ((by first | rfl | (simp [ae,strs];done) | (simp [ae,strs];omega)):((x++cz (q.take i)).length+([32]:List UInt8).length)=(ae (x++cz (q.take i))++ae [32]:List (List DV)).length) (U ((by first | omega | (simp [ae];omega)):(2*(((x++cz (q.take i)).length+([32]:List UInt8).length)+(p6).length)+192)*1≤281474976710656) (U ((by first | omega | (simp [ae];omega)):((x++cz (q.take i)).length+([32]:List UInt8).length)+(p6).length<4611686018427387904) (U ((wi (by omega)):IntKind.i64.wrap ((((i:Nat):Int):Int)+1)=((i+1:Nat):Int)) trivial))))))))))))))) fun ac wd r=>fC (by omega) ac wd ⟨(by omega),r.cast rfl (by rw [E4 vE];simp [ae,Nat.add_assoc];omega)⟩
     | true=>
      have eM:=of_decide_eq_true h4
      exact absurd eM (by omega)
    | true=>
     have dB:=of_decide_eq_true h3
     obtain ⟨tJ,y4⟩:∃ y_,(x::q)[i]?=some y_:=⟨_,List.getElem?_eq_getElem (by simp;omega)⟩
     have mB:=zr y4
     have dX:=rN (x::q) (i+1)
     have u6:=((wi (by omega)):IntKind.i64.wrap ((9223372036854775807:Int)-((q.length+((x::q).take i).flatten.length:Nat):Int))=9223372036854775807-((q.length+((x::q).take i).flatten.length:Nat):Int))
     cases h7:(decide ((9223372036854775807-((q.length+((x::q).take i).flatten.length:Nat):Int):Int)<((tJ.length:Nat):Int))) with
     | false=>
      have dT:=of_decide_eq_false h7
      exact aS (todo':=hd Tryz.f71 0) tk mo hK [(12,[(0,.b true)]),(13,[(0,.ix (i) [.v (.string ⟨tJ.toArray⟩)])]),(14,[(3,.z (9223372036854775807-((q.length+((x::q).take i).flatten.length:Nat):Int))),(4,.b false)]),(16,[(3,.z (((q.length+((x::q).take (i+1)).flatten.length:Nat):Int)))]),(17,[(0,.z (((i+1:Nat):Int)))])] 2000 [] [0,1,5,39,40,41] r (by kernel_rfl) (U h3 (U (aB ((i:Nat):Int)) (U (rM y4) (U u6 (U h7 (U ((wi (by omega)):IntKind.i64.wrap ((((q.length+((x::q).take i).flatten.length:Nat):Int):Int)+((tJ.length:Nat):Int))=((q.length+((x::q).take (i+1)).flatten.length:Nat):Int)) (U ((wi (by omega)):IntKind.i64.wrap ((((i:Nat):Int):Int)+1)=((i+1:Nat):Int)) trivial))))))) fun ac wd r=>bH (by omega) ac wd ⟨(by omega),r⟩
     | true=>
      have dT:=of_decide_eq_true h7
      exact absurd dT (by omega)
   | true=>
    have cQ:=of_decide_eq_true h2
    exact absurd cQ (Gw (by omega) (by omega))
  | true=>
   have bO:=eq_of_beq h1
   exact absurd bO (by omega)
 | true=>
  have bo:=eq_of_beq h0
  exact absurd bo (by omega)
set_option maxRecDepth 100000 in
theorem H6 (x:List UInt8):al Tryz.prog 71 [.d (.ro 1 (strs [x])),.d (.v (.string ⟨([32]).toArray⟩))] (.v (.string ⟨x.toArray⟩)):=by
 refine al.intro (by kernel_rfl) rfl rfl 75 rfl rfl fun w0 K ac hK r=>?_
 rw [show (.v (.string ⟨x.toArray⟩):DV)=.v (.string ⟨x.toArray⟩) from rfl]
 exact aH tk mo hK rfl [(1,[(1,.z (1))]),(5,[(1,.ix (0) [.v (.string ⟨x.toArray⟩)])])] 2000 r (by kernel_rfl) (U ((by simp [strs]):(((strs [x]).length:Nat):Int)=1) (U (rfl:(0)=((0:Nat):Int)) (U (rfl:(strs [x])[0]?=some [.v (.string ⟨x.toArray⟩)]) trivial)))
def bn:List (List UInt8)→List UInt8
 | []=>[]
 | x::r=>x++cz r
theorem vF (x:List UInt8) (r:List (List UInt8)) (hl:r.length≤1000000) (hb:(x::r).flatten.length≤1073741824):al Tryz.prog 71 [.d (.ro 1 (strs (x::r))),.d (.v (.string ⟨[32].toArray⟩))] (.v (.string ⟨(bn (x::r)).toArray⟩)):=by
 cases r with
 | nil=>have h:=H6 x;rw [show bn [x]=x from by simp [bn,cz]];exact h
 | cons y r=>exact Gy x (y::r) (by simp) hl hb
end Go.Proofs.YtcnpikbbmbombaaGreatDoor
namespace Go.Proofs.YtcnpikbbmbombaaGreatDoor
open Go.RowKit
theorem Ed (b j:Nat):(⟨b,0,none⟩:Addr).add j=⟨b,j,none⟩:=by rw [Go.Lib.add_plain];simp
def ko (w:World):Prop:=∀ i,i<20→w.cell? ⟨1,i,none⟩=some (.int .u64 ((10 ^ i:Nat):Int))
theorem ko.alloc {w:World} (h:ko w) (o:Obj):ko (w.alloc o):=fun i hi=>by
 have:=h i hi
 have g:Gr w (w.alloc o):=Gr.alloc w o
 exact g.r7 this
open Go.Lib in
set_option maxHeartbeats 6400000 in
set_option maxRecDepth 100000 in
theorem Jn (u:Nat) (h1:1≤u) (h2:u<18446744073709551616) (w:World) (l8:ko w):Calls Tryz.prog 106 #[.int .u64 u] w fun e w'=>e=.returned (.int .i64 (nDigits u))∧w'=w:=by
 have mixed:(Tryz.prog).follows .mixedOrders=true:=by kernel_rfl
 have t0:=Tryz.underlying0;have a0:=Tryz.isAgg0;have z0:=Tryz.sizeOf0;have v0:=Tryz.zeroValue0;have t3:=Tryz.underlying3;have a3:=Tryz.isAgg3;have z3:=Tryz.sizeOf3;have v3:=Tryz.zeroValue3;have t4:=Tryz.underlying4;have a4:=Tryz.isAgg4;have z4:=Tryz.sizeOf4;have v4:=Tryz.zeroValue4;have t40:=Tryz.underlying40;have a40:=Tryz.isAgg40;have z40:=Tryz.sizeOf40;have v40:=Tryz.zeroValue40;have t158:=Tryz.underlying158;have Oe:=Tryz.isAgg158;have Of:=Tryz.sizeOf158;have Og:=Tryz.zeroValue158
 have eL:∀ args w,(callFunc 116 args).run Tryz.prog w=.ok (.enter 116 args) w:=enters_of Tryz.func116 (by kernel_rfl) rfl
 have eP:∀ args w,(callFunc 115 args).run Tryz.prog w=.ok (.enter 115 args) w:=enters_of Tryz.func115 (by kernel_rfl) rfl
 have e2:∀ args w,(callFunc 117 args).run Tryz.prog w=.ok (.enter 117 args) w:=enters_of Tryz.func117 (by kernel_rfl) rfl
 obtain ⟨fV,NC⟩:=numDigits_eq u h1 h2
 have hL:Go.Lib.bitLen u≤64:=bitLen_le u 64 (Nat.le_refl _) h2
 have jH:w.cell? ⟨1,l10 (Go.Lib.bitLen u),none⟩=some (.int .u64 ((10 ^ l10 (Go.Lib.bitLen u):Nat):Int)):=l8 _ (by omega)
 have ND:((u:Int)).toNat=u:=by omega
 generalize hq:l10 (Go.Lib.bitLen u)=q at fV NC jH
 generalize hT:10 ^ q=T at fV jH
 have OQ:q<20:=by omega
 have NF:=Go.Lib.hid fV
 clear fV l8
 go_enter Tryz.func106,Tryz.ntmps106
 go_wp2_with (first
  | (go_at_fn 116;refine (Tryz.bits_Len64 _ _ (by omega) (by omega)).mono ?_;rintro e w' ⟨rfl,rfl⟩)
  | (go_at_fn 115;refine (Tryz.internal_strconv_log10Pow2 _ (by first | exact hL | (rw [ND];exact hL)) _).mono ?_;rintro e w' ⟨rfl,rfl⟩)
  | (go_at_fn 117;refine (Tryz.internal_strconv_bool2_int _ _).mono ?_;rintro e w' ⟨rfl,rfl⟩))
 all_goals go_ret
 all_goals (
  refine ⟨?_,rfl⟩
  have fV:=NF.out
  congr 2
  split at fV<;>simp_all<;>omega)
open Go.Lib Go.Sort in
set_option maxHeartbeats 6400000 in
set_option maxRecDepth 100000 in
theorem H7 (u:Nat) (kZ:u<18446744073709551616) (w:World) (l8:ko w):
  Calls Tryz.prog 98 #[.int .u64 u,.int .i64 10] w fun e w'=>e=.returned (.string ⟨(decDigits u).toArray⟩)∧∃ k os,w'=grow (w.drewN k) os:=by
 have mixed:(Tryz.prog).follows .mixedOrders=true:=by kernel_rfl
 have t0:=Tryz.underlying0;have a0:=Tryz.isAgg0;have z0:=Tryz.sizeOf0;have v0:=Tryz.zeroValue0;have t3:=Tryz.underlying3;have a3:=Tryz.isAgg3;have z3:=Tryz.sizeOf3;have v3:=Tryz.zeroValue3;have t4:=Tryz.underlying4;have a4:=Tryz.isAgg4;have z4:=Tryz.sizeOf4;have v4:=Tryz.zeroValue4;have t5:=Tryz.underlying5;have a5:=Tryz.isAgg5;have z5:=Tryz.sizeOf5;have v5:=Tryz.zeroValue5;have t9:=Tryz.underlying9;have a9:=Tryz.isAgg9;have z9:=Tryz.sizeOf9;have v9:=Tryz.zeroValue9;have t31:=Tryz.underlying31;have a31:=Tryz.isAgg31;have z31:=Tryz.sizeOf31;have v31:=Tryz.zeroValue31;have t40:=Tryz.underlying40;have a40:=Tryz.isAgg40;have z40:=Tryz.sizeOf40;have v40:=Tryz.zeroValue40;have t149:=Tryz.underlying149;have Oh:=Tryz.isAgg149;have Oi:=Tryz.sizeOf149;have Oj:=Tryz.zeroValue149
 have eS:∀ args w,(callFunc 105 args).run Tryz.prog w=.ok (.enter 105 args) w:=enters_of Tryz.func105 (by kernel_rfl) rfl
 have eN:∀ args w,(callFunc 106 args).run Tryz.prog w=.ok (.enter 106 args) w:=enters_of Tryz.func106 (by kernel_rfl) rfl
 have eB:∀ args w,(callFunc 107 args).run Tryz.prog w=.ok (.enter 107 args) w:=enters_of Tryz.func107 (by kernel_rfl) rfl
 by_cases hs:u<100
 ·go_enter Tryz.func98,Tryz.ntmps98
  go_wp2_with (go_at_fn 105;refine (Tryz.internal_strconv_small u hs _).mono ?_;rintro e w' ⟨rfl,rfl⟩)
  go_ret
  exact ⟨rfl,0,#[],by simp [World.drewN_zero]⟩
 ·have CX:1≤u:=by omega
  have N7:nDigits u≤20:=by have:=numDigits_eq u CX kZ;split at this<;>omega
  have x9:nDigits u≤23:=by omega
  have dA:(Tryz.prog).arrayLen 149=24:=by kernel_rfl
  have Ok:∀ W,(Instr.sliceAt 149 (.pointer (some ⟨w.heap.size,0,none⟩)) none (some (.int .i64 (nDigits u:Int))) none).run Tryz.prog W=.ok (.slice (some ⟨w.heap.size,0,none⟩) (nDigits u) 24) W:=fun W=>by
   rw [run_sliceAt_array_h W 149 ⟨w.heap.size,0,none⟩ (by kernel_rfl) .i64 (nDigits u:Int) (by omega) (by rw [dA];omega)]
   go_simp
  have yo:Go.Sort.Holds (fun (b:UInt8)=>Value.int .u8 (b.toNat:Int)) (w.alloc (.cells zeros24 149)) w.heap.size 0 (Array.replicate (nDigits u) (0:UInt8)):=fun j hj=>by
   have iR:j<nDigits u:=by simpa using hj
   refine ⟨?_,World.frozen?_alloc_new _ _ _ _⟩
   rw [World.cell?_alloc_new,zeros24_at _ (by omega),getElem!_pos _ j hj]
   simp
  have B7:=Tryz.internal_strconv_formatBase10 w.heap.size 0 24 u (Array.replicate (nDigits u) 0) (w.alloc (.cells zeros24 149)) yo (by rw [Array.size_replicate];exact lt_pow_nDigits u) kZ (by rw [Array.size_replicate];omega)
  rw [Array.size_replicate] at B7
  have NG:=Go.Lib.hid yo
  clear yo dA
  go_enter Tryz.func98,Tryz.ntmps98
  go_wp2_with (go_at_fn 106;refine (Jn u CX kZ _ (l8.alloc _)).mono ?_;rintro e w' ⟨rfl,rfl⟩)
  go_at_fn 107
  refine B7.mono ?_
  rintro e w' ⟨rfl,k,v',dk,rfl,hF⟩
  have OR:(convert 31 9 (.slice (some ⟨w.heap.size,0,none⟩) (nDigits u) 24)).run Tryz.prog ((putRow (fun (b:UInt8)=>Value.int .u8 (b.toNat:Int)) (w.alloc (.cells zeros24 149)) w.heap.size 0 dk).drewN k)=.ok (.string ⟨(decDigits u).toArray⟩) ((putRow (fun (b:UInt8)=>Value.int .u8 (b.toNat:Int)) (w.alloc (.cells zeros24 149)) w.heap.size 0 dk).drewN k):=by
   have h:=run_convert_bytes_back (P:=Tryz.prog) ((putRow (fun (b:UInt8)=>Value.int .u8 (b.toNat:Int)) (w.alloc (.cells zeros24 149)) w.heap.size 0 dk).drewN k) 31 9 5 ⟨w.heap.size,0,none⟩ 24 (decDigits u) t31 t5 t9 (fun j hj=>by
    rw [row_is_numeral hF j hj,add_plain,World.cell?_drewN]
    exact cell?_putRow (fun (b:UInt8)=>Value.int .u8 (b.toNat:Int)) _ w.heap.size 0 _ dk NG.out (by rw [hF.size,Array.size_replicate]) j (by rw [hF.size];rw [decDigits_length] at hj;exact hj))
   rw [decDigits_length] at h
   exact h
  go_wp2
  go_ret
  refine ⟨rfl,k,?_⟩
  rw [alloc_eq_grow]
  obtain ⟨NH,-,e⟩:=putRow_grow_new (fun (b:UInt8)=>Value.int .u8 (b.toNat:Int)) w #[.cells zeros24 149] w.heap.size 0 dk (Nat.le_refl _)
  exact ⟨NH,by rw [e];rfl⟩
open Go.Lib Go.Sort in
set_option maxHeartbeats 6400000 in
set_option maxRecDepth 100000 in
theorem Gz (u:Nat) (kZ:u<18446744073709551616) (w:World) (l8:ko w):
  Calls Tryz.prog 73 #[.int .u64 u,.int .i64 10] w fun e w'=>e=.returned (.string ⟨(decDigits u).toArray⟩)∧Below w.heap.size w w':=by
 have mixed:(Tryz.prog).follows .mixedOrders=true:=by kernel_rfl
 have t9:=Tryz.underlying9;have a9:=Tryz.isAgg9;have z9:=Tryz.sizeOf9;have v9:=Tryz.zeroValue9
 have eF:∀ args w,(callFunc 98 args).run Tryz.prog w=.ok (.enter 98 args) w:=enters_of Tryz.func98 (by kernel_rfl) rfl
 go_enter Tryz.func73,Tryz.ntmps73
 go_wp2_with (go_at_fn 98;refine (H7 u kZ _ l8).mono ?_;rintro e w' ⟨rfl,k,os,rfl⟩)
 go_ret
 exact ⟨rfl,rfl,rfl,rfl,by simp [grow],fun k hk=>heap_grow_old _ _ hk⟩
def aV:List DV:=(List.range 20).map fun i=>DV.u (10 ^ i)
theorem ko.of {K:World→Prop} {β:Beta} {u:Nat} {H:ak} (h:bw K β u (.gw 1 aV) H) {w:World} (hw:K w):ko w:=by
 cases h with
 | gw X hl hc hr=>
  intro i hi
  have h1:aV[i]?=some (DV.u (10 ^ i)):=by simp [aV,hi]
  have aM:i<X.length:=by rw [hl];simp [aV];omega
  have h2:=hr i _ X[i] h1 (List.getElem?_eq_getElem aM)
  have h3:=hc w hw i X[i] (List.getElem?_eq_getElem aM)
  rw [Ed] at h3
  have h4:X[i]=.int .u64 ((10 ^ i:Nat):Int):=by
   generalize X[i]=y at h2
   cases h2;rfl
  rw [h3,h4]
theorem qn (u:Nat) (kZ:u<18446744073709551616):aC Tryz.prog 73 [.d (.v (.int .u64 u)),.d (.v (.int .i64 10))] [.gw 1 aV] (.d (.v (.string ⟨(Go.Lib.decDigits u).toArray⟩))) [.gw 1 aV]:=by
 refine ⟨by kernel_rfl,fun {D w0 K0 β F I w} ys R hK hl hr=>?_⟩
 have key:∀ {K:World→Prop} {β:Beta} {a b:Value},aw K β (.d (.v a)) b→b=a:=fun h=>by cases h with | d h=>cases h;rfl
 obtain ⟨y0,y1,rfl⟩:∃ a b,ys=[a,b]:=by
  match ys,hl with
  | [a,b],_=>exact ⟨a,b,rfl⟩
 obtain rfl:=key (hr 0 _ y0 rfl rfl)
 obtain rfl:=key (hr 1 _ y1 rfl rfl)
 have l8:ko w:=ko.of (R.blk 0 _ rfl) ⟨hK w R.st.kp,(Holds.app.1 R.st.holds).2⟩
 refine (Gz u kZ w l8).mono ?_
 rintro e w' ⟨rfl,g⟩
 exact ⟨_,rfl,β,F,I,⟨R.len,R.blk,R.st.gr g⟩,Ext.refl _,bK.refl _,.d (.v _)⟩
theorem Jo (n:Nat) (h:n<100):al Tryz.prog 70 [.d (.v (.int .i64 n))] (.v (.string ⟨(Go.Lib.decDigits n).toArray⟩)):=
 al.pE (by kernel_rfl) (zs:=[.int .i64 n]) fun w=>(Tryz.strconv_Itoa_small n h w).mono fun e w' ⟨he,hw⟩=>⟨he,hw▸Below.refl _ _⟩
end Go.Proofs.YtcnpikbbmbombaaGreatDoor
namespace Go.Proofs.YtcnpikbbmbombaaGreatDoor
open Go.RowKit
def dr (n:Nat):UInt8:=if n<10 then UInt8.ofNat (48+n) else UInt8.ofNat (87+n)
theorem rX {n:Nat} (h:n<16):([48,49,50,51,52,53,54,55,56,57,97,98,99,100,101,102]:List UInt8)[n]?=some (dr n):=by
 have key:∀ k,k<16→([48,49,50,51,52,53,54,55,56,57,97,98,99,100,101,102]:List UInt8)[k]?=some (dr k):=by decide
 exact key n h
def cV (l:List UInt8):List UInt8:=l.flatMap fun b=>[dr (b.toNat / 16),dr (b.toNat%16)]
theorem GA {l:List UInt8} {i:Nat} {b:UInt8} (h:l[i]?=some b):cV (l.take (i+1))=cV (l.take i)++[dr (b.toNat / 16),dr (b.toNat%16)]:=by
 unfold cV;rw [List.take_add_one,h];simp
theorem df (l:List UInt8):(cV l).length=2*l.length:=by
 unfold cV;induction l with
 | nil=>rfl
 | cons b r ih=>rw [List.flatMap_cons,List.length_append,ih];simp;omega
theorem B8 (b:UInt8):((b.toNat:Nat):Int).fdiv (2 ^ (min (4:Int).toNat IntKind.u8.bits))=((b.toNat / 16:Nat):Int):=by
 show ((b.toNat:Nat):Int).fdiv 16=_
 rw [Int.fdiv_eq_ediv_of_nonneg _ (by omega)];omega
theorem BC (b:UInt8):IntKind.u8.wrap ((BitVec.ofInt IntKind.u8.bits ((b.toNat:Nat):Int) &&& BitVec.ofInt IntKind.u8.bits 15).toNat:Int)=((b.toNat%16:Nat):Int):=by
 have hb:=b.toNat_lt
 have h1:(BitVec.ofInt 8 ((b.toNat:Nat):Int) &&& BitVec.ofInt 8 15).toNat=b.toNat%16:=by
  rw [BitVec.toNat_and]
  have e1:(BitVec.ofInt 8 ((b.toNat:Nat):Int)).toNat=b.toNat:=by simp [BitVec.toNat_ofInt]
  have e2:(BitVec.ofInt 8 15).toNat=2 ^ 4-1:=by decide
  rw [e1,e2,Nat.and_two_pow_sub_one_eq_mod]
 show IntKind.u8.wrap ((BitVec.ofInt 8 ((b.toNat:Nat):Int) &&& BitVec.ofInt 8 15).toNat:Int)=_
 rw [h1]
 simp [IntKind.wrap,IntKind.signed,IntKind.bits];omega
def iH (l:List UInt8):List UInt8:=if l=[] then [45] else cV l
set_option maxRecDepth 100000 in
theorem DB (b:UInt8) (l:List UInt8) (hl:l.length≤16777216):al Tryz.prog 74 [.d (.ro 1 (ae (b::l)))] (.v (.string ⟨(cV (b::l)).toArray⟩)):=by
 refine al.intro (by kernel_rfl) rfl rfl 25 rfl rfl fun w0 K ac hK r=>?_
 have u0:=((by first | rfl | (simp [ae];done) | (simp [ae];omega)):(((ae (b::l)).length:Nat):Int)=(((l.length+1):Nat):Int))
 cases h0:(((((l.length+1):Nat):Int):Int)==0) with
 | false=>
  have bo:=ne_of_beq_false h0
  refine aS (todo':=hd Tryz.f74 0) (E':=[(0,.d (.ro 1 (ae (b::l)))),(2,.d (.v (.string .empty))),(6,.d (.ro 1 (ae (b::l)))),(7,.n ((l.length+1))),(8,.d (.v (.bool false))),(3,.pt 0 0),(9,.d (.ro 1 (ae (b::l)))),(10,.n ((l.length+1))),(11,.z 0)]) (M':=[.bx 71 [.d (.v (.pointer none)),.d (.v (.slice none 0 0))]]) tk mo hK [(1,[(1,.z ((((l.length+1):Nat):Int))),(2,.b false)]),(4,[(1,.z ((((l.length+1):Nat):Int)))])] 2000 [0] [0,2,6,7,8,3,9,10,11] r (by kernel_rfl) (U u0 (U h0 (U u0 trivial))) fun ac wd r=>?_
  cases h1:(decide ((0:Int)<(((l.length+1):Nat):Int))) with
  | false=>
   have bO:=of_decide_eq_false h1
   exact absurd bO (by omega)
  | true=>
   have bO:=of_decide_eq_true h1
   refine aS (todo':=hd Tryz.f74 0) (E':=[(3,.pt 0 0),(9,.d (.ro 1 (ae (b::l)))),(10,.n ((l.length+1))),(11,.z 1)]) (M':=[.bx 71 [.pt 0 0,.sl 1 ((1)+(1))],.rw 5 1 ([[.v (.int .u8 ((((dr (b.toNat / 16)).toNat:Nat):Int)))]]++[[.v (.int .u8 ((((dr (b.toNat%16)).toNat:Nat):Int)))]])]) tk mo hK [(5,[(0,.b true)]),(6,[(0,.ix (0) [.v (.int .u8 (((b.toNat:Nat):Int)))])]),(7,[(1,.z (((b.toNat / 16:Nat):Int))),(2,.ix (b.toNat / 16) [.v (.int .u8 ((((dr (b.toNat / 16)).toNat:Nat):Int)))]),(3,.bP 200 [(1,[(1,.bP 200 [(1,[(2,.b true),(3,.b true),(4,.b false)])])])])]),(8,[(1,.z (((b.toNat%16:Nat):Int))),(2,.ix (b.toNat%16) [.v (.int .u8 ((((dr (b.toNat%16)).toNat:Nat):Int)))]),(3,.bP 200 [(1,[(1,.bP 200 [])])])]),(9,[(0,.z (1))])] 2000 [0,2] [3,9,10,11] r (by kernel_rfl) (U h1 (U (rfl:(0)=((0:Nat):Int)) (U (rfl:(ae (b::l))[0]?=some [.v (.int .u8 (((b.toNat:Nat):Int)))]) (U ((B8 _):(((b.toNat:Nat):Int):Int).fdiv (2 ^ (min (4:Int).toNat IntKind.u8.bits))=((b.toNat / 16:Nat):Int)) (U ((by first | decide | omega):(0:Int)≤4) (U (aB ((b.toNat / 16:Nat):Int)) (U (⟨_,rX (by have:=(b).toNat_lt;omega),rfl⟩:∃ u:UInt8,([48,49,50,51,52,53,54,55,56,57,97,98,99,100,101,102]:List UInt8)[b.toNat / 16]?=some u∧(.v (.int .u8 ((((dr (b.toNat / 16)).toNat:Nat):Int))):DV)=.v (.int .u8 (u.toNat:Int))) (U (je:cU Tryz.prog 69) (U ((by kernel_rfl):(bif true then l0 Tryz.prog 69 140 else l3 Tryz.prog 69 140 71 2)=true) (U ((by decide):0<2) (U (wJ:p3 Tryz.prog 95) (U ((by kernel_rfl):(bif false then l0 Tryz.prog 140 69 else l3 Tryz.prog 140 69 71 2)=true) (U ((by decide):0<2) (U ((by first | rfl | (simp [ae,df];done) | (simp [ae,df];omega)):(1)=([[.v (.int .u8 ((((dr (b.toNat / 16)).toNat:Nat):Int)))]]:List (List DV)).length) (U ((by first | omega | (simp [ae,df];omega)):(2*(0+(1))+192)*1≤281474976710656) (U ((by first | omega | (simp [ae,df];omega)):0+(1)<4611686018427387904) (U ((by simp [aA,AV.one,aW,ae,ah,ints,steps,strs]):aA ([[.v (.int .u8 ((((dr (b.toNat / 16)).toNat:Nat):Int)))]])) (U ((BC _):IntKind.u8.wrap ((BitVec.ofInt IntKind.u8.bits (((b.toNat:Nat):Int)) &&& BitVec.ofInt IntKind.u8.bits (15)).toNat:Int)=((b.toNat%16:Nat):Int)) (U (aB ((b.toNat%16:Nat):Int)) (U (⟨_,rX (by have:=(b).toNat_lt;omega),rfl⟩:∃ u:UInt8,([48,49,50,51,52,53,54,55,56,57,97,98,99,100,101,102]:List UInt8)[b.toNat%16]?=some u∧(.v (.int .u8 ((((dr (b.toNat%16)).toNat:Nat):Int))):DV)=.v (.int .u8 (u.toNat:Int))) (U (je:cU Tryz.prog 69) (U ((by kernel_rfl):iN Tryz.prog 69=true) (U ((by first | rfl | (simp [ae,df];done) | (simp [ae,df];omega)):((1))=([[.v (.int .u8 ((((dr (b.toNat / 16)).toNat:Nat):Int)))]]:List (List DV)).length) (U ((by first | rfl | (simp [ae,df];done) | (simp [ae,df];omega)):(1)=([[.v (.int .u8 ((((dr (b.toNat%16)).toNat:Nat):Int)))]]:List (List DV)).length) (U ((by first | omega | (simp [ae,df];omega)):(2*(((1))+(1))+192)*1≤281474976710656) (U ((by first | omega | (simp [ae,df];omega)):((1))+(1)<4611686018427387904) (U ((by simp [aA,AV.one,aW,ae,ah,ints,steps,strs]):aA ([[.v (.int .u8 ((((dr (b.toNat%16)).toNat:Nat):Int)))]])) (U ((wi (by omega)):IntKind.i64.wrap ((0:Int)+1)=1) trivial)))))))))))))))))))))))))))) fun ac wd r=>?_
   refine aD.rounds (Φ:=fun (i:Nat) ac wd=>(i≤l.length)∧cK [] w0 K 25 [(3,.pt 0 0),(9,.d (.ro 1 (ae (b::l)))),(10,.n ((l.length+1))),(11,.n (i+1))] [.bx 71 [.pt 0 0,.sl 1 ((cV ((b::l).take (i+1))).length)],.rw 5 1 (ae (cV ((b::l).take (i+1))))] ac wd) (l.length) ?_ (Nat.zero_le _) ⟨Nat.zero_le _,(r).cast rfl (by simp [cV,ae])⟩
   clear r
   rintro i dv bH ac wd ⟨aq,r⟩
   cases h2:(decide ((((i+1:Nat):Int):Int)<(((l.length+1):Nat):Int))) with
   | false=>
    have cQ:=of_decide_eq_false h2
    rw [show (.v (.string ⟨(cV (b::l)).toArray⟩):DV)=.v (.string ⟨((cV ((b::l).take (i+1)))).toArray⟩) from (by rw [List.take_of_length_le (by simp;omega)])]
    exact aH tk mo hK rfl [(5,[(0,.b false)]),(10,[(0,.bP 200 [(1,[(10,.res (.v (.string ⟨((cV ((b::l).take (i+1)))).toArray⟩)))])])])] 2000 r (by kernel_rfl) (U h2 (U ((by first | rfl | (simp [ae,df];done) | (simp [ae,df];omega)):((cV ((b::l).take (i+1))).length)=(ae (cV ((b::l).take (i+1)))).length) (U ((by first | omega | decide | (simp [ae,df];done) | (simp [ae,df];omega)):0<((cV ((b::l).take (i+1))).length)) (U ((by simp [ae]):((((cV ((b::l).take (i+1))).length:Nat):Int):Int)=(((ae (cV ((b::l).take (i+1)))).length:Nat):Int)) (U ((by first | omega | (simp [ae,df];done) | (simp [ae,df];omega)):0<(ae (cV ((b::l).take (i+1)))).length) (U (rfl:ae (cV ((b::l).take (i+1)))=ae ((cV ((b::l).take (i+1))))) (U ((by kernel_rfl):qj Tryz.prog 121 5=true) (U ((by first | omega | decide | (simp [ae,df];done) | (simp [ae,df];omega)):(ae (cV ((b::l).take (i+1)))).length≤9223372036854775807) trivial))))))))
   | true=>
    have cQ:=of_decide_eq_true h2
    obtain ⟨dR,BD⟩:∃ y_,(b::l)[i+1]?=some y_:=⟨_,List.getElem?_eq_getElem (by simp;omega)⟩
    exact aS (todo':=hd Tryz.f74 0) (E':=[(3,.pt 0 0),(9,.d (.ro 1 (ae (b::l)))),(10,.n ((l.length+1))),(11,.n (i+1+1))]) (M':=[.bx 71 [.pt 0 0,.sl 1 ((cV ((b::l).take (i+1))).length+(1)+(1))],.rw 5 1 (ae (cV ((b::l).take (i+1)))++[[.v (.int .u8 ((((dr (dR.toNat / 16)).toNat:Nat):Int)))]]++[[.v (.int .u8 ((((dr (dR.toNat%16)).toNat:Nat):Int)))]])]) tk mo hK [(5,[(0,.b true)]),(6,[(0,.ix (i+1) [.v (.int .u8 (((dR.toNat:Nat):Int)))])]),(7,[(1,.z (((dR.toNat / 16:Nat):Int))),(2,.ix (dR.toNat / 16) [.v (.int .u8 ((((dr (dR.toNat / 16)).toNat:Nat):Int)))]),(3,.bP 200 [(1,[(1,.bP 200 [])])])]),(8,[(1,.z (((dR.toNat%16:Nat):Int))),(2,.ix (dR.toNat%16) [.v (.int .u8 ((((dr (dR.toNat%16)).toNat:Nat):Int)))]),(3,.bP 200 [(1,[(1,.bP 200 [])])])]),(9,[(0,.z (((i+1+1:Nat):Int)))])] 2000 [0,1] [3,9,10,11] r (by kernel_rfl) (U h2 (U (aB ((i+1:Nat):Int)) (U (iY BD) (U ((B8 _):(((dR.toNat:Nat):Int):Int).fdiv (2 ^ (min (4:Int).toNat IntKind.u8.bits))=((dR.toNat / 16:Nat):Int)) (U ((by first | decide | omega):(0:Int)≤4) (U (aB ((dR.toNat / 16:Nat):Int)) (U (⟨_,rX (by have:=(dR).toNat_lt;omega),rfl⟩:∃ u:UInt8,([48,49,50,51,52,53,54,55,56,57,97,98,99,100,101,102]:List UInt8)[dR.toNat / 16]?=some u∧(.v (.int .u8 ((((dr (dR.toNat / 16)).toNat:Nat):Int))):DV)=.v (.int .u8 (u.toNat:Int))) (U (je:cU Tryz.prog 69) (U ((by kernel_rfl):iN Tryz.prog 69=true) (U ((by first | rfl | (simp [ae,df];done) | (simp [ae,df];omega)):((cV ((b::l).take (i+1))).length)=(ae (cV ((b::l).take (i+1)))).length) (U ((by first | rfl | (simp [ae,df];done) | (simp [ae,df];omega)):(1)=([[.v (.int .u8 ((((dr (dR.toNat / 16)).toNat:Nat):Int)))]]:List (List DV)).length) (U ((by first | omega | (simp [ae,df];omega)):(2*(((cV ((b::l).take (i+1))).length)+(1))+192)*1≤281474976710656) (U ((by first | omega | (simp [ae,df];omega)):((cV ((b::l).take (i+1))).length)+(1)<4611686018427387904) (U ((by simp [aA,AV.one,aW,ae,ah,ints,steps,strs]):aA ([[.v (.int .u8 ((((dr (dR.toNat / 16)).toNat:Nat):Int)))]])) (U ((BC _):IntKind.u8.wrap ((BitVec.ofInt IntKind.u8.bits (((dR.toNat:Nat):Int)) &&& BitVec.ofInt IntKind.u8.bits (15)).toNat:Int)=((dR.toNat%16:Nat):Int)) (U (aB ((dR.toNat%16:Nat):Int)) (U (⟨_,rX (by have:=(dR).toNat_lt;omega),rfl⟩:∃ u:UInt8,([48,49,50,51,52,53,54,55,56,57,97,98,99,100,101,102]:List UInt8)[dR.toNat%16]?=some u∧(.v (.int .u8 ((((dr (dR.toNat%16)).toNat:Nat):Int))):DV)=.v (.int .u8 (u.toNat:Int))) (U (je:cU Tryz.prog 69) (U ((by kernel_rfl):iN Tryz.prog 69=true) (U ((by first | rfl | (simp [ae,df];done) | (simp [ae,df];omega)):((cV ((b::l).take (i+1))).length+(1))=(ae (cV ((b::l).take (i+1)))++[[.v (.int .u8 ((((dr (dR.toNat / 16)).toNat:Nat):Int)))]]:List (List DV)).length) (U ((by first | rfl | (simp [ae,df];done) | (simp [ae,df];omega)):(1)=([[.v (.int .u8 ((((dr (dR.toNat%16)).toNat:Nat):Int)))]]:List (List DV)).length) (U ((by first | omega | (simp [ae,df];omega)):(2*(((cV ((b::l).take (i+1))).length+(1))+(1))+192)*1≤281474976710656) (U ((by first | omega | (simp [ae,df];omega)):((cV ((b::l).take (i+1))).length+(1))+(1)<4611686018427387904) (U ((by simp [aA,AV.one,aW,ae,ah,ints,steps,strs]):aA ([[.v (.int .u8 ((((dr (dR.toNat%16)).toNat:Nat):Int)))]])) (U ((wi (by omega)):IntKind.i64.wrap ((((i+1:Nat):Int):Int)+1)=((i+1+1:Nat):Int)) trivial))))))))))))))))))))))))) fun ac wd r=>bH (by omega) ac wd ⟨(by omega),r.cast rfl (by rw [GA BD];simp [ae])⟩
 | true=>
  have bo:=eq_of_beq h0
  exact absurd bo (by omega)
set_option maxRecDepth 100000 in
theorem DC (a:Option Addr) (n:Nat):al Tryz.prog 74 [.d (.v (.slice a 0 n))] (.v (.string ⟨[45].toArray⟩)):=by
 refine al.intro (by kernel_rfl) rfl rfl 25 rfl rfl fun w0 K ac hK r=>?_
 rw [show (.v (.string ⟨[45].toArray⟩):DV)=.v (.string ⟨([45]).toArray⟩) from rfl]
 exact aH tk mo hK rfl [] 2000 r (by kernel_rfl) trivial
theorem Ee (l:List UInt8) (hl:l.length≤16777216):al Tryz.prog 74 [.d (.ro 1 (ae l))] (.v (.string ⟨(iH l).toArray⟩)):=by
 cases l with
 | nil=>exact al.empty (pre:=[]) (post:=[]) fun a c=>DC a c
 | cons b l=>exact DB b l (by simp at hl;omega)
theorem Ef (l:List (List UInt8)):cN (strs l)=strs l:=by rw [jC];unfold strs;rw [List.map_map];apply List.map_congr_left;intro b _;rfl
def b5 (z:Int):List UInt8:=Go.Lib.decDigits z.toNat
theorem uc (u:Nat) (h:u<18446744073709551616):(Go.Lib.decDigits u).length≤20:=by
 rw [Go.Lib.decDigits_length]
 rcases Nat.eq_zero_or_pos u with rfl | h1
 ·rw [Go.Lib.nDigits_small (by omega)];omega
 ·have:=Go.Lib.numDigits_eq u h1 h;split at this<;>omega
theorem sk {z:Int} (h0:0≤z) (h:z<100):al Tryz.prog 70 [.z z] (.v (.string ⟨(b5 z).toArray⟩)):=by
 obtain ⟨n,rfl⟩:=Int.eq_ofNat_of_zero_le h0
 exact Jo n (by omega)
theorem nX {z:Int} (h:z<100):(b5 z).length≤20:=uc _ (by omega)
def iQ (x:Int×Int):List UInt8:=b5 x.1++[45]++b5 x.2
def b4 (c:bN):List (List UInt8):=[119,111,114,108,100]::([b5 c.au]++c.ah.map iQ++[[58]]++c.homes.map b5)
theorem zX {α:Type} {f:α→List UInt8} {l:List α} {i:Nat} {x:α} (h:l[i]?=some x):(l.take (i+1)).map f=(l.take i).map f++[f x]:=by
 rw [List.take_add_one,h];simp
theorem y5 {l:List (List UInt8)} {n:Nat} (h:∀ x ∈ l,x.length≤n):l.flatten.length≤n*l.length:=by
 induction l with
 | nil=>simp
 | cons x r ih=>
  have h1:=h x (by simp)
  have h2:=ih (fun y hy=>h y (by simp [hy]))
  rw [List.flatten_cons,List.length_append,List.length_cons,Nat.mul_succ];omega
theorem zY {c:bN} (h:bS c=true):(b4 c).flatten.length≤41*(b4 c).length:=by
 have m:=jg h
 have hs:=m.head
 refine y5 fun x hx=>?_
 unfold b4 at hx
 simp only [List.mem_cons,List.mem_append,List.mem_map,List.not_mem_nil,or_false] at hx
 rcases hx with rfl | (((rfl | ⟨y,hy,rfl⟩) | rfl) | ⟨y,hy,rfl⟩)
 ·simp
 ·exact Nat.le_trans (nX (by omega)) (by omega)
 ·obtain ⟨j,hj,rfl⟩:=List.getElem_of_mem hy
  have hl:=m.link j _ (List.getElem?_eq_getElem hj)
  have h1:=nX (z:=(c.ah[j]).1) (by have:=hl.1.2;omega)
  have h2:=nX (z:=(c.ah[j]).2) (by have:=hl.2.1.2;omega)
  unfold iQ;simp only [List.length_append,List.length_cons,List.length_nil];omega
 ·simp
 ·obtain ⟨j,hj,rfl⟩:=List.getElem_of_mem hy
  have hl:=m.home j _ (List.getElem?_eq_getElem hj)
  exact Nat.le_trans (nX (by have:=hl.2;omega)) (by omega)
theorem A7 (c:bN):(b4 c).length=3+c.ah.length+c.homes.length:=by unfold b4;simp;omega
set_option maxRecDepth 100000 in
theorem E5 (c:bN) (hm:bS c=true) (hc:c.ah.length≤100000):al Tryz.prog 40 [.ag [.z c.au,.d (.ro 2 (ah c.ah)),.d (.ro 1 (ints c.homes))]] (.v (.string ⟨(bn (b4 c)).toArray⟩)):=by
 refine al.intro (by kernel_rfl) rfl rfl 49 rfl rfl fun w0 K ac hK r=>?_
 refine aS (todo':=hd Tryz.f40 0) (E':=[(1,.pt 0 0),(3,.sl 1 (2)),(13,.d (.ro 2 (ah c.ah))),(14,.n c.ah.length),(15,.z 0)]) (M':=[.bx 25 [.z c.au,.d (.ro 2 (ah c.ah)),.d (.ro 1 (ints c.homes))],.rw 9 1 ([[.v (.string ⟨([119,111,114,108,100]).toArray⟩)],[.v (.string ⟨(b5 c.au).toArray⟩)]])]) tk mo hK [(1,[(2,.ax (.v (.string ⟨(b5 c.au).toArray⟩)))]),(2,[(2,.z (((c.ah.length:Nat):Int)))])] 2000 [0,1] [1,3,13,14,15] r (by kernel_rfl) (U (sk (z:=c.au) (by first | omega | (have:=(jg hm).head;omega)) (by first | omega | (have:=(jg hm).head;omega))) (U ((by first | rfl | simp [ae,ah,ints,steps,strs]):(((ah c.ah).length:Nat):Int)=((c.ah.length:Nat):Int)) trivial)) fun ac wd r=>?_
 refine aD.rounds (Φ:=fun (i:Nat) ac wd=>(i≤c.ah.length)∧cK [] w0 K 49 [(1,.pt 0 0),(3,.sl 1 ((2+i))),(13,.d (.ro 2 (ah c.ah))),(14,.n c.ah.length),(15,.n i)] [.bx 25 [.z c.au,.d (.ro 2 (ah c.ah)),.d (.ro 1 (ints c.homes))],.rw 9 1 (strs ([[119,111,114,108,100]]++[b5 c.au]++(c.ah.take i).map iQ))] ac wd) (c.ah.length) ?_ (Nat.zero_le _) ⟨Nat.zero_le _,(r).cast rfl (by simp [strs])⟩
 clear r
 rintro i dv bH ac wd ⟨aq,r⟩
 have OS:=(jg hm).head
 cases h0:(decide ((((i:Nat):Int):Int)<((c.ah.length:Nat):Int))) with
 | false=>
  have bo:=of_decide_eq_false h0
  refine aS (todo':=hd Tryz.f40 1) (E':=[(3,.sl 0 ((2+i)+(1))),(35,.d (.ro 1 (ints c.homes))),(36,.n c.homes.length),(37,.z 0)]) (M':=[.rw 9 1 (strs ([[119,111,114,108,100]]++[b5 c.au]++(c.ah.take i).map iQ)++[[.v (.string ⟨([58]).toArray⟩)]])]) tk mo hK [(3,[(0,.b false)]),(8,[(2,.z (((c.homes.length:Nat):Int)))])] 2000 [1] [3,35,36,37] r (by kernel_rfl) (U h0 (U ((by first | rfl | (simp [strs];done) | (simp [strs];omega)):((2+i))=(strs ([[119,111,114,108,100]]++[b5 c.au]++(c.ah.take i).map iQ):List (List DV)).length) (U ((by first | rfl | (simp [strs];done) | (simp [strs];omega)):(1)=([[.v (.string ⟨([58]).toArray⟩)]]:List (List DV)).length) (U ((by first | omega | (simp [strs];done) | (simp [strs];omega)):(2*(((2+i))+(1))+192)*16≤281474976710656) (U ((by first | omega | (simp [strs];done) | (simp [strs];omega)):((2+i))+(1)<4611686018427387904) (U ((by simp [aA,AV.one,aW,strs]):aA ([[.v (.string ⟨([58]).toArray⟩)]])) (U ((by first | rfl | simp [ae,ah,ints,steps,strs]):(((ints c.homes).length:Nat):Int)=((c.homes.length:Nat):Int)) trivial))))))) fun ac wd r=>?_
  refine aD.rounds (Φ:=fun (i:Nat) ac wd=>(i≤c.homes.length)∧cK [] w0 K 49 [(3,.sl 0 ((3+c.ah.length+i))),(35,.d (.ro 1 (ints c.homes))),(36,.n c.homes.length),(37,.n i)] [.rw 9 1 (strs ([[119,111,114,108,100]]++[b5 c.au]++c.ah.map iQ++[[58]]++(c.homes.take i).map b5))] ac wd) (c.homes.length) ?_ (Nat.zero_le _) ⟨Nat.zero_le _,(r).cast (by rw [show 2+i+1=3+c.ah.length+0 from by omega];rfl) (by rw [List.take_of_length_le (by omega)];simp [strs])⟩
  clear r
  rintro i nE fC ac wd ⟨cZ,r⟩
  cases h1:(decide ((((i:Nat):Int):Int)<((c.homes.length:Nat):Int))) with
  | false=>
   have bO:=of_decide_eq_false h1
   rw [show (.v (.string ⟨(bn (b4 c)).toArray⟩):DV)=.v (.string ⟨(bn (b4 c)).toArray⟩) from rfl]
   exact aH tk mo hK rfl [(9,[(0,.b false)]),(13,[(1,.call [.d (.ro 1 (strs (b4 c))),.d (.v (.string ⟨([32]).toArray⟩))] (.v (.string ⟨(bn (b4 c)).toArray⟩)))])] 2000 r (by kernel_rfl) (U h1 (U (vF _ _ (by simp;omega) (by have h1:=zY hm;have h2:=A7 c;unfold b4 at h1 h2;omega):al Tryz.prog 71 [.d (.ro 1 (strs (b4 c))),.d (.v (.string ⟨([32]).toArray⟩))] (.v (.string ⟨(bn (b4 c)).toArray⟩))) (U ((iG _):fS (.v (.string ⟨(bn (b4 c)).toArray⟩))) (U (eY (1)) (U ((by first | rfl | (simp [strs];done) | (simp [strs];omega)):((3+c.ah.length+i))=(strs ([[119,111,114,108,100]]++[b5 c.au]++c.ah.map iQ++[[58]]++(c.homes.take i).map b5):List (List DV)).length) (U ((by rw [List.take_of_length_le (by omega)];exact Ef _):cN (strs ([[119,111,114,108,100]]++[b5 c.au]++c.ah.map iQ++[[58]]++(c.homes.take i).map b5))=strs (b4 c)) (U (mA (.v (.string ⟨([32]).toArray⟩))) trivial)))))))
  | true=>
   have bO:=of_decide_eq_true h1
   obtain ⟨cM,ca⟩:∃ x_,c.homes[i]?=some x_:=⟨_,List.getElem?_eq_getElem (by omega)⟩
   have NI:=(jg hm).home i _ ca
   unfold kt at NI
   exact aS (todo':=hd Tryz.f40 1) (E':=[(3,.sl 0 ((3+c.ah.length+i)+(1))),(35,.d (.ro 1 (ints c.homes))),(36,.n c.homes.length),(37,.n (i+1))]) (M':=[.rw 9 1 (strs ([[119,111,114,108,100]]++[b5 c.au]++c.ah.map iQ++[[58]]++(c.homes.take i).map b5)++[[.v (.string ⟨(b5 cM).toArray⟩)]])]) tk mo hK [(9,[(0,.b true)]),(10,[(0,.ix (i) [.z cM])]),(11,[(2,.ax (.v (.string ⟨(b5 cM).toArray⟩)))]),(12,[(0,.z (((i+1:Nat):Int)))])] 2000 [0] [3,35,36,37] r (by kernel_rfl) (U h1 (U (aB ((i:Nat):Int)) (U (ints_at ca) (U (sk (z:=cM) (by first | omega | (have:=(jg hm).head;omega)) (by first | omega | (have:=(jg hm).head;omega))) (U ((by first | rfl | (simp [strs];done) | (simp [strs];omega)):((3+c.ah.length+i))=(strs ([[119,111,114,108,100]]++[b5 c.au]++c.ah.map iQ++[[58]]++(c.homes.take i).map b5):List (List DV)).length) (U ((by first | rfl | (simp [strs];done) | (simp [strs];omega)):(1)=([[.v (.string ⟨(b5 cM).toArray⟩)]]:List (List DV)).length) (U ((by first | omega | (simp [strs];done) | (simp [strs];omega)):(2*(((3+c.ah.length+i))+(1))+192)*16≤281474976710656) (U ((by first | omega | (simp [strs];done) | (simp [strs];omega)):((3+c.ah.length+i))+(1)<4611686018427387904) (U ((by simp [aA,AV.one,aW,strs]):aA ([[.v (.string ⟨(b5 cM).toArray⟩)]])) (U ((wi (by omega)):IntKind.i64.wrap ((((i:Nat):Int):Int)+1)=((i+1:Nat):Int)) trivial)))))))))) fun ac wd r=>fC (by omega) ac wd ⟨(by omega),r.cast rfl (by rw [zX ca];simp [strs])⟩
 | true=>
  have bo:=of_decide_eq_true h0
  obtain ⟨aJ,bd⟩:∃ x_,c.ah[i]?=some x_:=⟨_,List.getElem?_eq_getElem (by omega)⟩
  have NJ:=(jg hm).link i _ bd
  unfold kt at NJ
  have OT:=nX (z:=aJ.1) (by omega)
  have s4:=nX (z:=aJ.2) (by omega)
  exact aS (todo':=hd Tryz.f40 0) (E':=[(1,.pt 0 0),(3,.sl 1 ((2+i)+(1))),(13,.d (.ro 2 (ah c.ah))),(14,.n c.ah.length),(15,.n (i+1))]) (M':=[.bx 25 [.z c.au,.d (.ro 2 (ah c.ah)),.d (.ro 1 (ints c.homes))],.rw 9 1 (strs ([[119,111,114,108,100]]++[b5 c.au]++(c.ah.take i).map iQ)++[[.v (.string ⟨((b5 aJ.1)++[45]++(b5 aJ.2)).toArray⟩)]])]) tk mo hK [(3,[(0,.b true)]),(4,[(0,.ix (i) [.z aJ.1,.z aJ.2])]),(5,[(1,.n 0),(5,.n 1),(3,.ax (.v (.string ⟨(b5 aJ.1).toArray⟩))),(7,.ax (.v (.string ⟨(b5 aJ.2).toArray⟩)))]),(6,[(0,.z (((i+1:Nat):Int)))])] 2000 [0,1] [1,3,13,14,15] r (by kernel_rfl) (U h0 (U (aB ((i:Nat):Int)) (U (cB bd) (U (rfl:(0)=((0:Nat):Int)) (U ((by omega):(0)<2) (U (rfl:(1)=((1:Nat):Int)) (U ((by omega):(1)<2) (U (sk (z:=aJ.1) (by first | omega | (have:=(jg hm).head;omega)) (by first | omega | (have:=(jg hm).head;omega))) (U ((by first | omega | decide | (simp;done) | (simp;omega)):((b5 aJ.1):List UInt8).length+([45]:List UInt8).length≤9223372036854775807) (U (sk (z:=aJ.2) (by first | omega | (have:=(jg hm).head;omega)) (by first | omega | (have:=(jg hm).head;omega))) (U ((by first | omega | decide | (simp;done) | (simp;omega)):((b5 aJ.1)++[45]:List UInt8).length+((b5 aJ.2):List UInt8).length≤9223372036854775807) (U ((by first | rfl | (simp [strs];done) | (simp [strs];omega)):((2+i))=(strs ([[119,111,114,108,100]]++[b5 c.au]++(c.ah.take i).map iQ):List (List DV)).length) (U ((by first | rfl | (simp [strs];done) | (simp [strs];omega)):(1)=([[.v (.string ⟨((b5 aJ.1)++[45]++(b5 aJ.2)).toArray⟩)]]:List (List DV)).length) (U ((by first | omega | (simp [strs];done) | (simp [strs];omega)):(2*(((2+i))+(1))+192)*16≤281474976710656) (U ((by first | omega | (simp [strs];done) | (simp [strs];omega)):((2+i))+(1)<4611686018427387904) (U ((by simp [aA,AV.one,aW,strs]):aA ([[.v (.string ⟨((b5 aJ.1)++[45]++(b5 aJ.2)).toArray⟩)]])) (U ((wi (by omega)):IntKind.i64.wrap ((((i:Nat):Int):Int)+1)=((i+1:Nat):Int)) trivial))))))))))))))))) fun ac wd r=>bH (by omega) ac wd ⟨(by omega),r.cast rfl (by rw [zX bd];simp [strs,iQ])⟩
end Go.Proofs.YtcnpikbbmbombaaGreatDoor
namespace Go.Proofs.YtcnpikbbmbombaaGreatDoor
open Go.RowKit
theorem nG {a b:List UInt8} (h:a=b) (r:List ai):(ai.rw 91 1 [[.em 5 1 (ae a)]]::r)=ai.rw 91 1 [[.em 5 1 (ae b)]]::r:=by rw [h]
def c9 (l:List (Int×Int)):List UInt8:=l.flatMap fun x=>[bz x.1,bz x.2]
def bL (c:bN):List UInt8:=[bz c.au]++[bz ((c.ah.length:Nat):Int)]++c9 c.ah++[bz ((c.homes.length:Nat):Int)]++c.homes.map bz
def fp (x:jz) (s:aG):List UInt8:=(if x.node then [bz s.node] else [])++(if x.peer then [bz s.peer] else [])++(if x.n then [bz s.n] else [])++(if x.bit then [bz s.bit,bz (s.bit / 256)] else [])++(if x.inc then cE s.inc else [])++(if x.body then bz ((s.body.length:Nat):Int)::s.body else [])
def aX (s:aG):List UInt8:=bz s.kind::fp (af s.kind.toNat) s
theorem p7 {α:Type} {b:Bool} {l:List α} {n:Nat} (h:l.length≤n):(if b=true then l else []).length≤n:=by split;exact h;exact Nat.zero_le _
theorem cC (l:List (Int×Int)):(c9 l).length=2*l.length:=by
 unfold c9;induction l with
 | nil=>rfl
 | cons x r ih=>rw [List.flatMap_cons,List.length_append,ih];simp;omega
theorem zt {l:List (Int×Int)} {i:Nat} {x:Int×Int} (h:l[i]?=some x):c9 (l.take (i+1))=c9 (l.take i)++[bz x.1,bz x.2]:=by
 unfold c9;rw [List.take_add_one,h];simp
theorem y6 {l:List Int} {i:Nat} {x:Int} (h:l[i]?=some x):(l.take (i+1)).map bz=(l.take i).map bz++[bz x]:=by
 rw [List.take_add_one,h];simp
theorem y7:∀ (k x:Nat),x<128 ^ (k+1)→(cE x).length≤k+1
 | 0,x,h=>by rw [q5 (by omega)];simp
 | k+1,x,h=>by
  by_cases hx:x<128
  ·rw [q5 hx];simp
  ·rw [tI hx]
   have:=y7 k (x / 128) (by rw [Nat.div_lt_iff_lt_mul (by decide),← Nat.pow_succ];exact h)
   simp;omega
theorem aF {x:Nat} (h:x<18446744073709551616):(cE x).length≤10:=y7 9 x (Nat.lt_of_lt_of_le h (by decide))
theorem Mm {z:Int} (h:0≤z) (h2:z≤65535):IntKind.u16.wrap z=((z.toNat:Nat):Int):=by
 simp [IntKind.wrap,IntKind.signed,IntKind.bits];omega
set_option maxRecDepth 100000 in
theorem Jp (l:List UInt8) (c:bN) (hl:l.length≤16777216) (hc:c.ah.length≤1048576) (hh:c.homes.length≤1048576):aC Tryz.prog 23 [.ep 0 1 (0) 0,.ag [.z c.au,.d (.ro 2 (ah c.ah)),.d (.ro 1 (ints c.homes))]] [.rw 91 1 ([[.em 5 1 (ae l)]])] (.tu []) (iu (l++bL c)):=by
 refine aC.intro (by kernel_rfl) rfl rfl 55 rfl rfl fun D w0 K bs ac wd hK (ao:bs.m=1) r=>?_
 refine cD (todo':=hd Tryz.f23 0) (E':=[(0,.ep 0 1 (0) 0),(3,.pt 1 0),(20,.d (.ro 2 (ah c.ah))),(21,.n c.ah.length),(22,.z 0)]) (M':=[.rw 91 1 ([[.em 5 1 (ae ((l++[(bz c.au)])++[(bz ((c.ah.length:Nat):Int))]))]]),.bx 25 [.z c.au,.d (.ro 2 (ah c.ah)),.d (.ro 1 (ints c.homes))]]) tk mo hK ao [(1,[(3,.z ((((bz c.au).toNat:Nat):Int))),(4,.mem [0] (.tu []) [.rw 91 1 ([[.em 5 1 (ae (l++[(bz c.au)]))]])])]),(2,[(3,.z (((c.ah.length:Nat):Int))),(4,.z ((((bz ((c.ah.length:Nat):Int)).toNat:Nat):Int))),(5,.mem [0] (.tu []) [.rw 91 1 ([[.em 5 1 (ae ((l++[(bz c.au)])++[(bz ((c.ah.length:Nat):Int))]))]])])]),(3,[(2,.z (((c.ah.length:Nat):Int)))])] 2000 [0,1] [0,3,20,21,22] r (by kernel_rfl) (U ((bI _):IntKind.u8.wrap (c.au)=(((bz c.au).toNat:Nat):Int)) (U (jY l (bz c.au) (by first | omega | (simp [cC,aF];omega))) (U ((by first | rfl | simp [ae,ah,ints,steps,strs]):(((ah c.ah).length:Nat):Int)=((c.ah.length:Nat):Int)) (U ((bI _):IntKind.u8.wrap (((c.ah.length:Nat):Int))=(((bz ((c.ah.length:Nat):Int)).toNat:Nat):Int)) (U (jY (l++[(bz c.au)]) (bz ((c.ah.length:Nat):Int)) (by first | omega | (simp [cC,aF];omega))) (U ((by first | rfl | simp [ae,ah,ints,steps,strs]):(((ah c.ah).length:Nat):Int)=((c.ah.length:Nat):Int)) trivial)))))) fun ac wd r=>?_
 refine aD.rounds (Φ:=fun (i:Nat) ac wd=>(True)∧RB D w0 K 55 bs [(0,.ep 0 1 (0) 0),(3,.pt 1 0),(20,.d (.ro 2 (ah c.ah))),(21,.n c.ah.length),(22,.n i)] [.rw 91 1 ([[.em 5 1 (ae (l++[bz c.au]++[bz ((c.ah.length:Nat):Int)]++c9 (c.ah.take i)))]]),.bx 25 [.z c.au,.d (.ro 2 (ah c.ah)),.d (.ro 1 (ints c.homes))]] ac wd) (c.ah.length) ?_ (Nat.zero_le _) ⟨trivial,(r).cast rfl (nG (by simp [c9]) _)⟩
 clear r
 rintro i dv bH ac wd ⟨aq,r⟩
 cases h0:(decide ((((i:Nat):Int):Int)<((c.ah.length:Nat):Int))) with
 | false=>
  have bo:=of_decide_eq_false h0
  refine cD (todo':=hd Tryz.f23 1) (E':=[(0,.ep 0 1 (0) 0),(3,.pt 1 0),(44,.d (.ro 1 (ints c.homes))),(45,.n c.homes.length),(46,.z 0)]) (M':=[.rw 91 1 ([[.em 5 1 (ae ((l++[bz c.au]++[bz ((c.ah.length:Nat):Int)]++c9 (c.ah.take i))++[(bz ((c.homes.length:Nat):Int))]))]]),.bx 25 [.z c.au,.d (.ro 2 (ah c.ah)),.d (.ro 1 (ints c.homes))]]) tk mo hK ao [(4,[(0,.b false)]),(9,[(3,.z (((c.homes.length:Nat):Int))),(4,.z ((((bz ((c.homes.length:Nat):Int)).toNat:Nat):Int))),(5,.mem [0] (.tu []) [.rw 91 1 ([[.em 5 1 (ae ((l++[bz c.au]++[bz ((c.ah.length:Nat):Int)]++c9 (c.ah.take i))++[(bz ((c.homes.length:Nat):Int))]))]])])]),(10,[(2,.z (((c.homes.length:Nat):Int)))])] 2000 [0,1] [0,3,44,45,46] r (by kernel_rfl) (U h0 (U ((by first | rfl | simp [ae,ah,ints,steps,strs]):(((ints c.homes).length:Nat):Int)=((c.homes.length:Nat):Int)) (U ((bI _):IntKind.u8.wrap (((c.homes.length:Nat):Int))=(((bz ((c.homes.length:Nat):Int)).toNat:Nat):Int)) (U (jY (l++[bz c.au]++[bz ((c.ah.length:Nat):Int)]++c9 (c.ah.take i)) (bz ((c.homes.length:Nat):Int)) (by first | omega | (simp [cC,aF];omega))) (U ((by first | rfl | simp [ae,ah,ints,steps,strs]):(((ints c.homes).length:Nat):Int)=((c.homes.length:Nat):Int)) trivial))))) fun ac wd r=>?_
  refine aD.rounds (Φ:=fun (i:Nat) ac wd=>(True)∧RB D w0 K 55 bs [(0,.ep 0 1 (0) 0),(3,.pt 1 0),(44,.d (.ro 1 (ints c.homes))),(45,.n c.homes.length),(46,.n i)] [.rw 91 1 ([[.em 5 1 (ae (l++[bz c.au]++[bz ((c.ah.length:Nat):Int)]++c9 c.ah++[bz ((c.homes.length:Nat):Int)]++(c.homes.take i).map bz))]]),.bx 25 [.z c.au,.d (.ro 2 (ah c.ah)),.d (.ro 1 (ints c.homes))]] ac wd) (c.homes.length) ?_ (Nat.zero_le _) ⟨trivial,(r).cast rfl (nG (by rw [List.take_of_length_le (by omega)];simp) _)⟩
  clear r
  rintro i nE fC ac wd ⟨cZ,r⟩
  cases h1:(decide ((((i:Nat):Int):Int)<((c.homes.length:Nat):Int))) with
  | false=>
   have bO:=of_decide_eq_false h1
   refine bg (y:=.tu []) (N':=[.rw 91 1 ([[.em 5 1 (ae (l++[bz c.au]++[bz ((c.ah.length:Nat):Int)]++c9 c.ah++[bz ((c.homes.length:Nat):Int)]++(c.homes.take i).map bz))]])]) (rfl) ((nG (by rw [List.take_of_length_le (by omega)];simp [bL]) [])) ?_
   exact bf tk mo hK rfl ao [(11,[(0,.b false)])] 2000 [0] r (by kernel_rfl) (U h1 trivial)
  | true=>
   have bO:=of_decide_eq_true h1
   obtain ⟨cM,ca⟩:∃ x_,c.homes[i]?=some x_:=⟨_,List.getElem?_eq_getElem (by omega)⟩
   exact cD (todo':=hd Tryz.f23 1) (E':=[(0,.ep 0 1 (0) 0),(3,.pt 1 0),(44,.d (.ro 1 (ints c.homes))),(45,.n c.homes.length),(46,.n (i+1))]) (M':=[.rw 91 1 ([[.em 5 1 (ae ((l++[bz c.au]++[bz ((c.ah.length:Nat):Int)]++c9 c.ah++[bz ((c.homes.length:Nat):Int)]++(c.homes.take i).map bz)++[(bz cM)]))]]),.bx 25 [.z c.au,.d (.ro 2 (ah c.ah)),.d (.ro 1 (ints c.homes))]]) tk mo hK ao [(11,[(0,.b true)]),(12,[(0,.ix (i) [.z cM])]),(13,[(2,.z ((((bz cM).toNat:Nat):Int))),(3,.mem [0] (.tu []) [.rw 91 1 ([[.em 5 1 (ae ((l++[bz c.au]++[bz ((c.ah.length:Nat):Int)]++c9 c.ah++[bz ((c.homes.length:Nat):Int)]++(c.homes.take i).map bz)++[(bz cM)]))]])])]),(14,[(0,.z (((i+1:Nat):Int)))])] 2000 [0,1] [0,3,44,45,46] r (by kernel_rfl) (U h1 (U (aB ((i:Nat):Int)) (U (ints_at ca) (U ((bI _):IntKind.u8.wrap (cM)=(((bz cM).toNat:Nat):Int)) (U (jY (l++[bz c.au]++[bz ((c.ah.length:Nat):Int)]++c9 c.ah++[bz ((c.homes.length:Nat):Int)]++(c.homes.take i).map bz) (bz cM) (by first | omega | (simp [cC,aF];omega))) (U ((wi (by omega)):IntKind.i64.wrap ((((i:Nat):Int):Int)+1)=((i+1:Nat):Int)) trivial)))))) fun ac wd r=>fC (by omega) ac wd ⟨trivial,r.cast rfl (nG (by rw [y6 ca];simp) _)⟩
 | true=>
  have bo:=of_decide_eq_true h0
  obtain ⟨aJ,bd⟩:∃ x_,c.ah[i]?=some x_:=⟨_,List.getElem?_eq_getElem (by omega)⟩
  exact cD (todo':=hd Tryz.f23 0) (E':=[(0,.ep 0 1 (0) 0),(3,.pt 1 0),(20,.d (.ro 2 (ah c.ah))),(21,.n c.ah.length),(22,.n (i+1))]) (M':=[.rw 91 1 ([[.em 5 1 (ae (((l++[bz c.au]++[bz ((c.ah.length:Nat):Int)]++c9 (c.ah.take i))++[(bz aJ.1)])++[(bz aJ.2)]))]]),.bx 25 [.z c.au,.d (.ro 2 (ah c.ah)),.d (.ro 1 (ints c.homes))]]) tk mo hK ao [(4,[(0,.b true)]),(5,[(0,.ix (i) [.z aJ.1,.z aJ.2])]),(6,[(1,.n 0),(3,.z ((((bz aJ.1).toNat:Nat):Int))),(4,.mem [0] (.tu []) [.rw 91 1 ([[.em 5 1 (ae ((l++[bz c.au]++[bz ((c.ah.length:Nat):Int)]++c9 (c.ah.take i))++[(bz aJ.1)]))]])])]),(7,[(1,.n 1),(3,.z ((((bz aJ.2).toNat:Nat):Int))),(4,.mem [0] (.tu []) [.rw 91 1 ([[.em 5 1 (ae (((l++[bz c.au]++[bz ((c.ah.length:Nat):Int)]++c9 (c.ah.take i))++[(bz aJ.1)])++[(bz aJ.2)]))]])])]),(8,[(0,.z (((i+1:Nat):Int)))])] 2000 [0,1] [0,3,20,21,22] r (by kernel_rfl) (U h0 (U (aB ((i:Nat):Int)) (U (cB bd) (U (rfl:(0)=((0:Nat):Int)) (U ((by omega):(0)<2) (U ((bI _):IntKind.u8.wrap (aJ.1)=(((bz aJ.1).toNat:Nat):Int)) (U (jY (l++[bz c.au]++[bz ((c.ah.length:Nat):Int)]++c9 (c.ah.take i)) (bz aJ.1) (by first | omega | (simp [cC,aF];omega))) (U (rfl:(1)=((1:Nat):Int)) (U ((by omega):(1)<2) (U ((bI _):IntKind.u8.wrap (aJ.2)=(((bz aJ.2).toNat:Nat):Int)) (U (jY ((l++[bz c.au]++[bz ((c.ah.length:Nat):Int)]++c9 (c.ah.take i))++[(bz aJ.1)]) (bz aJ.2) (by first | omega | (simp [cC,aF];omega))) (U ((wi (by omega)):IntKind.i64.wrap ((((i:Nat):Int):Int)+1)=((i+1:Nat):Int)) trivial)))))))))))) fun ac wd r=>bH (by omega) ac wd ⟨trivial,r.cast rfl (nG (by rw [zt bd];simp) _)⟩
set_option maxRecDepth 100000 in
theorem E6 (l:List UInt8) (s:aG) (hl:l.length≤16777216) (hb:s.body.length≤255) (hi:s.inc<18446744073709551616) (dY:0≤s.bit) (ft:s.bit≤65535) (k0:0≤s.kind) (k1:s.kind<14):aC Tryz.prog 26 [.ep 0 1 (0) 0,.ag [.z s.kind,.z s.node,.z s.peer,.z s.n,.z s.bit,.u s.inc,.d (.ro 1 (ae s.body))]] [.rw 91 1 ([[.em 5 1 (ae l)]]),.gw 0 aj] (.tu []) ([.rw 91 1 [[.em 5 1 (ae (l++aX s))]],.gw 0 aj]):=by
 refine aC.intro (by kernel_rfl) rfl rfl 60 rfl rfl fun D w0 K bs ac wd hK (ao:bs.m=2) r=>?_
 refine bW (todo':=aft Tryz.f26 3) (E':=[(0,.ep 0 1 (0) 0),(3,.pt 2 0),(4,.pt 3 0),(15,.d (.v (.bool ((af s.kind.toNat).node))))]) (M':=[.rw 91 1 ([[.em 5 1 (ae (l++[(bz s.kind)]))]]),.gw 0 aj,.bx 42 [.z s.kind,.z s.node,.z s.peer,.z s.n,.z s.bit,.u s.inc,.d (.ro 1 (ae s.body))],.bx 94 [.d (.v (.string ⟨((af s.kind.toNat).word).toArray⟩)),.d (.v (.bool ((af s.kind.toNat).node))),.d (.v (.bool ((af s.kind.toNat).peer))),.d (.v (.bool ((af s.kind.toNat).n))),.d (.v (.bool ((af s.kind.toNat).bit))),.d (.v (.bool ((af s.kind.toNat).inc))),.d (.v (.bool ((af s.kind.toNat).body)))]]) tk mo hK ao [(1,[(2,.ix (s.kind.toNat) [.v (.string ⟨((af s.kind.toNat).word).toArray⟩),.v (.bool ((af s.kind.toNat).node)),.v (.bool ((af s.kind.toNat).peer)),.v (.bool ((af s.kind.toNat).n)),.v (.bool ((af s.kind.toNat).bit)),.v (.bool ((af s.kind.toNat).inc)),.v (.bool ((af s.kind.toNat).body))])]),(2,[(3,.z ((((bz s.kind).toNat:Nat):Int))),(4,.mem [0] (.tu []) [.rw 91 1 ([[.em 5 1 (ae (l++[(bz s.kind)]))]])])])] 9 [0,1,2,3] [0,3,4,15] r (by kernel_rfl) (U ((by omega):(s.kind)=((s.kind.toNat:Nat):Int)) (U ((by omega):(s.kind.toNat)<14) (U (mH (by omega):List.take 7 (List.drop ((s.kind.toNat)*7) (aj:List DV))=([.v (.string ⟨((af s.kind.toNat).word).toArray⟩),.v (.bool ((af s.kind.toNat).node)),.v (.bool ((af s.kind.toNat).peer)),.v (.bool ((af s.kind.toNat).n)),.v (.bool ((af s.kind.toNat).bit)),.v (.bool ((af s.kind.toNat).inc)),.v (.bool ((af s.kind.toNat).body))]:List DV)) (U ((bI _):IntKind.u8.wrap (s.kind)=(((bz s.kind).toNat:Nat):Int)) (U (jY l (bz s.kind) (by first | omega | (simp [cC,aF];omega))) trivial))))) fun ac wd r=>?_
 suffices J5:∀ ac wd,RB D w0 K 60 bs [(0,.ep 0 1 (0) 0),(3,.pt 2 0),(4,.pt 3 0),(22,.d (.v (.bool ((af s.kind.toNat).peer))))] [.rw 91 1 ([[.em 5 1 (ae (l++[bz s.kind]++(if (af s.kind.toNat).node=true then [bz s.node] else [])))]]),.gw 0 aj,.bx 42 [.z s.kind,.z s.node,.z s.peer,.z s.n,.z s.bit,.u s.inc,.d (.ro 1 (ae s.body))],.bx 94 [.d (.v (.string ⟨((af s.kind.toNat).word).toArray⟩)),.d (.v (.bool ((af s.kind.toNat).node))),.d (.v (.bool ((af s.kind.toNat).peer))),.d (.v (.bool ((af s.kind.toNat).n))),.d (.v (.bool ((af s.kind.toNat).bit))),.d (.v (.bool ((af s.kind.toNat).inc))),.d (.v (.bool ((af s.kind.toNat).body)))]] ac wd→aD Tryz.prog 26 (aft Tryz.f26 5) (eH D w0 K bs (.tu []) ([.rw 91 1 [[.em 5 1 (ae (l++aX s))]],.gw 0 aj])) ac wd by
  cases h0:((af s.kind.toNat).node) with
  | false=>
   have r:=r.cast (E':=[(0,.ep 0 1 (0) 0),(3,.pt 2 0),(4,.pt 3 0),(15,.d (.v (.bool false)))]) (M':=[.rw 91 1 ([[.em 5 1 (ae (l++[(bz s.kind)]))]]),.gw 0 aj,.bx 42 [.z s.kind,.z s.node,.z s.peer,.z s.n,.z s.bit,.u s.inc,.d (.ro 1 (ae s.body))],.bx 94 [.d (.v (.string ⟨((af s.kind.toNat).word).toArray⟩)),.d (.v (.bool false)),.d (.v (.bool ((af s.kind.toNat).peer))),.d (.v (.bool ((af s.kind.toNat).n))),.d (.v (.bool ((af s.kind.toNat).bit))),.d (.v (.bool ((af s.kind.toNat).inc))),.d (.v (.bool ((af s.kind.toNat).body)))]]) (by rw [h0]) (by rw [h0])
   refine bW (todo':=aft Tryz.f26 5) (E':=[(0,.ep 0 1 (0) 0),(3,.pt 2 0),(4,.pt 3 0),(22,.d (.v (.bool ((af s.kind.toNat).peer))))]) (M':=[.rw 91 1 ([[.em 5 1 (ae (l++[(bz s.kind)]))]]),.gw 0 aj,.bx 42 [.z s.kind,.z s.node,.z s.peer,.z s.n,.z s.bit,.u s.inc,.d (.ro 1 (ae s.body))],.bx 94 [.d (.v (.string ⟨((af s.kind.toNat).word).toArray⟩)),.d (.v (.bool false)),.d (.v (.bool ((af s.kind.toNat).peer))),.d (.v (.bool ((af s.kind.toNat).n))),.d (.v (.bool ((af s.kind.toNat).bit))),.d (.v (.bool ((af s.kind.toNat).inc))),.d (.v (.bool ((af s.kind.toNat).body)))]]) tk mo hK ao [] 5 [0,1,2,3] [0,3,4,22] r (by kernel_rfl) trivial fun ac wd r=>?_
   exact J5 ac wd (r.cast rfl (by rw [if_neg (ne_true_of_eq_false h0),h0]<;>simp [Int.max_eq_left dY]))
  | true=>
   have r:=r.cast (E':=[(0,.ep 0 1 (0) 0),(3,.pt 2 0),(4,.pt 3 0),(15,.d (.v (.bool true)))]) (M':=[.rw 91 1 ([[.em 5 1 (ae (l++[(bz s.kind)]))]]),.gw 0 aj,.bx 42 [.z s.kind,.z s.node,.z s.peer,.z s.n,.z s.bit,.u s.inc,.d (.ro 1 (ae s.body))],.bx 94 [.d (.v (.string ⟨((af s.kind.toNat).word).toArray⟩)),.d (.v (.bool true)),.d (.v (.bool ((af s.kind.toNat).peer))),.d (.v (.bool ((af s.kind.toNat).n))),.d (.v (.bool ((af s.kind.toNat).bit))),.d (.v (.bool ((af s.kind.toNat).inc))),.d (.v (.bool ((af s.kind.toNat).body)))]]) (by rw [h0]) (by rw [h0])
   refine bW (todo':=aft Tryz.f26 5) (E':=[(0,.ep 0 1 (0) 0),(3,.pt 2 0),(4,.pt 3 0),(22,.d (.v (.bool ((af s.kind.toNat).peer))))]) (M':=[.rw 91 1 ([[.em 5 1 (ae ((l++[(bz s.kind)])++[(bz s.node)]))]]),.gw 0 aj,.bx 42 [.z s.kind,.z s.node,.z s.peer,.z s.n,.z s.bit,.u s.inc,.d (.ro 1 (ae s.body))],.bx 94 [.d (.v (.string ⟨((af s.kind.toNat).word).toArray⟩)),.d (.v (.bool true)),.d (.v (.bool ((af s.kind.toNat).peer))),.d (.v (.bool ((af s.kind.toNat).n))),.d (.v (.bool ((af s.kind.toNat).bit))),.d (.v (.bool ((af s.kind.toNat).inc))),.d (.v (.bool ((af s.kind.toNat).body)))]]) tk mo hK ao [(4,[(3,.z ((((bz s.node).toNat:Nat):Int))),(4,.mem [0] (.tu []) [.rw 91 1 ([[.em 5 1 (ae ((l++[(bz s.kind)])++[(bz s.node)]))]])])])] 5 [0,1,2,3] [0,3,4,22] r (by kernel_rfl) (U ((bI _):IntKind.u8.wrap (s.node)=(((bz s.node).toNat:Nat):Int)) (U (jY (l++[(bz s.kind)]) (bz s.node) (by first | omega | (simp [cC,aF];omega))) trivial)) fun ac wd r=>?_
   exact J5 ac wd (r.cast rfl (by rw [if_pos h0,h0]<;>simp [Int.max_eq_left dY]))
 intro ac wd r
 have NK:=p7 (b:=(af s.kind.toNat).node) (l:=[bz s.node]) (n:=2) (by first | (simp;done) | exact aF hi)
 suffices J7:∀ ac wd,RB D w0 K 60 bs [(0,.ep 0 1 (0) 0),(3,.pt 2 0),(4,.pt 3 0),(29,.d (.v (.bool ((af s.kind.toNat).n))))] [.rw 91 1 ([[.em 5 1 (ae (l++[bz s.kind]++(if (af s.kind.toNat).node=true then [bz s.node] else [])++(if (af s.kind.toNat).peer=true then [bz s.peer] else [])))]]),.gw 0 aj,.bx 42 [.z s.kind,.z s.node,.z s.peer,.z s.n,.z s.bit,.u s.inc,.d (.ro 1 (ae s.body))],.bx 94 [.d (.v (.string ⟨((af s.kind.toNat).word).toArray⟩)),.d (.v (.bool ((af s.kind.toNat).node))),.d (.v (.bool ((af s.kind.toNat).peer))),.d (.v (.bool ((af s.kind.toNat).n))),.d (.v (.bool ((af s.kind.toNat).bit))),.d (.v (.bool ((af s.kind.toNat).inc))),.d (.v (.bool ((af s.kind.toNat).body)))]] ac wd→aD Tryz.prog 26 (aft Tryz.f26 7) (eH D w0 K bs (.tu []) ([.rw 91 1 [[.em 5 1 (ae (l++aX s))]],.gw 0 aj])) ac wd by
  cases h1:((af s.kind.toNat).peer) with
  | false=>
   have r:=r.cast (E':=[(0,.ep 0 1 (0) 0),(3,.pt 2 0),(4,.pt 3 0),(22,.d (.v (.bool false)))]) (M':=[.rw 91 1 ([[.em 5 1 (ae (l++[bz s.kind]++(if (af s.kind.toNat).node=true then [bz s.node] else [])))]]),.gw 0 aj,.bx 42 [.z s.kind,.z s.node,.z s.peer,.z s.n,.z s.bit,.u s.inc,.d (.ro 1 (ae s.body))],.bx 94 [.d (.v (.string ⟨((af s.kind.toNat).word).toArray⟩)),.d (.v (.bool ((af s.kind.toNat).node))),.d (.v (.bool false)),.d (.v (.bool ((af s.kind.toNat).n))),.d (.v (.bool ((af s.kind.toNat).bit))),.d (.v (.bool ((af s.kind.toNat).inc))),.d (.v (.bool ((af s.kind.toNat).body)))]]) (by rw [h1]) (by rw [h1])
   refine bW (todo':=aft Tryz.f26 7) (E':=[(0,.ep 0 1 (0) 0),(3,.pt 2 0),(4,.pt 3 0),(29,.d (.v (.bool ((af s.kind.toNat).n))))]) (M':=[.rw 91 1 ([[.em 5 1 (ae (l++[bz s.kind]++(if (af s.kind.toNat).node=true then [bz s.node] else [])))]]),.gw 0 aj,.bx 42 [.z s.kind,.z s.node,.z s.peer,.z s.n,.z s.bit,.u s.inc,.d (.ro 1 (ae s.body))],.bx 94 [.d (.v (.string ⟨((af s.kind.toNat).word).toArray⟩)),.d (.v (.bool ((af s.kind.toNat).node))),.d (.v (.bool false)),.d (.v (.bool ((af s.kind.toNat).n))),.d (.v (.bool ((af s.kind.toNat).bit))),.d (.v (.bool ((af s.kind.toNat).inc))),.d (.v (.bool ((af s.kind.toNat).body)))]]) tk mo hK ao [] 5 [0,1,2,3] [0,3,4,29] r (by kernel_rfl) trivial fun ac wd r=>?_
   exact J7 ac wd (r.cast rfl (by rw [if_neg (ne_true_of_eq_false h1),h1]<;>simp [Int.max_eq_left dY]))
  | true=>
   have r:=r.cast (E':=[(0,.ep 0 1 (0) 0),(3,.pt 2 0),(4,.pt 3 0),(22,.d (.v (.bool true)))]) (M':=[.rw 91 1 ([[.em 5 1 (ae (l++[bz s.kind]++(if (af s.kind.toNat).node=true then [bz s.node] else [])))]]),.gw 0 aj,.bx 42 [.z s.kind,.z s.node,.z s.peer,.z s.n,.z s.bit,.u s.inc,.d (.ro 1 (ae s.body))],.bx 94 [.d (.v (.string ⟨((af s.kind.toNat).word).toArray⟩)),.d (.v (.bool ((af s.kind.toNat).node))),.d (.v (.bool true)),.d (.v (.bool ((af s.kind.toNat).n))),.d (.v (.bool ((af s.kind.toNat).bit))),.d (.v (.bool ((af s.kind.toNat).inc))),.d (.v (.bool ((af s.kind.toNat).body)))]]) (by rw [h1]) (by rw [h1])
   refine bW (todo':=aft Tryz.f26 7) (E':=[(0,.ep 0 1 (0) 0),(3,.pt 2 0),(4,.pt 3 0),(29,.d (.v (.bool ((af s.kind.toNat).n))))]) (M':=[.rw 91 1 ([[.em 5 1 (ae ((l++[bz s.kind]++(if (af s.kind.toNat).node=true then [bz s.node] else []))++[(bz s.peer)]))]]),.gw 0 aj,.bx 42 [.z s.kind,.z s.node,.z s.peer,.z s.n,.z s.bit,.u s.inc,.d (.ro 1 (ae s.body))],.bx 94 [.d (.v (.string ⟨((af s.kind.toNat).word).toArray⟩)),.d (.v (.bool ((af s.kind.toNat).node))),.d (.v (.bool true)),.d (.v (.bool ((af s.kind.toNat).n))),.d (.v (.bool ((af s.kind.toNat).bit))),.d (.v (.bool ((af s.kind.toNat).inc))),.d (.v (.bool ((af s.kind.toNat).body)))]]) tk mo hK ao [(6,[(3,.z ((((bz s.peer).toNat:Nat):Int))),(4,.mem [0] (.tu []) [.rw 91 1 ([[.em 5 1 (ae ((l++[bz s.kind]++(if (af s.kind.toNat).node=true then [bz s.node] else []))++[(bz s.peer)]))]])])])] 5 [0,1,2,3] [0,3,4,29] r (by kernel_rfl) (U ((bI _):IntKind.u8.wrap (s.peer)=(((bz s.peer).toNat:Nat):Int)) (U (jY (l++[bz s.kind]++(if (af s.kind.toNat).node=true then [bz s.node] else [])) (bz s.peer) (by first | omega | (simp [cC,aF];omega))) trivial)) fun ac wd r=>?_
   exact J7 ac wd (r.cast rfl (by rw [if_pos h1,h1]<;>simp [Int.max_eq_left dY]))
 intro ac wd r
 have yi:=p7 (b:=(af s.kind.toNat).peer) (l:=[bz s.peer]) (n:=2) (by first | (simp;done) | exact aF hi)
 suffices J9:∀ ac wd,RB D w0 K 60 bs [(0,.ep 0 1 (0) 0),(3,.pt 2 0),(4,.pt 3 0),(36,.d (.v (.bool ((af s.kind.toNat).bit))))] [.rw 91 1 ([[.em 5 1 (ae (l++[bz s.kind]++(if (af s.kind.toNat).node=true then [bz s.node] else [])++(if (af s.kind.toNat).peer=true then [bz s.peer] else [])++(if (af s.kind.toNat).n=true then [bz s.n] else [])))]]),.gw 0 aj,.bx 42 [.z s.kind,.z s.node,.z s.peer,.z s.n,.z s.bit,.u s.inc,.d (.ro 1 (ae s.body))],.bx 94 [.d (.v (.string ⟨((af s.kind.toNat).word).toArray⟩)),.d (.v (.bool ((af s.kind.toNat).node))),.d (.v (.bool ((af s.kind.toNat).peer))),.d (.v (.bool ((af s.kind.toNat).n))),.d (.v (.bool ((af s.kind.toNat).bit))),.d (.v (.bool ((af s.kind.toNat).inc))),.d (.v (.bool ((af s.kind.toNat).body)))]] ac wd→aD Tryz.prog 26 (aft Tryz.f26 9) (eH D w0 K bs (.tu []) ([.rw 91 1 [[.em 5 1 (ae (l++aX s))]],.gw 0 aj])) ac wd by
  cases h2:((af s.kind.toNat).n) with
  | false=>
   have r:=r.cast (E':=[(0,.ep 0 1 (0) 0),(3,.pt 2 0),(4,.pt 3 0),(29,.d (.v (.bool false)))]) (M':=[.rw 91 1 ([[.em 5 1 (ae (l++[bz s.kind]++(if (af s.kind.toNat).node=true then [bz s.node] else [])++(if (af s.kind.toNat).peer=true then [bz s.peer] else [])))]]),.gw 0 aj,.bx 42 [.z s.kind,.z s.node,.z s.peer,.z s.n,.z s.bit,.u s.inc,.d (.ro 1 (ae s.body))],.bx 94 [.d (.v (.string ⟨((af s.kind.toNat).word).toArray⟩)),.d (.v (.bool ((af s.kind.toNat).node))),.d (.v (.bool ((af s.kind.toNat).peer))),.d (.v (.bool false)),.d (.v (.bool ((af s.kind.toNat).bit))),.d (.v (.bool ((af s.kind.toNat).inc))),.d (.v (.bool ((af s.kind.toNat).body)))]]) (by rw [h2]) (by rw [h2])
   refine bW (todo':=aft Tryz.f26 9) (E':=[(0,.ep 0 1 (0) 0),(3,.pt 2 0),(4,.pt 3 0),(36,.d (.v (.bool ((af s.kind.toNat).bit))))]) (M':=[.rw 91 1 ([[.em 5 1 (ae (l++[bz s.kind]++(if (af s.kind.toNat).node=true then [bz s.node] else [])++(if (af s.kind.toNat).peer=true then [bz s.peer] else [])))]]),.gw 0 aj,.bx 42 [.z s.kind,.z s.node,.z s.peer,.z s.n,.z s.bit,.u s.inc,.d (.ro 1 (ae s.body))],.bx 94 [.d (.v (.string ⟨((af s.kind.toNat).word).toArray⟩)),.d (.v (.bool ((af s.kind.toNat).node))),.d (.v (.bool ((af s.kind.toNat).peer))),.d (.v (.bool false)),.d (.v (.bool ((af s.kind.toNat).bit))),.d (.v (.bool ((af s.kind.toNat).inc))),.d (.v (.bool ((af s.kind.toNat).body)))]]) tk mo hK ao [] 5 [0,1,2,3] [0,3,4,36] r (by kernel_rfl) trivial fun ac wd r=>?_
   exact J9 ac wd (r.cast rfl (by rw [if_neg (ne_true_of_eq_false h2),h2]<;>simp [Int.max_eq_left dY]))
  | true=>
   have r:=r.cast (E':=[(0,.ep 0 1 (0) 0),(3,.pt 2 0),(4,.pt 3 0),(29,.d (.v (.bool true)))]) (M':=[.rw 91 1 ([[.em 5 1 (ae (l++[bz s.kind]++(if (af s.kind.toNat).node=true then [bz s.node] else [])++(if (af s.kind.toNat).peer=true then [bz s.peer] else [])))]]),.gw 0 aj,.bx 42 [.z s.kind,.z s.node,.z s.peer,.z s.n,.z s.bit,.u s.inc,.d (.ro 1 (ae s.body))],.bx 94 [.d (.v (.string ⟨((af s.kind.toNat).word).toArray⟩)),.d (.v (.bool ((af s.kind.toNat).node))),.d (.v (.bool ((af s.kind.toNat).peer))),.d (.v (.bool true)),.d (.v (.bool ((af s.kind.toNat).bit))),.d (.v (.bool ((af s.kind.toNat).inc))),.d (.v (.bool ((af s.kind.toNat).body)))]]) (by rw [h2]) (by rw [h2])
   refine bW (todo':=aft Tryz.f26 9) (E':=[(0,.ep 0 1 (0) 0),(3,.pt 2 0),(4,.pt 3 0),(36,.d (.v (.bool ((af s.kind.toNat).bit))))]) (M':=[.rw 91 1 ([[.em 5 1 (ae ((l++[bz s.kind]++(if (af s.kind.toNat).node=true then [bz s.node] else [])++(if (af s.kind.toNat).peer=true then [bz s.peer] else []))++[(bz s.n)]))]]),.gw 0 aj,.bx 42 [.z s.kind,.z s.node,.z s.peer,.z s.n,.z s.bit,.u s.inc,.d (.ro 1 (ae s.body))],.bx 94 [.d (.v (.string ⟨((af s.kind.toNat).word).toArray⟩)),.d (.v (.bool ((af s.kind.toNat).node))),.d (.v (.bool ((af s.kind.toNat).peer))),.d (.v (.bool true)),.d (.v (.bool ((af s.kind.toNat).bit))),.d (.v (.bool ((af s.kind.toNat).inc))),.d (.v (.bool ((af s.kind.toNat).body)))]]) tk mo hK ao [(8,[(3,.z ((((bz s.n).toNat:Nat):Int))),(4,.mem [0] (.tu []) [.rw 91 1 ([[.em 5 1 (ae ((l++[bz s.kind]++(if (af s.kind.toNat).node=true then [bz s.node] else [])++(if (af s.kind.toNat).peer=true then [bz s.peer] else []))++[(bz s.n)]))]])])])] 5 [0,1,2,3] [0,3,4,36] r (by kernel_rfl) (U ((bI _):IntKind.u8.wrap (s.n)=(((bz s.n).toNat:Nat):Int)) (U (jY (l++[bz s.kind]++(if (af s.kind.toNat).node=true then [bz s.node] else [])++(if (af s.kind.toNat).peer=true then [bz s.peer] else [])) (bz s.n) (by first | omega | (simp [cC,aF];omega))) trivial)) fun ac wd r=>?_
   exact J9 ac wd (r.cast rfl (by rw [if_pos h2,h2]<;>simp [Int.max_eq_left dY]))
 intro ac wd r
 have NL:=p7 (b:=(af s.kind.toNat).n) (l:=[bz s.n]) (n:=2) (by first | (simp;done) | exact aF hi)
 suffices qM:∀ ac wd,RB D w0 K 60 bs [(0,.ep 0 1 (0) 0),(3,.pt 2 0),(4,.pt 3 0),(43,.d (.v (.bool ((af s.kind.toNat).inc))))] [.rw 91 1 ([[.em 5 1 (ae (l++[bz s.kind]++(if (af s.kind.toNat).node=true then [bz s.node] else [])++(if (af s.kind.toNat).peer=true then [bz s.peer] else [])++(if (af s.kind.toNat).n=true then [bz s.n] else [])++(if (af s.kind.toNat).bit=true then [bz s.bit,bz (s.bit / 256)] else [])))]]),.gw 0 aj,.bx 42 [.z s.kind,.z s.node,.z s.peer,.z s.n,.z s.bit,.u s.inc,.d (.ro 1 (ae s.body))],.bx 94 [.d (.v (.string ⟨((af s.kind.toNat).word).toArray⟩)),.d (.v (.bool ((af s.kind.toNat).node))),.d (.v (.bool ((af s.kind.toNat).peer))),.d (.v (.bool ((af s.kind.toNat).n))),.d (.v (.bool ((af s.kind.toNat).bit))),.d (.v (.bool ((af s.kind.toNat).inc))),.d (.v (.bool ((af s.kind.toNat).body)))]] ac wd→aD Tryz.prog 26 (aft Tryz.f26 11) (eH D w0 K bs (.tu []) ([.rw 91 1 [[.em 5 1 (ae (l++aX s))]],.gw 0 aj])) ac wd by
  cases h3:((af s.kind.toNat).bit) with
  | false=>
   have r:=r.cast (E':=[(0,.ep 0 1 (0) 0),(3,.pt 2 0),(4,.pt 3 0),(36,.d (.v (.bool false)))]) (M':=[.rw 91 1 ([[.em 5 1 (ae (l++[bz s.kind]++(if (af s.kind.toNat).node=true then [bz s.node] else [])++(if (af s.kind.toNat).peer=true then [bz s.peer] else [])++(if (af s.kind.toNat).n=true then [bz s.n] else [])))]]),.gw 0 aj,.bx 42 [.z s.kind,.z s.node,.z s.peer,.z s.n,.z s.bit,.u s.inc,.d (.ro 1 (ae s.body))],.bx 94 [.d (.v (.string ⟨((af s.kind.toNat).word).toArray⟩)),.d (.v (.bool ((af s.kind.toNat).node))),.d (.v (.bool ((af s.kind.toNat).peer))),.d (.v (.bool ((af s.kind.toNat).n))),.d (.v (.bool false)),.d (.v (.bool ((af s.kind.toNat).inc))),.d (.v (.bool ((af s.kind.toNat).body)))]]) (by rw [h3]) (by rw [h3])
   refine bW (todo':=aft Tryz.f26 11) (E':=[(0,.ep 0 1 (0) 0),(3,.pt 2 0),(4,.pt 3 0),(43,.d (.v (.bool ((af s.kind.toNat).inc))))]) (M':=[.rw 91 1 ([[.em 5 1 (ae (l++[bz s.kind]++(if (af s.kind.toNat).node=true then [bz s.node] else [])++(if (af s.kind.toNat).peer=true then [bz s.peer] else [])++(if (af s.kind.toNat).n=true then [bz s.n] else [])))]]),.gw 0 aj,.bx 42 [.z s.kind,.z s.node,.z s.peer,.z s.n,.z s.bit,.u s.inc,.d (.ro 1 (ae s.body))],.bx 94 [.d (.v (.string ⟨((af s.kind.toNat).word).toArray⟩)),.d (.v (.bool ((af s.kind.toNat).node))),.d (.v (.bool ((af s.kind.toNat).peer))),.d (.v (.bool ((af s.kind.toNat).n))),.d (.v (.bool false)),.d (.v (.bool ((af s.kind.toNat).inc))),.d (.v (.bool ((af s.kind.toNat).body)))]]) tk mo hK ao [] 5 [0,1,2,3] [0,3,4,43] r (by kernel_rfl) trivial fun ac wd r=>?_
   exact qM ac wd (r.cast rfl (by rw [if_neg (ne_true_of_eq_false h3),h3]<;>simp [Int.max_eq_left dY]))
  | true=>
   have r:=r.cast (E':=[(0,.ep 0 1 (0) 0),(3,.pt 2 0),(4,.pt 3 0),(36,.d (.v (.bool true)))]) (M':=[.rw 91 1 ([[.em 5 1 (ae (l++[bz s.kind]++(if (af s.kind.toNat).node=true then [bz s.node] else [])++(if (af s.kind.toNat).peer=true then [bz s.peer] else [])++(if (af s.kind.toNat).n=true then [bz s.n] else [])))]]),.gw 0 aj,.bx 42 [.z s.kind,.z s.node,.z s.peer,.z s.n,.z s.bit,.u s.inc,.d (.ro 1 (ae s.body))],.bx 94 [.d (.v (.string ⟨((af s.kind.toNat).word).toArray⟩)),.d (.v (.bool ((af s.kind.toNat).node))),.d (.v (.bool ((af s.kind.toNat).peer))),.d (.v (.bool ((af s.kind.toNat).n))),.d (.v (.bool true)),.d (.v (.bool ((af s.kind.toNat).inc))),.d (.v (.bool ((af s.kind.toNat).body)))]]) (by rw [h3]) (by rw [h3])
   refine bW (todo':=aft Tryz.f26 11) (E':=[(0,.ep 0 1 (0) 0),(3,.pt 2 0),(4,.pt 3 0),(43,.d (.v (.bool ((af s.kind.toNat).inc))))]) (M':=[.rw 91 1 ([[.em 5 1 (ae ((l++[bz s.kind]++(if (af s.kind.toNat).node=true then [bz s.node] else [])++(if (af s.kind.toNat).peer=true then [bz s.peer] else [])++(if (af s.kind.toNat).n=true then [bz s.n] else []))++[bz ((s.bit.toNat:Nat):Int),bz ((s.bit.toNat / 256:Nat):Int)]))]]),.gw 0 aj,.bx 42 [.z s.kind,.z s.node,.z s.peer,.z s.n,.z s.bit,.u s.inc,.d (.ro 1 (ae s.body))],.bx 94 [.d (.v (.string ⟨((af s.kind.toNat).word).toArray⟩)),.d (.v (.bool ((af s.kind.toNat).node))),.d (.v (.bool ((af s.kind.toNat).peer))),.d (.v (.bool ((af s.kind.toNat).n))),.d (.v (.bool true)),.d (.v (.bool ((af s.kind.toNat).inc))),.d (.v (.bool ((af s.kind.toNat).body)))]]) tk mo hK ao [(10,[(3,.z (((s.bit.toNat:Nat):Int))),(4,.mem [0] (.tu []) [.rw 91 1 ([[.em 5 1 (ae ((l++[bz s.kind]++(if (af s.kind.toNat).node=true then [bz s.node] else [])++(if (af s.kind.toNat).peer=true then [bz s.peer] else [])++(if (af s.kind.toNat).n=true then [bz s.n] else []))++[bz ((s.bit.toNat:Nat):Int),bz ((s.bit.toNat / 256:Nat):Int)]))]])])])] 5 [0,1,2,3] [0,3,4,43] r (by kernel_rfl) (U ((Mm (by omega) (by omega)):IntKind.u16.wrap (s.bit)=((s.bit.toNat:Nat):Int)) (U (Mf (l++[bz s.kind]++(if (af s.kind.toNat).node=true then [bz s.node] else [])++(if (af s.kind.toNat).peer=true then [bz s.peer] else [])++(if (af s.kind.toNat).n=true then [bz s.n] else [])) s.bit.toNat (by omega) (by first | omega | (simp [cC,aF];omega))) trivial)) fun ac wd r=>?_
   exact qM ac wd (r.cast rfl (by rw [if_pos h3,h3]<;>simp [Int.max_eq_left dY]))
 intro ac wd r
 have NM:=p7 (b:=(af s.kind.toNat).bit) (l:=[bz s.bit,bz (s.bit / 256)]) (n:=2) (by first | (simp;done) | exact aF hi)
 suffices qN:∀ ac wd,RB D w0 K 60 bs [(0,.ep 0 1 (0) 0),(3,.pt 2 0),(4,.pt 3 0),(49,.d (.v (.bool ((af s.kind.toNat).body))))] [.rw 91 1 ([[.em 5 1 (ae (l++[bz s.kind]++(if (af s.kind.toNat).node=true then [bz s.node] else [])++(if (af s.kind.toNat).peer=true then [bz s.peer] else [])++(if (af s.kind.toNat).n=true then [bz s.n] else [])++(if (af s.kind.toNat).bit=true then [bz s.bit,bz (s.bit / 256)] else [])++(if (af s.kind.toNat).inc=true then cE s.inc else [])))]]),.gw 0 aj,.bx 42 [.z s.kind,.z s.node,.z s.peer,.z s.n,.z s.bit,.u s.inc,.d (.ro 1 (ae s.body))],.bx 94 [.d (.v (.string ⟨((af s.kind.toNat).word).toArray⟩)),.d (.v (.bool ((af s.kind.toNat).node))),.d (.v (.bool ((af s.kind.toNat).peer))),.d (.v (.bool ((af s.kind.toNat).n))),.d (.v (.bool ((af s.kind.toNat).bit))),.d (.v (.bool ((af s.kind.toNat).inc))),.d (.v (.bool ((af s.kind.toNat).body)))]] ac wd→aD Tryz.prog 26 (aft Tryz.f26 13) (eH D w0 K bs (.tu []) ([.rw 91 1 [[.em 5 1 (ae (l++aX s))]],.gw 0 aj])) ac wd by
  cases h4:((af s.kind.toNat).inc) with
  | false=>
   have r:=r.cast (E':=[(0,.ep 0 1 (0) 0),(3,.pt 2 0),(4,.pt 3 0),(43,.d (.v (.bool false)))]) (M':=[.rw 91 1 ([[.em 5 1 (ae (l++[bz s.kind]++(if (af s.kind.toNat).node=true then [bz s.node] else [])++(if (af s.kind.toNat).peer=true then [bz s.peer] else [])++(if (af s.kind.toNat).n=true then [bz s.n] else [])++(if (af s.kind.toNat).bit=true then [bz s.bit,bz (s.bit / 256)] else [])))]]),.gw 0 aj,.bx 42 [.z s.kind,.z s.node,.z s.peer,.z s.n,.z s.bit,.u s.inc,.d (.ro 1 (ae s.body))],.bx 94 [.d (.v (.string ⟨((af s.kind.toNat).word).toArray⟩)),.d (.v (.bool ((af s.kind.toNat).node))),.d (.v (.bool ((af s.kind.toNat).peer))),.d (.v (.bool ((af s.kind.toNat).n))),.d (.v (.bool ((af s.kind.toNat).bit))),.d (.v (.bool false)),.d (.v (.bool ((af s.kind.toNat).body)))]]) (by rw [h4]) (by rw [h4])
   refine bW (todo':=aft Tryz.f26 13) (E':=[(0,.ep 0 1 (0) 0),(3,.pt 2 0),(4,.pt 3 0),(49,.d (.v (.bool ((af s.kind.toNat).body))))]) (M':=[.rw 91 1 ([[.em 5 1 (ae (l++[bz s.kind]++(if (af s.kind.toNat).node=true then [bz s.node] else [])++(if (af s.kind.toNat).peer=true then [bz s.peer] else [])++(if (af s.kind.toNat).n=true then [bz s.n] else [])++(if (af s.kind.toNat).bit=true then [bz s.bit,bz (s.bit / 256)] else [])))]]),.gw 0 aj,.bx 42 [.z s.kind,.z s.node,.z s.peer,.z s.n,.z s.bit,.u s.inc,.d (.ro 1 (ae s.body))],.bx 94 [.d (.v (.string ⟨((af s.kind.toNat).word).toArray⟩)),.d (.v (.bool ((af s.kind.toNat).node))),.d (.v (.bool ((af s.kind.toNat).peer))),.d (.v (.bool ((af s.kind.toNat).n))),.d (.v (.bool ((af s.kind.toNat).bit))),.d (.v (.bool false)),.d (.v (.bool ((af s.kind.toNat).body)))]]) tk mo hK ao [] 4 [0,1,2,3] [0,3,4,49] r (by kernel_rfl) trivial fun ac wd r=>?_
   exact qN ac wd (r.cast rfl (by rw [if_neg (ne_true_of_eq_false h4),h4]<;>simp [Int.max_eq_left dY]))
  | true=>
   have r:=r.cast (E':=[(0,.ep 0 1 (0) 0),(3,.pt 2 0),(4,.pt 3 0),(43,.d (.v (.bool true)))]) (M':=[.rw 91 1 ([[.em 5 1 (ae (l++[bz s.kind]++(if (af s.kind.toNat).node=true then [bz s.node] else [])++(if (af s.kind.toNat).peer=true then [bz s.peer] else [])++(if (af s.kind.toNat).n=true then [bz s.n] else [])++(if (af s.kind.toNat).bit=true then [bz s.bit,bz (s.bit / 256)] else [])))]]),.gw 0 aj,.bx 42 [.z s.kind,.z s.node,.z s.peer,.z s.n,.z s.bit,.u s.inc,.d (.ro 1 (ae s.body))],.bx 94 [.d (.v (.string ⟨((af s.kind.toNat).word).toArray⟩)),.d (.v (.bool ((af s.kind.toNat).node))),.d (.v (.bool ((af s.kind.toNat).peer))),.d (.v (.bool ((af s.kind.toNat).n))),.d (.v (.bool ((af s.kind.toNat).bit))),.d (.v (.bool true)),.d (.v (.bool ((af s.kind.toNat).body)))]]) (by rw [h4]) (by rw [h4])
   refine bW (todo':=aft Tryz.f26 13) (E':=[(0,.ep 0 1 (0) 0),(3,.pt 2 0),(4,.pt 3 0),(49,.d (.v (.bool ((af s.kind.toNat).body))))]) (M':=[.rw 91 1 ([[.em 5 1 (ae ((l++[bz s.kind]++(if (af s.kind.toNat).node=true then [bz s.node] else [])++(if (af s.kind.toNat).peer=true then [bz s.peer] else [])++(if (af s.kind.toNat).n=true then [bz s.n] else [])++(if (af s.kind.toNat).bit=true then [bz s.bit,bz (s.bit / 256)] else []))++cE s.inc))]]),.gw 0 aj,.bx 42 [.z s.kind,.z s.node,.z s.peer,.z s.n,.z s.bit,.u s.inc,.d (.ro 1 (ae s.body))],.bx 94 [.d (.v (.string ⟨((af s.kind.toNat).word).toArray⟩)),.d (.v (.bool ((af s.kind.toNat).node))),.d (.v (.bool ((af s.kind.toNat).peer))),.d (.v (.bool ((af s.kind.toNat).n))),.d (.v (.bool ((af s.kind.toNat).bit))),.d (.v (.bool true)),.d (.v (.bool ((af s.kind.toNat).body)))]]) tk mo hK ao [(12,[(3,.mem [0] (.tu []) [.rw 91 1 ([[.em 5 1 (ae ((l++[bz s.kind]++(if (af s.kind.toNat).node=true then [bz s.node] else [])++(if (af s.kind.toNat).peer=true then [bz s.peer] else [])++(if (af s.kind.toNat).n=true then [bz s.n] else [])++(if (af s.kind.toNat).bit=true then [bz s.bit,bz (s.bit / 256)] else []))++cE s.inc))]])])])] 4 [0,1,2,3] [0,3,4,49] r (by kernel_rfl) (U (KM (l++[bz s.kind]++(if (af s.kind.toNat).node=true then [bz s.node] else [])++(if (af s.kind.toNat).peer=true then [bz s.peer] else [])++(if (af s.kind.toNat).n=true then [bz s.n] else [])++(if (af s.kind.toNat).bit=true then [bz s.bit,bz (s.bit / 256)] else [])) s.inc (by omega) (by first | omega | (simp [cC,aF];omega))) trivial) fun ac wd r=>?_
   exact qN ac wd (r.cast rfl (by rw [if_pos h4,h4]<;>simp [Int.max_eq_left dY]))
 intro ac wd r
 have OU:=p7 (b:=(af s.kind.toNat).inc) (l:=cE s.inc) (n:=10) (by first | (simp;done) | exact aF hi)
 cases h5:((af s.kind.toNat).body) with
 | false=>
  have r:=r.cast (E':=[(0,.ep 0 1 (0) 0),(3,.pt 2 0),(4,.pt 3 0),(49,.d (.v (.bool false)))]) (M':=[.rw 91 1 ([[.em 5 1 (ae (l++[bz s.kind]++(if (af s.kind.toNat).node=true then [bz s.node] else [])++(if (af s.kind.toNat).peer=true then [bz s.peer] else [])++(if (af s.kind.toNat).n=true then [bz s.n] else [])++(if (af s.kind.toNat).bit=true then [bz s.bit,bz (s.bit / 256)] else [])++(if (af s.kind.toNat).inc=true then cE s.inc else [])))]]),.gw 0 aj,.bx 42 [.z s.kind,.z s.node,.z s.peer,.z s.n,.z s.bit,.u s.inc,.d (.ro 1 (ae s.body))],.bx 94 [.d (.v (.string ⟨((af s.kind.toNat).word).toArray⟩)),.d (.v (.bool ((af s.kind.toNat).node))),.d (.v (.bool ((af s.kind.toNat).peer))),.d (.v (.bool ((af s.kind.toNat).n))),.d (.v (.bool ((af s.kind.toNat).bit))),.d (.v (.bool ((af s.kind.toNat).inc))),.d (.v (.bool false))]]) (by rw [h5]) (by rw [h5])
  refine bg (y:=.tu []) (N':=[.rw 91 1 ([[.em 5 1 (ae (l++[bz s.kind]++(if (af s.kind.toNat).node=true then [bz s.node] else [])++(if (af s.kind.toNat).peer=true then [bz s.peer] else [])++(if (af s.kind.toNat).n=true then [bz s.n] else [])++(if (af s.kind.toNat).bit=true then [bz s.bit,bz (s.bit / 256)] else [])++(if (af s.kind.toNat).inc=true then cE s.inc else [])))]]),.gw 0 aj]) (rfl) ((nG (by unfold aX fp;rw [if_neg (ne_true_of_eq_false h5)];simp) _)) ?_
  exact bf tk mo hK rfl ao [] 2000 [0,1] r (by kernel_rfl) trivial
 | true=>
  have r:=r.cast (E':=[(0,.ep 0 1 (0) 0),(3,.pt 2 0),(4,.pt 3 0),(49,.d (.v (.bool true)))]) (M':=[.rw 91 1 ([[.em 5 1 (ae (l++[bz s.kind]++(if (af s.kind.toNat).node=true then [bz s.node] else [])++(if (af s.kind.toNat).peer=true then [bz s.peer] else [])++(if (af s.kind.toNat).n=true then [bz s.n] else [])++(if (af s.kind.toNat).bit=true then [bz s.bit,bz (s.bit / 256)] else [])++(if (af s.kind.toNat).inc=true then cE s.inc else [])))]]),.gw 0 aj,.bx 42 [.z s.kind,.z s.node,.z s.peer,.z s.n,.z s.bit,.u s.inc,.d (.ro 1 (ae s.body))],.bx 94 [.d (.v (.string ⟨((af s.kind.toNat).word).toArray⟩)),.d (.v (.bool ((af s.kind.toNat).node))),.d (.v (.bool ((af s.kind.toNat).peer))),.d (.v (.bool ((af s.kind.toNat).n))),.d (.v (.bool ((af s.kind.toNat).bit))),.d (.v (.bool ((af s.kind.toNat).inc))),.d (.v (.bool true))]]) (by rw [h5]) (by rw [h5])
  refine bg (y:=.tu []) (N':=[.rw 91 1 ([[.em 5 1 (ae (((l++[bz s.kind]++(if (af s.kind.toNat).node=true then [bz s.node] else [])++(if (af s.kind.toNat).peer=true then [bz s.peer] else [])++(if (af s.kind.toNat).n=true then [bz s.n] else [])++(if (af s.kind.toNat).bit=true then [bz s.bit,bz (s.bit / 256)] else [])++(if (af s.kind.toNat).inc=true then cE s.inc else []))++[(bz ((s.body.length:Nat):Int))])++s.body))]]),.gw 0 aj]) (rfl) ((nG (by unfold aX fp;rw [if_pos h5];simp) _)) ?_
  exact bf tk mo hK rfl ao [(14,[(3,.z (((s.body.length:Nat):Int))),(4,.z ((((bz ((s.body.length:Nat):Int)).toNat:Nat):Int))),(5,.mem [0] (.tu []) [.rw 91 1 ([[.em 5 1 (ae ((l++[bz s.kind]++(if (af s.kind.toNat).node=true then [bz s.node] else [])++(if (af s.kind.toNat).peer=true then [bz s.peer] else [])++(if (af s.kind.toNat).n=true then [bz s.n] else [])++(if (af s.kind.toNat).bit=true then [bz s.bit,bz (s.bit / 256)] else [])++(if (af s.kind.toNat).inc=true then cE s.inc else []))++[(bz ((s.body.length:Nat):Int))]))]])])]),(15,[(3,.mem [0] (.tu []) [.rw 91 1 ([[.em 5 1 (ae (((l++[bz s.kind]++(if (af s.kind.toNat).node=true then [bz s.node] else [])++(if (af s.kind.toNat).peer=true then [bz s.peer] else [])++(if (af s.kind.toNat).n=true then [bz s.n] else [])++(if (af s.kind.toNat).bit=true then [bz s.bit,bz (s.bit / 256)] else [])++(if (af s.kind.toNat).inc=true then cE s.inc else []))++[(bz ((s.body.length:Nat):Int))])++s.body))]])])])] 2000 [0,1] r (by kernel_rfl) (U ((by first | rfl | simp [ae,ah,ints,steps,strs]):(((ae s.body).length:Nat):Int)=((s.body.length:Nat):Int)) (U ((bI _):IntKind.u8.wrap (((s.body.length:Nat):Int))=(((bz ((s.body.length:Nat):Int)).toNat:Nat):Int)) (U (jY (l++[bz s.kind]++(if (af s.kind.toNat).node=true then [bz s.node] else [])++(if (af s.kind.toNat).peer=true then [bz s.peer] else [])++(if (af s.kind.toNat).n=true then [bz s.n] else [])++(if (af s.kind.toNat).bit=true then [bz s.bit,bz (s.bit / 256)] else [])++(if (af s.kind.toNat).inc=true then cE s.inc else [])) (bz ((s.body.length:Nat):Int)) (by first | omega | (simp [cC,aF];omega))) (U (Mg ((l++[bz s.kind]++(if (af s.kind.toNat).node=true then [bz s.node] else [])++(if (af s.kind.toNat).peer=true then [bz s.peer] else [])++(if (af s.kind.toNat).n=true then [bz s.n] else [])++(if (af s.kind.toNat).bit=true then [bz s.bit,bz (s.bit / 256)] else [])++(if (af s.kind.toNat).inc=true then cE s.inc else []))++[(bz ((s.body.length:Nat):Int))]) s.body (by omega) (by first | omega | (simp [cC,aF];omega))) trivial))))
end Go.Proofs.YtcnpikbbmbombaaGreatDoor
namespace Go.Proofs.YtcnpikbbmbombaaGreatDoor
open Go.RowKit
def bQ (c:bN) (l:List aG):List UInt8:=bL c++l.flatMap aX
noncomputable def b9 (c:bN) (l:List aG):Int:=bif bS c then (bif l.all hasB then (bif decide (65536<(bQ c l).length) then 2 else 0) else 1) else 1
noncomputable def l9 (c:bN) (l:List aG):AV:=bif decide (b9 c l=0) then .tu [.sl 1 (bQ c l).length,.z 0] else .tu [.d (.v (.slice none 0 0)),.z (b9 c l)]
noncomputable def ma (c:bN) (l:List aG):List ai:=bif decide (b9 c l=0) then [.gw 0 aj,.rw 5 1 (ae (bQ c l))] else [.gw 0 aj]
def ch (a:List UInt8):List aG→List UInt8
 | []=>a
 | s::r=>ch (if a.length≤65536 then a++aX s else a) r
theorem q6 {l:List aG} {i:Nat} {s:aG} (a:List UInt8) (h:l[i]?=some s):ch a (l.take (i+1))=if (ch a (l.take i)).length≤65536 then ch a (l.take i)++aX s else ch a (l.take i):=by
 have key:∀ (l:List aG) (a:List UInt8) (s:aG),ch a (l++[s])=if (ch a l).length≤65536 then ch a l++aX s else ch a l:=by
  intro l
  induction l with
  | nil=>intro a s;rfl
  | cons x r ih=>intro a s;rw [List.cons_append,ch,ch,ih]
 rw [List.take_add_one,h];exact key _ _ _
theorem rO:∀ (l:List aG) (a:List UInt8),(if 65536<(ch a l).length then 65536<(a++l.flatMap aX).length else ch a l=a++l.flatMap aX)
 | [],a=>by simp [ch]
 | s::r,a=>by
  rw [ch]
  by_cases h:a.length≤65536
  ·rw [if_pos h]
   have:=rO r (a++aX s)
   rw [List.flatMap_cons,← List.append_assoc];exact this
  ·rw [if_neg h]
   have h1:65536<(ch a r).length:=by
    have:=rO r a
    rcases Nat.lt_or_ge 65536 (ch a r).length with h2 | h2
    ·exact h2
    ·rw [if_neg (by omega)] at this;rw [this,List.length_append] at h2;omega
   rw [if_pos h1,List.length_append];omega
theorem lJ {c:bN} {l:List aG} {i:Nat} (hi:¬ (i:Int)<l.length) (h:65536<(ch (bL c) (l.take i)).length):65536<(bQ c l).length:=by rw [List.take_of_length_le (by omega)] at h;have:=rO l (bL c);rw [if_pos h] at this;exact this
theorem ga {c:bN} {l:List aG} {i:Nat} (hi:¬ (i:Int)<l.length) (h:(ch (bL c) (l.take i)).length≤65536):ch (bL c) (l.take i)=bQ c l:=by rw [List.take_of_length_le (by omega)] at h ⊢;have:=rO l (bL c);rw [if_neg (by omega)] at this;exact this
theorem wK {s:aG} (h:hasB s=true):0≤s.kind∧s.kind<14∧s.body.length≤255∧0≤s.bit∧s.bit≤65535∧0≤s.node∧s.node≤255∧0≤s.peer∧s.peer≤255∧0≤s.n∧s.n≤255:=by
 unfold hasB fe c8 at h
 simp only [Bool.and_eq_true,Bool.or_eq_true,decide_eq_true_eq] at h
 omega
theorem GB {x:jz} {s:aG} (hb:s.body.length≤255) (hi:s.inc<18446744073709551616):(fp x s).length≤300:=by
 have:=aF hi
 unfold fp
 simp only [List.length_append]
 have h1:∀ {b:Bool} {p:List UInt8} {n:Nat},p.length≤n→(if b=true then p else []).length≤n:=by
  intro b p n h;split
  ·exact h
  ·simp
 have a1:=h1 (b:=x.node) (p:=[bz s.node]) (n:=1) (by simp)
 have a2:=h1 (b:=x.peer) (p:=[bz s.peer]) (n:=1) (by simp)
 have a3:=h1 (b:=x.n) (p:=[bz s.n]) (n:=1) (by simp)
 have a4:=h1 (b:=x.bit) (p:=[bz s.bit,bz (s.bit / 256)]) (n:=2) (by simp)
 have a5:=h1 (b:=x.inc) (p:=cE s.inc) (n:=10) this
 have a6:=h1 (b:=x.body) (p:=bz ((s.body.length:Nat):Int)::s.body) (n:=256) (by simp;omega)
 omega
theorem zZ {s:aG} (hb:s.body.length≤255) (hi:s.inc<18446744073709551616):(aX s).length≤301:=by
 have:=GB (x:=af s.kind.toNat) hb hi
 unfold aX;simp;omega
theorem ud (c:bN):(bL c).length=3+2*c.ah.length+c.homes.length:=by unfold bL;simp [cC];omega
def jO (l:List aG) (i:Nat):Prop:=∀ (j:Nat) s,j<i→l[j]?=some s→hasB s=true
theorem jO.none (l:List aG):jO l 0:=fun _ _ h=>absurd h (Nat.not_lt_zero _)
theorem jO.next {l:List aG} {i:Nat} {s:aG} (h:jO l i) (g:l[i]?=some s) (h1:hasB s=true):jO l (i+1):=fun j y hj gy=>by
 rcases Nat.lt_succ_iff_lt_or_eq.1 hj with h' | rfl
 ·exact h j y h' gy
 ·rw [g] at gy;cases gy;exact h1
theorem jO.all {l:List aG} {i:Nat} (h:jO l i) (hi:¬ (i:Int)<l.length):l.all hasB=true:=by
 rw [List.all_eq_true];intro s hs
 obtain ⟨j,hj,rfl⟩:=List.getElem_of_mem hs
 exact h j _ (by omega) (List.getElem?_eq_getElem hj)
theorem jf {l:List aG} {i:Nat} {s:aG} (g:l[i]?=some s) (h1:hasB s=false):l.all hasB=false:=by
 rw [List.all_eq_false];exact ⟨s,List.mem_of_getElem? g,by simp [h1]⟩
section
variable {c:bN} {l:List aG}
theorem ea (h:bS c=false∨l.all hasB=false):b9 c l=1:=by
 unfold b9
 rcases h with h | h
 ·rw [h];rfl
 ·rw [h];cases bS c<;>rfl
theorem iZ (h1:bS c=true) (h2:l.all hasB=true) (h:65536<(bQ c l).length):b9 c l=2:=by unfold b9;rw [h1,h2,decide_eq_true h];rfl
theorem iz (h1:bS c=true) (h2:l.all hasB=true) (h:(bQ c l).length≤65536):b9 c l=0:=by unfold b9;rw [h1,h2,decide_eq_false (by omega)];rfl
theorem ja {z:Int} (h:b9 c l=z) (hz:z≠0):l9 c l=.tu [.d (.v (.slice none 0 0)),.z z]:=by unfold l9;rw [decide_eq_false (by omega),h];rfl
theorem jb {z:Int} (h:b9 c l=z) (hz:z≠0):ma c l=[.gw 0 aj]:=by unfold ma;rw [decide_eq_false (by omega)];rfl
theorem GC (h:b9 c l=0):l9 c l=.tu [.sl 1 (bQ c l).length,.z 0]:=by unfold l9;rw [decide_eq_true h];rfl
theorem GD (h:b9 c l=0):ma c l=[.gw 0 aj,.rw 5 1 (ae (bQ c l))]:=by unfold ma;rw [decide_eq_true h];rfl
end
theorem q7 {c:bN} {l:List aG} {b:List UInt8} (h:b9 c l=0) (hb:b=bQ c l):l9 c l=.tu [.sl 1 b.length,.z 0]:=by rw [GC h,hb]
theorem q8 {c:bN} {l:List aG} {b:List UInt8} (h:b9 c l=0) (hb:b=bQ c l):ma c l=[.gw 0 aj,.rw 5 1 (ae b)]:=by rw [GD h,hb]
theorem KO:aC Tryz.prog 22 [] [] (.ep 0 1 0 0) (iu []):=by
 refine ⟨B6.1,fun {D w0 K0 β F I w} ys R hK hl hr=>(B6.2 ys R hK hl hr).mono ?_⟩
 rintro e w' ⟨v,rfl,az,F',I',R',e1,hI,ha⟩
 have qS:β=[]:=List.eq_nil_of_length_eq_zero R.len
 subst qS
 cases ha with
 | @pt _ _ b cc hb=>
 have hB:=R'.blk 0 _ rfl
 generalize oY:F' 0=F0 at hB
 cases hB with
 | bx aQ ys ml jw=>
  rw [hb] at aQ;cases aQ
  obtain ⟨y,rfl⟩:∃ y,ys=[y]:=by
   cases ys with
   | nil=>simp at ml
   | cons y r=>cases r with
    | nil=>exact ⟨y,rfl⟩
    | cons _ _=>simp at ml
  have hy:y=.slice none 0 0:=by
   have h0:=jw 0 _ y rfl rfl
   cases h0 with | d h0=>cases h0;rfl
  subst hy
  refine ⟨_,rfl,[(some ⟨b,0,none⟩,1)],F',I',⟨rfl,fun u blk hu=>?_,R'.st⟩,fun u x hx=>by simp at hx,hI,.ep (u:=0) rfl⟩
  cases u with
  | succ u=>simp [iu] at hu
  | zero=>
   simp only [iu,List.getElem?_cons_zero,Option.some.injEq] at hu;subst hu
   rw [oY]
   have:=bw.rw (K:=fun w=>K0 w∧Holds w I') (β:=[(some ⟨b,0,none⟩,1)]) (u:=0) (T:=91) (k:=1) (rows:=[[DV.em 5 1 (ae [])]]) (H0:=[(b,.cells #[.slice none 0 0] 91 (0,0))]) rfl (fun _=>[.slice none 0 0]) (fun _ _=>[]) (fun i r hi=>by
    cases i with
    | zero=>simp at hi;subst hi;exact ⟨rfl,rfl⟩
    | succ i=>simp at hi) ⟨rfl,Or.inr ⟨b,1,_,rfl,rfl,rfl,Nat.le_refl _,rfl⟩⟩ (fun i r j c x hi h1 h2=>by
    cases i with
    | succ i=>simp at hi
    | zero=>
     simp at hi;subst hi
     cases j with
     | succ j=>simp at h1
     | zero=>simp at h1 h2;subst h1;subst h2;exact Le.By _ _ _ _ _ (.v _))
   simpa [bE] using this
set_option maxRecDepth 100000 in
theorem A8 (c:bN) (l:List aG) (hc:c.ah.length≤1048576) (hh:c.homes.length≤1048576) (hl:l.length≤9223372036854775807) (hr:∀ s ∈ l,s.Rd):aC Tryz.prog 11 [.ag [.z c.au,.d (.ro 2 (ah c.ah)),.d (.ro 1 (ints c.homes))],.d (.ro 7 (steps l))] [.gw 0 aj] (l9 c l) (ma c l):=by
 refine aC.intro (by kernel_rfl) rfl rfl 37 rfl rfl fun D w0 K bs ac wd hK (ao:bs.m=1) r=>?_
 cases h0:(bS c) with
 | false=>
  refine bg (y:=.tu [.d (.v (.slice none 0 0)),.z 1]) (N':=[.gw 0 aj]) ((by first | exact ja (ea (.inl (by assumption))) (by decide) | exact ja (ea (.inr (jf b7 (by assumption)))) (by decide) | exact ja (iZ (by assumption) (aq.1.all (by assumption)) (lJ (by assumption) (by omega))) (by decide) | exact q7 (iz (by assumption) (aq.1.all (by assumption)) (by rw [← ga (by assumption) (by omega)];omega)) (ga (by assumption) (by omega)))) ((by first | exact jb (ea (.inl (by assumption))) (by decide) | exact jb (ea (.inr (jf b7 (by assumption)))) (by decide) | exact jb (iZ (by assumption) (aq.1.all (by assumption)) (lJ (by assumption) (by omega))) (by decide) | exact q8 (iz (by assumption) (aq.1.all (by assumption)) (by rw [← ga (by assumption) (by omega)];omega)) (ga (by assumption) (by omega)))) ?_
  exact bf tk mo hK rfl ao [(1,[(1,.ax (.v (.bool false)))])] 2000 [0] r (by kernel_rfl) (U ((by have k:=p5 c (by omega) (by omega);rw [h0] at k;exact k):al Tryz.prog 21 [.ag [.z c.au,.d (.ro 2 (ah c.ah)),.d (.ro 1 (ints c.homes))]] (.v (.bool false))) trivial)
 | true=>
  refine cD (todo':=hd Tryz.f11 0) (E':=[(6,.ep 2 1 (0) 0),(16,.d (.ro 7 (steps l))),(17,.n l.length),(18,.z 0)]) (M':=[.gw 0 aj,.bx 25 [.z c.au,.d (.ro 2 (ah c.ah)),.d (.ro 1 (ints c.homes))],.rw 91 1 ([[.em 5 1 (ae (([])++bL c))]])]) tk mo hK ao [(1,[(1,.ax (.v (.bool true)))]),(3,[(0,.mem [] (.ep 0 1 (0) 0) [.rw 91 1 ([[.em 5 1 (ae ([]))]])])]),(4,[(2,.mem [2] (.tu []) [.rw 91 1 ([[.em 5 1 (ae (([])++bL c))]])])]),(5,[(1,.z (((l.length:Nat):Int)))])] 2000 [0,1,2] [6,16,17,18] r (by kernel_rfl) (U ((by have k:=p5 c (by omega) (by omega);rw [h0] at k;exact k):al Tryz.prog 21 [.ag [.z c.au,.d (.ro 2 (ah c.ah)),.d (.ro 1 (ints c.homes))]] (.v (.bool true))) (U (KO) (U (Jp ([]) c (by simp) hc hh) (U ((by first | rfl | simp [ae,ah,ints,steps,strs]):(((steps l).length:Nat):Int)=((l.length:Nat):Int)) trivial)))) fun ac wd r=>?_
  refine aD.rounds (Φ:=fun (i:Nat) ac wd=>(jO l i∧(ch (bL c) (l.take i)).length≤3200000)∧RB D w0 K 37 bs [(6,.ep 2 1 (0) 0),(16,.d (.ro 7 (steps l))),(17,.n l.length),(18,.n i)] [.gw 0 aj,.bx 25 [.z c.au,.d (.ro 2 (ah c.ah)),.d (.ro 1 (ints c.homes))],.rw 91 1 ([[.em 5 1 (ae (ch (bL c) (l.take i)))]])] ac wd) (l.length) ?_ (Nat.zero_le _) ⟨⟨jO.none l,by rw [List.take_zero];simp only [ch];rw [ud];omega⟩,(r).cast rfl (by simp [ch])⟩
  clear r
  rintro i dv bH ac wd ⟨aq,r⟩
  have hlen:=aq.2
  cases h1:(decide ((((i:Nat):Int):Int)<((l.length:Nat):Int))) with
  | false=>
   have bO:=of_decide_eq_false h1
   cases h2:(decide ((65536:Int)<(((ch (bL c) (l.take i)).length:Nat):Int))) with
   | false=>
    have cQ:=of_decide_eq_false h2
    refine bg (y:=.tu [.sl 1 ((ch (bL c) (l.take i)).length),.z 0]) (N':=[.gw 0 aj,.rw 5 1 (ae (ch (bL c) (l.take i)))]) ((by first | exact ja (ea (.inl (by assumption))) (by decide) | exact ja (ea (.inr (jf b7 (by assumption)))) (by decide) | exact ja (iZ (by assumption) (aq.1.all (by assumption)) (lJ (by assumption) (by omega))) (by decide) | exact q7 (iz (by assumption) (aq.1.all (by assumption)) (by rw [← ga (by assumption) (by omega)];omega)) (ga (by assumption) (by omega)))) ((by first | exact jb (ea (.inl (by assumption))) (by decide) | exact jb (ea (.inr (jf b7 (by assumption)))) (by decide) | exact jb (iZ (by assumption) (aq.1.all (by assumption)) (lJ (by assumption) (by omega))) (by decide) | exact q8 (iz (by assumption) (aq.1.all (by assumption)) (by rw [← ga (by assumption) (by omega)];omega)) (ga (by assumption) (by omega)))) ?_
    exact bf tk mo hK rfl ao [(6,[(0,.b false)]),(13,[(1,.mem [2] (.n ((ch (bL c) (l.take i)).length)) [.rw 91 1 ([[.em 5 1 (ae (ch (bL c) (l.take i)))]])]),(2,.b false)]),(15,[(1,.mem [2] (.sl 1 ((ch (bL c) (l.take i)).length)) [.rw 91 1 (List.set [[.em 5 1 (ae (ch (bL c) (l.take i)))]] 0 [.jk]),.rw 5 1 (ae (ch (bL c) (l.take i)))])])] 2000 [0,3] r (by kernel_rfl) (U h1 (U (sN (ch (bL c) (l.take i))) (U h2 (U (Jl (ch (bL c) (l.take i)) (by omega)) trivial))))
   | true=>
    have cQ:=of_decide_eq_true h2
    refine bg (y:=.tu [.d (.v (.slice none 0 0)),.z 2]) (N':=[.gw 0 aj]) ((by first | exact ja (ea (.inl (by assumption))) (by decide) | exact ja (ea (.inr (jf b7 (by assumption)))) (by decide) | exact ja (iZ (by assumption) (aq.1.all (by assumption)) (lJ (by assumption) (by omega))) (by decide) | exact q7 (iz (by assumption) (aq.1.all (by assumption)) (by rw [← ga (by assumption) (by omega)];omega)) (ga (by assumption) (by omega)))) ((by first | exact jb (ea (.inl (by assumption))) (by decide) | exact jb (ea (.inr (jf b7 (by assumption)))) (by decide) | exact jb (iZ (by assumption) (aq.1.all (by assumption)) (lJ (by assumption) (by omega))) (by decide) | exact q8 (iz (by assumption) (aq.1.all (by assumption)) (by rw [← ga (by assumption) (by omega)];omega)) (ga (by assumption) (by omega)))) ?_
    exact bf tk mo hK rfl ao [(6,[(0,.b false)]),(13,[(1,.mem [2] (.n ((ch (bL c) (l.take i)).length)) [.rw 91 1 ([[.em 5 1 (ae (ch (bL c) (l.take i)))]])]),(2,.b true)])] 2000 [0] r (by kernel_rfl) (U h1 (U (sN (ch (bL c) (l.take i))) (U h2 trivial)))
  | true=>
   have bO:=of_decide_eq_true h1
   obtain ⟨ay,b7⟩:∃ x_,l[i]?=some x_:=⟨_,List.getElem?_eq_getElem (by omega)⟩
   have eI:=(hr _ (List.mem_of_getElem? b7)).inc
   cases h3:(hasB ay) with
   | false=>
    refine bg (y:=.tu [.d (.v (.slice none 0 0)),.z 1]) (N':=[.gw 0 aj]) ((by first | exact ja (ea (.inl (by assumption))) (by decide) | exact ja (ea (.inr (jf b7 (by assumption)))) (by decide) | exact ja (iZ (by assumption) (aq.1.all (by assumption)) (lJ (by assumption) (by omega))) (by decide) | exact q7 (iz (by assumption) (aq.1.all (by assumption)) (by rw [← ga (by assumption) (by omega)];omega)) (ga (by assumption) (by omega)))) ((by first | exact jb (ea (.inl (by assumption))) (by decide) | exact jb (ea (.inr (jf b7 (by assumption)))) (by decide) | exact jb (iZ (by assumption) (aq.1.all (by assumption)) (lJ (by assumption) (by omega))) (by decide) | exact q8 (iz (by assumption) (aq.1.all (by assumption)) (by rw [← ga (by assumption) (by omega)];omega)) (ga (by assumption) (by omega)))) ?_
    exact bf tk mo hK rfl ao [(6,[(0,.b true)]),(7,[(0,.ix (i) [.z ay.kind,.z ay.node,.z ay.peer,.z ay.n,.z ay.bit,.u ay.inc,.ro 1 (ae ay.body)])]),(8,[(1,.mem [0] (.d (.v (.bool (hasB ay)))) [.gw 0 aj]),(2,.b true)])] 2000 [0] r (by kernel_rfl) (U h1 (U (aB ((i:Nat):Int)) (U (iy b7) (U (wH ay) (U ((by rw [h3];rfl):(!(hasB ay))=true) trivial)))))
   | true=>
    have CY:=wK ‹hasB ay=true›
    have dM:=zZ (s:=ay) (by omega) (by omega)
    cases h4:(decide (((((ch (bL c) (l.take i)).length:Nat):Int):Int)≤65536)) with
    | false=>
     have eM:=of_decide_eq_false h4
     exact cD (todo':=hd Tryz.f11 0) (E':=[(6,.ep 2 1 (0) 0),(16,.d (.ro 7 (steps l))),(17,.n l.length),(18,.n (i+1))]) (M':=[.gw 0 aj,.bx 25 [.z c.au,.d (.ro 2 (ah c.ah)),.d (.ro 1 (ints c.homes))],.rw 91 1 ([[.em 5 1 (ae (ch (bL c) (l.take i)))]])]) tk mo hK ao [(6,[(0,.b true)]),(7,[(0,.ix (i) [.z ay.kind,.z ay.node,.z ay.peer,.z ay.n,.z ay.bit,.u ay.inc,.ro 1 (ae ay.body)])]),(8,[(1,.mem [0] (.d (.v (.bool (hasB ay)))) [.gw 0 aj]),(2,.b false)]),(10,[(1,.mem [2] (.n ((ch (bL c) (l.take i)).length)) [.rw 91 1 ([[.em 5 1 (ae (ch (bL c) (l.take i)))]])]),(2,.b false)]),(12,[(0,.z (((i+1:Nat):Int)))])] 2000 [0,1,2] [6,16,17,18] r (by kernel_rfl) (U h1 (U (aB ((i:Nat):Int)) (U (iy b7) (U (wH ay) (U ((by rw [h3];rfl):(!(hasB ay))=false) (U (sN (ch (bL c) (l.take i))) (U h4 (U ((wi (by omega)):IntKind.i64.wrap ((((i:Nat):Int):Int)+1)=((i+1:Nat):Int)) trivial)))))))) fun ac wd r=>bH (by omega) ac wd ⟨⟨aq.1.next b7 (by assumption),by rw [q6 _ b7];split<;>first | omega | (simp;omega)⟩,r.cast rfl (by rw [q6 _ b7];first | rw [if_pos (by omega)] | rw [if_neg (by omega)])⟩
    | true=>
     have eM:=of_decide_eq_true h4
     exact cD (todo':=hd Tryz.f11 0) (E':=[(6,.ep 2 1 (0) 0),(16,.d (.ro 7 (steps l))),(17,.n l.length),(18,.n (i+1))]) (M':=[.gw 0 aj,.bx 25 [.z c.au,.d (.ro 2 (ah c.ah)),.d (.ro 1 (ints c.homes))],.rw 91 1 ([[.em 5 1 (ae ((ch (bL c) (l.take i))++aX ay))]])]) tk mo hK ao [(6,[(0,.b true)]),(7,[(0,.ix (i) [.z ay.kind,.z ay.node,.z ay.peer,.z ay.n,.z ay.bit,.u ay.inc,.ro 1 (ae ay.body)])]),(8,[(1,.mem [0] (.d (.v (.bool (hasB ay)))) [.gw 0 aj]),(2,.b false)]),(10,[(1,.mem [2] (.n ((ch (bL c) (l.take i)).length)) [.rw 91 1 ([[.em 5 1 (ae (ch (bL c) (l.take i)))]])]),(2,.b true)]),(11,[(2,.mem [2,0] (.tu []) [.rw 91 1 ([[.em 5 1 (ae ((ch (bL c) (l.take i))++aX ay))]]),.gw 0 aj])]),(12,[(0,.z (((i+1:Nat):Int)))])] 2000 [0,1,2] [6,16,17,18] r (by kernel_rfl) (U h1 (U (aB ((i:Nat):Int)) (U (iy b7) (U (wH ay) (U ((by rw [h3];rfl):(!(hasB ay))=false) (U (sN (ch (bL c) (l.take i))) (U h4 (U (E6 (ch (bL c) (l.take i)) ay (by omega) (by omega) (by omega) (by omega) (by omega) (by omega) (by omega)) (U ((wi (by omega)):IntKind.i64.wrap ((((i:Nat):Int):Int)+1)=((i+1:Nat):Int)) trivial))))))))) fun ac wd r=>bH (by omega) ac wd ⟨⟨aq.1.next b7 (by assumption),by rw [q6 _ b7];split<;>first | omega | (simp;omega)⟩,r.cast rfl (by rw [q6 _ b7];first | rw [if_pos (by omega)] | rw [if_neg (by omega)])⟩
end Go.Proofs.YtcnpikbbmbombaaGreatDoor
namespace Go.Proofs.YtcnpikbbmbombaaGreatDoor
open Go.RowKit
theorem mC {z:Int} (h:0≤z) (h2:z≤65535):IntKind.u64.wrap z=((z.toNat:Nat):Int):=by
 simp [IntKind.wrap,IntKind.signed,IntKind.bits];omega
def oP (x:jz) (s:aG):List (List UInt8):=(if x.node then [b5 s.node] else [])++(if x.peer then [b5 s.peer] else [])++(if x.n then [b5 s.n] else [])++(if x.bit then [b5 s.bit] else [])++(if x.inc then [Go.Lib.decDigits s.inc] else [])++(if x.body then [iH s.body] else [])
def cw (s:aG):List (List UInt8):=(af s.kind.toNat).word::oP (af s.kind.toNat) s
theorem E7 {l:List UInt8} {n:Nat} (h:l.length≤n):(iH l).length≤2*n+1:=by
 unfold iH;split
 ·simp
 ·rw [df];omega
theorem GF (k:Nat):(af k).word.length≤7:=by
 rcases Nat.lt_or_ge k 14 with h | h
 ·exact lO (p:=fun k=>(af k).word.length≤7) (by decide) (by decide) (by decide) (by decide) (by decide) (by decide) (by decide) (by decide) (by decide) (by decide) (by decide) (by decide) (by decide) (by decide) h
 ·unfold af;rw [List.getD_eq_getElem?_getD,List.getElem?_eq_none (by simpa [eC] using h)];decide
theorem GH (x:jz) (s:aG):(oP x s).length≤6:=by
 unfold oP
 simp only [List.length_append]
 have h1:∀ {b:Bool} {p:List (List UInt8)},p.length≤1→(if b=true then p else []).length≤1:=by
  intro b p h;split
  ·exact h
  ·simp
 have a1:=h1 (b:=x.node) (p:=[b5 s.node]) (by simp)
 have a2:=h1 (b:=x.peer) (p:=[b5 s.peer]) (by simp)
 have a3:=h1 (b:=x.n) (p:=[b5 s.n]) (by simp)
 have a4:=h1 (b:=x.bit) (p:=[b5 s.bit]) (by simp)
 have a5:=h1 (b:=x.inc) (p:=[Go.Lib.decDigits s.inc]) (by simp)
 have a6:=h1 (b:=x.body) (p:=[iH s.body]) (by simp)
 omega
theorem pG {s:aG} (hb:s.body.length≤255) (hi:s.inc<18446744073709551616) (h0:s.node≤65535) (h1:s.peer≤65535) (h2:s.n≤65535) (h3:s.bit≤65535):(cw s).flatten.length≤3577∧(cw s).length≤7:=by
 have hl:=GH (af s.kind.toNat) s
 have hn:(cw s).length≤7:=by unfold cw;simp;omega
 refine ⟨?_,hn⟩
 have hd:∀ {z:Int},z≤65535→(b5 z).length≤511:=fun {z} h=>by
  have:=uc z.toNat (by omega)
  unfold b5;omega
 have h:=y5 (l:=cw s) (n:=511) fun x hx=>by
  unfold cw at hx
  rcases List.mem_cons.1 hx with rfl | hx
  ·exact Nat.le_trans (GF _) (by decide)
  ·unfold oP at hx
   simp only [List.mem_append] at hx
   have key:∀ {b:Bool} {w x:List UInt8},x ∈ (if b=true then [w] else [])→x=w:=by
    intro b w x h;split at h
    ·simpa using h
    ·simp at h
   rcases hx with ((((hx | hx) | hx) | hx) | hx) | hx
   ·rw [key hx];exact hd h0
   ·rw [key hx];exact hd h1
   ·rw [key hx];exact hd h2
   ·rw [key hx];exact hd h3
   ·rw [key hx];exact Nat.le_trans (uc _ hi) (by decide)
   ·rw [key hx];exact E7 hb
 have:=Nat.mul_le_mul_left 511 hn
 omega
def mb (b:Bool) (x:List UInt8) (l:List (List UInt8)):List (List UInt8):=cond b (l++[x]) l
theorem GI (b:Bool) (x:List UInt8) (l:List (List UInt8)):(mb b x l).length≤l.length+1:=by cases b<;>simp [mb]
theorem H8 (b:Bool) (x:List UInt8) (l:List (List UInt8)):mb b x l=l++(if b=true then [x] else []):=by cases b<;>simp [mb]
def nH (s:aG):Nat→Bool×List UInt8
 | 0=>((af s.kind.toNat).node,b5 s.node)
 | 1=>((af s.kind.toNat).peer,b5 s.peer)
 | 2=>((af s.kind.toNat).n,b5 s.n)
 | 3=>((af s.kind.toNat).bit,b5 s.bit)
 | _=>((af s.kind.toNat).inc,Go.Lib.decDigits s.inc)
def aZ (s:aG):Nat→List (List UInt8)
 | 0=>[(af s.kind.toNat).word]
 | j+1=>mb (nH s j).1 (nH s j).2 (aZ s j)
theorem fz (s:aG):∀ j,(aZ s j).length≤j+1
 | 0=>Nat.le_refl _
 | j+1=>Nat.le_trans (GI _ _ _) (Nat.succ_le_succ (fz s j))
theorem A9 (s:aG):cw s=mb (af s.kind.toNat).body (iH s.body) (aZ s 5):=by
 unfold cw oP;simp only [aZ,nH,H8];simp
theorem p9 {s:aG} {j:Nat} (h:(nH s j).1=true):strs (aZ s (j+1))=strs (aZ s j)++[[.v (.string ⟨(nH s j).2.toArray⟩)]]:=by rw [aZ,h];simp [mb,strs]
theorem pR {s:aG} {j:Nat} (h:(nH s j).1=true):(aZ s (j+1)).length=(aZ s j).length+1:=by rw [aZ,h];simp [mb]
theorem qa {s:aG} {j:Nat} (h:(nH s j).1=false):aZ s (j+1)=aZ s j:=by rw [aZ,h];rfl
theorem BE {s:aG} (h:(af s.kind.toNat).body=true):cw s=aZ s 5++[iH s.body]:=by rw [A9,h];rfl
theorem BF {s:aG} (h:(af s.kind.toNat).body=false):cw s=aZ s 5:=by rw [A9,h];rfl
set_option maxRecDepth 100000 in
theorem Eg (s:aG) (hb:s.body.length≤255) (hi:s.inc<18446744073709551616) (qB:0≤s.node) (o9:s.node≤65535) (CZ:0≤s.peer) (pa:s.peer≤65535) (C0:0≤s.n) (pc:s.n≤65535) (dY:0≤s.bit) (ft:s.bit≤65535) (k0:0≤s.kind) (k1:s.kind<14):aC Tryz.prog 42 [.ag [.z s.kind,.z s.node,.z s.peer,.z s.n,.z s.bit,.u s.inc,.d (.ro 1 (ae s.body))]] [.gw 0 aj,.gw 1 aV] (.d (.v (.string ⟨(bn (cw s)).toArray⟩))) ([.gw 0 aj,.gw 1 aV]):=by
 refine aC.intro (by kernel_rfl) rfl rfl 58 rfl rfl fun D w0 K bs ac wd hK (ao:bs.m=2) r=>?_
 refine bW (todo':=aft Tryz.f42 3) (E':=[(1,.pt 2 0),(2,.d (.v (.string .empty))),(3,.pt 3 0),(4,.pt 5 0),(5,.fn 72 [.pt 5 0])]) (M':=[.gw 0 aj,.gw 1 aV,.bx 42 [.z s.kind,.z s.node,.z s.peer,.z s.n,.z s.bit,.u s.inc,.d (.ro 1 (ae s.body))],.bx 94 [.d (.v (.string ⟨((af s.kind.toNat).word).toArray⟩)),.d (.v (.bool ((af s.kind.toNat).node))),.d (.v (.bool ((af s.kind.toNat).peer))),.d (.v (.bool ((af s.kind.toNat).n))),.d (.v (.bool ((af s.kind.toNat).bit))),.d (.v (.bool ((af s.kind.toNat).inc))),.d (.v (.bool ((af s.kind.toNat).body)))],.rw 9 1 ([[.v (.string ⟨((af s.kind.toNat).word).toArray⟩)]]),.bx 87 [.sl 4 (1)]]) tk mo hK ao [(1,[(2,.ix (s.kind.toNat) [.v (.string ⟨((af s.kind.toNat).word).toArray⟩),.v (.bool ((af s.kind.toNat).node)),.v (.bool ((af s.kind.toNat).peer)),.v (.bool ((af s.kind.toNat).n)),.v (.bool ((af s.kind.toNat).bit)),.v (.bool ((af s.kind.toNat).inc)),.v (.bool ((af s.kind.toNat).body))])])] 8 [0,1,2,3,4,5] [1,2,3,4,5] r (by kernel_rfl) (U ((by omega):(s.kind)=((s.kind.toNat:Nat):Int)) (U ((by omega):(s.kind.toNat)<14) (U (mH (by omega):List.take 7 (List.drop ((s.kind.toNat)*7) (aj:List DV))=([.v (.string ⟨((af s.kind.toNat).word).toArray⟩),.v (.bool ((af s.kind.toNat).node)),.v (.bool ((af s.kind.toNat).peer)),.v (.bool ((af s.kind.toNat).n)),.v (.bool ((af s.kind.toNat).bit)),.v (.bool ((af s.kind.toNat).inc)),.v (.bool ((af s.kind.toNat).body))]:List DV)) trivial))) fun ac wd r=>?_
 suffices J4:∀ ac wd,RB D w0 K 58 bs [(1,.pt 2 0),(3,.pt 3 0),(4,.pt 4 0),(5,.fn 72 [.pt 4 0])] [.gw 0 aj,.gw 1 aV,.bx 42 [.z s.kind,.z s.node,.z s.peer,.z s.n,.z s.bit,.u s.inc,.d (.ro 1 (ae s.body))],.bx 94 [.d (.v (.string ⟨((af s.kind.toNat).word).toArray⟩)),.d (.v (.bool ((af s.kind.toNat).node))),.d (.v (.bool ((af s.kind.toNat).peer))),.d (.v (.bool ((af s.kind.toNat).n))),.d (.v (.bool ((af s.kind.toNat).bit))),.d (.v (.bool ((af s.kind.toNat).inc))),.d (.v (.bool ((af s.kind.toNat).body)))],.bx 87 [.sl 5 ((aZ s 1).length)],.rw 9 1 (strs (aZ s 1))] ac wd→aD Tryz.prog 42 (aft Tryz.f42 4) (eH D w0 K bs (.d (.v (.string ⟨(bn (cw s)).toArray⟩))) ([.gw 0 aj,.gw 1 aV])) ac wd by
  cases h0:((af s.kind.toNat).node) with
  | false=>
   have r:=r.cast (M':=[.gw 0 aj,.gw 1 aV,.bx 42 [.z s.kind,.z s.node,.z s.peer,.z s.n,.z s.bit,.u s.inc,.d (.ro 1 (ae s.body))],.bx 94 [.d (.v (.string ⟨((af s.kind.toNat).word).toArray⟩)),.d (.v (.bool false)),.d (.v (.bool ((af s.kind.toNat).peer))),.d (.v (.bool ((af s.kind.toNat).n))),.d (.v (.bool ((af s.kind.toNat).bit))),.d (.v (.bool ((af s.kind.toNat).inc))),.d (.v (.bool ((af s.kind.toNat).body)))],.rw 9 1 ([[.v (.string ⟨((af s.kind.toNat).word).toArray⟩)]]),.bx 87 [.sl 4 (1)]]) rfl (by rw [h0])
   refine bW (todo':=aft Tryz.f42 4) (E':=[(1,.pt 2 0),(3,.pt 3 0),(4,.pt 4 0),(5,.fn 72 [.pt 4 0])]) (M':=[.gw 0 aj,.gw 1 aV,.bx 42 [.z s.kind,.z s.node,.z s.peer,.z s.n,.z s.bit,.u s.inc,.d (.ro 1 (ae s.body))],.bx 94 [.d (.v (.string ⟨((af s.kind.toNat).word).toArray⟩)),.d (.v (.bool false)),.d (.v (.bool ((af s.kind.toNat).peer))),.d (.v (.bool ((af s.kind.toNat).n))),.d (.v (.bool ((af s.kind.toNat).bit))),.d (.v (.bool ((af s.kind.toNat).inc))),.d (.v (.bool ((af s.kind.toNat).body)))],.bx 87 [.sl 5 (1)],.rw 9 1 ([[.v (.string ⟨((af s.kind.toNat).word).toArray⟩)]])]) tk mo hK ao [(4,[(5,.z (((s.node.toNat:Nat):Int))),(6,.bP 200 [])])] 2 [0,1,2,3,5,4] [1,3,4,5] r (by kernel_rfl) (U ((mC qB o9):IntKind.u64.wrap (s.node)=((s.node.toNat:Nat):Int)) trivial) fun ac wd r=>?_
   exact J4 ac wd (r.cast rfl (by rw [qa (j:=0) h0,h0]<;>rfl))
  | true=>
   have r:=r.cast (M':=[.gw 0 aj,.gw 1 aV,.bx 42 [.z s.kind,.z s.node,.z s.peer,.z s.n,.z s.bit,.u s.inc,.d (.ro 1 (ae s.body))],.bx 94 [.d (.v (.string ⟨((af s.kind.toNat).word).toArray⟩)),.d (.v (.bool true)),.d (.v (.bool ((af s.kind.toNat).peer))),.d (.v (.bool ((af s.kind.toNat).n))),.d (.v (.bool ((af s.kind.toNat).bit))),.d (.v (.bool ((af s.kind.toNat).inc))),.d (.v (.bool ((af s.kind.toNat).body)))],.rw 9 1 ([[.v (.string ⟨((af s.kind.toNat).word).toArray⟩)]]),.bx 87 [.sl 4 (1)]]) rfl (by rw [h0])
   refine bW (todo':=aft Tryz.f42 4) (E':=[(1,.pt 2 0),(3,.pt 3 0),(4,.pt 4 0),(5,.fn 72 [.pt 4 0])]) (M':=[.gw 0 aj,.gw 1 aV,.bx 42 [.z s.kind,.z s.node,.z s.peer,.z s.n,.z s.bit,.u s.inc,.d (.ro 1 (ae s.body))],.bx 94 [.d (.v (.string ⟨((af s.kind.toNat).word).toArray⟩)),.d (.v (.bool true)),.d (.v (.bool ((af s.kind.toNat).peer))),.d (.v (.bool ((af s.kind.toNat).n))),.d (.v (.bool ((af s.kind.toNat).bit))),.d (.v (.bool ((af s.kind.toNat).inc))),.d (.v (.bool ((af s.kind.toNat).body)))],.bx 87 [.sl 5 (1+(1))],.rw 9 1 ([[.v (.string ⟨((af s.kind.toNat).word).toArray⟩)]]++[[.v (.string ⟨(Go.Lib.decDigits s.node.toNat).toArray⟩)]])]) tk mo hK ao [(4,[(5,.z (((s.node.toNat:Nat):Int))),(6,.bP 200 [(1,[(2,.mem [1] (.d (.v (.string ⟨(Go.Lib.decDigits s.node.toNat).toArray⟩))) [.gw 1 aV])])])])] 2 [0,1,2,3,5,4] [1,3,4,5] r (by kernel_rfl) (U ((mC qB o9):IntKind.u64.wrap (s.node)=((s.node.toNat:Nat):Int)) (U (qn s.node.toNat (by omega)) (U ((by first | rfl | (simp [strs];done) | (simp [strs];omega)):(1)=([[.v (.string ⟨((af s.kind.toNat).word).toArray⟩)]]:List (List DV)).length) (U ((by first | rfl | (simp [strs];done) | (simp [strs];omega)):(1)=([[.v (.string ⟨(Go.Lib.decDigits s.node.toNat).toArray⟩)]]:List (List DV)).length) (U ((by first | omega | (simp [strs];done) | (have:=fz s 5;simp [strs];omega)):(2*((1)+(1))+192)*16≤281474976710656) (U ((by first | omega | (simp [strs];done) | (have:=fz s 5;simp [strs];omega)):(1)+(1)<4611686018427387904) (U ((by simp [aA,AV.one,aW,ae,ah,ints,steps,strs]):aA ([[.v (.string ⟨(Go.Lib.decDigits s.node.toNat).toArray⟩)]])) trivial))))))) fun ac wd r=>?_
   exact J4 ac wd (r.cast rfl (by rw [p9 (j:=0) h0,pR (j:=0) h0,h0]<;>rfl))
 intro ac wd r
 have OV:=fz s 1
 suffices J5:∀ ac wd,RB D w0 K 58 bs [(1,.pt 2 0),(3,.pt 3 0),(4,.pt 4 0),(5,.fn 72 [.pt 4 0])] [.gw 0 aj,.gw 1 aV,.bx 42 [.z s.kind,.z s.node,.z s.peer,.z s.n,.z s.bit,.u s.inc,.d (.ro 1 (ae s.body))],.bx 94 [.d (.v (.string ⟨((af s.kind.toNat).word).toArray⟩)),.d (.v (.bool ((af s.kind.toNat).node))),.d (.v (.bool ((af s.kind.toNat).peer))),.d (.v (.bool ((af s.kind.toNat).n))),.d (.v (.bool ((af s.kind.toNat).bit))),.d (.v (.bool ((af s.kind.toNat).inc))),.d (.v (.bool ((af s.kind.toNat).body)))],.bx 87 [.sl 5 ((aZ s 2).length)],.rw 9 1 (strs (aZ s 2))] ac wd→aD Tryz.prog 42 (aft Tryz.f42 5) (eH D w0 K bs (.d (.v (.string ⟨(bn (cw s)).toArray⟩))) ([.gw 0 aj,.gw 1 aV])) ac wd by
  cases h1:((af s.kind.toNat).peer) with
  | false=>
   have r:=r.cast (M':=[.gw 0 aj,.gw 1 aV,.bx 42 [.z s.kind,.z s.node,.z s.peer,.z s.n,.z s.bit,.u s.inc,.d (.ro 1 (ae s.body))],.bx 94 [.d (.v (.string ⟨((af s.kind.toNat).word).toArray⟩)),.d (.v (.bool ((af s.kind.toNat).node))),.d (.v (.bool false)),.d (.v (.bool ((af s.kind.toNat).n))),.d (.v (.bool ((af s.kind.toNat).bit))),.d (.v (.bool ((af s.kind.toNat).inc))),.d (.v (.bool ((af s.kind.toNat).body)))],.bx 87 [.sl 5 ((aZ s 1).length)],.rw 9 1 (strs (aZ s 1))]) rfl (by rw [h1])
   refine bW (todo':=aft Tryz.f42 5) (E':=[(1,.pt 2 0),(3,.pt 3 0),(4,.pt 4 0),(5,.fn 72 [.pt 4 0])]) (M':=[.gw 0 aj,.gw 1 aV,.bx 42 [.z s.kind,.z s.node,.z s.peer,.z s.n,.z s.bit,.u s.inc,.d (.ro 1 (ae s.body))],.bx 94 [.d (.v (.string ⟨((af s.kind.toNat).word).toArray⟩)),.d (.v (.bool ((af s.kind.toNat).node))),.d (.v (.bool false)),.d (.v (.bool ((af s.kind.toNat).n))),.d (.v (.bool ((af s.kind.toNat).bit))),.d (.v (.bool ((af s.kind.toNat).inc))),.d (.v (.bool ((af s.kind.toNat).body)))],.bx 87 [.sl 5 ((aZ s 1).length)],.rw 9 1 (strs (aZ s 1))]) tk mo hK ao [(5,[(5,.z (((s.peer.toNat:Nat):Int))),(6,.bP 200 [])])] 2 [0,1,2,3,4,5] [1,3,4,5] r (by kernel_rfl) (U ((mC CZ pa):IntKind.u64.wrap (s.peer)=((s.peer.toNat:Nat):Int)) trivial) fun ac wd r=>?_
   exact J5 ac wd (r.cast rfl (by rw [qa (j:=1) h1,h1]<;>rfl))
  | true=>
   have r:=r.cast (M':=[.gw 0 aj,.gw 1 aV,.bx 42 [.z s.kind,.z s.node,.z s.peer,.z s.n,.z s.bit,.u s.inc,.d (.ro 1 (ae s.body))],.bx 94 [.d (.v (.string ⟨((af s.kind.toNat).word).toArray⟩)),.d (.v (.bool ((af s.kind.toNat).node))),.d (.v (.bool true)),.d (.v (.bool ((af s.kind.toNat).n))),.d (.v (.bool ((af s.kind.toNat).bit))),.d (.v (.bool ((af s.kind.toNat).inc))),.d (.v (.bool ((af s.kind.toNat).body)))],.bx 87 [.sl 5 ((aZ s 1).length)],.rw 9 1 (strs (aZ s 1))]) rfl (by rw [h1])
   refine bW (todo':=aft Tryz.f42 5) (E':=[(1,.pt 2 0),(3,.pt 3 0),(4,.pt 4 0),(5,.fn 72 [.pt 4 0])]) (M':=[.gw 0 aj,.gw 1 aV,.bx 42 [.z s.kind,.z s.node,.z s.peer,.z s.n,.z s.bit,.u s.inc,.d (.ro 1 (ae s.body))],.bx 94 [.d (.v (.string ⟨((af s.kind.toNat).word).toArray⟩)),.d (.v (.bool ((af s.kind.toNat).node))),.d (.v (.bool true)),.d (.v (.bool ((af s.kind.toNat).n))),.d (.v (.bool ((af s.kind.toNat).bit))),.d (.v (.bool ((af s.kind.toNat).inc))),.d (.v (.bool ((af s.kind.toNat).body)))],.bx 87 [.sl 5 ((aZ s 1).length+(1))],.rw 9 1 (strs (aZ s 1)++[[.v (.string ⟨(Go.Lib.decDigits s.peer.toNat).toArray⟩)]])]) tk mo hK ao [(5,[(5,.z (((s.peer.toNat:Nat):Int))),(6,.bP 200 [(1,[(2,.mem [1] (.d (.v (.string ⟨(Go.Lib.decDigits s.peer.toNat).toArray⟩))) [.gw 1 aV])])])])] 2 [0,1,2,3,4,5] [1,3,4,5] r (by kernel_rfl) (U ((mC CZ pa):IntKind.u64.wrap (s.peer)=((s.peer.toNat:Nat):Int)) (U (qn s.peer.toNat (by omega)) (U ((by first | rfl | (simp [strs];done) | (simp [strs];omega)):((aZ s 1).length)=(strs (aZ s 1):List (List DV)).length) (U ((by first | rfl | (simp [strs];done) | (simp [strs];omega)):(1)=([[.v (.string ⟨(Go.Lib.decDigits s.peer.toNat).toArray⟩)]]:List (List DV)).length) (U ((by first | omega | (simp [strs];done) | (have:=fz s 5;simp [strs];omega)):(2*(((aZ s 1).length)+(1))+192)*16≤281474976710656) (U ((by first | omega | (simp [strs];done) | (have:=fz s 5;simp [strs];omega)):((aZ s 1).length)+(1)<4611686018427387904) (U ((by simp [aA,AV.one,aW,ae,ah,ints,steps,strs]):aA ([[.v (.string ⟨(Go.Lib.decDigits s.peer.toNat).toArray⟩)]])) trivial))))))) fun ac wd r=>?_
   exact J5 ac wd (r.cast rfl (by rw [p9 (j:=1) h1,pR (j:=1) h1,h1]<;>rfl))
 intro ac wd r
 have NK:=fz s 2
 suffices J6:∀ ac wd,RB D w0 K 58 bs [(1,.pt 2 0),(3,.pt 3 0),(4,.pt 4 0),(5,.fn 72 [.pt 4 0])] [.gw 0 aj,.gw 1 aV,.bx 42 [.z s.kind,.z s.node,.z s.peer,.z s.n,.z s.bit,.u s.inc,.d (.ro 1 (ae s.body))],.bx 94 [.d (.v (.string ⟨((af s.kind.toNat).word).toArray⟩)),.d (.v (.bool ((af s.kind.toNat).node))),.d (.v (.bool ((af s.kind.toNat).peer))),.d (.v (.bool ((af s.kind.toNat).n))),.d (.v (.bool ((af s.kind.toNat).bit))),.d (.v (.bool ((af s.kind.toNat).inc))),.d (.v (.bool ((af s.kind.toNat).body)))],.bx 87 [.sl 5 ((aZ s 3).length)],.rw 9 1 (strs (aZ s 3))] ac wd→aD Tryz.prog 42 (aft Tryz.f42 6) (eH D w0 K bs (.d (.v (.string ⟨(bn (cw s)).toArray⟩))) ([.gw 0 aj,.gw 1 aV])) ac wd by
  cases h2:((af s.kind.toNat).n) with
  | false=>
   have r:=r.cast (M':=[.gw 0 aj,.gw 1 aV,.bx 42 [.z s.kind,.z s.node,.z s.peer,.z s.n,.z s.bit,.u s.inc,.d (.ro 1 (ae s.body))],.bx 94 [.d (.v (.string ⟨((af s.kind.toNat).word).toArray⟩)),.d (.v (.bool ((af s.kind.toNat).node))),.d (.v (.bool ((af s.kind.toNat).peer))),.d (.v (.bool false)),.d (.v (.bool ((af s.kind.toNat).bit))),.d (.v (.bool ((af s.kind.toNat).inc))),.d (.v (.bool ((af s.kind.toNat).body)))],.bx 87 [.sl 5 ((aZ s 2).length)],.rw 9 1 (strs (aZ s 2))]) rfl (by rw [h2])
   refine bW (todo':=aft Tryz.f42 6) (E':=[(1,.pt 2 0),(3,.pt 3 0),(4,.pt 4 0),(5,.fn 72 [.pt 4 0])]) (M':=[.gw 0 aj,.gw 1 aV,.bx 42 [.z s.kind,.z s.node,.z s.peer,.z s.n,.z s.bit,.u s.inc,.d (.ro 1 (ae s.body))],.bx 94 [.d (.v (.string ⟨((af s.kind.toNat).word).toArray⟩)),.d (.v (.bool ((af s.kind.toNat).node))),.d (.v (.bool ((af s.kind.toNat).peer))),.d (.v (.bool false)),.d (.v (.bool ((af s.kind.toNat).bit))),.d (.v (.bool ((af s.kind.toNat).inc))),.d (.v (.bool ((af s.kind.toNat).body)))],.bx 87 [.sl 5 ((aZ s 2).length)],.rw 9 1 (strs (aZ s 2))]) tk mo hK ao [(6,[(5,.z (((s.n.toNat:Nat):Int))),(6,.bP 200 [])])] 2 [0,1,2,3,4,5] [1,3,4,5] r (by kernel_rfl) (U ((mC C0 pc):IntKind.u64.wrap (s.n)=((s.n.toNat:Nat):Int)) trivial) fun ac wd r=>?_
   exact J6 ac wd (r.cast rfl (by rw [qa (j:=2) h2,h2]<;>rfl))
  | true=>
   have r:=r.cast (M':=[.gw 0 aj,.gw 1 aV,.bx 42 [.z s.kind,.z s.node,.z s.peer,.z s.n,.z s.bit,.u s.inc,.d (.ro 1 (ae s.body))],.bx 94 [.d (.v (.string ⟨((af s.kind.toNat).word).toArray⟩)),.d (.v (.bool ((af s.kind.toNat).node))),.d (.v (.bool ((af s.kind.toNat).peer))),.d (.v (.bool true)),.d (.v (.bool ((af s.kind.toNat).bit))),.d (.v (.bool ((af s.kind.toNat).inc))),.d (.v (.bool ((af s.kind.toNat).body)))],.bx 87 [.sl 5 ((aZ s 2).length)],.rw 9 1 (strs (aZ s 2))]) rfl (by rw [h2])
   refine bW (todo':=aft Tryz.f42 6) (E':=[(1,.pt 2 0),(3,.pt 3 0),(4,.pt 4 0),(5,.fn 72 [.pt 4 0])]) (M':=[.gw 0 aj,.gw 1 aV,.bx 42 [.z s.kind,.z s.node,.z s.peer,.z s.n,.z s.bit,.u s.inc,.d (.ro 1 (ae s.body))],.bx 94 [.d (.v (.string ⟨((af s.kind.toNat).word).toArray⟩)),.d (.v (.bool ((af s.kind.toNat).node))),.d (.v (.bool ((af s.kind.toNat).peer))),.d (.v (.bool true)),.d (.v (.bool ((af s.kind.toNat).bit))),.d (.v (.bool ((af s.kind.toNat).inc))),.d (.v (.bool ((af s.kind.toNat).body)))],.bx 87 [.sl 5 ((aZ s 2).length+(1))],.rw 9 1 (strs (aZ s 2)++[[.v (.string ⟨(Go.Lib.decDigits s.n.toNat).toArray⟩)]])]) tk mo hK ao [(6,[(5,.z (((s.n.toNat:Nat):Int))),(6,.bP 200 [(1,[(2,.mem [1] (.d (.v (.string ⟨(Go.Lib.decDigits s.n.toNat).toArray⟩))) [.gw 1 aV])])])])] 2 [0,1,2,3,4,5] [1,3,4,5] r (by kernel_rfl) (U ((mC C0 pc):IntKind.u64.wrap (s.n)=((s.n.toNat:Nat):Int)) (U (qn s.n.toNat (by omega)) (U ((by first | rfl | (simp [strs];done) | (simp [strs];omega)):((aZ s 2).length)=(strs (aZ s 2):List (List DV)).length) (U ((by first | rfl | (simp [strs];done) | (simp [strs];omega)):(1)=([[.v (.string ⟨(Go.Lib.decDigits s.n.toNat).toArray⟩)]]:List (List DV)).length) (U ((by first | omega | (simp [strs];done) | (have:=fz s 5;simp [strs];omega)):(2*(((aZ s 2).length)+(1))+192)*16≤281474976710656) (U ((by first | omega | (simp [strs];done) | (have:=fz s 5;simp [strs];omega)):((aZ s 2).length)+(1)<4611686018427387904) (U ((by simp [aA,AV.one,aW,ae,ah,ints,steps,strs]):aA ([[.v (.string ⟨(Go.Lib.decDigits s.n.toNat).toArray⟩)]])) trivial))))))) fun ac wd r=>?_
   exact J6 ac wd (r.cast rfl (by rw [p9 (j:=2) h2,pR (j:=2) h2,h2]<;>rfl))
 intro ac wd r
 have yi:=fz s 3
 suffices J7:∀ ac wd,RB D w0 K 58 bs [(1,.pt 2 0),(3,.pt 3 0),(4,.pt 4 0),(5,.fn 72 [.pt 4 0])] [.gw 0 aj,.gw 1 aV,.bx 42 [.z s.kind,.z s.node,.z s.peer,.z s.n,.z s.bit,.u s.inc,.d (.ro 1 (ae s.body))],.bx 94 [.d (.v (.string ⟨((af s.kind.toNat).word).toArray⟩)),.d (.v (.bool ((af s.kind.toNat).node))),.d (.v (.bool ((af s.kind.toNat).peer))),.d (.v (.bool ((af s.kind.toNat).n))),.d (.v (.bool ((af s.kind.toNat).bit))),.d (.v (.bool ((af s.kind.toNat).inc))),.d (.v (.bool ((af s.kind.toNat).body)))],.bx 87 [.sl 5 ((aZ s 4).length)],.rw 9 1 (strs (aZ s 4))] ac wd→aD Tryz.prog 42 (aft Tryz.f42 7) (eH D w0 K bs (.d (.v (.string ⟨(bn (cw s)).toArray⟩))) ([.gw 0 aj,.gw 1 aV])) ac wd by
  cases h3:((af s.kind.toNat).bit) with
  | false=>
   have r:=r.cast (M':=[.gw 0 aj,.gw 1 aV,.bx 42 [.z s.kind,.z s.node,.z s.peer,.z s.n,.z s.bit,.u s.inc,.d (.ro 1 (ae s.body))],.bx 94 [.d (.v (.string ⟨((af s.kind.toNat).word).toArray⟩)),.d (.v (.bool ((af s.kind.toNat).node))),.d (.v (.bool ((af s.kind.toNat).peer))),.d (.v (.bool ((af s.kind.toNat).n))),.d (.v (.bool false)),.d (.v (.bool ((af s.kind.toNat).inc))),.d (.v (.bool ((af s.kind.toNat).body)))],.bx 87 [.sl 5 ((aZ s 3).length)],.rw 9 1 (strs (aZ s 3))]) rfl (by rw [h3])
   refine bW (todo':=aft Tryz.f42 7) (E':=[(1,.pt 2 0),(3,.pt 3 0),(4,.pt 4 0),(5,.fn 72 [.pt 4 0])]) (M':=[.gw 0 aj,.gw 1 aV,.bx 42 [.z s.kind,.z s.node,.z s.peer,.z s.n,.z s.bit,.u s.inc,.d (.ro 1 (ae s.body))],.bx 94 [.d (.v (.string ⟨((af s.kind.toNat).word).toArray⟩)),.d (.v (.bool ((af s.kind.toNat).node))),.d (.v (.bool ((af s.kind.toNat).peer))),.d (.v (.bool ((af s.kind.toNat).n))),.d (.v (.bool false)),.d (.v (.bool ((af s.kind.toNat).inc))),.d (.v (.bool ((af s.kind.toNat).body)))],.bx 87 [.sl 5 ((aZ s 3).length)],.rw 9 1 (strs (aZ s 3))]) tk mo hK ao [(7,[(5,.z (((s.bit.toNat:Nat):Int))),(6,.bP 200 [])])] 2 [0,1,2,3,4,5] [1,3,4,5] r (by kernel_rfl) (U ((mC dY ft):IntKind.u64.wrap (s.bit)=((s.bit.toNat:Nat):Int)) trivial) fun ac wd r=>?_
   exact J7 ac wd (r.cast rfl (by rw [qa (j:=3) h3,h3]<;>rfl))
  | true=>
   have r:=r.cast (M':=[.gw 0 aj,.gw 1 aV,.bx 42 [.z s.kind,.z s.node,.z s.peer,.z s.n,.z s.bit,.u s.inc,.d (.ro 1 (ae s.body))],.bx 94 [.d (.v (.string ⟨((af s.kind.toNat).word).toArray⟩)),.d (.v (.bool ((af s.kind.toNat).node))),.d (.v (.bool ((af s.kind.toNat).peer))),.d (.v (.bool ((af s.kind.toNat).n))),.d (.v (.bool true)),.d (.v (.bool ((af s.kind.toNat).inc))),.d (.v (.bool ((af s.kind.toNat).body)))],.bx 87 [.sl 5 ((aZ s 3).length)],.rw 9 1 (strs (aZ s 3))]) rfl (by rw [h3])
   refine bW (todo':=aft Tryz.f42 7) (E':=[(1,.pt 2 0),(3,.pt 3 0),(4,.pt 4 0),(5,.fn 72 [.pt 4 0])]) (M':=[.gw 0 aj,.gw 1 aV,.bx 42 [.z s.kind,.z s.node,.z s.peer,.z s.n,.z s.bit,.u s.inc,.d (.ro 1 (ae s.body))],.bx 94 [.d (.v (.string ⟨((af s.kind.toNat).word).toArray⟩)),.d (.v (.bool ((af s.kind.toNat).node))),.d (.v (.bool ((af s.kind.toNat).peer))),.d (.v (.bool ((af s.kind.toNat).n))),.d (.v (.bool true)),.d (.v (.bool ((af s.kind.toNat).inc))),.d (.v (.bool ((af s.kind.toNat).body)))],.bx 87 [.sl 5 ((aZ s 3).length+(1))],.rw 9 1 (strs (aZ s 3)++[[.v (.string ⟨(Go.Lib.decDigits s.bit.toNat).toArray⟩)]])]) tk mo hK ao [(7,[(5,.z (((s.bit.toNat:Nat):Int))),(6,.bP 200 [(1,[(2,.mem [1] (.d (.v (.string ⟨(Go.Lib.decDigits s.bit.toNat).toArray⟩))) [.gw 1 aV])])])])] 2 [0,1,2,3,4,5] [1,3,4,5] r (by kernel_rfl) (U ((mC dY ft):IntKind.u64.wrap (s.bit)=((s.bit.toNat:Nat):Int)) (U (qn s.bit.toNat (by omega)) (U ((by first | rfl | (simp [strs];done) | (simp [strs];omega)):((aZ s 3).length)=(strs (aZ s 3):List (List DV)).length) (U ((by first | rfl | (simp [strs];done) | (simp [strs];omega)):(1)=([[.v (.string ⟨(Go.Lib.decDigits s.bit.toNat).toArray⟩)]]:List (List DV)).length) (U ((by first | omega | (simp [strs];done) | (have:=fz s 5;simp [strs];omega)):(2*(((aZ s 3).length)+(1))+192)*16≤281474976710656) (U ((by first | omega | (simp [strs];done) | (have:=fz s 5;simp [strs];omega)):((aZ s 3).length)+(1)<4611686018427387904) (U ((by simp [aA,AV.one,aW,ae,ah,ints,steps,strs]):aA ([[.v (.string ⟨(Go.Lib.decDigits s.bit.toNat).toArray⟩)]])) trivial))))))) fun ac wd r=>?_
   exact J7 ac wd (r.cast rfl (by rw [p9 (j:=3) h3,pR (j:=3) h3,h3]<;>rfl))
 intro ac wd r
 have NL:=fz s 4
 suffices J8:∀ ac wd,RB D w0 K 58 bs [(1,.pt 2 0),(3,.pt 3 0),(4,.pt 4 0),(5,.fn 72 [.pt 4 0])] [.gw 0 aj,.gw 1 aV,.bx 42 [.z s.kind,.z s.node,.z s.peer,.z s.n,.z s.bit,.u s.inc,.d (.ro 1 (ae s.body))],.bx 94 [.d (.v (.string ⟨((af s.kind.toNat).word).toArray⟩)),.d (.v (.bool ((af s.kind.toNat).node))),.d (.v (.bool ((af s.kind.toNat).peer))),.d (.v (.bool ((af s.kind.toNat).n))),.d (.v (.bool ((af s.kind.toNat).bit))),.d (.v (.bool ((af s.kind.toNat).inc))),.d (.v (.bool ((af s.kind.toNat).body)))],.bx 87 [.sl 5 ((aZ s 5).length)],.rw 9 1 (strs (aZ s 5))] ac wd→aD Tryz.prog 42 (aft Tryz.f42 8) (eH D w0 K bs (.d (.v (.string ⟨(bn (cw s)).toArray⟩))) ([.gw 0 aj,.gw 1 aV])) ac wd by
  cases h4:((af s.kind.toNat).inc) with
  | false=>
   have r:=r.cast (M':=[.gw 0 aj,.gw 1 aV,.bx 42 [.z s.kind,.z s.node,.z s.peer,.z s.n,.z s.bit,.u s.inc,.d (.ro 1 (ae s.body))],.bx 94 [.d (.v (.string ⟨((af s.kind.toNat).word).toArray⟩)),.d (.v (.bool ((af s.kind.toNat).node))),.d (.v (.bool ((af s.kind.toNat).peer))),.d (.v (.bool ((af s.kind.toNat).n))),.d (.v (.bool ((af s.kind.toNat).bit))),.d (.v (.bool false)),.d (.v (.bool ((af s.kind.toNat).body)))],.bx 87 [.sl 5 ((aZ s 4).length)],.rw 9 1 (strs (aZ s 4))]) rfl (by rw [h4])
   refine bW (todo':=aft Tryz.f42 8) (E':=[(1,.pt 2 0),(3,.pt 3 0),(4,.pt 4 0),(5,.fn 72 [.pt 4 0])]) (M':=[.gw 0 aj,.gw 1 aV,.bx 42 [.z s.kind,.z s.node,.z s.peer,.z s.n,.z s.bit,.u s.inc,.d (.ro 1 (ae s.body))],.bx 94 [.d (.v (.string ⟨((af s.kind.toNat).word).toArray⟩)),.d (.v (.bool ((af s.kind.toNat).node))),.d (.v (.bool ((af s.kind.toNat).peer))),.d (.v (.bool ((af s.kind.toNat).n))),.d (.v (.bool ((af s.kind.toNat).bit))),.d (.v (.bool false)),.d (.v (.bool ((af s.kind.toNat).body)))],.bx 87 [.sl 5 ((aZ s 4).length)],.rw 9 1 (strs (aZ s 4))]) tk mo hK ao [(8,[(5,.bP 200 [])])] 2 [0,1,2,3,4,5] [1,3,4,5] r (by kernel_rfl) trivial fun ac wd r=>?_
   exact J8 ac wd (r.cast rfl (by rw [qa (j:=4) h4,h4]<;>rfl))
  | true=>
   have r:=r.cast (M':=[.gw 0 aj,.gw 1 aV,.bx 42 [.z s.kind,.z s.node,.z s.peer,.z s.n,.z s.bit,.u s.inc,.d (.ro 1 (ae s.body))],.bx 94 [.d (.v (.string ⟨((af s.kind.toNat).word).toArray⟩)),.d (.v (.bool ((af s.kind.toNat).node))),.d (.v (.bool ((af s.kind.toNat).peer))),.d (.v (.bool ((af s.kind.toNat).n))),.d (.v (.bool ((af s.kind.toNat).bit))),.d (.v (.bool true)),.d (.v (.bool ((af s.kind.toNat).body)))],.bx 87 [.sl 5 ((aZ s 4).length)],.rw 9 1 (strs (aZ s 4))]) rfl (by rw [h4])
   refine bW (todo':=aft Tryz.f42 8) (E':=[(1,.pt 2 0),(3,.pt 3 0),(4,.pt 4 0),(5,.fn 72 [.pt 4 0])]) (M':=[.gw 0 aj,.gw 1 aV,.bx 42 [.z s.kind,.z s.node,.z s.peer,.z s.n,.z s.bit,.u s.inc,.d (.ro 1 (ae s.body))],.bx 94 [.d (.v (.string ⟨((af s.kind.toNat).word).toArray⟩)),.d (.v (.bool ((af s.kind.toNat).node))),.d (.v (.bool ((af s.kind.toNat).peer))),.d (.v (.bool ((af s.kind.toNat).n))),.d (.v (.bool ((af s.kind.toNat).bit))),.d (.v (.bool true)),.d (.v (.bool ((af s.kind.toNat).body)))],.bx 87 [.sl 5 ((aZ s 4).length+(1))],.rw 9 1 (strs (aZ s 4)++[[.v (.string ⟨(Go.Lib.decDigits s.inc).toArray⟩)]])]) tk mo hK ao [(8,[(5,.bP 200 [(1,[(2,.mem [1] (.d (.v (.string ⟨(Go.Lib.decDigits s.inc).toArray⟩))) [.gw 1 aV])])])])] 2 [0,1,2,3,4,5] [1,3,4,5] r (by kernel_rfl) (U (qn s.inc (by omega)) (U ((by first | rfl | (simp [strs];done) | (simp [strs];omega)):((aZ s 4).length)=(strs (aZ s 4):List (List DV)).length) (U ((by first | rfl | (simp [strs];done) | (simp [strs];omega)):(1)=([[.v (.string ⟨(Go.Lib.decDigits s.inc).toArray⟩)]]:List (List DV)).length) (U ((by first | omega | (simp [strs];done) | (have:=fz s 5;simp [strs];omega)):(2*(((aZ s 4).length)+(1))+192)*16≤281474976710656) (U ((by first | omega | (simp [strs];done) | (have:=fz s 5;simp [strs];omega)):((aZ s 4).length)+(1)<4611686018427387904) (U ((by simp [aA,AV.one,aW,ae,ah,ints,steps,strs]):aA ([[.v (.string ⟨(Go.Lib.decDigits s.inc).toArray⟩)]])) trivial)))))) fun ac wd r=>?_
   exact J8 ac wd (r.cast rfl (by rw [p9 (j:=4) h4,pR (j:=4) h4,h4]<;>rfl))
 intro ac wd r
 have NM:=fz s 5
 refine bW (todo':=aft Tryz.f42 9) (E':=[(1,.pt 2 0),(4,.pt 4 0),(49,.d (.v (.bool ((af s.kind.toNat).body))))]) (M':=[.gw 0 aj,.gw 1 aV,.bx 42 [.z s.kind,.z s.node,.z s.peer,.z s.n,.z s.bit,.u s.inc,.d (.ro 1 (ae s.body))],.bx 94 [.d (.v (.string ⟨((af s.kind.toNat).word).toArray⟩)),.d (.v (.bool ((af s.kind.toNat).node))),.d (.v (.bool ((af s.kind.toNat).peer))),.d (.v (.bool ((af s.kind.toNat).n))),.d (.v (.bool ((af s.kind.toNat).bit))),.d (.v (.bool ((af s.kind.toNat).inc))),.d (.v (.bool ((af s.kind.toNat).body)))],.bx 87 [.sl 5 ((aZ s 5).length)],.rw 9 1 (strs (aZ s 5))]) tk mo hK ao [] 3 [0,1,2,3,4,5] [1,4,49] r (by kernel_rfl) trivial fun ac wd r=>?_
 cases h5:((af s.kind.toNat).body) with
 | false=>
  have r:=r.cast (E':=[(1,.pt 2 0),(4,.pt 4 0),(49,.d (.v (.bool false)))]) (M':=[.gw 0 aj,.gw 1 aV,.bx 42 [.z s.kind,.z s.node,.z s.peer,.z s.n,.z s.bit,.u s.inc,.d (.ro 1 (ae s.body))],.bx 94 [.d (.v (.string ⟨((af s.kind.toNat).word).toArray⟩)),.d (.v (.bool ((af s.kind.toNat).node))),.d (.v (.bool ((af s.kind.toNat).peer))),.d (.v (.bool ((af s.kind.toNat).n))),.d (.v (.bool ((af s.kind.toNat).bit))),.d (.v (.bool ((af s.kind.toNat).inc))),.d (.v (.bool false))],.bx 87 [.sl 5 ((aZ s 5).length)],.rw 9 1 (strs (aZ s 5))]) (by rw [h5]) (by rw [h5])
  refine bg (y:=.d (.v (.string ⟨(bn (cw s)).toArray⟩))) (N':=[.gw 0 aj,.gw 1 aV]) (rfl) (rfl) ?_
  exact bf tk mo hK rfl ao [(11,[(1,.call [.d (.ro 1 (strs (cw s))),.d (.v (.string ⟨([32]).toArray⟩))] (.v (.string ⟨(bn (cw s)).toArray⟩)))])] 2000 [0,1] r (by kernel_rfl) (U (vF _ _ (Nat.le_trans (Nat.le_of_succ_le (pG (s:=s) hb hi o9 pa pc ft).2) (by decide)) (Nat.le_trans (pG (s:=s) hb hi o9 pa pc ft).1 (by decide)):al Tryz.prog 71 [.d (.ro 1 (strs (cw s))),.d (.v (.string ⟨([32]).toArray⟩))] (.v (.string ⟨(bn (cw s)).toArray⟩))) (U ((iG _):fS (.v (.string ⟨(bn (cw s)).toArray⟩))) (U (eY (1)) (U ((by first | rfl | (simp [strs];done) | (simp [strs];omega)):((aZ s 5).length)=(strs (aZ s 5):List (List DV)).length) (U ((by first | (rw [BF (by assumption)];simp [strs,jC,dK];done) | (rw [BE (by assumption)];simp [strs,jC,dK])):cN (strs (aZ s 5))=strs (cw s)) (U (mA (.v (.string ⟨([32]).toArray⟩))) trivial))))))
 | true=>
  have r:=r.cast (E':=[(1,.pt 2 0),(4,.pt 4 0),(49,.d (.v (.bool true)))]) (M':=[.gw 0 aj,.gw 1 aV,.bx 42 [.z s.kind,.z s.node,.z s.peer,.z s.n,.z s.bit,.u s.inc,.d (.ro 1 (ae s.body))],.bx 94 [.d (.v (.string ⟨((af s.kind.toNat).word).toArray⟩)),.d (.v (.bool ((af s.kind.toNat).node))),.d (.v (.bool ((af s.kind.toNat).peer))),.d (.v (.bool ((af s.kind.toNat).n))),.d (.v (.bool ((af s.kind.toNat).bit))),.d (.v (.bool ((af s.kind.toNat).inc))),.d (.v (.bool true))],.bx 87 [.sl 5 ((aZ s 5).length)],.rw 9 1 (strs (aZ s 5))]) (by rw [h5]) (by rw [h5])
  refine bg (y:=.d (.v (.string ⟨(bn (cw s)).toArray⟩))) (N':=[.gw 0 aj,.gw 1 aV]) (rfl) (rfl) ?_
  exact bf tk mo hK rfl ao [(10,[(3,.ax (.v (.string ⟨(iH s.body).toArray⟩)))]),(11,[(1,.call [.d (.ro 1 (strs (cw s))),.d (.v (.string ⟨([32]).toArray⟩))] (.v (.string ⟨(bn (cw s)).toArray⟩)))])] 2000 [0,1] r (by kernel_rfl) (U (Ee s.body (by omega)) (U ((by first | rfl | (simp [strs];done) | (simp [strs];omega)):((aZ s 5).length)=(strs (aZ s 5):List (List DV)).length) (U ((by first | rfl | (simp [strs];done) | (simp [strs];omega)):(1)=([[.v (.string ⟨(iH s.body).toArray⟩)]]:List (List DV)).length) (U ((by first | omega | (simp [strs];done) | (have:=fz s 5;simp [strs];omega)):(2*(((aZ s 5).length)+(1))+192)*16≤281474976710656) (U ((by first | omega | (simp [strs];done) | (have:=fz s 5;simp [strs];omega)):((aZ s 5).length)+(1)<4611686018427387904) (U ((by simp [aA,AV.one,aW,ae,ah,ints,steps,strs]):aA ([[.v (.string ⟨(iH s.body).toArray⟩)]])) (U (vF _ _ (Nat.le_trans (Nat.le_of_succ_le (pG (s:=s) hb hi o9 pa pc ft).2) (by decide)) (Nat.le_trans (pG (s:=s) hb hi o9 pa pc ft).1 (by decide)):al Tryz.prog 71 [.d (.ro 1 (strs (cw s))),.d (.v (.string ⟨([32]).toArray⟩))] (.v (.string ⟨(bn (cw s)).toArray⟩))) (U ((iG _):fS (.v (.string ⟨(bn (cw s)).toArray⟩))) (U (eY (1)) (U ((by first | rfl | (simp [strs];done) | (simp [strs];omega)):((aZ s 5).length+(1))=(strs (aZ s 5)++[[.v (.string ⟨(iH s.body).toArray⟩)]]:List (List DV)).length) (U ((by first | (rw [BF (by assumption)];simp [strs,jC,dK];done) | (rw [BE (by assumption)];simp [strs,jC,dK])):cN (strs (aZ s 5)++[[.v (.string ⟨(iH s.body).toArray⟩)]])=strs (cw s)) (U (mA (.v (.string ⟨([32]).toArray⟩))) trivial))))))))))))
end Go.Proofs.YtcnpikbbmbombaaGreatDoor
