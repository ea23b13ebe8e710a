/-
  scriptBack_card, part 6 of 6: merged by program from the texts that it needs.
-/
import Derived.Test.YtcnpikbbmbombaaDoorSbE
set_option linter.unusedSimpArgs false
set_option linter.unusedVariables false
set_option linter.unnecessarySimpa false
namespace Go.Proofs.YtcnpikbbmbombaaDoor
open Go.RowKit
def tq (s:az×Bool):List DV:=cond s.2 s.1.lr [.z 0,.z 0,.z 0,.z 0,.z 0,.v (.int .u64 0),.v (.slice none 0 0)]
def cv (l:List (az×Bool)):List (List DV):=l.map tq
theorem HP {l:List (az×Bool)} {s:az×Bool} (h:s.2=true):cv (l++[s])=cv l++[s.1.lr]:=by unfold cv tq;rw [List.map_append,List.map_cons,List.map_nil,h];rfl
theorem HQ {l:List (az×Bool)} {s:az×Bool} (h:s.2=false):cv (l++[s])=cv l++[[.z 0,.z 0,.z 0,.z 0,.z 0,.v (.int .u64 0),.v (.slice none 0 0)]]:=by unfold cv tq;rw [List.map_append,List.map_cons,List.map_nil,h];rfl
theorem AJ {c:UInt8}:∀ {s:List UInt8},s.count c=0→ay c s=s
 | [],_=>rfl
 | x::r,h=>by
  by_cases hx:x=c
  ·subst hx;simp at h
  ·rw [ay,if_neg hx,AJ (by rw [List.count_cons_of_ne hx] at h;exact h)]
theorem ns (q:List UInt8) (hl:q.length≤1048576):aB Tryd.prog 51 [.d (.v (.string ⟨q.toArray⟩)),.d (.v (.string ⟨[10].toArray⟩))] (.tu [.v (.string ⟨(ay 10 q).toArray⟩),.v (.string ⟨(bW 10 q).toArray⟩),.v (.bool (decide (0<q.count 10)))]):=by
 by_cases h:0<q.count 10
 ·rw [decide_eq_true h];exact oF 10 q (by omega) h
 ·rw [decide_eq_false h]
  have e:=AJ (c:=10) (s:=q) (by omega)
  have e2:bW 10 q=[]:=by unfold bW;rw [e,List.drop_of_length_le (by omega)]
  rw [e,e2];exact BF 10 q (by omega) (by omega)
theorem sv {q:List UInt8} {n:Nat} {b:Bool} {c:bk} {S:List (az×Bool)} {B:List Int} (hq:q≠[]) (h:ay 10 q=[]∨(ay 10 q).head?=some 35):dI (fi q) n b c S B=dI (fi (bW 10 q)) (n+1) b c S B:=by
 rw [rM hq,dI,if_pos h]
theorem BW {q:List UInt8} {n:Nat} {c:bk} {S:List (az×Bool)} {B:List Int} (hq:q≠[]) (h:¬ (ay 10 q=[]∨(ay 10 q).head?=some 35)):dI (fi q) n false c S B=cond (dH (ay 10 q)).2 (dI (fi (bW 10 q)) (n+1) true (dH (ay 10 q)).1 S B) none:=by
 rw [rM hq,dI,if_neg h];rfl
theorem BX {q:List UInt8} {n:Nat} {c:bk} {S:List (az×Bool)} {B:List Int} (hq:q≠[]) (h:¬ (ay 10 q=[]∨(ay 10 q).head?=some 35)):dI (fi q) n true c S B=dI (fi (bW 10 q)) (n+1) true c (S++[bL (ay 10 q)]) (cond (bL (ay 10 q)).2 B (B++[((n:Nat):Int)])):=by
 rw [rM hq,dI,if_neg h];rfl
theorem zt {x:List UInt8} {e:UInt8} (hx:(x==([]:List UInt8))=false) (g:x[0]?=some e) (h:¬ ((e.toNat:Nat):Int)=35):¬ (x=[]∨x.head?=some 35):=by
 rintro (h1 | h1)
 ·subst h1;simp at hx
 ·rw [js g] at h1;cases h1;exact h rfl
theorem Bi {x:List UInt8} (hx:(x==([]:List UInt8))=false):∃ e,x[0]?=some e:=by
 cases x with
 | nil=>simp at hx
 | cons e r=>exact ⟨e,rfl⟩
theorem ne_nil {x:List UInt8} (hx:(x==([]:List UInt8))=false):x≠[]:=fun e=>by subst e;simp at hx
theorem DO {e:UInt8} (h:((e.toNat:Nat):Int)=35):e=35:=by apply UInt8.toNat_inj.1;simp;omega
theorem zT {q:List UInt8} (h:q≠[]):(bW 10 q).length+1≤q.length:=by
 have:=List.length_pos_iff.2 h
 unfold bW;simp;omega
set_option maxRecDepth 100000 in
theorem HR (s:List UInt8) (hl:s.length≤524288) (b1:Bool) (c1:bk) (S1:List (az×Bool)) (B1:List Int) (hS:dI (fi s) 1 false ⟨0,[],[]⟩ [] []=some (b1,c1,S1,B1)):aA Tryd.prog 50 [.yl 7,.pt 0 0] [.bx 9 [.d (.v (.string ⟨s.toArray⟩))],.gw 0 ai,.bx 25 [.z 0,.d (.v (.slice none 0 0)),.d (.v (.slice none 0 0))],.bx 26 [.d (.v (.slice none 0 0))],.bx 23 [.d (.v (.slice none 0 0))],.bx 30 [.z 0],.bx 4 [.d (.v (.bool false))],.lp .ready 12 61 [(2,.pt 2 0),(3,.pt 3 0),(4,.pt 4 0),(5,.pt 5 0),(6,.pt 6 0)] (dY Tryd.f12 0)] (.tu []) ([.bx 9 [.d (.v (.string ⟨([]).toArray⟩))],.gw 0 ai,.bx 25 [.z c1.aq,.sl 8 (c1.ah.length),.sl 9 (c1.homes.length)],.bx 26 [.sl 10 (S1.length)],.bx 23 [.sl 11 (B1.length)],.bx 30 [.z 0],.bx 4 [.d (.v (.bool b1))],.lp .ready 12 61 [(2,.pt 2 0),(3,.pt 3 0),(4,.pt 4 0),(5,.pt 5 0),(6,.pt 6 0)] (dY Tryd.f12 0),.rw 71 2 (ah c1.ah),.rw 3 1 (ints c1.homes),.rw 45 7 (cv S1),.rw 3 1 (ints B1)]):=by
 refine aA.intro (by kernel_rfl) rfl rfl 23 rfl rfl fun D w0 K bs ac wd hK (al:bs.m=8) r=>?_
 refine cd (todo':=hd Tryd.f50 0) (E':=[(0,.yl 7),(1,.pt 0 0),(3,.z 1)]) (M':=[.bx 9 [.d (.v (.string ⟨s.toArray⟩))],.gw 0 ai,.bx 25 [.z 0,.d (.v (.slice none 0 0)),.d (.v (.slice none 0 0))],.bx 26 [.d (.v (.slice none 0 0))],.bx 23 [.d (.v (.slice none 0 0))],.bx 30 [.z 0],.bx 4 [.d (.v (.bool false))],.lp .ready 12 61 [(2,.pt 2 0),(3,.pt 3 0),(4,.pt 4 0),(5,.pt 5 0),(6,.pt 6 0)] (dY Tryd.f12 0)]) tk mo hK al [] 2000 [0,1,2,3,4,5,6,7] [0,1,3] r (by kernel_rfl) trivial fun ac wd r=>?_
 refine aD.rounds (Φ:=fun (i:Nat) ac wd=>∃ q:List UInt8,∃ b:Bool,∃ c:bk,∃ S:List (az×Bool),∃ B:List Int,(i+q.length≤s.length∧S.length≤i∧B.length≤i∧dI (fi q) (i+1) b c S B=some (b1,c1,S1,B1))∧RB D w0 K 23 bs [(0,.yl 7),(1,.pt 0 0),(3,.n (i+1))] [.bx 9 [.d (.v (.string ⟨q.toArray⟩))],.gw 0 ai,.bx 25 [.z c.aq,.sl 8 (c.ah.length),.sl 9 (c.homes.length)],.bx 26 [.sl 10 (S.length)],.bx 23 [.sl 11 (B.length)],.bx 30 [.z 0],.bx 4 [.d (.v (.bool b))],.lp .ready 12 61 [(2,.pt 2 0),(3,.pt 3 0),(4,.pt 4 0),(5,.pt 5 0),(6,.pt 6 0)] (dY Tryd.f12 0),.rw 71 2 (ah c.ah),.rw 3 1 (ints c.homes),.rw 45 7 (cv S),.rw 3 1 (ints B)] ac wd) (s.length) ?_ (Nat.zero_le _) ⟨s,false,⟨0,[],[]⟩,[],[],⟨by simp,Nat.zero_le _,Nat.zero_le _,hS⟩,(r.fE (E1:=[(0,.yl 7),(1,.pt 0 0),(3,.z 1)]) (M2:=[.bx 9 [.d (.v (.string ⟨s.toArray⟩))],.gw 0 ai,.bx 25 [.z 0,.sl 8 (0),.sl 9 (0)],.bx 26 [.sl 10 (0)],.bx 23 [.sl 11 (0)],.bx 30 [.z 0],.bx 4 [.d (.v (.bool false))],.lp .ready 12 61 [(2,.pt 2 0),(3,.pt 3 0),(4,.pt 4 0),(5,.pt 5 0),(6,.pt 6 0)] (dY Tryd.f12 0),.rw 71 2 ([]),.rw 3 1 ([]),.rw 45 7 ([]),.rw 3 1 ([])]) (M1:=[.bx 9 [.d (.v (.string ⟨s.toArray⟩))],.gw 0 ai,.bx 25 [.z 0,.d (.v (.slice none 0 0)),.d (.v (.slice none 0 0))],.bx 26 [.d (.v (.slice none 0 0))],.bx 23 [.d (.v (.slice none 0 0))],.bx 30 [.z 0],.bx 4 [.d (.v (.bool false))],.lp .ready 12 61 [(2,.pt 2 0),(3,.pt 3 0),(4,.pt 4 0),(5,.pt 5 0),(6,.pt 6 0)] (dY Tryd.f12 0)]) [] [(2,1,71,2),(2,2,3,1),(3,0,45,7),(4,0,3,1)] (by kernel_rfl) (by kernel_rfl)).cast rfl rfl⟩
 clear r
 rintro i eA bP ac wd ⟨q,b,c,S,B,ao,r⟩
 cases b with
 | false=>
  cases h0:(q==([]:List UInt8)) with
  | false=>
   have du:=ne_nil (x:=q) (by assumption)
   have Ow:=zT du
   cases h1:((ay 10 q)==([]:List UInt8)) with
   | false=>
    obtain ⟨e0,g0⟩:=Bi (x:=(ay 10 q)) (by assumption)
    have aZ:=(⟨_,g0,rfl⟩:∃ u:UInt8,((ay 10 q):List UInt8)[0]?=some u∧(.v (.int .u8 (((e0.toNat:Nat):Int))):DV)=.v (.int .u8 (u.toNat:Int)))
    cases h2:((((e0.toNat:Nat):Int):Int)==35) with
    | false=>
     have c8:=ne_of_beq_false h2
     have nZ:=zt (x:=(ay 10 q)) (by assumption) g0 (by assumption)
     cases h3:((dH (ay 10 q)).2) with
     | false=>
      exact absurd ao.2.2.2 (by rw [BW du nZ,h3];simp)
     | true=>
      exact cd (todo':=hd Tryd.f50 0) (E':=[(0,.yl 7),(1,.pt 0 0),(3,.n (i+1+1))]) (M':=[.bx 9 [.d (.v (.string ⟨(bW 10 q).toArray⟩))],.gw 0 ai,.bx 25 [.z ((dH (ay 10 q)).1.aq),.sl 8 ((dH (ay 10 q)).1.ah.length),.sl 9 ((dH (ay 10 q)).1.homes.length)],.bx 26 [.sl 10 (S.length)],.bx 23 [.sl 11 (B.length)],.bx 30 [.z 0],.bx 4 [.d (.v (.bool true))],.lp .ready 12 61 [(2,.pt 2 0),(3,.pt 3 0),(4,.pt 4 0),(5,.pt 5 0),(6,.pt 6 0)] (dY Tryd.f12 0),.rw 71 2 (ah (dH (ay 10 q)).1.ah),.rw 3 1 (ints (dH (ay 10 q)).1.homes),.rw 45 7 (cv S),.rw 3 1 (ints B)]) tk mo hK al [(1,[(1,.b true)]),(2,[(1,.z (((i+1+1:Nat):Int)))]),(3,[(1,.aO (.tu [.v (.string ⟨(ay 10 q).toArray⟩),.v (.string ⟨(bW 10 q).toArray⟩),.v (.bool (decide (0<q.count 10)))]))]),(4,[(3,.bG 200 [(7,[(1,.b false),(4,.ix (0) [.v (.int .u8 (((e0.toNat:Nat):Int)))]),(5,.b false)]),(9,[(1,.mem [] (.tu [.ag [.z ((dH (ay 10 q)).1.aq),.sl 0 ((dH (ay 10 q)).1.ah.length),.sl 1 ((dH (ay 10 q)).1.homes.length)],.d (.v (.bool ((dH (ay 10 q)).2)))]) [.rw 71 2 (ah (dH (ay 10 q)).1.ah),.rw 3 1 (ints (dH (ay 10 q)).1.homes)])]),(10,[(1,.b false)])])])] 2000 [0,1,2,3,4,5,6,7,12,13,10,11] [0,1,3] r (by kernel_rfl) (U ((by simpa [bne] using h0):(q != ([]:List UInt8))=true) (U (ns q (by omega)) (U h1 (U (rfl:(0:Int)=((0:Nat):Int)) (U aZ (U h2 (U (yP (ay 10 q) (by have:=so 10 q;omega)) (U ((by rw [h3];rfl):(!((dH (ay 10 q)).2))=false) (U ((wi (by omega)):IntKind.i64.wrap ((((i+1:Nat):Int):Int)+1)=((i+1+1:Nat):Int)) trivial))))))))) fun ac wd r=>bP (by omega) ac wd ⟨(bW 10 q),true,(dH (ay 10 q)).1,S,B,⟨by omega,by omega,by omega,by rw [← ao.2.2.2,BW du nZ,h3];rfl⟩,r.cast rfl (by simp [ah,ints])⟩
    | true=>
     have c8:=eq_of_beq h2
     exact cd (todo':=hd Tryd.f50 0) (E':=[(0,.yl 7),(1,.pt 0 0),(3,.n (i+1+1))]) (M':=[.bx 9 [.d (.v (.string ⟨(bW 10 q).toArray⟩))],.gw 0 ai,.bx 25 [.z c.aq,.sl 8 (c.ah.length),.sl 9 (c.homes.length)],.bx 26 [.sl 10 (S.length)],.bx 23 [.sl 11 (B.length)],.bx 30 [.z 0],.bx 4 [.d (.v (.bool false))],.lp .ready 12 61 [(2,.pt 2 0),(3,.pt 3 0),(4,.pt 4 0),(5,.pt 5 0),(6,.pt 6 0)] (dY Tryd.f12 0),.rw 71 2 (ah c.ah),.rw 3 1 (ints c.homes),.rw 45 7 (cv S),.rw 3 1 (ints B)]) tk mo hK al [(1,[(1,.b true)]),(2,[(1,.z (((i+1+1:Nat):Int)))]),(3,[(1,.aO (.tu [.v (.string ⟨(ay 10 q).toArray⟩),.v (.string ⟨(bW 10 q).toArray⟩),.v (.bool (decide (0<q.count 10)))]))]),(4,[(3,.bG 200 [(7,[(1,.b false),(4,.ix (0) [.v (.int .u8 (((e0.toNat:Nat):Int)))]),(5,.b true)])])])] 2000 [0,1,2,3,4,5,6,7,8,9,10,11] [0,1,3] r (by kernel_rfl) (U ((by simpa [bne] using h0):(q != ([]:List UInt8))=true) (U (ns q (by omega)) (U h1 (U (rfl:(0:Int)=((0:Nat):Int)) (U aZ (U h2 (U ((wi (by omega)):IntKind.i64.wrap ((((i+1:Nat):Int):Int)+1)=((i+1+1:Nat):Int)) trivial))))))) fun ac wd r=>bP (by omega) ac wd ⟨(bW 10 q),false,c,S,B,⟨by omega,by omega,by omega,by rw [← ao.2.2.2,sv du (.inr ((js g0).trans (congrArg some (DO (by assumption)))))]⟩,r.cast rfl (by simp [ah,ints])⟩
   | true=>
    exact cd (todo':=hd Tryd.f50 0) (E':=[(0,.yl 7),(1,.pt 0 0),(3,.n (i+1+1))]) (M':=[.bx 9 [.d (.v (.string ⟨(bW 10 q).toArray⟩))],.gw 0 ai,.bx 25 [.z c.aq,.sl 8 (c.ah.length),.sl 9 (c.homes.length)],.bx 26 [.sl 10 (S.length)],.bx 23 [.sl 11 (B.length)],.bx 30 [.z 0],.bx 4 [.d (.v (.bool false))],.lp .ready 12 61 [(2,.pt 2 0),(3,.pt 3 0),(4,.pt 4 0),(5,.pt 5 0),(6,.pt 6 0)] (dY Tryd.f12 0),.rw 71 2 (ah c.ah),.rw 3 1 (ints c.homes),.rw 45 7 (cv S),.rw 3 1 (ints B)]) tk mo hK al [(1,[(1,.b true)]),(2,[(1,.z (((i+1+1:Nat):Int)))]),(3,[(1,.aO (.tu [.v (.string ⟨(ay 10 q).toArray⟩),.v (.string ⟨(bW 10 q).toArray⟩),.v (.bool (decide (0<q.count 10)))]))]),(4,[(3,.bG 200 [(7,[(1,.b true)])])])] 2000 [0,1,2,3,4,5,6,7,8,9,10,11] [0,1,3] r (by kernel_rfl) (U ((by simpa [bne] using h0):(q != ([]:List UInt8))=true) (U (ns q (by omega)) (U h1 (U ((wi (by omega)):IntKind.i64.wrap ((((i+1:Nat):Int):Int)+1)=((i+1+1:Nat):Int)) trivial)))) fun ac wd r=>bP (by omega) ac wd ⟨(bW 10 q),false,c,S,B,⟨by omega,by omega,by omega,by rw [← ao.2.2.2,sv du (.inl (eq_of_beq (by assumption)))]⟩,r.cast rfl (by simp [ah,ints])⟩
  | true=>
   refine a8 (y:=.tu []) (N':=[.bx 9 [.d (.v (.string ⟨q.toArray⟩))],.gw 0 ai,.bx 25 [.z c.aq,.sl 8 (c.ah.length),.sl 9 (c.homes.length)],.bx 26 [.sl 10 (S.length)],.bx 23 [.sl 11 (B.length)],.bx 30 [.z 0],.bx 4 [.d (.v (.bool false))],.lp .ready 12 61 [(2,.pt 2 0),(3,.pt 3 0),(4,.pt 4 0),(5,.pt 5 0),(6,.pt 6 0)] (dY Tryd.f12 0),.rw 71 2 (ah c.ah),.rw 3 1 (ints c.homes),.rw 45 7 (cv S),.rw 3 1 (ints B)]) (rfl) ((by have nW:q=[]:=eq_of_beq (by assumption);have e:=ao.2.2.2;rw [nW,uK,dI] at e;simp only [Option.some.injEq,Prod.mk.injEq] at e;obtain ⟨e1,e2,e3,e4⟩:=e;rw [← e1,← e2,← e3,← e4,nW])) ?_
   exact a7 tk mo hK rfl al [(1,[(1,.b false)])] 2000 [0,1,2,3,4,5,6,7,8,9,10,11] r (by kernel_rfl) (U ((by simpa [bne] using h0):(q != ([]:List UInt8))=false) trivial)
 | true=>
  cases h4:(q==([]:List UInt8)) with
  | false=>
   have du:=ne_nil (x:=q) (by assumption)
   have Ow:=zT du
   cases h5:((ay 10 q)==([]:List UInt8)) with
   | false=>
    obtain ⟨e0,g0⟩:=Bi (x:=(ay 10 q)) (by assumption)
    have bO:=(⟨_,g0,rfl⟩:∃ u:UInt8,((ay 10 q):List UInt8)[0]?=some u∧(.v (.int .u8 (((e0.toNat:Nat):Int))):DV)=.v (.int .u8 (u.toNat:Int)))
    cases h6:((((e0.toNat:Nat):Int):Int)==35) with
    | false=>
     have ia:=ne_of_beq_false h6
     have nZ:=zt (x:=(ay 10 q)) (by assumption) g0 (by assumption)
     cases h7:((bL (ay 10 q)).2) with
     | false=>
      exact cd (todo':=hd Tryd.f50 0) (E':=[(0,.yl 7),(1,.pt 0 0),(3,.n (i+1+1))]) (M':=[.bx 9 [.d (.v (.string ⟨(bW 10 q).toArray⟩))],.gw 0 ai,.bx 25 [.z c.aq,.sl 8 (c.ah.length),.sl 9 (c.homes.length)],.bx 26 [.sl 10 (S.length+(1))],.bx 23 [.sl 11 (B.length+(1))],.bx 30 [.z 0],.bx 4 [.d (.v (.bool true))],.lp .ready 12 61 [(2,.pt 2 0),(3,.pt 3 0),(4,.pt 4 0),(5,.pt 5 0),(6,.pt 6 0)] (dY Tryd.f12 0),.rw 71 2 (ah c.ah),.rw 3 1 (ints c.homes),.rw 45 7 (cv S++[[.z 0,.z 0,.z 0,.z 0,.z 0,.v (.int .u64 0),.v (.slice none 0 0)]]),.rw 3 1 (ints B++[[.n (i+1)]])]) tk mo hK al [(1,[(1,.b true)]),(2,[(1,.z (((i+1+1:Nat):Int)))]),(3,[(1,.aO (.tu [.v (.string ⟨(ay 10 q).toArray⟩),.v (.string ⟨(bW 10 q).toArray⟩),.v (.bool (decide (0<q.count 10)))]))]),(4,[(3,.bG 200 [(7,[(1,.b false),(4,.ix (0) [.v (.int .u8 (((e0.toNat:Nat):Int)))]),(5,.b false)]),(13,[(1,.mem [1] (.tu [.ag [.z ((bL (ay 10 q)).1.kind),.z ((bL (ay 10 q)).1.node),.z ((bL (ay 10 q)).1.peer),.z ((bL (ay 10 q)).1.n),.z ((bL (ay 10 q)).1.bit),.u ((bL (ay 10 q)).1.inc),.sl 1 ((af (bL (ay 10 q)).1.body).length)],.d (.v (.bool ((bL (ay 10 q)).2)))]) [.gw 0 ai,.rw 5 1 (af (bL (ay 10 q)).1.body)])]),(14,[(1,.b true)])])])] 2000 [0,1,2,3,4,5,6,7,8,9,10,11] [0,1,3] r (by kernel_rfl) (U ((by simpa [bne] using h4):(q != ([]:List UInt8))=true) (U (ns q (by omega)) (U h5 (U (rfl:(0:Int)=((0:Nat):Int)) (U bO (U h6 (U (pT (ay 10 q) (by have:=so 10 q;omega)) (U ((by rw [h7];rfl):(!((bL (ay 10 q)).2))=true) (U ((by first | rfl | (simp [ah,ints,cv];done) | (simp [ah,ints,cv];omega)):(B.length)=(ints B).length) (U ((by first | rfl | (simp [ah,ints,cv];done) | (simp [ah,ints,cv];omega)):(1)=([[.n (i+1)]]:List (List DV)).length) (U ((by first | omega | (simp [ah,ints,cv];omega)):(2*((B.length)+(1))+192)*8≤281474976710656) (U ((by first | omega | (simp [ah,ints,cv];omega)):(B.length)+(1)<4611686018427387904) (U ((by simp [bc,AV.one,bU,af,ah,ints,steps,strs]):bc ([[.n (i+1)]])) (U ((by first | rfl | (simp [ah,ints,cv];done) | (simp [ah,ints,cv];omega)):(S.length)=(cv S:List (List DV)).length) (U ((by first | rfl | (simp [ah,ints,cv];done) | (simp [ah,ints,cv];omega)):(1)=([[.z 0,.z 0,.z 0,.z 0,.z 0,.v (.int .u64 0),.v (.slice none 0 0)]]:List (List DV)).length) (U ((by first | omega | (simp [ah,ints,cv];omega)):(2*((S.length)+(1))+192)*72≤281474976710656) (U ((by first | omega | (simp [ah,ints,cv];omega)):(S.length)+(1)<4611686018427387904) (U ((by simp [bc,AV.one,bU,af,ah,ints,steps,strs]):bc ([[.z 0,.z 0,.z 0,.z 0,.z 0,.v (.int .u64 0),.v (.slice none 0 0)]])) (U ((wi (by omega)):IntKind.i64.wrap ((((i+1:Nat):Int):Int)+1)=((i+1+1:Nat):Int)) trivial))))))))))))))))))) fun ac wd r=>bP (by omega) ac wd ⟨(bW 10 q),true,c,(S++[bL (ay 10 q)]),(B++[((i+1:Nat):Int)]),⟨by omega,by simp;omega,by first | omega | (simp;omega),by rw [← ao.2.2.2,BX du nZ,h7];rfl⟩,r.cast rfl (by rw [HQ h7];simp [ah,ints,az.lr])⟩
     | true=>
      exact cd (todo':=hd Tryd.f50 0) (E':=[(0,.yl 7),(1,.pt 0 0),(3,.n (i+1+1))]) (M':=[.bx 9 [.d (.v (.string ⟨(bW 10 q).toArray⟩))],.gw 0 ai,.bx 25 [.z c.aq,.sl 8 (c.ah.length),.sl 9 (c.homes.length)],.bx 26 [.sl 10 (S.length+(1))],.bx 23 [.sl 11 (B.length)],.bx 30 [.z 0],.bx 4 [.d (.v (.bool true))],.lp .ready 12 61 [(2,.pt 2 0),(3,.pt 3 0),(4,.pt 4 0),(5,.pt 5 0),(6,.pt 6 0)] (dY Tryd.f12 0),.rw 71 2 (ah c.ah),.rw 3 1 (ints c.homes),.rw 45 7 (cv S++[[.z ((bL (ay 10 q)).1.kind),.z ((bL (ay 10 q)).1.node),.z ((bL (ay 10 q)).1.peer),.z ((bL (ay 10 q)).1.n),.z ((bL (ay 10 q)).1.bit),.u ((bL (ay 10 q)).1.inc),.em 5 1 (af (bL (ay 10 q)).1.body)]]),.rw 3 1 (ints B)]) tk mo hK al [(1,[(1,.b true)]),(2,[(1,.z (((i+1+1:Nat):Int)))]),(3,[(1,.aO (.tu [.v (.string ⟨(ay 10 q).toArray⟩),.v (.string ⟨(bW 10 q).toArray⟩),.v (.bool (decide (0<q.count 10)))]))]),(4,[(3,.bG 200 [(7,[(1,.b false),(4,.ix (0) [.v (.int .u8 (((e0.toNat:Nat):Int)))]),(5,.b false)]),(13,[(1,.mem [1] (.tu [.ag [.z ((bL (ay 10 q)).1.kind),.z ((bL (ay 10 q)).1.node),.z ((bL (ay 10 q)).1.peer),.z ((bL (ay 10 q)).1.n),.z ((bL (ay 10 q)).1.bit),.u ((bL (ay 10 q)).1.inc),.sl 1 ((af (bL (ay 10 q)).1.body).length)],.d (.v (.bool ((bL (ay 10 q)).2)))]) [.gw 0 ai,.rw 5 1 (af (bL (ay 10 q)).1.body)])]),(14,[(1,.b false)])])])] 2000 [0,1,2,3,4,5,6,7,8,9,10,11] [0,1,3] r (by kernel_rfl) (U ((by simpa [bne] using h4):(q != ([]:List UInt8))=true) (U (ns q (by omega)) (U h5 (U (rfl:(0:Int)=((0:Nat):Int)) (U bO (U h6 (U (pT (ay 10 q) (by have:=so 10 q;omega)) (U ((by rw [h7];rfl):(!((bL (ay 10 q)).2))=false) (U (fj ((af (bL (ay 10 q)).1.body).length)) (U ((by first | rfl | (simp [ah,ints,cv];done) | (simp [ah,ints,cv];omega)):(S.length)=(cv S:List (List DV)).length) (U ((by first | rfl | (simp [ah,ints,cv];done) | (simp [ah,ints,cv];omega)):(1)=([[.z ((bL (ay 10 q)).1.kind),.z ((bL (ay 10 q)).1.node),.z ((bL (ay 10 q)).1.peer),.z ((bL (ay 10 q)).1.n),.z ((bL (ay 10 q)).1.bit),.u ((bL (ay 10 q)).1.inc),.em 5 1 (af (bL (ay 10 q)).1.body)]]:List (List DV)).length) (U ((by first | omega | (simp [ah,ints,cv];omega)):(2*((S.length)+(1))+192)*72≤281474976710656) (U ((by first | omega | (simp [ah,ints,cv];omega)):(S.length)+(1)<4611686018427387904) (U ((by simp [bc,AV.one,bU,af,ah,ints,steps,strs]):bc ([[.z ((bL (ay 10 q)).1.kind),.z ((bL (ay 10 q)).1.node),.z ((bL (ay 10 q)).1.peer),.z ((bL (ay 10 q)).1.n),.z ((bL (ay 10 q)).1.bit),.u ((bL (ay 10 q)).1.inc),.em 5 1 (af (bL (ay 10 q)).1.body)]])) (U ((wi (by omega)):IntKind.i64.wrap ((((i+1:Nat):Int):Int)+1)=((i+1+1:Nat):Int)) trivial))))))))))))))) fun ac wd r=>bP (by omega) ac wd ⟨(bW 10 q),true,c,(S++[bL (ay 10 q)]),B,⟨by omega,by simp;omega,by first | omega | (simp;omega),by rw [← ao.2.2.2,BX du nZ,h7];rfl⟩,r.cast rfl (by rw [HP h7];simp [ah,ints,az.lr])⟩
    | true=>
     have ia:=eq_of_beq h6
     exact cd (todo':=hd Tryd.f50 0) (E':=[(0,.yl 7),(1,.pt 0 0),(3,.n (i+1+1))]) (M':=[.bx 9 [.d (.v (.string ⟨(bW 10 q).toArray⟩))],.gw 0 ai,.bx 25 [.z c.aq,.sl 8 (c.ah.length),.sl 9 (c.homes.length)],.bx 26 [.sl 10 (S.length)],.bx 23 [.sl 11 (B.length)],.bx 30 [.z 0],.bx 4 [.d (.v (.bool true))],.lp .ready 12 61 [(2,.pt 2 0),(3,.pt 3 0),(4,.pt 4 0),(5,.pt 5 0),(6,.pt 6 0)] (dY Tryd.f12 0),.rw 71 2 (ah c.ah),.rw 3 1 (ints c.homes),.rw 45 7 (cv S),.rw 3 1 (ints B)]) tk mo hK al [(1,[(1,.b true)]),(2,[(1,.z (((i+1+1:Nat):Int)))]),(3,[(1,.aO (.tu [.v (.string ⟨(ay 10 q).toArray⟩),.v (.string ⟨(bW 10 q).toArray⟩),.v (.bool (decide (0<q.count 10)))]))]),(4,[(3,.bG 200 [(7,[(1,.b false),(4,.ix (0) [.v (.int .u8 (((e0.toNat:Nat):Int)))]),(5,.b true)])])])] 2000 [0,1,2,3,4,5,6,7,8,9,10,11] [0,1,3] r (by kernel_rfl) (U ((by simpa [bne] using h4):(q != ([]:List UInt8))=true) (U (ns q (by omega)) (U h5 (U (rfl:(0:Int)=((0:Nat):Int)) (U bO (U h6 (U ((wi (by omega)):IntKind.i64.wrap ((((i+1:Nat):Int):Int)+1)=((i+1+1:Nat):Int)) trivial))))))) fun ac wd r=>bP (by omega) ac wd ⟨(bW 10 q),true,c,S,B,⟨by omega,by omega,by omega,by rw [← ao.2.2.2,sv du (.inr ((js g0).trans (congrArg some (DO (by assumption)))))]⟩,r.cast rfl (by simp [ah,ints])⟩
   | true=>
    exact cd (todo':=hd Tryd.f50 0) (E':=[(0,.yl 7),(1,.pt 0 0),(3,.n (i+1+1))]) (M':=[.bx 9 [.d (.v (.string ⟨(bW 10 q).toArray⟩))],.gw 0 ai,.bx 25 [.z c.aq,.sl 8 (c.ah.length),.sl 9 (c.homes.length)],.bx 26 [.sl 10 (S.length)],.bx 23 [.sl 11 (B.length)],.bx 30 [.z 0],.bx 4 [.d (.v (.bool true))],.lp .ready 12 61 [(2,.pt 2 0),(3,.pt 3 0),(4,.pt 4 0),(5,.pt 5 0),(6,.pt 6 0)] (dY Tryd.f12 0),.rw 71 2 (ah c.ah),.rw 3 1 (ints c.homes),.rw 45 7 (cv S),.rw 3 1 (ints B)]) tk mo hK al [(1,[(1,.b true)]),(2,[(1,.z (((i+1+1:Nat):Int)))]),(3,[(1,.aO (.tu [.v (.string ⟨(ay 10 q).toArray⟩),.v (.string ⟨(bW 10 q).toArray⟩),.v (.bool (decide (0<q.count 10)))]))]),(4,[(3,.bG 200 [(7,[(1,.b true)])])])] 2000 [0,1,2,3,4,5,6,7,8,9,10,11] [0,1,3] r (by kernel_rfl) (U ((by simpa [bne] using h4):(q != ([]:List UInt8))=true) (U (ns q (by omega)) (U h5 (U ((wi (by omega)):IntKind.i64.wrap ((((i+1:Nat):Int):Int)+1)=((i+1+1:Nat):Int)) trivial)))) fun ac wd r=>bP (by omega) ac wd ⟨(bW 10 q),true,c,S,B,⟨by omega,by omega,by omega,by rw [← ao.2.2.2,sv du (.inl (eq_of_beq (by assumption)))]⟩,r.cast rfl (by simp [ah,ints])⟩
  | true=>
   refine a8 (y:=.tu []) (N':=[.bx 9 [.d (.v (.string ⟨q.toArray⟩))],.gw 0 ai,.bx 25 [.z c.aq,.sl 8 (c.ah.length),.sl 9 (c.homes.length)],.bx 26 [.sl 10 (S.length)],.bx 23 [.sl 11 (B.length)],.bx 30 [.z 0],.bx 4 [.d (.v (.bool true))],.lp .ready 12 61 [(2,.pt 2 0),(3,.pt 3 0),(4,.pt 4 0),(5,.pt 5 0),(6,.pt 6 0)] (dY Tryd.f12 0),.rw 71 2 (ah c.ah),.rw 3 1 (ints c.homes),.rw 45 7 (cv S),.rw 3 1 (ints B)]) (rfl) ((by have nW:q=[]:=eq_of_beq (by assumption);have e:=ao.2.2.2;rw [nW,uK,dI] at e;simp only [Option.some.injEq,Prod.mk.injEq] at e;obtain ⟨e1,e2,e3,e4⟩:=e;rw [← e1,← e2,← e3,← e4,nW])) ?_
   exact a7 tk mo hK rfl al [(1,[(1,.b false)])] 2000 [0,1,2,3,4,5,6,7,8,9,10,11] r (by kernel_rfl) (U ((by simpa [bne] using h4):(q != ([]:List UInt8))=false) trivial)
end Go.Proofs.YtcnpikbbmbombaaDoor
namespace Go.Proofs.YtcnpikbbmbombaaDoor
open Go.RowKit
theorem Gf (T k:Nat) (l:List (az×Bool)):gk (.rw T k (cv l)):=gk.tM fun r hr c hc=>by
 obtain ⟨x,-,rfl⟩:=List.mem_map.1 hr
 unfold tq at hc
 cases h:x.2 with
 | true=>
  rw [h] at hc;simp only [cond_true,az.lr,List.mem_cons,List.not_mem_nil,or_false] at hc
  rcases hc with rfl | rfl | rfl | rfl | rfl | rfl | rfl<;>first | exact gS _ | exact uh _ _
 | false=>
  rw [h] at hc;simp only [cond_false,List.mem_cons,List.not_mem_nil,or_false] at hc
  rcases hc with rfl | rfl | rfl | rfl | rfl | rfl | rfl<;>exact gS _
set_option maxRecDepth 100000 in
theorem HS (s:List UInt8) (hl:s.length≤524288) (c1:bk) (S1:List (az×Bool)) (B1:List Int) (hS:dI (fi s) 1 false ⟨0,[],[]⟩ [] []=some (true,c1,S1,B1)):aA Tryd.prog 12 [.d (.v (.string ⟨s.toArray⟩))] [.gw 0 ai] (mapA (·+1) (.tu [.ag [.z c1.aq,.sl 4 c1.ah.length,.sl 5 c1.homes.length],.sl 6 S1.length,.sl 7 B1.length,.z 0])) (.gw 0 ai::List.map (er (·+1)) ([.bx 25 [.z c1.aq,.sl 4 c1.ah.length,.sl 5 c1.homes.length],.bx 26 [.sl 6 S1.length],.bx 23 [.sl 7 B1.length],.bx 30 [.z 0],.rw 71 2 (ah c1.ah),.rw 3 1 (ints c1.homes),.rw 45 7 (cv S1),.rw 3 1 (ints B1)])):=by
 refine aA.By (by kernel_rfl) rfl rfl 61 rfl rfl fun w0 K ac hK r=>?_
 have r:=r.mark
 cases h0:(decide ((524288:Int)<((s.length:Nat):Int))) with
 | false=>
  have bH:=of_decide_eq_false h0
  refine A8 (todo':=CE Tryd.f12 0) (E2:=[(2,.pt 1 0),(3,.pt 2 0),(4,.pt 3 0),(5,.pt 4 0),(6,.pt 5 0)]) (M2:=[.gw 0 ai,.bx 25 [.z c1.aq,.sl 6 (c1.ah.length),.sl 7 (c1.homes.length)],.bx 26 [.sl 8 (S1.length)],.bx 23 [.sl 9 (B1.length)],.bx 30 [.z 0],.bx 4 [.d (.v (.bool true))],.rw 71 2 (ah c1.ah),.rw 3 1 (ints c1.homes),.rw 45 7 (cv S1),.rw 3 1 (ints B1)]) tk mo hK rfl [(1,[(2,.b false)]),(4,[(1,.bG 200 [])])] 15 [6,0,1,2,3,4,5] [2,3,4,5,6] (.tu []) [.bx 9 [.d (.v (.string ⟨([]).toArray⟩))],.gw 0 ai,.bx 25 [.z c1.aq,.sl 8 (c1.ah.length),.sl 9 (c1.homes.length)],.bx 26 [.sl 10 (S1.length)],.bx 23 [.sl 11 (B1.length)],.bx 30 [.z 0],.bx 4 [.d (.v (.bool true))],.lp .ready 12 61 [(2,.pt 2 0),(3,.pt 3 0),(4,.pt 4 0),(5,.pt 5 0),(6,.pt 6 0)] (dY Tryd.f12 0),.rw 71 2 (ah c1.ah),.rw 3 1 (ints c1.homes),.rw 45 7 (cv S1),.rw 3 1 (ints B1)] [0,1,2,3,4,5,8,9,10,11] [2,3,4,5,6] r (by kernel_rfl) (U (HR s hl true c1 S1 B1 hS) (U h0 trivial)) fun ac wd r=>?_
  refine oM (E':=[(2,.pt 0 0),(3,.pt 1 0),(4,.pt 2 0),(5,.pt 3 0)]) (M':=[.bx 25 [.z c1.aq,.sl 4 (c1.ah.length),.sl 5 (c1.homes.length)],.bx 26 [.sl 6 (S1.length)],.bx 23 [.sl 7 (B1.length)],.bx 30 [.z 0],.rw 71 2 (ah c1.ah),.rw 3 1 (ints c1.homes),.rw 45 7 (cv S1),.rw 3 1 (ints B1)]) tk mo hK rfl [] 2000 [1,2,3,4,6,7,8,9] [2,3,4,5] r (by kernel_rfl) (by kernel_rfl) trivial ?_ ?_
  ·intro x hx;simp only [List.mem_cons,List.not_mem_nil,or_false] at hx;rcases hx with rfl | rfl | rfl | rfl<;>exact eu.pt _ _
  ·intro x hx;simp only [List.mem_cons,List.not_mem_nil,or_false] at hx;rcases hx with rfl | rfl | rfl | rfl | rfl | rfl | rfl | rfl<;>first | exact AI _ _ _ | exact Bh _ _ _ | exact Gf _ _ _ | (refine gk.bx fun c hc=>?_;simp only [List.mem_cons,List.not_mem_nil,or_false] at hc;first | (subst hc;first | exact eu.v _ | exact eu.sl _ _) | (rcases hc with rfl | rfl | rfl<;>first | exact eu.v _ | exact eu.sl _ _))
 | true=>
  have bH:=of_decide_eq_true h0
  exact absurd bH (by omega)
end Go.Proofs.YtcnpikbbmbombaaDoor
namespace Go.Proofs.YtcnpikbbmbombaaDoor
open Go.RowKit
theorem sF:∀ (k u:Nat),u<10 ^ (k+1)→(Go.Lib.decDigits u).length≤k+1
 | 0,u,h=>by rw [k5 (by omega)];simp
 | k+1,u,h=>by
  by_cases hu:u<10
  ·rw [k5 hu];simp
  ·rw [qA hu,List.length_append]
   have:=sF k (u / 10) (by rw [Nat.pow_succ] at h;omega)
   simp;omega
theorem E7:∀ (n x:Nat),x≤n→x<128 ^ (cb x).length:=by
 intro n
 induction n with
 | zero=>
  intro x hx;obtain rfl:x=0:=by omega
  rw [kM (by decide)];decide
 | succ n ih=>
  intro x hx
  by_cases h:x<128
  ·rw [kM h];simpa using h
  ·rw [oh h,List.length_cons,Nat.pow_succ]
   have:=ih (x / 128) (by omega)
   generalize 128 ^ (cb (x / 128)).length=q at this
   omega
theorem HT (x:Nat):(Go.Lib.decDigits x).length+1≤7*(cb x).length:=by
 have h:=E7 x x (Nat.le_refl _)
 have hp:1≤(cb x).length:=by
  by_cases h:x<128
  ·rw [kM h];simp
  ·rw [oh h];simp
 generalize (cb x).length=k at h hp
 have h1:(128:Nat) ^ k≤1000 ^ k:=Nat.pow_le_pow_left (by decide) k
 have h2:(1000:Nat) ^ k=10 ^ (3*k):=by rw [Nat.pow_mul]
 have h3:=sF (3*k-1) x (by rw [show 3*k-1+1=3*k by omega];omega)
 omega
theorem nt {z:Int} (h:z≤255):(aS z).length≤3:=sF 2 z.toNat (by omega)
theorem L8 {z:Int} (h:z≤65535):(aS z).length≤5:=sF 4 z.toNat (by omega)
theorem AK {x:List UInt8} {r:List (List UInt8)}:(aQ (x::r)).length+1=(x::r).flatten.length+(x::r).length:=by
 simp only [aQ,List.length_append,ov,List.flatten_cons,List.length_cons];omega
theorem Gg {k:Nat} (h:k<14):(ae k).word.length≤6∨((ae k).word.length≤7∧(ae k).node=true):=
 lZ (p:=fun k=>(ae k).word.length≤6∨((ae k).word.length≤7∧(ae k).node=true)) (by decide) (by decide) (by decide) (by decide) (by decide) (by decide) (by decide) (by decide) (by decide) (by decide) (by decide) (by decide) (by decide) (by decide) h
theorem rB {f:Bool} {w:List UInt8} {p:List UInt8} (h:w.length+1≤7*p.length):(if f=true then [w] else []).flatten.length+(if f=true then [w] else []).length≤7*(if f=true then p else []).length:=by
 cases f with
 | false=>exact Nat.le_refl _
 | true=>simpa using h
theorem HU {s:az} (h:hasB s=true):(aQ (bN s)).length+1≤7*(cz s).length:=by
 have hp:=nq h
 have hw:=Gg (k:=s.kind.toNat) (by omega)
 unfold bN cz
 rw [AK]
 generalize ae s.kind.toNat=x at hw
 have a1:(if x.node=true then [aS s.node] else []).flatten.length+(if x.node=true then [aS s.node] else []).length+(if x.node=true then 3 else 0)≤7*(if x.node=true then [bz s.node] else []).length:=by
  have:=nt (z:=s.node) (by omega)
  cases x.node with
  | false=>exact Nat.le_refl _
  | true=>simp;omega
 have a2:=rB (f:=x.peer) (w:=aS s.peer) (p:=[bz s.peer]) (by have:=nt (z:=s.peer) (by omega);simp;omega)
 have a3:=rB (f:=x.n) (w:=aS s.n) (p:=[bz s.n]) (by have:=nt (z:=s.n) (by omega);simp;omega)
 have a4:=rB (f:=x.bit) (w:=aS s.bit) (p:=[bz s.bit,bz (s.bit / 256)]) (by have:=L8 (z:=s.bit) (by omega);simp;omega)
 have a5:=rB (f:=x.inc) (w:=Go.Lib.decDigits s.inc) (p:=cb s.inc) (HT _)
 have a6:=rB (f:=x.body) (w:=dJ s.body) (p:=bz ((s.body.length:Nat):Int)::s.body) (by
  unfold dJ;split
  ·simp;omega
  ·rw [cX];simp;omega)
 have a0:x.word.length+1≤7+(if x.node=true then 3 else 0):=by
  rcases hw with hw | ⟨hw,e⟩
  ·omega
  ·rw [e];simp;omega
 unfold jA j4
 simp only [List.flatten_cons,List.flatten_append,List.length_append,List.length_cons]
 omega
theorem uL {α:Type} {f:α→List UInt8} {k:Nat}:∀ {l:List α},(∀ x ∈ l,(f x).length+1≤k)→(l.map f).flatten.length+l.length≤k*l.length
 | [],_=>by simp
 | x::l,h=>by
  have h1:=h x List.mem_cons_self
  have h2:=uL (f:=f) (k:=k) (l:=l) fun y hy=>h y (List.mem_cons_of_mem _ hy)
  simp only [List.map_cons,List.flatten_cons,List.length_append,List.length_cons,Nat.mul_succ];omega
theorem HV {c:bk} (h:cf c=true):(aQ (bE c)).length+1≤7*(cg c).length:=by
 obtain ⟨h0,h1,h2,h3,h4⟩:=(gR h).fits
 have s:=nt h0.2
 have e1:=uL (f:=dM) (k:=8) (l:=c.ah) fun x hx=>by
  have hb:=h3 x hx
  have q1:=nt (z:=x.1) (by omega)
  have q2:=nt (z:=x.2) (by omega)
  unfold dM;simp;omega
 have e2:=uL (f:=aS) (k:=4) (l:=c.homes) fun x hx=>by
  have:=nt (z:=x) (h4 x hx).2
  omega
 rw [r4];unfold bE;rw [AK]
 simp only [List.flatten_cons,List.flatten_append,List.length_append,List.length_cons,List.length_map,List.length_nil,List.flatten_nil]
 omega
theorem zu {c:bk} {l:List az} (hm:cf c=true) (h:∀ s ∈ l,hasB s=true):(eY c l).length≤7*(bY c l).length:=by
 have key:∀ l:List az,(∀ s ∈ l,hasB s=true)→(cB l).length≤7*(l.flatMap cz).length:=by
  intro l
  induction l with
  | nil=>intro _;exact Nat.le_refl _
  | cons s l ih=>
   intro h
   have h1:=HU (h s List.mem_cons_self)
   have h2:=ih fun s hs=>h s (List.mem_cons_of_mem _ hs)
   rw [show cB (s::l)=aQ (bN s)++[10]++cB l by unfold cB;simp,List.flatMap_cons]
   simp only [List.length_append,List.length_cons,List.length_nil];omega
 have h1:=key l h
 have h2:=HV hm
 unfold eY bY
 simp only [List.length_append,List.length_cons,List.length_nil];omega
end Go.Proofs.YtcnpikbbmbombaaDoor
namespace Go.Proofs.YtcnpikbbmbombaaDoor
open Go.RowKit
theorem E8 (l:List az):cv (l.map fun s=>(s,true))=cn l:=by
 unfold cv cn;rw [List.map_map];rfl
theorem Gh {c:bk} {l:List az} (hE:decide (ct c l=0)=true) (hi:∀ s ∈ l,s.inc<18446744073709551616) (k:Nat) (hk:k≤3):aA Tryd.prog 12 [.d (.v (.string ⟨(gm k++eY c l).toArray⟩))] [.gw 0 ai] (.tu [.ag [.z c.aq,.sl 5 c.ah.length,.sl 6 c.homes.length],.sl 7 l.length,.sl 8 0,.z 0]) [.gw 0 ai,.bx 25 [.z c.aq,.sl 5 c.ah.length,.sl 6 c.homes.length],.bx 26 [.sl 7 l.length],.bx 23 [.sl 8 0],.bx 30 [.z 0],.rw 71 2 (ah c.ah),.rw 3 1 (ints c.homes),.rw 45 7 (cn l),.rw 3 1 (ints [])]:=by
 obtain ⟨h1,h2,h3⟩:=pV hE
 have ha:=ss h2
 have hp:=zu h1 ha
 have hg:=Bg k
 have h:=HS (gm k++eY c l) (by rw [List.length_append];omega) c (l.map fun s=>(s,true)) [] (AH h1 (fun s hs=>⟨ha s hs,hi s hs⟩) k 1)
 rw [E8,List.length_map] at h;exact h
theorem Jt {c:bk} {l:List az} (hE:decide (ct c l=0)=true) (hi:∀ s ∈ l,s.inc<18446744073709551616):aA Tryd.prog 9 [.d (.ro 1 (af (bY c l)))] [.gw 0 ai] (.tu [.ag [.z c.aq,.sl 1 c.ah.length,.sl 2 c.homes.length],.sl 3 l.length,.z 0]) [.gw 0 ai,.rw 71 2 (ah c.ah),.rw 3 1 (ints c.homes),.rw 45 7 (cn l)]:=by
 obtain ⟨h1,h2,h3⟩:=pV hE
 have ha:=ss h2
 obtain ⟨c1,c2⟩:=Jr (gR h1) (l.flatMap cz)
 have c1:gC (bY c l)=c:=c1
 have c2:gE (bY c l)=(cg c).length:=c2
 have hd:iF ((bY c l).drop (gE (bY c l)))=l:=by rw [c2];unfold bY;rw [List.drop_left];exact AA l fun s hs=>⟨ha s hs,hi s hs⟩
 have h:=BM (bY c l) h3 (by rw [c2];unfold bY;simp) (by rw [c1];exact h1)
 have e0:gV (bY c l) 0=c.aq:=congrArg bk.aq c1
 have e1:gL (bY c l) (gN (bY c l))=c.ah:=congrArg bk.ah c1
 have e2:gH (bY c l) (gM (bY c l))=c.homes:=congrArg bk.homes c1
 have n1:gN (bY c l)=c.ah.length:=by rw [← e1,df]
 have n2:gM (bY c l)=c.homes.length:=by rw [← e2,dh]
 rw [hd,e0,e1,e2,n1,n2] at h;exact h
end Go.Proofs.YtcnpikbbmbombaaDoor
namespace Go.Proofs.YtcnpikbbmbombaaDoor
open Go.RowKit
def jB:bk:=⟨1,[],[1]⟩
def cM:List az:=[⟨1,0,0,0,0,0,[]⟩,⟨12,2,0,0,0,0,[]⟩,⟨10,2,0,0,0,0,[104,105]⟩]
theorem Cr:cf jB=true:=w7 ⟨by decide,fun i x h=>by simp [jB] at h,fun i k x o h=>by simp [jB] at h,fun i x h=>by
  cases i with
  | zero=>simp [jB] at h;subst h;exact ⟨by decide,by decide⟩
  | succ i=>simp [jB] at h⟩
theorem Cs:bY jB cM=[1,0,1,1,1,0,12,2,10,2,2,104,105]:=by decide
theorem DP:ct jB cM=0:=kR Cr (by decide) (by rw [Cs];decide)
theorem CO:∀ s ∈ cM,s.Rd:=by
 intro s hs
 simp only [cM,List.mem_cons,List.not_mem_nil,or_false] at hs
 rcases hs with rfl | rfl | rfl<;>exact ⟨by decide,by decide⟩
theorem L9:aA Tryd.prog 7 [.ag [.z 1,.d (.ro 2 (ah [])),.d (.ro 1 (ints [1]))],.d (.ro 7 (steps cM))] [.gw 0 ai] (.tu [.sl 1 13,.z 0]) [.gw 0 ai,.rw 5 1 (af [1,0,1,1,1,0,12,2,10,2,2,104,105])]:=by
 have h:=vZ jB cM (by decide) (by decide) (by decide) CO (by rw [DP];rfl)
 rw [Cs] at h;exact h
theorem M6:eY jB cM=[119,111,114,108,100,32,49,32,58,32,49,10,116,105,99,107,32,48,10,106,111,105,110,32,50,10,115,101,110,100,32,50,32,54,56,54,57,10]:=by
 simp [eY,aQ,b6,bE,cB,bN,jA,jB,cM,ae,lY,aS,Go.Lib.decDigits_one,dJ,cP,cJ]
theorem Ju:aA Tryd.prog 8 [.ag [.z 1,.d (.ro 2 (ah [])),.d (.ro 1 (ints [1]))],.d (.ro 7 (steps cM))] [.gw 0 ai,.gw 1 aM] (.tu [.d (.v (.string ⟨([119,111,114,108,100,32,49,32,58,32,49,10,116,105,99,107,32,48,10,106,111,105,110,32,50,10,115,101,110,100,32,50,32,54,56,54,57,10]:List UInt8).toArray⟩)),.z 0]) [.gw 0 ai,.gw 1 aM]:=by
 have h:=Az jB cM (by decide) (by decide) (by decide) CO (by rw [DP];rfl)
 rw [M6] at h;exact h
theorem M7:iF (List.drop 4 [1,0,1,1,1,0,12,2,10,2,2,104,105])=cM:=by
 rw [p6 (by decide),show bf ((List.drop 4 ([1,0,1,1,1,0,12,2,10,2,2,104,105]:List UInt8)).take 258)=(⟨1,0,0,0,0,0,[]⟩,2) from by kernel_rfl]
 rw [p6 (by decide),show bf (((List.drop 4 ([1,0,1,1,1,0,12,2,10,2,2,104,105]:List UInt8)).drop 2).take 258)=(⟨12,2,0,0,0,0,[]⟩,2) from by kernel_rfl]
 rw [p6 (by decide),show bf ((((List.drop 4 ([1,0,1,1,1,0,12,2,10,2,2,104,105]:List UInt8)).drop 2).drop 2).take 258)=(⟨10,2,0,0,0,0,[104,105]⟩,5) from by kernel_rfl]
 rw [show (((List.drop 4 ([1,0,1,1,1,0,12,2,10,2,2,104,105]:List UInt8)).drop 2).drop 2).drop 5=[] from by decide,r6];rfl
theorem Ma:aA Tryd.prog 9 [.d (.ro 1 (af [1,0,1,1,1,0,12,2,10,2,2,104,105]))] [.gw 0 ai] (.tu [.ag [.z 1,.sl 1 0,.sl 2 1],.sl 3 3,.z 0]) [.gw 0 ai,.rw 71 2 (ah []),.rw 3 1 (ints [1]),.rw 45 7 (cn cM)]:=by
 have e1:gC [1,0,1,1,1,0,12,2,10,2,2,104,105]=jB:=by decide
 have h:=BM [1,0,1,1,1,0,12,2,10,2,2,104,105] (by decide) (by decide) (by rw [e1];exact Cr)
 rw [show gE [1,0,1,1,1,0,12,2,10,2,2,104,105]=4 from by decide,M7] at h;exact h
theorem Jv:aA Tryd.prog 12 [.d (.v (.string ⟨([119,111,114,108,100,32,49,32,58,32,49,10,116,105,99,107,32,48,10,106,111,105,110,32,50,10,115,101,110,100,32,50,32,54,56,54,57,10]:List UInt8).toArray⟩))] [.gw 0 ai] (.tu [.ag [.z 1,.sl 5 0,.sl 6 1],.sl 7 3,.d (.v (.slice none 0 0)),.z 0]) [.gw 0 ai,.bx 25 [.z 1,.sl 5 0,.sl 6 1],.bx 26 [.sl 7 3],.bx 23 [.d (.v (.slice none 0 0))],.bx 30 [.z 0],.rw 71 2 (ah []),.rw 3 1 (ints [1]),.rw 45 7 (cn cM)]:=HO
end Go.Proofs.YtcnpikbbmbombaaDoor
namespace Go.Proofs.YtcnpikbbmbombaaDoor
open Go.RowKit
set_option maxRecDepth 100000 in
theorem KB :aA Tryd.prog 6 [] [.gw 0 ai,.gw 1 aM] (mapA (·+([.gw 0 ai,.gw 1 aM]:List aj).length) (.d (.v (.bool true)))) ([.gw 0 ai,.gw 1 aM]++List.map (er (·+([.gw 0 ai,.gw 1 aM]:List aj).length)) ([])):=by
 refine aA.A9 (x:=.d (.v (.bool true))) (M':=[]) rfl (by kernel_rfl) rfl rfl 90 rfl rfl fun w0 K ac hK r=>?_
 have r:=r.mark
 refine pd (todo':=aft Tryd.f6 2) (E':=[(0,.d (.v (.bool false))),(1,.pt 3 0),(2,.sl 5 (3))]) (M':=[.gw 0 ai,.gw 1 aM,.rw 3 1 ([[.z 1]]),.bx 25 [.z 1,.d (.v (.slice none 0 0)),.sl 2 (1)],.dead,.rw 45 7 ([[.z 1,.z 0,.z 0,.z 0,.z 0,.v (.int .u64 0),.v (.slice none 0 0)],[.z 12,.z 2,.z 0,.z 0,.z 0,.v (.int .u64 0),.v (.slice none 0 0)],[.z 10,.z 2,.z 0,.z 0,.z 0,.v (.int .u64 0),.ro 1 ([[.v (.int .u8 104)],[.v (.int .u8 105)]])]])]) tk mo hK [] 6 [0,1,2,3,4,5] [0,1,2] r (by kernel_rfl) (U ((by simp):(2)=([[.v (.int .u8 104)],[.v (.int .u8 105)]]:List (List DV)).length) (U ((by simp):0<(2)) trivial)) fun ac wd r=>?_
 have r:=r.fE (E1:=[(0,.d (.v (.bool false))),(1,.pt 3 0),(2,.sl 5 (3))]) (M1:=[.gw 0 ai,.gw 1 aM,.rw 3 1 ([[.z 1]]),.bx 25 [.z 1,.d (.v (.slice none 0 0)),.sl 2 (1)],.dead,.rw 45 7 ([[.z 1,.z 0,.z 0,.z 0,.z 0,.v (.int .u64 0),.v (.slice none 0 0)],[.z 12,.z 2,.z 0,.z 0,.z 0,.v (.int .u64 0),.v (.slice none 0 0)],[.z 10,.z 2,.z 0,.z 0,.z 0,.v (.int .u64 0),.ro 1 ([[.v (.int .u8 104)],[.v (.int .u8 105)]])]])]) (M2:=[.gw 0 ai,.gw 1 aM,.rw 3 1 ([[.z 1]]),.bx 25 [.z 1,.sl 6 (0),.sl 2 (1)],.dead,.rw 45 7 ([[.z 1,.z 0,.z 0,.z 0,.z 0,.v (.int .u64 0),.v (.slice none 0 0)],[.z 12,.z 2,.z 0,.z 0,.z 0,.v (.int .u64 0),.v (.slice none 0 0)],[.z 10,.z 2,.z 0,.z 0,.z 0,.v (.int .u64 0),.ro 1 ([[.v (.int .u8 104)],[.v (.int .u8 105)]])]]),.rw 71 2 ([])]) [] [(3,1,71,2)] (by kernel_rfl) (by kernel_rfl)
 have r:=(r.less (rows':=steps cM) 5 rfl (kG.cons (cV.cons (Le.refl _) (cV.cons (Le.refl _) (cV.cons (Le.refl _) (cV.cons (Le.refl _) (cV.cons (Le.refl _) (cV.cons (Le.refl _) (cV.cons (Le.w5 _) cV.nil))))))) (kG.cons (cV.cons (Le.refl _) (cV.cons (Le.refl _) (cV.cons (Le.refl _) (cV.cons (Le.refl _) (cV.cons (Le.refl _) (cV.cons (Le.refl _) (cV.cons (Le.w5 _) cV.nil))))))) (kG.cons (cV.cons (Le.refl _) (cV.cons (Le.refl _) (cV.cons (Le.refl _) (cV.cons (Le.refl _) (cV.cons (Le.refl _) (cV.cons (Le.refl _) (cV.cons (Le.refl _) cV.nil))))))) kG.nil)))).cast (M':=[.gw 0 ai,.gw 1 aM,.rw 3 1 ([[.z 1]]),.bx 25 [.z 1,.sl 6 (0),.sl 2 (1)],.dead,.rw 45 7 (steps cM),.rw 71 2 ([])]) rfl rfl
 have r:=r.stay (p1:=[(3)=(steps cM:List (List DV)).length]) (p2:=[(0)=([]:List (List DV)).length,(1)=([[.z 1]]:List (List DV)).length]) (E1:=[(0,.d (.v (.bool false))),(1,.pt 3 0),(2,.d (.ro 7 (cx (steps cM))))]) (M1:=[.gw 0 ai,.gw 1 aM,.rw 3 1 ([[.z 1]]),.bx 25 [.z 1,.sl 6 (0),.sl 2 (1)],.dead,.dead,.rw 71 2 ([])]) (M2:=[.gw 0 ai,.gw 1 aM,.dead,.bx 25 [.z 1,.d (.ro 2 (cx ([]))),.d (.ro 1 (cx ([[.z 1]])))],.dead,.dead,.dead]) (E2:=[(0,.d (.v (.bool false))),(1,.pt 3 0),(2,.d (.ro 7 (steps cM)))]) (M3:=[.gw 0 ai,.gw 1 aM,.dead,.bx 25 [.z 1,.d (.ro 2 (ah [])),.d (.ro 1 (ints [1]))],.dead,.dead,.dead]) [2] [(3,1),(3,2)] (by kernel_rfl) (by kernel_rfl) (U ((by first | rfl | decide):(3)=(steps cM:List (List DV)).length) trivial) (U ((by first | rfl | decide):(0)=([]:List (List DV)).length) (U ((by first | rfl | decide):(1)=([[.z 1]]:List (List DV)).length) trivial)) (by rfl) (by rfl)
 refine pd (todo':=aft Tryd.f6 3) (E':=[(0,.d (.v (.bool false))),(1,.pt 3 0),(2,.d (.ro 7 (steps cM))),(3,.sl 7 (13)),(4,.z 0)]) (M':=[.gw 0 ai,.gw 1 aM,.dead,.bx 25 [.z 1,.d (.ro 2 (ah [])),.d (.ro 1 (ints [1]))],.dead,.dead,.dead,.rw 5 1 (af [1,0,1,1,1,0,12,2,10,2,2,104,105])]) tk mo hK [(3,[(2,.mem [0] (.tu [.sl 1 (13),.z 0]) [.gw 0 ai,.rw 5 1 (af [1,0,1,1,1,0,12,2,10,2,2,104,105])])])] 2 [0,1,2,3,4,5,6,7] [0,1,2,3,4] r (by kernel_rfl) (U (L9) trivial) fun ac wd r=>?_
 have r:=r.stay (p1:=[(13)=(af [1,0,1,1,1,0,12,2,10,2,2,104,105]).length]) (p2:=[]) (E1:=[(0,.d (.v (.bool false))),(1,.pt 3 0),(2,.d (.ro 7 (steps cM))),(3,.d (.ro 1 (cx (af [1,0,1,1,1,0,12,2,10,2,2,104,105])))),(4,.z 0)]) (M1:=[.gw 0 ai,.gw 1 aM,.dead,.bx 25 [.z 1,.d (.ro 2 (ah [])),.d (.ro 1 (ints [1]))],.dead,.dead,.dead,.dead]) (M2:=[.gw 0 ai,.gw 1 aM,.dead,.bx 25 [.z 1,.d (.ro 2 (ah [])),.d (.ro 1 (ints [1]))],.dead,.dead,.dead,.dead]) (E2:=[(0,.d (.v (.bool false))),(1,.pt 3 0),(2,.d (.ro 7 (steps cM))),(3,.d (.ro 1 (af [1,0,1,1,1,0,12,2,10,2,2,104,105]))),(4,.z 0)]) (M3:=[.gw 0 ai,.gw 1 aM,.dead,.bx 25 [.z 1,.d (.ro 2 (ah [])),.d (.ro 1 (ints [1]))],.dead,.dead,.dead,.dead]) [3] [] (by kernel_rfl) (by kernel_rfl) (U ((by first | rfl | decide):(13)=(af [1,0,1,1,1,0,12,2,10,2,2,104,105]).length) trivial) trivial (by rfl) rfl
 refine oM (E':=[(0,.d (.v (.bool true)))]) (M':=[]) tk mo hK rfl [(4,[(2,.mem [0,1] (.tu [.d (.v (.string ⟨([119,111,114,108,100,32,49,32,58,32,49,10,116,105,99,107,32,48,10,106,111,105,110,32,50,10,115,101,110,100,32,50,32,54,56,54,57,10]).toArray⟩)),.z 0]) [.gw 0 ai,.gw 1 aM])]),(5,[(1,.mem [0] (.tu [.ag [.z 1,.sl 1 (0),.sl 2 (1)],.sl 3 (3),.z 0]) [.gw 0 ai,.rw 71 2 (ah []),.rw 3 1 (ints [1]),.rw 45 7 (cn cM)])]),(6,[(1,.mem [0] (.tu [.ag [.z 1,.sl 5 (0),.sl 6 (1)],.sl 7 (3),.d (.v (.slice none 0 0)),.z 0]) [.gw 0 ai,.bx 25 [.z 1,.sl 5 (0),.sl 6 (1)],.bx 26 [.sl 7 (3)],.bx 23 [.d (.v (.slice none 0 0))],.bx 30 [.z 0],.rw 71 2 (ah []),.rw 3 1 (ints [1]),.rw 45 7 (cn cM)])]),(7,[(4,.res (.v (.string ⟨([1,0,1,1,1,0,12,2,10,2,2,104,105]).toArray⟩))),(5,.b true),(13,.b true),(27,.call [.d (.ro 7 (steps cM)),.d (.ro 7 (steps cM))] (.v (.bool true))),(41,.call [.d (.ro 7 (steps cM)),.d (.ro 7 (steps cM))] (.v (.bool true)))])] 2000 [] [0] r (by kernel_rfl) (by kernel_rfl) (U (Ju) (U (Ma) (U (Jv) (U (rfl:af [1,0,1,1,1,0,12,2,10,2,2,104,105]=af ([1,0,1,1,1,0,12,2,10,2,2,104,105])) (U ((by first | decide | simp):(([1,0,1,1,1,0,12,2,10,2,2,104,105]:List UInt8)==[1,0,1,1,1,0,12,2,10,2,2,104,105])=true) (U ((by first | decide | simp):(([119,111,114,108,100,32,49,32,58,32,49,10,116,105,99,107,32,48,10,106,111,105,110,32,50,10,115,101,110,100,32,50,32,54,56,54,57,10]:List UInt8)==[119,111,114,108,100,32,49,32,58,32,49,10,116,105,99,107,32,48,10,106,111,105,110,32,50,10,115,101,110,100,32,50,32,54,56,54,57,10])=true) (U (rL cM (by decide)) (U ((gS _):fU (.v (.bool true))) (U (fj (7)) (U ((by first | rfl | decide):(3)=(cn cM:List (List DV)).length) (U ((by rfl):cx (cn cM)=steps cM) (U (ei (.ro 7 (steps cM))) (U (rL cM (by decide)) (U ((gS _):fU (.v (.bool true))) (U (fj (7)) (U ((by first | rfl | decide):(3)=(cn cM:List (List DV)).length) (U ((by rfl):cx (cn cM)=steps cM) (U (ei (.ro 7 (steps cM))) trivial)))))))))))))))))) ?_ ?_
 ·intro x hx;simp only [List.mem_cons,List.not_mem_nil,or_false] at hx;subst hx;exact eu.v _
 ·intro x hx;simp at hx
theorem vq:aA Tryd.prog 6 [] [.gw 0 ai,.gw 1 aM] (.d (.v (.bool true))) [.gw 0 ai,.gw 1 aM]:=KB
end Go.Proofs.YtcnpikbbmbombaaDoor
namespace Go.Proofs.YtcnpikbbmbombaaDoor
open Go.RowKit
theorem pU (l:List az):cx (cn l)=steps l:=by
 rw [jM];unfold cn steps;rw [List.map_map];apply List.map_congr_left;intro s _
 simp [az.lr,az.row,ef,lN]
end Go.Proofs.YtcnpikbbmbombaaDoor
namespace Go.Proofs.YtcnpikbbmbombaaDoor
open Go.RowKit
set_option maxHeartbeats 2000000 in
set_option maxRecDepth 100000 in
theorem Jw (c:bk) (l:List az) (dC:Nat) (DQ:dC<256) (cu:c.ah.length+c.homes.length≤9223372036854775807) (hl:l.length≤9223372036854775807) (hr:∀ s ∈ l,s.Rd):aA Tryd.prog 3 [.ag [.z c.aq,.d (.ro 2 (ah c.ah)),.d (.ro 1 (ints c.homes))],.d (.ro 7 (steps l)),.d (.v (.int .u8 (((dC:Nat):Int))))] [.gw 0 ai,.gw 1 aM] (mapA (·+([.gw 0 ai,.gw 1 aM]:List aj).length) (.d (.v (.bool true)))) ([.gw 0 ai,.gw 1 aM]++List.map (er (·+([.gw 0 ai,.gw 1 aM]:List aj).length)) ([])):=by
 refine aA.A9 (x:=.d (.v (.bool true))) (M':=[]) rfl (by kernel_rfl) rfl rfl 106 rfl rfl fun w0 K ac hK r=>?_
 have r:=r.mark
 cases h0:(iZ c l) with
 | false=>
  obtain ⟨PD,PE⟩:=Hk ‹iZ c l=false›
  have DR:∀ s ∈ l,s.inc<18446744073709551616:=fun s hs=>by have:=(hr s hs).inc;omega
  have aZ:=((by have k:=Bz c l cu hl hr;rw [h0] at k;exact k):aB Tryd.prog 5 [.ag [.z c.aq,.d (.ro 2 (ah c.ah)),.d (.ro 1 (ints c.homes))],.d (.ro 7 (steps l))] (.v (.bool false)))
  cases h1:(decide (ct c l=0)) with
  | false=>
   have cm:=of_decide_eq_false h1
   refine pd (todo':=aft Tryd.f3 3) (E':=[(1,.d (.ro 7 (steps l))),(2,.d (.v (.int .u8 (((dC:Nat):Int))))),(3,.pt 2 0),(6,.d (.v (.bool false))),(7,.d (.ro 1 (af []))),(8,.z (ct c l))]) (M':=[.gw 0 ai,.gw 1 aM,.bx 25 [.z c.aq,.d (.ro 2 (ah c.ah)),.d (.ro 1 (ints c.homes))]]) tk mo hK [(1,[(2,.aO (.v (.bool false)))]),(3,[(2,.mem [0] (.tu [.d (.ro 1 (af [])),.z (ct c l)]) [.gw 0 ai])])] 9 [0,1,2] [1,2,3,6,7,8] r (by kernel_rfl) (U aZ (U (Cc c l (by omega) (by omega) hl hr h1) trivial)) fun ac wd r=>?_
   have r:=r.stay (p1:=[]) (p2:=[]) (E1:=[(1,.d (.ro 7 (steps l))),(2,.d (.v (.int .u8 (((dC:Nat):Int))))),(3,.pt 2 0),(6,.d (.v (.bool false))),(7,.d (.ro 1 (af []))),(8,.z (ct c l))]) (M1:=[.gw 0 ai,.gw 1 aM,.bx 25 [.z c.aq,.d (.ro 2 (ah c.ah)),.d (.ro 1 (ints c.homes))]]) (M2:=[.gw 0 ai,.gw 1 aM,.bx 25 [.z c.aq,.d (.ro 2 (ah c.ah)),.d (.ro 1 (ints c.homes))]]) (E2:=[(1,.d (.ro 7 (steps l))),(2,.d (.v (.int .u8 (((dC:Nat):Int))))),(3,.pt 2 0),(6,.d (.v (.bool false))),(7,.d (.ro 1 (af []))),(8,.z (ct c l))]) (M3:=[.gw 0 ai,.gw 1 aM,.bx 25 [.z c.aq,.d (.ro 2 (ah c.ah)),.d (.ro 1 (ints c.homes))]]) [] [] (by kernel_rfl) (by kernel_rfl) trivial trivial rfl rfl
   cases h2:((ct c l:Int) != 0) with
   | false=>
    have c8:=fx h2
    exact absurd c8 (of_decide_eq_false h1)
   | true=>
    have c8:¬ _=_:=bne_iff_ne.1 h2
    cases h3:(((((af []).length:Nat):Int):Int)==0) with
    | false=>
     have dQ:=ne_of_beq_false h3
     exact absurd h3 (by simp [af])
    | true=>
     have dQ:=eq_of_beq h3
     refine oM (E':=[(6,.d (.v (.bool true)))]) (M':=[]) tk mo hK rfl [(4,[(2,.mem [0,1] (.tu [.d (.v (.string ⟨([]).toArray⟩)),.z (ct c l)]) [.gw 0 ai,.gw 1 aM])]),(5,[(2,.b false)]),(7,[(1,.b true)]),(8,[(2,.b true),(5,.b true),(8,.mem [0,1] (.d (.v (.bool true))) [.gw 0 ai,.gw 1 aM])])] 2000 [] [6] r (by kernel_rfl) (by kernel_rfl) (U (M5 c l (by omega) (by omega) hl hr h1) (U ((by simp):((ct c l:Int) != ct c l)=false) (U h2 (U h3 (U ((by first | decide | simp):(([]:List UInt8)==[])=true) (U (vq) trivial)))))) ?_ ?_
     ·intro x hx;simp only [List.mem_cons,List.not_mem_nil,or_false] at hx;subst hx;exact eu.v _
     ·intro x hx;simp at hx
  | true=>
   have cm:=of_decide_eq_true h1
   have PF:=Ap ‹decide (ct c l=0)=true›
   have C1:=zu (pV ‹decide (ct c l=0)=true›).1 (ss (pV ‹decide (ct c l=0)=true›).2.1)
   refine pd (todo':=aft Tryd.f3 3) (E':=[(1,.d (.ro 7 (steps l))),(2,.d (.v (.int .u8 (((dC:Nat):Int))))),(3,.pt 2 0),(6,.d (.v (.bool false))),(7,.sl 3 ((bY c l).length)),(8,.z 0)]) (M':=[.gw 0 ai,.gw 1 aM,.bx 25 [.z c.aq,.d (.ro 2 (ah c.ah)),.d (.ro 1 (ints c.homes))],.rw 5 1 (af (bY c l))]) tk mo hK [(1,[(2,.aO (.v (.bool false)))]),(3,[(2,.mem [0] (.tu [.sl 1 ((bY c l).length),.z 0]) [.gw 0 ai,.rw 5 1 (af (bY c l))])])] 9 [0,1,2,3] [1,2,3,6,7,8] r (by kernel_rfl) (U aZ (U (vZ c l (by omega) (by omega) hl hr h1) trivial)) fun ac wd r=>?_
   have r:=r.stay (p1:=[((bY c l).length)=(af (bY c l)).length]) (p2:=[]) (E1:=[(1,.d (.ro 7 (steps l))),(2,.d (.v (.int .u8 (((dC:Nat):Int))))),(3,.pt 2 0),(6,.d (.v (.bool false))),(7,.d (.ro 1 (cx (af (bY c l))))),(8,.z 0)]) (M1:=[.gw 0 ai,.gw 1 aM,.bx 25 [.z c.aq,.d (.ro 2 (ah c.ah)),.d (.ro 1 (ints c.homes))],.dead]) (M2:=[.gw 0 ai,.gw 1 aM,.bx 25 [.z c.aq,.d (.ro 2 (ah c.ah)),.d (.ro 1 (ints c.homes))],.dead]) (E2:=[(1,.d (.ro 7 (steps l))),(2,.d (.v (.int .u8 (((dC:Nat):Int))))),(3,.pt 2 0),(6,.d (.v (.bool false))),(7,.d (.ro 1 (af (bY c l)))),(8,.z 0)]) (M3:=[.gw 0 ai,.gw 1 aM,.bx 25 [.z c.aq,.d (.ro 2 (ah c.ah)),.d (.ro 1 (ints c.homes))],.dead]) [7] [] (by kernel_rfl) (by kernel_rfl) (U ((by first | rfl | (simp [ah,ints,cn];done) | (simp [af];done) | (simp [af];omega)):((bY c l).length)=(af (bY c l)).length) trivial) trivial (by first | rfl | simp only [jK,jL,pU,lN]) rfl
   refine pd (todo':=aft Tryd.f3 9) (E':=[(1,.d (.ro 7 (steps l))),(2,.d (.v (.int .u8 (((dC:Nat):Int))))),(3,.pt 2 0),(6,.d (.v (.bool false))),(9,.d (.v (.string ⟨(gm 0++eY c l).toArray⟩))),(11,.pt 7 0),(12,.sl 6 (l.length)),(13,.z 0)]) (M':=[.gw 0 ai,.gw 1 aM,.bx 25 [.z c.aq,.d (.ro 2 (ah c.ah)),.d (.ro 1 (ints c.homes))],.dead,.rw 71 2 (ah c.ah),.rw 3 1 (ints c.homes),.rw 45 7 (cn l),.bx 25 [.z c.aq,.sl 4 (c.ah.length),.sl 5 (c.homes.length)]]) tk mo hK [(4,[(2,.mem [0,1] (.tu [.d (.v (.string ⟨(gm 0++eY c l).toArray⟩)),.z 0]) [.gw 0 ai,.gw 1 aM])]),(9,[(1,.mem [0] (.tu [.ag [.z c.aq,.sl 1 (c.ah.length),.sl 2 (c.homes.length)],.sl 3 (l.length),.z 0]) [.gw 0 ai,.rw 71 2 (ah c.ah),.rw 3 1 (ints c.homes),.rw 45 7 (cn l)])])] 14 [0,1,2,3,4,5,6,7] [1,2,3,6,9,11,12,13] r (by kernel_rfl) (U (Az c l (by omega) (by omega) hl hr h1) (U (Jt h1 DR) trivial)) fun ac wd r=>?_
   have r:=r.stay (p1:=[(l.length)=(cn l:List (List DV)).length]) (p2:=[(c.ah.length)=(ah c.ah:List (List DV)).length,(c.homes.length)=(ints c.homes).length]) (E1:=[(1,.d (.ro 7 (steps l))),(2,.d (.v (.int .u8 (((dC:Nat):Int))))),(3,.pt 2 0),(6,.d (.v (.bool false))),(9,.d (.v (.string ⟨(gm 0++eY c l).toArray⟩))),(11,.pt 7 0),(12,.d (.ro 7 (cx (cn l)))),(13,.z 0)]) (M1:=[.gw 0 ai,.gw 1 aM,.bx 25 [.z c.aq,.d (.ro 2 (ah c.ah)),.d (.ro 1 (ints c.homes))],.dead,.rw 71 2 (ah c.ah),.rw 3 1 (ints c.homes),.dead,.bx 25 [.z c.aq,.sl 4 (c.ah.length),.sl 5 (c.homes.length)]]) (M2:=[.gw 0 ai,.gw 1 aM,.bx 25 [.z c.aq,.d (.ro 2 (ah c.ah)),.d (.ro 1 (ints c.homes))],.dead,.dead,.dead,.dead,.bx 25 [.z c.aq,.d (.ro 2 (cx (ah c.ah))),.d (.ro 1 (cx (ints c.homes)))]]) (E2:=[(1,.d (.ro 7 (steps l))),(2,.d (.v (.int .u8 (((dC:Nat):Int))))),(3,.pt 2 0),(6,.d (.v (.bool false))),(9,.d (.v (.string ⟨(gm 0++eY c l).toArray⟩))),(11,.pt 7 0),(12,.d (.ro 7 (steps l))),(13,.z 0)]) (M3:=[.gw 0 ai,.gw 1 aM,.bx 25 [.z c.aq,.d (.ro 2 (ah c.ah)),.d (.ro 1 (ints c.homes))],.dead,.dead,.dead,.dead,.bx 25 [.z c.aq,.d (.ro 2 (ah c.ah)),.d (.ro 1 (ints c.homes))]]) [12] [(7,1),(7,2)] (by kernel_rfl) (by kernel_rfl) (U ((by first | rfl | (simp [ah,ints,cn];done) | (simp [af];done) | (simp [af];omega)):(l.length)=(cn l:List (List DV)).length) trivial) (U ((by first | rfl | (simp [ah,ints,cn];done) | (simp [af];done) | (simp [af];omega)):(c.ah.length)=(ah c.ah:List (List DV)).length) (U ((by first | rfl | (simp [ah,ints,cn];done) | (simp [af];done) | (simp [af];omega)):(c.homes.length)=(ints c.homes).length) trivial)) (by first | rfl | simp only [jK,jL,pU,lN]) (by first | rfl | simp only [jK,jL,pU,lN])
   refine cO (todo':=hd Tryd.f3 0) (E':=[(1,.d (.ro 7 (steps l))),(2,.d (.v (.int .u8 (((dC:Nat):Int))))),(3,.pt 2 0),(9,.d (.v (.string ⟨(gm 0++eY c l).toArray⟩))),(14,.n 0)]) (M':=[.gw 0 ai,.gw 1 aM,.bx 25 [.z c.aq,.d (.ro 2 (ah c.ah)),.d (.ro 1 (ints c.homes))]]) tk mo hK [(10,[(5,.call [.ag [.z c.aq,.d (.ro 2 (ah c.ah)),.d (.ro 1 (ints c.homes))],.ag [.z c.aq,.d (.ro 2 (ah c.ah)),.d (.ro 1 (ints c.homes))]] (.v (.bool true))),(11,.call [.d (.ro 7 (steps l)),.d (.ro 7 (steps l))] (.v (.bool true)))])] 2000 [0,1,2] [1,2,3,9,14] r (by kernel_rfl) (U (zJ c (by omega) (by omega)) (U (ei (.z c.aq)) (U (ei (.ro 2 (ah c.ah))) (U (ei (.ro 1 (ints c.homes))) (U (ei (.z c.aq)) (U (ei (.ro 2 (ah c.ah))) (U (ei (.ro 1 (ints c.homes))) (U (rL l hl) (U (ei (.ro 7 (steps l))) (U (ei (.ro 7 (steps l))) trivial)))))))))) fun ac wd r=>?_
   refine aD.rounds (Φ:=fun (i:Nat) ac wd=>(i≤3)∧ch true [] w0 K 106 [(1,.d (.ro 7 (steps l))),(2,.d (.v (.int .u8 (((dC:Nat):Int))))),(3,.pt 2 0),(9,.d (.v (.string ⟨(gm i++eY c l).toArray⟩))),(14,.n i)] [.gw 0 ai,.gw 1 aM,.bx 25 [.z c.aq,.d (.ro 2 (ah c.ah)),.d (.ro 1 (ints c.homes))]] ac wd) (dC%4) ?_ (Nat.zero_le _) ⟨(by omega),r⟩
   clear r
   rintro i eA bP ac wd ⟨ao,r⟩
   have PG:=Bg i
   have bO:=((wi (by omega)):IntKind.i64.wrap (((dC:Nat):Int))=((dC:Nat):Int))
   have cL:=(((Int.ofNat_tmod dC 4).symm):(((dC:Nat):Int):Int).tmod 4=((dC%4:Nat):Int))
   cases h4:(decide ((((i:Nat):Int):Int)<((dC%4:Nat):Int))) with
   | false=>
    have fk:=of_decide_eq_false h4
    refine pd (todo':=aft Tryd.f3 16) (E':=[(1,.d (.ro 7 (steps l))),(3,.pt 2 0),(15,.pt 11 0),(16,.sl 9 (l.length)),(17,.sl 10 (0)),(18,.z 0)]) (M':=[.gw 0 ai,.gw 1 aM,.bx 25 [.z c.aq,.d (.ro 2 (ah c.ah)),.d (.ro 1 (ints c.homes))],.bx 25 [.z c.aq,.sl 7 (c.ah.length),.sl 8 (c.homes.length)],.bx 26 [.sl 9 (l.length)],.bx 23 [.sl 10 (0)],.bx 30 [.z 0],.rw 71 2 (ah c.ah),.rw 3 1 (ints c.homes),.rw 45 7 (cn l),.rw 3 1 (ints []),.bx 25 [.z c.aq,.sl 7 (c.ah.length),.sl 8 (c.homes.length)]]) tk mo hK [(13,[(2,.z (((dC:Nat):Int))),(3,.z (((dC%4:Nat):Int))),(4,.b false)]),(16,[(1,.mem [0] (.tu [.ag [.z c.aq,.sl 5 (c.ah.length),.sl 6 (c.homes.length)],.sl 7 (l.length),.sl 8 (0),.z 0]) [.gw 0 ai,.bx 25 [.z c.aq,.sl 5 (c.ah.length),.sl 6 (c.homes.length)],.bx 26 [.sl 7 (l.length)],.bx 23 [.sl 8 (0)],.bx 30 [.z 0],.rw 71 2 (ah c.ah),.rw 3 1 (ints c.homes),.rw 45 7 (cn l),.rw 3 1 (ints [])])])] 7 [0,1,2,3,4,5,6,7,8,9,10,11] [1,3,15,16,17,18] r (by kernel_rfl) (U bO (U cL (U ((by decide):(4:Int)≠0) (U h4 (U (Gh h1 DR i (by omega)) trivial))))) fun ac wd r=>?_
    have r:=r.stay (p1:=[(l.length)=(cn l:List (List DV)).length]) (p2:=[(c.ah.length)=(ah c.ah:List (List DV)).length,(c.homes.length)=(ints c.homes).length]) (E1:=[(1,.d (.ro 7 (steps l))),(3,.pt 2 0),(15,.pt 11 0),(16,.d (.ro 7 (cx (cn l)))),(17,.sl 10 (0)),(18,.z 0)]) (M1:=[.gw 0 ai,.gw 1 aM,.bx 25 [.z c.aq,.d (.ro 2 (ah c.ah)),.d (.ro 1 (ints c.homes))],.bx 25 [.z c.aq,.sl 7 (c.ah.length),.sl 8 (c.homes.length)],.bx 26 [.sl 9 (l.length)],.bx 23 [.sl 10 (0)],.bx 30 [.z 0],.rw 71 2 (ah c.ah),.rw 3 1 (ints c.homes),.dead,.rw 3 1 (ints []),.bx 25 [.z c.aq,.sl 7 (c.ah.length),.sl 8 (c.homes.length)]]) (M2:=[.gw 0 ai,.gw 1 aM,.bx 25 [.z c.aq,.d (.ro 2 (ah c.ah)),.d (.ro 1 (ints c.homes))],.bx 25 [.z c.aq,.sl 7 (c.ah.length),.sl 8 (c.homes.length)],.bx 26 [.sl 9 (l.length)],.bx 23 [.sl 10 (0)],.bx 30 [.z 0],.dead,.dead,.dead,.rw 3 1 (ints []),.bx 25 [.z c.aq,.d (.ro 2 (cx (ah c.ah))),.d (.ro 1 (cx (ints c.homes)))]]) (E2:=[(1,.d (.ro 7 (steps l))),(3,.pt 2 0),(15,.pt 11 0),(16,.d (.ro 7 (steps l))),(17,.sl 10 (0)),(18,.z 0)]) (M3:=[.gw 0 ai,.gw 1 aM,.bx 25 [.z c.aq,.d (.ro 2 (ah c.ah)),.d (.ro 1 (ints c.homes))],.bx 25 [.z c.aq,.sl 7 (c.ah.length),.sl 8 (c.homes.length)],.bx 26 [.sl 9 (l.length)],.bx 23 [.sl 10 (0)],.bx 30 [.z 0],.dead,.dead,.dead,.rw 3 1 (ints []),.bx 25 [.z c.aq,.d (.ro 2 (ah c.ah)),.d (.ro 1 (ints c.homes))]]) [16] [(11,1),(11,2)] (by kernel_rfl) (by kernel_rfl) (U ((by first | rfl | (simp [ah,ints,cn];done) | (simp [af];done) | (simp [af];omega)):(l.length)=(cn l:List (List DV)).length) trivial) (U ((by first | rfl | (simp [ah,ints,cn];done) | (simp [af];done) | (simp [af];omega)):(c.ah.length)=(ah c.ah:List (List DV)).length) (U ((by first | rfl | (simp [ah,ints,cn];done) | (simp [af];done) | (simp [af];omega)):(c.homes.length)=(ints c.homes).length) trivial)) (by first | rfl | simp only [jK,jL,pU,lN]) (by first | rfl | simp only [jK,jL,pU,lN])
    refine oM (E':=[(6,.d (.v (.bool true)))]) (M':=[]) tk mo hK rfl [(17,[(10,.call [.ag [.z c.aq,.d (.ro 2 (ah c.ah)),.d (.ro 1 (ints c.homes))],.ag [.z c.aq,.d (.ro 2 (ah c.ah)),.d (.ro 1 (ints c.homes))]] (.v (.bool true))),(15,.call [.d (.ro 7 (steps l)),.d (.ro 7 (steps l))] (.v (.bool true))),(18,.mem [0,1] (.d (.v (.bool true))) [.gw 0 ai,.gw 1 aM])])] 2000 [] [6] r (by kernel_rfl) (by kernel_rfl) (U (zJ c (by omega) (by omega)) (U (ei (.z c.aq)) (U (ei (.ro 2 (ah c.ah))) (U (ei (.ro 1 (ints c.homes))) (U (ei (.z c.aq)) (U (ei (.ro 2 (ah c.ah))) (U (ei (.ro 1 (ints c.homes))) (U (rL l hl) (U (ei (.ro 7 (steps l))) (U (ei (.ro 7 (steps l))) (U (vq) trivial))))))))))) ?_ ?_
    ·intro x hx;simp only [List.mem_cons,List.not_mem_nil,or_false] at hx;subst hx;exact eu.v _
    ·intro x hx;simp at hx
   | true=>
    have fk:=of_decide_eq_true h4
    exact cO (todo':=hd Tryd.f3 0) tk mo hK [(13,[(2,.z (((dC:Nat):Int))),(3,.z (((dC%4:Nat):Int))),(4,.b true)]),(14,[(1,.z (((i+1:Nat):Int)))])] 2000 [0,1,2] [1,2,3,9,14] r (by kernel_rfl) (U bO (U cL (U ((by decide):(4:Int)≠0) (U h4 (U ((by first | omega | decide | (simp;done) | (simp;omega)):([10,35,32,110,111,110,101,10]:List UInt8).length+((gm i++eY c l):List UInt8).length≤9223372036854775807) (U ((wi (by omega)):IntKind.i64.wrap ((((i:Nat):Int):Int)+1)=((i+1:Nat):Int)) trivial)))))) fun ac wd r=>bP (by omega) ac wd ⟨(by omega),r⟩
 | true=>
  refine oM (E':=[(6,.d (.v (.bool true)))]) (M':=[]) tk mo hK rfl [(1,[(2,.aO (.v (.bool true)))]),(2,[(0,.mem [0,1] (.d (.v (.bool true))) [.gw 0 ai,.gw 1 aM])])] 2000 [] [6] r (by kernel_rfl) (by kernel_rfl) (U ((by have k:=Bz c l cu hl hr;rw [h0] at k;exact k):aB Tryd.prog 5 [.ag [.z c.aq,.d (.ro 2 (ah c.ah)),.d (.ro 1 (ints c.homes))],.d (.ro 7 (steps l))] (.v (.bool true))) (U (vq) trivial)) ?_ ?_
  ·intro x hx;simp only [List.mem_cons,List.not_mem_nil,or_false] at hx;subst hx;exact eu.v _
  ·intro x hx;simp at hx
theorem KC (c:bk) (l:List az) (dC:Nat) (DQ:dC<256) (cu:c.ah.length+c.homes.length≤9223372036854775807) (hl:l.length≤9223372036854775807) (hr:∀ s ∈ l,s.Rd):aA Tryd.prog 3 [.ag [.z c.aq,.d (.ro 2 (ah c.ah)),.d (.ro 1 (ints c.homes))],.d (.ro 7 (steps l)),.d (.v (.int .u8 (((dC:Nat):Int))))] [.gw 0 ai,.gw 1 aM] (.d (.v (.bool true))) [.gw 0 ai,.gw 1 aM]:=Jw c l dC DQ cu hl hr
end Go.Proofs.YtcnpikbbmbombaaDoor
namespace Go.Proofs.YtcnpikbbmbombaaDoor
open Go.RowKit
open Go.Deep
variable {w:World}
theorem okWide_int {P:Program} {W:World} {base:Nat} {t:TypeId} {k:IntKind} {v:Value} (ht:P.underlying t=some (.int k)) (h:Value.okWide P W .any base t v):∃ n,v=.int k n:=by
 rw [Value.okWide,ht] at h
 unfold Cell.okWide Cell.ok at h
 rw [ht] at h
 cases v<;>simp at h
 exact ⟨_,by rw [h.1]⟩
def Rs (P:Program) (w:World) (fs:List Field) (off tot:Nat) {α:Type} (row:α→List DV) (ok:α→Prop):Prop:=∀ cs:List Value,cs.length=tot→(∀ f ∈ fs,TR P w f.type ((cs.drop f.offset).take (P.cellsOf f.type)))→∃ x,ok x∧jl w (row x) (cs.drop off)
theorem Rs.nil {P:Program} {tot:Nat}:Rs P w [] tot tot (fun _:Unit=>[]) fun _=>True:=fun cs hl _=>⟨(),trivial,by rw [List.drop_of_length_le (by omega)];exact ⟨rfl,by simp⟩⟩
theorem Rs.cons {P:Program} {f:Field} {fs:List Field} {off k tot:Nat} {α β:Type} {qG:α→List DV} {CP:β→List DV} {DS:α→Prop} {DT:β→Prop} (h0:f.offset=off) (hk:P.cellsOf f.type=k) (r:Rd P w f.type qG DS) (rs:Rs P w fs (off+k) tot CP DT):Rs P w (f::fs) off tot (fun x:α×β=>qG x.1++CP x.2) fun x=>DS x.1∧DT x.2:=fun cs hl hf=>by
 have a0:=hf f List.mem_cons_self
 rw [h0,hk] at a0
 obtain ⟨x,b0,c0⟩:=r _ a0
 obtain ⟨y,b1,c1⟩:=rs cs hl fun g hg=>hf g (List.mem_cons_of_mem _ hg)
 refine ⟨(x,y),⟨b0,b1⟩,?_⟩
 have:=c0.app c1
 rwa [← List.drop_drop,List.take_append_drop] at this
theorem Rd.struct {P:Program} {t tot:Nat} {fs:List Field} {α:Type} {row:α→List DV} {ok:α→Prop} (h:P.underlying t=some (.struct fs.toArray)) (ht:P.cellsOf t=tot) (rs:Rs P w fs 0 tot row ok):Rd P w t row ok:=fun cs hc=>by
 obtain ⟨hl,hf⟩:=hc.struct h
 obtain ⟨x,h1,h2⟩:=rs cs (by omega) (by simpa using hf)
 exact ⟨x,h1,by simpa using h2⟩
theorem mapM_at {α β:Type} {f:α→Option β}:∀ {l:List α} {r:List β},l.mapM f=some r→∀ (j:Nat) x,l[j]?=some x→∃ y,r[j]?=some y∧f x=some y
 | [],_,_,j,x,hx=>by simp at hx
 | z::l,r,h,j,x,hx=>by
  rw [List.mapM_cons] at h
  obtain ⟨y,h1,h2⟩:=Option.bind_eq_some_iff.1 h
  obtain ⟨ys,h3,h4⟩:=Option.bind_eq_some_iff.1 h2
  obtain rfl:y::ys=r:=Option.some.inj h4
  cases j with
  | zero=>simp at hx;subst hx;exact ⟨y,rfl,h1⟩
  | succ j=>simp at hx;obtain ⟨y',h5,h6⟩:=mapM_at h3 j x hx;exact ⟨y',by simpa using h5,h6⟩
def TZ (P:Program) (w:World) (t:TypeId) (cs:List Value) (cap:Nat):Prop:=∃ (H:Type) (enc:TypeId×Value→H) (base:Nat) (sp:Nat→Bool) (held:Bool) (fuel:Nat) (x:DataW H×List MemPlace),DataW.trod enc P w base sp held fuel t cs=some x∧∀ n ∈ x.1.weights P t,n≤cap
section
variable {P:Program} {t e:TypeId} {cs:List Value} {cap:Nat}
theorem TZ.of {H:Type} {enc:TypeId×Value→H} {base:Nat} {sp:Nat→Bool} {held:Bool} {v:Value} {d:DataW H} {ps:List MemPlace} (h:DataW.Trod enc P w base sp held t v d ps) (hw:∀ n ∈ d.weights P t,n≤cap):TZ P w t v.cells.toList cap:=by
 obtain ⟨n,h⟩:=h;exact ⟨H,enc,base,sp,held,n,_,h,hw⟩
theorem TZ.tr (h:TZ P w t cs cap):TR P w t cs:=by
 obtain ⟨H,enc,base,sp,held,fuel,x,h,-⟩:=h;exact ⟨H,enc,base,sp,held,fuel,x,h⟩
theorem TZ.struct {fs:Array Field} (ht:P.underlying t=some (.struct fs)) (h:TZ P w t cs cap):∀ f ∈ fs.toList,TZ P w f.type ((cs.drop f.offset).take (P.cellsOf f.type)) cap:=by
 obtain ⟨H,enc,base,sp,held,fuel,x,h,hw⟩:=h
 cases fuel with
 | zero=>simp [DataW.trod] at h
 | succ fuel=>
  rw [DataW.trod_step] at h;unfold DataW.trodStep at h;simp only [ht] at h
  split at h
  ·intro f hf
   obtain ⟨j,hj,rfl⟩:=List.mem_iff_getElem.1 hf
   obtain ⟨xs,h1,rfl⟩:=Option.map_eq_some_iff.1 h
   obtain ⟨y,hy,yA⟩:=mapM_at h1 j _ (List.getElem?_eq_getElem hj)
   refine ⟨H,enc,base,sp,held,fuel,y,yA,fun n hn=>hw n ?_⟩
   simp only [DataW.weights,ht]
   exact DataW.weights_mem_each (j:=j) (by rw [List.getElem?_map,List.getElem?_eq_getElem hj];rfl) (by rw [List.getElem?_map,hy];rfl) n hn
  ·simp at h
theorem TZ.slice (ht:P.underlying t=some (.slice e)) (hb:1≤P.bytesOf e) {a:Option Addr} {n c:Nat} (h:TZ P w t [.slice a n c] cap):n≤cap:=by
 obtain ⟨H,enc,base,sp,held,fuel,x,h,hw⟩:=h
 rcases open_slice ht h with ⟨h0,_⟩ | ⟨a',len,ON,m,n',D,Pl,h0,_,Dw,MH,hm,rfl,hx⟩
 ·simp at h0;omega
 ·simp at h0
  obtain ⟨-,rfl,-⟩:=h0
  have:=hw _ (by simp only [DataW.weights,ht];exact List.mem_cons_self)
  simp at this
  exact Nat.le_trans (Nat.le_trans (Nat.le_add_right n _) (Nat.le_mul_of_pos_right _ hb)) this
end
theorem Rd.pair {P:Program} {t e:TypeId} (h:P.underlying t=some (.array 2 e)) (he:P.underlying e=some (.int .i64)) (hc:P.cellsOf e=1) (ht:P.cellsOf t=2):Rd P w t (fun x:Int×Int=>[.z x.1,.z x.2]) fun _=>True:=fun cs hr=>by
 obtain ⟨hl,hi⟩:=TR.array h hr
 rw [ht] at hl
 have a0:=hi 0 (by omega)
 have a1:=hi 1 (by omega)
 rw [hc] at a0 a1
 match cs,hl with
 | [x,y],_=>
  obtain ⟨m,-,c0⟩:=(Rd.int he) _ a0
  obtain ⟨k,-,c1⟩:=(Rd.int he) _ a1
  exact ⟨(m,k),trivial,c0.app c1⟩
def sG (c:bk):List DV:=[.z c.aq,.ro 2 (ah c.ah),.ro 1 (ints c.homes)]
theorem rdPair:Rd Tryd.prog w 71 (fun x:Int×Int=>[.z x.1,.z x.2]) fun _=>True:=Rd.pair (e:=3) (by kernel_rfl) (by kernel_rfl) (by kernel_rfl) (by kernel_rfl)
theorem Mb:Rd Tryd.prog w 25 sG fun _=>True:=
 (Rd.struct (fs:=[⟨"Servers",3,0,false, "", "",0⟩,⟨"Links",22,1,false, "", "",8⟩,⟨"Homes",23,2,false, "", "",32⟩]) (tot:=3) (by kernel_rfl) (by kernel_rfl)
  (Rs.cons rfl (k:=1) (by kernel_rfl) (Rd.int (by kernel_rfl)) (Rs.cons rfl (k:=1) (by kernel_rfl) (Rd.slice (e:=71) (by kernel_rfl) (by kernel_rfl) rdPair) (Rs.cons rfl (k:=1) (by kernel_rfl) (Rd.slice (e:=3) (by kernel_rfl) (by kernel_rfl) (Rd.int (by kernel_rfl))) Rs.nil)))).map
  (fun x=>⟨x.1,x.2.1,x.2.2.1⟩) (fun _=>rfl) fun _ _=>trivial
theorem Mc:Rd Tryd.prog w 45 az.row az.Rd:=
 (Rd.struct (fs:=[⟨"Kind",3,0,false, "", "",0⟩,⟨"Node",3,1,false, "", "",8⟩,⟨"Peer",3,2,false, "", "",16⟩,⟨"N",3,3,false, "", "",24⟩,⟨"Bit",3,4,false, "", "",32⟩,⟨"Inc",43,5,false, "", "",40⟩,⟨"Body",29,6,false, "", "",48⟩]) (tot:=7) (by kernel_rfl) (by kernel_rfl)
  (Rs.cons rfl (k:=1) (by kernel_rfl) (Rd.int (by kernel_rfl)) (Rs.cons rfl (k:=1) (by kernel_rfl) (Rd.int (by kernel_rfl)) (Rs.cons rfl (k:=1) (by kernel_rfl) (Rd.int (by kernel_rfl)) (Rs.cons rfl (k:=1) (by kernel_rfl) (Rd.int (by kernel_rfl)) (Rs.cons rfl (k:=1) (by kernel_rfl) (Rd.int (by kernel_rfl)) (Rs.cons rfl (k:=1) (by kernel_rfl) (Rd.u64 (by kernel_rfl)) (Rs.cons rfl (k:=1) (by kernel_rfl) (Rd.slice (e:=5) (by kernel_rfl) (by kernel_rfl) (Rd.byte (by kernel_rfl))) Rs.nil)))))))).map
  (fun x=>⟨x.1,x.2.1,x.2.2.1,x.2.2.2.1,x.2.2.2.2.1,x.2.2.2.2.2.1,x.2.2.2.2.2.2.1⟩) (fun _=>rfl) fun x h=>⟨h.2.2.2.2.2.2.1.1,h.2.2.2.2.2.1⟩
theorem HW:∀ {cs:List Value},cs.length=3→∃ x y z,cs=[x,y,z]
 | [x,y,z],_=>⟨x,y,z,rfl⟩
instance:Inhabited az:=⟨⟨0,0,0,0,0,0,[]⟩⟩
theorem Jx:Rd Tryd.prog w 26 (fun l:List az=>[.ro 7 (steps l)]) fun l=>l.length≤9223372036854775807∧∀ s ∈ l,s.Rd:=Rd.slice (e:=45) (by kernel_rfl) (by kernel_rfl) Mc
theorem HX {cs:List Value} {cap:Nat} (h:TZ Tryd.prog w 25 cs cap):∃ c:bk,jl w (sG c) cs∧c.ah.length≤cap∧c.homes.length≤cap:=by
 obtain ⟨c,-,hr⟩:=Mb cs h.tr
 have hf:=TZ.struct (fs:=#[⟨"Servers",3,0,false, "", "",0⟩,⟨"Links",22,1,false, "", "",8⟩,⟨"Homes",23,2,false, "", "",32⟩]) (by kernel_rfl) h
 obtain ⟨x,y,z,rfl⟩:=HW hr.1
 have ha:=hf ⟨"Links",22,1,false, "", "",8⟩ (by simp)
 have hb:=hf ⟨"Homes",23,2,false, "", "",32⟩ (by simp)
 rw [show Tryd.prog.cellsOf (⟨"Links",22,1,false, "", "",8⟩:Field).type=1 by kernel_rfl] at ha
 rw [show Tryd.prog.cellsOf (⟨"Homes",23,2,false, "", "",32⟩:Field).type=1 by kernel_rfl] at hb
 refine ⟨c,hr,?_,?_⟩
 ·have d:=hr.2 1 (.ro 2 (ah c.ah)) y rfl rfl
  cases d with | ro X h1 h2 h3 h4=>
  obtain ⟨a,k,rfl,-⟩:=h2
  have:=TZ.slice (e:=71) (by kernel_rfl) (Nat.le_of_ble_eq_true (by kernel_rfl)) ha
  simpa [ah] using this
 ·have d:=hr.2 2 (.ro 1 (ints c.homes)) z rfl rfl
  cases d with | ro X h1 h2 h3 h4=>
  obtain ⟨a,k,rfl,-⟩:=h2
  have:=TZ.slice (e:=3) (by kernel_rfl) (Nat.le_of_ble_eq_true (by kernel_rfl)) hb
  simpa [ints] using this
end Go.Proofs.YtcnpikbbmbombaaDoor
namespace Go.Proofs.YtcnpikbbmbombaaDoor
open Go.RowKit
def mh (F:TypeId→DataW Unit→Option (List Value)) (P:Program) (tot:Nat):List (TypeId×Nat)→List (DataW Unit)→Nat→Option (List Value)
 | [],[],off=>if off=tot then some [] else none
 | q::L,d::ds,off=>if q.2=off then (F q.1 d).bind fun X=>(mh F P tot L ds (off+P.cellsOf q.1)).map fun Y=>X++Y else none
 | _,_,_=>none
def mi (P:Program):Nat→TypeId→DataW Unit→Option (List Value)
 | 0,_,_=>none
 | _+1,t,.lit l=>match P.underlying t,l with
  | some .bool,.bool b=>some [.bool b]
  | some (.int _),.int k m=>some [.int k m]
  | some .string,.string s=>some [.string ⟨s.toArray⟩]
  | _,_=>none
 | n+1,t,.agg ps=>match P.underlying t with
  | some (.struct fs)=>mh (mi P n) P (P.cellsOf t) (fs.toList.map fun f=>(f.type,f.offset)) ps 0
  | some (.array m e)=>mh (mi P n) P (P.cellsOf t) ((List.range m).map fun i=>(e,i*P.cellsOf e)) ps 0
  | _=>none
 | _+1,_,_=>none
theorem uM {F:TypeId→DataW Unit→Option (List Value)} {P:Program} {tot:Nat} {cs:List Value} (hl:cs.length=tot):∀ {L:List (TypeId×Nat)} {ds:List (DataW Unit)} {off:Nat} {X:List Value},(∀ (j:Nat) q d,L[j]?=some q→ds[j]?=some d→∀ X,F q.1 d=some X→(cs.drop q.2).take (P.cellsOf q.1)=X)→mh F P tot L ds off=some X→cs.drop off=X
 | [],[],off,X,_,h=>by
  unfold mh at h
  split at h
  ·simp at h;subst h;rename_i e;exact List.drop_of_length_le (by omega)
  ·simp at h
 | q::L,d::ds,off,X,hq,h=>by
  unfold mh at h
  split at h
  ·rename_i e
   obtain ⟨X0,h0,h1⟩:=Option.bind_eq_some_iff.1 h
   obtain ⟨Y,h2,rfl⟩:=Option.map_eq_some_iff.1 h1
   have a:=hq 0 q d rfl rfl X0 h0
   have b:=uM hl (fun j q' d' g1 g2=>hq (j+1) q' d' (by simpa using g1) (by simpa using g2)) h2
   rw [e] at a
   rw [← a,← b,← List.drop_drop,List.take_append_drop]
  ·simp at h
 | [],_::_,_,_,_,h=>by simp [mh] at h
 | _::_,[],_,_,_,h=>by simp [mh] at h
theorem HY {P:Program} {w:World} {enc:TypeId×Value→Unit} {base:Nat} {sp:Nat→Bool} {held:Bool}:∀ {n fuel:Nat} {t:TypeId} {cs:List Value} {d:DataW Unit} {p:List MemPlace} {X:List Value},DataW.trod enc P w base sp held fuel t cs=some (d,p)→mi P n t d=some X→cs=X:=by
 intro n
 induction n with
 | zero=>intro fuel t cs d p X _ h;simp [mi] at h
 | succ n ih=>
  intro fuel t cs d p X h hf
  cases fuel with
  | zero=>simp [DataW.trod] at h
  | succ fuel=>
   cases d with
   | lit l=>
    unfold mi at hf
    split at hf
    ·rename_i ht
     rw [DataW.trod_step] at h;unfold DataW.trodStep at h;simp only [ht] at h
     split at h<;>simp_all
    ·rename_i ht
     rw [DataW.trod_step] at h;unfold DataW.trodStep at h;simp only [ht] at h
     split at h<;>simp_all
    ·rename_i ht
     rw [DataW.trod_step] at h;unfold DataW.trodStep at h;simp only [ht] at h
     split at h<;>try simp_all
     rename_i s _ _ _ _
     obtain ⟨-,rfl,-⟩:=h
     subst hf
     simp
    ·simp at hf
   | agg ps=>
    unfold mi at hf
    split at hf
    ·rename_i fs ht
     rw [DataW.trod_step] at h;unfold DataW.trodStep at h;simp only [ht] at h
     split at h
     ·rename_i hlen
      obtain ⟨xs,h1,h2⟩:=Option.map_eq_some_iff.1 h
      simp only [Prod.mk.injEq,DataW.agg.injEq] at h2
      obtain ⟨rfl,-⟩:=h2
      have:=uM hlen (fun j q d g1 g2 Y gY=>?_) hf
      ·simpa using this
      ·rw [List.getElem?_map] at g1 g2
       obtain ⟨f,g3,rfl⟩:=Option.map_eq_some_iff.1 g1
       obtain ⟨y,g4,rfl⟩:=Option.map_eq_some_iff.1 g2
       obtain ⟨y',g5,g6⟩:=mapM_at h1 j f g3
       obtain rfl:y'=y:=Option.some.inj (g5.symm.trans g4)
       exact ih (d:=y'.1) (p:=y'.2) g6 gY
     ·simp at h
    ·rename_i m e ht
     rw [DataW.trod_step] at h;unfold DataW.trodStep at h;simp only [ht] at h
     split at h
     ·rename_i hlen
      obtain ⟨xs,h1,h2⟩:=Option.map_eq_some_iff.1 h
      simp only [Prod.mk.injEq,DataW.agg.injEq] at h2
      obtain ⟨rfl,-⟩:=h2
      have:=uM hlen (fun j q d g1 g2 Y gY=>?_) hf
      ·simpa using this
      ·rw [List.getElem?_map] at g1 g2
       obtain ⟨f,g3,rfl⟩:=Option.map_eq_some_iff.1 g1
       obtain ⟨y,g4,rfl⟩:=Option.map_eq_some_iff.1 g2
       obtain ⟨y',g5,g6⟩:=mapM_at h1 j f g3
       obtain rfl:y'=y:=Option.some.inj (g5.symm.trans g4)
       exact ih (d:=y'.1) (p:=y'.2) g6 gY
     ·simp at h
    ·simp at hf
   | _=>simp [mi] at hf
theorem y4 {P:Program} {w:World}:∀ {l:List (String×DataW Unit)} {ps:List MemPlace},DataW.LaidVars P w l ps→∀ {n:String} {d:DataW Unit},(n,d) ∈ l→∃ g t cs fuel p,P.globalNamed n=some g∧(P.globals[g]?).map (·.type)=some t∧w.var? P n=some cs∧DataW.trod (fun _=>()) P w 0 (fun _=>true) false fuel t cs.toList=some (d,p)
 | [],_,_,_,_,hm=>by simp at hm
 | (n0,d0)::r,ps,h,n,d,hm=>by
  obtain ⟨g,t,cs,fuel,p,q,e1,e2,e3,e4,hr,rfl⟩:=h
  rcases List.mem_cons.1 hm with e | hm
  ·obtain ⟨rfl,rfl⟩:=Prod.mk.inj e;exact ⟨g,t,cs,fuel,p,e1,e2,e3,e4⟩
  ·exact y4 hr hm
def xS:DV→Value
 | .v x=>x
 | _=>.bool false
def CQ:DV→Bool
 | .v _=>true
 | _=>false
theorem Bj {P:Program} {w:World} {laid:List (String×DataW Unit)} (h:laidMet P laid w) {n:String} {d:DataW Unit} (hm:(n,d) ∈ laid) {g t:Nat} (k:Nat) {row:List DV} (hg:P.globalNamed n=some g) (ht:(P.globals[g]?).map (·.type)=some t) (hf:mi P k t d=some (row.map xS)) (hv:row.all CQ=true) {u:Nat}:bq (Gr w) [] u (.gw g row) []:=by
 obtain ⟨ps,hl,-⟩:=h
 obtain ⟨g',t',cs,fuel,p,e1,e2,e3,e4⟩:=y4 hl hm
 obtain rfl:g=g':=Option.some.inj (hg.symm.trans e1)
 obtain rfl:t=t':=Option.some.inj (ht.symm.trans e2)
 have hX:=HY e4 hf
 refine .gw (row.map xS) (by simp) (fun w' hw j x hx=>hw.sH ?_) fun j c x hc hx=>?_
 ·unfold World.var? at e3
  rw [hg,Option.bind_some] at e3
  split at e3
  ·rename_i bM t' fr hh
   obtain rfl:=Option.some.inj e3
   rw [← hX] at hx
   have h0:((⟨g,0,none⟩:Addr).add j)=⟨g,j,none⟩:=by simp [Addr.add];omega
   rw [h0]
   simp only [World.cell?,hh]
   simpa using hx
  ·simp at e3
 ·have hb:=List.all_eq_true.1 hv c (List.mem_of_getElem? hc)
  rw [List.getElem?_map,hc] at hx
  cases c<;>simp [CQ] at hb
  simp [xS] at hx
  subst hx
  exact .v _
section
variable {w:World} {laid:List (String×DataW Unit)}
theorem Md:Tryd.prog.globalNamed "caucus/script.shapes"=some 0:=by kernel_rfl
theorem Me:Tryd.prog.globalNamed "internal/strconv.uint64pow10"=some 1:=by kernel_rfl
end
end Go.Proofs.YtcnpikbbmbombaaDoor
namespace Go.Proofs.YtcnpikbbmbombaaDoor
open Go.ChangeShapes Go.WideShapes Go.ChangeAt Go.RowKit
theorem Tryd.laidOut:laidOutB Tryd.prog=true:=by kernel_rfl
theorem Tryd.own:ownKnob Tryd.prog.godebug=none:=by kernel_rfl
theorem Mf {w:World} {laid:List (String×DataW Unit)} (h:laidMet Tryd.prog laid w) (h0:("caucus/script.shapes",Rows.laid_caucus_script_shapes) ∈ laid) (h1:("internal/strconv.uint64pow10",Rows.laid_internal_strconv_uint64pow10) ∈ laid):sP [.gw 0 ai,.gw 1 aM] (Gr w):=fun u blk hu=>by
 match u,hu with
 | 0,hu=>cases hu;exact Bj h h0 (t:=85) 5 Md (by kernel_rfl) (by kernel_rfl) (by kernel_rfl)
 | 1,hu=>cases hu;exact Bj h h1 (t:=139) 5 Me (by kernel_rfl) (by kernel_rfl) (by kernel_rfl)
 | k+2,hu=>simp at hu
theorem KD {w:World} {c:bk} {cs:Array Value} (h:jl w (sG c) (Value.agg cs).cells.toList):au (Gr w) [] (.ag [.z c.aq,.d (.ro 2 (ah c.ah)),.d (.ro 1 (ints c.homes))]) (.agg cs):=by
 obtain ⟨l⟩:=cs
 refine .ag l h.1 fun j x y h1 h2=>?_
 have e:([.z c.aq,.d (.ro 2 (ah c.ah)),.d (.ro 1 (ints c.homes))]:List AV)=(sG c).map AV.d:=rfl
 rw [e,List.getElem?_map] at h1
 obtain ⟨x',h3,rfl⟩:=Option.map_eq_some_iff.1 h1
 exact .d (h.2 j x' y h3 h2)
theorem HZ {w:World} {l:List az} {v:Value} {a:Option Addr} {n c:Nat} (e:v=.slice a n c) (h:jl w [.ro 7 (steps l)] v.cells.toList):au (Gr w) [] (.d (.ro 7 (steps l))) v:=by
 subst e
 exact .d (h.2 0 _ _ rfl rfl)
end Go.Proofs.YtcnpikbbmbombaaDoor
namespace Go.Proofs.YtcnpikbbmbombaaDoor
open Go.ChangeShapes Go.WideShapes Go.ChangeAt Go.RowKit
theorem Gi:Tryd.prog.funcs.any Func.goes=false:=by kernel_rfl
theorem Jy {P:Program} (h:P.funcs.any Func.goes=false) (f:FuncId):P.goes f=false:=by
 have h1:∀ (g:Nat) fn,P.funcs[g]?=some fn→fn.goes=false:=fun g fn hg=>by
  have:=Array.any_eq_false.1 h g (Array.getElem?_eq_some_iff.1 hg).1
  obtain ⟨aI,rfl⟩:=Array.getElem?_eq_some_iff.1 hg
  simpa using this
 unfold Program.goes
 rw [h,Bool.and_false,Bool.or_false,List.any_eq_false]
 intro g _
 cases hg:P.funcs[g]? with
 | none=>simp
 | some fn=>simp [h1 g fn hg]
theorem Gj {P:Program} {c:OpenClaim} (hs:c.start=.entering) (h:P.funcs.any Func.goes=false):false=c.goesBy P:=by
 unfold OpenClaim.goesBy Program.goesAt Program.goesFrom
 rw [hs]
 cases P.funcNamed c.func with
 | none=>rfl
 | some f=>simp [Jy h f]
end Go.Proofs.YtcnpikbbmbombaaDoor
namespace Go.Proofs.YtcnpikbbmbombaaDoor
open Go.ChangeShapes Go.WideShapes Go.ChangeAt Go.RowKit
theorem Jz {w:World} {b:UInt8} {v:Value} {k:IntKind} {n:Int} (e:v=.int k n) (h:jl w [.v (.int .u8 ((b.toNat:Nat):Int))] v.cells.toList):au (Gr w) [] (.d (.v (.int .u8 ((b.toNat:Nat):Int)))) v:=by
 subst e
 exact .d (h.2 0 _ _ rfl rfl)
set_option maxRecDepth 100000 in
theorem DW (os:Os) (started:os.Started) (H:Type) (enc:TypeId×Value→H):
  ReturnsInHanded {} Tryd.checked os 3 .any (fun w args=>(Rows.scriptBackSpec.pre enc Tryd.prog Tryd.f3 [] false w args∧laidMetH Tryd.prog Rows.scriptBackRow.laid w)∧sizedMet enc Tryd.prog Tryd.f3 (OpenSpec.ofChange Rows.scriptBackSpec) false w args)
   (Rows.scriptBackSpec.post enc Tryd.prog Tryd.f3 false true false false):=by
 refine returnsInHanded_of_change_and (C:=Tryd.checked) (X:=fun w _=>laidMetH Tryd.prog Rows.scriptBackRow.laid w) (fun _ _ _ hh h=>h.of_heap hh) Tryd.own started (by kernel_rfl) Tryd.func3
  (ChangeSpec.witness_shaped (enc:=enc) (C:=Tryd.checked) (os:=os) (X:=fun w _=>laidMetH Tryd.prog Rows.scriptBackRow.laid w) false (World.laidAll Tryd.prog os Rows.scriptBackRow.laid) #[.agg #[.int .i64 0,.slice none 0 0,.slice none 0 0],.slice none 0 0,.int .u8 0] 8 (World.laidAll_os _ _ _) (World.shaped_of_ZipB (by kernel_rfl) (by kernel_rfl)) (by kernel_rfl) (by kernel_rfl) (by kernel_rfl)
   (by rw [MakeChecks.laidMetH_plain _ _ _ (by kernel_rfl)];exact laidMet_laidAll _ (by kernel_rfl) (by kernel_rfl))) ?_
 intro W base args ds gs before Mg hW _ bp hX _
 have yD:DataW.Whole enc Tryd.prog Tryd.f3.params.toList Rows.scriptBackSpec.vars false W args.toList ds gs before:=hW
 obtain ⟨p,q,Ox,hV,rfl,NS,fX⟩:=hW
 have hA:DataW.TrodAll enc Tryd.prog W 0 (fun _=>true) true Tryd.f3.params.toList args.toList ds p:=Ox
 have kx:∀ (j:Nat) t v,Tryd.f3.params[j]?=some t→args[j]?=some v→Value.okWide Tryd.prog W .any base t v:=Mg
 rw [Tryd.params3] at hA kx
 obtain ⟨v0,PH,d0,PI,p0,q0,Oy,rfl,rfl,h0,r0⟩:=trodAll_cons hA
 obtain ⟨v1,PJ,d1,PK,p1,q1,KE,rfl,rfl,h1,r1⟩:=trodAll_cons r0
 subst KE
 obtain ⟨v2,PL,d2,PM,p2,q2,KF,rfl,rfl,h2,r2⟩:=trodAll_cons r1
 subst KF
 obtain ⟨rfl,rfl,rfl⟩:=trodAll_nil r2
 obtain rfl:args=#[v0,v1,v2]:=by cases args;simp_all
 obtain ⟨rfl,rfl⟩:=trodVars_none hV
 have PN:=reachBytes_lt
 have yd:∀ n ∈ d0.weights Tryd.prog 25,n≤reachBytes:=fun n hn=>by simpa using List.all_eq_true.1 bp n (DataW.weights_mem_each (j:=0) (by rw [Tryd.params3];rfl) rfl n hn)
 obtain ⟨PO,rfl,-,-⟩:∃ cs,v0=.agg cs∧_∧_:=by have:=kx 0 25 v0 rfl rfl;rw [Value.okWide,Tryd.underlying25] at this;exact this
 obtain ⟨c,hc,fw,hC⟩:=HX (TZ.of h0 yd)
 obtain ⟨a1,n1,c1,dP⟩:=okWide_slice (P:=Tryd.prog) (e:=45) (by kernel_rfl) (kx 1 26 v1 rfl rfl)
 obtain ⟨l,⟨hl,hr⟩,hs⟩:=Jx _ (TR.of h1)
 obtain ⟨n2,fJ⟩:=okWide_int (P:=Tryd.prog) Tryd.underlying5 (kx 2 5 v2 rfl rfl)
 obtain ⟨b2,-,jD⟩:=(Rd.byte (by kernel_rfl)) _ (TR.of h2)
 refine (aA.JZ (KC c l b2.toNat b2.toNat_lt (by omega) hl hr) (Mf ((MakeChecks.laidMetH_plain _ _ _ (by kernel_rfl)).mp hX) (by simp [Rows.scriptBackRow]) (by simp [Rows.scriptBackRow])) (ys:=[_,_,_]) rfl fun j x y e1 e2=>?_).mono fun e W' ⟨he,hg⟩=>?_
 ·match j,e1,e2 with
  | 0,e1,e2=>cases e1;cases e2;exact KD hc
  | 1,e1,e2=>cases e1;cases e2;exact HZ dP hs
  | 2,e1,e2=>cases e1;cases e2;exact Jz fJ jD
  | k+3,e1,e2=>simp at e1
 ·subst he
  exact ⟨_,rfl,Hf Tryd.laidOut (by kernel_rfl) (by kernel_rfl) Tryd.underlying4 rfl yD rfl hg⟩
theorem DX:joinedFacts Tryd.pinned.checked.prog 3 Tryd.f3 Rows.scriptBackSpec Rows.scriptBackRow=true:=by kernel_rfl
theorem DY:Rows.ScriptBackSaid:=
 OpenClaim.holds_of_wide 3 Tryd.f3 rfl rfl rfl rfl rfl rfl rfl ⟨rfl,rfl,rfl,rfl,rfl⟩ rfl rfl rfl rfl rfl (by kernel_rfl) Tryd.func3 DX
  (of_decide_eq_true (by kernel_rfl)) (by unfold Func.isWrapper;first | (rw [if_pos (by decide +kernel)];kernel_rfl) | (rw [if_neg (by decide +kernel)];exact ⟨rfl,rfl⟩))
  (fun os started H enc _=>DW os started H enc)
theorem D5:Tryd.pinned.checked.prog.wantsStandIn 25=false:=by kernel_rfl
theorem D6:Tryd.pinned.checked.prog.wantsStandIn 26=false:=by kernel_rfl
theorem D7:Tryd.pinned.checked.prog.wantsStandIn 5=false:=by kernel_rfl
theorem scriptBack_card:Rows.ScriptBackCardSaid:=
 Claim7.holds_tied_plain_at .later [] [.data,.data,.data,.data,.data,.pinned] true (true, "0edacff6e8291fc64211613a97ae50fcf3cacb0915dc33591f8cf181fd7d35d1") false DY (fun _ h=>by cases h) (by kernel_rfl) (fun _ h=>by cases h) scriptBack_row_tie rfl ⟨rfl,rfl⟩ (by kernel_rfl) rfl
  (fun f fn hf mQ=>by
   obtain rfl:f=3:=Option.some.inj ((show Tryd.prog.funcNamed "caucus/caucuslaw27.ScriptBack"=some 3 by kernel_rfl).symm.trans hf) |>.symm
   obtain rfl:fn=Tryd.f3:=(Option.some.inj (Tryd.func3.symm.trans mQ)).symm
   exact ⟨by kernel_rfl,fun j t ht=>by
    rw [Tryd.params3] at ht
    match j,ht with
    | 0,ht=>
     obtain rfl:t=25:=by simpa using ht.symm
     exact D5
    | 1,ht=>
     obtain rfl:t=26:=by simpa using ht.symm
     exact D6
    | 2,ht=>
     obtain rfl:t=5:=by simpa using ht.symm
     exact D7
    | k+3,ht=>simp at ht⟩)
  (Gj rfl Gi)
end Go.Proofs.YtcnpikbbmbombaaDoor
