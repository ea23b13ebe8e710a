/-
  scriptEncodes_card, part 6 of 6: merged by program from the texts that it needs.
-/
import Derived.Test.YtcnpikbbmbombaaGreatDoorSeE
set_option linter.unusedSimpArgs false
set_option linter.unusedVariables false
set_option linter.unnecessarySimpa false
namespace Go.Proofs.YtcnpikbbmbombaaGreatDoor
open Go.RowKit
theorem om {z:Int} {r:dC} (h:(br z r).2=false):r.2=false:=by
 obtain ⟨l,b⟩:=r
 cases b with
 | false=>rfl
 | true=>
  have e:jA l true z:=.inl rfl
  unfold br et at h;simp only [if_pos e] at h;cases h
theorem Lo {r:dC} (h:(rU r).2=false):r.2=false:=by
 obtain ⟨l,b⟩:=r
 cases b with
 | false=>rfl
 | true=>unfold rU qO eQ at h;simp at h
theorem oa {c:Bool} {r s q:dC} (h:(cond c r s).2=false) (hr:r.2=false→q.2=false) (hs:s.2=false→q.2=false):q.2=false:=by cases c;exact hs h;exact hr h
theorem Lp {l:List UInt8} (h:(dc l).2=false):(b6 l).2=false:=
 have h5:=oa (q:=bj l) h (fun h=>om (om h)) id
 have h4:=oa (q:=dV l) h5 Lo id
 have h3:=oa (q:=dy l) h4 om id
 have h2:=oa (q:=dx l) h3 om id
 have h1:=oa (q:=dw l) h2 om id
 oa (q:=b6 l) h1 om id
theorem Is {l:List UInt8} (h:(b6 l).2=false):(b6 l).1.length+1=l.length:=by
 by_cases e:jA l false 1
 ·unfold b6 br et at h;simp only [if_pos e] at h;cases h
 ·unfold b6 br ef;simp only [if_neg e]
  unfold jA at e;simp;omega
theorem It (l:List UInt8):(dc l).1.length≤(b6 l).1.length:=
 have h1:(dw l).1.length≤(b6 l).1.length:=jc (gB _ _) (Nat.le_refl _)
 have h2:(dx l).1.length≤(b6 l).1.length:=jc (Nat.le_trans (gB _ _) h1) h1
 have h3:(dy l).1.length≤(b6 l).1.length:=jc (Nat.le_trans (gB _ _) h2) h2
 have h4:(dV l).1.length≤(b6 l).1.length:=jc (Nat.le_trans (gB _ _) h3) h3
 have h5:(bj l).1.length≤(b6 l).1.length:=jc (Nat.le_trans (BI _) h4) h4
 jc (Nat.le_trans (gB _ _) (Nat.le_trans (gB _ _) h5)) h5
theorem AI (l:List UInt8):1≤(bk l).2:=by
 unfold bk;split
 ·exact Nat.le_refl _
 ·cases e:(dc l).2 with
  | true=>exact Nat.le_refl _
  | false=>
   have h1:=Is (Lp e)
   have h2:=It l
   show 1≤l.length-(dc l).1.length
   omega
theorem JH {l:List UInt8} (h:1≤l.length):(bk l).2≤l.length:=by
 unfold bk;split
 ·exact h
 ·cases (dc l).2 with
  | true=>exact h
  | false=>exact Nat.sub_le _ _
def jP (b:List UInt8):List aG:=if h:b=[] then [] else (bk (b.take 258)).1::jP (b.drop (bk (b.take 258)).2)
termination_by b.length
decreasing_by
 have h1:=AI (b.take 258)
 have h2:0<b.length:=List.length_pos_iff.2 h
 simp;omega
theorem ug:jP []=[]:=by rw [jP,dif_pos rfl]
theorem ri {b:List UInt8} (h:0<b.length):jP b=(bk (b.take 258)).1::jP (b.drop (bk (b.take 258)).2):=by
 rw [jP,dif_neg (List.length_pos_iff.1 h)]
theorem Mu (l:List UInt8) (a:Nat) (ha:a≤l.length):List.drop a (List.take (min l.length (a+258)) (ae l))=ae ((l.drop a).take 258):=by
 rw [← yG,← yH]
 congr 1
 rw [List.drop_take]
 rcases Nat.le_total (a+258) l.length with h | h
 ·rw [Nat.min_eq_right h,Nat.add_sub_cancel_left]
 ·rw [Nat.min_eq_left h,List.take_of_length_le (by simp),List.take_of_length_le (by simp;omega)]
def aG.xF (s:aG):List DV:=[.z s.kind,.z s.node,.z s.peer,.z s.n,.z s.bit,.u s.inc,.em 5 1 (ae s.body)]
def eD (l:List aG):List (List DV):=l.map aG.xF
theorem iX (l:List aG):(eD l).length=l.length:=by simp [eD]
set_option maxRecDepth 100000 in
theorem JI (l:List UInt8) (hl:l.length≤65536) (hG:gE l≤l.length) (hM:bS (gC l)=true):aC Tryz.prog 15 [.d (.ro 1 (ae l))] [.gw 0 aj] (.tu [.ag [.z (gV l 0),.sl 1 (gN l),.sl 2 (gM l)],.sl 3 (jP (l.drop (gE l))).length,.z 0]) ([.gw 0 aj,.rw 60 2 (ah (gL l (gN l))),.rw 3 1 (ints (gH l (gM l))),.rw 42 7 (eD (jP (l.drop (gE l))))]):=by
 refine aC.intro (by kernel_rfl) rfl rfl 58 rfl rfl fun D w0 K bs ac wd hK (ao:bs.m=1) r=>?_
 have u0:=((by simp [ae]):(((ae l).length:Nat):Int)=((l.length:Nat):Int))
 cases h0:(decide ((65536:Int)<((l.length:Nat):Int))) with
 | false=>
  have bo:=of_decide_eq_false h0
  have u1:=((by have h:=tK l (by omega);unfold gS at h;simpa using h):aC Tryz.prog 32 [.d (.ro 1 (ae l))] [] (.pt 0 0) [.bx 108 [.d (.ro 1 (ae (l.drop (0)))),.d (.v (.bool ((decide (l.length<(0))))))]])
  have u2:=(vH (l.drop (2+2*gN l+1+gM l)) (decide (l.length<(2+2*gN l+1+gM l))))
  cases h1:(((if (decide (l.length<(2+2*gN l+1+gM l)))=true then 3 else 0):Int) != 0) with
  | false=>
   have bO:=fZ h1
   cases h2:(bS (gC l)) with
   | false=>
    exact absurd h2 (by rw [hM];decide)
   | true=>
    refine cD (todo':=hd Tryz.f15 0) (E':=[(0,.d (.ro 1 (ae l))),(2,.pt 1 0),(6,.pt 2 0),(7,.d (.v (.slice none 0 0))),(8,.n (gE l))]) (M':=[.gw 0 aj,.bx 25 [.z 0,.d (.v (.slice none 0 0)),.d (.v (.slice none 0 0))],.bx 25 [.z (gV l 0),.sl 3 ((gN l)),.sl 4 ((gM l))],.rw 60 2 (ah (gL l (gN l))),.rw 3 1 (ints (gH l (gM l)))]) tk mo hK ao [(1,[(1,.z (((l.length:Nat):Int))),(2,.b false)]),(3,[(1,.mem [] (.pt 0 0) [.bx 108 [.d (.ro 1 (ae (l.drop (0)))),.d (.v (.bool ((decide (l.length<(0))))))]])]),(4,[(1,.mem [2] (.ag [.z (gV l 0),.sl 1 ((gN l)),.sl 2 ((gM l))]) [.bx 108 [.d (.ro 1 (ae (l.drop (2+2*gN l+1+gM l)))),.d (.v (.bool ((decide (l.length<(2+2*gN l+1+gM l))))))],.rw 60 2 (ah (gL l (gN l))),.rw 3 1 (ints (gH l (gM l)))])]),(5,[(1,.mem [2] (.z ((if (decide (l.length<(2+2*gN l+1+gM l)))=true then 3 else 0))) [.bx 108 [.d (.ro 1 (ae (l.drop (2+2*gN l+1+gM l)))),.d (.v (.bool ((decide (l.length<(2+2*gN l+1+gM l))))))]]),(2,.b false),(5,.call [.ag [.z (gV l 0),.d (.ro 2 (ah (gL l (gN l)))),.d (.ro 1 (ints (gH l (gM l))))]] (.v (.bool true)))]),(8,[(1,.z (((l.length:Nat):Int))),(3,.mem [2] (.n ((l.drop (2+2*gN l+1+gM l)).length)) [.bx 108 [.d (.ro 1 (ae (l.drop (2+2*gN l+1+gM l)))),.d (.v (.bool ((decide (l.length<(2+2*gN l+1+gM l))))))]]),(4,.z (((gE l:Nat):Int)))])] 2000 [0,1,5,3,4] [0,2,6,7,8] r (by kernel_rfl) (U u0 (U h0 (U u1 (U (JD l) (U u2 (U h1 (U ((by have k:=p5 (gC l) (by show (gL l (gN l)).length≤_;rw [dm];have:=wM l;omega) (by show (gH l (gM l)).length≤_;rw [dn];have:=wN l;omega);rw [h2] at k;exact k):al Tryz.prog 21 [.ag [.z (gV l 0),.d (.ro 2 (ah (gL l (gN l)))),.d (.ro 1 (ints (gH l (gM l))))]] (.v (.bool true))) (U ((iG _):fS (.v (.bool true))) (U (mA (.z (gV l 0))) (U (eY (2)) (U ((by first | rfl | (simp [ae,ah,ints,dm,dn,iX];done) | (simp [ae,ah,ints,dm,dn,iX];omega)):((gN l))=(ah (gL l (gN l)):List (List DV)).length) (U ((by first | exact mF _ | exact mG _):cN (ah (gL l (gN l)))=ah (gL l (gN l))) (U (eY (1)) (U ((by first | rfl | (simp [ae,ah,ints,dm,dn,iX];done) | (simp [ae,ah,ints,dm,dn,iX];omega)):((gM l))=(ints (gH l (gM l))).length) (U ((by first | exact mF _ | exact mG _):cN (ints (gH l (gM l)))=ints (gH l (gM l))) (U u0 (U (AE (l.drop (2+2*gN l+1+gM l)) (decide (l.length<(2+2*gN l+1+gM l)))) (U ((wi (by simp;unfold gE at *;omega)):IntKind.i64.wrap ((((l.length:Nat):Int):Int)-(((l.drop (2+2*gN l+1+gM l)).length:Nat):Int))=((gE l:Nat):Int)) trivial)))))))))))))))))) fun ac wd r=>?_
    refine aD.rounds (Φ:=fun (i:Nat) ac wd=>∃ a:Nat,∃ S:List aG,(i≤a∧a≤l.length∧S.length=i∧S++jP (l.drop a)=jP (l.drop (gE l)))∧RB D w0 K 58 bs [(0,.d (.ro 1 (ae l))),(2,.pt 1 0),(6,.pt 2 0),(7,.sl 5 (i)),(8,.n a)] [.gw 0 aj,.bx 25 [.z 0,.d (.v (.slice none 0 0)),.d (.v (.slice none 0 0))],.bx 25 [.z (gV l 0),.sl 3 ((gN l)),.sl 4 ((gM l))],.rw 60 2 (ah (gL l (gN l))),.rw 3 1 (ints (gH l (gM l))),.rw 42 7 (eD S)] ac wd) (l.length) ?_ (Nat.zero_le _) ⟨(gE l),[],⟨Nat.zero_le _,hG,rfl,by simp⟩,r.fk (M1:=[.gw 0 aj,.bx 25 [.z 0,.d (.v (.slice none 0 0)),.d (.v (.slice none 0 0))],.bx 25 [.z (gV l 0),.sl 3 ((gN l)),.sl 4 ((gM l))],.rw 60 2 (ah (gL l (gN l))),.rw 3 1 (ints (gH l (gM l))),.rw 42 7 []]) [(7,42,7)] [] (by kernel_rfl) (by kernel_rfl)⟩
    clear r
    rintro i dv bH ac wd ⟨a,S,aq,r⟩
    have O5:=aq.1
    have dA:=aq.2.1
    have dM:=aq.2.2.1
    cases h3:(decide ((((a:Nat):Int):Int)<((l.length:Nat):Int))) with
    | false=>
     have dB:=of_decide_eq_false h3
     refine bg (y:=.tu [.ag [.z (gV l 0),.sl 1 ((gN l)),.sl 2 ((gM l))],.sl 3 (i),.z 0]) (N':=[.gw 0 aj,.rw 60 2 (ah (gL l (gN l))),.rw 3 1 (ints (gH l (gM l))),.rw 42 7 (eD S)]) ((by first | rfl | (rw [← aq.2.2.2,List.drop_of_length_le (by omega),ug,List.append_nil,aq.2.2.1]))) ((by first | rfl | (rw [← aq.2.2.2,List.drop_of_length_le (by omega),ug,List.append_nil]))) ?_
     exact bf tk mo hK rfl ao [(9,[(2,.z (((l.length:Nat):Int))),(3,.b false)])] 2000 [0,3,4,5] r (by kernel_rfl) (U u0 (U h3 trivial))
    | true=>
     have dB:=of_decide_eq_true h3
     have NR:1≤((l.drop a).take 258).length:=by simp;omega
     have O6:=AI ((l.drop a).take 258)
     have kz:=JH NR
     have O7:((l.drop a).take 258).length≤l.length-a:=by simp;omega
     have NS:=ri (b:=l.drop a) (by simp;omega)
     exact cD (todo':=hd Tryz.f15 0) (E':=[(0,.d (.ro 1 (ae l))),(2,.pt 1 0),(6,.pt 2 0),(7,.sl 5 (i+(1))),(8,.n (a+(bk ((l.drop a).take 258)).2))]) (M':=[.gw 0 aj,.bx 25 [.z 0,.d (.v (.slice none 0 0)),.d (.v (.slice none 0 0))],.bx 25 [.z (gV l 0),.sl 3 ((gN l)),.sl 4 ((gM l))],.rw 60 2 (ah (gL l (gN l))),.rw 3 1 (ints (gH l (gM l))),.rw 42 7 (eD S++[[.z ((bk ((l.drop a).take 258)).1.kind),.z ((bk ((l.drop a).take 258)).1.node),.z ((bk ((l.drop a).take 258)).1.peer),.z ((bk ((l.drop a).take 258)).1.n),.z ((bk ((l.drop a).take 258)).1.bit),.u ((bk ((l.drop a).take 258)).1.inc),.em 5 1 (ae (bk ((l.drop a).take 258)).1.body)]])]) tk mo hK ao [(9,[(2,.z (((l.length:Nat):Int))),(3,.b true)]),(10,[(3,.z (((l.length:Nat):Int))),(5,.z (((a+258:Nat):Int))),(6,.z (((min (l.length) (a+258):Nat):Int))),(7,.n2 (min (l.length) (a+258)) (a)),(8,.mem [0] (.tu [.ag [.z ((bk ((l.drop a).take 258)).1.kind),.z ((bk ((l.drop a).take 258)).1.node),.z ((bk ((l.drop a).take 258)).1.peer),.z ((bk ((l.drop a).take 258)).1.n),.z ((bk ((l.drop a).take 258)).1.bit),.u ((bk ((l.drop a).take 258)).1.inc),.sl 1 ((ae (bk ((l.drop a).take 258)).1.body).length)],.n ((bk ((l.drop a).take 258)).2)]) [.gw 0 aj,.rw 5 1 (ae (bk ((l.drop a).take 258)).1.body)])]),(12,[(2,.z (((a+(bk ((l.drop a).take 258)).2:Nat):Int)))])] 2000 [0,1,2,3,4,5] [0,2,6,7,8] r (by kernel_rfl) (U u0 (U h3 (U u0 (U ((wi (by omega)):IntKind.i64.wrap ((((a:Nat):Int):Int)+258)=((a+258:Nat):Int)) (U ((by omega):(min (((l.length:Nat):Int)) (((a+258:Nat):Int)):Int)=((min (l.length) (a+258):Nat):Int)) (U (aB ((a:Nat):Int)) (U (aB ((min (l.length) (a+258):Nat):Int)) (U ((by first | omega | decide | (simp;done) | (simp;omega)):(a)≤(min (l.length) (a+258))) (U ((by simp [ae];omega):(min (l.length) (a+258))≤(ae l).length) (U ((by have h:=Fg ((l.drop a).take 258) (by simp;omega);rw [Mu l a (by omega)];exact h):aC Tryz.prog 36 [.d (.ro 1 (List.drop (a) (List.take (min (l.length) (a+258)) (ae l))))] [.gw 0 aj] (.tu [.ag [.z ((bk ((l.drop a).take 258)).1.kind),.z ((bk ((l.drop a).take 258)).1.node),.z ((bk ((l.drop a).take 258)).1.peer),.z ((bk ((l.drop a).take 258)).1.n),.z ((bk ((l.drop a).take 258)).1.bit),.u ((bk ((l.drop a).take 258)).1.inc),.sl 1 ((ae (bk ((l.drop a).take 258)).1.body).length)],.n ((bk ((l.drop a).take 258)).2)]) [.gw 0 aj,.rw 5 1 (ae (bk ((l.drop a).take 258)).1.body)]) (U (eY ((ae (bk ((l.drop a).take 258)).1.body).length)) (U ((by first | rfl | (simp [ae,ah,ints,dm,dn,iX];done) | (simp [ae,ah,ints,dm,dn,iX];omega)):(i)=(eD S:List (List DV)).length) (U ((by first | rfl | (simp [ae,ah,ints,dm,dn,iX];done) | (simp [ae,ah,ints,dm,dn,iX];omega)):(1)=([[.z ((bk ((l.drop a).take 258)).1.kind),.z ((bk ((l.drop a).take 258)).1.node),.z ((bk ((l.drop a).take 258)).1.peer),.z ((bk ((l.drop a).take 258)).1.n),.z ((bk ((l.drop a).take 258)).1.bit),.u ((bk ((l.drop a).take 258)).1.inc),.em 5 1 (ae (bk ((l.drop a).take 258)).1.body)]]:List (List DV)).length) (U ((by first | omega | (simp [ae,ah,ints,dm,dn,iX];done) | (simp [ae,ah,ints,dm,dn,iX];omega)):(2*((i)+(1))+192)*72≤281474976710656) (U ((by first | omega | (simp [ae,ah,ints,dm,dn,iX];done) | (simp [ae,ah,ints,dm,dn,iX];omega)):(i)+(1)<4611686018427387904) (U ((by simp [aA,AV.one,aW,ae,ah,ints,steps,strs]):aA ([[.z ((bk ((l.drop a).take 258)).1.kind),.z ((bk ((l.drop a).take 258)).1.node),.z ((bk ((l.drop a).take 258)).1.peer),.z ((bk ((l.drop a).take 258)).1.n),.z ((bk ((l.drop a).take 258)).1.bit),.u ((bk ((l.drop a).take 258)).1.inc),.em 5 1 (ae (bk ((l.drop a).take 258)).1.body)]])) (U ((wi (by omega)):IntKind.i64.wrap ((((a:Nat):Int):Int)+(((bk ((l.drop a).take 258)).2:Nat):Int))=((a+(bk ((l.drop a).take 258)).2:Nat):Int)) trivial))))))))))))))))) fun ac wd r=>bH (by omega) ac wd ⟨(a+(bk ((l.drop a).take 258)).2),(S++[(bk ((l.drop a).take 258)).1]),⟨by omega,by omega,by simp;omega,by rw [← aq.2.2.2,NS,List.drop_drop];simp⟩,r.cast rfl (by simp [eD,aG.xF])⟩
  | true=>
   have bO:¬ _=_:=bne_iff_ne.1 h1
   exact absurd (if_neg (by rw [decide_eq_true_eq];unfold gE at hG;omega)) bO
 | true=>
  have bo:=of_decide_eq_true h0
  exact absurd bo (by omega)
end Go.Proofs.YtcnpikbbmbombaaGreatDoor
namespace Go.Proofs.YtcnpikbbmbombaaGreatDoor
open Go.RowKit
theorem DU (l:List (List UInt8)):cN (strs l)=strs l:=by rw [jC];unfold strs;rw [List.map_map];apply List.map_congr_left;intro b _;rfl
def bJ (c:UInt8):List UInt8→List UInt8
 | []=>[]
 | x::r=>if x=c then [] else x::bJ c r
def ff (c:UInt8) (s:List UInt8):List UInt8:=s.drop ((bJ c s).length+1)
def aR (c:UInt8):List UInt8→List (List UInt8)
 | []=>[[]]
 | x::r=>if x=c then []::aR c r else (match aR c r with | w::ws=>(x::w)::ws | []=>[[x]])
theorem tA {c:UInt8}:∀ {s:List UInt8},0<s.count c→aR c s=bJ c s::aR c (ff c s)
 | [],h=>by simp at h
 | x::r,h=>by
  by_cases hx:x=c
  ·subst hx;simp [aR,bJ,ff]
  ·have h2:0<r.count c:=by rw [List.count_cons_of_ne hx] at h;exact h
   have ih:=tA h2
   simp only [aR,bJ,if_neg hx,ff,List.length_cons,List.drop_succ_cons]
   rw [ih];rfl
theorem tq {c:UInt8}:∀ {s:List UInt8},s.count c=0→aR c s=[s]
 | [],_=>rfl
 | x::r,h=>by
  by_cases hx:x=c
  ·subst hx;simp at h
  ·have h2:r.count c=0:=by rw [List.count_cons_of_ne hx] at h;exact h
   simp only [aR,if_neg hx];rw [tq h2]
theorem uO {c:UInt8}:∀ {s:List UInt8},0<s.count c→Go.Lib.indexByte s c=(((bJ c s).length:Nat):Int)
 | [],h=>by simp at h
 | x::r,h=>by
  by_cases hx:x=c
  ·subst hx;simp [Go.Lib.indexByte,bJ]
  ·have h2:0<r.count c:=by rw [List.count_cons_of_ne hx] at h;exact h
   have ih:=uO h2
   have hb:(x==c)=false:=by simpa using hx
   unfold Go.Lib.indexByte
   rw [hb,ih]
   simp only [bJ,if_neg hx,List.length_cons,Bool.false_eq_true,if_false]
   rw [if_neg (by first | (simp;done) | (simp;omega))];simp
theorem Ab {c:UInt8}:∀ {s:List UInt8},s.count c=0→Go.Lib.indexByte s c = -1
 | [],_=>rfl
 | x::r,h=>by
  by_cases hx:x=c
  ·subst hx;simp at h
  ·have h2:r.count c=0:=by rw [List.count_cons_of_ne hx] at h;exact h
   have hb:(x==c)=false:=by simpa using hx
   unfold Go.Lib.indexByte
   rw [hb,Ab h2];rfl
theorem jd {c:UInt8}:∀ {s:List UInt8},0<s.count c→(bJ c s).length<s.length
 | [],h=>by simp at h
 | x::r,h=>by
  by_cases hx:x=c
  ·subst hx;simp [bJ]
  ·have h2:0<r.count c:=by rw [List.count_cons_of_ne hx] at h;exact h
   simp only [bJ,if_neg hx,List.length_cons];have:=jd h2;omega
theorem pz {c:UInt8}:∀ (s:List UInt8),s.take (bJ c s).length=bJ c s
 | []=>rfl
 | x::r=>by
  by_cases hx:x=c
  ·subst hx;simp [bJ]
  ·simp only [bJ,if_neg hx,List.length_cons,List.take_succ_cons];rw [pz r]
theorem tB {c:UInt8}:∀ {s:List UInt8},0<s.count c→s.count c=(ff c s).count c+1
 | [],h=>by simp at h
 | x::r,h=>by
  by_cases hx:x=c
  ·subst hx;simp [bJ,ff]
  ·have h2:0<r.count c:=by rw [List.count_cons_of_ne hx] at h;exact h
   have:=tB h2
   simp only [ff,bJ,if_neg hx,List.length_cons,List.drop_succ_cons] at *
   rw [List.count_cons_of_ne hx];exact this
theorem gq (c:UInt8) (s:List UInt8):(aR c s).length=s.count c+1:=by
 have key:∀ (n:Nat) (s:List UInt8),s.count c=n→(aR c s).length=n+1:=by
  intro n
  induction n with
  | zero=>intro s h;rw [tq h];rfl
  | succ n ih=>intro s h;have h2:=tB (c:=c) (s:=s) (by omega);rw [tA (by omega),List.length_cons,ih _ (by omega)]
 exact key _ s rfl
def dW (c:UInt8) (l:List UInt8) (i:Nat):List (List UInt8):=(aR c l).take i++List.replicate (l.count c+1-i) []
theorem Ac (l:List (List UInt8)) (i:Nat) (x:List UInt8):(strs l).set i [.v (.string ⟨x.toArray⟩)]=strs (l.set i x):=by unfold strs;rw [List.map_set]
theorem za {c:UInt8} {l w:List UInt8} {i:Nat} (h:(aR c l)[i]?=some w):(dW c l i).set i w=dW c l (i+1):=by
 obtain ⟨aM,rfl⟩:=List.getElem?_eq_some_iff.1 h
 have hl:=gq c l
 unfold dW
 have h1:((aR c l).take i).length=i:=by simp;omega
 rw [List.set_append_right _ _ (by omega),h1,Nat.sub_self,List.take_add_one,List.getElem?_eq_getElem aM,show l.count c+1-i=(l.count c+1-(i+1))+1 from by omega,List.replicate_succ,List.set_cons_zero,List.append_assoc]
 rfl
theorem zb {c:UInt8} {l:List UInt8} {i:Nat} (h:i≤l.count c):(dW c l i)[i]?=some []:=by
 have hl:=gq c l
 have h1:((aR c l).take i).length=i:=by simp;omega
 unfold dW
 rw [List.getElem?_append_right (by omega),h1,Nat.sub_self,List.getElem?_replicate,if_pos (by omega)]
theorem Fh {c:UInt8} {l w:List UInt8} {i:Nat} (h:(aR c l)[i]?=some w) (hi:i=l.count c):strs (aR c l)=List.take (i+1) ((strs (dW c l i)).set i [.v (.string ⟨w.toArray⟩)]):=by
 have hl:=gq c l
 rw [Ac,za h]
 have e:(aR c l).take (i+1)=aR c l:=List.take_of_length_le (by omega)
 unfold dW strs
 rw [show l.count c+1-(i+1)=0 from by omega,e,List.replicate_zero,List.append_nil,List.take_of_length_le (by simp;omega)]
theorem Ad {α:Type} {l r:List α} {x:α} {i:Nat} (h:l.drop i=x::r):l[i]?=some x∧l.drop (i+1)=r:=by
 constructor
 ·have:=congrArg (fun q=>q[0]?) h;simpa using this
 ·have:=congrArg (fun q=>q.drop 1) h;simpa [List.drop_drop] using this
set_option maxRecDepth 100000 in
theorem DW (c:UInt8) (l:List UInt8) (hl:l.length≤1048576) (cx:l.count c≤l.length):al Tryz.prog 101 [.d (.v (.string ⟨l.toArray⟩)),.d (.v (.string ⟨([c]).toArray⟩)),.z 0,.z (-1)] (DV.em 9 1 (strs (aR c l))):=by
 refine al.intro (by kernel_rfl) rfl rfl 66 rfl rfl fun w0 K ac hK r=>?_
 refine aS (todo':=hd Tryz.f101 0) (E':=[(0,.d (.v (.string ⟨l.toArray⟩))),(1,.d (.v (.string ⟨([c]).toArray⟩))),(2,.z 0),(3,.n (l.count c)),(9,.sl 0 (l.count c+1)),(10,.z 0)]) (M':=[.rw 9 1 (List.replicate (l.count c+1) [.v (.string .empty)])]) tk mo hK [(3,[(1,.b false)]),(6,[(2,.ax (.n ((l.count c)))),(3,.z ((((l.count c)+1:Nat):Int)))]),(7,[(3,.z (((l.length+1:Nat):Int))),(4,.z (((l.count c+1:Nat):Int)))]),(8,[(1,.n (l.count c+1))]),(9,[(1,.z (((l.count c:Nat):Int)))])] 2000 [0] [0,1,2,3,9,10] r (by kernel_rfl) (U ((by first | decide | simp):(([c]:List UInt8)==[])=false) (U (H4 l c) (U ((wi (by omega)):IntKind.i64.wrap (((((l.count c):Nat):Int):Int)+1)=(((l.count c)+1:Nat):Int)) (U ((wi (by omega)):IntKind.i64.wrap ((((l.length:Nat):Int):Int)+1)=((l.length+1:Nat):Int)) (U ((by omega):(min ((((l.count c)+1:Nat):Int)) (((l.length+1:Nat):Int)):Int)=((l.count c+1:Nat):Int)) (U (aB ((l.count c+1:Nat):Int)) (U (aB ((l.count c+1:Nat):Int)) (U ((by first | omega | (have:=jd jZ;omega)):16*(l.count c+1)≤281474976710656) (U ((by first | omega | (have:=jd jZ;omega)):(l.count c+1)<4611686018427387904) (U ((wi (by omega)):IntKind.i64.wrap ((((l.count c+1:Nat):Int):Int)-1)=((l.count c:Nat):Int)) trivial)))))))))) fun ac wd r=>?_
 refine aD.rounds (Φ:=fun (i:Nat) ac wd=>∃ s:List UInt8,(i≤l.count c∧(aR c l).drop i=aR c s∧l.count c=i+s.count c∧s.length≤1048576)∧cK [] w0 K 66 [(0,.d (.v (.string ⟨s.toArray⟩))),(1,.d (.v (.string ⟨([c]).toArray⟩))),(2,.z 0),(3,.n ((l.count c))),(9,.sl 0 ((l.count c+1))),(10,.n i)] [.rw 9 1 (strs (dW c l i))] ac wd) ((l.count c)) ?_ (Nat.zero_le _) ⟨l,⟨Nat.zero_le _,rfl,by omega,hl⟩,(r).cast rfl (by simp [strs,dW];rfl)⟩
 clear r
 rintro i dv bH ac wd ⟨s,aq,r⟩
 cases h0:(decide ((((i:Nat):Int):Int)<(((l.count c):Nat):Int))) with
 | false=>
  have bo:=of_decide_eq_false h0
  rw [show (DV.em 9 1 (strs (aR c l)):DV)=.em 9 1 ((List.set (strs (dW c l i)) (i) [.v (.string ⟨s.toArray⟩)]).take (i+1)) from (by rw [Fh (Ad (aq.2.1.trans (tq (by omega)))).1 (by omega)])]
  exact aH tk mo hK rfl [(11,[(2,.b false)]),(17,[(3,.n (i)),(4,.ix 0 [.v (.string ⟨([]).toArray⟩)])]),(18,[(2,.z (((i+1:Nat):Int))),(3,.n (i+1))])] 2000 r (by kernel_rfl) (U h0 (U (aB ((i:Nat):Int)) (U ((by first | omega | (have:=jd jZ;omega)):(i)<((l.count c+1))) (U ((by first | rfl | (simp [strs,dW,gq];done) | (simp [strs,dW,gq];omega)):((l.count c+1))≤(strs (dW c l i):List (List DV)).length) (U (rM (zb (by omega)):(strs (dW c l i))[i]?=some [.v (.string ⟨([]).toArray⟩)]) (U ((wi (by omega)):IntKind.i64.wrap ((((i:Nat):Int):Int)+1)=((i+1:Nat):Int)) (U (aB ((i+1:Nat):Int)) (U ((by first | omega | (have:=jd jZ;omega)):(i+1)≤((l.count c+1))) (U ((by first | rfl | (simp [strs,dW,gq];done) | (simp [strs,dW,gq];omega)):((l.count c+1))=(List.set (strs (dW c l i)) (i) [.v (.string ⟨s.toArray⟩)]:List (List DV)).length) (U ((by first | rfl | (simp [strs,dW,gq];done) | (simp [strs,dW,gq];omega)):(i+1)=((List.set (strs (dW c l i)) (i) [.v (.string ⟨s.toArray⟩)]).take (i+1):List (List DV)).length) trivial))))))))))
 | true=>
  have bo:=of_decide_eq_true h0
  have jZ:0<s.count c:=by omega
  have aM:=jd jZ
  have fT:=tB jZ
  have C7:=Ad (aq.2.1.trans (tA jZ))
  have u0:=((by have h:=H3 s c;rw [uO jZ] at h;exact h):al Tryz.prog 112 [.d (.v (.string ⟨s.toArray⟩)),.d (.v (.string ⟨([c]).toArray⟩))] (.n ((bJ c s).length)))
  cases h1:(decide (((((bJ c s).length:Nat):Int):Int)<0)) with
  | false=>
   have bO:=of_decide_eq_false h1
   exact aS (todo':=hd Tryz.f101 0) (E':=[(0,.d (.v (.string ⟨(List.drop ((bJ c s).length+1) (s)).toArray⟩))),(1,.d (.v (.string ⟨([c]).toArray⟩))),(2,.z 0),(3,.n ((l.count c))),(9,.sl 0 ((l.count c+1))),(10,.n (i+1))]) (M':=[.rw 9 1 (List.set (strs (dW c l i)) (i) [.v (.string ⟨(List.take ((bJ c s).length+0) (s)).toArray⟩)])]) tk mo hK [(11,[(2,.b true)]),(12,[(2,.ax (.n ((bJ c s).length)))]),(13,[(1,.b false)]),(14,[(5,.z ((((bJ c s).length+0:Nat):Int))),(6,.n2 ((bJ c s).length+0) (0)),(7,.n (i)),(8,.ix 0 [.v (.string ⟨([]).toArray⟩)])]),(15,[(3,.z (1)),(4,.z ((((bJ c s).length+1:Nat):Int))),(5,.n2 (0) ((bJ c s).length+1))]),(16,[(1,.z (((i+1:Nat):Int)))])] 2000 [0] [0,1,2,3,9,10] r (by kernel_rfl) (U h0 (U u0 (U h1 (U ((wi (by omega)):IntKind.i64.wrap (((((bJ c s).length:Nat):Int):Int)+0)=(((bJ c s).length+0:Nat):Int)) (U (aB (((bJ c s).length+0:Nat):Int)) (U ((by have:=jd jZ;omega):((bJ c s).length+0)≤(s:List UInt8).length) (U (aB ((i:Nat):Int)) (U ((by first | omega | (have:=jd jZ;omega)):(i)<((l.count c+1))) (U ((by first | rfl | (simp [strs,dW,gq];done) | (simp [strs,dW,gq];omega)):((l.count c+1))≤(strs (dW c l i):List (List DV)).length) (U (rM (zb (by omega)):(strs (dW c l i))[i]?=some [.v (.string ⟨([]).toArray⟩)]) (U ((by first | rfl | simp):((([c]:List UInt8).length:Nat):Int)=1) (U ((wi (by omega)):IntKind.i64.wrap (((((bJ c s).length:Nat):Int):Int)+1)=(((bJ c s).length+1:Nat):Int)) (U (aB (((bJ c s).length+1:Nat):Int)) (U ((by have:=jd jZ;omega):((bJ c s).length+1)≤(s:List UInt8).length) (U ((wi (by omega)):IntKind.i64.wrap ((((i:Nat):Int):Int)+1)=((i+1:Nat):Int)) trivial))))))))))))))) fun ac wd r=>bH (by omega) ac wd ⟨(List.drop ((bJ c s).length+1) (s)),⟨by omega,C7.2,by unfold ff at fT;omega,by simp;omega⟩,r.cast rfl (by rw [Nat.add_zero,pz,Ac,za C7.1])⟩
  | true=>
   have bO:=of_decide_eq_true h1
   exact absurd bO (by omega)
theorem Fi (c:UInt8) (l:List UInt8) (hl:l.length≤1048576):al Tryz.prog 101 [.d (.v (.string ⟨l.toArray⟩)),.d (.v (.string ⟨[c].toArray⟩)),.z 0,.z (-1)] (.em 9 1 (strs (aR c l))):=DW c l hl List.count_le_length
set_option maxRecDepth 100000 in
theorem GR (c:UInt8) (l:List UInt8) (hl:l.length≤1048576):al Tryz.prog 80 [.d (.v (.string ⟨l.toArray⟩)),.d (.v (.string ⟨([c]).toArray⟩))] (DV.em 9 1 (strs (aR c l))):=by
 refine al.intro (by kernel_rfl) rfl rfl 8 rfl rfl fun w0 K ac hK r=>?_
 rw [show (DV.em 9 1 (strs (aR c l)):DV)=.em 9 1 (strs (aR c l)) from rfl]
 exact aH tk mo hK rfl [(1,[(2,.ax (.em 9 1 (strs (aR c l))))])] 2000 r (by kernel_rfl) (U (Fi c l hl) (U (eY ((strs (aR c l):List (List DV)).length)) trivial))
theorem rQ (c:UInt8) (l:List UInt8) (hl:l.length≤1048576):al Tryz.prog 80 [.d (.v (.string ⟨l.toArray⟩)),.d (.v (.string ⟨[c].toArray⟩))] (.ro 1 (strs (aR c l))):=by
 have h:=(GR c l hl).stays
 simp only [dK,DU] at h
 exact h
theorem Ae (l:List UInt8) (c:UInt8):al Tryz.prog 109 [.d (.v (.string ⟨l.toArray⟩)),.d (.v (.string ⟨[c].toArray⟩))] (.z (Go.Lib.indexByte l c)):=
 al.pE (by kernel_rfl) (zs:=[.string ⟨l.toArray⟩,.string ⟨[c].toArray⟩]) fun w=>(Tryz.stringslite_Index_one ⟨l.toArray⟩ c w).mono fun e w' ⟨he,hw⟩=>⟨he,hw▸Below.refl _ _⟩
set_option maxRecDepth 100000 in
theorem GS (c:UInt8) (l:List UInt8) (hl:l.length≤1048576) (hc:0<l.count c):al Tryz.prog 100 [.d (.v (.string ⟨l.toArray⟩)),.d (.v (.string ⟨([c]).toArray⟩))] (.tu [.v (.string ⟨(bJ c l).toArray⟩),.v (.string ⟨(ff c l).toArray⟩),.v (.bool true)]):=by
 refine al.intro (by kernel_rfl) rfl rfl 23 rfl rfl fun w0 K ac hK r=>?_
 have u0:=((by have h:=Ae l c;rw [uO hc] at h;exact h):al Tryz.prog 109 [.d (.v (.string ⟨l.toArray⟩)),.d (.v (.string ⟨([c]).toArray⟩))] (.n ((bJ c l).length)))
 cases h0:(decide ((0:Int)≤(((bJ c l).length:Nat):Int))) with
 | false=>
  have bo:=of_decide_eq_false h0
  exact absurd bo (by omega)
 | true=>
  have bo:=of_decide_eq_true h0
  rw [show (.tu [.v (.string ⟨(bJ c l).toArray⟩),.v (.string ⟨(ff c l).toArray⟩),.v (.bool true)]:DV)=.tu [.v (.string ⟨(List.take ((bJ c l).length) (l)).toArray⟩),.v (.string ⟨(List.drop ((bJ c l).length+1) (l)).toArray⟩),.v (.bool true)] from (by first | rfl | (rw [pz];rfl))]
  exact aH tk mo hK rfl [(1,[(2,.ax (.n ((bJ c l).length)))]),(2,[(1,.b true)]),(3,[(2,.n2 ((bJ c l).length) (0)),(6,.z (1)),(7,.z ((((bJ c l).length+1:Nat):Int))),(8,.n2 (0) ((bJ c l).length+1))])] 2000 r (by kernel_rfl) (U u0 (U h0 (U (aB (((bJ c l).length:Nat):Int)) (U ((by have:=jd hc;omega):((bJ c l).length)≤(l:List UInt8).length) (U ((by first | rfl | simp):((([c]:List UInt8).length:Nat):Int)=1) (U ((wi (by have:=jd hc;omega)):IntKind.i64.wrap (((((bJ c l).length:Nat):Int):Int)+1)=(((bJ c l).length+1:Nat):Int)) (U (aB (((bJ c l).length+1:Nat):Int)) (U ((by have:=jd hc;omega):((bJ c l).length+1)≤(l:List UInt8).length) trivial))))))))
set_option maxRecDepth 100000 in
theorem pM (c:UInt8) (l:List UInt8) (hl:l.length≤1048576) (hc:0<l.count c):al Tryz.prog 79 [.d (.v (.string ⟨l.toArray⟩)),.d (.v (.string ⟨([c]).toArray⟩))] (.tu [.v (.string ⟨(bJ c l).toArray⟩),.v (.string ⟨(ff c l).toArray⟩),.v (.bool true)]):=by
 refine al.intro (by kernel_rfl) rfl rfl 13 rfl rfl fun w0 K ac hK r=>?_
 rw [show (.tu [.v (.string ⟨(bJ c l).toArray⟩),.v (.string ⟨(ff c l).toArray⟩),.v (.bool true)]:DV)=.tu [.v (.string ⟨(bJ c l).toArray⟩),.v (.string ⟨(ff c l).toArray⟩),.v (.bool true)] from rfl]
 exact aH tk mo hK rfl [(1,[(2,.ax (.tu [.v (.string ⟨(bJ c l).toArray⟩),.v (.string ⟨(ff c l).toArray⟩),.v (.bool true)]))])] 2000 r (by kernel_rfl) (U (GS c l hl hc) trivial)
set_option maxRecDepth 100000 in
theorem Iu (c:UInt8) (l:List UInt8) (hl:l.length≤1048576) (hc:l.count c=0):al Tryz.prog 100 [.d (.v (.string ⟨l.toArray⟩)),.d (.v (.string ⟨([c]).toArray⟩))] (.tu [.v (.string ⟨(l).toArray⟩),.v (.string ⟨([]).toArray⟩),.v (.bool false)]):=by
 refine al.intro (by kernel_rfl) rfl rfl 23 rfl rfl fun w0 K ac hK r=>?_
 rw [show (.tu [.v (.string ⟨(l).toArray⟩),.v (.string ⟨([]).toArray⟩),.v (.bool false)]:DV)=.tu [.v (.string ⟨l.toArray⟩),.v (.string .empty),.v (.bool false)] from (by first | rfl | (rw [pz];rfl))]
 exact aH tk mo hK rfl [(1,[(2,.ax (.z (-1)))])] 2000 r (by kernel_rfl) (U ((by have h:=Ae l c;rw [Ab hc] at h;exact h):al Tryz.prog 109 [.d (.v (.string ⟨l.toArray⟩)),.d (.v (.string ⟨([c]).toArray⟩))] (.z (-1))) trivial)
set_option maxRecDepth 100000 in
theorem JJ (c:UInt8) (l:List UInt8) (hl:l.length≤1048576) (hc:l.count c=0):al Tryz.prog 79 [.d (.v (.string ⟨l.toArray⟩)),.d (.v (.string ⟨([c]).toArray⟩))] (.tu [.v (.string ⟨(l).toArray⟩),.v (.string ⟨([]).toArray⟩),.v (.bool false)]):=by
 refine al.intro (by kernel_rfl) rfl rfl 13 rfl rfl fun w0 K ac hK r=>?_
 rw [show (.tu [.v (.string ⟨(l).toArray⟩),.v (.string ⟨([]).toArray⟩),.v (.bool false)]:DV)=.tu [.v (.string ⟨l.toArray⟩),.v (.string ⟨([]).toArray⟩),.v (.bool false)] from rfl]
 exact aH tk mo hK rfl [(1,[(2,.ax (.tu [.v (.string ⟨l.toArray⟩),.v (.string ⟨([]).toArray⟩),.v (.bool false)]))])] 2000 r (by kernel_rfl) (U (Iu c l hl hc) trivial)
end Go.Proofs.YtcnpikbbmbombaaGreatDoor
namespace Go.Proofs.YtcnpikbbmbombaaGreatDoor
open Go.RowKit
theorem Bk {x:Nat} (h:x<18446744073709551616):IntKind.u64.wrap (((x:Nat):Int).tdiv 10)=((x / 10:Nat):Int):=by
 have e:((x:Nat):Int).tdiv 10=((x / 10:Nat):Int):=(Int.ofNat_tdiv x 10).symm
 rw [e];simp [IntKind.wrap,IntKind.signed,IntKind.bits];omega
def ij (most:Nat):List UInt8→Nat→Option Nat
 | [],n=>some n
 | b::r,n=>if b.toNat<48∨57<b.toNat then none else if (most-(b.toNat-48)) / 10<n then none else ij most r (10*n+(b.toNat-48))
def aO (w:List UInt8) (most:Nat):Nat×Bool:=if w=[]∨(w.head?=some 48∧w≠[48]) then (0,false) else (match ij most w 0 with | some n=>(n,true) | none=>(0,false))
theorem kI {w:List UInt8} {most:Nat} (h:w=[]∨(w.head?=some 48∧w≠[48])):aO w most=(0,false):=by unfold aO;rw [if_pos h]
theorem kF {w:List UInt8} {most n:Nat} (h:¬ (w=[]∨(w.head?=some 48∧w≠[48]))) (e:ij most w 0=some n):aO w most=(n,true):=by unfold aO;rw [if_neg h,e]
theorem fw {w:List UInt8} {most:Nat} (h:¬ (w=[]∨(w.head?=some 48∧w≠[48]))) (e:ij most w 0=none):aO w most=(0,false):=by unfold aO;rw [if_neg h,e]
theorem k7 {w:List UInt8} (h:(w==([48]:List UInt8))=false):w≠[48]:=by intro e;subst e;simp at h
theorem Lq {w:List UInt8} (hw:w≠[]) (h:(w==([48]:List UInt8))=true):¬ (w=[]∨(w.head?=some 48∧w≠[48])):=by
 rintro (h1 | ⟨_,h1⟩)
 ·exact hw h1
 ·exact h1 (by simpa using h)
theorem Lr {w:List UInt8} {e:UInt8} (hw:w≠[]) (g:w[0]?=some e) (h:¬ ((e.toNat:Nat):Int)=48):¬ (w=[]∨(w.head?=some 48∧w≠[48])):=by
 rintro (h1 | ⟨h1,_⟩)
 ·exact hw h1
 ·rw [List.head?_eq_getElem?,g] at h1;cases h1;exact h rfl
theorem fa {most n i:Nat} {w:List UInt8} {b:UInt8} (h:w[i]?=some b):ij most (w.drop i) n=if b.toNat<48∨57<b.toNat then none else if (most-(b.toNat-48)) / 10<n then none else ij most (w.drop (i+1)) (10*n+(b.toNat-48)):=by
 obtain ⟨aM,rfl⟩:=List.getElem?_eq_some_iff.1 h
 rw [List.drop_eq_getElem_cons aM];rfl
theorem AJ {most:Nat}:∀ {w:List UInt8} {n k:Nat},n≤most→9≤most→ij most w n=some k→k≤most
 | [],n,k,h,_,e=>by simp [ij] at e;omega
 | b::r,n,k,h,h9,e=>by
  unfold ij at e
  split at e
  ·cases e
  ·split at e
   ·cases e
   ·exact AJ (by omega) h9 e
theorem ly {p:Nat×Bool} {a:Nat} {b:Bool} (h:p=(a,b)):(DV.tu [.u p.1,.v (.bool p.2)]:DV)=.tu [.u a,.v (.bool b)]:=by rw [h]
theorem dL {p:Nat×Bool} {b:Bool} (h:p=(0,b)):(DV.tu [.u p.1,.v (.bool p.2)]:DV)=.tu [.v (.int .u64 0),.v (.bool b)]:=by rw [h];rfl
theorem kJ {w:List UInt8} {e:UInt8} (h:w[0]?=some e):w.head?=some e:=by rw [List.head?_eq_getElem?];exact h
theorem lz {e:UInt8} (h:((e.toNat:Nat):Int)=48):e=48:=by apply UInt8.toNat_inj.1;simp;omega
set_option maxRecDepth 100000 in
theorem Iv (w:List UInt8) (most:Nat) (e0:UInt8) (g0:w[0]?=some e0) (hw:w≠[]) (hl:w.length≤9223372036854775807) (h9:9≤most) (hm:most<18446744073709551616):al Tryz.prog 82 [.d (.v (.string ⟨w.toArray⟩)),.u most] (.tu [.u (aO w most).1,.v (.bool (aO w most).2)]):=by
 refine al.intro (by kernel_rfl) rfl rfl 52 rfl rfl fun w0 K ac hK r=>?_
 cases h0:(w==([]:List UInt8)) with
 | false=>
  have u0:=(⟨_,g0,rfl⟩:∃ u:UInt8,(w:List UInt8)[0]?=some u∧(.v (.int .u8 (((e0.toNat:Nat):Int))):DV)=.v (.int .u8 (u.toNat:Int)))
  cases h1:((((e0.toNat:Nat):Int):Int)==48) with
  | false=>
   have bO:=ne_of_beq_false h1
   have hR:=Lr hw g0 (by assumption)
   refine aS (todo':=hd Tryz.f82 0) (E':=[(0,.d (.v (.string ⟨w.toArray⟩))),(1,.u most),(6,.u 0),(21,.n w.length),(22,.n 0)]) (M':=[]) tk mo hK [(1,[(1,.b false),(4,.ix (0) [.v (.int .u8 (((e0.toNat:Nat):Int)))]),(5,.b false)])] 2000 [] [0,1,6,21,22] r (by kernel_rfl) (U h0 (U (rfl:(0:Int)=((0:Nat):Int)) (U u0 (U h1 trivial)))) fun ac wd r=>?_
   refine aD.rounds (Φ:=fun (i:Nat) ac wd=>∃ n:Nat,(ij most (w.drop i) n=ij most w 0∧n≤most)∧cK [] w0 K 52 [(0,.d (.v (.string ⟨w.toArray⟩))),(1,.u most),(6,.u n),(21,.n w.length),(22,.n i)] [] ac wd) (w.length) ?_ (Nat.zero_le _) ⟨0,⟨rfl,Nat.zero_le _⟩,r⟩
   clear r
   rintro i dv bH ac wd ⟨n,aq,r⟩
   have CI:=aq.2
   cases h2:(decide ((((i:Nat):Int):Int)<((w.length:Nat):Int))) with
   | false=>
    have cQ:=of_decide_eq_false h2
    rw [show (.tu [.u (aO w most).1,.v (.bool (aO w most).2)]:DV)=.tu [.u n,.v (.bool true)] from (by first | exact dL (kI (Or.inr ⟨(kJ g0).trans (congrArg some (lz (by assumption))),k7 (by assumption)⟩)) | exact dL (fw hR (aq.1.symm.trans ((fa ej).trans (if_pos (by omega))))) | exact dL (fw hR (aq.1.symm.trans ((fa ej).trans ((if_neg (by omega)).trans (if_pos (by omega)))))) | exact ly (kF hR (aq.1.symm.trans (by rw [List.drop_of_length_le (by omega)];rfl))))]
    exact aH tk mo hK rfl [(5,[(0,.b false)])] 2000 r (by kernel_rfl) (U h2 trivial)
   | true=>
    have cQ:=of_decide_eq_true h2
    obtain ⟨bA,ej⟩:∃ x_,w[i]?=some x_:=⟨_,List.getElem?_eq_getElem (by omega)⟩
    have mr:=bA.toNat_lt
    have u1:=(⟨_,ej,rfl⟩:∃ u:UInt8,(w:List UInt8)[i]?=some u∧(.v (.int .u8 (((bA.toNat:Nat):Int))):DV)=.v (.int .u8 (u.toNat:Int)))
    cases h3:(decide ((((bA.toNat:Nat):Int):Int)<48)) with
    | false=>
     have dB:=of_decide_eq_false h3
     cases h4:(decide ((57:Int)<((bA.toNat:Nat):Int))) with
     | false=>
      have eM:=of_decide_eq_false h4
      have u2:=((by rw [w8 (by omega)];omega):IntKind.u8.wrap ((((bA.toNat:Nat):Int):Int)-48)=((bA.toNat-48:Nat):Int))
      have u3:=((wu (by omega)):IntKind.u64.wrap (((bA.toNat-48:Nat):Int))=((bA.toNat-48:Nat):Int))
      have u4:=((wu (by omega)):IntKind.u64.wrap ((((most:Nat):Int):Int)-((bA.toNat-48:Nat):Int))=((most-(bA.toNat-48):Nat):Int))
      have u5:=((Bk (by omega)):IntKind.u64.wrap ((((most-(bA.toNat-48):Nat):Int):Int).tdiv 10)=(((most-(bA.toNat-48)) / 10:Nat):Int))
      cases h5:(decide (((((most-(bA.toNat-48)) / 10:Nat):Int):Int)<((n:Nat):Int))) with
      | false=>
       have eO:=of_decide_eq_false h5
       exact aS (todo':=hd Tryz.f82 0) tk mo hK [(5,[(0,.b true)]),(7,[(2,.ix (i) [.v (.int .u8 (((bA.toNat:Nat):Int)))]),(3,.b false),(7,.ix (i) [.v (.int .u8 (((bA.toNat:Nat):Int)))]),(8,.b false)]),(9,[(2,.ix (i) [.v (.int .u8 (((bA.toNat:Nat):Int)))]),(3,.z (((bA.toNat-48:Nat):Int))),(4,.z (((bA.toNat-48:Nat):Int)))]),(10,[(3,.z (((most-(bA.toNat-48):Nat):Int))),(4,.z ((((most-(bA.toNat-48)) / 10:Nat):Int))),(5,.b false)]),(12,[(1,.z (((10*n:Nat):Int))),(3,.z (((10*n+(bA.toNat-48):Nat):Int)))]),(13,[(0,.z (((i+1:Nat):Int)))])] 2000 [] [0,1,6,21,22] r (by kernel_rfl) (U h2 (U (aB ((i:Nat):Int)) (U u1 (U h3 (U (aB ((i:Nat):Int)) (U u1 (U h4 (U (aB ((i:Nat):Int)) (U u1 (U u2 (U u3 (U u4 (U u5 (U ((by decide):(10:Int)≠0) (U h5 (U ((wu (by omega)):IntKind.u64.wrap ((10:Int)*((n:Nat):Int))=((10*n:Nat):Int)) (U ((wu (by omega)):IntKind.u64.wrap ((((10*n:Nat):Int):Int)+((bA.toNat-48:Nat):Int))=((10*n+(bA.toNat-48):Nat):Int)) (U ((wi (by omega)):IntKind.i64.wrap ((((i:Nat):Int):Int)+1)=((i+1:Nat):Int)) trivial)))))))))))))))))) fun ac wd r=>bH (by omega) ac wd ⟨(10*n+(bA.toNat-48)),⟨by rw [← aq.1,fa ej,if_neg (by omega),if_neg (by omega)],by omega⟩,r⟩
      | true=>
       have eO:=of_decide_eq_true h5
       rw [show (.tu [.u (aO w most).1,.v (.bool (aO w most).2)]:DV)=.tu [.v (.int .u64 0),.v (.bool false)] from (by first | exact dL (kI (Or.inr ⟨(kJ g0).trans (congrArg some (lz (by assumption))),k7 (by assumption)⟩)) | exact dL (fw hR (aq.1.symm.trans ((fa ej).trans (if_pos (by omega))))) | exact dL (fw hR (aq.1.symm.trans ((fa ej).trans ((if_neg (by omega)).trans (if_pos (by omega)))))) | exact ly (kF hR (aq.1.symm.trans (by rw [List.drop_of_length_le (by omega)];rfl))))]
       exact aH tk mo hK rfl [(5,[(0,.b true)]),(7,[(2,.ix (i) [.v (.int .u8 (((bA.toNat:Nat):Int)))]),(3,.b false),(7,.ix (i) [.v (.int .u8 (((bA.toNat:Nat):Int)))]),(8,.b false)]),(9,[(2,.ix (i) [.v (.int .u8 (((bA.toNat:Nat):Int)))]),(3,.z (((bA.toNat-48:Nat):Int))),(4,.z (((bA.toNat-48:Nat):Int)))]),(10,[(3,.z (((most-(bA.toNat-48):Nat):Int))),(4,.z ((((most-(bA.toNat-48)) / 10:Nat):Int))),(5,.b true)])] 2000 r (by kernel_rfl) (U h2 (U (aB ((i:Nat):Int)) (U u1 (U h3 (U (aB ((i:Nat):Int)) (U u1 (U h4 (U (aB ((i:Nat):Int)) (U u1 (U u2 (U u3 (U u4 (U u5 (U ((by decide):(10:Int)≠0) (U h5 trivial)))))))))))))))
     | true=>
      have eM:=of_decide_eq_true h4
      rw [show (.tu [.u (aO w most).1,.v (.bool (aO w most).2)]:DV)=.tu [.v (.int .u64 0),.v (.bool false)] from (by first | exact dL (kI (Or.inr ⟨(kJ g0).trans (congrArg some (lz (by assumption))),k7 (by assumption)⟩)) | exact dL (fw hR (aq.1.symm.trans ((fa ej).trans (if_pos (by omega))))) | exact dL (fw hR (aq.1.symm.trans ((fa ej).trans ((if_neg (by omega)).trans (if_pos (by omega)))))) | exact ly (kF hR (aq.1.symm.trans (by rw [List.drop_of_length_le (by omega)];rfl))))]
      exact aH tk mo hK rfl [(5,[(0,.b true)]),(7,[(2,.ix (i) [.v (.int .u8 (((bA.toNat:Nat):Int)))]),(3,.b false),(7,.ix (i) [.v (.int .u8 (((bA.toNat:Nat):Int)))]),(8,.b true)])] 2000 r (by kernel_rfl) (U h2 (U (aB ((i:Nat):Int)) (U u1 (U h3 (U (aB ((i:Nat):Int)) (U u1 (U h4 trivial)))))))
    | true=>
     have dB:=of_decide_eq_true h3
     rw [show (.tu [.u (aO w most).1,.v (.bool (aO w most).2)]:DV)=.tu [.v (.int .u64 0),.v (.bool false)] from (by first | exact dL (kI (Or.inr ⟨(kJ g0).trans (congrArg some (lz (by assumption))),k7 (by assumption)⟩)) | exact dL (fw hR (aq.1.symm.trans ((fa ej).trans (if_pos (by omega))))) | exact dL (fw hR (aq.1.symm.trans ((fa ej).trans ((if_neg (by omega)).trans (if_pos (by omega)))))) | exact ly (kF hR (aq.1.symm.trans (by rw [List.drop_of_length_le (by omega)];rfl))))]
     exact aH tk mo hK rfl [(5,[(0,.b true)]),(7,[(2,.ix (i) [.v (.int .u8 (((bA.toNat:Nat):Int)))]),(3,.b true)])] 2000 r (by kernel_rfl) (U h2 (U (aB ((i:Nat):Int)) (U u1 (U h3 trivial))))
  | true=>
   have bO:=eq_of_beq h1
   cases h6:(w==([48]:List UInt8)) with
   | false=>
    rw [show (.tu [.u (aO w most).1,.v (.bool (aO w most).2)]:DV)=.tu [.v (.int .u64 0),.v (.bool false)] from (by first | exact dL (kI (Or.inr ⟨(kJ g0).trans (congrArg some (lz (by assumption))),k7 (by assumption)⟩)) | exact dL (fw hR (aq.1.symm.trans ((fa ej).trans (if_pos (by omega))))) | exact dL (fw hR (aq.1.symm.trans ((fa ej).trans ((if_neg (by omega)).trans (if_pos (by omega)))))) | exact ly (kF hR (aq.1.symm.trans (by rw [List.drop_of_length_le (by omega)];rfl))))]
    exact aH tk mo hK rfl [(1,[(1,.b false),(4,.ix (0) [.v (.int .u8 (((e0.toNat:Nat):Int)))]),(5,.b true),(8,.b true)])] 2000 r (by kernel_rfl) (U h0 (U (rfl:(0:Int)=((0:Nat):Int)) (U u0 (U h1 (U ((by simpa [bne] using h6):(w != ([48]:List UInt8))=true) trivial)))))
   | true=>
    have hR:=Lq hw (by assumption)
    refine aS (todo':=hd Tryz.f82 0) (E':=[(0,.d (.v (.string ⟨w.toArray⟩))),(1,.u most),(6,.u 0),(21,.n w.length),(22,.n 0)]) (M':=[]) tk mo hK [(1,[(1,.b false),(4,.ix (0) [.v (.int .u8 (((e0.toNat:Nat):Int)))]),(5,.b true),(8,.b false)])] 2000 [] [0,1,6,21,22] r (by kernel_rfl) (U h0 (U (rfl:(0:Int)=((0:Nat):Int)) (U u0 (U h1 (U ((by simpa [bne] using h6):(w != ([48]:List UInt8))=false) trivial))))) fun ac wd r=>?_
    refine aD.rounds (Φ:=fun (i:Nat) ac wd=>∃ n:Nat,(ij most (w.drop i) n=ij most w 0∧n≤most)∧cK [] w0 K 52 [(0,.d (.v (.string ⟨w.toArray⟩))),(1,.u most),(6,.u n),(21,.n w.length),(22,.n i)] [] ac wd) (w.length) ?_ (Nat.zero_le _) ⟨0,⟨rfl,Nat.zero_le _⟩,r⟩
    clear r
    rintro i dv bH ac wd ⟨n,aq,r⟩
    have CI:=aq.2
    cases h7:(decide ((((i:Nat):Int):Int)<((w.length:Nat):Int))) with
    | false=>
     have dT:=of_decide_eq_false h7
     rw [show (.tu [.u (aO w most).1,.v (.bool (aO w most).2)]:DV)=.tu [.u n,.v (.bool true)] from (by first | exact dL (kI (Or.inr ⟨(kJ g0).trans (congrArg some (lz (by assumption))),k7 (by assumption)⟩)) | exact dL (fw hR (aq.1.symm.trans ((fa ej).trans (if_pos (by omega))))) | exact dL (fw hR (aq.1.symm.trans ((fa ej).trans ((if_neg (by omega)).trans (if_pos (by omega)))))) | exact ly (kF hR (aq.1.symm.trans (by rw [List.drop_of_length_le (by omega)];rfl))))]
     exact aH tk mo hK rfl [(5,[(0,.b false)])] 2000 r (by kernel_rfl) (U h7 trivial)
    | true=>
     have dT:=of_decide_eq_true h7
     obtain ⟨bA,ej⟩:∃ x_,w[i]?=some x_:=⟨_,List.getElem?_eq_getElem (by omega)⟩
     have mr:=bA.toNat_lt
     have u6:=(⟨_,ej,rfl⟩:∃ u:UInt8,(w:List UInt8)[i]?=some u∧(.v (.int .u8 (((bA.toNat:Nat):Int))):DV)=.v (.int .u8 (u.toNat:Int)))
     cases h8:(decide ((((bA.toNat:Nat):Int):Int)<48)) with
     | false=>
      have fu:=of_decide_eq_false h8
      cases h9:(decide ((57:Int)<((bA.toNat:Nat):Int))) with
      | false=>
       have kB:=of_decide_eq_false h9
       have u7:=((by rw [w8 (by omega)];omega):IntKind.u8.wrap ((((bA.toNat:Nat):Int):Int)-48)=((bA.toNat-48:Nat):Int))
       have u8:=((wu (by omega)):IntKind.u64.wrap (((bA.toNat-48:Nat):Int))=((bA.toNat-48:Nat):Int))
       have u9:=((wu (by omega)):IntKind.u64.wrap ((((most:Nat):Int):Int)-((bA.toNat-48:Nat):Int))=((most-(bA.toNat-48):Nat):Int))
       have gR:=((Bk (by omega)):IntKind.u64.wrap ((((most-(bA.toNat-48):Nat):Int):Int).tdiv 10)=(((most-(bA.toNat-48)) / 10:Nat):Int))
       cases cn:(decide (((((most-(bA.toNat-48)) / 10:Nat):Int):Int)<((n:Nat):Int))) with
       | false=>
        have k4:=of_decide_eq_false cn
        exact aS (todo':=hd Tryz.f82 0) tk mo hK [(5,[(0,.b true)]),(7,[(2,.ix (i) [.v (.int .u8 (((bA.toNat:Nat):Int)))]),(3,.b false),(7,.ix (i) [.v (.int .u8 (((bA.toNat:Nat):Int)))]),(8,.b false)]),(9,[(2,.ix (i) [.v (.int .u8 (((bA.toNat:Nat):Int)))]),(3,.z (((bA.toNat-48:Nat):Int))),(4,.z (((bA.toNat-48:Nat):Int)))]),(10,[(3,.z (((most-(bA.toNat-48):Nat):Int))),(4,.z ((((most-(bA.toNat-48)) / 10:Nat):Int))),(5,.b false)]),(12,[(1,.z (((10*n:Nat):Int))),(3,.z (((10*n+(bA.toNat-48):Nat):Int)))]),(13,[(0,.z (((i+1:Nat):Int)))])] 2000 [] [0,1,6,21,22] r (by kernel_rfl) (U h7 (U (aB ((i:Nat):Int)) (U u6 (U h8 (U (aB ((i:Nat):Int)) (U u6 (U h9 (U (aB ((i:Nat):Int)) (U u6 (U u7 (U u8 (U u9 (U gR (U ((by decide):(10:Int)≠0) (U cn (U ((wu (by omega)):IntKind.u64.wrap ((10:Int)*((n:Nat):Int))=((10*n:Nat):Int)) (U ((wu (by omega)):IntKind.u64.wrap ((((10*n:Nat):Int):Int)+((bA.toNat-48:Nat):Int))=((10*n+(bA.toNat-48):Nat):Int)) (U ((wi (by omega)):IntKind.i64.wrap ((((i:Nat):Int):Int)+1)=((i+1:Nat):Int)) trivial)))))))))))))))))) fun ac wd r=>bH (by omega) ac wd ⟨(10*n+(bA.toNat-48)),⟨by rw [← aq.1,fa ej,if_neg (by omega),if_neg (by omega)],by omega⟩,r⟩
       | true=>
        have k4:=of_decide_eq_true cn
        rw [show (.tu [.u (aO w most).1,.v (.bool (aO w most).2)]:DV)=.tu [.v (.int .u64 0),.v (.bool false)] from (by first | exact dL (kI (Or.inr ⟨(kJ g0).trans (congrArg some (lz (by assumption))),k7 (by assumption)⟩)) | exact dL (fw hR (aq.1.symm.trans ((fa ej).trans (if_pos (by omega))))) | exact dL (fw hR (aq.1.symm.trans ((fa ej).trans ((if_neg (by omega)).trans (if_pos (by omega)))))) | exact ly (kF hR (aq.1.symm.trans (by rw [List.drop_of_length_le (by omega)];rfl))))]
        exact aH tk mo hK rfl [(5,[(0,.b true)]),(7,[(2,.ix (i) [.v (.int .u8 (((bA.toNat:Nat):Int)))]),(3,.b false),(7,.ix (i) [.v (.int .u8 (((bA.toNat:Nat):Int)))]),(8,.b false)]),(9,[(2,.ix (i) [.v (.int .u8 (((bA.toNat:Nat):Int)))]),(3,.z (((bA.toNat-48:Nat):Int))),(4,.z (((bA.toNat-48:Nat):Int)))]),(10,[(3,.z (((most-(bA.toNat-48):Nat):Int))),(4,.z ((((most-(bA.toNat-48)) / 10:Nat):Int))),(5,.b true)])] 2000 r (by kernel_rfl) (U h7 (U (aB ((i:Nat):Int)) (U u6 (U h8 (U (aB ((i:Nat):Int)) (U u6 (U h9 (U (aB ((i:Nat):Int)) (U u6 (U u7 (U u8 (U u9 (U gR (U ((by decide):(10:Int)≠0) (U cn trivial)))))))))))))))
      | true=>
       have kB:=of_decide_eq_true h9
       rw [show (.tu [.u (aO w most).1,.v (.bool (aO w most).2)]:DV)=.tu [.v (.int .u64 0),.v (.bool false)] from (by first | exact dL (kI (Or.inr ⟨(kJ g0).trans (congrArg some (lz (by assumption))),k7 (by assumption)⟩)) | exact dL (fw hR (aq.1.symm.trans ((fa ej).trans (if_pos (by omega))))) | exact dL (fw hR (aq.1.symm.trans ((fa ej).trans ((if_neg (by omega)).trans (if_pos (by omega)))))) | exact ly (kF hR (aq.1.symm.trans (by rw [List.drop_of_length_le (by omega)];rfl))))]
       exact aH tk mo hK rfl [(5,[(0,.b true)]),(7,[(2,.ix (i) [.v (.int .u8 (((bA.toNat:Nat):Int)))]),(3,.b false),(7,.ix (i) [.v (.int .u8 (((bA.toNat:Nat):Int)))]),(8,.b true)])] 2000 r (by kernel_rfl) (U h7 (U (aB ((i:Nat):Int)) (U u6 (U h8 (U (aB ((i:Nat):Int)) (U u6 (U h9 trivial)))))))
     | true=>
      have fu:=of_decide_eq_true h8
      rw [show (.tu [.u (aO w most).1,.v (.bool (aO w most).2)]:DV)=.tu [.v (.int .u64 0),.v (.bool false)] from (by first | exact dL (kI (Or.inr ⟨(kJ g0).trans (congrArg some (lz (by assumption))),k7 (by assumption)⟩)) | exact dL (fw hR (aq.1.symm.trans ((fa ej).trans (if_pos (by omega))))) | exact dL (fw hR (aq.1.symm.trans ((fa ej).trans ((if_neg (by omega)).trans (if_pos (by omega)))))) | exact ly (kF hR (aq.1.symm.trans (by rw [List.drop_of_length_le (by omega)];rfl))))]
      exact aH tk mo hK rfl [(5,[(0,.b true)]),(7,[(2,.ix (i) [.v (.int .u8 (((bA.toNat:Nat):Int)))]),(3,.b true)])] 2000 r (by kernel_rfl) (U h7 (U (aB ((i:Nat):Int)) (U u6 (U h8 trivial))))
 | true=>
  exact absurd (eq_of_beq h0) hw
set_option maxRecDepth 100000 in
theorem JK (most:Nat):al Tryz.prog 82 [.d (.v (.string ⟨([]).toArray⟩)),.u most] (.tu [.v (.int .u64 0),.v (.bool false)]):=by
 refine al.intro (by kernel_rfl) rfl rfl 52 rfl rfl fun w0 K ac hK r=>?_
 rw [show (.tu [.v (.int .u64 0),.v (.bool false)]:DV)=.tu [.v (.int .u64 0),.v (.bool false)] from rfl]
 exact aH tk mo hK rfl [(1,[(1,.b true)])] 2000 r (by kernel_rfl) (U ((by first | decide | simp):(([]:List UInt8)==[])=true) trivial)
theorem rH (w:List UInt8) (most:Nat) (hl:w.length≤9223372036854775807) (h9:9≤most) (hm:most<18446744073709551616):al Tryz.prog 82 [.d (.v (.string ⟨w.toArray⟩)),.u most] (.tu [.u (aO w most).1,.v (.bool (aO w most).2)]):=by
 cases w with
 | nil=>exact JK most
 | cons b r=>exact Iv (b::r) most b rfl (by simp) hl h9 hm
end Go.Proofs.YtcnpikbbmbombaaGreatDoor
namespace Go.Proofs.YtcnpikbbmbombaaGreatDoor
open Go.RowKit
def hx (b:UInt8):Int:=Go.Lib.indexByte [48,49,50,51,52,53,54,55,56,57,97,98,99,100,101,102] b
def bG (b:UInt8):Nat:=(hx b).toNat
theorem Lt (b:UInt8):hx b<16:=by
 have key:∀ n,n<256→hx (UInt8.ofNat n)<16:=by decide +kernel
 have:=key b.toNat b.toNat_lt
 rwa [UInt8.ofNat_toNat] at this
theorem mS {b:UInt8} (h:decide (hx b<0)=false):hx b=((bG b:Nat):Int)∧bG b<16:=by
 have h:=of_decide_eq_false h
 have:=Lt b
 unfold bG;omega
theorem Lu {b:UInt8} (h:decide (hx b<0)=true):hx b = -1:=by
 have h:=of_decide_eq_true h
 have:=Go.Lib.indexByte_ge [48,49,50,51,52,53,54,55,56,57,97,98,99,100,101,102] b
 unfold hx at *;omega
theorem oD {b:UInt8} (h:decide (hx b<0)=false):al Tryz.prog 102 [.d (.v (.string ⟨([48,49,50,51,52,53,54,55,56,57,97,98,99,100,101,102]:List UInt8).toArray⟩)),.d (.v (.int .u8 ((b.toNat:Nat):Int)))] (.n (bG b)):=by
 have q:=yI [48,49,50,51,52,53,54,55,56,57,97,98,99,100,101,102] b
 rw [show Go.Lib.indexByte [48,49,50,51,52,53,54,55,56,57,97,98,99,100,101,102] b=((bG b:Nat):Int) from (mS h).1] at q;exact q
theorem sO {b:UInt8} (h:decide (hx b<0)=true):al Tryz.prog 102 [.d (.v (.string ⟨([48,49,50,51,52,53,54,55,56,57,97,98,99,100,101,102]:List UInt8).toArray⟩)),.d (.v (.int .u8 ((b.toNat:Nat):Int)))] (.z (-1)):=by
 have q:=yI [48,49,50,51,52,53,54,55,56,57,97,98,99,100,101,102] b
 rw [show Go.Lib.indexByte [48,49,50,51,52,53,54,55,56,57,97,98,99,100,101,102] b = -1 from Lu h] at q;exact q
theorem Ca {h:Nat} (hh:h<16):IntKind.i64.wrap (((h:Nat):Int)*2 ^ (min (4:Int).toNat IntKind.i64.bits))=((16*h:Nat):Int):=by
 show IntKind.i64.wrap (((h:Nat):Int)*16)=_
 simp [IntKind.wrap,IntKind.signed,IntKind.bits];omega
theorem BN {h l:Nat} (hh:h<16) (hl:l<16):IntKind.i64.wrap ((BitVec.ofInt IntKind.i64.bits ((16*h:Nat):Int) ||| BitVec.ofInt IntKind.i64.bits ((l:Nat):Int)).toNat:Int)=((16*h+l:Nat):Int):=by
 have h1:(BitVec.ofInt 64 ((16*h:Nat):Int) ||| BitVec.ofInt 64 ((l:Nat):Int)).toNat=16*h+l:=by
  rw [BitVec.toNat_or,BitVec.ofInt_natCast,BitVec.ofInt_natCast,BitVec.toNat_ofNat,BitVec.toNat_ofNat,Nat.mod_eq_of_lt (by omega),Nat.mod_eq_of_lt (by omega)]
  have:=Nat.two_pow_add_eq_or_of_lt (i:=4) (b:=l) (by omega) h
  rw [show 16*h=2 ^ 4*h from by omega];omega
 show IntKind.i64.wrap ((BitVec.ofInt 64 ((16*h:Nat):Int) ||| BitVec.ofInt 64 ((l:Nat):Int)).toNat:Int)=_
 rw [h1];simp [IntKind.wrap,IntKind.signed,IntKind.bits];omega
def gj:List UInt8→Option (List UInt8)
 | a::b::r=>if hx a<0∨hx b<0 then none else (gj r).map fun q=>bz ((16*bG a+bG b:Nat):Int)::q
 | _=>some []
def fg (w:List UInt8):List UInt8×Bool:=if w=[45] then ([],true) else if w=[]∨w.length%2≠0∨510<w.length then ([],false) else (match gj w with | some q=>(q,true) | none=>([],false))
theorem rR {w:List UInt8} {i:Nat} {a b:UInt8} (h1:w[2*i]?=some a) (h2:w[2*i+1]?=some b):gj (w.drop (2*i))=if hx a<0∨hx b<0 then none else (gj (w.drop (2*(i+1)))).map fun q=>bz ((16*bG a+bG b:Nat):Int)::q:=by
 obtain ⟨Mv,rfl⟩:=List.getElem?_eq_some_iff.1 h1
 obtain ⟨Mw,rfl⟩:=List.getElem?_eq_some_iff.1 h2
 rw [List.drop_eq_getElem_cons Mv,List.drop_eq_getElem_cons Mw,gj];rfl
theorem GU {w:List UInt8} (h1:w≠[45]) (h:w=[]∨w.length%2≠0∨510<w.length):fg w=([],false):=by unfold fg;rw [if_neg h1,if_pos h]
theorem Fj {w:List UInt8} (h1:w≠[45]) (h:¬ (w=[]∨w.length%2≠0∨510<w.length)) (e:gj w=none):fg w=([],false):=by unfold fg;rw [if_neg h1,if_neg h,e]
theorem Fk {w q:List UInt8} (h1:w≠[45]) (h:¬ (w=[]∨w.length%2≠0∨510<w.length)) (e:gj w=some q):fg w=(q,true):=by unfold fg;rw [if_neg h1,if_neg h,e]
theorem wO (n:Nat):((n:Nat):Int).tmod 2=((n%2:Nat):Int):=(Int.ofNat_tmod n 2).symm
set_option maxRecDepth 100000 in
theorem Iw (w:List UInt8) (h1:w≠[45]) (hN:¬ (w=[]∨w.length%2≠0∨510<w.length)) (q:List UInt8) (hq:gj w=some q):al Tryz.prog 85 [.d (.v (.string ⟨w.toArray⟩))] (DV.tu [.em 5 1 (ae q),.v (.bool true)]):=by
 refine al.intro (by kernel_rfl) rfl rfl 53 rfl rfl fun w0 K ac hK r=>?_
 cases h0:(w==([45]:List UInt8)) with
 | false=>
  cases h1:(w==([]:List UInt8)) with
  | false=>
   have u0:=((wO _):(((w.length:Nat):Int):Int).tmod 2=((w.length%2:Nat):Int))
   cases h2:((((w.length%2:Nat):Int):Int) != 0) with
   | false=>
    have cQ:=fZ h2
    cases h3:(decide ((510:Int)<((w.length:Nat):Int))) with
    | false=>
     have dB:=of_decide_eq_false h3
     refine aS (todo':=hd Tryz.f85 0) (E':=[(0,.d (.v (.string ⟨w.toArray⟩))),(4,.d (.v (.slice none 0 0))),(5,.z 0)]) (M':=[]) tk mo hK [(1,[(1,.b false)]),(3,[(1,.b false),(5,.z (((w.length%2:Nat):Int))),(6,.b false),(11,.b false)])] 2000 [] [0,4,5] r (by kernel_rfl) (U h0 (U h1 (U u0 (U ((by decide):(2:Int)≠0) (U h2 (U h3 trivial)))))) fun ac wd r=>?_
     refine aD.rounds (Φ:=fun (i:Nat) ac wd=>∃ o:List UInt8,(o.length=i∧2*i≤w.length∧gj w=(gj (w.drop (2*i))).map fun q=>o++q)∧cK [] w0 K 53 [(0,.d (.v (.string ⟨w.toArray⟩))),(4,.sl 0 (i)),(5,.n (2*i))] [.rw 5 1 (ae o)] ac wd) (255) ?_ (Nat.zero_le _) ⟨[],⟨rfl,Nat.zero_le _,by simp⟩,r.fk (M1:=[.rw 5 1 []]) [(4,5,1)] [] (by kernel_rfl) (by kernel_rfl)⟩
     clear r
     rintro i dv bH ac wd ⟨o,aq,r⟩
     have me:=aq.1
     have NT:=aq.2.1
     cases h4:(decide ((((2*i:Nat):Int):Int)<((w.length:Nat):Int))) with
     | false=>
      have eM:=of_decide_eq_false h4
      rw [show (DV.tu [.em 5 1 (ae q),.v (.bool true)]:DV)=.tu [.em 5 1 (ae o),.v (.bool true)] from (by have e:=hq.symm.trans aq.2.2;rw [List.drop_of_length_le (by omega)] at e;simp [gj] at e;rw [e])]
      exact aH tk mo hK rfl [(7,[(3,.b false)])] 2000 r (by kernel_rfl) (U h4 (U ((by first | rfl | (simp [ae];done) | (simp [ae];omega)):(i)=(ae o).length) trivial))
     | true=>
      have eM:=of_decide_eq_true h4
      obtain ⟨cA,nL⟩:∃ x_,w[2*i]?=some x_:=⟨_,List.getElem?_eq_getElem (by omega)⟩
      obtain ⟨cR,nM⟩:∃ x_,w[2*i+1]?=some x_:=⟨_,List.getElem?_eq_getElem (by omega)⟩
      have u1:=(⟨_,nL,rfl⟩:∃ u:UInt8,(w:List UInt8)[2*i]?=some u∧(.v (.int .u8 (((cA.toNat:Nat):Int))):DV)=.v (.int .u8 (u.toNat:Int)))
      have u2:=((wi (by omega)):IntKind.i64.wrap ((((2*i:Nat):Int):Int)+1)=((2*i+1:Nat):Int))
      have u3:=(⟨_,nM,rfl⟩:∃ u:UInt8,(w:List UInt8)[2*i+1]?=some u∧(.v (.int .u8 (((cR.toNat:Nat):Int))):DV)=.v (.int .u8 (u.toNat:Int)))
      cases h5:(decide (hx cA<0)) with
      | false=>
       have eO:=of_decide_eq_false h5
       cases h6:(decide (hx cR<0)) with
       | false=>
        have fX:=of_decide_eq_false h6
        cases h7:(decide ((((bG cA:Nat):Int):Int)<0)) with
        | false=>
         have dT:=of_decide_eq_false h7
         cases h8:(decide ((((bG cR:Nat):Int):Int)<0)) with
         | false=>
          have fu:=of_decide_eq_false h8
          exact aS (todo':=hd Tryz.f85 0) (E':=[(0,.d (.v (.string ⟨w.toArray⟩))),(4,.sl 0 (i+(1))),(5,.n (2*(i+1)))]) (M':=[.rw 5 1 (ae o++[[.v (.int .u8 ((((bz (((16*bG cA+bG cR:Nat):Int))).toNat:Nat):Int)))]])]) tk mo hK [(7,[(3,.b true)]),(8,[(1,.z (((2*(i+1):Nat):Int)))]),(9,[(2,.ix (2*i) [.v (.int .u8 (((cA.toNat:Nat):Int)))]),(6,.z (((2*i+1:Nat):Int))),(7,.ix (2*i+1) [.v (.int .u8 (((cR.toNat:Nat):Int)))]),(3,.ax (.n (bG cA))),(8,.ax (.n (bG cR)))]),(10,[(1,.b false),(4,.b false)]),(12,[(2,.z (((16*bG cA:Nat):Int))),(4,.z (((16*bG cA+bG cR:Nat):Int))),(5,.z ((((bz (((16*bG cA+bG cR:Nat):Int))).toNat:Nat):Int)))])] 2000 [0] [0,4,5] r (by kernel_rfl) (U h4 (U (aB ((2*i:Nat):Int)) (U u1 (U u2 (U (aB ((2*i+1:Nat):Int)) (U u3 (U (oD h5) (U (oD h6) (U h7 (U h8 (U ((Ca (mS (by assumption)).2):IntKind.i64.wrap ((((bG cA:Nat):Int):Int)*2 ^ (min (4:Int).toNat IntKind.i64.bits))=((16*bG cA:Nat):Int)) (U ((by first | decide | omega):(0:Int)≤4) (U ((BN (mS (by assumption)).2 (mS (by assumption)).2):IntKind.i64.wrap ((BitVec.ofInt IntKind.i64.bits (((16*bG cA:Nat):Int)) ||| BitVec.ofInt IntKind.i64.bits (((bG cR:Nat):Int))).toNat:Int)=((16*bG cA+bG cR:Nat):Int)) (U ((bI _):IntKind.u8.wrap (((16*bG cA+bG cR:Nat):Int))=(((bz (((16*bG cA+bG cR:Nat):Int))).toNat:Nat):Int)) (U ((by first | rfl | (simp [ae];done) | (simp [ae];omega)):(i)=(ae o).length) (U ((by first | rfl | (simp [ae];done) | (simp [ae];omega)):(1)=([[.v (.int .u8 ((((bz (((16*bG cA+bG cR:Nat):Int))).toNat:Nat):Int)))]]:List (List DV)).length) (U ((by first | omega | (simp [ae];omega)):(2*((i)+(1))+192)*1≤281474976710656) (U ((by first | omega | (simp [ae];omega)):(i)+(1)<4611686018427387904) (U ((by simp [aA,AV.one,aW,ae,ah,ints,steps,strs]):aA ([[.v (.int .u8 ((((bz (((16*bG cA+bG cR:Nat):Int))).toNat:Nat):Int)))]])) (U ((wi (by omega)):IntKind.i64.wrap ((((2*i:Nat):Int):Int)+2)=((2*(i+1):Nat):Int)) trivial)))))))))))))))))))) fun ac wd r=>bH (by omega) ac wd ⟨(o++[bz ((16*bG cA+bG cR:Nat):Int)]),⟨by simp;omega,by omega,by rw [aq.2.2,rR nL nM,if_neg (by rintro (h | h);exact absurd h (of_decide_eq_false (by assumption));exact absurd h (of_decide_eq_false (by assumption)))];simp [Option.map_map,Function.comp_def]⟩,r.cast rfl (by simp [ae])⟩
         | true=>
          have fu:=of_decide_eq_true h8
          exact absurd fu (by omega)
        | true=>
         have dT:=of_decide_eq_true h7
         exact absurd dT (by omega)
       | true=>
        have fX:=of_decide_eq_true h6
        exact absurd (hq.symm.trans (aq.2.2.trans (by rw [rR nL nM,if_pos (by first | exact .inl (of_decide_eq_true (by assumption)) | exact .inr (of_decide_eq_true (by assumption)))]))) (by simp)
      | true=>
       have eO:=of_decide_eq_true h5
       exact absurd (hq.symm.trans (aq.2.2.trans (by rw [rR nL nM,if_pos (by first | exact .inl (of_decide_eq_true (by assumption)) | exact .inr (of_decide_eq_true (by assumption)))]))) (by simp)
    | true=>
     have dB:=of_decide_eq_true h3
     exact absurd (.inr (.inr (by omega))) hN
   | true=>
    have cQ:¬ _=_:=bne_iff_ne.1 h2
    exact absurd (.inr (.inl (by omega))) hN
  | true=>
   exact absurd (.inl (eq_of_beq h1)) hN
 | true=>
  exact absurd (eq_of_beq h0) h1
set_option maxRecDepth 100000 in
theorem Ix (w:List UInt8) (h1:w≠[45]) (hN:¬ (w=[]∨w.length%2≠0∨510<w.length)) (hq:gj w=none):al Tryz.prog 85 [.d (.v (.string ⟨w.toArray⟩))] (.tu [.v (.slice none 0 0),.v (.bool false)]):=by
 refine al.intro (by kernel_rfl) rfl rfl 53 rfl rfl fun w0 K ac hK r=>?_
 cases h0:(w==([45]:List UInt8)) with
 | false=>
  cases h1:(w==([]:List UInt8)) with
  | false=>
   have u0:=((wO _):(((w.length:Nat):Int):Int).tmod 2=((w.length%2:Nat):Int))
   cases h2:((((w.length%2:Nat):Int):Int) != 0) with
   | false=>
    have cQ:=fZ h2
    cases h3:(decide ((510:Int)<((w.length:Nat):Int))) with
    | false=>
     have dB:=of_decide_eq_false h3
     refine aS (todo':=hd Tryz.f85 0) (E':=[(0,.d (.v (.string ⟨w.toArray⟩))),(4,.d (.v (.slice none 0 0))),(5,.z 0)]) (M':=[]) tk mo hK [(1,[(1,.b false)]),(3,[(1,.b false),(5,.z (((w.length%2:Nat):Int))),(6,.b false),(11,.b false)])] 2000 [] [0,4,5] r (by kernel_rfl) (U h0 (U h1 (U u0 (U ((by decide):(2:Int)≠0) (U h2 (U h3 trivial)))))) fun ac wd r=>?_
     refine aD.rounds (Φ:=fun (i:Nat) ac wd=>∃ o:List UInt8,(o.length=i∧2*i≤w.length∧gj w=(gj (w.drop (2*i))).map fun q=>o++q)∧cK [] w0 K 53 [(0,.d (.v (.string ⟨w.toArray⟩))),(4,.sl 0 (i)),(5,.n (2*i))] [.rw 5 1 (ae o)] ac wd) (255) ?_ (Nat.zero_le _) ⟨[],⟨rfl,Nat.zero_le _,by simp⟩,r.fk (M1:=[.rw 5 1 []]) [(4,5,1)] [] (by kernel_rfl) (by kernel_rfl)⟩
     clear r
     rintro i dv bH ac wd ⟨o,aq,r⟩
     have me:=aq.1
     have NT:=aq.2.1
     cases h4:(decide ((((2*i:Nat):Int):Int)<((w.length:Nat):Int))) with
     | false=>
      have eM:=of_decide_eq_false h4
      rw [show (.tu [.v (.slice none 0 0),.v (.bool false)]:DV)=.tu [.em 5 1 (ae o),.v (.bool true)] from (by have e:=hq.symm.trans aq.2.2;rw [List.drop_of_length_le (by omega)] at e;simp [gj] at e)]
      exact aH tk mo hK rfl [(7,[(3,.b false)])] 2000 r (by kernel_rfl) (U h4 (U ((by first | rfl | (simp [ae];done) | (simp [ae];omega)):(i)=(ae o).length) trivial))
     | true=>
      have eM:=of_decide_eq_true h4
      obtain ⟨cA,nL⟩:∃ x_,w[2*i]?=some x_:=⟨_,List.getElem?_eq_getElem (by omega)⟩
      obtain ⟨cR,nM⟩:∃ x_,w[2*i+1]?=some x_:=⟨_,List.getElem?_eq_getElem (by omega)⟩
      have u1:=(⟨_,nL,rfl⟩:∃ u:UInt8,(w:List UInt8)[2*i]?=some u∧(.v (.int .u8 (((cA.toNat:Nat):Int))):DV)=.v (.int .u8 (u.toNat:Int)))
      have u2:=((wi (by omega)):IntKind.i64.wrap ((((2*i:Nat):Int):Int)+1)=((2*i+1:Nat):Int))
      have u3:=(⟨_,nM,rfl⟩:∃ u:UInt8,(w:List UInt8)[2*i+1]?=some u∧(.v (.int .u8 (((cR.toNat:Nat):Int))):DV)=.v (.int .u8 (u.toNat:Int)))
      cases h5:(decide (hx cA<0)) with
      | false=>
       have eO:=of_decide_eq_false h5
       cases h6:(decide (hx cR<0)) with
       | false=>
        have fX:=of_decide_eq_false h6
        cases h7:(decide ((((bG cA:Nat):Int):Int)<0)) with
        | false=>
         have dT:=of_decide_eq_false h7
         cases h8:(decide ((((bG cR:Nat):Int):Int)<0)) with
         | false=>
          have fu:=of_decide_eq_false h8
          exact aS (todo':=hd Tryz.f85 0) (E':=[(0,.d (.v (.string ⟨w.toArray⟩))),(4,.sl 0 (i+(1))),(5,.n (2*(i+1)))]) (M':=[.rw 5 1 (ae o++[[.v (.int .u8 ((((bz (((16*bG cA+bG cR:Nat):Int))).toNat:Nat):Int)))]])]) tk mo hK [(7,[(3,.b true)]),(8,[(1,.z (((2*(i+1):Nat):Int)))]),(9,[(2,.ix (2*i) [.v (.int .u8 (((cA.toNat:Nat):Int)))]),(6,.z (((2*i+1:Nat):Int))),(7,.ix (2*i+1) [.v (.int .u8 (((cR.toNat:Nat):Int)))]),(3,.ax (.n (bG cA))),(8,.ax (.n (bG cR)))]),(10,[(1,.b false),(4,.b false)]),(12,[(2,.z (((16*bG cA:Nat):Int))),(4,.z (((16*bG cA+bG cR:Nat):Int))),(5,.z ((((bz (((16*bG cA+bG cR:Nat):Int))).toNat:Nat):Int)))])] 2000 [0] [0,4,5] r (by kernel_rfl) (U h4 (U (aB ((2*i:Nat):Int)) (U u1 (U u2 (U (aB ((2*i+1:Nat):Int)) (U u3 (U (oD h5) (U (oD h6) (U h7 (U h8 (U ((Ca (mS (by assumption)).2):IntKind.i64.wrap ((((bG cA:Nat):Int):Int)*2 ^ (min (4:Int).toNat IntKind.i64.bits))=((16*bG cA:Nat):Int)) (U ((by first | decide | omega):(0:Int)≤4) (U ((BN (mS (by assumption)).2 (mS (by assumption)).2):IntKind.i64.wrap ((BitVec.ofInt IntKind.i64.bits (((16*bG cA:Nat):Int)) ||| BitVec.ofInt IntKind.i64.bits (((bG cR:Nat):Int))).toNat:Int)=((16*bG cA+bG cR:Nat):Int)) (U ((bI _):IntKind.u8.wrap (((16*bG cA+bG cR:Nat):Int))=(((bz (((16*bG cA+bG cR:Nat):Int))).toNat:Nat):Int)) (U ((by first | rfl | (simp [ae];done) | (simp [ae];omega)):(i)=(ae o).length) (U ((by first | rfl | (simp [ae];done) | (simp [ae];omega)):(1)=([[.v (.int .u8 ((((bz (((16*bG cA+bG cR:Nat):Int))).toNat:Nat):Int)))]]:List (List DV)).length) (U ((by first | omega | (simp [ae];omega)):(2*((i)+(1))+192)*1≤281474976710656) (U ((by first | omega | (simp [ae];omega)):(i)+(1)<4611686018427387904) (U ((by simp [aA,AV.one,aW,ae,ah,ints,steps,strs]):aA ([[.v (.int .u8 ((((bz (((16*bG cA+bG cR:Nat):Int))).toNat:Nat):Int)))]])) (U ((wi (by omega)):IntKind.i64.wrap ((((2*i:Nat):Int):Int)+2)=((2*(i+1):Nat):Int)) trivial)))))))))))))))))))) fun ac wd r=>bH (by omega) ac wd ⟨(o++[bz ((16*bG cA+bG cR:Nat):Int)]),⟨by simp;omega,by omega,by rw [aq.2.2,rR nL nM,if_neg (by rintro (h | h);exact absurd h (of_decide_eq_false (by assumption));exact absurd h (of_decide_eq_false (by assumption)))];simp [Option.map_map,Function.comp_def]⟩,r.cast rfl (by simp [ae])⟩
         | true=>
          have fu:=of_decide_eq_true h8
          exact absurd fu (by omega)
        | true=>
         have dT:=of_decide_eq_true h7
         exact absurd dT (by omega)
       | true=>
        have fX:=of_decide_eq_true h6
        cases h9:(decide ((((bG cA:Nat):Int):Int)<0)) with
        | false=>
         have kB:=of_decide_eq_false h9
         rw [show (.tu [.v (.slice none 0 0),.v (.bool false)]:DV)=.tu [.v (.slice none 0 0),.v (.bool false)] from rfl]
         exact aH tk mo hK rfl [(7,[(3,.b true)]),(9,[(2,.ix (2*i) [.v (.int .u8 (((cA.toNat:Nat):Int)))]),(6,.z (((2*i+1:Nat):Int))),(7,.ix (2*i+1) [.v (.int .u8 (((cR.toNat:Nat):Int)))]),(3,.ax (.n (bG cA))),(8,.ax (.z (-1)))]),(10,[(1,.b false)])] 2000 r (by kernel_rfl) (U h4 (U (aB ((2*i:Nat):Int)) (U u1 (U u2 (U (aB ((2*i+1:Nat):Int)) (U u3 (U (oD h5) (U (sO h6) (U h9 trivial)))))))))
        | true=>
         have kB:=of_decide_eq_true h9
         exact absurd kB (by omega)
      | true=>
       have eO:=of_decide_eq_true h5
       cases cn:(decide (hx cR<0)) with
       | false=>
        have k4:=of_decide_eq_false cn
        rw [show (.tu [.v (.slice none 0 0),.v (.bool false)]:DV)=.tu [.v (.slice none 0 0),.v (.bool false)] from rfl]
        exact aH tk mo hK rfl [(7,[(3,.b true)]),(9,[(2,.ix (2*i) [.v (.int .u8 (((cA.toNat:Nat):Int)))]),(6,.z (((2*i+1:Nat):Int))),(7,.ix (2*i+1) [.v (.int .u8 (((cR.toNat:Nat):Int)))]),(3,.ax (.z (-1))),(8,.ax (.n (bG cR)))])] 2000 r (by kernel_rfl) (U h4 (U (aB ((2*i:Nat):Int)) (U u1 (U u2 (U (aB ((2*i+1:Nat):Int)) (U u3 (U (sO h5) (U (oD cn) trivial))))))))
       | true=>
        have k4:=of_decide_eq_true cn
        rw [show (.tu [.v (.slice none 0 0),.v (.bool false)]:DV)=.tu [.v (.slice none 0 0),.v (.bool false)] from rfl]
        exact aH tk mo hK rfl [(7,[(3,.b true)]),(9,[(2,.ix (2*i) [.v (.int .u8 (((cA.toNat:Nat):Int)))]),(6,.z (((2*i+1:Nat):Int))),(7,.ix (2*i+1) [.v (.int .u8 (((cR.toNat:Nat):Int)))]),(3,.ax (.z (-1))),(8,.ax (.z (-1)))])] 2000 r (by kernel_rfl) (U h4 (U (aB ((2*i:Nat):Int)) (U u1 (U u2 (U (aB ((2*i+1:Nat):Int)) (U u3 (U (sO h5) (U (sO cn) trivial))))))))
    | true=>
     have dB:=of_decide_eq_true h3
     exact absurd (.inr (.inr (by omega))) hN
   | true=>
    have cQ:¬ _=_:=bne_iff_ne.1 h2
    exact absurd (.inr (.inl (by omega))) hN
  | true=>
   exact absurd (.inl (eq_of_beq h1)) hN
 | true=>
  exact absurd (eq_of_beq h0) h1
set_option maxRecDepth 100000 in
theorem Iy :al Tryz.prog 85 [.d (.v (.string ⟨([45]).toArray⟩))] (.tu [.v (.slice none 0 0),.v (.bool true)]):=by
 refine al.intro (by kernel_rfl) rfl rfl 53 rfl rfl fun w0 K ac hK r=>?_
 rw [show (.tu [.v (.slice none 0 0),.v (.bool true)]:DV)=.tu [.v (.slice none 0 0),.v (.bool true)] from rfl]
 exact aH tk mo hK rfl [(1,[(1,.b true)])] 2000 r (by kernel_rfl) (U ((by first | decide | simp):(([45]:List UInt8)==[45])=true) trivial)
set_option maxRecDepth 100000 in
theorem JL (w:List UInt8) (h1:w≠[45]) (hO:w=[]∨w.length%2≠0∨510<w.length):al Tryz.prog 85 [.d (.v (.string ⟨w.toArray⟩))] (.tu [.v (.slice none 0 0),.v (.bool false)]):=by
 refine al.intro (by kernel_rfl) rfl rfl 53 rfl rfl fun w0 K ac hK r=>?_
 cases h0:(w==([45]:List UInt8)) with
 | false=>
  cases h1:(w==([]:List UInt8)) with
  | false=>
   have u0:=((wO _):(((w.length:Nat):Int):Int).tmod 2=((w.length%2:Nat):Int))
   cases h2:((((w.length%2:Nat):Int):Int) != 0) with
   | false=>
    have cQ:=fZ h2
    cases h3:(decide ((510:Int)<((w.length:Nat):Int))) with
    | false=>
     have dB:=of_decide_eq_false h3
     exact absurd hO (by rintro (h | h | h);exact absurd h (by have q:=‹(w==([]:List UInt8))=false›;intro e;subst e;simp at q);omega;omega)
    | true=>
     have dB:=of_decide_eq_true h3
     rw [show (.tu [.v (.slice none 0 0),.v (.bool false)]:DV)=.tu [.v (.slice none 0 0),.v (.bool false)] from rfl]
     exact aH tk mo hK rfl [(1,[(1,.b false)]),(3,[(1,.b false),(5,.z (((w.length%2:Nat):Int))),(6,.b false),(11,.b true)])] 2000 r (by kernel_rfl) (U h0 (U h1 (U u0 (U ((by decide):(2:Int)≠0) (U h2 (U h3 trivial))))))
   | true=>
    have cQ:¬ _=_:=bne_iff_ne.1 h2
    rw [show (.tu [.v (.slice none 0 0),.v (.bool false)]:DV)=.tu [.v (.slice none 0 0),.v (.bool false)] from rfl]
    exact aH tk mo hK rfl [(1,[(1,.b false)]),(3,[(1,.b false),(5,.z (((w.length%2:Nat):Int))),(6,.b true)])] 2000 r (by kernel_rfl) (U h0 (U h1 (U u0 (U ((by decide):(2:Int)≠0) (U h2 trivial)))))
  | true=>
   rw [show (.tu [.v (.slice none 0 0),.v (.bool false)]:DV)=.tu [.v (.slice none 0 0),.v (.bool false)] from rfl]
   exact aH tk mo hK rfl [(1,[(1,.b false)]),(3,[(1,.b true)])] 2000 r (by kernel_rfl) (U h0 (U h1 trivial))
 | true=>
  exact absurd (eq_of_beq h0) h1
theorem yK (w:List UInt8):al Tryz.prog 85 [.d (.v (.string ⟨w.toArray⟩))] (.tu [.em 5 1 (ae (fg w).1),.v (.bool (fg w).2)]):=by
 have nl:∀ {b:Bool},al Tryz.prog 85 [.d (.v (.string ⟨w.toArray⟩))] (.tu [.v (.slice none 0 0),.v (.bool b)])→al Tryz.prog 85 [.d (.v (.string ⟨w.toArray⟩))] (.tu [.em 5 1 (ae []),.v (.bool b)]):=fun h=>h.le (cS.tu (.cons (Le.By 5 1) (.cons (Le.refl _) .nil)))
 by_cases h1:w=[45]
 ·subst h1;exact nl Iy
 ·by_cases hO:w=[]∨w.length%2≠0∨510<w.length
  ·rw [GU h1 hO];exact nl (JL w h1 hO)
  ·cases hq:gj w with
   | none=>rw [Fj h1 hO hq];exact nl (Ix w h1 hO hq)
   | some q=>rw [Fk h1 hO hq];exact Iw w h1 hO q hq
end Go.Proofs.YtcnpikbbmbombaaGreatDoor
namespace Go.Proofs.YtcnpikbbmbombaaGreatDoor
open Go.RowKit
theorem uP (w:List UInt8) {most:Nat} (h9:9≤most):(aO w most).1≤most:=by
 unfold aO
 split
 ·exact Nat.zero_le _
 ·cases e:ij most w 0 with
  | none=>exact Nat.zero_le _
  | some n=>exact AJ (Nat.zero_le _) h9 e
abbrev Ws:=List (List UInt8)×Bool
def ph (s:Ws):List ai:=[.bx 87 [.d (.ro 1 (strs s.1))],.bx 4 [.d (.v (.bool s.2))]]
def pj (s:Ws):List ai:=[.bx 87 [.d (.ro 1 (strs s.1))],.bx 4 [.d (.v (.bool s.2))],.bx 79 [.fn 83 [.pt 0 0,.pt 1 0]]]
def bU (s:Ws):List UInt8:=s.1.headD []
def bp (s:Ws):Ws:=(s.1.tail,s.2&&!s.1.isEmpty)
def pN (b:Bool) (most:Nat) (s:Ws):Nat:=cond b (aO (bU s) most).1 0
def pS (b:Bool) (most:Nat) (s:Ws):Ws:=cond b ((bp s).1,(bp s).2&&(aO (bU s) most).2) s
theorem sn (b:Bool) (s:Ws) {most:Nat} (h9:9≤most):pN b most s≤most:=by cases b;exact Nat.zero_le _;exact uP _ h9
def fL (s:Ws):Prop:=∀ w ∈ s.1,w.length≤1048576
theorem fL.w {s:Ws} (h:fL s):(bU s).length≤1048576:=by
 obtain ⟨l,b⟩:=s
 cases l with
 | nil=>exact Nat.zero_le _
 | cons x r=>exact h x (by simp)
theorem fL.s {s:Ws} (h:fL s):fL (bp s):=fun w hw=>h w (List.mem_of_mem_tail hw)
theorem fL.p {s:Ws} (h:fL s) (b:Bool) (m:Nat):fL (pS b m s):=by cases b;exact h;exact h.s
set_option maxRecDepth 100000 in
theorem GV (g:Bool):aC Tryz.prog 83 [.pt 0 0,.pt 1 0] [.bx 87 [.d (.ro 1 (strs (([]:List (List UInt8)),g).1))],.bx 4 [.d (.v (.bool ((([]:List (List UInt8)),g).2)))]] (.d (.v (.string ⟨(bU (([]:List (List UInt8)),g)).toArray⟩))) (ph (bp (([]:List (List UInt8)),g))):=by
 refine aC.intro (by kernel_rfl) rfl rfl 13 rfl rfl fun D w0 K bs ac wd hK (ao:bs.m=2) r=>?_
 refine bg (y:=.d (.v (.string .empty))) (N':=[.bx 87 [.d (.ro 1 (strs (([]:List (List UInt8)),g).1))],.bx 4 [.d (.v (.bool false))]]) (rfl) ((by simp [bp,ph,strs])) ?_
 exact bf tk mo hK rfl ao [(1,[(1,.z (0))])] 2000 [0,1] r (by kernel_rfl) (U ((by first | rfl | simp [strs]):(((strs (([]:List (List UInt8)),g).1).length:Nat):Int)=0) trivial)
set_option maxRecDepth 100000 in
theorem Fm (x:List UInt8) (q:List (List UInt8)) (g:Bool):aC Tryz.prog 83 [.pt 0 0,.pt 1 0] [.bx 87 [.d (.ro 1 (strs ((x::q),g).1))],.bx 4 [.d (.v (.bool (((x::q),g).2)))]] (.d (.v (.string ⟨(bU ((x::q),g)).toArray⟩))) (ph (bp ((x::q),g))):=by
 refine aC.intro (by kernel_rfl) rfl rfl 13 rfl rfl fun D w0 K bs ac wd hK (ao:bs.m=2) r=>?_
 have u0:=((by first | rfl | simp [strs]):(((strs ((x::q),g).1).length:Nat):Int)=((q.length+1:Nat):Int))
 cases h0:((((q.length+1:Nat):Int):Int)==0) with
 | false=>
  have bo:=ne_of_beq_false h0
  refine bg (y:=.d (.v (.string ⟨x.toArray⟩))) (N':=[.bx 87 [.d (.ro 1 (List.drop (1) (strs ((x::q),g).1)))],.bx 4 [.d (.v (.bool (((x::q),g).2)))]]) (rfl) ((by simp [bp,ph,strs])) ?_
  exact bf tk mo hK rfl ao [(1,[(1,.z (((q.length+1:Nat):Int))),(2,.b false)]),(4,[(1,.ix (0) [.v (.string ⟨x.toArray⟩)])]),(5,[(1,.n2 (0) (1))])] 2000 [0,1] r (by kernel_rfl) (U u0 (U h0 (U (rfl:(0)=((0:Nat):Int)) (U (rfl:(strs ((x::q),g).1)[0]?=some [.v (.string ⟨x.toArray⟩)]) (U (rfl:(1:Int)=((1:Nat):Int)) (U ((by simp [strs]):(1)≤(strs ((x::q),g).1:List (List DV)).length) trivial))))))
 | true=>
  have bo:=eq_of_beq h0
  exact absurd bo (by omega)
theorem oq (s:Ws):aC Tryz.prog 83 [.pt 0 0,.pt 1 0] (ph s) (.d (.v (.string ⟨(bU s).toArray⟩))) (ph (bp s)):=by
 obtain ⟨l,g⟩:=s
 cases l with
 | nil=>exact GV g
 | cons x r=>exact Fm x r g
set_option maxRecDepth 100000 in
theorem GW (most:Nat) (s:Ws) (h9:9≤most) (hm:most<18446744073709551616) (hs:fL s):aC Tryz.prog 84 [.d (.v (.bool true)),.u most,.pt 2 0,.pt 1 0] [.bx 87 [.d (.ro 1 (strs s.1))],.bx 4 [.d (.v (.bool (s.2)))],.bx 79 [.fn 83 [.pt 0 0,.pt 1 0]]] (.u (pN true most s)) (pj (pS true most s)):=by
 refine aC.intro (by kernel_rfl) rfl rfl 23 rfl rfl fun D w0 K bs ac wd hK (ao:bs.m=3) r=>?_
 cases h0:((aO (bU s) most).2) with
 | false=>
  refine bg (y:=.u ((aO (bU s) most).1)) (N':=[.bx 87 [.d (.ro 1 (strs (bp s).1))],.bx 4 [.d (.v (.bool (((bp s).2&&false))))],.bx 79 [.fn 83 [.pt 0 0,.pt 1 0]]]) (rfl) ((by unfold pj pS;rw [h0];rfl)) ?_
  exact bf tk mo hK rfl ao [(3,[(1,.mem [0,1] (.d (.v (.string ⟨(bU s).toArray⟩))) [.bx 87 [.d (.ro 1 (strs (bp s).1))],.bx 4 [.d (.v (.bool ((bp s).2)))]]),(3,.ax (.tu [.u ((aO (bU s) most).1),.v (.bool false)]))]),(4,[(2,.may (bp s).2 (.n 0)),(3,.res (.v (.bool ((bp s).2&&false))))])] 2000 [0,1,2] r (by kernel_rfl) (U (oq s) (U ((by have k:=rH (bU s) most (Nat.le_trans hs.w (by decide)) h9 hm;rw [h0] at k;exact k):al Tryz.prog 82 [.d (.v (.string ⟨(bU s).toArray⟩)),.u most] (.tu [.u ((aO (bU s) most).1),.v (.bool false)])) (U (o1 _:(fB (Value.bool (bp s).2)==some true)=(bp s).2) (U (fun hc=>trivial:(bp s).2=true→True) (U (oC _ _:∃ b0:Bool,(Value.bool (bp s).2)=.bool b0∧(bif b0 then (bif (bp s).2 then Value.bool false else undef) else Value.bool false)=.bool ((bp s).2&&false)) trivial)))))
 | true=>
  refine bg (y:=.u ((aO (bU s) most).1)) (N':=[.bx 87 [.d (.ro 1 (strs (bp s).1))],.bx 4 [.d (.v (.bool (((bp s).2&&true))))],.bx 79 [.fn 83 [.pt 0 0,.pt 1 0]]]) (rfl) ((by unfold pj pS;rw [h0];rfl)) ?_
  exact bf tk mo hK rfl ao [(3,[(1,.mem [0,1] (.d (.v (.string ⟨(bU s).toArray⟩))) [.bx 87 [.d (.ro 1 (strs (bp s).1))],.bx 4 [.d (.v (.bool ((bp s).2)))]]),(3,.ax (.tu [.u ((aO (bU s) most).1),.v (.bool true)]))]),(4,[(2,.may (bp s).2 (.n 0)),(3,.res (.v (.bool ((bp s).2&&true))))])] 2000 [0,1,2] r (by kernel_rfl) (U (oq s) (U ((by have k:=rH (bU s) most (Nat.le_trans hs.w (by decide)) h9 hm;rw [h0] at k;exact k):al Tryz.prog 82 [.d (.v (.string ⟨(bU s).toArray⟩)),.u most] (.tu [.u ((aO (bU s) most).1),.v (.bool true)])) (U (o1 _:(fB (Value.bool (bp s).2)==some true)=(bp s).2) (U (fun hc=>trivial:(bp s).2=true→True) (U (oC _ _:∃ b0:Bool,(Value.bool (bp s).2)=.bool b0∧(bif b0 then (bif (bp s).2 then Value.bool true else undef) else Value.bool false)=.bool ((bp s).2&&true)) trivial)))))
set_option maxRecDepth 100000 in
theorem Fo (most:Nat) (s:Ws) (h9:9≤most) (hm:most<18446744073709551616) (hs:fL s):aC Tryz.prog 84 [.d (.v (.bool false)),.u most,.pt 2 0,.pt 1 0] [.bx 87 [.d (.ro 1 (strs s.1))],.bx 4 [.d (.v (.bool (s.2)))],.bx 79 [.fn 83 [.pt 0 0,.pt 1 0]]] (.u (pN false most s)) (pj (pS false most s)):=by
 refine aC.intro (by kernel_rfl) rfl rfl 23 rfl rfl fun D w0 K bs ac wd hK (ao:bs.m=3) r=>?_
 refine bg (y:=.d (.v (.int .u64 0))) (N':=[.bx 87 [.d (.ro 1 (strs s.1))],.bx 4 [.d (.v (.bool (s.2)))],.bx 79 [.fn 83 [.pt 0 0,.pt 1 0]]]) (rfl) (rfl) ?_
 exact bf tk mo hK rfl ao [] 2000 [0,1,2] r (by kernel_rfl) trivial
theorem pT (b:Bool) (most:Nat) (s:Ws) (h9:9≤most) (hm:most<18446744073709551616) (hs:fL s):aC Tryz.prog 84 [.d (.v (.bool b)),.u most,.pt 2 0,.pt 1 0] (pj s) (.u (pN b most s)) (pj (pS b most s)):=by
 cases b with
 | true=>exact GW most s h9 hm hs
 | false=>exact Fo most s h9 hm hs
def qb (x:List UInt8):Nat:=eC.findIdx fun y=>y.word==x
theorem uQ {k:Nat} (h:k<14):eC[k]?=some (af k):=lO (p:=fun k=>eC[k]?=some (af k)) rfl rfl rfl rfl rfl rfl rfl rfl rfl rfl rfl rfl rfl rfl h
theorem Fp {x:List UInt8} {k:Nat} (h:k<14) (hn:∀ j,j<k→(af j).word≠x) (e:(af k).word=x):qb x=k:=by
 have hk:=uQ h
 obtain ⟨h1,h2⟩:=List.getElem?_eq_some_iff.1 hk
 unfold qb
 rw [List.findIdx_eq h1]
 refine ⟨by rw [h2];simpa using e,fun j hj=>?_⟩
 obtain ⟨h3,h4⟩:=List.getElem?_eq_some_iff.1 (uQ (show j<14 by omega))
 rw [h4];simpa using hn j hj
theorem GX {x:List UInt8} (hn:∀ j,j<14→(af j).word≠x):qb x=14:=by
 unfold qb
 refine (List.findIdx_eq_length (xs:=eC)).2 fun y hy=>?_
 obtain ⟨j,hj,e⟩:=List.getElem_of_mem hy
 obtain ⟨h3,h4⟩:=List.getElem?_eq_some_iff.1 (uQ (show j<14 from hj))
 rw [← e,h4];simpa using hn j hj
def pK (l:List UInt8):Nat:=qb (bU (aR 32 l,true))
def fY (l:List UInt8):Ws:=((aR 32 l).tail,true)
def ew (l:List UInt8):Ws:=pS (af (pK l)).node 255 (fY l)
def ey (l:List UInt8):Ws:=pS (af (pK l)).peer 255 (ew l)
def ez (l:List UInt8):Ws:=pS (af (pK l)).n 255 (ey l)
def fv (l:List UInt8):Ws:=pS (af (pK l)).bit 65535 (ez l)
def bc (l:List UInt8):Ws:=pS (af (pK l)).inc 18446744073709551615 (fv l)
def tg (l:List UInt8):Ws:=cond (af (pK l)).body ((bp (bc l)).1,(bp (bc l)).2&&(fg (bU (bc l))).2) (bc l)
def pB (l:List UInt8):List UInt8:=cond (af (pK l)).body (fg (bU (bc l))).1 []
def oQ (l:List UInt8):aG:=⟨pK l,pN (af (pK l)).node 255 (fY l),pN (af (pK l)).peer 255 (ew l),pN (af (pK l)).n 255 (ey l),pN (af (pK l)).bit 65535 (ez l),pN (af (pK l)).inc 18446744073709551615 (fv l),pB l⟩
def ku (l:List UInt8):Bool:=decide (pK l<14)&&((tg l).2&&(tg l).1.isEmpty)
def j1 (l:List UInt8):aG×Bool:=cond (ku l) (oQ l,true) (gZ,false)
def pk (q:aG×Bool):AV:=.tu [.ag [.z q.1.kind,.z q.1.node,.z q.1.peer,.z q.1.n,.z q.1.bit,.u q.1.inc,.sl 1 (ae q.1.body).length],.d (.v (.bool q.2))]
def oR (q:aG×Bool):List ai:=[.gw 0 aj,.rw 5 1 (ae q.1.body)]
theorem r3 {l:List UInt8} (h:ku l=false):j1 l=(gZ,false):=by unfold j1;rw [h];rfl
theorem rS {l:List UInt8} (h:ku l=true):j1 l=(oQ l,true):=by unfold j1;rw [h];rfl
theorem nY {c:UInt8}:∀ {s w:List UInt8},w ∈ aR c s→w.length≤s.length
 | [],w,h=>by simp [aR] at h;subst h;exact Nat.le_refl _
 | x::r,w,h=>by
  unfold aR at h;split at h
  ·rcases List.mem_cons.1 h with rfl | h
   ·exact Nat.zero_le _
   ·exact Nat.le_succ_of_le (nY h)
  ·cases e:aR c r with
   | nil=>rw [e] at h;simp at h;subst h;simp
   | cons y ys=>
    rw [e] at h
    rcases List.mem_cons.1 h with rfl | h
    ·exact Nat.succ_le_succ (nY (by rw [e];simp))
    ·exact Nat.le_succ_of_le (nY (by rw [e];exact List.mem_cons_of_mem _ h))
theorem Af (c:UInt8) (l:List UInt8):(strs (aR c l))[0]?=some [.v (.string ⟨(bU (aR c l,true)).toArray⟩)]:=by
 have h:=gq c l
 cases e:aR c l with
 | nil=>rw [e] at h;simp at h
 | cons x r=>rfl
theorem drop_one (c:UInt8) (l:List UInt8):List.drop 1 (strs (aR c l))=strs (aR c l).tail:=by unfold strs;rw [← List.map_drop,List.drop_one]
theorem JM {l:List UInt8} (h:l.length≤1048576):fL (fY l):=fun x hx=>Nat.le_trans (nY (List.mem_of_mem_tail hx)) h
theorem Ag {l:List (List UInt8)}:decide ((0:Int)<(((strs l).length:Nat):Int))=!l.isEmpty:=by cases l with
 | nil=>rfl
 | cons x r=>simp [strs]
theorem pU {l:List UInt8} (h:pK l<14) (b:(af (pK l)).body=true):ku l=(((bp (bc l)).2&&(fg (bU (bc l))).2)&&(bp (bc l)).1.isEmpty):=by unfold ku tg;rw [b,decide_eq_true h];rfl
theorem r4 {l:List UInt8} (h:pK l<14) (b:(af (pK l)).body=false):ku l=((bc l).2&&(bc l).1.isEmpty):=by unfold ku tg;rw [b,decide_eq_true h];rfl
theorem BO {l:List (List UInt8)} (h:decide ((0:Int)<(((strs l).length:Nat):Int))=true):l.isEmpty=false:=by rw [Ag] at h;simpa using h
theorem BP {l:List (List UInt8)} (h:decide ((0:Int)<(((strs l).length:Nat):Int))=false):l.isEmpty=true:=by rw [Ag] at h;simpa using h
theorem so {z:Int} (h:0≤z) (h2:z≤65535):IntKind.i64.wrap z=z:=wi (by omega)
set_option maxRecDepth 100000 in
theorem tt (line:List UInt8) (hl:line.length≤1048576):aC Tryz.prog 48 [.d (.v (.string ⟨line.toArray⟩))] [.gw 0 aj] (pk (j1 line)) (oR (j1 line)):=by
 refine aC.intro (by kernel_rfl) rfl rfl 93 rfl rfl fun D w0 K bs ac wd hK (ao:bs.m=1) r=>?_
 refine cD (todo':=hd Tryz.f48 0) (E':=[(0,.d (.v (.string ⟨line.toArray⟩))),(2,.pt 1 0),(4,.pt 2 0),(5,.n 0)]) (M':=[.gw 0 aj,.bx 42 [.z 0,.z 0,.z 0,.z 0,.z 0,.d (.v (.int .u64 0)),.d (.v (.slice none 0 0))],.bx 87 [.d (.ro 1 (strs (aR 32 line)))]]) tk mo hK ao [(1,[(1,.ax (.ro 1 (strs (aR 32 line))))])] 2000 [0,1,2] [0,2,4,5] r (by kernel_rfl) (U (rQ 32 line hl) trivial) fun ac wd r=>?_
 refine aD.rounds (Φ:=fun (i:Nat) ac wd=>(∀ j,j<i→(af j).word≠(bU (aR 32 line,true)))∧RB D w0 K 93 bs [(0,.d (.v (.string ⟨line.toArray⟩))),(2,.pt 1 0),(4,.pt 2 0),(5,.n i)] [.gw 0 aj,.bx 42 [.z 0,.z 0,.z 0,.z 0,.z 0,.d (.v (.int .u64 0)),.d (.v (.slice none 0 0))],.bx 87 [.d (.ro 1 (strs (aR 32 line)))]] ac wd) (14) ?_ (Nat.zero_le _) ⟨(fun j hj=>absurd hj (Nat.not_lt_zero _)),r⟩
 clear r
 rintro i dv bH ac wd ⟨aq,r⟩
 cases h0:(decide ((((i:Nat):Int):Int)<14)) with
 | false=>
  have bo:=of_decide_eq_false h0
  cases h1:((((i:Nat):Int):Int)==14) with
  | false=>
   have bO:=ne_of_beq_false h1
   exact absurd (show ((i:Nat):Int)=14 by omega) bO
  | true=>
   have bO:=eq_of_beq h1
   refine bW (todo':=aft Tryz.f48 5) (E':=[(2,.pt 1 0),(4,.pt 2 0),(5,.n i),(30,.d (.v (.bool true)))]) (M':=[.gw 0 aj,.bx 42 [.z 0,.z 0,.z 0,.z 0,.z 0,.d (.v (.int .u64 0)),.d (.v (.slice none 0 0))],.bx 87 [.d (.ro 1 (strs (aR 32 line)))]]) tk mo hK ao [(3,[(1,.b false)]),(5,[(1,.b true)])] 8 [0,1,2] [2,4,5,30] r (by kernel_rfl) (U h0 (U h1 trivial)) fun ac wd r=>?_
   have hk:pK line=14:=GX fun j hj=>aq j (by omega)
   refine bW (todo':=aft Tryz.f48 6) (E':=[(2,.pt 1 0),(4,.pt 2 0),(5,.n i),(3,.d (.v (.bool false)))]) (M':=[.gw 0 aj,.bx 42 [.z 0,.z 0,.z 0,.z 0,.z 0,.d (.v (.int .u64 0)),.d (.v (.slice none 0 0))],.bx 87 [.d (.ro 1 (strs (aR 32 line)))]]) tk mo hK ao [] 3 [0,1,2] [2,4,5,3] r (by kernel_rfl) trivial fun ac wd r=>?_
   have r:=r.fk (E1:=[(2,.pt 1 0),(4,.pt 2 0),(5,.n i),(3,.d (.v (.bool false)))]) (M1:=[.gw 0 aj,.bx 42 [.z 0,.z 0,.z 0,.z 0,.z 0,.d (.v (.int .u64 0)),.d (.v (.slice none 0 0))],.bx 87 [.d (.ro 1 (strs (aR 32 line)))]]) (M2:=[.gw 0 aj,.bx 42 [.z 0,.z 0,.z 0,.z 0,.z 0,.d (.v (.int .u64 0)),.sl 3 (0)],.bx 87 [.d (.ro 1 (strs (aR 32 line)))],.rw 5 1 ([])]) [] [(1,6,5,1)] (by kernel_rfl) (by kernel_rfl)
   refine bg (y:=.tu [.ag [.z 0,.z 0,.z 0,.z 0,.z 0,.d (.v (.int .u64 0)),.sl 1 (0)],.d (.v (.bool false))]) (N':=[.gw 0 aj,.rw 5 1 ([])]) ((by rw [r3 (by unfold ku;rw [decide_eq_false (by omega)];rfl)];rfl)) ((by rw [r3 (by unfold ku;rw [decide_eq_false (by omega)];rfl)];rfl)) ?_
   exact bf tk mo hK rfl ao [] 2000 [0,3] r (by kernel_rfl) trivial
 | true=>
  have bo:=of_decide_eq_true h0
  have u0:=(mH (by omega):List.take 7 (List.drop ((i)*7) (aj:List DV))=([.v (.string ⟨((af i).word).toArray⟩),.v (.bool ((af i).node)),.v (.bool ((af i).peer)),.v (.bool ((af i).n)),.v (.bool ((af i).bit)),.v (.bool ((af i).inc)),.v (.bool ((af i).body))]:List DV))
  have u1:=(Af 32 line:(strs (aR 32 line))[0]?=some [.v (.string ⟨(bU (aR 32 line,true)).toArray⟩)])
  cases h2:((af i).word==(bU (aR 32 line,true))) with
  | false=>
   exact cD (todo':=hd Tryz.f48 0) tk mo hK ao [(3,[(1,.b true),(4,.ix (i) [.v (.string ⟨((af i).word).toArray⟩),.v (.bool ((af i).node)),.v (.bool ((af i).peer)),.v (.bool ((af i).n)),.v (.bool ((af i).bit)),.v (.bool ((af i).inc)),.v (.bool ((af i).body))]),(8,.ix (0) [.v (.string ⟨(bU (aR 32 line,true)).toArray⟩)]),(10,.b true)]),(4,[(1,.z (((i+1:Nat):Int)))])] 2000 [0,1,2] [0,2,4,5] r (by kernel_rfl) (U h0 (U (aB ((i:Nat):Int)) (U ((by omega):(i)<14) (U u0 (U (rfl:(0)=((0:Nat):Int)) (U u1 (U ((by simpa [bne] using h2):((af i).word != (bU (aR 32 line,true)))=true) (U ((wi (by omega)):IntKind.i64.wrap ((((i:Nat):Int):Int)+1)=((i+1:Nat):Int)) trivial)))))))) fun ac wd r=>bH (by omega) ac wd ⟨(fun j hj=>by rcases Nat.lt_succ_iff_lt_or_eq.1 hj with h | rfl;exact aq j h;simpa using h2),r⟩
  | true=>
   have u2:=((by simpa [bne] using h2):((af i).word != (bU (aR 32 line,true)))=false)
   cases h3:((((i:Nat):Int):Int)==14) with
   | false=>
    have dB:=ne_of_beq_false h3
    refine bW (todo':=aft Tryz.f48 5) (E':=[(2,.pt 1 0),(4,.pt 2 0),(5,.n i),(30,.d (.v (.bool false)))]) (M':=[.gw 0 aj,.bx 42 [.z 0,.z 0,.z 0,.z 0,.z 0,.d (.v (.int .u64 0)),.d (.v (.slice none 0 0))],.bx 87 [.d (.ro 1 (strs (aR 32 line)))]]) tk mo hK ao [(3,[(1,.b true),(4,.ix (i) [.v (.string ⟨((af i).word).toArray⟩),.v (.bool ((af i).node)),.v (.bool ((af i).peer)),.v (.bool ((af i).n)),.v (.bool ((af i).bit)),.v (.bool ((af i).inc)),.v (.bool ((af i).body))]),(8,.ix (0) [.v (.string ⟨(bU (aR 32 line,true)).toArray⟩)]),(10,.b false)]),(5,[(1,.b false)])] 8 [0,1,2] [2,4,5,30] r (by kernel_rfl) (U h0 (U (aB ((i:Nat):Int)) (U ((by omega):(i)<14) (U u0 (U (rfl:(0)=((0:Nat):Int)) (U u1 (U u2 (U h3 trivial)))))))) fun ac wd r=>?_
    have hk:pK line=i:=Fp (by omega) (fun j hj=>aq j hj) (by simpa using h2)
    subst hk
    have C8:=JM hl
    have nD:fL (ew line):=C8.p _ _
    have kx:fL (ey line):=nD.p _ _
    have C9:fL (ez line):=kx.p _ _
    have Da:fL (fv line):=C9.p _ _
    have O8:fL (bc line):=Da.p _ _
    refine bW (todo':=aft Tryz.f48 12) (E':=[(2,.pt 1 0),(4,.pt 2 0),(6,.pt 3 0),(7,.pt 4 0),(8,.pt 5 0),(9,.fn 84 [.pt 5 0,.pt 4 0]),(10,.pt 6 0)]) (M':=[.gw 0 aj,.bx 42 [.z 0,.z 0,.z 0,.z 0,.z 0,.d (.v (.int .u64 0)),.d (.v (.slice none 0 0))],.bx 87 [.d (.ro 1 (List.drop (1) (strs (aR 32 line))))],.bx 94 [.d (.v (.string ⟨((af (pK line)).word).toArray⟩)),.d (.v (.bool ((af (pK line)).node))),.d (.v (.bool ((af (pK line)).peer))),.d (.v (.bool ((af (pK line)).n))),.d (.v (.bool ((af (pK line)).bit))),.d (.v (.bool ((af (pK line)).inc))),.d (.v (.bool ((af (pK line)).body)))],.bx 4 [.d (.v (.bool true))],.bx 79 [.fn 83 [.pt 2 0,.pt 4 0]],.bx 42 [.n (pK line),.z 0,.z 0,.z 0,.z 0,.d (.v (.int .u64 0)),.d (.v (.slice none 0 0))]]) tk mo hK ao [(7,[(1,.ix (pK line) [.v (.string ⟨((af (pK line)).word).toArray⟩),.v (.bool ((af (pK line)).node)),.v (.bool ((af (pK line)).peer)),.v (.bool ((af (pK line)).n)),.v (.bool ((af (pK line)).bit)),.v (.bool ((af (pK line)).inc)),.v (.bool ((af (pK line)).body))])]),(8,[(1,.n2 (0) (1))])] 14 [0,1,2,3,4,5,6] [2,4,6,7,8,9,10] r (by kernel_rfl) (U (aB ((pK line:Nat):Int)) (U ((by omega):(pK line)<14) (U (mH (by omega):List.take 7 (List.drop ((pK line)*7) (aj:List DV))=([.v (.string ⟨((af (pK line)).word).toArray⟩),.v (.bool ((af (pK line)).node)),.v (.bool ((af (pK line)).peer)),.v (.bool ((af (pK line)).n)),.v (.bool ((af (pK line)).bit)),.v (.bool ((af (pK line)).inc)),.v (.bool ((af (pK line)).body))]:List DV)) (U (rfl:(1:Int)=((1:Nat):Int)) (U ((by have:=gq 32 line;simp [strs];omega):(1)≤(strs (aR 32 line):List (List DV)).length) trivial))))) fun ac wd r=>?_
    have r:=r.fk (E1:=[(2,.pt 1 0),(4,.pt 2 0),(6,.pt 3 0),(7,.pt 4 0),(8,.pt 5 0),(9,.fn 84 [.pt 5 0,.pt 4 0]),(10,.pt 6 0)]) (M1:=[.gw 0 aj,.bx 42 [.z 0,.z 0,.z 0,.z 0,.z 0,.d (.v (.int .u64 0)),.d (.v (.slice none 0 0))],.bx 87 [.d (.ro 1 (List.drop (1) (strs (aR 32 line))))],.bx 94 [.d (.v (.string ⟨((af (pK line)).word).toArray⟩)),.d (.v (.bool ((af (pK line)).node))),.d (.v (.bool ((af (pK line)).peer))),.d (.v (.bool ((af (pK line)).n))),.d (.v (.bool ((af (pK line)).bit))),.d (.v (.bool ((af (pK line)).inc))),.d (.v (.bool ((af (pK line)).body)))],.bx 4 [.d (.v (.bool true))],.bx 79 [.fn 83 [.pt 2 0,.pt 4 0]],.bx 42 [.n (pK line),.z 0,.z 0,.z 0,.z 0,.d (.v (.int .u64 0)),.d (.v (.slice none 0 0))]]) (M2:=[.gw 0 aj,.bx 42 [.z 0,.z 0,.z 0,.z 0,.z 0,.d (.v (.int .u64 0)),.d (.v (.slice none 0 0))],.bx 87 [.d (.ro 1 (List.drop (1) (strs (aR 32 line))))],.bx 94 [.d (.v (.string ⟨((af (pK line)).word).toArray⟩)),.d (.v (.bool ((af (pK line)).node))),.d (.v (.bool ((af (pK line)).peer))),.d (.v (.bool ((af (pK line)).n))),.d (.v (.bool ((af (pK line)).bit))),.d (.v (.bool ((af (pK line)).inc))),.d (.v (.bool ((af (pK line)).body)))],.bx 4 [.d (.v (.bool true))],.bx 79 [.fn 83 [.pt 2 0,.pt 4 0]],.bx 42 [.n (pK line),.z 0,.z 0,.z 0,.z 0,.d (.v (.int .u64 0)),.sl 7 (0)],.rw 5 1 ([])]) [] [(6,6,5,1)] (by kernel_rfl) (by kernel_rfl)
    refine bW (todo':=aft Tryz.f48 18) (E':=[(2,.pt 1 0),(4,.pt 2 0),(7,.pt 4 0),(8,.pt 5 0),(10,.pt 6 0),(71,.d (.v (.bool ((af (pK line)).body))))]) (M':=[.gw 0 aj,.bx 42 [.z 0,.z 0,.z 0,.z 0,.z 0,.d (.v (.int .u64 0)),.d (.v (.slice none 0 0))],.bx 87 [.d (.ro 1 (strs (bc line).1))],.bx 94 [.d (.v (.string ⟨((af (pK line)).word).toArray⟩)),.d (.v (.bool ((af (pK line)).node))),.d (.v (.bool ((af (pK line)).peer))),.d (.v (.bool ((af (pK line)).n))),.d (.v (.bool ((af (pK line)).bit))),.d (.v (.bool ((af (pK line)).inc))),.d (.v (.bool ((af (pK line)).body)))],.bx 4 [.d (.v (.bool ((bc line).2)))],.bx 79 [.fn 83 [.pt 2 0,.pt 4 0]],.bx 42 [.n (pK line),.n (pN (af (pK line)).node 255 (fY line)),.n (pN (af (pK line)).peer 255 (ew line)),.n (pN (af (pK line)).n 255 (ey line)),.n (pN (af (pK line)).bit 65535 (ez line)),.u (pN (af (pK line)).inc 18446744073709551615 (fv line)),.sl 7 (0)],.rw 5 1 ([])]) tk mo hK ao [(13,[(3,.mem [2,4,5] (.u (pN (af (pK line)).node 255 (fY line))) [.bx 87 [.d (.ro 1 (strs (ew line).1))],.bx 4 [.d (.v (.bool ((ew line).2)))],.bx 79 [.fn 83 [.pt 0 0,.pt 1 0]]]),(4,.z (((pN (af (pK line)).node 255 (fY line):Nat):Int)))]),(14,[(3,.mem [2,4,5] (.u (pN (af (pK line)).peer 255 (ew line))) [.bx 87 [.d (.ro 1 (strs (ey line).1))],.bx 4 [.d (.v (.bool ((ey line).2)))],.bx 79 [.fn 83 [.pt 0 0,.pt 1 0]]]),(4,.z (((pN (af (pK line)).peer 255 (ew line):Nat):Int)))]),(15,[(3,.mem [2,4,5] (.u (pN (af (pK line)).n 255 (ey line))) [.bx 87 [.d (.ro 1 (strs (ez line).1))],.bx 4 [.d (.v (.bool ((ez line).2)))],.bx 79 [.fn 83 [.pt 0 0,.pt 1 0]]]),(4,.z (((pN (af (pK line)).n 255 (ey line):Nat):Int)))]),(16,[(3,.mem [2,4,5] (.u (pN (af (pK line)).bit 65535 (ez line))) [.bx 87 [.d (.ro 1 (strs (fv line).1))],.bx 4 [.d (.v (.bool ((fv line).2)))],.bx 79 [.fn 83 [.pt 0 0,.pt 1 0]]]),(4,.z (((pN (af (pK line)).bit 65535 (ez line):Nat):Int)))]),(17,[(3,.mem [2,4,5] (.u (pN (af (pK line)).inc 18446744073709551615 (fv line))) [.bx 87 [.d (.ro 1 (strs (bc line).1))],.bx 4 [.d (.v (.bool ((bc line).2)))],.bx 79 [.fn 83 [.pt 0 0,.pt 1 0]]])])] 13 [0,1,2,3,4,5,6,7] [2,4,7,8,10,71] r (by kernel_rfl) (U ((by rw [drop_one];exact pT _ _ (fY line) (by decide) (by decide) C8):aC Tryz.prog 84 [.d (.v (.bool ((af (pK line)).node))),.d (.v (.int .u64 255)),.pt 2 0,.pt 1 0] [.bx 87 [.d (.ro 1 (List.drop (1) (strs (aR 32 line))))],.bx 4 [.d (.v (.bool true))],.bx 79 [.fn 83 [.pt 0 0,.pt 1 0]]] (.u (pN (af (pK line)).node 255 (fY line))) [.bx 87 [.d (.ro 1 (strs (ew line).1))],.bx 4 [.d (.v (.bool ((ew line).2)))],.bx 79 [.fn 83 [.pt 0 0,.pt 1 0]]]) (U ((so (by omega) (by have:=sn (af (pK line)).node (fY line) (most:=255) (by decide);omega)):IntKind.i64.wrap (((pN (af (pK line)).node 255 (fY line):Nat):Int))=((pN (af (pK line)).node 255 (fY line):Nat):Int)) (U (pT _ _ (ew line) (by decide) (by decide) nD:aC Tryz.prog 84 [.d (.v (.bool ((af (pK line)).peer))),.d (.v (.int .u64 255)),.pt 2 0,.pt 1 0] [.bx 87 [.d (.ro 1 (strs (ew line).1))],.bx 4 [.d (.v (.bool ((ew line).2)))],.bx 79 [.fn 83 [.pt 0 0,.pt 1 0]]] (.u (pN (af (pK line)).peer 255 (ew line))) [.bx 87 [.d (.ro 1 (strs (ey line).1))],.bx 4 [.d (.v (.bool ((ey line).2)))],.bx 79 [.fn 83 [.pt 0 0,.pt 1 0]]]) (U ((so (by omega) (by have:=sn (af (pK line)).peer (ew line) (most:=255) (by decide);omega)):IntKind.i64.wrap (((pN (af (pK line)).peer 255 (ew line):Nat):Int))=((pN (af (pK line)).peer 255 (ew line):Nat):Int)) (U (pT _ _ (ey line) (by decide) (by decide) kx:aC Tryz.prog 84 [.d (.v (.bool ((af (pK line)).n))),.d (.v (.int .u64 255)),.pt 2 0,.pt 1 0] [.bx 87 [.d (.ro 1 (strs (ey line).1))],.bx 4 [.d (.v (.bool ((ey line).2)))],.bx 79 [.fn 83 [.pt 0 0,.pt 1 0]]] (.u (pN (af (pK line)).n 255 (ey line))) [.bx 87 [.d (.ro 1 (strs (ez line).1))],.bx 4 [.d (.v (.bool ((ez line).2)))],.bx 79 [.fn 83 [.pt 0 0,.pt 1 0]]]) (U ((so (by omega) (by have:=sn (af (pK line)).n (ey line) (most:=255) (by decide);omega)):IntKind.i64.wrap (((pN (af (pK line)).n 255 (ey line):Nat):Int))=((pN (af (pK line)).n 255 (ey line):Nat):Int)) (U (pT _ _ (ez line) (by decide) (by decide) C9:aC Tryz.prog 84 [.d (.v (.bool ((af (pK line)).bit))),.d (.v (.int .u64 65535)),.pt 2 0,.pt 1 0] [.bx 87 [.d (.ro 1 (strs (ez line).1))],.bx 4 [.d (.v (.bool ((ez line).2)))],.bx 79 [.fn 83 [.pt 0 0,.pt 1 0]]] (.u (pN (af (pK line)).bit 65535 (ez line))) [.bx 87 [.d (.ro 1 (strs (fv line).1))],.bx 4 [.d (.v (.bool ((fv line).2)))],.bx 79 [.fn 83 [.pt 0 0,.pt 1 0]]]) (U ((so (by omega) (by have:=sn (af (pK line)).bit (ez line) (most:=65535) (by decide);omega)):IntKind.i64.wrap (((pN (af (pK line)).bit 65535 (ez line):Nat):Int))=((pN (af (pK line)).bit 65535 (ez line):Nat):Int)) (U (pT _ _ (fv line) (by decide) (by decide) Da:aC Tryz.prog 84 [.d (.v (.bool ((af (pK line)).inc))),.d (.v (.int .u64 18446744073709551615)),.pt 2 0,.pt 1 0] [.bx 87 [.d (.ro 1 (strs (fv line).1))],.bx 4 [.d (.v (.bool ((fv line).2)))],.bx 79 [.fn 83 [.pt 0 0,.pt 1 0]]] (.u (pN (af (pK line)).inc 18446744073709551615 (fv line))) [.bx 87 [.d (.ro 1 (strs (bc line).1))],.bx 4 [.d (.v (.bool ((bc line).2)))],.bx 79 [.fn 83 [.pt 0 0,.pt 1 0]]]) trivial))))))))) fun ac wd r=>?_
    suffices qQ:ku line=false→∀ ac wd,RB D w0 K 93 bs [(2,.pt 1 0),(3,.d (.v (.bool false)))] [.gw 0 aj,.bx 42 [.z 0,.z 0,.z 0,.z 0,.z 0,.d (.v (.int .u64 0)),.d (.v (.slice none 0 0))]] ac wd→aD Tryz.prog 48 (aft Tryz.f48 22) (eH D w0 K bs (pk (j1 line)) (oR (j1 line))) ac wd by
     cases h4:((af (pK line)).body) with
     | false=>
      have r:=r.cast (E':=[(2,.pt 1 0),(4,.pt 2 0),(7,.pt 4 0),(8,.pt 5 0),(10,.pt 6 0),(71,.d (.v (.bool false)))]) (M':=[.gw 0 aj,.bx 42 [.z 0,.z 0,.z 0,.z 0,.z 0,.d (.v (.int .u64 0)),.d (.v (.slice none 0 0))],.bx 87 [.d (.ro 1 (strs (bc line).1))],.bx 94 [.d (.v (.string ⟨((af (pK line)).word).toArray⟩)),.d (.v (.bool ((af (pK line)).node))),.d (.v (.bool ((af (pK line)).peer))),.d (.v (.bool ((af (pK line)).n))),.d (.v (.bool ((af (pK line)).bit))),.d (.v (.bool ((af (pK line)).inc))),.d (.v (.bool false))],.bx 4 [.d (.v (.bool ((bc line).2)))],.bx 79 [.fn 83 [.pt 2 0,.pt 4 0]],.bx 42 [.n (pK line),.n (pN (af (pK line)).node 255 (fY line)),.n (pN (af (pK line)).peer 255 (ew line)),.n (pN (af (pK line)).n 255 (ey line)),.n (pN (af (pK line)).bit 65535 (ez line)),.u (pN (af (pK line)).inc 18446744073709551615 (fv line)),.sl 7 (0)],.rw 5 1 ([])]) (by rw [h4]) (by rw [h4])
      cases h5:((bc line).2) with
      | false=>
       have r:=r.cast (M':=[.gw 0 aj,.bx 42 [.z 0,.z 0,.z 0,.z 0,.z 0,.d (.v (.int .u64 0)),.d (.v (.slice none 0 0))],.bx 87 [.d (.ro 1 (strs (bc line).1))],.bx 94 [.d (.v (.string ⟨((af (pK line)).word).toArray⟩)),.d (.v (.bool ((af (pK line)).node))),.d (.v (.bool ((af (pK line)).peer))),.d (.v (.bool ((af (pK line)).n))),.d (.v (.bool ((af (pK line)).bit))),.d (.v (.bool ((af (pK line)).inc))),.d (.v (.bool false))],.bx 4 [.d (.v (.bool false))],.bx 79 [.fn 83 [.pt 2 0,.pt 4 0]],.bx 42 [.n (pK line),.n (pN (af (pK line)).node 255 (fY line)),.n (pN (af (pK line)).peer 255 (ew line)),.n (pN (af (pK line)).n 255 (ey line)),.n (pN (af (pK line)).bit 65535 (ez line)),.u (pN (af (pK line)).inc 18446744073709551615 (fv line)),.sl 7 (0)],.rw 5 1 ([])]) rfl (by rw [h5])
       refine bW (todo':=aft Tryz.f48 22) (E':=[(2,.pt 1 0),(3,.d (.v (.bool false)))]) (M':=[.gw 0 aj,.bx 42 [.z 0,.z 0,.z 0,.z 0,.z 0,.d (.v (.int .u64 0)),.d (.v (.slice none 0 0))]]) tk mo hK ao [] 8 [0,1] [2,3] r (by kernel_rfl) trivial fun ac wd r=>?_
       exact qQ (by rw [r4 (by omega) h4];simp_all) ac wd (r.cast rfl rfl)
      | true=>
       have r:=r.cast (M':=[.gw 0 aj,.bx 42 [.z 0,.z 0,.z 0,.z 0,.z 0,.d (.v (.int .u64 0)),.d (.v (.slice none 0 0))],.bx 87 [.d (.ro 1 (strs (bc line).1))],.bx 94 [.d (.v (.string ⟨((af (pK line)).word).toArray⟩)),.d (.v (.bool ((af (pK line)).node))),.d (.v (.bool ((af (pK line)).peer))),.d (.v (.bool ((af (pK line)).n))),.d (.v (.bool ((af (pK line)).bit))),.d (.v (.bool ((af (pK line)).inc))),.d (.v (.bool false))],.bx 4 [.d (.v (.bool true))],.bx 79 [.fn 83 [.pt 2 0,.pt 4 0]],.bx 42 [.n (pK line),.n (pN (af (pK line)).node 255 (fY line)),.n (pN (af (pK line)).peer 255 (ew line)),.n (pN (af (pK line)).n 255 (ey line)),.n (pN (af (pK line)).bit 65535 (ez line)),.u (pN (af (pK line)).inc 18446744073709551615 (fv line)),.sl 7 (0)],.rw 5 1 ([])]) rfl (by rw [h5])
       cases h6:(decide ((0:Int)<(((strs (bc line).1).length:Nat):Int))) with
       | false=>
        have fX:=of_decide_eq_false h6
        have hE:=BP ‹decide ((0:Int)<(((strs (bc line).1).length:Nat):Int))=false›
        refine bg (y:=.tu [.ag [.n (pK line),.n (pN (af (pK line)).node 255 (fY line)),.n (pN (af (pK line)).peer 255 (ew line)),.n (pN (af (pK line)).n 255 (ey line)),.n (pN (af (pK line)).bit 65535 (ez line)),.u (pN (af (pK line)).inc 18446744073709551615 (fv line)),.sl 1 (0)],.d (.v (.bool true))]) (N':=[.gw 0 aj,.rw 5 1 ([])]) ((by rw [rS (by rw [r4 (by omega) h4];simp_all)];simp [pk,oR,oQ,pB,ae,h4])) ((by rw [rS (by rw [r4 (by omega) h4];simp_all)];simp [pk,oR,oQ,pB,ae,h4])) ?_
        exact bf tk mo hK rfl ao [(21,[(5,.b false)])] 2000 [0,7] r (by kernel_rfl) (U h6 trivial)
       | true=>
        have fX:=of_decide_eq_true h6
        have hE:=BO ‹decide ((0:Int)<(((strs (bc line).1).length:Nat):Int))=true›
        refine bW (todo':=aft Tryz.f48 22) (E':=[(2,.pt 1 0),(3,.d (.v (.bool false)))]) (M':=[.gw 0 aj,.bx 42 [.z 0,.z 0,.z 0,.z 0,.z 0,.d (.v (.int .u64 0)),.d (.v (.slice none 0 0))]]) tk mo hK ao [(21,[(5,.b true)])] 8 [0,1] [2,3] r (by kernel_rfl) (U h6 trivial) fun ac wd r=>?_
        exact qQ (by rw [r4 (by omega) h4];simp_all) ac wd (r.cast rfl rfl)
     | true=>
      have r:=r.cast (E':=[(2,.pt 1 0),(4,.pt 2 0),(7,.pt 4 0),(8,.pt 5 0),(10,.pt 6 0),(71,.d (.v (.bool true)))]) (M':=[.gw 0 aj,.bx 42 [.z 0,.z 0,.z 0,.z 0,.z 0,.d (.v (.int .u64 0)),.d (.v (.slice none 0 0))],.bx 87 [.d (.ro 1 (strs (bc line).1))],.bx 94 [.d (.v (.string ⟨((af (pK line)).word).toArray⟩)),.d (.v (.bool ((af (pK line)).node))),.d (.v (.bool ((af (pK line)).peer))),.d (.v (.bool ((af (pK line)).n))),.d (.v (.bool ((af (pK line)).bit))),.d (.v (.bool ((af (pK line)).inc))),.d (.v (.bool true))],.bx 4 [.d (.v (.bool ((bc line).2)))],.bx 79 [.fn 83 [.pt 2 0,.pt 4 0]],.bx 42 [.n (pK line),.n (pN (af (pK line)).node 255 (fY line)),.n (pN (af (pK line)).peer 255 (ew line)),.n (pN (af (pK line)).n 255 (ey line)),.n (pN (af (pK line)).bit 65535 (ez line)),.u (pN (af (pK line)).inc 18446744073709551615 (fv line)),.sl 7 (0)],.rw 5 1 ([])]) (by rw [h4]) (by rw [h4])
      cases h7:((fg (bU (bc line))).2) with
      | false=>
       have u3:=((by have k:=yK (bU (bc line));rw [h7] at k;exact k):al Tryz.prog 85 [.d (.v (.string ⟨(bU (bc line)).toArray⟩))] (.tu [.em 5 1 (ae (fg (bU (bc line))).1),.v (.bool false)]))
       have u4:=(o1 _:(fB (Value.bool (bp (bc line)).2)==some true)=(bp (bc line)).2)
       have u5:=(oC _ _:∃ b0:Bool,(Value.bool (bp (bc line)).2)=.bool b0∧(bif b0 then (bif (bp (bc line)).2 then Value.bool false else undef) else Value.bool false)=.bool ((bp (bc line)).2&&false))
       cases h8:(((bp (bc line)).2&&false)) with
       | false=>
        refine bW (todo':=aft Tryz.f48 22) (E':=[(2,.pt 1 0),(3,.d (.v (.bool false)))]) (M':=[.gw 0 aj,.bx 42 [.z 0,.z 0,.z 0,.z 0,.z 0,.d (.v (.int .u64 0)),.d (.v (.slice none 0 0))]]) tk mo hK ao [(19,[(1,.mem [2,4] (.d (.v (.string ⟨(bU (bc line)).toArray⟩))) [.bx 87 [.d (.ro 1 (strs (bp (bc line)).1))],.bx 4 [.d (.v (.bool ((bp (bc line)).2)))]]),(2,.ax (.tu [.em 5 1 (ae (fg (bU (bc line))).1),.v (.bool false)]))]),(20,[(3,.may (bp (bc line)).2 (.n 0)),(4,.res (.v (.bool ((bp (bc line)).2&&false))))]),(21,[(1,.b true)])] 10 [0,1] [2,3] r (by kernel_rfl) (U (oq (bc line)) (U u3 (U u4 (U (fun hc=>trivial:(bp (bc line)).2=true→True) (U u5 (U ((by rw [h8];rfl):(!(((bp (bc line)).2&&false)))=true) trivial)))))) fun ac wd r=>?_
        exact qQ (by rw [pU (by omega) h4];simp_all) ac wd (r.cast rfl rfl)
       | true=>
        exact absurd h8 (by simp)
      | true=>
       have u6:=((by have k:=yK (bU (bc line));rw [h7] at k;exact k):al Tryz.prog 85 [.d (.v (.string ⟨(bU (bc line)).toArray⟩))] (.tu [.em 5 1 (ae (fg (bU (bc line))).1),.v (.bool true)]))
       have u7:=(o1 _:(fB (Value.bool (bp (bc line)).2)==some true)=(bp (bc line)).2)
       have u8:=(oC _ _:∃ b0:Bool,(Value.bool (bp (bc line)).2)=.bool b0∧(bif b0 then (bif (bp (bc line)).2 then Value.bool true else undef) else Value.bool false)=.bool ((bp (bc line)).2&&true))
       cases h9:(((bp (bc line)).2&&true)) with
       | false=>
        refine bW (todo':=aft Tryz.f48 22) (E':=[(2,.pt 1 0),(3,.d (.v (.bool false)))]) (M':=[.gw 0 aj,.bx 42 [.z 0,.z 0,.z 0,.z 0,.z 0,.d (.v (.int .u64 0)),.d (.v (.slice none 0 0))]]) tk mo hK ao [(19,[(1,.mem [2,4] (.d (.v (.string ⟨(bU (bc line)).toArray⟩))) [.bx 87 [.d (.ro 1 (strs (bp (bc line)).1))],.bx 4 [.d (.v (.bool ((bp (bc line)).2)))]]),(2,.ax (.tu [.em 5 1 (ae (fg (bU (bc line))).1),.v (.bool true)]))]),(20,[(3,.may (bp (bc line)).2 (.n 0)),(4,.res (.v (.bool ((bp (bc line)).2&&true))))]),(21,[(1,.b true)])] 10 [0,1] [2,3] r (by kernel_rfl) (U (oq (bc line)) (U u6 (U u7 (U (fun hc=>trivial:(bp (bc line)).2=true→True) (U u8 (U ((by rw [h9];rfl):(!(((bp (bc line)).2&&true)))=true) trivial)))))) fun ac wd r=>?_
        exact qQ (by rw [pU (by omega) h4];simp_all) ac wd (r.cast rfl rfl)
       | true=>
        cases cn:(decide ((0:Int)<(((strs (bp (bc line)).1).length:Nat):Int))) with
        | false=>
         have k4:=of_decide_eq_false cn
         have hE:=BP ‹decide ((0:Int)<(((strs (bp (bc line)).1).length:Nat):Int))=false›
         refine bg (y:=.tu [.ag [.n (pK line),.n (pN (af (pK line)).node 255 (fY line)),.n (pN (af (pK line)).peer 255 (ew line)),.n (pN (af (pK line)).n 255 (ey line)),.n (pN (af (pK line)).bit 65535 (ez line)),.u (pN (af (pK line)).inc 18446744073709551615 (fv line)),.sl 1 ((ae (fg (bU (bc line))).1).length)],.d (.v (.bool true))]) (N':=[.gw 0 aj,.rw 5 1 (ae (fg (bU (bc line))).1)]) ((by rw [rS (by rw [pU (by omega) h4];simp_all)];simp [pk,oR,oQ,pB,ae,h4])) ((by rw [rS (by rw [pU (by omega) h4];simp_all)];simp [pk,oR,oQ,pB,ae,h4])) ?_
         exact bf tk mo hK rfl ao [(19,[(1,.mem [2,4] (.d (.v (.string ⟨(bU (bc line)).toArray⟩))) [.bx 87 [.d (.ro 1 (strs (bp (bc line)).1))],.bx 4 [.d (.v (.bool ((bp (bc line)).2)))]]),(2,.ax (.tu [.em 5 1 (ae (fg (bU (bc line))).1),.v (.bool true)]))]),(20,[(3,.may (bp (bc line)).2 (.n 0)),(4,.res (.v (.bool ((bp (bc line)).2&&true))))]),(21,[(1,.b false),(5,.b false)])] 2000 [0,8] r (by kernel_rfl) (U (oq (bc line)) (U u6 (U u7 (U (fun hc=>trivial:(bp (bc line)).2=true→True) (U u8 (U ((by rw [h9];rfl):(!(((bp (bc line)).2&&true)))=false) (U cn trivial)))))))
        | true=>
         have k4:=of_decide_eq_true cn
         have hE:=BO ‹decide ((0:Int)<(((strs (bp (bc line)).1).length:Nat):Int))=true›
         refine bW (todo':=aft Tryz.f48 22) (E':=[(2,.pt 1 0),(3,.d (.v (.bool false)))]) (M':=[.gw 0 aj,.bx 42 [.z 0,.z 0,.z 0,.z 0,.z 0,.d (.v (.int .u64 0)),.d (.v (.slice none 0 0))]]) tk mo hK ao [(19,[(1,.mem [2,4] (.d (.v (.string ⟨(bU (bc line)).toArray⟩))) [.bx 87 [.d (.ro 1 (strs (bp (bc line)).1))],.bx 4 [.d (.v (.bool ((bp (bc line)).2)))]]),(2,.ax (.tu [.em 5 1 (ae (fg (bU (bc line))).1),.v (.bool true)]))]),(20,[(3,.may (bp (bc line)).2 (.n 0)),(4,.res (.v (.bool ((bp (bc line)).2&&true))))]),(21,[(1,.b false),(5,.b true)])] 10 [0,1] [2,3] r (by kernel_rfl) (U (oq (bc line)) (U u6 (U u7 (U (fun hc=>trivial:(bp (bc line)).2=true→True) (U u8 (U ((by rw [h9];rfl):(!(((bp (bc line)).2&&true)))=false) (U cn trivial))))))) fun ac wd r=>?_
         exact qQ (by rw [pU (by omega) h4];simp_all) ac wd (r.cast rfl rfl)
    intro hJ ac wd r
    have r:=r.fk (E1:=[(2,.pt 1 0),(3,.d (.v (.bool false)))]) (M1:=[.gw 0 aj,.bx 42 [.z 0,.z 0,.z 0,.z 0,.z 0,.d (.v (.int .u64 0)),.d (.v (.slice none 0 0))]]) (M2:=[.gw 0 aj,.bx 42 [.z 0,.z 0,.z 0,.z 0,.z 0,.d (.v (.int .u64 0)),.sl 2 (0)],.rw 5 1 ([])]) [] [(1,6,5,1)] (by kernel_rfl) (by kernel_rfl)
    refine bg (y:=.tu [.ag [.z 0,.z 0,.z 0,.z 0,.z 0,.d (.v (.int .u64 0)),.sl 1 (0)],.d (.v (.bool false))]) (N':=[.gw 0 aj,.rw 5 1 ([])]) ((by rw [r3 hJ];rfl)) ((by rw [r3 hJ];rfl)) ?_
    exact bf tk mo hK rfl ao [] 2000 [0,2] r (by kernel_rfl) trivial
   | true=>
    have dB:=eq_of_beq h3
    exact absurd dB (by omega)
end Go.Proofs.YtcnpikbbmbombaaGreatDoor
namespace Go.Proofs.YtcnpikbbmbombaaGreatDoor
open Go.RowKit
def jQ (w:List UInt8):Int:=(((aO w 255).1:Nat):Int)
def cL (w:List UInt8):List UInt8×List UInt8:=if 0<w.count 45 then (bJ 45 w,ff 45 w) else (w,[])
abbrev qR:=List (Int×Int)×List Int×Bool×Bool
def kc (s:qR) (w:List UInt8):qR:=
 if s.2.2.1=true then (s.1,s.2.1++[jQ w],true,s.2.2.2&&(aO w 255).2)
 else if w=[58] then (s.1,s.2.1,true,s.2.2.2)
 else (s.1++[(jQ (cL w).1,jQ (cL w).2)],s.2.1,false,s.2.2.2&&(aO (cL w).1 255).2&&(aO (cL w).2 255).2)
theorem uR {ws:List (List UInt8)} {i:Nat} {w:List UInt8} {s0 s s2:qR} (g:ws[i]?=some w) (h:(ws.take i).foldl kc s0=s) (e:kc s w=s2):(ws.take (i+1)).foldl kc s0=s2:=by
 rw [List.take_add_one,g,Option.toList_some,List.foldl_append,h];exact e
theorem NU (L:List (Int×Int)) (H:List Int) (g:Bool) (w:List UInt8):kc (L,H,true,g) w=(L,H++[(((aO w 255).1:Nat):Int)],true,g&&(aO w 255).2):=rfl
theorem NV {L:List (Int×Int)} {H:List Int} {g:Bool} {w:List UInt8} (h:(w==([58]:List UInt8))=true):kc (L,H,false,g) w=(L,H,true,g):=by
 have:w=[58]:=by simpa using h
 subst this;rfl
theorem NW {L:List (Int×Int)} {H:List Int} {g:Bool} {w:List UInt8} (h:(w==([58]:List UInt8))=false):kc (L,H,false,g) w=(L++[((((aO (cL w).1 255).1:Nat):Int),(((aO (cL w).2 255).1:Nat):Int))],H,false,(g&&(aO (cL w).1 255).2)&&(aO (cL w).2 255).2):=by
 have hw:w≠[58]:=by intro e;subst e;simp at h
 unfold kc;rw [if_neg (by simp),if_neg hw];rfl
theorem Iz (c:UInt8) (s:List UInt8):(bJ c s).length≤s.length:=by
 have:=congrArg List.length (pz (c:=c) s);simp at this;omega
theorem IA (c:UInt8) (s:List UInt8):(ff c s).length≤s.length:=by unfold ff;simp
theorem uS (w:List UInt8):(cL w).1.length≤w.length∧(cL w).2.length≤w.length:=by
 unfold cL;split
 ·exact ⟨Iz _ _,IA _ _⟩
 ·exact ⟨Nat.le_refl _,Nat.zero_le _⟩
theorem JN (w:List UInt8) (hl:w.length≤1048576):al Tryz.prog 79 [.d (.v (.string ⟨w.toArray⟩)),.d (.v (.string ⟨[45].toArray⟩))] (.tu [.v (.string ⟨(cL w).1.toArray⟩),.v (.string ⟨(cL w).2.toArray⟩),.v (.bool (decide (0<w.count 45)))]):=by
 by_cases h:0<w.count 45
 ·unfold cL;rw [if_pos h,decide_eq_true h];exact pM 45 w (by omega) h
 ·unfold cL;rw [if_neg h,decide_eq_false h];exact JJ 45 w (by omega) (by omega)
def dZ (l:List UInt8):List (List UInt8):=(aR 32 l).drop 2
def cG (l:List UInt8):List UInt8:=(aR 32 l).getD 1 []
def mD (l:List UInt8):qR:=(dZ l).foldl kc ([],[],false,(aO (cG l) 255).2)
def mc (l:List UInt8):bN:=⟨jQ (cG l),(mD l).1,(mD l).2.1⟩
noncomputable def jn (l:List UInt8):Bool:=(decide (3≤(aR 32 l).length)&&(bU (aR 32 l,true)==[119,111,114,108,100]))&&(((mD l).2.2.2&&(mD l).2.2.1)&&bS (mc l))
noncomputable def mE (l:List UInt8):bN×Bool:=cond (jn l) (mc l,true) (⟨0,[],[]⟩,false)
def yq (q:bN×Bool):AV:=.tu [.ag [.z q.1.au,.sl 0 q.1.ah.length,.sl 1 q.1.homes.length],.d (.v (.bool q.2))]
def xG (q:bN×Bool):List ai:=[.rw 60 2 (ah q.1.ah),.rw 3 1 (ints q.1.homes)]
theorem ou {l:List UInt8} (h:jn l=false):mE l=(⟨0,[],[]⟩,false):=by unfold mE;rw [h];rfl
theorem uT {l:List UInt8} (h:jn l=true):mE l=(mc l,true):=by unfold mE;rw [h];rfl
theorem Bl {l:List UInt8} (h:(aR 32 l).length<3):jn l=false:=by unfold jn;rw [decide_eq_false (by omega)];rfl
theorem Bm {l:List UInt8} (h:(bU (aR 32 l,true)==[119,111,114,108,100])=false):jn l=false:=by unfold jn;rw [h,Bool.and_false];rfl
theorem oE {l:List UInt8} {i:Nat} {s:qR} (hi:(dZ l).length≤i) (h:((dZ l).take i).foldl kc ([],[],false,(aO (cG l) 255).2)=s):mD l=s:=by rw [List.take_of_length_le hi] at h;exact h
theorem sq {l:List UInt8} {L:List (Int×Int)} {H:List Int} {b g:Bool} (e:mD l=(L,H,b,g)) (h:((g&&b)&&bS ⟨jQ (cG l),L,H⟩)=false):jn l=false:=by unfold jn mc;rw [e];simp only [h,Bool.and_false]
theorem vJ {l:List UInt8} {L:List (Int×Int)} {H:List Int} (e:mD l=(L,H,true,true)) (h3:3≤(aR 32 l).length) (hw:(bU (aR 32 l,true)==[119,111,114,108,100])=true) (h:bS ⟨jQ (cG l),L,H⟩=true):jn l=true:=by unfold jn mc;rw [e,hw,decide_eq_true h3];simp only [h];rfl
theorem uh {l:List UInt8} {i:Nat} {x:List UInt8} (h:(dZ l)[i]?=some x):(List.drop 2 (strs (aR 32 l)))[i]?=some [.v (.string ⟨x.toArray⟩)]:=by unfold strs;rw [← List.map_drop,List.getElem?_map];unfold dZ at h;rw [h];rfl
theorem Fq {l:List UInt8} (h:3≤(aR 32 l).length):(strs (aR 32 l))[1]?=some [.v (.string ⟨(cG l).toArray⟩)]:=by
 unfold strs cG;rw [List.getElem?_map,List.getD_eq_getElem?_getD,List.getElem?_eq_getElem (by omega)];rfl
theorem IB (l:List UInt8):(dZ l).length=(aR 32 l).length-2:=by unfold dZ;simp
theorem Bn {l:List UInt8} {i:Nat} {x:List UInt8} (hl:l.length≤1048576) (h:(dZ l)[i]?=some x):x.length≤1048576:=Nat.le_trans (nY (List.mem_of_mem_drop (List.mem_of_getElem? h))) hl
theorem JO {l:List UInt8} (hl:l.length≤1048576):(cG l).length≤1048576:=by
 unfold cG;rw [List.getD_eq_getElem?_getD]
 cases h:(aR 32 l)[1]? with
 | none=>exact Nat.zero_le _
 | some x=>exact Nat.le_trans (nY (List.mem_of_getElem? h)) hl
set_option maxRecDepth 100000 in
theorem r5 (x:List UInt8) (g:Bool) (hl:x.length≤1048576):aC Tryz.prog 81 [.d (.v (.string ⟨x.toArray⟩)),.pt 0 0] [.bx 4 [.d (.v (.bool g))]] (.n (aO x 255).1) ([.bx 4 [.d (.v (.bool (g&&(aO x 255).2)))]]):=by
 refine aC.intro (by kernel_rfl) rfl rfl 17 rfl rfl fun D w0 K bs ac wd hK (ao:bs.m=1) r=>?_
 cases h0:((aO x 255).2) with
 | false=>
  refine bg (y:=.n ((aO x 255).1)) (N':=[.bx 4 [.d (.v (.bool ((g&&false))))]]) (rfl) (rfl) ?_
  exact bf tk mo hK rfl ao [(1,[(1,.ax (.tu [.u ((aO x 255).1),.v (.bool false)]))]),(2,[(2,.may g (.n 0)),(3,.res (.v (.bool (g&&false))))]),(3,[(1,.z ((((aO x 255).1:Nat):Int)))])] 2000 [0] r (by kernel_rfl) (U ((by have k:=rH x 255 (by omega) (by omega) (by omega);rw [h0] at k;exact k):al Tryz.prog 82 [.d (.v (.string ⟨x.toArray⟩)),.d (.v (.int .u64 255))] (.tu [.u ((aO x 255).1),.v (.bool false)])) (U (o1 _:(fB (Value.bool g)==some true)=g) (U (fun hc=>trivial:g=true→True) (U (oC _ _:∃ b0:Bool,(Value.bool g)=.bool b0∧(bif b0 then (bif g then Value.bool false else undef) else Value.bool false)=.bool (g&&false)) (U ((wi (by have:=uP x (most:=255) (by omega);omega)):IntKind.i64.wrap ((((aO x 255).1:Nat):Int))=(((aO x 255).1:Nat):Int)) trivial)))))
 | true=>
  refine bg (y:=.n ((aO x 255).1)) (N':=[.bx 4 [.d (.v (.bool ((g&&true))))]]) (rfl) (rfl) ?_
  exact bf tk mo hK rfl ao [(1,[(1,.ax (.tu [.u ((aO x 255).1),.v (.bool true)]))]),(2,[(2,.may g (.n 0)),(3,.res (.v (.bool (g&&true))))]),(3,[(1,.z ((((aO x 255).1:Nat):Int)))])] 2000 [0] r (by kernel_rfl) (U ((by have k:=rH x 255 (by omega) (by omega) (by omega);rw [h0] at k;exact k):al Tryz.prog 82 [.d (.v (.string ⟨x.toArray⟩)),.d (.v (.int .u64 255))] (.tu [.u ((aO x 255).1),.v (.bool true)])) (U (o1 _:(fB (Value.bool g)==some true)=g) (U (fun hc=>trivial:g=true→True) (U (oC _ _:∃ b0:Bool,(Value.bool g)=.bool b0∧(bif b0 then (bif g then Value.bool true else undef) else Value.bool false)=.bool (g&&true)) (U ((wi (by have:=uP x (most:=255) (by omega);omega)):IntKind.i64.wrap ((((aO x 255).1:Nat):Int))=(((aO x 255).1:Nat):Int)) trivial)))))
set_option maxRecDepth 100000 in
theorem Dv (line:List UInt8) (hl:line.length≤1048576):aC Tryz.prog 47 [.d (.v (.string ⟨line.toArray⟩))] [] (yq (mE line)) (xG (mE line)):=by
 refine aC.intro (by kernel_rfl) rfl rfl 85 rfl rfl fun D w0 K bs ac wd hK (ao:bs.m=0) r=>?_
 have u0:=((by first | rfl | (simp [strs];done) | (simp [strs,dZ];done) | (simp [strs];omega)):(((strs (aR 32 line)).length:Nat):Int)=(((aR 32 line).length:Nat):Int))
 cases h0:(decide (((((aR 32 line).length:Nat):Int):Int)<3)) with
 | false=>
  have bo:=of_decide_eq_false h0
  have u1:=(Af 32 line:(strs (aR 32 line))[0]?=some [.v (.string ⟨(bU (aR 32 line,true)).toArray⟩)])
  cases h1:((bU (aR 32 line,true))==([119,111,114,108,100]:List UInt8)) with
  | false=>
   refine bW (todo':=aft Tryz.f47 3) (E':=[(2,.pt 0 0),(3,.d (.v (.bool false))),(4,.d (.ro 1 (strs (aR 32 line))))]) (M':=[.bx 25 [.z 0,.d (.v (.slice none 0 0)),.d (.v (.slice none 0 0))]]) tk mo hK ao [(1,[(1,.ax (.ro 1 (strs (aR 32 line))))]),(2,[(1,.z ((((aR 32 line).length:Nat):Int))),(2,.b false),(5,.ix (0) [.v (.string ⟨(bU (aR 32 line,true)).toArray⟩)]),(7,.b true)])] 10 [0] [2,3,4] r (by kernel_rfl) (U (rQ 32 line hl) (U u0 (U h0 (U (rfl:(0)=((0:Nat):Int)) (U u1 (U ((by simpa [bne] using h1):((bU (aR 32 line,true)) != ([119,111,114,108,100]:List UInt8))=true) trivial)))))) fun ac wd r=>?_
   have r:=r.fk (E1:=[(2,.pt 0 0),(3,.d (.v (.bool false))),(4,.d (.ro 1 (strs (aR 32 line))))]) (M1:=[.bx 25 [.z 0,.d (.v (.slice none 0 0)),.d (.v (.slice none 0 0))]]) (M2:=[.bx 25 [.z 0,.sl 1 (0),.sl 2 (0)],.rw 60 2 ([]),.rw 3 1 ([])]) [] [(0,1,60,2),(0,2,3,1)] (by kernel_rfl) (by kernel_rfl)
   refine bg (y:=.tu [.ag [.z 0,.sl 0 (0),.sl 1 (0)],.d (.v (.bool false))]) (N':=[.rw 60 2 ([]),.rw 3 1 ([])]) ((by rw [ou (Bm h1)];rfl)) ((by rw [ou (Bm h1)];rfl)) ?_
   exact bf tk mo hK rfl ao [] 2000 [1,2] r (by kernel_rfl) trivial
  | true=>
   refine bW (todo':=aft Tryz.f47 7) (E':=[(2,.pt 0 0),(3,.d (.v (.bool false))),(4,.d (.ro 1 (strs (aR 32 line)))),(5,.pt 1 0),(6,.fn 81 [.pt 1 0]),(7,.pt 2 0),(8,.d (.v (.bool false)))]) (M':=[.bx 25 [.z 0,.d (.v (.slice none 0 0)),.d (.v (.slice none 0 0))],.bx 4 [.d (.v (.bool ((true&&(aO (cG line) 255).2))))],.bx 25 [.n ((aO (cG line) 255).1),.d (.v (.slice none 0 0)),.d (.v (.slice none 0 0))]]) tk mo hK ao [(1,[(1,.ax (.ro 1 (strs (aR 32 line))))]),(2,[(1,.z ((((aR 32 line).length:Nat):Int))),(2,.b false),(5,.ix (0) [.v (.string ⟨(bU (aR 32 line,true)).toArray⟩)]),(7,.b false)]),(6,[(2,.ix (1) [.v (.string ⟨(cG line).toArray⟩)]),(4,.mem [1] (.n ((aO (cG line) 255).1)) [.bx 4 [.d (.v (.bool ((true&&(aO (cG line) 255).2))))]])])] 17 [0,1,2] [2,3,4,5,6,7,8] r (by kernel_rfl) (U (rQ 32 line hl) (U u0 (U h0 (U (rfl:(0)=((0:Nat):Int)) (U u1 (U ((by simpa [bne] using h1):((bU (aR 32 line,true)) != ([119,111,114,108,100]:List UInt8))=false) (U (rfl:(1)=((1:Nat):Int)) (U (Fq (by omega):(strs (aR 32 line))[1]?=some [.v (.string ⟨(cG line).toArray⟩)]) (U (r5 (cG line) true (JO hl)) trivial))))))))) fun ac wd r=>?_
   suffices nK:jn line=false→∀ ac wd,RB D w0 K 85 bs [(2,.pt 0 0),(3,.d (.v (.bool false)))] [.bx 25 [.z 0,.d (.v (.slice none 0 0)),.d (.v (.slice none 0 0))]] ac wd→aD Tryz.prog 47 (aft Tryz.f47 19) (eH D w0 K bs (yq (mE line)) (xG (mE line))) ac wd by
    refine cD (todo':=hd Tryz.f47 0) (E':=[(2,.pt 0 0),(5,.pt 1 0),(6,.fn 81 [.pt 1 0]),(7,.pt 2 0),(8,.d (.v (.bool false))),(34,.d (.ro 1 (List.drop (2) (strs (aR 32 line))))),(35,.n ((dZ line).length)),(36,.z 0)]) (M':=[.bx 25 [.z 0,.d (.v (.slice none 0 0)),.d (.v (.slice none 0 0))],.bx 4 [.d (.v (.bool ((true&&(aO (cG line) 255).2))))],.bx 25 [.n ((aO (cG line) 255).1),.d (.v (.slice none 0 0)),.d (.v (.slice none 0 0))]]) tk mo hK ao [(8,[(1,.n2 (0) (2)),(2,.z ((((dZ line).length:Nat):Int)))])] 2000 [0,1,2] [2,5,6,7,8,34,35,36] r (by kernel_rfl) (U (rfl:(2:Int)=((2:Nat):Int)) (U ((by have:=gq 32 line;simp [strs];omega):(2)≤(strs (aR 32 line):List (List DV)).length) (U ((by first | rfl | (simp [strs];done) | (simp [strs,dZ];done) | (simp [strs];omega)):(((List.drop (2) (strs (aR 32 line))).length:Nat):Int)=(((dZ line).length:Nat):Int)) trivial))) fun ac wd r=>?_
    refine aD.rounds (Φ:=fun (i:Nat) ac wd=>∃ L:List (Int×Int),∃ H:List Int,∃ bh:Bool,∃ g:Bool,(i≤(dZ line).length∧((dZ line).take i).foldl kc ([],[],false,(aO (cG line) 255).2)=(L,H,bh,g)∧L.length≤i∧H.length≤i)∧RB D w0 K 85 bs [(2,.pt 0 0),(5,.pt 1 0),(6,.fn 81 [.pt 1 0]),(7,.pt 2 0),(8,.d (.v (.bool bh))),(34,.d (.ro 1 (List.drop 2 (strs (aR 32 line))))),(35,.n ((dZ line).length)),(36,.n i)] [.bx 25 [.z 0,.d (.v (.slice none 0 0)),.d (.v (.slice none 0 0))],.bx 4 [.d (.v (.bool g))],.bx 25 [.n ((aO (cG line) 255).1),.sl 3 (L.length),.sl 4 (H.length)],.rw 60 2 (ah L),.rw 3 1 (ints H)] ac wd) ((dZ line).length) ?_ (Nat.zero_le _) ⟨[],[],false,(aO (cG line) 255).2,⟨Nat.zero_le _,rfl,Nat.le_refl _,Nat.le_refl _⟩,(r.fk (E1:=[(2,.pt 0 0),(5,.pt 1 0),(6,.fn 81 [.pt 1 0]),(7,.pt 2 0),(8,.d (.v (.bool false))),(34,.d (.ro 1 (List.drop (2) (strs (aR 32 line))))),(35,.n ((dZ line).length)),(36,.z 0)]) (M2:=[.bx 25 [.z 0,.d (.v (.slice none 0 0)),.d (.v (.slice none 0 0))],.bx 4 [.d (.v (.bool ((true&&(aO (cG line) 255).2))))],.bx 25 [.n ((aO (cG line) 255).1),.sl 3 (0),.sl 4 (0)],.rw 60 2 ([]),.rw 3 1 ([])]) (M1:=[.bx 25 [.z 0,.d (.v (.slice none 0 0)),.d (.v (.slice none 0 0))],.bx 4 [.d (.v (.bool ((true&&(aO (cG line) 255).2))))],.bx 25 [.n ((aO (cG line) 255).1),.d (.v (.slice none 0 0)),.d (.v (.slice none 0 0))]]) [] [(2,1,60,2),(2,2,3,1)] (by kernel_rfl) (by kernel_rfl)).cast rfl rfl⟩
    clear r
    rintro i dv bH ac wd ⟨L,H,bh,g,aq,r⟩
    have O9:=IB line
    have dM:=gq 32 line
    have CJ:=List.count_le_length (a:=(32:UInt8)) (l:=line)
    have Db:L.length≤9223372036854775807:=by omega
    have Dc:H.length≤9223372036854775807:=by omega
    cases bh with
    | false=>
     cases h2:(decide ((((i:Nat):Int):Int)<(((dZ line).length:Nat):Int))) with
     | false=>
      have cQ:=of_decide_eq_false h2
      cases h3:(g) with
      | false=>
       refine bW (todo':=aft Tryz.f47 19) (E':=[(2,.pt 0 0),(3,.d (.v (.bool false)))]) (M':=[.bx 25 [.z 0,.d (.v (.slice none 0 0)),.d (.v (.slice none 0 0))]]) tk mo hK ao [(9,[(0,.b false)]),(18,[(1,.b true)])] 11 [0] [2,3] r (by kernel_rfl) (U h2 (U ((by rw [h3];rfl):(!(g))=true) trivial)) fun ac wd r=>?_
       exact nK (sq (oE (by omega) aq.2.1) (by simp [h3])) ac wd (r.cast rfl rfl)
      | true=>
       refine bW (todo':=aft Tryz.f47 19) (E':=[(2,.pt 0 0),(3,.d (.v (.bool false)))]) (M':=[.bx 25 [.z 0,.d (.v (.slice none 0 0)),.d (.v (.slice none 0 0))]]) tk mo hK ao [(9,[(0,.b false)]),(18,[(1,.b false)])] 11 [0] [2,3] r (by kernel_rfl) (U h2 (U ((by rw [h3];rfl):(!(g))=false) trivial)) fun ac wd r=>?_
       exact nK (sq (oE (by omega) aq.2.1) (by simp [h3])) ac wd (r.cast rfl rfl)
     | true=>
      have cQ:=of_decide_eq_true h2
      obtain ⟨cy,kK⟩:∃ x_,(dZ line)[i]?=some x_:=⟨_,List.getElem?_eq_getElem (by omega)⟩
      have Dd:=Bn hl kK
      cases h4:(cy==([58]:List UInt8)) with
      | false=>
       exact cD (todo':=hd Tryz.f47 0) (E':=[(2,.pt 0 0),(5,.pt 1 0),(6,.fn 81 [.pt 1 0]),(7,.pt 2 0),(8,.d (.v (.bool false))),(34,.d (.ro 1 (List.drop 2 (strs (aR 32 line))))),(35,.n ((dZ line).length)),(36,.n (i+1))]) (M':=[.bx 25 [.z 0,.d (.v (.slice none 0 0)),.d (.v (.slice none 0 0))],.bx 4 [.d (.v (.bool (((g&&(aO ((cL cy).1) 255).2)&&(aO ((cL cy).2) 255).2))))],.bx 25 [.n ((aO (cG line) 255).1),.sl 3 (L.length+(1)),.sl 4 (H.length)],.rw 60 2 (ah L++[[.n ((aO ((cL cy).1) 255).1),.n ((aO ((cL cy).2) 255).1)]]),.rw 3 1 (ints H)]) tk mo hK ao [(9,[(0,.b true)]),(10,[(0,.ix (i) [.v (.string ⟨cy.toArray⟩)])]),(11,[(1,.ax (.tu [.v (.string ⟨((cL cy).1).toArray⟩),.v (.string ⟨((cL cy).2).toArray⟩),.v (.bool (decide (0<cy.count 45)))]))]),(12,[(4,.mem [1] (.n ((aO ((cL cy).1) 255).1)) [.bx 4 [.d (.v (.bool ((g&&(aO ((cL cy).1) 255).2))))]]),(7,.mem [1] (.n ((aO ((cL cy).2) 255).1)) [.bx 4 [.d (.v (.bool (((g&&(aO ((cL cy).1) 255).2)&&(aO ((cL cy).2) 255).2))))]])]),(15,[(1,.b false)]),(17,[(0,.z (((i+1:Nat):Int)))])] 2000 [0,1,2,3,4] [2,5,6,7,8,34,35,36] r (by kernel_rfl) (U h2 (U (aB ((i:Nat):Int)) (U (uh kK) (U h4 (U (JN cy Dd) (U (r5 ((cL cy).1) g (by have:=uS cy;omega)) (U (r5 ((cL cy).2) (g&&(aO ((cL cy).1) 255).2) (by have:=uS cy;omega)) (U ((by first | rfl | (simp [ah,ints];done) | (simp [ah,ints];omega)):(L.length)=(ah L:List (List DV)).length) (U ((by first | rfl | (simp [ah,ints];done) | (simp [ah,ints];omega)):(1)=([[.n ((aO ((cL cy).1) 255).1),.n ((aO ((cL cy).2) 255).1)]]:List (List DV)).length) (U ((by first | omega | (simp [ah,ints];done) | (simp [ah,ints];omega)):(2*((L.length)+(1))+192)*16≤281474976710656) (U ((by first | omega | (simp [ah,ints];done) | (simp [ah,ints];omega)):(L.length)+(1)<4611686018427387904) (U ((by simp [aA,AV.one,aW,ae,ah,ints,steps,strs]):aA ([[.n ((aO ((cL cy).1) 255).1),.n ((aO ((cL cy).2) 255).1)]])) (U ((wi (by omega)):IntKind.i64.wrap ((((i:Nat):Int):Int)+1)=((i+1:Nat):Int)) trivial))))))))))))) fun ac wd r=>bH (by omega) ac wd ⟨(L++[((((aO (cL cy).1 255).1:Nat):Int),(((aO (cL cy).2 255).1:Nat):Int))]),H,false,((g&&(aO (cL cy).1 255).2)&&(aO (cL cy).2 255).2),⟨by omega,uR kK aq.2.1 (NW h4),by simp;omega,by omega⟩,r.cast rfl (by simp [ah,ints])⟩
      | true=>
       exact cD (todo':=hd Tryz.f47 0) (E':=[(2,.pt 0 0),(5,.pt 1 0),(6,.fn 81 [.pt 1 0]),(7,.pt 2 0),(8,.d (.v (.bool true))),(34,.d (.ro 1 (List.drop 2 (strs (aR 32 line))))),(35,.n ((dZ line).length)),(36,.n (i+1))]) (M':=[.bx 25 [.z 0,.d (.v (.slice none 0 0)),.d (.v (.slice none 0 0))],.bx 4 [.d (.v (.bool g))],.bx 25 [.n ((aO (cG line) 255).1),.sl 3 (L.length),.sl 4 (H.length)],.rw 60 2 (ah L),.rw 3 1 (ints H)]) tk mo hK ao [(9,[(0,.b true)]),(10,[(0,.ix (i) [.v (.string ⟨cy.toArray⟩)])]),(15,[(1,.b true)]),(17,[(0,.z (((i+1:Nat):Int)))])] 2000 [0,1,2,3,4] [2,5,6,7,8,34,35,36] r (by kernel_rfl) (U h2 (U (aB ((i:Nat):Int)) (U (uh kK) (U h4 (U ((wi (by omega)):IntKind.i64.wrap ((((i:Nat):Int):Int)+1)=((i+1:Nat):Int)) trivial))))) fun ac wd r=>bH (by omega) ac wd ⟨L,H,true,g,⟨by omega,uR kK aq.2.1 (NV h4),by omega,by omega⟩,r.cast rfl (by simp [ah,ints])⟩
    | true=>
     cases h5:(decide ((((i:Nat):Int):Int)<(((dZ line).length:Nat):Int))) with
     | false=>
      have eO:=of_decide_eq_false h5
      cases h6:(g) with
      | false=>
       refine bW (todo':=aft Tryz.f47 19) (E':=[(2,.pt 0 0),(3,.d (.v (.bool false)))]) (M':=[.bx 25 [.z 0,.d (.v (.slice none 0 0)),.d (.v (.slice none 0 0))]]) tk mo hK ao [(9,[(0,.b false)]),(18,[(1,.b true)])] 11 [0] [2,3] r (by kernel_rfl) (U h5 (U ((by rw [h6];rfl):(!(g))=true) trivial)) fun ac wd r=>?_
       exact nK (sq (oE (by omega) aq.2.1) (by simp [h6])) ac wd (r.cast rfl rfl)
      | true=>
       cases h7:(bS ⟨jQ (cG line),L,H⟩) with
       | false=>
        refine bW (todo':=aft Tryz.f47 19) (E':=[(2,.pt 0 0),(3,.d (.v (.bool false)))]) (M':=[.bx 25 [.z 0,.d (.v (.slice none 0 0)),.d (.v (.slice none 0 0))]]) tk mo hK ao [(9,[(0,.b false)]),(18,[(1,.b false),(8,.call [.ag [.n ((aO (cG line) 255).1),.d (.ro 2 (ah L)),.d (.ro 1 (ints H))]] (.v (.bool false)))])] 11 [0] [2,3] r (by kernel_rfl) (U h5 (U ((by rw [h6];rfl):(!(g))=false) (U ((by have k:=p5 ⟨jQ (cG line),L,H⟩ Db Dc;rw [h7] at k;exact k):al Tryz.prog 21 [.ag [.n ((aO (cG line) 255).1),.d (.ro 2 (ah L)),.d (.ro 1 (ints H))]] (.v (.bool false))) (U ((iG _):fS (.v (.bool false))) (U (mA (.n ((aO (cG line) 255).1))) (U (eY (2)) (U ((by first | rfl | (simp [ah,ints];done) | (simp [ah,ints];omega)):(L.length)=(ah L:List (List DV)).length) (U ((by first | exact mF _ | exact mG _):cN (ah L)=ah L) (U (eY (1)) (U ((by first | rfl | (simp [ah,ints];done) | (simp [ah,ints];omega)):(H.length)=(ints H).length) (U ((by first | exact mF _ | exact mG _):cN (ints H)=ints H) trivial))))))))))) fun ac wd r=>?_
        exact nK (sq (oE (by omega) aq.2.1) (by simp [h6,h7])) ac wd (r.cast rfl rfl)
       | true=>
        refine bg (y:=.tu [.ag [.n ((aO (cG line) 255).1),.sl 0 (L.length),.sl 1 (H.length)],.d (.v (.bool true))]) (N':=[.rw 60 2 (ah L),.rw 3 1 (ints H)]) ((by have e:=oE (by omega) aq.2.1;rw [h6] at e;rw [uT (vJ e (by omega) h1 h7)];unfold yq mc;rw [e]<;>rfl)) ((by have e:=oE (by omega) aq.2.1;rw [h6] at e;rw [uT (vJ e (by omega) h1 h7)];unfold xG mc;rw [e]<;>rfl)) ?_
        exact bf tk mo hK rfl ao [(9,[(0,.b false)]),(18,[(1,.b false),(8,.call [.ag [.n ((aO (cG line) 255).1),.d (.ro 2 (ah L)),.d (.ro 1 (ints H))]] (.v (.bool true)))])] 2000 [3,4] r (by kernel_rfl) (U h5 (U ((by rw [h6];rfl):(!(g))=false) (U ((by have k:=p5 ⟨jQ (cG line),L,H⟩ Db Dc;rw [h7] at k;exact k):al Tryz.prog 21 [.ag [.n ((aO (cG line) 255).1),.d (.ro 2 (ah L)),.d (.ro 1 (ints H))]] (.v (.bool true))) (U ((iG _):fS (.v (.bool true))) (U (mA (.n ((aO (cG line) 255).1))) (U (eY (2)) (U ((by first | rfl | (simp [ah,ints];done) | (simp [ah,ints];omega)):(L.length)=(ah L:List (List DV)).length) (U ((by first | exact mF _ | exact mG _):cN (ah L)=ah L) (U (eY (1)) (U ((by first | rfl | (simp [ah,ints];done) | (simp [ah,ints];omega)):(H.length)=(ints H).length) (U ((by first | exact mF _ | exact mG _):cN (ints H)=ints H) trivial)))))))))))
     | true=>
      have eO:=of_decide_eq_true h5
      obtain ⟨cy,kK⟩:∃ x_,(dZ line)[i]?=some x_:=⟨_,List.getElem?_eq_getElem (by omega)⟩
      have Dd:=Bn hl kK
      exact cD (todo':=hd Tryz.f47 0) (E':=[(2,.pt 0 0),(5,.pt 1 0),(6,.fn 81 [.pt 1 0]),(7,.pt 2 0),(8,.d (.v (.bool true))),(34,.d (.ro 1 (List.drop 2 (strs (aR 32 line))))),(35,.n ((dZ line).length)),(36,.n (i+1))]) (M':=[.bx 25 [.z 0,.d (.v (.slice none 0 0)),.d (.v (.slice none 0 0))],.bx 4 [.d (.v (.bool ((g&&(aO cy 255).2))))],.bx 25 [.n ((aO (cG line) 255).1),.sl 3 (L.length),.sl 4 (H.length+(1))],.rw 60 2 (ah L),.rw 3 1 (ints H++[[.n ((aO cy 255).1)]])]) tk mo hK ao [(9,[(0,.b true)]),(10,[(0,.ix (i) [.v (.string ⟨cy.toArray⟩)])]),(14,[(4,.mem [1] (.n ((aO cy 255).1)) [.bx 4 [.d (.v (.bool ((g&&(aO cy 255).2))))]])]),(17,[(0,.z (((i+1:Nat):Int)))])] 2000 [0,1,2,3,4] [2,5,6,7,8,34,35,36] r (by kernel_rfl) (U h5 (U (aB ((i:Nat):Int)) (U (uh kK) (U (r5 cy g (by have:=uS cy;omega)) (U ((by first | rfl | (simp [ah,ints];done) | (simp [ah,ints];omega)):(H.length)=(ints H).length) (U ((by first | rfl | (simp [ah,ints];done) | (simp [ah,ints];omega)):(1)=([[.n ((aO cy 255).1)]]:List (List DV)).length) (U ((by first | omega | (simp [ah,ints];done) | (simp [ah,ints];omega)):(2*((H.length)+(1))+192)*8≤281474976710656) (U ((by first | omega | (simp [ah,ints];done) | (simp [ah,ints];omega)):(H.length)+(1)<4611686018427387904) (U ((by simp [aA,AV.one,aW,ae,ah,ints,steps,strs]):aA ([[.n ((aO cy 255).1)]])) (U ((wi (by omega)):IntKind.i64.wrap ((((i:Nat):Int):Int)+1)=((i+1:Nat):Int)) trivial)))))))))) fun ac wd r=>bH (by omega) ac wd ⟨L,(H++[(((aO cy 255).1:Nat):Int)]),true,(g&&(aO cy 255).2),⟨by omega,uR kK aq.2.1 (NU L H g cy),by omega,by simp;omega⟩,r.cast rfl (by simp [ah,ints])⟩
   intro hJ ac wd r
   have r:=r.fk (E1:=[(2,.pt 0 0),(3,.d (.v (.bool false)))]) (M1:=[.bx 25 [.z 0,.d (.v (.slice none 0 0)),.d (.v (.slice none 0 0))]]) (M2:=[.bx 25 [.z 0,.sl 1 (0),.sl 2 (0)],.rw 60 2 ([]),.rw 3 1 ([])]) [] [(0,1,60,2),(0,2,3,1)] (by kernel_rfl) (by kernel_rfl)
   refine bg (y:=.tu [.ag [.z 0,.sl 0 (0),.sl 1 (0)],.d (.v (.bool false))]) (N':=[.rw 60 2 ([]),.rw 3 1 ([])]) ((by rw [ou hJ];rfl)) ((by rw [ou hJ];rfl)) ?_
   exact bf tk mo hK rfl ao [] 2000 [1,2] r (by kernel_rfl) trivial
 | true=>
  have bo:=of_decide_eq_true h0
  refine bW (todo':=aft Tryz.f47 3) (E':=[(2,.pt 0 0),(3,.d (.v (.bool false))),(4,.d (.ro 1 (strs (aR 32 line))))]) (M':=[.bx 25 [.z 0,.d (.v (.slice none 0 0)),.d (.v (.slice none 0 0))]]) tk mo hK ao [(1,[(1,.ax (.ro 1 (strs (aR 32 line))))]),(2,[(1,.z ((((aR 32 line).length:Nat):Int))),(2,.b true)])] 10 [0] [2,3,4] r (by kernel_rfl) (U (rQ 32 line hl) (U u0 (U h0 trivial))) fun ac wd r=>?_
  have r:=r.fk (E1:=[(2,.pt 0 0),(3,.d (.v (.bool false))),(4,.d (.ro 1 (strs (aR 32 line))))]) (M1:=[.bx 25 [.z 0,.d (.v (.slice none 0 0)),.d (.v (.slice none 0 0))]]) (M2:=[.bx 25 [.z 0,.sl 1 (0),.sl 2 (0)],.rw 60 2 ([]),.rw 3 1 ([])]) [] [(0,1,60,2),(0,2,3,1)] (by kernel_rfl) (by kernel_rfl)
  refine bg (y:=.tu [.ag [.z 0,.sl 0 (0),.sl 1 (0)],.d (.v (.bool false))]) (N':=[.rw 60 2 ([]),.rw 3 1 ([])]) ((by rw [ou (Bl (by omega))];rfl)) ((by rw [ou (Bl (by omega))];rfl)) ?_
  exact bf tk mo hK rfl ao [] 2000 [1,2] r (by kernel_rfl) trivial
end Go.Proofs.YtcnpikbbmbombaaGreatDoor
namespace Go.Proofs.YtcnpikbbmbombaaGreatDoor
open Go.RowKit
theorem NX:aC Tryz.prog 47 [.d (.v (.string ⟨([119,111,114,108,100,32,49,32,58,32,49]:List UInt8).toArray⟩))] [] (.tu [.ag [.z 1,.sl 0 0,.sl 1 1],.d (.v (.bool true))]) [.rw 60 2 (ah []),.rw 3 1 (ints [1])]:=by
 have hM:bS ⟨1,[],[1]⟩=true:=wG ⟨by decide,fun i x h=>by simp at h,fun i k x o h=>by simp at h,fun i x h=>by
  cases i with
  | zero=>simp at h;subst h;exact ⟨by decide,by decide⟩
  | succ i=>simp at h⟩
 have h:=Dv [119,111,114,108,100,32,49,32,58,32,49] (by decide)
 have e:mD [119,111,114,108,100,32,49,32,58,32,49]=([],[1],true,true):=by kernel_rfl
 rw [uT (vJ e (by decide) (by decide) (by rw [show jQ (cG [119,111,114,108,100,32,49,32,58,32,49])=1 by kernel_rfl];exact hM))] at h
 unfold mc at h
 rw [e,show jQ (cG [119,111,114,108,100,32,49,32,58,32,49])=1 by kernel_rfl] at h;exact h
theorem NY:aC Tryz.prog 48 [.d (.v (.string ⟨([116,105,99,107,32,48]:List UInt8).toArray⟩))] [.gw 0 aj] (.tu [.ag [.z 1,.z 0,.z 0,.z 0,.z 0,.u 0,.sl 1 0],.d (.v (.bool true))]) [.gw 0 aj,.rw 5 1 []]:=by
 have h:=tt [116,105,99,107,32,48] (by decide)
 rw [show j1 [116,105,99,107,32,48]=(⟨1,0,0,0,0,0,[]⟩,true) by kernel_rfl] at h;exact h
theorem NZ:aC Tryz.prog 48 [.d (.v (.string ⟨([106,111,105,110,32,50]:List UInt8).toArray⟩))] [.gw 0 aj] (.tu [.ag [.z 12,.z 2,.z 0,.z 0,.z 0,.u 0,.sl 1 0],.d (.v (.bool true))]) [.gw 0 aj,.rw 5 1 []]:=by
 have h:=tt [106,111,105,110,32,50] (by decide)
 rw [show j1 [106,111,105,110,32,50]=(⟨12,2,0,0,0,0,[]⟩,true) by kernel_rfl] at h;exact h
theorem N0:aC Tryz.prog 48 [.d (.v (.string ⟨([115,101,110,100,32,50,32,54,56,54,57]:List UInt8).toArray⟩))] [.gw 0 aj] (.tu [.ag [.z 10,.z 2,.z 0,.z 0,.z 0,.u 0,.sl 1 2],.d (.v (.bool true))]) [.gw 0 aj,.rw 5 1 (ae [104,105])]:=by
 have h:=tt [115,101,110,100,32,50,32,54,56,54,57] (by decide)
 rw [show j1 [115,101,110,100,32,50,32,54,56,54,57]=(⟨10,2,0,0,0,0,[104,105]⟩,true) by kernel_rfl] at h;exact h
theorem JP:al Tryz.prog 79 [.d (.v (.string ⟨([119,111,114,108,100,32,49,32,58,32,49,10,116,105,99,107,32,48,10,106,111,105,110,32,50,10,115,101,110,100,32,50,32,54,56,54,57,10]:List UInt8).toArray⟩)),.d (.v (.string ⟨[10].toArray⟩))] (.tu [.v (.string ⟨([119,111,114,108,100,32,49,32,58,32,49]:List UInt8).toArray⟩),.v (.string ⟨([116,105,99,107,32,48,10,106,111,105,110,32,50,10,115,101,110,100,32,50,32,54,56,54,57,10]:List UInt8).toArray⟩),.v (.bool true)]):=by
 have h:=pM 10 [119,111,114,108,100,32,49,32,58,32,49,10,116,105,99,107,32,48,10,106,111,105,110,32,50,10,115,101,110,100,32,50,32,54,56,54,57,10] (by decide) (by decide)
 rw [show bJ 10 [119,111,114,108,100,32,49,32,58,32,49,10,116,105,99,107,32,48,10,106,111,105,110,32,50,10,115,101,110,100,32,50,32,54,56,54,57,10]=[119,111,114,108,100,32,49,32,58,32,49] from by decide,show ff 10 [119,111,114,108,100,32,49,32,58,32,49,10,116,105,99,107,32,48,10,106,111,105,110,32,50,10,115,101,110,100,32,50,32,54,56,54,57,10]=[116,105,99,107,32,48,10,106,111,105,110,32,50,10,115,101,110,100,32,50,32,54,56,54,57,10] from by decide] at h;exact h
theorem JQ:al Tryz.prog 79 [.d (.v (.string ⟨([116,105,99,107,32,48,10,106,111,105,110,32,50,10,115,101,110,100,32,50,32,54,56,54,57,10]:List UInt8).toArray⟩)),.d (.v (.string ⟨[10].toArray⟩))] (.tu [.v (.string ⟨([116,105,99,107,32,48]:List UInt8).toArray⟩),.v (.string ⟨([106,111,105,110,32,50,10,115,101,110,100,32,50,32,54,56,54,57,10]:List UInt8).toArray⟩),.v (.bool true)]):=by
 have h:=pM 10 [116,105,99,107,32,48,10,106,111,105,110,32,50,10,115,101,110,100,32,50,32,54,56,54,57,10] (by decide) (by decide)
 rw [show bJ 10 [116,105,99,107,32,48,10,106,111,105,110,32,50,10,115,101,110,100,32,50,32,54,56,54,57,10]=[116,105,99,107,32,48] from by decide,show ff 10 [116,105,99,107,32,48,10,106,111,105,110,32,50,10,115,101,110,100,32,50,32,54,56,54,57,10]=[106,111,105,110,32,50,10,115,101,110,100,32,50,32,54,56,54,57,10] from by decide] at h;exact h
theorem JR:al Tryz.prog 79 [.d (.v (.string ⟨([106,111,105,110,32,50,10,115,101,110,100,32,50,32,54,56,54,57,10]:List UInt8).toArray⟩)),.d (.v (.string ⟨[10].toArray⟩))] (.tu [.v (.string ⟨([106,111,105,110,32,50]:List UInt8).toArray⟩),.v (.string ⟨([115,101,110,100,32,50,32,54,56,54,57,10]:List UInt8).toArray⟩),.v (.bool true)]):=by
 have h:=pM 10 [106,111,105,110,32,50,10,115,101,110,100,32,50,32,54,56,54,57,10] (by decide) (by decide)
 rw [show bJ 10 [106,111,105,110,32,50,10,115,101,110,100,32,50,32,54,56,54,57,10]=[106,111,105,110,32,50] from by decide,show ff 10 [106,111,105,110,32,50,10,115,101,110,100,32,50,32,54,56,54,57,10]=[115,101,110,100,32,50,32,54,56,54,57,10] from by decide] at h;exact h
theorem JS:al Tryz.prog 79 [.d (.v (.string ⟨([115,101,110,100,32,50,32,54,56,54,57,10]:List UInt8).toArray⟩)),.d (.v (.string ⟨[10].toArray⟩))] (.tu [.v (.string ⟨([115,101,110,100,32,50,32,54,56,54,57]:List UInt8).toArray⟩),.v (.string ⟨([]:List UInt8).toArray⟩),.v (.bool true)]):=by
 have h:=pM 10 [115,101,110,100,32,50,32,54,56,54,57,10] (by decide) (by decide)
 rw [show bJ 10 [115,101,110,100,32,50,32,54,56,54,57,10]=[115,101,110,100,32,50,32,54,56,54,57] from by decide,show ff 10 [115,101,110,100,32,50,32,54,56,54,57,10]=[] from by decide] at h;exact h
end Go.Proofs.YtcnpikbbmbombaaGreatDoor
namespace Go.Proofs.YtcnpikbbmbombaaGreatDoor
open Go.RowKit
set_option maxRecDepth 100000 in
theorem IC :aC Tryz.prog 78 [.yl 7,.pt 0 0] [.bx 9 [.d (.v (.string ⟨([119,111,114,108,100,32,49,32,58,32,49,10,116,105,99,107,32,48,10,106,111,105,110,32,50,10,115,101,110,100,32,50,32,54,56,54,57,10]).toArray⟩))],.gw 0 aj,.bx 25 [.z 0,.d (.v (.slice none 0 0)),.d (.v (.slice none 0 0))],.bx 26 [.d (.v (.slice none 0 0))],.bx 23 [.d (.v (.slice none 0 0))],.bx 32 [.z 0],.bx 4 [.d (.v (.bool false))],.lp .ready 19 61 [(2,.pt 2 0),(3,.pt 3 0),(4,.pt 4 0),(5,.pt 5 0),(6,.pt 6 0)] (lu Tryz.f19 0)] (.tu []) ([.bx 9 [.d (.v (.string ⟨([]).toArray⟩))],.gw 0 aj,.bx 25 [.z 1,.sl 8 (0),.sl 9 (1)],.bx 26 [.sl 10 (3)],.bx 23 [.d (.v (.slice none 0 0))],.bx 32 [.z 0],.bx 4 [.d (.v (.bool true))],.lp .ready 19 61 [(2,.pt 2 0),(3,.pt 3 0),(4,.pt 4 0),(5,.pt 5 0),(6,.pt 6 0)] (lu Tryz.f19 0),.rw 60 2 (ah []),.rw 3 1 (ints [1]),.rw 42 7 (eD [⟨1,0,0,0,0,0,[]⟩,⟨12,2,0,0,0,0,[]⟩,⟨10,2,0,0,0,0,[104,105]⟩])]):=by
 refine aC.intro (by kernel_rfl) rfl rfl 23 rfl rfl fun D w0 K bs ac wd hK (ao:bs.m=8) r=>?_
 refine cD (todo':=hd Tryz.f78 0) (E':=[(0,.yl 7),(1,.pt 0 0),(3,.z 1)]) (M':=[.bx 9 [.d (.v (.string ⟨([119,111,114,108,100,32,49,32,58,32,49,10,116,105,99,107,32,48,10,106,111,105,110,32,50,10,115,101,110,100,32,50,32,54,56,54,57,10]).toArray⟩))],.gw 0 aj,.bx 25 [.z 0,.d (.v (.slice none 0 0)),.d (.v (.slice none 0 0))],.bx 26 [.d (.v (.slice none 0 0))],.bx 23 [.d (.v (.slice none 0 0))],.bx 32 [.z 0],.bx 4 [.d (.v (.bool false))],.lp .ready 19 61 [(2,.pt 2 0),(3,.pt 3 0),(4,.pt 4 0),(5,.pt 5 0),(6,.pt 6 0)] (lu Tryz.f19 0)]) tk mo hK ao [] 2000 [0,1,2,3,4,5,6,7] [0,1,3] r (by kernel_rfl) trivial fun ac wd r=>?_
 refine cD (todo':=hd Tryz.f78 0) (E':=[(0,.yl 7),(1,.pt 0 0),(3,.z 2),(7,.d (.v (.string ⟨([119,111,114,108,100,32,49,32,58,32,49,10,116,105,99,107,32,48,10,106,111,105,110,32,50,10,115,101,110,100,32,50,32,54,56,54,57,10]).toArray⟩))),(8,.d (.v (.bool true))),(12,.d (.v (.string ⟨([119,111,114,108,100,32,49,32,58,32,49,10,116,105,99,107,32,48,10,106,111,105,110,32,50,10,115,101,110,100,32,50,32,54,56,54,57,10]).toArray⟩))),(13,.tu [.d (.v (.string ⟨([119,111,114,108,100,32,49,32,58,32,49]).toArray⟩)),.d (.v (.string ⟨([116,105,99,107,32,48,10,106,111,105,110,32,50,10,115,101,110,100,32,50,32,54,56,54,57,10]).toArray⟩)),.d (.v (.bool true))]),(11,.tu [.d (.v (.string ⟨([119,111,114,108,100,32,49,32,58,32,49]).toArray⟩)),.d (.v (.string ⟨([116,105,99,107,32,48,10,106,111,105,110,32,50,10,115,101,110,100,32,50,32,54,56,54,57,10]).toArray⟩)),.d (.v (.bool true))]),(14,.d (.v (.string ⟨([119,111,114,108,100,32,49,32,58,32,49]).toArray⟩))),(15,.d (.v (.string ⟨([116,105,99,107,32,48,10,106,111,105,110,32,50,10,115,101,110,100,32,50,32,54,56,54,57,10]).toArray⟩))),(16,.d (.v (.bool true))),(4,.d (.v (.string ⟨([119,111,114,108,100,32,49,32,58,32,49]).toArray⟩))),(5,.d (.v (.string ⟨([116,105,99,107,32,48,10,106,111,105,110,32,50,10,115,101,110,100,32,50,32,54,56,54,57,10]).toArray⟩))),(6,.d (.v (.bool true))),(17,.yl 7),(18,.z 1),(19,.d (.v (.string ⟨([119,111,114,108,100,32,49,32,58,32,49]).toArray⟩))),(20,.d (.v (.bool true))),(21,.d (.v (.bool false))),(22,.d (.v (.string ⟨([116,105,99,107,32,48,10,106,111,105,110,32,50,10,115,101,110,100,32,50,32,54,56,54,57,10]).toArray⟩))),(9,.z 1),(10,.z 2)]) (M':=[.bx 9 [.d (.v (.string ⟨([116,105,99,107,32,48,10,106,111,105,110,32,50,10,115,101,110,100,32,50,32,54,56,54,57,10]).toArray⟩))],.gw 0 aj,.bx 25 [.z 1,.sl 8 (0),.sl 9 (1)],.bx 26 [.d (.v (.slice none 0 0))],.bx 23 [.d (.v (.slice none 0 0))],.bx 32 [.z 0],.bx 4 [.d (.v (.bool true))],.lp .ready 19 61 [(2,.pt 2 0),(3,.pt 3 0),(4,.pt 4 0),(5,.pt 5 0),(6,.pt 6 0)] (lu Tryz.f19 0),.rw 60 2 (ah []),.rw 3 1 (ints [1]),.bx 25 [.z 1,.sl 8 (0),.sl 9 (1)]]) tk mo hK ao [(1,[(1,.b true)]),(2,[(1,.z (2))]),(3,[(1,.ax (.tu [.v (.string ⟨([119,111,114,108,100,32,49,32,58,32,49]).toArray⟩),.v (.string ⟨([116,105,99,107,32,48,10,106,111,105,110,32,50,10,115,101,110,100,32,50,32,54,56,54,57,10]).toArray⟩),.v (.bool true)]))]),(4,[(3,.bP 200 [(7,[(1,.b false),(4,.n 0)]),(9,[(1,.mem [] (.tu [.ag [.z 1,.sl 0 (0),.sl 1 (1)],.d (.v (.bool true))]) [.rw 60 2 (ah []),.rw 3 1 (ints [1])])])])])] 2000 [0,1,2,3,4,5,6,7,8,9,10] [0,1,3,7,8,12,13,11,14,15,16,4,5,6,17,18,19,20,21,22,9,10] r (by kernel_rfl) (U ((by first | decide | simp):(([119,111,114,108,100,32,49,32,58,32,49,10,116,105,99,107,32,48,10,106,111,105,110,32,50,10,115,101,110,100,32,50,32,54,56,54,57,10]:List UInt8) != [])=true) (U (JP) (U ((by first | decide | simp):(([119,111,114,108,100,32,49,32,58,32,49]:List UInt8)==[])=false) (U (rfl:(0:Int)=((0:Nat):Int)) (U (NX) (U ((wi (by omega)):IntKind.i64.wrap ((1:Int)+1)=2) trivial)))))) fun ac wd r=>?_
 refine cD (todo':=hd Tryz.f78 0) (E':=[(0,.yl 7),(1,.pt 0 0),(3,.z 3),(7,.d (.v (.string ⟨([116,105,99,107,32,48,10,106,111,105,110,32,50,10,115,101,110,100,32,50,32,54,56,54,57,10]).toArray⟩))),(8,.d (.v (.bool true))),(12,.d (.v (.string ⟨([116,105,99,107,32,48,10,106,111,105,110,32,50,10,115,101,110,100,32,50,32,54,56,54,57,10]).toArray⟩))),(13,.tu [.d (.v (.string ⟨([116,105,99,107,32,48]).toArray⟩)),.d (.v (.string ⟨([106,111,105,110,32,50,10,115,101,110,100,32,50,32,54,56,54,57,10]).toArray⟩)),.d (.v (.bool true))]),(11,.tu [.d (.v (.string ⟨([116,105,99,107,32,48]).toArray⟩)),.d (.v (.string ⟨([106,111,105,110,32,50,10,115,101,110,100,32,50,32,54,56,54,57,10]).toArray⟩)),.d (.v (.bool true))]),(14,.d (.v (.string ⟨([116,105,99,107,32,48]).toArray⟩))),(15,.d (.v (.string ⟨([106,111,105,110,32,50,10,115,101,110,100,32,50,32,54,56,54,57,10]).toArray⟩))),(16,.d (.v (.bool true))),(4,.d (.v (.string ⟨([116,105,99,107,32,48]).toArray⟩))),(5,.d (.v (.string ⟨([106,111,105,110,32,50,10,115,101,110,100,32,50,32,54,56,54,57,10]).toArray⟩))),(6,.d (.v (.bool true))),(17,.yl 7),(18,.z 2),(19,.d (.v (.string ⟨([116,105,99,107,32,48]).toArray⟩))),(20,.d (.v (.bool true))),(21,.d (.v (.bool false))),(22,.d (.v (.string ⟨([106,111,105,110,32,50,10,115,101,110,100,32,50,32,54,56,54,57,10]).toArray⟩))),(9,.z 2),(10,.z 3)]) (M':=[.bx 9 [.d (.v (.string ⟨([106,111,105,110,32,50,10,115,101,110,100,32,50,32,54,56,54,57,10]).toArray⟩))],.gw 0 aj,.bx 25 [.z 1,.sl 8 (0),.sl 9 (1)],.bx 26 [.sl 14 ((1))],.bx 23 [.d (.v (.slice none 0 0))],.bx 32 [.z 0],.bx 4 [.d (.v (.bool true))],.lp .ready 19 61 [(2,.pt 2 0),(3,.pt 3 0),(4,.pt 4 0),(5,.pt 5 0),(6,.pt 6 0)] (lu Tryz.f19 0),.rw 60 2 (ah []),.rw 3 1 (ints [1]),.bx 25 [.z 1,.sl 8 (0),.sl 9 (1)],.dead,.bx 42 [.z 1,.z 0,.z 0,.z 0,.z 0,.d (.v (.int .u64 0)),.sl 11 (0)],.dead,.rw 42 7 ([[.z 1,.z 0,.z 0,.z 0,.z 0,.v (.int .u64 0),.em 5 1 ([])]])]) tk mo hK ao [(1,[(1,.b true)]),(2,[(1,.z (3))]),(3,[(1,.ax (.tu [.v (.string ⟨([116,105,99,107,32,48]).toArray⟩),.v (.string ⟨([106,111,105,110,32,50,10,115,101,110,100,32,50,32,54,56,54,57,10]).toArray⟩),.v (.bool true)]))]),(4,[(3,.bP 200 [(7,[(1,.b false),(4,.n 0)]),(13,[(1,.mem [1] (.tu [.ag [.z 1,.z 0,.z 0,.z 0,.z 0,.d (.v (.int .u64 0)),.sl 1 (0)],.d (.v (.bool true))]) [.gw 0 aj,.rw 5 1 ([])])])])])] 2000 [0,1,2,3,4,5,6,7,8,9,10,11,12,13,14] [0,1,3,7,8,12,13,11,14,15,16,4,5,6,17,18,19,20,21,22,9,10] r (by kernel_rfl) (U ((by first | decide | simp):(([116,105,99,107,32,48,10,106,111,105,110,32,50,10,115,101,110,100,32,50,32,54,56,54,57,10]:List UInt8) != [])=true) (U (JQ) (U ((by first | decide | simp):(([116,105,99,107,32,48]:List UInt8)==[])=false) (U (rfl:(0:Int)=((0:Nat):Int)) (U (NY) (U ((by first | rfl | decide):(0)=([]:List (List DV)).length) (U ((by first | rfl | decide):(1)=([[.z 1,.z 0,.z 0,.z 0,.z 0,.v (.int .u64 0),.em 5 1 ([])]]:List (List DV)).length) (U ((by decide):(2*(0+(1))+192)*72≤281474976710656) (U ((by decide):0+(1)<4611686018427387904) (U ((by simp [aA,AV.one,aW,ae]):aA ([[.z 1,.z 0,.z 0,.z 0,.z 0,.v (.int .u64 0),.em 5 1 ([])]])) (U ((wi (by omega)):IntKind.i64.wrap ((2:Int)+1)=3) trivial))))))))))) fun ac wd r=>?_
 refine cD (todo':=hd Tryz.f78 0) (E':=[(0,.yl 7),(1,.pt 0 0),(3,.z 4),(7,.d (.v (.string ⟨([106,111,105,110,32,50,10,115,101,110,100,32,50,32,54,56,54,57,10]).toArray⟩))),(8,.d (.v (.bool true))),(12,.d (.v (.string ⟨([106,111,105,110,32,50,10,115,101,110,100,32,50,32,54,56,54,57,10]).toArray⟩))),(13,.tu [.d (.v (.string ⟨([106,111,105,110,32,50]).toArray⟩)),.d (.v (.string ⟨([115,101,110,100,32,50,32,54,56,54,57,10]).toArray⟩)),.d (.v (.bool true))]),(11,.tu [.d (.v (.string ⟨([106,111,105,110,32,50]).toArray⟩)),.d (.v (.string ⟨([115,101,110,100,32,50,32,54,56,54,57,10]).toArray⟩)),.d (.v (.bool true))]),(14,.d (.v (.string ⟨([106,111,105,110,32,50]).toArray⟩))),(15,.d (.v (.string ⟨([115,101,110,100,32,50,32,54,56,54,57,10]).toArray⟩))),(16,.d (.v (.bool true))),(4,.d (.v (.string ⟨([106,111,105,110,32,50]).toArray⟩))),(5,.d (.v (.string ⟨([115,101,110,100,32,50,32,54,56,54,57,10]).toArray⟩))),(6,.d (.v (.bool true))),(17,.yl 7),(18,.z 3),(19,.d (.v (.string ⟨([106,111,105,110,32,50]).toArray⟩))),(20,.d (.v (.bool true))),(21,.d (.v (.bool false))),(22,.d (.v (.string ⟨([115,101,110,100,32,50,32,54,56,54,57,10]).toArray⟩))),(9,.z 3),(10,.z 4)]) (M':=[.bx 9 [.d (.v (.string ⟨([115,101,110,100,32,50,32,54,56,54,57,10]).toArray⟩))],.gw 0 aj,.bx 25 [.z 1,.sl 8 (0),.sl 9 (1)],.bx 26 [.sl 14 ((1)+(1))],.bx 23 [.d (.v (.slice none 0 0))],.bx 32 [.z 0],.bx 4 [.d (.v (.bool true))],.lp .ready 19 61 [(2,.pt 2 0),(3,.pt 3 0),(4,.pt 4 0),(5,.pt 5 0),(6,.pt 6 0)] (lu Tryz.f19 0),.rw 60 2 (ah []),.rw 3 1 (ints [1]),.bx 25 [.z 1,.sl 8 (0),.sl 9 (1)],.dead,.bx 42 [.z 1,.z 0,.z 0,.z 0,.z 0,.d (.v (.int .u64 0)),.sl 11 (0)],.dead,.rw 42 7 ([[.z 1,.z 0,.z 0,.z 0,.z 0,.v (.int .u64 0),.em 5 1 ([])]]++[[.z 12,.z 2,.z 0,.z 0,.z 0,.v (.int .u64 0),.em 5 1 ([])]]),.dead,.bx 42 [.z 12,.z 2,.z 0,.z 0,.z 0,.d (.v (.int .u64 0)),.sl 15 (0)],.dead]) tk mo hK ao [(1,[(1,.b true)]),(2,[(1,.z (4))]),(3,[(1,.ax (.tu [.v (.string ⟨([106,111,105,110,32,50]).toArray⟩),.v (.string ⟨([115,101,110,100,32,50,32,54,56,54,57,10]).toArray⟩),.v (.bool true)]))]),(4,[(3,.bP 200 [(7,[(1,.b false),(4,.n 0)]),(13,[(1,.mem [1] (.tu [.ag [.z 12,.z 2,.z 0,.z 0,.z 0,.d (.v (.int .u64 0)),.sl 1 (0)],.d (.v (.bool true))]) [.gw 0 aj,.rw 5 1 ([])])])])])] 2000 [0,1,2,3,4,5,6,7,8,9,10,11,12,13,14,15,16,17] [0,1,3,7,8,12,13,11,14,15,16,4,5,6,17,18,19,20,21,22,9,10] r (by kernel_rfl) (U ((by first | decide | simp):(([106,111,105,110,32,50,10,115,101,110,100,32,50,32,54,56,54,57,10]:List UInt8) != [])=true) (U (JR) (U ((by first | decide | simp):(([106,111,105,110,32,50]:List UInt8)==[])=false) (U (rfl:(0:Int)=((0:Nat):Int)) (U (NZ) (U ((by first | rfl | decide):(0)=([]:List (List DV)).length) (U ((by first | rfl | decide):((1))=([[.z 1,.z 0,.z 0,.z 0,.z 0,.v (.int .u64 0),.em 5 1 ([])]]:List (List DV)).length) (U ((by first | rfl | decide):(1)=([[.z 12,.z 2,.z 0,.z 0,.z 0,.v (.int .u64 0),.em 5 1 ([])]]:List (List DV)).length) (U ((by decide):(2*(((1))+(1))+192)*72≤281474976710656) (U ((by decide):((1))+(1)<4611686018427387904) (U ((by simp [aA,AV.one,aW,ae]):aA ([[.z 12,.z 2,.z 0,.z 0,.z 0,.v (.int .u64 0),.em 5 1 ([])]])) (U ((wi (by omega)):IntKind.i64.wrap ((3:Int)+1)=4) trivial)))))))))))) fun ac wd r=>?_
 refine cD (todo':=hd Tryz.f78 0) (E':=[(0,.yl 7),(1,.pt 0 0),(3,.z 5),(7,.d (.v (.string ⟨([115,101,110,100,32,50,32,54,56,54,57,10]).toArray⟩))),(8,.d (.v (.bool true))),(12,.d (.v (.string ⟨([115,101,110,100,32,50,32,54,56,54,57,10]).toArray⟩))),(13,.tu [.d (.v (.string ⟨([115,101,110,100,32,50,32,54,56,54,57]).toArray⟩)),.d (.v (.string ⟨([]).toArray⟩)),.d (.v (.bool true))]),(11,.tu [.d (.v (.string ⟨([115,101,110,100,32,50,32,54,56,54,57]).toArray⟩)),.d (.v (.string ⟨([]).toArray⟩)),.d (.v (.bool true))]),(14,.d (.v (.string ⟨([115,101,110,100,32,50,32,54,56,54,57]).toArray⟩))),(15,.d (.v (.string ⟨([]).toArray⟩))),(16,.d (.v (.bool true))),(4,.d (.v (.string ⟨([115,101,110,100,32,50,32,54,56,54,57]).toArray⟩))),(5,.d (.v (.string ⟨([]).toArray⟩))),(6,.d (.v (.bool true))),(17,.yl 7),(18,.z 4),(19,.d (.v (.string ⟨([115,101,110,100,32,50,32,54,56,54,57]).toArray⟩))),(20,.d (.v (.bool true))),(21,.d (.v (.bool false))),(22,.d (.v (.string ⟨([]).toArray⟩))),(9,.z 4),(10,.z 5)]) (M':=[.bx 9 [.d (.v (.string ⟨([]).toArray⟩))],.gw 0 aj,.bx 25 [.z 1,.sl 8 (0),.sl 9 (1)],.bx 26 [.sl 14 ((1)+(1)+(1))],.bx 23 [.d (.v (.slice none 0 0))],.bx 32 [.z 0],.bx 4 [.d (.v (.bool true))],.lp .ready 19 61 [(2,.pt 2 0),(3,.pt 3 0),(4,.pt 4 0),(5,.pt 5 0),(6,.pt 6 0)] (lu Tryz.f19 0),.rw 60 2 (ah []),.rw 3 1 (ints [1]),.bx 25 [.z 1,.sl 8 (0),.sl 9 (1)],.dead,.bx 42 [.z 1,.z 0,.z 0,.z 0,.z 0,.d (.v (.int .u64 0)),.sl 11 (0)],.dead,.rw 42 7 ([[.z 1,.z 0,.z 0,.z 0,.z 0,.v (.int .u64 0),.em 5 1 ([])]]++[[.z 12,.z 2,.z 0,.z 0,.z 0,.v (.int .u64 0),.em 5 1 ([])]]++[[.z 10,.z 2,.z 0,.z 0,.z 0,.v (.int .u64 0),.em 5 1 (ae [104,105])]]),.dead,.bx 42 [.z 12,.z 2,.z 0,.z 0,.z 0,.d (.v (.int .u64 0)),.sl 15 (0)],.dead,.dead,.bx 42 [.z 10,.z 2,.z 0,.z 0,.z 0,.d (.v (.int .u64 0)),.sl 18 (2)],.dead]) tk mo hK ao [(1,[(1,.b true)]),(2,[(1,.z (5))]),(3,[(1,.ax (.tu [.v (.string ⟨([115,101,110,100,32,50,32,54,56,54,57]).toArray⟩),.v (.string ⟨([]).toArray⟩),.v (.bool true)]))]),(4,[(3,.bP 200 [(7,[(1,.b false),(4,.n 0)]),(13,[(1,.mem [1] (.tu [.ag [.z 10,.z 2,.z 0,.z 0,.z 0,.d (.v (.int .u64 0)),.sl 1 (2)],.d (.v (.bool true))]) [.gw 0 aj,.rw 5 1 (ae [104,105])])])])])] 2000 [0,1,2,3,4,5,6,7,8,9,10,11,12,13,14,15,16,17,18,19,20] [0,1,3,7,8,12,13,11,14,15,16,4,5,6,17,18,19,20,21,22,9,10] r (by kernel_rfl) (U ((by first | decide | simp):(([115,101,110,100,32,50,32,54,56,54,57,10]:List UInt8) != [])=true) (U (JS) (U ((by first | decide | simp):(([115,101,110,100,32,50,32,54,56,54,57]:List UInt8)==[])=false) (U (rfl:(0:Int)=((0:Nat):Int)) (U (N0) (U ((by first | rfl | decide):(2)=(ae [104,105]).length) (U ((by first | rfl | decide):((1)+(1))=([[.z 1,.z 0,.z 0,.z 0,.z 0,.v (.int .u64 0),.em 5 1 ([])]]++[[.z 12,.z 2,.z 0,.z 0,.z 0,.v (.int .u64 0),.em 5 1 ([])]]:List (List DV)).length) (U ((by first | rfl | decide):(1)=([[.z 10,.z 2,.z 0,.z 0,.z 0,.v (.int .u64 0),.em 5 1 (ae [104,105])]]:List (List DV)).length) (U ((by decide):(2*(((1)+(1))+(1))+192)*72≤281474976710656) (U ((by decide):((1)+(1))+(1)<4611686018427387904) (U ((by simp [aA,AV.one,aW,ae]):aA ([[.z 10,.z 2,.z 0,.z 0,.z 0,.v (.int .u64 0),.em 5 1 (ae [104,105])]])) (U ((wi (by omega)):IntKind.i64.wrap ((4:Int)+1)=5) trivial)))))))))))) fun ac wd r=>?_
 refine bg (y:=.tu []) (N':=[.bx 9 [.d (.v (.string ⟨([]).toArray⟩))],.gw 0 aj,.bx 25 [.z 1,.sl 8 (0),.sl 9 (1)],.bx 26 [.sl 10 ((1)+(1)+(1))],.bx 23 [.d (.v (.slice none 0 0))],.bx 32 [.z 0],.bx 4 [.d (.v (.bool true))],.lp .ready 19 61 [(2,.pt 2 0),(3,.pt 3 0),(4,.pt 4 0),(5,.pt 5 0),(6,.pt 6 0)] (lu Tryz.f19 0),.rw 60 2 (ah []),.rw 3 1 (ints [1]),.rw 42 7 ([[.z 1,.z 0,.z 0,.z 0,.z 0,.v (.int .u64 0),.em 5 1 ([])]]++[[.z 12,.z 2,.z 0,.z 0,.z 0,.v (.int .u64 0),.em 5 1 ([])]]++[[.z 10,.z 2,.z 0,.z 0,.z 0,.v (.int .u64 0),.em 5 1 (ae [104,105])]])]) (rfl) (rfl) ?_
 exact bf tk mo hK rfl ao [(1,[(1,.b false)])] 2000 [0,1,2,3,4,5,6,7,8,9,14] r (by kernel_rfl) (U ((by first | decide | simp):(([]:List UInt8) != [])=false) trivial)
end Go.Proofs.YtcnpikbbmbombaaGreatDoor
namespace Go.Proofs.YtcnpikbbmbombaaGreatDoor
open Go.RowKit
theorem iP.yr {T k:Nat} {rows:List (List DV)} (h:∀ r ∈ rows,∀ c ∈ r,fS c):iP (.rw T k rows):=fun K K' β u H r=>by
 cases r with | rw hb X F hl hs hr=>exact .rw hb X F hl hs fun i r j c x h1 h2 h3=>h r (List.mem_of_getElem? h1) c (List.mem_of_getElem? h2) _ _ _ _ (hr i r j c x h1 h2 h3)
theorem GY (T k:Nat) (l:List (Int×Int)):iP (.rw T k (ah l)):=iP.yr fun r hr c hc=>by
 obtain ⟨x,-,rfl⟩:=List.mem_map.1 hr
 simp only [List.mem_cons,List.not_mem_nil,or_false] at hc
 rcases hc with rfl | rfl<;>exact iG _
theorem ID (T k:Nat) (l:List Int):iP (.rw T k (ints l)):=iP.yr fun r hr c hc=>by
 obtain ⟨x,-,rfl⟩:=List.mem_map.1 hr
 simp only [List.mem_cons,List.not_mem_nil,or_false] at hc
 subst hc;exact iG _
theorem GZ (T k:Nat) (l:List aG):iP (.rw T k (eD l)):=iP.yr fun r hr c hc=>by
 obtain ⟨x,-,rfl⟩:=List.mem_map.1 hr
 simp only [aG.xF,List.mem_cons,List.not_mem_nil,or_false] at hc
 rcases hc with rfl | rfl | rfl | rfl | rfl | rfl | rfl<;>first | exact iG _ | exact zq _ _
set_option maxRecDepth 100000 in
theorem G3 :aC Tryz.prog 19 [.d (.v (.string ⟨([119,111,114,108,100,32,49,32,58,32,49,10,116,105,99,107,32,48,10,106,111,105,110,32,50,10,115,101,110,100,32,50,32,54,56,54,57,10]).toArray⟩))] [.gw 0 aj] (mapA (·+1) (.tu [.ag [.z 1,.sl 4 0,.sl 5 1],.sl 6 3,.d (.v (.slice none 0 0)),.z 0])) (.gw 0 aj::List.map (eW (·+1)) ([.bx 25 [.z 1,.sl 4 0,.sl 5 1],.bx 26 [.sl 6 3],.bx 23 [.d (.v (.slice none 0 0))],.bx 32 [.z 0],.rw 60 2 (ah []),.rw 3 1 (ints [1]),.rw 42 7 (eD [⟨1,0,0,0,0,0,[]⟩,⟨12,2,0,0,0,0,[]⟩,⟨10,2,0,0,0,0,[104,105]⟩])])):=by
 refine aC.Jc (by kernel_rfl) rfl rfl 61 rfl rfl fun w0 K ac hK r=>?_
 have r:=r.mark
 refine HU (todo':=L7 Tryz.f19 0) (E2:=[(2,.pt 1 0),(3,.pt 2 0),(4,.pt 3 0),(5,.pt 4 0),(6,.pt 5 0)]) (M2:=[.gw 0 aj,.bx 25 [.z 1,.sl 6 (0),.sl 7 (1)],.bx 26 [.sl 8 (3)],.bx 23 [.d (.v (.slice none 0 0))],.bx 32 [.z 0],.bx 4 [.d (.v (.bool true))],.rw 60 2 (ah []),.rw 3 1 (ints [1]),.rw 42 7 (eD [⟨1,0,0,0,0,0,[]⟩,⟨12,2,0,0,0,0,[]⟩,⟨10,2,0,0,0,0,[104,105]⟩])]) tk mo hK rfl [(1,[(1,.z (38))]),(4,[(1,.bP 200 [])])] 15 [6,0,1,2,3,4,5] [2,3,4,5,6] (.tu []) [.bx 9 [.d (.v (.string ⟨([]).toArray⟩))],.gw 0 aj,.bx 25 [.z 1,.sl 8 (0),.sl 9 (1)],.bx 26 [.sl 10 (3)],.bx 23 [.d (.v (.slice none 0 0))],.bx 32 [.z 0],.bx 4 [.d (.v (.bool true))],.lp .ready 19 61 [(2,.pt 2 0),(3,.pt 3 0),(4,.pt 4 0),(5,.pt 5 0),(6,.pt 6 0)] (lu Tryz.f19 0),.rw 60 2 (ah []),.rw 3 1 (ints [1]),.rw 42 7 (eD [⟨1,0,0,0,0,0,[]⟩,⟨12,2,0,0,0,0,[]⟩,⟨10,2,0,0,0,0,[104,105]⟩])] [0,1,2,3,4,5,8,9,10] [2,3,4,5,6] r (by kernel_rfl) (U IC (U ((by decide):((([119,111,114,108,100,32,49,32,58,32,49,10,116,105,99,107,32,48,10,106,111,105,110,32,50,10,115,101,110,100,32,50,32,54,56,54,57,10]:List UInt8).length:Nat):Int)=38) trivial)) fun ac wd r=>?_
 refine A3 (E':=[(2,.pt 0 0),(3,.pt 1 0),(4,.pt 2 0),(5,.pt 3 0)]) (M':=[.bx 25 [.z 1,.sl 4 (0),.sl 5 (1)],.bx 26 [.sl 6 (3)],.bx 23 [.d (.v (.slice none 0 0))],.bx 32 [.z 0],.rw 60 2 (ah []),.rw 3 1 (ints [1]),.rw 42 7 (eD [⟨1,0,0,0,0,0,[]⟩,⟨12,2,0,0,0,0,[]⟩,⟨10,2,0,0,0,0,[104,105]⟩])]) tk mo hK rfl [] 2000 [1,2,3,4,6,7,8] [2,3,4,5] r (by kernel_rfl) (by kernel_rfl) trivial ?_ ?_
 ·intro x hx;simp only [List.mem_cons,List.not_mem_nil,or_false] at hx;rcases hx with rfl | rfl | rfl | rfl<;>exact gJ.pt _ _
 ·intro x hx;simp only [List.mem_cons,List.not_mem_nil,or_false] at hx;rcases hx with rfl | rfl | rfl | rfl | rfl | rfl | rfl<;>first | exact GY _ _ _ | exact ID _ _ _ | exact GZ _ _ _ | (refine iP.bx fun c hc=>?_;simp only [List.mem_cons,List.not_mem_nil,or_false] at hc;first | (subst hc;first | exact gJ.v _ | exact gJ.sl _ _) | (rcases hc with rfl | rfl | rfl<;>first | exact gJ.v _ | exact gJ.sl _ _))
end Go.Proofs.YtcnpikbbmbombaaGreatDoor
namespace Go.Proofs.YtcnpikbbmbombaaGreatDoor
open Go.RowKit
def jo:bN:=⟨1,[],[1]⟩
def cI:List aG:=[⟨1,0,0,0,0,0,[]⟩,⟨12,2,0,0,0,0,[]⟩,⟨10,2,0,0,0,0,[104,105]⟩]
theorem BQ:bS jo=true:=wG ⟨by decide,fun i x h=>by simp [jo] at h,fun i k x o h=>by simp [jo] at h,fun i x h=>by
  cases i with
  | zero=>simp [jo] at h;subst h;exact ⟨by decide,by decide⟩
  | succ i=>simp [jo] at h⟩
theorem BR:bQ jo cI=[1,0,1,1,1,0,12,2,10,2,2,104,105]:=by decide
theorem De:b9 jo cI=0:=iz BQ (by decide) (by rw [BR];decide)
theorem Cb:∀ s ∈ cI,s.Rd:=by
 intro s hs
 simp only [cI,List.mem_cons,List.not_mem_nil,or_false] at hs
 rcases hs with rfl | rfl | rfl<;>exact ⟨by decide,by decide⟩
theorem Lv:aC Tryz.prog 11 [.ag [.z 1,.d (.ro 2 (ah [])),.d (.ro 1 (ints [1]))],.d (.ro 7 (steps cI))] [.gw 0 aj] (.tu [.sl 1 13,.z 0]) [.gw 0 aj,.rw 5 1 (ae [1,0,1,1,1,0,12,2,10,2,2,104,105])]:=by
 have h:=vG jo cI (by decide) (by decide) (by decide) Cb (by rw [De];rfl)
 rw [BR] at h;exact h
theorem Mx:rY jo cI=[119,111,114,108,100,32,49,32,58,32,49,10,116,105,99,107,32,48,10,106,111,105,110,32,50,10,115,101,110,100,32,50,32,54,56,54,57,10]:=by
 simp [rY,bn,cz,b4,cT,cw,oP,jo,cI,af,eC,b5,Go.Lib.decDigits_one,iH,cV,dr]
theorem IE:aC Tryz.prog 17 [.ag [.z 1,.d (.ro 2 (ah [])),.d (.ro 1 (ints [1]))],.d (.ro 7 (steps cI))] [.gw 0 aj,.gw 1 aV] (.tu [.d (.v (.string ⟨([119,111,114,108,100,32,49,32,58,32,49,10,116,105,99,107,32,48,10,106,111,105,110,32,50,10,115,101,110,100,32,50,32,54,56,54,57,10]:List UInt8).toArray⟩)),.z 0]) [.gw 0 aj,.gw 1 aV]:=by
 have h:=GO jo cI (by decide) (by decide) (by decide) Cb (by rw [De];rfl)
 rw [Mx] at h;exact h
theorem My:jP (List.drop 4 [1,0,1,1,1,0,12,2,10,2,2,104,105])=cI:=by
 rw [ri (by decide),show bk ((List.drop 4 ([1,0,1,1,1,0,12,2,10,2,2,104,105]:List UInt8)).take 258)=(⟨1,0,0,0,0,0,[]⟩,2) from by kernel_rfl]
 rw [ri (by decide),show bk (((List.drop 4 ([1,0,1,1,1,0,12,2,10,2,2,104,105]:List UInt8)).drop 2).take 258)=(⟨12,2,0,0,0,0,[]⟩,2) from by kernel_rfl]
 rw [ri (by decide),show bk ((((List.drop 4 ([1,0,1,1,1,0,12,2,10,2,2,104,105]:List UInt8)).drop 2).drop 2).take 258)=(⟨10,2,0,0,0,0,[104,105]⟩,5) from by kernel_rfl]
 rw [show (((List.drop 4 ([1,0,1,1,1,0,12,2,10,2,2,104,105]:List UInt8)).drop 2).drop 2).drop 5=[] from by decide,ug];rfl
theorem Lw:aC Tryz.prog 15 [.d (.ro 1 (ae [1,0,1,1,1,0,12,2,10,2,2,104,105]))] [.gw 0 aj] (.tu [.ag [.z 1,.sl 1 0,.sl 2 1],.sl 3 3,.z 0]) [.gw 0 aj,.rw 60 2 (ah []),.rw 3 1 (ints [1]),.rw 42 7 (eD cI)]:=by
 have e1:gC [1,0,1,1,1,0,12,2,10,2,2,104,105]=jo:=by decide
 have h:=JI [1,0,1,1,1,0,12,2,10,2,2,104,105] (by decide) (by decide) (by rw [e1];exact BQ)
 rw [show gE [1,0,1,1,1,0,12,2,10,2,2,104,105]=4 from by decide,My] at h;exact h
theorem IF:aC Tryz.prog 19 [.d (.v (.string ⟨([119,111,114,108,100,32,49,32,58,32,49,10,116,105,99,107,32,48,10,106,111,105,110,32,50,10,115,101,110,100,32,50,32,54,56,54,57,10]:List UInt8).toArray⟩))] [.gw 0 aj] (.tu [.ag [.z 1,.sl 5 0,.sl 6 1],.sl 7 3,.d (.v (.slice none 0 0)),.z 0]) [.gw 0 aj,.bx 25 [.z 1,.sl 5 0,.sl 6 1],.bx 26 [.sl 7 3],.bx 23 [.d (.v (.slice none 0 0))],.bx 32 [.z 0],.rw 60 2 (ah []),.rw 3 1 (ints [1]),.rw 42 7 (eD cI)]:=G3
end Go.Proofs.YtcnpikbbmbombaaGreatDoor
namespace Go.Proofs.YtcnpikbbmbombaaGreatDoor
open Go.RowKit
set_option maxRecDepth 100000 in
theorem JT :aC Tryz.prog 8 [] [.gw 0 aj,.gw 1 aV] (mapA (·+([.gw 0 aj,.gw 1 aV]:List ai).length) (.d (.v (.bool true)))) ([.gw 0 aj,.gw 1 aV]++List.map (eW (·+([.gw 0 aj,.gw 1 aV]:List ai).length)) ([])):=by
 refine aC.HV (x:=.d (.v (.bool true))) (M':=[]) rfl (by kernel_rfl) rfl rfl 90 rfl rfl fun w0 K ac hK r=>?_
 have r:=r.mark
 refine B0 (todo':=aft Tryz.f8 2) (E':=[(0,.d (.v (.bool false))),(1,.pt 3 0),(2,.sl 5 (3))]) (M':=[.gw 0 aj,.gw 1 aV,.rw 3 1 ([[.z 1]]),.bx 25 [.z 1,.d (.v (.slice none 0 0)),.sl 2 (1)],.dead,.rw 42 7 ([[.z 1,.z 0,.z 0,.z 0,.z 0,.v (.int .u64 0),.v (.slice none 0 0)],[.z 12,.z 2,.z 0,.z 0,.z 0,.v (.int .u64 0),.v (.slice none 0 0)],[.z 10,.z 2,.z 0,.z 0,.z 0,.v (.int .u64 0),.ro 1 ([[.v (.int .u8 104)],[.v (.int .u8 105)]])]])]) tk mo hK [] 6 [0,1,2,3,4,5] [0,1,2] r (by kernel_rfl) (U ((by simp):(2)=([[.v (.int .u8 104)],[.v (.int .u8 105)]]:List (List DV)).length) (U ((by simp):0<(2)) trivial)) fun ac wd r=>?_
 have r:=r.fk (E1:=[(0,.d (.v (.bool false))),(1,.pt 3 0),(2,.sl 5 (3))]) (M1:=[.gw 0 aj,.gw 1 aV,.rw 3 1 ([[.z 1]]),.bx 25 [.z 1,.d (.v (.slice none 0 0)),.sl 2 (1)],.dead,.rw 42 7 ([[.z 1,.z 0,.z 0,.z 0,.z 0,.v (.int .u64 0),.v (.slice none 0 0)],[.z 12,.z 2,.z 0,.z 0,.z 0,.v (.int .u64 0),.v (.slice none 0 0)],[.z 10,.z 2,.z 0,.z 0,.z 0,.v (.int .u64 0),.ro 1 ([[.v (.int .u8 104)],[.v (.int .u8 105)]])]])]) (M2:=[.gw 0 aj,.gw 1 aV,.rw 3 1 ([[.z 1]]),.bx 25 [.z 1,.sl 6 (0),.sl 2 (1)],.dead,.rw 42 7 ([[.z 1,.z 0,.z 0,.z 0,.z 0,.v (.int .u64 0),.v (.slice none 0 0)],[.z 12,.z 2,.z 0,.z 0,.z 0,.v (.int .u64 0),.v (.slice none 0 0)],[.z 10,.z 2,.z 0,.z 0,.z 0,.v (.int .u64 0),.ro 1 ([[.v (.int .u8 104)],[.v (.int .u8 105)]])]]),.rw 60 2 ([])]) [] [(3,1,60,2)] (by kernel_rfl) (by kernel_rfl)
 have r:=(r.less (rows':=steps cI) 5 rfl (kA.cons (cS.cons (Le.refl _) (cS.cons (Le.refl _) (cS.cons (Le.refl _) (cS.cons (Le.refl _) (cS.cons (Le.refl _) (cS.cons (Le.refl _) (cS.cons (Le.sh _) cS.nil))))))) (kA.cons (cS.cons (Le.refl _) (cS.cons (Le.refl _) (cS.cons (Le.refl _) (cS.cons (Le.refl _) (cS.cons (Le.refl _) (cS.cons (Le.refl _) (cS.cons (Le.sh _) cS.nil))))))) (kA.cons (cS.cons (Le.refl _) (cS.cons (Le.refl _) (cS.cons (Le.refl _) (cS.cons (Le.refl _) (cS.cons (Le.refl _) (cS.cons (Le.refl _) (cS.cons (Le.refl _) cS.nil))))))) kA.nil)))).cast (M':=[.gw 0 aj,.gw 1 aV,.rw 3 1 ([[.z 1]]),.bx 25 [.z 1,.sl 6 (0),.sl 2 (1)],.dead,.rw 42 7 (steps cI),.rw 60 2 ([])]) rfl rfl
 have r:=r.stay (p1:=[(3)=(steps cI:List (List DV)).length]) (p2:=[(0)=([]:List (List DV)).length,(1)=([[.z 1]]:List (List DV)).length]) (E1:=[(0,.d (.v (.bool false))),(1,.pt 3 0),(2,.d (.ro 7 (cN (steps cI))))]) (M1:=[.gw 0 aj,.gw 1 aV,.rw 3 1 ([[.z 1]]),.bx 25 [.z 1,.sl 6 (0),.sl 2 (1)],.dead,.dead,.rw 60 2 ([])]) (M2:=[.gw 0 aj,.gw 1 aV,.dead,.bx 25 [.z 1,.d (.ro 2 (cN ([]))),.d (.ro 1 (cN ([[.z 1]])))],.dead,.dead,.dead]) (E2:=[(0,.d (.v (.bool false))),(1,.pt 3 0),(2,.d (.ro 7 (steps cI)))]) (M3:=[.gw 0 aj,.gw 1 aV,.dead,.bx 25 [.z 1,.d (.ro 2 (ah [])),.d (.ro 1 (ints [1]))],.dead,.dead,.dead]) [2] [(3,1),(3,2)] (by kernel_rfl) (by kernel_rfl) (U ((by first | rfl | decide):(3)=(steps cI:List (List DV)).length) trivial) (U ((by first | rfl | decide):(0)=([]:List (List DV)).length) (U ((by first | rfl | decide):(1)=([[.z 1]]:List (List DV)).length) trivial)) (by rfl) (by rfl)
 refine B0 (todo':=aft Tryz.f8 3) (E':=[(0,.d (.v (.bool false))),(1,.pt 3 0),(2,.d (.ro 7 (steps cI))),(3,.sl 7 (13)),(4,.z 0)]) (M':=[.gw 0 aj,.gw 1 aV,.dead,.bx 25 [.z 1,.d (.ro 2 (ah [])),.d (.ro 1 (ints [1]))],.dead,.dead,.dead,.rw 5 1 (ae [1,0,1,1,1,0,12,2,10,2,2,104,105])]) tk mo hK [(3,[(2,.mem [0] (.tu [.sl 1 (13),.z 0]) [.gw 0 aj,.rw 5 1 (ae [1,0,1,1,1,0,12,2,10,2,2,104,105])])])] 2 [0,1,2,3,4,5,6,7] [0,1,2,3,4] r (by kernel_rfl) (U (Lv) trivial) fun ac wd r=>?_
 have r:=r.stay (p1:=[(13)=(ae [1,0,1,1,1,0,12,2,10,2,2,104,105]).length]) (p2:=[]) (E1:=[(0,.d (.v (.bool false))),(1,.pt 3 0),(2,.d (.ro 7 (steps cI))),(3,.d (.ro 1 (cN (ae [1,0,1,1,1,0,12,2,10,2,2,104,105])))),(4,.z 0)]) (M1:=[.gw 0 aj,.gw 1 aV,.dead,.bx 25 [.z 1,.d (.ro 2 (ah [])),.d (.ro 1 (ints [1]))],.dead,.dead,.dead,.dead]) (M2:=[.gw 0 aj,.gw 1 aV,.dead,.bx 25 [.z 1,.d (.ro 2 (ah [])),.d (.ro 1 (ints [1]))],.dead,.dead,.dead,.dead]) (E2:=[(0,.d (.v (.bool false))),(1,.pt 3 0),(2,.d (.ro 7 (steps cI))),(3,.d (.ro 1 (ae [1,0,1,1,1,0,12,2,10,2,2,104,105]))),(4,.z 0)]) (M3:=[.gw 0 aj,.gw 1 aV,.dead,.bx 25 [.z 1,.d (.ro 2 (ah [])),.d (.ro 1 (ints [1]))],.dead,.dead,.dead,.dead]) [3] [] (by kernel_rfl) (by kernel_rfl) (U ((by first | rfl | decide):(13)=(ae [1,0,1,1,1,0,12,2,10,2,2,104,105]).length) trivial) trivial (by rfl) rfl
 refine A3 (E':=[(0,.d (.v (.bool true)))]) (M':=[]) tk mo hK rfl [(4,[(2,.mem [0,1] (.tu [.d (.v (.string ⟨([119,111,114,108,100,32,49,32,58,32,49,10,116,105,99,107,32,48,10,106,111,105,110,32,50,10,115,101,110,100,32,50,32,54,56,54,57,10]).toArray⟩)),.z 0]) [.gw 0 aj,.gw 1 aV])]),(5,[(1,.mem [0] (.tu [.ag [.z 1,.sl 1 (0),.sl 2 (1)],.sl 3 (3),.z 0]) [.gw 0 aj,.rw 60 2 (ah []),.rw 3 1 (ints [1]),.rw 42 7 (eD cI)])]),(6,[(1,.mem [0] (.tu [.ag [.z 1,.sl 5 (0),.sl 6 (1)],.sl 7 (3),.d (.v (.slice none 0 0)),.z 0]) [.gw 0 aj,.bx 25 [.z 1,.sl 5 (0),.sl 6 (1)],.bx 26 [.sl 7 (3)],.bx 23 [.d (.v (.slice none 0 0))],.bx 32 [.z 0],.rw 60 2 (ah []),.rw 3 1 (ints [1]),.rw 42 7 (eD cI)])]),(7,[(4,.res (.v (.string ⟨([1,0,1,1,1,0,12,2,10,2,2,104,105]).toArray⟩))),(5,.b true),(13,.b true),(27,.call [.d (.ro 7 (steps cI)),.d (.ro 7 (steps cI))] (.v (.bool true))),(41,.call [.d (.ro 7 (steps cI)),.d (.ro 7 (steps cI))] (.v (.bool true)))])] 2000 [] [0] r (by kernel_rfl) (by kernel_rfl) (U (IE) (U (Lw) (U (IF) (U (rfl:ae [1,0,1,1,1,0,12,2,10,2,2,104,105]=ae ([1,0,1,1,1,0,12,2,10,2,2,104,105])) (U ((by first | decide | simp):(([1,0,1,1,1,0,12,2,10,2,2,104,105]:List UInt8)==[1,0,1,1,1,0,12,2,10,2,2,104,105])=true) (U ((by first | decide | simp):(([119,111,114,108,100,32,49,32,58,32,49,10,116,105,99,107,32,48,10,106,111,105,110,32,50,10,115,101,110,100,32,50,32,54,56,54,57,10]:List UInt8)==[119,111,114,108,100,32,49,32,58,32,49,10,116,105,99,107,32,48,10,106,111,105,110,32,50,10,115,101,110,100,32,50,32,54,56,54,57,10])=true) (U (q9 cI (by decide)) (U ((iG _):fS (.v (.bool true))) (U (eY (7)) (U ((by first | rfl | decide):(3)=(eD cI:List (List DV)).length) (U ((by rfl):cN (eD cI)=steps cI) (U (mA (.ro 7 (steps cI))) (U (q9 cI (by decide)) (U ((iG _):fS (.v (.bool true))) (U (eY (7)) (U ((by first | rfl | decide):(3)=(eD cI:List (List DV)).length) (U ((by rfl):cN (eD cI)=steps cI) (U (mA (.ro 7 (steps cI))) trivial)))))))))))))))))) ?_ ?_
 ·intro x hx;simp only [List.mem_cons,List.not_mem_nil,or_false] at hx;subst hx;exact gJ.v _
 ·intro x hx;simp at hx
theorem uU:aC Tryz.prog 8 [] [.gw 0 aj,.gw 1 aV] (.d (.v (.bool true))) [.gw 0 aj,.gw 1 aV]:=JT
end Go.Proofs.YtcnpikbbmbombaaGreatDoor
namespace Go.Proofs.YtcnpikbbmbombaaGreatDoor
open Go.RowKit
set_option maxRecDepth 100000 in
theorem Ej (c:bN) (l:List aG) (cx:c.ah.length+c.homes.length≤9223372036854775807) (hl:l.length≤9223372036854775807) (hr:∀ s ∈ l,s.Rd):aC Tryz.prog 3 [.ag [.z c.au,.d (.ro 2 (ah c.ah)),.d (.ro 1 (ints c.homes))],.d (.ro 7 (steps l))] [.gw 0 aj,.gw 1 aV] (.d (.v (.bool true))) ([.gw 0 aj,.gw 1 aV]):=by
 refine aC.intro (by kernel_rfl) rfl rfl 65 rfl rfl fun D w0 K bs ac wd hK (ao:bs.m=2) r=>?_
 cases h0:(iF c l) with
 | false=>
  obtain ⟨Pa,C1⟩:=Gu ‹iF c l=false›
  have oX:∀ s ∈ l,s.body.length≤1048576:=fun s hs=>by have:=C1 s hs;omega
  have u0:=((by have k:=A4 c l cx hl hr;rw [h0] at k;exact k):al Tryz.prog 7 [.ag [.z c.au,.d (.ro 2 (ah c.ah)),.d (.ro 1 (ints c.homes))],.d (.ro 7 (steps l))] (.v (.bool false)))
  cases h1:(decide (b9 c l=0)) with
  | false=>
   have bO:=of_decide_eq_false h1
   refine cD (todo':=hd Tryz.f3 0) (E':=[(0,.ag [.z c.au,.d (.ro 2 (ah c.ah)),.d (.ro 1 (ints c.homes))]),(1,.d (.ro 7 (steps l))),(2,.pt 2 0),(4,.d (.v (.bool false))),(12,.ag [.z c.au,.d (.ro 2 (ah c.ah)),.d (.ro 1 (ints c.homes))]),(13,.d (.ro 7 (steps l))),(14,.d (.v (.bool false))),(16,.ag [.z c.au,.d (.ro 2 (ah c.ah)),.d (.ro 1 (ints c.homes))]),(17,.ag [.z c.au,.d (.ro 2 (ah c.ah)),.d (.ro 1 (ints c.homes))]),(18,.d (.ro 7 (steps l))),(19,.d (.ro 7 (steps l))),(5,.pt 3 0),(6,.d (.ro 7 (steps l))),(21,.ag [.z c.au,.d (.ro 2 (ah c.ah)),.d (.ro 1 (ints c.homes))]),(22,.d (.ro 7 (steps l))),(23,.tu [.d (.ro 1 (ae [])),.z (b9 c l)]),(20,.tu [.d (.ro 1 (ae [])),.z (b9 c l)]),(24,.d (.ro 1 (ae []))),(25,.z (b9 c l)),(7,.d (.ro 1 (ae []))),(8,.z (b9 c l)),(27,.ag [.z c.au,.d (.ro 2 (ah c.ah)),.d (.ro 1 (ints c.homes))]),(28,.d (.ro 7 (steps l))),(29,.tu [.d (.ro 1 (ae [])),.z (b9 c l)]),(26,.tu [.d (.ro 1 (ae [])),.z (b9 c l)]),(30,.d (.ro 1 (ae []))),(31,.z (b9 c l)),(9,.d (.ro 1 (ae []))),(10,.z (b9 c l)),(32,.z (b9 c l)),(33,.z (b9 c l)),(34,.d (.v (.bool false))),(35,.d (.v (.bool false))),(36,.d (.ro 1 (ae []))),(37,.d (.v (.string ⟨([]).toArray⟩))),(38,.d (.ro 1 (ae []))),(39,.d (.v (.string ⟨([]).toArray⟩))),(40,.d (.v (.bool false))),(41,.d (.v (.bool false))),(11,.z 0)]) (M':=[.gw 0 aj,.gw 1 aV,.bx 25 [.z c.au,.d (.ro 2 (ah c.ah)),.d (.ro 1 (ints c.homes))],.bx 25 [.z c.au,.d (.ro 2 (ah c.ah)),.d (.ro 1 (ints c.homes))]]) tk mo hK ao [(1,[(2,.ax (.v (.bool false)))]),(3,[(1,.ax (.ag [.z c.au,.ro 2 (ah c.ah),.ro 1 (ints c.homes)])),(3,.ax (.ro 7 (steps l)))]),(4,[(2,.mem [0] (.tu [.d (.ro 1 (ae [])),.z (b9 c l)]) [.gw 0 aj])]),(5,[(2,.ax (.tu [.ro 1 (ae []),.z (b9 c l)]))]),(6,[(2,.b false),(5,.res (.v (.string ⟨([]).toArray⟩))),(7,.res (.v (.string ⟨([]).toArray⟩))),(8,.b false)])] 2000 [0,1,2,3] [0,1,2,4,12,13,14,16,17,18,19,5,6,21,22,23,20,24,25,7,8,27,28,29,26,30,31,9,10,32,33,34,35,36,37,38,39,40,41,11] r (by kernel_rfl) (U u0 (U (zW c (by omega) (by omega)) (U (BB l (by omega) oX) (U ((KQ c l (by omega) (by omega) hl hr h1):aC Tryz.prog 11 [.ag [.z c.au,.d (.ro 2 (ah c.ah)),.d (.ro 1 (ints c.homes))],.d (.ro 7 (steps l))] [.gw 0 aj] (.tu [.d (.ro 1 (ae [])),.z (b9 c l)]) [.gw 0 aj]) (U (GL c l (by omega) (by omega) (by omega) hr h1) (U ((by simp):((b9 c l:Int) != b9 c l)=false) (U (rfl:ae []=ae ([])) (U (rfl:ae []=ae ([])) (U ((by first | decide | simp):(([]:List UInt8) != [])=false) trivial))))))))) fun ac wd r=>?_
   refine bg (y:=.d (.v (.bool true))) (N':=[.gw 0 aj,.gw 1 aV]) (rfl) (rfl) ?_
   exact bf tk mo hK rfl ao [(9,[(2,.z (0))]),(12,[(2,.ax (.v (.bool true))),(6,.ax (.v (.bool true))),(9,.mem [0,1] (.d (.v (.bool true))) [.gw 0 aj,.gw 1 aV])])] 2000 [0,1] r (by kernel_rfl) (U ((by first | rfl | simp [ae,ah,ints,steps,strs]):(((ae []).length:Nat):Int)=0) (U (zu c (by omega) (by omega)) (U (q9 l hl) (U (uU) trivial))))
  | true=>
   have bO:=of_decide_eq_true h1
   have Pb:=z7 ‹decide (b9 c l=0)=true›
   refine cD (todo':=hd Tryz.f3 0) (E':=[(1,.d (.ro 7 (steps l))),(2,.pt 2 0),(5,.pt 3 0),(6,.d (.ro 7 (steps l))),(7,.sl 4 ((bQ c l).length)),(11,.z 0)]) (M':=[.gw 0 aj,.gw 1 aV,.bx 25 [.z c.au,.d (.ro 2 (ah c.ah)),.d (.ro 1 (ints c.homes))],.bx 25 [.z c.au,.d (.ro 2 (ah c.ah)),.d (.ro 1 (ints c.homes))],.rw 5 1 (ae (bQ c l))]) tk mo hK ao [(1,[(2,.ax (.v (.bool false)))]),(3,[(1,.ax (.ag [.z c.au,.ro 2 (ah c.ah),.ro 1 (ints c.homes)])),(3,.ax (.ro 7 (steps l)))]),(4,[(2,.mem [0] (.tu [.sl 1 ((bQ c l).length),.z 0]) [.gw 0 aj,.rw 5 1 (ae (bQ c l))])]),(5,[(2,.ax (.tu [.ro 1 (ae (bQ c l)),.z 0]))]),(6,[(5,.res (.v (.string ⟨((bQ c l)).toArray⟩))),(7,.res (.v (.string ⟨((bQ c l)).toArray⟩))),(8,.b false)])] 2000 [0,1,2,3,4] [1,2,5,6,7,11] r (by kernel_rfl) (U u0 (U (zW c (by omega) (by omega)) (U (BB l (by omega) oX) (U ((vG c l (by omega) (by omega) hl hr h1):aC Tryz.prog 11 [.ag [.z c.au,.d (.ro 2 (ah c.ah)),.d (.ro 1 (ints c.homes))],.d (.ro 7 (steps l))] [.gw 0 aj] (.tu [.sl 1 ((bQ c l).length),.z 0]) [.gw 0 aj,.rw 5 1 (ae (bQ c l))]) (U (Fc c l (by omega) (by omega) (by omega) hr h1) (U ((by first | rfl | (simp [ae,uM];done)):((bQ c l).length)=(ae (bQ c l)).length) (U (rfl:ae (bQ c l)=ae ((bQ c l))) (U (rfl:ae (bQ c l)=ae ((bQ c l))) (U ((by simp):((bQ c l) != (bQ c l))=false) trivial))))))))) fun ac wd r=>?_
   refine aD.rounds (Φ:=fun (i:Nat) ac wd=>(True)∧RB D w0 K 65 bs [(1,.d (.ro 7 (steps l))),(2,.pt 2 0),(5,.pt 3 0),(6,.d (.ro 7 (steps l))),(7,.sl 4 ((bQ c l).length)),(11,.n i)] [.gw 0 aj,.gw 1 aV,.bx 25 [.z c.au,.d (.ro 2 (ah c.ah)),.d (.ro 1 (ints c.homes))],.bx 25 [.z c.au,.d (.ro 2 (ah c.ah)),.d (.ro 1 (ints c.homes))],.rw 5 1 (ae (iv (bQ c l) i))] ac wd) ((bQ c l).length) ?_ (Nat.zero_le _) ⟨trivial,(r).cast rfl (by simp [iv])⟩
   clear r
   rintro i dv bH ac wd ⟨aq,r⟩
   cases h2:(decide ((((i:Nat):Int):Int)<(((bQ c l).length:Nat):Int))) with
   | false=>
    have cQ:=of_decide_eq_false h2
    refine bg (y:=.d (.v (.bool true))) (N':=[.gw 0 aj,.gw 1 aV]) (rfl) (rfl) ?_
    exact bf tk mo hK rfl ao [(9,[(3,.b false)]),(12,[(2,.ax (.v (.bool true))),(6,.ax (.v (.bool true))),(9,.mem [0,1] (.d (.v (.bool true))) [.gw 0 aj,.gw 1 aV])])] 2000 [0,1] r (by kernel_rfl) (U h2 (U (zu c (by omega) (by omega)) (U (q9 l hl) (U (uU) trivial))))
   | true=>
    have cQ:=of_decide_eq_true h2
    obtain ⟨lB,th⟩:∃ x_,(bQ c l)[i]?=some x_:=⟨_,List.getElem?_eq_getElem (by omega)⟩
    exact cD (todo':=hd Tryz.f3 0) (E':=[(1,.d (.ro 7 (steps l))),(2,.pt 2 0),(5,.pt 3 0),(6,.d (.ro 7 (steps l))),(7,.sl 4 ((bQ c l).length)),(11,.n (i+1))]) (M':=[.gw 0 aj,.gw 1 aV,.bx 25 [.z c.au,.d (.ro 2 (ah c.ah)),.d (.ro 1 (ints c.homes))],.bx 25 [.z c.au,.d (.ro 2 (ah c.ah)),.d (.ro 1 (ints c.homes))],.rw 5 1 (List.set (ae (iv (bQ c l) i)) (i) [.v (.int .u8 ((((lB+1).toNat:Nat):Int)))])]) tk mo hK ao [(9,[(3,.b true)]),(10,[(1,.z (((i+1:Nat):Int)))]),(11,[(2,.n (i)),(3,.ix 0 [.v (.int .u8 (((lB.toNat:Nat):Int)))]),(4,.z ((((lB+1).toNat:Nat):Int))),(5,.n (i)),(6,.ix 0 [.v (.int .u8 (((lB.toNat:Nat):Int)))])])] 2000 [0,1,2,3,4] [1,2,5,6,7,11] r (by kernel_rfl) (U h2 (U (aB ((i:Nat):Int)) (U ((by first | omega | decide | (simp;done) | (simp;omega)):(i)<((bQ c l).length)) (U ((by first | rfl | (simp [ae,uM];done)):((bQ c l).length)≤(ae (iv (bQ c l) i)).length) (U (iY (AD th):(ae (iv (bQ c l) i))[i]?=some [.v (.int .u8 (((lB.toNat:Nat):Int)))]) (U ((NP _):IntKind.u8.wrap ((((lB.toNat:Nat):Int):Int)+1)=(((lB+1).toNat:Nat):Int)) (U (aB ((i:Nat):Int)) (U ((by first | omega | decide | (simp;done) | (simp;omega)):(i)<((bQ c l).length)) (U ((by first | rfl | (simp [ae,uM];done)):((bQ c l).length)≤(ae (iv (bQ c l) i)).length) (U (iY (AD th):(ae (iv (bQ c l) i))[i]?=some [.v (.int .u8 (((lB.toNat:Nat):Int)))]) (U ((wi (by omega)):IntKind.i64.wrap ((((i:Nat):Int):Int)+1)=((i+1:Nat):Int)) trivial))))))))))) fun ac wd r=>bH (by omega) ac wd ⟨trivial,r.cast rfl (by rw [Fe,GM th])⟩
 | true=>
  refine bg (y:=.d (.v (.bool true))) (N':=[.gw 0 aj,.gw 1 aV]) (rfl) (rfl) ?_
  exact bf tk mo hK rfl ao [(1,[(2,.ax (.v (.bool true)))]),(2,[(0,.mem [0,1] (.d (.v (.bool true))) [.gw 0 aj,.gw 1 aV])])] 2000 [0,1] r (by kernel_rfl) (U ((by have k:=A4 c l cx hl hr;rw [h0] at k;exact k):al Tryz.prog 7 [.ag [.z c.au,.d (.ro 2 (ah c.ah)),.d (.ro 1 (ints c.homes))],.d (.ro 7 (steps l))] (.v (.bool true))) (U (uU) trivial))
end Go.Proofs.YtcnpikbbmbombaaGreatDoor
namespace Go.Proofs.YtcnpikbbmbombaaGreatDoor
open Go.RowKit
open Go.Deep
variable {w:World}
def Rs (P:Program) (w:World) (fs:List Field) (off tot:Nat) {α:Type} (row:α→List DV) (ok:α→Prop):Prop:=∀ cs:List Value,cs.length=tot→(∀ f ∈ fs,TR P w f.type ((cs.drop f.offset).take (P.cellsOf f.type)))→∃ x,ok x∧jy w (row x) (cs.drop off)
theorem Rs.nil {P:Program} {tot:Nat}:Rs P w [] tot tot (fun _:Unit=>[]) fun _=>True:=fun cs hl _=>⟨(),trivial,by rw [List.drop_of_length_le (by omega)];exact ⟨rfl,by simp⟩⟩
theorem Rs.cons {P:Program} {f:Field} {fs:List Field} {off k tot:Nat} {α β:Type} {qi:α→List DV} {Cc:β→List DV} {Df:α→Prop} {Dg:β→Prop} (h0:f.offset=off) (hk:P.cellsOf f.type=k) (r:Rd P w f.type qi Df) (rs:Rs P w fs (off+k) tot Cc Dg):Rs P w (f::fs) off tot (fun x:α×β=>qi x.1++Cc x.2) fun x=>Df x.1∧Dg x.2:=fun cs hl hf=>by
 have a0:=hf f List.mem_cons_self
 rw [h0,hk] at a0
 obtain ⟨x,b0,c0⟩:=r _ a0
 obtain ⟨y,b1,c1⟩:=rs cs hl fun g hg=>hf g (List.mem_cons_of_mem _ hg)
 refine ⟨(x,y),⟨b0,b1⟩,?_⟩
 have:=c0.app c1
 rwa [← List.drop_drop,List.take_append_drop] at this
theorem Rd.struct {P:Program} {t tot:Nat} {fs:List Field} {α:Type} {row:α→List DV} {ok:α→Prop} (h:P.underlying t=some (.struct fs.toArray)) (ht:P.cellsOf t=tot) (rs:Rs P w fs 0 tot row ok):Rd P w t row ok:=fun cs hc=>by
 obtain ⟨hl,hf⟩:=hc.struct h
 obtain ⟨x,h1,h2⟩:=rs cs (by omega) (by simpa using hf)
 exact ⟨x,h1,by simpa using h2⟩
theorem mapM_at {α β:Type} {f:α→Option β}:∀ {l:List α} {r:List β},l.mapM f=some r→∀ (j:Nat) x,l[j]?=some x→∃ y,r[j]?=some y∧f x=some y
 | [],_,_,j,x,hx=>by simp at hx
 | z::l,r,h,j,x,hx=>by
  rw [List.mapM_cons] at h
  obtain ⟨y,h1,h2⟩:=Option.bind_eq_some_iff.1 h
  obtain ⟨ys,h3,h4⟩:=Option.bind_eq_some_iff.1 h2
  obtain rfl:y::ys=r:=Option.some.inj h4
  cases j with
  | zero=>simp at hx;subst hx;exact ⟨y,rfl,h1⟩
  | succ j=>simp at hx;obtain ⟨y',h5,h6⟩:=mapM_at h3 j x hx;exact ⟨y',by simpa using h5,h6⟩
def TZ (P:Program) (w:World) (t:TypeId) (cs:List Value) (cap:Nat):Prop:=∃ (H:Type) (enc:TypeId×Value→H) (base:Nat) (sp:Nat→Bool) (held:Bool) (fuel:Nat) (x:DataW H×List MemPlace),DataW.trod enc P w base sp held fuel t cs=some x∧∀ n ∈ x.1.weights P t,n≤cap
section
variable {P:Program} {t e:TypeId} {cs:List Value} {cap:Nat}
theorem TZ.of {H:Type} {enc:TypeId×Value→H} {base:Nat} {sp:Nat→Bool} {held:Bool} {v:Value} {d:DataW H} {ps:List MemPlace} (h:DataW.Trod enc P w base sp held t v d ps) (hw:∀ n ∈ d.weights P t,n≤cap):TZ P w t v.cells.toList cap:=by
 obtain ⟨n,h⟩:=h;exact ⟨H,enc,base,sp,held,n,_,h,hw⟩
theorem TZ.tr (h:TZ P w t cs cap):TR P w t cs:=by
 obtain ⟨H,enc,base,sp,held,fuel,x,h,-⟩:=h;exact ⟨H,enc,base,sp,held,fuel,x,h⟩
theorem TZ.struct {fs:Array Field} (ht:P.underlying t=some (.struct fs)) (h:TZ P w t cs cap):∀ f ∈ fs.toList,TZ P w f.type ((cs.drop f.offset).take (P.cellsOf f.type)) cap:=by
 obtain ⟨H,enc,base,sp,held,fuel,x,h,hw⟩:=h
 cases fuel with
 | zero=>simp [DataW.trod] at h
 | succ fuel=>
  rw [DataW.trod_step] at h;unfold DataW.trodStep at h;simp only [ht] at h
  split at h
  ·intro f hf
   obtain ⟨j,hj,rfl⟩:=List.mem_iff_getElem.1 hf
   obtain ⟨xs,h1,rfl⟩:=Option.map_eq_some_iff.1 h
   obtain ⟨y,hy,yd⟩:=mapM_at h1 j _ (List.getElem?_eq_getElem hj)
   refine ⟨H,enc,base,sp,held,fuel,y,yd,fun n hn=>hw n ?_⟩
   simp only [DataW.weights,ht]
   exact DataW.weights_mem_each (j:=j) (by rw [List.getElem?_map,List.getElem?_eq_getElem hj];rfl) (by rw [List.getElem?_map,hy];rfl) n hn
  ·simp at h
theorem TZ.slice (ht:P.underlying t=some (.slice e)) (hb:1≤P.bytesOf e) {a:Option Addr} {n c:Nat} (h:TZ P w t [.slice a n c] cap):n≤cap:=by
 obtain ⟨H,enc,base,sp,held,fuel,x,h,hw⟩:=h
 rcases open_slice ht h with ⟨h0,_⟩ | ⟨a',len,Ol,m,n',D,Pl,h0,_,CT,L4,hm,rfl,hx⟩
 ·simp at h0;omega
 ·simp at h0
  obtain ⟨-,rfl,-⟩:=h0
  have:=hw _ (by simp only [DataW.weights,ht];exact List.mem_cons_self)
  simp at this
  exact Nat.le_trans (Nat.le_trans (Nat.le_add_right n _) (Nat.le_mul_of_pos_right _ hb)) this
end
theorem Rd.pair {P:Program} {t e:TypeId} (h:P.underlying t=some (.array 2 e)) (he:P.underlying e=some (.int .i64)) (hc:P.cellsOf e=1) (ht:P.cellsOf t=2):Rd P w t (fun x:Int×Int=>[.z x.1,.z x.2]) fun _=>True:=fun cs hr=>by
 obtain ⟨hl,hi⟩:=TR.array h hr
 rw [ht] at hl
 have a0:=hi 0 (by omega)
 have a1:=hi 1 (by omega)
 rw [hc] at a0 a1
 match cs,hl with
 | [x,y],_=>
  obtain ⟨m,-,c0⟩:=(Rd.int he) _ a0
  obtain ⟨k,-,c1⟩:=(Rd.int he) _ a1
  exact ⟨(m,k),trivial,c0.app c1⟩
def r6 (c:bN):List DV:=[.z c.au,.ro 2 (ah c.ah),.ro 1 (ints c.homes)]
theorem rdPair:Rd Tryz.prog w 60 (fun x:Int×Int=>[.z x.1,.z x.2]) fun _=>True:=Rd.pair (e:=3) (by kernel_rfl) (by kernel_rfl) (by kernel_rfl) (by kernel_rfl)
theorem Lx:Rd Tryz.prog w 25 r6 fun _=>True:=
 (Rd.struct (fs:=[⟨"Servers",3,0,false, "", "",0⟩,⟨"Links",22,1,false, "", "",8⟩,⟨"Homes",23,2,false, "", "",32⟩]) (tot:=3) (by kernel_rfl) (by kernel_rfl)
  (Rs.cons rfl (k:=1) (by kernel_rfl) (Rd.int (by kernel_rfl)) (Rs.cons rfl (k:=1) (by kernel_rfl) (Rd.slice (e:=60) (by kernel_rfl) (by kernel_rfl) rdPair) (Rs.cons rfl (k:=1) (by kernel_rfl) (Rd.slice (e:=3) (by kernel_rfl) (by kernel_rfl) (Rd.int (by kernel_rfl))) Rs.nil)))).map
  (fun x=>⟨x.1,x.2.1,x.2.2.1⟩) (fun _=>rfl) fun _ _=>trivial
theorem Ly:Rd Tryz.prog w 42 aG.row aG.Rd:=
 (Rd.struct (fs:=[⟨"Kind",3,0,false, "", "",0⟩,⟨"Node",3,1,false, "", "",8⟩,⟨"Peer",3,2,false, "", "",16⟩,⟨"N",3,3,false, "", "",24⟩,⟨"Bit",3,4,false, "", "",32⟩,⟨"Inc",40,5,false, "", "",40⟩,⟨"Body",31,6,false, "", "",48⟩]) (tot:=7) (by kernel_rfl) (by kernel_rfl)
  (Rs.cons rfl (k:=1) (by kernel_rfl) (Rd.int (by kernel_rfl)) (Rs.cons rfl (k:=1) (by kernel_rfl) (Rd.int (by kernel_rfl)) (Rs.cons rfl (k:=1) (by kernel_rfl) (Rd.int (by kernel_rfl)) (Rs.cons rfl (k:=1) (by kernel_rfl) (Rd.int (by kernel_rfl)) (Rs.cons rfl (k:=1) (by kernel_rfl) (Rd.int (by kernel_rfl)) (Rs.cons rfl (k:=1) (by kernel_rfl) (Rd.u64 (by kernel_rfl)) (Rs.cons rfl (k:=1) (by kernel_rfl) (Rd.slice (e:=5) (by kernel_rfl) (by kernel_rfl) (Rd.byte (by kernel_rfl))) Rs.nil)))))))).map
  (fun x=>⟨x.1,x.2.1,x.2.2.1,x.2.2.2.1,x.2.2.2.2.1,x.2.2.2.2.2.1,x.2.2.2.2.2.2.1⟩) (fun _=>rfl) fun x h=>⟨h.2.2.2.2.2.2.1.1,h.2.2.2.2.2.1⟩
theorem G4:∀ {cs:List Value},cs.length=3→∃ x y z,cs=[x,y,z]
 | [x,y,z],_=>⟨x,y,z,rfl⟩
instance:Inhabited aG:=⟨⟨0,0,0,0,0,0,[]⟩⟩
theorem IG:Rd Tryz.prog w 26 (fun l:List aG=>[.ro 7 (steps l)]) fun l=>l.length≤9223372036854775807∧∀ s ∈ l,s.Rd:=Rd.slice (e:=42) (by kernel_rfl) (by kernel_rfl) Ly
theorem G5 {cs:List Value} {cap:Nat} (h:TZ Tryz.prog w 25 cs cap):∃ c:bN,jy w (r6 c) cs∧c.ah.length≤cap∧c.homes.length≤cap:=by
 obtain ⟨c,-,hr⟩:=Lx cs h.tr
 have hf:=TZ.struct (fs:=#[⟨"Servers",3,0,false, "", "",0⟩,⟨"Links",22,1,false, "", "",8⟩,⟨"Homes",23,2,false, "", "",32⟩]) (by kernel_rfl) h
 obtain ⟨x,y,z,rfl⟩:=G4 hr.1
 have ha:=hf ⟨"Links",22,1,false, "", "",8⟩ (by simp)
 have hb:=hf ⟨"Homes",23,2,false, "", "",32⟩ (by simp)
 rw [show Tryz.prog.cellsOf (⟨"Links",22,1,false, "", "",8⟩:Field).type=1 by kernel_rfl] at ha
 rw [show Tryz.prog.cellsOf (⟨"Homes",23,2,false, "", "",32⟩:Field).type=1 by kernel_rfl] at hb
 refine ⟨c,hr,?_,?_⟩
 ·have d:=hr.2 1 (.ro 2 (ah c.ah)) y rfl rfl
  cases d with | ro X h1 h2 h3 h4=>
  obtain ⟨a,k,rfl,-⟩:=h2
  have:=TZ.slice (e:=60) (by kernel_rfl) (Nat.le_of_ble_eq_true (by kernel_rfl)) ha
  simpa [ah] using this
 ·have d:=hr.2 2 (.ro 1 (ints c.homes)) z rfl rfl
  cases d with | ro X h1 h2 h3 h4=>
  obtain ⟨a,k,rfl,-⟩:=h2
  have:=TZ.slice (e:=3) (by kernel_rfl) (Nat.le_of_ble_eq_true (by kernel_rfl)) hb
  simpa [ints] using this
end Go.Proofs.YtcnpikbbmbombaaGreatDoor
namespace Go.Proofs.YtcnpikbbmbombaaGreatDoor
open Go.RowKit
def lX (F:TypeId→DataW Unit→Option (List Value)) (P:Program) (tot:Nat):List (TypeId×Nat)→List (DataW Unit)→Nat→Option (List Value)
 | [],[],off=>if off=tot then some [] else none
 | q::L,d::ds,off=>if q.2=off then (F q.1 d).bind fun X=>(lX F P tot L ds (off+P.cellsOf q.1)).map fun Y=>X++Y else none
 | _,_,_=>none
def lY (P:Program):Nat→TypeId→DataW Unit→Option (List Value)
 | 0,_,_=>none
 | _+1,t,.lit l=>match P.underlying t,l with
  | some .bool,.bool b=>some [.bool b]
  | some (.int _),.int k m=>some [.int k m]
  | some .string,.string s=>some [.string ⟨s.toArray⟩]
  | _,_=>none
 | n+1,t,.agg ps=>match P.underlying t with
  | some (.struct fs)=>lX (lY P n) P (P.cellsOf t) (fs.toList.map fun f=>(f.type,f.offset)) ps 0
  | some (.array m e)=>lX (lY P n) P (P.cellsOf t) ((List.range m).map fun i=>(e,i*P.cellsOf e)) ps 0
  | _=>none
 | _+1,_,_=>none
theorem ui {F:TypeId→DataW Unit→Option (List Value)} {P:Program} {tot:Nat} {cs:List Value} (hl:cs.length=tot):∀ {L:List (TypeId×Nat)} {ds:List (DataW Unit)} {off:Nat} {X:List Value},(∀ (j:Nat) q d,L[j]?=some q→ds[j]?=some d→∀ X,F q.1 d=some X→(cs.drop q.2).take (P.cellsOf q.1)=X)→lX F P tot L ds off=some X→cs.drop off=X
 | [],[],off,X,_,h=>by
  unfold lX at h
  split at h
  ·simp at h;subst h;rename_i e;exact List.drop_of_length_le (by omega)
  ·simp at h
 | q::L,d::ds,off,X,hq,h=>by
  unfold lX at h
  split at h
  ·rename_i e
   obtain ⟨X0,h0,h1⟩:=Option.bind_eq_some_iff.1 h
   obtain ⟨Y,h2,rfl⟩:=Option.map_eq_some_iff.1 h1
   have a:=hq 0 q d rfl rfl X0 h0
   have b:=ui hl (fun j q' d' g1 g2=>hq (j+1) q' d' (by simpa using g1) (by simpa using g2)) h2
   rw [e] at a
   rw [← a,← b,← List.drop_drop,List.take_append_drop]
  ·simp at h
 | [],_::_,_,_,_,h=>by simp [lX] at h
 | _::_,[],_,_,_,h=>by simp [lX] at h
theorem G6 {P:Program} {w:World} {enc:TypeId×Value→Unit} {base:Nat} {sp:Nat→Bool} {held:Bool}:∀ {n fuel:Nat} {t:TypeId} {cs:List Value} {d:DataW Unit} {p:List MemPlace} {X:List Value},DataW.trod enc P w base sp held fuel t cs=some (d,p)→lY P n t d=some X→cs=X:=by
 intro n
 induction n with
 | zero=>intro fuel t cs d p X _ h;simp [lY] at h
 | succ n ih=>
  intro fuel t cs d p X h hf
  cases fuel with
  | zero=>simp [DataW.trod] at h
  | succ fuel=>
   cases d with
   | lit l=>
    unfold lY at hf
    split at hf
    ·rename_i ht
     rw [DataW.trod_step] at h;unfold DataW.trodStep at h;simp only [ht] at h
     split at h<;>simp_all
    ·rename_i ht
     rw [DataW.trod_step] at h;unfold DataW.trodStep at h;simp only [ht] at h
     split at h<;>simp_all
    ·rename_i ht
     rw [DataW.trod_step] at h;unfold DataW.trodStep at h;simp only [ht] at h
     split at h<;>try simp_all
     rename_i s _ _ _ _
     obtain ⟨-,rfl,-⟩:=h
     subst hf
     simp
    ·simp at hf
   | agg ps=>
    unfold lY at hf
    split at hf
    ·rename_i fs ht
     rw [DataW.trod_step] at h;unfold DataW.trodStep at h;simp only [ht] at h
     split at h
     ·rename_i hlen
      obtain ⟨xs,h1,h2⟩:=Option.map_eq_some_iff.1 h
      simp only [Prod.mk.injEq,DataW.agg.injEq] at h2
      obtain ⟨rfl,-⟩:=h2
      have:=ui hlen (fun j q d g1 g2 Y gY=>?_) hf
      ·simpa using this
      ·rw [List.getElem?_map] at g1 g2
       obtain ⟨f,g3,rfl⟩:=Option.map_eq_some_iff.1 g1
       obtain ⟨y,g4,rfl⟩:=Option.map_eq_some_iff.1 g2
       obtain ⟨y',g5,g6⟩:=mapM_at h1 j f g3
       obtain rfl:y'=y:=Option.some.inj (g5.symm.trans g4)
       exact ih (d:=y'.1) (p:=y'.2) g6 gY
     ·simp at h
    ·rename_i m e ht
     rw [DataW.trod_step] at h;unfold DataW.trodStep at h;simp only [ht] at h
     split at h
     ·rename_i hlen
      obtain ⟨xs,h1,h2⟩:=Option.map_eq_some_iff.1 h
      simp only [Prod.mk.injEq,DataW.agg.injEq] at h2
      obtain ⟨rfl,-⟩:=h2
      have:=ui hlen (fun j q d g1 g2 Y gY=>?_) hf
      ·simpa using this
      ·rw [List.getElem?_map] at g1 g2
       obtain ⟨f,g3,rfl⟩:=Option.map_eq_some_iff.1 g1
       obtain ⟨y,g4,rfl⟩:=Option.map_eq_some_iff.1 g2
       obtain ⟨y',g5,g6⟩:=mapM_at h1 j f g3
       obtain rfl:y'=y:=Option.some.inj (g5.symm.trans g4)
       exact ih (d:=y'.1) (p:=y'.2) g6 gY
     ·simp at h
    ·simp at hf
   | _=>simp [lY] at hf
theorem yL {P:Program} {w:World}:∀ {l:List (String×DataW Unit)} {ps:List MemPlace},DataW.LaidVars P w l ps→∀ {n:String} {d:DataW Unit},(n,d) ∈ l→∃ g t cs fuel p,P.globalNamed n=some g∧(P.globals[g]?).map (·.type)=some t∧w.var? P n=some cs∧DataW.trod (fun _=>()) P w 0 (fun _=>true) false fuel t cs.toList=some (d,p)
 | [],_,_,_,_,hm=>by simp at hm
 | (n0,d0)::r,ps,h,n,d,hm=>by
  obtain ⟨g,t,cs,fuel,p,q,e1,e2,e3,e4,hr,rfl⟩:=h
  rcases List.mem_cons.1 hm with e | hm
  ·obtain ⟨rfl,rfl⟩:=Prod.mk.inj e;exact ⟨g,t,cs,fuel,p,e1,e2,e3,e4⟩
  ·exact yL hr hm
def xH:DV→Value
 | .v x=>x
 | _=>.bool false
def Cd:DV→Bool
 | .v _=>true
 | _=>false
theorem AK {P:Program} {w:World} {laid:List (String×DataW Unit)} (h:laidMet P laid w) {n:String} {d:DataW Unit} (hm:(n,d) ∈ laid) {g t:Nat} (k:Nat) {row:List DV} (hg:P.globalNamed n=some g) (ht:(P.globals[g]?).map (·.type)=some t) (hf:lY P k t d=some (row.map xH)) (hv:row.all Cd=true) {u:Nat}:bw (Gr w) [] u (.gw g row) []:=by
 obtain ⟨ps,hl,-⟩:=h
 obtain ⟨g',t',cs,fuel,p,e1,e2,e3,e4⟩:=yL hl hm
 obtain rfl:g=g':=Option.some.inj (hg.symm.trans e1)
 obtain rfl:t=t':=Option.some.inj (ht.symm.trans e2)
 have hX:=G6 e4 hf
 refine .gw (row.map xH) (by simp) (fun w' hw j x hx=>hw.r7 ?_) fun j c x hc hx=>?_
 ·unfold World.var? at e3
  rw [hg,Option.bind_some] at e3
  split at e3
  ·rename_i bM t' fr hh
   obtain rfl:=Option.some.inj e3
   rw [← hX] at hx
   have h0:((⟨g,0,none⟩:Addr).add j)=⟨g,j,none⟩:=by simp [Addr.add];omega
   rw [h0]
   simp only [World.cell?,hh]
   simpa using hx
  ·simp at e3
 ·have hb:=List.all_eq_true.1 hv c (List.mem_of_getElem? hc)
  rw [List.getElem?_map,hc] at hx
  cases c<;>simp [Cd] at hb
  simp [xH] at hx
  subst hx
  exact .v _
section
variable {w:World} {laid:List (String×DataW Unit)}
theorem Lz:Tryz.prog.globalNamed "caucus/script.shapes"=some 0:=by kernel_rfl
theorem LA:Tryz.prog.globalNamed "internal/strconv.uint64pow10"=some 1:=by kernel_rfl
end
end Go.Proofs.YtcnpikbbmbombaaGreatDoor
namespace Go.Proofs.YtcnpikbbmbombaaGreatDoor
open Go.ChangeShapes Go.WideShapes Go.ChangeAt Go.RowKit
theorem Tryz.laidOut:laidOutB Tryz.prog=true:=by kernel_rfl
theorem Tryz.own:ownKnob Tryz.prog.godebug=none:=by kernel_rfl
theorem LB {w:World} {laid:List (String×DataW Unit)} (h:laidMet Tryz.prog laid w) (h0:("caucus/script.shapes",Rows.laid_caucus_script_shapes) ∈ laid) (h1:("internal/strconv.uint64pow10",Rows.laid_internal_strconv_uint64pow10) ∈ laid):si [.gw 0 aj,.gw 1 aV] (Gr w):=fun u blk hu=>by
 match u,hu with
 | 0,hu=>cases hu;exact AK h h0 (t:=95) 5 Lz (by kernel_rfl) (by kernel_rfl) (by kernel_rfl)
 | 1,hu=>cases hu;exact AK h h1 (t:=158) 5 LA (by kernel_rfl) (by kernel_rfl) (by kernel_rfl)
 | k+2,hu=>simp at hu
theorem JU {w:World} {c:bN} {cs:Array Value} (h:jy w (r6 c) (Value.agg cs).cells.toList):aw (Gr w) [] (.ag [.z c.au,.d (.ro 2 (ah c.ah)),.d (.ro 1 (ints c.homes))]) (.agg cs):=by
 obtain ⟨l⟩:=cs
 refine .ag l h.1 fun j x y h1 h2=>?_
 have e:([.z c.au,.d (.ro 2 (ah c.ah)),.d (.ro 1 (ints c.homes))]:List AV)=(r6 c).map AV.d:=rfl
 rw [e,List.getElem?_map] at h1
 obtain ⟨x',h3,rfl⟩:=Option.map_eq_some_iff.1 h1
 exact .d (h.2 j x' y h3 h2)
theorem G7 {w:World} {l:List aG} {v:Value} {a:Option Addr} {n c:Nat} (e:v=.slice a n c) (h:jy w [.ro 7 (steps l)] v.cells.toList):aw (Gr w) [] (.d (.ro 7 (steps l))) v:=by
 subst e
 exact .d (h.2 0 _ _ rfl rfl)
set_option maxRecDepth 100000 in
theorem Dh (os:Os) (started:os.Started) (H:Type) (enc:TypeId×Value→H):
  ReturnsInHanded {} Tryz.checked os 3 .any (fun w args=>(Rows.scriptEncodesSpec.pre enc Tryz.prog Tryz.f3 [] false w args∧laidMetH Tryz.prog Rows.scriptEncodesRow.laid w)∧sizedMet enc Tryz.prog Tryz.f3 (OpenSpec.ofChange Rows.scriptEncodesSpec) false w args)
   (Rows.scriptEncodesSpec.post enc Tryz.prog Tryz.f3 false true false false):=by
 refine returnsInHanded_of_change_and (C:=Tryz.checked) (X:=fun w _=>laidMetH Tryz.prog Rows.scriptEncodesRow.laid w) (fun _ _ _ hh h=>h.of_heap hh) Tryz.own started (by kernel_rfl) Tryz.func3
  (ChangeSpec.witness_shaped (enc:=enc) (C:=Tryz.checked) (os:=os) (X:=fun w _=>laidMetH Tryz.prog Rows.scriptEncodesRow.laid w) false (World.laidAll Tryz.prog os Rows.scriptEncodesRow.laid) #[.agg #[.int .i64 0,.slice none 0 0,.slice none 0 0],.slice none 0 0] 8 (World.laidAll_os _ _ _) (World.shaped_of_ZipB (by kernel_rfl) (by kernel_rfl)) (by kernel_rfl) (by kernel_rfl) (by kernel_rfl)
   (by rw [MakeChecks.laidMetH_plain _ _ _ (by kernel_rfl)];exact laidMet_laidAll _ (by kernel_rfl) (by kernel_rfl))) ?_
 intro W base args ds gs before LC hW _ bu hX _
 have yh:DataW.Whole enc Tryz.prog Tryz.f3.params.toList Rows.scriptEncodesSpec.vars false W args.toList ds gs before:=hW
 obtain ⟨p,q,N1,hV,rfl,Ns,fV⟩:=hW
 have hA:DataW.TrodAll enc Tryz.prog W 0 (fun _=>true) true Tryz.f3.params.toList args.toList ds p:=N1
 have kT:∀ (j:Nat) t v,Tryz.f3.params[j]?=some t→args[j]?=some v→Value.okWide Tryz.prog W .any base t v:=LC
 rw [Tryz.params3] at hA kT
 obtain ⟨v0,Pc,d0,Pd,p0,q0,N3,rfl,rfl,h0,r0⟩:=trodAll_cons hA
 obtain ⟨v1,Pe,d1,Pf,p1,q1,JV,rfl,rfl,h1,r1⟩:=trodAll_cons r0
 subst JV
 obtain ⟨rfl,rfl,rfl⟩:=trodAll_nil r1
 obtain rfl:args=#[v0,v1]:=by cases args;simp_all
 obtain ⟨rfl,rfl⟩:=trodVars_none hV
 have xY:∀ n ∈ d0.weights Tryz.prog 25,n≤reachBytes:=fun n hn=>by simpa using List.all_eq_true.1 bu n (DataW.weights_mem_each (j:=0) (by rw [Tryz.params3];rfl) rfl n hn)
 obtain ⟨N2,rfl,-,-⟩:∃ cs,v0=.agg cs∧_∧_:=by have:=kT 0 25 v0 rfl rfl;rw [Value.okWide,Tryz.underlying25] at this;exact this
 obtain ⟨a1,n1,c1,cZ⟩:=okWide_slice (P:=Tryz.prog) (e:=42) (by kernel_rfl) (kT 1 26 v1 rfl rfl)
 obtain ⟨c,hc,ft,gP⟩:=G5 (TZ.of h0 xY)
 obtain ⟨l,⟨hl,hr⟩,hs⟩:=IG _ (TR.of h1)
 have Pg:=reachBytes_lt
 refine (aC.Jd (Ej c l (by omega) hl hr) (LB ((MakeChecks.laidMetH_plain _ _ _ (by kernel_rfl)).mp hX) (by simp [Rows.scriptEncodesRow]) (by simp [Rows.scriptEncodesRow])) (ys:=[.agg N2,v1]) rfl fun j x y e1 e2=>?_).mono fun e W' ⟨he,hg⟩=>?_
 ·match j,e1,e2 with
  | 0,e1,e2=>cases e1;cases e2;exact JU hc
  | 1,e1,e2=>cases e1;cases e2;exact G7 cZ hs
  | k+2,e1,e2=>simp at e1
 ·subst he
  exact ⟨_,rfl,Gp Tryz.laidOut (by kernel_rfl) (by kernel_rfl) Tryz.underlying4 rfl yh rfl hg⟩
end Go.Proofs.YtcnpikbbmbombaaGreatDoor
namespace Go.Proofs.YtcnpikbbmbombaaGreatDoor
open Go.ChangeShapes Go.WideShapes Go.ChangeAt Go.RowKit
theorem Di:joinedFacts Tryz.pinned.checked.prog 3 Tryz.f3 Rows.scriptEncodesSpec Rows.scriptEncodesRow=true:=by kernel_rfl
theorem Dj:Rows.ScriptEncodesSaid:=
 OpenClaim.holds_of_wide 3 Tryz.f3 rfl rfl rfl rfl rfl rfl rfl ⟨rfl,rfl,rfl,rfl,rfl⟩ rfl rfl rfl rfl rfl (by kernel_rfl) Tryz.func3 Di
  (of_decide_eq_true (by kernel_rfl)) (by unfold Func.isWrapper;first | (rw [if_pos (by decide +kernel)];kernel_rfl) | (rw [if_neg (by decide +kernel)];exact ⟨rfl,rfl⟩))
  (fun os started H enc _=>Dh os started H enc)
end Go.Proofs.YtcnpikbbmbombaaGreatDoor
namespace Go.Proofs.YtcnpikbbmbombaaGreatDoor
open Go.ChangeShapes Go.WideShapes Go.ChangeAt Go.RowKit
theorem Fs:Tryz.prog.funcs.any Func.goes=false:=by kernel_rfl
theorem IH {P:Program} (h:P.funcs.any Func.goes=false) (f:FuncId):P.goes f=false:=by
 have h1:∀ (g:Nat) fn,P.funcs[g]?=some fn→fn.goes=false:=fun g fn hg=>by
  have:=Array.any_eq_false.1 h g (Array.getElem?_eq_some_iff.1 hg).1
  obtain ⟨aM,rfl⟩:=Array.getElem?_eq_some_iff.1 hg
  simpa using this
 unfold Program.goes
 rw [h,Bool.and_false,Bool.or_false,List.any_eq_false]
 intro g _
 cases hg:P.funcs[g]? with
 | none=>simp
 | some fn=>simp [h1 g fn hg]
theorem Ft {P:Program} {c:OpenClaim} (hs:c.start=.entering) (h:P.funcs.any Func.goes=false):false=c.goesBy P:=by
 unfold OpenClaim.goesBy Program.goesAt Program.goesFrom
 rw [hs]
 cases P.funcNamed c.func with
 | none=>rfl
 | some f=>simp [IH h f]
theorem JW:Tryz.pinned.checked.prog.wantsStandIn 25=false:=by kernel_rfl
theorem JX:Tryz.pinned.checked.prog.wantsStandIn 26=false:=by kernel_rfl
theorem scriptEncodes_card:Rows.ScriptEncodesCardSaid:=
 Claim7.holds_tied_plain_at .later [] [.data,.data,.data,.data,.data,.pinned] true (true, "87fd9ac5dc35926ba142226b58e4c3bd046d15fb1e4227dfba02688f131c99bf") false Dj (fun _ h=>by cases h) (by kernel_rfl) (fun _ h=>by cases h) scriptEncodes_row_tie rfl ⟨rfl,rfl⟩ (by kernel_rfl) rfl
  (fun f fn hf mB=>by
   obtain rfl:f=3:=Option.some.inj ((show Tryz.prog.funcNamed "caucus/caucuslaw27.ScriptEncodes"=some 3 by kernel_rfl).symm.trans hf) |>.symm
   obtain rfl:fn=Tryz.f3:=(Option.some.inj (Tryz.func3.symm.trans mB)).symm
   exact ⟨by kernel_rfl,fun j t ht=>by
    rw [Tryz.params3] at ht
    match j,ht with
    | 0,ht=>
     obtain rfl:t=25:=by simpa using ht.symm
     exact JW
    | 1,ht=>
     obtain rfl:t=26:=by simpa using ht.symm
     exact JX
    | k+2,ht=>simp at ht⟩)
  (Ft rfl Fs)
end Go.Proofs.YtcnpikbbmbombaaGreatDoor
