/-
  overlayTwice_holds, part 6 of 7: merged by program from the texts that it needs.
-/
import Derived.Test.YtlinpknagdgphaaGreatOtD
import Derived.Test.YtlinpknagdgphaaGreatOtE
set_option linter.unusedSimpArgs false
set_option linter.unusedVariables false
set_option linter.unnecessarySimpa false
namespace Go.Proofs.YtlinpknagdgphaaGreat
open Go.RowKit
noncomputable def ov (q:Prop):Bool:=@decide q (Classical.propDecidable q)
theorem qq {q:Prop} (h:q):ov q=true:=@decide_eq_true q (Classical.propDecidable q) h
theorem v8 {q:Prop} (h:¬ q):ov q=false:=@decide_eq_false q (Classical.propDecidable q) h
theorem v9 {q:Prop} (h:ov q=true):q:=@of_decide_eq_true q (Classical.propDecidable q) h
theorem zx {q:Prop} (h:ov q=false):¬ q:=@of_decide_eq_false q (Classical.propDecidable q) h
structure bJ where
 kind:Int
 src:ah
 cn:Int
 al:List Hd
 body:List UInt8
 ad:aw
def bJ.at (p:bJ) (i:Nat):Prop:=∀ h,p.al[i]?=some h→1≤h.dst∧h.dst≤10∧h.dst≠p.src.node∧1≤h.conn∧h.conn≤34359738367∧∀ q,0<i→p.al[i-1]?=some q→q.dst<h.dst
def bJ.nT (p:bJ):Prop:=p.src.jo=true∧0≤p.cn∧p.cn≤8∧0<p.al.length∧p.ad.server=⟨0,0⟩∧p.ad.seq=0∧p.ad.ay.length=0∧∀ i,p.at i
def bJ.data (p:bJ):Prop:=p.nT∧1≤p.body.length∧p.body.length≤320∧∀ (i:Nat) h,p.al[i]?=some h→1≤h.seq∧h.seq≤34359738367∧h.inc=0
def bJ.m4 (p:bJ):Prop:=p.nT∧p.al.length=1∧p.body.length=0∧∀ h,p.al[0]?=some h→h.seq≤34359738367∧1≤h.inc∧h.inc≤34359738367
noncomputable def bJ.fb (p:bJ):Bool:=ov p.nT
noncomputable def bJ.iw (p:bJ):Bool:=ov p.data
noncomputable def bJ.iC (p:bJ):Bool:=ov p.m4
noncomputable def bJ.may (p:bJ):Bool:=ov ((p.kind=1∧p.src=⟨0,0⟩∧p.cn=0∧p.al.length=0∧p.body.length=0∧p.ad.may=true)∨(p.kind=2∧p.data)∨(p.kind=3∧p.m4))
abbrev bE (p:bJ):List AV:=[.z p.kind,.z p.src.node,.u p.src.inc,.z p.cn,.d (.ro 4 (al p.al)),.d (.ro 1 (bc p.body)),.z p.ad.server.node,.u p.ad.server.inc,.u p.ad.seq,.d (.ro 2 (procs p.ad.ay))]
theorem Nu {p:bJ} (h:p.nT):(.v (.bool p.fb):DV)=.v (.bool true):=by unfold bJ.fb;rw [qq h]
theorem kg {p:bJ} (h:¬ p.nT):(.v (.bool p.fb):DV)=.v (.bool false):=by unfold bJ.fb;rw [v8 h]
theorem Nv {p:bJ} (h:p.data):(.v (.bool p.iw):DV)=.v (.bool true):=by unfold bJ.iw;rw [qq h]
theorem su {p:bJ} (h:¬ p.data):(.v (.bool p.iw):DV)=.v (.bool false):=by unfold bJ.iw;rw [v8 h]
theorem OO {p:bJ} (h:p.m4):(.v (.bool p.iC):DV)=.v (.bool true):=by unfold bJ.iC;rw [qq h]
theorem sE {p:bJ} (h:¬ p.m4):(.v (.bool p.iC):DV)=.v (.bool false):=by unfold bJ.iC;rw [v8 h]
theorem zy {p:bJ} (h:(p.kind=1∧p.src=⟨0,0⟩∧p.cn=0∧p.al.length=0∧p.body.length=0∧p.ad.may=true)∨(p.kind=2∧p.data)∨(p.kind=3∧p.m4)):(.v (.bool p.may):DV)=.v (.bool true):=by unfold bJ.may;rw [qq h]
theorem nu {p:bJ} (h:¬ ((p.kind=1∧p.src=⟨0,0⟩∧p.cn=0∧p.al.length=0∧p.body.length=0∧p.ad.may=true)∨(p.kind=2∧p.data)∨(p.kind=3∧p.m4))):(.v (.bool p.may):DV)=.v (.bool false):=by unfold bJ.may;rw [v8 h]
theorem EX {p:bJ} (h:p.fb=true):p.nT:=by unfold bJ.fb at h;exact v9 h
theorem lB {p:bJ} (h:p.fb=false):¬ p.nT:=by unfold bJ.fb at h;exact zx h
theorem yO {p:bJ} (h:p.iw=true):p.data:=by unfold bJ.iw at h;exact v9 h
theorem ni {p:bJ} (h:p.iw=false):¬ p.data:=by unfold bJ.iw at h;exact zx h
theorem zA {p:bJ} (h:p.iC=true):p.m4:=by unfold bJ.iC at h;exact v9 h
theorem nn {p:bJ} (h:p.iC=false):¬ p.m4:=by unfold bJ.iC at h;exact zx h
theorem r5 {p:bJ} (h:p.may=true):(p.kind=1∧p.src=⟨0,0⟩∧p.cn=0∧p.al.length=0∧p.body.length=0∧p.ad.may=true)∨(p.kind=2∧p.data)∨(p.kind=3∧p.m4):=by unfold bJ.may at h;exact v9 h
theorem EY {p:bJ} (h:p.nT):p.al.length≤10:=by
 have key:∀ (i:Nat) (hd:Hd),p.al[i]?=some hd→(i:Int)+1≤hd.dst:=by
  intro i
  induction i with
  | zero=>intro hd g;have:=(h.2.2.2.2.2.2.2 0 hd g).1;omega
  | succ i ih=>
   intro hd g
   have aK:=(List.getElem?_eq_some_iff.1 g).1
   have g0:p.al[i]?=some p.al[i]:=List.getElem?_eq_getElem (by omega)
   have h1:=ih _ g0
   have h2:=(h.2.2.2.2.2.2.2 (i+1) hd g).2.2.2.2.2 p.al[i] (by omega) (by rw [Nat.add_sub_cancel];exact g0)
   omega
 rcases Nat.lt_or_ge p.al.length 11 with hl | hl
 ·omega
 ·have g:p.al[10]?=some p.al[10]:=List.getElem?_eq_getElem (by omega)
  have h1:=key 10 _ g
  have h2:=(h.2.2.2.2.2.2.2 10 _ g).2.1
  omega
theorem qs {p:bJ} (h:p.may=true):p.al.length≤10∧p.body.length≤320:=by
 rcases r5 h with h | h | h
 ·omega
 ·exact ⟨EY h.2.1,h.2.2.2.1⟩
 ·exact ⟨EY h.2.1,by have:=h.2.2.2.1;omega⟩
set_option maxRecDepth 100000 in
theorem wa (p:bJ) (dm:p.al.length≤9223372036854775807) (cH:p.body.length≤9223372036854775807) (c9:p.ad.ay.length≤9223372036854775807):aD Tryz.prog 55 [.ag (bE p)] (DV.v (.bool p.fb)):=by
 refine aD.intro (by kernel_rfl) rfl rfl 88 rfl rfl fun w0 K ac hK r=>?_
 cases h0:(p.src.jo) with
 | false=>
  rw [show (DV.v (.bool p.fb):DV)=.v (.bool false) from (kg (fun hh=>by obtain ⟨a1,a2,a3,a4,a5,a6,a7,a8⟩:=hh;first | omega | (simp_all;done) | (have k:=a8 i hx gh;omega) | (have k:=(a8 i hx gh).2.2.2.2.2 hy (by omega) gy;omega)))]
  exact aQ tk tq hK rfl [(1,[(2,.aJ (.v (.bool false)))])] 2000 r (by kernel_rfl) (U ((by have k:=vT p.src;rw [h0] at k;exact k):aD Tryz.prog 66 [.ag [.z p.src.node,.u p.src.inc]] (.v (.bool false))) trivial)
 | true=>
  have bd:=((by have k:=vT p.src;rw [h0] at k;exact k):aD Tryz.prog 66 [.ag [.z p.src.node,.u p.src.inc]] (.v (.bool true)))
  cases h1:(decide ((p.cn:Int)<0)) with
  | false=>
   have bN:=of_decide_eq_false h1
   cases h2:(decide ((8:Int)<p.cn)) with
   | false=>
    have b7:=of_decide_eq_false h2
    have b3:=((by first | rfl | (simp [cb,bc];done)):(((al p.al).length:Nat):Int)=((p.al.length:Nat):Int))
    cases h3:((((p.al.length:Nat):Int):Int)==0) with
    | false=>
     have eV:=ne_of_beq_false h3
     cases h4:(decide (p.ad.server=⟨0,0⟩)) with
     | false=>
      have eA:=of_decide_eq_false h4
      rw [show (DV.v (.bool p.fb):DV)=.v (.bool false) from (kg (fun hh=>by obtain ⟨a1,a2,a3,a4,a5,a6,a7,a8⟩:=hh;first | omega | (simp_all;done) | (have k:=a8 i hx gh;omega) | (have k:=(a8 i hx gh).2.2.2.2.2 hy (by omega) gy;omega)))]
      exact aQ tk tq hK rfl [(1,[(2,.aJ (.v (.bool true))),(7,.b false),(12,.b false),(17,.z (((p.al.length:Nat):Int))),(18,.b false)]),(3,[(4,.b false)])] 2000 r (by kernel_rfl) (U bd (U h1 (U h2 (U b3 (U h3 (U ((ez (eN p.ad.server ⟨0,0⟩) h4):dK Tryz.prog 24 [(.int .i64 (p.ad.server.node)),(.int .u64 (((p.ad.server.inc:Nat):Int)))] [(.int .i64 (0)),(.int .u64 (0))] false) trivial))))))
     | true=>
      have eA:=of_decide_eq_true h4
      have cy:=((ez (eN p.ad.server ⟨0,0⟩) h4):dK Tryz.prog 24 [(.int .i64 (p.ad.server.node)),(.int .u64 (((p.ad.server.inc:Nat):Int)))] [(.int .i64 (0)),(.int .u64 (0))] true)
      cases h5:((((p.ad.seq:Nat):Int):Int) != 0) with
      | false=>
       have ib:=gK h5
       have db:=((by first | rfl | (simp [cb,bc];done)):(((procs p.ad.ay).length:Nat):Int)=((p.ad.ay.length:Nat):Int))
       cases h6:((((p.ad.ay.length:Nat):Int):Int) != 0) with
       | false=>
        have lr:=gK h6
        refine bU (todo':=hd Tryz.f55 0) (E':=[(1,.pt 0 0),(44,.d (.ro 4 (al p.al))),(45,.n p.al.length),(46,.z 0)]) (M':=[.bx 33 (bE p)]) tk tq hK [(1,[(2,.aJ (.v (.bool true))),(7,.b false),(12,.b false),(17,.z (((p.al.length:Nat):Int))),(18,.b false)]),(3,[(4,.b true),(9,.b false),(15,.z (((p.ad.ay.length:Nat):Int))),(16,.b false)]),(5,[(2,.z (((p.al.length:Nat):Int)))])] 2000 [0] [1,44,45,46] r (by kernel_rfl) (U bd (U h1 (U h2 (U b3 (U h3 (U cy (U h5 (U db (U h6 (U b3 trivial)))))))))) fun ac wd r=>?_
        refine aN.rounds (Φ:=fun (i:Nat) ac wd=>(i≤p.al.length∧∀ j,j<i→p.at j)∧ec [] w0 K 88 [(1,.pt 0 0),(44,.d (.ro 4 (al p.al))),(45,.n p.al.length),(46,.n i)] [.bx 33 (bE p)] ac wd) (p.al.length) ?_ (Nat.zero_le _) ⟨⟨Nat.zero_le _,fun j h=>absurd h (Nat.not_lt_zero _)⟩,(r).cast rfl rfl⟩
        clear r
        rintro i cI bo ac wd ⟨aM,r⟩
        cases h7:(decide ((((i:Nat):Int):Int)<((p.al.length:Nat):Int))) with
        | false=>
         have gE:=of_decide_eq_false h7
         rw [show (DV.v (.bool p.fb):DV)=.v (.bool true) from (Nu ⟨by assumption,by omega,by omega,by omega,of_decide_eq_true (by assumption),by omega,by omega,fun j=>by rcases Nat.lt_or_ge j i with hj | hj;exact aM.2 j hj;intro h g;exact absurd (List.getElem?_eq_some_iff.1 g).1 (by omega)⟩)]
         exact aQ tk tq hK rfl [(6,[(0,.b false)])] 2000 r (by kernel_rfl) (U h7 trivial)
        | true=>
         have gE:=of_decide_eq_true h7
         obtain ⟨hx,gh⟩:∃ x,p.al[i]?=some x:=⟨_,List.getElem?_eq_getElem (by omega)⟩
         have Tv:0<i→∃ x,p.al[i-1]?=some x:=fun _=>⟨_,List.getElem?_eq_getElem (by omega)⟩
         cases h8:(decide ((hx.dst:Int)<1)) with
         | false=>
          have lq:=of_decide_eq_false h8
          cases h9:(decide ((10:Int)<hx.dst)) with
          | false=>
           have uv:=of_decide_eq_false h9
           cases cD:((hx.dst:Int)==p.src.node) with
           | false=>
            have o9:=ne_of_beq_false cD
            cases et:(decide (1≤hx.conn∧hx.conn≤34359738367)) with
            | false=>
             have tl:=of_decide_eq_false et
             rw [show (DV.v (.bool p.fb):DV)=.v (.bool false) from (kg (fun hh=>by obtain ⟨a1,a2,a3,a4,a5,a6,a7,a8⟩:=hh;first | omega | (simp_all;done) | (have k:=a8 i hx gh;omega) | (have k:=(a8 i hx gh).2.2.2.2.2 hy (by omega) gy;omega)))]
             exact aQ tk tq hK rfl [(6,[(0,.b true)]),(7,[(1,.ix (i) [.z hx.dst,.u hx.conn,.u hx.seq,.u hx.inc])]),(8,[(2,.b false),(6,.b false),(14,.b false),(19,.aJ (.v (.bool false)))])] 2000 r (by kernel_rfl) (U h7 (U (aX ((i:Nat):Int)) (U (fS gh) (U h8 (U h9 (U cD (U ((by have k:=kc hx.conn 1;rw [et] at k;exact k):aD Tryz.prog 52 [.u hx.conn,.d (.v (.int .u64 1))] (.v (.bool false))) trivial)))))))
            | true=>
             have tl:=of_decide_eq_true et
             have cZ:=((by have k:=kc hx.conn 1;rw [et] at k;exact k):aD Tryz.prog 52 [.u hx.conn,.d (.v (.int .u64 1))] (.v (.bool true)))
             cases jw:(decide ((0:Int)<((i:Nat):Int))) with
             | false=>
              have B0:=of_decide_eq_false jw
              exact bU (todo':=hd Tryz.f55 0) (E':=[(1,.pt 0 0),(44,.d (.ro 4 (al p.al))),(45,.n p.al.length),(46,.n (i+1))]) (M':=[.bx 33 (bE p)]) tk tq hK [(6,[(0,.b true)]),(7,[(1,.ix (i) [.z hx.dst,.u hx.conn,.u hx.seq,.u hx.inc])]),(8,[(2,.b false),(6,.b false),(14,.b false),(19,.aJ (.v (.bool true)))]),(10,[(1,.b false)]),(12,[(0,.z (((i+1:Nat):Int)))])] 2000 [0] [1,44,45,46] r (by kernel_rfl) (U h7 (U (aX ((i:Nat):Int)) (U (fS gh) (U h8 (U h9 (U cD (U cZ (U jw (U ((wi (by omega)):IntKind.i64.wrap ((((i:Nat):Int):Int)+1)=((i+1:Nat):Int)) trivial))))))))) fun ac wd r=>bo (by omega) ac wd ⟨⟨by omega,fun j hj=>by rcases Nat.lt_succ_iff_lt_or_eq.1 hj with h | rfl;exact aM.2 j h;intro h g;rw [gh] at g;cases g;exact ⟨by omega,by omega,by omega,by omega,by omega,fun q h0 gq=>by first | omega | (rw [gy] at gq;cases gq;omega)⟩⟩,r.cast rfl rfl⟩
             | true=>
              have B0:=of_decide_eq_true jw
              obtain ⟨hy,gy⟩:=Tv (by omega)
              have dp:=((wi (by omega)):IntKind.i64.wrap ((((i:Nat):Int):Int)-1)=((i-1:Nat):Int))
              cases m5:(decide ((hx.dst:Int)≤hy.dst)) with
              | false=>
               have B1:=of_decide_eq_false m5
               exact bU (todo':=hd Tryz.f55 0) (E':=[(1,.pt 0 0),(44,.d (.ro 4 (al p.al))),(45,.n p.al.length),(46,.n (i+1))]) (M':=[.bx 33 (bE p)]) tk tq hK [(6,[(0,.b true)]),(7,[(1,.ix (i) [.z hx.dst,.u hx.conn,.u hx.seq,.u hx.inc])]),(8,[(2,.b false),(6,.b false),(14,.b false),(19,.aJ (.v (.bool true)))]),(10,[(1,.b true),(6,.z (((i-1:Nat):Int))),(7,.ix (i-1) [.z hy.dst,.u hy.conn,.u hy.seq,.u hy.inc]),(12,.b false)]),(12,[(0,.z (((i+1:Nat):Int)))])] 2000 [0] [1,44,45,46] r (by kernel_rfl) (U h7 (U (aX ((i:Nat):Int)) (U (fS gh) (U h8 (U h9 (U cD (U cZ (U jw (U dp (U (aX ((i-1:Nat):Int)) (U (fS gy) (U m5 (U ((wi (by omega)):IntKind.i64.wrap ((((i:Nat):Int):Int)+1)=((i+1:Nat):Int)) trivial))))))))))))) fun ac wd r=>bo (by omega) ac wd ⟨⟨by omega,fun j hj=>by rcases Nat.lt_succ_iff_lt_or_eq.1 hj with h | rfl;exact aM.2 j h;intro h g;rw [gh] at g;cases g;exact ⟨by omega,by omega,by omega,by omega,by omega,fun q h0 gq=>by first | omega | (rw [gy] at gq;cases gq;omega)⟩⟩,r.cast rfl rfl⟩
              | true=>
               have B1:=of_decide_eq_true m5
               rw [show (DV.v (.bool p.fb):DV)=.v (.bool false) from (kg (fun hh=>by obtain ⟨a1,a2,a3,a4,a5,a6,a7,a8⟩:=hh;first | omega | (simp_all;done) | (have k:=a8 i hx gh;omega) | (have k:=(a8 i hx gh).2.2.2.2.2 hy (by omega) gy;omega)))]
               exact aQ tk tq hK rfl [(6,[(0,.b true)]),(7,[(1,.ix (i) [.z hx.dst,.u hx.conn,.u hx.seq,.u hx.inc])]),(8,[(2,.b false),(6,.b false),(14,.b false),(19,.aJ (.v (.bool true)))]),(10,[(1,.b true),(6,.z (((i-1:Nat):Int))),(7,.ix (i-1) [.z hy.dst,.u hy.conn,.u hy.seq,.u hy.inc]),(12,.b true)])] 2000 r (by kernel_rfl) (U h7 (U (aX ((i:Nat):Int)) (U (fS gh) (U h8 (U h9 (U cD (U cZ (U jw (U dp (U (aX ((i-1:Nat):Int)) (U (fS gy) (U m5 trivial))))))))))))
           | true=>
            have o9:=eq_of_beq cD
            rw [show (DV.v (.bool p.fb):DV)=.v (.bool false) from (kg (fun hh=>by obtain ⟨a1,a2,a3,a4,a5,a6,a7,a8⟩:=hh;first | omega | (simp_all;done) | (have k:=a8 i hx gh;omega) | (have k:=(a8 i hx gh).2.2.2.2.2 hy (by omega) gy;omega)))]
            exact aQ tk tq hK rfl [(6,[(0,.b true)]),(7,[(1,.ix (i) [.z hx.dst,.u hx.conn,.u hx.seq,.u hx.inc])]),(8,[(2,.b false),(6,.b false),(14,.b true)])] 2000 r (by kernel_rfl) (U h7 (U (aX ((i:Nat):Int)) (U (fS gh) (U h8 (U h9 (U cD trivial))))))
          | true=>
           have uv:=of_decide_eq_true h9
           rw [show (DV.v (.bool p.fb):DV)=.v (.bool false) from (kg (fun hh=>by obtain ⟨a1,a2,a3,a4,a5,a6,a7,a8⟩:=hh;first | omega | (simp_all;done) | (have k:=a8 i hx gh;omega) | (have k:=(a8 i hx gh).2.2.2.2.2 hy (by omega) gy;omega)))]
           exact aQ tk tq hK rfl [(6,[(0,.b true)]),(7,[(1,.ix (i) [.z hx.dst,.u hx.conn,.u hx.seq,.u hx.inc])]),(8,[(2,.b false),(6,.b true)])] 2000 r (by kernel_rfl) (U h7 (U (aX ((i:Nat):Int)) (U (fS gh) (U h8 (U h9 trivial)))))
         | true=>
          have lq:=of_decide_eq_true h8
          rw [show (DV.v (.bool p.fb):DV)=.v (.bool false) from (kg (fun hh=>by obtain ⟨a1,a2,a3,a4,a5,a6,a7,a8⟩:=hh;first | omega | (simp_all;done) | (have k:=a8 i hx gh;omega) | (have k:=(a8 i hx gh).2.2.2.2.2 hy (by omega) gy;omega)))]
          exact aQ tk tq hK rfl [(6,[(0,.b true)]),(7,[(1,.ix (i) [.z hx.dst,.u hx.conn,.u hx.seq,.u hx.inc])]),(8,[(2,.b true)])] 2000 r (by kernel_rfl) (U h7 (U (aX ((i:Nat):Int)) (U (fS gh) (U h8 trivial))))
       | true=>
        have lr:¬ _=_:=bne_iff_ne.1 h6
        rw [show (DV.v (.bool p.fb):DV)=.v (.bool false) from (kg (fun hh=>by obtain ⟨a1,a2,a3,a4,a5,a6,a7,a8⟩:=hh;first | omega | (simp_all;done) | (have k:=a8 i hx gh;omega) | (have k:=(a8 i hx gh).2.2.2.2.2 hy (by omega) gy;omega)))]
        exact aQ tk tq hK rfl [(1,[(2,.aJ (.v (.bool true))),(7,.b false),(12,.b false),(17,.z (((p.al.length:Nat):Int))),(18,.b false)]),(3,[(4,.b true),(9,.b false),(15,.z (((p.ad.ay.length:Nat):Int))),(16,.b true)])] 2000 r (by kernel_rfl) (U bd (U h1 (U h2 (U b3 (U h3 (U cy (U h5 (U db (U h6 trivial)))))))))
      | true=>
       have ib:¬ _=_:=bne_iff_ne.1 h5
       rw [show (DV.v (.bool p.fb):DV)=.v (.bool false) from (kg (fun hh=>by obtain ⟨a1,a2,a3,a4,a5,a6,a7,a8⟩:=hh;first | omega | (simp_all;done) | (have k:=a8 i hx gh;omega) | (have k:=(a8 i hx gh).2.2.2.2.2 hy (by omega) gy;omega)))]
       exact aQ tk tq hK rfl [(1,[(2,.aJ (.v (.bool true))),(7,.b false),(12,.b false),(17,.z (((p.al.length:Nat):Int))),(18,.b false)]),(3,[(4,.b true),(9,.b true)])] 2000 r (by kernel_rfl) (U bd (U h1 (U h2 (U b3 (U h3 (U cy (U h5 trivial)))))))
    | true=>
     have eV:=eq_of_beq h3
     rw [show (DV.v (.bool p.fb):DV)=.v (.bool false) from (kg (fun hh=>by obtain ⟨a1,a2,a3,a4,a5,a6,a7,a8⟩:=hh;first | omega | (simp_all;done) | (have k:=a8 i hx gh;omega) | (have k:=(a8 i hx gh).2.2.2.2.2 hy (by omega) gy;omega)))]
     exact aQ tk tq hK rfl [(1,[(2,.aJ (.v (.bool true))),(7,.b false),(12,.b false),(17,.z (((p.al.length:Nat):Int))),(18,.b true)])] 2000 r (by kernel_rfl) (U bd (U h1 (U h2 (U b3 (U h3 trivial)))))
   | true=>
    have b7:=of_decide_eq_true h2
    rw [show (DV.v (.bool p.fb):DV)=.v (.bool false) from (kg (fun hh=>by obtain ⟨a1,a2,a3,a4,a5,a6,a7,a8⟩:=hh;first | omega | (simp_all;done) | (have k:=a8 i hx gh;omega) | (have k:=(a8 i hx gh).2.2.2.2.2 hy (by omega) gy;omega)))]
    exact aQ tk tq hK rfl [(1,[(2,.aJ (.v (.bool true))),(7,.b false),(12,.b true)])] 2000 r (by kernel_rfl) (U bd (U h1 (U h2 trivial)))
  | true=>
   have bN:=of_decide_eq_true h1
   rw [show (DV.v (.bool p.fb):DV)=.v (.bool false) from (kg (fun hh=>by obtain ⟨a1,a2,a3,a4,a5,a6,a7,a8⟩:=hh;first | omega | (simp_all;done) | (have k:=a8 i hx gh;omega) | (have k:=(a8 i hx gh).2.2.2.2.2 hy (by omega) gy;omega)))]
   exact aQ tk tq hK rfl [(1,[(2,.aJ (.v (.bool true))),(7,.b true)])] 2000 r (by kernel_rfl) (U bd (U h1 trivial))
set_option maxRecDepth 100000 in
theorem Eh (p:bJ) (dm:p.al.length≤9223372036854775807) (cH:p.body.length≤9223372036854775807) (c9:p.ad.ay.length≤9223372036854775807):aD Tryz.prog 38 [.ag (bE p)] (DV.v (.bool p.iw)):=by
 refine aD.intro (by kernel_rfl) rfl rfl 37 rfl rfl fun w0 K ac hK r=>?_
 cases h0:(p.fb) with
 | false=>
  rw [show (DV.v (.bool p.iw):DV)=.v (.bool false) from (su (fun hh=>by obtain ⟨a1,a2,a3,a4⟩:=hh;first | exact lB (by assumption) a1 | omega | (have k:=a4 i hx gh;omega)))]
  exact aQ tk tq hK rfl [(1,[(1,.aJ (.v (.bool false)))])] 2000 r (by kernel_rfl) (U ((by have k:=wa p dm cH c9;rw [h0] at k;exact k):aD Tryz.prog 55 [.ag (bE p)] (.v (.bool false))) trivial)
 | true=>
  have bd:=((by have k:=wa p dm cH c9;rw [h0] at k;exact k):aD Tryz.prog 55 [.ag (bE p)] (.v (.bool true)))
  have b3:=((by first | rfl | (simp [cb,bc];done)):(((bc p.body).length:Nat):Int)=((p.body.length:Nat):Int))
  cases h1:(decide ((((p.body.length:Nat):Int):Int)<1)) with
  | false=>
   have bN:=of_decide_eq_false h1
   cases h2:(decide ((320:Int)<((p.body.length:Nat):Int))) with
   | false=>
    have b7:=of_decide_eq_false h2
    refine bU (todo':=hd Tryz.f38 0) (E':=[(21,.d (.ro 4 (al p.al))),(22,.n p.al.length),(23,.z 0)]) (M':=[]) tk tq hK [(1,[(1,.aJ (.v (.bool true))),(6,.z (((p.body.length:Nat):Int))),(7,.b false),(12,.z (((p.body.length:Nat):Int))),(13,.b false)]),(3,[(2,.z (((p.al.length:Nat):Int)))])] 2000 [] [21,22,23] r (by kernel_rfl) (U bd (U b3 (U h1 (U b3 (U h2 (U ((by first | rfl | (simp [cb,bc];done)):(((al p.al).length:Nat):Int)=((p.al.length:Nat):Int)) trivial)))))) fun ac wd r=>?_
    refine aN.rounds (Φ:=fun (i:Nat) ac wd=>(i≤p.al.length∧∀ (j:Nat) h,j<i→p.al[j]?=some h→1≤h.seq∧h.seq≤34359738367∧h.inc=0)∧ec [] w0 K 37 [(21,.d (.ro 4 (al p.al))),(22,.n p.al.length),(23,.n i)] [] ac wd) (p.al.length) ?_ (Nat.zero_le _) ⟨⟨Nat.zero_le _,fun j _ h=>absurd h (Nat.not_lt_zero _)⟩,(r).cast rfl rfl⟩
    clear r
    rintro i cI bo ac wd ⟨aM,r⟩
    cases h3:(decide ((((i:Nat):Int):Int)<((p.al.length:Nat):Int))) with
    | false=>
     have eV:=of_decide_eq_false h3
     rw [show (DV.v (.bool p.iw):DV)=.v (.bool true) from (Nv ⟨EX (by assumption),by omega,by omega,fun j h g=>by rcases Nat.lt_or_ge j i with hj | hj;exact aM.2 j h hj g;exact absurd (List.getElem?_eq_some_iff.1 g).1 (by omega)⟩)]
     exact aQ tk tq hK rfl [(4,[(0,.b false)])] 2000 r (by kernel_rfl) (U h3 trivial)
    | true=>
     have eV:=of_decide_eq_true h3
     obtain ⟨hx,gh⟩:∃ x,p.al[i]?=some x:=⟨_,List.getElem?_eq_getElem (by omega)⟩
     cases h4:(decide (1≤hx.seq∧hx.seq≤34359738367)) with
     | false=>
      have eA:=of_decide_eq_false h4
      rw [show (DV.v (.bool p.iw):DV)=.v (.bool false) from (su (fun hh=>by obtain ⟨a1,a2,a3,a4⟩:=hh;first | exact lB (by assumption) a1 | omega | (have k:=a4 i hx gh;omega)))]
      exact aQ tk tq hK rfl [(4,[(0,.b true)]),(5,[(0,.ix (i) [.z hx.dst,.u hx.conn,.u hx.seq,.u hx.inc])]),(6,[(2,.aJ (.v (.bool false)))])] 2000 r (by kernel_rfl) (U h3 (U (aX ((i:Nat):Int)) (U (fS gh) (U ((by have k:=kc hx.seq 1;rw [h4] at k;exact k):aD Tryz.prog 52 [.u hx.seq,.d (.v (.int .u64 1))] (.v (.bool false))) trivial))))
     | true=>
      have eA:=of_decide_eq_true h4
      have cy:=((by have k:=kc hx.seq 1;rw [h4] at k;exact k):aD Tryz.prog 52 [.u hx.seq,.d (.v (.int .u64 1))] (.v (.bool true)))
      cases h5:((((hx.inc:Nat):Int):Int) != 0) with
      | false=>
       have ib:=gK h5
       exact bU (todo':=hd Tryz.f38 0) (E':=[(21,.d (.ro 4 (al p.al))),(22,.n p.al.length),(23,.n (i+1))]) (M':=[]) tk tq hK [(4,[(0,.b true)]),(5,[(0,.ix (i) [.z hx.dst,.u hx.conn,.u hx.seq,.u hx.inc])]),(6,[(2,.aJ (.v (.bool true))),(7,.b false)]),(8,[(0,.z (((i+1:Nat):Int)))])] 2000 [] [21,22,23] r (by kernel_rfl) (U h3 (U (aX ((i:Nat):Int)) (U (fS gh) (U cy (U h5 (U ((wi (by omega)):IntKind.i64.wrap ((((i:Nat):Int):Int)+1)=((i+1:Nat):Int)) trivial)))))) fun ac wd r=>bo (by omega) ac wd ⟨⟨by omega,fun j h hj g=>by rcases Nat.lt_succ_iff_lt_or_eq.1 hj with h' | rfl;exact aM.2 j h h' g;rw [gh] at g;cases g;omega⟩,r.cast rfl rfl⟩
      | true=>
       have ib:¬ _=_:=bne_iff_ne.1 h5
       rw [show (DV.v (.bool p.iw):DV)=.v (.bool false) from (su (fun hh=>by obtain ⟨a1,a2,a3,a4⟩:=hh;first | exact lB (by assumption) a1 | omega | (have k:=a4 i hx gh;omega)))]
       exact aQ tk tq hK rfl [(4,[(0,.b true)]),(5,[(0,.ix (i) [.z hx.dst,.u hx.conn,.u hx.seq,.u hx.inc])]),(6,[(2,.aJ (.v (.bool true))),(7,.b true)])] 2000 r (by kernel_rfl) (U h3 (U (aX ((i:Nat):Int)) (U (fS gh) (U cy (U h5 trivial)))))
   | true=>
    have b7:=of_decide_eq_true h2
    rw [show (DV.v (.bool p.iw):DV)=.v (.bool false) from (su (fun hh=>by obtain ⟨a1,a2,a3,a4⟩:=hh;first | exact lB (by assumption) a1 | omega | (have k:=a4 i hx gh;omega)))]
    exact aQ tk tq hK rfl [(1,[(1,.aJ (.v (.bool true))),(6,.z (((p.body.length:Nat):Int))),(7,.b false),(12,.z (((p.body.length:Nat):Int))),(13,.b true)])] 2000 r (by kernel_rfl) (U bd (U b3 (U h1 (U b3 (U h2 trivial)))))
  | true=>
   have bN:=of_decide_eq_true h1
   rw [show (DV.v (.bool p.iw):DV)=.v (.bool false) from (su (fun hh=>by obtain ⟨a1,a2,a3,a4⟩:=hh;first | exact lB (by assumption) a1 | omega | (have k:=a4 i hx gh;omega)))]
   exact aQ tk tq hK rfl [(1,[(1,.aJ (.v (.bool true))),(6,.z (((p.body.length:Nat):Int))),(7,.b true)])] 2000 r (by kernel_rfl) (U bd (U b3 (U h1 trivial)))
set_option maxRecDepth 100000 in
theorem EZ (p:bJ) (dm:p.al.length≤9223372036854775807) (cH:p.body.length≤9223372036854775807) (c9:p.ad.ay.length≤9223372036854775807):aD Tryz.prog 39 [.ag (bE p)] (DV.v (.bool p.iC)):=by
 refine aD.intro (by kernel_rfl) rfl rfl 31 rfl rfl fun w0 K ac hK r=>?_
 cases h0:(p.fb) with
 | false=>
  rw [show (DV.v (.bool p.iC):DV)=.v (.bool false) from (sE (fun hh=>by obtain ⟨a1,a2,a3,a4⟩:=hh;first | exact lB (by assumption) a1 | omega | (have k:=a4 hx gh;omega)))]
  exact aQ tk tq hK rfl [(1,[(1,.aJ (.v (.bool false)))])] 2000 r (by kernel_rfl) (U ((by have k:=wa p dm cH c9;rw [h0] at k;exact k):aD Tryz.prog 55 [.ag (bE p)] (.v (.bool false))) trivial)
 | true=>
  have bd:=((by have k:=wa p dm cH c9;rw [h0] at k;exact k):aD Tryz.prog 55 [.ag (bE p)] (.v (.bool true)))
  have b3:=((by first | rfl | (simp [cb,bc];done)):(((al p.al).length:Nat):Int)=((p.al.length:Nat):Int))
  cases h1:((((p.al.length:Nat):Int):Int) != 1) with
  | false=>
   have bN:=gK h1
   obtain ⟨hx,gh⟩:∃ x,p.al[0]?=some x:=⟨_,List.getElem?_eq_getElem (by omega)⟩
   have cy:=((by first | rfl | (simp [cb,bc];done)):(((bc p.body).length:Nat):Int)=((p.body.length:Nat):Int))
   cases h2:((((p.body.length:Nat):Int):Int) != 0) with
   | false=>
    have b7:=gK h2
    cases h3:(decide (0≤hx.seq∧hx.seq≤34359738367)) with
    | false=>
     have eV:=of_decide_eq_false h3
     rw [show (DV.v (.bool p.iC):DV)=.v (.bool false) from (sE (fun hh=>by obtain ⟨a1,a2,a3,a4⟩:=hh;first | exact lB (by assumption) a1 | omega | (have k:=a4 hx gh;omega)))]
     exact aQ tk tq hK rfl [(1,[(1,.aJ (.v (.bool true))),(6,.z (((p.al.length:Nat):Int))),(7,.b false),(12,.z (((p.body.length:Nat):Int))),(13,.b false)]),(3,[(2,.ix (0) [.z hx.dst,.u hx.conn,.u hx.seq,.u hx.inc])]),(4,[(2,.aJ (.v (.bool false)))])] 2000 r (by kernel_rfl) (U bd (U b3 (U h1 (U cy (U h2 (U (rfl:(0)=((0:Nat):Int)) (U (fS gh) (U ((by have k:=kc hx.seq 0;rw [h3] at k;exact k):aD Tryz.prog 52 [.u hx.seq,.d (.v (.int .u64 0))] (.v (.bool false))) trivial))))))))
    | true=>
     have eV:=of_decide_eq_true h3
     have db:=((by have k:=kc hx.seq 0;rw [h3] at k;exact k):aD Tryz.prog 52 [.u hx.seq,.d (.v (.int .u64 0))] (.v (.bool true)))
     cases h4:(decide (1≤hx.inc∧hx.inc≤34359738367)) with
     | false=>
      have eA:=of_decide_eq_false h4
      rw [show (DV.v (.bool p.iC):DV)=.v (.bool false) from (sE (fun hh=>by obtain ⟨a1,a2,a3,a4⟩:=hh;first | exact lB (by assumption) a1 | omega | (have k:=a4 hx gh;omega)))]
      exact aQ tk tq hK rfl [(1,[(1,.aJ (.v (.bool true))),(6,.z (((p.al.length:Nat):Int))),(7,.b false),(12,.z (((p.body.length:Nat):Int))),(13,.b false)]),(3,[(2,.ix (0) [.z hx.dst,.u hx.conn,.u hx.seq,.u hx.inc])]),(4,[(2,.aJ (.v (.bool true))),(6,.aJ (.v (.bool false)))])] 2000 r (by kernel_rfl) (U bd (U b3 (U h1 (U cy (U h2 (U (rfl:(0)=((0:Nat):Int)) (U (fS gh) (U db (U ((by have k:=kc hx.inc 1;rw [h4] at k;exact k):aD Tryz.prog 52 [.u hx.inc,.d (.v (.int .u64 1))] (.v (.bool false))) trivial)))))))))
     | true=>
      have eA:=of_decide_eq_true h4
      rw [show (DV.v (.bool p.iC):DV)=.v (.bool true) from (OO ⟨EX (by assumption),by omega,by omega,fun h g=>by rw [gh] at g;cases g;omega⟩)]
      exact aQ tk tq hK rfl [(1,[(1,.aJ (.v (.bool true))),(6,.z (((p.al.length:Nat):Int))),(7,.b false),(12,.z (((p.body.length:Nat):Int))),(13,.b false)]),(3,[(2,.ix (0) [.z hx.dst,.u hx.conn,.u hx.seq,.u hx.inc])]),(4,[(2,.aJ (.v (.bool true))),(6,.aJ (.v (.bool true)))])] 2000 r (by kernel_rfl) (U bd (U b3 (U h1 (U cy (U h2 (U (rfl:(0)=((0:Nat):Int)) (U (fS gh) (U db (U ((by have k:=kc hx.inc 1;rw [h4] at k;exact k):aD Tryz.prog 52 [.u hx.inc,.d (.v (.int .u64 1))] (.v (.bool true))) trivial)))))))))
   | true=>
    have b7:¬ _=_:=bne_iff_ne.1 h2
    rw [show (DV.v (.bool p.iC):DV)=.v (.bool false) from (sE (fun hh=>by obtain ⟨a1,a2,a3,a4⟩:=hh;first | exact lB (by assumption) a1 | omega | (have k:=a4 hx gh;omega)))]
    exact aQ tk tq hK rfl [(1,[(1,.aJ (.v (.bool true))),(6,.z (((p.al.length:Nat):Int))),(7,.b false),(12,.z (((p.body.length:Nat):Int))),(13,.b true)])] 2000 r (by kernel_rfl) (U bd (U b3 (U h1 (U cy (U h2 trivial)))))
  | true=>
   have bN:¬ _=_:=bne_iff_ne.1 h1
   rw [show (DV.v (.bool p.iC):DV)=.v (.bool false) from (sE (fun hh=>by obtain ⟨a1,a2,a3,a4⟩:=hh;first | exact lB (by assumption) a1 | omega | (have k:=a4 hx gh;omega)))]
   exact aQ tk tq hK rfl [(1,[(1,.aJ (.v (.bool true))),(6,.z (((p.al.length:Nat):Int))),(7,.b true)])] 2000 r (by kernel_rfl) (U bd (U b3 (U h1 trivial)))
set_option maxRecDepth 100000 in
theorem nF (p:bJ) (dm:p.al.length≤9223372036854775807) (cH:p.body.length≤9223372036854775807) (c9:p.ad.ay.length≤9223372036854775807):aD Tryz.prog 26 [.ag (bE p)] (DV.v (.bool p.may)):=by
 refine aD.intro (by kernel_rfl) rfl rfl 41 rfl rfl fun w0 K ac hK r=>?_
 cases h0:((p.kind:Int)==1) with
 | false=>
  have bH:=ne_of_beq_false h0
  cases h1:((p.kind:Int)==2) with
  | false=>
   have bN:=ne_of_beq_false h1
   cases h2:((p.kind:Int)==3) with
   | false=>
    have b7:=ne_of_beq_false h2
    rw [show (DV.v (.bool p.may):DV)=.v (.bool false) from (nu (fun hh=>by rcases hh with ⟨a1,a2,a3,a4,a5,a6⟩ | ⟨a1,a2⟩ | ⟨a1,a2⟩<;>first | omega | (simp_all;done) | exact ni (by assumption) a2 | exact nn (by assumption) a2))]
    exact aQ tk tq hK rfl [(2,[(0,.b false)]),(4,[(0,.b false)]),(6,[(0,.b false)])] 2000 r (by kernel_rfl) (U h0 (U h1 (U h2 trivial)))
   | true=>
    have b7:=eq_of_beq h2
    cases h3:(p.iC) with
    | false=>
     rw [show (DV.v (.bool p.may):DV)=.v (.bool false) from (nu (fun hh=>by rcases hh with ⟨a1,a2,a3,a4,a5,a6⟩ | ⟨a1,a2⟩ | ⟨a1,a2⟩<;>first | omega | (simp_all;done) | exact ni (by assumption) a2 | exact nn (by assumption) a2))]
     exact aQ tk tq hK rfl [(2,[(0,.b false)]),(4,[(0,.b false)]),(6,[(0,.b true)]),(7,[(1,.aJ (.v (.bool false)))])] 2000 r (by kernel_rfl) (U h0 (U h1 (U h2 (U ((by have k:=EZ p dm cH c9;rw [h3] at k;exact k):aD Tryz.prog 39 [.ag (bE p)] (.v (.bool false))) trivial))))
    | true=>
     rw [show (DV.v (.bool p.may):DV)=.v (.bool true) from (zy (by first | exact .inl ⟨by omega,of_decide_eq_true (by assumption),by omega,by omega,by omega,by assumption⟩ | exact .inr (.inl ⟨by omega,yO (by assumption)⟩) | exact .inr (.inr ⟨by omega,zA (by assumption)⟩)))]
     exact aQ tk tq hK rfl [(2,[(0,.b false)]),(4,[(0,.b false)]),(6,[(0,.b true)]),(7,[(1,.aJ (.v (.bool true)))])] 2000 r (by kernel_rfl) (U h0 (U h1 (U h2 (U ((by have k:=EZ p dm cH c9;rw [h3] at k;exact k):aD Tryz.prog 39 [.ag (bE p)] (.v (.bool true))) trivial))))
  | true=>
   have bN:=eq_of_beq h1
   cases h4:(p.iw) with
   | false=>
    rw [show (DV.v (.bool p.may):DV)=.v (.bool false) from (nu (fun hh=>by rcases hh with ⟨a1,a2,a3,a4,a5,a6⟩ | ⟨a1,a2⟩ | ⟨a1,a2⟩<;>first | omega | (simp_all;done) | exact ni (by assumption) a2 | exact nn (by assumption) a2))]
    exact aQ tk tq hK rfl [(2,[(0,.b false)]),(4,[(0,.b true)]),(5,[(1,.aJ (.v (.bool false)))])] 2000 r (by kernel_rfl) (U h0 (U h1 (U ((by have k:=Eh p dm cH c9;rw [h4] at k;exact k):aD Tryz.prog 38 [.ag (bE p)] (.v (.bool false))) trivial)))
   | true=>
    rw [show (DV.v (.bool p.may):DV)=.v (.bool true) from (zy (by first | exact .inl ⟨by omega,of_decide_eq_true (by assumption),by omega,by omega,by omega,by assumption⟩ | exact .inr (.inl ⟨by omega,yO (by assumption)⟩) | exact .inr (.inr ⟨by omega,zA (by assumption)⟩)))]
    exact aQ tk tq hK rfl [(2,[(0,.b false)]),(4,[(0,.b true)]),(5,[(1,.aJ (.v (.bool true)))])] 2000 r (by kernel_rfl) (U h0 (U h1 (U ((by have k:=Eh p dm cH c9;rw [h4] at k;exact k):aD Tryz.prog 38 [.ag (bE p)] (.v (.bool true))) trivial)))
 | true=>
  have bH:=eq_of_beq h0
  cases h5:(decide (p.src=⟨0,0⟩)) with
  | false=>
   have ib:=of_decide_eq_false h5
   rw [show (DV.v (.bool p.may):DV)=.v (.bool false) from (nu (fun hh=>by rcases hh with ⟨a1,a2,a3,a4,a5,a6⟩ | ⟨a1,a2⟩ | ⟨a1,a2⟩<;>first | omega | (simp_all;done) | exact ni (by assumption) a2 | exact nn (by assumption) a2))]
   exact aQ tk tq hK rfl [(2,[(0,.b true)]),(3,[(3,.b false)])] 2000 r (by kernel_rfl) (U h0 (U ((ez (eN p.src ⟨0,0⟩) h5):dK Tryz.prog 24 [(.int .i64 (p.src.node)),(.int .u64 (((p.src.inc:Nat):Int)))] [(.int .i64 (0)),(.int .u64 (0))] false) trivial))
  | true=>
   have ib:=of_decide_eq_true h5
   have bd:=((ez (eN p.src ⟨0,0⟩) h5):dK Tryz.prog 24 [(.int .i64 (p.src.node)),(.int .u64 (((p.src.inc:Nat):Int)))] [(.int .i64 (0)),(.int .u64 (0))] true)
   cases h6:((p.cn:Int)==0) with
   | false=>
    have lr:=ne_of_beq_false h6
    rw [show (DV.v (.bool p.may):DV)=.v (.bool false) from (nu (fun hh=>by rcases hh with ⟨a1,a2,a3,a4,a5,a6⟩ | ⟨a1,a2⟩ | ⟨a1,a2⟩<;>first | omega | (simp_all;done) | exact ni (by assumption) a2 | exact nn (by assumption) a2))]
    exact aQ tk tq hK rfl [(2,[(0,.b true)]),(3,[(3,.b true),(7,.b false)])] 2000 r (by kernel_rfl) (U h0 (U bd (U h6 trivial)))
   | true=>
    have lr:=eq_of_beq h6
    have b3:=((by first | rfl | (simp [cb,bc];done)):(((al p.al).length:Nat):Int)=((p.al.length:Nat):Int))
    cases h7:((((p.al.length:Nat):Int):Int)==0) with
    | false=>
     have gE:=ne_of_beq_false h7
     rw [show (DV.v (.bool p.may):DV)=.v (.bool false) from (nu (fun hh=>by rcases hh with ⟨a1,a2,a3,a4,a5,a6⟩ | ⟨a1,a2⟩ | ⟨a1,a2⟩<;>first | omega | (simp_all;done) | exact ni (by assumption) a2 | exact nn (by assumption) a2))]
     exact aQ tk tq hK rfl [(2,[(0,.b true)]),(3,[(3,.b true),(7,.b true),(12,.z (((p.al.length:Nat):Int))),(13,.b false)])] 2000 r (by kernel_rfl) (U h0 (U bd (U h6 (U b3 (U h7 trivial)))))
    | true=>
     have gE:=eq_of_beq h7
     have cy:=((by first | rfl | (simp [cb,bc];done)):(((bc p.body).length:Nat):Int)=((p.body.length:Nat):Int))
     cases h8:((((p.body.length:Nat):Int):Int)==0) with
     | false=>
      have lq:=ne_of_beq_false h8
      rw [show (DV.v (.bool p.may):DV)=.v (.bool false) from (nu (fun hh=>by rcases hh with ⟨a1,a2,a3,a4,a5,a6⟩ | ⟨a1,a2⟩ | ⟨a1,a2⟩<;>first | omega | (simp_all;done) | exact ni (by assumption) a2 | exact nn (by assumption) a2))]
      exact aQ tk tq hK rfl [(2,[(0,.b true)]),(3,[(3,.b true),(7,.b true),(12,.z (((p.al.length:Nat):Int))),(13,.b true),(18,.z (((p.body.length:Nat):Int))),(19,.b false)])] 2000 r (by kernel_rfl) (U h0 (U bd (U h6 (U b3 (U h7 (U cy (U h8 trivial)))))))
     | true=>
      have lq:=eq_of_beq h8
      cases h9:(p.ad.may) with
      | false=>
       rw [show (DV.v (.bool p.may):DV)=.v (.bool false) from (nu (fun hh=>by rcases hh with ⟨a1,a2,a3,a4,a5,a6⟩ | ⟨a1,a2⟩ | ⟨a1,a2⟩<;>first | omega | (simp_all;done) | exact ni (by assumption) a2 | exact nn (by assumption) a2))]
       exact aQ tk tq hK rfl [(2,[(0,.b true)]),(3,[(3,.b true),(7,.b true),(12,.z (((p.al.length:Nat):Int))),(13,.b true),(18,.z (((p.body.length:Nat):Int))),(19,.b true),(24,.aJ (.v (.bool false)))])] 2000 r (by kernel_rfl) (U h0 (U bd (U h6 (U b3 (U h7 (U cy (U h8 (U ((by have k:=xY p.ad c9;rw [h9] at k;exact k):aD Tryz.prog 37 [.ag [.z p.ad.server.node,.u p.ad.server.inc,.u p.ad.seq,.d (.ro 2 (procs p.ad.ay))]] (.v (.bool false))) trivial))))))))
      | true=>
       rw [show (DV.v (.bool p.may):DV)=.v (.bool true) from (zy (by first | exact .inl ⟨by omega,of_decide_eq_true (by assumption),by omega,by omega,by omega,by assumption⟩ | exact .inr (.inl ⟨by omega,yO (by assumption)⟩) | exact .inr (.inr ⟨by omega,zA (by assumption)⟩)))]
       exact aQ tk tq hK rfl [(2,[(0,.b true)]),(3,[(3,.b true),(7,.b true),(12,.z (((p.al.length:Nat):Int))),(13,.b true),(18,.z (((p.body.length:Nat):Int))),(19,.b true),(24,.aJ (.v (.bool true)))])] 2000 r (by kernel_rfl) (U h0 (U bd (U h6 (U b3 (U h7 (U cy (U h8 (U ((by have k:=xY p.ad c9;rw [h9] at k;exact k):aD Tryz.prog 37 [.ag [.z p.ad.server.node,.u p.ad.server.inc,.u p.ad.seq,.d (.ro 2 (procs p.ad.ay))]] (.v (.bool true))) trivial))))))))
end Go.Proofs.YtlinpknagdgphaaGreat
namespace Go.Proofs.YtlinpknagdgphaaGreat
open Go.RowKit
structure Ov.Inv (o:Ov) (k:Nat):Prop where
 ok:o.Ok
 lk:jx o.ls o.ck
 ns:∀ e ∈ o.ls,e.2.1≠o.self.node
 bk:dg o.book
 own:o.sv=true→o.own<o.book.length
 one:∀ a ∈ o.book,a.server.node=o.self.node→a.server=o.self∧a.seq≤k
noncomputable def Ov.rc (o:Ov):List ah:=bif o.sv then kl o.book o.self else []
theorem Bl {o:Ov} (h:o.sv=false):o.rc=[]:=by unfold Ov.rc;rw [h];rfl
theorem Am {o:Ov} (h:o.sv=true):o.rc=kl o.book o.self:=by unfold Ov.rc;rw [h];rfl
theorem FW {o:Ov} (ok:o.Ok) (h:o.sv=true):o.self.node≤4:=by
 unfold Ov.sv Ov.cA at h;have:=of_decide_eq_true h;have:=ok.n4;omega
theorem Nw {o:Ov} (ok:o.Ok):o.self.may=true:=by
 have:=ok.s1;have:=ok.s2;have:=ok.h;have:=ok.s4
 unfold ah.may;apply decide_eq_true;omega
theorem eX {b:List aw} (g:dg b):b.length≤4:=g.len
theorem dg.nU {b:List aw} (g:dg b):∀ a ∈ b,a.ay.length≤3:=fun a ha=>aw.gR (g.may a ha)
set_option maxRecDepth 100000 in
theorem gS (o:Ov) (k:Nat) (v:o.Inv k):aL Tryz.prog 12 [.pt 0 0] [ao o 1 2,af o,ai o] (.d (.ro 2 (procs o.rc))) (ef o):=by
 have h1:=v.ok.s1
 refine aL.intro (by kernel_rfl) rfl rfl 20 rfl rfl fun D w0 K bs ac wd hK (aB:bs.m=3) r=>?_
 cases h0:(o.sv) with
 | false=>
  refine ch (todo':=aft Tryz.f12 2) (E':=[(0,.pt 0 0),(2,aj)]) (M':=[ao o 1 2,af o,ai o]) tk tq hK aB [(1,[(1,.mem [0,1,2] (aU) [ao o 1 2,af o,ai o]),(5,.mem [0,1,2] (aZ) [ao o 1 2,af o,ai o])])] 8 [0,1,2] [0,2] r (by kernel_rfl) (U (dr o h1) (U ((by have k:=fk o;rw [h0] at k;exact k):aL Tryz.prog 23 [.pt 0 0] [ao o 1 2,af o,ai o] (aZ) [ao o 1 2,af o,ai o]) trivial)) fun ac wd r=>?_
  have r:=r.RW (E2:=[(0,.pt 0 0),(2,.d (.ro 2 (procs [])))]) 2 2 rfl rfl
  refine bB (y:=.d (.ro 2 (procs []))) (N':=[ao o 1 2,af o,ai o]) ((by first | (rw [Am (by assumption)];done) | (rw [Bl (by assumption)];done))) (rfl) ?_
  exact bC tk tq hK rfl aB [] 2000 [0,1,2] r (by kernel_rfl) trivial
 | true=>
  refine bB (y:=.d (.ro 2 (procs (kl o.book o.self)))) (N':=[ao o 1 2,af o,ai o]) ((by first | (rw [Am (by assumption)];done) | (rw [Bl (by assumption)];done))) (rfl) ?_
  exact bC tk tq hK rfl aB [(1,[(1,.mem [0,1,2] (aU) [ao o 1 2,af o,ai o]),(5,.mem [0,1,2] (aU) [ao o 1 2,af o,ai o])]),(3,[(8,.mem [1] (.d (.ro 2 (procs (kl o.book o.self)))) [af o])])] 2000 [0,1,2] r (by kernel_rfl) (U (dr o h1) (U ((by have k:=fk o;rw [h0] at k;exact k):aL Tryz.prog 23 [.pt 0 0] [ao o 1 2,af o,ai o] (aU) [ao o 1 2,af o,ai o]) (U (PM o.book o.self (by have:=eX v.bk;omega) (fun x hx=>by have:=v.bk.nU x hx;omega) (qH v.ok) (Nw v.ok) (FW v.ok (by assumption)):aL Tryz.prog 32 [.sl 0 (o.book.length),.ag [.z o.self.node,.u o.self.inc]] [af o] (.d (.ro 2 (procs (kl o.book o.self)))) [af o]) trivial)))
def IN (l:List ah):List DV:=[.v (.int .i64 1),.v (.int .i64 0),.v (.int .u64 0),.ro 2 (procs l)]
noncomputable def Ov.bu (o:Ov) (fI:List ah) (R:List (List DV)):List (List DV):=if o.rc=fI then R else R++[IN o.rc]
theorem FX {o:Ov} {fI:List ah} {R:List (List DV)} (h:o.rc=fI):o.bu fI R=R:=if_pos h
theorem GJ {o:Ov} {fI:List ah} {R:List (List DV)} (h:o.rc≠fI):o.bu fI R=R++[IN o.rc]:=if_neg h
theorem OP (l:List ah):(eW l).length≤l.length:=by
 have:=xZ l l.length
 unfold eW;omega
theorem wc {o:Ov} {k:Nat} (v:o.Inv k):o.rc.length≤5:=by
 cases h:o.sv with
 | false=>rw [Bl h];simp
 | true=>
  rw [Am h];unfold kl
  split
  ·have h1:=OP ((bG (book o.book) o.self).map Prod.fst)
   have h2:=FN (dS o.book) (qH v.ok)
   rw [List.length_map] at h1;omega
  ·simp
set_option maxRecDepth 100000 in
theorem PR (o:Ov) (k:Nat) (v:o.Inv k) (fI:List ah) (R1 R2:List (List DV)) (hR:R2.length≤10):aL Tryz.prog 25 [.pt 0 0,.ag [.sl 3 (R1.length),aj,.sl 4 (R2.length)],.d (.ro 2 (procs fI))] [ao o 1 2,af o,ai o,.rw 60 11 (R1),.rw 62 4 (R2)] (.ag [.sl 3 R1.length,aj,.sl 5 (o.bu fI R2).length]) (ef o++[.rw 60 11 R1,.dead,.rw 62 4 (o.bu fI R2)]):=by
 have h1:=v.ok.s1
 refine aL.intro (by kernel_rfl) rfl rfl 22 rfl rfl fun D w0 K bs ac wd hK (aB:bs.m=5) r=>?_
 refine ch (todo':=aft Tryz.f25 0) (E':=[(0,.pt 0 0),(2,.d (.ro 2 (procs fI))),(4,.pt 5 0),(6,.pt 6 0)]) (M':=[ao o 1 2,af o,ai o,.rw 60 11 (R1),.rw 62 4 (R2),.bx 46 [.sl 3 (R1.length),aj,.sl 4 (R2.length)],.bx 46 [aj,aj,aj]]) tk tq hK aB [] 2 [0,1,2,3,4,5,6] [0,2,4,6] r (by kernel_rfl) trivial fun ac wd r=>?_
 have r:=(r.shift 4 rfl).cast (M':=[ao o 1 2,af o,ai o,.rw 60 11 (R1),.dead,.bx 46 [.sl 3 (R1.length),aj,.sl 7 (R2.length)],.bx 46 [aj,aj,aj],.rw 62 4 (R2)]) rfl rfl
 cases h0:(decide (o.rc=fI)) with
 | false=>
  have bH:=of_decide_eq_false h0
  refine bB (y:=.ag [.sl 3 (R1.length),aj,.sl 5 (R2.length+(1))]) (N':=[ao o 1 2,af o,ai o,.rw 60 11 (R1),.dead,.rw 62 4 (R2++[[.z 1,.z 0,.v (.int .u64 0),.ro 2 (procs o.rc)]])]) ((by rw [GJ (of_decide_eq_false h0)];first | rfl | (simp;done))) ((by rw [GJ (of_decide_eq_false h0)];first | rfl | (simp;done))) ?_
  exact bC tk tq hK rfl aB [(1,[(1,.mem [0,1,2] (.d (.ro 2 (procs o.rc))) [ao o 1 2,af o,ai o])]),(2,[(2,.aJ (.v (.bool false)))])] 2000 [0,1,2,3,4,7] r (by kernel_rfl) (U (gS o k v) (U ((by have k:=DB o.rc fI (by have:=wc v;omega);rw [h0] at k;exact k):aD Tryz.prog 36 [.d (.ro 2 (procs o.rc)),.d (.ro 2 (procs fI))] (.v (.bool false))) (U ((by first | rfl | (simp;done)):(R2.length)=(R2:List (List DV)).length) (U ((by first | rfl | (simp;done)):(1)=([[.z 1,.z 0,.v (.int .u64 0),.ro 2 (procs o.rc)]]:List (List DV)).length) (U ((by first | omega | (simp;omega)):(2*((R2.length)+(1))+0)*48≤281474976710656) (U ((by first | omega | (simp;omega)):(R2.length)+(1)<4611686018427387904) (U ((by simp [bA,AV.one,cd]):bA ([[.z 1,.z 0,.v (.int .u64 0),.ro 2 (procs o.rc)]])) trivial)))))))
 | true=>
  have bH:=of_decide_eq_true h0
  refine bB (y:=.ag [.sl 3 (R1.length),aj,.sl 5 (R2.length)]) (N':=[ao o 1 2,af o,ai o,.rw 60 11 (R1),.dead,.rw 62 4 (R2)]) ((by rw [FX (of_decide_eq_true h0)];try rfl)) ((by rw [FX (of_decide_eq_true h0)];try rfl)) ?_
  exact bC tk tq hK rfl aB [(1,[(1,.mem [0,1,2] (.d (.ro 2 (procs o.rc))) [ao o 1 2,af o,ai o])]),(2,[(2,.aJ (.v (.bool true)))])] 2000 [0,1,2,3,4,7] r (by kernel_rfl) (U (gS o k v) (U ((by have k:=DB o.rc fI (by have:=wc v;omega);rw [h0] at k;exact k):aD Tryz.prog 36 [.d (.ro 2 (procs o.rc)),.d (.ro 2 (procs fI))] (.v (.bool true))) trivial))
end Go.Proofs.YtlinpknagdgphaaGreat
namespace Go.Proofs.YtlinpknagdgphaaGreat
open Go.RowKit
def Ov.li (o:Ov) (z:Int):Nat:=o.ls.findIdx fun e=>decide (e.2.1=z)
def Ov.lf (o:Ov) (z:Int):ah:=((o.ls[o.li z]?).map fun e=>e.2.2).getD ⟨0,0⟩
theorem mn {o:Ov} {z:Int} (h:o.has z=true):∃ b:Nat,o.ls[o.li z]?=some (b,z,o.lf z):=by
 unfold Ov.has at h
 obtain ⟨e,he,hz⟩:=List.any_eq_true.1 h
 have aK:o.li z<o.ls.length:=by unfold Ov.li;exact List.findIdx_lt_length_of_exists ⟨e,he,hz⟩
 have h1:=List.findIdx_getElem (p:=fun e:Nat×Int×ah=>decide (e.2.1=z)) (xs:=o.ls) (w:=aK)
 have h2:=of_decide_eq_true h1
 have g:o.ls[o.li z]?=some o.ls[o.li z]:=List.getElem?_eq_getElem aK
 refine ⟨o.ls[o.li z].1,?_⟩
 unfold Ov.lf;rw [g]
 simp only [Option.map_some,Option.getD_some,Option.some.injEq]
 exact Prod.ext rfl (Prod.ext h2 rfl)
def Ov.del (o:Ov) (z:Int):Ov:={ o with ls:=o.ls.eraseIdx (o.li z) }
theorem Ei {α β:Type} (f:α→β):∀ (l:List α) (j:Nat),(l.map f).eraseIdx j=(l.eraseIdx j).map f
 | [],_=>by simp
 | a::l,0=>rfl
 | a::l,j+1=>by simp [Ei f l j]
theorem LF (l:List (Nat×Int×ah)) (j:Nat):(aY l).eraseIdx j=aY (l.eraseIdx j):=Ei _ l j
theorem jx.sub {l m:List (Nat×Int×ah)} {ck:Nat} (h:jx l ck) (s:m.Sublist l):jx m ck:=⟨h.b.sublist (s.map _),fun e he=>h.lt e (s.subset he),h.k.sublist (s.map _),fun e he=>h.e e (s.subset he),Nat.le_trans s.length_le h.len⟩
theorem Ov.Inv.del {o:Ov} {k:Nat} (v:o.Inv k) (z:Int):(o.del z).Inv k:=⟨⟨v.ok.s1,v.ok.s2,v.ok.s3,v.ok.s4,v.ok.h,v.ok.n1,v.ok.n4,v.ok.nh,v.ok.hz⟩,v.lk.sub (List.eraseIdx_sublist _ _),fun e he=>v.ns e ((List.eraseIdx_sublist _ _).subset he),v.bk,v.own,v.one⟩
theorem fX {o:Ov} {k:Nat} (v:o.Inv k):o.bs.length≤10:=Nat.le_trans (List.length_filter_le _ _) (GI v.lk)
theorem sP (o:Ov) (k:Nat) (v:o.Inv k) (hs:o.sv=true) (z:Int):aL Tryz.prog 24 [.pt 0 0,.z z] [ao o 1 2,af o,ai o] (.sl 3 (br o z o.bs).length) (ef o.nw++[.rw 60 11 (br o z o.bs)]):=by
 have hl:=v.own hs
 obtain ⟨eo,kH,ho⟩:=sC hl
 have h4:=eX v.bk
 have lX:=fX v
 refine PK o v.ok.s1 v.lk hl (by omega) (fun a ha=>by have:=v.bk.nU a ha;omega) eo kH ho (by show o.bs.length≤_;omega) (by rw [v5];omega) (fun a ha=>?_) lX z
 unfold Ov.nw at ha
 rcases List.mem_or_eq_of_mem_set ha with ha | rfl
 ·have:=v.bk.nU a ha;omega
 ·show o.bs.length≤_;omega
def Tw (kind:Int) (p:ah):List DV:=[.v (.int .i64 kind),.v (.int .i64 p.node),.v (.int .u64 (p.inc:Int)),.v (.slice none 0 0)]
def Ov.dn (o:Ov) (z:Int):Ov:=bif o.has z then (bif (o.del z).sv then (bif (o.del z).cA z then (o.del z).nw else o.del z) else o.del z) else o
def Ov.aG (o:Ov) (z:Int):List (List DV):=bif o.has z then (bif (o.del z).sv then (bif (o.del z).cA z then br (o.del z) 0 (o.del z).bs else []) else []) else []
def Ov.aH (o:Ov) (z:Int):List (List DV):=bif o.has z then (bif (o.del z).sv then (bif (o.del z).cA z then [] else [Tw 3 (o.lf z)]) else []) else []
theorem eu (o:Ov) (z:Int):(o.aH z).length≤1:=by unfold Ov.aH;cases o.has z<;>cases (o.del z).sv<;>cases (o.del z).cA z<;>simp
theorem ij {o:Ov} {k:Nat} (v:o.Inv k) (z:Int):(o.aG z).length≤1010:=by
 have h:=fp (o:=o.del z) (z:=0) (by have:=eX (v.del z).bk;omega) (o.del z).bs
 have h2:=fX (v.del z)
 unfold Ov.aG;cases o.has z<;>cases (o.del z).sv<;>cases (o.del z).cA z<;>simp<;>omega
set_option maxRecDepth 100000 in
theorem oN (o:Ov) (k:Nat) (v:o.Inv k) (z:Int) (hz : -9223372036854775808≤z∧z≤9223372036854775807):aL Tryz.prog 22 [.pt 0 0,.z z] [ao o 1 2,af o,ai o] (.ag [.sl 3 (o.aG z).length,aj,.sl 4 (o.aH z).length]) (ef (o.dn z)++[.rw 60 11 (o.aG z),.rw 62 4 (o.aH z)]):=by
 refine aL.intro (by kernel_rfl) rfl rfl 44 rfl rfl fun D w0 K bs ac wd hK (aB:bs.m=3) r=>?_
 refine ch (todo':=aft Tryz.f22 1) (E':=[(0,.pt 0 0),(1,.z z),(4,.pt 3 0),(5,.pt 4 0)]) (M':=[ao o 1 2,af o,ai o,.bx 46 [aj,aj,aj],.bx 46 [aj,aj,aj]]) tk tq hK aB [] 4 [0,1,2,3,4] [0,1,4,5] r (by kernel_rfl) trivial fun ac wd r=>?_
 have r:=r.gW (E1:=[(0,.pt 0 0),(1,.z z),(4,.pt 3 0),(5,.pt 4 0)]) (M1:=[ao o 1 2,af o,ai o,.bx 46 [aj,aj,aj],.bx 46 [aj,aj,aj]]) (M2:=[ao o 1 2,af o,ai o,.bx 46 [aj,aj,aj],.bx 46 [.sl 5 (0),aj,.sl 6 (0)],.rw 60 11 ([]),.rw 62 4 ([])]) [] [(4,0,60,11),(4,2,62,4)] (by kernel_rfl) (by kernel_rfl)
 cases h0:(o.has z) with
 | false=>
  refine bB (y:=.ag [.sl 3 (0),aj,.sl 4 (0)]) (N':=[ao o 1 2,af o,ai o,.rw 60 11 ([]),.rw 62 4 ([])]) ((by unfold Ov.aG Ov.aH;simp only [h0,cond_true,cond_false];first | done | rfl)) ((by unfold Ov.dn Ov.aG Ov.aH;simp only [h0,cond_true,cond_false];first | done | rfl)) ?_
  exact bC tk tq hK rfl aB [(2,[(5,.b false)])] 2000 [0,1,2,5,6] r (by kernel_rfl) (U ((dX v.lk hz):b5 Tryz.prog 3 ((.i .i64 (z))::List.map (fun (e:Nat×MK×DV)=>e.2.1) (aY o.ls))) (U ((fun _=>rfl):gp Tryz.prog 24 (.agg [(.int .i64 (0)),(.int .u64 (0))].toArray)) (U ((iq (by assumption)):∀ zz ∈ (aY o.ls:List (Nat×MK×DV)),zz.2.1≠.i .i64 (z)) trivial)))
 | true=>
  obtain ⟨bl,fj⟩:=mn (by assumption)
  refine ch (todo':=aft Tryz.f22 5) (E':=[(0,.pt 0 0),(1,.z z),(4,.pt 3 0),(5,.pt 4 0),(6,.pt 7 0)]) (M':=[ao o 1 2,af o,.mp 67 (o.ck) (List.eraseIdx (aY o.ls) (o.li z)),.bx 46 [aj,aj,aj],.bx 46 [.sl 5 (0),aj,.sl 6 (0)],.rw 60 11 ([]),.rw 62 4 ([]),.bx 24 [.z ((o.lf z).node),.u ((o.lf z).inc)]]) tk tq hK aB [(2,[(5,.mk (o.li z) (.i .i64 (z)) (.ag [.z ((o.lf z).node),.u ((o.lf z).inc)]))]),(5,[(5,.mk (o.li z) (.i .i64 (z)) (.ag [.z ((o.lf z).node),.u ((o.lf z).inc)]))])] 9 [0,1,2,3,4,5,6,7] [0,1,4,5,6] r (by kernel_rfl) (U ((dX v.lk hz):b5 Tryz.prog 3 ((.i .i64 (z))::List.map (fun (e:Nat×MK×DV)=>e.2.1) (aY o.ls))) (U (rfl:(.i .i64 (z):MK)=.i .i64 (z)) (U ((jT v.lk):(List.map (fun (e:Nat×MK×DV)=>e.2.1) (aY o.ls)).Nodup) (U (⟨bl,jf fj⟩:∃ b0,(aY o.ls:List (Nat×MK×DV))[o.li z]?=some (b0,.i .i64 (z),.ag [.z ((o.lf z).node),.u ((o.lf z).inc)])) (U ((dX v.lk hz):b5 Tryz.prog 3 ((.i .i64 (z))::List.map (fun (e:Nat×MK×DV)=>e.2.1) (aY o.ls))) (U (rfl:(.i .i64 (z):MK)=.i .i64 (z)) (U ((jT v.lk):(List.map (fun (e:Nat×MK×DV)=>e.2.1) (aY o.ls)).Nodup) (U (rfl:DV.iW (.ag [.z ((o.lf z).node),.u ((o.lf z).inc)])=true) (U (⟨bl,jf fj⟩:∃ b0,(aY o.ls:List (Nat×MK×DV))[o.li z]?=some (b0,.i .i64 (z),.ag [.z ((o.lf z).node),.u ((o.lf z).inc)])) trivial))))))))) fun ac wd r=>?_
  have r:=r.cast (M':=[.bx 70 [.z ((o.del z).self.node),.u ((o.del z).self.inc),.d (.ro 1 (ints (o.del z).homes)),.n ((o.del z).n),.sl 1 ((o.del z).book.length),.mv 2],af (o.del z),ai (o.del z),.bx 46 [aj,aj,aj],.bx 46 [.sl 5 (0),aj,.sl 6 (0)],.rw 60 11 ([]),.rw 62 4 ([]),.bx 24 [.z ((o.lf z).node),.u ((o.lf z).inc)]]) rfl (by rw [LF];rfl)
  cases h1:((o.del z).sv) with
  | false=>
   refine bB (y:=.ag [.sl 3 (0),aj,.sl 4 (0)]) (N':=[.bx 70 [.z ((o.del z).self.node),.u ((o.del z).self.inc),.d (.ro 1 (ints (o.del z).homes)),.n ((o.del z).n),.sl 1 ((o.del z).book.length),.mv 2],af (o.del z),ai (o.del z),.rw 60 11 ([]),.rw 62 4 ([])]) ((by unfold Ov.aG Ov.aH;simp only [h0,h1,cond_true,cond_false];first | done | rfl)) ((by unfold Ov.dn Ov.aG Ov.aH;simp only [h0,h1,cond_true,cond_false];first | done | rfl)) ?_
   exact bC tk tq hK rfl aB [(7,[(1,.mem [0,1,2] (aZ) [.bx 70 [.z ((o.del z).self.node),.u ((o.del z).self.inc),.d (.ro 1 (ints (o.del z).homes)),.n ((o.del z).n),.sl 1 ((o.del z).book.length),.mv 2],af (o.del z),ai (o.del z)])])] 2000 [0,1,2,5,6] r (by kernel_rfl) (U ((by have k:=fk (o.del z);rw [h1] at k;exact k):aL Tryz.prog 23 [.pt 0 0] [.bx 70 [.z ((o.del z).self.node),.u ((o.del z).self.inc),.d (.ro 1 (ints (o.del z).homes)),.n ((o.del z).n),.sl 1 ((o.del z).book.length),.mv 2],af (o.del z),ai (o.del z)] (aZ) [.bx 70 [.z ((o.del z).self.node),.u ((o.del z).self.inc),.d (.ro 1 (ints (o.del z).homes)),.n ((o.del z).n),.sl 1 ((o.del z).book.length),.mv 2],af (o.del z),ai (o.del z)]) trivial)
  | true=>
   have bd:=((by have k:=fk (o.del z);rw [h1] at k;exact k):aL Tryz.prog 23 [.pt 0 0] [.bx 70 [.z ((o.del z).self.node),.u ((o.del z).self.inc),.d (.ro 1 (ints (o.del z).homes)),.n ((o.del z).n),.sl 1 ((o.del z).book.length),.mv 2],af (o.del z),ai (o.del z)] (aU) [.bx 70 [.z ((o.del z).self.node),.u ((o.del z).self.inc),.d (.ro 1 (ints (o.del z).homes)),.n ((o.del z).n),.sl 1 ((o.del z).book.length),.mv 2],af (o.del z),ai (o.del z)])
   cases h2:((o.del z).cA z) with
   | false=>
    refine bB (y:=.ag [.sl 3 (0),aj,.sl 4 (0+(1))]) (N':=[.bx 70 [.z ((o.del z).self.node),.u ((o.del z).self.inc),.d (.ro 1 (ints (o.del z).homes)),.n ((o.del z).n),.sl 1 ((o.del z).book.length),.mv 2],af (o.del z),ai (o.del z),.rw 60 11 ([]),.rw 62 4 ([]++[[.z 3,.z ((o.lf z).node),.u ((o.lf z).inc),.v (.slice none 0 0)]])]) ((by unfold Ov.aG Ov.aH;simp only [h0,h1,h2,cond_true,cond_false];first | done | rfl)) ((by unfold Ov.dn Ov.aG Ov.aH;simp only [h0,h1,h2,cond_true,cond_false];first | done | rfl)) ?_
    exact bC tk tq hK rfl aB [(7,[(1,.mem [0,1,2] (aU) [.bx 70 [.z ((o.del z).self.node),.u ((o.del z).self.inc),.d (.ro 1 (ints (o.del z).homes)),.n ((o.del z).n),.sl 1 ((o.del z).book.length),.mv 2],af (o.del z),ai (o.del z)])]),(8,[(2,.mem [0,1,2] (aZ) [.bx 70 [.z ((o.del z).self.node),.u ((o.del z).self.inc),.d (.ro 1 (ints (o.del z).homes)),.n ((o.del z).n),.sl 1 ((o.del z).book.length),.mv 2],af (o.del z),ai (o.del z)])])] 2000 [0,1,2,5,6] r (by kernel_rfl) (U bd (U ((by have k:=e6 (o.del z) z;rw [h2] at k;exact k):aL Tryz.prog 19 [.pt 0 0,.z z] [.bx 70 [.z ((o.del z).self.node),.u ((o.del z).self.inc),.d (.ro 1 (ints (o.del z).homes)),.n ((o.del z).n),.sl 1 ((o.del z).book.length),.mv 2],af (o.del z),ai (o.del z)] (aZ) [.bx 70 [.z ((o.del z).self.node),.u ((o.del z).self.inc),.d (.ro 1 (ints (o.del z).homes)),.n ((o.del z).n),.sl 1 ((o.del z).book.length),.mv 2],af (o.del z),ai (o.del z)]) (U ((by first | rfl | (simp;done) | (simp<;>omega)):(0)=([]:List (List DV)).length) (U ((by first | rfl | (simp;done) | (simp<;>omega)):(1)=([[.z 3,.z ((o.lf z).node),.u ((o.lf z).inc),.v (.slice none 0 0)]]:List (List DV)).length) (U ((by first | omega | (simp;done) | (simp<;>omega)):(2*((0)+(1))+0)*48≤281474976710656) (U ((by first | omega | (simp;done) | (simp<;>omega)):(0)+(1)<4611686018427387904) (U ((by simp [bA,AV.one,cd]):bA ([[.z 3,.z ((o.lf z).node),.u ((o.lf z).inc),.v (.slice none 0 0)]])) trivial)))))))
   | true=>
    refine bB (y:=.ag [.sl 3 ((br (o.del z) 0 (o.del z).bs).length),aj,.sl 4 (0)]) (N':=[.bx 70 [.z ((o.del z).nw.self.node),.u ((o.del z).nw.self.inc),.d (.ro 1 (ints (o.del z).nw.homes)),.n ((o.del z).nw.n),.sl 1 ((o.del z).nw.book.length),.mv 2],.rw 31 4 (aI (o.del z).nw.book),.mp 67 ((o.del z).nw.ck) (aY (o.del z).nw.ls),.rw 60 11 (br (o.del z) 0 (o.del z).bs),.rw 62 4 ([])]) ((by unfold Ov.aG Ov.aH;simp only [h0,h1,h2,cond_true,cond_false];first | done | rfl)) ((by unfold Ov.dn Ov.aG Ov.aH;simp only [h0,h1,h2,cond_true,cond_false];first | done | rfl)) ?_
    exact bC tk tq hK rfl aB [(7,[(1,.mem [0,1,2] (aU) [.bx 70 [.z ((o.del z).self.node),.u ((o.del z).self.inc),.d (.ro 1 (ints (o.del z).homes)),.n ((o.del z).n),.sl 1 ((o.del z).book.length),.mv 2],af (o.del z),ai (o.del z)])]),(8,[(2,.mem [0,1,2] (aU) [.bx 70 [.z ((o.del z).self.node),.u ((o.del z).self.inc),.d (.ro 1 (ints (o.del z).homes)),.n ((o.del z).n),.sl 1 ((o.del z).book.length),.mv 2],af (o.del z),ai (o.del z)])]),(9,[(1,.mem [0,1,2] (.sl 3 ((br (o.del z) 0 (o.del z).bs).length)) [.bx 70 [.z ((o.del z).nw.self.node),.u ((o.del z).nw.self.inc),.d (.ro 1 (ints (o.del z).nw.homes)),.n ((o.del z).nw.n),.sl 1 ((o.del z).nw.book.length),.mv 2],.rw 31 4 (aI (o.del z).nw.book),.mp 67 ((o.del z).nw.ck) (aY (o.del z).nw.ls),.rw 60 11 (br (o.del z) 0 (o.del z).bs)])])] 2000 [0,1,2,8,6] r (by kernel_rfl) (U bd (U ((by have k:=e6 (o.del z) z;rw [h2] at k;exact k):aL Tryz.prog 19 [.pt 0 0,.z z] [.bx 70 [.z ((o.del z).self.node),.u ((o.del z).self.inc),.d (.ro 1 (ints (o.del z).homes)),.n ((o.del z).n),.sl 1 ((o.del z).book.length),.mv 2],af (o.del z),ai (o.del z)] (aU) [.bx 70 [.z ((o.del z).self.node),.u ((o.del z).self.inc),.d (.ro 1 (ints (o.del z).homes)),.n ((o.del z).n),.sl 1 ((o.del z).book.length),.mv 2],af (o.del z),ai (o.del z)]) (U (sP (o.del z) k (v.del z) (by assumption) 0) trivial)))
end Go.Proofs.YtlinpknagdgphaaGreat
namespace Go.Proofs.YtlinpknagdgphaaGreat
open Go.RowKit
theorem OQ {k:Nat} {c a:aw} (h:1≤c.seq):1≤(kG k c a).seq:=by
 unfold kG;split
 ·rename_i h2;exact (aw.gL.1 h2.1).2.1.1
 ·exact h
theorem x7 {l:List aw} {i:Nat} {x:aw} (h:l[i]?=some x) (hm:x.may=true) {k:Nat} (hk:x.server.node=(k:Int)):∀ n,i<n→1≤(aC l n k).seq:=by
 intro n hn
 induction n with
 | zero=>omega
 | succ n ih=>
  rcases Nat.lt_or_ge n l.length with hl | hl
  ·have e:=List.getElem?_eq_getElem hl
   rw [oz e]
   rcases Nat.lt_or_ge i n with h1 | h1
   ·exact OQ (ih h1)
   ·obtain rfl:i=n:=by omega
    rw [h] at e;cases e
    unfold kG;split
    ·exact (aw.gL.1 hm).2.1.1
    ·rename_i hc
     rcases Nat.eq_zero_or_pos (aC l i k).seq with h0 | h0
     ·exact absurd ⟨hm,hk,Or.inl h0⟩ hc
     ·exact h0
  ·have:aC l (n+1) k=aC l n k:=by rw [aC,aC,List.take_of_length_le (by omega),List.take_of_length_le hl]
   rw [this];exact ih (by have:=(List.getElem?_eq_some_iff.1 h).1;omega)
theorem xN {l:List aw} {x:aw}:∀ {k:Nat},x ∈ cW l k↔∃ j,j<k∧aC l l.length j=x∧0<x.seq
 | 0=>by simp [cW]
 | k+1=>by
  rw [cW,List.mem_append,xN (k:=k)]
  constructor
  ·rintro (⟨j,h1,h2,h3⟩ | h)
   ·exact ⟨j,by omega,h2,h3⟩
   ·split at h
    ·rw [List.mem_singleton] at h;subst h;exact ⟨k,by omega,rfl,by assumption⟩
    ·cases h
  ·rintro ⟨j,h1,h2,h3⟩
   rcases Nat.lt_or_ge j k with h | h
   ·exact Or.inl ⟨j,h,h2,h3⟩
   ·obtain rfl:j=k:=by omega
    right;rw [if_pos (by rw [h2];exact h3),h2];exact List.mem_singleton.2 rfl
theorem vr {l:List aw} {x:aw} {k:Nat} (hk:k<5) (h:aC l l.length k=x) (hx:0<x.seq):x ∈ book l:=xN.2 ⟨k,hk,h,hx⟩
theorem x8 {b:List aw} (g:dg b) {x:aw} (hx:x ∈ b):aC b b.length x.server.node.toNat=x:=by
 obtain ⟨i,hi,e⟩:=List.getElem_of_mem hx
 have hm:=g.may x hx
 obtain ⟨h1,h2,h3⟩:=p7 hm
 have hs:=x7 (i:=i) (x:=x) (by rw [List.getElem?_eq_getElem hi,e]) hm (k:=x.server.node.toNat) h1.symm b.length hi
 rcases oM b x.server.node.toNat b.length with h | ⟨h4,-,h5⟩
 ·rw [h] at hs;exact absurd hs (by decide)
 ·obtain ⟨j,hj,ej⟩:=List.getElem_of_mem h4
  rw [← ej] at h5 ⊢
  rw [← e]
  have up:=List.pairwise_iff_getElem.1 g.up
  rcases Nat.lt_trichotomy i j with h | rfl | h
  ·have:=up i j hi hj h;rw [e] at this;omega
  ·rfl
  ·have:=up j i hj hi h;rw [e] at this;omega
theorem OR {b:List aw} (g:dg b) {x:aw} (hx:x ∈ b):x ∈ book b:=by
 obtain ⟨h1,h2,h3⟩:=p7 (g.may x hx)
 exact vr h2 (x8 g hx) (by have:=(aw.gL.1 (g.may x hx)).2.1.1;omega)
theorem LG (l:List aw) (a:aw) (k:Nat):aC (l++[a]) (l++[a]).length k=kG k (aC l l.length k) a:=by
 have h:(l++[a])[l.length]?=some a:=by simp
 rw [List.length_append,show l.length+[a].length=l.length+1 from rfl,oz h]
 congr 1
 unfold aC
 rw [List.take_append_of_le_length (Nat.le_refl _)]
theorem LH {a b:aw}:dF a b=true↔b.server.inc<a.server.inc∨a.server.inc=b.server.inc∧b.seq<a.seq:=by
 unfold dF;exact decide_eq_true_iff
theorem Nx {a b:aw}:dF a b=false↔¬ (b.server.inc<a.server.inc∨a.server.inc=b.server.inc∧b.seq<a.seq):=by
 unfold dF;exact decide_eq_false_iff_not
theorem Kf (a:aw):dF a a=false:=Nx.2 (by omega)
theorem JE {a b c:aw} (h:dF a b=true) (k:dF b c=true):dF a c=true:=by
 rw [LH] at *;omega
theorem Ny {l o:List aw} (h:∀ k,k<5→aC l l.length k=aC o o.length k):book l=book o:=by
 have key:∀ k,k≤5→cW l k=cW o k:=by
  intro k
  induction k with
  | zero=>intro _;rfl
  | succ k ih=>intro hk;rw [cW,cW,ih (by omega),h k (by omega)]
 exact key 5 (Nat.le_refl _)
theorem Nz {l:List aw} {k:Nat}:∀ (n i:Nat),i<n→∀ y,l[i]?=some y→y.may=true→y.server.node=(k:Int)→dF y (aC l n k)=false:=by
 intro n
 induction n with
 | zero=>intro i hi;omega
 | succ n ih=>
  intro i hi y hy hm hk
  rcases Nat.lt_or_ge n l.length with hl | hl
  ·have e:=List.getElem?_eq_getElem hl
   rw [oz e]
   unfold kG
   split
   ·rename_i hc
    rcases Nat.lt_or_ge i n with h1 | h1
    ·have h2:=ih i h1 y hy hm hk
     rcases hc.2.2 with h3 | h3
     ·have:=x7 hy hm hk n h1;omega
     ·cases h4:dF y l[n] with
      | false=>rfl
      | true=>rw [JE h4 h3] at h2;cases h2
    ·obtain rfl:i=n:=by omega
     rw [hy] at e;cases e;exact Kf _
   ·rename_i hc
    rcases Nat.lt_or_ge i n with h1 | h1
    ·exact ih i h1 y hy hm hk
    ·obtain rfl:i=n:=by omega
     rw [hy] at e;cases e
     cases h4:dF l[i] (aC l i k) with
     | false=>rfl
     | true=>exact absurd ⟨hm,hk,Or.inr h4⟩ hc
  ·have h0:aC l (n+1) k=aC l n k:=by rw [aC,aC,List.take_of_length_le (by omega),List.take_of_length_le hl]
   rw [h0];exact ih i (by have:=(List.getElem?_eq_some_iff.1 hy).1;omega) y hy hm hk
theorem OS {l:List aw} {y:aw} (hy:y ∈ l) (hm:y.may=true) {k:Nat} (hk:y.server.node=(k:Int)):1≤(aC l l.length k).seq∧dF y (aC l l.length k)=false:=by
 obtain ⟨i,hi,e⟩:=List.getElem_of_mem hy
 have h1:l[i]?=some y:=by rw [List.getElem?_eq_getElem hi,e]
 exact ⟨x7 h1 hm hk _ hi,Nz _ i hi y h1 hm hk⟩
theorem Kg (l:List aw) {k:Nat} (hk:k<5):aC (book l) (book l).length k=aC l l.length k:=by
 rcases oM l k l.length with h1 | ⟨h1,m1,n1⟩
 ·rw [h1]
  rcases oM (book l) k (book l).length with h2 | ⟨h2,m2,n2⟩
  ·exact h2
  ·obtain ⟨j,-,e,hs⟩:=xN.1 h2
   rcases oM l j l.length with h3 | ⟨h3,m3,n3⟩
   ·rw [h3] at e;rw [← e] at hs;exact absurd hs (by decide)
   ·rw [e] at n3;have:j=k:=by omega
    subst this;rw [h1] at e;rw [← e] at hs;exact absurd hs (by decide)
 ·have hs:=(aw.gL.1 m1).2.1.1
  have hx:aC l l.length k ∈ book l:=vr hk rfl (by omega)
  have:=x8 (dS l) hx
  rw [show (aC l l.length k).server.node.toNat=k by omega] at this
  exact this
theorem LI (l:List aw):book (book l)=book l:=Ny fun _ hk=>Kg l hk
theorem LJ (l:List aw) (a:aw):fa (book l) a=(a.may&&(book l).all fun x=>!(decide (x.server.node=a.server.node))||dF a x):=by
 unfold fa jF;rw [LI,List.take_length]
theorem Kh (l:List aw) (a:aw):fa (book (l++[a])) a=false:=by
 rw [LJ]
 cases hm:a.may with
 | false=>rfl
 | true=>
  rw [Bool.true_and,List.all_eq_false]
  obtain ⟨h1,h2,h3⟩:=p7 hm
  have hb:=OS (l:=l++[a]) (by simp) hm h1.symm
  refine ⟨aC (l++[a]) (l++[a]).length a.server.node.toNat,vr h2 rfl (by omega),?_⟩
  rcases oM (l++[a]) a.server.node.toNat (l++[a]).length with h4 | ⟨h4,-,h5⟩
  ·have:=hb.1;rw [h4] at this;exact absurd this (by decide)
  ·rw [hb.2,h5,h1,decide_eq_true rfl];simp
theorem Ki (l:List aw) (a:aw):fa (a9 l a) a=false:=Kh (book l) a
theorem Kj {l:List aw} {a x:aw} (hx:x ∈ book l) (hn:x.server.node≠a.server.node):x ∈ a9 l a:=by
 have hm:=(dS l).may x hx
 obtain ⟨h1,h2,h3⟩:=p7 hm
 have hb:=x8 (dS l) hx
 refine vr h2 (k:=x.server.node.toNat) ?_ (by have:=(aw.gL.1 hm).2.1.1;omega)
 rw [LG,hb,kG,if_neg]
 rintro ⟨-,h4,-⟩
 omega
theorem PS {l:List ah} (h:SS l) (hm:∀ p ∈ l,p.may=true):isSet l=true:=uR ⟨fun j p _ hp=>hm p (List.mem_of_getElem? hp),fun j p q hj hp hq=>by
 obtain ⟨h1,rfl⟩:=List.getElem?_eq_some_iff.1 hp
 obtain ⟨h2,rfl⟩:=List.getElem?_eq_some_iff.1 hq
 exact List.pairwise_iff_getElem.1 h j (j+1) h1 h2 (by omega)⟩
theorem OT {l:List ah} (h:SS l) (hk:∀ p ∈ l,∀ q ∈ l,p.node=q.node→p=q):lone l=true:=EH fun a b p q ha hb hp hq e=>by
 obtain ⟨h1,rfl⟩:=List.getElem?_eq_some_iff.1 hp
 obtain ⟨h2,rfl⟩:=List.getElem?_eq_some_iff.1 hq
 have h3:=hk _ (List.getElem_mem h2) _ (List.getElem_mem h1) e
 have h4:=List.pairwise_iff_getElem.1 h b a h2 h1 hb
 rw [h3,lt_irrefl] at h4;cases h4
theorem PT {o:Ov} {q:ah}:q ∈ o.lk↔∃ e ∈ o.ls,e.2.2=q:=by unfold Ov.lk;rw [so,List.mem_map]
theorem An {o:Ov} {q:ah}:q ∈ o.bs↔(∃ e ∈ o.ls,e.2.2=q)∧o.cA q.node=true:=by unfold Ov.bs;rw [List.mem_filter,PT]
theorem QY (o:Ov):SS o.lk:=vW _
theorem He (o:Ov):SS o.bs:=List.Pairwise.filter _ (QY o)
theorem Ao {o:Ov} {k:Nat} (v:o.Inv k) {q:ah} (h:q ∈ o.bs):q.dR=true∧q.node≠o.self.node:=by
 obtain ⟨⟨e,he,rfl⟩,hs⟩:=An.1 h
 have h1:=v.lk.e e he
 have h2:=v.ns e he
 have h4:=v.ok.n4
 unfold Ov.cA at hs
 have hs:=of_decide_eq_true hs
 exact ⟨ah.qn.2 (by omega),by omega⟩
theorem PU {o:Ov} {k:Nat} (v:o.Inv k) {p q:ah} (hp:∃ e ∈ o.ls,e.2.2=p) (hq:∃ e ∈ o.ls,e.2.2=q) (h:p.node=q.node):p=q:=by
 obtain ⟨e,he,rfl⟩:=hp
 obtain ⟨f,hf,rfl⟩:=hq
 have h1:=(v.lk.e e he).1
 have h2:=(v.lk.e f hf).1
 have:e=f:=List.pM v.lk.k he hf (by omega)
 rw [this]
theorem PV {o:Ov} {k:Nat} (v:o.Inv k) (hs:o.sv=true) (hk:k+1≤34359738367):o.ad.may=true∧o.ad.seq≤k+1:=by
 obtain ⟨eo,kH,ho⟩:=sC (v.own hs)
 have hm:=List.mem_of_getElem? kH
 have h1:=(v.one eo hm (by rw [ho])).2
 have h2:=(aw.gL.1 (v.bk.may eo hm)).2.1
 have T5:o.ad.seq=eo.seq+1:=by unfold Ov.ad;rw [kH];simp only [Option.map_some,Option.getD_some];omega
 have h4:=FW v.ok hs
 have Hf:o.ad.server=o.self:=rfl
 have uu:o.ad.ay=o.bs:=rfl
 refine ⟨aw.gL.2 ⟨?_,by omega,?_,?_,?_,?_⟩,by omega⟩
 ·rw [Hf];exact ah.qn.2 ⟨v.ok.s1,h4,v.ok.s4,by have:=v.ok.s3;omega⟩
 ·rw [uu];exact PS (He o) fun p hp=>by have:=(Ao v hp).1;unfold ah.dR at this;simp only [Bool.and_eq_true] at this;exact this.1.1
 ·rw [uu,List.all_eq_true];exact fun p hp=>(Ao v hp).1
 ·rw [uu];exact OT (He o) fun p hp q hq e=>PU v (An.1 hp).1 (An.1 hq).1 e
 ·rw [uu];exact fun q hq=>by rw [Hf];exact (Ao v hq).2
theorem Ov.Inv.up {o:Ov} {k m:Nat} (v:o.Inv k) (h:k≤m):o.Inv m:=⟨v.ok,v.lk,v.ns,v.bk,v.own,fun a ha e=>⟨(v.one a ha e).1,Nat.le_trans (v.one a ha e).2 h⟩⟩
theorem Ap {o:Ov} {a:aw} (h:a ∈ o.book) (hs:a.server=o.self):o.own<o.book.length:=by
 unfold Ov.own;exact List.findIdx_lt_length_of_exists ⟨a,h,decide_eq_true hs⟩
theorem Ov.Inv.nw {o:Ov} {k:Nat} (v:o.Inv k) (hs:o.sv=true) (hk:k+1≤34359738367):o.nw.Inv (k+1):=by
 obtain ⟨hm,hq⟩:=PV v hs hk
 have hl:=v.own hs
 obtain ⟨eo,kH,ho⟩:=sC hl
 have hb:o.nw.book=o.book.set o.own o.ad:=rfl
 have CR:o.ad ∈ o.nw.book:=List.mem_of_getElem? (Ha hl)
 refine ⟨⟨v.ok.s1,v.ok.s2,v.ok.s3,v.ok.s4,v.ok.h,v.ok.n1,v.ok.n4,v.ok.nh,v.ok.hz⟩,v.lk,v.ns,⟨fun a ha=>?_,?_⟩,fun _=>Ap CR rfl,fun a ha e=>?_⟩
 ·rw [hb] at ha
  rcases List.mem_or_eq_of_mem_set ha with ha | rfl
  ·exact v.bk.may a ha
  ·exact hm
 ·rw [hb]
  have key:(o.book.set o.own o.ad).map (fun a=>a.server.node)=o.book.map fun a=>a.server.node:=by
   apply List.ext_getElem?
   intro i
   rw [List.getElem?_map,List.getElem?_map,List.getElem?_set]
   split
   ·rename_i e;subst e;refine Eq.trans ?_ (congrArg (Option.map fun a:aw=>a.server.node) kH).symm;simp only [Option.map_some,ho];rfl
   ·rfl
  have h1:((o.book.set o.own o.ad).map fun a=>a.server.node).Pairwise (·<·):=by rw [key];exact List.Pairwise.map _ (fun _ _ h=>h) v.bk.up
  exact List.Pairwise.of_map _ (fun _ _ h=>h) h1
 ·rw [hb] at ha
  rcases List.mem_or_eq_of_mem_set ha with ha | rfl
  ·exact ⟨(v.one a ha e).1,by have:=(v.one a ha e).2;omega⟩
  ·exact ⟨rfl,hq⟩
theorem Ov.Inv.dn {o:Ov} {k:Nat} (v:o.Inv k) (z:Int) (hk:k+1≤34359738367):(o.dn z).Inv (k+1):=by
 have v1:=(v.del z).up (m:=k+1) (by omega)
 unfold Ov.dn
 cases o.has z with
 | false=>exact v.up (by omega)
 | true=>
  cases hs:(o.del z).sv with
  | false=>exact v1
  | true=>
   cases (o.del z).cA z with
   | false=>exact v1
   | true=>exact (v.del z).nw hs hk
theorem OU {o:Ov} {k:Nat} (v:o.Inv k) {z:Int} (h:o.has z=true):(o.del z).has z=false:=by
 obtain ⟨b,hb⟩:=mn h
 unfold Ov.has
 rw [List.any_eq_false]
 intro e he hz
 have hz:=of_decide_eq_true hz
 obtain ⟨i,hi,rfl⟩:=List.getElem_of_mem he
 have g:(o.ls.eraseIdx (o.li z))[i]?=some (o.del z).ls[i]:=List.getElem?_eq_getElem hi
 rw [List.getElem?_eraseIdx] at g
 have aK:=(List.getElem?_eq_some_iff.1 hb).1
 split at g
 ·have a1:(o.ls.map fun e=>e.2.1)[i]?=some z:=by rw [List.getElem?_map,g];simp [hz]
  have a2:(o.ls.map fun e=>e.2.1)[o.li z]?=some z:=by rw [List.getElem?_map,hb];rfl
  have:=(List.getElem?_inj (by rw [List.length_map];exact (List.getElem?_eq_some_iff.1 g).1) v.lk.k).1 (a1.trans a2.symm)
  omega
 ·have a1:(o.ls.map fun e=>e.2.1)[i+1]?=some z:=by rw [List.getElem?_map,g];simp [hz]
  have a2:(o.ls.map fun e=>e.2.1)[o.li z]?=some z:=by rw [List.getElem?_map,hb];rfl
  have:=(List.getElem?_inj (by rw [List.length_map];exact (List.getElem?_eq_some_iff.1 g).1) v.lk.k).1 (a1.trans a2.symm)
  omega
theorem jH {o:Ov} {k:Nat} (v:o.Inv k) (z:Int):(o.dn z).has z=false:=by
 unfold Ov.dn
 cases h:o.has z with
 | false=>exact h
 | true=>
  have:=OU v h
  cases (o.del z).sv with
  | false=>exact this
  | true=>cases (o.del z).cA z<;>exact this
def Ov.add (o:Ov) (p:ah):Ov:={ o with ck:=o.ck+1,ls:=o.ls++[(o.ck,p.node,p)] }
theorem ten {l:List Int} (h:l.Nodup) (h2:∀ x ∈ l,1≤x∧x≤10):l.length≤10:=by
 have:=l6 (m:=[1,2,3,4,5,6,7,8,9,10]) h fun x hx=>by
  have:=h2 x hx
  simp only [List.mem_cons,List.not_mem_nil,or_false];omega
 simpa using this
theorem Ov.Inv.add {o:Ov} {k:Nat} (v:o.Inv k) {p:ah} (hn:o.fZ p.node=true) (h0:0<p.inc) (h1:p.inc≤34359738367) (hh:o.has p.node=false):(o.add p).Inv k:=by
 unfold Ov.fZ at hn
 simp only [Bool.and_eq_true] at hn
 have hr:=of_decide_eq_true hn.1
 have cD:=v.ok.h
 have kn:((o.ls++[(o.ck,p.node,p)]).map fun e=>e.2.1).Nodup:=by
  rw [List.map_append,List.nodup_append]
  refine ⟨v.lk.k,by simp,fun a ha b hb=>?_⟩
  simp only [List.map_cons,List.map_nil,List.mem_singleton] at hb;subst hb
  rintro rfl
  obtain ⟨e,he,h2⟩:=List.mem_map.1 ha
  exact List.any_eq_false.1 hh e he (decide_eq_true h2)
 have ke:∀ e ∈ o.ls++[(o.ck,p.node,p)],e.2.2.node=e.2.1∧1≤e.2.1∧e.2.1≤10∧0<e.2.2.inc∧e.2.2.inc≤34359738367:=fun e he=>by
  rcases List.mem_append.1 he with he | he
  ·exact v.lk.e e he
  ·rw [List.mem_singleton] at he;subst he;exact ⟨rfl,by dsimp only;omega,by dsimp only;omega,h0,h1⟩
 refine ⟨⟨v.ok.s1,v.ok.s2,v.ok.s3,v.ok.s4,v.ok.h,v.ok.n1,v.ok.n4,v.ok.nh,v.ok.hz⟩,⟨?_,fun e he=>?_,kn,ke,?_⟩,fun e he=>?_,v.bk,v.own,v.one⟩
 ·show ((o.ls++[(o.ck,p.node,p)]).map fun e=>e.1).Nodup
  rw [List.map_append,List.nodup_append]
  refine ⟨v.lk.b,by simp,fun a ha b hb=>?_⟩
  simp only [List.map_cons,List.map_nil,List.mem_singleton] at hb;subst hb
  rintro rfl
  obtain ⟨e,he,h2⟩:=List.mem_map.1 ha
  have:=v.lk.lt e he;omega
 ·show e.1<o.ck+1
  rcases List.mem_append.1 he with he | he
  ·have:=v.lk.lt e he;omega
  ·rw [List.mem_singleton] at he;subst he;dsimp only;omega
 ·have:=ten kn fun x hx=>by obtain ⟨e,he,rfl⟩:=List.mem_map.1 hx;exact ⟨(ke e he).2.1,(ke e he).2.2.1⟩
  rw [List.length_map] at this;exact this
 ·rcases List.mem_append.1 he with he | he
  ·exact v.ns e he
  ·rw [List.mem_singleton] at he;subst he;exact hr.2.2
def Ov.wb (o:Ov) (b:List aw):Ov:={ o with book:=b }
theorem Ov.Inv.wb {o:Ov} {k:Nat} (v:o.Inv k) {a:aw} (hn:a.server.node≠o.self.node) {b:List aw} (hb:b=a9 o.book a):(o.wb b).Inv k:=by
 refine ⟨⟨v.ok.s1,v.ok.s2,v.ok.s3,v.ok.s4,v.ok.h,v.ok.n1,v.ok.n4,v.ok.nh,v.ok.hz⟩,v.lk,v.ns,by rw [hb];exact dS _,fun hs=>?_,fun x hx e=>?_⟩
 ·obtain ⟨eo,kH,ho⟩:=sC (v.own hs)
  have h1:eo ∈ b:=by rw [hb];exact Kj (OR v.bk (List.mem_of_getElem? kH)) (by rw [ho];exact fun e=>hn e.symm)
  exact Ap (o:=o.wb b) h1 ho
 ·have hx:x ∈ b:=hx
  rw [hb] at hx
  have h1:=ES hx
  rcases List.mem_append.1 h1 with h1 | h1
  ·exact v.one x (ES h1) e
  ·rw [List.mem_singleton] at h1;subst h1;exact absurd e hn
end Go.Proofs.YtlinpknagdgphaaGreat
namespace Go.Proofs.YtlinpknagdgphaaGreat
open Go.RowKit
theorem oO (o:Ov) (z x:Int):(o.dn z).fZ x=o.fZ x:=by
 unfold Ov.dn
 cases o.has z with
 | false=>rfl
 | true=>cases (o.del z).sv with
  | false=>rfl
  | true=>cases (o.del z).cA z<;>rfl
theorem np (o:Ov) (z:Int) (l:List ah):bA (br o z l):=by
 unfold bA;rw [List.all_eq_true];intro r hr
 unfold br at hr
 obtain ⟨q,-,h⟩:=List.mem_flatMap.1 hr
 split at h
 ·exact List.all_eq_true.1 (j8 _ _) r h
 ·rw [List.mem_singleton] at h;subst h;rfl
theorem iO {o:Ov} (ok:o.Ok) {x:Int} (h:o.fZ x=true):1≤x∧x≤10:=by
 unfold Ov.fZ at h
 simp only [Bool.and_eq_true] at h
 have h1:=of_decide_eq_true h.1
 have:=ok.h;omega
def Ov.cF (o:Ov) (p:ah):Bool:=!(o.fZ p.node)||(decide (p.inc=0)||(decide (34359738367<p.inc)||(bif o.has p.node then decide (o.lf p.node=p) else decide (⟨0,0⟩=p))))
def Ov.ae (o:Ov) (p:ah):Ov:=(o.dn p.node).add p
def Ov.eh (o:Ov) (p:ah):Ov:=bif o.cF p then o else (bif (o.ae p).sv then (bif (o.ae p).cA p.node then (o.ae p).nw else o.ae p) else o.ae p)
theorem qt (l:List (Nat×Int×ah)) (c:Nat) (p:ah):aY l++[(c,.i .i64 p.node,.ag [.v (.int .i64 p.node),.v (.int .u64 (p.inc:Int))])]=aY (l++[(c,p.node,p)]):=by unfold aY;rw [List.map_append];rfl
theorem kh (o:Ov) (k:Nat) (v:o.Inv k) (fI:List ah) (R1 R2:List (List DV)) (hR:R2.length≤10) (n1 n2:Nat) (h1:n1=R1.length) (h2:n2=R2.length):aL Tryz.prog 25 [.pt 0 0,.ag [.sl 3 n1,aj,.sl 4 n2],.d (.ro 2 (procs fI))] [ao o 1 2,af o,ai o,.rw 60 11 R1,.rw 62 4 R2] (.ag [.sl 3 R1.length,aj,.sl 5 (o.bu fI R2).length]) (ef o++[.rw 60 11 R1,.dead,.rw 62 4 (o.bu fI R2)]):=by
 subst h1 h2;exact PR o k v fI R1 R2 hR
set_option maxRecDepth 100000 in
theorem OV (o:Ov) (k:Nat) (v:o.Inv k) (hk:k+2≤34359738367) (z:Int) (hz : -9223372036854775808≤z∧z≤9223372036854775807):aL Tryz.prog 8 [.pt 0 0,.z z] [ao o 1 2,af o,ai o] (.ag [.d .jk,.d .jk,.d .jk]) (ef (o.dn z)):=by
 have b6:=v.ok.s1
 have gN:=v.ok.s2
 have ou:=v.ok.h
 refine aL.intro (by kernel_rfl) rfl rfl 18 rfl rfl fun D w0 K bs ac wd hK (aB:bs.m=3) r=>?_
 refine ch (todo':=aft Tryz.f8 4) (E':=[(4,.pt 3 0)]) (M':=[.bx 70 [.z ((o.dn z).self.node),.u ((o.dn z).self.inc),.d (.ro 1 (ints (o.dn z).homes)),.n ((o.dn z).n),.sl 1 ((o.dn z).book.length),.mv 2],af (o.dn z),ai (o.dn z),.bx 46 [.sl 4 (((o.aG z)).length),aj,.sl 6 (((o.dn z).bu o.rc ((o.aH z))).length)],.rw 60 11 ((o.aG z)),.dead,.rw 62 4 (((o.dn z).bu o.rc ((o.aH z))))]) tk tq hK aB [(1,[(1,.mem [0,1,2] (aU) [ao o 1 2,af o,ai o])]),(3,[(1,.mem [0,1,2] (.d (.ro 2 (procs o.rc))) [ao o 1 2,af o,ai o])]),(4,[(3,.mem [0,1,2] (.ag [.sl 3 ((o.aG z).length),aj,.sl 4 ((o.aH z).length)]) [.bx 70 [.z ((o.dn z).self.node),.u ((o.dn z).self.inc),.d (.ro 1 (ints (o.dn z).homes)),.n ((o.dn z).n),.sl 1 ((o.dn z).book.length),.mv 2],af (o.dn z),ai (o.dn z),.rw 60 11 ((o.aG z)),.rw 62 4 ((o.aH z))]),(5,.mem [0,1,2,4,5] (.ag [.sl 3 (((o.aG z)).length),aj,.sl 5 (((o.dn z).bu o.rc ((o.aH z))).length)]) [.bx 70 [.z ((o.dn z).self.node),.u ((o.dn z).self.inc),.d (.ro 1 (ints (o.dn z).homes)),.n ((o.dn z).n),.sl 1 ((o.dn z).book.length),.mv 2],af (o.dn z),ai (o.dn z),.rw 60 11 ((o.aG z)),.dead,.rw 62 4 (((o.dn z).bu o.rc ((o.aH z))))])])] 11 [0,1,2,3,4,5,6] [4] r (by kernel_rfl) (U (dr o b6) (U (gS o k v) (U (oN o k v z (by first | omega | exact hz)) (U (kh (o.dn z) (k+1) (v.dn z (by omega)) o.rc ((o.aG z)) ((o.aH z)) (by have:=eu o z;first | omega | (simp;omega)) _ _ (by first | rfl | (simp;done)) (by first | rfl | (simp;done)):aL Tryz.prog 25 [.pt 0 0,.ag [.sl 3 ((o.aG z).length),aj,.sl 4 ((o.aH z).length)],.d (.ro 2 (procs o.rc))] [.bx 70 [.z ((o.dn z).self.node),.u ((o.dn z).self.inc),.d (.ro 1 (ints (o.dn z).homes)),.n ((o.dn z).n),.sl 1 ((o.dn z).book.length),.mv 2],af (o.dn z),ai (o.dn z),.rw 60 11 ((o.aG z)),.rw 62 4 ((o.aH z))] (.ag [.sl 3 (((o.aG z)).length),aj,.sl 5 (((o.dn z).bu o.rc ((o.aH z))).length)]) [.bx 70 [.z ((o.dn z).self.node),.u ((o.dn z).self.inc),.d (.ro 1 (ints (o.dn z).homes)),.n ((o.dn z).n),.sl 1 ((o.dn z).book.length),.mv 2],af (o.dn z),ai (o.dn z),.rw 60 11 ((o.aG z)),.dead,.rw 62 4 (((o.dn z).bu o.rc ((o.aH z))))]) trivial)))) fun ac wd r=>?_
 have r:=r.eU 3 (M2:=[.bx 70 [.z ((o.dn z).self.node),.u ((o.dn z).self.inc),.d (.ro 1 (ints (o.dn z).homes)),.n ((o.dn z).n),.sl 1 ((o.dn z).book.length),.mv 2],af (o.dn z),ai (o.dn z),.bx 46 [.d (.jk),.d (.jk),.d (.jk)],.rw 60 11 ((o.aG z)),.dead,.rw 62 4 (((o.dn z).bu o.rc ((o.aH z))))]) rfl rfl
 refine bB (y:=.ag [.d (.jk),.d (.jk),.d (.jk)]) (N':=[.bx 70 [.z ((o.dn z).self.node),.u ((o.dn z).self.inc),.d (.ro 1 (ints (o.dn z).homes)),.n ((o.dn z).n),.sl 1 ((o.dn z).book.length),.mv 2],af (o.dn z),ai (o.dn z)]) (rfl) (rfl) ?_
 exact bC tk tq hK rfl aB [] 2000 [0,1,2] r (by kernel_rfl) trivial
set_option maxRecDepth 100000 in
theorem QZ (o:Ov) (k:Nat) (v:o.Inv k) (hk:k+2≤34359738367) (p:ah):aL Tryz.prog 7 [.pt 0 0,.ag [.z p.node,.u p.inc]] [ao o 1 2,af o,ai o] (.ag [.d .jk,.d .jk,.d .jk]) (ef (o.eh p)):=by
 have b6:=v.ok.s1
 have gN:=v.ok.s2
 have ou:=v.ok.h
 refine aL.intro (by kernel_rfl) rfl rfl 80 rfl rfl fun D w0 K bs ac wd hK (aB:bs.m=3) r=>?_
 cases h0:(o.fZ p.node) with
 | false=>
  refine ch (todo':=aft Tryz.f7 2) (E':=[(0,.pt 0 0),(3,.pt 3 0),(4,.pt 4 0)]) (M':=[ao o 1 2,af o,ai o,.bx 24 [.z p.node,.u p.inc],.bx 46 [aj,aj,aj]]) tk tq hK aB [(1,[(1,.mem [0,1,2] (aU) [ao o 1 2,af o,ai o]),(7,.mem [0,1,2] (aZ) [ao o 1 2,af o,ai o])])] 8 [0,1,2,3,4] [0,3,4] r (by kernel_rfl) (U (dr o b6) (U ((by have k:=vZ o b6 gN ou p.node;rw [h0] at k;exact k):aL Tryz.prog 21 [.pt 0 0,.z p.node] [ao o 1 2,af o,ai o] (aZ) [ao o 1 2,af o,ai o]) trivial)) fun ac wd r=>?_
  have r:=r.eU 4 (M2:=[ao o 1 2,af o,ai o,.bx 24 [.z p.node,.u p.inc],.bx 46 [.d (.jk),.d (.jk),.d (.jk)]]) rfl rfl
  refine bB (y:=.ag [.d (.jk),.d (.jk),.d (.jk)]) (N':=[ao o 1 2,af o,ai o]) (rfl) ((by unfold Ov.eh;rw [show o.cF p=true from by unfold Ov.cF;simp only [h0,Bool.not_true,Bool.not_false,Bool.true_or,Bool.or_true,Bool.false_or,Bool.or_false,cond_true,cond_false];first | done | (simp;omega)];rfl)) ?_
  exact bC tk tq hK rfl aB [] 2000 [0,1,2] r (by kernel_rfl) trivial
 | true=>
  have w7:=iO v.ok (x:=p.node) (by assumption)
  have bd:=((by have k:=vZ o b6 gN ou p.node;rw [h0] at k;exact k):aL Tryz.prog 21 [.pt 0 0,.z p.node] [ao o 1 2,af o,ai o] (aU) [ao o 1 2,af o,ai o])
  cases h1:((((p.inc:Nat):Int):Int)==0) with
  | false=>
   have bN:=ne_of_beq_false h1
   cases h2:(decide ((34359738367:Int)<((p.inc:Nat):Int))) with
   | false=>
    have b7:=of_decide_eq_false h2
    cases h3:(o.has p.node) with
    | false=>
     have b3:=((dX v.lk (by have:=iO v.ok (x:=p.node) (by assumption);omega)):b5 Tryz.prog 3 ((.i .i64 (p.node))::List.map (fun (e:Nat×MK×DV)=>e.2.1) (aY o.ls)))
     have cy:=((fun _=>rfl):gp Tryz.prog 24 (.agg [(.int .i64 (0)),(.int .u64 (0))].toArray))
     have db:=((iq (by assumption)):∀ zz ∈ (aY o.ls:List (Nat×MK×DV)),zz.2.1≠.i .i64 (p.node))
     cases h4:(decide (⟨0,0⟩=p)) with
     | false=>
      have eA:=of_decide_eq_false h4
      refine ch (todo':=aft Tryz.f7 3) (E':=[(0,.pt 0 0),(3,.pt 3 0),(4,.pt 4 0),(5,.d (.ro 2 (procs o.rc)))]) (M':=[ao o 1 2,af o,ai o,.bx 24 [.z p.node,.u p.inc],.bx 46 [aj,aj,aj]]) tk tq hK aB [(1,[(1,.mem [0,1,2] (aU) [ao o 1 2,af o,ai o]),(7,.mem [0,1,2] (aU) [ao o 1 2,af o,ai o]),(13,.b false),(18,.b false),(27,.b false),(29,.b false)]),(3,[(1,.mem [0,1,2] (.d (.ro 2 (procs o.rc))) [ao o 1 2,af o,ai o])])] 9 [0,1,2,3,4] [0,3,4,5] r (by kernel_rfl) (U (dr o b6) (U bd (U h1 (U h2 (U b3 (U cy (U db (U ((ez (eN ⟨0,0⟩ p) h4):dK Tryz.prog 24 [(.int .i64 (0)),(.int .u64 (0))] [(.int .i64 (p.node)),(.int .u64 (((p.inc:Nat):Int)))] false) (U (gS o k v) trivial))))))))) fun ac wd r=>?_
      have bg:(o.ae p).Inv (k+1):=(v.dn p.node (by omega)).add (by rw [oO];assumption) (by omega) (by omega) (jH v p.node)
      refine ch (todo':=aft Tryz.f7 5) (E':=[(0,.pt 0 0),(3,.pt 3 0),(4,.pt 4 0),(5,.d (.ro 2 (procs o.rc))),(6,.pt 7 0)]) (M':=[.bx 70 [.z ((o.dn p.node).self.node),.u ((o.dn p.node).self.inc),.d (.ro 1 (ints (o.dn p.node).homes)),.n ((o.dn p.node).n),.sl 1 ((o.dn p.node).book.length),.mv 2],af (o.dn p.node),.mp 67 ((o.dn p.node).ck+1) (aY (o.dn p.node).ls++[((o.dn p.node).ck,.i .i64 (p.node),.ag [.z p.node,.u p.inc])]),.bx 24 [.z p.node,.u p.inc],.bx 46 [aj,aj,aj],.rw 60 11 ((o.aG p.node)),.rw 62 4 ((o.aH p.node)),.bx 46 [.sl 5 ((o.aG p.node).length),aj,.sl 6 ((o.aH p.node).length)]]) tk tq hK aB [(4,[(3,.mem [0,1,2] (.ag [.sl 3 ((o.aG p.node).length),aj,.sl 4 ((o.aH p.node).length)]) [.bx 70 [.z ((o.dn p.node).self.node),.u ((o.dn p.node).self.inc),.d (.ro 1 (ints (o.dn p.node).homes)),.n ((o.dn p.node).n),.sl 1 ((o.dn p.node).book.length),.mv 2],af (o.dn p.node),ai (o.dn p.node),.rw 60 11 ((o.aG p.node)),.rw 62 4 ((o.aH p.node))])]),(5,[(7,.b false)])] 4 [0,1,2,3,4,5,6,7] [0,3,4,5,6] r (by kernel_rfl) (U (oN o k v p.node (by first | omega | exact hz)) (U ((dX (v.dn p.node (by omega)).lk (by have:=iO v.ok (x:=p.node) (by assumption);omega)):b5 Tryz.prog 3 ((.i .i64 (p.node))::List.map (fun (e:Nat×MK×DV)=>e.2.1) (aY (o.dn p.node).ls))) (U ((iq (jH v p.node)):∀ zz ∈ (aY (o.dn p.node).ls:List (Nat×MK×DV)),zz.2.1≠.i .i64 (p.node)) trivial))) fun ac wd r=>?_
      have r:=r.cast (M':=[.bx 70 [.z ((o.ae p).self.node),.u ((o.ae p).self.inc),.d (.ro 1 (ints (o.ae p).homes)),.n ((o.ae p).n),.sl 1 ((o.ae p).book.length),.mv 2],af (o.ae p),ai (o.ae p),.bx 24 [.z p.node,.u p.inc],.bx 46 [aj,aj,aj],.rw 60 11 ((o.aG p.node)),.rw 62 4 ((o.aH p.node)),.bx 46 [.sl 5 ((o.aG p.node).length),aj,.sl 6 ((o.aH p.node).length)]]) rfl (by rw [qt];rfl)
      cases h5:((o.ae p).sv) with
      | false=>
       refine ch (todo':=aft Tryz.f7 10) (E':=[(4,.pt 4 0)]) (M':=[.bx 70 [.z ((o.ae p).self.node),.u ((o.ae p).self.inc),.d (.ro 1 (ints (o.ae p).homes)),.n ((o.ae p).n),.sl 1 ((o.ae p).book.length),.mv 2],af (o.ae p),ai (o.ae p),.bx 24 [.z p.node,.u p.inc],.bx 46 [.sl 5 (((o.aG p.node)).length),aj,.sl 8 (((o.ae p).bu o.rc ((o.aH p.node))).length)],.rw 60 11 ((o.aG p.node)),.dead,.bx 46 [.sl 5 ((o.aG p.node).length),aj,.sl 6 ((o.aH p.node).length)],.rw 62 4 (((o.ae p).bu o.rc ((o.aH p.node))))]) tk tq hK aB [(7,[(1,.mem [0,1,2] (aZ) [.bx 70 [.z ((o.ae p).self.node),.u ((o.ae p).self.inc),.d (.ro 1 (ints (o.ae p).homes)),.n ((o.ae p).n),.sl 1 ((o.ae p).book.length),.mv 2],af (o.ae p),ai (o.ae p)])]),(10,[(3,.mem [0,1,2,5,6] (.ag [.sl 3 (((o.aG p.node)).length),aj,.sl 5 (((o.ae p).bu o.rc ((o.aH p.node))).length)]) [.bx 70 [.z ((o.ae p).self.node),.u ((o.ae p).self.inc),.d (.ro 1 (ints (o.ae p).homes)),.n ((o.ae p).n),.sl 1 ((o.ae p).book.length),.mv 2],af (o.ae p),ai (o.ae p),.rw 60 11 ((o.aG p.node)),.dead,.rw 62 4 (((o.ae p).bu o.rc ((o.aH p.node))))])])] 9 [0,1,2,3,4,5,6,7,8] [4] r (by kernel_rfl) (U ((by have k:=fk (o.ae p);rw [h5] at k;exact k):aL Tryz.prog 23 [.pt 0 0] [.bx 70 [.z ((o.ae p).self.node),.u ((o.ae p).self.inc),.d (.ro 1 (ints (o.ae p).homes)),.n ((o.ae p).n),.sl 1 ((o.ae p).book.length),.mv 2],af (o.ae p),ai (o.ae p)] (aZ) [.bx 70 [.z ((o.ae p).self.node),.u ((o.ae p).self.inc),.d (.ro 1 (ints (o.ae p).homes)),.n ((o.ae p).n),.sl 1 ((o.ae p).book.length),.mv 2],af (o.ae p),ai (o.ae p)]) (U (kh (o.ae p) (k+1) bg o.rc ((o.aG p.node)) ((o.aH p.node)) (by have:=eu o p.node;first | omega | (simp;omega)) _ _ (by first | rfl | (simp;done)) (by first | rfl | (simp;done)):aL Tryz.prog 25 [.pt 0 0,.ag [.sl 3 ((o.aG p.node).length),aj,.sl 4 ((o.aH p.node).length)],.d (.ro 2 (procs o.rc))] [.bx 70 [.z ((o.ae p).self.node),.u ((o.ae p).self.inc),.d (.ro 1 (ints (o.ae p).homes)),.n ((o.ae p).n),.sl 1 ((o.ae p).book.length),.mv 2],af (o.ae p),ai (o.ae p),.rw 60 11 ((o.aG p.node)),.rw 62 4 ((o.aH p.node))] (.ag [.sl 3 (((o.aG p.node)).length),aj,.sl 5 (((o.ae p).bu o.rc ((o.aH p.node))).length)]) [.bx 70 [.z ((o.ae p).self.node),.u ((o.ae p).self.inc),.d (.ro 1 (ints (o.ae p).homes)),.n ((o.ae p).n),.sl 1 ((o.ae p).book.length),.mv 2],af (o.ae p),ai (o.ae p),.rw 60 11 ((o.aG p.node)),.dead,.rw 62 4 (((o.ae p).bu o.rc ((o.aH p.node))))]) trivial)) fun ac wd r=>?_
       have r:=r.eU 4 (M2:=[.bx 70 [.z ((o.ae p).self.node),.u ((o.ae p).self.inc),.d (.ro 1 (ints (o.ae p).homes)),.n ((o.ae p).n),.sl 1 ((o.ae p).book.length),.mv 2],af (o.ae p),ai (o.ae p),.bx 24 [.z p.node,.u p.inc],.bx 46 [.d (.jk),.d (.jk),.d (.jk)],.rw 60 11 ((o.aG p.node)),.dead,.bx 46 [.sl 5 ((o.aG p.node).length),aj,.sl 6 ((o.aH p.node).length)],.rw 62 4 (((o.ae p).bu o.rc ((o.aH p.node))))]) rfl rfl
       refine bB (y:=.ag [.d (.jk),.d (.jk),.d (.jk)]) (N':=[.bx 70 [.z ((o.ae p).self.node),.u ((o.ae p).self.inc),.d (.ro 1 (ints (o.ae p).homes)),.n ((o.ae p).n),.sl 1 ((o.ae p).book.length),.mv 2],af (o.ae p),ai (o.ae p)]) (rfl) ((by unfold Ov.eh;rw [show o.cF p=false from by unfold Ov.cF;simp only [h0,h3,h4,Bool.not_true,Bool.not_false,Bool.true_or,Bool.or_true,Bool.false_or,Bool.or_false,cond_true,cond_false];first | done | (simp;omega)];simp only [h5,cond_true,cond_false];first | done | rfl)) ?_
       exact bC tk tq hK rfl aB [] 2000 [0,1,2] r (by kernel_rfl) trivial
      | true=>
       have cZ:=((by have k:=fk (o.ae p);rw [h5] at k;exact k):aL Tryz.prog 23 [.pt 0 0] [.bx 70 [.z ((o.ae p).self.node),.u ((o.ae p).self.inc),.d (.ro 1 (ints (o.ae p).homes)),.n ((o.ae p).n),.sl 1 ((o.ae p).book.length),.mv 2],af (o.ae p),ai (o.ae p)] (aU) [.bx 70 [.z ((o.ae p).self.node),.u ((o.ae p).self.inc),.d (.ro 1 (ints (o.ae p).homes)),.n ((o.ae p).n),.sl 1 ((o.ae p).book.length),.mv 2],af (o.ae p),ai (o.ae p)])
       cases h6:((o.ae p).cA p.node) with
       | false=>
        refine ch (todo':=aft Tryz.f7 8) (E':=[(0,.pt 0 0),(3,.pt 3 0),(4,.pt 4 0),(5,.d (.ro 2 (procs o.rc))),(6,.pt 7 0),(63,aZ)]) (M':=[.bx 70 [.z ((o.ae p).self.node),.u ((o.ae p).self.inc),.d (.ro 1 (ints (o.ae p).homes)),.n ((o.ae p).n),.sl 1 ((o.ae p).book.length),.mv 2],af (o.ae p),ai (o.ae p),.bx 24 [.z p.node,.u p.inc],.bx 46 [aj,aj,aj],.rw 60 11 ((o.aG p.node)),.rw 62 4 ((o.aH p.node)),.bx 46 [.sl 5 ((o.aG p.node).length),aj,.sl 6 ((o.aH p.node).length)]]) tk tq hK aB [(7,[(1,.mem [0,1,2] (aU) [.bx 70 [.z ((o.ae p).self.node),.u ((o.ae p).self.inc),.d (.ro 1 (ints (o.ae p).homes)),.n ((o.ae p).n),.sl 1 ((o.ae p).book.length),.mv 2],af (o.ae p),ai (o.ae p)])]),(8,[(3,.mem [0,1,2] (aZ) [.bx 70 [.z ((o.ae p).self.node),.u ((o.ae p).self.inc),.d (.ro 1 (ints (o.ae p).homes)),.n ((o.ae p).n),.sl 1 ((o.ae p).book.length),.mv 2],af (o.ae p),ai (o.ae p)])])] 7 [0,1,2,3,4,5,6,7] [0,3,4,5,6,63] r (by kernel_rfl) (U cZ (U ((by have k:=e6 (o.ae p) p.node;rw [h6] at k;exact k):aL Tryz.prog 19 [.pt 0 0,.z p.node] [.bx 70 [.z ((o.ae p).self.node),.u ((o.ae p).self.inc),.d (.ro 1 (ints (o.ae p).homes)),.n ((o.ae p).n),.sl 1 ((o.ae p).book.length),.mv 2],af (o.ae p),ai (o.ae p)] (aZ) [.bx 70 [.z ((o.ae p).self.node),.u ((o.ae p).self.inc),.d (.ro 1 (ints (o.ae p).homes)),.n ((o.ae p).n),.sl 1 ((o.ae p).book.length),.mv 2],af (o.ae p),ai (o.ae p)]) trivial)) fun ac wd r=>?_
        have c8:(o.ae p).nw.Inv (k+2):=bg.nw (by assumption) (by omega)
        refine ch (todo':=aft Tryz.f7 10) (E':=[(4,.pt 4 0)]) (M':=[.bx 70 [.z ((o.ae p).self.node),.u ((o.ae p).self.inc),.d (.ro 1 (ints (o.ae p).homes)),.n ((o.ae p).n),.sl 1 ((o.ae p).book.length),.mv 2],af (o.ae p),ai (o.ae p),.bx 24 [.z p.node,.u p.inc],.bx 46 [.sl 5 (((o.aG p.node)).length),aj,.sl 9 (((o.ae p).bu o.rc ((o.aH p.node)++[[.z 2,.z p.node,.u p.inc,.v (.slice none 0 0)]])).length)],.rw 60 11 ((o.aG p.node)),.dead,.bx 46 [.sl 5 ((o.aG p.node).length),aj,.sl 6 ((o.aH p.node).length+(1))],.dead,.rw 62 4 (((o.ae p).bu o.rc ((o.aH p.node)++[[.z 2,.z p.node,.u p.inc,.v (.slice none 0 0)]])))]) tk tq hK aB [(10,[(3,.mem [0,1,2,5,6] (.ag [.sl 3 (((o.aG p.node)).length),aj,.sl 5 (((o.ae p).bu o.rc ((o.aH p.node)++[[.z 2,.z p.node,.u p.inc,.v (.slice none 0 0)]])).length)]) [.bx 70 [.z ((o.ae p).self.node),.u ((o.ae p).self.inc),.d (.ro 1 (ints (o.ae p).homes)),.n ((o.ae p).n),.sl 1 ((o.ae p).book.length),.mv 2],af (o.ae p),ai (o.ae p),.rw 60 11 ((o.aG p.node)),.dead,.rw 62 4 (((o.ae p).bu o.rc ((o.aH p.node)++[[.z 2,.z p.node,.u p.inc,.v (.slice none 0 0)]])))])])] 5 [0,1,2,3,4,5,6,7,8,9] [4] r (by kernel_rfl) (U ((by first | rfl | (simp;done) | (simp<;>omega)):((o.aH p.node).length)=((o.aH p.node):List (List DV)).length) (U ((by first | rfl | (simp;done) | (simp<;>omega)):(1)=([[.z 2,.z p.node,.u p.inc,.v (.slice none 0 0)]]:List (List DV)).length) (U ((by first | omega | (simp;omega) | (have:=eu o p.node;omega) | (have:=ij v p.node;have:=fp (o:=(o.ae p)) (z:=p.node) (by have:=eX bg.bk;omega) (o.ae p).bs;have:=fX bg;omega)):(2*(((o.aH p.node).length)+(1))+0)*48≤281474976710656) (U ((by first | omega | (simp;omega) | (have:=eu o p.node;omega) | (have:=ij v p.node;have:=fp (o:=(o.ae p)) (z:=p.node) (by have:=eX bg.bk;omega) (o.ae p).bs;have:=fX bg;omega)):((o.aH p.node).length)+(1)<4611686018427387904) (U ((by first | exact j8 _ _ | exact np _ _ _ | (simp [bA,AV.one,cd];done)):bA ([[.z 2,.z p.node,.u p.inc,.v (.slice none 0 0)]])) (U (kh (o.ae p) (k+1) bg o.rc ((o.aG p.node)) ((o.aH p.node)++[[.z 2,.z p.node,.u p.inc,.v (.slice none 0 0)]]) (by have:=eu o p.node;first | omega | (simp;omega)) _ _ (by first | rfl | (simp;done)) (by first | rfl | (simp;done)):aL Tryz.prog 25 [.pt 0 0,.ag [.sl 3 ((o.aG p.node).length),aj,.sl 4 ((o.aH p.node).length+(1))],.d (.ro 2 (procs o.rc))] [.bx 70 [.z ((o.ae p).self.node),.u ((o.ae p).self.inc),.d (.ro 1 (ints (o.ae p).homes)),.n ((o.ae p).n),.sl 1 ((o.ae p).book.length),.mv 2],af (o.ae p),ai (o.ae p),.rw 60 11 ((o.aG p.node)),.rw 62 4 ((o.aH p.node)++[[.z 2,.z p.node,.u p.inc,.v (.slice none 0 0)]])] (.ag [.sl 3 (((o.aG p.node)).length),aj,.sl 5 (((o.ae p).bu o.rc ((o.aH p.node)++[[.z 2,.z p.node,.u p.inc,.v (.slice none 0 0)]])).length)]) [.bx 70 [.z ((o.ae p).self.node),.u ((o.ae p).self.inc),.d (.ro 1 (ints (o.ae p).homes)),.n ((o.ae p).n),.sl 1 ((o.ae p).book.length),.mv 2],af (o.ae p),ai (o.ae p),.rw 60 11 ((o.aG p.node)),.dead,.rw 62 4 (((o.ae p).bu o.rc ((o.aH p.node)++[[.z 2,.z p.node,.u p.inc,.v (.slice none 0 0)]])))]) trivial)))))) fun ac wd r=>?_
        have r:=r.eU 4 (M2:=[.bx 70 [.z ((o.ae p).self.node),.u ((o.ae p).self.inc),.d (.ro 1 (ints (o.ae p).homes)),.n ((o.ae p).n),.sl 1 ((o.ae p).book.length),.mv 2],af (o.ae p),ai (o.ae p),.bx 24 [.z p.node,.u p.inc],.bx 46 [.d (.jk),.d (.jk),.d (.jk)],.rw 60 11 ((o.aG p.node)),.dead,.bx 46 [.sl 5 ((o.aG p.node).length),aj,.sl 6 ((o.aH p.node).length+(1))],.dead,.rw 62 4 (((o.ae p).bu o.rc ((o.aH p.node)++[[.z 2,.z p.node,.u p.inc,.v (.slice none 0 0)]])))]) rfl rfl
        refine bB (y:=.ag [.d (.jk),.d (.jk),.d (.jk)]) (N':=[.bx 70 [.z ((o.ae p).self.node),.u ((o.ae p).self.inc),.d (.ro 1 (ints (o.ae p).homes)),.n ((o.ae p).n),.sl 1 ((o.ae p).book.length),.mv 2],af (o.ae p),ai (o.ae p)]) (rfl) ((by unfold Ov.eh;rw [show o.cF p=false from by unfold Ov.cF;simp only [h0,h3,h4,Bool.not_true,Bool.not_false,Bool.true_or,Bool.or_true,Bool.false_or,Bool.or_false,cond_true,cond_false];first | done | (simp;omega)];simp only [h5,h6,cond_true,cond_false];first | done | rfl)) ?_
        exact bC tk tq hK rfl aB [] 2000 [0,1,2] r (by kernel_rfl) trivial
       | true=>
        refine ch (todo':=aft Tryz.f7 8) (E':=[(0,.pt 0 0),(3,.pt 3 0),(4,.pt 4 0),(5,.d (.ro 2 (procs o.rc))),(6,.pt 7 0),(63,aU)]) (M':=[.bx 70 [.z ((o.ae p).self.node),.u ((o.ae p).self.inc),.d (.ro 1 (ints (o.ae p).homes)),.n ((o.ae p).n),.sl 1 ((o.ae p).book.length),.mv 2],af (o.ae p),ai (o.ae p),.bx 24 [.z p.node,.u p.inc],.bx 46 [aj,aj,aj],.rw 60 11 ((o.aG p.node)),.rw 62 4 ((o.aH p.node)),.bx 46 [.sl 5 ((o.aG p.node).length),aj,.sl 6 ((o.aH p.node).length)]]) tk tq hK aB [(7,[(1,.mem [0,1,2] (aU) [.bx 70 [.z ((o.ae p).self.node),.u ((o.ae p).self.inc),.d (.ro 1 (ints (o.ae p).homes)),.n ((o.ae p).n),.sl 1 ((o.ae p).book.length),.mv 2],af (o.ae p),ai (o.ae p)])]),(8,[(3,.mem [0,1,2] (aU) [.bx 70 [.z ((o.ae p).self.node),.u ((o.ae p).self.inc),.d (.ro 1 (ints (o.ae p).homes)),.n ((o.ae p).n),.sl 1 ((o.ae p).book.length),.mv 2],af (o.ae p),ai (o.ae p)])])] 7 [0,1,2,3,4,5,6,7] [0,3,4,5,6,63] r (by kernel_rfl) (U cZ (U ((by have k:=e6 (o.ae p) p.node;rw [h6] at k;exact k):aL Tryz.prog 19 [.pt 0 0,.z p.node] [.bx 70 [.z ((o.ae p).self.node),.u ((o.ae p).self.inc),.d (.ro 1 (ints (o.ae p).homes)),.n ((o.ae p).n),.sl 1 ((o.ae p).book.length),.mv 2],af (o.ae p),ai (o.ae p)] (aU) [.bx 70 [.z ((o.ae p).self.node),.u ((o.ae p).self.inc),.d (.ro 1 (ints (o.ae p).homes)),.n ((o.ae p).n),.sl 1 ((o.ae p).book.length),.mv 2],af (o.ae p),ai (o.ae p)]) trivial)) fun ac wd r=>?_
        have c8:(o.ae p).nw.Inv (k+2):=bg.nw (by assumption) (by omega)
        refine ch (todo':=aft Tryz.f7 10) (E':=[(4,.pt 4 0)]) (M':=[.bx 70 [.z ((o.ae p).nw.self.node),.u ((o.ae p).nw.self.inc),.d (.ro 1 (ints (o.ae p).nw.homes)),.n ((o.ae p).nw.n),.sl 1 ((o.ae p).nw.book.length),.mv 2],.rw 31 4 (aI (o.ae p).nw.book),.mp 67 ((o.ae p).nw.ck) (aY (o.ae p).nw.ls),.bx 24 [.z p.node,.u p.inc],.bx 46 [.sl 5 (((o.aG p.node)++(br (o.ae p) p.node (o.ae p).bs)).length),aj,.sl 9 (((o.ae p).nw.bu o.rc ((o.aH p.node))).length)],.rw 60 11 ((o.aG p.node)++(br (o.ae p) p.node (o.ae p).bs)),.dead,.bx 46 [.sl 5 ((o.aG p.node).length+((br (o.ae p) p.node (o.ae p).bs).length)),aj,.sl 6 ((o.aH p.node).length)],.dead,.rw 62 4 (((o.ae p).nw.bu o.rc ((o.aH p.node))))]) tk tq hK aB [(9,[(5,.mem [0,1,2] (.sl 3 ((br (o.ae p) p.node (o.ae p).bs).length)) [.bx 70 [.z ((o.ae p).nw.self.node),.u ((o.ae p).nw.self.inc),.d (.ro 1 (ints (o.ae p).nw.homes)),.n ((o.ae p).nw.n),.sl 1 ((o.ae p).nw.book.length),.mv 2],.rw 31 4 (aI (o.ae p).nw.book),.mp 67 ((o.ae p).nw.ck) (aY (o.ae p).nw.ls),.rw 60 11 (br (o.ae p) p.node (o.ae p).bs)])]),(10,[(3,.mem [0,1,2,5,6] (.ag [.sl 3 (((o.aG p.node)++(br (o.ae p) p.node (o.ae p).bs)).length),aj,.sl 5 (((o.ae p).nw.bu o.rc ((o.aH p.node))).length)]) [.bx 70 [.z ((o.ae p).nw.self.node),.u ((o.ae p).nw.self.inc),.d (.ro 1 (ints (o.ae p).nw.homes)),.n ((o.ae p).nw.n),.sl 1 ((o.ae p).nw.book.length),.mv 2],.rw 31 4 (aI (o.ae p).nw.book),.mp 67 ((o.ae p).nw.ck) (aY (o.ae p).nw.ls),.rw 60 11 ((o.aG p.node)++(br (o.ae p) p.node (o.ae p).bs)),.dead,.rw 62 4 (((o.ae p).nw.bu o.rc ((o.aH p.node))))])])] 5 [0,1,2,3,4,5,6,7,8,9] [4] r (by kernel_rfl) (U (sP (o.ae p) (k+1) bg (by assumption) p.node) (U ((by first | rfl | (simp;done) | (simp<;>omega)):((o.aG p.node).length)=((o.aG p.node):List (List DV)).length) (U ((by first | rfl | (simp;done) | (simp<;>omega)):((br (o.ae p) p.node (o.ae p).bs).length)=(br (o.ae p) p.node (o.ae p).bs:List (List DV)).length) (U ((by first | omega | (simp;omega) | (have:=eu o p.node;omega) | (have:=ij v p.node;have:=fp (o:=(o.ae p)) (z:=p.node) (by have:=eX bg.bk;omega) (o.ae p).bs;have:=fX bg;omega)):(2*(((o.aG p.node).length)+((br (o.ae p) p.node (o.ae p).bs).length))+0)*136≤281474976710656) (U ((by first | omega | (simp;omega) | (have:=eu o p.node;omega) | (have:=ij v p.node;have:=fp (o:=(o.ae p)) (z:=p.node) (by have:=eX bg.bk;omega) (o.ae p).bs;have:=fX bg;omega)):((o.aG p.node).length)+((br (o.ae p) p.node (o.ae p).bs).length)<4611686018427387904) (U ((by first | exact j8 _ _ | exact np _ _ _ | (simp [bA,AV.one,cd];done)):bA (br (o.ae p) p.node (o.ae p).bs)) (U (kh (o.ae p).nw (k+2) c8 o.rc ((o.aG p.node)++(br (o.ae p) p.node (o.ae p).bs)) ((o.aH p.node)) (by have:=eu o p.node;first | omega | (simp;omega)) _ _ (by first | rfl | (simp;done)) (by first | rfl | (simp;done)):aL Tryz.prog 25 [.pt 0 0,.ag [.sl 3 ((o.aG p.node).length+((br (o.ae p) p.node (o.ae p).bs).length)),aj,.sl 4 ((o.aH p.node).length)],.d (.ro 2 (procs o.rc))] [.bx 70 [.z ((o.ae p).nw.self.node),.u ((o.ae p).nw.self.inc),.d (.ro 1 (ints (o.ae p).nw.homes)),.n ((o.ae p).nw.n),.sl 1 ((o.ae p).nw.book.length),.mv 2],.rw 31 4 (aI (o.ae p).nw.book),.mp 67 ((o.ae p).nw.ck) (aY (o.ae p).nw.ls),.rw 60 11 ((o.aG p.node)++(br (o.ae p) p.node (o.ae p).bs)),.rw 62 4 ((o.aH p.node))] (.ag [.sl 3 (((o.aG p.node)++(br (o.ae p) p.node (o.ae p).bs)).length),aj,.sl 5 (((o.ae p).nw.bu o.rc ((o.aH p.node))).length)]) [.bx 70 [.z ((o.ae p).nw.self.node),.u ((o.ae p).nw.self.inc),.d (.ro 1 (ints (o.ae p).nw.homes)),.n ((o.ae p).nw.n),.sl 1 ((o.ae p).nw.book.length),.mv 2],.rw 31 4 (aI (o.ae p).nw.book),.mp 67 ((o.ae p).nw.ck) (aY (o.ae p).nw.ls),.rw 60 11 ((o.aG p.node)++(br (o.ae p) p.node (o.ae p).bs)),.dead,.rw 62 4 (((o.ae p).nw.bu o.rc ((o.aH p.node))))]) trivial))))))) fun ac wd r=>?_
        have r:=r.eU 4 (M2:=[.bx 70 [.z ((o.ae p).nw.self.node),.u ((o.ae p).nw.self.inc),.d (.ro 1 (ints (o.ae p).nw.homes)),.n ((o.ae p).nw.n),.sl 1 ((o.ae p).nw.book.length),.mv 2],.rw 31 4 (aI (o.ae p).nw.book),.mp 67 ((o.ae p).nw.ck) (aY (o.ae p).nw.ls),.bx 24 [.z p.node,.u p.inc],.bx 46 [.d (.jk),.d (.jk),.d (.jk)],.rw 60 11 ((o.aG p.node)++(br (o.ae p) p.node (o.ae p).bs)),.dead,.bx 46 [.sl 5 ((o.aG p.node).length+((br (o.ae p) p.node (o.ae p).bs).length)),aj,.sl 6 ((o.aH p.node).length)],.dead,.rw 62 4 (((o.ae p).nw.bu o.rc ((o.aH p.node))))]) rfl rfl
        refine bB (y:=.ag [.d (.jk),.d (.jk),.d (.jk)]) (N':=[.bx 70 [.z ((o.ae p).nw.self.node),.u ((o.ae p).nw.self.inc),.d (.ro 1 (ints (o.ae p).nw.homes)),.n ((o.ae p).nw.n),.sl 1 ((o.ae p).nw.book.length),.mv 2],.rw 31 4 (aI (o.ae p).nw.book),.mp 67 ((o.ae p).nw.ck) (aY (o.ae p).nw.ls)]) (rfl) ((by unfold Ov.eh;rw [show o.cF p=false from by unfold Ov.cF;simp only [h0,h3,h4,Bool.not_true,Bool.not_false,Bool.true_or,Bool.or_true,Bool.false_or,Bool.or_false,cond_true,cond_false];first | done | (simp;omega)];simp only [h5,h6,cond_true,cond_false];first | done | rfl)) ?_
        exact bC tk tq hK rfl aB [] 2000 [0,1,2] r (by kernel_rfl) trivial
     | true=>
      have eA:=of_decide_eq_true h4
      refine ch (todo':=aft Tryz.f7 2) (E':=[(0,.pt 0 0),(3,.pt 3 0),(4,.pt 4 0)]) (M':=[ao o 1 2,af o,ai o,.bx 24 [.z p.node,.u p.inc],.bx 46 [aj,aj,aj]]) tk tq hK aB [(1,[(1,.mem [0,1,2] (aU) [ao o 1 2,af o,ai o]),(7,.mem [0,1,2] (aU) [ao o 1 2,af o,ai o]),(13,.b false),(18,.b false),(27,.b false),(29,.b true)])] 8 [0,1,2,3,4] [0,3,4] r (by kernel_rfl) (U (dr o b6) (U bd (U h1 (U h2 (U b3 (U cy (U db (U ((ez (eN ⟨0,0⟩ p) h4):dK Tryz.prog 24 [(.int .i64 (0)),(.int .u64 (0))] [(.int .i64 (p.node)),(.int .u64 (((p.inc:Nat):Int)))] true) trivial)))))))) fun ac wd r=>?_
      have r:=r.eU 4 (M2:=[ao o 1 2,af o,ai o,.bx 24 [.z p.node,.u p.inc],.bx 46 [.d (.jk),.d (.jk),.d (.jk)]]) rfl rfl
      refine bB (y:=.ag [.d (.jk),.d (.jk),.d (.jk)]) (N':=[ao o 1 2,af o,ai o]) (rfl) ((by unfold Ov.eh;rw [show o.cF p=true from by unfold Ov.cF;simp only [h0,h3,h4,Bool.not_true,Bool.not_false,Bool.true_or,Bool.or_true,Bool.false_or,Bool.or_false,cond_true,cond_false];first | done | (simp;omega)];rfl)) ?_
      exact bC tk tq hK rfl aB [] 2000 [0,1,2] r (by kernel_rfl) trivial
    | true=>
     obtain ⟨bl,fj⟩:=mn (by assumption)
     have dp:=((dX v.lk (by have:=iO v.ok (x:=p.node) (by assumption);omega)):b5 Tryz.prog 3 ((.i .i64 (p.node))::List.map (fun (e:Nat×MK×DV)=>e.2.1) (aY o.ls)))
     have gF:=((jT v.lk):(List.map (fun (e:Nat×MK×DV)=>e.2.1) (aY o.ls)).Nodup)
     have gG:=(⟨bl,jf fj⟩:∃ b0,(aY o.ls:List (Nat×MK×DV))[o.li p.node]?=some (b0,.i .i64 (p.node),.ag [.z ((o.lf p.node).node),.u ((o.lf p.node).inc)]))
     cases h7:(decide (o.lf p.node=p)) with
     | false=>
      have gE:=of_decide_eq_false h7
      refine ch (todo':=aft Tryz.f7 3) (E':=[(0,.pt 0 0),(3,.pt 3 0),(4,.pt 4 0),(5,.d (.ro 2 (procs o.rc)))]) (M':=[ao o 1 2,af o,ai o,.bx 24 [.z p.node,.u p.inc],.bx 46 [aj,aj,aj]]) tk tq hK aB [(1,[(1,.mem [0,1,2] (aU) [ao o 1 2,af o,ai o]),(7,.mem [0,1,2] (aU) [ao o 1 2,af o,ai o]),(13,.b false),(18,.b false),(27,.mk (o.li p.node) (.i .i64 (p.node)) (.ag [.z ((o.lf p.node).node),.u ((o.lf p.node).inc)])),(29,.b false)]),(3,[(1,.mem [0,1,2] (.d (.ro 2 (procs o.rc))) [ao o 1 2,af o,ai o])])] 9 [0,1,2,3,4] [0,3,4,5] r (by kernel_rfl) (U (dr o b6) (U bd (U h1 (U h2 (U dp (U (rfl:(.i .i64 (p.node):MK)=.i .i64 (p.node)) (U gF (U gG (U ((ez (eN (o.lf p.node) p) h7):dK Tryz.prog 24 [(.int .i64 ((o.lf p.node).node)),(.int .u64 ((((o.lf p.node).inc:Nat):Int)))] [(.int .i64 (p.node)),(.int .u64 (((p.inc:Nat):Int)))] false) (U (gS o k v) trivial)))))))))) fun ac wd r=>?_
      have bg:(o.ae p).Inv (k+1):=(v.dn p.node (by omega)).add (by rw [oO];assumption) (by omega) (by omega) (jH v p.node)
      refine ch (todo':=aft Tryz.f7 5) (E':=[(0,.pt 0 0),(3,.pt 3 0),(4,.pt 4 0),(5,.d (.ro 2 (procs o.rc))),(6,.pt 7 0)]) (M':=[.bx 70 [.z ((o.dn p.node).self.node),.u ((o.dn p.node).self.inc),.d (.ro 1 (ints (o.dn p.node).homes)),.n ((o.dn p.node).n),.sl 1 ((o.dn p.node).book.length),.mv 2],af (o.dn p.node),.mp 67 ((o.dn p.node).ck+1) (aY (o.dn p.node).ls++[((o.dn p.node).ck,.i .i64 (p.node),.ag [.z p.node,.u p.inc])]),.bx 24 [.z p.node,.u p.inc],.bx 46 [aj,aj,aj],.rw 60 11 ((o.aG p.node)),.rw 62 4 ((o.aH p.node)),.bx 46 [.sl 5 ((o.aG p.node).length),aj,.sl 6 ((o.aH p.node).length)]]) tk tq hK aB [(4,[(3,.mem [0,1,2] (.ag [.sl 3 ((o.aG p.node).length),aj,.sl 4 ((o.aH p.node).length)]) [.bx 70 [.z ((o.dn p.node).self.node),.u ((o.dn p.node).self.inc),.d (.ro 1 (ints (o.dn p.node).homes)),.n ((o.dn p.node).n),.sl 1 ((o.dn p.node).book.length),.mv 2],af (o.dn p.node),ai (o.dn p.node),.rw 60 11 ((o.aG p.node)),.rw 62 4 ((o.aH p.node))])]),(5,[(7,.b false)])] 4 [0,1,2,3,4,5,6,7] [0,3,4,5,6] r (by kernel_rfl) (U (oN o k v p.node (by first | omega | exact hz)) (U ((dX (v.dn p.node (by omega)).lk (by have:=iO v.ok (x:=p.node) (by assumption);omega)):b5 Tryz.prog 3 ((.i .i64 (p.node))::List.map (fun (e:Nat×MK×DV)=>e.2.1) (aY (o.dn p.node).ls))) (U ((iq (jH v p.node)):∀ zz ∈ (aY (o.dn p.node).ls:List (Nat×MK×DV)),zz.2.1≠.i .i64 (p.node)) trivial))) fun ac wd r=>?_
      have r:=r.cast (M':=[.bx 70 [.z ((o.ae p).self.node),.u ((o.ae p).self.inc),.d (.ro 1 (ints (o.ae p).homes)),.n ((o.ae p).n),.sl 1 ((o.ae p).book.length),.mv 2],af (o.ae p),ai (o.ae p),.bx 24 [.z p.node,.u p.inc],.bx 46 [aj,aj,aj],.rw 60 11 ((o.aG p.node)),.rw 62 4 ((o.aH p.node)),.bx 46 [.sl 5 ((o.aG p.node).length),aj,.sl 6 ((o.aH p.node).length)]]) rfl (by rw [qt];rfl)
      cases h8:((o.ae p).sv) with
      | false=>
       refine ch (todo':=aft Tryz.f7 10) (E':=[(4,.pt 4 0)]) (M':=[.bx 70 [.z ((o.ae p).self.node),.u ((o.ae p).self.inc),.d (.ro 1 (ints (o.ae p).homes)),.n ((o.ae p).n),.sl 1 ((o.ae p).book.length),.mv 2],af (o.ae p),ai (o.ae p),.bx 24 [.z p.node,.u p.inc],.bx 46 [.sl 5 (((o.aG p.node)).length),aj,.sl 8 (((o.ae p).bu o.rc ((o.aH p.node))).length)],.rw 60 11 ((o.aG p.node)),.dead,.bx 46 [.sl 5 ((o.aG p.node).length),aj,.sl 6 ((o.aH p.node).length)],.rw 62 4 (((o.ae p).bu o.rc ((o.aH p.node))))]) tk tq hK aB [(7,[(1,.mem [0,1,2] (aZ) [.bx 70 [.z ((o.ae p).self.node),.u ((o.ae p).self.inc),.d (.ro 1 (ints (o.ae p).homes)),.n ((o.ae p).n),.sl 1 ((o.ae p).book.length),.mv 2],af (o.ae p),ai (o.ae p)])]),(10,[(3,.mem [0,1,2,5,6] (.ag [.sl 3 (((o.aG p.node)).length),aj,.sl 5 (((o.ae p).bu o.rc ((o.aH p.node))).length)]) [.bx 70 [.z ((o.ae p).self.node),.u ((o.ae p).self.inc),.d (.ro 1 (ints (o.ae p).homes)),.n ((o.ae p).n),.sl 1 ((o.ae p).book.length),.mv 2],af (o.ae p),ai (o.ae p),.rw 60 11 ((o.aG p.node)),.dead,.rw 62 4 (((o.ae p).bu o.rc ((o.aH p.node))))])])] 9 [0,1,2,3,4,5,6,7,8] [4] r (by kernel_rfl) (U ((by have k:=fk (o.ae p);rw [h8] at k;exact k):aL Tryz.prog 23 [.pt 0 0] [.bx 70 [.z ((o.ae p).self.node),.u ((o.ae p).self.inc),.d (.ro 1 (ints (o.ae p).homes)),.n ((o.ae p).n),.sl 1 ((o.ae p).book.length),.mv 2],af (o.ae p),ai (o.ae p)] (aZ) [.bx 70 [.z ((o.ae p).self.node),.u ((o.ae p).self.inc),.d (.ro 1 (ints (o.ae p).homes)),.n ((o.ae p).n),.sl 1 ((o.ae p).book.length),.mv 2],af (o.ae p),ai (o.ae p)]) (U (kh (o.ae p) (k+1) bg o.rc ((o.aG p.node)) ((o.aH p.node)) (by have:=eu o p.node;first | omega | (simp;omega)) _ _ (by first | rfl | (simp;done)) (by first | rfl | (simp;done)):aL Tryz.prog 25 [.pt 0 0,.ag [.sl 3 ((o.aG p.node).length),aj,.sl 4 ((o.aH p.node).length)],.d (.ro 2 (procs o.rc))] [.bx 70 [.z ((o.ae p).self.node),.u ((o.ae p).self.inc),.d (.ro 1 (ints (o.ae p).homes)),.n ((o.ae p).n),.sl 1 ((o.ae p).book.length),.mv 2],af (o.ae p),ai (o.ae p),.rw 60 11 ((o.aG p.node)),.rw 62 4 ((o.aH p.node))] (.ag [.sl 3 (((o.aG p.node)).length),aj,.sl 5 (((o.ae p).bu o.rc ((o.aH p.node))).length)]) [.bx 70 [.z ((o.ae p).self.node),.u ((o.ae p).self.inc),.d (.ro 1 (ints (o.ae p).homes)),.n ((o.ae p).n),.sl 1 ((o.ae p).book.length),.mv 2],af (o.ae p),ai (o.ae p),.rw 60 11 ((o.aG p.node)),.dead,.rw 62 4 (((o.ae p).bu o.rc ((o.aH p.node))))]) trivial)) fun ac wd r=>?_
       have r:=r.eU 4 (M2:=[.bx 70 [.z ((o.ae p).self.node),.u ((o.ae p).self.inc),.d (.ro 1 (ints (o.ae p).homes)),.n ((o.ae p).n),.sl 1 ((o.ae p).book.length),.mv 2],af (o.ae p),ai (o.ae p),.bx 24 [.z p.node,.u p.inc],.bx 46 [.d (.jk),.d (.jk),.d (.jk)],.rw 60 11 ((o.aG p.node)),.dead,.bx 46 [.sl 5 ((o.aG p.node).length),aj,.sl 6 ((o.aH p.node).length)],.rw 62 4 (((o.ae p).bu o.rc ((o.aH p.node))))]) rfl rfl
       refine bB (y:=.ag [.d (.jk),.d (.jk),.d (.jk)]) (N':=[.bx 70 [.z ((o.ae p).self.node),.u ((o.ae p).self.inc),.d (.ro 1 (ints (o.ae p).homes)),.n ((o.ae p).n),.sl 1 ((o.ae p).book.length),.mv 2],af (o.ae p),ai (o.ae p)]) (rfl) ((by unfold Ov.eh;rw [show o.cF p=false from by unfold Ov.cF;simp only [h0,h3,h7,Bool.not_true,Bool.not_false,Bool.true_or,Bool.or_true,Bool.false_or,Bool.or_false,cond_true,cond_false];first | done | (simp;omega)];simp only [h8,cond_true,cond_false];first | done | rfl)) ?_
       exact bC tk tq hK rfl aB [] 2000 [0,1,2] r (by kernel_rfl) trivial
      | true=>
       have gn:=((by have k:=fk (o.ae p);rw [h8] at k;exact k):aL Tryz.prog 23 [.pt 0 0] [.bx 70 [.z ((o.ae p).self.node),.u ((o.ae p).self.inc),.d (.ro 1 (ints (o.ae p).homes)),.n ((o.ae p).n),.sl 1 ((o.ae p).book.length),.mv 2],af (o.ae p),ai (o.ae p)] (aU) [.bx 70 [.z ((o.ae p).self.node),.u ((o.ae p).self.inc),.d (.ro 1 (ints (o.ae p).homes)),.n ((o.ae p).n),.sl 1 ((o.ae p).book.length),.mv 2],af (o.ae p),ai (o.ae p)])
       cases h9:((o.ae p).cA p.node) with
       | false=>
        refine ch (todo':=aft Tryz.f7 8) (E':=[(0,.pt 0 0),(3,.pt 3 0),(4,.pt 4 0),(5,.d (.ro 2 (procs o.rc))),(6,.pt 7 0),(63,aZ)]) (M':=[.bx 70 [.z ((o.ae p).self.node),.u ((o.ae p).self.inc),.d (.ro 1 (ints (o.ae p).homes)),.n ((o.ae p).n),.sl 1 ((o.ae p).book.length),.mv 2],af (o.ae p),ai (o.ae p),.bx 24 [.z p.node,.u p.inc],.bx 46 [aj,aj,aj],.rw 60 11 ((o.aG p.node)),.rw 62 4 ((o.aH p.node)),.bx 46 [.sl 5 ((o.aG p.node).length),aj,.sl 6 ((o.aH p.node).length)]]) tk tq hK aB [(7,[(1,.mem [0,1,2] (aU) [.bx 70 [.z ((o.ae p).self.node),.u ((o.ae p).self.inc),.d (.ro 1 (ints (o.ae p).homes)),.n ((o.ae p).n),.sl 1 ((o.ae p).book.length),.mv 2],af (o.ae p),ai (o.ae p)])]),(8,[(3,.mem [0,1,2] (aZ) [.bx 70 [.z ((o.ae p).self.node),.u ((o.ae p).self.inc),.d (.ro 1 (ints (o.ae p).homes)),.n ((o.ae p).n),.sl 1 ((o.ae p).book.length),.mv 2],af (o.ae p),ai (o.ae p)])])] 7 [0,1,2,3,4,5,6,7] [0,3,4,5,6,63] r (by kernel_rfl) (U gn (U ((by have k:=e6 (o.ae p) p.node;rw [h9] at k;exact k):aL Tryz.prog 19 [.pt 0 0,.z p.node] [.bx 70 [.z ((o.ae p).self.node),.u ((o.ae p).self.inc),.d (.ro 1 (ints (o.ae p).homes)),.n ((o.ae p).n),.sl 1 ((o.ae p).book.length),.mv 2],af (o.ae p),ai (o.ae p)] (aZ) [.bx 70 [.z ((o.ae p).self.node),.u ((o.ae p).self.inc),.d (.ro 1 (ints (o.ae p).homes)),.n ((o.ae p).n),.sl 1 ((o.ae p).book.length),.mv 2],af (o.ae p),ai (o.ae p)]) trivial)) fun ac wd r=>?_
        have c8:(o.ae p).nw.Inv (k+2):=bg.nw (by assumption) (by omega)
        refine ch (todo':=aft Tryz.f7 10) (E':=[(4,.pt 4 0)]) (M':=[.bx 70 [.z ((o.ae p).self.node),.u ((o.ae p).self.inc),.d (.ro 1 (ints (o.ae p).homes)),.n ((o.ae p).n),.sl 1 ((o.ae p).book.length),.mv 2],af (o.ae p),ai (o.ae p),.bx 24 [.z p.node,.u p.inc],.bx 46 [.sl 5 (((o.aG p.node)).length),aj,.sl 9 (((o.ae p).bu o.rc ((o.aH p.node)++[[.z 2,.z p.node,.u p.inc,.v (.slice none 0 0)]])).length)],.rw 60 11 ((o.aG p.node)),.dead,.bx 46 [.sl 5 ((o.aG p.node).length),aj,.sl 6 ((o.aH p.node).length+(1))],.dead,.rw 62 4 (((o.ae p).bu o.rc ((o.aH p.node)++[[.z 2,.z p.node,.u p.inc,.v (.slice none 0 0)]])))]) tk tq hK aB [(10,[(3,.mem [0,1,2,5,6] (.ag [.sl 3 (((o.aG p.node)).length),aj,.sl 5 (((o.ae p).bu o.rc ((o.aH p.node)++[[.z 2,.z p.node,.u p.inc,.v (.slice none 0 0)]])).length)]) [.bx 70 [.z ((o.ae p).self.node),.u ((o.ae p).self.inc),.d (.ro 1 (ints (o.ae p).homes)),.n ((o.ae p).n),.sl 1 ((o.ae p).book.length),.mv 2],af (o.ae p),ai (o.ae p),.rw 60 11 ((o.aG p.node)),.dead,.rw 62 4 (((o.ae p).bu o.rc ((o.aH p.node)++[[.z 2,.z p.node,.u p.inc,.v (.slice none 0 0)]])))])])] 5 [0,1,2,3,4,5,6,7,8,9] [4] r (by kernel_rfl) (U ((by first | rfl | (simp;done) | (simp<;>omega)):((o.aH p.node).length)=((o.aH p.node):List (List DV)).length) (U ((by first | rfl | (simp;done) | (simp<;>omega)):(1)=([[.z 2,.z p.node,.u p.inc,.v (.slice none 0 0)]]:List (List DV)).length) (U ((by first | omega | (simp;omega) | (have:=eu o p.node;omega) | (have:=ij v p.node;have:=fp (o:=(o.ae p)) (z:=p.node) (by have:=eX bg.bk;omega) (o.ae p).bs;have:=fX bg;omega)):(2*(((o.aH p.node).length)+(1))+0)*48≤281474976710656) (U ((by first | omega | (simp;omega) | (have:=eu o p.node;omega) | (have:=ij v p.node;have:=fp (o:=(o.ae p)) (z:=p.node) (by have:=eX bg.bk;omega) (o.ae p).bs;have:=fX bg;omega)):((o.aH p.node).length)+(1)<4611686018427387904) (U ((by first | exact j8 _ _ | exact np _ _ _ | (simp [bA,AV.one,cd];done)):bA ([[.z 2,.z p.node,.u p.inc,.v (.slice none 0 0)]])) (U (kh (o.ae p) (k+1) bg o.rc ((o.aG p.node)) ((o.aH p.node)++[[.z 2,.z p.node,.u p.inc,.v (.slice none 0 0)]]) (by have:=eu o p.node;first | omega | (simp;omega)) _ _ (by first | rfl | (simp;done)) (by first | rfl | (simp;done)):aL Tryz.prog 25 [.pt 0 0,.ag [.sl 3 ((o.aG p.node).length),aj,.sl 4 ((o.aH p.node).length+(1))],.d (.ro 2 (procs o.rc))] [.bx 70 [.z ((o.ae p).self.node),.u ((o.ae p).self.inc),.d (.ro 1 (ints (o.ae p).homes)),.n ((o.ae p).n),.sl 1 ((o.ae p).book.length),.mv 2],af (o.ae p),ai (o.ae p),.rw 60 11 ((o.aG p.node)),.rw 62 4 ((o.aH p.node)++[[.z 2,.z p.node,.u p.inc,.v (.slice none 0 0)]])] (.ag [.sl 3 (((o.aG p.node)).length),aj,.sl 5 (((o.ae p).bu o.rc ((o.aH p.node)++[[.z 2,.z p.node,.u p.inc,.v (.slice none 0 0)]])).length)]) [.bx 70 [.z ((o.ae p).self.node),.u ((o.ae p).self.inc),.d (.ro 1 (ints (o.ae p).homes)),.n ((o.ae p).n),.sl 1 ((o.ae p).book.length),.mv 2],af (o.ae p),ai (o.ae p),.rw 60 11 ((o.aG p.node)),.dead,.rw 62 4 (((o.ae p).bu o.rc ((o.aH p.node)++[[.z 2,.z p.node,.u p.inc,.v (.slice none 0 0)]])))]) trivial)))))) fun ac wd r=>?_
        have r:=r.eU 4 (M2:=[.bx 70 [.z ((o.ae p).self.node),.u ((o.ae p).self.inc),.d (.ro 1 (ints (o.ae p).homes)),.n ((o.ae p).n),.sl 1 ((o.ae p).book.length),.mv 2],af (o.ae p),ai (o.ae p),.bx 24 [.z p.node,.u p.inc],.bx 46 [.d (.jk),.d (.jk),.d (.jk)],.rw 60 11 ((o.aG p.node)),.dead,.bx 46 [.sl 5 ((o.aG p.node).length),aj,.sl 6 ((o.aH p.node).length+(1))],.dead,.rw 62 4 (((o.ae p).bu o.rc ((o.aH p.node)++[[.z 2,.z p.node,.u p.inc,.v (.slice none 0 0)]])))]) rfl rfl
        refine bB (y:=.ag [.d (.jk),.d (.jk),.d (.jk)]) (N':=[.bx 70 [.z ((o.ae p).self.node),.u ((o.ae p).self.inc),.d (.ro 1 (ints (o.ae p).homes)),.n ((o.ae p).n),.sl 1 ((o.ae p).book.length),.mv 2],af (o.ae p),ai (o.ae p)]) (rfl) ((by unfold Ov.eh;rw [show o.cF p=false from by unfold Ov.cF;simp only [h0,h3,h7,Bool.not_true,Bool.not_false,Bool.true_or,Bool.or_true,Bool.false_or,Bool.or_false,cond_true,cond_false];first | done | (simp;omega)];simp only [h8,h9,cond_true,cond_false];first | done | rfl)) ?_
        exact bC tk tq hK rfl aB [] 2000 [0,1,2] r (by kernel_rfl) trivial
       | true=>
        refine ch (todo':=aft Tryz.f7 8) (E':=[(0,.pt 0 0),(3,.pt 3 0),(4,.pt 4 0),(5,.d (.ro 2 (procs o.rc))),(6,.pt 7 0),(63,aU)]) (M':=[.bx 70 [.z ((o.ae p).self.node),.u ((o.ae p).self.inc),.d (.ro 1 (ints (o.ae p).homes)),.n ((o.ae p).n),.sl 1 ((o.ae p).book.length),.mv 2],af (o.ae p),ai (o.ae p),.bx 24 [.z p.node,.u p.inc],.bx 46 [aj,aj,aj],.rw 60 11 ((o.aG p.node)),.rw 62 4 ((o.aH p.node)),.bx 46 [.sl 5 ((o.aG p.node).length),aj,.sl 6 ((o.aH p.node).length)]]) tk tq hK aB [(7,[(1,.mem [0,1,2] (aU) [.bx 70 [.z ((o.ae p).self.node),.u ((o.ae p).self.inc),.d (.ro 1 (ints (o.ae p).homes)),.n ((o.ae p).n),.sl 1 ((o.ae p).book.length),.mv 2],af (o.ae p),ai (o.ae p)])]),(8,[(3,.mem [0,1,2] (aU) [.bx 70 [.z ((o.ae p).self.node),.u ((o.ae p).self.inc),.d (.ro 1 (ints (o.ae p).homes)),.n ((o.ae p).n),.sl 1 ((o.ae p).book.length),.mv 2],af (o.ae p),ai (o.ae p)])])] 7 [0,1,2,3,4,5,6,7] [0,3,4,5,6,63] r (by kernel_rfl) (U gn (U ((by have k:=e6 (o.ae p) p.node;rw [h9] at k;exact k):aL Tryz.prog 19 [.pt 0 0,.z p.node] [.bx 70 [.z ((o.ae p).self.node),.u ((o.ae p).self.inc),.d (.ro 1 (ints (o.ae p).homes)),.n ((o.ae p).n),.sl 1 ((o.ae p).book.length),.mv 2],af (o.ae p),ai (o.ae p)] (aU) [.bx 70 [.z ((o.ae p).self.node),.u ((o.ae p).self.inc),.d (.ro 1 (ints (o.ae p).homes)),.n ((o.ae p).n),.sl 1 ((o.ae p).book.length),.mv 2],af (o.ae p),ai (o.ae p)]) trivial)) fun ac wd r=>?_
        have c8:(o.ae p).nw.Inv (k+2):=bg.nw (by assumption) (by omega)
        refine ch (todo':=aft Tryz.f7 10) (E':=[(4,.pt 4 0)]) (M':=[.bx 70 [.z ((o.ae p).nw.self.node),.u ((o.ae p).nw.self.inc),.d (.ro 1 (ints (o.ae p).nw.homes)),.n ((o.ae p).nw.n),.sl 1 ((o.ae p).nw.book.length),.mv 2],.rw 31 4 (aI (o.ae p).nw.book),.mp 67 ((o.ae p).nw.ck) (aY (o.ae p).nw.ls),.bx 24 [.z p.node,.u p.inc],.bx 46 [.sl 5 (((o.aG p.node)++(br (o.ae p) p.node (o.ae p).bs)).length),aj,.sl 9 (((o.ae p).nw.bu o.rc ((o.aH p.node))).length)],.rw 60 11 ((o.aG p.node)++(br (o.ae p) p.node (o.ae p).bs)),.dead,.bx 46 [.sl 5 ((o.aG p.node).length+((br (o.ae p) p.node (o.ae p).bs).length)),aj,.sl 6 ((o.aH p.node).length)],.dead,.rw 62 4 (((o.ae p).nw.bu o.rc ((o.aH p.node))))]) tk tq hK aB [(9,[(5,.mem [0,1,2] (.sl 3 ((br (o.ae p) p.node (o.ae p).bs).length)) [.bx 70 [.z ((o.ae p).nw.self.node),.u ((o.ae p).nw.self.inc),.d (.ro 1 (ints (o.ae p).nw.homes)),.n ((o.ae p).nw.n),.sl 1 ((o.ae p).nw.book.length),.mv 2],.rw 31 4 (aI (o.ae p).nw.book),.mp 67 ((o.ae p).nw.ck) (aY (o.ae p).nw.ls),.rw 60 11 (br (o.ae p) p.node (o.ae p).bs)])]),(10,[(3,.mem [0,1,2,5,6] (.ag [.sl 3 (((o.aG p.node)++(br (o.ae p) p.node (o.ae p).bs)).length),aj,.sl 5 (((o.ae p).nw.bu o.rc ((o.aH p.node))).length)]) [.bx 70 [.z ((o.ae p).nw.self.node),.u ((o.ae p).nw.self.inc),.d (.ro 1 (ints (o.ae p).nw.homes)),.n ((o.ae p).nw.n),.sl 1 ((o.ae p).nw.book.length),.mv 2],.rw 31 4 (aI (o.ae p).nw.book),.mp 67 ((o.ae p).nw.ck) (aY (o.ae p).nw.ls),.rw 60 11 ((o.aG p.node)++(br (o.ae p) p.node (o.ae p).bs)),.dead,.rw 62 4 (((o.ae p).nw.bu o.rc ((o.aH p.node))))])])] 5 [0,1,2,3,4,5,6,7,8,9] [4] r (by kernel_rfl) (U (sP (o.ae p) (k+1) bg (by assumption) p.node) (U ((by first | rfl | (simp;done) | (simp<;>omega)):((o.aG p.node).length)=((o.aG p.node):List (List DV)).length) (U ((by first | rfl | (simp;done) | (simp<;>omega)):((br (o.ae p) p.node (o.ae p).bs).length)=(br (o.ae p) p.node (o.ae p).bs:List (List DV)).length) (U ((by first | omega | (simp;omega) | (have:=eu o p.node;omega) | (have:=ij v p.node;have:=fp (o:=(o.ae p)) (z:=p.node) (by have:=eX bg.bk;omega) (o.ae p).bs;have:=fX bg;omega)):(2*(((o.aG p.node).length)+((br (o.ae p) p.node (o.ae p).bs).length))+0)*136≤281474976710656) (U ((by first | omega | (simp;omega) | (have:=eu o p.node;omega) | (have:=ij v p.node;have:=fp (o:=(o.ae p)) (z:=p.node) (by have:=eX bg.bk;omega) (o.ae p).bs;have:=fX bg;omega)):((o.aG p.node).length)+((br (o.ae p) p.node (o.ae p).bs).length)<4611686018427387904) (U ((by first | exact j8 _ _ | exact np _ _ _ | (simp [bA,AV.one,cd];done)):bA (br (o.ae p) p.node (o.ae p).bs)) (U (kh (o.ae p).nw (k+2) c8 o.rc ((o.aG p.node)++(br (o.ae p) p.node (o.ae p).bs)) ((o.aH p.node)) (by have:=eu o p.node;first | omega | (simp;omega)) _ _ (by first | rfl | (simp;done)) (by first | rfl | (simp;done)):aL Tryz.prog 25 [.pt 0 0,.ag [.sl 3 ((o.aG p.node).length+((br (o.ae p) p.node (o.ae p).bs).length)),aj,.sl 4 ((o.aH p.node).length)],.d (.ro 2 (procs o.rc))] [.bx 70 [.z ((o.ae p).nw.self.node),.u ((o.ae p).nw.self.inc),.d (.ro 1 (ints (o.ae p).nw.homes)),.n ((o.ae p).nw.n),.sl 1 ((o.ae p).nw.book.length),.mv 2],.rw 31 4 (aI (o.ae p).nw.book),.mp 67 ((o.ae p).nw.ck) (aY (o.ae p).nw.ls),.rw 60 11 ((o.aG p.node)++(br (o.ae p) p.node (o.ae p).bs)),.rw 62 4 ((o.aH p.node))] (.ag [.sl 3 (((o.aG p.node)++(br (o.ae p) p.node (o.ae p).bs)).length),aj,.sl 5 (((o.ae p).nw.bu o.rc ((o.aH p.node))).length)]) [.bx 70 [.z ((o.ae p).nw.self.node),.u ((o.ae p).nw.self.inc),.d (.ro 1 (ints (o.ae p).nw.homes)),.n ((o.ae p).nw.n),.sl 1 ((o.ae p).nw.book.length),.mv 2],.rw 31 4 (aI (o.ae p).nw.book),.mp 67 ((o.ae p).nw.ck) (aY (o.ae p).nw.ls),.rw 60 11 ((o.aG p.node)++(br (o.ae p) p.node (o.ae p).bs)),.dead,.rw 62 4 (((o.ae p).nw.bu o.rc ((o.aH p.node))))]) trivial))))))) fun ac wd r=>?_
        have r:=r.eU 4 (M2:=[.bx 70 [.z ((o.ae p).nw.self.node),.u ((o.ae p).nw.self.inc),.d (.ro 1 (ints (o.ae p).nw.homes)),.n ((o.ae p).nw.n),.sl 1 ((o.ae p).nw.book.length),.mv 2],.rw 31 4 (aI (o.ae p).nw.book),.mp 67 ((o.ae p).nw.ck) (aY (o.ae p).nw.ls),.bx 24 [.z p.node,.u p.inc],.bx 46 [.d (.jk),.d (.jk),.d (.jk)],.rw 60 11 ((o.aG p.node)++(br (o.ae p) p.node (o.ae p).bs)),.dead,.bx 46 [.sl 5 ((o.aG p.node).length+((br (o.ae p) p.node (o.ae p).bs).length)),aj,.sl 6 ((o.aH p.node).length)],.dead,.rw 62 4 (((o.ae p).nw.bu o.rc ((o.aH p.node))))]) rfl rfl
        refine bB (y:=.ag [.d (.jk),.d (.jk),.d (.jk)]) (N':=[.bx 70 [.z ((o.ae p).nw.self.node),.u ((o.ae p).nw.self.inc),.d (.ro 1 (ints (o.ae p).nw.homes)),.n ((o.ae p).nw.n),.sl 1 ((o.ae p).nw.book.length),.mv 2],.rw 31 4 (aI (o.ae p).nw.book),.mp 67 ((o.ae p).nw.ck) (aY (o.ae p).nw.ls)]) (rfl) ((by unfold Ov.eh;rw [show o.cF p=false from by unfold Ov.cF;simp only [h0,h3,h7,Bool.not_true,Bool.not_false,Bool.true_or,Bool.or_true,Bool.false_or,Bool.or_false,cond_true,cond_false];first | done | (simp;omega)];simp only [h8,h9,cond_true,cond_false];first | done | rfl)) ?_
        exact bC tk tq hK rfl aB [] 2000 [0,1,2] r (by kernel_rfl) trivial
     | true=>
      have gE:=of_decide_eq_true h7
      refine ch (todo':=aft Tryz.f7 2) (E':=[(0,.pt 0 0),(3,.pt 3 0),(4,.pt 4 0)]) (M':=[ao o 1 2,af o,ai o,.bx 24 [.z p.node,.u p.inc],.bx 46 [aj,aj,aj]]) tk tq hK aB [(1,[(1,.mem [0,1,2] (aU) [ao o 1 2,af o,ai o]),(7,.mem [0,1,2] (aU) [ao o 1 2,af o,ai o]),(13,.b false),(18,.b false),(27,.mk (o.li p.node) (.i .i64 (p.node)) (.ag [.z ((o.lf p.node).node),.u ((o.lf p.node).inc)])),(29,.b true)])] 8 [0,1,2,3,4] [0,3,4] r (by kernel_rfl) (U (dr o b6) (U bd (U h1 (U h2 (U dp (U (rfl:(.i .i64 (p.node):MK)=.i .i64 (p.node)) (U gF (U gG (U ((ez (eN (o.lf p.node) p) h7):dK Tryz.prog 24 [(.int .i64 ((o.lf p.node).node)),(.int .u64 ((((o.lf p.node).inc:Nat):Int)))] [(.int .i64 (p.node)),(.int .u64 (((p.inc:Nat):Int)))] true) trivial))))))))) fun ac wd r=>?_
      have r:=r.eU 4 (M2:=[ao o 1 2,af o,ai o,.bx 24 [.z p.node,.u p.inc],.bx 46 [.d (.jk),.d (.jk),.d (.jk)]]) rfl rfl
      refine bB (y:=.ag [.d (.jk),.d (.jk),.d (.jk)]) (N':=[ao o 1 2,af o,ai o]) (rfl) ((by unfold Ov.eh;rw [show o.cF p=true from by unfold Ov.cF;simp only [h0,h3,h7,Bool.not_true,Bool.not_false,Bool.true_or,Bool.or_true,Bool.false_or,Bool.or_false,cond_true,cond_false];first | done | (simp;omega)];rfl)) ?_
      exact bC tk tq hK rfl aB [] 2000 [0,1,2] r (by kernel_rfl) trivial
   | true=>
    have b7:=of_decide_eq_true h2
    refine ch (todo':=aft Tryz.f7 2) (E':=[(0,.pt 0 0),(3,.pt 3 0),(4,.pt 4 0)]) (M':=[ao o 1 2,af o,ai o,.bx 24 [.z p.node,.u p.inc],.bx 46 [aj,aj,aj]]) tk tq hK aB [(1,[(1,.mem [0,1,2] (aU) [ao o 1 2,af o,ai o]),(7,.mem [0,1,2] (aU) [ao o 1 2,af o,ai o]),(13,.b false),(18,.b true)])] 8 [0,1,2,3,4] [0,3,4] r (by kernel_rfl) (U (dr o b6) (U bd (U h1 (U h2 trivial)))) fun ac wd r=>?_
    have r:=r.eU 4 (M2:=[ao o 1 2,af o,ai o,.bx 24 [.z p.node,.u p.inc],.bx 46 [.d (.jk),.d (.jk),.d (.jk)]]) rfl rfl
    refine bB (y:=.ag [.d (.jk),.d (.jk),.d (.jk)]) (N':=[ao o 1 2,af o,ai o]) (rfl) ((by unfold Ov.eh;rw [show o.cF p=true from by unfold Ov.cF;simp only [h0,Bool.not_true,Bool.not_false,Bool.true_or,Bool.or_true,Bool.false_or,Bool.or_false,cond_true,cond_false];first | done | (simp;omega)];rfl)) ?_
    exact bC tk tq hK rfl aB [] 2000 [0,1,2] r (by kernel_rfl) trivial
  | true=>
   have bN:=eq_of_beq h1
   refine ch (todo':=aft Tryz.f7 2) (E':=[(0,.pt 0 0),(3,.pt 3 0),(4,.pt 4 0)]) (M':=[ao o 1 2,af o,ai o,.bx 24 [.z p.node,.u p.inc],.bx 46 [aj,aj,aj]]) tk tq hK aB [(1,[(1,.mem [0,1,2] (aU) [ao o 1 2,af o,ai o]),(7,.mem [0,1,2] (aU) [ao o 1 2,af o,ai o]),(13,.b true)])] 8 [0,1,2,3,4] [0,3,4] r (by kernel_rfl) (U (dr o b6) (U bd (U h1 trivial))) fun ac wd r=>?_
   have r:=r.eU 4 (M2:=[ao o 1 2,af o,ai o,.bx 24 [.z p.node,.u p.inc],.bx 46 [.d (.jk),.d (.jk),.d (.jk)]]) rfl rfl
   refine bB (y:=.ag [.d (.jk),.d (.jk),.d (.jk)]) (N':=[ao o 1 2,af o,ai o]) (rfl) ((by unfold Ov.eh;rw [show o.cF p=true from by unfold Ov.cF;simp only [h0,Bool.not_true,Bool.not_false,Bool.true_or,Bool.or_true,Bool.false_or,Bool.or_false,cond_true,cond_false];first | done | (simp;omega)];rfl)) ?_
   exact bC tk tq hK rfl aB [] 2000 [0,1,2] r (by kernel_rfl) trivial
set_option maxRecDepth 100000 in
theorem OW (o:Ov) (k:Nat) (v:o.Inv k) (hk:k+2≤34359738367) (p:ah) (cY:o.cF p=false) (k6:(o.ae p).sv=true) (pD:(o.ae p).cA p.node=true):aL Tryz.prog 7 [.pt 0 0,.ag [.z p.node,.u p.inc]] [ao o 1 2,af o,ai o] (.ag [.sl 3 (o.aG p.node++br (o.ae p) p.node (o.ae p).bs).length,aj,.sl 4 ((o.ae p).nw.bu o.rc (o.aH p.node)).length]) (ef (o.ae p).nw++[.rw 60 11 (o.aG p.node++br (o.ae p) p.node (o.ae p).bs),.rw 62 4 ((o.ae p).nw.bu o.rc (o.aH p.node))]):=by
 have b6:=v.ok.s1
 have gN:=v.ok.s2
 have ou:=v.ok.h
 refine aL.intro (by kernel_rfl) rfl rfl 80 rfl rfl fun D w0 K bs ac wd hK (aB:bs.m=3) r=>?_
 cases h0:(o.fZ p.node) with
 | false=>
  exact absurd (show o.cF p=true from by unfold Ov.cF;simp only [h0,Bool.not_true,Bool.not_false,Bool.true_or,Bool.or_true,Bool.false_or,Bool.or_false,cond_true,cond_false];first | done | (simp;omega)) (by rw [cY];simp)
 | true=>
  have w7:=iO v.ok (x:=p.node) (by assumption)
  have bd:=((by have k:=vZ o b6 gN ou p.node;rw [h0] at k;exact k):aL Tryz.prog 21 [.pt 0 0,.z p.node] [ao o 1 2,af o,ai o] (aU) [ao o 1 2,af o,ai o])
  cases h1:((((p.inc:Nat):Int):Int)==0) with
  | false=>
   have bN:=ne_of_beq_false h1
   cases h2:(decide ((34359738367:Int)<((p.inc:Nat):Int))) with
   | false=>
    have b7:=of_decide_eq_false h2
    cases h3:(o.has p.node) with
    | false=>
     have b3:=((dX v.lk (by have:=iO v.ok (x:=p.node) (by assumption);omega)):b5 Tryz.prog 3 ((.i .i64 (p.node))::List.map (fun (e:Nat×MK×DV)=>e.2.1) (aY o.ls)))
     have cy:=((fun _=>rfl):gp Tryz.prog 24 (.agg [(.int .i64 (0)),(.int .u64 (0))].toArray))
     have db:=((iq (by assumption)):∀ zz ∈ (aY o.ls:List (Nat×MK×DV)),zz.2.1≠.i .i64 (p.node))
     cases h4:(decide (⟨0,0⟩=p)) with
     | false=>
      have eA:=of_decide_eq_false h4
      refine ch (todo':=aft Tryz.f7 3) (E':=[(0,.pt 0 0),(3,.pt 3 0),(4,.pt 4 0),(5,.d (.ro 2 (procs o.rc)))]) (M':=[ao o 1 2,af o,ai o,.bx 24 [.z p.node,.u p.inc],.bx 46 [aj,aj,aj]]) tk tq hK aB [(1,[(1,.mem [0,1,2] (aU) [ao o 1 2,af o,ai o]),(7,.mem [0,1,2] (aU) [ao o 1 2,af o,ai o]),(13,.b false),(18,.b false),(27,.b false),(29,.b false)]),(3,[(1,.mem [0,1,2] (.d (.ro 2 (procs o.rc))) [ao o 1 2,af o,ai o])])] 9 [0,1,2,3,4] [0,3,4,5] r (by kernel_rfl) (U (dr o b6) (U bd (U h1 (U h2 (U b3 (U cy (U db (U ((ez (eN ⟨0,0⟩ p) h4):dK Tryz.prog 24 [(.int .i64 (0)),(.int .u64 (0))] [(.int .i64 (p.node)),(.int .u64 (((p.inc:Nat):Int)))] false) (U (gS o k v) trivial))))))))) fun ac wd r=>?_
      have bg:(o.ae p).Inv (k+1):=(v.dn p.node (by omega)).add (by rw [oO];assumption) (by omega) (by omega) (jH v p.node)
      refine ch (todo':=aft Tryz.f7 5) (E':=[(0,.pt 0 0),(3,.pt 3 0),(4,.pt 4 0),(5,.d (.ro 2 (procs o.rc))),(6,.pt 7 0)]) (M':=[.bx 70 [.z ((o.dn p.node).self.node),.u ((o.dn p.node).self.inc),.d (.ro 1 (ints (o.dn p.node).homes)),.n ((o.dn p.node).n),.sl 1 ((o.dn p.node).book.length),.mv 2],af (o.dn p.node),.mp 67 ((o.dn p.node).ck+1) (aY (o.dn p.node).ls++[((o.dn p.node).ck,.i .i64 (p.node),.ag [.z p.node,.u p.inc])]),.bx 24 [.z p.node,.u p.inc],.bx 46 [aj,aj,aj],.rw 60 11 ((o.aG p.node)),.rw 62 4 ((o.aH p.node)),.bx 46 [.sl 5 ((o.aG p.node).length),aj,.sl 6 ((o.aH p.node).length)]]) tk tq hK aB [(4,[(3,.mem [0,1,2] (.ag [.sl 3 ((o.aG p.node).length),aj,.sl 4 ((o.aH p.node).length)]) [.bx 70 [.z ((o.dn p.node).self.node),.u ((o.dn p.node).self.inc),.d (.ro 1 (ints (o.dn p.node).homes)),.n ((o.dn p.node).n),.sl 1 ((o.dn p.node).book.length),.mv 2],af (o.dn p.node),ai (o.dn p.node),.rw 60 11 ((o.aG p.node)),.rw 62 4 ((o.aH p.node))])]),(5,[(7,.b false)])] 4 [0,1,2,3,4,5,6,7] [0,3,4,5,6] r (by kernel_rfl) (U (oN o k v p.node (by first | omega | exact hz)) (U ((dX (v.dn p.node (by omega)).lk (by have:=iO v.ok (x:=p.node) (by assumption);omega)):b5 Tryz.prog 3 ((.i .i64 (p.node))::List.map (fun (e:Nat×MK×DV)=>e.2.1) (aY (o.dn p.node).ls))) (U ((iq (jH v p.node)):∀ zz ∈ (aY (o.dn p.node).ls:List (Nat×MK×DV)),zz.2.1≠.i .i64 (p.node)) trivial))) fun ac wd r=>?_
      have r:=r.cast (M':=[.bx 70 [.z ((o.ae p).self.node),.u ((o.ae p).self.inc),.d (.ro 1 (ints (o.ae p).homes)),.n ((o.ae p).n),.sl 1 ((o.ae p).book.length),.mv 2],af (o.ae p),ai (o.ae p),.bx 24 [.z p.node,.u p.inc],.bx 46 [aj,aj,aj],.rw 60 11 ((o.aG p.node)),.rw 62 4 ((o.aH p.node)),.bx 46 [.sl 5 ((o.aG p.node).length),aj,.sl 6 ((o.aH p.node).length)]]) rfl (by rw [qt];rfl)
      cases h5:((o.ae p).sv) with
      | false=>
       exact absurd h5 (by rw [k6];simp)
      | true=>
       have cZ:=((by have k:=fk (o.ae p);rw [h5] at k;exact k):aL Tryz.prog 23 [.pt 0 0] [.bx 70 [.z ((o.ae p).self.node),.u ((o.ae p).self.inc),.d (.ro 1 (ints (o.ae p).homes)),.n ((o.ae p).n),.sl 1 ((o.ae p).book.length),.mv 2],af (o.ae p),ai (o.ae p)] (aU) [.bx 70 [.z ((o.ae p).self.node),.u ((o.ae p).self.inc),.d (.ro 1 (ints (o.ae p).homes)),.n ((o.ae p).n),.sl 1 ((o.ae p).book.length),.mv 2],af (o.ae p),ai (o.ae p)])
       cases h6:((o.ae p).cA p.node) with
       | false=>
        exact absurd h6 (by rw [pD];simp)
       | true=>
        refine ch (todo':=aft Tryz.f7 8) (E':=[(0,.pt 0 0),(3,.pt 3 0),(4,.pt 4 0),(5,.d (.ro 2 (procs o.rc))),(6,.pt 7 0),(63,aU)]) (M':=[.bx 70 [.z ((o.ae p).self.node),.u ((o.ae p).self.inc),.d (.ro 1 (ints (o.ae p).homes)),.n ((o.ae p).n),.sl 1 ((o.ae p).book.length),.mv 2],af (o.ae p),ai (o.ae p),.bx 24 [.z p.node,.u p.inc],.bx 46 [aj,aj,aj],.rw 60 11 ((o.aG p.node)),.rw 62 4 ((o.aH p.node)),.bx 46 [.sl 5 ((o.aG p.node).length),aj,.sl 6 ((o.aH p.node).length)]]) tk tq hK aB [(7,[(1,.mem [0,1,2] (aU) [.bx 70 [.z ((o.ae p).self.node),.u ((o.ae p).self.inc),.d (.ro 1 (ints (o.ae p).homes)),.n ((o.ae p).n),.sl 1 ((o.ae p).book.length),.mv 2],af (o.ae p),ai (o.ae p)])]),(8,[(3,.mem [0,1,2] (aU) [.bx 70 [.z ((o.ae p).self.node),.u ((o.ae p).self.inc),.d (.ro 1 (ints (o.ae p).homes)),.n ((o.ae p).n),.sl 1 ((o.ae p).book.length),.mv 2],af (o.ae p),ai (o.ae p)])])] 7 [0,1,2,3,4,5,6,7] [0,3,4,5,6,63] r (by kernel_rfl) (U cZ (U ((by have k:=e6 (o.ae p) p.node;rw [h6] at k;exact k):aL Tryz.prog 19 [.pt 0 0,.z p.node] [.bx 70 [.z ((o.ae p).self.node),.u ((o.ae p).self.inc),.d (.ro 1 (ints (o.ae p).homes)),.n ((o.ae p).n),.sl 1 ((o.ae p).book.length),.mv 2],af (o.ae p),ai (o.ae p)] (aU) [.bx 70 [.z ((o.ae p).self.node),.u ((o.ae p).self.inc),.d (.ro 1 (ints (o.ae p).homes)),.n ((o.ae p).n),.sl 1 ((o.ae p).book.length),.mv 2],af (o.ae p),ai (o.ae p)]) trivial)) fun ac wd r=>?_
        have c8:(o.ae p).nw.Inv (k+2):=bg.nw (by assumption) (by omega)
        refine bB (y:=.ag [.sl 3 (((o.aG p.node)++(br (o.ae p) p.node (o.ae p).bs)).length),aj,.sl 4 (((o.ae p).nw.bu o.rc ((o.aH p.node))).length)]) (N':=[.bx 70 [.z ((o.ae p).nw.self.node),.u ((o.ae p).nw.self.inc),.d (.ro 1 (ints (o.ae p).nw.homes)),.n ((o.ae p).nw.n),.sl 1 ((o.ae p).nw.book.length),.mv 2],.rw 31 4 (aI (o.ae p).nw.book),.mp 67 ((o.ae p).nw.ck) (aY (o.ae p).nw.ls),.rw 60 11 ((o.aG p.node)++(br (o.ae p) p.node (o.ae p).bs)),.rw 62 4 (((o.ae p).nw.bu o.rc ((o.aH p.node))))]) ((by first | rfl | (simp;done))) (rfl) ?_
        exact bC tk tq hK rfl aB [(9,[(5,.mem [0,1,2] (.sl 3 ((br (o.ae p) p.node (o.ae p).bs).length)) [.bx 70 [.z ((o.ae p).nw.self.node),.u ((o.ae p).nw.self.inc),.d (.ro 1 (ints (o.ae p).nw.homes)),.n ((o.ae p).nw.n),.sl 1 ((o.ae p).nw.book.length),.mv 2],.rw 31 4 (aI (o.ae p).nw.book),.mp 67 ((o.ae p).nw.ck) (aY (o.ae p).nw.ls),.rw 60 11 (br (o.ae p) p.node (o.ae p).bs)])]),(10,[(3,.mem [0,1,2,5,6] (.ag [.sl 3 (((o.aG p.node)++(br (o.ae p) p.node (o.ae p).bs)).length),aj,.sl 5 (((o.ae p).nw.bu o.rc ((o.aH p.node))).length)]) [.bx 70 [.z ((o.ae p).nw.self.node),.u ((o.ae p).nw.self.inc),.d (.ro 1 (ints (o.ae p).nw.homes)),.n ((o.ae p).nw.n),.sl 1 ((o.ae p).nw.book.length),.mv 2],.rw 31 4 (aI (o.ae p).nw.book),.mp 67 ((o.ae p).nw.ck) (aY (o.ae p).nw.ls),.rw 60 11 ((o.aG p.node)++(br (o.ae p) p.node (o.ae p).bs)),.dead,.rw 62 4 (((o.ae p).nw.bu o.rc ((o.aH p.node))))])])] 2000 [0,1,2,5,9] r (by kernel_rfl) (U (sP (o.ae p) (k+1) bg (by assumption) p.node) (U ((by first | rfl | (simp;done) | (simp<;>omega)):((o.aG p.node).length)=((o.aG p.node):List (List DV)).length) (U ((by first | rfl | (simp;done) | (simp<;>omega)):((br (o.ae p) p.node (o.ae p).bs).length)=(br (o.ae p) p.node (o.ae p).bs:List (List DV)).length) (U ((by first | omega | (simp;omega) | (have:=eu o p.node;omega) | (have:=ij v p.node;have:=fp (o:=(o.ae p)) (z:=p.node) (by have:=eX bg.bk;omega) (o.ae p).bs;have:=fX bg;omega)):(2*(((o.aG p.node).length)+((br (o.ae p) p.node (o.ae p).bs).length))+0)*136≤281474976710656) (U ((by first | omega | (simp;omega) | (have:=eu o p.node;omega) | (have:=ij v p.node;have:=fp (o:=(o.ae p)) (z:=p.node) (by have:=eX bg.bk;omega) (o.ae p).bs;have:=fX bg;omega)):((o.aG p.node).length)+((br (o.ae p) p.node (o.ae p).bs).length)<4611686018427387904) (U ((by first | exact j8 _ _ | exact np _ _ _ | (simp [bA,AV.one,cd];done)):bA (br (o.ae p) p.node (o.ae p).bs)) (U (kh (o.ae p).nw (k+2) c8 o.rc ((o.aG p.node)++(br (o.ae p) p.node (o.ae p).bs)) ((o.aH p.node)) (by have:=eu o p.node;first | omega | (simp;omega)) _ _ (by first | rfl | (simp;done)) (by first | rfl | (simp;done)):aL Tryz.prog 25 [.pt 0 0,.ag [.sl 3 ((o.aG p.node).length+((br (o.ae p) p.node (o.ae p).bs).length)),aj,.sl 4 ((o.aH p.node).length)],.d (.ro 2 (procs o.rc))] [.bx 70 [.z ((o.ae p).nw.self.node),.u ((o.ae p).nw.self.inc),.d (.ro 1 (ints (o.ae p).nw.homes)),.n ((o.ae p).nw.n),.sl 1 ((o.ae p).nw.book.length),.mv 2],.rw 31 4 (aI (o.ae p).nw.book),.mp 67 ((o.ae p).nw.ck) (aY (o.ae p).nw.ls),.rw 60 11 ((o.aG p.node)++(br (o.ae p) p.node (o.ae p).bs)),.rw 62 4 ((o.aH p.node))] (.ag [.sl 3 (((o.aG p.node)++(br (o.ae p) p.node (o.ae p).bs)).length),aj,.sl 5 (((o.ae p).nw.bu o.rc ((o.aH p.node))).length)]) [.bx 70 [.z ((o.ae p).nw.self.node),.u ((o.ae p).nw.self.inc),.d (.ro 1 (ints (o.ae p).nw.homes)),.n ((o.ae p).nw.n),.sl 1 ((o.ae p).nw.book.length),.mv 2],.rw 31 4 (aI (o.ae p).nw.book),.mp 67 ((o.ae p).nw.ck) (aY (o.ae p).nw.ls),.rw 60 11 ((o.aG p.node)++(br (o.ae p) p.node (o.ae p).bs)),.dead,.rw 62 4 (((o.ae p).nw.bu o.rc ((o.aH p.node))))]) trivial)))))))
     | true=>
      have eA:=of_decide_eq_true h4
      exact absurd (show o.cF p=true from by unfold Ov.cF;simp only [h0,h3,h4,Bool.not_true,Bool.not_false,Bool.true_or,Bool.or_true,Bool.false_or,Bool.or_false,cond_true,cond_false];first | done | (simp;omega)) (by rw [cY];simp)
    | true=>
     obtain ⟨bl,fj⟩:=mn (by assumption)
     have dp:=((dX v.lk (by have:=iO v.ok (x:=p.node) (by assumption);omega)):b5 Tryz.prog 3 ((.i .i64 (p.node))::List.map (fun (e:Nat×MK×DV)=>e.2.1) (aY o.ls)))
     have gF:=((jT v.lk):(List.map (fun (e:Nat×MK×DV)=>e.2.1) (aY o.ls)).Nodup)
     have gG:=(⟨bl,jf fj⟩:∃ b0,(aY o.ls:List (Nat×MK×DV))[o.li p.node]?=some (b0,.i .i64 (p.node),.ag [.z ((o.lf p.node).node),.u ((o.lf p.node).inc)]))
     cases h7:(decide (o.lf p.node=p)) with
     | false=>
      have gE:=of_decide_eq_false h7
      refine ch (todo':=aft Tryz.f7 3) (E':=[(0,.pt 0 0),(3,.pt 3 0),(4,.pt 4 0),(5,.d (.ro 2 (procs o.rc)))]) (M':=[ao o 1 2,af o,ai o,.bx 24 [.z p.node,.u p.inc],.bx 46 [aj,aj,aj]]) tk tq hK aB [(1,[(1,.mem [0,1,2] (aU) [ao o 1 2,af o,ai o]),(7,.mem [0,1,2] (aU) [ao o 1 2,af o,ai o]),(13,.b false),(18,.b false),(27,.mk (o.li p.node) (.i .i64 (p.node)) (.ag [.z ((o.lf p.node).node),.u ((o.lf p.node).inc)])),(29,.b false)]),(3,[(1,.mem [0,1,2] (.d (.ro 2 (procs o.rc))) [ao o 1 2,af o,ai o])])] 9 [0,1,2,3,4] [0,3,4,5] r (by kernel_rfl) (U (dr o b6) (U bd (U h1 (U h2 (U dp (U (rfl:(.i .i64 (p.node):MK)=.i .i64 (p.node)) (U gF (U gG (U ((ez (eN (o.lf p.node) p) h7):dK Tryz.prog 24 [(.int .i64 ((o.lf p.node).node)),(.int .u64 ((((o.lf p.node).inc:Nat):Int)))] [(.int .i64 (p.node)),(.int .u64 (((p.inc:Nat):Int)))] false) (U (gS o k v) trivial)))))))))) fun ac wd r=>?_
      have bg:(o.ae p).Inv (k+1):=(v.dn p.node (by omega)).add (by rw [oO];assumption) (by omega) (by omega) (jH v p.node)
      refine ch (todo':=aft Tryz.f7 5) (E':=[(0,.pt 0 0),(3,.pt 3 0),(4,.pt 4 0),(5,.d (.ro 2 (procs o.rc))),(6,.pt 7 0)]) (M':=[.bx 70 [.z ((o.dn p.node).self.node),.u ((o.dn p.node).self.inc),.d (.ro 1 (ints (o.dn p.node).homes)),.n ((o.dn p.node).n),.sl 1 ((o.dn p.node).book.length),.mv 2],af (o.dn p.node),.mp 67 ((o.dn p.node).ck+1) (aY (o.dn p.node).ls++[((o.dn p.node).ck,.i .i64 (p.node),.ag [.z p.node,.u p.inc])]),.bx 24 [.z p.node,.u p.inc],.bx 46 [aj,aj,aj],.rw 60 11 ((o.aG p.node)),.rw 62 4 ((o.aH p.node)),.bx 46 [.sl 5 ((o.aG p.node).length),aj,.sl 6 ((o.aH p.node).length)]]) tk tq hK aB [(4,[(3,.mem [0,1,2] (.ag [.sl 3 ((o.aG p.node).length),aj,.sl 4 ((o.aH p.node).length)]) [.bx 70 [.z ((o.dn p.node).self.node),.u ((o.dn p.node).self.inc),.d (.ro 1 (ints (o.dn p.node).homes)),.n ((o.dn p.node).n),.sl 1 ((o.dn p.node).book.length),.mv 2],af (o.dn p.node),ai (o.dn p.node),.rw 60 11 ((o.aG p.node)),.rw 62 4 ((o.aH p.node))])]),(5,[(7,.b false)])] 4 [0,1,2,3,4,5,6,7] [0,3,4,5,6] r (by kernel_rfl) (U (oN o k v p.node (by first | omega | exact hz)) (U ((dX (v.dn p.node (by omega)).lk (by have:=iO v.ok (x:=p.node) (by assumption);omega)):b5 Tryz.prog 3 ((.i .i64 (p.node))::List.map (fun (e:Nat×MK×DV)=>e.2.1) (aY (o.dn p.node).ls))) (U ((iq (jH v p.node)):∀ zz ∈ (aY (o.dn p.node).ls:List (Nat×MK×DV)),zz.2.1≠.i .i64 (p.node)) trivial))) fun ac wd r=>?_
      have r:=r.cast (M':=[.bx 70 [.z ((o.ae p).self.node),.u ((o.ae p).self.inc),.d (.ro 1 (ints (o.ae p).homes)),.n ((o.ae p).n),.sl 1 ((o.ae p).book.length),.mv 2],af (o.ae p),ai (o.ae p),.bx 24 [.z p.node,.u p.inc],.bx 46 [aj,aj,aj],.rw 60 11 ((o.aG p.node)),.rw 62 4 ((o.aH p.node)),.bx 46 [.sl 5 ((o.aG p.node).length),aj,.sl 6 ((o.aH p.node).length)]]) rfl (by rw [qt];rfl)
      cases h8:((o.ae p).sv) with
      | false=>
       exact absurd h8 (by rw [k6];simp)
      | true=>
       have gn:=((by have k:=fk (o.ae p);rw [h8] at k;exact k):aL Tryz.prog 23 [.pt 0 0] [.bx 70 [.z ((o.ae p).self.node),.u ((o.ae p).self.inc),.d (.ro 1 (ints (o.ae p).homes)),.n ((o.ae p).n),.sl 1 ((o.ae p).book.length),.mv 2],af (o.ae p),ai (o.ae p)] (aU) [.bx 70 [.z ((o.ae p).self.node),.u ((o.ae p).self.inc),.d (.ro 1 (ints (o.ae p).homes)),.n ((o.ae p).n),.sl 1 ((o.ae p).book.length),.mv 2],af (o.ae p),ai (o.ae p)])
       cases h9:((o.ae p).cA p.node) with
       | false=>
        exact absurd h9 (by rw [pD];simp)
       | true=>
        refine ch (todo':=aft Tryz.f7 8) (E':=[(0,.pt 0 0),(3,.pt 3 0),(4,.pt 4 0),(5,.d (.ro 2 (procs o.rc))),(6,.pt 7 0),(63,aU)]) (M':=[.bx 70 [.z ((o.ae p).self.node),.u ((o.ae p).self.inc),.d (.ro 1 (ints (o.ae p).homes)),.n ((o.ae p).n),.sl 1 ((o.ae p).book.length),.mv 2],af (o.ae p),ai (o.ae p),.bx 24 [.z p.node,.u p.inc],.bx 46 [aj,aj,aj],.rw 60 11 ((o.aG p.node)),.rw 62 4 ((o.aH p.node)),.bx 46 [.sl 5 ((o.aG p.node).length),aj,.sl 6 ((o.aH p.node).length)]]) tk tq hK aB [(7,[(1,.mem [0,1,2] (aU) [.bx 70 [.z ((o.ae p).self.node),.u ((o.ae p).self.inc),.d (.ro 1 (ints (o.ae p).homes)),.n ((o.ae p).n),.sl 1 ((o.ae p).book.length),.mv 2],af (o.ae p),ai (o.ae p)])]),(8,[(3,.mem [0,1,2] (aU) [.bx 70 [.z ((o.ae p).self.node),.u ((o.ae p).self.inc),.d (.ro 1 (ints (o.ae p).homes)),.n ((o.ae p).n),.sl 1 ((o.ae p).book.length),.mv 2],af (o.ae p),ai (o.ae p)])])] 7 [0,1,2,3,4,5,6,7] [0,3,4,5,6,63] r (by kernel_rfl) (U gn (U ((by have k:=e6 (o.ae p) p.node;rw [h9] at k;exact k):aL Tryz.prog 19 [.pt 0 0,.z p.node] [.bx 70 [.z ((o.ae p).self.node),.u ((o.ae p).self.inc),.d (.ro 1 (ints (o.ae p).homes)),.n ((o.ae p).n),.sl 1 ((o.ae p).book.length),.mv 2],af (o.ae p),ai (o.ae p)] (aU) [.bx 70 [.z ((o.ae p).self.node),.u ((o.ae p).self.inc),.d (.ro 1 (ints (o.ae p).homes)),.n ((o.ae p).n),.sl 1 ((o.ae p).book.length),.mv 2],af (o.ae p),ai (o.ae p)]) trivial)) fun ac wd r=>?_
        have c8:(o.ae p).nw.Inv (k+2):=bg.nw (by assumption) (by omega)
        refine bB (y:=.ag [.sl 3 (((o.aG p.node)++(br (o.ae p) p.node (o.ae p).bs)).length),aj,.sl 4 (((o.ae p).nw.bu o.rc ((o.aH p.node))).length)]) (N':=[.bx 70 [.z ((o.ae p).nw.self.node),.u ((o.ae p).nw.self.inc),.d (.ro 1 (ints (o.ae p).nw.homes)),.n ((o.ae p).nw.n),.sl 1 ((o.ae p).nw.book.length),.mv 2],.rw 31 4 (aI (o.ae p).nw.book),.mp 67 ((o.ae p).nw.ck) (aY (o.ae p).nw.ls),.rw 60 11 ((o.aG p.node)++(br (o.ae p) p.node (o.ae p).bs)),.rw 62 4 (((o.ae p).nw.bu o.rc ((o.aH p.node))))]) ((by first | rfl | (simp;done))) (rfl) ?_
        exact bC tk tq hK rfl aB [(9,[(5,.mem [0,1,2] (.sl 3 ((br (o.ae p) p.node (o.ae p).bs).length)) [.bx 70 [.z ((o.ae p).nw.self.node),.u ((o.ae p).nw.self.inc),.d (.ro 1 (ints (o.ae p).nw.homes)),.n ((o.ae p).nw.n),.sl 1 ((o.ae p).nw.book.length),.mv 2],.rw 31 4 (aI (o.ae p).nw.book),.mp 67 ((o.ae p).nw.ck) (aY (o.ae p).nw.ls),.rw 60 11 (br (o.ae p) p.node (o.ae p).bs)])]),(10,[(3,.mem [0,1,2,5,6] (.ag [.sl 3 (((o.aG p.node)++(br (o.ae p) p.node (o.ae p).bs)).length),aj,.sl 5 (((o.ae p).nw.bu o.rc ((o.aH p.node))).length)]) [.bx 70 [.z ((o.ae p).nw.self.node),.u ((o.ae p).nw.self.inc),.d (.ro 1 (ints (o.ae p).nw.homes)),.n ((o.ae p).nw.n),.sl 1 ((o.ae p).nw.book.length),.mv 2],.rw 31 4 (aI (o.ae p).nw.book),.mp 67 ((o.ae p).nw.ck) (aY (o.ae p).nw.ls),.rw 60 11 ((o.aG p.node)++(br (o.ae p) p.node (o.ae p).bs)),.dead,.rw 62 4 (((o.ae p).nw.bu o.rc ((o.aH p.node))))])])] 2000 [0,1,2,5,9] r (by kernel_rfl) (U (sP (o.ae p) (k+1) bg (by assumption) p.node) (U ((by first | rfl | (simp;done) | (simp<;>omega)):((o.aG p.node).length)=((o.aG p.node):List (List DV)).length) (U ((by first | rfl | (simp;done) | (simp<;>omega)):((br (o.ae p) p.node (o.ae p).bs).length)=(br (o.ae p) p.node (o.ae p).bs:List (List DV)).length) (U ((by first | omega | (simp;omega) | (have:=eu o p.node;omega) | (have:=ij v p.node;have:=fp (o:=(o.ae p)) (z:=p.node) (by have:=eX bg.bk;omega) (o.ae p).bs;have:=fX bg;omega)):(2*(((o.aG p.node).length)+((br (o.ae p) p.node (o.ae p).bs).length))+0)*136≤281474976710656) (U ((by first | omega | (simp;omega) | (have:=eu o p.node;omega) | (have:=ij v p.node;have:=fp (o:=(o.ae p)) (z:=p.node) (by have:=eX bg.bk;omega) (o.ae p).bs;have:=fX bg;omega)):((o.aG p.node).length)+((br (o.ae p) p.node (o.ae p).bs).length)<4611686018427387904) (U ((by first | exact j8 _ _ | exact np _ _ _ | (simp [bA,AV.one,cd];done)):bA (br (o.ae p) p.node (o.ae p).bs)) (U (kh (o.ae p).nw (k+2) c8 o.rc ((o.aG p.node)++(br (o.ae p) p.node (o.ae p).bs)) ((o.aH p.node)) (by have:=eu o p.node;first | omega | (simp;omega)) _ _ (by first | rfl | (simp;done)) (by first | rfl | (simp;done)):aL Tryz.prog 25 [.pt 0 0,.ag [.sl 3 ((o.aG p.node).length+((br (o.ae p) p.node (o.ae p).bs).length)),aj,.sl 4 ((o.aH p.node).length)],.d (.ro 2 (procs o.rc))] [.bx 70 [.z ((o.ae p).nw.self.node),.u ((o.ae p).nw.self.inc),.d (.ro 1 (ints (o.ae p).nw.homes)),.n ((o.ae p).nw.n),.sl 1 ((o.ae p).nw.book.length),.mv 2],.rw 31 4 (aI (o.ae p).nw.book),.mp 67 ((o.ae p).nw.ck) (aY (o.ae p).nw.ls),.rw 60 11 ((o.aG p.node)++(br (o.ae p) p.node (o.ae p).bs)),.rw 62 4 ((o.aH p.node))] (.ag [.sl 3 (((o.aG p.node)++(br (o.ae p) p.node (o.ae p).bs)).length),aj,.sl 5 (((o.ae p).nw.bu o.rc ((o.aH p.node))).length)]) [.bx 70 [.z ((o.ae p).nw.self.node),.u ((o.ae p).nw.self.inc),.d (.ro 1 (ints (o.ae p).nw.homes)),.n ((o.ae p).nw.n),.sl 1 ((o.ae p).nw.book.length),.mv 2],.rw 31 4 (aI (o.ae p).nw.book),.mp 67 ((o.ae p).nw.ck) (aY (o.ae p).nw.ls),.rw 60 11 ((o.aG p.node)++(br (o.ae p) p.node (o.ae p).bs)),.dead,.rw 62 4 (((o.ae p).nw.bu o.rc ((o.aH p.node))))]) trivial)))))))
     | true=>
      have gE:=of_decide_eq_true h7
      exact absurd (show o.cF p=true from by unfold Ov.cF;simp only [h0,h3,h7,Bool.not_true,Bool.not_false,Bool.true_or,Bool.or_true,Bool.false_or,Bool.or_false,cond_true,cond_false];first | done | (simp;omega)) (by rw [cY];simp)
   | true=>
    have b7:=of_decide_eq_true h2
    exact absurd (show o.cF p=true from by unfold Ov.cF;simp only [h0,Bool.not_true,Bool.not_false,Bool.true_or,Bool.or_true,Bool.false_or,Bool.or_false,cond_true,cond_false];first | done | (simp;omega)) (by rw [cY];simp)
  | true=>
   have bN:=eq_of_beq h1
   exact absurd (show o.cF p=true from by unfold Ov.cF;simp only [h0,Bool.not_true,Bool.not_false,Bool.true_or,Bool.or_true,Bool.false_or,Bool.or_false,cond_true,cond_false];first | done | (simp;omega)) (by rw [cY];simp)
set_option maxRecDepth 100000 in
theorem OX (o:Ov) (k:Nat) (v:o.Inv k) (hk:k+2≤34359738367) (p:ah) (cY:o.cF p=false) (k6:(o.ae p).sv=true) (pD:(o.ae p).cA p.node=false):aL Tryz.prog 7 [.pt 0 0,.ag [.z p.node,.u p.inc]] [ao o 1 2,af o,ai o] (.ag [.sl 3 (o.aG p.node).length,aj,.sl 4 ((o.ae p).bu o.rc (o.aH p.node++[[.z 2,.z p.node,.u p.inc,.v (.slice none 0 0)]])).length]) (ef (o.ae p)++[.rw 60 11 (o.aG p.node),.rw 62 4 ((o.ae p).bu o.rc (o.aH p.node++[[.z 2,.z p.node,.u p.inc,.v (.slice none 0 0)]]))]):=by
 have b6:=v.ok.s1
 have gN:=v.ok.s2
 have ou:=v.ok.h
 refine aL.intro (by kernel_rfl) rfl rfl 80 rfl rfl fun D w0 K bs ac wd hK (aB:bs.m=3) r=>?_
 cases h0:(o.fZ p.node) with
 | false=>
  exact absurd (show o.cF p=true from by unfold Ov.cF;simp only [h0,Bool.not_true,Bool.not_false,Bool.true_or,Bool.or_true,Bool.false_or,Bool.or_false,cond_true,cond_false];first | done | (simp;omega)) (by rw [cY];simp)
 | true=>
  have w7:=iO v.ok (x:=p.node) (by assumption)
  have bd:=((by have k:=vZ o b6 gN ou p.node;rw [h0] at k;exact k):aL Tryz.prog 21 [.pt 0 0,.z p.node] [ao o 1 2,af o,ai o] (aU) [ao o 1 2,af o,ai o])
  cases h1:((((p.inc:Nat):Int):Int)==0) with
  | false=>
   have bN:=ne_of_beq_false h1
   cases h2:(decide ((34359738367:Int)<((p.inc:Nat):Int))) with
   | false=>
    have b7:=of_decide_eq_false h2
    cases h3:(o.has p.node) with
    | false=>
     have b3:=((dX v.lk (by have:=iO v.ok (x:=p.node) (by assumption);omega)):b5 Tryz.prog 3 ((.i .i64 (p.node))::List.map (fun (e:Nat×MK×DV)=>e.2.1) (aY o.ls)))
     have cy:=((fun _=>rfl):gp Tryz.prog 24 (.agg [(.int .i64 (0)),(.int .u64 (0))].toArray))
     have db:=((iq (by assumption)):∀ zz ∈ (aY o.ls:List (Nat×MK×DV)),zz.2.1≠.i .i64 (p.node))
     cases h4:(decide (⟨0,0⟩=p)) with
     | false=>
      have eA:=of_decide_eq_false h4
      refine ch (todo':=aft Tryz.f7 3) (E':=[(0,.pt 0 0),(3,.pt 3 0),(4,.pt 4 0),(5,.d (.ro 2 (procs o.rc)))]) (M':=[ao o 1 2,af o,ai o,.bx 24 [.z p.node,.u p.inc],.bx 46 [aj,aj,aj]]) tk tq hK aB [(1,[(1,.mem [0,1,2] (aU) [ao o 1 2,af o,ai o]),(7,.mem [0,1,2] (aU) [ao o 1 2,af o,ai o]),(13,.b false),(18,.b false),(27,.b false),(29,.b false)]),(3,[(1,.mem [0,1,2] (.d (.ro 2 (procs o.rc))) [ao o 1 2,af o,ai o])])] 9 [0,1,2,3,4] [0,3,4,5] r (by kernel_rfl) (U (dr o b6) (U bd (U h1 (U h2 (U b3 (U cy (U db (U ((ez (eN ⟨0,0⟩ p) h4):dK Tryz.prog 24 [(.int .i64 (0)),(.int .u64 (0))] [(.int .i64 (p.node)),(.int .u64 (((p.inc:Nat):Int)))] false) (U (gS o k v) trivial))))))))) fun ac wd r=>?_
      have bg:(o.ae p).Inv (k+1):=(v.dn p.node (by omega)).add (by rw [oO];assumption) (by omega) (by omega) (jH v p.node)
      refine ch (todo':=aft Tryz.f7 5) (E':=[(0,.pt 0 0),(3,.pt 3 0),(4,.pt 4 0),(5,.d (.ro 2 (procs o.rc))),(6,.pt 7 0)]) (M':=[.bx 70 [.z ((o.dn p.node).self.node),.u ((o.dn p.node).self.inc),.d (.ro 1 (ints (o.dn p.node).homes)),.n ((o.dn p.node).n),.sl 1 ((o.dn p.node).book.length),.mv 2],af (o.dn p.node),.mp 67 ((o.dn p.node).ck+1) (aY (o.dn p.node).ls++[((o.dn p.node).ck,.i .i64 (p.node),.ag [.z p.node,.u p.inc])]),.bx 24 [.z p.node,.u p.inc],.bx 46 [aj,aj,aj],.rw 60 11 ((o.aG p.node)),.rw 62 4 ((o.aH p.node)),.bx 46 [.sl 5 ((o.aG p.node).length),aj,.sl 6 ((o.aH p.node).length)]]) tk tq hK aB [(4,[(3,.mem [0,1,2] (.ag [.sl 3 ((o.aG p.node).length),aj,.sl 4 ((o.aH p.node).length)]) [.bx 70 [.z ((o.dn p.node).self.node),.u ((o.dn p.node).self.inc),.d (.ro 1 (ints (o.dn p.node).homes)),.n ((o.dn p.node).n),.sl 1 ((o.dn p.node).book.length),.mv 2],af (o.dn p.node),ai (o.dn p.node),.rw 60 11 ((o.aG p.node)),.rw 62 4 ((o.aH p.node))])]),(5,[(7,.b false)])] 4 [0,1,2,3,4,5,6,7] [0,3,4,5,6] r (by kernel_rfl) (U (oN o k v p.node (by first | omega | exact hz)) (U ((dX (v.dn p.node (by omega)).lk (by have:=iO v.ok (x:=p.node) (by assumption);omega)):b5 Tryz.prog 3 ((.i .i64 (p.node))::List.map (fun (e:Nat×MK×DV)=>e.2.1) (aY (o.dn p.node).ls))) (U ((iq (jH v p.node)):∀ zz ∈ (aY (o.dn p.node).ls:List (Nat×MK×DV)),zz.2.1≠.i .i64 (p.node)) trivial))) fun ac wd r=>?_
      have r:=r.cast (M':=[.bx 70 [.z ((o.ae p).self.node),.u ((o.ae p).self.inc),.d (.ro 1 (ints (o.ae p).homes)),.n ((o.ae p).n),.sl 1 ((o.ae p).book.length),.mv 2],af (o.ae p),ai (o.ae p),.bx 24 [.z p.node,.u p.inc],.bx 46 [aj,aj,aj],.rw 60 11 ((o.aG p.node)),.rw 62 4 ((o.aH p.node)),.bx 46 [.sl 5 ((o.aG p.node).length),aj,.sl 6 ((o.aH p.node).length)]]) rfl (by rw [qt];rfl)
      cases h5:((o.ae p).sv) with
      | false=>
       exact absurd h5 (by rw [k6];simp)
      | true=>
       have cZ:=((by have k:=fk (o.ae p);rw [h5] at k;exact k):aL Tryz.prog 23 [.pt 0 0] [.bx 70 [.z ((o.ae p).self.node),.u ((o.ae p).self.inc),.d (.ro 1 (ints (o.ae p).homes)),.n ((o.ae p).n),.sl 1 ((o.ae p).book.length),.mv 2],af (o.ae p),ai (o.ae p)] (aU) [.bx 70 [.z ((o.ae p).self.node),.u ((o.ae p).self.inc),.d (.ro 1 (ints (o.ae p).homes)),.n ((o.ae p).n),.sl 1 ((o.ae p).book.length),.mv 2],af (o.ae p),ai (o.ae p)])
       cases h6:((o.ae p).cA p.node) with
       | false=>
        refine ch (todo':=aft Tryz.f7 8) (E':=[(0,.pt 0 0),(3,.pt 3 0),(4,.pt 4 0),(5,.d (.ro 2 (procs o.rc))),(6,.pt 7 0),(63,aZ)]) (M':=[.bx 70 [.z ((o.ae p).self.node),.u ((o.ae p).self.inc),.d (.ro 1 (ints (o.ae p).homes)),.n ((o.ae p).n),.sl 1 ((o.ae p).book.length),.mv 2],af (o.ae p),ai (o.ae p),.bx 24 [.z p.node,.u p.inc],.bx 46 [aj,aj,aj],.rw 60 11 ((o.aG p.node)),.rw 62 4 ((o.aH p.node)),.bx 46 [.sl 5 ((o.aG p.node).length),aj,.sl 6 ((o.aH p.node).length)]]) tk tq hK aB [(7,[(1,.mem [0,1,2] (aU) [.bx 70 [.z ((o.ae p).self.node),.u ((o.ae p).self.inc),.d (.ro 1 (ints (o.ae p).homes)),.n ((o.ae p).n),.sl 1 ((o.ae p).book.length),.mv 2],af (o.ae p),ai (o.ae p)])]),(8,[(3,.mem [0,1,2] (aZ) [.bx 70 [.z ((o.ae p).self.node),.u ((o.ae p).self.inc),.d (.ro 1 (ints (o.ae p).homes)),.n ((o.ae p).n),.sl 1 ((o.ae p).book.length),.mv 2],af (o.ae p),ai (o.ae p)])])] 7 [0,1,2,3,4,5,6,7] [0,3,4,5,6,63] r (by kernel_rfl) (U cZ (U ((by have k:=e6 (o.ae p) p.node;rw [h6] at k;exact k):aL Tryz.prog 19 [.pt 0 0,.z p.node] [.bx 70 [.z ((o.ae p).self.node),.u ((o.ae p).self.inc),.d (.ro 1 (ints (o.ae p).homes)),.n ((o.ae p).n),.sl 1 ((o.ae p).book.length),.mv 2],af (o.ae p),ai (o.ae p)] (aZ) [.bx 70 [.z ((o.ae p).self.node),.u ((o.ae p).self.inc),.d (.ro 1 (ints (o.ae p).homes)),.n ((o.ae p).n),.sl 1 ((o.ae p).book.length),.mv 2],af (o.ae p),ai (o.ae p)]) trivial)) fun ac wd r=>?_
        have c8:(o.ae p).nw.Inv (k+2):=bg.nw (by assumption) (by omega)
        refine bB (y:=.ag [.sl 3 (((o.aG p.node)).length),aj,.sl 4 (((o.ae p).bu o.rc ((o.aH p.node)++[[.z 2,.z p.node,.u p.inc,.v (.slice none 0 0)]])).length)]) (N':=[.bx 70 [.z ((o.ae p).self.node),.u ((o.ae p).self.inc),.d (.ro 1 (ints (o.ae p).homes)),.n ((o.ae p).n),.sl 1 ((o.ae p).book.length),.mv 2],af (o.ae p),ai (o.ae p),.rw 60 11 ((o.aG p.node)),.rw 62 4 (((o.ae p).bu o.rc ((o.aH p.node)++[[.z 2,.z p.node,.u p.inc,.v (.slice none 0 0)]])))]) ((by first | rfl | (simp;done))) (rfl) ?_
        exact bC tk tq hK rfl aB [(10,[(3,.mem [0,1,2,5,6] (.ag [.sl 3 (((o.aG p.node)).length),aj,.sl 5 (((o.ae p).bu o.rc ((o.aH p.node)++[[.z 2,.z p.node,.u p.inc,.v (.slice none 0 0)]])).length)]) [.bx 70 [.z ((o.ae p).self.node),.u ((o.ae p).self.inc),.d (.ro 1 (ints (o.ae p).homes)),.n ((o.ae p).n),.sl 1 ((o.ae p).book.length),.mv 2],af (o.ae p),ai (o.ae p),.rw 60 11 ((o.aG p.node)),.dead,.rw 62 4 (((o.ae p).bu o.rc ((o.aH p.node)++[[.z 2,.z p.node,.u p.inc,.v (.slice none 0 0)]])))])])] 2000 [0,1,2,5,9] r (by kernel_rfl) (U ((by first | rfl | (simp;done) | (simp<;>omega)):((o.aH p.node).length)=((o.aH p.node):List (List DV)).length) (U ((by first | rfl | (simp;done) | (simp<;>omega)):(1)=([[.z 2,.z p.node,.u p.inc,.v (.slice none 0 0)]]:List (List DV)).length) (U ((by first | omega | (simp;omega) | (have:=eu o p.node;omega) | (have:=ij v p.node;have:=fp (o:=(o.ae p)) (z:=p.node) (by have:=eX bg.bk;omega) (o.ae p).bs;have:=fX bg;omega)):(2*(((o.aH p.node).length)+(1))+0)*48≤281474976710656) (U ((by first | omega | (simp;omega) | (have:=eu o p.node;omega) | (have:=ij v p.node;have:=fp (o:=(o.ae p)) (z:=p.node) (by have:=eX bg.bk;omega) (o.ae p).bs;have:=fX bg;omega)):((o.aH p.node).length)+(1)<4611686018427387904) (U ((by first | exact j8 _ _ | exact np _ _ _ | (simp [bA,AV.one,cd];done)):bA ([[.z 2,.z p.node,.u p.inc,.v (.slice none 0 0)]])) (U (kh (o.ae p) (k+1) bg o.rc ((o.aG p.node)) ((o.aH p.node)++[[.z 2,.z p.node,.u p.inc,.v (.slice none 0 0)]]) (by have:=eu o p.node;first | omega | (simp;omega)) _ _ (by first | rfl | (simp;done)) (by first | rfl | (simp;done)):aL Tryz.prog 25 [.pt 0 0,.ag [.sl 3 ((o.aG p.node).length),aj,.sl 4 ((o.aH p.node).length+(1))],.d (.ro 2 (procs o.rc))] [.bx 70 [.z ((o.ae p).self.node),.u ((o.ae p).self.inc),.d (.ro 1 (ints (o.ae p).homes)),.n ((o.ae p).n),.sl 1 ((o.ae p).book.length),.mv 2],af (o.ae p),ai (o.ae p),.rw 60 11 ((o.aG p.node)),.rw 62 4 ((o.aH p.node)++[[.z 2,.z p.node,.u p.inc,.v (.slice none 0 0)]])] (.ag [.sl 3 (((o.aG p.node)).length),aj,.sl 5 (((o.ae p).bu o.rc ((o.aH p.node)++[[.z 2,.z p.node,.u p.inc,.v (.slice none 0 0)]])).length)]) [.bx 70 [.z ((o.ae p).self.node),.u ((o.ae p).self.inc),.d (.ro 1 (ints (o.ae p).homes)),.n ((o.ae p).n),.sl 1 ((o.ae p).book.length),.mv 2],af (o.ae p),ai (o.ae p),.rw 60 11 ((o.aG p.node)),.dead,.rw 62 4 (((o.ae p).bu o.rc ((o.aH p.node)++[[.z 2,.z p.node,.u p.inc,.v (.slice none 0 0)]])))]) trivial))))))
       | true=>
        exact absurd h6 (by rw [pD];simp)
     | true=>
      have eA:=of_decide_eq_true h4
      exact absurd (show o.cF p=true from by unfold Ov.cF;simp only [h0,h3,h4,Bool.not_true,Bool.not_false,Bool.true_or,Bool.or_true,Bool.false_or,Bool.or_false,cond_true,cond_false];first | done | (simp;omega)) (by rw [cY];simp)
    | true=>
     obtain ⟨bl,fj⟩:=mn (by assumption)
     have dp:=((dX v.lk (by have:=iO v.ok (x:=p.node) (by assumption);omega)):b5 Tryz.prog 3 ((.i .i64 (p.node))::List.map (fun (e:Nat×MK×DV)=>e.2.1) (aY o.ls)))
     have gF:=((jT v.lk):(List.map (fun (e:Nat×MK×DV)=>e.2.1) (aY o.ls)).Nodup)
     have gG:=(⟨bl,jf fj⟩:∃ b0,(aY o.ls:List (Nat×MK×DV))[o.li p.node]?=some (b0,.i .i64 (p.node),.ag [.z ((o.lf p.node).node),.u ((o.lf p.node).inc)]))
     cases h7:(decide (o.lf p.node=p)) with
     | false=>
      have gE:=of_decide_eq_false h7
      refine ch (todo':=aft Tryz.f7 3) (E':=[(0,.pt 0 0),(3,.pt 3 0),(4,.pt 4 0),(5,.d (.ro 2 (procs o.rc)))]) (M':=[ao o 1 2,af o,ai o,.bx 24 [.z p.node,.u p.inc],.bx 46 [aj,aj,aj]]) tk tq hK aB [(1,[(1,.mem [0,1,2] (aU) [ao o 1 2,af o,ai o]),(7,.mem [0,1,2] (aU) [ao o 1 2,af o,ai o]),(13,.b false),(18,.b false),(27,.mk (o.li p.node) (.i .i64 (p.node)) (.ag [.z ((o.lf p.node).node),.u ((o.lf p.node).inc)])),(29,.b false)]),(3,[(1,.mem [0,1,2] (.d (.ro 2 (procs o.rc))) [ao o 1 2,af o,ai o])])] 9 [0,1,2,3,4] [0,3,4,5] r (by kernel_rfl) (U (dr o b6) (U bd (U h1 (U h2 (U dp (U (rfl:(.i .i64 (p.node):MK)=.i .i64 (p.node)) (U gF (U gG (U ((ez (eN (o.lf p.node) p) h7):dK Tryz.prog 24 [(.int .i64 ((o.lf p.node).node)),(.int .u64 ((((o.lf p.node).inc:Nat):Int)))] [(.int .i64 (p.node)),(.int .u64 (((p.inc:Nat):Int)))] false) (U (gS o k v) trivial)))))))))) fun ac wd r=>?_
      have bg:(o.ae p).Inv (k+1):=(v.dn p.node (by omega)).add (by rw [oO];assumption) (by omega) (by omega) (jH v p.node)
      refine ch (todo':=aft Tryz.f7 5) (E':=[(0,.pt 0 0),(3,.pt 3 0),(4,.pt 4 0),(5,.d (.ro 2 (procs o.rc))),(6,.pt 7 0)]) (M':=[.bx 70 [.z ((o.dn p.node).self.node),.u ((o.dn p.node).self.inc),.d (.ro 1 (ints (o.dn p.node).homes)),.n ((o.dn p.node).n),.sl 1 ((o.dn p.node).book.length),.mv 2],af (o.dn p.node),.mp 67 ((o.dn p.node).ck+1) (aY (o.dn p.node).ls++[((o.dn p.node).ck,.i .i64 (p.node),.ag [.z p.node,.u p.inc])]),.bx 24 [.z p.node,.u p.inc],.bx 46 [aj,aj,aj],.rw 60 11 ((o.aG p.node)),.rw 62 4 ((o.aH p.node)),.bx 46 [.sl 5 ((o.aG p.node).length),aj,.sl 6 ((o.aH p.node).length)]]) tk tq hK aB [(4,[(3,.mem [0,1,2] (.ag [.sl 3 ((o.aG p.node).length),aj,.sl 4 ((o.aH p.node).length)]) [.bx 70 [.z ((o.dn p.node).self.node),.u ((o.dn p.node).self.inc),.d (.ro 1 (ints (o.dn p.node).homes)),.n ((o.dn p.node).n),.sl 1 ((o.dn p.node).book.length),.mv 2],af (o.dn p.node),ai (o.dn p.node),.rw 60 11 ((o.aG p.node)),.rw 62 4 ((o.aH p.node))])]),(5,[(7,.b false)])] 4 [0,1,2,3,4,5,6,7] [0,3,4,5,6] r (by kernel_rfl) (U (oN o k v p.node (by first | omega | exact hz)) (U ((dX (v.dn p.node (by omega)).lk (by have:=iO v.ok (x:=p.node) (by assumption);omega)):b5 Tryz.prog 3 ((.i .i64 (p.node))::List.map (fun (e:Nat×MK×DV)=>e.2.1) (aY (o.dn p.node).ls))) (U ((iq (jH v p.node)):∀ zz ∈ (aY (o.dn p.node).ls:List (Nat×MK×DV)),zz.2.1≠.i .i64 (p.node)) trivial))) fun ac wd r=>?_
      have r:=r.cast (M':=[.bx 70 [.z ((o.ae p).self.node),.u ((o.ae p).self.inc),.d (.ro 1 (ints (o.ae p).homes)),.n ((o.ae p).n),.sl 1 ((o.ae p).book.length),.mv 2],af (o.ae p),ai (o.ae p),.bx 24 [.z p.node,.u p.inc],.bx 46 [aj,aj,aj],.rw 60 11 ((o.aG p.node)),.rw 62 4 ((o.aH p.node)),.bx 46 [.sl 5 ((o.aG p.node).length),aj,.sl 6 ((o.aH p.node).length)]]) rfl (by rw [qt];rfl)
      cases h8:((o.ae p).sv) with
      | false=>
       exact absurd h8 (by rw [k6];simp)
      | true=>
       have gn:=((by have k:=fk (o.ae p);rw [h8] at k;exact k):aL Tryz.prog 23 [.pt 0 0] [.bx 70 [.z ((o.ae p).self.node),.u ((o.ae p).self.inc),.d (.ro 1 (ints (o.ae p).homes)),.n ((o.ae p).n),.sl 1 ((o.ae p).book.length),.mv 2],af (o.ae p),ai (o.ae p)] (aU) [.bx 70 [.z ((o.ae p).self.node),.u ((o.ae p).self.inc),.d (.ro 1 (ints (o.ae p).homes)),.n ((o.ae p).n),.sl 1 ((o.ae p).book.length),.mv 2],af (o.ae p),ai (o.ae p)])
       cases h9:((o.ae p).cA p.node) with
       | false=>
        refine ch (todo':=aft Tryz.f7 8) (E':=[(0,.pt 0 0),(3,.pt 3 0),(4,.pt 4 0),(5,.d (.ro 2 (procs o.rc))),(6,.pt 7 0),(63,aZ)]) (M':=[.bx 70 [.z ((o.ae p).self.node),.u ((o.ae p).self.inc),.d (.ro 1 (ints (o.ae p).homes)),.n ((o.ae p).n),.sl 1 ((o.ae p).book.length),.mv 2],af (o.ae p),ai (o.ae p),.bx 24 [.z p.node,.u p.inc],.bx 46 [aj,aj,aj],.rw 60 11 ((o.aG p.node)),.rw 62 4 ((o.aH p.node)),.bx 46 [.sl 5 ((o.aG p.node).length),aj,.sl 6 ((o.aH p.node).length)]]) tk tq hK aB [(7,[(1,.mem [0,1,2] (aU) [.bx 70 [.z ((o.ae p).self.node),.u ((o.ae p).self.inc),.d (.ro 1 (ints (o.ae p).homes)),.n ((o.ae p).n),.sl 1 ((o.ae p).book.length),.mv 2],af (o.ae p),ai (o.ae p)])]),(8,[(3,.mem [0,1,2] (aZ) [.bx 70 [.z ((o.ae p).self.node),.u ((o.ae p).self.inc),.d (.ro 1 (ints (o.ae p).homes)),.n ((o.ae p).n),.sl 1 ((o.ae p).book.length),.mv 2],af (o.ae p),ai (o.ae p)])])] 7 [0,1,2,3,4,5,6,7] [0,3,4,5,6,63] r (by kernel_rfl) (U gn (U ((by have k:=e6 (o.ae p) p.node;rw [h9] at k;exact k):aL Tryz.prog 19 [.pt 0 0,.z p.node] [.bx 70 [.z ((o.ae p).self.node),.u ((o.ae p).self.inc),.d (.ro 1 (ints (o.ae p).homes)),.n ((o.ae p).n),.sl 1 ((o.ae p).book.length),.mv 2],af (o.ae p),ai (o.ae p)] (aZ) [.bx 70 [.z ((o.ae p).self.node),.u ((o.ae p).self.inc),.d (.ro 1 (ints (o.ae p).homes)),.n ((o.ae p).n),.sl 1 ((o.ae p).book.length),.mv 2],af (o.ae p),ai (o.ae p)]) trivial)) fun ac wd r=>?_
        have c8:(o.ae p).nw.Inv (k+2):=bg.nw (by assumption) (by omega)
        refine bB (y:=.ag [.sl 3 (((o.aG p.node)).length),aj,.sl 4 (((o.ae p).bu o.rc ((o.aH p.node)++[[.z 2,.z p.node,.u p.inc,.v (.slice none 0 0)]])).length)]) (N':=[.bx 70 [.z ((o.ae p).self.node),.u ((o.ae p).self.inc),.d (.ro 1 (ints (o.ae p).homes)),.n ((o.ae p).n),.sl 1 ((o.ae p).book.length),.mv 2],af (o.ae p),ai (o.ae p),.rw 60 11 ((o.aG p.node)),.rw 62 4 (((o.ae p).bu o.rc ((o.aH p.node)++[[.z 2,.z p.node,.u p.inc,.v (.slice none 0 0)]])))]) ((by first | rfl | (simp;done))) (rfl) ?_
        exact bC tk tq hK rfl aB [(10,[(3,.mem [0,1,2,5,6] (.ag [.sl 3 (((o.aG p.node)).length),aj,.sl 5 (((o.ae p).bu o.rc ((o.aH p.node)++[[.z 2,.z p.node,.u p.inc,.v (.slice none 0 0)]])).length)]) [.bx 70 [.z ((o.ae p).self.node),.u ((o.ae p).self.inc),.d (.ro 1 (ints (o.ae p).homes)),.n ((o.ae p).n),.sl 1 ((o.ae p).book.length),.mv 2],af (o.ae p),ai (o.ae p),.rw 60 11 ((o.aG p.node)),.dead,.rw 62 4 (((o.ae p).bu o.rc ((o.aH p.node)++[[.z 2,.z p.node,.u p.inc,.v (.slice none 0 0)]])))])])] 2000 [0,1,2,5,9] r (by kernel_rfl) (U ((by first | rfl | (simp;done) | (simp<;>omega)):((o.aH p.node).length)=((o.aH p.node):List (List DV)).length) (U ((by first | rfl | (simp;done) | (simp<;>omega)):(1)=([[.z 2,.z p.node,.u p.inc,.v (.slice none 0 0)]]:List (List DV)).length) (U ((by first | omega | (simp;omega) | (have:=eu o p.node;omega) | (have:=ij v p.node;have:=fp (o:=(o.ae p)) (z:=p.node) (by have:=eX bg.bk;omega) (o.ae p).bs;have:=fX bg;omega)):(2*(((o.aH p.node).length)+(1))+0)*48≤281474976710656) (U ((by first | omega | (simp;omega) | (have:=eu o p.node;omega) | (have:=ij v p.node;have:=fp (o:=(o.ae p)) (z:=p.node) (by have:=eX bg.bk;omega) (o.ae p).bs;have:=fX bg;omega)):((o.aH p.node).length)+(1)<4611686018427387904) (U ((by first | exact j8 _ _ | exact np _ _ _ | (simp [bA,AV.one,cd];done)):bA ([[.z 2,.z p.node,.u p.inc,.v (.slice none 0 0)]])) (U (kh (o.ae p) (k+1) bg o.rc ((o.aG p.node)) ((o.aH p.node)++[[.z 2,.z p.node,.u p.inc,.v (.slice none 0 0)]]) (by have:=eu o p.node;first | omega | (simp;omega)) _ _ (by first | rfl | (simp;done)) (by first | rfl | (simp;done)):aL Tryz.prog 25 [.pt 0 0,.ag [.sl 3 ((o.aG p.node).length),aj,.sl 4 ((o.aH p.node).length+(1))],.d (.ro 2 (procs o.rc))] [.bx 70 [.z ((o.ae p).self.node),.u ((o.ae p).self.inc),.d (.ro 1 (ints (o.ae p).homes)),.n ((o.ae p).n),.sl 1 ((o.ae p).book.length),.mv 2],af (o.ae p),ai (o.ae p),.rw 60 11 ((o.aG p.node)),.rw 62 4 ((o.aH p.node)++[[.z 2,.z p.node,.u p.inc,.v (.slice none 0 0)]])] (.ag [.sl 3 (((o.aG p.node)).length),aj,.sl 5 (((o.ae p).bu o.rc ((o.aH p.node)++[[.z 2,.z p.node,.u p.inc,.v (.slice none 0 0)]])).length)]) [.bx 70 [.z ((o.ae p).self.node),.u ((o.ae p).self.inc),.d (.ro 1 (ints (o.ae p).homes)),.n ((o.ae p).n),.sl 1 ((o.ae p).book.length),.mv 2],af (o.ae p),ai (o.ae p),.rw 60 11 ((o.aG p.node)),.dead,.rw 62 4 (((o.ae p).bu o.rc ((o.aH p.node)++[[.z 2,.z p.node,.u p.inc,.v (.slice none 0 0)]])))]) trivial))))))
       | true=>
        exact absurd h9 (by rw [pD];simp)
     | true=>
      have gE:=of_decide_eq_true h7
      exact absurd (show o.cF p=true from by unfold Ov.cF;simp only [h0,h3,h7,Bool.not_true,Bool.not_false,Bool.true_or,Bool.or_true,Bool.false_or,Bool.or_false,cond_true,cond_false];first | done | (simp;omega)) (by rw [cY];simp)
   | true=>
    have b7:=of_decide_eq_true h2
    exact absurd (show o.cF p=true from by unfold Ov.cF;simp only [h0,Bool.not_true,Bool.not_false,Bool.true_or,Bool.or_true,Bool.false_or,Bool.or_false,cond_true,cond_false];first | done | (simp;omega)) (by rw [cY];simp)
  | true=>
   have bN:=eq_of_beq h1
   exact absurd (show o.cF p=true from by unfold Ov.cF;simp only [h0,Bool.not_true,Bool.not_false,Bool.true_or,Bool.or_true,Bool.false_or,Bool.or_false,cond_true,cond_false];first | done | (simp;omega)) (by rw [cY];simp)
end Go.Proofs.YtlinpknagdgphaaGreat
namespace Go.Proofs.YtlinpknagdgphaaGreat
open Go.RowKit
def qQ (p:bJ) (z:Int) (hs:List Hd):List DV:=[.z p.kind,.z p.src.node,.u p.src.inc,.z z,.ro 4 (al hs),.em 5 1 (bc p.body),.z 0,.v (.int .u64 0),.v (.int .u64 0),.v (.slice none 0 0)]
def Ov.bf (o:Ov) (l:List Hd):List Hd:=l.filter fun h=>!decide (h.dst=o.self.node)
def Ov.bV (o:Ov) (p:bJ) (l:List Hd):List (List DV):=(l.filter fun h=>decide (h.dst=o.self.node)).map fun h=>qQ p p.cn [h]
theorem nq (o:Ov) (l:List Hd):(o.bf l).length≤l.length:=List.length_filter_le _ _
theorem p9 (o:Ov) (p:bJ) (l:List Hd):(o.bV p l).length≤l.length:=by unfold Ov.bV;rw [List.length_map];exact List.length_filter_le _ _
theorem we {o:Ov} {l:List Hd} {i:Nat} {h:Hd} (g:l[i]?=some h) (e:h.dst=o.self.node):o.bf (l.take (i+1))=o.bf (l.take i):=by
 unfold Ov.bf;rw [List.take_add_one,g,Option.toList_some,List.filter_append];simp [e]
theorem qu {o:Ov} {l:List Hd} {i:Nat} {h:Hd} (g:l[i]?=some h) (e:h.dst≠o.self.node):o.bf (l.take (i+1))=o.bf (l.take i)++[h]:=by
 unfold Ov.bf;rw [List.take_add_one,g,Option.toList_some,List.filter_append];simp [e]
theorem E4 {o:Ov} {p:bJ} {l:List Hd} {i:Nat} {h:Hd} (g:l[i]?=some h) (e:h.dst=o.self.node):o.bV p (l.take (i+1))=o.bV p (l.take i)++[qQ p p.cn [h]]:=by
 unfold Ov.bV;rw [List.take_add_one,g,Option.toList_some,List.filter_append,List.map_append];simp [e]
theorem FY {o:Ov} {p:bJ} {l:List Hd} {i:Nat} {h:Hd} (g:l[i]?=some h) (e:h.dst≠o.self.node):o.bV p (l.take (i+1))=o.bV p (l.take i):=by
 unfold Ov.bV;rw [List.take_add_one,g,Option.toList_some,List.filter_append,List.map_append];simp [e]
def kW (p:bJ) (l:List (Nat×Int×List Hd)) (ks:List Int):List (List DV):=ks.map fun z=>.v (.int .i64 z)::qQ p (p.cn-1) (jq l z)
theorem NA {p:bJ} {l:List (Nat×Int×List Hd)} {ks:List Int} {i:Nat} {z:Int} (h:ks[i]?=some z):kW p l (ks.take (i+1))=kW p l (ks.take i)++[.v (.int .i64 z)::qQ p (p.cn-1) (jq l z)]:=by
 unfold kW;rw [List.take_add_one,h];simp
theorem e7 (p:bJ) (l:List (Nat×Int×List Hd)) (ks:List Int):(kW p l ks).length=ks.length:=by unfold kW;rw [List.length_map]
theorem OY {l:List (Nat×Int×List Hd)} {ks:List Int} {i:Nat} {z:Int} (h:ks[i]?=some z):(fu l ks)[i]?=some [.v (.int .i64 z),.ro 4 (al (jq l z))]:=by unfold fu;rw [List.getElem?_map,h];rfl
theorem LK (h:Hd):cg [[.v (.int .i64 h.dst),.v (.int .u64 (h.conn:Int)),.v (.int .u64 (h.seq:Int)),.v (.int .u64 (h.inc:Int))]]=al [h]:=rfl
theorem Ej (l:List Hd) (h:Hd):al l++[[.v (.int .i64 h.dst),.v (.int .u64 (h.conn:Int)),.v (.int .u64 (h.seq:Int)),.v (.int .u64 (h.inc:Int))]]=al (l++[h]):=by unfold al;rw [List.map_append];rfl
set_option maxRecDepth 100000 in
theorem GK (p:bJ) (z:Int) (hs:List Hd) (hb:p.body.length≤1073741823):aD Tryz.prog 40 [.ag (bE p),.z z,.d (.ro 4 (al hs))] (DV.ag (qQ p z hs)):=by
 refine aD.intro (by kernel_rfl) rfl rfl 17 rfl rfl fun w0 K ac hK r=>?_
 rw [show (DV.ag (qQ p z hs):DV)=.ag [.z p.kind,.z p.src.node,.u p.src.inc,.z z,.ro 4 (al hs),.em 5 1 (bc p.body),.z 0,.v (.int .u64 0),.v (.int .u64 0),.v (.slice none 0 0)] from rfl]
 exact aQ tk tq hK rfl [(1,[(8,.aJ (.em 5 1 (bc p.body)))])] 2000 r (by kernel_rfl) (U (J0 p.body (by omega)) (U (cQ ((bc p.body).length)) trivial))
theorem PW (o:Ov) (k:Nat) (v:o.Inv k) (hs:List Hd) (cD:hs.length≤12) (n:Nat) (hn:n=hs.length):aL Tryz.prog 41 [.sl 3 n,.fm 42 [.pt 0 0]] [ao o 1 2,af o,ai o,.rw 58 4 (al hs)] (.sl 4 (o.ks hs).length) (ef o++[.rw 58 4 (al hs),.rw 88 2 (fu (o.bn [] hs) (o.ks hs))]):=by
 subst hn;exact ON o v.ok v.lk (by have:=eX v.bk;omega) (fun x hx=>by have:=v.bk.nU x hx;omega) hs cD
noncomputable def Ov.fh (o:Ov) (p:bJ):List (List DV):=if 0<p.cn then kW p (o.bn [] (o.bf p.al)) (o.ks (o.bf p.al)) else []
set_option maxRecDepth 100000 in
theorem Aq (o:Ov) (k:Nat) (v:o.Inv k) (p:bJ) (cD:p.al.length≤10) (hb:p.body.length≤320) (hq:p.cn≤8):aL Tryz.prog 27 [.pt 0 0,.ag (bE p)] [ao o 1 2,af o,ai o] (.ag [.sl 3 (o.fh p).length,.sl 4 (o.bV p p.al).length,aj]) (ef o++[.rw 60 11 (o.fh p),.rw 33 10 (o.bV p p.al)]):=by
 have b6:=v.ok.s1
 have dL:(o.bn [] (o.bf p.al)).length≤(o.bf p.al).length:=by have:=(sD v.ok (o.bf p.al) (o.bf p.al).length (Nat.le_refl _)).2;rwa [List.take_length] at this
 have nV:=nq o p.al
 have j1:=dE o (o.bf p.al)
 refine aL.intro (by kernel_rfl) rfl rfl 71 rfl rfl fun D w0 K bs ac wd hK (aB:bs.m=3) r=>?_
 refine b8 (todo':=hd Tryz.f27 0) (E':=[(0,.pt 0 0),(3,.pt 3 0),(4,.pt 4 0),(5,.pt 5 0),(12,.d (.ro 4 (al p.al))),(13,.n p.al.length),(14,.z 0),(6,aj)]) (M':=[ao o 1 2,af o,ai o,.bx 33 (bE p),.bx 46 [aj,aj,aj],.bx 46 [aj,aj,aj]]) tk tq hK aB [(3,[(2,.z (((p.al.length:Nat):Int)))])] 2000 [0,1,2,3,4,5] [0,3,4,5,12,13,14,6] r (by kernel_rfl) (U ((by first | rfl | (simp [cb,dA];done)):(((al p.al).length:Nat):Int)=((p.al.length:Nat):Int)) trivial) fun ac wd r=>?_
 refine aN.rounds (Φ:=fun (i:Nat) ac wd=>(i≤p.al.length)∧RB D w0 K 71 bs [(0,.pt 0 0),(3,.pt 3 0),(4,.pt 4 0),(5,.pt 5 0),(12,.d (.ro 4 (al p.al))),(13,.n p.al.length),(14,.n i),(6,.sl 6 ((o.bf (p.al.take i)).length))] [ao o 1 2,af o,ai o,.bx 33 (bE p),.bx 46 [aj,aj,aj],.bx 46 [aj,.sl 7 ((o.bV p (p.al.take i)).length),aj],.rw 58 4 (al (o.bf (p.al.take i))),.rw 33 10 (o.bV p (p.al.take i))] ac wd) (p.al.length) ?_ (Nat.zero_le _) ⟨(Nat.zero_le _),(r.gW (M1:=[ao o 1 2,af o,ai o,.bx 33 (bE p),.bx 46 [aj,aj,aj],.bx 46 [aj,aj,aj],.rw 58 4 []]) [(6,58,4)] [(5,1,33,10)] (by kernel_rfl) (by kernel_rfl)).cast rfl rfl⟩
 clear r
 rintro i cI bo ac wd ⟨aM,r⟩
 cases h0:(decide ((((i:Nat):Int):Int)<((p.al.length:Nat):Int))) with
 | false=>
  have bH:=of_decide_eq_false h0
  cases h1:(decide ((0:Int)<p.cn)) with
  | false=>
   have bN:=of_decide_eq_false h1
   refine ch (todo':=aft Tryz.f27 10) (E':=[(0,.pt 0 0),(3,.pt 3 0),(4,.pt 4 0),(5,.pt 5 0),(6,.sl 6 ((o.bf (p.al.take i)).length)),(44,aZ)]) (M':=[ao o 1 2,af o,ai o,.bx 33 (bE p),.bx 46 [aj,aj,aj],.bx 46 [aj,.sl 7 ((o.bV p (p.al.take i)).length),aj],.rw 58 4 (al (o.bf (p.al.take i))),.rw 33 10 (o.bV p (p.al.take i))]) tk tq hK aB [(4,[(0,.b false)]),(10,[(2,.b false)])] 8 [0,1,2,3,4,5,6,7] [0,3,4,5,6,44] r (by kernel_rfl) (U h0 (U h1 trivial)) fun ac wd r=>?_
   have r:=r.cast (E':=[(0,.pt 0 0),(3,.pt 3 0),(4,.pt 4 0),(5,.pt 5 0),(6,.sl 6 ((o.bf p.al).length)),(44,aZ)]) (M':=[ao o 1 2,af o,ai o,.bx 33 (bE p),.bx 46 [aj,aj,aj],.bx 46 [aj,.sl 7 ((o.bV p p.al).length),aj],.rw 58 4 (al (o.bf p.al)),.rw 33 10 (o.bV p p.al)]) (by rw [show List.take i p.al=p.al from List.take_of_length_le (by omega)]) (by rw [show List.take i p.al=p.al from List.take_of_length_le (by omega)])
   refine ch (todo':=aft Tryz.f27 16) (E':=[(4,.pt 4 0)]) (M':=[ao o 1 2,af o,ai o,.bx 33 (bE p),.bx 46 [aj,.sl 7 ((o.bV p p.al).length),aj],.bx 46 [aj,.sl 7 ((o.bV p p.al).length),aj],.rw 58 4 (al (o.bf p.al)),.rw 33 10 (o.bV p p.al)]) tk tq hK aB [] 4 [0,1,2,3,4,5,6,7] [4] r (by kernel_rfl) trivial fun ac wd r=>?_
   have r:=r.gW (E1:=[(4,.pt 4 0)]) (M1:=[ao o 1 2,af o,ai o,.bx 33 (bE p),.bx 46 [aj,.sl 7 ((o.bV p p.al).length),aj],.bx 46 [aj,.sl 7 ((o.bV p p.al).length),aj],.rw 58 4 (al (o.bf p.al)),.rw 33 10 (o.bV p p.al)]) (M2:=[ao o 1 2,af o,ai o,.bx 33 (bE p),.bx 46 [.sl 8 (0),.sl 7 ((o.bV p p.al).length),aj],.bx 46 [aj,.sl 7 ((o.bV p p.al).length),aj],.rw 58 4 (al (o.bf p.al)),.rw 33 10 (o.bV p p.al),.rw 60 11 ([])]) [] [(4,0,60,11)] (by kernel_rfl) (by kernel_rfl)
   refine bB (y:=.ag [.sl 3 (0),.sl 4 ((o.bV p p.al).length),aj]) (N':=[ao o 1 2,af o,ai o,.rw 60 11 ([]),.rw 33 10 (o.bV p p.al)]) ((by unfold Ov.fh;first | (rw [if_pos (by omega),e7,show i=(o.ks (o.bf p.al)).length by omega];done) | (rw [if_neg (by omega)];rfl))) ((by unfold Ov.fh;first | (rw [if_pos (by omega),List.take_of_length_le (by omega)];rfl) | (rw [if_neg (by omega)];rfl))) ?_
   exact bC tk tq hK rfl aB [] 2000 [0,1,2,8,7] r (by kernel_rfl) trivial
  | true=>
   have bN:=of_decide_eq_true h1
   refine ch (todo':=aft Tryz.f27 10) (E':=[(0,.pt 0 0),(3,.pt 3 0),(4,.pt 4 0),(5,.pt 5 0),(6,.sl 6 ((o.bf (p.al.take i)).length)),(44,aU)]) (M':=[ao o 1 2,af o,ai o,.bx 33 (bE p),.bx 46 [aj,aj,aj],.bx 46 [aj,.sl 7 ((o.bV p (p.al.take i)).length),aj],.rw 58 4 (al (o.bf (p.al.take i))),.rw 33 10 (o.bV p (p.al.take i))]) tk tq hK aB [(4,[(0,.b false)]),(10,[(2,.b true)])] 8 [0,1,2,3,4,5,6,7] [0,3,4,5,6,44] r (by kernel_rfl) (U h0 (U h1 trivial)) fun ac wd r=>?_
   have r:=r.cast (E':=[(0,.pt 0 0),(3,.pt 3 0),(4,.pt 4 0),(5,.pt 5 0),(6,.sl 6 ((o.bf p.al).length)),(44,aU)]) (M':=[ao o 1 2,af o,ai o,.bx 33 (bE p),.bx 46 [aj,aj,aj],.bx 46 [aj,.sl 7 ((o.bV p p.al).length),aj],.rw 58 4 (al (o.bf p.al)),.rw 33 10 (o.bV p p.al)]) (by rw [show List.take i p.al=p.al from List.take_of_length_le (by omega)]) (by rw [show List.take i p.al=p.al from List.take_of_length_le (by omega)])
   refine b8 (todo':=hd Tryz.f27 1) (E':=[(0,.pt 0 0),(3,.pt 3 0),(4,.pt 4 0),(5,.pt 5 0),(48,.sl 6 ((o.ks (o.bf p.al)).length)),(49,.n ((o.ks (o.bf p.al)).length)),(50,.z 0)]) (M':=[ao o 1 2,af o,ai o,.bx 33 (bE p),.bx 46 [aj,aj,aj],.bx 46 [aj,.sl 7 ((o.bV p p.al).length),aj],.rw 88 2 (fu (o.bn [] (o.bf p.al)) (o.ks (o.bf p.al))),.rw 33 10 (o.bV p p.al)]) tk tq hK aB [(11,[(3,.mem [0,1,2,6] (.sl 4 ((o.ks (o.bf p.al)).length)) [ao o 1 2,af o,ai o,.rw 58 4 (al (o.bf p.al)),.rw 88 2 (fu (o.bn [] (o.bf p.al)) (o.ks (o.bf p.al)))])])] 2000 [0,1,2,3,4,5,8,7] [0,3,4,5,48,49,50] r (by kernel_rfl) (U (PW o k v (o.bf p.al) (by have:=nq o p.al;omega) _ (by first | rfl | (simp;done)):aL Tryz.prog 41 [.sl 3 ((o.bf p.al).length),.fm 42 [.pt 0 0]] [ao o 1 2,af o,ai o,.rw 58 4 (al (o.bf p.al))] (.sl 4 ((o.ks (o.bf p.al)).length)) [ao o 1 2,af o,ai o,.rw 58 4 (al (o.bf p.al)),.rw 88 2 (fu (o.bn [] (o.bf p.al)) (o.ks (o.bf p.al)))]) trivial) fun ac wd r=>?_
   refine aN.rounds (Φ:=fun (i:Nat) ac wd=>(i≤(o.ks (o.bf p.al)).length)∧RB D w0 K 71 bs [(0,.pt 0 0),(3,.pt 3 0),(4,.pt 4 0),(5,.pt 5 0),(48,.sl 6 ((o.ks (o.bf p.al)).length)),(49,.n ((o.ks (o.bf p.al)).length)),(50,.n i)] [ao o 1 2,af o,ai o,.bx 33 (bE p),.bx 46 [aj,aj,aj],.bx 46 [.sl 8 (i),.sl 7 ((o.bV p p.al).length),aj],.rw 88 2 (fu (o.bn [] (o.bf p.al)) (o.ks (o.bf p.al))),.rw 33 10 (o.bV p p.al),.rw 60 11 (kW p (o.bn [] (o.bf p.al)) (List.take i (o.ks (o.bf p.al))))] ac wd) ((o.ks (o.bf p.al)).length) ?_ (Nat.zero_le _) ⟨(Nat.zero_le _),(r.gW (E1:=[(0,.pt 0 0),(3,.pt 3 0),(4,.pt 4 0),(5,.pt 5 0),(48,.sl 6 ((o.ks (o.bf p.al)).length)),(49,.n ((o.ks (o.bf p.al)).length)),(50,.z 0)]) (M2:=[ao o 1 2,af o,ai o,.bx 33 (bE p),.bx 46 [aj,aj,aj],.bx 46 [.sl 8 (0),.sl 7 ((o.bV p p.al).length),aj],.rw 88 2 (fu (o.bn [] (o.bf p.al)) (o.ks (o.bf p.al))),.rw 33 10 (o.bV p p.al),.rw 60 11 ([])]) (M1:=[ao o 1 2,af o,ai o,.bx 33 (bE p),.bx 46 [aj,aj,aj],.bx 46 [aj,.sl 7 ((o.bV p p.al).length),aj],.rw 88 2 (fu (o.bn [] (o.bf p.al)) (o.ks (o.bf p.al))),.rw 33 10 (o.bV p p.al)]) [] [(5,0,60,11)] (by kernel_rfl) (by kernel_rfl)).cast rfl rfl⟩
   clear r
   rintro i eS fV ac wd ⟨bg,r⟩
   cases h2:(decide ((((i:Nat):Int):Int)<(((o.ks (o.bf p.al)).length:Nat):Int))) with
   | false=>
    have b7:=of_decide_eq_false h2
    refine ch (todo':=aft Tryz.f27 16) (E':=[(4,.pt 4 0)]) (M':=[ao o 1 2,af o,ai o,.bx 33 (bE p),.bx 46 [.sl 8 (i),.sl 7 ((o.bV p p.al).length),aj],.bx 46 [.sl 8 (i),.sl 7 ((o.bV p p.al).length),aj],.rw 88 2 (fu (o.bn [] (o.bf p.al)) (o.ks (o.bf p.al))),.rw 33 10 (o.bV p p.al),.rw 60 11 (kW p (o.bn [] (o.bf p.al)) (List.take i (o.ks (o.bf p.al))))]) tk tq hK aB [(12,[(0,.b false)])] 7 [0,1,2,3,4,5,6,7,8] [4] r (by kernel_rfl) (U h2 trivial) fun ac wd r=>?_
    refine bB (y:=.ag [.sl 3 (i),.sl 4 ((o.bV p p.al).length),aj]) (N':=[ao o 1 2,af o,ai o,.rw 60 11 (kW p (o.bn [] (o.bf p.al)) (List.take i (o.ks (o.bf p.al)))),.rw 33 10 (o.bV p p.al)]) ((by unfold Ov.fh;first | (rw [if_pos (by omega),e7,show i=(o.ks (o.bf p.al)).length by omega];done) | (rw [if_neg (by omega)];rfl))) ((by unfold Ov.fh;first | (rw [if_pos (by omega),List.take_of_length_le (by omega)];rfl) | (rw [if_neg (by omega)];rfl))) ?_
    exact bC tk tq hK rfl aB [] 2000 [0,1,2,8,7] r (by kernel_rfl) trivial
   | true=>
    have b7:=of_decide_eq_true h2
    obtain ⟨kz,gk⟩:∃ x,(o.ks (o.bf p.al))[i]?=some x:=⟨_,List.getElem?_eq_getElem (by omega)⟩
    exact b8 (todo':=hd Tryz.f27 1) (E':=[(0,.pt 0 0),(3,.pt 3 0),(4,.pt 4 0),(5,.pt 5 0),(48,.sl 6 ((o.ks (o.bf p.al)).length)),(49,.n ((o.ks (o.bf p.al)).length)),(50,.n (i+1))]) (M':=[ao o 1 2,af o,ai o,.bx 33 (bE p),.bx 46 [aj,aj,aj],.bx 46 [.sl 8 (i+(1)),.sl 7 ((o.bV p p.al).length),aj],.rw 88 2 (fu (o.bn [] (o.bf p.al)) (o.ks (o.bf p.al))),.rw 33 10 (o.bV p p.al),.rw 60 11 (kW p (o.bn [] (o.bf p.al)) (List.take i (o.ks (o.bf p.al)))++[[.z kz,.z p.kind,.z p.src.node,.u p.src.inc,.z (p.cn-1),.ro 4 (al (jq (o.bn [] (o.bf p.al)) kz)),.em 5 1 (bc p.body),.z 0,.v (.int .u64 0),.v (.int .u64 0),.v (.slice none 0 0)]])]) tk tq hK aB [(12,[(0,.b true)]),(13,[(0,.n (i)),(1,.ix 0 [.z kz,.ro 4 (al (jq (o.bn [] (o.bf p.al)) kz))])]),(14,[(7,.z (p.cn-1)),(10,.aJ (.ag [.z p.kind,.z p.src.node,.u p.src.inc,.z (p.cn-1),.ro 4 (al (jq (o.bn [] (o.bf p.al)) kz)),.em 5 1 (bc p.body),.z 0,.v (.int .u64 0),.v (.int .u64 0),.v (.slice none 0 0)]))]),(15,[(0,.z (((i+1:Nat):Int)))])] 2000 [0,1,2,3,4,5,6,7,8] [0,3,4,5,48,49,50] r (by kernel_rfl) (U h2 (U (aX ((i:Nat):Int)) (U ((by first | omega | decide | (simp;omega)):(i)<((o.ks (o.bf p.al)).length)) (U ((by first | rfl | (simp [cb,dA,e7];done) | (simp [cb,dA,e7]<;>omega)):((o.ks (o.bf p.al)).length)≤(fu (o.bn [] (o.bf p.al)) (o.ks (o.bf p.al)):List (List DV)).length) (U ((OY (l:=(o.bn [] (o.bf p.al))) gk):(fu (o.bn [] (o.bf p.al)) (o.ks (o.bf p.al)))[i]?=some [.z kz,.ro 4 (al (jq (o.bn [] (o.bf p.al)) kz))]) (U ((wi (by omega)):IntKind.i64.wrap ((p.cn:Int)-1)=p.cn-1) (U (GK p (p.cn-1) (jq (o.bn [] (o.bf p.al)) kz) (by omega)) (U (cQ ((bc p.body).length)) (U ((by first | rfl | (simp [cb,dA,e7];done) | (simp [cb,dA,e7]<;>omega)):(i)=(kW p (o.bn [] (o.bf p.al)) (List.take i (o.ks (o.bf p.al))):List (List DV)).length) (U ((by first | rfl | (simp [cb,dA,e7];done) | (simp [cb,dA,e7]<;>omega)):(1)=([[.z kz,.z p.kind,.z p.src.node,.u p.src.inc,.z (p.cn-1),.ro 4 (al (jq (o.bn [] (o.bf p.al)) kz)),.em 5 1 (bc p.body),.z 0,.v (.int .u64 0),.v (.int .u64 0),.v (.slice none 0 0)]]:List (List DV)).length) (U ((by first | omega | (simp;omega) | (have:=nq o (p.al.take i);have:=p9 o p (p.al.take i);simp at *;omega) | (have:=dE o (o.bf p.al);have:=dL;have:=e7 p (o.bn [] (o.bf p.al)) (List.take i (o.ks (o.bf p.al)));simp at *;omega)):(2*((i)+(1))+0)*136≤281474976710656) (U ((by first | omega | (simp;omega) | (have:=nq o (p.al.take i);have:=p9 o p (p.al.take i);simp at *;omega) | (have:=dE o (o.bf p.al);have:=dL;have:=e7 p (o.bn [] (o.bf p.al)) (List.take i (o.ks (o.bf p.al)));simp at *;omega)):(i)+(1)<4611686018427387904) (U ((by simp [bA,AV.one,cd]):bA ([[.z kz,.z p.kind,.z p.src.node,.u p.src.inc,.z (p.cn-1),.ro 4 (al (jq (o.bn [] (o.bf p.al)) kz)),.em 5 1 (bc p.body),.z 0,.v (.int .u64 0),.v (.int .u64 0),.v (.slice none 0 0)]])) (U ((wi (by omega)):IntKind.i64.wrap ((((i:Nat):Int):Int)+1)=((i+1:Nat):Int)) trivial)))))))))))))) fun ac wd r=>fV (by omega) ac wd ⟨(by omega),r.cast rfl (by rw [NA gk];rfl)⟩
 | true=>
  have bH:=of_decide_eq_true h0
  obtain ⟨hx,gh⟩:∃ x,p.al[i]?=some x:=⟨_,List.getElem?_eq_getElem (by omega)⟩
  cases h3:((hx.dst:Int)==o.self.node) with
  | false=>
   have eV:=ne_of_beq_false h3
   exact b8 (todo':=hd Tryz.f27 0) (E':=[(0,.pt 0 0),(3,.pt 3 0),(4,.pt 4 0),(5,.pt 5 0),(12,.d (.ro 4 (al p.al))),(13,.n p.al.length),(14,.n (i+1)),(6,.sl 6 ((o.bf (p.al.take i)).length+(1)))]) (M':=[ao o 1 2,af o,ai o,.bx 33 (bE p),.bx 46 [aj,aj,aj],.bx 46 [aj,.sl 7 ((o.bV p (p.al.take i)).length),aj],.rw 58 4 (al (o.bf (p.al.take i))++[[.z hx.dst,.u hx.conn,.u hx.seq,.u hx.inc]]),.rw 33 10 (o.bV p (p.al.take i))]) tk tq hK aB [(4,[(0,.b true)]),(5,[(0,.ix (i) [.z hx.dst,.u hx.conn,.u hx.seq,.u hx.inc])]),(6,[(7,.b false)]),(9,[(0,.z (((i+1:Nat):Int)))])] 2000 [0,1,2,3,4,5,6,7] [0,3,4,5,12,13,14,6] r (by kernel_rfl) (U h0 (U (aX ((i:Nat):Int)) (U (fS gh) (U h3 (U ((by first | rfl | (simp [cb,dA,e7];done) | (simp [cb,dA,e7]<;>omega)):((o.bf (p.al.take i)).length)=(al (o.bf (p.al.take i)):List (List DV)).length) (U ((by first | rfl | (simp [cb,dA,e7];done) | (simp [cb,dA,e7]<;>omega)):(1)=([[.z hx.dst,.u hx.conn,.u hx.seq,.u hx.inc]]:List (List DV)).length) (U ((by first | omega | (simp;omega) | (have:=nq o (p.al.take i);have:=p9 o p (p.al.take i);simp at *;omega) | (have:=dE o (o.bf p.al);have:=dL;have:=e7 p (o.bn [] (o.bf p.al)) (List.take i (o.ks (o.bf p.al)));simp at *;omega)):(2*(((o.bf (p.al.take i)).length)+(1))+0)*32≤281474976710656) (U ((by first | omega | (simp;omega) | (have:=nq o (p.al.take i);have:=p9 o p (p.al.take i);simp at *;omega) | (have:=dE o (o.bf p.al);have:=dL;have:=e7 p (o.bn [] (o.bf p.al)) (List.take i (o.ks (o.bf p.al)));simp at *;omega)):((o.bf (p.al.take i)).length)+(1)<4611686018427387904) (U ((by simp [bA,AV.one,cd]):bA ([[.z hx.dst,.u hx.conn,.u hx.seq,.u hx.inc]])) (U ((wi (by omega)):IntKind.i64.wrap ((((i:Nat):Int):Int)+1)=((i+1:Nat):Int)) trivial)))))))))) fun ac wd r=>bo (by omega) ac wd ⟨(by omega),r.cast (by first | (rw [we gh (by omega)];done) | (rw [qu gh (by omega)];simp;done) | (rw [qu gh (by omega),List.length_append];rfl)) (by first | (rw [we gh (by omega),E4 gh (by omega),List.length_append];rfl) | (rw [qu gh (by omega),FY gh (by omega),← Ej];done))⟩
  | true=>
   have eV:=eq_of_beq h3
   exact b8 (todo':=hd Tryz.f27 0) (E':=[(0,.pt 0 0),(3,.pt 3 0),(4,.pt 4 0),(5,.pt 5 0),(12,.d (.ro 4 (al p.al))),(13,.n p.al.length),(14,.n (i+1)),(6,.sl 6 ((o.bf (p.al.take i)).length))]) (M':=[ao o 1 2,af o,ai o,.bx 33 (bE p),.bx 46 [aj,aj,aj],.bx 46 [aj,.sl 7 ((o.bV p (p.al.take i)).length+(1)),aj],.rw 58 4 (al (o.bf (p.al.take i))),.rw 33 10 (o.bV p (p.al.take i)++[[.z p.kind,.z p.src.node,.u p.src.inc,.z p.cn,.ro 4 (al [hx]),.em 5 1 (bc p.body),.z 0,.v (.int .u64 0),.v (.int .u64 0),.v (.slice none 0 0)]])]) tk tq hK aB [(4,[(0,.b true)]),(5,[(0,.ix (i) [.z hx.dst,.u hx.conn,.u hx.seq,.u hx.inc])]),(6,[(7,.b true)]),(7,[(7,.stay [.ag (bE p),.z p.cn,.d (.ro 4 (al [hx]))] (.ag [.z p.kind,.z p.src.node,.u p.src.inc,.z p.cn,.ro 4 (al [hx]),.em 5 1 (bc p.body),.z 0,.v (.int .u64 0),.v (.int .u64 0),.v (.slice none 0 0)]))]),(9,[(0,.z (((i+1:Nat):Int)))])] 2000 [0,1,2,3,4,5,6,7] [0,3,4,5,12,13,14,6] r (by kernel_rfl) (U h0 (U (aX ((i:Nat):Int)) (U (fS gh) (U h3 (U (GK p p.cn [hx] (by omega)) (U (cN (.z p.kind)) (U (cN (.z p.src.node)) (U (cN (.u p.src.inc)) (U (cN (.z p.cn)) (U (cN (.ro 4 (al p.al))) (U (cN (.ro 1 (bc p.body))) (U (cN (.z p.ad.server.node)) (U (cN (.u p.ad.server.inc)) (U (cN (.u p.ad.seq)) (U (cN (.ro 2 (procs p.ad.ay))) (U (cN (.z p.cn)) (U (cQ (4)) (U ((by first | rfl | (simp [cb,dA,e7];done) | (simp [cb,dA,e7]<;>omega)):(1)=([[.z hx.dst,.u hx.conn,.u hx.seq,.u hx.inc]]:List (List DV)).length) (U ((LK _):cg ([[.z hx.dst,.u hx.conn,.u hx.seq,.u hx.inc]])=al [hx]) (U (cQ ((bc p.body).length)) (U ((by first | rfl | (simp [cb,dA,e7];done) | (simp [cb,dA,e7]<;>omega)):((o.bV p (p.al.take i)).length)=(o.bV p (p.al.take i):List (List DV)).length) (U ((by first | rfl | (simp [cb,dA,e7];done) | (simp [cb,dA,e7]<;>omega)):(1)=([[.z p.kind,.z p.src.node,.u p.src.inc,.z p.cn,.ro 4 (al [hx]),.em 5 1 (bc p.body),.z 0,.v (.int .u64 0),.v (.int .u64 0),.v (.slice none 0 0)]]:List (List DV)).length) (U ((by first | omega | (simp;omega) | (have:=nq o (p.al.take i);have:=p9 o p (p.al.take i);simp at *;omega) | (have:=dE o (o.bf p.al);have:=dL;have:=e7 p (o.bn [] (o.bf p.al)) (List.take i (o.ks (o.bf p.al)));simp at *;omega)):(2*(((o.bV p (p.al.take i)).length)+(1))+0)*128≤281474976710656) (U ((by first | omega | (simp;omega) | (have:=nq o (p.al.take i);have:=p9 o p (p.al.take i);simp at *;omega) | (have:=dE o (o.bf p.al);have:=dL;have:=e7 p (o.bn [] (o.bf p.al)) (List.take i (o.ks (o.bf p.al)));simp at *;omega)):((o.bV p (p.al.take i)).length)+(1)<4611686018427387904) (U ((by simp [bA,AV.one,cd]):bA ([[.z p.kind,.z p.src.node,.u p.src.inc,.z p.cn,.ro 4 (al [hx]),.em 5 1 (bc p.body),.z 0,.v (.int .u64 0),.v (.int .u64 0),.v (.slice none 0 0)]])) (U ((wi (by omega)):IntKind.i64.wrap ((((i:Nat):Int):Int)+1)=((i+1:Nat):Int)) trivial)))))))))))))))))))))))))) fun ac wd r=>bo (by omega) ac wd ⟨(by omega),r.cast (by first | (rw [we gh (by omega)];done) | (rw [qu gh (by omega)];simp;done) | (rw [qu gh (by omega),List.length_append];rfl)) (by first | (rw [we gh (by omega),E4 gh (by omega),List.length_append];rfl) | (rw [qu gh (by omega),FY gh (by omega),← Ej];done))⟩
end Go.Proofs.YtlinpknagdgphaaGreat
namespace Go.Proofs.YtlinpknagdgphaaGreat
open Go.RowKit
set_option maxRecDepth 100000 in
theorem PX (o:Ov) (k:Nat) (v:o.Inv k) (p:bJ) (dm:p.al.length≤9223372036854775807) (cH:p.body.length≤9223372036854775807) (c9:p.ad.ay.length≤9223372036854775807):aL Tryz.prog 10 [.pt 0 0,.ag (bE p)] [ao o 1 2,af o,ai o] (.ag [.d .jk,.d .jk,.d .jk]) (ef o):=by
 have b6:=v.ok.s1
 refine aL.intro (by kernel_rfl) rfl rfl 31 rfl rfl fun D w0 K bs ac wd hK (aB:bs.m=3) r=>?_
 cases h0:(p.may) with
 | false=>
  refine ch (todo':=aft Tryz.f10 2) (E':=[(0,.pt 0 0),(3,.pt 3 0),(4,.pt 4 0)]) (M':=[ao o 1 2,af o,ai o,.bx 33 (bE p),.bx 46 [aj,aj,aj]]) tk tq hK aB [(1,[(1,.mem [0,1,2] (aU) [ao o 1 2,af o,ai o]),(5,.aJ (.v (.bool false)))])] 8 [0,1,2,3,4] [0,3,4] r (by kernel_rfl) (U (dr o b6) (U ((by have k:=nF p dm cH c9;rw [h0] at k;exact k):aD Tryz.prog 26 [.ag (bE p)] (.v (.bool false))) trivial)) fun ac wd r=>?_
  have r:=r.eU 4 (M2:=[ao o 1 2,af o,ai o,.bx 33 (bE p),.bx 46 [.d (.jk),.d (.jk),.d (.jk)]]) rfl rfl
  refine bB (y:=.ag [.d (.jk),.d (.jk),.d (.jk)]) (N':=[ao o 1 2,af o,ai o]) (rfl) (rfl) ?_
  exact bC tk tq hK rfl aB [] 2000 [0,1,2] r (by kernel_rfl) trivial
 | true=>
  have iR:p.may=true:=by assumption
  have bd:=((by have k:=nF p dm cH c9;rw [h0] at k;exact k):aD Tryz.prog 26 [.ag (bE p)] (.v (.bool true)))
  cases h1:((p.kind:Int)==1) with
  | false=>
   have bN:=ne_of_beq_false h1
   cases h2:(decide (p.src=o.self)) with
   | false=>
    have b7:=of_decide_eq_false h2
    refine ch (todo':=aft Tryz.f10 2) (E':=[(0,.pt 0 0),(3,.pt 3 0),(4,.pt 4 0)]) (M':=[ao o 1 2,af o,ai o,.bx 33 (bE p),.bx 46 [aj,aj,aj]]) tk tq hK aB [(1,[(1,.mem [0,1,2] (aU) [ao o 1 2,af o,ai o]),(5,.aJ (.v (.bool true))),(11,.b false),(20,.b false)])] 8 [0,1,2,3,4] [0,3,4] r (by kernel_rfl) (U (dr o b6) (U bd (U h1 (U ((ez (eN _ _) h2):dK Tryz.prog 24 [(.int .i64 (p.src.node)),(.int .u64 (((p.src.inc:Nat):Int)))] [(.int .i64 (o.self.node)),(.int .u64 (((o.self.inc:Nat):Int)))] false) trivial)))) fun ac wd r=>?_
    have r:=r.eU 4 (M2:=[ao o 1 2,af o,ai o,.bx 33 (bE p),.bx 46 [.d (.jk),.d (.jk),.d (.jk)]]) rfl rfl
    refine bB (y:=.ag [.d (.jk),.d (.jk),.d (.jk)]) (N':=[ao o 1 2,af o,ai o]) (rfl) (rfl) ?_
    exact bC tk tq hK rfl aB [] 2000 [0,1,2] r (by kernel_rfl) trivial
   | true=>
    have b7:=of_decide_eq_true h2
    refine ch (todo':=aft Tryz.f10 3) (E':=[(4,.pt 4 0)]) (M':=[ao o 1 2,af o,ai o,.bx 33 (bE p),.bx 46 [.sl 5 ((o.fh p).length),.sl 6 ((o.bV p p.al).length),aj],.rw 60 11 ((o.fh p)),.rw 33 10 ((o.bV p p.al))]) tk tq hK aB [(1,[(1,.mem [0,1,2] (aU) [ao o 1 2,af o,ai o]),(5,.aJ (.v (.bool true))),(11,.b false),(20,.b true)]),(3,[(2,.mem [0,1,2] (.ag [.sl 3 ((o.fh p).length),.sl 4 ((o.bV p p.al).length),aj]) [ao o 1 2,af o,ai o,.rw 60 11 ((o.fh p)),.rw 33 10 ((o.bV p p.al))])])] 9 [0,1,2,3,4,5,6] [4] r (by kernel_rfl) (U (dr o b6) (U bd (U h1 (U ((ez (eN _ _) h2):dK Tryz.prog 24 [(.int .i64 (p.src.node)),(.int .u64 (((p.src.inc:Nat):Int)))] [(.int .i64 (o.self.node)),(.int .u64 (((o.self.inc:Nat):Int)))] true) (U (Aq o k v p (qs iR).1 (qs iR).2 (by rcases r5 iR with h | h | h;omega;exact h.2.1.2.2.1;exact h.2.1.2.2.1)) trivial))))) fun ac wd r=>?_
    have r:=r.eU 4 (M2:=[ao o 1 2,af o,ai o,.bx 33 (bE p),.bx 46 [.d (.jk),.d (.jk),.d (.jk)],.rw 60 11 ((o.fh p)),.rw 33 10 ((o.bV p p.al))]) rfl rfl
    refine bB (y:=.ag [.d (.jk),.d (.jk),.d (.jk)]) (N':=[ao o 1 2,af o,ai o]) (rfl) (rfl) ?_
    exact bC tk tq hK rfl aB [] 2000 [0,1,2] r (by kernel_rfl) trivial
  | true=>
   have bN:=eq_of_beq h1
   refine ch (todo':=aft Tryz.f10 2) (E':=[(0,.pt 0 0),(3,.pt 3 0),(4,.pt 4 0)]) (M':=[ao o 1 2,af o,ai o,.bx 33 (bE p),.bx 46 [aj,aj,aj]]) tk tq hK aB [(1,[(1,.mem [0,1,2] (aU) [ao o 1 2,af o,ai o]),(5,.aJ (.v (.bool true))),(11,.b true)])] 8 [0,1,2,3,4] [0,3,4] r (by kernel_rfl) (U (dr o b6) (U bd (U h1 trivial))) fun ac wd r=>?_
   have r:=r.eU 4 (M2:=[ao o 1 2,af o,ai o,.bx 33 (bE p),.bx 46 [.d (.jk),.d (.jk),.d (.jk)]]) rfl rfl
   refine bB (y:=.ag [.d (.jk),.d (.jk),.d (.jk)]) (N':=[ao o 1 2,af o,ai o]) (rfl) (rfl) ?_
   exact bC tk tq hK rfl aB [] 2000 [0,1,2] r (by kernel_rfl) trivial
def Ov.gH (o:Ov) (l:List ah):List (List DV):=l.flatMap fun q=>dB q.node o.book
theorem OZ {o:Ov} {l:List ah} {i:Nat} {q:ah} (h:l[i]?=some q):o.gH (l.take (i+1))=o.gH (l.take i)++dB q.node o.book:=by
 unfold Ov.gH;rw [List.take_add_one,h];simp
theorem Ar {o:Ov} (hb:o.book.length≤100):∀ l:List ah,(o.gH l).length≤100*l.length
 | []=>by simp [Ov.gH]
 | q::l=>by
  have:=Ar hb l
  unfold Ov.gH at this ⊢
  rw [List.flatMap_cons,List.length_append,List.length_cons,iL];omega
set_option maxRecDepth 100000 in
theorem O0 (o:Ov) (k:Nat) (v:o.Inv k):aL Tryz.prog 11 [.pt 0 0] [ao o 1 2,af o,ai o] (.ag [.d .jk,.d .jk,.d .jk]) (ef o):=by
 have b6:=v.ok.s1
 have CS:o.book.length≤100:=by have:=eX v.bk;omega
 have IJ:∀ a ∈ o.book,a.ay.length≤100:=fun x hx=>by have:=v.bk.nU x hx;omega
 have lX:=fX v
 refine aL.intro (by kernel_rfl) rfl rfl 32 rfl rfl fun D w0 K bs ac wd hK (aB:bs.m=3) r=>?_
 cases h0:(o.sv) with
 | false=>
  refine ch (todo':=aft Tryz.f11 3) (E':=[(0,.pt 0 0),(2,.pt 3 0),(3,.pt 4 0)]) (M':=[ao o 1 2,af o,ai o,.bx 46 [aj,aj,aj],.bx 46 [aj,aj,aj]]) tk tq hK aB [(2,[(1,.mem [0,1,2] (aU) [ao o 1 2,af o,ai o]),(5,.mem [0,1,2] (aZ) [ao o 1 2,af o,ai o])])] 10 [0,1,2,3,4] [0,2,3] r (by kernel_rfl) (U (dr o b6) (U ((by have k:=fk o;rw [h0] at k;exact k):aL Tryz.prog 23 [.pt 0 0] [ao o 1 2,af o,ai o] (aZ) [ao o 1 2,af o,ai o]) trivial)) fun ac wd r=>?_
  have r:=r.eU 3 (M2:=[ao o 1 2,af o,ai o,.bx 46 [.d (.jk),.d (.jk),.d (.jk)],.bx 46 [aj,aj,aj]]) rfl rfl
  refine bB (y:=.ag [.d (.jk),.d (.jk),.d (.jk)]) (N':=[ao o 1 2,af o,ai o]) (rfl) (rfl) ?_
  exact bC tk tq hK rfl aB [] 2000 [0,1,2] r (by kernel_rfl) trivial
 | true=>
  refine b8 (todo':=hd Tryz.f11 0) (E':=[(0,.pt 0 0),(2,.pt 3 0),(3,.pt 4 0),(16,.d (.ro 2 (procs o.bs))),(17,.n o.bs.length),(18,.z 0)]) (M':=[ao o 1 2,af o,ai o,.bx 46 [aj,aj,aj],.bx 46 [aj,aj,aj]]) tk tq hK aB [(2,[(1,.mem [0,1,2] (aU) [ao o 1 2,af o,ai o]),(5,.mem [0,1,2] (aU) [ao o 1 2,af o,ai o])]),(4,[(1,.mem [0,1,2] (.d (.ro 2 (procs o.bs))) [ao o 1 2,af o,ai o]),(2,.z (((o.bs.length:Nat):Int)))])] 2000 [0,1,2,3,4] [0,2,3,16,17,18] r (by kernel_rfl) (U (dr o b6) (U ((by have k:=fk o;rw [h0] at k;exact k):aL Tryz.prog 23 [.pt 0 0] [ao o 1 2,af o,ai o] (aU) [ao o 1 2,af o,ai o]) (U (yN o b6 v.lk) (U ((by first | rfl | (simp;done)):(((procs o.bs).length:Nat):Int)=((o.bs.length:Nat):Int)) trivial)))) fun ac wd r=>?_
  refine aN.rounds (Φ:=fun (i:Nat) ac wd=>(i≤o.bs.length)∧RB D w0 K 32 bs [(0,.pt 0 0),(2,.pt 3 0),(3,.pt 4 0),(16,.d (.ro 2 (procs o.bs))),(17,.n o.bs.length),(18,.n i)] [ao o 1 2,af o,ai o,.bx 46 [aj,aj,aj],.bx 46 [.sl 5 ((o.gH (o.bs.take i)).length),aj,aj],.rw 60 11 (o.gH (o.bs.take i))] ac wd) (o.bs.length) ?_ (Nat.zero_le _) ⟨(Nat.zero_le _),(r.gW (E1:=[(0,.pt 0 0),(2,.pt 3 0),(3,.pt 4 0),(16,.d (.ro 2 (procs o.bs))),(17,.n o.bs.length),(18,.z 0)]) (M2:=[ao o 1 2,af o,ai o,.bx 46 [aj,aj,aj],.bx 46 [.sl 5 (0),aj,aj],.rw 60 11 ([])]) (M1:=[ao o 1 2,af o,ai o,.bx 46 [aj,aj,aj],.bx 46 [aj,aj,aj]]) [] [(4,0,60,11)] (by kernel_rfl) (by kernel_rfl)).cast rfl rfl⟩
  clear r
  rintro i cI bo ac wd ⟨aM,r⟩
  cases h1:(decide ((((i:Nat):Int):Int)<((o.bs.length:Nat):Int))) with
  | false=>
   have bN:=of_decide_eq_false h1
   refine ch (todo':=aft Tryz.f11 9) (E':=[(2,.pt 3 0)]) (M':=[ao o 1 2,af o,ai o,.bx 46 [.sl 5 ((o.gH (o.bs.take i)).length),aj,aj],.bx 46 [.sl 5 ((o.gH (o.bs.take i)).length),aj,aj],.rw 60 11 (o.gH (o.bs.take i))]) tk tq hK aB [(5,[(0,.b false)])] 7 [0,1,2,3,4,5] [2] r (by kernel_rfl) (U h1 trivial) fun ac wd r=>?_
   have r:=r.eU 3 (M2:=[ao o 1 2,af o,ai o,.bx 46 [.d (.jk),.d (.jk),.d (.jk)],.bx 46 [.sl 5 ((o.gH (o.bs.take i)).length),aj,aj],.rw 60 11 (o.gH (o.bs.take i))]) rfl rfl
   refine bB (y:=.ag [.d (.jk),.d (.jk),.d (.jk)]) (N':=[ao o 1 2,af o,ai o]) (rfl) (rfl) ?_
   exact bC tk tq hK rfl aB [] 2000 [0,1,2] r (by kernel_rfl) trivial
  | true=>
   have bN:=of_decide_eq_true h1
   obtain ⟨dz,l7⟩:∃ x,o.bs[i]?=some x:=⟨_,List.getElem?_eq_getElem (by omega)⟩
   exact b8 (todo':=hd Tryz.f11 0) (E':=[(0,.pt 0 0),(2,.pt 3 0),(3,.pt 4 0),(16,.d (.ro 2 (procs o.bs))),(17,.n o.bs.length),(18,.n (i+1))]) (M':=[ao o 1 2,af o,ai o,.bx 46 [aj,aj,aj],.bx 46 [.sl 5 ((o.gH (o.bs.take i)).length+((dB dz.node o.book).length)),aj,aj],.rw 60 11 (o.gH (o.bs.take i)++(dB dz.node o.book))]) tk tq hK aB [(5,[(0,.b true)]),(6,[(0,.ix (i) [.z dz.node,.u dz.inc])]),(7,[(5,.mem [0,1,2] (.sl 3 ((dB dz.node o.book).length)) [ao o 1 2,af o,ai o,.rw 60 11 (dB dz.node o.book)])]),(8,[(0,.z (((i+1:Nat):Int)))])] 2000 [0,1,2,3,4,5] [0,2,3,16,17,18] r (by kernel_rfl) (U h1 (U (aX ((i:Nat):Int)) (U (cK l7) (U (G8 o dz.node CS IJ) (U ((by first | rfl | (simp;done) | (simp<;>omega)):((o.gH (o.bs.take i)).length)=(o.gH (o.bs.take i):List (List DV)).length) (U ((by first | rfl | (simp;done) | (simp<;>omega)):((dB dz.node o.book).length)=(dB dz.node o.book:List (List DV)).length) (U ((by first | omega | (simp;omega) | (have:=Ar CS (List.take i o.bs);have:=iL dz.node o.book;simp at *;omega)):(2*(((o.gH (o.bs.take i)).length)+((dB dz.node o.book).length))+0)*136≤281474976710656) (U ((by first | omega | (simp;omega) | (have:=Ar CS (List.take i o.bs);have:=iL dz.node o.book;simp at *;omega)):((o.gH (o.bs.take i)).length)+((dB dz.node o.book).length)<4611686018427387904) (U ((j8 _ _):bA (dB dz.node o.book)) (U ((wi (by omega)):IntKind.i64.wrap ((((i:Nat):Int):Int)+1)=((i+1:Nat):Int)) trivial)))))))))) fun ac wd r=>bo (by omega) ac wd ⟨(by omega),r.cast rfl (by rw [OZ l7,List.length_append])⟩
end Go.Proofs.YtlinpknagdgphaaGreat
namespace Go.Proofs.YtlinpknagdgphaaGreat
open Go.RowKit
def bY (l:List Int):Nat:=(l.takeWhile fun x=>decide (x=0)).length
def dc (l:List Int):Bool:=decide (l.length≤10∧1≤bY l∧bY l≤4)&&(l.drop (bY l)).all fun x=>decide (1≤x∧x≤(bY l:Int))
theorem zB:∀ {l:List Int} {i:Nat},(∀ (j:Nat) x,j<i→l[j]?=some x→x=0)→i≤l.length→(∀ x,l[i]?=some x→x≠0)→bY l=i
 | [],i,_,h2,_=>by simp at h2;subst h2;rfl
 | a::l,0,_,_,h3=>by
  have:=h3 a rfl
  unfold bY;rw [List.takeWhile_cons,if_neg (by simpa using this)];rfl
 | a::l,i+1,h1,h2,h3=>by
  have h0:=h1 0 a (by omega) rfl
  have:=zB (l:=l) (i:=i) (fun j x hj hx=>h1 (j+1) x (by omega) (by simpa using hx)) (by simpa using h2) (fun x hx=>h3 x (by simpa using hx))
  unfold bY at this ⊢
  rw [List.takeWhile_cons,if_pos (by simpa using h0),List.length_cons,this]
theorem eY {l:List Int} {i:Nat} (hn:bY l=i) (h1:l.length≤10∧1≤i∧i≤4) (h:∀ (j:Nat) x,j<l.length-i→l[i+j]?=some x→1≤x∧x≤(i:Int)):dc l=true:=by
 unfold dc
 rw [hn,decide_eq_true h1,Bool.true_and,List.all_eq_true]
 intro x hx
 obtain ⟨j,hj,rfl⟩:=List.getElem_of_mem hx
 rw [List.length_drop] at hj
 exact decide_eq_true (h j _ hj (by rw [List.getElem_drop];exact List.getElem?_eq_getElem (by omega)))
theorem eZ {l:List Int} {i:Nat} (hn:bY l=i) (h1:¬ (l.length≤10∧1≤i∧i≤4)):dc l=false:=by
 unfold dc
 rw [hn,decide_eq_false h1];rfl
theorem e5 {l:List Int} {i j:Nat} {x:Int} (hn:bY l=i) (g:l[i+j]?=some x) (h:¬ (1≤x∧x≤(i:Int))):dc l=false:=by
 unfold dc
 rw [hn,Bool.and_eq_false_iff]
 right
 rw [List.all_eq_false]
 exact ⟨x,List.mem_of_getElem? (i:=j) (by rw [List.getElem?_drop];exact g),by simpa using h⟩
theorem qa {l:List Int} {i j:Nat} {x:Int} (g:l[i+j]?=some x):(List.drop i (ints l))[j]?=some [.v (.int .i64 x)]:=by rw [List.getElem?_drop];exact fT g
theorem ko {a b:Nat} {c d:Bool} (h1:a=b) (h2:c=d):(DV.tu [.v (.int .i64 (a:Int)),.v (.bool c)])=.tu [.v (.int .i64 (b:Int)),.v (.bool d)]:=by rw [h1,h2]
set_option maxRecDepth 100000 in
theorem uU (homes:List Int) (hl:homes.length≤1000):aD Tryz.prog 16 [.d (.ro 1 (ints homes))] (DV.tu [.v (.int .i64 (((bif dc homes then bY homes else 0):Nat):Int)),.v (.bool (dc homes))]):=by
 refine aD.intro (by kernel_rfl) rfl rfl 48 rfl rfl fun w0 K ac hK r=>?_
 refine bU (todo':=hd Tryz.f16 0) (E':=[(0,.d (.ro 1 (ints homes))),(2,.z 0),(3,aZ),(4,.n 0)]) (M':=[]) tk tq hK [] 2000 [] [0,2,3,4] r (by kernel_rfl) trivial fun ac wd r=>?_
 refine aN.rounds (Φ:=fun (i:Nat) ac wd=>(i≤homes.length∧∀ (j:Nat) x,j<i→homes[j]?=some x→x=0)∧ec [] w0 K 48 [(0,.d (.ro 1 (ints homes))),(2,.z 0),(3,aZ),(4,.n i)] [] ac wd) (homes.length) ?_ (Nat.zero_le _) ⟨⟨Nat.zero_le _,fun j x h=>absurd h (Nat.not_lt_zero _)⟩,r⟩
 clear r
 rintro i cI bo ac wd ⟨aM,r⟩
 have bd:=((by first | rfl | (simp;done)):(((ints homes).length:Nat):Int)=((homes.length:Nat):Int))
 cases h0:(decide ((((i:Nat):Int):Int)<((homes.length:Nat):Int))) with
 | false=>
  have bH:=of_decide_eq_false h0
  have aT:bY homes=i:=zB aM.2 (by omega) fun x hx=>by rw [List.getElem?_eq_none (by omega)] at hx;cases hx
  cases h1:(decide ((10:Int)<((homes.length:Nat):Int))) with
  | false=>
   have bN:=of_decide_eq_false h1
   cases h2:(decide ((((i:Nat):Int):Int)<1)) with
   | false=>
    have b7:=of_decide_eq_false h2
    cases h3:(decide ((4:Int)<((i:Nat):Int))) with
    | false=>
     have eV:=of_decide_eq_false h3
     refine bU (todo':=hd Tryz.f16 1) (E':=[(2,.z 0),(3,aZ),(4,.n i),(33,.d (.ro 1 (List.drop (i) (ints homes)))),(34,.n ((homes.length-i))),(35,.n 0)]) (M':=[]) tk tq hK [(2,[(2,.z (((homes.length:Nat):Int))),(3,.b false)]),(4,[(1,.z (((homes.length:Nat):Int))),(2,.b false),(5,.b false),(9,.b false)]),(6,[(2,.n2 (0) (i)),(3,.z ((((homes.length-i):Nat):Int)))])] 2000 [] [2,3,4,33,34,35] r (by kernel_rfl) (U bd (U h0 (U bd (U h1 (U h2 (U h3 (U (aX ((i:Nat):Int)) (U ((by simp;omega):(i)≤(ints homes).length) (U ((by first | rfl | (simp;done)):(((List.drop (i) (ints homes)).length:Nat):Int)=(((homes.length-i):Nat):Int)) trivial))))))))) fun ac wd r=>?_
     refine aN.rounds (Φ:=fun (j:Nat) ac wd=>(j≤homes.length-i∧∀ (m:Nat) x,m<j→homes[i+m]?=some x→1≤x∧x≤(i:Int))∧ec [] w0 K 48 [(2,.z 0),(3,aZ),(4,.n i),(33,.d (.ro 1 (List.drop (i) (ints homes)))),(34,.n ((homes.length-i))),(35,.n j)] [] ac wd) ((homes.length-i)) ?_ (Nat.zero_le _) ⟨⟨Nat.zero_le _,fun j x h=>absurd h (Nat.not_lt_zero _)⟩,r⟩
     clear r
     rintro j eS fV ac wd ⟨bg,r⟩
     cases h4:(decide ((((j:Nat):Int):Int)<(((homes.length-i):Nat):Int))) with
     | false=>
      have eA:=of_decide_eq_false h4
      rw [show (DV.tu [.v (.int .i64 (((bif dc homes then bY homes else 0):Nat):Int)),.v (.bool (dc homes))]:DV)=.tu [.n i,.v (.bool true)] from (ko (by first | (rw [eZ aT (by omega)];rfl) | (rw [e5 aT gy (by omega)];rfl) | (rw [eY aT (by omega) fun j x hj=>bg.2 j x (by omega)];exact aT)) (by first | rw [eZ aT (by omega)] | rw [e5 aT gy (by omega)] | rw [eY aT (by omega) fun j x hj=>bg.2 j x (by omega)]))]
      exact aQ tk tq hK rfl [(7,[(0,.b false)])] 2000 r (by kernel_rfl) (U h4 trivial)
     | true=>
      have eA:=of_decide_eq_true h4
      obtain ⟨y,gy⟩:∃ x,homes[i+j]?=some x:=⟨_,List.getElem?_eq_getElem (by omega)⟩
      cases h5:(decide ((y:Int)<1)) with
      | false=>
       have ib:=of_decide_eq_false h5
       cases h6:(decide ((((i:Nat):Int):Int)<y)) with
       | false=>
        have lr:=of_decide_eq_false h6
        exact bU (todo':=hd Tryz.f16 1) tk tq hK [(7,[(0,.b true)]),(8,[(0,.ix (j) [.z y])]),(9,[(1,.b false),(5,.b false)]),(11,[(0,.z (((j+1:Nat):Int)))])] 2000 [] [2,3,4,33,34,35] r (by kernel_rfl) (U h4 (U (aX ((j:Nat):Int)) (U (qa gy) (U h5 (U h6 (U ((wi (by omega)):IntKind.i64.wrap ((((j:Nat):Int):Int)+1)=((j+1:Nat):Int)) trivial)))))) fun ac wd r=>fV (by omega) ac wd ⟨⟨by omega,fun m x hm hx=>by rcases Nat.lt_succ_iff_lt_or_eq.1 hm with h | rfl;exact bg.2 m x h hx;rw [gy] at hx;cases hx;omega⟩,r⟩
       | true=>
        have lr:=of_decide_eq_true h6
        rw [show (DV.tu [.v (.int .i64 (((bif dc homes then bY homes else 0):Nat):Int)),.v (.bool (dc homes))]:DV)=.tu [.z 0,.v (.bool false)] from (ko (by first | (rw [eZ aT (by omega)];rfl) | (rw [e5 aT gy (by omega)];rfl) | (rw [eY aT (by omega) fun j x hj=>bg.2 j x (by omega)];exact aT)) (by first | rw [eZ aT (by omega)] | rw [e5 aT gy (by omega)] | rw [eY aT (by omega) fun j x hj=>bg.2 j x (by omega)]))]
        exact aQ tk tq hK rfl [(7,[(0,.b true)]),(8,[(0,.ix (j) [.z y])]),(9,[(1,.b false),(5,.b true)])] 2000 r (by kernel_rfl) (U h4 (U (aX ((j:Nat):Int)) (U (qa gy) (U h5 (U h6 trivial)))))
      | true=>
       have ib:=of_decide_eq_true h5
       rw [show (DV.tu [.v (.int .i64 (((bif dc homes then bY homes else 0):Nat):Int)),.v (.bool (dc homes))]:DV)=.tu [.z 0,.v (.bool false)] from (ko (by first | (rw [eZ aT (by omega)];rfl) | (rw [e5 aT gy (by omega)];rfl) | (rw [eY aT (by omega) fun j x hj=>bg.2 j x (by omega)];exact aT)) (by first | rw [eZ aT (by omega)] | rw [e5 aT gy (by omega)] | rw [eY aT (by omega) fun j x hj=>bg.2 j x (by omega)]))]
       exact aQ tk tq hK rfl [(7,[(0,.b true)]),(8,[(0,.ix (j) [.z y])]),(9,[(1,.b true)])] 2000 r (by kernel_rfl) (U h4 (U (aX ((j:Nat):Int)) (U (qa gy) (U h5 trivial))))
    | true=>
     have eV:=of_decide_eq_true h3
     rw [show (DV.tu [.v (.int .i64 (((bif dc homes then bY homes else 0):Nat):Int)),.v (.bool (dc homes))]:DV)=.tu [.z 0,.v (.bool false)] from (ko (by first | (rw [eZ aT (by omega)];rfl) | (rw [e5 aT gy (by omega)];rfl) | (rw [eY aT (by omega) fun j x hj=>bg.2 j x (by omega)];exact aT)) (by first | rw [eZ aT (by omega)] | rw [e5 aT gy (by omega)] | rw [eY aT (by omega) fun j x hj=>bg.2 j x (by omega)]))]
     exact aQ tk tq hK rfl [(2,[(2,.z (((homes.length:Nat):Int))),(3,.b false)]),(4,[(1,.z (((homes.length:Nat):Int))),(2,.b false),(5,.b false),(9,.b true)])] 2000 r (by kernel_rfl) (U bd (U h0 (U bd (U h1 (U h2 (U h3 trivial))))))
   | true=>
    have b7:=of_decide_eq_true h2
    rw [show (DV.tu [.v (.int .i64 (((bif dc homes then bY homes else 0):Nat):Int)),.v (.bool (dc homes))]:DV)=.tu [.z 0,.v (.bool false)] from (ko (by first | (rw [eZ aT (by omega)];rfl) | (rw [e5 aT gy (by omega)];rfl) | (rw [eY aT (by omega) fun j x hj=>bg.2 j x (by omega)];exact aT)) (by first | rw [eZ aT (by omega)] | rw [e5 aT gy (by omega)] | rw [eY aT (by omega) fun j x hj=>bg.2 j x (by omega)]))]
    exact aQ tk tq hK rfl [(2,[(2,.z (((homes.length:Nat):Int))),(3,.b false)]),(4,[(1,.z (((homes.length:Nat):Int))),(2,.b false),(5,.b true)])] 2000 r (by kernel_rfl) (U bd (U h0 (U bd (U h1 (U h2 trivial)))))
  | true=>
   have bN:=of_decide_eq_true h1
   rw [show (DV.tu [.v (.int .i64 (((bif dc homes then bY homes else 0):Nat):Int)),.v (.bool (dc homes))]:DV)=.tu [.z 0,.v (.bool false)] from (ko (by first | (rw [eZ aT (by omega)];rfl) | (rw [e5 aT gy (by omega)];rfl) | (rw [eY aT (by omega) fun j x hj=>bg.2 j x (by omega)];exact aT)) (by first | rw [eZ aT (by omega)] | rw [e5 aT gy (by omega)] | rw [eY aT (by omega) fun j x hj=>bg.2 j x (by omega)]))]
   exact aQ tk tq hK rfl [(2,[(2,.z (((homes.length:Nat):Int))),(3,.b false)]),(4,[(1,.z (((homes.length:Nat):Int))),(2,.b true)])] 2000 r (by kernel_rfl) (U bd (U h0 (U bd (U h1 trivial))))
 | true=>
  have bH:=of_decide_eq_true h0
  obtain ⟨pX,ox⟩:∃ x,homes[i]?=some x:=⟨_,List.getElem?_eq_getElem (by omega)⟩
  cases h7:((pX:Int)==0) with
  | false=>
   have gE:=ne_of_beq_false h7
   have aT:bY homes=i:=zB aM.2 (by omega) fun x hx=>by rw [ox] at hx;cases hx;omega
   cases h8:(decide ((10:Int)<((homes.length:Nat):Int))) with
   | false=>
    have lq:=of_decide_eq_false h8
    cases h9:(decide ((((i:Nat):Int):Int)<1)) with
    | false=>
     have uv:=of_decide_eq_false h9
     cases cD:(decide ((4:Int)<((i:Nat):Int))) with
     | false=>
      have o9:=of_decide_eq_false cD
      refine bU (todo':=hd Tryz.f16 1) (E':=[(2,.z 0),(3,aZ),(4,.n i),(33,.d (.ro 1 (List.drop (i) (ints homes)))),(34,.n ((homes.length-i))),(35,.n 0)]) (M':=[]) tk tq hK [(2,[(2,.z (((homes.length:Nat):Int))),(3,.b true),(7,.ix (i) [.z pX]),(9,.b false)]),(4,[(1,.z (((homes.length:Nat):Int))),(2,.b false),(5,.b false),(9,.b false)]),(6,[(2,.n2 (0) (i)),(3,.z ((((homes.length-i):Nat):Int)))])] 2000 [] [2,3,4,33,34,35] r (by kernel_rfl) (U bd (U h0 (U (aX ((i:Nat):Int)) (U (fT ox) (U h7 (U bd (U h8 (U h9 (U cD (U (aX ((i:Nat):Int)) (U ((by simp;omega):(i)≤(ints homes).length) (U ((by first | rfl | (simp;done)):(((List.drop (i) (ints homes)).length:Nat):Int)=(((homes.length-i):Nat):Int)) trivial)))))))))))) fun ac wd r=>?_
      refine aN.rounds (Φ:=fun (j:Nat) ac wd=>(j≤homes.length-i∧∀ (m:Nat) x,m<j→homes[i+m]?=some x→1≤x∧x≤(i:Int))∧ec [] w0 K 48 [(2,.z 0),(3,aZ),(4,.n i),(33,.d (.ro 1 (List.drop (i) (ints homes)))),(34,.n ((homes.length-i))),(35,.n j)] [] ac wd) ((homes.length-i)) ?_ (Nat.zero_le _) ⟨⟨Nat.zero_le _,fun j x h=>absurd h (Nat.not_lt_zero _)⟩,r⟩
      clear r
      rintro j eS fV ac wd ⟨bg,r⟩
      cases et:(decide ((((j:Nat):Int):Int)<(((homes.length-i):Nat):Int))) with
      | false=>
       have tl:=of_decide_eq_false et
       rw [show (DV.tu [.v (.int .i64 (((bif dc homes then bY homes else 0):Nat):Int)),.v (.bool (dc homes))]:DV)=.tu [.n i,.v (.bool true)] from (ko (by first | (rw [eZ aT (by omega)];rfl) | (rw [e5 aT gy (by omega)];rfl) | (rw [eY aT (by omega) fun j x hj=>bg.2 j x (by omega)];exact aT)) (by first | rw [eZ aT (by omega)] | rw [e5 aT gy (by omega)] | rw [eY aT (by omega) fun j x hj=>bg.2 j x (by omega)]))]
       exact aQ tk tq hK rfl [(7,[(0,.b false)])] 2000 r (by kernel_rfl) (U et trivial)
      | true=>
       have tl:=of_decide_eq_true et
       obtain ⟨y,gy⟩:∃ x,homes[i+j]?=some x:=⟨_,List.getElem?_eq_getElem (by omega)⟩
       cases jw:(decide ((y:Int)<1)) with
       | false=>
        have B0:=of_decide_eq_false jw
        cases m5:(decide ((((i:Nat):Int):Int)<y)) with
        | false=>
         have B1:=of_decide_eq_false m5
         exact bU (todo':=hd Tryz.f16 1) tk tq hK [(7,[(0,.b true)]),(8,[(0,.ix (j) [.z y])]),(9,[(1,.b false),(5,.b false)]),(11,[(0,.z (((j+1:Nat):Int)))])] 2000 [] [2,3,4,33,34,35] r (by kernel_rfl) (U et (U (aX ((j:Nat):Int)) (U (qa gy) (U jw (U m5 (U ((wi (by omega)):IntKind.i64.wrap ((((j:Nat):Int):Int)+1)=((j+1:Nat):Int)) trivial)))))) fun ac wd r=>fV (by omega) ac wd ⟨⟨by omega,fun m x hm hx=>by rcases Nat.lt_succ_iff_lt_or_eq.1 hm with h | rfl;exact bg.2 m x h hx;rw [gy] at hx;cases hx;omega⟩,r⟩
        | true=>
         have B1:=of_decide_eq_true m5
         rw [show (DV.tu [.v (.int .i64 (((bif dc homes then bY homes else 0):Nat):Int)),.v (.bool (dc homes))]:DV)=.tu [.z 0,.v (.bool false)] from (ko (by first | (rw [eZ aT (by omega)];rfl) | (rw [e5 aT gy (by omega)];rfl) | (rw [eY aT (by omega) fun j x hj=>bg.2 j x (by omega)];exact aT)) (by first | rw [eZ aT (by omega)] | rw [e5 aT gy (by omega)] | rw [eY aT (by omega) fun j x hj=>bg.2 j x (by omega)]))]
         exact aQ tk tq hK rfl [(7,[(0,.b true)]),(8,[(0,.ix (j) [.z y])]),(9,[(1,.b false),(5,.b true)])] 2000 r (by kernel_rfl) (U et (U (aX ((j:Nat):Int)) (U (qa gy) (U jw (U m5 trivial)))))
       | true=>
        have B0:=of_decide_eq_true jw
        rw [show (DV.tu [.v (.int .i64 (((bif dc homes then bY homes else 0):Nat):Int)),.v (.bool (dc homes))]:DV)=.tu [.z 0,.v (.bool false)] from (ko (by first | (rw [eZ aT (by omega)];rfl) | (rw [e5 aT gy (by omega)];rfl) | (rw [eY aT (by omega) fun j x hj=>bg.2 j x (by omega)];exact aT)) (by first | rw [eZ aT (by omega)] | rw [e5 aT gy (by omega)] | rw [eY aT (by omega) fun j x hj=>bg.2 j x (by omega)]))]
        exact aQ tk tq hK rfl [(7,[(0,.b true)]),(8,[(0,.ix (j) [.z y])]),(9,[(1,.b true)])] 2000 r (by kernel_rfl) (U et (U (aX ((j:Nat):Int)) (U (qa gy) (U jw trivial))))
     | true=>
      have o9:=of_decide_eq_true cD
      rw [show (DV.tu [.v (.int .i64 (((bif dc homes then bY homes else 0):Nat):Int)),.v (.bool (dc homes))]:DV)=.tu [.z 0,.v (.bool false)] from (ko (by first | (rw [eZ aT (by omega)];rfl) | (rw [e5 aT gy (by omega)];rfl) | (rw [eY aT (by omega) fun j x hj=>bg.2 j x (by omega)];exact aT)) (by first | rw [eZ aT (by omega)] | rw [e5 aT gy (by omega)] | rw [eY aT (by omega) fun j x hj=>bg.2 j x (by omega)]))]
      exact aQ tk tq hK rfl [(2,[(2,.z (((homes.length:Nat):Int))),(3,.b true),(7,.ix (i) [.z pX]),(9,.b false)]),(4,[(1,.z (((homes.length:Nat):Int))),(2,.b false),(5,.b false),(9,.b true)])] 2000 r (by kernel_rfl) (U bd (U h0 (U (aX ((i:Nat):Int)) (U (fT ox) (U h7 (U bd (U h8 (U h9 (U cD trivial)))))))))
    | true=>
     have uv:=of_decide_eq_true h9
     rw [show (DV.tu [.v (.int .i64 (((bif dc homes then bY homes else 0):Nat):Int)),.v (.bool (dc homes))]:DV)=.tu [.z 0,.v (.bool false)] from (ko (by first | (rw [eZ aT (by omega)];rfl) | (rw [e5 aT gy (by omega)];rfl) | (rw [eY aT (by omega) fun j x hj=>bg.2 j x (by omega)];exact aT)) (by first | rw [eZ aT (by omega)] | rw [e5 aT gy (by omega)] | rw [eY aT (by omega) fun j x hj=>bg.2 j x (by omega)]))]
     exact aQ tk tq hK rfl [(2,[(2,.z (((homes.length:Nat):Int))),(3,.b true),(7,.ix (i) [.z pX]),(9,.b false)]),(4,[(1,.z (((homes.length:Nat):Int))),(2,.b false),(5,.b true)])] 2000 r (by kernel_rfl) (U bd (U h0 (U (aX ((i:Nat):Int)) (U (fT ox) (U h7 (U bd (U h8 (U h9 trivial))))))))
   | true=>
    have lq:=of_decide_eq_true h8
    rw [show (DV.tu [.v (.int .i64 (((bif dc homes then bY homes else 0):Nat):Int)),.v (.bool (dc homes))]:DV)=.tu [.z 0,.v (.bool false)] from (ko (by first | (rw [eZ aT (by omega)];rfl) | (rw [e5 aT gy (by omega)];rfl) | (rw [eY aT (by omega) fun j x hj=>bg.2 j x (by omega)];exact aT)) (by first | rw [eZ aT (by omega)] | rw [e5 aT gy (by omega)] | rw [eY aT (by omega) fun j x hj=>bg.2 j x (by omega)]))]
    exact aQ tk tq hK rfl [(2,[(2,.z (((homes.length:Nat):Int))),(3,.b true),(7,.ix (i) [.z pX]),(9,.b false)]),(4,[(1,.z (((homes.length:Nat):Int))),(2,.b true)])] 2000 r (by kernel_rfl) (U bd (U h0 (U (aX ((i:Nat):Int)) (U (fT ox) (U h7 (U bd (U h8 trivial)))))))
  | true=>
   have gE:=eq_of_beq h7
   exact bU (todo':=hd Tryz.f16 0) tk tq hK [(2,[(2,.z (((homes.length:Nat):Int))),(3,.b true),(7,.ix (i) [.z pX]),(9,.b true)]),(3,[(1,.z (((i+1:Nat):Int)))])] 2000 [] [0,2,3,4] r (by kernel_rfl) (U bd (U h0 (U (aX ((i:Nat):Int)) (U (fT ox) (U h7 (U ((wi (by omega)):IntKind.i64.wrap ((((i:Nat):Int):Int)+1)=((i+1:Nat):Int)) trivial)))))) fun ac wd r=>bo (by omega) ac wd ⟨⟨by omega,fun j x hj hx=>by rcases Nat.lt_succ_iff_lt_or_eq.1 hj with h | rfl;exact aM.2 j x h hx;rw [ox] at hx;cases hx;omega⟩,r⟩
set_option maxRecDepth 100000 in
theorem LL (l:List Int) (h0:0<l.length) (hb:l.length<2147483648):aD Tryz.prog 18 [.d (.ro 1 (ints l))] (.em 3 1 (ints l)):=by
 refine aD.intro (by kernel_rfl) rfl rfl 8 rfl rfl fun w0 K ac hK r=>?_
 rw [show (.em 3 1 (ints l):DV)=.em 3 1 ([]++(ints l)) from rfl]
 exact aQ tk tq hK rfl [] 2000 r (by kernel_rfl) (U ((by simpa [ints] using h0):0<(ints l).length) (U ((by first | rfl | (simp;done) | (simp<;>omega)):(0)=([]:List (List DV)).length) (U ((by simp;omega):(2*((0)+(ints l).length)+0)*8≤281474976710656) (U ((by simp;omega):(0)+(ints l).length<4611686018427387904) (U ((by simp [bA,AV.one,cd,ints]):bA (ints l)) (U ((by first | rfl | (simp;done) | (simp<;>omega)):(0+(ints l).length)=([]++(ints l):List (List DV)).length) trivial))))))
def eR (self:ah) (homes:List Int):Ov:=⟨self,homes,bY homes,bif decide (1≤self.node∧self.node≤(bY homes:Int)) then [⟨self,1,[]⟩] else [],0,[]⟩
def lS (self:ah) (homes:List Int):Bool:=dc homes&&(self.may&&decide (self.inc≤34359738367∧self.node≤(homes.length:Int)))
theorem FZ {self:ah} {homes:List Int} (h:lS self homes=true):dc homes=true∧self.may=true∧self.inc≤34359738367∧self.node≤(homes.length:Int):=by
 unfold lS at h
 simp only [Bool.and_eq_true,decide_eq_true_eq] at h
 exact h
theorem PY {self:ah} {homes:List Int} (h:lS self homes=false):¬ (dc homes=true∧self.may=true∧self.inc≤34359738367∧self.node≤(homes.length:Int)):=fun hh=>by
 have:lS self homes=true:=by
  unfold lS
  simp only [Bool.and_eq_true,decide_eq_true_eq]
  exact hh
 rw [this] at h;cases h
theorem LM {l:List Int} (h:dc l=true):0<l.length∧l.length≤10:=by
 unfold dc at h
 simp only [Bool.and_eq_true,decide_eq_true_eq] at h
 have:bY l≤l.length:=by unfold bY;exact (List.takeWhile_prefix _).length_le
 omega
set_option maxRecDepth 100000 in
theorem Hg (self:ah) (homes:List Int) (hl:homes.length≤1000) (hb:lS self homes=true):aL Tryz.prog 6 [.ag [.z self.node,.u self.inc],.d (.ro 1 (ints homes))] [] (.tu [.pt 0 0,.d (.v (.int .i64 0))]) (ef (eR self homes)):=by
 have rQ:=FZ hb
 have nV:=LM rQ.1
 refine aL.intro (by kernel_rfl) rfl rfl 51 rfl rfl fun D w0 K bs ac wd hK (aB:bs.m=0) r=>?_
 have bd:=((by have k:=uU homes hl;rw [rQ.1] at k;exact k):aD Tryz.prog 16 [.d (.ro 1 (ints homes))] (.tu [.n ((bY homes)),.v (.bool true)]))
 cases h0:(self.may) with
 | false=>
  exact absurd rQ (fun hh=>by obtain ⟨a1,a2,a3,a4⟩:=hh;first | omega | (simp_all;done))
 | true=>
  have b3:=((by have k:=mc self;rw [h0] at k;exact k):aD Tryz.prog 17 [.ag [.z self.node,.u self.inc]] (.v (.bool true)))
  cases h1:(decide ((34359738367:Int)<((self.inc:Nat):Int))) with
  | false=>
   have bN:=of_decide_eq_false h1
   have cy:=((by first | rfl | (simp;done)):(((ints homes).length:Nat):Int)=((homes.length:Nat):Int))
   cases h2:(decide ((((homes.length:Nat):Int):Int)<self.node)) with
   | false=>
    have b7:=of_decide_eq_false h2
    have HM:=((by have k:=uU homes hl;rw [rQ.1] at k;exact k):aD Tryz.prog 16 [.d (.ro 1 (ints homes))] (.tu [.n ((bY homes)),.v (.bool true)]))
    have HN:=((by have k:=mc self;rw [h0] at k;exact k):aD Tryz.prog 17 [.ag [.z self.node,.u self.inc]] (.v (.bool true)))
    have HO:=((by first | rfl | (simp;done)):(((ints homes).length:Nat):Int)=((homes.length:Nat):Int))
    have HP:=(LL homes (by omega) (by omega))
    refine FD (todo':=aft Tryz.f6 4) (E':=[(2,.pt 0 0),(4,.d (.v (.pointer none))),(5,.z 0),(8,.pt 3 0)]) (M':=[.bx 24 [.z self.node,.u self.inc],.rw 3 1 (ints homes),.mp 67 (0) ([]),.bx 70 [.z self.node,.u self.inc,.sl 1 ((ints homes).length),.n ((bY homes)),aj,.mv 2]]) tk tq hK aB [(1,[(1,.aJ (.tu [.n ((bY homes)),.v (.bool true)]))]),(2,[(4,.aJ (.v (.bool true))),(10,.b false),(16,.z (((homes.length:Nat):Int))),(17,.b false)]),(4,[(2,.aJ (.em 3 1 (ints homes)))])] 10 2 [] [[0,1,2,3],[0,2,1,3]] [2,4,5,8] r (by kernel_rfl) (U (U HM (U HN (U h1 (U HO (U h2 (U HP trivial)))))) (U (U HM (U HN (U h1 (U HO (U h2 (U HP trivial)))))) trivial)) fun ac wd r=>?_
    have r:=r.gW (E1:=[(2,.pt 0 0),(4,.d (.v (.pointer none))),(5,.z 0),(8,.pt 3 0)]) (M1:=[.bx 24 [.z self.node,.u self.inc],.rw 3 1 (ints homes),.mp 67 (0) ([]),.bx 70 [.z self.node,.u self.inc,.sl 1 ((ints homes).length),.n ((bY homes)),aj,.mv 2]]) (M2:=[.bx 24 [.z self.node,.u self.inc],.rw 3 1 (ints homes),.mp 67 (0) ([]),.bx 70 [.z self.node,.u self.inc,.sl 1 ((ints homes).length),.n ((bY homes)),.sl 4 (0),.mv 2],.rw 31 4 ([])]) [] [(3,4,31,4)] (by kernel_rfl) (by kernel_rfl)
    have r:=r.stay (p1:=[]) (p2:=[((ints homes).length)=(ints homes).length]) (E1:=[(2,.pt 0 0),(4,.d (.v (.pointer none))),(5,.z 0),(8,.pt 3 0)]) (M1:=[.bx 24 [.z self.node,.u self.inc],.rw 3 1 (ints homes),.mp 67 (0) ([]),.bx 70 [.z self.node,.u self.inc,.sl 1 ((ints homes).length),.n ((bY homes)),.sl 4 (0),.mv 2],.rw 31 4 ([])]) (M2:=[.bx 24 [.z self.node,.u self.inc],.dead,.mp 67 (0) ([]),.bx 70 [.z self.node,.u self.inc,.d (.ro 1 (cg (ints homes))),.n ((bY homes)),.sl 4 (0),.mv 2],.rw 31 4 ([])]) (E2:=[(2,.pt 0 0),(4,.d (.v (.pointer none))),(5,.z 0),(8,.pt 3 0)]) (M3:=[.bx 24 [.z self.node,.u self.inc],.dead,.mp 67 (0) ([]),.bx 70 [.z self.node,.u self.inc,.d (.ro 1 (ints homes)),.n ((bY homes)),.sl 4 (0),.mv 2],.rw 31 4 ([])]) [] [(3,2)] (by kernel_rfl) (by kernel_rfl) trivial (U (cQ ((ints homes).length)) trivial) rfl (by simp [jz,ints,cT])
    cases h3:(decide (1≤self.node∧self.node≤((bY homes:Nat):Int))) with
    | false=>
     have eV:=of_decide_eq_false h3
     refine bB (y:=.tu [.pt 0 0,.z 0]) (N':=[.bx 70 [.z self.node,.u self.inc,.d (.ro 1 (ints homes)),.n ((bY homes)),.sl 1 (0),.mv 2],.rw 31 4 ([]),.mp 67 (0) ([])]) (rfl) ((by unfold eR;rw [h3];rfl)) ?_
     exact bC tk tq hK rfl aB [(5,[(3,.mem [3,4,2] (aZ) [.bx 70 [.z self.node,.u self.inc,.d (.ro 1 (ints homes)),.n ((bY homes)),.sl 1 (0),.mv 2],.rw 31 4 ([]),.mp 67 (0) ([])])])] 2000 [3,4,2] r (by kernel_rfl) (U ((by have k:=e6 (⟨self,homes,bY homes,[],0,[]⟩:Ov) self.node;rw [show Ov.cA (⟨self,homes,bY homes,[],0,[]⟩:Ov) self.node=false from h3] at k;exact k):aL Tryz.prog 19 [.pt 0 0,.z self.node] [.bx 70 [.z self.node,.u self.inc,.d (.ro 1 (ints homes)),.n ((bY homes)),.sl 1 (0),.mv 2],.rw 31 4 ([]),.mp 67 (0) ([])] (aZ) [.bx 70 [.z self.node,.u self.inc,.d (.ro 1 (ints homes)),.n ((bY homes)),.sl 1 (0),.mv 2],.rw 31 4 ([]),.mp 67 (0) ([])]) trivial)
    | true=>
     have eV:=of_decide_eq_true h3
     refine ch (todo':=aft Tryz.f6 6) (E':=[(4,.d (.v (.pointer none))),(5,.z 0),(8,.pt 3 0)]) (M':=[.bx 24 [.z self.node,.u self.inc],.dead,.mp 67 (0) ([]),.bx 70 [.z self.node,.u self.inc,.d (.ro 1 (ints homes)),.n ((bY homes)),.sl 5 (1),.mv 2],.rw 31 4 ([]),.rw 31 4 ([[.z self.node,.u self.inc,.v (.int .u64 1),.v (.slice none 0 0)]])]) tk tq hK aB [(5,[(3,.mem [3,4,2] (aU) [.bx 70 [.z self.node,.u self.inc,.d (.ro 1 (ints homes)),.n ((bY homes)),.sl 1 (0),.mv 2],.rw 31 4 ([]),.mp 67 (0) ([])])])] 5 [0,1,2,3,4,5] [4,5,8] r (by kernel_rfl) (U ((by have k:=e6 (⟨self,homes,bY homes,[],0,[]⟩:Ov) self.node;rw [show Ov.cA (⟨self,homes,bY homes,[],0,[]⟩:Ov) self.node=true from h3] at k;exact k):aL Tryz.prog 19 [.pt 0 0,.z self.node] [.bx 70 [.z self.node,.u self.inc,.d (.ro 1 (ints homes)),.n ((bY homes)),.sl 1 (0),.mv 2],.rw 31 4 ([]),.mp 67 (0) ([])] (aU) [.bx 70 [.z self.node,.u self.inc,.d (.ro 1 (ints homes)),.n ((bY homes)),.sl 1 (0),.mv 2],.rw 31 4 ([]),.mp 67 (0) ([])]) trivial) fun ac wd r=>?_
     have r:=(r.less (rows':=aI [⟨self,1,[]⟩]) 5 rfl (lY.cons (j3.cons (Le.refl _) (j3.cons (Le.refl _) (j3.cons (Le.refl _) (j3.cons (Le.Be _) j3.nil)))) lY.nil)).cast (M':=[.bx 24 [.z self.node,.u self.inc],.dead,.mp 67 (0) ([]),.bx 70 [.z self.node,.u self.inc,.d (.ro 1 (ints homes)),.n ((bY homes)),.sl 5 (1),.mv 2],.rw 31 4 ([]),.rw 31 4 (aI [⟨self,1,[]⟩])]) rfl rfl
     refine bB (y:=.tu [.pt 0 0,.z 0]) (N':=[.bx 70 [.z self.node,.u self.inc,.d (.ro 1 (ints homes)),.n ((bY homes)),.sl 1 (1),.mv 2],.rw 31 4 (aI [⟨self,1,[]⟩]),.mp 67 (0) ([])]) (rfl) ((by unfold eR;rw [h3];rfl)) ?_
     exact bC tk tq hK rfl aB [] 2000 [3,5,2] r (by kernel_rfl) trivial
   | true=>
    have b7:=of_decide_eq_true h2
    exact absurd rQ (fun hh=>by obtain ⟨a1,a2,a3,a4⟩:=hh;first | omega | (simp_all;done))
  | true=>
   have bN:=of_decide_eq_true h1
   exact absurd rQ (fun hh=>by obtain ⟨a1,a2,a3,a4⟩:=hh;first | omega | (simp_all;done))
set_option maxRecDepth 100000 in
theorem O1 (self:ah) (homes:List Int) (hl:homes.length≤1000) (hb:lS self homes=false):aD Tryz.prog 6 [.ag [.z self.node,.u self.inc],.d (.ro 1 (ints homes))] (.tu [.v (.pointer none),.v (.int .i64 1)]):=by
 refine aD.intro (by kernel_rfl) rfl rfl 51 rfl rfl fun w0 K ac hK r=>?_
 cases h0:(dc homes) with
 | false=>
  rw [show (.tu [.v (.pointer none),.v (.int .i64 1)]:DV)=.tu [.v (.pointer none),.z 1] from rfl]
  exact aQ tk tq hK rfl [(1,[(1,.aJ (.tu [.z 0,.v (.bool false)]))])] 2000 r (by kernel_rfl) (U ((by have k:=uU homes hl;rw [h0] at k;exact k):aD Tryz.prog 16 [.d (.ro 1 (ints homes))] (.tu [.z 0,.v (.bool false)])) trivial)
 | true=>
  have bd:=((by have k:=uU homes hl;rw [h0] at k;exact k):aD Tryz.prog 16 [.d (.ro 1 (ints homes))] (.tu [.n ((bY homes)),.v (.bool true)]))
  cases h1:(self.may) with
  | false=>
   rw [show (.tu [.v (.pointer none),.v (.int .i64 1)]:DV)=.tu [.v (.pointer none),.z 1] from rfl]
   exact aQ tk tq hK rfl [(1,[(1,.aJ (.tu [.n ((bY homes)),.v (.bool true)]))]),(2,[(4,.aJ (.v (.bool false)))])] 2000 r (by kernel_rfl) (U bd (U ((by have k:=mc self;rw [h1] at k;exact k):aD Tryz.prog 17 [.ag [.z self.node,.u self.inc]] (.v (.bool false))) trivial))
  | true=>
   have b3:=((by have k:=mc self;rw [h1] at k;exact k):aD Tryz.prog 17 [.ag [.z self.node,.u self.inc]] (.v (.bool true)))
   cases h2:(decide ((34359738367:Int)<((self.inc:Nat):Int))) with
   | false=>
    have b7:=of_decide_eq_false h2
    have cy:=((by first | rfl | (simp;done)):(((ints homes).length:Nat):Int)=((homes.length:Nat):Int))
    cases h3:(decide ((((homes.length:Nat):Int):Int)<self.node)) with
    | false=>
     have eV:=of_decide_eq_false h3
     exact absurd ⟨by assumption,by assumption,by omega,by omega⟩ (PY hb)
    | true=>
     have eV:=of_decide_eq_true h3
     rw [show (.tu [.v (.pointer none),.v (.int .i64 1)]:DV)=.tu [.v (.pointer none),.z 1] from rfl]
     exact aQ tk tq hK rfl [(1,[(1,.aJ (.tu [.n ((bY homes)),.v (.bool true)]))]),(2,[(4,.aJ (.v (.bool true))),(10,.b false),(16,.z (((homes.length:Nat):Int))),(17,.b true)])] 2000 r (by kernel_rfl) (U bd (U b3 (U h2 (U cy (U h3 trivial)))))
   | true=>
    have b7:=of_decide_eq_true h2
    rw [show (.tu [.v (.pointer none),.v (.int .i64 1)]:DV)=.tu [.v (.pointer none),.z 1] from rfl]
    exact aQ tk tq hK rfl [(1,[(1,.aJ (.tu [.n ((bY homes)),.v (.bool true)]))]),(2,[(4,.aJ (.v (.bool true))),(10,.b true)])] 2000 r (by kernel_rfl) (U bd (U b3 (U h2 trivial)))
theorem zC {o:Ov} {k:Nat} (v:o.Inv k) (p:ah) (hk:k+2≤34359738367):(o.eh p).Inv (k+2):=by
 unfold Ov.eh
 cases hn:o.cF p with
 | true=>exact v.up (by omega)
 | false=>
  have h:o.fZ p.node=true∧p.inc≠0∧p.inc≤34359738367:=by
   unfold Ov.cF at hn
   simp only [Bool.or_eq_false_iff,Bool.not_eq_false',decide_eq_false_iff_not] at hn
   exact ⟨hn.1,hn.2.1,by omega⟩
  have h1:(o.ae p).Inv (k+1):=(v.dn p.node (by omega)).add (by rw [oO];exact h.1) (by omega) h.2.2 (jH v p.node)
  cases hs:(o.ae p).sv with
  | false=>exact h1.up (by omega)
  | true=>
   cases (o.ae p).cA p.node with
   | false=>exact h1.up (by omega)
   | true=>exact h1.nw hs (by omega)
theorem O2 {l:List Int}:∀ {i:Nat} {x:Int},i<bY l→l[i]?=some x→x=0:=by
 induction l with
 | nil=>intro i x h _;exact absurd h (by unfold bY;simp)
 | cons a l ih=>
  intro i x h g
  unfold bY at h
  rw [List.takeWhile_cons] at h
  split at h
  ·rename_i ha
   cases i with
   | zero=>simp at g;subst g;exact of_decide_eq_true ha
   | succ i=>exact ih (by unfold bY;simpa using h) (by simpa using g)
  ·simp at h
theorem F5 {self:ah} {homes:List Int} (h:lS self homes=true):(eR self homes).Inv 1:=by
 obtain ⟨h1,h2,h3,h4⟩:=FZ h
 have h5:(1≤self.node∧self.node≤10∧0<self.inc):=of_decide_eq_true h2
 have H3:=h1
 unfold dc at h1
 simp only [Bool.and_eq_true,decide_eq_true_eq,List.all_eq_true] at h1
 obtain ⟨⟨a1,a2,a3⟩,a4⟩:=h1
 have a5:bY homes≤homes.length:=by unfold bY;exact (List.takeWhile_prefix _).length_le
 have uw:∀ x ∈ (eR self homes).book,x=⟨self,1,[]⟩:=fun x hx=>by
  unfold eR at hx
  cases hd:decide (1≤self.node∧self.node≤(bY homes:Int)) with
  | true=>rw [hd] at hx;exact List.mem_singleton.1 hx
  | false=>rw [hd] at hx;cases hx
 refine ⟨⟨h5.1,h4,h3,h5.2.2,a1,a2,a3,a5,fun i x g=>⟨fun hi=>O2 hi g,fun hi=>?_⟩⟩,⟨List.nodup_nil,fun e he=>(by cases he),List.nodup_nil,fun e he=>(by cases he),Nat.zero_le _⟩,fun e he=>(by cases he),⟨fun x hx=>?_,?_⟩,fun hs=>?_,fun x hx _=>?_⟩
 ·exact a4 x (List.mem_of_getElem? (i:=i-bY homes) (by have hi:bY homes≤i:=hi;rw [List.getElem?_drop,Nat.add_sub_cancel' hi];exact g))
 ·rw [uw x hx]
  have hs:self.node≤4:=by
   unfold eR at hx
   cases hd:decide (1≤self.node∧self.node≤(bY homes:Int)) with
   | true=>have:=of_decide_eq_true hd;omega
   | false=>rw [hd] at hx;cases hx
  exact aw.gL.2 ⟨ah.qn.2 ⟨h5.1,hs,h5.2.2,by dsimp only;omega⟩,by dsimp only;omega,rfl,rfl,rfl,fun q hq=>by cases hq⟩
 ·unfold eR
  cases decide (1≤self.node∧self.node≤(bY homes:Int)) with
  | true=>exact List.pairwise_singleton _ _
  | false=>exact List.Pairwise.nil
 ·have hb:(eR self homes).book=[⟨self,1,[]⟩]:=by
   have hs:decide (1≤self.node∧self.node≤(bY homes:Int))=true:=hs
   unfold eR;rw [hs];rfl
  exact Ap (a:=⟨self,1,[]⟩) (by rw [hb];exact List.mem_singleton.2 rfl) rfl
 ·rw [uw x hx];exact ⟨rfl,Nat.le_refl _⟩
end Go.Proofs.YtlinpknagdgphaaGreat
namespace Go.Proofs.YtlinpknagdgphaaGreat
open Go.RowKit
structure cJ where
 d:Int
 peer:ah
 z:Int
 p:bJ
def cJ.row (s:cJ):List DV:=[.z s.d,.z s.peer.node,.u s.peer.inc,.z s.z,.z s.p.kind,.z s.p.src.node,.u s.p.src.inc,.z s.p.cn,.ro 4 (al s.p.al),.ro 1 (bc s.p.body),.z s.p.ad.server.node,.u s.p.ad.server.inc,.u s.p.ad.seq,.ro 2 (procs s.p.ad.ay)]
abbrev steps (l:List cJ):List (List DV):=l.map cJ.row
theorem lC {l:List cJ} {i:Nat} {s:cJ} (h:l[i]?=some s):(steps l)[i]?=some [.z s.d,.z s.peer.node,.u s.peer.inc,.z s.z,.z s.p.kind,.z s.p.src.node,.u s.p.src.inc,.z s.p.cn,.ro 4 (al s.p.al),.ro 1 (bc s.p.body),.z s.p.ad.server.node,.u s.p.ad.server.inc,.u s.p.ad.seq,.ro 2 (procs s.p.ad.ay)]:=by simp only [steps,List.getElem?_map,h,Option.map_some];rfl
def cJ.cost (s:cJ):Nat:=s.p.al.length+s.p.ad.ay.length+s.p.body.length / 512
def jg (l:List cJ):Nat:=(l.map cJ.cost).sum
theorem DM {l:List cJ} {i:Nat} {s:cJ} (h:l[i]?=some s):jg (l.take (i+1))=jg (l.take i)+s.cost:=by
 unfold jg;rw [List.take_add_one,h,Option.toList_some,List.map_append,List.sum_append];simp
def cJ.in (s:cJ):Prop:=s.p.al.length≤281474976710656∧s.p.ad.ay.length≤281474976710656∧s.p.body.length≤281474976710656
theorem E5 {l:List cJ} (h:∀ s ∈ l,s.in):∀ i,jg (l.take i)≤844424930131968*i
 | 0=>by simp [jg]
 | i+1=>by
  have:=E5 h i
  cases g:l[i]? with
  | none=>rw [List.take_add_one,g,Option.toList_none,List.append_nil];omega
  | some s=>
   rw [DM g]
   have h1:=h s (List.mem_of_getElem? g)
   have:s.cost≤844424930131968:=by unfold cJ.in at h1;unfold cJ.cost;omega
   omega
def mK (l:List cJ):Bool:=decide (l.length≤300∧jg l≤2000)
theorem PZ {n:Nat} (h:n≤281474976710656):IntKind.i64.wrap (((n:Nat):Int).tdiv 512)=(((n / 512):Nat):Int):=by
 rw [show ((n:Nat):Int).tdiv 512=(((n / 512):Nat):Int) from (Int.ofNat_tdiv n 512).symm]
 exact wi (by omega)
set_option maxRecDepth 100000 in
theorem Hh (l:List cJ) (hl:∀ s ∈ l,s.in):aD Tryz.prog 4 [.d (.ro 14 (steps l))] (.v (.bool (mK l))):=by
 refine aD.intro (by kernel_rfl) rfl rfl 43 rfl rfl fun w0 K ac hK r=>?_
 have bd:=((by first | rfl | (simp [cb,bc];done)):(((steps l).length:Nat):Int)=((l.length:Nat):Int))
 cases h0:(decide ((300:Int)<((l.length:Nat):Int))) with
 | false=>
  have bH:=of_decide_eq_false h0
  refine bU (todo':=hd Tryz.f4 0) (E':=[(0,.d (.ro 14 (steps l))),(3,.z 0),(4,.z 0)]) (M':=[]) tk tq hK [(1,[(1,.z (((l.length:Nat):Int))),(2,.b false)])] 2000 [] [0,3,4] r (by kernel_rfl) (U bd (U h0 trivial)) fun ac wd r=>?_
  refine aN.rounds (Φ:=fun (i:Nat) ac wd=>(i≤l.length)∧ec [] w0 K 43 [(0,.d (.ro 14 (steps l))),(3,.n ((jg (l.take i)))),(4,.n i)] [] ac wd) (l.length) ?_ (Nat.zero_le _) ⟨(Nat.zero_le _),(r).cast rfl rfl⟩
  clear r
  rintro i cI bo ac wd ⟨aM,r⟩
  have cG:=E5 hl i
  cases h1:(decide ((((i:Nat):Int):Int)<((l.length:Nat):Int))) with
  | false=>
   have bN:=of_decide_eq_false h1
   have iI:List.take i l=l:=List.take_of_length_le (by omega)
   cases h2:(decide (((((jg (l.take i)):Nat):Int):Int)≤2000)) with
   | false=>
    have b7:=of_decide_eq_false h2
    rw [show (.v (.bool (mK l)):DV)=.v (.bool false) from (bv (by unfold mK;first | exact decide_eq_false (by omega) | exact decide_eq_true (by rw [iI] at *;omega) | exact decide_eq_false (by rw [iI] at *;omega)))]
    exact aQ tk tq hK rfl [(5,[(2,.z (((l.length:Nat):Int))),(3,.b false)]),(8,[(1,.b false)])] 2000 r (by kernel_rfl) (U bd (U h1 (U h2 trivial)))
   | true=>
    have b7:=of_decide_eq_true h2
    rw [show (.v (.bool (mK l)):DV)=.v (.bool true) from (bv (by unfold mK;first | exact decide_eq_false (by omega) | exact decide_eq_true (by rw [iI] at *;omega) | exact decide_eq_false (by rw [iI] at *;omega)))]
    exact aQ tk tq hK rfl [(5,[(2,.z (((l.length:Nat):Int))),(3,.b false)]),(8,[(1,.b true)])] 2000 r (by kernel_rfl) (U bd (U h1 (U h2 trivial)))
  | true=>
   have bN:=of_decide_eq_true h1
   obtain ⟨aq,cv⟩:∃ x,l[i]?=some x:=⟨_,List.getElem?_eq_getElem (by omega)⟩
   have fv:=hl _ (List.mem_of_getElem? cv)
   unfold cJ.in at fv
   exact bU (todo':=hd Tryz.f4 0) (E':=[(0,.d (.ro 14 (steps l))),(3,.n ((jg (l.take i))+aq.p.al.length+aq.p.ad.ay.length+(aq.p.body.length / 512))),(4,.n (i+1))]) (M':=[]) tk tq hK [(5,[(2,.z (((l.length:Nat):Int))),(3,.b true)]),(6,[(1,.z (((i+1:Nat):Int)))]),(7,[(3,.ix (i) [.z aq.d,.z aq.peer.node,.u aq.peer.inc,.z aq.z,.z aq.p.kind,.z aq.p.src.node,.u aq.p.src.inc,.z aq.p.cn,.ro 4 (al aq.p.al),.ro 1 (bc aq.p.body),.z aq.p.ad.server.node,.u aq.p.ad.server.inc,.u aq.p.ad.seq,.ro 2 (procs aq.p.ad.ay)]),(7,.z (((aq.p.al.length:Nat):Int))),(10,.ix (i) [.z aq.d,.z aq.peer.node,.u aq.peer.inc,.z aq.z,.z aq.p.kind,.z aq.p.src.node,.u aq.p.src.inc,.z aq.p.cn,.ro 4 (al aq.p.al),.ro 1 (bc aq.p.body),.z aq.p.ad.server.node,.u aq.p.ad.server.inc,.u aq.p.ad.seq,.ro 2 (procs aq.p.ad.ay)]),(15,.z (((aq.p.ad.ay.length:Nat):Int))),(16,.z (((aq.p.al.length+aq.p.ad.ay.length:Nat):Int))),(19,.ix (i) [.z aq.d,.z aq.peer.node,.u aq.peer.inc,.z aq.z,.z aq.p.kind,.z aq.p.src.node,.u aq.p.src.inc,.z aq.p.cn,.ro 4 (al aq.p.al),.ro 1 (bc aq.p.body),.z aq.p.ad.server.node,.u aq.p.ad.server.inc,.u aq.p.ad.seq,.ro 2 (procs aq.p.ad.ay)]),(23,.z (((aq.p.body.length:Nat):Int))),(24,.z ((((aq.p.body.length / 512):Nat):Int))),(25,.z (((aq.p.al.length+aq.p.ad.ay.length+(aq.p.body.length / 512):Nat):Int))),(26,.z ((((jg (l.take i))+aq.p.al.length+aq.p.ad.ay.length+(aq.p.body.length / 512):Nat):Int)))])] 2000 [] [0,3,4] r (by kernel_rfl) (U bd (U h1 (U (aX ((i:Nat):Int)) (U (lC cv) (U ((by first | rfl | (simp [cb,bc];done)):(((al aq.p.al).length:Nat):Int)=((aq.p.al.length:Nat):Int)) (U (aX ((i:Nat):Int)) (U (lC cv) (U ((by first | rfl | (simp [cb,bc];done)):(((procs aq.p.ad.ay).length:Nat):Int)=((aq.p.ad.ay.length:Nat):Int)) (U ((wi (by omega)):IntKind.i64.wrap ((((aq.p.al.length:Nat):Int):Int)+((aq.p.ad.ay.length:Nat):Int))=((aq.p.al.length+aq.p.ad.ay.length:Nat):Int)) (U (aX ((i:Nat):Int)) (U (lC cv) (U ((by first | rfl | (simp [cb,bc];done)):(((bc aq.p.body).length:Nat):Int)=((aq.p.body.length:Nat):Int)) (U ((PZ fv.2.2):IntKind.i64.wrap ((((aq.p.body.length:Nat):Int):Int).tdiv 512)=(((aq.p.body.length / 512):Nat):Int)) (U ((by decide):(512:Int)≠0) (U ((wi (by omega)):IntKind.i64.wrap ((((aq.p.al.length+aq.p.ad.ay.length:Nat):Int):Int)+(((aq.p.body.length / 512):Nat):Int))=((aq.p.al.length+aq.p.ad.ay.length+(aq.p.body.length / 512):Nat):Int)) (U ((wi (by omega)):IntKind.i64.wrap (((((jg (l.take i)):Nat):Int):Int)+((aq.p.al.length+aq.p.ad.ay.length+(aq.p.body.length / 512):Nat):Int))=(((jg (l.take i))+aq.p.al.length+aq.p.ad.ay.length+(aq.p.body.length / 512):Nat):Int)) (U ((wi (by omega)):IntKind.i64.wrap ((((i:Nat):Int):Int)+1)=((i+1:Nat):Int)) trivial))))))))))))))))) fun ac wd r=>bo (by omega) ac wd ⟨(by omega),r.cast (by rw [DM cv];first | rfl | (unfold cJ.cost;simp only [Nat.add_assoc])) rfl⟩
 | true=>
  have bH:=of_decide_eq_true h0
  rw [show (.v (.bool (mK l)):DV)=.v (.bool false) from (bv (by unfold mK;first | exact decide_eq_false (by omega) | exact decide_eq_true (by rw [iI] at *;omega) | exact decide_eq_false (by rw [iI] at *;omega)))]
  exact aQ tk tq hK rfl [(1,[(1,.z (((l.length:Nat):Int))),(2,.b true)])] 2000 r (by kernel_rfl) (U bd (U h0 trivial))
set_option maxRecDepth 100000 in
theorem F6 :aD Tryz.prog 13 [.ag [aj,aj,aj],.ag [aj,aj,aj]] (.v (.bool true)):=by
 refine aD.intro (by kernel_rfl) rfl rfl 127 rfl rfl fun w0 K ac hK r=>?_
 refine bU (todo':=hd Tryz.f13 0) (E':=[(0,.ag [aj,aj,aj]),(1,.ag [aj,aj,aj]),(2,.pt 0 0),(3,.pt 1 0),(4,aZ),(10,.pt 0 0),(11,aj),(12,.n 0),(13,.pt 1 0),(14,aj),(15,.n 0),(16,aZ),(17,aZ),(18,.pt 0 1),(19,aj),(20,.n 0),(21,.pt 1 1),(22,aj),(23,.n 0),(24,aZ),(25,aZ),(26,aZ),(27,.pt 0 2),(28,aj),(29,.n 0),(30,.pt 1 2),(31,aj),(32,.n 0),(33,aZ),(34,aZ),(5,.z 0)]) (M':=[.bx 46 [aj,aj,aj],.bx 46 [aj,aj,aj]]) tk tq hK [] 2000 [0,1] [0,1,2,3,4,10,11,12,13,14,15,16,17,18,19,20,21,22,23,24,25,26,27,28,29,30,31,32,33,34,5] r (by kernel_rfl) trivial fun ac wd r=>?_
 refine bU (todo':=hd Tryz.f13 1) (E':=[(0,.ag [aj,aj,aj]),(1,.ag [aj,aj,aj]),(2,.pt 0 0),(3,.pt 1 0),(4,aZ),(10,.pt 0 0),(11,aj),(12,.n 0),(13,.pt 1 0),(14,aj),(15,.n 0),(16,aZ),(17,aZ),(18,.pt 0 1),(19,aj),(20,.n 0),(21,.pt 1 1),(22,aj),(23,.n 0),(24,aZ),(25,aZ),(26,aZ),(27,.pt 0 2),(28,aj),(29,.n 0),(30,.pt 1 2),(31,aj),(32,.n 0),(33,aZ),(34,aZ),(5,.z 0),(35,.z 0),(36,.pt 0 0),(37,aj),(38,.n 0),(39,aZ),(6,.z 0)]) (M':=[.bx 46 [aj,aj,aj],.bx 46 [aj,aj,aj]]) tk tq hK [] 2000 [0,1] [0,1,2,3,4,10,11,12,13,14,15,16,17,18,19,20,21,22,23,24,25,26,27,28,29,30,31,32,33,34,5,35,36,37,38,39,6] r (by kernel_rfl) trivial fun ac wd r=>?_
 refine bU (todo':=hd Tryz.f13 2) (E':=[(0,.ag [aj,aj,aj]),(1,.ag [aj,aj,aj]),(2,.pt 0 0),(3,.pt 1 0),(4,aZ),(10,.pt 0 0),(11,aj),(12,.n 0),(13,.pt 1 0),(14,aj),(15,.n 0),(16,aZ),(17,aZ),(18,.pt 0 1),(19,aj),(20,.n 0),(21,.pt 1 1),(22,aj),(23,.n 0),(24,aZ),(25,aZ),(26,aZ),(27,.pt 0 2),(28,aj),(29,.n 0),(30,.pt 1 2),(31,aj),(32,.n 0),(33,aZ),(34,aZ),(5,.z 0),(35,.z 0),(36,.pt 0 0),(37,aj),(38,.n 0),(39,aZ),(6,.z 0),(71,.z 0),(72,.pt 0 1),(73,aj),(74,.n 0),(75,aZ),(7,.z 0)]) (M':=[.bx 46 [aj,aj,aj],.bx 46 [aj,aj,aj]]) tk tq hK [] 2000 [0,1] [0,1,2,3,4,10,11,12,13,14,15,16,17,18,19,20,21,22,23,24,25,26,27,28,29,30,31,32,33,34,5,35,36,37,38,39,6,71,72,73,74,75,7] r (by kernel_rfl) trivial fun ac wd r=>?_
 rw [show (.v (.bool true):DV)=.v (.bool true) from rfl]
 exact aQ tk tq hK rfl [] 2000 r (by kernel_rfl) trivial
end Go.Proofs.YtlinpknagdgphaaGreat
