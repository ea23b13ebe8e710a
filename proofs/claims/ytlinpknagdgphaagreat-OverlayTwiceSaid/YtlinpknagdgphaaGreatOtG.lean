/-
  overlayTwice_holds, part 7 of 7: merged by program from the texts that it needs.
-/
import Derived.Test.YtlinpknagdgphaaGreatOtD
import Derived.Test.YtlinpknagdgphaaGreatOtE
import Derived.Test.YtlinpknagdgphaaGreatOtF
set_option linter.unusedSimpArgs false
set_option linter.unusedVariables false
set_option linter.unnecessarySimpa false
namespace Go.Proofs.YtlinpknagdgphaaGreat
open Go.RowKit
theorem x9 (T:Nat) (l:List aw) (v:Value):dh (.tu [.em T 4 (b4 l),.v v]):=.tu (by simp only [List.mem_cons,List.not_mem_nil,or_false];rintro c (rfl | rfl);exact pQ _ _;exact gX _)
noncomputable def Ov.j5 (o:Ov) (fr:Int) (p:bJ):Bool:=p.may&&(o.has fr&&(decide (p.kind=1)&&(o.sv&&(o.cA fr&&(!decide (p.ad.server.node=o.self.node)&&fa o.book p.ad)))))
theorem ir {o:Ov} {fr:Int} {p:bJ} (h:o.j5 fr p=true):p.may=true∧o.has fr=true∧p.kind=1∧o.sv=true∧o.cA fr=true∧p.ad.server.node≠o.self.node∧fa o.book p.ad=true:=by
 unfold Ov.j5 at h
 simp only [Bool.and_eq_true,Bool.not_eq_true',decide_eq_true_eq,decide_eq_false_iff_not] at h
 exact h
theorem Hj {o:Ov} {fr:Int} {p:bJ} (h:o.j5 fr p=false):¬ (p.may=true∧o.has fr=true∧p.kind=1∧o.sv=true∧o.cA fr=true∧p.ad.server.node≠o.self.node∧fa o.book p.ad=true):=fun hh=>by
 have:o.j5 fr p=true:=by
  unfold Ov.j5
  simp only [Bool.and_eq_true,Bool.not_eq_true',decide_eq_true_eq,decide_eq_false_iff_not]
  exact hh
 rw [this] at h;cases h
def di (p:bJ) (fr:Int) (l:List ah):List (List DV):=(l.filter fun q=>!decide (q.node=fr)).map fun q=>j4 q.node p.ad
theorem F7 {p:bJ} {fr:Int} {l:List ah} {i:Nat} {q:ah} (g:l[i]?=some q) (h:q.node≠fr):di p fr (l.take (i+1))=di p fr (l.take i)++[j4 q.node p.ad]:=by
 unfold di;rw [List.take_add_one,g,Option.toList_some,List.filter_append,List.map_append];simp [h]
theorem GL {p:bJ} {fr:Int} {l:List ah} {i:Nat} {q:ah} (g:l[i]?=some q) (h:q.node=fr):di p fr (l.take (i+1))=di p fr (l.take i):=by
 unfold di;rw [List.take_add_one,g,Option.toList_some,List.filter_append,List.map_append];simp [h]
theorem F8 (p:bJ) (fr:Int) (l:List ah):(di p fr l).length≤l.length:=by unfold di;rw [List.length_map];exact List.length_filter_le _ _
set_option maxRecDepth 100000 in
theorem NB (o:Ov) (k:Nat) (v:o.Inv k) (fr:Int) (hz : -9223372036854775808≤fr∧fr≤9223372036854775807) (p:bJ) (dm:p.al.length≤9223372036854775807) (cH:p.body.length≤9223372036854775807) (c9:p.ad.ay.length≤9223372036854775807) (cY:o.j5 fr p=false):aL Tryz.prog 9 [.pt 0 0,.z fr,.ag (bE p)] [ao o 1 2,af o,ai o] (.ag [.d .jk,.d .jk,.d .jk]) (ef o):=by
 have b6:=v.ok.s1
 refine aL.intro (by kernel_rfl) rfl rfl 109 rfl rfl fun D w0 K bs ac wd hK (aB:bs.m=3) r=>?_
 cases h0:(p.may) with
 | false=>
  refine ch (todo':=aft Tryz.f9 2) (E':=[(0,.pt 0 0),(1,.z fr),(5,.pt 3 0),(6,.pt 4 0)]) (M':=[ao o 1 2,af o,ai o,.bx 33 (bE p),.bx 46 [aj,aj,aj]]) tk tq hK aB [(1,[(1,.mem [0,1,2] (aU) [ao o 1 2,af o,ai o]),(5,.aJ (.v (.bool false)))])] 8 [0,1,2,3,4] [0,1,5,6] r (by kernel_rfl) (U (dr o b6) (U ((by have k:=nF p dm cH c9;rw [h0] at k;exact k):aD Tryz.prog 26 [.ag (bE p)] (.v (.bool false))) trivial)) fun ac wd r=>?_
  have r:=r.eU 4 (M2:=[ao o 1 2,af o,ai o,.bx 33 (bE p),.bx 46 [.d (.jk),.d (.jk),.d (.jk)]]) rfl rfl
  refine bB (y:=.ag [.d (.jk),.d (.jk),.d (.jk)]) (N':=[ao o 1 2,af o,ai o]) (rfl) (rfl) ?_
  exact bC tk tq hK rfl aB [] 2000 [0,1,2] r (by kernel_rfl) trivial
 | true=>
  have iR:p.may=true:=by assumption
  have bd:=((by have k:=nF p dm cH c9;rw [h0] at k;exact k):aD Tryz.prog 26 [.ag (bE p)] (.v (.bool true)))
  cases h1:(o.has fr) with
  | false=>
   refine ch (todo':=aft Tryz.f9 5) (E':=[(0,.pt 0 0),(1,.z fr),(5,.pt 3 0),(6,.pt 4 0)]) (M':=[ao o 1 2,af o,ai o,.bx 33 (bE p),.bx 46 [aj,aj,aj],.bx 24 [.z 0,.d (.v (.int .u64 0))]]) tk tq hK aB [(1,[(1,.mem [0,1,2] (aU) [ao o 1 2,af o,ai o]),(5,.aJ (.v (.bool true)))]),(3,[(5,.b false)])] 15 [0,1,2,3,4,5] [0,1,5,6] r (by kernel_rfl) (U (dr o b6) (U bd (U ((dX v.lk hz):b5 Tryz.prog 3 ((.i .i64 (fr))::List.map (fun (e:Nat×MK×DV)=>e.2.1) (aY o.ls))) (U ((fun _=>rfl):gp Tryz.prog 24 (.agg [(.int .i64 (0)),(.int .u64 (0))].toArray)) (U ((iq (by assumption)):∀ zz ∈ (aY o.ls:List (Nat×MK×DV)),zz.2.1≠.i .i64 (fr)) trivial))))) fun ac wd r=>?_
   have r:=r.eU 4 (M2:=[ao o 1 2,af o,ai o,.bx 33 (bE p),.bx 46 [.d (.jk),.d (.jk),.d (.jk)],.bx 24 [.z 0,.d (.v (.int .u64 0))]]) rfl rfl
   refine bB (y:=.ag [.d (.jk),.d (.jk),.d (.jk)]) (N':=[ao o 1 2,af o,ai o]) (rfl) (rfl) ?_
   exact bC tk tq hK rfl aB [] 2000 [0,1,2] r (by kernel_rfl) trivial
  | true=>
   obtain ⟨bl,fj⟩:=mn (by assumption)
   have b3:=((dX v.lk hz):b5 Tryz.prog 3 ((.i .i64 (fr))::List.map (fun (e:Nat×MK×DV)=>e.2.1) (aY o.ls)))
   have cy:=((jT v.lk):(List.map (fun (e:Nat×MK×DV)=>e.2.1) (aY o.ls)).Nodup)
   have db:=(⟨bl,jf fj⟩:∃ b0,(aY o.ls:List (Nat×MK×DV))[o.li fr]?=some (b0,.i .i64 (fr),.ag [.z ((o.lf fr).node),.u ((o.lf fr).inc)]))
   cases h2:((p.kind:Int) != 1) with
   | false=>
    have b7:=gK h2
    cases h3:(o.sv) with
    | false=>
     refine ch (todo':=aft Tryz.f9 9) (E':=[(0,.pt 0 0),(1,.z fr),(5,.pt 3 0),(6,.pt 4 0)]) (M':=[ao o 1 2,af o,ai o,.bx 33 (bE p),.bx 46 [aj,aj,aj],.bx 24 [.z ((o.lf fr).node),.u ((o.lf fr).inc)]]) tk tq hK aB [(1,[(1,.mem [0,1,2] (aU) [ao o 1 2,af o,ai o]),(5,.aJ (.v (.bool true)))]),(3,[(5,.mk (o.li fr) (.i .i64 (fr)) (.ag [.z ((o.lf fr).node),.u ((o.lf fr).inc)]))]),(6,[(2,.b false)]),(8,[(1,.mem [0,1,2] (aZ) [ao o 1 2,af o,ai o])])] 25 [0,1,2,3,4,5] [0,1,5,6] r (by kernel_rfl) (U (dr o b6) (U bd (U b3 (U (rfl:(.i .i64 (fr):MK)=.i .i64 (fr)) (U cy (U db (U h2 (U ((by have k:=fk o;rw [h3] at k;exact k):aL Tryz.prog 23 [.pt 0 0] [ao o 1 2,af o,ai o] (aZ) [ao o 1 2,af o,ai o]) trivial)))))))) fun ac wd r=>?_
     have r:=r.eU 4 (M2:=[ao o 1 2,af o,ai o,.bx 33 (bE p),.bx 46 [.d (.jk),.d (.jk),.d (.jk)],.bx 24 [.z ((o.lf fr).node),.u ((o.lf fr).inc)]]) rfl rfl
     refine bB (y:=.ag [.d (.jk),.d (.jk),.d (.jk)]) (N':=[ao o 1 2,af o,ai o]) (rfl) (rfl) ?_
     exact bC tk tq hK rfl aB [] 2000 [0,1,2] r (by kernel_rfl) trivial
    | true=>
     have cZ:=((by have k:=fk o;rw [h3] at k;exact k):aL Tryz.prog 23 [.pt 0 0] [ao o 1 2,af o,ai o] (aU) [ao o 1 2,af o,ai o])
     cases h4:(o.cA fr) with
     | false=>
      refine ch (todo':=aft Tryz.f9 9) (E':=[(0,.pt 0 0),(1,.z fr),(5,.pt 3 0),(6,.pt 4 0)]) (M':=[ao o 1 2,af o,ai o,.bx 33 (bE p),.bx 46 [aj,aj,aj],.bx 24 [.z ((o.lf fr).node),.u ((o.lf fr).inc)]]) tk tq hK aB [(1,[(1,.mem [0,1,2] (aU) [ao o 1 2,af o,ai o]),(5,.aJ (.v (.bool true)))]),(3,[(5,.mk (o.li fr) (.i .i64 (fr)) (.ag [.z ((o.lf fr).node),.u ((o.lf fr).inc)]))]),(6,[(2,.b false)]),(8,[(1,.mem [0,1,2] (aU) [ao o 1 2,af o,ai o]),(6,.mem [0,1,2] (aZ) [ao o 1 2,af o,ai o])])] 25 [0,1,2,3,4,5] [0,1,5,6] r (by kernel_rfl) (U (dr o b6) (U bd (U b3 (U (rfl:(.i .i64 (fr):MK)=.i .i64 (fr)) (U cy (U db (U h2 (U cZ (U ((by have k:=e6 o fr;rw [h4] at k;exact k):aL Tryz.prog 19 [.pt 0 0,.z fr] [ao o 1 2,af o,ai o] (aZ) [ao o 1 2,af o,ai o]) trivial))))))))) fun ac wd r=>?_
      have r:=r.eU 4 (M2:=[ao o 1 2,af o,ai o,.bx 33 (bE p),.bx 46 [.d (.jk),.d (.jk),.d (.jk)],.bx 24 [.z ((o.lf fr).node),.u ((o.lf fr).inc)]]) rfl rfl
      refine bB (y:=.ag [.d (.jk),.d (.jk),.d (.jk)]) (N':=[ao o 1 2,af o,ai o]) (rfl) (rfl) ?_
      exact bC tk tq hK rfl aB [] 2000 [0,1,2] r (by kernel_rfl) trivial
     | true=>
      have dp:=((by have k:=e6 o fr;rw [h4] at k;exact k):aL Tryz.prog 19 [.pt 0 0,.z fr] [ao o 1 2,af o,ai o] (aU) [ao o 1 2,af o,ai o])
      cases h5:((p.ad.server.node:Int)==o.self.node) with
      | false=>
       have ib:=ne_of_beq_false h5
       cases h6:(fa o.book p.ad) with
       | false=>
        refine ch (todo':=aft Tryz.f9 13) (E':=[(0,.pt 0 0),(1,.z fr),(5,.pt 3 0),(6,.pt 4 0),(9,.d (.ro 2 (procs o.rc))),(10,.sl 6 ((b4 (a9 o.book p.ad)).length))]) (M':=[ao o 1 2,af o,ai o,.bx 33 (bE p),.bx 46 [aj,aj,aj],.bx 24 [.z ((o.lf fr).node),.u ((o.lf fr).inc)],.rw 31 4 (b4 (a9 o.book p.ad))]) tk tq hK aB [(1,[(1,.mem [0,1,2] (aU) [ao o 1 2,af o,ai o]),(5,.aJ (.v (.bool true)))]),(3,[(5,.mk (o.li fr) (.i .i64 (fr)) (.ag [.z ((o.lf fr).node),.u ((o.lf fr).inc)]))]),(6,[(2,.b false)]),(8,[(1,.mem [0,1,2] (aU) [ao o 1 2,af o,ai o]),(6,.mem [0,1,2] (aU) [ao o 1 2,af o,ai o]),(19,.b false)]),(10,[(1,.mem [0,1,2] (.d (.ro 2 (procs o.rc))) [ao o 1 2,af o,ai o])]),(11,[(6,.call [.d (.ro 4 (aI o.book)),.ag [.z p.ad.server.node,.u p.ad.server.inc,.u p.ad.seq,.d (.ro 2 (procs p.ad.ay))]] (.tu [.em 31 4 (b4 (a9 o.book p.ad)),.v (.bool false)]))])] 34 [0,1,2,3,4,5,6] [0,1,5,6,9,10] r (by kernel_rfl) (U (dr o b6) (U bd (U b3 (U (rfl:(.i .i64 (fr):MK)=.i .i64 (fr)) (U cy (U db (U h2 (U cZ (U dp (U h5 (U (gS o k v) (U ((by have k:=Aj o.book p.ad (by have:=eX v.bk;omega) (fun x hx=>by have:=v.bk.nU x hx;omega) c9;rw [h6] at k;exact k):aD Tryz.prog 28 [.d (.ro 4 (aI o.book)),.ag [.z p.ad.server.node,.u p.ad.server.inc,.u p.ad.seq,.d (.ro 2 (procs p.ad.ay))]] (.tu [.em 31 4 (b4 (a9 o.book p.ad)),.v (.bool false)])) (U ((by first | exact gX _ | exact x9 _ _ _):dh (.tu [.em 31 4 (b4 (a9 o.book p.ad)),.v (.bool false)])) (U (cQ (4)) (U ((by first | rfl | (simp;done) | (simp<;>omega)):(o.book.length)=(aI o.book).length) (U ((by first | exact gJ _ | exact rU _):cg (aI o.book)=aI o.book) (U (cN (.z p.ad.server.node)) (U (cN (.u p.ad.server.inc)) (U (cN (.u p.ad.seq)) (U (cN (.ro 2 (procs p.ad.ay))) trivial)))))))))))))))))))) fun ac wd r=>?_
        have r:=r.eU 4 (M2:=[ao o 1 2,af o,ai o,.bx 33 (bE p),.bx 46 [.d (.jk),.d (.jk),.d (.jk)],.bx 24 [.z ((o.lf fr).node),.u ((o.lf fr).inc)],.rw 31 4 (b4 (a9 o.book p.ad))]) rfl rfl
        refine bB (y:=.ag [.d (.jk),.d (.jk),.d (.jk)]) (N':=[ao o 1 2,af o,ai o]) (rfl) (rfl) ?_
        exact bC tk tq hK rfl aB [] 2000 [0,1,2] r (by kernel_rfl) trivial
       | true=>
        exact absurd ⟨by assumption,by assumption,by omega,by assumption,by assumption,by omega,by assumption⟩ (Hj cY)
      | true=>
       have ib:=eq_of_beq h5
       refine ch (todo':=aft Tryz.f9 9) (E':=[(0,.pt 0 0),(1,.z fr),(5,.pt 3 0),(6,.pt 4 0)]) (M':=[ao o 1 2,af o,ai o,.bx 33 (bE p),.bx 46 [aj,aj,aj],.bx 24 [.z ((o.lf fr).node),.u ((o.lf fr).inc)]]) tk tq hK aB [(1,[(1,.mem [0,1,2] (aU) [ao o 1 2,af o,ai o]),(5,.aJ (.v (.bool true)))]),(3,[(5,.mk (o.li fr) (.i .i64 (fr)) (.ag [.z ((o.lf fr).node),.u ((o.lf fr).inc)]))]),(6,[(2,.b false)]),(8,[(1,.mem [0,1,2] (aU) [ao o 1 2,af o,ai o]),(6,.mem [0,1,2] (aU) [ao o 1 2,af o,ai o]),(19,.b true)])] 25 [0,1,2,3,4,5] [0,1,5,6] r (by kernel_rfl) (U (dr o b6) (U bd (U b3 (U (rfl:(.i .i64 (fr):MK)=.i .i64 (fr)) (U cy (U db (U h2 (U cZ (U dp (U h5 trivial)))))))))) fun ac wd r=>?_
       have r:=r.eU 4 (M2:=[ao o 1 2,af o,ai o,.bx 33 (bE p),.bx 46 [.d (.jk),.d (.jk),.d (.jk)],.bx 24 [.z ((o.lf fr).node),.u ((o.lf fr).inc)]]) rfl rfl
       refine bB (y:=.ag [.d (.jk),.d (.jk),.d (.jk)]) (N':=[ao o 1 2,af o,ai o]) (rfl) (rfl) ?_
       exact bC tk tq hK rfl aB [] 2000 [0,1,2] r (by kernel_rfl) trivial
   | true=>
    have b7:¬ _=_:=bne_iff_ne.1 h2
    refine ch (todo':=aft Tryz.f9 7) (E':=[(0,.pt 0 0),(1,.z fr),(5,.pt 3 0),(6,.pt 4 0)]) (M':=[ao o 1 2,af o,ai o,.bx 33 (bE p),.bx 46 [.sl 6 ((o.fh p).length),.sl 7 ((o.bV p p.al).length),aj],.bx 24 [.z ((o.lf fr).node),.u ((o.lf fr).inc)],.rw 60 11 ((o.fh p)),.rw 33 10 ((o.bV p p.al))]) tk tq hK aB [(1,[(1,.mem [0,1,2] (aU) [ao o 1 2,af o,ai o]),(5,.aJ (.v (.bool true)))]),(3,[(5,.mk (o.li fr) (.i .i64 (fr)) (.ag [.z ((o.lf fr).node),.u ((o.lf fr).inc)]))]),(6,[(2,.b true)]),(7,[(2,.mem [0,1,2] (.ag [.sl 3 ((o.fh p).length),.sl 4 ((o.bV p p.al).length),aj]) [ao o 1 2,af o,ai o,.rw 60 11 ((o.fh p)),.rw 33 10 ((o.bV p p.al))])])] 20 [0,1,2,3,4,5,6,7] [0,1,5,6] r (by kernel_rfl) (U (dr o b6) (U bd (U b3 (U (rfl:(.i .i64 (fr):MK)=.i .i64 (fr)) (U cy (U db (U h2 (U (Aq o k v p (qs iR).1 (qs iR).2 (by rcases r5 iR with h | h | h;omega;exact h.2.1.2.2.1;exact h.2.1.2.2.1)) trivial)))))))) fun ac wd r=>?_
    have r:=r.eU 4 (M2:=[ao o 1 2,af o,ai o,.bx 33 (bE p),.bx 46 [.d (.jk),.d (.jk),.d (.jk)],.bx 24 [.z ((o.lf fr).node),.u ((o.lf fr).inc)],.rw 60 11 ((o.fh p)),.rw 33 10 ((o.bV p p.al))]) rfl rfl
    refine bB (y:=.ag [.d (.jk),.d (.jk),.d (.jk)]) (N':=[ao o 1 2,af o,ai o]) (rfl) (rfl) ?_
    exact bC tk tq hK rfl aB [] 2000 [0,1,2] r (by kernel_rfl) trivial
set_option maxRecDepth 100000 in
theorem ya (o:Ov) (k:Nat) (v:o.Inv k) (fr:Int) (hz : -9223372036854775808≤fr∧fr≤9223372036854775807) (p:bJ) (dm:p.al.length≤9223372036854775807) (cH:p.body.length≤9223372036854775807) (c9:p.ad.ay.length≤9223372036854775807) (cY:o.j5 fr p=false) (h1:p.kind=1):aL Tryz.prog 9 [.pt 0 0,.z fr,.ag (bE p)] [ao o 1 2,af o,ai o] (.ag [aj,aj,aj]) (ef o):=by
 have b6:=v.ok.s1
 refine aL.intro (by kernel_rfl) rfl rfl 109 rfl rfl fun D w0 K bs ac wd hK (aB:bs.m=3) r=>?_
 cases h0:(p.may) with
 | false=>
  refine bB (y:=.ag [aj,aj,aj]) (N':=[ao o 1 2,af o,ai o]) (rfl) (rfl) ?_
  exact bC tk tq hK rfl aB [(1,[(1,.mem [0,1,2] (aU) [ao o 1 2,af o,ai o]),(5,.aJ (.v (.bool false)))])] 2000 [0,1,2] r (by kernel_rfl) (U (dr o b6) (U ((by have k:=nF p dm cH c9;rw [h0] at k;exact k):aD Tryz.prog 26 [.ag (bE p)] (.v (.bool false))) trivial))
 | true=>
  have iR:p.may=true:=by assumption
  have bd:=((by have k:=nF p dm cH c9;rw [h0] at k;exact k):aD Tryz.prog 26 [.ag (bE p)] (.v (.bool true)))
  cases h1:(o.has fr) with
  | false=>
   refine bB (y:=.ag [aj,aj,aj]) (N':=[ao o 1 2,af o,ai o]) (rfl) (rfl) ?_
   exact bC tk tq hK rfl aB [(1,[(1,.mem [0,1,2] (aU) [ao o 1 2,af o,ai o]),(5,.aJ (.v (.bool true)))]),(3,[(5,.b false)])] 2000 [0,1,2] r (by kernel_rfl) (U (dr o b6) (U bd (U ((dX v.lk hz):b5 Tryz.prog 3 ((.i .i64 (fr))::List.map (fun (e:Nat×MK×DV)=>e.2.1) (aY o.ls))) (U ((fun _=>rfl):gp Tryz.prog 24 (.agg [(.int .i64 (0)),(.int .u64 (0))].toArray)) (U ((iq (by assumption)):∀ zz ∈ (aY o.ls:List (Nat×MK×DV)),zz.2.1≠.i .i64 (fr)) trivial)))))
  | true=>
   obtain ⟨bl,fj⟩:=mn (by assumption)
   have b3:=((dX v.lk hz):b5 Tryz.prog 3 ((.i .i64 (fr))::List.map (fun (e:Nat×MK×DV)=>e.2.1) (aY o.ls)))
   have cy:=((jT v.lk):(List.map (fun (e:Nat×MK×DV)=>e.2.1) (aY o.ls)).Nodup)
   have db:=(⟨bl,jf fj⟩:∃ b0,(aY o.ls:List (Nat×MK×DV))[o.li fr]?=some (b0,.i .i64 (fr),.ag [.z ((o.lf fr).node),.u ((o.lf fr).inc)]))
   cases h2:((p.kind:Int) != 1) with
   | false=>
    have b7:=gK h2
    cases h3:(o.sv) with
    | false=>
     refine bB (y:=.ag [aj,aj,aj]) (N':=[ao o 1 2,af o,ai o]) (rfl) (rfl) ?_
     exact bC tk tq hK rfl aB [(1,[(1,.mem [0,1,2] (aU) [ao o 1 2,af o,ai o]),(5,.aJ (.v (.bool true)))]),(3,[(5,.mk (o.li fr) (.i .i64 (fr)) (.ag [.z ((o.lf fr).node),.u ((o.lf fr).inc)]))]),(6,[(2,.b false)]),(8,[(1,.mem [0,1,2] (aZ) [ao o 1 2,af o,ai o])])] 2000 [0,1,2] r (by kernel_rfl) (U (dr o b6) (U bd (U b3 (U (rfl:(.i .i64 (fr):MK)=.i .i64 (fr)) (U cy (U db (U h2 (U ((by have k:=fk o;rw [h3] at k;exact k):aL Tryz.prog 23 [.pt 0 0] [ao o 1 2,af o,ai o] (aZ) [ao o 1 2,af o,ai o]) trivial))))))))
    | true=>
     have cZ:=((by have k:=fk o;rw [h3] at k;exact k):aL Tryz.prog 23 [.pt 0 0] [ao o 1 2,af o,ai o] (aU) [ao o 1 2,af o,ai o])
     cases h4:(o.cA fr) with
     | false=>
      refine bB (y:=.ag [aj,aj,aj]) (N':=[ao o 1 2,af o,ai o]) (rfl) (rfl) ?_
      exact bC tk tq hK rfl aB [(1,[(1,.mem [0,1,2] (aU) [ao o 1 2,af o,ai o]),(5,.aJ (.v (.bool true)))]),(3,[(5,.mk (o.li fr) (.i .i64 (fr)) (.ag [.z ((o.lf fr).node),.u ((o.lf fr).inc)]))]),(6,[(2,.b false)]),(8,[(1,.mem [0,1,2] (aU) [ao o 1 2,af o,ai o]),(6,.mem [0,1,2] (aZ) [ao o 1 2,af o,ai o])])] 2000 [0,1,2] r (by kernel_rfl) (U (dr o b6) (U bd (U b3 (U (rfl:(.i .i64 (fr):MK)=.i .i64 (fr)) (U cy (U db (U h2 (U cZ (U ((by have k:=e6 o fr;rw [h4] at k;exact k):aL Tryz.prog 19 [.pt 0 0,.z fr] [ao o 1 2,af o,ai o] (aZ) [ao o 1 2,af o,ai o]) trivial)))))))))
     | true=>
      have dp:=((by have k:=e6 o fr;rw [h4] at k;exact k):aL Tryz.prog 19 [.pt 0 0,.z fr] [ao o 1 2,af o,ai o] (aU) [ao o 1 2,af o,ai o])
      cases h5:((p.ad.server.node:Int)==o.self.node) with
      | false=>
       have ib:=ne_of_beq_false h5
       cases h6:(fa o.book p.ad) with
       | false=>
        refine bB (y:=.ag [aj,aj,aj]) (N':=[ao o 1 2,af o,ai o]) (rfl) (rfl) ?_
        exact bC tk tq hK rfl aB [(1,[(1,.mem [0,1,2] (aU) [ao o 1 2,af o,ai o]),(5,.aJ (.v (.bool true)))]),(3,[(5,.mk (o.li fr) (.i .i64 (fr)) (.ag [.z ((o.lf fr).node),.u ((o.lf fr).inc)]))]),(6,[(2,.b false)]),(8,[(1,.mem [0,1,2] (aU) [ao o 1 2,af o,ai o]),(6,.mem [0,1,2] (aU) [ao o 1 2,af o,ai o]),(19,.b false)]),(10,[(1,.mem [0,1,2] (.d (.ro 2 (procs o.rc))) [ao o 1 2,af o,ai o])]),(11,[(6,.call [.d (.ro 4 (aI o.book)),.ag [.z p.ad.server.node,.u p.ad.server.inc,.u p.ad.seq,.d (.ro 2 (procs p.ad.ay))]] (.tu [.em 31 4 (b4 (a9 o.book p.ad)),.v (.bool false)]))])] 2000 [0,1,2] r (by kernel_rfl) (U (dr o b6) (U bd (U b3 (U (rfl:(.i .i64 (fr):MK)=.i .i64 (fr)) (U cy (U db (U h2 (U cZ (U dp (U h5 (U (gS o k v) (U ((by have k:=Aj o.book p.ad (by have:=eX v.bk;omega) (fun x hx=>by have:=v.bk.nU x hx;omega) c9;rw [h6] at k;exact k):aD Tryz.prog 28 [.d (.ro 4 (aI o.book)),.ag [.z p.ad.server.node,.u p.ad.server.inc,.u p.ad.seq,.d (.ro 2 (procs p.ad.ay))]] (.tu [.em 31 4 (b4 (a9 o.book p.ad)),.v (.bool false)])) (U ((by first | exact gX _ | exact x9 _ _ _):dh (.tu [.em 31 4 (b4 (a9 o.book p.ad)),.v (.bool false)])) (U (cQ (4)) (U ((by first | rfl | (simp;done) | (simp<;>omega)):(o.book.length)=(aI o.book).length) (U ((by first | exact gJ _ | exact rU _):cg (aI o.book)=aI o.book) (U (cN (.z p.ad.server.node)) (U (cN (.u p.ad.server.inc)) (U (cN (.u p.ad.seq)) (U (cN (.ro 2 (procs p.ad.ay))) trivial))))))))))))))))))))
       | true=>
        exact absurd ⟨by assumption,by assumption,by omega,by assumption,by assumption,by omega,by assumption⟩ (Hj cY)
      | true=>
       have ib:=eq_of_beq h5
       refine bB (y:=.ag [aj,aj,aj]) (N':=[ao o 1 2,af o,ai o]) (rfl) (rfl) ?_
       exact bC tk tq hK rfl aB [(1,[(1,.mem [0,1,2] (aU) [ao o 1 2,af o,ai o]),(5,.aJ (.v (.bool true)))]),(3,[(5,.mk (o.li fr) (.i .i64 (fr)) (.ag [.z ((o.lf fr).node),.u ((o.lf fr).inc)]))]),(6,[(2,.b false)]),(8,[(1,.mem [0,1,2] (aU) [ao o 1 2,af o,ai o]),(6,.mem [0,1,2] (aU) [ao o 1 2,af o,ai o]),(19,.b true)])] 2000 [0,1,2] r (by kernel_rfl) (U (dr o b6) (U bd (U b3 (U (rfl:(.i .i64 (fr):MK)=.i .i64 (fr)) (U cy (U db (U h2 (U cZ (U dp (U h5 trivial))))))))))
   | true=>
    have b7:¬ _=_:=bne_iff_ne.1 h2
    exact absurd h1 (by omega)
set_option maxRecDepth 100000 in
theorem yb (o:Ov) (k:Nat) (v:o.Inv k) (fr:Int) (hz : -9223372036854775808≤fr∧fr≤9223372036854775807) (p:bJ) (dm:p.al.length≤9223372036854775807) (cH:p.body.length≤9223372036854775807) (c9:p.ad.ay.length≤9223372036854775807) (b:List aw) (uw:b=a9 o.book p.ad) (hy:o.j5 fr p=true):aL Tryz.prog 9 [.pt 0 0,.z fr,.ag (bE p)] [ao o 1 2,af o,ai o] (.ag [.sl 4 (di p fr (o.wb b).bs).length,aj,.sl 5 ((o.wb b).bu o.rc []).length]) ([.bx 70 [.z ((o.wb b).self.node),.u ((o.wb b).self.inc),.d (.ro 1 (ints (o.wb b).homes)),.n ((o.wb b).n),.sl 3 ((o.wb b).book.length),.mv 2],af o,ai (o.wb b),af (o.wb b),.rw 60 11 (di p fr (o.wb b).bs),.rw 62 4 ((o.wb b).bu o.rc [])]):=by
 have b6:=v.ok.s1
 have c8:(o.wb b).Inv k:=v.wb (ir hy).2.2.2.2.2.1 uw
 have CR:p.ad.may=true:=by rcases r5 (ir hy).1 with h | h | h;exact h.2.2.2.2.2;have:=(ir hy).2.2.1;omega;have:=(ir hy).2.2.1;omega
 refine aL.intro (by kernel_rfl) rfl rfl 109 rfl rfl fun D w0 K bs ac wd hK (aB:bs.m=3) r=>?_
 cases h0:(p.may) with
 | false=>
  exact absurd (ir hy) (fun hh=>by obtain ⟨a1,a2,a3,a4,a5,a6,a7⟩:=hh;first | omega | (simp_all;done))
 | true=>
  have iR:p.may=true:=by assumption
  have bd:=((by have k:=nF p dm cH c9;rw [h0] at k;exact k):aD Tryz.prog 26 [.ag (bE p)] (.v (.bool true)))
  cases h1:(o.has fr) with
  | false=>
   exact absurd (ir hy) (fun hh=>by obtain ⟨a1,a2,a3,a4,a5,a6,a7⟩:=hh;first | omega | (simp_all;done))
  | true=>
   obtain ⟨bl,fj⟩:=mn (by assumption)
   have b3:=((dX v.lk hz):b5 Tryz.prog 3 ((.i .i64 (fr))::List.map (fun (e:Nat×MK×DV)=>e.2.1) (aY o.ls)))
   have cy:=((jT v.lk):(List.map (fun (e:Nat×MK×DV)=>e.2.1) (aY o.ls)).Nodup)
   have db:=(⟨bl,jf fj⟩:∃ b0,(aY o.ls:List (Nat×MK×DV))[o.li fr]?=some (b0,.i .i64 (fr),.ag [.z ((o.lf fr).node),.u ((o.lf fr).inc)]))
   cases h2:((p.kind:Int) != 1) with
   | false=>
    have b7:=gK h2
    cases h3:(o.sv) with
    | false=>
     exact absurd (ir hy) (fun hh=>by obtain ⟨a1,a2,a3,a4,a5,a6,a7⟩:=hh;first | omega | (simp_all;done))
    | true=>
     have cZ:=((by have k:=fk o;rw [h3] at k;exact k):aL Tryz.prog 23 [.pt 0 0] [ao o 1 2,af o,ai o] (aU) [ao o 1 2,af o,ai o])
     cases h4:(o.cA fr) with
     | false=>
      exact absurd (ir hy) (fun hh=>by obtain ⟨a1,a2,a3,a4,a5,a6,a7⟩:=hh;first | omega | (simp_all;done))
     | true=>
      have dp:=((by have k:=e6 o fr;rw [h4] at k;exact k):aL Tryz.prog 19 [.pt 0 0,.z fr] [ao o 1 2,af o,ai o] (aU) [ao o 1 2,af o,ai o])
      cases h5:((p.ad.server.node:Int)==o.self.node) with
      | false=>
       have ib:=ne_of_beq_false h5
       cases h6:(fa o.book p.ad) with
       | false=>
        exact absurd (ir hy) (fun hh=>by obtain ⟨a1,a2,a3,a4,a5,a6,a7⟩:=hh;first | omega | (simp_all;done))
       | true=>
        refine ch (todo':=aft Tryz.f9 14) (E':=[(0,.pt 0 0),(1,.z fr),(5,.pt 3 0),(6,.pt 4 0),(9,.d (.ro 2 (procs o.rc)))]) (M':=[.bx 70 [.z o.self.node,.u o.self.inc,.d (.ro 1 (ints o.homes)),.n o.n,.sl 6 ((b4 b).length),.mv 2],af o,ai o,.bx 33 (bE p),.bx 46 [aj,aj,aj],.bx 24 [.z ((o.lf fr).node),.u ((o.lf fr).inc)],.rw 31 4 (b4 b)]) tk tq hK aB [(1,[(1,.mem [0,1,2] (aU) [ao o 1 2,af o,ai o]),(5,.aJ (.v (.bool true)))]),(3,[(5,.mk (o.li fr) (.i .i64 (fr)) (.ag [.z ((o.lf fr).node),.u ((o.lf fr).inc)]))]),(6,[(2,.b false)]),(8,[(1,.mem [0,1,2] (aU) [ao o 1 2,af o,ai o]),(6,.mem [0,1,2] (aU) [ao o 1 2,af o,ai o]),(19,.b false)]),(10,[(1,.mem [0,1,2] (.d (.ro 2 (procs o.rc))) [ao o 1 2,af o,ai o])]),(11,[(6,.call [.d (.ro 4 (aI o.book)),.ag [.z p.ad.server.node,.u p.ad.server.inc,.u p.ad.seq,.d (.ro 2 (procs p.ad.ay))]] (.tu [.em 31 4 (b4 b),.v (.bool true)]))])] 35 [0,1,2,3,4,5,6] [0,1,5,6,9] r (by kernel_rfl) (U (dr o b6) (U bd (U b3 (U (rfl:(.i .i64 (fr):MK)=.i .i64 (fr)) (U cy (U db (U h2 (U cZ (U dp (U h5 (U (gS o k v) (U ((by have k:=(uw▸Aj o.book p.ad (by have:=eX v.bk;omega) (fun x hx=>by have:=v.bk.nU x hx;omega) c9);rw [h6] at k;exact k):aD Tryz.prog 28 [.d (.ro 4 (aI o.book)),.ag [.z p.ad.server.node,.u p.ad.server.inc,.u p.ad.seq,.d (.ro 2 (procs p.ad.ay))]] (.tu [.em 31 4 (b4 b),.v (.bool true)])) (U ((by first | exact gX _ | exact x9 _ _ _):dh (.tu [.em 31 4 (b4 b),.v (.bool true)])) (U (cQ (4)) (U ((by first | rfl | (simp;done) | (simp<;>omega)):(o.book.length)=(aI o.book).length) (U ((by first | exact gJ _ | exact rU _):cg (aI o.book)=aI o.book) (U (cN (.z p.ad.server.node)) (U (cN (.u p.ad.server.inc)) (U (cN (.u p.ad.seq)) (U (cN (.ro 2 (procs p.ad.ay))) trivial)))))))))))))))))))) fun ac wd r=>?_
        have r:=(r.freeze [6] (M2:=[.bx 70 [.z o.self.node,.u o.self.inc,.d (.ro 1 (ints o.homes)),.n o.n,.sl 6 ((b4 b).length),.mv 2],af o,ai o,.bx 33 (bE p),.bx 46 [aj,aj,aj],.bx 24 [.z ((o.lf fr).node),.u ((o.lf fr).inc)],.rw 31 4 (cg (b4 b))]) (by kernel_rfl) rfl).cast (M':=[.bx 70 [.z ((o.wb b).self.node),.u ((o.wb b).self.inc),.d (.ro 1 (ints (o.wb b).homes)),.n ((o.wb b).n),.sl 6 ((o.wb b).book.length),.mv 2],af o,ai o,.bx 33 (bE p),.bx 46 [aj,aj,aj],.bx 24 [.z ((o.lf fr).node),.u ((o.lf fr).inc)],af (o.wb b)]) rfl (by rw [ux,List.length_map];rfl)
        refine b8 (todo':=hd Tryz.f9 0) (E':=[(0,.pt 0 0),(1,.z fr),(5,.pt 4 0),(6,.pt 5 0),(9,.d (.ro 2 (procs o.rc))),(12,.pt 6 0),(84,.d (.ro 2 (procs (o.wb b).bs))),(85,.n ((procs (o.wb b).bs).length)),(86,.z 0)]) (M':=[.bx 70 [.z ((o.wb b).self.node),.u ((o.wb b).self.inc),.d (.ro 1 (ints (o.wb b).homes)),.n ((o.wb b).n),.sl 3 ((o.wb b).book.length),.mv 2],af o,ai (o.wb b),af (o.wb b),.bx 33 (bE p),.bx 46 [aj,aj,aj],.bx 46 [aj,aj,aj]]) tk tq hK aB [(16,[(1,.mem [0,6,2] (.d (.ro 2 (procs (o.wb b).bs))) [.bx 70 [.z ((o.wb b).self.node),.u ((o.wb b).self.inc),.d (.ro 1 (ints (o.wb b).homes)),.n ((o.wb b).n),.sl 1 ((o.wb b).book.length),.mv 2],af (o.wb b),ai (o.wb b)])])] 2000 [0,1,2,6,3,4,7] [0,1,5,6,9,12,84,85,86] r (by kernel_rfl) (U (yN (o.wb b) b6 c8.lk) trivial) fun ac wd r=>?_
        refine aN.rounds (Φ:=fun (i:Nat) ac wd=>(i≤(o.wb b).bs.length)∧RB D w0 K 109 bs [(0,.pt 0 0),(1,.z fr),(5,.pt 4 0),(6,.pt 5 0),(9,.d (.ro 2 (procs o.rc))),(12,.pt 6 0),(84,.d (.ro 2 (procs (o.wb b).bs))),(85,.n ((o.wb b).bs.length)),(86,.n i)] [.bx 70 [.z ((o.wb b).self.node),.u ((o.wb b).self.inc),.d (.ro 1 (ints (o.wb b).homes)),.n ((o.wb b).n),.sl 3 ((o.wb b).book.length),.mv 2],af o,ai (o.wb b),af (o.wb b),.bx 33 (bE p),.bx 46 [aj,aj,aj],.bx 46 [.sl 7 ((di p fr (List.take i (o.wb b).bs)).length),aj,.sl 8 (0)],.rw 60 11 (di p fr (List.take i (o.wb b).bs)),.rw 62 4 ([])] ac wd) ((o.wb b).bs.length) ?_ (Nat.zero_le _) ⟨(Nat.zero_le _),(r.gW (E1:=[(0,.pt 0 0),(1,.z fr),(5,.pt 4 0),(6,.pt 5 0),(9,.d (.ro 2 (procs o.rc))),(12,.pt 6 0),(84,.d (.ro 2 (procs (o.wb b).bs))),(85,.n ((procs (o.wb b).bs).length)),(86,.z 0)]) (M2:=[.bx 70 [.z ((o.wb b).self.node),.u ((o.wb b).self.inc),.d (.ro 1 (ints (o.wb b).homes)),.n ((o.wb b).n),.sl 3 ((o.wb b).book.length),.mv 2],af o,ai (o.wb b),af (o.wb b),.bx 33 (bE p),.bx 46 [aj,aj,aj],.bx 46 [.sl 7 (0),aj,.sl 8 (0)],.rw 60 11 ([]),.rw 62 4 ([])]) (M1:=[.bx 70 [.z ((o.wb b).self.node),.u ((o.wb b).self.inc),.d (.ro 1 (ints (o.wb b).homes)),.n ((o.wb b).n),.sl 3 ((o.wb b).book.length),.mv 2],af o,ai (o.wb b),af (o.wb b),.bx 33 (bE p),.bx 46 [aj,aj,aj],.bx 46 [aj,aj,aj]]) [] [(6,0,60,11),(6,2,62,4)] (by kernel_rfl) (by kernel_rfl)).cast (by simp only [List.length_map];rfl) rfl⟩
        clear r
        rintro i cI bo ac wd ⟨aM,r⟩
        have lX:=fX c8
        cases h7:(decide ((((i:Nat):Int):Int)<(((o.wb b).bs.length:Nat):Int))) with
        | false=>
         have gE:=of_decide_eq_false h7
         refine bB (y:=.ag [.sl 4 ((di p fr (List.take i (o.wb b).bs)).length),aj,.sl 5 (((o.wb b).bu o.rc ([])).length)]) (N':=[.bx 70 [.z ((o.wb b).self.node),.u ((o.wb b).self.inc),.d (.ro 1 (ints (o.wb b).homes)),.n ((o.wb b).n),.sl 3 ((o.wb b).book.length),.mv 2],af o,ai (o.wb b),af (o.wb b),.rw 60 11 (di p fr (List.take i (o.wb b).bs)),.rw 62 4 (((o.wb b).bu o.rc ([])))]) ((by rw [show List.take i (o.wb b).bs=(o.wb b).bs from List.take_of_length_le (by omega)])) ((by rw [show List.take i (o.wb b).bs=(o.wb b).bs from List.take_of_length_le (by omega)])) ?_
         exact bC tk tq hK rfl aB [(17,[(0,.b false)]),(22,[(3,.mem [0,3,2,7,8] (.ag [.sl 3 ((di p fr (List.take i (o.wb b).bs)).length),aj,.sl 5 (((o.wb b).bu o.rc ([])).length)]) [.bx 70 [.z ((o.wb b).self.node),.u ((o.wb b).self.inc),.d (.ro 1 (ints (o.wb b).homes)),.n ((o.wb b).n),.sl 1 ((o.wb b).book.length),.mv 2],af (o.wb b),ai (o.wb b),.rw 60 11 (di p fr (List.take i (o.wb b).bs)),.dead,.rw 62 4 (((o.wb b).bu o.rc ([])))])])] 2000 [0,1,2,3,7,9] r (by kernel_rfl) (U h7 (U (kh (o.wb b) k c8 o.rc (di p fr (List.take i (o.wb b).bs)) ([]) (by simp) _ _ (by first | rfl | (simp;done)) (by first | rfl | (simp;done)):aL Tryz.prog 25 [.pt 0 0,.ag [.sl 3 ((di p fr (List.take i (o.wb b).bs)).length),aj,.sl 4 (0)],.d (.ro 2 (procs o.rc))] [.bx 70 [.z ((o.wb b).self.node),.u ((o.wb b).self.inc),.d (.ro 1 (ints (o.wb b).homes)),.n ((o.wb b).n),.sl 1 ((o.wb b).book.length),.mv 2],af (o.wb b),ai (o.wb b),.rw 60 11 (di p fr (List.take i (o.wb b).bs)),.rw 62 4 ([])] (.ag [.sl 3 ((di p fr (List.take i (o.wb b).bs)).length),aj,.sl 5 (((o.wb b).bu o.rc ([])).length)]) [.bx 70 [.z ((o.wb b).self.node),.u ((o.wb b).self.inc),.d (.ro 1 (ints (o.wb b).homes)),.n ((o.wb b).n),.sl 1 ((o.wb b).book.length),.mv 2],af (o.wb b),ai (o.wb b),.rw 60 11 (di p fr (List.take i (o.wb b).bs)),.dead,.rw 62 4 (((o.wb b).bu o.rc ([])))]) trivial))
        | true=>
         have gE:=of_decide_eq_true h7
         obtain ⟨lu,pN⟩:∃ x,(o.wb b).bs[i]?=some x:=⟨_,List.getElem?_eq_getElem (by omega)⟩
         cases h8:((lu.node:Int) != fr) with
         | false=>
          have lq:=gK h8
          exact b8 (todo':=hd Tryz.f9 0) (E':=[(0,.pt 0 0),(1,.z fr),(5,.pt 4 0),(6,.pt 5 0),(9,.d (.ro 2 (procs o.rc))),(12,.pt 6 0),(84,.d (.ro 2 (procs (o.wb b).bs))),(85,.n ((o.wb b).bs.length)),(86,.n (i+1))]) (M':=[.bx 70 [.z ((o.wb b).self.node),.u ((o.wb b).self.inc),.d (.ro 1 (ints (o.wb b).homes)),.n ((o.wb b).n),.sl 3 ((o.wb b).book.length),.mv 2],af o,ai (o.wb b),af (o.wb b),.bx 33 (bE p),.bx 46 [aj,aj,aj],.bx 46 [.sl 7 ((di p fr (List.take i (o.wb b).bs)).length),aj,.sl 8 (0)],.rw 60 11 (di p fr (List.take i (o.wb b).bs)),.rw 62 4 ([])]) tk tq hK aB [(17,[(0,.b true)]),(18,[(0,.ix (i) [.z lu.node,.u lu.inc])]),(19,[(3,.b false)]),(21,[(0,.z (((i+1:Nat):Int)))])] 2000 [0,1,2,3,4,5,6,7,8] [0,1,5,6,9,12,84,85,86] r (by kernel_rfl) (U h7 (U (aX ((i:Nat):Int)) (U (cK pN) (U h8 (U ((wi (by omega)):IntKind.i64.wrap ((((i:Nat):Int):Int)+1)=((i+1:Nat):Int)) trivial))))) fun ac wd r=>bo (by omega) ac wd ⟨(by omega),r.cast rfl (by first | (rw [F7 pN (by omega),List.length_append];rfl) | (rw [GL pN (by omega)];done))⟩
         | true=>
          have lq:¬ _=_:=bne_iff_ne.1 h8
          exact b8 (todo':=hd Tryz.f9 0) (E':=[(0,.pt 0 0),(1,.z fr),(5,.pt 4 0),(6,.pt 5 0),(9,.d (.ro 2 (procs o.rc))),(12,.pt 6 0),(84,.d (.ro 2 (procs (o.wb b).bs))),(85,.n ((o.wb b).bs.length)),(86,.n (i+1))]) (M':=[.bx 70 [.z ((o.wb b).self.node),.u ((o.wb b).self.inc),.d (.ro 1 (ints (o.wb b).homes)),.n ((o.wb b).n),.sl 3 ((o.wb b).book.length),.mv 2],af o,ai (o.wb b),af (o.wb b),.bx 33 (bE p),.bx 46 [aj,aj,aj],.bx 46 [.sl 7 ((di p fr (List.take i (o.wb b).bs)).length+(1)),aj,.sl 8 (0)],.rw 60 11 (di p fr (List.take i (o.wb b).bs)++[[.z lu.node,.z 1,.z 0,.v (.int .u64 0),.z 0,.v (.slice none 0 0),.v (.slice none 0 0),.z p.ad.server.node,.u p.ad.server.inc,.u p.ad.seq,.em 24 2 (procs p.ad.ay)]]),.rw 62 4 ([])]) tk tq hK aB [(17,[(0,.b true)]),(18,[(0,.ix (i) [.z lu.node,.u lu.inc])]),(19,[(3,.b true)]),(20,[(6,.aJ (.ag [.z lu.node,.z 1,.z 0,.v (.int .u64 0),.z 0,.v (.slice none 0 0),.v (.slice none 0 0),.z p.ad.server.node,.u p.ad.server.inc,.u p.ad.seq,.em 24 2 (procs p.ad.ay)]))]),(21,[(0,.z (((i+1:Nat):Int)))])] 2000 [0,1,2,3,4,5,6,7,8] [0,1,5,6,9,12,84,85,86] r (by kernel_rfl) (U h7 (U (aX ((i:Nat):Int)) (U (cK pN) (U h8 (U (zt lu.node p.ad (by have:=aw.gR CR;omega)) (U (cQ ((procs p.ad.ay).length)) (U ((by first | rfl | (simp;done) | (simp<;>omega)):((di p fr (List.take i (o.wb b).bs)).length)=(di p fr (List.take i (o.wb b).bs):List (List DV)).length) (U ((by first | rfl | (simp;done) | (simp<;>omega)):(1)=([[.z lu.node,.z 1,.z 0,.v (.int .u64 0),.z 0,.v (.slice none 0 0),.v (.slice none 0 0),.z p.ad.server.node,.u p.ad.server.inc,.u p.ad.seq,.em 24 2 (procs p.ad.ay)]]:List (List DV)).length) (U ((by first | omega | (have:=F8 p fr (List.take i (o.wb b).bs);simp at *;omega)):(2*(((di p fr (List.take i (o.wb b).bs)).length)+(1))+0)*136≤281474976710656) (U ((by first | omega | (have:=F8 p fr (List.take i (o.wb b).bs);simp at *;omega)):((di p fr (List.take i (o.wb b).bs)).length)+(1)<4611686018427387904) (U ((by simp [bA,AV.one,cd]):bA ([[.z lu.node,.z 1,.z 0,.v (.int .u64 0),.z 0,.v (.slice none 0 0),.v (.slice none 0 0),.z p.ad.server.node,.u p.ad.server.inc,.u p.ad.seq,.em 24 2 (procs p.ad.ay)]])) (U ((wi (by omega)):IntKind.i64.wrap ((((i:Nat):Int):Int)+1)=((i+1:Nat):Int)) trivial)))))))))))) fun ac wd r=>bo (by omega) ac wd ⟨(by omega),r.cast rfl (by first | (rw [F7 pN (by omega),List.length_append];rfl) | (rw [GL pN (by omega)];done))⟩
      | true=>
       have ib:=eq_of_beq h5
       exact absurd (ir hy) (fun hh=>by obtain ⟨a1,a2,a3,a4,a5,a6,a7⟩:=hh;first | omega | (simp_all;done))
   | true=>
    have b7:¬ _=_:=bne_iff_ne.1 h2
    exact absurd (ir hy) (fun hh=>by obtain ⟨a1,a2,a3,a4,a5,a6,a7⟩:=hh;first | omega | (simp_all;done))
set_option maxRecDepth 100000 in
theorem Kk (o:Ov) (k:Nat) (v:o.Inv k) (fr:Int) (hz : -9223372036854775808≤fr∧fr≤9223372036854775807) (p:bJ) (dm:p.al.length≤9223372036854775807) (cH:p.body.length≤9223372036854775807) (c9:p.ad.ay.length≤9223372036854775807) (hm:p.may=true) (hh:o.has fr=true) (hk:p.kind≠1):aL Tryz.prog 9 [.pt 0 0,.z fr,.ag (bE p)] [ao o 1 2,af o,ai o] (.ag [.sl 3 (o.fh p).length,.sl 4 (o.bV p p.al).length,aj]) (ef o++[.rw 60 11 (o.fh p),.rw 33 10 (o.bV p p.al)]):=by
 have b6:=v.ok.s1
 refine aL.intro (by kernel_rfl) rfl rfl 109 rfl rfl fun D w0 K bs ac wd hK (aB:bs.m=3) r=>?_
 cases h0:(p.may) with
 | false=>
  exact absurd h0 (by simp_all)
 | true=>
  have iR:p.may=true:=by assumption
  have bd:=((by have k:=nF p dm cH c9;rw [h0] at k;exact k):aD Tryz.prog 26 [.ag (bE p)] (.v (.bool true)))
  cases h1:(o.has fr) with
  | false=>
   exact absurd h1 (by simp_all)
  | true=>
   obtain ⟨bl,fj⟩:=mn (by assumption)
   have b3:=((dX v.lk hz):b5 Tryz.prog 3 ((.i .i64 (fr))::List.map (fun (e:Nat×MK×DV)=>e.2.1) (aY o.ls)))
   have cy:=((jT v.lk):(List.map (fun (e:Nat×MK×DV)=>e.2.1) (aY o.ls)).Nodup)
   have db:=(⟨bl,jf fj⟩:∃ b0,(aY o.ls:List (Nat×MK×DV))[o.li fr]?=some (b0,.i .i64 (fr),.ag [.z ((o.lf fr).node),.u ((o.lf fr).inc)]))
   cases h2:((p.kind:Int) != 1) with
   | false=>
    have b7:=gK h2
    exact absurd hk (by omega)
   | true=>
    have b7:¬ _=_:=bne_iff_ne.1 h2
    refine bB (y:=.ag [.sl 3 ((o.fh p).length),.sl 4 ((o.bV p p.al).length),aj]) (N':=[ao o 1 2,af o,ai o,.rw 60 11 ((o.fh p)),.rw 33 10 ((o.bV p p.al))]) (rfl) (rfl) ?_
    exact bC tk tq hK rfl aB [(1,[(1,.mem [0,1,2] (aU) [ao o 1 2,af o,ai o]),(5,.aJ (.v (.bool true)))]),(3,[(5,.mk (o.li fr) (.i .i64 (fr)) (.ag [.z ((o.lf fr).node),.u ((o.lf fr).inc)]))]),(6,[(2,.b true)]),(7,[(2,.mem [0,1,2] (.ag [.sl 3 ((o.fh p).length),.sl 4 ((o.bV p p.al).length),aj]) [ao o 1 2,af o,ai o,.rw 60 11 ((o.fh p)),.rw 33 10 ((o.bV p p.al))])])] 2000 [0,1,2,6,7] r (by kernel_rfl) (U (dr o b6) (U bd (U b3 (U (rfl:(.i .i64 (fr):MK)=.i .i64 (fr)) (U cy (U db (U h2 (U (Aq o k v p (qs iR).1 (qs iR).2 (by rcases r5 iR with h | h | h;omega;exact h.2.1.2.2.1;exact h.2.1.2.2.1)) trivial))))))))
end Go.Proofs.YtlinpknagdgphaaGreat
namespace Go.Proofs.YtlinpknagdgphaaGreat
open Go.RowKit
def IP (b:List aw) (p:ah):List ah:=p::(b.filter fun a=>decide (0≤fB b p a.server)).map aw.server
def GM (l:List aw) (p:ah):List ah:=if p.low then eW (IP (book l) p) else []
theorem vL {l:List aw} {p:ah} (hp:p.eJ):kl l p=GM l p:=by
 unfold GM
 split
 ·rename_i h
  rw [← Nh hp h (Nat.le_refl _)];unfold BY IP;rw [List.take_length]
 ·rename_i h
  unfold kl
  rw [if_neg]
  rintro ⟨h1,h2⟩
  exact h (by unfold ah.low;rw [h1,decide_eq_true h2];rfl)
def Hk (l:List aw) (p:ah) (to:Int):Int×Bool:=
 if to=p.node then (0,false) else match (book l).find? (fun a=>decide (a.server.node=to)) with
 | none=>(0,false)
 | some a=>if fB (book l) p a.server<0 then (0,false) else match (lR (book l) p (book l).length).find? (fun q=>fB (book l) q a.server==fB (book l) p a.server-1) with
  | none=>(0,false)
  | some q=>(q.node,true)
theorem P0 {l:List aw} {p:ah} {to:Int}:cm l p to=Hk l p to:=by
 unfold Hk cm
 by_cases dN:to=p.node
 ·rw [if_pos dN,if_pos dN]
 ·rw [if_neg dN,if_neg dN]
  cases IQ:(book l).find? (fun a=>decide (a.server.node=to)) with
  | none=>rfl
  | some a=>
   dsimp only
   have hm:=List.mem_of_find?_eq_some IQ
   obtain ⟨i,hi,rfl⟩:=List.getElem_of_mem hm
   have ga:(book l)[i]?=some (book l)[i]:=List.getElem?_eq_getElem hi
   have hn:(book l)[i].server.node=to:=by simpa using List.find?_some IQ
   by_cases hs:fB (book l) p (book l)[i].server<0
   ·have h0:=J9 ga hs
    rw [if_pos hs]
    cases hd:eK (bG (book l) (book l)[i].server) p with
    | none=>rfl
    | some s=>rw [hd] at h0;cases h0
   ·rw [if_neg hs]
    obtain ⟨s,h1,h2,h3⟩:=J8 ga hs (by omega)
    simp only [h1]
    have:(jn (book l) p).find? (fi (book l) (book l)[i].server s)=(lR (book l) p (book l).length).find? (fun q=>fB (book l) q (book l)[i].server==fB (book l) p (book l)[i].server-1):=by
     rw [QS (dS l)]
     congr 1
     funext q
     exact Ly ga h3 h2 rfl
    rw [this]
    try (cases (lR (book l) p (book l).length).find? (fun q=>fB (book l) q (book l)[i].server==fB (book l) p (book l)[i].server-1)<;>rfl)
end Go.Proofs.YtlinpknagdgphaaGreat
namespace Go.Proofs.YtlinpknagdgphaaGreat
open Go.RowKit
inductive LA:List AV→List AV→Prop where
 | nil:LA [] []
 | refl (c:AV) {l l':List AV} (t:LA l l'):LA (c::l) (c::l')
 | ro (k:Nat) {l l':List AV} (t:LA l l'):LA (aj::l) (.d (.ro k [])::l')
 | ag {m m' l l':List AV} (h:LA m m') (t:LA l l'):LA (.ag m::l) (.ag m'::l')
theorem LA.ok {l l':List AV} (h:LA l l'):l.length=l'.length∧∀ {K:World→Prop} {β:Beta} (j:Nat) c c' y,l[j]?=some c→l'[j]?=some c'→aE K β c y→aE K β c' y:=by
 induction h with
 | nil=>exact ⟨rfl,fun j c c' y h1=>by simp at h1⟩
 | refl c t ih=>
  refine ⟨by simp [ih.1],fun j c1 c2 y h1 h2 r=>?_⟩
  cases j with
  | zero=>simp at h1 h2;subst h1 h2;exact r
  | succ j=>exact ih.2 j c1 c2 y (by simpa using h1) (by simpa using h2) r
 | ro k t ih=>
  refine ⟨by simp [ih.1],fun j c1 c2 y h1 h2 r=>?_⟩
  cases j with
  | zero=>
   simp at h1 h2;subst h1 h2
   cases r with | d r=>exact .d (Gy k r)
  | succ j=>exact ih.2 j c1 c2 y (by simpa using h1) (by simpa using h2) r
 | @ag m m' l l' h t CT ih=>
  refine ⟨by simp [ih.1],fun j c1 c2 y h1 h2 r=>?_⟩
  cases j with
  | zero=>
   simp at h1 h2;subst h1 h2
   cases r with
   | ag ys hl hr=>
    refine .ag ys (by rw [hl,CT.1]) fun i c y g1 g2=>?_
    obtain ⟨aK,-⟩:=List.getElem?_eq_some_iff.1 g1
    have g3:=List.getElem?_eq_getElem (l:=m) (i:=i) (by have:=CT.1;omega)
    exact CT.2 i _ c y g3 g1 (hr i _ y g3 g2)
  | succ j=>exact ih.2 j c1 c2 y (by simpa using h1) (by simpa using h2) r
theorem aL.args {P:Program} {f:FuncId} {l l':List AV} {M M':List au} {x:AV} (h:aL P f l' M x M') (a:LA l l'):aL P f l M x M':=
 ⟨h.1,fun ys R hK hl hr=>h.2 ys R hK (by rw [hl,a.ok.1]) fun j c' y h1 h2=>by
  obtain ⟨aK,-⟩:=List.getElem?_eq_some_iff.1 h1
  have g:=List.getElem?_eq_getElem (l:=l) (i:=j) (by rw [a.ok.1];exact aK)
  exact a.ok.2 j _ c' y g h1 (hr j _ y g h2)⟩
def x0:Ov:=⟨⟨1,1⟩,[0,0,1,2],2,[⟨⟨1,1⟩,1,[]⟩],0,[]⟩
def x1:Ov:=⟨⟨1,1⟩,[0,0,1,2],2,[⟨⟨1,1⟩,2,[⟨2,5⟩]⟩],1,[(0,2,⟨2,5⟩)]⟩
def x2:Ov:=⟨⟨1,1⟩,[0,0,1,2],2,[⟨⟨1,1⟩,2,[⟨2,5⟩]⟩,⟨⟨2,5⟩,1,[⟨1,1⟩]⟩],1,[(0,2,⟨2,5⟩)]⟩
def x3:Ov:=⟨⟨1,1⟩,[0,0,1,2],2,[⟨⟨1,1⟩,2,[⟨2,5⟩]⟩,⟨⟨2,5⟩,1,[⟨1,1⟩]⟩],2,[(0,2,⟨2,5⟩),(1,3,⟨3,1⟩)]⟩
def xp:bJ:=⟨1,⟨0,0⟩,0,[],[],⟨⟨2,5⟩,1,[⟨1,1⟩]⟩⟩
def xq:bJ:=⟨2,⟨3,1⟩,8,[⟨1,1,1,0⟩,⟨4,1,1,0⟩],[120],⟨⟨0,0⟩,0,[]⟩⟩
theorem CU:x0.Inv 1:=F5 (self:=⟨1,1⟩) (homes:=[0,0,1,2]) (by kernel_rfl)
theorem IS:(x0.ae ⟨2,5⟩).nw=x1:=by kernel_rfl
theorem Tx:x1.wb (a9 x1.book xp.ad)=x2:=by kernel_rfl
theorem Ty:x2.ae ⟨3,1⟩=x3:=by kernel_rfl
theorem IT:x1.Inv 3:=zC CU ⟨2,5⟩ (by omega)
theorem IU:x2.Inv 3:=IT.wb (a:=xp.ad) (b:=a9 x1.book xp.ad) (by unfold xp x1;dsimp only;omega) rfl
theorem Tz:x3.Inv 5:=zC IU ⟨3,1⟩ (by omega)
theorem IV:x0.rc=[⟨1,1⟩]:=by unfold Ov.rc;rw [vL (by unfold ah.eJ x0;dsimp only;omega)];kernel_rfl
theorem IW:x1.rc=[⟨1,1⟩]:=by unfold Ov.rc;rw [vL (by unfold ah.eJ x1;dsimp only;omega)];kernel_rfl
theorem IX:x2.rc=[⟨1,1⟩,⟨2,5⟩]:=by unfold Ov.rc;rw [vL (by unfold ah.eJ x2;dsimp only;omega)];kernel_rfl
theorem TA:x3.rc=[⟨1,1⟩,⟨2,5⟩]:=by unfold Ov.rc;rw [vL (by unfold ah.eJ x3;dsimp only;omega)];kernel_rfl
theorem TB:x3.cz 4=(2,true):=by
 have:x3.cB 4=some 2:=by unfold Ov.cB;rw [P0];kernel_rfl
 unfold Ov.cz;rw [this];rfl
theorem TC:xp.may=true:=qq (.inl ⟨rfl,rfl,rfl,rfl,rfl,(show xp.ad.may=true by kernel_rfl)⟩)
theorem TD:xq.may=true:=qq (.inr (.inl ⟨rfl,⟨(show xq.src.jo=true by kernel_rfl),by unfold xq;dsimp only;omega,by unfold xq;dsimp only;omega,by unfold xq;simp,rfl,rfl,rfl,fun i h g=>by
  match i,g with
  | 0,g=>cases g;unfold xq;dsimp only;exact ⟨by omega,by omega,by omega,by omega,by omega,fun q h=>absurd h (by omega)⟩
  | 1,g=>cases g;unfold xq;dsimp only;exact ⟨by omega,by omega,by omega,by omega,by omega,fun q _ g=>by cases g;dsimp only;omega⟩
  | k+2,g=>cases g⟩,by unfold xq;simp,by unfold xq;simp,fun i h g=>by
  match i,g with
  | 0,g=>cases g;exact ⟨by decide,by decide,rfl⟩
  | 1,g=>cases g;exact ⟨by decide,by decide,rfl⟩
  | k+2,g=>cases g⟩))
theorem TE:x3.bn [] (x3.bf xq.al)=[(0,2,[⟨4,1,1,0⟩])]:=by
 have e:x3.bf xq.al=[⟨4,1,1,0⟩]:=by kernel_rfl
 rw [e];unfold Ov.bn;simp only [List.foldl_cons,List.foldl_nil,TB];rfl
theorem Q0:aL Tryz.prog 6 [.ag [.z 1,.u 1],.d (.ro 1 (ints [0,0,1,2]))] [] (.tu [.pt 0 0,.d (.v (.int .i64 0))]) [ao x0 1 2,af x0,ai x0]:=Hg ⟨1,1⟩ [0,0,1,2] (by decide) (show lS ⟨1,1⟩ [0,0,1,2]=true by kernel_rfl)
theorem Q1:aL Tryz.prog 7 [.pt 0 0,.ag [.z 2,.u 5]] [ao x0 1 2,af x0,ai x0] (.ag [.sl 3 1,aj,.sl 4 0]) [ao x1 1 2,af x1,ai x1,.rw 60 11 ([j4 2 ⟨⟨1,1⟩,2,[⟨2,5⟩]⟩]),.rw 62 4 ([])]:=by
 have k:=OW x0 1 CU (by omega) ⟨2,5⟩ (by kernel_rfl) (by kernel_rfl) (by kernel_rfl)
 rw [show (x0.ae ⟨2,5⟩).nw.bu x0.rc (x0.aH 2)=[] from by rw [IS];unfold Ov.bu;rw [IV,IW];kernel_rfl,show x0.aG 2++br (x0.ae ⟨2,5⟩) 2 (x0.ae ⟨2,5⟩).bs=[j4 2 ⟨⟨1,1⟩,2,[⟨2,5⟩]⟩] from by kernel_rfl,IS] at k
 exact k
theorem Q2:aL Tryz.prog 9 [.pt 0 0,.z 2,.ag [.z 1,.z 0,.d (.v (.int .u64 0)),.z 0,aj,aj,.z 2,.d (.v (.int .u64 5)),.d (.v (.int .u64 1)),.d (.ro 2 (procs [⟨1,1⟩]))]] [ao x1 1 2,af x1,ai x1] (.ag [.sl 4 0,aj,.sl 5 1]) [ao x2 3 2,af x1,ai x2,af x2,.rw 60 11 ([]),.rw 62 4 ([[.z 1,.z 0,.v (.int .u64 0),.ro 2 (procs [⟨1,1⟩,⟨2,5⟩])]])]:=by
 have k:=yb x1 3 IT 2 (by omega) xp (by decide) (by decide) (by decide) (a9 x1.book xp.ad) rfl (by unfold Ov.j5;rw [TC];kernel_rfl)
 rw [Tx,show x2.bu x1.rc []=[[.z 1,.z 0,.v (.int .u64 0),.ro 2 (procs [⟨1,1⟩,⟨2,5⟩])]] from by unfold Ov.bu;rw [IW,IX];kernel_rfl,show di xp 2 x2.bs=[] from by kernel_rfl] at k
 exact k.args (.refl _ (.refl _ (.ag (.refl _ (.refl _ (.refl _ (.refl _ (.ro 4 (.ro 1 (.refl _ (.refl _ (.refl _ (.refl _ .nil)))))))))) .nil)))
theorem Q3:aL Tryz.prog 7 [.pt 0 0,.ag [.z 3,.u 1]] [ao x2 1 2,af x2,ai x2] (.ag [.sl 3 0,aj,.sl 4 1]) [ao x3 1 2,af x3,ai x3,.rw 60 11 ([]),.rw 62 4 ([[.z 2,.z 3,.v (.int .u64 1),.v (.slice none 0 0)]])]:=by
 have k:=OX x2 3 IU (by omega) ⟨3,1⟩ (by kernel_rfl) (by kernel_rfl) (by kernel_rfl)
 rw [Ty,show x2.aG 3=[] from by kernel_rfl,show x2.aH 3=[] from by kernel_rfl,show x3.bu x2.rc=fun l=>l from by funext l;unfold Ov.bu;rw [IX,TA];rfl] at k
 exact k
theorem Q4:aL Tryz.prog 9 [.pt 0 0,.z 3,.ag [.z 2,.z 3,.d (.v (.int .u64 1)),.z 8,.d (.ro 4 (al xq.al)),.d (.ro 1 (bc [120])),.z 0,.d (.v (.int .u64 0)),.d (.v (.int .u64 0)),aj]] [ao x3 1 2,af x3,ai x3] (.ag [.sl 3 1,.sl 4 1,aj]) [ao x3 1 2,af x3,ai x3,.rw 60 11 ([[.z 2,.z 2,.z 3,.v (.int .u64 1),.z 7,.ro 4 (al [⟨4,1,1,0⟩]),.em 5 1 (bc [120]),.z 0,.v (.int .u64 0),.v (.int .u64 0),.v (.slice none 0 0)]]),.rw 33 10 ([[.z 2,.z 3,.v (.int .u64 1),.z 8,.ro 4 (al [⟨1,1,1,0⟩]),.em 5 1 (bc [120]),.z 0,.v (.int .u64 0),.v (.int .u64 0),.v (.slice none 0 0)]])]:=by
 have k:=Kk x3 5 Tz 3 (by omega) xq (by decide) (by decide) (by decide) TD (by kernel_rfl) (by decide)
 rw [show x3.fh xq=[[.z 2,.z 2,.z 3,.v (.int .u64 1),.z 7,.ro 4 (al [⟨4,1,1,0⟩]),.em 5 1 (bc [120]),.z 0,.v (.int .u64 0),.v (.int .u64 0),.v (.slice none 0 0)]] from by unfold Ov.fh Ov.ks;rw [TE];kernel_rfl,show x3.bV xq xq.al=[[.z 2,.z 3,.v (.int .u64 1),.z 8,.ro 4 (al [⟨1,1,1,0⟩]),.em 5 1 (bc [120]),.z 0,.v (.int .u64 0),.v (.int .u64 0),.v (.slice none 0 0)]] from by kernel_rfl] at k
 exact k.args (.refl _ (.refl _ (.ag (.refl _ (.refl _ (.refl _ (.refl _ (.refl _ (.refl _ (.refl _ (.refl _ (.refl _ (.ro 2 .nil)))))))))) .nil)))
set_option maxRecDepth 100000 in
theorem qR (a:Int) (b:Nat):aD Tryz.prog 15 [.z a,.d (.v (.int .u64 (b)))] (DV.ag [.z a,.u b]):=by
 refine aD.intro (by kernel_rfl) rfl rfl 8 rfl rfl fun w0 K ac hK r=>?_
 rw [show (DV.ag [.z a,.u b]:DV)=.ag [.z a,.v (.int .u64 (b))] from rfl]
 exact aQ tk tq hK rfl [] 2000 r (by kernel_rfl) trivial
set_option maxRecDepth 100000 in
theorem qv :aD Tryz.prog 5 [] (.v (.bool true)):=by
 refine aD.intro (by kernel_rfl) rfl rfl 127 rfl rfl fun w0 K ac hK r=>?_
 refine q5 (todo':=aft Tryz.f5 7) (E':=[(0,aZ),(3,.pt 6 0),(4,.pt 11 0),(5,.pt 14 0),(6,.pt 19 0)]) (M':=[.dead,ao x3 8 3,af x1,ai x3,.rw 60 11 ([j4 2 ⟨⟨1,1⟩,2,[⟨2,5⟩]⟩]),.rw 62 4 ([]),.bx 46 [.sl 4 (1),aj,.sl 5 (0)],.dead,af x3,.rw 60 11 ([]),.rw 62 4 ([[.z 1,.z 0,.v (.int .u64 0),.ro 2 (procs [⟨1,1⟩,⟨2,5⟩])]]),.bx 46 [.sl 9 (0),aj,.sl 10 (1)],.rw 60 11 ([]),.rw 62 4 ([[.z 2,.z 3,.v (.int .u64 1),.v (.slice none 0 0)]]),.bx 46 [.sl 12 (0),aj,.sl 13 (1)],.dead,.dead,.rw 60 11 ([[.z 2,.z 2,.z 3,.v (.int .u64 1),.z 7,.ro 4 (al [⟨4,1,1,0⟩]),.em 5 1 (bc [120]),.z 0,.v (.int .u64 0),.v (.int .u64 0),.v (.slice none 0 0)]]),.rw 33 10 ([[.z 2,.z 3,.v (.int .u64 1),.z 8,.ro 4 (al [⟨1,1,1,0⟩]),.em 5 1 (bc [120]),.z 0,.v (.int .u64 0),.v (.int .u64 0),.v (.slice none 0 0)]]),.bx 46 [.sl 17 (1),.sl 18 (1),aj]]) tk tq hK [(1,[(0,.aJ (.ag [.z 1,.v (.int .u64 1)])),(1,.stay [] (.ro 1 (ints [0,0,1,2]))),(2,.mem [] (.tu [.pt 0 0,.z 0]) [ao x0 1 2,af x0,ai x0])]),(2,[(8,.mem [1,2,3] (.d (.ro 2 (procs [⟨1,1⟩]))) [ao x0 1 2,af x0,ai x0]),(9,.z (1))]),(4,[(1,.aJ (.ag [.z 2,.v (.int .u64 5)])),(2,.mem [1,2,3] (.ag [.sl 3 (1),aj,.sl 4 (0)]) [ao x1 1 2,af x1,ai x1,.rw 60 11 ([j4 2 ⟨⟨1,1⟩,2,[⟨2,5⟩]⟩]),.rw 62 4 ([])])]),(5,[(1,.aJ (.ag [.z 2,.v (.int .u64 5)])),(2,.aJ (.ag [.z 1,.v (.int .u64 1)])),(3,.stay [] (.ro 2 (procs [⟨1,1⟩]))),(6,.mem [1,2,3] (.ag [.sl 4 (0),aj,.sl 5 (1)]) [ao x2 3 2,af x1,ai x2,af x2,.rw 60 11 ([]),.rw 62 4 ([[.z 1,.z 0,.v (.int .u64 0),.ro 2 (procs [⟨1,1⟩,⟨2,5⟩])]])])]),(6,[(1,.aJ (.ag [.z 3,.v (.int .u64 1)])),(2,.mem [1,8,3] (.ag [.sl 3 (0),aj,.sl 4 (1)]) [ao x3 1 2,af x3,ai x3,.rw 60 11 ([]),.rw 62 4 ([[.z 2,.z 3,.v (.int .u64 1),.v (.slice none 0 0)]])])]),(7,[(1,.aJ (.ag [.z 3,.v (.int .u64 1)])),(4,.stay [] (.ro 4 (al xq.al))),(8,.mem [1,8,3] (.ag [.sl 3 (1),.sl 4 (1),aj]) [ao x3 1 2,af x3,ai x3,.rw 60 11 ([[.z 2,.z 2,.z 3,.v (.int .u64 1),.z 7,.ro 4 (al [⟨4,1,1,0⟩]),.em 5 1 (bc [120]),.z 0,.v (.int .u64 0),.v (.int .u64 0),.v (.slice none 0 0)]]),.rw 33 10 ([[.z 2,.z 3,.v (.int .u64 1),.z 8,.ro 4 (al [⟨1,1,1,0⟩]),.em 5 1 (bc [120]),.z 0,.v (.int .u64 0),.v (.int .u64 0),.v (.slice none 0 0)]])])])] 17 [0,1,2,3,4,5,6,7,8,9,10,11,12,13,14,15,16,17,18,19] [0,3,4,5,6] r (by kernel_rfl) (U (qR 1 1) (U (cQ (1)) (U (rfl:(4)=([[.z 0],[.z 0],[.z 1],[.z 2]]:List (List DV)).length) (U (rfl:cg ([[.z 0],[.z 0],[.z 1],[.z 2]])=ints [0,0,1,2]) (U (Q0) (U (Ak:nL Tryz.prog 38) (U ((by have k:=gS x0 1 CU;rw [IV] at k;exact k):aL Tryz.prog 12 [.pt 0 0] [ao x0 1 2,af x0,ai x0] (.d (.ro 2 (procs [⟨1,1⟩]))) [ao x0 1 2,af x0,ai x0]) (U ((by first | rfl | (simp;done)):(((procs [⟨1,1⟩]).length:Nat):Int)=1) (U (qR 2 5) (U (Q1) (U (qR 2 5) (U (qR 1 1) (U (cQ (2)) (U (rfl:(1)=([[.z 1,.v (.int .u64 1)]]:List (List DV)).length) (U (rfl:cg ([[.z 1,.v (.int .u64 1)]])=procs [⟨1,1⟩]) (U (Q2) (U (qR 3 1) (U (Q3) (U (qR 3 1) (U (cQ (4)) (U (rfl:(2)=([[.z 1,.v (.int .u64 1),.v (.int .u64 1),.v (.int .u64 0)],[.z 4,.v (.int .u64 1),.v (.int .u64 1),.v (.int .u64 0)]]:List (List DV)).length) (U (rfl:cg ([[.z 1,.v (.int .u64 1),.v (.int .u64 1),.v (.int .u64 0)],[.z 4,.v (.int .u64 1),.v (.int .u64 1),.v (.int .u64 0)]])=al xq.al) (U ((by simp):(1)=([[.v (.int .u8 120)]]:List (List DV)).length) (U ((by simp):0<(1)) (U (Q4) trivial))))))))))))))))))))))))) fun ac wd r=>?_
 have r:=r.freeze (M1:=[.dead,ao x3 8 3,af x1,ai x3,.rw 60 11 (cg ([j4 2 ⟨⟨1,1⟩,2,[⟨2,5⟩]⟩])),.rw 62 4 ([]),.bx 46 [.sl 4 (1),aj,.sl 5 (0)],.dead,af x3,.rw 60 11 ([]),.rw 62 4 ([[.z 1,.z 0,.v (.int .u64 0),.ro 2 (procs [⟨1,1⟩,⟨2,5⟩])]]),.bx 46 [.sl 9 (0),aj,.sl 10 (1)],.rw 60 11 ([]),.rw 62 4 ([[.z 2,.z 3,.v (.int .u64 1),.v (.slice none 0 0)]]),.bx 46 [.sl 12 (0),aj,.sl 13 (1)],.dead,.dead,.rw 60 11 (cg ([[.z 2,.z 2,.z 3,.v (.int .u64 1),.z 7,.ro 4 (al [⟨4,1,1,0⟩]),.em 5 1 (bc [120]),.z 0,.v (.int .u64 0),.v (.int .u64 0),.v (.slice none 0 0)]])),.rw 33 10 (cg ([[.z 2,.z 3,.v (.int .u64 1),.z 8,.ro 4 (al [⟨1,1,1,0⟩]),.em 5 1 (bc [120]),.z 0,.v (.int .u64 0),.v (.int .u64 0),.v (.slice none 0 0)]])),.bx 46 [.sl 17 (1),.sl 18 (1),aj]]) (M2:=[.dead,ao x3 8 3,af x1,ai x3,.rw 60 11 ([[.z 2,.z 1,.z 0,.v (.int .u64 0),.z 0,.v (.slice none 0 0),.v (.slice none 0 0),.z 1,.v (.int .u64 1),.v (.int .u64 2),.ro 2 (procs [⟨2,5⟩])]]),.rw 62 4 ([]),.bx 46 [.sl 4 (1),aj,.sl 5 (0)],.dead,af x3,.rw 60 11 ([]),.rw 62 4 ([[.z 1,.z 0,.v (.int .u64 0),.ro 2 (procs [⟨1,1⟩,⟨2,5⟩])]]),.bx 46 [.sl 9 (0),aj,.sl 10 (1)],.rw 60 11 ([]),.rw 62 4 ([[.z 2,.z 3,.v (.int .u64 1),.v (.slice none 0 0)]]),.bx 46 [.sl 12 (0),aj,.sl 13 (1)],.dead,.dead,.rw 60 11 ([[.z 2,.z 2,.z 3,.v (.int .u64 1),.z 7,.ro 4 (al [⟨4,1,1,0⟩]),.ro 1 (bc [120]),.z 0,.v (.int .u64 0),.v (.int .u64 0),.v (.slice none 0 0)]]),.rw 33 10 ([[.z 2,.z 3,.v (.int .u64 1),.z 8,.ro 4 (al [⟨1,1,1,0⟩]),.ro 1 (bc [120]),.z 0,.v (.int .u64 0),.v (.int .u64 0),.v (.slice none 0 0)]]),.bx 46 [.sl 17 (1),.sl 18 (1),aj]]) [4,17,18] (by kernel_rfl) rfl
 rw [show (.v (.bool true):DV)=.v (.bool true) from rfl]
 exact aQ tk tq hK rfl [(8,[(7,.n (0)),(11,.ix 0 [.z 2,.z 1,.z 0,.v (.int .u64 0),.z 0,.v (.slice none 0 0),.v (.slice none 0 0),.z 1,.v (.int .u64 1),.v (.int .u64 2),.ro 2 (procs [⟨2,5⟩])]),(23,.n (0)),(25,.ix 0 [.z 1,.z 0,.v (.int .u64 0),.ro 2 (procs [⟨1,1⟩,⟨2,5⟩])]),(31,.n (0)),(33,.ix 0 [.z 1,.z 0,.v (.int .u64 0),.ro 2 (procs [⟨1,1⟩,⟨2,5⟩])]),(34,.z (2)),(46,.n (0)),(48,.ix 0 [.z 2,.z 3,.v (.int .u64 1),.v (.slice none 0 0)]),(66,.n (0)),(68,.ix 0 [.z 2,.z 2,.z 3,.v (.int .u64 1),.z 7,.ro 4 (al [⟨4,1,1,0⟩]),.ro 1 (bc [120]),.z 0,.v (.int .u64 0),.v (.int .u64 0),.v (.slice none 0 0)]),(74,.n (0)),(77,.ix 0 [.z 2,.z 2,.z 3,.v (.int .u64 1),.z 7,.ro 4 (al [⟨4,1,1,0⟩]),.ro 1 (bc [120]),.z 0,.v (.int .u64 0),.v (.int .u64 0),.v (.slice none 0 0)])])] 2000 r (by kernel_rfl) (U (rfl:(0)=((0:Nat):Int)) (U ((by first | omega | decide | (simp;omega)):(0)<(1)) (U ((by first | rfl | decide):(1)≤([[.z 2,.z 1,.z 0,.v (.int .u64 0),.z 0,.v (.slice none 0 0),.v (.slice none 0 0),.z 1,.v (.int .u64 1),.v (.int .u64 2),.ro 2 (procs [⟨2,5⟩])]]:List (List DV)).length) (U (rfl:([[.z 2,.z 1,.z 0,.v (.int .u64 0),.z 0,.v (.slice none 0 0),.v (.slice none 0 0),.z 1,.v (.int .u64 1),.v (.int .u64 2),.ro 2 (procs [⟨2,5⟩])]]:List (List DV))[0]?=some [.z 2,.z 1,.z 0,.v (.int .u64 0),.z 0,.v (.slice none 0 0),.v (.slice none 0 0),.z 1,.v (.int .u64 1),.v (.int .u64 2),.ro 2 (procs [⟨2,5⟩])]) (U (rfl:(0)=((0:Nat):Int)) (U ((by first | omega | decide | (simp;omega)):(0)<(1)) (U ((by first | rfl | decide):(1)≤([[.z 1,.z 0,.v (.int .u64 0),.ro 2 (procs [⟨1,1⟩,⟨2,5⟩])]]:List (List DV)).length) (U (rfl:([[.z 1,.z 0,.v (.int .u64 0),.ro 2 (procs [⟨1,1⟩,⟨2,5⟩])]]:List (List DV))[0]?=some [.z 1,.z 0,.v (.int .u64 0),.ro 2 (procs [⟨1,1⟩,⟨2,5⟩])]) (U (rfl:(0)=((0:Nat):Int)) (U ((by first | omega | decide | (simp;omega)):(0)<(1)) (U ((by first | rfl | decide):(1)≤([[.z 1,.z 0,.v (.int .u64 0),.ro 2 (procs [⟨1,1⟩,⟨2,5⟩])]]:List (List DV)).length) (U (rfl:([[.z 1,.z 0,.v (.int .u64 0),.ro 2 (procs [⟨1,1⟩,⟨2,5⟩])]]:List (List DV))[0]?=some [.z 1,.z 0,.v (.int .u64 0),.ro 2 (procs [⟨1,1⟩,⟨2,5⟩])]) (U ((by first | rfl | (simp;done)):(((procs [⟨1,1⟩,⟨2,5⟩]).length:Nat):Int)=2) (U (rfl:(0)=((0:Nat):Int)) (U ((by first | omega | decide | (simp;omega)):(0)<(1)) (U ((by first | rfl | decide):(1)≤([[.z 2,.z 3,.v (.int .u64 1),.v (.slice none 0 0)]]:List (List DV)).length) (U (rfl:([[.z 2,.z 3,.v (.int .u64 1),.v (.slice none 0 0)]]:List (List DV))[0]?=some [.z 2,.z 3,.v (.int .u64 1),.v (.slice none 0 0)]) (U (rfl:(0)=((0:Nat):Int)) (U ((by first | omega | decide | (simp;omega)):(0)<(1)) (U ((by first | rfl | decide):(1)≤([[.z 2,.z 2,.z 3,.v (.int .u64 1),.z 7,.ro 4 (al [⟨4,1,1,0⟩]),.ro 1 (bc [120]),.z 0,.v (.int .u64 0),.v (.int .u64 0),.v (.slice none 0 0)]]:List (List DV)).length) (U (rfl:([[.z 2,.z 2,.z 3,.v (.int .u64 1),.z 7,.ro 4 (al [⟨4,1,1,0⟩]),.ro 1 (bc [120]),.z 0,.v (.int .u64 0),.v (.int .u64 0),.v (.slice none 0 0)]]:List (List DV))[0]?=some [.z 2,.z 2,.z 3,.v (.int .u64 1),.z 7,.ro 4 (al [⟨4,1,1,0⟩]),.ro 1 (bc [120]),.z 0,.v (.int .u64 0),.v (.int .u64 0),.v (.slice none 0 0)]) (U (rfl:(0)=((0:Nat):Int)) (U ((by first | omega | decide | (simp;omega)):(0)<(1)) (U ((by first | rfl | decide):(1)≤([[.z 2,.z 2,.z 3,.v (.int .u64 1),.z 7,.ro 4 (al [⟨4,1,1,0⟩]),.ro 1 (bc [120]),.z 0,.v (.int .u64 0),.v (.int .u64 0),.v (.slice none 0 0)]]:List (List DV)).length) (U (rfl:([[.z 2,.z 2,.z 3,.v (.int .u64 1),.z 7,.ro 4 (al [⟨4,1,1,0⟩]),.ro 1 (bc [120]),.z 0,.v (.int .u64 0),.v (.int .u64 0),.v (.slice none 0 0)]]:List (List DV))[0]?=some [.z 2,.z 2,.z 3,.v (.int .u64 1),.z 7,.ro 4 (al [⟨4,1,1,0⟩]),.ro 1 (bc [120]),.z 0,.v (.int .u64 0),.v (.int .u64 0),.v (.slice none 0 0)]) trivial)))))))))))))))))))))))))
end Go.Proofs.YtlinpknagdgphaaGreat
namespace Go.Proofs.YtlinpknagdgphaaGreat
open Go.RowKit
theorem NC (o:Ov) (fr:Int) (p:bJ):(o.wb (a9 o.book p.ad)).j5 fr p=false:=by
 unfold Ov.j5
 rw [show fa (o.wb (a9 o.book p.ad)).book p.ad=false from Ki o.book p.ad]
 simp only [Bool.and_false]
theorem List.C0:∀ {l:List Nat} {x:Nat},x ∈ l→x≤l.sum
 | a::l,x,h=>by
  rw [List.sum_cons]
  rcases List.mem_cons.1 h with rfl | h
  ·omega
  ·have:=List.C0 h;omega
theorem Ek {l:List cJ} {s:cJ} (h:s ∈ l):s.cost≤jg l:=by
 unfold jg
 exact List.C0 (List.mem_map.2 ⟨s,h,rfl⟩)
def cJ.of (p:bJ):cJ:=⟨0,⟨0,0⟩,0,p⟩
theorem O3 {l:List cJ} {p:bJ} (h:mK (l++[.of p])=true):l.length≤300∧(∀ s ∈ l,s.cost≤2000)∧(cJ.of p).cost≤2000:=by
 have h:=of_decide_eq_true h
 rw [List.length_append] at h
 exact ⟨by omega,fun s hs=>Nat.le_trans (Ek (List.mem_append_left _ hs)) h.2,Nat.le_trans (Ek (List.mem_append_right _ (List.mem_singleton.2 rfl))) h.2⟩
set_option maxRecDepth 100000 in
theorem ND (self:ah) (homes:List Int) (l:List cJ) (fr:Int) (p:bJ) (hB:l.length*160≤140737488351232) (hl:∀ s ∈ l,s.in) (hz:∀ s ∈ l,-9223372036854775808≤s.z∧s.z≤9223372036854775807) (iE : -9223372036854775808≤fr∧fr≤9223372036854775807) (hp:(cJ.of p).in):aD Tryz.prog 3 [.ag [.z self.node,.u self.inc],.d (.ro 1 (ints homes)),.d (.ro 14 (steps l)),.z fr,.ag (bE p)] (.v (.bool true)):=by
 have fv:∀ s ∈ l++[.of p],s.in:=fun s hs=>by rcases List.mem_append.1 hs with h | h;exact hl s h;rw [List.mem_singleton] at h;subst h;exact hp
 refine aD.intro (by kernel_rfl) rfl rfl 117 rfl rfl fun w0 K ac hK r=>?_
 have bd:=((by first | rfl | (simp;done)):(((ints homes).length:Nat):Int)=((homes.length:Nat):Int))
 cases h0:(decide ((300:Int)<((homes.length:Nat):Int))) with
 | false=>
  have bH:=of_decide_eq_false h0
  have b3:=((by first | omega | (simp;omega)):(2*((0)+(steps l:List (List DV)).length)+0)*160≤281474976710656)
  have cy:=((by first | omega | (simp;omega)):(0)+(steps l:List (List DV)).length<4611686018427387904)
  have db:=((by first | rfl | (simp;done)):(0+(steps l:List (List DV)).length)=([]++(steps l):List (List DV)).length)
  have cZ:=((by first | rfl | (simp;done)):(1)=([[.z 0,.z 0,.v (.int .u64 0),.z 0,.z p.kind,.z p.src.node,.u p.src.inc,.z p.cn,.ro 4 (al p.al),.ro 1 (bc p.body),.z p.ad.server.node,.u p.ad.server.inc,.u p.ad.seq,.ro 2 (procs p.ad.ay)]]:List (List DV)).length)
  have dp:=((by first | omega | (simp;omega)):(2*((0+(steps l:List (List DV)).length)+(1))+0)*160≤281474976710656)
  have gF:=((by first | omega | (simp;omega)):(0+(steps l:List (List DV)).length)+(1)<4611686018427387904)
  have gG:=((by simp [bA,AV.one,cd,cJ.row]):bA ([[.z 0,.z 0,.v (.int .u64 0),.z 0,.z p.kind,.z p.src.node,.u p.src.inc,.z p.cn,.ro 4 (al p.al),.ro 1 (bc p.body),.z p.ad.server.node,.u p.ad.server.inc,.u p.ad.seq,.ro 2 (procs p.ad.ay)]]))
  cases h1:(mK (l++[.of p])) with
  | false=>
   have kX:=((by first | rfl | (simp;done)):(((ints homes).length:Nat):Int)=((homes.length:Nat):Int))
   have pc:=((by first | rfl | (simp;done)):(0)=([]:List (List DV)).length)
   have pd:=((by first | omega | (simp;omega)):(2*((0)+(steps l:List (List DV)).length)+0)*160≤281474976710656)
   have pe:=((by first | omega | (simp;omega)):(0)+(steps l:List (List DV)).length<4611686018427387904)
   have pf:=((by simp [bA,AV.one,cd,cJ.row]):bA (steps l))
   have pg:=((by first | rfl | (simp;done)):(0+(steps l:List (List DV)).length)=([]++(steps l):List (List DV)).length)
   have ph:=((by first | rfl | (simp;done)):(1)=([[.z 0,.z 0,.v (.int .u64 0),.z 0,.z p.kind,.z p.src.node,.u p.src.inc,.z p.cn,.ro 4 (al p.al),.ro 1 (bc p.body),.z p.ad.server.node,.u p.ad.server.inc,.u p.ad.seq,.ro 2 (procs p.ad.ay)]]:List (List DV)).length)
   have pj:=((by first | omega | (simp;omega)):(2*((0+(steps l:List (List DV)).length)+(1))+0)*160≤281474976710656)
   have pn:=((by first | omega | (simp;omega)):(0+(steps l:List (List DV)).length)+(1)<4611686018427387904)
   have po:=((by simp [bA,AV.one,cd,cJ.row]):bA ([[.z 0,.z 0,.v (.int .u64 0),.z 0,.z p.kind,.z p.src.node,.u p.src.inc,.z p.cn,.ro 4 (al p.al),.ro 1 (bc p.body),.z p.ad.server.node,.u p.ad.server.inc,.u p.ad.seq,.ro 2 (procs p.ad.ay)]]))
   have oW:=((by have k:=Hh (l++[.of p]) fv;rw [h1] at k;exact k):aD Tryz.prog 4 [.d (.ro 14 (steps (l++[.of p])))] (.v (.bool false)))
   have oX:=((by first | rfl | (simp;done)):(0+(steps l:List (List DV)).length+(1))=([]++(steps l)++[[.z 0,.z 0,.v (.int .u64 0),.z 0,.z p.kind,.z p.src.node,.u p.src.inc,.z p.cn,.ro 4 (al p.al),.ro 1 (bc p.body),.z p.ad.server.node,.u p.ad.server.inc,.u p.ad.seq,.ro 2 (procs p.ad.ay)]]:List (List DV)).length)
   have oY:=((by simp [jz,cJ.row,cT,cJ.of]):cg ([]++(steps l)++[[.z 0,.z 0,.v (.int .u64 0),.z 0,.z p.kind,.z p.src.node,.u p.src.inc,.z p.cn,.ro 4 (al p.al),.ro 1 (bc p.body),.z p.ad.server.node,.u p.ad.server.inc,.u p.ad.seq,.ro 2 (procs p.ad.ay)]])=steps (l++[.of p]))
   refine Ae (todo':=aft Tryz.f3 1) (E':=[(1,.d (.ro 1 (ints homes))),(2,.d (.ro 14 (steps l))),(3,.z fr),(5,.pt 0 0),(9,.pt 1 0),(10,aZ),(30,aU)]) (M':=[.bx 24 [.z self.node,.u self.inc],.bx 33 (bE p),.dead,.dead]) tk tq hK [(1,[(1,.z (((homes.length:Nat):Int))),(2,.b false),(11,.stay [.d (.ro 14 (steps (l++[.of p])))] (.v (.bool false)))])] 4 3 [] [[0,1,2,3],[0,1,2,3],[0,1,3,2]] [1,2,3,5,9,10,30] r (by kernel_rfl) (U (U kX (U h0 (U pc (U pd (U pe (U pf (U pg (U ph (U pj (U pn (U po (U oW (U (cQ (14)) (U oX (U oY trivial))))))))))))))) (U (U kX (U h0 (U pc (U pd (U pe (U pf (U pg (U ph (U pj (U pn (U po (U oW (U (cQ (14)) (U oX (U oY trivial))))))))))))))) (U (U kX (U h0 (U pc (U pd (U pe (U pf (U pg (U ph (U pj (U pn (U po (U oW (U (cQ (14)) (U oX (U oY trivial))))))))))))))) trivial))) fun ac wd r=>?_
   rw [show (.v (.bool true):DV)=.v (.bool true) from rfl]
   exact aQ tk tq hK rfl [(2,[(0,.aJ (.v (.bool true)))])] 2000 r (by kernel_rfl) (U (qv) trivial)
  | true=>
   obtain ⟨UJ,tW,TF⟩:=O3 (by assumption)
   have kX:=((by first | rfl | (simp;done)):(((ints homes).length:Nat):Int)=((homes.length:Nat):Int))
   have pc:=((by first | rfl | (simp;done)):(0)=([]:List (List DV)).length)
   have pd:=((by first | omega | (simp;omega)):(2*((0)+(steps l:List (List DV)).length)+0)*160≤281474976710656)
   have pe:=((by first | omega | (simp;omega)):(0)+(steps l:List (List DV)).length<4611686018427387904)
   have pf:=((by simp [bA,AV.one,cd,cJ.row]):bA (steps l))
   have pg:=((by first | rfl | (simp;done)):(0+(steps l:List (List DV)).length)=([]++(steps l):List (List DV)).length)
   have ph:=((by first | rfl | (simp;done)):(1)=([[.z 0,.z 0,.v (.int .u64 0),.z 0,.z p.kind,.z p.src.node,.u p.src.inc,.z p.cn,.ro 4 (al p.al),.ro 1 (bc p.body),.z p.ad.server.node,.u p.ad.server.inc,.u p.ad.seq,.ro 2 (procs p.ad.ay)]]:List (List DV)).length)
   have pj:=((by first | omega | (simp;omega)):(2*((0+(steps l:List (List DV)).length)+(1))+0)*160≤281474976710656)
   have pn:=((by first | omega | (simp;omega)):(0+(steps l:List (List DV)).length)+(1)<4611686018427387904)
   have po:=((by simp [bA,AV.one,cd,cJ.row]):bA ([[.z 0,.z 0,.v (.int .u64 0),.z 0,.z p.kind,.z p.src.node,.u p.src.inc,.z p.cn,.ro 4 (al p.al),.ro 1 (bc p.body),.z p.ad.server.node,.u p.ad.server.inc,.u p.ad.seq,.ro 2 (procs p.ad.ay)]]))
   have oW:=((by have k:=Hh (l++[.of p]) fv;rw [h1] at k;exact k):aD Tryz.prog 4 [.d (.ro 14 (steps (l++[.of p])))] (.v (.bool true)))
   have oX:=((by first | rfl | (simp;done)):(0+(steps l:List (List DV)).length+(1))=([]++(steps l)++[[.z 0,.z 0,.v (.int .u64 0),.z 0,.z p.kind,.z p.src.node,.u p.src.inc,.z p.cn,.ro 4 (al p.al),.ro 1 (bc p.body),.z p.ad.server.node,.u p.ad.server.inc,.u p.ad.seq,.ro 2 (procs p.ad.ay)]]:List (List DV)).length)
   have oY:=((by simp [jz,cJ.row,cT,cJ.of]):cg ([]++(steps l)++[[.z 0,.z 0,.v (.int .u64 0),.z 0,.z p.kind,.z p.src.node,.u p.src.inc,.z p.cn,.ro 4 (al p.al),.ro 1 (bc p.body),.z p.ad.server.node,.u p.ad.server.inc,.u p.ad.seq,.ro 2 (procs p.ad.ay)]])=steps (l++[.of p]))
   refine Ae (todo':=aft Tryz.f3 1) (E':=[(1,.d (.ro 1 (ints homes))),(2,.d (.ro 14 (steps l))),(3,.z fr),(5,.pt 0 0),(9,.pt 1 0),(10,aZ),(30,aZ)]) (M':=[.bx 24 [.z self.node,.u self.inc],.bx 33 (bE p),.dead,.dead]) tk tq hK [(1,[(1,.z (((homes.length:Nat):Int))),(2,.b false),(11,.stay [.d (.ro 14 (steps (l++[.of p])))] (.v (.bool true)))])] 4 3 [] [[0,1,2,3],[0,1,2,3],[0,1,3,2]] [1,2,3,5,9,10,30] r (by kernel_rfl) (U (U kX (U h0 (U pc (U pd (U pe (U pf (U pg (U ph (U pj (U pn (U po (U oW (U (cQ (14)) (U oX (U oY trivial))))))))))))))) (U (U kX (U h0 (U pc (U pd (U pe (U pf (U pg (U ph (U pj (U pn (U po (U oW (U (cQ (14)) (U oX (U oY trivial))))))))))))))) (U (U kX (U h0 (U pc (U pd (U pe (U pf (U pg (U ph (U pj (U pn (U po (U oW (U (cQ (14)) (U oX (U oY trivial))))))))))))))) trivial))) fun ac wd r=>?_
   cases h2:(lS self homes) with
   | false=>
    rw [show (.v (.bool true):DV)=.v (.bool true) from rfl]
    exact aQ tk tq hK rfl [(3,[(2,.aJ (.tu [.v (.pointer none),.z 1]))]),(5,[(3,.aJ (.v (.bool true)))])] 2000 r (by kernel_rfl) (U (O1 self homes (by omega) h2) (U (qv) trivial))
   | true=>
    have TG:=F5 (by assumption)
    refine bU (todo':=hd Tryz.f3 0) (E':=[(2,.d (.ro 14 (steps l))),(3,.z fr),(5,.pt 0 0),(9,.pt 1 0),(10,aZ),(11,.pt 2 0),(13,.z 0)]) (M':=[.bx 24 [.z self.node,.u self.inc],.bx 33 (bE p),.bx 70 [.z ((eR self homes).self.node),.u ((eR self homes).self.inc),.d (.ro 1 (ints (eR self homes).homes)),.n ((eR self homes).n),.sl 3 ((eR self homes).book.length),.mv 4],af (eR self homes),ai (eR self homes)]) tk tq hK [(3,[(2,.mem [] (.tu [.pt 0 0,.z 0]) [.bx 70 [.z ((eR self homes).self.node),.u ((eR self homes).self.inc),.d (.ro 1 (ints (eR self homes).homes)),.n ((eR self homes).n),.sl 1 ((eR self homes).book.length),.mv 2],af (eR self homes),ai (eR self homes)])])] 2000 [0,1,4,5,6] [2,3,5,9,10,11,13] r (by kernel_rfl) (U (Hg self homes (by omega) h2) (U (Ak:nL Tryz.prog 38) trivial)) fun ac wd r=>?_
    refine aN.rounds (Φ:=fun (i:Nat) ac wd=>∃ o:Ov,(o.Inv (2*i+1)∧i≤l.length)∧ec [] w0 K 117 [(2,.d (.ro 14 (steps l))),(3,.z fr),(5,.pt 0 0),(9,.pt 1 0),(10,aZ),(11,.pt 2 0),(13,.n i)] [.bx 24 [.z self.node,.u self.inc],.bx 33 (bE p),ao o 3 4,af o,ai o] ac wd) (l.length) ?_ (Nat.zero_le _) ⟨(eR self homes),⟨TG,Nat.zero_le _⟩,(r).cast rfl rfl⟩
    clear r
    rintro i cI bo ac wd ⟨o,aM,r⟩
    have js:=TF
    unfold cJ.cost cJ.of at js
    dsimp only at js
    have gn:=((by first | rfl | (simp;done)):(((steps l).length:Nat):Int)=((l.length:Nat):Int))
    cases h3:(decide ((((i:Nat):Int):Int)<((l.length:Nat):Int))) with
    | false=>
     have eV:=of_decide_eq_false h3
     cases h4:((p.kind:Int) != 1) with
     | false=>
      have eA:=gK h4
      cases h5:(o.j5 fr p) with
      | false=>
       rw [show (.v (.bool true):DV)=.v (.bool true) from rfl]
       exact aQ tk tq hK rfl [(7,[(2,.z (((l.length:Nat):Int))),(3,.b false)]),(21,[(2,.b false)]),(23,[(3,.mem [2,3,4] (.ag [aj,aj,aj]) [ao o 1 2,af o,ai o])]),(24,[(1,.mem [2,3,4] (.d (.ro 2 (procs o.rc))) [ao o 1 2,af o,ai o])]),(25,[(3,.mem [2,3,4] (.ag [aj,aj,aj]) [ao o 1 2,af o,ai o])]),(26,[(2,.aJ (.v (.bool true))),(5,.mem [2,3,4] (.d (.ro 2 (procs o.rc))) [ao o 1 2,af o,ai o]),(7,.call [.d (.ro 2 (procs o.rc)),.d (.ro 2 (procs o.rc))] (.v (.bool true))),(10,.aJ (.v (.bool true)))])] 2000 r (by kernel_rfl) (U gn (U h3 (U h4 (U (ya o (2*i+1) aM.1 fr iE p (by omega) (by omega) (by omega) h5 (by omega)) (U (gS o (2*i+1) aM.1) (U (ya o (2*i+1) aM.1 fr iE p (by omega) (by omega) (by omega) h5 (by omega)) (U (F6) (U (gS o (2*i+1) aM.1) (U ((by have k:=EG o.rc o.rc (by have:=wc aM.1;omega);rw [decide_eq_true rfl] at k;exact k):aD Tryz.prog 14 [.d (.ro 2 (procs o.rc)),.d (.ro 2 (procs o.rc))] (.v (.bool true))) (U (cN (.ro 2 (procs o.rc))) (U (cN (.ro 2 (procs o.rc))) (U (qv) trivial))))))))))))
      | true=>
       rw [show (.v (.bool true):DV)=.v (.bool true) from rfl]
       exact aQ tk tq hK rfl [(7,[(2,.z (((l.length:Nat):Int))),(3,.b false)]),(21,[(2,.b false)]),(23,[(3,.mem [2,3,4] (.ag [.sl 4 ((di p fr (o.wb (a9 o.book p.ad)).bs).length),aj,.sl 5 (((o.wb (a9 o.book p.ad)).bu o.rc []).length)]) [.bx 70 [.z ((o.wb (a9 o.book p.ad)).self.node),.u ((o.wb (a9 o.book p.ad)).self.inc),.d (.ro 1 (ints (o.wb (a9 o.book p.ad)).homes)),.n ((o.wb (a9 o.book p.ad)).n),.sl 3 ((o.wb (a9 o.book p.ad)).book.length),.mv 2],af o,ai (o.wb (a9 o.book p.ad)),af (o.wb (a9 o.book p.ad)),.rw 60 11 (di p fr (o.wb (a9 o.book p.ad)).bs),.rw 62 4 ((o.wb (a9 o.book p.ad)).bu o.rc [])])]),(24,[(1,.mem [2,5,4] (.d (.ro 2 (procs (o.wb (a9 o.book p.ad)).rc))) [.bx 70 [.z ((o.wb (a9 o.book p.ad)).self.node),.u ((o.wb (a9 o.book p.ad)).self.inc),.d (.ro 1 (ints (o.wb (a9 o.book p.ad)).homes)),.n ((o.wb (a9 o.book p.ad)).n),.sl 1 ((o.wb (a9 o.book p.ad)).book.length),.mv 2],af (o.wb (a9 o.book p.ad)),ai (o.wb (a9 o.book p.ad))])]),(25,[(3,.mem [2,5,4] (.ag [aj,aj,aj]) [.bx 70 [.z ((o.wb (a9 o.book p.ad)).self.node),.u ((o.wb (a9 o.book p.ad)).self.inc),.d (.ro 1 (ints (o.wb (a9 o.book p.ad)).homes)),.n ((o.wb (a9 o.book p.ad)).n),.sl 1 ((o.wb (a9 o.book p.ad)).book.length),.mv 2],af (o.wb (a9 o.book p.ad)),ai (o.wb (a9 o.book p.ad))])]),(26,[(2,.aJ (.v (.bool true))),(5,.mem [2,5,4] (.d (.ro 2 (procs (o.wb (a9 o.book p.ad)).rc))) [.bx 70 [.z ((o.wb (a9 o.book p.ad)).self.node),.u ((o.wb (a9 o.book p.ad)).self.inc),.d (.ro 1 (ints (o.wb (a9 o.book p.ad)).homes)),.n ((o.wb (a9 o.book p.ad)).n),.sl 1 ((o.wb (a9 o.book p.ad)).book.length),.mv 2],af (o.wb (a9 o.book p.ad)),ai (o.wb (a9 o.book p.ad))]),(7,.call [.d (.ro 2 (procs (o.wb (a9 o.book p.ad)).rc)),.d (.ro 2 (procs (o.wb (a9 o.book p.ad)).rc))] (.v (.bool true))),(10,.aJ (.v (.bool true)))])] 2000 r (by kernel_rfl) (U gn (U h3 (U h4 (U (yb o (2*i+1) aM.1 fr iE p (by omega) (by omega) (by omega) _ rfl h5:aL Tryz.prog 9 [.pt 0 0,.z fr,.ag (bE p)] [ao o 1 2,af o,ai o] (.ag [.sl 4 ((di p fr (o.wb (a9 o.book p.ad)).bs).length),aj,.sl 5 (((o.wb (a9 o.book p.ad)).bu o.rc []).length)]) [.bx 70 [.z ((o.wb (a9 o.book p.ad)).self.node),.u ((o.wb (a9 o.book p.ad)).self.inc),.d (.ro 1 (ints (o.wb (a9 o.book p.ad)).homes)),.n ((o.wb (a9 o.book p.ad)).n),.sl 3 ((o.wb (a9 o.book p.ad)).book.length),.mv 2],af o,ai (o.wb (a9 o.book p.ad)),af (o.wb (a9 o.book p.ad)),.rw 60 11 (di p fr (o.wb (a9 o.book p.ad)).bs),.rw 62 4 ((o.wb (a9 o.book p.ad)).bu o.rc [])]) (U (gS (o.wb (a9 o.book p.ad)) (2*i+1) (aM.1.wb (ir h5).2.2.2.2.2.1 rfl)) (U (ya (o.wb (a9 o.book p.ad)) (2*i+1) (aM.1.wb (ir h5).2.2.2.2.2.1 rfl) fr iE p (by omega) (by omega) (by omega) (NC o fr p) (by omega)) (U (F6) (U (gS (o.wb (a9 o.book p.ad)) (2*i+1) (aM.1.wb (ir h5).2.2.2.2.2.1 rfl)) (U ((by have k:=EG ((o.wb (a9 o.book p.ad)).rc) ((o.wb (a9 o.book p.ad)).rc) (by have:=wc (aM.1.wb (ir h5).2.2.2.2.2.1 rfl);omega);rw [decide_eq_true rfl] at k;exact k):aD Tryz.prog 14 [.d (.ro 2 (procs (o.wb (a9 o.book p.ad)).rc)),.d (.ro 2 (procs (o.wb (a9 o.book p.ad)).rc))] (.v (.bool true))) (U (cN (.ro 2 (procs (o.wb (a9 o.book p.ad)).rc))) (U (cN (.ro 2 (procs (o.wb (a9 o.book p.ad)).rc))) (U (qv) trivial))))))))))))
     | true=>
      have eA:¬ _=_:=bne_iff_ne.1 h4
      rw [show (.v (.bool true):DV)=.v (.bool true) from rfl]
      exact aQ tk tq hK rfl [(7,[(2,.z (((l.length:Nat):Int))),(3,.b false)]),(21,[(2,.b true)]),(22,[(0,.aJ (.v (.bool true)))])] 2000 r (by kernel_rfl) (U gn (U h3 (U h4 (U (qv) trivial))))
    | true=>
     have eV:=of_decide_eq_true h3
     obtain ⟨aq,cv⟩:∃ x,l[i]?=some x:=⟨_,List.getElem?_eq_getElem (by omega)⟩
     have CV:=hz _ (List.mem_of_getElem? cv)
     have TH:=tW _ (List.mem_of_getElem? cv)
     unfold cJ.cost at TH
     cases h6:((aq.d:Int)==0) with
     | false=>
      have lr:=ne_of_beq_false h6
      cases h7:((aq.d:Int)==1) with
      | false=>
       have gE:=ne_of_beq_false h7
       cases h8:((aq.d:Int)==2) with
       | false=>
        have lq:=ne_of_beq_false h8
        cases h9:((aq.d:Int)==3) with
        | false=>
         have uv:=ne_of_beq_false h9
         cases cD:((aq.d:Int)==4) with
         | false=>
          have o9:=ne_of_beq_false cD
          exact bU (todo':=hd Tryz.f3 0) (E':=[(2,.d (.ro 14 (steps l))),(3,.z fr),(5,.pt 0 0),(9,.pt 1 0),(10,aZ),(11,.pt 2 0),(13,.n (i+1))]) (M':=[.bx 24 [.z self.node,.u self.inc],.bx 33 (bE p),ao o 3 4,af o,ai o]) tk tq hK [(7,[(2,.z (((l.length:Nat):Int))),(3,.b true)]),(8,[(1,.z (((i+1:Nat):Int)))]),(9,[(2,.ix (i) [.z aq.d,.z aq.peer.node,.u aq.peer.inc,.z aq.z,.z aq.p.kind,.z aq.p.src.node,.u aq.p.src.inc,.z aq.p.cn,.ro 4 (al aq.p.al),.ro 1 (bc aq.p.body),.z aq.p.ad.server.node,.u aq.p.ad.server.inc,.u aq.p.ad.seq,.ro 2 (procs aq.p.ad.ay)])]),(11,[(0,.b false)]),(13,[(0,.b false)]),(15,[(0,.b false)]),(17,[(0,.b false)]),(19,[(0,.b false)])] 2000 [0,1,2,3,4] [2,3,5,9,10,11,13] r (by kernel_rfl) (U gn (U h3 (U (aX ((i:Nat):Int)) (U (lC cv) (U h6 (U h7 (U h8 (U h9 (U cD (U ((wi (by omega)):IntKind.i64.wrap ((((i:Nat):Int):Int)+1)=((i+1:Nat):Int)) trivial)))))))))) fun ac wd r=>bo (by omega) ac wd ⟨o,⟨aM.1.up (by omega),by omega⟩,r.cast rfl rfl⟩
         | true=>
          have o9:=eq_of_beq cD
          exact bU (todo':=hd Tryz.f3 0) (E':=[(2,.d (.ro 14 (steps l))),(3,.z fr),(5,.pt 0 0),(9,.pt 1 0),(10,aZ),(11,.pt 2 0),(13,.n (i+1))]) (M':=[.bx 24 [.z self.node,.u self.inc],.bx 33 (bE p),ao o 3 4,af o,ai o]) tk tq hK [(7,[(2,.z (((l.length:Nat):Int))),(3,.b true)]),(8,[(1,.z (((i+1:Nat):Int)))]),(9,[(2,.ix (i) [.z aq.d,.z aq.peer.node,.u aq.peer.inc,.z aq.z,.z aq.p.kind,.z aq.p.src.node,.u aq.p.src.inc,.z aq.p.cn,.ro 4 (al aq.p.al),.ro 1 (bc aq.p.body),.z aq.p.ad.server.node,.u aq.p.ad.server.inc,.u aq.p.ad.seq,.ro 2 (procs aq.p.ad.ay)])]),(11,[(0,.b false)]),(13,[(0,.b false)]),(15,[(0,.b false)]),(17,[(0,.b false)]),(19,[(0,.b true)]),(20,[(1,.mem [2,3,4] (.ag [.d (.jk),.d (.jk),.d (.jk)]) [ao o 1 2,af o,ai o])])] 2000 [0,1,2,3,4] [2,3,5,9,10,11,13] r (by kernel_rfl) (U gn (U h3 (U (aX ((i:Nat):Int)) (U (lC cv) (U h6 (U h7 (U h8 (U h9 (U cD (U (O0 o (2*i+1) aM.1) (U ((wi (by omega)):IntKind.i64.wrap ((((i:Nat):Int):Int)+1)=((i+1:Nat):Int)) trivial))))))))))) fun ac wd r=>bo (by omega) ac wd ⟨o,⟨aM.1.up (by omega),by omega⟩,r.cast rfl rfl⟩
        | true=>
         have uv:=eq_of_beq h9
         exact bU (todo':=hd Tryz.f3 0) (E':=[(2,.d (.ro 14 (steps l))),(3,.z fr),(5,.pt 0 0),(9,.pt 1 0),(10,aZ),(11,.pt 2 0),(13,.n (i+1))]) (M':=[.bx 24 [.z self.node,.u self.inc],.bx 33 (bE p),ao o 3 4,af o,ai o]) tk tq hK [(7,[(2,.z (((l.length:Nat):Int))),(3,.b true)]),(8,[(1,.z (((i+1:Nat):Int)))]),(9,[(2,.ix (i) [.z aq.d,.z aq.peer.node,.u aq.peer.inc,.z aq.z,.z aq.p.kind,.z aq.p.src.node,.u aq.p.src.inc,.z aq.p.cn,.ro 4 (al aq.p.al),.ro 1 (bc aq.p.body),.z aq.p.ad.server.node,.u aq.p.ad.server.inc,.u aq.p.ad.seq,.ro 2 (procs aq.p.ad.ay)])]),(11,[(0,.b false)]),(13,[(0,.b false)]),(15,[(0,.b false)]),(17,[(0,.b true)]),(18,[(3,.mem [2,3,4] (.ag [.d (.jk),.d (.jk),.d (.jk)]) [ao o 1 2,af o,ai o])])] 2000 [0,1,2,3,4] [2,3,5,9,10,11,13] r (by kernel_rfl) (U gn (U h3 (U (aX ((i:Nat):Int)) (U (lC cv) (U h6 (U h7 (U h8 (U h9 (U (PX o (2*i+1) aM.1 aq.p (by omega) (by omega) (by omega)) (U ((wi (by omega)):IntKind.i64.wrap ((((i:Nat):Int):Int)+1)=((i+1:Nat):Int)) trivial)))))))))) fun ac wd r=>bo (by omega) ac wd ⟨o,⟨aM.1.up (by omega),by omega⟩,r.cast rfl rfl⟩
       | true=>
        have lq:=eq_of_beq h8
        cases et:(o.j5 aq.z aq.p) with
        | false=>
         exact bU (todo':=hd Tryz.f3 0) (E':=[(2,.d (.ro 14 (steps l))),(3,.z fr),(5,.pt 0 0),(9,.pt 1 0),(10,aZ),(11,.pt 2 0),(13,.n (i+1))]) (M':=[.bx 24 [.z self.node,.u self.inc],.bx 33 (bE p),ao o 3 4,af o,ai o]) tk tq hK [(7,[(2,.z (((l.length:Nat):Int))),(3,.b true)]),(8,[(1,.z (((i+1:Nat):Int)))]),(9,[(2,.ix (i) [.z aq.d,.z aq.peer.node,.u aq.peer.inc,.z aq.z,.z aq.p.kind,.z aq.p.src.node,.u aq.p.src.inc,.z aq.p.cn,.ro 4 (al aq.p.al),.ro 1 (bc aq.p.body),.z aq.p.ad.server.node,.u aq.p.ad.server.inc,.u aq.p.ad.seq,.ro 2 (procs aq.p.ad.ay)])]),(11,[(0,.b false)]),(13,[(0,.b false)]),(15,[(0,.b true)]),(16,[(5,.mem [2,3,4] (.ag [.d (.jk),.d (.jk),.d (.jk)]) [ao o 1 2,af o,ai o])])] 2000 [0,1,2,3,4] [2,3,5,9,10,11,13] r (by kernel_rfl) (U gn (U h3 (U (aX ((i:Nat):Int)) (U (lC cv) (U h6 (U h7 (U h8 (U (NB o (2*i+1) aM.1 aq.z CV aq.p (by omega) (by omega) (by omega) et) (U ((wi (by omega)):IntKind.i64.wrap ((((i:Nat):Int):Int)+1)=((i+1:Nat):Int)) trivial))))))))) fun ac wd r=>bo (by omega) ac wd ⟨o,⟨aM.1.up (by omega),by omega⟩,r.cast rfl rfl⟩
        | true=>
         exact bU (todo':=hd Tryz.f3 0) (E':=[(2,.d (.ro 14 (steps l))),(3,.z fr),(5,.pt 0 0),(9,.pt 1 0),(10,aZ),(11,.pt 2 0),(13,.n (i+1))]) (M':=[.bx 24 [.z self.node,.u self.inc],.bx 33 (bE p),.bx 70 [.z ((o.wb (a9 o.book aq.p.ad)).self.node),.u ((o.wb (a9 o.book aq.p.ad)).self.inc),.d (.ro 1 (ints (o.wb (a9 o.book aq.p.ad)).homes)),.n ((o.wb (a9 o.book aq.p.ad)).n),.sl 3 ((o.wb (a9 o.book aq.p.ad)).book.length),.mv 4],af (o.wb (a9 o.book aq.p.ad)),ai (o.wb (a9 o.book aq.p.ad))]) tk tq hK [(7,[(2,.z (((l.length:Nat):Int))),(3,.b true)]),(8,[(1,.z (((i+1:Nat):Int)))]),(9,[(2,.ix (i) [.z aq.d,.z aq.peer.node,.u aq.peer.inc,.z aq.z,.z aq.p.kind,.z aq.p.src.node,.u aq.p.src.inc,.z aq.p.cn,.ro 4 (al aq.p.al),.ro 1 (bc aq.p.body),.z aq.p.ad.server.node,.u aq.p.ad.server.inc,.u aq.p.ad.seq,.ro 2 (procs aq.p.ad.ay)])]),(11,[(0,.b false)]),(13,[(0,.b false)]),(15,[(0,.b true)]),(16,[(5,.mem [2,3,4] (.ag [.sl 4 ((di aq.p aq.z (o.wb (a9 o.book aq.p.ad)).bs).length),aj,.sl 5 (((o.wb (a9 o.book aq.p.ad)).bu o.rc []).length)]) [.bx 70 [.z ((o.wb (a9 o.book aq.p.ad)).self.node),.u ((o.wb (a9 o.book aq.p.ad)).self.inc),.d (.ro 1 (ints (o.wb (a9 o.book aq.p.ad)).homes)),.n ((o.wb (a9 o.book aq.p.ad)).n),.sl 3 ((o.wb (a9 o.book aq.p.ad)).book.length),.mv 2],af o,ai (o.wb (a9 o.book aq.p.ad)),af (o.wb (a9 o.book aq.p.ad)),.rw 60 11 (di aq.p aq.z (o.wb (a9 o.book aq.p.ad)).bs),.rw 62 4 ((o.wb (a9 o.book aq.p.ad)).bu o.rc [])])])] 2000 [0,1,2,6,4] [2,3,5,9,10,11,13] r (by kernel_rfl) (U gn (U h3 (U (aX ((i:Nat):Int)) (U (lC cv) (U h6 (U h7 (U h8 (U (yb o (2*i+1) aM.1 aq.z CV aq.p (by omega) (by omega) (by omega) _ rfl et:aL Tryz.prog 9 [.pt 0 0,.z aq.z,.ag (bE aq.p)] [ao o 1 2,af o,ai o] (.ag [.sl 4 ((di aq.p aq.z (o.wb (a9 o.book aq.p.ad)).bs).length),aj,.sl 5 (((o.wb (a9 o.book aq.p.ad)).bu o.rc []).length)]) [.bx 70 [.z ((o.wb (a9 o.book aq.p.ad)).self.node),.u ((o.wb (a9 o.book aq.p.ad)).self.inc),.d (.ro 1 (ints (o.wb (a9 o.book aq.p.ad)).homes)),.n ((o.wb (a9 o.book aq.p.ad)).n),.sl 3 ((o.wb (a9 o.book aq.p.ad)).book.length),.mv 2],af o,ai (o.wb (a9 o.book aq.p.ad)),af (o.wb (a9 o.book aq.p.ad)),.rw 60 11 (di aq.p aq.z (o.wb (a9 o.book aq.p.ad)).bs),.rw 62 4 ((o.wb (a9 o.book aq.p.ad)).bu o.rc [])]) (U ((wi (by omega)):IntKind.i64.wrap ((((i:Nat):Int):Int)+1)=((i+1:Nat):Int)) trivial))))))))) fun ac wd r=>bo (by omega) ac wd ⟨(o.wb (a9 o.book aq.p.ad)),⟨(aM.1.wb (ir et).2.2.2.2.2.1 rfl).up (by omega),by omega⟩,r.cast rfl rfl⟩
      | true=>
       have gE:=eq_of_beq h7
       exact bU (todo':=hd Tryz.f3 0) (E':=[(2,.d (.ro 14 (steps l))),(3,.z fr),(5,.pt 0 0),(9,.pt 1 0),(10,aZ),(11,.pt 2 0),(13,.n (i+1))]) (M':=[.bx 24 [.z self.node,.u self.inc],.bx 33 (bE p),.bx 70 [.z ((o.dn aq.z).self.node),.u ((o.dn aq.z).self.inc),.d (.ro 1 (ints (o.dn aq.z).homes)),.n ((o.dn aq.z).n),.sl 3 ((o.dn aq.z).book.length),.mv 4],af (o.dn aq.z),ai (o.dn aq.z)]) tk tq hK [(7,[(2,.z (((l.length:Nat):Int))),(3,.b true)]),(8,[(1,.z (((i+1:Nat):Int)))]),(9,[(2,.ix (i) [.z aq.d,.z aq.peer.node,.u aq.peer.inc,.z aq.z,.z aq.p.kind,.z aq.p.src.node,.u aq.p.src.inc,.z aq.p.cn,.ro 4 (al aq.p.al),.ro 1 (bc aq.p.body),.z aq.p.ad.server.node,.u aq.p.ad.server.inc,.u aq.p.ad.seq,.ro 2 (procs aq.p.ad.ay)])]),(11,[(0,.b false)]),(13,[(0,.b true)]),(14,[(3,.mem [2,3,4] (.ag [.d (.jk),.d (.jk),.d (.jk)]) [.bx 70 [.z ((o.dn aq.z).self.node),.u ((o.dn aq.z).self.inc),.d (.ro 1 (ints (o.dn aq.z).homes)),.n ((o.dn aq.z).n),.sl 1 ((o.dn aq.z).book.length),.mv 2],af (o.dn aq.z),ai (o.dn aq.z)])])] 2000 [0,1,2,3,4] [2,3,5,9,10,11,13] r (by kernel_rfl) (U gn (U h3 (U (aX ((i:Nat):Int)) (U (lC cv) (U h6 (U h7 (U (OV o (2*i+1) aM.1 (by omega) aq.z CV) (U ((wi (by omega)):IntKind.i64.wrap ((((i:Nat):Int):Int)+1)=((i+1:Nat):Int)) trivial)))))))) fun ac wd r=>bo (by omega) ac wd ⟨(o.dn aq.z),⟨(aM.1.dn _ (by omega)).up (by omega),by omega⟩,r.cast rfl rfl⟩
     | true=>
      have lr:=eq_of_beq h6
      exact bU (todo':=hd Tryz.f3 0) (E':=[(2,.d (.ro 14 (steps l))),(3,.z fr),(5,.pt 0 0),(9,.pt 1 0),(10,aZ),(11,.pt 2 0),(13,.n (i+1))]) (M':=[.bx 24 [.z self.node,.u self.inc],.bx 33 (bE p),.bx 70 [.z ((o.eh aq.peer).self.node),.u ((o.eh aq.peer).self.inc),.d (.ro 1 (ints (o.eh aq.peer).homes)),.n ((o.eh aq.peer).n),.sl 3 ((o.eh aq.peer).book.length),.mv 4],af (o.eh aq.peer),ai (o.eh aq.peer)]) tk tq hK [(7,[(2,.z (((l.length:Nat):Int))),(3,.b true)]),(8,[(1,.z (((i+1:Nat):Int)))]),(9,[(2,.ix (i) [.z aq.d,.z aq.peer.node,.u aq.peer.inc,.z aq.z,.z aq.p.kind,.z aq.p.src.node,.u aq.p.src.inc,.z aq.p.cn,.ro 4 (al aq.p.al),.ro 1 (bc aq.p.body),.z aq.p.ad.server.node,.u aq.p.ad.server.inc,.u aq.p.ad.seq,.ro 2 (procs aq.p.ad.ay)])]),(11,[(0,.b true)]),(12,[(3,.mem [2,3,4] (.ag [.d (.jk),.d (.jk),.d (.jk)]) [.bx 70 [.z ((o.eh aq.peer).self.node),.u ((o.eh aq.peer).self.inc),.d (.ro 1 (ints (o.eh aq.peer).homes)),.n ((o.eh aq.peer).n),.sl 1 ((o.eh aq.peer).book.length),.mv 2],af (o.eh aq.peer),ai (o.eh aq.peer)])])] 2000 [0,1,2,3,4] [2,3,5,9,10,11,13] r (by kernel_rfl) (U gn (U h3 (U (aX ((i:Nat):Int)) (U (lC cv) (U h6 (U (QZ o (2*i+1) aM.1 (by omega) aq.peer) (U ((wi (by omega)):IntKind.i64.wrap ((((i:Nat):Int):Int)+1)=((i+1:Nat):Int)) trivial))))))) fun ac wd r=>bo (by omega) ac wd ⟨(o.eh aq.peer),⟨(zC aM.1 _ (by omega)).up (by omega),by omega⟩,r.cast rfl rfl⟩
 | true=>
  have bH:=of_decide_eq_true h0
  have kX:=((by first | rfl | (simp;done)):(((ints homes).length:Nat):Int)=((homes.length:Nat):Int))
  refine Ae (todo':=aft Tryz.f3 1) (E':=[(1,.d (.ro 1 (ints homes))),(2,.d (.ro 14 (steps l))),(3,.z fr),(5,.pt 0 0),(9,.pt 1 0),(10,aZ),(30,aU)]) (M':=[.bx 24 [.z self.node,.u self.inc],.bx 33 (bE p)]) tk tq hK [(1,[(1,.z (((homes.length:Nat):Int))),(2,.b true)])] 4 3 [] [[0,1],[0,1],[0,1]] [1,2,3,5,9,10,30] r (by kernel_rfl) (U (U kX (U h0 trivial)) (U (U kX (U h0 trivial)) (U (U kX (U h0 trivial)) trivial))) fun ac wd r=>?_
  rw [show (.v (.bool true):DV)=.v (.bool true) from rfl]
  exact aQ tk tq hK rfl [(2,[(0,.aJ (.v (.bool true)))])] 2000 r (by kernel_rfl) (U (qv) trivial)
end Go.Proofs.YtlinpknagdgphaaGreat
namespace Go.Proofs.YtlinpknagdgphaaGreat
open Go.ChangeShapes Go.WideShapes Go.ChangeAt Go.RowKit
theorem Tryz.own:ownKnob Tryz.prog.godebug=none:=by kernel_rfl
variable {w:World}
theorem okWide_int {P:Program} {W:World} {base:Nat} {t:TypeId} {k:IntKind} {v:Value} (ht:P.underlying t=some (.int k)) (h:Value.okWide P W .any base t v):∃ n,v=.int k n:=by
 rw [Value.okWide,ht] at h
 unfold Cell.okWide Cell.ok at h
 rw [ht] at h
 cases v<;>simp at h
 exact ⟨_,by rw [h.1]⟩
theorem nG {P:Program} {t:TypeId} (h:P.underlying t=some (.int .i64)):Rd P w t (fun n:Int=>[.z n]) fun n => -9223372036854775808≤n∧n≤9223372036854775807:=fun cs hc=>by
 obtain ⟨n,rfl,hw⟩:=hc.int h
 have eb : -9223372036854775808≤n∧n≤9223372036854775807:=by simpa [Lit.wf,IntKind.min,IntKind.max,IntKind.signed,IntKind.bits] using hw
 exact ⟨n,eb,.one (.v _)⟩
section
variable {w:World} {B:Nat}
def dV (P:Program) (w:World) (B:Nat) (fs:List Field) (off tot:Nat) {α:Type} (row:α→List DV) (ok:α→Prop):Prop:=∀ cs:List Value,cs.length=tot→(∀ f ∈ fs,TZ P w B f.type ((cs.drop f.offset).take (P.cellsOf f.type)))→∃ x,ok x∧gQ w (row x) (cs.drop off)
theorem dV.nil {P:Program} {tot:Nat}:dV P w B [] tot tot (fun _:Unit=>[]) fun _=>True:=fun cs hl _=>⟨(),trivial,by rw [List.drop_of_length_le (by omega)];exact ⟨rfl,by simp⟩⟩
theorem dV.cons {P:Program} {f:Field} {fs:List Field} {off k tot:Nat} {α β:Type} {s5:α→List DV} {HQ:β→List DV} {IY:α→Prop} {IZ:β→Prop} (h0:f.offset=off) (hk:P.cellsOf f.type=k) (r:dD P w B f.type s5 IY) (rs:dV P w B fs (off+k) tot HQ IZ):dV P w B (f::fs) off tot (fun x:α×β=>s5 x.1++HQ x.2) fun x=>IY x.1∧IZ x.2:=fun cs hl hf=>by
 have a0:=hf f List.mem_cons_self
 rw [h0,hk] at a0
 obtain ⟨x,b0,c0⟩:=r _ a0
 obtain ⟨y,b1,c1⟩:=rs cs hl fun g hg=>hf g (List.mem_cons_of_mem _ hg)
 refine ⟨(x,y),⟨b0,b1⟩,?_⟩
 have:=c0.app c1
 rwa [← List.drop_drop,List.take_append_drop] at this
theorem dD.struct {P:Program} {t tot:Nat} {fs:List Field} {α:Type} {row:α→List DV} {ok:α→Prop} (h:P.underlying t=some (.struct fs.toArray)) (ht:P.cellsOf t=tot) (rs:dV P w B fs 0 tot row ok):dD P w B t row ok:=fun cs hc=>by
 obtain ⟨hl,hf⟩:=hc.struct h
 obtain ⟨x,h1,h2⟩:=rs cs (by omega) (by simpa using hf)
 exact ⟨x,h1,by simpa using h2⟩
theorem dD.As {P:Program} {t e:TypeId} {α:Type} [Inhabited α] {k:Nat} {row:α→List DV} {ok:α→Prop} (h:P.underlying t=some (.slice e)) (hk:P.cellsOf e=k) (dm:1≤P.bytesOf e) (hr:dD P w B e row ok):dD P w B t (fun l:List α=>[.ro k (l.map row)]) fun l=>l.length≤B∧∀ x ∈ l,ok x:=
 (dD.slice h hk rfl dm hr).map id (fun _=>rfl) fun l h=>⟨Nat.le_trans (Nat.le_mul_of_pos_right _ dm) h.1,h.2⟩
end
def tp (_:ah):Prop:=True
def HR (_:Hd):Prop:=True
def I0 (h:Hd):List DV:=[.v (.int .i64 h.dst),.v (.int .u64 (h.conn:Int)),.v (.int .u64 (h.seq:Int)),.v (.int .u64 (h.inc:Int))]
def HS (a:aw):Prop:=a.ay.length≤reachBytes
def I5 (p:bJ):List DV:=[.z p.kind,.z p.src.node,.u p.src.inc,.z p.cn,.ro 4 (al p.al),.ro 1 (bc p.body),.z p.ad.server.node,.u p.ad.server.inc,.u p.ad.seq,.ro 2 (procs p.ad.ay)]
def wW (p:bJ):Prop:=p.al.length≤reachBytes∧p.ad.ay.length≤reachBytes∧p.body.length≤reachBytes
def HT (s:cJ):Prop:=(-9223372036854775808≤s.z∧s.z≤9223372036854775807)∧wW s.p
instance:Inhabited cJ:=⟨⟨0,⟨0,0⟩,0,0,⟨0,0⟩,0,[],[],⟨0,0⟩,0,[]⟩⟩
instance:Inhabited ah:=⟨⟨0,0⟩⟩
instance:Inhabited Hd:=⟨⟨0,0,0,0⟩⟩
abbrev HU:=Int×Nat×Unit
abbrev Q5:HU→List DV:=(fun x=>(fun n:Int=>[DV.z n]) x.1++(fun x=>(fun n:Nat=>[DV.u n]) x.1++(fun _:Unit=>([]:List DV)) x.2) x.2)
abbrev Q6:HU→Prop:=(fun x=>(fun n:Int => -9223372036854775808≤n∧n≤9223372036854775807) x.1∧(fun x=>(fun n:Nat=>n≤18446744073709551615) x.1∧(fun _:Unit=>True) x.2) x.2)
theorem Q7 {w:World}:dD Tryz.prog w reachBytes 24 Q5 Q6:=dD.struct (fs:=[⟨"Node",3,0,false, "", "",0⟩,⟨"Inc",22,1,false, "", "",8⟩]) (tot:=2) (by kernel_rfl) (by kernel_rfl) (dV.cons rfl (k:=1) (by kernel_rfl) (Rd.sz (nG (by kernel_rfl))) (dV.cons rfl (k:=1) (by kernel_rfl) (Rd.sz (Rd.u64 (by kernel_rfl))) dV.nil))
theorem sQ {w:World}:dD Tryz.prog w reachBytes 24 ah.row tp:=Q7.map (fun x=>ah.mk x.1 x.2.1) (fun _=>rfl) (fun _ _=>trivial)
abbrev HV:=Int×Nat×Nat×Nat×Unit
abbrev Q8:HV→List DV:=(fun x=>(fun n:Int=>[DV.z n]) x.1++(fun x=>(fun n:Nat=>[DV.u n]) x.1++(fun x=>(fun n:Nat=>[DV.u n]) x.1++(fun x=>(fun n:Nat=>[DV.u n]) x.1++(fun _:Unit=>([]:List DV)) x.2) x.2) x.2) x.2)
abbrev Q9:HV→Prop:=(fun x=>(fun n:Int => -9223372036854775808≤n∧n≤9223372036854775807) x.1∧(fun x=>(fun n:Nat=>n≤18446744073709551615) x.1∧(fun x=>(fun n:Nat=>n≤18446744073709551615) x.1∧(fun x=>(fun n:Nat=>n≤18446744073709551615) x.1∧(fun _:Unit=>True) x.2) x.2) x.2) x.2)
theorem Ra {w:World}:dD Tryz.prog w reachBytes 58 Q8 Q9:=dD.struct (fs:=[⟨"Dst",3,0,false, "", "",0⟩,⟨"Conn",22,1,false, "", "",8⟩,⟨"Seq",22,2,false, "", "",16⟩,⟨"Inc",22,3,false, "", "",24⟩]) (tot:=4) (by kernel_rfl) (by kernel_rfl) (dV.cons rfl (k:=1) (by kernel_rfl) (Rd.sz (nG (by kernel_rfl))) (dV.cons rfl (k:=1) (by kernel_rfl) (Rd.sz (Rd.u64 (by kernel_rfl))) (dV.cons rfl (k:=1) (by kernel_rfl) (Rd.sz (Rd.u64 (by kernel_rfl))) (dV.cons rfl (k:=1) (by kernel_rfl) (Rd.sz (Rd.u64 (by kernel_rfl))) dV.nil))))
theorem Rb {w:World}:dD Tryz.prog w reachBytes 58 I0 HR:=Ra.map (fun x=>Hd.mk x.1 x.2.1 x.2.2.1 x.2.2.2.1) (fun _=>rfl) (fun _ _=>trivial)
abbrev HW:=ah×Nat×(List ah)×Unit
abbrev Rc:HW→List DV:=(fun x=>ah.row x.1++(fun x=>(fun n:Nat=>[DV.u n]) x.1++(fun x=>(fun l:List ah=>[DV.ro 2 (l.map ah.row)]) x.1++(fun _:Unit=>([]:List DV)) x.2) x.2) x.2)
abbrev Rf:HW→Prop:=(fun x=>tp x.1∧(fun x=>(fun n:Nat=>n≤18446744073709551615) x.1∧(fun x=>(fun l:List ah=>l.length≤reachBytes∧∀ x ∈ l,tp x) x.1∧(fun _:Unit=>True) x.2) x.2) x.2)
theorem Rg {w:World}:dD Tryz.prog w reachBytes 31 Rc Rf:=dD.struct (fs:=[⟨"Server",24,0,false, "", "",0⟩,⟨"Seq",22,2,false, "", "",16⟩,⟨"Peers",29,3,false, "", "",24⟩]) (tot:=4) (by kernel_rfl) (by kernel_rfl) (dV.cons rfl (k:=2) (by kernel_rfl) sQ (dV.cons rfl (k:=1) (by kernel_rfl) (Rd.sz (Rd.u64 (by kernel_rfl))) (dV.cons rfl (k:=1) (by kernel_rfl) (dD.As (e:=24) (by kernel_rfl) (by kernel_rfl) (of_decide_eq_true (by kernel_rfl)) sQ) dV.nil)))
theorem Rh {w:World}:dD Tryz.prog w reachBytes 31 aw.row HS:=Rg.map (fun x=>aw.mk x.1 x.2.1 x.2.2.1) (fun _=>rfl) (fun _ h=>h.2.2.1.1)
abbrev HX:=Int×ah×Int×(List Hd)×(List UInt8)×aw×Unit
abbrev Ri:HX→List DV:=(fun x=>(fun n:Int=>[DV.z n]) x.1++(fun x=>ah.row x.1++(fun x=>(fun n:Int=>[DV.z n]) x.1++(fun x=>(fun l:List Hd=>[DV.ro 4 (l.map I0)]) x.1++(fun x=>(fun l:List UInt8=>[DV.ro 1 (l.map (fun b:UInt8=>[DV.v (.int .u8 (b.toNat:Int))]))]) x.1++(fun x=>aw.row x.1++(fun _:Unit=>([]:List DV)) x.2) x.2) x.2) x.2) x.2) x.2)
abbrev Rj:HX→Prop:=(fun x=>(fun n:Int => -9223372036854775808≤n∧n≤9223372036854775807) x.1∧(fun x=>tp x.1∧(fun x=>(fun n:Int => -9223372036854775808≤n∧n≤9223372036854775807) x.1∧(fun x=>(fun l:List Hd=>l.length≤reachBytes∧∀ x ∈ l,HR x) x.1∧(fun x=>(fun l:List UInt8=>l.length≤reachBytes∧∀ x ∈ l,(fun _:UInt8=>True) x) x.1∧(fun x=>HS x.1∧(fun _:Unit=>True) x.2) x.2) x.2) x.2) x.2) x.2)
theorem Rl {w:World}:dD Tryz.prog w reachBytes 33 Ri Rj:=dD.struct (fs:=[⟨"Kind",3,0,false, "", "",0⟩,⟨"Src",24,1,false, "", "",8⟩,⟨"Hops",3,3,false, "", "",24⟩,⟨"Heads",27,4,false, "", "",32⟩,⟨"Body",28,5,false, "", "",56⟩,⟨"Advert",31,6,false, "", "",80⟩]) (tot:=10) (by kernel_rfl) (by kernel_rfl) (dV.cons rfl (k:=1) (by kernel_rfl) (Rd.sz (nG (by kernel_rfl))) (dV.cons rfl (k:=2) (by kernel_rfl) sQ (dV.cons rfl (k:=1) (by kernel_rfl) (Rd.sz (nG (by kernel_rfl))) (dV.cons rfl (k:=1) (by kernel_rfl) (dD.As (e:=58) (by kernel_rfl) (by kernel_rfl) (of_decide_eq_true (by kernel_rfl)) Rb) (dV.cons rfl (k:=1) (by kernel_rfl) (dD.As (e:=5) (by kernel_rfl) (by kernel_rfl) (of_decide_eq_true (by kernel_rfl)) (Rd.sz (Rd.byte (by kernel_rfl)))) (dV.cons rfl (k:=4) (by kernel_rfl) Rh dV.nil))))))
theorem Hl {w:World}:dD Tryz.prog w reachBytes 33 I5 wW:=Rl.map (fun x=>bJ.mk x.1 x.2.1 x.2.2.1 x.2.2.2.1 x.2.2.2.2.1 x.2.2.2.2.2.1) (fun _=>rfl) (fun _ h=>⟨h.2.2.2.1.1,h.2.2.2.2.2.1,h.2.2.2.2.1.1⟩)
abbrev HY:=Int×ah×Int×bJ×Unit
abbrev Rn:HY→List DV:=(fun x=>(fun n:Int=>[DV.z n]) x.1++(fun x=>ah.row x.1++(fun x=>(fun n:Int=>[DV.z n]) x.1++(fun x=>I5 x.1++(fun _:Unit=>([]:List DV)) x.2) x.2) x.2) x.2)
abbrev Ro:HY→Prop:=(fun x=>(fun n:Int => -9223372036854775808≤n∧n≤9223372036854775807) x.1∧(fun x=>tp x.1∧(fun x=>(fun n:Int => -9223372036854775808≤n∧n≤9223372036854775807) x.1∧(fun x=>wW x.1∧(fun _:Unit=>True) x.2) x.2) x.2) x.2)
theorem Rp {w:World}:dD Tryz.prog w reachBytes 36 Rn Ro:=dD.struct (fs:=[⟨"Do",3,0,false, "", "",0⟩,⟨"Peer",24,1,false, "", "",8⟩,⟨"Node",3,3,false, "", "",24⟩,⟨"P",33,4,false, "", "",32⟩]) (tot:=14) (by kernel_rfl) (by kernel_rfl) (dV.cons rfl (k:=1) (by kernel_rfl) (Rd.sz (nG (by kernel_rfl))) (dV.cons rfl (k:=2) (by kernel_rfl) sQ (dV.cons rfl (k:=1) (by kernel_rfl) (Rd.sz (nG (by kernel_rfl))) (dV.cons rfl (k:=10) (by kernel_rfl) Hl dV.nil))))
theorem Rq {w:World}:dD Tryz.prog w reachBytes 36 cJ.row HT:=Rp.map (fun x=>cJ.mk x.1 x.2.1 x.2.2.1 x.2.2.2.1) (fun _=>rfl) (fun _ h=>⟨h.2.2.1,h.2.2.2.1⟩)
theorem NF {w:World}:dD Tryz.prog w reachBytes 25 (fun l:List Int=>[.ro 1 (ints l)]) fun l=>l.length≤9223372036854775807∧∀ x ∈ l,-9223372036854775808≤x∧x≤9223372036854775807:=(Rd.slice (e:=3) (by kernel_rfl) (by kernel_rfl) (nG (by kernel_rfl))).sz
theorem LN {w:World}:dD Tryz.prog w reachBytes 26 (fun l:List cJ=>[.ro 14 (steps l)]) fun l=>l.length*160≤reachBytes∧∀ s ∈ l,HT s:=dD.slice (e:=36) (by kernel_rfl) (by kernel_rfl) (by kernel_rfl) (by decide) Rq
set_option maxRecDepth 100000 in
theorem I6 (os:Os) (started:os.Started) (H:Type) (enc:TypeId×Value→H):
  ReturnsInHanded {} Tryz.checked os 3 .any (Rows.overlayTwiceSpec.pre6 enc Tryz.prog Tryz.f3 Rows.overlayTwiceRow.domain false) (Rows.overlayTwiceSpec.post enc Tryz.prog Tryz.f3 false true false false):=by
 refine returnsInHanded_of_change_sized (C:=Tryz.checked) Tryz.own started (by kernel_rfl) Tryz.func3
  (ChangeSpec.witness6 (enc:=enc) (C:=Tryz.checked) false ⟨#[],#[.agg #[.int .i64 0,.int .u64 0],.slice none 0 0,.slice none 0 0,.int .i64 0,.agg #[.int .i64 0,.int .i64 0,.int .u64 0,.int .i64 0,.slice none 0 0,.slice none 0 0,.int .i64 0,.int .u64 0,.int .u64 0,.slice none 0 0]],[]⟩ 8 (by kernel_rfl) (by kernel_rfl) (by kernel_rfl) (by kernel_rfl)) ?_
 intro W base args ds gs before Rr hW T6 bI _
 have TJ:DataW.Whole enc Tryz.prog Tryz.f3.params.toList Rows.overlayTwiceSpec.vars false W args.toList ds gs before:=hW
 have CJ:=TJ
 obtain ⟨p,q,TK,hV,rfl,fL,de⟩:=hW
 have hA:DataW.TrodAll enc Tryz.prog W 0 (fun _=>true) true Tryz.f3.params.toList args.toList ds p:=TK
 have kr:∀ (j:Nat) t v,Tryz.f3.params[j]?=some t→args[j]?=some v→Value.okWide Tryz.prog W .any base t v:=Rr
 rw [Tryz.params3] at hA kr
 obtain ⟨v0,UK,d0,UL,p0,q0,TO,rfl,rfl,h0,r0⟩:=trodAll_cons hA
 obtain ⟨v1,UM,d1,UN,p1,q1,P1,rfl,rfl,h1,r1⟩:=trodAll_cons r0
 subst P1
 obtain ⟨v2,UO,d2,UP,p2,q2,P2,rfl,rfl,h2,r2⟩:=trodAll_cons r1
 subst P2
 obtain ⟨v3,UQ,d3,UR,p3,q3,P3,rfl,rfl,h3,r3⟩:=trodAll_cons r2
 subst P3
 obtain ⟨v4,US,d4,UT,p4,q4,P4,rfl,rfl,h4,r4⟩:=trodAll_cons r3
 subst P4
 obtain ⟨rfl,rfl,rfl⟩:=trodAll_nil r4
 obtain rfl:args=#[v0,v1,v2,v3,v4]:=by cases args;simp_all
 obtain ⟨rfl,rfl⟩:=trodVars_none hV
 obtain ⟨UU,rfl,-,-⟩:∃ cs,v0=.agg cs∧_∧_:=by have:=kr 0 24 v0 rfl rfl;rw [Value.okWide,Tryz.underlying24] at this;exact this
 obtain ⟨self,_,g0⟩:=sQ _ (TZ.of h0 (fun n hn=>by simpa using List.all_eq_true.1 bI n (DataW.weights_mem_each (j:=0) (by rw [Tryz.params3];rfl) rfl n hn)))
 obtain ⟨a1,n1,c1,rfl⟩:=okWide_slice (P:=Tryz.prog) (e:=3) (by kernel_rfl) (kr 1 25 v1 rfl rfl)
 obtain ⟨homes,_,g1⟩:=NF _ (TZ.of h1 (fun n hn=>by simpa using List.all_eq_true.1 bI n (DataW.weights_mem_each (j:=1) (by rw [Tryz.params3];rfl) rfl n hn)))
 obtain ⟨a2,n2,c2,rfl⟩:=okWide_slice (P:=Tryz.prog) (e:=36) (by kernel_rfl) (kr 2 26 v2 rfl rfl)
 obtain ⟨l,hl,g2⟩:=LN _ (TZ.of h2 (fun n hn=>by simpa using List.all_eq_true.1 bI n (DataW.weights_mem_each (j:=2) (by rw [Tryz.params3];rfl) rfl n hn)))
 obtain ⟨n3,rfl⟩:=okWide_int (P:=Tryz.prog) Tryz.underlying3 (kr 3 3 v3 rfl rfl)
 obtain ⟨fr,iE,g3⟩:=(nG (by kernel_rfl)) _ (TR.of h3)
 obtain ⟨UW,rfl,-,-⟩:∃ cs,v4=.agg cs∧_∧_:=by have:=kr 4 33 v4 rfl rfl;rw [Value.okWide,Tryz.underlying33] at this;exact this
 obtain ⟨p,hp,g4⟩:=Hl _ (TZ.of h4 (fun n hn=>by simpa using List.all_eq_true.1 bI n (DataW.weights_mem_each (j:=4) (by rw [Tryz.params3];rfl) rfl n hn)))
 have UX:=reachBytes_lt
 refine (aD.holds (w:=W) (ND self homes l fr p (by have:=hl.1;have e:reachBytes=140737488351232:=rfl;omega) (fun s hs=>by have:=(hl.2 s hs).2;unfold wW at this;unfold cJ.in;omega) (fun s hs=>(hl.2 s hs).1) iE (by have:=hp.1;have:=hp.2.1;have:=hp.2.2;show p.al.length≤_∧p.ad.ay.length≤_∧p.body.length≤_;omega)) (ys:=[_,_,_,_,_]) rfl fun j c y e1 e2=>?_).mono fun e W' ⟨he,hg⟩=>?_
 ·match j,e1,e2 with
  | 0,e1,e2=>simp at e1 e2;subst e1 e2;exact g0.agg
  | 1,e1,e2=>simp at e1 e2;subst e1 e2;exact gQ.v g1
  | 2,e1,e2=>simp at e1 e2;subst e1 e2;exact gQ.v g2
  | 3,e1,e2=>simp at e1 e2;subst e1 e2;exact gQ.v g3
  | 4,e1,e2=>simp at e1 e2;subst e1 e2;exact g4.agg
  | k+5,e1,_=>simp at e1
 ·subst he
  exact ⟨_,rfl,MR Tryz.laidOut (by kernel_rfl) (by kernel_rfl) Tryz.underlying4 rfl CJ rfl hg⟩
theorem overlayTwice_holds:Rows.OverlayTwiceSaid:=
 OpenClaim.holds_of_wide 3 Tryz.f3 rfl rfl rfl rfl rfl rfl rfl ⟨rfl,rfl,rfl,rfl,rfl⟩ rfl rfl rfl rfl rfl (by kernel_rfl) Tryz.func3 (by kernel_rfl)
  (of_decide_eq_true (by kernel_rfl)) (by unfold Func.isWrapper;first | (rw [if_pos (by decide +kernel)];kernel_rfl) | (rw [if_neg (by decide +kernel)];exact ⟨rfl,rfl⟩))
  (fun os started H enc _=>I6 os started H enc)
end Go.Proofs.YtlinpknagdgphaaGreat
