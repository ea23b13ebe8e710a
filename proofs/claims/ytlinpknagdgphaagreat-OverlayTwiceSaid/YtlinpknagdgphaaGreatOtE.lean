/-
  overlayTwice_holds, part 5 of 7: merged by program from the texts that it needs.
-/
import Derived.Test.YtlinpknagdgphaaGreatOtC
import Derived.Test.YtlinpknagdgphaaGreatOtD
set_option linter.unusedSimpArgs false
set_option linter.unusedVariables false
set_option linter.unnecessarySimpa false
namespace Go.Proofs.YtlinpknagdgphaaGreat
open Go.RowKit
theorem OB {b:List aw} {p:ah} {s:Nat} {ps:List (ah×Nat)} {L:List ah} (h:iz b p s ps) (hL:∀ q,q ∈ L↔(q,s) ∈ ps) (h0:(((L.length:Nat):Int)==0)=true):
  ((cw ps).map fun e=>e.2).Perm (g9 b p)∧ps.length=(bG b p).length:=by
 have hn:∀ q,(q,s) ∉ ps:=fun q hq=>by
  have h1:=eq_of_beq h0
  have:L=[]:=List.length_eq_zero_iff.1 (by omega)
  have:=(hL q).2 hq;simp_all
 obtain ⟨-,-,hp⟩:=FM h.keys (h.HG hn)
 exact ⟨by rw [Nb];exact hp.map _,hp.length_eq⟩
theorem Nc {b:List aw} (g:dg b) {p:ah} {s:Nat} {ps:List (ah×Nat)} {L:List ah} (h:iz b p s ps) (hL:∀ q,q ∈ L↔(q,s) ∈ ps) (h0:(((L.length:Nat):Int)==0)=false):s≤4:=by
 have h1:=ne_of_beq_false h0
 match L,h1 with
 | [],h1=>exact absurd rfl h1
 | q::l,_=>
  have:=(h.all q s).1 ((hL q).1 List.mem_cons_self)
  exact this.2.four g
theorem Nd {b:List aw} {p:ah}:∀ e ∈ g9 b p,dh e.2:=fun e he=>by
 obtain ⟨x,-,rfl⟩:=List.mem_map.1 he
 exact gX _
theorem l6 {α:Type} [DecidableEq α]:∀ {l m:List α},l.Nodup→(∀ x ∈ l,x ∈ m)→l.length≤m.length
 | [],_,_,_=>by simp
 | x::l,m,hn,h=>by
  rw [List.nodup_cons] at hn
  have hx:=h x List.mem_cons_self
  have:=l6 (l:=l) (m:=m.erase x) hn.2 fun y hy=>(List.mem_erase_of_ne (fun e=>hn.1 (by rw [← e];exact hy))).2 (h y (List.mem_cons_of_mem _ hy))
  have hp:0<m.length:=List.length_pos_of_mem hx
  rw [List.length_erase_of_mem hx] at this
  simp;omega
theorem dM.CN {b:List aw} {p q:ah} {d:Nat} (h:dM b p d q):q ∈ p::b.map aw.server:=by
 cases d with
 | zero=>rw [h.1];exact List.mem_cons_self
 | succ d=>
  obtain ⟨r,-,hq⟩:=h.prev
  obtain ⟨a,ha,hs⟩:=uT hq
  exact List.mem_cons_of_mem _ (List.mem_map.2 ⟨a,ha,hs⟩)
theorem iz.gR {b:List aw} (g:dg b) {p:ah} {s:Nat} {ps:List (ah×Nat)} (h:iz b p s ps):ps.length≤5:=by
 have h1:=l6 h.keys.one (m:=p::b.map aw.server) fun q hq=>by
  obtain ⟨⟨q',d⟩,hx,rfl⟩:=List.mem_map.1 hq
  exact ((h.all q' d).1 hx).2.CN
 have:=g.len
 simp at h1;omega
set_option maxRecDepth 100000 in
theorem G5 (b:List aw) (p:ah) (g:dg b) (hp:p.eJ):aL Tryz.prog 48 [.d (.ro 4 (aI b)),.ag [.z p.node,.u p.inc]] [] (.mv 0) ([.mu 92 (bG b p).length (g9 b p)]):=by
 refine aL.Pt (by kernel_rfl) rfl rfl 62 rfl rfl fun w0 K ac hK r=>?_
 have r:=r.mark
 refine bU (todo':=hd Tryz.f48 0) (E':=[(0,.d (.ro 4 (aI b))),(5,.pt 1 0),(6,.pt 2 0)]) (M':=[.mp 92 (0+1) ([]++[(0,.a [(.i64,(p.node:Int)),(.u64,(((p.inc:Nat):Int):Int))],.z 0)]),.bx 92 [.mv 0],.bx 3 [.z 0]]) tk tq hK [(1,[(2,.b false)])] 2000 [1,2,3] [0,5,6] r (by kernel_rfl) (U (⟨Tryz.BX,fun k hk=>by simp at hk;subst hk;exact sq hp⟩:b5 Tryz.prog 24 ((.a [(.i64,(p.node:Int)),(.u64,(((p.inc:Nat):Int):Int))])::List.map (fun (e:Nat×MK×DV)=>e.2.1) ([]))) (U ((by simp):∀ zz ∈ ([]:List (Nat×MK×DV)),zz.2.1≠.a [(.i64,(p.node:Int)),(.u64,(((p.inc:Nat):Int):Int))]) trivial)) fun ac wd r=>?_
 refine aN.rounds (Φ:=fun (s:Nat) ac wd=>∃ ps:List (ah×Nat),(iz b p s ps)∧ca true [] w0 K 62 [(0,.d (.ro 4 (aI b))),(5,.pt 1 0),(6,.pt 2 0)] [.mp 92 (ps.length) (cw ps),.bx 92 [.mv 0],.bx 3 [.n s]] ac wd) (5) ?_ (Nat.zero_le _) ⟨[(p,0)],iz.start b hp,(r).cast rfl rfl⟩
 clear r
 rintro s cI bo ac wd ⟨ps,aM,r⟩
 refine bU (todo':=hd Tryz.f48 1) (E':=[(0,.d (.ro 4 (aI b))),(5,.pt 1 0),(6,.pt 2 0),(21,.pt 3 0),(7,.d (.v (.slice none 0 0)))]) (M':=[.mp 92 (ps.length) (cw ps),.bx 92 [.mv 0],.bx 3 [.n s],.it (some 0) (ps.length) ([]) (ps.length)]) tk tq hK [] 2000 [0,1,2,3] [0,5,6,21,7] r (by kernel_rfl) trivial fun ac wd r=>?_
 refine aN.rounds (Φ:=fun (i:Nat) ac wd=>∃ sn:List Nat,∃ L:List ah,(Seen ps s i sn L)∧ca true [] w0 K 62 [(0,.d (.ro 4 (aI b))),(5,.pt 1 0),(6,.pt 2 0),(21,.pt 3 0),(7,.sl 4 (L.length))] [.mp 92 (ps.length) (cw ps),.bx 92 [.mv 0],.bx 3 [.n s],.it (some 0) (ps.length) (sn) (ps.length),.rw 24 2 (procs L)] ac wd) (ps.length) ?_ (Nat.zero_le _) ⟨[],[],Seen.start ps s,(r.gW (M1:=[.mp 92 (ps.length) (cw ps),.bx 92 [.mv 0],.bx 3 [.n s],.it (some 0) (ps.length) ([]) (ps.length),.rw 24 2 []]) [(7,24,2)] [] (by kernel_rfl) (by kernel_rfl)).cast rfl rfl⟩
 clear r
 rintro i eS fV ac wd ⟨sn,L,bg,r⟩
 have TY:=aM.gR g
 have T1:=bg.le
 refine Pr (id:=6) (t:=21) (d1:=22) (d2:=23) (ui:=3) (um:=0) (since:=ps.length) (c:=ps.length) (T':=92) (ck:=ps.length) (seen:=sn) (es:=cw ps) (k:=aft Tryz.f48 6) (ops:=ops Tryz.f48 6) tk tq hK 1 r (by kernel_rfl) (by kernel_rfl) (by kernel_rfl) ⟨by kernel_rfl,by kernel_rfl⟩ (by kernel_rfl) (by kernel_rfl) (by kernel_rfl) (fun e he=>FL e he) (Nat.le_refl _) (fun G6 ac wd r=>?_) (fun Ux om Uy Uz Th xn ac wd r=>?_)
 ·
  cases h0:((((L.length:Nat):Int):Int)==0) with
  | false=>
   have bH:=ne_of_beq_false h0
   refine q5 (todo':=aft Tryz.f48 10) (E':=[(0,.d (.ro 4 (aI b))),(5,.pt 1 0),(6,.pt 2 0),(21,.pt 3 0),(7,.sl 4 (L.length)),(23,.d (.v (.bool false))),(34,.sl 4 (L.length)),(35,.n L.length),(36,.d (.v (.bool false)))]) (M':=[.mp 92 (ps.length) (cw ps),.bx 92 [.mv 0],.bx 3 [.n s],.it (some 0) (ps.length) (sn) (ps.length),.rw 24 2 (procs L)]) tk tq hK [(10,[(2,.b false)])] 6 [0,1,2,3,4] [0,5,6,21,7,23,34,35,36] r (by kernel_rfl) (U h0 trivial) fun ac wd r=>?_
   have hL:=bg.end G6
   have Ti:=Nc g aM hL h0
   refine bU (todo':=hd Tryz.f48 2) (E':=[(0,.d (.ro 4 (aI b))),(5,.pt 1 0),(6,.pt 2 0),(38,.sl 3 (L.length)),(39,.n L.length),(40,.z 0)]) (M':=[.mp 92 (ps.length) (cw ps),.bx 92 [.mv 0],.bx 3 [.n s],.rw 24 2 (procs L)]) tk tq hK [] 2000 [0,1,2,4] [0,5,6,38,39,40] r (by kernel_rfl) trivial fun ac wd r=>?_
   refine aN.rounds (Φ:=fun (i:Nat) ac wd=>(i≤L.length)∧ca true [] w0 K 62 [(0,.d (.ro 4 (aI b))),(5,.pt 1 0),(6,.pt 2 0),(38,.sl 3 (L.length)),(39,.n L.length),(40,.n i)] [.mp 92 ((fE b s ps (L.take i)).length) (cw (fE b s ps (L.take i))),.bx 92 [.mv 0],.bx 3 [.n s],.rw 24 2 (procs L)] ac wd) (L.length) ?_ (Nat.zero_le _) ⟨(Nat.zero_le _),(r).cast rfl rfl⟩
   clear r
   rintro i Ta PE ac wd ⟨c8,r⟩
   cases h1:(decide ((((i:Nat):Int):Int)<((L.length:Nat):Int))) with
   | false=>
    have bN:=of_decide_eq_false h1
    exact bU (todo':=hd Tryz.f48 0) (E':=[(0,.d (.ro 4 (aI b))),(5,.pt 1 0),(6,.pt 2 0)]) (M':=[.mp 92 ((fE b s ps (L.take i)).length) (cw (fE b s ps (L.take i))),.bx 92 [.mv 0],.bx 3 [.n (s+1)]]) tk tq hK [(3,[(1,.z (((s+1:Nat):Int)))]),(13,[(0,.b false)])] 2000 [0,1,4] [0,5,6] r (by kernel_rfl) (U h1 (U ((wi (by omega)):IntKind.i64.wrap ((((s:Nat):Int):Int)+1)=((s+1:Nat):Int)) trivial)) fun ac wd r=>bo (by omega) ac wd ⟨(fE b s ps (L.take i)),(by rw [List.take_of_length_le (by omega)];exact aM.next g hL),r.cast rfl rfl⟩
   | true=>
    have bN:=of_decide_eq_true h1
    obtain ⟨q,gq⟩:∃ x,L[i]?=some x:=⟨_,List.getElem?_eq_getElem (by omega)⟩
    refine zi (todo':=wT Tryz.f48 0) (E2:=[(0,.d (.ro 4 (aI b))),(5,.pt 1 0),(6,.pt 2 0),(38,.sl 3 (L.length)),(39,.n L.length),(40,.n i)]) (M2:=[.mp 92 ((cO (fE b s ps (L.take i)) (s+1) (jn b q)).length) (cw (cO (fE b s ps (L.take i)) (s+1) (jn b q))),.bx 92 [.mv 0],.bx 3 [.n s],.rw 24 2 (procs L)]) tk tq hK rfl [(13,[(0,.b true)]),(14,[(0,.n (i)),(1,.ix 0 [.z q.node,.u q.inc])]),(15,[(2,.dt 200 [])])] 14 [5,6,0,1,2] [5,6] (.tu []) [.bx 68 [.d (.ro 4 (aI b))],.bx 24 [.z q.node,.u q.inc],.mp 92 ((cO (fE b s ps (L.take i)) (s+1) (jn b q)).length) (cw (cO (fE b s ps (L.take i)) (s+1) (jn b q))),.bx 92 [.mv 2],.bx 3 [.n s],.lp .ready 48 62 [(5,.pt 3 0),(6,.pt 4 0)] (dU Tryz.f48 0)] [0,1,2,3] [0,5,6,38,39,40] r (by kernel_rfl) (U (Na b q (fE b s ps (L.take i)) s g (x4 g aM.keys) (by omega)) (U h1 (U (aX ((i:Nat):Int)) (U ((by first | omega | decide | (simp;omega)):(i)<(L.length)) (U ((by first | rfl | (simp;done) | (simp<;>omega)):(L.length)≤(procs L).length) (U (cK gq) trivial)))))) fun ac wd r=>?_
    exact bU (todo':=hd Tryz.f48 2) (E':=[(0,.d (.ro 4 (aI b))),(5,.pt 1 0),(6,.pt 2 0),(38,.sl 3 (L.length)),(39,.n L.length),(40,.n (i+1))]) (M':=[.mp 92 ((cO (fE b s ps (L.take i)) (s+1) (jn b q)).length) (cw (cO (fE b s ps (L.take i)) (s+1) (jn b q))),.bx 92 [.mv 0],.bx 3 [.n s],.rw 24 2 (procs L)]) tk tq hK [(20,[(0,.z (((i+1:Nat):Int)))])] 2000 [0,1,2,3] [0,5,6,38,39,40] r (by kernel_rfl) (U ((wi (by omega)):IntKind.i64.wrap ((((i:Nat):Int):Int)+1)=((i+1:Nat):Int)) trivial) fun ac wd r=>PE (by omega) ac wd ⟨(by omega),r.cast rfl (by rw [Lr gq])⟩
  | true=>
   have bH:=eq_of_beq h0
   refine q5 (todo':=aft Tryz.f48 10) (E':=[(0,.d (.ro 4 (aI b))),(5,.pt 1 0),(6,.pt 2 0),(21,.pt 3 0),(7,.sl 4 (L.length)),(23,.d (.v (.bool false))),(34,.sl 4 (L.length)),(35,.n L.length),(36,.d (.v (.bool true)))]) (M':=[.mp 92 (ps.length) (cw ps),.bx 92 [.mv 0],.bx 3 [.n s],.it (some 0) (ps.length) (sn) (ps.length),.rw 24 2 (procs L)]) tk tq hK [(10,[(2,.b true)])] 6 [0,1,2,3,4] [0,5,6,21,7,23,34,35,36] r (by kernel_rfl) (U h0 trivial) fun ac wd r=>?_
   have hL:=bg.end G6
   obtain ⟨nE,QP⟩:=OB aM hL h0
   have r:=(r.forget 0 (es2:=g9 b p) rfl nE (by rw [Ed];exact List.nodup_range) (fun e he=>FL e he)).cast (M':=[.mu 92 ((bG b p).length) (g9 b p),.bx 92 [.mv 0],.bx 3 [.n s],.it (some 0) (ps.length) (sn) (ps.length),.rw 24 2 (procs L)]) rfl (by rw [QP];rfl)
   refine Pu (E':=[(4,.mv 0)]) (M':=[.mu 92 ((bG b p).length) (g9 b p)]) tk tq hK rfl [] 2000 [0] [4] r (by kernel_rfl) (by kernel_rfl) trivial ?_ ?_
   ·intro x hx;simp only [List.mem_singleton] at hx;subst hx;exact fg.mv 0
   ·intro x hx;simp only [List.mem_singleton] at hx;subst hx;exact gb.mu Nd
 ·
  obtain ⟨q,d,hq,rfl,rfl,rfl⟩:=EN Th
  have rD:=(List.getElem?_eq_some_iff.1 hq).1
  have u0:=(⟨_,_,zn hq,rfl⟩:∃ b0 s0,(cw ps:List (Nat×MK×DV))[om]?=some (b0,.a [(.i64,(q.node:Int)),(.u64,(((q.inc:Nat):Int):Int))],.n d)∧(sn++[om]:List Nat)=s0++[b0])
  have u1:=((by rw [Ed];exact List.nodup_range):(List.map (fun (e:Nat×MK×DV)=>e.1) (cw ps)).Nodup)
  cases h2:((((d:Nat):Int):Int)==((s:Nat):Int)) with
  | false=>
   have b7:=ne_of_beq_false h2
   exact bU (todo':=hd Tryz.f48 1) (E':=[(0,.d (.ro 4 (aI b))),(5,.pt 1 0),(6,.pt 2 0),(21,.pt 3 0),(7,.sl 4 (L.length))]) (M':=[.mp 92 (ps.length) (cw ps),.bx 92 [.mv 0],.bx 3 [.n s],.it (some 0) (ps.length) (sn++[om]) (ps.length),.rw 24 2 (procs L)]) tk tq hK [(7,[(0,.mk (om) (.a [(.i64,(q.node:Int)),(.u64,(((q.inc:Nat):Int):Int))]) (.n d))]),(8,[(2,.b false)])] 2000 [0,1,2,3,4] [0,5,6,21,7] r (by kernel_rfl) (U u0 (U u1 (U (rfl:(ps.length:Nat)=ps.length) (U h2 trivial)))) fun ac wd r=>fV (bg.less rD xn) ac wd ⟨(sn++[om]),L,(bg.no xn hq (by omega)),r.cast (by first | rfl | simp) (by first | rfl | simp [procs,ah.row])⟩
  | true=>
   have b7:=eq_of_beq h2
   exact bU (todo':=hd Tryz.f48 1) (E':=[(0,.d (.ro 4 (aI b))),(5,.pt 1 0),(6,.pt 2 0),(21,.pt 3 0),(7,.sl 4 (L.length+(1)))]) (M':=[.mp 92 (ps.length) (cw ps),.bx 92 [.mv 0],.bx 3 [.n s],.it (some 0) (ps.length) (sn++[om]) (ps.length),.rw 24 2 (procs L++[[.z q.node,.u q.inc]])]) tk tq hK [(7,[(0,.mk (om) (.a [(.i64,(q.node:Int)),(.u64,(((q.inc:Nat):Int):Int))]) (.n d))]),(8,[(2,.b true)])] 2000 [0,1,2,3,4] [0,5,6,21,7] r (by kernel_rfl) (U u0 (U u1 (U (rfl:(ps.length:Nat)=ps.length) (U h2 (U ((by first | rfl | (simp;done) | (simp<;>omega)):(L.length)=(procs L).length) (U ((by first | rfl | (simp;done) | (simp<;>omega)):(1)=([[.z q.node,.u q.inc]]:List (List DV)).length) (U ((by first | omega | (simp;done) | (simp<;>omega)):(2*((L.length)+(1))+0)*16≤281474976710656) (U ((by first | omega | (simp;done) | (simp<;>omega)):(L.length)+(1)<4611686018427387904) (U ((by simp [bA,AV.one,cd]):bA ([[.z q.node,.u q.inc]])) trivial))))))))) fun ac wd r=>fV (bg.less rD xn) ac wd ⟨(sn++[om]),(L++[q]),(bg.yes xn (by rw [hq,show d=s by omega])),r.cast (by first | rfl | simp) (by first | rfl | simp [procs,ah.row])⟩
end Go.Proofs.YtlinpknagdgphaaGreat
namespace Go.Proofs.YtlinpknagdgphaaGreat
open Go.RowKit
theorem aD.cT {P:Program} {f:FuncId} {args:List AV} {x:DV} (h:aD P f args x):aD P f args (cT x):=by
 refine ⟨h.1,fun w K ys hK hl hr=>(h.2 w K ys hK hl hr).mono ?_⟩
 rintro ed w' ⟨v,rfl,g,H,⟨Ho,Hi,rfl,hd⟩,n⟩
 exact ⟨_,rfl,g,_,⟨[],Ho++Hi,rfl,oH hd fun w hw=>⟨⟨hw.1,(az.app.1 hw.2).2⟩,(az.app.1 hw.2).1⟩⟩,n⟩
theorem R9 (l:List aw) (hb:l.length≤9223372036854775807) (hp:∀ x ∈ l,x.ay.length≤9223372036854775807):aD Tryz.prog 43 [.d (.ro 4 (aI l))] (.ro 4 (aI (book l))):=by
 have h:=(o8 l hb hp).cT
 rw [cT,ux] at h;exact h
theorem vF (l:List aw):∀ k,(∀ a ∈ cW l k,a.may=true∧a ∈ l∧a.server.node<(k:Int))∧(cW l k).Pairwise fun x y=>x.server.node<y.server.node
 | 0=>by simp [cW]
 | k+1=>by
  obtain ⟨h1,h2⟩:=vF l k
  rw [cW]
  split
  ·rename_i h0
   rcases oM l k l.length with e | ⟨e1,e2,e3⟩
   ·rw [e] at h0;cases h0
   ·refine ⟨fun a ha=>?_,?_⟩
    ·rcases List.mem_append.1 ha with ha | ha
     ·obtain ⟨g1,g2,g3⟩:=h1 a ha;exact ⟨g1,g2,by omega⟩
     ·rw [List.mem_singleton] at ha;subst ha;exact ⟨e2,e1,by omega⟩
    ·rw [List.pairwise_append]
     refine ⟨h2,by simp,fun a ha c hc=>?_⟩
     rw [List.mem_singleton] at hc;subst hc
     have:=(h1 a ha).2.2;omega
  ·rw [List.append_nil]
   exact ⟨fun a ha=>by obtain ⟨g1,g2,g3⟩:=h1 a ha;exact ⟨g1,g2,by omega⟩,h2⟩
theorem dS (l:List aw):dg (book l):=⟨fun a ha=>((vF l 5).1 a ha).1,(vF l 5).2⟩
theorem ES {l:List aw} {a:aw} (h:a ∈ book l):a ∈ l:=((vF l 5).1 a h).2.1
theorem qE {b:List aw} (g:dg b) {p:ah} (hp:p.eJ):Keys (bG b p)∧∀ q d,(q,d) ∈ bG b p↔dM b p d q:=by
 have key:∀ s ps,iz b p s ps→s≤5→Keys (bG b p)∧∀ q d,(q,d) ∈ bG b p↔dM b p d q:=by
  intro s
  have:∀ n s ps,iz b p s ps→s≤5→5-s=n→Keys (bG b p)∧∀ q d,(q,d) ∈ bG b p↔dM b p d q:=by
   intro n
   induction n with
   | zero=>
    intro s ps h hs hn
    have cY:∀ q,(q,s) ∉ ps:=fun q hq=>by have:=((h.all q s).1 hq).2.four g;omega
    obtain ⟨h1,h2,-⟩:=FM h.keys (h.HG cY);exact ⟨h1,h2⟩
   | succ n ih=>
    intro s ps h hs hn
    exact ih (s+1) _ (h.next g (l:=(ps.filter fun x=>decide (x.2=s)).map Prod.fst) fun q=>by
     rw [List.mem_map]
     constructor
     ·rintro ⟨⟨q',d⟩,hx,rfl⟩
      obtain ⟨h1,h2⟩:=List.mem_filter.1 hx
      obtain rfl:d=s:=of_decide_eq_true h2
      exact h1
     ·intro hq;exact ⟨_,List.mem_filter.2 ⟨hq,decide_eq_true rfl⟩,rfl⟩) (by omega) (by omega)
  exact fun ps h hs=>this _ s ps h hs rfl
 exact key 0 _ (iz.start b hp) (by omega)
theorem FN {b:List aw} (g:dg b) {p:ah} (hp:p.eJ):(bG b p).length≤5:=by
 obtain ⟨k,h⟩:=qE g hp
 have h1:=l6 k.one (m:=p::b.map aw.server) fun q hq=>by
  obtain ⟨⟨q',d⟩,hx,rfl⟩:=List.mem_map.1 hq
  exact ((h q' d).1 hx).CN
 have:=g.len
 simp at h1;omega
theorem zp {l m:List ah} (h:∀ q,q ∈ l↔q ∈ m):eW l=eW m:=vX (vW l) (vW m) fun q=>by rw [so,so,h]
open Classical in
noncomputable def kl (l:List aw) (p:ah):List ah:=if p.may=true∧p.node≤4 then eW ((bG (book l) p).map Prod.fst) else []
structure ln (es:List (Nat×MK×DV)) (i:Nat) (sn:List Nat) (L:List ah):Prop where
 len:sn.length=i
 le:L.length=i
 one:sn.Nodup
 two:L.Nodup
 sub:∀ b ∈ sn,b ∈ es.map fun e=>e.1
 all:∀ q,q ∈ L↔∃ e ∈ es,e.1 ∈ sn∧e.2.1=pk q
theorem ln.start (es:List (Nat×MK×DV)):ln es 0 [] []:=⟨rfl,rfl,by simp,by simp,by simp,by simp⟩
theorem ln.less {es:List (Nat×MK×DV)} {i j b:Nat} {k:MK} {x:DV} {sn:List Nat} {L:List ah} (h:ln es i sn L) (hj:es[j]?=some (b,k,x)) (hn:b ∉ sn):i<es.length:=by
 have:=l6 (l:=b::sn) (m:=es.map fun e=>e.1) (List.nodup_cons.2 ⟨hn,h.one⟩) fun y hy=>by
  rcases List.mem_cons.1 hy with rfl | hy
  ·exact List.mem_map.2 ⟨_,List.mem_of_getElem? hj,rfl⟩
  ·exact h.sub y hy
 simp [h.len] at this;omega
theorem x5 {α β:Type} {l:List α} {f:α→β} (h:(l.map f).Nodup) {a b:α} (ha:a ∈ l) (hb:b ∈ l) (e:f a=f b):a=b:=by
 induction l with
 | nil=>cases ha
 | cons x l ih=>
  rw [List.map_cons,List.nodup_cons] at h
  cases ha with
  | head=>
   cases hb with
   | head=>rfl
   | tail _ hb=>exact absurd (List.mem_map.2 ⟨b,hb,e.symm⟩) h.1
  | tail _ ha=>
   cases hb with
   | head=>exact absurd (List.mem_map.2 ⟨a,ha,e⟩) h.1
   | tail _ hb=>exact ih h.2 ha hb
theorem ln.more {es:List (Nat×MK×DV)} (dm:(es.map fun e=>e.1).Nodup) (hk:(es.map fun e=>e.2.1).Nodup) {i j b:Nat} {x:DV} {sn:List Nat} {L:List ah} {q:ah} (h:ln es i sn L) (hj:es[j]?=some (b,pk q,x)) (hn:b ∉ sn):ln es (i+1) (sn++[b]) (L++[q]):=by
 have hm:=List.mem_of_getElem? hj
 refine ⟨by simp [h.len],by simp [h.le],?_,?_,fun y hy=>?_,fun q'=>?_⟩
 ·rw [List.nodup_append];exact ⟨h.one,by simp,fun a ha c hc e=>by simp at hc;subst hc e;exact hn ha⟩
 ·rw [List.nodup_append]
  refine ⟨h.two,by simp,fun a ha c hc e=>?_⟩
  simp at hc;subst hc e
  obtain ⟨e',h1,h2,h3⟩:=(h.all a).1 ha
  have:=x5 hk h1 hm h3
  rw [this] at h2;exact hn h2
 ·rcases List.mem_append.1 hy with hy | hy
  ·exact h.sub y hy
  ·simp at hy;subst hy;exact List.mem_map.2 ⟨_,hm,rfl⟩
 ·rw [List.mem_append,h.all,List.mem_singleton]
  constructor
  ·rintro (⟨e,h1,h2,h3⟩ | rfl)
   ·exact ⟨e,h1,List.mem_append_left _ h2,h3⟩
   ·exact ⟨_,hm,List.mem_append_right _ List.mem_cons_self,rfl⟩
  ·rintro ⟨e,h1,h2,h3⟩
   rcases List.mem_append.1 h2 with h2 | h2
   ·exact Or.inl ⟨e,h1,h2,h3⟩
   ·rw [List.mem_singleton] at h2
    have:=x5 dm h1 hm h2
    rw [this] at h3
    exact Or.inr (qC h3).symm
theorem ET {b:List aw} {p:ah} {es:List (Nat×MK×DV)} (hp:(es.map fun e=>e.2).Perm (g9 b p)) (k:Keys (bG b p)):(es.map fun e=>e.2.1).Nodup:=by
 have h1:(es.map fun e=>e.2.1)=(es.map fun e=>e.2).map Prod.fst:=by rw [List.map_map];rfl
 rw [h1,(hp.map Prod.fst).nodup_iff]
 have h2:(g9 b p).map Prod.fst=((bG b p).map Prod.fst).map pk:=by unfold g9;rw [List.map_map,List.map_map];rfl
 rw [h2]
 have:=k.one
 unfold List.Nodup at *
 rw [List.pairwise_map]
 exact this.imp fun gm e=>gm (qC e)
theorem vG {b:List aw} {p:ah} {es:List (Nat×MK×DV)} (hp:(es.map fun e=>e.2).Perm (g9 b p)) {j n:Nat} {k:MK} {x:DV} (h:es[j]?=some (n,k,x)):∃ q d,k=pk q∧x=.n d∧(q,d) ∈ bG b p:=by
 have:=hp.mem_iff.1 (List.mem_map.2 ⟨_,List.mem_of_getElem? h,rfl⟩)
 obtain ⟨⟨q,d⟩,h1,h2⟩:=List.mem_map.1 this
 simp only [Prod.mk.injEq] at h2
 exact ⟨q,d,h2.1.symm,h2.2.symm,h1⟩
theorem ln.done {b:List aw} {p:ah} {es:List (Nat×MK×DV)} (hp:(es.map fun e=>e.2).Perm (g9 b p)) {i:Nat} {sn:List Nat} {L:List ah} (h:ln es i sn L) (ha:∀ e ∈ es,e.1 ∈ sn):eW L=eW ((bG b p).map Prod.fst):=by
 refine zp fun q=>?_
 rw [h.all]
 constructor
 ·rintro ⟨e,h1,-,h3⟩
  obtain ⟨j,hj,pI⟩:=List.getElem_of_mem h1
  obtain ⟨q',d,g1,-,g3⟩:=vG hp (j:=j) (n:=e.1) (k:=e.2.1) (x:=e.2.2) (by rw [List.getElem?_eq_getElem hj,pI])
  rw [g1] at h3
  rw [← qC h3];exact List.mem_map.2 ⟨_,g3,rfl⟩
 ·intro hq
  obtain ⟨⟨q',d⟩,hx,rfl⟩:=List.mem_map.1 hq
  have:(pk q',DV.n d) ∈ es.map fun e=>e.2:=hp.mem_iff.2 (List.mem_map.2 ⟨_,hx,rfl⟩)
  obtain ⟨e,he,h2⟩:=List.mem_map.1 this
  exact ⟨e,he,ha e he,by rw [show e.2.1=(pk q',DV.n d).1 by rw [← h2]]⟩
end Go.Proofs.YtlinpknagdgphaaGreat
namespace Go.Proofs.YtlinpknagdgphaaGreat
open Go.RowKit
def eK (ps:List (ah×Nat)) (q:ah):Option Nat:=(ps.find? fun x=>decide (x.1=q)).map Prod.snd
theorem qp {ps:List (ah×Nat)} (k:Keys ps) {q:ah} {d:Nat}:eK ps q=some d↔(q,d) ∈ ps:=by
 unfold eK
 rw [Option.map_eq_some_iff]
 constructor
 ·rintro ⟨⟨q',d'⟩,h,rfl⟩
  have h1:=List.find?_some h
  simp only [decide_eq_true_eq] at h1;subst h1
  exact List.mem_of_find?_eq_some h
 ·intro h
  cases hf:ps.find? fun x=>decide (x.1=q) with
  | none=>have:=(List.find?_eq_none.1 hf) _ h;simp at this
  | some x=>
   have h1:=List.find?_some hf
   simp only [decide_eq_true_eq] at h1
   have:=x5 k.one (List.mem_of_find?_eq_some hf) h (by exact h1)
   exact ⟨x,rfl,by rw [this]⟩
structure kQ (b:List aw) (p:ah) (es:List (Nat×MK×DV)):Prop where
 keys:Keys (bG b p)
 perm:(es.map fun e=>e.2).Perm (g9 b p)
theorem kQ.has {b:List aw} {p:ah} {es:List (Nat×MK×DV)} (m:kQ b p es) {q:ah} (h:(eK (bG b p) q).isSome=true):∃ (d j n:Nat),eK (bG b p) q=some d∧es[j]?=some (n,pk q,.n d):=by
 obtain ⟨d,hd⟩:=Option.isSome_iff_exists.1 h
 have:(pk q,DV.n d) ∈ es.map fun e=>e.2:=m.perm.mem_iff.2 (List.mem_map.2 ⟨_,(qp m.keys).1 hd,rfl⟩)
 obtain ⟨e,he,h2⟩:=List.mem_map.1 this
 obtain ⟨j,hj,pI⟩:=List.getElem_of_mem he
 refine ⟨d,j,e.1,hd,?_⟩
 rw [List.getElem?_eq_getElem hj,pI]
 obtain ⟨n,k,x⟩:=e
 simp only [Prod.mk.injEq] at h2
 rw [h2.1,h2.2]
theorem kQ.no {b:List aw} {p:ah} {es:List (Nat×MK×DV)} (m:kQ b p es) {q:ah} (h:(eK (bG b p) q).isSome=false):∀ e ∈ es,e.2.1≠pk q:=fun e he hk=>by
 obtain ⟨j,hj,pI⟩:=List.getElem_of_mem he
 obtain ⟨q',d,g1,-,g3⟩:=vG m.perm (j:=j) (n:=e.1) (k:=e.2.1) (x:=e.2.2) (by rw [List.getElem?_eq_getElem hj,pI])
 rw [g1] at hk
 rw [qC hk] at g3
 rw [(qp m.keys).2 g3] at h;cases h
theorem kQ.ok {b:List aw} {p:ah} {es:List (Nat×MK×DV)} (m:kQ b p es) {q:ah} (hq:q.eJ):b5 Tryz.prog 24 (pk q::List.map (fun (e:Nat×MK×DV)=>e.2.1) es):=by
 refine ⟨Tryz.BX,fun k hk=>?_⟩
 rcases List.mem_cons.1 hk with rfl | hk
 ·exact sq hq
 ·obtain ⟨e,he,rfl⟩:=List.mem_map.1 hk
  obtain ⟨j,hj,pI⟩:=List.getElem_of_mem he
  obtain ⟨q',d,g1,-,g3⟩:=vG m.perm (j:=j) (n:=e.1) (k:=e.2.1) (x:=e.2.2) (by rw [List.getElem?_eq_getElem hj,pI])
  rw [g1];exact sq (m.keys.ok _ g3)
theorem kQ.one {b:List aw} {p:ah} {es:List (Nat×MK×DV)} (m:kQ b p es):(List.map (fun (e:Nat×MK×DV)=>e.2.1) es).Nodup:=ET m.perm m.keys
noncomputable def fi (b:List aw) (t:ah) (s:Nat) (q:ah):Bool:=decide (eK (bG b t) q=some (s-1))
theorem qF {b:List aw} {t:ah} {s:Nat} {q:ah} (h:(eK (bG b t) q).isSome=false):fi b t s q=false:=by unfold fi;apply decide_eq_false;intro e;rw [e] at h;cases h
theorem nt {b:List aw} {t:ah} {s d:Nat} {q:ah} (h:eK (bG b t) q=some d) {c:Bool} (hc:(((d:Nat):Int)==((s-1:Nat):Int))=c):fi b t s q=c:=by
 unfold fi;rw [h,← hc,Bool.eq_iff_iff,decide_eq_true_iff,beq_iff_eq,Option.some.injEq];omega
def kR (b:List aw) (t:ah) (s:Nat) (l:List ah):Prop:=∀ x ∈ l,fi b t s x=false
theorem kR.more {b:List aw} {t:ah} {s:Nat} {l:List ah} {q:ah} (h:kR b t s l) (hq:fi b t s q=false):kR b t s (l++[q]):=fun x hx=>by
 rcases List.mem_append.1 hx with hx | hx
 ·exact h x hx
 ·rw [List.mem_singleton] at hx;subst hx;exact hq
theorem Nf {b:List aw} {p:ah} {i:Nat}:∃ r,jn b p=dx b p i++r:=by
 refine ⟨((bD b p).drop i).filter fun q=>decide (p ∈ bD b q),?_⟩
 rw [dx,← List.filter_append,List.take_append_drop];rfl
theorem kR.find {b:List aw} {t p q:ah} {s i:Nat} (h:kR b t s (dx b p i)) (hp:(bD b p)[i]?=some q) (hj:decide (p ∈ bD b q)=true) (hq:fi b t s q=true):(jn b p).find? (fi b t s)=some q:=by
 obtain ⟨r,hr⟩:=Nf (b:=b) (p:=p) (i:=i+1)
 rw [hr,jA hp hj,List.append_assoc,List.find?_append,List.find?_eq_none.2 (fun x hx=>by rw [h x hx];decide),Option.none_or]
 simp [hq]
theorem kR.none {b:List aw} {t p:ah} {s i:Nat} (h:kR b t s (dx b p i)) (hi:(bD b p).length≤i):(jn b p).find? (fi b t s)=none:=by
 rw [List.find?_eq_none];intro x hx;rw [← EP hi] at hx;rw [h x hx];decide
theorem vH {b:List aw} (g:dg b) {p q:ah} {i:Nat} (h:(bD b p)[i]?=some q):q.eJ:=nk (g.peer (List.mem_of_getElem? h))
set_option maxRecDepth 100000 in
theorem OC (b:List aw) (p t:ah) (es:List (Nat×MK×DV)) (s:Nat) (g:dg b) (mo:kQ b t es) (hs:1≤s) (xr:s<1000000) (q0:ah) (hf:(jn b p).find? (fi b t s)=some q0):aL Tryz.prog 72 [.yl 7,.pt 0 0,.pt 1 0] [.bx 68 [.d (.ro 4 (aI b))],.bx 24 [.z p.node,.u p.inc],.mp 92 ((bG b t).length) (es),.bx 92 [.mv 2],.bx 3 [.n s],.bx 3 [.z 0],.bx 4 [.d (.v (.bool false))],.lp .ready 60 66 [(11,.pt 3 0),(12,.pt 4 0),(6,.pt 5 0),(7,.pt 6 0)] (dU Tryz.f60 0)] (.tu []) ([.bx 68 [.d (.ro 4 (aI b))],.bx 24 [.z p.node,.u p.inc],.mp 92 ((bG b t).length) (es),.bx 92 [.mv 2],.bx 3 [.n s],.bx 3 [.z q0.node],.bx 4 [.d (.v (.bool true))],.lp .left 60 66 [(11,.pt 3 0),(12,.pt 4 0),(6,.pt 5 0),(7,.pt 6 0)] (dU Tryz.f60 0)]):=by
 have lb:=g.len
 have w9:=g.gR p
 refine aL.intro (by kernel_rfl) rfl rfl 26 rfl rfl fun D w0 K bs ac wd hK (aB:bs.m=8) r=>?_
 refine b8 (todo':=hd Tryz.f72 0) (E':=[(0,.yl 7),(1,.pt 0 0),(2,.pt 1 0),(8,.d (.ro 2 (procs (bD b p)))),(9,.n ((bD b p).length)),(10,.n 0)]) (M':=[.bx 68 [.d (.ro 4 (aI b))],.bx 24 [.z p.node,.u p.inc],.mp 92 ((bG b t).length) (es),.bx 92 [.mv 2],.bx 3 [.n s],.bx 3 [.z 0],.bx 4 [.d (.v (.bool false))],.lp .ready 60 66 [(11,.pt 3 0),(12,.pt 4 0),(6,.pt 5 0),(7,.pt 6 0)] (dU Tryz.f60 0)]) tk tq hK aB [(0,[(2,.aJ (.ro 2 (procs (bD b p)))),(3,.z ((((bD b p).length:Nat):Int)))])] 2000 [0,1,2,3,4,5,6,7] [0,1,2,8,9,10] r (by kernel_rfl) (U (jC b p (by omega)) (U ((by simp):(((procs (bD b p)).length:Nat):Int)=(((bD b p).length:Nat):Int)) trivial)) fun ac wd r=>?_
 refine aN.rounds (Φ:=fun (i:Nat) ac wd=>(i≤(bD b p).length∧kR b t s (dx b p i))∧RB D w0 K 26 bs [(0,.yl 7),(1,.pt 0 0),(2,.pt 1 0),(8,.d (.ro 2 (procs (bD b p)))),(9,.n ((bD b p).length)),(10,.n i)] [.bx 68 [.d (.ro 4 (aI b))],.bx 24 [.z p.node,.u p.inc],.mp 92 ((bG b t).length) (es),.bx 92 [.mv 2],.bx 3 [.n s],.bx 3 [.z 0],.bx 4 [.d (.v (.bool false))],.lp .ready 60 66 [(11,.pt 3 0),(12,.pt 4 0),(6,.pt 5 0),(7,.pt 6 0)] (dU Tryz.f60 0)] ac wd) ((bD b p).length) ?_ (Nat.zero_le _) ⟨⟨Nat.zero_le _,by simp [kR,dx]⟩,r⟩
 clear r
 rintro i cI bo ac wd ⟨aM,r⟩
 obtain ⟨eS,aM⟩:=aM
 cases h0:(decide ((((i:Nat):Int):Int)<(((bD b p).length:Nat):Int))) with
 | false=>
  have bH:=of_decide_eq_false h0
  exact absurd (aM.none (by omega)) (by rw [hf];simp)
 | true=>
  have bH:=of_decide_eq_true h0
  obtain ⟨q,gq⟩:∃ x,(bD b p)[i]?=some x:=⟨_,List.getElem?_eq_getElem (by omega)⟩
  cases h1:(decide (p ∈ bD b q)) with
  | false=>
   have bN:=of_decide_eq_false h1
   exact b8 (todo':=hd Tryz.f72 0) tk tq hK aB [(1,[(0,.b true)]),(2,[(0,.ix (i) [.z q.node,.u q.inc])]),(3,[(2,.aJ (.ro 2 (procs (bD b q)))),(4,.aJ (.v (.bool false)))]),(4,[(0,.z (((i+1:Nat):Int)))])] 2000 [0,1,2,3,4,5,6,7] [0,1,2,8,9,10] r (by kernel_rfl) (U h0 (U (aX ((i:Nat):Int)) (U (cK gq) (U (jC b q (by omega)) (U ((by have k:=qo (bD b q) p (by have:=g.gR q;omega);rw [h1] at k;exact k):aD Tryz.prog 74 [.d (.ro 2 (procs (bD b q))),.ag [.z p.node,.u p.inc]] (.v (.bool false))) (U ((wi (by omega)):IntKind.i64.wrap ((((i:Nat):Int):Int)+1)=((i+1:Nat):Int)) trivial)))))) fun ac wd r=>bo (by omega) ac wd ⟨⟨by omega,by first | (rw [mg gq (by assumption)];exact aM) | (rw [jA gq (by assumption)];exact aM.more (by first | exact qF (by assumption) | exact nt eI (by assumption)))⟩,r⟩
  | true=>
   have bN:=of_decide_eq_true h1
   have u0:=((by have k:=qo (bD b q) p (by have:=g.gR q;omega);rw [h1] at k;exact k):aD Tryz.prog 74 [.d (.ro 2 (procs (bD b q))),.ag [.z p.node,.u p.inc]] (.v (.bool true)))
   cases h2:((eK (bG b t) q).isSome) with
   | false=>
    exact b8 (todo':=hd Tryz.f72 0) tk tq hK aB [(1,[(0,.b true)]),(2,[(0,.ix (i) [.z q.node,.u q.inc])]),(3,[(2,.aJ (.ro 2 (procs (bD b q)))),(4,.aJ (.v (.bool true))),(8,.dt 200 [(14,[(2,.b false)])])]),(4,[(0,.z (((i+1:Nat):Int)))])] 2000 [0,1,2,3,4,5,6,7] [0,1,2,8,9,10] r (by kernel_rfl) (U h0 (U (aX ((i:Nat):Int)) (U (cK gq) (U (jC b q (by omega)) (U u0 (U ((mo.ok (vH g gq)):b5 Tryz.prog 24 ((.a [(.i64,(q.node:Int)),(.u64,(((q.inc:Nat):Int):Int))])::List.map (fun (e:Nat×MK×DV)=>e.2.1) (es))) (U (vD:gp Tryz.prog 3 (.int .i64 0)) (U ((mo.no (by assumption)):∀ zz ∈ (es:List (Nat×MK×DV)),zz.2.1≠.a [(.i64,(q.node:Int)),(.u64,(((q.inc:Nat):Int):Int))]) (U ((wi (by omega)):IntKind.i64.wrap ((((i:Nat):Int):Int)+1)=((i+1:Nat):Int)) trivial))))))))) fun ac wd r=>bo (by omega) ac wd ⟨⟨by omega,by first | (rw [mg gq (by assumption)];exact aM) | (rw [jA gq (by assumption)];exact aM.more (by first | exact qF (by assumption) | exact nt eI (by assumption)))⟩,r⟩
   | true=>
    obtain ⟨d,j0,n0,eI,gj⟩:=mo.has (by assumption)
    have u1:=((mo.ok (vH g gq)):b5 Tryz.prog 24 ((.a [(.i64,(q.node:Int)),(.u64,(((q.inc:Nat):Int):Int))])::List.map (fun (e:Nat×MK×DV)=>e.2.1) (es)))
    have u2:=(rfl:(.a [(.i64,(q.node:Int)),(.u64,(((q.inc:Nat):Int):Int))]:MK)=.a [(.i64,(q.node:Int)),(.u64,(((q.inc:Nat):Int):Int))])
    have u3:=(⟨_,gj⟩:∃ b0,(es:List (Nat×MK×DV))[j0]?=some (b0,.a [(.i64,(q.node:Int)),(.u64,(((q.inc:Nat):Int):Int))],.n d))
    have u4:=((wi (by omega)):IntKind.i64.wrap ((((s:Nat):Int):Int)-1)=((s-1:Nat):Int))
    cases h3:((((d:Nat):Int):Int)==((s-1:Nat):Int)) with
    | false=>
     have eV:=ne_of_beq_false h3
     exact b8 (todo':=hd Tryz.f72 0) tk tq hK aB [(1,[(0,.b true)]),(2,[(0,.ix (i) [.z q.node,.u q.inc])]),(3,[(2,.aJ (.ro 2 (procs (bD b q)))),(4,.aJ (.v (.bool true))),(8,.dt 200 [(14,[(2,.mk (j0) (.a [(.i64,(q.node:Int)),(.u64,(((q.inc:Nat):Int):Int))]) (.n d))]),(15,[(4,.z (((s-1:Nat):Int))),(5,.b false)])])]),(4,[(0,.z (((i+1:Nat):Int)))])] 2000 [0,1,2,3,4,5,6,7] [0,1,2,8,9,10] r (by kernel_rfl) (U h0 (U (aX ((i:Nat):Int)) (U (cK gq) (U (jC b q (by omega)) (U u0 (U u1 (U u2 (U (mo.one:(List.map (fun (e:Nat×MK×DV)=>e.2.1) (es)).Nodup) (U u3 (U u4 (U h3 (U ((wi (by omega)):IntKind.i64.wrap ((((i:Nat):Int):Int)+1)=((i+1:Nat):Int)) trivial)))))))))))) fun ac wd r=>bo (by omega) ac wd ⟨⟨by omega,by first | (rw [mg gq (by assumption)];exact aM) | (rw [jA gq (by assumption)];exact aM.more (by first | exact qF (by assumption) | exact nt eI (by assumption)))⟩,r⟩
    | true=>
     have eV:=eq_of_beq h3
     refine bB (y:=.tu []) (N':=[.bx 68 [.d (.ro 4 (aI b))],.bx 24 [.z p.node,.u p.inc],.mp 92 ((bG b t).length) (es),.bx 92 [.mv 2],.bx 3 [.n s],.bx 3 [.z q.node],.bx 4 [.d (.v (.bool true))],.lp .left 60 66 [(11,.pt 3 0),(12,.pt 4 0),(6,.pt 5 0),(7,.pt 6 0)] (dU Tryz.f60 0)]) (rfl) ((by have Tj:=(aM.find gq (by assumption) (nt eI (by assumption))).symm.trans hf;cases Tj;rfl)) ?_
     exact bC tk tq hK rfl aB [(1,[(0,.b true)]),(2,[(0,.ix (i) [.z q.node,.u q.inc])]),(3,[(2,.aJ (.ro 2 (procs (bD b q)))),(4,.aJ (.v (.bool true))),(8,.dt 200 [(14,[(2,.mk (j0) (.a [(.i64,(q.node:Int)),(.u64,(((q.inc:Nat):Int):Int))]) (.n d))]),(15,[(4,.z (((s-1:Nat):Int))),(5,.b true)])])])] 2000 [0,1,2,3,4,5,6,7] r (by kernel_rfl) (U h0 (U (aX ((i:Nat):Int)) (U (cK gq) (U (jC b q (by omega)) (U u0 (U u1 (U u2 (U (mo.one:(List.map (fun (e:Nat×MK×DV)=>e.2.1) (es)).Nodup) (U u3 (U u4 (U h3 trivial)))))))))))
set_option maxRecDepth 100000 in
theorem PF (b:List aw) (p t:ah) (es:List (Nat×MK×DV)) (s:Nat) (g:dg b) (mo:kQ b t es) (hs:1≤s) (xr:s<1000000) (hf:(jn b p).find? (fi b t s)=none):aL Tryz.prog 72 [.yl 7,.pt 0 0,.pt 1 0] [.bx 68 [.d (.ro 4 (aI b))],.bx 24 [.z p.node,.u p.inc],.mp 92 ((bG b t).length) (es),.bx 92 [.mv 2],.bx 3 [.n s],.bx 3 [.z 0],.bx 4 [.d (.v (.bool false))],.lp .ready 60 66 [(11,.pt 3 0),(12,.pt 4 0),(6,.pt 5 0),(7,.pt 6 0)] (dU Tryz.f60 0)] (.tu []) ([.bx 68 [.d (.ro 4 (aI b))],.bx 24 [.z p.node,.u p.inc],.mp 92 ((bG b t).length) (es),.bx 92 [.mv 2],.bx 3 [.n s],.bx 3 [.z 0],.bx 4 [.d (.v (.bool false))],.lp .ready 60 66 [(11,.pt 3 0),(12,.pt 4 0),(6,.pt 5 0),(7,.pt 6 0)] (dU Tryz.f60 0)]):=by
 have lb:=g.len
 have w9:=g.gR p
 refine aL.intro (by kernel_rfl) rfl rfl 26 rfl rfl fun D w0 K bs ac wd hK (aB:bs.m=8) r=>?_
 refine b8 (todo':=hd Tryz.f72 0) (E':=[(0,.yl 7),(1,.pt 0 0),(2,.pt 1 0),(8,.d (.ro 2 (procs (bD b p)))),(9,.n ((bD b p).length)),(10,.n 0)]) (M':=[.bx 68 [.d (.ro 4 (aI b))],.bx 24 [.z p.node,.u p.inc],.mp 92 ((bG b t).length) (es),.bx 92 [.mv 2],.bx 3 [.n s],.bx 3 [.z 0],.bx 4 [.d (.v (.bool false))],.lp .ready 60 66 [(11,.pt 3 0),(12,.pt 4 0),(6,.pt 5 0),(7,.pt 6 0)] (dU Tryz.f60 0)]) tk tq hK aB [(0,[(2,.aJ (.ro 2 (procs (bD b p)))),(3,.z ((((bD b p).length:Nat):Int)))])] 2000 [0,1,2,3,4,5,6,7] [0,1,2,8,9,10] r (by kernel_rfl) (U (jC b p (by omega)) (U ((by simp):(((procs (bD b p)).length:Nat):Int)=(((bD b p).length:Nat):Int)) trivial)) fun ac wd r=>?_
 refine aN.rounds (Φ:=fun (i:Nat) ac wd=>(i≤(bD b p).length∧kR b t s (dx b p i))∧RB D w0 K 26 bs [(0,.yl 7),(1,.pt 0 0),(2,.pt 1 0),(8,.d (.ro 2 (procs (bD b p)))),(9,.n ((bD b p).length)),(10,.n i)] [.bx 68 [.d (.ro 4 (aI b))],.bx 24 [.z p.node,.u p.inc],.mp 92 ((bG b t).length) (es),.bx 92 [.mv 2],.bx 3 [.n s],.bx 3 [.z 0],.bx 4 [.d (.v (.bool false))],.lp .ready 60 66 [(11,.pt 3 0),(12,.pt 4 0),(6,.pt 5 0),(7,.pt 6 0)] (dU Tryz.f60 0)] ac wd) ((bD b p).length) ?_ (Nat.zero_le _) ⟨⟨Nat.zero_le _,by simp [kR,dx]⟩,r⟩
 clear r
 rintro i cI bo ac wd ⟨aM,r⟩
 obtain ⟨eS,aM⟩:=aM
 cases h0:(decide ((((i:Nat):Int):Int)<(((bD b p).length:Nat):Int))) with
 | false=>
  have bH:=of_decide_eq_false h0
  refine bB (y:=.tu []) (N':=[.bx 68 [.d (.ro 4 (aI b))],.bx 24 [.z p.node,.u p.inc],.mp 92 ((bG b t).length) (es),.bx 92 [.mv 2],.bx 3 [.n s],.bx 3 [.z 0],.bx 4 [.d (.v (.bool false))],.lp .ready 60 66 [(11,.pt 3 0),(12,.pt 4 0),(6,.pt 5 0),(7,.pt 6 0)] (dU Tryz.f60 0)]) (rfl) (rfl) ?_
  exact bC tk tq hK rfl aB [(1,[(0,.b false)])] 2000 [0,1,2,3,4,5,6,7] r (by kernel_rfl) (U h0 trivial)
 | true=>
  have bH:=of_decide_eq_true h0
  obtain ⟨q,gq⟩:∃ x,(bD b p)[i]?=some x:=⟨_,List.getElem?_eq_getElem (by omega)⟩
  cases h1:(decide (p ∈ bD b q)) with
  | false=>
   have bN:=of_decide_eq_false h1
   exact b8 (todo':=hd Tryz.f72 0) tk tq hK aB [(1,[(0,.b true)]),(2,[(0,.ix (i) [.z q.node,.u q.inc])]),(3,[(2,.aJ (.ro 2 (procs (bD b q)))),(4,.aJ (.v (.bool false)))]),(4,[(0,.z (((i+1:Nat):Int)))])] 2000 [0,1,2,3,4,5,6,7] [0,1,2,8,9,10] r (by kernel_rfl) (U h0 (U (aX ((i:Nat):Int)) (U (cK gq) (U (jC b q (by omega)) (U ((by have k:=qo (bD b q) p (by have:=g.gR q;omega);rw [h1] at k;exact k):aD Tryz.prog 74 [.d (.ro 2 (procs (bD b q))),.ag [.z p.node,.u p.inc]] (.v (.bool false))) (U ((wi (by omega)):IntKind.i64.wrap ((((i:Nat):Int):Int)+1)=((i+1:Nat):Int)) trivial)))))) fun ac wd r=>bo (by omega) ac wd ⟨⟨by omega,by first | (rw [mg gq (by assumption)];exact aM) | (rw [jA gq (by assumption)];exact aM.more (by first | exact qF (by assumption) | exact nt eI (by assumption)))⟩,r⟩
  | true=>
   have bN:=of_decide_eq_true h1
   have u0:=((by have k:=qo (bD b q) p (by have:=g.gR q;omega);rw [h1] at k;exact k):aD Tryz.prog 74 [.d (.ro 2 (procs (bD b q))),.ag [.z p.node,.u p.inc]] (.v (.bool true)))
   cases h2:((eK (bG b t) q).isSome) with
   | false=>
    exact b8 (todo':=hd Tryz.f72 0) tk tq hK aB [(1,[(0,.b true)]),(2,[(0,.ix (i) [.z q.node,.u q.inc])]),(3,[(2,.aJ (.ro 2 (procs (bD b q)))),(4,.aJ (.v (.bool true))),(8,.dt 200 [(14,[(2,.b false)])])]),(4,[(0,.z (((i+1:Nat):Int)))])] 2000 [0,1,2,3,4,5,6,7] [0,1,2,8,9,10] r (by kernel_rfl) (U h0 (U (aX ((i:Nat):Int)) (U (cK gq) (U (jC b q (by omega)) (U u0 (U ((mo.ok (vH g gq)):b5 Tryz.prog 24 ((.a [(.i64,(q.node:Int)),(.u64,(((q.inc:Nat):Int):Int))])::List.map (fun (e:Nat×MK×DV)=>e.2.1) (es))) (U (vD:gp Tryz.prog 3 (.int .i64 0)) (U ((mo.no (by assumption)):∀ zz ∈ (es:List (Nat×MK×DV)),zz.2.1≠.a [(.i64,(q.node:Int)),(.u64,(((q.inc:Nat):Int):Int))]) (U ((wi (by omega)):IntKind.i64.wrap ((((i:Nat):Int):Int)+1)=((i+1:Nat):Int)) trivial))))))))) fun ac wd r=>bo (by omega) ac wd ⟨⟨by omega,by first | (rw [mg gq (by assumption)];exact aM) | (rw [jA gq (by assumption)];exact aM.more (by first | exact qF (by assumption) | exact nt eI (by assumption)))⟩,r⟩
   | true=>
    obtain ⟨d,j0,n0,eI,gj⟩:=mo.has (by assumption)
    have u1:=((mo.ok (vH g gq)):b5 Tryz.prog 24 ((.a [(.i64,(q.node:Int)),(.u64,(((q.inc:Nat):Int):Int))])::List.map (fun (e:Nat×MK×DV)=>e.2.1) (es)))
    have u2:=(rfl:(.a [(.i64,(q.node:Int)),(.u64,(((q.inc:Nat):Int):Int))]:MK)=.a [(.i64,(q.node:Int)),(.u64,(((q.inc:Nat):Int):Int))])
    have u3:=(⟨_,gj⟩:∃ b0,(es:List (Nat×MK×DV))[j0]?=some (b0,.a [(.i64,(q.node:Int)),(.u64,(((q.inc:Nat):Int):Int))],.n d))
    have u4:=((wi (by omega)):IntKind.i64.wrap ((((s:Nat):Int):Int)-1)=((s-1:Nat):Int))
    cases h3:((((d:Nat):Int):Int)==((s-1:Nat):Int)) with
    | false=>
     have eV:=ne_of_beq_false h3
     exact b8 (todo':=hd Tryz.f72 0) tk tq hK aB [(1,[(0,.b true)]),(2,[(0,.ix (i) [.z q.node,.u q.inc])]),(3,[(2,.aJ (.ro 2 (procs (bD b q)))),(4,.aJ (.v (.bool true))),(8,.dt 200 [(14,[(2,.mk (j0) (.a [(.i64,(q.node:Int)),(.u64,(((q.inc:Nat):Int):Int))]) (.n d))]),(15,[(4,.z (((s-1:Nat):Int))),(5,.b false)])])]),(4,[(0,.z (((i+1:Nat):Int)))])] 2000 [0,1,2,3,4,5,6,7] [0,1,2,8,9,10] r (by kernel_rfl) (U h0 (U (aX ((i:Nat):Int)) (U (cK gq) (U (jC b q (by omega)) (U u0 (U u1 (U u2 (U (mo.one:(List.map (fun (e:Nat×MK×DV)=>e.2.1) (es)).Nodup) (U u3 (U u4 (U h3 (U ((wi (by omega)):IntKind.i64.wrap ((((i:Nat):Int):Int)+1)=((i+1:Nat):Int)) trivial)))))))))))) fun ac wd r=>bo (by omega) ac wd ⟨⟨by omega,by first | (rw [mg gq (by assumption)];exact aM) | (rw [jA gq (by assumption)];exact aM.more (by first | exact qF (by assumption) | exact nt eI (by assumption)))⟩,r⟩
    | true=>
     have eV:=eq_of_beq h3
     exact absurd (aM.find gq (by assumption) (nt eI (by assumption))) (by rw [hf];simp)
end Go.Proofs.YtlinpknagdgphaaGreat
namespace Go.Proofs.YtlinpknagdgphaaGreat
open Go.RowKit
open Classical in
noncomputable def cm (l:List aw) (p:ah) (to:Int):Int×Bool:=
 if to=p.node then (0,false) else match (book l).find? (fun a=>decide (a.server.node=to)) with
 | none=>(0,false)
 | some a=>match eK (bG (book l) a.server) p with
  | none=>(0,false)
  | some s=>match (jn (book l) p).find? (fi (book l) a.server s) with
   | none=>(0,false)
   | some q=>(q.node,true)
theorem zq {b:List aw} (g:dg b) {i:Nat} {a:aw} {to:Int} (h:b[i]?=some a) (ha:a.server.node=to):b.find? (fun a=>decide (a.server.node=to))=some a:=by
 obtain ⟨hi,rfl⟩:=List.getElem?_eq_some_iff.1 h
 rw [List.find?_eq_some_iff_getElem]
 refine ⟨by simpa using ha,i,hi,rfl,fun j hj=>?_⟩
 have:=List.pairwise_iff_getElem.1 g.up j i (by omega) hi hj
 simp;omega
def lJ (l:List aw) (p:ah) (to:Int) (i:Nat):Prop:=(∀ (j:Nat) a,j<i→(book l)[j]?=some a→a.server.node≠to)∨(cm l p to=(0,false)∧∃ (j:Nat) (a:aw),j<i∧(book l)[j]?=some a∧a.server.node=to)
theorem lJ.pass {l:List aw} {p:ah} {to:Int} {i:Nat} {a:aw} (h:lJ l p to i) (ha:(book l)[i]?=some a) (hn:a.server.node≠to):lJ l p to (i+1):=by
 rcases h with h | ⟨h1,j,x,h2,h3,h4⟩
 ·left;intro j x hj hx
  rcases Nat.lt_succ_iff_lt_or_eq.1 hj with hj | rfl
  ·exact h j x hj hx
  ·rw [ha] at hx;cases hx;exact hn
 ·exact Or.inr ⟨h1,j,x,by omega,h3,h4⟩
theorem lJ.end {l:List aw} {p:ah} {to:Int} {i:Nat} (h:lJ l p to i) (hi:(book l).length≤i):cm l p to=(0,false):=by
 rcases h with h | ⟨h,-⟩
 ·unfold cm
  rw [List.find?_eq_none.2 fun a ha=>by
   obtain ⟨j,hj,rfl⟩:=List.getElem_of_mem ha
   simpa using h j _ (by omega) (List.getElem?_eq_getElem hj)]
  split<;>rfl
 ·exact h
theorem Lt {l:List aw} {p:ah} {to:Int} (h:to=p.node):cm l p to=(0,false):=by unfold cm;rw [if_pos h]
theorem Lu {l:List aw} {p:ah} {to:Int} {i:Nat} {a:aw} (ha:(book l)[i]?=some a) (hn:a.server.node=to) (h:(eK (bG (book l) a.server) p).isSome=false):cm l p to=(0,false):=by
 have h':eK (bG (book l) a.server) p=none:=by simpa using h
 unfold cm;rw [zq (dS l) ha hn];simp only [h'];split<;>rfl
theorem Ee {l:List aw} {p:ah} {to:Int} {i s:Nat} {a:aw} (ha:(book l)[i]?=some a) (hn:a.server.node=to) (h:eK (bG (book l) a.server) p=some s) (hf:(jn (book l) p).find? (fi (book l) a.server s)=none):cm l p to=(0,false):=by
 unfold cm;rw [zq (dS l) ha hn];simp only [h,hf];split<;>rfl
theorem Lv {l:List aw} {p q:ah} {to:Int} {i s:Nat} {a:aw} (ht:to≠p.node) (ha:(book l)[i]?=some a) (hn:a.server.node=to) (h:eK (bG (book l) a.server) p=some s) (hf:(jn (book l) p).find? (fi (book l) a.server s)=some q):cm l p to=(q.node,true):=by
 unfold cm;rw [if_neg ht,zq (dS l) ha hn];simp only [h,hf]
theorem lJ.G7 {l:List aw} {p:ah} {to:Int} {i:Nat} {a:aw} (ha:(book l)[i]?=some a) (hn:a.server.node=to) (h:cm l p to=(0,false)):lJ l p to (i+1):=Or.inr ⟨h,i,a,by omega,ha,hn⟩
theorem sg {l:List aw} {i:Nat} {a:aw} (ha:(book l)[i]?=some a):a.server.eJ:=nk (aw.gL.1 ((dS l).may a (List.mem_of_getElem? ha))).1
theorem FO {b:List aw} {p t:ah} {s:Nat} (k:Keys (bG b t)) (hf:∀ q d,(q,d) ∈ bG b t↔dM b t d q) (h:eK (bG b t) p=some s) (hn:t.node≠p.node):1≤s∧s<1000000∨s≥1000000:=by
 have h1:=(hf p s).1 ((qp k).1 h)
 rcases Nat.eq_zero_or_pos s with rfl | hs
 ·have:=h1.1;simp only [Can] at this;rw [this] at hn;exact absurd rfl hn
 ·omega
theorem Ng {b:List aw} (g:dg b) {p t:ah} {s:Nat} (k:Keys (bG b t)) (hf:∀ q d,(q,d) ∈ bG b t↔dM b t d q) (h:eK (bG b t) p=some s):s≤4:=((hf p s).1 ((qp k).1 h)).four g
set_option maxRecDepth 100000 in
theorem vY (l:List aw) (p:ah) (to:Int) (hb:l.length≤9223372036854775807) (hl:∀ x ∈ l,x.ay.length≤9223372036854775807) (rM:p.eJ):aD Tryz.prog 60 [.d (.ro 4 (aI l)),.ag [.z p.node,.u p.inc],.z to] (.tu [.v (.int .i64 (cm l p to).1),.v (.bool (cm l p to).2)]):=by
 refine aD.intro (by kernel_rfl) rfl rfl 66 rfl rfl fun w0 K ac hK r=>?_
 have r:=r.mark
 cases h0:((to:Int)==p.node) with
 | false=>
  have bH:=ne_of_beq_false h0
  refine bU (todo':=hd Tryz.f60 0) (E':=[(2,.z to),(4,.pt 0 0),(6,.pt 1 0),(7,.pt 2 0),(8,.d (.ro 4 (aI (book l)))),(23,.d (.ro 4 (aI (book l)))),(24,.n ((book l).length)),(25,.n 0)]) (M':=[.bx 24 [.z p.node,.u p.inc],.bx 3 [.z 0],.bx 4 [.d (.v (.bool false))]]) tk tq hK [(1,[(3,.b false)]),(3,[(1,.aJ (.ro 4 (aI (book l))))]),(4,[(1,.z ((((book l).length:Nat):Int)))])] 2000 [0,1,2] [2,4,6,7,8,23,24,25] r (by kernel_rfl) (U h0 (U (R9 l hb hl) (U ((by simp):(((aI (book l)).length:Nat):Int)=(((book l).length:Nat):Int)) trivial))) fun ac wd r=>?_
  refine aN.rounds (Φ:=fun (i:Nat) ac wd=>(i≤(book l).length∧lJ l p to i)∧ca true [] w0 K 66 [(2,.z to),(4,.pt 0 0),(6,.pt 1 0),(7,.pt 2 0),(8,.d (.ro 4 (aI (book l)))),(23,.d (.ro 4 (aI (book l)))),(24,.n ((book l).length)),(25,.n i)] [.bx 24 [.z p.node,.u p.inc],.bx 3 [.z 0],.bx 4 [.d (.v (.bool false))]] ac wd) ((book l).length) ?_ (Nat.zero_le _) ⟨⟨Nat.zero_le _,Or.inl (by omega)⟩,r⟩
  clear r
  rintro i cI bo ac wd ⟨aM,r⟩
  obtain ⟨eS,aM⟩:=aM
  have lb:=(dS l).len
  cases h1:(decide ((((i:Nat):Int):Int)<(((book l).length:Nat):Int))) with
  | false=>
   have bN:=of_decide_eq_false h1
   rw [show cm l p to=(0,false) from aM.end (by omega)]
   refine vS (E':=[(6,.pt 0 0),(7,.pt 1 0)]) (M':=[.bx 3 [.z 0],.bx 4 [.d (.v (.bool false))]]) tk tq hK rfl [(5,[(0,.b false)])] 2000 [1,2] [6,7] r (by kernel_rfl) (by kernel_rfl) (U h1 trivial) trivial ?_ ?_
   ·intro x hx;simp only [List.mem_cons,List.not_mem_nil,or_false] at hx;rcases hx with rfl | rfl<;>exact fg.pt _ _
   ·intro x hx;simp only [List.mem_cons,List.not_mem_nil,or_false] at hx;rcases hx with rfl | rfl<;>(refine gb.bx fun c hc=>?_;simp only [List.mem_singleton] at hc;subst hc;exact fg.v _)
  | true=>
   have bN:=of_decide_eq_true h1
   obtain ⟨cP,ga⟩:∃ x,(book l)[i]?=some x:=⟨_,List.getElem?_eq_getElem (by omega)⟩
   cases h2:((cP.server.node:Int) != to) with
   | false=>
    have b7:=gK h2
    refine q5 (todo':=aft Tryz.f60 8) (E':=[(2,.z to),(4,.pt 0 0),(6,.pt 1 0),(7,.pt 2 0),(8,.d (.ro 4 (aI (book l)))),(23,.d (.ro 4 (aI (book l)))),(24,.n ((book l).length)),(25,.n i),(26,.d (.v (.bool true))),(27,.rp [.z cP.server.node,.u cP.server.inc,.u cP.seq,.ro 2 (procs cP.ay)] 0),(28,.ag [.z cP.server.node,.u cP.server.inc,.u cP.seq,.d (.ro 2 (procs cP.ay))]),(10,.pt 3 0),(29,.pt 3 0),(30,.pt 3 0),(31,.z cP.server.node),(32,.z to),(33,.d (.v (.bool false))),(34,.d (.ro 4 (aI (book l)))),(35,.pt 3 0),(36,.ag [.z cP.server.node,.u cP.server.inc]),(37,.mv 4),(11,.pt 5 0)]) (M':=[.bx 24 [.z p.node,.u p.inc],.bx 3 [.z 0],.bx 4 [.d (.v (.bool false))],.bx 31 [.z cP.server.node,.u cP.server.inc,.u cP.seq,.d (.ro 2 (procs cP.ay))],.mu 92 ((bG (book l) cP.server).length) (g9 (book l) cP.server),.bx 92 [.mv 4]]) tk tq hK [(5,[(0,.b true)]),(6,[(0,.ix (i) [.z cP.server.node,.u cP.server.inc,.u cP.seq,.ro 2 (procs cP.ay)])]),(7,[(4,.b false)]),(8,[(3,.mem [] (.mv 0) [.mu 92 ((bG (book l) cP.server).length) (g9 (book l) cP.server)])])] 16 [0,1,2,3,4,5] [2,4,6,7,8,23,24,25,26,27,28,10,29,30,31,32,33,34,35,36,37,11] r (by kernel_rfl) (U h1 (U (aX ((i:Nat):Int)) (U (eC ga) (U h2 (U (G5 (book l) cP.server (dS l) (sg ga)) trivial))))) fun ac wd r=>?_
    obtain ⟨kf,hf⟩:=qE (dS l) (sg ga)
    obtain ⟨es,nE,de,aK,r⟩:=r.told 4 rfl
    have mo:kQ (book l) cP.server es:=⟨kf,nE⟩
    have r:=r.cast (M':=[.bx 24 [.z p.node,.u p.inc],.bx 3 [.z 0],.bx 4 [.d (.v (.bool false))],.bx 31 [.z cP.server.node,.u cP.server.inc,.u cP.seq,.d (.ro 2 (procs cP.ay))],.mp 92 ((bG (book l) cP.server).length) (es),.bx 92 [.mv 4]]) rfl rfl
    cases h3:((eK (bG (book l) cP.server) p).isSome) with
    | false=>
     rw [show cm l p to=(0,false) from Lu ga (by omega) h3]
     refine vS (E':=[(6,.pt 0 0),(7,.pt 1 0)]) (M':=[.bx 3 [.z 0],.bx 4 [.d (.v (.bool false))]]) tk tq hK rfl [(9,[(2,.b false)])] 2000 [1,2] [6,7] r (by kernel_rfl) (by kernel_rfl) (U ((mo.ok rM):b5 Tryz.prog 24 ((.a [(.i64,(p.node:Int)),(.u64,(((p.inc:Nat):Int):Int))])::List.map (fun (e:Nat×MK×DV)=>e.2.1) (es))) (U (vD:gp Tryz.prog 3 (.int .i64 0)) (U ((mo.no (by assumption)):∀ zz ∈ (es:List (Nat×MK×DV)),zz.2.1≠.a [(.i64,(p.node:Int)),(.u64,(((p.inc:Nat):Int):Int))]) trivial))) trivial ?_ ?_
     ·intro x hx;simp only [List.mem_cons,List.not_mem_nil,or_false] at hx;rcases hx with rfl | rfl<;>exact fg.pt _ _
     ·intro x hx;simp only [List.mem_cons,List.not_mem_nil,or_false] at hx;rcases hx with rfl | rfl<;>(refine gb.bx fun c hc=>?_;simp only [List.mem_singleton] at hc;subst hc;exact fg.v _)
    | true=>
     obtain ⟨s,j0,n0,eI,gj⟩:=mo.has (by assumption)
     have Ti:=Ng (dS l) kf hf eI
     have b6:1≤s:=by rcases FO kf hf eI (by omega) with h | h<;>omega
     have xr:s<1000000:=by omega
     have u0:=((mo.ok rM):b5 Tryz.prog 24 ((.a [(.i64,(p.node:Int)),(.u64,(((p.inc:Nat):Int):Int))])::List.map (fun (e:Nat×MK×DV)=>e.2.1) (es)))
     have u1:=(rfl:(.a [(.i64,(p.node:Int)),(.u64,(((p.inc:Nat):Int):Int))]:MK)=.a [(.i64,(p.node:Int)),(.u64,(((p.inc:Nat):Int):Int))])
     have u2:=(⟨_,gj⟩:∃ b0,(es:List (Nat×MK×DV))[j0]?=some (b0,.a [(.i64,(p.node:Int)),(.u64,(((p.inc:Nat):Int):Int))],.n s))
     cases h4:(((jn (book l) p).find? (fi (book l) cP.server s)).isSome) with
     | false=>
      refine zi (todo':=wT Tryz.f60 0) (E2:=[(2,.z to),(4,.pt 0 0),(6,.pt 1 0),(7,.pt 2 0),(8,.d (.ro 4 (aI (book l)))),(23,.d (.ro 4 (aI (book l)))),(24,.n ((book l).length)),(25,.n i)]) (M2:=[.bx 24 [.z p.node,.u p.inc],.bx 3 [.z 0],.bx 4 [.d (.v (.bool false))]]) tk tq hK rfl [(9,[(2,.mk (j0) (.a [(.i64,(p.node:Int)),(.u64,(((p.inc:Nat):Int):Int))]) (.n s))]),(12,[(2,.dt 200 [])])] 12 [7,8,4,5,6,1,2] [11,12,6,7] (.tu []) [.bx 68 [.d (.ro 4 (aI (book l)))],.bx 24 [.z p.node,.u p.inc],.mp 92 ((bG (book l) cP.server).length) (es),.bx 92 [.mv 2],.bx 3 [.n s],.bx 3 [.z 0],.bx 4 [.d (.v (.bool false))],.lp .ready 60 66 [(11,.pt 3 0),(12,.pt 4 0),(6,.pt 5 0),(7,.pt 6 0)] (dU Tryz.f60 0)] [0,1,2] [2,4,6,7,8,23,24,25] r (by kernel_rfl) (U (PF (book l) p cP.server es s (dS l) mo b6 xr (by simpa using h4)) (U u0 (U u1 (U (mo.one:(List.map (fun (e:Nat×MK×DV)=>e.2.1) (es)).Nodup) (U u2 trivial))))) fun ac wd r=>?_
      exact bU (todo':=hd Tryz.f60 0) tk tq hK [(17,[(0,.z (((i+1:Nat):Int)))])] 2000 [0,1,2] [2,4,6,7,8,23,24,25] r (by kernel_rfl) (U ((wi (by omega)):IntKind.i64.wrap ((((i:Nat):Int):Int)+1)=((i+1:Nat):Int)) trivial) fun ac wd r=>bo (by omega) ac wd ⟨⟨by omega,by first | exact aM.pass ga (by omega) | exact lJ.G7 ga (by omega) (Ee ga (by omega) eI (by simpa using (by assumption:((jn (book l) p).find? (fi (book l) cP.server s)).isSome=false)))⟩,r⟩
     | true=>
      obtain ⟨q0,rJ⟩:=Option.isSome_iff_exists.1 (by assumption:((jn (book l) p).find? (fi (book l) cP.server s)).isSome=true)
      refine zi (todo':=.code .ret::wT Tryz.f60 0) (E2:=[(6,.pt 0 0),(7,.pt 1 0)]) (M2:=[.bx 3 [.z q0.node],.bx 4 [.d (.v (.bool true))]]) tk tq hK rfl [(9,[(2,.mk (j0) (.a [(.i64,(p.node:Int)),(.u64,(((p.inc:Nat):Int):Int))]) (.n s))]),(12,[(2,.dt 200 [])])] 12 [7,8,4,5,6,1,2] [11,12,6,7] (.tu []) [.bx 68 [.d (.ro 4 (aI (book l)))],.bx 24 [.z p.node,.u p.inc],.mp 92 ((bG (book l) cP.server).length) (es),.bx 92 [.mv 2],.bx 3 [.n s],.bx 3 [.z q0.node],.bx 4 [.d (.v (.bool true))],.lp .left 60 66 [(11,.pt 3 0),(12,.pt 4 0),(6,.pt 5 0),(7,.pt 6 0)] (dU Tryz.f60 0)] [1,2] [6,7] r (by kernel_rfl) (U (OC (book l) p cP.server es s (dS l) mo b6 xr q0 rJ) (U u0 (U u1 (U (mo.one:(List.map (fun (e:Nat×MK×DV)=>e.2.1) (es)).Nodup) (U u2 trivial))))) fun ac wd r=>?_
      rw [show cm l p to=(q0.node,true) from Lv (by omega) ga (by omega) eI rJ]
      refine vS (E':=[(6,.pt 0 0),(7,.pt 1 0)]) (M':=[.bx 3 [.z q0.node],.bx 4 [.d (.v (.bool true))]]) tk tq hK rfl [] 2000 [0,1] [6,7] r (by kernel_rfl) (by kernel_rfl) trivial trivial ?_ ?_
      ·intro x hx;simp only [List.mem_cons,List.not_mem_nil,or_false] at hx;rcases hx with rfl | rfl<;>exact fg.pt _ _
      ·intro x hx;simp only [List.mem_cons,List.not_mem_nil,or_false] at hx;rcases hx with rfl | rfl<;>(refine gb.bx fun c hc=>?_;simp only [List.mem_singleton] at hc;subst hc;exact fg.v _)
   | true=>
    have b7:¬ _=_:=bne_iff_ne.1 h2
    exact bU (todo':=hd Tryz.f60 0) tk tq hK [(5,[(0,.b true)]),(6,[(0,.ix (i) [.z cP.server.node,.u cP.server.inc,.u cP.seq,.ro 2 (procs cP.ay)])]),(7,[(4,.b true)]),(17,[(0,.z (((i+1:Nat):Int)))])] 2000 [0,1,2] [2,4,6,7,8,23,24,25] r (by kernel_rfl) (U h1 (U (aX ((i:Nat):Int)) (U (eC ga) (U h2 (U ((wi (by omega)):IntKind.i64.wrap ((((i:Nat):Int):Int)+1)=((i+1:Nat):Int)) trivial))))) fun ac wd r=>bo (by omega) ac wd ⟨⟨by omega,by first | exact aM.pass ga (by omega) | exact lJ.G7 ga (by omega) (Ee ga (by omega) eI (by simpa using (by assumption:((jn (book l) p).find? (fi (book l) cP.server s)).isSome=false)))⟩,r⟩
 | true=>
  have bH:=eq_of_beq h0
  rw [show cm l p to=(0,false) from Lt (by omega)]
  refine vS (E':=[(6,.pt 0 0),(7,.pt 1 0)]) (M':=[.bx 3 [.z 0],.bx 4 [.d (.v (.bool false))]]) tk tq hK rfl [(1,[(3,.b true)])] 2000 [1,2] [6,7] r (by kernel_rfl) (by kernel_rfl) (U h0 trivial) trivial ?_ ?_
  ·intro x hx;simp only [List.mem_cons,List.not_mem_nil,or_false] at hx;rcases hx with rfl | rfl<;>exact fg.pt _ _
  ·intro x hx;simp only [List.mem_cons,List.not_mem_nil,or_false] at hx;rcases hx with rfl | rfl<;>(refine gb.bx fun c hc=>?_;simp only [List.mem_singleton] at hc;subst hc;exact fg.v _)
end Go.Proofs.YtlinpknagdgphaaGreat
namespace Go.Proofs.YtlinpknagdgphaaGreat
open Go.RowKit
def side (b:List aw) (p q:ah) (i:Nat):Bool:=(b.take i).any fun a=>decide (a.server=p)&&decide (q ∈ a.ay)
def zr (b:List aw) (p q:ah):Bool:=side b p q b.length&&side b q p b.length
theorem FP {b:List aw} (g:dg b) {p q:ah}:side b p q b.length=true↔q ∈ bD b p:=by
 unfold side
 rw [List.take_length,List.any_eq_true]
 constructor
 ·rintro ⟨a,ha,h⟩
  simp only [Bool.and_eq_true,decide_eq_true_eq] at h
  obtain ⟨i,hi,rfl⟩:=List.getElem_of_mem ha
  rw [DF (List.getElem?_eq_getElem hi) h.1 fun j x hj hx e=>?_]
  ·exact h.2
  ·obtain ⟨CK,rfl⟩:=List.getElem?_eq_some_iff.1 hx
   have:=List.pairwise_iff_getElem.1 g.up j i CK hi hj
   rw [e,h.1] at this;omega
 ·intro h
  obtain ⟨a,h1,h2,h3⟩:=xA h
  exact ⟨a,h1,by simp [h2,h3]⟩
theorem uM {b:List aw} (g:dg b) {p q:ah}:zr b p q=true↔q ∈ jn b p:=by
 rw [zr,Bool.and_eq_true,FP g,FP g,qD]
def ah.low (p:ah):Bool:=p.may&&decide (p.node≤4)
def lR (b:List aw) (r:ah) (k:Nat):List ah:=((b.take k).filter fun a=>zr b r a.server).map aw.server
def Ai (b:List aw) (l:List ah) (i:Nat):List ah:=(l.take i).flatMap fun r=>lR b r b.length
def met (b:List aw) (p:ah):Nat→List ah
 | 0=>[p]
 | n+1=>eW (met b p n++Ai b (met b p n) (met b p n).length)
theorem qG {b:List aw} (g:dg b) {p:ah}:∀ {n:Nat} {q:ah},q ∈ met b p n↔Can b p n q
 | 0,q=>by simp [met,Can]
 | n+1,q=>by
  rw [met,so,List.mem_append,qG g,Can]
  have:q ∈ Ai b (met b p n) (met b p n).length↔∃ r,Can b p n r∧q ∈ jn b r:=by
   unfold Ai
   rw [List.take_length,List.mem_flatMap]
   constructor
   ·rintro ⟨r,h1,h2⟩
    unfold lR at h2
    rw [List.take_length] at h2
    obtain ⟨a,ha,rfl⟩:=List.mem_map.1 h2
    exact ⟨r,(qG g).1 h1,(uM g).1 (List.mem_filter.1 ha).2⟩
   ·rintro ⟨r,h1,h2⟩
    obtain ⟨a,ha,rfl⟩:=uT h2
    refine ⟨r,(qG g).2 h1,?_⟩
    unfold lR
    rw [List.take_length]
    exact List.mem_map.2 ⟨a,List.mem_filter.2 ⟨ha,(uM g).2 h2⟩,rfl⟩
  rw [this]
def fB (b:List aw) (p q:ah):Int:=match (List.range 5).find? (fun n=>decide (q ∈ met b p n)) with | some n=>(n:Int) | none => -1
theorem Lw {b:List aw} {p q:ah} {n:Nat} (hn:n<5) (h:q ∈ met b p n) (hb:∀ k,k<n→q ∉ met b p k):fB b p q=(n:Int):=by
 have:(List.range 5).find? (fun n=>decide (q ∈ met b p n))=some n:=by
  rw [List.find?_eq_some_iff_getElem]
  exact ⟨decide_eq_true h,n,by simpa using hn,by simp,fun j hj=>by simpa using hb j hj⟩
 rw [fB,this]
theorem JA {b:List aw} {p q:ah} (hb:∀ k,k<5→q ∉ met b p k):fB b p q = -1:=by
 have:(List.range 5).find? (fun n=>decide (q ∈ met b p n))=none:=by
  rw [List.find?_eq_none];intro k hk;simpa using hb k (by simpa using hk)
 rw [fB,this]
theorem Lx (T:Nat) (l:List ah):dh (.em T 2 (procs l)):=by
 intro K K' y H h
 cases h with
 | em X F hl hs hr=>
  refine .em X F hl hs fun i r j c x h1 h2 h3=>?_
  have:=hr i r j c x h1 h2 h3
  rw [List.getElem?_map,Option.map_eq_some_iff] at h1
  obtain ⟨p,-,rfl⟩:=h1
  unfold ah.row at h2
  match j with
  | 0=>simp at h2;subst h2;exact (gX _) _ _ _ _ this
  | 1=>simp at h2;subst h2;exact (gX _) _ _ _ _ this
  | j+2=>simp at h2
end Go.Proofs.YtlinpknagdgphaaGreat
namespace Go.Proofs.YtlinpknagdgphaaGreat
open Go.RowKit
theorem Can.head {b:List aw} {p r:ah} (h:r ∈ jn b p):∀ {n:Nat} {q:ah},Can b r n q→Can b p (n+1) q
 | 0,q,hq=>by rw [hq];exact Or.inr ⟨p,rfl,h⟩
 | n+1,q,hq=>by
  rcases hq with hq | ⟨v,h1,h2⟩
  ·exact Or.inl (Can.head h hq)
  ·exact Or.inr ⟨v,Can.head h h1,h2⟩
theorem Can.symm {b:List aw}:∀ {n:Nat} {p q:ah},Can b p n q→Can b q n p
 | 0,p,q,h=>Eq.symm h
 | n+1,p,q,h=>by
  rcases h with h | ⟨r,h1,h2⟩
  ·exact Or.inl (Can.symm h)
  ·exact Can.head (OA.1 h2) (Can.symm h1)
theorem dM.symm {b:List aw} {p q:ah} {d:Nat} (h:dM b p d q):dM b q d p:=⟨h.1.symm,fun k hk hc=>h.2 k hk hc.symm⟩
theorem DI {b:List aw} (g:dg b) {p q:ah} {d:Nat} (h:dM b p d q):fB b p q=(d:Int):=
 Lw (by have:=h.four g;omega) ((qG g).2 h.1) fun k hk hc=>h.2 k hk ((qG g).1 hc)
theorem DJ {b:List aw} (g:dg b) {p q:ah} (h:∀ d,¬ dM b p d q):fB b p q = -1:=
 JA fun k _ hc=>by
  obtain ⟨d,-,hd⟩:=((qG g).1 hc).CM
  exact h d hd
theorem xM {b:List aw} (g:dg b) {p t:ah} (ht:t.eJ):fB b p t=match eK (bG b t) p with | some s=>((s:Nat):Int) | none => -1:=by
 obtain ⟨k,hf⟩:=qE g ht
 cases h:eK (bG b t) p with
 | some s=>exact DI g (((hf p s).1 ((qp k).1 h)).symm)
 | none=>exact DJ g (fun d hd=>by rw [(qp k).2 ((hf p d).2 hd.symm)] at h;cases h)
noncomputable def BY (b:List aw) (p:ah) (i:Nat):List ah:=p::((b.take i).filter fun a=>decide (0≤fB b p a.server)).map aw.server
theorem Nh {l:List aw} {p:ah} (hp:p.eJ) (hl:p.low=true) {i:Nat} (hi:(book l).length≤i):eW (BY (book l) p i)=kl l p:=by
 unfold ah.low at hl
 simp only [Bool.and_eq_true,decide_eq_true_eq] at hl
 unfold kl
 rw [if_pos hl]
 obtain ⟨k,hf⟩:=qE (dS l) hp
 refine zp fun q=>?_
 unfold BY
 rw [List.take_of_length_le hi,List.mem_cons,List.mem_map,List.mem_map]
 constructor
 ·rintro (rfl | ⟨a,ha,rfl⟩)
  ·exact ⟨(q,0),(hf q 0).2 ⟨rfl,fun k hk=>by omega⟩,rfl⟩
  ·have h0:=of_decide_eq_true (List.mem_filter.1 ha).2
   by_cases h:∃ d,dM (book l) p d a.server
   ·obtain ⟨d,hd⟩:=h;exact ⟨(_,d),(hf _ d).2 hd,rfl⟩
   ·rw [DJ (dS l) fun d hd=>h ⟨d,hd⟩] at h0;omega
 ·rintro ⟨⟨q',d⟩,hx,rfl⟩
  have hd:=(hf q' d).1 hx
  have hw:=hd.CN
  rcases List.mem_cons.1 hw with e | hw
  ·exact Or.inl e
  ·obtain ⟨a,ha,e⟩:=List.mem_map.1 hw
   dsimp only at *
   refine Or.inr ⟨a,List.mem_filter.2 ⟨ha,decide_eq_true ?_⟩,e⟩
   rw [e,DI (dS l) hd];omega
theorem PG {l:List ah} (h:isSet l=true):SS l:=by
 have hs:=(rX l).1 h
 unfold SS
 rw [List.pairwise_iff_getElem]
 intro i j hi hj rK
 have key:∀ d i (h1:i<l.length) (h2:i+d+1<l.length),(l[i]).lt (l[i+d+1])=true:=by
  intro d
  induction d with
  | zero=>intro i h1 h2;exact hs.2 i _ _ (by omega) (List.getElem?_eq_getElem h1) (List.getElem?_eq_getElem h2)
  | succ d ih=>
   intro i h1 h2
   have e1:=ih i h1 (by omega)
   have e2:=hs.2 (i+d+1) _ _ (by omega) (List.getElem?_eq_getElem (by omega)) (List.getElem?_eq_getElem (by omega))
   exact lt_trans e1 e2
 have:=key (j-i-1) i hi (by omega)
 simp only [show i+(j-i-1)+1=j by omega] at this
 exact this
theorem QQ {b:List aw} (g:dg b) (p:ah):SS (jn b p):=by
 unfold jn SS
 refine List.Pairwise.filter _ ?_
 unfold bD
 split
 ·rename_i a ha
  exact PG (aw.gL.1 (g.may a (List.mem_of_find?_eq_some ha))).2.2.1
 ·exact List.Pairwise.nil
theorem QR {b:List aw} (g:dg b) (p:ah):SS (lR b p b.length):=by
 unfold lR SS
 rw [List.take_length,List.pairwise_map]
 refine List.Pairwise.filter _ (g.up.imp fun {x y} h=>?_)
 unfold ah.lt;exact decide_eq_true (Or.inl h)
theorem QS {b:List aw} (g:dg b) (p:ah):jn b p=lR b p b.length:=by
 refine vX (QQ g p) (QR g p) fun q=>?_
 unfold lR
 rw [List.take_length,List.mem_map]
 constructor
 ·intro hq
  obtain ⟨a,ha,rfl⟩:=uT hq
  exact ⟨a,List.mem_filter.2 ⟨ha,(uM g).2 hq⟩,rfl⟩
 ·rintro ⟨a,ha,rfl⟩;exact (uM g).1 (List.mem_filter.1 ha).2
end Go.Proofs.YtlinpknagdgphaaGreat
namespace Go.Proofs.YtlinpknagdgphaaGreat
open Go.RowKit
theorem J8 {l:List aw} {p:ah} {i:Nat} {a:aw} (ha:(book l)[i]?=some a) (h:¬ fB (book l) p a.server<0) (hn:a.server.node≠p.node):∃ s:Nat,eK (bG (book l) a.server) p=some s∧fB (book l) p a.server=((s:Nat):Int)∧1≤s:=by
 have ho:=sg ha
 obtain ⟨k,hf⟩:=qE (dS l) ho
 have:=xM (dS l) (p:=p) ho
 cases hd:eK (bG (book l) a.server) p with
 | none=>rw [hd] at this;dsimp only at this;omega
 | some s=>
  rw [hd] at this
  refine ⟨s,rfl,this,?_⟩
  rcases FO k hf hd hn with h | h<;>omega
theorem J9 {l:List aw} {p:ah} {i:Nat} {a:aw} (ha:(book l)[i]?=some a) (h:fB (book l) p a.server<0):(eK (bG (book l) a.server) p).isSome=false:=by
 have:=xM (dS l) (p:=p) (sg ha)
 cases hd:eK (bG (book l) a.server) p with
 | none=>rfl
 | some s=>
  rw [hd] at this
  have h0:fB (book l) p a.server=((s:Nat):Int):=this
  omega
theorem Ly {l:List aw} {q:ah} {i s:Nat} {a:aw} (ha:(book l)[i]?=some a) (hs:1≤s) {z:Int} (hz:z=((s:Nat):Int)) {c:Bool} (h:(fB (book l) q a.server==z-1)=c):fi (book l) a.server s q=c:=by
 have:=xM (dS l) (p:=q) (sg ha)
 unfold fi
 rw [← h,this]
 cases hd:eK (bG (book l) a.server) q with
 | none=>
  rw [Bool.eq_iff_iff,decide_eq_true_iff,beq_iff_eq]
  constructor
  ·intro e;cases e
  ·intro e;dsimp only at e;omega
 | some d=>
  rw [Bool.eq_iff_iff,decide_eq_true_iff,beq_iff_eq,Option.some.injEq];dsimp only;omega
end Go.Proofs.YtlinpknagdgphaaGreat
namespace Go.Proofs.YtlinpknagdgphaaGreat
open Go.RowKit
theorem pQ (T:Nat) (l:List aw):dh (.em T 4 (b4 l)):=by
 intro K K' y H h
 cases h with
 | em X F hl hs hr=>
  refine .em X F hl hs fun i r j c x h1 h2 h3=>?_
  have:=hr i r j c x h1 h2 h3
  rw [List.getElem?_map,Option.map_eq_some_iff] at h1
  obtain ⟨p,-,rfl⟩:=h1
  unfold aw.BW at h2
  match j with
  | 0=>simp at h2;subst h2;exact (gX _) _ _ _ _ this
  | 1=>simp at h2;subst h2;exact (gX _) _ _ _ _ this
  | 2=>simp at h2;subst h2;exact (gX _) _ _ _ _ this
  | 3=>simp at h2;subst h2;exact (Lx _ _) _ _ _ _ this
  | j+4=>simp at h2
theorem uE (l:List aw):bA (aI l):=by
 simp only [bA,aI,List.all_eq_true,List.mem_map]
 rintro r ⟨p,-,rfl⟩ c hc
 simp only [aw.row,List.mem_cons,List.not_mem_nil,or_false] at hc
 rcases hc with rfl | rfl | rfl | rfl<;>rfl
theorem uF (l:List aw) (a:aw):aI l++[[.v (.int .i64 a.server.node),.v (.int .u64 (a.server.inc:Int)),.v (.int .u64 (a.seq:Int)),.ro 2 (procs a.ay)]]=aI (l++[a]):=by simp [aI,aw.row]
def jF (b:List aw) (a:aw) (i:Nat):Bool:=a.may&&(b.take i).all fun x=>!(decide (x.server.node=a.server.node))||dF a x
def a9 (l:List aw) (a:aw):List aw:=book (book l++[a])
def fa (l:List aw) (a:aw):Bool:=jF (book l) a (book l).length
theorem Ef {b:List aw} {i:Nat} {x:aw} (h:b[i]?=some x) (a:aw):jF b a (i+1)=(jF b a i&&(!(decide (x.server.node=a.server.node))||dF a x)):=by
 obtain ⟨hi,rfl⟩:=List.getElem?_eq_some_iff.1 h
 rw [jF,jF,List.take_succ_eq_append_getElem hi,List.all_append,Bool.and_assoc];simp
theorem kd {b:List aw} {i:Nat} {x a:aw} (h:b[i]?=some x) (h1:x.server.node=a.server.node) (h2:dF a x=false):jF b a (i+1)=false:=by
 rw [Ef h,h2,decide_eq_true h1];simp
theorem j9 {b:List aw} {i:Nat} {x a:aw} (h:b[i]?=some x) (h1:x.server.node≠a.server.node∨dF a x=true):jF b a (i+1)=jF b a i:=by
 rw [Ef h]
 rcases h1 with h1 | h1
 ·rw [decide_eq_false h1];simp
 ·rw [h1];simp
theorem OD (l:List aw):∀ x ∈ book l,x.ay.length≤9223372036854775807:=fun x hx=>by have:=aw.gR ((dS l).may x hx);omega
theorem vI {l:List aw} {a:aw} (ha:a.ay.length≤9223372036854775807):∀ x ∈ book l++[a],x.ay.length≤9223372036854775807:=fun x hx=>by
 rcases List.mem_append.1 hx with hx | hx
 ·exact OD l x hx
 ·rw [List.mem_singleton] at hx;rw [hx];exact ha
set_option maxRecDepth 100000 in
theorem Aj (l:List aw) (a:aw) (hb:l.length≤9223372036854775807) (hl:∀ x ∈ l,x.ay.length≤9223372036854775807) (ha:a.ay.length≤9223372036854775807):aD Tryz.prog 28 [.d (.ro 4 (aI l)),.ag [.z a.server.node,.u a.server.inc,.u a.seq,.d (.ro 2 (procs a.ay))]] (.tu [.em 31 4 (b4 (a9 l a)),.v (.bool (fa l a))]):=by
 refine aD.intro (by kernel_rfl) rfl rfl 40 rfl rfl fun w0 K ac hK r=>?_
 refine q5 (todo':=aft Tryz.f28 1) (E':=[(3,.pt 0 0),(4,.d (.v (.slice none 0 0))),(5,.d (.v (.bool false))),(6,.sl 1 ((b4 (book l)).length))]) (M':=[.bx 31 [.z a.server.node,.u a.server.inc,.u a.seq,.d (.ro 2 (procs a.ay))],.rw 31 4 (b4 (book l))]) tk tq hK [(1,[(1,.aJ (.em 31 4 (b4 (book l))))])] 4 [0,1] [3,4,5,6] r (by kernel_rfl) (U (o8 l hb hl) trivial) fun ac wd r=>?_
 have r:=r.freeze (M1:=[.bx 31 [.z a.server.node,.u a.server.inc,.u a.seq,.d (.ro 2 (procs a.ay))],.rw 31 4 (cg (b4 (book l)))]) (M2:=[.bx 31 [.z a.server.node,.u a.server.inc,.u a.seq,.d (.ro 2 (procs a.ay))],.rw 31 4 (aI (book l))]) [1] (by kernel_rfl) (by rw [ux])
 cases h0:(a.may) with
 | false=>
  refine bU (todo':=hd Tryz.f28 0) (E':=[(3,.pt 0 0),(6,.sl 1 ((b4 (book l)).length)),(7,.d (.v (.bool false))),(14,.sl 1 ((b4 (book l)).length)),(15,.n ((book l).length)),(16,.z 0)]) (M':=[.bx 31 [.z a.server.node,.u a.server.inc,.u a.seq,.d (.ro 2 (procs a.ay))],.rw 31 4 (aI (book l))]) tk tq hK [(2,[(1,.aJ (.v (.bool false)))]),(3,[(1,.z ((((book l).length:Nat):Int)))])] 2000 [0,1] [3,6,7,14,15,16] r (by kernel_rfl) (U ((by have k:=wo a ha;rw [h0] at k;exact k):aD Tryz.prog 44 [.ag [.z a.server.node,.u a.server.inc,.u a.seq,.d (.ro 2 (procs a.ay))]] (.v (.bool false))) (U ((by simp):(((b4 (book l)).length:Nat):Int)=(((book l).length:Nat):Int)) trivial)) fun ac wd r=>?_
  refine aN.rounds (Φ:=fun (i:Nat) ac wd=>∃ nw:Bool,(i≤(book l).length∧nw=jF (book l) a i)∧ec [] w0 K 40 [(3,.pt 0 0),(6,.sl 1 ((book l).length)),(7,.d (.v (.bool nw))),(14,.sl 1 ((book l).length)),(15,.n ((book l).length)),(16,.n i)] [.bx 31 [.z a.server.node,.u a.server.inc,.u a.seq,.d (.ro 2 (procs a.ay))],.rw 31 4 (aI (book l))] ac wd) ((book l).length) ?_ (Nat.zero_le _) ⟨false,⟨Nat.zero_le _,by simp [jF, *]⟩,(r).cast (by simp) rfl⟩
  clear r
  rintro i cI bo ac wd ⟨nw,aM,r⟩
  obtain ⟨eS,c8⟩:=aM
  have lb:=(dS l).len
  cases nw with
  | false=>
   cases h1:(decide ((((i:Nat):Int):Int)<(((book l).length:Nat):Int))) with
   | false=>
    have bN:=of_decide_eq_false h1
    rw [show (.tu [.em 31 4 (b4 (a9 l a)),.v (.bool (fa l a))]:DV)=.tu [.em 31 4 (b4 (a9 l a)),.v (.bool false)] from (by rw [show fa l a=false from by unfold fa;rw [show (book l).length=i by omega];exact c8.symm])]
    exact aQ tk tq hK rfl [(4,[(0,.b false)]),(9,[(4,.call [.d (.ro 4 (aI (book l++[a])))] (.em 31 4 (b4 (a9 l a))))])] 2000 r (by kernel_rfl) (U h1 (U ((by first | rfl | (simp;done) | (simp<;>omega)):((book l).length)=(aI (book l)).length) (U ((by first | rfl | (simp;done) | (simp<;>omega)):(1)=([[.z a.server.node,.u a.server.inc,.u a.seq,.ro 2 (procs a.ay)]]:List (List DV)).length) (U ((by first | omega | (simp;done) | (simp<;>omega)):(2*(((book l).length)+(1))+0)*48≤281474976710656) (U ((by first | omega | (simp;done) | (simp<;>omega)):((book l).length)+(1)<4611686018427387904) (U ((by first | exact uE [a] | simp [bA,AV.one,cd]):bA ([[.z a.server.node,.u a.server.inc,.u a.seq,.ro 2 (procs a.ay)]])) (U (o8 (book l++[a]) (by simp;omega) (vI ha)) (U ((pQ _ _):dh (.em 31 4 (b4 (a9 l a)))) (U (cQ (4)) (U ((by first | rfl | (simp;done) | (simp<;>omega)):((book l).length+(1))=(aI (book l)++[[.z a.server.node,.u a.server.inc,.u a.seq,.ro 2 (procs a.ay)]]:List (List DV)).length) (U ((by first | exact gJ _ | (rw [uF];exact gJ _)):cg (aI (book l)++[[.z a.server.node,.u a.server.inc,.u a.seq,.ro 2 (procs a.ay)]])=aI (book l++[a])) (U (cQ ((b4 (a9 l a)).length)) trivial))))))))))))
   | true=>
    have bN:=of_decide_eq_true h1
    obtain ⟨x,gx⟩:∃ x,(book l)[i]?=some x:=⟨_,List.getElem?_eq_getElem (by omega)⟩
    have u0:=((by first | omega | decide | (simp;omega)):(i)<((book l).length))
    have u1:=((by first | rfl | (simp;done) | (simp<;>omega)):((book l).length)≤(aI (book l)).length)
    cases h2:((x.server.node:Int)==a.server.node) with
    | false=>
     have b7:=ne_of_beq_false h2
     exact bU (todo':=hd Tryz.f28 0) tk tq hK [(4,[(0,.b true)]),(5,[(0,.n (i)),(1,.ix 0 [.z x.server.node,.u x.server.inc,.u x.seq,.ro 2 (procs x.ay)])]),(6,[(6,.b false)]),(8,[(0,.z (((i+1:Nat):Int)))])] 2000 [0,1] [3,6,7,14,15,16] r (by kernel_rfl) (U h1 (U (aX ((i:Nat):Int)) (U u0 (U u1 (U (eC gx) (U h2 (U ((wi (by omega)):IntKind.i64.wrap ((((i:Nat):Int):Int)+1)=((i+1:Nat):Int)) trivial))))))) fun ac wd r=>bo (by omega) ac wd ⟨false,⟨by omega,by first | exact (kd gx (by omega) (by assumption)).symm | (rw [j9 gx (by first | exact Or.inl (by omega) | exact Or.inr (by assumption))];exact c8)⟩,r⟩
    | true=>
     have b7:=eq_of_beq h2
     cases h3:(dF a x) with
     | false=>
      exact bU (todo':=hd Tryz.f28 0) tk tq hK [(4,[(0,.b true)]),(5,[(0,.n (i)),(1,.ix 0 [.z x.server.node,.u x.server.inc,.u x.seq,.ro 2 (procs x.ay)])]),(6,[(6,.b true),(10,.aJ (.v (.bool false)))]),(8,[(0,.z (((i+1:Nat):Int)))])] 2000 [0,1] [3,6,7,14,15,16] r (by kernel_rfl) (U h1 (U (aX ((i:Nat):Int)) (U u0 (U u1 (U (eC gx) (U h2 (U ((by have k:=lG a x;rw [h3] at k;exact k):aD Tryz.prog 45 [.ag [.z a.server.node,.u a.server.inc,.u a.seq,.d (.ro 2 (procs a.ay))],.ag [.z x.server.node,.u x.server.inc,.u x.seq,.d (.ro 2 (procs x.ay))]] (.v (.bool false))) (U ((wi (by omega)):IntKind.i64.wrap ((((i:Nat):Int):Int)+1)=((i+1:Nat):Int)) trivial)))))))) fun ac wd r=>bo (by omega) ac wd ⟨false,⟨by omega,by first | exact (kd gx (by omega) (by assumption)).symm | (rw [j9 gx (by first | exact Or.inl (by omega) | exact Or.inr (by assumption))];exact c8)⟩,r⟩
     | true=>
      exact bU (todo':=hd Tryz.f28 0) tk tq hK [(4,[(0,.b true)]),(5,[(0,.n (i)),(1,.ix 0 [.z x.server.node,.u x.server.inc,.u x.seq,.ro 2 (procs x.ay)])]),(6,[(6,.b true),(10,.aJ (.v (.bool true)))]),(8,[(0,.z (((i+1:Nat):Int)))])] 2000 [0,1] [3,6,7,14,15,16] r (by kernel_rfl) (U h1 (U (aX ((i:Nat):Int)) (U u0 (U u1 (U (eC gx) (U h2 (U ((by have k:=lG a x;rw [h3] at k;exact k):aD Tryz.prog 45 [.ag [.z a.server.node,.u a.server.inc,.u a.seq,.d (.ro 2 (procs a.ay))],.ag [.z x.server.node,.u x.server.inc,.u x.seq,.d (.ro 2 (procs x.ay))]] (.v (.bool true))) (U ((wi (by omega)):IntKind.i64.wrap ((((i:Nat):Int):Int)+1)=((i+1:Nat):Int)) trivial)))))))) fun ac wd r=>bo (by omega) ac wd ⟨false,⟨by omega,by first | exact (kd gx (by omega) (by assumption)).symm | (rw [j9 gx (by first | exact Or.inl (by omega) | exact Or.inr (by assumption))];exact c8)⟩,r⟩
  | true=>
   cases h4:(decide ((((i:Nat):Int):Int)<(((book l).length:Nat):Int))) with
   | false=>
    have eA:=of_decide_eq_false h4
    rw [show (.tu [.em 31 4 (b4 (a9 l a)),.v (.bool (fa l a))]:DV)=.tu [.em 31 4 (b4 (a9 l a)),.v (.bool true)] from (by rw [show fa l a=true from by unfold fa;rw [show (book l).length=i by omega];exact c8.symm])]
    exact aQ tk tq hK rfl [(4,[(0,.b false)]),(9,[(4,.call [.d (.ro 4 (aI (book l++[a])))] (.em 31 4 (b4 (a9 l a))))])] 2000 r (by kernel_rfl) (U h4 (U ((by first | rfl | (simp;done) | (simp<;>omega)):((book l).length)=(aI (book l)).length) (U ((by first | rfl | (simp;done) | (simp<;>omega)):(1)=([[.z a.server.node,.u a.server.inc,.u a.seq,.ro 2 (procs a.ay)]]:List (List DV)).length) (U ((by first | omega | (simp;done) | (simp<;>omega)):(2*(((book l).length)+(1))+0)*48≤281474976710656) (U ((by first | omega | (simp;done) | (simp<;>omega)):((book l).length)+(1)<4611686018427387904) (U ((by first | exact uE [a] | simp [bA,AV.one,cd]):bA ([[.z a.server.node,.u a.server.inc,.u a.seq,.ro 2 (procs a.ay)]])) (U (o8 (book l++[a]) (by simp;omega) (vI ha)) (U ((pQ _ _):dh (.em 31 4 (b4 (a9 l a)))) (U (cQ (4)) (U ((by first | rfl | (simp;done) | (simp<;>omega)):((book l).length+(1))=(aI (book l)++[[.z a.server.node,.u a.server.inc,.u a.seq,.ro 2 (procs a.ay)]]:List (List DV)).length) (U ((by first | exact gJ _ | (rw [uF];exact gJ _)):cg (aI (book l)++[[.z a.server.node,.u a.server.inc,.u a.seq,.ro 2 (procs a.ay)]])=aI (book l++[a])) (U (cQ ((b4 (a9 l a)).length)) trivial))))))))))))
   | true=>
    have eA:=of_decide_eq_true h4
    obtain ⟨x,gx⟩:∃ x,(book l)[i]?=some x:=⟨_,List.getElem?_eq_getElem (by omega)⟩
    have u2:=((by first | omega | decide | (simp;omega)):(i)<((book l).length))
    have u3:=((by first | rfl | (simp;done) | (simp<;>omega)):((book l).length)≤(aI (book l)).length)
    cases h5:((x.server.node:Int)==a.server.node) with
    | false=>
     have ib:=ne_of_beq_false h5
     exact bU (todo':=hd Tryz.f28 0) tk tq hK [(4,[(0,.b true)]),(5,[(0,.n (i)),(1,.ix 0 [.z x.server.node,.u x.server.inc,.u x.seq,.ro 2 (procs x.ay)])]),(6,[(6,.b false)]),(8,[(0,.z (((i+1:Nat):Int)))])] 2000 [0,1] [3,6,7,14,15,16] r (by kernel_rfl) (U h4 (U (aX ((i:Nat):Int)) (U u2 (U u3 (U (eC gx) (U h5 (U ((wi (by omega)):IntKind.i64.wrap ((((i:Nat):Int):Int)+1)=((i+1:Nat):Int)) trivial))))))) fun ac wd r=>bo (by omega) ac wd ⟨true,⟨by omega,by first | exact (kd gx (by omega) (by assumption)).symm | (rw [j9 gx (by first | exact Or.inl (by omega) | exact Or.inr (by assumption))];exact c8)⟩,r⟩
    | true=>
     have ib:=eq_of_beq h5
     cases h6:(dF a x) with
     | false=>
      exact bU (todo':=hd Tryz.f28 0) tk tq hK [(4,[(0,.b true)]),(5,[(0,.n (i)),(1,.ix 0 [.z x.server.node,.u x.server.inc,.u x.seq,.ro 2 (procs x.ay)])]),(6,[(6,.b true),(10,.aJ (.v (.bool false)))]),(8,[(0,.z (((i+1:Nat):Int)))])] 2000 [0,1] [3,6,7,14,15,16] r (by kernel_rfl) (U h4 (U (aX ((i:Nat):Int)) (U u2 (U u3 (U (eC gx) (U h5 (U ((by have k:=lG a x;rw [h6] at k;exact k):aD Tryz.prog 45 [.ag [.z a.server.node,.u a.server.inc,.u a.seq,.d (.ro 2 (procs a.ay))],.ag [.z x.server.node,.u x.server.inc,.u x.seq,.d (.ro 2 (procs x.ay))]] (.v (.bool false))) (U ((wi (by omega)):IntKind.i64.wrap ((((i:Nat):Int):Int)+1)=((i+1:Nat):Int)) trivial)))))))) fun ac wd r=>bo (by omega) ac wd ⟨false,⟨by omega,by first | exact (kd gx (by omega) (by assumption)).symm | (rw [j9 gx (by first | exact Or.inl (by omega) | exact Or.inr (by assumption))];exact c8)⟩,r⟩
     | true=>
      exact bU (todo':=hd Tryz.f28 0) tk tq hK [(4,[(0,.b true)]),(5,[(0,.n (i)),(1,.ix 0 [.z x.server.node,.u x.server.inc,.u x.seq,.ro 2 (procs x.ay)])]),(6,[(6,.b true),(10,.aJ (.v (.bool true)))]),(8,[(0,.z (((i+1:Nat):Int)))])] 2000 [0,1] [3,6,7,14,15,16] r (by kernel_rfl) (U h4 (U (aX ((i:Nat):Int)) (U u2 (U u3 (U (eC gx) (U h5 (U ((by have k:=lG a x;rw [h6] at k;exact k):aD Tryz.prog 45 [.ag [.z a.server.node,.u a.server.inc,.u a.seq,.d (.ro 2 (procs a.ay))],.ag [.z x.server.node,.u x.server.inc,.u x.seq,.d (.ro 2 (procs x.ay))]] (.v (.bool true))) (U ((wi (by omega)):IntKind.i64.wrap ((((i:Nat):Int):Int)+1)=((i+1:Nat):Int)) trivial)))))))) fun ac wd r=>bo (by omega) ac wd ⟨true,⟨by omega,by first | exact (kd gx (by omega) (by assumption)).symm | (rw [j9 gx (by first | exact Or.inl (by omega) | exact Or.inr (by assumption))];exact c8)⟩,r⟩
 | true=>
  refine bU (todo':=hd Tryz.f28 0) (E':=[(3,.pt 0 0),(6,.sl 1 ((b4 (book l)).length)),(7,.d (.v (.bool true))),(14,.sl 1 ((b4 (book l)).length)),(15,.n ((book l).length)),(16,.z 0)]) (M':=[.bx 31 [.z a.server.node,.u a.server.inc,.u a.seq,.d (.ro 2 (procs a.ay))],.rw 31 4 (aI (book l))]) tk tq hK [(2,[(1,.aJ (.v (.bool true)))]),(3,[(1,.z ((((book l).length:Nat):Int)))])] 2000 [0,1] [3,6,7,14,15,16] r (by kernel_rfl) (U ((by have k:=wo a ha;rw [h0] at k;exact k):aD Tryz.prog 44 [.ag [.z a.server.node,.u a.server.inc,.u a.seq,.d (.ro 2 (procs a.ay))]] (.v (.bool true))) (U ((by simp):(((b4 (book l)).length:Nat):Int)=(((book l).length:Nat):Int)) trivial)) fun ac wd r=>?_
  refine aN.rounds (Φ:=fun (i:Nat) ac wd=>∃ nw:Bool,(i≤(book l).length∧nw=jF (book l) a i)∧ec [] w0 K 40 [(3,.pt 0 0),(6,.sl 1 ((book l).length)),(7,.d (.v (.bool nw))),(14,.sl 1 ((book l).length)),(15,.n ((book l).length)),(16,.n i)] [.bx 31 [.z a.server.node,.u a.server.inc,.u a.seq,.d (.ro 2 (procs a.ay))],.rw 31 4 (aI (book l))] ac wd) ((book l).length) ?_ (Nat.zero_le _) ⟨true,⟨Nat.zero_le _,by simp [jF, *]⟩,(r).cast (by simp) rfl⟩
  clear r
  rintro i cI bo ac wd ⟨nw,aM,r⟩
  obtain ⟨eS,c8⟩:=aM
  have lb:=(dS l).len
  cases nw with
  | false=>
   cases h7:(decide ((((i:Nat):Int):Int)<(((book l).length:Nat):Int))) with
   | false=>
    have gE:=of_decide_eq_false h7
    rw [show (.tu [.em 31 4 (b4 (a9 l a)),.v (.bool (fa l a))]:DV)=.tu [.em 31 4 (b4 (a9 l a)),.v (.bool false)] from (by rw [show fa l a=false from by unfold fa;rw [show (book l).length=i by omega];exact c8.symm])]
    exact aQ tk tq hK rfl [(4,[(0,.b false)]),(9,[(4,.call [.d (.ro 4 (aI (book l++[a])))] (.em 31 4 (b4 (a9 l a))))])] 2000 r (by kernel_rfl) (U h7 (U ((by first | rfl | (simp;done) | (simp<;>omega)):((book l).length)=(aI (book l)).length) (U ((by first | rfl | (simp;done) | (simp<;>omega)):(1)=([[.z a.server.node,.u a.server.inc,.u a.seq,.ro 2 (procs a.ay)]]:List (List DV)).length) (U ((by first | omega | (simp;done) | (simp<;>omega)):(2*(((book l).length)+(1))+0)*48≤281474976710656) (U ((by first | omega | (simp;done) | (simp<;>omega)):((book l).length)+(1)<4611686018427387904) (U ((by first | exact uE [a] | simp [bA,AV.one,cd]):bA ([[.z a.server.node,.u a.server.inc,.u a.seq,.ro 2 (procs a.ay)]])) (U (o8 (book l++[a]) (by simp;omega) (vI ha)) (U ((pQ _ _):dh (.em 31 4 (b4 (a9 l a)))) (U (cQ (4)) (U ((by first | rfl | (simp;done) | (simp<;>omega)):((book l).length+(1))=(aI (book l)++[[.z a.server.node,.u a.server.inc,.u a.seq,.ro 2 (procs a.ay)]]:List (List DV)).length) (U ((by first | exact gJ _ | (rw [uF];exact gJ _)):cg (aI (book l)++[[.z a.server.node,.u a.server.inc,.u a.seq,.ro 2 (procs a.ay)]])=aI (book l++[a])) (U (cQ ((b4 (a9 l a)).length)) trivial))))))))))))
   | true=>
    have gE:=of_decide_eq_true h7
    obtain ⟨x,gx⟩:∃ x,(book l)[i]?=some x:=⟨_,List.getElem?_eq_getElem (by omega)⟩
    have u4:=((by first | omega | decide | (simp;omega)):(i)<((book l).length))
    have u5:=((by first | rfl | (simp;done) | (simp<;>omega)):((book l).length)≤(aI (book l)).length)
    cases h8:((x.server.node:Int)==a.server.node) with
    | false=>
     have lq:=ne_of_beq_false h8
     exact bU (todo':=hd Tryz.f28 0) tk tq hK [(4,[(0,.b true)]),(5,[(0,.n (i)),(1,.ix 0 [.z x.server.node,.u x.server.inc,.u x.seq,.ro 2 (procs x.ay)])]),(6,[(6,.b false)]),(8,[(0,.z (((i+1:Nat):Int)))])] 2000 [0,1] [3,6,7,14,15,16] r (by kernel_rfl) (U h7 (U (aX ((i:Nat):Int)) (U u4 (U u5 (U (eC gx) (U h8 (U ((wi (by omega)):IntKind.i64.wrap ((((i:Nat):Int):Int)+1)=((i+1:Nat):Int)) trivial))))))) fun ac wd r=>bo (by omega) ac wd ⟨false,⟨by omega,by first | exact (kd gx (by omega) (by assumption)).symm | (rw [j9 gx (by first | exact Or.inl (by omega) | exact Or.inr (by assumption))];exact c8)⟩,r⟩
    | true=>
     have lq:=eq_of_beq h8
     cases h9:(dF a x) with
     | false=>
      exact bU (todo':=hd Tryz.f28 0) tk tq hK [(4,[(0,.b true)]),(5,[(0,.n (i)),(1,.ix 0 [.z x.server.node,.u x.server.inc,.u x.seq,.ro 2 (procs x.ay)])]),(6,[(6,.b true),(10,.aJ (.v (.bool false)))]),(8,[(0,.z (((i+1:Nat):Int)))])] 2000 [0,1] [3,6,7,14,15,16] r (by kernel_rfl) (U h7 (U (aX ((i:Nat):Int)) (U u4 (U u5 (U (eC gx) (U h8 (U ((by have k:=lG a x;rw [h9] at k;exact k):aD Tryz.prog 45 [.ag [.z a.server.node,.u a.server.inc,.u a.seq,.d (.ro 2 (procs a.ay))],.ag [.z x.server.node,.u x.server.inc,.u x.seq,.d (.ro 2 (procs x.ay))]] (.v (.bool false))) (U ((wi (by omega)):IntKind.i64.wrap ((((i:Nat):Int):Int)+1)=((i+1:Nat):Int)) trivial)))))))) fun ac wd r=>bo (by omega) ac wd ⟨false,⟨by omega,by first | exact (kd gx (by omega) (by assumption)).symm | (rw [j9 gx (by first | exact Or.inl (by omega) | exact Or.inr (by assumption))];exact c8)⟩,r⟩
     | true=>
      exact bU (todo':=hd Tryz.f28 0) tk tq hK [(4,[(0,.b true)]),(5,[(0,.n (i)),(1,.ix 0 [.z x.server.node,.u x.server.inc,.u x.seq,.ro 2 (procs x.ay)])]),(6,[(6,.b true),(10,.aJ (.v (.bool true)))]),(8,[(0,.z (((i+1:Nat):Int)))])] 2000 [0,1] [3,6,7,14,15,16] r (by kernel_rfl) (U h7 (U (aX ((i:Nat):Int)) (U u4 (U u5 (U (eC gx) (U h8 (U ((by have k:=lG a x;rw [h9] at k;exact k):aD Tryz.prog 45 [.ag [.z a.server.node,.u a.server.inc,.u a.seq,.d (.ro 2 (procs a.ay))],.ag [.z x.server.node,.u x.server.inc,.u x.seq,.d (.ro 2 (procs x.ay))]] (.v (.bool true))) (U ((wi (by omega)):IntKind.i64.wrap ((((i:Nat):Int):Int)+1)=((i+1:Nat):Int)) trivial)))))))) fun ac wd r=>bo (by omega) ac wd ⟨false,⟨by omega,by first | exact (kd gx (by omega) (by assumption)).symm | (rw [j9 gx (by first | exact Or.inl (by omega) | exact Or.inr (by assumption))];exact c8)⟩,r⟩
  | true=>
   cases cD:(decide ((((i:Nat):Int):Int)<(((book l).length:Nat):Int))) with
   | false=>
    have o9:=of_decide_eq_false cD
    rw [show (.tu [.em 31 4 (b4 (a9 l a)),.v (.bool (fa l a))]:DV)=.tu [.em 31 4 (b4 (a9 l a)),.v (.bool true)] from (by rw [show fa l a=true from by unfold fa;rw [show (book l).length=i by omega];exact c8.symm])]
    exact aQ tk tq hK rfl [(4,[(0,.b false)]),(9,[(4,.call [.d (.ro 4 (aI (book l++[a])))] (.em 31 4 (b4 (a9 l a))))])] 2000 r (by kernel_rfl) (U cD (U ((by first | rfl | (simp;done) | (simp<;>omega)):((book l).length)=(aI (book l)).length) (U ((by first | rfl | (simp;done) | (simp<;>omega)):(1)=([[.z a.server.node,.u a.server.inc,.u a.seq,.ro 2 (procs a.ay)]]:List (List DV)).length) (U ((by first | omega | (simp;done) | (simp<;>omega)):(2*(((book l).length)+(1))+0)*48≤281474976710656) (U ((by first | omega | (simp;done) | (simp<;>omega)):((book l).length)+(1)<4611686018427387904) (U ((by first | exact uE [a] | simp [bA,AV.one,cd]):bA ([[.z a.server.node,.u a.server.inc,.u a.seq,.ro 2 (procs a.ay)]])) (U (o8 (book l++[a]) (by simp;omega) (vI ha)) (U ((pQ _ _):dh (.em 31 4 (b4 (a9 l a)))) (U (cQ (4)) (U ((by first | rfl | (simp;done) | (simp<;>omega)):((book l).length+(1))=(aI (book l)++[[.z a.server.node,.u a.server.inc,.u a.seq,.ro 2 (procs a.ay)]]:List (List DV)).length) (U ((by first | exact gJ _ | (rw [uF];exact gJ _)):cg (aI (book l)++[[.z a.server.node,.u a.server.inc,.u a.seq,.ro 2 (procs a.ay)]])=aI (book l++[a])) (U (cQ ((b4 (a9 l a)).length)) trivial))))))))))))
   | true=>
    have o9:=of_decide_eq_true cD
    obtain ⟨x,gx⟩:∃ x,(book l)[i]?=some x:=⟨_,List.getElem?_eq_getElem (by omega)⟩
    have u6:=((by first | omega | decide | (simp;omega)):(i)<((book l).length))
    have u7:=((by first | rfl | (simp;done) | (simp<;>omega)):((book l).length)≤(aI (book l)).length)
    cases et:((x.server.node:Int)==a.server.node) with
    | false=>
     have tl:=ne_of_beq_false et
     exact bU (todo':=hd Tryz.f28 0) tk tq hK [(4,[(0,.b true)]),(5,[(0,.n (i)),(1,.ix 0 [.z x.server.node,.u x.server.inc,.u x.seq,.ro 2 (procs x.ay)])]),(6,[(6,.b false)]),(8,[(0,.z (((i+1:Nat):Int)))])] 2000 [0,1] [3,6,7,14,15,16] r (by kernel_rfl) (U cD (U (aX ((i:Nat):Int)) (U u6 (U u7 (U (eC gx) (U et (U ((wi (by omega)):IntKind.i64.wrap ((((i:Nat):Int):Int)+1)=((i+1:Nat):Int)) trivial))))))) fun ac wd r=>bo (by omega) ac wd ⟨true,⟨by omega,by first | exact (kd gx (by omega) (by assumption)).symm | (rw [j9 gx (by first | exact Or.inl (by omega) | exact Or.inr (by assumption))];exact c8)⟩,r⟩
    | true=>
     have tl:=eq_of_beq et
     cases jw:(dF a x) with
     | false=>
      exact bU (todo':=hd Tryz.f28 0) tk tq hK [(4,[(0,.b true)]),(5,[(0,.n (i)),(1,.ix 0 [.z x.server.node,.u x.server.inc,.u x.seq,.ro 2 (procs x.ay)])]),(6,[(6,.b true),(10,.aJ (.v (.bool false)))]),(8,[(0,.z (((i+1:Nat):Int)))])] 2000 [0,1] [3,6,7,14,15,16] r (by kernel_rfl) (U cD (U (aX ((i:Nat):Int)) (U u6 (U u7 (U (eC gx) (U et (U ((by have k:=lG a x;rw [jw] at k;exact k):aD Tryz.prog 45 [.ag [.z a.server.node,.u a.server.inc,.u a.seq,.d (.ro 2 (procs a.ay))],.ag [.z x.server.node,.u x.server.inc,.u x.seq,.d (.ro 2 (procs x.ay))]] (.v (.bool false))) (U ((wi (by omega)):IntKind.i64.wrap ((((i:Nat):Int):Int)+1)=((i+1:Nat):Int)) trivial)))))))) fun ac wd r=>bo (by omega) ac wd ⟨false,⟨by omega,by first | exact (kd gx (by omega) (by assumption)).symm | (rw [j9 gx (by first | exact Or.inl (by omega) | exact Or.inr (by assumption))];exact c8)⟩,r⟩
     | true=>
      exact bU (todo':=hd Tryz.f28 0) tk tq hK [(4,[(0,.b true)]),(5,[(0,.n (i)),(1,.ix 0 [.z x.server.node,.u x.server.inc,.u x.seq,.ro 2 (procs x.ay)])]),(6,[(6,.b true),(10,.aJ (.v (.bool true)))]),(8,[(0,.z (((i+1:Nat):Int)))])] 2000 [0,1] [3,6,7,14,15,16] r (by kernel_rfl) (U cD (U (aX ((i:Nat):Int)) (U u6 (U u7 (U (eC gx) (U et (U ((by have k:=lG a x;rw [jw] at k;exact k):aD Tryz.prog 45 [.ag [.z a.server.node,.u a.server.inc,.u a.seq,.d (.ro 2 (procs a.ay))],.ag [.z x.server.node,.u x.server.inc,.u x.seq,.d (.ro 2 (procs x.ay))]] (.v (.bool true))) (U ((wi (by omega)):IntKind.i64.wrap ((((i:Nat):Int):Int)+1)=((i+1:Nat):Int)) trivial)))))))) fun ac wd r=>bo (by omega) ac wd ⟨true,⟨by omega,by first | exact (kd gx (by omega) (by assumption)).symm | (rw [j9 gx (by first | exact Or.inl (by omega) | exact Or.inr (by assumption))];exact c8)⟩,r⟩
end Go.Proofs.YtlinpknagdgphaaGreat
namespace Go.Proofs.YtlinpknagdgphaaGreat
open Go.RowKit
theorem Ak:nL Tryz.prog 38:=by unfold nL;kernel_rfl
structure Ov where
 self:ah
 homes:List Int
 n:Nat
 book:List aw
 ck:Nat
 ls:List (Nat×Int×ah)
def aY (l:List (Nat×Int×ah)):List (Nat×MK×DV):=l.map fun e=>(e.1,.i .i64 e.2.1,.ag [.v (.int .i64 e.2.2.node),.v (.int .u64 (e.2.2.inc:Int))])
def ef (o:Ov):List au:=[.bx 70 [.z o.self.node,.u o.self.inc,.d (.ro 1 (ints o.homes)),.n o.n,.sl 1 (o.book.length),.mv 2],.rw 31 4 (aI o.book),.mp 67 (o.ck) (aY o.ls)]
structure Ov.Ok (o:Ov):Prop where
 s1:1≤o.self.node
 s2:o.self.node≤o.homes.length
 s3:o.self.inc≤34359738367
 s4:0<o.self.inc
 h:o.homes.length≤10
 n1:1≤o.n
 n4:o.n≤4
 nh:o.n≤o.homes.length
 hz:∀ (i:Nat) x,o.homes[i]?=some x→(i<o.n→x=0)∧(o.n≤i→1≤x∧x≤o.n)
def Ov.cA (o:Ov) (x:Int):Bool:=decide (1≤x∧x≤(o.n:Int))
def Ov.sv (o:Ov):Bool:=o.cA o.self.node
def Ov.hm (o:Ov) (x:Int):Int:=o.homes.getD (x-1).toNat 0
def Ov.fZ (o:Ov) (x:Int):Bool:=decide (1≤x∧x≤(o.homes.length:Int)∧x≠o.self.node)&&(bif o.sv then o.cA x||o.hm x==o.self.node else o.hm o.self.node==x)
abbrev ao (o:Ov) (a b:Nat):au:=.bx 70 [.z o.self.node,.u o.self.inc,.d (.ro 1 (ints o.homes)),.n o.n,.sl a o.book.length,.mv b]
abbrev ai (o:Ov):au:=.mp 67 o.ck (aY o.ls)
abbrev af (o:Ov):au:=.rw 31 4 (aI o.book)
abbrev aj:AV:=.d (.v (.slice none 0 0))
abbrev aU:AV:=.d (.v (.bool true))
abbrev aZ:AV:=.d (.v (.bool false))
set_option maxRecDepth 100000 in
theorem e6 (o:Ov) (x:Int):aL Tryz.prog 19 [.pt 0 0,.z x] [ao o 1 2,af o,ai o] (.d (.v (.bool (o.cA x)))) (ef o):=by
 refine aL.intro (by kernel_rfl) rfl rfl 15 rfl rfl fun D w0 K bs ac wd hK (aB:bs.m=3) r=>?_
 cases h0:(decide ((1:Int)≤x)) with
 | false=>
  have bH:=of_decide_eq_false h0
  refine bB (y:=aZ) (N':=[ao o 1 2,af o,ai o]) ((by unfold Ov.cA;first | rw [decide_eq_true (by omega)] | rw [decide_eq_false (by omega)])) (rfl) ?_
  exact bC tk tq hK rfl aB [(1,[(1,.b false)])] 2000 [0,1,2] r (by kernel_rfl) (U h0 trivial)
 | true=>
  have bH:=of_decide_eq_true h0
  cases h1:(decide ((x:Int)≤((o.n:Nat):Int))) with
  | false=>
   have bN:=of_decide_eq_false h1
   refine bB (y:=aZ) (N':=[ao o 1 2,af o,ai o]) ((by unfold Ov.cA;first | rw [decide_eq_true (by omega)] | rw [decide_eq_false (by omega)])) (rfl) ?_
   exact bC tk tq hK rfl aB [(1,[(1,.b true),(8,.b false)])] 2000 [0,1,2] r (by kernel_rfl) (U h0 (U h1 trivial))
  | true=>
   have bN:=of_decide_eq_true h1
   refine bB (y:=aU) (N':=[ao o 1 2,af o,ai o]) ((by unfold Ov.cA;first | rw [decide_eq_true (by omega)] | rw [decide_eq_false (by omega)])) (rfl) ?_
   exact bC tk tq hK rfl aB [(1,[(1,.b true),(8,.b true)])] 2000 [0,1,2] r (by kernel_rfl) (U h0 (U h1 trivial))
set_option maxRecDepth 100000 in
theorem dr (o:Ov) (h:1≤o.self.node):aL Tryz.prog 20 [.pt 0 0] [ao o 1 2,af o,ai o] (aU) (ef o):=by
 refine aL.intro (by kernel_rfl) rfl rfl 13 rfl rfl fun D w0 K bs ac wd hK (aB:bs.m=3) r=>?_
 cases h0:((o.self.node:Int) != 0) with
 | false=>
  have bH:=gK h0
  exact absurd bH (by omega)
 | true=>
  have bH:¬ _=_:=bne_iff_ne.1 h0
  refine bB (y:=aU) (N':=[ao o 1 2,af o,ai o]) (rfl) (rfl) ?_
  exact bC tk tq hK rfl aB [(1,[(8,.b true)])] 2000 [0,1,2] r (by kernel_rfl) (U (Ak:nL Tryz.prog 38) (U h0 trivial))
set_option maxRecDepth 100000 in
theorem fk (o:Ov):aL Tryz.prog 23 [.pt 0 0] [ao o 1 2,af o,ai o] (.d (.v (.bool o.sv))) (ef o):=by
 refine aL.intro (by kernel_rfl) rfl rfl 10 rfl rfl fun D w0 K bs ac wd hK (aB:bs.m=3) r=>?_
 refine bB (y:=.d (.v (.bool (o.cA o.self.node)))) (N':=[ao o 1 2,af o,ai o]) (rfl) (rfl) ?_
 exact bC tk tq hK rfl aB [(1,[(6,.mem [0,1,2] (.d (.v (.bool (o.cA o.self.node)))) [ao o 1 2,af o,ai o])])] 2000 [0,1,2] r (by kernel_rfl) (U (e6 o o.self.node) trivial)
theorem wv {o:Ov} {x:Int} (h1:1≤x) (h2:x≤(o.homes.length:Int)):(ints o.homes)[(x-1).toNat]?=some [.v (.int .i64 (o.hm x))]:=by
 refine fT ?_
 unfold Ov.hm
 rw [List.getD_eq_getElem?_getD,List.getElem?_eq_getElem (by omega)];rfl
set_option maxRecDepth 100000 in
theorem vZ (o:Ov) (h1:1≤o.self.node) (h2:o.self.node≤(o.homes.length:Int)) (h3:o.homes.length≤10) (x:Int):aL Tryz.prog 21 [.pt 0 0,.z x] [ao o 1 2,af o,ai o] (.d (.v (.bool (o.fZ x)))) (ef o):=by
 refine aL.intro (by kernel_rfl) rfl rfl 63 rfl rfl fun D w0 K bs ac wd hK (aB:bs.m=3) r=>?_
 cases h0:(decide ((x:Int)<1)) with
 | false=>
  have bH:=of_decide_eq_false h0
  have bd:=((by first | rfl | (simp;done)):(((ints o.homes).length:Nat):Int)=((o.homes.length:Nat):Int))
  cases h1:(decide ((((o.homes.length:Nat):Int):Int)<x)) with
  | false=>
   have bN:=of_decide_eq_false h1
   cases h2:((x:Int)==o.self.node) with
   | false=>
    have b7:=ne_of_beq_false h2
    cases h3:(o.sv) with
    | false=>
     have b3:=((by have k:=fk o;rw [h3] at k;exact k):aL Tryz.prog 23 [.pt 0 0] [ao o 1 2,af o,ai o] (aZ) [ao o 1 2,af o,ai o])
     have cy:=((wi (by omega)):IntKind.i64.wrap ((o.self.node:Int)-1)=o.self.node-1)
     have db:=((by omega):(o.self.node-1)=(((o.self.node-1).toNat:Nat):Int))
     have cZ:=(wv (by omega) (by omega):(ints o.homes)[(o.self.node-1).toNat]?=some [.z ((o.hm o.self.node))])
     cases h4:(((o.hm o.self.node):Int)==x) with
     | false=>
      have eA:=ne_of_beq_false h4
      refine bB (y:=aZ) (N':=[ao o 1 2,af o,ai o]) ((by unfold Ov.fZ;first | (rw [decide_eq_false (by omega)];rfl) | (rw [decide_eq_true (by omega),h3,h4];rfl))) (rfl) ?_
      exact bC tk tq hK rfl aB [(1,[(1,.b false),(8,.z (((o.homes.length:Nat):Int))),(9,.b false),(18,.b false)]),(3,[(1,.mem [0,1,2] (aZ) [ao o 1 2,af o,ai o])]),(4,[(9,.z (o.self.node-1)),(10,.ix ((o.self.node-1).toNat) [.z ((o.hm o.self.node))]),(13,.b false)])] 2000 [0,1,2] r (by kernel_rfl) (U h0 (U bd (U h1 (U h2 (U b3 (U cy (U db (U cZ (U h4 trivial)))))))))
     | true=>
      have eA:=eq_of_beq h4
      refine bB (y:=aU) (N':=[ao o 1 2,af o,ai o]) ((by unfold Ov.fZ;first | (rw [decide_eq_false (by omega)];rfl) | (rw [decide_eq_true (by omega),h3,h4];rfl))) (rfl) ?_
      exact bC tk tq hK rfl aB [(1,[(1,.b false),(8,.z (((o.homes.length:Nat):Int))),(9,.b false),(18,.b false)]),(3,[(1,.mem [0,1,2] (aZ) [ao o 1 2,af o,ai o])]),(4,[(9,.z (o.self.node-1)),(10,.ix ((o.self.node-1).toNat) [.z ((o.hm o.self.node))]),(13,.b true)])] 2000 [0,1,2] r (by kernel_rfl) (U h0 (U bd (U h1 (U h2 (U b3 (U cy (U db (U cZ (U h4 trivial)))))))))
    | true=>
     have dp:=((by have k:=fk o;rw [h3] at k;exact k):aL Tryz.prog 23 [.pt 0 0] [ao o 1 2,af o,ai o] (aU) [ao o 1 2,af o,ai o])
     cases h5:(o.cA x) with
     | false=>
      have gF:=((by have k:=e6 o x;rw [h5] at k;exact k):aL Tryz.prog 19 [.pt 0 0,.z x] [ao o 1 2,af o,ai o] (aZ) [ao o 1 2,af o,ai o])
      have gG:=(wv (by omega) (by omega):(ints o.homes)[(x-1).toNat]?=some [.z ((o.hm x))])
      cases h6:(((o.hm x):Int)==o.self.node) with
      | false=>
       have lr:=ne_of_beq_false h6
       refine bB (y:=aZ) (N':=[ao o 1 2,af o,ai o]) ((by unfold Ov.fZ;first | (rw [decide_eq_false (by omega)];rfl) | (rw [decide_eq_true (by omega),h3,h5,h6];rfl))) (rfl) ?_
       exact bC tk tq hK rfl aB [(1,[(1,.b false),(8,.z (((o.homes.length:Nat):Int))),(9,.b false),(18,.b false)]),(3,[(1,.mem [0,1,2] (aU) [ao o 1 2,af o,ai o])]),(5,[(2,.mem [0,1,2] (aZ) [ao o 1 2,af o,ai o]),(9,.z (x-1)),(10,.ix ((x-1).toNat) [.z ((o.hm x))]),(17,.b false)])] 2000 [0,1,2] r (by kernel_rfl) (U h0 (U bd (U h1 (U h2 (U dp (U gF (U ((wi (by omega)):IntKind.i64.wrap ((x:Int)-1)=x-1) (U ((by omega):(x-1)=(((x-1).toNat:Nat):Int)) (U gG (U h6 trivial))))))))))
      | true=>
       have lr:=eq_of_beq h6
       refine bB (y:=aU) (N':=[ao o 1 2,af o,ai o]) ((by unfold Ov.fZ;first | (rw [decide_eq_false (by omega)];rfl) | (rw [decide_eq_true (by omega),h3,h5,h6];rfl))) (rfl) ?_
       exact bC tk tq hK rfl aB [(1,[(1,.b false),(8,.z (((o.homes.length:Nat):Int))),(9,.b false),(18,.b false)]),(3,[(1,.mem [0,1,2] (aU) [ao o 1 2,af o,ai o])]),(5,[(2,.mem [0,1,2] (aZ) [ao o 1 2,af o,ai o]),(9,.z (x-1)),(10,.ix ((x-1).toNat) [.z ((o.hm x))]),(17,.b true)])] 2000 [0,1,2] r (by kernel_rfl) (U h0 (U bd (U h1 (U h2 (U dp (U gF (U ((wi (by omega)):IntKind.i64.wrap ((x:Int)-1)=x-1) (U ((by omega):(x-1)=(((x-1).toNat:Nat):Int)) (U gG (U h6 trivial))))))))))
     | true=>
      refine bB (y:=aU) (N':=[ao o 1 2,af o,ai o]) ((by unfold Ov.fZ;first | (rw [decide_eq_false (by omega)];rfl) | (rw [decide_eq_true (by omega),h3,h5];rfl))) (rfl) ?_
      exact bC tk tq hK rfl aB [(1,[(1,.b false),(8,.z (((o.homes.length:Nat):Int))),(9,.b false),(18,.b false)]),(3,[(1,.mem [0,1,2] (aU) [ao o 1 2,af o,ai o])]),(5,[(2,.mem [0,1,2] (aU) [ao o 1 2,af o,ai o])])] 2000 [0,1,2] r (by kernel_rfl) (U h0 (U bd (U h1 (U h2 (U dp (U ((by have k:=e6 o x;rw [h5] at k;exact k):aL Tryz.prog 19 [.pt 0 0,.z x] [ao o 1 2,af o,ai o] (aU) [ao o 1 2,af o,ai o]) trivial))))))
   | true=>
    have b7:=eq_of_beq h2
    refine bB (y:=aZ) (N':=[ao o 1 2,af o,ai o]) ((by unfold Ov.fZ;first | (rw [decide_eq_false (by omega)];rfl) | (rw [decide_eq_true (by omega)];rfl))) (rfl) ?_
    exact bC tk tq hK rfl aB [(1,[(1,.b false),(8,.z (((o.homes.length:Nat):Int))),(9,.b false),(18,.b true)])] 2000 [0,1,2] r (by kernel_rfl) (U h0 (U bd (U h1 (U h2 trivial))))
  | true=>
   have bN:=of_decide_eq_true h1
   refine bB (y:=aZ) (N':=[ao o 1 2,af o,ai o]) ((by unfold Ov.fZ;first | (rw [decide_eq_false (by omega)];rfl) | (rw [decide_eq_true (by omega)];rfl))) (rfl) ?_
   exact bC tk tq hK rfl aB [(1,[(1,.b false),(8,.z (((o.homes.length:Nat):Int))),(9,.b true)])] 2000 [0,1,2] r (by kernel_rfl) (U h0 (U bd (U h1 trivial)))
 | true=>
  have bH:=of_decide_eq_true h0
  refine bB (y:=aZ) (N':=[ao o 1 2,af o,ai o]) ((by unfold Ov.fZ;first | (rw [decide_eq_false (by omega)];rfl) | (rw [decide_eq_true (by omega)];rfl))) (rfl) ?_
  exact bC tk tq hK rfl aB [(1,[(1,.b true)])] 2000 [0,1,2] r (by kernel_rfl) (U h0 trivial)
end Go.Proofs.YtlinpknagdgphaaGreat
namespace Go.Proofs.YtlinpknagdgphaaGreat
open Go.RowKit
structure jx (l:List (Nat×Int×ah)) (ck:Nat):Prop where
 b:(l.map fun e=>e.1).Nodup
 lt:∀ e ∈ l,e.1<ck
 k:(l.map fun e=>e.2.1).Nodup
 e:∀ e ∈ l,e.2.2.node=e.2.1∧1≤e.2.1∧e.2.1≤10∧0<e.2.2.inc∧e.2.2.inc≤34359738367
 len:l.length≤10
def Ov.lk (o:Ov):List ah:=eW (o.ls.map fun e=>e.2.2)
theorem OE {l:List (Nat×Int×ah)} {j b:Nat} {k:MK} {x:DV} (h:(aY l)[j]?=some (b,k,x)):∃ z q,l[j]?=some (b,z,q)∧k=.i .i64 z∧x=.ag [.v (.int .i64 q.node),.v (.int .u64 (q.inc:Int))]:=by
 unfold aY at h
 rw [List.getElem?_map,Option.map_eq_some_iff] at h
 obtain ⟨⟨b',z,q⟩,h1,h2⟩:=h
 simp only [Prod.mk.injEq] at h2
 exact ⟨z,q,by rw [h1,h2.1],h2.2.1.symm,h2.2.2.symm⟩
theorem jf {l:List (Nat×Int×ah)} {j b:Nat} {z:Int} {q:ah} (h:l[j]?=some (b,z,q)):(aY l)[j]?=some (b,.i .i64 z,.ag [.v (.int .i64 q.node),.v (.int .u64 (q.inc:Int))]):=by
 unfold aY;rw [List.getElem?_map,h];rfl
theorem Ni (l:List (Nat×Int×ah)):List.map (fun (e:Nat×MK×DV)=>e.1) (aY l)=l.map fun e=>e.1:=by unfold aY;rw [List.map_map];rfl
theorem PH {l:List (Nat×Int×ah)} {ck:Nat} (h:jx l ck):∀ e ∈ aY l,e.1<ck:=fun e he=>by
 unfold aY at he
 obtain ⟨x,hx,rfl⟩:=List.mem_map.1 he
 exact h.lt x hx
theorem List.pM {α β:Type} {f:α→β}:∀ {l:List α},(l.map f).Nodup→∀ {x y:α},x ∈ l→y ∈ l→f x=f y→x=y
 | [],_,x,y,hx,_,_=>by cases hx
 | a::l,h,x,y,hx,hy,e=>by
  rw [List.map_cons,List.nodup_cons] at h
  rcases List.mem_cons.1 hx with h1 | h1<;>rcases List.mem_cons.1 hy with h2 | h2
  ·rw [h1,h2]
  ·exact absurd (List.mem_map.2 ⟨y,h2,by rw [← e,h1]⟩) h.1
  ·exact absurd (List.mem_map.2 ⟨x,h1,by rw [e,h2]⟩) h.1
  ·exact List.pM h.2 h1 h2 e
structure jJ (l:List (Nat×Int×ah)) (i:Nat) (sn:List Nat) (L:List ah):Prop where
 len:L.length=i
 sl:sn.length=i
 nd:sn.Nodup
 sub:∀ b ∈ sn,b ∈ l.map fun e=>e.1
 mem:∀ q,q ∈ L↔∃ e ∈ l,e.1 ∈ sn∧e.2.2=q
 uo:L.Nodup
theorem jJ.start (l:List (Nat×Int×ah)):jJ l 0 [] []:=⟨rfl,rfl,List.nodup_nil,by simp,by simp,List.nodup_nil⟩
theorem jJ.le {l:List (Nat×Int×ah)} {i:Nat} {sn:List Nat} {L:List ah} (h:jJ l i sn L):i≤l.length:=by
 have:=l6 h.nd h.sub
 rw [h.sl,List.length_map] at this;exact this
theorem jJ.less {l:List (Nat×Int×ah)} {i j b:Nat} {z:Int} {q:ah} {sn:List Nat} {L:List ah} (h:jJ l i sn L) (hj:l[j]?=some (b,z,q)) (hb:b ∉ sn):i<l.length:=by
 have:=l6 (l:=b::sn) (m:=l.map fun e=>e.1) (List.nodup_cons.2 ⟨hb,h.nd⟩) fun x hx=>by
  rcases List.mem_cons.1 hx with rfl | hx
  ·exact List.mem_map.2 ⟨_,List.mem_of_getElem? hj,rfl⟩
  ·exact h.sub x hx
 rw [List.length_map,List.length_cons,h.sl] at this;omega
theorem jJ.next {l:List (Nat×Int×ah)} {ck i j b:Nat} {z:Int} {q:ah} {sn:List Nat} {L:List ah} (ho:jx l ck) (h:jJ l i sn L) (hj:l[j]?=some (b,z,q)) (hb:b ∉ sn):jJ l (i+1) (sn++[b]) (L++[q]):=by
 have hm:(b,z,q) ∈ l:=List.mem_of_getElem? hj
 have one:∀ e ∈ l,e.1=b→e=(b,z,q):=fun e he e1=>by
  have:=List.pM ho.b he hm e1
  exact this
 refine ⟨by rw [List.length_append,h.len];rfl,by rw [List.length_append,h.sl];rfl,?_,?_,?_,?_⟩
 ·rw [List.nodup_append];exact ⟨h.nd,by simp,fun x hx y hy=>by rw [List.mem_singleton] at hy;subst hy;rintro rfl;exact hb hx⟩
 ·intro x hx
  rcases List.mem_append.1 hx with hx | hx
  ·exact h.sub x hx
  ·rw [List.mem_singleton] at hx;subst hx;exact List.mem_map.2 ⟨_,hm,rfl⟩
 ·intro y
  rw [List.mem_append,List.mem_singleton,h.mem]
  constructor
  ·rintro (⟨e,h1,h2,h3⟩ | rfl)
   ·exact ⟨e,h1,List.mem_append_left _ h2,h3⟩
   ·exact ⟨_,hm,by simp,rfl⟩
  ·rintro ⟨e,h1,h2,h3⟩
   rcases List.mem_append.1 h2 with h2 | h2
   ·exact .inl ⟨e,h1,h2,h3⟩
   ·rw [List.mem_singleton] at h2
    right;rw [one e h1 h2] at h3;exact h3.symm
 ·rw [List.nodup_append]
  refine ⟨h.uo,by simp,fun x hx y hy=>?_⟩
  rw [List.mem_singleton] at hy;subst hy
  rintro rfl
  obtain ⟨e,h1,h2,h3⟩:=(h.mem _).1 hx
  have hk:e.2.1=z:=by rw [← (ho.e e h1).1,h3];exact (ho.e _ hm).1
  have:=List.pM ho.k h1 hm hk
  rw [this] at h2;exact hb h2
theorem jJ.end {l:List (Nat×Int×ah)} {i:Nat} {sn:List Nat} {L:List ah} (h:jJ l i sn L) (ha:∀ e ∈ aY l,e.1 ∈ sn):eW L=eW (l.map fun e=>e.2.2):=zp fun q=>by
 rw [h.mem,List.mem_map]
 constructor
 ·rintro ⟨e,h1,-,h3⟩;exact ⟨e,h1,h3⟩
 ·rintro ⟨e,h1,h3⟩
  exact ⟨e,h1,ha (e.1,.i .i64 e.2.1,.ag [.v (.int .i64 e.2.2.node),.v (.int .u64 (e.2.2.inc:Int))]) (by unfold aY;exact List.mem_map.2 ⟨e,h1,rfl⟩),h3⟩
set_option maxRecDepth 100000 in
theorem OF (o:Ov) (h1:1≤o.self.node) (hl:jx o.ls o.ck):aL Tryz.prog 46 [.pt 0 0] [ao o 1 2,af o,ai o] (.d (.ro 2 (procs o.lk))) (ef o):=by
 refine aL.intro (by kernel_rfl) rfl rfl 24 rfl rfl fun D w0 K bs ac wd hK (aB:bs.m=3) r=>?_
 refine b8 (todo':=hd Tryz.f46 0) (E':=[(0,.pt 0 0),(13,.pt 3 0),(3,aj)]) (M':=[ao o 1 2,af o,ai o,.it (some 2) (o.ck) ([]) (o.ck)]) tk tq hK aB [(1,[(1,.mem [0,1,2] (aU) [ao o 1 2,af o,ai o])])] 2000 [0,1,2,3] [0,13,3] r (by kernel_rfl) (U (dr o h1) trivial) fun ac wd r=>?_
 refine aN.rounds (Φ:=fun (i:Nat) ac wd=>∃ sn:List Nat,∃ L:List ah,(jJ o.ls i sn L)∧RB D w0 K 24 bs [(0,.pt 0 0),(13,.pt 3 0),(3,.sl 4 (L.length))] [ao o 1 2,af o,ai o,.it (some 2) (o.ck) (sn) (o.ck),.rw 24 2 (procs L)] ac wd) (o.ls.length) ?_ (Nat.zero_le _) ⟨[],[],(jJ.start o.ls),(r.gW (M1:=[ao o 1 2,af o,ai o,.it (some 2) (o.ck) ([]) (o.ck),.rw 24 2 []]) [(3,24,2)] [] (by kernel_rfl) (by kernel_rfl)).cast rfl rfl⟩
 clear r
 rintro i cI bo ac wd ⟨sn,L,aM,r⟩
 have hle:=aM.le
 have Tk:=aM.len
 have T3:=hl.len
 refine zh (id:=5) (t:=13) (d1:=14) (d2:=15) (ui:=3) (um:=2) (since:=o.ck) (c:=o.ck) (T':=67) (ck:=o.ck) (seen:=sn) (es:=aY o.ls) (k:=aft Tryz.f46 5) (ops:=ops Tryz.f46 5) tk tq hK 1 r (by kernel_rfl) (by kernel_rfl) (by kernel_rfl) ⟨by kernel_rfl,by kernel_rfl⟩ (by kernel_rfl) (by kernel_rfl) (by kernel_rfl) (PH hl) (Nat.le_refl _) (fun Bk ac wd r=>?_) (fun uq pJ Tl Tn rN ur ac wd r=>?_)
 ·
  have nO:=aM.end Bk
  refine bB (y:=.d (.ro 2 (procs (eW L)))) (N':=[ao o 1 2,af o,ai o]) ((by rw [nO];rfl)) (rfl) ?_
  exact bC tk tq hK rfl aB [(8,[(1,.stay [.d (.ro 2 (procs L))] (.ro 2 (procs (eW L))))])] 2000 [0,1,2] r (by kernel_rfl) (U (EM L aM.uo (by omega)) (U (cQ (2)) (U ((by first | rfl | (simp;done) | (simp<;>omega)):(L.length)=(procs L).length) (U ((by simp [jz,ah.row,cT]):cg (procs L)=procs L) trivial))))
 ·
  obtain ⟨z,q,hq,rfl,rfl⟩:=OE rN
  exact b8 (todo':=hd Tryz.f46 0) (E':=[(0,.pt 0 0),(13,.pt 3 0),(3,.sl 4 (L.length+(1)))]) (M':=[ao o 1 2,af o,ai o,.it (some 2) (o.ck) (sn++[pJ]) (o.ck),.rw 24 2 (procs L++[[.z q.node,.u q.inc]])]) tk tq hK aB [(6,[(0,.mk (uq) (.i .i64 (z)) (.ag [.z q.node,.u q.inc]))])] 2000 [0,1,2,3,4] [0,13,3] r (by kernel_rfl) (U (⟨_,_,jf hq,rfl⟩:∃ b0 s0,(aY o.ls:List (Nat×MK×DV))[uq]?=some (b0,.i .i64 (z),.ag [.z q.node,.u q.inc])∧(sn++[pJ]:List Nat)=s0++[b0]) (U ((by rw [Ni];exact hl.b):(List.map (fun (e:Nat×MK×DV)=>e.1) (aY o.ls)).Nodup) (U (rfl:(o.ck:Nat)=o.ck) (U ((by first | rfl | (simp;done) | (simp<;>omega)):(L.length)=(procs L).length) (U ((by first | rfl | (simp;done) | (simp<;>omega)):(1)=([[.z q.node,.u q.inc]]:List (List DV)).length) (U ((by first | omega | (simp;done) | (simp<;>omega)):(2*((L.length)+(1))+0)*16≤281474976710656) (U ((by first | omega | (simp;done) | (simp<;>omega)):(L.length)+(1)<4611686018427387904) (U ((by simp [bA,AV.one,cd]):bA ([[.z q.node,.u q.inc]])) trivial)))))))) fun ac wd r=>bo (aM.less hq ur) ac wd ⟨(sn++[pJ]),(L++[q]),(aM.next hl hq ur),r.cast (by first | rfl | simp) (by first | rfl | simp [procs,ah.row])⟩
end Go.Proofs.YtlinpknagdgphaaGreat
namespace Go.Proofs.YtlinpknagdgphaaGreat
open Go.RowKit
def Ov.ft (o:Ov) (i:Nat):List ah:=(o.lk.take i).filter fun q=>o.cA q.node
def Ov.bs (o:Ov):List ah:=o.lk.filter fun q=>o.cA q.node
theorem PI {o:Ov} {i:Nat} (h:o.lk.length≤i):o.ft i=o.bs:=by unfold Ov.ft Ov.bs;rw [List.take_of_length_le h]
theorem vJ {o:Ov} {i:Nat} {q:ah} (h:o.lk[i]?=some q):o.ft (i+1)=o.ft i++(if o.cA q.node=true then [q] else []):=by
 unfold Ov.ft;rw [List.take_add_one,h,Option.toList_some,List.filter_append]
 congr 1
 cases hb:o.cA q.node<;>simp [hb]
theorem Nj (o:Ov) (i:Nat):(o.ft i).length≤o.lk.length:=Nat.le_trans (List.length_filter_le _ _) (by simp;omega)
theorem GI {o:Ov} (h:jx o.ls o.ck):o.lk.length≤10:=by
 have:=xZ (o.ls.map fun e=>e.2.2) (o.ls.map fun e=>e.2.2).length
 have h2:=h.len
 rw [List.length_map] at this
 unfold Ov.lk eW;rw [List.length_map];omega
def j4 (to:Int) (a:aw):List DV:=[.z to,.z 1,.z 0,.v (.int .u64 0),.z 0,.v (.slice none 0 0),.v (.slice none 0 0),.z a.server.node,.u a.server.inc,.u a.seq,.em 24 2 (procs a.ay)]
def dB (to:Int) (l:List aw):List (List DV):=l.map (j4 to)
theorem JB {to:Int} {l:List aw} {i:Nat} {a:aw} (h:l[i]?=some a):dB to (l.take (i+1))=dB to (l.take i)++[j4 to a]:=by
 unfold dB;rw [List.take_add_one,h];simp
theorem iL (to:Int) (l:List aw):(dB to l).length=l.length:=by unfold dB;rw [List.length_map]
set_option maxRecDepth 100000 in
theorem yN (o:Ov) (h1:1≤o.self.node) (hl:jx o.ls o.ck):aL Tryz.prog 29 [.pt 0 0] [ao o 1 2,af o,ai o] (.d (.ro 2 (procs o.bs))) (ef o):=by
 refine aL.intro (by kernel_rfl) rfl rfl 23 rfl rfl fun D w0 K bs ac wd hK (aB:bs.m=3) r=>?_
 refine b8 (todo':=hd Tryz.f29 0) (E':=[(0,.pt 0 0),(7,.d (.ro 2 (procs o.lk))),(8,.n o.lk.length),(9,.z 0),(3,aj)]) (M':=[ao o 1 2,af o,ai o]) tk tq hK aB [(2,[(1,.mem [0,1,2] (.d (.ro 2 (procs o.lk))) [ao o 1 2,af o,ai o]),(2,.z (((o.lk.length:Nat):Int)))])] 2000 [0,1,2] [0,7,8,9,3] r (by kernel_rfl) (U (OF o h1 hl) (U ((by first | rfl | (simp;done)):(((procs o.lk).length:Nat):Int)=((o.lk.length:Nat):Int)) trivial)) fun ac wd r=>?_
 refine aN.rounds (Φ:=fun (i:Nat) ac wd=>(i≤o.lk.length)∧RB D w0 K 23 bs [(0,.pt 0 0),(7,.d (.ro 2 (procs o.lk))),(8,.n o.lk.length),(9,.n i),(3,.sl 3 ((o.ft i).length))] [ao o 1 2,af o,ai o,.rw 24 2 (procs (o.ft i))] ac wd) (o.lk.length) ?_ (Nat.zero_le _) ⟨(Nat.zero_le _),(r.gW (M1:=[ao o 1 2,af o,ai o,.rw 24 2 []]) [(3,24,2)] [] (by kernel_rfl) (by kernel_rfl)).cast rfl rfl⟩
 clear r
 rintro i cI bo ac wd ⟨aM,r⟩
 have UA:=GI hl
 have lb:=Nj o i
 cases h0:(decide ((((i:Nat):Int):Int)<((o.lk.length:Nat):Int))) with
 | false=>
  have bH:=of_decide_eq_false h0
  refine ch (todo':=aft Tryz.f29 8) (E':=[(2,.sl 3 ((o.ft i).length))]) (M':=[ao o 1 2,af o,ai o,.rw 24 2 (procs (o.ft i))]) tk tq hK aB [(3,[(0,.b false)])] 7 [0,1,2,3] [2] r (by kernel_rfl) (U h0 trivial) fun ac wd r=>?_
  have r:=r.stay (p1:=[((o.ft i).length)=(procs (o.ft i)).length]) (p2:=[]) (E1:=[(2,.d (.ro 2 (cg (procs (o.ft i)))))]) (M1:=[ao o 1 2,af o,ai o,.dead]) (M2:=[ao o 1 2,af o,ai o,.dead]) (E2:=[(2,.d (.ro 2 (procs o.bs)))]) (M3:=[ao o 1 2,af o,ai o,.dead]) [2] [] (by kernel_rfl) (by kernel_rfl) (U ((by first | rfl | (simp;done) | (simp<;>omega)):((o.ft i).length)=(procs (o.ft i)).length) trivial) trivial (by rw [PI (i:=i) (by omega)];simp [jz,ah.row,cT]) rfl
  refine bB (y:=.d (.ro 2 (procs o.bs))) (N':=[ao o 1 2,af o,ai o]) (rfl) (rfl) ?_
  exact bC tk tq hK rfl aB [] 2000 [0,1,2] r (by kernel_rfl) trivial
 | true=>
  have bH:=of_decide_eq_true h0
  obtain ⟨iN,pW⟩:∃ x,o.lk[i]?=some x:=⟨_,List.getElem?_eq_getElem (by omega)⟩
  cases h1:(o.cA iN.node) with
  | false=>
   exact b8 (todo':=hd Tryz.f29 0) (E':=[(0,.pt 0 0),(7,.d (.ro 2 (procs o.lk))),(8,.n o.lk.length),(9,.n (i+1)),(3,.sl 3 ((o.ft i).length))]) (M':=[ao o 1 2,af o,ai o,.rw 24 2 (procs (o.ft i))]) tk tq hK aB [(3,[(0,.b true)]),(4,[(0,.ix (i) [.z iN.node,.u iN.inc])]),(5,[(3,.mem [0,1,2] (aZ) [ao o 1 2,af o,ai o])]),(7,[(0,.z (((i+1:Nat):Int)))])] 2000 [0,1,2,3] [0,7,8,9,3] r (by kernel_rfl) (U h0 (U (aX ((i:Nat):Int)) (U (cK pW) (U ((by have k:=e6 o iN.node;rw [h1] at k;exact k):aL Tryz.prog 19 [.pt 0 0,.z iN.node] [ao o 1 2,af o,ai o] (aZ) [ao o 1 2,af o,ai o]) (U ((wi (by omega)):IntKind.i64.wrap ((((i:Nat):Int):Int)+1)=((i+1:Nat):Int)) trivial))))) fun ac wd r=>bo (by omega) ac wd ⟨(by omega),r.cast (by rw [vJ pW,h1];simp) (by rw [vJ pW,h1];simp [procs,ah.row])⟩
  | true=>
   exact b8 (todo':=hd Tryz.f29 0) (E':=[(0,.pt 0 0),(7,.d (.ro 2 (procs o.lk))),(8,.n o.lk.length),(9,.n (i+1)),(3,.sl 3 ((o.ft i).length+(1)))]) (M':=[ao o 1 2,af o,ai o,.rw 24 2 (procs (o.ft i)++[[.z iN.node,.u iN.inc]])]) tk tq hK aB [(3,[(0,.b true)]),(4,[(0,.ix (i) [.z iN.node,.u iN.inc])]),(5,[(3,.mem [0,1,2] (aU) [ao o 1 2,af o,ai o])]),(7,[(0,.z (((i+1:Nat):Int)))])] 2000 [0,1,2,3] [0,7,8,9,3] r (by kernel_rfl) (U h0 (U (aX ((i:Nat):Int)) (U (cK pW) (U ((by have k:=e6 o iN.node;rw [h1] at k;exact k):aL Tryz.prog 19 [.pt 0 0,.z iN.node] [ao o 1 2,af o,ai o] (aU) [ao o 1 2,af o,ai o]) (U ((by first | rfl | (simp;done) | (simp<;>omega)):((o.ft i).length)=(procs (o.ft i)).length) (U ((by first | rfl | (simp;done) | (simp<;>omega)):(1)=([[.z iN.node,.u iN.inc]]:List (List DV)).length) (U ((by first | omega | (simp;done) | (simp<;>omega)):(2*(((o.ft i).length)+(1))+0)*16≤281474976710656) (U ((by first | omega | (simp;done) | (simp<;>omega)):((o.ft i).length)+(1)<4611686018427387904) (U ((by simp [bA,AV.one,cd]):bA ([[.z iN.node,.u iN.inc]])) (U ((wi (by omega)):IntKind.i64.wrap ((((i:Nat):Int):Int)+1)=((i+1:Nat):Int)) trivial)))))))))) fun ac wd r=>bo (by omega) ac wd ⟨(by omega),r.cast (by rw [vJ pW,h1];simp) (by rw [vJ pW,h1];simp [procs,ah.row])⟩
set_option maxRecDepth 100000 in
theorem zt (to:Int) (a:aw) (hp:a.ay.length≤1073741823):aD Tryz.prog 30 [.z to,.ag [.z a.server.node,.u a.server.inc,.u a.seq,.d (.ro 2 (procs a.ay))]] (DV.ag (j4 to a)):=by
 refine aD.intro (by kernel_rfl) rfl rfl 13 rfl rfl fun w0 K ac hK r=>?_
 rw [show (DV.ag (j4 to a):DV)=.ag [.z to,.z 1,.z 0,.v (.int .u64 0),.z 0,.v (.slice none 0 0),.v (.slice none 0 0),.z a.server.node,.u a.server.inc,.u a.seq,.em 24 2 (procs a.ay)] from rfl]
 exact aQ tk tq hK rfl [(1,[(2,.aJ (.em 24 2 (procs a.ay)))])] 2000 r (by kernel_rfl) (U (xG a.ay (by omega)) (U (cQ ((procs a.ay).length)) trivial))
set_option maxRecDepth 100000 in
theorem G8 (o:Ov) (to:Int) (hb:o.book.length≤100) (hp:∀ a ∈ o.book,a.ay.length≤100):aL Tryz.prog 31 [.pt 0 0,.z to] [ao o 1 2,af o,ai o] (.sl 3 (dB to o.book).length) (ef o++[.rw 60 11 (dB to o.book)]):=by
 refine aL.intro (by kernel_rfl) rfl rfl 25 rfl rfl fun D w0 K bs ac wd hK (aB:bs.m=3) r=>?_
 refine b8 (todo':=hd Tryz.f31 0) (E':=[(0,.pt 0 0),(1,.z to),(11,.sl 1 (o.book.length)),(12,.n o.book.length),(13,.z 0),(5,aj)]) (M':=[ao o 1 2,af o,ai o]) tk tq hK aB [] 2000 [0,1,2] [0,1,11,12,13,5] r (by kernel_rfl) trivial fun ac wd r=>?_
 refine aN.rounds (Φ:=fun (i:Nat) ac wd=>(i≤o.book.length)∧RB D w0 K 25 bs [(0,.pt 0 0),(1,.z to),(11,.sl 1 (o.book.length)),(12,.n o.book.length),(13,.n i),(5,.sl 3 (i))] [ao o 1 2,af o,ai o,.rw 60 11 (dB to (o.book.take i))] ac wd) (o.book.length) ?_ (Nat.zero_le _) ⟨(Nat.zero_le _),(r.gW (M1:=[ao o 1 2,af o,ai o,.rw 60 11 []]) [(5,60,11)] [] (by kernel_rfl) (by kernel_rfl)).cast rfl rfl⟩
 clear r
 rintro i cI bo ac wd ⟨aM,r⟩
 cases h0:(decide ((((i:Nat):Int):Int)<((o.book.length:Nat):Int))) with
 | false=>
  have bH:=of_decide_eq_false h0
  refine bB (y:=.sl 3 (i)) (N':=[ao o 1 2,af o,ai o,.rw 60 11 (dB to (o.book.take i))]) ((by rw [iL,show i=o.book.length by omega])) ((by rw [List.take_of_length_le (by omega)];rfl)) ?_
  exact bC tk tq hK rfl aB [(3,[(0,.b false)])] 2000 [0,1,2,3] r (by kernel_rfl) (U h0 trivial)
 | true=>
  have bH:=of_decide_eq_true h0
  obtain ⟨cR,m6⟩:∃ x,o.book[i]?=some x:=⟨_,List.getElem?_eq_getElem (by omega)⟩
  have uu:=hp _ (List.mem_of_getElem? m6)
  exact b8 (todo':=hd Tryz.f31 0) (E':=[(0,.pt 0 0),(1,.z to),(11,.sl 1 (o.book.length)),(12,.n o.book.length),(13,.n (i+1)),(5,.sl 3 (i+(1)))]) (M':=[ao o 1 2,af o,ai o,.rw 60 11 (dB to (o.book.take i)++[[.z to,.z 1,.z 0,.v (.int .u64 0),.z 0,.v (.slice none 0 0),.v (.slice none 0 0),.z cR.server.node,.u cR.server.inc,.u cR.seq,.em 24 2 (procs cR.ay)]])]) tk tq hK aB [(3,[(0,.b true)]),(4,[(0,.n (i)),(1,.ix 0 [.z cR.server.node,.u cR.server.inc,.u cR.seq,.ro 2 (procs cR.ay)])]),(5,[(3,.aJ (.ag [.z to,.z 1,.z 0,.v (.int .u64 0),.z 0,.v (.slice none 0 0),.v (.slice none 0 0),.z cR.server.node,.u cR.server.inc,.u cR.seq,.em 24 2 (procs cR.ay)]))]),(6,[(0,.z (((i+1:Nat):Int)))])] 2000 [0,1,2,3] [0,1,11,12,13,5] r (by kernel_rfl) (U h0 (U (aX ((i:Nat):Int)) (U ((by first | omega | decide | (simp;omega)):(i)<(o.book.length)) (U ((by first | rfl | (simp [iL];done) | (simp [iL]<;>omega)):(o.book.length)≤(aI o.book).length) (U (eC m6) (U (zt to cR (by omega)) (U (cQ ((procs cR.ay).length)) (U ((by first | rfl | (simp [iL];done) | (simp [iL]<;>omega)):(i)=(dB to (o.book.take i):List (List DV)).length) (U ((by first | rfl | (simp [iL];done) | (simp [iL]<;>omega)):(1)=([[.z to,.z 1,.z 0,.v (.int .u64 0),.z 0,.v (.slice none 0 0),.v (.slice none 0 0),.z cR.server.node,.u cR.server.inc,.u cR.seq,.em 24 2 (procs cR.ay)]]:List (List DV)).length) (U ((by first | omega | (simp;done) | (simp<;>omega)):(2*((i)+(1))+0)*136≤281474976710656) (U ((by first | omega | (simp;done) | (simp<;>omega)):(i)+(1)<4611686018427387904) (U ((by simp [bA,AV.one,cd]):bA ([[.z to,.z 1,.z 0,.v (.int .u64 0),.z 0,.v (.slice none 0 0),.v (.slice none 0 0),.z cR.server.node,.u cR.server.inc,.u cR.seq,.em 24 2 (procs cR.ay)]])) (U ((wi (by omega)):IntKind.i64.wrap ((((i:Nat):Int):Int)+1)=((i+1:Nat):Int)) trivial))))))))))))) fun ac wd r=>bo (by omega) ac wd ⟨(by omega),r.cast rfl (by rw [JB m6];rfl)⟩
end Go.Proofs.YtlinpknagdgphaaGreat
namespace Go.Proofs.YtlinpknagdgphaaGreat
open Go.RowKit
def Ov.own (o:Ov):Nat:=o.book.findIdx fun a=>decide (a.server=o.self)
theorem OG {o:Ov} {i:Nat} {a:aw} (g:o.book[i]?=some a) (h:a.server=o.self) (hb:∀ (j:Nat) x,j<i→o.book[j]?=some x→x.server≠o.self):o.own=i:=by
 obtain ⟨h1,h2⟩:=List.getElem?_eq_some_iff.1 g
 unfold Ov.own
 rw [List.findIdx_eq h1]
 refine ⟨by rw [h2];simpa using h,fun j hj=>?_⟩
 have:=hb j _ hj (List.getElem?_eq_getElem (by omega))
 simpa using this
theorem sC {o:Ov} (h:o.own<o.book.length):∃ a,o.book[o.own]?=some a∧a.server=o.self:=by
 have h1:=List.findIdx_getElem (p:=fun a:aw=>decide (a.server=o.self)) (xs:=o.book) (w:=h)
 exact ⟨_,List.getElem?_eq_getElem h,of_decide_eq_true h1⟩
theorem PJ {o:Ov} (h:o.own<o.book.length) (hb:∀ (j:Nat) x,j<o.book.length→o.book[j]?=some x→x.server≠o.self):False:=by
 obtain ⟨a,h1,h2⟩:=sC h
 exact hb _ _ h h1 h2
set_option maxRecDepth 100000 in
theorem G9 (o:Ov) (a:aw):aL Tryz.prog 35 [.ag [.z a.server.node,.u a.server.inc,.u a.seq,.d (.ro 2 (procs a.ay))],.pt 3 0] [ao o 1 2,af o,ai o,.bx 38 [.pt 0 0]] (.d (.v (.bool (decide (a.server=o.self))))) (ef o++[.bx 38 [.pt 0 0]]):=by
 refine aL.intro (by kernel_rfl) rfl rfl 11 rfl rfl fun D w0 K bs ac wd hK (aB:bs.m=4) r=>?_
 cases h0:(decide (a.server=o.self)) with
 | false=>
  have bH:=of_decide_eq_false h0
  refine bB (y:=aZ) (N':=[ao o 1 2,af o,ai o,.bx 38 [.pt 0 0]]) (rfl) (rfl) ?_
  exact bC tk tq hK rfl aB [(1,[(6,.b false)])] 2000 [0,1,2,3] r (by kernel_rfl) (U ((ez (eN _ _) h0):dK Tryz.prog 24 [(.int .i64 (a.server.node)),(.int .u64 (((a.server.inc:Nat):Int)))] [(.int .i64 (o.self.node)),(.int .u64 (((o.self.inc:Nat):Int)))] false) trivial)
 | true=>
  have bH:=of_decide_eq_true h0
  refine bB (y:=aU) (N':=[ao o 1 2,af o,ai o,.bx 38 [.pt 0 0]]) (rfl) (rfl) ?_
  exact bC tk tq hK rfl aB [(1,[(6,.b true)])] 2000 [0,1,2,3] r (by kernel_rfl) (U ((ez (eN _ _) h0):dK Tryz.prog 24 [(.int .i64 (a.server.node)),(.int .u64 (((a.server.inc:Nat):Int)))] [(.int .i64 (o.self.node)),(.int .u64 (((o.self.inc:Nat):Int)))] true) trivial)
set_option maxRecDepth 100000 in
theorem Nk (o:Ov) (h:o.own<o.book.length) (hb:o.book.length≤100):aL Tryz.prog 34 [.sl 1 (o.book.length),.fn 35 [.pt 3 0]] [ao o 1 2,af o,ai o,.bx 38 [.pt 0 0]] (.n o.own) (ef o++[.bx 38 [.pt 0 0]]):=by
 refine aL.intro (by kernel_rfl) rfl rfl 19 rfl rfl fun D w0 K bs ac wd hK (aB:bs.m=4) r=>?_
 refine b8 (todo':=hd Tryz.f34 0) (E':=[(0,.sl 1 (o.book.length)),(1,.fn 35 [.pt 3 0]),(7,.n o.book.length),(8,.z 0)]) (M':=[ao o 1 2,af o,ai o,.bx 38 [.pt 0 0]]) tk tq hK aB [] 2000 [0,1,2,3] [0,1,7,8] r (by kernel_rfl) trivial fun ac wd r=>?_
 refine aN.rounds (Φ:=fun (i:Nat) ac wd=>(i≤o.book.length∧∀ (j:Nat) x,j<i→o.book[j]?=some x→x.server≠o.self)∧RB D w0 K 19 bs [(0,.sl 1 (o.book.length)),(1,.fn 35 [.pt 3 0]),(7,.n o.book.length),(8,.n i)] [ao o 1 2,af o,ai o,.bx 38 [.pt 0 0]] ac wd) (o.book.length) ?_ (Nat.zero_le _) ⟨⟨Nat.zero_le _,fun j x h=>absurd h (Nat.not_lt_zero _)⟩,(r).cast rfl rfl⟩
 clear r
 rintro i cI bo ac wd ⟨aM,r⟩
 cases h0:(decide ((((i:Nat):Int):Int)<((o.book.length:Nat):Int))) with
 | false=>
  have bH:=of_decide_eq_false h0
  exact absurd (PJ h fun j x hj=>aM.2 j x (by omega)) (by simp)
 | true=>
  have bH:=of_decide_eq_true h0
  obtain ⟨cR,m6⟩:∃ x,o.book[i]?=some x:=⟨_,List.getElem?_eq_getElem (by omega)⟩
  have bd:=((by first | rfl | (simp;done) | (simp<;>omega)):(o.book.length)≤(aI o.book).length)
  cases h1:(decide (cR.server=o.self)) with
  | false=>
   have bN:=of_decide_eq_false h1
   exact b8 (todo':=hd Tryz.f34 0) (E':=[(0,.sl 1 (o.book.length)),(1,.fn 35 [.pt 3 0]),(7,.n o.book.length),(8,.n (i+1))]) (M':=[ao o 1 2,af o,ai o,.bx 38 [.pt 0 0]]) tk tq hK aB [(2,[(0,.b true)]),(4,[(3,.n (i)),(4,.ix 0 [.z cR.server.node,.u cR.server.inc,.u cR.seq,.ro 2 (procs cR.ay)]),(5,.mem [0,1,2,3] (aZ) [ao o 1 2,af o,ai o,.bx 38 [.pt 0 0]])]),(6,[(0,.z (((i+1:Nat):Int)))])] 2000 [0,1,2,3] [0,1,7,8] r (by kernel_rfl) (U h0 (U (aX ((i:Nat):Int)) (U ((by first | omega | decide | (simp;omega)):(i)<(o.book.length)) (U bd (U (eC m6) (U ((by have k:=G9 o cR;rw [h1] at k;exact k):aL Tryz.prog 35 [.ag [.z cR.server.node,.u cR.server.inc,.u cR.seq,.d (.ro 2 (procs cR.ay))],.pt 3 0] [ao o 1 2,af o,ai o,.bx 38 [.pt 0 0]] (aZ) [ao o 1 2,af o,ai o,.bx 38 [.pt 0 0]]) (U ((wi (by omega)):IntKind.i64.wrap ((((i:Nat):Int):Int)+1)=((i+1:Nat):Int)) trivial))))))) fun ac wd r=>bo (by omega) ac wd ⟨⟨by omega,fun j x hj hx=>by rcases Nat.lt_succ_iff_lt_or_eq.1 hj with h | rfl;exact aM.2 j x h hx;rw [m6] at hx;cases hx;exact of_decide_eq_false (by assumption)⟩,r.cast rfl rfl⟩
  | true=>
   have bN:=of_decide_eq_true h1
   refine bB (y:=.n i) (N':=[ao o 1 2,af o,ai o,.bx 38 [.pt 0 0]]) ((by rw [OG m6 (of_decide_eq_true (by assumption)) aM.2])) (rfl) ?_
   exact bC tk tq hK rfl aB [(2,[(0,.b true)]),(4,[(3,.n (i)),(4,.ix 0 [.z cR.server.node,.u cR.server.inc,.u cR.seq,.ro 2 (procs cR.ay)]),(5,.mem [0,1,2,3] (aU) [ao o 1 2,af o,ai o,.bx 38 [.pt 0 0]])])] 2000 [0,1,2,3] r (by kernel_rfl) (U h0 (U (aX ((i:Nat):Int)) (U ((by first | omega | decide | (simp;omega)):(i)<(o.book.length)) (U bd (U (eC m6) (U ((by have k:=G9 o cR;rw [h1] at k;exact k):aL Tryz.prog 35 [.ag [.z cR.server.node,.u cR.server.inc,.u cR.seq,.d (.ro 2 (procs cR.ay))],.pt 3 0] [ao o 1 2,af o,ai o,.bx 38 [.pt 0 0]] (aU) [ao o 1 2,af o,ai o,.bx 38 [.pt 0 0]]) trivial))))))
def Ov.ad (o:Ov):aw:=⟨o.self,((o.book[o.own]?.map aw.seq).getD 0+1)%18446744073709551616,o.bs⟩
def Ov.nw (o:Ov):Ov:={ o with book:=o.book.set o.own o.ad }
theorem v5 (o:Ov):o.nw.book.length=o.book.length:=by unfold Ov.nw;simp
theorem j8 (to:Int) (l:List aw):bA (dB to l):=by
 unfold bA;rw [List.all_eq_true];intro r hr
 unfold dB at hr;obtain ⟨a,-,rfl⟩:=List.mem_map.1 hr;rfl
def br (o:Ov) (z:Int) (l:List ah):List (List DV):=l.flatMap fun q=>if q.node=z then dB q.node o.nw.book else [j4 q.node o.ad]
theorem vK {o:Ov} {z:Int} {l:List ah} {i:Nat} {q:ah} (h:l[i]?=some q):br o z (l.take (i+1))=br o z (l.take i)++(if q.node=z then dB q.node o.nw.book else [j4 q.node o.ad]):=by
 unfold br;rw [List.take_add_one,h];simp
theorem fp {o:Ov} {z:Int} (hb:o.book.length≤100):∀ l:List ah,(br o z l).length≤101*l.length
 | []=>by simp [br]
 | q::l=>by
  have:=fp (z:=z) hb l
  unfold br at this ⊢
  rw [List.flatMap_cons,List.length_append,List.length_cons]
  split
  ·rw [iL,v5];omega
  ·simp only [List.length_cons,List.length_nil];omega
theorem Ha {o:Ov} (h:o.own<o.book.length):o.nw.book[o.own]?=some o.ad:=by unfold Ov.nw;exact List.getElem?_set_self h
theorem JC (l:List aw) (i:Nat) (a:aw):(aI l).set i [.z a.server.node,.u a.server.inc,.u a.seq,.ro 2 (procs a.ay)]=aI (l.set i a):=by unfold aI;rw [List.map_set];rfl
theorem QT (x:Nat):IntKind.u64.wrap ((x:Int)+1)=(((x+1)%18446744073709551616:Nat):Int):=by
 simp [IntKind.wrap,IntKind.signed,IntKind.bits]
theorem Jq {o:Ov} {eo:aw} (hs:eo.server=o.self) (g:o.book[o.own]?=some eo):(aI o.book).set o.own [.z o.self.node,.u o.self.inc,.u (((eo.seq+1)%18446744073709551616)),.ro 2 (procs o.bs)]=aI (o.book.set o.own o.ad):=by
 rw [← JC];unfold Ov.ad;rw [g];rfl
set_option maxRecDepth 100000 in
theorem PK (o:Ov) (h1:1≤o.self.node) (hl:jx o.ls o.ck) (h:o.own<o.book.length) (hb:o.book.length≤100) (hp:∀ a ∈ o.book,a.ay.length≤100) (eo:aw) (kH:o.book[o.own]?=some eo) (ho:eo.server=o.self) (kY:o.ad.ay.length≤1073741823) (To:o.nw.book.length≤100) (Tp:∀ a ∈ o.nw.book,a.ay.length≤100) (lX:o.bs.length≤10) (z:Int):aL Tryz.prog 24 [.pt 0 0,.z z] [ao o 1 2,af o,ai o] (.sl 3 (br o z o.bs).length) (ef o.nw++[.rw 60 11 (br o z o.bs)]):=by
 refine aL.intro (by kernel_rfl) rfl rfl 70 rfl rfl fun D w0 K bs ac wd hK (aB:bs.m=3) r=>?_
 refine ch (todo':=aft Tryz.f24 3) (E':=[(1,.z z),(2,.pt 3 0),(4,aj),(5,.d (.ro 2 (procs o.bs))),(6,.n o.own)]) (M':=[ao o 1 2,.rw 31 4 (List.set (aI o.book) (o.own) [.z o.self.node,.u o.self.inc,.u (((eo.seq+1)%18446744073709551616)),.ro 2 (procs o.bs)]),ai o,.bx 38 [.pt 0 0]]) tk tq hK aB [(1,[(1,.mem [0,1,2] (.d (.ro 2 (procs o.bs))) [ao o 1 2,af o,ai o])]),(2,[(5,.mem [0,1,2,3] (.n o.own) [ao o 1 2,af o,ai o,.bx 38 [.pt 0 0]])]),(3,[(14,.n (o.own)),(16,.ix 0 [.z eo.server.node,.u eo.server.inc,.u eo.seq,.ro 2 (procs eo.ay)]),(17,.z (((((eo.seq+1)%18446744073709551616):Nat):Int))),(20,.n (o.own)),(21,.ix 0 [.z eo.server.node,.u eo.server.inc,.u eo.seq,.ro 2 (procs eo.ay)])])] 8 [0,1,2,3] [1,2,4,5,6] r (by kernel_rfl) (U (yN o h1 hl) (U (Nk o h hb) (U (aX ((o.own:Nat):Int)) (U ((by first | omega | decide | (simp;omega)):(o.own)<(o.book.length)) (U ((by first | rfl | (simp [Ov.nw];done) | (simp;done) | (simp;omega)):(o.book.length)≤(aI o.book).length) (U (eC kH) (U ((QT _):IntKind.u64.wrap ((((eo.seq:Nat):Int):Int)+1)=((((eo.seq+1)%18446744073709551616):Nat):Int)) (U (aX ((o.own:Nat):Int)) (U ((by first | omega | decide | (simp;omega)):(o.own)<(o.book.length)) (U ((by first | rfl | (simp [Ov.nw];done) | (simp;done) | (simp;omega)):(o.book.length)≤(aI o.book).length) (U (eC kH) trivial))))))))))) fun ac wd r=>?_
 have r:=r.cast (M':=[ao o.nw 1 2,af o.nw,ai o.nw,.bx 38 [.pt 0 0]]) rfl (by rw [Jq ho kH];simp only [ao,v5];rfl)
 refine b8 (todo':=hd Tryz.f24 0) (E':=[(1,.z z),(2,.pt 3 0),(6,.n o.own),(39,.d (.ro 2 (procs o.bs))),(40,.n o.bs.length),(41,.z 0),(7,aj)]) (M':=[ao o.nw 1 2,af o.nw,ai o.nw,.bx 38 [.pt 0 0]]) tk tq hK aB [(5,[(1,.z (((o.bs.length:Nat):Int)))])] 2000 [0,1,2,3] [1,2,6,39,40,41,7] r (by kernel_rfl) (U ((by first | rfl | (simp;done)):(((procs o.bs).length:Nat):Int)=((o.bs.length:Nat):Int)) trivial) fun ac wd r=>?_
 refine aN.rounds (Φ:=fun (i:Nat) ac wd=>(i≤o.bs.length)∧RB D w0 K 70 bs [(1,.z z),(2,.pt 3 0),(6,.n o.own),(39,.d (.ro 2 (procs o.bs))),(40,.n o.bs.length),(41,.n i),(7,.sl 4 ((br o z (o.bs.take i)).length))] [ao o.nw 1 2,af o.nw,ai o.nw,.bx 38 [.pt 0 0],.rw 60 11 (br o z (o.bs.take i))] ac wd) (o.bs.length) ?_ (Nat.zero_le _) ⟨(Nat.zero_le _),(r.gW (M1:=[ao o.nw 1 2,af o.nw,ai o.nw,.bx 38 [.pt 0 0],.rw 60 11 []]) [(7,60,11)] [] (by kernel_rfl) (by kernel_rfl)).cast rfl rfl⟩
 clear r
 rintro i cI bo ac wd ⟨aM,r⟩
 have Ca:=v5 o
 have dT:=fp (o:=o) (z:=z) hb (o.bs.take i)
 have UB:(o.bs.take i).length≤10:=by simp;omega
 cases h0:(decide ((((i:Nat):Int):Int)<((o.bs.length:Nat):Int))) with
 | false=>
  have bH:=of_decide_eq_false h0
  refine bB (y:=.sl 3 ((br o z (o.bs.take i)).length)) (N':=[ao o.nw 1 2,af o.nw,ai o.nw,.rw 60 11 (br o z (o.bs.take i))]) ((by rw [List.take_of_length_le (by omega)])) ((by rw [List.take_of_length_le (by omega)];rfl)) ?_
  exact bC tk tq hK rfl aB [(6,[(0,.b false)])] 2000 [0,1,2,4] r (by kernel_rfl) (U h0 trivial)
 | true=>
  have bH:=of_decide_eq_true h0
  obtain ⟨dz,l7⟩:∃ x,o.bs[i]?=some x:=⟨_,List.getElem?_eq_getElem (by omega)⟩
  cases h1:((dz.node:Int)==z) with
  | false=>
   have bN:=ne_of_beq_false h1
   exact b8 (todo':=hd Tryz.f24 0) (E':=[(1,.z z),(2,.pt 3 0),(6,.n o.own),(39,.d (.ro 2 (procs o.bs))),(40,.n o.bs.length),(41,.n (i+1)),(7,.sl 4 ((br o z (o.bs.take i)).length+(1)))]) (M':=[ao o.nw 1 2,af o.nw,ai o.nw,.bx 38 [.pt 0 0],.rw 60 11 (br o z (o.bs.take i)++[[.z dz.node,.z 1,.z 0,.v (.int .u64 0),.z 0,.v (.slice none 0 0),.v (.slice none 0 0),.z o.ad.server.node,.u o.ad.server.inc,.u o.ad.seq,.em 24 2 (procs o.ad.ay)]])]) tk tq hK aB [(6,[(0,.b true)]),(7,[(0,.ix (i) [.z dz.node,.u dz.inc])]),(8,[(3,.b false)]),(10,[(8,.n (o.own)),(9,.ix 0 [.z o.ad.server.node,.u o.ad.server.inc,.u o.ad.seq,.ro 2 (procs o.ad.ay)]),(10,.aJ (.ag [.z dz.node,.z 1,.z 0,.v (.int .u64 0),.z 0,.v (.slice none 0 0),.v (.slice none 0 0),.z o.ad.server.node,.u o.ad.server.inc,.u o.ad.seq,.em 24 2 (procs o.ad.ay)]))]),(11,[(0,.z (((i+1:Nat):Int)))])] 2000 [0,1,2,3,4] [1,2,6,39,40,41,7] r (by kernel_rfl) (U h0 (U (aX ((i:Nat):Int)) (U (cK l7) (U h1 (U (aX ((o.own:Nat):Int)) (U ((by first | omega | decide | (simp;omega)):(o.own)<(o.nw.book.length)) (U ((by first | rfl | (simp [Ov.nw];done) | (simp;done) | (simp;omega)):(o.nw.book.length)≤(aI o.nw.book).length) (U (eC (Ha h):(aI o.nw.book)[o.own]?=some [.z o.ad.server.node,.u o.ad.server.inc,.u o.ad.seq,.ro 2 (procs o.ad.ay)]) (U (zt dz.node o.ad kY) (U (cQ ((procs o.ad.ay).length)) (U ((by first | rfl | (simp [Ov.nw];done) | (simp;done) | (simp;omega)):((br o z (o.bs.take i)).length)=(br o z (o.bs.take i):List (List DV)).length) (U ((by first | rfl | (simp [Ov.nw];done) | (simp;done) | (simp;omega)):(1)=([[.z dz.node,.z 1,.z 0,.v (.int .u64 0),.z 0,.v (.slice none 0 0),.v (.slice none 0 0),.z o.ad.server.node,.u o.ad.server.inc,.u o.ad.seq,.em 24 2 (procs o.ad.ay)]]:List (List DV)).length) (U ((by first | omega | (have:=fp (o:=o) (z:=z) hb (o.bs.take i);simp [iL] at *;omega)):(2*(((br o z (o.bs.take i)).length)+(1))+0)*136≤281474976710656) (U ((by first | omega | (have:=fp (o:=o) (z:=z) hb (o.bs.take i);simp [iL] at *;omega)):((br o z (o.bs.take i)).length)+(1)<4611686018427387904) (U ((by first | exact j8 _ _ | simp [bA,AV.one,cd]):bA ([[.z dz.node,.z 1,.z 0,.v (.int .u64 0),.z 0,.v (.slice none 0 0),.v (.slice none 0 0),.z o.ad.server.node,.u o.ad.server.inc,.u o.ad.seq,.em 24 2 (procs o.ad.ay)]])) (U ((wi (by omega)):IntKind.i64.wrap ((((i:Nat):Int):Int)+1)=((i+1:Nat):Int)) trivial)))))))))))))))) fun ac wd r=>bo (by omega) ac wd ⟨(by omega),r.cast (by rw [vK l7];first | (rw [if_pos (by omega)];simp;done) | (rw [if_neg (by omega)];simp;done)) (by rw [vK l7];first | (rw [if_pos (by omega)];done) | (rw [if_neg (by omega)];rfl))⟩
  | true=>
   have bN:=eq_of_beq h1
   exact b8 (todo':=hd Tryz.f24 0) (E':=[(1,.z z),(2,.pt 3 0),(6,.n o.own),(39,.d (.ro 2 (procs o.bs))),(40,.n o.bs.length),(41,.n (i+1)),(7,.sl 4 ((br o z (o.bs.take i)).length+((dB dz.node o.nw.book).length)))]) (M':=[ao o.nw 1 2,af o.nw,ai o.nw,.bx 38 [.pt 0 0],.rw 60 11 (br o z (o.bs.take i)++(dB dz.node o.nw.book))]) tk tq hK aB [(6,[(0,.b true)]),(7,[(0,.ix (i) [.z dz.node,.u dz.inc])]),(8,[(3,.b true)]),(9,[(4,.mem [0,1,2] (.sl 3 ((dB dz.node o.nw.book).length)) [ao o.nw 1 2,af o.nw,ai o.nw,.rw 60 11 (dB dz.node o.nw.book)])]),(11,[(0,.z (((i+1:Nat):Int)))])] 2000 [0,1,2,3,4] [1,2,6,39,40,41,7] r (by kernel_rfl) (U h0 (U (aX ((i:Nat):Int)) (U (cK l7) (U h1 (U (G8 o.nw dz.node To Tp) (U ((by first | rfl | (simp [Ov.nw];done) | (simp;done) | (simp;omega)):((br o z (o.bs.take i)).length)=(br o z (o.bs.take i):List (List DV)).length) (U ((by first | rfl | (simp [Ov.nw];done) | (simp;done) | (simp;omega)):((dB dz.node o.nw.book).length)=(dB dz.node o.nw.book:List (List DV)).length) (U ((by first | omega | (have:=fp (o:=o) (z:=z) hb (o.bs.take i);simp [iL] at *;omega)):(2*(((br o z (o.bs.take i)).length)+((dB dz.node o.nw.book).length))+0)*136≤281474976710656) (U ((by first | omega | (have:=fp (o:=o) (z:=z) hb (o.bs.take i);simp [iL] at *;omega)):((br o z (o.bs.take i)).length)+((dB dz.node o.nw.book).length)<4611686018427387904) (U ((by first | exact j8 _ _ | simp [bA,AV.one,cd]):bA (dB dz.node o.nw.book)) (U ((wi (by omega)):IntKind.i64.wrap ((((i:Nat):Int):Int)+1)=((i+1:Nat):Int)) trivial))))))))))) fun ac wd r=>bo (by omega) ac wd ⟨(by omega),r.cast (by rw [vK l7];first | (rw [if_pos (by omega)];simp;done) | (rw [if_neg (by omega)];simp;done)) (by rw [vK l7];first | (rw [if_pos (by omega)];done) | (rw [if_neg (by omega)];rfl))⟩
end Go.Proofs.YtlinpknagdgphaaGreat
namespace Go.Proofs.YtlinpknagdgphaaGreat
open Go.RowKit
theorem QU {P:Program} {f:FuncId} {k n T:Nat} {rows:List (List DV)} {rest:List AV} {x:DV} (h:aD P f (.d (.ro k (cg rows))::rest) x) (hi:dh x) (hc:rest.all ru=true) (hn:n=rows.length):aL P f (.sl 0 n::rest) [.rw T k rows] (.d (cT x)) [.rw T k rows]:=by
 refine ⟨h.1,fun {D w0 K0 β F I w} ys R hK hl hr=>?_⟩
 refine (h.now R hK (b:=[0]) (by intro u hu;simp at hu;subst hu;simp) (ys:=ys) (by simpa using hl) (fun j c y h1 h2=>?_) (fun _=>hi)).mono ?_
 ·cases j with
  | zero=>
   simp only [List.getElem?_cons_zero,Option.some.injEq] at h1;subst h1
   exact u9 R (c:=.sl 0 n) (vc:=[k=k,n=rows.length,cg rows=cg rows]) (b:=[0]) rfl ⟨rfl,hn,rfl,trivial⟩ (fun _ h=>h) (hr 0 _ _ rfl h2)
  | succ j=>
   simp only [List.getElem?_cons_succ] at h1
   have hm:=List.all_eq_true.1 hc c (List.mem_of_getElem? h1)
   exact (Gb hm (hr (j+1) c y (by simpa using h1) h2)).mono (fun w hw=>hw.1) (Ext.refl _)
 ·rintro e w' ⟨v,rfl,I',X,RX,gI,hd⟩
  have Ts:bR D w0 K0 [.rw T k rows] β F I' (X++[]) w':=by rw [List.append_nil];exact RX
  exact ⟨v,rfl,β,F,X++I',Ts.stay.nil rfl,Ext.refl β,gI.trans ⟨X,rfl⟩,.d (oH hd fun w hw=>⟨⟨hw.1,(az.app.1 hw.2).2⟩,(az.app.1 hw.2).1⟩)⟩
theorem PL (l:List aw) (hb:l.length≤9223372036854775807) (hp:∀ x ∈ l,x.ay.length≤9223372036854775807):aL Tryz.prog 43 [.sl 0 l.length] [.rw 31 4 (aI l)] (.d (.ro 4 (aI (book l)))) [.rw 31 4 (aI l)]:=by
 have h:=QU (T:=31) (k:=4) (n:=l.length) (rows:=aI l) (rest:=[]) (by rw [gJ];exact o8 l hb hp) (pQ _ _) rfl (by simp [aI])
 rw [cT,ux] at h;exact h
set_option maxRecDepth 100000 in
theorem PM (l:List aw) (p:ah) (hb:l.length≤9223372036854775807) (hl:∀ x ∈ l,x.ay.length≤9223372036854775807) (rM:p.eJ) (hm:p.may=true) (IJ:p.node≤4):aL Tryz.prog 32 [.sl 0 (l.length),.ag [.z p.node,.u p.inc]] [.rw 31 4 (aI l)] (.d (.ro 2 (procs (kl l p)))) ([.rw 31 4 (aI l)]):=by
 refine aL.intro (by kernel_rfl) rfl rfl 30 rfl rfl fun D w0 K bs ac wd hK (aB:bs.m=1) r=>?_
 have bd:=((by have k:=mc p;rw [hm] at k;exact k):aD Tryz.prog 17 [.ag [.z p.node,.u p.inc]] (.v (.bool true)))
 cases h0:(decide ((4:Int)<p.node)) with
 | false=>
  have bH:=of_decide_eq_false h0
  refine ch (todo':=aft Tryz.f32 4) (E':=[(4,aj),(5,aj),(19,.pt 3 0)]) (M':=[.rw 31 4 (aI l),.bx 24 [.z p.node,.u p.inc],.mu 92 ((bG (book l) p).length) (g9 (book l) p),.it (some 2) ((bG (book l) p).length) ([]) ((bG (book l) p).length)]) tk tq hK aB [(1,[(1,.aJ (.v (.bool true))),(6,.b false)]),(4,[(1,.mem [0] (.d (.ro 4 (aI (book l)))) [.rw 31 4 (aI l)]),(3,.mem [] (.mv 0) [.mu 92 ((bG (book l) p).length) (g9 (book l) p)])])] 12 [0,1,2,3] [4,5,19] r (by kernel_rfl) (U bd (U h0 (U (PL l hb hl) (U (G5 (book l) p (dS l) rM) trivial)))) fun ac wd r=>?_
  obtain ⟨kf,hf⟩:=qE (dS l) rM
  have UC:=FN (dS l) rM
  obtain ⟨es,nE,de,aK,r⟩:=r.told 2 rfl
  have Cs:=ET nE kf
  have UD:es.length=(bG (book l) p).length:=by have:=nE.length_eq;unfold g9 at this;simpa using this
  have r:=r.cast (M':=[.rw 31 4 (aI l),.bx 24 [.z p.node,.u p.inc],.mp 92 ((bG (book l) p).length) (es),.it (some 2) ((bG (book l) p).length) ([]) ((bG (book l) p).length)]) rfl rfl
  refine b8 (todo':=hd Tryz.f32 0) (E':=[(5,aj),(19,.pt 2 0)]) (M':=[.rw 31 4 (aI l),.mp 92 ((bG (book l) p).length) (es),.it (some 1) ((bG (book l) p).length) ([]) ((bG (book l) p).length)]) tk tq hK aB [] 2000 [0,2,3] [5,19] r (by kernel_rfl) trivial fun ac wd r=>?_
  refine aN.rounds (Φ:=fun (i:Nat) ac wd=>∃ sn:List Nat,∃ L:List ah,(ln es i sn L)∧RB D w0 K 30 bs [(5,.sl 3 (L.length)),(19,.pt 2 0)] [.rw 31 4 (aI l),.mp 92 ((bG (book l) p).length) (es),.it (some 1) ((bG (book l) p).length) (sn) ((bG (book l) p).length),.rw 24 2 (procs L)] ac wd) (es.length) ?_ (Nat.zero_le _) ⟨[],[],ln.start es,(r.gW (M1:=[.rw 31 4 (aI l),.mp 92 ((bG (book l) p).length) (es),.it (some 1) ((bG (book l) p).length) ([]) ((bG (book l) p).length),.rw 24 2 []]) [(5,24,2)] [] (by kernel_rfl) (by kernel_rfl)).cast rfl rfl⟩
  clear r
  rintro i cI bo ac wd ⟨sn,L,aM,r⟩
  have UE:=aM.le
  refine zh (id:=5) (t:=19) (d1:=20) (d2:=21) (ui:=2) (um:=1) (since:=(bG (book l) p).length) (c:=(bG (book l) p).length) (T':=92) (ck:=(bG (book l) p).length) (seen:=sn) (es:=es) (k:=aft Tryz.f32 5) (ops:=ops Tryz.f32 5) tk tq hK 1 r (by kernel_rfl) (by kernel_rfl) (by kernel_rfl) ⟨by kernel_rfl,by kernel_rfl⟩ (by kernel_rfl) (by kernel_rfl) (by kernel_rfl) (aK) (Nat.le_refl _) (fun Bk ac wd r=>?_) (fun uq pJ Tl Tn rN ur ac wd r=>?_)
  ·
   refine bB (y:=.d (.ro 2 (procs (eW L)))) (N':=[.rw 31 4 (aI l)]) ((by unfold kl;rw [if_pos ⟨hm,by omega⟩,← aM.done nE Bk])) (rfl) ?_
   exact bC tk tq hK rfl aB [(8,[(1,.stay [.d (.ro 2 (procs L))] (.ro 2 (procs (eW L))))])] 2000 [0] r (by kernel_rfl) (U (EM L aM.two (by have:=aM.le;omega)) (U (cQ (2)) (U ((by first | rfl | (simp;done) | (simp<;>omega)):(L.length)=(procs L).length) (U ((xH _):cg (procs L)=procs L) trivial))))
  ·
   obtain ⟨q,d,rfl,rfl,UF⟩:=vG nE rN
   exact b8 (todo':=hd Tryz.f32 0) (E':=[(5,.sl 3 (L.length+(1))),(19,.pt 2 0)]) (M':=[.rw 31 4 (aI l),.mp 92 ((bG (book l) p).length) (es),.it (some 1) ((bG (book l) p).length) (sn++[pJ]) ((bG (book l) p).length),.rw 24 2 (procs L++[[.z q.node,.u q.inc]])]) tk tq hK aB [(6,[(0,.mk (uq) (.a [(.i64,(q.node:Int)),(.u64,(((q.inc:Nat):Int):Int))]) (.n d))])] 2000 [0,1,2,3] [5,19] r (by kernel_rfl) (U (⟨_,_,rN,rfl⟩:∃ b0 s0,(es:List (Nat×MK×DV))[uq]?=some (b0,.a [(.i64,(q.node:Int)),(.u64,(((q.inc:Nat):Int):Int))],.n d)∧(sn++[pJ]:List Nat)=s0++[b0]) (U (de:(List.map (fun (e:Nat×MK×DV)=>e.1) (es)).Nodup) (U (rfl:((bG (book l) p).length:Nat)=(bG (book l) p).length) (U ((by first | rfl | (simp;done) | (simp<;>omega)):(L.length)=(procs L).length) (U ((by first | rfl | (simp;done) | (simp<;>omega)):(1)=([[.z q.node,.u q.inc]]:List (List DV)).length) (U ((by first | omega | (simp;done) | (simp<;>omega)):(2*((L.length)+(1))+0)*16≤281474976710656) (U ((by first | omega | (simp;done) | (simp<;>omega)):(L.length)+(1)<4611686018427387904) (U ((by simp [bA,AV.one,cd]):bA ([[.z q.node,.u q.inc]])) trivial)))))))) fun ac wd r=>bo (aM.less rN ur) ac wd ⟨(sn++[pJ]),(L++[q]),(aM.more de Cs rN ur),r.cast (by first | rfl | simp) (by first | rfl | simp [procs,ah.row])⟩
 | true=>
  have bH:=of_decide_eq_true h0
  exact absurd bH (by omega)
end Go.Proofs.YtlinpknagdgphaaGreat
namespace Go.Proofs.YtlinpknagdgphaaGreat
open Go.RowKit
def ic (x y:Int):Bool:=decide (x<y)
def iA (x:Int):List Int→List Int
 | []=>[x]
 | y::r=>if ic x y=true then x::y::r else y::iA x r
def dq (l:List Int) (n:Nat):List Int:=(l.take n).foldl (fun s x=>iA x s) []
def fW (l:List Int):List Int:=dq l l.length
theorem uy {l:List Int} {n:Nat} {x:Int} (h:l[n]?=some x):dq l (n+1)=iA x (dq l n):=by
 obtain ⟨hn,rfl⟩:=List.getElem?_eq_some_iff.1 h
 rw [dq,List.take_succ_eq_append_getElem hn,List.foldl_append];rfl
theorem EU (x:Int):∀ s,(iA x s).length=s.length+1
 | []=>rfl
 | y::r=>by rw [iA];split<;>simp [EU x r]
theorem lZ (l:List Int):∀ n,n≤l.length→(dq l n).length=n
 | 0,_=>by simp [dq]
 | n+1,h=>by rw [uy (List.getElem?_eq_getElem (by omega)),EU,lZ l n (by omega)]
theorem x6 (x:Int):∀ s,(iA x s).Perm (x::s)
 | []=>List.Perm.refl _
 | y::r=>by
  rw [iA];split
  ·exact List.Perm.refl _
  ·exact ((x6 x r).cons y).trans (List.Perm.swap x y r)
theorem C4 (l:List Int):∀ n,n≤l.length→(dq l n).Perm (l.take n)
 | 0,_=>by simp [dq]
 | n+1,h=>by
  rw [uy (List.getElem?_eq_getElem (by omega)),List.take_succ_eq_append_getElem (by omega)]
  exact (x6 _ _).trans (((C4 l n (by omega)).cons _).trans (List.perm_append_singleton _ _).symm)
theorem uG (l:List Int):(fW l).Perm l:=by
 have:=C4 l l.length (Nat.le_refl _);rwa [List.take_length] at this
theorem C5 {p q r:Int} (h1:ic q p=false) (h2:ic r q=false):ic r p=false:=by
 unfold ic at *;have:=of_decide_eq_false h1;have:=of_decide_eq_false h2;apply decide_eq_false;omega
theorem Nl {x y:Int} (h:ic x y=true):ic y x=false:=by
 unfold ic at *;have:=of_decide_eq_true h;apply decide_eq_false;omega
def pa (s:List Int):Prop:=s.Pairwise fun a b=>ic b a=false
theorem Nm {x z:Int} {s:List Int}:z ∈ iA x s↔z=x∨z ∈ s:=by rw [(x6 x s).mem_iff,List.mem_cons]
theorem EV {x:Int}:∀ {s:List Int},pa s→pa (iA x s)
 | [],_=>by simp [iA,pa]
 | y::r,h=>by
  unfold pa at *
  rw [List.pairwise_cons] at h
  rw [iA];split
  ·rename_i hx
   rw [List.pairwise_cons,List.pairwise_cons]
   have fN:=Nl hx
   refine ⟨fun z hz=>?_,h⟩
   rcases List.mem_cons.1 hz with rfl | hz
   ·exact fN
   ·exact C5 fN (h.1 z hz)
  ·rename_i hx
   rw [List.pairwise_cons]
   refine ⟨fun z hz=>?_,EV h.2⟩
   rcases Nm.1 hz with rfl | hz
   ·simpa using hx
   ·exact h.1 z hz
theorem xu (l:List Int):∀ n,n≤l.length→pa (dq l n)
 | 0,_=>by simp [dq,pa]
 | n+1,h=>by rw [uy (List.getElem?_eq_getElem (by omega))];exact EV (xu l n (by omega))
theorem DK (l:List Int):pa (fW l):=xu l _ (Nat.le_refl _)
theorem FQ {x:Int}:∀ {s:List Int} {j:Nat},(∀ y ∈ s.take j,ic x y=false)→(∀ y,s[j]?=some y→ic x y=true)→iA x s=s.take j++x::s.drop j
 | [],j,_,_=>by simp [iA]
 | y::r,0,_,h=>by rw [iA,if_pos (h y rfl)];rfl
 | y::r,j+1,h1,h2=>by
  have:=h1 y (by simp)
  rw [iA,if_neg (by simp [this]),FQ (j:=j) (fun z hz=>h1 z (by simp [hz])) (fun z hz=>h2 z (by simpa using hz))]
  rfl
def fF (s:List Int) (x:Int) (j:Nat) (r:List Int):List Int:=s.take j++x::(s.drop j++r)
theorem vp {s:List Int} {x:Int} {j:Nat} {r:List Int}:(fF s x j r).length=s.length+1+r.length:=by
 unfold fF;simp only [List.length_append,List.length_cons,List.length_take,List.length_drop];omega
theorem OH {s:List Int} {x:Int} {j:Nat} {r:List Int} (h:j≤s.length):(fF s x j r)[j]?=some x:=by
 unfold fF;rw [List.getElem?_append_right (by simp;omega)];simp [Nat.min_eq_left h]
theorem DL {s:List Int} {x y:Int} {j:Nat} {r:List Int} (h0:0<j) (hy:s[j-1]?=some y):(fF s x j r)[j-1]?=some y:=by
 have:=(List.getElem?_eq_some_iff.1 hy).1
 unfold fF;rw [List.getElem?_append_left (by simp;omega),List.getElem?_take,if_pos (by omega),hy]
theorem Lz {s:List Int} {x y:Int} {j:Nat} {r:List Int} (h0:0<j) (h:j≤s.length) (hy:s[j-1]?=some y):((fF s x j r).set j y).set (j-1) x=fF s x (j-1) r:=by
 obtain ⟨aK,rfl⟩:=List.getElem?_eq_some_iff.1 hy
 unfold fF
 obtain ⟨k,rfl⟩:∃ k,j=k+1:=⟨j-1,by omega⟩
 simp only [Nat.add_sub_cancel] at *
 have hk:k<s.length:=aK
 rw [List.set_append_right _ _ (by simp;omega),List.take_succ_eq_append_getElem hk]
 have e0:(List.take k s++[s[k]]).length=k+1:=by simp;omega
 rw [e0,Nat.sub_self,List.set_cons_zero,List.append_assoc,List.set_append_right _ _ (by simp;omega)]
 rw [show k-(List.take k s).length=0 by simp;omega]
 simp only [List.singleton_append,List.set_cons_zero]
 rw [List.drop_eq_getElem_cons hk]
 rfl
theorem uH {l:List Int} {n j:Nat} {x:Int} (h:l[n]?=some x) (hj:j≤n) (h1:j=0∨∃ y,(dq l n)[j-1]?=some y∧ic x y=false) (h2:∀ y,(dq l n)[j]?=some y→ic x y=true):fF (dq l n) x j (l.drop (n+1))=dq l (n+1)++l.drop (n+1):=by
 have hn:=(List.getElem?_eq_some_iff.1 h).1
 have hs:=xu l n (by omega)
 have hl:=lZ l n (by omega)
 rw [uy h,FQ (j:=j) (fun y hy=>?_) h2]
 ·unfold fF;simp
 ·rcases h1 with rfl | ⟨z,hz,hx⟩
  ·simp at hy
  ·obtain ⟨i,hi,rfl⟩:=List.getElem_of_mem hy
   simp only [List.length_take] at hi
   rw [List.getElem_take]
   obtain ⟨m0,rfl⟩:=List.getElem?_eq_some_iff.1 hz
   rcases Nat.lt_or_ge i (j-1) with rK | rK
   ·exact C5 ((List.pairwise_iff_getElem.1 hs) i (j-1) (by omega) m0 rK) hx
   ·have:i=j-1:=by omega
    subst this;exact hx
theorem Jr (l:List Int):dq l 1++l.drop 1=l:=by
 cases l with
 | nil=>rfl
 | cons a l=>simp [dq,iA]
theorem Hb (x y:Int):aD Tryz.prog 102 [.z x,.z y] (.v (.bool (ic x y))):=GC x y
theorem Ka {l:List Int} {i:Nat} (h1:i≤l.length) (h2:l.length≤i+1):[au.rw 3 1 (ints (fW l))]=[.rw 3 1 (ints (dq l (i+1)++l.drop (i+1)))]:=by
 rw [List.drop_of_length_le h2,List.append_nil]
 unfold fW
 rw [show dq l (i+1)=dq l l.length by unfold dq;rw [List.take_of_length_le h2,List.take_length]]
theorem Kb {l:List Int} {n:Nat} {x:Int} (h:l[n]?=some x):fF (dq l n) x (n-0) (l.drop (n+1))=dq l n++l.drop n:=by
 obtain ⟨hn,rfl⟩:=List.getElem?_eq_some_iff.1 h
 have hl:=lZ l n (by omega)
 rw [Nat.sub_zero,List.drop_eq_getElem_cons hn]
 unfold fF
 rw [List.take_of_length_le (by omega),List.drop_of_length_le (by omega)]
 rfl
theorem Kc (l:List Int):(fW l).length=l.length:=(uG l).length_eq
set_option maxRecDepth 100000 in
theorem Nn (l:List Int) (hb:l.length<1073741824):aL Tryz.prog 96 [.sl 0 (l.length),.z 0,.n l.length] [.rw 3 1 (ints l)] (.tu []) ([.rw 3 1 (ints (fW l))]):=by
 refine aL.intro (by kernel_rfl) rfl rfl 49 rfl rfl fun D w0 K bs ac wd hK (aB:bs.m=1) r=>?_
 refine b8 (todo':=hd Tryz.f96 0) (E':=[(0,.sl 0 (l.length)),(1,.z 0),(2,.n l.length),(6,.z 1)]) (M':=[.rw 3 1 (ints l)]) tk tq hK aB [(0,[(1,.z (1))])] 2000 [0] [0,1,2,6] r (by kernel_rfl) (U ((wi (by omega)):IntKind.i64.wrap ((0:Int)+1)=1) trivial) fun ac wd r=>?_
 refine aN.rounds (Φ:=fun (i:Nat) ac wd=>(i≤l.length)∧RB D w0 K 49 bs [(0,.sl 0 (l.length)),(1,.z 0),(2,.n l.length),(6,.n (i+1))] [.rw 3 1 (ints (dq l (i+1)++l.drop (i+1)))] ac wd) (l.length) ?_ (Nat.zero_le _) ⟨(Nat.zero_le _),(r).cast rfl (by rw [Jr])⟩
 clear r
 rintro i cI bo ac wd ⟨aM,r⟩
 have eS:=aM
 cases h0:(decide ((((i+1:Nat):Int):Int)<((l.length:Nat):Int))) with
 | false=>
  have bH:=of_decide_eq_false h0
  refine bB (y:=.tu []) (N':=[.rw 3 1 (ints (dq l (i+1)++l.drop (i+1)))]) (rfl) ((Ka eS (by omega))) ?_
  exact bC tk tq hK rfl aB [(1,[(2,.b false)])] 2000 [0] r (by kernel_rfl) (U h0 trivial)
 | true=>
  have bH:=of_decide_eq_true h0
  obtain ⟨x,gx⟩:∃ x,l[i+1]?=some x:=⟨_,List.getElem?_eq_getElem (by omega)⟩
  have dL:=lZ l (i+1) (by omega)
  refine b8 (todo':=hd Tryz.f96 1) (E':=[(0,.sl 0 (l.length)),(1,.z 0),(2,.n l.length),(6,.n (i+1)),(7,.n (i+1))]) (M':=[.rw 3 1 (ints (dq l (i+1)++l.drop (i+1)))]) tk tq hK aB [(1,[(2,.b true)])] 2000 [0] [0,1,2,6,7] r (by kernel_rfl) (U h0 trivial) fun ac wd r=>?_
  refine aN.rounds (Φ:=fun (d:Nat) ac wd=>(d≤i+1∧∀ y,(dq l (i+1))[i+1-d]?=some y→ic x y=true)∧RB D w0 K 49 bs [(0,.sl 0 (l.length)),(1,.z 0),(2,.n l.length),(6,.n (i+1)),(7,.n (i+1-d))] [.rw 3 1 (ints (fF (dq l (i+1)) x (i+1-d) (l.drop (i+1+1))))] ac wd) (i+1) ?_ (Nat.zero_le _) ⟨⟨by omega,fun y hy=>by rw [Nat.sub_zero,List.getElem?_eq_none (by omega)] at hy;cases hy⟩,(r).cast rfl (by rw [Kb gx])⟩
  clear r
  rintro d eS fV ac wd ⟨bg,r⟩
  obtain ⟨pH,ja⟩:=bg
  cases h1:(decide ((0:Int)<((i+1-d:Nat):Int))) with
  | false=>
   have bN:=of_decide_eq_false h1
   exact b8 (todo':=hd Tryz.f96 0) (E':=[(0,.sl 0 (l.length)),(1,.z 0),(2,.n l.length),(6,.n (i+1+1))]) (M':=[.rw 3 1 (ints (fF (dq l (i+1)) x (i+1-d) (l.drop (i+1+1))))]) tk tq hK aB [(2,[(1,.z (((i+1+1:Nat):Int)))]),(4,[(2,.b false)])] 2000 [0] [0,1,2,6] r (by kernel_rfl) (U h1 (U ((wi (by omega)):IntKind.i64.wrap ((((i+1:Nat):Int):Int)+1)=((i+1+1:Nat):Int)) trivial)) fun ac wd r=>bo (by omega) ac wd ⟨(by omega),r.cast rfl (by first | (rw [uH (n:=i+1) gx (by omega) (.inl (by omega)) ja];done) | (rw [uH (n:=i+1) gx (by omega) (.inr ⟨y,gy,(by assumption)⟩) ja];done))⟩
  | true=>
   have bN:=of_decide_eq_true h1
   obtain ⟨y,gy⟩:∃ y,(dq l (i+1))[i+1-d-1]?=some y:=⟨_,List.getElem?_eq_getElem (by omega)⟩
   have bd:=((by first | omega | decide | (simp;omega)):(i+1-d)<(l.length))
   have b3:=((by first | (simp [vp,lZ l (i+1) (show i+1≤l.length by omega)];done) | (simp [vp,lZ l (i+1) (show i+1≤l.length by omega)]<;>omega) | (simp<;>omega)):(l.length)≤(ints (fF (dq l (i+1)) x (i+1-d) (l.drop (i+1+1)))).length)
   have cy:=(fT (OH (by rw [lZ l (i+1) (by omega)];omega)):(ints (fF (dq l (i+1)) x (i+1-d) (l.drop (i+1+1))))[i+1-d]?=some [.z x])
   have db:=((wi (by omega)):IntKind.i64.wrap ((((i+1-d:Nat):Int):Int)-1)=((i+1-d-1:Nat):Int))
   have cZ:=((by first | omega | decide | (simp;omega)):(i+1-d-1)<(l.length))
   have dp:=(fT (DL (by omega) gy):(ints (fF (dq l (i+1)) x (i+1-d) (l.drop (i+1+1))))[i+1-d-1]?=some [.z y])
   cases h2:(ic x y) with
   | false=>
    exact b8 (todo':=hd Tryz.f96 0) (E':=[(0,.sl 0 (l.length)),(1,.z 0),(2,.n l.length),(6,.n (i+1+1))]) (M':=[.rw 3 1 (ints (fF (dq l (i+1)) x (i+1-d) (l.drop (i+1+1))))]) tk tq hK aB [(2,[(1,.z (((i+1+1:Nat):Int)))]),(4,[(2,.b true),(6,.n (i+1-d)),(7,.ix 0 [.z x]),(10,.z (((i+1-d-1:Nat):Int))),(11,.n (i+1-d-1)),(12,.ix 0 [.z y]),(13,.aJ (.v (.bool false)))])] 2000 [0] [0,1,2,6] r (by kernel_rfl) (U h1 (U (aX ((i+1-d:Nat):Int)) (U bd (U b3 (U cy (U db (U (aX ((i+1-d-1:Nat):Int)) (U cZ (U b3 (U dp (U ((by have k:=Hb x y;rw [h2] at k;exact k):aD Tryz.prog 102 [.z x,.z y] (.v (.bool false))) (U ((wi (by omega)):IntKind.i64.wrap ((((i+1:Nat):Int):Int)+1)=((i+1+1:Nat):Int)) trivial)))))))))))) fun ac wd r=>bo (by omega) ac wd ⟨(by omega),r.cast rfl (by first | (rw [uH (n:=i+1) gx (by omega) (.inl (by omega)) ja];done) | (rw [uH (n:=i+1) gx (by omega) (.inr ⟨y,gy,(by assumption)⟩) ja];done))⟩
   | true=>
    exact b8 (todo':=hd Tryz.f96 1) (E':=[(0,.sl 0 (l.length)),(1,.z 0),(2,.n l.length),(6,.n (i+1)),(7,.n (i+1-d-1))]) (M':=[.rw 3 1 (List.set (List.set (ints (fF (dq l (i+1)) x (i+1-d) (l.drop (i+1+1)))) (i+1-d) [.z y]) (i+1-d-1) [.z x])]) tk tq hK aB [(4,[(2,.b true),(6,.n (i+1-d)),(7,.ix 0 [.z x]),(10,.z (((i+1-d-1:Nat):Int))),(11,.n (i+1-d-1)),(12,.ix 0 [.z y]),(13,.aJ (.v (.bool true)))]),(5,[(1,.z (((i+1-d-1:Nat):Int)))]),(6,[(4,.z (((i+1-d-1:Nat):Int))),(7,.z (((i+1-d-1:Nat):Int))),(8,.n (i+1-d-1)),(9,.ix 0 [.z y]),(12,.n (i+1-d)),(13,.ix 0 [.z x]),(14,.n (i+1-d)),(15,.ix 0 [.z x]),(16,.n (i+1-d-1)),(17,.ix 0 [.z y])])] 2000 [0] [0,1,2,6,7] r (by kernel_rfl) (U h1 (U (aX ((i+1-d:Nat):Int)) (U bd (U b3 (U cy (U db (U (aX ((i+1-d-1:Nat):Int)) (U cZ (U b3 (U dp (U ((by have k:=Hb x y;rw [h2] at k;exact k):aD Tryz.prog 102 [.z x,.z y] (.v (.bool true))) (U db (U db (U (aX ((i+1-d-1:Nat):Int)) (U cZ (U b3 (U dp (U (aX ((i+1-d:Nat):Int)) (U bd (U b3 (U cy (U (aX ((i+1-d:Nat):Int)) (U bd (U b3 (U cy (U (aX ((i+1-d-1:Nat):Int)) (U cZ (U ((by first | (simp [vp,lZ l (i+1) (show i+1≤l.length by omega)];done) | (simp [vp,lZ l (i+1) (show i+1≤l.length by omega)]<;>omega) | (simp<;>omega)):(l.length)≤(List.set (ints (fF (dq l (i+1)) x (i+1-d) (l.drop (i+1+1)))) (i+1-d) [.z y]:List (List DV)).length) (U ((by rw [List.getElem?_set,if_neg (by omega)];exact fT (DL (by omega) gy)):(List.set (ints (fF (dq l (i+1)) x (i+1-d) (l.drop (i+1+1)))) (i+1-d) [.z y])[i+1-d-1]?=some [.z y]) (U db trivial)))))))))))))))))))))))))))))) fun ac wd r=>fV (by omega) ac wd ⟨⟨by omega,fun z hz=>by rw [Nat.sub_add_eq,gy] at hz;cases hz;assumption⟩,r.cast (by rw [Nat.sub_add_eq]) (by rw [ints_set,ints_set,Lz (by omega) (by omega) gy,Nat.sub_add_eq])⟩
set_option maxRecDepth 100000 in
theorem No (l:List Int) (k:Nat) (hb:l.length≤12):aL Tryz.prog 81 [.sl 0 (l.length),.z 0,.n l.length,.n k] [.rw 3 1 (ints l)] (.tu []) ([.rw 3 1 (ints (fW l))]):=by
 refine aL.intro (by kernel_rfl) rfl rfl 134 rfl rfl fun D w0 K bs ac wd hK (aB:bs.m=1) r=>?_
 refine b8 (todo':=hd Tryz.f81 0) (E':=[(0,.sl 0 (l.length)),(1,.z 0),(2,.n l.length),(3,.n k),(8,aU),(9,aU)]) (M':=[.rw 3 1 (ints l)]) tk tq hK aB [] 2000 [0] [0,1,2,3,8,9] r (by kernel_rfl) trivial fun ac wd r=>?_
 have bd:=((wi (by omega)):IntKind.i64.wrap ((((l.length:Nat):Int):Int)-0)=((l.length:Nat):Int))
 cases h0:(decide ((((l.length:Nat):Int):Int)≤12)) with
 | false=>
  have bH:=of_decide_eq_false h0
  exact absurd bH (by omega)
 | true=>
  have bH:=of_decide_eq_true h0
  refine bB (y:=.tu []) (N':=[.rw 3 1 (ints (fW l))]) (rfl) (rfl) ?_
  exact bC tk tq hK rfl aB [(2,[(2,.z (((l.length:Nat):Int)))]),(3,[(1,.b true)]),(4,[(3,.mem [0] (.tu []) [.rw 3 1 (ints (fW l))])])] 2000 [0] r (by kernel_rfl) (U bd (U h0 (U (Nn l (by omega)) trivial)))
set_option maxRecDepth 100000 in
theorem QV (l:List Int) (hb:l.length≤12):aL Tryz.prog 67 [.sl 0 (l.length)] [.rw 3 1 (ints l)] (.tu []) ([.rw 3 1 (ints (fW l))]):=by
 refine aL.intro (by kernel_rfl) rfl rfl 11 rfl rfl fun D w0 K bs ac wd hK (aB:bs.m=1) r=>?_
 refine bB (y:=.tu []) (N':=[.rw 3 1 (ints (fW l))]) (rfl) (rfl) ?_
 exact bC tk tq hK rfl aB [(1,[(3,.z (((l.length:Nat):Int))),(4,.aJ (.n (o7 l.length))),(5,.mem [0] (.tu []) [.rw 3 1 (ints (fW l))])])] 2000 [0] r (by kernel_rfl) (U ((wu (by omega)):IntKind.u64.wrap (((l.length:Nat):Int))=((l.length:Nat):Int)) (U (zj l.length (by omega)) (U (No l (o7 l.length) (by omega)) trivial)))
end Go.Proofs.YtlinpknagdgphaaGreat
namespace Go.Proofs.YtlinpknagdgphaaGreat
open Go.RowKit
structure Hd where
 dst:Int
 conn:Nat
 seq:Nat
 inc:Nat
deriving DecidableEq
def al (l:List Hd):List (List DV):=l.map fun h=>[.v (.int .i64 h.dst),.v (.int .u64 (h.conn:Int)),.v (.int .u64 (h.seq:Int)),.v (.int .u64 (h.inc:Int))]
theorem fS {l:List Hd} {i:Nat} {h:Hd} (g:l[i]?=some h):(al l)[i]?=some [.v (.int .i64 h.dst),.v (.int .u64 (h.conn:Int)),.v (.int .u64 (h.seq:Int)),.v (.int .u64 (h.inc:Int))]:=by simp [al,g]
theorem cb (l:List Hd):(al l).length=l.length:=by simp [al]
theorem rU (l:List Hd):cg (al l)=al l:=by
 rw [jz];unfold al;rw [List.map_map];apply List.map_congr_left;intro h _;rfl
theorem Eg (T:Nat) (l:List Hd):dh (.em T 4 (al l)):=.em fun r hr c hc=>by
 unfold al at hr
 obtain ⟨h,-,rfl⟩:=List.mem_map.1 hr
 simp only [List.mem_cons,List.not_mem_nil,or_false] at hc
 rcases hc with rfl | rfl | rfl | rfl<;>exact gX _
theorem gb.rw {T k:Nat} {rows:List (List DV)} (h:∀ r ∈ rows,∀ c ∈ r,dh c):gb (.rw T k rows):=fun K K' β u H r=>by
 cases r with | rw hb X G hl hs hr=>exact .rw hb X G hl hs (fun i r j c x h1 h2 h3=>h r (List.mem_of_getElem? h1) c (List.mem_of_getElem? h2) _ _ _ _ (hr i r j c x h1 h2 h3))
theorem LB (T:Nat) (l:List Int):gb (.rw T 1 (ints l)):=.rw fun r hr c hc=>by
 unfold ints at hr
 obtain ⟨h,-,rfl⟩:=List.mem_map.1 hr
 simp only [List.mem_singleton] at hc
 subst hc;exact gX _
def bT (l:List (Nat×Int×List Hd)):List (Nat×MK×DV):=l.map fun e=>(e.1,.i .i64 e.2.1,.em 58 4 (al e.2.2))
def dJ (l:List (Nat×Int×List Hd)):List Int:=l.map fun e=>e.2.1
structure oq (l:List (Nat×Int×List Hd)) (ck:Nat):Prop where
 b:(l.map fun e=>e.1).Nodup
 lt:∀ e ∈ l,e.1<ck
 k:(dJ l).Nodup
theorem OI {l:List (Nat×Int×List Hd)} {j b:Nat} {k:MK} {x:DV} (h:(bT l)[j]?=some (b,k,x)):∃ z q,l[j]?=some (b,z,q)∧k=.i .i64 z∧x=.em 58 4 (al q):=by
 unfold bT at h
 rw [List.getElem?_map,Option.map_eq_some_iff] at h
 obtain ⟨⟨b',z,q⟩,h1,h2⟩:=h
 simp only [Prod.mk.injEq] at h2
 exact ⟨z,q,by rw [h1,h2.1],h2.2.1.symm,h2.2.2.symm⟩
theorem Al {l:List (Nat×Int×List Hd)} {j b:Nat} {z:Int} {q:List Hd} (h:l[j]?=some (b,z,q)):(bT l)[j]?=some (b,.i .i64 z,.em 58 4 (al q)):=by
 unfold bT;rw [List.getElem?_map,h];rfl
theorem Np (l:List (Nat×Int×List Hd)):List.map (fun (e:Nat×MK×DV)=>e.1) (bT l)=l.map fun e=>e.1:=by unfold bT;rw [List.map_map];rfl
theorem PN {l:List (Nat×Int×List Hd)} {ck:Nat} (h:oq l ck):∀ e ∈ bT l,e.1<ck:=fun e he=>by
 unfold bT at he
 obtain ⟨x,hx,rfl⟩:=List.mem_map.1 he
 exact h.lt x hx
theorem OJ (l:List (Nat×Int×List Hd)):∀ e ∈ bT l,dh e.2.2:=fun e he=>by
 unfold bT at he
 obtain ⟨x,hx,rfl⟩:=List.mem_map.1 he
 exact Eg _ _
structure jK (l:List (Nat×Int×List Hd)) (i:Nat) (sn:List Nat) (L:List Int):Prop where
 len:L.length=i
 sl:sn.length=i
 nd:sn.Nodup
 sub:∀ b ∈ sn,b ∈ l.map fun e=>e.1
 mem:∀ q,q ∈ L↔∃ e ∈ l,e.1 ∈ sn∧e.2.1=q
 uo:L.Nodup
theorem jK.start (l:List (Nat×Int×List Hd)):jK l 0 [] []:=⟨rfl,rfl,List.nodup_nil,by simp,by simp,List.nodup_nil⟩
theorem jK.le {l:List (Nat×Int×List Hd)} {i:Nat} {sn:List Nat} {L:List Int} (h:jK l i sn L):i≤l.length:=by
 have:=l6 h.nd h.sub
 rw [h.sl,List.length_map] at this;exact this
theorem jK.less {l:List (Nat×Int×List Hd)} {i j b:Nat} {z:Int} {q:List Hd} {sn:List Nat} {L:List Int} (h:jK l i sn L) (hj:l[j]?=some (b,z,q)) (hb:b ∉ sn):i<l.length:=by
 have:=l6 (l:=b::sn) (m:=l.map fun e=>e.1) (List.nodup_cons.2 ⟨hb,h.nd⟩) fun x hx=>by
  rcases List.mem_cons.1 hx with rfl | hx
  ·exact List.mem_map.2 ⟨_,List.mem_of_getElem? hj,rfl⟩
  ·exact h.sub x hx
 rw [List.length_map,List.length_cons,h.sl] at this;omega
theorem jK.next {l:List (Nat×Int×List Hd)} {ck i j b:Nat} {z:Int} {q:List Hd} {sn:List Nat} {L:List Int} (ho:oq l ck) (h:jK l i sn L) (hj:l[j]?=some (b,z,q)) (hb:b ∉ sn):jK l (i+1) (sn++[b]) (L++[z]):=by
 have hm:(b,z,q) ∈ l:=List.mem_of_getElem? hj
 have one:∀ e ∈ l,e.1=b→e=(b,z,q):=fun e he e1=>List.pM ho.b he hm e1
 refine ⟨by rw [List.length_append,h.len];rfl,by rw [List.length_append,h.sl];rfl,?_,?_,?_,?_⟩
 ·rw [List.nodup_append];exact ⟨h.nd,by simp,fun x hx y hy=>by rw [List.mem_singleton] at hy;subst hy;rintro rfl;exact hb hx⟩
 ·intro x hx
  rcases List.mem_append.1 hx with hx | hx
  ·exact h.sub x hx
  ·rw [List.mem_singleton] at hx;subst hx;exact List.mem_map.2 ⟨_,hm,rfl⟩
 ·intro y
  rw [List.mem_append,List.mem_singleton,h.mem]
  constructor
  ·rintro (⟨e,h1,h2,h3⟩ | rfl)
   ·exact ⟨e,h1,List.mem_append_left _ h2,h3⟩
   ·exact ⟨_,hm,by simp,rfl⟩
  ·rintro ⟨e,h1,h2,h3⟩
   rcases List.mem_append.1 h2 with h2 | h2
   ·exact .inl ⟨e,h1,h2,h3⟩
   ·rw [List.mem_singleton] at h2
    right;rw [one e h1 h2] at h3;exact h3.symm
 ·rw [List.nodup_append]
  refine ⟨h.uo,by simp,fun x hx y hy=>?_⟩
  rw [List.mem_singleton] at hy;subst hy
  rintro rfl
  obtain ⟨e,h1,h2,h3⟩:=(h.mem _).1 hx
  have:=List.pM ho.k h1 hm h3
  rw [this] at h2;exact hb h2
theorem jK.end {l:List (Nat×Int×List Hd)} {ck i:Nat} {sn:List Nat} {L:List Int} (ho:oq l ck) (h:jK l i sn L) (ha:∀ e ∈ bT l,e.1 ∈ sn):L.Perm (dJ l):=by
 rw [List.perm_ext_iff_of_nodup h.uo ho.k]
 intro q
 rw [h.mem];unfold dJ;rw [List.mem_map]
 constructor
 ·rintro ⟨e,h1,-,h3⟩;exact ⟨e,h1,h3⟩
 ·rintro ⟨e,h1,h3⟩
  exact ⟨e,h1,ha (e.1,.i .i64 e.2.1,.em 58 4 (al e.2.2)) (by unfold bT;exact List.mem_map.2 ⟨e,h1,rfl⟩),h3⟩
set_option maxRecDepth 100000 in
theorem LC (l:List (Nat×Int×List Hd)) (ck:Nat) (hl:oq l ck) (cD:l.length≤12):jm Tryz.prog 71 [.yl 3,.pt 1 0] [.mp 99 (ck) (bT l),.bx 99 [.mv 0],.bx 25 [aj],.lp .ready 82 13 [(2,.pt 2 0)] (dU Tryz.f82 0)] (fun (L:List Int)=>L.Perm (dJ l)) (fun (L:List Int)=>.tu []) (fun (L:List Int)=>[.mp 99 (ck) (bT l),.bx 99 [.mv 0],.bx 25 [.sl 4 (L.length)],.lp .ready 82 13 [(2,.pt 2 0)] (dU Tryz.f82 0),.rw 3 1 (ints L)]):=by
 refine jm.intro (by kernel_rfl) rfl rfl 14 rfl rfl fun D w0 K bs ac wd hK (aB:bs.m=4) r=>?_
 refine b8 (todo':=hd Tryz.f71 0) (E':=[(0,.yl 3),(5,.pt 4 0)]) (M':=[.mp 99 (ck) (bT l),.bx 99 [.mv 0],.bx 25 [aj],.lp .ready 82 13 [(2,.pt 2 0)] (dU Tryz.f82 0),.it (some 0) (ck) ([]) (ck)]) tk tq hK aB [] 2000 [0,1,2,3,4] [0,5] r (by kernel_rfl) trivial fun ac wd r=>?_
 refine aN.rounds (Φ:=fun (i:Nat) ac wd=>∃ sn:List Nat,∃ L:List Int,(jK l i sn L)∧RB D w0 K 14 bs [(0,.yl 3),(5,.pt 4 0)] [.mp 99 (ck) (bT l),.bx 99 [.mv 0],.bx 25 [.sl 5 (L.length)],.lp .ready 82 13 [(2,.pt 2 0)] (dU Tryz.f82 0),.it (some 0) (ck) (sn) (ck),.rw 3 1 (ints L)] ac wd) (l.length) ?_ (Nat.zero_le _) ⟨[],[],(jK.start l),(r.gW (E1:=[(0,.yl 3),(5,.pt 4 0)]) (M2:=[.mp 99 (ck) (bT l),.bx 99 [.mv 0],.bx 25 [.sl 5 (0)],.lp .ready 82 13 [(2,.pt 2 0)] (dU Tryz.f82 0),.it (some 0) (ck) ([]) (ck),.rw 3 1 ([])]) (M1:=[.mp 99 (ck) (bT l),.bx 99 [.mv 0],.bx 25 [aj],.lp .ready 82 13 [(2,.pt 2 0)] (dU Tryz.f82 0),.it (some 0) (ck) ([]) (ck)]) [] [(2,0,3,1)] (by kernel_rfl) (by kernel_rfl)).cast rfl rfl⟩
 clear r
 rintro i cI bo ac wd ⟨sn,L,aM,r⟩
 have hle:=aM.le
 have Tk:=aM.len
 refine zh (id:=1) (t:=5) (d1:=6) (d2:=7) (ui:=4) (um:=0) (since:=ck) (c:=ck) (T':=99) (ck:=ck) (seen:=sn) (es:=bT l) (k:=aft Tryz.f71 1) (ops:=ops Tryz.f71 1) tk tq hK 1 r (by kernel_rfl) (by kernel_rfl) (by kernel_rfl) ⟨by kernel_rfl,by kernel_rfl⟩ (by kernel_rfl) (by kernel_rfl) (by kernel_rfl) (PN hl) (Nat.le_refl _) (fun QW ac wd r=>?_) (fun IK CO UG UH xc dm ac wd r=>?_)
 ·
  have nO:=aM.end hl QW
  refine aN.one (L) nO ?_
  refine bB (y:=.tu []) (N':=[.mp 99 (ck) (bT l),.bx 99 [.mv 0],.bx 25 [.sl 4 (L.length)],.lp .ready 82 13 [(2,.pt 2 0)] (dU Tryz.f82 0),.rw 3 1 (ints L)]) (rfl) (rfl) ?_
  exact bC tk tq hK rfl aB [] 2000 [0,1,2,3,5] r (by kernel_rfl) trivial
 ·
  obtain ⟨z,q,hq,rfl,rfl⟩:=OI xc
  exact b8 (todo':=hd Tryz.f71 0) (E':=[(0,.yl 3),(5,.pt 4 0)]) (M':=[.mp 99 (ck) (bT l),.bx 99 [.mv 0],.bx 25 [.sl 5 (L.length+(1))],.lp .ready 82 13 [(2,.pt 2 0)] (dU Tryz.f82 0),.it (some 0) (ck) (sn++[CO]) (ck),.rw 3 1 (ints L++[[.z z]])]) tk tq hK aB [(2,[(0,.wY (IK) (.i .i64 (z)) (.em 58 4 (al q)) 0)]),(3,[(2,.dt 200 [])])] 2000 [0,1,2,3,4,5] [0,5] r (by kernel_rfl) (U (⟨_,_,Al hq,rfl⟩:∃ b0 s0,(bT l:List (Nat×MK×DV))[IK]?=some (b0,.i .i64 (z),.em 58 4 (al q))∧(sn++[CO]:List Nat)=s0++[b0]) (U ((by rw [Np];exact hl.b):(List.map (fun (e:Nat×MK×DV)=>e.1) (bT l)).Nodup) (U (rfl:(ck:Nat)=ck) (U ((by first | rfl | (simp;done) | (simp<;>omega)):(L.length)=(ints L).length) (U ((by first | rfl | (simp;done) | (simp<;>omega)):(1)=([[.z z]]:List (List DV)).length) (U ((by first | omega | (simp;done) | (simp<;>omega)):(2*((L.length)+(1))+0)*8≤281474976710656) (U ((by first | omega | (simp;done) | (simp<;>omega)):(L.length)+(1)<4611686018427387904) (U ((by simp [bA,AV.one,cd]):bA ([[.z z]])) trivial)))))))) fun ac wd r=>bo (aM.less hq dm) ac wd ⟨(sn++[CO]),(L++[z]),(aM.next hl hq dm),r.cast rfl (by first | rfl | simp [ints])⟩
set_option maxRecDepth 100000 in
theorem Kd (l:List (Nat×Int×List Hd)) (ck:Nat) (hl:oq l ck) (cD:l.length≤12):jm Tryz.prog 82 [aj,.fn 71 [.pt 1 0]] [.mp 99 (ck) (bT l),.bx 99 [.mv 0]] (fun (L:List Int)=>L.Perm (dJ l)) (fun (L:List Int)=>.sl 2 L.length) (fun (L:List Int)=>[.mp 99 (ck) (bT l),.bx 99 [.mv 0],.rw 3 1 (ints L)]):=by
 refine jm.Px (by kernel_rfl) rfl rfl 13 rfl rfl fun D w0 K bs ac wd hK (aB:bs.m=2) CH r=>?_
 refine MQ (todo':=wT Tryz.f82 0) (E2:=fun (L:List Int)=>[(2,.pt 2 0)]) (M2:=fun (L:List Int)=>[.mp 99 (ck) (bT l),.bx 99 [.mv 0],.bx 25 [.sl 3 (L.length)],.rw 3 1 (ints L)]) tk tq hK rfl aB [] 8 [0,1,2] [2] (fun (L:List Int)=>.tu []) (fun (L:List Int)=>[.mp 99 (ck) (bT l),.bx 99 [.mv 0],.bx 25 [.sl 4 (L.length)],.lp .ready 82 13 [(2,.pt 2 0)] (dU Tryz.f82 0),.rw 3 1 (ints L)]) [0,1,2,4] [2] r (fun _=>by kernel_rfl) (LC l ck hl cD) trivial (dJ l) fun L hL ac wd r=>?_
 have r:bX true D w0 K 13 bs [(2,.pt 2 0)] [.mp 99 (ck) (bT l),.bx 99 [.mv 0],.bx 25 [.sl 3 (L.length)],.rw 3 1 (ints L)] ac wd:=r
 refine aN.one (L) hL ?_
 refine bB (y:=.sl 2 (L.length)) (N':=[.mp 99 (ck) (bT l),.bx 99 [.mv 0],.rw 3 1 (ints L)]) (rfl) (rfl) (Pw (E':=[(4,.sl 2 (L.length))]) (M':=[.mp 99 (ck) (bT l),.bx 99 [.mv 0],.rw 3 1 (ints L)]) tk tq hK rfl aB CH [] 2000 [0,1,3] [4] r (by kernel_rfl) (by kernel_rfl) trivial ?_ ?_)
 ·intro x hx;simp only [List.mem_singleton] at hx;subst hx;exact fg.sl _ _
 ·intro x hx;simp only [List.mem_cons,List.not_mem_nil,or_false] at hx;rcases hx with rfl | rfl | rfl;exact gb.mp (OJ l);exact gb.bx (by intro c hc;simp only [List.mem_singleton] at hc;subst hc;exact fg.mv 0);exact LB _ _
set_option maxRecDepth 100000 in
theorem Nq (l:List (Nat×Int×List Hd)) (ck:Nat) (hl:oq l ck) (cD:l.length≤12):jm Tryz.prog 70 [.fn 71 [.pt 1 0]] [.mp 99 (ck) (bT l),.bx 99 [.mv 0]] (fun (L:List Int)=>L.Perm (dJ l)) (fun (L:List Int)=>.sl 2 L.length) (fun (L:List Int)=>[.mp 99 (ck) (bT l),.bx 99 [.mv 0],.rw 3 1 (ints L)]):=by
 refine jm.intro (by kernel_rfl) rfl rfl 5 rfl rfl fun D w0 K bs ac wd hK (aB:bs.m=2) r=>?_
 refine FE (todo':=aft Tryz.f70 1) (E2:=fun (L:List Int)=>[(2,.sl 2 (L.length))]) (M2:=fun (L:List Int)=>[.mp 99 (ck) (bT l),.bx 99 [.mv 0],.rw 3 1 (ints L)]) tk tq hK aB [] 3 1 [0,1] [0,1,2] [2] (fun (L:List Int)=>.sl 2 (L.length)) (fun (L:List Int)=>[.mp 99 (ck) (bT l),.bx 99 [.mv 0],.rw 3 1 (ints L)]) r (fun _=>by kernel_rfl) (Kd l ck hl cD) trivial (fun _ _=>(trivial:bw [])) (dJ l) fun L hL ac wd r=>?_
 have r:RB D w0 K 5 bs [(2,.sl 2 (L.length))] [.mp 99 (ck) (bT l),.bx 99 [.mv 0],.rw 3 1 (ints L)] ac wd:=r
 refine aN.one (L) hL ?_
 refine bB (y:=.sl 2 (L.length)) (N':=[.mp 99 (ck) (bT l),.bx 99 [.mv 0],.rw 3 1 (ints L)]) (rfl) (rfl) ?_
 exact bC tk tq hK rfl aB [] 2000 [0,1,2] r (by kernel_rfl) trivial
theorem JD {l m:List Int} (h:l.Perm m):fW l=fW m:=by
 have hp:(fW l).Perm (fW m):=(uG l).trans (h.trans (uG m).symm)
 refine hp.eq_of_pairwise (fun a b _ _ h1 h2=>?_) (DK l) (DK m)
 unfold ic at h1 h2
 have:=of_decide_eq_false h1;have:=of_decide_eq_false h2;omega
set_option maxRecDepth 100000 in
theorem OK (l:List (Nat×Int×List Hd)) (ck:Nat) (hl:oq l ck) (cD:l.length≤12):aL Tryz.prog 58 [.fn 71 [.pt 1 0]] [.mp 99 (ck) (bT l),.bx 99 [.mv 0]] (.sl 2 l.length) ([.mp 99 (ck) (bT l),.bx 99 [.mv 0],.rw 3 1 (ints (fW (dJ l)))]):=by
 refine aL.intro (by kernel_rfl) rfl rfl 9 rfl rfl fun D w0 K bs ac wd hK (aB:bs.m=2) r=>?_
 refine FE (todo':=aft Tryz.f58 1) (E2:=fun (L:List Int)=>[(3,.sl 2 (L.length))]) (M2:=fun (L:List Int)=>[.mp 99 (ck) (bT l),.bx 99 [.mv 0],.rw 3 1 (ints L)]) tk tq hK aB [] 3 1 [0,1] [0,1,2] [3] (fun (L:List Int)=>.sl 2 (L.length)) (fun (L:List Int)=>[.mp 99 (ck) (bT l),.bx 99 [.mv 0],.rw 3 1 (ints L)]) r (fun _=>by kernel_rfl) (Nq l ck hl cD) trivial (fun _ _=>(trivial:bw [])) (dJ l) fun L hL ac wd r=>?_
 have r:RB D w0 K 9 bs [(3,.sl 2 (L.length))] [.mp 99 (ck) (bT l),.bx 99 [.mv 0],.rw 3 1 (ints L)] ac wd:=r
 refine bB (y:=.sl 2 (L.length)) (N':=[.mp 99 (ck) (bT l),.bx 99 [.mv 0],.rw 3 1 (ints (fW L))]) ((by have:=hL.length_eq;unfold dJ at this;rw [List.length_map] at this;rw [this])) ((by rw [JD hL])) ?_
 exact bC tk tq hK rfl aB [(2,[(1,.mem [2] (.tu []) [.rw 3 1 (ints (fW L))])])] 2000 [0,1,2] r (by kernel_rfl) (U (QV L (by have:=hL.length_eq;unfold dJ at this;rw [List.length_map] at this;omega)) trivial)
end Go.Proofs.YtlinpknagdgphaaGreat
namespace Go.Proofs.YtlinpknagdgphaaGreat
open Go.RowKit
theorem HH:Go.Maps.Keyed Tryz.prog 3:=Go.Maps.int_keyed (q:=.i64) (by kernel_rfl)
theorem Nr {P:Program} {K:TypeId} {a:Int} {ka:IntKind} (hk:P.keyType K=true) (hu:P.underlying K=some (.int ka)) (hc:P.cellsOf K=1) (hs:0<P.types.size) (g1:(Lit.int ka a).wf=true):∃ l,keyOf P K (.int ka a)=some l:=by
 obtain ⟨d,hd⟩:∃ d,P.types.size=d+1:=⟨P.types.size-1,by omega⟩
 unfold keyOf
 rw [hd]
 simp [hk,hu,Value.formed,hc,Value.cells,Program.keyLits,mapKey,g1]
theorem vq {x:Int} (h : -9223372036854775808≤x∧x≤9223372036854775807):∃ l,keyOf Tryz.prog 3 (MK.i .i64 x).val=some l:=
 Nr (by kernel_rfl) (by kernel_rfl) (by kernel_rfl) (of_decide_eq_true (by kernel_rfl)) (HF h)
theorem dX {l:List (Nat×Int×ah)} {ck:Nat} (h:jx l ck) {x:Int} (hx : -9223372036854775808≤x∧x≤9223372036854775807):b5 Tryz.prog 3 ((.i .i64 x)::List.map (fun (e:Nat×MK×DV)=>e.2.1) (aY l)):=⟨HH,fun k hk=>by
 rcases List.mem_cons.1 hk with rfl | hk
 ·exact vq hx
 ·unfold aY at hk;rw [List.map_map] at hk
  obtain ⟨e,he,rfl⟩:=List.mem_map.1 hk
  have:=(h.e e he).2
  exact vq ⟨by omega,by omega⟩⟩
theorem jT {l:List (Nat×Int×ah)} {ck:Nat} (h:jx l ck):(List.map (fun (e:Nat×MK×DV)=>e.2.1) (aY l)).Nodup:=by
 have e:List.map (fun (e:Nat×MK×DV)=>e.2.1) (aY l)=(l.map fun e=>e.2.1).map (MK.i .i64):=by unfold aY;rw [List.map_map,List.map_map];rfl
 rw [e]
 exact List.Pairwise.map _ (fun a b gm h'=>gm (by injection h')) h.k
def Ov.has (o:Ov) (x:Int):Bool:=o.ls.any fun e=>decide (e.2.1=x)
theorem v7 {o:Ov} {x:Int} (h:o.has x=true):∃ (j b:Nat) (q:ah),o.ls[j]?=some (b,x,q):=by
 unfold Ov.has at h
 obtain ⟨⟨b,z,q⟩,he,hz⟩:=List.any_eq_true.1 h
 obtain ⟨j,hj⟩:=List.mem_iff_getElem?.1 he
 have:=of_decide_eq_true hz;dsimp only at this;subst this
 exact ⟨j,b,q,hj⟩
theorem iq {o:Ov} {x:Int} (h:o.has x=false):∀ zz ∈ aY o.ls,zz.2.1≠.i .i64 x:=fun zz hz he=>by
 unfold aY at hz
 obtain ⟨e,h1,rfl⟩:=List.mem_map.1 hz
 unfold Ov.has at h
 have h2:=List.any_eq_false.1 h e h1
 dsimp only at he;injection he with _ uj
 exact h2 (decide_eq_true uj)
noncomputable def Ov.cB (o:Ov) (x:Int):Option Int:=
 bif o.sv then (if x<1∨(o.homes.length:Int)<x∨x=o.self.node then none else bif !(o.cA x)&&decide (o.hm x=o.self.node) then some x else
  bif (cm o.book o.self (bif o.cA x then x else o.hm x)).2 then some (cm o.book o.self (bif o.cA x then x else o.hm x)).1 else none)
 else some (o.hm o.self.node)
noncomputable def Ov.cz (o:Ov) (x:Int):Int×Bool:=match o.cB x with
 | none=>(0,false)
 | some h=>bif o.has h then (h,true) else (0,false)
theorem ml {o:Ov} (ok:o.Ok) (x:Int):0≤o.hm x∧o.hm x≤4:=by
 unfold Ov.hm
 rw [List.getD_eq_getElem?_getD]
 cases h:o.homes[(x-1).toNat]? with
 | none=>simp
 | some y=>
  have:=ok.hz _ _ h
  have:=ok.n4
  rcases Nat.lt_or_ge (x-1).toNat o.n with hx | hx
  ·have:=(ok.hz _ _ h).1 hx;simp;omega
  ·have:=(ok.hz _ _ h).2 hx;simp;omega
theorem ma (l:List aw) (p:ah) (t:Int) : -9223372036854775808≤(cm l p t).1∧(cm l p t).1≤9223372036854775807:=by
 unfold cm
 split
 ·simp
 ·split
  ·simp
  ·split
   ·simp
   ·split
    ·simp
    ·rename_i q hq
     have hm:=List.mem_of_find?_eq_some hq
     have:=(nk ((dS l).peer (qD.1 hm).1)).1
     exact this
theorem qH {o:Ov} (ok:o.Ok):o.self.eJ:=by
 have:=ok.s1;have:=ok.s2;have:=ok.s3;have:=ok.h
 exact ⟨⟨by omega,by omega⟩,by omega⟩
theorem jG {o:Ov} {x:Int} (h:o.cB x=none):(0,false)=o.cz x:=by unfold Ov.cz;rw [h]
theorem jD {o:Ov} {x h:Int} (e:o.cB x=some h) (hh:o.has h=true):(h,true)=o.cz x:=by unfold Ov.cz;rw [e];simp [hh]
theorem jB {o:Ov} {x h:Int} (e:o.cB x=some h) (hh:o.has h=false):(0,false)=o.cz x:=by unfold Ov.cz;rw [e];simp [hh]
set_option maxRecDepth 100000 in
theorem Hc (o:Ov) (ok:o.Ok) (hl:jx o.ls o.ck) (hb:o.book.length≤9223372036854775807) (hp:∀ x ∈ o.book,x.ay.length≤9223372036854775807) (x:Int):aL Tryz.prog 42 [.pt 0 0,.z x] [ao o 1 2,af o,ai o] (.tu [.z (o.cz x).1,.d (.v (.bool (o.cz x).2))]) (ef o):=by
 have b6:=ok.s1
 have gN:=ok.s2
 have ou:=ok.h
 refine aL.intro (by kernel_rfl) rfl rfl 112 rfl rfl fun D w0 K bs ac wd hK (aB:bs.m=3) r=>?_
 cases h0:(o.sv) with
 | false=>
  have bd:=((by have k:=fk o;rw [h0] at k;exact k):aL Tryz.prog 23 [.pt 0 0] [ao o 1 2,af o,ai o] (aZ) [ao o 1 2,af o,ai o])
  have b3:=((wi (by omega)):IntKind.i64.wrap ((o.self.node:Int)-1)=o.self.node-1)
  have cy:=((by omega):(o.self.node-1)=(((o.self.node-1).toNat:Nat):Int))
  have db:=(wv (by omega) (by omega):(ints o.homes)[(o.self.node-1).toNat]?=some [.z ((o.hm o.self.node))])
  cases h1:(o.has (o.hm o.self.node)) with
  | false=>
   refine bB (y:=.tu [.z 0,aZ]) (N':=[ao o 1 2,af o,ai o]) ((by first | rw [← jD (o:=o) (x:=x) (by unfold Ov.cB;simp only [h0,cond_true,cond_false,Bool.not_true,Bool.not_false,Bool.true_and,Bool.false_and];first | done | rfl | (rw [if_pos (by omega)];done) | (rw [if_neg (by omega)];done) | (rw [if_neg (by omega),decide_eq_true (by omega)];rfl) | (rw [if_neg (by omega),decide_eq_false (by omega)];rfl) | (rw [if_neg (by omega)];rfl)) (by assumption)] | rw [← jB (o:=o) (x:=x) (by unfold Ov.cB;simp only [h0,cond_true,cond_false,Bool.not_true,Bool.not_false,Bool.true_and,Bool.false_and];first | done | rfl | (rw [if_pos (by omega)];done) | (rw [if_neg (by omega)];done) | (rw [if_neg (by omega),decide_eq_true (by omega)];rfl) | (rw [if_neg (by omega),decide_eq_false (by omega)];rfl) | (rw [if_neg (by omega)];rfl)) (by assumption)] | rw [← jG (o:=o) (x:=x) (by unfold Ov.cB;simp only [h0,cond_true,cond_false,Bool.not_true,Bool.not_false,Bool.true_and,Bool.false_and];first | done | rfl | (rw [if_pos (by omega)];done) | (rw [if_neg (by omega)];done) | (rw [if_neg (by omega),decide_eq_true (by omega)];rfl) | (rw [if_neg (by omega),decide_eq_false (by omega)];rfl) | (rw [if_neg (by omega)];rfl))])) (rfl) ?_
   exact bC tk tq hK rfl aB [(9,[(1,.mem [0,1,2] (aZ) [ao o 1 2,af o,ai o])]),(10,[(9,.z (o.self.node-1)),(10,.ix ((o.self.node-1).toNat) [.z ((o.hm o.self.node))])]),(15,[(5,.b false)])] 2000 [0,1,2] r (by kernel_rfl) (U bd (U b3 (U cy (U db (U ((dX hl (by first | omega | (have:=ml ok o.self.node;omega) | exact ma _ _ _)):b5 Tryz.prog 3 ((.i .i64 ((o.hm o.self.node)))::List.map (fun (e:Nat×MK×DV)=>e.2.1) (aY o.ls))) (U ((fun _=>rfl):gp Tryz.prog 24 (.agg [(.int .i64 (0)),(.int .u64 (0))].toArray)) (U ((iq (by assumption)):∀ zz ∈ (aY o.ls:List (Nat×MK×DV)),zz.2.1≠.i .i64 ((o.hm o.self.node))) trivial)))))))
  | true=>
   obtain ⟨jl,bl,ql,fj⟩:=v7 (by assumption)
   refine bB (y:=.tu [.z ((o.hm o.self.node)),aU]) (N':=[ao o 1 2,af o,ai o]) ((by first | rw [← jD (o:=o) (x:=x) (by unfold Ov.cB;simp only [h0,cond_true,cond_false,Bool.not_true,Bool.not_false,Bool.true_and,Bool.false_and];first | done | rfl | (rw [if_pos (by omega)];done) | (rw [if_neg (by omega)];done) | (rw [if_neg (by omega),decide_eq_true (by omega)];rfl) | (rw [if_neg (by omega),decide_eq_false (by omega)];rfl) | (rw [if_neg (by omega)];rfl)) (by assumption)] | rw [← jB (o:=o) (x:=x) (by unfold Ov.cB;simp only [h0,cond_true,cond_false,Bool.not_true,Bool.not_false,Bool.true_and,Bool.false_and];first | done | rfl | (rw [if_pos (by omega)];done) | (rw [if_neg (by omega)];done) | (rw [if_neg (by omega),decide_eq_true (by omega)];rfl) | (rw [if_neg (by omega),decide_eq_false (by omega)];rfl) | (rw [if_neg (by omega)];rfl)) (by assumption)] | rw [← jG (o:=o) (x:=x) (by unfold Ov.cB;simp only [h0,cond_true,cond_false,Bool.not_true,Bool.not_false,Bool.true_and,Bool.false_and];first | done | rfl | (rw [if_pos (by omega)];done) | (rw [if_neg (by omega)];done) | (rw [if_neg (by omega),decide_eq_true (by omega)];rfl) | (rw [if_neg (by omega),decide_eq_false (by omega)];rfl) | (rw [if_neg (by omega)];rfl))])) (rfl) ?_
   exact bC tk tq hK rfl aB [(9,[(1,.mem [0,1,2] (aZ) [ao o 1 2,af o,ai o])]),(10,[(9,.z (o.self.node-1)),(10,.ix ((o.self.node-1).toNat) [.z ((o.hm o.self.node))])]),(15,[(5,.mk (jl) (.i .i64 ((o.hm o.self.node))) (.ag [.z ql.node,.u ql.inc]))])] 2000 [0,1,2] r (by kernel_rfl) (U bd (U b3 (U cy (U db (U ((dX hl (by first | omega | (have:=ml ok o.self.node;omega) | exact ma _ _ _)):b5 Tryz.prog 3 ((.i .i64 ((o.hm o.self.node)))::List.map (fun (e:Nat×MK×DV)=>e.2.1) (aY o.ls))) (U (rfl:(.i .i64 ((o.hm o.self.node)):MK)=.i .i64 ((o.hm o.self.node))) (U ((jT hl):(List.map (fun (e:Nat×MK×DV)=>e.2.1) (aY o.ls)).Nodup) (U (⟨bl,jf fj⟩:∃ b0,(aY o.ls:List (Nat×MK×DV))[jl]?=some (b0,.i .i64 ((o.hm o.self.node)),.ag [.z ql.node,.u ql.inc])) trivial))))))))
 | true=>
  have cZ:=((by have k:=fk o;rw [h0] at k;exact k):aL Tryz.prog 23 [.pt 0 0] [ao o 1 2,af o,ai o] (aU) [ao o 1 2,af o,ai o])
  cases h2:(decide ((x:Int)<1)) with
  | false=>
   have b7:=of_decide_eq_false h2
   have dp:=((by first | rfl | (simp;done)):(((ints o.homes).length:Nat):Int)=((o.homes.length:Nat):Int))
   cases h3:(decide ((((o.homes.length:Nat):Int):Int)<x)) with
   | false=>
    have eV:=of_decide_eq_false h3
    cases h4:((x:Int)==o.self.node) with
    | false=>
     have eA:=ne_of_beq_false h4
     cases h5:(o.cA x) with
     | false=>
      have gF:=((by have k:=e6 o x;rw [h5] at k;exact k):aL Tryz.prog 19 [.pt 0 0,.z x] [ao o 1 2,af o,ai o] (aZ) [ao o 1 2,af o,ai o])
      have gG:=(wv (by omega) (by omega):(ints o.homes)[(x-1).toNat]?=some [.z ((o.hm x))])
      cases h6:(((o.hm x):Int)==o.self.node) with
      | false=>
       have lr:=ne_of_beq_false h6
       cases h7:((cm o.book o.self (o.hm x)).2) with
       | false=>
        refine bB (y:=.tu [.z 0,aZ]) (N':=[ao o 1 2,af o,ai o]) ((by first | rw [← jD (o:=o) (x:=x) (by unfold Ov.cB;simp only [h0,h5,h7,cond_true,cond_false,Bool.not_true,Bool.not_false,Bool.true_and,Bool.false_and];first | done | rfl | (rw [if_pos (by omega)];done) | (rw [if_neg (by omega)];done) | (rw [if_neg (by omega),decide_eq_true (by omega)];rfl) | (rw [if_neg (by omega),decide_eq_false (by omega)];rfl) | (rw [if_neg (by omega)];rfl)) (by assumption)] | rw [← jB (o:=o) (x:=x) (by unfold Ov.cB;simp only [h0,h5,h7,cond_true,cond_false,Bool.not_true,Bool.not_false,Bool.true_and,Bool.false_and];first | done | rfl | (rw [if_pos (by omega)];done) | (rw [if_neg (by omega)];done) | (rw [if_neg (by omega),decide_eq_true (by omega)];rfl) | (rw [if_neg (by omega),decide_eq_false (by omega)];rfl) | (rw [if_neg (by omega)];rfl)) (by assumption)] | rw [← jG (o:=o) (x:=x) (by unfold Ov.cB;simp only [h0,h5,h7,cond_true,cond_false,Bool.not_true,Bool.not_false,Bool.true_and,Bool.false_and];first | done | rfl | (rw [if_pos (by omega)];done) | (rw [if_neg (by omega)];done) | (rw [if_neg (by omega),decide_eq_true (by omega)];rfl) | (rw [if_neg (by omega),decide_eq_false (by omega)];rfl) | (rw [if_neg (by omega)];rfl))])) (rfl) ?_
        exact bC tk tq hK rfl aB [(3,[(2,.mem [0,1,2] (aZ) [ao o 1 2,af o,ai o])]),(4,[(5,.z (x-1)),(6,.ix ((x-1).toNat) [.z ((o.hm x))])]),(5,[(9,.call [.d (.ro 4 (aI o.book)),.ag [.z o.self.node,.u o.self.inc],.z ((o.hm x))] (.tu [.z ((cm o.book o.self (o.hm x)).1),.v (.bool false)]))]),(9,[(1,.mem [0,1,2] (aU) [ao o 1 2,af o,ai o])]),(11,[(1,.b false),(8,.z (((o.homes.length:Nat):Int))),(9,.b false),(18,.b false)]),(13,[(2,.mem [0,1,2] (aZ) [ao o 1 2,af o,ai o]),(10,.z (x-1)),(11,.ix ((x-1).toNat) [.z ((o.hm x))]),(18,.b false)])] 2000 [0,1,2] r (by kernel_rfl) (U cZ (U h2 (U dp (U h3 (U h4 (U gF (U ((wi (by omega)):IntKind.i64.wrap ((x:Int)-1)=x-1) (U ((by omega):(x-1)=(((x-1).toNat:Nat):Int)) (U gG (U h6 (U gF (U ((wi (by omega)):IntKind.i64.wrap ((x:Int)-1)=x-1) (U ((by omega):(x-1)=(((x-1).toNat:Nat):Int)) (U gG (U ((by have k:=vY o.book o.self (o.hm x) hb hp (qH ok);rw [h7] at k;exact k):aD Tryz.prog 60 [.d (.ro 4 (aI o.book)),.ag [.z o.self.node,.u o.self.inc],.z ((o.hm x))] (.tu [.z ((cm o.book o.self (o.hm x)).1),.v (.bool false)])) (U ((by first | exact gX _ | exact dh.two _ _):dh (.tu [.z ((cm o.book o.self (o.hm x)).1),.v (.bool false)])) (U (cQ (4)) (U ((by first | rfl | (simp;done) | (simp<;>omega)):(o.book.length)=(aI o.book).length) (U ((gJ _):cg (aI o.book)=aI o.book) (U (cN (.z o.self.node)) (U (cN (.u o.self.inc)) (U (cN (.z ((o.hm x)))) trivial))))))))))))))))))))))
       | true=>
        have gn:=((by have k:=vY o.book o.self (o.hm x) hb hp (qH ok);rw [h7] at k;exact k):aD Tryz.prog 60 [.d (.ro 4 (aI o.book)),.ag [.z o.self.node,.u o.self.inc],.z ((o.hm x))] (.tu [.z ((cm o.book o.self (o.hm x)).1),.v (.bool true)]))
        have IL:=((by first | exact gX _ | exact dh.two _ _):dh (.tu [.z ((cm o.book o.self (o.hm x)).1),.v (.bool true)]))
        have HI:=((by first | rfl | (simp;done) | (simp<;>omega)):(o.book.length)=(aI o.book).length)
        cases h8:(o.has ((cm o.book o.self (o.hm x)).1)) with
        | false=>
         refine bB (y:=.tu [.z 0,aZ]) (N':=[ao o 1 2,af o,ai o]) ((by first | rw [← jD (o:=o) (x:=x) (by unfold Ov.cB;simp only [h0,h5,h7,h8,cond_true,cond_false,Bool.not_true,Bool.not_false,Bool.true_and,Bool.false_and];first | done | rfl | (rw [if_pos (by omega)];done) | (rw [if_neg (by omega)];done) | (rw [if_neg (by omega),decide_eq_true (by omega)];rfl) | (rw [if_neg (by omega),decide_eq_false (by omega)];rfl) | (rw [if_neg (by omega)];rfl)) (by assumption)] | rw [← jB (o:=o) (x:=x) (by unfold Ov.cB;simp only [h0,h5,h7,h8,cond_true,cond_false,Bool.not_true,Bool.not_false,Bool.true_and,Bool.false_and];first | done | rfl | (rw [if_pos (by omega)];done) | (rw [if_neg (by omega)];done) | (rw [if_neg (by omega),decide_eq_true (by omega)];rfl) | (rw [if_neg (by omega),decide_eq_false (by omega)];rfl) | (rw [if_neg (by omega)];rfl)) (by assumption)] | rw [← jG (o:=o) (x:=x) (by unfold Ov.cB;simp only [h0,h5,h7,h8,cond_true,cond_false,Bool.not_true,Bool.not_false,Bool.true_and,Bool.false_and];first | done | rfl | (rw [if_pos (by omega)];done) | (rw [if_neg (by omega)];done) | (rw [if_neg (by omega),decide_eq_true (by omega)];rfl) | (rw [if_neg (by omega),decide_eq_false (by omega)];rfl) | (rw [if_neg (by omega)];rfl))])) (rfl) ?_
         exact bC tk tq hK rfl aB [(3,[(2,.mem [0,1,2] (aZ) [ao o 1 2,af o,ai o])]),(4,[(5,.z (x-1)),(6,.ix ((x-1).toNat) [.z ((o.hm x))])]),(5,[(9,.call [.d (.ro 4 (aI o.book)),.ag [.z o.self.node,.u o.self.inc],.z ((o.hm x))] (.tu [.z ((cm o.book o.self (o.hm x)).1),.v (.bool true)]))]),(9,[(1,.mem [0,1,2] (aU) [ao o 1 2,af o,ai o])]),(11,[(1,.b false),(8,.z (((o.homes.length:Nat):Int))),(9,.b false),(18,.b false)]),(13,[(2,.mem [0,1,2] (aZ) [ao o 1 2,af o,ai o]),(10,.z (x-1)),(11,.ix ((x-1).toNat) [.z ((o.hm x))]),(18,.b false)]),(15,[(5,.b false)])] 2000 [0,1,2] r (by kernel_rfl) (U cZ (U h2 (U dp (U h3 (U h4 (U gF (U ((wi (by omega)):IntKind.i64.wrap ((x:Int)-1)=x-1) (U ((by omega):(x-1)=(((x-1).toNat:Nat):Int)) (U gG (U h6 (U gF (U ((wi (by omega)):IntKind.i64.wrap ((x:Int)-1)=x-1) (U ((by omega):(x-1)=(((x-1).toNat:Nat):Int)) (U gG (U gn (U IL (U (cQ (4)) (U HI (U ((gJ _):cg (aI o.book)=aI o.book) (U (cN (.z o.self.node)) (U (cN (.u o.self.inc)) (U (cN (.z ((o.hm x)))) (U ((dX hl (by first | omega | (have:=ml ok o.self.node;omega) | exact ma _ _ _)):b5 Tryz.prog 3 ((.i .i64 ((cm o.book o.self (o.hm x)).1))::List.map (fun (e:Nat×MK×DV)=>e.2.1) (aY o.ls))) (U ((fun _=>rfl):gp Tryz.prog 24 (.agg [(.int .i64 (0)),(.int .u64 (0))].toArray)) (U ((iq (by assumption)):∀ zz ∈ (aY o.ls:List (Nat×MK×DV)),zz.2.1≠.i .i64 ((cm o.book o.self (o.hm x)).1)) trivial)))))))))))))))))))))))))
        | true=>
         obtain ⟨jl,bl,ql,fj⟩:=v7 (by assumption)
         refine bB (y:=.tu [.z ((cm o.book o.self (o.hm x)).1),aU]) (N':=[ao o 1 2,af o,ai o]) ((by first | rw [← jD (o:=o) (x:=x) (by unfold Ov.cB;simp only [h0,h5,h7,h8,cond_true,cond_false,Bool.not_true,Bool.not_false,Bool.true_and,Bool.false_and];first | done | rfl | (rw [if_pos (by omega)];done) | (rw [if_neg (by omega)];done) | (rw [if_neg (by omega),decide_eq_true (by omega)];rfl) | (rw [if_neg (by omega),decide_eq_false (by omega)];rfl) | (rw [if_neg (by omega)];rfl)) (by assumption)] | rw [← jB (o:=o) (x:=x) (by unfold Ov.cB;simp only [h0,h5,h7,h8,cond_true,cond_false,Bool.not_true,Bool.not_false,Bool.true_and,Bool.false_and];first | done | rfl | (rw [if_pos (by omega)];done) | (rw [if_neg (by omega)];done) | (rw [if_neg (by omega),decide_eq_true (by omega)];rfl) | (rw [if_neg (by omega),decide_eq_false (by omega)];rfl) | (rw [if_neg (by omega)];rfl)) (by assumption)] | rw [← jG (o:=o) (x:=x) (by unfold Ov.cB;simp only [h0,h5,h7,h8,cond_true,cond_false,Bool.not_true,Bool.not_false,Bool.true_and,Bool.false_and];first | done | rfl | (rw [if_pos (by omega)];done) | (rw [if_neg (by omega)];done) | (rw [if_neg (by omega),decide_eq_true (by omega)];rfl) | (rw [if_neg (by omega),decide_eq_false (by omega)];rfl) | (rw [if_neg (by omega)];rfl))])) (rfl) ?_
         exact bC tk tq hK rfl aB [(3,[(2,.mem [0,1,2] (aZ) [ao o 1 2,af o,ai o])]),(4,[(5,.z (x-1)),(6,.ix ((x-1).toNat) [.z ((o.hm x))])]),(5,[(9,.call [.d (.ro 4 (aI o.book)),.ag [.z o.self.node,.u o.self.inc],.z ((o.hm x))] (.tu [.z ((cm o.book o.self (o.hm x)).1),.v (.bool true)]))]),(9,[(1,.mem [0,1,2] (aU) [ao o 1 2,af o,ai o])]),(11,[(1,.b false),(8,.z (((o.homes.length:Nat):Int))),(9,.b false),(18,.b false)]),(13,[(2,.mem [0,1,2] (aZ) [ao o 1 2,af o,ai o]),(10,.z (x-1)),(11,.ix ((x-1).toNat) [.z ((o.hm x))]),(18,.b false)]),(15,[(5,.mk (jl) (.i .i64 ((cm o.book o.self (o.hm x)).1)) (.ag [.z ql.node,.u ql.inc]))])] 2000 [0,1,2] r (by kernel_rfl) (U cZ (U h2 (U dp (U h3 (U h4 (U gF (U ((wi (by omega)):IntKind.i64.wrap ((x:Int)-1)=x-1) (U ((by omega):(x-1)=(((x-1).toNat:Nat):Int)) (U gG (U h6 (U gF (U ((wi (by omega)):IntKind.i64.wrap ((x:Int)-1)=x-1) (U ((by omega):(x-1)=(((x-1).toNat:Nat):Int)) (U gG (U gn (U IL (U (cQ (4)) (U HI (U ((gJ _):cg (aI o.book)=aI o.book) (U (cN (.z o.self.node)) (U (cN (.u o.self.inc)) (U (cN (.z ((o.hm x)))) (U ((dX hl (by first | omega | (have:=ml ok o.self.node;omega) | exact ma _ _ _)):b5 Tryz.prog 3 ((.i .i64 ((cm o.book o.self (o.hm x)).1))::List.map (fun (e:Nat×MK×DV)=>e.2.1) (aY o.ls))) (U (rfl:(.i .i64 ((cm o.book o.self (o.hm x)).1):MK)=.i .i64 ((cm o.book o.self (o.hm x)).1)) (U ((jT hl):(List.map (fun (e:Nat×MK×DV)=>e.2.1) (aY o.ls)).Nodup) (U (⟨bl,jf fj⟩:∃ b0,(aY o.ls:List (Nat×MK×DV))[jl]?=some (b0,.i .i64 ((cm o.book o.self (o.hm x)).1),.ag [.z ql.node,.u ql.inc])) trivial))))))))))))))))))))))))))
      | true=>
       have lr:=eq_of_beq h6
       cases h9:(o.has x) with
       | false=>
        refine bB (y:=.tu [.z 0,aZ]) (N':=[ao o 1 2,af o,ai o]) ((by first | rw [← jD (o:=o) (x:=x) (by unfold Ov.cB;simp only [h0,h5,cond_true,cond_false,Bool.not_true,Bool.not_false,Bool.true_and,Bool.false_and];first | done | rfl | (rw [if_pos (by omega)];done) | (rw [if_neg (by omega)];done) | (rw [if_neg (by omega),decide_eq_true (by omega)];rfl) | (rw [if_neg (by omega),decide_eq_false (by omega)];rfl) | (rw [if_neg (by omega)];rfl)) (by assumption)] | rw [← jB (o:=o) (x:=x) (by unfold Ov.cB;simp only [h0,h5,cond_true,cond_false,Bool.not_true,Bool.not_false,Bool.true_and,Bool.false_and];first | done | rfl | (rw [if_pos (by omega)];done) | (rw [if_neg (by omega)];done) | (rw [if_neg (by omega),decide_eq_true (by omega)];rfl) | (rw [if_neg (by omega),decide_eq_false (by omega)];rfl) | (rw [if_neg (by omega)];rfl)) (by assumption)] | rw [← jG (o:=o) (x:=x) (by unfold Ov.cB;simp only [h0,h5,cond_true,cond_false,Bool.not_true,Bool.not_false,Bool.true_and,Bool.false_and];first | done | rfl | (rw [if_pos (by omega)];done) | (rw [if_neg (by omega)];done) | (rw [if_neg (by omega),decide_eq_true (by omega)];rfl) | (rw [if_neg (by omega),decide_eq_false (by omega)];rfl) | (rw [if_neg (by omega)];rfl))])) (rfl) ?_
        exact bC tk tq hK rfl aB [(9,[(1,.mem [0,1,2] (aU) [ao o 1 2,af o,ai o])]),(11,[(1,.b false),(8,.z (((o.homes.length:Nat):Int))),(9,.b false),(18,.b false)]),(13,[(2,.mem [0,1,2] (aZ) [ao o 1 2,af o,ai o]),(10,.z (x-1)),(11,.ix ((x-1).toNat) [.z ((o.hm x))]),(18,.b true)]),(15,[(5,.b false)])] 2000 [0,1,2] r (by kernel_rfl) (U cZ (U h2 (U dp (U h3 (U h4 (U gF (U ((wi (by omega)):IntKind.i64.wrap ((x:Int)-1)=x-1) (U ((by omega):(x-1)=(((x-1).toNat:Nat):Int)) (U gG (U h6 (U ((dX hl (by first | omega | (have:=ml ok o.self.node;omega) | exact ma _ _ _)):b5 Tryz.prog 3 ((.i .i64 (x))::List.map (fun (e:Nat×MK×DV)=>e.2.1) (aY o.ls))) (U ((fun _=>rfl):gp Tryz.prog 24 (.agg [(.int .i64 (0)),(.int .u64 (0))].toArray)) (U ((iq (by assumption)):∀ zz ∈ (aY o.ls:List (Nat×MK×DV)),zz.2.1≠.i .i64 (x)) trivial)))))))))))))
       | true=>
        obtain ⟨jl,bl,ql,fj⟩:=v7 (by assumption)
        refine bB (y:=.tu [.z x,aU]) (N':=[ao o 1 2,af o,ai o]) ((by first | rw [← jD (o:=o) (x:=x) (by unfold Ov.cB;simp only [h0,h5,cond_true,cond_false,Bool.not_true,Bool.not_false,Bool.true_and,Bool.false_and];first | done | rfl | (rw [if_pos (by omega)];done) | (rw [if_neg (by omega)];done) | (rw [if_neg (by omega),decide_eq_true (by omega)];rfl) | (rw [if_neg (by omega),decide_eq_false (by omega)];rfl) | (rw [if_neg (by omega)];rfl)) (by assumption)] | rw [← jB (o:=o) (x:=x) (by unfold Ov.cB;simp only [h0,h5,cond_true,cond_false,Bool.not_true,Bool.not_false,Bool.true_and,Bool.false_and];first | done | rfl | (rw [if_pos (by omega)];done) | (rw [if_neg (by omega)];done) | (rw [if_neg (by omega),decide_eq_true (by omega)];rfl) | (rw [if_neg (by omega),decide_eq_false (by omega)];rfl) | (rw [if_neg (by omega)];rfl)) (by assumption)] | rw [← jG (o:=o) (x:=x) (by unfold Ov.cB;simp only [h0,h5,cond_true,cond_false,Bool.not_true,Bool.not_false,Bool.true_and,Bool.false_and];first | done | rfl | (rw [if_pos (by omega)];done) | (rw [if_neg (by omega)];done) | (rw [if_neg (by omega),decide_eq_true (by omega)];rfl) | (rw [if_neg (by omega),decide_eq_false (by omega)];rfl) | (rw [if_neg (by omega)];rfl))])) (rfl) ?_
        exact bC tk tq hK rfl aB [(9,[(1,.mem [0,1,2] (aU) [ao o 1 2,af o,ai o])]),(11,[(1,.b false),(8,.z (((o.homes.length:Nat):Int))),(9,.b false),(18,.b false)]),(13,[(2,.mem [0,1,2] (aZ) [ao o 1 2,af o,ai o]),(10,.z (x-1)),(11,.ix ((x-1).toNat) [.z ((o.hm x))]),(18,.b true)]),(15,[(5,.mk (jl) (.i .i64 (x)) (.ag [.z ql.node,.u ql.inc]))])] 2000 [0,1,2] r (by kernel_rfl) (U cZ (U h2 (U dp (U h3 (U h4 (U gF (U ((wi (by omega)):IntKind.i64.wrap ((x:Int)-1)=x-1) (U ((by omega):(x-1)=(((x-1).toNat:Nat):Int)) (U gG (U h6 (U ((dX hl (by first | omega | (have:=ml ok o.self.node;omega) | exact ma _ _ _)):b5 Tryz.prog 3 ((.i .i64 (x))::List.map (fun (e:Nat×MK×DV)=>e.2.1) (aY o.ls))) (U (rfl:(.i .i64 (x):MK)=.i .i64 (x)) (U ((jT hl):(List.map (fun (e:Nat×MK×DV)=>e.2.1) (aY o.ls)).Nodup) (U (⟨bl,jf fj⟩:∃ b0,(aY o.ls:List (Nat×MK×DV))[jl]?=some (b0,.i .i64 (x),.ag [.z ql.node,.u ql.inc])) trivial))))))))))))))
     | true=>
      have rn:=((by have k:=e6 o x;rw [h5] at k;exact k):aL Tryz.prog 19 [.pt 0 0,.z x] [ao o 1 2,af o,ai o] (aU) [ao o 1 2,af o,ai o])
      cases cD:((cm o.book o.self x).2) with
      | false=>
       refine bB (y:=.tu [.z 0,aZ]) (N':=[ao o 1 2,af o,ai o]) ((by first | rw [← jD (o:=o) (x:=x) (by unfold Ov.cB;simp only [h0,h5,cD,cond_true,cond_false,Bool.not_true,Bool.not_false,Bool.true_and,Bool.false_and];first | done | rfl | (rw [if_pos (by omega)];done) | (rw [if_neg (by omega)];done) | (rw [if_neg (by omega),decide_eq_true (by omega)];rfl) | (rw [if_neg (by omega),decide_eq_false (by omega)];rfl) | (rw [if_neg (by omega)];rfl)) (by assumption)] | rw [← jB (o:=o) (x:=x) (by unfold Ov.cB;simp only [h0,h5,cD,cond_true,cond_false,Bool.not_true,Bool.not_false,Bool.true_and,Bool.false_and];first | done | rfl | (rw [if_pos (by omega)];done) | (rw [if_neg (by omega)];done) | (rw [if_neg (by omega),decide_eq_true (by omega)];rfl) | (rw [if_neg (by omega),decide_eq_false (by omega)];rfl) | (rw [if_neg (by omega)];rfl)) (by assumption)] | rw [← jG (o:=o) (x:=x) (by unfold Ov.cB;simp only [h0,h5,cD,cond_true,cond_false,Bool.not_true,Bool.not_false,Bool.true_and,Bool.false_and];first | done | rfl | (rw [if_pos (by omega)];done) | (rw [if_neg (by omega)];done) | (rw [if_neg (by omega),decide_eq_true (by omega)];rfl) | (rw [if_neg (by omega),decide_eq_false (by omega)];rfl) | (rw [if_neg (by omega)];rfl))])) (rfl) ?_
       exact bC tk tq hK rfl aB [(3,[(2,.mem [0,1,2] (aU) [ao o 1 2,af o,ai o])]),(5,[(9,.call [.d (.ro 4 (aI o.book)),.ag [.z o.self.node,.u o.self.inc],.z x] (.tu [.z ((cm o.book o.self x).1),.v (.bool false)]))]),(9,[(1,.mem [0,1,2] (aU) [ao o 1 2,af o,ai o])]),(11,[(1,.b false),(8,.z (((o.homes.length:Nat):Int))),(9,.b false),(18,.b false)]),(13,[(2,.mem [0,1,2] (aU) [ao o 1 2,af o,ai o])])] 2000 [0,1,2] r (by kernel_rfl) (U cZ (U h2 (U dp (U h3 (U h4 (U rn (U rn (U ((by have k:=vY o.book o.self x hb hp (qH ok);rw [cD] at k;exact k):aD Tryz.prog 60 [.d (.ro 4 (aI o.book)),.ag [.z o.self.node,.u o.self.inc],.z x] (.tu [.z ((cm o.book o.self x).1),.v (.bool false)])) (U ((by first | exact gX _ | exact dh.two _ _):dh (.tu [.z ((cm o.book o.self x).1),.v (.bool false)])) (U (cQ (4)) (U ((by first | rfl | (simp;done) | (simp<;>omega)):(o.book.length)=(aI o.book).length) (U ((gJ _):cg (aI o.book)=aI o.book) (U (cN (.z o.self.node)) (U (cN (.u o.self.inc)) (U (cN (.z x)) trivial)))))))))))))))
      | true=>
       have HJ:=((by have k:=vY o.book o.self x hb hp (qH ok);rw [cD] at k;exact k):aD Tryz.prog 60 [.d (.ro 4 (aI o.book)),.ag [.z o.self.node,.u o.self.inc],.z x] (.tu [.z ((cm o.book o.self x).1),.v (.bool true)]))
       have HK:=((by first | exact gX _ | exact dh.two _ _):dh (.tu [.z ((cm o.book o.self x).1),.v (.bool true)]))
       have HL:=((by first | rfl | (simp;done) | (simp<;>omega)):(o.book.length)=(aI o.book).length)
       cases et:(o.has ((cm o.book o.self x).1)) with
       | false=>
        refine bB (y:=.tu [.z 0,aZ]) (N':=[ao o 1 2,af o,ai o]) ((by first | rw [← jD (o:=o) (x:=x) (by unfold Ov.cB;simp only [h0,h5,cD,et,cond_true,cond_false,Bool.not_true,Bool.not_false,Bool.true_and,Bool.false_and];first | done | rfl | (rw [if_pos (by omega)];done) | (rw [if_neg (by omega)];done) | (rw [if_neg (by omega),decide_eq_true (by omega)];rfl) | (rw [if_neg (by omega),decide_eq_false (by omega)];rfl) | (rw [if_neg (by omega)];rfl)) (by assumption)] | rw [← jB (o:=o) (x:=x) (by unfold Ov.cB;simp only [h0,h5,cD,et,cond_true,cond_false,Bool.not_true,Bool.not_false,Bool.true_and,Bool.false_and];first | done | rfl | (rw [if_pos (by omega)];done) | (rw [if_neg (by omega)];done) | (rw [if_neg (by omega),decide_eq_true (by omega)];rfl) | (rw [if_neg (by omega),decide_eq_false (by omega)];rfl) | (rw [if_neg (by omega)];rfl)) (by assumption)] | rw [← jG (o:=o) (x:=x) (by unfold Ov.cB;simp only [h0,h5,cD,et,cond_true,cond_false,Bool.not_true,Bool.not_false,Bool.true_and,Bool.false_and];first | done | rfl | (rw [if_pos (by omega)];done) | (rw [if_neg (by omega)];done) | (rw [if_neg (by omega),decide_eq_true (by omega)];rfl) | (rw [if_neg (by omega),decide_eq_false (by omega)];rfl) | (rw [if_neg (by omega)];rfl))])) (rfl) ?_
        exact bC tk tq hK rfl aB [(3,[(2,.mem [0,1,2] (aU) [ao o 1 2,af o,ai o])]),(5,[(9,.call [.d (.ro 4 (aI o.book)),.ag [.z o.self.node,.u o.self.inc],.z x] (.tu [.z ((cm o.book o.self x).1),.v (.bool true)]))]),(9,[(1,.mem [0,1,2] (aU) [ao o 1 2,af o,ai o])]),(11,[(1,.b false),(8,.z (((o.homes.length:Nat):Int))),(9,.b false),(18,.b false)]),(13,[(2,.mem [0,1,2] (aU) [ao o 1 2,af o,ai o])]),(15,[(5,.b false)])] 2000 [0,1,2] r (by kernel_rfl) (U cZ (U h2 (U dp (U h3 (U h4 (U rn (U rn (U HJ (U HK (U (cQ (4)) (U HL (U ((gJ _):cg (aI o.book)=aI o.book) (U (cN (.z o.self.node)) (U (cN (.u o.self.inc)) (U (cN (.z x)) (U ((dX hl (by first | omega | (have:=ml ok o.self.node;omega) | exact ma _ _ _)):b5 Tryz.prog 3 ((.i .i64 ((cm o.book o.self x).1))::List.map (fun (e:Nat×MK×DV)=>e.2.1) (aY o.ls))) (U ((fun _=>rfl):gp Tryz.prog 24 (.agg [(.int .i64 (0)),(.int .u64 (0))].toArray)) (U ((iq (by assumption)):∀ zz ∈ (aY o.ls:List (Nat×MK×DV)),zz.2.1≠.i .i64 ((cm o.book o.self x).1)) trivial))))))))))))))))))
       | true=>
        obtain ⟨jl,bl,ql,fj⟩:=v7 (by assumption)
        refine bB (y:=.tu [.z ((cm o.book o.self x).1),aU]) (N':=[ao o 1 2,af o,ai o]) ((by first | rw [← jD (o:=o) (x:=x) (by unfold Ov.cB;simp only [h0,h5,cD,et,cond_true,cond_false,Bool.not_true,Bool.not_false,Bool.true_and,Bool.false_and];first | done | rfl | (rw [if_pos (by omega)];done) | (rw [if_neg (by omega)];done) | (rw [if_neg (by omega),decide_eq_true (by omega)];rfl) | (rw [if_neg (by omega),decide_eq_false (by omega)];rfl) | (rw [if_neg (by omega)];rfl)) (by assumption)] | rw [← jB (o:=o) (x:=x) (by unfold Ov.cB;simp only [h0,h5,cD,et,cond_true,cond_false,Bool.not_true,Bool.not_false,Bool.true_and,Bool.false_and];first | done | rfl | (rw [if_pos (by omega)];done) | (rw [if_neg (by omega)];done) | (rw [if_neg (by omega),decide_eq_true (by omega)];rfl) | (rw [if_neg (by omega),decide_eq_false (by omega)];rfl) | (rw [if_neg (by omega)];rfl)) (by assumption)] | rw [← jG (o:=o) (x:=x) (by unfold Ov.cB;simp only [h0,h5,cD,et,cond_true,cond_false,Bool.not_true,Bool.not_false,Bool.true_and,Bool.false_and];first | done | rfl | (rw [if_pos (by omega)];done) | (rw [if_neg (by omega)];done) | (rw [if_neg (by omega),decide_eq_true (by omega)];rfl) | (rw [if_neg (by omega),decide_eq_false (by omega)];rfl) | (rw [if_neg (by omega)];rfl))])) (rfl) ?_
        exact bC tk tq hK rfl aB [(3,[(2,.mem [0,1,2] (aU) [ao o 1 2,af o,ai o])]),(5,[(9,.call [.d (.ro 4 (aI o.book)),.ag [.z o.self.node,.u o.self.inc],.z x] (.tu [.z ((cm o.book o.self x).1),.v (.bool true)]))]),(9,[(1,.mem [0,1,2] (aU) [ao o 1 2,af o,ai o])]),(11,[(1,.b false),(8,.z (((o.homes.length:Nat):Int))),(9,.b false),(18,.b false)]),(13,[(2,.mem [0,1,2] (aU) [ao o 1 2,af o,ai o])]),(15,[(5,.mk (jl) (.i .i64 ((cm o.book o.self x).1)) (.ag [.z ql.node,.u ql.inc]))])] 2000 [0,1,2] r (by kernel_rfl) (U cZ (U h2 (U dp (U h3 (U h4 (U rn (U rn (U HJ (U HK (U (cQ (4)) (U HL (U ((gJ _):cg (aI o.book)=aI o.book) (U (cN (.z o.self.node)) (U (cN (.u o.self.inc)) (U (cN (.z x)) (U ((dX hl (by first | omega | (have:=ml ok o.self.node;omega) | exact ma _ _ _)):b5 Tryz.prog 3 ((.i .i64 ((cm o.book o.self x).1))::List.map (fun (e:Nat×MK×DV)=>e.2.1) (aY o.ls))) (U (rfl:(.i .i64 ((cm o.book o.self x).1):MK)=.i .i64 ((cm o.book o.self x).1)) (U ((jT hl):(List.map (fun (e:Nat×MK×DV)=>e.2.1) (aY o.ls)).Nodup) (U (⟨bl,jf fj⟩:∃ b0,(aY o.ls:List (Nat×MK×DV))[jl]?=some (b0,.i .i64 ((cm o.book o.self x).1),.ag [.z ql.node,.u ql.inc])) trivial)))))))))))))))))))
    | true=>
     have eA:=eq_of_beq h4
     refine bB (y:=.tu [.z 0,aZ]) (N':=[ao o 1 2,af o,ai o]) ((by first | rw [← jD (o:=o) (x:=x) (by unfold Ov.cB;simp only [h0,cond_true,cond_false,Bool.not_true,Bool.not_false,Bool.true_and,Bool.false_and];first | done | rfl | (rw [if_pos (by omega)];done) | (rw [if_neg (by omega)];done) | (rw [if_neg (by omega),decide_eq_true (by omega)];rfl) | (rw [if_neg (by omega),decide_eq_false (by omega)];rfl) | (rw [if_neg (by omega)];rfl)) (by assumption)] | rw [← jB (o:=o) (x:=x) (by unfold Ov.cB;simp only [h0,cond_true,cond_false,Bool.not_true,Bool.not_false,Bool.true_and,Bool.false_and];first | done | rfl | (rw [if_pos (by omega)];done) | (rw [if_neg (by omega)];done) | (rw [if_neg (by omega),decide_eq_true (by omega)];rfl) | (rw [if_neg (by omega),decide_eq_false (by omega)];rfl) | (rw [if_neg (by omega)];rfl)) (by assumption)] | rw [← jG (o:=o) (x:=x) (by unfold Ov.cB;simp only [h0,cond_true,cond_false,Bool.not_true,Bool.not_false,Bool.true_and,Bool.false_and];first | done | rfl | (rw [if_pos (by omega)];done) | (rw [if_neg (by omega)];done) | (rw [if_neg (by omega),decide_eq_true (by omega)];rfl) | (rw [if_neg (by omega),decide_eq_false (by omega)];rfl) | (rw [if_neg (by omega)];rfl))])) (rfl) ?_
     exact bC tk tq hK rfl aB [(9,[(1,.mem [0,1,2] (aU) [ao o 1 2,af o,ai o])]),(11,[(1,.b false),(8,.z (((o.homes.length:Nat):Int))),(9,.b false),(18,.b true)])] 2000 [0,1,2] r (by kernel_rfl) (U cZ (U h2 (U dp (U h3 (U h4 trivial)))))
   | true=>
    have eV:=of_decide_eq_true h3
    refine bB (y:=.tu [.z 0,aZ]) (N':=[ao o 1 2,af o,ai o]) ((by first | rw [← jD (o:=o) (x:=x) (by unfold Ov.cB;simp only [h0,cond_true,cond_false,Bool.not_true,Bool.not_false,Bool.true_and,Bool.false_and];first | done | rfl | (rw [if_pos (by omega)];done) | (rw [if_neg (by omega)];done) | (rw [if_neg (by omega),decide_eq_true (by omega)];rfl) | (rw [if_neg (by omega),decide_eq_false (by omega)];rfl) | (rw [if_neg (by omega)];rfl)) (by assumption)] | rw [← jB (o:=o) (x:=x) (by unfold Ov.cB;simp only [h0,cond_true,cond_false,Bool.not_true,Bool.not_false,Bool.true_and,Bool.false_and];first | done | rfl | (rw [if_pos (by omega)];done) | (rw [if_neg (by omega)];done) | (rw [if_neg (by omega),decide_eq_true (by omega)];rfl) | (rw [if_neg (by omega),decide_eq_false (by omega)];rfl) | (rw [if_neg (by omega)];rfl)) (by assumption)] | rw [← jG (o:=o) (x:=x) (by unfold Ov.cB;simp only [h0,cond_true,cond_false,Bool.not_true,Bool.not_false,Bool.true_and,Bool.false_and];first | done | rfl | (rw [if_pos (by omega)];done) | (rw [if_neg (by omega)];done) | (rw [if_neg (by omega),decide_eq_true (by omega)];rfl) | (rw [if_neg (by omega),decide_eq_false (by omega)];rfl) | (rw [if_neg (by omega)];rfl))])) (rfl) ?_
    exact bC tk tq hK rfl aB [(9,[(1,.mem [0,1,2] (aU) [ao o 1 2,af o,ai o])]),(11,[(1,.b false),(8,.z (((o.homes.length:Nat):Int))),(9,.b true)])] 2000 [0,1,2] r (by kernel_rfl) (U cZ (U h2 (U dp (U h3 trivial))))
  | true=>
   have b7:=of_decide_eq_true h2
   refine bB (y:=.tu [.z 0,aZ]) (N':=[ao o 1 2,af o,ai o]) ((by first | rw [← jD (o:=o) (x:=x) (by unfold Ov.cB;simp only [h0,cond_true,cond_false,Bool.not_true,Bool.not_false,Bool.true_and,Bool.false_and];first | done | rfl | (rw [if_pos (by omega)];done) | (rw [if_neg (by omega)];done) | (rw [if_neg (by omega),decide_eq_true (by omega)];rfl) | (rw [if_neg (by omega),decide_eq_false (by omega)];rfl) | (rw [if_neg (by omega)];rfl)) (by assumption)] | rw [← jB (o:=o) (x:=x) (by unfold Ov.cB;simp only [h0,cond_true,cond_false,Bool.not_true,Bool.not_false,Bool.true_and,Bool.false_and];first | done | rfl | (rw [if_pos (by omega)];done) | (rw [if_neg (by omega)];done) | (rw [if_neg (by omega),decide_eq_true (by omega)];rfl) | (rw [if_neg (by omega),decide_eq_false (by omega)];rfl) | (rw [if_neg (by omega)];rfl)) (by assumption)] | rw [← jG (o:=o) (x:=x) (by unfold Ov.cB;simp only [h0,cond_true,cond_false,Bool.not_true,Bool.not_false,Bool.true_and,Bool.false_and];first | done | rfl | (rw [if_pos (by omega)];done) | (rw [if_neg (by omega)];done) | (rw [if_neg (by omega),decide_eq_true (by omega)];rfl) | (rw [if_neg (by omega),decide_eq_false (by omega)];rfl) | (rw [if_neg (by omega)];rfl))])) (rfl) ?_
   exact bC tk tq hK rfl aB [(9,[(1,.mem [0,1,2] (aU) [ao o 1 2,af o,ai o])]),(11,[(1,.b true)])] 2000 [0,1,2] r (by kernel_rfl) (U cZ (U h2 trivial))
end Go.Proofs.YtlinpknagdgphaaGreat
namespace Go.Proofs.YtlinpknagdgphaaGreat
open Go.RowKit
theorem LD (l:List Hd):bA (al l):=by
 unfold bA;rw [List.all_eq_true];intro r hr
 unfold al at hr;obtain ⟨a,-,rfl⟩:=List.mem_map.1 hr;rfl
set_option maxRecDepth 100000 in
theorem Jc (l:List Hd) (h0:0<l.length) (hb:l.length<2147483648):aD Tryz.prog 57 [.d (.ro 4 (al l))] (.em 58 4 (al l)):=by
 refine aD.intro (by kernel_rfl) rfl rfl 8 rfl rfl fun w0 K ac hK r=>?_
 rw [show (.em 58 4 (al l):DV)=.em 58 4 ([]++(al l)) from rfl]
 exact aQ tk tq hK rfl [] 2000 r (by kernel_rfl) (U ((by rw [cb];exact h0):0<(al l).length) (U ((by first | rfl | (simp [cb];done) | (simp [cb]<;>omega)):(0)=([]:List (List DV)).length) (U ((by simp [cb];omega):(2*((0)+(al l:List (List DV)).length)+0)*32≤281474976710656) (U ((by simp [cb];omega):(0)+(al l:List (List DV)).length<4611686018427387904) (U ((LD _):bA (al l)) (U ((by first | rfl | (simp [cb];done) | (simp [cb]<;>omega)):(0+(al l:List (List DV)).length)=([]++(al l):List (List DV)).length) trivial))))))
set_option maxRecDepth 100000 in
theorem Jd (c:Nat):aD Tryz.prog 57 [.d (.v (.slice none 0 c))] (.v (.slice none 0 0)):=by
 refine aD.intro (by kernel_rfl) rfl rfl 8 rfl rfl fun w0 K ac hK r=>?_
 exact aQ tk tq hK rfl [] 2000 r (by kernel_rfl) trivial
set_option maxRecDepth 100000 in
theorem Jk (a:Addr) (c:Nat):aD Tryz.prog 57 [.d (.v (.slice (some a) 0 c))] (.em 58 4 ([]++[])):=by
 refine aD.intro (by kernel_rfl) rfl rfl 8 rfl rfl fun w0 K ac hK r=>?_
 exact aQ tk tq hK rfl [] 2000 r (by kernel_rfl) (U ((by simp):(0)=([]:List (List DV)).length) (U ((by first | omega | (simp;done) | (simp<;>omega)):(2*((0)+0)+0)*32≤281474976710656) (U ((by first | omega | (simp;done) | (simp<;>omega)):(0)+0<4611686018427387904) (U ((by simp [bA,AV.one,cd]):bA (([]:List (List DV)))) (U ((by simp):(0+0)=([]++([]:List (List DV)):List (List DV)).length) trivial)))))
theorem Ke (l:List Hd) (hb:l.length<2147483648):aD Tryz.prog 57 [.d (.ro 4 (al l))] (.em 58 4 (al l)):=by
 cases l with
 | nil=>
  refine aD.empty (pre:=[]) (post:=[]) fun a c=>?_
  cases a with
  | none=>exact aD.nil 58 4 (Jd c)
  | some a=>exact Jk a c
 | cons b l=>exact Jc (b::l) (by simp) hb
def iB (l:List (Nat×Int×List Hd)) (z:Int):Bool:=l.any fun e=>decide (e.2.1=z)
theorem OL {l:List (Nat×Int×List Hd)} {z:Int} (h:iB l z=true):∃ (j b:Nat) (q:List Hd),l[j]?=some (b,z,q):=by
 unfold iB at h
 obtain ⟨⟨b,y,q⟩,he,hz⟩:=List.any_eq_true.1 h
 obtain ⟨j,hj⟩:=List.mem_iff_getElem?.1 he
 have:=of_decide_eq_true hz;dsimp only at this;subst this
 exact ⟨j,b,q,hj⟩
theorem FR {l:List (Nat×Int×List Hd)} {z:Int} (h:iB l z=false):∀ e ∈ l,e.2.1≠z:=fun e he h2=>by
 unfold iB at h
 exact List.any_eq_false.1 h e he (decide_eq_true h2)
theorem EW {l:List (Nat×Int×List Hd)} {z:Int} (h:iB l z=false):∀ zz ∈ bT l,zz.2.1≠.i .i64 z:=fun zz hz he=>by
 unfold bT at hz
 obtain ⟨e,h1,rfl⟩:=List.mem_map.1 hz
 dsimp only at he;injection he with _ uj
 exact FR h e h1 uj
def gg (l:List (Nat×Int×List Hd)) (z:Int) (h:Hd):List (Nat×Int×List Hd):=
 bif iB l z then l.map fun e=>if e.2.1=z then (e.1,e.2.1,e.2.2++[h]) else e else l++[(l.length,z,[h])]
noncomputable def Ov.bn (o:Ov):List (Nat×Int×List Hd)→List Hd→List (Nat×Int×List Hd):=fun s l=>l.foldl (fun s h=>bif (o.cz h.dst).2 then gg s (o.cz h.dst).1 h else s) s
theorem sh {o:Ov} {l:List Hd} {i:Nat} {h:Hd} (g:l[i]?=some h):o.bn [] (l.take (i+1))=bif (o.cz h.dst).2 then gg (o.bn [] (l.take i)) (o.cz h.dst).1 h else o.bn [] (l.take i):=by
 unfold Ov.bn;rw [List.take_add_one,g,Option.toList_some,List.foldl_append];rfl
structure kV (l:List (Nat×Int×List Hd)):Prop where
 b:l.map (fun e=>e.1)=List.range l.length
 k:(dJ l).Nodup
 r:∀ e ∈ l,-9223372036854775808≤e.2.1∧e.2.1≤9223372036854775807
theorem kV.ok {l:List (Nat×Int×List Hd)} (h:kV l):oq l l.length:=⟨by rw [h.b];exact List.nodup_range,fun e he=>by
 have:e.1 ∈ l.map (fun e=>e.1):=List.mem_map.2 ⟨e,he,rfl⟩
 rw [h.b] at this;exact List.mem_range.1 this,h.k⟩
theorem FT (l:List (Nat×Int×List Hd)) (z:Int) (h:Hd):dJ (gg l z h)=bif iB l z then dJ l else dJ l++[z]:=by
 unfold gg
 cases hh:iB l z with
 | true=>
  simp only [cond_true];unfold dJ;rw [List.map_map];apply List.map_congr_left;intro e _
  dsimp only [Function.comp];split<;>rfl
 | false=>simp [dJ]
theorem kV.put {l:List (Nat×Int×List Hd)} (h:kV l) {z:Int} (hz : -9223372036854775808≤z∧z≤9223372036854775807) (x:Hd):kV (gg l z x):=by
 cases hh:iB l z with
 | true=>
  have e:gg l z x=l.map fun e=>if e.2.1=z then (e.1,e.2.1,e.2.2++[x]) else e:=by unfold gg;rw [hh];rfl
  refine ⟨?_,by rw [FT,hh];exact h.k,fun e' he=>?_⟩
  ·rw [e,List.length_map,← h.b,List.map_map];apply List.map_congr_left;intro q _;dsimp only [Function.comp];split<;>rfl
  ·rw [e] at he;obtain ⟨q,hq,rfl⟩:=List.mem_map.1 he
   have:=h.r q hq;split<;>exact this
 | false=>
  have e:gg l z x=l++[(l.length,z,[x])]:=by unfold gg;rw [hh];rfl
  refine ⟨by rw [e];simp [h.b,List.range_succ],?_,fun e' he=>?_⟩
  ·rw [FT,hh];simp only [cond_false]
   rw [List.nodup_append]
   refine ⟨h.k,by simp,fun a ha b hb=>?_⟩
   rw [List.mem_singleton] at hb;subst hb
   rintro rfl
   unfold dJ at ha;obtain ⟨q,hq,h2⟩:=List.mem_map.1 ha
   exact FR hh q hq h2
  ·rw [e] at he
   rcases List.mem_append.1 he with he | he
   ·exact h.r e' he
   ·rw [List.mem_singleton] at he;subst he;exact hz
theorem Ns (l:List (Nat×Int×List Hd)) (z:Int) (x:Hd):(gg l z x).length≤l.length+1:=by
 unfold gg;cases iB l z<;>simp
theorem ss {o:Ov} (ok:o.Ok) (x:Int) : -9223372036854775808≤(o.cz x).1∧(o.cz x).1≤9223372036854775807:=by
 have h0:=ml ok o.self.node
 have h3:=ok.h
 unfold Ov.cz
 cases hh:o.cB x with
 | none=>simp
 | some h=>
  dsimp only
  have hr : -9223372036854775808≤h∧h≤9223372036854775807:=by
   unfold Ov.cB at hh
   cases hs:o.sv with
   | false=>rw [hs] at hh;simp only [cond_false,Option.some.injEq] at hh;omega
   | true=>
    rw [hs] at hh;simp only [cond_true] at hh
    split at hh
    ·cases hh
    ·rename_i hx
     cases ha:(!(o.cA x)&&decide (o.hm x=o.self.node)) with
     | true=>rw [ha] at hh;simp only [cond_true,Option.some.injEq] at hh;omega
     | false=>
      rw [ha] at hh;simp only [cond_false] at hh
      cases hn:(cm o.book o.self (bif o.cA x then x else o.hm x)).2 with
      | false=>rw [hn] at hh;cases hh
      | true=>rw [hn] at hh;simp only [cond_true,Option.some.injEq] at hh;subst hh;exact ma _ _ _
  cases o.has h<;>simp [hr]
theorem sD {o:Ov} (ok:o.Ok) (l:List Hd):∀ i,i≤l.length→kV (o.bn [] (l.take i))∧(o.bn [] (l.take i)).length≤i
 | 0,_=>by simp only [List.take_zero,Ov.bn,List.foldl_nil];exact ⟨⟨rfl,List.nodup_nil,by simp⟩,Nat.le_refl _⟩
 | i+1,hi=>by
  obtain ⟨h1,h2⟩:=sD ok l i (by omega)
  have g:l[i]?=some l[i]:=List.getElem?_eq_getElem (by omega)
  rw [sh g]
  cases (o.cz l[i].dst).2 with
  | false=>simp only [cond_false];exact ⟨h1,by omega⟩
  | true=>simp only [cond_true];exact ⟨h1.put (ss ok _) _,Nat.le_trans (Ns _ _ _) (by omega)⟩
theorem FU {o:Ov} (l:List Hd):∀ i,i≤l.length→∀ e ∈ o.bn [] (l.take i),e.2.2.length≤i
 | 0,_=>by simp [Ov.bn]
 | i+1,hi=>by
  have ih:=FU (o:=o) l i (by omega)
  have g:l[i]?=some l[i]:=List.getElem?_eq_getElem (by omega)
  rw [sh g]
  intro e he
  cases hw:(o.cz l[i].dst).2 with
  | false=>rw [hw] at he;have:=ih e he;omega
  | true=>
   rw [hw] at he;simp only [cond_true] at he
   unfold gg at he
   cases hh:iB (o.bn [] (l.take i)) (o.cz l[i].dst).1 with
   | true=>
    rw [hh] at he;simp only [cond_true] at he
    obtain ⟨q,hq,rfl⟩:=List.mem_map.1 he
    have:=ih q hq
    split<;>(try simp)<;>omega
   | false=>
    rw [hh] at he;simp only [cond_false] at he
    rcases List.mem_append.1 he with he | he
    ·have:=ih e he;omega
    ·rw [List.mem_singleton] at he;subst he;simp
theorem sO {l:List (Nat×Int×List Hd)} (h:kV l) {x:Int} (hx : -9223372036854775808≤x∧x≤9223372036854775807):b5 Tryz.prog 3 ((.i .i64 x)::List.map (fun (e:Nat×MK×DV)=>e.2.1) (bT l)):=⟨HH,fun k hk=>by
 rcases List.mem_cons.1 hk with rfl | hk
 ·exact vq hx
 ·unfold bT at hk;rw [List.map_map] at hk
  obtain ⟨e,he,rfl⟩:=List.mem_map.1 hk
  exact vq (h.r e he)⟩
theorem BZ {l:List (Nat×Int×List Hd)} (h:kV l):(List.map (fun (e:Nat×MK×DV)=>e.2.1) (bT l)).Nodup:=by
 have e:List.map (fun (e:Nat×MK×DV)=>e.2.1) (bT l)=(dJ l).map (MK.i .i64):=by unfold bT dJ;rw [List.map_map,List.map_map];rfl
 rw [e]
 exact List.Pairwise.map _ (fun a b gm h'=>gm (by injection h')) h.k
theorem zu {l:List (Nat×Int×List Hd)} {z:Int} {h:Hd} (hh:iB l z=false):bT l++[(l.length,.i .i64 z,.em 58 4 [[.z h.dst,.u h.conn,.u h.seq,.u h.inc]])]=bT (gg l z h):=by
 unfold gg;rw [hh];simp [bT,al]
theorem xv {l:List (Nat×Int×List Hd)} {z:Int} {h:Hd} (hh:iB l z=false):l.length+1=(gg l z h).length:=by unfold gg;rw [hh];simp
theorem xw {l:List (Nat×Int×List Hd)} {z:Int} {h:Hd} (hh:iB l z=true):l.length=(gg l z h).length:=by unfold gg;rw [hh];simp
theorem zw {l:List (Nat×Int×List Hd)} (ok:kV l) {z:Int} {h:Hd} {j b:Nat} {q:List Hd} (hj:l[j]?=some (b,z,q)):cU (cU (bT l) j .jk) j (.em 58 4 (al q++[[.z h.dst,.u h.conn,.u h.seq,.u h.inc]]))=bT (gg l z h):=by
 have hh:iB l z=true:=List.any_eq_true.2 ⟨_,List.mem_of_getElem? hj,by simp⟩
 rw [yz]
 apply List.ext_getElem?
 intro i
 unfold cU gg bT
 rw [hh,List.getElem?_modify,cond_true,List.getElem?_map,List.getElem?_map,List.getElem?_map]
 cases hi:l[i]? with
 | none=>rfl
 | some e=>
  by_cases he:j=i
  ·subst he;rw [hj] at hi;cases hi;simp [al]
  ·have dN:e.2.1≠z:=fun hz=>by
    have a1:(dJ l)[i]?=some z:=by unfold dJ;rw [List.getElem?_map,hi];simp [hz]
    have a2:(dJ l)[j]?=some z:=by unfold dJ;rw [List.getElem?_map,hj];rfl
    exact he ((List.getElem?_inj (by unfold dJ;rw [List.length_map];exact (List.getElem?_eq_some_iff.1 hj).1) ok.k).1 (a2.trans a1.symm))
   simp [he,dN]
def jy (l:List (Nat×Int×List Hd)):List (Nat×MK×DV):=l.map fun e=>(e.1,.i .i64 e.2.1,.ro 4 (al e.2.2))
theorem PO (l:List (Nat×Int×List Hd)):kv (bT l)=jy l:=by
 unfold kv bT jy;rw [List.map_map];apply List.map_congr_left;intro e _
 simp only [Function.comp,cT,rU]
theorem PQ {l:List (Nat×Int×List Hd)} {j b:Nat} {z:Int} {q:List Hd} (h:l[j]?=some (b,z,q)):(jy l)[j]?=some (b,.i .i64 z,.ro 4 (al q)):=by
 unfold jy;rw [List.getElem?_map,h];rfl
theorem FV (l:List (Nat×Int×List Hd)):List.map (fun (e:Nat×MK×DV)=>e.2.1) (jy l)=List.map (fun (e:Nat×MK×DV)=>e.2.1) (bT l):=by unfold jy bT;rw [List.map_map,List.map_map];rfl
def jq (l:List (Nat×Int×List Hd)) (z:Int):List Hd:=((l.find? fun e=>decide (e.2.1=z)).map fun e=>e.2.2).getD []
theorem OM {l:List (Nat×Int×List Hd)} (ok:kV l) {z:Int} {j b:Nat} {q:List Hd} (hj:l[j]?=some (b,z,q)):jq l z=q:=by
 unfold jq
 obtain ⟨aK,he⟩:=List.getElem?_eq_some_iff.1 hj
 have hf:l.find? (fun e=>decide (e.2.1=z))=some (b,z,q):=by
  rw [List.find?_eq_some_iff_getElem]
  refine ⟨by simp,j,aK,he,fun i hi=>?_⟩
  have:=List.pairwise_iff_getElem.1 ok.k i j (by unfold dJ;simp;omega) (by unfold dJ;simp;omega) hi
  unfold dJ at this;simp only [List.getElem_map,he] at this
  simpa using this
 rw [hf];rfl
def fu (l:List (Nat×Int×List Hd)) (ks:List Int):List (List DV):=ks.map fun z=>[.v (.int .i64 z),.ro 4 (al (jq l z))]
theorem Nt {l:List (Nat×Int×List Hd)} {ks:List Int} {i:Nat} {z:Int} (h:ks[i]?=some z):fu l (ks.take (i+1))=fu l (ks.take i)++[[.v (.int .i64 z),.ro 4 (al (jq l z))]]:=by
 unfold fu;rw [List.take_add_one,h];simp
theorem dA (l:List (Nat×Int×List Hd)) (ks:List Int):(fu l ks).length=ks.length:=by unfold fu;rw [List.length_map]
noncomputable def Ov.ks (o:Ov) (l:List Hd):List Int:=fW (dJ (o.bn [] l))
theorem dE (o:Ov) (l:List Hd):(o.ks l).length=(o.bn [] l).length:=by unfold Ov.ks;rw [Kc];unfold dJ;rw [List.length_map]
theorem QX {o:Ov} {l:List Hd} {i:Nat} {z:Int} (h:(o.ks l)[i]?=some z):∃ (j b:Nat) (q:List Hd),(o.bn [] l)[j]?=some (b,z,q):=by
 have h1:=(uG (dJ (o.bn [] l))).mem_iff.1 (List.mem_of_getElem? h)
 unfold dJ at h1
 obtain ⟨⟨b,y,q⟩,he,rfl⟩:=List.mem_map.1 h1
 obtain ⟨j,hj⟩:=List.mem_iff_getElem?.1 he
 exact ⟨j,b,q,hj⟩
set_option maxRecDepth 100000 in
theorem ON (o:Ov) (ok:o.Ok) (hl:jx o.ls o.ck) (hb:o.book.length≤9223372036854775807) (hp:∀ x ∈ o.book,x.ay.length≤9223372036854775807) (hs:List Hd) (cD:hs.length≤12):aL Tryz.prog 41 [.sl 3 (hs.length),.fm 42 [.pt 0 0]] [ao o 1 2,af o,ai o,.rw 58 4 (al hs)] (.sl 4 (o.ks hs).length) (ef o++[.rw 58 4 (al hs),.rw 88 2 (fu (o.bn [] hs) (o.ks hs))]):=by
 have tn:kV (o.bn [] hs):=by have:=(sD ok hs hs.length (Nat.le_refl _)).1;rwa [List.take_length] at this
 have dL:(o.bn [] hs).length≤hs.length:=by have:=(sD ok hs hs.length (Nat.le_refl _)).2;rwa [List.take_length] at this
 refine aL.intro (by kernel_rfl) rfl rfl 58 rfl rfl fun D w0 K bs ac wd hK (aB:bs.m=4) r=>?_
 refine b8 (todo':=hd Tryz.f41 0) (E':=[(1,.fm 42 [.pt 0 0]),(5,.mv 4),(17,.sl 5 ((al hs:List (List DV)).length)),(18,.n ((al hs:List (List DV)).length)),(19,.z 0)]) (M':=[ao o 1 2,af o,ai o,.rw 58 4 (al hs),.mp 99 (0) ([]),.rw 58 4 (al hs)]) tk tq hK aB [(4,[(1,.call [.d (.ro 4 (al hs))] (.em 58 4 (al hs)))])] 2000 [0,1,2,3,4,5] [1,5,17,18,19] r (by kernel_rfl) (U ((by unfold o1;kernel_rfl):o1 Tryz.prog 86) (U (Ke hs (by omega)) (U ((Eg _ _):dh (.em 58 4 (al hs))) (U (cQ (4)) (U ((by first | rfl | (simp [cb,dE,dA];done) | (simp [cb,dE,dA,ints]<;>omega)):(hs.length)=(al hs:List (List DV)).length) (U ((rU _):cg (al hs)=al hs) trivial)))))) fun ac wd r=>?_
 refine aN.rounds (Φ:=fun (i:Nat) ac wd=>(i≤hs.length)∧RB D w0 K 58 bs [(1,.fm 42 [.pt 0 0]),(5,.mv 4),(17,.sl 5 (hs.length)),(18,.n hs.length),(19,.n i)] [ao o 1 2,af o,ai o,.rw 58 4 (al hs),.mp 99 ((o.bn [] (hs.take i)).length) (bT (o.bn [] (hs.take i))),.rw 58 4 (al hs)] ac wd) (hs.length) ?_ (Nat.zero_le _) ⟨(Nat.zero_le _),(r).cast (by simp only [cb];rfl) rfl⟩
 clear r
 rintro i cI bo ac wd ⟨aM,r⟩
 obtain ⟨mJ,T4⟩:=sD ok hs i aM
 cases h0:(decide ((((i:Nat):Int):Int)<((hs.length:Nat):Int))) with
 | false=>
  have bH:=of_decide_eq_false h0
  refine ch (todo':=aft Tryz.f41 11) (E':=[(5,.mv 4),(10,aj)]) (M':=[ao o 1 2,af o,ai o,.rw 58 4 (al hs),.mp 99 ((o.bn [] (hs.take i)).length) (bT (o.bn [] (hs.take i))),.rw 58 4 (al hs)]) tk tq hK aB [(5,[(0,.b false)])] 7 [0,1,2,3,4,5] [5,10] r (by kernel_rfl) (U h0 trivial) fun ac wd r=>?_
  have r:=r.cast (M':=[ao o 1 2,af o,ai o,.rw 58 4 (al hs),.mp 99 ((o.bn [] hs).length) (bT (o.bn [] hs)),.rw 58 4 (al hs)]) rfl (by rw [show List.take i hs=hs from List.take_of_length_le (by omega)])
  refine ch (todo':=aft Tryz.f41 12) (E':=[(5,.mv 4),(10,aj),(42,.sl 7 ((o.bn [] hs).length)),(43,.n ((o.bn [] hs).length)),(44,.z 0)]) (M':=[ao o 1 2,af o,ai o,.rw 58 4 (al hs),.mp 99 ((o.bn [] hs).length) (bT (o.bn [] hs)),.rw 58 4 (al hs),.bx 99 [.mv 4],.rw 3 1 (ints (o.ks hs))]) tk tq hK aB [(12,[(1,.dt 200 []),(2,.mem [4,6] (.sl 2 ((o.bn [] hs).length)) [.mp 99 ((o.bn [] hs).length) (bT (o.bn [] hs)),.bx 99 [.mv 0],.rw 3 1 (ints (o.ks hs))])])] 3 [0,1,2,3,4,5,6,7] [5,10,42,43,44] r (by kernel_rfl) (U (OK (o.bn [] hs) (o.bn [] hs).length tn.ok (by omega)) trivial) fun ac wd r=>?_
  have r:=r.yE 4 (M2:=[ao o 1 2,af o,ai o,.rw 58 4 (al hs),.mp 99 ((o.bn [] hs).length) (jy (o.bn [] hs)),.rw 58 4 (al hs),.bx 99 [.mv 4],.rw 3 1 (ints (o.ks hs))]) rfl (by rw [PO];rfl)
  refine b8 (todo':=hd Tryz.f41 1) (E':=[(5,.mv 4),(42,.sl 5 ((o.bn [] hs).length)),(43,.n ((o.bn [] hs).length)),(44,.z 0),(10,aj)]) (M':=[ao o 1 2,af o,ai o,.rw 58 4 (al hs),.mp 99 ((o.bn [] hs).length) (jy (o.bn [] hs)),.rw 3 1 (ints (o.ks hs))]) tk tq hK aB [] 2000 [0,1,2,3,4,7] [5,42,43,44,10] r (by kernel_rfl) trivial fun ac wd r=>?_
  refine aN.rounds (Φ:=fun (i:Nat) ac wd=>(i≤(o.bn [] hs).length)∧RB D w0 K 58 bs [(5,.mv 4),(42,.sl 5 ((o.bn [] hs).length)),(43,.n ((o.bn [] hs).length)),(44,.n i),(10,.sl 6 (i))] [ao o 1 2,af o,ai o,.rw 58 4 (al hs),.mp 99 ((o.bn [] hs).length) (jy (o.bn [] hs)),.rw 3 1 (ints (o.ks hs)),.rw 88 2 (fu (o.bn [] hs) (List.take i (o.ks hs)))] ac wd) ((o.bn [] hs).length) ?_ (Nat.zero_le _) ⟨(Nat.zero_le _),(r.gW (M1:=[ao o 1 2,af o,ai o,.rw 58 4 (al hs),.mp 99 ((o.bn [] hs).length) (jy (o.bn [] hs)),.rw 3 1 (ints (o.ks hs)),.rw 88 2 []]) [(10,88,2)] [] (by kernel_rfl) (by kernel_rfl)).cast rfl rfl⟩
  clear r
  rintro i eS fV ac wd ⟨bg,r⟩
  cases h1:(decide ((((i:Nat):Int):Int)<(((o.bn [] hs).length:Nat):Int))) with
  | false=>
   have bN:=of_decide_eq_false h1
   refine bB (y:=.sl 4 (i)) (N':=[ao o 1 2,af o,ai o,.rw 58 4 (al hs),.rw 88 2 (fu (o.bn [] hs) (List.take i (o.ks hs)))]) ((by rw [dE];first | rfl | (congr 1;omega))) ((by rw [List.take_of_length_le (by rw [dE];omega)];rfl)) ?_
   exact bC tk tq hK rfl aB [(13,[(0,.b false)])] 2000 [0,1,2,3,6] r (by kernel_rfl) (U h1 trivial)
  | true=>
   have bN:=of_decide_eq_true h1
   obtain ⟨kz,CP⟩:∃ x,(o.ks hs)[i]?=some x:=⟨_,List.getElem?_eq_getElem (by rw [dE];omega)⟩
   obtain ⟨IM,Tu,qk,CQ⟩:=QX CP
   exact b8 (todo':=hd Tryz.f41 1) (E':=[(5,.mv 4),(42,.sl 5 ((o.bn [] hs).length)),(43,.n ((o.bn [] hs).length)),(44,.n (i+1)),(10,.sl 6 (i+(1)))]) (M':=[ao o 1 2,af o,ai o,.rw 58 4 (al hs),.mp 99 ((o.bn [] hs).length) (jy (o.bn [] hs)),.rw 3 1 (ints (o.ks hs)),.rw 88 2 (fu (o.bn [] hs) (List.take i (o.ks hs))++[[.z kz,.ro 4 (al qk)]])]) tk tq hK aB [(13,[(0,.b true)]),(14,[(0,.n (i)),(1,.ix 0 [.z kz])]),(15,[(4,.mk (IM) (.i .i64 (kz)) (.ro 4 (al qk)))]),(16,[(0,.z (((i+1:Nat):Int)))])] 2000 [0,1,2,3,4,5,6] [5,42,43,44,10] r (by kernel_rfl) (U h1 (U (aX ((i:Nat):Int)) (U ((by first | omega | decide | (simp;omega)):(i)<((o.bn [] hs).length)) (U ((by first | rfl | (simp [cb,dE,dA];done) | (simp [cb,dE,dA,ints]<;>omega)):((o.bn [] hs).length)≤(ints (o.ks hs)).length) (U (fT CP) (U ((by rw [FV];exact sO tn (tn.r _ (List.mem_of_getElem? CQ))):b5 Tryz.prog 3 ((.i .i64 (kz))::List.map (fun (e:Nat×MK×DV)=>e.2.1) (jy (o.bn [] hs)))) (U (rfl:(.i .i64 (kz):MK)=.i .i64 (kz)) (U ((by rw [FV];exact BZ tn):(List.map (fun (e:Nat×MK×DV)=>e.2.1) (jy (o.bn [] hs))).Nodup) (U (⟨Tu,PQ CQ⟩:∃ b0,(jy (o.bn [] hs):List (Nat×MK×DV))[IM]?=some (b0,.i .i64 (kz),.ro 4 (al qk))) (U ((by first | rfl | (simp [cb,dE,dA];done) | (simp [cb,dE,dA,ints]<;>omega)):(i)=(fu (o.bn [] hs) (List.take i (o.ks hs)):List (List DV)).length) (U ((by first | rfl | (simp [cb,dE,dA];done) | (simp [cb,dE,dA,ints]<;>omega)):(1)=([[.z kz,.ro 4 (al qk)]]:List (List DV)).length) (U ((by first | omega | (simp [cb];omega) | (have:=dE o hs;omega)):(2*((i)+(1))+0)*32≤281474976710656) (U ((by first | omega | (simp [cb];omega) | (have:=dE o hs;omega)):(i)+(1)<4611686018427387904) (U ((by simp [bA,AV.one,cd]):bA ([[.z kz,.ro 4 (al qk)]])) (U ((wi (by omega)):IntKind.i64.wrap ((((i:Nat):Int):Int)+1)=((i+1:Nat):Int)) trivial))))))))))))))) fun ac wd r=>fV (by omega) ac wd ⟨(by omega),r.cast rfl (by rw [Nt CP,OM tn CQ])⟩
 | true=>
  have bH:=of_decide_eq_true h0
  obtain ⟨hx,rO⟩:∃ x,hs[i]?=some x:=⟨_,List.getElem?_eq_getElem (by omega)⟩
  have bd:=((by first | rfl | (simp [cb,dE,dA];done) | (simp [cb,dE,dA,ints]<;>omega)):(hs.length)≤(al hs:List (List DV)).length)
  cases h2:((o.cz hx.dst).2) with
  | false=>
   exact b8 (todo':=hd Tryz.f41 0) (E':=[(1,.fm 42 [.pt 0 0]),(5,.mv 4),(17,.sl 5 (hs.length)),(18,.n hs.length),(19,.n (i+1))]) (M':=[ao o 1 2,af o,ai o,.rw 58 4 (al hs),.mp 99 ((o.bn [] (hs.take i)).length) (bT (o.bn [] (hs.take i))),.rw 58 4 (al hs)]) tk tq hK aB [(5,[(0,.b true)]),(6,[(0,.n (i)),(1,.ix 0 [.z hx.dst,.u hx.conn,.u hx.seq,.u hx.inc])]),(7,[(3,.mem [0,1,2] (.tu [.z ((o.cz hx.dst).1),aZ]) [ao o 1 2,af o,ai o])]),(10,[(0,.z (((i+1:Nat):Int)))])] 2000 [0,1,2,3,4,5] [1,5,17,18,19] r (by kernel_rfl) (U h0 (U (aX ((i:Nat):Int)) (U ((by first | omega | decide | (simp;omega)):(i)<(hs.length)) (U bd (U (fS rO) (U ((by have k:=Hc o ok hl hb hp hx.dst;rw [h2] at k;exact k):aL Tryz.prog 42 [.pt 0 0,.z hx.dst] [ao o 1 2,af o,ai o] (.tu [.z ((o.cz hx.dst).1),aZ]) [ao o 1 2,af o,ai o]) (U ((wi (by omega)):IntKind.i64.wrap ((((i:Nat):Int):Int)+1)=((i+1:Nat):Int)) trivial))))))) fun ac wd r=>bo (by omega) ac wd ⟨(by omega),r.cast rfl (by rw [sh rO];first | (rw [show (o.cz hx.dst).2=false by assumption];rfl) | (rw [show (o.cz hx.dst).2=true by assumption,cond_true,← zw mJ rP,← xw (by assumption)];done) | (rw [show (o.cz hx.dst).2=true by assumption,cond_true,← zu (by assumption),← xv (by assumption)];done))⟩
  | true=>
   have b3:=((by have k:=Hc o ok hl hb hp hx.dst;rw [h2] at k;exact k):aL Tryz.prog 42 [.pt 0 0,.z hx.dst] [ao o 1 2,af o,ai o] (.tu [.z ((o.cz hx.dst).1),aU]) [ao o 1 2,af o,ai o])
   cases h3:(iB (o.bn [] (hs.take i)) ((o.cz hx.dst).1)) with
   | false=>
    exact b8 (todo':=hd Tryz.f41 0) (E':=[(1,.fm 42 [.pt 0 0]),(5,.mv 4),(17,.sl 5 (hs.length)),(18,.n hs.length),(19,.n (i+1))]) (M':=[ao o 1 2,af o,ai o,.rw 58 4 (al hs),.mp 99 ((o.bn [] (hs.take i)).length+1) (bT (o.bn [] (hs.take i))++[((o.bn [] (hs.take i)).length,.i .i64 ((o.cz hx.dst).1),.em 58 4 ([[.z hx.dst,.u hx.conn,.u hx.seq,.u hx.inc]]))]),.rw 58 4 (al hs)]) tk tq hK aB [(5,[(0,.b true)]),(6,[(0,.n (i)),(1,.ix 0 [.z hx.dst,.u hx.conn,.u hx.seq,.u hx.inc])]),(7,[(3,.mem [0,1,2] (.tu [.z ((o.cz hx.dst).1),aU]) [ao o 1 2,af o,ai o])]),(9,[(4,.b false),(8,.b false)]),(10,[(0,.z (((i+1:Nat):Int)))])] 2000 [0,1,2,3,4,5] [1,5,17,18,19] r (by kernel_rfl) (U h0 (U (aX ((i:Nat):Int)) (U ((by first | omega | decide | (simp;omega)):(i)<(hs.length)) (U bd (U (fS rO) (U b3 (U ((sO mJ (ss ok _)):b5 Tryz.prog 3 ((.i .i64 ((o.cz hx.dst).1))::List.map (fun (e:Nat×MK×DV)=>e.2.1) (bT (o.bn [] (hs.take i))))) (U ((fun _=>rfl):gp Tryz.prog 27 ((.slice none 0 0))) (U ((EW (by assumption)):∀ zz ∈ (bT (o.bn [] (hs.take i)):List (Nat×MK×DV)),zz.2.1≠.i .i64 ((o.cz hx.dst).1)) (U ((by first | rfl | (simp [cb,dE,dA];done) | (simp [cb,dE,dA,ints]<;>omega)):(1)=([[.z hx.dst,.u hx.conn,.u hx.seq,.u hx.inc]]:List (List DV)).length) (U ((by first | omega | (simp [cb];omega) | (have:=dE o hs;omega)):(2*(0+(1))+0)*32≤281474976710656) (U ((by first | omega | (simp [cb];omega) | (have:=dE o hs;omega)):0+(1)<4611686018427387904) (U ((by simp [bA,AV.one,cd]):bA ([[.z hx.dst,.u hx.conn,.u hx.seq,.u hx.inc]])) (U ((sO mJ (ss ok _)):b5 Tryz.prog 3 ((.i .i64 ((o.cz hx.dst).1))::List.map (fun (e:Nat×MK×DV)=>e.2.1) (bT (o.bn [] (hs.take i))))) (U ((EW (by assumption)):∀ zz ∈ (bT (o.bn [] (hs.take i)):List (Nat×MK×DV)),zz.2.1≠.i .i64 ((o.cz hx.dst).1)) (U ((by first | rfl | (simp [cb,dE,dA];done) | (simp [cb,dE,dA,ints]<;>omega)):((1))=([[.z hx.dst,.u hx.conn,.u hx.seq,.u hx.inc]]:List (List DV)).length) (U ((wi (by omega)):IntKind.i64.wrap ((((i:Nat):Int):Int)+1)=((i+1:Nat):Int)) trivial))))))))))))))))) fun ac wd r=>bo (by omega) ac wd ⟨(by omega),r.cast rfl (by rw [sh rO];first | (rw [show (o.cz hx.dst).2=false by assumption];rfl) | (rw [show (o.cz hx.dst).2=true by assumption,cond_true,← zw mJ rP,← xw (by assumption)];done) | (rw [show (o.cz hx.dst).2=true by assumption,cond_true,← zu (by assumption),← xv (by assumption)];done))⟩
   | true=>
    obtain ⟨jh,bh,qh,rP⟩:=OL (by assumption)
    have UI:qh.length≤i:=FU hs i aM _ (List.mem_of_getElem? rP)
    exact b8 (todo':=hd Tryz.f41 0) (E':=[(1,.fm 42 [.pt 0 0]),(5,.mv 4),(17,.sl 5 (hs.length)),(18,.n hs.length),(19,.n (i+1))]) (M':=[ao o 1 2,af o,ai o,.rw 58 4 (al hs),.mp 99 ((o.bn [] (hs.take i)).length) (cU (cU (bT (o.bn [] (hs.take i))) (jh) (.jk)) (jh) (.em 58 4 (al qh++[[.z hx.dst,.u hx.conn,.u hx.seq,.u hx.inc]]))),.rw 58 4 (al hs)]) tk tq hK aB [(5,[(0,.b true)]),(6,[(0,.n (i)),(1,.ix 0 [.z hx.dst,.u hx.conn,.u hx.seq,.u hx.inc])]),(7,[(3,.mem [0,1,2] (.tu [.z ((o.cz hx.dst).1),aU]) [ao o 1 2,af o,ai o])]),(9,[(4,.mk (jh) (.i .i64 ((o.cz hx.dst).1)) (.em 58 4 (al qh))),(8,.mk (jh) (.i .i64 ((o.cz hx.dst).1)) (.jk))]),(10,[(0,.z (((i+1:Nat):Int)))])] 2000 [0,1,2,3,4,5] [1,5,17,18,19] r (by kernel_rfl) (U h0 (U (aX ((i:Nat):Int)) (U ((by first | omega | decide | (simp;omega)):(i)<(hs.length)) (U bd (U (fS rO) (U b3 (U ((sO mJ (ss ok _)):b5 Tryz.prog 3 ((.i .i64 ((o.cz hx.dst).1))::List.map (fun (e:Nat×MK×DV)=>e.2.1) (bT (o.bn [] (hs.take i))))) (U (rfl:(.i .i64 ((o.cz hx.dst).1):MK)=.i .i64 ((o.cz hx.dst).1)) (U ((BZ mJ):(List.map (fun (e:Nat×MK×DV)=>e.2.1) (bT (o.bn [] (hs.take i)))).Nodup) (U (⟨bh,Al rP⟩:∃ b0,(bT (o.bn [] (hs.take i)):List (Nat×MK×DV))[jh]?=some (b0,.i .i64 ((o.cz hx.dst).1),.em 58 4 (al qh))) (U (cQ ((al qh:List (List DV)).length)) (U ((by first | rfl | (simp [cb,dE,dA];done) | (simp [cb,dE,dA,ints]<;>omega)):(1)=([[.z hx.dst,.u hx.conn,.u hx.seq,.u hx.inc]]:List (List DV)).length) (U ((by first | omega | (simp [cb];omega) | (have:=dE o hs;omega)):(2*(((al qh:List (List DV)).length)+(1))+0)*32≤281474976710656) (U ((by first | omega | (simp [cb];omega) | (have:=dE o hs;omega)):((al qh:List (List DV)).length)+(1)<4611686018427387904) (U ((by simp [bA,AV.one,cd]):bA ([[.z hx.dst,.u hx.conn,.u hx.seq,.u hx.inc]])) (U ((by rw [vj];exact (sO mJ (ss ok _))):b5 Tryz.prog 3 ((.i .i64 ((o.cz hx.dst).1))::List.map (fun (e:Nat×MK×DV)=>e.2.1) (cU (bT (o.bn [] (hs.take i))) (jh) (.jk)))) (U (rfl:(.i .i64 ((o.cz hx.dst).1):MK)=.i .i64 ((o.cz hx.dst).1)) (U ((by rw [vj];exact BZ mJ):(List.map (fun (e:Nat×MK×DV)=>e.2.1) (cU (bT (o.bn [] (hs.take i))) (jh) (.jk))).Nodup) (U (rfl:DV.iW (.jk)=true) (U (⟨bh,vw (Al rP) _⟩:∃ b0,(cU (bT (o.bn [] (hs.take i))) (jh) (.jk):List (Nat×MK×DV))[jh]?=some (b0,.i .i64 ((o.cz hx.dst).1),.jk)) (U ((by first | rfl | (simp [cb,dE,dA];done) | (simp [cb,dE,dA,ints]<;>omega)):((al qh:List (List DV)).length+(1))=(al qh++[[.z hx.dst,.u hx.conn,.u hx.seq,.u hx.inc]]:List (List DV)).length) (U ((wi (by omega)):IntKind.i64.wrap ((((i:Nat):Int):Int)+1)=((i+1:Nat):Int)) trivial)))))))))))))))))))))) fun ac wd r=>bo (by omega) ac wd ⟨(by omega),r.cast rfl (by rw [sh rO];first | (rw [show (o.cz hx.dst).2=false by assumption];rfl) | (rw [show (o.cz hx.dst).2=true by assumption,cond_true,← zw mJ rP,← xw (by assumption)];done) | (rw [show (o.cz hx.dst).2=true by assumption,cond_true,← zu (by assumption),← xv (by assumption)];done))⟩
end Go.Proofs.YtlinpknagdgphaaGreat
