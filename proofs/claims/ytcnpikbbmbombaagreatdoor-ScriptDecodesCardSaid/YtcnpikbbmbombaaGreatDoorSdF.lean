/-
  scriptDecodes_card, part 6 of 6: merged by program from the texts that it needs.
-/
import Derived.Test.YtcnpikbbmbombaaGreatDoorSdE
set_option linter.unusedSimpArgs false
set_option linter.unusedVariables false
set_option linter.unnecessarySimpa false
namespace Go.Proofs.YtcnpikbbmbombaaGreatDoor
open Go.RowKit
theorem vJ (w:List UInt8) {most:Nat} (h9:9≤most):(aO w most).1≤most:=by
 unfold aO
 split
 ·exact Nat.zero_le _
 ·cases e:iW most w 0 with
  | none=>exact Nat.zero_le _
  | some n=>exact Bn (Nat.zero_le _) h9 e
abbrev Ws:=List (List UInt8)×Bool
def pU (s:Ws):List ai:=[.bx 87 [.d (.ro 1 (strs s.1))],.bx 4 [.d (.v (.bool s.2))]]
def pV (s:Ws):List ai:=[.bx 87 [.d (.ro 1 (strs s.1))],.bx 4 [.d (.v (.bool s.2))],.bx 79 [.fn 83 [.pt 0 0,.pt 1 0]]]
def bY (s:Ws):List UInt8:=s.1.headD []
def bw (s:Ws):Ws:=(s.1.tail,s.2&&!s.1.isEmpty)
def pN (b:Bool) (most:Nat) (s:Ws):Nat:=cond b (aO (bY s) most).1 0
def pS (b:Bool) (most:Nat) (s:Ws):Ws:=cond b ((bw s).1,(bw s).2&&(aO (bY s) most).2) s
theorem ta (b:Bool) (s:Ws) {most:Nat} (h9:9≤most):pN b most s≤most:=by cases b;exact Nat.zero_le _;exact vJ _ h9
def gu (s:Ws):Prop:=∀ w ∈ s.1,w.length≤1048576
theorem gu.w {s:Ws} (h:gu s):(bY s).length≤1048576:=by
 obtain ⟨l,b⟩:=s
 cases l with
 | nil=>exact Nat.zero_le _
 | cons x r=>exact h x (by simp)
theorem gu.s {s:Ws} (h:gu s):gu (bw s):=fun w hw=>h w (List.mem_of_mem_tail hw)
theorem gu.p {s:Ws} (h:gu s) (b:Bool) (m:Nat):gu (pS b m s):=by cases b;exact h;exact h.s
set_option maxRecDepth 100000 in
theorem HF (g:Bool):aq Tryz.prog 83 [.pt 0 0,.pt 1 0] [.bx 87 [.d (.ro 1 (strs (([]:List (List UInt8)),g).1))],.bx 4 [.d (.v (.bool ((([]:List (List UInt8)),g).2)))]] (.d (.v (.string ⟨(bY (([]:List (List UInt8)),g)).toArray⟩))) (pU (bw (([]:List (List UInt8)),g))):=by
 refine aq.intro (by kernel_rfl) rfl rfl 13 rfl rfl fun D w0 K bs ac wd hK (ak:bs.m=2) r=>?_
 refine aQ (y:=.d (.v (.string .empty))) (N':=[.bx 87 [.d (.ro 1 (strs (([]:List (List UInt8)),g).1))],.bx 4 [.d (.v (.bool false))]]) (rfl) ((by simp [bw,pU,strs])) ?_
 exact aP mo tq hK rfl ak [(1,[(1,.z (0))])] 2000 [0,1] r (by kernel_rfl) (U ((by first | rfl | simp [strs]):(((strs (([]:List (List UInt8)),g).1).length:Nat):Int)=0) trivial)
set_option maxRecDepth 100000 in
theorem F9 (x:List UInt8) (q:List (List UInt8)) (g:Bool):aq Tryz.prog 83 [.pt 0 0,.pt 1 0] [.bx 87 [.d (.ro 1 (strs ((x::q),g).1))],.bx 4 [.d (.v (.bool (((x::q),g).2)))]] (.d (.v (.string ⟨(bY ((x::q),g)).toArray⟩))) (pU (bw ((x::q),g))):=by
 refine aq.intro (by kernel_rfl) rfl rfl 13 rfl rfl fun D w0 K bs ac wd hK (ak:bs.m=2) r=>?_
 have aE:=((by first | rfl | simp [strs]):(((strs ((x::q),g).1).length:Nat):Int)=((q.length+1:Nat):Int))
 cases h0:((((q.length+1:Nat):Int):Int)==0) with
 | false=>
  have aK:=ne_of_beq_false h0
  refine aQ (y:=.d (.v (.string ⟨x.toArray⟩))) (N':=[.bx 87 [.d (.ro 1 (List.drop (1) (strs ((x::q),g).1)))],.bx 4 [.d (.v (.bool (((x::q),g).2)))]]) (rfl) ((by simp [bw,pU,strs])) ?_
  exact aP mo tq hK rfl ak [(1,[(1,.z (((q.length+1:Nat):Int))),(2,.b false)]),(4,[(1,.ix (0) [.v (.string ⟨x.toArray⟩)])]),(5,[(1,.n2 (0) (1))])] 2000 [0,1] r (by kernel_rfl) (U aE (U h0 (U (rfl:(0)=((0:Nat):Int)) (U (rfl:(strs ((x::q),g).1)[0]?=some [.v (.string ⟨x.toArray⟩)]) (U (rfl:(1:Int)=((1:Nat):Int)) (U ((by simp [strs]):(1)≤(strs ((x::q),g).1:List (List DV)).length) trivial))))))
 | true=>
  have aK:=eq_of_beq h0
  exact absurd aK (by omega)
theorem oW (s:Ws):aq Tryz.prog 83 [.pt 0 0,.pt 1 0] (pU s) (.d (.v (.string ⟨(bY s).toArray⟩))) (pU (bw s)):=by
 obtain ⟨l,g⟩:=s
 cases l with
 | nil=>exact HF g
 | cons x r=>exact F9 x r g
set_option maxRecDepth 100000 in
theorem HG (most:Nat) (s:Ws) (h9:9≤most) (hm:most<18446744073709551616) (hs:gu s):aq Tryz.prog 84 [.d (.v (.bool true)),.u most,.pt 2 0,.pt 1 0] [.bx 87 [.d (.ro 1 (strs s.1))],.bx 4 [.d (.v (.bool (s.2)))],.bx 79 [.fn 83 [.pt 0 0,.pt 1 0]]] (.u (pN true most s)) (pV (pS true most s)):=by
 refine aq.intro (by kernel_rfl) rfl rfl 23 rfl rfl fun D w0 K bs ac wd hK (ak:bs.m=3) r=>?_
 cases h0:((aO (bY s) most).2) with
 | false=>
  refine aQ (y:=.u ((aO (bY s) most).1)) (N':=[.bx 87 [.d (.ro 1 (strs (bw s).1))],.bx 4 [.d (.v (.bool (((bw s).2&&false))))],.bx 79 [.fn 83 [.pt 0 0,.pt 1 0]]]) (rfl) ((by unfold pV pS;rw [h0];rfl)) ?_
  exact aP mo tq hK rfl ak [(3,[(1,.mem [0,1] (.d (.v (.string ⟨(bY s).toArray⟩))) [.bx 87 [.d (.ro 1 (strs (bw s).1))],.bx 4 [.d (.v (.bool ((bw s).2)))]]),(3,.aV (.tu [.u ((aO (bY s) most).1),.v (.bool false)]))]),(4,[(2,.may (bw s).2 (.n 0)),(3,.res (.v (.bool ((bw s).2&&false))))])] 2000 [0,1,2] r (by kernel_rfl) (U (oW s) (U ((by have k:=sj (bY s) most (Nat.le_trans hs.w (by decide)) h9 hm;rw [h0] at k;exact k):aB Tryz.prog 82 [.d (.v (.string ⟨(bY s).toArray⟩)),.u most] (.tu [.u ((aO (bY s) most).1),.v (.bool false)])) (U (pF _:(jZ (Value.bool (bw s).2)==some true)=(bw s).2) (U (fun hc=>trivial:(bw s).2=true→True) (U (o6 _ _:∃ b0:Bool,(Value.bool (bw s).2)=.bool b0∧(bif b0 then (bif (bw s).2 then Value.bool false else undef) else Value.bool false)=.bool ((bw s).2&&false)) trivial)))))
 | true=>
  refine aQ (y:=.u ((aO (bY s) most).1)) (N':=[.bx 87 [.d (.ro 1 (strs (bw s).1))],.bx 4 [.d (.v (.bool (((bw s).2&&true))))],.bx 79 [.fn 83 [.pt 0 0,.pt 1 0]]]) (rfl) ((by unfold pV pS;rw [h0];rfl)) ?_
  exact aP mo tq hK rfl ak [(3,[(1,.mem [0,1] (.d (.v (.string ⟨(bY s).toArray⟩))) [.bx 87 [.d (.ro 1 (strs (bw s).1))],.bx 4 [.d (.v (.bool ((bw s).2)))]]),(3,.aV (.tu [.u ((aO (bY s) most).1),.v (.bool true)]))]),(4,[(2,.may (bw s).2 (.n 0)),(3,.res (.v (.bool ((bw s).2&&true))))])] 2000 [0,1,2] r (by kernel_rfl) (U (oW s) (U ((by have k:=sj (bY s) most (Nat.le_trans hs.w (by decide)) h9 hm;rw [h0] at k;exact k):aB Tryz.prog 82 [.d (.v (.string ⟨(bY s).toArray⟩)),.u most] (.tu [.u ((aO (bY s) most).1),.v (.bool true)])) (U (pF _:(jZ (Value.bool (bw s).2)==some true)=(bw s).2) (U (fun hc=>trivial:(bw s).2=true→True) (U (o6 _ _:∃ b0:Bool,(Value.bool (bw s).2)=.bool b0∧(bif b0 then (bif (bw s).2 then Value.bool true else undef) else Value.bool false)=.bool ((bw s).2&&true)) trivial)))))
set_option maxRecDepth 100000 in
theorem Ga (most:Nat) (s:Ws) (h9:9≤most) (hm:most<18446744073709551616) (hs:gu s):aq Tryz.prog 84 [.d (.v (.bool false)),.u most,.pt 2 0,.pt 1 0] [.bx 87 [.d (.ro 1 (strs s.1))],.bx 4 [.d (.v (.bool (s.2)))],.bx 79 [.fn 83 [.pt 0 0,.pt 1 0]]] (.u (pN false most s)) (pV (pS false most s)):=by
 refine aq.intro (by kernel_rfl) rfl rfl 23 rfl rfl fun D w0 K bs ac wd hK (ak:bs.m=3) r=>?_
 refine aQ (y:=.d (.v (.int .u64 0))) (N':=[.bx 87 [.d (.ro 1 (strs s.1))],.bx 4 [.d (.v (.bool (s.2)))],.bx 79 [.fn 83 [.pt 0 0,.pt 1 0]]]) (rfl) (rfl) ?_
 exact aP mo tq hK rfl ak [] 2000 [0,1,2] r (by kernel_rfl) trivial
theorem qA (b:Bool) (most:Nat) (s:Ws) (h9:9≤most) (hm:most<18446744073709551616) (hs:gu s):aq Tryz.prog 84 [.d (.v (.bool b)),.u most,.pt 2 0,.pt 1 0] (pV s) (.u (pN b most s)) (pV (pS b most s)):=by
 cases b with
 | true=>exact HG most s h9 hm hs
 | false=>exact Ga most s h9 hm hs
def qP (x:List UInt8):Nat:=mh.findIdx fun y=>y.word==x
theorem vK {k:Nat} (h:k<14):mh[k]?=some (af k):=mi (p:=fun k=>mh[k]?=some (af k)) rfl rfl rfl rfl rfl rfl rfl rfl rfl rfl rfl rfl rfl rfl h
theorem Gb {x:List UInt8} {k:Nat} (h:k<14) (hn:∀ j,j<k→(af j).word≠x) (e:(af k).word=x):qP x=k:=by
 have hk:=vK h
 obtain ⟨h1,h2⟩:=List.getElem?_eq_some_iff.1 hk
 unfold qP
 rw [List.findIdx_eq h1]
 refine ⟨by rw [h2];simpa using e,fun j hj=>?_⟩
 obtain ⟨h3,h4⟩:=List.getElem?_eq_some_iff.1 (vK (show j<14 by omega))
 rw [h4];simpa using hn j hj
theorem HH {x:List UInt8} (hn:∀ j,j<14→(af j).word≠x):qP x=14:=by
 unfold qP
 refine (List.findIdx_eq_length (xs:=mh)).2 fun y hy=>?_
 obtain ⟨j,hj,e⟩:=List.getElem_of_mem hy
 obtain ⟨h3,h4⟩:=List.getElem?_eq_some_iff.1 (vK (show j<14 from hj))
 rw [← e,h4];simpa using hn j hj
def pK (l:List UInt8):Nat:=qP (bY (aT 32 l,true))
def gW (l:List UInt8):Ws:=((aT 32 l).tail,true)
def fa (l:List UInt8):Ws:=pS (af (pK l)).node 255 (gW l)
def fb (l:List UInt8):Ws:=pS (af (pK l)).peer 255 (fa l)
def fc (l:List UInt8):Ws:=pS (af (pK l)).n 255 (fb l)
def fW (l:List UInt8):Ws:=pS (af (pK l)).bit 65535 (fc l)
def bk (l:List UInt8):Ws:=pS (af (pK l)).inc 18446744073709551615 (fW l)
def uf (l:List UInt8):Ws:=cond (af (pK l)).body ((bw (bk l)).1,(bw (bk l)).2&&(fM (bY (bk l))).2) (bk l)
def pB (l:List UInt8):List UInt8:=cond (af (pK l)).body (fM (bY (bk l))).1 []
def pr (l:List UInt8):aM:=⟨pK l,pN (af (pK l)).node 255 (gW l),pN (af (pK l)).peer 255 (fa l),pN (af (pK l)).n 255 (fb l),pN (af (pK l)).bit 65535 (fc l),pN (af (pK l)).inc 18446744073709551615 (fW l),pB l⟩
def kL (l:List UInt8):Bool:=decide (pK l<14)&&((uf l).2&&(uf l).1.isEmpty)
def kj (l:List UInt8):aM×Bool:=cond (kL l) (pr l,true) (gZ,false)
def pW (q:aM×Bool):AV:=.tu [.ag [.z q.1.kind,.z q.1.node,.z q.1.peer,.z q.1.n,.z q.1.bit,.u q.1.inc,.sl 1 (ae q.1.body).length],.d (.v (.bool q.2))]
def pv (q:aM×Bool):List ai:=[.gw 0 aj,.rw 5 1 (ae q.1.body)]
theorem sQ {l:List UInt8} (h:kL l=false):kj l=(gZ,false):=by unfold kj;rw [h];rfl
theorem sG {l:List UInt8} (h:kL l=true):kj l=(pr l,true):=by unfold kj;rw [h];rfl
theorem oG {c:UInt8}:∀ {s w:List UInt8},w ∈ aT c s→w.length≤s.length
 | [],w,h=>by simp [aT] at h;subst h;exact Nat.le_refl _
 | x::r,w,h=>by
  unfold aT at h;split at h
  ·rcases List.mem_cons.1 h with rfl | h
   ·exact Nat.zero_le _
   ·exact Nat.le_succ_of_le (oG h)
  ·cases e:aT c r with
   | nil=>rw [e] at h;simp at h;subst h;simp
   | cons y ys=>
    rw [e] at h
    rcases List.mem_cons.1 h with rfl | h
    ·exact Nat.succ_le_succ (oG (by rw [e];simp))
    ·exact Nat.le_succ_of_le (oG (by rw [e];exact List.mem_cons_of_mem _ h))
theorem AP (c:UInt8) (l:List UInt8):(strs (aT c l))[0]?=some [.v (.string ⟨(bY (aT c l,true)).toArray⟩)]:=by
 have h:=iw c l
 cases e:aT c l with
 | nil=>rw [e] at h;simp at h
 | cons x r=>rfl
theorem drop_one (c:UInt8) (l:List UInt8):List.drop 1 (strs (aT c l))=strs (aT c l).tail:=by unfold strs;rw [← List.map_drop,List.drop_one]
theorem Kq {l:List UInt8} (h:l.length≤1048576):gu (gW l):=fun x hx=>Nat.le_trans (oG (List.mem_of_mem_tail hx)) h
theorem AQ {l:List (List UInt8)}:decide ((0:Int)<(((strs l).length:Nat):Int))=!l.isEmpty:=by cases l with
 | nil=>rfl
 | cons x r=>simp [strs]
theorem qB {l:List UInt8} (h:pK l<14) (b:(af (pK l)).body=true):kL l=(((bw (bk l)).2&&(fM (bY (bk l))).2)&&(bw (bk l)).1.isEmpty):=by unfold kL uf;rw [b,decide_eq_true h];rfl
theorem sR {l:List UInt8} (h:pK l<14) (b:(af (pK l)).body=false):kL l=((bk l).2&&(bk l).1.isEmpty):=by unfold kL uf;rw [b,decide_eq_true h];rfl
theorem Cy {l:List (List UInt8)} (h:decide ((0:Int)<(((strs l).length:Nat):Int))=true):l.isEmpty=false:=by rw [AQ] at h;simpa using h
theorem Cz {l:List (List UInt8)} (h:decide ((0:Int)<(((strs l).length:Nat):Int))=false):l.isEmpty=true:=by rw [AQ] at h;simpa using h
theorem td {z:Int} (h:0≤z) (h2:z≤65535):IntKind.i64.wrap z=z:=wi (by omega)
set_option maxRecDepth 100000 in
theorem uw (line:List UInt8) (hl:line.length≤1048576):aq Tryz.prog 48 [.d (.v (.string ⟨line.toArray⟩))] [.gw 0 aj] (pW (kj line)) (pv (kj line)):=by
 refine aq.intro (by kernel_rfl) rfl rfl 93 rfl rfl fun D w0 K bs ac wd hK (ak:bs.m=1) r=>?_
 refine bT (todo':=hd Tryz.f48 0) (E':=[(0,.d (.v (.string ⟨line.toArray⟩))),(2,.pt 1 0),(4,.pt 2 0),(5,.n 0)]) (M':=[.gw 0 aj,.bx 42 [.z 0,.z 0,.z 0,.z 0,.z 0,.d (.v (.int .u64 0)),.d (.v (.slice none 0 0))],.bx 87 [.d (.ro 1 (strs (aT 32 line)))]]) mo tq hK ak [(1,[(1,.aV (.ro 1 (strs (aT 32 line))))])] 2000 [0,1,2] [0,2,4,5] r (by kernel_rfl) (U (sE 32 line hl) trivial) fun ac wd r=>?_
 refine aC.rounds (Φ:=fun (i:Nat) ac wd=>(∀ j,j<i→(af j).word≠(bY (aT 32 line,true)))∧RB D w0 K 93 bs [(0,.d (.v (.string ⟨line.toArray⟩))),(2,.pt 1 0),(4,.pt 2 0),(5,.n i)] [.gw 0 aj,.bx 42 [.z 0,.z 0,.z 0,.z 0,.z 0,.d (.v (.int .u64 0)),.d (.v (.slice none 0 0))],.bx 87 [.d (.ro 1 (strs (aT 32 line)))]] ac wd) (14) ?_ (Nat.zero_le _) ⟨(fun j hj=>absurd hj (Nat.not_lt_zero _)),r⟩
 clear r
 rintro i dI bH ac wd ⟨ao,r⟩
 cases h0:(decide ((((i:Nat):Int):Int)<14)) with
 | false=>
  have aK:=of_decide_eq_false h0
  cases h1:((((i:Nat):Int):Int)==14) with
  | false=>
   have bF:=ne_of_beq_false h1
   exact absurd (show ((i:Nat):Int)=14 by omega) bF
  | true=>
   have bF:=eq_of_beq h1
   refine bC (todo':=aft Tryz.f48 5) (E':=[(2,.pt 1 0),(4,.pt 2 0),(5,.n i),(30,.d (.v (.bool true)))]) (M':=[.gw 0 aj,.bx 42 [.z 0,.z 0,.z 0,.z 0,.z 0,.d (.v (.int .u64 0)),.d (.v (.slice none 0 0))],.bx 87 [.d (.ro 1 (strs (aT 32 line)))]]) mo tq hK ak [(3,[(1,.b false)]),(5,[(1,.b true)])] 8 [0,1,2] [2,4,5,30] r (by kernel_rfl) (U h0 (U h1 trivial)) fun ac wd r=>?_
   have hk:pK line=14:=HH fun j hj=>ao j (by omega)
   refine bC (todo':=aft Tryz.f48 6) (E':=[(2,.pt 1 0),(4,.pt 2 0),(5,.n i),(3,.d (.v (.bool false)))]) (M':=[.gw 0 aj,.bx 42 [.z 0,.z 0,.z 0,.z 0,.z 0,.d (.v (.int .u64 0)),.d (.v (.slice none 0 0))],.bx 87 [.d (.ro 1 (strs (aT 32 line)))]]) mo tq hK ak [] 3 [0,1,2] [2,4,5,3] r (by kernel_rfl) trivial fun ac wd r=>?_
   have r:=r.de (E1:=[(2,.pt 1 0),(4,.pt 2 0),(5,.n i),(3,.d (.v (.bool false)))]) (M1:=[.gw 0 aj,.bx 42 [.z 0,.z 0,.z 0,.z 0,.z 0,.d (.v (.int .u64 0)),.d (.v (.slice none 0 0))],.bx 87 [.d (.ro 1 (strs (aT 32 line)))]]) (M2:=[.gw 0 aj,.bx 42 [.z 0,.z 0,.z 0,.z 0,.z 0,.d (.v (.int .u64 0)),.sl 3 (0)],.bx 87 [.d (.ro 1 (strs (aT 32 line)))],.rw 5 1 ([])]) [] [(1,6,5,1)] (by kernel_rfl) (by kernel_rfl)
   refine aQ (y:=.tu [.ag [.z 0,.z 0,.z 0,.z 0,.z 0,.d (.v (.int .u64 0)),.sl 1 (0)],.d (.v (.bool false))]) (N':=[.gw 0 aj,.rw 5 1 ([])]) ((by rw [sQ (by unfold kL;rw [decide_eq_false (by omega)];rfl)];rfl)) ((by rw [sQ (by unfold kL;rw [decide_eq_false (by omega)];rfl)];rfl)) ?_
   exact aP mo tq hK rfl ak [] 2000 [0,3] r (by kernel_rfl) trivial
 | true=>
  have aK:=of_decide_eq_true h0
  have aE:=(nn (by omega):List.take 7 (List.drop ((i)*7) (aj:List DV))=([.v (.string ⟨((af i).word).toArray⟩),.v (.bool ((af i).node)),.v (.bool ((af i).peer)),.v (.bool ((af i).n)),.v (.bool ((af i).bit)),.v (.bool ((af i).inc)),.v (.bool ((af i).body))]:List DV))
  have aZ:=(AP 32 line:(strs (aT 32 line))[0]?=some [.v (.string ⟨(bY (aT 32 line,true)).toArray⟩)])
  cases h2:((af i).word==(bY (aT 32 line,true))) with
  | false=>
   exact bT (todo':=hd Tryz.f48 0) mo tq hK ak [(3,[(1,.b true),(4,.ix (i) [.v (.string ⟨((af i).word).toArray⟩),.v (.bool ((af i).node)),.v (.bool ((af i).peer)),.v (.bool ((af i).n)),.v (.bool ((af i).bit)),.v (.bool ((af i).inc)),.v (.bool ((af i).body))]),(8,.ix (0) [.v (.string ⟨(bY (aT 32 line,true)).toArray⟩)]),(10,.b true)]),(4,[(1,.z (((i+1:Nat):Int)))])] 2000 [0,1,2] [0,2,4,5] r (by kernel_rfl) (U h0 (U (aA ((i:Nat):Int)) (U ((by omega):(i)<14) (U aE (U (rfl:(0)=((0:Nat):Int)) (U aZ (U ((by simpa [bne] using h2):((af i).word != (bY (aT 32 line,true)))=true) (U ((wi (by omega)):IntKind.i64.wrap ((((i:Nat):Int):Int)+1)=((i+1:Nat):Int)) trivial)))))))) fun ac wd r=>bH (by omega) ac wd ⟨(fun j hj=>by rcases Nat.lt_succ_iff_lt_or_eq.1 hj with h | rfl;exact ao j h;simpa using h2),r⟩
  | true=>
   have cd:=((by simpa [bne] using h2):((af i).word != (bY (aT 32 line,true)))=false)
   cases h3:((((i:Nat):Int):Int)==14) with
   | false=>
    have di:=ne_of_beq_false h3
    refine bC (todo':=aft Tryz.f48 5) (E':=[(2,.pt 1 0),(4,.pt 2 0),(5,.n i),(30,.d (.v (.bool false)))]) (M':=[.gw 0 aj,.bx 42 [.z 0,.z 0,.z 0,.z 0,.z 0,.d (.v (.int .u64 0)),.d (.v (.slice none 0 0))],.bx 87 [.d (.ro 1 (strs (aT 32 line)))]]) mo tq hK ak [(3,[(1,.b true),(4,.ix (i) [.v (.string ⟨((af i).word).toArray⟩),.v (.bool ((af i).node)),.v (.bool ((af i).peer)),.v (.bool ((af i).n)),.v (.bool ((af i).bit)),.v (.bool ((af i).inc)),.v (.bool ((af i).body))]),(8,.ix (0) [.v (.string ⟨(bY (aT 32 line,true)).toArray⟩)]),(10,.b false)]),(5,[(1,.b false)])] 8 [0,1,2] [2,4,5,30] r (by kernel_rfl) (U h0 (U (aA ((i:Nat):Int)) (U ((by omega):(i)<14) (U aE (U (rfl:(0)=((0:Nat):Int)) (U aZ (U cd (U h3 trivial)))))))) fun ac wd r=>?_
    have hk:pK line=i:=Gb (by omega) (fun j hj=>ao j hj) (by simpa using h2)
    subst hk
    have DP:=Kq hl
    have n9:gu (fa line):=DP.p _ _
    have jw:gu (fb line):=n9.p _ _
    have DQ:gu (fc line):=jw.p _ _
    have DR:gu (fW line):=DQ.p _ _
    have PE:gu (bk line):=DR.p _ _
    refine bC (todo':=aft Tryz.f48 12) (E':=[(2,.pt 1 0),(4,.pt 2 0),(6,.pt 3 0),(7,.pt 4 0),(8,.pt 5 0),(9,.fn 84 [.pt 5 0,.pt 4 0]),(10,.pt 6 0)]) (M':=[.gw 0 aj,.bx 42 [.z 0,.z 0,.z 0,.z 0,.z 0,.d (.v (.int .u64 0)),.d (.v (.slice none 0 0))],.bx 87 [.d (.ro 1 (List.drop (1) (strs (aT 32 line))))],.bx 94 [.d (.v (.string ⟨((af (pK line)).word).toArray⟩)),.d (.v (.bool ((af (pK line)).node))),.d (.v (.bool ((af (pK line)).peer))),.d (.v (.bool ((af (pK line)).n))),.d (.v (.bool ((af (pK line)).bit))),.d (.v (.bool ((af (pK line)).inc))),.d (.v (.bool ((af (pK line)).body)))],.bx 4 [.d (.v (.bool true))],.bx 79 [.fn 83 [.pt 2 0,.pt 4 0]],.bx 42 [.n (pK line),.z 0,.z 0,.z 0,.z 0,.d (.v (.int .u64 0)),.d (.v (.slice none 0 0))]]) mo tq hK ak [(7,[(1,.ix (pK line) [.v (.string ⟨((af (pK line)).word).toArray⟩),.v (.bool ((af (pK line)).node)),.v (.bool ((af (pK line)).peer)),.v (.bool ((af (pK line)).n)),.v (.bool ((af (pK line)).bit)),.v (.bool ((af (pK line)).inc)),.v (.bool ((af (pK line)).body))])]),(8,[(1,.n2 (0) (1))])] 14 [0,1,2,3,4,5,6] [2,4,6,7,8,9,10] r (by kernel_rfl) (U (aA ((pK line:Nat):Int)) (U ((by omega):(pK line)<14) (U (nn (by omega):List.take 7 (List.drop ((pK line)*7) (aj:List DV))=([.v (.string ⟨((af (pK line)).word).toArray⟩),.v (.bool ((af (pK line)).node)),.v (.bool ((af (pK line)).peer)),.v (.bool ((af (pK line)).n)),.v (.bool ((af (pK line)).bit)),.v (.bool ((af (pK line)).inc)),.v (.bool ((af (pK line)).body))]:List DV)) (U (rfl:(1:Int)=((1:Nat):Int)) (U ((by have:=iw 32 line;simp [strs];omega):(1)≤(strs (aT 32 line):List (List DV)).length) trivial))))) fun ac wd r=>?_
    have r:=r.de (E1:=[(2,.pt 1 0),(4,.pt 2 0),(6,.pt 3 0),(7,.pt 4 0),(8,.pt 5 0),(9,.fn 84 [.pt 5 0,.pt 4 0]),(10,.pt 6 0)]) (M1:=[.gw 0 aj,.bx 42 [.z 0,.z 0,.z 0,.z 0,.z 0,.d (.v (.int .u64 0)),.d (.v (.slice none 0 0))],.bx 87 [.d (.ro 1 (List.drop (1) (strs (aT 32 line))))],.bx 94 [.d (.v (.string ⟨((af (pK line)).word).toArray⟩)),.d (.v (.bool ((af (pK line)).node))),.d (.v (.bool ((af (pK line)).peer))),.d (.v (.bool ((af (pK line)).n))),.d (.v (.bool ((af (pK line)).bit))),.d (.v (.bool ((af (pK line)).inc))),.d (.v (.bool ((af (pK line)).body)))],.bx 4 [.d (.v (.bool true))],.bx 79 [.fn 83 [.pt 2 0,.pt 4 0]],.bx 42 [.n (pK line),.z 0,.z 0,.z 0,.z 0,.d (.v (.int .u64 0)),.d (.v (.slice none 0 0))]]) (M2:=[.gw 0 aj,.bx 42 [.z 0,.z 0,.z 0,.z 0,.z 0,.d (.v (.int .u64 0)),.d (.v (.slice none 0 0))],.bx 87 [.d (.ro 1 (List.drop (1) (strs (aT 32 line))))],.bx 94 [.d (.v (.string ⟨((af (pK line)).word).toArray⟩)),.d (.v (.bool ((af (pK line)).node))),.d (.v (.bool ((af (pK line)).peer))),.d (.v (.bool ((af (pK line)).n))),.d (.v (.bool ((af (pK line)).bit))),.d (.v (.bool ((af (pK line)).inc))),.d (.v (.bool ((af (pK line)).body)))],.bx 4 [.d (.v (.bool true))],.bx 79 [.fn 83 [.pt 2 0,.pt 4 0]],.bx 42 [.n (pK line),.z 0,.z 0,.z 0,.z 0,.d (.v (.int .u64 0)),.sl 7 (0)],.rw 5 1 ([])]) [] [(6,6,5,1)] (by kernel_rfl) (by kernel_rfl)
    refine bC (todo':=aft Tryz.f48 18) (E':=[(2,.pt 1 0),(4,.pt 2 0),(7,.pt 4 0),(8,.pt 5 0),(10,.pt 6 0),(71,.d (.v (.bool ((af (pK line)).body))))]) (M':=[.gw 0 aj,.bx 42 [.z 0,.z 0,.z 0,.z 0,.z 0,.d (.v (.int .u64 0)),.d (.v (.slice none 0 0))],.bx 87 [.d (.ro 1 (strs (bk line).1))],.bx 94 [.d (.v (.string ⟨((af (pK line)).word).toArray⟩)),.d (.v (.bool ((af (pK line)).node))),.d (.v (.bool ((af (pK line)).peer))),.d (.v (.bool ((af (pK line)).n))),.d (.v (.bool ((af (pK line)).bit))),.d (.v (.bool ((af (pK line)).inc))),.d (.v (.bool ((af (pK line)).body)))],.bx 4 [.d (.v (.bool ((bk line).2)))],.bx 79 [.fn 83 [.pt 2 0,.pt 4 0]],.bx 42 [.n (pK line),.n (pN (af (pK line)).node 255 (gW line)),.n (pN (af (pK line)).peer 255 (fa line)),.n (pN (af (pK line)).n 255 (fb line)),.n (pN (af (pK line)).bit 65535 (fc line)),.u (pN (af (pK line)).inc 18446744073709551615 (fW line)),.sl 7 (0)],.rw 5 1 ([])]) mo tq hK ak [(13,[(3,.mem [2,4,5] (.u (pN (af (pK line)).node 255 (gW line))) [.bx 87 [.d (.ro 1 (strs (fa line).1))],.bx 4 [.d (.v (.bool ((fa line).2)))],.bx 79 [.fn 83 [.pt 0 0,.pt 1 0]]]),(4,.z (((pN (af (pK line)).node 255 (gW line):Nat):Int)))]),(14,[(3,.mem [2,4,5] (.u (pN (af (pK line)).peer 255 (fa line))) [.bx 87 [.d (.ro 1 (strs (fb line).1))],.bx 4 [.d (.v (.bool ((fb line).2)))],.bx 79 [.fn 83 [.pt 0 0,.pt 1 0]]]),(4,.z (((pN (af (pK line)).peer 255 (fa line):Nat):Int)))]),(15,[(3,.mem [2,4,5] (.u (pN (af (pK line)).n 255 (fb line))) [.bx 87 [.d (.ro 1 (strs (fc line).1))],.bx 4 [.d (.v (.bool ((fc line).2)))],.bx 79 [.fn 83 [.pt 0 0,.pt 1 0]]]),(4,.z (((pN (af (pK line)).n 255 (fb line):Nat):Int)))]),(16,[(3,.mem [2,4,5] (.u (pN (af (pK line)).bit 65535 (fc line))) [.bx 87 [.d (.ro 1 (strs (fW line).1))],.bx 4 [.d (.v (.bool ((fW line).2)))],.bx 79 [.fn 83 [.pt 0 0,.pt 1 0]]]),(4,.z (((pN (af (pK line)).bit 65535 (fc line):Nat):Int)))]),(17,[(3,.mem [2,4,5] (.u (pN (af (pK line)).inc 18446744073709551615 (fW line))) [.bx 87 [.d (.ro 1 (strs (bk line).1))],.bx 4 [.d (.v (.bool ((bk line).2)))],.bx 79 [.fn 83 [.pt 0 0,.pt 1 0]]])])] 13 [0,1,2,3,4,5,6,7] [2,4,7,8,10,71] r (by kernel_rfl) (U ((by rw [drop_one];exact qA _ _ (gW line) (by decide) (by decide) DP):aq Tryz.prog 84 [.d (.v (.bool ((af (pK line)).node))),.d (.v (.int .u64 255)),.pt 2 0,.pt 1 0] [.bx 87 [.d (.ro 1 (List.drop (1) (strs (aT 32 line))))],.bx 4 [.d (.v (.bool true))],.bx 79 [.fn 83 [.pt 0 0,.pt 1 0]]] (.u (pN (af (pK line)).node 255 (gW line))) [.bx 87 [.d (.ro 1 (strs (fa line).1))],.bx 4 [.d (.v (.bool ((fa line).2)))],.bx 79 [.fn 83 [.pt 0 0,.pt 1 0]]]) (U ((td (by omega) (by have:=ta (af (pK line)).node (gW line) (most:=255) (by decide);omega)):IntKind.i64.wrap (((pN (af (pK line)).node 255 (gW line):Nat):Int))=((pN (af (pK line)).node 255 (gW line):Nat):Int)) (U (qA _ _ (fa line) (by decide) (by decide) n9:aq Tryz.prog 84 [.d (.v (.bool ((af (pK line)).peer))),.d (.v (.int .u64 255)),.pt 2 0,.pt 1 0] [.bx 87 [.d (.ro 1 (strs (fa line).1))],.bx 4 [.d (.v (.bool ((fa line).2)))],.bx 79 [.fn 83 [.pt 0 0,.pt 1 0]]] (.u (pN (af (pK line)).peer 255 (fa line))) [.bx 87 [.d (.ro 1 (strs (fb line).1))],.bx 4 [.d (.v (.bool ((fb line).2)))],.bx 79 [.fn 83 [.pt 0 0,.pt 1 0]]]) (U ((td (by omega) (by have:=ta (af (pK line)).peer (fa line) (most:=255) (by decide);omega)):IntKind.i64.wrap (((pN (af (pK line)).peer 255 (fa line):Nat):Int))=((pN (af (pK line)).peer 255 (fa line):Nat):Int)) (U (qA _ _ (fb line) (by decide) (by decide) jw:aq Tryz.prog 84 [.d (.v (.bool ((af (pK line)).n))),.d (.v (.int .u64 255)),.pt 2 0,.pt 1 0] [.bx 87 [.d (.ro 1 (strs (fb line).1))],.bx 4 [.d (.v (.bool ((fb line).2)))],.bx 79 [.fn 83 [.pt 0 0,.pt 1 0]]] (.u (pN (af (pK line)).n 255 (fb line))) [.bx 87 [.d (.ro 1 (strs (fc line).1))],.bx 4 [.d (.v (.bool ((fc line).2)))],.bx 79 [.fn 83 [.pt 0 0,.pt 1 0]]]) (U ((td (by omega) (by have:=ta (af (pK line)).n (fb line) (most:=255) (by decide);omega)):IntKind.i64.wrap (((pN (af (pK line)).n 255 (fb line):Nat):Int))=((pN (af (pK line)).n 255 (fb line):Nat):Int)) (U (qA _ _ (fc line) (by decide) (by decide) DQ:aq Tryz.prog 84 [.d (.v (.bool ((af (pK line)).bit))),.d (.v (.int .u64 65535)),.pt 2 0,.pt 1 0] [.bx 87 [.d (.ro 1 (strs (fc line).1))],.bx 4 [.d (.v (.bool ((fc line).2)))],.bx 79 [.fn 83 [.pt 0 0,.pt 1 0]]] (.u (pN (af (pK line)).bit 65535 (fc line))) [.bx 87 [.d (.ro 1 (strs (fW line).1))],.bx 4 [.d (.v (.bool ((fW line).2)))],.bx 79 [.fn 83 [.pt 0 0,.pt 1 0]]]) (U ((td (by omega) (by have:=ta (af (pK line)).bit (fc line) (most:=65535) (by decide);omega)):IntKind.i64.wrap (((pN (af (pK line)).bit 65535 (fc line):Nat):Int))=((pN (af (pK line)).bit 65535 (fc line):Nat):Int)) (U (qA _ _ (fW line) (by decide) (by decide) DR:aq Tryz.prog 84 [.d (.v (.bool ((af (pK line)).inc))),.d (.v (.int .u64 18446744073709551615)),.pt 2 0,.pt 1 0] [.bx 87 [.d (.ro 1 (strs (fW line).1))],.bx 4 [.d (.v (.bool ((fW line).2)))],.bx 79 [.fn 83 [.pt 0 0,.pt 1 0]]] (.u (pN (af (pK line)).inc 18446744073709551615 (fW line))) [.bx 87 [.d (.ro 1 (strs (bk line).1))],.bx 4 [.d (.v (.bool ((bk line).2)))],.bx 79 [.fn 83 [.pt 0 0,.pt 1 0]]]) trivial))))))))) fun ac wd r=>?_
    suffices rO:kL line=false→∀ ac wd,RB D w0 K 93 bs [(2,.pt 1 0),(3,.d (.v (.bool false)))] [.gw 0 aj,.bx 42 [.z 0,.z 0,.z 0,.z 0,.z 0,.d (.v (.int .u64 0)),.d (.v (.slice none 0 0))]] ac wd→aC Tryz.prog 48 (aft Tryz.f48 22) (eX D w0 K bs (pW (kj line)) (pv (kj line))) ac wd by
     cases h4:((af (pK line)).body) with
     | false=>
      have r:=r.cast (E':=[(2,.pt 1 0),(4,.pt 2 0),(7,.pt 4 0),(8,.pt 5 0),(10,.pt 6 0),(71,.d (.v (.bool false)))]) (M':=[.gw 0 aj,.bx 42 [.z 0,.z 0,.z 0,.z 0,.z 0,.d (.v (.int .u64 0)),.d (.v (.slice none 0 0))],.bx 87 [.d (.ro 1 (strs (bk line).1))],.bx 94 [.d (.v (.string ⟨((af (pK line)).word).toArray⟩)),.d (.v (.bool ((af (pK line)).node))),.d (.v (.bool ((af (pK line)).peer))),.d (.v (.bool ((af (pK line)).n))),.d (.v (.bool ((af (pK line)).bit))),.d (.v (.bool ((af (pK line)).inc))),.d (.v (.bool false))],.bx 4 [.d (.v (.bool ((bk line).2)))],.bx 79 [.fn 83 [.pt 2 0,.pt 4 0]],.bx 42 [.n (pK line),.n (pN (af (pK line)).node 255 (gW line)),.n (pN (af (pK line)).peer 255 (fa line)),.n (pN (af (pK line)).n 255 (fb line)),.n (pN (af (pK line)).bit 65535 (fc line)),.u (pN (af (pK line)).inc 18446744073709551615 (fW line)),.sl 7 (0)],.rw 5 1 ([])]) (by rw [h4]) (by rw [h4])
      cases h5:((bk line).2) with
      | false=>
       have r:=r.cast (M':=[.gw 0 aj,.bx 42 [.z 0,.z 0,.z 0,.z 0,.z 0,.d (.v (.int .u64 0)),.d (.v (.slice none 0 0))],.bx 87 [.d (.ro 1 (strs (bk line).1))],.bx 94 [.d (.v (.string ⟨((af (pK line)).word).toArray⟩)),.d (.v (.bool ((af (pK line)).node))),.d (.v (.bool ((af (pK line)).peer))),.d (.v (.bool ((af (pK line)).n))),.d (.v (.bool ((af (pK line)).bit))),.d (.v (.bool ((af (pK line)).inc))),.d (.v (.bool false))],.bx 4 [.d (.v (.bool false))],.bx 79 [.fn 83 [.pt 2 0,.pt 4 0]],.bx 42 [.n (pK line),.n (pN (af (pK line)).node 255 (gW line)),.n (pN (af (pK line)).peer 255 (fa line)),.n (pN (af (pK line)).n 255 (fb line)),.n (pN (af (pK line)).bit 65535 (fc line)),.u (pN (af (pK line)).inc 18446744073709551615 (fW line)),.sl 7 (0)],.rw 5 1 ([])]) rfl (by rw [h5])
       refine bC (todo':=aft Tryz.f48 22) (E':=[(2,.pt 1 0),(3,.d (.v (.bool false)))]) (M':=[.gw 0 aj,.bx 42 [.z 0,.z 0,.z 0,.z 0,.z 0,.d (.v (.int .u64 0)),.d (.v (.slice none 0 0))]]) mo tq hK ak [] 8 [0,1] [2,3] r (by kernel_rfl) trivial fun ac wd r=>?_
       exact rO (by rw [sR (by omega) h4];simp_all) ac wd (r.cast rfl rfl)
      | true=>
       have r:=r.cast (M':=[.gw 0 aj,.bx 42 [.z 0,.z 0,.z 0,.z 0,.z 0,.d (.v (.int .u64 0)),.d (.v (.slice none 0 0))],.bx 87 [.d (.ro 1 (strs (bk line).1))],.bx 94 [.d (.v (.string ⟨((af (pK line)).word).toArray⟩)),.d (.v (.bool ((af (pK line)).node))),.d (.v (.bool ((af (pK line)).peer))),.d (.v (.bool ((af (pK line)).n))),.d (.v (.bool ((af (pK line)).bit))),.d (.v (.bool ((af (pK line)).inc))),.d (.v (.bool false))],.bx 4 [.d (.v (.bool true))],.bx 79 [.fn 83 [.pt 2 0,.pt 4 0]],.bx 42 [.n (pK line),.n (pN (af (pK line)).node 255 (gW line)),.n (pN (af (pK line)).peer 255 (fa line)),.n (pN (af (pK line)).n 255 (fb line)),.n (pN (af (pK line)).bit 65535 (fc line)),.u (pN (af (pK line)).inc 18446744073709551615 (fW line)),.sl 7 (0)],.rw 5 1 ([])]) rfl (by rw [h5])
       cases h6:(decide ((0:Int)<(((strs (bk line).1).length:Nat):Int))) with
       | false=>
        have eV:=of_decide_eq_false h6
        have hE:=Cz ‹decide ((0:Int)<(((strs (bk line).1).length:Nat):Int))=false›
        refine aQ (y:=.tu [.ag [.n (pK line),.n (pN (af (pK line)).node 255 (gW line)),.n (pN (af (pK line)).peer 255 (fa line)),.n (pN (af (pK line)).n 255 (fb line)),.n (pN (af (pK line)).bit 65535 (fc line)),.u (pN (af (pK line)).inc 18446744073709551615 (fW line)),.sl 1 (0)],.d (.v (.bool true))]) (N':=[.gw 0 aj,.rw 5 1 ([])]) ((by rw [sG (by rw [sR (by omega) h4];simp_all)];simp [pW,pv,pr,pB,ae,h4])) ((by rw [sG (by rw [sR (by omega) h4];simp_all)];simp [pW,pv,pr,pB,ae,h4])) ?_
        exact aP mo tq hK rfl ak [(21,[(5,.b false)])] 2000 [0,7] r (by kernel_rfl) (U h6 trivial)
       | true=>
        have eV:=of_decide_eq_true h6
        have hE:=Cy ‹decide ((0:Int)<(((strs (bk line).1).length:Nat):Int))=true›
        refine bC (todo':=aft Tryz.f48 22) (E':=[(2,.pt 1 0),(3,.d (.v (.bool false)))]) (M':=[.gw 0 aj,.bx 42 [.z 0,.z 0,.z 0,.z 0,.z 0,.d (.v (.int .u64 0)),.d (.v (.slice none 0 0))]]) mo tq hK ak [(21,[(5,.b true)])] 8 [0,1] [2,3] r (by kernel_rfl) (U h6 trivial) fun ac wd r=>?_
        exact rO (by rw [sR (by omega) h4];simp_all) ac wd (r.cast rfl rfl)
     | true=>
      have r:=r.cast (E':=[(2,.pt 1 0),(4,.pt 2 0),(7,.pt 4 0),(8,.pt 5 0),(10,.pt 6 0),(71,.d (.v (.bool true)))]) (M':=[.gw 0 aj,.bx 42 [.z 0,.z 0,.z 0,.z 0,.z 0,.d (.v (.int .u64 0)),.d (.v (.slice none 0 0))],.bx 87 [.d (.ro 1 (strs (bk line).1))],.bx 94 [.d (.v (.string ⟨((af (pK line)).word).toArray⟩)),.d (.v (.bool ((af (pK line)).node))),.d (.v (.bool ((af (pK line)).peer))),.d (.v (.bool ((af (pK line)).n))),.d (.v (.bool ((af (pK line)).bit))),.d (.v (.bool ((af (pK line)).inc))),.d (.v (.bool true))],.bx 4 [.d (.v (.bool ((bk line).2)))],.bx 79 [.fn 83 [.pt 2 0,.pt 4 0]],.bx 42 [.n (pK line),.n (pN (af (pK line)).node 255 (gW line)),.n (pN (af (pK line)).peer 255 (fa line)),.n (pN (af (pK line)).n 255 (fb line)),.n (pN (af (pK line)).bit 65535 (fc line)),.u (pN (af (pK line)).inc 18446744073709551615 (fW line)),.sl 7 (0)],.rw 5 1 ([])]) (by rw [h4]) (by rw [h4])
      cases h7:((fM (bY (bk line))).2) with
      | false=>
       have c7:=((by have k:=zr (bY (bk line));rw [h7] at k;exact k):aB Tryz.prog 85 [.d (.v (.string ⟨(bY (bk line)).toArray⟩))] (.tu [.em 5 1 (ae (fM (bY (bk line))).1),.v (.bool false)]))
       have e7:=(pF _:(jZ (Value.bool (bw (bk line)).2)==some true)=(bw (bk line)).2)
       have fO:=(o6 _ _:∃ b0:Bool,(Value.bool (bw (bk line)).2)=.bool b0∧(bif b0 then (bif (bw (bk line)).2 then Value.bool false else undef) else Value.bool false)=.bool ((bw (bk line)).2&&false))
       cases h8:(((bw (bk line)).2&&false)) with
       | false=>
        refine bC (todo':=aft Tryz.f48 22) (E':=[(2,.pt 1 0),(3,.d (.v (.bool false)))]) (M':=[.gw 0 aj,.bx 42 [.z 0,.z 0,.z 0,.z 0,.z 0,.d (.v (.int .u64 0)),.d (.v (.slice none 0 0))]]) mo tq hK ak [(19,[(1,.mem [2,4] (.d (.v (.string ⟨(bY (bk line)).toArray⟩))) [.bx 87 [.d (.ro 1 (strs (bw (bk line)).1))],.bx 4 [.d (.v (.bool ((bw (bk line)).2)))]]),(2,.aV (.tu [.em 5 1 (ae (fM (bY (bk line))).1),.v (.bool false)]))]),(20,[(3,.may (bw (bk line)).2 (.n 0)),(4,.res (.v (.bool ((bw (bk line)).2&&false))))]),(21,[(1,.b true)])] 10 [0,1] [2,3] r (by kernel_rfl) (U (oW (bk line)) (U c7 (U e7 (U (fun hc=>trivial:(bw (bk line)).2=true→True) (U fO (U ((by rw [h8];rfl):(!(((bw (bk line)).2&&false)))=true) trivial)))))) fun ac wd r=>?_
        exact rO (by rw [qB (by omega) h4];simp_all) ac wd (r.cast rfl rfl)
       | true=>
        exact absurd h8 (by simp)
      | true=>
       have ey:=((by have k:=zr (bY (bk line));rw [h7] at k;exact k):aB Tryz.prog 85 [.d (.v (.string ⟨(bY (bk line)).toArray⟩))] (.tu [.em 5 1 (ae (fM (bY (bk line))).1),.v (.bool true)]))
       have fP:=(pF _:(jZ (Value.bool (bw (bk line)).2)==some true)=(bw (bk line)).2)
       have gT:=(o6 _ _:∃ b0:Bool,(Value.bool (bw (bk line)).2)=.bool b0∧(bif b0 then (bif (bw (bk line)).2 then Value.bool true else undef) else Value.bool false)=.bool ((bw (bk line)).2&&true))
       cases h9:(((bw (bk line)).2&&true)) with
       | false=>
        refine bC (todo':=aft Tryz.f48 22) (E':=[(2,.pt 1 0),(3,.d (.v (.bool false)))]) (M':=[.gw 0 aj,.bx 42 [.z 0,.z 0,.z 0,.z 0,.z 0,.d (.v (.int .u64 0)),.d (.v (.slice none 0 0))]]) mo tq hK ak [(19,[(1,.mem [2,4] (.d (.v (.string ⟨(bY (bk line)).toArray⟩))) [.bx 87 [.d (.ro 1 (strs (bw (bk line)).1))],.bx 4 [.d (.v (.bool ((bw (bk line)).2)))]]),(2,.aV (.tu [.em 5 1 (ae (fM (bY (bk line))).1),.v (.bool true)]))]),(20,[(3,.may (bw (bk line)).2 (.n 0)),(4,.res (.v (.bool ((bw (bk line)).2&&true))))]),(21,[(1,.b true)])] 10 [0,1] [2,3] r (by kernel_rfl) (U (oW (bk line)) (U ey (U fP (U (fun hc=>trivial:(bw (bk line)).2=true→True) (U gT (U ((by rw [h9];rfl):(!(((bw (bk line)).2&&true)))=true) trivial)))))) fun ac wd r=>?_
        exact rO (by rw [qB (by omega) h4];simp_all) ac wd (r.cast rfl rfl)
       | true=>
        cases cX:(decide ((0:Int)<(((strs (bw (bk line)).1).length:Nat):Int))) with
        | false=>
         have lC:=of_decide_eq_false cX
         have hE:=Cz ‹decide ((0:Int)<(((strs (bw (bk line)).1).length:Nat):Int))=false›
         refine aQ (y:=.tu [.ag [.n (pK line),.n (pN (af (pK line)).node 255 (gW line)),.n (pN (af (pK line)).peer 255 (fa line)),.n (pN (af (pK line)).n 255 (fb line)),.n (pN (af (pK line)).bit 65535 (fc line)),.u (pN (af (pK line)).inc 18446744073709551615 (fW line)),.sl 1 ((ae (fM (bY (bk line))).1).length)],.d (.v (.bool true))]) (N':=[.gw 0 aj,.rw 5 1 (ae (fM (bY (bk line))).1)]) ((by rw [sG (by rw [qB (by omega) h4];simp_all)];simp [pW,pv,pr,pB,ae,h4])) ((by rw [sG (by rw [qB (by omega) h4];simp_all)];simp [pW,pv,pr,pB,ae,h4])) ?_
         exact aP mo tq hK rfl ak [(19,[(1,.mem [2,4] (.d (.v (.string ⟨(bY (bk line)).toArray⟩))) [.bx 87 [.d (.ro 1 (strs (bw (bk line)).1))],.bx 4 [.d (.v (.bool ((bw (bk line)).2)))]]),(2,.aV (.tu [.em 5 1 (ae (fM (bY (bk line))).1),.v (.bool true)]))]),(20,[(3,.may (bw (bk line)).2 (.n 0)),(4,.res (.v (.bool ((bw (bk line)).2&&true))))]),(21,[(1,.b false),(5,.b false)])] 2000 [0,8] r (by kernel_rfl) (U (oW (bk line)) (U ey (U fP (U (fun hc=>trivial:(bw (bk line)).2=true→True) (U gT (U ((by rw [h9];rfl):(!(((bw (bk line)).2&&true)))=false) (U cX trivial)))))))
        | true=>
         have lC:=of_decide_eq_true cX
         have hE:=Cy ‹decide ((0:Int)<(((strs (bw (bk line)).1).length:Nat):Int))=true›
         refine bC (todo':=aft Tryz.f48 22) (E':=[(2,.pt 1 0),(3,.d (.v (.bool false)))]) (M':=[.gw 0 aj,.bx 42 [.z 0,.z 0,.z 0,.z 0,.z 0,.d (.v (.int .u64 0)),.d (.v (.slice none 0 0))]]) mo tq hK ak [(19,[(1,.mem [2,4] (.d (.v (.string ⟨(bY (bk line)).toArray⟩))) [.bx 87 [.d (.ro 1 (strs (bw (bk line)).1))],.bx 4 [.d (.v (.bool ((bw (bk line)).2)))]]),(2,.aV (.tu [.em 5 1 (ae (fM (bY (bk line))).1),.v (.bool true)]))]),(20,[(3,.may (bw (bk line)).2 (.n 0)),(4,.res (.v (.bool ((bw (bk line)).2&&true))))]),(21,[(1,.b false),(5,.b true)])] 10 [0,1] [2,3] r (by kernel_rfl) (U (oW (bk line)) (U ey (U fP (U (fun hc=>trivial:(bw (bk line)).2=true→True) (U gT (U ((by rw [h9];rfl):(!(((bw (bk line)).2&&true)))=false) (U cX trivial))))))) fun ac wd r=>?_
         exact rO (by rw [qB (by omega) h4];simp_all) ac wd (r.cast rfl rfl)
    intro hJ ac wd r
    have r:=r.de (E1:=[(2,.pt 1 0),(3,.d (.v (.bool false)))]) (M1:=[.gw 0 aj,.bx 42 [.z 0,.z 0,.z 0,.z 0,.z 0,.d (.v (.int .u64 0)),.d (.v (.slice none 0 0))]]) (M2:=[.gw 0 aj,.bx 42 [.z 0,.z 0,.z 0,.z 0,.z 0,.d (.v (.int .u64 0)),.sl 2 (0)],.rw 5 1 ([])]) [] [(1,6,5,1)] (by kernel_rfl) (by kernel_rfl)
    refine aQ (y:=.tu [.ag [.z 0,.z 0,.z 0,.z 0,.z 0,.d (.v (.int .u64 0)),.sl 1 (0)],.d (.v (.bool false))]) (N':=[.gw 0 aj,.rw 5 1 ([])]) ((by rw [sQ hJ];rfl)) ((by rw [sQ hJ];rfl)) ?_
    exact aP mo tq hK rfl ak [] 2000 [0,2] r (by kernel_rfl) trivial
   | true=>
    have di:=eq_of_beq h3
    exact absurd di (by omega)
end Go.Proofs.YtcnpikbbmbombaaGreatDoor
namespace Go.Proofs.YtcnpikbbmbombaaGreatDoor
open Go.RowKit
def ka (w:List UInt8):Int:=(((aO w 255).1:Nat):Int)
def c8 (w:List UInt8):List UInt8×List UInt8:=if 0<w.count 45 then (bU 45 w,fL 45 w) else (w,[])
abbrev rP:=List (Int×Int)×List Int×Bool×Bool
def ku (s:rP) (w:List UInt8):rP:=
 if s.2.2.1=true then (s.1,s.2.1++[ka w],true,s.2.2.2&&(aO w 255).2)
 else if w=[58] then (s.1,s.2.1,true,s.2.2.2)
 else (s.1++[(ka (c8 w).1,ka (c8 w).2)],s.2.1,false,s.2.2.2&&(aO (c8 w).1 255).2&&(aO (c8 w).2 255).2)
theorem vL {ws:List (List UInt8)} {i:Nat} {w:List UInt8} {s0 s s2:rP} (g:ws[i]?=some w) (h:(ws.take i).foldl ku s0=s) (e:ku s w=s2):(ws.take (i+1)).foldl ku s0=s2:=by
 rw [List.take_add_one,g,Option.toList_some,List.foldl_append,h];exact e
theorem Ov (L:List (Int×Int)) (H:List Int) (g:Bool) (w:List UInt8):ku (L,H,true,g) w=(L,H++[(((aO w 255).1:Nat):Int)],true,g&&(aO w 255).2):=rfl
theorem Ow {L:List (Int×Int)} {H:List Int} {g:Bool} {w:List UInt8} (h:(w==([58]:List UInt8))=true):ku (L,H,false,g) w=(L,H,true,g):=by
 have:w=[58]:=by simpa using h
 subst this;rfl
theorem Ox {L:List (Int×Int)} {H:List Int} {g:Bool} {w:List UInt8} (h:(w==([58]:List UInt8))=false):ku (L,H,false,g) w=(L++[((((aO (c8 w).1 255).1:Nat):Int),(((aO (c8 w).2 255).1:Nat):Int))],H,false,(g&&(aO (c8 w).1 255).2)&&(aO (c8 w).2 255).2):=by
 have hw:w≠[58]:=by intro e;subst e;simp at h
 unfold ku;rw [if_neg (by simp),if_neg hw];rfl
theorem Jh (c:UInt8) (s:List UInt8):(bU c s).length≤s.length:=by
 have:=congrArg List.length (qd (c:=c) s);simp at this;omega
theorem Ji (c:UInt8) (s:List UInt8):(fL c s).length≤s.length:=by unfold fL;simp
theorem vM (w:List UInt8):(c8 w).1.length≤w.length∧(c8 w).2.length≤w.length:=by
 unfold c8;split
 ·exact ⟨Jh _ _,Ji _ _⟩
 ·exact ⟨Nat.le_refl _,Nat.zero_le _⟩
theorem Kr (w:List UInt8) (hl:w.length≤1048576):aB Tryz.prog 79 [.d (.v (.string ⟨w.toArray⟩)),.d (.v (.string ⟨[45].toArray⟩))] (.tu [.v (.string ⟨(c8 w).1.toArray⟩),.v (.string ⟨(c8 w).2.toArray⟩),.v (.bool (decide (0<w.count 45)))]):=by
 by_cases h:0<w.count 45
 ·unfold c8;rw [if_pos h,decide_eq_true h];exact qt 45 w (by omega) h
 ·unfold c8;rw [if_neg h,decide_eq_false h];exact Km 45 w (by omega) (by omega)
def eQ (l:List UInt8):List (List UInt8):=(aT 32 l).drop 2
def cT (l:List UInt8):List UInt8:=(aT 32 l).getD 1 []
def ni (l:List UInt8):rP:=(eQ l).foldl ku ([],[],false,(aO (cT l) 255).2)
def mR (l:List UInt8):cE:=⟨ka (cT l),(ni l).1,(ni l).2.1⟩
noncomputable def jJ (l:List UInt8):Bool:=(decide (3≤(aT 32 l).length)&&(bY (aT 32 l,true)==[119,111,114,108,100]))&&(((ni l).2.2.2&&(ni l).2.2.1)&&bI (mR l))
noncomputable def nj (l:List UInt8):cE×Bool:=cond (jJ l) (mR l,true) (⟨0,[],[]⟩,false)
def zc (q:cE×Bool):AV:=.tu [.ag [.z q.1.aL,.sl 0 q.1.ah.length,.sl 1 q.1.homes.length],.d (.v (.bool q.2))]
def ym (q:cE×Bool):List ai:=[.rw 60 2 (ah q.1.ah),.rw 3 1 (ints q.1.homes)]
theorem oX {l:List UInt8} (h:jJ l=false):nj l=(⟨0,[],[]⟩,false):=by unfold nj;rw [h];rfl
theorem vN {l:List UInt8} (h:jJ l=true):nj l=(mR l,true):=by unfold nj;rw [h];rfl
theorem B2 {l:List UInt8} (h:(aT 32 l).length<3):jJ l=false:=by unfold jJ;rw [decide_eq_false (by omega)];rfl
theorem B3 {l:List UInt8} (h:(bY (aT 32 l,true)==[119,111,114,108,100])=false):jJ l=false:=by unfold jJ;rw [h,Bool.and_false];rfl
theorem pa {l:List UInt8} {i:Nat} {s:rP} (hi:(eQ l).length≤i) (h:((eQ l).take i).foldl ku ([],[],false,(aO (cT l) 255).2)=s):ni l=s:=by rw [List.take_of_length_le hi] at h;exact h
theorem tf {l:List UInt8} {L:List (Int×Int)} {H:List Int} {b g:Bool} (e:ni l=(L,H,b,g)) (h:((g&&b)&&bI ⟨ka (cT l),L,H⟩)=false):jJ l=false:=by unfold jJ mR;rw [e];simp only [h,Bool.and_false]
theorem wI {l:List UInt8} {L:List (Int×Int)} {H:List Int} (e:ni l=(L,H,true,true)) (h3:3≤(aT 32 l).length) (hw:(bY (aT 32 l,true)==[119,111,114,108,100])=true) (h:bI ⟨ka (cT l),L,H⟩=true):jJ l=true:=by unfold jJ mR;rw [e,hw,decide_eq_true h3];simp only [h];rfl
theorem u4 {l:List UInt8} {i:Nat} {x:List UInt8} (h:(eQ l)[i]?=some x):(List.drop 2 (strs (aT 32 l)))[i]?=some [.v (.string ⟨x.toArray⟩)]:=by unfold strs;rw [← List.map_drop,List.getElem?_map];unfold eQ at h;rw [h];rfl
theorem Gc {l:List UInt8} (h:3≤(aT 32 l).length):(strs (aT 32 l))[1]?=some [.v (.string ⟨(cT l).toArray⟩)]:=by
 unfold strs cT;rw [List.getElem?_map,List.getD_eq_getElem?_getD,List.getElem?_eq_getElem (by omega)];rfl
theorem Jj (l:List UInt8):(eQ l).length=(aT 32 l).length-2:=by unfold eQ;simp
theorem B4 {l:List UInt8} {i:Nat} {x:List UInt8} (hl:l.length≤1048576) (h:(eQ l)[i]?=some x):x.length≤1048576:=Nat.le_trans (oG (List.mem_of_mem_drop (List.mem_of_getElem? h))) hl
theorem Ks {l:List UInt8} (hl:l.length≤1048576):(cT l).length≤1048576:=by
 unfold cT;rw [List.getD_eq_getElem?_getD]
 cases h:(aT 32 l)[1]? with
 | none=>exact Nat.zero_le _
 | some x=>exact Nat.le_trans (oG (List.mem_of_getElem? h)) hl
set_option maxRecDepth 100000 in
theorem sS (x:List UInt8) (g:Bool) (hl:x.length≤1048576):aq Tryz.prog 81 [.d (.v (.string ⟨x.toArray⟩)),.pt 0 0] [.bx 4 [.d (.v (.bool g))]] (.n (aO x 255).1) ([.bx 4 [.d (.v (.bool (g&&(aO x 255).2)))]]):=by
 refine aq.intro (by kernel_rfl) rfl rfl 17 rfl rfl fun D w0 K bs ac wd hK (ak:bs.m=1) r=>?_
 cases h0:((aO x 255).2) with
 | false=>
  refine aQ (y:=.n ((aO x 255).1)) (N':=[.bx 4 [.d (.v (.bool ((g&&false))))]]) (rfl) (rfl) ?_
  exact aP mo tq hK rfl ak [(1,[(1,.aV (.tu [.u ((aO x 255).1),.v (.bool false)]))]),(2,[(2,.may g (.n 0)),(3,.res (.v (.bool (g&&false))))]),(3,[(1,.z ((((aO x 255).1:Nat):Int)))])] 2000 [0] r (by kernel_rfl) (U ((by have k:=sj x 255 (by omega) (by omega) (by omega);rw [h0] at k;exact k):aB Tryz.prog 82 [.d (.v (.string ⟨x.toArray⟩)),.d (.v (.int .u64 255))] (.tu [.u ((aO x 255).1),.v (.bool false)])) (U (pF _:(jZ (Value.bool g)==some true)=g) (U (fun hc=>trivial:g=true→True) (U (o6 _ _:∃ b0:Bool,(Value.bool g)=.bool b0∧(bif b0 then (bif g then Value.bool false else undef) else Value.bool false)=.bool (g&&false)) (U ((wi (by have:=vJ x (most:=255) (by omega);omega)):IntKind.i64.wrap ((((aO x 255).1:Nat):Int))=(((aO x 255).1:Nat):Int)) trivial)))))
 | true=>
  refine aQ (y:=.n ((aO x 255).1)) (N':=[.bx 4 [.d (.v (.bool ((g&&true))))]]) (rfl) (rfl) ?_
  exact aP mo tq hK rfl ak [(1,[(1,.aV (.tu [.u ((aO x 255).1),.v (.bool true)]))]),(2,[(2,.may g (.n 0)),(3,.res (.v (.bool (g&&true))))]),(3,[(1,.z ((((aO x 255).1:Nat):Int)))])] 2000 [0] r (by kernel_rfl) (U ((by have k:=sj x 255 (by omega) (by omega) (by omega);rw [h0] at k;exact k):aB Tryz.prog 82 [.d (.v (.string ⟨x.toArray⟩)),.d (.v (.int .u64 255))] (.tu [.u ((aO x 255).1),.v (.bool true)])) (U (pF _:(jZ (Value.bool g)==some true)=g) (U (fun hc=>trivial:g=true→True) (U (o6 _ _:∃ b0:Bool,(Value.bool g)=.bool b0∧(bif b0 then (bif g then Value.bool true else undef) else Value.bool false)=.bool (g&&true)) (U ((wi (by have:=vJ x (most:=255) (by omega);omega)):IntKind.i64.wrap ((((aO x 255).1:Nat):Int))=(((aO x 255).1:Nat):Int)) trivial)))))
set_option maxRecDepth 100000 in
theorem Ec (line:List UInt8) (hl:line.length≤1048576):aq Tryz.prog 47 [.d (.v (.string ⟨line.toArray⟩))] [] (zc (nj line)) (ym (nj line)):=by
 refine aq.intro (by kernel_rfl) rfl rfl 85 rfl rfl fun D w0 K bs ac wd hK (ak:bs.m=0) r=>?_
 have aE:=((by first | rfl | (simp [strs];done) | (simp [strs,eQ];done) | (simp [strs];omega)):(((strs (aT 32 line)).length:Nat):Int)=(((aT 32 line).length:Nat):Int))
 cases h0:(decide (((((aT 32 line).length:Nat):Int):Int)<3)) with
 | false=>
  have aK:=of_decide_eq_false h0
  have aZ:=(AP 32 line:(strs (aT 32 line))[0]?=some [.v (.string ⟨(bY (aT 32 line,true)).toArray⟩)])
  cases h1:((bY (aT 32 line,true))==([119,111,114,108,100]:List UInt8)) with
  | false=>
   refine bC (todo':=aft Tryz.f47 3) (E':=[(2,.pt 0 0),(3,.d (.v (.bool false))),(4,.d (.ro 1 (strs (aT 32 line))))]) (M':=[.bx 25 [.z 0,.d (.v (.slice none 0 0)),.d (.v (.slice none 0 0))]]) mo tq hK ak [(1,[(1,.aV (.ro 1 (strs (aT 32 line))))]),(2,[(1,.z ((((aT 32 line).length:Nat):Int))),(2,.b false),(5,.ix (0) [.v (.string ⟨(bY (aT 32 line,true)).toArray⟩)]),(7,.b true)])] 10 [0] [2,3,4] r (by kernel_rfl) (U (sE 32 line hl) (U aE (U h0 (U (rfl:(0)=((0:Nat):Int)) (U aZ (U ((by simpa [bne] using h1):((bY (aT 32 line,true)) != ([119,111,114,108,100]:List UInt8))=true) trivial)))))) fun ac wd r=>?_
   have r:=r.de (E1:=[(2,.pt 0 0),(3,.d (.v (.bool false))),(4,.d (.ro 1 (strs (aT 32 line))))]) (M1:=[.bx 25 [.z 0,.d (.v (.slice none 0 0)),.d (.v (.slice none 0 0))]]) (M2:=[.bx 25 [.z 0,.sl 1 (0),.sl 2 (0)],.rw 60 2 ([]),.rw 3 1 ([])]) [] [(0,1,60,2),(0,2,3,1)] (by kernel_rfl) (by kernel_rfl)
   refine aQ (y:=.tu [.ag [.z 0,.sl 0 (0),.sl 1 (0)],.d (.v (.bool false))]) (N':=[.rw 60 2 ([]),.rw 3 1 ([])]) ((by rw [oX (B3 h1)];rfl)) ((by rw [oX (B3 h1)];rfl)) ?_
   exact aP mo tq hK rfl ak [] 2000 [1,2] r (by kernel_rfl) trivial
  | true=>
   refine bC (todo':=aft Tryz.f47 7) (E':=[(2,.pt 0 0),(3,.d (.v (.bool false))),(4,.d (.ro 1 (strs (aT 32 line)))),(5,.pt 1 0),(6,.fn 81 [.pt 1 0]),(7,.pt 2 0),(8,.d (.v (.bool false)))]) (M':=[.bx 25 [.z 0,.d (.v (.slice none 0 0)),.d (.v (.slice none 0 0))],.bx 4 [.d (.v (.bool ((true&&(aO (cT line) 255).2))))],.bx 25 [.n ((aO (cT line) 255).1),.d (.v (.slice none 0 0)),.d (.v (.slice none 0 0))]]) mo tq hK ak [(1,[(1,.aV (.ro 1 (strs (aT 32 line))))]),(2,[(1,.z ((((aT 32 line).length:Nat):Int))),(2,.b false),(5,.ix (0) [.v (.string ⟨(bY (aT 32 line,true)).toArray⟩)]),(7,.b false)]),(6,[(2,.ix (1) [.v (.string ⟨(cT line).toArray⟩)]),(4,.mem [1] (.n ((aO (cT line) 255).1)) [.bx 4 [.d (.v (.bool ((true&&(aO (cT line) 255).2))))]])])] 17 [0,1,2] [2,3,4,5,6,7,8] r (by kernel_rfl) (U (sE 32 line hl) (U aE (U h0 (U (rfl:(0)=((0:Nat):Int)) (U aZ (U ((by simpa [bne] using h1):((bY (aT 32 line,true)) != ([119,111,114,108,100]:List UInt8))=false) (U (rfl:(1)=((1:Nat):Int)) (U (Gc (by omega):(strs (aT 32 line))[1]?=some [.v (.string ⟨(cT line).toArray⟩)]) (U (sS (cT line) true (Ks hl)) trivial))))))))) fun ac wd r=>?_
   suffices oe:jJ line=false→∀ ac wd,RB D w0 K 85 bs [(2,.pt 0 0),(3,.d (.v (.bool false)))] [.bx 25 [.z 0,.d (.v (.slice none 0 0)),.d (.v (.slice none 0 0))]] ac wd→aC Tryz.prog 47 (aft Tryz.f47 19) (eX D w0 K bs (zc (nj line)) (ym (nj line))) ac wd by
    refine bT (todo':=hd Tryz.f47 0) (E':=[(2,.pt 0 0),(5,.pt 1 0),(6,.fn 81 [.pt 1 0]),(7,.pt 2 0),(8,.d (.v (.bool false))),(34,.d (.ro 1 (List.drop (2) (strs (aT 32 line))))),(35,.n ((eQ line).length)),(36,.z 0)]) (M':=[.bx 25 [.z 0,.d (.v (.slice none 0 0)),.d (.v (.slice none 0 0))],.bx 4 [.d (.v (.bool ((true&&(aO (cT line) 255).2))))],.bx 25 [.n ((aO (cT line) 255).1),.d (.v (.slice none 0 0)),.d (.v (.slice none 0 0))]]) mo tq hK ak [(8,[(1,.n2 (0) (2)),(2,.z ((((eQ line).length:Nat):Int)))])] 2000 [0,1,2] [2,5,6,7,8,34,35,36] r (by kernel_rfl) (U (rfl:(2:Int)=((2:Nat):Int)) (U ((by have:=iw 32 line;simp [strs];omega):(2)≤(strs (aT 32 line):List (List DV)).length) (U ((by first | rfl | (simp [strs];done) | (simp [strs,eQ];done) | (simp [strs];omega)):(((List.drop (2) (strs (aT 32 line))).length:Nat):Int)=(((eQ line).length:Nat):Int)) trivial))) fun ac wd r=>?_
    refine aC.rounds (Φ:=fun (i:Nat) ac wd=>∃ L:List (Int×Int),∃ H:List Int,∃ bh:Bool,∃ g:Bool,(i≤(eQ line).length∧((eQ line).take i).foldl ku ([],[],false,(aO (cT line) 255).2)=(L,H,bh,g)∧L.length≤i∧H.length≤i)∧RB D w0 K 85 bs [(2,.pt 0 0),(5,.pt 1 0),(6,.fn 81 [.pt 1 0]),(7,.pt 2 0),(8,.d (.v (.bool bh))),(34,.d (.ro 1 (List.drop 2 (strs (aT 32 line))))),(35,.n ((eQ line).length)),(36,.n i)] [.bx 25 [.z 0,.d (.v (.slice none 0 0)),.d (.v (.slice none 0 0))],.bx 4 [.d (.v (.bool g))],.bx 25 [.n ((aO (cT line) 255).1),.sl 3 (L.length),.sl 4 (H.length)],.rw 60 2 (ah L),.rw 3 1 (ints H)] ac wd) ((eQ line).length) ?_ (Nat.zero_le _) ⟨[],[],false,(aO (cT line) 255).2,⟨Nat.zero_le _,rfl,Nat.le_refl _,Nat.le_refl _⟩,(r.de (E1:=[(2,.pt 0 0),(5,.pt 1 0),(6,.fn 81 [.pt 1 0]),(7,.pt 2 0),(8,.d (.v (.bool false))),(34,.d (.ro 1 (List.drop (2) (strs (aT 32 line))))),(35,.n ((eQ line).length)),(36,.z 0)]) (M2:=[.bx 25 [.z 0,.d (.v (.slice none 0 0)),.d (.v (.slice none 0 0))],.bx 4 [.d (.v (.bool ((true&&(aO (cT line) 255).2))))],.bx 25 [.n ((aO (cT line) 255).1),.sl 3 (0),.sl 4 (0)],.rw 60 2 ([]),.rw 3 1 ([])]) (M1:=[.bx 25 [.z 0,.d (.v (.slice none 0 0)),.d (.v (.slice none 0 0))],.bx 4 [.d (.v (.bool ((true&&(aO (cT line) 255).2))))],.bx 25 [.n ((aO (cT line) 255).1),.d (.v (.slice none 0 0)),.d (.v (.slice none 0 0))]]) [] [(2,1,60,2),(2,2,3,1)] (by kernel_rfl) (by kernel_rfl)).cast rfl rfl⟩
    clear r
    rintro i dI bH ac wd ⟨L,H,bh,g,ao,r⟩
    have PF:=Jj line
    have dY:=iw 32 line
    have Du:=List.count_le_length (a:=(32:UInt8)) (l:=line)
    have DS:L.length≤9223372036854775807:=by omega
    have DT:H.length≤9223372036854775807:=by omega
    cases bh with
    | false=>
     cases h2:(decide ((((i:Nat):Int):Int)<(((eQ line).length:Nat):Int))) with
     | false=>
      have cW:=of_decide_eq_false h2
      cases h3:(g) with
      | false=>
       refine bC (todo':=aft Tryz.f47 19) (E':=[(2,.pt 0 0),(3,.d (.v (.bool false)))]) (M':=[.bx 25 [.z 0,.d (.v (.slice none 0 0)),.d (.v (.slice none 0 0))]]) mo tq hK ak [(9,[(0,.b false)]),(18,[(1,.b true)])] 11 [0] [2,3] r (by kernel_rfl) (U h2 (U ((by rw [h3];rfl):(!(g))=true) trivial)) fun ac wd r=>?_
       exact oe (tf (pa (by omega) ao.2.1) (by simp [h3])) ac wd (r.cast rfl rfl)
      | true=>
       refine bC (todo':=aft Tryz.f47 19) (E':=[(2,.pt 0 0),(3,.d (.v (.bool false)))]) (M':=[.bx 25 [.z 0,.d (.v (.slice none 0 0)),.d (.v (.slice none 0 0))]]) mo tq hK ak [(9,[(0,.b false)]),(18,[(1,.b false)])] 11 [0] [2,3] r (by kernel_rfl) (U h2 (U ((by rw [h3];rfl):(!(g))=false) trivial)) fun ac wd r=>?_
       exact oe (tf (pa (by omega) ao.2.1) (by simp [h3])) ac wd (r.cast rfl rfl)
     | true=>
      have cW:=of_decide_eq_true h2
      obtain ⟨cL,k9⟩:∃ x_,(eQ line)[i]?=some x_:=⟨_,List.getElem?_eq_getElem (by omega)⟩
      have DU:=B4 hl k9
      cases h4:(cL==([58]:List UInt8)) with
      | false=>
       exact bT (todo':=hd Tryz.f47 0) (E':=[(2,.pt 0 0),(5,.pt 1 0),(6,.fn 81 [.pt 1 0]),(7,.pt 2 0),(8,.d (.v (.bool false))),(34,.d (.ro 1 (List.drop 2 (strs (aT 32 line))))),(35,.n ((eQ line).length)),(36,.n (i+1))]) (M':=[.bx 25 [.z 0,.d (.v (.slice none 0 0)),.d (.v (.slice none 0 0))],.bx 4 [.d (.v (.bool (((g&&(aO ((c8 cL).1) 255).2)&&(aO ((c8 cL).2) 255).2))))],.bx 25 [.n ((aO (cT line) 255).1),.sl 3 (L.length+(1)),.sl 4 (H.length)],.rw 60 2 (ah L++[[.n ((aO ((c8 cL).1) 255).1),.n ((aO ((c8 cL).2) 255).1)]]),.rw 3 1 (ints H)]) mo tq hK ak [(9,[(0,.b true)]),(10,[(0,.ix (i) [.v (.string ⟨cL.toArray⟩)])]),(11,[(1,.aV (.tu [.v (.string ⟨((c8 cL).1).toArray⟩),.v (.string ⟨((c8 cL).2).toArray⟩),.v (.bool (decide (0<cL.count 45)))]))]),(12,[(4,.mem [1] (.n ((aO ((c8 cL).1) 255).1)) [.bx 4 [.d (.v (.bool ((g&&(aO ((c8 cL).1) 255).2))))]]),(7,.mem [1] (.n ((aO ((c8 cL).2) 255).1)) [.bx 4 [.d (.v (.bool (((g&&(aO ((c8 cL).1) 255).2)&&(aO ((c8 cL).2) 255).2))))]])]),(15,[(1,.b false)]),(17,[(0,.z (((i+1:Nat):Int)))])] 2000 [0,1,2,3,4] [2,5,6,7,8,34,35,36] r (by kernel_rfl) (U h2 (U (aA ((i:Nat):Int)) (U (u4 k9) (U h4 (U (Kr cL DU) (U (sS ((c8 cL).1) g (by have:=vM cL;omega)) (U (sS ((c8 cL).2) (g&&(aO ((c8 cL).1) 255).2) (by have:=vM cL;omega)) (U ((by first | rfl | (simp [ah,ints];done) | (simp [ah,ints];omega)):(L.length)=(ah L:List (List DV)).length) (U ((by first | rfl | (simp [ah,ints];done) | (simp [ah,ints];omega)):(1)=([[.n ((aO ((c8 cL).1) 255).1),.n ((aO ((c8 cL).2) 255).1)]]:List (List DV)).length) (U ((by first | omega | (simp [ah,ints];done) | (simp [ah,ints];omega)):(2*((L.length)+(1))+192)*16≤281474976710656) (U ((by first | omega | (simp [ah,ints];done) | (simp [ah,ints];omega)):(L.length)+(1)<4611686018427387904) (U ((by simp [bd,AV.one,bW,ae,ah,ints,steps,strs]):bd ([[.n ((aO ((c8 cL).1) 255).1),.n ((aO ((c8 cL).2) 255).1)]])) (U ((wi (by omega)):IntKind.i64.wrap ((((i:Nat):Int):Int)+1)=((i+1:Nat):Int)) trivial))))))))))))) fun ac wd r=>bH (by omega) ac wd ⟨(L++[((((aO (c8 cL).1 255).1:Nat):Int),(((aO (c8 cL).2 255).1:Nat):Int))]),H,false,((g&&(aO (c8 cL).1 255).2)&&(aO (c8 cL).2 255).2),⟨by omega,vL k9 ao.2.1 (Ox h4),by simp;omega,by omega⟩,r.cast rfl (by simp [ah,ints])⟩
      | true=>
       exact bT (todo':=hd Tryz.f47 0) (E':=[(2,.pt 0 0),(5,.pt 1 0),(6,.fn 81 [.pt 1 0]),(7,.pt 2 0),(8,.d (.v (.bool true))),(34,.d (.ro 1 (List.drop 2 (strs (aT 32 line))))),(35,.n ((eQ line).length)),(36,.n (i+1))]) (M':=[.bx 25 [.z 0,.d (.v (.slice none 0 0)),.d (.v (.slice none 0 0))],.bx 4 [.d (.v (.bool g))],.bx 25 [.n ((aO (cT line) 255).1),.sl 3 (L.length),.sl 4 (H.length)],.rw 60 2 (ah L),.rw 3 1 (ints H)]) mo tq hK ak [(9,[(0,.b true)]),(10,[(0,.ix (i) [.v (.string ⟨cL.toArray⟩)])]),(15,[(1,.b true)]),(17,[(0,.z (((i+1:Nat):Int)))])] 2000 [0,1,2,3,4] [2,5,6,7,8,34,35,36] r (by kernel_rfl) (U h2 (U (aA ((i:Nat):Int)) (U (u4 k9) (U h4 (U ((wi (by omega)):IntKind.i64.wrap ((((i:Nat):Int):Int)+1)=((i+1:Nat):Int)) trivial))))) fun ac wd r=>bH (by omega) ac wd ⟨L,H,true,g,⟨by omega,vL k9 ao.2.1 (Ow h4),by omega,by omega⟩,r.cast rfl (by simp [ah,ints])⟩
    | true=>
     cases h5:(decide ((((i:Nat):Int):Int)<(((eQ line).length:Nat):Int))) with
     | false=>
      have ew:=of_decide_eq_false h5
      cases h6:(g) with
      | false=>
       refine bC (todo':=aft Tryz.f47 19) (E':=[(2,.pt 0 0),(3,.d (.v (.bool false)))]) (M':=[.bx 25 [.z 0,.d (.v (.slice none 0 0)),.d (.v (.slice none 0 0))]]) mo tq hK ak [(9,[(0,.b false)]),(18,[(1,.b true)])] 11 [0] [2,3] r (by kernel_rfl) (U h5 (U ((by rw [h6];rfl):(!(g))=true) trivial)) fun ac wd r=>?_
       exact oe (tf (pa (by omega) ao.2.1) (by simp [h6])) ac wd (r.cast rfl rfl)
      | true=>
       cases h7:(bI ⟨ka (cT line),L,H⟩) with
       | false=>
        refine bC (todo':=aft Tryz.f47 19) (E':=[(2,.pt 0 0),(3,.d (.v (.bool false)))]) (M':=[.bx 25 [.z 0,.d (.v (.slice none 0 0)),.d (.v (.slice none 0 0))]]) mo tq hK ak [(9,[(0,.b false)]),(18,[(1,.b false),(8,.call [.ag [.n ((aO (cT line) 255).1),.d (.ro 2 (ah L)),.d (.ro 1 (ints H))]] (.v (.bool false)))])] 11 [0] [2,3] r (by kernel_rfl) (U h5 (U ((by rw [h6];rfl):(!(g))=false) (U ((by have k:=o7 ⟨ka (cT line),L,H⟩ DS DT;rw [h7] at k;exact k):aB Tryz.prog 21 [.ag [.n ((aO (cT line) 255).1),.d (.ro 2 (ah L)),.d (.ro 1 (ints H))]] (.v (.bool false))) (U ((fx _):eH (.v (.bool false))) (U (iq (.n ((aO (cT line) 255).1))) (U (cR (2)) (U ((by first | rfl | (simp [ah,ints];done) | (simp [ah,ints];omega)):(L.length)=(ah L:List (List DV)).length) (U ((by first | exact fX _ | exact ff _):cb (ah L)=ah L) (U (cR (1)) (U ((by first | rfl | (simp [ah,ints];done) | (simp [ah,ints];omega)):(H.length)=(ints H).length) (U ((by first | exact fX _ | exact ff _):cb (ints H)=ints H) trivial))))))))))) fun ac wd r=>?_
        exact oe (tf (pa (by omega) ao.2.1) (by simp [h6,h7])) ac wd (r.cast rfl rfl)
       | true=>
        refine aQ (y:=.tu [.ag [.n ((aO (cT line) 255).1),.sl 0 (L.length),.sl 1 (H.length)],.d (.v (.bool true))]) (N':=[.rw 60 2 (ah L),.rw 3 1 (ints H)]) ((by have e:=pa (by omega) ao.2.1;rw [h6] at e;rw [vN (wI e (by omega) h1 h7)];unfold zc mR;rw [e]<;>rfl)) ((by have e:=pa (by omega) ao.2.1;rw [h6] at e;rw [vN (wI e (by omega) h1 h7)];unfold ym mR;rw [e]<;>rfl)) ?_
        exact aP mo tq hK rfl ak [(9,[(0,.b false)]),(18,[(1,.b false),(8,.call [.ag [.n ((aO (cT line) 255).1),.d (.ro 2 (ah L)),.d (.ro 1 (ints H))]] (.v (.bool true)))])] 2000 [3,4] r (by kernel_rfl) (U h5 (U ((by rw [h6];rfl):(!(g))=false) (U ((by have k:=o7 ⟨ka (cT line),L,H⟩ DS DT;rw [h7] at k;exact k):aB Tryz.prog 21 [.ag [.n ((aO (cT line) 255).1),.d (.ro 2 (ah L)),.d (.ro 1 (ints H))]] (.v (.bool true))) (U ((fx _):eH (.v (.bool true))) (U (iq (.n ((aO (cT line) 255).1))) (U (cR (2)) (U ((by first | rfl | (simp [ah,ints];done) | (simp [ah,ints];omega)):(L.length)=(ah L:List (List DV)).length) (U ((by first | exact fX _ | exact ff _):cb (ah L)=ah L) (U (cR (1)) (U ((by first | rfl | (simp [ah,ints];done) | (simp [ah,ints];omega)):(H.length)=(ints H).length) (U ((by first | exact fX _ | exact ff _):cb (ints H)=ints H) trivial)))))))))))
     | true=>
      have ew:=of_decide_eq_true h5
      obtain ⟨cL,k9⟩:∃ x_,(eQ line)[i]?=some x_:=⟨_,List.getElem?_eq_getElem (by omega)⟩
      have DU:=B4 hl k9
      exact bT (todo':=hd Tryz.f47 0) (E':=[(2,.pt 0 0),(5,.pt 1 0),(6,.fn 81 [.pt 1 0]),(7,.pt 2 0),(8,.d (.v (.bool true))),(34,.d (.ro 1 (List.drop 2 (strs (aT 32 line))))),(35,.n ((eQ line).length)),(36,.n (i+1))]) (M':=[.bx 25 [.z 0,.d (.v (.slice none 0 0)),.d (.v (.slice none 0 0))],.bx 4 [.d (.v (.bool ((g&&(aO cL 255).2))))],.bx 25 [.n ((aO (cT line) 255).1),.sl 3 (L.length),.sl 4 (H.length+(1))],.rw 60 2 (ah L),.rw 3 1 (ints H++[[.n ((aO cL 255).1)]])]) mo tq hK ak [(9,[(0,.b true)]),(10,[(0,.ix (i) [.v (.string ⟨cL.toArray⟩)])]),(14,[(4,.mem [1] (.n ((aO cL 255).1)) [.bx 4 [.d (.v (.bool ((g&&(aO cL 255).2))))]])]),(17,[(0,.z (((i+1:Nat):Int)))])] 2000 [0,1,2,3,4] [2,5,6,7,8,34,35,36] r (by kernel_rfl) (U h5 (U (aA ((i:Nat):Int)) (U (u4 k9) (U (sS cL g (by have:=vM cL;omega)) (U ((by first | rfl | (simp [ah,ints];done) | (simp [ah,ints];omega)):(H.length)=(ints H).length) (U ((by first | rfl | (simp [ah,ints];done) | (simp [ah,ints];omega)):(1)=([[.n ((aO cL 255).1)]]:List (List DV)).length) (U ((by first | omega | (simp [ah,ints];done) | (simp [ah,ints];omega)):(2*((H.length)+(1))+192)*8≤281474976710656) (U ((by first | omega | (simp [ah,ints];done) | (simp [ah,ints];omega)):(H.length)+(1)<4611686018427387904) (U ((by simp [bd,AV.one,bW,ae,ah,ints,steps,strs]):bd ([[.n ((aO cL 255).1)]])) (U ((wi (by omega)):IntKind.i64.wrap ((((i:Nat):Int):Int)+1)=((i+1:Nat):Int)) trivial)))))))))) fun ac wd r=>bH (by omega) ac wd ⟨L,(H++[(((aO cL 255).1:Nat):Int)]),true,(g&&(aO cL 255).2),⟨by omega,vL k9 ao.2.1 (Ov L H g cL),by omega,by simp;omega⟩,r.cast rfl (by simp [ah,ints])⟩
   intro hJ ac wd r
   have r:=r.de (E1:=[(2,.pt 0 0),(3,.d (.v (.bool false)))]) (M1:=[.bx 25 [.z 0,.d (.v (.slice none 0 0)),.d (.v (.slice none 0 0))]]) (M2:=[.bx 25 [.z 0,.sl 1 (0),.sl 2 (0)],.rw 60 2 ([]),.rw 3 1 ([])]) [] [(0,1,60,2),(0,2,3,1)] (by kernel_rfl) (by kernel_rfl)
   refine aQ (y:=.tu [.ag [.z 0,.sl 0 (0),.sl 1 (0)],.d (.v (.bool false))]) (N':=[.rw 60 2 ([]),.rw 3 1 ([])]) ((by rw [oX hJ];rfl)) ((by rw [oX hJ];rfl)) ?_
   exact aP mo tq hK rfl ak [] 2000 [1,2] r (by kernel_rfl) trivial
 | true=>
  have aK:=of_decide_eq_true h0
  refine bC (todo':=aft Tryz.f47 3) (E':=[(2,.pt 0 0),(3,.d (.v (.bool false))),(4,.d (.ro 1 (strs (aT 32 line))))]) (M':=[.bx 25 [.z 0,.d (.v (.slice none 0 0)),.d (.v (.slice none 0 0))]]) mo tq hK ak [(1,[(1,.aV (.ro 1 (strs (aT 32 line))))]),(2,[(1,.z ((((aT 32 line).length:Nat):Int))),(2,.b true)])] 10 [0] [2,3,4] r (by kernel_rfl) (U (sE 32 line hl) (U aE (U h0 trivial))) fun ac wd r=>?_
  have r:=r.de (E1:=[(2,.pt 0 0),(3,.d (.v (.bool false))),(4,.d (.ro 1 (strs (aT 32 line))))]) (M1:=[.bx 25 [.z 0,.d (.v (.slice none 0 0)),.d (.v (.slice none 0 0))]]) (M2:=[.bx 25 [.z 0,.sl 1 (0),.sl 2 (0)],.rw 60 2 ([]),.rw 3 1 ([])]) [] [(0,1,60,2),(0,2,3,1)] (by kernel_rfl) (by kernel_rfl)
  refine aQ (y:=.tu [.ag [.z 0,.sl 0 (0),.sl 1 (0)],.d (.v (.bool false))]) (N':=[.rw 60 2 ([]),.rw 3 1 ([])]) ((by rw [oX (B2 (by omega))];rfl)) ((by rw [oX (B2 (by omega))];rfl)) ?_
  exact aP mo tq hK rfl ak [] 2000 [1,2] r (by kernel_rfl) trivial
end Go.Proofs.YtcnpikbbmbombaaGreatDoor
namespace Go.Proofs.YtcnpikbbmbombaaGreatDoor
open Go.RowKit
theorem Oy:aq Tryz.prog 47 [.d (.v (.string ⟨([119,111,114,108,100,32,49,32,58,32,49]:List UInt8).toArray⟩))] [] (.tu [.ag [.z 1,.sl 0 0,.sl 1 1],.d (.v (.bool true))]) [.rw 60 2 (ah []),.rw 3 1 (ints [1])]:=by
 have hM:bI ⟨1,[],[1]⟩=true:=xx ⟨by decide,fun i x h=>by simp at h,fun i k x o h=>by simp at h,fun i x h=>by
  cases i with
  | zero=>simp at h;subst h;exact ⟨by decide,by decide⟩
  | succ i=>simp at h⟩
 have h:=Ec [119,111,114,108,100,32,49,32,58,32,49] (by decide)
 have e:ni [119,111,114,108,100,32,49,32,58,32,49]=([],[1],true,true):=by kernel_rfl
 rw [vN (wI e (by decide) (by decide) (by rw [show ka (cT [119,111,114,108,100,32,49,32,58,32,49])=1 by kernel_rfl];exact hM))] at h
 unfold mR at h
 rw [e,show ka (cT [119,111,114,108,100,32,49,32,58,32,49])=1 by kernel_rfl] at h;exact h
theorem Oz:aq Tryz.prog 48 [.d (.v (.string ⟨([116,105,99,107,32,48]:List UInt8).toArray⟩))] [.gw 0 aj] (.tu [.ag [.z 1,.z 0,.z 0,.z 0,.z 0,.u 0,.sl 1 0],.d (.v (.bool true))]) [.gw 0 aj,.rw 5 1 []]:=by
 have h:=uw [116,105,99,107,32,48] (by decide)
 rw [show kj [116,105,99,107,32,48]=(⟨1,0,0,0,0,0,[]⟩,true) by kernel_rfl] at h;exact h
theorem OA:aq Tryz.prog 48 [.d (.v (.string ⟨([106,111,105,110,32,50]:List UInt8).toArray⟩))] [.gw 0 aj] (.tu [.ag [.z 12,.z 2,.z 0,.z 0,.z 0,.u 0,.sl 1 0],.d (.v (.bool true))]) [.gw 0 aj,.rw 5 1 []]:=by
 have h:=uw [106,111,105,110,32,50] (by decide)
 rw [show kj [106,111,105,110,32,50]=(⟨12,2,0,0,0,0,[]⟩,true) by kernel_rfl] at h;exact h
theorem OB:aq Tryz.prog 48 [.d (.v (.string ⟨([115,101,110,100,32,50,32,54,56,54,57]:List UInt8).toArray⟩))] [.gw 0 aj] (.tu [.ag [.z 10,.z 2,.z 0,.z 0,.z 0,.u 0,.sl 1 2],.d (.v (.bool true))]) [.gw 0 aj,.rw 5 1 (ae [104,105])]:=by
 have h:=uw [115,101,110,100,32,50,32,54,56,54,57] (by decide)
 rw [show kj [115,101,110,100,32,50,32,54,56,54,57]=(⟨10,2,0,0,0,0,[104,105]⟩,true) by kernel_rfl] at h;exact h
theorem Kt:aB Tryz.prog 79 [.d (.v (.string ⟨([119,111,114,108,100,32,49,32,58,32,49,10,116,105,99,107,32,48,10,106,111,105,110,32,50,10,115,101,110,100,32,50,32,54,56,54,57,10]:List UInt8).toArray⟩)),.d (.v (.string ⟨[10].toArray⟩))] (.tu [.v (.string ⟨([119,111,114,108,100,32,49,32,58,32,49]:List UInt8).toArray⟩),.v (.string ⟨([116,105,99,107,32,48,10,106,111,105,110,32,50,10,115,101,110,100,32,50,32,54,56,54,57,10]:List UInt8).toArray⟩),.v (.bool true)]):=by
 have h:=qt 10 [119,111,114,108,100,32,49,32,58,32,49,10,116,105,99,107,32,48,10,106,111,105,110,32,50,10,115,101,110,100,32,50,32,54,56,54,57,10] (by decide) (by decide)
 rw [show bU 10 [119,111,114,108,100,32,49,32,58,32,49,10,116,105,99,107,32,48,10,106,111,105,110,32,50,10,115,101,110,100,32,50,32,54,56,54,57,10]=[119,111,114,108,100,32,49,32,58,32,49] from by decide,show fL 10 [119,111,114,108,100,32,49,32,58,32,49,10,116,105,99,107,32,48,10,106,111,105,110,32,50,10,115,101,110,100,32,50,32,54,56,54,57,10]=[116,105,99,107,32,48,10,106,111,105,110,32,50,10,115,101,110,100,32,50,32,54,56,54,57,10] from by decide] at h;exact h
theorem Ku:aB Tryz.prog 79 [.d (.v (.string ⟨([116,105,99,107,32,48,10,106,111,105,110,32,50,10,115,101,110,100,32,50,32,54,56,54,57,10]:List UInt8).toArray⟩)),.d (.v (.string ⟨[10].toArray⟩))] (.tu [.v (.string ⟨([116,105,99,107,32,48]:List UInt8).toArray⟩),.v (.string ⟨([106,111,105,110,32,50,10,115,101,110,100,32,50,32,54,56,54,57,10]:List UInt8).toArray⟩),.v (.bool true)]):=by
 have h:=qt 10 [116,105,99,107,32,48,10,106,111,105,110,32,50,10,115,101,110,100,32,50,32,54,56,54,57,10] (by decide) (by decide)
 rw [show bU 10 [116,105,99,107,32,48,10,106,111,105,110,32,50,10,115,101,110,100,32,50,32,54,56,54,57,10]=[116,105,99,107,32,48] from by decide,show fL 10 [116,105,99,107,32,48,10,106,111,105,110,32,50,10,115,101,110,100,32,50,32,54,56,54,57,10]=[106,111,105,110,32,50,10,115,101,110,100,32,50,32,54,56,54,57,10] from by decide] at h;exact h
theorem Kv:aB Tryz.prog 79 [.d (.v (.string ⟨([106,111,105,110,32,50,10,115,101,110,100,32,50,32,54,56,54,57,10]:List UInt8).toArray⟩)),.d (.v (.string ⟨[10].toArray⟩))] (.tu [.v (.string ⟨([106,111,105,110,32,50]:List UInt8).toArray⟩),.v (.string ⟨([115,101,110,100,32,50,32,54,56,54,57,10]:List UInt8).toArray⟩),.v (.bool true)]):=by
 have h:=qt 10 [106,111,105,110,32,50,10,115,101,110,100,32,50,32,54,56,54,57,10] (by decide) (by decide)
 rw [show bU 10 [106,111,105,110,32,50,10,115,101,110,100,32,50,32,54,56,54,57,10]=[106,111,105,110,32,50] from by decide,show fL 10 [106,111,105,110,32,50,10,115,101,110,100,32,50,32,54,56,54,57,10]=[115,101,110,100,32,50,32,54,56,54,57,10] from by decide] at h;exact h
theorem Kw:aB Tryz.prog 79 [.d (.v (.string ⟨([115,101,110,100,32,50,32,54,56,54,57,10]:List UInt8).toArray⟩)),.d (.v (.string ⟨[10].toArray⟩))] (.tu [.v (.string ⟨([115,101,110,100,32,50,32,54,56,54,57]:List UInt8).toArray⟩),.v (.string ⟨([]:List UInt8).toArray⟩),.v (.bool true)]):=by
 have h:=qt 10 [115,101,110,100,32,50,32,54,56,54,57,10] (by decide) (by decide)
 rw [show bU 10 [115,101,110,100,32,50,32,54,56,54,57,10]=[115,101,110,100,32,50,32,54,56,54,57] from by decide,show fL 10 [115,101,110,100,32,50,32,54,56,54,57,10]=[] from by decide] at h;exact h
end Go.Proofs.YtcnpikbbmbombaaGreatDoor
namespace Go.Proofs.YtcnpikbbmbombaaGreatDoor
open Go.RowKit
set_option maxRecDepth 100000 in
theorem Jk :aq Tryz.prog 78 [.yl 7,.pt 0 0] [.bx 9 [.d (.v (.string ⟨([119,111,114,108,100,32,49,32,58,32,49,10,116,105,99,107,32,48,10,106,111,105,110,32,50,10,115,101,110,100,32,50,32,54,56,54,57,10]).toArray⟩))],.gw 0 aj,.bx 25 [.z 0,.d (.v (.slice none 0 0)),.d (.v (.slice none 0 0))],.bx 26 [.d (.v (.slice none 0 0))],.bx 23 [.d (.v (.slice none 0 0))],.bx 32 [.z 0],.bx 4 [.d (.v (.bool false))],.lp .ready 19 61 [(2,.pt 2 0),(3,.pt 3 0),(4,.pt 4 0),(5,.pt 5 0),(6,.pt 6 0)] (lU Tryz.f19 0)] (.tu []) ([.bx 9 [.d (.v (.string ⟨([]).toArray⟩))],.gw 0 aj,.bx 25 [.z 1,.sl 8 (0),.sl 9 (1)],.bx 26 [.sl 10 (3)],.bx 23 [.d (.v (.slice none 0 0))],.bx 32 [.z 0],.bx 4 [.d (.v (.bool true))],.lp .ready 19 61 [(2,.pt 2 0),(3,.pt 3 0),(4,.pt 4 0),(5,.pt 5 0),(6,.pt 6 0)] (lU Tryz.f19 0),.rw 60 2 (ah []),.rw 3 1 (ints [1]),.rw 42 7 (aW [⟨1,0,0,0,0,0,[]⟩,⟨12,2,0,0,0,0,[]⟩,⟨10,2,0,0,0,0,[104,105]⟩])]):=by
 refine aq.intro (by kernel_rfl) rfl rfl 23 rfl rfl fun D w0 K bs ac wd hK (ak:bs.m=8) r=>?_
 refine bT (todo':=hd Tryz.f78 0) (E':=[(0,.yl 7),(1,.pt 0 0),(3,.z 1)]) (M':=[.bx 9 [.d (.v (.string ⟨([119,111,114,108,100,32,49,32,58,32,49,10,116,105,99,107,32,48,10,106,111,105,110,32,50,10,115,101,110,100,32,50,32,54,56,54,57,10]).toArray⟩))],.gw 0 aj,.bx 25 [.z 0,.d (.v (.slice none 0 0)),.d (.v (.slice none 0 0))],.bx 26 [.d (.v (.slice none 0 0))],.bx 23 [.d (.v (.slice none 0 0))],.bx 32 [.z 0],.bx 4 [.d (.v (.bool false))],.lp .ready 19 61 [(2,.pt 2 0),(3,.pt 3 0),(4,.pt 4 0),(5,.pt 5 0),(6,.pt 6 0)] (lU Tryz.f19 0)]) mo tq hK ak [] 2000 [0,1,2,3,4,5,6,7] [0,1,3] r (by kernel_rfl) trivial fun ac wd r=>?_
 refine bT (todo':=hd Tryz.f78 0) (E':=[(0,.yl 7),(1,.pt 0 0),(3,.z 2),(7,.d (.v (.string ⟨([119,111,114,108,100,32,49,32,58,32,49,10,116,105,99,107,32,48,10,106,111,105,110,32,50,10,115,101,110,100,32,50,32,54,56,54,57,10]).toArray⟩))),(8,.d (.v (.bool true))),(12,.d (.v (.string ⟨([119,111,114,108,100,32,49,32,58,32,49,10,116,105,99,107,32,48,10,106,111,105,110,32,50,10,115,101,110,100,32,50,32,54,56,54,57,10]).toArray⟩))),(13,.tu [.d (.v (.string ⟨([119,111,114,108,100,32,49,32,58,32,49]).toArray⟩)),.d (.v (.string ⟨([116,105,99,107,32,48,10,106,111,105,110,32,50,10,115,101,110,100,32,50,32,54,56,54,57,10]).toArray⟩)),.d (.v (.bool true))]),(11,.tu [.d (.v (.string ⟨([119,111,114,108,100,32,49,32,58,32,49]).toArray⟩)),.d (.v (.string ⟨([116,105,99,107,32,48,10,106,111,105,110,32,50,10,115,101,110,100,32,50,32,54,56,54,57,10]).toArray⟩)),.d (.v (.bool true))]),(14,.d (.v (.string ⟨([119,111,114,108,100,32,49,32,58,32,49]).toArray⟩))),(15,.d (.v (.string ⟨([116,105,99,107,32,48,10,106,111,105,110,32,50,10,115,101,110,100,32,50,32,54,56,54,57,10]).toArray⟩))),(16,.d (.v (.bool true))),(4,.d (.v (.string ⟨([119,111,114,108,100,32,49,32,58,32,49]).toArray⟩))),(5,.d (.v (.string ⟨([116,105,99,107,32,48,10,106,111,105,110,32,50,10,115,101,110,100,32,50,32,54,56,54,57,10]).toArray⟩))),(6,.d (.v (.bool true))),(17,.yl 7),(18,.z 1),(19,.d (.v (.string ⟨([119,111,114,108,100,32,49,32,58,32,49]).toArray⟩))),(20,.d (.v (.bool true))),(21,.d (.v (.bool false))),(22,.d (.v (.string ⟨([116,105,99,107,32,48,10,106,111,105,110,32,50,10,115,101,110,100,32,50,32,54,56,54,57,10]).toArray⟩))),(9,.z 1),(10,.z 2)]) (M':=[.bx 9 [.d (.v (.string ⟨([116,105,99,107,32,48,10,106,111,105,110,32,50,10,115,101,110,100,32,50,32,54,56,54,57,10]).toArray⟩))],.gw 0 aj,.bx 25 [.z 1,.sl 8 (0),.sl 9 (1)],.bx 26 [.d (.v (.slice none 0 0))],.bx 23 [.d (.v (.slice none 0 0))],.bx 32 [.z 0],.bx 4 [.d (.v (.bool true))],.lp .ready 19 61 [(2,.pt 2 0),(3,.pt 3 0),(4,.pt 4 0),(5,.pt 5 0),(6,.pt 6 0)] (lU Tryz.f19 0),.rw 60 2 (ah []),.rw 3 1 (ints [1]),.bx 25 [.z 1,.sl 8 (0),.sl 9 (1)]]) mo tq hK ak [(1,[(1,.b true)]),(2,[(1,.z (2))]),(3,[(1,.aV (.tu [.v (.string ⟨([119,111,114,108,100,32,49,32,58,32,49]).toArray⟩),.v (.string ⟨([116,105,99,107,32,48,10,106,111,105,110,32,50,10,115,101,110,100,32,50,32,54,56,54,57,10]).toArray⟩),.v (.bool true)]))]),(4,[(3,.bV 200 [(7,[(1,.b false),(4,.n 0)]),(9,[(1,.mem [] (.tu [.ag [.z 1,.sl 0 (0),.sl 1 (1)],.d (.v (.bool true))]) [.rw 60 2 (ah []),.rw 3 1 (ints [1])])])])])] 2000 [0,1,2,3,4,5,6,7,8,9,10] [0,1,3,7,8,12,13,11,14,15,16,4,5,6,17,18,19,20,21,22,9,10] r (by kernel_rfl) (U ((by first | decide | simp):(([119,111,114,108,100,32,49,32,58,32,49,10,116,105,99,107,32,48,10,106,111,105,110,32,50,10,115,101,110,100,32,50,32,54,56,54,57,10]:List UInt8) != [])=true) (U (Kt) (U ((by first | decide | simp):(([119,111,114,108,100,32,49,32,58,32,49]:List UInt8)==[])=false) (U (rfl:(0:Int)=((0:Nat):Int)) (U (Oy) (U ((wi (by omega)):IntKind.i64.wrap ((1:Int)+1)=2) trivial)))))) fun ac wd r=>?_
 refine bT (todo':=hd Tryz.f78 0) (E':=[(0,.yl 7),(1,.pt 0 0),(3,.z 3),(7,.d (.v (.string ⟨([116,105,99,107,32,48,10,106,111,105,110,32,50,10,115,101,110,100,32,50,32,54,56,54,57,10]).toArray⟩))),(8,.d (.v (.bool true))),(12,.d (.v (.string ⟨([116,105,99,107,32,48,10,106,111,105,110,32,50,10,115,101,110,100,32,50,32,54,56,54,57,10]).toArray⟩))),(13,.tu [.d (.v (.string ⟨([116,105,99,107,32,48]).toArray⟩)),.d (.v (.string ⟨([106,111,105,110,32,50,10,115,101,110,100,32,50,32,54,56,54,57,10]).toArray⟩)),.d (.v (.bool true))]),(11,.tu [.d (.v (.string ⟨([116,105,99,107,32,48]).toArray⟩)),.d (.v (.string ⟨([106,111,105,110,32,50,10,115,101,110,100,32,50,32,54,56,54,57,10]).toArray⟩)),.d (.v (.bool true))]),(14,.d (.v (.string ⟨([116,105,99,107,32,48]).toArray⟩))),(15,.d (.v (.string ⟨([106,111,105,110,32,50,10,115,101,110,100,32,50,32,54,56,54,57,10]).toArray⟩))),(16,.d (.v (.bool true))),(4,.d (.v (.string ⟨([116,105,99,107,32,48]).toArray⟩))),(5,.d (.v (.string ⟨([106,111,105,110,32,50,10,115,101,110,100,32,50,32,54,56,54,57,10]).toArray⟩))),(6,.d (.v (.bool true))),(17,.yl 7),(18,.z 2),(19,.d (.v (.string ⟨([116,105,99,107,32,48]).toArray⟩))),(20,.d (.v (.bool true))),(21,.d (.v (.bool false))),(22,.d (.v (.string ⟨([106,111,105,110,32,50,10,115,101,110,100,32,50,32,54,56,54,57,10]).toArray⟩))),(9,.z 2),(10,.z 3)]) (M':=[.bx 9 [.d (.v (.string ⟨([106,111,105,110,32,50,10,115,101,110,100,32,50,32,54,56,54,57,10]).toArray⟩))],.gw 0 aj,.bx 25 [.z 1,.sl 8 (0),.sl 9 (1)],.bx 26 [.sl 14 ((1))],.bx 23 [.d (.v (.slice none 0 0))],.bx 32 [.z 0],.bx 4 [.d (.v (.bool true))],.lp .ready 19 61 [(2,.pt 2 0),(3,.pt 3 0),(4,.pt 4 0),(5,.pt 5 0),(6,.pt 6 0)] (lU Tryz.f19 0),.rw 60 2 (ah []),.rw 3 1 (ints [1]),.bx 25 [.z 1,.sl 8 (0),.sl 9 (1)],.dead,.bx 42 [.z 1,.z 0,.z 0,.z 0,.z 0,.d (.v (.int .u64 0)),.sl 11 (0)],.dead,.rw 42 7 ([[.z 1,.z 0,.z 0,.z 0,.z 0,.v (.int .u64 0),.em 5 1 ([])]])]) mo tq hK ak [(1,[(1,.b true)]),(2,[(1,.z (3))]),(3,[(1,.aV (.tu [.v (.string ⟨([116,105,99,107,32,48]).toArray⟩),.v (.string ⟨([106,111,105,110,32,50,10,115,101,110,100,32,50,32,54,56,54,57,10]).toArray⟩),.v (.bool true)]))]),(4,[(3,.bV 200 [(7,[(1,.b false),(4,.n 0)]),(13,[(1,.mem [1] (.tu [.ag [.z 1,.z 0,.z 0,.z 0,.z 0,.d (.v (.int .u64 0)),.sl 1 (0)],.d (.v (.bool true))]) [.gw 0 aj,.rw 5 1 ([])])])])])] 2000 [0,1,2,3,4,5,6,7,8,9,10,11,12,13,14] [0,1,3,7,8,12,13,11,14,15,16,4,5,6,17,18,19,20,21,22,9,10] r (by kernel_rfl) (U ((by first | decide | simp):(([116,105,99,107,32,48,10,106,111,105,110,32,50,10,115,101,110,100,32,50,32,54,56,54,57,10]:List UInt8) != [])=true) (U (Ku) (U ((by first | decide | simp):(([116,105,99,107,32,48]:List UInt8)==[])=false) (U (rfl:(0:Int)=((0:Nat):Int)) (U (Oz) (U ((by first | rfl | decide):(0)=([]:List (List DV)).length) (U ((by first | rfl | decide):(1)=([[.z 1,.z 0,.z 0,.z 0,.z 0,.v (.int .u64 0),.em 5 1 ([])]]:List (List DV)).length) (U ((by decide):(2*(0+(1))+192)*72≤281474976710656) (U ((by decide):0+(1)<4611686018427387904) (U ((by simp [bd,AV.one,bW,ae]):bd ([[.z 1,.z 0,.z 0,.z 0,.z 0,.v (.int .u64 0),.em 5 1 ([])]])) (U ((wi (by omega)):IntKind.i64.wrap ((2:Int)+1)=3) trivial))))))))))) fun ac wd r=>?_
 refine bT (todo':=hd Tryz.f78 0) (E':=[(0,.yl 7),(1,.pt 0 0),(3,.z 4),(7,.d (.v (.string ⟨([106,111,105,110,32,50,10,115,101,110,100,32,50,32,54,56,54,57,10]).toArray⟩))),(8,.d (.v (.bool true))),(12,.d (.v (.string ⟨([106,111,105,110,32,50,10,115,101,110,100,32,50,32,54,56,54,57,10]).toArray⟩))),(13,.tu [.d (.v (.string ⟨([106,111,105,110,32,50]).toArray⟩)),.d (.v (.string ⟨([115,101,110,100,32,50,32,54,56,54,57,10]).toArray⟩)),.d (.v (.bool true))]),(11,.tu [.d (.v (.string ⟨([106,111,105,110,32,50]).toArray⟩)),.d (.v (.string ⟨([115,101,110,100,32,50,32,54,56,54,57,10]).toArray⟩)),.d (.v (.bool true))]),(14,.d (.v (.string ⟨([106,111,105,110,32,50]).toArray⟩))),(15,.d (.v (.string ⟨([115,101,110,100,32,50,32,54,56,54,57,10]).toArray⟩))),(16,.d (.v (.bool true))),(4,.d (.v (.string ⟨([106,111,105,110,32,50]).toArray⟩))),(5,.d (.v (.string ⟨([115,101,110,100,32,50,32,54,56,54,57,10]).toArray⟩))),(6,.d (.v (.bool true))),(17,.yl 7),(18,.z 3),(19,.d (.v (.string ⟨([106,111,105,110,32,50]).toArray⟩))),(20,.d (.v (.bool true))),(21,.d (.v (.bool false))),(22,.d (.v (.string ⟨([115,101,110,100,32,50,32,54,56,54,57,10]).toArray⟩))),(9,.z 3),(10,.z 4)]) (M':=[.bx 9 [.d (.v (.string ⟨([115,101,110,100,32,50,32,54,56,54,57,10]).toArray⟩))],.gw 0 aj,.bx 25 [.z 1,.sl 8 (0),.sl 9 (1)],.bx 26 [.sl 14 ((1)+(1))],.bx 23 [.d (.v (.slice none 0 0))],.bx 32 [.z 0],.bx 4 [.d (.v (.bool true))],.lp .ready 19 61 [(2,.pt 2 0),(3,.pt 3 0),(4,.pt 4 0),(5,.pt 5 0),(6,.pt 6 0)] (lU Tryz.f19 0),.rw 60 2 (ah []),.rw 3 1 (ints [1]),.bx 25 [.z 1,.sl 8 (0),.sl 9 (1)],.dead,.bx 42 [.z 1,.z 0,.z 0,.z 0,.z 0,.d (.v (.int .u64 0)),.sl 11 (0)],.dead,.rw 42 7 ([[.z 1,.z 0,.z 0,.z 0,.z 0,.v (.int .u64 0),.em 5 1 ([])]]++[[.z 12,.z 2,.z 0,.z 0,.z 0,.v (.int .u64 0),.em 5 1 ([])]]),.dead,.bx 42 [.z 12,.z 2,.z 0,.z 0,.z 0,.d (.v (.int .u64 0)),.sl 15 (0)],.dead]) mo tq hK ak [(1,[(1,.b true)]),(2,[(1,.z (4))]),(3,[(1,.aV (.tu [.v (.string ⟨([106,111,105,110,32,50]).toArray⟩),.v (.string ⟨([115,101,110,100,32,50,32,54,56,54,57,10]).toArray⟩),.v (.bool true)]))]),(4,[(3,.bV 200 [(7,[(1,.b false),(4,.n 0)]),(13,[(1,.mem [1] (.tu [.ag [.z 12,.z 2,.z 0,.z 0,.z 0,.d (.v (.int .u64 0)),.sl 1 (0)],.d (.v (.bool true))]) [.gw 0 aj,.rw 5 1 ([])])])])])] 2000 [0,1,2,3,4,5,6,7,8,9,10,11,12,13,14,15,16,17] [0,1,3,7,8,12,13,11,14,15,16,4,5,6,17,18,19,20,21,22,9,10] r (by kernel_rfl) (U ((by first | decide | simp):(([106,111,105,110,32,50,10,115,101,110,100,32,50,32,54,56,54,57,10]:List UInt8) != [])=true) (U (Kv) (U ((by first | decide | simp):(([106,111,105,110,32,50]:List UInt8)==[])=false) (U (rfl:(0:Int)=((0:Nat):Int)) (U (OA) (U ((by first | rfl | decide):(0)=([]:List (List DV)).length) (U ((by first | rfl | decide):((1))=([[.z 1,.z 0,.z 0,.z 0,.z 0,.v (.int .u64 0),.em 5 1 ([])]]:List (List DV)).length) (U ((by first | rfl | decide):(1)=([[.z 12,.z 2,.z 0,.z 0,.z 0,.v (.int .u64 0),.em 5 1 ([])]]:List (List DV)).length) (U ((by decide):(2*(((1))+(1))+192)*72≤281474976710656) (U ((by decide):((1))+(1)<4611686018427387904) (U ((by simp [bd,AV.one,bW,ae]):bd ([[.z 12,.z 2,.z 0,.z 0,.z 0,.v (.int .u64 0),.em 5 1 ([])]])) (U ((wi (by omega)):IntKind.i64.wrap ((3:Int)+1)=4) trivial)))))))))))) fun ac wd r=>?_
 refine bT (todo':=hd Tryz.f78 0) (E':=[(0,.yl 7),(1,.pt 0 0),(3,.z 5),(7,.d (.v (.string ⟨([115,101,110,100,32,50,32,54,56,54,57,10]).toArray⟩))),(8,.d (.v (.bool true))),(12,.d (.v (.string ⟨([115,101,110,100,32,50,32,54,56,54,57,10]).toArray⟩))),(13,.tu [.d (.v (.string ⟨([115,101,110,100,32,50,32,54,56,54,57]).toArray⟩)),.d (.v (.string ⟨([]).toArray⟩)),.d (.v (.bool true))]),(11,.tu [.d (.v (.string ⟨([115,101,110,100,32,50,32,54,56,54,57]).toArray⟩)),.d (.v (.string ⟨([]).toArray⟩)),.d (.v (.bool true))]),(14,.d (.v (.string ⟨([115,101,110,100,32,50,32,54,56,54,57]).toArray⟩))),(15,.d (.v (.string ⟨([]).toArray⟩))),(16,.d (.v (.bool true))),(4,.d (.v (.string ⟨([115,101,110,100,32,50,32,54,56,54,57]).toArray⟩))),(5,.d (.v (.string ⟨([]).toArray⟩))),(6,.d (.v (.bool true))),(17,.yl 7),(18,.z 4),(19,.d (.v (.string ⟨([115,101,110,100,32,50,32,54,56,54,57]).toArray⟩))),(20,.d (.v (.bool true))),(21,.d (.v (.bool false))),(22,.d (.v (.string ⟨([]).toArray⟩))),(9,.z 4),(10,.z 5)]) (M':=[.bx 9 [.d (.v (.string ⟨([]).toArray⟩))],.gw 0 aj,.bx 25 [.z 1,.sl 8 (0),.sl 9 (1)],.bx 26 [.sl 14 ((1)+(1)+(1))],.bx 23 [.d (.v (.slice none 0 0))],.bx 32 [.z 0],.bx 4 [.d (.v (.bool true))],.lp .ready 19 61 [(2,.pt 2 0),(3,.pt 3 0),(4,.pt 4 0),(5,.pt 5 0),(6,.pt 6 0)] (lU Tryz.f19 0),.rw 60 2 (ah []),.rw 3 1 (ints [1]),.bx 25 [.z 1,.sl 8 (0),.sl 9 (1)],.dead,.bx 42 [.z 1,.z 0,.z 0,.z 0,.z 0,.d (.v (.int .u64 0)),.sl 11 (0)],.dead,.rw 42 7 ([[.z 1,.z 0,.z 0,.z 0,.z 0,.v (.int .u64 0),.em 5 1 ([])]]++[[.z 12,.z 2,.z 0,.z 0,.z 0,.v (.int .u64 0),.em 5 1 ([])]]++[[.z 10,.z 2,.z 0,.z 0,.z 0,.v (.int .u64 0),.em 5 1 (ae [104,105])]]),.dead,.bx 42 [.z 12,.z 2,.z 0,.z 0,.z 0,.d (.v (.int .u64 0)),.sl 15 (0)],.dead,.dead,.bx 42 [.z 10,.z 2,.z 0,.z 0,.z 0,.d (.v (.int .u64 0)),.sl 18 (2)],.dead]) mo tq hK ak [(1,[(1,.b true)]),(2,[(1,.z (5))]),(3,[(1,.aV (.tu [.v (.string ⟨([115,101,110,100,32,50,32,54,56,54,57]).toArray⟩),.v (.string ⟨([]).toArray⟩),.v (.bool true)]))]),(4,[(3,.bV 200 [(7,[(1,.b false),(4,.n 0)]),(13,[(1,.mem [1] (.tu [.ag [.z 10,.z 2,.z 0,.z 0,.z 0,.d (.v (.int .u64 0)),.sl 1 (2)],.d (.v (.bool true))]) [.gw 0 aj,.rw 5 1 (ae [104,105])])])])])] 2000 [0,1,2,3,4,5,6,7,8,9,10,11,12,13,14,15,16,17,18,19,20] [0,1,3,7,8,12,13,11,14,15,16,4,5,6,17,18,19,20,21,22,9,10] r (by kernel_rfl) (U ((by first | decide | simp):(([115,101,110,100,32,50,32,54,56,54,57,10]:List UInt8) != [])=true) (U (Kw) (U ((by first | decide | simp):(([115,101,110,100,32,50,32,54,56,54,57]:List UInt8)==[])=false) (U (rfl:(0:Int)=((0:Nat):Int)) (U (OB) (U ((by first | rfl | decide):(2)=(ae [104,105]).length) (U ((by first | rfl | decide):((1)+(1))=([[.z 1,.z 0,.z 0,.z 0,.z 0,.v (.int .u64 0),.em 5 1 ([])]]++[[.z 12,.z 2,.z 0,.z 0,.z 0,.v (.int .u64 0),.em 5 1 ([])]]:List (List DV)).length) (U ((by first | rfl | decide):(1)=([[.z 10,.z 2,.z 0,.z 0,.z 0,.v (.int .u64 0),.em 5 1 (ae [104,105])]]:List (List DV)).length) (U ((by decide):(2*(((1)+(1))+(1))+192)*72≤281474976710656) (U ((by decide):((1)+(1))+(1)<4611686018427387904) (U ((by simp [bd,AV.one,bW,ae]):bd ([[.z 10,.z 2,.z 0,.z 0,.z 0,.v (.int .u64 0),.em 5 1 (ae [104,105])]])) (U ((wi (by omega)):IntKind.i64.wrap ((4:Int)+1)=5) trivial)))))))))))) fun ac wd r=>?_
 refine aQ (y:=.tu []) (N':=[.bx 9 [.d (.v (.string ⟨([]).toArray⟩))],.gw 0 aj,.bx 25 [.z 1,.sl 8 (0),.sl 9 (1)],.bx 26 [.sl 10 ((1)+(1)+(1))],.bx 23 [.d (.v (.slice none 0 0))],.bx 32 [.z 0],.bx 4 [.d (.v (.bool true))],.lp .ready 19 61 [(2,.pt 2 0),(3,.pt 3 0),(4,.pt 4 0),(5,.pt 5 0),(6,.pt 6 0)] (lU Tryz.f19 0),.rw 60 2 (ah []),.rw 3 1 (ints [1]),.rw 42 7 ([[.z 1,.z 0,.z 0,.z 0,.z 0,.v (.int .u64 0),.em 5 1 ([])]]++[[.z 12,.z 2,.z 0,.z 0,.z 0,.v (.int .u64 0),.em 5 1 ([])]]++[[.z 10,.z 2,.z 0,.z 0,.z 0,.v (.int .u64 0),.em 5 1 (ae [104,105])]])]) (rfl) (rfl) ?_
 exact aP mo tq hK rfl ak [(1,[(1,.b false)])] 2000 [0,1,2,3,4,5,6,7,8,9,14] r (by kernel_rfl) (U ((by first | decide | simp):(([]:List UInt8) != [])=false) trivial)
end Go.Proofs.YtcnpikbbmbombaaGreatDoor
namespace Go.Proofs.YtcnpikbbmbombaaGreatDoor
open Go.RowKit
theorem jt.zd {T k:Nat} {rows:List (List DV)} (h:∀ r ∈ rows,∀ c ∈ r,eH c):jt (.rw T k rows):=fun K K' β u H r=>by
 cases r with | rw hb X F hl hs hr=>exact .rw hb X F hl hs fun i r j c x h1 h2 h3=>h r (List.mem_of_getElem? h1) c (List.mem_of_getElem? h2) _ _ _ _ (hr i r j c x h1 h2 h3)
theorem HI (T k:Nat) (l:List (Int×Int)):jt (.rw T k (ah l)):=jt.zd fun r hr c hc=>by
 obtain ⟨x,-,rfl⟩:=List.mem_map.1 hr
 simp only [List.mem_cons,List.not_mem_nil,or_false] at hc
 rcases hc with rfl | rfl<;>exact fx _
theorem Jl (T k:Nat) (l:List Int):jt (.rw T k (ints l)):=jt.zd fun r hr c hc=>by
 obtain ⟨x,-,rfl⟩:=List.mem_map.1 hr
 simp only [List.mem_cons,List.not_mem_nil,or_false] at hc
 subst hc;exact fx _
theorem HJ (T k:Nat) (l:List aM):jt (.rw T k (aW l)):=jt.zd fun r hr c hc=>by
 obtain ⟨x,-,rfl⟩:=List.mem_map.1 hr
 simp only [aM.po,List.mem_cons,List.not_mem_nil,or_false] at hc
 rcases hc with rfl | rfl | rfl | rfl | rfl | rfl | rfl<;>first | exact fx _ | exact Aa _ _
set_option maxRecDepth 100000 in
theorem HK :aq Tryz.prog 19 [.d (.v (.string ⟨([119,111,114,108,100,32,49,32,58,32,49,10,116,105,99,107,32,48,10,106,111,105,110,32,50,10,115,101,110,100,32,50,32,54,56,54,57,10]).toArray⟩))] [.gw 0 aj] (mapA (·+1) (.tu [.ag [.z 1,.sl 4 0,.sl 5 1],.sl 6 3,.d (.v (.slice none 0 0)),.z 0])) (.gw 0 aj::List.map (fy (·+1)) ([.bx 25 [.z 1,.sl 4 0,.sl 5 1],.bx 26 [.sl 6 3],.bx 23 [.d (.v (.slice none 0 0))],.bx 32 [.z 0],.rw 60 2 (ah []),.rw 3 1 (ints [1]),.rw 42 7 (aW [⟨1,0,0,0,0,0,[]⟩,⟨12,2,0,0,0,0,[]⟩,⟨10,2,0,0,0,0,[104,105]⟩])])):=by
 refine aq.JP (by kernel_rfl) rfl rfl 61 rfl rfl fun w0 K ac hK r=>?_
 have r:=r.mark
 refine ID (todo':=MI Tryz.f19 0) (E2:=[(2,.pt 1 0),(3,.pt 2 0),(4,.pt 3 0),(5,.pt 4 0),(6,.pt 5 0)]) (M2:=[.gw 0 aj,.bx 25 [.z 1,.sl 6 (0),.sl 7 (1)],.bx 26 [.sl 8 (3)],.bx 23 [.d (.v (.slice none 0 0))],.bx 32 [.z 0],.bx 4 [.d (.v (.bool true))],.rw 60 2 (ah []),.rw 3 1 (ints [1]),.rw 42 7 (aW [⟨1,0,0,0,0,0,[]⟩,⟨12,2,0,0,0,0,[]⟩,⟨10,2,0,0,0,0,[104,105]⟩])]) mo tq hK rfl [(1,[(1,.z (38))]),(4,[(1,.bV 200 [])])] 15 [6,0,1,2,3,4,5] [2,3,4,5,6] (.tu []) [.bx 9 [.d (.v (.string ⟨([]).toArray⟩))],.gw 0 aj,.bx 25 [.z 1,.sl 8 (0),.sl 9 (1)],.bx 26 [.sl 10 (3)],.bx 23 [.d (.v (.slice none 0 0))],.bx 32 [.z 0],.bx 4 [.d (.v (.bool true))],.lp .ready 19 61 [(2,.pt 2 0),(3,.pt 3 0),(4,.pt 4 0),(5,.pt 5 0),(6,.pt 6 0)] (lU Tryz.f19 0),.rw 60 2 (ah []),.rw 3 1 (ints [1]),.rw 42 7 (aW [⟨1,0,0,0,0,0,[]⟩,⟨12,2,0,0,0,0,[]⟩,⟨10,2,0,0,0,0,[104,105]⟩])] [0,1,2,3,4,5,8,9,10] [2,3,4,5,6] r (by kernel_rfl) (U Jk (U ((by decide):((([119,111,114,108,100,32,49,32,58,32,49,10,116,105,99,107,32,48,10,106,111,105,110,32,50,10,115,101,110,100,32,50,32,54,56,54,57,10]:List UInt8).length:Nat):Int)=38) trivial)) fun ac wd r=>?_
 refine BG (E':=[(2,.pt 0 0),(3,.pt 1 0),(4,.pt 2 0),(5,.pt 3 0)]) (M':=[.bx 25 [.z 1,.sl 4 (0),.sl 5 (1)],.bx 26 [.sl 6 (3)],.bx 23 [.d (.v (.slice none 0 0))],.bx 32 [.z 0],.rw 60 2 (ah []),.rw 3 1 (ints [1]),.rw 42 7 (aW [⟨1,0,0,0,0,0,[]⟩,⟨12,2,0,0,0,0,[]⟩,⟨10,2,0,0,0,0,[104,105]⟩])]) mo tq hK rfl [] 2000 [1,2,3,4,6,7,8] [2,3,4,5] r (by kernel_rfl) (by kernel_rfl) trivial ?_ ?_
 ·intro x hx;simp only [List.mem_cons,List.not_mem_nil,or_false] at hx;rcases hx with rfl | rfl | rfl | rfl<;>exact iH.pt _ _
 ·intro x hx;simp only [List.mem_cons,List.not_mem_nil,or_false] at hx;rcases hx with rfl | rfl | rfl | rfl | rfl | rfl | rfl<;>first | exact HI _ _ _ | exact Jl _ _ _ | exact HJ _ _ _ | (refine jt.bx fun c hc=>?_;simp only [List.mem_cons,List.not_mem_nil,or_false] at hc;first | (subst hc;first | exact iH.v _ | exact iH.sl _ _) | (rcases hc with rfl | rfl | rfl<;>first | exact iH.v _ | exact iH.sl _ _))
end Go.Proofs.YtcnpikbbmbombaaGreatDoor
namespace Go.Proofs.YtcnpikbbmbombaaGreatDoor
open Go.RowKit
def jK:cE:=⟨1,[],[1]⟩
def c6:List aM:=[⟨1,0,0,0,0,0,[]⟩,⟨12,2,0,0,0,0,[]⟩,⟨10,2,0,0,0,0,[104,105]⟩]
theorem CA:bI jK=true:=xx ⟨by decide,fun i x h=>by simp [jK] at h,fun i k x o h=>by simp [jK] at h,fun i x h=>by
  cases i with
  | zero=>simp [jK] at h;subst h;exact ⟨by decide,by decide⟩
  | succ i=>simp [jK] at h⟩
theorem CB:eY jK c6=[1,0,1,1,1,0,12,2,10,2,2,104,105]:=by decide
theorem DW:eZ jK c6=0:=k7 CA (by decide) (by rw [CB];decide)
theorem CY:∀ s ∈ c6,s.Rd:=by
 intro s hs
 simp only [c6,List.mem_cons,List.not_mem_nil,or_false] at hs
 rcases hs with rfl | rfl | rfl<;>exact ⟨by decide,by decide⟩
theorem L9:aq Tryz.prog 11 [.ag [.z 1,.d (.ro 2 (ah [])),.d (.ro 1 (ints [1]))],.d (.ro 7 (steps c6))] [.gw 0 aj] (.tu [.sl 1 13,.z 0]) [.gw 0 aj,.rw 5 1 (ae [1,0,1,1,1,0,12,2,10,2,2,104,105])]:=by
 have h:=BM jK c6 (by decide) (by decide) (by decide) CY (by rw [DW];rfl)
 rw [CB] at h;exact h
theorem Na:sP jK c6=[119,111,114,108,100,32,49,32,58,32,49,10,116,105,99,107,32,48,10,106,111,105,110,32,50,10,115,101,110,100,32,50,32,54,56,54,57,10]:=by
 simp [sP,bu,cM,b7,dj,cK,pq,jK,c6,af,mh,b8,Go.Lib.decDigits_one,jl,dn,dO]
theorem Jm:aq Tryz.prog 17 [.ag [.z 1,.d (.ro 2 (ah [])),.d (.ro 1 (ints [1]))],.d (.ro 7 (steps c6))] [.gw 0 aj,.gw 1 aN] (.tu [.d (.v (.string ⟨([119,111,114,108,100,32,49,32,58,32,49,10,116,105,99,107,32,48,10,106,111,105,110,32,50,10,115,101,110,100,32,50,32,54,56,54,57,10]:List UInt8).toArray⟩)),.z 0]) [.gw 0 aj,.gw 1 aN]:=by
 have h:=HB jK c6 (by decide) (by decide) (by decide) CY (by rw [DW];rfl)
 rw [Na] at h;exact h
theorem Nb:cZ (List.drop 4 [1,0,1,1,1,0,12,2,10,2,2,104,105])=c6:=by
 rw [np (by decide),show bo ((List.drop 4 ([1,0,1,1,1,0,12,2,10,2,2,104,105]:List UInt8)).take 258)=(⟨1,0,0,0,0,0,[]⟩,2) from by kernel_rfl]
 rw [np (by decide),show bo (((List.drop 4 ([1,0,1,1,1,0,12,2,10,2,2,104,105]:List UInt8)).drop 2).take 258)=(⟨12,2,0,0,0,0,[]⟩,2) from by kernel_rfl]
 rw [np (by decide),show bo ((((List.drop 4 ([1,0,1,1,1,0,12,2,10,2,2,104,105]:List UInt8)).drop 2).drop 2).take 258)=(⟨10,2,0,0,0,0,[104,105]⟩,5) from by kernel_rfl]
 rw [show (((List.drop 4 ([1,0,1,1,1,0,12,2,10,2,2,104,105]:List UInt8)).drop 2).drop 2).drop 5=[] from by decide,k5];rfl
theorem Ma:aq Tryz.prog 15 [.d (.ro 1 (ae [1,0,1,1,1,0,12,2,10,2,2,104,105]))] [.gw 0 aj] (.tu [.ag [.z 1,.sl 1 0,.sl 2 1],.sl 3 3,.z 0]) [.gw 0 aj,.rw 60 2 (ah []),.rw 3 1 (ints [1]),.rw 42 7 (aW c6)]:=by
 have e1:gC [1,0,1,1,1,0,12,2,10,2,2,104,105]=jK:=by decide
 have h:=wF [1,0,1,1,1,0,12,2,10,2,2,104,105] (by decide) (by decide) (by rw [e1];exact CA)
 rw [show gE [1,0,1,1,1,0,12,2,10,2,2,104,105]=4 from by decide,Nb] at h;exact h
theorem Jn:aq Tryz.prog 19 [.d (.v (.string ⟨([119,111,114,108,100,32,49,32,58,32,49,10,116,105,99,107,32,48,10,106,111,105,110,32,50,10,115,101,110,100,32,50,32,54,56,54,57,10]:List UInt8).toArray⟩))] [.gw 0 aj] (.tu [.ag [.z 1,.sl 5 0,.sl 6 1],.sl 7 3,.d (.v (.slice none 0 0)),.z 0]) [.gw 0 aj,.bx 25 [.z 1,.sl 5 0,.sl 6 1],.bx 26 [.sl 7 3],.bx 23 [.d (.v (.slice none 0 0))],.bx 32 [.z 0],.rw 60 2 (ah []),.rw 3 1 (ints [1]),.rw 42 7 (aW c6)]:=HK
end Go.Proofs.YtcnpikbbmbombaaGreatDoor
namespace Go.Proofs.YtcnpikbbmbombaaGreatDoor
open Go.RowKit
set_option maxRecDepth 100000 in
theorem Kx :aq Tryz.prog 8 [] [.gw 0 aj,.gw 1 aN] (mapA (·+([.gw 0 aj,.gw 1 aN]:List ai).length) (.d (.v (.bool true)))) ([.gw 0 aj,.gw 1 aN]++List.map (fy (·+([.gw 0 aj,.gw 1 aN]:List ai).length)) ([])):=by
 refine aq.IE (x:=.d (.v (.bool true))) (M':=[]) rfl (by kernel_rfl) rfl rfl 90 rfl rfl fun w0 K ac hK r=>?_
 have r:=r.mark
 refine CL (todo':=aft Tryz.f8 2) (E':=[(0,.d (.v (.bool false))),(1,.pt 3 0),(2,.sl 5 (3))]) (M':=[.gw 0 aj,.gw 1 aN,.rw 3 1 ([[.z 1]]),.bx 25 [.z 1,.d (.v (.slice none 0 0)),.sl 2 (1)],.dead,.rw 42 7 ([[.z 1,.z 0,.z 0,.z 0,.z 0,.v (.int .u64 0),.v (.slice none 0 0)],[.z 12,.z 2,.z 0,.z 0,.z 0,.v (.int .u64 0),.v (.slice none 0 0)],[.z 10,.z 2,.z 0,.z 0,.z 0,.v (.int .u64 0),.ro 1 ([[.v (.int .u8 104)],[.v (.int .u8 105)]])]])]) mo tq hK [] 6 [0,1,2,3,4,5] [0,1,2] r (by kernel_rfl) (U ((by simp):(2)=([[.v (.int .u8 104)],[.v (.int .u8 105)]]:List (List DV)).length) (U ((by simp):0<(2)) trivial)) fun ac wd r=>?_
 have r:=r.de (E1:=[(0,.d (.v (.bool false))),(1,.pt 3 0),(2,.sl 5 (3))]) (M1:=[.gw 0 aj,.gw 1 aN,.rw 3 1 ([[.z 1]]),.bx 25 [.z 1,.d (.v (.slice none 0 0)),.sl 2 (1)],.dead,.rw 42 7 ([[.z 1,.z 0,.z 0,.z 0,.z 0,.v (.int .u64 0),.v (.slice none 0 0)],[.z 12,.z 2,.z 0,.z 0,.z 0,.v (.int .u64 0),.v (.slice none 0 0)],[.z 10,.z 2,.z 0,.z 0,.z 0,.v (.int .u64 0),.ro 1 ([[.v (.int .u8 104)],[.v (.int .u8 105)]])]])]) (M2:=[.gw 0 aj,.gw 1 aN,.rw 3 1 ([[.z 1]]),.bx 25 [.z 1,.sl 6 (0),.sl 2 (1)],.dead,.rw 42 7 ([[.z 1,.z 0,.z 0,.z 0,.z 0,.v (.int .u64 0),.v (.slice none 0 0)],[.z 12,.z 2,.z 0,.z 0,.z 0,.v (.int .u64 0),.v (.slice none 0 0)],[.z 10,.z 2,.z 0,.z 0,.z 0,.v (.int .u64 0),.ro 1 ([[.v (.int .u8 104)],[.v (.int .u8 105)]])]]),.rw 60 2 ([])]) [] [(3,1,60,2)] (by kernel_rfl) (by kernel_rfl)
 have r:=(r.less (rows':=steps c6) 5 rfl (kQ.cons (dh.cons (Le.refl _) (dh.cons (Le.refl _) (dh.cons (Le.refl _) (dh.cons (Le.refl _) (dh.cons (Le.refl _) (dh.cons (Le.refl _) (dh.cons (Le.Cg _) dh.nil))))))) (kQ.cons (dh.cons (Le.refl _) (dh.cons (Le.refl _) (dh.cons (Le.refl _) (dh.cons (Le.refl _) (dh.cons (Le.refl _) (dh.cons (Le.refl _) (dh.cons (Le.Cg _) dh.nil))))))) (kQ.cons (dh.cons (Le.refl _) (dh.cons (Le.refl _) (dh.cons (Le.refl _) (dh.cons (Le.refl _) (dh.cons (Le.refl _) (dh.cons (Le.refl _) (dh.cons (Le.refl _) dh.nil))))))) kQ.nil)))).cast (M':=[.gw 0 aj,.gw 1 aN,.rw 3 1 ([[.z 1]]),.bx 25 [.z 1,.sl 6 (0),.sl 2 (1)],.dead,.rw 42 7 (steps c6),.rw 60 2 ([])]) rfl rfl
 have r:=r.stay (p1:=[(3)=(steps c6:List (List DV)).length]) (p2:=[(0)=([]:List (List DV)).length,(1)=([[.z 1]]:List (List DV)).length]) (E1:=[(0,.d (.v (.bool false))),(1,.pt 3 0),(2,.d (.ro 7 (cb (steps c6))))]) (M1:=[.gw 0 aj,.gw 1 aN,.rw 3 1 ([[.z 1]]),.bx 25 [.z 1,.sl 6 (0),.sl 2 (1)],.dead,.dead,.rw 60 2 ([])]) (M2:=[.gw 0 aj,.gw 1 aN,.dead,.bx 25 [.z 1,.d (.ro 2 (cb ([]))),.d (.ro 1 (cb ([[.z 1]])))],.dead,.dead,.dead]) (E2:=[(0,.d (.v (.bool false))),(1,.pt 3 0),(2,.d (.ro 7 (steps c6)))]) (M3:=[.gw 0 aj,.gw 1 aN,.dead,.bx 25 [.z 1,.d (.ro 2 (ah [])),.d (.ro 1 (ints [1]))],.dead,.dead,.dead]) [2] [(3,1),(3,2)] (by kernel_rfl) (by kernel_rfl) (U ((by first | rfl | decide):(3)=(steps c6:List (List DV)).length) trivial) (U ((by first | rfl | decide):(0)=([]:List (List DV)).length) (U ((by first | rfl | decide):(1)=([[.z 1]]:List (List DV)).length) trivial)) (by rfl) (by rfl)
 refine CL (todo':=aft Tryz.f8 3) (E':=[(0,.d (.v (.bool false))),(1,.pt 3 0),(2,.d (.ro 7 (steps c6))),(3,.sl 7 (13)),(4,.z 0)]) (M':=[.gw 0 aj,.gw 1 aN,.dead,.bx 25 [.z 1,.d (.ro 2 (ah [])),.d (.ro 1 (ints [1]))],.dead,.dead,.dead,.rw 5 1 (ae [1,0,1,1,1,0,12,2,10,2,2,104,105])]) mo tq hK [(3,[(2,.mem [0] (.tu [.sl 1 (13),.z 0]) [.gw 0 aj,.rw 5 1 (ae [1,0,1,1,1,0,12,2,10,2,2,104,105])])])] 2 [0,1,2,3,4,5,6,7] [0,1,2,3,4] r (by kernel_rfl) (U (L9) trivial) fun ac wd r=>?_
 have r:=r.stay (p1:=[(13)=(ae [1,0,1,1,1,0,12,2,10,2,2,104,105]).length]) (p2:=[]) (E1:=[(0,.d (.v (.bool false))),(1,.pt 3 0),(2,.d (.ro 7 (steps c6))),(3,.d (.ro 1 (cb (ae [1,0,1,1,1,0,12,2,10,2,2,104,105])))),(4,.z 0)]) (M1:=[.gw 0 aj,.gw 1 aN,.dead,.bx 25 [.z 1,.d (.ro 2 (ah [])),.d (.ro 1 (ints [1]))],.dead,.dead,.dead,.dead]) (M2:=[.gw 0 aj,.gw 1 aN,.dead,.bx 25 [.z 1,.d (.ro 2 (ah [])),.d (.ro 1 (ints [1]))],.dead,.dead,.dead,.dead]) (E2:=[(0,.d (.v (.bool false))),(1,.pt 3 0),(2,.d (.ro 7 (steps c6))),(3,.d (.ro 1 (ae [1,0,1,1,1,0,12,2,10,2,2,104,105]))),(4,.z 0)]) (M3:=[.gw 0 aj,.gw 1 aN,.dead,.bx 25 [.z 1,.d (.ro 2 (ah [])),.d (.ro 1 (ints [1]))],.dead,.dead,.dead,.dead]) [3] [] (by kernel_rfl) (by kernel_rfl) (U ((by first | rfl | decide):(13)=(ae [1,0,1,1,1,0,12,2,10,2,2,104,105]).length) trivial) trivial (by rfl) rfl
 refine BG (E':=[(0,.d (.v (.bool true)))]) (M':=[]) mo tq hK rfl [(4,[(2,.mem [0,1] (.tu [.d (.v (.string ⟨([119,111,114,108,100,32,49,32,58,32,49,10,116,105,99,107,32,48,10,106,111,105,110,32,50,10,115,101,110,100,32,50,32,54,56,54,57,10]).toArray⟩)),.z 0]) [.gw 0 aj,.gw 1 aN])]),(5,[(1,.mem [0] (.tu [.ag [.z 1,.sl 1 (0),.sl 2 (1)],.sl 3 (3),.z 0]) [.gw 0 aj,.rw 60 2 (ah []),.rw 3 1 (ints [1]),.rw 42 7 (aW c6)])]),(6,[(1,.mem [0] (.tu [.ag [.z 1,.sl 5 (0),.sl 6 (1)],.sl 7 (3),.d (.v (.slice none 0 0)),.z 0]) [.gw 0 aj,.bx 25 [.z 1,.sl 5 (0),.sl 6 (1)],.bx 26 [.sl 7 (3)],.bx 23 [.d (.v (.slice none 0 0))],.bx 32 [.z 0],.rw 60 2 (ah []),.rw 3 1 (ints [1]),.rw 42 7 (aW c6)])]),(7,[(4,.res (.v (.string ⟨([1,0,1,1,1,0,12,2,10,2,2,104,105]).toArray⟩))),(5,.b true),(13,.b true),(27,.call [.d (.ro 7 (steps c6)),.d (.ro 7 (steps c6))] (.v (.bool true))),(41,.call [.d (.ro 7 (steps c6)),.d (.ro 7 (steps c6))] (.v (.bool true)))])] 2000 [] [0] r (by kernel_rfl) (by kernel_rfl) (U (Jm) (U (Ma) (U (Jn) (U (rfl:ae [1,0,1,1,1,0,12,2,10,2,2,104,105]=ae ([1,0,1,1,1,0,12,2,10,2,2,104,105])) (U ((by first | decide | simp):(([1,0,1,1,1,0,12,2,10,2,2,104,105]:List UInt8)==[1,0,1,1,1,0,12,2,10,2,2,104,105])=true) (U ((by first | decide | simp):(([119,111,114,108,100,32,49,32,58,32,49,10,116,105,99,107,32,48,10,106,111,105,110,32,50,10,115,101,110,100,32,50,32,54,56,54,57,10]:List UInt8)==[119,111,114,108,100,32,49,32,58,32,49,10,116,105,99,107,32,48,10,106,111,105,110,32,50,10,115,101,110,100,32,50,32,54,56,54,57,10])=true) (U (uJ c6 (by decide)) (U ((fx _):eH (.v (.bool true))) (U (cR (7)) (U ((by first | rfl | decide):(3)=(aW c6:List (List DV)).length) (U ((by rfl):cb (aW c6)=steps c6) (U (iq (.ro 7 (steps c6))) (U (uJ c6 (by decide)) (U ((fx _):eH (.v (.bool true))) (U (cR (7)) (U ((by first | rfl | decide):(3)=(aW c6:List (List DV)).length) (U ((by rfl):cb (aW c6)=steps c6) (U (iq (.ro 7 (steps c6))) trivial)))))))))))))))))) ?_ ?_
 ·intro x hx;simp only [List.mem_cons,List.not_mem_nil,or_false] at hx;subst hx;exact iH.v _
 ·intro x hx;simp at hx
theorem Bo:aq Tryz.prog 8 [] [.gw 0 aj,.gw 1 aN] (.d (.v (.bool true))) [.gw 0 aj,.gw 1 aN]:=Kx
end Go.Proofs.YtcnpikbbmbombaaGreatDoor
namespace Go.Proofs.YtcnpikbbmbombaaGreatDoor
open Go.RowKit
noncomputable def fD (l:List UInt8):Int:=if 65536<l.length then 2 else if gE l≤l.length then cond (bI (gC l)) 0 3 else 3
noncomputable def cI (l:List UInt8):cE:=if fD l=0 then gC l else ⟨0,[],[]⟩
noncomputable def cx (l:List UInt8):List aM:=if fD l=0 then cZ (l.drop (gE l)) else []
theorem Ky {l:List UInt8} (h1:l.length≤65536) (h2:gE l≤l.length) (h3:bI (gC l)=true):fD l=0:=by unfold fD;rw [if_neg (by omega),if_pos h2,h3];rfl
theorem xG {l:List UInt8} (h:fD l≠0):cI l=⟨0,[],[]⟩∧cx l=[]:=by unfold cI cx;rw [if_neg h,if_neg h];exact ⟨rfl,rfl⟩
theorem Mb {l:List UInt8} (h:fD l=0):cI l=gC l∧cx l=cZ (l.drop (gE l)):=by unfold cI cx;rw [if_pos h,if_pos h];exact ⟨rfl,rfl⟩
theorem AR (l:List UInt8):(cI l).ah.length≤255∧(cI l).homes.length≤255:=by
 unfold cI;split
 ·have h1:=kF l;have h2:=mB l
  exact ⟨by show (gL l (gN l)).length≤_;rw [a7];omega,by show (gH l (gM l)).length≤_;rw [a8];omega⟩
 ·exact ⟨Nat.zero_le _,Nat.zero_le _⟩
theorem HL:∀ (n:Nat) (b:List UInt8),b.length≤n→(cZ b).length≤n:=by
 intro n
 induction n with
 | zero=>intro b h;obtain rfl:b=[]:=List.eq_nil_of_length_eq_zero (by omega);rw [k5];exact Nat.zero_le _
 | succ n ih=>
  intro b h
  rcases Nat.eq_zero_or_pos b.length with h0 | h0
  ·obtain rfl:=List.eq_nil_of_length_eq_zero h0;rw [k5];exact Nat.zero_le _
  ·have h1:=sA (b.take 258)
   rw [np h0,List.length_cons]
   have:=ih (b.drop (bo (b.take 258)).2) (by simp;omega)
   omega
theorem Jo {l:List UInt8} (h:l.length≤65536∨fD l≠0):(cx l).length≤65536:=by
 unfold cx;split
 ·rename_i e
  rcases h with h | h
  ·exact HL _ _ (by simp;omega)
  ·exact absurd e h
 ·exact Nat.zero_le _
theorem Bp (l:List UInt8) (hl:l.length≤65536) (h:l.length<gE l):aq Tryz.prog 16 [.d (.ro 1 (ae l))] [] (.tu [.ag [.z 0,.d (.v (.slice none 0 0)),.d (.v (.slice none 0 0))],.d (.v (.slice none 0 0)),.z 3]) []:=by
 rcases Nat.lt_or_ge l.length 2 with h0 | h0
 ·exact IX l hl h0
 ·rcases Nat.lt_or_ge l.length (2+2*gN l) with h1 | h1
  ·exact IY l hl h0 h1
  ·exact IZ l hl h1 h
theorem ox (l:List aM):cb (aW l)=steps l:=by
 rw [jU];unfold aW steps;rw [List.map_map];apply List.map_congr_left;intro s _
 simp [aM.po,aM.row,eR,ow]
theorem ql {l:List UInt8} (h:65536<l.length):fD l=2∧cI l=⟨0,[],[]⟩∧cx l=[]:=by
 have e:fD l=2:=by unfold fD;rw [if_pos h]
 exact ⟨e,xG (by rw [e];decide)⟩
theorem sH {l:List UInt8} (h:l.length≤65536) (h2:¬ gE l≤l.length):fD l=3∧cI l=⟨0,[],[]⟩∧cx l=[]:=by
 have e:fD l=3:=by unfold fD;rw [if_neg (by omega),if_neg h2]
 exact ⟨e,xG (by rw [e];decide)⟩
theorem sI {l:List UInt8} (h:l.length≤65536) (h2:gE l≤l.length) (h3:bI (gC l)=false):fD l=3∧cI l=⟨0,[],[]⟩∧cx l=[]:=by
 have e:fD l=3:=by unfold fD;rw [if_neg (by omega),if_pos h2,h3];rfl
 exact ⟨e,xG (by rw [e];decide)⟩
theorem sJ {l:List UInt8} (h:l.length≤65536) (h2:gE l≤l.length) (h3:bI (gC l)=true):fD l=0∧cI l=gC l∧cx l=cZ (l.drop (gE l)):=by
 have e:=Ky h h2 h3
 exact ⟨e,Mb e⟩
theorem Bq (l:List UInt8):(cx l).length≤65536:=by
 rcases Nat.lt_or_ge 65536 l.length with h | h
 ·rw [(ql h).2.2];exact Nat.zero_le _
 ·exact Jo (.inl h)
theorem HM (l:List UInt8):∀ s ∈ cx l,s.body.length≤255:=by
 have key:∀ (n:Nat) (b:List UInt8),b.length≤n→∀ s ∈ cZ b,s.body.length≤255:=by
  intro n
  induction n with
  | zero=>intro b h s hs;obtain rfl:b=[]:=List.eq_nil_of_length_eq_zero (by omega);rw [k5] at hs;cases hs
  | succ n ih=>
   intro b h s hs
   rcases Nat.eq_zero_or_pos b.length with h0 | h0
   ·obtain rfl:=List.eq_nil_of_length_eq_zero h0;rw [k5] at hs;cases hs
   ·have h1:=sA (b.take 258)
    rw [np h0] at hs
    rcases List.mem_cons.1 hs with rfl | hs
    ·unfold bo;split
     ·exact Nat.zero_le _
     ·cases (bN (b.take 258)).2 with
      | true=>exact Nat.zero_le _
      | false=>
       show (dx _).length≤255
       unfold dx
       cases (af (gK (b.take 258))).body with
       | false=>exact Nat.zero_le _
       | true=>exact Nat.le_trans (mj _ _ _) (Nat.le_of_lt_succ (xC _))
    ·exact ih _ (by simp;omega) s hs
 intro s hs
 unfold cx at hs;split at hs
 ·exact key _ _ (Nat.le_refl _) s hs
 ·cases hs
theorem Gd {l:List aM} {i:Nat} {x:aM} (h:l[i]?=some x):(aW l)[i]?=some x.po:=by unfold aW;rw [List.getElem?_map,h];rfl
set_option maxHeartbeats 2000000 in
set_option maxRecDepth 100000 in
theorem Ge (l:List UInt8) (hl:l.length≤9223372036854775807):aq Tryz.prog 4 [.d (.ro 1 (ae l))] [.gw 0 aj,.gw 1 aN] (.d (.v (.bool true))) ([.gw 0 aj,.gw 1 aN]):=by
 refine aq.intro (by kernel_rfl) rfl rfl 84 rfl rfl fun D w0 K bs ac wd hK (ak:bs.m=2) r=>?_
 refine bC (todo':=aft Tryz.f4 0) (E':=[(0,.d (.ro 1 (ae l))),(2,.d (.v (.bool false)))]) (M':=[.gw 0 aj,.gw 1 aN]) mo tq hK ak [] 2 [0,1] [0,2] r (by kernel_rfl) trivial fun ac wd r=>?_
 suffices J5:∀ ac wd,RB D w0 K 84 bs [(0,.d (.ro 1 (ae l))),(3,.d (.v (.string ⟨l.toArray⟩))),(4,.pt 2 0),(5,.sl 4 ((aW (cx l)).length)),(6,.z (fD l)),(7,.pt 3 0),(8,.sl 5 ((aW (cx l)).length)),(9,.z (fD l))] [.gw 0 aj,.gw 1 aN,.bx 25 [.z ((cI l).aL),.sl 6 ((ah (cI l).ah).length),.sl 7 ((ints (cI l).homes).length)],.bx 25 [.z ((cI l).aL),.sl 8 ((ah (cI l).ah).length),.sl 9 ((ints (cI l).homes).length)],.rw 42 7 (aW (cx l)),.rw 42 7 (aW (cx l)),.rw 60 2 (ah (cI l).ah),.rw 3 1 (ints (cI l).homes),.rw 60 2 (ah (cI l).ah),.rw 3 1 (ints (cI l).homes)] ac wd→aC Tryz.prog 4 (aft Tryz.f4 5) (eX D w0 K bs (.d (.v (.bool true))) ([.gw 0 aj,.gw 1 aN])) ac wd by
  have aE:=((by first | rfl | (simp [ae];done) | (simp [aW];done)):(((ae l).length:Nat):Int)=((l.length:Nat):Int))
  cases h0:(decide ((4000:Int)<((l.length:Nat):Int))) with
  | false=>
   have aK:=of_decide_eq_false h0
   cases h1:(decide ((65536:Int)<((l.length:Nat):Int))) with
   | false=>
    have bF:=of_decide_eq_false h1
    cases h2:(decide (gE l≤l.length)) with
    | false=>
     have cW:=of_decide_eq_false h2
     refine bC (todo':=aft Tryz.f4 5) (E':=[(0,.d (.ro 1 (ae l))),(3,.d (.v (.string ⟨(l).toArray⟩))),(4,.pt 2 0),(5,.d (.v (.slice none 0 0))),(6,.z 3),(7,.pt 3 0),(8,.d (.v (.slice none 0 0))),(9,.z 3)]) (M':=[.gw 0 aj,.gw 1 aN,.bx 25 [.z 0,.d (.v (.slice none 0 0)),.d (.v (.slice none 0 0))],.bx 25 [.z 0,.d (.v (.slice none 0 0)),.d (.v (.slice none 0 0))]]) mo tq hK ak [(1,[(1,.z (((l.length:Nat):Int))),(2,.b false)]),(3,[(1,.res (.v (.string ⟨(l).toArray⟩)))]),(4,[(1,.mem [0] (.tu [.ag [.z 0,.d (.v (.slice none 0 0)),.d (.v (.slice none 0 0))],.d (.v (.slice none 0 0)),.z 3]) [.gw 0 aj])]),(5,[(2,.mem [] (.tu [.ag [.z 0,.d (.v (.slice none 0 0)),.d (.v (.slice none 0 0))],.d (.v (.slice none 0 0)),.z 3]) [])])] 11 [0,1,2,3] [0,3,4,5,6,7,8,9] r (by kernel_rfl) (U aE (U h0 (U (rfl:ae l=ae (l)) (U (BR l (by have:=of_decide_eq_false h1;omega) (by have:=of_decide_eq_false h2;omega)) (U (Bp l (by have:=of_decide_eq_false h1;omega) (by have:=of_decide_eq_false h2;omega)) trivial))))) fun ac wd r=>?_
     have r:=r.de (E1:=[(0,.d (.ro 1 (ae l))),(3,.d (.v (.string ⟨(l).toArray⟩))),(4,.pt 2 0),(5,.sl 4 (0)),(6,.z 3),(7,.pt 3 0),(8,.sl 5 (0)),(9,.z 3)]) (M1:=[.gw 0 aj,.gw 1 aN,.bx 25 [.z 0,.d (.v (.slice none 0 0)),.d (.v (.slice none 0 0))],.bx 25 [.z 0,.d (.v (.slice none 0 0)),.d (.v (.slice none 0 0))],.rw 42 7 ([]),.rw 42 7 ([])]) (M2:=[.gw 0 aj,.gw 1 aN,.bx 25 [.z 0,.sl 6 (0),.sl 7 (0)],.bx 25 [.z 0,.sl 8 (0),.sl 9 (0)],.rw 42 7 ([]),.rw 42 7 ([]),.rw 60 2 ([]),.rw 3 1 ([]),.rw 60 2 ([]),.rw 3 1 ([])]) [(5,42,7),(8,42,7)] [(2,1,60,2),(2,2,3,1),(3,1,60,2),(3,2,3,1)] (by kernel_rfl) (by kernel_rfl)
     exact J5 ac wd (r.cast (by obtain ⟨e1,e2,e3⟩:=sH (l:=l) (by have:=of_decide_eq_false h1;omega) (of_decide_eq_false h2);rw [e1,e3]<;>first | rfl | simp [aW]) (by obtain ⟨e1,e2,e3⟩:=sH (l:=l) (by have:=of_decide_eq_false h1;omega) (of_decide_eq_false h2);rw [e2,e3]<;>first | rfl | simp [gC,ah,ints,a7,a8]))
    | true=>
     have cW:=of_decide_eq_true h2
     cases h3:(bI (gC l)) with
     | false=>
      refine bC (todo':=aft Tryz.f4 5) (E':=[(0,.d (.ro 1 (ae l))),(3,.d (.v (.string ⟨(l).toArray⟩))),(4,.pt 2 0),(5,.d (.v (.slice none 0 0))),(6,.z 3),(7,.pt 3 0),(8,.d (.v (.slice none 0 0))),(9,.z 3)]) (M':=[.gw 0 aj,.gw 1 aN,.bx 25 [.z 0,.d (.v (.slice none 0 0)),.d (.v (.slice none 0 0))],.bx 25 [.z 0,.d (.v (.slice none 0 0)),.d (.v (.slice none 0 0))]]) mo tq hK ak [(1,[(1,.z (((l.length:Nat):Int))),(2,.b false)]),(3,[(1,.res (.v (.string ⟨(l).toArray⟩)))]),(4,[(1,.mem [0] (.tu [.ag [.z 0,.d (.v (.slice none 0 0)),.d (.v (.slice none 0 0))],.d (.v (.slice none 0 0)),.z 3]) [.gw 0 aj])]),(5,[(2,.mem [] (.tu [.ag [.z 0,.d (.v (.slice none 0 0)),.d (.v (.slice none 0 0))],.d (.v (.slice none 0 0)),.z 3]) [])])] 11 [0,1,2,3] [0,3,4,5,6,7,8,9] r (by kernel_rfl) (U aE (U h0 (U (rfl:ae l=ae (l)) (U (BS l (by have:=of_decide_eq_false h1;omega) (of_decide_eq_true h2) h3) (U (Bk l (by have:=of_decide_eq_false h1;omega) (of_decide_eq_true h2) h3) trivial))))) fun ac wd r=>?_
      have r:=r.de (E1:=[(0,.d (.ro 1 (ae l))),(3,.d (.v (.string ⟨(l).toArray⟩))),(4,.pt 2 0),(5,.sl 4 (0)),(6,.z 3),(7,.pt 3 0),(8,.sl 5 (0)),(9,.z 3)]) (M1:=[.gw 0 aj,.gw 1 aN,.bx 25 [.z 0,.d (.v (.slice none 0 0)),.d (.v (.slice none 0 0))],.bx 25 [.z 0,.d (.v (.slice none 0 0)),.d (.v (.slice none 0 0))],.rw 42 7 ([]),.rw 42 7 ([])]) (M2:=[.gw 0 aj,.gw 1 aN,.bx 25 [.z 0,.sl 6 (0),.sl 7 (0)],.bx 25 [.z 0,.sl 8 (0),.sl 9 (0)],.rw 42 7 ([]),.rw 42 7 ([]),.rw 60 2 ([]),.rw 3 1 ([]),.rw 60 2 ([]),.rw 3 1 ([])]) [(5,42,7),(8,42,7)] [(2,1,60,2),(2,2,3,1),(3,1,60,2),(3,2,3,1)] (by kernel_rfl) (by kernel_rfl)
      exact J5 ac wd (r.cast (by obtain ⟨e1,e2,e3⟩:=sI (l:=l) (by have:=of_decide_eq_false h1;omega) (of_decide_eq_true h2) h3;rw [e1,e3]<;>first | rfl | simp [aW]) (by obtain ⟨e1,e2,e3⟩:=sI (l:=l) (by have:=of_decide_eq_false h1;omega) (of_decide_eq_true h2) h3;rw [e2,e3]<;>first | rfl | simp [gC,ah,ints,a7,a8]))
     | true=>
      refine bC (todo':=aft Tryz.f4 5) (E':=[(0,.d (.ro 1 (ae l))),(3,.d (.v (.string ⟨(l).toArray⟩))),(4,.pt 2 0),(5,.sl 4 ((cZ (l.drop (gE l))).length)),(6,.z 0),(7,.pt 3 0),(8,.sl 5 ((cZ (l.drop (gE l))).length)),(9,.z 0)]) (M':=[.gw 0 aj,.gw 1 aN,.bx 25 [.z (gV l 0),.sl 6 ((gN l)),.sl 7 ((gM l))],.bx 25 [.z (gV l 0),.sl 8 ((gN l)),.sl 9 ((gM l))],.rw 42 7 (aW (cZ (l.drop (gE l)))),.rw 42 7 (aW (cZ (l.drop (gE l)))),.rw 60 2 (ah (gL l (gN l))),.rw 3 1 (ints (gH l (gM l))),.rw 60 2 (ah (gL l (gN l))),.rw 3 1 (ints (gH l (gM l)))]) mo tq hK ak [(1,[(1,.z (((l.length:Nat):Int))),(2,.b false)]),(3,[(1,.res (.v (.string ⟨(l).toArray⟩)))]),(4,[(1,.mem [0] (.tu [.ag [.z (gV l 0),.sl 1 ((gN l)),.sl 2 ((gM l))],.sl 3 ((cZ (l.drop (gE l))).length),.z 0]) [.gw 0 aj,.rw 60 2 (ah (gL l (gN l))),.rw 3 1 (ints (gH l (gM l))),.rw 42 7 (aW (cZ (l.drop (gE l))))])]),(5,[(2,.mem [] (.tu [.ag [.z (gV l 0),.sl 0 ((gN l)),.sl 1 ((gM l))],.sl 2 ((cZ (l.drop (gE l))).length),.z 0]) [.rw 60 2 (ah (gL l (gN l))),.rw 3 1 (ints (gH l (gM l))),.rw 42 7 (aW (cZ (l.drop (gE l))))])])] 11 [0,1,5,9,4,8,2,3,6,7] [0,3,4,5,6,7,8,9] r (by kernel_rfl) (U aE (U h0 (U (rfl:ae l=ae (l)) (U (wF l (by have:=of_decide_eq_false h1;omega) (of_decide_eq_true h2) h3) (U ((by have h:=Bl l (by have:=of_decide_eq_false h1;omega) (of_decide_eq_true h2) h3;rw [BY] at h;exact h):aq Tryz.prog 16 [.d (.ro 1 (ae (l)))] [] (.tu [.ag [.z (gV l 0),.sl 0 ((gN l)),.sl 1 ((gM l))],.sl 2 ((cZ (l.drop (gE l))).length),.z 0]) [.rw 60 2 (ah (gL l (gN l))),.rw 3 1 (ints (gH l (gM l))),.rw 42 7 (aW (cZ (l.drop (gE l))))]) trivial))))) fun ac wd r=>?_
      exact J5 ac wd (r.cast (by obtain ⟨e1,e2,e3⟩:=sJ (l:=l) (by have:=of_decide_eq_false h1;omega) (of_decide_eq_true h2) h3;rw [e1,e3]<;>first | rfl | simp [aW]) (by obtain ⟨e1,e2,e3⟩:=sJ (l:=l) (by have:=of_decide_eq_false h1;omega) (of_decide_eq_true h2) h3;rw [e2,e3]<;>first | rfl | simp [gC,ah,ints,a7,a8]))
   | true=>
    have bF:=of_decide_eq_true h1
    refine bC (todo':=aft Tryz.f4 5) (E':=[(0,.d (.ro 1 (ae l))),(3,.d (.v (.string ⟨(l).toArray⟩))),(4,.pt 2 0),(5,.d (.v (.slice none 0 0))),(6,.z 2),(7,.pt 3 0),(8,.d (.v (.slice none 0 0))),(9,.z 2)]) (M':=[.gw 0 aj,.gw 1 aN,.bx 25 [.z 0,.d (.v (.slice none 0 0)),.d (.v (.slice none 0 0))],.bx 25 [.z 0,.d (.v (.slice none 0 0)),.d (.v (.slice none 0 0))]]) mo tq hK ak [(1,[(1,.z (((l.length:Nat):Int))),(2,.b false)]),(3,[(1,.res (.v (.string ⟨(l).toArray⟩)))]),(4,[(1,.mem [0] (.tu [.ag [.z 0,.d (.v (.slice none 0 0)),.d (.v (.slice none 0 0))],.d (.v (.slice none 0 0)),.z 2]) [.gw 0 aj])]),(5,[(2,.mem [] (.tu [.ag [.z 0,.d (.v (.slice none 0 0)),.d (.v (.slice none 0 0))],.d (.v (.slice none 0 0)),.z 2]) [])])] 11 [0,1,2,3] [0,3,4,5,6,7,8,9] r (by kernel_rfl) (U aE (U h0 (U (rfl:ae l=ae (l)) (U (Bi l (by have:=of_decide_eq_true h1;omega)) (U (AI l (by have:=of_decide_eq_true h1;omega)) trivial))))) fun ac wd r=>?_
    have r:=r.de (E1:=[(0,.d (.ro 1 (ae l))),(3,.d (.v (.string ⟨(l).toArray⟩))),(4,.pt 2 0),(5,.sl 4 (0)),(6,.z 2),(7,.pt 3 0),(8,.sl 5 (0)),(9,.z 2)]) (M1:=[.gw 0 aj,.gw 1 aN,.bx 25 [.z 0,.d (.v (.slice none 0 0)),.d (.v (.slice none 0 0))],.bx 25 [.z 0,.d (.v (.slice none 0 0)),.d (.v (.slice none 0 0))],.rw 42 7 ([]),.rw 42 7 ([])]) (M2:=[.gw 0 aj,.gw 1 aN,.bx 25 [.z 0,.sl 6 (0),.sl 7 (0)],.bx 25 [.z 0,.sl 8 (0),.sl 9 (0)],.rw 42 7 ([]),.rw 42 7 ([]),.rw 60 2 ([]),.rw 3 1 ([]),.rw 60 2 ([]),.rw 3 1 ([])]) [(5,42,7),(8,42,7)] [(2,1,60,2),(2,2,3,1),(3,1,60,2),(3,2,3,1)] (by kernel_rfl) (by kernel_rfl)
    exact J5 ac wd (r.cast (by obtain ⟨e1,e2,e3⟩:=ql (l:=l) (by have:=of_decide_eq_true h1;omega);rw [e1,e3]<;>first | rfl | simp [aW]) (by obtain ⟨e1,e2,e3⟩:=ql (l:=l) (by have:=of_decide_eq_true h1;omega);rw [e2,e3]<;>first | rfl | simp [gC,ah,ints,a7,a8]))
  | true=>
   have aK:=of_decide_eq_true h0
   cases h4:(decide ((((l.length:Nat):Int):Int)≤65536)) with
   | false=>
    have dD:=of_decide_eq_false h4
    cases h5:(decide ((65536:Int)<((l.length:Nat):Int))) with
    | false=>
     have ew:=of_decide_eq_false h5
     cases h6:(decide (gE l≤l.length)) with
     | false=>
      have eV:=of_decide_eq_false h6
      refine bC (todo':=aft Tryz.f4 5) (E':=[(0,.d (.ro 1 (ae l))),(3,.d (.v (.string ⟨(l).toArray⟩))),(4,.pt 2 0),(5,.d (.v (.slice none 0 0))),(6,.z 3),(7,.pt 3 0),(8,.d (.v (.slice none 0 0))),(9,.z 3)]) (M':=[.gw 0 aj,.gw 1 aN,.bx 25 [.z 0,.d (.v (.slice none 0 0)),.d (.v (.slice none 0 0))],.bx 25 [.z 0,.d (.v (.slice none 0 0)),.d (.v (.slice none 0 0))]]) mo tq hK ak [(1,[(1,.z (((l.length:Nat):Int))),(2,.b true),(5,.z (((l.length:Nat):Int))),(6,.b false)]),(3,[(1,.res (.v (.string ⟨(l).toArray⟩)))]),(4,[(1,.mem [0] (.tu [.ag [.z 0,.d (.v (.slice none 0 0)),.d (.v (.slice none 0 0))],.d (.v (.slice none 0 0)),.z 3]) [.gw 0 aj])]),(5,[(2,.mem [] (.tu [.ag [.z 0,.d (.v (.slice none 0 0)),.d (.v (.slice none 0 0))],.d (.v (.slice none 0 0)),.z 3]) [])])] 11 [0,1,2,3] [0,3,4,5,6,7,8,9] r (by kernel_rfl) (U aE (U h0 (U aE (U h4 (U (rfl:ae l=ae (l)) (U (BR l (by have:=of_decide_eq_false h5;omega) (by have:=of_decide_eq_false h6;omega)) (U (Bp l (by have:=of_decide_eq_false h5;omega) (by have:=of_decide_eq_false h6;omega)) trivial))))))) fun ac wd r=>?_
      have r:=r.de (E1:=[(0,.d (.ro 1 (ae l))),(3,.d (.v (.string ⟨(l).toArray⟩))),(4,.pt 2 0),(5,.sl 4 (0)),(6,.z 3),(7,.pt 3 0),(8,.sl 5 (0)),(9,.z 3)]) (M1:=[.gw 0 aj,.gw 1 aN,.bx 25 [.z 0,.d (.v (.slice none 0 0)),.d (.v (.slice none 0 0))],.bx 25 [.z 0,.d (.v (.slice none 0 0)),.d (.v (.slice none 0 0))],.rw 42 7 ([]),.rw 42 7 ([])]) (M2:=[.gw 0 aj,.gw 1 aN,.bx 25 [.z 0,.sl 6 (0),.sl 7 (0)],.bx 25 [.z 0,.sl 8 (0),.sl 9 (0)],.rw 42 7 ([]),.rw 42 7 ([]),.rw 60 2 ([]),.rw 3 1 ([]),.rw 60 2 ([]),.rw 3 1 ([])]) [(5,42,7),(8,42,7)] [(2,1,60,2),(2,2,3,1),(3,1,60,2),(3,2,3,1)] (by kernel_rfl) (by kernel_rfl)
      exact J5 ac wd (r.cast (by obtain ⟨e1,e2,e3⟩:=sH (l:=l) (by have:=of_decide_eq_false h5;omega) (of_decide_eq_false h6);rw [e1,e3]<;>first | rfl | simp [aW]) (by obtain ⟨e1,e2,e3⟩:=sH (l:=l) (by have:=of_decide_eq_false h5;omega) (of_decide_eq_false h6);rw [e2,e3]<;>first | rfl | simp [gC,ah,ints,a7,a8]))
     | true=>
      have eV:=of_decide_eq_true h6
      cases h7:(bI (gC l)) with
      | false=>
       refine bC (todo':=aft Tryz.f4 5) (E':=[(0,.d (.ro 1 (ae l))),(3,.d (.v (.string ⟨(l).toArray⟩))),(4,.pt 2 0),(5,.d (.v (.slice none 0 0))),(6,.z 3),(7,.pt 3 0),(8,.d (.v (.slice none 0 0))),(9,.z 3)]) (M':=[.gw 0 aj,.gw 1 aN,.bx 25 [.z 0,.d (.v (.slice none 0 0)),.d (.v (.slice none 0 0))],.bx 25 [.z 0,.d (.v (.slice none 0 0)),.d (.v (.slice none 0 0))]]) mo tq hK ak [(1,[(1,.z (((l.length:Nat):Int))),(2,.b true),(5,.z (((l.length:Nat):Int))),(6,.b false)]),(3,[(1,.res (.v (.string ⟨(l).toArray⟩)))]),(4,[(1,.mem [0] (.tu [.ag [.z 0,.d (.v (.slice none 0 0)),.d (.v (.slice none 0 0))],.d (.v (.slice none 0 0)),.z 3]) [.gw 0 aj])]),(5,[(2,.mem [] (.tu [.ag [.z 0,.d (.v (.slice none 0 0)),.d (.v (.slice none 0 0))],.d (.v (.slice none 0 0)),.z 3]) [])])] 11 [0,1,2,3] [0,3,4,5,6,7,8,9] r (by kernel_rfl) (U aE (U h0 (U aE (U h4 (U (rfl:ae l=ae (l)) (U (BS l (by have:=of_decide_eq_false h5;omega) (of_decide_eq_true h6) h7) (U (Bk l (by have:=of_decide_eq_false h5;omega) (of_decide_eq_true h6) h7) trivial))))))) fun ac wd r=>?_
       have r:=r.de (E1:=[(0,.d (.ro 1 (ae l))),(3,.d (.v (.string ⟨(l).toArray⟩))),(4,.pt 2 0),(5,.sl 4 (0)),(6,.z 3),(7,.pt 3 0),(8,.sl 5 (0)),(9,.z 3)]) (M1:=[.gw 0 aj,.gw 1 aN,.bx 25 [.z 0,.d (.v (.slice none 0 0)),.d (.v (.slice none 0 0))],.bx 25 [.z 0,.d (.v (.slice none 0 0)),.d (.v (.slice none 0 0))],.rw 42 7 ([]),.rw 42 7 ([])]) (M2:=[.gw 0 aj,.gw 1 aN,.bx 25 [.z 0,.sl 6 (0),.sl 7 (0)],.bx 25 [.z 0,.sl 8 (0),.sl 9 (0)],.rw 42 7 ([]),.rw 42 7 ([]),.rw 60 2 ([]),.rw 3 1 ([]),.rw 60 2 ([]),.rw 3 1 ([])]) [(5,42,7),(8,42,7)] [(2,1,60,2),(2,2,3,1),(3,1,60,2),(3,2,3,1)] (by kernel_rfl) (by kernel_rfl)
       exact J5 ac wd (r.cast (by obtain ⟨e1,e2,e3⟩:=sI (l:=l) (by have:=of_decide_eq_false h5;omega) (of_decide_eq_true h6) h7;rw [e1,e3]<;>first | rfl | simp [aW]) (by obtain ⟨e1,e2,e3⟩:=sI (l:=l) (by have:=of_decide_eq_false h5;omega) (of_decide_eq_true h6) h7;rw [e2,e3]<;>first | rfl | simp [gC,ah,ints,a7,a8]))
      | true=>
       refine bC (todo':=aft Tryz.f4 5) (E':=[(0,.d (.ro 1 (ae l))),(3,.d (.v (.string ⟨(l).toArray⟩))),(4,.pt 2 0),(5,.sl 4 ((cZ (l.drop (gE l))).length)),(6,.z 0),(7,.pt 3 0),(8,.sl 5 ((cZ (l.drop (gE l))).length)),(9,.z 0)]) (M':=[.gw 0 aj,.gw 1 aN,.bx 25 [.z (gV l 0),.sl 6 ((gN l)),.sl 7 ((gM l))],.bx 25 [.z (gV l 0),.sl 8 ((gN l)),.sl 9 ((gM l))],.rw 42 7 (aW (cZ (l.drop (gE l)))),.rw 42 7 (aW (cZ (l.drop (gE l)))),.rw 60 2 (ah (gL l (gN l))),.rw 3 1 (ints (gH l (gM l))),.rw 60 2 (ah (gL l (gN l))),.rw 3 1 (ints (gH l (gM l)))]) mo tq hK ak [(1,[(1,.z (((l.length:Nat):Int))),(2,.b true),(5,.z (((l.length:Nat):Int))),(6,.b false)]),(3,[(1,.res (.v (.string ⟨(l).toArray⟩)))]),(4,[(1,.mem [0] (.tu [.ag [.z (gV l 0),.sl 1 ((gN l)),.sl 2 ((gM l))],.sl 3 ((cZ (l.drop (gE l))).length),.z 0]) [.gw 0 aj,.rw 60 2 (ah (gL l (gN l))),.rw 3 1 (ints (gH l (gM l))),.rw 42 7 (aW (cZ (l.drop (gE l))))])]),(5,[(2,.mem [] (.tu [.ag [.z (gV l 0),.sl 0 ((gN l)),.sl 1 ((gM l))],.sl 2 ((cZ (l.drop (gE l))).length),.z 0]) [.rw 60 2 (ah (gL l (gN l))),.rw 3 1 (ints (gH l (gM l))),.rw 42 7 (aW (cZ (l.drop (gE l))))])])] 11 [0,1,5,9,4,8,2,3,6,7] [0,3,4,5,6,7,8,9] r (by kernel_rfl) (U aE (U h0 (U aE (U h4 (U (rfl:ae l=ae (l)) (U (wF l (by have:=of_decide_eq_false h5;omega) (of_decide_eq_true h6) h7) (U ((by have h:=Bl l (by have:=of_decide_eq_false h5;omega) (of_decide_eq_true h6) h7;rw [BY] at h;exact h):aq Tryz.prog 16 [.d (.ro 1 (ae (l)))] [] (.tu [.ag [.z (gV l 0),.sl 0 ((gN l)),.sl 1 ((gM l))],.sl 2 ((cZ (l.drop (gE l))).length),.z 0]) [.rw 60 2 (ah (gL l (gN l))),.rw 3 1 (ints (gH l (gM l))),.rw 42 7 (aW (cZ (l.drop (gE l))))]) trivial))))))) fun ac wd r=>?_
       exact J5 ac wd (r.cast (by obtain ⟨e1,e2,e3⟩:=sJ (l:=l) (by have:=of_decide_eq_false h5;omega) (of_decide_eq_true h6) h7;rw [e1,e3]<;>first | rfl | simp [aW]) (by obtain ⟨e1,e2,e3⟩:=sJ (l:=l) (by have:=of_decide_eq_false h5;omega) (of_decide_eq_true h6) h7;rw [e2,e3]<;>first | rfl | simp [gC,ah,ints,a7,a8]))
    | true=>
     have ew:=of_decide_eq_true h5
     refine bC (todo':=aft Tryz.f4 5) (E':=[(0,.d (.ro 1 (ae l))),(3,.d (.v (.string ⟨(l).toArray⟩))),(4,.pt 2 0),(5,.d (.v (.slice none 0 0))),(6,.z 2),(7,.pt 3 0),(8,.d (.v (.slice none 0 0))),(9,.z 2)]) (M':=[.gw 0 aj,.gw 1 aN,.bx 25 [.z 0,.d (.v (.slice none 0 0)),.d (.v (.slice none 0 0))],.bx 25 [.z 0,.d (.v (.slice none 0 0)),.d (.v (.slice none 0 0))]]) mo tq hK ak [(1,[(1,.z (((l.length:Nat):Int))),(2,.b true),(5,.z (((l.length:Nat):Int))),(6,.b false)]),(3,[(1,.res (.v (.string ⟨(l).toArray⟩)))]),(4,[(1,.mem [0] (.tu [.ag [.z 0,.d (.v (.slice none 0 0)),.d (.v (.slice none 0 0))],.d (.v (.slice none 0 0)),.z 2]) [.gw 0 aj])]),(5,[(2,.mem [] (.tu [.ag [.z 0,.d (.v (.slice none 0 0)),.d (.v (.slice none 0 0))],.d (.v (.slice none 0 0)),.z 2]) [])])] 11 [0,1,2,3] [0,3,4,5,6,7,8,9] r (by kernel_rfl) (U aE (U h0 (U aE (U h4 (U (rfl:ae l=ae (l)) (U (Bi l (by have:=of_decide_eq_true h5;omega)) (U (AI l (by have:=of_decide_eq_true h5;omega)) trivial))))))) fun ac wd r=>?_
     have r:=r.de (E1:=[(0,.d (.ro 1 (ae l))),(3,.d (.v (.string ⟨(l).toArray⟩))),(4,.pt 2 0),(5,.sl 4 (0)),(6,.z 2),(7,.pt 3 0),(8,.sl 5 (0)),(9,.z 2)]) (M1:=[.gw 0 aj,.gw 1 aN,.bx 25 [.z 0,.d (.v (.slice none 0 0)),.d (.v (.slice none 0 0))],.bx 25 [.z 0,.d (.v (.slice none 0 0)),.d (.v (.slice none 0 0))],.rw 42 7 ([]),.rw 42 7 ([])]) (M2:=[.gw 0 aj,.gw 1 aN,.bx 25 [.z 0,.sl 6 (0),.sl 7 (0)],.bx 25 [.z 0,.sl 8 (0),.sl 9 (0)],.rw 42 7 ([]),.rw 42 7 ([]),.rw 60 2 ([]),.rw 3 1 ([]),.rw 60 2 ([]),.rw 3 1 ([])]) [(5,42,7),(8,42,7)] [(2,1,60,2),(2,2,3,1),(3,1,60,2),(3,2,3,1)] (by kernel_rfl) (by kernel_rfl)
     exact J5 ac wd (r.cast (by obtain ⟨e1,e2,e3⟩:=ql (l:=l) (by have:=of_decide_eq_true h5;omega);rw [e1,e3]<;>first | rfl | simp [aW]) (by obtain ⟨e1,e2,e3⟩:=ql (l:=l) (by have:=of_decide_eq_true h5;omega);rw [e2,e3]<;>first | rfl | simp [gC,ah,ints,a7,a8]))
   | true=>
    have dD:=of_decide_eq_true h4
    refine aQ (y:=.d (.v (.bool true))) (N':=[.gw 0 aj,.gw 1 aN]) (rfl) (rfl) ?_
    exact aP mo tq hK rfl ak [(1,[(1,.z (((l.length:Nat):Int))),(2,.b true),(5,.z (((l.length:Nat):Int))),(6,.b true)]),(2,[(0,.mem [0,1] (.d (.v (.bool true))) [.gw 0 aj,.gw 1 aN])])] 2000 [0,1] r (by kernel_rfl) (U aE (U h0 (U aE (U h4 (U (Bo) trivial)))))
 intro ac wd r
 refine bT (todo':=hd Tryz.f4 0) (E':=[(0,.d (.ro 1 (ae l))),(3,.d (.v (.string ⟨l.toArray⟩))),(5,.sl 2 ((aW (cx l)).length)),(10,.z 0)]) (M':=[.gw 0 aj,.gw 1 aN,.rw 42 7 (aW (cx l))]) mo tq hK ak [(6,[(2,.b false),(6,.call [.ag [.z ((cI l).aL),.d (.ro 2 (ah (cI l).ah)),.d (.ro 1 (ints (cI l).homes))],.ag [.z ((cI l).aL),.d (.ro 2 (ah (cI l).ah)),.d (.ro 1 (ints (cI l).homes))]] (.v (.bool true))),(12,.call [.d (.ro 7 (steps (cx l))),.d (.ro 7 (steps (cx l)))] (.v (.bool true)))])] 2000 [0,1,4] [0,3,5,10] r (by kernel_rfl) (U ((by simp):((fD l:Int) != fD l)=false) (U (FU (cI l) (by have:=AR l;omega) (by have:=AR l;omega)) (U ((fx _):eH (.v (.bool true))) (U (iq (.z ((cI l).aL))) (U (cR (2)) (U ((by first | rfl | (simp [aW,eJ];done) | (simp [aW,ae];done) | (simp [aW,ae,eJ,iL];done) | (simp [ae];omega)):((ah (cI l).ah).length)=(ah (cI l).ah:List (List DV)).length) (U ((by first | exact fX _ | exact ff _ | exact ox _):cb (ah (cI l).ah)=ah (cI l).ah) (U (cR (1)) (U (cR ((ints (cI l).homes).length)) (U ((by first | exact fX _ | exact ff _ | exact ox _):cb (ints (cI l).homes)=ints (cI l).homes) (U (iq (.z ((cI l).aL))) (U (cR (2)) (U ((by first | rfl | (simp [aW,eJ];done) | (simp [aW,ae];done) | (simp [aW,ae,eJ,iL];done) | (simp [ae];omega)):((ah (cI l).ah).length)=(ah (cI l).ah:List (List DV)).length) (U ((by first | exact fX _ | exact ff _ | exact ox _):cb (ah (cI l).ah)=ah (cI l).ah) (U (cR (1)) (U (cR ((ints (cI l).homes).length)) (U ((by first | exact fX _ | exact ff _ | exact ox _):cb (ints (cI l).homes)=ints (cI l).homes) (U (uJ (cx l) (by have:=Bq l;omega)) (U ((fx _):eH (.v (.bool true))) (U (cR (7)) (U ((by first | rfl | (simp [aW,eJ];done) | (simp [aW,ae];done) | (simp [aW,ae,eJ,iL];done) | (simp [ae];omega)):((aW (cx l)).length)=(aW (cx l):List (List DV)).length) (U ((by first | exact fX _ | exact ff _ | exact ox _):cb (aW (cx l))=steps (cx l)) (U (cR (7)) (U ((by first | rfl | (simp [aW,eJ];done) | (simp [aW,ae];done) | (simp [aW,ae,eJ,iL];done) | (simp [ae];omega)):((aW (cx l)).length)=(aW (cx l):List (List DV)).length) (U ((by first | exact fX _ | exact ff _ | exact ox _):cb (aW (cx l))=steps (cx l)) trivial))))))))))))))))))))))))) fun ac wd r=>?_
 refine aC.rounds (Φ:=fun (i:Nat) ac wd=>∃ rs:List (List DV),(i≤(cx l).length∧rs.length=(cx l).length∧∀ j,i≤j→rs[j]?=(aW (cx l))[j]?)∧RB D w0 K 84 bs [(0,.d (.ro 1 (ae l))),(3,.d (.v (.string ⟨l.toArray⟩))),(5,.sl 2 ((aW (cx l)).length)),(10,.n i)] [.gw 0 aj,.gw 1 aN,.rw 42 7 (rs)] ac wd) ((cx l).length) ?_ (Nat.zero_le _) ⟨aW (cx l),⟨Nat.zero_le _,by simp [aW],fun _ _=>rfl⟩,(r).cast rfl rfl⟩
 clear r
 rintro i dI bH ac wd ⟨rs,ao,r⟩
 obtain ⟨lV,eJ,DX⟩:=ao
 have PG:=Bq l
 have dY:=eC (cx l)
 cases h8:(decide ((((i:Nat):Int):Int)<(((aW (cx l)).length:Nat):Int))) with
 | false=>
  have e6:=of_decide_eq_false h8
  refine aQ (y:=.d (.v (.bool true))) (N':=[.gw 0 aj,.gw 1 aN]) (rfl) (rfl) ?_
  exact aP mo tq hK rfl ak [(9,[(3,.b false)]),(15,[(1,.res (.v (.string ⟨(l).toArray⟩))),(3,.b true),(5,.mem [0,1] (.d (.v (.bool true))) [.gw 0 aj,.gw 1 aN])])] 2000 [0,1] r (by kernel_rfl) (U h8 (U (rfl:ae l=ae (l)) (U ((by simp):(l==l)=true) (U (Bo) trivial))))
 | true=>
  have e6:=of_decide_eq_true h8
  obtain ⟨x,gx⟩:∃ x,(cx l)[i]?=some x:=⟨_,List.getElem?_eq_getElem (by omega)⟩
  have PH:=HM l x (List.mem_of_getElem? gx)
  refine bC (todo':=aft Tryz.f4 11) (E':=[(0,.d (.ro 1 (ae l))),(3,.d (.v (.string ⟨l.toArray⟩))),(5,.sl 2 ((aW (cx l)).length)),(10,.n i),(51,.n i),(52,.sl 2 ((aW (cx l)).length)),(53,.n ((aW (cx l)).length)),(54,.d (.v (.bool true))),(11,.z 0)]) (M':=[.gw 0 aj,.gw 1 aN,.rw 42 7 (rs)]) mo tq hK ak [(9,[(3,.b true)])] 9 [0,1,2] [0,3,5,10,51,52,53,54,11] r (by kernel_rfl) (U h8 trivial) fun ac wd r=>?_
  have bQ:rs[i]?=some [.z x.kind,.z x.node,.z x.peer,.z x.n,.z x.bit,.u x.inc,.em 5 1 (ae x.body)]:=by rw [DX i (Nat.le_refl _)];exact Gd gx
  obtain ⟨aa,cc,r⟩:=r.Lf (M3:=fun aa cc=>[.gw 0 aj,.gw 1 aN,.rw 42 7 (List.set rs i [.z x.kind,.z x.node,.z x.peer,.z x.n,.z x.bit,.u x.inc,.v (.slice aa (ae x.body).length cc)]),.tw aa cc 5 1 (ae x.body)]) (u:=2) (o:=6) rfl bQ rfl (fun _ _=>rfl)
  refine bT (todo':=hd Tryz.f4 1) (E':=[(0,.d (.ro 1 (ae l))),(3,.d (.v (.string ⟨l.toArray⟩))),(5,.sl 2 ((aW (cx l)).length)),(10,.n i),(11,.n 0)]) (M':=[.gw 0 aj,.gw 1 aN,.rw 42 7 (List.set rs i [.z x.kind,.z x.node,.z x.peer,.z x.n,.z x.bit,.u x.inc,.v (.slice aa (ae x.body).length cc)]),.tw aa cc 5 1 (ae x.body)]) mo tq hK ak [] 2000 [0,1,2,3] [0,3,5,10,11] r (by kernel_rfl) trivial fun ac wd r=>?_
  refine aC.rounds (Φ:=fun (k:Nat) ac wd=>∃ qs:List UInt8,(k≤(ae x.body).length∧qs.length=x.body.length)∧RB D w0 K 84 bs [(0,.d (.ro 1 (ae l))),(3,.d (.v (.string ⟨l.toArray⟩))),(5,.sl 2 ((aW (cx l)).length)),(10,.n i),(11,.n k)] [.gw 0 aj,.gw 1 aN,.rw 42 7 (List.set rs i [.z x.kind,.z x.node,.z x.peer,.z x.n,.z x.bit,.u x.inc,.v (.slice aa (ae x.body).length cc)]),.tw aa cc 5 1 (ae qs)] ac wd) ((ae x.body).length) ?_ (Nat.zero_le _) ⟨x.body,⟨Nat.zero_le _,rfl⟩,r⟩
  clear r
  rintro k lV fG ac wd ⟨qs,dt,r⟩
  obtain ⟨jO,iL⟩:=dt
  have aZ:=((by first | omega | decide | (simp;done) | (simp;omega)):(i)<((aW (cx l)).length))
  have cd:=((by first | rfl | (simp [aW,eJ];done) | (simp [aW,ae];done) | (simp [aW,ae,eJ,iL];done) | (simp [ae];omega)):((aW (cx l)).length)≤(List.set rs i [.z x.kind,.z x.node,.z x.peer,.z x.n,.z x.bit,.u x.inc,.v (.slice aa (ae x.body).length cc)]:List (List DV)).length)
  have c7:=(List.getElem?_set_self (by omega):(List.set rs i [.z x.kind,.z x.node,.z x.peer,.z x.n,.z x.bit,.u x.inc,.v (.slice aa (ae x.body).length cc)])[i]?=some [.z x.kind,.z x.node,.z x.peer,.z x.n,.z x.bit,.u x.inc,.v (.slice aa (ae x.body).length cc)])
  have e7:=((by first | rfl | (simp [ae];done) | (simp [aW];done)):(((ae x.body).length:Nat):Int)=((x.body.length:Nat):Int))
  cases h9:(decide ((((k:Nat):Int):Int)<((x.body.length:Nat):Int))) with
  | false=>
   have kR:=of_decide_eq_false h9
   exact bT (todo':=hd Tryz.f4 0) mo tq hK ak [(10,[(1,.z (((i+1:Nat):Int)))]),(12,[(3,.n (i)),(5,.ix 0 [.z x.kind,.z x.node,.z x.peer,.z x.n,.z x.bit,.u x.inc,.v (.slice aa (ae x.body).length cc)]),(6,.z (((x.body.length:Nat):Int))),(7,.b false)])] 2000 [0,1,2] [0,3,5,10] r (by kernel_rfl) (U (aA ((i:Nat):Int)) (U aZ (U cd (U c7 (U e7 (U h9 (U ((by first | exact wi (by omega) | exact y6 _):IntKind.i64.wrap ((((i:Nat):Int):Int)+1)=((i+1:Nat):Int)) trivial))))))) fun ac wd r=>bH (by omega) ac wd ⟨(List.set rs i [.z x.kind,.z x.node,.z x.peer,.z x.n,.z x.bit,.u x.inc,.v (.slice aa (ae x.body).length cc)]),⟨by omega,by simp;omega,fun j hj=>by rw [List.getElem?_set_ne (by omega)];exact DX j (by omega)⟩,r⟩
  | true=>
   have kR:=of_decide_eq_true h9
   obtain ⟨oq,CZ⟩:∃ x_,qs[k]?=some x_:=⟨_,List.getElem?_eq_getElem (by simp [ae] at *;omega)⟩
   exact bT (todo':=hd Tryz.f4 1) (E':=[(0,.d (.ro 1 (ae l))),(3,.d (.v (.string ⟨l.toArray⟩))),(5,.sl 2 ((aW (cx l)).length)),(10,.n i),(11,.n (k+1))]) (M':=[.gw 0 aj,.gw 1 aN,.rw 42 7 (List.set rs i [.z x.kind,.z x.node,.z x.peer,.z x.n,.z x.bit,.u x.inc,.v (.slice aa (ae x.body).length cc)]),.tw aa cc 5 1 (List.set (ae qs) (k) [.v (.int .u8 ((((oq+1).toNat:Nat):Int)))])]) mo tq hK ak [(12,[(3,.n (i)),(5,.ix 0 [.z x.kind,.z x.node,.z x.peer,.z x.n,.z x.bit,.u x.inc,.v (.slice aa (ae x.body).length cc)]),(6,.z (((x.body.length:Nat):Int))),(7,.b true)]),(13,[(1,.z (((k+1:Nat):Int)))]),(14,[(2,.n (i)),(4,.ix 0 [.z x.kind,.z x.node,.z x.peer,.z x.n,.z x.bit,.u x.inc,.v (.slice aa (ae x.body).length cc)]),(6,.n2 (k) 3),(7,.ix 0 [.v (.int .u8 (((oq.toNat:Nat):Int)))]),(8,.z ((((oq+1).toNat:Nat):Int))),(9,.n2 (k) 3),(10,.ix 0 [.v (.int .u8 (((oq.toNat:Nat):Int)))])])] 2000 [0,1,2,3] [0,3,5,10,11] r (by kernel_rfl) (U (aA ((i:Nat):Int)) (U aZ (U cd (U c7 (U e7 (U h9 (U (aA ((i:Nat):Int)) (U aZ (U cd (U c7 (U (aA ((k:Nat):Int)) (U (rfl:(aa:Option Addr)=aa) (U ((by first | omega | decide | (simp;done) | (simp;omega)):(k)<(ae x.body).length) (U ((by first | rfl | (simp [aW,eJ];done) | (simp [aW,ae];done) | (simp [aW,ae,eJ,iL];done) | (simp [ae];omega)):(ae x.body).length=(ae qs).length) (U (dM CZ) (U ((by first | exact wi (by omega) | exact y6 _):IntKind.u8.wrap ((((oq.toNat:Nat):Int):Int)+1)=(((oq+1).toNat:Nat):Int)) (U (aA ((k:Nat):Int)) (U (rfl:(aa:Option Addr)=aa) (U ((by first | omega | decide | (simp;done) | (simp;omega)):(k)<(ae x.body).length) (U ((by first | rfl | (simp [aW,eJ];done) | (simp [aW,ae];done) | (simp [aW,ae,eJ,iL];done) | (simp [ae];omega)):(ae x.body).length=(ae qs).length) (U (dM CZ) (U ((by first | exact wi (by omega) | exact y6 _):IntKind.i64.wrap ((((k:Nat):Int):Int)+1)=((k+1:Nat):Int)) trivial)))))))))))))))))))))) fun ac wd r=>fG (by omega) ac wd ⟨(qs.set k (oq+1)),⟨by omega,by simp;omega⟩,r.cast rfl (by rw [FV])⟩
end Go.Proofs.YtcnpikbbmbombaaGreatDoor
namespace Go.Proofs.YtcnpikbbmbombaaGreatDoor
open Go.RowKit
open Go.Deep
variable {w:World}
theorem mapM_at {α β:Type} {f:α→Option β}:∀ {l:List α} {r:List β},l.mapM f=some r→∀ (j:Nat) x,l[j]?=some x→∃ y,r[j]?=some y∧f x=some y
 | [],_,_,j,x,hx=>by simp at hx
 | z::l,r,h,j,x,hx=>by
  rw [List.mapM_cons] at h
  obtain ⟨y,h1,h2⟩:=Option.bind_eq_some_iff.1 h
  obtain ⟨ys,h3,h4⟩:=Option.bind_eq_some_iff.1 h2
  obtain rfl:y::ys=r:=Option.some.inj h4
  cases j with
  | zero=>simp at hx;subst hx;exact ⟨y,rfl,h1⟩
  | succ j=>simp at hx;obtain ⟨y',h5,h6⟩:=mapM_at h3 j x hx;exact ⟨y',by simpa using h5,h6⟩
section
variable {P:Program} {t e:TypeId} {cs:List Value} {cap:Nat}
end
instance:Inhabited aM:=⟨⟨0,0,0,0,0,0,[]⟩⟩
end Go.Proofs.YtcnpikbbmbombaaGreatDoor
namespace Go.Proofs.YtcnpikbbmbombaaGreatDoor
open Go.RowKit
def mC (F:TypeId→DataW Unit→Option (List Value)) (P:Program) (rQ:Nat):List (TypeId×Nat)→List (DataW Unit)→Nat→Option (List Value)
 | [],[],off=>if off=rQ then some [] else none
 | q::L,d::ds,off=>if q.2=off then (F q.1 d).bind fun X=>(mC F P rQ L ds (off+P.cellsOf q.1)).map fun Y=>X++Y else none
 | _,_,_=>none
def mD (P:Program):Nat→TypeId→DataW Unit→Option (List Value)
 | 0,_,_=>none
 | _+1,t,.lit l=>match P.underlying t,l with
  | some .bool,.bool b=>some [.bool b]
  | some (.int _),.int k m=>some [.int k m]
  | some .string,.string s=>some [.string ⟨s.toArray⟩]
  | _,_=>none
 | n+1,t,.agg ps=>match P.underlying t with
  | some (.struct fs)=>mC (mD P n) P (P.cellsOf t) (fs.toList.map fun f=>(f.type,f.offset)) ps 0
  | some (.array m e)=>mC (mD P n) P (P.cellsOf t) ((List.range m).map fun i=>(e,i*P.cellsOf e)) ps 0
  | _=>none
 | _+1,_,_=>none
theorem u5 {F:TypeId→DataW Unit→Option (List Value)} {P:Program} {rQ:Nat} {cs:List Value} (hl:cs.length=rQ):∀ {L:List (TypeId×Nat)} {ds:List (DataW Unit)} {off:Nat} {X:List Value},(∀ (j:Nat) q d,L[j]?=some q→ds[j]?=some d→∀ X,F q.1 d=some X→(cs.drop q.2).take (P.cellsOf q.1)=X)→mC F P rQ L ds off=some X→cs.drop off=X
 | [],[],off,X,_,h=>by
  unfold mC at h
  split at h
  ·simp at h;subst h;rename_i e;exact List.drop_of_length_le (by omega)
  ·simp at h
 | q::L,d::ds,off,X,hq,h=>by
  unfold mC at h
  split at h
  ·rename_i e
   obtain ⟨X0,h0,h1⟩:=Option.bind_eq_some_iff.1 h
   obtain ⟨Y,h2,rfl⟩:=Option.map_eq_some_iff.1 h1
   have a:=hq 0 q d rfl rfl X0 h0
   have b:=u5 hl (fun j q' d' g1 g2=>hq (j+1) q' d' (by simpa using g1) (by simpa using g2)) h2
   rw [e] at a
   rw [← a,← b,← List.drop_drop,List.take_append_drop]
  ·simp at h
 | [],_::_,_,_,_,h=>by simp [mC] at h
 | _::_,[],_,_,_,h=>by simp [mC] at h
theorem HN {P:Program} {w:World} {enc:TypeId×Value→Unit} {base:Nat} {sp:Nat→Bool} {held:Bool}:∀ {n fuel:Nat} {t:TypeId} {cs:List Value} {d:DataW Unit} {p:List MemPlace} {X:List Value},DataW.trod enc P w base sp held fuel t cs=some (d,p)→mD P n t d=some X→cs=X:=by
 intro n
 induction n with
 | zero=>intro fuel t cs d p X _ h;simp [mD] at h
 | succ n ih=>
  intro fuel t cs d p X h hf
  cases fuel with
  | zero=>simp [DataW.trod] at h
  | succ fuel=>
   cases d with
   | lit l=>
    unfold mD at hf
    split at hf
    ·rename_i ht
     rw [DataW.trod_step] at h;unfold DataW.trodStep at h;simp only [ht] at h
     split at h<;>simp_all
    ·rename_i ht
     rw [DataW.trod_step] at h;unfold DataW.trodStep at h;simp only [ht] at h
     split at h<;>simp_all
    ·rename_i ht
     rw [DataW.trod_step] at h;unfold DataW.trodStep at h;simp only [ht] at h
     split at h<;>try simp_all
     rename_i s _ _ _ _
     obtain ⟨-,rfl,-⟩:=h
     subst hf
     simp
    ·simp at hf
   | agg ps=>
    unfold mD at hf
    split at hf
    ·rename_i fs ht
     rw [DataW.trod_step] at h;unfold DataW.trodStep at h;simp only [ht] at h
     split at h
     ·rename_i hlen
      obtain ⟨xs,h1,h2⟩:=Option.map_eq_some_iff.1 h
      simp only [Prod.mk.injEq,DataW.agg.injEq] at h2
      obtain ⟨rfl,-⟩:=h2
      have:=u5 hlen (fun j q d g1 g2 Y gY=>?_) hf
      ·simpa using this
      ·rw [List.getElem?_map] at g1 g2
       obtain ⟨f,g3,rfl⟩:=Option.map_eq_some_iff.1 g1
       obtain ⟨y,g4,rfl⟩:=Option.map_eq_some_iff.1 g2
       obtain ⟨y',g5,g6⟩:=mapM_at h1 j f g3
       obtain rfl:y'=y:=Option.some.inj (g5.symm.trans g4)
       exact ih (d:=y'.1) (p:=y'.2) g6 gY
     ·simp at h
    ·rename_i m e ht
     rw [DataW.trod_step] at h;unfold DataW.trodStep at h;simp only [ht] at h
     split at h
     ·rename_i hlen
      obtain ⟨xs,h1,h2⟩:=Option.map_eq_some_iff.1 h
      simp only [Prod.mk.injEq,DataW.agg.injEq] at h2
      obtain ⟨rfl,-⟩:=h2
      have:=u5 hlen (fun j q d g1 g2 Y gY=>?_) hf
      ·simpa using this
      ·rw [List.getElem?_map] at g1 g2
       obtain ⟨f,g3,rfl⟩:=Option.map_eq_some_iff.1 g1
       obtain ⟨y,g4,rfl⟩:=Option.map_eq_some_iff.1 g2
       obtain ⟨y',g5,g6⟩:=mapM_at h1 j f g3
       obtain rfl:y'=y:=Option.some.inj (g5.symm.trans g4)
       exact ih (d:=y'.1) (p:=y'.2) g6 gY
     ·simp at h
    ·simp at hf
   | _=>simp [mD] at hf
theorem zt {P:Program} {w:World}:∀ {l:List (String×DataW Unit)} {ps:List MemPlace},DataW.LaidVars P w l ps→∀ {n:String} {d:DataW Unit},(n,d) ∈ l→∃ g t cs fuel p,P.globalNamed n=some g∧(P.globals[g]?).map (·.type)=some t∧w.var? P n=some cs∧DataW.trod (fun _=>()) P w 0 (fun _=>true) false fuel t cs.toList=some (d,p)
 | [],_,_,_,_,hm=>by simp at hm
 | (n0,d0)::r,ps,h,n,d,hm=>by
  obtain ⟨g,t,cs,fuel,p,q,e1,e2,e3,e4,hr,rfl⟩:=h
  rcases List.mem_cons.1 hm with e | hm
  ·obtain ⟨rfl,rfl⟩:=Prod.mk.inj e;exact ⟨g,t,cs,fuel,p,e1,e2,e3,e4⟩
  ·exact zt hr hm
def yn:DV→Value
 | .v x=>x
 | _=>.bool false
def C0:DV→Bool
 | .v _=>true
 | _=>false
theorem Br {P:Program} {w:World} {laid:List (String×DataW Unit)} (h:laidMet P laid w) {n:String} {d:DataW Unit} (hm:(n,d) ∈ laid) {g t:Nat} (k:Nat) {row:List DV} (hg:P.globalNamed n=some g) (ht:(P.globals[g]?).map (·.type)=some t) (hf:mD P k t d=some (row.map yn)) (hv:row.all C0=true) {u:Nat}:bq (Gr w) [] u (.gw g row) []:=by
 obtain ⟨ps,hl,-⟩:=h
 obtain ⟨g',t',cs,fuel,p,e1,e2,e3,e4⟩:=zt hl hm
 obtain rfl:g=g':=Option.some.inj (hg.symm.trans e1)
 obtain rfl:t=t':=Option.some.inj (ht.symm.trans e2)
 have hX:=HN e4 hf
 refine .gw (row.map yn) (by simp) (fun w' hw j x hx=>hw.sT ?_) fun j c x hc hx=>?_
 ·unfold World.var? at e3
  rw [hg,Option.bind_some] at e3
  split at e3
  ·rename_i bX t' fr hh
   obtain rfl:=Option.some.inj e3
   rw [← hX] at hx
   have h0:((⟨g,0,none⟩:Addr).add j)=⟨g,j,none⟩:=by simp [Addr.add];omega
   rw [h0]
   simp only [World.cell?,hh]
   simpa using hx
  ·simp at e3
 ·have hb:=List.all_eq_true.1 hv c (List.mem_of_getElem? hc)
  rw [List.getElem?_map,hc] at hx
  cases c<;>simp [C0] at hb
  simp [yn] at hx
  subst hx
  exact .v _
section
variable {w:World} {laid:List (String×DataW Unit)}
theorem Mc:Tryz.prog.globalNamed "caucus/script.shapes"=some 0:=by kernel_rfl
theorem Md:Tryz.prog.globalNamed "internal/strconv.uint64pow10"=some 1:=by kernel_rfl
end
end Go.Proofs.YtcnpikbbmbombaaGreatDoor
namespace Go.Proofs.YtcnpikbbmbombaaGreatDoor
open Go.ChangeShapes Go.WideShapes Go.ChangeAt Go.RowKit
theorem Tryz.laidOut:laidOutB Tryz.prog=true:=by kernel_rfl
theorem Tryz.own:ownKnob Tryz.prog.godebug=none:=by kernel_rfl
theorem Me {w:World} {laid:List (String×DataW Unit)} (h:laidMet Tryz.prog laid w) (h0:("caucus/script.shapes",Rows.laid_caucus_script_shapes) ∈ laid) (h1:("internal/strconv.uint64pow10",Rows.laid_internal_strconv_uint64pow10) ∈ laid):s5 [.gw 0 aj,.gw 1 aN] (Gr w):=fun u blk hu=>by
 match u,hu with
 | 0,hu=>cases hu;exact Br h h0 (t:=95) 5 Mc (by kernel_rfl) (by kernel_rfl) (by kernel_rfl)
 | 1,hu=>cases hu;exact Br h h1 (t:=158) 5 Md (by kernel_rfl) (by kernel_rfl) (by kernel_rfl)
 | k+2,hu=>simp at hu
end Go.Proofs.YtcnpikbbmbombaaGreatDoor
namespace Go.Proofs.YtcnpikbbmbombaaGreatDoor
open Go.ChangeShapes Go.WideShapes Go.ChangeAt Go.RowKit
theorem Gf:Tryz.prog.funcs.any Func.goes=false:=by kernel_rfl
theorem Jp {P:Program} (h:P.funcs.any Func.goes=false) (f:FuncId):P.goes f=false:=by
 have h1:∀ (g:Nat) fn,P.funcs[g]?=some fn→fn.goes=false:=fun g fn hg=>by
  have:=Array.any_eq_false.1 h g (Array.getElem?_eq_some_iff.1 hg).1
  obtain ⟨aI,rfl⟩:=Array.getElem?_eq_some_iff.1 hg
  simpa using this
 unfold Program.goes
 rw [h,Bool.and_false,Bool.or_false,List.any_eq_false]
 intro g _
 cases hg:P.funcs[g]? with
 | none=>simp
 | some fn=>simp [h1 g fn hg]
theorem Gg {P:Program} {c:OpenClaim} (hs:c.start=.entering) (h:P.funcs.any Func.goes=false):false=c.goesBy P:=by
 unfold OpenClaim.goesBy Program.goesAt Program.goesFrom
 rw [hs]
 cases P.funcNamed c.func with
 | none=>rfl
 | some f=>simp [Jp h f]
end Go.Proofs.YtcnpikbbmbombaaGreatDoor
namespace Go.Proofs.YtcnpikbbmbombaaGreatDoor
open Go.ChangeShapes Go.WideShapes Go.ChangeAt Go.RowKit
theorem Jq {w:World}:Rd Tryz.prog w 31 (fun l:List UInt8=>[.ro 1 (ae l)]) fun l=>l.length≤9223372036854775807∧∀ b ∈ l,True:=Rd.slice (e:=5) (by kernel_rfl) (by kernel_rfl) (Rd.byte (by kernel_rfl))
theorem HO {w:World} {l:List UInt8} {v:Value} {a:Option Addr} {n c:Nat} (e:v=.slice a n c) (h:rI w [.ro 1 (ae l)] v.cells.toList):ax (Gr w) [] (.d (.ro 1 (ae l))) v:=by
 subst e
 exact .d (h.2 0 _ _ rfl rfl)
set_option maxRecDepth 100000 in
theorem DY (os:Os) (started:os.Started) (H:Type) (enc:TypeId×Value→H):
  ReturnsInHanded {} Tryz.checked os 4 .any (fun w args=>(Rows.scriptDecodesSpec.pre enc Tryz.prog Tryz.f4 [] false w args∧laidMetH Tryz.prog Rows.scriptDecodesRow.laid w)∧sizedMet enc Tryz.prog Tryz.f4 (OpenSpec.ofChange Rows.scriptDecodesSpec) false w args)
   (Rows.scriptDecodesSpec.post enc Tryz.prog Tryz.f4 false true false false):=by
 refine returnsInHanded_of_change_and (C:=Tryz.checked) (X:=fun w _=>laidMetH Tryz.prog Rows.scriptDecodesRow.laid w) (fun _ _ _ hh h=>h.of_heap hh) Tryz.own started (by kernel_rfl) Tryz.func4
  (ChangeSpec.witness_shaped (enc:=enc) (C:=Tryz.checked) (os:=os) (X:=fun w _=>laidMetH Tryz.prog Rows.scriptDecodesRow.laid w) false (World.laidAll Tryz.prog os Rows.scriptDecodesRow.laid) #[.slice none 0 0] 8 (World.laidAll_os _ _ _) (World.shaped_of_ZipB (by kernel_rfl) (by kernel_rfl)) (by kernel_rfl) (by kernel_rfl) (by kernel_rfl)
   (by rw [MakeChecks.laidMetH_plain _ _ _ (by kernel_rfl)];exact laidMet_laidAll _ (by kernel_rfl) (by kernel_rfl))) ?_
 intro W base args ds gs before Mf hW _ bE hX _
 have yZ:DataW.Whole enc Tryz.prog Tryz.f4.params.toList Rows.scriptDecodesSpec.vars false W args.toList ds gs before:=hW
 obtain ⟨p,q,OC,hV,rfl,N0,gR⟩:=hW
 have hA:DataW.TrodAll enc Tryz.prog W 0 (fun _=>true) true Tryz.f4.params.toList args.toList ds p:=OC
 have mE:∀ (j:Nat) t v,Tryz.f4.params[j]?=some t→args[j]?=some v→Value.okWide Tryz.prog W .any base t v:=Mf
 rw [Tryz.params4] at hA mE
 obtain ⟨v0,PI,d0,PJ,p0,q0,OD,rfl,rfl,h0,r0⟩:=trodAll_cons hA
 obtain ⟨rfl,rfl,rfl⟩:=trodAll_nil r0
 obtain rfl:args=#[v0]:=by cases args;simp_all
 obtain ⟨rfl,rfl⟩:=trodVars_none hV
 have PK:=reachBytes_lt
 obtain ⟨a0,n0,c0,ao⟩:=okWide_slice (P:=Tryz.prog) (e:=5) (by kernel_rfl) (mE 0 31 v0 rfl rfl)
 obtain ⟨l,⟨hl,-⟩,hs⟩:=Jq _ (TR.of h0)
 refine (aq.JQ (Ge l hl) (Me ((MakeChecks.laidMetH_plain _ _ _ (by kernel_rfl)).mp hX) (by simp [Rows.scriptDecodesRow]) (by simp [Rows.scriptDecodesRow])) (ys:=[_]) rfl fun j x y e1 e2=>?_).mono fun e W' ⟨he,hg⟩=>?_
 ·match j,e1,e2 with
  | 0,e1,e2=>cases e1;cases e2;exact HO ao hs
  | k+1,e1,e2=>simp at e1
 ·subst he
  exact ⟨_,rfl,Hc Tryz.laidOut (by kernel_rfl) (by kernel_rfl) Tryz.underlying4 rfl yZ rfl hg⟩
theorem DZ:joinedFacts Tryz.pinned.checked.prog 4 Tryz.f4 Rows.scriptDecodesSpec Rows.scriptDecodesRow=true:=by kernel_rfl
theorem D0:Rows.ScriptDecodesSaid:=
 OpenClaim.holds_of_wide 4 Tryz.f4 rfl rfl rfl rfl rfl rfl rfl ⟨rfl,rfl,rfl,rfl,rfl⟩ rfl rfl rfl rfl rfl (by kernel_rfl) Tryz.func4 DZ
  (of_decide_eq_true (by kernel_rfl)) (by unfold Func.isWrapper;first | (rw [if_pos (by decide +kernel)];kernel_rfl) | (rw [if_neg (by decide +kernel)];exact ⟨rfl,rfl⟩))
  (fun os started H enc _=>DY os started H enc)
theorem D2:Tryz.pinned.checked.prog.wantsStandIn 31=false:=by kernel_rfl
theorem scriptDecodes_card:Rows.ScriptDecodesCardSaid:=
 Claim7.holds_tied_plain_at .later [] [.data,.data,.data,.data,.data,.pinned] true (true, "87fd9ac5dc35926ba142226b58e4c3bd046d15fb1e4227dfba02688f131c99bf") false D0 (fun _ h=>by cases h) (by kernel_rfl) (fun _ h=>by cases h) scriptDecodes_row_tie rfl ⟨rfl,rfl⟩ (by kernel_rfl) rfl
  (fun f fn hf nb=>by
   obtain rfl:f=4:=Option.some.inj ((show Tryz.prog.funcNamed "caucus/caucuslaw27.ScriptDecodes"=some 4 by kernel_rfl).symm.trans hf) |>.symm
   obtain rfl:fn=Tryz.f4:=(Option.some.inj (Tryz.func4.symm.trans nb)).symm
   exact ⟨by kernel_rfl,fun j t ht=>by
    rw [Tryz.params4] at ht
    match j,ht with
    | 0,ht=>
     obtain rfl:t=31:=by simpa using ht.symm
     exact D2
    | k+1,ht=>simp at ht⟩)
  (Gg rfl Gf)
end Go.Proofs.YtcnpikbbmbombaaGreatDoor
