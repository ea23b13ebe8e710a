/-
  scriptBack_card, part 5 of 6: merged by program from the texts that it needs.
-/
import Derived.Test.YtcnpikbbmbombaaDoorSbD
set_option linter.unusedSimpArgs false
set_option linter.unusedVariables false
set_option linter.unnecessarySimpa false
namespace Go.Proofs.YtcnpikbbmbombaaDoor
open Go.RowKit
set_option maxRecDepth 100000 in
theorem Km (l:List UInt8) (b:Bool) (z:Int) (hb:l.length<2147483648):aA Tryd.prog 49 [.pt 0 0,.z z] [.bx 102 [.d (.ro 1 (af l)),.d (.v (.bool b))]] (.d (.ro 1 (af (aK l b z)))) (ig (dZ l b z) (ej l b z)):=by
 refine aA.intro (by kernel_rfl) rfl rfl 13 rfl rfl fun D w0 K bs ac wd hK (al:bs.m=1) r=>?_
 refine a8 (y:=.d (.ro 1 (af (aK l b z)))) (N':=[.bx 102 [.d (.ro 1 (af (dZ l b z))),.d (.v (.bool ((ej l b z))))]]) (rfl) (rfl) ?_
 exact a7 tk mo hK rfl al [(3,[(4,.mem [0] (.d (.ro 1 (af (aK l b z)))) [.bx 102 [.d (.ro 1 (af (dZ l b z))),.d (.v (.bool ((ej l b z))))]]),(5,.aO (.ro 1 (af (aK l b z))))])] 2000 [0] r (by kernel_rfl) (U (nh:cY Tryd.prog 65) (U (ve l b z) (U (zI (aK l b z) (by unfold aK;split;simp;simp;omega)) trivial)))
abbrev dA:=List UInt8×Bool
def pF (r:dA):List aj:=ig r.1 r.2
def aY (z:Int) (r:dA):dA:=(dZ r.1 r.2 z,ej r.1 r.2 z)
def v8 (r:dA):Nat:=((aK r.1 r.2 1).getD 0 0).toNat
def ij (r:dA):Nat:=((aK r.1 r.2 2).getD 0 0).toNat+((aK r.1 r.2 2).getD 1 0).toNat*256
def vU (r:dA):Nat:=(mR r.1 r.2).toNat
def rU (r:dA):dA:=(nX r.1 r.2,pD r.1 r.2)
theorem LD (r:dA):v8 r<256:=UInt8.toNat_lt _
theorem Kn (r:dA):ij r<65536:=by
 have h1:=((aK r.1 r.2 2).getD 0 0).toNat_lt
 have h2:=((aK r.1 r.2 2).getD 1 0).toNat_lt
 unfold ij;omega
theorem ru (r:dA):IntKind.i64.wrap ((v8 r:Nat):Int)=((v8 r:Nat):Int):=wi (by have:=LD r;omega)
theorem MZ (r:dA):IntKind.i64.wrap ((ij r:Nat):Int)=((ij r:Nat):Int):=wi (by have:=Kn r;omega)
theorem pG (r:dA):aA Tryd.prog 46 [.pt 0 0] (pF r) (.d (.v (.int .u8 ((v8 r:Nat):Int)))) (pF (aY 1 r)):=DA r.1 r.2
theorem M0 (r:dA):aA Tryd.prog 47 [.pt 0 0] (pF r) (.d (.v (.int .u16 ((ij r:Nat):Int)))) (pF (aY 2 r)):=MR r.1 r.2
theorem Cg (z:Int):0≤IntKind.u64.wrap z:=by simp [IntKind.wrap,IntKind.signed,IntKind.bits];omega
theorem Aw:∀ (l:List UInt8) (i:Nat) (x:Int),0≤x→0≤(fh l i x).1
 | [],_,_,_=>Int.le_refl _
 | c::r,i,x,h=>by
  unfold fh
  split
  ·exact Int.le_refl _
  ·split
   ·split
    ·exact Int.le_refl _
    ·exact Cg _
   ·exact Aw r (i+1) _ (Cg _)
theorem Je (l:List UInt8) (b:Bool):0≤mR l b:=by
 unfold mR ek;split
 ·exact Int.le_refl _
 ·split
  ·exact Int.le_refl _
  ·exact Aw _ _ _ (Int.le_refl _)
theorem LF (r:dA):aA Tryd.prog 48 [.pt 0 0] (pF r) (.d (.v (.int .u64 ((vU r:Nat):Int)))) (pF (rU r)):=by
 have h:=IW r.1 r.2
 rw [show mR r.1 r.2=((vU r:Nat):Int) by have:=Je r.1 r.2;unfold vU;omega] at h;exact h
def gK (l:List UInt8):Nat:=v8 (l,false)
def bX (l:List UInt8):dA:=aY 1 (l,false)
def da (l:List UInt8):dA:=cond (ae (gK l)).node (aY 1 (bX l)) (bX l)
def db (l:List UInt8):dA:=cond (ae (gK l)).peer (aY 1 (da l)) (da l)
def dc (l:List UInt8):dA:=cond (ae (gK l)).n (aY 1 (db l)) (db l)
def dB (l:List UInt8):dA:=cond (ae (gK l)).bit (aY 2 (dc l)) (dc l)
def bd (l:List UInt8):dA:=cond (ae (gK l)).inc (rU (dB l)) (dB l)
def cW (l:List UInt8):dA:=cond (ae (gK l)).body (aY (v8 (bd l)) (aY 1 (bd l))) (bd l)
def cT (l:List UInt8):Nat:=cond (ae (gK l)).node (v8 (bX l)) 0
def dn (l:List UInt8):Nat:=cond (ae (gK l)).peer (v8 (da l)) 0
def ea (l:List UInt8):Nat:=cond (ae (gK l)).n (v8 (db l)) 0
def fo (l:List UInt8):Nat:=cond (ae (gK l)).bit (ij (dc l)) 0
def ik (l:List UInt8):Nat:=cond (ae (gK l)).inc (vU (dB l)) 0
def im (l:List UInt8):List UInt8:=cond (ae (gK l)).body (aK (aY 1 (bd l)).1 (aY 1 (bd l)).2 (v8 (bd l))) []
def tp (l:List UInt8):az:=⟨gK l,cT l,dn l,ea l,fo l,ik l,im l⟩
def gZ:az:=⟨0,0,0,0,0,0,[]⟩
def bf (l:List UInt8):az×Nat:=if 14≤gK l then (gZ,1) else cond (cW l).2 (gZ,1) (tp l,l.length-(cW l).1.length)
theorem Bd {l:List UInt8} (h:14≤gK l):bf l=(gZ,1):=by unfold bf;rw [if_pos h]
theorem Be {l:List UInt8} (h:gK l<14) (e:(cW l).2=true):bf l=(gZ,1):=by unfold bf;rw [if_neg (by omega),e];rfl
theorem vg {l:List UInt8} (h:gK l<14) (e:(cW l).2=false):bf l=(tp l,l.length-(cW l).1.length):=by unfold bf;rw [if_neg (by omega),e];rfl
theorem en {b c:Bool} {α:Type} {x y z:α} (h:b=c) (e:cond c x y=z):cond b x y=z:=h▸e
theorem gP (z:Int) (r:dA):(aY z r).1.length≤r.1.length:=BB
theorem Ch (r:dA):(rU r).1.length≤r.1.length:=Ke
theorem jt {b:Bool} {r s:dA} {n:Nat} (h:r.1.length≤n) (k:s.1.length≤n):(cond b r s).1.length≤n:=by cases b;exact k;exact h
theorem BH (l:List UInt8):(bX l).1.length≤l.length:=gP 1 (l,false)
theorem BI (l:List UInt8):(da l).1.length≤l.length:=jt (Nat.le_trans (gP _ _) (BH l)) (BH l)
theorem BJ (l:List UInt8):(db l).1.length≤l.length:=jt (Nat.le_trans (gP _ _) (BI l)) (BI l)
theorem BK (l:List UInt8):(dc l).1.length≤l.length:=jt (Nat.le_trans (gP _ _) (BJ l)) (BJ l)
theorem BL (l:List UInt8):(dB l).1.length≤l.length:=jt (Nat.le_trans (gP _ _) (BK l)) (BK l)
theorem sB (l:List UInt8):(bd l).1.length≤l.length:=jt (Nat.le_trans (Ch _) (BL l)) (BL l)
theorem Ko (l:List UInt8):(cW l).1.length≤l.length:=jt (Nat.le_trans (gP _ _) (Nat.le_trans (gP _ _) (sB l))) (sB l)
def gX (q:az×Nat):AV:=.tu [.ag [.z q.1.kind,.z q.1.node,.z q.1.peer,.z q.1.n,.z q.1.bit,.u q.1.inc,.sl 1 (af q.1.body).length],.n q.2]
def n5 (q:az×Nat):List aj:=[.gw 0 ai,.rw 5 1 (af q.1.body)]
theorem LG {l:List UInt8} (h:(ae (gK l)).node=true):da l=aY 1 (bX l):=en h rfl
theorem LH {l:List UInt8} (h:(ae (gK l)).node=true):cT l=v8 (bX l):=en h rfl
theorem LI {l:List UInt8} (h:(ae (gK l)).node=false):da l=bX l:=en h rfl
theorem LJ {l:List UInt8} (h:(ae (gK l)).node=false):cT l=0:=en h rfl
theorem LK {l:List UInt8} (h:(ae (gK l)).peer=true):db l=aY 1 (da l):=en h rfl
theorem LL {l:List UInt8} (h:(ae (gK l)).peer=true):dn l=v8 (da l):=en h rfl
theorem LM {l:List UInt8} (h:(ae (gK l)).peer=false):db l=da l:=en h rfl
theorem LN {l:List UInt8} (h:(ae (gK l)).peer=false):dn l=0:=en h rfl
theorem LO {l:List UInt8} (h:(ae (gK l)).n=true):dc l=aY 1 (db l):=en h rfl
theorem LP {l:List UInt8} (h:(ae (gK l)).n=true):ea l=v8 (db l):=en h rfl
theorem LQ {l:List UInt8} (h:(ae (gK l)).n=false):dc l=db l:=en h rfl
theorem LR {l:List UInt8} (h:(ae (gK l)).n=false):ea l=0:=en h rfl
theorem LU {l:List UInt8} (h:(ae (gK l)).bit=true):dB l=aY 2 (dc l):=en h rfl
theorem LV {l:List UInt8} (h:(ae (gK l)).bit=true):fo l=ij (dc l):=en h rfl
theorem LW {l:List UInt8} (h:(ae (gK l)).bit=false):dB l=dc l:=en h rfl
theorem LX {l:List UInt8} (h:(ae (gK l)).bit=false):fo l=0:=en h rfl
theorem LY {l:List UInt8} (h:(ae (gK l)).inc=true):bd l=rU (dB l):=en h rfl
theorem LZ {l:List UInt8} (h:(ae (gK l)).inc=true):ik l=vU (dB l):=en h rfl
theorem L0 {l:List UInt8} (h:(ae (gK l)).inc=false):bd l=dB l:=en h rfl
theorem L2 {l:List UInt8} (h:(ae (gK l)).inc=false):ik l=0:=en h rfl
theorem Ci {l:List UInt8} (h:(ae (gK l)).body=true):cW l=aY (v8 (bd l)) (aY 1 (bd l)):=en h rfl
theorem L3 {l:List UInt8} (h:(ae (gK l)).body=true):im l=aK (aY 1 (bd l)).1 (aY 1 (bd l)).2 (v8 (bd l)):=en h rfl
theorem Cj {l:List UInt8} (h:(ae (gK l)).body=false):cW l=bd l:=en h rfl
theorem L4 {l:List UInt8} (h:(ae (gK l)).body=false):im l=[]:=en h rfl
theorem Ck {b:Bool} (h:¬ (if b=true then (3:Int) else 0)=0):b=true:=by cases b;exact absurd rfl h;rfl
theorem Cl {b:Bool} (h:(if b=true then (3:Int) else 0)=0):b=false:=by cases b;rfl;exact absurd h (by decide)
set_option maxRecDepth 100000 in
theorem F6 (l:List UInt8) (hl:l.length<2147483648):aA Tryd.prog 29 [.d (.ro 1 (af l))] [.gw 0 ai] (gX (bf l)) (n5 (bf l)):=by
 refine aA.intro (by kernel_rfl) rfl rfl 69 rfl rfl fun D w0 K bs ac wd hK (al:bs.m=1) r=>?_
 have aZ:=((ru _):IntKind.i64.wrap (((gK l:Nat):Int))=((gK l:Nat):Int))
 cases h0:(decide ((14:Int)≤((gK l:Nat):Int))) with
 | false=>
  have bH:=of_decide_eq_false h0
  refine bT (todo':=aft Tryd.f29 6) (E':=[(0,.d (.ro 1 (af l))),(2,.pt 1 0),(3,.z 0),(4,.pt 2 0),(6,.pt 3 0),(7,.pt 4 0)]) (M':=[.gw 0 ai,.bx 45 [.z 0,.z 0,.z 0,.z 0,.z 0,.d (.v (.int .u64 0)),.d (.v (.slice none 0 0))],.bx 102 [.d (.ro 1 (af (bX l).1)),.d (.v (.bool ((bX l).2)))],.bx 84 [.d (.v (.string ⟨((ae (gK l)).word).toArray⟩)),.d (.v (.bool ((ae (gK l)).node))),.d (.v (.bool ((ae (gK l)).peer))),.d (.v (.bool ((ae (gK l)).n))),.d (.v (.bool ((ae (gK l)).bit))),.d (.v (.bool ((ae (gK l)).inc))),.d (.v (.bool ((ae (gK l)).body)))],.bx 45 [.n (gK l),.z 0,.z 0,.z 0,.z 0,.d (.v (.int .u64 0)),.d (.v (.slice none 0 0))]]) tk mo hK al [(1,[(1,.mem [] (.pt 0 0) [.bx 102 [.d (.ro 1 (af ((l,false)).1)),.d (.v (.bool (((l,false)).2)))]])]),(2,[(1,.mem [2] (.d (.v (.int .u8 (((gK l:Nat):Int))))) [.bx 102 [.d (.ro 1 (af (bX l).1)),.d (.v (.bool ((bX l).2)))]]),(2,.z (((gK l:Nat):Int)))]),(3,[(1,.b false)]),(5,[(1,.ix (gK l) [.v (.string ⟨((ae (gK l)).word).toArray⟩),.v (.bool ((ae (gK l)).node)),.v (.bool ((ae (gK l)).peer)),.v (.bool ((ae (gK l)).n)),.v (.bool ((ae (gK l)).bit)),.v (.bool ((ae (gK l)).inc)),.v (.bool ((ae (gK l)).body))])])] 15 [0,1,2,3,4] [0,2,3,4,6,7] r (by kernel_rfl) (U (ui l hl) (U (pG ((l,false))) (U aZ (U h0 (U (aP ((gK l:Nat):Int)) (U ((by omega):(gK l)<14) (U (mT (by omega):List.take 7 (List.drop ((gK l)*7) (ai:List DV))=([.v (.string ⟨((ae (gK l)).word).toArray⟩),.v (.bool ((ae (gK l)).node)),.v (.bool ((ae (gK l)).peer)),.v (.bool ((ae (gK l)).n)),.v (.bool ((ae (gK l)).bit)),.v (.bool ((ae (gK l)).inc)),.v (.bool ((ae (gK l)).body))]:List DV)) trivial))))))) fun ac wd r=>?_
  have r:=r.fE (E1:=[(0,.d (.ro 1 (af l))),(2,.pt 1 0),(3,.z 0),(4,.pt 2 0),(6,.pt 3 0),(7,.pt 4 0)]) (M1:=[.gw 0 ai,.bx 45 [.z 0,.z 0,.z 0,.z 0,.z 0,.d (.v (.int .u64 0)),.d (.v (.slice none 0 0))],.bx 102 [.d (.ro 1 (af (bX l).1)),.d (.v (.bool ((bX l).2)))],.bx 84 [.d (.v (.string ⟨((ae (gK l)).word).toArray⟩)),.d (.v (.bool ((ae (gK l)).node))),.d (.v (.bool ((ae (gK l)).peer))),.d (.v (.bool ((ae (gK l)).n))),.d (.v (.bool ((ae (gK l)).bit))),.d (.v (.bool ((ae (gK l)).inc))),.d (.v (.bool ((ae (gK l)).body)))],.bx 45 [.n (gK l),.z 0,.z 0,.z 0,.z 0,.d (.v (.int .u64 0)),.d (.v (.slice none 0 0))]]) (M2:=[.gw 0 ai,.bx 45 [.z 0,.z 0,.z 0,.z 0,.z 0,.d (.v (.int .u64 0)),.d (.v (.slice none 0 0))],.bx 102 [.d (.ro 1 (af (bX l).1)),.d (.v (.bool ((bX l).2)))],.bx 84 [.d (.v (.string ⟨((ae (gK l)).word).toArray⟩)),.d (.v (.bool ((ae (gK l)).node))),.d (.v (.bool ((ae (gK l)).peer))),.d (.v (.bool ((ae (gK l)).n))),.d (.v (.bool ((ae (gK l)).bit))),.d (.v (.bool ((ae (gK l)).inc))),.d (.v (.bool ((ae (gK l)).body)))],.bx 45 [.n (gK l),.z 0,.z 0,.z 0,.z 0,.d (.v (.int .u64 0)),.sl 5 (0)],.rw 5 1 ([])]) [] [(4,6,5,1)] (by kernel_rfl) (by kernel_rfl)
  refine bT (todo':=aft Tryd.f29 7) (E':=[(0,.d (.ro 1 (af l))),(2,.pt 1 0),(3,.z 0),(4,.pt 2 0),(6,.pt 3 0),(7,.pt 4 0),(22,.d (.v (.bool ((ae (gK l)).node))))]) (M':=[.gw 0 ai,.bx 45 [.z 0,.z 0,.z 0,.z 0,.z 0,.d (.v (.int .u64 0)),.d (.v (.slice none 0 0))],.bx 102 [.d (.ro 1 (af (bX l).1)),.d (.v (.bool ((bX l).2)))],.bx 84 [.d (.v (.string ⟨((ae (gK l)).word).toArray⟩)),.d (.v (.bool ((ae (gK l)).node))),.d (.v (.bool ((ae (gK l)).peer))),.d (.v (.bool ((ae (gK l)).n))),.d (.v (.bool ((ae (gK l)).bit))),.d (.v (.bool ((ae (gK l)).inc))),.d (.v (.bool ((ae (gK l)).body)))],.bx 45 [.n (gK l),.z 0,.z 0,.z 0,.z 0,.d (.v (.int .u64 0)),.sl 5 (0)],.rw 5 1 ([])]) tk mo hK al [] 3 [0,1,2,3,4,5] [0,2,3,4,6,7,22] r (by kernel_rfl) trivial fun ac wd r=>?_
  suffices J9:∀ ac wd,RB D w0 K 69 bs [(0,.d (.ro 1 (af l))),(2,.pt 1 0),(4,.pt 2 0),(7,.pt 4 0),(6,.pt 3 0),(28,.d (.v (.bool ((ae (gK l)).peer))))] [.gw 0 ai,.bx 45 [.z 0,.z 0,.z 0,.z 0,.z 0,.d (.v (.int .u64 0)),.d (.v (.slice none 0 0))],.bx 102 [.d (.ro 1 (af (da l).1)),.d (.v (.bool ((da l).2)))],.bx 84 [.d (.v (.string ⟨((ae (gK l)).word).toArray⟩)),.d (.v (.bool ((ae (gK l)).node))),.d (.v (.bool ((ae (gK l)).peer))),.d (.v (.bool ((ae (gK l)).n))),.d (.v (.bool ((ae (gK l)).bit))),.d (.v (.bool ((ae (gK l)).inc))),.d (.v (.bool ((ae (gK l)).body)))],.bx 45 [.n (gK l),.n (cT l),.z 0,.z 0,.z 0,.d (.v (.int .u64 0)),.sl 5 (0)],.rw 5 1 ([])] ac wd→aD Tryd.prog 29 (aft Tryd.f29 9) (eI D w0 K bs (gX (bf l)) (n5 (bf l))) ac wd by
   cases h1:((ae (gK l)).node) with
   | false=>
    have r:=r.cast (E':=[(0,.d (.ro 1 (af l))),(2,.pt 1 0),(3,.z 0),(4,.pt 2 0),(6,.pt 3 0),(7,.pt 4 0),(22,.d (.v (.bool false)))]) (M':=[.gw 0 ai,.bx 45 [.z 0,.z 0,.z 0,.z 0,.z 0,.d (.v (.int .u64 0)),.d (.v (.slice none 0 0))],.bx 102 [.d (.ro 1 (af (bX l).1)),.d (.v (.bool ((bX l).2)))],.bx 84 [.d (.v (.string ⟨((ae (gK l)).word).toArray⟩)),.d (.v (.bool false)),.d (.v (.bool ((ae (gK l)).peer))),.d (.v (.bool ((ae (gK l)).n))),.d (.v (.bool ((ae (gK l)).bit))),.d (.v (.bool ((ae (gK l)).inc))),.d (.v (.bool ((ae (gK l)).body)))],.bx 45 [.n (gK l),.z 0,.z 0,.z 0,.z 0,.d (.v (.int .u64 0)),.sl 5 (0)],.rw 5 1 ([])]) (by rw [h1]) (by rw [h1])
    refine bT (todo':=aft Tryd.f29 9) (E':=[(0,.d (.ro 1 (af l))),(2,.pt 1 0),(4,.pt 2 0),(7,.pt 4 0),(6,.pt 3 0),(28,.d (.v (.bool ((ae (gK l)).peer))))]) (M':=[.gw 0 ai,.bx 45 [.z 0,.z 0,.z 0,.z 0,.z 0,.d (.v (.int .u64 0)),.d (.v (.slice none 0 0))],.bx 102 [.d (.ro 1 (af (bX l).1)),.d (.v (.bool ((bX l).2)))],.bx 84 [.d (.v (.string ⟨((ae (gK l)).word).toArray⟩)),.d (.v (.bool false)),.d (.v (.bool ((ae (gK l)).peer))),.d (.v (.bool ((ae (gK l)).n))),.d (.v (.bool ((ae (gK l)).bit))),.d (.v (.bool ((ae (gK l)).inc))),.d (.v (.bool ((ae (gK l)).body)))],.bx 45 [.n (gK l),.z 0,.z 0,.z 0,.z 0,.d (.v (.int .u64 0)),.sl 5 (0)],.rw 5 1 ([])]) tk mo hK al [] 5 [0,1,2,3,4,5] [0,2,4,7,6,28] r (by kernel_rfl) trivial fun ac wd r=>?_
    exact J9 ac wd (r.cast rfl (by rw [LI h1,LJ h1,h1]<;>rfl))
   | true=>
    have r:=r.cast (E':=[(0,.d (.ro 1 (af l))),(2,.pt 1 0),(3,.z 0),(4,.pt 2 0),(6,.pt 3 0),(7,.pt 4 0),(22,.d (.v (.bool true)))]) (M':=[.gw 0 ai,.bx 45 [.z 0,.z 0,.z 0,.z 0,.z 0,.d (.v (.int .u64 0)),.d (.v (.slice none 0 0))],.bx 102 [.d (.ro 1 (af (bX l).1)),.d (.v (.bool ((bX l).2)))],.bx 84 [.d (.v (.string ⟨((ae (gK l)).word).toArray⟩)),.d (.v (.bool true)),.d (.v (.bool ((ae (gK l)).peer))),.d (.v (.bool ((ae (gK l)).n))),.d (.v (.bool ((ae (gK l)).bit))),.d (.v (.bool ((ae (gK l)).inc))),.d (.v (.bool ((ae (gK l)).body)))],.bx 45 [.n (gK l),.z 0,.z 0,.z 0,.z 0,.d (.v (.int .u64 0)),.sl 5 (0)],.rw 5 1 ([])]) (by rw [h1]) (by rw [h1])
    refine bT (todo':=aft Tryd.f29 9) (E':=[(0,.d (.ro 1 (af l))),(2,.pt 1 0),(4,.pt 2 0),(7,.pt 4 0),(6,.pt 3 0),(28,.d (.v (.bool ((ae (gK l)).peer))))]) (M':=[.gw 0 ai,.bx 45 [.z 0,.z 0,.z 0,.z 0,.z 0,.d (.v (.int .u64 0)),.d (.v (.slice none 0 0))],.bx 102 [.d (.ro 1 (af (aY 1 (bX l)).1)),.d (.v (.bool ((aY 1 (bX l)).2)))],.bx 84 [.d (.v (.string ⟨((ae (gK l)).word).toArray⟩)),.d (.v (.bool true)),.d (.v (.bool ((ae (gK l)).peer))),.d (.v (.bool ((ae (gK l)).n))),.d (.v (.bool ((ae (gK l)).bit))),.d (.v (.bool ((ae (gK l)).inc))),.d (.v (.bool ((ae (gK l)).body)))],.bx 45 [.n (gK l),.n (v8 (bX l)),.z 0,.z 0,.z 0,.d (.v (.int .u64 0)),.sl 5 (0)],.rw 5 1 ([])]) tk mo hK al [(8,[(1,.mem [2] (.d (.v (.int .u8 (((v8 (bX l):Nat):Int))))) [.bx 102 [.d (.ro 1 (af (aY 1 (bX l)).1)),.d (.v (.bool ((aY 1 (bX l)).2)))]]),(2,.z (((v8 (bX l):Nat):Int)))])] 5 [0,1,2,3,4,5] [0,2,4,7,6,28] r (by kernel_rfl) (U (pG (bX l)) (U ((ru _):IntKind.i64.wrap (((v8 (bX l):Nat):Int))=((v8 (bX l):Nat):Int)) trivial)) fun ac wd r=>?_
    exact J9 ac wd (r.cast rfl (by rw [LG h1,LH h1,h1]<;>rfl))
  intro ac wd r
  suffices rq:∀ ac wd,RB D w0 K 69 bs [(0,.d (.ro 1 (af l))),(2,.pt 1 0),(4,.pt 2 0),(7,.pt 4 0),(6,.pt 3 0),(34,.d (.v (.bool ((ae (gK l)).n))))] [.gw 0 ai,.bx 45 [.z 0,.z 0,.z 0,.z 0,.z 0,.d (.v (.int .u64 0)),.d (.v (.slice none 0 0))],.bx 102 [.d (.ro 1 (af (db l).1)),.d (.v (.bool ((db l).2)))],.bx 84 [.d (.v (.string ⟨((ae (gK l)).word).toArray⟩)),.d (.v (.bool ((ae (gK l)).node))),.d (.v (.bool ((ae (gK l)).peer))),.d (.v (.bool ((ae (gK l)).n))),.d (.v (.bool ((ae (gK l)).bit))),.d (.v (.bool ((ae (gK l)).inc))),.d (.v (.bool ((ae (gK l)).body)))],.bx 45 [.n (gK l),.n (cT l),.n (dn l),.z 0,.z 0,.d (.v (.int .u64 0)),.sl 5 (0)],.rw 5 1 ([])] ac wd→aD Tryd.prog 29 (aft Tryd.f29 11) (eI D w0 K bs (gX (bf l)) (n5 (bf l))) ac wd by
   cases h2:((ae (gK l)).peer) with
   | false=>
    have r:=r.cast (E':=[(0,.d (.ro 1 (af l))),(2,.pt 1 0),(4,.pt 2 0),(7,.pt 4 0),(6,.pt 3 0),(28,.d (.v (.bool false)))]) (M':=[.gw 0 ai,.bx 45 [.z 0,.z 0,.z 0,.z 0,.z 0,.d (.v (.int .u64 0)),.d (.v (.slice none 0 0))],.bx 102 [.d (.ro 1 (af (da l).1)),.d (.v (.bool ((da l).2)))],.bx 84 [.d (.v (.string ⟨((ae (gK l)).word).toArray⟩)),.d (.v (.bool ((ae (gK l)).node))),.d (.v (.bool false)),.d (.v (.bool ((ae (gK l)).n))),.d (.v (.bool ((ae (gK l)).bit))),.d (.v (.bool ((ae (gK l)).inc))),.d (.v (.bool ((ae (gK l)).body)))],.bx 45 [.n (gK l),.n (cT l),.z 0,.z 0,.z 0,.d (.v (.int .u64 0)),.sl 5 (0)],.rw 5 1 ([])]) (by rw [h2]) (by rw [h2])
    refine bT (todo':=aft Tryd.f29 11) (E':=[(0,.d (.ro 1 (af l))),(2,.pt 1 0),(4,.pt 2 0),(7,.pt 4 0),(6,.pt 3 0),(34,.d (.v (.bool ((ae (gK l)).n))))]) (M':=[.gw 0 ai,.bx 45 [.z 0,.z 0,.z 0,.z 0,.z 0,.d (.v (.int .u64 0)),.d (.v (.slice none 0 0))],.bx 102 [.d (.ro 1 (af (da l).1)),.d (.v (.bool ((da l).2)))],.bx 84 [.d (.v (.string ⟨((ae (gK l)).word).toArray⟩)),.d (.v (.bool ((ae (gK l)).node))),.d (.v (.bool false)),.d (.v (.bool ((ae (gK l)).n))),.d (.v (.bool ((ae (gK l)).bit))),.d (.v (.bool ((ae (gK l)).inc))),.d (.v (.bool ((ae (gK l)).body)))],.bx 45 [.n (gK l),.n (cT l),.z 0,.z 0,.z 0,.d (.v (.int .u64 0)),.sl 5 (0)],.rw 5 1 ([])]) tk mo hK al [] 5 [0,1,2,3,4,5] [0,2,4,7,6,34] r (by kernel_rfl) trivial fun ac wd r=>?_
    exact rq ac wd (r.cast rfl (by rw [LM h2,LN h2,h2]<;>rfl))
   | true=>
    have r:=r.cast (E':=[(0,.d (.ro 1 (af l))),(2,.pt 1 0),(4,.pt 2 0),(7,.pt 4 0),(6,.pt 3 0),(28,.d (.v (.bool true)))]) (M':=[.gw 0 ai,.bx 45 [.z 0,.z 0,.z 0,.z 0,.z 0,.d (.v (.int .u64 0)),.d (.v (.slice none 0 0))],.bx 102 [.d (.ro 1 (af (da l).1)),.d (.v (.bool ((da l).2)))],.bx 84 [.d (.v (.string ⟨((ae (gK l)).word).toArray⟩)),.d (.v (.bool ((ae (gK l)).node))),.d (.v (.bool true)),.d (.v (.bool ((ae (gK l)).n))),.d (.v (.bool ((ae (gK l)).bit))),.d (.v (.bool ((ae (gK l)).inc))),.d (.v (.bool ((ae (gK l)).body)))],.bx 45 [.n (gK l),.n (cT l),.z 0,.z 0,.z 0,.d (.v (.int .u64 0)),.sl 5 (0)],.rw 5 1 ([])]) (by rw [h2]) (by rw [h2])
    refine bT (todo':=aft Tryd.f29 11) (E':=[(0,.d (.ro 1 (af l))),(2,.pt 1 0),(4,.pt 2 0),(7,.pt 4 0),(6,.pt 3 0),(34,.d (.v (.bool ((ae (gK l)).n))))]) (M':=[.gw 0 ai,.bx 45 [.z 0,.z 0,.z 0,.z 0,.z 0,.d (.v (.int .u64 0)),.d (.v (.slice none 0 0))],.bx 102 [.d (.ro 1 (af (aY 1 (da l)).1)),.d (.v (.bool ((aY 1 (da l)).2)))],.bx 84 [.d (.v (.string ⟨((ae (gK l)).word).toArray⟩)),.d (.v (.bool ((ae (gK l)).node))),.d (.v (.bool true)),.d (.v (.bool ((ae (gK l)).n))),.d (.v (.bool ((ae (gK l)).bit))),.d (.v (.bool ((ae (gK l)).inc))),.d (.v (.bool ((ae (gK l)).body)))],.bx 45 [.n (gK l),.n (cT l),.n (v8 (da l)),.z 0,.z 0,.d (.v (.int .u64 0)),.sl 5 (0)],.rw 5 1 ([])]) tk mo hK al [(10,[(1,.mem [2] (.d (.v (.int .u8 (((v8 (da l):Nat):Int))))) [.bx 102 [.d (.ro 1 (af (aY 1 (da l)).1)),.d (.v (.bool ((aY 1 (da l)).2)))]]),(2,.z (((v8 (da l):Nat):Int)))])] 5 [0,1,2,3,4,5] [0,2,4,7,6,34] r (by kernel_rfl) (U (pG (da l)) (U ((ru _):IntKind.i64.wrap (((v8 (da l):Nat):Int))=((v8 (da l):Nat):Int)) trivial)) fun ac wd r=>?_
    exact rq ac wd (r.cast rfl (by rw [LK h2,LL h2,h2]<;>rfl))
  intro ac wd r
  suffices rr:∀ ac wd,RB D w0 K 69 bs [(0,.d (.ro 1 (af l))),(2,.pt 1 0),(4,.pt 2 0),(7,.pt 4 0),(6,.pt 3 0),(40,.d (.v (.bool ((ae (gK l)).bit))))] [.gw 0 ai,.bx 45 [.z 0,.z 0,.z 0,.z 0,.z 0,.d (.v (.int .u64 0)),.d (.v (.slice none 0 0))],.bx 102 [.d (.ro 1 (af (dc l).1)),.d (.v (.bool ((dc l).2)))],.bx 84 [.d (.v (.string ⟨((ae (gK l)).word).toArray⟩)),.d (.v (.bool ((ae (gK l)).node))),.d (.v (.bool ((ae (gK l)).peer))),.d (.v (.bool ((ae (gK l)).n))),.d (.v (.bool ((ae (gK l)).bit))),.d (.v (.bool ((ae (gK l)).inc))),.d (.v (.bool ((ae (gK l)).body)))],.bx 45 [.n (gK l),.n (cT l),.n (dn l),.n (ea l),.z 0,.d (.v (.int .u64 0)),.sl 5 (0)],.rw 5 1 ([])] ac wd→aD Tryd.prog 29 (aft Tryd.f29 13) (eI D w0 K bs (gX (bf l)) (n5 (bf l))) ac wd by
   cases h3:((ae (gK l)).n) with
   | false=>
    have r:=r.cast (E':=[(0,.d (.ro 1 (af l))),(2,.pt 1 0),(4,.pt 2 0),(7,.pt 4 0),(6,.pt 3 0),(34,.d (.v (.bool false)))]) (M':=[.gw 0 ai,.bx 45 [.z 0,.z 0,.z 0,.z 0,.z 0,.d (.v (.int .u64 0)),.d (.v (.slice none 0 0))],.bx 102 [.d (.ro 1 (af (db l).1)),.d (.v (.bool ((db l).2)))],.bx 84 [.d (.v (.string ⟨((ae (gK l)).word).toArray⟩)),.d (.v (.bool ((ae (gK l)).node))),.d (.v (.bool ((ae (gK l)).peer))),.d (.v (.bool false)),.d (.v (.bool ((ae (gK l)).bit))),.d (.v (.bool ((ae (gK l)).inc))),.d (.v (.bool ((ae (gK l)).body)))],.bx 45 [.n (gK l),.n (cT l),.n (dn l),.z 0,.z 0,.d (.v (.int .u64 0)),.sl 5 (0)],.rw 5 1 ([])]) (by rw [h3]) (by rw [h3])
    refine bT (todo':=aft Tryd.f29 13) (E':=[(0,.d (.ro 1 (af l))),(2,.pt 1 0),(4,.pt 2 0),(7,.pt 4 0),(6,.pt 3 0),(40,.d (.v (.bool ((ae (gK l)).bit))))]) (M':=[.gw 0 ai,.bx 45 [.z 0,.z 0,.z 0,.z 0,.z 0,.d (.v (.int .u64 0)),.d (.v (.slice none 0 0))],.bx 102 [.d (.ro 1 (af (db l).1)),.d (.v (.bool ((db l).2)))],.bx 84 [.d (.v (.string ⟨((ae (gK l)).word).toArray⟩)),.d (.v (.bool ((ae (gK l)).node))),.d (.v (.bool ((ae (gK l)).peer))),.d (.v (.bool false)),.d (.v (.bool ((ae (gK l)).bit))),.d (.v (.bool ((ae (gK l)).inc))),.d (.v (.bool ((ae (gK l)).body)))],.bx 45 [.n (gK l),.n (cT l),.n (dn l),.z 0,.z 0,.d (.v (.int .u64 0)),.sl 5 (0)],.rw 5 1 ([])]) tk mo hK al [] 5 [0,1,2,3,4,5] [0,2,4,7,6,40] r (by kernel_rfl) trivial fun ac wd r=>?_
    exact rr ac wd (r.cast rfl (by rw [LQ h3,LR h3,h3]<;>rfl))
   | true=>
    have r:=r.cast (E':=[(0,.d (.ro 1 (af l))),(2,.pt 1 0),(4,.pt 2 0),(7,.pt 4 0),(6,.pt 3 0),(34,.d (.v (.bool true)))]) (M':=[.gw 0 ai,.bx 45 [.z 0,.z 0,.z 0,.z 0,.z 0,.d (.v (.int .u64 0)),.d (.v (.slice none 0 0))],.bx 102 [.d (.ro 1 (af (db l).1)),.d (.v (.bool ((db l).2)))],.bx 84 [.d (.v (.string ⟨((ae (gK l)).word).toArray⟩)),.d (.v (.bool ((ae (gK l)).node))),.d (.v (.bool ((ae (gK l)).peer))),.d (.v (.bool true)),.d (.v (.bool ((ae (gK l)).bit))),.d (.v (.bool ((ae (gK l)).inc))),.d (.v (.bool ((ae (gK l)).body)))],.bx 45 [.n (gK l),.n (cT l),.n (dn l),.z 0,.z 0,.d (.v (.int .u64 0)),.sl 5 (0)],.rw 5 1 ([])]) (by rw [h3]) (by rw [h3])
    refine bT (todo':=aft Tryd.f29 13) (E':=[(0,.d (.ro 1 (af l))),(2,.pt 1 0),(4,.pt 2 0),(7,.pt 4 0),(6,.pt 3 0),(40,.d (.v (.bool ((ae (gK l)).bit))))]) (M':=[.gw 0 ai,.bx 45 [.z 0,.z 0,.z 0,.z 0,.z 0,.d (.v (.int .u64 0)),.d (.v (.slice none 0 0))],.bx 102 [.d (.ro 1 (af (aY 1 (db l)).1)),.d (.v (.bool ((aY 1 (db l)).2)))],.bx 84 [.d (.v (.string ⟨((ae (gK l)).word).toArray⟩)),.d (.v (.bool ((ae (gK l)).node))),.d (.v (.bool ((ae (gK l)).peer))),.d (.v (.bool true)),.d (.v (.bool ((ae (gK l)).bit))),.d (.v (.bool ((ae (gK l)).inc))),.d (.v (.bool ((ae (gK l)).body)))],.bx 45 [.n (gK l),.n (cT l),.n (dn l),.n (v8 (db l)),.z 0,.d (.v (.int .u64 0)),.sl 5 (0)],.rw 5 1 ([])]) tk mo hK al [(12,[(1,.mem [2] (.d (.v (.int .u8 (((v8 (db l):Nat):Int))))) [.bx 102 [.d (.ro 1 (af (aY 1 (db l)).1)),.d (.v (.bool ((aY 1 (db l)).2)))]]),(2,.z (((v8 (db l):Nat):Int)))])] 5 [0,1,2,3,4,5] [0,2,4,7,6,40] r (by kernel_rfl) (U (pG (db l)) (U ((ru _):IntKind.i64.wrap (((v8 (db l):Nat):Int))=((v8 (db l):Nat):Int)) trivial)) fun ac wd r=>?_
    exact rr ac wd (r.cast rfl (by rw [LO h3,LP h3,h3]<;>rfl))
  intro ac wd r
  suffices DE:∀ ac wd,RB D w0 K 69 bs [(0,.d (.ro 1 (af l))),(2,.pt 1 0),(4,.pt 2 0),(7,.pt 4 0),(6,.pt 3 0),(46,.d (.v (.bool ((ae (gK l)).inc))))] [.gw 0 ai,.bx 45 [.z 0,.z 0,.z 0,.z 0,.z 0,.d (.v (.int .u64 0)),.d (.v (.slice none 0 0))],.bx 102 [.d (.ro 1 (af (dB l).1)),.d (.v (.bool ((dB l).2)))],.bx 84 [.d (.v (.string ⟨((ae (gK l)).word).toArray⟩)),.d (.v (.bool ((ae (gK l)).node))),.d (.v (.bool ((ae (gK l)).peer))),.d (.v (.bool ((ae (gK l)).n))),.d (.v (.bool ((ae (gK l)).bit))),.d (.v (.bool ((ae (gK l)).inc))),.d (.v (.bool ((ae (gK l)).body)))],.bx 45 [.n (gK l),.n (cT l),.n (dn l),.n (ea l),.n (fo l),.d (.v (.int .u64 0)),.sl 5 (0)],.rw 5 1 ([])] ac wd→aD Tryd.prog 29 (aft Tryd.f29 15) (eI D w0 K bs (gX (bf l)) (n5 (bf l))) ac wd by
   cases h4:((ae (gK l)).bit) with
   | false=>
    have r:=r.cast (E':=[(0,.d (.ro 1 (af l))),(2,.pt 1 0),(4,.pt 2 0),(7,.pt 4 0),(6,.pt 3 0),(40,.d (.v (.bool false)))]) (M':=[.gw 0 ai,.bx 45 [.z 0,.z 0,.z 0,.z 0,.z 0,.d (.v (.int .u64 0)),.d (.v (.slice none 0 0))],.bx 102 [.d (.ro 1 (af (dc l).1)),.d (.v (.bool ((dc l).2)))],.bx 84 [.d (.v (.string ⟨((ae (gK l)).word).toArray⟩)),.d (.v (.bool ((ae (gK l)).node))),.d (.v (.bool ((ae (gK l)).peer))),.d (.v (.bool ((ae (gK l)).n))),.d (.v (.bool false)),.d (.v (.bool ((ae (gK l)).inc))),.d (.v (.bool ((ae (gK l)).body)))],.bx 45 [.n (gK l),.n (cT l),.n (dn l),.n (ea l),.z 0,.d (.v (.int .u64 0)),.sl 5 (0)],.rw 5 1 ([])]) (by rw [h4]) (by rw [h4])
    refine bT (todo':=aft Tryd.f29 15) (E':=[(0,.d (.ro 1 (af l))),(2,.pt 1 0),(4,.pt 2 0),(7,.pt 4 0),(6,.pt 3 0),(46,.d (.v (.bool ((ae (gK l)).inc))))]) (M':=[.gw 0 ai,.bx 45 [.z 0,.z 0,.z 0,.z 0,.z 0,.d (.v (.int .u64 0)),.d (.v (.slice none 0 0))],.bx 102 [.d (.ro 1 (af (dc l).1)),.d (.v (.bool ((dc l).2)))],.bx 84 [.d (.v (.string ⟨((ae (gK l)).word).toArray⟩)),.d (.v (.bool ((ae (gK l)).node))),.d (.v (.bool ((ae (gK l)).peer))),.d (.v (.bool ((ae (gK l)).n))),.d (.v (.bool false)),.d (.v (.bool ((ae (gK l)).inc))),.d (.v (.bool ((ae (gK l)).body)))],.bx 45 [.n (gK l),.n (cT l),.n (dn l),.n (ea l),.z 0,.d (.v (.int .u64 0)),.sl 5 (0)],.rw 5 1 ([])]) tk mo hK al [] 5 [0,1,2,3,4,5] [0,2,4,7,6,46] r (by kernel_rfl) trivial fun ac wd r=>?_
    exact DE ac wd (r.cast rfl (by rw [LW h4,LX h4,h4]<;>rfl))
   | true=>
    have r:=r.cast (E':=[(0,.d (.ro 1 (af l))),(2,.pt 1 0),(4,.pt 2 0),(7,.pt 4 0),(6,.pt 3 0),(40,.d (.v (.bool true)))]) (M':=[.gw 0 ai,.bx 45 [.z 0,.z 0,.z 0,.z 0,.z 0,.d (.v (.int .u64 0)),.d (.v (.slice none 0 0))],.bx 102 [.d (.ro 1 (af (dc l).1)),.d (.v (.bool ((dc l).2)))],.bx 84 [.d (.v (.string ⟨((ae (gK l)).word).toArray⟩)),.d (.v (.bool ((ae (gK l)).node))),.d (.v (.bool ((ae (gK l)).peer))),.d (.v (.bool ((ae (gK l)).n))),.d (.v (.bool true)),.d (.v (.bool ((ae (gK l)).inc))),.d (.v (.bool ((ae (gK l)).body)))],.bx 45 [.n (gK l),.n (cT l),.n (dn l),.n (ea l),.z 0,.d (.v (.int .u64 0)),.sl 5 (0)],.rw 5 1 ([])]) (by rw [h4]) (by rw [h4])
    refine bT (todo':=aft Tryd.f29 15) (E':=[(0,.d (.ro 1 (af l))),(2,.pt 1 0),(4,.pt 2 0),(7,.pt 4 0),(6,.pt 3 0),(46,.d (.v (.bool ((ae (gK l)).inc))))]) (M':=[.gw 0 ai,.bx 45 [.z 0,.z 0,.z 0,.z 0,.z 0,.d (.v (.int .u64 0)),.d (.v (.slice none 0 0))],.bx 102 [.d (.ro 1 (af (aY 2 (dc l)).1)),.d (.v (.bool ((aY 2 (dc l)).2)))],.bx 84 [.d (.v (.string ⟨((ae (gK l)).word).toArray⟩)),.d (.v (.bool ((ae (gK l)).node))),.d (.v (.bool ((ae (gK l)).peer))),.d (.v (.bool ((ae (gK l)).n))),.d (.v (.bool true)),.d (.v (.bool ((ae (gK l)).inc))),.d (.v (.bool ((ae (gK l)).body)))],.bx 45 [.n (gK l),.n (cT l),.n (dn l),.n (ea l),.n (ij (dc l)),.d (.v (.int .u64 0)),.sl 5 (0)],.rw 5 1 ([])]) tk mo hK al [(14,[(1,.mem [2] (.d (.v (.int .u16 (((ij (dc l):Nat):Int))))) [.bx 102 [.d (.ro 1 (af (aY 2 (dc l)).1)),.d (.v (.bool ((aY 2 (dc l)).2)))]]),(2,.z (((ij (dc l):Nat):Int)))])] 5 [0,1,2,3,4,5] [0,2,4,7,6,46] r (by kernel_rfl) (U (M0 (dc l)) (U ((MZ _):IntKind.i64.wrap (((ij (dc l):Nat):Int))=((ij (dc l):Nat):Int)) trivial)) fun ac wd r=>?_
    exact DE ac wd (r.cast rfl (by rw [LU h4,LV h4,h4]<;>rfl))
  intro ac wd r
  suffices DF:∀ ac wd,RB D w0 K 69 bs [(0,.d (.ro 1 (af l))),(2,.pt 1 0),(4,.pt 2 0),(7,.pt 4 0),(51,.d (.v (.bool ((ae (gK l)).body))))] [.gw 0 ai,.bx 45 [.z 0,.z 0,.z 0,.z 0,.z 0,.d (.v (.int .u64 0)),.d (.v (.slice none 0 0))],.bx 102 [.d (.ro 1 (af (bd l).1)),.d (.v (.bool ((bd l).2)))],.bx 84 [.d (.v (.string ⟨((ae (gK l)).word).toArray⟩)),.d (.v (.bool ((ae (gK l)).node))),.d (.v (.bool ((ae (gK l)).peer))),.d (.v (.bool ((ae (gK l)).n))),.d (.v (.bool ((ae (gK l)).bit))),.d (.v (.bool ((ae (gK l)).inc))),.d (.v (.bool ((ae (gK l)).body)))],.bx 45 [.n (gK l),.n (cT l),.n (dn l),.n (ea l),.n (fo l),.u (ik l),.sl 5 (0)],.rw 5 1 ([])] ac wd→aD Tryd.prog 29 (aft Tryd.f29 17) (eI D w0 K bs (gX (bf l)) (n5 (bf l))) ac wd by
   cases h5:((ae (gK l)).inc) with
   | false=>
    have r:=r.cast (E':=[(0,.d (.ro 1 (af l))),(2,.pt 1 0),(4,.pt 2 0),(7,.pt 4 0),(6,.pt 3 0),(46,.d (.v (.bool false)))]) (M':=[.gw 0 ai,.bx 45 [.z 0,.z 0,.z 0,.z 0,.z 0,.d (.v (.int .u64 0)),.d (.v (.slice none 0 0))],.bx 102 [.d (.ro 1 (af (dB l).1)),.d (.v (.bool ((dB l).2)))],.bx 84 [.d (.v (.string ⟨((ae (gK l)).word).toArray⟩)),.d (.v (.bool ((ae (gK l)).node))),.d (.v (.bool ((ae (gK l)).peer))),.d (.v (.bool ((ae (gK l)).n))),.d (.v (.bool ((ae (gK l)).bit))),.d (.v (.bool false)),.d (.v (.bool ((ae (gK l)).body)))],.bx 45 [.n (gK l),.n (cT l),.n (dn l),.n (ea l),.n (fo l),.d (.v (.int .u64 0)),.sl 5 (0)],.rw 5 1 ([])]) (by rw [h5]) (by rw [h5])
    refine bT (todo':=aft Tryd.f29 17) (E':=[(0,.d (.ro 1 (af l))),(2,.pt 1 0),(4,.pt 2 0),(7,.pt 4 0),(51,.d (.v (.bool ((ae (gK l)).body))))]) (M':=[.gw 0 ai,.bx 45 [.z 0,.z 0,.z 0,.z 0,.z 0,.d (.v (.int .u64 0)),.d (.v (.slice none 0 0))],.bx 102 [.d (.ro 1 (af (dB l).1)),.d (.v (.bool ((dB l).2)))],.bx 84 [.d (.v (.string ⟨((ae (gK l)).word).toArray⟩)),.d (.v (.bool ((ae (gK l)).node))),.d (.v (.bool ((ae (gK l)).peer))),.d (.v (.bool ((ae (gK l)).n))),.d (.v (.bool ((ae (gK l)).bit))),.d (.v (.bool false)),.d (.v (.bool ((ae (gK l)).body)))],.bx 45 [.n (gK l),.n (cT l),.n (dn l),.n (ea l),.n (fo l),.d (.v (.int .u64 0)),.sl 5 (0)],.rw 5 1 ([])]) tk mo hK al [] 5 [0,1,2,3,4,5] [0,2,4,7,51] r (by kernel_rfl) trivial fun ac wd r=>?_
    exact DF ac wd (r.cast rfl (by rw [L0 h5,L2 h5,h5]<;>rfl))
   | true=>
    have r:=r.cast (E':=[(0,.d (.ro 1 (af l))),(2,.pt 1 0),(4,.pt 2 0),(7,.pt 4 0),(6,.pt 3 0),(46,.d (.v (.bool true)))]) (M':=[.gw 0 ai,.bx 45 [.z 0,.z 0,.z 0,.z 0,.z 0,.d (.v (.int .u64 0)),.d (.v (.slice none 0 0))],.bx 102 [.d (.ro 1 (af (dB l).1)),.d (.v (.bool ((dB l).2)))],.bx 84 [.d (.v (.string ⟨((ae (gK l)).word).toArray⟩)),.d (.v (.bool ((ae (gK l)).node))),.d (.v (.bool ((ae (gK l)).peer))),.d (.v (.bool ((ae (gK l)).n))),.d (.v (.bool ((ae (gK l)).bit))),.d (.v (.bool true)),.d (.v (.bool ((ae (gK l)).body)))],.bx 45 [.n (gK l),.n (cT l),.n (dn l),.n (ea l),.n (fo l),.d (.v (.int .u64 0)),.sl 5 (0)],.rw 5 1 ([])]) (by rw [h5]) (by rw [h5])
    refine bT (todo':=aft Tryd.f29 17) (E':=[(0,.d (.ro 1 (af l))),(2,.pt 1 0),(4,.pt 2 0),(7,.pt 4 0),(51,.d (.v (.bool ((ae (gK l)).body))))]) (M':=[.gw 0 ai,.bx 45 [.z 0,.z 0,.z 0,.z 0,.z 0,.d (.v (.int .u64 0)),.d (.v (.slice none 0 0))],.bx 102 [.d (.ro 1 (af (rU (dB l)).1)),.d (.v (.bool ((rU (dB l)).2)))],.bx 84 [.d (.v (.string ⟨((ae (gK l)).word).toArray⟩)),.d (.v (.bool ((ae (gK l)).node))),.d (.v (.bool ((ae (gK l)).peer))),.d (.v (.bool ((ae (gK l)).n))),.d (.v (.bool ((ae (gK l)).bit))),.d (.v (.bool true)),.d (.v (.bool ((ae (gK l)).body)))],.bx 45 [.n (gK l),.n (cT l),.n (dn l),.n (ea l),.n (fo l),.u (vU (dB l)),.sl 5 (0)],.rw 5 1 ([])]) tk mo hK al [(16,[(1,.mem [2] (.u (vU (dB l))) [.bx 102 [.d (.ro 1 (af (rU (dB l)).1)),.d (.v (.bool ((rU (dB l)).2)))]])])] 5 [0,1,2,3,4,5] [0,2,4,7,51] r (by kernel_rfl) (U (LF (dB l)) trivial) fun ac wd r=>?_
    exact DF ac wd (r.cast rfl (by rw [LY h5,LZ h5,h5]<;>rfl))
  intro ac wd r
  suffices n6:∀ ac wd,RB D w0 K 69 bs [(0,.d (.ro 1 (af l))),(2,.pt 1 0),(4,.pt 2 0),(7,.pt 4 0),(61,.d (.v (.bool ((((if (cW l).2=true then 3 else 0):Int) != 0)))))] [.gw 0 ai,.bx 45 [.z 0,.z 0,.z 0,.z 0,.z 0,.d (.v (.int .u64 0)),.d (.v (.slice none 0 0))],.bx 102 [.d (.ro 1 (af (cW l).1)),.d (.v (.bool ((cW l).2)))],.bx 84 [.d (.v (.string ⟨((ae (gK l)).word).toArray⟩)),.d (.v (.bool ((ae (gK l)).node))),.d (.v (.bool ((ae (gK l)).peer))),.d (.v (.bool ((ae (gK l)).n))),.d (.v (.bool ((ae (gK l)).bit))),.d (.v (.bool ((ae (gK l)).inc))),.d (.v (.bool ((ae (gK l)).body)))],.bx 45 [.n (gK l),.n (cT l),.n (dn l),.n (ea l),.n (fo l),.u (ik l),.sl 5 ((af (im l)).length)],.rw 5 1 (af (im l))] ac wd→aD Tryd.prog 29 (aft Tryd.f29 19) (eI D w0 K bs (gX (bf l)) (n5 (bf l))) ac wd by
   cases h6:((ae (gK l)).body) with
   | false=>
    have r:=r.cast (E':=[(0,.d (.ro 1 (af l))),(2,.pt 1 0),(4,.pt 2 0),(7,.pt 4 0),(51,.d (.v (.bool false)))]) (M':=[.gw 0 ai,.bx 45 [.z 0,.z 0,.z 0,.z 0,.z 0,.d (.v (.int .u64 0)),.d (.v (.slice none 0 0))],.bx 102 [.d (.ro 1 (af (bd l).1)),.d (.v (.bool ((bd l).2)))],.bx 84 [.d (.v (.string ⟨((ae (gK l)).word).toArray⟩)),.d (.v (.bool ((ae (gK l)).node))),.d (.v (.bool ((ae (gK l)).peer))),.d (.v (.bool ((ae (gK l)).n))),.d (.v (.bool ((ae (gK l)).bit))),.d (.v (.bool ((ae (gK l)).inc))),.d (.v (.bool false))],.bx 45 [.n (gK l),.n (cT l),.n (dn l),.n (ea l),.n (fo l),.u (ik l),.sl 5 (0)],.rw 5 1 ([])]) (by rw [h6]) (by rw [h6])
    refine bT (todo':=aft Tryd.f29 19) (E':=[(0,.d (.ro 1 (af l))),(2,.pt 1 0),(4,.pt 2 0),(7,.pt 4 0),(61,.d (.v (.bool ((((if (bd l).2=true then 3 else 0):Int) != 0)))))]) (M':=[.gw 0 ai,.bx 45 [.z 0,.z 0,.z 0,.z 0,.z 0,.d (.v (.int .u64 0)),.d (.v (.slice none 0 0))],.bx 102 [.d (.ro 1 (af (bd l).1)),.d (.v (.bool ((bd l).2)))],.bx 84 [.d (.v (.string ⟨((ae (gK l)).word).toArray⟩)),.d (.v (.bool ((ae (gK l)).node))),.d (.v (.bool ((ae (gK l)).peer))),.d (.v (.bool ((ae (gK l)).n))),.d (.v (.bool ((ae (gK l)).bit))),.d (.v (.bool ((ae (gK l)).inc))),.d (.v (.bool false))],.bx 45 [.n (gK l),.n (cT l),.n (dn l),.n (ea l),.n (fo l),.u (ik l),.sl 5 (0)],.rw 5 1 ([])]) tk mo hK al [(19,[(1,.mem [2] (.z ((if (bd l).2=true then 3 else 0))) [.bx 102 [.d (.ro 1 (af (bd l).1)),.d (.v (.bool ((bd l).2)))]])])] 5 [0,1,2,3,4,5] [0,2,4,7,61] r (by kernel_rfl) (U (vX (bd l).1 (bd l).2) trivial) fun ac wd r=>?_
    exact n6 ac wd (r.cast (by rw [Cj h6]) (by rw [Cj h6,L4 h6,h6]<;>rfl))
   | true=>
    have r:=r.cast (E':=[(0,.d (.ro 1 (af l))),(2,.pt 1 0),(4,.pt 2 0),(7,.pt 4 0),(51,.d (.v (.bool true)))]) (M':=[.gw 0 ai,.bx 45 [.z 0,.z 0,.z 0,.z 0,.z 0,.d (.v (.int .u64 0)),.d (.v (.slice none 0 0))],.bx 102 [.d (.ro 1 (af (bd l).1)),.d (.v (.bool ((bd l).2)))],.bx 84 [.d (.v (.string ⟨((ae (gK l)).word).toArray⟩)),.d (.v (.bool ((ae (gK l)).node))),.d (.v (.bool ((ae (gK l)).peer))),.d (.v (.bool ((ae (gK l)).n))),.d (.v (.bool ((ae (gK l)).bit))),.d (.v (.bool ((ae (gK l)).inc))),.d (.v (.bool true))],.bx 45 [.n (gK l),.n (cT l),.n (dn l),.n (ea l),.n (fo l),.u (ik l),.sl 5 (0)],.rw 5 1 ([])]) (by rw [h6]) (by rw [h6])
    refine bT (todo':=aft Tryd.f29 19) (E':=[(0,.d (.ro 1 (af l))),(2,.pt 1 0),(4,.pt 2 0),(7,.pt 4 0),(61,.d (.v (.bool ((((if (aY ((v8 (bd l):Nat):Int) (aY 1 (bd l))).2=true then 3 else 0):Int) != 0)))))]) (M':=[.gw 0 ai,.bx 45 [.z 0,.z 0,.z 0,.z 0,.z 0,.d (.v (.int .u64 0)),.d (.v (.slice none 0 0))],.bx 102 [.d (.ro 1 (af (aY ((v8 (bd l):Nat):Int) (aY 1 (bd l))).1)),.d (.v (.bool ((aY ((v8 (bd l):Nat):Int) (aY 1 (bd l))).2)))],.bx 84 [.d (.v (.string ⟨((ae (gK l)).word).toArray⟩)),.d (.v (.bool ((ae (gK l)).node))),.d (.v (.bool ((ae (gK l)).peer))),.d (.v (.bool ((ae (gK l)).n))),.d (.v (.bool ((ae (gK l)).bit))),.d (.v (.bool ((ae (gK l)).inc))),.d (.v (.bool true))],.bx 45 [.n (gK l),.n (cT l),.n (dn l),.n (ea l),.n (fo l),.u (ik l),.sl 5 ((af (aK (aY 1 (bd l)).1 (aY 1 (bd l)).2 ((v8 (bd l):Nat):Int))).length)],.rw 5 1 (af (aK (aY 1 (bd l)).1 (aY 1 (bd l)).2 ((v8 (bd l):Nat):Int)))]) tk mo hK al [(18,[(2,.mem [2] (.d (.v (.int .u8 (((v8 (bd l):Nat):Int))))) [.bx 102 [.d (.ro 1 (af (aY 1 (bd l)).1)),.d (.v (.bool ((aY 1 (bd l)).2)))]]),(3,.z (((v8 (bd l):Nat):Int))),(4,.mem [2] (.d (.ro 1 (af (aK (aY 1 (bd l)).1 (aY 1 (bd l)).2 ((v8 (bd l):Nat):Int))))) [.bx 102 [.d (.ro 1 (af (aY ((v8 (bd l):Nat):Int) (aY 1 (bd l))).1)),.d (.v (.bool ((aY ((v8 (bd l):Nat):Int) (aY 1 (bd l))).2)))]]),(5,.aO (.em 5 1 (af (aK (aY 1 (bd l)).1 (aY 1 (bd l)).2 ((v8 (bd l):Nat):Int)))))]),(19,[(1,.mem [2] (.z ((if (aY ((v8 (bd l):Nat):Int) (aY 1 (bd l))).2=true then 3 else 0))) [.bx 102 [.d (.ro 1 (af (aY ((v8 (bd l):Nat):Int) (aY 1 (bd l))).1)),.d (.v (.bool ((aY ((v8 (bd l):Nat):Int) (aY 1 (bd l))).2)))]])])] 5 [0,1,2,3,4,6] [0,2,4,7,61] r (by kernel_rfl) (U (pG (bd l)) (U ((ru _):IntKind.i64.wrap (((v8 (bd l):Nat):Int))=((v8 (bd l):Nat):Int)) (U (Km (aY 1 (bd l)).1 (aY 1 (bd l)).2 ((v8 (bd l):Nat):Int) (by have:=gP 1 (bd l);have:=sB l;omega)) (U (tW (aK (aY 1 (bd l)).1 (aY 1 (bd l)).2 ((v8 (bd l):Nat):Int)) (by have:=gP 1 (bd l);have:=sB l;unfold aK;split<;>simp<;>omega)) (U (vX (aY ((v8 (bd l):Nat):Int) (aY 1 (bd l))).1 (aY ((v8 (bd l):Nat):Int) (aY 1 (bd l))).2) trivial))))) fun ac wd r=>?_
    exact n6 ac wd (r.cast (by rw [Ci h6]) (by rw [Ci h6,L3 h6,h6]<;>rfl))
  intro ac wd r
  cases h7:((((if (cW l).2=true then 3 else 0):Int) != 0)) with
  | false=>
   have eO:=fx h7
   have r:=r.cast (E':=[(0,.d (.ro 1 (af l))),(2,.pt 1 0),(4,.pt 2 0),(7,.pt 4 0),(61,.d (.v (.bool false)))]) (by rw [h7]) rfl
   refine a8 (y:=.tu [.ag [.n (gK l),.n (cT l),.n (dn l),.n (ea l),.n (fo l),.u (ik l),.sl 1 ((af (im l)).length)],.n (l.length-(cW l).1.length)]) (N':=[.gw 0 ai,.rw 5 1 (af (im l))]) ((by rw [vg (by omega) (Cl eO)];rfl)) ((by rw [vg (by omega) (Cl eO)];rfl)) ?_
   exact a7 tk mo hK rfl al [(21,[(2,.z (((l.length:Nat):Int))),(4,.mem [2] (.n ((cW l).1.length)) [.bx 102 [.d (.ro 1 (af (cW l).1)),.d (.v (.bool ((cW l).2)))]]),(5,.z (((l.length-(cW l).1.length:Nat):Int)))])] 2000 [0,5] r (by kernel_rfl) (U ((by first | rfl | simp [af,ah,ints,steps,strs]):(((af l).length:Nat):Int)=((l.length:Nat):Int)) (U (Ba (cW l).1 (cW l).2) (U ((wi (by have:=Ko l;simp;omega)):IntKind.i64.wrap ((((l.length:Nat):Int):Int)-(((cW l).1.length:Nat):Int))=((l.length-(cW l).1.length:Nat):Int)) trivial)))
  | true=>
   have eO:¬ _=_:=bne_iff_ne.1 h7
   have r:=r.cast (E':=[(0,.d (.ro 1 (af l))),(2,.pt 1 0),(4,.pt 2 0),(7,.pt 4 0),(61,.d (.v (.bool true)))]) (by rw [h7]) rfl
   refine bT (todo':=aft Tryd.f29 20) (E':=[(0,.d (.ro 1 (af l))),(2,.pt 1 0),(4,.pt 2 0),(7,.pt 4 0),(3,.z 1)]) (M':=[.gw 0 ai,.bx 45 [.z 0,.z 0,.z 0,.z 0,.z 0,.d (.v (.int .u64 0)),.d (.v (.slice none 0 0))],.bx 102 [.d (.ro 1 (af (cW l).1)),.d (.v (.bool ((cW l).2)))],.bx 84 [.d (.v (.string ⟨((ae (gK l)).word).toArray⟩)),.d (.v (.bool ((ae (gK l)).node))),.d (.v (.bool ((ae (gK l)).peer))),.d (.v (.bool ((ae (gK l)).n))),.d (.v (.bool ((ae (gK l)).bit))),.d (.v (.bool ((ae (gK l)).inc))),.d (.v (.bool ((ae (gK l)).body)))],.bx 45 [.n (gK l),.n (cT l),.n (dn l),.n (ea l),.n (fo l),.u (ik l),.sl 5 ((af (im l)).length)],.rw 5 1 (af (im l))]) tk mo hK al [] 3 [0,1,2,3,4,5] [0,2,4,7,3] r (by kernel_rfl) trivial fun ac wd r=>?_
   have r:=r.fE (E1:=[(0,.d (.ro 1 (af l))),(2,.pt 1 0),(4,.pt 2 0),(7,.pt 4 0),(3,.z 1)]) (M1:=[.gw 0 ai,.bx 45 [.z 0,.z 0,.z 0,.z 0,.z 0,.d (.v (.int .u64 0)),.d (.v (.slice none 0 0))],.bx 102 [.d (.ro 1 (af (cW l).1)),.d (.v (.bool ((cW l).2)))],.bx 84 [.d (.v (.string ⟨((ae (gK l)).word).toArray⟩)),.d (.v (.bool ((ae (gK l)).node))),.d (.v (.bool ((ae (gK l)).peer))),.d (.v (.bool ((ae (gK l)).n))),.d (.v (.bool ((ae (gK l)).bit))),.d (.v (.bool ((ae (gK l)).inc))),.d (.v (.bool ((ae (gK l)).body)))],.bx 45 [.n (gK l),.n (cT l),.n (dn l),.n (ea l),.n (fo l),.u (ik l),.sl 5 ((af (im l)).length)],.rw 5 1 (af (im l))]) (M2:=[.gw 0 ai,.bx 45 [.z 0,.z 0,.z 0,.z 0,.z 0,.d (.v (.int .u64 0)),.sl 6 (0)],.bx 102 [.d (.ro 1 (af (cW l).1)),.d (.v (.bool ((cW l).2)))],.bx 84 [.d (.v (.string ⟨((ae (gK l)).word).toArray⟩)),.d (.v (.bool ((ae (gK l)).node))),.d (.v (.bool ((ae (gK l)).peer))),.d (.v (.bool ((ae (gK l)).n))),.d (.v (.bool ((ae (gK l)).bit))),.d (.v (.bool ((ae (gK l)).inc))),.d (.v (.bool ((ae (gK l)).body)))],.bx 45 [.n (gK l),.n (cT l),.n (dn l),.n (ea l),.n (fo l),.u (ik l),.sl 5 ((af (im l)).length)],.rw 5 1 (af (im l)),.rw 5 1 ([])]) [] [(1,6,5,1)] (by kernel_rfl) (by kernel_rfl)
   refine a8 (y:=.tu [.ag [.z 0,.z 0,.z 0,.z 0,.z 0,.d (.v (.int .u64 0)),.sl 1 (0)],.z 1]) (N':=[.gw 0 ai,.rw 5 1 ([])]) ((by rw [Be (by omega) (Ck eO)];rfl)) ((by rw [Be (by omega) (Ck eO)];rfl)) ?_
   exact a7 tk mo hK rfl al [] 2000 [0,6] r (by kernel_rfl) trivial
 | true=>
  have bH:=of_decide_eq_true h0
  refine bT (todo':=aft Tryd.f29 4) (E':=[(0,.d (.ro 1 (af l))),(2,.pt 1 0),(3,.z 1),(4,.pt 2 0),(5,.n (gK l))]) (M':=[.gw 0 ai,.bx 45 [.z 0,.z 0,.z 0,.z 0,.z 0,.d (.v (.int .u64 0)),.d (.v (.slice none 0 0))],.bx 102 [.d (.ro 1 (af (bX l).1)),.d (.v (.bool ((bX l).2)))]]) tk mo hK al [(1,[(1,.mem [] (.pt 0 0) [.bx 102 [.d (.ro 1 (af ((l,false)).1)),.d (.v (.bool (((l,false)).2)))]])]),(2,[(1,.mem [2] (.d (.v (.int .u8 (((gK l:Nat):Int))))) [.bx 102 [.d (.ro 1 (af (bX l).1)),.d (.v (.bool ((bX l).2)))]]),(2,.z (((gK l:Nat):Int)))]),(3,[(1,.b true)])] 12 [0,1,2] [0,2,3,4,5] r (by kernel_rfl) (U (ui l hl) (U (pG ((l,false))) (U aZ (U h0 trivial)))) fun ac wd r=>?_
  have r:=r.fE (E1:=[(0,.d (.ro 1 (af l))),(2,.pt 1 0),(3,.z 1),(4,.pt 2 0),(5,.n (gK l))]) (M1:=[.gw 0 ai,.bx 45 [.z 0,.z 0,.z 0,.z 0,.z 0,.d (.v (.int .u64 0)),.d (.v (.slice none 0 0))],.bx 102 [.d (.ro 1 (af (bX l).1)),.d (.v (.bool ((bX l).2)))]]) (M2:=[.gw 0 ai,.bx 45 [.z 0,.z 0,.z 0,.z 0,.z 0,.d (.v (.int .u64 0)),.sl 3 (0)],.bx 102 [.d (.ro 1 (af (bX l).1)),.d (.v (.bool ((bX l).2)))],.rw 5 1 ([])]) [] [(1,6,5,1)] (by kernel_rfl) (by kernel_rfl)
  refine a8 (y:=.tu [.ag [.z 0,.z 0,.z 0,.z 0,.z 0,.d (.v (.int .u64 0)),.sl 1 (0)],.z 1]) (N':=[.gw 0 ai,.rw 5 1 ([])]) ((by rw [Bd (by omega)];rfl)) ((by rw [Bd (by omega)];rfl)) ?_
  exact a7 tk mo hK rfl al [] 2000 [0,3] r (by kernel_rfl) trivial
end Go.Proofs.YtcnpikbbmbombaaDoor
namespace Go.Proofs.YtcnpikbbmbombaaDoor
open Go.RowKit
theorem oO {z:Int} {r:dA} (h:(aY z r).2=false):r.2=false:=by
 obtain ⟨l,b⟩:=r
 cases b with
 | false=>rfl
 | true=>
  have e:iO l true z:=.inl rfl
  unfold aY ej at h;simp only [if_pos e] at h;cases h
theorem L5 {r:dA} (h:(rU r).2=false):r.2=false:=by
 obtain ⟨l,b⟩:=r
 cases b with
 | false=>rfl
 | true=>unfold rU pD ek at h;simp at h
theorem oG {c:Bool} {r s q:dA} (h:(cond c r s).2=false) (hr:r.2=false→q.2=false) (hs:s.2=false→q.2=false):q.2=false:=by cases c;exact hs h;exact hr h
theorem L6 {l:List UInt8} (h:(cW l).2=false):(bX l).2=false:=
 have h5:=oG (q:=bd l) h (fun h=>oO (oO h)) id
 have h4:=oG (q:=dB l) h5 L5 id
 have h3:=oG (q:=dc l) h4 oO id
 have h2:=oG (q:=db l) h3 oO id
 have h1:=oG (q:=da l) h2 oO id
 oG (q:=bX l) h1 oO id
theorem Jf {l:List UInt8} (h:(bX l).2=false):(bX l).1.length+1=l.length:=by
 by_cases e:iO l false 1
 ·unfold bX aY ej at h;simp only [if_pos e] at h;cases h
 ·unfold bX aY dZ;simp only [if_neg e]
  unfold iO at e;simp;omega
theorem Jg (l:List UInt8):(cW l).1.length≤(bX l).1.length:=
 have h1:(da l).1.length≤(bX l).1.length:=jt (gP _ _) (Nat.le_refl _)
 have h2:(db l).1.length≤(bX l).1.length:=jt (Nat.le_trans (gP _ _) h1) h1
 have h3:(dc l).1.length≤(bX l).1.length:=jt (Nat.le_trans (gP _ _) h2) h2
 have h4:(dB l).1.length≤(bX l).1.length:=jt (Nat.le_trans (gP _ _) h3) h3
 have h5:(bd l).1.length≤(bX l).1.length:=jt (Nat.le_trans (Ch _) h4) h4
 jt (Nat.le_trans (gP _ _) (Nat.le_trans (gP _ _) h5)) h5
theorem Bf (l:List UInt8):1≤(bf l).2:=by
 unfold bf;split
 ·exact Nat.le_refl _
 ·cases e:(cW l).2 with
  | true=>exact Nat.le_refl _
  | false=>
   have h1:=Jf (L6 e)
   have h2:=Jg l
   show 1≤l.length-(cW l).1.length
   omega
theorem Kq {l:List UInt8} (h:1≤l.length):(bf l).2≤l.length:=by
 unfold bf;split
 ·exact h
 ·cases (cW l).2 with
  | true=>exact h
  | false=>exact Nat.sub_le _ _
def iF (b:List UInt8):List az:=if h:b=[] then [] else (bf (b.take 258)).1::iF (b.drop (bf (b.take 258)).2)
termination_by b.length
decreasing_by
 have h1:=Bf (b.take 258)
 have h2:0<b.length:=List.length_pos_iff.2 h
 simp;omega
theorem r6:iF []=[]:=by rw [iF,dif_pos rfl]
theorem p6 {b:List UInt8} (h:0<b.length):iF b=(bf (b.take 258)).1::iF (b.drop (bf (b.take 258)).2):=by
 rw [iF,dif_neg (List.length_pos_iff.1 h)]
theorem M4 (l:List UInt8) (a:Nat) (ha:a≤l.length):List.drop a (List.take (min l.length (a+258)) (af l))=af ((l.drop a).take 258):=by
 rw [← yW,← yX]
 congr 1
 rw [List.drop_take]
 rcases Nat.le_total (a+258) l.length with h | h
 ·rw [Nat.min_eq_right h,Nat.add_sub_cancel_left]
 ·rw [Nat.min_eq_left h,List.take_of_length_le (by simp),List.take_of_length_le (by simp;omega)]
def az.lr (s:az):List DV:=[.z s.kind,.z s.node,.z s.peer,.z s.n,.z s.bit,.u s.inc,.em 5 1 (af s.body)]
def cn (l:List az):List (List DV):=l.map az.lr
theorem jn (l:List az):(cn l).length=l.length:=by simp [cn]
set_option maxRecDepth 100000 in
theorem BM (l:List UInt8) (hl:l.length≤65536) (hG:gE l≤l.length) (hM:cf (gC l)=true):aA Tryd.prog 9 [.d (.ro 1 (af l))] [.gw 0 ai] (.tu [.ag [.z (gV l 0),.sl 1 (gN l),.sl 2 (gM l)],.sl 3 (iF (l.drop (gE l))).length,.z 0]) ([.gw 0 ai,.rw 71 2 (ah (gL l (gN l))),.rw 3 1 (ints (gH l (gM l))),.rw 45 7 (cn (iF (l.drop (gE l))))]):=by
 refine aA.intro (by kernel_rfl) rfl rfl 58 rfl rfl fun D w0 K bs ac wd hK (al:bs.m=1) r=>?_
 have aZ:=((by simp [af]):(((af l).length:Nat):Int)=((l.length:Nat):Int))
 cases h0:(decide ((65536:Int)<((l.length:Nat):Int))) with
 | false=>
  have bH:=of_decide_eq_false h0
  have bO:=((by have h:=ui l (by omega);unfold ig at h;simpa using h):aA Tryd.prog 25 [.d (.ro 1 (af l))] [] (.pt 0 0) [.bx 102 [.d (.ro 1 (af (l.drop (0)))),.d (.v (.bool ((decide (l.length<(0))))))]])
  have cL:=(vX (l.drop (2+2*gN l+1+gM l)) (decide (l.length<(2+2*gN l+1+gM l))))
  cases h1:(((if (decide (l.length<(2+2*gN l+1+gM l)))=true then 3 else 0):Int) != 0) with
  | false=>
   have cm:=fx h1
   cases h2:(cf (gC l)) with
   | false=>
    exact absurd h2 (by rw [hM];decide)
   | true=>
    refine cd (todo':=hd Tryd.f9 0) (E':=[(0,.d (.ro 1 (af l))),(2,.pt 1 0),(6,.pt 2 0),(7,.d (.v (.slice none 0 0))),(8,.n (gE l))]) (M':=[.gw 0 ai,.bx 25 [.z 0,.d (.v (.slice none 0 0)),.d (.v (.slice none 0 0))],.bx 25 [.z (gV l 0),.sl 3 ((gN l)),.sl 4 ((gM l))],.rw 71 2 (ah (gL l (gN l))),.rw 3 1 (ints (gH l (gM l)))]) tk mo hK al [(1,[(1,.z (((l.length:Nat):Int))),(2,.b false)]),(3,[(1,.mem [] (.pt 0 0) [.bx 102 [.d (.ro 1 (af (l.drop (0)))),.d (.v (.bool ((decide (l.length<(0))))))]])]),(4,[(1,.mem [2] (.ag [.z (gV l 0),.sl 1 ((gN l)),.sl 2 ((gM l))]) [.bx 102 [.d (.ro 1 (af (l.drop (2+2*gN l+1+gM l)))),.d (.v (.bool ((decide (l.length<(2+2*gN l+1+gM l))))))],.rw 71 2 (ah (gL l (gN l))),.rw 3 1 (ints (gH l (gM l)))])]),(5,[(1,.mem [2] (.z ((if (decide (l.length<(2+2*gN l+1+gM l)))=true then 3 else 0))) [.bx 102 [.d (.ro 1 (af (l.drop (2+2*gN l+1+gM l)))),.d (.v (.bool ((decide (l.length<(2+2*gN l+1+gM l))))))]]),(2,.b false),(5,.call [.ag [.z (gV l 0),.d (.ro 2 (ah (gL l (gN l)))),.d (.ro 1 (ints (gH l (gM l))))]] (.v (.bool true)))]),(8,[(1,.z (((l.length:Nat):Int))),(3,.mem [2] (.n ((l.drop (2+2*gN l+1+gM l)).length)) [.bx 102 [.d (.ro 1 (af (l.drop (2+2*gN l+1+gM l)))),.d (.v (.bool ((decide (l.length<(2+2*gN l+1+gM l))))))]]),(4,.z (((gE l:Nat):Int)))])] 2000 [0,1,5,3,4] [0,2,6,7,8] r (by kernel_rfl) (U aZ (U h0 (U bO (U (Kg l) (U cL (U h1 (U ((by have k:=qv (gC l) (by show (gL l (gN l)).length≤_;rw [df];have:=xc l;omega) (by show (gH l (gM l)).length≤_;rw [dh];have:=xd l;omega);rw [h2] at k;exact k):aB Tryd.prog 13 [.ag [.z (gV l 0),.d (.ro 2 (ah (gL l (gN l)))),.d (.ro 1 (ints (gH l (gM l))))]] (.v (.bool true))) (U ((gS _):fU (.v (.bool true))) (U (ei (.z (gV l 0))) (U (fj (2)) (U ((by first | rfl | (simp [af,ah,ints,df,dh,jn];done) | (simp [af,ah,ints,df,dh,jn];omega)):((gN l))=(ah (gL l (gN l)):List (List DV)).length) (U ((by first | exact jK _ | exact jL _):cx (ah (gL l (gN l)))=ah (gL l (gN l))) (U (fj (1)) (U ((by first | rfl | (simp [af,ah,ints,df,dh,jn];done) | (simp [af,ah,ints,df,dh,jn];omega)):((gM l))=(ints (gH l (gM l))).length) (U ((by first | exact jK _ | exact jL _):cx (ints (gH l (gM l)))=ints (gH l (gM l))) (U aZ (U (Ba (l.drop (2+2*gN l+1+gM l)) (decide (l.length<(2+2*gN l+1+gM l)))) (U ((wi (by simp;unfold gE at *;omega)):IntKind.i64.wrap ((((l.length:Nat):Int):Int)-(((l.drop (2+2*gN l+1+gM l)).length:Nat):Int))=((gE l:Nat):Int)) trivial)))))))))))))))))) fun ac wd r=>?_
    refine aD.rounds (Φ:=fun (i:Nat) ac wd=>∃ a:Nat,∃ S:List az,(i≤a∧a≤l.length∧S.length=i∧S++iF (l.drop a)=iF (l.drop (gE l)))∧RB D w0 K 58 bs [(0,.d (.ro 1 (af l))),(2,.pt 1 0),(6,.pt 2 0),(7,.sl 5 (i)),(8,.n a)] [.gw 0 ai,.bx 25 [.z 0,.d (.v (.slice none 0 0)),.d (.v (.slice none 0 0))],.bx 25 [.z (gV l 0),.sl 3 ((gN l)),.sl 4 ((gM l))],.rw 71 2 (ah (gL l (gN l))),.rw 3 1 (ints (gH l (gM l))),.rw 45 7 (cn S)] ac wd) (l.length) ?_ (Nat.zero_le _) ⟨(gE l),[],⟨Nat.zero_le _,hG,rfl,by simp⟩,r.fE (M1:=[.gw 0 ai,.bx 25 [.z 0,.d (.v (.slice none 0 0)),.d (.v (.slice none 0 0))],.bx 25 [.z (gV l 0),.sl 3 ((gN l)),.sl 4 ((gM l))],.rw 71 2 (ah (gL l (gN l))),.rw 3 1 (ints (gH l (gM l))),.rw 45 7 []]) [(7,45,7)] [] (by kernel_rfl) (by kernel_rfl)⟩
    clear r
    rintro i eA bP ac wd ⟨a,S,ao,r⟩
    have Pw:=ao.1
    have dy:=ao.2.1
    have dN:=ao.2.2.1
    cases h3:(decide ((((a:Nat):Int):Int)<((l.length:Nat):Int))) with
    | false=>
     have dQ:=of_decide_eq_false h3
     refine a8 (y:=.tu [.ag [.z (gV l 0),.sl 1 ((gN l)),.sl 2 ((gM l))],.sl 3 (i),.z 0]) (N':=[.gw 0 ai,.rw 71 2 (ah (gL l (gN l))),.rw 3 1 (ints (gH l (gM l))),.rw 45 7 (cn S)]) ((by first | rfl | (rw [← ao.2.2.2,List.drop_of_length_le (by omega),r6,List.append_nil,ao.2.2.1]))) ((by first | rfl | (rw [← ao.2.2.2,List.drop_of_length_le (by omega),r6,List.append_nil]))) ?_
     exact a7 tk mo hK rfl al [(9,[(2,.z (((l.length:Nat):Int))),(3,.b false)])] 2000 [0,3,4,5] r (by kernel_rfl) (U aZ (U h3 trivial))
    | true=>
     have dQ:=of_decide_eq_true h3
     have Oe:1≤((l.drop a).take 258).length:=by simp;omega
     have Px:=Bf ((l.drop a).take 258)
     have kF:=Kq Oe
     have Py:((l.drop a).take 258).length≤l.length-a:=by simp;omega
     have Of:=p6 (b:=l.drop a) (by simp;omega)
     exact cd (todo':=hd Tryd.f9 0) (E':=[(0,.d (.ro 1 (af l))),(2,.pt 1 0),(6,.pt 2 0),(7,.sl 5 (i+(1))),(8,.n (a+(bf ((l.drop a).take 258)).2))]) (M':=[.gw 0 ai,.bx 25 [.z 0,.d (.v (.slice none 0 0)),.d (.v (.slice none 0 0))],.bx 25 [.z (gV l 0),.sl 3 ((gN l)),.sl 4 ((gM l))],.rw 71 2 (ah (gL l (gN l))),.rw 3 1 (ints (gH l (gM l))),.rw 45 7 (cn S++[[.z ((bf ((l.drop a).take 258)).1.kind),.z ((bf ((l.drop a).take 258)).1.node),.z ((bf ((l.drop a).take 258)).1.peer),.z ((bf ((l.drop a).take 258)).1.n),.z ((bf ((l.drop a).take 258)).1.bit),.u ((bf ((l.drop a).take 258)).1.inc),.em 5 1 (af (bf ((l.drop a).take 258)).1.body)]])]) tk mo hK al [(9,[(2,.z (((l.length:Nat):Int))),(3,.b true)]),(10,[(3,.z (((l.length:Nat):Int))),(5,.z (((a+258:Nat):Int))),(6,.z (((min (l.length) (a+258):Nat):Int))),(7,.n2 (min (l.length) (a+258)) (a)),(8,.mem [0] (.tu [.ag [.z ((bf ((l.drop a).take 258)).1.kind),.z ((bf ((l.drop a).take 258)).1.node),.z ((bf ((l.drop a).take 258)).1.peer),.z ((bf ((l.drop a).take 258)).1.n),.z ((bf ((l.drop a).take 258)).1.bit),.u ((bf ((l.drop a).take 258)).1.inc),.sl 1 ((af (bf ((l.drop a).take 258)).1.body).length)],.n ((bf ((l.drop a).take 258)).2)]) [.gw 0 ai,.rw 5 1 (af (bf ((l.drop a).take 258)).1.body)])]),(12,[(2,.z (((a+(bf ((l.drop a).take 258)).2:Nat):Int)))])] 2000 [0,1,2,3,4,5] [0,2,6,7,8] r (by kernel_rfl) (U aZ (U h3 (U aZ (U ((wi (by omega)):IntKind.i64.wrap ((((a:Nat):Int):Int)+258)=((a+258:Nat):Int)) (U ((by omega):(min (((l.length:Nat):Int)) (((a+258:Nat):Int)):Int)=((min (l.length) (a+258):Nat):Int)) (U (aP ((a:Nat):Int)) (U (aP ((min (l.length) (a+258):Nat):Int)) (U ((by first | omega | decide | (simp;done) | (simp;omega)):(a)≤(min (l.length) (a+258))) (U ((by simp [af];omega):(min (l.length) (a+258))≤(af l).length) (U ((by have h:=F6 ((l.drop a).take 258) (by simp;omega);rw [M4 l a (by omega)];exact h):aA Tryd.prog 29 [.d (.ro 1 (List.drop (a) (List.take (min (l.length) (a+258)) (af l))))] [.gw 0 ai] (.tu [.ag [.z ((bf ((l.drop a).take 258)).1.kind),.z ((bf ((l.drop a).take 258)).1.node),.z ((bf ((l.drop a).take 258)).1.peer),.z ((bf ((l.drop a).take 258)).1.n),.z ((bf ((l.drop a).take 258)).1.bit),.u ((bf ((l.drop a).take 258)).1.inc),.sl 1 ((af (bf ((l.drop a).take 258)).1.body).length)],.n ((bf ((l.drop a).take 258)).2)]) [.gw 0 ai,.rw 5 1 (af (bf ((l.drop a).take 258)).1.body)]) (U (fj ((af (bf ((l.drop a).take 258)).1.body).length)) (U ((by first | rfl | (simp [af,ah,ints,df,dh,jn];done) | (simp [af,ah,ints,df,dh,jn];omega)):(i)=(cn S:List (List DV)).length) (U ((by first | rfl | (simp [af,ah,ints,df,dh,jn];done) | (simp [af,ah,ints,df,dh,jn];omega)):(1)=([[.z ((bf ((l.drop a).take 258)).1.kind),.z ((bf ((l.drop a).take 258)).1.node),.z ((bf ((l.drop a).take 258)).1.peer),.z ((bf ((l.drop a).take 258)).1.n),.z ((bf ((l.drop a).take 258)).1.bit),.u ((bf ((l.drop a).take 258)).1.inc),.em 5 1 (af (bf ((l.drop a).take 258)).1.body)]]:List (List DV)).length) (U ((by first | omega | (simp [af,ah,ints,df,dh,jn];done) | (simp [af,ah,ints,df,dh,jn];omega)):(2*((i)+(1))+192)*72≤281474976710656) (U ((by first | omega | (simp [af,ah,ints,df,dh,jn];done) | (simp [af,ah,ints,df,dh,jn];omega)):(i)+(1)<4611686018427387904) (U ((by simp [bc,AV.one,bU,af,ah,ints,steps,strs]):bc ([[.z ((bf ((l.drop a).take 258)).1.kind),.z ((bf ((l.drop a).take 258)).1.node),.z ((bf ((l.drop a).take 258)).1.peer),.z ((bf ((l.drop a).take 258)).1.n),.z ((bf ((l.drop a).take 258)).1.bit),.u ((bf ((l.drop a).take 258)).1.inc),.em 5 1 (af (bf ((l.drop a).take 258)).1.body)]])) (U ((wi (by omega)):IntKind.i64.wrap ((((a:Nat):Int):Int)+(((bf ((l.drop a).take 258)).2:Nat):Int))=((a+(bf ((l.drop a).take 258)).2:Nat):Int)) trivial))))))))))))))))) fun ac wd r=>bP (by omega) ac wd ⟨(a+(bf ((l.drop a).take 258)).2),(S++[(bf ((l.drop a).take 258)).1]),⟨by omega,by omega,by simp;omega,by rw [← ao.2.2.2,Of,List.drop_drop];simp⟩,r.cast rfl (by simp [cn,az.lr])⟩
  | true=>
   have cm:¬ _=_:=bne_iff_ne.1 h1
   exact absurd (if_neg (by rw [decide_eq_true_eq];unfold gE at hG;omega)) cm
 | true=>
  have bH:=of_decide_eq_true h0
  exact absurd bH (by omega)
end Go.Proofs.YtcnpikbbmbombaaDoor
namespace Go.Proofs.YtcnpikbbmbombaaDoor
open Go.RowKit
theorem vi (w:List UInt8) {most:Nat} (h9:9≤most):(aH w most).1≤most:=by
 unfold aH
 split
 ·exact Nat.zero_le _
 ·cases e:dE most w 0 with
  | none=>exact Nat.zero_le _
  | some n=>exact Bc (Nat.zero_le _) h9 e
abbrev Ws:=List (List UInt8)×Bool
def pH (s:Ws):List aj:=[.bx 93 [.d (.ro 1 (strs s.1))],.bx 4 [.d (.v (.bool s.2))]]
def pI (s:Ws):List aj:=[.bx 93 [.d (.ro 1 (strs s.1))],.bx 4 [.d (.v (.bool s.2))],.bx 64 [.fn 55 [.pt 0 0,.pt 1 0]]]
def bR (s:Ws):List UInt8:=s.1.headD []
def bn (s:Ws):Ws:=(s.1.tail,s.2&&!s.1.isEmpty)
def pN (b:Bool) (most:Nat) (s:Ws):Nat:=cond b (aH (bR s) most).1 0
def pS (b:Bool) (most:Nat) (s:Ws):Ws:=cond b ((bn s).1,(bn s).2&&(aH (bR s) most).2) s
theorem sS (b:Bool) (s:Ws) {most:Nat} (h9:9≤most):pN b most s≤most:=by cases b;exact Nat.zero_le _;exact vi _ h9
def fN (s:Ws):Prop:=∀ w ∈ s.1,w.length≤1048576
theorem fN.w {s:Ws} (h:fN s):(bR s).length≤1048576:=by
 obtain ⟨l,b⟩:=s
 cases l with
 | nil=>exact Nat.zero_le _
 | cons x r=>exact h x (by simp)
theorem fN.s {s:Ws} (h:fN s):fN (bn s):=fun w hw=>h w (List.mem_of_mem_tail hw)
theorem fN.p {s:Ws} (h:fN s) (b:Bool) (m:Nat):fN (pS b m s):=by cases b;exact h;exact h.s
set_option maxRecDepth 100000 in
theorem HA (g:Bool):aA Tryd.prog 55 [.pt 0 0,.pt 1 0] [.bx 93 [.d (.ro 1 (strs (([]:List (List UInt8)),g).1))],.bx 4 [.d (.v (.bool ((([]:List (List UInt8)),g).2)))]] (.d (.v (.string ⟨(bR (([]:List (List UInt8)),g)).toArray⟩))) (pH (bn (([]:List (List UInt8)),g))):=by
 refine aA.intro (by kernel_rfl) rfl rfl 13 rfl rfl fun D w0 K bs ac wd hK (al:bs.m=2) r=>?_
 refine a8 (y:=.d (.v (.string .empty))) (N':=[.bx 93 [.d (.ro 1 (strs (([]:List (List UInt8)),g).1))],.bx 4 [.d (.v (.bool false))]]) (rfl) ((by simp [bn,pH,strs])) ?_
 exact a7 tk mo hK rfl al [(1,[(1,.z (0))])] 2000 [0,1] r (by kernel_rfl) (U ((by first | rfl | simp [strs]):(((strs (([]:List (List UInt8)),g).1).length:Nat):Int)=0) trivial)
set_option maxRecDepth 100000 in
theorem F7 (x:List UInt8) (q:List (List UInt8)) (g:Bool):aA Tryd.prog 55 [.pt 0 0,.pt 1 0] [.bx 93 [.d (.ro 1 (strs ((x::q),g).1))],.bx 4 [.d (.v (.bool (((x::q),g).2)))]] (.d (.v (.string ⟨(bR ((x::q),g)).toArray⟩))) (pH (bn ((x::q),g))):=by
 refine aA.intro (by kernel_rfl) rfl rfl 13 rfl rfl fun D w0 K bs ac wd hK (al:bs.m=2) r=>?_
 have aZ:=((by first | rfl | simp [strs]):(((strs ((x::q),g).1).length:Nat):Int)=((q.length+1:Nat):Int))
 cases h0:((((q.length+1:Nat):Int):Int)==0) with
 | false=>
  have bH:=ne_of_beq_false h0
  refine a8 (y:=.d (.v (.string ⟨x.toArray⟩))) (N':=[.bx 93 [.d (.ro 1 (List.drop (1) (strs ((x::q),g).1)))],.bx 4 [.d (.v (.bool (((x::q),g).2)))]]) (rfl) ((by simp [bn,pH,strs])) ?_
  exact a7 tk mo hK rfl al [(1,[(1,.z (((q.length+1:Nat):Int))),(2,.b false)]),(4,[(1,.ix (0) [.v (.string ⟨x.toArray⟩)])]),(5,[(1,.n2 (0) (1))])] 2000 [0,1] r (by kernel_rfl) (U aZ (U h0 (U (rfl:(0)=((0:Nat):Int)) (U (rfl:(strs ((x::q),g).1)[0]?=some [.v (.string ⟨x.toArray⟩)]) (U (rfl:(1:Int)=((1:Nat):Int)) (U ((by simp [strs]):(1)≤(strs ((x::q),g).1:List (List DV)).length) trivial))))))
 | true=>
  have bH:=eq_of_beq h0
  exact absurd bH (by omega)
theorem oP (s:Ws):aA Tryd.prog 55 [.pt 0 0,.pt 1 0] (pH s) (.d (.v (.string ⟨(bR s).toArray⟩))) (pH (bn s)):=by
 obtain ⟨l,g⟩:=s
 cases l with
 | nil=>exact HA g
 | cons x r=>exact F7 x r g
set_option maxRecDepth 100000 in
theorem HB (most:Nat) (s:Ws) (h9:9≤most) (hm:most<18446744073709551616) (hs:fN s):aA Tryd.prog 56 [.d (.v (.bool true)),.u most,.pt 2 0,.pt 1 0] [.bx 93 [.d (.ro 1 (strs s.1))],.bx 4 [.d (.v (.bool (s.2)))],.bx 64 [.fn 55 [.pt 0 0,.pt 1 0]]] (.u (pN true most s)) (pI (pS true most s)):=by
 refine aA.intro (by kernel_rfl) rfl rfl 23 rfl rfl fun D w0 K bs ac wd hK (al:bs.m=3) r=>?_
 cases h0:((aH (bR s) most).2) with
 | false=>
  refine a8 (y:=.u ((aH (bR s) most).1)) (N':=[.bx 93 [.d (.ro 1 (strs (bn s).1))],.bx 4 [.d (.v (.bool (((bn s).2&&false))))],.bx 64 [.fn 55 [.pt 0 0,.pt 1 0]]]) (rfl) ((by unfold pI pS;rw [h0];rfl)) ?_
  exact a7 tk mo hK rfl al [(3,[(1,.mem [0,1] (.d (.v (.string ⟨(bR s).toArray⟩))) [.bx 93 [.d (.ro 1 (strs (bn s).1))],.bx 4 [.d (.v (.bool ((bn s).2)))]]),(3,.aO (.tu [.u ((aH (bR s) most).1),.v (.bool false)]))]),(4,[(2,.may (bn s).2 (.n 0)),(3,.res (.v (.bool ((bn s).2&&false))))])] 2000 [0,1,2] r (by kernel_rfl) (U (oP s) (U ((by have k:=r5 (bR s) most (Nat.le_trans hs.w (by decide)) h9 hm;rw [h0] at k;exact k):aB Tryd.prog 54 [.d (.v (.string ⟨(bR s).toArray⟩)),.u most] (.tu [.u ((aH (bR s) most).1),.v (.bool false)])) (U (px _:(jR (Value.bool (bn s).2)==some true)=(bn s).2) (U (fun hc=>trivial:(bn s).2=true→True) (U (o0 _ _:∃ b0:Bool,(Value.bool (bn s).2)=.bool b0∧(bif b0 then (bif (bn s).2 then Value.bool false else undef) else Value.bool false)=.bool ((bn s).2&&false)) trivial)))))
 | true=>
  refine a8 (y:=.u ((aH (bR s) most).1)) (N':=[.bx 93 [.d (.ro 1 (strs (bn s).1))],.bx 4 [.d (.v (.bool (((bn s).2&&true))))],.bx 64 [.fn 55 [.pt 0 0,.pt 1 0]]]) (rfl) ((by unfold pI pS;rw [h0];rfl)) ?_
  exact a7 tk mo hK rfl al [(3,[(1,.mem [0,1] (.d (.v (.string ⟨(bR s).toArray⟩))) [.bx 93 [.d (.ro 1 (strs (bn s).1))],.bx 4 [.d (.v (.bool ((bn s).2)))]]),(3,.aO (.tu [.u ((aH (bR s) most).1),.v (.bool true)]))]),(4,[(2,.may (bn s).2 (.n 0)),(3,.res (.v (.bool ((bn s).2&&true))))])] 2000 [0,1,2] r (by kernel_rfl) (U (oP s) (U ((by have k:=r5 (bR s) most (Nat.le_trans hs.w (by decide)) h9 hm;rw [h0] at k;exact k):aB Tryd.prog 54 [.d (.v (.string ⟨(bR s).toArray⟩)),.u most] (.tu [.u ((aH (bR s) most).1),.v (.bool true)])) (U (px _:(jR (Value.bool (bn s).2)==some true)=(bn s).2) (U (fun hc=>trivial:(bn s).2=true→True) (U (o0 _ _:∃ b0:Bool,(Value.bool (bn s).2)=.bool b0∧(bif b0 then (bif (bn s).2 then Value.bool true else undef) else Value.bool false)=.bool ((bn s).2&&true)) trivial)))))
set_option maxRecDepth 100000 in
theorem F8 (most:Nat) (s:Ws) (h9:9≤most) (hm:most<18446744073709551616) (hs:fN s):aA Tryd.prog 56 [.d (.v (.bool false)),.u most,.pt 2 0,.pt 1 0] [.bx 93 [.d (.ro 1 (strs s.1))],.bx 4 [.d (.v (.bool (s.2)))],.bx 64 [.fn 55 [.pt 0 0,.pt 1 0]]] (.u (pN false most s)) (pI (pS false most s)):=by
 refine aA.intro (by kernel_rfl) rfl rfl 23 rfl rfl fun D w0 K bs ac wd hK (al:bs.m=3) r=>?_
 refine a8 (y:=.d (.v (.int .u64 0))) (N':=[.bx 93 [.d (.ro 1 (strs s.1))],.bx 4 [.d (.v (.bool (s.2)))],.bx 64 [.fn 55 [.pt 0 0,.pt 1 0]]]) (rfl) (rfl) ?_
 exact a7 tk mo hK rfl al [] 2000 [0,1,2] r (by kernel_rfl) trivial
theorem qk (b:Bool) (most:Nat) (s:Ws) (h9:9≤most) (hm:most<18446744073709551616) (hs:fN s):aA Tryd.prog 56 [.d (.v (.bool b)),.u most,.pt 2 0,.pt 1 0] (pI s) (.u (pN b most s)) (pI (pS b most s)):=by
 cases b with
 | true=>exact HB most s h9 hm hs
 | false=>exact F8 most s h9 hm hs
def nr (x:List UInt8):Nat:=lY.findIdx fun y=>y.word==x
theorem vj {k:Nat} (h:k<14):lY[k]?=some (ae k):=lZ (p:=fun k=>lY[k]?=some (ae k)) rfl rfl rfl rfl rfl rfl rfl rfl rfl rfl rfl rfl rfl rfl h
theorem F9 {x:List UInt8} {k:Nat} (h:k<14) (hn:∀ j,j<k→(ae j).word≠x) (e:(ae k).word=x):nr x=k:=by
 have hk:=vj h
 obtain ⟨h1,h2⟩:=List.getElem?_eq_some_iff.1 hk
 unfold nr
 rw [List.findIdx_eq h1]
 refine ⟨by rw [h2];simpa using e,fun j hj=>?_⟩
 obtain ⟨h3,h4⟩:=List.getElem?_eq_some_iff.1 (vj (show j<14 by omega))
 rw [h4];simpa using hn j hj
theorem HC {x:List UInt8} (hn:∀ j,j<14→(ae j).word≠x):nr x=14:=by
 unfold nr
 refine (List.findIdx_eq_length (xs:=lY)).2 fun y hy=>?_
 obtain ⟨j,hj,e⟩:=List.getElem_of_mem hy
 obtain ⟨h3,h4⟩:=List.getElem?_eq_some_iff.1 (vj (show j<14 from hj))
 rw [← e,h4];simpa using hn j hj
def pK (l:List UInt8):Nat:=nr (bR (aL 32 l,true))
def fp (l:List UInt8):Ws:=((aL 32 l).tail,true)
def dS (l:List UInt8):Ws:=pS (ae (pK l)).node 255 (fp l)
def dT (l:List UInt8):Ws:=pS (ae (pK l)).peer 255 (dS l)
def dU (l:List UInt8):Ws:=pS (ae (pK l)).n 255 (dT l)
def eQ (l:List UInt8):Ws:=pS (ae (pK l)).bit 65535 (dU l)
def aV (l:List UInt8):Ws:=pS (ae (pK l)).inc 18446744073709551615 (eQ l)
def pJ (l:List UInt8):Ws:=cond (ae (pK l)).body ((bn (aV l)).1,(bn (aV l)).2&&(ew (bR (aV l))).2) (aV l)
def pB (l:List UInt8):List UInt8:=cond (ae (pK l)).body (ew (bR (aV l))).1 []
def nD (l:List UInt8):az:=⟨pK l,pN (ae (pK l)).node 255 (fp l),pN (ae (pK l)).peer 255 (dS l),pN (ae (pK l)).n 255 (dT l),pN (ae (pK l)).bit 65535 (dU l),pN (ae (pK l)).inc 18446744073709551615 (eQ l),pB l⟩
def jz (l:List UInt8):Bool:=decide (pK l<14)&&((pJ l).2&&(pJ l).1.isEmpty)
def bL (l:List UInt8):az×Bool:=cond (jz l) (nD l,true) (gZ,false)
def pL (q:az×Bool):AV:=.tu [.ag [.z q.1.kind,.z q.1.node,.z q.1.peer,.z q.1.n,.z q.1.bit,.u q.1.inc,.sl 1 (af q.1.body).length],.d (.v (.bool q.2))]
def pg (q:az×Bool):List aj:=[.gw 0 ai,.rw 5 1 (af q.1.body)]
theorem sC {l:List UInt8} (h:jz l=false):bL l=(gZ,false):=by unfold bL;rw [h];rfl
theorem qh {l:List UInt8} (h:jz l=true):bL l=(nD l,true):=by unfold bL;rw [h];rfl
theorem ox {c:UInt8}:∀ {s w:List UInt8},w ∈ aL c s→w.length≤s.length
 | [],w,h=>by simp [aL] at h;subst h;exact Nat.le_refl _
 | x::r,w,h=>by
  unfold aL at h;split at h
  ·rcases List.mem_cons.1 h with rfl | h
   ·exact Nat.zero_le _
   ·exact Nat.le_succ_of_le (ox h)
  ·cases e:aL c r with
   | nil=>rw [e] at h;simp at h;subst h;simp
   | cons y ys=>
    rw [e] at h
    rcases List.mem_cons.1 h with rfl | h
    ·exact Nat.succ_le_succ (ox (by rw [e];simp))
    ·exact Nat.le_succ_of_le (ox (by rw [e];exact List.mem_cons_of_mem _ h))
theorem Ax (c:UInt8) (l:List UInt8):(strs (aL c l))[0]?=some [.v (.string ⟨(bR (aL c l,true)).toArray⟩)]:=by
 have h:=gD c l
 cases e:aL c l with
 | nil=>rw [e] at h;simp at h
 | cons x r=>rfl
theorem drop_one (c:UInt8) (l:List UInt8):List.drop 1 (strs (aL c l))=strs (aL c l).tail:=by unfold strs;rw [← List.map_drop,List.drop_one]
theorem Kr {l:List UInt8} (h:l.length≤1048576):fN (fp l):=fun x hx=>Nat.le_trans (ox (List.mem_of_mem_tail hx)) h
theorem Ay {l:List (List UInt8)}:decide ((0:Int)<(((strs l).length:Nat):Int))=!l.isEmpty:=by cases l with
 | nil=>rfl
 | cons x r=>simp [strs]
theorem ql {l:List UInt8} (h:pK l<14) (b:(ae (pK l)).body=true):jz l=(((bn (aV l)).2&&(ew (bR (aV l))).2)&&(bn (aV l)).1.isEmpty):=by unfold jz pJ;rw [b,decide_eq_true h];rfl
theorem sD {l:List UInt8} (h:pK l<14) (b:(ae (pK l)).body=false):jz l=((aV l).2&&(aV l).1.isEmpty):=by unfold jz pJ;rw [b,decide_eq_true h];rfl
theorem Cm {l:List (List UInt8)} (h:decide ((0:Int)<(((strs l).length:Nat):Int))=true):l.isEmpty=false:=by rw [Ay] at h;simpa using h
theorem Cn {l:List (List UInt8)} (h:decide ((0:Int)<(((strs l).length:Nat):Int))=false):l.isEmpty=true:=by rw [Ay] at h;simpa using h
theorem sT {z:Int} (h:0≤z) (h2:z≤65535):IntKind.i64.wrap z=z:=wi (by omega)
set_option maxRecDepth 100000 in
theorem pT (line:List UInt8) (hl:line.length≤1048576):aA Tryd.prog 32 [.d (.v (.string ⟨line.toArray⟩))] [.gw 0 ai] (pL (bL line)) (pg (bL line)):=by
 refine aA.intro (by kernel_rfl) rfl rfl 93 rfl rfl fun D w0 K bs ac wd hK (al:bs.m=1) r=>?_
 refine cd (todo':=hd Tryd.f32 0) (E':=[(0,.d (.v (.string ⟨line.toArray⟩))),(2,.pt 1 0),(4,.pt 2 0),(5,.n 0)]) (M':=[.gw 0 ai,.bx 45 [.z 0,.z 0,.z 0,.z 0,.z 0,.d (.v (.int .u64 0)),.d (.v (.slice none 0 0))],.bx 93 [.d (.ro 1 (strs (aL 32 line)))]]) tk mo hK al [(1,[(1,.aO (.ro 1 (strs (aL 32 line))))])] 2000 [0,1,2] [0,2,4,5] r (by kernel_rfl) (U (sj 32 line hl) trivial) fun ac wd r=>?_
 refine aD.rounds (Φ:=fun (i:Nat) ac wd=>(∀ j,j<i→(ae j).word≠(bR (aL 32 line,true)))∧RB D w0 K 93 bs [(0,.d (.v (.string ⟨line.toArray⟩))),(2,.pt 1 0),(4,.pt 2 0),(5,.n i)] [.gw 0 ai,.bx 45 [.z 0,.z 0,.z 0,.z 0,.z 0,.d (.v (.int .u64 0)),.d (.v (.slice none 0 0))],.bx 93 [.d (.ro 1 (strs (aL 32 line)))]] ac wd) (14) ?_ (Nat.zero_le _) ⟨(fun j hj=>absurd hj (Nat.not_lt_zero _)),r⟩
 clear r
 rintro i eA bP ac wd ⟨ao,r⟩
 cases h0:(decide ((((i:Nat):Int):Int)<14)) with
 | false=>
  have bH:=of_decide_eq_false h0
  cases h1:((((i:Nat):Int):Int)==14) with
  | false=>
   have cm:=ne_of_beq_false h1
   exact absurd (show ((i:Nat):Int)=14 by omega) cm
  | true=>
   have cm:=eq_of_beq h1
   refine bT (todo':=aft Tryd.f32 5) (E':=[(2,.pt 1 0),(4,.pt 2 0),(5,.n i),(30,.d (.v (.bool true)))]) (M':=[.gw 0 ai,.bx 45 [.z 0,.z 0,.z 0,.z 0,.z 0,.d (.v (.int .u64 0)),.d (.v (.slice none 0 0))],.bx 93 [.d (.ro 1 (strs (aL 32 line)))]]) tk mo hK al [(3,[(1,.b false)]),(5,[(1,.b true)])] 8 [0,1,2] [2,4,5,30] r (by kernel_rfl) (U h0 (U h1 trivial)) fun ac wd r=>?_
   have hk:pK line=14:=HC fun j hj=>ao j (by omega)
   refine bT (todo':=aft Tryd.f32 6) (E':=[(2,.pt 1 0),(4,.pt 2 0),(5,.n i),(3,.d (.v (.bool false)))]) (M':=[.gw 0 ai,.bx 45 [.z 0,.z 0,.z 0,.z 0,.z 0,.d (.v (.int .u64 0)),.d (.v (.slice none 0 0))],.bx 93 [.d (.ro 1 (strs (aL 32 line)))]]) tk mo hK al [] 3 [0,1,2] [2,4,5,3] r (by kernel_rfl) trivial fun ac wd r=>?_
   have r:=r.fE (E1:=[(2,.pt 1 0),(4,.pt 2 0),(5,.n i),(3,.d (.v (.bool false)))]) (M1:=[.gw 0 ai,.bx 45 [.z 0,.z 0,.z 0,.z 0,.z 0,.d (.v (.int .u64 0)),.d (.v (.slice none 0 0))],.bx 93 [.d (.ro 1 (strs (aL 32 line)))]]) (M2:=[.gw 0 ai,.bx 45 [.z 0,.z 0,.z 0,.z 0,.z 0,.d (.v (.int .u64 0)),.sl 3 (0)],.bx 93 [.d (.ro 1 (strs (aL 32 line)))],.rw 5 1 ([])]) [] [(1,6,5,1)] (by kernel_rfl) (by kernel_rfl)
   refine a8 (y:=.tu [.ag [.z 0,.z 0,.z 0,.z 0,.z 0,.d (.v (.int .u64 0)),.sl 1 (0)],.d (.v (.bool false))]) (N':=[.gw 0 ai,.rw 5 1 ([])]) ((by rw [sC (by unfold jz;rw [decide_eq_false (by omega)];rfl)];rfl)) ((by rw [sC (by unfold jz;rw [decide_eq_false (by omega)];rfl)];rfl)) ?_
   exact a7 tk mo hK rfl al [] 2000 [0,3] r (by kernel_rfl) trivial
 | true=>
  have bH:=of_decide_eq_true h0
  have aZ:=(mT (by omega):List.take 7 (List.drop ((i)*7) (ai:List DV))=([.v (.string ⟨((ae i).word).toArray⟩),.v (.bool ((ae i).node)),.v (.bool ((ae i).peer)),.v (.bool ((ae i).n)),.v (.bool ((ae i).bit)),.v (.bool ((ae i).inc)),.v (.bool ((ae i).body))]:List DV))
  have bO:=(Ax 32 line:(strs (aL 32 line))[0]?=some [.v (.string ⟨(bR (aL 32 line,true)).toArray⟩)])
  cases h2:((ae i).word==(bR (aL 32 line,true))) with
  | false=>
   exact cd (todo':=hd Tryd.f32 0) tk mo hK al [(3,[(1,.b true),(4,.ix (i) [.v (.string ⟨((ae i).word).toArray⟩),.v (.bool ((ae i).node)),.v (.bool ((ae i).peer)),.v (.bool ((ae i).n)),.v (.bool ((ae i).bit)),.v (.bool ((ae i).inc)),.v (.bool ((ae i).body))]),(8,.ix (0) [.v (.string ⟨(bR (aL 32 line,true)).toArray⟩)]),(10,.b true)]),(4,[(1,.z (((i+1:Nat):Int)))])] 2000 [0,1,2] [0,2,4,5] r (by kernel_rfl) (U h0 (U (aP ((i:Nat):Int)) (U ((by omega):(i)<14) (U aZ (U (rfl:(0)=((0:Nat):Int)) (U bO (U ((by simpa [bne] using h2):((ae i).word != (bR (aL 32 line,true)))=true) (U ((wi (by omega)):IntKind.i64.wrap ((((i:Nat):Int):Int)+1)=((i+1:Nat):Int)) trivial)))))))) fun ac wd r=>bP (by omega) ac wd ⟨(fun j hj=>by rcases Nat.lt_succ_iff_lt_or_eq.1 hj with h | rfl;exact ao j h;simpa using h2),r⟩
  | true=>
   have cL:=((by simpa [bne] using h2):((ae i).word != (bR (aL 32 line,true)))=false)
   cases h3:((((i:Nat):Int):Int)==14) with
   | false=>
    have dQ:=ne_of_beq_false h3
    refine bT (todo':=aft Tryd.f32 5) (E':=[(2,.pt 1 0),(4,.pt 2 0),(5,.n i),(30,.d (.v (.bool false)))]) (M':=[.gw 0 ai,.bx 45 [.z 0,.z 0,.z 0,.z 0,.z 0,.d (.v (.int .u64 0)),.d (.v (.slice none 0 0))],.bx 93 [.d (.ro 1 (strs (aL 32 line)))]]) tk mo hK al [(3,[(1,.b true),(4,.ix (i) [.v (.string ⟨((ae i).word).toArray⟩),.v (.bool ((ae i).node)),.v (.bool ((ae i).peer)),.v (.bool ((ae i).n)),.v (.bool ((ae i).bit)),.v (.bool ((ae i).inc)),.v (.bool ((ae i).body))]),(8,.ix (0) [.v (.string ⟨(bR (aL 32 line,true)).toArray⟩)]),(10,.b false)]),(5,[(1,.b false)])] 8 [0,1,2] [2,4,5,30] r (by kernel_rfl) (U h0 (U (aP ((i:Nat):Int)) (U ((by omega):(i)<14) (U aZ (U (rfl:(0)=((0:Nat):Int)) (U bO (U cL (U h3 trivial)))))))) fun ac wd r=>?_
    have hk:pK line=i:=F9 (by omega) (fun j hj=>ao j hj) (by simpa using h2)
    subst hk
    have DG:=Kr hl
    have nV:fN (dS line):=DG.p _ _
    have jD:fN (dT line):=nV.p _ _
    have DH:fN (dU line):=jD.p _ _
    have DI:fN (eQ line):=DH.p _ _
    have Pz:fN (aV line):=DI.p _ _
    refine bT (todo':=aft Tryd.f32 12) (E':=[(2,.pt 1 0),(4,.pt 2 0),(6,.pt 3 0),(7,.pt 4 0),(8,.pt 5 0),(9,.fn 56 [.pt 5 0,.pt 4 0]),(10,.pt 6 0)]) (M':=[.gw 0 ai,.bx 45 [.z 0,.z 0,.z 0,.z 0,.z 0,.d (.v (.int .u64 0)),.d (.v (.slice none 0 0))],.bx 93 [.d (.ro 1 (List.drop (1) (strs (aL 32 line))))],.bx 84 [.d (.v (.string ⟨((ae (pK line)).word).toArray⟩)),.d (.v (.bool ((ae (pK line)).node))),.d (.v (.bool ((ae (pK line)).peer))),.d (.v (.bool ((ae (pK line)).n))),.d (.v (.bool ((ae (pK line)).bit))),.d (.v (.bool ((ae (pK line)).inc))),.d (.v (.bool ((ae (pK line)).body)))],.bx 4 [.d (.v (.bool true))],.bx 64 [.fn 55 [.pt 2 0,.pt 4 0]],.bx 45 [.n (pK line),.z 0,.z 0,.z 0,.z 0,.d (.v (.int .u64 0)),.d (.v (.slice none 0 0))]]) tk mo hK al [(7,[(1,.ix (pK line) [.v (.string ⟨((ae (pK line)).word).toArray⟩),.v (.bool ((ae (pK line)).node)),.v (.bool ((ae (pK line)).peer)),.v (.bool ((ae (pK line)).n)),.v (.bool ((ae (pK line)).bit)),.v (.bool ((ae (pK line)).inc)),.v (.bool ((ae (pK line)).body))])]),(8,[(1,.n2 (0) (1))])] 14 [0,1,2,3,4,5,6] [2,4,6,7,8,9,10] r (by kernel_rfl) (U (aP ((pK line:Nat):Int)) (U ((by omega):(pK line)<14) (U (mT (by omega):List.take 7 (List.drop ((pK line)*7) (ai:List DV))=([.v (.string ⟨((ae (pK line)).word).toArray⟩),.v (.bool ((ae (pK line)).node)),.v (.bool ((ae (pK line)).peer)),.v (.bool ((ae (pK line)).n)),.v (.bool ((ae (pK line)).bit)),.v (.bool ((ae (pK line)).inc)),.v (.bool ((ae (pK line)).body))]:List DV)) (U (rfl:(1:Int)=((1:Nat):Int)) (U ((by have:=gD 32 line;simp [strs];omega):(1)≤(strs (aL 32 line):List (List DV)).length) trivial))))) fun ac wd r=>?_
    have r:=r.fE (E1:=[(2,.pt 1 0),(4,.pt 2 0),(6,.pt 3 0),(7,.pt 4 0),(8,.pt 5 0),(9,.fn 56 [.pt 5 0,.pt 4 0]),(10,.pt 6 0)]) (M1:=[.gw 0 ai,.bx 45 [.z 0,.z 0,.z 0,.z 0,.z 0,.d (.v (.int .u64 0)),.d (.v (.slice none 0 0))],.bx 93 [.d (.ro 1 (List.drop (1) (strs (aL 32 line))))],.bx 84 [.d (.v (.string ⟨((ae (pK line)).word).toArray⟩)),.d (.v (.bool ((ae (pK line)).node))),.d (.v (.bool ((ae (pK line)).peer))),.d (.v (.bool ((ae (pK line)).n))),.d (.v (.bool ((ae (pK line)).bit))),.d (.v (.bool ((ae (pK line)).inc))),.d (.v (.bool ((ae (pK line)).body)))],.bx 4 [.d (.v (.bool true))],.bx 64 [.fn 55 [.pt 2 0,.pt 4 0]],.bx 45 [.n (pK line),.z 0,.z 0,.z 0,.z 0,.d (.v (.int .u64 0)),.d (.v (.slice none 0 0))]]) (M2:=[.gw 0 ai,.bx 45 [.z 0,.z 0,.z 0,.z 0,.z 0,.d (.v (.int .u64 0)),.d (.v (.slice none 0 0))],.bx 93 [.d (.ro 1 (List.drop (1) (strs (aL 32 line))))],.bx 84 [.d (.v (.string ⟨((ae (pK line)).word).toArray⟩)),.d (.v (.bool ((ae (pK line)).node))),.d (.v (.bool ((ae (pK line)).peer))),.d (.v (.bool ((ae (pK line)).n))),.d (.v (.bool ((ae (pK line)).bit))),.d (.v (.bool ((ae (pK line)).inc))),.d (.v (.bool ((ae (pK line)).body)))],.bx 4 [.d (.v (.bool true))],.bx 64 [.fn 55 [.pt 2 0,.pt 4 0]],.bx 45 [.n (pK line),.z 0,.z 0,.z 0,.z 0,.d (.v (.int .u64 0)),.sl 7 (0)],.rw 5 1 ([])]) [] [(6,6,5,1)] (by kernel_rfl) (by kernel_rfl)
    refine bT (todo':=aft Tryd.f32 18) (E':=[(2,.pt 1 0),(4,.pt 2 0),(7,.pt 4 0),(8,.pt 5 0),(10,.pt 6 0),(71,.d (.v (.bool ((ae (pK line)).body))))]) (M':=[.gw 0 ai,.bx 45 [.z 0,.z 0,.z 0,.z 0,.z 0,.d (.v (.int .u64 0)),.d (.v (.slice none 0 0))],.bx 93 [.d (.ro 1 (strs (aV line).1))],.bx 84 [.d (.v (.string ⟨((ae (pK line)).word).toArray⟩)),.d (.v (.bool ((ae (pK line)).node))),.d (.v (.bool ((ae (pK line)).peer))),.d (.v (.bool ((ae (pK line)).n))),.d (.v (.bool ((ae (pK line)).bit))),.d (.v (.bool ((ae (pK line)).inc))),.d (.v (.bool ((ae (pK line)).body)))],.bx 4 [.d (.v (.bool ((aV line).2)))],.bx 64 [.fn 55 [.pt 2 0,.pt 4 0]],.bx 45 [.n (pK line),.n (pN (ae (pK line)).node 255 (fp line)),.n (pN (ae (pK line)).peer 255 (dS line)),.n (pN (ae (pK line)).n 255 (dT line)),.n (pN (ae (pK line)).bit 65535 (dU line)),.u (pN (ae (pK line)).inc 18446744073709551615 (eQ line)),.sl 7 (0)],.rw 5 1 ([])]) tk mo hK al [(13,[(3,.mem [2,4,5] (.u (pN (ae (pK line)).node 255 (fp line))) [.bx 93 [.d (.ro 1 (strs (dS line).1))],.bx 4 [.d (.v (.bool ((dS line).2)))],.bx 64 [.fn 55 [.pt 0 0,.pt 1 0]]]),(4,.z (((pN (ae (pK line)).node 255 (fp line):Nat):Int)))]),(14,[(3,.mem [2,4,5] (.u (pN (ae (pK line)).peer 255 (dS line))) [.bx 93 [.d (.ro 1 (strs (dT line).1))],.bx 4 [.d (.v (.bool ((dT line).2)))],.bx 64 [.fn 55 [.pt 0 0,.pt 1 0]]]),(4,.z (((pN (ae (pK line)).peer 255 (dS line):Nat):Int)))]),(15,[(3,.mem [2,4,5] (.u (pN (ae (pK line)).n 255 (dT line))) [.bx 93 [.d (.ro 1 (strs (dU line).1))],.bx 4 [.d (.v (.bool ((dU line).2)))],.bx 64 [.fn 55 [.pt 0 0,.pt 1 0]]]),(4,.z (((pN (ae (pK line)).n 255 (dT line):Nat):Int)))]),(16,[(3,.mem [2,4,5] (.u (pN (ae (pK line)).bit 65535 (dU line))) [.bx 93 [.d (.ro 1 (strs (eQ line).1))],.bx 4 [.d (.v (.bool ((eQ line).2)))],.bx 64 [.fn 55 [.pt 0 0,.pt 1 0]]]),(4,.z (((pN (ae (pK line)).bit 65535 (dU line):Nat):Int)))]),(17,[(3,.mem [2,4,5] (.u (pN (ae (pK line)).inc 18446744073709551615 (eQ line))) [.bx 93 [.d (.ro 1 (strs (aV line).1))],.bx 4 [.d (.v (.bool ((aV line).2)))],.bx 64 [.fn 55 [.pt 0 0,.pt 1 0]]])])] 13 [0,1,2,3,4,5,6,7] [2,4,7,8,10,71] r (by kernel_rfl) (U ((by rw [drop_one];exact qk _ _ (fp line) (by decide) (by decide) DG):aA Tryd.prog 56 [.d (.v (.bool ((ae (pK line)).node))),.d (.v (.int .u64 255)),.pt 2 0,.pt 1 0] [.bx 93 [.d (.ro 1 (List.drop (1) (strs (aL 32 line))))],.bx 4 [.d (.v (.bool true))],.bx 64 [.fn 55 [.pt 0 0,.pt 1 0]]] (.u (pN (ae (pK line)).node 255 (fp line))) [.bx 93 [.d (.ro 1 (strs (dS line).1))],.bx 4 [.d (.v (.bool ((dS line).2)))],.bx 64 [.fn 55 [.pt 0 0,.pt 1 0]]]) (U ((sT (by omega) (by have:=sS (ae (pK line)).node (fp line) (most:=255) (by decide);omega)):IntKind.i64.wrap (((pN (ae (pK line)).node 255 (fp line):Nat):Int))=((pN (ae (pK line)).node 255 (fp line):Nat):Int)) (U (qk _ _ (dS line) (by decide) (by decide) nV:aA Tryd.prog 56 [.d (.v (.bool ((ae (pK line)).peer))),.d (.v (.int .u64 255)),.pt 2 0,.pt 1 0] [.bx 93 [.d (.ro 1 (strs (dS line).1))],.bx 4 [.d (.v (.bool ((dS line).2)))],.bx 64 [.fn 55 [.pt 0 0,.pt 1 0]]] (.u (pN (ae (pK line)).peer 255 (dS line))) [.bx 93 [.d (.ro 1 (strs (dT line).1))],.bx 4 [.d (.v (.bool ((dT line).2)))],.bx 64 [.fn 55 [.pt 0 0,.pt 1 0]]]) (U ((sT (by omega) (by have:=sS (ae (pK line)).peer (dS line) (most:=255) (by decide);omega)):IntKind.i64.wrap (((pN (ae (pK line)).peer 255 (dS line):Nat):Int))=((pN (ae (pK line)).peer 255 (dS line):Nat):Int)) (U (qk _ _ (dT line) (by decide) (by decide) jD:aA Tryd.prog 56 [.d (.v (.bool ((ae (pK line)).n))),.d (.v (.int .u64 255)),.pt 2 0,.pt 1 0] [.bx 93 [.d (.ro 1 (strs (dT line).1))],.bx 4 [.d (.v (.bool ((dT line).2)))],.bx 64 [.fn 55 [.pt 0 0,.pt 1 0]]] (.u (pN (ae (pK line)).n 255 (dT line))) [.bx 93 [.d (.ro 1 (strs (dU line).1))],.bx 4 [.d (.v (.bool ((dU line).2)))],.bx 64 [.fn 55 [.pt 0 0,.pt 1 0]]]) (U ((sT (by omega) (by have:=sS (ae (pK line)).n (dT line) (most:=255) (by decide);omega)):IntKind.i64.wrap (((pN (ae (pK line)).n 255 (dT line):Nat):Int))=((pN (ae (pK line)).n 255 (dT line):Nat):Int)) (U (qk _ _ (dU line) (by decide) (by decide) DH:aA Tryd.prog 56 [.d (.v (.bool ((ae (pK line)).bit))),.d (.v (.int .u64 65535)),.pt 2 0,.pt 1 0] [.bx 93 [.d (.ro 1 (strs (dU line).1))],.bx 4 [.d (.v (.bool ((dU line).2)))],.bx 64 [.fn 55 [.pt 0 0,.pt 1 0]]] (.u (pN (ae (pK line)).bit 65535 (dU line))) [.bx 93 [.d (.ro 1 (strs (eQ line).1))],.bx 4 [.d (.v (.bool ((eQ line).2)))],.bx 64 [.fn 55 [.pt 0 0,.pt 1 0]]]) (U ((sT (by omega) (by have:=sS (ae (pK line)).bit (dU line) (most:=65535) (by decide);omega)):IntKind.i64.wrap (((pN (ae (pK line)).bit 65535 (dU line):Nat):Int))=((pN (ae (pK line)).bit 65535 (dU line):Nat):Int)) (U (qk _ _ (eQ line) (by decide) (by decide) DI:aA Tryd.prog 56 [.d (.v (.bool ((ae (pK line)).inc))),.d (.v (.int .u64 18446744073709551615)),.pt 2 0,.pt 1 0] [.bx 93 [.d (.ro 1 (strs (eQ line).1))],.bx 4 [.d (.v (.bool ((eQ line).2)))],.bx 64 [.fn 55 [.pt 0 0,.pt 1 0]]] (.u (pN (ae (pK line)).inc 18446744073709551615 (eQ line))) [.bx 93 [.d (.ro 1 (strs (aV line).1))],.bx 4 [.d (.v (.bool ((aV line).2)))],.bx 64 [.fn 55 [.pt 0 0,.pt 1 0]]]) trivial))))))))) fun ac wd r=>?_
    suffices rv:jz line=false→∀ ac wd,RB D w0 K 93 bs [(2,.pt 1 0),(3,.d (.v (.bool false)))] [.gw 0 ai,.bx 45 [.z 0,.z 0,.z 0,.z 0,.z 0,.d (.v (.int .u64 0)),.d (.v (.slice none 0 0))]] ac wd→aD Tryd.prog 32 (aft Tryd.f32 22) (eI D w0 K bs (pL (bL line)) (pg (bL line))) ac wd by
     cases h4:((ae (pK line)).body) with
     | false=>
      have r:=r.cast (E':=[(2,.pt 1 0),(4,.pt 2 0),(7,.pt 4 0),(8,.pt 5 0),(10,.pt 6 0),(71,.d (.v (.bool false)))]) (M':=[.gw 0 ai,.bx 45 [.z 0,.z 0,.z 0,.z 0,.z 0,.d (.v (.int .u64 0)),.d (.v (.slice none 0 0))],.bx 93 [.d (.ro 1 (strs (aV line).1))],.bx 84 [.d (.v (.string ⟨((ae (pK line)).word).toArray⟩)),.d (.v (.bool ((ae (pK line)).node))),.d (.v (.bool ((ae (pK line)).peer))),.d (.v (.bool ((ae (pK line)).n))),.d (.v (.bool ((ae (pK line)).bit))),.d (.v (.bool ((ae (pK line)).inc))),.d (.v (.bool false))],.bx 4 [.d (.v (.bool ((aV line).2)))],.bx 64 [.fn 55 [.pt 2 0,.pt 4 0]],.bx 45 [.n (pK line),.n (pN (ae (pK line)).node 255 (fp line)),.n (pN (ae (pK line)).peer 255 (dS line)),.n (pN (ae (pK line)).n 255 (dT line)),.n (pN (ae (pK line)).bit 65535 (dU line)),.u (pN (ae (pK line)).inc 18446744073709551615 (eQ line)),.sl 7 (0)],.rw 5 1 ([])]) (by rw [h4]) (by rw [h4])
      cases h5:((aV line).2) with
      | false=>
       have r:=r.cast (M':=[.gw 0 ai,.bx 45 [.z 0,.z 0,.z 0,.z 0,.z 0,.d (.v (.int .u64 0)),.d (.v (.slice none 0 0))],.bx 93 [.d (.ro 1 (strs (aV line).1))],.bx 84 [.d (.v (.string ⟨((ae (pK line)).word).toArray⟩)),.d (.v (.bool ((ae (pK line)).node))),.d (.v (.bool ((ae (pK line)).peer))),.d (.v (.bool ((ae (pK line)).n))),.d (.v (.bool ((ae (pK line)).bit))),.d (.v (.bool ((ae (pK line)).inc))),.d (.v (.bool false))],.bx 4 [.d (.v (.bool false))],.bx 64 [.fn 55 [.pt 2 0,.pt 4 0]],.bx 45 [.n (pK line),.n (pN (ae (pK line)).node 255 (fp line)),.n (pN (ae (pK line)).peer 255 (dS line)),.n (pN (ae (pK line)).n 255 (dT line)),.n (pN (ae (pK line)).bit 65535 (dU line)),.u (pN (ae (pK line)).inc 18446744073709551615 (eQ line)),.sl 7 (0)],.rw 5 1 ([])]) rfl (by rw [h5])
       refine bT (todo':=aft Tryd.f32 22) (E':=[(2,.pt 1 0),(3,.d (.v (.bool false)))]) (M':=[.gw 0 ai,.bx 45 [.z 0,.z 0,.z 0,.z 0,.z 0,.d (.v (.int .u64 0)),.d (.v (.slice none 0 0))]]) tk mo hK al [] 8 [0,1] [2,3] r (by kernel_rfl) trivial fun ac wd r=>?_
       exact rv (by rw [sD (by omega) h4];simp_all) ac wd (r.cast rfl rfl)
      | true=>
       have r:=r.cast (M':=[.gw 0 ai,.bx 45 [.z 0,.z 0,.z 0,.z 0,.z 0,.d (.v (.int .u64 0)),.d (.v (.slice none 0 0))],.bx 93 [.d (.ro 1 (strs (aV line).1))],.bx 84 [.d (.v (.string ⟨((ae (pK line)).word).toArray⟩)),.d (.v (.bool ((ae (pK line)).node))),.d (.v (.bool ((ae (pK line)).peer))),.d (.v (.bool ((ae (pK line)).n))),.d (.v (.bool ((ae (pK line)).bit))),.d (.v (.bool ((ae (pK line)).inc))),.d (.v (.bool false))],.bx 4 [.d (.v (.bool true))],.bx 64 [.fn 55 [.pt 2 0,.pt 4 0]],.bx 45 [.n (pK line),.n (pN (ae (pK line)).node 255 (fp line)),.n (pN (ae (pK line)).peer 255 (dS line)),.n (pN (ae (pK line)).n 255 (dT line)),.n (pN (ae (pK line)).bit 65535 (dU line)),.u (pN (ae (pK line)).inc 18446744073709551615 (eQ line)),.sl 7 (0)],.rw 5 1 ([])]) rfl (by rw [h5])
       cases h6:(decide ((0:Int)<(((strs (aV line).1).length:Nat):Int))) with
       | false=>
        have ia:=of_decide_eq_false h6
        have hE:=Cn ‹decide ((0:Int)<(((strs (aV line).1).length:Nat):Int))=false›
        refine a8 (y:=.tu [.ag [.n (pK line),.n (pN (ae (pK line)).node 255 (fp line)),.n (pN (ae (pK line)).peer 255 (dS line)),.n (pN (ae (pK line)).n 255 (dT line)),.n (pN (ae (pK line)).bit 65535 (dU line)),.u (pN (ae (pK line)).inc 18446744073709551615 (eQ line)),.sl 1 (0)],.d (.v (.bool true))]) (N':=[.gw 0 ai,.rw 5 1 ([])]) ((by rw [qh (by rw [sD (by omega) h4];simp_all)];simp [pL,pg,nD,pB,af,h4])) ((by rw [qh (by rw [sD (by omega) h4];simp_all)];simp [pL,pg,nD,pB,af,h4])) ?_
        exact a7 tk mo hK rfl al [(21,[(5,.b false)])] 2000 [0,7] r (by kernel_rfl) (U h6 trivial)
       | true=>
        have ia:=of_decide_eq_true h6
        have hE:=Cm ‹decide ((0:Int)<(((strs (aV line).1).length:Nat):Int))=true›
        refine bT (todo':=aft Tryd.f32 22) (E':=[(2,.pt 1 0),(3,.d (.v (.bool false)))]) (M':=[.gw 0 ai,.bx 45 [.z 0,.z 0,.z 0,.z 0,.z 0,.d (.v (.int .u64 0)),.d (.v (.slice none 0 0))]]) tk mo hK al [(21,[(5,.b true)])] 8 [0,1] [2,3] r (by kernel_rfl) (U h6 trivial) fun ac wd r=>?_
        exact rv (by rw [sD (by omega) h4];simp_all) ac wd (r.cast rfl rfl)
     | true=>
      have r:=r.cast (E':=[(2,.pt 1 0),(4,.pt 2 0),(7,.pt 4 0),(8,.pt 5 0),(10,.pt 6 0),(71,.d (.v (.bool true)))]) (M':=[.gw 0 ai,.bx 45 [.z 0,.z 0,.z 0,.z 0,.z 0,.d (.v (.int .u64 0)),.d (.v (.slice none 0 0))],.bx 93 [.d (.ro 1 (strs (aV line).1))],.bx 84 [.d (.v (.string ⟨((ae (pK line)).word).toArray⟩)),.d (.v (.bool ((ae (pK line)).node))),.d (.v (.bool ((ae (pK line)).peer))),.d (.v (.bool ((ae (pK line)).n))),.d (.v (.bool ((ae (pK line)).bit))),.d (.v (.bool ((ae (pK line)).inc))),.d (.v (.bool true))],.bx 4 [.d (.v (.bool ((aV line).2)))],.bx 64 [.fn 55 [.pt 2 0,.pt 4 0]],.bx 45 [.n (pK line),.n (pN (ae (pK line)).node 255 (fp line)),.n (pN (ae (pK line)).peer 255 (dS line)),.n (pN (ae (pK line)).n 255 (dT line)),.n (pN (ae (pK line)).bit 65535 (dU line)),.u (pN (ae (pK line)).inc 18446744073709551615 (eQ line)),.sl 7 (0)],.rw 5 1 ([])]) (by rw [h4]) (by rw [h4])
      cases h7:((ew (bR (aV line))).2) with
      | false=>
       have dR:=((by have k:=yZ (bR (aV line));rw [h7] at k;exact k):aB Tryd.prog 57 [.d (.v (.string ⟨(bR (aV line)).toArray⟩))] (.tu [.em 5 1 (af (ew (bR (aV line))).1),.v (.bool false)]))
       have ic:=(px _:(jR (Value.bool (bn (aV line)).2)==some true)=(bn (aV line)).2)
       have ie:=(o0 _ _:∃ b0:Bool,(Value.bool (bn (aV line)).2)=.bool b0∧(bif b0 then (bif (bn (aV line)).2 then Value.bool false else undef) else Value.bool false)=.bool ((bn (aV line)).2&&false))
       cases h8:(((bn (aV line)).2&&false)) with
       | false=>
        refine bT (todo':=aft Tryd.f32 22) (E':=[(2,.pt 1 0),(3,.d (.v (.bool false)))]) (M':=[.gw 0 ai,.bx 45 [.z 0,.z 0,.z 0,.z 0,.z 0,.d (.v (.int .u64 0)),.d (.v (.slice none 0 0))]]) tk mo hK al [(19,[(1,.mem [2,4] (.d (.v (.string ⟨(bR (aV line)).toArray⟩))) [.bx 93 [.d (.ro 1 (strs (bn (aV line)).1))],.bx 4 [.d (.v (.bool ((bn (aV line)).2)))]]),(2,.aO (.tu [.em 5 1 (af (ew (bR (aV line))).1),.v (.bool false)]))]),(20,[(3,.may (bn (aV line)).2 (.n 0)),(4,.res (.v (.bool ((bn (aV line)).2&&false))))]),(21,[(1,.b true)])] 10 [0,1] [2,3] r (by kernel_rfl) (U (oP (aV line)) (U dR (U ic (U (fun hc=>trivial:(bn (aV line)).2=true→True) (U ie (U ((by rw [h8];rfl):(!(((bn (aV line)).2&&false)))=true) trivial)))))) fun ac wd r=>?_
        exact rv (by rw [ql (by omega) h4];simp_all) ac wd (r.cast rfl rfl)
       | true=>
        exact absurd h8 (by simp)
      | true=>
       have eC:=((by have k:=yZ (bR (aV line));rw [h7] at k;exact k):aB Tryd.prog 57 [.d (.v (.string ⟨(bR (aV line)).toArray⟩))] (.tu [.em 5 1 (af (ew (bR (aV line))).1),.v (.bool true)]))
       have fM:=(px _:(jR (Value.bool (bn (aV line)).2)==some true)=(bn (aV line)).2)
       have fZ:=(o0 _ _:∃ b0:Bool,(Value.bool (bn (aV line)).2)=.bool b0∧(bif b0 then (bif (bn (aV line)).2 then Value.bool true else undef) else Value.bool false)=.bool ((bn (aV line)).2&&true))
       cases h9:(((bn (aV line)).2&&true)) with
       | false=>
        refine bT (todo':=aft Tryd.f32 22) (E':=[(2,.pt 1 0),(3,.d (.v (.bool false)))]) (M':=[.gw 0 ai,.bx 45 [.z 0,.z 0,.z 0,.z 0,.z 0,.d (.v (.int .u64 0)),.d (.v (.slice none 0 0))]]) tk mo hK al [(19,[(1,.mem [2,4] (.d (.v (.string ⟨(bR (aV line)).toArray⟩))) [.bx 93 [.d (.ro 1 (strs (bn (aV line)).1))],.bx 4 [.d (.v (.bool ((bn (aV line)).2)))]]),(2,.aO (.tu [.em 5 1 (af (ew (bR (aV line))).1),.v (.bool true)]))]),(20,[(3,.may (bn (aV line)).2 (.n 0)),(4,.res (.v (.bool ((bn (aV line)).2&&true))))]),(21,[(1,.b true)])] 10 [0,1] [2,3] r (by kernel_rfl) (U (oP (aV line)) (U eC (U fM (U (fun hc=>trivial:(bn (aV line)).2=true→True) (U fZ (U ((by rw [h9];rfl):(!(((bn (aV line)).2&&true)))=true) trivial)))))) fun ac wd r=>?_
        exact rv (by rw [ql (by omega) h4];simp_all) ac wd (r.cast rfl rfl)
       | true=>
        cases dm:(decide ((0:Int)<(((strs (bn (aV line)).1).length:Nat):Int))) with
        | false=>
         have nC:=of_decide_eq_false dm
         have hE:=Cn ‹decide ((0:Int)<(((strs (bn (aV line)).1).length:Nat):Int))=false›
         refine a8 (y:=.tu [.ag [.n (pK line),.n (pN (ae (pK line)).node 255 (fp line)),.n (pN (ae (pK line)).peer 255 (dS line)),.n (pN (ae (pK line)).n 255 (dT line)),.n (pN (ae (pK line)).bit 65535 (dU line)),.u (pN (ae (pK line)).inc 18446744073709551615 (eQ line)),.sl 1 ((af (ew (bR (aV line))).1).length)],.d (.v (.bool true))]) (N':=[.gw 0 ai,.rw 5 1 (af (ew (bR (aV line))).1)]) ((by rw [qh (by rw [ql (by omega) h4];simp_all)];simp [pL,pg,nD,pB,af,h4])) ((by rw [qh (by rw [ql (by omega) h4];simp_all)];simp [pL,pg,nD,pB,af,h4])) ?_
         exact a7 tk mo hK rfl al [(19,[(1,.mem [2,4] (.d (.v (.string ⟨(bR (aV line)).toArray⟩))) [.bx 93 [.d (.ro 1 (strs (bn (aV line)).1))],.bx 4 [.d (.v (.bool ((bn (aV line)).2)))]]),(2,.aO (.tu [.em 5 1 (af (ew (bR (aV line))).1),.v (.bool true)]))]),(20,[(3,.may (bn (aV line)).2 (.n 0)),(4,.res (.v (.bool ((bn (aV line)).2&&true))))]),(21,[(1,.b false),(5,.b false)])] 2000 [0,8] r (by kernel_rfl) (U (oP (aV line)) (U eC (U fM (U (fun hc=>trivial:(bn (aV line)).2=true→True) (U fZ (U ((by rw [h9];rfl):(!(((bn (aV line)).2&&true)))=false) (U dm trivial)))))))
        | true=>
         have nC:=of_decide_eq_true dm
         have hE:=Cm ‹decide ((0:Int)<(((strs (bn (aV line)).1).length:Nat):Int))=true›
         refine bT (todo':=aft Tryd.f32 22) (E':=[(2,.pt 1 0),(3,.d (.v (.bool false)))]) (M':=[.gw 0 ai,.bx 45 [.z 0,.z 0,.z 0,.z 0,.z 0,.d (.v (.int .u64 0)),.d (.v (.slice none 0 0))]]) tk mo hK al [(19,[(1,.mem [2,4] (.d (.v (.string ⟨(bR (aV line)).toArray⟩))) [.bx 93 [.d (.ro 1 (strs (bn (aV line)).1))],.bx 4 [.d (.v (.bool ((bn (aV line)).2)))]]),(2,.aO (.tu [.em 5 1 (af (ew (bR (aV line))).1),.v (.bool true)]))]),(20,[(3,.may (bn (aV line)).2 (.n 0)),(4,.res (.v (.bool ((bn (aV line)).2&&true))))]),(21,[(1,.b false),(5,.b true)])] 10 [0,1] [2,3] r (by kernel_rfl) (U (oP (aV line)) (U eC (U fM (U (fun hc=>trivial:(bn (aV line)).2=true→True) (U fZ (U ((by rw [h9];rfl):(!(((bn (aV line)).2&&true)))=false) (U dm trivial))))))) fun ac wd r=>?_
         exact rv (by rw [ql (by omega) h4];simp_all) ac wd (r.cast rfl rfl)
    intro hJ ac wd r
    have r:=r.fE (E1:=[(2,.pt 1 0),(3,.d (.v (.bool false)))]) (M1:=[.gw 0 ai,.bx 45 [.z 0,.z 0,.z 0,.z 0,.z 0,.d (.v (.int .u64 0)),.d (.v (.slice none 0 0))]]) (M2:=[.gw 0 ai,.bx 45 [.z 0,.z 0,.z 0,.z 0,.z 0,.d (.v (.int .u64 0)),.sl 2 (0)],.rw 5 1 ([])]) [] [(1,6,5,1)] (by kernel_rfl) (by kernel_rfl)
    refine a8 (y:=.tu [.ag [.z 0,.z 0,.z 0,.z 0,.z 0,.d (.v (.int .u64 0)),.sl 1 (0)],.d (.v (.bool false))]) (N':=[.gw 0 ai,.rw 5 1 ([])]) ((by rw [sC hJ];rfl)) ((by rw [sC hJ];rfl)) ?_
    exact a7 tk mo hK rfl al [] 2000 [0,2] r (by kernel_rfl) trivial
   | true=>
    have dQ:=eq_of_beq h3
    exact absurd dQ (by omega)
end Go.Proofs.YtcnpikbbmbombaaDoor
namespace Go.Proofs.YtcnpikbbmbombaaDoor
open Go.RowKit
def gl (w:List UInt8):Int:=(((aH w 255).1:Nat):Int)
def cK (w:List UInt8):List UInt8×List UInt8:=if 0<w.count 45 then (ay 45 w,bW 45 w) else (w,[])
abbrev rA:=List (Int×Int)×List Int×Bool×Bool
def ft (s:rA) (w:List UInt8):rA:=
 if s.2.2.1=true then (s.1,s.2.1++[gl w],true,s.2.2.2&&(aH w 255).2)
 else if w=[58] then (s.1,s.2.1,true,s.2.2.2)
 else (s.1++[(gl (cK w).1,gl (cK w).2)],s.2.1,false,s.2.2.2&&(aH (cK w).1 255).2&&(aH (cK w).2 255).2)
theorem vk {ws:List (List UInt8)} {i:Nat} {w:List UInt8} {s0 s s2:rA} (g:ws[i]?=some w) (h:(ws.take i).foldl ft s0=s) (e:ft s w=s2):(ws.take (i+1)).foldl ft s0=s2:=by
 rw [List.take_add_one,g,Option.toList_some,List.foldl_append,h];exact e
theorem Og (L:List (Int×Int)) (H:List Int) (g:Bool) (w:List UInt8):ft (L,H,true,g) w=(L,H++[(((aH w 255).1:Nat):Int)],true,g&&(aH w 255).2):=rfl
theorem Oh {L:List (Int×Int)} {H:List Int} {g:Bool} {w:List UInt8} (h:(w==([58]:List UInt8))=true):ft (L,H,false,g) w=(L,H,true,g):=by
 have:w=[58]:=by simpa using h
 subst this;rfl
theorem Oi {L:List (Int×Int)} {H:List Int} {g:Bool} {w:List UInt8} (h:(w==([58]:List UInt8))=false):ft (L,H,false,g) w=(L++[((((aH (cK w).1 255).1:Nat):Int),(((aH (cK w).2 255).1:Nat):Int))],H,false,(g&&(aH (cK w).1 255).2)&&(aH (cK w).2 255).2):=by
 have hw:w≠[58]:=by intro e;subst e;simp at h
 unfold ft;rw [if_neg (by simp),if_neg hw];rfl
theorem so (c:UInt8) (s:List UInt8):(ay c s).length≤s.length:=by
 have:=congrArg List.length (p5 (c:=c) s);simp at this;omega
theorem Jh (c:UInt8) (s:List UInt8):(bW c s).length≤s.length:=by unfold bW;simp
theorem vn (w:List UInt8):(cK w).1.length≤w.length∧(cK w).2.length≤w.length:=by
 unfold cK;split
 ·exact ⟨so _ _,Jh _ _⟩
 ·exact ⟨Nat.le_refl _,Nat.zero_le _⟩
theorem Ks (w:List UInt8) (hl:w.length≤1048576):aB Tryd.prog 51 [.d (.v (.string ⟨w.toArray⟩)),.d (.v (.string ⟨[45].toArray⟩))] (.tu [.v (.string ⟨(cK w).1.toArray⟩),.v (.string ⟨(cK w).2.toArray⟩),.v (.bool (decide (0<w.count 45)))]):=by
 by_cases h:0<w.count 45
 ·unfold cK;rw [if_pos h,decide_eq_true h];exact oF 45 w (by omega) h
 ·unfold cK;rw [if_neg h,decide_eq_false h];exact BF 45 w (by omega) (by omega)
def dG (l:List UInt8):List (List UInt8):=(aL 32 l).drop 2
def cE (l:List UInt8):List UInt8:=(aL 32 l).getD 1 []
def kH (l:List UInt8):rA:=(dG l).foldl ft ([],[],false,(aH (cE l) 255).2)
def kB (l:List UInt8):bk:=⟨gl (cE l),(kH l).1,(kH l).2.1⟩
noncomputable def iG (l:List UInt8):Bool:=(decide (3≤(aL 32 l).length)&&(bR (aL 32 l,true)==[119,111,114,108,100]))&&(((kH l).2.2.2&&(kH l).2.2.1)&&cf (kB l))
noncomputable def dH (l:List UInt8):bk×Bool:=cond (iG l) (kB l,true) (⟨0,[],[]⟩,false)
def yI (q:bk×Bool):AV:=.tu [.ag [.z q.1.aq,.sl 0 q.1.ah.length,.sl 1 q.1.homes.length],.d (.v (.bool q.2))]
def xR (q:bk×Bool):List aj:=[.rw 71 2 (ah q.1.ah),.rw 3 1 (ints q.1.homes)]
theorem oQ {l:List UInt8} (h:iG l=false):dH l=(⟨0,[],[]⟩,false):=by unfold dH;rw [h];rfl
theorem sq {l:List UInt8} (h:iG l=true):dH l=(kB l,true):=by unfold dH;rw [h];rfl
theorem BN {l:List UInt8} (h:(aL 32 l).length<3):iG l=false:=by unfold iG;rw [decide_eq_false (by omega)];rfl
theorem BO {l:List UInt8} (h:(bR (aL 32 l,true)==[119,111,114,108,100])=false):iG l=false:=by unfold iG;rw [h,Bool.and_false];rfl
theorem o2 {l:List UInt8} {i:Nat} {s:rA} (hi:(dG l).length≤i) (h:((dG l).take i).foldl ft ([],[],false,(aH (cE l) 255).2)=s):kH l=s:=by rw [List.take_of_length_le hi] at h;exact h
theorem sU {l:List UInt8} {L:List (Int×Int)} {H:List Int} {b g:Bool} (e:kH l=(L,H,b,g)) (h:((g&&b)&&cf ⟨gl (cE l),L,H⟩)=false):iG l=false:=by unfold iG kB;rw [e];simp only [h,Bool.and_false]
theorem wc {l:List UInt8} {L:List (Int×Int)} {H:List Int} (e:kH l=(L,H,true,true)) (h3:3≤(aL 32 l).length) (hw:(bR (aL 32 l,true)==[119,111,114,108,100])=true) (h:cf ⟨gl (cE l),L,H⟩=true):iG l=true:=by unfold iG kB;rw [e,hw,decide_eq_true h3];simp only [h];rfl
theorem uJ {l:List UInt8} {i:Nat} {x:List UInt8} (h:(dG l)[i]?=some x):(List.drop 2 (strs (aL 32 l)))[i]?=some [.v (.string ⟨x.toArray⟩)]:=by unfold strs;rw [← List.map_drop,List.getElem?_map];unfold dG at h;rw [h];rfl
theorem Ga {l:List UInt8} (h:3≤(aL 32 l).length):(strs (aL 32 l))[1]?=some [.v (.string ⟨(cE l).toArray⟩)]:=by
 unfold strs cE;rw [List.getElem?_map,List.getD_eq_getElem?_getD,List.getElem?_eq_getElem (by omega)];rfl
theorem Ji (l:List UInt8):(dG l).length=(aL 32 l).length-2:=by unfold dG;simp
theorem BP {l:List UInt8} {i:Nat} {x:List UInt8} (hl:l.length≤1048576) (h:(dG l)[i]?=some x):x.length≤1048576:=Nat.le_trans (ox (List.mem_of_mem_drop (List.mem_of_getElem? h))) hl
theorem Kt {l:List UInt8} (hl:l.length≤1048576):(cE l).length≤1048576:=by
 unfold cE;rw [List.getD_eq_getElem?_getD]
 cases h:(aL 32 l)[1]? with
 | none=>exact Nat.zero_le _
 | some x=>exact Nat.le_trans (ox (List.mem_of_getElem? h)) hl
set_option maxRecDepth 100000 in
theorem sE (x:List UInt8) (g:Bool) (hl:x.length≤1048576):aA Tryd.prog 53 [.d (.v (.string ⟨x.toArray⟩)),.pt 0 0] [.bx 4 [.d (.v (.bool g))]] (.n (aH x 255).1) ([.bx 4 [.d (.v (.bool (g&&(aH x 255).2)))]]):=by
 refine aA.intro (by kernel_rfl) rfl rfl 17 rfl rfl fun D w0 K bs ac wd hK (al:bs.m=1) r=>?_
 cases h0:((aH x 255).2) with
 | false=>
  refine a8 (y:=.n ((aH x 255).1)) (N':=[.bx 4 [.d (.v (.bool ((g&&false))))]]) (rfl) (rfl) ?_
  exact a7 tk mo hK rfl al [(1,[(1,.aO (.tu [.u ((aH x 255).1),.v (.bool false)]))]),(2,[(2,.may g (.n 0)),(3,.res (.v (.bool (g&&false))))]),(3,[(1,.z ((((aH x 255).1:Nat):Int)))])] 2000 [0] r (by kernel_rfl) (U ((by have k:=r5 x 255 (by omega) (by omega) (by omega);rw [h0] at k;exact k):aB Tryd.prog 54 [.d (.v (.string ⟨x.toArray⟩)),.d (.v (.int .u64 255))] (.tu [.u ((aH x 255).1),.v (.bool false)])) (U (px _:(jR (Value.bool g)==some true)=g) (U (fun hc=>trivial:g=true→True) (U (o0 _ _:∃ b0:Bool,(Value.bool g)=.bool b0∧(bif b0 then (bif g then Value.bool false else undef) else Value.bool false)=.bool (g&&false)) (U ((wi (by have:=vi x (most:=255) (by omega);omega)):IntKind.i64.wrap ((((aH x 255).1:Nat):Int))=(((aH x 255).1:Nat):Int)) trivial)))))
 | true=>
  refine a8 (y:=.n ((aH x 255).1)) (N':=[.bx 4 [.d (.v (.bool ((g&&true))))]]) (rfl) (rfl) ?_
  exact a7 tk mo hK rfl al [(1,[(1,.aO (.tu [.u ((aH x 255).1),.v (.bool true)]))]),(2,[(2,.may g (.n 0)),(3,.res (.v (.bool (g&&true))))]),(3,[(1,.z ((((aH x 255).1:Nat):Int)))])] 2000 [0] r (by kernel_rfl) (U ((by have k:=r5 x 255 (by omega) (by omega) (by omega);rw [h0] at k;exact k):aB Tryd.prog 54 [.d (.v (.string ⟨x.toArray⟩)),.d (.v (.int .u64 255))] (.tu [.u ((aH x 255).1),.v (.bool true)])) (U (px _:(jR (Value.bool g)==some true)=g) (U (fun hc=>trivial:g=true→True) (U (o0 _ _:∃ b0:Bool,(Value.bool g)=.bool b0∧(bif b0 then (bif g then Value.bool true else undef) else Value.bool false)=.bool (g&&true)) (U ((wi (by have:=vi x (most:=255) (by omega);omega)):IntKind.i64.wrap ((((aH x 255).1:Nat):Int))=(((aH x 255).1:Nat):Int)) trivial)))))
set_option maxRecDepth 100000 in
theorem yP (line:List UInt8) (hl:line.length≤1048576):aA Tryd.prog 31 [.d (.v (.string ⟨line.toArray⟩))] [] (yI (dH line)) (xR (dH line)):=by
 refine aA.intro (by kernel_rfl) rfl rfl 85 rfl rfl fun D w0 K bs ac wd hK (al:bs.m=0) r=>?_
 have aZ:=((by first | rfl | (simp [strs];done) | (simp [strs,dG];done) | (simp [strs];omega)):(((strs (aL 32 line)).length:Nat):Int)=(((aL 32 line).length:Nat):Int))
 cases h0:(decide (((((aL 32 line).length:Nat):Int):Int)<3)) with
 | false=>
  have bH:=of_decide_eq_false h0
  have bO:=(Ax 32 line:(strs (aL 32 line))[0]?=some [.v (.string ⟨(bR (aL 32 line,true)).toArray⟩)])
  cases h1:((bR (aL 32 line,true))==([119,111,114,108,100]:List UInt8)) with
  | false=>
   refine bT (todo':=aft Tryd.f31 3) (E':=[(2,.pt 0 0),(3,.d (.v (.bool false))),(4,.d (.ro 1 (strs (aL 32 line))))]) (M':=[.bx 25 [.z 0,.d (.v (.slice none 0 0)),.d (.v (.slice none 0 0))]]) tk mo hK al [(1,[(1,.aO (.ro 1 (strs (aL 32 line))))]),(2,[(1,.z ((((aL 32 line).length:Nat):Int))),(2,.b false),(5,.ix (0) [.v (.string ⟨(bR (aL 32 line,true)).toArray⟩)]),(7,.b true)])] 10 [0] [2,3,4] r (by kernel_rfl) (U (sj 32 line hl) (U aZ (U h0 (U (rfl:(0)=((0:Nat):Int)) (U bO (U ((by simpa [bne] using h1):((bR (aL 32 line,true)) != ([119,111,114,108,100]:List UInt8))=true) trivial)))))) fun ac wd r=>?_
   have r:=r.fE (E1:=[(2,.pt 0 0),(3,.d (.v (.bool false))),(4,.d (.ro 1 (strs (aL 32 line))))]) (M1:=[.bx 25 [.z 0,.d (.v (.slice none 0 0)),.d (.v (.slice none 0 0))]]) (M2:=[.bx 25 [.z 0,.sl 1 (0),.sl 2 (0)],.rw 71 2 ([]),.rw 3 1 ([])]) [] [(0,1,71,2),(0,2,3,1)] (by kernel_rfl) (by kernel_rfl)
   refine a8 (y:=.tu [.ag [.z 0,.sl 0 (0),.sl 1 (0)],.d (.v (.bool false))]) (N':=[.rw 71 2 ([]),.rw 3 1 ([])]) ((by rw [oQ (BO h1)];rfl)) ((by rw [oQ (BO h1)];rfl)) ?_
   exact a7 tk mo hK rfl al [] 2000 [1,2] r (by kernel_rfl) trivial
  | true=>
   refine bT (todo':=aft Tryd.f31 7) (E':=[(2,.pt 0 0),(3,.d (.v (.bool false))),(4,.d (.ro 1 (strs (aL 32 line)))),(5,.pt 1 0),(6,.fn 53 [.pt 1 0]),(7,.pt 2 0),(8,.d (.v (.bool false)))]) (M':=[.bx 25 [.z 0,.d (.v (.slice none 0 0)),.d (.v (.slice none 0 0))],.bx 4 [.d (.v (.bool ((true&&(aH (cE line) 255).2))))],.bx 25 [.n ((aH (cE line) 255).1),.d (.v (.slice none 0 0)),.d (.v (.slice none 0 0))]]) tk mo hK al [(1,[(1,.aO (.ro 1 (strs (aL 32 line))))]),(2,[(1,.z ((((aL 32 line).length:Nat):Int))),(2,.b false),(5,.ix (0) [.v (.string ⟨(bR (aL 32 line,true)).toArray⟩)]),(7,.b false)]),(6,[(2,.ix (1) [.v (.string ⟨(cE line).toArray⟩)]),(4,.mem [1] (.n ((aH (cE line) 255).1)) [.bx 4 [.d (.v (.bool ((true&&(aH (cE line) 255).2))))]])])] 17 [0,1,2] [2,3,4,5,6,7,8] r (by kernel_rfl) (U (sj 32 line hl) (U aZ (U h0 (U (rfl:(0)=((0:Nat):Int)) (U bO (U ((by simpa [bne] using h1):((bR (aL 32 line,true)) != ([119,111,114,108,100]:List UInt8))=false) (U (rfl:(1)=((1:Nat):Int)) (U (Ga (by omega):(strs (aL 32 line))[1]?=some [.v (.string ⟨(cE line).toArray⟩)]) (U (sE (cE line) true (Kt hl)) trivial))))))))) fun ac wd r=>?_
   suffices n6:iG line=false→∀ ac wd,RB D w0 K 85 bs [(2,.pt 0 0),(3,.d (.v (.bool false)))] [.bx 25 [.z 0,.d (.v (.slice none 0 0)),.d (.v (.slice none 0 0))]] ac wd→aD Tryd.prog 31 (aft Tryd.f31 19) (eI D w0 K bs (yI (dH line)) (xR (dH line))) ac wd by
    refine cd (todo':=hd Tryd.f31 0) (E':=[(2,.pt 0 0),(5,.pt 1 0),(6,.fn 53 [.pt 1 0]),(7,.pt 2 0),(8,.d (.v (.bool false))),(34,.d (.ro 1 (List.drop (2) (strs (aL 32 line))))),(35,.n ((dG line).length)),(36,.z 0)]) (M':=[.bx 25 [.z 0,.d (.v (.slice none 0 0)),.d (.v (.slice none 0 0))],.bx 4 [.d (.v (.bool ((true&&(aH (cE line) 255).2))))],.bx 25 [.n ((aH (cE line) 255).1),.d (.v (.slice none 0 0)),.d (.v (.slice none 0 0))]]) tk mo hK al [(8,[(1,.n2 (0) (2)),(2,.z ((((dG line).length:Nat):Int)))])] 2000 [0,1,2] [2,5,6,7,8,34,35,36] r (by kernel_rfl) (U (rfl:(2:Int)=((2:Nat):Int)) (U ((by have:=gD 32 line;simp [strs];omega):(2)≤(strs (aL 32 line):List (List DV)).length) (U ((by first | rfl | (simp [strs];done) | (simp [strs,dG];done) | (simp [strs];omega)):(((List.drop (2) (strs (aL 32 line))).length:Nat):Int)=(((dG line).length:Nat):Int)) trivial))) fun ac wd r=>?_
    refine aD.rounds (Φ:=fun (i:Nat) ac wd=>∃ L:List (Int×Int),∃ H:List Int,∃ bh:Bool,∃ g:Bool,(i≤(dG line).length∧((dG line).take i).foldl ft ([],[],false,(aH (cE line) 255).2)=(L,H,bh,g)∧L.length≤i∧H.length≤i)∧RB D w0 K 85 bs [(2,.pt 0 0),(5,.pt 1 0),(6,.fn 53 [.pt 1 0]),(7,.pt 2 0),(8,.d (.v (.bool bh))),(34,.d (.ro 1 (List.drop 2 (strs (aL 32 line))))),(35,.n ((dG line).length)),(36,.n i)] [.bx 25 [.z 0,.d (.v (.slice none 0 0)),.d (.v (.slice none 0 0))],.bx 4 [.d (.v (.bool g))],.bx 25 [.n ((aH (cE line) 255).1),.sl 3 (L.length),.sl 4 (H.length)],.rw 71 2 (ah L),.rw 3 1 (ints H)] ac wd) ((dG line).length) ?_ (Nat.zero_le _) ⟨[],[],false,(aH (cE line) 255).2,⟨Nat.zero_le _,rfl,Nat.le_refl _,Nat.le_refl _⟩,(r.fE (E1:=[(2,.pt 0 0),(5,.pt 1 0),(6,.fn 53 [.pt 1 0]),(7,.pt 2 0),(8,.d (.v (.bool false))),(34,.d (.ro 1 (List.drop (2) (strs (aL 32 line))))),(35,.n ((dG line).length)),(36,.z 0)]) (M2:=[.bx 25 [.z 0,.d (.v (.slice none 0 0)),.d (.v (.slice none 0 0))],.bx 4 [.d (.v (.bool ((true&&(aH (cE line) 255).2))))],.bx 25 [.n ((aH (cE line) 255).1),.sl 3 (0),.sl 4 (0)],.rw 71 2 ([]),.rw 3 1 ([])]) (M1:=[.bx 25 [.z 0,.d (.v (.slice none 0 0)),.d (.v (.slice none 0 0))],.bx 4 [.d (.v (.bool ((true&&(aH (cE line) 255).2))))],.bx 25 [.n ((aH (cE line) 255).1),.d (.v (.slice none 0 0)),.d (.v (.slice none 0 0))]]) [] [(2,1,71,2),(2,2,3,1)] (by kernel_rfl) (by kernel_rfl)).cast rfl rfl⟩
    clear r
    rintro i eA bP ac wd ⟨L,H,bh,g,ao,r⟩
    have PA:=Ji line
    have dN:=gD 32 line
    have Dl:=List.count_le_length (a:=(32:UInt8)) (l:=line)
    have DJ:L.length≤9223372036854775807:=by omega
    have DK:H.length≤9223372036854775807:=by omega
    cases bh with
    | false=>
     cases h2:(decide ((((i:Nat):Int):Int)<(((dG line).length:Nat):Int))) with
     | false=>
      have c8:=of_decide_eq_false h2
      cases h3:(g) with
      | false=>
       refine bT (todo':=aft Tryd.f31 19) (E':=[(2,.pt 0 0),(3,.d (.v (.bool false)))]) (M':=[.bx 25 [.z 0,.d (.v (.slice none 0 0)),.d (.v (.slice none 0 0))]]) tk mo hK al [(9,[(0,.b false)]),(18,[(1,.b true)])] 11 [0] [2,3] r (by kernel_rfl) (U h2 (U ((by rw [h3];rfl):(!(g))=true) trivial)) fun ac wd r=>?_
       exact n6 (sU (o2 (by omega) ao.2.1) (by simp [h3])) ac wd (r.cast rfl rfl)
      | true=>
       refine bT (todo':=aft Tryd.f31 19) (E':=[(2,.pt 0 0),(3,.d (.v (.bool false)))]) (M':=[.bx 25 [.z 0,.d (.v (.slice none 0 0)),.d (.v (.slice none 0 0))]]) tk mo hK al [(9,[(0,.b false)]),(18,[(1,.b false)])] 11 [0] [2,3] r (by kernel_rfl) (U h2 (U ((by rw [h3];rfl):(!(g))=false) trivial)) fun ac wd r=>?_
       exact n6 (sU (o2 (by omega) ao.2.1) (by simp [h3])) ac wd (r.cast rfl rfl)
     | true=>
      have c8:=of_decide_eq_true h2
      obtain ⟨cA,kS⟩:∃ x_,(dG line)[i]?=some x_:=⟨_,List.getElem?_eq_getElem (by omega)⟩
      have DL:=BP hl kS
      cases h4:(cA==([58]:List UInt8)) with
      | false=>
       exact cd (todo':=hd Tryd.f31 0) (E':=[(2,.pt 0 0),(5,.pt 1 0),(6,.fn 53 [.pt 1 0]),(7,.pt 2 0),(8,.d (.v (.bool false))),(34,.d (.ro 1 (List.drop 2 (strs (aL 32 line))))),(35,.n ((dG line).length)),(36,.n (i+1))]) (M':=[.bx 25 [.z 0,.d (.v (.slice none 0 0)),.d (.v (.slice none 0 0))],.bx 4 [.d (.v (.bool (((g&&(aH ((cK cA).1) 255).2)&&(aH ((cK cA).2) 255).2))))],.bx 25 [.n ((aH (cE line) 255).1),.sl 3 (L.length+(1)),.sl 4 (H.length)],.rw 71 2 (ah L++[[.n ((aH ((cK cA).1) 255).1),.n ((aH ((cK cA).2) 255).1)]]),.rw 3 1 (ints H)]) tk mo hK al [(9,[(0,.b true)]),(10,[(0,.ix (i) [.v (.string ⟨cA.toArray⟩)])]),(11,[(1,.aO (.tu [.v (.string ⟨((cK cA).1).toArray⟩),.v (.string ⟨((cK cA).2).toArray⟩),.v (.bool (decide (0<cA.count 45)))]))]),(12,[(4,.mem [1] (.n ((aH ((cK cA).1) 255).1)) [.bx 4 [.d (.v (.bool ((g&&(aH ((cK cA).1) 255).2))))]]),(7,.mem [1] (.n ((aH ((cK cA).2) 255).1)) [.bx 4 [.d (.v (.bool (((g&&(aH ((cK cA).1) 255).2)&&(aH ((cK cA).2) 255).2))))]])]),(15,[(1,.b false)]),(17,[(0,.z (((i+1:Nat):Int)))])] 2000 [0,1,2,3,4] [2,5,6,7,8,34,35,36] r (by kernel_rfl) (U h2 (U (aP ((i:Nat):Int)) (U (uJ kS) (U h4 (U (Ks cA DL) (U (sE ((cK cA).1) g (by have:=vn cA;omega)) (U (sE ((cK cA).2) (g&&(aH ((cK cA).1) 255).2) (by have:=vn cA;omega)) (U ((by first | rfl | (simp [ah,ints];done) | (simp [ah,ints];omega)):(L.length)=(ah L:List (List DV)).length) (U ((by first | rfl | (simp [ah,ints];done) | (simp [ah,ints];omega)):(1)=([[.n ((aH ((cK cA).1) 255).1),.n ((aH ((cK cA).2) 255).1)]]:List (List DV)).length) (U ((by first | omega | (simp [ah,ints];done) | (simp [ah,ints];omega)):(2*((L.length)+(1))+192)*16≤281474976710656) (U ((by first | omega | (simp [ah,ints];done) | (simp [ah,ints];omega)):(L.length)+(1)<4611686018427387904) (U ((by simp [bc,AV.one,bU,af,ah,ints,steps,strs]):bc ([[.n ((aH ((cK cA).1) 255).1),.n ((aH ((cK cA).2) 255).1)]])) (U ((wi (by omega)):IntKind.i64.wrap ((((i:Nat):Int):Int)+1)=((i+1:Nat):Int)) trivial))))))))))))) fun ac wd r=>bP (by omega) ac wd ⟨(L++[((((aH (cK cA).1 255).1:Nat):Int),(((aH (cK cA).2 255).1:Nat):Int))]),H,false,((g&&(aH (cK cA).1 255).2)&&(aH (cK cA).2 255).2),⟨by omega,vk kS ao.2.1 (Oi h4),by simp;omega,by omega⟩,r.cast rfl (by simp [ah,ints])⟩
      | true=>
       exact cd (todo':=hd Tryd.f31 0) (E':=[(2,.pt 0 0),(5,.pt 1 0),(6,.fn 53 [.pt 1 0]),(7,.pt 2 0),(8,.d (.v (.bool true))),(34,.d (.ro 1 (List.drop 2 (strs (aL 32 line))))),(35,.n ((dG line).length)),(36,.n (i+1))]) (M':=[.bx 25 [.z 0,.d (.v (.slice none 0 0)),.d (.v (.slice none 0 0))],.bx 4 [.d (.v (.bool g))],.bx 25 [.n ((aH (cE line) 255).1),.sl 3 (L.length),.sl 4 (H.length)],.rw 71 2 (ah L),.rw 3 1 (ints H)]) tk mo hK al [(9,[(0,.b true)]),(10,[(0,.ix (i) [.v (.string ⟨cA.toArray⟩)])]),(15,[(1,.b true)]),(17,[(0,.z (((i+1:Nat):Int)))])] 2000 [0,1,2,3,4] [2,5,6,7,8,34,35,36] r (by kernel_rfl) (U h2 (U (aP ((i:Nat):Int)) (U (uJ kS) (U h4 (U ((wi (by omega)):IntKind.i64.wrap ((((i:Nat):Int):Int)+1)=((i+1:Nat):Int)) trivial))))) fun ac wd r=>bP (by omega) ac wd ⟨L,H,true,g,⟨by omega,vk kS ao.2.1 (Oh h4),by omega,by omega⟩,r.cast rfl (by simp [ah,ints])⟩
    | true=>
     cases h5:(decide ((((i:Nat):Int):Int)<(((dG line).length:Nat):Int))) with
     | false=>
      have fL:=of_decide_eq_false h5
      cases h6:(g) with
      | false=>
       refine bT (todo':=aft Tryd.f31 19) (E':=[(2,.pt 0 0),(3,.d (.v (.bool false)))]) (M':=[.bx 25 [.z 0,.d (.v (.slice none 0 0)),.d (.v (.slice none 0 0))]]) tk mo hK al [(9,[(0,.b false)]),(18,[(1,.b true)])] 11 [0] [2,3] r (by kernel_rfl) (U h5 (U ((by rw [h6];rfl):(!(g))=true) trivial)) fun ac wd r=>?_
       exact n6 (sU (o2 (by omega) ao.2.1) (by simp [h6])) ac wd (r.cast rfl rfl)
      | true=>
       cases h7:(cf ⟨gl (cE line),L,H⟩) with
       | false=>
        refine bT (todo':=aft Tryd.f31 19) (E':=[(2,.pt 0 0),(3,.d (.v (.bool false)))]) (M':=[.bx 25 [.z 0,.d (.v (.slice none 0 0)),.d (.v (.slice none 0 0))]]) tk mo hK al [(9,[(0,.b false)]),(18,[(1,.b false),(8,.call [.ag [.n ((aH (cE line) 255).1),.d (.ro 2 (ah L)),.d (.ro 1 (ints H))]] (.v (.bool false)))])] 11 [0] [2,3] r (by kernel_rfl) (U h5 (U ((by rw [h6];rfl):(!(g))=false) (U ((by have k:=qv ⟨gl (cE line),L,H⟩ DJ DK;rw [h7] at k;exact k):aB Tryd.prog 13 [.ag [.n ((aH (cE line) 255).1),.d (.ro 2 (ah L)),.d (.ro 1 (ints H))]] (.v (.bool false))) (U ((gS _):fU (.v (.bool false))) (U (ei (.n ((aH (cE line) 255).1))) (U (fj (2)) (U ((by first | rfl | (simp [ah,ints];done) | (simp [ah,ints];omega)):(L.length)=(ah L:List (List DV)).length) (U ((by first | exact jK _ | exact jL _):cx (ah L)=ah L) (U (fj (1)) (U ((by first | rfl | (simp [ah,ints];done) | (simp [ah,ints];omega)):(H.length)=(ints H).length) (U ((by first | exact jK _ | exact jL _):cx (ints H)=ints H) trivial))))))))))) fun ac wd r=>?_
        exact n6 (sU (o2 (by omega) ao.2.1) (by simp [h6,h7])) ac wd (r.cast rfl rfl)
       | true=>
        refine a8 (y:=.tu [.ag [.n ((aH (cE line) 255).1),.sl 0 (L.length),.sl 1 (H.length)],.d (.v (.bool true))]) (N':=[.rw 71 2 (ah L),.rw 3 1 (ints H)]) ((by have e:=o2 (by omega) ao.2.1;rw [h6] at e;rw [sq (wc e (by omega) h1 h7)];unfold yI kB;rw [e]<;>rfl)) ((by have e:=o2 (by omega) ao.2.1;rw [h6] at e;rw [sq (wc e (by omega) h1 h7)];unfold xR kB;rw [e]<;>rfl)) ?_
        exact a7 tk mo hK rfl al [(9,[(0,.b false)]),(18,[(1,.b false),(8,.call [.ag [.n ((aH (cE line) 255).1),.d (.ro 2 (ah L)),.d (.ro 1 (ints H))]] (.v (.bool true)))])] 2000 [3,4] r (by kernel_rfl) (U h5 (U ((by rw [h6];rfl):(!(g))=false) (U ((by have k:=qv ⟨gl (cE line),L,H⟩ DJ DK;rw [h7] at k;exact k):aB Tryd.prog 13 [.ag [.n ((aH (cE line) 255).1),.d (.ro 2 (ah L)),.d (.ro 1 (ints H))]] (.v (.bool true))) (U ((gS _):fU (.v (.bool true))) (U (ei (.n ((aH (cE line) 255).1))) (U (fj (2)) (U ((by first | rfl | (simp [ah,ints];done) | (simp [ah,ints];omega)):(L.length)=(ah L:List (List DV)).length) (U ((by first | exact jK _ | exact jL _):cx (ah L)=ah L) (U (fj (1)) (U ((by first | rfl | (simp [ah,ints];done) | (simp [ah,ints];omega)):(H.length)=(ints H).length) (U ((by first | exact jK _ | exact jL _):cx (ints H)=ints H) trivial)))))))))))
     | true=>
      have fL:=of_decide_eq_true h5
      obtain ⟨cA,kS⟩:∃ x_,(dG line)[i]?=some x_:=⟨_,List.getElem?_eq_getElem (by omega)⟩
      have DL:=BP hl kS
      exact cd (todo':=hd Tryd.f31 0) (E':=[(2,.pt 0 0),(5,.pt 1 0),(6,.fn 53 [.pt 1 0]),(7,.pt 2 0),(8,.d (.v (.bool true))),(34,.d (.ro 1 (List.drop 2 (strs (aL 32 line))))),(35,.n ((dG line).length)),(36,.n (i+1))]) (M':=[.bx 25 [.z 0,.d (.v (.slice none 0 0)),.d (.v (.slice none 0 0))],.bx 4 [.d (.v (.bool ((g&&(aH cA 255).2))))],.bx 25 [.n ((aH (cE line) 255).1),.sl 3 (L.length),.sl 4 (H.length+(1))],.rw 71 2 (ah L),.rw 3 1 (ints H++[[.n ((aH cA 255).1)]])]) tk mo hK al [(9,[(0,.b true)]),(10,[(0,.ix (i) [.v (.string ⟨cA.toArray⟩)])]),(14,[(4,.mem [1] (.n ((aH cA 255).1)) [.bx 4 [.d (.v (.bool ((g&&(aH cA 255).2))))]])]),(17,[(0,.z (((i+1:Nat):Int)))])] 2000 [0,1,2,3,4] [2,5,6,7,8,34,35,36] r (by kernel_rfl) (U h5 (U (aP ((i:Nat):Int)) (U (uJ kS) (U (sE cA g (by have:=vn cA;omega)) (U ((by first | rfl | (simp [ah,ints];done) | (simp [ah,ints];omega)):(H.length)=(ints H).length) (U ((by first | rfl | (simp [ah,ints];done) | (simp [ah,ints];omega)):(1)=([[.n ((aH cA 255).1)]]:List (List DV)).length) (U ((by first | omega | (simp [ah,ints];done) | (simp [ah,ints];omega)):(2*((H.length)+(1))+192)*8≤281474976710656) (U ((by first | omega | (simp [ah,ints];done) | (simp [ah,ints];omega)):(H.length)+(1)<4611686018427387904) (U ((by simp [bc,AV.one,bU,af,ah,ints,steps,strs]):bc ([[.n ((aH cA 255).1)]])) (U ((wi (by omega)):IntKind.i64.wrap ((((i:Nat):Int):Int)+1)=((i+1:Nat):Int)) trivial)))))))))) fun ac wd r=>bP (by omega) ac wd ⟨L,(H++[(((aH cA 255).1:Nat):Int)]),true,(g&&(aH cA 255).2),⟨by omega,vk kS ao.2.1 (Og L H g cA),by omega,by simp;omega⟩,r.cast rfl (by simp [ah,ints])⟩
   intro hJ ac wd r
   have r:=r.fE (E1:=[(2,.pt 0 0),(3,.d (.v (.bool false)))]) (M1:=[.bx 25 [.z 0,.d (.v (.slice none 0 0)),.d (.v (.slice none 0 0))]]) (M2:=[.bx 25 [.z 0,.sl 1 (0),.sl 2 (0)],.rw 71 2 ([]),.rw 3 1 ([])]) [] [(0,1,71,2),(0,2,3,1)] (by kernel_rfl) (by kernel_rfl)
   refine a8 (y:=.tu [.ag [.z 0,.sl 0 (0),.sl 1 (0)],.d (.v (.bool false))]) (N':=[.rw 71 2 ([]),.rw 3 1 ([])]) ((by rw [oQ hJ];rfl)) ((by rw [oQ hJ];rfl)) ?_
   exact a7 tk mo hK rfl al [] 2000 [1,2] r (by kernel_rfl) trivial
 | true=>
  have bH:=of_decide_eq_true h0
  refine bT (todo':=aft Tryd.f31 3) (E':=[(2,.pt 0 0),(3,.d (.v (.bool false))),(4,.d (.ro 1 (strs (aL 32 line))))]) (M':=[.bx 25 [.z 0,.d (.v (.slice none 0 0)),.d (.v (.slice none 0 0))]]) tk mo hK al [(1,[(1,.aO (.ro 1 (strs (aL 32 line))))]),(2,[(1,.z ((((aL 32 line).length:Nat):Int))),(2,.b true)])] 10 [0] [2,3,4] r (by kernel_rfl) (U (sj 32 line hl) (U aZ (U h0 trivial))) fun ac wd r=>?_
  have r:=r.fE (E1:=[(2,.pt 0 0),(3,.d (.v (.bool false))),(4,.d (.ro 1 (strs (aL 32 line))))]) (M1:=[.bx 25 [.z 0,.d (.v (.slice none 0 0)),.d (.v (.slice none 0 0))]]) (M2:=[.bx 25 [.z 0,.sl 1 (0),.sl 2 (0)],.rw 71 2 ([]),.rw 3 1 ([])]) [] [(0,1,71,2),(0,2,3,1)] (by kernel_rfl) (by kernel_rfl)
  refine a8 (y:=.tu [.ag [.z 0,.sl 0 (0),.sl 1 (0)],.d (.v (.bool false))]) (N':=[.rw 71 2 ([]),.rw 3 1 ([])]) ((by rw [oQ (BN (by omega))];rfl)) ((by rw [oQ (BN (by omega))];rfl)) ?_
  exact a7 tk mo hK rfl al [] 2000 [1,2] r (by kernel_rfl) trivial
end Go.Proofs.YtcnpikbbmbombaaDoor
namespace Go.Proofs.YtcnpikbbmbombaaDoor
open Go.RowKit
theorem mS {z:Int} (h:0≤z) (h2:z≤65535):IntKind.u64.wrap z=((z.toNat:Nat):Int):=by
 simp [IntKind.wrap,IntKind.signed,IntKind.bits];omega
def jA (x:jI) (s:az):List (List UInt8):=(if x.node then [aS s.node] else [])++(if x.peer then [aS s.peer] else [])++(if x.n then [aS s.n] else [])++(if x.bit then [aS s.bit] else [])++(if x.inc then [Go.Lib.decDigits s.inc] else [])++(if x.body then [dJ s.body] else [])
def bN (s:az):List (List UInt8):=(ae s.kind.toNat).word::jA (ae s.kind.toNat) s
theorem Gb {l:List UInt8} {n:Nat} (h:l.length≤n):(dJ l).length≤2*n+1:=by
 unfold dJ;split
 ·simp
 ·rw [cX];omega
theorem HD (k:Nat):(ae k).word.length≤7:=by
 rcases Nat.lt_or_ge k 14 with h | h
 ·exact lZ (p:=fun k=>(ae k).word.length≤7) (by decide) (by decide) (by decide) (by decide) (by decide) (by decide) (by decide) (by decide) (by decide) (by decide) (by decide) (by decide) (by decide) (by decide) h
 ·unfold ae;rw [List.getD_eq_getElem?_getD,List.getElem?_eq_none (by simpa [lY] using h)];decide
theorem HE (x:jI) (s:az):(jA x s).length≤6:=by
 unfold jA
 simp only [List.length_append]
 have h1:∀ {b:Bool} {p:List (List UInt8)},p.length≤1→(if b=true then p else []).length≤1:=by
  intro b p h;split
  ·exact h
  ·simp
 have a1:=h1 (b:=x.node) (p:=[aS s.node]) (by simp)
 have a2:=h1 (b:=x.peer) (p:=[aS s.peer]) (by simp)
 have a3:=h1 (b:=x.n) (p:=[aS s.n]) (by simp)
 have a4:=h1 (b:=x.bit) (p:=[aS s.bit]) (by simp)
 have a5:=h1 (b:=x.inc) (p:=[Go.Lib.decDigits s.inc]) (by simp)
 have a6:=h1 (b:=x.body) (p:=[dJ s.body]) (by simp)
 omega
theorem qe {s:az} (hb:s.body.length≤255) (hi:s.inc<18446744073709551616) (h0:s.node≤65535) (h1:s.peer≤65535) (h2:s.n≤65535) (h3:s.bit≤65535):(bN s).flatten.length≤3577∧(bN s).length≤7:=by
 have hl:=HE (ae s.kind.toNat) s
 have hn:(bN s).length≤7:=by unfold bN;simp;omega
 refine ⟨?_,hn⟩
 have hd:∀ {z:Int},z≤65535→(aS z).length≤511:=fun {z} h=>by
  have:=uI z.toNat (by omega)
  unfold aS;omega
 have h:=zn (l:=bN s) (n:=511) fun x hx=>by
  unfold bN at hx
  rcases List.mem_cons.1 hx with rfl | hx
  ·exact Nat.le_trans (HD _) (by decide)
  ·unfold jA at hx
   simp only [List.mem_append] at hx
   have key:∀ {b:Bool} {w x:List UInt8},x ∈ (if b=true then [w] else [])→x=w:=by
    intro b w x h;split at h
    ·simpa using h
    ·simp at h
   rcases hx with ((((hx | hx) | hx) | hx) | hx) | hx
   ·rw [key hx];exact hd h0
   ·rw [key hx];exact hd h1
   ·rw [key hx];exact hd h2
   ·rw [key hx];exact hd h3
   ·rw [key hx];exact Nat.le_trans (uI _ hi) (by decide)
   ·rw [key hx];exact Gb hb
 have:=Nat.mul_le_mul_left 511 hn
 omega
def mD (b:Bool) (x:List UInt8) (l:List (List UInt8)):List (List UInt8):=cond b (l++[x]) l
theorem HF (b:Bool) (x:List UInt8) (l:List (List UInt8)):(mD b x l).length≤l.length+1:=by cases b<;>simp [mD]
theorem Jj (b:Bool) (x:List UInt8) (l:List (List UInt8)):mD b x l=l++(if b=true then [x] else []):=by cases b<;>simp [mD]
def n7 (s:az):Nat→Bool×List UInt8
 | 0=>((ae s.kind.toNat).node,aS s.node)
 | 1=>((ae s.kind.toNat).peer,aS s.peer)
 | 2=>((ae s.kind.toNat).n,aS s.n)
 | 3=>((ae s.kind.toNat).bit,aS s.bit)
 | _=>((ae s.kind.toNat).inc,Go.Lib.decDigits s.inc)
def aW (s:az):Nat→List (List UInt8)
 | 0=>[(ae s.kind.toNat).word]
 | j+1=>mD (n7 s j).1 (n7 s j).2 (aW s j)
theorem fB (s:az):∀ j,(aW s j).length≤j+1
 | 0=>Nat.le_refl _
 | j+1=>Nat.le_trans (HF _ _ _) (Nat.succ_le_succ (fB s j))
theorem BQ (s:az):bN s=mD (ae s.kind.toNat).body (dJ s.body) (aW s 5):=by
 unfold bN jA;simp only [aW,n7,Jj];simp
theorem qy {s:az} {j:Nat} (h:(n7 s j).1=true):strs (aW s (j+1))=strs (aW s j)++[[.v (.string ⟨(n7 s j).2.toArray⟩)]]:=by rw [aW,h];simp [mD,strs]
theorem qm {s:az} {j:Nat} (h:(n7 s j).1=true):(aW s (j+1)).length=(aW s j).length+1:=by rw [aW,h];simp [mD]
theorem qz {s:az} {j:Nat} (h:(n7 s j).1=false):aW s (j+1)=aW s j:=by rw [aW,h];rfl
theorem Co {s:az} (h:(ae s.kind.toNat).body=true):bN s=aW s 5++[dJ s.body]:=by rw [BQ,h];rfl
theorem Cp {s:az} (h:(ae s.kind.toNat).body=false):bN s=aW s 5:=by rw [BQ,h];rfl
set_option maxRecDepth 100000 in
theorem EY (s:az) (hb:s.body.length≤255) (hi:s.inc<18446744073709551616) (q4:0≤s.node) (pM:s.node≤65535) (DM:0≤s.peer) (pO:s.peer≤65535) (DN:0≤s.n) (pP:s.n≤65535) (dX:0≤s.bit) (fw:s.bit≤65535) (k0:0≤s.kind) (k1:s.kind<14):aA Tryd.prog 23 [.ag [.z s.kind,.z s.node,.z s.peer,.z s.n,.z s.bit,.u s.inc,.d (.ro 1 (af s.body))]] [.gw 0 ai,.gw 1 aM] (.d (.v (.string ⟨(aQ (bN s)).toArray⟩))) ([.gw 0 ai,.gw 1 aM]):=by
 refine aA.intro (by kernel_rfl) rfl rfl 58 rfl rfl fun D w0 K bs ac wd hK (al:bs.m=2) r=>?_
 refine bT (todo':=aft Tryd.f23 3) (E':=[(1,.pt 2 0),(2,.d (.v (.string .empty))),(3,.pt 3 0),(4,.pt 5 0),(5,.fn 43 [.pt 5 0])]) (M':=[.gw 0 ai,.gw 1 aM,.bx 45 [.z s.kind,.z s.node,.z s.peer,.z s.n,.z s.bit,.u s.inc,.d (.ro 1 (af s.body))],.bx 84 [.d (.v (.string ⟨((ae s.kind.toNat).word).toArray⟩)),.d (.v (.bool ((ae s.kind.toNat).node))),.d (.v (.bool ((ae s.kind.toNat).peer))),.d (.v (.bool ((ae s.kind.toNat).n))),.d (.v (.bool ((ae s.kind.toNat).bit))),.d (.v (.bool ((ae s.kind.toNat).inc))),.d (.v (.bool ((ae s.kind.toNat).body)))],.rw 9 1 ([[.v (.string ⟨((ae s.kind.toNat).word).toArray⟩)]]),.bx 93 [.sl 4 (1)]]) tk mo hK al [(1,[(2,.ix (s.kind.toNat) [.v (.string ⟨((ae s.kind.toNat).word).toArray⟩),.v (.bool ((ae s.kind.toNat).node)),.v (.bool ((ae s.kind.toNat).peer)),.v (.bool ((ae s.kind.toNat).n)),.v (.bool ((ae s.kind.toNat).bit)),.v (.bool ((ae s.kind.toNat).inc)),.v (.bool ((ae s.kind.toNat).body))])])] 8 [0,1,2,3,4,5] [1,2,3,4,5] r (by kernel_rfl) (U ((by omega):(s.kind)=((s.kind.toNat:Nat):Int)) (U ((by omega):(s.kind.toNat)<14) (U (mT (by omega):List.take 7 (List.drop ((s.kind.toNat)*7) (ai:List DV))=([.v (.string ⟨((ae s.kind.toNat).word).toArray⟩),.v (.bool ((ae s.kind.toNat).node)),.v (.bool ((ae s.kind.toNat).peer)),.v (.bool ((ae s.kind.toNat).n)),.v (.bool ((ae s.kind.toNat).bit)),.v (.bool ((ae s.kind.toNat).inc)),.v (.bool ((ae s.kind.toNat).body))]:List DV)) trivial))) fun ac wd r=>?_
 suffices J4:∀ ac wd,RB D w0 K 58 bs [(1,.pt 2 0),(3,.pt 3 0),(4,.pt 4 0),(5,.fn 43 [.pt 4 0])] [.gw 0 ai,.gw 1 aM,.bx 45 [.z s.kind,.z s.node,.z s.peer,.z s.n,.z s.bit,.u s.inc,.d (.ro 1 (af s.body))],.bx 84 [.d (.v (.string ⟨((ae s.kind.toNat).word).toArray⟩)),.d (.v (.bool ((ae s.kind.toNat).node))),.d (.v (.bool ((ae s.kind.toNat).peer))),.d (.v (.bool ((ae s.kind.toNat).n))),.d (.v (.bool ((ae s.kind.toNat).bit))),.d (.v (.bool ((ae s.kind.toNat).inc))),.d (.v (.bool ((ae s.kind.toNat).body)))],.bx 93 [.sl 5 ((aW s 1).length)],.rw 9 1 (strs (aW s 1))] ac wd→aD Tryd.prog 23 (aft Tryd.f23 4) (eI D w0 K bs (.d (.v (.string ⟨(aQ (bN s)).toArray⟩))) ([.gw 0 ai,.gw 1 aM])) ac wd by
  cases h0:((ae s.kind.toNat).node) with
  | false=>
   have r:=r.cast (M':=[.gw 0 ai,.gw 1 aM,.bx 45 [.z s.kind,.z s.node,.z s.peer,.z s.n,.z s.bit,.u s.inc,.d (.ro 1 (af s.body))],.bx 84 [.d (.v (.string ⟨((ae s.kind.toNat).word).toArray⟩)),.d (.v (.bool false)),.d (.v (.bool ((ae s.kind.toNat).peer))),.d (.v (.bool ((ae s.kind.toNat).n))),.d (.v (.bool ((ae s.kind.toNat).bit))),.d (.v (.bool ((ae s.kind.toNat).inc))),.d (.v (.bool ((ae s.kind.toNat).body)))],.rw 9 1 ([[.v (.string ⟨((ae s.kind.toNat).word).toArray⟩)]]),.bx 93 [.sl 4 (1)]]) rfl (by rw [h0])
   refine bT (todo':=aft Tryd.f23 4) (E':=[(1,.pt 2 0),(3,.pt 3 0),(4,.pt 4 0),(5,.fn 43 [.pt 4 0])]) (M':=[.gw 0 ai,.gw 1 aM,.bx 45 [.z s.kind,.z s.node,.z s.peer,.z s.n,.z s.bit,.u s.inc,.d (.ro 1 (af s.body))],.bx 84 [.d (.v (.string ⟨((ae s.kind.toNat).word).toArray⟩)),.d (.v (.bool false)),.d (.v (.bool ((ae s.kind.toNat).peer))),.d (.v (.bool ((ae s.kind.toNat).n))),.d (.v (.bool ((ae s.kind.toNat).bit))),.d (.v (.bool ((ae s.kind.toNat).inc))),.d (.v (.bool ((ae s.kind.toNat).body)))],.bx 93 [.sl 5 (1)],.rw 9 1 ([[.v (.string ⟨((ae s.kind.toNat).word).toArray⟩)]])]) tk mo hK al [(4,[(5,.z (((s.node.toNat:Nat):Int))),(6,.bG 200 [])])] 2 [0,1,2,3,5,4] [1,3,4,5] r (by kernel_rfl) (U ((mS q4 pM):IntKind.u64.wrap (s.node)=((s.node.toNat:Nat):Int)) trivial) fun ac wd r=>?_
   exact J4 ac wd (r.cast rfl (by rw [qz (j:=0) h0,h0]<;>rfl))
  | true=>
   have r:=r.cast (M':=[.gw 0 ai,.gw 1 aM,.bx 45 [.z s.kind,.z s.node,.z s.peer,.z s.n,.z s.bit,.u s.inc,.d (.ro 1 (af s.body))],.bx 84 [.d (.v (.string ⟨((ae s.kind.toNat).word).toArray⟩)),.d (.v (.bool true)),.d (.v (.bool ((ae s.kind.toNat).peer))),.d (.v (.bool ((ae s.kind.toNat).n))),.d (.v (.bool ((ae s.kind.toNat).bit))),.d (.v (.bool ((ae s.kind.toNat).inc))),.d (.v (.bool ((ae s.kind.toNat).body)))],.rw 9 1 ([[.v (.string ⟨((ae s.kind.toNat).word).toArray⟩)]]),.bx 93 [.sl 4 (1)]]) rfl (by rw [h0])
   refine bT (todo':=aft Tryd.f23 4) (E':=[(1,.pt 2 0),(3,.pt 3 0),(4,.pt 4 0),(5,.fn 43 [.pt 4 0])]) (M':=[.gw 0 ai,.gw 1 aM,.bx 45 [.z s.kind,.z s.node,.z s.peer,.z s.n,.z s.bit,.u s.inc,.d (.ro 1 (af s.body))],.bx 84 [.d (.v (.string ⟨((ae s.kind.toNat).word).toArray⟩)),.d (.v (.bool true)),.d (.v (.bool ((ae s.kind.toNat).peer))),.d (.v (.bool ((ae s.kind.toNat).n))),.d (.v (.bool ((ae s.kind.toNat).bit))),.d (.v (.bool ((ae s.kind.toNat).inc))),.d (.v (.bool ((ae s.kind.toNat).body)))],.bx 93 [.sl 5 (1+(1))],.rw 9 1 ([[.v (.string ⟨((ae s.kind.toNat).word).toArray⟩)]]++[[.v (.string ⟨(Go.Lib.decDigits s.node.toNat).toArray⟩)]])]) tk mo hK al [(4,[(5,.z (((s.node.toNat:Nat):Int))),(6,.bG 200 [(1,[(2,.mem [1] (.d (.v (.string ⟨(Go.Lib.decDigits s.node.toNat).toArray⟩))) [.gw 1 aM])])])])] 2 [0,1,2,3,5,4] [1,3,4,5] r (by kernel_rfl) (U ((mS q4 pM):IntKind.u64.wrap (s.node)=((s.node.toNat:Nat):Int)) (U (qL s.node.toNat (by omega)) (U ((by first | rfl | (simp [strs];done) | (simp [strs];omega)):(1)=([[.v (.string ⟨((ae s.kind.toNat).word).toArray⟩)]]:List (List DV)).length) (U ((by first | rfl | (simp [strs];done) | (simp [strs];omega)):(1)=([[.v (.string ⟨(Go.Lib.decDigits s.node.toNat).toArray⟩)]]:List (List DV)).length) (U ((by first | omega | (simp [strs];done) | (have:=fB s 5;simp [strs];omega)):(2*((1)+(1))+192)*16≤281474976710656) (U ((by first | omega | (simp [strs];done) | (have:=fB s 5;simp [strs];omega)):(1)+(1)<4611686018427387904) (U ((by simp [bc,AV.one,bU,af,ah,ints,steps,strs]):bc ([[.v (.string ⟨(Go.Lib.decDigits s.node.toNat).toArray⟩)]])) trivial))))))) fun ac wd r=>?_
   exact J4 ac wd (r.cast rfl (by rw [qy (j:=0) h0,qm (j:=0) h0,h0]<;>rfl))
 intro ac wd r
 have PB:=fB s 1
 suffices J5:∀ ac wd,RB D w0 K 58 bs [(1,.pt 2 0),(3,.pt 3 0),(4,.pt 4 0),(5,.fn 43 [.pt 4 0])] [.gw 0 ai,.gw 1 aM,.bx 45 [.z s.kind,.z s.node,.z s.peer,.z s.n,.z s.bit,.u s.inc,.d (.ro 1 (af s.body))],.bx 84 [.d (.v (.string ⟨((ae s.kind.toNat).word).toArray⟩)),.d (.v (.bool ((ae s.kind.toNat).node))),.d (.v (.bool ((ae s.kind.toNat).peer))),.d (.v (.bool ((ae s.kind.toNat).n))),.d (.v (.bool ((ae s.kind.toNat).bit))),.d (.v (.bool ((ae s.kind.toNat).inc))),.d (.v (.bool ((ae s.kind.toNat).body)))],.bx 93 [.sl 5 ((aW s 2).length)],.rw 9 1 (strs (aW s 2))] ac wd→aD Tryd.prog 23 (aft Tryd.f23 5) (eI D w0 K bs (.d (.v (.string ⟨(aQ (bN s)).toArray⟩))) ([.gw 0 ai,.gw 1 aM])) ac wd by
  cases h1:((ae s.kind.toNat).peer) with
  | false=>
   have r:=r.cast (M':=[.gw 0 ai,.gw 1 aM,.bx 45 [.z s.kind,.z s.node,.z s.peer,.z s.n,.z s.bit,.u s.inc,.d (.ro 1 (af s.body))],.bx 84 [.d (.v (.string ⟨((ae s.kind.toNat).word).toArray⟩)),.d (.v (.bool ((ae s.kind.toNat).node))),.d (.v (.bool false)),.d (.v (.bool ((ae s.kind.toNat).n))),.d (.v (.bool ((ae s.kind.toNat).bit))),.d (.v (.bool ((ae s.kind.toNat).inc))),.d (.v (.bool ((ae s.kind.toNat).body)))],.bx 93 [.sl 5 ((aW s 1).length)],.rw 9 1 (strs (aW s 1))]) rfl (by rw [h1])
   refine bT (todo':=aft Tryd.f23 5) (E':=[(1,.pt 2 0),(3,.pt 3 0),(4,.pt 4 0),(5,.fn 43 [.pt 4 0])]) (M':=[.gw 0 ai,.gw 1 aM,.bx 45 [.z s.kind,.z s.node,.z s.peer,.z s.n,.z s.bit,.u s.inc,.d (.ro 1 (af s.body))],.bx 84 [.d (.v (.string ⟨((ae s.kind.toNat).word).toArray⟩)),.d (.v (.bool ((ae s.kind.toNat).node))),.d (.v (.bool false)),.d (.v (.bool ((ae s.kind.toNat).n))),.d (.v (.bool ((ae s.kind.toNat).bit))),.d (.v (.bool ((ae s.kind.toNat).inc))),.d (.v (.bool ((ae s.kind.toNat).body)))],.bx 93 [.sl 5 ((aW s 1).length)],.rw 9 1 (strs (aW s 1))]) tk mo hK al [(5,[(5,.z (((s.peer.toNat:Nat):Int))),(6,.bG 200 [])])] 2 [0,1,2,3,4,5] [1,3,4,5] r (by kernel_rfl) (U ((mS DM pO):IntKind.u64.wrap (s.peer)=((s.peer.toNat:Nat):Int)) trivial) fun ac wd r=>?_
   exact J5 ac wd (r.cast rfl (by rw [qz (j:=1) h1,h1]<;>rfl))
  | true=>
   have r:=r.cast (M':=[.gw 0 ai,.gw 1 aM,.bx 45 [.z s.kind,.z s.node,.z s.peer,.z s.n,.z s.bit,.u s.inc,.d (.ro 1 (af s.body))],.bx 84 [.d (.v (.string ⟨((ae s.kind.toNat).word).toArray⟩)),.d (.v (.bool ((ae s.kind.toNat).node))),.d (.v (.bool true)),.d (.v (.bool ((ae s.kind.toNat).n))),.d (.v (.bool ((ae s.kind.toNat).bit))),.d (.v (.bool ((ae s.kind.toNat).inc))),.d (.v (.bool ((ae s.kind.toNat).body)))],.bx 93 [.sl 5 ((aW s 1).length)],.rw 9 1 (strs (aW s 1))]) rfl (by rw [h1])
   refine bT (todo':=aft Tryd.f23 5) (E':=[(1,.pt 2 0),(3,.pt 3 0),(4,.pt 4 0),(5,.fn 43 [.pt 4 0])]) (M':=[.gw 0 ai,.gw 1 aM,.bx 45 [.z s.kind,.z s.node,.z s.peer,.z s.n,.z s.bit,.u s.inc,.d (.ro 1 (af s.body))],.bx 84 [.d (.v (.string ⟨((ae s.kind.toNat).word).toArray⟩)),.d (.v (.bool ((ae s.kind.toNat).node))),.d (.v (.bool true)),.d (.v (.bool ((ae s.kind.toNat).n))),.d (.v (.bool ((ae s.kind.toNat).bit))),.d (.v (.bool ((ae s.kind.toNat).inc))),.d (.v (.bool ((ae s.kind.toNat).body)))],.bx 93 [.sl 5 ((aW s 1).length+(1))],.rw 9 1 (strs (aW s 1)++[[.v (.string ⟨(Go.Lib.decDigits s.peer.toNat).toArray⟩)]])]) tk mo hK al [(5,[(5,.z (((s.peer.toNat:Nat):Int))),(6,.bG 200 [(1,[(2,.mem [1] (.d (.v (.string ⟨(Go.Lib.decDigits s.peer.toNat).toArray⟩))) [.gw 1 aM])])])])] 2 [0,1,2,3,4,5] [1,3,4,5] r (by kernel_rfl) (U ((mS DM pO):IntKind.u64.wrap (s.peer)=((s.peer.toNat:Nat):Int)) (U (qL s.peer.toNat (by omega)) (U ((by first | rfl | (simp [strs];done) | (simp [strs];omega)):((aW s 1).length)=(strs (aW s 1):List (List DV)).length) (U ((by first | rfl | (simp [strs];done) | (simp [strs];omega)):(1)=([[.v (.string ⟨(Go.Lib.decDigits s.peer.toNat).toArray⟩)]]:List (List DV)).length) (U ((by first | omega | (simp [strs];done) | (have:=fB s 5;simp [strs];omega)):(2*(((aW s 1).length)+(1))+192)*16≤281474976710656) (U ((by first | omega | (simp [strs];done) | (have:=fB s 5;simp [strs];omega)):((aW s 1).length)+(1)<4611686018427387904) (U ((by simp [bc,AV.one,bU,af,ah,ints,steps,strs]):bc ([[.v (.string ⟨(Go.Lib.decDigits s.peer.toNat).toArray⟩)]])) trivial))))))) fun ac wd r=>?_
   exact J5 ac wd (r.cast rfl (by rw [qy (j:=1) h1,qm (j:=1) h1,h1]<;>rfl))
 intro ac wd r
 have NZ:=fB s 2
 suffices J6:∀ ac wd,RB D w0 K 58 bs [(1,.pt 2 0),(3,.pt 3 0),(4,.pt 4 0),(5,.fn 43 [.pt 4 0])] [.gw 0 ai,.gw 1 aM,.bx 45 [.z s.kind,.z s.node,.z s.peer,.z s.n,.z s.bit,.u s.inc,.d (.ro 1 (af s.body))],.bx 84 [.d (.v (.string ⟨((ae s.kind.toNat).word).toArray⟩)),.d (.v (.bool ((ae s.kind.toNat).node))),.d (.v (.bool ((ae s.kind.toNat).peer))),.d (.v (.bool ((ae s.kind.toNat).n))),.d (.v (.bool ((ae s.kind.toNat).bit))),.d (.v (.bool ((ae s.kind.toNat).inc))),.d (.v (.bool ((ae s.kind.toNat).body)))],.bx 93 [.sl 5 ((aW s 3).length)],.rw 9 1 (strs (aW s 3))] ac wd→aD Tryd.prog 23 (aft Tryd.f23 6) (eI D w0 K bs (.d (.v (.string ⟨(aQ (bN s)).toArray⟩))) ([.gw 0 ai,.gw 1 aM])) ac wd by
  cases h2:((ae s.kind.toNat).n) with
  | false=>
   have r:=r.cast (M':=[.gw 0 ai,.gw 1 aM,.bx 45 [.z s.kind,.z s.node,.z s.peer,.z s.n,.z s.bit,.u s.inc,.d (.ro 1 (af s.body))],.bx 84 [.d (.v (.string ⟨((ae s.kind.toNat).word).toArray⟩)),.d (.v (.bool ((ae s.kind.toNat).node))),.d (.v (.bool ((ae s.kind.toNat).peer))),.d (.v (.bool false)),.d (.v (.bool ((ae s.kind.toNat).bit))),.d (.v (.bool ((ae s.kind.toNat).inc))),.d (.v (.bool ((ae s.kind.toNat).body)))],.bx 93 [.sl 5 ((aW s 2).length)],.rw 9 1 (strs (aW s 2))]) rfl (by rw [h2])
   refine bT (todo':=aft Tryd.f23 6) (E':=[(1,.pt 2 0),(3,.pt 3 0),(4,.pt 4 0),(5,.fn 43 [.pt 4 0])]) (M':=[.gw 0 ai,.gw 1 aM,.bx 45 [.z s.kind,.z s.node,.z s.peer,.z s.n,.z s.bit,.u s.inc,.d (.ro 1 (af s.body))],.bx 84 [.d (.v (.string ⟨((ae s.kind.toNat).word).toArray⟩)),.d (.v (.bool ((ae s.kind.toNat).node))),.d (.v (.bool ((ae s.kind.toNat).peer))),.d (.v (.bool false)),.d (.v (.bool ((ae s.kind.toNat).bit))),.d (.v (.bool ((ae s.kind.toNat).inc))),.d (.v (.bool ((ae s.kind.toNat).body)))],.bx 93 [.sl 5 ((aW s 2).length)],.rw 9 1 (strs (aW s 2))]) tk mo hK al [(6,[(5,.z (((s.n.toNat:Nat):Int))),(6,.bG 200 [])])] 2 [0,1,2,3,4,5] [1,3,4,5] r (by kernel_rfl) (U ((mS DN pP):IntKind.u64.wrap (s.n)=((s.n.toNat:Nat):Int)) trivial) fun ac wd r=>?_
   exact J6 ac wd (r.cast rfl (by rw [qz (j:=2) h2,h2]<;>rfl))
  | true=>
   have r:=r.cast (M':=[.gw 0 ai,.gw 1 aM,.bx 45 [.z s.kind,.z s.node,.z s.peer,.z s.n,.z s.bit,.u s.inc,.d (.ro 1 (af s.body))],.bx 84 [.d (.v (.string ⟨((ae s.kind.toNat).word).toArray⟩)),.d (.v (.bool ((ae s.kind.toNat).node))),.d (.v (.bool ((ae s.kind.toNat).peer))),.d (.v (.bool true)),.d (.v (.bool ((ae s.kind.toNat).bit))),.d (.v (.bool ((ae s.kind.toNat).inc))),.d (.v (.bool ((ae s.kind.toNat).body)))],.bx 93 [.sl 5 ((aW s 2).length)],.rw 9 1 (strs (aW s 2))]) rfl (by rw [h2])
   refine bT (todo':=aft Tryd.f23 6) (E':=[(1,.pt 2 0),(3,.pt 3 0),(4,.pt 4 0),(5,.fn 43 [.pt 4 0])]) (M':=[.gw 0 ai,.gw 1 aM,.bx 45 [.z s.kind,.z s.node,.z s.peer,.z s.n,.z s.bit,.u s.inc,.d (.ro 1 (af s.body))],.bx 84 [.d (.v (.string ⟨((ae s.kind.toNat).word).toArray⟩)),.d (.v (.bool ((ae s.kind.toNat).node))),.d (.v (.bool ((ae s.kind.toNat).peer))),.d (.v (.bool true)),.d (.v (.bool ((ae s.kind.toNat).bit))),.d (.v (.bool ((ae s.kind.toNat).inc))),.d (.v (.bool ((ae s.kind.toNat).body)))],.bx 93 [.sl 5 ((aW s 2).length+(1))],.rw 9 1 (strs (aW s 2)++[[.v (.string ⟨(Go.Lib.decDigits s.n.toNat).toArray⟩)]])]) tk mo hK al [(6,[(5,.z (((s.n.toNat:Nat):Int))),(6,.bG 200 [(1,[(2,.mem [1] (.d (.v (.string ⟨(Go.Lib.decDigits s.n.toNat).toArray⟩))) [.gw 1 aM])])])])] 2 [0,1,2,3,4,5] [1,3,4,5] r (by kernel_rfl) (U ((mS DN pP):IntKind.u64.wrap (s.n)=((s.n.toNat:Nat):Int)) (U (qL s.n.toNat (by omega)) (U ((by first | rfl | (simp [strs];done) | (simp [strs];omega)):((aW s 2).length)=(strs (aW s 2):List (List DV)).length) (U ((by first | rfl | (simp [strs];done) | (simp [strs];omega)):(1)=([[.v (.string ⟨(Go.Lib.decDigits s.n.toNat).toArray⟩)]]:List (List DV)).length) (U ((by first | omega | (simp [strs];done) | (have:=fB s 5;simp [strs];omega)):(2*(((aW s 2).length)+(1))+192)*16≤281474976710656) (U ((by first | omega | (simp [strs];done) | (have:=fB s 5;simp [strs];omega)):((aW s 2).length)+(1)<4611686018427387904) (U ((by simp [bc,AV.one,bU,af,ah,ints,steps,strs]):bc ([[.v (.string ⟨(Go.Lib.decDigits s.n.toNat).toArray⟩)]])) trivial))))))) fun ac wd r=>?_
   exact J6 ac wd (r.cast rfl (by rw [qy (j:=2) h2,qm (j:=2) h2,h2]<;>rfl))
 intro ac wd r
 have yE:=fB s 3
 suffices J7:∀ ac wd,RB D w0 K 58 bs [(1,.pt 2 0),(3,.pt 3 0),(4,.pt 4 0),(5,.fn 43 [.pt 4 0])] [.gw 0 ai,.gw 1 aM,.bx 45 [.z s.kind,.z s.node,.z s.peer,.z s.n,.z s.bit,.u s.inc,.d (.ro 1 (af s.body))],.bx 84 [.d (.v (.string ⟨((ae s.kind.toNat).word).toArray⟩)),.d (.v (.bool ((ae s.kind.toNat).node))),.d (.v (.bool ((ae s.kind.toNat).peer))),.d (.v (.bool ((ae s.kind.toNat).n))),.d (.v (.bool ((ae s.kind.toNat).bit))),.d (.v (.bool ((ae s.kind.toNat).inc))),.d (.v (.bool ((ae s.kind.toNat).body)))],.bx 93 [.sl 5 ((aW s 4).length)],.rw 9 1 (strs (aW s 4))] ac wd→aD Tryd.prog 23 (aft Tryd.f23 7) (eI D w0 K bs (.d (.v (.string ⟨(aQ (bN s)).toArray⟩))) ([.gw 0 ai,.gw 1 aM])) ac wd by
  cases h3:((ae s.kind.toNat).bit) with
  | false=>
   have r:=r.cast (M':=[.gw 0 ai,.gw 1 aM,.bx 45 [.z s.kind,.z s.node,.z s.peer,.z s.n,.z s.bit,.u s.inc,.d (.ro 1 (af s.body))],.bx 84 [.d (.v (.string ⟨((ae s.kind.toNat).word).toArray⟩)),.d (.v (.bool ((ae s.kind.toNat).node))),.d (.v (.bool ((ae s.kind.toNat).peer))),.d (.v (.bool ((ae s.kind.toNat).n))),.d (.v (.bool false)),.d (.v (.bool ((ae s.kind.toNat).inc))),.d (.v (.bool ((ae s.kind.toNat).body)))],.bx 93 [.sl 5 ((aW s 3).length)],.rw 9 1 (strs (aW s 3))]) rfl (by rw [h3])
   refine bT (todo':=aft Tryd.f23 7) (E':=[(1,.pt 2 0),(3,.pt 3 0),(4,.pt 4 0),(5,.fn 43 [.pt 4 0])]) (M':=[.gw 0 ai,.gw 1 aM,.bx 45 [.z s.kind,.z s.node,.z s.peer,.z s.n,.z s.bit,.u s.inc,.d (.ro 1 (af s.body))],.bx 84 [.d (.v (.string ⟨((ae s.kind.toNat).word).toArray⟩)),.d (.v (.bool ((ae s.kind.toNat).node))),.d (.v (.bool ((ae s.kind.toNat).peer))),.d (.v (.bool ((ae s.kind.toNat).n))),.d (.v (.bool false)),.d (.v (.bool ((ae s.kind.toNat).inc))),.d (.v (.bool ((ae s.kind.toNat).body)))],.bx 93 [.sl 5 ((aW s 3).length)],.rw 9 1 (strs (aW s 3))]) tk mo hK al [(7,[(5,.z (((s.bit.toNat:Nat):Int))),(6,.bG 200 [])])] 2 [0,1,2,3,4,5] [1,3,4,5] r (by kernel_rfl) (U ((mS dX fw):IntKind.u64.wrap (s.bit)=((s.bit.toNat:Nat):Int)) trivial) fun ac wd r=>?_
   exact J7 ac wd (r.cast rfl (by rw [qz (j:=3) h3,h3]<;>rfl))
  | true=>
   have r:=r.cast (M':=[.gw 0 ai,.gw 1 aM,.bx 45 [.z s.kind,.z s.node,.z s.peer,.z s.n,.z s.bit,.u s.inc,.d (.ro 1 (af s.body))],.bx 84 [.d (.v (.string ⟨((ae s.kind.toNat).word).toArray⟩)),.d (.v (.bool ((ae s.kind.toNat).node))),.d (.v (.bool ((ae s.kind.toNat).peer))),.d (.v (.bool ((ae s.kind.toNat).n))),.d (.v (.bool true)),.d (.v (.bool ((ae s.kind.toNat).inc))),.d (.v (.bool ((ae s.kind.toNat).body)))],.bx 93 [.sl 5 ((aW s 3).length)],.rw 9 1 (strs (aW s 3))]) rfl (by rw [h3])
   refine bT (todo':=aft Tryd.f23 7) (E':=[(1,.pt 2 0),(3,.pt 3 0),(4,.pt 4 0),(5,.fn 43 [.pt 4 0])]) (M':=[.gw 0 ai,.gw 1 aM,.bx 45 [.z s.kind,.z s.node,.z s.peer,.z s.n,.z s.bit,.u s.inc,.d (.ro 1 (af s.body))],.bx 84 [.d (.v (.string ⟨((ae s.kind.toNat).word).toArray⟩)),.d (.v (.bool ((ae s.kind.toNat).node))),.d (.v (.bool ((ae s.kind.toNat).peer))),.d (.v (.bool ((ae s.kind.toNat).n))),.d (.v (.bool true)),.d (.v (.bool ((ae s.kind.toNat).inc))),.d (.v (.bool ((ae s.kind.toNat).body)))],.bx 93 [.sl 5 ((aW s 3).length+(1))],.rw 9 1 (strs (aW s 3)++[[.v (.string ⟨(Go.Lib.decDigits s.bit.toNat).toArray⟩)]])]) tk mo hK al [(7,[(5,.z (((s.bit.toNat:Nat):Int))),(6,.bG 200 [(1,[(2,.mem [1] (.d (.v (.string ⟨(Go.Lib.decDigits s.bit.toNat).toArray⟩))) [.gw 1 aM])])])])] 2 [0,1,2,3,4,5] [1,3,4,5] r (by kernel_rfl) (U ((mS dX fw):IntKind.u64.wrap (s.bit)=((s.bit.toNat:Nat):Int)) (U (qL s.bit.toNat (by omega)) (U ((by first | rfl | (simp [strs];done) | (simp [strs];omega)):((aW s 3).length)=(strs (aW s 3):List (List DV)).length) (U ((by first | rfl | (simp [strs];done) | (simp [strs];omega)):(1)=([[.v (.string ⟨(Go.Lib.decDigits s.bit.toNat).toArray⟩)]]:List (List DV)).length) (U ((by first | omega | (simp [strs];done) | (have:=fB s 5;simp [strs];omega)):(2*(((aW s 3).length)+(1))+192)*16≤281474976710656) (U ((by first | omega | (simp [strs];done) | (have:=fB s 5;simp [strs];omega)):((aW s 3).length)+(1)<4611686018427387904) (U ((by simp [bc,AV.one,bU,af,ah,ints,steps,strs]):bc ([[.v (.string ⟨(Go.Lib.decDigits s.bit.toNat).toArray⟩)]])) trivial))))))) fun ac wd r=>?_
   exact J7 ac wd (r.cast rfl (by rw [qy (j:=3) h3,qm (j:=3) h3,h3]<;>rfl))
 intro ac wd r
 have N0:=fB s 4
 suffices J8:∀ ac wd,RB D w0 K 58 bs [(1,.pt 2 0),(3,.pt 3 0),(4,.pt 4 0),(5,.fn 43 [.pt 4 0])] [.gw 0 ai,.gw 1 aM,.bx 45 [.z s.kind,.z s.node,.z s.peer,.z s.n,.z s.bit,.u s.inc,.d (.ro 1 (af s.body))],.bx 84 [.d (.v (.string ⟨((ae s.kind.toNat).word).toArray⟩)),.d (.v (.bool ((ae s.kind.toNat).node))),.d (.v (.bool ((ae s.kind.toNat).peer))),.d (.v (.bool ((ae s.kind.toNat).n))),.d (.v (.bool ((ae s.kind.toNat).bit))),.d (.v (.bool ((ae s.kind.toNat).inc))),.d (.v (.bool ((ae s.kind.toNat).body)))],.bx 93 [.sl 5 ((aW s 5).length)],.rw 9 1 (strs (aW s 5))] ac wd→aD Tryd.prog 23 (aft Tryd.f23 8) (eI D w0 K bs (.d (.v (.string ⟨(aQ (bN s)).toArray⟩))) ([.gw 0 ai,.gw 1 aM])) ac wd by
  cases h4:((ae s.kind.toNat).inc) with
  | false=>
   have r:=r.cast (M':=[.gw 0 ai,.gw 1 aM,.bx 45 [.z s.kind,.z s.node,.z s.peer,.z s.n,.z s.bit,.u s.inc,.d (.ro 1 (af s.body))],.bx 84 [.d (.v (.string ⟨((ae s.kind.toNat).word).toArray⟩)),.d (.v (.bool ((ae s.kind.toNat).node))),.d (.v (.bool ((ae s.kind.toNat).peer))),.d (.v (.bool ((ae s.kind.toNat).n))),.d (.v (.bool ((ae s.kind.toNat).bit))),.d (.v (.bool false)),.d (.v (.bool ((ae s.kind.toNat).body)))],.bx 93 [.sl 5 ((aW s 4).length)],.rw 9 1 (strs (aW s 4))]) rfl (by rw [h4])
   refine bT (todo':=aft Tryd.f23 8) (E':=[(1,.pt 2 0),(3,.pt 3 0),(4,.pt 4 0),(5,.fn 43 [.pt 4 0])]) (M':=[.gw 0 ai,.gw 1 aM,.bx 45 [.z s.kind,.z s.node,.z s.peer,.z s.n,.z s.bit,.u s.inc,.d (.ro 1 (af s.body))],.bx 84 [.d (.v (.string ⟨((ae s.kind.toNat).word).toArray⟩)),.d (.v (.bool ((ae s.kind.toNat).node))),.d (.v (.bool ((ae s.kind.toNat).peer))),.d (.v (.bool ((ae s.kind.toNat).n))),.d (.v (.bool ((ae s.kind.toNat).bit))),.d (.v (.bool false)),.d (.v (.bool ((ae s.kind.toNat).body)))],.bx 93 [.sl 5 ((aW s 4).length)],.rw 9 1 (strs (aW s 4))]) tk mo hK al [(8,[(5,.bG 200 [])])] 2 [0,1,2,3,4,5] [1,3,4,5] r (by kernel_rfl) trivial fun ac wd r=>?_
   exact J8 ac wd (r.cast rfl (by rw [qz (j:=4) h4,h4]<;>rfl))
  | true=>
   have r:=r.cast (M':=[.gw 0 ai,.gw 1 aM,.bx 45 [.z s.kind,.z s.node,.z s.peer,.z s.n,.z s.bit,.u s.inc,.d (.ro 1 (af s.body))],.bx 84 [.d (.v (.string ⟨((ae s.kind.toNat).word).toArray⟩)),.d (.v (.bool ((ae s.kind.toNat).node))),.d (.v (.bool ((ae s.kind.toNat).peer))),.d (.v (.bool ((ae s.kind.toNat).n))),.d (.v (.bool ((ae s.kind.toNat).bit))),.d (.v (.bool true)),.d (.v (.bool ((ae s.kind.toNat).body)))],.bx 93 [.sl 5 ((aW s 4).length)],.rw 9 1 (strs (aW s 4))]) rfl (by rw [h4])
   refine bT (todo':=aft Tryd.f23 8) (E':=[(1,.pt 2 0),(3,.pt 3 0),(4,.pt 4 0),(5,.fn 43 [.pt 4 0])]) (M':=[.gw 0 ai,.gw 1 aM,.bx 45 [.z s.kind,.z s.node,.z s.peer,.z s.n,.z s.bit,.u s.inc,.d (.ro 1 (af s.body))],.bx 84 [.d (.v (.string ⟨((ae s.kind.toNat).word).toArray⟩)),.d (.v (.bool ((ae s.kind.toNat).node))),.d (.v (.bool ((ae s.kind.toNat).peer))),.d (.v (.bool ((ae s.kind.toNat).n))),.d (.v (.bool ((ae s.kind.toNat).bit))),.d (.v (.bool true)),.d (.v (.bool ((ae s.kind.toNat).body)))],.bx 93 [.sl 5 ((aW s 4).length+(1))],.rw 9 1 (strs (aW s 4)++[[.v (.string ⟨(Go.Lib.decDigits s.inc).toArray⟩)]])]) tk mo hK al [(8,[(5,.bG 200 [(1,[(2,.mem [1] (.d (.v (.string ⟨(Go.Lib.decDigits s.inc).toArray⟩))) [.gw 1 aM])])])])] 2 [0,1,2,3,4,5] [1,3,4,5] r (by kernel_rfl) (U (qL s.inc (by omega)) (U ((by first | rfl | (simp [strs];done) | (simp [strs];omega)):((aW s 4).length)=(strs (aW s 4):List (List DV)).length) (U ((by first | rfl | (simp [strs];done) | (simp [strs];omega)):(1)=([[.v (.string ⟨(Go.Lib.decDigits s.inc).toArray⟩)]]:List (List DV)).length) (U ((by first | omega | (simp [strs];done) | (have:=fB s 5;simp [strs];omega)):(2*(((aW s 4).length)+(1))+192)*16≤281474976710656) (U ((by first | omega | (simp [strs];done) | (have:=fB s 5;simp [strs];omega)):((aW s 4).length)+(1)<4611686018427387904) (U ((by simp [bc,AV.one,bU,af,ah,ints,steps,strs]):bc ([[.v (.string ⟨(Go.Lib.decDigits s.inc).toArray⟩)]])) trivial)))))) fun ac wd r=>?_
   exact J8 ac wd (r.cast rfl (by rw [qy (j:=4) h4,qm (j:=4) h4,h4]<;>rfl))
 intro ac wd r
 have N1:=fB s 5
 refine bT (todo':=aft Tryd.f23 9) (E':=[(1,.pt 2 0),(4,.pt 4 0),(49,.d (.v (.bool ((ae s.kind.toNat).body))))]) (M':=[.gw 0 ai,.gw 1 aM,.bx 45 [.z s.kind,.z s.node,.z s.peer,.z s.n,.z s.bit,.u s.inc,.d (.ro 1 (af s.body))],.bx 84 [.d (.v (.string ⟨((ae s.kind.toNat).word).toArray⟩)),.d (.v (.bool ((ae s.kind.toNat).node))),.d (.v (.bool ((ae s.kind.toNat).peer))),.d (.v (.bool ((ae s.kind.toNat).n))),.d (.v (.bool ((ae s.kind.toNat).bit))),.d (.v (.bool ((ae s.kind.toNat).inc))),.d (.v (.bool ((ae s.kind.toNat).body)))],.bx 93 [.sl 5 ((aW s 5).length)],.rw 9 1 (strs (aW s 5))]) tk mo hK al [] 3 [0,1,2,3,4,5] [1,4,49] r (by kernel_rfl) trivial fun ac wd r=>?_
 cases h5:((ae s.kind.toNat).body) with
 | false=>
  have r:=r.cast (E':=[(1,.pt 2 0),(4,.pt 4 0),(49,.d (.v (.bool false)))]) (M':=[.gw 0 ai,.gw 1 aM,.bx 45 [.z s.kind,.z s.node,.z s.peer,.z s.n,.z s.bit,.u s.inc,.d (.ro 1 (af s.body))],.bx 84 [.d (.v (.string ⟨((ae s.kind.toNat).word).toArray⟩)),.d (.v (.bool ((ae s.kind.toNat).node))),.d (.v (.bool ((ae s.kind.toNat).peer))),.d (.v (.bool ((ae s.kind.toNat).n))),.d (.v (.bool ((ae s.kind.toNat).bit))),.d (.v (.bool ((ae s.kind.toNat).inc))),.d (.v (.bool false))],.bx 93 [.sl 5 ((aW s 5).length)],.rw 9 1 (strs (aW s 5))]) (by rw [h5]) (by rw [h5])
  refine a8 (y:=.d (.v (.string ⟨(aQ (bN s)).toArray⟩))) (N':=[.gw 0 ai,.gw 1 aM]) (rfl) (rfl) ?_
  exact a7 tk mo hK rfl al [(11,[(1,.call [.d (.ro 1 (strs (bN s))),.d (.v (.string ⟨([32]).toArray⟩))] (.v (.string ⟨(aQ (bN s)).toArray⟩)))])] 2000 [0,1] r (by kernel_rfl) (U (wa _ _ (Nat.le_trans (Nat.le_of_succ_le (qe (s:=s) hb hi pM pO pP fw).2) (by decide)) (Nat.le_trans (qe (s:=s) hb hi pM pO pP fw).1 (by decide)):aB Tryd.prog 42 [.d (.ro 1 (strs (bN s))),.d (.v (.string ⟨([32]).toArray⟩))] (.v (.string ⟨(aQ (bN s)).toArray⟩))) (U ((gS _):fU (.v (.string ⟨(aQ (bN s)).toArray⟩))) (U (fj (1)) (U ((by first | rfl | (simp [strs];done) | (simp [strs];omega)):((aW s 5).length)=(strs (aW s 5):List (List DV)).length) (U ((by first | (rw [Cp (by assumption)];simp [strs,jM,ef];done) | (rw [Co (by assumption)];simp [strs,jM,ef])):cx (strs (aW s 5))=strs (bN s)) (U (ei (.v (.string ⟨([32]).toArray⟩))) trivial))))))
 | true=>
  have r:=r.cast (E':=[(1,.pt 2 0),(4,.pt 4 0),(49,.d (.v (.bool true)))]) (M':=[.gw 0 ai,.gw 1 aM,.bx 45 [.z s.kind,.z s.node,.z s.peer,.z s.n,.z s.bit,.u s.inc,.d (.ro 1 (af s.body))],.bx 84 [.d (.v (.string ⟨((ae s.kind.toNat).word).toArray⟩)),.d (.v (.bool ((ae s.kind.toNat).node))),.d (.v (.bool ((ae s.kind.toNat).peer))),.d (.v (.bool ((ae s.kind.toNat).n))),.d (.v (.bool ((ae s.kind.toNat).bit))),.d (.v (.bool ((ae s.kind.toNat).inc))),.d (.v (.bool true))],.bx 93 [.sl 5 ((aW s 5).length)],.rw 9 1 (strs (aW s 5))]) (by rw [h5]) (by rw [h5])
  refine a8 (y:=.d (.v (.string ⟨(aQ (bN s)).toArray⟩))) (N':=[.gw 0 ai,.gw 1 aM]) (rfl) (rfl) ?_
  exact a7 tk mo hK rfl al [(10,[(3,.aO (.v (.string ⟨(dJ s.body).toArray⟩)))]),(11,[(1,.call [.d (.ro 1 (strs (bN s))),.d (.v (.string ⟨([32]).toArray⟩))] (.v (.string ⟨(aQ (bN s)).toArray⟩)))])] 2000 [0,1] r (by kernel_rfl) (U (EW s.body (by omega)) (U ((by first | rfl | (simp [strs];done) | (simp [strs];omega)):((aW s 5).length)=(strs (aW s 5):List (List DV)).length) (U ((by first | rfl | (simp [strs];done) | (simp [strs];omega)):(1)=([[.v (.string ⟨(dJ s.body).toArray⟩)]]:List (List DV)).length) (U ((by first | omega | (simp [strs];done) | (have:=fB s 5;simp [strs];omega)):(2*(((aW s 5).length)+(1))+192)*16≤281474976710656) (U ((by first | omega | (simp [strs];done) | (have:=fB s 5;simp [strs];omega)):((aW s 5).length)+(1)<4611686018427387904) (U ((by simp [bc,AV.one,bU,af,ah,ints,steps,strs]):bc ([[.v (.string ⟨(dJ s.body).toArray⟩)]])) (U (wa _ _ (Nat.le_trans (Nat.le_of_succ_le (qe (s:=s) hb hi pM pO pP fw).2) (by decide)) (Nat.le_trans (qe (s:=s) hb hi pM pO pP fw).1 (by decide)):aB Tryd.prog 42 [.d (.ro 1 (strs (bN s))),.d (.v (.string ⟨([32]).toArray⟩))] (.v (.string ⟨(aQ (bN s)).toArray⟩))) (U ((gS _):fU (.v (.string ⟨(aQ (bN s)).toArray⟩))) (U (fj (1)) (U ((by first | rfl | (simp [strs];done) | (simp [strs];omega)):((aW s 5).length+(1))=(strs (aW s 5)++[[.v (.string ⟨(dJ s.body).toArray⟩)]]:List (List DV)).length) (U ((by first | (rw [Cp (by assumption)];simp [strs,jM,ef];done) | (rw [Co (by assumption)];simp [strs,jM,ef])):cx (strs (aW s 5)++[[.v (.string ⟨(dJ s.body).toArray⟩)]])=strs (bN s)) (U (ei (.v (.string ⟨([32]).toArray⟩))) trivial))))))))))))
end Go.Proofs.YtcnpikbbmbombaaDoor
namespace Go.Proofs.YtcnpikbbmbombaaDoor
open Go.RowKit
def cB (l:List az):List UInt8:=l.flatMap fun s=>aQ (bN s)++[10]
def eY (c:bk) (l:List az):List UInt8:=aQ (bE c)++[10]++cB l
theorem zo {l:List az} {i:Nat} {s:az} (h:l[i]?=some s):cB (l.take (i+1))=cB (l.take i)++aQ (bN s)++[10]:=by
 unfold cB;rw [List.take_add_one,h];simp
theorem zM (l:List (List UInt8)):(aQ l).length≤l.flatten.length+l.length:=by
 cases l with
 | nil=>simp [aQ]
 | cons x r=>simp only [aQ,List.length_append,ov,List.flatten_cons,List.length_cons];omega
theorem pV {c:bk} {l:List az} (h:decide (ct c l=0)=true):cf c=true∧l.all hasB=true∧(bY c l).length≤65536:=by
 have h2:=Ap h
 have h:=of_decide_eq_true h
 unfold ct at h
 generalize cf c=a at h;generalize l.all hasB=b at h
 refine ⟨?_,?_,h2⟩<;>cases a<;>cases b<;>first | rfl | (simp at h)
theorem HG (s:az):1≤(cz s).length:=by unfold cz;simp
theorem Jk (c:bk) (l:List az):c.ah.length+c.homes.length+l.length≤(bY c l).length:=by
 have h:l.length≤(l.flatMap cz).length:=by
  induction l with
  | nil=>simp
  | cons x r ih=>rw [List.flatMap_cons,List.length_append,List.length_cons];have:=HG x;omega
 unfold bY;rw [List.length_append,r4];omega
set_option maxRecDepth 100000 in
theorem L7 (c:bk) (l:List az) (hc:c.ah.length≤1048576) (hh:c.homes.length≤1048576) (hl:l.length≤9223372036854775807) (hr:∀ s ∈ l,s.Rd) (hE:decide (ct c l=0)=true) (hm:cf c=true) (ha:∀ s ∈ l,hasB s=true) (hn:c.ah.length+c.homes.length+l.length≤65536) (hj:(aQ (bE c)).length≤2818048):aA Tryd.prog 8 [.ag [.z c.aq,.d (.ro 2 (ah c.ah)),.d (.ro 1 (ints c.homes))],.d (.ro 7 (steps l))] [.gw 0 ai,.gw 1 aM] (.tu [.d (.v (.string ⟨(eY c l).toArray⟩)),.z 0]) ([.gw 0 ai,.gw 1 aM]):=by
 refine aA.intro (by kernel_rfl) rfl rfl 36 rfl rfl fun D w0 K bs ac wd hK (al:bs.m=2) r=>?_
 refine cd (todo':=hd Tryd.f8 0) (E':=[(8,.pt 2 0),(24,.d (.ro 7 (steps l))),(25,.n l.length),(26,.z 0)]) (M':=[.gw 0 ai,.gw 1 aM,.bx 56 [.pt 2 0,.sl 3 (((aQ (bE c))).length+(1))],.rw 5 1 (af (aQ (bE c))++[[.v (.int .u8 10)]])]) tk mo hK al [(1,[(2,.mem [0] (.tu [.sl 1 ((bY c l).length),.z 0]) [.gw 0 ai,.rw 5 1 (af (bY c l))])]),(5,[(1,.aO (.v (.string ⟨(aQ (bE c)).toArray⟩))),(2,.bG 200 [(1,[(1,.bG 200 [(1,[(2,.b true),(3,.b true),(4,.b false)])])])])]),(6,[(0,.bG 200 [(1,[(1,.bG 200 [])])])]),(7,[(1,.z (((l.length:Nat):Int)))])] 2000 [0,1,4,5] [8,24,25,26] r (by kernel_rfl) (U ((vZ c l hc hh hl hr hE):aA Tryd.prog 7 [.ag [.z c.aq,.d (.ro 2 (ah c.ah)),.d (.ro 1 (ints c.homes))],.d (.ro 7 (steps l))] [.gw 0 ai] (.tu [.sl 1 ((bY c l).length),.z 0]) [.gw 0 ai,.rw 5 1 (af (bY c l))]) (U (FZ c hm (by omega)) (U (ju:cY Tryd.prog 54) (U ((by kernel_rfl):(bif true then mn Tryd.prog 54 119 else mq Tryd.prog 54 119 56 2)=true) (U ((by decide):0<2) (U (xe:qt Tryd.prog 59) (U ((by kernel_rfl):(bif false then mn Tryd.prog 119 54 else mq Tryd.prog 119 54 56 2)=true) (U ((by decide):0<2) (U ((by first | omega | (simp [af];done) | (simp [af];omega)):(2*(0+((aQ (bE c))).length)+192)*1≤281474976710656) (U ((by first | omega | (simp [af];done) | (simp [af];omega)):0+((aQ (bE c))).length<4611686018427387904) (U (ju:cY Tryd.prog 54) (U ((by kernel_rfl):je Tryd.prog 54=true) (U ((by first | rfl | (simp [af];done) | (simp [af];omega)):(((aQ (bE c))).length)=(af (aQ (bE c))).length) (U ((by first | rfl | (simp [af];done) | (simp [af];omega)):(1)=([[.v (.int .u8 10)]]:List (List DV)).length) (U ((by first | omega | (simp [af];done) | (simp [af];omega)):(2*((((aQ (bE c))).length)+(1))+192)*1≤281474976710656) (U ((by first | omega | (simp [af];done) | (simp [af];omega)):(((aQ (bE c))).length)+(1)<4611686018427387904) (U ((by simp [bc,AV.one,bU,af]):bc ([[.v (.int .u8 10)]])) (U ((by first | rfl | simp [af,ah,ints,steps,strs]):(((steps l).length:Nat):Int)=((l.length:Nat):Int)) trivial)))))))))))))))))) fun ac wd r=>?_
 refine aD.rounds (Φ:=fun (i:Nat) ac wd=>(i≤l.length∧(aQ (bE c)++[10]++cB (l.take i)).length≤2818049+4000*i)∧RB D w0 K 36 bs [(8,.pt 2 0),(24,.d (.ro 7 (steps l))),(25,.n l.length),(26,.n i)] [.gw 0 ai,.gw 1 aM,.bx 56 [.pt 2 0,.sl 3 ((aQ (bE c)++[10]++cB (l.take i)).length)],.rw 5 1 (af (aQ (bE c)++[10]++cB (l.take i)))] ac wd) (l.length) ?_ (Nat.zero_le _) ⟨⟨Nat.zero_le _,by simp [cB];omega⟩,(r).cast rfl (by simp [cB,af])⟩
 clear r
 rintro i eA bP ac wd ⟨ao,r⟩
 have hlen:=ao.2
 have PC:(aQ (bE c)++[10]++cB (l.take i)).length=(aQ (bE c)).length+1+(cB (l.take i)).length:=by simp;omega
 cases h0:(decide ((((i:Nat):Int):Int)<((l.length:Nat):Int))) with
 | false=>
  have bH:=of_decide_eq_false h0
  refine a8 (y:=.tu [.d (.v (.string ⟨((aQ (bE c)++[10]++cB (l.take i))).toArray⟩)),.z 0]) (N':=[.gw 0 ai,.gw 1 aM]) ((by rw [List.take_of_length_le (by omega)];rfl)) (rfl) ?_
  exact a7 tk mo hK rfl al [(8,[(0,.b false)]),(13,[(0,.bG 200 [(1,[(10,.res (.v (.string ⟨((aQ (bE c)++[10]++cB (l.take i))).toArray⟩)))])])])] 2000 [0,1] r (by kernel_rfl) (U h0 (U ((by first | rfl | (simp [af];done) | (simp [af];omega)):((aQ (bE c)++[10]++cB (l.take i)).length)=(af (aQ (bE c)++[10]++cB (l.take i)):List (List DV)).length) (U ((by first | omega | decide | (simp [af];done) | (simp [af];omega)):0<((aQ (bE c)++[10]++cB (l.take i)).length)) (U ((by simp [af]):((((aQ (bE c)++[10]++cB (l.take i)).length:Nat):Int):Int)=(((af (aQ (bE c)++[10]++cB (l.take i)):List (List DV)).length:Nat):Int)) (U ((by first | omega | (simp [af];done) | (simp [af];omega)):0<(af (aQ (bE c)++[10]++cB (l.take i)):List (List DV)).length) (U (rfl:af (aQ (bE c)++[10]++cB (l.take i))=af ((aQ (bE c)++[10]++cB (l.take i)))) (U ((by kernel_rfl):qH Tryd.prog 98 5=true) (U ((by first | omega | decide | (simp [af];done) | (simp [af];omega)):(af (aQ (bE c)++[10]++cB (l.take i)):List (List DV)).length≤9223372036854775807) trivial))))))))
 | true=>
  have bH:=of_decide_eq_true h0
  obtain ⟨bg,dv⟩:∃ x_,l[i]?=some x_:=⟨_,List.getElem?_eq_getElem (by omega)⟩
  have e6:=(hr _ (List.mem_of_getElem? dv)).inc
  have N2:=nq (ha _ (List.mem_of_getElem? dv))
  have dN:=qe (s:=bg) (by omega) (by omega) (by omega) (by omega) (by omega) (by omega)
  have tE:=zM (bN bg)
  exact cd (todo':=hd Tryd.f8 0) (E':=[(8,.pt 2 0),(24,.d (.ro 7 (steps l))),(25,.n l.length),(26,.n (i+1))]) (M':=[.gw 0 ai,.gw 1 aM,.bx 56 [.pt 2 0,.sl 3 ((aQ (bE c)++[10]++cB (l.take i)).length+((aQ (bN bg))).length+(1))],.rw 5 1 (af (aQ (bE c)++[10]++cB (l.take i))++af (aQ (bN bg))++[[.v (.int .u8 10)]])]) tk mo hK al [(8,[(0,.b true)]),(9,[(0,.ix (i) [.z bg.kind,.z bg.node,.z bg.peer,.z bg.n,.z bg.bit,.u bg.inc,.ro 1 (af bg.body)])]),(10,[(1,.mem [0,1] (.d (.v (.string ⟨(aQ (bN bg)).toArray⟩))) [.gw 0 ai,.gw 1 aM]),(2,.bG 200 [(1,[(1,.bG 200 [])])])]),(11,[(0,.bG 200 [(1,[(1,.bG 200 [])])])]),(12,[(0,.z (((i+1:Nat):Int)))])] 2000 [0,1,2,3] [8,24,25,26] r (by kernel_rfl) (U h0 (U (aP ((i:Nat):Int)) (U (kP dv) (U (EY bg (by omega) (by omega) (by omega) (by omega) (by omega) (by omega) (by omega) (by omega) (by omega) (by omega) (by omega) (by omega)) (U (ju:cY Tryd.prog 54) (U ((by kernel_rfl):je Tryd.prog 54=true) (U ((by first | rfl | (simp [af];done) | (simp [af];omega)):((aQ (bE c)++[10]++cB (l.take i)).length)=(af (aQ (bE c)++[10]++cB (l.take i)):List (List DV)).length) (U ((by first | omega | (simp [af];done) | (simp [af];omega)):(2*(((aQ (bE c)++[10]++cB (l.take i)).length)+((aQ (bN bg))).length)+192)*1≤281474976710656) (U ((by first | omega | (simp [af];done) | (simp [af];omega)):((aQ (bE c)++[10]++cB (l.take i)).length)+((aQ (bN bg))).length<4611686018427387904) (U (ju:cY Tryd.prog 54) (U ((by kernel_rfl):je Tryd.prog 54=true) (U ((by first | rfl | (simp [af];done) | (simp [af];omega)):((aQ (bE c)++[10]++cB (l.take i)).length+((aQ (bN bg))).length)=(af (aQ (bE c)++[10]++cB (l.take i))++af (aQ (bN bg)):List (List DV)).length) (U ((by first | rfl | (simp [af];done) | (simp [af];omega)):(1)=([[.v (.int .u8 10)]]:List (List DV)).length) (U ((by first | omega | (simp [af];done) | (simp [af];omega)):(2*(((aQ (bE c)++[10]++cB (l.take i)).length+((aQ (bN bg))).length)+(1))+192)*1≤281474976710656) (U ((by first | omega | (simp [af];done) | (simp [af];omega)):((aQ (bE c)++[10]++cB (l.take i)).length+((aQ (bN bg))).length)+(1)<4611686018427387904) (U ((by simp [bc,AV.one,bU,af]):bc ([[.v (.int .u8 10)]])) (U ((wi (by omega)):IntKind.i64.wrap ((((i:Nat):Int):Int)+1)=((i+1:Nat):Int)) trivial))))))))))))))))) fun ac wd r=>bP (by omega) ac wd ⟨⟨by omega,by rw [zo dv];simp at *;omega⟩,r.cast rfl (by rw [zo dv];simp [af,Nat.add_assoc];omega)⟩
set_option maxRecDepth 100000 in
theorem M5 (c:bk) (l:List az) (hc:c.ah.length≤1048576) (hh:c.homes.length≤1048576) (hl:l.length≤9223372036854775807) (hr:∀ s ∈ l,s.Rd) (hE:decide (ct c l=0)=false):aA Tryd.prog 8 [.ag [.z c.aq,.d (.ro 2 (ah c.ah)),.d (.ro 1 (ints c.homes))],.d (.ro 7 (steps l))] [.gw 0 ai,.gw 1 aM] (.tu [.d (.v (.string ⟨[].toArray⟩)),.z (ct c l)]) ([.gw 0 ai,.gw 1 aM]):=by
 refine aA.intro (by kernel_rfl) rfl rfl 36 rfl rfl fun D w0 K bs ac wd hK (al:bs.m=2) r=>?_
 have aZ:=((Cc c l hc hh hl hr hE):aA Tryd.prog 7 [.ag [.z c.aq,.d (.ro 2 (ah c.ah)),.d (.ro 1 (ints c.homes))],.d (.ro 7 (steps l))] [.gw 0 ai] (.tu [.d (.ro 1 (af [])),.z (ct c l)]) [.gw 0 ai])
 cases h0:((ct c l:Int) != 0) with
 | false=>
  have bH:=fx h0
  exact absurd bH (of_decide_eq_false hE)
 | true=>
  have bH:¬ _=_:=bne_iff_ne.1 h0
  refine a8 (y:=.tu [.d (.v (.string .empty)),.z (ct c l)]) (N':=[.gw 0 ai,.gw 1 aM]) (rfl) (rfl) ?_
  exact a7 tk mo hK rfl al [(1,[(2,.mem [0] (.tu [.d (.ro 1 (af [])),.z (ct c l)]) [.gw 0 ai])]),(2,[(1,.b true)])] 2000 [0,1] r (by kernel_rfl) (U aZ (U h0 trivial))
theorem ss {l:List az} (h:l.all hasB=true):∀ s ∈ l,hasB s=true:=List.all_eq_true.1 h
theorem Az (c:bk) (l:List az) (hc:c.ah.length≤1048576) (hh:c.homes.length≤1048576) (hl:l.length≤9223372036854775807) (hr:∀ s ∈ l,s.Rd) (hE:decide (ct c l=0)=true):aA Tryd.prog 8 [.ag [.z c.aq,.d (.ro 2 (ah c.ah)),.d (.ro 1 (ints c.homes))],.d (.ro 7 (steps l))] [.gw 0 ai,.gw 1 aM] (.tu [.d (.v (.string ⟨(eY c l).toArray⟩)),.z 0]) [.gw 0 ai,.gw 1 aM]:=by
 obtain ⟨h1,h2,h3⟩:=pV hE
 have h4:=Jk c l
 refine L7 c l hc hh hl hr hE h1 (ss h2) (by omega) ?_
 have h5:=Av h1;have h6:=wb c;have h7:=zM (bE c)
 omega
end Go.Proofs.YtcnpikbbmbombaaDoor
namespace Go.Proofs.YtcnpikbbmbombaaDoor
open Go.RowKit
theorem Jl (c:UInt8):IntKind.u8.wrap ((BitVec.ofInt IntKind.u8.bits (c.toNat:Int) &&& BitVec.ofInt IntKind.u8.bits 127).toNat:Int)=((c.toNat%128:Nat):Int):=by
 have hb:=c.toNat_lt
 have h1:(BitVec.ofInt 8 ((c.toNat:Nat):Int) &&& BitVec.ofInt 8 127).toNat=c.toNat%128:=by
  rw [BitVec.toNat_and]
  have e1:(BitVec.ofInt 8 ((c.toNat:Nat):Int)).toNat=c.toNat:=by simp [BitVec.toNat_ofInt]
  have e2:(BitVec.ofInt 8 127).toNat=2 ^ 7-1:=by decide
  rw [e1,e2,Nat.and_two_pow_sub_one_eq_mod]
 show IntKind.u8.wrap ((BitVec.ofInt 8 ((c.toNat:Nat):Int) &&& BitVec.ofInt 8 127).toNat:Int)=_
 rw [h1]
 simp [IntKind.wrap,IntKind.signed,IntKind.bits];omega
theorem tT {i x:Nat} {c:UInt8} (hi:i≤9) (hx:x<128 ^ i) (h:x+c.toNat%128*128 ^ i<18446744073709551616):eE i (x:Int) c=((x+c.toNat%128*128 ^ i:Nat):Int):=by
 have p7:(128:Nat) ^ i=2 ^ (7*i):=by rw [Nat.pow_mul]
 unfold eE
 rw [Jl]
 generalize c.toNat%128=y at *
 have hle:y≤y*128 ^ i:=Nat.le_mul_of_pos_right _ (Nat.pow_pos (by decide))
 have w1:IntKind.u64.wrap (y:Int)=(y:Int):=by simp [IntKind.wrap,IntKind.signed,IntKind.bits];omega
 have ml:(min (((7*i:Nat):Int)).toNat IntKind.u64.bits)=7*i:=by simp [IntKind.bits];omega
 have hm:((y:Int)*2 ^ (7*i))=((y*128 ^ i:Nat):Int):=by rw [p7];push_cast;rfl
 rw [w1,ml,hm]
 have w2:IntKind.u64.wrap ((y*128 ^ i:Nat):Int)=((y*128 ^ i:Nat):Int):=by
  generalize y*128 ^ i=q at *
  simp [IntKind.wrap,IntKind.signed,IntKind.bits];omega
 rw [w2]
 have h1:(BitVec.ofInt 64 (x:Int) ||| BitVec.ofInt 64 ((y*128 ^ i:Nat):Int)).toNat=x+y*128 ^ i:=by
  rw [BitVec.toNat_or]
  have a1:(BitVec.ofInt 64 (x:Int)).toNat=x:=by
   have:x<18446744073709551616:=by omega
   rw [BitVec.ofInt_natCast,BitVec.toNat_ofNat];omega
  have a2:(BitVec.ofInt 64 ((y*128 ^ i:Nat):Int)).toNat=y*128 ^ i:=by
   have:y*128 ^ i<18446744073709551616:=by omega
   rw [BitVec.ofInt_natCast,BitVec.toNat_ofNat];omega
  rw [a1,a2,p7,Nat.mul_comm y,Nat.or_comm,← Nat.two_pow_add_eq_or_of_lt (by rw [← p7];exact hx)];omega
 show IntKind.u64.wrap ((BitVec.ofInt 64 (x:Int) ||| BitVec.ofInt 64 ((y*128 ^ i:Nat):Int)).toNat:Int)=_
 rw [h1]
 generalize x+y*128 ^ i=q at *
 simp [IntKind.wrap,IntKind.signed,IntKind.bits];omega
theorem lu {n:Nat} (h:n<256):(bz ((n:Nat):Int)).toNat=n:=by have:=l0 ((n:Nat):Int);omega
theorem EZ (x:Nat):1≤(cb x).length:=by
 by_cases h:x<128
 ·rw [kM h];simp
 ·rw [oh h];simp
theorem E4:∀ (n y:Nat),y≤n→∀ (i a:Nat) (r:List UInt8),i≤9→a<128 ^ i→(y=0→i=0)→a+y*128 ^ i<18446744073709551616→fh (cb y++r) i (a:Int)=(((a+y*128 ^ i:Nat):Int),i+(cb y).length):=by
 intro n
 induction n with
 | zero=>
  intro y hy i a r hi ha h0 hm
  obtain rfl:y=0:=by omega
  obtain rfl:=h0 rfl
  rw [kM (by decide),List.cons_append]
  unfold fh
  rw [lu (by decide),if_neg (by decide),if_pos (by decide),if_neg (by decide),tT (by decide) ha (by rw [lu (by decide)];omega),lu (by decide)]
  rfl
 | succ n ih=>
  intro y hy i a r hi ha h0 hm
  by_cases hl:y<128
  ·rw [kM hl,List.cons_append]
   unfold fh
   have e:(bz ((y:Nat):Int)).toNat%128=y:=by rw [lu (by omega)];omega
   have h9:¬ (i=9∧1<y):=by
    rintro ⟨rfl,h1⟩
    have h2:=Nat.mul_le_mul_right (128 ^ 9) (show 2≤y by omega)
    have h3:(128:Nat) ^ 9=9223372036854775808:=by decide
    omega
   rw [lu (by omega),if_neg h9,if_pos hl,if_neg (by omega),tT hi ha (by rw [e];exact hm),e]
   simp
  ·rw [oh hl,List.cons_append]
   unfold fh
   have e0:(bz ((y%128+128:Nat):Int)).toNat=y%128+128:=lu (by omega)
   have e:(bz ((y%128+128:Nat):Int)).toNat%128=y%128:=by rw [e0];omega
   have h9:i≤8:=by
    rcases Nat.lt_or_ge i 9 with h | h
    ·omega
    ·obtain rfl:i=9:=by omega
     have h2:=Nat.mul_le_mul_right (128 ^ 9) (show 128≤y by omega)
     have h3:(128:Nat) ^ 9=9223372036854775808:=by decide
     omega
   have hd:y=128*(y / 128)+y%128:=(Nat.div_add_mod y 128).symm
   have hs:a+y%128*128 ^ i+y / 128*128 ^ (i+1)=a+y*128 ^ i:=by
    rw [Nat.pow_succ,Nat.add_assoc,← Nat.mul_assoc,Nat.mul_right_comm,← Nat.add_mul]
    congr 2;omega
   have h2:=Nat.mul_le_mul_right (128 ^ i) (show y%128+1≤128 by omega)
   rw [Nat.add_mul,Nat.one_mul] at h2
   have Oj:a+y%128*128 ^ i<128 ^ (i+1):=by rw [Nat.pow_succ];omega
   rw [e0,if_neg (by omega),if_neg (by omega),tT hi ha (by rw [e];omega),e,
    ih (y / 128) (by omega) (i+1) _ r (by omega) Oj (by omega) (by omega),hs]
   simp;omega
theorem HH {x:Nat} (hx:x<18446744073709551616) (r:List UInt8):ek (cb x++r) false=((x:Int),(cb x).length):=by
 unfold ek;rw [if_neg (by decide)]
 have h:=E4 x x (Nat.le_refl _) 0 0 r (by decide) (by decide) (fun _=>rfl) (by omega)
 simpa using h
theorem oH (p r:List UInt8) {z:Int} (h:z=((p.length:Nat):Int)):aY z (p++r,false)=(r,false):=by
 subst h
 have e:¬ iO (p++r) false (p.length:Int):=by rintro (q | q | q);cases q;omega;simp at q;omega
 unfold aY dZ ej;simp only [if_neg e];simp
theorem vo (p r:List UInt8) {z:Int} (h:z=((p.length:Nat):Int)):aK (p++r) false z=p:=by
 subst h
 have e:¬ iO (p++r) false (p.length:Int):=by rintro (q | q | q);cases q;omega;simp at q;omega
 unfold aK;rw [if_neg e];simp
theorem we (b:UInt8) (r:List UInt8):v8 (b::r,false)=b.toNat:=by show ((aK ([b]++r) false 1).getD 0 0).toNat=_;rw [vo [b] r (z:=1) rfl];rfl
theorem Jm (a b:UInt8) (r:List UInt8):ij (a::b::r,false)=a.toNat+b.toNat*256:=by show ((aK ([a,b]++r) false 2).getD 0 0).toNat+((aK ([a,b]++r) false 2).getD 1 0).toNat*256=_;rw [vo [a,b] r (z:=2) rfl];rfl
theorem Ku {x:Nat} (hx:x<18446744073709551616) (r:List UInt8):rU (cb x++r,false)=(r,false)∧vU (cb x++r,false)=x:=by
 have h:=HH hx r
 have hp:=EZ x
 have e:=oH (cb x) r rfl
 unfold rU nX pD vU mR
 rw [h]
 simp only [if_neg (show ¬ (cb x).length=0 by omega)]
 exact ⟨e,rfl⟩
theorem oR {f:Bool} {z:Int} (h:cH f z 255=true) (q:List UInt8):cond f (aY 1 ((if f=true then [bz z] else [])++q,false)) ((if f=true then [bz z] else [])++q,false)=(q,false)∧((cond f (v8 ((if f=true then [bz z] else [])++q,false)) 0:Nat):Int)=z:=by
 unfold cH at h
 simp only [Bool.or_eq_true,Bool.and_eq_true,decide_eq_true_eq] at h
 cases f with
 | false=>exact ⟨rfl,by rcases h with h | h;exact h.symm;cases h.1⟩
 | true=>
  refine ⟨oH [bz z] q rfl,?_⟩
  show ((v8 (bz z::q,false):Nat):Int)=z
  rw [we];have:=l0 z;omega
theorem BR {f:Bool} {z:Int} (h:cH f z 65535=true) (q:List UInt8):cond f (aY 2 ((if f=true then [bz z,bz (z / 256)] else [])++q,false)) ((if f=true then [bz z,bz (z / 256)] else [])++q,false)=(q,false)∧((cond f (ij ((if f=true then [bz z,bz (z / 256)] else [])++q,false)) 0:Nat):Int)=z:=by
 unfold cH at h
 simp only [Bool.or_eq_true,Bool.and_eq_true,decide_eq_true_eq] at h
 cases f with
 | false=>exact ⟨rfl,by rcases h with h | h;exact h.symm;cases h.1⟩
 | true=>
  refine ⟨oH [bz z,bz (z / 256)] q rfl,?_⟩
  show ((ij (bz z::bz (z / 256)::q,false):Nat):Int)=z
  rw [Jm];have:=l0 z;have:=l0 (z / 256);omega
theorem BS {f:Bool} {x:Nat} (h:(f||decide ((x:Int)=0))=true) (hx:x<18446744073709551616) (q:List UInt8):cond f (rU ((if f=true then cb x else [])++q,false)) ((if f=true then cb x else [])++q,false)=(q,false)∧cond f (vU ((if f=true then cb x else [])++q,false)) 0=x:=by
 cases f with
 | false=>exact ⟨rfl,by simp at h;exact h.symm⟩
 | true=>exact Ku hx q
theorem BT {f:Bool} {b:List UInt8} (h:cH f b.length 255=true) (q:List UInt8):cond f (aY (v8 ((if f=true then bz ((b.length:Nat):Int)::b else [])++q,false)) (aY 1 ((if f=true then bz ((b.length:Nat):Int)::b else [])++q,false))) ((if f=true then bz ((b.length:Nat):Int)::b else [])++q,false)=(q,false)∧cond f (aK (aY 1 ((if f=true then bz ((b.length:Nat):Int)::b else [])++q,false)).1 (aY 1 ((if f=true then bz ((b.length:Nat):Int)::b else [])++q,false)).2 (v8 ((if f=true then bz ((b.length:Nat):Int)::b else [])++q,false))) []=b:=by
 unfold cH at h
 simp only [Bool.or_eq_true,Bool.and_eq_true,decide_eq_true_eq] at h
 cases f with
 | false=>exact ⟨rfl,by rcases h with h | h;exact (List.eq_nil_of_length_eq_zero (by omega)).symm;cases h.1⟩
 | true=>
  have e:v8 (bz ((b.length:Nat):Int)::(b++q),false)=b.length:=by rw [we,lu (by omega)]
  have e2:aY 1 (bz ((b.length:Nat):Int)::(b++q),false)=(b++q,false):=oH [bz ((b.length:Nat):Int)] (b++q) rfl
  show aY (v8 (bz ((b.length:Nat):Int)::(b++q),false)) (aY 1 (bz ((b.length:Nat):Int)::(b++q),false))=_∧aK (aY 1 (bz ((b.length:Nat):Int)::(b++q),false)).1 (aY 1 (bz ((b.length:Nat):Int)::(b++q),false)).2 (v8 (bz ((b.length:Nat):Int)::(b++q),false))=_
  rw [e,e2]
  exact ⟨oH b q rfl,vo b q rfl⟩
theorem Kv {s:az} (h:hasB s=true) (hi:s.inc<18446744073709551616) (r:List UInt8):gK (cz s++r)<14∧cW (cz s++r)=(r,false)∧tp (cz s++r)=s:=by
 unfold hasB fg at h
 simp only [Bool.and_eq_true,decide_eq_true_eq] at h
 obtain ⟨k0,k1,h1,h2,h3,h4,h6,h5⟩:=h
 have eK:gK (cz s++r)=s.kind.toNat:=by
  show v8 (bz s.kind::(j4 (ae s.kind.toNat) s++r),false)=_
  rw [we];have:=l0 s.kind;omega
 have e0:bX (cz s++r)=(j4 (ae s.kind.toNat) s++r,false):=oH [bz s.kind] (j4 (ae s.kind.toNat) s++r) rfl
 have hx:ae (gK (cz s++r))=ae s.kind.toNat:=by rw [eK]
 generalize hl:cz s++r=l at eK e0 hx ⊢
 generalize ae s.kind.toNat=x at h1 h2 h3 h4 h5 h6 e0 hx
 unfold j4 at e0
 simp only [List.append_assoc] at e0
 have e1:da l=((if x.peer=true then [bz s.peer] else [])++((if x.n=true then [bz s.n] else [])++((if x.bit=true then [bz s.bit,bz (s.bit / 256)] else [])++((if x.inc=true then cb s.inc else [])++((if x.body=true then bz ((s.body.length:Nat):Int)::s.body else [])++(r))))),false):=by unfold da;rw [hx,e0];exact (oR h1 _).1
 have e2:db l=((if x.n=true then [bz s.n] else [])++((if x.bit=true then [bz s.bit,bz (s.bit / 256)] else [])++((if x.inc=true then cb s.inc else [])++((if x.body=true then bz ((s.body.length:Nat):Int)::s.body else [])++(r)))),false):=by unfold db;rw [hx,e1];exact (oR h2 _).1
 have e3:dc l=((if x.bit=true then [bz s.bit,bz (s.bit / 256)] else [])++((if x.inc=true then cb s.inc else [])++((if x.body=true then bz ((s.body.length:Nat):Int)::s.body else [])++(r))),false):=by unfold dc;rw [hx,e2];exact (oR h3 _).1
 have e4:dB l=((if x.inc=true then cb s.inc else [])++((if x.body=true then bz ((s.body.length:Nat):Int)::s.body else [])++(r)),false):=by unfold dB;rw [hx,e3];exact (BR h4 _).1
 have e5:bd l=((if x.body=true then bz ((s.body.length:Nat):Int)::s.body else [])++(r),false):=by unfold bd;rw [hx,e4];exact (BS h5 hi _).1
 have v1:((cT l:Nat):Int)=s.node:=by unfold cT;rw [hx,e0];exact (oR h1 _).2
 have v2:((dn l:Nat):Int)=s.peer:=by unfold dn;rw [hx,e1];exact (oR h2 _).2
 have v3:((ea l:Nat):Int)=s.n:=by unfold ea;rw [hx,e2];exact (oR h3 _).2
 have v4:((fo l:Nat):Int)=s.bit:=by unfold fo;rw [hx,e3];exact (BR h4 _).2
 have v5:ik l=s.inc:=by unfold ik;rw [hx,e4];exact (BS h5 hi _).2
 have v6:im l=s.body:=by unfold im;rw [hx,e5];exact (BT h6 _).2
 refine ⟨by omega,by unfold cW;rw [hx,e5];exact (BT h6 _).1,?_⟩
 obtain ⟨k,n,p,m,b,i,bo⟩:=s
 unfold tp
 simp only at v1 v2 v3 v4 v5 v6 eK k0
 rw [v1,v2,v3,v4,v5,v6,eK]
 congr 1;omega
theorem Jn {s:az} (h:hasB s=true) (hi:s.inc<18446744073709551616) (r:List UInt8):bf (cz s++r)=(s,(cz s).length):=by
 obtain ⟨h1,h2,h3⟩:=Kv h hi r
 rw [vg h1 (by rw [h2]),h2,h3];simp
theorem HI (s:az):1≤(cz s).length:=by unfold cz;simp
theorem Jo {k:Nat} (h:k<14):(ae k).body=true→(ae k).peer=false∧(ae k).n=false∧(ae k).bit=false∧(ae k).inc=false:=
 lZ (p:=fun k=>(ae k).body=true→(ae k).peer=false∧(ae k).n=false∧(ae k).bit=false∧(ae k).inc=false) (by decide) (by decide) (by decide) (by decide) (by decide) (by decide) (by decide) (by decide) (by decide) (by decide) (by decide) (by decide) (by decide) (by decide) h
theorem HJ {s:az} (h:hasB s=true) (hi:s.inc<18446744073709551616):(cz s).length≤258:=by
 have hp:=nq h
 have hf:=Jo (k:=s.kind.toNat) (by omega)
 have h5:=eR hi
 unfold cz j4
 generalize ae s.kind.toNat=x at hf
 obtain ⟨w,n,p,m,b,i,bo⟩:=x
 simp only at hf ⊢
 cases bo with
 | true=>obtain ⟨rfl,rfl,rfl,rfl⟩:=hf rfl;cases n<;>simp<;>omega
 | false=>cases n<;>cases p<;>cases m<;>cases b<;>cases i<;>simp<;>omega
theorem AA:∀ (l:List az),(∀ s ∈ l,hasB s=true∧s.inc<18446744073709551616)→iF (l.flatMap cz)=l
 | [],_=>r6
 | s::l,h=>by
  obtain ⟨h1,h2⟩:=h s List.mem_cons_self
  have hp:=HI s
  have hw:=HJ h1 h2
  rw [List.flatMap_cons,p6 (by simp;omega),List.take_append,List.take_of_length_le hw,Jn h1 h2]
  show s::iF (List.drop (cz s).length (cz s++l.flatMap cz))=_
  rw [List.drop_left,AA l fun s hs=>h s (List.mem_cons_of_mem _ hs)]
end Go.Proofs.YtcnpikbbmbombaaDoor
namespace Go.Proofs.YtcnpikbbmbombaaDoor
open Go.RowKit
theorem k5 {u:Nat} (h:u<10):Go.Lib.decDigits u=[UInt8.ofNat (48+u)]:=by rw [Go.Lib.decDigits,dif_pos h]
theorem qA {u:Nat} (h:¬ u<10):Go.Lib.decDigits u=Go.Lib.decDigits (u / 10)++[UInt8.ofNat (48+u%10)]:=by rw [Go.Lib.decDigits,dif_neg h]
theorem n8 {k:Nat} (h:k<10):(UInt8.ofNat (48+k)).toNat=48+k:=by rw [UInt8.toNat_ofNat'];omega
theorem zN {most:Nat} {b:UInt8}:∀ (w:List UInt8) (n k:Nat),dE most w n=some k→dE most (w++[b]) n=dE most [b] k
 | [],n,k,h=>by
  obtain rfl:n=k:=by simpa [dE] using h
  rfl
 | c::r,n,k,h=>by
  rw [List.cons_append]
  unfold dE at h
  rw [dE]
  split at h
  ·cases h
  ·rename_i h1
   rw [if_neg h1]
   split at h
   ·cases h
   ·rename_i h2
    rw [if_neg h2];exact zN r _ k h
theorem Jp {most:Nat}:∀ (n u:Nat),u≤n→u≤most→dE most (Go.Lib.decDigits u) 0=some u:=by
 intro n
 induction n with
 | zero=>
  intro u hu hm
  obtain rfl:u=0:=by omega
  rw [k5 (by decide)];unfold dE dE
  rw [n8 (by decide),if_neg (by decide),if_neg (by omega)]
 | succ n ih=>
  intro u hu hm
  by_cases h:u<10
  ·rw [k5 h];unfold dE dE
   rw [n8 h,if_neg (by omega),if_neg (by omega)]
   congr 1;omega
  ·rw [qA h,zN _ _ _ (ih (u / 10) (by omega) (by omega))]
   unfold dE dE
   rw [n8 (by omega),if_neg (by omega),if_neg (by omega)]
   congr 1;omega
theorem BU:∀ (n u:Nat),u≤n→∀ b ∈ Go.Lib.decDigits u,48≤b.toNat∧b.toNat≤57:=by
 intro n
 induction n with
 | zero=>
  intro u hu b hb
  obtain rfl:u=0:=by omega
  rw [k5 (by decide),List.mem_singleton] at hb;subst hb;rw [n8 (by decide)];omega
 | succ n ih=>
  intro u hu b hb
  by_cases h:u<10
  ·rw [k5 h,List.mem_singleton] at hb;subst hb;rw [n8 h];omega
  ·rw [qA h,List.mem_append,List.mem_singleton] at hb
   rcases hb with hb | rfl
   ·exact ih _ (by omega) b hb
   ·rw [n8 (by omega)];omega
theorem Cq (u:Nat):Go.Lib.decDigits u≠[]:=by
 by_cases h:u<10
 ·rw [k5 h];simp
 ·rw [qA h];simp
theorem Jq:∀ (n u:Nat),u≤n→(Go.Lib.decDigits u).head?=some 48→u=0:=by
 intro n
 induction n with
 | zero=>intro u hu _;omega
 | succ n ih=>
  intro u hu hh
  by_cases h:u<10
  ·rw [k5 h] at hh
   have:=congrArg UInt8.toNat (Option.some.inj hh)
   rw [n8 h] at this
   have e:(48:UInt8).toNat=48:=rfl
   omega
  ·rw [qA h,List.head?_append] at hh
   cases e:(Go.Lib.decDigits (u / 10)).head? with
   | none=>exact absurd (List.head?_eq_none_iff.1 e) (Cq _)
   | some c=>
    rw [e] at hh
    have h1:=ih (u / 10) (by omega) (by rw [e];exact hh)
    omega
theorem vp {u most:Nat} (h:u≤most):aH (Go.Lib.decDigits u) most=(u,true):=by
 refine kg ?_ (Jp u u (Nat.le_refl _) h)
 rintro (h1 | ⟨h1,h2⟩)
 ·exact Cq u h1
 ·obtain rfl:=Jq u u (Nat.le_refl _) h1
  exact h2 (k5 (by decide))
theorem r7 {n:Nat} (h:n<16):hx (cJ n)=((n:Nat):Int)∧(cJ n≠45∧cJ n≠32∧cJ n≠10):=by
 have key:∀ k,k<16→hx (cJ k)=((k:Nat):Int)∧(cJ k≠45∧cJ k≠32∧cJ k≠10):=by decide +kernel
 exact key n h
theorem AB:∀ l:List UInt8,fI (cP l)=some l
 | []=>rfl
 | b::r=>by
  have hb:=b.toNat_lt
  rw [show cP (b::r)=cJ (b.toNat / 16)::cJ (b.toNat%16)::cP r from rfl,fI]
  have h1:=(r7 (show b.toNat / 16<16 by omega)).1
  have h2:=(r7 (show b.toNat%16<16 by omega)).1
  rw [if_neg (by rw [h1,h2];omega),AB r]
  show some (bz ((16*bC _+bC _:Nat):Int)::r)=_
  unfold bC
  rw [h1,h2,Int.toNat_natCast,Int.toNat_natCast,show 16*(b.toNat / 16)+b.toNat%16=b.toNat by omega,Am]
theorem Gc {l:List UInt8} (h:l.length≤255):ew (dJ l)=(l,true):=by
 unfold dJ
 by_cases h0:l=[]
 ·subst h0;rfl
 ·rw [if_neg h0]
  have hl:=cX l
  have hp:0<l.length:=List.length_pos_iff.2 h0
  refine zL (fun e=>?_) ?_ (AB l)
  ·rw [e] at hl;simp at hl;omega
  ·rintro (e | e | e)
   ·rw [e] at hl;simp at hl;omega
   ·omega
   ·omega
theorem zp {c:UInt8}:∀ {w:List UInt8},c ∉ w→aL c w=[w]
 | [],_=>rfl
 | x::r,h=>by
  have h1:x≠c:=fun e=>h (e▸List.mem_cons_self)
  rw [aL,if_neg h1,zp fun e=>h (List.mem_cons_of_mem _ e)]
theorem zO {c:UInt8}:∀ {w r:List UInt8},c ∉ w→aL c (w++c::r)=w::aL c r
 | [],r,_=>by rw [List.nil_append,aL,if_pos rfl]
 | x::w,r,h=>by
  have h1:x≠c:=fun e=>h (e▸List.mem_cons_self)
  rw [List.cons_append,aL,if_neg h1,zO fun e=>h (List.mem_cons_of_mem _ e)]
theorem tZ:∀ (r:List (List UInt8)) (x:List UInt8),(∀ w ∈ x::r,(32:UInt8) ∉ w)→aL 32 (aQ (x::r))=x::r
 | [],x,h=>by
  show aL 32 (x++b6 [])=_
  rw [show b6 []=[] from rfl,List.append_nil];exact zp (h x List.mem_cons_self)
 | y::r,x,h=>by
  show aL 32 (x++b6 (y::r))=_
  rw [show b6 (y::r)=32::aQ (y::r) from rfl,zO (h x List.mem_cons_self),tZ r y fun w hw=>h w (List.mem_cons_of_mem _ hw)]
theorem AD {b:UInt8}:∀ {l:List (List UInt8)},b ∈ aQ l→b=32∨∃ w ∈ l,b ∈ w
 | [],h=>by cases h
 | x::r,h=>by
  rcases List.mem_append.1 h with h | h
  ·exact .inr ⟨x,List.mem_cons_self,h⟩
  ·obtain ⟨w,hw,h⟩:=List.mem_flatMap.1 h
   rcases List.mem_cons.1 h with rfl | h
   ·exact .inl rfl
   ·exact .inr ⟨w,List.mem_cons_of_mem _ hw,h⟩
def Plain (w:List UInt8):Prop:=(32:UInt8) ∉ w∧(10:UInt8) ∉ w
theorem AE (u:Nat):Plain (Go.Lib.decDigits u):=by
 refine ⟨fun h=>?_,fun h=>?_⟩<;>have:=BU u u (Nat.le_refl _) _ h<;>simp at this
theorem E5 (l:List UInt8):Plain (dJ l):=by
 have key:∀ b ∈ cP l,b≠32∧b≠10:=fun b hb=>by
  obtain ⟨x,-,hb⟩:=List.mem_flatMap.1 hb
  have hx:=x.toNat_lt
  simp only [List.mem_cons,List.not_mem_nil,or_false] at hb
  rcases hb with rfl | rfl
  ·have:=(r7 (show x.toNat / 16<16 by omega)).2;exact ⟨this.2.1,this.2.2⟩
  ·have:=(r7 (show x.toNat%16<16 by omega)).2;exact ⟨this.2.1,this.2.2⟩
 unfold dJ;split
 ·exact ⟨by decide,by decide⟩
 ·exact ⟨fun h=>(key _ h).1 rfl,fun h=>(key _ h).2 rfl⟩
theorem E6 {k:Nat} (h:k<14):Plain (ae k).word:=lZ (p:=fun k=>Plain (ae k).word) (by unfold Plain;decide) (by unfold Plain;decide) (by unfold Plain;decide) (by unfold Plain;decide) (by unfold Plain;decide) (by unfold Plain;decide) (by unfold Plain;decide) (by unfold Plain;decide) (by unfold Plain;decide) (by unfold Plain;decide) (by unfold Plain;decide) (by unfold Plain;decide) (by unfold Plain;decide) (by unfold Plain;decide) h
theorem Gd {k:Nat} (h:k<14):nr (ae k).word=k:=lZ (p:=fun k=>nr (ae k).word=k) (by decide) (by decide) (by decide) (by decide) (by decide) (by decide) (by decide) (by decide) (by decide) (by decide) (by decide) (by decide) (by decide) (by decide) h
theorem Ok {b:Bool} {w x:List UInt8} (h:x ∈ (if b=true then [w] else [])):x=w:=by
 split at h
 ·simpa using h
 ·simp at h
theorem zP {s:az} (h:hasB s=true):∀ w ∈ bN s,Plain w:=fun w hw=>by
 have hp:=nq h
 unfold bN at hw
 rcases List.mem_cons.1 hw with rfl | hw
 ·exact E6 (by omega)
 ·unfold jA at hw
  simp only [List.mem_append] at hw
  rcases hw with ((((hw | hw) | hw) | hw) | hw) | hw<;>rw [Ok hw]<;>first | exact AE _ | exact E5 _
theorem l4 {f:Bool} {z:Int} {most:Nat} (h:cH f z most=true) (q:List (List UInt8)):pS f most ((if f=true then [aS z] else [])++q,true)=(q,true)∧((pN f most ((if f=true then [aS z] else [])++q,true):Nat):Int)=z:=by
 unfold cH at h
 simp only [Bool.or_eq_true,Bool.and_eq_true,decide_eq_true_eq] at h
 cases f with
 | false=>exact ⟨rfl,by rcases h with h | h;exact h.symm;cases h.1⟩
 | true=>
  have e:=vp (u:=z.toNat) (most:=most) (by omega)
  have e2:aH (aS z) most=(z.toNat,true):=e
  refine ⟨?_,?_⟩
  ·show (q,(true&&!false)&&(aH (aS z) most).2)=(q,true)
   rw [e2];rfl
  ·show (((aH (aS z) most).1:Nat):Int)=z
   rw [e2];show ((z.toNat:Nat):Int)=z;omega
theorem BV {f:Bool} {x:Nat} (h:(f||decide ((x:Int)=0))=true) (hx:x<18446744073709551616) (q:List (List UInt8)):pS f 18446744073709551615 ((if f=true then [Go.Lib.decDigits x] else [])++q,true)=(q,true)∧pN f 18446744073709551615 ((if f=true then [Go.Lib.decDigits x] else [])++q,true)=x:=by
 cases f with
 | false=>exact ⟨rfl,by simp at h;exact h.symm⟩
 | true=>
  have e2:aH (Go.Lib.decDigits x) 18446744073709551615=(x,true):=vp (by omega)
  refine ⟨?_,?_⟩
  ·show (q,(true&&!false)&&(aH (Go.Lib.decDigits x) 18446744073709551615).2)=(q,true)
   rw [e2];rfl
  ·show (aH (Go.Lib.decDigits x) 18446744073709551615).1=x
   rw [e2]
theorem HK {s:az} (h:hasB s=true) (hi:s.inc<18446744073709551616):bL (aQ (bN s))=(s,true):=by
 have hs:aL 32 (aQ (bN s))=bN s:=tZ _ _ fun w hw=>(zP h w hw).1
 have hp:=nq h
 unfold hasB fg at h
 simp only [Bool.and_eq_true,decide_eq_true_eq] at h
 obtain ⟨k0,k1,h1,h2,h3,h4,h6,h5⟩:=h
 generalize aQ (bN s)=l at hs
 have eK:pK l=s.kind.toNat:=by
  unfold pK;rw [hs];exact Gd (by omega)
 have e0:fp l=(jA (ae s.kind.toNat) s,true):=by unfold fp;rw [hs];rfl
 have hx:ae (pK l)=ae s.kind.toNat:=by rw [eK]
 generalize ae s.kind.toNat=x at h1 h2 h3 h4 h5 h6 e0 hx
 unfold jA at e0
 simp only [List.append_assoc] at e0
 have e1:dS l=((if x.peer=true then [aS s.peer] else [])++((if x.n=true then [aS s.n] else [])++((if x.bit=true then [aS s.bit] else [])++((if x.inc=true then [Go.Lib.decDigits s.inc] else [])++((if x.body=true then [dJ s.body] else []))))),true):=by unfold dS;rw [hx,e0];exact (l4 h1 _).1
 have e2:dT l=((if x.n=true then [aS s.n] else [])++((if x.bit=true then [aS s.bit] else [])++((if x.inc=true then [Go.Lib.decDigits s.inc] else [])++((if x.body=true then [dJ s.body] else [])))),true):=by unfold dT;rw [hx,e1];exact (l4 h2 _).1
 have e3:dU l=((if x.bit=true then [aS s.bit] else [])++((if x.inc=true then [Go.Lib.decDigits s.inc] else [])++((if x.body=true then [dJ s.body] else []))),true):=by unfold dU;rw [hx,e2];exact (l4 h3 _).1
 have e4:eQ l=((if x.inc=true then [Go.Lib.decDigits s.inc] else [])++((if x.body=true then [dJ s.body] else [])),true):=by unfold eQ;rw [hx,e3];exact (l4 h4 _).1
 have e5:aV l=((if x.body=true then [dJ s.body] else []),true):=by unfold aV;rw [hx,e4];exact (BV h5 hi _).1
 have v1:((pN (ae (pK l)).node 255 (fp l):Nat):Int)=s.node:=by rw [hx,e0];exact (l4 h1 _).2
 have v2:((pN (ae (pK l)).peer 255 (dS l):Nat):Int)=s.peer:=by rw [hx,e1];exact (l4 h2 _).2
 have v3:((pN (ae (pK l)).n 255 (dT l):Nat):Int)=s.n:=by rw [hx,e2];exact (l4 h3 _).2
 have v4:((pN (ae (pK l)).bit 65535 (dU l):Nat):Int)=s.bit:=by rw [hx,e3];exact (l4 h4 _).2
 have v5:pN (ae (pK l)).inc 18446744073709551615 (eQ l)=s.inc:=by rw [hx,e4];exact (BV h5 hi _).2
 have hb:pJ l=([],true)∧pB l=s.body:=by
  unfold pJ pB;rw [hx,e5]
  cases hf:x.body with
  | false=>
   refine ⟨rfl,?_⟩
   unfold cH at h6;rw [hf] at h6;simp at h6;exact h6.symm
  | true=>
   have e:=Gc (l:=s.body) (by omega)
   refine ⟨?_,?_⟩
   ·show (([]:List (List UInt8)),(true&&!false)&&(ew (dJ s.body)).2)=([],true)
    rw [e];rfl
   ·show (ew (dJ s.body)).1=s.body
    rw [e]
 have ok:jz l=true:=by unfold jz;rw [hb.1,eK,decide_eq_true (show s.kind.toNat<14 by omega)];rfl
 rw [qh ok]
 unfold nD
 obtain ⟨k,n,p,m,b,i,bo⟩:=s
 simp only at v1 v2 v3 v4 v5 hb eK k0
 rw [v1,v2,v3,v4,v5,hb.2,eK]
 congr 2;omega
end Go.Proofs.YtcnpikbbmbombaaDoor
namespace Go.Proofs.YtcnpikbbmbombaaDoor
open Go.RowKit
theorem wg:∀ (n:Nat) (l:List Nat),l.Nodup→(∀ x ∈ l,x<n)→l.length≤n
 | 0,l,_,h=>by
  cases l with
  | nil=>exact Nat.le_refl _
  | cons x r=>exact absurd (h x List.mem_cons_self) (Nat.not_lt_zero _)
 | n+1,l,hd,h=>by
  by_cases hm:n ∈ l
  ·have h1:=wg n (l.erase n) (hd.erase n) fun x hx=>by
    have h2:=(hd.mem_erase_iff).1 hx
    have h3:=h x h2.2
    have h4:=h2.1
    omega
   have h2:=List.length_erase_of_mem hm
   omega
  ·exact Nat.le_succ_of_le (wg n l hd fun x hx=>by
    have h3:=h x hx
    have h4:x≠n:=fun e=>hm (e▸hx)
    omega)
theorem lh.Ol {c:bk} (h:lh c):c.ah.length≤25:=by
 have h1:=wg 25 (c.ah.map fun x=>(x.1*5+x.2).toNat) (by
  rw [List.nodup_iff_pairwise_ne,List.pairwise_map,List.pairwise_iff_getElem]
  intro i j hi hj Om e
  have a:=h.link i _ (List.getElem?_eq_getElem hi)
  have b:=h.link j _ (List.getElem?_eq_getElem hj)
  have d:=h.lone j i _ _ (List.getElem?_eq_getElem hj) Om (List.getElem?_eq_getElem hi)
  have hd:=h.head
  unfold iE at a b
  exact d.1 (by omega)) fun x hx=>by
  obtain ⟨y,hy,rfl⟩:=List.mem_map.1 hx
  obtain ⟨i,hi,rfl⟩:=List.getElem_of_mem hy
  have a:=h.link i _ (List.getElem?_eq_getElem hi)
  have hd:=h.head
  unfold iE at a
  omega
 simpa using h1
theorem lh.fits {c:bk} (h:lh c):(0≤c.aq∧c.aq≤255)∧c.ah.length≤255∧c.homes.length≤255∧(∀ x ∈ c.ah,0≤x.1∧x.1≤255∧0≤x.2∧x.2≤255)∧∀ x ∈ c.homes,0≤x∧x≤255:=by
 have hd:=h.head
 have hf:=h.Ol
 refine ⟨by omega,by omega,by omega,fun x hx=>?_,fun x hx=>?_⟩
 ·obtain ⟨i,hi,rfl⟩:=List.getElem_of_mem hx
  have a:=h.link i _ (List.getElem?_eq_getElem hi)
  unfold iE at a;omega
 ·obtain ⟨i,hi,rfl⟩:=List.getElem_of_mem hx
  have a:=h.home i _ (List.getElem?_eq_getElem hi)
  unfold iE at a;omega
theorem AF:∀ (l:List (Int×Int)) (j:Nat) (x:Int×Int),l[j]?=some x→(cZ l)[2*j]?=some (bz x.1)∧(cZ l)[2*j+1]?=some (bz x.2)
 | [],j,x,h=>by simp at h
 | y::l,0,x,h=>by
  simp at h;subst h
  exact ⟨rfl,rfl⟩
 | y::l,j+1,x,h=>by
  have:=AF l j x (by simpa using h)
  rw [show cZ (y::l)=bz y.1::bz y.2::cZ l from rfl,show 2*(j+1)=2*j+1+1 by omega]
  simpa using this
theorem On {z:Int} (h:0≤z∧z≤255):(((bz z).toNat:Nat):Int)=z:=by rw [l0];omega
theorem sV {l:List UInt8} {k:Nat} {z:Int} (h:l[k]?=some (bz z)) (hz:0≤z∧z≤255):gV l k=z:=by
 unfold gV;rw [List.getD_eq_getElem?_getD,h];exact On hz
theorem Jr {c:bk} (h:lh c) (r:List UInt8):gC (cg c++r)=c∧gE (cg c++r)=(cg c).length:=by
 obtain ⟨h0,h1,h2,h3,h4⟩:=h.fits
 have e:cg c++r=bz c.aq::bz ((c.ah.length:Nat):Int)::(cZ c.ah++(bz ((c.homes.length:Nat):Int)::(c.homes.map bz++r))):=by unfold cg;simp
 have hl:=gb c.ah
 generalize hL:cg c++r=L at e
 have n1:gN L=c.ah.length:=by unfold gN;rw [e];exact lu (by omega)
 have yJ:∀ k,L[2+k]?=(cZ c.ah++(bz ((c.homes.length:Nat):Int)::(c.homes.map bz++r)))[k]?:=fun k=>by rw [e,show 2+k=k+1+1 by omega];simp
 have Oo:∀ k,L[2+2*c.ah.length+1+k]?=(c.homes.map bz++r)[k]?:=fun k=>by
  rw [show 2+2*c.ah.length+1+k=2+((cZ c.ah).length+(k+1)) by omega,yJ,List.getElem?_append_right (by omega)]
  rw [show (cZ c.ah).length+(k+1)-(cZ c.ah).length=k+1 by omega];simp
 have m1:gM L=c.homes.length:=by
  unfold gM;rw [n1,List.getD_eq_getElem?_getD,show 2+2*c.ah.length=2+(cZ c.ah).length by omega,yJ,List.getElem?_append_right (Nat.le_refl _),Nat.sub_self]
  exact lu (by omega)
 refine ⟨?_,by unfold gE;rw [n1,m1,r4];omega⟩
 have s1:gV L 0=c.aq:=sV (by rw [e];rfl) h0
 have l1:gL L (gN L)=c.ah:=by
  rw [n1]
  apply List.ext_getElem?
  intro j
  unfold gL
  rcases Nat.lt_or_ge j c.ah.length with hj | hj
  ·have g:=List.getElem?_eq_getElem hj
   have hx:=h3 _ (List.getElem_mem hj)
   obtain ⟨b1,b2⟩:=AF _ _ _ g
   have ll:∀ k,k<(cZ c.ah).length→L[2+k]?=(cZ c.ah)[k]?:=fun k hk=>by rw [yJ,List.getElem?_append_left hk]
   rw [List.getElem?_map,List.getElem?_range hj,g]
   show some (gV L (2+2*j),gV L (2+2*j+1))=_
   rw [sV (by rw [ll _ (by omega)];exact b1) (by omega),sV (by rw [Nat.add_assoc,ll _ (by omega)];exact b2) (by omega)]
  ·rw [List.getElem?_eq_none hj,List.getElem?_eq_none (by simp;omega)]
 have l2:gH L (gM L)=c.homes:=by
  rw [m1]
  apply List.ext_getElem?
  intro j
  unfold gH
  rcases Nat.lt_or_ge j c.homes.length with hj | hj
  ·have g:=List.getElem?_eq_getElem hj
   have hx:=h4 _ (List.getElem_mem hj)
   rw [List.getElem?_map,List.getElem?_range hj,g]
   show some (gV L (2+2*gN L+1+j))=_
   rw [n1,sV (by rw [Oo,List.getElem?_append_left (by simpa using hj),List.getElem?_map,g];rfl) (by omega)]
  ·rw [List.getElem?_eq_none hj,List.getElem?_eq_none (by simp;omega)]
 unfold gC;rw [s1,l1,l2]
end Go.Proofs.YtcnpikbbmbombaaDoor
namespace Go.Proofs.YtcnpikbbmbombaaDoor
open Go.RowKit
theorem r8 {c:UInt8}:∀ {w r:List UInt8},c ∉ w→ay c (w++c::r)=w
 | [],r,_=>by rw [List.nil_append,ay,if_pos rfl]
 | x::w,r,h=>by
  have h1:x≠c:=fun e=>h (e▸List.mem_cons_self)
  rw [List.cons_append,ay,if_neg h1,r8 fun e=>h (List.mem_cons_of_mem _ e)]
theorem AG {c:UInt8} {w r:List UInt8} (h:c ∉ w):bW c (w++c::r)=r:=by
 unfold bW;rw [r8 h,show w++c::r=(w++[c])++r by simp,List.drop_append_of_le_length (by simp),List.drop_of_length_le (by simp)];rfl
theorem su {z:Int} (h0:0≤z) (h:z≤255):gl (aS z)=z∧(aH (aS z) 255).2=true:=by
 have e:aH (aS z) 255=(z.toNat,true):=vp (by omega)
 unfold gl;rw [e];exact ⟨by show ((z.toNat:Nat):Int)=z;omega,rfl⟩
theorem CN (u:Nat):(45:UInt8) ∉ Go.Lib.decDigits u:=fun h=>by have:=BU u u (Nat.le_refl _) _ h;simp at this
theorem HL (x:Int×Int):cK (dM x)=(aS x.1,aS x.2):=by
 have e:dM x=aS x.1++45::aS x.2:=by unfold dM;simp
 unfold cK;rw [e,if_pos (by simp;omega),r8 (w:=aS x.1) (CN _),AG (w:=aS x.1) (CN _)]
theorem Kw (x:Int×Int):dM x≠[58]:=fun e=>by
 have h:(45:UInt8) ∈ dM x:=by unfold dM;simp
 rw [e] at h;simp at h
theorem zq:∀ (l:List (Int×Int)) (L:List (Int×Int)),(∀ x ∈ l,0≤x.1∧x.1≤255∧0≤x.2∧x.2≤255)→(l.map dM).foldl ft (L,[],false,true)=(L++l,[],false,true)
 | [],L,_=>by simp
 | x::l,L,h=>by
  obtain ⟨a,b,c,d⟩:=h x List.mem_cons_self
  have e1:=su a b
  have e2:=su c d
  have e:ft (L,[],false,true) (dM x)=(L++[x],[],false,true):=by
   unfold ft;rw [if_neg (by simp),if_neg (Kw x),HL]
   show (L++[(gl (aS x.1),gl (aS x.2))],([]:List Int),false,(true&&(aH (aS x.1) 255).2)&&(aH (aS x.2) 255).2)=_
   rw [e1.1,e2.1,e1.2,e2.2];rfl
  rw [List.map_cons,List.foldl_cons,e,zq l _ fun y hy=>h y (List.mem_cons_of_mem _ hy)];simp
theorem zr (L:List (Int×Int)):∀ (l H:List Int),(∀ x ∈ l,0≤x∧x≤255)→(l.map aS).foldl ft (L,H,true,true)=(L,H++l,true,true)
 | [],H,_=>by simp
 | x::l,H,h=>by
  obtain ⟨a,b⟩:=h x List.mem_cons_self
  have e1:=su a b
  have e:ft (L,H,true,true) (aS x)=(L,H++[x],true,true):=by
   unfold ft;rw [if_pos rfl]
   show (L,H++[gl (aS x)],true,true&&(aH (aS x) 255).2)=_
   rw [e1.1,e1.2];rfl
  rw [List.map_cons,List.foldl_cons,e,zr L l _ fun y hy=>h y (List.mem_cons_of_mem _ hy)];simp
theorem zQ (c:bk):∀ w ∈ bE c,Plain w:=fun w hw=>by
 have hd:∀ z,Plain (aS z):=fun z=>AE _
 unfold bE at hw
 simp only [List.mem_cons,List.mem_append,List.mem_map,List.not_mem_nil,or_false] at hw
 rcases hw with rfl | (((rfl | ⟨y,-,rfl⟩) | rfl) | ⟨y,-,rfl⟩)
 ·exact ⟨by decide,by decide⟩
 ·exact hd _
 ·have h1:=hd y.1;have h2:=hd y.2
  refine ⟨fun h=>?_,fun h=>?_⟩<;>simp only [dM,List.mem_append,List.mem_singleton] at h<;>rcases h with (h | h) | h
  ·exact h1.1 h
  ·simp at h
  ·exact h2.1 h
  ·exact h1.2 h
  ·simp at h
  ·exact h2.2 h
 ·exact ⟨by decide,by decide⟩
 ·exact hd _
theorem HM {c:bk} (hm:cf c=true):dH (aQ (bE c))=(c,true):=by
 obtain ⟨h0,h1,h2,h3,h4⟩:=(gR hm).fits
 have hs:aL 32 (aQ (bE c))=bE c:=tZ _ _ fun w hw=>(zQ c w hw).1
 have hn:=wb c
 generalize aQ (bE c)=l at hs
 have e0:=su h0.1 h0.2
 have p1:cE l=aS c.aq:=by unfold cE;rw [hs];rfl
 have pw:dG l=c.ah.map dM++([[58]]++c.homes.map aS):=by unfold dG;rw [hs];unfold bE;simp
 have pf:kH l=(c.ah,c.homes,true,true):=by
  unfold kH;rw [p1,e0.2,pw,List.foldl_append,zq _ _ h3,List.foldl_append]
  show (c.homes.map aS).foldl ft (ft ([]++c.ah,[],false,true) [58])=_
  rw [show ft ([]++c.ah,[],false,true) [58]=(c.ah,[],true,true) from rfl,zr _ _ _ h4];rfl
 have pc:kB l=c:=by unfold kB;rw [pf,p1,e0.1]
 have ok:iG l=true:=by
  unfold iG;rw [pc,pf,hs,hm,decide_eq_true (by omega)];rfl
 rw [sq ok,pc]
def fi (s:List UInt8):List (List UInt8):=if h:s=[] then [] else ay 10 s::fi (bW 10 s)
termination_by s.length
decreasing_by
 have h2:0<s.length:=List.length_pos_iff.2 h
 unfold bW;simp;omega
theorem uK:fi []=[]:=by rw [fi,dif_pos rfl]
theorem rM {s:List UInt8} (h:s≠[]):fi s=ay 10 s::fi (bW 10 s):=by rw [fi,dif_neg h]
theorem r9 {w r:List UInt8} (h:(10:UInt8) ∉ w):fi (w++10::r)=w::fi r:=by rw [rM (by simp),r8 h,AG h]
noncomputable def dI:List (List UInt8)→Nat→Bool→bk→List (az×Bool)→List Int→Option (Bool×bk×List (az×Bool)×List Int)
 | [],_,b,c,S,B=>some (b,c,S,B)
 | x::r,n,b,c,S,B=>
  if x=[]∨x.head?=some 35 then dI r (n+1) b c S B
  else cond b (dI r (n+1) true c (S++[bL x]) (cond (bL x).2 B (B++[((n:Nat):Int)]))) (cond (dH x).2 (dI r (n+1) true (dH x).1 S B) none)
theorem zR:∀ l:List az,(∀ s ∈ l,hasB s=true)→fi (cB l)=l.map fun s=>aQ (bN s)
 | [],_=>uK
 | s::l,h=>by
  have hp:(10:UInt8) ∉ aQ (bN s):=fun hm=>by
   rcases AD hm with e | ⟨w,hw,hm⟩
   ·simp at e
   ·exact (zP (h s List.mem_cons_self) w hw).2 hm
  rw [show cB (s::l)=aQ (bN s)++10::cB l by unfold cB;simp,r9 hp,zR l fun s hs=>h s (List.mem_cons_of_mem _ hs)];rfl
theorem Ge {k:Nat} (h:k<14):∃ b r,(ae k).word=b::r∧b≠35:=lZ (p:=fun k=>∃ b r,(ae k).word=b::r∧b≠35) ⟨_,_,rfl,by decide⟩ ⟨_,_,rfl,by decide⟩ ⟨_,_,rfl,by decide⟩ ⟨_,_,rfl,by decide⟩ ⟨_,_,rfl,by decide⟩ ⟨_,_,rfl,by decide⟩ ⟨_,_,rfl,by decide⟩ ⟨_,_,rfl,by decide⟩ ⟨_,_,rfl,by decide⟩ ⟨_,_,rfl,by decide⟩ ⟨_,_,rfl,by decide⟩ ⟨_,_,rfl,by decide⟩ ⟨_,_,rfl,by decide⟩ ⟨_,_,rfl,by decide⟩ h
theorem EA {s:az} (h:hasB s=true):¬ (aQ (bN s)=[]∨(aQ (bN s)).head?=some 35):=by
 have hp:=nq h
 obtain ⟨b,r,e,hb⟩:=Ge (k:=s.kind.toNat) (by omega)
 have e2:aQ (bN s)=b::(r++b6 (jA (ae s.kind.toNat) s)):=by
  show (ae s.kind.toNat).word++b6 (jA (ae s.kind.toNat) s)=_
  rw [e];rfl
 rw [e2];simp [hb]
theorem zS (c:bk):∀ (l:List az) (n:Nat) (S:List (az×Bool)),(∀ s ∈ l,hasB s=true∧s.inc<18446744073709551616)→dI (l.map fun s=>aQ (bN s)) n true c S []=some (true,c,S++l.map (fun s=>(s,true)),[])
 | [],n,S,_=>by simp [dI]
 | s::l,n,S,h=>by
  obtain ⟨h1,h2⟩:=h s List.mem_cons_self
  rw [List.map_cons,dI,if_neg (EA h1),HK h1 h2]
  show dI _ (n+1) true c (S++[(s,true)]) []=_
  rw [zS c l _ _ fun s hs=>h s (List.mem_cons_of_mem _ hs)];simp
def gm:Nat→List UInt8
 | 0=>[]
 | k+1=>[10,35,32,110,111,110,101,10]++gm k
theorem Bg (k:Nat):(gm k).length=8*k:=by induction k with
 | zero=>rfl
 | succ k ih=>rw [gm,List.length_append,ih];simp;omega
theorem AH {c:bk} {l:List az} (hm:cf c=true) (h:∀ s ∈ l,hasB s=true∧s.inc<18446744073709551616):∀ (k n:Nat),dI (fi (gm k++eY c l)) n false ⟨0,[],[]⟩ [] []=some (true,c,l.map (fun s=>(s,true)),[])
 | 0,n=>by
  have hp:(10:UInt8) ∉ aQ (bE c):=fun hm=>by
   rcases AD hm with e | ⟨w,hw,hm⟩
   ·simp at e
   ·exact (zQ c w hw).2 hm
  have hq:¬ (aQ (bE c)=[]∨(aQ (bE c)).head?=some 35):=by
   rw [show aQ (bE c)=119::([111,114,108,100]++b6 ([aS c.aq]++c.ah.map dM++[[58]]++c.homes.map aS)) from rfl];simp
  show dI (fi (eY c l)) n false ⟨0,[],[]⟩ [] []=_
  rw [show eY c l=aQ (bE c)++10::cB l by unfold eY;simp,r9 hp,zR l fun s hs=>(h s hs).1,dI,if_neg hq,HM hm]
  show dI _ (n+1) true c [] []=_
  rw [zS c l _ _ h];rfl
 | k+1,n=>by
  have e:gm (k+1)++eY c l=[]++10::([35,32,110,111,110,101]++10::(gm k++eY c l)):=by rw [gm];simp
  rw [e,r9 (by simp),r9 (by decide),dI,if_pos (.inl rfl),dI,if_pos (.inr rfl)]
  exact AH hm h k _
end Go.Proofs.YtcnpikbbmbombaaDoor
namespace Go.Proofs.YtcnpikbbmbombaaDoor
open Go.RowKit
theorem Oq:aA Tryd.prog 31 [.d (.v (.string ⟨([119,111,114,108,100,32,49,32,58,32,49]:List UInt8).toArray⟩))] [] (.tu [.ag [.z 1,.sl 0 0,.sl 1 1],.d (.v (.bool true))]) [.rw 71 2 (ah []),.rw 3 1 (ints [1])]:=by
 have hM:cf ⟨1,[],[1]⟩=true:=w7 ⟨by decide,fun i x h=>by simp at h,fun i k x o h=>by simp at h,fun i x h=>by
  cases i with
  | zero=>simp at h;subst h;exact ⟨by decide,by decide⟩
  | succ i=>simp at h⟩
 have h:=yP [119,111,114,108,100,32,49,32,58,32,49] (by decide)
 have e:kH [119,111,114,108,100,32,49,32,58,32,49]=([],[1],true,true):=by kernel_rfl
 rw [sq (wc e (by decide) (by decide) (by rw [show gl (cE [119,111,114,108,100,32,49,32,58,32,49])=1 by kernel_rfl];exact hM))] at h
 unfold kB at h
 rw [e,show gl (cE [119,111,114,108,100,32,49,32,58,32,49])=1 by kernel_rfl] at h;exact h
theorem Ot:aA Tryd.prog 32 [.d (.v (.string ⟨([116,105,99,107,32,48]:List UInt8).toArray⟩))] [.gw 0 ai] (.tu [.ag [.z 1,.z 0,.z 0,.z 0,.z 0,.u 0,.sl 1 0],.d (.v (.bool true))]) [.gw 0 ai,.rw 5 1 []]:=by
 have h:=pT [116,105,99,107,32,48] (by decide)
 rw [show bL [116,105,99,107,32,48]=(⟨1,0,0,0,0,0,[]⟩,true) by kernel_rfl] at h;exact h
theorem Ou:aA Tryd.prog 32 [.d (.v (.string ⟨([106,111,105,110,32,50]:List UInt8).toArray⟩))] [.gw 0 ai] (.tu [.ag [.z 12,.z 2,.z 0,.z 0,.z 0,.u 0,.sl 1 0],.d (.v (.bool true))]) [.gw 0 ai,.rw 5 1 []]:=by
 have h:=pT [106,111,105,110,32,50] (by decide)
 rw [show bL [106,111,105,110,32,50]=(⟨12,2,0,0,0,0,[]⟩,true) by kernel_rfl] at h;exact h
theorem Ov:aA Tryd.prog 32 [.d (.v (.string ⟨([115,101,110,100,32,50,32,54,56,54,57]:List UInt8).toArray⟩))] [.gw 0 ai] (.tu [.ag [.z 10,.z 2,.z 0,.z 0,.z 0,.u 0,.sl 1 2],.d (.v (.bool true))]) [.gw 0 ai,.rw 5 1 (af [104,105])]:=by
 have h:=pT [115,101,110,100,32,50,32,54,56,54,57] (by decide)
 rw [show bL [115,101,110,100,32,50,32,54,56,54,57]=(⟨10,2,0,0,0,0,[104,105]⟩,true) by kernel_rfl] at h;exact h
theorem Kx:aB Tryd.prog 51 [.d (.v (.string ⟨([119,111,114,108,100,32,49,32,58,32,49,10,116,105,99,107,32,48,10,106,111,105,110,32,50,10,115,101,110,100,32,50,32,54,56,54,57,10]:List UInt8).toArray⟩)),.d (.v (.string ⟨[10].toArray⟩))] (.tu [.v (.string ⟨([119,111,114,108,100,32,49,32,58,32,49]:List UInt8).toArray⟩),.v (.string ⟨([116,105,99,107,32,48,10,106,111,105,110,32,50,10,115,101,110,100,32,50,32,54,56,54,57,10]:List UInt8).toArray⟩),.v (.bool true)]):=by
 have h:=oF 10 [119,111,114,108,100,32,49,32,58,32,49,10,116,105,99,107,32,48,10,106,111,105,110,32,50,10,115,101,110,100,32,50,32,54,56,54,57,10] (by decide) (by decide)
 rw [show ay 10 [119,111,114,108,100,32,49,32,58,32,49,10,116,105,99,107,32,48,10,106,111,105,110,32,50,10,115,101,110,100,32,50,32,54,56,54,57,10]=[119,111,114,108,100,32,49,32,58,32,49] from by decide,show bW 10 [119,111,114,108,100,32,49,32,58,32,49,10,116,105,99,107,32,48,10,106,111,105,110,32,50,10,115,101,110,100,32,50,32,54,56,54,57,10]=[116,105,99,107,32,48,10,106,111,105,110,32,50,10,115,101,110,100,32,50,32,54,56,54,57,10] from by decide] at h;exact h
theorem Ky:aB Tryd.prog 51 [.d (.v (.string ⟨([116,105,99,107,32,48,10,106,111,105,110,32,50,10,115,101,110,100,32,50,32,54,56,54,57,10]:List UInt8).toArray⟩)),.d (.v (.string ⟨[10].toArray⟩))] (.tu [.v (.string ⟨([116,105,99,107,32,48]:List UInt8).toArray⟩),.v (.string ⟨([106,111,105,110,32,50,10,115,101,110,100,32,50,32,54,56,54,57,10]:List UInt8).toArray⟩),.v (.bool true)]):=by
 have h:=oF 10 [116,105,99,107,32,48,10,106,111,105,110,32,50,10,115,101,110,100,32,50,32,54,56,54,57,10] (by decide) (by decide)
 rw [show ay 10 [116,105,99,107,32,48,10,106,111,105,110,32,50,10,115,101,110,100,32,50,32,54,56,54,57,10]=[116,105,99,107,32,48] from by decide,show bW 10 [116,105,99,107,32,48,10,106,111,105,110,32,50,10,115,101,110,100,32,50,32,54,56,54,57,10]=[106,111,105,110,32,50,10,115,101,110,100,32,50,32,54,56,54,57,10] from by decide] at h;exact h
theorem Kz:aB Tryd.prog 51 [.d (.v (.string ⟨([106,111,105,110,32,50,10,115,101,110,100,32,50,32,54,56,54,57,10]:List UInt8).toArray⟩)),.d (.v (.string ⟨[10].toArray⟩))] (.tu [.v (.string ⟨([106,111,105,110,32,50]:List UInt8).toArray⟩),.v (.string ⟨([115,101,110,100,32,50,32,54,56,54,57,10]:List UInt8).toArray⟩),.v (.bool true)]):=by
 have h:=oF 10 [106,111,105,110,32,50,10,115,101,110,100,32,50,32,54,56,54,57,10] (by decide) (by decide)
 rw [show ay 10 [106,111,105,110,32,50,10,115,101,110,100,32,50,32,54,56,54,57,10]=[106,111,105,110,32,50] from by decide,show bW 10 [106,111,105,110,32,50,10,115,101,110,100,32,50,32,54,56,54,57,10]=[115,101,110,100,32,50,32,54,56,54,57,10] from by decide] at h;exact h
theorem KA:aB Tryd.prog 51 [.d (.v (.string ⟨([115,101,110,100,32,50,32,54,56,54,57,10]:List UInt8).toArray⟩)),.d (.v (.string ⟨[10].toArray⟩))] (.tu [.v (.string ⟨([115,101,110,100,32,50,32,54,56,54,57]:List UInt8).toArray⟩),.v (.string ⟨([]:List UInt8).toArray⟩),.v (.bool true)]):=by
 have h:=oF 10 [115,101,110,100,32,50,32,54,56,54,57,10] (by decide) (by decide)
 rw [show ay 10 [115,101,110,100,32,50,32,54,56,54,57,10]=[115,101,110,100,32,50,32,54,56,54,57] from by decide,show bW 10 [115,101,110,100,32,50,32,54,56,54,57,10]=[] from by decide] at h;exact h
end Go.Proofs.YtcnpikbbmbombaaDoor
namespace Go.Proofs.YtcnpikbbmbombaaDoor
open Go.RowKit
set_option maxRecDepth 100000 in
theorem Js :aA Tryd.prog 50 [.yl 7,.pt 0 0] [.bx 9 [.d (.v (.string ⟨([119,111,114,108,100,32,49,32,58,32,49,10,116,105,99,107,32,48,10,106,111,105,110,32,50,10,115,101,110,100,32,50,32,54,56,54,57,10]).toArray⟩))],.gw 0 ai,.bx 25 [.z 0,.d (.v (.slice none 0 0)),.d (.v (.slice none 0 0))],.bx 26 [.d (.v (.slice none 0 0))],.bx 23 [.d (.v (.slice none 0 0))],.bx 30 [.z 0],.bx 4 [.d (.v (.bool false))],.lp .ready 12 61 [(2,.pt 2 0),(3,.pt 3 0),(4,.pt 4 0),(5,.pt 5 0),(6,.pt 6 0)] (dY Tryd.f12 0)] (.tu []) ([.bx 9 [.d (.v (.string ⟨([]).toArray⟩))],.gw 0 ai,.bx 25 [.z 1,.sl 8 (0),.sl 9 (1)],.bx 26 [.sl 10 (3)],.bx 23 [.d (.v (.slice none 0 0))],.bx 30 [.z 0],.bx 4 [.d (.v (.bool true))],.lp .ready 12 61 [(2,.pt 2 0),(3,.pt 3 0),(4,.pt 4 0),(5,.pt 5 0),(6,.pt 6 0)] (dY Tryd.f12 0),.rw 71 2 (ah []),.rw 3 1 (ints [1]),.rw 45 7 (cn [⟨1,0,0,0,0,0,[]⟩,⟨12,2,0,0,0,0,[]⟩,⟨10,2,0,0,0,0,[104,105]⟩])]):=by
 refine aA.intro (by kernel_rfl) rfl rfl 23 rfl rfl fun D w0 K bs ac wd hK (al:bs.m=8) r=>?_
 refine cd (todo':=hd Tryd.f50 0) (E':=[(0,.yl 7),(1,.pt 0 0),(3,.z 1)]) (M':=[.bx 9 [.d (.v (.string ⟨([119,111,114,108,100,32,49,32,58,32,49,10,116,105,99,107,32,48,10,106,111,105,110,32,50,10,115,101,110,100,32,50,32,54,56,54,57,10]).toArray⟩))],.gw 0 ai,.bx 25 [.z 0,.d (.v (.slice none 0 0)),.d (.v (.slice none 0 0))],.bx 26 [.d (.v (.slice none 0 0))],.bx 23 [.d (.v (.slice none 0 0))],.bx 30 [.z 0],.bx 4 [.d (.v (.bool false))],.lp .ready 12 61 [(2,.pt 2 0),(3,.pt 3 0),(4,.pt 4 0),(5,.pt 5 0),(6,.pt 6 0)] (dY Tryd.f12 0)]) tk mo hK al [] 2000 [0,1,2,3,4,5,6,7] [0,1,3] r (by kernel_rfl) trivial fun ac wd r=>?_
 refine cd (todo':=hd Tryd.f50 0) (E':=[(0,.yl 7),(1,.pt 0 0),(3,.z 2),(7,.d (.v (.string ⟨([119,111,114,108,100,32,49,32,58,32,49,10,116,105,99,107,32,48,10,106,111,105,110,32,50,10,115,101,110,100,32,50,32,54,56,54,57,10]).toArray⟩))),(8,.d (.v (.bool true))),(12,.d (.v (.string ⟨([119,111,114,108,100,32,49,32,58,32,49,10,116,105,99,107,32,48,10,106,111,105,110,32,50,10,115,101,110,100,32,50,32,54,56,54,57,10]).toArray⟩))),(13,.tu [.d (.v (.string ⟨([119,111,114,108,100,32,49,32,58,32,49]).toArray⟩)),.d (.v (.string ⟨([116,105,99,107,32,48,10,106,111,105,110,32,50,10,115,101,110,100,32,50,32,54,56,54,57,10]).toArray⟩)),.d (.v (.bool true))]),(11,.tu [.d (.v (.string ⟨([119,111,114,108,100,32,49,32,58,32,49]).toArray⟩)),.d (.v (.string ⟨([116,105,99,107,32,48,10,106,111,105,110,32,50,10,115,101,110,100,32,50,32,54,56,54,57,10]).toArray⟩)),.d (.v (.bool true))]),(14,.d (.v (.string ⟨([119,111,114,108,100,32,49,32,58,32,49]).toArray⟩))),(15,.d (.v (.string ⟨([116,105,99,107,32,48,10,106,111,105,110,32,50,10,115,101,110,100,32,50,32,54,56,54,57,10]).toArray⟩))),(16,.d (.v (.bool true))),(4,.d (.v (.string ⟨([119,111,114,108,100,32,49,32,58,32,49]).toArray⟩))),(5,.d (.v (.string ⟨([116,105,99,107,32,48,10,106,111,105,110,32,50,10,115,101,110,100,32,50,32,54,56,54,57,10]).toArray⟩))),(6,.d (.v (.bool true))),(17,.yl 7),(18,.z 1),(19,.d (.v (.string ⟨([119,111,114,108,100,32,49,32,58,32,49]).toArray⟩))),(20,.d (.v (.bool true))),(21,.d (.v (.bool false))),(22,.d (.v (.string ⟨([116,105,99,107,32,48,10,106,111,105,110,32,50,10,115,101,110,100,32,50,32,54,56,54,57,10]).toArray⟩))),(9,.z 1),(10,.z 2)]) (M':=[.bx 9 [.d (.v (.string ⟨([116,105,99,107,32,48,10,106,111,105,110,32,50,10,115,101,110,100,32,50,32,54,56,54,57,10]).toArray⟩))],.gw 0 ai,.bx 25 [.z 1,.sl 8 (0),.sl 9 (1)],.bx 26 [.d (.v (.slice none 0 0))],.bx 23 [.d (.v (.slice none 0 0))],.bx 30 [.z 0],.bx 4 [.d (.v (.bool true))],.lp .ready 12 61 [(2,.pt 2 0),(3,.pt 3 0),(4,.pt 4 0),(5,.pt 5 0),(6,.pt 6 0)] (dY Tryd.f12 0),.rw 71 2 (ah []),.rw 3 1 (ints [1]),.bx 25 [.z 1,.sl 8 (0),.sl 9 (1)]]) tk mo hK al [(1,[(1,.b true)]),(2,[(1,.z (2))]),(3,[(1,.aO (.tu [.v (.string ⟨([119,111,114,108,100,32,49,32,58,32,49]).toArray⟩),.v (.string ⟨([116,105,99,107,32,48,10,106,111,105,110,32,50,10,115,101,110,100,32,50,32,54,56,54,57,10]).toArray⟩),.v (.bool true)]))]),(4,[(3,.bG 200 [(7,[(1,.b false),(4,.n 0)]),(9,[(1,.mem [] (.tu [.ag [.z 1,.sl 0 (0),.sl 1 (1)],.d (.v (.bool true))]) [.rw 71 2 (ah []),.rw 3 1 (ints [1])])])])])] 2000 [0,1,2,3,4,5,6,7,8,9,10] [0,1,3,7,8,12,13,11,14,15,16,4,5,6,17,18,19,20,21,22,9,10] r (by kernel_rfl) (U ((by first | decide | simp):(([119,111,114,108,100,32,49,32,58,32,49,10,116,105,99,107,32,48,10,106,111,105,110,32,50,10,115,101,110,100,32,50,32,54,56,54,57,10]:List UInt8) != [])=true) (U (Kx) (U ((by first | decide | simp):(([119,111,114,108,100,32,49,32,58,32,49]:List UInt8)==[])=false) (U (rfl:(0:Int)=((0:Nat):Int)) (U (Oq) (U ((wi (by omega)):IntKind.i64.wrap ((1:Int)+1)=2) trivial)))))) fun ac wd r=>?_
 refine cd (todo':=hd Tryd.f50 0) (E':=[(0,.yl 7),(1,.pt 0 0),(3,.z 3),(7,.d (.v (.string ⟨([116,105,99,107,32,48,10,106,111,105,110,32,50,10,115,101,110,100,32,50,32,54,56,54,57,10]).toArray⟩))),(8,.d (.v (.bool true))),(12,.d (.v (.string ⟨([116,105,99,107,32,48,10,106,111,105,110,32,50,10,115,101,110,100,32,50,32,54,56,54,57,10]).toArray⟩))),(13,.tu [.d (.v (.string ⟨([116,105,99,107,32,48]).toArray⟩)),.d (.v (.string ⟨([106,111,105,110,32,50,10,115,101,110,100,32,50,32,54,56,54,57,10]).toArray⟩)),.d (.v (.bool true))]),(11,.tu [.d (.v (.string ⟨([116,105,99,107,32,48]).toArray⟩)),.d (.v (.string ⟨([106,111,105,110,32,50,10,115,101,110,100,32,50,32,54,56,54,57,10]).toArray⟩)),.d (.v (.bool true))]),(14,.d (.v (.string ⟨([116,105,99,107,32,48]).toArray⟩))),(15,.d (.v (.string ⟨([106,111,105,110,32,50,10,115,101,110,100,32,50,32,54,56,54,57,10]).toArray⟩))),(16,.d (.v (.bool true))),(4,.d (.v (.string ⟨([116,105,99,107,32,48]).toArray⟩))),(5,.d (.v (.string ⟨([106,111,105,110,32,50,10,115,101,110,100,32,50,32,54,56,54,57,10]).toArray⟩))),(6,.d (.v (.bool true))),(17,.yl 7),(18,.z 2),(19,.d (.v (.string ⟨([116,105,99,107,32,48]).toArray⟩))),(20,.d (.v (.bool true))),(21,.d (.v (.bool false))),(22,.d (.v (.string ⟨([106,111,105,110,32,50,10,115,101,110,100,32,50,32,54,56,54,57,10]).toArray⟩))),(9,.z 2),(10,.z 3)]) (M':=[.bx 9 [.d (.v (.string ⟨([106,111,105,110,32,50,10,115,101,110,100,32,50,32,54,56,54,57,10]).toArray⟩))],.gw 0 ai,.bx 25 [.z 1,.sl 8 (0),.sl 9 (1)],.bx 26 [.sl 14 ((1))],.bx 23 [.d (.v (.slice none 0 0))],.bx 30 [.z 0],.bx 4 [.d (.v (.bool true))],.lp .ready 12 61 [(2,.pt 2 0),(3,.pt 3 0),(4,.pt 4 0),(5,.pt 5 0),(6,.pt 6 0)] (dY Tryd.f12 0),.rw 71 2 (ah []),.rw 3 1 (ints [1]),.bx 25 [.z 1,.sl 8 (0),.sl 9 (1)],.dead,.bx 45 [.z 1,.z 0,.z 0,.z 0,.z 0,.d (.v (.int .u64 0)),.sl 11 (0)],.dead,.rw 45 7 ([[.z 1,.z 0,.z 0,.z 0,.z 0,.v (.int .u64 0),.em 5 1 ([])]])]) tk mo hK al [(1,[(1,.b true)]),(2,[(1,.z (3))]),(3,[(1,.aO (.tu [.v (.string ⟨([116,105,99,107,32,48]).toArray⟩),.v (.string ⟨([106,111,105,110,32,50,10,115,101,110,100,32,50,32,54,56,54,57,10]).toArray⟩),.v (.bool true)]))]),(4,[(3,.bG 200 [(7,[(1,.b false),(4,.n 0)]),(13,[(1,.mem [1] (.tu [.ag [.z 1,.z 0,.z 0,.z 0,.z 0,.d (.v (.int .u64 0)),.sl 1 (0)],.d (.v (.bool true))]) [.gw 0 ai,.rw 5 1 ([])])])])])] 2000 [0,1,2,3,4,5,6,7,8,9,10,11,12,13,14] [0,1,3,7,8,12,13,11,14,15,16,4,5,6,17,18,19,20,21,22,9,10] r (by kernel_rfl) (U ((by first | decide | simp):(([116,105,99,107,32,48,10,106,111,105,110,32,50,10,115,101,110,100,32,50,32,54,56,54,57,10]:List UInt8) != [])=true) (U (Ky) (U ((by first | decide | simp):(([116,105,99,107,32,48]:List UInt8)==[])=false) (U (rfl:(0:Int)=((0:Nat):Int)) (U (Ot) (U ((by first | rfl | decide):(0)=([]:List (List DV)).length) (U ((by first | rfl | decide):(1)=([[.z 1,.z 0,.z 0,.z 0,.z 0,.v (.int .u64 0),.em 5 1 ([])]]:List (List DV)).length) (U ((by decide):(2*(0+(1))+192)*72≤281474976710656) (U ((by decide):0+(1)<4611686018427387904) (U ((by simp [bc,AV.one,bU,af]):bc ([[.z 1,.z 0,.z 0,.z 0,.z 0,.v (.int .u64 0),.em 5 1 ([])]])) (U ((wi (by omega)):IntKind.i64.wrap ((2:Int)+1)=3) trivial))))))))))) fun ac wd r=>?_
 refine cd (todo':=hd Tryd.f50 0) (E':=[(0,.yl 7),(1,.pt 0 0),(3,.z 4),(7,.d (.v (.string ⟨([106,111,105,110,32,50,10,115,101,110,100,32,50,32,54,56,54,57,10]).toArray⟩))),(8,.d (.v (.bool true))),(12,.d (.v (.string ⟨([106,111,105,110,32,50,10,115,101,110,100,32,50,32,54,56,54,57,10]).toArray⟩))),(13,.tu [.d (.v (.string ⟨([106,111,105,110,32,50]).toArray⟩)),.d (.v (.string ⟨([115,101,110,100,32,50,32,54,56,54,57,10]).toArray⟩)),.d (.v (.bool true))]),(11,.tu [.d (.v (.string ⟨([106,111,105,110,32,50]).toArray⟩)),.d (.v (.string ⟨([115,101,110,100,32,50,32,54,56,54,57,10]).toArray⟩)),.d (.v (.bool true))]),(14,.d (.v (.string ⟨([106,111,105,110,32,50]).toArray⟩))),(15,.d (.v (.string ⟨([115,101,110,100,32,50,32,54,56,54,57,10]).toArray⟩))),(16,.d (.v (.bool true))),(4,.d (.v (.string ⟨([106,111,105,110,32,50]).toArray⟩))),(5,.d (.v (.string ⟨([115,101,110,100,32,50,32,54,56,54,57,10]).toArray⟩))),(6,.d (.v (.bool true))),(17,.yl 7),(18,.z 3),(19,.d (.v (.string ⟨([106,111,105,110,32,50]).toArray⟩))),(20,.d (.v (.bool true))),(21,.d (.v (.bool false))),(22,.d (.v (.string ⟨([115,101,110,100,32,50,32,54,56,54,57,10]).toArray⟩))),(9,.z 3),(10,.z 4)]) (M':=[.bx 9 [.d (.v (.string ⟨([115,101,110,100,32,50,32,54,56,54,57,10]).toArray⟩))],.gw 0 ai,.bx 25 [.z 1,.sl 8 (0),.sl 9 (1)],.bx 26 [.sl 14 ((1)+(1))],.bx 23 [.d (.v (.slice none 0 0))],.bx 30 [.z 0],.bx 4 [.d (.v (.bool true))],.lp .ready 12 61 [(2,.pt 2 0),(3,.pt 3 0),(4,.pt 4 0),(5,.pt 5 0),(6,.pt 6 0)] (dY Tryd.f12 0),.rw 71 2 (ah []),.rw 3 1 (ints [1]),.bx 25 [.z 1,.sl 8 (0),.sl 9 (1)],.dead,.bx 45 [.z 1,.z 0,.z 0,.z 0,.z 0,.d (.v (.int .u64 0)),.sl 11 (0)],.dead,.rw 45 7 ([[.z 1,.z 0,.z 0,.z 0,.z 0,.v (.int .u64 0),.em 5 1 ([])]]++[[.z 12,.z 2,.z 0,.z 0,.z 0,.v (.int .u64 0),.em 5 1 ([])]]),.dead,.bx 45 [.z 12,.z 2,.z 0,.z 0,.z 0,.d (.v (.int .u64 0)),.sl 15 (0)],.dead]) tk mo hK al [(1,[(1,.b true)]),(2,[(1,.z (4))]),(3,[(1,.aO (.tu [.v (.string ⟨([106,111,105,110,32,50]).toArray⟩),.v (.string ⟨([115,101,110,100,32,50,32,54,56,54,57,10]).toArray⟩),.v (.bool true)]))]),(4,[(3,.bG 200 [(7,[(1,.b false),(4,.n 0)]),(13,[(1,.mem [1] (.tu [.ag [.z 12,.z 2,.z 0,.z 0,.z 0,.d (.v (.int .u64 0)),.sl 1 (0)],.d (.v (.bool true))]) [.gw 0 ai,.rw 5 1 ([])])])])])] 2000 [0,1,2,3,4,5,6,7,8,9,10,11,12,13,14,15,16,17] [0,1,3,7,8,12,13,11,14,15,16,4,5,6,17,18,19,20,21,22,9,10] r (by kernel_rfl) (U ((by first | decide | simp):(([106,111,105,110,32,50,10,115,101,110,100,32,50,32,54,56,54,57,10]:List UInt8) != [])=true) (U (Kz) (U ((by first | decide | simp):(([106,111,105,110,32,50]:List UInt8)==[])=false) (U (rfl:(0:Int)=((0:Nat):Int)) (U (Ou) (U ((by first | rfl | decide):(0)=([]:List (List DV)).length) (U ((by first | rfl | decide):((1))=([[.z 1,.z 0,.z 0,.z 0,.z 0,.v (.int .u64 0),.em 5 1 ([])]]:List (List DV)).length) (U ((by first | rfl | decide):(1)=([[.z 12,.z 2,.z 0,.z 0,.z 0,.v (.int .u64 0),.em 5 1 ([])]]:List (List DV)).length) (U ((by decide):(2*(((1))+(1))+192)*72≤281474976710656) (U ((by decide):((1))+(1)<4611686018427387904) (U ((by simp [bc,AV.one,bU,af]):bc ([[.z 12,.z 2,.z 0,.z 0,.z 0,.v (.int .u64 0),.em 5 1 ([])]])) (U ((wi (by omega)):IntKind.i64.wrap ((3:Int)+1)=4) trivial)))))))))))) fun ac wd r=>?_
 refine cd (todo':=hd Tryd.f50 0) (E':=[(0,.yl 7),(1,.pt 0 0),(3,.z 5),(7,.d (.v (.string ⟨([115,101,110,100,32,50,32,54,56,54,57,10]).toArray⟩))),(8,.d (.v (.bool true))),(12,.d (.v (.string ⟨([115,101,110,100,32,50,32,54,56,54,57,10]).toArray⟩))),(13,.tu [.d (.v (.string ⟨([115,101,110,100,32,50,32,54,56,54,57]).toArray⟩)),.d (.v (.string ⟨([]).toArray⟩)),.d (.v (.bool true))]),(11,.tu [.d (.v (.string ⟨([115,101,110,100,32,50,32,54,56,54,57]).toArray⟩)),.d (.v (.string ⟨([]).toArray⟩)),.d (.v (.bool true))]),(14,.d (.v (.string ⟨([115,101,110,100,32,50,32,54,56,54,57]).toArray⟩))),(15,.d (.v (.string ⟨([]).toArray⟩))),(16,.d (.v (.bool true))),(4,.d (.v (.string ⟨([115,101,110,100,32,50,32,54,56,54,57]).toArray⟩))),(5,.d (.v (.string ⟨([]).toArray⟩))),(6,.d (.v (.bool true))),(17,.yl 7),(18,.z 4),(19,.d (.v (.string ⟨([115,101,110,100,32,50,32,54,56,54,57]).toArray⟩))),(20,.d (.v (.bool true))),(21,.d (.v (.bool false))),(22,.d (.v (.string ⟨([]).toArray⟩))),(9,.z 4),(10,.z 5)]) (M':=[.bx 9 [.d (.v (.string ⟨([]).toArray⟩))],.gw 0 ai,.bx 25 [.z 1,.sl 8 (0),.sl 9 (1)],.bx 26 [.sl 14 ((1)+(1)+(1))],.bx 23 [.d (.v (.slice none 0 0))],.bx 30 [.z 0],.bx 4 [.d (.v (.bool true))],.lp .ready 12 61 [(2,.pt 2 0),(3,.pt 3 0),(4,.pt 4 0),(5,.pt 5 0),(6,.pt 6 0)] (dY Tryd.f12 0),.rw 71 2 (ah []),.rw 3 1 (ints [1]),.bx 25 [.z 1,.sl 8 (0),.sl 9 (1)],.dead,.bx 45 [.z 1,.z 0,.z 0,.z 0,.z 0,.d (.v (.int .u64 0)),.sl 11 (0)],.dead,.rw 45 7 ([[.z 1,.z 0,.z 0,.z 0,.z 0,.v (.int .u64 0),.em 5 1 ([])]]++[[.z 12,.z 2,.z 0,.z 0,.z 0,.v (.int .u64 0),.em 5 1 ([])]]++[[.z 10,.z 2,.z 0,.z 0,.z 0,.v (.int .u64 0),.em 5 1 (af [104,105])]]),.dead,.bx 45 [.z 12,.z 2,.z 0,.z 0,.z 0,.d (.v (.int .u64 0)),.sl 15 (0)],.dead,.dead,.bx 45 [.z 10,.z 2,.z 0,.z 0,.z 0,.d (.v (.int .u64 0)),.sl 18 (2)],.dead]) tk mo hK al [(1,[(1,.b true)]),(2,[(1,.z (5))]),(3,[(1,.aO (.tu [.v (.string ⟨([115,101,110,100,32,50,32,54,56,54,57]).toArray⟩),.v (.string ⟨([]).toArray⟩),.v (.bool true)]))]),(4,[(3,.bG 200 [(7,[(1,.b false),(4,.n 0)]),(13,[(1,.mem [1] (.tu [.ag [.z 10,.z 2,.z 0,.z 0,.z 0,.d (.v (.int .u64 0)),.sl 1 (2)],.d (.v (.bool true))]) [.gw 0 ai,.rw 5 1 (af [104,105])])])])])] 2000 [0,1,2,3,4,5,6,7,8,9,10,11,12,13,14,15,16,17,18,19,20] [0,1,3,7,8,12,13,11,14,15,16,4,5,6,17,18,19,20,21,22,9,10] r (by kernel_rfl) (U ((by first | decide | simp):(([115,101,110,100,32,50,32,54,56,54,57,10]:List UInt8) != [])=true) (U (KA) (U ((by first | decide | simp):(([115,101,110,100,32,50,32,54,56,54,57]:List UInt8)==[])=false) (U (rfl:(0:Int)=((0:Nat):Int)) (U (Ov) (U ((by first | rfl | decide):(2)=(af [104,105]).length) (U ((by first | rfl | decide):((1)+(1))=([[.z 1,.z 0,.z 0,.z 0,.z 0,.v (.int .u64 0),.em 5 1 ([])]]++[[.z 12,.z 2,.z 0,.z 0,.z 0,.v (.int .u64 0),.em 5 1 ([])]]:List (List DV)).length) (U ((by first | rfl | decide):(1)=([[.z 10,.z 2,.z 0,.z 0,.z 0,.v (.int .u64 0),.em 5 1 (af [104,105])]]:List (List DV)).length) (U ((by decide):(2*(((1)+(1))+(1))+192)*72≤281474976710656) (U ((by decide):((1)+(1))+(1)<4611686018427387904) (U ((by simp [bc,AV.one,bU,af]):bc ([[.z 10,.z 2,.z 0,.z 0,.z 0,.v (.int .u64 0),.em 5 1 (af [104,105])]])) (U ((wi (by omega)):IntKind.i64.wrap ((4:Int)+1)=5) trivial)))))))))))) fun ac wd r=>?_
 refine a8 (y:=.tu []) (N':=[.bx 9 [.d (.v (.string ⟨([]).toArray⟩))],.gw 0 ai,.bx 25 [.z 1,.sl 8 (0),.sl 9 (1)],.bx 26 [.sl 10 ((1)+(1)+(1))],.bx 23 [.d (.v (.slice none 0 0))],.bx 30 [.z 0],.bx 4 [.d (.v (.bool true))],.lp .ready 12 61 [(2,.pt 2 0),(3,.pt 3 0),(4,.pt 4 0),(5,.pt 5 0),(6,.pt 6 0)] (dY Tryd.f12 0),.rw 71 2 (ah []),.rw 3 1 (ints [1]),.rw 45 7 ([[.z 1,.z 0,.z 0,.z 0,.z 0,.v (.int .u64 0),.em 5 1 ([])]]++[[.z 12,.z 2,.z 0,.z 0,.z 0,.v (.int .u64 0),.em 5 1 ([])]]++[[.z 10,.z 2,.z 0,.z 0,.z 0,.v (.int .u64 0),.em 5 1 (af [104,105])]])]) (rfl) (rfl) ?_
 exact a7 tk mo hK rfl al [(1,[(1,.b false)])] 2000 [0,1,2,3,4,5,6,7,8,9,14] r (by kernel_rfl) (U ((by first | decide | simp):(([]:List UInt8) != [])=false) trivial)
end Go.Proofs.YtcnpikbbmbombaaDoor
namespace Go.Proofs.YtcnpikbbmbombaaDoor
open Go.RowKit
theorem gk.tM {T k:Nat} {rows:List (List DV)} (h:∀ r ∈ rows,∀ c ∈ r,fU c):gk (.rw T k rows):=fun K K' β u H r=>by
 cases r with | rw hb X F hl hs hr=>exact .rw hb X F hl hs fun i r j c x h1 h2 h3=>h r (List.mem_of_getElem? h1) c (List.mem_of_getElem? h2) _ _ _ _ (hr i r j c x h1 h2 h3)
theorem AI (T k:Nat) (l:List (Int×Int)):gk (.rw T k (ah l)):=gk.tM fun r hr c hc=>by
 obtain ⟨x,-,rfl⟩:=List.mem_map.1 hr
 simp only [List.mem_cons,List.not_mem_nil,or_false] at hc
 rcases hc with rfl | rfl<;>exact gS _
theorem Bh (T k:Nat) (l:List Int):gk (.rw T k (ints l)):=gk.tM fun r hr c hc=>by
 obtain ⟨x,-,rfl⟩:=List.mem_map.1 hr
 simp only [List.mem_cons,List.not_mem_nil,or_false] at hc
 subst hc;exact gS _
theorem HN (T k:Nat) (l:List az):gk (.rw T k (cn l)):=gk.tM fun r hr c hc=>by
 obtain ⟨x,-,rfl⟩:=List.mem_map.1 hr
 simp only [az.lr,List.mem_cons,List.not_mem_nil,or_false] at hc
 rcases hc with rfl | rfl | rfl | rfl | rfl | rfl | rfl<;>first | exact gS _ | exact uh _ _
set_option maxRecDepth 100000 in
theorem HO :aA Tryd.prog 12 [.d (.v (.string ⟨([119,111,114,108,100,32,49,32,58,32,49,10,116,105,99,107,32,48,10,106,111,105,110,32,50,10,115,101,110,100,32,50,32,54,56,54,57,10]).toArray⟩))] [.gw 0 ai] (mapA (·+1) (.tu [.ag [.z 1,.sl 4 0,.sl 5 1],.sl 6 3,.d (.v (.slice none 0 0)),.z 0])) (.gw 0 ai::List.map (er (·+1)) ([.bx 25 [.z 1,.sl 4 0,.sl 5 1],.bx 26 [.sl 6 3],.bx 23 [.d (.v (.slice none 0 0))],.bx 30 [.z 0],.rw 71 2 (ah []),.rw 3 1 (ints [1]),.rw 45 7 (cn [⟨1,0,0,0,0,0,[]⟩,⟨12,2,0,0,0,0,[]⟩,⟨10,2,0,0,0,0,[104,105]⟩])])):=by
 refine aA.By (by kernel_rfl) rfl rfl 61 rfl rfl fun w0 K ac hK r=>?_
 have r:=r.mark
 refine A8 (todo':=CE Tryd.f12 0) (E2:=[(2,.pt 1 0),(3,.pt 2 0),(4,.pt 3 0),(5,.pt 4 0),(6,.pt 5 0)]) (M2:=[.gw 0 ai,.bx 25 [.z 1,.sl 6 (0),.sl 7 (1)],.bx 26 [.sl 8 (3)],.bx 23 [.d (.v (.slice none 0 0))],.bx 30 [.z 0],.bx 4 [.d (.v (.bool true))],.rw 71 2 (ah []),.rw 3 1 (ints [1]),.rw 45 7 (cn [⟨1,0,0,0,0,0,[]⟩,⟨12,2,0,0,0,0,[]⟩,⟨10,2,0,0,0,0,[104,105]⟩])]) tk mo hK rfl [(1,[(1,.z (38))]),(4,[(1,.bG 200 [])])] 15 [6,0,1,2,3,4,5] [2,3,4,5,6] (.tu []) [.bx 9 [.d (.v (.string ⟨([]).toArray⟩))],.gw 0 ai,.bx 25 [.z 1,.sl 8 (0),.sl 9 (1)],.bx 26 [.sl 10 (3)],.bx 23 [.d (.v (.slice none 0 0))],.bx 30 [.z 0],.bx 4 [.d (.v (.bool true))],.lp .ready 12 61 [(2,.pt 2 0),(3,.pt 3 0),(4,.pt 4 0),(5,.pt 5 0),(6,.pt 6 0)] (dY Tryd.f12 0),.rw 71 2 (ah []),.rw 3 1 (ints [1]),.rw 45 7 (cn [⟨1,0,0,0,0,0,[]⟩,⟨12,2,0,0,0,0,[]⟩,⟨10,2,0,0,0,0,[104,105]⟩])] [0,1,2,3,4,5,8,9,10] [2,3,4,5,6] r (by kernel_rfl) (U Js (U ((by decide):((([119,111,114,108,100,32,49,32,58,32,49,10,116,105,99,107,32,48,10,106,111,105,110,32,50,10,115,101,110,100,32,50,32,54,56,54,57,10]:List UInt8).length:Nat):Int)=38) trivial)) fun ac wd r=>?_
 refine oM (E':=[(2,.pt 0 0),(3,.pt 1 0),(4,.pt 2 0),(5,.pt 3 0)]) (M':=[.bx 25 [.z 1,.sl 4 (0),.sl 5 (1)],.bx 26 [.sl 6 (3)],.bx 23 [.d (.v (.slice none 0 0))],.bx 30 [.z 0],.rw 71 2 (ah []),.rw 3 1 (ints [1]),.rw 45 7 (cn [⟨1,0,0,0,0,0,[]⟩,⟨12,2,0,0,0,0,[]⟩,⟨10,2,0,0,0,0,[104,105]⟩])]) tk mo hK rfl [] 2000 [1,2,3,4,6,7,8] [2,3,4,5] r (by kernel_rfl) (by kernel_rfl) trivial ?_ ?_
 ·intro x hx;simp only [List.mem_cons,List.not_mem_nil,or_false] at hx;rcases hx with rfl | rfl | rfl | rfl<;>exact eu.pt _ _
 ·intro x hx;simp only [List.mem_cons,List.not_mem_nil,or_false] at hx;rcases hx with rfl | rfl | rfl | rfl | rfl | rfl | rfl<;>first | exact AI _ _ _ | exact Bh _ _ _ | exact HN _ _ _ | (refine gk.bx fun c hc=>?_;simp only [List.mem_cons,List.not_mem_nil,or_false] at hc;first | (subst hc;first | exact eu.v _ | exact eu.sl _ _) | (rcases hc with rfl | rfl | rfl<;>first | exact eu.v _ | exact eu.sl _ _))
end Go.Proofs.YtcnpikbbmbombaaDoor
