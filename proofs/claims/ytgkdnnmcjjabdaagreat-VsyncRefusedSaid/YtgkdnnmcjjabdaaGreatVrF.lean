/-
  vsyncRefused_holds, part 6 of 7: merged by program from the texts that it needs.
-/
import Derived.Test.YtgkdnnmcjjabdaaGreatVrC
import Derived.Test.YtgkdnnmcjjabdaaGreatVrE
set_option linter.unusedSimpArgs false
set_option linter.unusedVariables false
set_option linter.unnecessarySimpa false
namespace Go.Proofs.YtgkdnnmcjjabdaaGreat
open Go.RowKit
abbrev ints (l:List Int):List (List DV):=l.map fun z=>[.v (.int .i64 z)]
theorem lh {l:List Int} {i:Nat} {z:Int} (h:l[i]?=some z):(ints l)[i]?=some [.v (.int .i64 z)]:=by simp [ints,h]
theorem ints_set (l:List Int) (i:Nat) (z:Int):List.set (ints l) i [.v (.int .i64 z)]=ints (l.set i z):=by unfold ints;rw [List.map_set]
theorem OK (l:List Int) (z:Int):ints l++[[.v (.int .i64 z)]]=ints (l++[z]):=by unfold ints;rw [List.map_append];rfl
theorem FD (l:List Int):bM (ints l)=ints l:=by
 rw [b7];unfold ints;rw [List.map_map];apply List.map_congr_left;intro s _;show [bc (.v _)]=_;rw [bc]
def r8 (l:List Int):Prop:=∀ (i:Nat) a b,l[i]?=some a→l[i+1]?=some b→a≤b
def CU (n:Nat):Nat:=match n with | 0=>0 | 1=>1 | 2=>2 | 3=>2 | 4=>3 | 5=>3 | 6=>3 | 7=>3 | _=>4
set_option maxRecDepth 100000 in
theorem P0 :aj Tryz.prog 124 [.d (.v (.int .u64 0))] (.v (.int .i64 0)):=by
 refine aj.intro (by kernel_rfl) rfl rfl 25 rfl rfl fun w0 K ac hK r=>?_
 exact aM tk tq hK rfl [(10,[(2,.z (0)),(3,.n 0),(4,.z (0)),(5,.z (0))])] 2000 r (by kernel_rfl) (U ((by decide):IntKind.u8.wrap (0)=0) (U (rfl:(0:Int)=((0:Nat):Int)) (U ((by decide):IntKind.i64.wrap (0)=0) (U ((by decide):IntKind.i64.wrap ((0:Int)+0)=0) trivial))))
set_option maxRecDepth 100000 in
theorem MV :aj Tryz.prog 109 [.d (.v (.int .u64 0))] (.v (.int .i64 0)):=by
 refine aj.intro (by kernel_rfl) rfl rfl 8 rfl rfl fun w0 K ac hK r=>?_
 exact aM tk tq hK rfl [(2,[(1,.aL (.z 0))])] 2000 r (by kernel_rfl) (U (P0) trivial)
set_option maxRecDepth 100000 in
theorem P1 :aj Tryz.prog 124 [.d (.v (.int .u64 1))] (.v (.int .i64 1)):=by
 refine aj.intro (by kernel_rfl) rfl rfl 25 rfl rfl fun w0 K ac hK r=>?_
 exact aM tk tq hK rfl [(10,[(2,.z (1)),(3,.n 1),(4,.z (1)),(5,.z (1))])] 2000 r (by kernel_rfl) (U ((by decide):IntKind.u8.wrap (1)=1) (U (rfl:(1:Int)=((1:Nat):Int)) (U ((by decide):IntKind.i64.wrap (1)=1) (U ((by decide):IntKind.i64.wrap ((0:Int)+1)=1) trivial))))
set_option maxRecDepth 100000 in
theorem MW :aj Tryz.prog 109 [.d (.v (.int .u64 1))] (.v (.int .i64 1)):=by
 refine aj.intro (by kernel_rfl) rfl rfl 8 rfl rfl fun w0 K ac hK r=>?_
 exact aM tk tq hK rfl [(2,[(1,.aL (.z 1))])] 2000 r (by kernel_rfl) (U (P1) trivial)
set_option maxRecDepth 100000 in
theorem P2 :aj Tryz.prog 124 [.d (.v (.int .u64 2))] (.v (.int .i64 2)):=by
 refine aj.intro (by kernel_rfl) rfl rfl 25 rfl rfl fun w0 K ac hK r=>?_
 exact aM tk tq hK rfl [(10,[(2,.z (2)),(3,.n 2),(4,.z (2)),(5,.z (2))])] 2000 r (by kernel_rfl) (U ((by decide):IntKind.u8.wrap (2)=2) (U (rfl:(2:Int)=((2:Nat):Int)) (U ((by decide):IntKind.i64.wrap (2)=2) (U ((by decide):IntKind.i64.wrap ((0:Int)+2)=2) trivial))))
set_option maxRecDepth 100000 in
theorem MX :aj Tryz.prog 109 [.d (.v (.int .u64 2))] (.v (.int .i64 2)):=by
 refine aj.intro (by kernel_rfl) rfl rfl 8 rfl rfl fun w0 K ac hK r=>?_
 exact aM tk tq hK rfl [(2,[(1,.aL (.z 2))])] 2000 r (by kernel_rfl) (U (P2) trivial)
set_option maxRecDepth 100000 in
theorem P3 :aj Tryz.prog 124 [.d (.v (.int .u64 3))] (.v (.int .i64 2)):=by
 refine aj.intro (by kernel_rfl) rfl rfl 25 rfl rfl fun w0 K ac hK r=>?_
 exact aM tk tq hK rfl [(10,[(2,.z (3)),(3,.n 3),(4,.z (2)),(5,.z (2))])] 2000 r (by kernel_rfl) (U ((by decide):IntKind.u8.wrap (3)=3) (U (rfl:(3:Int)=((3:Nat):Int)) (U ((by decide):IntKind.i64.wrap (2)=2) (U ((by decide):IntKind.i64.wrap ((0:Int)+2)=2) trivial))))
set_option maxRecDepth 100000 in
theorem MY :aj Tryz.prog 109 [.d (.v (.int .u64 3))] (.v (.int .i64 2)):=by
 refine aj.intro (by kernel_rfl) rfl rfl 8 rfl rfl fun w0 K ac hK r=>?_
 exact aM tk tq hK rfl [(2,[(1,.aL (.z 2))])] 2000 r (by kernel_rfl) (U (P3) trivial)
set_option maxRecDepth 100000 in
theorem P4 :aj Tryz.prog 124 [.d (.v (.int .u64 4))] (.v (.int .i64 3)):=by
 refine aj.intro (by kernel_rfl) rfl rfl 25 rfl rfl fun w0 K ac hK r=>?_
 exact aM tk tq hK rfl [(10,[(2,.z (4)),(3,.n 4),(4,.z (3)),(5,.z (3))])] 2000 r (by kernel_rfl) (U ((by decide):IntKind.u8.wrap (4)=4) (U (rfl:(4:Int)=((4:Nat):Int)) (U ((by decide):IntKind.i64.wrap (3)=3) (U ((by decide):IntKind.i64.wrap ((0:Int)+3)=3) trivial))))
set_option maxRecDepth 100000 in
theorem MZ :aj Tryz.prog 109 [.d (.v (.int .u64 4))] (.v (.int .i64 3)):=by
 refine aj.intro (by kernel_rfl) rfl rfl 8 rfl rfl fun w0 K ac hK r=>?_
 exact aM tk tq hK rfl [(2,[(1,.aL (.z 3))])] 2000 r (by kernel_rfl) (U (P4) trivial)
set_option maxRecDepth 100000 in
theorem P5 :aj Tryz.prog 124 [.d (.v (.int .u64 5))] (.v (.int .i64 3)):=by
 refine aj.intro (by kernel_rfl) rfl rfl 25 rfl rfl fun w0 K ac hK r=>?_
 exact aM tk tq hK rfl [(10,[(2,.z (5)),(3,.n 5),(4,.z (3)),(5,.z (3))])] 2000 r (by kernel_rfl) (U ((by decide):IntKind.u8.wrap (5)=5) (U (rfl:(5:Int)=((5:Nat):Int)) (U ((by decide):IntKind.i64.wrap (3)=3) (U ((by decide):IntKind.i64.wrap ((0:Int)+3)=3) trivial))))
set_option maxRecDepth 100000 in
theorem M4 :aj Tryz.prog 109 [.d (.v (.int .u64 5))] (.v (.int .i64 3)):=by
 refine aj.intro (by kernel_rfl) rfl rfl 8 rfl rfl fun w0 K ac hK r=>?_
 exact aM tk tq hK rfl [(2,[(1,.aL (.z 3))])] 2000 r (by kernel_rfl) (U (P5) trivial)
set_option maxRecDepth 100000 in
theorem P6 :aj Tryz.prog 124 [.d (.v (.int .u64 6))] (.v (.int .i64 3)):=by
 refine aj.intro (by kernel_rfl) rfl rfl 25 rfl rfl fun w0 K ac hK r=>?_
 exact aM tk tq hK rfl [(10,[(2,.z (6)),(3,.n 6),(4,.z (3)),(5,.z (3))])] 2000 r (by kernel_rfl) (U ((by decide):IntKind.u8.wrap (6)=6) (U (rfl:(6:Int)=((6:Nat):Int)) (U ((by decide):IntKind.i64.wrap (3)=3) (U ((by decide):IntKind.i64.wrap ((0:Int)+3)=3) trivial))))
set_option maxRecDepth 100000 in
theorem M5 :aj Tryz.prog 109 [.d (.v (.int .u64 6))] (.v (.int .i64 3)):=by
 refine aj.intro (by kernel_rfl) rfl rfl 8 rfl rfl fun w0 K ac hK r=>?_
 exact aM tk tq hK rfl [(2,[(1,.aL (.z 3))])] 2000 r (by kernel_rfl) (U (P6) trivial)
set_option maxRecDepth 100000 in
theorem P7 :aj Tryz.prog 124 [.d (.v (.int .u64 7))] (.v (.int .i64 3)):=by
 refine aj.intro (by kernel_rfl) rfl rfl 25 rfl rfl fun w0 K ac hK r=>?_
 exact aM tk tq hK rfl [(10,[(2,.z (7)),(3,.n 7),(4,.z (3)),(5,.z (3))])] 2000 r (by kernel_rfl) (U ((by decide):IntKind.u8.wrap (7)=7) (U (rfl:(7:Int)=((7:Nat):Int)) (U ((by decide):IntKind.i64.wrap (3)=3) (U ((by decide):IntKind.i64.wrap ((0:Int)+3)=3) trivial))))
set_option maxRecDepth 100000 in
theorem M6 :aj Tryz.prog 109 [.d (.v (.int .u64 7))] (.v (.int .i64 3)):=by
 refine aj.intro (by kernel_rfl) rfl rfl 8 rfl rfl fun w0 K ac hK r=>?_
 exact aM tk tq hK rfl [(2,[(1,.aL (.z 3))])] 2000 r (by kernel_rfl) (U (P7) trivial)
set_option maxRecDepth 100000 in
theorem P8 :aj Tryz.prog 124 [.d (.v (.int .u64 8))] (.v (.int .i64 4)):=by
 refine aj.intro (by kernel_rfl) rfl rfl 25 rfl rfl fun w0 K ac hK r=>?_
 exact aM tk tq hK rfl [(10,[(2,.z (8)),(3,.n 8),(4,.z (4)),(5,.z (4))])] 2000 r (by kernel_rfl) (U ((by decide):IntKind.u8.wrap (8)=8) (U (rfl:(8:Int)=((8:Nat):Int)) (U ((by decide):IntKind.i64.wrap (4)=4) (U ((by decide):IntKind.i64.wrap ((0:Int)+4)=4) trivial))))
set_option maxRecDepth 100000 in
theorem M7 :aj Tryz.prog 109 [.d (.v (.int .u64 8))] (.v (.int .i64 4)):=by
 refine aj.intro (by kernel_rfl) rfl rfl 8 rfl rfl fun w0 K ac hK r=>?_
 exact aM tk tq hK rfl [(2,[(1,.aL (.z 4))])] 2000 r (by kernel_rfl) (U (P8) trivial)
set_option maxRecDepth 100000 in
theorem P9 :aj Tryz.prog 124 [.d (.v (.int .u64 9))] (.v (.int .i64 4)):=by
 refine aj.intro (by kernel_rfl) rfl rfl 25 rfl rfl fun w0 K ac hK r=>?_
 exact aM tk tq hK rfl [(10,[(2,.z (9)),(3,.n 9),(4,.z (4)),(5,.z (4))])] 2000 r (by kernel_rfl) (U ((by decide):IntKind.u8.wrap (9)=9) (U (rfl:(9:Int)=((9:Nat):Int)) (U ((by decide):IntKind.i64.wrap (4)=4) (U ((by decide):IntKind.i64.wrap ((0:Int)+4)=4) trivial))))
set_option maxRecDepth 100000 in
theorem M8 :aj Tryz.prog 109 [.d (.v (.int .u64 9))] (.v (.int .i64 4)):=by
 refine aj.intro (by kernel_rfl) rfl rfl 8 rfl rfl fun w0 K ac hK r=>?_
 exact aM tk tq hK rfl [(2,[(1,.aL (.z 4))])] 2000 r (by kernel_rfl) (U (P9) trivial)
set_option maxRecDepth 100000 in
theorem OL :aj Tryz.prog 124 [.d (.v (.int .u64 10))] (.v (.int .i64 4)):=by
 refine aj.intro (by kernel_rfl) rfl rfl 25 rfl rfl fun w0 K ac hK r=>?_
 exact aM tk tq hK rfl [(10,[(2,.z (10)),(3,.n 10),(4,.z (4)),(5,.z (4))])] 2000 r (by kernel_rfl) (U ((by decide):IntKind.u8.wrap (10)=10) (U (rfl:(10:Int)=((10:Nat):Int)) (U ((by decide):IntKind.i64.wrap (4)=4) (U ((by decide):IntKind.i64.wrap ((0:Int)+4)=4) trivial))))
set_option maxRecDepth 100000 in
theorem LR :aj Tryz.prog 109 [.d (.v (.int .u64 10))] (.v (.int .i64 4)):=by
 refine aj.intro (by kernel_rfl) rfl rfl 8 rfl rfl fun w0 K ac hK r=>?_
 exact aM tk tq hK rfl [(2,[(1,.aL (.z 4))])] 2000 r (by kernel_rfl) (U (OL) trivial)
set_option maxRecDepth 100000 in
theorem OM :aj Tryz.prog 124 [.d (.v (.int .u64 11))] (.v (.int .i64 4)):=by
 refine aj.intro (by kernel_rfl) rfl rfl 25 rfl rfl fun w0 K ac hK r=>?_
 exact aM tk tq hK rfl [(10,[(2,.z (11)),(3,.n 11),(4,.z (4)),(5,.z (4))])] 2000 r (by kernel_rfl) (U ((by decide):IntKind.u8.wrap (11)=11) (U (rfl:(11:Int)=((11:Nat):Int)) (U ((by decide):IntKind.i64.wrap (4)=4) (U ((by decide):IntKind.i64.wrap ((0:Int)+4)=4) trivial))))
set_option maxRecDepth 100000 in
theorem LU :aj Tryz.prog 109 [.d (.v (.int .u64 11))] (.v (.int .i64 4)):=by
 refine aj.intro (by kernel_rfl) rfl rfl 8 rfl rfl fun w0 K ac hK r=>?_
 exact aM tk tq hK rfl [(2,[(1,.aL (.z 4))])] 2000 r (by kernel_rfl) (U (OM) trivial)
set_option maxRecDepth 100000 in
theorem ON :aj Tryz.prog 124 [.d (.v (.int .u64 12))] (.v (.int .i64 4)):=by
 refine aj.intro (by kernel_rfl) rfl rfl 25 rfl rfl fun w0 K ac hK r=>?_
 exact aM tk tq hK rfl [(10,[(2,.z (12)),(3,.n 12),(4,.z (4)),(5,.z (4))])] 2000 r (by kernel_rfl) (U ((by decide):IntKind.u8.wrap (12)=12) (U (rfl:(12:Int)=((12:Nat):Int)) (U ((by decide):IntKind.i64.wrap (4)=4) (U ((by decide):IntKind.i64.wrap ((0:Int)+4)=4) trivial))))
set_option maxRecDepth 100000 in
theorem LV :aj Tryz.prog 109 [.d (.v (.int .u64 12))] (.v (.int .i64 4)):=by
 refine aj.intro (by kernel_rfl) rfl rfl 8 rfl rfl fun w0 K ac hK r=>?_
 exact aM tk tq hK rfl [(2,[(1,.aL (.z 4))])] 2000 r (by kernel_rfl) (U (ON) trivial)
theorem Qa (n:Nat) (h:n≤12):aj Tryz.prog 109 [.d (.v (.int .u64 ((n:Nat):Int)))] (.v (.int .i64 ((CU n:Nat):Int))):=
 match n,h with
 | 0,_=>MV
 | 1,_=>MW
 | 2,_=>MX
 | 3,_=>MY
 | 4,_=>MZ
 | 5,_=>M4
 | 6,_=>M5
 | 7,_=>M6
 | 8,_=>M7
 | 9,_=>M8
 | 10,_=>LR
 | 11,_=>LU
 | 12,_=>LV
 | n+13,h=>absurd h (by omega)
set_option maxRecDepth 100000 in
theorem H8 (x:Int):aj Tryz.prog 110 [.z x] (.v (.bool false)):=by
 refine aj.intro (by kernel_rfl) rfl rfl 6 rfl rfl fun w0 K ac hK r=>?_
 exact aM tk tq hK rfl [(1,[(2,.b false)])] 2000 r (by kernel_rfl) (U ((by simp):((x:Int) != x)=false) trivial)
set_option maxRecDepth 100000 in
theorem Q1 (x y:Int):aj Tryz.prog 131 [.z x,.z y] (.v (.bool (decide (x<y)))):=by
 refine aj.intro (by kernel_rfl) rfl rfl 17 rfl rfl fun w0 K ac hK r=>?_
 cases h0:(decide ((x:Int)<y)) with
 | false=>
  have bq:=of_decide_eq_false h0
  exact aM tk tq hK rfl [(1,[(1,.aL (.v (.bool false))),(10,.b false)])] 2000 r (by kernel_rfl) (U (H8 _:aj Tryz.prog 110 [.z x] (.v (.bool false))) (U h0 trivial))
 | true=>
  have bq:=of_decide_eq_true h0
  exact aM tk tq hK rfl [(1,[(1,.aL (.v (.bool false))),(10,.b true)])] 2000 r (by kernel_rfl) (U (H8 _:aj Tryz.prog 110 [.z x] (.v (.bool false))) (U h0 trivial))
set_option maxRecDepth 100000 in
theorem Qb (l:List Int) (hs:r8 l) (hb:l.length<1073741824):aj Tryz.prog 125 [.d (.ro 1 (ints l)),.z 0,.n l.length] (.tu []):=by
 refine aj.intro (by kernel_rfl) rfl rfl 49 rfl rfl fun w0 K ac hK r=>?_
 refine bI (todo':=hd Tryz.f125 0) (E':=[(0,.d (.ro 1 (ints l))),(1,.z 0),(2,.n l.length),(6,.n (0+1))]) (M':=[]) tk tq hK [(0,[(1,.z (1))])] 2000 [] [0,1,2,6] r (by kernel_rfl) (U ((wi (by omega)):IntKind.i64.wrap ((0:Int)+1)=1) trivial) fun ac wd r=>?_
 refine aJ.rounds (Φ:=fun (i:Nat) ac wd=>(True)∧dH [] w0 K 49 [(0,.d (.ro 1 (ints l))),(1,.z 0),(2,.n l.length),(6,.n (i+1))] [] ac wd) (l.length) ?_ (Nat.zero_le _) ⟨trivial,r⟩
 clear r
 rintro i fI cX ac wd ⟨bh,r⟩
 cases h0:(decide ((((i+1:Nat):Int):Int)<((l.length:Nat):Int))) with
 | false=>
  have bq:=of_decide_eq_false h0
  exact aM tk tq hK rfl [(1,[(2,.b false)])] 2000 r (by kernel_rfl) (U h0 trivial)
 | true=>
  have bq:=of_decide_eq_true h0
  obtain ⟨eV,gb⟩:∃ x,l[i+1]?=some x:=⟨_,List.getElem?_eq_getElem (by omega)⟩
  obtain ⟨lj,nV⟩:∃ x,l[i+1-1]?=some x:=⟨_,List.getElem?_eq_getElem (by omega)⟩
  refine bI (todo':=hd Tryz.f125 1) (E':=[(0,.d (.ro 1 (ints l))),(1,.z 0),(2,.n l.length),(6,.n (i+1)),(7,.n (i+1))]) (M':=[]) tk tq hK [(1,[(2,.b true)])] 2000 [] [0,1,2,6,7] r (by kernel_rfl) (U h0 trivial) fun ac wd r=>?_
  cases h1:(decide ((0:Int)<((i+1:Nat):Int))) with
  | false=>
   have b6:=of_decide_eq_false h1
   exact bI (todo':=hd Tryz.f125 0) tk tq hK [(2,[(1,.z (((i+1+1:Nat):Int)))]),(4,[(2,.b false)])] 2000 [] [0,1,2,6] r (by kernel_rfl) (U h1 (U ((wi (by omega)):IntKind.i64.wrap ((((i+1:Nat):Int):Int)+1)=((i+1+1:Nat):Int)) trivial)) fun ac wd r=>cX (by omega) ac wd ⟨trivial,r⟩
  | true=>
   have b6:=of_decide_eq_true h1
   have u0:=((wi (by omega)):IntKind.i64.wrap ((((i+1:Nat):Int):Int)-1)=((i+1-1:Nat):Int))
   cases h2:(decide (eV<lj)) with
   | false=>
    have dg:=of_decide_eq_false h2
    exact bI (todo':=hd Tryz.f125 0) tk tq hK [(2,[(1,.z (((i+1+1:Nat):Int)))]),(4,[(2,.b true),(6,.ix (i+1) [.z eV]),(10,.z (((i+1-1:Nat):Int))),(11,.ix (i+1-1) [.z lj]),(13,.aL (.v (.bool false)))])] 2000 [] [0,1,2,6] r (by kernel_rfl) (U h1 (U (aS ((i+1:Nat):Int)) (U (lh gb) (U u0 (U (aS ((i+1-1:Nat):Int)) (U (lh nV) (U ((by have k:=Q1 (eV) (lj);rw [h2] at k;exact k):aj Tryz.prog 131 [.z eV,.z lj] (.v (.bool false))) (U ((wi (by omega)):IntKind.i64.wrap ((((i+1:Nat):Int):Int)+1)=((i+1+1:Nat):Int)) trivial)))))))) fun ac wd r=>cX (by omega) ac wd ⟨trivial,r⟩
   | true=>
    have dg:=of_decide_eq_true h2
    exact absurd (hs i _ _ (by simpa using nV) gb) (by omega)
set_option maxRecDepth 100000 in
theorem Qc (l:List Int) (k:Nat) (hs:r8 l) (hb:l.length≤12):aj Tryz.prog 111 [.d (.ro 1 (ints l)),.z 0,.n l.length,.n k] (.tu []):=by
 refine aj.intro (by kernel_rfl) rfl rfl 134 rfl rfl fun w0 K ac hK r=>?_
 refine bI (todo':=hd Tryz.f111 0) (E':=[(0,.d (.ro 1 (ints l))),(1,.z 0),(2,.n l.length),(3,.n k),(8,.d (.v (.bool true))),(9,.d (.v (.bool true)))]) (M':=[]) tk tq hK [] 2000 [] [0,1,2,3,8,9] r (by kernel_rfl) trivial fun ac wd r=>?_
 have u0:=((wi (by omega)):IntKind.i64.wrap ((((l.length:Nat):Int):Int)-0)=((l.length:Nat):Int))
 cases h0:(decide ((((l.length:Nat):Int):Int)≤12)) with
 | false=>
  have bq:=of_decide_eq_false h0
  exact absurd bq (by omega)
 | true=>
  have bq:=of_decide_eq_true h0
  exact aM tk tq hK rfl [(2,[(2,.z (((l.length:Nat):Int)))]),(3,[(1,.b true)]),(4,[(3,.aL (.tu []))])] 2000 r (by kernel_rfl) (U u0 (U h0 (U (Qb l hs (by omega)) trivial)))
set_option maxRecDepth 100000 in
theorem Q2 (l:List Int) (hs:r8 l) (hb:l.length≤6):aj Tryz.prog 85 [.d (.ro 1 (ints l))] (.tu []):=by
 refine aj.intro (by kernel_rfl) rfl rfl 11 rfl rfl fun w0 K ac hK r=>?_
 exact aM tk tq hK rfl [(0,[(1,.z (((l.length:Nat):Int)))]),(1,[(3,.z (((l.length:Nat):Int))),(4,.aL (.n (CU l.length))),(5,.aL (.tu []))])] 2000 r (by kernel_rfl) (U ((by simp):(((ints l).length:Nat):Int)=((l.length:Nat):Int)) (U ((wu (by omega)):IntKind.u64.wrap (((l.length:Nat):Int))=((l.length:Nat):Int)) (U (Qa l.length (by omega)) (U (Qc l (CU l.length) hs (by omega)) trivial))))
def qb (l:List Int) (p:Nat) (o:List Int):List Int:=match l[p]? with | some a=>(if 0<p∧l[p-1]?=some a then o else o++[a]) | none=>o
def a6 (l:List Int):Nat→List Int
 | 0=>[]
 | p+1=>qb l p (a6 l p)
def wr (l:List Int) (k:Nat):Nat→List Int
 | 0=>l
 | j+1=>match l[k+(j+1)]? with | some a=>(if l[k+j]?=some a then wr l k j else (wr l k j).set (a6 l (k+1+j)).length a) | none=>wr l k j
theorem rC {l:List Int} {p:Nat} {a:Int} (h:l[p]?=some a) (hp:0<p) (h2:l[p-1]?=some a):a6 l (p+1)=a6 l p:=by rw [a6,qb,h];simp [hp,h2]
theorem rQ {l:List Int} {p:Nat} {a b:Int} (h:l[p]?=some a) (h2:l[p-1]?=some b) (nH:a≠b):a6 l (p+1)=a6 l p++[a]:=by
 rw [a6,qb,h];simp only [h2];rw [if_neg];rintro ⟨-,e⟩;cases e;exact nH rfl
theorem GA {l:List Int} {a:Int} (h:l[0]?=some a):a6 l 1=[a]:=by rw [a6,qb,h];simp [a6]
theorem HF (l:List Int) (p:Nat):(a6 l (p+1)).length≤(a6 l p).length+1:=by
 rw [a6,qb];split
 ·split<;>simp
 ·omega
theorem fP {l:List Int} {k:Nat} (h:(a6 l (k+1)).length≤k):∀ j,(a6 l (k+1+j)).length≤k+j
 | 0=>h
 | j+1=>by have h1:=fP h j;have h2:=HF l (k+1+j);rw [← Nat.add_assoc];omega
@[simp] theorem mM (l:List Int) (k:Nat):∀ j,(wr l k j).length=l.length
 | 0=>rfl
 | j+1=>by
  rw [wr];split
  ·split
   ·exact mM l k j
   ·rw [List.length_set,mM l k j]
  ·exact mM l k j
theorem sG {l:List Int} {k:Nat} (h:(a6 l (k+1)).length≤k):∀ {j p:Nat},k+j≤p→(wr l k j)[p]?=l[p]?
 | 0,p,_=>rfl
 | j+1,p,hp=>by
  have h1:=fP h j
  rw [wr];split
  ·split
   ·exact sG h (by omega)
   ·rw [List.getElem?_set,if_neg (by omega)];exact sG h (by omega)
  ·exact sG h (by omega)
theorem Ad {l:List Int} {k j:Nat} {a:Int} (h:l[k+(j+1)]?=some a) (h2:l[k+j]?=some a):wr l k (j+1)=wr l k j:=by rw [wr,h];simp [h2]
theorem AX {l:List Int} {k j:Nat} {a b:Int} (h:l[k+(j+1)]?=some a) (h2:l[k+j]?=some b) (nH:a≠b):wr l k (j+1)=(wr l k j).set (a6 l (k+1+j)).length a:=by
 rw [wr,h];simp only [h2];rw [if_neg];intro e;cases e;exact nH rfl
theorem vK {l:List Int} {k:Nat} (h:a6 l (k+1)=l.take k) (hk:k<l.length):∀ {j:Nat},k+1+j≤l.length→(wr l k j).take (a6 l (k+1+j)).length=a6 l (k+1+j)
 | 0,_=>by
  show l.take (a6 l (k+1)).length=a6 l (k+1)
  rw [h,List.length_take,Nat.min_eq_left (by omega)]
 | j+1,hj=>by
  have hle:(a6 l (k+1)).length≤k:=by rw [h,List.length_take];omega
  have h1:=fP hle j
  have ih:=vK h hk (j:=j) (by omega)
  have e1:l[k+1+j]?=some l[k+1+j]:=List.getElem?_eq_getElem (by omega)
  have e2:l[k+j]?=some l[k+j]:=List.getElem?_eq_getElem (by omega)
  have e3:k+1+j-1=k+j:=by omega
  have e4:k+(j+1)=k+1+j:=by omega
  rw [← Nat.add_assoc]
  by_cases nH:l[k+1+j]=l[k+j]
  ·rw [rC e1 (by omega) (by rw [e3,e2,nH]),Ad (by rw [e4];exact e1) (by rw [e2,nH])];exact ih
  ·rw [rQ e1 (by rw [e3];exact e2) nH,AX (by rw [e4];exact e1) e2 nH]
   rw [List.length_append,List.length_singleton,List.take_succ_eq_append_getElem (by rw [List.length_set,mM];omega),List.take_set_of_le (Nat.le_refl _),ih,List.getElem_set_self]
theorem pG {l:List Int} (h:l.length<2):a6 l l.length=l:=by
 match l,h with
 | [],_=>rfl
 | [a],_=>exact GA rfl
theorem yK (l:List Int) (n:Nat):(ints l).take n=ints (l.take n):=by unfold ints;rw [List.map_take]
theorem D1 {T k:Nat} {a b:List (List DV)} (h:a=b):[af.rw T k a]=[.rw T k b]:=by rw [h]
theorem zp {A B:List (List DV)} {n:Nat} (h:n≤A.length):(A.take n++B).take n=A.take n:=by
 rw [List.take_append_of_le_length (by simp;omega),List.take_take,Nat.min_self]
theorem GB {l:List Int} (h:0<l.length):a6 l 1=l.take 1:=by
 match l,h with
 | a::r,_=>exact GA rfl
theorem HG {l:List Int} {k:Nat} {a:Int} (h:l[k]?=some a):l.take (k+1)=l.take k++[a]:=by
 obtain ⟨hk,rfl⟩:=List.getElem?_eq_some_iff.1 h
 rw [List.take_succ_eq_append_getElem hk]
set_option maxRecDepth 100000 in
theorem M9 (l:List Int) (hb:l.length<1073741824):db Tryz.prog 87 [.sl 0 (l.length)] [.rw 3 1 (ints l)] (.sl 0 (a6 l l.length).length) ([.rw 3 1 (ints (a6 l l.length))]):=by
 refine db.intro (by kernel_rfl) rfl rfl 61 rfl rfl fun D w0 K bs ac wd hK (bE:bs.m=1) r=>?_
 cases h0:(decide ((((l.length:Nat):Int):Int)<2)) with
 | false=>
  have bq:=of_decide_eq_false h0
  refine g6 (todo':=hd Tryz.f87 0) (E':=[(0,.sl 0 (l.length)),(3,.n (0+1))]) (M':=[.rw 3 1 (ints l)]) tk tq hK bE [(1,[(2,.b false)])] 2000 [0] [0,3] r (by kernel_rfl) (U h0 trivial) fun ac wd r=>?_
  refine aJ.rounds (Φ:=fun (i:Nat) ac wd=>(i+1≤l.length∧a6 l (i+1)=l.take (i+1))∧RB D w0 K 61 bs [(0,.sl 0 (l.length)),(3,.n (i+1))] [.rw 3 1 (ints l)] ac wd) (l.length) ?_ (Nat.zero_le _) ⟨⟨by omega,GB (by omega)⟩,r⟩
  clear r
  rintro i fI cX ac wd ⟨bh,r⟩
  obtain ⟨Wa,nI⟩:=bh
  cases h1:(decide ((((i+1:Nat):Int):Int)<((l.length:Nat):Int))) with
  | false=>
   have b6:=of_decide_eq_false h1
   refine gj (y:=.sl 0 (l.length)) (N':=[.rw 3 1 (ints l)]) ((by first | (rw [pG (by omega)];done) | (rw [show a6 l l.length=l by rw [show l.length=i+1 by omega,nI];exact List.take_of_length_le (by omega)];done) | (rw [show l.length=i+1+1+j by omega]))) ((by first | (rw [pG (by omega)];done) | (rw [show a6 l l.length=l by rw [show l.length=i+1 by omega,nI];exact List.take_of_length_le (by omega)];done) | (refine D1 ?_;rw [zp (by rw [List.length_map,mM];have:=fP aG j;omega),yK,vK kS (by omega) (by omega)];rw [show l.length=i+1+1+j by omega]))) ?_
   exact gg tk tq hK rfl bE [(4,[(3,.b false)])] 2000 [0] r (by kernel_rfl) (U h1 trivial)
  | true=>
   have b6:=of_decide_eq_true h1
   obtain ⟨eV,gb⟩:∃ x,l[i+1]?=some x:=⟨_,List.getElem?_eq_getElem (by omega)⟩
   obtain ⟨lj,nV⟩:∃ x,l[i+1-1]?=some x:=⟨_,List.getElem?_eq_getElem (by omega)⟩
   have u0:=((by first | omega | (have:=fP aG j;omega)):(i+1)<(l.length))
   have u1:=((wi (by omega)):IntKind.i64.wrap ((((i+1:Nat):Int):Int)-1)=((i+1-1:Nat):Int))
   have u2:=((by first | omega | (have:=fP aG j;omega)):(i+1-1)<(l.length))
   cases h2:((eV:Int)==lj) with
   | false=>
    have dg:=ne_of_beq_false h2
    exact g6 (todo':=hd Tryz.f87 0) tk tq hK bE [(4,[(3,.b true)]),(5,[(1,.z (((i+1+1:Nat):Int)))]),(6,[(2,.n (i+1)),(3,.ix 0 [.z eV]),(6,.z (((i+1-1:Nat):Int))),(7,.n (i+1-1)),(8,.ix 0 [.z lj]),(9,.b false)])] 2000 [0] [0,3] r (by kernel_rfl) (U h1 (U (aS ((i+1:Nat):Int)) (U u0 (U ((by simp<;>omega):(l.length)≤(ints l).length) (U (lh gb) (U u1 (U (aS ((i+1-1:Nat):Int)) (U u2 (U ((by simp<;>omega):(l.length)≤(ints l).length) (U (lh nV) (U h2 (U ((wi (by omega)):IntKind.i64.wrap ((((i+1:Nat):Int):Int)+1)=((i+1+1:Nat):Int)) trivial)))))))))))) fun ac wd r=>cX (by omega) ac wd ⟨⟨by omega,by rw [rQ (p:=i+1) gb nV (by omega),nI,← HG gb]⟩,r⟩
   | true=>
    have dg:=eq_of_beq h2
    have kS:a6 l (i+1+1)=l.take (i+1):=by rw [rC (p:=i+1) gb (by omega) (by rw [nV,‹eV=lj›])];exact nI
    have aG:(a6 l (i+1+1)).length≤i+1:=by rw [kS,List.length_take];omega
    refine g6 (todo':=hd Tryz.f87 1) (E':=[(0,.sl 0 (l.length)),(3,.n (i+1)),(4,.sb 0 1 (i+1) (l.length-(i+1))),(5,.z 1)]) (M':=[.rw 3 1 (ints l)]) tk tq hK bE [(4,[(3,.b true)]),(6,[(2,.n (i+1)),(3,.ix 0 [.z eV]),(6,.z (((i+1-1:Nat):Int))),(7,.n (i+1-1)),(8,.ix 0 [.z lj]),(9,.b true)]),(7,[(2,.n (i+1))])] 2000 [0] [0,3,4,5] r (by kernel_rfl) (U h1 (U (aS ((i+1:Nat):Int)) (U u0 (U ((by simp<;>omega):(l.length)≤(ints l).length) (U (lh gb) (U u1 (U (aS ((i+1-1:Nat):Int)) (U u2 (U ((by simp<;>omega):(l.length)≤(ints l).length) (U (lh nV) (U h2 (U (aS ((i+1:Nat):Int)) (U u0 (U ((by simp<;>omega):(l.length)=(ints l).length) trivial)))))))))))))) fun ac wd r=>?_
    refine aJ.rounds (Φ:=fun (j:Nat) ac wd=>(i+1+1+j≤l.length)∧RB D w0 K 61 bs [(0,.sl 0 (l.length)),(3,.n ((a6 l (i+1+1+j)).length)),(4,.sb 0 1 (i+1) (l.length-(i+1))),(5,.n (j+1))] [.rw 3 1 (ints (wr l (i+1) j))] ac wd) (l.length) ?_ (Nat.zero_le _) ⟨by omega,(r).cast (by rw [kS];simp;omega) rfl⟩
    clear r
    rintro j gB eW ac wd ⟨cy,r⟩
    cases h3:(decide ((((j+1:Nat):Int):Int)<((l.length-(i+1):Nat):Int))) with
    | false=>
     have fY:=of_decide_eq_false h3
     have Tl:=fP aG j
     refine gj (y:=.sl 0 ((a6 l (i+1+1+j)).length)) (N':=[.rw 3 1 (((ints (wr l (i+1) j)).take ((a6 l (i+1+1+j)).length)++(List.replicate (l.length-((a6 l (i+1+1+j)).length)) ([.z 0]:List DV)++(ints (wr l (i+1) j)).drop (((a6 l (i+1+1+j)).length)+(l.length-((a6 l (i+1+1+j)).length))))).take ((a6 l (i+1+1+j)).length))]) ((by first | (rw [pG (by omega)];done) | (rw [show a6 l l.length=l by rw [show l.length=i+1 by omega,nI];exact List.take_of_length_le (by omega)];done) | (rw [show l.length=i+1+1+j by omega]))) ((by first | (rw [pG (by omega)];done) | (rw [show a6 l l.length=l by rw [show l.length=i+1 by omega,nI];exact List.take_of_length_le (by omega)];done) | (refine D1 ?_;rw [zp (by rw [List.length_map,mM];have:=fP aG j;omega),yK,vK kS (by omega) (by omega)];rw [show l.length=i+1+1+j by omega]))) ?_
     exact gg tk tq hK rfl bE [(9,[(3,.b false)]),(14,[(2,.n ((a6 l (i+1+1+j)).length))]),(15,[(2,.n ((a6 l (i+1+1+j)).length))])] 2000 [0] r (by kernel_rfl) (U h3 (U (aS (((a6 l (i+1+1+j)).length:Nat):Int)) (U ((by first | omega | (have:=fP aG j;omega)):((a6 l (i+1+1+j)).length)<(l.length)) (U ((by simp<;>omega):(l.length)=(ints (wr l (i+1) j)).length) (U ((by first | omega | (have:=fP aG j;omega)):0<(l.length-((a6 l (i+1+1+j)).length))) (U ((by simp<;>omega):((a6 l (i+1+1+j)).length)+(l.length-((a6 l (i+1+1+j)).length))≤(ints (wr l (i+1) j)).length) (U (aS (((a6 l (i+1+1+j)).length:Nat):Int)) (U ((by first | omega | (have:=fP aG j;omega)):((a6 l (i+1+1+j)).length)≤(l.length)) (U ((by simp<;>omega):(l.length)=((ints (wr l (i+1) j)).take ((a6 l (i+1+1+j)).length)++(List.replicate (l.length-((a6 l (i+1+1+j)).length)) ([.z 0]:List DV)++(ints (wr l (i+1) j)).drop (((a6 l (i+1+1+j)).length)+(l.length-((a6 l (i+1+1+j)).length)))):List (List DV)).length) trivial)))))))))
    | true=>
     have fY:=of_decide_eq_true h3
     obtain ⟨kj,la⟩:∃ x,l[i+1+(j+1)]?=some x:=⟨_,List.getElem?_eq_getElem (by omega)⟩
     obtain ⟨mC,kX⟩:∃ x,l[i+1+(j+1-1)]?=some x:=⟨_,List.getElem?_eq_getElem (by omega)⟩
     have Tl:=fP aG j
     obtain ⟨old,Tn⟩:∃ x,(wr l (i+1) j)[(a6 l (i+1+1+j)).length]?=some x:=⟨_,List.getElem?_eq_getElem (by rw [mM];omega)⟩
     have u3:=((by first | omega | (have:=fP aG j;omega)):(j+1)<(l.length-(i+1)))
     have u4:=((by simp<;>omega):(i+1)+(l.length-(i+1))≤(ints (wr l (i+1) j)).length)
     have u5:=(lh (by rw [sG aG (by omega)];exact la):(ints (wr l (i+1) j))[i+1+(j+1)]?=some [.z kj])
     have u6:=((wi (by omega)):IntKind.i64.wrap ((((j+1:Nat):Int):Int)-1)=((j+1-1:Nat):Int))
     have u7:=((by first | omega | (have:=fP aG j;omega)):(j+1-1)<(l.length-(i+1)))
     have u8:=(lh (by rw [sG aG (by omega)];exact kX):(ints (wr l (i+1) j))[i+1+(j+1-1)]?=some [.z mC])
     cases h4:((kj:Int) != mC) with
     | false=>
      have pe:=kY h4
      exact g6 (todo':=hd Tryz.f87 1) (E':=[(0,.sl 0 (l.length)),(3,.n ((a6 l (i+1+1+j)).length)),(4,.sb 0 1 (i+1) (l.length-(i+1))),(5,.n (j+1+1))]) (M':=[.rw 3 1 (ints (wr l (i+1) j))]) tk tq hK bE [(9,[(3,.b true)]),(10,[(1,.z (((j+1+1:Nat):Int)))]),(11,[(2,.n (j+1)),(3,.ix 0 [.z kj]),(6,.z (((j+1-1:Nat):Int))),(7,.n (j+1-1)),(8,.ix 0 [.z mC]),(9,.b false)])] 2000 [0] [0,3,4,5] r (by kernel_rfl) (U h3 (U (aS ((j+1:Nat):Int)) (U u3 (U u4 (U u5 (U u6 (U (aS ((j+1-1:Nat):Int)) (U u7 (U u4 (U u8 (U h4 (U ((wi (by omega)):IntKind.i64.wrap ((((j+1:Nat):Int):Int)+1)=((j+1+1:Nat):Int)) trivial)))))))))))) fun ac wd r=>eW (by omega) ac wd ⟨by omega,r.cast (by have e:i+1+1+(j+1)=(i+1+(j+1))+1:=(by omega);have e2:i+1+(j+1)=i+1+1+j:=(by omega);rw [e];first | (rw [rQ (p:=i+1+(j+1)) la (by have k:=kX;simpa using k) (by omega),e2];simp;done) | (rw [rC (p:=i+1+(j+1)) la (by omega) (by have k:=kX;rw [show kj=mC by omega];simpa using k),e2];done)) (by first | (rw [ints_set,AX (k:=i+1) (j:=j) la (by have k:=kX;simpa using k) (by omega)];done) | (rw [Ad (k:=i+1) (j:=j) la (by have k:=kX;rw [show kj=mC by omega];simpa using k)];done))⟩
     | true=>
      have pe:¬ _=_:=bne_iff_ne.1 h4
      exact g6 (todo':=hd Tryz.f87 1) (E':=[(0,.sl 0 (l.length)),(3,.n ((a6 l (i+1+1+j)).length+1)),(4,.sb 0 1 (i+1) (l.length-(i+1))),(5,.n (j+1+1))]) (M':=[.rw 3 1 (List.set (ints (wr l (i+1) j)) ((a6 l (i+1+1+j)).length) [.z kj])]) tk tq hK bE [(9,[(3,.b true)]),(10,[(1,.z (((j+1+1:Nat):Int)))]),(11,[(2,.n (j+1)),(3,.ix 0 [.z kj]),(6,.z (((j+1-1:Nat):Int))),(7,.n (j+1-1)),(8,.ix 0 [.z mC]),(9,.b true)]),(12,[(4,.n (j+1)),(5,.ix 0 [.z kj]),(6,.n ((a6 l (i+1+1+j)).length)),(7,.ix 0 [.z old])]),(13,[(1,.z ((((a6 l (i+1+1+j)).length+1:Nat):Int)))])] 2000 [0] [0,3,4,5] r (by kernel_rfl) (U h3 (U (aS ((j+1:Nat):Int)) (U u3 (U u4 (U u5 (U u6 (U (aS ((j+1-1:Nat):Int)) (U u7 (U u4 (U u8 (U h4 (U (aS ((j+1:Nat):Int)) (U u3 (U u4 (U u5 (U (aS (((a6 l (i+1+1+j)).length:Nat):Int)) (U ((by first | omega | (have:=fP aG j;omega)):((a6 l (i+1+1+j)).length)<(l.length)) (U ((by simp<;>omega):(l.length)≤(ints (wr l (i+1) j)).length) (U (lh Tn) (U ((wi (by omega)):IntKind.i64.wrap (((((a6 l (i+1+1+j)).length:Nat):Int):Int)+1)=(((a6 l (i+1+1+j)).length+1:Nat):Int)) (U ((wi (by omega)):IntKind.i64.wrap ((((j+1:Nat):Int):Int)+1)=((j+1+1:Nat):Int)) trivial))))))))))))))))))))) fun ac wd r=>eW (by omega) ac wd ⟨by omega,r.cast (by have e:i+1+1+(j+1)=(i+1+(j+1))+1:=(by omega);have e2:i+1+(j+1)=i+1+1+j:=(by omega);rw [e];first | (rw [rQ (p:=i+1+(j+1)) la (by have k:=kX;simpa using k) (by omega),e2];simp;done) | (rw [rC (p:=i+1+(j+1)) la (by omega) (by have k:=kX;rw [show kj=mC by omega];simpa using k),e2];done)) (by first | (rw [ints_set,AX (k:=i+1) (j:=j) la (by have k:=kX;simpa using k) (by omega)];done) | (rw [Ad (k:=i+1) (j:=j) la (by have k:=kX;rw [show kj=mC by omega];simpa using k)];done))⟩
 | true=>
  have bq:=of_decide_eq_true h0
  refine gj (y:=.sl 0 (l.length)) (N':=[.rw 3 1 (ints l)]) ((by first | (rw [pG (by omega)];done) | (rw [show a6 l l.length=l by rw [show l.length=i+1 by omega,nI];exact List.take_of_length_le (by omega)];done) | (rw [show l.length=i+1+1+j by omega]))) ((by first | (rw [pG (by omega)];done) | (rw [show a6 l l.length=l by rw [show l.length=i+1 by omega,nI];exact List.take_of_length_le (by omega)];done) | (refine D1 ?_;rw [zp (by rw [List.length_map,mM];have:=fP aG j;omega),yK,vK kS (by omega) (by omega)];rw [show l.length=i+1+1+j by omega]))) ?_
  exact gg tk tq hK rfl bE [(1,[(2,.b true)])] 2000 [0] r (by kernel_rfl) (U h0 trivial)
end Go.Proofs.YtgkdnnmcjjabdaaGreat
namespace Go.Proofs.YtgkdnnmcjjabdaaGreat
open Go.RowKit
theorem FE {l:List Int} (h:∀ (i:Nat) (a b:Int),l[i]?=some a→l[i+1]?=some b→b≠a):∀ {p:Nat},p≤l.length→a6 l p=l.take p
 | 0,_=>by simp [a6]
 | 1,hp=>GB (by omega)
 | p+2,hp=>by
  have e1:l[p+1]?=some l[p+1]:=List.getElem?_eq_getElem (by omega)
  have e2:l[p]?=some l[p]:=List.getElem?_eq_getElem (by omega)
  rw [rQ (p:=p+1) e1 (by simp) (h p _ _ e2 e1),FE h (p:=p+1) (by omega),← HG e1]
theorem GC (l:List Int):∀ p,(a6 l p).length≤p
 | 0=>by simp [a6]
 | p+1=>by have:=HF l p;have:=GC l p;omega
theorem EO {l:List au} (hs:isSet l=true):((a6 (l.map au.node) (l.map au.node).length).length=l.length)↔lone l=true:=by
 have CV:=(uM l).1 hs
 have hle:∀ (i:Nat) p q,l[i]?=some p→l[i+1]?=some q→p.node≤q.node:=fun i p q hp hq=>by
  have:=CV.2 i p q (List.getElem?_eq_some_iff.1 hq).1 hp hq
  unfold au.lt at this
  have:=of_decide_eq_true this
  omega
 have mono:∀ (d i:Nat) p q,l[i]?=some p→l[i+d]?=some q→p.node≤q.node:=by
  intro d
  induction d with
  | zero=>intro i p q hp hq;rw [Nat.add_zero,hp] at hq;cases hq;omega
  | succ d ih=>
   intro i p q hp hq
   have aG:=(List.getElem?_eq_some_iff.1 hq).1
   have e:l[i+d]?=some l[i+d]:=List.getElem?_eq_getElem (by omega)
   have h1:=ih i p _ hp e
   have h2:=hle (i+d) _ q e (by rw [Nat.add_assoc];exact hq)
   omega
 constructor
 ·intro h
  cases hl:lone l with
  | true=>rfl
  | false=>
   exfalso
   have hn:¬ Lone l l.length:=fun hh=>by rw [Ow hh] at hl;cases hl
   apply hn
   intro a b p q ha hb hp hq e
   have kE:0<a:=by omega
   have e1:l[a-1]?=some l[a-1]:=List.getElem?_eq_getElem (by omega)
   have h1:=mono (a-1-b) b q _ hq (by rw [show b+(a-1-b)=a-1 by omega];exact e1)
   have h2:=hle (a-1) _ p e1 (by rw [show a-1+1=a by omega];exact hp)
   have g1:(l.map au.node)[a]?=some p.node:=by rw [List.getElem?_map,hp];rfl
   have g2:(l.map au.node)[a-1]?=some p.node:=by rw [List.getElem?_map,e1];simp;omega
   have h3:=rC g1 kE g2
   have h4:=GC (l.map au.node) a
   have h5:=fP (l:=l.map au.node) (k:=a) (by rw [h3];exact h4) (l.length-(a+1))
   rw [show a+1+(l.length-(a+1))=(l.map au.node).length by simp;omega] at h5
   omega
 ·intro h
  have BZ:=(Gt l).1 h
  rw [FE (fun i a b ha hb=>?_) (Nat.le_refl _),List.take_length,List.length_map]
  rw [List.getElem?_map,Option.map_eq_some_iff] at ha hb
  obtain ⟨p,hp,rfl⟩:=ha
  obtain ⟨q,hq,rfl⟩:=hb
  exact fun e=>BZ (i+1) i q p (List.getElem?_eq_some_iff.1 hq).1 (by omega) hq hp e.symm
theorem uF {l:List au} (hs:isSet l=true):r8 (l.map au.node):=by
 have CV:=(uM l).1 hs
 intro i a b ha hb
 rw [List.getElem?_map,Option.map_eq_some_iff] at ha hb
 obtain ⟨p,hp,rfl⟩:=ha
 obtain ⟨q,hq,rfl⟩:=hb
 have:=CV.2 i p q (List.getElem?_eq_some_iff.1 hq).1 hp hq
 unfold au.lt at this
 have:=of_decide_eq_true this
 omega
theorem OO (l:List Int) (i:Nat) (h:i=l.length) (hb:l.length<1073741824):db Tryz.prog 87 [.sl 0 i] [.rw 3 1 (ints l)] (.sl 0 (a6 l l.length).length) [.rw 3 1 (ints (a6 l l.length))]:=by subst h;exact M9 l hb
theorem LW {l:List au} {i:Nat} {p:au} (h:l[i]?=some p):ints ((l.take i).map au.node)++[[.v (.int .i64 p.node)]]=ints ((l.take (i+1)).map au.node):=by
 obtain ⟨hi,rfl⟩:=List.getElem?_eq_some_iff.1 h
 rw [OK,List.take_succ_eq_append_getElem hi,List.map_append];rfl
set_option maxRecDepth 100000 in
theorem rW (l:List au) (hs:r8 (l.map au.node)) (hb:l.length≤6):aj Tryz.prog 53 [.d (.ro 2 (procs l))] (.ro 1 (ints (a6 (l.map au.node) (l.map au.node).length))):=by
 refine aj.intro (by kernel_rfl) rfl rfl 26 rfl rfl fun w0 K ac hK r=>?_
 refine bI (todo':=hd Tryz.f53 0) (E':=[(3,.sl 0 (0)),(9,.d (.ro 2 (procs l))),(10,.n l.length),(11,.z 0)]) (M':=[.rw 3 1 ([])]) tk tq hK [(1,[(1,.z (((l.length:Nat):Int))),(2,.n2 (0) (l.length))]),(2,[(1,.z (((l.length:Nat):Int)))])] 2000 [0] [3,9,10,11] r (by kernel_rfl) (U ((by simp):(((procs l).length:Nat):Int)=((l.length:Nat):Int)) (U (rfl:(0:Int)=((0:Nat):Int)) (U (aS ((l.length:Nat):Int)) (U ((by first | omega | (simp;omega)):(0)≤(l.length)) (U ((by first | omega | (simp;omega)):8*(l.length)≤281474976710656) (U ((by first | omega | (simp;omega)):(l.length)<4611686018427387904) (U ((by simp):(((procs l).length:Nat):Int)=((l.length:Nat):Int)) trivial))))))) fun ac wd r=>?_
 refine aJ.rounds (Φ:=fun (i:Nat) ac wd=>(i≤l.length)∧dH [] w0 K 26 [(3,.sl 0 (i)),(9,.d (.ro 2 (procs l))),(10,.n l.length),(11,.n i)] [.rw 3 1 (ints ((l.take i).map au.node))] ac wd) (l.length) ?_ (Nat.zero_le _) ⟨by omega,(r).cast rfl rfl⟩
 clear r
 rintro i fI cX ac wd ⟨bh,r⟩
 cases h0:(decide ((((i:Nat):Int):Int)<((l.length:Nat):Int))) with
 | false=>
  have bq:=of_decide_eq_false h0
  have c9:l.take i=l:=List.take_of_length_le (by omega)
  exact aM tk tq hK rfl [(3,[(0,.b false)]),(7,[(1,.call [.d (.ro 1 (ints (l.map au.node)))] (.tu []))]),(8,[(1,.mem [0] (.sl 0 ((a6 (l.map au.node) (l.map au.node).length).length)) [.rw 3 1 (ints (a6 (l.map au.node) (l.map au.node).length))]),(2,.b9 200 [(1,[(5,.res (.ro 1 (ints (a6 (l.map au.node) (l.map au.node).length))))])])])] 2000 r (by kernel_rfl) (U h0 (U (Q2 (l.map au.node) hs (by simp;omega)) (U ((.tu (by simp)):da (.tu [])) (U (b5 (1)) (U ((by simp<;>omega):(i)=(ints ((l.take i).map au.node)).length) (U ((by rw [FD,c9]):bM (ints ((l.take i).map au.node))=ints (l.map au.node)) (U ((by rw [c9];exact OO (l.map au.node) (i) (by simp;omega) (by simp;omega)):db Tryz.prog 87 [.sl 0 (i)] [.rw 3 1 (ints ((l.take i).map au.node))] (.sl 0 ((a6 (l.map au.node) (l.map au.node).length).length)) [.rw 3 1 (ints (a6 (l.map au.node) (l.map au.node).length))]) (U (aS (((a6 (l.map au.node) (l.map au.node).length).length:Nat):Int)) (U (aS (((a6 (l.map au.node) (l.map au.node).length).length:Nat):Int)) (U ((by simp<;>omega):((a6 (l.map au.node) (l.map au.node).length).length)=(ints (a6 (l.map au.node) (l.map au.node).length)).length) (U (b5 (1)) (U (FD _:bM (ints (a6 (l.map au.node) (l.map au.node).length))=ints (a6 (l.map au.node) (l.map au.node).length)) trivial))))))))))))
 | true=>
  have bq:=of_decide_eq_true h0
  obtain ⟨bS,cv⟩:∃ x,l[i]?=some x:=⟨_,List.getElem?_eq_getElem (by omega)⟩
  exact bI (todo':=hd Tryz.f53 0) (E':=[(3,.sl 0 (i+(1))),(9,.d (.ro 2 (procs l))),(10,.n l.length),(11,.n (i+1))]) (M':=[.rw 3 1 (ints ((l.take i).map au.node)++[[.z bS.node]])]) tk tq hK [(3,[(0,.b true)]),(4,[(0,.ix (i) [.z bS.node,.u bS.inc])]),(6,[(0,.z (((i+1:Nat):Int)))])] 2000 [0] [3,9,10,11] r (by kernel_rfl) (U h0 (U (aS ((i:Nat):Int)) (U (gY cv) (U ((by simp<;>omega):(i)=(ints ((l.take i).map au.node)).length) (U ((by simp<;>omega):(1)=([[.z bS.node]]:List (List DV)).length) (U ((by first | omega | (simp;done) | (simp;omega)):(2*((i)+(1))+192)*8≤281474976710656) (U ((by first | omega | (simp;done) | (simp;omega)):(i)+(1)<4611686018427387904) (U ((by simp [bX,AV.one,cA]):bX ([[.z bS.node]])) (U ((wi (by omega)):IntKind.i64.wrap ((((i:Nat):Int):Int)+1)=((i+1:Nat):Int)) trivial))))))))) fun ac wd r=>cX (by omega) ac wd ⟨by omega,r.cast rfl (by rw [LW cv])⟩
end Go.Proofs.YtgkdnnmcjjabdaaGreat
namespace Go.Proofs.YtgkdnnmcjjabdaaGreat
open Go.RowKit
theorem HH:∀ {l:List Nat} {x k:Nat},x ∈ l→0≤idx l x k
 | [],x,k,h=>by simp at h
 | y::r,x,k,h=>by
  unfold idx;split
  ·omega
  ·rename_i dx
   rcases List.mem_cons.1 h with e | e
   ·exact absurd e.symm dx
   ·exact HH e
theorem View.kl {v:View} (h:v.id.round≠0) (h0:0≤idx v.ay 0 0):v.may=false:=by
 obtain ⟨i,-,h2⟩:=zm h0
 exact View.Q0 h h2 rfl
theorem View.kx {v:View} (h0:¬ 0≤idx v.ay 0 0) (j x:Nat) (_:j<v.ay.length) (hx:v.ay[j]?=some x):x≠0:=by
 intro e;subst e;exact h0 (HH (List.mem_of_getElem? hx))
theorem View.kz {v:View} (h:v.id.may=false):v.may=false:=by
 unfold View.may;split
 ·rename_i h0
  unfold er.may at h
  have h1:=of_decide_eq_false h
  have:v.id.server.may=false:=by
   cases hs:v.id.server.may with
   | false=>rfl
   | true=>exact absurd ⟨hs,.inl h0⟩ h1
  rw [this];rfl
 ·rw [h];simp
theorem er.kg {v:er} (h:v.may=true):v.server.may=true:=(of_decide_eq_true h).1
set_option maxRecDepth 100000 in
theorem vL (v:View) (hb:v.bounded):aj Tryz.prog 34 [.ag [.u v.id.round,.z v.id.server.node,.u v.id.server.inc,.d (.ro 2 (procs v.members)),.d (.ro 1 (ae v.ay))]] (DV.v (.bool v.may)):=by
 obtain ⟨eK,cB⟩:=id hb
 refine aj.intro (by kernel_rfl) rfl rfl 53 rfl rfl fun w0 K ac hK r=>?_
 cases h0:(v.id.may) with
 | false=>
  rw [show (DV.v (.bool v.may):DV)=.v (.bool false) from (bv (by first | exact View.kz (by assumption) | exact View.kf (by omega) (er.kg (by assumption)) (by assumption) | exact View.kl (by omega) (of_decide_eq_true (by assumption)) | exact View.ko (by omega) (by assumption) (by omega) (by omega) (by omega) (by assumption) (by assumption) (Nat.le_refl _) (View.kx (of_decide_eq_false (by assumption))) | exact View.kq (by omega) (by first | (left;assumption) | (right;left;omega) | (right;right;left;omega) | (right;right;right;left;omega) | (right;right;right;right;left;assumption) | (right;right;right;right;right;assumption))))]
  exact aM tk tq hK rfl [(1,[(2,.aL (.v (.bool false)))])] 2000 r (by kernel_rfl) (U ((by have k:=Fs v.id;rw [h0] at k;exact k):aj Tryz.prog 56 [.ag [.u v.id.round,.z v.id.server.node,.u v.id.server.inc]] (.v (.bool false))) trivial)
 | true=>
  have u0:=((by have k:=Fs v.id;rw [h0] at k;exact k):aj Tryz.prog 56 [.ag [.u v.id.round,.z v.id.server.node,.u v.id.server.inc]] (.v (.bool true)))
  cases h1:((((v.id.round:Nat):Int):Int)==0) with
  | false=>
   have b6:=ne_of_beq_false h1
   have u1:=((by simp):(((procs v.members).length:Nat):Int)=((v.members.length:Nat):Int))
   cases h2:(decide ((1:Int)≤((v.members.length:Nat):Int))) with
   | false=>
    have dg:=of_decide_eq_false h2
    rw [show (DV.v (.bool v.may):DV)=.v (.bool false) from (bv (by first | exact View.kz (by assumption) | exact View.kf (by omega) (er.kg (by assumption)) (by assumption) | exact View.kl (by omega) (of_decide_eq_true (by assumption)) | exact View.ko (by omega) (by assumption) (by omega) (by omega) (by omega) (by assumption) (by assumption) (Nat.le_refl _) (View.kx (of_decide_eq_false (by assumption))) | exact View.kq (by omega) (by first | (left;assumption) | (right;left;omega) | (right;right;left;omega) | (right;right;right;left;omega) | (right;right;right;right;left;assumption) | (right;right;right;right;right;assumption))))]
    exact aM tk tq hK rfl [(1,[(2,.aL (.v (.bool true)))]),(3,[(3,.b false)]),(5,[(2,.z (((v.members.length:Nat):Int)))]),(6,[(1,.b false)])] 2000 r (by kernel_rfl) (U u0 (U h1 (U u1 (U h2 trivial))))
   | true=>
    have dg:=of_decide_eq_true h2
    cases h3:(decide ((((v.members.length:Nat):Int):Int)≤6)) with
    | false=>
     have fY:=of_decide_eq_false h3
     rw [show (DV.v (.bool v.may):DV)=.v (.bool false) from (bv (by first | exact View.kz (by assumption) | exact View.kf (by omega) (er.kg (by assumption)) (by assumption) | exact View.kl (by omega) (of_decide_eq_true (by assumption)) | exact View.ko (by omega) (by assumption) (by omega) (by omega) (by omega) (by assumption) (by assumption) (Nat.le_refl _) (View.kx (of_decide_eq_false (by assumption))) | exact View.kq (by omega) (by first | (left;assumption) | (right;left;omega) | (right;right;left;omega) | (right;right;right;left;omega) | (right;right;right;right;left;assumption) | (right;right;right;right;right;assumption))))]
     exact aM tk tq hK rfl [(1,[(2,.aL (.v (.bool true)))]),(3,[(3,.b false)]),(5,[(2,.z (((v.members.length:Nat):Int)))]),(6,[(1,.b true),(4,.b false)])] 2000 r (by kernel_rfl) (U u0 (U h1 (U u1 (U h2 (U h3 trivial)))))
    | true=>
     have fY:=of_decide_eq_true h3
     cases h4:(isSet v.members) with
     | false=>
      rw [show (DV.v (.bool v.may):DV)=.v (.bool false) from (bv (by first | exact View.kz (by assumption) | exact View.kf (by omega) (er.kg (by assumption)) (by assumption) | exact View.kl (by omega) (of_decide_eq_true (by assumption)) | exact View.ko (by omega) (by assumption) (by omega) (by omega) (by omega) (by assumption) (by assumption) (Nat.le_refl _) (View.kx (of_decide_eq_false (by assumption))) | exact View.kq (by omega) (by first | (left;assumption) | (right;left;omega) | (right;right;left;omega) | (right;right;right;left;omega) | (right;right;right;right;left;assumption) | (right;right;right;right;right;assumption))))]
      exact aM tk tq hK rfl [(1,[(2,.aL (.v (.bool true)))]),(3,[(3,.b false)]),(5,[(2,.z (((v.members.length:Nat):Int)))]),(6,[(1,.b true),(4,.b true),(9,.aL (.v (.bool false)))])] 2000 r (by kernel_rfl) (U u0 (U h1 (U u1 (U h2 (U h3 (U ((by have k:=z9 v.members (by omega);rw [h4] at k;exact k):aj Tryz.prog 51 [.d (.ro 2 (procs v.members))] (.v (.bool false))) trivial))))))
     | true=>
      have u2:=((by have k:=z9 v.members (by omega);rw [h4] at k;exact k):aj Tryz.prog 51 [.d (.ro 2 (procs v.members))] (.v (.bool true)))
      have u3:=((by simp):(((ints (a6 (v.members.map au.node) (v.members.map au.node).length)).length:Nat):Int)=(((a6 (v.members.map au.node) (v.members.map au.node).length).length:Nat):Int))
      cases h5:(((((a6 (v.members.map au.node) (v.members.map au.node).length).length:Nat):Int):Int)==((v.members.length:Nat):Int)) with
      | false=>
       have pf:=ne_of_beq_false h5
       have BZ:lone v.members=false:=by
        cases hl:lone v.members with
        | false=>rfl
        | true=>exact absurd ((EO (by assumption)).2 hl) (by omega)
       rw [show (DV.v (.bool v.may):DV)=.v (.bool false) from (bv (by first | exact View.kz (by assumption) | exact View.kf (by omega) (er.kg (by assumption)) (by assumption) | exact View.kl (by omega) (of_decide_eq_true (by assumption)) | exact View.ko (by omega) (by assumption) (by omega) (by omega) (by omega) (by assumption) (by assumption) (Nat.le_refl _) (View.kx (of_decide_eq_false (by assumption))) | exact View.kq (by omega) (by first | (left;assumption) | (right;left;omega) | (right;right;left;omega) | (right;right;right;left;omega) | (right;right;right;right;left;assumption) | (right;right;right;right;right;assumption))))]
       exact aM tk tq hK rfl [(1,[(2,.aL (.v (.bool true)))]),(3,[(3,.b false)]),(5,[(2,.z (((v.members.length:Nat):Int)))]),(6,[(1,.b true),(4,.b true),(9,.aL (.v (.bool true))),(14,.aL (.ro 1 (ints (a6 (v.members.map au.node) (v.members.map au.node).length)))),(15,.z ((((a6 (v.members.map au.node) (v.members.map au.node).length).length:Nat):Int))),(17,.b false)])] 2000 r (by kernel_rfl) (U u0 (U h1 (U u1 (U h2 (U h3 (U u2 (U (rW v.members (uF (by assumption)) (by omega)) (U u3 (U h5 trivial)))))))))
      | true=>
       have pf:=eq_of_beq h5
       have BZ:lone v.members=true:=(EO (by assumption)).1 (by omega)
       have u4:=((by simp):(((ae v.ay).length:Nat):Int)=((v.ay.length:Nat):Int))
       cases h6:((((v.ay.length:Nat):Int):Int)==((v.members.length:Nat):Int)) with
       | false=>
        have pg:=ne_of_beq_false h6
        rw [show (DV.v (.bool v.may):DV)=.v (.bool false) from (bv (by first | exact View.kz (by assumption) | exact View.kf (by omega) (er.kg (by assumption)) (by assumption) | exact View.kl (by omega) (of_decide_eq_true (by assumption)) | exact View.ko (by omega) (by assumption) (by omega) (by omega) (by omega) (by assumption) (by assumption) (Nat.le_refl _) (View.kx (of_decide_eq_false (by assumption))) | exact View.kq (by omega) (by first | (left;assumption) | (right;left;omega) | (right;right;left;omega) | (right;right;right;left;omega) | (right;right;right;right;left;assumption) | (right;right;right;right;right;assumption))))]
        exact aM tk tq hK rfl [(1,[(2,.aL (.v (.bool true)))]),(3,[(3,.b false)]),(5,[(2,.z (((v.members.length:Nat):Int)))]),(6,[(1,.b true),(4,.b true),(9,.aL (.v (.bool true))),(14,.aL (.ro 1 (ints (a6 (v.members.map au.node) (v.members.map au.node).length)))),(15,.z ((((a6 (v.members.map au.node) (v.members.map au.node).length).length:Nat):Int))),(17,.b true),(22,.z (((v.ay.length:Nat):Int))),(24,.b false)])] 2000 r (by kernel_rfl) (U u0 (U h1 (U u1 (U h2 (U h3 (U u2 (U (rW v.members (uF (by assumption)) (by omega)) (U u3 (U h5 (U u4 (U h6 trivial)))))))))))
       | true=>
        have pg:=eq_of_beq h6
        cases h7:(decide (0≤idx v.ay 0 0)) with
        | false=>
         have ph:=of_decide_eq_false h7
         rw [show (DV.v (.bool v.may):DV)=.v (.bool true) from (bv (by first | exact View.kz (by assumption) | exact View.kf (by omega) (er.kg (by assumption)) (by assumption) | exact View.kl (by omega) (of_decide_eq_true (by assumption)) | exact View.ko (by omega) (by assumption) (by omega) (by omega) (by omega) (by assumption) (by assumption) (Nat.le_refl _) (View.kx (of_decide_eq_false (by assumption))) | exact View.kq (by omega) (by first | (left;assumption) | (right;left;omega) | (right;right;left;omega) | (right;right;right;left;omega) | (right;right;right;right;left;assumption) | (right;right;right;right;right;assumption))))]
         exact aM tk tq hK rfl [(1,[(2,.aL (.v (.bool true)))]),(3,[(3,.b false)]),(5,[(2,.z (((v.members.length:Nat):Int)))]),(6,[(1,.b true),(4,.b true),(9,.aL (.v (.bool true))),(14,.aL (.ro 1 (ints (a6 (v.members.map au.node) (v.members.map au.node).length)))),(15,.z ((((a6 (v.members.map au.node) (v.members.map au.node).length).length:Nat):Int))),(17,.b true),(22,.z (((v.ay.length:Nat):Int))),(24,.b true),(29,.aL (.v (.bool false)))])] 2000 r (by kernel_rfl) (U u0 (U h1 (U u1 (U h2 (U h3 (U u2 (U (rW v.members (uF (by assumption)) (by omega)) (U u3 (U h5 (U u4 (U h6 (U ((by have k:=containsNum v.ay 0 (by omega);rw [h7] at k;exact k):aj Tryz.prog 58 [.d (.ro 1 (ae v.ay)),.d (.v (.int .u64 0))] (.v (.bool false))) trivial))))))))))))
        | true=>
         have ph:=of_decide_eq_true h7
         rw [show (DV.v (.bool v.may):DV)=.v (.bool false) from (bv (by first | exact View.kz (by assumption) | exact View.kf (by omega) (er.kg (by assumption)) (by assumption) | exact View.kl (by omega) (of_decide_eq_true (by assumption)) | exact View.ko (by omega) (by assumption) (by omega) (by omega) (by omega) (by assumption) (by assumption) (Nat.le_refl _) (View.kx (of_decide_eq_false (by assumption))) | exact View.kq (by omega) (by first | (left;assumption) | (right;left;omega) | (right;right;left;omega) | (right;right;right;left;omega) | (right;right;right;right;left;assumption) | (right;right;right;right;right;assumption))))]
         exact aM tk tq hK rfl [(1,[(2,.aL (.v (.bool true)))]),(3,[(3,.b false)]),(5,[(2,.z (((v.members.length:Nat):Int)))]),(6,[(1,.b true),(4,.b true),(9,.aL (.v (.bool true))),(14,.aL (.ro 1 (ints (a6 (v.members.map au.node) (v.members.map au.node).length)))),(15,.z ((((a6 (v.members.map au.node) (v.members.map au.node).length).length:Nat):Int))),(17,.b true),(22,.z (((v.ay.length:Nat):Int))),(24,.b true),(29,.aL (.v (.bool true)))])] 2000 r (by kernel_rfl) (U u0 (U h1 (U u1 (U h2 (U h3 (U u2 (U (rW v.members (uF (by assumption)) (by omega)) (U u3 (U h5 (U u4 (U h6 (U ((by have k:=containsNum v.ay 0 (by omega);rw [h7] at k;exact k):aj Tryz.prog 58 [.d (.ro 1 (ae v.ay)),.d (.v (.int .u64 0))] (.v (.bool true))) trivial))))))))))))
  | true=>
   have b6:=eq_of_beq h1
   cases h8:(decide (v=View.first v.id.server)) with
   | false=>
    have ub:=of_decide_eq_false h8
    rw [show (DV.v (.bool v.may):DV)=.v (.bool false) from (bv (by first | exact View.kz (by assumption) | exact View.kf (by omega) (er.kg (by assumption)) (by assumption) | exact View.kl (by omega) (of_decide_eq_true (by assumption)) | exact View.ko (by omega) (by assumption) (by omega) (by omega) (by omega) (by assumption) (by assumption) (Nat.le_refl _) (View.kx (of_decide_eq_false (by assumption))) | exact View.kq (by omega) (by first | (left;assumption) | (right;left;omega) | (right;right;left;omega) | (right;right;right;left;omega) | (right;right;right;right;left;assumption) | (right;right;right;right;right;assumption))))]
    exact aM tk tq hK rfl [(1,[(2,.aL (.v (.bool true)))]),(3,[(3,.b true)]),(4,[(4,.aL (.ag [.v (.int .u64 0),.z v.id.server.node,.u v.id.server.inc,.em 24 2 (procs [v.id.server]),.em 22 1 (ae [0])])),(5,.call [.ag [.u v.id.round,.z v.id.server.node,.u v.id.server.inc,.d (.ro 2 (procs v.members)),.d (.ro 1 (ae v.ay))],.ag [.d (.v (.int .u64 0)),.z v.id.server.node,.u v.id.server.inc,.d (.ro 2 (procs [v.id.server])),.d (.ro 1 (ae [0]))]] (.v (.bool false)))])] 2000 r (by kernel_rfl) (U u0 (U h1 (U (yI v.id.server) (U ((by have k:=Gu v (View.first v.id.server) hb;rw [h8] at k;exact k):aj Tryz.prog 57 [.ag [.u v.id.round,.z v.id.server.node,.u v.id.server.inc,.d (.ro 2 (procs v.members)),.d (.ro 1 (ae v.ay))],.ag [.d (.v (.int .u64 0)),.z v.id.server.node,.u v.id.server.inc,.d (.ro 2 (procs [v.id.server])),.d (.ro 1 (ae [0]))]] (.v (.bool false))) (U ((lH _):da (.v (.bool false))) (U (aO (.u v.id.round)) (U (aO (.z v.id.server.node)) (U (aO (.u v.id.server.inc)) (U (aO (.ro 2 (procs v.members))) (U (aO (.ro 1 (ae v.ay))) (U (aO (.v (.int .u64 0))) (U (aO (.z v.id.server.node)) (U (aO (.u v.id.server.inc)) (U (b5 (2)) (U (b5 ((procs [v.id.server]).length)) (U ((by simp [b7,bc,au.row]):bM (procs [v.id.server])=procs [v.id.server]) (U (b5 (1)) (U (b5 ((ae [0]).length)) (U ((by simp [b7,bc,au.row]):bM (ae [0])=ae [0]) trivial)))))))))))))))))))
   | true=>
    have ub:=of_decide_eq_true h8
    rw [show (DV.v (.bool v.may):DV)=.v (.bool true) from (bv (by first | exact View.kz (by assumption) | exact View.kf (by omega) (er.kg (by assumption)) (by assumption) | exact View.kl (by omega) (of_decide_eq_true (by assumption)) | exact View.ko (by omega) (by assumption) (by omega) (by omega) (by omega) (by assumption) (by assumption) (Nat.le_refl _) (View.kx (of_decide_eq_false (by assumption))) | exact View.kq (by omega) (by first | (left;assumption) | (right;left;omega) | (right;right;left;omega) | (right;right;right;left;omega) | (right;right;right;right;left;assumption) | (right;right;right;right;right;assumption))))]
    exact aM tk tq hK rfl [(1,[(2,.aL (.v (.bool true)))]),(3,[(3,.b true)]),(4,[(4,.aL (.ag [.v (.int .u64 0),.z v.id.server.node,.u v.id.server.inc,.em 24 2 (procs [v.id.server]),.em 22 1 (ae [0])])),(5,.call [.ag [.u v.id.round,.z v.id.server.node,.u v.id.server.inc,.d (.ro 2 (procs v.members)),.d (.ro 1 (ae v.ay))],.ag [.d (.v (.int .u64 0)),.z v.id.server.node,.u v.id.server.inc,.d (.ro 2 (procs [v.id.server])),.d (.ro 1 (ae [0]))]] (.v (.bool true)))])] 2000 r (by kernel_rfl) (U u0 (U h1 (U (yI v.id.server) (U ((by have k:=Gu v (View.first v.id.server) hb;rw [h8] at k;exact k):aj Tryz.prog 57 [.ag [.u v.id.round,.z v.id.server.node,.u v.id.server.inc,.d (.ro 2 (procs v.members)),.d (.ro 1 (ae v.ay))],.ag [.d (.v (.int .u64 0)),.z v.id.server.node,.u v.id.server.inc,.d (.ro 2 (procs [v.id.server])),.d (.ro 1 (ae [0]))]] (.v (.bool true))) (U ((lH _):da (.v (.bool true))) (U (aO (.u v.id.round)) (U (aO (.z v.id.server.node)) (U (aO (.u v.id.server.inc)) (U (aO (.ro 2 (procs v.members))) (U (aO (.ro 1 (ae v.ay))) (U (aO (.v (.int .u64 0))) (U (aO (.z v.id.server.node)) (U (aO (.u v.id.server.inc)) (U (b5 (2)) (U (b5 ((procs [v.id.server]).length)) (U ((by simp [b7,bc,au.row]):bM (procs [v.id.server])=procs [v.id.server]) (U (b5 (1)) (U (b5 ((ae [0]).length)) (U ((by simp [b7,bc,au.row]):bM (ae [0])=ae [0]) trivial)))))))))))))))))))
end Go.Proofs.YtgkdnnmcjjabdaaGreat
namespace Go.Proofs.YtgkdnnmcjjabdaaGreat
open Go.RowKit
theorem OP (l:List (List UInt8)):mV (aq 0 l) (l.length+1)=l.length:=by
 unfold mV
 rw [uD fun j t hj ht=>by rw [(lz ht).1];rw [dj] at hj;omega,if_neg (by omega),dj]
theorem R9 {p:au} {l:List (List UInt8)} {h:Nat} (hp:p.may=true) (hl:eN l) (hh:h≤l.length):aj Tryz.prog 64 [.ag [.d (.v (.int .u64 0)),.z p.node,.u p.inc,.d (.ro 2 (procs [p])),.d (.ro 1 (ae [0])),.d (.ro 1 (streams [aq 0 l])),.d (.ro 1 (ae [h]))]] (.ag [.v (.int .u64 0),.z p.node,.u p.inc,.em 24 2 (procs [p]),.em 22 1 (ae [0]),.em 111 1 (aP [aq 0 l]),.em 22 1 (ae [h])]):=by
 have k:=AW vL (fB p l h) (uE hl)
 rw [aA.jy (qa hp hl hh)] at k
 exact k
theorem Q3 (p:au):aj Tryz.prog 55 [.ag [.d (.v (.int .u64 0)),.z p.node,.u p.inc,.d (.ro 2 (procs [p])),.d (.ro 1 (ae [0]))],.ag [.z p.node,.u p.inc]] (.tu [.v (.int .i64 ((0:Nat):Int)),.v (.bool true)]):=by
 have k:=MQ (View.first p) p ⟨by simp [View.first],by simp [View.first]⟩
 rw [show lx (View.first p).members p=0 from (H7 p).1,show ly (View.first p).members p=true from (H7 p).2] at k
 exact k
theorem Qd {p:au} {l:List (List UInt8)} {b:List UInt8} (hl:eN l):aj Tryz.prog 65 [.d (.ro 2 (aQ (aq 0 l))),.fn 66 [.rp [.z p.node,.u p.inc,.u ((l.length+1)),.ro 1 (al b)] 0]] (.v (.int .i64 ((l.length:Nat):Int))):=by
 have k:=LQ (aq 0 l) ⟨p,l.length+1,b⟩ (by rw [dj];have:=hl.1;omega)
 rw [show mV (aq 0 l) (fK.mk p (l.length+1) b).n=l.length from OP l] at k
 exact k
theorem Lm (l:List (List UInt8)):bM (bJ (aq 0 l))=aQ (aq 0 l):=pq _
theorem Na (l:List (List UInt8)) (b:List UInt8):bM (aQ (aq 0 l)++[[.v (.int .u64 ((l.length+1:Nat):Int)),.em 5 1 (al b)]])=aQ (aq 0 (l++[b])):=by
 rw [Ac,Nat.zero_add,b7,List.map_append,← b7,po];simp [bc,b7,Slot.row,al]
set_option maxRecDepth 100000 in
theorem Sa (p:au) (l:List (List UInt8)) (b:List UInt8) (hp:p.may=true) (hl:eN l) (kV:l.length<16) (hb:b.length≤64):aj Tryz.prog 40 [.ag [.d (.v (.int .u64 0)),.z p.node,.u p.inc,.d (.ro 2 (procs [p])),.d (.ro 1 (ae [0])),.d (.ro 1 (streams [aq 0 l])),.d (.ro 1 (ae [l.length]))],.ag [.z p.node,.u p.inc,.u ((l.length+1)),.d (.ro 1 (al b))]] (.tu [.ag [.v (.int .u64 0),.z p.node,.u p.inc,.em 24 2 (procs [p]),.em 22 1 (ae [0]),.em 111 1 (streams [aq 0 (l++[b])]),.em 22 1 (ae [l.length])],.v (.bool true)]):=by
 refine aj.intro (by kernel_rfl) rfl rfl 86 rfl rfl fun w0 K ac hK r=>?_
 have fZ:=(R9 hp hl (Nat.le_refl _):aj Tryz.prog 64 [.ag [.d (.v (.int .u64 0)),.z p.node,.u p.inc,.d (.ro 2 (procs [p])),.d (.ro 1 (ae [0])),.d (.ro 1 (streams [aq 0 l])),.d (.ro 1 (ae [l.length]))]] (.ag [.v (.int .u64 0),.z p.node,.u p.inc,.em 24 2 (procs [p]),.em 22 1 (ae [0]),.em 111 1 (aP [aq 0 l]),.em 22 1 (ae [l.length])]))
 have pj:=((by first | exact lH _ | exact da.two _ _):da (.tu [.n 0,.v (.bool true)]))
 have xV:=((by first | exact po _ | exact pq _ | (simp [b7,bc,au.row];done)):bM (procs [p])=procs [p])
 have xW:=((by first | exact po _ | exact pq _ | (simp [b7,bc,au.row];done)):bM (ae [0])=ae [0])
 cases h0:(decide (((((l.length+1):Nat):Int):Int)<1)) with
 | false=>
  have bq:=of_decide_eq_false h0
  cases h1:(decide ((16:Int)<(((l.length+1):Nat):Int))) with
  | false=>
   have b6:=of_decide_eq_false h1
   have Vq:=((by simp [al,bJ,dj]):(((al b).length:Nat):Int)=((b.length:Nat):Int))
   cases h2:(decide ((64:Int)<((b.length:Nat):Int))) with
   | false=>
    have dg:=of_decide_eq_false h2
    refine mZ (todo':=aft Tryz.f40 5) (E':=[(3,.pt 1 0),(4,.pt 2 0),(5,.d (.v (.bool false))),(6,.pt 7 0),(7,.n 0),(9,.sl 8 ((bJ (aq 0 l)).length))]) (M':=[.bx 37 [.d (.v (.int .u64 0)),.z p.node,.u p.inc,.d (.ro 2 (procs [p])),.d (.ro 1 (ae [0])),.d (.ro 1 (streams [aq 0 l])),.d (.ro 1 (ae [l.length]))],.bx 94 [.z p.node,.u p.inc,.u ((l.length+1)),.d (.ro 1 (al b))],.bx 37 [.d (.v (.int .u64 0)),.z 0,.d (.v (.int .u64 0)),.d (.v (.slice none 0 0)),.d (.v (.slice none 0 0)),.d (.v (.slice none 0 0)),.d (.v (.slice none 0 0))],.rw 24 2 (procs [p]),.rw 22 1 (ae [0]),.rw 111 1 (List.set (aP [aq 0 l]) (0) [.jk]),.rw 22 1 (ae [l.length]),.bx 124 [.d (.v (.int .u64 0)),.z p.node,.u p.inc,.sl 3 ((procs [p]).length),.sl 4 ((ae [0]).length),.sl 5 ((aP [aq 0 l]).length),.sl 6 ((ae [l.length]).length)],.rw 113 2 (bJ (aq 0 l))]) tk tq hK [(1,[(1,.aL (.ag [.v (.int .u64 0),.z p.node,.u p.inc,.em 24 2 (procs [p]),.em 22 1 (ae [0]),.em 111 1 (aP [aq 0 l]),.em 22 1 (ae [l.length])]))]),(2,[(5,.call [.ag [.d (.v (.int .u64 0)),.z p.node,.u p.inc,.d (.ro 2 (procs [p])),.d (.ro 1 (ae [0]))],.ag [.z p.node,.u p.inc]] (.tu [.n 0,.v (.bool true)]))]),(3,[(5,.b false),(10,.b false),(15,.z (((b.length:Nat):Int))),(16,.b false)]),(5,[(4,.n (0)),(6,.ix 0 [.em 113 2 (bJ (aq 0 l))])])] 13 [0,1,2,3,4,5,6,7,8] [3,4,5,6,7,9] r (by kernel_rfl) (U fZ (U (Q3 p) (U pj (U (aO (.v (.int .u64 0))) (U (aO (.z p.node)) (U (aO (.u p.inc)) (U (b5 (2)) (U (b5 ((procs [p]).length)) (U xV (U (b5 (1)) (U (b5 ((ae [0]).length)) (U xW (U (aO (.z p.node)) (U (aO (.u p.inc)) (U h0 (U h1 (U Vq (U h2 (U (aS ((0:Nat):Int)) (U ((by first | omega | decide | (simp;done) | (simp;omega)):(0)<((aP [aq 0 l]).length)) (U ((by first | rfl | omega | (simp;done) | (simp [bJ,dj];done) | (simp [bJ,dj]<;>omega)):((aP [aq 0 l]).length)≤(aP [aq 0 l]).length) (U (rfl:(aP [aq 0 l])[0]?=some [.em 113 2 (bJ (aq 0 l))]) trivial)))))))))))))))))))))) fun ac wd r=>?_
    have r:=r.freeze (M1:=[.bx 37 [.d (.v (.int .u64 0)),.z p.node,.u p.inc,.d (.ro 2 (procs [p])),.d (.ro 1 (ae [0])),.d (.ro 1 (streams [aq 0 l])),.d (.ro 1 (ae [l.length]))],.bx 94 [.z p.node,.u p.inc,.u ((l.length+1)),.d (.ro 1 (al b))],.bx 37 [.d (.v (.int .u64 0)),.z 0,.d (.v (.int .u64 0)),.d (.v (.slice none 0 0)),.d (.v (.slice none 0 0)),.d (.v (.slice none 0 0)),.d (.v (.slice none 0 0))],.rw 24 2 (procs [p]),.rw 22 1 (ae [0]),.rw 111 1 (List.set (aP [aq 0 l]) (0) [.jk]),.rw 22 1 (ae [l.length]),.bx 124 [.d (.v (.int .u64 0)),.z p.node,.u p.inc,.sl 3 ((procs [p]).length),.sl 4 ((ae [0]).length),.sl 5 ((aP [aq 0 l]).length),.sl 6 ((ae [l.length]).length)],.rw 113 2 (bM (bJ (aq 0 l)))]) (M2:=[.bx 37 [.d (.v (.int .u64 0)),.z p.node,.u p.inc,.d (.ro 2 (procs [p])),.d (.ro 1 (ae [0])),.d (.ro 1 (streams [aq 0 l])),.d (.ro 1 (ae [l.length]))],.bx 94 [.z p.node,.u p.inc,.u ((l.length+1)),.d (.ro 1 (al b))],.bx 37 [.d (.v (.int .u64 0)),.z 0,.d (.v (.int .u64 0)),.d (.v (.slice none 0 0)),.d (.v (.slice none 0 0)),.d (.v (.slice none 0 0)),.d (.v (.slice none 0 0))],.rw 24 2 (procs [p]),.rw 22 1 (ae [0]),.rw 111 1 (List.set (aP [aq 0 l]) (0) [.jk]),.rw 22 1 (ae [l.length]),.bx 124 [.d (.v (.int .u64 0)),.z p.node,.u p.inc,.sl 3 ((procs [p]).length),.sl 4 ((ae [0]).length),.sl 5 ((aP [aq 0 l]).length),.sl 6 ((ae [l.length]).length)],.rw 113 2 (aQ (aq 0 l))]) [8] (by kernel_rfl) (by rw [Lm])
    have Wb:=((by first | rfl | omega | (simp;done) | (simp [bJ,dj];done) | (simp [bJ,dj]<;>omega)):((bJ (aq 0 l)).length)=(aQ (aq 0 l)).length)
    have Wc:=((by first | exact po _ | exact pq _ | (simp [b7,bc,au.row];done)):bM (aQ (aq 0 l))=aQ (aq 0 l))
    have Wd:=(rfl:[.z p.node,.u p.inc,.u ((l.length+1)),.d (.ro 1 (al b))]=List.map AV.d [.z p.node,.u p.inc,.u ((l.length+1)),.ro 1 (al b)])
    have We:=((by simp [al,bJ,dj]):(((bJ (aq 0 l)).length:Nat):Int)=((l.length:Nat):Int))
    have Wf:=((by simp):(decide ((((l.length:Nat):Int):Int)<((l.length:Nat):Int)))=false)
    cases h3:(decide ((((l.length:Nat):Int):Int)<(((bJ (aq 0 l)).length:Nat):Int))) with
    | false=>
     have fY:=of_decide_eq_false h3
     have na:=(Qd (p:=p) (b:=b) hl)
     have nc:=((by first | exact lH _ | exact da.two _ _):da (.n l.length))
     have kM:=((by first | rfl | omega | (simp;done) | (simp [bJ,dj];done) | (simp [bJ,dj]<;>omega)):((bJ (aq 0 l)).length)=(aQ (aq 0 l)).length)
     have ng:=((by first | exact po _ | exact pq _ | (simp [b7,bc,au.row];done)):bM (aQ (aq 0 l))=aQ (aq 0 l))
     have nh:=(rfl:[.z p.node,.u p.inc,.u ((l.length+1)),.d (.ro 1 (al b))]=List.map AV.d [.z p.node,.u p.inc,.u ((l.length+1)),.ro 1 (al b)])
     have lR:=((by simp [al,bJ,dj]):(((bJ (aq 0 l)).length:Nat):Int)=((l.length:Nat):Int))
     have To:=((by simp):(decide ((((l.length:Nat):Int):Int)<((l.length:Nat):Int)))=false)
     have Tp:=(uB b (by omega))
     have Tq:=(b5 ((al b).length))
     have Ts:=((by omega):(((l.length:Nat):Int):Int)=(((bJ (aq 0 l)).length:Nat):Int))
     have Sb:=((by simp):((((l.length:Nat):Int):Int)==((l.length:Nat):Int))=true)
     have Sc:=((by first | rfl | omega | (simp;done) | (simp [bJ,dj];done) | (simp [bJ,dj]<;>omega)):(1)=([[.u ((l.length+1)),.em 5 1 (al b)]]:List (List DV)).length)
     have Sd:=((by first | omega | (simp [cR];done) | (simp [cR];omega)):(2*(((bJ (aq 0 l)).length)+(1))+192)*32≤281474976710656)
     have Se:=((by first | omega | (simp [cR];done) | (simp [cR];omega)):((bJ (aq 0 l)).length)+(1)<4611686018427387904)
     have Sf:=((by simp [bX,AV.one,cA,al]):bX ([[.u ((l.length+1)),.em 5 1 (al b)]]))
     have Sg:=((by first | omega | decide | (simp;done) | (simp;omega)):(0)<((aP [aq 0 l]).length))
     have Sh:=((by first | rfl | omega | (simp;done) | (simp [bJ,dj];done) | (simp [bJ,dj]<;>omega)):((aP [aq 0 l]).length)≤(List.set (aP [aq 0 l]) (0) [.jk]:List (List DV)).length)
     have Si:=(rfl:(List.set (aP [aq 0 l]) (0) [.jk])[0]?=some [.jk])
     have Sj:=((by first | rfl | omega | (simp;done) | (simp [bJ,dj];done) | (simp [bJ,dj]<;>omega)):((bJ (aq 0 l)).length+(1))=(aQ (aq 0 l)++[[.u ((l.length+1)),.em 5 1 (al b)]]:List (List DV)).length)
     refine lu (todo':=aft Tryz.f40 9) (E':=[(4,.pt 2 0),(5,.d (.v (.bool false))),(6,.pt 7 0)]) (M':=[.bx 37 [.d (.v (.int .u64 0)),.z p.node,.u p.inc,.d (.ro 2 (procs [p])),.d (.ro 1 (ae [0])),.d (.ro 1 (streams [aq 0 l])),.d (.ro 1 (ae [l.length]))],.bx 94 [.z p.node,.u p.inc,.u ((l.length+1)),.d (.ro 1 (al b))],.bx 37 [.d (.v (.int .u64 0)),.z 0,.d (.v (.int .u64 0)),.d (.v (.slice none 0 0)),.d (.v (.slice none 0 0)),.d (.v (.slice none 0 0)),.d (.v (.slice none 0 0))],.rw 24 2 (procs [p]),.rw 22 1 (ae [0]),.rw 111 1 (List.set (List.set (aP [aq 0 l]) (0) [.jk]) (0) [.em 113 2 (aQ (aq 0 l)++[[.u ((l.length+1)),.em 5 1 (al b)]])]),.rw 22 1 (ae [l.length]),.bx 124 [.d (.v (.int .u64 0)),.z p.node,.u p.inc,.sl 3 ((procs [p]).length),.sl 4 ((ae [0]).length),.sl 5 ((aP [aq 0 l]).length),.sl 6 ((ae [l.length]).length)],.dead,.dead,.dead]) tk tq hK [(6,[(2,.call [.d (.ro 2 (aQ (aq 0 l))),.fn 66 [.rp [.z p.node,.u p.inc,.u ((l.length+1)),.ro 1 (al b)] 0]] (.n l.length))]),(7,[(2,.z (((l.length:Nat):Int))),(3,.b false)]),(9,[(10,.aL (.em 5 1 (al b))),(13,.b9 200 [(1,[(2,.res (.ro 2 []))]),(5,[(1,.z (((l.length:Nat):Int)))]),(6,[(2,.b true)])]),(14,.n (0)),(16,.ix 0 [.jk])])] 8 1 [14] [[0,1,2,3,4,5,6,7,8,9,10]] [4,5,6] r (by kernel_rfl) (U (U na (U nc (U (b5 (2)) (U kM (U ng (U (Uz (66)) (U (b5 (0)) (U nh (U lR (U To (U Tp (U Tq (U Ts (U kM (U lR (U Sb (U kM (U Sc (U Sd (U Se (U Sf (U (aS ((0:Nat):Int)) (U Sg (U Sh (U Si (U Sj trivial)))))))))))))))))))))))))) trivial) fun ac wd r=>?_
     refine mZ (todo':=aft Tryz.f40 10) (E':=[(4,.pt 2 0),(5,.d (.v (.bool true)))]) (M':=[.bx 37 [.d (.v (.int .u64 0)),.z p.node,.u p.inc,.d (.ro 2 (procs [p])),.d (.ro 1 (ae [0])),.d (.ro 1 (streams [aq 0 l])),.d (.ro 1 (ae [l.length]))],.bx 94 [.z p.node,.u p.inc,.u ((l.length+1)),.d (.ro 1 (al b))],.bx 37 [.d (.v (.int .u64 0)),.z p.node,.u p.inc,.sl 3 ((procs [p]).length),.sl 4 ((ae [0]).length),.sl 5 ((aP [aq 0 l]).length),.sl 6 ((ae [l.length]).length)],.rw 24 2 (procs [p]),.rw 22 1 (ae [0]),.rw 111 1 (List.set (List.set (aP [aq 0 l]) (0) [.jk]) (0) [.em 113 2 (aQ (aq 0 l)++[[.u ((l.length+1)),.em 5 1 (al b)]])]),.rw 22 1 (ae [l.length]),.bx 124 [.d (.v (.int .u64 0)),.z p.node,.u p.inc,.sl 3 ((procs [p]).length),.sl 4 ((ae [0]).length),.sl 5 ((aP [aq 0 l]).length),.sl 6 ((ae [l.length]).length)],.dead,.dead,.dead]) tk tq hK [] 2 [0,1,2,3,4,5,6,7,8,9,10] [4,5] r (by kernel_rfl) trivial fun ac wd r=>?_
     have r:=r.freeze (M1:=[.bx 37 [.d (.v (.int .u64 0)),.z p.node,.u p.inc,.d (.ro 2 (procs [p])),.d (.ro 1 (ae [0])),.d (.ro 1 (streams [aq 0 l])),.d (.ro 1 (ae [l.length]))],.bx 94 [.z p.node,.u p.inc,.u ((l.length+1)),.d (.ro 1 (al b))],.bx 37 [.d (.v (.int .u64 0)),.z p.node,.u p.inc,.sl 3 ((procs [p]).length),.sl 4 ((ae [0]).length),.sl 5 ((aP [aq 0 l]).length),.sl 6 ((ae [l.length]).length)],.rw 24 2 (procs [p]),.rw 22 1 (ae [0]),.rw 111 1 (bM (List.set (List.set (aP [aq 0 l]) (0) [.jk]) (0) [.em 113 2 (aQ (aq 0 l)++[[.u ((l.length+1)),.em 5 1 (al b)]])])),.rw 22 1 (ae [l.length]),.bx 124 [.d (.v (.int .u64 0)),.z p.node,.u p.inc,.sl 3 ((procs [p]).length),.sl 4 ((ae [0]).length),.sl 5 ((aP [aq 0 l]).length),.sl 6 ((ae [l.length]).length)],.dead,.dead,.dead]) (M2:=[.bx 37 [.d (.v (.int .u64 0)),.z p.node,.u p.inc,.d (.ro 2 (procs [p])),.d (.ro 1 (ae [0])),.d (.ro 1 (streams [aq 0 l])),.d (.ro 1 (ae [l.length]))],.bx 94 [.z p.node,.u p.inc,.u ((l.length+1)),.d (.ro 1 (al b))],.bx 37 [.d (.v (.int .u64 0)),.z p.node,.u p.inc,.sl 3 ((procs [p]).length),.sl 4 ((ae [0]).length),.sl 5 ((aP [aq 0 l]).length),.sl 6 ((ae [l.length]).length)],.rw 24 2 (procs [p]),.rw 22 1 (ae [0]),.rw 111 1 (streams [aq 0 (l++[b])]),.rw 22 1 (ae [l.length]),.bx 124 [.d (.v (.int .u64 0)),.z p.node,.u p.inc,.sl 3 ((procs [p]).length),.sl 4 ((ae [0]).length),.sl 5 ((aP [aq 0 l]).length),.sl 6 ((ae [l.length]).length)],.dead,.dead,.dead]) [5] (by kernel_rfl) (by rw [MU (Na l b)];rfl)
     rw [show (.tu [.ag [.v (.int .u64 0),.z p.node,.u p.inc,.em 24 2 (procs [p]),.em 22 1 (ae [0]),.em 111 1 (streams [aq 0 (l++[b])]),.em 22 1 (ae [l.length])],.v (.bool true)]:DV)=.tu [.ag [.v (.int .u64 0),.z p.node,.u p.inc,.em 24 2 (procs [p]),.em 22 1 (ae [0]),.em 111 1 (streams [aq 0 (l++[b])]),.em 22 1 (ae [l.length])],.v (.bool true)] from rfl]
     exact aM tk tq hK rfl [] 2000 r (by kernel_rfl) (U (b5 ((procs [p]).length)) (U (b5 ((ae [0]).length)) (U ((by first | rfl | omega | (simp;done) | (simp [bJ,dj];done) | (simp [bJ,dj]<;>omega)):((aP [aq 0 l]).length)=(streams [aq 0 (l++[b])]:List (List DV)).length) (U (b5 ((ae [l.length]).length)) trivial))))
    | true=>
     have fY:=of_decide_eq_true h3
     exact absurd fY (by first | omega | simp [bJ,dj])
   | true=>
    have dg:=of_decide_eq_true h2
    exact absurd dg (by first | omega | simp [bJ,dj])
  | true=>
   have b6:=of_decide_eq_true h1
   exact absurd b6 (by first | omega | simp [bJ,dj])
 | true=>
  have bq:=of_decide_eq_true h0
  exact absurd bq (by first | omega | simp [bJ,dj])
end Go.Proofs.YtgkdnnmcjjabdaaGreat
namespace Go.Proofs.YtgkdnnmcjjabdaaGreat
open Go.RowKit
theorem aj.bc {P:Program} {f:FuncId} {args:List AV} {x:DV} (h:aj P f args x):aj P f args (bc x):=by
 refine ⟨h.1,fun w K ys hK hl hr=>(h.2 w K ys hK hl hr).mono ?_⟩
 rintro ed w' ⟨v,rfl,g,H,⟨Ho,Hi,rfl,hd⟩,n⟩
 exact ⟨_,rfl,g,_,⟨[],Ho++Hi,rfl,vq hd fun w hw=>⟨⟨hw.1,(ai.app.1 hw.2).2⟩,(ai.app.1 hw.2).1⟩⟩,n⟩
theorem aj.sub {P:Program} {f:FuncId} {args wI:List AV} {x:DV} (h:aj P f args x) (hl:wI.length=args.length) (e:∀ (K:World→Prop) (j:Nat) c c' y,args[j]?=some c→wI[j]?=some c'→ao K [] c' y→ao K [] c y):aj P f wI x:=by
 refine ⟨h.1,fun w K ys hK hy hr=>h.2 w K ys hK (by omega) fun j c y h1 h2=>?_⟩
 have hj:j<wI.length:=by rw [hl];exact (List.getElem?_eq_some_iff.1 h1).1
 have e1:=List.getElem?_eq_getElem hj
 exact e _ j c _ y h1 e1 (hr j _ y e1 h2)
theorem ao.le {K:World→Prop} {x x':DV} {y:Value} (e:Le x x') (h:ao K [] (.d x) y):ao K [] (.d x') y:=by
 cases h with | d h=>exact .d (e _ _ _ h)
theorem kW (l:List au):bM (procs l)=procs l:=by simp [b7,bc,au.row]
theorem kh (l:List Nat):bM (ae l)=ae l:=by simp [b7,bc]
theorem yc (l:List UInt8):bM (al l)=al l:=by simp [b7,bc,al]
theorem mq (l:List (List Slot)):bM (streams l)=streams l:=by simp [b7,bc]
theorem EP (l:List fK):bM (dD l)=msgs l:=by
 unfold dD msgs;rw [b7,List.map_map];apply List.map_congr_left;intro m _;simp [bc,yc,fK.row]
theorem Sk (p:au) (l:List (List UInt8)) (b:List UInt8) (hp:p.may=true) (hl:eN l) (kV:l.length<16) (hb:b.length≤64):aj Tryz.prog 40 [.ag [.d (.v (.int .u64 0)),.z p.node,.u p.inc,.d (.ro 2 (procs [p])),.d (.ro 1 (ae [0])),.d (.ro 1 (streams [aq 0 l])),.d (.ro 1 (ae [l.length]))],.ag [.z p.node,.u p.inc,.u ((l.length+1)),.d (.ro 1 (al b))]] (.tu [.ag [.v (.int .u64 0),.z p.node,.u p.inc,.ro 2 (procs [p]),.ro 1 (ae [0]),.ro 1 (streams [aq 0 (l++[b])]),.ro 1 (ae [l.length])],.v (.bool true)]):=by
 have h:=(Sa p l b hp hl kV hb).bc
 simp only [bc,hC,kW,kh,mq] at h
 exact h
theorem Sm (p:au) (l:List (List UInt8)) (b:List UInt8) (hp:p.may=true) (hl:eN (l++[b])):aj Tryz.prog 44 [.ag [.d (.v (.int .u64 0)),.z p.node,.u p.inc,.d (.ro 2 (procs [p])),.d (.ro 1 (ae [0])),.d (.ro 1 (streams [aq 0 (l++[b])])),.d (.ro 1 (ae [l.length]))],.d (.v (.slice none 0 0))] (.tu [.ag [.v (.int .u64 0),.z p.node,.u p.inc,.ro 2 (procs [p]),.ro 1 (ae [0]),.ro 1 (streams [aq 0 (l++[b])]),.ro 1 (ae [(l++[b]).length])],.ro 4 (msgs [⟨p,l.length+1,b⟩])]):=by
 have h:=H6 vL (fB p (l++[b]) l.length) [] (uE hl) (by simp)
 rw [PX hp hl (by simp),PY hp hl] at h
 have h:=h.bc
 simp only [bc,hC,kW,kh,mq,EP,aA.half] at h
 have h:aj Tryz.prog 44 [.ag [.d (.v (.int .u64 0)),.z p.node,.u p.inc,.d (.ro 2 (procs [p])),.d (.ro 1 (ae [0])),.d (.ro 1 (streams [aq 0 (l++[b])])),.d (.ro 1 (ae [l.length]))],.d (.ro 1 (ae []))] (.tu [.ag [.v (.int .u64 0),.z p.node,.u p.inc,.ro 2 (procs [p]),.ro 1 (ae [0]),.ro 1 (streams [aq 0 (l++[b])]),.ro 1 (ae [(l++[b]).length])],.ro 4 (msgs [⟨p,l.length+1,b⟩])]):=h
 refine (h.sub rfl fun K j c c' y h1 h2 r=>?_)
 match j with
 | 0=>simp at h1 h2;subst h1 h2;exact r
 | 1=>simp at h1 h2;subst h1 h2;exact ao.le (Le.Bx 1) r
 | j+2=>simp at h1
theorem Sn (p:au) (l:List (List UInt8)) (hp:p.may=true) (hl:eN l):aj Tryz.prog 44 [.ag [.d (.v (.int .u64 0)),.z p.node,.u p.inc,.d (.ro 2 (procs [p])),.d (.ro 1 (ae [0])),.d (.ro 1 (streams [aq 0 l])),.d (.ro 1 (ae [l.length]))],.d (.ro 1 (ae [l.length]))] (.tu [.ag [.v (.int .u64 0),.z p.node,.u p.inc,.ro 2 (procs [p]),.ro 1 (ae [0]),.ro 1 (streams [aq 0 l]),.ro 1 (ae [l.length])],.ro 4 (msgs [])]):=by
 have h:=H6 vL (fB p l l.length) [l.length] (uE hl) (by simp)
 rw [OJ hp hl,PZ hp hl] at h
 have h:=h.bc
 simp only [bc,hC,kW,kh,mq,EP,aA.half] at h
 exact h
theorem Qe (p:au) (l:List (List UInt8)) (hp:p.may=true) (hl:eN l):aj Tryz.prog 45 [.ag [.d (.v (.int .u64 0)),.z p.node,.u p.inc,.d (.ro 2 (procs [p])),.d (.ro 1 (ae [0])),.d (.ro 1 (streams [aq 0 l])),.d (.ro 1 (ae [l.length]))]] (.ro 1 (ae [l.length])):=by
 have h:=OH vL (fB p l l.length) (uE hl)
 rw [MT hp hl] at h
 have h:=h.bc
 simp only [bc,kh] at h
 exact h
theorem we (l:List au) (hb:l.length<2147483648):aj Tryz.prog 27 [.d (.ro 2 (procs l))] (.ro 2 (procs l)):=by have h:=(yr l hb).bc;simp only [bc,kW] at h;exact h
theorem r9 (l:List Nat) (hb:l.length<2147483648):aj Tryz.prog 37 [.d (.ro 1 (ae l))] (.ro 1 (ae l)):=by have h:=(Fw l hb).bc;simp only [bc,kh] at h;exact h
theorem n7 (l:List UInt8) (hb:l.length<2147483648):aj Tryz.prog 18 [.d (.ro 1 (al l))] (.ro 1 (al l)):=by have h:=(uB l hb).bc;simp only [bc,yc] at h;exact h
structure Jt where
 kind:Int
 src:au
 vw:er
 n:Nat
 aF:Nat
 cut:List Nat
set_option maxRecDepth 100000 in
theorem Q4 :aj Tryz.prog 63 [.d (.v (.slice none 0 0))] (.v (.slice none 0 0)):=by
 refine aj.intro (by kernel_rfl) rfl rfl 8 rfl rfl fun w0 K ac hK r=>?_
 exact aM tk tq hK rfl [] 2000 r (by kernel_rfl) trivial
end Go.Proofs.YtgkdnnmcjjabdaaGreat
namespace Go.Proofs.YtgkdnnmcjjabdaaGreat
open Go.RowKit
set_option maxRecDepth 100000 in
theorem Qf (x:Jt) (hb:x.cut.length<2147483648):aj Tryz.prog 22 [.ag [.z x.kind,.z x.src.node,.u x.src.inc,.u x.vw.round,.z x.vw.server.node,.u x.vw.server.inc,.u x.n,.d (.v (.slice none 0 0)),.u x.aF,.d (.ro 1 (ae x.cut)),.d (.v (.bool false))]] (.ag [.z x.kind,.z x.src.node,.u x.src.inc,.u x.vw.round,.z x.vw.server.node,.u x.vw.server.inc,.u x.n,.v (.slice none 0 0),.u x.aF,.ro 1 (ae x.cut),.v (.bool false)]):=by
 refine aj.intro (by kernel_rfl) rfl rfl 12 rfl rfl fun w0 K ac hK r=>?_
 rw [show (.ag [.z x.kind,.z x.src.node,.u x.src.inc,.u x.vw.round,.z x.vw.server.node,.u x.vw.server.inc,.u x.n,.v (.slice none 0 0),.u x.aF,.ro 1 (ae x.cut),.v (.bool false)]:DV)=.ag [.z x.kind,.z x.src.node,.u x.src.inc,.u x.vw.round,.z x.vw.server.node,.u x.vw.server.inc,.u x.n,.v (.slice none 0 0),.u x.aF,.ro 1 (ae x.cut),.v (.bool false)] from rfl]
 exact aM tk tq hK rfl [(1,[(2,.b9 200 [(1,[(1,.aL (.v (.slice none 0 0)))])])]),(2,[(2,.aL (.ro 1 (ae x.cut)))])] 2000 r (by kernel_rfl) (U (xY 0) (U (r9 x.cut (by first | assumption | omega | (simp;done))) trivial))
set_option maxRecDepth 100000 in
theorem OQ :aj Tryz.prog 22 [.ag [.z 0,.z 0,.d (.v (.int .u64 0)),.d (.v (.int .u64 0)),.z 0,.d (.v (.int .u64 0)),.d (.v (.int .u64 0)),.d (.v (.slice none 0 0)),.d (.v (.int .u64 0)),.d (.ro 1 ([])),.d (.v (.bool false))]] (.ag [.z 0,.z 0,.v (.int .u64 0),.v (.int .u64 0),.z 0,.v (.int .u64 0),.v (.int .u64 0),.v (.slice none 0 0),.v (.int .u64 0),.ro 1 ([]),.v (.bool false)]):=by
 refine aj.intro (by kernel_rfl) rfl rfl 12 rfl rfl fun w0 K ac hK r=>?_
 rw [show (.ag [.z 0,.z 0,.v (.int .u64 0),.v (.int .u64 0),.z 0,.v (.int .u64 0),.v (.int .u64 0),.v (.slice none 0 0),.v (.int .u64 0),.ro 1 ([]),.v (.bool false)]:DV)=.ag [.z 0,.z 0,.v (.int .u64 0),.v (.int .u64 0),.z 0,.v (.int .u64 0),.v (.int .u64 0),.v (.slice none 0 0),.v (.int .u64 0),.ro 1 ([]),.v (.bool false)] from rfl]
 exact aM tk tq hK rfl [(1,[(2,.b9 200 [(1,[(1,.aL (.v (.slice none 0 0)))])])]),(2,[(2,.aL (.ro 1 ([])))])] 2000 r (by kernel_rfl) (U (xY 0) (U (r9 [] (by simp)) trivial))
set_option maxRecDepth 100000 in
theorem GD :aj Tryz.prog 39 [.d (.v (.slice none 0 0))] (.v (.slice none 0 0)):=by
 refine aj.intro (by kernel_rfl) rfl rfl 21 rfl rfl fun w0 K ac hK r=>?_
 refine bI (todo':=hd Tryz.f39 0) (E':=[(0,.d (.v (.slice none 0 0))),(7,.d (.v (.slice none 0 0))),(8,.z 0),(9,.z 0)]) (M':=[]) tk tq hK [(1,[(1,.aL (.v (.slice none 0 0)))])] 2000 [] [0,7,8,9] r (by kernel_rfl) (U (Q4) trivial) fun ac wd r=>?_
 refine aJ.rounds (Φ:=fun (i:Nat) ac wd=>(True)∧dH [] w0 K 21 [(0,.d (.v (.slice none 0 0))),(7,.d (.v (.slice none 0 0))),(8,.z 0),(9,.z 0)] [] ac wd) (0) ?_ (Nat.zero_le _) ⟨trivial,r⟩
 clear r
 rintro i fI cX ac wd ⟨bh,r⟩
 rw [show (.v (.slice none 0 0):DV)=.v (.slice none 0 0) from rfl]
 exact aM tk tq hK rfl [] 2000 r (by kernel_rfl) trivial
set_option maxRecDepth 100000 in
theorem Q5 (v:View) (h1:v.members.length<2147483648) (h2:v.ay.length<2147483648):aj Tryz.prog 36 [.ag [.u v.id.round,.z v.id.server.node,.u v.id.server.inc,.d (.ro 2 (procs v.members)),.d (.ro 1 (ae v.ay))]] (.ag [.u v.id.round,.z v.id.server.node,.u v.id.server.inc,.ro 2 (procs v.members),.ro 1 (ae v.ay)]):=by
 refine aj.intro (by kernel_rfl) rfl rfl 12 rfl rfl fun w0 K ac hK r=>?_
 rw [show (.ag [.u v.id.round,.z v.id.server.node,.u v.id.server.inc,.ro 2 (procs v.members),.ro 1 (ae v.ay)]:DV)=.ag [.u v.id.round,.z v.id.server.node,.u v.id.server.inc,.ro 2 (procs v.members),.ro 1 (ae v.ay)] from rfl]
 exact aM tk tq hK rfl [(1,[(2,.aL (.ro 2 (procs v.members)))]),(2,[(2,.aL (.ro 1 (ae v.ay)))])] 2000 r (by kernel_rfl) (U (we v.members (by first | assumption | omega | (simp;done))) (U (r9 v.ay (by first | assumption | omega | (simp;done))) trivial))
set_option maxRecDepth 100000 in
theorem Qg :aj Tryz.prog 36 [.ag [.d (.v (.int .u64 0)),.z 0,.d (.v (.int .u64 0)),.d (.ro 2 ([])),.d (.ro 1 ([]))]] (.ag [.v (.int .u64 0),.z 0,.v (.int .u64 0),.ro 2 ([]),.ro 1 ([])]):=by
 refine aj.intro (by kernel_rfl) rfl rfl 12 rfl rfl fun w0 K ac hK r=>?_
 rw [show (.ag [.v (.int .u64 0),.z 0,.v (.int .u64 0),.ro 2 ([]),.ro 1 ([])]:DV)=.ag [.v (.int .u64 0),.z 0,.v (.int .u64 0),.ro 2 ([]),.ro 1 ([])] from rfl]
 exact aM tk tq hK rfl [(1,[(2,.aL (.ro 2 ([])))]),(2,[(2,.aL (.ro 1 ([])))])] 2000 r (by kernel_rfl) (U (we [] (by simp)) (U (r9 [] (by simp)) trivial))
set_option maxRecDepth 100000 in
theorem KO (l:List Slot) (h0:0<l.length) (hb:l.length<1000000):aj Tryz.prog 62 [.d (.ro 2 (aQ l))] (DV.em 113 2 (aQ l)):=by
 refine aj.intro (by kernel_rfl) rfl rfl 8 rfl rfl fun w0 K ac hK r=>?_
 rw [show (DV.em 113 2 (aQ l):DV)=.em 113 2 ([]++(aQ l)) from rfl]
 exact aM tk tq hK rfl [] 2000 r (by kernel_rfl) (U ((by simpa using h0):0<(aQ l).length) (U ((by simp):(0)=([]:List (List DV)).length) (U ((by simp;omega):(2*((0)+(aQ l).length)+192)*32≤281474976710656) (U ((by simp;omega):(0)+(aQ l).length<4611686018427387904) (U ((by simp [bX,AV.one,cA,Slot.row]):bX (aQ l)) (U ((by simp):(0+(aQ l).length)=([]++(aQ l):List (List DV)).length) trivial))))))
set_option maxRecDepth 100000 in
theorem KP (c:Nat):aj Tryz.prog 62 [.d (.v (.slice none 0 c))] (DV.v (.slice none 0 0)):=by
 refine aj.intro (by kernel_rfl) rfl rfl 8 rfl rfl fun w0 K ac hK r=>?_
 exact aM tk tq hK rfl [] 2000 r (by kernel_rfl) trivial
set_option maxRecDepth 100000 in
theorem KZ (a:Addr) (c:Nat):aj Tryz.prog 62 [.d (.v (.slice (some a) 0 c))] (DV.em 113 2 ([]++[])):=by
 refine aj.intro (by kernel_rfl) rfl rfl 8 rfl rfl fun w0 K ac hK r=>?_
 exact aM tk tq hK rfl [] 2000 r (by kernel_rfl) (U ((by simp):(0)=([]:List (List DV)).length) (U ((by simp):(2*((0)+0)+192)*32≤281474976710656) (U ((by simp):(0)+0<4611686018427387904) (U ((by simp [bX]):bX (([]:List (List DV)))) (U ((by simp):(0+0)=([]++([]:List (List DV)):List (List DV)).length) trivial)))))
theorem LX (l:List Slot) (hb:l.length<1000000):aj Tryz.prog 62 [.d (.ro 2 (aQ l))] (.em 113 2 (aQ l)):=by
 cases l with
 | nil=>
  refine aj.empty (pre:=[]) (post:=[]) fun a c=>?_
  cases a with
  | none=>exact aj.nil 113 2 (KP c)
  | some a=>exact KZ a c
 | cons b l=>exact KO (b::l) (by simp) hb
set_option maxRecDepth 100000 in
theorem KQ (l:List (List Slot)) (h0:0<l.length) (hb:l.length<1000000):aj Tryz.prog 61 [.d (.ro 1 (streams l))] (DV.em 111 1 (streams l)):=by
 refine aj.intro (by kernel_rfl) rfl rfl 8 rfl rfl fun w0 K ac hK r=>?_
 rw [show (DV.em 111 1 (streams l):DV)=.em 111 1 ([]++(streams l)) from rfl]
 exact aM tk tq hK rfl [] 2000 r (by kernel_rfl) (U ((by simpa using h0):0<(streams l).length) (U ((by simp):(0)=([]:List (List DV)).length) (U ((by simp;omega):(2*((0)+(streams l).length)+192)*24≤281474976710656) (U ((by simp;omega):(0)+(streams l).length<4611686018427387904) (U ((by simp [bX,AV.one,cA,Slot.row]):bX (streams l)) (U ((by simp):(0+(streams l).length)=([]++(streams l):List (List DV)).length) trivial))))))
set_option maxRecDepth 100000 in
theorem KR (c:Nat):aj Tryz.prog 61 [.d (.v (.slice none 0 c))] (DV.v (.slice none 0 0)):=by
 refine aj.intro (by kernel_rfl) rfl rfl 8 rfl rfl fun w0 K ac hK r=>?_
 exact aM tk tq hK rfl [] 2000 r (by kernel_rfl) trivial
set_option maxRecDepth 100000 in
theorem K1 (a:Addr) (c:Nat):aj Tryz.prog 61 [.d (.v (.slice (some a) 0 c))] (DV.em 111 1 ([]++[])):=by
 refine aj.intro (by kernel_rfl) rfl rfl 8 rfl rfl fun w0 K ac hK r=>?_
 exact aM tk tq hK rfl [] 2000 r (by kernel_rfl) (U ((by simp):(0)=([]:List (List DV)).length) (U ((by simp):(2*((0)+0)+192)*24≤281474976710656) (U ((by simp):(0)+0<4611686018427387904) (U ((by simp [bX]):bX (([]:List (List DV)))) (U ((by simp):(0+0)=([]++([]:List (List DV)):List (List DV)).length) trivial)))))
theorem LY (l:List (List Slot)) (hb:l.length<1000000):aj Tryz.prog 61 [.d (.ro 1 (streams l))] (.em 111 1 (streams l)):=by
 cases l with
 | nil=>
  refine aj.empty (pre:=[]) (post:=[]) fun a c=>?_
  cases a with
  | none=>exact aj.nil 111 1 (KR c)
  | some a=>exact K1 a c
 | cons b l=>exact KQ (b::l) (by simp) hb
theorem GF {α:Type} {l:List α} {i:Nat} {a:α} (h:l[i]?=some a):l.set i a=l:=by
 apply List.ext_getElem?;intro k
 rw [List.getElem?_set];split
 ·rename_i e;subst e;rw [if_pos (List.getElem?_eq_some_iff.1 h).1];exact h.symm
 ·rfl
theorem Nb {L:List (List Slot)} {i:Nat} {s:List Slot} (h:L[i]?=some s):bM ((streams L).set i [.em 113 2 (aQ s)])=streams L:=by
 rw [b7,List.map_set,← b7,mq,show List.map bc [DV.em 113 2 (aQ s)]=[.ro 2 (aQ s)] by simp [bc,po]]
 exact GF (mw h)
def aA.short (f:aA):Prop:=f.view.members.length<1000∧f.view.ay.length<1000∧f.streams.length<1000∧f.aC.length<1000∧∀ l ∈ f.streams,l.length<1000∧∀ x ∈ l,x.body.length<1000
set_option maxRecDepth 100000 in
theorem Qh (f:aA) (hb:f.short):aj Tryz.prog 38 [.ag [.u f.view.id.round,.z f.view.id.server.node,.u f.view.id.server.inc,.d (.ro 2 (procs f.view.members)),.d (.ro 1 (ae f.view.ay)),.d (.ro 1 (streams f.streams)),.d (.ro 1 (ae f.aC))]] (.ag [.u f.view.id.round,.z f.view.id.server.node,.u f.view.id.server.inc,.ro 2 (procs f.view.members),.ro 1 (ae f.view.ay),.em 111 1 (streams f.streams),.ro 1 (ae f.aC)]):=by
 obtain ⟨h1,h2,h3,h4,h5⟩:=hb
 refine aj.intro (by kernel_rfl) rfl rfl 55 rfl rfl fun w0 K ac hK r=>?_
 refine bI (todo':=hd Tryz.f38 0) (E':=[(1,.pt 0 0),(2,.pt 1 0),(20,.sl 2 ((streams f.streams).length)),(21,.n f.streams.length),(22,.n 0)]) (M':=[.bx 37 [.u f.view.id.round,.z f.view.id.server.node,.u f.view.id.server.inc,.d (.ro 2 (procs f.view.members)),.d (.ro 1 (ae f.view.ay)),.sl 2 ((streams f.streams).length),.d (.ro 1 (ae f.aC))],.bx 37 [.d (.v (.int .u64 0)),.z 0,.d (.v (.int .u64 0)),.d (.v (.slice none 0 0)),.d (.v (.slice none 0 0)),.d (.v (.slice none 0 0)),.d (.v (.slice none 0 0))],.rw 111 1 (streams f.streams)]) tk tq hK [(1,[(2,.aL (.ag [.u f.view.id.round,.z f.view.id.server.node,.u f.view.id.server.inc,.ro 2 (procs f.view.members),.ro 1 (ae f.view.ay)]))]),(2,[(2,.aL (.ro 1 (ae f.aC)))]),(3,[(2,.aL (.em 111 1 (streams f.streams)))]),(4,[(2,.z (((f.streams.length:Nat):Int)))])] 2000 [0,1,2] [1,2,20,21,22] r (by kernel_rfl) (U (Q5 f.view (by omega) (by omega)) (U (r9 f.aC (by first | assumption | omega | (simp;done))) (U (LY f.streams (by omega)) (U ((by simp [al]):(((streams f.streams).length:Nat):Int)=((f.streams.length:Nat):Int)) trivial)))) fun ac wd r=>?_
 refine aJ.rounds (Φ:=fun (i:Nat) ac wd=>(i≤f.streams.length)∧dH [] w0 K 55 [(1,.pt 0 0),(2,.pt 1 0),(20,.sl 2 ((streams f.streams).length)),(21,.n f.streams.length),(22,.n i)] [.bx 37 [.u f.view.id.round,.z f.view.id.server.node,.u f.view.id.server.inc,.d (.ro 2 (procs f.view.members)),.d (.ro 1 (ae f.view.ay)),.sl 2 ((streams f.streams).length),.d (.ro 1 (ae f.aC))],.bx 37 [.d (.v (.int .u64 0)),.z 0,.d (.v (.int .u64 0)),.d (.v (.slice none 0 0)),.d (.v (.slice none 0 0)),.d (.v (.slice none 0 0)),.d (.v (.slice none 0 0))],.rw 111 1 (streams f.streams)] ac wd) (f.streams.length) ?_ (Nat.zero_le _) ⟨(Nat.zero_le _),r⟩
 clear r
 rintro i fI cX ac wd ⟨bh,r⟩
 cases h0:(decide ((((i:Nat):Int):Int)<((f.streams.length:Nat):Int))) with
 | false=>
  have bq:=of_decide_eq_false h0
  rw [show (.ag [.u f.view.id.round,.z f.view.id.server.node,.u f.view.id.server.inc,.ro 2 (procs f.view.members),.ro 1 (ae f.view.ay),.em 111 1 (streams f.streams),.ro 1 (ae f.aC)]:DV)=.ag [.u f.view.id.round,.z f.view.id.server.node,.u f.view.id.server.inc,.ro 2 (procs f.view.members),.ro 1 (ae f.view.ay),.em 111 1 (streams f.streams),.ro 1 (ae f.aC)] from rfl]
  exact aM tk tq hK rfl [(5,[(0,.b false)])] 2000 r (by kernel_rfl) (U h0 (U (b5 ((streams f.streams).length)) trivial))
 | true=>
  have bq:=of_decide_eq_true h0
  obtain ⟨aV,cI⟩:∃ x,f.streams[i]?=some x:=⟨_,List.getElem?_eq_getElem (by omega)⟩
  obtain ⟨h6,h7⟩:=h5 _ (List.mem_of_getElem? cI)
  refine bI (todo':=hd Tryz.f38 1) (E':=[(1,.pt 0 0),(2,.pt 1 0),(20,.sl 2 ((streams f.streams).length)),(21,.n f.streams.length),(22,.n i),(3,.n i),(4,.pt 3 0),(32,.sl 4 ((aQ aV).length)),(33,.n aV.length),(34,.z 0)]) (M':=[.bx 37 [.u f.view.id.round,.z f.view.id.server.node,.u f.view.id.server.inc,.d (.ro 2 (procs f.view.members)),.d (.ro 1 (ae f.view.ay)),.sl 2 ((streams f.streams).length),.d (.ro 1 (ae f.aC))],.bx 37 [.d (.v (.int .u64 0)),.z 0,.d (.v (.int .u64 0)),.d (.v (.slice none 0 0)),.d (.v (.slice none 0 0)),.d (.v (.slice none 0 0)),.d (.v (.slice none 0 0))],.rw 111 1 (streams f.streams),.bx 111 [.sl 4 ((aQ aV).length)],.rw 113 2 (aQ aV)]) tk tq hK [(5,[(0,.b true)]),(6,[(1,.n (i)),(2,.ix 0 [.ro 2 (aQ aV)])]),(7,[(2,.aL (.em 113 2 (aQ aV)))]),(8,[(2,.z (((aV.length:Nat):Int)))])] 2000 [0,1,2,3,4] [1,2,20,21,22,3,4,32,33,34] r (by kernel_rfl) (U h0 (U (aS ((i:Nat):Int)) (U ((by first | omega | decide | (simp;done) | (simp;omega)):(i)<((streams f.streams).length)) (U ((by first | rfl | (simp;done) | (simp<;>omega)):((streams f.streams).length)≤(streams f.streams).length) (U (mw cI) (U (LX aV (by omega)) (U ((by simp [al]):(((aQ aV).length:Nat):Int)=((aV.length:Nat):Int)) trivial))))))) fun ac wd r=>?_
  refine aJ.rounds (Φ:=fun (k:Nat) ac wd=>(k≤aV.length)∧dH [] w0 K 55 [(1,.pt 0 0),(2,.pt 1 0),(20,.sl 2 ((streams f.streams).length)),(21,.n f.streams.length),(22,.n i),(3,.n i),(4,.pt 3 0),(32,.sl 4 ((aQ aV).length)),(33,.n aV.length),(34,.n k)] [.bx 37 [.u f.view.id.round,.z f.view.id.server.node,.u f.view.id.server.inc,.d (.ro 2 (procs f.view.members)),.d (.ro 1 (ae f.view.ay)),.sl 2 ((streams f.streams).length),.d (.ro 1 (ae f.aC))],.bx 37 [.d (.v (.int .u64 0)),.z 0,.d (.v (.int .u64 0)),.d (.v (.slice none 0 0)),.d (.v (.slice none 0 0)),.d (.v (.slice none 0 0)),.d (.v (.slice none 0 0))],.rw 111 1 (streams f.streams),.bx 111 [.sl 4 ((aQ aV).length)],.rw 113 2 (aQ aV)] ac wd) (aV.length) ?_ (Nat.zero_le _) ⟨(Nat.zero_le _),(r).cast (by first | rfl | simp) (by first | rfl | simp)⟩
  clear r
  rintro k gB eW ac wd ⟨cy,r⟩
  cases h1:(decide ((((k:Nat):Int):Int)<((aV.length:Nat):Int))) with
  | false=>
   have b6:=of_decide_eq_false h1
   refine mZ (todo':=aft Tryz.f38 13) (E':=[(1,.pt 0 0),(2,.pt 1 0),(20,.sl 2 ((streams f.streams).length)),(21,.n f.streams.length),(22,.n i),(3,.n i),(4,.pt 3 0),(32,.sl 4 ((aQ aV).length)),(33,.n aV.length),(34,.n k),(35,.d (.v (.bool false))),(48,.pt 0 5),(49,.sl 2 ((streams f.streams).length)),(50,.n i),(51,.ag [.sl 4 ((aQ aV).length)]),(52,.ep 2 1 (i) 0)]) (M':=[.bx 37 [.u f.view.id.round,.z f.view.id.server.node,.u f.view.id.server.inc,.d (.ro 2 (procs f.view.members)),.d (.ro 1 (ae f.view.ay)),.sl 2 ((streams f.streams).length),.d (.ro 1 (ae f.aC))],.bx 37 [.d (.v (.int .u64 0)),.z 0,.d (.v (.int .u64 0)),.d (.v (.slice none 0 0)),.d (.v (.slice none 0 0)),.d (.v (.slice none 0 0)),.d (.v (.slice none 0 0))],.rw 111 1 (List.set (streams f.streams) (i) [.em 113 2 (aQ aV)]),.bx 111 [.sl 4 ((aQ aV).length)],.dead]) tk tq hK [(9,[(0,.b false)]),(13,[(4,.n (i)),(5,.ix 0 [.ro 2 (aQ aV)])])] 6 [0,1,2,3,4] [1,2,20,21,22,3,4,32,33,34,35,48,49,50,51,52] r (by kernel_rfl) (U h1 (U (aS ((i:Nat):Int)) (U ((by first | omega | decide | (simp;done) | (simp;omega)):(i)<((streams f.streams).length)) (U ((by first | rfl | (simp;done) | (simp<;>omega)):((streams f.streams).length)≤(streams f.streams).length) (U (mw cI) (U (b5 ((aQ aV).length)) trivial)))))) fun ac wd r=>?_
   have r:=r.freeze (M1:=[.bx 37 [.u f.view.id.round,.z f.view.id.server.node,.u f.view.id.server.inc,.d (.ro 2 (procs f.view.members)),.d (.ro 1 (ae f.view.ay)),.sl 2 ((streams f.streams).length),.d (.ro 1 (ae f.aC))],.bx 37 [.d (.v (.int .u64 0)),.z 0,.d (.v (.int .u64 0)),.d (.v (.slice none 0 0)),.d (.v (.slice none 0 0)),.d (.v (.slice none 0 0)),.d (.v (.slice none 0 0))],.rw 111 1 (bM (List.set (streams f.streams) (i) [.em 113 2 (aQ aV)])),.bx 111 [.sl 4 ((aQ aV).length)],.dead]) (M2:=[.bx 37 [.u f.view.id.round,.z f.view.id.server.node,.u f.view.id.server.inc,.d (.ro 2 (procs f.view.members)),.d (.ro 1 (ae f.view.ay)),.sl 2 ((streams f.streams).length),.d (.ro 1 (ae f.aC))],.bx 37 [.d (.v (.int .u64 0)),.z 0,.d (.v (.int .u64 0)),.d (.v (.slice none 0 0)),.d (.v (.slice none 0 0)),.d (.v (.slice none 0 0)),.d (.v (.slice none 0 0))],.rw 111 1 (streams f.streams),.bx 111 [.sl 4 ((aQ aV).length)],.dead]) [2] (by kernel_rfl) (by rw [Nb cI])
   exact bI (todo':=hd Tryz.f38 0) tk tq hK [(14,[(0,.z (((i+1:Nat):Int)))])] 2000 [0,1,2] [1,2,20,21,22] r (by kernel_rfl) (U ((wi (by omega)):IntKind.i64.wrap ((((i:Nat):Int):Int)+1)=((i+1:Nat):Int)) trivial) fun ac wd r=>cX (by omega) ac wd ⟨(by omega),r⟩
  | true=>
   have b6:=of_decide_eq_true h1
   obtain ⟨bU,cL⟩:∃ x,aV[k]?=some x:=⟨_,List.getElem?_eq_getElem (by omega)⟩
   have h8:=h7 _ (List.mem_of_getElem? cL)
   exact bI (todo':=hd Tryz.f38 1) (E':=[(1,.pt 0 0),(2,.pt 1 0),(20,.sl 2 ((streams f.streams).length)),(21,.n f.streams.length),(22,.n i),(3,.n i),(4,.pt 3 0),(32,.sl 4 ((aQ aV).length)),(33,.n aV.length),(34,.n (k+1))]) (M':=[.bx 37 [.u f.view.id.round,.z f.view.id.server.node,.u f.view.id.server.inc,.d (.ro 2 (procs f.view.members)),.d (.ro 1 (ae f.view.ay)),.sl 2 ((streams f.streams).length),.d (.ro 1 (ae f.aC))],.bx 37 [.d (.v (.int .u64 0)),.z 0,.d (.v (.int .u64 0)),.d (.v (.slice none 0 0)),.d (.v (.slice none 0 0)),.d (.v (.slice none 0 0)),.d (.v (.slice none 0 0))],.rw 111 1 (streams f.streams),.bx 111 [.sl 4 ((aQ aV).length)],.rw 113 2 (List.set (aQ aV) (k) [.u bU.n,.ro 1 (al bU.body)])]) tk tq hK [(9,[(0,.b true)]),(10,[(1,.n (k)),(2,.ix 0 [.u bU.n,.ro 1 (al bU.body)])]),(11,[(5,.b9 200 [(1,[(1,.aL (.ro 1 (al bU.body)))])]),(6,.n (k)),(8,.ix 0 [.u bU.n,.ro 1 (al bU.body)])]),(12,[(0,.z (((k+1:Nat):Int)))])] 2000 [0,1,2,3,4] [1,2,20,21,22,3,4,32,33,34] r (by kernel_rfl) (U h1 (U (aS ((k:Nat):Int)) (U ((by first | omega | decide | (simp;done) | (simp;omega)):(k)<((aQ aV).length)) (U ((by first | rfl | (simp;done) | (simp<;>omega)):((aQ aV).length)≤(aQ aV).length) (U (ew cL) (U (n7 bU.body (by first | assumption | omega)) (U (aS ((k:Nat):Int)) (U ((by first | omega | decide | (simp;done) | (simp;omega)):(k)<((aQ aV).length)) (U ((by first | rfl | (simp;done) | (simp<;>omega)):((aQ aV).length)≤(aQ aV).length) (U (ew cL) (U ((wi (by omega)):IntKind.i64.wrap ((((k:Nat):Int):Int)+1)=((k+1:Nat):Int)) trivial))))))))))) fun ac wd r=>eW (by omega) ac wd ⟨(by omega),r.cast rfl (by rw [GF (ew cL)])⟩
theorem H9 (f:aA) (hb:f.short):aj Tryz.prog 38 [.ag [.u f.view.id.round,.z f.view.id.server.node,.u f.view.id.server.inc,.d (.ro 2 (procs f.view.members)),.d (.ro 1 (ae f.view.ay)),.d (.ro 1 (streams f.streams)),.d (.ro 1 (ae f.aC))]] (.ag [.u f.view.id.round,.z f.view.id.server.node,.u f.view.id.server.inc,.ro 2 (procs f.view.members),.ro 1 (ae f.view.ay),.ro 1 (streams f.streams),.ro 1 (ae f.aC)]):=by
 have h:=(Qh f hb).bc
 simp only [bc,hC,kW,kh,mq] at h
 exact h
end Go.Proofs.YtgkdnnmcjjabdaaGreat
namespace Go.Proofs.YtgkdnnmcjjabdaaGreat
open Go.RowKit
structure En where
 p:au
 st:Int
 l:List (List UInt8)
 aF:Nat
 act:Bool
 set:List au
 sy:Jt
structure En.Ok (e:En):Prop where
 p:e.p.may=true
 l:eN e.l
 set:e.set.length<1000
 cut:e.sy.cut.length<1000
theorem OR {p:au} {l:List (List UInt8)} {h:Nat} (hl:eN l):(fB p l h).short:=by
 refine ⟨by simp [fB,View.first],by simp [fB,View.first],by simp [fB],by simp [fB],fun s hs=>?_⟩
 simp only [fB,List.mem_singleton] at hs;subst hs
 refine ⟨by rw [dj];have:=hl.1;omega,fun x hx=>?_⟩
 obtain ⟨i,hi,rfl⟩:=List.getElem_of_mem hx
 have:=hl.2 _ (List.mem_of_getElem? (lz (List.getElem?_eq_getElem hi)).2);omega
theorem LZ:aA.zero.short:=by simp [aA.short,aA.zero]
def EC (e:En):List AV:=[.z e.p.node,.u e.p.inc,.z e.st,.d (.v (.int .u64 0)),.z e.p.node,.u e.p.inc,.d (.ro 2 (procs [e.p])),.d (.ro 1 (ae [0])),.d (.ro 1 (streams [aq 0 e.l])),.d (.ro 1 (ae [e.l.length])),.u e.l.length,.u e.aF,.d (.v (.bool (e.act))),.d (.ro 2 (procs e.set)),.z e.sy.kind,.z e.sy.src.node,.u e.sy.src.inc,.u e.sy.vw.round,.z e.sy.vw.server.node,.u e.sy.vw.server.inc,.u e.sy.n,.d (.v (.slice none 0 0)),.u e.sy.aF,.d (.ro 1 (ae e.sy.cut)),.d (.v (.bool false)),.d (.v (.slice none 0 0)),.d (.v (.bool false)),.d (.v (.int .u64 0)),.z 0,.d (.v (.int .u64 0)),.d (.ro 2 ([])),.d (.ro 1 ([])),.d (.v (.slice none 0 0)),.d (.v (.int .u64 0)),.z 0,.d (.v (.int .u64 0)),.d (.ro 2 ([])),.d (.ro 1 ([])),.d (.ro 1 ([])),.d (.ro 1 ([])),.z 0,.z 0,.d (.v (.int .u64 0)),.d (.v (.int .u64 0)),.z 0,.d (.v (.int .u64 0)),.d (.v (.int .u64 0)),.d (.v (.slice none 0 0)),.d (.v (.int .u64 0)),.d (.ro 1 ([])),.d (.v (.bool false))]
set_option maxRecDepth 100000 in
theorem iB (e:En) (h:e.Ok):db Tryz.prog 16 [.ag [.z e.p.node,.u e.p.inc,.z e.st,.d (.v (.int .u64 0)),.z e.p.node,.u e.p.inc,.d (.ro 2 (procs [e.p])),.d (.ro 1 (ae [0])),.d (.ro 1 (streams [aq 0 e.l])),.d (.ro 1 (ae [e.l.length])),.u e.l.length,.u e.aF,.d (.v (.bool (e.act))),.d (.ro 2 (procs e.set)),.z e.sy.kind,.z e.sy.src.node,.u e.sy.src.inc,.u e.sy.vw.round,.z e.sy.vw.server.node,.u e.sy.vw.server.inc,.u e.sy.n,.d (.v (.slice none 0 0)),.u e.sy.aF,.d (.ro 1 (ae e.sy.cut)),.d (.v (.bool false)),.d (.v (.slice none 0 0)),.d (.v (.bool false)),.d (.v (.int .u64 0)),.z 0,.d (.v (.int .u64 0)),.d (.ro 2 ([])),.d (.ro 1 ([])),.d (.v (.slice none 0 0)),.d (.v (.int .u64 0)),.z 0,.d (.v (.int .u64 0)),.d (.ro 2 ([])),.d (.ro 1 ([])),.d (.ro 1 ([])),.d (.ro 1 ([])),.z 0,.z 0,.d (.v (.int .u64 0)),.d (.v (.int .u64 0)),.z 0,.d (.v (.int .u64 0)),.d (.v (.int .u64 0)),.d (.v (.slice none 0 0)),.d (.v (.int .u64 0)),.d (.ro 1 ([])),.d (.v (.bool false))]] [] (.pt 0 0) ([.bx 68 (EC e++[.d (.v (.slice none 0 0)),.d (.v (.slice none 0 0))])]):=by
 refine db.intro (by kernel_rfl) rfl rfl 38 rfl rfl fun D w0 K bs ac wd hK (bE:bs.m=0) r=>?_
 refine gj (y:=.pt 0 0) (N':=[.bx 68 [.z e.p.node,.u e.p.inc,.z e.st,.d (.v (.int .u64 0)),.z e.p.node,.u e.p.inc,.d (.ro 2 (procs [e.p])),.d (.ro 1 (ae [0])),.d (.ro 1 (streams [aq 0 e.l])),.d (.ro 1 (ae [e.l.length])),.u e.l.length,.u e.aF,.d (.v (.bool (e.act))),.d (.ro 2 (procs e.set)),.z e.sy.kind,.z e.sy.src.node,.u e.sy.src.inc,.u e.sy.vw.round,.z e.sy.vw.server.node,.u e.sy.vw.server.inc,.u e.sy.n,.d (.v (.slice none 0 0)),.u e.sy.aF,.d (.ro 1 (ae e.sy.cut)),.d (.v (.bool false)),.d (.v (.slice none 0 0)),.d (.v (.bool false)),.d (.v (.int .u64 0)),.z 0,.d (.v (.int .u64 0)),.d (.ro 2 ([])),.d (.ro 1 ([])),.d (.v (.slice none 0 0)),.d (.v (.int .u64 0)),.z 0,.d (.v (.int .u64 0)),.d (.ro 2 ([])),.d (.ro 1 ([])),.d (.ro 1 ([])),.d (.ro 1 ([])),.z 0,.z 0,.d (.v (.int .u64 0)),.d (.v (.int .u64 0)),.z 0,.d (.v (.int .u64 0)),.d (.v (.int .u64 0)),.d (.v (.slice none 0 0)),.d (.v (.int .u64 0)),.d (.ro 1 ([])),.d (.v (.bool false)),.d (.v (.slice none 0 0)),.d (.v (.slice none 0 0))]]) (rfl) (rfl) ?_
 exact gg tk tq hK rfl bE [(1,[(2,.aL (.ag [.v (.int .u64 0),.z e.p.node,.u e.p.inc,.ro 2 (procs [e.p]),.ro 1 (ae [0]),.ro 1 (streams [aq 0 e.l]),.ro 1 (ae [e.l.length])]))]),(2,[(2,.aL (.ro 2 (procs e.set)))]),(3,[(2,.aL (.ag [.z e.sy.kind,.z e.sy.src.node,.u e.sy.src.inc,.u e.sy.vw.round,.z e.sy.vw.server.node,.u e.sy.vw.server.inc,.u e.sy.n,.v (.slice none 0 0),.u e.sy.aF,.ro 1 (ae e.sy.cut),.v (.bool false)]))]),(4,[(2,.aL (.v (.slice none 0 0)))]),(5,[(2,.aL (.ag [.v (.int .u64 0),.z 0,.v (.int .u64 0),.ro 2 ([]),.ro 1 ([])]))]),(6,[(2,.aL (.v (.slice none 0 0)))]),(7,[(2,.aL (.ag [.v (.int .u64 0),.z 0,.v (.int .u64 0),.ro 2 ([]),.ro 1 ([]),.ro 1 ([]),.ro 1 ([])]))]),(8,[(2,.aL (.ag [.z 0,.z 0,.v (.int .u64 0),.v (.int .u64 0),.z 0,.v (.int .u64 0),.v (.int .u64 0),.v (.slice none 0 0),.v (.int .u64 0),.ro 1 ([]),.v (.bool false)]))])] 2000 [1] r (by kernel_rfl) (U (H9 (fB e.p e.l e.l.length) (OR h.l)) (U (we e.set (by have:=h.set;omega)) (U (Qf e.sy (by have:=h.cut;omega)) (U (GD) (U (Qg) (U (GD) (U (H9 aA.zero LZ) (U (OQ) trivial))))))))
end Go.Proofs.YtgkdnnmcjjabdaaGreat
namespace Go.Proofs.YtgkdnnmcjjabdaaGreat
open Go.RowKit
def cz (e:En) (b:List UInt8):List DV:=[.z 1,.z e.p.node,.u e.p.inc,.z 0,.v (.int .u64 0),.u ((e.l.length+1)),.ro 1 (al b),.v (.int .u64 0),.z 0,.v (.int .u64 0),.v (.slice none 0 0),.v (.slice none 0 0),.v (.slice none 0 0)]
def iq (e:En) (b:List UInt8):List DV:=[.z 2,.z e.p.node,.u e.p.inc,.z e.p.node,.u e.p.inc,.u ((e.l.length+1)),.ro 1 (al b),.v (.int .u64 0),.z 0,.v (.int .u64 0),.v (.slice none 0 0),.v (.slice none 0 0),.v (.slice none 0 0)]
set_option maxRecDepth 100000 in
theorem Qi (e:En) (b:List UInt8):db Tryz.prog 42 [.ag [.z e.p.node,.u e.p.inc],.pt 0 0] [.bx 65 [.pt 1 0],.bx 68 [.z e.p.node,.u e.p.inc,.z e.st,.d (.v (.int .u64 0)),.z e.p.node,.u e.p.inc,.d (.ro 2 (procs [e.p])),.d (.ro 1 (ae [0])),.d (.ro 1 (streams [aq 0 (e.l++[b])])),.d (.ro 1 (ae [e.l.length])),.u ((e.l.length+1)),.u e.aF,.d (.v (.bool (e.act))),.d (.ro 2 (procs e.set)),.z e.sy.kind,.z e.sy.src.node,.u e.sy.src.inc,.u e.sy.vw.round,.z e.sy.vw.server.node,.u e.sy.vw.server.inc,.u e.sy.n,.d (.v (.slice none 0 0)),.u e.sy.aF,.d (.ro 1 (ae e.sy.cut)),.d (.v (.bool false)),.d (.v (.slice none 0 0)),.d (.v (.bool false)),.d (.v (.int .u64 0)),.z 0,.d (.v (.int .u64 0)),.d (.ro 2 ([])),.d (.ro 1 ([])),.d (.v (.slice none 0 0)),.d (.v (.int .u64 0)),.z 0,.d (.v (.int .u64 0)),.d (.ro 2 ([])),.d (.ro 1 ([])),.d (.ro 1 ([])),.d (.ro 1 ([])),.z 0,.z 0,.d (.v (.int .u64 0)),.d (.v (.int .u64 0)),.z 0,.d (.v (.int .u64 0)),.d (.v (.int .u64 0)),.d (.v (.slice none 0 0)),.d (.v (.int .u64 0)),.d (.ro 1 ([])),.d (.v (.bool false)),.d (.v (.slice none 0 0)),.sl 2 (1)],.rw 58 13 ([cz e b])] (.d (.v (.bool true))) ([.bx 65 [.pt 1 0],.bx 68 [.z e.p.node,.u e.p.inc,.z e.st,.d (.v (.int .u64 0)),.z e.p.node,.u e.p.inc,.d (.ro 2 (procs [e.p])),.d (.ro 1 (ae [0])),.d (.ro 1 (streams [aq 0 (e.l++[b])])),.d (.ro 1 (ae [e.l.length])),.u ((e.l.length+1)),.u e.aF,.d (.v (.bool (e.act))),.d (.ro 2 (procs e.set)),.z e.sy.kind,.z e.sy.src.node,.u e.sy.src.inc,.u e.sy.vw.round,.z e.sy.vw.server.node,.u e.sy.vw.server.inc,.u e.sy.n,.d (.v (.slice none 0 0)),.u e.sy.aF,.d (.ro 1 (ae e.sy.cut)),.d (.v (.bool false)),.d (.v (.slice none 0 0)),.d (.v (.bool false)),.d (.v (.int .u64 0)),.z 0,.d (.v (.int .u64 0)),.d (.ro 2 ([])),.d (.ro 1 ([])),.d (.v (.slice none 0 0)),.d (.v (.int .u64 0)),.z 0,.d (.v (.int .u64 0)),.d (.ro 2 ([])),.d (.ro 1 ([])),.d (.ro 1 ([])),.d (.ro 1 ([])),.z 0,.z 0,.d (.v (.int .u64 0)),.d (.v (.int .u64 0)),.z 0,.d (.v (.int .u64 0)),.d (.v (.int .u64 0)),.d (.v (.slice none 0 0)),.d (.v (.int .u64 0)),.d (.ro 1 ([])),.d (.v (.bool false)),.d (.v (.slice none 0 0)),.sl 2 (1)],.rw 58 13 ([cz e b])]):=by
 refine db.intro (by kernel_rfl) rfl rfl 11 rfl rfl fun D w0 K bs ac wd hK (bE:bs.m=3) r=>?_
 cases h0:(decide (e.p=e.p)) with
 | false=>
  have bq:=of_decide_eq_false h0
  exact absurd rfl bq
 | true=>
  have bq:=of_decide_eq_true h0
  refine gj (y:=.d (.v (.bool true))) (N':=[.bx 65 [.pt 1 0],.bx 68 [.z e.p.node,.u e.p.inc,.z e.st,.d (.v (.int .u64 0)),.z e.p.node,.u e.p.inc,.d (.ro 2 (procs [e.p])),.d (.ro 1 (ae [0])),.d (.ro 1 (streams [aq 0 (e.l++[b])])),.d (.ro 1 (ae [e.l.length])),.u ((e.l.length+1)),.u e.aF,.d (.v (.bool (e.act))),.d (.ro 2 (procs e.set)),.z e.sy.kind,.z e.sy.src.node,.u e.sy.src.inc,.u e.sy.vw.round,.z e.sy.vw.server.node,.u e.sy.vw.server.inc,.u e.sy.n,.d (.v (.slice none 0 0)),.u e.sy.aF,.d (.ro 1 (ae e.sy.cut)),.d (.v (.bool false)),.d (.v (.slice none 0 0)),.d (.v (.bool false)),.d (.v (.int .u64 0)),.z 0,.d (.v (.int .u64 0)),.d (.ro 2 ([])),.d (.ro 1 ([])),.d (.v (.slice none 0 0)),.d (.v (.int .u64 0)),.z 0,.d (.v (.int .u64 0)),.d (.ro 2 ([])),.d (.ro 1 ([])),.d (.ro 1 ([])),.d (.ro 1 ([])),.z 0,.z 0,.d (.v (.int .u64 0)),.d (.v (.int .u64 0)),.z 0,.d (.v (.int .u64 0)),.d (.v (.int .u64 0)),.d (.v (.slice none 0 0)),.d (.v (.int .u64 0)),.d (.ro 1 ([])),.d (.v (.bool false)),.d (.v (.slice none 0 0)),.sl 2 (1)],.rw 58 13 ([cz e b])]) (rfl) (rfl) ?_
  exact gg tk tq hK rfl bE [(1,[(6,.b true)])] 2000 [0,1,2] r (by kernel_rfl) (U ((kU (pR _ _) h0):gi Tryz.prog 24 [(.int .i64 (e.p.node)),(.int .u64 (((e.p.inc:Nat):Int)))] [(.int .i64 (e.p.node)),(.int .u64 (((e.p.inc:Nat):Int)))] true) trivial)
set_option maxRecDepth 100000 in
theorem Qj (e:En) (b:List UInt8):db Tryz.prog 68 [.sl 0 (1),.fn 42 [.pt 1 0]] [.rw 24 2 (procs [e.p]),.bx 65 [.pt 2 0],.bx 68 [.z e.p.node,.u e.p.inc,.z e.st,.d (.v (.int .u64 0)),.z e.p.node,.u e.p.inc,.d (.ro 2 (procs [e.p])),.d (.ro 1 (ae [0])),.d (.ro 1 (streams [aq 0 (e.l++[b])])),.d (.ro 1 (ae [e.l.length])),.u ((e.l.length+1)),.u e.aF,.d (.v (.bool (e.act))),.d (.ro 2 (procs e.set)),.z e.sy.kind,.z e.sy.src.node,.u e.sy.src.inc,.u e.sy.vw.round,.z e.sy.vw.server.node,.u e.sy.vw.server.inc,.u e.sy.n,.d (.v (.slice none 0 0)),.u e.sy.aF,.d (.ro 1 (ae e.sy.cut)),.d (.v (.bool false)),.d (.v (.slice none 0 0)),.d (.v (.bool false)),.d (.v (.int .u64 0)),.z 0,.d (.v (.int .u64 0)),.d (.ro 2 ([])),.d (.ro 1 ([])),.d (.v (.slice none 0 0)),.d (.v (.int .u64 0)),.z 0,.d (.v (.int .u64 0)),.d (.ro 2 ([])),.d (.ro 1 ([])),.d (.ro 1 ([])),.d (.ro 1 ([])),.z 0,.z 0,.d (.v (.int .u64 0)),.d (.v (.int .u64 0)),.z 0,.d (.v (.int .u64 0)),.d (.v (.int .u64 0)),.d (.v (.slice none 0 0)),.d (.v (.int .u64 0)),.d (.ro 1 ([])),.d (.v (.bool false)),.d (.v (.slice none 0 0)),.sl 3 (1)],.rw 58 13 ([cz e b])] (.d (.v (.int .i64 ((0:Nat):Int)))) ([.rw 24 2 (procs [e.p]),.bx 65 [.pt 2 0],.bx 68 [.z e.p.node,.u e.p.inc,.z e.st,.d (.v (.int .u64 0)),.z e.p.node,.u e.p.inc,.d (.ro 2 (procs [e.p])),.d (.ro 1 (ae [0])),.d (.ro 1 (streams [aq 0 (e.l++[b])])),.d (.ro 1 (ae [e.l.length])),.u ((e.l.length+1)),.u e.aF,.d (.v (.bool (e.act))),.d (.ro 2 (procs e.set)),.z e.sy.kind,.z e.sy.src.node,.u e.sy.src.inc,.u e.sy.vw.round,.z e.sy.vw.server.node,.u e.sy.vw.server.inc,.u e.sy.n,.d (.v (.slice none 0 0)),.u e.sy.aF,.d (.ro 1 (ae e.sy.cut)),.d (.v (.bool false)),.d (.v (.slice none 0 0)),.d (.v (.bool false)),.d (.v (.int .u64 0)),.z 0,.d (.v (.int .u64 0)),.d (.ro 2 ([])),.d (.ro 1 ([])),.d (.v (.slice none 0 0)),.d (.v (.int .u64 0)),.z 0,.d (.v (.int .u64 0)),.d (.ro 2 ([])),.d (.ro 1 ([])),.d (.ro 1 ([])),.d (.ro 1 ([])),.z 0,.z 0,.d (.v (.int .u64 0)),.d (.v (.int .u64 0)),.z 0,.d (.v (.int .u64 0)),.d (.v (.int .u64 0)),.d (.v (.slice none 0 0)),.d (.v (.int .u64 0)),.d (.ro 1 ([])),.d (.v (.bool false)),.d (.v (.slice none 0 0)),.sl 3 (1)],.rw 58 13 ([cz e b])]):=by
 refine db.intro (by kernel_rfl) rfl rfl 19 rfl rfl fun D w0 K bs ac wd hK (bE:bs.m=4) r=>?_
 refine g6 (todo':=hd Tryz.f68 0) (E':=[(0,.sl 0 (1)),(1,.fn 42 [.pt 1 0]),(4,.z 0),(6,.sl 0 (1)),(7,.n 1),(8,.z 0)]) (M':=[.rw 24 2 (procs [e.p]),.bx 65 [.pt 2 0],.bx 68 [.z e.p.node,.u e.p.inc,.z e.st,.d (.v (.int .u64 0)),.z e.p.node,.u e.p.inc,.d (.ro 2 (procs [e.p])),.d (.ro 1 (ae [0])),.d (.ro 1 (streams [aq 0 (e.l++[b])])),.d (.ro 1 (ae [e.l.length])),.u ((e.l.length+1)),.u e.aF,.d (.v (.bool (e.act))),.d (.ro 2 (procs e.set)),.z e.sy.kind,.z e.sy.src.node,.u e.sy.src.inc,.u e.sy.vw.round,.z e.sy.vw.server.node,.u e.sy.vw.server.inc,.u e.sy.n,.d (.v (.slice none 0 0)),.u e.sy.aF,.d (.ro 1 (ae e.sy.cut)),.d (.v (.bool false)),.d (.v (.slice none 0 0)),.d (.v (.bool false)),.d (.v (.int .u64 0)),.z 0,.d (.v (.int .u64 0)),.d (.ro 2 ([])),.d (.ro 1 ([])),.d (.v (.slice none 0 0)),.d (.v (.int .u64 0)),.z 0,.d (.v (.int .u64 0)),.d (.ro 2 ([])),.d (.ro 1 ([])),.d (.ro 1 ([])),.d (.ro 1 ([])),.z 0,.z 0,.d (.v (.int .u64 0)),.d (.v (.int .u64 0)),.z 0,.d (.v (.int .u64 0)),.d (.v (.int .u64 0)),.d (.v (.slice none 0 0)),.d (.v (.int .u64 0)),.d (.ro 1 ([])),.d (.v (.bool false)),.d (.v (.slice none 0 0)),.sl 3 (1)],.rw 58 13 ([cz e b])]) tk tq hK bE [] 2000 [0,1,2,3] [0,1,4,6,7,8] r (by kernel_rfl) trivial fun ac wd r=>?_
 refine gj (y:=.z 0) (N':=[.rw 24 2 (procs [e.p]),.bx 65 [.pt 2 0],.bx 68 [.z e.p.node,.u e.p.inc,.z e.st,.d (.v (.int .u64 0)),.z e.p.node,.u e.p.inc,.d (.ro 2 (procs [e.p])),.d (.ro 1 (ae [0])),.d (.ro 1 (streams [aq 0 (e.l++[b])])),.d (.ro 1 (ae [e.l.length])),.u ((e.l.length+1)),.u e.aF,.d (.v (.bool (e.act))),.d (.ro 2 (procs e.set)),.z e.sy.kind,.z e.sy.src.node,.u e.sy.src.inc,.u e.sy.vw.round,.z e.sy.vw.server.node,.u e.sy.vw.server.inc,.u e.sy.n,.d (.v (.slice none 0 0)),.u e.sy.aF,.d (.ro 1 (ae e.sy.cut)),.d (.v (.bool false)),.d (.v (.slice none 0 0)),.d (.v (.bool false)),.d (.v (.int .u64 0)),.z 0,.d (.v (.int .u64 0)),.d (.ro 2 ([])),.d (.ro 1 ([])),.d (.v (.slice none 0 0)),.d (.v (.int .u64 0)),.z 0,.d (.v (.int .u64 0)),.d (.ro 2 ([])),.d (.ro 1 ([])),.d (.ro 1 ([])),.d (.ro 1 ([])),.z 0,.z 0,.d (.v (.int .u64 0)),.d (.v (.int .u64 0)),.z 0,.d (.v (.int .u64 0)),.d (.v (.int .u64 0)),.d (.v (.slice none 0 0)),.d (.v (.int .u64 0)),.d (.ro 1 ([])),.d (.v (.bool false)),.d (.v (.slice none 0 0)),.sl 3 (1)],.rw 58 13 ([cz e b])]) (rfl) (rfl) ?_
 exact gg tk tq hK rfl bE [(4,[(3,.n (0)),(4,.ix 0 [.z e.p.node,.u e.p.inc]),(5,.mem [1,2,3] (.d (.v (.bool true))) [.bx 65 [.pt 1 0],.bx 68 [.z e.p.node,.u e.p.inc,.z e.st,.d (.v (.int .u64 0)),.z e.p.node,.u e.p.inc,.d (.ro 2 (procs [e.p])),.d (.ro 1 (ae [0])),.d (.ro 1 (streams [aq 0 (e.l++[b])])),.d (.ro 1 (ae [e.l.length])),.u ((e.l.length+1)),.u e.aF,.d (.v (.bool (e.act))),.d (.ro 2 (procs e.set)),.z e.sy.kind,.z e.sy.src.node,.u e.sy.src.inc,.u e.sy.vw.round,.z e.sy.vw.server.node,.u e.sy.vw.server.inc,.u e.sy.n,.d (.v (.slice none 0 0)),.u e.sy.aF,.d (.ro 1 (ae e.sy.cut)),.d (.v (.bool false)),.d (.v (.slice none 0 0)),.d (.v (.bool false)),.d (.v (.int .u64 0)),.z 0,.d (.v (.int .u64 0)),.d (.ro 2 ([])),.d (.ro 1 ([])),.d (.v (.slice none 0 0)),.d (.v (.int .u64 0)),.z 0,.d (.v (.int .u64 0)),.d (.ro 2 ([])),.d (.ro 1 ([])),.d (.ro 1 ([])),.d (.ro 1 ([])),.z 0,.z 0,.d (.v (.int .u64 0)),.d (.v (.int .u64 0)),.z 0,.d (.v (.int .u64 0)),.d (.v (.int .u64 0)),.d (.v (.slice none 0 0)),.d (.v (.int .u64 0)),.d (.ro 1 ([])),.d (.v (.bool false)),.d (.v (.slice none 0 0)),.sl 2 (1)],.rw 58 13 ([cz e b])])])] 2000 [0,1,2,3] r (by kernel_rfl) (U (rfl:(0)=((0:Nat):Int)) (U ((by first | omega | decide | (simp;done) | (simp;omega)):(0)<(1)) (U ((by first | rfl | (simp;done) | (simp<;>omega)):(1)≤(procs [e.p]).length) (U (rfl:(procs [e.p])[0]?=some [.z e.p.node,.u e.p.inc]) (U (Qi e b) trivial)))))
set_option maxRecDepth 100000 in
theorem Qk (e:En) (b:List UInt8):db Tryz.prog 41 [.sl 0 (1),.fn 42 [.pt 1 0]] [.rw 24 2 (procs [e.p]),.bx 65 [.pt 2 0],.bx 68 [.z e.p.node,.u e.p.inc,.z e.st,.d (.v (.int .u64 0)),.z e.p.node,.u e.p.inc,.d (.ro 2 (procs [e.p])),.d (.ro 1 (ae [0])),.d (.ro 1 (streams [aq 0 (e.l++[b])])),.d (.ro 1 (ae [e.l.length])),.u ((e.l.length+1)),.u e.aF,.d (.v (.bool (e.act))),.d (.ro 2 (procs e.set)),.z e.sy.kind,.z e.sy.src.node,.u e.sy.src.inc,.u e.sy.vw.round,.z e.sy.vw.server.node,.u e.sy.vw.server.inc,.u e.sy.n,.d (.v (.slice none 0 0)),.u e.sy.aF,.d (.ro 1 (ae e.sy.cut)),.d (.v (.bool false)),.d (.v (.slice none 0 0)),.d (.v (.bool false)),.d (.v (.int .u64 0)),.z 0,.d (.v (.int .u64 0)),.d (.ro 2 ([])),.d (.ro 1 ([])),.d (.v (.slice none 0 0)),.d (.v (.int .u64 0)),.z 0,.d (.v (.int .u64 0)),.d (.ro 2 ([])),.d (.ro 1 ([])),.d (.ro 1 ([])),.d (.ro 1 ([])),.z 0,.z 0,.d (.v (.int .u64 0)),.d (.v (.int .u64 0)),.z 0,.d (.v (.int .u64 0)),.d (.v (.int .u64 0)),.d (.v (.slice none 0 0)),.d (.v (.int .u64 0)),.d (.ro 1 ([])),.d (.v (.bool false)),.d (.v (.slice none 0 0)),.sl 3 (1)],.rw 58 13 ([cz e b])] (.d (.ro 2 [])) ([.rw 24 2 ([[.v (.int .i64 0),.v (.int .u64 0)]]),.bx 65 [.pt 2 0],.bx 68 [.z e.p.node,.u e.p.inc,.z e.st,.d (.v (.int .u64 0)),.z e.p.node,.u e.p.inc,.d (.ro 2 (procs [e.p])),.d (.ro 1 (ae [0])),.d (.ro 1 (streams [aq 0 (e.l++[b])])),.d (.ro 1 (ae [e.l.length])),.u ((e.l.length+1)),.u e.aF,.d (.v (.bool (e.act))),.d (.ro 2 (procs e.set)),.z e.sy.kind,.z e.sy.src.node,.u e.sy.src.inc,.u e.sy.vw.round,.z e.sy.vw.server.node,.u e.sy.vw.server.inc,.u e.sy.n,.d (.v (.slice none 0 0)),.u e.sy.aF,.d (.ro 1 (ae e.sy.cut)),.d (.v (.bool false)),.d (.v (.slice none 0 0)),.d (.v (.bool false)),.d (.v (.int .u64 0)),.z 0,.d (.v (.int .u64 0)),.d (.ro 2 ([])),.d (.ro 1 ([])),.d (.v (.slice none 0 0)),.d (.v (.int .u64 0)),.z 0,.d (.v (.int .u64 0)),.d (.ro 2 ([])),.d (.ro 1 ([])),.d (.ro 1 ([])),.d (.ro 1 ([])),.z 0,.z 0,.d (.v (.int .u64 0)),.d (.v (.int .u64 0)),.z 0,.d (.v (.int .u64 0)),.d (.v (.int .u64 0)),.d (.v (.slice none 0 0)),.d (.v (.int .u64 0)),.d (.ro 1 ([])),.d (.v (.bool false)),.d (.v (.slice none 0 0)),.sl 3 (1)],.rw 58 13 ([cz e b])]):=by
 refine db.intro (by kernel_rfl) rfl rfl 42 rfl rfl fun D w0 K bs ac wd hK (bE:bs.m=4) r=>?_
 refine g6 (todo':=hd Tryz.f41 0) (E':=[(0,.sl 0 (1)),(1,.fn 42 [.pt 1 0]),(4,.d (.v (.slice none 0 0))),(8,.sl 0 (1)),(9,.fn 42 [.pt 1 0]),(10,.n 0),(5,.n 0),(11,.n 0),(12,.d (.v (.bool false))),(14,.n 0),(15,.z 1),(6,.z 1)]) (M':=[.rw 24 2 (procs [e.p]),.bx 65 [.pt 2 0],.bx 68 [.z e.p.node,.u e.p.inc,.z e.st,.d (.v (.int .u64 0)),.z e.p.node,.u e.p.inc,.d (.ro 2 (procs [e.p])),.d (.ro 1 (ae [0])),.d (.ro 1 (streams [aq 0 (e.l++[b])])),.d (.ro 1 (ae [e.l.length])),.u ((e.l.length+1)),.u e.aF,.d (.v (.bool (e.act))),.d (.ro 2 (procs e.set)),.z e.sy.kind,.z e.sy.src.node,.u e.sy.src.inc,.u e.sy.vw.round,.z e.sy.vw.server.node,.u e.sy.vw.server.inc,.u e.sy.n,.d (.v (.slice none 0 0)),.u e.sy.aF,.d (.ro 1 (ae e.sy.cut)),.d (.v (.bool false)),.d (.v (.slice none 0 0)),.d (.v (.bool false)),.d (.v (.int .u64 0)),.z 0,.d (.v (.int .u64 0)),.d (.ro 2 ([])),.d (.ro 1 ([])),.d (.v (.slice none 0 0)),.d (.v (.int .u64 0)),.z 0,.d (.v (.int .u64 0)),.d (.ro 2 ([])),.d (.ro 1 ([])),.d (.ro 1 ([])),.d (.ro 1 ([])),.z 0,.z 0,.d (.v (.int .u64 0)),.d (.v (.int .u64 0)),.z 0,.d (.v (.int .u64 0)),.d (.v (.int .u64 0)),.d (.v (.slice none 0 0)),.d (.v (.int .u64 0)),.d (.ro 1 ([])),.d (.v (.bool false)),.d (.v (.slice none 0 0)),.sl 3 (1)],.rw 58 13 ([cz e b])]) tk tq hK bE [(1,[(2,.mem [0,1,2,3] (.n 0) [.rw 24 2 (procs [e.p]),.bx 65 [.pt 2 0],.bx 68 [.z e.p.node,.u e.p.inc,.z e.st,.d (.v (.int .u64 0)),.z e.p.node,.u e.p.inc,.d (.ro 2 (procs [e.p])),.d (.ro 1 (ae [0])),.d (.ro 1 (streams [aq 0 (e.l++[b])])),.d (.ro 1 (ae [e.l.length])),.u ((e.l.length+1)),.u e.aF,.d (.v (.bool (e.act))),.d (.ro 2 (procs e.set)),.z e.sy.kind,.z e.sy.src.node,.u e.sy.src.inc,.u e.sy.vw.round,.z e.sy.vw.server.node,.u e.sy.vw.server.inc,.u e.sy.n,.d (.v (.slice none 0 0)),.u e.sy.aF,.d (.ro 1 (ae e.sy.cut)),.d (.v (.bool false)),.d (.v (.slice none 0 0)),.d (.v (.bool false)),.d (.v (.int .u64 0)),.z 0,.d (.v (.int .u64 0)),.d (.ro 2 ([])),.d (.ro 1 ([])),.d (.v (.slice none 0 0)),.d (.v (.int .u64 0)),.z 0,.d (.v (.int .u64 0)),.d (.ro 2 ([])),.d (.ro 1 ([])),.d (.ro 1 ([])),.d (.ro 1 ([])),.z 0,.z 0,.d (.v (.int .u64 0)),.d (.v (.int .u64 0)),.z 0,.d (.v (.int .u64 0)),.d (.v (.int .u64 0)),.d (.v (.slice none 0 0)),.d (.v (.int .u64 0)),.d (.ro 1 ([])),.d (.v (.bool false)),.d (.v (.slice none 0 0)),.sl 3 (1)],.rw 58 13 ([cz e b])])]),(4,[(1,.z (1))])] 2000 [0,1,2,3] [0,1,4,8,9,10,5,11,12,14,15,6] r (by kernel_rfl) (U (Qj e b) (U ((wi (by omega)):IntKind.i64.wrap ((0:Int)+1)=1) trivial)) fun ac wd r=>?_
 cases h0:(decide ((((0:Nat):Int):Int)<((1:Nat):Int))) with
 | false=>
  have bq:=of_decide_eq_false h0
  exact absurd bq (by omega)
 | true=>
  have bq:=of_decide_eq_true h0
  refine gj (y:=.d (.ro 2 ([]))) (N':=[.rw 24 2 ((procs [e.p]).take (0)++(List.replicate (1-0) ([.z 0,.v (.int .u64 0)]:List DV)++(procs [e.p]).drop ((0)+(1-0)))),.bx 65 [.pt 2 0],.bx 68 [.z e.p.node,.u e.p.inc,.z e.st,.d (.v (.int .u64 0)),.z e.p.node,.u e.p.inc,.d (.ro 2 (procs [e.p])),.d (.ro 1 (ae [0])),.d (.ro 1 (streams [aq 0 (e.l++[b])])),.d (.ro 1 (ae [e.l.length])),.u ((e.l.length+1)),.u e.aF,.d (.v (.bool (e.act))),.d (.ro 2 (procs e.set)),.z e.sy.kind,.z e.sy.src.node,.u e.sy.src.inc,.u e.sy.vw.round,.z e.sy.vw.server.node,.u e.sy.vw.server.inc,.u e.sy.n,.d (.v (.slice none 0 0)),.u e.sy.aF,.d (.ro 1 (ae e.sy.cut)),.d (.v (.bool false)),.d (.v (.slice none 0 0)),.d (.v (.bool false)),.d (.v (.int .u64 0)),.z 0,.d (.v (.int .u64 0)),.d (.ro 2 ([])),.d (.ro 1 ([])),.d (.v (.slice none 0 0)),.d (.v (.int .u64 0)),.z 0,.d (.v (.int .u64 0)),.d (.ro 2 ([])),.d (.ro 1 ([])),.d (.ro 1 ([])),.d (.ro 1 ([])),.z 0,.z 0,.d (.v (.int .u64 0)),.d (.v (.int .u64 0)),.z 0,.d (.v (.int .u64 0)),.d (.v (.int .u64 0)),.d (.v (.slice none 0 0)),.d (.v (.int .u64 0)),.d (.ro 1 ([])),.d (.v (.bool false)),.d (.v (.slice none 0 0)),.sl 3 (1)],.rw 58 13 ([cz e b])]) (rfl) (rfl) ?_
  exact gg tk tq hK rfl bE [(11,[(2,.n (0))]),(12,[(2,.res (.ro 2 []))])] 2000 [0,1,2,3] r (by kernel_rfl) (U (aS ((0:Nat):Int)) (U ((by first | omega | decide | (simp;done) | (simp;omega)):(0)<(1)) (U ((by first | rfl | (simp;done) | (simp<;>omega)):(1)=(procs [e.p]).length) (U ((by first | omega | decide | (simp;done) | (simp;omega)):0<(1-0)) (U ((by first | rfl | (simp;done) | (simp<;>omega)):(0)+(1-0)≤(procs [e.p]).length) (U ((by omega):(((0:Nat):Int):Int)=0) (U ((by first | rfl | (simp;done) | (simp<;>omega)):(1)=((procs [e.p]).take (0)++(List.replicate (1-0) ([.z 0,.v (.int .u64 0)]:List DV)++(procs [e.p]).drop ((0)+(1-0))):List (List DV)).length) trivial)))))))
set_option maxRecDepth 100000 in
theorem Ql (e:En) (b:List UInt8):db Tryz.prog 20 [.pt 0 0] [.bx 68 [.z e.p.node,.u e.p.inc,.z e.st,.d (.v (.int .u64 0)),.z e.p.node,.u e.p.inc,.d (.ro 2 (procs [e.p])),.d (.ro 1 (ae [0])),.d (.ro 1 (streams [aq 0 (e.l++[b])])),.d (.ro 1 (ae [e.l.length])),.u ((e.l.length+1)),.u e.aF,.d (.v (.bool (e.act))),.d (.ro 2 (procs e.set)),.z e.sy.kind,.z e.sy.src.node,.u e.sy.src.inc,.u e.sy.vw.round,.z e.sy.vw.server.node,.u e.sy.vw.server.inc,.u e.sy.n,.d (.v (.slice none 0 0)),.u e.sy.aF,.d (.ro 1 (ae e.sy.cut)),.d (.v (.bool false)),.d (.v (.slice none 0 0)),.d (.v (.bool false)),.d (.v (.int .u64 0)),.z 0,.d (.v (.int .u64 0)),.d (.ro 2 ([])),.d (.ro 1 ([])),.d (.v (.slice none 0 0)),.d (.v (.int .u64 0)),.z 0,.d (.v (.int .u64 0)),.d (.ro 2 ([])),.d (.ro 1 ([])),.d (.ro 1 ([])),.d (.ro 1 ([])),.z 0,.z 0,.d (.v (.int .u64 0)),.d (.v (.int .u64 0)),.z 0,.d (.v (.int .u64 0)),.d (.v (.int .u64 0)),.d (.v (.slice none 0 0)),.d (.v (.int .u64 0)),.d (.ro 1 ([])),.d (.v (.bool false)),.d (.v (.slice none 0 0)),.sl 1 (1)],.rw 58 13 ([cz e b])] (.d (.ro 2 [])) ([.bx 68 [.z e.p.node,.u e.p.inc,.z e.st,.d (.v (.int .u64 0)),.z e.p.node,.u e.p.inc,.d (.ro 2 (procs [e.p])),.d (.ro 1 (ae [0])),.d (.ro 1 (streams [aq 0 (e.l++[b])])),.d (.ro 1 (ae [e.l.length])),.u ((e.l.length+1)),.u e.aF,.d (.v (.bool (e.act))),.d (.ro 2 (procs e.set)),.z e.sy.kind,.z e.sy.src.node,.u e.sy.src.inc,.u e.sy.vw.round,.z e.sy.vw.server.node,.u e.sy.vw.server.inc,.u e.sy.n,.d (.v (.slice none 0 0)),.u e.sy.aF,.d (.ro 1 (ae e.sy.cut)),.d (.v (.bool false)),.d (.v (.slice none 0 0)),.d (.v (.bool false)),.d (.v (.int .u64 0)),.z 0,.d (.v (.int .u64 0)),.d (.ro 2 ([])),.d (.ro 1 ([])),.d (.v (.slice none 0 0)),.d (.v (.int .u64 0)),.z 0,.d (.v (.int .u64 0)),.d (.ro 2 ([])),.d (.ro 1 ([])),.d (.ro 1 ([])),.d (.ro 1 ([])),.z 0,.z 0,.d (.v (.int .u64 0)),.d (.v (.int .u64 0)),.z 0,.d (.v (.int .u64 0)),.d (.v (.int .u64 0)),.d (.v (.slice none 0 0)),.d (.v (.int .u64 0)),.d (.ro 1 ([])),.d (.v (.bool false)),.d (.v (.slice none 0 0)),.sl 1 (1)],.rw 58 13 ([cz e b])]):=by
 refine db.intro (by kernel_rfl) rfl rfl 13 rfl rfl fun D w0 K bs ac wd hK (bE:bs.m=2) r=>?_
 refine gj (y:=.d (.ro 2 ([]))) (N':=[.bx 68 [.z e.p.node,.u e.p.inc,.z e.st,.d (.v (.int .u64 0)),.z e.p.node,.u e.p.inc,.d (.ro 2 (procs [e.p])),.d (.ro 1 (ae [0])),.d (.ro 1 (streams [aq 0 (e.l++[b])])),.d (.ro 1 (ae [e.l.length])),.u ((e.l.length+1)),.u e.aF,.d (.v (.bool (e.act))),.d (.ro 2 (procs e.set)),.z e.sy.kind,.z e.sy.src.node,.u e.sy.src.inc,.u e.sy.vw.round,.z e.sy.vw.server.node,.u e.sy.vw.server.inc,.u e.sy.n,.d (.v (.slice none 0 0)),.u e.sy.aF,.d (.ro 1 (ae e.sy.cut)),.d (.v (.bool false)),.d (.v (.slice none 0 0)),.d (.v (.bool false)),.d (.v (.int .u64 0)),.z 0,.d (.v (.int .u64 0)),.d (.ro 2 ([])),.d (.ro 1 ([])),.d (.v (.slice none 0 0)),.d (.v (.int .u64 0)),.z 0,.d (.v (.int .u64 0)),.d (.ro 2 ([])),.d (.ro 1 ([])),.d (.ro 1 ([])),.d (.ro 1 ([])),.z 0,.z 0,.d (.v (.int .u64 0)),.d (.v (.int .u64 0)),.z 0,.d (.v (.int .u64 0)),.d (.v (.int .u64 0)),.d (.v (.slice none 0 0)),.d (.v (.int .u64 0)),.d (.ro 1 ([])),.d (.v (.bool false)),.d (.v (.slice none 0 0)),.sl 1 (1)],.rw 58 13 ([cz e b])]) (rfl) (rfl) ?_
 exact gg tk tq hK rfl bE [(1,[(7,.aL (.em 24 2 (procs [e.p]))),(9,.mem [3,2,0,1] (.d (.ro 2 ([]))) [.rw 24 2 ([[.v (.int .i64 0),.v (.int .u64 0)]]),.bx 65 [.pt 2 0],.bx 68 [.z e.p.node,.u e.p.inc,.z e.st,.d (.v (.int .u64 0)),.z e.p.node,.u e.p.inc,.d (.ro 2 (procs [e.p])),.d (.ro 1 (ae [0])),.d (.ro 1 (streams [aq 0 (e.l++[b])])),.d (.ro 1 (ae [e.l.length])),.u ((e.l.length+1)),.u e.aF,.d (.v (.bool (e.act))),.d (.ro 2 (procs e.set)),.z e.sy.kind,.z e.sy.src.node,.u e.sy.src.inc,.u e.sy.vw.round,.z e.sy.vw.server.node,.u e.sy.vw.server.inc,.u e.sy.n,.d (.v (.slice none 0 0)),.u e.sy.aF,.d (.ro 1 (ae e.sy.cut)),.d (.v (.bool false)),.d (.v (.slice none 0 0)),.d (.v (.bool false)),.d (.v (.int .u64 0)),.z 0,.d (.v (.int .u64 0)),.d (.ro 2 ([])),.d (.ro 1 ([])),.d (.v (.slice none 0 0)),.d (.v (.int .u64 0)),.z 0,.d (.v (.int .u64 0)),.d (.ro 2 ([])),.d (.ro 1 ([])),.d (.ro 1 ([])),.d (.ro 1 ([])),.z 0,.z 0,.d (.v (.int .u64 0)),.d (.v (.int .u64 0)),.z 0,.d (.v (.int .u64 0)),.d (.v (.int .u64 0)),.d (.v (.slice none 0 0)),.d (.v (.int .u64 0)),.d (.ro 1 ([])),.d (.v (.bool false)),.d (.v (.slice none 0 0)),.sl 3 (1)],.rw 58 13 ([cz e b])])])] 2000 [0,1] r (by kernel_rfl) (U (yr [e.p] (by simp)) (U (Qk e b) trivial))
end Go.Proofs.YtgkdnnmcjjabdaaGreat
namespace Go.Proofs.YtgkdnnmcjjabdaaGreat
open Go.RowKit
theorem Tw (e:En) (b:List UInt8):(msgs [⟨e.p,e.l.length+1,b⟩])[0]?=some [.z e.p.node,.u e.p.inc,.u ((e.l.length+1)),.ro 1 (al b)]:=rfl
set_option maxRecDepth 100000 in
theorem So (e:En) (b:List UInt8) (h:e.Ok) (hl:eN (e.l++[b])):db Tryz.prog 23 [.pt 0 0,.d (.v (.slice none 0 0))] [.bx 68 [.z e.p.node,.u e.p.inc,.z e.st,.d (.v (.int .u64 0)),.z e.p.node,.u e.p.inc,.d (.ro 2 (procs [e.p])),.d (.ro 1 (ae [0])),.d (.ro 1 (streams [aq 0 (e.l++[b])])),.d (.ro 1 (ae [e.l.length])),.u ((e.l.length+1)),.u e.aF,.d (.v (.bool (e.act))),.d (.ro 2 (procs e.set)),.z e.sy.kind,.z e.sy.src.node,.u e.sy.src.inc,.u e.sy.vw.round,.z e.sy.vw.server.node,.u e.sy.vw.server.inc,.u e.sy.n,.d (.v (.slice none 0 0)),.u e.sy.aF,.d (.ro 1 (ae e.sy.cut)),.d (.v (.bool false)),.d (.v (.slice none 0 0)),.d (.v (.bool false)),.d (.v (.int .u64 0)),.z 0,.d (.v (.int .u64 0)),.d (.ro 2 ([])),.d (.ro 1 ([])),.d (.v (.slice none 0 0)),.d (.v (.int .u64 0)),.z 0,.d (.v (.int .u64 0)),.d (.ro 2 ([])),.d (.ro 1 ([])),.d (.ro 1 ([])),.d (.ro 1 ([])),.z 0,.z 0,.d (.v (.int .u64 0)),.d (.v (.int .u64 0)),.z 0,.d (.v (.int .u64 0)),.d (.v (.int .u64 0)),.d (.v (.slice none 0 0)),.d (.v (.int .u64 0)),.d (.ro 1 ([])),.d (.v (.bool false)),.d (.v (.slice none 0 0)),.sl 1 (1)],.rw 58 13 ([cz e b])] (.tu []) ([.bx 68 [.z e.p.node,.u e.p.inc,.z e.st,.d (.v (.int .u64 0)),.z e.p.node,.u e.p.inc,.d (.ro 2 (procs [e.p])),.d (.ro 1 (ae [0])),.d (.ro 1 (streams [aq 0 (e.l++[b])])),.d (.ro 1 (ae [(e.l++[b]).length])),.u ((e.l.length+1)),.u e.aF,.d (.v (.bool (e.act))),.d (.ro 2 (procs e.set)),.z e.sy.kind,.z e.sy.src.node,.u e.sy.src.inc,.u e.sy.vw.round,.z e.sy.vw.server.node,.u e.sy.vw.server.inc,.u e.sy.n,.d (.v (.slice none 0 0)),.u e.sy.aF,.d (.ro 1 (ae e.sy.cut)),.d (.v (.bool false)),.d (.v (.slice none 0 0)),.d (.v (.bool false)),.d (.v (.int .u64 0)),.z 0,.d (.v (.int .u64 0)),.d (.ro 2 ([])),.d (.ro 1 ([])),.d (.v (.slice none 0 0)),.d (.v (.int .u64 0)),.z 0,.d (.v (.int .u64 0)),.d (.ro 2 ([])),.d (.ro 1 ([])),.d (.ro 1 ([])),.d (.ro 1 ([])),.z 0,.z 0,.d (.v (.int .u64 0)),.d (.v (.int .u64 0)),.z 0,.d (.v (.int .u64 0)),.d (.v (.int .u64 0)),.d (.v (.slice none 0 0)),.d (.v (.int .u64 0)),.d (.ro 1 ([])),.d (.v (.bool false)),.d (.v (.slice none 0 0)),.sl 2 (2)],.dead,.rw 58 13 ([cz e b,iq e b])]):=by
 refine db.intro (by kernel_rfl) rfl rfl 45 rfl rfl fun D w0 K bs ac wd hK (bE:bs.m=2) r=>?_
 refine RT (todo':=aft Tryz.f23 0) (E':=[(0,.pt 0 0),(4,.pt 2 0),(5,.d (.ro 4 (msgs [⟨e.p,e.l.length+1,b⟩])))]) (M':=[.bx 68 [.z e.p.node,.u e.p.inc,.z e.st,.d (.v (.int .u64 0)),.z e.p.node,.u e.p.inc,.d (.ro 2 (procs [e.p])),.d (.ro 1 (ae [0])),.d (.ro 1 (streams [aq 0 (e.l++[b])])),.d (.ro 1 (ae [e.l.length])),.u ((e.l.length+1)),.u e.aF,.d (.v (.bool (e.act))),.d (.ro 2 (procs e.set)),.z e.sy.kind,.z e.sy.src.node,.u e.sy.src.inc,.u e.sy.vw.round,.z e.sy.vw.server.node,.u e.sy.vw.server.inc,.u e.sy.n,.d (.v (.slice none 0 0)),.u e.sy.aF,.d (.ro 1 (ae e.sy.cut)),.d (.v (.bool false)),.d (.v (.slice none 0 0)),.d (.v (.bool false)),.d (.v (.int .u64 0)),.z 0,.d (.v (.int .u64 0)),.d (.ro 2 ([])),.d (.ro 1 ([])),.d (.v (.slice none 0 0)),.d (.v (.int .u64 0)),.z 0,.d (.v (.int .u64 0)),.d (.ro 2 ([])),.d (.ro 1 ([])),.d (.ro 1 ([])),.d (.ro 1 ([])),.z 0,.z 0,.d (.v (.int .u64 0)),.d (.v (.int .u64 0)),.z 0,.d (.v (.int .u64 0)),.d (.v (.int .u64 0)),.d (.v (.slice none 0 0)),.d (.v (.int .u64 0)),.d (.ro 1 ([])),.d (.v (.bool false)),.d (.v (.slice none 0 0)),.sl 1 (1)],.rw 58 13 ([cz e b]),.bx 37 [.d (.v (.int .u64 0)),.z e.p.node,.u e.p.inc,.d (.ro 2 (procs [e.p])),.d (.ro 1 (ae [0])),.d (.ro 1 (streams [aq 0 (e.l++[b])])),.d (.ro 1 (ae [(e.l++[b]).length]))]]) tk tq hK bE [(0,[(6,.aL (.tu [.ag [.v (.int .u64 0),.z e.p.node,.u e.p.inc,.ro 2 (procs [e.p]),.ro 1 (ae [0]),.ro 1 (streams [aq 0 (e.l++[b])]),.ro 1 (ae [(e.l++[b]).length])],.ro 4 (msgs [⟨e.p,e.l.length+1,b⟩])]))])] 2 [0,1,2] [0,4,5] r (by kernel_rfl) (U (Sm e.p e.l b h.p hl) trivial) fun ac wd r=>?_
 have r:=(r.shift 1 rfl).cast (M':=[.bx 68 [.z e.p.node,.u e.p.inc,.z e.st,.d (.v (.int .u64 0)),.z e.p.node,.u e.p.inc,.d (.ro 2 (procs [e.p])),.d (.ro 1 (ae [0])),.d (.ro 1 (streams [aq 0 (e.l++[b])])),.d (.ro 1 (ae [e.l.length])),.u ((e.l.length+1)),.u e.aF,.d (.v (.bool (e.act))),.d (.ro 2 (procs e.set)),.z e.sy.kind,.z e.sy.src.node,.u e.sy.src.inc,.u e.sy.vw.round,.z e.sy.vw.server.node,.u e.sy.vw.server.inc,.u e.sy.n,.d (.v (.slice none 0 0)),.u e.sy.aF,.d (.ro 1 (ae e.sy.cut)),.d (.v (.bool false)),.d (.v (.slice none 0 0)),.d (.v (.bool false)),.d (.v (.int .u64 0)),.z 0,.d (.v (.int .u64 0)),.d (.ro 2 ([])),.d (.ro 1 ([])),.d (.v (.slice none 0 0)),.d (.v (.int .u64 0)),.z 0,.d (.v (.int .u64 0)),.d (.ro 2 ([])),.d (.ro 1 ([])),.d (.ro 1 ([])),.d (.ro 1 ([])),.z 0,.z 0,.d (.v (.int .u64 0)),.d (.v (.int .u64 0)),.z 0,.d (.v (.int .u64 0)),.d (.v (.int .u64 0)),.d (.v (.slice none 0 0)),.d (.v (.int .u64 0)),.d (.ro 1 ([])),.d (.v (.bool false)),.d (.v (.slice none 0 0)),.sl 3 (1)],.dead,.bx 37 [.d (.v (.int .u64 0)),.z e.p.node,.u e.p.inc,.d (.ro 2 (procs [e.p])),.d (.ro 1 (ae [0])),.d (.ro 1 (streams [aq 0 (e.l++[b])])),.d (.ro 1 (ae [(e.l++[b]).length]))],.rw 58 13 ([cz e b])]) rfl rfl
 refine g6 (todo':=hd Tryz.f23 0) (E':=[(0,.pt 0 0),(4,.pt 2 0),(5,.d (.ro 4 (msgs [⟨e.p,e.l.length+1,b⟩]))),(18,.pt 0 0),(19,.ag [.d (.v (.int .u64 0)),.z e.p.node,.u e.p.inc,.d (.ro 2 (procs [e.p])),.d (.ro 1 (ae [0])),.d (.ro 1 (streams [aq 0 (e.l++[b])])),.d (.ro 1 (ae [(e.l++[b]).length]))]),(20,.pt 0 0),(21,.pt 0 0),(22,.pt 0 3),(23,.d (.ro 4 (msgs [⟨e.p,e.l.length+1,b⟩]))),(24,.n 1),(25,.z 0)]) (M':=[.bx 68 [.z e.p.node,.u e.p.inc,.z e.st,.d (.v (.int .u64 0)),.z e.p.node,.u e.p.inc,.d (.ro 2 (procs [e.p])),.d (.ro 1 (ae [0])),.d (.ro 1 (streams [aq 0 (e.l++[b])])),.d (.ro 1 (ae [(e.l++[b]).length])),.u ((e.l.length+1)),.u e.aF,.d (.v (.bool (e.act))),.d (.ro 2 (procs e.set)),.z e.sy.kind,.z e.sy.src.node,.u e.sy.src.inc,.u e.sy.vw.round,.z e.sy.vw.server.node,.u e.sy.vw.server.inc,.u e.sy.n,.d (.v (.slice none 0 0)),.u e.sy.aF,.d (.ro 1 (ae e.sy.cut)),.d (.v (.bool false)),.d (.v (.slice none 0 0)),.d (.v (.bool false)),.d (.v (.int .u64 0)),.z 0,.d (.v (.int .u64 0)),.d (.ro 2 ([])),.d (.ro 1 ([])),.d (.v (.slice none 0 0)),.d (.v (.int .u64 0)),.z 0,.d (.v (.int .u64 0)),.d (.ro 2 ([])),.d (.ro 1 ([])),.d (.ro 1 ([])),.d (.ro 1 ([])),.z 0,.z 0,.d (.v (.int .u64 0)),.d (.v (.int .u64 0)),.z 0,.d (.v (.int .u64 0)),.d (.v (.int .u64 0)),.d (.v (.slice none 0 0)),.d (.v (.int .u64 0)),.d (.ro 1 ([])),.d (.v (.bool false)),.d (.v (.slice none 0 0)),.sl 3 (1)],.dead,.bx 37 [.d (.v (.int .u64 0)),.z e.p.node,.u e.p.inc,.d (.ro 2 (procs [e.p])),.d (.ro 1 (ae [0])),.d (.ro 1 (streams [aq 0 (e.l++[b])])),.d (.ro 1 (ae [(e.l++[b]).length]))],.rw 58 13 ([cz e b])]) tk tq hK bE [(2,[(1,.z (((1:Nat):Int)))])] 2000 [0,1,2,3] [0,4,5,18,19,20,21,22,23,24,25] r (by kernel_rfl) (U (rfl:(((msgs [⟨e.p,e.l.length+1,b⟩]).length:Nat):Int)=((1:Nat):Int)) trivial) fun ac wd r=>?_
 have Tx:=(rfl:(0)=((0:Nat):Int))
 have Ty:=(Tw e b:(msgs [⟨e.p,e.l.length+1,b⟩])[0]?=some [.z e.p.node,.u e.p.inc,.u ((e.l.length+1)),.ro 1 (al b)])
 have Tz:=((by first | rfl | (simp;done) | (simp<;>omega)):(1)=([cz e b]:List (List DV)).length)
 have TA:=((by first | rfl | (simp;done) | (simp<;>omega)):(1)=([[.z 2,.z e.p.node,.u e.p.inc,.z e.p.node,.u e.p.inc,.u ((e.l.length+1)),.ro 1 (al b),.v (.int .u64 0),.z 0,.v (.int .u64 0),.v (.slice none 0 0),.v (.slice none 0 0),.v (.slice none 0 0)]]:List (List DV)).length)
 have TB:=((by first | omega | (simp [cR];done) | (simp [cR];omega)):(2*((1)+(1))+192)*168≤281474976710656)
 have TC:=((by first | omega | (simp [cR];done) | (simp [cR];omega)):(1)+(1)<4611686018427387904)
 have TD:=((by simp [bX,AV.one,cA,al]):bX ([[.z 2,.z e.p.node,.u e.p.inc,.z e.p.node,.u e.p.inc,.u ((e.l.length+1)),.ro 1 (al b),.v (.int .u64 0),.z 0,.v (.int .u64 0),.v (.slice none 0 0),.v (.slice none 0 0),.v (.slice none 0 0)]]))
 refine Hf (todo':=aft Tryz.f23 5) (E':=[(0,.pt 0 0),(23,.d (.ro 4 (msgs [⟨e.p,e.l.length+1,b⟩]))),(24,.n 1),(25,.z 0),(26,.d (.v (.bool true))),(27,.rp [.z e.p.node,.u e.p.inc,.u ((e.l.length+1)),.ro 1 (al b)] 0),(28,.ag [.z e.p.node,.u e.p.inc,.u ((e.l.length+1)),.d (.ro 1 (al b))]),(7,.pt 4 0),(29,.pt 0 0),(30,.pt 0 0),(31,.pt 0 0),(32,.pt 0 0),(33,.pt 0 0),(35,.pt 4 0),(36,.ag [.z e.p.node,.u e.p.inc]),(37,.pt 4 2),(38,.u ((e.l.length+1))),(39,.pt 4 3),(40,.d (.ro 1 (al b))),(34,.ag [.z e.p.node,.u e.p.inc]),(41,.ag [.z 2,.z e.p.node,.u e.p.inc,.z e.p.node,.u e.p.inc,.u ((e.l.length+1)),.d (.ro 1 (al b)),.d (.v (.int .u64 0)),.z 0,.d (.v (.int .u64 0)),.d (.v (.slice none 0 0)),.d (.v (.slice none 0 0)),.d (.v (.slice none 0 0))]),(42,.sl 5 (1))]) (M':=[.bx 68 [.z e.p.node,.u e.p.inc,.z e.st,.d (.v (.int .u64 0)),.z e.p.node,.u e.p.inc,.d (.ro 2 (procs [e.p])),.d (.ro 1 (ae [0])),.d (.ro 1 (streams [aq 0 (e.l++[b])])),.d (.ro 1 (ae [(e.l++[b]).length])),.u ((e.l.length+1)),.u e.aF,.d (.v (.bool (e.act))),.d (.ro 2 (procs e.set)),.z e.sy.kind,.z e.sy.src.node,.u e.sy.src.inc,.u e.sy.vw.round,.z e.sy.vw.server.node,.u e.sy.vw.server.inc,.u e.sy.n,.d (.v (.slice none 0 0)),.u e.sy.aF,.d (.ro 1 (ae e.sy.cut)),.d (.v (.bool false)),.d (.v (.slice none 0 0)),.d (.v (.bool false)),.d (.v (.int .u64 0)),.z 0,.d (.v (.int .u64 0)),.d (.ro 2 ([])),.d (.ro 1 ([])),.d (.v (.slice none 0 0)),.d (.v (.int .u64 0)),.z 0,.d (.v (.int .u64 0)),.d (.ro 2 ([])),.d (.ro 1 ([])),.d (.ro 1 ([])),.d (.ro 1 ([])),.z 0,.z 0,.d (.v (.int .u64 0)),.d (.v (.int .u64 0)),.z 0,.d (.v (.int .u64 0)),.d (.v (.int .u64 0)),.d (.v (.slice none 0 0)),.d (.v (.int .u64 0)),.d (.ro 1 ([])),.d (.v (.bool false)),.d (.v (.slice none 0 0)),.sl 3 (1+(1))],.dead,.bx 37 [.d (.v (.int .u64 0)),.z e.p.node,.u e.p.inc,.d (.ro 2 (procs [e.p])),.d (.ro 1 (ae [0])),.d (.ro 1 (streams [aq 0 (e.l++[b])])),.d (.ro 1 (ae [(e.l++[b]).length]))],.rw 58 13 ([cz e b]++[[.z 2,.z e.p.node,.u e.p.inc,.z e.p.node,.u e.p.inc,.u ((e.l.length+1)),.ro 1 (al b),.v (.int .u64 0),.z 0,.v (.int .u64 0),.v (.slice none 0 0),.v (.slice none 0 0),.v (.slice none 0 0)]]),.bx 94 [.z e.p.node,.u e.p.inc,.u ((e.l.length+1)),.d (.ro 1 (al b))],.dead]) tk tq hK bE [(4,[(0,.ix (0) [.z e.p.node,.u e.p.inc,.u ((e.l.length+1)),.ro 1 (al b)])]),(5,[(14,.b9 200 [])])] 9 1 [5] [[0,1,2,3,4,5]] [0,23,24,25,26,27,28,7,29,30,31,32,33,35,36,37,38,39,40,34,41,42] r (by kernel_rfl) (U (U Tx (U Ty (U Tz (U TA (U TB (U TC (U TD trivial))))))) trivial) fun ac wd r=>?_
 refine g6 (todo':=hd Tryz.f23 0) (E':=[(0,.pt 0 0),(23,.d (.ro 4 (msgs [⟨e.p,e.l.length+1,b⟩]))),(24,.n 1),(25,.z 1),(26,.d (.v (.bool true))),(27,.rp [.z e.p.node,.u e.p.inc,.u ((e.l.length+1)),.ro 1 (al b)] 0),(28,.ag [.z e.p.node,.u e.p.inc,.u ((e.l.length+1)),.d (.ro 1 (al b))]),(7,.pt 4 0),(29,.pt 0 0),(30,.pt 0 0),(31,.pt 0 0),(32,.pt 0 0),(33,.pt 0 0),(35,.pt 4 0),(36,.ag [.z e.p.node,.u e.p.inc]),(37,.pt 4 2),(38,.u ((e.l.length+1))),(39,.pt 4 3),(40,.d (.ro 1 (al b))),(34,.ag [.z e.p.node,.u e.p.inc]),(41,.ag [.z 2,.z e.p.node,.u e.p.inc,.z e.p.node,.u e.p.inc,.u ((e.l.length+1)),.d (.ro 1 (al b)),.d (.v (.int .u64 0)),.z 0,.d (.v (.int .u64 0)),.d (.v (.slice none 0 0)),.d (.v (.slice none 0 0)),.d (.v (.slice none 0 0))]),(42,.sl 5 (1)),(44,.z 1)]) (M':=[.bx 68 [.z e.p.node,.u e.p.inc,.z e.st,.d (.v (.int .u64 0)),.z e.p.node,.u e.p.inc,.d (.ro 2 (procs [e.p])),.d (.ro 1 (ae [0])),.d (.ro 1 (streams [aq 0 (e.l++[b])])),.d (.ro 1 (ae [(e.l++[b]).length])),.u ((e.l.length+1)),.u e.aF,.d (.v (.bool (e.act))),.d (.ro 2 (procs e.set)),.z e.sy.kind,.z e.sy.src.node,.u e.sy.src.inc,.u e.sy.vw.round,.z e.sy.vw.server.node,.u e.sy.vw.server.inc,.u e.sy.n,.d (.v (.slice none 0 0)),.u e.sy.aF,.d (.ro 1 (ae e.sy.cut)),.d (.v (.bool false)),.d (.v (.slice none 0 0)),.d (.v (.bool false)),.d (.v (.int .u64 0)),.z 0,.d (.v (.int .u64 0)),.d (.ro 2 ([])),.d (.ro 1 ([])),.d (.v (.slice none 0 0)),.d (.v (.int .u64 0)),.z 0,.d (.v (.int .u64 0)),.d (.ro 2 ([])),.d (.ro 1 ([])),.d (.ro 1 ([])),.d (.ro 1 ([])),.z 0,.z 0,.d (.v (.int .u64 0)),.d (.v (.int .u64 0)),.z 0,.d (.v (.int .u64 0)),.d (.v (.int .u64 0)),.d (.v (.slice none 0 0)),.d (.v (.int .u64 0)),.d (.ro 1 ([])),.d (.v (.bool false)),.d (.v (.slice none 0 0)),.sl 3 (1+(1))],.dead,.bx 37 [.d (.v (.int .u64 0)),.z e.p.node,.u e.p.inc,.d (.ro 2 (procs [e.p])),.d (.ro 1 (ae [0])),.d (.ro 1 (streams [aq 0 (e.l++[b])])),.d (.ro 1 (ae [(e.l++[b]).length]))],.rw 58 13 ([cz e b]++[[.z 2,.z e.p.node,.u e.p.inc,.z e.p.node,.u e.p.inc,.u ((e.l.length+1)),.ro 1 (al b),.v (.int .u64 0),.z 0,.v (.int .u64 0),.v (.slice none 0 0),.v (.slice none 0 0),.v (.slice none 0 0)]]),.bx 94 [.z e.p.node,.u e.p.inc,.u ((e.l.length+1)),.d (.ro 1 (al b))],.dead]) tk tq hK bE [(6,[(0,.z (1))])] 2000 [0,1,2,3,4,5] [0,23,24,25,26,27,28,7,29,30,31,32,33,35,36,37,38,39,40,34,41,42,44] r (by kernel_rfl) (U ((wi (by omega)):IntKind.i64.wrap ((0:Int)+1)=1) trivial) fun ac wd r=>?_
 refine gj (y:=.tu []) (N':=[.bx 68 [.z e.p.node,.u e.p.inc,.z e.st,.d (.v (.int .u64 0)),.z e.p.node,.u e.p.inc,.d (.ro 2 (procs [e.p])),.d (.ro 1 (ae [0])),.d (.ro 1 (streams [aq 0 (e.l++[b])])),.d (.ro 1 (ae [(e.l++[b]).length])),.u ((e.l.length+1)),.u e.aF,.d (.v (.bool (e.act))),.d (.ro 2 (procs e.set)),.z e.sy.kind,.z e.sy.src.node,.u e.sy.src.inc,.u e.sy.vw.round,.z e.sy.vw.server.node,.u e.sy.vw.server.inc,.u e.sy.n,.d (.v (.slice none 0 0)),.u e.sy.aF,.d (.ro 1 (ae e.sy.cut)),.d (.v (.bool false)),.d (.v (.slice none 0 0)),.d (.v (.bool false)),.d (.v (.int .u64 0)),.z 0,.d (.v (.int .u64 0)),.d (.ro 2 ([])),.d (.ro 1 ([])),.d (.v (.slice none 0 0)),.d (.v (.int .u64 0)),.z 0,.d (.v (.int .u64 0)),.d (.ro 2 ([])),.d (.ro 1 ([])),.d (.ro 1 ([])),.d (.ro 1 ([])),.z 0,.z 0,.d (.v (.int .u64 0)),.d (.v (.int .u64 0)),.z 0,.d (.v (.int .u64 0)),.d (.v (.int .u64 0)),.d (.v (.slice none 0 0)),.d (.v (.int .u64 0)),.d (.ro 1 ([])),.d (.v (.bool false)),.d (.v (.slice none 0 0)),.sl 2 (1+(1))],.dead,.rw 58 13 ([cz e b]++[[.z 2,.z e.p.node,.u e.p.inc,.z e.p.node,.u e.p.inc,.u ((e.l.length+1)),.ro 1 (al b),.v (.int .u64 0),.z 0,.v (.int .u64 0),.v (.slice none 0 0),.v (.slice none 0 0),.v (.slice none 0 0)]])]) (rfl) (rfl) ?_
 exact gg tk tq hK rfl bE [] 2000 [0,1,3] r (by kernel_rfl) trivial
end Go.Proofs.YtgkdnnmcjjabdaaGreat
namespace Go.Proofs.YtgkdnnmcjjabdaaGreat
open Go.RowKit
def ED (e:En):List DV:=[.z e.p.node,.u e.p.inc,.z e.st,.v (.int .u64 0),.z e.p.node,.u e.p.inc,.ro 2 (procs [e.p]),.ro 1 (ae [0]),.ro 1 (streams [aq 0 e.l]),.ro 1 (ae [e.l.length]),.u e.l.length,.u e.aF,.v (.bool (e.act)),.ro 2 (procs e.set),.z e.sy.kind,.z e.sy.src.node,.u e.sy.src.inc,.u e.sy.vw.round,.z e.sy.vw.server.node,.u e.sy.vw.server.inc,.u e.sy.n,.v (.slice none 0 0),.u e.sy.aF,.ro 1 (ae e.sy.cut),.v (.bool false),.v (.slice none 0 0),.v (.bool false),.v (.int .u64 0),.z 0,.v (.int .u64 0),.ro 2 ([]),.ro 1 ([]),.v (.slice none 0 0),.v (.int .u64 0),.z 0,.v (.int .u64 0),.ro 2 ([]),.ro 1 ([]),.ro 1 ([]),.ro 1 ([]),.z 0,.z 0,.v (.int .u64 0),.v (.int .u64 0),.z 0,.v (.int .u64 0),.v (.int .u64 0),.v (.slice none 0 0),.v (.int .u64 0),.ro 1 ([]),.v (.bool false)]
def En.new (p:au):En:=⟨p,0,[],0,false,[],⟨0,⟨0,0⟩,⟨0,⟨0,0⟩⟩,0,0,[]⟩⟩
theorem Sp (p:au):aj Tryz.prog 14 [.ag [.d (.v (.int .u64 0)),.z p.node,.u p.inc,.d (.ro 2 (procs [p])),.d (.ro 1 (ae [0]))]] (.ag [.v (.int .u64 0),.z p.node,.u p.inc,.ro 2 (procs [p]),.ro 1 (ae [0]),.ro 1 (streams [aq 0 ([])]),.ro 1 (ae [0])]):=by
 have h:=(H5 (View.first p) ⟨by simp [View.first],by simp [View.first]⟩).bc
 exact h
set_option maxRecDepth 100000 in
theorem AY (e:En) (b:List UInt8) (h:e.Ok) (z:Int) (hz:e.st=2∧z=6∨e.st≠2∧64<b.length∧z=2∨e.st≠2∧b.length≤64∧16≤e.l.length∧z=4):aj Tryz.prog 8 [.ag [.z e.p.node,.u e.p.inc,.z e.st,.d (.v (.int .u64 0)),.z e.p.node,.u e.p.inc,.d (.ro 2 (procs [e.p])),.d (.ro 1 (ae [0])),.d (.ro 1 (streams [aq 0 e.l])),.d (.ro 1 (ae [e.l.length])),.u e.l.length,.u e.aF,.d (.v (.bool (e.act))),.d (.ro 2 (procs e.set)),.z e.sy.kind,.z e.sy.src.node,.u e.sy.src.inc,.u e.sy.vw.round,.z e.sy.vw.server.node,.u e.sy.vw.server.inc,.u e.sy.n,.d (.v (.slice none 0 0)),.u e.sy.aF,.d (.ro 1 (ae e.sy.cut)),.d (.v (.bool false)),.d (.v (.slice none 0 0)),.d (.v (.bool false)),.d (.v (.int .u64 0)),.z 0,.d (.v (.int .u64 0)),.d (.ro 2 ([])),.d (.ro 1 ([])),.d (.v (.slice none 0 0)),.d (.v (.int .u64 0)),.z 0,.d (.v (.int .u64 0)),.d (.ro 2 ([])),.d (.ro 1 ([])),.d (.ro 1 ([])),.d (.ro 1 ([])),.z 0,.z 0,.d (.v (.int .u64 0)),.d (.v (.int .u64 0)),.z 0,.d (.v (.int .u64 0)),.d (.v (.int .u64 0)),.d (.v (.slice none 0 0)),.d (.v (.int .u64 0)),.d (.ro 1 ([])),.d (.v (.bool false))],.d (.ro 1 (al b))] (.tu [.ag (ED e),.ag [.v (.slice none 0 0),.v (.slice none 0 0)],.v (.int .i64 z)]):=by
 refine aj.intro (by kernel_rfl) rfl rfl 118 rfl rfl fun w0 K ac hK r=>?_
 cases h0:((e.st:Int)==2) with
 | false=>
  have bq:=ne_of_beq_false h0
  have fZ:=((by simp [al]):(((al b).length:Nat):Int)=((b.length:Nat):Int))
  cases h1:(decide ((64:Int)<((b.length:Nat):Int))) with
  | false=>
   have b6:=of_decide_eq_false h1
   cases h2:(decide ((16:Int)≤((e.l.length:Nat):Int))) with
   | false=>
    have dg:=of_decide_eq_false h2
    exact absurd hz (by omega)
   | true=>
    have dg:=of_decide_eq_true h2
    rw [show (.tu [.ag (ED e),.ag [.v (.slice none 0 0),.v (.slice none 0 0)],.v (.int .i64 z)]:DV)=.tu [.ag [.z e.p.node,.u e.p.inc,.z e.st,.v (.int .u64 0),.z e.p.node,.u e.p.inc,.ro 2 (procs [e.p]),.ro 1 (ae [0]),.ro 1 (streams [aq 0 e.l]),.ro 1 (ae [e.l.length]),.u e.l.length,.u e.aF,.v (.bool (e.act)),.ro 2 (procs e.set),.z e.sy.kind,.z e.sy.src.node,.u e.sy.src.inc,.u e.sy.vw.round,.z e.sy.vw.server.node,.u e.sy.vw.server.inc,.u e.sy.n,.v (.slice none 0 0),.u e.sy.aF,.ro 1 (ae e.sy.cut),.v (.bool false),.v (.slice none 0 0),.v (.bool false),.v (.int .u64 0),.z 0,.v (.int .u64 0),.ro 2 ([]),.ro 1 ([]),.v (.slice none 0 0),.v (.int .u64 0),.z 0,.v (.int .u64 0),.ro 2 ([]),.ro 1 ([]),.ro 1 ([]),.ro 1 ([]),.z 0,.z 0,.v (.int .u64 0),.v (.int .u64 0),.z 0,.v (.int .u64 0),.v (.int .u64 0),.v (.slice none 0 0),.v (.int .u64 0),.ro 1 ([]),.v (.bool false)],.ag [.v (.slice none 0 0),.v (.slice none 0 0)],.z 4] from (by first | (rw [show z=6 by omega];rfl) | (rw [show z=2 by omega];rfl) | (rw [show z=4 by omega];rfl))]
    exact aM tk tq hK rfl [(1,[(1,.mem [] (.pt 0 0) [.bx 68 [.z e.p.node,.u e.p.inc,.z e.st,.d (.v (.int .u64 0)),.z e.p.node,.u e.p.inc,.d (.ro 2 (procs [e.p])),.d (.ro 1 (ae [0])),.d (.ro 1 (streams [aq 0 e.l])),.d (.ro 1 (ae [e.l.length])),.u e.l.length,.u e.aF,.d (.v (.bool (e.act))),.d (.ro 2 (procs e.set)),.z e.sy.kind,.z e.sy.src.node,.u e.sy.src.inc,.u e.sy.vw.round,.z e.sy.vw.server.node,.u e.sy.vw.server.inc,.u e.sy.n,.d (.v (.slice none 0 0)),.u e.sy.aF,.d (.ro 1 (ae e.sy.cut)),.d (.v (.bool false)),.d (.v (.slice none 0 0)),.d (.v (.bool false)),.d (.v (.int .u64 0)),.z 0,.d (.v (.int .u64 0)),.d (.ro 2 ([])),.d (.ro 1 ([])),.d (.v (.slice none 0 0)),.d (.v (.int .u64 0)),.z 0,.d (.v (.int .u64 0)),.d (.ro 2 ([])),.d (.ro 1 ([])),.d (.ro 1 ([])),.d (.ro 1 ([])),.z 0,.z 0,.d (.v (.int .u64 0)),.d (.v (.int .u64 0)),.z 0,.d (.v (.int .u64 0)),.d (.v (.int .u64 0)),.d (.v (.slice none 0 0)),.d (.v (.int .u64 0)),.d (.ro 1 ([])),.d (.v (.bool false)),.d (.v (.slice none 0 0)),.d (.v (.slice none 0 0))]])]),(2,[(5,.b false)]),(4,[(1,.z (((b.length:Nat):Int))),(2,.b false)]),(6,[(5,.b true)])] 2000 r (by kernel_rfl) (U (iB e h) (U h0 (U fZ (U h1 (U h2 trivial)))))
  | true=>
   have b6:=of_decide_eq_true h1
   rw [show (.tu [.ag (ED e),.ag [.v (.slice none 0 0),.v (.slice none 0 0)],.v (.int .i64 z)]:DV)=.tu [.ag [.z e.p.node,.u e.p.inc,.z e.st,.v (.int .u64 0),.z e.p.node,.u e.p.inc,.ro 2 (procs [e.p]),.ro 1 (ae [0]),.ro 1 (streams [aq 0 e.l]),.ro 1 (ae [e.l.length]),.u e.l.length,.u e.aF,.v (.bool (e.act)),.ro 2 (procs e.set),.z e.sy.kind,.z e.sy.src.node,.u e.sy.src.inc,.u e.sy.vw.round,.z e.sy.vw.server.node,.u e.sy.vw.server.inc,.u e.sy.n,.v (.slice none 0 0),.u e.sy.aF,.ro 1 (ae e.sy.cut),.v (.bool false),.v (.slice none 0 0),.v (.bool false),.v (.int .u64 0),.z 0,.v (.int .u64 0),.ro 2 ([]),.ro 1 ([]),.v (.slice none 0 0),.v (.int .u64 0),.z 0,.v (.int .u64 0),.ro 2 ([]),.ro 1 ([]),.ro 1 ([]),.ro 1 ([]),.z 0,.z 0,.v (.int .u64 0),.v (.int .u64 0),.z 0,.v (.int .u64 0),.v (.int .u64 0),.v (.slice none 0 0),.v (.int .u64 0),.ro 1 ([]),.v (.bool false)],.ag [.v (.slice none 0 0),.v (.slice none 0 0)],.z 2] from (by first | (rw [show z=6 by omega];rfl) | (rw [show z=2 by omega];rfl) | (rw [show z=4 by omega];rfl))]
   exact aM tk tq hK rfl [(1,[(1,.mem [] (.pt 0 0) [.bx 68 [.z e.p.node,.u e.p.inc,.z e.st,.d (.v (.int .u64 0)),.z e.p.node,.u e.p.inc,.d (.ro 2 (procs [e.p])),.d (.ro 1 (ae [0])),.d (.ro 1 (streams [aq 0 e.l])),.d (.ro 1 (ae [e.l.length])),.u e.l.length,.u e.aF,.d (.v (.bool (e.act))),.d (.ro 2 (procs e.set)),.z e.sy.kind,.z e.sy.src.node,.u e.sy.src.inc,.u e.sy.vw.round,.z e.sy.vw.server.node,.u e.sy.vw.server.inc,.u e.sy.n,.d (.v (.slice none 0 0)),.u e.sy.aF,.d (.ro 1 (ae e.sy.cut)),.d (.v (.bool false)),.d (.v (.slice none 0 0)),.d (.v (.bool false)),.d (.v (.int .u64 0)),.z 0,.d (.v (.int .u64 0)),.d (.ro 2 ([])),.d (.ro 1 ([])),.d (.v (.slice none 0 0)),.d (.v (.int .u64 0)),.z 0,.d (.v (.int .u64 0)),.d (.ro 2 ([])),.d (.ro 1 ([])),.d (.ro 1 ([])),.d (.ro 1 ([])),.z 0,.z 0,.d (.v (.int .u64 0)),.d (.v (.int .u64 0)),.z 0,.d (.v (.int .u64 0)),.d (.v (.int .u64 0)),.d (.v (.slice none 0 0)),.d (.v (.int .u64 0)),.d (.ro 1 ([])),.d (.v (.bool false)),.d (.v (.slice none 0 0)),.d (.v (.slice none 0 0))]])]),(2,[(5,.b false)]),(4,[(1,.z (((b.length:Nat):Int))),(2,.b true)])] 2000 r (by kernel_rfl) (U (iB e h) (U h0 (U fZ (U h1 trivial))))
 | true=>
  have bq:=eq_of_beq h0
  rw [show (.tu [.ag (ED e),.ag [.v (.slice none 0 0),.v (.slice none 0 0)],.v (.int .i64 z)]:DV)=.tu [.ag [.z e.p.node,.u e.p.inc,.z e.st,.v (.int .u64 0),.z e.p.node,.u e.p.inc,.ro 2 (procs [e.p]),.ro 1 (ae [0]),.ro 1 (streams [aq 0 e.l]),.ro 1 (ae [e.l.length]),.u e.l.length,.u e.aF,.v (.bool (e.act)),.ro 2 (procs e.set),.z e.sy.kind,.z e.sy.src.node,.u e.sy.src.inc,.u e.sy.vw.round,.z e.sy.vw.server.node,.u e.sy.vw.server.inc,.u e.sy.n,.v (.slice none 0 0),.u e.sy.aF,.ro 1 (ae e.sy.cut),.v (.bool false),.v (.slice none 0 0),.v (.bool false),.v (.int .u64 0),.z 0,.v (.int .u64 0),.ro 2 ([]),.ro 1 ([]),.v (.slice none 0 0),.v (.int .u64 0),.z 0,.v (.int .u64 0),.ro 2 ([]),.ro 1 ([]),.ro 1 ([]),.ro 1 ([]),.z 0,.z 0,.v (.int .u64 0),.v (.int .u64 0),.z 0,.v (.int .u64 0),.v (.int .u64 0),.v (.slice none 0 0),.v (.int .u64 0),.ro 1 ([]),.v (.bool false)],.ag [.v (.slice none 0 0),.v (.slice none 0 0)],.z 6] from (by first | (rw [show z=6 by omega];rfl) | (rw [show z=2 by omega];rfl) | (rw [show z=4 by omega];rfl))]
  exact aM tk tq hK rfl [(1,[(1,.mem [] (.pt 0 0) [.bx 68 [.z e.p.node,.u e.p.inc,.z e.st,.d (.v (.int .u64 0)),.z e.p.node,.u e.p.inc,.d (.ro 2 (procs [e.p])),.d (.ro 1 (ae [0])),.d (.ro 1 (streams [aq 0 e.l])),.d (.ro 1 (ae [e.l.length])),.u e.l.length,.u e.aF,.d (.v (.bool (e.act))),.d (.ro 2 (procs e.set)),.z e.sy.kind,.z e.sy.src.node,.u e.sy.src.inc,.u e.sy.vw.round,.z e.sy.vw.server.node,.u e.sy.vw.server.inc,.u e.sy.n,.d (.v (.slice none 0 0)),.u e.sy.aF,.d (.ro 1 (ae e.sy.cut)),.d (.v (.bool false)),.d (.v (.slice none 0 0)),.d (.v (.bool false)),.d (.v (.int .u64 0)),.z 0,.d (.v (.int .u64 0)),.d (.ro 2 ([])),.d (.ro 1 ([])),.d (.v (.slice none 0 0)),.d (.v (.int .u64 0)),.z 0,.d (.v (.int .u64 0)),.d (.ro 2 ([])),.d (.ro 1 ([])),.d (.ro 1 ([])),.d (.ro 1 ([])),.z 0,.z 0,.d (.v (.int .u64 0)),.d (.v (.int .u64 0)),.z 0,.d (.v (.int .u64 0)),.d (.v (.int .u64 0)),.d (.v (.slice none 0 0)),.d (.v (.int .u64 0)),.d (.ro 1 ([])),.d (.v (.bool false)),.d (.v (.slice none 0 0)),.d (.v (.slice none 0 0))]])]),(2,[(5,.b true)])] 2000 r (by kernel_rfl) (U (iB e h) (U h0 trivial))
set_option maxRecDepth 100000 in
theorem OS (e:En) (b:List UInt8) (h:e.Ok) (hs:e.st≠2) (hb:b.length≤64) (kV:e.l.length<16):aj Tryz.prog 8 [.ag [.z e.p.node,.u e.p.inc,.z e.st,.d (.v (.int .u64 0)),.z e.p.node,.u e.p.inc,.d (.ro 2 (procs [e.p])),.d (.ro 1 (ae [0])),.d (.ro 1 (streams [aq 0 e.l])),.d (.ro 1 (ae [e.l.length])),.u e.l.length,.u e.aF,.d (.v (.bool (e.act))),.d (.ro 2 (procs e.set)),.z e.sy.kind,.z e.sy.src.node,.u e.sy.src.inc,.u e.sy.vw.round,.z e.sy.vw.server.node,.u e.sy.vw.server.inc,.u e.sy.n,.d (.v (.slice none 0 0)),.u e.sy.aF,.d (.ro 1 (ae e.sy.cut)),.d (.v (.bool false)),.d (.v (.slice none 0 0)),.d (.v (.bool false)),.d (.v (.int .u64 0)),.z 0,.d (.v (.int .u64 0)),.d (.ro 2 ([])),.d (.ro 1 ([])),.d (.v (.slice none 0 0)),.d (.v (.int .u64 0)),.z 0,.d (.v (.int .u64 0)),.d (.ro 2 ([])),.d (.ro 1 ([])),.d (.ro 1 ([])),.d (.ro 1 ([])),.z 0,.z 0,.d (.v (.int .u64 0)),.d (.v (.int .u64 0)),.z 0,.d (.v (.int .u64 0)),.d (.v (.int .u64 0)),.d (.v (.slice none 0 0)),.d (.v (.int .u64 0)),.d (.ro 1 ([])),.d (.v (.bool false))],.d (.ro 1 (al b))] (.tu [.ag [.z e.p.node,.u e.p.inc,.z e.st,.v (.int .u64 0),.z e.p.node,.u e.p.inc,.ro 2 (procs [e.p]),.ro 1 (ae [0]),.ro 1 (streams [aq 0 (e.l++[b])]),.ro 1 (ae [(e.l++[b]).length]),.u ((e.l.length+1)),.u e.aF,.v (.bool (e.act)),.ro 2 (procs e.set),.z e.sy.kind,.z e.sy.src.node,.u e.sy.src.inc,.u e.sy.vw.round,.z e.sy.vw.server.node,.u e.sy.vw.server.inc,.u e.sy.n,.v (.slice none 0 0),.u e.sy.aF,.ro 1 (ae e.sy.cut),.v (.bool false),.v (.slice none 0 0),.v (.bool false),.v (.int .u64 0),.z 0,.v (.int .u64 0),.ro 2 ([]),.ro 1 ([]),.v (.slice none 0 0),.v (.int .u64 0),.z 0,.v (.int .u64 0),.ro 2 ([]),.ro 1 ([]),.ro 1 ([]),.ro 1 ([]),.z 0,.z 0,.v (.int .u64 0),.v (.int .u64 0),.z 0,.v (.int .u64 0),.v (.int .u64 0),.v (.slice none 0 0),.v (.int .u64 0),.ro 1 ([]),.v (.bool false)],.ag [.v (.slice none 0 0),.em 58 13 [cz e b,iq e b]],.v (.int .i64 0)]):=by
 have gR:=HE h.l kV hb
 refine aj.intro (by kernel_rfl) rfl rfl 118 rfl rfl fun w0 K ac hK r=>?_
 cases h0:((e.st:Int)==2) with
 | false=>
  have bq:=ne_of_beq_false h0
  have fZ:=((by first | rfl | simp [al]):(((al b).length:Nat):Int)=((b.length:Nat):Int))
  cases h1:(decide ((64:Int)<((b.length:Nat):Int))) with
  | false=>
   have b6:=of_decide_eq_false h1
   cases h2:(decide ((16:Int)≤((e.l.length:Nat):Int))) with
   | false=>
    have dg:=of_decide_eq_false h2
    have na:=((by first | rfl | simp [al]):(((al b).length:Nat):Int)=((b.length:Nat):Int))
    have nc:=((wu (by omega)):IntKind.u64.wrap ((((e.l.length:Nat):Int):Int)+1)=((e.l.length+1:Nat):Int))
    have kM:=((by first | rfl | (simp;done) | (simp<;>omega)):(1)=([[.z 1,.z e.p.node,.u e.p.inc,.z 0,.v (.int .u64 0),.u (e.l.length+1),.ro 1 (al b),.v (.int .u64 0),.z 0,.v (.int .u64 0),.v (.slice none 0 0),.v (.slice none 0 0),.v (.slice none 0 0)]]:List (List DV)).length)
    have ng:=((by first | omega | (simp [cR];done) | (simp [cR];omega)):(2*(0+(1))+192)*168≤281474976710656)
    have nh:=((by first | omega | (simp [cR];done) | (simp [cR];omega)):0+(1)<4611686018427387904)
    have lR:=((by simp [bX,AV.one,cA,al]):bX ([[.z 1,.z e.p.node,.u e.p.inc,.z 0,.v (.int .u64 0),.u (e.l.length+1),.ro 1 (al b),.v (.int .u64 0),.z 0,.v (.int .u64 0),.v (.slice none 0 0),.v (.slice none 0 0),.v (.slice none 0 0)]]))
    refine lu (todo':=aft Tryz.f8 9) (E':=[(1,.d (.ro 1 (al b))),(4,.pt 1 0),(5,.pt 2 0),(6,.z 0),(7,.pt 3 0)]) (M':=[.bx 42 [.z e.p.node,.u e.p.inc,.z e.st,.d (.v (.int .u64 0)),.z e.p.node,.u e.p.inc,.d (.ro 2 (procs [e.p])),.d (.ro 1 (ae [0])),.d (.ro 1 (streams [aq 0 e.l])),.d (.ro 1 (ae [e.l.length])),.u e.l.length,.u e.aF,.d (.v (.bool (e.act))),.d (.ro 2 (procs e.set)),.z e.sy.kind,.z e.sy.src.node,.u e.sy.src.inc,.u e.sy.vw.round,.z e.sy.vw.server.node,.u e.sy.vw.server.inc,.u e.sy.n,.d (.v (.slice none 0 0)),.u e.sy.aF,.d (.ro 1 (ae e.sy.cut)),.d (.v (.bool false)),.d (.v (.slice none 0 0)),.d (.v (.bool false)),.d (.v (.int .u64 0)),.z 0,.d (.v (.int .u64 0)),.d (.ro 2 ([])),.d (.ro 1 ([])),.d (.v (.slice none 0 0)),.d (.v (.int .u64 0)),.z 0,.d (.v (.int .u64 0)),.d (.ro 2 ([])),.d (.ro 1 ([])),.d (.ro 1 ([])),.d (.ro 1 ([])),.z 0,.z 0,.d (.v (.int .u64 0)),.d (.v (.int .u64 0)),.z 0,.d (.v (.int .u64 0)),.d (.v (.int .u64 0)),.d (.v (.slice none 0 0)),.d (.v (.int .u64 0)),.d (.ro 1 ([])),.d (.v (.bool false))],.bx 42 [.z 0,.d (.v (.int .u64 0)),.z 0,.d (.v (.int .u64 0)),.z 0,.d (.v (.int .u64 0)),.d (.v (.slice none 0 0)),.d (.v (.slice none 0 0)),.d (.v (.slice none 0 0)),.d (.v (.slice none 0 0)),.d (.v (.int .u64 0)),.d (.v (.int .u64 0)),.d (.v (.bool false)),.d (.v (.slice none 0 0)),.z 0,.z 0,.d (.v (.int .u64 0)),.d (.v (.int .u64 0)),.z 0,.d (.v (.int .u64 0)),.d (.v (.int .u64 0)),.d (.v (.slice none 0 0)),.d (.v (.int .u64 0)),.d (.v (.slice none 0 0)),.d (.v (.bool false)),.d (.v (.slice none 0 0)),.d (.v (.bool false)),.d (.v (.int .u64 0)),.z 0,.d (.v (.int .u64 0)),.d (.v (.slice none 0 0)),.d (.v (.slice none 0 0)),.d (.v (.slice none 0 0)),.d (.v (.int .u64 0)),.z 0,.d (.v (.int .u64 0)),.d (.v (.slice none 0 0)),.d (.v (.slice none 0 0)),.d (.v (.slice none 0 0)),.d (.v (.slice none 0 0)),.z 0,.z 0,.d (.v (.int .u64 0)),.d (.v (.int .u64 0)),.z 0,.d (.v (.int .u64 0)),.d (.v (.int .u64 0)),.d (.v (.slice none 0 0)),.d (.v (.int .u64 0)),.d (.v (.slice none 0 0)),.d (.v (.bool false))],.bx 47 [.d (.v (.slice none 0 0)),.d (.v (.slice none 0 0))],.bx 68 [.z e.p.node,.u e.p.inc,.z e.st,.d (.v (.int .u64 0)),.z e.p.node,.u e.p.inc,.d (.ro 2 (procs [e.p])),.d (.ro 1 (ae [0])),.d (.ro 1 (streams [aq 0 e.l])),.d (.ro 1 (ae [e.l.length])),.u (e.l.length+1),.u e.aF,.d (.v (.bool (e.act))),.d (.ro 2 (procs e.set)),.z e.sy.kind,.z e.sy.src.node,.u e.sy.src.inc,.u e.sy.vw.round,.z e.sy.vw.server.node,.u e.sy.vw.server.inc,.u e.sy.n,.d (.v (.slice none 0 0)),.u e.sy.aF,.d (.ro 1 (ae e.sy.cut)),.d (.v (.bool false)),.d (.v (.slice none 0 0)),.d (.v (.bool false)),.d (.v (.int .u64 0)),.z 0,.d (.v (.int .u64 0)),.d (.ro 2 ([])),.d (.ro 1 ([])),.d (.v (.slice none 0 0)),.d (.v (.int .u64 0)),.z 0,.d (.v (.int .u64 0)),.d (.ro 2 ([])),.d (.ro 1 ([])),.d (.ro 1 ([])),.d (.ro 1 ([])),.z 0,.z 0,.d (.v (.int .u64 0)),.d (.v (.int .u64 0)),.z 0,.d (.v (.int .u64 0)),.d (.v (.int .u64 0)),.d (.v (.slice none 0 0)),.d (.v (.int .u64 0)),.d (.ro 1 ([])),.d (.v (.bool false)),.d (.v (.slice none 0 0)),.sl 5 ((1))],.dead,.rw 58 13 ([[.z 1,.z e.p.node,.u e.p.inc,.z 0,.v (.int .u64 0),.u (e.l.length+1),.ro 1 (al b),.v (.int .u64 0),.z 0,.v (.int .u64 0),.v (.slice none 0 0),.v (.slice none 0 0),.v (.slice none 0 0)]])]) tk tq hK [(1,[(1,.mem [] (.pt 0 0) [.bx 68 [.z e.p.node,.u e.p.inc,.z e.st,.d (.v (.int .u64 0)),.z e.p.node,.u e.p.inc,.d (.ro 2 (procs [e.p])),.d (.ro 1 (ae [0])),.d (.ro 1 (streams [aq 0 e.l])),.d (.ro 1 (ae [e.l.length])),.u e.l.length,.u e.aF,.d (.v (.bool (e.act))),.d (.ro 2 (procs e.set)),.z e.sy.kind,.z e.sy.src.node,.u e.sy.src.inc,.u e.sy.vw.round,.z e.sy.vw.server.node,.u e.sy.vw.server.inc,.u e.sy.n,.d (.v (.slice none 0 0)),.u e.sy.aF,.d (.ro 1 (ae e.sy.cut)),.d (.v (.bool false)),.d (.v (.slice none 0 0)),.d (.v (.bool false)),.d (.v (.int .u64 0)),.z 0,.d (.v (.int .u64 0)),.d (.ro 2 ([])),.d (.ro 1 ([])),.d (.v (.slice none 0 0)),.d (.v (.int .u64 0)),.z 0,.d (.v (.int .u64 0)),.d (.ro 2 ([])),.d (.ro 1 ([])),.d (.ro 1 ([])),.d (.ro 1 ([])),.z 0,.z 0,.d (.v (.int .u64 0)),.d (.v (.int .u64 0)),.z 0,.d (.v (.int .u64 0)),.d (.v (.int .u64 0)),.d (.v (.slice none 0 0)),.d (.v (.int .u64 0)),.d (.ro 1 ([])),.d (.v (.bool false)),.d (.v (.slice none 0 0)),.d (.v (.slice none 0 0))]])]),(2,[(5,.b false)]),(4,[(1,.z (((b.length:Nat):Int))),(2,.b false)]),(6,[(5,.b false)]),(8,[(5,.z (((e.l.length+1:Nat):Int)))]),(9,[(12,.aL (.ro 1 (al b))),(15,.b9 200 [])])] 20 6 [5,10] [[0,1,2,3,4,5],[0,1,2,3,4,5],[0,1,2,3,4,5],[0,1,2,3,4,5],[0,1,2,3,4,5],[0,1,2,3,4,5]] [1,4,5,6,7] r (by kernel_rfl) (U (U (iB e h) (U h0 (U na (U h1 (U h2 (U nc (U (n7 b (by omega)) (U kM (U ng (U nh (U lR trivial))))))))))) (U (U (iB e h) (U h0 (U na (U h1 (U h2 (U nc (U (n7 b (by omega)) (U kM (U ng (U nh (U lR trivial))))))))))) (U (U (iB e h) (U h0 (U na (U h1 (U h2 (U nc (U (n7 b (by omega)) (U kM (U ng (U nh (U lR trivial))))))))))) (U (U (iB e h) (U h0 (U na (U h1 (U h2 (U nc (U (n7 b (by omega)) (U kM (U ng (U nh (U lR trivial))))))))))) (U (U (iB e h) (U h0 (U na (U h1 (U h2 (U nc (U (n7 b (by omega)) (U kM (U ng (U nh (U lR trivial))))))))))) (U (U (iB e h) (U h0 (U na (U h1 (U h2 (U nc (U (n7 b (by omega)) (U kM (U ng (U nh (U lR trivial))))))))))) trivial)))))) fun ac wd r=>?_
    refine bI (todo':=hd Tryz.f8 0) (E':=[(1,.d (.ro 1 (al b))),(4,.pt 1 0),(5,.pt 2 0),(6,.z 0),(7,.pt 3 0),(71,.pt 3 0),(72,.pt 3 0),(73,.pt 3 0),(74,.pt 3 0),(75,.ag [.z e.p.node,.u e.p.inc]),(76,.pt 3 0),(77,.pt 3 0),(78,.pt 3 0),(79,.pt 3 3),(80,.pt 3 3),(81,.pt 3 3),(82,.ag [.d (.v (.int .u64 0)),.z e.p.node,.u e.p.inc]),(83,.pt 3 0),(84,.pt 3 0),(85,.pt 3 0),(86,.pt 3 10),(87,.u (e.l.length+1)),(88,.d (.ro 1 (al b))),(89,.ag [.z 7,.z e.p.node,.u e.p.inc,.d (.v (.int .u64 0)),.z e.p.node,.u e.p.inc,.u (e.l.length+1),.d (.ro 1 (al b)),.d (.v (.int .u64 0)),.d (.v (.slice none 0 0)),.d (.v (.bool false))]),(8,.pt 6 0),(90,.pt 3 0),(91,.ag [.z 7,.z e.p.node,.u e.p.inc,.d (.v (.int .u64 0)),.z e.p.node,.u e.p.inc,.u (e.l.length+1),.d (.ro 1 (al b)),.d (.v (.int .u64 0)),.d (.v (.slice none 0 0)),.d (.v (.bool false))]),(92,.d (.v (.bool true))),(93,.pt 3 0),(94,.d (.ro 2 (([]:List (List DV))))),(95,.n ((([]:List (List DV))).length)),(96,.z 0)]) (M':=[.bx 42 [.z e.p.node,.u e.p.inc,.z e.st,.d (.v (.int .u64 0)),.z e.p.node,.u e.p.inc,.d (.ro 2 (procs [e.p])),.d (.ro 1 (ae [0])),.d (.ro 1 (streams [aq 0 e.l])),.d (.ro 1 (ae [e.l.length])),.u e.l.length,.u e.aF,.d (.v (.bool (e.act))),.d (.ro 2 (procs e.set)),.z e.sy.kind,.z e.sy.src.node,.u e.sy.src.inc,.u e.sy.vw.round,.z e.sy.vw.server.node,.u e.sy.vw.server.inc,.u e.sy.n,.d (.v (.slice none 0 0)),.u e.sy.aF,.d (.ro 1 (ae e.sy.cut)),.d (.v (.bool false)),.d (.v (.slice none 0 0)),.d (.v (.bool false)),.d (.v (.int .u64 0)),.z 0,.d (.v (.int .u64 0)),.d (.ro 2 ([])),.d (.ro 1 ([])),.d (.v (.slice none 0 0)),.d (.v (.int .u64 0)),.z 0,.d (.v (.int .u64 0)),.d (.ro 2 ([])),.d (.ro 1 ([])),.d (.ro 1 ([])),.d (.ro 1 ([])),.z 0,.z 0,.d (.v (.int .u64 0)),.d (.v (.int .u64 0)),.z 0,.d (.v (.int .u64 0)),.d (.v (.int .u64 0)),.d (.v (.slice none 0 0)),.d (.v (.int .u64 0)),.d (.ro 1 ([])),.d (.v (.bool false))],.bx 42 [.z 0,.d (.v (.int .u64 0)),.z 0,.d (.v (.int .u64 0)),.z 0,.d (.v (.int .u64 0)),.d (.v (.slice none 0 0)),.d (.v (.slice none 0 0)),.d (.v (.slice none 0 0)),.d (.v (.slice none 0 0)),.d (.v (.int .u64 0)),.d (.v (.int .u64 0)),.d (.v (.bool false)),.d (.v (.slice none 0 0)),.z 0,.z 0,.d (.v (.int .u64 0)),.d (.v (.int .u64 0)),.z 0,.d (.v (.int .u64 0)),.d (.v (.int .u64 0)),.d (.v (.slice none 0 0)),.d (.v (.int .u64 0)),.d (.v (.slice none 0 0)),.d (.v (.bool false)),.d (.v (.slice none 0 0)),.d (.v (.bool false)),.d (.v (.int .u64 0)),.z 0,.d (.v (.int .u64 0)),.d (.v (.slice none 0 0)),.d (.v (.slice none 0 0)),.d (.v (.slice none 0 0)),.d (.v (.int .u64 0)),.z 0,.d (.v (.int .u64 0)),.d (.v (.slice none 0 0)),.d (.v (.slice none 0 0)),.d (.v (.slice none 0 0)),.d (.v (.slice none 0 0)),.z 0,.z 0,.d (.v (.int .u64 0)),.d (.v (.int .u64 0)),.z 0,.d (.v (.int .u64 0)),.d (.v (.int .u64 0)),.d (.v (.slice none 0 0)),.d (.v (.int .u64 0)),.d (.v (.slice none 0 0)),.d (.v (.bool false))],.bx 47 [.d (.v (.slice none 0 0)),.d (.v (.slice none 0 0))],.bx 68 [.z e.p.node,.u e.p.inc,.z e.st,.d (.v (.int .u64 0)),.z e.p.node,.u e.p.inc,.d (.ro 2 (procs [e.p])),.d (.ro 1 (ae [0])),.d (.ro 1 (streams [aq 0 (e.l++[b])])),.d (.ro 1 (ae [e.l.length])),.u ((e.l.length+1)),.u e.aF,.d (.v (.bool (e.act))),.d (.ro 2 (procs e.set)),.z e.sy.kind,.z e.sy.src.node,.u e.sy.src.inc,.u e.sy.vw.round,.z e.sy.vw.server.node,.u e.sy.vw.server.inc,.u e.sy.n,.d (.v (.slice none 0 0)),.u e.sy.aF,.d (.ro 1 (ae e.sy.cut)),.d (.v (.bool false)),.d (.v (.slice none 0 0)),.d (.v (.bool false)),.d (.v (.int .u64 0)),.z 0,.d (.v (.int .u64 0)),.d (.ro 2 ([])),.d (.ro 1 ([])),.d (.v (.slice none 0 0)),.d (.v (.int .u64 0)),.z 0,.d (.v (.int .u64 0)),.d (.ro 2 ([])),.d (.ro 1 ([])),.d (.ro 1 ([])),.d (.ro 1 ([])),.z 0,.z 0,.d (.v (.int .u64 0)),.d (.v (.int .u64 0)),.z 0,.d (.v (.int .u64 0)),.d (.v (.int .u64 0)),.d (.v (.slice none 0 0)),.d (.v (.int .u64 0)),.d (.ro 1 ([])),.d (.v (.bool false)),.d (.v (.slice none 0 0)),.sl 5 (1)],.dead,.rw 58 13 ([cz e b]),.bx 39 [.z 7,.z e.p.node,.u e.p.inc,.d (.v (.int .u64 0)),.z e.p.node,.u e.p.inc,.u (e.l.length+1),.d (.ro 1 (al b)),.d (.v (.int .u64 0)),.d (.v (.slice none 0 0)),.d (.v (.bool false))],.bx 39 [.z 7,.z e.p.node,.u e.p.inc,.d (.v (.int .u64 0)),.z e.p.node,.u e.p.inc,.u (e.l.length+1),.d (.ro 1 (al b)),.d (.v (.int .u64 0)),.d (.v (.slice none 0 0)),.d (.v (.bool false))]]) tk tq hK [(11,[(2,.b9 200 [(2,[(13,.aL (.tu [.ag [.v (.int .u64 0),.z e.p.node,.u e.p.inc,.ro 2 (procs [e.p]),.ro 1 (ae [0]),.ro 1 (streams [aq 0 (e.l++[b])]),.ro 1 (ae [e.l.length])],.v (.bool true)]))])])]),(12,[(1,.mem [3,5] (.d (.ro 2 (([]:List (List DV))))) [.bx 68 [.z e.p.node,.u e.p.inc,.z e.st,.d (.v (.int .u64 0)),.z e.p.node,.u e.p.inc,.d (.ro 2 (procs [e.p])),.d (.ro 1 (ae [0])),.d (.ro 1 (streams [aq 0 (e.l++[b])])),.d (.ro 1 (ae [e.l.length])),.u ((e.l.length+1)),.u e.aF,.d (.v (.bool (e.act))),.d (.ro 2 (procs e.set)),.z e.sy.kind,.z e.sy.src.node,.u e.sy.src.inc,.u e.sy.vw.round,.z e.sy.vw.server.node,.u e.sy.vw.server.inc,.u e.sy.n,.d (.v (.slice none 0 0)),.u e.sy.aF,.d (.ro 1 (ae e.sy.cut)),.d (.v (.bool false)),.d (.v (.slice none 0 0)),.d (.v (.bool false)),.d (.v (.int .u64 0)),.z 0,.d (.v (.int .u64 0)),.d (.ro 2 ([])),.d (.ro 1 ([])),.d (.v (.slice none 0 0)),.d (.v (.int .u64 0)),.z 0,.d (.v (.int .u64 0)),.d (.ro 2 ([])),.d (.ro 1 ([])),.d (.ro 1 ([])),.d (.ro 1 ([])),.z 0,.z 0,.d (.v (.int .u64 0)),.d (.v (.int .u64 0)),.z 0,.d (.v (.int .u64 0)),.d (.v (.int .u64 0)),.d (.v (.slice none 0 0)),.d (.v (.int .u64 0)),.d (.ro 1 ([])),.d (.v (.bool false)),.d (.v (.slice none 0 0)),.sl 1 (1)],.rw 58 13 ([cz e b])])])] 2000 [0,1,2,3,4,5,6,7] [1,4,5,6,7,71,72,73,74,75,76,77,78,79,80,81,82,83,84,85,86,87,88,89,8,90,91,92,93,94,95,96] r (by kernel_rfl) (U (Sk e.p e.l b h.p h.l kV hb) (U (Ql e b) trivial)) fun ac wd r=>?_
    cases h3:(decide ((0:Int)<(((([]:List (List DV))).length:Nat):Int))) with
    | false=>
     have fY:=of_decide_eq_false h3
     rw [show (.tu [.ag [.z e.p.node,.u e.p.inc,.z e.st,.v (.int .u64 0),.z e.p.node,.u e.p.inc,.ro 2 (procs [e.p]),.ro 1 (ae [0]),.ro 1 (streams [aq 0 (e.l++[b])]),.ro 1 (ae [(e.l++[b]).length]),.u ((e.l.length+1)),.u e.aF,.v (.bool (e.act)),.ro 2 (procs e.set),.z e.sy.kind,.z e.sy.src.node,.u e.sy.src.inc,.u e.sy.vw.round,.z e.sy.vw.server.node,.u e.sy.vw.server.inc,.u e.sy.n,.v (.slice none 0 0),.u e.sy.aF,.ro 1 (ae e.sy.cut),.v (.bool false),.v (.slice none 0 0),.v (.bool false),.v (.int .u64 0),.z 0,.v (.int .u64 0),.ro 2 ([]),.ro 1 ([]),.v (.slice none 0 0),.v (.int .u64 0),.z 0,.v (.int .u64 0),.ro 2 ([]),.ro 1 ([]),.ro 1 ([]),.ro 1 ([]),.z 0,.z 0,.v (.int .u64 0),.v (.int .u64 0),.z 0,.v (.int .u64 0),.v (.int .u64 0),.v (.slice none 0 0),.v (.int .u64 0),.ro 1 ([]),.v (.bool false)],.ag [.v (.slice none 0 0),.em 58 13 [cz e b,iq e b]],.v (.int .i64 0)]:DV)=.tu [.ag [.z e.p.node,.u e.p.inc,.z e.st,.v (.int .u64 0),.z e.p.node,.u e.p.inc,.ro 2 (procs [e.p]),.ro 1 (ae [0]),.ro 1 (streams [aq 0 (e.l++[b])]),.ro 1 (ae [(e.l++[b]).length]),.u ((e.l.length+1)),.u e.aF,.v (.bool (e.act)),.ro 2 (procs e.set),.z e.sy.kind,.z e.sy.src.node,.u e.sy.src.inc,.u e.sy.vw.round,.z e.sy.vw.server.node,.u e.sy.vw.server.inc,.u e.sy.n,.v (.slice none 0 0),.u e.sy.aF,.ro 1 (ae e.sy.cut),.v (.bool false),.v (.slice none 0 0),.v (.bool false),.v (.int .u64 0),.z 0,.v (.int .u64 0),.ro 2 ([]),.ro 1 ([]),.v (.slice none 0 0),.v (.int .u64 0),.z 0,.v (.int .u64 0),.ro 2 ([]),.ro 1 ([]),.ro 1 ([]),.ro 1 ([]),.z 0,.z 0,.v (.int .u64 0),.v (.int .u64 0),.z 0,.v (.int .u64 0),.v (.int .u64 0),.v (.slice none 0 0),.v (.int .u64 0),.ro 1 ([]),.v (.bool false)],.ag [.v (.slice none 0 0),.em 58 13 ([cz e b,iq e b])],.z 0] from rfl]
     exact aM tk tq hK rfl [(13,[(0,.b false)]),(17,[(1,.mem [3,5] (.tu []) [.bx 68 [.z e.p.node,.u e.p.inc,.z e.st,.d (.v (.int .u64 0)),.z e.p.node,.u e.p.inc,.d (.ro 2 (procs [e.p])),.d (.ro 1 (ae [0])),.d (.ro 1 (streams [aq 0 (e.l++[b])])),.d (.ro 1 (ae [(e.l++[b]).length])),.u ((e.l.length+1)),.u e.aF,.d (.v (.bool (e.act))),.d (.ro 2 (procs e.set)),.z e.sy.kind,.z e.sy.src.node,.u e.sy.src.inc,.u e.sy.vw.round,.z e.sy.vw.server.node,.u e.sy.vw.server.inc,.u e.sy.n,.d (.v (.slice none 0 0)),.u e.sy.aF,.d (.ro 1 (ae e.sy.cut)),.d (.v (.bool false)),.d (.v (.slice none 0 0)),.d (.v (.bool false)),.d (.v (.int .u64 0)),.z 0,.d (.v (.int .u64 0)),.d (.ro 2 ([])),.d (.ro 1 ([])),.d (.v (.slice none 0 0)),.d (.v (.int .u64 0)),.z 0,.d (.v (.int .u64 0)),.d (.ro 2 ([])),.d (.ro 1 ([])),.d (.ro 1 ([])),.d (.ro 1 ([])),.z 0,.z 0,.d (.v (.int .u64 0)),.d (.v (.int .u64 0)),.z 0,.d (.v (.int .u64 0)),.d (.v (.int .u64 0)),.d (.v (.slice none 0 0)),.d (.v (.int .u64 0)),.d (.ro 1 ([])),.d (.v (.bool false)),.d (.v (.slice none 0 0)),.sl 2 (2)],.dead,.rw 58 13 ([cz e b,iq e b])])])] 2000 r (by kernel_rfl) (U h3 (U (So e b h gR) (U ((by first | rfl | (simp;done) | (simp<;>omega)):(2)=([cz e b,iq e b]:List (List DV)).length) trivial)))
    | true=>
     have fY:=of_decide_eq_true h3
     exact absurd fY (by first | assumption | omega | simp)
   | true=>
    have dg:=of_decide_eq_true h2
    exact absurd dg (by first | assumption | omega | simp)
  | true=>
   have b6:=of_decide_eq_true h1
   exact absurd b6 (by first | assumption | omega | simp)
 | true=>
  have bq:=eq_of_beq h0
  exact absurd bq (by first | assumption | omega | simp)
end Go.Proofs.YtgkdnnmcjjabdaaGreat
namespace Go.Proofs.YtgkdnnmcjjabdaaGreat
open Go.RowKit
set_option maxRecDepth 100000 in
theorem Q6 (e:En) (h:e.Ok) (v:List DV):db Tryz.prog 23 [.pt 0 0,.d (.ro 1 (ae [e.l.length]))] [.bx 68 [.z e.p.node,.u e.p.inc,.z 2,.d (.v (.int .u64 0)),.z e.p.node,.u e.p.inc,.d (.ro 2 (procs [e.p])),.d (.ro 1 (ae [0])),.d (.ro 1 (streams [aq 0 e.l])),.d (.ro 1 (ae [e.l.length])),.u e.l.length,.u e.aF,.d (.v (.bool true)),.d (.ro 2 (procs [e.p])),.z 8,.z e.p.node,.u e.p.inc,.d (.v (.int .u64 0)),.z e.p.node,.u e.p.inc,.d (.v (.int .u64 0)),.d (.v (.slice none 0 0)),.u e.aF,.d (.ro 1 (ae [e.l.length])),.d (.v (.bool false)),.d (.v (.slice none 0 0)),.d (.v (.bool false)),.d (.v (.int .u64 0)),.z 0,.d (.v (.int .u64 0)),.d (.ro 2 ([])),.d (.ro 1 ([])),.d (.v (.slice none 0 0)),.d (.v (.int .u64 0)),.z 0,.d (.v (.int .u64 0)),.d (.ro 2 ([])),.d (.ro 1 ([])),.d (.ro 1 ([])),.d (.ro 1 ([])),.z 0,.z 0,.d (.v (.int .u64 0)),.d (.v (.int .u64 0)),.z 0,.d (.v (.int .u64 0)),.d (.v (.int .u64 0)),.d (.v (.slice none 0 0)),.d (.v (.int .u64 0)),.d (.ro 1 ([])),.d (.v (.bool false)),.d (.v (.slice none 0 0)),.sl 1 (1)],.rw 58 13 ([v])] (.tu []) ([.bx 68 [.z e.p.node,.u e.p.inc,.z 2,.d (.v (.int .u64 0)),.z e.p.node,.u e.p.inc,.d (.ro 2 (procs [e.p])),.d (.ro 1 (ae [0])),.d (.ro 1 (streams [aq 0 e.l])),.d (.ro 1 (ae [e.l.length])),.u e.l.length,.u e.aF,.d (.v (.bool true)),.d (.ro 2 (procs [e.p])),.z 8,.z e.p.node,.u e.p.inc,.d (.v (.int .u64 0)),.z e.p.node,.u e.p.inc,.d (.v (.int .u64 0)),.d (.v (.slice none 0 0)),.u e.aF,.d (.ro 1 (ae [e.l.length])),.d (.v (.bool false)),.d (.v (.slice none 0 0)),.d (.v (.bool false)),.d (.v (.int .u64 0)),.z 0,.d (.v (.int .u64 0)),.d (.ro 2 ([])),.d (.ro 1 ([])),.d (.v (.slice none 0 0)),.d (.v (.int .u64 0)),.z 0,.d (.v (.int .u64 0)),.d (.ro 2 ([])),.d (.ro 1 ([])),.d (.ro 1 ([])),.d (.ro 1 ([])),.z 0,.z 0,.d (.v (.int .u64 0)),.d (.v (.int .u64 0)),.z 0,.d (.v (.int .u64 0)),.d (.v (.int .u64 0)),.d (.v (.slice none 0 0)),.d (.v (.int .u64 0)),.d (.ro 1 ([])),.d (.v (.bool false)),.d (.v (.slice none 0 0)),.sl 1 (1)],.rw 58 13 ([v])]):=by
 refine db.intro (by kernel_rfl) rfl rfl 45 rfl rfl fun D w0 K bs ac wd hK (bE:bs.m=2) r=>?_
 refine g6 (todo':=hd Tryz.f23 0) (E':=[(0,.pt 0 0),(1,.d (.ro 1 (ae [e.l.length]))),(9,.pt 0 0),(10,.pt 0 0),(11,.pt 0 0),(12,.pt 0 3),(13,.ag [.d (.v (.int .u64 0)),.z e.p.node,.u e.p.inc,.d (.ro 2 (procs [e.p])),.d (.ro 1 (ae [0])),.d (.ro 1 (streams [aq 0 e.l])),.d (.ro 1 (ae [e.l.length]))]),(14,.d (.ro 1 (ae [e.l.length]))),(15,.tu [.ag [.d (.v (.int .u64 0)),.z e.p.node,.u e.p.inc,.d (.ro 2 (procs [e.p])),.d (.ro 1 (ae [0])),.d (.ro 1 (streams [aq 0 e.l])),.d (.ro 1 (ae [e.l.length]))],.d (.ro 4 (msgs []))]),(8,.tu [.ag [.d (.v (.int .u64 0)),.z e.p.node,.u e.p.inc,.d (.ro 2 (procs [e.p])),.d (.ro 1 (ae [0])),.d (.ro 1 (streams [aq 0 e.l])),.d (.ro 1 (ae [e.l.length]))],.d (.ro 4 (msgs []))]),(16,.ag [.d (.v (.int .u64 0)),.z e.p.node,.u e.p.inc,.d (.ro 2 (procs [e.p])),.d (.ro 1 (ae [0])),.d (.ro 1 (streams [aq 0 e.l])),.d (.ro 1 (ae [e.l.length]))]),(17,.d (.ro 4 (msgs []))),(4,.pt 2 0),(5,.d (.ro 4 (msgs []))),(18,.pt 0 0),(19,.ag [.d (.v (.int .u64 0)),.z e.p.node,.u e.p.inc,.d (.ro 2 (procs [e.p])),.d (.ro 1 (ae [0])),.d (.ro 1 (streams [aq 0 e.l])),.d (.ro 1 (ae [e.l.length]))]),(20,.pt 0 0),(21,.pt 0 0),(22,.pt 0 3),(23,.d (.ro 4 (msgs []))),(24,.z 0),(25,.z 0)]) (M':=[.bx 68 [.z e.p.node,.u e.p.inc,.z 2,.d (.v (.int .u64 0)),.z e.p.node,.u e.p.inc,.d (.ro 2 (procs [e.p])),.d (.ro 1 (ae [0])),.d (.ro 1 (streams [aq 0 e.l])),.d (.ro 1 (ae [e.l.length])),.u e.l.length,.u e.aF,.d (.v (.bool true)),.d (.ro 2 (procs [e.p])),.z 8,.z e.p.node,.u e.p.inc,.d (.v (.int .u64 0)),.z e.p.node,.u e.p.inc,.d (.v (.int .u64 0)),.d (.v (.slice none 0 0)),.u e.aF,.d (.ro 1 (ae [e.l.length])),.d (.v (.bool false)),.d (.v (.slice none 0 0)),.d (.v (.bool false)),.d (.v (.int .u64 0)),.z 0,.d (.v (.int .u64 0)),.d (.ro 2 ([])),.d (.ro 1 ([])),.d (.v (.slice none 0 0)),.d (.v (.int .u64 0)),.z 0,.d (.v (.int .u64 0)),.d (.ro 2 ([])),.d (.ro 1 ([])),.d (.ro 1 ([])),.d (.ro 1 ([])),.z 0,.z 0,.d (.v (.int .u64 0)),.d (.v (.int .u64 0)),.z 0,.d (.v (.int .u64 0)),.d (.v (.int .u64 0)),.d (.v (.slice none 0 0)),.d (.v (.int .u64 0)),.d (.ro 1 ([])),.d (.v (.bool false)),.d (.v (.slice none 0 0)),.sl 1 (1)],.rw 58 13 ([v]),.bx 37 [.d (.v (.int .u64 0)),.z e.p.node,.u e.p.inc,.d (.ro 2 (procs [e.p])),.d (.ro 1 (ae [0])),.d (.ro 1 (streams [aq 0 e.l])),.d (.ro 1 (ae [e.l.length]))]]) tk tq hK bE [(0,[(6,.aL (.tu [.ag [.v (.int .u64 0),.z e.p.node,.u e.p.inc,.ro 2 (procs [e.p]),.ro 1 (ae [0]),.ro 1 (streams [aq 0 e.l]),.ro 1 (ae [e.l.length])],.ro 4 (msgs [])]))]),(2,[(1,.z (0))])] 2000 [0,1,2] [0,1,9,10,11,12,13,14,15,8,16,17,4,5,18,19,20,21,22,23,24,25] r (by kernel_rfl) (U (Sn e.p e.l h.p h.l) (U ((by first | rfl | simp [al]):(((msgs []).length:Nat):Int)=0) trivial)) fun ac wd r=>?_
 refine gj (y:=.tu []) (N':=[.bx 68 [.z e.p.node,.u e.p.inc,.z 2,.d (.v (.int .u64 0)),.z e.p.node,.u e.p.inc,.d (.ro 2 (procs [e.p])),.d (.ro 1 (ae [0])),.d (.ro 1 (streams [aq 0 e.l])),.d (.ro 1 (ae [e.l.length])),.u e.l.length,.u e.aF,.d (.v (.bool true)),.d (.ro 2 (procs [e.p])),.z 8,.z e.p.node,.u e.p.inc,.d (.v (.int .u64 0)),.z e.p.node,.u e.p.inc,.d (.v (.int .u64 0)),.d (.v (.slice none 0 0)),.u e.aF,.d (.ro 1 (ae [e.l.length])),.d (.v (.bool false)),.d (.v (.slice none 0 0)),.d (.v (.bool false)),.d (.v (.int .u64 0)),.z 0,.d (.v (.int .u64 0)),.d (.ro 2 ([])),.d (.ro 1 ([])),.d (.v (.slice none 0 0)),.d (.v (.int .u64 0)),.z 0,.d (.v (.int .u64 0)),.d (.ro 2 ([])),.d (.ro 1 ([])),.d (.ro 1 ([])),.d (.ro 1 ([])),.z 0,.z 0,.d (.v (.int .u64 0)),.d (.v (.int .u64 0)),.z 0,.d (.v (.int .u64 0)),.d (.v (.int .u64 0)),.d (.v (.slice none 0 0)),.d (.v (.int .u64 0)),.d (.ro 1 ([])),.d (.v (.bool false)),.d (.v (.slice none 0 0)),.sl 1 (1)],.rw 58 13 ([v])]) (rfl) (rfl) ?_
 exact gg tk tq hK rfl bE [] 2000 [0,1] r (by kernel_rfl) trivial
theorem Sq (p:au):(procs [p])[0]?=some [.z p.node,.u p.inc]:=rfl
set_option maxRecDepth 100000 in
theorem Sr (e:En) (h:e.Ok) (v:List DV):db Tryz.prog 24 [.pt 0 0] [.bx 68 [.z e.p.node,.u e.p.inc,.z 2,.d (.v (.int .u64 0)),.z e.p.node,.u e.p.inc,.d (.ro 2 (procs [e.p])),.d (.ro 1 (ae [0])),.d (.ro 1 (streams [aq 0 e.l])),.d (.ro 1 (ae [e.l.length])),.u e.l.length,.u e.aF,.d (.v (.bool true)),.d (.ro 2 (procs [e.p])),.z e.sy.kind,.z e.sy.src.node,.u e.sy.src.inc,.u e.sy.vw.round,.z e.sy.vw.server.node,.u e.sy.vw.server.inc,.u e.sy.n,.d (.v (.slice none 0 0)),.u e.sy.aF,.d (.ro 1 (ae e.sy.cut)),.d (.v (.bool false)),.d (.v (.slice none 0 0)),.d (.v (.bool false)),.d (.v (.int .u64 0)),.z 0,.d (.v (.int .u64 0)),.d (.ro 2 ([])),.d (.ro 1 ([])),.d (.v (.slice none 0 0)),.d (.v (.int .u64 0)),.z 0,.d (.v (.int .u64 0)),.d (.ro 2 ([])),.d (.ro 1 ([])),.d (.ro 1 ([])),.d (.ro 1 ([])),.z 0,.z 0,.d (.v (.int .u64 0)),.d (.v (.int .u64 0)),.z 0,.d (.v (.int .u64 0)),.d (.v (.int .u64 0)),.d (.v (.slice none 0 0)),.d (.v (.int .u64 0)),.d (.ro 1 ([])),.d (.v (.bool false)),.d (.v (.slice none 0 0)),.sl 1 (1)],.rw 58 13 ([v])] (.tu []) ([.bx 68 [.z e.p.node,.u e.p.inc,.z 2,.d (.v (.int .u64 0)),.z e.p.node,.u e.p.inc,.d (.ro 2 (procs [e.p])),.d (.ro 1 (ae [0])),.d (.ro 1 (streams [aq 0 e.l])),.d (.ro 1 (ae [e.l.length])),.u e.l.length,.u e.aF,.d (.v (.bool true)),.d (.ro 2 (procs [e.p])),.z 8,.z e.p.node,.u e.p.inc,.d (.v (.int .u64 0)),.z e.p.node,.u e.p.inc,.d (.v (.int .u64 0)),.d (.v (.slice none 0 0)),.u e.aF,.d (.ro 1 (ae [e.l.length])),.d (.v (.bool false)),.d (.v (.slice none 0 0)),.d (.v (.bool false)),.d (.v (.int .u64 0)),.z 0,.d (.v (.int .u64 0)),.d (.ro 2 ([])),.d (.ro 1 ([])),.d (.v (.slice none 0 0)),.d (.v (.int .u64 0)),.z 0,.d (.v (.int .u64 0)),.d (.ro 2 ([])),.d (.ro 1 ([])),.d (.ro 1 ([])),.d (.ro 1 ([])),.z 0,.z 0,.d (.v (.int .u64 0)),.d (.v (.int .u64 0)),.z 0,.d (.v (.int .u64 0)),.d (.v (.int .u64 0)),.d (.v (.slice none 0 0)),.d (.v (.int .u64 0)),.d (.ro 1 ([])),.d (.v (.bool false)),.d (.v (.slice none 0 0)),.sl 1 (1)],.rw 58 13 ([v])]):=by
 refine db.intro (by kernel_rfl) rfl rfl 65 rfl rfl fun D w0 K bs ac wd hK (bE:bs.m=2) r=>?_
 have bG:=(Qe e.p e.l h.p h.l)
 refine Hf (todo':=aft Tryz.f24 0) (E':=[(0,.pt 0 0)]) (M':=[.bx 68 [.z e.p.node,.u e.p.inc,.z 2,.d (.v (.int .u64 0)),.z e.p.node,.u e.p.inc,.d (.ro 2 (procs [e.p])),.d (.ro 1 (ae [0])),.d (.ro 1 (streams [aq 0 e.l])),.d (.ro 1 (ae [e.l.length])),.u e.l.length,.u e.aF,.d (.v (.bool true)),.d (.ro 2 (procs [e.p])),.z 8,.z e.p.node,.u e.p.inc,.d (.v (.int .u64 0)),.z e.p.node,.u e.p.inc,.d (.v (.int .u64 0)),.d (.v (.slice none 0 0)),.u e.aF,.d (.ro 1 (ae [e.l.length])),.d (.v (.bool false)),.d (.v (.slice none 0 0)),.d (.v (.bool false)),.d (.v (.int .u64 0)),.z 0,.d (.v (.int .u64 0)),.d (.ro 2 ([])),.d (.ro 1 ([])),.d (.v (.slice none 0 0)),.d (.v (.int .u64 0)),.z 0,.d (.v (.int .u64 0)),.d (.ro 2 ([])),.d (.ro 1 ([])),.d (.ro 1 ([])),.d (.ro 1 ([])),.z 0,.z 0,.d (.v (.int .u64 0)),.d (.v (.int .u64 0)),.z 0,.d (.v (.int .u64 0)),.d (.v (.int .u64 0)),.d (.v (.slice none 0 0)),.d (.v (.int .u64 0)),.d (.ro 1 ([])),.d (.v (.bool false)),.d (.v (.slice none 0 0)),.sl 1 (1)],.rw 58 13 ([v])]) tk tq hK bE [(0,[(23,.aL (.ro 1 (ae [e.l.length])))])] 1 60 [5,12,17,22] [[0,1],[0,1],[0,1],[0,1],[0,1],[0,1],[0,1],[0,1],[0,1],[0,1],[0,1],[0,1],[0,1],[0,1],[0,1],[0,1],[0,1],[0,1],[0,1],[0,1],[0,1],[0,1],[0,1],[0,1],[0,1],[0,1],[0,1],[0,1],[0,1],[0,1],[0,1],[0,1],[0,1],[0,1],[0,1],[0,1],[0,1],[0,1],[0,1],[0,1],[0,1],[0,1],[0,1],[0,1],[0,1],[0,1],[0,1],[0,1],[0,1],[0,1],[0,1],[0,1],[0,1],[0,1],[0,1],[0,1],[0,1],[0,1],[0,1],[0,1]] [0] r (by kernel_rfl) (U (U bG trivial) (U (U bG trivial) (U (U bG trivial) (U (U bG trivial) (U (U bG trivial) (U (U bG trivial) (U (U bG trivial) (U (U bG trivial) (U (U bG trivial) (U (U bG trivial) (U (U bG trivial) (U (U bG trivial) (U (U bG trivial) (U (U bG trivial) (U (U bG trivial) (U (U bG trivial) (U (U bG trivial) (U (U bG trivial) (U (U bG trivial) (U (U bG trivial) (U (U bG trivial) (U (U bG trivial) (U (U bG trivial) (U (U bG trivial) (U (U bG trivial) (U (U bG trivial) (U (U bG trivial) (U (U bG trivial) (U (U bG trivial) (U (U bG trivial) (U (U bG trivial) (U (U bG trivial) (U (U bG trivial) (U (U bG trivial) (U (U bG trivial) (U (U bG trivial) (U (U bG trivial) (U (U bG trivial) (U (U bG trivial) (U (U bG trivial) (U (U bG trivial) (U (U bG trivial) (U (U bG trivial) (U (U bG trivial) (U (U bG trivial) (U (U bG trivial) (U (U bG trivial) (U (U bG trivial) (U (U bG trivial) (U (U bG trivial) (U (U bG trivial) (U (U bG trivial) (U (U bG trivial) (U (U bG trivial) (U (U bG trivial) (U (U bG trivial) (U (U bG trivial) (U (U bG trivial) (U (U bG trivial) (U (U bG trivial) trivial)))))))))))))))))))))))))))))))))))))))))))))))))))))))))))) fun ac wd r=>?_
 refine g6 (todo':=hd Tryz.f24 0) (E':=[(0,.pt 0 0),(32,.pt 0 0),(33,.pt 0 0),(34,.pt 0 0),(35,.pt 0 13),(36,.d (.ro 2 (procs [e.p]))),(37,.n 1),(38,.z 0)]) (M':=[.bx 68 [.z e.p.node,.u e.p.inc,.z 2,.d (.v (.int .u64 0)),.z e.p.node,.u e.p.inc,.d (.ro 2 (procs [e.p])),.d (.ro 1 (ae [0])),.d (.ro 1 (streams [aq 0 e.l])),.d (.ro 1 (ae [e.l.length])),.u e.l.length,.u e.aF,.d (.v (.bool true)),.d (.ro 2 (procs [e.p])),.z 8,.z e.p.node,.u e.p.inc,.d (.v (.int .u64 0)),.z e.p.node,.u e.p.inc,.d (.v (.int .u64 0)),.d (.v (.slice none 0 0)),.u e.aF,.d (.ro 1 (ae [e.l.length])),.d (.v (.bool false)),.d (.v (.slice none 0 0)),.d (.v (.bool false)),.d (.v (.int .u64 0)),.z 0,.d (.v (.int .u64 0)),.d (.ro 2 ([])),.d (.ro 1 ([])),.d (.v (.slice none 0 0)),.d (.v (.int .u64 0)),.z 0,.d (.v (.int .u64 0)),.d (.ro 2 ([])),.d (.ro 1 ([])),.d (.ro 1 ([])),.d (.ro 1 ([])),.z 0,.z 0,.d (.v (.int .u64 0)),.d (.v (.int .u64 0)),.z 0,.d (.v (.int .u64 0)),.d (.v (.int .u64 0)),.d (.v (.slice none 0 0)),.d (.v (.int .u64 0)),.d (.ro 1 ([])),.d (.v (.bool false)),.d (.v (.slice none 0 0)),.sl 1 (1)],.rw 58 13 ([v])]) tk tq hK bE [(1,[(5,.z (((1:Nat):Int)))])] 2000 [0,1] [0,32,33,34,35,36,37,38] r (by kernel_rfl) (U ((by first | rfl | simp [al]):(((procs [e.p]).length:Nat):Int)=((1:Nat):Int)) trivial) fun ac wd r=>?_
 cases h0:(decide (e.p=e.p)) with
 | false=>
  have bq:=of_decide_eq_false h0
  exact absurd rfl bq
 | true=>
  have bq:=of_decide_eq_true h0
  refine g6 (todo':=hd Tryz.f24 0) (E':=[(0,.pt 0 0),(32,.pt 0 0),(33,.pt 0 0),(34,.pt 0 0),(35,.pt 0 13),(36,.d (.ro 2 (procs [e.p]))),(37,.n 1),(38,.z 1),(39,.d (.v (.bool true))),(40,.rp [.z e.p.node,.u e.p.inc] 0),(41,.ag [.z e.p.node,.u e.p.inc]),(3,.pt 2 0),(42,.ag [.z e.p.node,.u e.p.inc]),(43,.pt 0 0),(44,.pt 0 0),(45,.pt 0 0),(46,.pt 0 0),(47,.ag [.z e.p.node,.u e.p.inc]),(48,.d (.v (.bool false))),(60,.z 1)]) (M':=[.bx 68 [.z e.p.node,.u e.p.inc,.z 2,.d (.v (.int .u64 0)),.z e.p.node,.u e.p.inc,.d (.ro 2 (procs [e.p])),.d (.ro 1 (ae [0])),.d (.ro 1 (streams [aq 0 e.l])),.d (.ro 1 (ae [e.l.length])),.u e.l.length,.u e.aF,.d (.v (.bool true)),.d (.ro 2 (procs [e.p])),.z 8,.z e.p.node,.u e.p.inc,.d (.v (.int .u64 0)),.z e.p.node,.u e.p.inc,.d (.v (.int .u64 0)),.d (.v (.slice none 0 0)),.u e.aF,.d (.ro 1 (ae [e.l.length])),.d (.v (.bool false)),.d (.v (.slice none 0 0)),.d (.v (.bool false)),.d (.v (.int .u64 0)),.z 0,.d (.v (.int .u64 0)),.d (.ro 2 ([])),.d (.ro 1 ([])),.d (.v (.slice none 0 0)),.d (.v (.int .u64 0)),.z 0,.d (.v (.int .u64 0)),.d (.ro 2 ([])),.d (.ro 1 ([])),.d (.ro 1 ([])),.d (.ro 1 ([])),.z 0,.z 0,.d (.v (.int .u64 0)),.d (.v (.int .u64 0)),.z 0,.d (.v (.int .u64 0)),.d (.v (.int .u64 0)),.d (.v (.slice none 0 0)),.d (.v (.int .u64 0)),.d (.ro 1 ([])),.d (.v (.bool false)),.d (.v (.slice none 0 0)),.sl 1 (1)],.rw 58 13 ([v]),.bx 24 [.z e.p.node,.u e.p.inc]]) tk tq hK bE [(3,[(0,.ix (0) [.z e.p.node,.u e.p.inc])]),(4,[(6,.b true)]),(6,[(0,.z (1))])] 2000 [0,1,2] [0,32,33,34,35,36,37,38,39,40,41,3,42,43,44,45,46,47,48,60] r (by kernel_rfl) (U (rfl:(0)=((0:Nat):Int)) (U (Sq e.p:(procs [e.p])[0]?=some [.z e.p.node,.u e.p.inc]) (U ((kU (pR _ _) h0):gi Tryz.prog 24 [(.int .i64 (e.p.node)),(.int .u64 (((e.p.inc:Nat):Int)))] [(.int .i64 (e.p.node)),(.int .u64 (((e.p.inc:Nat):Int)))] true) (U ((wi (by omega)):IntKind.i64.wrap ((0:Int)+1)=1) trivial)))) fun ac wd r=>?_
  refine gj (y:=.tu []) (N':=[.bx 68 [.z e.p.node,.u e.p.inc,.z 2,.d (.v (.int .u64 0)),.z e.p.node,.u e.p.inc,.d (.ro 2 (procs [e.p])),.d (.ro 1 (ae [0])),.d (.ro 1 (streams [aq 0 e.l])),.d (.ro 1 (ae [e.l.length])),.u e.l.length,.u e.aF,.d (.v (.bool true)),.d (.ro 2 (procs [e.p])),.z 8,.z e.p.node,.u e.p.inc,.d (.v (.int .u64 0)),.z e.p.node,.u e.p.inc,.d (.v (.int .u64 0)),.d (.v (.slice none 0 0)),.u e.aF,.d (.ro 1 (ae [e.l.length])),.d (.v (.bool false)),.d (.v (.slice none 0 0)),.d (.v (.bool false)),.d (.v (.int .u64 0)),.z 0,.d (.v (.int .u64 0)),.d (.ro 2 ([])),.d (.ro 1 ([])),.d (.v (.slice none 0 0)),.d (.v (.int .u64 0)),.z 0,.d (.v (.int .u64 0)),.d (.ro 2 ([])),.d (.ro 1 ([])),.d (.ro 1 ([])),.d (.ro 1 ([])),.z 0,.z 0,.d (.v (.int .u64 0)),.d (.v (.int .u64 0)),.z 0,.d (.v (.int .u64 0)),.d (.v (.int .u64 0)),.d (.v (.slice none 0 0)),.d (.v (.int .u64 0)),.d (.ro 1 ([])),.d (.v (.bool false)),.d (.v (.slice none 0 0)),.sl 1 (1)],.rw 58 13 ([v])]) (rfl) (rfl) ?_
  exact gg tk tq hK rfl bE [(7,[(2,.b9 200 []),(3,.mem [0,1] (.tu []) [.bx 68 [.z e.p.node,.u e.p.inc,.z 2,.d (.v (.int .u64 0)),.z e.p.node,.u e.p.inc,.d (.ro 2 (procs [e.p])),.d (.ro 1 (ae [0])),.d (.ro 1 (streams [aq 0 e.l])),.d (.ro 1 (ae [e.l.length])),.u e.l.length,.u e.aF,.d (.v (.bool true)),.d (.ro 2 (procs [e.p])),.z 8,.z e.p.node,.u e.p.inc,.d (.v (.int .u64 0)),.z e.p.node,.u e.p.inc,.d (.v (.int .u64 0)),.d (.v (.slice none 0 0)),.u e.aF,.d (.ro 1 (ae [e.l.length])),.d (.v (.bool false)),.d (.v (.slice none 0 0)),.d (.v (.bool false)),.d (.v (.int .u64 0)),.z 0,.d (.v (.int .u64 0)),.d (.ro 2 ([])),.d (.ro 1 ([])),.d (.v (.slice none 0 0)),.d (.v (.int .u64 0)),.z 0,.d (.v (.int .u64 0)),.d (.ro 2 ([])),.d (.ro 1 ([])),.d (.ro 1 ([])),.d (.ro 1 ([])),.z 0,.z 0,.d (.v (.int .u64 0)),.d (.v (.int .u64 0)),.z 0,.d (.v (.int .u64 0)),.d (.v (.int .u64 0)),.d (.v (.slice none 0 0)),.d (.v (.int .u64 0)),.d (.ro 1 ([])),.d (.v (.bool false)),.d (.v (.slice none 0 0)),.sl 1 (1)],.rw 58 13 ([v])])])] 2000 [0,1] r (by kernel_rfl) (U (Q6 e h v) trivial)
set_option maxRecDepth 100000 in
theorem Q7 (e:En) (h:e.Ok) (v:List DV):db Tryz.prog 25 [.pt 0 0] [.bx 68 [.z e.p.node,.u e.p.inc,.z 2,.d (.v (.int .u64 0)),.z e.p.node,.u e.p.inc,.d (.ro 2 (procs [e.p])),.d (.ro 1 (ae [0])),.d (.ro 1 (streams [aq 0 e.l])),.d (.ro 1 (ae [e.l.length])),.u e.l.length,.u e.aF,.d (.v (.bool true)),.d (.ro 2 (procs [e.p])),.z 8,.z e.p.node,.u e.p.inc,.d (.v (.int .u64 0)),.z e.p.node,.u e.p.inc,.d (.v (.int .u64 0)),.d (.v (.slice none 0 0)),.u e.aF,.d (.ro 1 (ae [e.l.length])),.d (.v (.bool false)),.d (.v (.slice none 0 0)),.d (.v (.bool false)),.d (.v (.int .u64 0)),.z 0,.d (.v (.int .u64 0)),.d (.ro 2 ([])),.d (.ro 1 ([])),.d (.v (.slice none 0 0)),.d (.v (.int .u64 0)),.z 0,.d (.v (.int .u64 0)),.d (.ro 2 ([])),.d (.ro 1 ([])),.d (.ro 1 ([])),.d (.ro 1 ([])),.z 0,.z 0,.d (.v (.int .u64 0)),.d (.v (.int .u64 0)),.z 0,.d (.v (.int .u64 0)),.d (.v (.int .u64 0)),.d (.v (.slice none 0 0)),.d (.v (.int .u64 0)),.d (.ro 1 ([])),.d (.v (.bool false)),.d (.v (.slice none 0 0)),.sl 1 (1)],.rw 58 13 ([v])] (.tu []) ([.bx 68 [.z e.p.node,.u e.p.inc,.z 2,.d (.v (.int .u64 0)),.z e.p.node,.u e.p.inc,.d (.ro 2 (procs [e.p])),.d (.ro 1 (ae [0])),.d (.ro 1 (streams [aq 0 e.l])),.d (.ro 1 (ae [e.l.length])),.u e.l.length,.u e.aF,.d (.v (.bool true)),.d (.ro 2 (procs [e.p])),.z 8,.z e.p.node,.u e.p.inc,.d (.v (.int .u64 0)),.z e.p.node,.u e.p.inc,.d (.v (.int .u64 0)),.d (.v (.slice none 0 0)),.u e.aF,.d (.ro 1 (ae [e.l.length])),.d (.v (.bool false)),.d (.v (.slice none 0 0)),.d (.v (.bool false)),.d (.v (.int .u64 0)),.z 0,.d (.v (.int .u64 0)),.d (.ro 2 ([])),.d (.ro 1 ([])),.d (.v (.slice none 0 0)),.d (.v (.int .u64 0)),.z 0,.d (.v (.int .u64 0)),.d (.ro 2 ([])),.d (.ro 1 ([])),.d (.ro 1 ([])),.d (.ro 1 ([])),.z 0,.z 0,.d (.v (.int .u64 0)),.d (.v (.int .u64 0)),.z 0,.d (.v (.int .u64 0)),.d (.v (.int .u64 0)),.d (.v (.slice none 0 0)),.d (.v (.int .u64 0)),.d (.ro 1 ([])),.d (.v (.bool false)),.d (.v (.slice none 0 0)),.sl 1 (1)],.rw 58 13 ([v])]):=by
 refine db.intro (by kernel_rfl) rfl rfl 262 rfl rfl fun D w0 K bs ac wd hK (bE:bs.m=2) r=>?_
 refine gj (y:=.tu []) (N':=[.bx 68 [.z e.p.node,.u e.p.inc,.z 2,.d (.v (.int .u64 0)),.z e.p.node,.u e.p.inc,.d (.ro 2 (procs [e.p])),.d (.ro 1 (ae [0])),.d (.ro 1 (streams [aq 0 e.l])),.d (.ro 1 (ae [e.l.length])),.u e.l.length,.u e.aF,.d (.v (.bool true)),.d (.ro 2 (procs [e.p])),.z 8,.z e.p.node,.u e.p.inc,.d (.v (.int .u64 0)),.z e.p.node,.u e.p.inc,.d (.v (.int .u64 0)),.d (.v (.slice none 0 0)),.u e.aF,.d (.ro 1 (ae [e.l.length])),.d (.v (.bool false)),.d (.v (.slice none 0 0)),.d (.v (.bool false)),.d (.v (.int .u64 0)),.z 0,.d (.v (.int .u64 0)),.d (.ro 2 ([])),.d (.ro 1 ([])),.d (.v (.slice none 0 0)),.d (.v (.int .u64 0)),.z 0,.d (.v (.int .u64 0)),.d (.ro 2 ([])),.d (.ro 1 ([])),.d (.ro 1 ([])),.d (.ro 1 ([])),.z 0,.z 0,.d (.v (.int .u64 0)),.d (.v (.int .u64 0)),.z 0,.d (.v (.int .u64 0)),.d (.v (.int .u64 0)),.d (.v (.slice none 0 0)),.d (.v (.int .u64 0)),.d (.ro 1 ([])),.d (.v (.bool false)),.d (.v (.slice none 0 0)),.sl 1 (1)],.rw 58 13 ([v])]) (rfl) (rfl) ?_
 exact gg tk tq hK rfl bE [] 2000 [0,1] r (by kernel_rfl) trivial
end Go.Proofs.YtgkdnnmcjjabdaaGreat
namespace Go.Proofs.YtgkdnnmcjjabdaaGreat
open Go.RowKit
def ke (e:En):List DV:=[.z 4,.z e.p.node,.u e.p.inc,.z 0,.v (.int .u64 0),.v (.int .u64 0),.v (.slice none 0 0),.v (.int .u64 0),.z 0,.v (.int .u64 0),.v (.slice none 0 0),.v (.slice none 0 0),.v (.slice none 0 0)]
def ud (e:En):List DV:=[.z 3,.z e.p.node,.u e.p.inc,.z 0,.v (.int .u64 0),.v (.int .u64 0),.v (.slice none 0 0),.v (.int .u64 0),.z 0,.v (.int .u64 0),.v (.slice none 0 0),.v (.slice none 0 0),.v (.slice none 0 0)]
def En.asked (e:En):En:={ e with st:=1,act:=true,set:=[e.p] }
def En.blocked (e:En):En:={ e with st:=2,act:=true,set:=[e.p],sy:=⟨8,e.p,⟨0,e.p⟩,0,e.aF,[e.l.length]⟩ }
theorem En.Ok.asked {e:En} (h:e.Ok):e.asked.Ok:=⟨h.p,h.l,by simp [En.asked],h.cut⟩
theorem En.Ok.blocked {e:En} (h:e.Ok):e.blocked.Ok:=⟨h.p,h.l,by simp [En.blocked],by simp [En.blocked]⟩
set_option maxRecDepth 100000 in
theorem Qm (e:En) (h:e.Ok) (h1:e.st≠1):aj Tryz.prog 9 [.ag [.z e.p.node,.u e.p.inc,.z e.st,.d (.v (.int .u64 0)),.z e.p.node,.u e.p.inc,.d (.ro 2 (procs [e.p])),.d (.ro 1 (ae [0])),.d (.ro 1 (streams [aq 0 e.l])),.d (.ro 1 (ae [e.l.length])),.u e.l.length,.u e.aF,.d (.v (.bool (e.act))),.d (.ro 2 (procs e.set)),.z e.sy.kind,.z e.sy.src.node,.u e.sy.src.inc,.u e.sy.vw.round,.z e.sy.vw.server.node,.u e.sy.vw.server.inc,.u e.sy.n,.d (.v (.slice none 0 0)),.u e.sy.aF,.d (.ro 1 (ae e.sy.cut)),.d (.v (.bool false)),.d (.v (.slice none 0 0)),.d (.v (.bool false)),.d (.v (.int .u64 0)),.z 0,.d (.v (.int .u64 0)),.d (.ro 2 ([])),.d (.ro 1 ([])),.d (.v (.slice none 0 0)),.d (.v (.int .u64 0)),.z 0,.d (.v (.int .u64 0)),.d (.ro 2 ([])),.d (.ro 1 ([])),.d (.ro 1 ([])),.d (.ro 1 ([])),.z 0,.z 0,.d (.v (.int .u64 0)),.d (.v (.int .u64 0)),.z 0,.d (.v (.int .u64 0)),.d (.v (.int .u64 0)),.d (.v (.slice none 0 0)),.d (.v (.int .u64 0)),.d (.ro 1 ([])),.d (.v (.bool false))]] (.tu [.ag (ED e),.ag [.v (.slice none 0 0),.v (.slice none 0 0)],.v (.int .i64 6)]):=by
 refine aj.intro (by kernel_rfl) rfl rfl 44 rfl rfl fun w0 K ac hK r=>?_
 cases h0:((e.st:Int) != 1) with
 | false=>
  have bq:=kY h0
  exact absurd bq (by omega)
 | true=>
  have bq:¬ _=_:=bne_iff_ne.1 h0
  rw [show (.tu [.ag (ED e),.ag [.v (.slice none 0 0),.v (.slice none 0 0)],.v (.int .i64 6)]:DV)=.tu [.ag [.z e.p.node,.u e.p.inc,.z e.st,.v (.int .u64 0),.z e.p.node,.u e.p.inc,.ro 2 (procs [e.p]),.ro 1 (ae [0]),.ro 1 (streams [aq 0 e.l]),.ro 1 (ae [e.l.length]),.u e.l.length,.u e.aF,.v (.bool (e.act)),.ro 2 (procs e.set),.z e.sy.kind,.z e.sy.src.node,.u e.sy.src.inc,.u e.sy.vw.round,.z e.sy.vw.server.node,.u e.sy.vw.server.inc,.u e.sy.n,.v (.slice none 0 0),.u e.sy.aF,.ro 1 (ae e.sy.cut),.v (.bool false),.v (.slice none 0 0),.v (.bool false),.v (.int .u64 0),.z 0,.v (.int .u64 0),.ro 2 ([]),.ro 1 ([]),.v (.slice none 0 0),.v (.int .u64 0),.z 0,.v (.int .u64 0),.ro 2 ([]),.ro 1 ([]),.ro 1 ([]),.ro 1 ([]),.z 0,.z 0,.v (.int .u64 0),.v (.int .u64 0),.z 0,.v (.int .u64 0),.v (.int .u64 0),.v (.slice none 0 0),.v (.int .u64 0),.ro 1 ([]),.v (.bool false)],.ag [.v (.slice none 0 0),.v (.slice none 0 0)],.z 6] from rfl]
  exact aM tk tq hK rfl [(1,[(1,.mem [] (.pt 0 0) [.bx 68 [.z e.p.node,.u e.p.inc,.z e.st,.d (.v (.int .u64 0)),.z e.p.node,.u e.p.inc,.d (.ro 2 (procs [e.p])),.d (.ro 1 (ae [0])),.d (.ro 1 (streams [aq 0 e.l])),.d (.ro 1 (ae [e.l.length])),.u e.l.length,.u e.aF,.d (.v (.bool (e.act))),.d (.ro 2 (procs e.set)),.z e.sy.kind,.z e.sy.src.node,.u e.sy.src.inc,.u e.sy.vw.round,.z e.sy.vw.server.node,.u e.sy.vw.server.inc,.u e.sy.n,.d (.v (.slice none 0 0)),.u e.sy.aF,.d (.ro 1 (ae e.sy.cut)),.d (.v (.bool false)),.d (.v (.slice none 0 0)),.d (.v (.bool false)),.d (.v (.int .u64 0)),.z 0,.d (.v (.int .u64 0)),.d (.ro 2 ([])),.d (.ro 1 ([])),.d (.v (.slice none 0 0)),.d (.v (.int .u64 0)),.z 0,.d (.v (.int .u64 0)),.d (.ro 2 ([])),.d (.ro 1 ([])),.d (.ro 1 ([])),.d (.ro 1 ([])),.z 0,.z 0,.d (.v (.int .u64 0)),.d (.v (.int .u64 0)),.z 0,.d (.v (.int .u64 0)),.d (.v (.int .u64 0)),.d (.v (.slice none 0 0)),.d (.v (.int .u64 0)),.d (.ro 1 ([])),.d (.v (.bool false)),.d (.v (.slice none 0 0)),.d (.v (.slice none 0 0))]])]),(2,[(5,.b true)])] 2000 r (by kernel_rfl) (U (iB e h) (U h0 trivial))
set_option maxRecDepth 100000 in
theorem Nc (e:En) (h:e.Ok):aj Tryz.prog 9 [.ag [.z e.p.node,.u e.p.inc,.z 1,.d (.v (.int .u64 0)),.z e.p.node,.u e.p.inc,.d (.ro 2 (procs [e.p])),.d (.ro 1 (ae [0])),.d (.ro 1 (streams [aq 0 e.l])),.d (.ro 1 (ae [e.l.length])),.u e.l.length,.u e.aF,.d (.v (.bool true)),.d (.ro 2 (procs [e.p])),.z e.sy.kind,.z e.sy.src.node,.u e.sy.src.inc,.u e.sy.vw.round,.z e.sy.vw.server.node,.u e.sy.vw.server.inc,.u e.sy.n,.d (.v (.slice none 0 0)),.u e.sy.aF,.d (.ro 1 (ae e.sy.cut)),.d (.v (.bool false)),.d (.v (.slice none 0 0)),.d (.v (.bool false)),.d (.v (.int .u64 0)),.z 0,.d (.v (.int .u64 0)),.d (.ro 2 ([])),.d (.ro 1 ([])),.d (.v (.slice none 0 0)),.d (.v (.int .u64 0)),.z 0,.d (.v (.int .u64 0)),.d (.ro 2 ([])),.d (.ro 1 ([])),.d (.ro 1 ([])),.d (.ro 1 ([])),.z 0,.z 0,.d (.v (.int .u64 0)),.d (.v (.int .u64 0)),.z 0,.d (.v (.int .u64 0)),.d (.v (.int .u64 0)),.d (.v (.slice none 0 0)),.d (.v (.int .u64 0)),.d (.ro 1 ([])),.d (.v (.bool false))]] (.tu [.ag [.z e.p.node,.u e.p.inc,.z 2,.v (.int .u64 0),.z e.p.node,.u e.p.inc,.ro 2 (procs [e.p]),.ro 1 (ae [0]),.ro 1 (streams [aq 0 e.l]),.ro 1 (ae [e.l.length]),.u e.l.length,.u e.aF,.v (.bool true),.ro 2 (procs [e.p]),.z 8,.z e.p.node,.u e.p.inc,.v (.int .u64 0),.z e.p.node,.u e.p.inc,.v (.int .u64 0),.v (.slice none 0 0),.u e.aF,.ro 1 (ae [e.l.length]),.v (.bool false),.v (.slice none 0 0),.v (.bool false),.v (.int .u64 0),.z 0,.v (.int .u64 0),.ro 2 ([]),.ro 1 ([]),.v (.slice none 0 0),.v (.int .u64 0),.z 0,.v (.int .u64 0),.ro 2 ([]),.ro 1 ([]),.ro 1 ([]),.ro 1 ([]),.z 0,.z 0,.v (.int .u64 0),.v (.int .u64 0),.z 0,.v (.int .u64 0),.v (.int .u64 0),.v (.slice none 0 0),.v (.int .u64 0),.ro 1 ([]),.v (.bool false)],.ag [.v (.slice none 0 0),.em 58 13 [ke e]],.v (.int .i64 0)]):=by
 refine aj.intro (by kernel_rfl) rfl rfl 44 rfl rfl fun w0 K ac hK r=>?_
 rw [show (.tu [.ag [.z e.p.node,.u e.p.inc,.z 2,.v (.int .u64 0),.z e.p.node,.u e.p.inc,.ro 2 (procs [e.p]),.ro 1 (ae [0]),.ro 1 (streams [aq 0 e.l]),.ro 1 (ae [e.l.length]),.u e.l.length,.u e.aF,.v (.bool true),.ro 2 (procs [e.p]),.z 8,.z e.p.node,.u e.p.inc,.v (.int .u64 0),.z e.p.node,.u e.p.inc,.v (.int .u64 0),.v (.slice none 0 0),.u e.aF,.ro 1 (ae [e.l.length]),.v (.bool false),.v (.slice none 0 0),.v (.bool false),.v (.int .u64 0),.z 0,.v (.int .u64 0),.ro 2 ([]),.ro 1 ([]),.v (.slice none 0 0),.v (.int .u64 0),.z 0,.v (.int .u64 0),.ro 2 ([]),.ro 1 ([]),.ro 1 ([]),.ro 1 ([]),.z 0,.z 0,.v (.int .u64 0),.v (.int .u64 0),.z 0,.v (.int .u64 0),.v (.int .u64 0),.v (.slice none 0 0),.v (.int .u64 0),.ro 1 ([]),.v (.bool false)],.ag [.v (.slice none 0 0),.em 58 13 [ke e]],.v (.int .i64 0)]:DV)=.tu [.ag [.z e.p.node,.u e.p.inc,.z 2,.v (.int .u64 0),.z e.p.node,.u e.p.inc,.ro 2 (procs [e.p]),.ro 1 (ae [0]),.ro 1 (streams [aq 0 e.l]),.ro 1 (ae [e.l.length]),.u e.l.length,.u e.aF,.v (.bool true),.ro 2 (procs [e.p]),.z 8,.z e.p.node,.u e.p.inc,.v (.int .u64 0),.z e.p.node,.u e.p.inc,.v (.int .u64 0),.v (.slice none 0 0),.u e.aF,.ro 1 (ae [e.l.length]),.v (.bool false),.v (.slice none 0 0),.v (.bool false),.v (.int .u64 0),.z 0,.v (.int .u64 0),.ro 2 ([]),.ro 1 ([]),.v (.slice none 0 0),.v (.int .u64 0),.z 0,.v (.int .u64 0),.ro 2 ([]),.ro 1 ([]),.ro 1 ([]),.ro 1 ([]),.z 0,.z 0,.v (.int .u64 0),.v (.int .u64 0),.z 0,.v (.int .u64 0),.v (.int .u64 0),.v (.slice none 0 0),.v (.int .u64 0),.ro 1 ([]),.v (.bool false)],.ag [.v (.slice none 0 0),.em 58 13 ([ke e])],.z 0] from rfl]
 exact aM tk tq hK rfl [(1,[(1,.mem [] (.pt 0 0) [.bx 68 [.z e.p.node,.u e.p.inc,.z 1,.d (.v (.int .u64 0)),.z e.p.node,.u e.p.inc,.d (.ro 2 (procs [e.p])),.d (.ro 1 (ae [0])),.d (.ro 1 (streams [aq 0 e.l])),.d (.ro 1 (ae [e.l.length])),.u e.l.length,.u e.aF,.d (.v (.bool true)),.d (.ro 2 (procs [e.p])),.z e.sy.kind,.z e.sy.src.node,.u e.sy.src.inc,.u e.sy.vw.round,.z e.sy.vw.server.node,.u e.sy.vw.server.inc,.u e.sy.n,.d (.v (.slice none 0 0)),.u e.sy.aF,.d (.ro 1 (ae e.sy.cut)),.d (.v (.bool false)),.d (.v (.slice none 0 0)),.d (.v (.bool false)),.d (.v (.int .u64 0)),.z 0,.d (.v (.int .u64 0)),.d (.ro 2 ([])),.d (.ro 1 ([])),.d (.v (.slice none 0 0)),.d (.v (.int .u64 0)),.z 0,.d (.v (.int .u64 0)),.d (.ro 2 ([])),.d (.ro 1 ([])),.d (.ro 1 ([])),.d (.ro 1 ([])),.z 0,.z 0,.d (.v (.int .u64 0)),.d (.v (.int .u64 0)),.z 0,.d (.v (.int .u64 0)),.d (.v (.int .u64 0)),.d (.v (.slice none 0 0)),.d (.v (.int .u64 0)),.d (.ro 1 ([])),.d (.v (.bool false)),.d (.v (.slice none 0 0)),.d (.v (.slice none 0 0))]])]),(5,[(8,.b9 200 [])]),(6,[(1,.mem [3,5] (.tu []) [.bx 68 [.z e.p.node,.u e.p.inc,.z 2,.d (.v (.int .u64 0)),.z e.p.node,.u e.p.inc,.d (.ro 2 (procs [e.p])),.d (.ro 1 (ae [0])),.d (.ro 1 (streams [aq 0 e.l])),.d (.ro 1 (ae [e.l.length])),.u e.l.length,.u e.aF,.d (.v (.bool true)),.d (.ro 2 (procs [e.p])),.z 8,.z e.p.node,.u e.p.inc,.d (.v (.int .u64 0)),.z e.p.node,.u e.p.inc,.d (.v (.int .u64 0)),.d (.v (.slice none 0 0)),.u e.aF,.d (.ro 1 (ae [e.l.length])),.d (.v (.bool false)),.d (.v (.slice none 0 0)),.d (.v (.bool false)),.d (.v (.int .u64 0)),.z 0,.d (.v (.int .u64 0)),.d (.ro 2 ([])),.d (.ro 1 ([])),.d (.v (.slice none 0 0)),.d (.v (.int .u64 0)),.z 0,.d (.v (.int .u64 0)),.d (.ro 2 ([])),.d (.ro 1 ([])),.d (.ro 1 ([])),.d (.ro 1 ([])),.z 0,.z 0,.d (.v (.int .u64 0)),.d (.v (.int .u64 0)),.z 0,.d (.v (.int .u64 0)),.d (.v (.int .u64 0)),.d (.v (.slice none 0 0)),.d (.v (.int .u64 0)),.d (.ro 1 ([])),.d (.v (.bool false)),.d (.v (.slice none 0 0)),.sl 1 (1)],.rw 58 13 ([ke e])])]),(7,[(1,.mem [3,5] (.tu []) [.bx 68 [.z e.p.node,.u e.p.inc,.z 2,.d (.v (.int .u64 0)),.z e.p.node,.u e.p.inc,.d (.ro 2 (procs [e.p])),.d (.ro 1 (ae [0])),.d (.ro 1 (streams [aq 0 e.l])),.d (.ro 1 (ae [e.l.length])),.u e.l.length,.u e.aF,.d (.v (.bool true)),.d (.ro 2 (procs [e.p])),.z 8,.z e.p.node,.u e.p.inc,.d (.v (.int .u64 0)),.z e.p.node,.u e.p.inc,.d (.v (.int .u64 0)),.d (.v (.slice none 0 0)),.u e.aF,.d (.ro 1 (ae [e.l.length])),.d (.v (.bool false)),.d (.v (.slice none 0 0)),.d (.v (.bool false)),.d (.v (.int .u64 0)),.z 0,.d (.v (.int .u64 0)),.d (.ro 2 ([])),.d (.ro 1 ([])),.d (.v (.slice none 0 0)),.d (.v (.int .u64 0)),.z 0,.d (.v (.int .u64 0)),.d (.ro 2 ([])),.d (.ro 1 ([])),.d (.ro 1 ([])),.d (.ro 1 ([])),.z 0,.z 0,.d (.v (.int .u64 0)),.d (.v (.int .u64 0)),.z 0,.d (.v (.int .u64 0)),.d (.v (.int .u64 0)),.d (.v (.slice none 0 0)),.d (.v (.int .u64 0)),.d (.ro 1 ([])),.d (.v (.bool false)),.d (.v (.slice none 0 0)),.sl 1 (1)],.rw 58 13 ([ke e])])])] 2000 r (by kernel_rfl) (U (iB e.asked h.asked) (U ((by first | rfl | (simp;done) | (simp<;>omega)):(1)=([[.z 4,.z e.p.node,.u e.p.inc,.z 0,.v (.int .u64 0),.v (.int .u64 0),.v (.slice none 0 0),.v (.int .u64 0),.z 0,.v (.int .u64 0),.v (.slice none 0 0),.v (.slice none 0 0),.v (.slice none 0 0)]]:List (List DV)).length) (U ((by first | omega | (simp [cR];done) | (simp [cR];omega)):(2*(0+(1))+192)*168≤281474976710656) (U ((by first | omega | (simp [cR];done) | (simp [cR];omega)):0+(1)<4611686018427387904) (U ((by simp [bX,AV.one,cA,al]):bX ([[.z 4,.z e.p.node,.u e.p.inc,.z 0,.v (.int .u64 0),.v (.int .u64 0),.v (.slice none 0 0),.v (.int .u64 0),.z 0,.v (.int .u64 0),.v (.slice none 0 0),.v (.slice none 0 0),.v (.slice none 0 0)]])) (U (Sr e h (ke e)) (U (Q7 e h (ke e)) (U ((by first | rfl | (simp;done) | (simp<;>omega)):(1)=([ke e]:List (List DV)).length) trivial))))))))
theorem OT (e:En) (h:e.Ok):aj Tryz.prog 9 [.ag (EC e.asked)] (.tu [.ag (ED e.blocked),.ag [.v (.slice none 0 0),.ro 13 [ke e]],.v (.int .i64 0)]):=by
 have h:=(Nc e h).bc
 simp only [bc,hC,bM,kW,kh,mq,ke] at h
 exact h
theorem TE {p:au} (hp:p.may=true):isSet [p]=true:=by simp [isSet,hp]
theorem TF (p:au):idx [p] p 0=0:=by simp [idx]
theorem Q8 (p:au):aj Tryz.prog 53 [.d (.ro 2 (procs [p]))] (.ro 1 (ints [p.node])):=by
 have h:=rW [p] (fun i a b h1 h2=>by simp at h2) (by simp)
 have e:a6 ([p].map au.node) ([p].map au.node).length=[p.node]:=by simp [a6,qb]
 rw [e] at h;exact h
set_option maxRecDepth 100000 in
theorem Qn (p:au) (hp:p.may=true):aj Tryz.prog 26 [.ag [.z p.node,.u p.inc],.d (.ro 2 (procs [p]))] (.v (.bool true)):=by
 refine aj.intro (by kernel_rfl) rfl rfl 25 rfl rfl fun w0 K ac hK r=>?_
 rw [show (.v (.bool true):DV)=.v (.bool true) from rfl]
 exact aM tk tq hK rfl [(1,[(1,.z (((1:Nat):Int))),(5,.aL (.v (.bool true))),(10,.b9 200 [(1,[(2,.b9 200 [(1,[(2,.aL (.z 0))])])])]),(14,.aL (.ro 1 (ints [p.node]))),(15,.z (((1:Nat):Int))),(17,.z (((1:Nat):Int)))])] 2000 r (by kernel_rfl) (U (rfl:(((procs [p]).length:Nat):Int)=((1:Nat):Int)) (U ((by have k:=z9 [p] (by simp);rw [TE hp] at k;exact k):aj Tryz.prog 51 [.d (.ro 2 (procs [p]))] (.v (.bool true))) (U ((by have k:=EL [p] p (by simp);rw [TF p] at k;exact k):aj Tryz.prog 88 [.d (.ro 2 (procs [p])),.ag [.z p.node,.u p.inc]] (.z 0)) (U (Q8 p) (U (rfl:(((ints [p.node]).length:Nat):Int)=((1:Nat):Int)) (U (rfl:(((procs [p]).length:Nat):Int)=((1:Nat):Int)) trivial))))))
set_option maxRecDepth 100000 in
theorem Qo (e:En) (h:e.Ok) (c:Nat) (hc:c≤e.aF) (s:List au):aj Tryz.prog 10 [.ag [.z e.p.node,.u e.p.inc,.z e.st,.d (.v (.int .u64 0)),.z e.p.node,.u e.p.inc,.d (.ro 2 (procs [e.p])),.d (.ro 1 (ae [0])),.d (.ro 1 (streams [aq 0 e.l])),.d (.ro 1 (ae [e.l.length])),.u e.l.length,.u e.aF,.d (.v (.bool (e.act))),.d (.ro 2 (procs e.set)),.z e.sy.kind,.z e.sy.src.node,.u e.sy.src.inc,.u e.sy.vw.round,.z e.sy.vw.server.node,.u e.sy.vw.server.inc,.u e.sy.n,.d (.v (.slice none 0 0)),.u e.sy.aF,.d (.ro 1 (ae e.sy.cut)),.d (.v (.bool false)),.d (.v (.slice none 0 0)),.d (.v (.bool false)),.d (.v (.int .u64 0)),.z 0,.d (.v (.int .u64 0)),.d (.ro 2 ([])),.d (.ro 1 ([])),.d (.v (.slice none 0 0)),.d (.v (.int .u64 0)),.z 0,.d (.v (.int .u64 0)),.d (.ro 2 ([])),.d (.ro 1 ([])),.d (.ro 1 ([])),.d (.ro 1 ([])),.z 0,.z 0,.d (.v (.int .u64 0)),.d (.v (.int .u64 0)),.z 0,.d (.v (.int .u64 0)),.d (.v (.int .u64 0)),.d (.v (.slice none 0 0)),.d (.v (.int .u64 0)),.d (.ro 1 ([])),.d (.v (.bool false))],.u c,.d (.ro 2 (procs s))] (.tu [.ag (ED e),.ag [.v (.slice none 0 0),.v (.slice none 0 0)]]):=by
 refine aj.intro (by kernel_rfl) rfl rfl 92 rfl rfl fun w0 K ac hK r=>?_
 cases h0:(decide ((((c:Nat):Int):Int)≤((e.aF:Nat):Int))) with
 | false=>
  have bq:=of_decide_eq_false h0
  exact absurd bq (by omega)
 | true=>
  have bq:=of_decide_eq_true h0
  rw [show (.tu [.ag (ED e),.ag [.v (.slice none 0 0),.v (.slice none 0 0)]]:DV)=.tu [.ag [.z e.p.node,.u e.p.inc,.z e.st,.v (.int .u64 0),.z e.p.node,.u e.p.inc,.ro 2 (procs [e.p]),.ro 1 (ae [0]),.ro 1 (streams [aq 0 e.l]),.ro 1 (ae [e.l.length]),.u e.l.length,.u e.aF,.v (.bool (e.act)),.ro 2 (procs e.set),.z e.sy.kind,.z e.sy.src.node,.u e.sy.src.inc,.u e.sy.vw.round,.z e.sy.vw.server.node,.u e.sy.vw.server.inc,.u e.sy.n,.v (.slice none 0 0),.u e.sy.aF,.ro 1 (ae e.sy.cut),.v (.bool false),.v (.slice none 0 0),.v (.bool false),.v (.int .u64 0),.z 0,.v (.int .u64 0),.ro 2 ([]),.ro 1 ([]),.v (.slice none 0 0),.v (.int .u64 0),.z 0,.v (.int .u64 0),.ro 2 ([]),.ro 1 ([]),.ro 1 ([]),.ro 1 ([]),.z 0,.z 0,.v (.int .u64 0),.v (.int .u64 0),.z 0,.v (.int .u64 0),.v (.int .u64 0),.v (.slice none 0 0),.v (.int .u64 0),.ro 1 ([]),.v (.bool false)],.ag [.v (.slice none 0 0),.v (.slice none 0 0)]] from rfl]
  exact aM tk tq hK rfl [(1,[(1,.mem [] (.pt 0 0) [.bx 68 [.z e.p.node,.u e.p.inc,.z e.st,.d (.v (.int .u64 0)),.z e.p.node,.u e.p.inc,.d (.ro 2 (procs [e.p])),.d (.ro 1 (ae [0])),.d (.ro 1 (streams [aq 0 e.l])),.d (.ro 1 (ae [e.l.length])),.u e.l.length,.u e.aF,.d (.v (.bool (e.act))),.d (.ro 2 (procs e.set)),.z e.sy.kind,.z e.sy.src.node,.u e.sy.src.inc,.u e.sy.vw.round,.z e.sy.vw.server.node,.u e.sy.vw.server.inc,.u e.sy.n,.d (.v (.slice none 0 0)),.u e.sy.aF,.d (.ro 1 (ae e.sy.cut)),.d (.v (.bool false)),.d (.v (.slice none 0 0)),.d (.v (.bool false)),.d (.v (.int .u64 0)),.z 0,.d (.v (.int .u64 0)),.d (.ro 2 ([])),.d (.ro 1 ([])),.d (.v (.slice none 0 0)),.d (.v (.int .u64 0)),.z 0,.d (.v (.int .u64 0)),.d (.ro 2 ([])),.d (.ro 1 ([])),.d (.ro 1 ([])),.d (.ro 1 ([])),.z 0,.z 0,.d (.v (.int .u64 0)),.d (.v (.int .u64 0)),.z 0,.d (.v (.int .u64 0)),.d (.v (.int .u64 0)),.d (.v (.slice none 0 0)),.d (.v (.int .u64 0)),.d (.ro 1 ([])),.d (.v (.bool false)),.d (.v (.slice none 0 0)),.d (.v (.slice none 0 0))]])]),(2,[(6,.b true)])] 2000 r (by kernel_rfl) (U (iB e h) (U h0 trivial))
set_option maxRecDepth 100000 in
theorem Nd (e:En) (h:e.Ok) (h0:e.st=0) (c:Nat) (hc:e.aF<c):aj Tryz.prog 10 [.ag [.z e.p.node,.u e.p.inc,.z e.st,.d (.v (.int .u64 0)),.z e.p.node,.u e.p.inc,.d (.ro 2 (procs [e.p])),.d (.ro 1 (ae [0])),.d (.ro 1 (streams [aq 0 e.l])),.d (.ro 1 (ae [e.l.length])),.u e.l.length,.u e.aF,.d (.v (.bool (e.act))),.d (.ro 2 (procs e.set)),.z e.sy.kind,.z e.sy.src.node,.u e.sy.src.inc,.u e.sy.vw.round,.z e.sy.vw.server.node,.u e.sy.vw.server.inc,.u e.sy.n,.d (.v (.slice none 0 0)),.u e.sy.aF,.d (.ro 1 (ae e.sy.cut)),.d (.v (.bool false)),.d (.v (.slice none 0 0)),.d (.v (.bool false)),.d (.v (.int .u64 0)),.z 0,.d (.v (.int .u64 0)),.d (.ro 2 ([])),.d (.ro 1 ([])),.d (.v (.slice none 0 0)),.d (.v (.int .u64 0)),.z 0,.d (.v (.int .u64 0)),.d (.ro 2 ([])),.d (.ro 1 ([])),.d (.ro 1 ([])),.d (.ro 1 ([])),.z 0,.z 0,.d (.v (.int .u64 0)),.d (.v (.int .u64 0)),.z 0,.d (.v (.int .u64 0)),.d (.v (.int .u64 0)),.d (.v (.slice none 0 0)),.d (.v (.int .u64 0)),.d (.ro 1 ([])),.d (.v (.bool false))],.u c,.d (.ro 2 (procs [e.p]))] (.tu [.ag [.z e.p.node,.u e.p.inc,.z 1,.v (.int .u64 0),.z e.p.node,.u e.p.inc,.ro 2 (procs [e.p]),.ro 1 (ae [0]),.ro 1 (streams [aq 0 e.l]),.ro 1 (ae [e.l.length]),.u e.l.length,.u c,.v (.bool true),.ro 2 (procs [e.p]),.z e.sy.kind,.z e.sy.src.node,.u e.sy.src.inc,.u e.sy.vw.round,.z e.sy.vw.server.node,.u e.sy.vw.server.inc,.u e.sy.n,.v (.slice none 0 0),.u e.sy.aF,.ro 1 (ae e.sy.cut),.v (.bool false),.v (.slice none 0 0),.v (.bool false),.v (.int .u64 0),.z 0,.v (.int .u64 0),.v (.slice none 0 0),.v (.slice none 0 0),.v (.slice none 0 0),.v (.int .u64 0),.z 0,.v (.int .u64 0),.ro 2 ([]),.ro 1 ([]),.ro 1 ([]),.ro 1 ([]),.z 0,.z 0,.v (.int .u64 0),.v (.int .u64 0),.z 0,.v (.int .u64 0),.v (.int .u64 0),.v (.slice none 0 0),.v (.int .u64 0),.ro 1 ([]),.v (.bool false)],.ag [.v (.slice none 0 0),.em 58 13 [ud e]]]):=by
 refine aj.intro (by kernel_rfl) rfl rfl 92 rfl rfl fun w0 K ac hK r=>?_
 cases h0:(decide ((((c:Nat):Int):Int)≤((e.aF:Nat):Int))) with
 | false=>
  have bq:=of_decide_eq_false h0
  cases h1:((e.st:Int)==0) with
  | false=>
   have b6:=ne_of_beq_false h1
   exact absurd b6 (by omega)
  | true=>
   have b6:=eq_of_beq h1
   rw [show (.tu [.ag [.z e.p.node,.u e.p.inc,.z 1,.v (.int .u64 0),.z e.p.node,.u e.p.inc,.ro 2 (procs [e.p]),.ro 1 (ae [0]),.ro 1 (streams [aq 0 e.l]),.ro 1 (ae [e.l.length]),.u e.l.length,.u c,.v (.bool true),.ro 2 (procs [e.p]),.z e.sy.kind,.z e.sy.src.node,.u e.sy.src.inc,.u e.sy.vw.round,.z e.sy.vw.server.node,.u e.sy.vw.server.inc,.u e.sy.n,.v (.slice none 0 0),.u e.sy.aF,.ro 1 (ae e.sy.cut),.v (.bool false),.v (.slice none 0 0),.v (.bool false),.v (.int .u64 0),.z 0,.v (.int .u64 0),.v (.slice none 0 0),.v (.slice none 0 0),.v (.slice none 0 0),.v (.int .u64 0),.z 0,.v (.int .u64 0),.ro 2 ([]),.ro 1 ([]),.ro 1 ([]),.ro 1 ([]),.z 0,.z 0,.v (.int .u64 0),.v (.int .u64 0),.z 0,.v (.int .u64 0),.v (.int .u64 0),.v (.slice none 0 0),.v (.int .u64 0),.ro 1 ([]),.v (.bool false)],.ag [.v (.slice none 0 0),.em 58 13 [ud e]]]:DV)=.tu [.ag [.z e.p.node,.u e.p.inc,.z 1,.v (.int .u64 0),.z e.p.node,.u e.p.inc,.ro 2 (procs [e.p]),.ro 1 (ae [0]),.ro 1 (streams [aq 0 e.l]),.ro 1 (ae [e.l.length]),.u e.l.length,.u c,.v (.bool true),.ro 2 (procs [e.p]),.z e.sy.kind,.z e.sy.src.node,.u e.sy.src.inc,.u e.sy.vw.round,.z e.sy.vw.server.node,.u e.sy.vw.server.inc,.u e.sy.n,.v (.slice none 0 0),.u e.sy.aF,.ro 1 (ae e.sy.cut),.v (.bool false),.v (.slice none 0 0),.v (.bool false),.v (.int .u64 0),.z 0,.v (.int .u64 0),.v (.slice none 0 0),.v (.slice none 0 0),.v (.slice none 0 0),.v (.int .u64 0),.z 0,.v (.int .u64 0),.ro 2 ([]),.ro 1 ([]),.ro 1 ([]),.ro 1 ([]),.z 0,.z 0,.v (.int .u64 0),.v (.int .u64 0),.z 0,.v (.int .u64 0),.v (.int .u64 0),.v (.slice none 0 0),.v (.int .u64 0),.ro 1 ([]),.v (.bool false)],.ag [.v (.slice none 0 0),.em 58 13 ([[.z 3,.z e.p.node,.u e.p.inc,.z 0,.v (.int .u64 0),.v (.int .u64 0),.v (.slice none 0 0),.v (.int .u64 0),.z 0,.v (.int .u64 0),.v (.slice none 0 0),.v (.slice none 0 0),.v (.slice none 0 0)]])]] from rfl]
   exact aM tk tq hK rfl [(1,[(1,.mem [] (.pt 0 0) [.bx 68 [.z e.p.node,.u e.p.inc,.z e.st,.d (.v (.int .u64 0)),.z e.p.node,.u e.p.inc,.d (.ro 2 (procs [e.p])),.d (.ro 1 (ae [0])),.d (.ro 1 (streams [aq 0 e.l])),.d (.ro 1 (ae [e.l.length])),.u e.l.length,.u e.aF,.d (.v (.bool (e.act))),.d (.ro 2 (procs e.set)),.z e.sy.kind,.z e.sy.src.node,.u e.sy.src.inc,.u e.sy.vw.round,.z e.sy.vw.server.node,.u e.sy.vw.server.inc,.u e.sy.n,.d (.v (.slice none 0 0)),.u e.sy.aF,.d (.ro 1 (ae e.sy.cut)),.d (.v (.bool false)),.d (.v (.slice none 0 0)),.d (.v (.bool false)),.d (.v (.int .u64 0)),.z 0,.d (.v (.int .u64 0)),.d (.ro 2 ([])),.d (.ro 1 ([])),.d (.v (.slice none 0 0)),.d (.v (.int .u64 0)),.z 0,.d (.v (.int .u64 0)),.d (.ro 2 ([])),.d (.ro 1 ([])),.d (.ro 1 ([])),.d (.ro 1 ([])),.z 0,.z 0,.d (.v (.int .u64 0)),.d (.v (.int .u64 0)),.z 0,.d (.v (.int .u64 0)),.d (.v (.int .u64 0)),.d (.v (.slice none 0 0)),.d (.v (.int .u64 0)),.d (.ro 1 ([])),.d (.v (.bool false)),.d (.v (.slice none 0 0)),.d (.v (.slice none 0 0))]])]),(2,[(6,.b false),(14,.aL (.v (.bool true)))]),(4,[(5,.aL (.ro 2 (procs [e.p])))]),(7,[(0,.b true)]),(9,[(8,.b9 200 [])])] 2000 r (by kernel_rfl) (U (iB e h) (U h0 (U (Qn e.p h.p) (U (we [e.p] (by simp)) (U h1 (U ((by first | rfl | (simp;done) | (simp<;>omega)):(1)=([[.z 3,.z e.p.node,.u e.p.inc,.z 0,.v (.int .u64 0),.v (.int .u64 0),.v (.slice none 0 0),.v (.int .u64 0),.z 0,.v (.int .u64 0),.v (.slice none 0 0),.v (.slice none 0 0),.v (.slice none 0 0)]]:List (List DV)).length) (U ((by first | omega | (simp [cR];done) | (simp [cR];omega)):(2*(0+(1))+192)*168≤281474976710656) (U ((by first | omega | (simp [cR];done) | (simp [cR];omega)):0+(1)<4611686018427387904) (U ((by simp [bX,AV.one,cA,al]):bX ([[.z 3,.z e.p.node,.u e.p.inc,.z 0,.v (.int .u64 0),.v (.int .u64 0),.v (.slice none 0 0),.v (.int .u64 0),.z 0,.v (.int .u64 0),.v (.slice none 0 0),.v (.slice none 0 0),.v (.slice none 0 0)]])) (U ((by first | rfl | (simp;done) | (simp<;>omega)):((1))=([[.z 3,.z e.p.node,.u e.p.inc,.z 0,.v (.int .u64 0),.v (.int .u64 0),.v (.slice none 0 0),.v (.int .u64 0),.z 0,.v (.int .u64 0),.v (.slice none 0 0),.v (.slice none 0 0),.v (.slice none 0 0)]]:List (List DV)).length) trivial))))))))))
 | true=>
  have bq:=of_decide_eq_true h0
  exact absurd bq (by omega)
theorem OU (e:En) (h:e.Ok) (h0:e.st=0) (c:Nat) (hc:e.aF<c):aj Tryz.prog 10 [.ag (EC e),.d (.v (.int .u64 ((c:Nat):Int))),.d (.ro 2 (procs [e.p]))] (.tu [.ag (ED ({ e with aF:=c }:En).asked),.ag [.v (.slice none 0 0),.ro 13 [ud e]]]):=by
 have h:=(Nd e h h0 c hc).bc
 simp only [bc,hC,bM,kW,kh,mq] at h
 refine h.le (gD.tu (.cons (gD.ag ?_) (.cons (Le.refl _) .nil)))
 repeat (first | exact .nil | refine .cons (by first | exact Le.refl _ | exact Le.Bx _) ?_)
end Go.Proofs.YtgkdnnmcjjabdaaGreat
namespace Go.Proofs.YtgkdnnmcjjabdaaGreat
open Go.RowKit
theorem Q9 (p:au):aj Tryz.prog 15 [.ag [.z p.node,.u p.inc]] (.ag [.v (.int .u64 0),.z p.node,.u p.inc,.ro 2 (procs [p]),.ro 1 (ae [0])]):=by
 have h:=(yI p).bc
 simp only [bc,hC,kW,kh] at h
 exact h
set_option maxRecDepth 100000 in
theorem Ss (p:au):aj Tryz.prog 7 [.ag [.z p.node,.u p.inc]] (.ag [.z p.node,.u p.inc,.z 0,.v (.int .u64 0),.z p.node,.u p.inc,.ro 2 (procs [p]),.ro 1 (ae [0]),.ro 1 (streams [aq 0 ([]:List (List UInt8))]),.ro 1 (ae [0]),.v (.int .u64 0),.v (.int .u64 0),.v (.bool false),.v (.slice none 0 0),.z 0,.z 0,.v (.int .u64 0),.v (.int .u64 0),.z 0,.v (.int .u64 0),.v (.int .u64 0),.v (.slice none 0 0),.v (.int .u64 0),.v (.slice none 0 0),.v (.bool false),.v (.slice none 0 0),.v (.bool false),.v (.int .u64 0),.z 0,.v (.int .u64 0),.v (.slice none 0 0),.v (.slice none 0 0),.v (.slice none 0 0),.v (.int .u64 0),.z 0,.v (.int .u64 0),.v (.slice none 0 0),.v (.slice none 0 0),.v (.slice none 0 0),.v (.slice none 0 0),.z 0,.z 0,.v (.int .u64 0),.v (.int .u64 0),.z 0,.v (.int .u64 0),.v (.int .u64 0),.v (.slice none 0 0),.v (.int .u64 0),.v (.slice none 0 0),.v (.bool false)]):=by
 refine aj.intro (by kernel_rfl) rfl rfl 8 rfl rfl fun w0 K ac hK r=>?_
 rw [show (.ag [.z p.node,.u p.inc,.z 0,.v (.int .u64 0),.z p.node,.u p.inc,.ro 2 (procs [p]),.ro 1 (ae [0]),.ro 1 (streams [aq 0 ([]:List (List UInt8))]),.ro 1 (ae [0]),.v (.int .u64 0),.v (.int .u64 0),.v (.bool false),.v (.slice none 0 0),.z 0,.z 0,.v (.int .u64 0),.v (.int .u64 0),.z 0,.v (.int .u64 0),.v (.int .u64 0),.v (.slice none 0 0),.v (.int .u64 0),.v (.slice none 0 0),.v (.bool false),.v (.slice none 0 0),.v (.bool false),.v (.int .u64 0),.z 0,.v (.int .u64 0),.v (.slice none 0 0),.v (.slice none 0 0),.v (.slice none 0 0),.v (.int .u64 0),.z 0,.v (.int .u64 0),.v (.slice none 0 0),.v (.slice none 0 0),.v (.slice none 0 0),.v (.slice none 0 0),.z 0,.z 0,.v (.int .u64 0),.v (.int .u64 0),.z 0,.v (.int .u64 0),.v (.int .u64 0),.v (.slice none 0 0),.v (.int .u64 0),.v (.slice none 0 0),.v (.bool false)]:DV)=.ag [.z p.node,.u p.inc,.z 0,.v (.int .u64 0),.z p.node,.u p.inc,.ro 2 (procs [p]),.ro 1 (ae [0]),.ro 1 (streams [aq 0 ([]:List (List UInt8))]),.ro 1 (ae [0]),.v (.int .u64 0),.v (.int .u64 0),.v (.bool false),.v (.slice none 0 0),.z 0,.z 0,.v (.int .u64 0),.v (.int .u64 0),.z 0,.v (.int .u64 0),.v (.int .u64 0),.v (.slice none 0 0),.v (.int .u64 0),.v (.slice none 0 0),.v (.bool false),.v (.slice none 0 0),.v (.bool false),.v (.int .u64 0),.z 0,.v (.int .u64 0),.v (.slice none 0 0),.v (.slice none 0 0),.v (.slice none 0 0),.v (.int .u64 0),.z 0,.v (.int .u64 0),.v (.slice none 0 0),.v (.slice none 0 0),.v (.slice none 0 0),.v (.slice none 0 0),.z 0,.z 0,.v (.int .u64 0),.v (.int .u64 0),.z 0,.v (.int .u64 0),.v (.int .u64 0),.v (.slice none 0 0),.v (.int .u64 0),.v (.slice none 0 0),.v (.bool false)] from rfl]
 exact aM tk tq hK rfl [(1,[(2,.aL (.ag [.v (.int .u64 0),.z p.node,.u p.inc,.ro 2 (procs [p]),.ro 1 (ae [0])])),(3,.aL (.ag [.v (.int .u64 0),.z p.node,.u p.inc,.ro 2 (procs [p]),.ro 1 (ae [0]),.ro 1 (streams [aq 0 ([]:List (List UInt8))]),.ro 1 (ae [0])]))])] 2000 r (by kernel_rfl) (U (Q9 p) (U (Sp p) trivial))
theorem TG (p:au):aj Tryz.prog 7 [.ag [.z p.node,.u p.inc]] (.ag (ED (En.new p))):=by
 refine (Ss p).le (gD.ag ?_)
 repeat (first | exact .nil | refine .cons (by first | exact Le.refl _ | exact Le.Bx _) ?_)
def En.run (p:au) (l:List (List UInt8)):En:=⟨p,0,l,0,false,[],⟨0,⟨0,0⟩,⟨0,⟨0,0⟩⟩,0,0,[]⟩⟩
theorem En.ku {p:au} {l:List (List UInt8)} (hp:p.may=true) (hl:eN l):(En.run p l).Ok:=⟨hp,hl,by simp [En.run],by simp [En.run]⟩
abbrev ey (l:List (List UInt8)):List (List DV):=l.map fun b=>[.ro 1 (al b)]
theorem et {l:List (List UInt8)} {i:Nat} {b:List UInt8} (h:l[i]?=some b):(ey l)[i]?=some [.ro 1 (al b)]:=by simp [ey,h]
def En.TH (e:En) (b:List UInt8):En:={ e with l:=e.l++[b] }
theorem Qp (e:En) (b:List UInt8) (h:e.Ok) (hs:e.st≠2) (hb:b.length≤64) (kV:e.l.length<16):aj Tryz.prog 8 [.ag (EC e),.d (.ro 1 (al b))] (.tu [.ag (ED (e.TH b)),.ag [.v (.slice none 0 0),.ro 13 [cz e b,iq e b]],.v (.int .i64 0)]):=by
 have k:=(OS e b h hs hb kV).bc
 simp only [bc,hC,bM,kW,kh,mq,yc,cz,iq] at k
 have e1:(e.l++[b]).length=e.l.length+1:=by simp
 refine k.le (gD.tu (.cons (gD.ag ?_) (.cons (Le.refl _) (.cons (Le.refl _) .nil))))
 repeat (first | exact .nil | refine .cons (by first | exact Le.refl _ | (show Le (.v (.int .u64 ((e.l.length+1:Nat):Int))) (.v (.int .u64 (((e.l++[b]).length:Nat):Int)));rw [e1];exact Le.refl _)) ?_)
end Go.Proofs.YtgkdnnmcjjabdaaGreat
