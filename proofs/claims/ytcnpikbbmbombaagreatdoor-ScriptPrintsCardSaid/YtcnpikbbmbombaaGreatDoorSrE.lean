/-
  scriptPrints_card, part 5 of 7: merged by program from the texts that it needs.
-/
import Derived.Test.YtcnpikbbmbombaaGreatDoorSrD
set_option linter.unusedSimpArgs false
set_option linter.unusedVariables false
set_option linter.unnecessarySimpa false
namespace Go.Proofs.YtcnpikbbmbombaaGreatDoor
open Go.RowKit
def cb (l:List Nat):List (List DV):=l.map fun n=>[.u n]
theorem A6 {l:List Nat} {i x:Nat} (h:l[i]?=some x):(cb l)[i]?=some [.u x]:=by simp [cb,h]
def cd (x:Nat):List Nat:=if h:x<128 then [x] else x%128::cd (x / 128)
termination_by x
theorem qh {x:Nat} (h:x<128):cd x=[x]:=by rw [cd,dif_pos h]
theorem sj {x:Nat} (h:¬ x<128):cd x=x%128::cd (x / 128):=by rw [cd,dif_neg h]
theorem At:∀ (k x:Nat),x<128 ^ (k+1)→(cd x).length≤k+1
 | 0,x,h=>by rw [qh (by omega)];simp
 | k+1,x,h=>by
  by_cases hx:x<128
  ·rw [qh hx];simp
  ·rw [sj hx]
   have:=At k (x / 128) (by rw [Nat.div_lt_iff_lt_mul (by decide),← Nat.pow_succ];exact h)
   simp;omega
theorem FR {x:Nat} (h:x<18446744073709551616):(cd x).length≤10:=At 9 x (Nat.lt_of_lt_of_le h (by decide))
def gi:List Nat→List UInt8
 | []=>[]
 | a::r=>bz ((a+(if r=[] then 0 else 128):Nat):Int)::gi r
theorem FT (x:Nat):gi (cd x)=cM x:=by
 induction x using Nat.strongRecOn with
 | _ x ih=>
  by_cases hx:x<128
  ·rw [qh hx,rK hx];rfl
  ·rw [sj hx,ug hx,gi,ih (x / 128) (Nat.div_lt_self (by omega) (by decide))]
   rw [if_neg]
   rw [cd];split<;>simp
theorem zc {d:List Nat} {i a:Nat} (h:d[i]?=some a):(gi d).take (i+1)=(gi d).take i++[bz ((a+(if i+1<d.length then 128 else 0):Nat):Int)]:=by
 have key:∀ (d:List Nat) (i a:Nat),d[i]?=some a→(gi d)[i]?=some (bz ((a+(if i+1<d.length then 128 else 0):Nat):Int)):=by
  intro d
  induction d with
  | nil=>intro i a h;simp at h
  | cons x r ih=>
   intro i a h
   cases i with
   | zero=>
    simp at h;subst h
    rw [gi]
    cases r with
    | nil=>simp
    | cons y r=>simp
   | succ i=>
    rw [gi]
    have:=ih i a (by simpa using h)
    simpa using this
 rw [List.take_add_one,key d i a h];rfl
theorem zy (d:List Nat):(gi d).length=d.length:=by
 induction d with
 | nil=>rfl
 | cons x r ih=>rw [gi];simp [ih]
theorem ET:∀ {x:Nat} {i a:Nat},(cd x)[i]?=some a→a<128:=by
 intro x
 induction x using Nat.strongRecOn with
 | _ x ih=>
  intro i a h
  by_cases hx:x<128
  ·rw [qh hx] at h
   cases i with
   | zero=>simp at h;omega
   | succ i=>simp at h
  ·rw [sj hx] at h
   cases i with
   | zero=>simp at h;omega
   | succ i=>exact ih (x / 128) (Nat.div_lt_self (by omega) (by decide)) (by simpa using h)
theorem B5 (x:Nat):((x:Nat):Int).tmod 128=((x%128:Nat):Int):=(Int.ofNat_tmod x 128).symm
theorem LG {x y:Nat} (h:x / 128=y):IntKind.u64.wrap (((x:Nat):Int).tdiv 128)=((y:Nat):Int)↔y<18446744073709551616:=by
 have e:((x:Nat):Int).tdiv 128=((x / 128:Nat):Int):=(Int.ofNat_tdiv x 128).symm
 rw [e,h];simp [IntKind.wrap,IntKind.signed,IntKind.bits];omega
theorem Nb (l:List Nat) (x:Nat):cb l++[[.u x]]=cb (l++[x]):=by simp [cb]
set_option maxRecDepth 100000 in
theorem Hq (x:Nat) (hx:x<18446744073709551616):al Tryz.prog 89 [.u x,.d (.v (.int .u64 128))] (DV.em 40 1 (cb (cd x))):=by
 refine al.intro (by kernel_rfl) rfl rfl 23 rfl rfl fun w0 K ac hK r=>?_
 refine aU (todo':=hd Tryz.f89 0) (E':=[(0,.u x),(1,.d (.v (.int .u64 128))),(5,.sl 0 (1))]) (M':=[.rw 40 1 ([[.u (x%128)]])]) tk mo hK [(1,[(2,.z (((x%128:Nat):Int)))])] 2000 [0] [0,1,5] r (by kernel_rfl) (U ((B5 _):(((x:Nat):Int):Int).tmod 128=((x%128:Nat):Int)) (U ((by decide):(128:Int)≠0) trivial)) fun ac wd r=>?_
 refine aF.rounds (Φ:=fun (i:Nat) ac wd=>∃ o:List Nat,(o.length=i∧cd x=o++cd (x / 128 ^ i))∧cN [] w0 K 23 [(0,.u (x / 128 ^ i)),(1,.d (.v (.int .u64 128))),(5,.sl 0 ((i+1)))] [.rw 40 1 (cb (o++[x / 128 ^ i%128]))] ac wd) (9) ?_ (Nat.zero_le _) ⟨[],⟨rfl,by simp⟩,(r).cast (by simp) (by simp [cb])⟩
 clear r
 rintro i dw bH ac wd ⟨o,aq,r⟩
 obtain ⟨Oh,aq⟩:=aq
 cases h0:(decide ((128:Int)≤((x / 128 ^ i:Nat):Int))) with
 | false=>
  have a7:=of_decide_eq_false h0
  rw [show (DV.em 40 1 (cb (cd x)):DV)=.em 40 1 (cb (o++[x / 128 ^ i%128])) from (by rw [aq,qh (by omega),Nat.mod_eq_of_lt (by omega)])]
  exact aK tk mo hK rfl [(2,[(2,.b false)])] 2000 r (by kernel_rfl) (U h0 (U ((by first | rfl | (simp [cb];done) | (simp [cb];omega)):((i+1))=(cb (o++[x / 128 ^ i%128]):List (List DV)).length) trivial))
 | true=>
  have a7:=of_decide_eq_true h0
  exact aU (todo':=hd Tryz.f89 0) (E':=[(0,.u (x / 128 ^ (i+1))),(1,.d (.v (.int .u64 128))),(5,.sl 0 ((i+1)+(1)))]) (M':=[.rw 40 1 (cb (o++[x / 128 ^ i%128])++[[.u (x / 128 ^ (i+1)%128)]])]) tk mo hK [(2,[(2,.b true)]),(3,[(2,.z (((x / 128 ^ (i+1):Nat):Int)))]),(4,[(3,.z (((x / 128 ^ (i+1)%128:Nat):Int)))])] 2000 [0] [0,1,5] r (by kernel_rfl) (U h0 (U (((LG (r8 x i)).2 (by have:=Nat.div_le_self x (128 ^ (i+1));omega)):IntKind.u64.wrap ((((x / 128 ^ i:Nat):Int):Int).tdiv 128)=((x / 128 ^ (i+1):Nat):Int)) (U ((by decide):(128:Int)≠0) (U ((B5 _):(((x / 128 ^ (i+1):Nat):Int):Int).tmod 128=((x / 128 ^ (i+1)%128:Nat):Int)) (U ((by decide):(128:Int)≠0) (U ((by first | rfl | (simp [cb];done) | (simp [cb];omega)):((i+1))=(cb (o++[x / 128 ^ i%128]):List (List DV)).length) (U ((by first | rfl | (simp [cb];done) | (simp [cb];omega)):(1)=([[.u (x / 128 ^ (i+1)%128)]]:List (List DV)).length) (U ((by first | omega | (simp [cb];done) | (simp [cb];omega)):(2*(((i+1))+(1))+192)*8≤281474976710656) (U ((by first | omega | (simp [cb];done) | (simp [cb];omega)):((i+1))+(1)<4611686018427387904) (U ((by simp [aD,AV.one,bf]):aD ([[.u (x / 128 ^ (i+1)%128)]])) trivial)))))))))) fun ac wd r=>bH (by have:=By (i:=i) hx (by omega);omega) ac wd ⟨(o++[x / 128 ^ i%128]),⟨by simp;omega,by rw [aq,sj (by omega),r8,List.append_assoc];rfl⟩,r.cast rfl (by rw [Nb])⟩
set_option maxRecDepth 100000 in
theorem Hr (x:Nat) (hx:x<18446744073709551616):al Tryz.prog 61 [.u x] (DV.em 5 1 (ae (cM x))):=by
 refine al.intro (by kernel_rfl) rfl rfl 31 rfl rfl fun w0 K ac hK r=>?_
 refine aU (todo':=hd Tryz.f61 0) (E':=[(3,.sl 0 ((cb (cd x)).length)),(4,.d (.v (.slice none 0 0))),(5,.z 0)]) (M':=[.rw 40 1 (cb (cd x))]) tk mo hK [(1,[(1,.au (.em 40 1 (cb (cd x))))])] 2000 [0] [3,4,5] r (by kernel_rfl) (U (Hq x hx) trivial) fun ac wd r=>?_
 refine aF.rounds (Φ:=fun (i:Nat) ac wd=>(i≤(cd x).length)∧cN [] w0 K 31 [(3,.sl 0 ((cb (cd x)).length)),(4,.sl 1 (i)),(5,.n i)] [.rw 40 1 (cb (cd x)),.rw 5 1 (ae ((gi (cd x)).take i))] ac wd) ((cd x).length) ?_ (Nat.zero_le _) ⟨Nat.zero_le _,r.fG (M1:=[.rw 40 1 (cb (cd x)),.rw 5 1 []]) [(4,5,1)] [] (by kernel_rfl) (by kernel_rfl)⟩
 clear r
 rintro i dw bH ac wd ⟨aq,r⟩
 have tC:=FR hx
 have Py:=zy (cd x)
 have aM:=((by simp [cb]):(((cb (cd x)).length:Nat):Int)=(((cd x).length:Nat):Int))
 cases h0:(decide ((((i:Nat):Int):Int)<(((cd x).length:Nat):Int))) with
 | false=>
  have a7:=of_decide_eq_false h0
  rw [show (DV.em 5 1 (ae (cM x)):DV)=.em 5 1 (ae ((gi (cd x)).take i)) from (by rw [List.take_of_length_le (by rw [zy];omega),FT])]
  exact aK tk mo hK rfl [(4,[(2,.z ((((cd x).length:Nat):Int))),(3,.b false)])] 2000 r (by kernel_rfl) (U aM (U h0 (U ((by first | rfl | (simp [ae,cb];done) | (simp [ae,cb];omega)):(i)=(ae ((gi (cd x)).take i)).length) trivial)))
 | true=>
  have a7:=of_decide_eq_true h0
  obtain ⟨fv,pU⟩:∃ x_,(cd x)[i]?=some x_:=⟨_,List.getElem?_eq_getElem (by omega)⟩
  have Pz:=ET pU
  have br:=((by first | exact (wi (by omega)) | exact (wu (by omega))):IntKind.i64.wrap ((((i:Nat):Int):Int)+1)=((i+1:Nat):Int))
  cases h1:(decide ((((i+1:Nat):Int):Int)<(((cd x).length:Nat):Int))) with
  | false=>
   have bP:=of_decide_eq_false h1
   exact aU (todo':=hd Tryz.f61 0) (E':=[(3,.sl 0 ((cb (cd x)).length)),(4,.sl 1 (i+(1))),(5,.n (i+1))]) (M':=[.rw 40 1 (cb (cd x)),.rw 5 1 (ae ((gi (cd x)).take i)++[[.v (.int .u8 ((((bz (((fv+0:Nat):Int))).toNat:Nat):Int)))]])]) tk mo hK [(4,[(2,.z ((((cd x).length:Nat):Int))),(3,.b true)]),(5,[(1,.z (((i+1:Nat):Int)))]),(7,[(1,.z (((i+1:Nat):Int))),(3,.z ((((cd x).length:Nat):Int))),(4,.b false)]),(9,[(3,.n (i)),(4,.ix 0 [.u fv]),(6,.z (((fv+0:Nat):Int))),(7,.z ((((bz (((fv+0:Nat):Int))).toNat:Nat):Int)))])] 2000 [0,1] [3,4,5] r (by kernel_rfl) (U aM (U h0 (U br (U aM (U h1 (U (aC ((i:Nat):Int)) (U ((by first | omega | decide | (simp;done) | (simp;omega)):(i)<((cb (cd x)).length)) (U ((by first | rfl | (simp [ae,cb];done) | (simp [ae,cb];omega)):((cb (cd x)).length)≤(cb (cd x)).length) (U (A6 pU) (U ((by first | exact (wi (by omega)) | exact (wu (by omega))):IntKind.u64.wrap ((((fv:Nat):Int):Int)+0)=((fv+0:Nat):Int)) (U ((bQ _):IntKind.u8.wrap (((fv+0:Nat):Int))=(((bz (((fv+0:Nat):Int))).toNat:Nat):Int)) (U ((by first | rfl | (simp [ae,cb];done) | (simp [ae,cb];omega)):(i)=(ae ((gi (cd x)).take i)).length) (U ((by first | rfl | (simp [ae,cb];done) | (simp [ae,cb];omega)):(1)=([[.v (.int .u8 ((((bz (((fv+0:Nat):Int))).toNat:Nat):Int)))]]:List (List DV)).length) (U ((by first | omega | (simp [ae];done) | (simp [ae];omega)):(2*((i)+(1))+192)*1≤281474976710656) (U ((by first | omega | (simp [ae];done) | (simp [ae];omega)):(i)+(1)<4611686018427387904) (U ((by simp [aD,AV.one,bf,ae,ah,ints,steps,strs]):aD ([[.v (.int .u8 ((((bz (((fv+0:Nat):Int))).toNat:Nat):Int)))]])) (U br trivial))))))))))))))))) fun ac wd r=>bH (by omega) ac wd ⟨(by omega),r.cast rfl (by rw [zc pU];first | (rw [if_pos (show i+1<(cd x).length from by omega)];simp [ae];done) | (rw [if_neg (show ¬ i+1<(cd x).length from by omega)];simp [ae];done))⟩
  | true=>
   have bP:=of_decide_eq_true h1
   exact aU (todo':=hd Tryz.f61 0) (E':=[(3,.sl 0 ((cb (cd x)).length)),(4,.sl 1 (i+(1))),(5,.n (i+1))]) (M':=[.rw 40 1 (cb (cd x)),.rw 5 1 (ae ((gi (cd x)).take i)++[[.v (.int .u8 ((((bz (((fv+128:Nat):Int))).toNat:Nat):Int)))]])]) tk mo hK [(4,[(2,.z ((((cd x).length:Nat):Int))),(3,.b true)]),(5,[(1,.z (((i+1:Nat):Int)))]),(7,[(1,.z (((i+1:Nat):Int))),(3,.z ((((cd x).length:Nat):Int))),(4,.b true)]),(9,[(3,.n (i)),(4,.ix 0 [.u fv]),(6,.z (((fv+128:Nat):Int))),(7,.z ((((bz (((fv+128:Nat):Int))).toNat:Nat):Int)))])] 2000 [0,1] [3,4,5] r (by kernel_rfl) (U aM (U h0 (U br (U aM (U h1 (U (aC ((i:Nat):Int)) (U ((by first | omega | decide | (simp;done) | (simp;omega)):(i)<((cb (cd x)).length)) (U ((by first | rfl | (simp [ae,cb];done) | (simp [ae,cb];omega)):((cb (cd x)).length)≤(cb (cd x)).length) (U (A6 pU) (U ((by first | exact (wi (by omega)) | exact (wu (by omega))):IntKind.u64.wrap ((((fv:Nat):Int):Int)+128)=((fv+128:Nat):Int)) (U ((bQ _):IntKind.u8.wrap (((fv+128:Nat):Int))=(((bz (((fv+128:Nat):Int))).toNat:Nat):Int)) (U ((by first | rfl | (simp [ae,cb];done) | (simp [ae,cb];omega)):(i)=(ae ((gi (cd x)).take i)).length) (U ((by first | rfl | (simp [ae,cb];done) | (simp [ae,cb];omega)):(1)=([[.v (.int .u8 ((((bz (((fv+128:Nat):Int))).toNat:Nat):Int)))]]:List (List DV)).length) (U ((by first | omega | (simp [ae];done) | (simp [ae];omega)):(2*((i)+(1))+192)*1≤281474976710656) (U ((by first | omega | (simp [ae];done) | (simp [ae];omega)):(i)+(1)<4611686018427387904) (U ((by simp [aD,AV.one,bf,ae,ah,ints,steps,strs]):aD ([[.v (.int .u8 ((((bz (((fv+128:Nat):Int))).toNat:Nat):Int)))]])) (U br trivial))))))))))))))))) fun ac wd r=>bH (by omega) ac wd ⟨(by omega),r.cast rfl (by rw [zc pU];first | (rw [if_pos (show i+1<(cd x).length from by omega)];simp [ae];done) | (rw [if_neg (show ¬ i+1<(cd x).length from by omega)];simp [ae];done))⟩
set_option maxRecDepth 100000 in
theorem J1 (c:bN) (hc:c.ah.length≤1048576) (hh:c.homes.length≤1048576):al Tryz.prog 29 [.ag [.z c.az,.d (.ro 2 (ah c.ah)),.d (.ro 1 (ints c.homes))]] (DV.em 5 1 (ae (bV c))):=by
 refine al.intro (by kernel_rfl) rfl rfl 62 rfl rfl fun w0 K ac hK r=>?_
 refine aU (todo':=hd Tryz.f29 0) (E':=[(1,.pt 0 0),(3,.sl 1 (2)),(4,.z 0)]) (M':=[.bx 25 [.z c.az,.d (.ro 2 (ah c.ah)),.d (.ro 1 (ints c.homes))],.rw 5 1 ([[.v (.int .u8 ((((bz (c.az)).toNat:Nat):Int)))],[.v (.int .u8 ((((bz (((c.ah.length:Nat):Int))).toNat:Nat):Int)))]])]) tk mo hK [(1,[(2,.z ((((bz (c.az)).toNat:Nat):Int))),(5,.z (((c.ah.length:Nat):Int))),(6,.z ((((bz (((c.ah.length:Nat):Int))).toNat:Nat):Int)))])] 2000 [0,1] [1,3,4] r (by kernel_rfl) (U ((bQ _):IntKind.u8.wrap (c.az)=(((bz (c.az)).toNat:Nat):Int)) (U ((by first | rfl | simp [ae,ah,ints,steps,strs]):(((ah c.ah).length:Nat):Int)=((c.ah.length:Nat):Int)) (U ((bQ _):IntKind.u8.wrap (((c.ah.length:Nat):Int))=(((bz (((c.ah.length:Nat):Int))).toNat:Nat):Int)) trivial))) fun ac wd r=>?_
 refine aF.rounds (Φ:=fun (i:Nat) ac wd=>(i≤c.ah.length)∧cN [] w0 K 62 [(1,.pt 0 0),(3,.sl 1 ((2+2*i))),(4,.n i)] [.bx 25 [.z c.az,.d (.ro 2 (ah c.ah)),.d (.ro 1 (ints c.homes))],.rw 5 1 (ae ([bz c.az]++[bz ((c.ah.length:Nat):Int)]++di (c.ah.take i)))] ac wd) (c.ah.length) ?_ (Nat.zero_le _) ⟨Nat.zero_le _,(r).cast rfl (by simp [di,ae])⟩
 clear r
 rintro i dw bH ac wd ⟨aq,r⟩
 have aM:=((by first | rfl | simp [ae,ah,ints,steps,strs]):(((ah c.ah).length:Nat):Int)=((c.ah.length:Nat):Int))
 cases h0:(decide ((((i:Nat):Int):Int)<((c.ah.length:Nat):Int))) with
 | false=>
  have a7:=of_decide_eq_false h0
  refine aU (todo':=hd Tryz.f29 1) (E':=[(1,.pt 0 0),(3,.sl 1 ((2+2*i)+(1))),(5,.z 0)]) (M':=[.bx 25 [.z c.az,.d (.ro 2 (ah c.ah)),.d (.ro 1 (ints c.homes))],.rw 5 1 (ae ([bz c.az]++[bz ((c.ah.length:Nat):Int)]++di (c.ah.take i))++[[.v (.int .u8 ((((bz (((c.homes.length:Nat):Int))).toNat:Nat):Int)))]])]) tk mo hK [(3,[(3,.z (((c.ah.length:Nat):Int))),(4,.b false)]),(6,[(3,.z (((c.homes.length:Nat):Int))),(4,.z ((((bz (((c.homes.length:Nat):Int))).toNat:Nat):Int)))])] 2000 [0,1] [1,3,5] r (by kernel_rfl) (U aM (U h0 (U ((by first | rfl | simp [ae,ah,ints,steps,strs]):(((ints c.homes).length:Nat):Int)=((c.homes.length:Nat):Int)) (U ((bQ _):IntKind.u8.wrap (((c.homes.length:Nat):Int))=(((bz (((c.homes.length:Nat):Int))).toNat:Nat):Int)) (U ((by first | rfl | (simp [ae,cK];done) | (simp [ae,cK];omega)):((2+2*i))=(ae ([bz c.az]++[bz ((c.ah.length:Nat):Int)]++di (c.ah.take i)):List (List DV)).length) (U ((by first | rfl | (simp [ae,cK];done) | (simp [ae,cK];omega)):(1)=([[.v (.int .u8 ((((bz (((c.homes.length:Nat):Int))).toNat:Nat):Int)))]]:List (List DV)).length) (U ((by first | omega | (simp [ae,cK];done) | (simp [ae,cK];omega)):(2*(((2+2*i))+(1))+192)*1≤281474976710656) (U ((by first | omega | (simp [ae,cK];done) | (simp [ae,cK];omega)):((2+2*i))+(1)<4611686018427387904) (U ((by simp [aD,AV.one,bf,ae,ah,ints,steps,strs]):aD ([[.v (.int .u8 ((((bz (((c.homes.length:Nat):Int))).toNat:Nat):Int)))]])) trivial))))))))) fun ac wd r=>?_
  refine aF.rounds (Φ:=fun (i:Nat) ac wd=>(i≤c.homes.length)∧cN [] w0 K 62 [(1,.pt 0 0),(3,.sl 1 ((3+2*c.ah.length+i))),(5,.n i)] [.bx 25 [.z c.az,.d (.ro 2 (ah c.ah)),.d (.ro 1 (ints c.homes))],.rw 5 1 (ae ([bz c.az]++[bz ((c.ah.length:Nat):Int)]++di c.ah++[bz ((c.homes.length:Nat):Int)]++(c.homes.take i).map bz))] ac wd) (c.homes.length) ?_ (Nat.zero_le _) ⟨Nat.zero_le _,(r).cast (by rw [show 2+2*i+1=3+2*c.ah.length+0 from by omega];rfl) (by rw [List.take_of_length_le (by omega)];simp [ae])⟩
  clear r
  rintro i n8 fU ac wd ⟨ea,r⟩
  have br:=((by first | rfl | simp [ae,ah,ints,steps,strs]):(((ints c.homes).length:Nat):Int)=((c.homes.length:Nat):Int))
  cases h1:(decide ((((i:Nat):Int):Int)<((c.homes.length:Nat):Int))) with
  | false=>
   have bP:=of_decide_eq_false h1
   rw [show (DV.em 5 1 (ae (bV c)):DV)=.em 5 1 (ae ([bz c.az]++[bz ((c.ah.length:Nat):Int)]++di c.ah++[bz ((c.homes.length:Nat):Int)]++(c.homes.take i).map bz)) from (by rw [List.take_of_length_le (by omega)];simp [bV])]
   exact aK tk mo hK rfl [(8,[(3,.z (((c.homes.length:Nat):Int))),(4,.b false)])] 2000 r (by kernel_rfl) (U br (U h1 (U ((by first | rfl | (simp [ae,cK];done) | (simp [ae,cK];omega)):((3+2*c.ah.length+i))=(ae ([bz c.az]++[bz ((c.ah.length:Nat):Int)]++di c.ah++[bz ((c.homes.length:Nat):Int)]++(c.homes.take i).map bz):List (List DV)).length) trivial)))
  | true=>
   have bP:=of_decide_eq_true h1
   obtain ⟨cW,cr⟩:∃ x_,c.homes[i]?=some x_:=⟨_,List.getElem?_eq_getElem (by omega)⟩
   exact aU (todo':=hd Tryz.f29 1) (E':=[(1,.pt 0 0),(3,.sl 1 ((3+2*c.ah.length+i)+(1))),(5,.n (i+1))]) (M':=[.bx 25 [.z c.az,.d (.ro 2 (ah c.ah)),.d (.ro 1 (ints c.homes))],.rw 5 1 (ae ([bz c.az]++[bz ((c.ah.length:Nat):Int)]++di c.ah++[bz ((c.homes.length:Nat):Int)]++(c.homes.take i).map bz)++[[.v (.int .u8 ((((bz (cW)).toNat:Nat):Int)))]])]) tk mo hK [(8,[(3,.z (((c.homes.length:Nat):Int))),(4,.b true)]),(9,[(1,.z (((i+1:Nat):Int)))]),(10,[(4,.ix (i) [.z cW]),(6,.z ((((bz (cW)).toNat:Nat):Int)))])] 2000 [0,1] [1,3,5] r (by kernel_rfl) (U br (U h1 (U (aC ((i:Nat):Int)) (U (ints_at cr) (U ((bQ _):IntKind.u8.wrap (cW)=(((bz (cW)).toNat:Nat):Int)) (U ((by first | rfl | (simp [ae,cK];done) | (simp [ae,cK];omega)):((3+2*c.ah.length+i))=(ae ([bz c.az]++[bz ((c.ah.length:Nat):Int)]++di c.ah++[bz ((c.homes.length:Nat):Int)]++(c.homes.take i).map bz):List (List DV)).length) (U ((by first | rfl | (simp [ae,cK];done) | (simp [ae,cK];omega)):(1)=([[.v (.int .u8 ((((bz (cW)).toNat:Nat):Int)))]]:List (List DV)).length) (U ((by first | omega | (simp [ae,cK];done) | (simp [ae,cK];omega)):(2*(((3+2*c.ah.length+i))+(1))+192)*1≤281474976710656) (U ((by first | omega | (simp [ae,cK];done) | (simp [ae,cK];omega)):((3+2*c.ah.length+i))+(1)<4611686018427387904) (U ((by simp [aD,AV.one,bf,ae,ah,ints,steps,strs]):aD ([[.v (.int .u8 ((((bz (cW)).toNat:Nat):Int)))]])) (U ((wi (by omega)):IntKind.i64.wrap ((((i:Nat):Int):Int)+1)=((i+1:Nat):Int)) trivial))))))))))) fun ac wd r=>fU (by omega) ac wd ⟨(by omega),r.cast rfl (by rw [zw cr];simp [ae])⟩
 | true=>
  have a7:=of_decide_eq_true h0
  obtain ⟨aA,a8⟩:∃ x_,c.ah[i]?=some x_:=⟨_,List.getElem?_eq_getElem (by omega)⟩
  exact aU (todo':=hd Tryz.f29 0) (E':=[(1,.pt 0 0),(3,.sl 1 ((2+2*i)+(2))),(4,.n (i+1))]) (M':=[.bx 25 [.z c.az,.d (.ro 2 (ah c.ah)),.d (.ro 1 (ints c.homes))],.rw 5 1 (ae ([bz c.az]++[bz ((c.ah.length:Nat):Int)]++di (c.ah.take i))++[[.v (.int .u8 ((((bz (aA.1)).toNat:Nat):Int)))],[.v (.int .u8 ((((bz (aA.2)).toNat:Nat):Int)))]])]) tk mo hK [(3,[(3,.z (((c.ah.length:Nat):Int))),(4,.b true)]),(4,[(1,.z (((i+1:Nat):Int)))]),(5,[(4,.ix (i) [.z aA.1,.z aA.2]),(5,.n 0),(7,.z ((((bz (aA.1)).toNat:Nat):Int))),(11,.ix (i) [.z aA.1,.z aA.2]),(12,.n 1),(14,.z ((((bz (aA.2)).toNat:Nat):Int)))])] 2000 [0,1] [1,3,4] r (by kernel_rfl) (U aM (U h0 (U (aC ((i:Nat):Int)) (U (cP a8) (U (rfl:(0)=((0:Nat):Int)) (U ((by omega):(0)<2) (U ((bQ _):IntKind.u8.wrap (aA.1)=(((bz (aA.1)).toNat:Nat):Int)) (U (aC ((i:Nat):Int)) (U (cP a8) (U (rfl:(1)=((1:Nat):Int)) (U ((by omega):(1)<2) (U ((bQ _):IntKind.u8.wrap (aA.2)=(((bz (aA.2)).toNat:Nat):Int)) (U ((by first | rfl | (simp [ae,cK];done) | (simp [ae,cK];omega)):((2+2*i))=(ae ([bz c.az]++[bz ((c.ah.length:Nat):Int)]++di (c.ah.take i)):List (List DV)).length) (U ((by first | rfl | (simp [ae,cK];done) | (simp [ae,cK];omega)):(2)=([[.v (.int .u8 ((((bz (aA.1)).toNat:Nat):Int)))],[.v (.int .u8 ((((bz (aA.2)).toNat:Nat):Int)))]]:List (List DV)).length) (U ((by first | omega | (simp [ae,cK];done) | (simp [ae,cK];omega)):(2*(((2+2*i))+(2))+192)*1≤281474976710656) (U ((by first | omega | (simp [ae,cK];done) | (simp [ae,cK];omega)):((2+2*i))+(2)<4611686018427387904) (U ((by simp [aD,AV.one,bf,ae,ah,ints,steps,strs]):aD ([[.v (.int .u8 ((((bz (aA.1)).toNat:Nat):Int)))],[.v (.int .u8 ((((bz (aA.2)).toNat:Nat):Int)))]])) (U ((wi (by omega)):IntKind.i64.wrap ((((i:Nat):Int):Int)+1)=((i+1:Nat):Int)) trivial)))))))))))))))))) fun ac wd r=>bH (by omega) ac wd ⟨(by omega),r.cast rfl (by rw [zT a8];simp [ae])⟩
theorem IN {z:Int} (h:0≤z):z.tmod 256=z%256:=by rw [Int.tmod_eq_emod_of_nonneg h]
theorem On (z:Int):IntKind.u8.wrap (z%256)=(((bz z).toNat:Nat):Int):=by
 rw [← bQ];simp [IntKind.wrap,IntKind.signed,IntKind.bits]
theorem IP {z:Int} (h:0≤z) (h2:z≤65535):IntKind.i64.wrap (z.tdiv 256)=z / 256:=by
 rw [Int.tdiv_eq_ediv_of_nonneg h];simp [IntKind.wrap,IntKind.signed,IntKind.bits];omega
set_option maxRecDepth 100000 in
theorem J2 (node peer n bit:Int) (inc:Nat) (body:List UInt8) (hb:body.length≤255) (hi:inc<18446744073709551616) (h0:0≤bit) (h1:bit≤65535):al Tryz.prog 31 [.ag [.z 0,.z node,.z peer,.z n,.z bit,.u inc,.d (.ro 1 (ae body))]] (DV.em 5 1 (ae (bd ⟨0,node,peer,n,bit,inc,body⟩))):=by
 refine al.intro (by kernel_rfl) rfl rfl 80 rfl rfl fun w0 K ac hK r=>?_
 refine aU (todo':=hd Tryz.f31 0) (E':=[(0,.ag [.z 0,.z node,.z peer,.z n,.z bit,.u inc,.d (.ro 1 (ae body))]),(1,.pt 0 0),(2,.d (.v (.slice none 0 0))),(6,.pt 0 0),(7,.z 0),(8,.d (.v (.int .u8 ((((bz 0).toNat:Nat):Int))))),(9,.sl 1 (1)),(3,.sl 1 (1)),(10,.pt 0 0),(11,.z 0),(12,.d (.v (.string ⟨([]).toArray⟩))),(4,.d (.v (.string ⟨([]).toArray⟩))),(5,.z 0)]) (M':=[.bx 42 [.z 0,.z node,.z peer,.z n,.z bit,.u inc,.d (.ro 1 (ae body))],.rw 5 1 ([[.v (.int .u8 ((((bz 0).toNat:Nat):Int)))]])]) tk mo hK [(1,[(2,.z ((((bz 0).toNat:Nat):Int)))]),(2,[(2,.au (.v (.string ⟨([]).toArray⟩)))])] 2000 [0,1] [0,1,2,6,7,8,9,3,10,11,12,4,5] r (by kernel_rfl) (U ((bQ _):IntKind.u8.wrap (0)=(((bz 0).toNat:Nat):Int)) (U ((df 0):al Tryz.prog 59 [.z 0] (.v (.string ⟨([]).toArray⟩))) trivial)) fun ac wd r=>?_
 rw [show (DV.em 5 1 (ae (bd ⟨0,node,peer,n,bit,inc,body⟩)):DV)=.em 5 1 ([[.v (.int .u8 ((((bz 0).toNat:Nat):Int)))]]) from (by simp [bd,fI,af,eV,ae])]
 exact aK tk mo hK rfl [(4,[(2,.z (0))])] 2000 r (by kernel_rfl) (U ((by first | rfl | simp [ae]):((([]:List UInt8).length:Nat):Int)=0) (U ((by first | rfl | (simp [ae,aH];done) | (simp [ae];omega)):(1)=([[.v (.int .u8 ((((bz 0).toNat:Nat):Int)))]]:List (List DV)).length) trivial))
set_option maxRecDepth 100000 in
theorem J3 (node peer n bit:Int) (inc:Nat) (body:List UInt8) (hb:body.length≤255) (hi:inc<18446744073709551616) (h0:0≤bit) (h1:bit≤65535):al Tryz.prog 31 [.ag [.z 1,.z node,.z peer,.z n,.z bit,.u inc,.d (.ro 1 (ae body))]] (DV.em 5 1 (ae (bd ⟨1,node,peer,n,bit,inc,body⟩))):=by
 refine al.intro (by kernel_rfl) rfl rfl 80 rfl rfl fun w0 K ac hK r=>?_
 refine aU (todo':=hd Tryz.f31 0) (E':=[(0,.ag [.z 1,.z node,.z peer,.z n,.z bit,.u inc,.d (.ro 1 (ae body))]),(1,.pt 0 0),(2,.d (.v (.slice none 0 0))),(6,.pt 0 0),(7,.z 1),(8,.d (.v (.int .u8 ((((bz 1).toNat:Nat):Int))))),(9,.sl 1 (1)),(3,.sl 1 (1)),(10,.pt 0 0),(11,.z 1),(12,.d (.v (.string ⟨([110]).toArray⟩))),(4,.d (.v (.string ⟨([110]).toArray⟩))),(5,.z 0)]) (M':=[.bx 42 [.z 1,.z node,.z peer,.z n,.z bit,.u inc,.d (.ro 1 (ae body))],.rw 5 1 ([[.v (.int .u8 ((((bz 1).toNat:Nat):Int)))]])]) tk mo hK [(1,[(2,.z ((((bz 1).toNat:Nat):Int)))]),(2,[(2,.au (.v (.string ⟨([110]).toArray⟩)))])] 2000 [0,1] [0,1,2,6,7,8,9,3,10,11,12,4,5] r (by kernel_rfl) (U ((bQ _):IntKind.u8.wrap (1)=(((bz 1).toNat:Nat):Int)) (U ((df 1):al Tryz.prog 59 [.z 1] (.v (.string ⟨([110]).toArray⟩))) trivial)) fun ac wd r=>?_
 refine aU (todo':=hd Tryz.f31 0) (E':=[(0,.ag [.z 1,.z node,.z peer,.z n,.z bit,.u inc,.d (.ro 1 (ae body))]),(1,.pt 0 0),(2,.d (.v (.slice none 0 0))),(6,.pt 0 0),(7,.z 1),(8,.d (.v (.int .u8 ((((bz 1).toNat:Nat):Int))))),(3,.sl 1 (1+(1))),(10,.pt 0 0),(11,.z 1),(12,.d (.v (.string ⟨([110]).toArray⟩))),(4,.d (.v (.string ⟨([110]).toArray⟩))),(5,.z 1),(13,.z 0),(14,.d (.v (.string ⟨([110]).toArray⟩))),(15,.z 1),(16,.d (.v (.bool true))),(19,.d (.v (.string ⟨([110]).toArray⟩))),(20,.z 0),(21,.d (.v (.int .u8 110))),(23,.d (.v (.bool true))),(22,.d (.v (.bool true))),(25,.pt 0 1),(26,.z node),(27,.d (.v (.int .u8 ((((bz (node)).toNat:Nat):Int))))),(28,.sl 2 (1)),(29,.sl 1 (1+(1))),(17,.z 0),(18,.z 1)]) (M':=[.bx 42 [.z 1,.z node,.z peer,.z n,.z bit,.u inc,.d (.ro 1 (ae body))],.rw 5 1 ([[.v (.int .u8 ((((bz 1).toNat:Nat):Int)))]]++[[.v (.int .u8 ((((bz (node)).toNat:Nat):Int)))]]),.dead]) tk mo hK [(4,[(2,.z (1))]),(5,[(1,.z (1))]),(6,[(2,.n 0)]),(8,[(3,.z ((((bz (node)).toNat:Nat):Int)))])] 2000 [0,1,2] [0,1,2,6,7,8,3,10,11,12,4,5,13,14,15,16,19,20,21,23,22,25,26,27,28,29,17,18] r (by kernel_rfl) (U ((by first | rfl | simp [ae]):((([110]:List UInt8).length:Nat):Int)=1) (U (rfl:(0:Int)=((0:Nat):Int)) (U ((bQ _):IntKind.u8.wrap (node)=(((bz (node)).toNat:Nat):Int)) (U ((by first | rfl | (simp [ae,aH];done) | (simp [ae];omega)):(1)=([[.v (.int .u8 ((((bz 1).toNat:Nat):Int)))]]:List (List DV)).length) (U ((by first | rfl | (simp [ae,aH];done) | (simp [ae];omega)):(1)=([[.v (.int .u8 ((((bz (node)).toNat:Nat):Int)))]]:List (List DV)).length) (U ((by have:=aH hi;first | omega | (simp [ae];done) | (simp [ae];omega)):(2*((1)+(1))+192)*1≤281474976710656) (U ((by have:=aH hi;first | omega | (simp [ae];done) | (simp [ae];omega)):(1)+(1)<4611686018427387904) (U ((by simp [aD,AV.one,bf,ae,ah,ints,steps,strs]):aD ([[.v (.int .u8 ((((bz (node)).toNat:Nat):Int)))]])) (U ((wi (by omega)):IntKind.i64.wrap ((0:Int)+1)=1) trivial))))))))) fun ac wd r=>?_
 rw [show (DV.em 5 1 (ae (bd ⟨1,node,peer,n,bit,inc,body⟩)):DV)=.em 5 1 ([[.v (.int .u8 ((((bz 1).toNat:Nat):Int)))]]++[[.v (.int .u8 ((((bz (node)).toNat:Nat):Int)))]]) from (by simp [bd,fI,af,eV,ae])]
 exact aK tk mo hK rfl [(4,[(2,.z (1))])] 2000 r (by kernel_rfl) (U ((by first | rfl | simp [ae]):((([110]:List UInt8).length:Nat):Int)=1) (U ((by first | rfl | (simp [ae,aH];done) | (simp [ae];omega)):(1+(1))=([[.v (.int .u8 ((((bz 1).toNat:Nat):Int)))]]++[[.v (.int .u8 ((((bz (node)).toNat:Nat):Int)))]]:List (List DV)).length) trivial))
set_option maxRecDepth 100000 in
theorem Ka (node peer n bit:Int) (inc:Nat) (body:List UInt8) (hb:body.length≤255) (hi:inc<18446744073709551616) (h0:0≤bit) (h1:bit≤65535):al Tryz.prog 31 [.ag [.z 2,.z node,.z peer,.z n,.z bit,.u inc,.d (.ro 1 (ae body))]] (DV.em 5 1 (ae (bd ⟨2,node,peer,n,bit,inc,body⟩))):=by
 refine al.intro (by kernel_rfl) rfl rfl 80 rfl rfl fun w0 K ac hK r=>?_
 refine aU (todo':=hd Tryz.f31 0) (E':=[(0,.ag [.z 2,.z node,.z peer,.z n,.z bit,.u inc,.d (.ro 1 (ae body))]),(1,.pt 0 0),(2,.d (.v (.slice none 0 0))),(6,.pt 0 0),(7,.z 2),(8,.d (.v (.int .u8 ((((bz 2).toNat:Nat):Int))))),(9,.sl 1 (1)),(3,.sl 1 (1)),(10,.pt 0 0),(11,.z 2),(12,.d (.v (.string ⟨([110,112,105]).toArray⟩))),(4,.d (.v (.string ⟨([110,112,105]).toArray⟩))),(5,.z 0)]) (M':=[.bx 42 [.z 2,.z node,.z peer,.z n,.z bit,.u inc,.d (.ro 1 (ae body))],.rw 5 1 ([[.v (.int .u8 ((((bz 2).toNat:Nat):Int)))]])]) tk mo hK [(1,[(2,.z ((((bz 2).toNat:Nat):Int)))]),(2,[(2,.au (.v (.string ⟨([110,112,105]).toArray⟩)))])] 2000 [0,1] [0,1,2,6,7,8,9,3,10,11,12,4,5] r (by kernel_rfl) (U ((bQ _):IntKind.u8.wrap (2)=(((bz 2).toNat:Nat):Int)) (U ((df 2):al Tryz.prog 59 [.z 2] (.v (.string ⟨([110,112,105]).toArray⟩))) trivial)) fun ac wd r=>?_
 refine aU (todo':=hd Tryz.f31 0) (E':=[(0,.ag [.z 2,.z node,.z peer,.z n,.z bit,.u inc,.d (.ro 1 (ae body))]),(1,.pt 0 0),(2,.d (.v (.slice none 0 0))),(6,.pt 0 0),(7,.z 2),(8,.d (.v (.int .u8 ((((bz 2).toNat:Nat):Int))))),(3,.sl 1 (1+(1))),(10,.pt 0 0),(11,.z 2),(12,.d (.v (.string ⟨([110,112,105]).toArray⟩))),(4,.d (.v (.string ⟨([110,112,105]).toArray⟩))),(5,.z 1),(13,.z 0),(14,.d (.v (.string ⟨([110,112,105]).toArray⟩))),(15,.z 3),(16,.d (.v (.bool true))),(19,.d (.v (.string ⟨([110,112,105]).toArray⟩))),(20,.z 0),(21,.d (.v (.int .u8 110))),(23,.d (.v (.bool true))),(22,.d (.v (.bool true))),(25,.pt 0 1),(26,.z node),(27,.d (.v (.int .u8 ((((bz (node)).toNat:Nat):Int))))),(28,.sl 2 (1)),(29,.sl 1 (1+(1))),(17,.z 0),(18,.z 1)]) (M':=[.bx 42 [.z 2,.z node,.z peer,.z n,.z bit,.u inc,.d (.ro 1 (ae body))],.rw 5 1 ([[.v (.int .u8 ((((bz 2).toNat:Nat):Int)))]]++[[.v (.int .u8 ((((bz (node)).toNat:Nat):Int)))]]),.dead]) tk mo hK [(4,[(2,.z (3))]),(5,[(1,.z (1))]),(6,[(2,.n 0)]),(8,[(3,.z ((((bz (node)).toNat:Nat):Int)))])] 2000 [0,1,2] [0,1,2,6,7,8,3,10,11,12,4,5,13,14,15,16,19,20,21,23,22,25,26,27,28,29,17,18] r (by kernel_rfl) (U ((by first | rfl | simp [ae]):((([110,112,105]:List UInt8).length:Nat):Int)=3) (U (rfl:(0:Int)=((0:Nat):Int)) (U ((bQ _):IntKind.u8.wrap (node)=(((bz (node)).toNat:Nat):Int)) (U ((by first | rfl | (simp [ae,aH];done) | (simp [ae];omega)):(1)=([[.v (.int .u8 ((((bz 2).toNat:Nat):Int)))]]:List (List DV)).length) (U ((by first | rfl | (simp [ae,aH];done) | (simp [ae];omega)):(1)=([[.v (.int .u8 ((((bz (node)).toNat:Nat):Int)))]]:List (List DV)).length) (U ((by have:=aH hi;first | omega | (simp [ae];done) | (simp [ae];omega)):(2*((1)+(1))+192)*1≤281474976710656) (U ((by have:=aH hi;first | omega | (simp [ae];done) | (simp [ae];omega)):(1)+(1)<4611686018427387904) (U ((by simp [aD,AV.one,bf,ae,ah,ints,steps,strs]):aD ([[.v (.int .u8 ((((bz (node)).toNat:Nat):Int)))]])) (U ((wi (by omega)):IntKind.i64.wrap ((0:Int)+1)=1) trivial))))))))) fun ac wd r=>?_
 refine aU (todo':=hd Tryz.f31 0) (E':=[(0,.ag [.z 2,.z node,.z peer,.z n,.z bit,.u inc,.d (.ro 1 (ae body))]),(1,.pt 0 0),(2,.d (.v (.slice none 0 0))),(6,.pt 0 0),(7,.z 2),(8,.d (.v (.int .u8 ((((bz 2).toNat:Nat):Int))))),(3,.sl 1 (1+(1)+(1))),(10,.pt 0 0),(11,.z 2),(12,.d (.v (.string ⟨([110,112,105]).toArray⟩))),(4,.d (.v (.string ⟨([110,112,105]).toArray⟩))),(5,.z 2),(13,.z 1),(14,.d (.v (.string ⟨([110,112,105]).toArray⟩))),(15,.z 3),(16,.d (.v (.bool true))),(19,.d (.v (.string ⟨([110,112,105]).toArray⟩))),(20,.z 1),(21,.d (.v (.int .u8 112))),(23,.d (.v (.bool false))),(22,.d (.v (.bool false))),(25,.pt 0 1),(26,.z node),(27,.d (.v (.int .u8 ((((bz (node)).toNat:Nat):Int))))),(28,.sl 2 (1)),(17,.z 1),(18,.z 2),(31,.d (.v (.bool true))),(30,.d (.v (.bool true))),(33,.pt 0 2),(34,.z peer),(35,.d (.v (.int .u8 ((((bz (peer)).toNat:Nat):Int))))),(36,.sl 3 (1)),(37,.sl 1 (1+(1)+(1)))]) (M':=[.bx 42 [.z 2,.z node,.z peer,.z n,.z bit,.u inc,.d (.ro 1 (ae body))],.rw 5 1 ([[.v (.int .u8 ((((bz 2).toNat:Nat):Int)))]]++[[.v (.int .u8 ((((bz (node)).toNat:Nat):Int)))]]++[[.v (.int .u8 ((((bz (peer)).toNat:Nat):Int)))]]),.dead,.dead]) tk mo hK [(4,[(2,.z (3))]),(5,[(1,.z (2))]),(6,[(2,.n 1)]),(10,[(3,.z ((((bz (peer)).toNat:Nat):Int)))])] 2000 [0,1,2,3] [0,1,2,6,7,8,3,10,11,12,4,5,13,14,15,16,19,20,21,23,22,25,26,27,28,17,18,31,30,33,34,35,36,37] r (by kernel_rfl) (U ((by first | rfl | simp [ae]):((([110,112,105]:List UInt8).length:Nat):Int)=3) (U (rfl:(1:Int)=((1:Nat):Int)) (U ((bQ _):IntKind.u8.wrap (peer)=(((bz (peer)).toNat:Nat):Int)) (U ((by first | rfl | (simp [ae,aH];done) | (simp [ae];omega)):(1+(1))=([[.v (.int .u8 ((((bz 2).toNat:Nat):Int)))]]++[[.v (.int .u8 ((((bz (node)).toNat:Nat):Int)))]]:List (List DV)).length) (U ((by first | rfl | (simp [ae,aH];done) | (simp [ae];omega)):(1)=([[.v (.int .u8 ((((bz (peer)).toNat:Nat):Int)))]]:List (List DV)).length) (U ((by have:=aH hi;first | omega | (simp [ae];done) | (simp [ae];omega)):(2*((1+(1))+(1))+192)*1≤281474976710656) (U ((by have:=aH hi;first | omega | (simp [ae];done) | (simp [ae];omega)):(1+(1))+(1)<4611686018427387904) (U ((by simp [aD,AV.one,bf,ae,ah,ints,steps,strs]):aD ([[.v (.int .u8 ((((bz (peer)).toNat:Nat):Int)))]])) (U ((wi (by omega)):IntKind.i64.wrap ((1:Int)+1)=2) trivial))))))))) fun ac wd r=>?_
 refine aU (todo':=hd Tryz.f31 0) (E':=[(0,.ag [.z 2,.z node,.z peer,.z n,.z bit,.u inc,.d (.ro 1 (ae body))]),(1,.pt 0 0),(2,.d (.v (.slice none 0 0))),(6,.pt 0 0),(7,.z 2),(8,.d (.v (.int .u8 ((((bz 2).toNat:Nat):Int))))),(3,.sl 1 (1+(1)+(1)+(1))),(10,.pt 0 0),(11,.z 2),(12,.d (.v (.string ⟨([110,112,105]).toArray⟩))),(4,.d (.v (.string ⟨([110,112,105]).toArray⟩))),(5,.z 3),(13,.z 2),(14,.d (.v (.string ⟨([110,112,105]).toArray⟩))),(15,.z 3),(16,.d (.v (.bool true))),(19,.d (.v (.string ⟨([110,112,105]).toArray⟩))),(20,.z 2),(21,.d (.v (.int .u8 105))),(23,.d (.v (.bool false))),(22,.d (.v (.bool false))),(25,.pt 0 1),(26,.z node),(27,.d (.v (.int .u8 ((((bz (node)).toNat:Nat):Int))))),(28,.sl 2 (1)),(17,.z 2),(18,.z 3),(31,.d (.v (.bool false))),(30,.d (.v (.bool false))),(33,.pt 0 2),(34,.z peer),(35,.d (.v (.int .u8 ((((bz (peer)).toNat:Nat):Int))))),(36,.sl 3 (1)),(39,.d (.v (.bool true))),(38,.d (.v (.bool true))),(41,.pt 0 3),(42,.z n),(43,.d (.v (.int .u8 ((((bz (n)).toNat:Nat):Int))))),(44,.sl 4 (1)),(45,.sl 1 (1+(1)+(1)+(1)))]) (M':=[.bx 42 [.z 2,.z node,.z peer,.z n,.z bit,.u inc,.d (.ro 1 (ae body))],.rw 5 1 ([[.v (.int .u8 ((((bz 2).toNat:Nat):Int)))]]++[[.v (.int .u8 ((((bz (node)).toNat:Nat):Int)))]]++[[.v (.int .u8 ((((bz (peer)).toNat:Nat):Int)))]]++[[.v (.int .u8 ((((bz (n)).toNat:Nat):Int)))]]),.dead,.dead,.dead]) tk mo hK [(4,[(2,.z (3))]),(5,[(1,.z (3))]),(6,[(2,.n 2)]),(12,[(3,.z ((((bz (n)).toNat:Nat):Int)))])] 2000 [0,1,2,3,4] [0,1,2,6,7,8,3,10,11,12,4,5,13,14,15,16,19,20,21,23,22,25,26,27,28,17,18,31,30,33,34,35,36,39,38,41,42,43,44,45] r (by kernel_rfl) (U ((by first | rfl | simp [ae]):((([110,112,105]:List UInt8).length:Nat):Int)=3) (U (rfl:(2:Int)=((2:Nat):Int)) (U ((bQ _):IntKind.u8.wrap (n)=(((bz (n)).toNat:Nat):Int)) (U ((by first | rfl | (simp [ae,aH];done) | (simp [ae];omega)):(1+(1)+(1))=([[.v (.int .u8 ((((bz 2).toNat:Nat):Int)))]]++[[.v (.int .u8 ((((bz (node)).toNat:Nat):Int)))]]++[[.v (.int .u8 ((((bz (peer)).toNat:Nat):Int)))]]:List (List DV)).length) (U ((by first | rfl | (simp [ae,aH];done) | (simp [ae];omega)):(1)=([[.v (.int .u8 ((((bz (n)).toNat:Nat):Int)))]]:List (List DV)).length) (U ((by have:=aH hi;first | omega | (simp [ae];done) | (simp [ae];omega)):(2*((1+(1)+(1))+(1))+192)*1≤281474976710656) (U ((by have:=aH hi;first | omega | (simp [ae];done) | (simp [ae];omega)):(1+(1)+(1))+(1)<4611686018427387904) (U ((by simp [aD,AV.one,bf,ae,ah,ints,steps,strs]):aD ([[.v (.int .u8 ((((bz (n)).toNat:Nat):Int)))]])) (U ((wi (by omega)):IntKind.i64.wrap ((2:Int)+1)=3) trivial))))))))) fun ac wd r=>?_
 rw [show (DV.em 5 1 (ae (bd ⟨2,node,peer,n,bit,inc,body⟩)):DV)=.em 5 1 ([[.v (.int .u8 ((((bz 2).toNat:Nat):Int)))]]++[[.v (.int .u8 ((((bz (node)).toNat:Nat):Int)))]]++[[.v (.int .u8 ((((bz (peer)).toNat:Nat):Int)))]]++[[.v (.int .u8 ((((bz (n)).toNat:Nat):Int)))]]) from (by simp [bd,fI,af,eV,ae])]
 exact aK tk mo hK rfl [(4,[(2,.z (3))])] 2000 r (by kernel_rfl) (U ((by first | rfl | simp [ae]):((([110,112,105]:List UInt8).length:Nat):Int)=3) (U ((by first | rfl | (simp [ae,aH];done) | (simp [ae];omega)):(1+(1)+(1)+(1))=([[.v (.int .u8 ((((bz 2).toNat:Nat):Int)))]]++[[.v (.int .u8 ((((bz (node)).toNat:Nat):Int)))]]++[[.v (.int .u8 ((((bz (peer)).toNat:Nat):Int)))]]++[[.v (.int .u8 ((((bz (n)).toNat:Nat):Int)))]]:List (List DV)).length) trivial))
set_option maxRecDepth 100000 in
theorem Kb (node peer n bit:Int) (inc:Nat) (body:List UInt8) (hb:body.length≤255) (hi:inc<18446744073709551616) (h0:0≤bit) (h1:bit≤65535):al Tryz.prog 31 [.ag [.z 3,.z node,.z peer,.z n,.z bit,.u inc,.d (.ro 1 (ae body))]] (DV.em 5 1 (ae (bd ⟨3,node,peer,n,bit,inc,body⟩))):=by
 refine al.intro (by kernel_rfl) rfl rfl 80 rfl rfl fun w0 K ac hK r=>?_
 refine aU (todo':=hd Tryz.f31 0) (E':=[(0,.ag [.z 3,.z node,.z peer,.z n,.z bit,.u inc,.d (.ro 1 (ae body))]),(1,.pt 0 0),(2,.d (.v (.slice none 0 0))),(6,.pt 0 0),(7,.z 3),(8,.d (.v (.int .u8 ((((bz 3).toNat:Nat):Int))))),(9,.sl 1 (1)),(3,.sl 1 (1)),(10,.pt 0 0),(11,.z 3),(12,.d (.v (.string ⟨([110,112,105]).toArray⟩))),(4,.d (.v (.string ⟨([110,112,105]).toArray⟩))),(5,.z 0)]) (M':=[.bx 42 [.z 3,.z node,.z peer,.z n,.z bit,.u inc,.d (.ro 1 (ae body))],.rw 5 1 ([[.v (.int .u8 ((((bz 3).toNat:Nat):Int)))]])]) tk mo hK [(1,[(2,.z ((((bz 3).toNat:Nat):Int)))]),(2,[(2,.au (.v (.string ⟨([110,112,105]).toArray⟩)))])] 2000 [0,1] [0,1,2,6,7,8,9,3,10,11,12,4,5] r (by kernel_rfl) (U ((bQ _):IntKind.u8.wrap (3)=(((bz 3).toNat:Nat):Int)) (U ((df 3):al Tryz.prog 59 [.z 3] (.v (.string ⟨([110,112,105]).toArray⟩))) trivial)) fun ac wd r=>?_
 refine aU (todo':=hd Tryz.f31 0) (E':=[(0,.ag [.z 3,.z node,.z peer,.z n,.z bit,.u inc,.d (.ro 1 (ae body))]),(1,.pt 0 0),(2,.d (.v (.slice none 0 0))),(6,.pt 0 0),(7,.z 3),(8,.d (.v (.int .u8 ((((bz 3).toNat:Nat):Int))))),(3,.sl 1 (1+(1))),(10,.pt 0 0),(11,.z 3),(12,.d (.v (.string ⟨([110,112,105]).toArray⟩))),(4,.d (.v (.string ⟨([110,112,105]).toArray⟩))),(5,.z 1),(13,.z 0),(14,.d (.v (.string ⟨([110,112,105]).toArray⟩))),(15,.z 3),(16,.d (.v (.bool true))),(19,.d (.v (.string ⟨([110,112,105]).toArray⟩))),(20,.z 0),(21,.d (.v (.int .u8 110))),(23,.d (.v (.bool true))),(22,.d (.v (.bool true))),(25,.pt 0 1),(26,.z node),(27,.d (.v (.int .u8 ((((bz (node)).toNat:Nat):Int))))),(28,.sl 2 (1)),(29,.sl 1 (1+(1))),(17,.z 0),(18,.z 1)]) (M':=[.bx 42 [.z 3,.z node,.z peer,.z n,.z bit,.u inc,.d (.ro 1 (ae body))],.rw 5 1 ([[.v (.int .u8 ((((bz 3).toNat:Nat):Int)))]]++[[.v (.int .u8 ((((bz (node)).toNat:Nat):Int)))]]),.dead]) tk mo hK [(4,[(2,.z (3))]),(5,[(1,.z (1))]),(6,[(2,.n 0)]),(8,[(3,.z ((((bz (node)).toNat:Nat):Int)))])] 2000 [0,1,2] [0,1,2,6,7,8,3,10,11,12,4,5,13,14,15,16,19,20,21,23,22,25,26,27,28,29,17,18] r (by kernel_rfl) (U ((by first | rfl | simp [ae]):((([110,112,105]:List UInt8).length:Nat):Int)=3) (U (rfl:(0:Int)=((0:Nat):Int)) (U ((bQ _):IntKind.u8.wrap (node)=(((bz (node)).toNat:Nat):Int)) (U ((by first | rfl | (simp [ae,aH];done) | (simp [ae];omega)):(1)=([[.v (.int .u8 ((((bz 3).toNat:Nat):Int)))]]:List (List DV)).length) (U ((by first | rfl | (simp [ae,aH];done) | (simp [ae];omega)):(1)=([[.v (.int .u8 ((((bz (node)).toNat:Nat):Int)))]]:List (List DV)).length) (U ((by have:=aH hi;first | omega | (simp [ae];done) | (simp [ae];omega)):(2*((1)+(1))+192)*1≤281474976710656) (U ((by have:=aH hi;first | omega | (simp [ae];done) | (simp [ae];omega)):(1)+(1)<4611686018427387904) (U ((by simp [aD,AV.one,bf,ae,ah,ints,steps,strs]):aD ([[.v (.int .u8 ((((bz (node)).toNat:Nat):Int)))]])) (U ((wi (by omega)):IntKind.i64.wrap ((0:Int)+1)=1) trivial))))))))) fun ac wd r=>?_
 refine aU (todo':=hd Tryz.f31 0) (E':=[(0,.ag [.z 3,.z node,.z peer,.z n,.z bit,.u inc,.d (.ro 1 (ae body))]),(1,.pt 0 0),(2,.d (.v (.slice none 0 0))),(6,.pt 0 0),(7,.z 3),(8,.d (.v (.int .u8 ((((bz 3).toNat:Nat):Int))))),(3,.sl 1 (1+(1)+(1))),(10,.pt 0 0),(11,.z 3),(12,.d (.v (.string ⟨([110,112,105]).toArray⟩))),(4,.d (.v (.string ⟨([110,112,105]).toArray⟩))),(5,.z 2),(13,.z 1),(14,.d (.v (.string ⟨([110,112,105]).toArray⟩))),(15,.z 3),(16,.d (.v (.bool true))),(19,.d (.v (.string ⟨([110,112,105]).toArray⟩))),(20,.z 1),(21,.d (.v (.int .u8 112))),(23,.d (.v (.bool false))),(22,.d (.v (.bool false))),(25,.pt 0 1),(26,.z node),(27,.d (.v (.int .u8 ((((bz (node)).toNat:Nat):Int))))),(28,.sl 2 (1)),(17,.z 1),(18,.z 2),(31,.d (.v (.bool true))),(30,.d (.v (.bool true))),(33,.pt 0 2),(34,.z peer),(35,.d (.v (.int .u8 ((((bz (peer)).toNat:Nat):Int))))),(36,.sl 3 (1)),(37,.sl 1 (1+(1)+(1)))]) (M':=[.bx 42 [.z 3,.z node,.z peer,.z n,.z bit,.u inc,.d (.ro 1 (ae body))],.rw 5 1 ([[.v (.int .u8 ((((bz 3).toNat:Nat):Int)))]]++[[.v (.int .u8 ((((bz (node)).toNat:Nat):Int)))]]++[[.v (.int .u8 ((((bz (peer)).toNat:Nat):Int)))]]),.dead,.dead]) tk mo hK [(4,[(2,.z (3))]),(5,[(1,.z (2))]),(6,[(2,.n 1)]),(10,[(3,.z ((((bz (peer)).toNat:Nat):Int)))])] 2000 [0,1,2,3] [0,1,2,6,7,8,3,10,11,12,4,5,13,14,15,16,19,20,21,23,22,25,26,27,28,17,18,31,30,33,34,35,36,37] r (by kernel_rfl) (U ((by first | rfl | simp [ae]):((([110,112,105]:List UInt8).length:Nat):Int)=3) (U (rfl:(1:Int)=((1:Nat):Int)) (U ((bQ _):IntKind.u8.wrap (peer)=(((bz (peer)).toNat:Nat):Int)) (U ((by first | rfl | (simp [ae,aH];done) | (simp [ae];omega)):(1+(1))=([[.v (.int .u8 ((((bz 3).toNat:Nat):Int)))]]++[[.v (.int .u8 ((((bz (node)).toNat:Nat):Int)))]]:List (List DV)).length) (U ((by first | rfl | (simp [ae,aH];done) | (simp [ae];omega)):(1)=([[.v (.int .u8 ((((bz (peer)).toNat:Nat):Int)))]]:List (List DV)).length) (U ((by have:=aH hi;first | omega | (simp [ae];done) | (simp [ae];omega)):(2*((1+(1))+(1))+192)*1≤281474976710656) (U ((by have:=aH hi;first | omega | (simp [ae];done) | (simp [ae];omega)):(1+(1))+(1)<4611686018427387904) (U ((by simp [aD,AV.one,bf,ae,ah,ints,steps,strs]):aD ([[.v (.int .u8 ((((bz (peer)).toNat:Nat):Int)))]])) (U ((wi (by omega)):IntKind.i64.wrap ((1:Int)+1)=2) trivial))))))))) fun ac wd r=>?_
 refine aU (todo':=hd Tryz.f31 0) (E':=[(0,.ag [.z 3,.z node,.z peer,.z n,.z bit,.u inc,.d (.ro 1 (ae body))]),(1,.pt 0 0),(2,.d (.v (.slice none 0 0))),(6,.pt 0 0),(7,.z 3),(8,.d (.v (.int .u8 ((((bz 3).toNat:Nat):Int))))),(3,.sl 1 (1+(1)+(1)+(1))),(10,.pt 0 0),(11,.z 3),(12,.d (.v (.string ⟨([110,112,105]).toArray⟩))),(4,.d (.v (.string ⟨([110,112,105]).toArray⟩))),(5,.z 3),(13,.z 2),(14,.d (.v (.string ⟨([110,112,105]).toArray⟩))),(15,.z 3),(16,.d (.v (.bool true))),(19,.d (.v (.string ⟨([110,112,105]).toArray⟩))),(20,.z 2),(21,.d (.v (.int .u8 105))),(23,.d (.v (.bool false))),(22,.d (.v (.bool false))),(25,.pt 0 1),(26,.z node),(27,.d (.v (.int .u8 ((((bz (node)).toNat:Nat):Int))))),(28,.sl 2 (1)),(17,.z 2),(18,.z 3),(31,.d (.v (.bool false))),(30,.d (.v (.bool false))),(33,.pt 0 2),(34,.z peer),(35,.d (.v (.int .u8 ((((bz (peer)).toNat:Nat):Int))))),(36,.sl 3 (1)),(39,.d (.v (.bool true))),(38,.d (.v (.bool true))),(41,.pt 0 3),(42,.z n),(43,.d (.v (.int .u8 ((((bz (n)).toNat:Nat):Int))))),(44,.sl 4 (1)),(45,.sl 1 (1+(1)+(1)+(1)))]) (M':=[.bx 42 [.z 3,.z node,.z peer,.z n,.z bit,.u inc,.d (.ro 1 (ae body))],.rw 5 1 ([[.v (.int .u8 ((((bz 3).toNat:Nat):Int)))]]++[[.v (.int .u8 ((((bz (node)).toNat:Nat):Int)))]]++[[.v (.int .u8 ((((bz (peer)).toNat:Nat):Int)))]]++[[.v (.int .u8 ((((bz (n)).toNat:Nat):Int)))]]),.dead,.dead,.dead]) tk mo hK [(4,[(2,.z (3))]),(5,[(1,.z (3))]),(6,[(2,.n 2)]),(12,[(3,.z ((((bz (n)).toNat:Nat):Int)))])] 2000 [0,1,2,3,4] [0,1,2,6,7,8,3,10,11,12,4,5,13,14,15,16,19,20,21,23,22,25,26,27,28,17,18,31,30,33,34,35,36,39,38,41,42,43,44,45] r (by kernel_rfl) (U ((by first | rfl | simp [ae]):((([110,112,105]:List UInt8).length:Nat):Int)=3) (U (rfl:(2:Int)=((2:Nat):Int)) (U ((bQ _):IntKind.u8.wrap (n)=(((bz (n)).toNat:Nat):Int)) (U ((by first | rfl | (simp [ae,aH];done) | (simp [ae];omega)):(1+(1)+(1))=([[.v (.int .u8 ((((bz 3).toNat:Nat):Int)))]]++[[.v (.int .u8 ((((bz (node)).toNat:Nat):Int)))]]++[[.v (.int .u8 ((((bz (peer)).toNat:Nat):Int)))]]:List (List DV)).length) (U ((by first | rfl | (simp [ae,aH];done) | (simp [ae];omega)):(1)=([[.v (.int .u8 ((((bz (n)).toNat:Nat):Int)))]]:List (List DV)).length) (U ((by have:=aH hi;first | omega | (simp [ae];done) | (simp [ae];omega)):(2*((1+(1)+(1))+(1))+192)*1≤281474976710656) (U ((by have:=aH hi;first | omega | (simp [ae];done) | (simp [ae];omega)):(1+(1)+(1))+(1)<4611686018427387904) (U ((by simp [aD,AV.one,bf,ae,ah,ints,steps,strs]):aD ([[.v (.int .u8 ((((bz (n)).toNat:Nat):Int)))]])) (U ((wi (by omega)):IntKind.i64.wrap ((2:Int)+1)=3) trivial))))))))) fun ac wd r=>?_
 rw [show (DV.em 5 1 (ae (bd ⟨3,node,peer,n,bit,inc,body⟩)):DV)=.em 5 1 ([[.v (.int .u8 ((((bz 3).toNat:Nat):Int)))]]++[[.v (.int .u8 ((((bz (node)).toNat:Nat):Int)))]]++[[.v (.int .u8 ((((bz (peer)).toNat:Nat):Int)))]]++[[.v (.int .u8 ((((bz (n)).toNat:Nat):Int)))]]) from (by simp [bd,fI,af,eV,ae])]
 exact aK tk mo hK rfl [(4,[(2,.z (3))])] 2000 r (by kernel_rfl) (U ((by first | rfl | simp [ae]):((([110,112,105]:List UInt8).length:Nat):Int)=3) (U ((by first | rfl | (simp [ae,aH];done) | (simp [ae];omega)):(1+(1)+(1)+(1))=([[.v (.int .u8 ((((bz 3).toNat:Nat):Int)))]]++[[.v (.int .u8 ((((bz (node)).toNat:Nat):Int)))]]++[[.v (.int .u8 ((((bz (peer)).toNat:Nat):Int)))]]++[[.v (.int .u8 ((((bz (n)).toNat:Nat):Int)))]]:List (List DV)).length) trivial))
set_option maxRecDepth 100000 in
theorem Kc (node peer n bit:Int) (inc:Nat) (body:List UInt8) (hb:body.length≤255) (hi:inc<18446744073709551616) (h0:0≤bit) (h1:bit≤65535):al Tryz.prog 31 [.ag [.z 4,.z node,.z peer,.z n,.z bit,.u inc,.d (.ro 1 (ae body))]] (DV.em 5 1 (ae (bd ⟨4,node,peer,n,bit,inc,body⟩))):=by
 refine al.intro (by kernel_rfl) rfl rfl 80 rfl rfl fun w0 K ac hK r=>?_
 refine aU (todo':=hd Tryz.f31 0) (E':=[(0,.ag [.z 4,.z node,.z peer,.z n,.z bit,.u inc,.d (.ro 1 (ae body))]),(1,.pt 0 0),(2,.d (.v (.slice none 0 0))),(6,.pt 0 0),(7,.z 4),(8,.d (.v (.int .u8 ((((bz 4).toNat:Nat):Int))))),(9,.sl 1 (1)),(3,.sl 1 (1)),(10,.pt 0 0),(11,.z 4),(12,.d (.v (.string ⟨([110,112,105]).toArray⟩))),(4,.d (.v (.string ⟨([110,112,105]).toArray⟩))),(5,.z 0)]) (M':=[.bx 42 [.z 4,.z node,.z peer,.z n,.z bit,.u inc,.d (.ro 1 (ae body))],.rw 5 1 ([[.v (.int .u8 ((((bz 4).toNat:Nat):Int)))]])]) tk mo hK [(1,[(2,.z ((((bz 4).toNat:Nat):Int)))]),(2,[(2,.au (.v (.string ⟨([110,112,105]).toArray⟩)))])] 2000 [0,1] [0,1,2,6,7,8,9,3,10,11,12,4,5] r (by kernel_rfl) (U ((bQ _):IntKind.u8.wrap (4)=(((bz 4).toNat:Nat):Int)) (U ((df 4):al Tryz.prog 59 [.z 4] (.v (.string ⟨([110,112,105]).toArray⟩))) trivial)) fun ac wd r=>?_
 refine aU (todo':=hd Tryz.f31 0) (E':=[(0,.ag [.z 4,.z node,.z peer,.z n,.z bit,.u inc,.d (.ro 1 (ae body))]),(1,.pt 0 0),(2,.d (.v (.slice none 0 0))),(6,.pt 0 0),(7,.z 4),(8,.d (.v (.int .u8 ((((bz 4).toNat:Nat):Int))))),(3,.sl 1 (1+(1))),(10,.pt 0 0),(11,.z 4),(12,.d (.v (.string ⟨([110,112,105]).toArray⟩))),(4,.d (.v (.string ⟨([110,112,105]).toArray⟩))),(5,.z 1),(13,.z 0),(14,.d (.v (.string ⟨([110,112,105]).toArray⟩))),(15,.z 3),(16,.d (.v (.bool true))),(19,.d (.v (.string ⟨([110,112,105]).toArray⟩))),(20,.z 0),(21,.d (.v (.int .u8 110))),(23,.d (.v (.bool true))),(22,.d (.v (.bool true))),(25,.pt 0 1),(26,.z node),(27,.d (.v (.int .u8 ((((bz (node)).toNat:Nat):Int))))),(28,.sl 2 (1)),(29,.sl 1 (1+(1))),(17,.z 0),(18,.z 1)]) (M':=[.bx 42 [.z 4,.z node,.z peer,.z n,.z bit,.u inc,.d (.ro 1 (ae body))],.rw 5 1 ([[.v (.int .u8 ((((bz 4).toNat:Nat):Int)))]]++[[.v (.int .u8 ((((bz (node)).toNat:Nat):Int)))]]),.dead]) tk mo hK [(4,[(2,.z (3))]),(5,[(1,.z (1))]),(6,[(2,.n 0)]),(8,[(3,.z ((((bz (node)).toNat:Nat):Int)))])] 2000 [0,1,2] [0,1,2,6,7,8,3,10,11,12,4,5,13,14,15,16,19,20,21,23,22,25,26,27,28,29,17,18] r (by kernel_rfl) (U ((by first | rfl | simp [ae]):((([110,112,105]:List UInt8).length:Nat):Int)=3) (U (rfl:(0:Int)=((0:Nat):Int)) (U ((bQ _):IntKind.u8.wrap (node)=(((bz (node)).toNat:Nat):Int)) (U ((by first | rfl | (simp [ae,aH];done) | (simp [ae];omega)):(1)=([[.v (.int .u8 ((((bz 4).toNat:Nat):Int)))]]:List (List DV)).length) (U ((by first | rfl | (simp [ae,aH];done) | (simp [ae];omega)):(1)=([[.v (.int .u8 ((((bz (node)).toNat:Nat):Int)))]]:List (List DV)).length) (U ((by have:=aH hi;first | omega | (simp [ae];done) | (simp [ae];omega)):(2*((1)+(1))+192)*1≤281474976710656) (U ((by have:=aH hi;first | omega | (simp [ae];done) | (simp [ae];omega)):(1)+(1)<4611686018427387904) (U ((by simp [aD,AV.one,bf,ae,ah,ints,steps,strs]):aD ([[.v (.int .u8 ((((bz (node)).toNat:Nat):Int)))]])) (U ((wi (by omega)):IntKind.i64.wrap ((0:Int)+1)=1) trivial))))))))) fun ac wd r=>?_
 refine aU (todo':=hd Tryz.f31 0) (E':=[(0,.ag [.z 4,.z node,.z peer,.z n,.z bit,.u inc,.d (.ro 1 (ae body))]),(1,.pt 0 0),(2,.d (.v (.slice none 0 0))),(6,.pt 0 0),(7,.z 4),(8,.d (.v (.int .u8 ((((bz 4).toNat:Nat):Int))))),(3,.sl 1 (1+(1)+(1))),(10,.pt 0 0),(11,.z 4),(12,.d (.v (.string ⟨([110,112,105]).toArray⟩))),(4,.d (.v (.string ⟨([110,112,105]).toArray⟩))),(5,.z 2),(13,.z 1),(14,.d (.v (.string ⟨([110,112,105]).toArray⟩))),(15,.z 3),(16,.d (.v (.bool true))),(19,.d (.v (.string ⟨([110,112,105]).toArray⟩))),(20,.z 1),(21,.d (.v (.int .u8 112))),(23,.d (.v (.bool false))),(22,.d (.v (.bool false))),(25,.pt 0 1),(26,.z node),(27,.d (.v (.int .u8 ((((bz (node)).toNat:Nat):Int))))),(28,.sl 2 (1)),(17,.z 1),(18,.z 2),(31,.d (.v (.bool true))),(30,.d (.v (.bool true))),(33,.pt 0 2),(34,.z peer),(35,.d (.v (.int .u8 ((((bz (peer)).toNat:Nat):Int))))),(36,.sl 3 (1)),(37,.sl 1 (1+(1)+(1)))]) (M':=[.bx 42 [.z 4,.z node,.z peer,.z n,.z bit,.u inc,.d (.ro 1 (ae body))],.rw 5 1 ([[.v (.int .u8 ((((bz 4).toNat:Nat):Int)))]]++[[.v (.int .u8 ((((bz (node)).toNat:Nat):Int)))]]++[[.v (.int .u8 ((((bz (peer)).toNat:Nat):Int)))]]),.dead,.dead]) tk mo hK [(4,[(2,.z (3))]),(5,[(1,.z (2))]),(6,[(2,.n 1)]),(10,[(3,.z ((((bz (peer)).toNat:Nat):Int)))])] 2000 [0,1,2,3] [0,1,2,6,7,8,3,10,11,12,4,5,13,14,15,16,19,20,21,23,22,25,26,27,28,17,18,31,30,33,34,35,36,37] r (by kernel_rfl) (U ((by first | rfl | simp [ae]):((([110,112,105]:List UInt8).length:Nat):Int)=3) (U (rfl:(1:Int)=((1:Nat):Int)) (U ((bQ _):IntKind.u8.wrap (peer)=(((bz (peer)).toNat:Nat):Int)) (U ((by first | rfl | (simp [ae,aH];done) | (simp [ae];omega)):(1+(1))=([[.v (.int .u8 ((((bz 4).toNat:Nat):Int)))]]++[[.v (.int .u8 ((((bz (node)).toNat:Nat):Int)))]]:List (List DV)).length) (U ((by first | rfl | (simp [ae,aH];done) | (simp [ae];omega)):(1)=([[.v (.int .u8 ((((bz (peer)).toNat:Nat):Int)))]]:List (List DV)).length) (U ((by have:=aH hi;first | omega | (simp [ae];done) | (simp [ae];omega)):(2*((1+(1))+(1))+192)*1≤281474976710656) (U ((by have:=aH hi;first | omega | (simp [ae];done) | (simp [ae];omega)):(1+(1))+(1)<4611686018427387904) (U ((by simp [aD,AV.one,bf,ae,ah,ints,steps,strs]):aD ([[.v (.int .u8 ((((bz (peer)).toNat:Nat):Int)))]])) (U ((wi (by omega)):IntKind.i64.wrap ((1:Int)+1)=2) trivial))))))))) fun ac wd r=>?_
 refine aU (todo':=hd Tryz.f31 0) (E':=[(0,.ag [.z 4,.z node,.z peer,.z n,.z bit,.u inc,.d (.ro 1 (ae body))]),(1,.pt 0 0),(2,.d (.v (.slice none 0 0))),(6,.pt 0 0),(7,.z 4),(8,.d (.v (.int .u8 ((((bz 4).toNat:Nat):Int))))),(3,.sl 1 (1+(1)+(1)+(1))),(10,.pt 0 0),(11,.z 4),(12,.d (.v (.string ⟨([110,112,105]).toArray⟩))),(4,.d (.v (.string ⟨([110,112,105]).toArray⟩))),(5,.z 3),(13,.z 2),(14,.d (.v (.string ⟨([110,112,105]).toArray⟩))),(15,.z 3),(16,.d (.v (.bool true))),(19,.d (.v (.string ⟨([110,112,105]).toArray⟩))),(20,.z 2),(21,.d (.v (.int .u8 105))),(23,.d (.v (.bool false))),(22,.d (.v (.bool false))),(25,.pt 0 1),(26,.z node),(27,.d (.v (.int .u8 ((((bz (node)).toNat:Nat):Int))))),(28,.sl 2 (1)),(17,.z 2),(18,.z 3),(31,.d (.v (.bool false))),(30,.d (.v (.bool false))),(33,.pt 0 2),(34,.z peer),(35,.d (.v (.int .u8 ((((bz (peer)).toNat:Nat):Int))))),(36,.sl 3 (1)),(39,.d (.v (.bool true))),(38,.d (.v (.bool true))),(41,.pt 0 3),(42,.z n),(43,.d (.v (.int .u8 ((((bz (n)).toNat:Nat):Int))))),(44,.sl 4 (1)),(45,.sl 1 (1+(1)+(1)+(1)))]) (M':=[.bx 42 [.z 4,.z node,.z peer,.z n,.z bit,.u inc,.d (.ro 1 (ae body))],.rw 5 1 ([[.v (.int .u8 ((((bz 4).toNat:Nat):Int)))]]++[[.v (.int .u8 ((((bz (node)).toNat:Nat):Int)))]]++[[.v (.int .u8 ((((bz (peer)).toNat:Nat):Int)))]]++[[.v (.int .u8 ((((bz (n)).toNat:Nat):Int)))]]),.dead,.dead,.dead]) tk mo hK [(4,[(2,.z (3))]),(5,[(1,.z (3))]),(6,[(2,.n 2)]),(12,[(3,.z ((((bz (n)).toNat:Nat):Int)))])] 2000 [0,1,2,3,4] [0,1,2,6,7,8,3,10,11,12,4,5,13,14,15,16,19,20,21,23,22,25,26,27,28,17,18,31,30,33,34,35,36,39,38,41,42,43,44,45] r (by kernel_rfl) (U ((by first | rfl | simp [ae]):((([110,112,105]:List UInt8).length:Nat):Int)=3) (U (rfl:(2:Int)=((2:Nat):Int)) (U ((bQ _):IntKind.u8.wrap (n)=(((bz (n)).toNat:Nat):Int)) (U ((by first | rfl | (simp [ae,aH];done) | (simp [ae];omega)):(1+(1)+(1))=([[.v (.int .u8 ((((bz 4).toNat:Nat):Int)))]]++[[.v (.int .u8 ((((bz (node)).toNat:Nat):Int)))]]++[[.v (.int .u8 ((((bz (peer)).toNat:Nat):Int)))]]:List (List DV)).length) (U ((by first | rfl | (simp [ae,aH];done) | (simp [ae];omega)):(1)=([[.v (.int .u8 ((((bz (n)).toNat:Nat):Int)))]]:List (List DV)).length) (U ((by have:=aH hi;first | omega | (simp [ae];done) | (simp [ae];omega)):(2*((1+(1)+(1))+(1))+192)*1≤281474976710656) (U ((by have:=aH hi;first | omega | (simp [ae];done) | (simp [ae];omega)):(1+(1)+(1))+(1)<4611686018427387904) (U ((by simp [aD,AV.one,bf,ae,ah,ints,steps,strs]):aD ([[.v (.int .u8 ((((bz (n)).toNat:Nat):Int)))]])) (U ((wi (by omega)):IntKind.i64.wrap ((2:Int)+1)=3) trivial))))))))) fun ac wd r=>?_
 rw [show (DV.em 5 1 (ae (bd ⟨4,node,peer,n,bit,inc,body⟩)):DV)=.em 5 1 ([[.v (.int .u8 ((((bz 4).toNat:Nat):Int)))]]++[[.v (.int .u8 ((((bz (node)).toNat:Nat):Int)))]]++[[.v (.int .u8 ((((bz (peer)).toNat:Nat):Int)))]]++[[.v (.int .u8 ((((bz (n)).toNat:Nat):Int)))]]) from (by simp [bd,fI,af,eV,ae])]
 exact aK tk mo hK rfl [(4,[(2,.z (3))])] 2000 r (by kernel_rfl) (U ((by first | rfl | simp [ae]):((([110,112,105]:List UInt8).length:Nat):Int)=3) (U ((by first | rfl | (simp [ae,aH];done) | (simp [ae];omega)):(1+(1)+(1)+(1))=([[.v (.int .u8 ((((bz 4).toNat:Nat):Int)))]]++[[.v (.int .u8 ((((bz (node)).toNat:Nat):Int)))]]++[[.v (.int .u8 ((((bz (peer)).toNat:Nat):Int)))]]++[[.v (.int .u8 ((((bz (n)).toNat:Nat):Int)))]]:List (List DV)).length) trivial))
set_option maxRecDepth 100000 in
theorem Kd (node peer n bit:Int) (inc:Nat) (body:List UInt8) (hb:body.length≤255) (hi:inc<18446744073709551616) (h0:0≤bit) (h1:bit≤65535):al Tryz.prog 31 [.ag [.z 5,.z node,.z peer,.z n,.z bit,.u inc,.d (.ro 1 (ae body))]] (DV.em 5 1 (ae (bd ⟨5,node,peer,n,bit,inc,body⟩))):=by
 refine al.intro (by kernel_rfl) rfl rfl 80 rfl rfl fun w0 K ac hK r=>?_
 refine aU (todo':=hd Tryz.f31 0) (E':=[(0,.ag [.z 5,.z node,.z peer,.z n,.z bit,.u inc,.d (.ro 1 (ae body))]),(1,.pt 0 0),(2,.d (.v (.slice none 0 0))),(6,.pt 0 0),(7,.z 5),(8,.d (.v (.int .u8 ((((bz 5).toNat:Nat):Int))))),(9,.sl 1 (1)),(3,.sl 1 (1)),(10,.pt 0 0),(11,.z 5),(12,.d (.v (.string ⟨([110,112,105,98]).toArray⟩))),(4,.d (.v (.string ⟨([110,112,105,98]).toArray⟩))),(5,.z 0)]) (M':=[.bx 42 [.z 5,.z node,.z peer,.z n,.z bit,.u inc,.d (.ro 1 (ae body))],.rw 5 1 ([[.v (.int .u8 ((((bz 5).toNat:Nat):Int)))]])]) tk mo hK [(1,[(2,.z ((((bz 5).toNat:Nat):Int)))]),(2,[(2,.au (.v (.string ⟨([110,112,105,98]).toArray⟩)))])] 2000 [0,1] [0,1,2,6,7,8,9,3,10,11,12,4,5] r (by kernel_rfl) (U ((bQ _):IntKind.u8.wrap (5)=(((bz 5).toNat:Nat):Int)) (U ((df 5):al Tryz.prog 59 [.z 5] (.v (.string ⟨([110,112,105,98]).toArray⟩))) trivial)) fun ac wd r=>?_
 refine aU (todo':=hd Tryz.f31 0) (E':=[(0,.ag [.z 5,.z node,.z peer,.z n,.z bit,.u inc,.d (.ro 1 (ae body))]),(1,.pt 0 0),(2,.d (.v (.slice none 0 0))),(6,.pt 0 0),(7,.z 5),(8,.d (.v (.int .u8 ((((bz 5).toNat:Nat):Int))))),(3,.sl 1 (1+(1))),(10,.pt 0 0),(11,.z 5),(12,.d (.v (.string ⟨([110,112,105,98]).toArray⟩))),(4,.d (.v (.string ⟨([110,112,105,98]).toArray⟩))),(5,.z 1),(13,.z 0),(14,.d (.v (.string ⟨([110,112,105,98]).toArray⟩))),(15,.z 4),(16,.d (.v (.bool true))),(19,.d (.v (.string ⟨([110,112,105,98]).toArray⟩))),(20,.z 0),(21,.d (.v (.int .u8 110))),(23,.d (.v (.bool true))),(22,.d (.v (.bool true))),(25,.pt 0 1),(26,.z node),(27,.d (.v (.int .u8 ((((bz (node)).toNat:Nat):Int))))),(28,.sl 2 (1)),(29,.sl 1 (1+(1))),(17,.z 0),(18,.z 1)]) (M':=[.bx 42 [.z 5,.z node,.z peer,.z n,.z bit,.u inc,.d (.ro 1 (ae body))],.rw 5 1 ([[.v (.int .u8 ((((bz 5).toNat:Nat):Int)))]]++[[.v (.int .u8 ((((bz (node)).toNat:Nat):Int)))]]),.dead]) tk mo hK [(4,[(2,.z (4))]),(5,[(1,.z (1))]),(6,[(2,.n 0)]),(8,[(3,.z ((((bz (node)).toNat:Nat):Int)))])] 2000 [0,1,2] [0,1,2,6,7,8,3,10,11,12,4,5,13,14,15,16,19,20,21,23,22,25,26,27,28,29,17,18] r (by kernel_rfl) (U ((by first | rfl | simp [ae]):((([110,112,105,98]:List UInt8).length:Nat):Int)=4) (U (rfl:(0:Int)=((0:Nat):Int)) (U ((bQ _):IntKind.u8.wrap (node)=(((bz (node)).toNat:Nat):Int)) (U ((by first | rfl | (simp [ae,aH];done) | (simp [ae];omega)):(1)=([[.v (.int .u8 ((((bz 5).toNat:Nat):Int)))]]:List (List DV)).length) (U ((by first | rfl | (simp [ae,aH];done) | (simp [ae];omega)):(1)=([[.v (.int .u8 ((((bz (node)).toNat:Nat):Int)))]]:List (List DV)).length) (U ((by have:=aH hi;first | omega | (simp [ae];done) | (simp [ae];omega)):(2*((1)+(1))+192)*1≤281474976710656) (U ((by have:=aH hi;first | omega | (simp [ae];done) | (simp [ae];omega)):(1)+(1)<4611686018427387904) (U ((by simp [aD,AV.one,bf,ae,ah,ints,steps,strs]):aD ([[.v (.int .u8 ((((bz (node)).toNat:Nat):Int)))]])) (U ((wi (by omega)):IntKind.i64.wrap ((0:Int)+1)=1) trivial))))))))) fun ac wd r=>?_
 refine aU (todo':=hd Tryz.f31 0) (E':=[(0,.ag [.z 5,.z node,.z peer,.z n,.z bit,.u inc,.d (.ro 1 (ae body))]),(1,.pt 0 0),(2,.d (.v (.slice none 0 0))),(6,.pt 0 0),(7,.z 5),(8,.d (.v (.int .u8 ((((bz 5).toNat:Nat):Int))))),(3,.sl 1 (1+(1)+(1))),(10,.pt 0 0),(11,.z 5),(12,.d (.v (.string ⟨([110,112,105,98]).toArray⟩))),(4,.d (.v (.string ⟨([110,112,105,98]).toArray⟩))),(5,.z 2),(13,.z 1),(14,.d (.v (.string ⟨([110,112,105,98]).toArray⟩))),(15,.z 4),(16,.d (.v (.bool true))),(19,.d (.v (.string ⟨([110,112,105,98]).toArray⟩))),(20,.z 1),(21,.d (.v (.int .u8 112))),(23,.d (.v (.bool false))),(22,.d (.v (.bool false))),(25,.pt 0 1),(26,.z node),(27,.d (.v (.int .u8 ((((bz (node)).toNat:Nat):Int))))),(28,.sl 2 (1)),(17,.z 1),(18,.z 2),(31,.d (.v (.bool true))),(30,.d (.v (.bool true))),(33,.pt 0 2),(34,.z peer),(35,.d (.v (.int .u8 ((((bz (peer)).toNat:Nat):Int))))),(36,.sl 3 (1)),(37,.sl 1 (1+(1)+(1)))]) (M':=[.bx 42 [.z 5,.z node,.z peer,.z n,.z bit,.u inc,.d (.ro 1 (ae body))],.rw 5 1 ([[.v (.int .u8 ((((bz 5).toNat:Nat):Int)))]]++[[.v (.int .u8 ((((bz (node)).toNat:Nat):Int)))]]++[[.v (.int .u8 ((((bz (peer)).toNat:Nat):Int)))]]),.dead,.dead]) tk mo hK [(4,[(2,.z (4))]),(5,[(1,.z (2))]),(6,[(2,.n 1)]),(10,[(3,.z ((((bz (peer)).toNat:Nat):Int)))])] 2000 [0,1,2,3] [0,1,2,6,7,8,3,10,11,12,4,5,13,14,15,16,19,20,21,23,22,25,26,27,28,17,18,31,30,33,34,35,36,37] r (by kernel_rfl) (U ((by first | rfl | simp [ae]):((([110,112,105,98]:List UInt8).length:Nat):Int)=4) (U (rfl:(1:Int)=((1:Nat):Int)) (U ((bQ _):IntKind.u8.wrap (peer)=(((bz (peer)).toNat:Nat):Int)) (U ((by first | rfl | (simp [ae,aH];done) | (simp [ae];omega)):(1+(1))=([[.v (.int .u8 ((((bz 5).toNat:Nat):Int)))]]++[[.v (.int .u8 ((((bz (node)).toNat:Nat):Int)))]]:List (List DV)).length) (U ((by first | rfl | (simp [ae,aH];done) | (simp [ae];omega)):(1)=([[.v (.int .u8 ((((bz (peer)).toNat:Nat):Int)))]]:List (List DV)).length) (U ((by have:=aH hi;first | omega | (simp [ae];done) | (simp [ae];omega)):(2*((1+(1))+(1))+192)*1≤281474976710656) (U ((by have:=aH hi;first | omega | (simp [ae];done) | (simp [ae];omega)):(1+(1))+(1)<4611686018427387904) (U ((by simp [aD,AV.one,bf,ae,ah,ints,steps,strs]):aD ([[.v (.int .u8 ((((bz (peer)).toNat:Nat):Int)))]])) (U ((wi (by omega)):IntKind.i64.wrap ((1:Int)+1)=2) trivial))))))))) fun ac wd r=>?_
 refine aU (todo':=hd Tryz.f31 0) (E':=[(0,.ag [.z 5,.z node,.z peer,.z n,.z bit,.u inc,.d (.ro 1 (ae body))]),(1,.pt 0 0),(2,.d (.v (.slice none 0 0))),(6,.pt 0 0),(7,.z 5),(8,.d (.v (.int .u8 ((((bz 5).toNat:Nat):Int))))),(3,.sl 1 (1+(1)+(1)+(1))),(10,.pt 0 0),(11,.z 5),(12,.d (.v (.string ⟨([110,112,105,98]).toArray⟩))),(4,.d (.v (.string ⟨([110,112,105,98]).toArray⟩))),(5,.z 3),(13,.z 2),(14,.d (.v (.string ⟨([110,112,105,98]).toArray⟩))),(15,.z 4),(16,.d (.v (.bool true))),(19,.d (.v (.string ⟨([110,112,105,98]).toArray⟩))),(20,.z 2),(21,.d (.v (.int .u8 105))),(23,.d (.v (.bool false))),(22,.d (.v (.bool false))),(25,.pt 0 1),(26,.z node),(27,.d (.v (.int .u8 ((((bz (node)).toNat:Nat):Int))))),(28,.sl 2 (1)),(17,.z 2),(18,.z 3),(31,.d (.v (.bool false))),(30,.d (.v (.bool false))),(33,.pt 0 2),(34,.z peer),(35,.d (.v (.int .u8 ((((bz (peer)).toNat:Nat):Int))))),(36,.sl 3 (1)),(39,.d (.v (.bool true))),(38,.d (.v (.bool true))),(41,.pt 0 3),(42,.z n),(43,.d (.v (.int .u8 ((((bz (n)).toNat:Nat):Int))))),(44,.sl 4 (1)),(45,.sl 1 (1+(1)+(1)+(1)))]) (M':=[.bx 42 [.z 5,.z node,.z peer,.z n,.z bit,.u inc,.d (.ro 1 (ae body))],.rw 5 1 ([[.v (.int .u8 ((((bz 5).toNat:Nat):Int)))]]++[[.v (.int .u8 ((((bz (node)).toNat:Nat):Int)))]]++[[.v (.int .u8 ((((bz (peer)).toNat:Nat):Int)))]]++[[.v (.int .u8 ((((bz (n)).toNat:Nat):Int)))]]),.dead,.dead,.dead]) tk mo hK [(4,[(2,.z (4))]),(5,[(1,.z (3))]),(6,[(2,.n 2)]),(12,[(3,.z ((((bz (n)).toNat:Nat):Int)))])] 2000 [0,1,2,3,4] [0,1,2,6,7,8,3,10,11,12,4,5,13,14,15,16,19,20,21,23,22,25,26,27,28,17,18,31,30,33,34,35,36,39,38,41,42,43,44,45] r (by kernel_rfl) (U ((by first | rfl | simp [ae]):((([110,112,105,98]:List UInt8).length:Nat):Int)=4) (U (rfl:(2:Int)=((2:Nat):Int)) (U ((bQ _):IntKind.u8.wrap (n)=(((bz (n)).toNat:Nat):Int)) (U ((by first | rfl | (simp [ae,aH];done) | (simp [ae];omega)):(1+(1)+(1))=([[.v (.int .u8 ((((bz 5).toNat:Nat):Int)))]]++[[.v (.int .u8 ((((bz (node)).toNat:Nat):Int)))]]++[[.v (.int .u8 ((((bz (peer)).toNat:Nat):Int)))]]:List (List DV)).length) (U ((by first | rfl | (simp [ae,aH];done) | (simp [ae];omega)):(1)=([[.v (.int .u8 ((((bz (n)).toNat:Nat):Int)))]]:List (List DV)).length) (U ((by have:=aH hi;first | omega | (simp [ae];done) | (simp [ae];omega)):(2*((1+(1)+(1))+(1))+192)*1≤281474976710656) (U ((by have:=aH hi;first | omega | (simp [ae];done) | (simp [ae];omega)):(1+(1)+(1))+(1)<4611686018427387904) (U ((by simp [aD,AV.one,bf,ae,ah,ints,steps,strs]):aD ([[.v (.int .u8 ((((bz (n)).toNat:Nat):Int)))]])) (U ((wi (by omega)):IntKind.i64.wrap ((2:Int)+1)=3) trivial))))))))) fun ac wd r=>?_
 refine aU (todo':=hd Tryz.f31 0) (E':=[(0,.ag [.z 5,.z node,.z peer,.z n,.z bit,.u inc,.d (.ro 1 (ae body))]),(1,.pt 0 0),(2,.d (.v (.slice none 0 0))),(6,.pt 0 0),(7,.z 5),(8,.d (.v (.int .u8 ((((bz 5).toNat:Nat):Int))))),(3,.sl 1 (1+(1)+(1)+(1)+(2))),(10,.pt 0 0),(11,.z 5),(12,.d (.v (.string ⟨([110,112,105,98]).toArray⟩))),(4,.d (.v (.string ⟨([110,112,105,98]).toArray⟩))),(5,.z 4),(13,.z 3),(14,.d (.v (.string ⟨([110,112,105,98]).toArray⟩))),(15,.z 4),(16,.d (.v (.bool true))),(19,.d (.v (.string ⟨([110,112,105,98]).toArray⟩))),(20,.z 3),(21,.d (.v (.int .u8 98))),(23,.d (.v (.bool false))),(22,.d (.v (.bool false))),(25,.pt 0 1),(26,.z node),(27,.d (.v (.int .u8 ((((bz (node)).toNat:Nat):Int))))),(28,.sl 2 (1)),(17,.z 3),(18,.z 4),(31,.d (.v (.bool false))),(30,.d (.v (.bool false))),(33,.pt 0 2),(34,.z peer),(35,.d (.v (.int .u8 ((((bz (peer)).toNat:Nat):Int))))),(36,.sl 3 (1)),(39,.d (.v (.bool false))),(38,.d (.v (.bool false))),(41,.pt 0 3),(42,.z n),(43,.d (.v (.int .u8 ((((bz (n)).toNat:Nat):Int))))),(44,.sl 4 (1)),(47,.d (.v (.bool true))),(46,.d (.v (.bool true))),(49,.pt 0 4),(50,.z bit),(51,.z (bit%256)),(52,.d (.v (.int .u8 ((((bz bit).toNat:Nat):Int))))),(53,.pt 0 4),(54,.z bit),(55,.z (bit / 256)),(56,.d (.v (.int .u8 ((((bz (bit / 256)).toNat:Nat):Int))))),(57,.sl 5 (2)),(58,.sl 1 (1+(1)+(1)+(1)+(2)))]) (M':=[.bx 42 [.z 5,.z node,.z peer,.z n,.z bit,.u inc,.d (.ro 1 (ae body))],.rw 5 1 ([[.v (.int .u8 ((((bz 5).toNat:Nat):Int)))]]++[[.v (.int .u8 ((((bz (node)).toNat:Nat):Int)))]]++[[.v (.int .u8 ((((bz (peer)).toNat:Nat):Int)))]]++[[.v (.int .u8 ((((bz (n)).toNat:Nat):Int)))]]++[[.v (.int .u8 ((((bz bit).toNat:Nat):Int)))],[.v (.int .u8 ((((bz (bit / 256)).toNat:Nat):Int)))]]),.dead,.dead,.dead,.dead]) tk mo hK [(4,[(2,.z (4))]),(5,[(1,.z (4))]),(6,[(2,.n 3)]),(14,[(3,.z (bit%256)),(4,.z ((((bz bit).toNat:Nat):Int))),(7,.z (bit / 256)),(8,.z ((((bz (bit / 256)).toNat:Nat):Int)))])] 2000 [0,1,2,3,4,5] [0,1,2,6,7,8,3,10,11,12,4,5,13,14,15,16,19,20,21,23,22,25,26,27,28,17,18,31,30,33,34,35,36,39,38,41,42,43,44,47,46,49,50,51,52,53,54,55,56,57,58] r (by kernel_rfl) (U ((by first | rfl | simp [ae]):((([110,112,105,98]:List UInt8).length:Nat):Int)=4) (U (rfl:(3:Int)=((3:Nat):Int)) (U ((IN h0):(bit:Int).tmod 256=bit%256) (U ((by decide):(256:Int)≠0) (U ((On _):IntKind.u8.wrap (bit%256)=(((bz bit).toNat:Nat):Int)) (U ((IP h0 h1):IntKind.i64.wrap ((bit:Int).tdiv 256)=bit / 256) (U ((by decide):(256:Int)≠0) (U ((bQ _):IntKind.u8.wrap (bit / 256)=(((bz (bit / 256)).toNat:Nat):Int)) (U ((by first | rfl | (simp [ae,aH];done) | (simp [ae];omega)):(1+(1)+(1)+(1))=([[.v (.int .u8 ((((bz 5).toNat:Nat):Int)))]]++[[.v (.int .u8 ((((bz (node)).toNat:Nat):Int)))]]++[[.v (.int .u8 ((((bz (peer)).toNat:Nat):Int)))]]++[[.v (.int .u8 ((((bz (n)).toNat:Nat):Int)))]]:List (List DV)).length) (U ((by first | rfl | (simp [ae,aH];done) | (simp [ae];omega)):(2)=([[.v (.int .u8 ((((bz bit).toNat:Nat):Int)))],[.v (.int .u8 ((((bz (bit / 256)).toNat:Nat):Int)))]]:List (List DV)).length) (U ((by have:=aH hi;first | omega | (simp [ae];done) | (simp [ae];omega)):(2*((1+(1)+(1)+(1))+(2))+192)*1≤281474976710656) (U ((by have:=aH hi;first | omega | (simp [ae];done) | (simp [ae];omega)):(1+(1)+(1)+(1))+(2)<4611686018427387904) (U ((by simp [aD,AV.one,bf,ae,ah,ints,steps,strs]):aD ([[.v (.int .u8 ((((bz bit).toNat:Nat):Int)))],[.v (.int .u8 ((((bz (bit / 256)).toNat:Nat):Int)))]])) (U ((wi (by omega)):IntKind.i64.wrap ((3:Int)+1)=4) trivial)))))))))))))) fun ac wd r=>?_
 rw [show (DV.em 5 1 (ae (bd ⟨5,node,peer,n,bit,inc,body⟩)):DV)=.em 5 1 ([[.v (.int .u8 ((((bz 5).toNat:Nat):Int)))]]++[[.v (.int .u8 ((((bz (node)).toNat:Nat):Int)))]]++[[.v (.int .u8 ((((bz (peer)).toNat:Nat):Int)))]]++[[.v (.int .u8 ((((bz (n)).toNat:Nat):Int)))]]++[[.v (.int .u8 ((((bz bit).toNat:Nat):Int)))],[.v (.int .u8 ((((bz (bit / 256)).toNat:Nat):Int)))]]) from (by simp [bd,fI,af,eV,ae])]
 exact aK tk mo hK rfl [(4,[(2,.z (4))])] 2000 r (by kernel_rfl) (U ((by first | rfl | simp [ae]):((([110,112,105,98]:List UInt8).length:Nat):Int)=4) (U ((by first | rfl | (simp [ae,aH];done) | (simp [ae];omega)):(1+(1)+(1)+(1)+(2))=([[.v (.int .u8 ((((bz 5).toNat:Nat):Int)))]]++[[.v (.int .u8 ((((bz (node)).toNat:Nat):Int)))]]++[[.v (.int .u8 ((((bz (peer)).toNat:Nat):Int)))]]++[[.v (.int .u8 ((((bz (n)).toNat:Nat):Int)))]]++[[.v (.int .u8 ((((bz bit).toNat:Nat):Int)))],[.v (.int .u8 ((((bz (bit / 256)).toNat:Nat):Int)))]]:List (List DV)).length) trivial))
set_option maxRecDepth 100000 in
theorem Ke (node peer n bit:Int) (inc:Nat) (body:List UInt8) (hb:body.length≤255) (hi:inc<18446744073709551616) (h0:0≤bit) (h1:bit≤65535):al Tryz.prog 31 [.ag [.z 6,.z node,.z peer,.z n,.z bit,.u inc,.d (.ro 1 (ae body))]] (DV.em 5 1 (ae (bd ⟨6,node,peer,n,bit,inc,body⟩))):=by
 refine al.intro (by kernel_rfl) rfl rfl 80 rfl rfl fun w0 K ac hK r=>?_
 refine aU (todo':=hd Tryz.f31 0) (E':=[(0,.ag [.z 6,.z node,.z peer,.z n,.z bit,.u inc,.d (.ro 1 (ae body))]),(1,.pt 0 0),(2,.d (.v (.slice none 0 0))),(6,.pt 0 0),(7,.z 6),(8,.d (.v (.int .u8 ((((bz 6).toNat:Nat):Int))))),(9,.sl 1 (1)),(3,.sl 1 (1)),(10,.pt 0 0),(11,.z 6),(12,.d (.v (.string ⟨([110,112]).toArray⟩))),(4,.d (.v (.string ⟨([110,112]).toArray⟩))),(5,.z 0)]) (M':=[.bx 42 [.z 6,.z node,.z peer,.z n,.z bit,.u inc,.d (.ro 1 (ae body))],.rw 5 1 ([[.v (.int .u8 ((((bz 6).toNat:Nat):Int)))]])]) tk mo hK [(1,[(2,.z ((((bz 6).toNat:Nat):Int)))]),(2,[(2,.au (.v (.string ⟨([110,112]).toArray⟩)))])] 2000 [0,1] [0,1,2,6,7,8,9,3,10,11,12,4,5] r (by kernel_rfl) (U ((bQ _):IntKind.u8.wrap (6)=(((bz 6).toNat:Nat):Int)) (U ((df 6):al Tryz.prog 59 [.z 6] (.v (.string ⟨([110,112]).toArray⟩))) trivial)) fun ac wd r=>?_
 refine aU (todo':=hd Tryz.f31 0) (E':=[(0,.ag [.z 6,.z node,.z peer,.z n,.z bit,.u inc,.d (.ro 1 (ae body))]),(1,.pt 0 0),(2,.d (.v (.slice none 0 0))),(6,.pt 0 0),(7,.z 6),(8,.d (.v (.int .u8 ((((bz 6).toNat:Nat):Int))))),(3,.sl 1 (1+(1))),(10,.pt 0 0),(11,.z 6),(12,.d (.v (.string ⟨([110,112]).toArray⟩))),(4,.d (.v (.string ⟨([110,112]).toArray⟩))),(5,.z 1),(13,.z 0),(14,.d (.v (.string ⟨([110,112]).toArray⟩))),(15,.z 2),(16,.d (.v (.bool true))),(19,.d (.v (.string ⟨([110,112]).toArray⟩))),(20,.z 0),(21,.d (.v (.int .u8 110))),(23,.d (.v (.bool true))),(22,.d (.v (.bool true))),(25,.pt 0 1),(26,.z node),(27,.d (.v (.int .u8 ((((bz (node)).toNat:Nat):Int))))),(28,.sl 2 (1)),(29,.sl 1 (1+(1))),(17,.z 0),(18,.z 1)]) (M':=[.bx 42 [.z 6,.z node,.z peer,.z n,.z bit,.u inc,.d (.ro 1 (ae body))],.rw 5 1 ([[.v (.int .u8 ((((bz 6).toNat:Nat):Int)))]]++[[.v (.int .u8 ((((bz (node)).toNat:Nat):Int)))]]),.dead]) tk mo hK [(4,[(2,.z (2))]),(5,[(1,.z (1))]),(6,[(2,.n 0)]),(8,[(3,.z ((((bz (node)).toNat:Nat):Int)))])] 2000 [0,1,2] [0,1,2,6,7,8,3,10,11,12,4,5,13,14,15,16,19,20,21,23,22,25,26,27,28,29,17,18] r (by kernel_rfl) (U ((by first | rfl | simp [ae]):((([110,112]:List UInt8).length:Nat):Int)=2) (U (rfl:(0:Int)=((0:Nat):Int)) (U ((bQ _):IntKind.u8.wrap (node)=(((bz (node)).toNat:Nat):Int)) (U ((by first | rfl | (simp [ae,aH];done) | (simp [ae];omega)):(1)=([[.v (.int .u8 ((((bz 6).toNat:Nat):Int)))]]:List (List DV)).length) (U ((by first | rfl | (simp [ae,aH];done) | (simp [ae];omega)):(1)=([[.v (.int .u8 ((((bz (node)).toNat:Nat):Int)))]]:List (List DV)).length) (U ((by have:=aH hi;first | omega | (simp [ae];done) | (simp [ae];omega)):(2*((1)+(1))+192)*1≤281474976710656) (U ((by have:=aH hi;first | omega | (simp [ae];done) | (simp [ae];omega)):(1)+(1)<4611686018427387904) (U ((by simp [aD,AV.one,bf,ae,ah,ints,steps,strs]):aD ([[.v (.int .u8 ((((bz (node)).toNat:Nat):Int)))]])) (U ((wi (by omega)):IntKind.i64.wrap ((0:Int)+1)=1) trivial))))))))) fun ac wd r=>?_
 refine aU (todo':=hd Tryz.f31 0) (E':=[(0,.ag [.z 6,.z node,.z peer,.z n,.z bit,.u inc,.d (.ro 1 (ae body))]),(1,.pt 0 0),(2,.d (.v (.slice none 0 0))),(6,.pt 0 0),(7,.z 6),(8,.d (.v (.int .u8 ((((bz 6).toNat:Nat):Int))))),(3,.sl 1 (1+(1)+(1))),(10,.pt 0 0),(11,.z 6),(12,.d (.v (.string ⟨([110,112]).toArray⟩))),(4,.d (.v (.string ⟨([110,112]).toArray⟩))),(5,.z 2),(13,.z 1),(14,.d (.v (.string ⟨([110,112]).toArray⟩))),(15,.z 2),(16,.d (.v (.bool true))),(19,.d (.v (.string ⟨([110,112]).toArray⟩))),(20,.z 1),(21,.d (.v (.int .u8 112))),(23,.d (.v (.bool false))),(22,.d (.v (.bool false))),(25,.pt 0 1),(26,.z node),(27,.d (.v (.int .u8 ((((bz (node)).toNat:Nat):Int))))),(28,.sl 2 (1)),(17,.z 1),(18,.z 2),(31,.d (.v (.bool true))),(30,.d (.v (.bool true))),(33,.pt 0 2),(34,.z peer),(35,.d (.v (.int .u8 ((((bz (peer)).toNat:Nat):Int))))),(36,.sl 3 (1)),(37,.sl 1 (1+(1)+(1)))]) (M':=[.bx 42 [.z 6,.z node,.z peer,.z n,.z bit,.u inc,.d (.ro 1 (ae body))],.rw 5 1 ([[.v (.int .u8 ((((bz 6).toNat:Nat):Int)))]]++[[.v (.int .u8 ((((bz (node)).toNat:Nat):Int)))]]++[[.v (.int .u8 ((((bz (peer)).toNat:Nat):Int)))]]),.dead,.dead]) tk mo hK [(4,[(2,.z (2))]),(5,[(1,.z (2))]),(6,[(2,.n 1)]),(10,[(3,.z ((((bz (peer)).toNat:Nat):Int)))])] 2000 [0,1,2,3] [0,1,2,6,7,8,3,10,11,12,4,5,13,14,15,16,19,20,21,23,22,25,26,27,28,17,18,31,30,33,34,35,36,37] r (by kernel_rfl) (U ((by first | rfl | simp [ae]):((([110,112]:List UInt8).length:Nat):Int)=2) (U (rfl:(1:Int)=((1:Nat):Int)) (U ((bQ _):IntKind.u8.wrap (peer)=(((bz (peer)).toNat:Nat):Int)) (U ((by first | rfl | (simp [ae,aH];done) | (simp [ae];omega)):(1+(1))=([[.v (.int .u8 ((((bz 6).toNat:Nat):Int)))]]++[[.v (.int .u8 ((((bz (node)).toNat:Nat):Int)))]]:List (List DV)).length) (U ((by first | rfl | (simp [ae,aH];done) | (simp [ae];omega)):(1)=([[.v (.int .u8 ((((bz (peer)).toNat:Nat):Int)))]]:List (List DV)).length) (U ((by have:=aH hi;first | omega | (simp [ae];done) | (simp [ae];omega)):(2*((1+(1))+(1))+192)*1≤281474976710656) (U ((by have:=aH hi;first | omega | (simp [ae];done) | (simp [ae];omega)):(1+(1))+(1)<4611686018427387904) (U ((by simp [aD,AV.one,bf,ae,ah,ints,steps,strs]):aD ([[.v (.int .u8 ((((bz (peer)).toNat:Nat):Int)))]])) (U ((wi (by omega)):IntKind.i64.wrap ((1:Int)+1)=2) trivial))))))))) fun ac wd r=>?_
 rw [show (DV.em 5 1 (ae (bd ⟨6,node,peer,n,bit,inc,body⟩)):DV)=.em 5 1 ([[.v (.int .u8 ((((bz 6).toNat:Nat):Int)))]]++[[.v (.int .u8 ((((bz (node)).toNat:Nat):Int)))]]++[[.v (.int .u8 ((((bz (peer)).toNat:Nat):Int)))]]) from (by simp [bd,fI,af,eV,ae])]
 exact aK tk mo hK rfl [(4,[(2,.z (2))])] 2000 r (by kernel_rfl) (U ((by first | rfl | simp [ae]):((([110,112]:List UInt8).length:Nat):Int)=2) (U ((by first | rfl | (simp [ae,aH];done) | (simp [ae];omega)):(1+(1)+(1))=([[.v (.int .u8 ((((bz 6).toNat:Nat):Int)))]]++[[.v (.int .u8 ((((bz (node)).toNat:Nat):Int)))]]++[[.v (.int .u8 ((((bz (peer)).toNat:Nat):Int)))]]:List (List DV)).length) trivial))
set_option maxRecDepth 100000 in
theorem Kf (node peer n bit:Int) (inc:Nat) (body:List UInt8) (hb:body.length≤255) (hi:inc<18446744073709551616) (h0:0≤bit) (h1:bit≤65535):al Tryz.prog 31 [.ag [.z 7,.z node,.z peer,.z n,.z bit,.u inc,.d (.ro 1 (ae body))]] (DV.em 5 1 (ae (bd ⟨7,node,peer,n,bit,inc,body⟩))):=by
 refine al.intro (by kernel_rfl) rfl rfl 80 rfl rfl fun w0 K ac hK r=>?_
 refine aU (todo':=hd Tryz.f31 0) (E':=[(0,.ag [.z 7,.z node,.z peer,.z n,.z bit,.u inc,.d (.ro 1 (ae body))]),(1,.pt 0 0),(2,.d (.v (.slice none 0 0))),(6,.pt 0 0),(7,.z 7),(8,.d (.v (.int .u8 ((((bz 7).toNat:Nat):Int))))),(9,.sl 1 (1)),(3,.sl 1 (1)),(10,.pt 0 0),(11,.z 7),(12,.d (.v (.string ⟨([110,112]).toArray⟩))),(4,.d (.v (.string ⟨([110,112]).toArray⟩))),(5,.z 0)]) (M':=[.bx 42 [.z 7,.z node,.z peer,.z n,.z bit,.u inc,.d (.ro 1 (ae body))],.rw 5 1 ([[.v (.int .u8 ((((bz 7).toNat:Nat):Int)))]])]) tk mo hK [(1,[(2,.z ((((bz 7).toNat:Nat):Int)))]),(2,[(2,.au (.v (.string ⟨([110,112]).toArray⟩)))])] 2000 [0,1] [0,1,2,6,7,8,9,3,10,11,12,4,5] r (by kernel_rfl) (U ((bQ _):IntKind.u8.wrap (7)=(((bz 7).toNat:Nat):Int)) (U ((df 7):al Tryz.prog 59 [.z 7] (.v (.string ⟨([110,112]).toArray⟩))) trivial)) fun ac wd r=>?_
 refine aU (todo':=hd Tryz.f31 0) (E':=[(0,.ag [.z 7,.z node,.z peer,.z n,.z bit,.u inc,.d (.ro 1 (ae body))]),(1,.pt 0 0),(2,.d (.v (.slice none 0 0))),(6,.pt 0 0),(7,.z 7),(8,.d (.v (.int .u8 ((((bz 7).toNat:Nat):Int))))),(3,.sl 1 (1+(1))),(10,.pt 0 0),(11,.z 7),(12,.d (.v (.string ⟨([110,112]).toArray⟩))),(4,.d (.v (.string ⟨([110,112]).toArray⟩))),(5,.z 1),(13,.z 0),(14,.d (.v (.string ⟨([110,112]).toArray⟩))),(15,.z 2),(16,.d (.v (.bool true))),(19,.d (.v (.string ⟨([110,112]).toArray⟩))),(20,.z 0),(21,.d (.v (.int .u8 110))),(23,.d (.v (.bool true))),(22,.d (.v (.bool true))),(25,.pt 0 1),(26,.z node),(27,.d (.v (.int .u8 ((((bz (node)).toNat:Nat):Int))))),(28,.sl 2 (1)),(29,.sl 1 (1+(1))),(17,.z 0),(18,.z 1)]) (M':=[.bx 42 [.z 7,.z node,.z peer,.z n,.z bit,.u inc,.d (.ro 1 (ae body))],.rw 5 1 ([[.v (.int .u8 ((((bz 7).toNat:Nat):Int)))]]++[[.v (.int .u8 ((((bz (node)).toNat:Nat):Int)))]]),.dead]) tk mo hK [(4,[(2,.z (2))]),(5,[(1,.z (1))]),(6,[(2,.n 0)]),(8,[(3,.z ((((bz (node)).toNat:Nat):Int)))])] 2000 [0,1,2] [0,1,2,6,7,8,3,10,11,12,4,5,13,14,15,16,19,20,21,23,22,25,26,27,28,29,17,18] r (by kernel_rfl) (U ((by first | rfl | simp [ae]):((([110,112]:List UInt8).length:Nat):Int)=2) (U (rfl:(0:Int)=((0:Nat):Int)) (U ((bQ _):IntKind.u8.wrap (node)=(((bz (node)).toNat:Nat):Int)) (U ((by first | rfl | (simp [ae,aH];done) | (simp [ae];omega)):(1)=([[.v (.int .u8 ((((bz 7).toNat:Nat):Int)))]]:List (List DV)).length) (U ((by first | rfl | (simp [ae,aH];done) | (simp [ae];omega)):(1)=([[.v (.int .u8 ((((bz (node)).toNat:Nat):Int)))]]:List (List DV)).length) (U ((by have:=aH hi;first | omega | (simp [ae];done) | (simp [ae];omega)):(2*((1)+(1))+192)*1≤281474976710656) (U ((by have:=aH hi;first | omega | (simp [ae];done) | (simp [ae];omega)):(1)+(1)<4611686018427387904) (U ((by simp [aD,AV.one,bf,ae,ah,ints,steps,strs]):aD ([[.v (.int .u8 ((((bz (node)).toNat:Nat):Int)))]])) (U ((wi (by omega)):IntKind.i64.wrap ((0:Int)+1)=1) trivial))))))))) fun ac wd r=>?_
 refine aU (todo':=hd Tryz.f31 0) (E':=[(0,.ag [.z 7,.z node,.z peer,.z n,.z bit,.u inc,.d (.ro 1 (ae body))]),(1,.pt 0 0),(2,.d (.v (.slice none 0 0))),(6,.pt 0 0),(7,.z 7),(8,.d (.v (.int .u8 ((((bz 7).toNat:Nat):Int))))),(3,.sl 1 (1+(1)+(1))),(10,.pt 0 0),(11,.z 7),(12,.d (.v (.string ⟨([110,112]).toArray⟩))),(4,.d (.v (.string ⟨([110,112]).toArray⟩))),(5,.z 2),(13,.z 1),(14,.d (.v (.string ⟨([110,112]).toArray⟩))),(15,.z 2),(16,.d (.v (.bool true))),(19,.d (.v (.string ⟨([110,112]).toArray⟩))),(20,.z 1),(21,.d (.v (.int .u8 112))),(23,.d (.v (.bool false))),(22,.d (.v (.bool false))),(25,.pt 0 1),(26,.z node),(27,.d (.v (.int .u8 ((((bz (node)).toNat:Nat):Int))))),(28,.sl 2 (1)),(17,.z 1),(18,.z 2),(31,.d (.v (.bool true))),(30,.d (.v (.bool true))),(33,.pt 0 2),(34,.z peer),(35,.d (.v (.int .u8 ((((bz (peer)).toNat:Nat):Int))))),(36,.sl 3 (1)),(37,.sl 1 (1+(1)+(1)))]) (M':=[.bx 42 [.z 7,.z node,.z peer,.z n,.z bit,.u inc,.d (.ro 1 (ae body))],.rw 5 1 ([[.v (.int .u8 ((((bz 7).toNat:Nat):Int)))]]++[[.v (.int .u8 ((((bz (node)).toNat:Nat):Int)))]]++[[.v (.int .u8 ((((bz (peer)).toNat:Nat):Int)))]]),.dead,.dead]) tk mo hK [(4,[(2,.z (2))]),(5,[(1,.z (2))]),(6,[(2,.n 1)]),(10,[(3,.z ((((bz (peer)).toNat:Nat):Int)))])] 2000 [0,1,2,3] [0,1,2,6,7,8,3,10,11,12,4,5,13,14,15,16,19,20,21,23,22,25,26,27,28,17,18,31,30,33,34,35,36,37] r (by kernel_rfl) (U ((by first | rfl | simp [ae]):((([110,112]:List UInt8).length:Nat):Int)=2) (U (rfl:(1:Int)=((1:Nat):Int)) (U ((bQ _):IntKind.u8.wrap (peer)=(((bz (peer)).toNat:Nat):Int)) (U ((by first | rfl | (simp [ae,aH];done) | (simp [ae];omega)):(1+(1))=([[.v (.int .u8 ((((bz 7).toNat:Nat):Int)))]]++[[.v (.int .u8 ((((bz (node)).toNat:Nat):Int)))]]:List (List DV)).length) (U ((by first | rfl | (simp [ae,aH];done) | (simp [ae];omega)):(1)=([[.v (.int .u8 ((((bz (peer)).toNat:Nat):Int)))]]:List (List DV)).length) (U ((by have:=aH hi;first | omega | (simp [ae];done) | (simp [ae];omega)):(2*((1+(1))+(1))+192)*1≤281474976710656) (U ((by have:=aH hi;first | omega | (simp [ae];done) | (simp [ae];omega)):(1+(1))+(1)<4611686018427387904) (U ((by simp [aD,AV.one,bf,ae,ah,ints,steps,strs]):aD ([[.v (.int .u8 ((((bz (peer)).toNat:Nat):Int)))]])) (U ((wi (by omega)):IntKind.i64.wrap ((1:Int)+1)=2) trivial))))))))) fun ac wd r=>?_
 rw [show (DV.em 5 1 (ae (bd ⟨7,node,peer,n,bit,inc,body⟩)):DV)=.em 5 1 ([[.v (.int .u8 ((((bz 7).toNat:Nat):Int)))]]++[[.v (.int .u8 ((((bz (node)).toNat:Nat):Int)))]]++[[.v (.int .u8 ((((bz (peer)).toNat:Nat):Int)))]]) from (by simp [bd,fI,af,eV,ae])]
 exact aK tk mo hK rfl [(4,[(2,.z (2))])] 2000 r (by kernel_rfl) (U ((by first | rfl | simp [ae]):((([110,112]:List UInt8).length:Nat):Int)=2) (U ((by first | rfl | (simp [ae,aH];done) | (simp [ae];omega)):(1+(1)+(1))=([[.v (.int .u8 ((((bz 7).toNat:Nat):Int)))]]++[[.v (.int .u8 ((((bz (node)).toNat:Nat):Int)))]]++[[.v (.int .u8 ((((bz (peer)).toNat:Nat):Int)))]]:List (List DV)).length) trivial))
set_option maxRecDepth 100000 in
theorem Kg (node peer n bit:Int) (inc:Nat) (body:List UInt8) (hb:body.length≤255) (hi:inc<18446744073709551616) (h0:0≤bit) (h1:bit≤65535):al Tryz.prog 31 [.ag [.z 8,.z node,.z peer,.z n,.z bit,.u inc,.d (.ro 1 (ae body))]] (DV.em 5 1 (ae (bd ⟨8,node,peer,n,bit,inc,body⟩))):=by
 refine al.intro (by kernel_rfl) rfl rfl 80 rfl rfl fun w0 K ac hK r=>?_
 refine aU (todo':=hd Tryz.f31 0) (E':=[(0,.ag [.z 8,.z node,.z peer,.z n,.z bit,.u inc,.d (.ro 1 (ae body))]),(1,.pt 0 0),(2,.d (.v (.slice none 0 0))),(6,.pt 0 0),(7,.z 8),(8,.d (.v (.int .u8 ((((bz 8).toNat:Nat):Int))))),(9,.sl 1 (1)),(3,.sl 1 (1)),(10,.pt 0 0),(11,.z 8),(12,.d (.v (.string ⟨([110]).toArray⟩))),(4,.d (.v (.string ⟨([110]).toArray⟩))),(5,.z 0)]) (M':=[.bx 42 [.z 8,.z node,.z peer,.z n,.z bit,.u inc,.d (.ro 1 (ae body))],.rw 5 1 ([[.v (.int .u8 ((((bz 8).toNat:Nat):Int)))]])]) tk mo hK [(1,[(2,.z ((((bz 8).toNat:Nat):Int)))]),(2,[(2,.au (.v (.string ⟨([110]).toArray⟩)))])] 2000 [0,1] [0,1,2,6,7,8,9,3,10,11,12,4,5] r (by kernel_rfl) (U ((bQ _):IntKind.u8.wrap (8)=(((bz 8).toNat:Nat):Int)) (U ((df 8):al Tryz.prog 59 [.z 8] (.v (.string ⟨([110]).toArray⟩))) trivial)) fun ac wd r=>?_
 refine aU (todo':=hd Tryz.f31 0) (E':=[(0,.ag [.z 8,.z node,.z peer,.z n,.z bit,.u inc,.d (.ro 1 (ae body))]),(1,.pt 0 0),(2,.d (.v (.slice none 0 0))),(6,.pt 0 0),(7,.z 8),(8,.d (.v (.int .u8 ((((bz 8).toNat:Nat):Int))))),(3,.sl 1 (1+(1))),(10,.pt 0 0),(11,.z 8),(12,.d (.v (.string ⟨([110]).toArray⟩))),(4,.d (.v (.string ⟨([110]).toArray⟩))),(5,.z 1),(13,.z 0),(14,.d (.v (.string ⟨([110]).toArray⟩))),(15,.z 1),(16,.d (.v (.bool true))),(19,.d (.v (.string ⟨([110]).toArray⟩))),(20,.z 0),(21,.d (.v (.int .u8 110))),(23,.d (.v (.bool true))),(22,.d (.v (.bool true))),(25,.pt 0 1),(26,.z node),(27,.d (.v (.int .u8 ((((bz (node)).toNat:Nat):Int))))),(28,.sl 2 (1)),(29,.sl 1 (1+(1))),(17,.z 0),(18,.z 1)]) (M':=[.bx 42 [.z 8,.z node,.z peer,.z n,.z bit,.u inc,.d (.ro 1 (ae body))],.rw 5 1 ([[.v (.int .u8 ((((bz 8).toNat:Nat):Int)))]]++[[.v (.int .u8 ((((bz (node)).toNat:Nat):Int)))]]),.dead]) tk mo hK [(4,[(2,.z (1))]),(5,[(1,.z (1))]),(6,[(2,.n 0)]),(8,[(3,.z ((((bz (node)).toNat:Nat):Int)))])] 2000 [0,1,2] [0,1,2,6,7,8,3,10,11,12,4,5,13,14,15,16,19,20,21,23,22,25,26,27,28,29,17,18] r (by kernel_rfl) (U ((by first | rfl | simp [ae]):((([110]:List UInt8).length:Nat):Int)=1) (U (rfl:(0:Int)=((0:Nat):Int)) (U ((bQ _):IntKind.u8.wrap (node)=(((bz (node)).toNat:Nat):Int)) (U ((by first | rfl | (simp [ae,aH];done) | (simp [ae];omega)):(1)=([[.v (.int .u8 ((((bz 8).toNat:Nat):Int)))]]:List (List DV)).length) (U ((by first | rfl | (simp [ae,aH];done) | (simp [ae];omega)):(1)=([[.v (.int .u8 ((((bz (node)).toNat:Nat):Int)))]]:List (List DV)).length) (U ((by have:=aH hi;first | omega | (simp [ae];done) | (simp [ae];omega)):(2*((1)+(1))+192)*1≤281474976710656) (U ((by have:=aH hi;first | omega | (simp [ae];done) | (simp [ae];omega)):(1)+(1)<4611686018427387904) (U ((by simp [aD,AV.one,bf,ae,ah,ints,steps,strs]):aD ([[.v (.int .u8 ((((bz (node)).toNat:Nat):Int)))]])) (U ((wi (by omega)):IntKind.i64.wrap ((0:Int)+1)=1) trivial))))))))) fun ac wd r=>?_
 rw [show (DV.em 5 1 (ae (bd ⟨8,node,peer,n,bit,inc,body⟩)):DV)=.em 5 1 ([[.v (.int .u8 ((((bz 8).toNat:Nat):Int)))]]++[[.v (.int .u8 ((((bz (node)).toNat:Nat):Int)))]]) from (by simp [bd,fI,af,eV,ae])]
 exact aK tk mo hK rfl [(4,[(2,.z (1))])] 2000 r (by kernel_rfl) (U ((by first | rfl | simp [ae]):((([110]:List UInt8).length:Nat):Int)=1) (U ((by first | rfl | (simp [ae,aH];done) | (simp [ae];omega)):(1+(1))=([[.v (.int .u8 ((((bz 8).toNat:Nat):Int)))]]++[[.v (.int .u8 ((((bz (node)).toNat:Nat):Int)))]]:List (List DV)).length) trivial))
set_option maxRecDepth 100000 in
theorem Kh (node peer n bit:Int) (inc:Nat) (body:List UInt8) (hb:body.length≤255) (hi:inc<18446744073709551616) (h0:0≤bit) (h1:bit≤65535):al Tryz.prog 31 [.ag [.z 9,.z node,.z peer,.z n,.z bit,.u inc,.d (.ro 1 (ae body))]] (DV.em 5 1 (ae (bd ⟨9,node,peer,n,bit,inc,body⟩))):=by
 refine al.intro (by kernel_rfl) rfl rfl 80 rfl rfl fun w0 K ac hK r=>?_
 refine aU (todo':=hd Tryz.f31 0) (E':=[(0,.ag [.z 9,.z node,.z peer,.z n,.z bit,.u inc,.d (.ro 1 (ae body))]),(1,.pt 0 0),(2,.d (.v (.slice none 0 0))),(6,.pt 0 0),(7,.z 9),(8,.d (.v (.int .u8 ((((bz 9).toNat:Nat):Int))))),(9,.sl 1 (1)),(3,.sl 1 (1)),(10,.pt 0 0),(11,.z 9),(12,.d (.v (.string ⟨([110,99]).toArray⟩))),(4,.d (.v (.string ⟨([110,99]).toArray⟩))),(5,.z 0)]) (M':=[.bx 42 [.z 9,.z node,.z peer,.z n,.z bit,.u inc,.d (.ro 1 (ae body))],.rw 5 1 ([[.v (.int .u8 ((((bz 9).toNat:Nat):Int)))]])]) tk mo hK [(1,[(2,.z ((((bz 9).toNat:Nat):Int)))]),(2,[(2,.au (.v (.string ⟨([110,99]).toArray⟩)))])] 2000 [0,1] [0,1,2,6,7,8,9,3,10,11,12,4,5] r (by kernel_rfl) (U ((bQ _):IntKind.u8.wrap (9)=(((bz 9).toNat:Nat):Int)) (U ((df 9):al Tryz.prog 59 [.z 9] (.v (.string ⟨([110,99]).toArray⟩))) trivial)) fun ac wd r=>?_
 refine aU (todo':=hd Tryz.f31 0) (E':=[(0,.ag [.z 9,.z node,.z peer,.z n,.z bit,.u inc,.d (.ro 1 (ae body))]),(1,.pt 0 0),(2,.d (.v (.slice none 0 0))),(6,.pt 0 0),(7,.z 9),(8,.d (.v (.int .u8 ((((bz 9).toNat:Nat):Int))))),(3,.sl 1 (1+(1))),(10,.pt 0 0),(11,.z 9),(12,.d (.v (.string ⟨([110,99]).toArray⟩))),(4,.d (.v (.string ⟨([110,99]).toArray⟩))),(5,.z 1),(13,.z 0),(14,.d (.v (.string ⟨([110,99]).toArray⟩))),(15,.z 2),(16,.d (.v (.bool true))),(19,.d (.v (.string ⟨([110,99]).toArray⟩))),(20,.z 0),(21,.d (.v (.int .u8 110))),(23,.d (.v (.bool true))),(22,.d (.v (.bool true))),(25,.pt 0 1),(26,.z node),(27,.d (.v (.int .u8 ((((bz (node)).toNat:Nat):Int))))),(28,.sl 2 (1)),(29,.sl 1 (1+(1))),(17,.z 0),(18,.z 1)]) (M':=[.bx 42 [.z 9,.z node,.z peer,.z n,.z bit,.u inc,.d (.ro 1 (ae body))],.rw 5 1 ([[.v (.int .u8 ((((bz 9).toNat:Nat):Int)))]]++[[.v (.int .u8 ((((bz (node)).toNat:Nat):Int)))]]),.dead]) tk mo hK [(4,[(2,.z (2))]),(5,[(1,.z (1))]),(6,[(2,.n 0)]),(8,[(3,.z ((((bz (node)).toNat:Nat):Int)))])] 2000 [0,1,2] [0,1,2,6,7,8,3,10,11,12,4,5,13,14,15,16,19,20,21,23,22,25,26,27,28,29,17,18] r (by kernel_rfl) (U ((by first | rfl | simp [ae]):((([110,99]:List UInt8).length:Nat):Int)=2) (U (rfl:(0:Int)=((0:Nat):Int)) (U ((bQ _):IntKind.u8.wrap (node)=(((bz (node)).toNat:Nat):Int)) (U ((by first | rfl | (simp [ae,aH];done) | (simp [ae];omega)):(1)=([[.v (.int .u8 ((((bz 9).toNat:Nat):Int)))]]:List (List DV)).length) (U ((by first | rfl | (simp [ae,aH];done) | (simp [ae];omega)):(1)=([[.v (.int .u8 ((((bz (node)).toNat:Nat):Int)))]]:List (List DV)).length) (U ((by have:=aH hi;first | omega | (simp [ae];done) | (simp [ae];omega)):(2*((1)+(1))+192)*1≤281474976710656) (U ((by have:=aH hi;first | omega | (simp [ae];done) | (simp [ae];omega)):(1)+(1)<4611686018427387904) (U ((by simp [aD,AV.one,bf,ae,ah,ints,steps,strs]):aD ([[.v (.int .u8 ((((bz (node)).toNat:Nat):Int)))]])) (U ((wi (by omega)):IntKind.i64.wrap ((0:Int)+1)=1) trivial))))))))) fun ac wd r=>?_
 refine aU (todo':=hd Tryz.f31 0) (E':=[(0,.ag [.z 9,.z node,.z peer,.z n,.z bit,.u inc,.d (.ro 1 (ae body))]),(1,.pt 0 0),(2,.d (.v (.slice none 0 0))),(6,.pt 0 0),(7,.z 9),(8,.d (.v (.int .u8 ((((bz 9).toNat:Nat):Int))))),(3,.sl 1 (1+(1)+((ae (cM inc)).length))),(10,.pt 0 0),(11,.z 9),(12,.d (.v (.string ⟨([110,99]).toArray⟩))),(4,.d (.v (.string ⟨([110,99]).toArray⟩))),(5,.z 2),(13,.z 1),(14,.d (.v (.string ⟨([110,99]).toArray⟩))),(15,.z 2),(16,.d (.v (.bool true))),(19,.d (.v (.string ⟨([110,99]).toArray⟩))),(20,.z 1),(21,.d (.v (.int .u8 99))),(23,.d (.v (.bool false))),(22,.d (.v (.bool false))),(25,.pt 0 1),(26,.z node),(27,.d (.v (.int .u8 ((((bz (node)).toNat:Nat):Int))))),(28,.sl 2 (1)),(17,.z 1),(18,.z 2),(31,.d (.v (.bool false))),(30,.d (.v (.bool false))),(39,.d (.v (.bool false))),(38,.d (.v (.bool false))),(47,.d (.v (.bool false))),(46,.d (.v (.bool false))),(60,.d (.v (.bool true))),(59,.d (.v (.bool true))),(62,.pt 0 5),(63,.u inc),(64,.sl 3 ((ae (cM inc)).length)),(65,.sl 1 (1+(1)+((ae (cM inc)).length)))]) (M':=[.bx 42 [.z 9,.z node,.z peer,.z n,.z bit,.u inc,.d (.ro 1 (ae body))],.rw 5 1 ([[.v (.int .u8 ((((bz 9).toNat:Nat):Int)))]]++[[.v (.int .u8 ((((bz (node)).toNat:Nat):Int)))]]++(ae (cM inc))),.dead,.dead]) tk mo hK [(4,[(2,.z (2))]),(5,[(1,.z (2))]),(6,[(2,.n 1)]),(16,[(3,.au (.em 5 1 (ae (cM inc))))])] 2000 [0,1,2,3] [0,1,2,6,7,8,3,10,11,12,4,5,13,14,15,16,19,20,21,23,22,25,26,27,28,17,18,31,30,39,38,47,46,60,59,62,63,64,65] r (by kernel_rfl) (U ((by first | rfl | simp [ae]):((([110,99]:List UInt8).length:Nat):Int)=2) (U (rfl:(1:Int)=((1:Nat):Int)) (U (Hr inc hi) (U ((by first | rfl | (simp [ae,aH];done) | (simp [ae];omega)):(1+(1))=([[.v (.int .u8 ((((bz 9).toNat:Nat):Int)))]]++[[.v (.int .u8 ((((bz (node)).toNat:Nat):Int)))]]:List (List DV)).length) (U (ft ((ae (cM inc)).length)) (U ((by have:=aH hi;first | omega | (simp [ae];done) | (simp [ae];omega)):(2*((1+(1))+((ae (cM inc)).length))+192)*1≤281474976710656) (U ((by have:=aH hi;first | omega | (simp [ae];done) | (simp [ae];omega)):(1+(1))+((ae (cM inc)).length)<4611686018427387904) (U ((by simp [aD,AV.one,bf,ae,ah,ints,steps,strs]):aD (ae (cM inc))) (U ((wi (by omega)):IntKind.i64.wrap ((1:Int)+1)=2) trivial))))))))) fun ac wd r=>?_
 rw [show (DV.em 5 1 (ae (bd ⟨9,node,peer,n,bit,inc,body⟩)):DV)=.em 5 1 ([[.v (.int .u8 ((((bz 9).toNat:Nat):Int)))]]++[[.v (.int .u8 ((((bz (node)).toNat:Nat):Int)))]]++(ae (cM inc))) from (by simp [bd,fI,af,eV,ae])]
 exact aK tk mo hK rfl [(4,[(2,.z (2))])] 2000 r (by kernel_rfl) (U ((by first | rfl | simp [ae]):((([110,99]:List UInt8).length:Nat):Int)=2) (U ((by first | rfl | (simp [ae,aH];done) | (simp [ae];omega)):(1+(1)+((ae (cM inc)).length))=([[.v (.int .u8 ((((bz 9).toNat:Nat):Int)))]]++[[.v (.int .u8 ((((bz (node)).toNat:Nat):Int)))]]++(ae (cM inc)):List (List DV)).length) trivial))
set_option maxRecDepth 100000 in
theorem IQ (node peer n bit:Int) (inc:Nat) (body:List UInt8) (hb:body.length≤255) (hi:inc<18446744073709551616) (h0:0≤bit) (h1:bit≤65535):al Tryz.prog 31 [.ag [.z 10,.z node,.z peer,.z n,.z bit,.u inc,.d (.ro 1 (ae body))]] (DV.em 5 1 (ae (bd ⟨10,node,peer,n,bit,inc,body⟩))):=by
 refine al.intro (by kernel_rfl) rfl rfl 80 rfl rfl fun w0 K ac hK r=>?_
 refine aU (todo':=hd Tryz.f31 0) (E':=[(0,.ag [.z 10,.z node,.z peer,.z n,.z bit,.u inc,.d (.ro 1 (ae body))]),(1,.pt 0 0),(2,.d (.v (.slice none 0 0))),(6,.pt 0 0),(7,.z 10),(8,.d (.v (.int .u8 ((((bz 10).toNat:Nat):Int))))),(9,.sl 1 (1)),(3,.sl 1 (1)),(10,.pt 0 0),(11,.z 10),(12,.d (.v (.string ⟨([110,116]).toArray⟩))),(4,.d (.v (.string ⟨([110,116]).toArray⟩))),(5,.z 0)]) (M':=[.bx 42 [.z 10,.z node,.z peer,.z n,.z bit,.u inc,.d (.ro 1 (ae body))],.rw 5 1 ([[.v (.int .u8 ((((bz 10).toNat:Nat):Int)))]])]) tk mo hK [(1,[(2,.z ((((bz 10).toNat:Nat):Int)))]),(2,[(2,.au (.v (.string ⟨([110,116]).toArray⟩)))])] 2000 [0,1] [0,1,2,6,7,8,9,3,10,11,12,4,5] r (by kernel_rfl) (U ((bQ _):IntKind.u8.wrap (10)=(((bz 10).toNat:Nat):Int)) (U ((df 10):al Tryz.prog 59 [.z 10] (.v (.string ⟨([110,116]).toArray⟩))) trivial)) fun ac wd r=>?_
 refine aU (todo':=hd Tryz.f31 0) (E':=[(0,.ag [.z 10,.z node,.z peer,.z n,.z bit,.u inc,.d (.ro 1 (ae body))]),(1,.pt 0 0),(2,.d (.v (.slice none 0 0))),(6,.pt 0 0),(7,.z 10),(8,.d (.v (.int .u8 ((((bz 10).toNat:Nat):Int))))),(3,.sl 1 (1+(1))),(10,.pt 0 0),(11,.z 10),(12,.d (.v (.string ⟨([110,116]).toArray⟩))),(4,.d (.v (.string ⟨([110,116]).toArray⟩))),(5,.z 1),(13,.z 0),(14,.d (.v (.string ⟨([110,116]).toArray⟩))),(15,.z 2),(16,.d (.v (.bool true))),(19,.d (.v (.string ⟨([110,116]).toArray⟩))),(20,.z 0),(21,.d (.v (.int .u8 110))),(23,.d (.v (.bool true))),(22,.d (.v (.bool true))),(25,.pt 0 1),(26,.z node),(27,.d (.v (.int .u8 ((((bz (node)).toNat:Nat):Int))))),(28,.sl 2 (1)),(29,.sl 1 (1+(1))),(17,.z 0),(18,.z 1)]) (M':=[.bx 42 [.z 10,.z node,.z peer,.z n,.z bit,.u inc,.d (.ro 1 (ae body))],.rw 5 1 ([[.v (.int .u8 ((((bz 10).toNat:Nat):Int)))]]++[[.v (.int .u8 ((((bz (node)).toNat:Nat):Int)))]]),.dead]) tk mo hK [(4,[(2,.z (2))]),(5,[(1,.z (1))]),(6,[(2,.n 0)]),(8,[(3,.z ((((bz (node)).toNat:Nat):Int)))])] 2000 [0,1,2] [0,1,2,6,7,8,3,10,11,12,4,5,13,14,15,16,19,20,21,23,22,25,26,27,28,29,17,18] r (by kernel_rfl) (U ((by first | rfl | simp [ae]):((([110,116]:List UInt8).length:Nat):Int)=2) (U (rfl:(0:Int)=((0:Nat):Int)) (U ((bQ _):IntKind.u8.wrap (node)=(((bz (node)).toNat:Nat):Int)) (U ((by first | rfl | (simp [ae,aH];done) | (simp [ae];omega)):(1)=([[.v (.int .u8 ((((bz 10).toNat:Nat):Int)))]]:List (List DV)).length) (U ((by first | rfl | (simp [ae,aH];done) | (simp [ae];omega)):(1)=([[.v (.int .u8 ((((bz (node)).toNat:Nat):Int)))]]:List (List DV)).length) (U ((by have:=aH hi;first | omega | (simp [ae];done) | (simp [ae];omega)):(2*((1)+(1))+192)*1≤281474976710656) (U ((by have:=aH hi;first | omega | (simp [ae];done) | (simp [ae];omega)):(1)+(1)<4611686018427387904) (U ((by simp [aD,AV.one,bf,ae,ah,ints,steps,strs]):aD ([[.v (.int .u8 ((((bz (node)).toNat:Nat):Int)))]])) (U ((wi (by omega)):IntKind.i64.wrap ((0:Int)+1)=1) trivial))))))))) fun ac wd r=>?_
 refine aU (todo':=hd Tryz.f31 0) (E':=[(0,.ag [.z 10,.z node,.z peer,.z n,.z bit,.u inc,.d (.ro 1 (ae body))]),(1,.pt 0 0),(2,.d (.v (.slice none 0 0))),(6,.pt 0 0),(7,.z 10),(8,.d (.v (.int .u8 ((((bz 10).toNat:Nat):Int))))),(3,.sl 1 (1+(1)+(1)+(ae body).length)),(10,.pt 0 0),(11,.z 10),(12,.d (.v (.string ⟨([110,116]).toArray⟩))),(4,.d (.v (.string ⟨([110,116]).toArray⟩))),(5,.z 2),(13,.z 1),(14,.d (.v (.string ⟨([110,116]).toArray⟩))),(15,.z 2),(16,.d (.v (.bool true))),(19,.d (.v (.string ⟨([110,116]).toArray⟩))),(20,.z 1),(21,.d (.v (.int .u8 116))),(23,.d (.v (.bool false))),(22,.d (.v (.bool false))),(25,.pt 0 1),(26,.z node),(27,.d (.v (.int .u8 ((((bz (node)).toNat:Nat):Int))))),(28,.sl 2 (1)),(17,.z 1),(18,.z 2),(31,.d (.v (.bool false))),(30,.d (.v (.bool false))),(39,.d (.v (.bool false))),(38,.d (.v (.bool false))),(47,.d (.v (.bool false))),(46,.d (.v (.bool false))),(60,.d (.v (.bool false))),(59,.d (.v (.bool false))),(67,.d (.v (.bool true))),(66,.d (.v (.bool true))),(69,.pt 0 6),(70,.d (.ro 1 (ae body))),(71,.n body.length),(72,.d (.v (.int .u8 ((((bz (((body.length:Nat):Int))).toNat:Nat):Int))))),(73,.sl 3 (1)),(76,.pt 0 6),(77,.d (.ro 1 (ae body))),(78,.sl 1 (1+(1)+(1)+(ae body).length))]) (M':=[.bx 42 [.z 10,.z node,.z peer,.z n,.z bit,.u inc,.d (.ro 1 (ae body))],.rw 5 1 ([[.v (.int .u8 ((((bz 10).toNat:Nat):Int)))]]++[[.v (.int .u8 ((((bz (node)).toNat:Nat):Int)))]]++[[.v (.int .u8 ((((bz (((body.length:Nat):Int))).toNat:Nat):Int)))]]++(ae body)),.dead,.dead]) tk mo hK [(4,[(2,.z (2))]),(5,[(1,.z (2))]),(6,[(2,.n 1)]),(18,[(3,.z (((body.length:Nat):Int))),(4,.z ((((bz (((body.length:Nat):Int))).toNat:Nat):Int)))])] 2000 [0,1,2,3] [0,1,2,6,7,8,3,10,11,12,4,5,13,14,15,16,19,20,21,23,22,25,26,27,28,17,18,31,30,39,38,47,46,60,59,67,66,69,70,71,72,73,76,77,78] r (by kernel_rfl) (U ((by first | rfl | simp [ae]):((([110,116]:List UInt8).length:Nat):Int)=2) (U (rfl:(1:Int)=((1:Nat):Int)) (U ((by first | rfl | simp [ae]):(((ae body).length:Nat):Int)=((body.length:Nat):Int)) (U ((bQ _):IntKind.u8.wrap (((body.length:Nat):Int))=(((bz (((body.length:Nat):Int))).toNat:Nat):Int)) (U ((by first | rfl | (simp [ae,aH];done) | (simp [ae];omega)):(1+(1))=([[.v (.int .u8 ((((bz 10).toNat:Nat):Int)))]]++[[.v (.int .u8 ((((bz (node)).toNat:Nat):Int)))]]:List (List DV)).length) (U ((by first | rfl | (simp [ae,aH];done) | (simp [ae];omega)):(1)=([[.v (.int .u8 ((((bz (((body.length:Nat):Int))).toNat:Nat):Int)))]]:List (List DV)).length) (U ((by have:=aH hi;first | omega | (simp [ae];done) | (simp [ae];omega)):(2*((1+(1))+(1))+192)*1≤281474976710656) (U ((by have:=aH hi;first | omega | (simp [ae];done) | (simp [ae];omega)):(1+(1))+(1)<4611686018427387904) (U ((by simp [aD,AV.one,bf,ae,ah,ints,steps,strs]):aD ([[.v (.int .u8 ((((bz (((body.length:Nat):Int))).toNat:Nat):Int)))]])) (U ((by first | rfl | (simp [ae,aH];done) | (simp [ae];omega)):(1+(1)+(1))=([[.v (.int .u8 ((((bz 10).toNat:Nat):Int)))]]++[[.v (.int .u8 ((((bz (node)).toNat:Nat):Int)))]]++[[.v (.int .u8 ((((bz (((body.length:Nat):Int))).toNat:Nat):Int)))]]:List (List DV)).length) (U ((by have:=aH hi;first | omega | (simp [ae];done) | (simp [ae];omega)):(2*((1+(1)+(1))+(ae body).length)+192)*1≤281474976710656) (U ((by have:=aH hi;first | omega | (simp [ae];done) | (simp [ae];omega)):(1+(1)+(1))+(ae body).length<4611686018427387904) (U ((by simp [aD,AV.one,bf,ae,ah,ints,steps,strs]):aD (ae body)) (U ((wi (by omega)):IntKind.i64.wrap ((1:Int)+1)=2) trivial)))))))))))))) fun ac wd r=>?_
 rw [show (DV.em 5 1 (ae (bd ⟨10,node,peer,n,bit,inc,body⟩)):DV)=.em 5 1 ([[.v (.int .u8 ((((bz 10).toNat:Nat):Int)))]]++[[.v (.int .u8 ((((bz (node)).toNat:Nat):Int)))]]++[[.v (.int .u8 ((((bz (((body.length:Nat):Int))).toNat:Nat):Int)))]]++(ae body)) from (by simp [bd,fI,af,eV,ae])]
 exact aK tk mo hK rfl [(4,[(2,.z (2))])] 2000 r (by kernel_rfl) (U ((by first | rfl | simp [ae]):((([110,116]:List UInt8).length:Nat):Int)=2) (U ((by first | rfl | (simp [ae,aH];done) | (simp [ae];omega)):(1+(1)+(1)+(ae body).length)=([[.v (.int .u8 ((((bz 10).toNat:Nat):Int)))]]++[[.v (.int .u8 ((((bz (node)).toNat:Nat):Int)))]]++[[.v (.int .u8 ((((bz (((body.length:Nat):Int))).toNat:Nat):Int)))]]++(ae body):List (List DV)).length) trivial))
set_option maxRecDepth 100000 in
theorem IS (node peer n bit:Int) (inc:Nat) (body:List UInt8) (hb:body.length≤255) (hi:inc<18446744073709551616) (h0:0≤bit) (h1:bit≤65535):al Tryz.prog 31 [.ag [.z 11,.z node,.z peer,.z n,.z bit,.u inc,.d (.ro 1 (ae body))]] (DV.em 5 1 (ae (bd ⟨11,node,peer,n,bit,inc,body⟩))):=by
 refine al.intro (by kernel_rfl) rfl rfl 80 rfl rfl fun w0 K ac hK r=>?_
 refine aU (todo':=hd Tryz.f31 0) (E':=[(0,.ag [.z 11,.z node,.z peer,.z n,.z bit,.u inc,.d (.ro 1 (ae body))]),(1,.pt 0 0),(2,.d (.v (.slice none 0 0))),(6,.pt 0 0),(7,.z 11),(8,.d (.v (.int .u8 ((((bz 11).toNat:Nat):Int))))),(9,.sl 1 (1)),(3,.sl 1 (1)),(10,.pt 0 0),(11,.z 11),(12,.d (.v (.string ⟨([110]).toArray⟩))),(4,.d (.v (.string ⟨([110]).toArray⟩))),(5,.z 0)]) (M':=[.bx 42 [.z 11,.z node,.z peer,.z n,.z bit,.u inc,.d (.ro 1 (ae body))],.rw 5 1 ([[.v (.int .u8 ((((bz 11).toNat:Nat):Int)))]])]) tk mo hK [(1,[(2,.z ((((bz 11).toNat:Nat):Int)))]),(2,[(2,.au (.v (.string ⟨([110]).toArray⟩)))])] 2000 [0,1] [0,1,2,6,7,8,9,3,10,11,12,4,5] r (by kernel_rfl) (U ((bQ _):IntKind.u8.wrap (11)=(((bz 11).toNat:Nat):Int)) (U ((df 11):al Tryz.prog 59 [.z 11] (.v (.string ⟨([110]).toArray⟩))) trivial)) fun ac wd r=>?_
 refine aU (todo':=hd Tryz.f31 0) (E':=[(0,.ag [.z 11,.z node,.z peer,.z n,.z bit,.u inc,.d (.ro 1 (ae body))]),(1,.pt 0 0),(2,.d (.v (.slice none 0 0))),(6,.pt 0 0),(7,.z 11),(8,.d (.v (.int .u8 ((((bz 11).toNat:Nat):Int))))),(3,.sl 1 (1+(1))),(10,.pt 0 0),(11,.z 11),(12,.d (.v (.string ⟨([110]).toArray⟩))),(4,.d (.v (.string ⟨([110]).toArray⟩))),(5,.z 1),(13,.z 0),(14,.d (.v (.string ⟨([110]).toArray⟩))),(15,.z 1),(16,.d (.v (.bool true))),(19,.d (.v (.string ⟨([110]).toArray⟩))),(20,.z 0),(21,.d (.v (.int .u8 110))),(23,.d (.v (.bool true))),(22,.d (.v (.bool true))),(25,.pt 0 1),(26,.z node),(27,.d (.v (.int .u8 ((((bz (node)).toNat:Nat):Int))))),(28,.sl 2 (1)),(29,.sl 1 (1+(1))),(17,.z 0),(18,.z 1)]) (M':=[.bx 42 [.z 11,.z node,.z peer,.z n,.z bit,.u inc,.d (.ro 1 (ae body))],.rw 5 1 ([[.v (.int .u8 ((((bz 11).toNat:Nat):Int)))]]++[[.v (.int .u8 ((((bz (node)).toNat:Nat):Int)))]]),.dead]) tk mo hK [(4,[(2,.z (1))]),(5,[(1,.z (1))]),(6,[(2,.n 0)]),(8,[(3,.z ((((bz (node)).toNat:Nat):Int)))])] 2000 [0,1,2] [0,1,2,6,7,8,3,10,11,12,4,5,13,14,15,16,19,20,21,23,22,25,26,27,28,29,17,18] r (by kernel_rfl) (U ((by first | rfl | simp [ae]):((([110]:List UInt8).length:Nat):Int)=1) (U (rfl:(0:Int)=((0:Nat):Int)) (U ((bQ _):IntKind.u8.wrap (node)=(((bz (node)).toNat:Nat):Int)) (U ((by first | rfl | (simp [ae,aH];done) | (simp [ae];omega)):(1)=([[.v (.int .u8 ((((bz 11).toNat:Nat):Int)))]]:List (List DV)).length) (U ((by first | rfl | (simp [ae,aH];done) | (simp [ae];omega)):(1)=([[.v (.int .u8 ((((bz (node)).toNat:Nat):Int)))]]:List (List DV)).length) (U ((by have:=aH hi;first | omega | (simp [ae];done) | (simp [ae];omega)):(2*((1)+(1))+192)*1≤281474976710656) (U ((by have:=aH hi;first | omega | (simp [ae];done) | (simp [ae];omega)):(1)+(1)<4611686018427387904) (U ((by simp [aD,AV.one,bf,ae,ah,ints,steps,strs]):aD ([[.v (.int .u8 ((((bz (node)).toNat:Nat):Int)))]])) (U ((wi (by omega)):IntKind.i64.wrap ((0:Int)+1)=1) trivial))))))))) fun ac wd r=>?_
 rw [show (DV.em 5 1 (ae (bd ⟨11,node,peer,n,bit,inc,body⟩)):DV)=.em 5 1 ([[.v (.int .u8 ((((bz 11).toNat:Nat):Int)))]]++[[.v (.int .u8 ((((bz (node)).toNat:Nat):Int)))]]) from (by simp [bd,fI,af,eV,ae])]
 exact aK tk mo hK rfl [(4,[(2,.z (1))])] 2000 r (by kernel_rfl) (U ((by first | rfl | simp [ae]):((([110]:List UInt8).length:Nat):Int)=1) (U ((by first | rfl | (simp [ae,aH];done) | (simp [ae];omega)):(1+(1))=([[.v (.int .u8 ((((bz 11).toNat:Nat):Int)))]]++[[.v (.int .u8 ((((bz (node)).toNat:Nat):Int)))]]:List (List DV)).length) trivial))
set_option maxRecDepth 100000 in
theorem IT (node peer n bit:Int) (inc:Nat) (body:List UInt8) (hb:body.length≤255) (hi:inc<18446744073709551616) (h0:0≤bit) (h1:bit≤65535):al Tryz.prog 31 [.ag [.z 12,.z node,.z peer,.z n,.z bit,.u inc,.d (.ro 1 (ae body))]] (DV.em 5 1 (ae (bd ⟨12,node,peer,n,bit,inc,body⟩))):=by
 refine al.intro (by kernel_rfl) rfl rfl 80 rfl rfl fun w0 K ac hK r=>?_
 refine aU (todo':=hd Tryz.f31 0) (E':=[(0,.ag [.z 12,.z node,.z peer,.z n,.z bit,.u inc,.d (.ro 1 (ae body))]),(1,.pt 0 0),(2,.d (.v (.slice none 0 0))),(6,.pt 0 0),(7,.z 12),(8,.d (.v (.int .u8 ((((bz 12).toNat:Nat):Int))))),(9,.sl 1 (1)),(3,.sl 1 (1)),(10,.pt 0 0),(11,.z 12),(12,.d (.v (.string ⟨([110]).toArray⟩))),(4,.d (.v (.string ⟨([110]).toArray⟩))),(5,.z 0)]) (M':=[.bx 42 [.z 12,.z node,.z peer,.z n,.z bit,.u inc,.d (.ro 1 (ae body))],.rw 5 1 ([[.v (.int .u8 ((((bz 12).toNat:Nat):Int)))]])]) tk mo hK [(1,[(2,.z ((((bz 12).toNat:Nat):Int)))]),(2,[(2,.au (.v (.string ⟨([110]).toArray⟩)))])] 2000 [0,1] [0,1,2,6,7,8,9,3,10,11,12,4,5] r (by kernel_rfl) (U ((bQ _):IntKind.u8.wrap (12)=(((bz 12).toNat:Nat):Int)) (U ((df 12):al Tryz.prog 59 [.z 12] (.v (.string ⟨([110]).toArray⟩))) trivial)) fun ac wd r=>?_
 refine aU (todo':=hd Tryz.f31 0) (E':=[(0,.ag [.z 12,.z node,.z peer,.z n,.z bit,.u inc,.d (.ro 1 (ae body))]),(1,.pt 0 0),(2,.d (.v (.slice none 0 0))),(6,.pt 0 0),(7,.z 12),(8,.d (.v (.int .u8 ((((bz 12).toNat:Nat):Int))))),(3,.sl 1 (1+(1))),(10,.pt 0 0),(11,.z 12),(12,.d (.v (.string ⟨([110]).toArray⟩))),(4,.d (.v (.string ⟨([110]).toArray⟩))),(5,.z 1),(13,.z 0),(14,.d (.v (.string ⟨([110]).toArray⟩))),(15,.z 1),(16,.d (.v (.bool true))),(19,.d (.v (.string ⟨([110]).toArray⟩))),(20,.z 0),(21,.d (.v (.int .u8 110))),(23,.d (.v (.bool true))),(22,.d (.v (.bool true))),(25,.pt 0 1),(26,.z node),(27,.d (.v (.int .u8 ((((bz (node)).toNat:Nat):Int))))),(28,.sl 2 (1)),(29,.sl 1 (1+(1))),(17,.z 0),(18,.z 1)]) (M':=[.bx 42 [.z 12,.z node,.z peer,.z n,.z bit,.u inc,.d (.ro 1 (ae body))],.rw 5 1 ([[.v (.int .u8 ((((bz 12).toNat:Nat):Int)))]]++[[.v (.int .u8 ((((bz (node)).toNat:Nat):Int)))]]),.dead]) tk mo hK [(4,[(2,.z (1))]),(5,[(1,.z (1))]),(6,[(2,.n 0)]),(8,[(3,.z ((((bz (node)).toNat:Nat):Int)))])] 2000 [0,1,2] [0,1,2,6,7,8,3,10,11,12,4,5,13,14,15,16,19,20,21,23,22,25,26,27,28,29,17,18] r (by kernel_rfl) (U ((by first | rfl | simp [ae]):((([110]:List UInt8).length:Nat):Int)=1) (U (rfl:(0:Int)=((0:Nat):Int)) (U ((bQ _):IntKind.u8.wrap (node)=(((bz (node)).toNat:Nat):Int)) (U ((by first | rfl | (simp [ae,aH];done) | (simp [ae];omega)):(1)=([[.v (.int .u8 ((((bz 12).toNat:Nat):Int)))]]:List (List DV)).length) (U ((by first | rfl | (simp [ae,aH];done) | (simp [ae];omega)):(1)=([[.v (.int .u8 ((((bz (node)).toNat:Nat):Int)))]]:List (List DV)).length) (U ((by have:=aH hi;first | omega | (simp [ae];done) | (simp [ae];omega)):(2*((1)+(1))+192)*1≤281474976710656) (U ((by have:=aH hi;first | omega | (simp [ae];done) | (simp [ae];omega)):(1)+(1)<4611686018427387904) (U ((by simp [aD,AV.one,bf,ae,ah,ints,steps,strs]):aD ([[.v (.int .u8 ((((bz (node)).toNat:Nat):Int)))]])) (U ((wi (by omega)):IntKind.i64.wrap ((0:Int)+1)=1) trivial))))))))) fun ac wd r=>?_
 rw [show (DV.em 5 1 (ae (bd ⟨12,node,peer,n,bit,inc,body⟩)):DV)=.em 5 1 ([[.v (.int .u8 ((((bz 12).toNat:Nat):Int)))]]++[[.v (.int .u8 ((((bz (node)).toNat:Nat):Int)))]]) from (by simp [bd,fI,af,eV,ae])]
 exact aK tk mo hK rfl [(4,[(2,.z (1))])] 2000 r (by kernel_rfl) (U ((by first | rfl | simp [ae]):((([110]:List UInt8).length:Nat):Int)=1) (U ((by first | rfl | (simp [ae,aH];done) | (simp [ae];omega)):(1+(1))=([[.v (.int .u8 ((((bz 12).toNat:Nat):Int)))]]++[[.v (.int .u8 ((((bz (node)).toNat:Nat):Int)))]]:List (List DV)).length) trivial))
set_option maxRecDepth 100000 in
theorem IU (node peer n bit:Int) (inc:Nat) (body:List UInt8) (hb:body.length≤255) (hi:inc<18446744073709551616) (h0:0≤bit) (h1:bit≤65535):al Tryz.prog 31 [.ag [.z 13,.z node,.z peer,.z n,.z bit,.u inc,.d (.ro 1 (ae body))]] (DV.em 5 1 (ae (bd ⟨13,node,peer,n,bit,inc,body⟩))):=by
 refine al.intro (by kernel_rfl) rfl rfl 80 rfl rfl fun w0 K ac hK r=>?_
 refine aU (todo':=hd Tryz.f31 0) (E':=[(0,.ag [.z 13,.z node,.z peer,.z n,.z bit,.u inc,.d (.ro 1 (ae body))]),(1,.pt 0 0),(2,.d (.v (.slice none 0 0))),(6,.pt 0 0),(7,.z 13),(8,.d (.v (.int .u8 ((((bz 13).toNat:Nat):Int))))),(9,.sl 1 (1)),(3,.sl 1 (1)),(10,.pt 0 0),(11,.z 13),(12,.d (.v (.string ⟨([110]).toArray⟩))),(4,.d (.v (.string ⟨([110]).toArray⟩))),(5,.z 0)]) (M':=[.bx 42 [.z 13,.z node,.z peer,.z n,.z bit,.u inc,.d (.ro 1 (ae body))],.rw 5 1 ([[.v (.int .u8 ((((bz 13).toNat:Nat):Int)))]])]) tk mo hK [(1,[(2,.z ((((bz 13).toNat:Nat):Int)))]),(2,[(2,.au (.v (.string ⟨([110]).toArray⟩)))])] 2000 [0,1] [0,1,2,6,7,8,9,3,10,11,12,4,5] r (by kernel_rfl) (U ((bQ _):IntKind.u8.wrap (13)=(((bz 13).toNat:Nat):Int)) (U ((df 13):al Tryz.prog 59 [.z 13] (.v (.string ⟨([110]).toArray⟩))) trivial)) fun ac wd r=>?_
 refine aU (todo':=hd Tryz.f31 0) (E':=[(0,.ag [.z 13,.z node,.z peer,.z n,.z bit,.u inc,.d (.ro 1 (ae body))]),(1,.pt 0 0),(2,.d (.v (.slice none 0 0))),(6,.pt 0 0),(7,.z 13),(8,.d (.v (.int .u8 ((((bz 13).toNat:Nat):Int))))),(3,.sl 1 (1+(1))),(10,.pt 0 0),(11,.z 13),(12,.d (.v (.string ⟨([110]).toArray⟩))),(4,.d (.v (.string ⟨([110]).toArray⟩))),(5,.z 1),(13,.z 0),(14,.d (.v (.string ⟨([110]).toArray⟩))),(15,.z 1),(16,.d (.v (.bool true))),(19,.d (.v (.string ⟨([110]).toArray⟩))),(20,.z 0),(21,.d (.v (.int .u8 110))),(23,.d (.v (.bool true))),(22,.d (.v (.bool true))),(25,.pt 0 1),(26,.z node),(27,.d (.v (.int .u8 ((((bz (node)).toNat:Nat):Int))))),(28,.sl 2 (1)),(29,.sl 1 (1+(1))),(17,.z 0),(18,.z 1)]) (M':=[.bx 42 [.z 13,.z node,.z peer,.z n,.z bit,.u inc,.d (.ro 1 (ae body))],.rw 5 1 ([[.v (.int .u8 ((((bz 13).toNat:Nat):Int)))]]++[[.v (.int .u8 ((((bz (node)).toNat:Nat):Int)))]]),.dead]) tk mo hK [(4,[(2,.z (1))]),(5,[(1,.z (1))]),(6,[(2,.n 0)]),(8,[(3,.z ((((bz (node)).toNat:Nat):Int)))])] 2000 [0,1,2] [0,1,2,6,7,8,3,10,11,12,4,5,13,14,15,16,19,20,21,23,22,25,26,27,28,29,17,18] r (by kernel_rfl) (U ((by first | rfl | simp [ae]):((([110]:List UInt8).length:Nat):Int)=1) (U (rfl:(0:Int)=((0:Nat):Int)) (U ((bQ _):IntKind.u8.wrap (node)=(((bz (node)).toNat:Nat):Int)) (U ((by first | rfl | (simp [ae,aH];done) | (simp [ae];omega)):(1)=([[.v (.int .u8 ((((bz 13).toNat:Nat):Int)))]]:List (List DV)).length) (U ((by first | rfl | (simp [ae,aH];done) | (simp [ae];omega)):(1)=([[.v (.int .u8 ((((bz (node)).toNat:Nat):Int)))]]:List (List DV)).length) (U ((by have:=aH hi;first | omega | (simp [ae];done) | (simp [ae];omega)):(2*((1)+(1))+192)*1≤281474976710656) (U ((by have:=aH hi;first | omega | (simp [ae];done) | (simp [ae];omega)):(1)+(1)<4611686018427387904) (U ((by simp [aD,AV.one,bf,ae,ah,ints,steps,strs]):aD ([[.v (.int .u8 ((((bz (node)).toNat:Nat):Int)))]])) (U ((wi (by omega)):IntKind.i64.wrap ((0:Int)+1)=1) trivial))))))))) fun ac wd r=>?_
 rw [show (DV.em 5 1 (ae (bd ⟨13,node,peer,n,bit,inc,body⟩)):DV)=.em 5 1 ([[.v (.int .u8 ((((bz 13).toNat:Nat):Int)))]]++[[.v (.int .u8 ((((bz (node)).toNat:Nat):Int)))]]) from (by simp [bd,fI,af,eV,ae])]
 exact aK tk mo hK rfl [(4,[(2,.z (1))])] 2000 r (by kernel_rfl) (U ((by first | rfl | simp [ae]):((([110]:List UInt8).length:Nat):Int)=1) (U ((by first | rfl | (simp [ae,aH];done) | (simp [ae];omega)):(1+(1))=([[.v (.int .u8 ((((bz 13).toNat:Nat):Int)))]]++[[.v (.int .u8 ((((bz (node)).toNat:Nat):Int)))]]:List (List DV)).length) trivial))
end Go.Proofs.YtcnpikbbmbombaaGreatDoor
namespace Go.Proofs.YtcnpikbbmbombaaGreatDoor
open Go.RowKit
theorem FU (s:aL) (hb:s.body.length≤255) (hi:s.inc<18446744073709551616) (h0:0≤s.bit) (h1:s.bit≤65535) (k0:0≤s.kind) (k1:s.kind<14):
  al Tryz.prog 31 [.ag [.z s.kind,.z s.node,.z s.peer,.z s.n,.z s.bit,.u s.inc,.d (.ro 1 (ae s.body))]] (DV.em 5 1 (ae (bd s))):=by
 obtain ⟨kind,node,peer,n,bit,inc,body⟩:=s
 dsimp only at *
 obtain ⟨k,rfl⟩:=Int.eq_ofNat_of_zero_le k0
 exact kG (p:=fun k=>al Tryz.prog 31 [.ag [.z ((k:Nat):Int),.z node,.z peer,.z n,.z bit,.u inc,.d (.ro 1 (ae body))]] (DV.em 5 1 (ae (bd ⟨((k:Nat):Int),node,peer,n,bit,inc,body⟩))))
  (J2 node peer n bit inc body hb hi h0 h1) (J3 node peer n bit inc body hb hi h0 h1) (Ka node peer n bit inc body hb hi h0 h1) (Kb node peer n bit inc body hb hi h0 h1) (Kc node peer n bit inc body hb hi h0 h1) (Kd node peer n bit inc body hb hi h0 h1) (Ke node peer n bit inc body hb hi h0 h1) (Kf node peer n bit inc body hb hi h0 h1) (Kg node peer n bit inc body hb hi h0 h1) (Kh node peer n bit inc body hb hi h0 h1) (IQ node peer n bit inc body hb hi h0 h1) (IS node peer n bit inc body hb hi h0 h1) (IT node peer n bit inc body hb hi h0 h1) (IU node peer n bit inc body hb hi h0 h1) (by omega)
noncomputable def lL (c:bN) (l:List aL):DV:=bif decide (ch c l=0) then .tu [.em 5 1 (ae (dM c l)),.z 0] else .tu [.v (.slice none 0 0),.z (ch c l)]
section
variable {c:bN} {l:List aL}
theorem jd {z:Int} (h:ch c l=z) (hz:z≠0):lL c l=.tu [.v (.slice none 0 0),.z z]:=by unfold lL;rw [h,decide_eq_false hz];rfl
theorem qc (h:ch c l=0):lL c l=.tu [.em 5 1 (ae (dM c l)),.z 0]:=by unfold lL;rw [h];rfl
theorem uI {i:Nat} {s:aL} (h:l[i]?=some s):bV c++(l.take (i+1)).flatMap bd=bV c++(l.take i).flatMap bd++bd s:=by
 rw [List.take_add_one,h];simp
theorem ml {i:Nat} (hi:¬ (i:Int)<l.length):bV c++(l.take i).flatMap bd=dM c l:=by rw [List.take_of_length_le (by omega)];rfl
end
set_option maxRecDepth 100000 in
theorem BE (c:bN) (l:List aL) (hc:c.ah.length≤1048576) (hh:c.homes.length≤1048576) (hl:l.length≤1048576) (hr:∀ s ∈ l,s.Rd):al Tryz.prog 12 [.ag [.z c.az,.d (.ro 2 (ah c.ah)),.d (.ro 1 (ints c.homes))],.d (.ro 7 (steps l))] (lL c l):=by
 refine al.intro (by kernel_rfl) rfl rfl 36 rfl rfl fun w0 K ac hK r=>?_
 cases h0:(bU c) with
 | false=>
  rw [show (lL c l:DV)=.tu [.v (.slice none 0 0),.z 1] from (by first | exact jd (et (.inl (by assumption))) (by decide) | exact jd (et (.inr (jL bY (by assumption)))) (by decide) | (rw [ml (i:=i) (c:=c) (l:=l) (by assumption)] at *;exact jd (jG (by assumption) (aq.1.all (by assumption)) (by omega)) (by decide)) | (rw [ml (i:=i) (c:=c) (l:=l) (by assumption)] at *;exact qc (jc (by assumption) (aq.1.all (by assumption)) (by omega))))]
  exact aK tk mo hK rfl [(1,[(1,.au (.v (.bool false)))])] 2000 r (by kernel_rfl) (U ((by have k:=An c (by omega) (by omega);rw [h0] at k;exact k):al Tryz.prog 28 [.ag [.z c.az,.d (.ro 2 (ah c.ah)),.d (.ro 1 (ints c.homes))]] (.v (.bool false))) trivial)
 | true=>
  refine aU (todo':=hd Tryz.f12 0) (E':=[(2,.pt 0 0),(1,.d (.ro 7 (steps l))),(6,.sl 1 ((ae (bV c)).length)),(7,.z 0)]) (M':=[.bx 25 [.z c.az,.d (.ro 2 (ah c.ah)),.d (.ro 1 (ints c.homes))],.rw 5 1 (ae (bV c))]) tk mo hK [(1,[(1,.au (.v (.bool true)))]),(3,[(1,.au (.em 5 1 (ae (bV c))))])] 2000 [0,1] [2,1,6,7] r (by kernel_rfl) (U ((by have k:=An c (by omega) (by omega);rw [h0] at k;exact k):al Tryz.prog 28 [.ag [.z c.az,.d (.ro 2 (ah c.ah)),.d (.ro 1 (ints c.homes))]] (.v (.bool true))) (U (J1 c hc hh) trivial)) fun ac wd r=>?_
  refine aF.rounds (Φ:=fun (i:Nat) ac wd=>(kh l i∧i≤l.length∧(bV c++(l.take i).flatMap bd).length≤3145731+301*i)∧cN [] w0 K 36 [(2,.pt 0 0),(1,.d (.ro 7 (steps l))),(6,.sl 1 ((bV c++(l.take i).flatMap bd).length)),(7,.n i)] [.bx 25 [.z c.az,.d (.ro 2 (ah c.ah)),.d (.ro 1 (ints c.homes))],.rw 5 1 (ae (bV c++(l.take i).flatMap bd))] ac wd) (l.length) ?_ (Nat.zero_le _) ⟨⟨kh.none l,Nat.zero_le _,by rw [List.take_zero];simp only [List.flatMap_nil,List.append_nil];rw [uH];omega⟩,(r).cast (by first | rfl | simp [ae]) (by first | rfl | simp [ae])⟩
  clear r
  rintro i dw bH ac wd ⟨aq,r⟩
  have hlen:=aq.2.2
  have PA:=aq.2.1
  have aM:=((by first | rfl | simp [ae,steps]):(((steps l).length:Nat):Int)=((l.length:Nat):Int))
  cases h1:(decide ((((i:Nat):Int):Int)<((l.length:Nat):Int))) with
  | false=>
   have bP:=of_decide_eq_false h1
   cases h2:(decide ((65536:Int)<(((bV c++(l.take i).flatMap bd).length:Nat):Int))) with
   | false=>
    have c8:=of_decide_eq_false h2
    rw [show (lL c l:DV)=.tu [.em 5 1 (ae (bV c++(l.take i).flatMap bd)),.z 0] from (by first | exact jd (et (.inl (by assumption))) (by decide) | exact jd (et (.inr (jL bY (by assumption)))) (by decide) | (rw [ml (i:=i) (c:=c) (l:=l) (by assumption)] at *;exact jd (jG (by assumption) (aq.1.all (by assumption)) (by omega)) (by decide)) | (rw [ml (i:=i) (c:=c) (l:=l) (by assumption)] at *;exact qc (jc (by assumption) (aq.1.all (by assumption)) (by omega))))]
    exact aK tk mo hK rfl [(5,[(2,.z (((l.length:Nat):Int))),(3,.b false)]),(10,[(2,.b false)])] 2000 r (by kernel_rfl) (U aM (U h1 (U h2 (U ((by first | rfl | (simp [ae];done) | (simp [ae];omega)):((bV c++(l.take i).flatMap bd).length)=(ae (bV c++(l.take i).flatMap bd):List (List DV)).length) trivial))))
   | true=>
    have c8:=of_decide_eq_true h2
    rw [show (lL c l:DV)=.tu [.v (.slice none 0 0),.z 2] from (by first | exact jd (et (.inl (by assumption))) (by decide) | exact jd (et (.inr (jL bY (by assumption)))) (by decide) | (rw [ml (i:=i) (c:=c) (l:=l) (by assumption)] at *;exact jd (jG (by assumption) (aq.1.all (by assumption)) (by omega)) (by decide)) | (rw [ml (i:=i) (c:=c) (l:=l) (by assumption)] at *;exact qc (jc (by assumption) (aq.1.all (by assumption)) (by omega))))]
    exact aK tk mo hK rfl [(5,[(2,.z (((l.length:Nat):Int))),(3,.b false)]),(10,[(2,.b true)])] 2000 r (by kernel_rfl) (U aM (U h1 (U h2 trivial)))
  | true=>
   have bP:=of_decide_eq_true h1
   obtain ⟨ay,bY⟩:∃ x_,l[i]?=some x_:=⟨_,List.getElem?_eq_getElem (by omega)⟩
   have dD:=hr _ (List.mem_of_getElem? bY)
   have eH:=dD.inc
   have Oo:=dD.body
   cases h3:(hasB ay) with
   | false=>
    rw [show (lL c l:DV)=.tu [.v (.slice none 0 0),.z 1] from (by first | exact jd (et (.inl (by assumption))) (by decide) | exact jd (et (.inr (jL bY (by assumption)))) (by decide) | (rw [ml (i:=i) (c:=c) (l:=l) (by assumption)] at *;exact jd (jG (by assumption) (aq.1.all (by assumption)) (by omega)) (by decide)) | (rw [ml (i:=i) (c:=c) (l:=l) (by assumption)] at *;exact qc (jc (by assumption) (aq.1.all (by assumption)) (by omega))))]
    exact aK tk mo hK rfl [(5,[(2,.z (((l.length:Nat):Int))),(3,.b true)]),(7,[(2,.ix (i) [.z ay.kind,.z ay.node,.z ay.peer,.z ay.n,.z ay.bit,.u ay.inc,.ro 1 (ae ay.body)]),(4,.au (.v (.bool false)))])] 2000 r (by kernel_rfl) (U aM (U h1 (U (aC ((i:Nat):Int)) (U (jb bY) (U ((by have k:=Ap ay (by omega);rw [h3] at k;exact k):al Tryz.prog 30 [.ag [.z ay.kind,.z ay.node,.z ay.peer,.z ay.n,.z ay.bit,.u ay.inc,.d (.ro 1 (ae ay.body))]] (.v (.bool false))) trivial)))))
   | true=>
    have yN:=sQ ‹hasB ay=true›
    have dO:=As (s:=ay) (by omega) (by omega)
    exact aU (todo':=hd Tryz.f12 0) (E':=[(2,.pt 0 0),(1,.d (.ro 7 (steps l))),(6,.sl 1 ((bV c++(l.take i).flatMap bd).length+((ae (bd ay)).length))),(7,.n (i+1))]) (M':=[.bx 25 [.z c.az,.d (.ro 2 (ah c.ah)),.d (.ro 1 (ints c.homes))],.rw 5 1 (ae (bV c++(l.take i).flatMap bd)++(ae (bd ay)))]) tk mo hK [(5,[(2,.z (((l.length:Nat):Int))),(3,.b true)]),(6,[(1,.z (((i+1:Nat):Int)))]),(7,[(2,.ix (i) [.z ay.kind,.z ay.node,.z ay.peer,.z ay.n,.z ay.bit,.u ay.inc,.ro 1 (ae ay.body)]),(4,.au (.v (.bool true)))]),(9,[(3,.ix (i) [.z ay.kind,.z ay.node,.z ay.peer,.z ay.n,.z ay.bit,.u ay.inc,.ro 1 (ae ay.body)]),(5,.au (.em 5 1 (ae (bd ay))))])] 2000 [0,1] [2,1,6,7] r (by kernel_rfl) (U aM (U h1 (U (aC ((i:Nat):Int)) (U (jb bY) (U ((by have k:=Ap ay (by omega);rw [h3] at k;exact k):al Tryz.prog 30 [.ag [.z ay.kind,.z ay.node,.z ay.peer,.z ay.n,.z ay.bit,.u ay.inc,.d (.ro 1 (ae ay.body))]] (.v (.bool true))) (U (aC ((i:Nat):Int)) (U (jb bY) (U (FU ay (by omega) (by omega) (by omega) (by omega) (by omega) (by omega)) (U ((by first | rfl | (simp [ae];done) | (simp [ae];omega)):((bV c++(l.take i).flatMap bd).length)=(ae (bV c++(l.take i).flatMap bd):List (List DV)).length) (U (ft ((ae (bd ay)).length)) (U ((by first | omega | (simp [ae] at *;omega)):(2*(((bV c++(l.take i).flatMap bd).length)+((ae (bd ay)).length))+192)*1≤281474976710656) (U ((by first | omega | (simp [ae] at *;omega)):((bV c++(l.take i).flatMap bd).length)+((ae (bd ay)).length)<4611686018427387904) (U ((by simp [aD,AV.one,bf,ae,ah,ints,steps,strs]):aD (ae (bd ay))) (U ((wi (by omega)):IntKind.i64.wrap ((((i:Nat):Int):Int)+1)=((i+1:Nat):Int)) trivial)))))))))))))) fun ac wd r=>bH (by omega) ac wd ⟨⟨aq.1.next bY (by assumption),by omega,by rw [uI bY,List.length_append];omega⟩,r.cast (by rw [uI bY];simp [ae,Nat.add_assoc]) (by rw [uI bY];simp [ae])⟩
end Go.Proofs.YtcnpikbbmbombaaGreatDoor
namespace Go.Proofs.YtcnpikbbmbombaaGreatDoor
open Go.RowKit
theorem aE.Nc {P:Program} {f:FuncId} {args:List AV} {M M':List ai} {k:Nat} {x:AV} (h:aE P f args M (.tu [.d (.v (.slice none 0 0)),x]) M'):aE P f args M (.tu [.d (.ro k []),x]) M':=by
 refine ⟨h.1,fun ys R hK hl hr=>(h.2 ys R hK hl hr).mono ?_⟩
 rintro e w' ⟨v,rfl,aB,F',I',R',e1,hI,ha⟩
 refine ⟨v,rfl,aB,F',I',R',e1,hI,?_⟩
 cases ha with
 | tu vs Oq DE=>
  refine .tu vs Oq fun j c y h1 h2=>?_
  cases j with
  | zero=>
   simp at h1;subst h1
   have h0:=DE 0 _ y rfl h2
   cases h0 with | d h0=>exact .d (Le.sN k _ _ _ h0)
  | succ j=>exact DE (j+1) c y h1 h2
theorem Hs (c:bN) (l:List aL) (hc:c.ah.length≤1048576) (hh:c.homes.length≤1048576) (hl:l.length≤1048576) (hr:∀ s ∈ l,s.Rd) (h:decide (ch c l=0)=false):al Tryz.prog 12 [.ag [.z c.az,.d (.ro 2 (ah c.ah)),.d (.ro 1 (ints c.homes))],.d (.ro 7 (steps l))] (.tu [.ro 1 (ae []),.z (ch c l)]):=by
 have q:=BE c l hc hh hl hr
 rw [jd rfl (of_decide_eq_false h)] at q;exact q.le (c7.tu (.cons (Le.sN 1) (.cons (Le.refl _) .nil)))
theorem FV (c:bN) (l:List aL) (hc:c.ah.length≤1048576) (hh:c.homes.length≤1048576) (hl:l.length≤1048576) (hr:∀ s ∈ l,s.Rd) (h:decide (ch c l=0)=true):al Tryz.prog 12 [.ag [.z c.az,.d (.ro 2 (ah c.ah)),.d (.ro 1 (ints c.homes))],.d (.ro 7 (steps l))] (.tu [.ro 1 (ae (dM c l)),.z 0]):=by
 have q:=(BE c l hc hh hl hr).stays
 rw [qc (of_decide_eq_true h)] at q
 simp only [ew,nD,tR] at q;exact q
theorem zU (l:List aL) (hl:l.length≤9223372036854775807):al Tryz.prog 14 [.d (.ro 7 (steps l)),.d (.ro 7 (steps l))] (.v (.bool true)):=by
 have q:=IH l l hl
 rw [show iN l l=true from decide_eq_true rfl] at q;exact q
theorem Ht {c:bN} {l:List aL} (h:decide (ch c l=0)=true):(dM c l).length≤65536:=by
 have h:=of_decide_eq_true h
 unfold ch at h
 cases h2:decide (65536<(dM c l).length) with
 | false=>exact Nat.not_lt.1 (of_decide_eq_false h2)
 | true=>
  rw [h2] at h
  generalize bU c=a at h;generalize l.all hasB=b at h
  cases a<;>cases b<;>cases h
theorem BF (c:bN) (l:List aL) (hc:c.ah.length≤1048576) (hh:c.homes.length≤1048576) (hl:l.length≤9223372036854775807) (hr:∀ s ∈ l,s.Rd) (h:decide (ch c l=0)=true):aE Tryz.prog 11 [.ag [.z c.az,.d (.ro 2 (ah c.ah)),.d (.ro 1 (ints c.homes))],.d (.ro 7 (steps l))] [.gw 0 aj] (.tu [.sl 1 (dM c l).length,.z 0]) [.gw 0 aj,.rw 5 1 (ae (dM c l))]:=by
 have q:=BD c l hc hh hl hr
 unfold mL mM at q;rw [h] at q;exact q
theorem LH (c:bN) (l:List aL) (hc:c.ah.length≤1048576) (hh:c.homes.length≤1048576) (hl:l.length≤9223372036854775807) (hr:∀ s ∈ l,s.Rd) (h:decide (ch c l=0)=false):aE Tryz.prog 11 [.ag [.z c.az,.d (.ro 2 (ah c.ah)),.d (.ro 1 (ints c.homes))],.d (.ro 7 (steps l))] [.gw 0 aj] (.tu [.d (.ro 1 (ae [])),.z (ch c l)]) [.gw 0 aj]:=by
 have q:=BD c l hc hh hl hr
 unfold mL mM at q;rw [h] at q;exact aE.Nc q
end Go.Proofs.YtcnpikbbmbombaaGreatDoor
namespace Go.Proofs.YtcnpikbbmbombaaGreatDoor
open Go.RowKit
def yO (l:List UInt8) (k:Nat):List ai:=iB (l.drop k) (decide (l.length<k))
theorem pF (l:List UInt8) (k:Nat):aE Tryz.prog 62 [.pt 0 0] (yO l k) (.d (.v (.int .u8 (((l.getD k 0).toNat:Nat):Int)))) (yO l (k+1)):=by
 have h:=DD (l.drop k) (decide (l.length<k))
 unfold aT eA eM at h
 unfold yO
 rcases Nat.lt_or_ge k l.length with h1 | h1
 ·have e:¬ j1 (l.drop k) (decide (l.length<k)) 1:=by rintro (q | q | q);exact absurd (of_decide_eq_true q) (by omega);exact absurd q (by decide);simp at q;omega
  rw [if_neg e,if_neg e,if_neg e] at h
  rw [decide_eq_false (show ¬ l.length<k+1 by omega)]
  simp [List.getD_eq_getElem?_getD,List.getElem?_take,Nat.add_comm] at h ⊢
  exact h
 ·have e:j1 (l.drop k) (decide (l.length<k)) 1:=.inr (.inr (by simp;omega))
  rw [if_pos e,if_pos e,if_pos e] at h
  rw [decide_eq_true (show l.length<k+1 by omega),Ar h1]
  rw [List.drop_of_length_le (show l.length≤k+1 by omega)]
  rw [List.drop_of_length_le h1] at h ⊢
  exact h
theorem tM (b:UInt8):IntKind.i64.wrap ((b.toNat:Nat):Int)=((b.toNat:Nat):Int):=wi (by have:=b.toNat_lt;omega)
def gV (l:List UInt8) (k:Nat):Int:=(((l.getD k 0).toNat:Nat):Int)
def gN (l:List UInt8):Nat:=(l.getD 1 0).toNat
def gL (l:List UInt8) (i:Nat):List (Int×Int):=(List.range i).map fun j=>(gV l (2+2*j),gV l (2+2*j+1))
def gM (l:List UInt8):Nat:=(l.getD (2+2*gN l) 0).toNat
def gH (l:List UInt8) (i:Nat):List Int:=(List.range i).map fun j=>gV l (2+2*gN l+1+j)
def gC (l:List UInt8):bN:=⟨gV l 0,gL l (gN l),gH l (gM l)⟩
def gE (l:List UInt8):Nat:=2+2*gN l+1+gM l
theorem IV (l:List UInt8) (i:Nat):gL l (i+1)=gL l i++[(gV l (2+2*i),gV l (2+2*i+1))]:=by unfold gL;rw [List.range_succ,List.map_append];rfl
theorem IW (l:List UInt8) (i:Nat):gH l (i+1)=gH l i++[gV l (2+2*gN l+1+i)]:=by unfold gH;rw [List.range_succ,List.map_append];rfl
theorem dy (l:List UInt8) (i:Nat):(gL l i).length=i:=by simp [gL]
theorem dz (l:List UInt8) (i:Nat):(gH l i).length=i:=by simp [gH]
theorem xd (l:List UInt8):gN l<256:=(l.getD 1 0).toNat_lt
theorem xe (l:List UInt8):gM l<256:=(l.getD _ 0).toNat_lt
set_option maxRecDepth 100000 in
theorem Ki (l:List UInt8):aE Tryz.prog 33 [.pt 0 0] [.bx 108 [.d (.ro 1 (ae (l.drop (0)))),.d (.v (.bool ((decide (l.length<(0))))))]] (.ag [.z (gV l 0),.sl 1 (gN l),.sl 2 (gM l)]) ([.bx 108 [.d (.ro 1 (ae (l.drop (2+2*gN l+1+gM l)))),.d (.v (.bool ((decide (l.length<(2+2*gN l+1+gM l))))))],.rw 60 2 (ah (gL l (gN l))),.rw 3 1 (ints (gH l (gM l)))]):=by
 refine aE.intro (by kernel_rfl) rfl rfl 42 rfl rfl fun D w0 K bs ac wd hK (ao:bs.m=1) r=>?_
 refine cQ (todo':=hd Tryz.f33 0) (E':=[(0,.pt 0 0),(2,.pt 1 0),(3,.pt 2 0),(10,.d (.v (.int .u8 ((((l.getD (0+1) 0).toNat:Nat):Int))))),(11,.d (.v (.int .u8 0)))]) (M':=[.bx 108 [.d (.ro 1 (ae (l.drop (0+1+1)))),.d (.v (.bool ((decide (l.length<(0+1+1))))))],.bx 25 [.z 0,.d (.v (.slice none 0 0)),.d (.v (.slice none 0 0))],.bx 25 [.n ((l.getD (0) 0).toNat),.d (.v (.slice none 0 0)),.d (.v (.slice none 0 0))]]) tk mo hK ao [(1,[(1,.mem [0] (.d (.v (.int .u8 ((((l.getD (0) 0).toNat:Nat):Int))))) [.bx 108 [.d (.ro 1 (ae (l.drop (0+1)))),.d (.v (.bool ((decide (l.length<(0+1))))))]]),(2,.z ((((l.getD (0) 0).toNat:Nat):Int)))]),(2,[(1,.mem [0] (.d (.v (.int .u8 ((((l.getD (0+1) 0).toNat:Nat):Int))))) [.bx 108 [.d (.ro 1 (ae (l.drop (0+1+1)))),.d (.v (.bool ((decide (l.length<(0+1+1))))))]])])] 2000 [0,1,2] [0,2,3,10,11] r (by kernel_rfl) (U (pF l (0)) (U ((tM _):IntKind.i64.wrap ((((l.getD (0) 0).toNat:Nat):Int))=(((l.getD (0) 0).toNat:Nat):Int)) (U (pF l (0+1)) trivial))) fun ac wd r=>?_
 refine aF.rounds (Φ:=fun (i:Nat) ac wd=>(i≤gN l)∧RB D w0 K 42 bs [(0,.pt 0 0),(2,.pt 1 0),(3,.pt 2 0),(10,.d (.v (.int .u8 (((gN l:Nat):Int))))),(11,.d (.v (.int .u8 (((i:Nat):Int)))))] [.bx 108 [.d (.ro 1 (ae (l.drop (2+2*i)))),.d (.v (.bool ((decide (l.length<(2+2*i))))))],.bx 25 [.z 0,.d (.v (.slice none 0 0)),.d (.v (.slice none 0 0))],.bx 25 [.z (gV l 0),.sl 3 (i),.d (.v (.slice none 0 0))],.rw 60 2 (ah (gL l i))] ac wd) (gN l) ?_ (Nat.zero_le _) ⟨Nat.zero_le _,r.fG (M1:=[.bx 108 [.d (.ro 1 (ae (l.drop (0+1+1)))),.d (.v (.bool ((decide (l.length<(0+1+1))))))],.bx 25 [.z 0,.d (.v (.slice none 0 0)),.d (.v (.slice none 0 0))],.bx 25 [.n ((l.getD (0) 0).toNat),.d (.v (.slice none 0 0)),.d (.v (.slice none 0 0))]]) [] [(2,1,60,2)] (by kernel_rfl) (by kernel_rfl)⟩
 clear r
 rintro i dw bH ac wd ⟨aq,r⟩
 have PB:=xd l
 cases h0:(decide ((((i:Nat):Int):Int)<((gN l:Nat):Int))) with
 | false=>
  have a7:=of_decide_eq_false h0
  refine cQ (todo':=hd Tryz.f33 1) (E':=[(0,.pt 0 0),(2,.pt 1 0),(3,.pt 2 0),(29,.d (.v (.int .u8 ((((l.getD (2+2*i) 0).toNat:Nat):Int))))),(30,.d (.v (.int .u8 0)))]) (M':=[.bx 108 [.d (.ro 1 (ae (l.drop (2+2*i+1)))),.d (.v (.bool ((decide (l.length<(2+2*i+1))))))],.bx 25 [.z 0,.d (.v (.slice none 0 0)),.d (.v (.slice none 0 0))],.bx 25 [.z (gV l 0),.sl 3 (i),.d (.v (.slice none 0 0))],.rw 60 2 (ah (gL l i))]) tk mo hK ao [(3,[(0,.b false)]),(9,[(1,.mem [0] (.d (.v (.int .u8 ((((l.getD (2+2*i) 0).toNat:Nat):Int))))) [.bx 108 [.d (.ro 1 (ae (l.drop (2+2*i+1)))),.d (.v (.bool ((decide (l.length<(2+2*i+1))))))]])])] 2000 [0,1,2,3] [0,2,3,29,30] r (by kernel_rfl) (U h0 (U (pF l (2+2*i)) trivial)) fun ac wd r=>?_
  refine aF.rounds (Φ:=fun (i:Nat) ac wd=>(i≤gM l)∧RB D w0 K 42 bs [(0,.pt 0 0),(2,.pt 1 0),(3,.pt 2 0),(29,.d (.v (.int .u8 (((gM l:Nat):Int))))),(30,.d (.v (.int .u8 (((i:Nat):Int)))))] [.bx 108 [.d (.ro 1 (ae (l.drop (2+2*gN l+1+i)))),.d (.v (.bool ((decide (l.length<(2+2*gN l+1+i))))))],.bx 25 [.z 0,.d (.v (.slice none 0 0)),.d (.v (.slice none 0 0))],.bx 25 [.z (gV l 0),.sl 3 ((gN l)),.sl 4 (i)],.rw 60 2 (ah (gL l (gN l))),.rw 3 1 (ints (gH l i))] ac wd) (gM l) ?_ (Nat.zero_le _) ⟨Nat.zero_le _,(r.fG (E1:=[(0,.pt 0 0),(2,.pt 1 0),(3,.pt 2 0),(29,.d (.v (.int .u8 ((((l.getD (2+2*i) 0).toNat:Nat):Int))))),(30,.d (.v (.int .u8 0)))]) (M2:=[.bx 108 [.d (.ro 1 (ae (l.drop (2+2*i+1)))),.d (.v (.bool ((decide (l.length<(2+2*i+1))))))],.bx 25 [.z 0,.d (.v (.slice none 0 0)),.d (.v (.slice none 0 0))],.bx 25 [.z (gV l 0),.sl 3 (i),.sl 4 (0)],.rw 60 2 (ah (gL l i)),.rw 3 1 ([])]) (M1:=[.bx 108 [.d (.ro 1 (ae (l.drop (2+2*i+1)))),.d (.v (.bool ((decide (l.length<(2+2*i+1))))))],.bx 25 [.z 0,.d (.v (.slice none 0 0)),.d (.v (.slice none 0 0))],.bx 25 [.z (gV l 0),.sl 3 (i),.d (.v (.slice none 0 0))],.rw 60 2 (ah (gL l i))]) [] [(2,2,3,1)] (by kernel_rfl) (by kernel_rfl)).cast (by rw [show i=gN l from by omega];rfl) (by rw [show i=gN l from by omega];rfl)⟩
  clear r
  rintro i n8 fU ac wd ⟨ea,r⟩
  have PC:=xe l
  cases h1:(decide ((((i:Nat):Int):Int)<((gM l:Nat):Int))) with
  | false=>
   have bP:=of_decide_eq_false h1
   refine bq (y:=.ag [.z (gV l 0),.sl 1 ((gN l)),.sl 2 (i)]) (N':=[.bx 108 [.d (.ro 1 (ae (l.drop (2+2*gN l+1+i)))),.d (.v (.bool ((decide (l.length<(2+2*gN l+1+i))))))],.rw 60 2 (ah (gL l (gN l))),.rw 3 1 (ints (gH l i))]) ((by rw [show i=gM l from by omega])) ((by rw [show i=gM l from by omega])) ?_
   exact bp tk mo hK rfl ao [(10,[(0,.b false)])] 2000 [0,3,4] r (by kernel_rfl) (U h1 trivial)
  | true=>
   have bP:=of_decide_eq_true h1
   exact cQ (todo':=hd Tryz.f33 1) (E':=[(0,.pt 0 0),(2,.pt 1 0),(3,.pt 2 0),(29,.d (.v (.int .u8 (((gM l:Nat):Int))))),(30,.d (.v (.int .u8 (((i+1:Nat):Int)))))]) (M':=[.bx 108 [.d (.ro 1 (ae (l.drop (2+2*gN l+1+i+1)))),.d (.v (.bool ((decide (l.length<(2+2*gN l+1+i+1))))))],.bx 25 [.z 0,.d (.v (.slice none 0 0)),.d (.v (.slice none 0 0))],.bx 25 [.z (gV l 0),.sl 3 ((gN l)),.sl 4 (i+(1))],.rw 60 2 (ah (gL l (gN l))),.rw 3 1 (ints (gH l i)++[[.n ((l.getD (2+2*gN l+1+i) 0).toNat)]])]) tk mo hK ao [(10,[(0,.b true)]),(11,[(3,.mem [0] (.d (.v (.int .u8 ((((l.getD (2+2*gN l+1+i) 0).toNat:Nat):Int))))) [.bx 108 [.d (.ro 1 (ae (l.drop (2+2*gN l+1+i+1)))),.d (.v (.bool ((decide (l.length<(2+2*gN l+1+i+1))))))]]),(4,.z ((((l.getD (2+2*gN l+1+i) 0).toNat:Nat):Int)))]),(12,[(0,.z (((i+1:Nat):Int)))])] 2000 [0,1,2,3,4] [0,2,3,29,30] r (by kernel_rfl) (U h1 (U (pF l (2+2*gN l+1+i)) (U ((tM _):IntKind.i64.wrap ((((l.getD (2+2*gN l+1+i) 0).toNat:Nat):Int))=(((l.getD (2+2*gN l+1+i) 0).toNat:Nat):Int)) (U ((by first | rfl | (simp [ah,ints,dy,dz];done) | (simp [ah,ints,dy,dz];omega)):(i)=(ints (gH l i)).length) (U ((by first | rfl | (simp [ah,ints,dy,dz];done) | (simp [ah,ints,dy,dz];omega)):(1)=([[.n ((l.getD (2+2*gN l+1+i) 0).toNat)]]:List (List DV)).length) (U ((by first | omega | (simp [ah,ints,dy,dz];done) | (simp [ah,ints,dy,dz];omega)):(2*((i)+(1))+192)*8≤281474976710656) (U ((by first | omega | (simp [ah,ints,dy,dz];done) | (simp [ah,ints,dy,dz];omega)):(i)+(1)<4611686018427387904) (U ((by simp [aD,AV.one,bf,ae,ah,ints,steps,strs]):aD ([[.n ((l.getD (2+2*gN l+1+i) 0).toNat)]])) (U ((w8 (by have:=xe l;omega)):IntKind.u8.wrap ((((i:Nat):Int):Int)+1)=((i+1:Nat):Int)) trivial))))))))) fun ac wd r=>fU (by omega) ac wd ⟨(by omega),r.cast rfl (by rw [IW,show 2+2*gN l+1+(i+1)=2+2*gN l+1+i+1 from by omega];simp [ints,gV])⟩
 | true=>
  have a7:=of_decide_eq_true h0
  exact cQ (todo':=hd Tryz.f33 0) (E':=[(0,.pt 0 0),(2,.pt 1 0),(3,.pt 2 0),(10,.d (.v (.int .u8 (((gN l:Nat):Int))))),(11,.d (.v (.int .u8 (((i+1:Nat):Int)))))]) (M':=[.bx 108 [.d (.ro 1 (ae (l.drop (2+2*i+1+1)))),.d (.v (.bool ((decide (l.length<(2+2*i+1+1))))))],.bx 25 [.z 0,.d (.v (.slice none 0 0)),.d (.v (.slice none 0 0))],.bx 25 [.z (gV l 0),.sl 3 (i+(1)),.d (.v (.slice none 0 0))],.rw 60 2 (ah (gL l i)++[[.n ((l.getD (2+2*i) 0).toNat),.n ((l.getD (2+2*i+1) 0).toNat)]])]) tk mo hK ao [(3,[(0,.b true)]),(5,[(1,.mem [0] (.d (.v (.int .u8 ((((l.getD (2+2*i) 0).toNat:Nat):Int))))) [.bx 108 [.d (.ro 1 (ae (l.drop (2+2*i+1)))),.d (.v (.bool ((decide (l.length<(2+2*i+1))))))]]),(2,.z ((((l.getD (2+2*i) 0).toNat:Nat):Int))),(3,.n 0)]),(6,[(1,.mem [0] (.d (.v (.int .u8 ((((l.getD (2+2*i+1) 0).toNat:Nat):Int))))) [.bx 108 [.d (.ro 1 (ae (l.drop (2+2*i+1+1)))),.d (.v (.bool ((decide (l.length<(2+2*i+1+1))))))]]),(2,.z ((((l.getD (2+2*i+1) 0).toNat:Nat):Int))),(3,.n 1)]),(8,[(0,.z (((i+1:Nat):Int)))])] 2000 [0,1,2,3] [0,2,3,10,11] r (by kernel_rfl) (U h0 (U (pF l (2+2*i)) (U ((tM _):IntKind.i64.wrap ((((l.getD (2+2*i) 0).toNat:Nat):Int))=(((l.getD (2+2*i) 0).toNat:Nat):Int)) (U (rfl:(0)=((0:Nat):Int)) (U ((by omega):(0)<2) (U (pF l (2+2*i+1)) (U ((tM _):IntKind.i64.wrap ((((l.getD (2+2*i+1) 0).toNat:Nat):Int))=(((l.getD (2+2*i+1) 0).toNat:Nat):Int)) (U (rfl:(1)=((1:Nat):Int)) (U ((by omega):(1)<2) (U ((by first | rfl | (simp [ah,ints,dy,dz];done) | (simp [ah,ints,dy,dz];omega)):(i)=(ah (gL l i):List (List DV)).length) (U ((by first | rfl | (simp [ah,ints,dy,dz];done) | (simp [ah,ints,dy,dz];omega)):(1)=([[.n ((l.getD (2+2*i) 0).toNat),.n ((l.getD (2+2*i+1) 0).toNat)]]:List (List DV)).length) (U ((by first | omega | (simp [ah,ints,dy,dz];done) | (simp [ah,ints,dy,dz];omega)):(2*((i)+(1))+192)*16≤281474976710656) (U ((by first | omega | (simp [ah,ints,dy,dz];done) | (simp [ah,ints,dy,dz];omega)):(i)+(1)<4611686018427387904) (U ((by simp [aD,AV.one,bf,ae,ah,ints,steps,strs]):aD ([[.n ((l.getD (2+2*i) 0).toNat),.n ((l.getD (2+2*i+1) 0).toNat)]])) (U ((w8 (by have:=xd l;omega)):IntKind.u8.wrap ((((i:Nat):Int):Int)+1)=((i+1:Nat):Int)) trivial))))))))))))))) fun ac wd r=>bH (by omega) ac wd ⟨(by omega),r.cast rfl (by rw [IV,show 2+2*(i+1)=2+2*i+1+1 from by omega];simp [ah,gV])⟩
end Go.Proofs.YtcnpikbbmbombaaGreatDoor
namespace Go.Proofs.YtcnpikbbmbombaaGreatDoor
open Go.RowKit
theorem consts {K:World→Prop} {zs ys:List Value} (hl:ys.length=(zs.map fun z=>AV.d (.v z)).length) (hr:∀ (j:Nat) c y,(zs.map fun z=>AV.d (.v z))[j]?=some c→ys[j]?=some y→ax K [] c y):ys=zs:=by
 apply List.ext_getElem (by simpa using hl)
 intro j h1 h2
 have key:∀ {a b:Value},ax K [] (.d (.v a)) b→b=a:=fun h=>by cases h with | d h=>cases h;rfl
 exact key (hr j (.d (.v zs[j])) ys[j] (by rw [List.getElem?_map,List.getElem?_eq_getElem h2];rfl) (List.getElem?_eq_getElem h1))
theorem al.qd {P:Program} {f:FuncId} (hc:ig P f=true) {zs:List Value} {v:Value} (h:∀ w,Calls P f zs.toArray w fun e w'=>e=.returned v∧Below w.heap.size w w'):al P f (zs.map fun z=>AV.d (.v z)) (.v v):=by
 refine ⟨hc,fun w K ys _ hl hr=>?_⟩
 obtain rfl:=consts hl hr
 exact (h w).mono fun e w' ⟨he,g⟩=>⟨v,he,g,[],⟨[],[],rfl,.v _⟩,du.nil _ _⟩
theorem IX (l:List UInt8) (c:UInt8):al Tryz.prog 112 [.d (.v (.string ⟨l.toArray⟩)),.d (.v (.string ⟨[c].toArray⟩))] (.z (Go.Lib.indexByte l c)):=
 al.qd (by kernel_rfl) (zs:=[.string ⟨l.toArray⟩,.string ⟨[c].toArray⟩]) fun w=>(Tryz.strings_Index_one ⟨l.toArray⟩ c w).mono fun e w' ⟨he,hw⟩=>⟨he,hw▸Below.refl _ _⟩
theorem zd (l:List UInt8) (c:UInt8):al Tryz.prog 102 [.d (.v (.string ⟨l.toArray⟩)),.d (.v (.int .u8 ((c.toNat:Nat):Int)))] (.z (Go.Lib.indexByte l c)):=
 al.qd (by kernel_rfl) (zs:=[.string ⟨l.toArray⟩,.int .u8 ((c.toNat:Nat):Int)]) fun w=>(Tryz.strings_IndexByte ⟨l.toArray⟩ ((c.toNat:Nat):Int) w).mono fun e w' ⟨he,hw⟩=>⟨by rw [he];simp,hw▸Below.refl _ _⟩
theorem IY (l:List UInt8) (c:UInt8):al Tryz.prog 111 [.d (.v (.string ⟨l.toArray⟩)),.d (.v (.string ⟨[c].toArray⟩))] (.z (Go.Lib.countByte l c)):=
 al.qd (by kernel_rfl) (zs:=[.string ⟨l.toArray⟩,.string ⟨[c].toArray⟩]) fun w=>(Tryz.strings_Count_one ⟨l.toArray⟩ c w).mono fun e w' ⟨he,hw⟩=>⟨he,hw▸Below.refl _ _⟩
theorem xf:qu Tryz.prog 95:=⟨_,Tryz.func95,by kernel_rfl,by kernel_rfl,by kernel_rfl,by kernel_rfl⟩
theorem Nd:s9 Tryz.prog 114 5:=⟨_,_,Tryz.func114,by kernel_rfl,by kernel_rfl,by kernel_rfl,by kernel_rfl,rfl,Tryz.underlying31⟩
set_option maxRecDepth 100000 in
theorem Kj (n:Nat) (hn:n≤1099511627776):aE Tryz.prog 104 [.pt 0 0,.n n] [.bx 71 [.pt 0 0,.d (.v (.slice none 0 0))]] (.tu []) ([.bx 71 [.pt 0 0,.sl 1 0],.rw 5 1 []]):=by
 refine aE.intro (by kernel_rfl) rfl rfl 30 rfl rfl fun D w0 K bs ac wd hK (ao:bs.m=1) r=>?_
 refine bq (y:=.tu []) (N':=[.bx 71 [.pt 0 0,.sl 1 (0)],.rw 5 1 ((([]:List (List DV))).take (0)++((List.replicate (n) [.jk]).take (0)).drop (0))]) (rfl) (rfl) ?_
 exact bp tk mo hK rfl ao [(0,[(5,.z (0)),(7,.z (((n:Nat):Int))),(8,.n2 (n) 5),(14,.n (0))]),(1,[(5,.n (0))])] 2000 [0,1] r (by kernel_rfl) (U ((by decide):IntKind.i64.wrap ((2:Int)*0)=0) (U ((wi (by omega)):IntKind.i64.wrap ((0:Int)+((n:Nat):Int))=((n:Nat):Int)) (U (Nd:s9 Tryz.prog 114 5) (U (aC ((n:Nat):Int)) (U ((by first | omega | decide | (simp;done) | (simp;omega)):(n)≤281474976710656) (U (aC ((0:Nat):Int)) (U ((by first | omega | decide | (simp;done) | (simp;omega)):(0)≤(n)) (U ((by first | rfl | (simp;done) | (simp<;>omega)):(n)=(List.replicate (n) [.jk]:List (List DV)).length) (U ((by first | rfl | (simp;done) | (simp<;>omega)):(0)=((List.replicate (n) [.jk]).take (0):List (List DV)).length) (U (rfl:min (([]:List (List DV)):List (List DV)).length (0)=0) (U ((by simp [aD,AV.one,bf,ae,ah,ints,steps,strs]):aD (([]:List (List DV)))) trivial)))))))))))
end Go.Proofs.YtcnpikbbmbombaaGreatDoor
namespace Go.Proofs.YtcnpikbbmbombaaGreatDoor
open Go.RowKit
theorem Ey (l:List (List UInt8)):c6 (strs l)=strs l:=by rw [kx];unfold strs;rw [List.map_map];apply List.map_congr_left;intro b _;rfl
def bT (c:UInt8):List UInt8→List UInt8
 | []=>[]
 | x::r=>if x=c then [] else x::bT c r
def fC (c:UInt8) (s:List UInt8):List UInt8:=s.drop ((bT c s).length+1)
def aW (c:UInt8):List UInt8→List (List UInt8)
 | []=>[[]]
 | x::r=>if x=c then []::aW c r else (match aW c r with | w::ws=>(x::w)::ws | []=>[[x]])
theorem tX {c:UInt8}:∀ {s:List UInt8},0<s.count c→aW c s=bT c s::aW c (fC c s)
 | [],h=>by simp at h
 | x::r,h=>by
  by_cases hx:x=c
  ·subst hx;simp [aW,bT,fC]
  ·have h2:0<r.count c:=by rw [List.count_cons_of_ne hx] at h;exact h
   have ih:=tX h2
   simp only [aW,bT,if_neg hx,fC,List.length_cons,List.drop_succ_cons]
   rw [ih];rfl
theorem tS {c:UInt8}:∀ {s:List UInt8},s.count c=0→aW c s=[s]
 | [],_=>rfl
 | x::r,h=>by
  by_cases hx:x=c
  ·subst hx;simp at h
  ·have h2:r.count c=0:=by rw [List.count_cons_of_ne hx] at h;exact h
   simp only [aW,if_neg hx];rw [tS h2]
theorem vf {c:UInt8}:∀ {s:List UInt8},0<s.count c→Go.Lib.indexByte s c=(((bT c s).length:Nat):Int)
 | [],h=>by simp at h
 | x::r,h=>by
  by_cases hx:x=c
  ·subst hx;simp [Go.Lib.indexByte,bT]
  ·have h2:0<r.count c:=by rw [List.count_cons_of_ne hx] at h;exact h
   have ih:=vf h2
   have hb:(x==c)=false:=by simpa using hx
   unfold Go.Lib.indexByte
   rw [hb,ih]
   simp only [bT,if_neg hx,List.length_cons,Bool.false_eq_true,if_false]
   rw [if_neg (by first | (simp;done) | (simp;omega))];simp
theorem Au {c:UInt8}:∀ {s:List UInt8},s.count c=0→Go.Lib.indexByte s c = -1
 | [],_=>rfl
 | x::r,h=>by
  by_cases hx:x=c
  ·subst hx;simp at h
  ·have h2:r.count c=0:=by rw [List.count_cons_of_ne hx] at h;exact h
   have hb:(x==c)=false:=by simpa using hx
   unfold Go.Lib.indexByte
   rw [hb,Au h2];rfl
theorem jJ {c:UInt8}:∀ {s:List UInt8},0<s.count c→(bT c s).length<s.length
 | [],h=>by simp at h
 | x::r,h=>by
  by_cases hx:x=c
  ·subst hx;simp [bT]
  ·have h2:0<r.count c:=by rw [List.count_cons_of_ne hx] at h;exact h
   simp only [bT,if_neg hx,List.length_cons];have:=jJ h2;omega
theorem p6 {c:UInt8}:∀ (s:List UInt8),s.take (bT c s).length=bT c s
 | []=>rfl
 | x::r=>by
  by_cases hx:x=c
  ·subst hx;simp [bT]
  ·simp only [bT,if_neg hx,List.length_cons,List.take_succ_cons];rw [p6 r]
theorem tY {c:UInt8}:∀ {s:List UInt8},0<s.count c→s.count c=(fC c s).count c+1
 | [],h=>by simp at h
 | x::r,h=>by
  by_cases hx:x=c
  ·subst hx;simp [bT,fC]
  ·have h2:0<r.count c:=by rw [List.count_cons_of_ne hx] at h;exact h
   have:=tY h2
   simp only [fC,bT,if_neg hx,List.length_cons,List.drop_succ_cons] at *
   rw [List.count_cons_of_ne hx];exact this
theorem ic (c:UInt8) (s:List UInt8):(aW c s).length=s.count c+1:=by
 have key:∀ (n:Nat) (s:List UInt8),s.count c=n→(aW c s).length=n+1:=by
  intro n
  induction n with
  | zero=>intro s h;rw [tS h];rfl
  | succ n ih=>intro s h;have h2:=tY (c:=c) (s:=s) (by omega);rw [tX (by omega),List.length_cons,ih _ (by omega)]
 exact key _ s rfl
def ek (c:UInt8) (l:List UInt8) (i:Nat):List (List UInt8):=(aW c l).take i++List.replicate (l.count c+1-i) []
theorem Av (l:List (List UInt8)) (i:Nat) (x:List UInt8):(strs l).set i [.v (.string ⟨x.toArray⟩)]=strs (l.set i x):=by unfold strs;rw [List.map_set]
theorem zz {c:UInt8} {l w:List UInt8} {i:Nat} (h:(aW c l)[i]?=some w):(ek c l i).set i w=ek c l (i+1):=by
 obtain ⟨aO,rfl⟩:=List.getElem?_eq_some_iff.1 h
 have hl:=ic c l
 unfold ek
 have h1:((aW c l).take i).length=i:=by simp;omega
 rw [List.set_append_right _ _ (by omega),h1,Nat.sub_self,List.take_add_one,List.getElem?_eq_getElem aO,show l.count c+1-i=(l.count c+1-(i+1))+1 from by omega,List.replicate_succ,List.set_cons_zero,List.append_assoc]
 rfl
theorem zA {c:UInt8} {l:List UInt8} {i:Nat} (h:i≤l.count c):(ek c l i)[i]?=some []:=by
 have hl:=ic c l
 have h1:((aW c l).take i).length=i:=by simp;omega
 unfold ek
 rw [List.getElem?_append_right (by omega),h1,Nat.sub_self,List.getElem?_replicate,if_pos (by omega)]
theorem FW {c:UInt8} {l w:List UInt8} {i:Nat} (h:(aW c l)[i]?=some w) (hi:i=l.count c):strs (aW c l)=List.take (i+1) ((strs (ek c l i)).set i [.v (.string ⟨w.toArray⟩)]):=by
 have hl:=ic c l
 rw [Av,zz h]
 have e:(aW c l).take (i+1)=aW c l:=List.take_of_length_le (by omega)
 unfold ek strs
 rw [show l.count c+1-(i+1)=0 from by omega,e,List.replicate_zero,List.append_nil,List.take_of_length_le (by simp;omega)]
theorem Aw {α:Type} {l r:List α} {x:α} {i:Nat} (h:l.drop i=x::r):l[i]?=some x∧l.drop (i+1)=r:=by
 constructor
 ·have:=congrArg (fun q=>q[0]?) h;simpa using this
 ·have:=congrArg (fun q=>q.drop 1) h;simpa [List.drop_drop] using this
set_option maxRecDepth 100000 in
theorem Ez (c:UInt8) (l:List UInt8) (hl:l.length≤1048576) (cG:l.count c≤l.length):al Tryz.prog 101 [.d (.v (.string ⟨l.toArray⟩)),.d (.v (.string ⟨([c]).toArray⟩)),.z 0,.z (-1)] (DV.em 9 1 (strs (aW c l))):=by
 refine al.intro (by kernel_rfl) rfl rfl 66 rfl rfl fun w0 K ac hK r=>?_
 refine aU (todo':=hd Tryz.f101 0) (E':=[(0,.d (.v (.string ⟨l.toArray⟩))),(1,.d (.v (.string ⟨([c]).toArray⟩))),(2,.z 0),(3,.n (l.count c)),(9,.sl 0 (l.count c+1)),(10,.z 0)]) (M':=[.rw 9 1 (List.replicate (l.count c+1) [.v (.string .empty)])]) tk mo hK [(3,[(1,.b false)]),(6,[(2,.au (.n ((l.count c)))),(3,.z ((((l.count c)+1:Nat):Int)))]),(7,[(3,.z (((l.length+1:Nat):Int))),(4,.z (((l.count c+1:Nat):Int)))]),(8,[(1,.n (l.count c+1))]),(9,[(1,.z (((l.count c:Nat):Int)))])] 2000 [0] [0,1,2,3,9,10] r (by kernel_rfl) (U ((by first | decide | simp):(([c]:List UInt8)==[])=false) (U (IY l c) (U ((wi (by omega)):IntKind.i64.wrap (((((l.count c):Nat):Int):Int)+1)=(((l.count c)+1:Nat):Int)) (U ((wi (by omega)):IntKind.i64.wrap ((((l.length:Nat):Int):Int)+1)=((l.length+1:Nat):Int)) (U ((by omega):(min ((((l.count c)+1:Nat):Int)) (((l.length+1:Nat):Int)):Int)=((l.count c+1:Nat):Int)) (U (aC ((l.count c+1:Nat):Int)) (U (aC ((l.count c+1:Nat):Int)) (U ((by first | omega | (have:=jJ ku;omega)):16*(l.count c+1)≤281474976710656) (U ((by first | omega | (have:=jJ ku;omega)):(l.count c+1)<4611686018427387904) (U ((wi (by omega)):IntKind.i64.wrap ((((l.count c+1:Nat):Int):Int)-1)=((l.count c:Nat):Int)) trivial)))))))))) fun ac wd r=>?_
 refine aF.rounds (Φ:=fun (i:Nat) ac wd=>∃ s:List UInt8,(i≤l.count c∧(aW c l).drop i=aW c s∧l.count c=i+s.count c∧s.length≤1048576)∧cN [] w0 K 66 [(0,.d (.v (.string ⟨s.toArray⟩))),(1,.d (.v (.string ⟨([c]).toArray⟩))),(2,.z 0),(3,.n ((l.count c))),(9,.sl 0 ((l.count c+1))),(10,.n i)] [.rw 9 1 (strs (ek c l i))] ac wd) ((l.count c)) ?_ (Nat.zero_le _) ⟨l,⟨Nat.zero_le _,rfl,by omega,hl⟩,(r).cast rfl (by simp [strs,ek];rfl)⟩
 clear r
 rintro i dw bH ac wd ⟨s,aq,r⟩
 cases h0:(decide ((((i:Nat):Int):Int)<(((l.count c):Nat):Int))) with
 | false=>
  have a7:=of_decide_eq_false h0
  rw [show (DV.em 9 1 (strs (aW c l)):DV)=.em 9 1 ((List.set (strs (ek c l i)) (i) [.v (.string ⟨s.toArray⟩)]).take (i+1)) from (by rw [FW (Aw (aq.2.1.trans (tS (by omega)))).1 (by omega)])]
  exact aK tk mo hK rfl [(11,[(2,.b false)]),(17,[(3,.n (i)),(4,.ix 0 [.v (.string ⟨([]).toArray⟩)])]),(18,[(2,.z (((i+1:Nat):Int))),(3,.n (i+1))])] 2000 r (by kernel_rfl) (U h0 (U (aC ((i:Nat):Int)) (U ((by first | omega | (have:=jJ ku;omega)):(i)<((l.count c+1))) (U ((by first | rfl | (simp [strs,ek,ic];done) | (simp [strs,ek,ic];omega)):((l.count c+1))≤(strs (ek c l i):List (List DV)).length) (U (sh (zA (by omega)):(strs (ek c l i))[i]?=some [.v (.string ⟨([]).toArray⟩)]) (U ((wi (by omega)):IntKind.i64.wrap ((((i:Nat):Int):Int)+1)=((i+1:Nat):Int)) (U (aC ((i+1:Nat):Int)) (U ((by first | omega | (have:=jJ ku;omega)):(i+1)≤((l.count c+1))) (U ((by first | rfl | (simp [strs,ek,ic];done) | (simp [strs,ek,ic];omega)):((l.count c+1))=(List.set (strs (ek c l i)) (i) [.v (.string ⟨s.toArray⟩)]:List (List DV)).length) (U ((by first | rfl | (simp [strs,ek,ic];done) | (simp [strs,ek,ic];omega)):(i+1)=((List.set (strs (ek c l i)) (i) [.v (.string ⟨s.toArray⟩)]).take (i+1):List (List DV)).length) trivial))))))))))
 | true=>
  have a7:=of_decide_eq_true h0
  have ku:0<s.count c:=by omega
  have aO:=jJ ku
  have gx:=tY ku
  have DF:=Aw (aq.2.1.trans (tX ku))
  have aM:=((by have h:=IX s c;rw [vf ku] at h;exact h):al Tryz.prog 112 [.d (.v (.string ⟨s.toArray⟩)),.d (.v (.string ⟨([c]).toArray⟩))] (.n ((bT c s).length)))
  cases h1:(decide (((((bT c s).length:Nat):Int):Int)<0)) with
  | false=>
   have bP:=of_decide_eq_false h1
   exact aU (todo':=hd Tryz.f101 0) (E':=[(0,.d (.v (.string ⟨(List.drop ((bT c s).length+1) (s)).toArray⟩))),(1,.d (.v (.string ⟨([c]).toArray⟩))),(2,.z 0),(3,.n ((l.count c))),(9,.sl 0 ((l.count c+1))),(10,.n (i+1))]) (M':=[.rw 9 1 (List.set (strs (ek c l i)) (i) [.v (.string ⟨(List.take ((bT c s).length+0) (s)).toArray⟩)])]) tk mo hK [(11,[(2,.b true)]),(12,[(2,.au (.n ((bT c s).length)))]),(13,[(1,.b false)]),(14,[(5,.z ((((bT c s).length+0:Nat):Int))),(6,.n2 ((bT c s).length+0) (0)),(7,.n (i)),(8,.ix 0 [.v (.string ⟨([]).toArray⟩)])]),(15,[(3,.z (1)),(4,.z ((((bT c s).length+1:Nat):Int))),(5,.n2 (0) ((bT c s).length+1))]),(16,[(1,.z (((i+1:Nat):Int)))])] 2000 [0] [0,1,2,3,9,10] r (by kernel_rfl) (U h0 (U aM (U h1 (U ((wi (by omega)):IntKind.i64.wrap (((((bT c s).length:Nat):Int):Int)+0)=(((bT c s).length+0:Nat):Int)) (U (aC (((bT c s).length+0:Nat):Int)) (U ((by have:=jJ ku;omega):((bT c s).length+0)≤(s:List UInt8).length) (U (aC ((i:Nat):Int)) (U ((by first | omega | (have:=jJ ku;omega)):(i)<((l.count c+1))) (U ((by first | rfl | (simp [strs,ek,ic];done) | (simp [strs,ek,ic];omega)):((l.count c+1))≤(strs (ek c l i):List (List DV)).length) (U (sh (zA (by omega)):(strs (ek c l i))[i]?=some [.v (.string ⟨([]).toArray⟩)]) (U ((by first | rfl | simp):((([c]:List UInt8).length:Nat):Int)=1) (U ((wi (by omega)):IntKind.i64.wrap (((((bT c s).length:Nat):Int):Int)+1)=(((bT c s).length+1:Nat):Int)) (U (aC (((bT c s).length+1:Nat):Int)) (U ((by have:=jJ ku;omega):((bT c s).length+1)≤(s:List UInt8).length) (U ((wi (by omega)):IntKind.i64.wrap ((((i:Nat):Int):Int)+1)=((i+1:Nat):Int)) trivial))))))))))))))) fun ac wd r=>bH (by omega) ac wd ⟨(List.drop ((bT c s).length+1) (s)),⟨by omega,DF.2,by unfold fC at gx;omega,by simp;omega⟩,r.cast rfl (by rw [Nat.add_zero,p6,Av,zz DF.1])⟩
  | true=>
   have bP:=of_decide_eq_true h1
   exact absurd bP (by omega)
theorem FX (c:UInt8) (l:List UInt8) (hl:l.length≤1048576):al Tryz.prog 101 [.d (.v (.string ⟨l.toArray⟩)),.d (.v (.string ⟨[c].toArray⟩)),.z 0,.z (-1)] (.em 9 1 (strs (aW c l))):=Ez c l hl List.count_le_length
set_option maxRecDepth 100000 in
theorem Hu (c:UInt8) (l:List UInt8) (hl:l.length≤1048576):al Tryz.prog 80 [.d (.v (.string ⟨l.toArray⟩)),.d (.v (.string ⟨([c]).toArray⟩))] (DV.em 9 1 (strs (aW c l))):=by
 refine al.intro (by kernel_rfl) rfl rfl 8 rfl rfl fun w0 K ac hK r=>?_
 rw [show (DV.em 9 1 (strs (aW c l)):DV)=.em 9 1 (strs (aW c l)) from rfl]
 exact aK tk mo hK rfl [(1,[(2,.au (.em 9 1 (strs (aW c l))))])] 2000 r (by kernel_rfl) (U (FX c l hl) (U (ft ((strs (aW c l):List (List DV)).length)) trivial))
theorem sk (c:UInt8) (l:List UInt8) (hl:l.length≤1048576):al Tryz.prog 80 [.d (.v (.string ⟨l.toArray⟩)),.d (.v (.string ⟨[c].toArray⟩))] (.ro 1 (strs (aW c l))):=by
 have h:=(Hu c l hl).stays
 simp only [ew,Ey] at h
 exact h
theorem Ax (l:List UInt8) (c:UInt8):al Tryz.prog 109 [.d (.v (.string ⟨l.toArray⟩)),.d (.v (.string ⟨[c].toArray⟩))] (.z (Go.Lib.indexByte l c)):=
 al.qd (by kernel_rfl) (zs:=[.string ⟨l.toArray⟩,.string ⟨[c].toArray⟩]) fun w=>(Tryz.stringslite_Index_one ⟨l.toArray⟩ c w).mono fun e w' ⟨he,hw⟩=>⟨he,hw▸Below.refl _ _⟩
set_option maxRecDepth 100000 in
theorem Hv (c:UInt8) (l:List UInt8) (hl:l.length≤1048576) (hc:0<l.count c):al Tryz.prog 100 [.d (.v (.string ⟨l.toArray⟩)),.d (.v (.string ⟨([c]).toArray⟩))] (.tu [.v (.string ⟨(bT c l).toArray⟩),.v (.string ⟨(fC c l).toArray⟩),.v (.bool true)]):=by
 refine al.intro (by kernel_rfl) rfl rfl 23 rfl rfl fun w0 K ac hK r=>?_
 have aM:=((by have h:=Ax l c;rw [vf hc] at h;exact h):al Tryz.prog 109 [.d (.v (.string ⟨l.toArray⟩)),.d (.v (.string ⟨([c]).toArray⟩))] (.n ((bT c l).length)))
 cases h0:(decide ((0:Int)≤(((bT c l).length:Nat):Int))) with
 | false=>
  have a7:=of_decide_eq_false h0
  exact absurd a7 (by omega)
 | true=>
  have a7:=of_decide_eq_true h0
  rw [show (.tu [.v (.string ⟨(bT c l).toArray⟩),.v (.string ⟨(fC c l).toArray⟩),.v (.bool true)]:DV)=.tu [.v (.string ⟨(List.take ((bT c l).length) (l)).toArray⟩),.v (.string ⟨(List.drop ((bT c l).length+1) (l)).toArray⟩),.v (.bool true)] from (by first | rfl | (rw [p6];rfl))]
  exact aK tk mo hK rfl [(1,[(2,.au (.n ((bT c l).length)))]),(2,[(1,.b true)]),(3,[(2,.n2 ((bT c l).length) (0)),(6,.z (1)),(7,.z ((((bT c l).length+1:Nat):Int))),(8,.n2 (0) ((bT c l).length+1))])] 2000 r (by kernel_rfl) (U aM (U h0 (U (aC (((bT c l).length:Nat):Int)) (U ((by have:=jJ hc;omega):((bT c l).length)≤(l:List UInt8).length) (U ((by first | rfl | simp):((([c]:List UInt8).length:Nat):Int)=1) (U ((wi (by have:=jJ hc;omega)):IntKind.i64.wrap (((((bT c l).length:Nat):Int):Int)+1)=(((bT c l).length+1:Nat):Int)) (U (aC (((bT c l).length+1:Nat):Int)) (U ((by have:=jJ hc;omega):((bT c l).length+1)≤(l:List UInt8).length) trivial))))))))
set_option maxRecDepth 100000 in
theorem qi (c:UInt8) (l:List UInt8) (hl:l.length≤1048576) (hc:0<l.count c):al Tryz.prog 79 [.d (.v (.string ⟨l.toArray⟩)),.d (.v (.string ⟨([c]).toArray⟩))] (.tu [.v (.string ⟨(bT c l).toArray⟩),.v (.string ⟨(fC c l).toArray⟩),.v (.bool true)]):=by
 refine al.intro (by kernel_rfl) rfl rfl 13 rfl rfl fun w0 K ac hK r=>?_
 rw [show (.tu [.v (.string ⟨(bT c l).toArray⟩),.v (.string ⟨(fC c l).toArray⟩),.v (.bool true)]:DV)=.tu [.v (.string ⟨(bT c l).toArray⟩),.v (.string ⟨(fC c l).toArray⟩),.v (.bool true)] from rfl]
 exact aK tk mo hK rfl [(1,[(2,.au (.tu [.v (.string ⟨(bT c l).toArray⟩),.v (.string ⟨(fC c l).toArray⟩),.v (.bool true)]))])] 2000 r (by kernel_rfl) (U (Hv c l hl hc) trivial)
set_option maxRecDepth 100000 in
theorem IZ (c:UInt8) (l:List UInt8) (hl:l.length≤1048576) (hc:l.count c=0):al Tryz.prog 100 [.d (.v (.string ⟨l.toArray⟩)),.d (.v (.string ⟨([c]).toArray⟩))] (.tu [.v (.string ⟨(l).toArray⟩),.v (.string ⟨([]).toArray⟩),.v (.bool false)]):=by
 refine al.intro (by kernel_rfl) rfl rfl 23 rfl rfl fun w0 K ac hK r=>?_
 rw [show (.tu [.v (.string ⟨(l).toArray⟩),.v (.string ⟨([]).toArray⟩),.v (.bool false)]:DV)=.tu [.v (.string ⟨l.toArray⟩),.v (.string .empty),.v (.bool false)] from (by first | rfl | (rw [p6];rfl))]
 exact aK tk mo hK rfl [(1,[(2,.au (.z (-1)))])] 2000 r (by kernel_rfl) (U ((by have h:=Ax l c;rw [Au hc] at h;exact h):al Tryz.prog 109 [.d (.v (.string ⟨l.toArray⟩)),.d (.v (.string ⟨([c]).toArray⟩))] (.z (-1))) trivial)
set_option maxRecDepth 100000 in
theorem Kk (c:UInt8) (l:List UInt8) (hl:l.length≤1048576) (hc:l.count c=0):al Tryz.prog 79 [.d (.v (.string ⟨l.toArray⟩)),.d (.v (.string ⟨([c]).toArray⟩))] (.tu [.v (.string ⟨(l).toArray⟩),.v (.string ⟨([]).toArray⟩),.v (.bool false)]):=by
 refine al.intro (by kernel_rfl) rfl rfl 13 rfl rfl fun w0 K ac hK r=>?_
 rw [show (.tu [.v (.string ⟨(l).toArray⟩),.v (.string ⟨([]).toArray⟩),.v (.bool false)]:DV)=.tu [.v (.string ⟨l.toArray⟩),.v (.string ⟨([]).toArray⟩),.v (.bool false)] from rfl]
 exact aK tk mo hK rfl [(1,[(2,.au (.tu [.v (.string ⟨l.toArray⟩),.v (.string ⟨([]).toArray⟩),.v (.bool false)]))])] 2000 r (by kernel_rfl) (U (IZ c l hl hc) trivial)
end Go.Proofs.YtcnpikbbmbombaaGreatDoor
namespace Go.Proofs.YtcnpikbbmbombaaGreatDoor
open Go.RowKit
theorem jM:c9 Tryz.prog 69:=by unfold c9;kernel_rfl
theorem Hw {n:Nat} (h0:1≤n) (h:n≤1048576):¬ (1:Int)≥((9223372036854775807 / n:Nat):Int):=by
 have:2≤9223372036854775807 / n:=by rw [Nat.le_div_iff_mul_le h0];omega
 omega
theorem Nf (a b:Nat):((a:Nat):Int).tdiv ((b:Nat):Int)=((a / b:Nat):Int):=(Int.ofNat_tdiv a b).symm
theorem Ng {n:Nat} (h:n≤1048576):IntKind.i64.wrap ((9223372036854775807:Int).tdiv ((n:Nat):Int))=((9223372036854775807 / n:Nat):Int):=by
 have e:=Nf 9223372036854775807 n
 rw [show (9223372036854775807:Int)=((9223372036854775807:Nat):Int) from rfl,e]
 have h2:=Nat.div_le_self 9223372036854775807 n
 generalize 9223372036854775807 / n=q at h2 ⊢
 exact wi (by omega)
def cB (r:List (List UInt8)):List UInt8:=r.flatMap fun w=>32::w
theorem FY {r:List (List UInt8)} {i:Nat} {e:List UInt8} (h:r[i]?=some e):cB (r.take (i+1))=cB (r.take i)++[32]++e:=by
 unfold cB;rw [List.take_add_one,h];simp
theorem qe (r:List (List UInt8)):(cB r).length=r.length+r.flatten.length:=by
 unfold cB;induction r with
 | nil=>rfl
 | cons x r ih=>rw [List.flatMap_cons,List.length_append,ih];simp;omega
theorem zV {r:List (List UInt8)} {i:Nat} {e:List UInt8} (h:r[i]?=some e):(r.take (i+1)).flatten.length=(r.take i).flatten.length+e.length:=by
 rw [List.take_add_one,h];simp
theorem sn (r:List (List UInt8)) (i:Nat):(r.take i).flatten.length≤r.flatten.length:=by
 have:=congrArg (fun q=>q.flatten.length) (List.take_append_drop i r)
 simp only [List.flatten_append,List.length_append] at this
 omega
theorem A7 (r:List (List UInt8)) (i:Nat):(cB (r.take i)).length≤(cB r).length:=by
 rw [qe,qe];have h1:=sn r i;have h2:(r.take i).length≤r.length:=by simp;omega
 omega
theorem I0 {r:List (List UInt8)} {i:Nat} (h:i≤r.length):i≤(cB (r.take i)).length:=by
 rw [qe,List.length_take];omega
set_option maxRecDepth 100000 in
theorem Hx (x:List UInt8) (q:List (List UInt8)) (hr:1≤q.length) (hl:q.length≤1000000) (hb:(x::q).flatten.length≤1073741824):al Tryz.prog 71 [.d (.ro 1 (strs (x::q))),.d (.v (.string ⟨([32]).toArray⟩))] (.v (.string ⟨(x++cB q).toArray⟩)):=by
 refine al.intro (by kernel_rfl) rfl rfl 75 rfl rfl fun w0 K ac hK r=>?_
 have aM:=((by first | rfl | (simp [strs];done) | (simp [strs];omega)):(((strs (x::q)).length:Nat):Int)=(((q.length+1):Nat):Int))
 cases h0:(((((q.length+1):Nat):Int):Int)==0) with
 | false=>
  have a7:=ne_of_beq_false h0
  cases h1:(((((q.length+1):Nat):Int):Int)==1) with
  | false=>
   have bP:=ne_of_beq_false h1
   have br:=((by first | rfl | (simp [strs];done) | (simp [strs];omega)):((([32]:List UInt8).length:Nat):Int)=1)
   have cT:=((wi (by omega)):IntKind.i64.wrap (((((q.length+1):Nat):Int):Int)-1)=((q.length:Nat):Int))
   have dx:=((Ng (by omega)):IntKind.i64.wrap ((9223372036854775807:Int).tdiv ((q.length:Nat):Int))=((9223372036854775807 / q.length:Nat):Int))
   cases h2:(decide ((((9223372036854775807 / q.length:Nat):Int):Int)≤1)) with
   | false=>
    have c8:=of_decide_eq_false h2
    refine aU (todo':=hd Tryz.f71 0) (E':=[(0,.d (.ro 1 (strs (x::q)))),(1,.d (.v (.string ⟨([32]).toArray⟩))),(5,.n (q.length+((x::q).take 0).flatten.length)),(39,.d (.ro 1 (strs (x::q)))),(40,.n ((q.length+1))),(41,.n 0)]) (M':=[]) tk mo hK [(1,[(1,.z ((((q.length+1):Nat):Int)))]),(2,[(0,.b false)]),(4,[(0,.b false)]),(7,[(1,.z (1))]),(8,[(1,.z (1)),(3,.z ((((q.length+1):Nat):Int))),(4,.z (((q.length:Nat):Int))),(5,.z (((9223372036854775807 / q.length:Nat):Int))),(6,.b false)]),(10,[(2,.z (1)),(4,.z ((((q.length+1):Nat):Int))),(5,.z (((q.length:Nat):Int))),(6,.z (((q.length:Nat):Int))),(7,.z (((q.length:Nat):Int)))]),(11,[(1,.z ((((q.length+1):Nat):Int)))])] 2000 [] [0,1,5,39,40,41] r (by kernel_rfl) (U aM (U h0 (U h1 (U br (U br (U aM (U cT (U dx (U ((by omega):(((q.length:Nat):Int):Int)≠0) (U h2 (U br (U aM (U cT (U ((wi (by omega)):IntKind.i64.wrap ((1:Int)*((q.length:Nat):Int))=((q.length:Nat):Int)) (U ((wi (by omega)):IntKind.i64.wrap ((0:Int)+((q.length:Nat):Int))=((q.length:Nat):Int)) (U aM trivial)))))))))))))))) fun ac wd r=>?_
    refine aF.rounds (Φ:=fun (i:Nat) ac wd=>(i≤q.length+1)∧cN [] w0 K 75 [(0,.d (.ro 1 (strs (x::q)))),(1,.d (.v (.string ⟨([32]).toArray⟩))),(5,.n (q.length+((x::q).take i).flatten.length)),(39,.d (.ro 1 (strs (x::q)))),(40,.n ((q.length+1))),(41,.n i)] [] ac wd) (q.length+1) ?_ (Nat.zero_le _) ⟨Nat.zero_le _,r⟩
    clear r
    rintro i dw bH ac wd ⟨aq,r⟩
    have Df:=sn (x::q) i
    have tA:x.length≤(x::q).flatten.length:=by simp
    have PD:(cB q).length=q.length+q.flatten.length:=qe q
    have PE:(x::q).flatten.length=x.length+q.flatten.length:=by simp
    cases h3:(decide ((((i:Nat):Int):Int)<(((q.length+1):Nat):Int))) with
    | false=>
     have dP:=of_decide_eq_false h3
     have dQ:=((by kernel_rfl):(bif true then mE Tryz.prog 69 140 else mF Tryz.prog 69 140 71 2)=true)
     have fc:=((by kernel_rfl):(bif false then mE Tryz.prog 140 69 else mF Tryz.prog 140 69 71 2)=true)
     cases h4:(decide ((((q.length+((x::q).take i).flatten.length:Nat):Int):Int)<0)) with
     | false=>
      have fa:=of_decide_eq_false h4
      cases h5:(decide ((0:Int)<((q.length+((x::q).take i).flatten.length:Nat):Int))) with
      | false=>
       have fb:=of_decide_eq_false h5
       exact absurd fb (by omega)
      | true=>
       have fb:=of_decide_eq_true h5
       refine aU (todo':=hd Tryz.f71 1) (E':=[(1,.d (.v (.string ⟨([32]).toArray⟩))),(8,.pt 0 0),(63,.d (.ro 1 (List.drop (1) (strs (x::q))))),(64,.n q.length),(65,.z 0)]) (M':=[.bx 71 [.pt 0 0,.sl 1 (0+(x).length)],.rw 5 1 ([]++ae x)]) tk mo hK [(12,[(0,.b false)]),(19,[(1,.bX 200 [(0,[(1,.bX 200 [(1,[(2,.b true),(3,.b true),(4,.b false)])])]),(1,[(1,.b false)]),(3,[(10,.z (0)),(12,.b true)]),(4,[(2,.mem [0] (.tu []) [.bx 71 [.pt 0 0,.sl 1 (0)],.rw 5 1 ([])])])])]),(20,[(1,.ix (0) [.v (.string ⟨x.toArray⟩)]),(3,.bX 200 [(1,[(1,.bX 200 [])])])]),(21,[(1,.n2 (0) (1)),(2,.z (((q.length:Nat):Int)))])] 2000 [0,1] [1,8,63,64,65] r (by kernel_rfl) (U h3 (U (jM:c9 Tryz.prog 69) (U dQ (U ((by decide):0<2) (U (xf:qu Tryz.prog 95) (U fc (U ((by decide):0<2) (U h4 (U ((wi (by omega)):IntKind.i64.wrap ((0:Int)-0)=0) (U h5 (U (Kj (q.length+((x::q).take i).flatten.length) (by omega)) (U (rfl:(0)=((0:Nat):Int)) (U (rfl:(strs (x::q))[0]?=some [.v (.string ⟨x.toArray⟩)]) (U (jM:c9 Tryz.prog 69) (U ((by kernel_rfl):js Tryz.prog 69=true) (U ((by first | rfl | (simp [ae,strs];done) | (simp [ae,strs];omega)):(0)=([]:List (List DV)).length) (U ((by first | omega | (simp [ae];omega)):(2*((0)+(x).length)+192)*1≤281474976710656) (U ((by first | omega | (simp [ae];omega)):(0)+(x).length<4611686018427387904) (U (rfl:(1:Int)=((1:Nat):Int)) (U ((by first | omega | (simp [ae,ah,ints,steps,strs];done) | (simp [ae,ah,ints,steps,strs];omega)):(1)≤(strs (x::q):List (List DV)).length) (U ((by first | rfl | (simp [strs];done) | (simp [strs];omega)):(((List.drop (1) (strs (x::q))).length:Nat):Int)=((q.length:Nat):Int)) trivial))))))))))))))))))))) fun ac wd r=>?_
       refine aF.rounds (Φ:=fun (i:Nat) ac wd=>(i≤q.length)∧cN [] w0 K 75 [(1,.d (.v (.string ⟨([32]).toArray⟩))),(8,.pt 0 0),(63,.d (.ro 1 (List.drop 1 (strs (x::q))))),(64,.n q.length),(65,.n i)] [.bx 71 [.pt 0 0,.sl 1 ((x++cB (q.take i)).length)],.rw 5 1 (ae (x++cB (q.take i)))] ac wd) (q.length) ?_ (Nat.zero_le _) ⟨Nat.zero_le _,(r).cast rfl (by simp [cB,ae])⟩
       clear r
       rintro i n8 fU ac wd ⟨ea,r⟩
       have PF:=I0 ea
       have PG:(ae (x++cB (q.take i))).length=x.length+(cB (q.take i)).length:=by simp [ae]
       have PH:=A7 q i
       have OY:=A7 q (i+1)
       have kV:(x++cB (q.take i)).length=x.length+(cB (q.take i)).length:=by simp
       cases h6:(decide ((((i:Nat):Int):Int)<((q.length:Nat):Int))) with
       | false=>
        have fL:=of_decide_eq_false h6
        rw [show (.v (.string ⟨(x++cB q).toArray⟩):DV)=.v (.string ⟨((x++cB (q.take i))).toArray⟩) from (by rw [List.take_of_length_le (by omega)])]
        exact aK tk mo hK rfl [(22,[(0,.b false)]),(27,[(0,.bX 200 [(1,[(10,.res (.v (.string ⟨((x++cB (q.take i))).toArray⟩)))])])])] 2000 r (by kernel_rfl) (U h6 (U ((by first | rfl | (simp [ae,strs];done) | (simp [ae,strs];omega)):((x++cB (q.take i)).length)=(ae (x++cB (q.take i)):List (List DV)).length) (U ((by first | omega | decide | (simp;done) | (simp;omega)):0<((x++cB (q.take i)).length)) (U ((by simp [ae]):((((x++cB (q.take i)).length:Nat):Int):Int)=(((ae (x++cB (q.take i)):List (List DV)).length:Nat):Int)) (U ((by first | omega | (simp [ae];omega)):0<(ae (x++cB (q.take i)):List (List DV)).length) (U (rfl:ae (x++cB (q.take i))=ae ((x++cB (q.take i)))) (U ((by kernel_rfl):qI Tryz.prog 121 5=true) (U ((by first | omega | decide | (simp;done) | (simp;omega)):(ae (x++cB (q.take i)):List (List DV)).length≤9223372036854775807) trivial))))))))
       | true=>
        have fL:=of_decide_eq_true h6
        obtain ⟨qy,v7⟩:∃ x_,q[i]?=some x_:=⟨_,List.getElem?_eq_getElem (by omega)⟩
        have ni:=zV v7
        have en:=sn q (i+1)
        exact aU (todo':=hd Tryz.f71 1) (E':=[(1,.d (.v (.string ⟨([32]).toArray⟩))),(8,.pt 0 0),(63,.d (.ro 1 (List.drop 1 (strs (x::q))))),(64,.n q.length),(65,.n (i+1))]) (M':=[.bx 71 [.pt 0 0,.sl 1 ((x++cB (q.take i)).length+([32]:List UInt8).length+(qy).length)],.rw 5 1 (ae (x++cB (q.take i))++ae [32]++ae qy)]) tk mo hK [(22,[(0,.b true)]),(23,[(0,.ix (i) [.v (.string ⟨qy.toArray⟩)])]),(24,[(1,.bX 200 [(1,[(1,.bX 200 [])]),(3,[(1,.z (1))])])]),(25,[(1,.bX 200 [(1,[(1,.bX 200 [])])])]),(26,[(0,.z (((i+1:Nat):Int)))])] 2000 [0,1] [1,8,63,64,65] r (by kernel_rfl) (U h6 (U (aC ((i:Nat):Int)) (U (sh v7) (U (jM:c9 Tryz.prog 69) (U ((by kernel_rfl):js Tryz.prog 69=true) (U ((by first | rfl | (simp [ae,strs];done) | (simp [ae,strs];omega)):((x++cB (q.take i)).length)=(ae (x++cB (q.take i)):List (List DV)).length) (U ((by first | omega | (simp [ae];omega)):(2*(((x++cB (q.take i)).length)+([32]:List UInt8).length)+192)*1≤281474976710656) (U ((by first | omega | (simp [ae];omega)):((x++cB (q.take i)).length)+([32]:List UInt8).length<4611686018427387904) (U br (U (jM:c9 Tryz.prog 69) (U ((by kernel_rfl):js Tryz.prog 69=true) (U ((by first | rfl | (simp [ae,strs];done) | (simp [ae,strs];omega)):((x++cB (q.take i)).length+([32]:List UInt8).length)=(ae (x++cB (q.take i))++ae [32]:List (List DV)).length) (U ((by first | omega | (simp [ae];omega)):(2*(((x++cB (q.take i)).length+([32]:List UInt8).length)+(qy).length)+192)*1≤281474976710656) (U ((by first | omega | (simp [ae];omega)):((x++cB (q.take i)).length+([32]:List UInt8).length)+(qy).length<4611686018427387904) (U ((wi (by omega)):IntKind.i64.wrap ((((i:Nat):Int):Int)+1)=((i+1:Nat):Int)) trivial))))))))))))))) fun ac wd r=>fU (by omega) ac wd ⟨(by omega),r.cast rfl (by rw [FY v7];simp [ae,Nat.add_assoc];omega)⟩
     | true=>
      have fa:=of_decide_eq_true h4
      exact absurd fa (by omega)
    | true=>
     have dP:=of_decide_eq_true h3
     obtain ⟨ui,zB⟩:∃ y_,(x::q)[i]?=some y_:=⟨_,List.getElem?_eq_getElem (by simp;omega)⟩
     have ni:=zV zB
     have en:=sn (x::q) (i+1)
     have dE:=((wi (by omega)):IntKind.i64.wrap ((9223372036854775807:Int)-((q.length+((x::q).take i).flatten.length:Nat):Int))=9223372036854775807-((q.length+((x::q).take i).flatten.length:Nat):Int))
     cases h7:(decide ((9223372036854775807-((q.length+((x::q).take i).flatten.length:Nat):Int):Int)<((ui.length:Nat):Int))) with
     | false=>
      have eh:=of_decide_eq_false h7
      exact aU (todo':=hd Tryz.f71 0) tk mo hK [(12,[(0,.b true)]),(13,[(0,.ix (i) [.v (.string ⟨ui.toArray⟩)])]),(14,[(3,.z (9223372036854775807-((q.length+((x::q).take i).flatten.length:Nat):Int))),(4,.b false)]),(16,[(3,.z (((q.length+((x::q).take (i+1)).flatten.length:Nat):Int)))]),(17,[(0,.z (((i+1:Nat):Int)))])] 2000 [] [0,1,5,39,40,41] r (by kernel_rfl) (U h3 (U (aC ((i:Nat):Int)) (U (sh zB) (U dE (U h7 (U ((wi (by omega)):IntKind.i64.wrap ((((q.length+((x::q).take i).flatten.length:Nat):Int):Int)+((ui.length:Nat):Int))=((q.length+((x::q).take (i+1)).flatten.length:Nat):Int)) (U ((wi (by omega)):IntKind.i64.wrap ((((i:Nat):Int):Int)+1)=((i+1:Nat):Int)) trivial))))))) fun ac wd r=>bH (by omega) ac wd ⟨(by omega),r⟩
     | true=>
      have eh:=of_decide_eq_true h7
      exact absurd eh (by omega)
   | true=>
    have c8:=of_decide_eq_true h2
    exact absurd c8 (Hw (by omega) (by omega))
  | true=>
   have bP:=eq_of_beq h1
   exact absurd bP (by omega)
 | true=>
  have a7:=eq_of_beq h0
  exact absurd a7 (by omega)
set_option maxRecDepth 100000 in
theorem I5 (x:List UInt8):al Tryz.prog 71 [.d (.ro 1 (strs [x])),.d (.v (.string ⟨([32]).toArray⟩))] (.v (.string ⟨x.toArray⟩)):=by
 refine al.intro (by kernel_rfl) rfl rfl 75 rfl rfl fun w0 K ac hK r=>?_
 rw [show (.v (.string ⟨x.toArray⟩):DV)=.v (.string ⟨x.toArray⟩) from rfl]
 exact aK tk mo hK rfl [(1,[(1,.z (1))]),(5,[(1,.ix (0) [.v (.string ⟨x.toArray⟩)])])] 2000 r (by kernel_rfl) (U ((by simp [strs]):(((strs [x]).length:Nat):Int)=1) (U (rfl:(0)=((0:Nat):Int)) (U (rfl:(strs [x])[0]?=some [.v (.string ⟨x.toArray⟩)]) trivial)))
def aQ:List (List UInt8)→List UInt8
 | []=>[]
 | x::r=>x++cB r
theorem wa (x:List UInt8) (r:List (List UInt8)) (hl:r.length≤1000000) (hb:(x::r).flatten.length≤1073741824):al Tryz.prog 71 [.d (.ro 1 (strs (x::r))),.d (.v (.string ⟨[32].toArray⟩))] (.v (.string ⟨(aQ (x::r)).toArray⟩)):=by
 cases r with
 | nil=>have h:=I5 x;rw [show aQ [x]=x from by simp [aQ,cB]];exact h
 | cons y r=>exact Hx x (y::r) (by simp) hl hb
end Go.Proofs.YtcnpikbbmbombaaGreatDoor
namespace Go.Proofs.YtcnpikbbmbombaaGreatDoor
open Go.RowKit
theorem EU (b j:Nat):(⟨b,0,none⟩:Addr).add j=⟨b,j,none⟩:=by rw [Go.Lib.add_plain];simp
def kQ (w:World):Prop:=∀ i,i<20→w.cell? ⟨1,i,none⟩=some (.int .u64 ((10 ^ i:Nat):Int))
theorem kQ.alloc {w:World} (h:kQ w) (o:Obj):kQ (w.alloc o):=fun i hi=>by
 have:=h i hi
 have g:Gr w (w.alloc o):=Gr.alloc w o
 exact g.sF this
open Go.Lib in
set_option maxHeartbeats 6400000 in
set_option maxRecDepth 100000 in
theorem Kl (u:Nat) (h1:1≤u) (h2:u<18446744073709551616) (w:World) (mN:kQ w):Calls Tryz.prog 106 #[.int .u64 u] w fun e w'=>e=.returned (.int .i64 (nDigits u))∧w'=w:=by
 have mixed:(Tryz.prog).follows .mixedOrders=true:=by kernel_rfl
 have t0:=Tryz.underlying0;have a0:=Tryz.isAgg0;have z0:=Tryz.sizeOf0;have v0:=Tryz.zeroValue0;have t3:=Tryz.underlying3;have a3:=Tryz.isAgg3;have z3:=Tryz.sizeOf3;have v3:=Tryz.zeroValue3;have t4:=Tryz.underlying4;have a4:=Tryz.isAgg4;have z4:=Tryz.sizeOf4;have v4:=Tryz.zeroValue4;have t40:=Tryz.underlying40;have a40:=Tryz.isAgg40;have z40:=Tryz.sizeOf40;have v40:=Tryz.zeroValue40;have t158:=Tryz.underlying158;have OZ:=Tryz.isAgg158;have O0:=Tryz.sizeOf158;have O1:=Tryz.zeroValue158
 have eL:∀ args w,(callFunc 116 args).run Tryz.prog w=.ok (.enter 116 args) w:=enters_of Tryz.func116 (by kernel_rfl) rfl
 have eP:∀ args w,(callFunc 115 args).run Tryz.prog w=.ok (.enter 115 args) w:=enters_of Tryz.func115 (by kernel_rfl) rfl
 have e2:∀ args w,(callFunc 117 args).run Tryz.prog w=.ok (.enter 117 args) w:=enters_of Tryz.func117 (by kernel_rfl) rfl
 obtain ⟨gD,Ot⟩:=numDigits_eq u h1 h2
 have hL:Go.Lib.bitLen u≤64:=bitLen_le u 64 (Nat.le_refl _) h2
 have ka:w.cell? ⟨1,l10 (Go.Lib.bitLen u),none⟩=some (.int .u64 ((10 ^ l10 (Go.Lib.bitLen u):Nat):Int)):=mN _ (by omega)
 have Ou:((u:Int)).toNat=u:=by omega
 generalize hq:l10 (Go.Lib.bitLen u)=q at gD Ot ka
 generalize hT:10 ^ q=T at gD ka
 have PI:q<20:=by omega
 have Ov:=Go.Lib.hid gD
 clear gD mN
 go_enter Tryz.func106,Tryz.ntmps106
 go_wp2_with (first
  | (go_at_fn 116;refine (Tryz.bits_Len64 _ _ (by omega) (by omega)).mono ?_;rintro e w' ⟨rfl,rfl⟩)
  | (go_at_fn 115;refine (Tryz.internal_strconv_log10Pow2 _ (by first | exact hL | (rw [Ou];exact hL)) _).mono ?_;rintro e w' ⟨rfl,rfl⟩)
  | (go_at_fn 117;refine (Tryz.internal_strconv_bool2_int _ _).mono ?_;rintro e w' ⟨rfl,rfl⟩))
 all_goals go_ret
 all_goals (
  refine ⟨?_,rfl⟩
  have gD:=Ov.out
  congr 2
  split at gD<;>simp_all<;>omega)
open Go.Lib Go.Sort in
set_option maxHeartbeats 6400000 in
set_option maxRecDepth 100000 in
theorem I6 (u:Nat) (lI:u<18446744073709551616) (w:World) (mN:kQ w):
  Calls Tryz.prog 98 #[.int .u64 u,.int .i64 10] w fun e w'=>e=.returned (.string ⟨(decDigits u).toArray⟩)∧∃ k os,w'=grow (w.drewN k) os:=by
 have mixed:(Tryz.prog).follows .mixedOrders=true:=by kernel_rfl
 have t0:=Tryz.underlying0;have a0:=Tryz.isAgg0;have z0:=Tryz.sizeOf0;have v0:=Tryz.zeroValue0;have t3:=Tryz.underlying3;have a3:=Tryz.isAgg3;have z3:=Tryz.sizeOf3;have v3:=Tryz.zeroValue3;have t4:=Tryz.underlying4;have a4:=Tryz.isAgg4;have z4:=Tryz.sizeOf4;have v4:=Tryz.zeroValue4;have t5:=Tryz.underlying5;have a5:=Tryz.isAgg5;have z5:=Tryz.sizeOf5;have v5:=Tryz.zeroValue5;have t9:=Tryz.underlying9;have a9:=Tryz.isAgg9;have z9:=Tryz.sizeOf9;have v9:=Tryz.zeroValue9;have t31:=Tryz.underlying31;have a31:=Tryz.isAgg31;have z31:=Tryz.sizeOf31;have v31:=Tryz.zeroValue31;have t40:=Tryz.underlying40;have a40:=Tryz.isAgg40;have z40:=Tryz.sizeOf40;have v40:=Tryz.zeroValue40;have t149:=Tryz.underlying149;have O2:=Tryz.isAgg149;have O3:=Tryz.sizeOf149;have O4:=Tryz.zeroValue149
 have eS:∀ args w,(callFunc 105 args).run Tryz.prog w=.ok (.enter 105 args) w:=enters_of Tryz.func105 (by kernel_rfl) rfl
 have eN:∀ args w,(callFunc 106 args).run Tryz.prog w=.ok (.enter 106 args) w:=enters_of Tryz.func106 (by kernel_rfl) rfl
 have eB:∀ args w,(callFunc 107 args).run Tryz.prog w=.ok (.enter 107 args) w:=enters_of Tryz.func107 (by kernel_rfl) rfl
 by_cases hs:u<100
 ·go_enter Tryz.func98,Tryz.ntmps98
  go_wp2_with (go_at_fn 105;refine (Tryz.internal_strconv_small u hs _).mono ?_;rintro e w' ⟨rfl,rfl⟩)
  go_ret
  exact ⟨rfl,0,#[],by simp [World.drewN_zero]⟩
 ·have DG:1≤u:=by omega
  have OS:nDigits u≤20:=by have:=numDigits_eq u DG lI;split at this<;>omega
  have yD:nDigits u≤23:=by omega
  have dN:(Tryz.prog).arrayLen 149=24:=by kernel_rfl
  have O5:∀ W,(Instr.sliceAt 149 (.pointer (some ⟨w.heap.size,0,none⟩)) none (some (.int .i64 (nDigits u:Int))) none).run Tryz.prog W=.ok (.slice (some ⟨w.heap.size,0,none⟩) (nDigits u) 24) W:=fun W=>by
   rw [run_sliceAt_array_h W 149 ⟨w.heap.size,0,none⟩ (by kernel_rfl) .i64 (nDigits u:Int) (by omega) (by rw [dN];omega)]
   go_simp
  have yP:Go.Sort.Holds (fun (b:UInt8)=>Value.int .u8 (b.toNat:Int)) (w.alloc (.cells zeros24 149)) w.heap.size 0 (Array.replicate (nDigits u) (0:UInt8)):=fun j hj=>by
   have gq:j<nDigits u:=by simpa using hj
   refine ⟨?_,World.frozen?_alloc_new _ _ _ _⟩
   rw [World.cell?_alloc_new,zeros24_at _ (by omega),getElem!_pos _ j hj]
   simp
  have CF:=Tryz.internal_strconv_formatBase10 w.heap.size 0 24 u (Array.replicate (nDigits u) 0) (w.alloc (.cells zeros24 149)) yP (by rw [Array.size_replicate];exact lt_pow_nDigits u) lI (by rw [Array.size_replicate];omega)
  rw [Array.size_replicate] at CF
  have Ow:=Go.Lib.hid yP
  clear yP dN
  go_enter Tryz.func98,Tryz.ntmps98
  go_wp2_with (go_at_fn 106;refine (Kl u DG lI _ (mN.alloc _)).mono ?_;rintro e w' ⟨rfl,rfl⟩)
  go_at_fn 107
  refine CF.mono ?_
  rintro e w' ⟨rfl,k,v',dk,rfl,hF⟩
  have PJ:(convert 31 9 (.slice (some ⟨w.heap.size,0,none⟩) (nDigits u) 24)).run Tryz.prog ((putRow (fun (b:UInt8)=>Value.int .u8 (b.toNat:Int)) (w.alloc (.cells zeros24 149)) w.heap.size 0 dk).drewN k)=.ok (.string ⟨(decDigits u).toArray⟩) ((putRow (fun (b:UInt8)=>Value.int .u8 (b.toNat:Int)) (w.alloc (.cells zeros24 149)) w.heap.size 0 dk).drewN k):=by
   have h:=run_convert_bytes_back (P:=Tryz.prog) ((putRow (fun (b:UInt8)=>Value.int .u8 (b.toNat:Int)) (w.alloc (.cells zeros24 149)) w.heap.size 0 dk).drewN k) 31 9 5 ⟨w.heap.size,0,none⟩ 24 (decDigits u) t31 t5 t9 (fun j hj=>by
    rw [row_is_numeral hF j hj,add_plain,World.cell?_drewN]
    exact cell?_putRow (fun (b:UInt8)=>Value.int .u8 (b.toNat:Int)) _ w.heap.size 0 _ dk Ow.out (by rw [hF.size,Array.size_replicate]) j (by rw [hF.size];rw [decDigits_length] at hj;exact hj))
   rw [decDigits_length] at h
   exact h
  go_wp2
  go_ret
  refine ⟨rfl,k,?_⟩
  rw [alloc_eq_grow]
  obtain ⟨Ox,-,e⟩:=putRow_grow_new (fun (b:UInt8)=>Value.int .u8 (b.toNat:Int)) w #[.cells zeros24 149] w.heap.size 0 dk (Nat.le_refl _)
  exact ⟨Ox,by rw [e];rfl⟩
open Go.Lib Go.Sort in
set_option maxHeartbeats 6400000 in
set_option maxRecDepth 100000 in
theorem Hy (u:Nat) (lI:u<18446744073709551616) (w:World) (mN:kQ w):
  Calls Tryz.prog 73 #[.int .u64 u,.int .i64 10] w fun e w'=>e=.returned (.string ⟨(decDigits u).toArray⟩)∧Below w.heap.size w w':=by
 have mixed:(Tryz.prog).follows .mixedOrders=true:=by kernel_rfl
 have t9:=Tryz.underlying9;have a9:=Tryz.isAgg9;have z9:=Tryz.sizeOf9;have v9:=Tryz.zeroValue9
 have eF:∀ args w,(callFunc 98 args).run Tryz.prog w=.ok (.enter 98 args) w:=enters_of Tryz.func98 (by kernel_rfl) rfl
 go_enter Tryz.func73,Tryz.ntmps73
 go_wp2_with (go_at_fn 98;refine (I6 u lI _ mN).mono ?_;rintro e w' ⟨rfl,k,os,rfl⟩)
 go_ret
 exact ⟨rfl,rfl,rfl,rfl,by simp [grow],fun k hk=>heap_grow_old _ _ hk⟩
def bc:List DV:=(List.range 20).map fun i=>DV.u (10 ^ i)
theorem kQ.of {K:World→Prop} {β:Beta} {u:Nat} {H:ak} (h:bF K β u (.gw 1 bc) H) {w:World} (hw:K w):kQ w:=by
 cases h with
 | gw X hl hc hr=>
  intro i hi
  have h1:bc[i]?=some (DV.u (10 ^ i)):=by simp [bc,hi]
  have aO:i<X.length:=by rw [hl];simp [bc];omega
  have h2:=hr i _ X[i] h1 (List.getElem?_eq_getElem aO)
  have h3:=hc w hw i X[i] (List.getElem?_eq_getElem aO)
  rw [EU] at h3
  have h4:X[i]=.int .u64 ((10 ^ i:Nat):Int):=by
   generalize X[i]=y at h2
   cases h2;rfl
  rw [h3,h4]
theorem qM (u:Nat) (lI:u<18446744073709551616):aE Tryz.prog 73 [.d (.v (.int .u64 u)),.d (.v (.int .i64 10))] [.gw 1 bc] (.d (.v (.string ⟨(Go.Lib.decDigits u).toArray⟩))) [.gw 1 bc]:=by
 refine ⟨by kernel_rfl,fun {D w0 K0 β F I w} ys R hK hl hr=>?_⟩
 have key:∀ {K:World→Prop} {β:Beta} {a b:Value},ax K β (.d (.v a)) b→b=a:=fun h=>by cases h with | d h=>cases h;rfl
 obtain ⟨y0,y1,rfl⟩:∃ a b,ys=[a,b]:=by
  match ys,hl with
  | [a,b],_=>exact ⟨a,b,rfl⟩
 obtain rfl:=key (hr 0 _ y0 rfl rfl)
 obtain rfl:=key (hr 1 _ y1 rfl rfl)
 have mN:kQ w:=kQ.of (R.blk 0 _ rfl) ⟨hK w R.st.kp,(Holds.app.1 R.st.holds).2⟩
 refine (Hy u lI w mN).mono ?_
 rintro e w' ⟨rfl,g⟩
 exact ⟨_,rfl,β,F,I,⟨R.len,R.blk,R.st.gr g⟩,Ext.refl _,bS.refl _,.d (.v _)⟩
theorem Km (n:Nat) (h:n<100):al Tryz.prog 70 [.d (.v (.int .i64 n))] (.v (.string ⟨(Go.Lib.decDigits n).toArray⟩)):=
 al.qd (by kernel_rfl) (zs:=[.int .i64 n]) fun w=>(Tryz.strconv_Itoa_small n h w).mono fun e w' ⟨he,hw⟩=>⟨he,hw▸Below.refl _ _⟩
end Go.Proofs.YtcnpikbbmbombaaGreatDoor
namespace Go.Proofs.YtcnpikbbmbombaaGreatDoor
open Go.RowKit
def dr (n:Nat):UInt8:=if n<10 then UInt8.ofNat (48+n) else UInt8.ofNat (87+n)
theorem sy {n:Nat} (h:n<16):([48,49,50,51,52,53,54,55,56,57,97,98,99,100,101,102]:List UInt8)[n]?=some (dr n):=by
 have key:∀ k,k<16→([48,49,50,51,52,53,54,55,56,57,97,98,99,100,101,102]:List UInt8)[k]?=some (dr k):=by decide
 exact key n h
def cx (l:List UInt8):List UInt8:=l.flatMap fun b=>[dr (b.toNat / 16),dr (b.toNat%16)]
theorem Hz {l:List UInt8} {i:Nat} {b:UInt8} (h:l[i]?=some b):cx (l.take (i+1))=cx (l.take i)++[dr (b.toNat / 16),dr (b.toNat%16)]:=by
 unfold cx;rw [List.take_add_one,h];simp
theorem dq (l:List UInt8):(cx l).length=2*l.length:=by
 unfold cx;induction l with
 | nil=>rfl
 | cons b r ih=>rw [List.flatMap_cons,List.length_append,ih];simp;omega
theorem CG (b:UInt8):((b.toNat:Nat):Int).fdiv (2 ^ (min (4:Int).toNat IntKind.u8.bits))=((b.toNat / 16:Nat):Int):=by
 show ((b.toNat:Nat):Int).fdiv 16=_
 rw [Int.fdiv_eq_ediv_of_nonneg _ (by omega)];omega
theorem B6 (b:UInt8):IntKind.u8.wrap ((BitVec.ofInt IntKind.u8.bits ((b.toNat:Nat):Int) &&& BitVec.ofInt IntKind.u8.bits 15).toNat:Int)=((b.toNat%16:Nat):Int):=by
 have hb:=b.toNat_lt
 have h1:(BitVec.ofInt 8 ((b.toNat:Nat):Int) &&& BitVec.ofInt 8 15).toNat=b.toNat%16:=by
  rw [BitVec.toNat_and]
  have e1:(BitVec.ofInt 8 ((b.toNat:Nat):Int)).toNat=b.toNat:=by simp [BitVec.toNat_ofInt]
  have e2:(BitVec.ofInt 8 15).toNat=2 ^ 4-1:=by decide
  rw [e1,e2,Nat.and_two_pow_sub_one_eq_mod]
 show IntKind.u8.wrap ((BitVec.ofInt 8 ((b.toNat:Nat):Int) &&& BitVec.ofInt 8 15).toNat:Int)=_
 rw [h1]
 simp [IntKind.wrap,IntKind.signed,IntKind.bits];omega
def eE (l:List UInt8):List UInt8:=if l=[] then [45] else cx l
set_option maxRecDepth 100000 in
theorem Ef (b:UInt8) (l:List UInt8) (hl:l.length≤16777216):al Tryz.prog 74 [.d (.ro 1 (ae (b::l)))] (.v (.string ⟨(cx (b::l)).toArray⟩)):=by
 refine al.intro (by kernel_rfl) rfl rfl 25 rfl rfl fun w0 K ac hK r=>?_
 have aM:=((by first | rfl | (simp [ae];done) | (simp [ae];omega)):(((ae (b::l)).length:Nat):Int)=(((l.length+1):Nat):Int))
 cases h0:(((((l.length+1):Nat):Int):Int)==0) with
 | false=>
  have a7:=ne_of_beq_false h0
  refine aU (todo':=hd Tryz.f74 0) (E':=[(0,.d (.ro 1 (ae (b::l)))),(2,.d (.v (.string .empty))),(6,.d (.ro 1 (ae (b::l)))),(7,.n ((l.length+1))),(8,.d (.v (.bool false))),(3,.pt 0 0),(9,.d (.ro 1 (ae (b::l)))),(10,.n ((l.length+1))),(11,.z 0)]) (M':=[.bx 71 [.d (.v (.pointer none)),.d (.v (.slice none 0 0))]]) tk mo hK [(1,[(1,.z ((((l.length+1):Nat):Int))),(2,.b false)]),(4,[(1,.z ((((l.length+1):Nat):Int)))])] 2000 [0] [0,2,6,7,8,3,9,10,11] r (by kernel_rfl) (U aM (U h0 (U aM trivial))) fun ac wd r=>?_
  cases h1:(decide ((0:Int)<(((l.length+1):Nat):Int))) with
  | false=>
   have bP:=of_decide_eq_false h1
   exact absurd bP (by omega)
  | true=>
   have bP:=of_decide_eq_true h1
   refine aU (todo':=hd Tryz.f74 0) (E':=[(3,.pt 0 0),(9,.d (.ro 1 (ae (b::l)))),(10,.n ((l.length+1))),(11,.z 1)]) (M':=[.bx 71 [.pt 0 0,.sl 1 ((1)+(1))],.rw 5 1 ([[.v (.int .u8 ((((dr (b.toNat / 16)).toNat:Nat):Int)))]]++[[.v (.int .u8 ((((dr (b.toNat%16)).toNat:Nat):Int)))]])]) tk mo hK [(5,[(0,.b true)]),(6,[(0,.ix (0) [.v (.int .u8 (((b.toNat:Nat):Int)))])]),(7,[(1,.z (((b.toNat / 16:Nat):Int))),(2,.ix (b.toNat / 16) [.v (.int .u8 ((((dr (b.toNat / 16)).toNat:Nat):Int)))]),(3,.bX 200 [(1,[(1,.bX 200 [(1,[(2,.b true),(3,.b true),(4,.b false)])])])])]),(8,[(1,.z (((b.toNat%16:Nat):Int))),(2,.ix (b.toNat%16) [.v (.int .u8 ((((dr (b.toNat%16)).toNat:Nat):Int)))]),(3,.bX 200 [(1,[(1,.bX 200 [])])])]),(9,[(0,.z (1))])] 2000 [0,2] [3,9,10,11] r (by kernel_rfl) (U h1 (U (rfl:(0)=((0:Nat):Int)) (U (rfl:(ae (b::l))[0]?=some [.v (.int .u8 (((b.toNat:Nat):Int)))]) (U ((CG _):(((b.toNat:Nat):Int):Int).fdiv (2 ^ (min (4:Int).toNat IntKind.u8.bits))=((b.toNat / 16:Nat):Int)) (U ((by first | decide | omega):(0:Int)≤4) (U (aC ((b.toNat / 16:Nat):Int)) (U (⟨_,sy (by have:=(b).toNat_lt;omega),rfl⟩:∃ u:UInt8,([48,49,50,51,52,53,54,55,56,57,97,98,99,100,101,102]:List UInt8)[b.toNat / 16]?=some u∧(.v (.int .u8 ((((dr (b.toNat / 16)).toNat:Nat):Int))):DV)=.v (.int .u8 (u.toNat:Int))) (U (jM:c9 Tryz.prog 69) (U ((by kernel_rfl):(bif true then mE Tryz.prog 69 140 else mF Tryz.prog 69 140 71 2)=true) (U ((by decide):0<2) (U (xf:qu Tryz.prog 95) (U ((by kernel_rfl):(bif false then mE Tryz.prog 140 69 else mF Tryz.prog 140 69 71 2)=true) (U ((by decide):0<2) (U ((by first | rfl | (simp [ae,dq];done) | (simp [ae,dq];omega)):(1)=([[.v (.int .u8 ((((dr (b.toNat / 16)).toNat:Nat):Int)))]]:List (List DV)).length) (U ((by first | omega | (simp [ae,dq];omega)):(2*(0+(1))+192)*1≤281474976710656) (U ((by first | omega | (simp [ae,dq];omega)):0+(1)<4611686018427387904) (U ((by simp [aD,AV.one,bf,ae,ah,ints,steps,strs]):aD ([[.v (.int .u8 ((((dr (b.toNat / 16)).toNat:Nat):Int)))]])) (U ((B6 _):IntKind.u8.wrap ((BitVec.ofInt IntKind.u8.bits (((b.toNat:Nat):Int)) &&& BitVec.ofInt IntKind.u8.bits (15)).toNat:Int)=((b.toNat%16:Nat):Int)) (U (aC ((b.toNat%16:Nat):Int)) (U (⟨_,sy (by have:=(b).toNat_lt;omega),rfl⟩:∃ u:UInt8,([48,49,50,51,52,53,54,55,56,57,97,98,99,100,101,102]:List UInt8)[b.toNat%16]?=some u∧(.v (.int .u8 ((((dr (b.toNat%16)).toNat:Nat):Int))):DV)=.v (.int .u8 (u.toNat:Int))) (U (jM:c9 Tryz.prog 69) (U ((by kernel_rfl):js Tryz.prog 69=true) (U ((by first | rfl | (simp [ae,dq];done) | (simp [ae,dq];omega)):((1))=([[.v (.int .u8 ((((dr (b.toNat / 16)).toNat:Nat):Int)))]]:List (List DV)).length) (U ((by first | rfl | (simp [ae,dq];done) | (simp [ae,dq];omega)):(1)=([[.v (.int .u8 ((((dr (b.toNat%16)).toNat:Nat):Int)))]]:List (List DV)).length) (U ((by first | omega | (simp [ae,dq];omega)):(2*(((1))+(1))+192)*1≤281474976710656) (U ((by first | omega | (simp [ae,dq];omega)):((1))+(1)<4611686018427387904) (U ((by simp [aD,AV.one,bf,ae,ah,ints,steps,strs]):aD ([[.v (.int .u8 ((((dr (b.toNat%16)).toNat:Nat):Int)))]])) (U ((wi (by omega)):IntKind.i64.wrap ((0:Int)+1)=1) trivial)))))))))))))))))))))))))))) fun ac wd r=>?_
   refine aF.rounds (Φ:=fun (i:Nat) ac wd=>(i≤l.length)∧cN [] w0 K 25 [(3,.pt 0 0),(9,.d (.ro 1 (ae (b::l)))),(10,.n ((l.length+1))),(11,.n (i+1))] [.bx 71 [.pt 0 0,.sl 1 ((cx ((b::l).take (i+1))).length)],.rw 5 1 (ae (cx ((b::l).take (i+1))))] ac wd) (l.length) ?_ (Nat.zero_le _) ⟨Nat.zero_le _,(r).cast rfl (by simp [cx,ae])⟩
   clear r
   rintro i dw bH ac wd ⟨aq,r⟩
   cases h2:(decide ((((i+1:Nat):Int):Int)<(((l.length+1):Nat):Int))) with
   | false=>
    have c8:=of_decide_eq_false h2
    rw [show (.v (.string ⟨(cx (b::l)).toArray⟩):DV)=.v (.string ⟨((cx ((b::l).take (i+1)))).toArray⟩) from (by rw [List.take_of_length_le (by simp;omega)])]
    exact aK tk mo hK rfl [(5,[(0,.b false)]),(10,[(0,.bX 200 [(1,[(10,.res (.v (.string ⟨((cx ((b::l).take (i+1)))).toArray⟩)))])])])] 2000 r (by kernel_rfl) (U h2 (U ((by first | rfl | (simp [ae,dq];done) | (simp [ae,dq];omega)):((cx ((b::l).take (i+1))).length)=(ae (cx ((b::l).take (i+1)))).length) (U ((by first | omega | decide | (simp [ae,dq];done) | (simp [ae,dq];omega)):0<((cx ((b::l).take (i+1))).length)) (U ((by simp [ae]):((((cx ((b::l).take (i+1))).length:Nat):Int):Int)=(((ae (cx ((b::l).take (i+1)))).length:Nat):Int)) (U ((by first | omega | (simp [ae,dq];done) | (simp [ae,dq];omega)):0<(ae (cx ((b::l).take (i+1)))).length) (U (rfl:ae (cx ((b::l).take (i+1)))=ae ((cx ((b::l).take (i+1))))) (U ((by kernel_rfl):qI Tryz.prog 121 5=true) (U ((by first | omega | decide | (simp [ae,dq];done) | (simp [ae,dq];omega)):(ae (cx ((b::l).take (i+1)))).length≤9223372036854775807) trivial))))))))
   | true=>
    have c8:=of_decide_eq_true h2
    obtain ⟨ef,B7⟩:∃ y_,(b::l)[i+1]?=some y_:=⟨_,List.getElem?_eq_getElem (by simp;omega)⟩
    exact aU (todo':=hd Tryz.f74 0) (E':=[(3,.pt 0 0),(9,.d (.ro 1 (ae (b::l)))),(10,.n ((l.length+1))),(11,.n (i+1+1))]) (M':=[.bx 71 [.pt 0 0,.sl 1 ((cx ((b::l).take (i+1))).length+(1)+(1))],.rw 5 1 (ae (cx ((b::l).take (i+1)))++[[.v (.int .u8 ((((dr (ef.toNat / 16)).toNat:Nat):Int)))]]++[[.v (.int .u8 ((((dr (ef.toNat%16)).toNat:Nat):Int)))]])]) tk mo hK [(5,[(0,.b true)]),(6,[(0,.ix (i+1) [.v (.int .u8 (((ef.toNat:Nat):Int)))])]),(7,[(1,.z (((ef.toNat / 16:Nat):Int))),(2,.ix (ef.toNat / 16) [.v (.int .u8 ((((dr (ef.toNat / 16)).toNat:Nat):Int)))]),(3,.bX 200 [(1,[(1,.bX 200 [])])])]),(8,[(1,.z (((ef.toNat%16:Nat):Int))),(2,.ix (ef.toNat%16) [.v (.int .u8 ((((dr (ef.toNat%16)).toNat:Nat):Int)))]),(3,.bX 200 [(1,[(1,.bX 200 [])])])]),(9,[(0,.z (((i+1+1:Nat):Int)))])] 2000 [0,1] [3,9,10,11] r (by kernel_rfl) (U h2 (U (aC ((i+1:Nat):Int)) (U (jF B7) (U ((CG _):(((ef.toNat:Nat):Int):Int).fdiv (2 ^ (min (4:Int).toNat IntKind.u8.bits))=((ef.toNat / 16:Nat):Int)) (U ((by first | decide | omega):(0:Int)≤4) (U (aC ((ef.toNat / 16:Nat):Int)) (U (⟨_,sy (by have:=(ef).toNat_lt;omega),rfl⟩:∃ u:UInt8,([48,49,50,51,52,53,54,55,56,57,97,98,99,100,101,102]:List UInt8)[ef.toNat / 16]?=some u∧(.v (.int .u8 ((((dr (ef.toNat / 16)).toNat:Nat):Int))):DV)=.v (.int .u8 (u.toNat:Int))) (U (jM:c9 Tryz.prog 69) (U ((by kernel_rfl):js Tryz.prog 69=true) (U ((by first | rfl | (simp [ae,dq];done) | (simp [ae,dq];omega)):((cx ((b::l).take (i+1))).length)=(ae (cx ((b::l).take (i+1)))).length) (U ((by first | rfl | (simp [ae,dq];done) | (simp [ae,dq];omega)):(1)=([[.v (.int .u8 ((((dr (ef.toNat / 16)).toNat:Nat):Int)))]]:List (List DV)).length) (U ((by first | omega | (simp [ae,dq];omega)):(2*(((cx ((b::l).take (i+1))).length)+(1))+192)*1≤281474976710656) (U ((by first | omega | (simp [ae,dq];omega)):((cx ((b::l).take (i+1))).length)+(1)<4611686018427387904) (U ((by simp [aD,AV.one,bf,ae,ah,ints,steps,strs]):aD ([[.v (.int .u8 ((((dr (ef.toNat / 16)).toNat:Nat):Int)))]])) (U ((B6 _):IntKind.u8.wrap ((BitVec.ofInt IntKind.u8.bits (((ef.toNat:Nat):Int)) &&& BitVec.ofInt IntKind.u8.bits (15)).toNat:Int)=((ef.toNat%16:Nat):Int)) (U (aC ((ef.toNat%16:Nat):Int)) (U (⟨_,sy (by have:=(ef).toNat_lt;omega),rfl⟩:∃ u:UInt8,([48,49,50,51,52,53,54,55,56,57,97,98,99,100,101,102]:List UInt8)[ef.toNat%16]?=some u∧(.v (.int .u8 ((((dr (ef.toNat%16)).toNat:Nat):Int))):DV)=.v (.int .u8 (u.toNat:Int))) (U (jM:c9 Tryz.prog 69) (U ((by kernel_rfl):js Tryz.prog 69=true) (U ((by first | rfl | (simp [ae,dq];done) | (simp [ae,dq];omega)):((cx ((b::l).take (i+1))).length+(1))=(ae (cx ((b::l).take (i+1)))++[[.v (.int .u8 ((((dr (ef.toNat / 16)).toNat:Nat):Int)))]]:List (List DV)).length) (U ((by first | rfl | (simp [ae,dq];done) | (simp [ae,dq];omega)):(1)=([[.v (.int .u8 ((((dr (ef.toNat%16)).toNat:Nat):Int)))]]:List (List DV)).length) (U ((by first | omega | (simp [ae,dq];omega)):(2*(((cx ((b::l).take (i+1))).length+(1))+(1))+192)*1≤281474976710656) (U ((by first | omega | (simp [ae,dq];omega)):((cx ((b::l).take (i+1))).length+(1))+(1)<4611686018427387904) (U ((by simp [aD,AV.one,bf,ae,ah,ints,steps,strs]):aD ([[.v (.int .u8 ((((dr (ef.toNat%16)).toNat:Nat):Int)))]])) (U ((wi (by omega)):IntKind.i64.wrap ((((i+1:Nat):Int):Int)+1)=((i+1+1:Nat):Int)) trivial))))))))))))))))))))))))) fun ac wd r=>bH (by omega) ac wd ⟨(by omega),r.cast rfl (by rw [Hz B7];simp [ae])⟩
 | true=>
  have a7:=eq_of_beq h0
  exact absurd a7 (by omega)
set_option maxRecDepth 100000 in
theorem Eg (a:Option Addr) (n:Nat):al Tryz.prog 74 [.d (.v (.slice a 0 n))] (.v (.string ⟨[45].toArray⟩)):=by
 refine al.intro (by kernel_rfl) rfl rfl 25 rfl rfl fun w0 K ac hK r=>?_
 rw [show (.v (.string ⟨[45].toArray⟩):DV)=.v (.string ⟨([45]).toArray⟩) from rfl]
 exact aK tk mo hK rfl [] 2000 r (by kernel_rfl) trivial
theorem EV (l:List UInt8) (hl:l.length≤16777216):al Tryz.prog 74 [.d (.ro 1 (ae l))] (.v (.string ⟨(eE l).toArray⟩)):=by
 cases l with
 | nil=>exact al.empty (pre:=[]) (post:=[]) fun a c=>Eg a c
 | cons b l=>exact Ef b l (by simp at hl;omega)
theorem EW (l:List (List UInt8)):c6 (strs l)=strs l:=by rw [kx];unfold strs;rw [List.map_map];apply List.map_congr_left;intro b _;rfl
def aV (z:Int):List UInt8:=Go.Lib.decDigits z.toNat
theorem gg (u:Nat) (h:u<18446744073709551616):(Go.Lib.decDigits u).length≤20:=by
 rw [Go.Lib.decDigits_length]
 rcases Nat.eq_zero_or_pos u with rfl | h1
 ·rw [Go.Lib.nDigits_small (by omega)];omega
 ·have:=Go.Lib.numDigits_eq u h1 h;split at this<;>omega
theorem sR {z:Int} (h0:0≤z) (h:z<100):al Tryz.prog 70 [.z z] (.v (.string ⟨(aV z).toArray⟩)):=by
 obtain ⟨n,rfl⟩:=Int.eq_ofNat_of_zero_le h0
 exact Km n (by omega)
theorem oC {z:Int} (h:z<100):(aV z).length≤20:=gg _ (by omega)
def fY (x:Int×Int):List UInt8:=aV x.1++[45]++aV x.2
def bo (c:bN):List (List UInt8):=[119,111,114,108,100]::([aV c.az]++c.ah.map fY++[[58]]++c.homes.map aV)
theorem Ay {α:Type} {f:α→List UInt8} {l:List α} {i:Nat} {x:α} (h:l[i]?=some x):(l.take (i+1)).map f=(l.take i).map f++[f x]:=by
 rw [List.take_add_one,h];simp
theorem zC {l:List (List UInt8)} {n:Nat} (h:∀ x ∈ l,x.length≤n):l.flatten.length≤n*l.length:=by
 induction l with
 | nil=>simp
 | cons x r ih=>
  have h1:=h x (by simp)
  have h2:=ih (fun y hy=>h y (by simp [hy]))
  rw [List.flatten_cons,List.length_append,List.length_cons,Nat.mul_succ];omega
theorem uJ {c:bN} (h:bU c=true):(bo c).flatten.length≤41*(bo c).length:=by
 have m:=jh h
 have hs:=m.head
 refine zC fun x hx=>?_
 unfold bo at hx
 simp only [List.mem_cons,List.mem_append,List.mem_map,List.not_mem_nil,or_false] at hx
 rcases hx with rfl | (((rfl | ⟨y,hy,rfl⟩) | rfl) | ⟨y,hy,rfl⟩)
 ·simp
 ·exact Nat.le_trans (oC (by omega)) (by omega)
 ·obtain ⟨j,hj,rfl⟩:=List.getElem_of_mem hy
  have hl:=m.link j _ (List.getElem?_eq_getElem hj)
  have h1:=oC (z:=(c.ah[j]).1) (by have:=hl.1.2;omega)
  have h2:=oC (z:=(c.ah[j]).2) (by have:=hl.2.1.2;omega)
  unfold fY;simp only [List.length_append,List.length_cons,List.length_nil];omega
 ·simp
 ·obtain ⟨j,hj,rfl⟩:=List.getElem_of_mem hy
  have hl:=m.home j _ (List.getElem?_eq_getElem hj)
  exact Nat.le_trans (oC (by have:=hl.2;omega)) (by omega)
theorem wb (c:bN):(bo c).length=3+c.ah.length+c.homes.length:=by unfold bo;simp;omega
set_option maxRecDepth 100000 in
theorem FZ (c:bN) (hm:bU c=true) (hc:c.ah.length≤100000):al Tryz.prog 40 [.ag [.z c.az,.d (.ro 2 (ah c.ah)),.d (.ro 1 (ints c.homes))]] (.v (.string ⟨(aQ (bo c)).toArray⟩)):=by
 refine al.intro (by kernel_rfl) rfl rfl 49 rfl rfl fun w0 K ac hK r=>?_
 refine aU (todo':=hd Tryz.f40 0) (E':=[(1,.pt 0 0),(3,.sl 1 (2)),(13,.d (.ro 2 (ah c.ah))),(14,.n c.ah.length),(15,.z 0)]) (M':=[.bx 25 [.z c.az,.d (.ro 2 (ah c.ah)),.d (.ro 1 (ints c.homes))],.rw 9 1 ([[.v (.string ⟨([119,111,114,108,100]).toArray⟩)],[.v (.string ⟨(aV c.az).toArray⟩)]])]) tk mo hK [(1,[(2,.au (.v (.string ⟨(aV c.az).toArray⟩)))]),(2,[(2,.z (((c.ah.length:Nat):Int)))])] 2000 [0,1] [1,3,13,14,15] r (by kernel_rfl) (U (sR (z:=c.az) (by first | omega | (have:=(jh hm).head;omega)) (by first | omega | (have:=(jh hm).head;omega))) (U ((by first | rfl | simp [ae,ah,ints,steps,strs]):(((ah c.ah).length:Nat):Int)=((c.ah.length:Nat):Int)) trivial)) fun ac wd r=>?_
 refine aF.rounds (Φ:=fun (i:Nat) ac wd=>(i≤c.ah.length)∧cN [] w0 K 49 [(1,.pt 0 0),(3,.sl 1 ((2+i))),(13,.d (.ro 2 (ah c.ah))),(14,.n c.ah.length),(15,.n i)] [.bx 25 [.z c.az,.d (.ro 2 (ah c.ah)),.d (.ro 1 (ints c.homes))],.rw 9 1 (strs ([[119,111,114,108,100]]++[aV c.az]++(c.ah.take i).map fY))] ac wd) (c.ah.length) ?_ (Nat.zero_le _) ⟨Nat.zero_le _,(r).cast rfl (by simp [strs])⟩
 clear r
 rintro i dw bH ac wd ⟨aq,r⟩
 have PK:=(jh hm).head
 cases h0:(decide ((((i:Nat):Int):Int)<((c.ah.length:Nat):Int))) with
 | false=>
  have a7:=of_decide_eq_false h0
  refine aU (todo':=hd Tryz.f40 1) (E':=[(3,.sl 0 ((2+i)+(1))),(35,.d (.ro 1 (ints c.homes))),(36,.n c.homes.length),(37,.z 0)]) (M':=[.rw 9 1 (strs ([[119,111,114,108,100]]++[aV c.az]++(c.ah.take i).map fY)++[[.v (.string ⟨([58]).toArray⟩)]])]) tk mo hK [(3,[(0,.b false)]),(8,[(2,.z (((c.homes.length:Nat):Int)))])] 2000 [1] [3,35,36,37] r (by kernel_rfl) (U h0 (U ((by first | rfl | (simp [strs];done) | (simp [strs];omega)):((2+i))=(strs ([[119,111,114,108,100]]++[aV c.az]++(c.ah.take i).map fY):List (List DV)).length) (U ((by first | rfl | (simp [strs];done) | (simp [strs];omega)):(1)=([[.v (.string ⟨([58]).toArray⟩)]]:List (List DV)).length) (U ((by first | omega | (simp [strs];done) | (simp [strs];omega)):(2*(((2+i))+(1))+192)*16≤281474976710656) (U ((by first | omega | (simp [strs];done) | (simp [strs];omega)):((2+i))+(1)<4611686018427387904) (U ((by simp [aD,AV.one,bf,strs]):aD ([[.v (.string ⟨([58]).toArray⟩)]])) (U ((by first | rfl | simp [ae,ah,ints,steps,strs]):(((ints c.homes).length:Nat):Int)=((c.homes.length:Nat):Int)) trivial))))))) fun ac wd r=>?_
  refine aF.rounds (Φ:=fun (i:Nat) ac wd=>(i≤c.homes.length)∧cN [] w0 K 49 [(3,.sl 0 ((3+c.ah.length+i))),(35,.d (.ro 1 (ints c.homes))),(36,.n c.homes.length),(37,.n i)] [.rw 9 1 (strs ([[119,111,114,108,100]]++[aV c.az]++c.ah.map fY++[[58]]++(c.homes.take i).map aV))] ac wd) (c.homes.length) ?_ (Nat.zero_le _) ⟨Nat.zero_le _,(r).cast (by rw [show 2+i+1=3+c.ah.length+0 from by omega];rfl) (by rw [List.take_of_length_le (by omega)];simp [strs])⟩
  clear r
  rintro i n8 fU ac wd ⟨ea,r⟩
  cases h1:(decide ((((i:Nat):Int):Int)<((c.homes.length:Nat):Int))) with
  | false=>
   have bP:=of_decide_eq_false h1
   rw [show (.v (.string ⟨(aQ (bo c)).toArray⟩):DV)=.v (.string ⟨(aQ (bo c)).toArray⟩) from rfl]
   exact aK tk mo hK rfl [(9,[(0,.b false)]),(13,[(1,.call [.d (.ro 1 (strs (bo c))),.d (.v (.string ⟨([32]).toArray⟩))] (.v (.string ⟨(aQ (bo c)).toArray⟩)))])] 2000 r (by kernel_rfl) (U h1 (U (wa _ _ (by simp;omega) (by have h1:=uJ hm;have h2:=wb c;unfold bo at h1 h2;omega):al Tryz.prog 71 [.d (.ro 1 (strs (bo c))),.d (.v (.string ⟨([32]).toArray⟩))] (.v (.string ⟨(aQ (bo c)).toArray⟩))) (U ((jj _):gv (.v (.string ⟨(aQ (bo c)).toArray⟩))) (U (ft (1)) (U ((by first | rfl | (simp [strs];done) | (simp [strs];omega)):((3+c.ah.length+i))=(strs ([[119,111,114,108,100]]++[aV c.az]++c.ah.map fY++[[58]]++(c.homes.take i).map aV):List (List DV)).length) (U ((by rw [List.take_of_length_le (by omega)];exact EW _):c6 (strs ([[119,111,114,108,100]]++[aV c.az]++c.ah.map fY++[[58]]++(c.homes.take i).map aV))=strs (bo c)) (U (nh (.v (.string ⟨([32]).toArray⟩))) trivial)))))))
  | true=>
   have bP:=of_decide_eq_true h1
   obtain ⟨cW,cr⟩:∃ x_,c.homes[i]?=some x_:=⟨_,List.getElem?_eq_getElem (by omega)⟩
   have Oy:=(jh hm).home i _ cr
   unfold iS at Oy
   exact aU (todo':=hd Tryz.f40 1) (E':=[(3,.sl 0 ((3+c.ah.length+i)+(1))),(35,.d (.ro 1 (ints c.homes))),(36,.n c.homes.length),(37,.n (i+1))]) (M':=[.rw 9 1 (strs ([[119,111,114,108,100]]++[aV c.az]++c.ah.map fY++[[58]]++(c.homes.take i).map aV)++[[.v (.string ⟨(aV cW).toArray⟩)]])]) tk mo hK [(9,[(0,.b true)]),(10,[(0,.ix (i) [.z cW])]),(11,[(2,.au (.v (.string ⟨(aV cW).toArray⟩)))]),(12,[(0,.z (((i+1:Nat):Int)))])] 2000 [0] [3,35,36,37] r (by kernel_rfl) (U h1 (U (aC ((i:Nat):Int)) (U (ints_at cr) (U (sR (z:=cW) (by first | omega | (have:=(jh hm).head;omega)) (by first | omega | (have:=(jh hm).head;omega))) (U ((by first | rfl | (simp [strs];done) | (simp [strs];omega)):((3+c.ah.length+i))=(strs ([[119,111,114,108,100]]++[aV c.az]++c.ah.map fY++[[58]]++(c.homes.take i).map aV):List (List DV)).length) (U ((by first | rfl | (simp [strs];done) | (simp [strs];omega)):(1)=([[.v (.string ⟨(aV cW).toArray⟩)]]:List (List DV)).length) (U ((by first | omega | (simp [strs];done) | (simp [strs];omega)):(2*(((3+c.ah.length+i))+(1))+192)*16≤281474976710656) (U ((by first | omega | (simp [strs];done) | (simp [strs];omega)):((3+c.ah.length+i))+(1)<4611686018427387904) (U ((by simp [aD,AV.one,bf,strs]):aD ([[.v (.string ⟨(aV cW).toArray⟩)]])) (U ((wi (by omega)):IntKind.i64.wrap ((((i:Nat):Int):Int)+1)=((i+1:Nat):Int)) trivial)))))))))) fun ac wd r=>fU (by omega) ac wd ⟨(by omega),r.cast rfl (by rw [Ay cr];simp [strs])⟩
 | true=>
  have a7:=of_decide_eq_true h0
  obtain ⟨aA,a8⟩:∃ x_,c.ah[i]?=some x_:=⟨_,List.getElem?_eq_getElem (by omega)⟩
  have Oz:=(jh hm).link i _ a8
  unfold iS at Oz
  have PL:=oC (z:=aA.1) (by omega)
  have tE:=oC (z:=aA.2) (by omega)
  exact aU (todo':=hd Tryz.f40 0) (E':=[(1,.pt 0 0),(3,.sl 1 ((2+i)+(1))),(13,.d (.ro 2 (ah c.ah))),(14,.n c.ah.length),(15,.n (i+1))]) (M':=[.bx 25 [.z c.az,.d (.ro 2 (ah c.ah)),.d (.ro 1 (ints c.homes))],.rw 9 1 (strs ([[119,111,114,108,100]]++[aV c.az]++(c.ah.take i).map fY)++[[.v (.string ⟨((aV aA.1)++[45]++(aV aA.2)).toArray⟩)]])]) tk mo hK [(3,[(0,.b true)]),(4,[(0,.ix (i) [.z aA.1,.z aA.2])]),(5,[(1,.n 0),(5,.n 1),(3,.au (.v (.string ⟨(aV aA.1).toArray⟩))),(7,.au (.v (.string ⟨(aV aA.2).toArray⟩)))]),(6,[(0,.z (((i+1:Nat):Int)))])] 2000 [0,1] [1,3,13,14,15] r (by kernel_rfl) (U h0 (U (aC ((i:Nat):Int)) (U (cP a8) (U (rfl:(0)=((0:Nat):Int)) (U ((by omega):(0)<2) (U (rfl:(1)=((1:Nat):Int)) (U ((by omega):(1)<2) (U (sR (z:=aA.1) (by first | omega | (have:=(jh hm).head;omega)) (by first | omega | (have:=(jh hm).head;omega))) (U ((by first | omega | decide | (simp;done) | (simp;omega)):((aV aA.1):List UInt8).length+([45]:List UInt8).length≤9223372036854775807) (U (sR (z:=aA.2) (by first | omega | (have:=(jh hm).head;omega)) (by first | omega | (have:=(jh hm).head;omega))) (U ((by first | omega | decide | (simp;done) | (simp;omega)):((aV aA.1)++[45]:List UInt8).length+((aV aA.2):List UInt8).length≤9223372036854775807) (U ((by first | rfl | (simp [strs];done) | (simp [strs];omega)):((2+i))=(strs ([[119,111,114,108,100]]++[aV c.az]++(c.ah.take i).map fY):List (List DV)).length) (U ((by first | rfl | (simp [strs];done) | (simp [strs];omega)):(1)=([[.v (.string ⟨((aV aA.1)++[45]++(aV aA.2)).toArray⟩)]]:List (List DV)).length) (U ((by first | omega | (simp [strs];done) | (simp [strs];omega)):(2*(((2+i))+(1))+192)*16≤281474976710656) (U ((by first | omega | (simp [strs];done) | (simp [strs];omega)):((2+i))+(1)<4611686018427387904) (U ((by simp [aD,AV.one,bf,strs]):aD ([[.v (.string ⟨((aV aA.1)++[45]++(aV aA.2)).toArray⟩)]])) (U ((wi (by omega)):IntKind.i64.wrap ((((i:Nat):Int):Int)+1)=((i+1:Nat):Int)) trivial))))))))))))))))) fun ac wd r=>bH (by omega) ac wd ⟨(by omega),r.cast rfl (by rw [Ay a8];simp [strs,fY])⟩
end Go.Proofs.YtcnpikbbmbombaaGreatDoor
namespace Go.Proofs.YtcnpikbbmbombaaGreatDoor
open Go.RowKit
theorem wc {x:Nat} (h:x<18446744073709551616):IntKind.u64.wrap (((x:Nat):Int).tdiv 10)=((x / 10:Nat):Int):=by
 have e:((x:Nat):Int).tdiv 10=((x / 10:Nat):Int):=(Int.ofNat_tdiv x 10).symm
 rw [e];simp [IntKind.wrap,IntKind.signed,IntKind.bits];omega
def iT (most:Nat):List UInt8→Nat→Option Nat
 | [],n=>some n
 | b::r,n=>if b.toNat<48∨57<b.toNat then none else if (most-(b.toNat-48)) / 10<n then none else iT most r (10*n+(b.toNat-48))
def aR (w:List UInt8) (most:Nat):Nat×Bool:=if w=[]∨(w.head?=some 48∧w≠[48]) then (0,false) else (match iT most w 0 with | some n=>(n,true) | none=>(0,false))
theorem la {w:List UInt8} {most:Nat} (h:w=[]∨(w.head?=some 48∧w≠[48])):aR w most=(0,false):=by unfold aR;rw [if_pos h]
theorem k8 {w:List UInt8} {most n:Nat} (h:¬ (w=[]∨(w.head?=some 48∧w≠[48]))) (e:iT most w 0=some n):aR w most=(n,true):=by unfold aR;rw [if_neg h,e]
theorem fP {w:List UInt8} {most:Nat} (h:¬ (w=[]∨(w.head?=some 48∧w≠[48]))) (e:iT most w 0=none):aR w most=(0,false):=by unfold aR;rw [if_neg h,e]
theorem lN {w:List UInt8} (h:(w==([48]:List UInt8))=false):w≠[48]:=by intro e;subst e;simp at h
theorem LI {w:List UInt8} (hw:w≠[]) (h:(w==([48]:List UInt8))=true):¬ (w=[]∨(w.head?=some 48∧w≠[48])):=by
 rintro (h1 | ⟨_,h1⟩)
 ·exact hw h1
 ·exact h1 (by simpa using h)
theorem LJ {w:List UInt8} {e:UInt8} (hw:w≠[]) (g:w[0]?=some e) (h:¬ ((e.toNat:Nat):Int)=48):¬ (w=[]∨(w.head?=some 48∧w≠[48])):=by
 rintro (h1 | ⟨h1,_⟩)
 ·exact hw h1
 ·rw [List.head?_eq_getElem?,g] at h1;cases h1;exact h rfl
theorem fx {most n i:Nat} {w:List UInt8} {b:UInt8} (h:w[i]?=some b):iT most (w.drop i) n=if b.toNat<48∨57<b.toNat then none else if (most-(b.toNat-48)) / 10<n then none else iT most (w.drop (i+1)) (10*n+(b.toNat-48)):=by
 obtain ⟨aO,rfl⟩:=List.getElem?_eq_some_iff.1 h
 rw [List.drop_eq_getElem_cons aO];rfl
theorem A8 {most:Nat}:∀ {w:List UInt8} {n k:Nat},n≤most→9≤most→iT most w n=some k→k≤most
 | [],n,k,h,_,e=>by simp [iT] at e;omega
 | b::r,n,k,h,h9,e=>by
  unfold iT at e
  split at e
  ·cases e
  ·split at e
   ·cases e
   ·exact A8 (by omega) h9 e
theorem l7 {p:Nat×Bool} {a:Nat} {b:Bool} (h:p=(a,b)):(DV.tu [.u p.1,.v (.bool p.2)]:DV)=.tu [.u a,.v (.bool b)]:=by rw [h]
theorem dZ {p:Nat×Bool} {b:Bool} (h:p=(0,b)):(DV.tu [.u p.1,.v (.bool p.2)]:DV)=.tu [.v (.int .u64 0),.v (.bool b)]:=by rw [h];rfl
theorem ld {w:List UInt8} {e:UInt8} (h:w[0]?=some e):w.head?=some e:=by rw [List.head?_eq_getElem?];exact h
theorem l8 {e:UInt8} (h:((e.toNat:Nat):Int)=48):e=48:=by apply UInt8.toNat_inj.1;simp;omega
set_option maxRecDepth 100000 in
theorem I7 (w:List UInt8) (most:Nat) (e0:UInt8) (g0:w[0]?=some e0) (hw:w≠[]) (hl:w.length≤9223372036854775807) (h9:9≤most) (hm:most<18446744073709551616):al Tryz.prog 82 [.d (.v (.string ⟨w.toArray⟩)),.u most] (.tu [.u (aR w most).1,.v (.bool (aR w most).2)]):=by
 refine al.intro (by kernel_rfl) rfl rfl 52 rfl rfl fun w0 K ac hK r=>?_
 cases h0:(w==([]:List UInt8)) with
 | false=>
  have aM:=(⟨_,g0,rfl⟩:∃ u:UInt8,(w:List UInt8)[0]?=some u∧(.v (.int .u8 (((e0.toNat:Nat):Int))):DV)=.v (.int .u8 (u.toNat:Int)))
  cases h1:((((e0.toNat:Nat):Int):Int)==48) with
  | false=>
   have bP:=ne_of_beq_false h1
   have hR:=LJ hw g0 (by assumption)
   refine aU (todo':=hd Tryz.f82 0) (E':=[(0,.d (.v (.string ⟨w.toArray⟩))),(1,.u most),(6,.u 0),(21,.n w.length),(22,.n 0)]) (M':=[]) tk mo hK [(1,[(1,.b false),(4,.ix (0) [.v (.int .u8 (((e0.toNat:Nat):Int)))]),(5,.b false)])] 2000 [] [0,1,6,21,22] r (by kernel_rfl) (U h0 (U (rfl:(0:Int)=((0:Nat):Int)) (U aM (U h1 trivial)))) fun ac wd r=>?_
   refine aF.rounds (Φ:=fun (i:Nat) ac wd=>∃ n:Nat,(iT most (w.drop i) n=iT most w 0∧n≤most)∧cN [] w0 K 52 [(0,.d (.v (.string ⟨w.toArray⟩))),(1,.u most),(6,.u n),(21,.n w.length),(22,.n i)] [] ac wd) (w.length) ?_ (Nat.zero_le _) ⟨0,⟨rfl,Nat.zero_le _⟩,r⟩
   clear r
   rintro i dw bH ac wd ⟨n,aq,r⟩
   have Dp:=aq.2
   cases h2:(decide ((((i:Nat):Int):Int)<((w.length:Nat):Int))) with
   | false=>
    have c8:=of_decide_eq_false h2
    rw [show (.tu [.u (aR w most).1,.v (.bool (aR w most).2)]:DV)=.tu [.u n,.v (.bool true)] from (by first | exact dZ (la (Or.inr ⟨(ld g0).trans (congrArg some (l8 (by assumption))),lN (by assumption)⟩)) | exact dZ (fP hR (aq.1.symm.trans ((fx eD).trans (if_pos (by omega))))) | exact dZ (fP hR (aq.1.symm.trans ((fx eD).trans ((if_neg (by omega)).trans (if_pos (by omega)))))) | exact l7 (k8 hR (aq.1.symm.trans (by rw [List.drop_of_length_le (by omega)];rfl))))]
    exact aK tk mo hK rfl [(5,[(0,.b false)])] 2000 r (by kernel_rfl) (U h2 trivial)
   | true=>
    have c8:=of_decide_eq_true h2
    obtain ⟨bJ,eD⟩:∃ x_,w[i]?=some x_:=⟨_,List.getElem?_eq_getElem (by omega)⟩
    have lX:=bJ.toNat_lt
    have br:=(⟨_,eD,rfl⟩:∃ u:UInt8,(w:List UInt8)[i]?=some u∧(.v (.int .u8 (((bJ.toNat:Nat):Int))):DV)=.v (.int .u8 (u.toNat:Int)))
    cases h3:(decide ((((bJ.toNat:Nat):Int):Int)<48)) with
    | false=>
     have dP:=of_decide_eq_false h3
     cases h4:(decide ((57:Int)<((bJ.toNat:Nat):Int))) with
     | false=>
      have fa:=of_decide_eq_false h4
      have cT:=((by rw [w8 (by omega)];omega):IntKind.u8.wrap ((((bJ.toNat:Nat):Int):Int)-48)=((bJ.toNat-48:Nat):Int))
      have dx:=((wu (by omega)):IntKind.u64.wrap (((bJ.toNat-48:Nat):Int))=((bJ.toNat-48:Nat):Int))
      have dQ:=((wu (by omega)):IntKind.u64.wrap ((((most:Nat):Int):Int)-((bJ.toNat-48:Nat):Int))=((most-(bJ.toNat-48):Nat):Int))
      have fc:=((wc (by omega)):IntKind.u64.wrap ((((most-(bJ.toNat-48):Nat):Int):Int).tdiv 10)=(((most-(bJ.toNat-48)) / 10:Nat):Int))
      cases h5:(decide (((((most-(bJ.toNat-48)) / 10:Nat):Int):Int)<((n:Nat):Int))) with
      | false=>
       have fb:=of_decide_eq_false h5
       exact aU (todo':=hd Tryz.f82 0) tk mo hK [(5,[(0,.b true)]),(7,[(2,.ix (i) [.v (.int .u8 (((bJ.toNat:Nat):Int)))]),(3,.b false),(7,.ix (i) [.v (.int .u8 (((bJ.toNat:Nat):Int)))]),(8,.b false)]),(9,[(2,.ix (i) [.v (.int .u8 (((bJ.toNat:Nat):Int)))]),(3,.z (((bJ.toNat-48:Nat):Int))),(4,.z (((bJ.toNat-48:Nat):Int)))]),(10,[(3,.z (((most-(bJ.toNat-48):Nat):Int))),(4,.z ((((most-(bJ.toNat-48)) / 10:Nat):Int))),(5,.b false)]),(12,[(1,.z (((10*n:Nat):Int))),(3,.z (((10*n+(bJ.toNat-48):Nat):Int)))]),(13,[(0,.z (((i+1:Nat):Int)))])] 2000 [] [0,1,6,21,22] r (by kernel_rfl) (U h2 (U (aC ((i:Nat):Int)) (U br (U h3 (U (aC ((i:Nat):Int)) (U br (U h4 (U (aC ((i:Nat):Int)) (U br (U cT (U dx (U dQ (U fc (U ((by decide):(10:Int)≠0) (U h5 (U ((wu (by omega)):IntKind.u64.wrap ((10:Int)*((n:Nat):Int))=((10*n:Nat):Int)) (U ((wu (by omega)):IntKind.u64.wrap ((((10*n:Nat):Int):Int)+((bJ.toNat-48:Nat):Int))=((10*n+(bJ.toNat-48):Nat):Int)) (U ((wi (by omega)):IntKind.i64.wrap ((((i:Nat):Int):Int)+1)=((i+1:Nat):Int)) trivial)))))))))))))))))) fun ac wd r=>bH (by omega) ac wd ⟨(10*n+(bJ.toNat-48)),⟨by rw [← aq.1,fx eD,if_neg (by omega),if_neg (by omega)],by omega⟩,r⟩
      | true=>
       have fb:=of_decide_eq_true h5
       rw [show (.tu [.u (aR w most).1,.v (.bool (aR w most).2)]:DV)=.tu [.v (.int .u64 0),.v (.bool false)] from (by first | exact dZ (la (Or.inr ⟨(ld g0).trans (congrArg some (l8 (by assumption))),lN (by assumption)⟩)) | exact dZ (fP hR (aq.1.symm.trans ((fx eD).trans (if_pos (by omega))))) | exact dZ (fP hR (aq.1.symm.trans ((fx eD).trans ((if_neg (by omega)).trans (if_pos (by omega)))))) | exact l7 (k8 hR (aq.1.symm.trans (by rw [List.drop_of_length_le (by omega)];rfl))))]
       exact aK tk mo hK rfl [(5,[(0,.b true)]),(7,[(2,.ix (i) [.v (.int .u8 (((bJ.toNat:Nat):Int)))]),(3,.b false),(7,.ix (i) [.v (.int .u8 (((bJ.toNat:Nat):Int)))]),(8,.b false)]),(9,[(2,.ix (i) [.v (.int .u8 (((bJ.toNat:Nat):Int)))]),(3,.z (((bJ.toNat-48:Nat):Int))),(4,.z (((bJ.toNat-48:Nat):Int)))]),(10,[(3,.z (((most-(bJ.toNat-48):Nat):Int))),(4,.z ((((most-(bJ.toNat-48)) / 10:Nat):Int))),(5,.b true)])] 2000 r (by kernel_rfl) (U h2 (U (aC ((i:Nat):Int)) (U br (U h3 (U (aC ((i:Nat):Int)) (U br (U h4 (U (aC ((i:Nat):Int)) (U br (U cT (U dx (U dQ (U fc (U ((by decide):(10:Int)≠0) (U h5 trivial)))))))))))))))
     | true=>
      have fa:=of_decide_eq_true h4
      rw [show (.tu [.u (aR w most).1,.v (.bool (aR w most).2)]:DV)=.tu [.v (.int .u64 0),.v (.bool false)] from (by first | exact dZ (la (Or.inr ⟨(ld g0).trans (congrArg some (l8 (by assumption))),lN (by assumption)⟩)) | exact dZ (fP hR (aq.1.symm.trans ((fx eD).trans (if_pos (by omega))))) | exact dZ (fP hR (aq.1.symm.trans ((fx eD).trans ((if_neg (by omega)).trans (if_pos (by omega)))))) | exact l7 (k8 hR (aq.1.symm.trans (by rw [List.drop_of_length_le (by omega)];rfl))))]
      exact aK tk mo hK rfl [(5,[(0,.b true)]),(7,[(2,.ix (i) [.v (.int .u8 (((bJ.toNat:Nat):Int)))]),(3,.b false),(7,.ix (i) [.v (.int .u8 (((bJ.toNat:Nat):Int)))]),(8,.b true)])] 2000 r (by kernel_rfl) (U h2 (U (aC ((i:Nat):Int)) (U br (U h3 (U (aC ((i:Nat):Int)) (U br (U h4 trivial)))))))
    | true=>
     have dP:=of_decide_eq_true h3
     rw [show (.tu [.u (aR w most).1,.v (.bool (aR w most).2)]:DV)=.tu [.v (.int .u64 0),.v (.bool false)] from (by first | exact dZ (la (Or.inr ⟨(ld g0).trans (congrArg some (l8 (by assumption))),lN (by assumption)⟩)) | exact dZ (fP hR (aq.1.symm.trans ((fx eD).trans (if_pos (by omega))))) | exact dZ (fP hR (aq.1.symm.trans ((fx eD).trans ((if_neg (by omega)).trans (if_pos (by omega)))))) | exact l7 (k8 hR (aq.1.symm.trans (by rw [List.drop_of_length_le (by omega)];rfl))))]
     exact aK tk mo hK rfl [(5,[(0,.b true)]),(7,[(2,.ix (i) [.v (.int .u8 (((bJ.toNat:Nat):Int)))]),(3,.b true)])] 2000 r (by kernel_rfl) (U h2 (U (aC ((i:Nat):Int)) (U br (U h3 trivial))))
  | true=>
   have bP:=eq_of_beq h1
   cases h6:(w==([48]:List UInt8)) with
   | false=>
    rw [show (.tu [.u (aR w most).1,.v (.bool (aR w most).2)]:DV)=.tu [.v (.int .u64 0),.v (.bool false)] from (by first | exact dZ (la (Or.inr ⟨(ld g0).trans (congrArg some (l8 (by assumption))),lN (by assumption)⟩)) | exact dZ (fP hR (aq.1.symm.trans ((fx eD).trans (if_pos (by omega))))) | exact dZ (fP hR (aq.1.symm.trans ((fx eD).trans ((if_neg (by omega)).trans (if_pos (by omega)))))) | exact l7 (k8 hR (aq.1.symm.trans (by rw [List.drop_of_length_le (by omega)];rfl))))]
    exact aK tk mo hK rfl [(1,[(1,.b false),(4,.ix (0) [.v (.int .u8 (((e0.toNat:Nat):Int)))]),(5,.b true),(8,.b true)])] 2000 r (by kernel_rfl) (U h0 (U (rfl:(0:Int)=((0:Nat):Int)) (U aM (U h1 (U ((by simpa [bne] using h6):(w != ([48]:List UInt8))=true) trivial)))))
   | true=>
    have hR:=LI hw (by assumption)
    refine aU (todo':=hd Tryz.f82 0) (E':=[(0,.d (.v (.string ⟨w.toArray⟩))),(1,.u most),(6,.u 0),(21,.n w.length),(22,.n 0)]) (M':=[]) tk mo hK [(1,[(1,.b false),(4,.ix (0) [.v (.int .u8 (((e0.toNat:Nat):Int)))]),(5,.b true),(8,.b false)])] 2000 [] [0,1,6,21,22] r (by kernel_rfl) (U h0 (U (rfl:(0:Int)=((0:Nat):Int)) (U aM (U h1 (U ((by simpa [bne] using h6):(w != ([48]:List UInt8))=false) trivial))))) fun ac wd r=>?_
    refine aF.rounds (Φ:=fun (i:Nat) ac wd=>∃ n:Nat,(iT most (w.drop i) n=iT most w 0∧n≤most)∧cN [] w0 K 52 [(0,.d (.v (.string ⟨w.toArray⟩))),(1,.u most),(6,.u n),(21,.n w.length),(22,.n i)] [] ac wd) (w.length) ?_ (Nat.zero_le _) ⟨0,⟨rfl,Nat.zero_le _⟩,r⟩
    clear r
    rintro i dw bH ac wd ⟨n,aq,r⟩
    have Dp:=aq.2
    cases h7:(decide ((((i:Nat):Int):Int)<((w.length:Nat):Int))) with
    | false=>
     have eh:=of_decide_eq_false h7
     rw [show (.tu [.u (aR w most).1,.v (.bool (aR w most).2)]:DV)=.tu [.u n,.v (.bool true)] from (by first | exact dZ (la (Or.inr ⟨(ld g0).trans (congrArg some (l8 (by assumption))),lN (by assumption)⟩)) | exact dZ (fP hR (aq.1.symm.trans ((fx eD).trans (if_pos (by omega))))) | exact dZ (fP hR (aq.1.symm.trans ((fx eD).trans ((if_neg (by omega)).trans (if_pos (by omega)))))) | exact l7 (k8 hR (aq.1.symm.trans (by rw [List.drop_of_length_le (by omega)];rfl))))]
     exact aK tk mo hK rfl [(5,[(0,.b false)])] 2000 r (by kernel_rfl) (U h7 trivial)
    | true=>
     have eh:=of_decide_eq_true h7
     obtain ⟨bJ,eD⟩:∃ x_,w[i]?=some x_:=⟨_,List.getElem?_eq_getElem (by omega)⟩
     have lX:=bJ.toNat_lt
     have dE:=(⟨_,eD,rfl⟩:∃ u:UInt8,(w:List UInt8)[i]?=some u∧(.v (.int .u8 (((bJ.toNat:Nat):Int))):DV)=.v (.int .u8 (u.toNat:Int)))
     cases h8:(decide ((((bJ.toNat:Nat):Int):Int)<48)) with
     | false=>
      have fM:=of_decide_eq_false h8
      cases h9:(decide ((57:Int)<((bJ.toNat:Nat):Int))) with
      | false=>
       have k6:=of_decide_eq_false h9
       have dF:=((by rw [w8 (by omega)];omega):IntKind.u8.wrap ((((bJ.toNat:Nat):Int):Int)-48)=((bJ.toNat-48:Nat):Int))
       have eK:=((wu (by omega)):IntKind.u64.wrap (((bJ.toNat-48:Nat):Int))=((bJ.toNat-48:Nat):Int))
       have gG:=((wu (by omega)):IntKind.u64.wrap ((((most:Nat):Int):Int)-((bJ.toNat-48:Nat):Int))=((most-(bJ.toNat-48):Nat):Int))
       have iw:=((wc (by omega)):IntKind.u64.wrap ((((most-(bJ.toNat-48):Nat):Int):Int).tdiv 10)=(((most-(bJ.toNat-48)) / 10:Nat):Int))
       cases cy:(decide (((((most-(bJ.toNat-48)) / 10:Nat):Int):Int)<((n:Nat):Int))) with
       | false=>
        have lJ:=of_decide_eq_false cy
        exact aU (todo':=hd Tryz.f82 0) tk mo hK [(5,[(0,.b true)]),(7,[(2,.ix (i) [.v (.int .u8 (((bJ.toNat:Nat):Int)))]),(3,.b false),(7,.ix (i) [.v (.int .u8 (((bJ.toNat:Nat):Int)))]),(8,.b false)]),(9,[(2,.ix (i) [.v (.int .u8 (((bJ.toNat:Nat):Int)))]),(3,.z (((bJ.toNat-48:Nat):Int))),(4,.z (((bJ.toNat-48:Nat):Int)))]),(10,[(3,.z (((most-(bJ.toNat-48):Nat):Int))),(4,.z ((((most-(bJ.toNat-48)) / 10:Nat):Int))),(5,.b false)]),(12,[(1,.z (((10*n:Nat):Int))),(3,.z (((10*n+(bJ.toNat-48):Nat):Int)))]),(13,[(0,.z (((i+1:Nat):Int)))])] 2000 [] [0,1,6,21,22] r (by kernel_rfl) (U h7 (U (aC ((i:Nat):Int)) (U dE (U h8 (U (aC ((i:Nat):Int)) (U dE (U h9 (U (aC ((i:Nat):Int)) (U dE (U dF (U eK (U gG (U iw (U ((by decide):(10:Int)≠0) (U cy (U ((wu (by omega)):IntKind.u64.wrap ((10:Int)*((n:Nat):Int))=((10*n:Nat):Int)) (U ((wu (by omega)):IntKind.u64.wrap ((((10*n:Nat):Int):Int)+((bJ.toNat-48:Nat):Int))=((10*n+(bJ.toNat-48):Nat):Int)) (U ((wi (by omega)):IntKind.i64.wrap ((((i:Nat):Int):Int)+1)=((i+1:Nat):Int)) trivial)))))))))))))))))) fun ac wd r=>bH (by omega) ac wd ⟨(10*n+(bJ.toNat-48)),⟨by rw [← aq.1,fx eD,if_neg (by omega),if_neg (by omega)],by omega⟩,r⟩
       | true=>
        have lJ:=of_decide_eq_true cy
        rw [show (.tu [.u (aR w most).1,.v (.bool (aR w most).2)]:DV)=.tu [.v (.int .u64 0),.v (.bool false)] from (by first | exact dZ (la (Or.inr ⟨(ld g0).trans (congrArg some (l8 (by assumption))),lN (by assumption)⟩)) | exact dZ (fP hR (aq.1.symm.trans ((fx eD).trans (if_pos (by omega))))) | exact dZ (fP hR (aq.1.symm.trans ((fx eD).trans ((if_neg (by omega)).trans (if_pos (by omega)))))) | exact l7 (k8 hR (aq.1.symm.trans (by rw [List.drop_of_length_le (by omega)];rfl))))]
        exact aK tk mo hK rfl [(5,[(0,.b true)]),(7,[(2,.ix (i) [.v (.int .u8 (((bJ.toNat:Nat):Int)))]),(3,.b false),(7,.ix (i) [.v (.int .u8 (((bJ.toNat:Nat):Int)))]),(8,.b false)]),(9,[(2,.ix (i) [.v (.int .u8 (((bJ.toNat:Nat):Int)))]),(3,.z (((bJ.toNat-48:Nat):Int))),(4,.z (((bJ.toNat-48:Nat):Int)))]),(10,[(3,.z (((most-(bJ.toNat-48):Nat):Int))),(4,.z ((((most-(bJ.toNat-48)) / 10:Nat):Int))),(5,.b true)])] 2000 r (by kernel_rfl) (U h7 (U (aC ((i:Nat):Int)) (U dE (U h8 (U (aC ((i:Nat):Int)) (U dE (U h9 (U (aC ((i:Nat):Int)) (U dE (U dF (U eK (U gG (U iw (U ((by decide):(10:Int)≠0) (U cy trivial)))))))))))))))
      | true=>
       have k6:=of_decide_eq_true h9
       rw [show (.tu [.u (aR w most).1,.v (.bool (aR w most).2)]:DV)=.tu [.v (.int .u64 0),.v (.bool false)] from (by first | exact dZ (la (Or.inr ⟨(ld g0).trans (congrArg some (l8 (by assumption))),lN (by assumption)⟩)) | exact dZ (fP hR (aq.1.symm.trans ((fx eD).trans (if_pos (by omega))))) | exact dZ (fP hR (aq.1.symm.trans ((fx eD).trans ((if_neg (by omega)).trans (if_pos (by omega)))))) | exact l7 (k8 hR (aq.1.symm.trans (by rw [List.drop_of_length_le (by omega)];rfl))))]
       exact aK tk mo hK rfl [(5,[(0,.b true)]),(7,[(2,.ix (i) [.v (.int .u8 (((bJ.toNat:Nat):Int)))]),(3,.b false),(7,.ix (i) [.v (.int .u8 (((bJ.toNat:Nat):Int)))]),(8,.b true)])] 2000 r (by kernel_rfl) (U h7 (U (aC ((i:Nat):Int)) (U dE (U h8 (U (aC ((i:Nat):Int)) (U dE (U h9 trivial)))))))
     | true=>
      have fM:=of_decide_eq_true h8
      rw [show (.tu [.u (aR w most).1,.v (.bool (aR w most).2)]:DV)=.tu [.v (.int .u64 0),.v (.bool false)] from (by first | exact dZ (la (Or.inr ⟨(ld g0).trans (congrArg some (l8 (by assumption))),lN (by assumption)⟩)) | exact dZ (fP hR (aq.1.symm.trans ((fx eD).trans (if_pos (by omega))))) | exact dZ (fP hR (aq.1.symm.trans ((fx eD).trans ((if_neg (by omega)).trans (if_pos (by omega)))))) | exact l7 (k8 hR (aq.1.symm.trans (by rw [List.drop_of_length_le (by omega)];rfl))))]
      exact aK tk mo hK rfl [(5,[(0,.b true)]),(7,[(2,.ix (i) [.v (.int .u8 (((bJ.toNat:Nat):Int)))]),(3,.b true)])] 2000 r (by kernel_rfl) (U h7 (U (aC ((i:Nat):Int)) (U dE (U h8 trivial))))
 | true=>
  exact absurd (eq_of_beq h0) hw
set_option maxRecDepth 100000 in
theorem Kn (most:Nat):al Tryz.prog 82 [.d (.v (.string ⟨([]).toArray⟩)),.u most] (.tu [.v (.int .u64 0),.v (.bool false)]):=by
 refine al.intro (by kernel_rfl) rfl rfl 52 rfl rfl fun w0 K ac hK r=>?_
 rw [show (.tu [.v (.int .u64 0),.v (.bool false)]:DV)=.tu [.v (.int .u64 0),.v (.bool false)] from rfl]
 exact aK tk mo hK rfl [(1,[(1,.b true)])] 2000 r (by kernel_rfl) (U ((by first | decide | simp):(([]:List UInt8)==[])=true) trivial)
theorem r9 (w:List UInt8) (most:Nat) (hl:w.length≤9223372036854775807) (h9:9≤most) (hm:most<18446744073709551616):al Tryz.prog 82 [.d (.v (.string ⟨w.toArray⟩)),.u most] (.tu [.u (aR w most).1,.v (.bool (aR w most).2)]):=by
 cases w with
 | nil=>exact Kn most
 | cons b r=>exact I7 (b::r) most b rfl (by simp) hl h9 hm
end Go.Proofs.YtcnpikbbmbombaaGreatDoor
