/-
  scriptParses_card, part 4 of 6: merged by program from the texts that it needs.
-/
import Derived.Test.YtcnpikbbmbombaaGreatDoorSpC
set_option linter.unusedSimpArgs false
set_option linter.unusedVariables false
set_option linter.unnecessarySimpa false
namespace Go.Proofs.YtcnpikbbmbombaaGreatDoor
open Go.RowKit
theorem q9:dB Tryz.prog 51:=by unfold dB;kernel_rfl
def bz (z:Int):UInt8:=UInt8.ofNat (z%256).toNat
theorem CC (z:Int):(((bz z).toNat:Nat):Int)=z%256:=by
 unfold bz;rw [UInt8.toNat_ofNat'];omega
theorem gW (z:Int):IntKind.u8.wrap z=(((bz z).toNat:Nat):Int):=by
 rw [CC];simp [IntKind.wrap,IntKind.signed,IntKind.bits]
theorem It (b:UInt8):bz ((b.toNat:Nat):Int)=b:=by
 apply UInt8.toNat_inj.1
 have h:=CC ((b.toNat:Nat):Int)
 have:=b.toNat_lt
 omega
theorem y9 (x:Nat):((x:Nat):Int).fdiv (2 ^ (min (8:Int).toNat IntKind.u64.bits))=((x / 256:Nat):Int):=by
 show ((x:Nat):Int).fdiv 256=_
 rw [Int.fdiv_eq_ediv_of_nonneg _ (by omega)];omega
theorem NS (x:Nat):((x:Nat):Int).fdiv (2 ^ (min (7:Int).toNat IntKind.u64.bits))=((x / 128:Nat):Int):=by
 show ((x:Nat):Int).fdiv 128=_
 rw [Int.fdiv_eq_ediv_of_nonneg _ (by omega)];omega
theorem Ld {x:Nat} (h:x<18446744073709551616):IntKind.u64.wrap ((BitVec.ofInt IntKind.u64.bits (x:Int) &&& BitVec.ofInt IntKind.u64.bits 127).toNat:Int)=((x%128:Nat):Int):=by
 have h1:(BitVec.ofInt 64 (x:Int) &&& BitVec.ofInt 64 127).toNat=x%128:=by
  rw [BitVec.toNat_and]
  have e1:(BitVec.ofInt 64 (x:Int)).toNat=x:=by simp [BitVec.toNat_ofInt];omega
  have e2:(BitVec.ofInt 64 127).toNat=2 ^ 7-1:=by decide
  rw [e1,e2,Nat.and_two_pow_sub_one_eq_mod]
 show IntKind.u64.wrap ((BitVec.ofInt 64 (x:Int) &&& BitVec.ofInt 64 127).toNat:Int)=_
 rw [h1]
 simp [IntKind.wrap,IntKind.signed,IntKind.bits];omega
theorem Mw {x:Nat} (h:x<128):IntKind.u64.wrap ((BitVec.ofInt IntKind.u64.bits (x:Int) ||| BitVec.ofInt IntKind.u64.bits 128).toNat:Int)=((x+128:Nat):Int):=by
 have h1:(BitVec.ofInt 64 (x:Int) ||| BitVec.ofInt 64 128).toNat=x+128:=by
  rw [BitVec.toNat_or]
  have e1:(BitVec.ofInt 64 (x:Int)).toNat=x:=by simp [BitVec.toNat_ofInt];omega
  have e2:(BitVec.ofInt 64 128).toNat=2 ^ 7*1:=by decide
  rw [e1,e2,Nat.or_comm,← Nat.two_pow_add_eq_or_of_lt (i:=7) (by omega)];omega
 show IntKind.u64.wrap ((BitVec.ofInt 64 (x:Int) ||| BitVec.ofInt 64 128).toNat:Int)=_
 rw [h1]
 simp [IntKind.wrap,IntKind.signed,IntKind.bits];omega
def jD (l:List UInt8):List aj:=[.rw 91 1 [[.em 5 1 (af l)]]]
theorem DP {l l':List UInt8} {rows:List (List DV)} (h:rows=af l'):([aj.rw 91 1 (List.set (List.set [[.em 5 1 (af l)]] 0 [.jk]) 0 [.em 5 1 rows])]:List aj)=jD l':=by subst h;rfl
theorem Mx {l l':List UInt8} {r0 rows:List (List DV)} (h:rows=af l'):([aj.rw 91 1 (List.set (List.set (List.set (List.set [[.em 5 1 (af l)]] 0 [.jk]) 0 [.em 5 1 r0]) 0 [.jk]) 0 [.em 5 1 rows])]:List aj)=jD l':=by subst h;rfl
def e6 (x:Nat):List UInt8:=if h:x<128 then [bz x] else bz ((x%128+128:Nat):Int)::e6 (x / 128)
termination_by x
theorem vu {x:Nat} (h:x<128):e6 x=[bz x]:=by rw [e6,dif_pos h]
theorem AW {x:Nat} (h:¬ x<128):e6 x=bz ((x%128+128:Nat):Int)::e6 (x / 128):=by rw [e6,dif_neg h]
theorem Lf {x i:Nat} (hx:x<18446744073709551616) (h:128≤x / 128 ^ i):i+1≤9:=by
 rcases Nat.lt_or_ge i 9 with h1 | h1
 ·omega
 ·have h2:128 ^ 9≤128 ^ i:=Nat.pow_le_pow_right (by omega) h1
  have h3:x / 128 ^ i≤x / 128 ^ 9:=Nat.div_le_div_left h2 (by decide)
  have:x / 128 ^ 9<128:=by rw [Nat.div_lt_iff_lt_mul (by decide)];omega
  omega
theorem Bp (x i:Nat):x / 128 ^ i / 128=x / 128 ^ (i+1):=by rw [Nat.div_div_eq_div_mul,Nat.pow_succ]
set_option maxRecDepth 100000 in
theorem yn (l:List UInt8) (x:Nat) (hl:l.length≤4294967296):aC Tryz.prog 88 [.ep 0 1 (0) 0,.u x,.z 1] [.rw 91 1 ([[.em 5 1 (af l)]])] (.tu []) (jD (l++[bz ((x:Nat):Int)])):=by
 refine aC.intro (by kernel_rfl) rfl rfl 25 rfl rfl fun D w0 K bs ac wd hK (al:bs.m=1) r=>?_
 refine bp (todo':=hd Tryz.f88 0) (E':=[(0,.ep 0 1 (0) 0),(1,.u x),(8,.z 1),(9,.z 0)]) (M':=[.rw 91 1 ([[.em 5 1 (af l)]])]) tk mo hK al [] 2000 [0] [0,1,8,9] r (by kernel_rfl) (U (q9:dB Tryz.prog 51) trivial) fun ac wd r=>?_
 refine bp (todo':=hd Tryz.f88 0) (E':=[(0,.ep 0 1 (0) 0),(1,.u (x / 256)),(8,.z 1),(9,.z 1)]) (M':=[.rw 91 1 (List.set (List.set ([[.em 5 1 (af l)]]) (0) [.jk]) (0) [.em 5 1 (af l++[[.v (.int .u8 ((((bz (((x:Nat):Int))).toNat:Nat):Int)))]])]),.dead,.dead]) tk mo hK al [(3,[(4,.ix 0 [.em 5 1 (af l)]),(6,.z ((((bz (((x:Nat):Int))).toNat:Nat):Int))),(11,.ix 0 [.jk])]),(4,[(1,.z (((x / 256:Nat):Int)))]),(5,[(0,.z (1))])] 2000 [0,1,2] [0,1,8,9] r (by kernel_rfl) (U (rfl:([[.em 5 1 (af l)]]:List (List DV))[0]?=some [.em 5 1 (af l)]) (U ((gW _):IntKind.u8.wrap (((x:Nat):Int))=(((bz (((x:Nat):Int))).toNat:Nat):Int)) (U (cK ((af l).length)) (U ((by first | rfl | (simp [af];done) | (simp [af];omega)):(1)=([[.v (.int .u8 ((((bz (((x:Nat):Int))).toNat:Nat):Int)))]]:List (List DV)).length) (U ((by first | omega | (simp [af];done) | (simp [af];omega)):(2*(((af l).length)+(1))+192)*1≤281474976710656) (U ((by first | omega | (simp [af];done) | (simp [af];omega)):((af l).length)+(1)<4611686018427387904) (U ((by simp [aW,AV.one,bQ,af,ah,ints,steps,strs]):aW ([[.v (.int .u8 ((((bz (((x:Nat):Int))).toNat:Nat):Int)))]])) (U (rfl:(List.set ([[.em 5 1 (af l)]]) (0) [.jk]:List (List DV))[0]?=some [.jk]) (U ((by first | rfl | (simp [af];done) | (simp [af];omega)):((af l).length+(1))=(af l++[[.v (.int .u8 ((((bz (((x:Nat):Int))).toNat:Nat):Int)))]]:List (List DV)).length) (U ((y9 _):(((x:Nat):Int):Int).fdiv (2 ^ (min (8:Int).toNat IntKind.u64.bits))=((x / 256:Nat):Int)) (U ((by first | decide | omega):(0:Int)≤8) (U ((wi (by omega)):IntKind.i64.wrap ((0:Int)+1)=1) trivial)))))))))))) fun ac wd r=>?_
 refine aY (y:=.tu []) (N':=[.rw 91 1 (List.set (List.set ([[.em 5 1 (af l)]]) (0) [.jk]) (0) [.em 5 1 (af l++[[.v (.int .u8 ((((bz (((x:Nat):Int))).toNat:Nat):Int)))]])])]) (rfl) ((DP (by simp [af])).symm) ?_
 exact aX tk mo hK rfl al [] 2000 [0] r (by kernel_rfl) trivial
set_option maxRecDepth 100000 in
theorem My (l:List UInt8) (x:Nat) (hl:l.length≤4294967296):aC Tryz.prog 88 [.ep 0 1 (0) 0,.u x,.z 2] [.rw 91 1 ([[.em 5 1 (af l)]])] (.tu []) (jD (l++[bz ((x:Nat):Int),bz ((x / 256:Nat):Int)])):=by
 refine aC.intro (by kernel_rfl) rfl rfl 25 rfl rfl fun D w0 K bs ac wd hK (al:bs.m=1) r=>?_
 refine bp (todo':=hd Tryz.f88 0) (E':=[(0,.ep 0 1 (0) 0),(1,.u x),(8,.z 2),(9,.z 0)]) (M':=[.rw 91 1 ([[.em 5 1 (af l)]])]) tk mo hK al [] 2000 [0] [0,1,8,9] r (by kernel_rfl) (U (q9:dB Tryz.prog 51) trivial) fun ac wd r=>?_
 refine bp (todo':=hd Tryz.f88 0) (E':=[(0,.ep 0 1 (0) 0),(1,.u (x / 256)),(8,.z 2),(9,.z 1)]) (M':=[.rw 91 1 (List.set (List.set ([[.em 5 1 (af l)]]) (0) [.jk]) (0) [.em 5 1 (af l++[[.v (.int .u8 ((((bz (((x:Nat):Int))).toNat:Nat):Int)))]])]),.dead,.dead]) tk mo hK al [(3,[(4,.ix 0 [.em 5 1 (af l)]),(6,.z ((((bz (((x:Nat):Int))).toNat:Nat):Int))),(11,.ix 0 [.jk])]),(4,[(1,.z (((x / 256:Nat):Int)))]),(5,[(0,.z (1))])] 2000 [0,1,2] [0,1,8,9] r (by kernel_rfl) (U (rfl:([[.em 5 1 (af l)]]:List (List DV))[0]?=some [.em 5 1 (af l)]) (U ((gW _):IntKind.u8.wrap (((x:Nat):Int))=(((bz (((x:Nat):Int))).toNat:Nat):Int)) (U (cK ((af l).length)) (U ((by first | rfl | (simp [af];done) | (simp [af];omega)):(1)=([[.v (.int .u8 ((((bz (((x:Nat):Int))).toNat:Nat):Int)))]]:List (List DV)).length) (U ((by first | omega | (simp [af];done) | (simp [af];omega)):(2*(((af l).length)+(1))+192)*1≤281474976710656) (U ((by first | omega | (simp [af];done) | (simp [af];omega)):((af l).length)+(1)<4611686018427387904) (U ((by simp [aW,AV.one,bQ,af,ah,ints,steps,strs]):aW ([[.v (.int .u8 ((((bz (((x:Nat):Int))).toNat:Nat):Int)))]])) (U (rfl:(List.set ([[.em 5 1 (af l)]]) (0) [.jk]:List (List DV))[0]?=some [.jk]) (U ((by first | rfl | (simp [af];done) | (simp [af];omega)):((af l).length+(1))=(af l++[[.v (.int .u8 ((((bz (((x:Nat):Int))).toNat:Nat):Int)))]]:List (List DV)).length) (U ((y9 _):(((x:Nat):Int):Int).fdiv (2 ^ (min (8:Int).toNat IntKind.u64.bits))=((x / 256:Nat):Int)) (U ((by first | decide | omega):(0:Int)≤8) (U ((wi (by omega)):IntKind.i64.wrap ((0:Int)+1)=1) trivial)))))))))))) fun ac wd r=>?_
 refine bp (todo':=hd Tryz.f88 0) (E':=[(0,.ep 0 1 (0) 0),(1,.u ((x / 256) / 256)),(8,.z 2),(9,.z 2)]) (M':=[.rw 91 1 (List.set (List.set (List.set (List.set ([[.em 5 1 (af l)]]) (0) [.jk]) (0) [.em 5 1 (af l++[[.v (.int .u8 ((((bz (((x:Nat):Int))).toNat:Nat):Int)))]])]) (0) [.jk]) (0) [.em 5 1 (af l++[[.v (.int .u8 ((((bz (((x:Nat):Int))).toNat:Nat):Int)))]]++[[.v (.int .u8 ((((bz (((x / 256:Nat):Int))).toNat:Nat):Int)))]])]),.dead,.dead,.dead,.dead]) tk mo hK al [(3,[(4,.ix 0 [.em 5 1 (af l++[[.v (.int .u8 ((((bz (((x:Nat):Int))).toNat:Nat):Int)))]])]),(6,.z ((((bz (((x / 256:Nat):Int))).toNat:Nat):Int))),(11,.ix 0 [.jk])]),(4,[(1,.z ((((x / 256) / 256:Nat):Int)))]),(5,[(0,.z (2))])] 2000 [0,1,2,3,4] [0,1,8,9] r (by kernel_rfl) (U (rfl:(List.set (List.set ([[.em 5 1 (af l)]]) (0) [.jk]) (0) [.em 5 1 (af l++[[.v (.int .u8 ((((bz (((x:Nat):Int))).toNat:Nat):Int)))]])]:List (List DV))[0]?=some [.em 5 1 (af l++[[.v (.int .u8 ((((bz (((x:Nat):Int))).toNat:Nat):Int)))]])]) (U ((gW _):IntKind.u8.wrap (((x / 256:Nat):Int))=(((bz (((x / 256:Nat):Int))).toNat:Nat):Int)) (U (cK ((af l++[[.v (.int .u8 ((((bz (((x:Nat):Int))).toNat:Nat):Int)))]]:List (List DV)).length)) (U ((by first | rfl | (simp [af];done) | (simp [af];omega)):(1)=([[.v (.int .u8 ((((bz (((x / 256:Nat):Int))).toNat:Nat):Int)))]]:List (List DV)).length) (U ((by first | omega | (simp [af];done) | (simp [af];omega)):(2*(((af l++[[.v (.int .u8 ((((bz (((x:Nat):Int))).toNat:Nat):Int)))]]:List (List DV)).length)+(1))+192)*1≤281474976710656) (U ((by first | omega | (simp [af];done) | (simp [af];omega)):((af l++[[.v (.int .u8 ((((bz (((x:Nat):Int))).toNat:Nat):Int)))]]:List (List DV)).length)+(1)<4611686018427387904) (U ((by simp [aW,AV.one,bQ,af,ah,ints,steps,strs]):aW ([[.v (.int .u8 ((((bz (((x / 256:Nat):Int))).toNat:Nat):Int)))]])) (U (rfl:(List.set (List.set (List.set ([[.em 5 1 (af l)]]) (0) [.jk]) (0) [.em 5 1 (af l++[[.v (.int .u8 ((((bz (((x:Nat):Int))).toNat:Nat):Int)))]])]) (0) [.jk]:List (List DV))[0]?=some [.jk]) (U ((by first | rfl | (simp [af];done) | (simp [af];omega)):((af l++[[.v (.int .u8 ((((bz (((x:Nat):Int))).toNat:Nat):Int)))]]:List (List DV)).length+(1))=(af l++[[.v (.int .u8 ((((bz (((x:Nat):Int))).toNat:Nat):Int)))]]++[[.v (.int .u8 ((((bz (((x / 256:Nat):Int))).toNat:Nat):Int)))]]:List (List DV)).length) (U ((y9 _):(((x / 256:Nat):Int):Int).fdiv (2 ^ (min (8:Int).toNat IntKind.u64.bits))=(((x / 256) / 256:Nat):Int)) (U ((by first | decide | omega):(0:Int)≤8) (U ((wi (by omega)):IntKind.i64.wrap ((1:Int)+1)=2) trivial)))))))))))) fun ac wd r=>?_
 refine aY (y:=.tu []) (N':=[.rw 91 1 (List.set (List.set (List.set (List.set ([[.em 5 1 (af l)]]) (0) [.jk]) (0) [.em 5 1 (af l++[[.v (.int .u8 ((((bz (((x:Nat):Int))).toNat:Nat):Int)))]])]) (0) [.jk]) (0) [.em 5 1 (af l++[[.v (.int .u8 ((((bz (((x:Nat):Int))).toNat:Nat):Int)))]]++[[.v (.int .u8 ((((bz (((x / 256:Nat):Int))).toNat:Nat):Int)))]])])]) (rfl) ((Mx (by simp [af])).symm) ?_
 exact aX tk mo hK rfl al [] 2000 [0] r (by kernel_rfl) trivial
set_option maxRecDepth 100000 in
theorem kY (l:List UInt8) (b:UInt8) (hl:l.length≤4294967296):aC Tryz.prog 53 [.ep 0 1 (0) 0,.d (.v (.int .u8 (((b.toNat:Nat):Int))))] [.rw 91 1 ([[.em 5 1 (af l)]])] (.tu []) (jD (l++[b])):=by
 refine aC.intro (by kernel_rfl) rfl rfl 8 rfl rfl fun D w0 K bs ac wd hK (al:bs.m=1) r=>?_
 refine aY (y:=.tu []) (N':=[.rw 91 1 ([[.em 5 1 (af (l++[bz ((b.toNat:Nat):Int)]))]])]) (rfl) ((by rw [It];rfl)) ?_
 exact aX tk mo hK rfl al [(0,[(2,.z (((b.toNat:Nat):Int))),(3,.mem [0] (.tu []) [.rw 91 1 ([[.em 5 1 (af (l++[bz ((b.toNat:Nat):Int)]))]])])])] 2000 [0] r (by kernel_rfl) (U ((wu ⟨rfl,by omega,by have:=b.toNat_lt;omega⟩):IntKind.u64.wrap (((b.toNat:Nat):Int))=((b.toNat:Nat):Int)) (U (yn l b.toNat (by omega)) trivial))
set_option maxRecDepth 100000 in
theorem NT (l:List UInt8) (x:Nat) (hx:x<65536) (hl:l.length≤4294967296):aC Tryz.prog 55 [.ep 0 1 (0) 0,.d (.v (.int .u16 (((x:Nat):Int))))] [.rw 91 1 ([[.em 5 1 (af l)]])] (.tu []) (jD (l++[bz ((x:Nat):Int),bz ((x / 256:Nat):Int)])):=by
 refine aC.intro (by kernel_rfl) rfl rfl 8 rfl rfl fun D w0 K bs ac wd hK (al:bs.m=1) r=>?_
 refine aY (y:=.tu []) (N':=[.rw 91 1 ([[.em 5 1 (af (l++[bz ((x:Nat):Int),bz ((x / 256:Nat):Int)]))]])]) (rfl) (rfl) ?_
 exact aX tk mo hK rfl al [(0,[(2,.z (((x:Nat):Int))),(3,.mem [0] (.tu []) [.rw 91 1 ([[.em 5 1 (af (l++[bz ((x:Nat):Int),bz ((x / 256:Nat):Int)]))]])])])] 2000 [0] r (by kernel_rfl) (U ((wu (by omega)):IntKind.u64.wrap (((x:Nat):Int))=((x:Nat):Int)) (U (My l x (by omega)) trivial))
set_option maxRecDepth 100000 in
theorem Mz (l:List UInt8) (x:Nat) (hx:x<18446744073709551616) (hl:l.length≤4294967200):aC Tryz.prog 56 [.ep 0 1 (0) 0,.u x] [.rw 91 1 ([[.em 5 1 (af l)]])] (.tu []) (jD (l++e6 x)):=by
 refine aC.intro (by kernel_rfl) rfl rfl 16 rfl rfl fun D w0 K bs ac wd hK (al:bs.m=1) r=>?_
 refine bp (todo':=hd Tryz.f56 0) (E':=[(0,.ep 0 1 (0) 0),(1,.u x)]) (M':=[.rw 91 1 ([[.em 5 1 (af l)]])]) tk mo hK al [] 2000 [0] [0,1] r (by kernel_rfl) trivial fun ac wd r=>?_
 refine aF.rounds (Φ:=fun (i:Nat) ac wd=>∃ o:List UInt8,(o.length=l.length+i∧l++e6 x=o++e6 (x / 128 ^ i))∧RB D w0 K 16 bs [(0,.ep 0 1 (0) 0),(1,.u (x / 128 ^ i))] [.rw 91 1 ([[.em 5 1 (af o)]])] ac wd) (9) ?_ (Nat.zero_le _) ⟨l,⟨rfl,by simp⟩,(r).cast (by simp) (by simp)⟩
 clear r
 rintro i dw bj ac wd ⟨o,ao,r⟩
 obtain ⟨Qn,ao⟩:=ao
 cases h0:(decide ((128:Int)≤((x / 128 ^ i:Nat):Int))) with
 | false=>
  have aT:=of_decide_eq_false h0
  refine aY (y:=.tu []) (N':=[.rw 91 1 ([[.em 5 1 (af (o++[bz ((x / 128 ^ i:Nat):Int)]))]])]) (rfl) ((by rw [ao,vu (by omega)];rfl)) ?_
  exact aX tk mo hK rfl al [(0,[(1,.b false)]),(3,[(2,.mem [0] (.tu []) [.rw 91 1 ([[.em 5 1 (af (o++[bz ((x / 128 ^ i:Nat):Int)]))]])])])] 2000 [0] r (by kernel_rfl) (U h0 (U (yn o (x / 128 ^ i) (by omega)) trivial))
 | true=>
  have aT:=of_decide_eq_true h0
  exact bp (todo':=hd Tryz.f56 0) tk mo hK al [(0,[(1,.b true)]),(1,[(1,.z (((x / 128 ^ (i+1):Nat):Int)))]),(2,[(2,.z (((x / 128 ^ i%128:Nat):Int))),(3,.z (((x / 128 ^ i%128+128:Nat):Int))),(4,.mem [0] (.tu []) [.rw 91 1 ([[.em 5 1 (af (o++[bz ((x / 128 ^ i%128+128:Nat):Int)]))]])])])] 2000 [0] [0,1] r (by kernel_rfl) (U h0 (U ((Ld (by have:=Nat.div_le_self x (128 ^ i);omega)):IntKind.u64.wrap ((BitVec.ofInt IntKind.u64.bits (((x / 128 ^ i:Nat):Int)) &&& BitVec.ofInt IntKind.u64.bits (127)).toNat:Int)=((x / 128 ^ i%128:Nat):Int)) (U ((Mw (by omega)):IntKind.u64.wrap ((BitVec.ofInt IntKind.u64.bits (((x / 128 ^ i%128:Nat):Int)) ||| BitVec.ofInt IntKind.u64.bits (128)).toNat:Int)=((x / 128 ^ i%128+128:Nat):Int)) (U (yn o (x / 128 ^ i%128+128) (by omega)) (U ((by rw [NS,Bp]):(((x / 128 ^ i:Nat):Int):Int).fdiv (2 ^ (min (7:Int).toNat IntKind.u64.bits))=((x / 128 ^ (i+1):Nat):Int)) (U ((by first | decide | omega):(0:Int)≤7) trivial)))))) fun ac wd r=>bj (by have:=Lf (i:=i) hx (by omega);omega) ac wd ⟨(o++[bz ((x / 128 ^ i%128+128:Nat):Int)]),⟨by simp;omega,by rw [ao,AW (by omega),Bp,List.append_assoc];rfl⟩,r⟩
set_option maxRecDepth 100000 in
theorem NU (l b:List UInt8) (hb:b.length≤4294967296) (hl:l.length≤4294967296):aC Tryz.prog 57 [.ep 0 1 (0) 0,.d (.ro 1 (af b))] [.rw 91 1 ([[.em 5 1 (af l)]])] (.tu []) (jD (l++b)):=by
 refine aC.intro (by kernel_rfl) rfl rfl 15 rfl rfl fun D w0 K bs ac wd hK (al:bs.m=1) r=>?_
 refine aY (y:=.tu []) (N':=[.rw 91 1 (List.set (List.set ([[.em 5 1 (af l)]]) (0) [.jk]) (0) [.em 5 1 (af l++(af b))])]) (rfl) ((DP (by simp [af])).symm) ?_
 exact aX tk mo hK rfl al [(1,[(4,.ix 0 [.em 5 1 (af l)]),(9,.ix 0 [.jk])])] 2000 [0] r (by kernel_rfl) (U (q9:dB Tryz.prog 51) (U (rfl:([[.em 5 1 (af l)]]:List (List DV))[0]?=some [.em 5 1 (af l)]) (U (cK ((af l).length)) (U ((by first | omega | (simp [af];done) | (simp [af];omega)):(2*(((af l).length)+(af b).length)+192)*1≤281474976710656) (U ((by first | omega | (simp [af];done) | (simp [af];omega)):((af l).length)+(af b).length<4611686018427387904) (U ((by simp [aW,AV.one,bQ,af,ah,ints,steps,strs]):aW (af b)) (U (rfl:(List.set ([[.em 5 1 (af l)]]) (0) [.jk]:List (List DV))[0]?=some [.jk]) (U ((by first | rfl | (simp [af];done) | (simp [af];omega)):((af l).length+(af b).length)=(af l++(af b):List (List DV)).length) trivial))))))))
set_option maxRecDepth 100000 in
theorem Ff (l:List UInt8) (h0:0<l.length) (hb:l.length<2147483648):ay Tryz.prog 58 [.d (.ro 1 (af l))] (DV.em 5 1 (af l)):=by
 refine ay.intro (by kernel_rfl) rfl rfl 8 rfl rfl fun w0 K ac hK r=>?_
 rw [show (DV.em 5 1 (af l):DV)=.em 5 1 ([]++(af l)) from rfl]
 exact aV tk mo hK rfl [] 2000 r (by kernel_rfl) (U ((by simpa [af] using h0):0<(af l).length) (U ((by simp):(0)=([]:List (List DV)).length) (U ((by simp [af];omega):(2*((0)+(af l).length)+192)*1≤281474976710656) (U ((by simp [af];omega):(0)+(af l).length<4611686018427387904) (U ((by simp [aW,AV.one,bQ,af]):aW (af l)) (U ((by simp):(0+(af l).length)=([]++(af l):List (List DV)).length) trivial))))))
set_option maxRecDepth 100000 in
theorem Fg (c:Nat):ay Tryz.prog 58 [.d (.v (.slice none 0 c))] (DV.v (.slice none 0 0)):=by
 refine ay.intro (by kernel_rfl) rfl rfl 8 rfl rfl fun w0 K ac hK r=>?_
 exact aV tk mo hK rfl [] 2000 r (by kernel_rfl) trivial
set_option maxRecDepth 100000 in
theorem Fp (a:Addr) (c:Nat):ay Tryz.prog 58 [.d (.v (.slice (some a) 0 c))] (DV.em 5 1 ([]++[])):=by
 refine ay.intro (by kernel_rfl) rfl rfl 8 rfl rfl fun w0 K ac hK r=>?_
 exact aV tk mo hK rfl [] 2000 r (by kernel_rfl) (U ((by simp):(0)=([]:List (List DV)).length) (U ((by simp):(2*((0)+0)+192)*1≤281474976710656) (U ((by simp):(0)+0<4611686018427387904) (U ((by simp [aW]):aW (([]:List (List DV)))) (U ((by simp):(0+0)=([]++([]:List (List DV)):List (List DV)).length) trivial)))))
theorem vk (l:List UInt8) (hb:l.length<2147483648):ay Tryz.prog 58 [.d (.ro 1 (af l))] (.em 5 1 (af l)):=by
 cases l with
 | nil=>
  refine ay.empty (pre:=[]) (post:=[]) fun a c=>?_
  cases a with
  | none=>exact ay.nil 5 1 (Fg c)
  | some a=>exact Fp a c
 | cons b l=>exact Ff (b::l) (by simp) hb
theorem AX (l:List UInt8) (hb:l.length<2147483648):ay Tryz.prog 58 [.d (.ro 1 (af l))] (.ro 1 (af l)):=by
 have h:=(vk l hb).stays
 simp only [fa,vd] at h
 exact h
theorem ft (x:Value):fe (.v x):=by intro K K2 y H h;cases h;exact .v _
theorem Lg {T:Nat} {rows:List (List DV)} (h:∀ (i:Nat) r (j:Nat) c,rows[i]?=some r→r[j]?=some c→fe c):fe (.em T 1 rows):=by
 intro K K' y H hd
 cases hd with
 | em X F hl hs hr=>exact .em X F hl hs fun i r j c x h1 h2 h3=>h i r j c h1 h2 _ _ _ _ (hr i r j c x h1 h2 h3)
theorem vv (T:Nat) (l:List UInt8):fe (.em T 1 (af l)):=Lg fun i r j c h1 h2=>by
 simp only [af,List.getElem?_map,Option.map_eq_some_iff] at h1
 obtain ⟨b,-,rfl⟩:=h1
 cases j with
 | zero=>simp at h2;subst h2;exact ft _
 | succ j=>simp at h2
set_option maxRecDepth 100000 in
theorem Lh (l:List UInt8) (hl:l.length<2147483648):aC Tryz.prog 27 [.ep 0 1 (0) 0] [.rw 91 1 ([[.em 5 1 (af l)]])] (.sl 1 l.length) ([.rw 91 1 (List.set [[.em 5 1 (af l)]] 0 [.jk]),.rw 5 1 (af l)]):=by
 refine aC.intro (by kernel_rfl) rfl rfl 10 rfl rfl fun D w0 K bs ac wd hK (al:bs.m=1) r=>?_
 refine aY (y:=.sl 1 ((af l).length)) (N':=[.rw 91 1 (List.set ([[.em 5 1 (af l)]]) (0) [.jk]),.rw 5 1 (af l)]) ((by simp [af])) (rfl) ?_
 exact aX tk mo hK rfl al [(3,[(3,.ix 0 [.em 5 1 (af l)]),(4,.call [.d (.ro 1 (af l))] (.em 5 1 (af l)))])] 2000 [0,2] r (by kernel_rfl) (U (q9:dB Tryz.prog 51) (U (rfl:([[.em 5 1 (af l)]]:List (List DV))[0]?=some [.em 5 1 (af l)]) (U (vk _ (by omega):ay Tryz.prog 58 [.d (.ro 1 (af l))] (.em 5 1 (af l))) (U ((vv _ _):fe (.em 5 1 (af l))) (U (cK (1)) (U (cK ((af l).length)) (U ((vd _):b5 (af l)=af l) trivial)))))))
set_option maxRecDepth 100000 in
theorem DQ :aC Tryz.prog 22 [] [] (.pt 0 0) ([.bx 91 [.d (.v (.slice none 0 0))]]):=by
 refine aC.intro (by kernel_rfl) rfl rfl 3 rfl rfl fun D w0 K bs ac wd hK (al:bs.m=0) r=>?_
 refine aY (y:=.pt 0 0) (N':=[.bx 91 [.d (.v (.slice none 0 0))]]) (rfl) (rfl) ?_
 exact aX tk mo hK rfl al [] 2000 [0] r (by kernel_rfl) trivial
set_option maxRecDepth 100000 in
theorem MA (a:Option Addr) (n c:Nat):ay Tryz.prog 25 [.rp [.v (.slice a n c)] 0] (DV.n n):=by
 refine ay.intro (by kernel_rfl) rfl rfl 10 rfl rfl fun w0 K ac hK r=>?_
 rw [show (DV.n n:DV)=.n n from rfl]
 exact aV tk mo hK rfl [] 2000 r (by kernel_rfl) (U (q9:dB Tryz.prog 51) trivial)
theorem aC.NV {P:Program} {f:FuncId} {T T2:Nat} {rows:List (List DV)} {x:DV} (h:∀ (a:Option Addr) (c:Nat),ay P f [.rp [.v (.slice a rows.length c)] 0] x) (hx:fe x) (hs:∀ {K:World→Prop} {y:Value} {H:aq},bV K x y H→bV K x y []):aC P f [.ep 0 1 0 0] [.rw T 1 [[.em T2 1 rows]]] (.d x) [.rw T 1 [[.em T2 1 rows]]]:=by
 refine ⟨(h none 0).1,fun {D w0 K0 β F I w} ys R hK hl hr=>?_⟩
 obtain ⟨y,rfl⟩:∃ y,ys=[y]:=by
  cases ys with
  | nil=>simp at hl
  | cons y r=>cases r with
   | nil=>exact ⟨y,rfl⟩
   | cons _ _=>simp at hl
 have hy:=hr 0 _ y rfl rfl
 cases hy with
 | @ep _ _ _ _ b cc hb=>
 obtain ⟨H,hF,hB,hH⟩:=R.at (u:=0) rfl
 cases hB with
 | rw aQ X G nL kQ kq=>
  rw [hb] at aQ;cases aQ
  obtain ⟨b',cap,cs,he,rfl,cS,eR,mB⟩:=kQ.block (by simp)
  simp only [Value.slice.injEq,Option.some.injEq,Addr.mk.injEq] at he
  obtain ⟨⟨rfl,-⟩,-,rfl⟩:=he
  have hX:=(nL 0 _ rfl).2
  obtain ⟨v,hv⟩:∃ v,(X 0)[0]?=some v:=⟨(X 0)[0]'(by omega),List.getElem?_eq_getElem _⟩
  have hd:=kq 0 _ 0 _ v rfl rfl hv
  obtain ⟨a,n,c,rfl⟩:=hd.slice (.inr ⟨_,_,_,rfl⟩)
  have hn:n=rows.length:=by
   generalize G 0 0=GG at hd
   cases hd with
   | em X' F' de fk nP=>
    obtain ⟨a',c',e⟩:=fk.len
    simp only [Value.slice.injEq] at e
    exact e.2.1
  subst hn
  have hw:w.heap[b]?=some (.cells cs T (0,0)):=(Holds.app.1 hH).1.one
  have kG:w.cell? ⟨b,0,none⟩=some (.slice a rows.length c):=by
   rw [cell_of hw]
   have O6:lay 1 X=X 0:=by simp [lay,List.range_succ]
   have e1:(cs.toList.take (1*1))[0]?=cs[0]?:=by rw [List.getElem?_take,if_pos (by omega),Array.getElem?_toList]
   rw [← e1,show (cs.toList.take (1*1))=X 0 from mB.trans O6];exact hv
  refine ((h a c).2 w (fun w'=>w'.cell? ⟨b,0,none⟩=some (.slice a rows.length c)) [.pointer (some ⟨b,0*1+0,none⟩)] (fun w' g=>g.tJ kG) rfl fun j q y h1 h2=>?_).mono ?_
  ·cases j with
   | succ j=>simp at h1
   | zero=>
    simp only [List.getElem?_cons_zero,Option.some.injEq] at h1 h2
    subst h1;subst h2
    have e0:(⟨b,0*1+0,none⟩:Addr)=(⟨b,0,none⟩:Addr).add 0:=by rw [add_zero']
    rw [e0]
    refine .rp _ [.slice a rows.length c] rfl (fun w' eT j z hj=>?_) (fun j q z h1 h2=>?_)
    ·cases j with
     | succ j=>simp at hj
     | zero=>simp at hj;subst hj;rw [add_zero'];exact eT
    ·cases j with
     | succ j=>simp at h1
     | zero=>simp at h1 h2;subst h1;subst h2;exact .v _
  ·rintro e w' ⟨v,rfl,g,H2,⟨Ho,Hi,rfl,uT⟩,n2⟩
   refine ⟨v,rfl,β,F,I,⟨R.len,R.blk,R.st.gr g⟩,Ext.refl _,bU.refl _,.d (hx _ _ _ _ (hs uT))⟩
theorem uD (l:List UInt8):aC Tryz.prog 25 [.ep 0 1 0 0] (jD l) (.n l.length) (jD l):=by
 have h:=aC.NV (T:=91) (T2:=5) (rows:=af l) (fun a c=>MA a (af l).length c) (ft _) (fun hd=>by cases hd;exact .v _)
 rw [show (af l).length=l.length by simp [af]] at h
 exact h
end Go.Proofs.YtcnpikbbmbombaaGreatDoor
namespace Go.Proofs.YtcnpikbbmbombaaGreatDoor
open Go.RowKit
def gg (i:Nat) (x:Int) (c:UInt8):Int:=IntKind.u64.wrap ((BitVec.ofInt IntKind.u64.bits x ||| BitVec.ofInt IntKind.u64.bits (IntKind.u64.wrap (IntKind.u64.wrap (IntKind.u8.wrap ((BitVec.ofInt IntKind.u8.bits (c.toNat:Int) &&& BitVec.ofInt IntKind.u8.bits 127).toNat:Int))*2 ^ (min (((7*i:Nat):Int)).toNat IntKind.u64.bits)))).toNat:Int)
def iE:List UInt8→Nat→Int→Int×Nat
 | [],_,_=>(0,0)
 | c::r,i,x=>if i=9∧1<c.toNat then (0,0) else if c.toNat<128 then (if c.toNat=0∧0<i then (0,0) else (gg i x c,i+1)) else iE r (i+1) (gg i x c)
theorem sL {l:List UInt8} {i:Nat} {c:UInt8} (h:l[i]?=some c):l.drop i=c::l.drop (i+1):=by
 obtain ⟨aO,rfl⟩:=List.getElem?_eq_some_iff.1 h
 exact List.drop_eq_getElem_cons aO
structure ij (l:List UInt8) (i:Nat) (x:Int):Prop where
 le:i≤l.length
 nine:i≤9∨l.length≤i
 eq:iE (l.drop i) i x=iE l 0 0
theorem ij.start (l:List UInt8):ij l 0 0:=⟨Nat.zero_le _,Or.inl (by omega),by rw [List.drop_zero]⟩
section
variable {l:List UInt8} {i:Nat} {x:Int} {c:UInt8}
theorem ij.wide (h:ij l i x) (hc:l[i]?=some c) (h9:i=9) (h1:1<c.toNat):iE l 0 0=(0,0):=by
 rw [← h.eq,sL hc];unfold iE;rw [if_pos ⟨h9,h1⟩]
theorem ij.zero (h:ij l i x) (hc:l[i]?=some c) (h9:¬ (i=9∧1<c.toNat)) (h1:c.toNat=0) (h2:0<i):iE l 0 0=(0,0):=by
 rw [← h.eq,sL hc];unfold iE;rw [if_neg h9,if_pos (by omega),if_pos ⟨h1,h2⟩]
theorem ij.last (h:ij l i x) (hc:l[i]?=some c) (h9:¬ (i=9∧1<c.toNat)) (h1:c.toNat<128) (h2:¬ (c.toNat=0∧0<i)):iE l 0 0=(gg i x c,i+1):=by
 rw [← h.eq,sL hc];unfold iE;rw [if_neg h9,if_pos h1,if_neg h2]
theorem ij.next (h:ij l i x) (hc:l[i]?=some c) (h9:¬ (i=9∧1<c.toNat)) (h1:¬ c.toNat<128):ij l (i+1) (gg i x c) where
 le:=(List.getElem?_eq_some_iff.1 hc).1
 nine:=by
  rcases h.nine with h | h
  ·left;omega
  ·exact absurd (List.getElem?_eq_some_iff.1 hc).1 (by omega)
 eq:=by rw [← h.eq,sL hc];conv=>rhs;unfold iE;rw [if_neg h9,if_neg h1]
theorem ij.none (h:ij l i x) (hi:¬ i<l.length):iE l 0 0=(0,0):=by
 rw [← h.eq,List.drop_of_length_le (by omega)];rfl
theorem ij.i9 (h:ij l i x) (hc:l[i]?=some c):i≤9:=by
 rcases h.nine with h | h
 ·exact h
 ·exact absurd (List.getElem?_eq_some_iff.1 hc).1 (by omega)
end
theorem dM {p q:Int×Nat} (h:p=q):AV.tu [.d (.v (.int .u64 p.1)),.n p.2]=.tu [.d (.v (.int .u64 q.1)),.n q.2]:=by rw [h]
set_option maxRecDepth 100000 in
theorem JY (l:List UInt8) (n:Nat) (hn:n≤l.length):aC Tryz.prog 92 [.pt 0 0,.n n] [.bx 108 [.d (.ro 1 (af l)),.d (.v (.bool false))]] (.d (.ro 1 (af (l.take n)))) ([.bx 108 [.d (.ro 1 (af (l.drop n))),.d (.v (.bool false))]]):=by
 refine aC.intro (by kernel_rfl) rfl rfl 43 rfl rfl fun D w0 K bs ac wd hK (al:bs.m=1) r=>?_
 cases h0:(decide ((((n:Nat):Int):Int)<0)) with
 | false=>
  have aT:=of_decide_eq_false h0
  have aI:=((by first | rfl | simp [af,ah,ints,steps,strs]):(((af l).length:Nat):Int)=((l.length:Nat):Int))
  cases h1:(decide ((((l.length:Nat):Int):Int)<((n:Nat):Int))) with
  | false=>
   have bR:=of_decide_eq_false h1
   refine aY (y:=.d (.ro 1 (List.take (n) (af l)))) (N':=[.bx 108 [.d (.ro 1 (List.drop (n) (af l))),.d (.v (.bool false))]]) ((by rw [Ae])) ((by rw [Af])) ?_
   exact aX tk mo hK rfl al [(1,[(6,.b false),(14,.z (((l.length:Nat):Int))),(15,.b false)]),(4,[(6,.n2 (n) (0))]),(5,[(6,.n2 (0) (n))])] 2000 [0] r (by kernel_rfl) (U h0 (U aI (U h1 (U (ax ((n:Nat):Int)) (U (ax ((n:Nat):Int)) (U ((by first | omega | (simp [af,ah,ints,steps,strs];done) | (simp [af,ah,ints,steps,strs];omega)):(n)≤(af l).length) (U (ax ((n:Nat):Int)) (U ((by first | omega | (simp [af,ah,ints,steps,strs];done) | (simp [af,ah,ints,steps,strs];omega)):(n)≤(af l).length) trivial))))))))
  | true=>
   have bR:=of_decide_eq_true h1
   exact absurd bR (by omega)
 | true=>
  have aT:=of_decide_eq_true h0
  exact absurd aT (by omega)
set_option maxRecDepth 100000 in
theorem Iu (l:List UInt8) (n:Nat) (hn:l.length<n):aC Tryz.prog 92 [.pt 0 0,.n n] [.bx 108 [.d (.ro 1 (af l)),.d (.v (.bool false))]] (.d (.v (.slice none 0 0))) ([.bx 108 [.d (.ro 1 (af l)),.d (.v (.bool true))]]):=by
 refine aC.intro (by kernel_rfl) rfl rfl 43 rfl rfl fun D w0 K bs ac wd hK (al:bs.m=1) r=>?_
 cases h0:(decide ((((n:Nat):Int):Int)<0)) with
 | false=>
  have aT:=of_decide_eq_false h0
  have aI:=((by first | rfl | simp [af,ah,ints,steps,strs]):(((af l).length:Nat):Int)=((l.length:Nat):Int))
  cases h1:(decide ((((l.length:Nat):Int):Int)<((n:Nat):Int))) with
  | false=>
   have bR:=of_decide_eq_false h1
   exact absurd bR (by omega)
  | true=>
   have bR:=of_decide_eq_true h1
   refine aY (y:=.d (.v (.slice none 0 0))) (N':=[.bx 108 [.d (.ro 1 (af l)),.d (.v (.bool true))]]) (rfl) (rfl) ?_
   exact aX tk mo hK rfl al [(1,[(6,.b false),(14,.z (((l.length:Nat):Int))),(15,.b true)])] 2000 [0] r (by kernel_rfl) (U h0 (U aI (U h1 trivial)))
 | true=>
  have aT:=of_decide_eq_true h0
  exact absurd aT (by omega)
set_option maxRecDepth 100000 in
theorem JZ (l:List UInt8) (z:Int) (hz:z<0):aC Tryz.prog 92 [.pt 0 0,.z z] [.bx 108 [.d (.ro 1 (af l)),.d (.v (.bool false))]] (.d (.v (.slice none 0 0))) ([.bx 108 [.d (.ro 1 (af l)),.d (.v (.bool true))]]):=by
 refine aC.intro (by kernel_rfl) rfl rfl 43 rfl rfl fun D w0 K bs ac wd hK (al:bs.m=1) r=>?_
 cases h0:(decide ((z:Int)<0)) with
 | false=>
  have aT:=of_decide_eq_false h0
  exact absurd aT (by omega)
 | true=>
  have aT:=of_decide_eq_true h0
  refine aY (y:=.d (.v (.slice none 0 0))) (N':=[.bx 108 [.d (.ro 1 (af l)),.d (.v (.bool true))]]) (rfl) (rfl) ?_
  exact aX tk mo hK rfl al [(1,[(6,.b true)])] 2000 [0] r (by kernel_rfl) (U h0 trivial)
set_option maxRecDepth 100000 in
theorem J0 (l:List UInt8) (z:Int):aC Tryz.prog 92 [.pt 0 0,.z z] [.bx 108 [.d (.ro 1 (af l)),.d (.v (.bool true))]] (.d (.v (.slice none 0 0))) ([.bx 108 [.d (.ro 1 (af l)),.d (.v (.bool true))]]):=by
 refine aC.intro (by kernel_rfl) rfl rfl 43 rfl rfl fun D w0 K bs ac wd hK (al:bs.m=1) r=>?_
 refine aY (y:=.d (.v (.slice none 0 0))) (N':=[.bx 108 [.d (.ro 1 (af l)),.d (.v (.bool true))]]) (rfl) (rfl) ?_
 exact aX tk mo hK rfl al [] 2000 [0] r (by kernel_rfl) trivial
set_option maxRecDepth 100000 in
theorem Li (l:List UInt8):aC Tryz.prog 91 [.pt 0 0] [.bx 108 [.d (.ro 1 (af l)),.d (.v (.bool true))]] (.tu [.d (.v (.int .u64 0)),.d (.v (.int .i64 0))]) ([.bx 108 [.d (.ro 1 (af l)),.d (.v (.bool true))]]):=by
 refine aC.intro (by kernel_rfl) rfl rfl 47 rfl rfl fun D w0 K bs ac wd hK (al:bs.m=1) r=>?_
 refine aY (y:=.tu [.d (.v (.int .u64 0)),.z 0]) (N':=[.bx 108 [.d (.ro 1 (af l)),.d (.v (.bool true))]]) (rfl) (rfl) ?_
 exact aX tk mo hK rfl al [] 2000 [0] r (by kernel_rfl) trivial
set_option maxRecDepth 100000 in
theorem MB (l:List UInt8):aC Tryz.prog 91 [.pt 0 0] [.bx 108 [.d (.ro 1 (af l)),.d (.v (.bool false))]] (.tu [.d (.v (.int .u64 (iE l 0 0).1)),.n (iE l 0 0).2]) ([.bx 108 [.d (.ro 1 (af l)),.d (.v (.bool false))]]):=by
 refine aC.intro (by kernel_rfl) rfl rfl 47 rfl rfl fun D w0 K bs ac wd hK (al:bs.m=1) r=>?_
 refine bp (todo':=hd Tryz.f91 0) (E':=[(14,.d (.ro 1 (af l))),(15,.n l.length),(16,.n 0),(4,.d (.v (.int .u64 (0))))]) (M':=[.bx 108 [.d (.ro 1 (af l)),.d (.v (.bool false))]]) tk mo hK al [(4,[(4,.z (((l.length:Nat):Int)))])] 2000 [0] [14,15,16,4] r (by kernel_rfl) (U ((by first | rfl | simp [af,ah,ints,steps,strs]):(((af l).length:Nat):Int)=((l.length:Nat):Int)) trivial) fun ac wd r=>?_
 refine aF.rounds (Φ:=fun (i:Nat) ac wd=>∃ x:Int,(ij l i x)∧RB D w0 K 47 bs [(14,.d (.ro 1 (af l))),(15,.n l.length),(16,.n i),(4,.d (.v (.int .u64 (x))))] [.bx 108 [.d (.ro 1 (af l)),.d (.v (.bool false))]] ac wd) (l.length) ?_ (Nat.zero_le _) ⟨0,ij.start l,r⟩
 clear r
 rintro i dw bj ac wd ⟨x,ao,r⟩
 have Qo:=ao.le
 cases h0:(decide ((((i:Nat):Int):Int)<((l.length:Nat):Int))) with
 | false=>
  have aT:=of_decide_eq_false h0
  refine aY (y:=.tu [.d (.v (.int .u64 0)),.z 0]) (N':=[.bx 108 [.d (.ro 1 (af l)),.d (.v (.bool false))]]) ((by first | exact (dM (ao.none (by omega))) | exact (dM (ao.wide di (by omega) (by omega))) | exact (dM (ao.zero di (by rintro ⟨_,_⟩;omega) (by omega) (by omega))) | exact (dM (ao.last di (by rintro ⟨_,_⟩;omega) (by omega) (by rintro ⟨_,_⟩;omega))))) (rfl) ?_
  exact aX tk mo hK rfl al [(5,[(0,.b false)])] 2000 [0] r (by kernel_rfl) (U h0 trivial)
 | true=>
  have aT:=of_decide_eq_true h0
  obtain ⟨bP,di⟩:∃ x,l[i]?=some x:=⟨_,List.getElem?_eq_getElem (by omega)⟩
  have Qp:=ao.i9 di
  cases h1:((((i:Nat):Int):Int)==9) with
  | false=>
   have bR:=ne_of_beq_false h1
   have aI:=(rfl:IntKind.u8.wrap ((BitVec.ofInt IntKind.u8.bits (((bP.toNat:Nat):Int)) &&& BitVec.ofInt IntKind.u8.bits (127)).toNat:Int)=IntKind.u8.wrap ((BitVec.ofInt IntKind.u8.bits (((bP.toNat:Nat):Int)) &&& BitVec.ofInt IntKind.u8.bits (127)).toNat:Int))
   have bd:=(rfl:IntKind.u64.wrap (IntKind.u8.wrap ((BitVec.ofInt IntKind.u8.bits (((bP.toNat:Nat):Int)) &&& BitVec.ofInt IntKind.u8.bits (127)).toNat:Int))=IntKind.u64.wrap (IntKind.u8.wrap ((BitVec.ofInt IntKind.u8.bits (((bP.toNat:Nat):Int)) &&& BitVec.ofInt IntKind.u8.bits (127)).toNat:Int)))
   have b6:=((wi (by omega)):IntKind.i64.wrap ((7:Int)*((i:Nat):Int))=((7*i:Nat):Int))
   have cO:=(rfl:IntKind.u64.wrap ((IntKind.u64.wrap (IntKind.u8.wrap ((BitVec.ofInt IntKind.u8.bits (((bP.toNat:Nat):Int)) &&& BitVec.ofInt IntKind.u8.bits (127)).toNat:Int)):Int)*2 ^ (min (((7*i:Nat):Int):Int).toNat IntKind.u64.bits))=IntKind.u64.wrap ((IntKind.u64.wrap (IntKind.u8.wrap ((BitVec.ofInt IntKind.u8.bits (((bP.toNat:Nat):Int)) &&& BitVec.ofInt IntKind.u8.bits (127)).toNat:Int)):Int)*2 ^ (min (((7*i:Nat):Int):Int).toNat IntKind.u64.bits)))
   have cg:=(rfl:IntKind.u64.wrap ((BitVec.ofInt IntKind.u64.bits (x) ||| BitVec.ofInt IntKind.u64.bits (IntKind.u64.wrap ((IntKind.u64.wrap (IntKind.u8.wrap ((BitVec.ofInt IntKind.u8.bits (((bP.toNat:Nat):Int)) &&& BitVec.ofInt IntKind.u8.bits (127)).toNat:Int)):Int)*2 ^ (min (((7*i:Nat):Int):Int).toNat IntKind.u64.bits)))).toNat:Int)=gg i x bP)
   cases h2:(decide ((((bP.toNat:Nat):Int):Int)<128)) with
   | false=>
    have cz:=of_decide_eq_false h2
    exact bp (todo':=hd Tryz.f91 0) tk mo hK al [(5,[(0,.b true)]),(6,[(1,.ix (i) [.v (.int .u8 (((bP.toNat:Nat):Int)))])]),(7,[(1,.b false)]),(9,[(2,.z (IntKind.u8.wrap ((BitVec.ofInt IntKind.u8.bits (((bP.toNat:Nat):Int)) &&& BitVec.ofInt IntKind.u8.bits (127)).toNat:Int))),(3,.z (IntKind.u64.wrap (IntKind.u8.wrap ((BitVec.ofInt IntKind.u8.bits (((bP.toNat:Nat):Int)) &&& BitVec.ofInt IntKind.u8.bits (127)).toNat:Int)))),(5,.z (((7*i:Nat):Int))),(6,.z (IntKind.u64.wrap ((IntKind.u64.wrap (IntKind.u8.wrap ((BitVec.ofInt IntKind.u8.bits (((bP.toNat:Nat):Int)) &&& BitVec.ofInt IntKind.u8.bits (127)).toNat:Int)):Int)*2 ^ (min (((7*i:Nat):Int):Int).toNat IntKind.u64.bits)))),(7,.z (gg i x bP))]),(10,[(1,.b false)]),(14,[(0,.z (((i+1:Nat):Int)))])] 2000 [0] [14,15,16,4] r (by kernel_rfl) (U h0 (U (ax ((i:Nat):Int)) (U (k6 di) (U h1 (U aI (U bd (U b6 (U cO (U ((by first | decide | omega):(0:Int)≤((7*i:Nat):Int)) (U cg (U h2 (U ((wi (by omega)):IntKind.i64.wrap ((((i:Nat):Int):Int)+1)=((i+1:Nat):Int)) trivial)))))))))))) fun ac wd r=>bj (by omega) ac wd ⟨gg i x bP,ao.next di (by rintro ⟨_,_⟩;omega) (by omega),r⟩
   | true=>
    have cz:=of_decide_eq_true h2
    cases h3:((((bP.toNat:Nat):Int):Int)==0) with
    | false=>
     have cT:=ne_of_beq_false h3
     refine aY (y:=.tu [.d (.v (.int .u64 (gg i x bP))),.n (i+1)]) (N':=[.bx 108 [.d (.ro 1 (af l)),.d (.v (.bool false))]]) ((by first | exact (dM (ao.none (by omega))) | exact (dM (ao.wide di (by omega) (by omega))) | exact (dM (ao.zero di (by rintro ⟨_,_⟩;omega) (by omega) (by omega))) | exact (dM (ao.last di (by rintro ⟨_,_⟩;omega) (by omega) (by rintro ⟨_,_⟩;omega))))) (rfl) ?_
     exact aX tk mo hK rfl al [(5,[(0,.b true)]),(6,[(1,.ix (i) [.v (.int .u8 (((bP.toNat:Nat):Int)))])]),(7,[(1,.b false)]),(9,[(2,.z (IntKind.u8.wrap ((BitVec.ofInt IntKind.u8.bits (((bP.toNat:Nat):Int)) &&& BitVec.ofInt IntKind.u8.bits (127)).toNat:Int))),(3,.z (IntKind.u64.wrap (IntKind.u8.wrap ((BitVec.ofInt IntKind.u8.bits (((bP.toNat:Nat):Int)) &&& BitVec.ofInt IntKind.u8.bits (127)).toNat:Int)))),(5,.z (((7*i:Nat):Int))),(6,.z (IntKind.u64.wrap ((IntKind.u64.wrap (IntKind.u8.wrap ((BitVec.ofInt IntKind.u8.bits (((bP.toNat:Nat):Int)) &&& BitVec.ofInt IntKind.u8.bits (127)).toNat:Int)):Int)*2 ^ (min (((7*i:Nat):Int):Int).toNat IntKind.u64.bits)))),(7,.z (gg i x bP))]),(10,[(1,.b true)]),(11,[(1,.b false)]),(13,[(2,.z (((i+1:Nat):Int)))])] 2000 [0] r (by kernel_rfl) (U h0 (U (ax ((i:Nat):Int)) (U (k6 di) (U h1 (U aI (U bd (U b6 (U cO (U ((by first | decide | omega):(0:Int)≤((7*i:Nat):Int)) (U cg (U h2 (U h3 (U ((wi (by omega)):IntKind.i64.wrap ((((i:Nat):Int):Int)+1)=((i+1:Nat):Int)) trivial)))))))))))))
    | true=>
     have cT:=eq_of_beq h3
     cases h4:(decide ((0:Int)<((i:Nat):Int))) with
     | false=>
      have dT:=of_decide_eq_false h4
      refine aY (y:=.tu [.d (.v (.int .u64 (gg i x bP))),.n (i+1)]) (N':=[.bx 108 [.d (.ro 1 (af l)),.d (.v (.bool false))]]) ((by first | exact (dM (ao.none (by omega))) | exact (dM (ao.wide di (by omega) (by omega))) | exact (dM (ao.zero di (by rintro ⟨_,_⟩;omega) (by omega) (by omega))) | exact (dM (ao.last di (by rintro ⟨_,_⟩;omega) (by omega) (by rintro ⟨_,_⟩;omega))))) (rfl) ?_
      exact aX tk mo hK rfl al [(5,[(0,.b true)]),(6,[(1,.ix (i) [.v (.int .u8 (((bP.toNat:Nat):Int)))])]),(7,[(1,.b false)]),(9,[(2,.z (IntKind.u8.wrap ((BitVec.ofInt IntKind.u8.bits (((bP.toNat:Nat):Int)) &&& BitVec.ofInt IntKind.u8.bits (127)).toNat:Int))),(3,.z (IntKind.u64.wrap (IntKind.u8.wrap ((BitVec.ofInt IntKind.u8.bits (((bP.toNat:Nat):Int)) &&& BitVec.ofInt IntKind.u8.bits (127)).toNat:Int)))),(5,.z (((7*i:Nat):Int))),(6,.z (IntKind.u64.wrap ((IntKind.u64.wrap (IntKind.u8.wrap ((BitVec.ofInt IntKind.u8.bits (((bP.toNat:Nat):Int)) &&& BitVec.ofInt IntKind.u8.bits (127)).toNat:Int)):Int)*2 ^ (min (((7*i:Nat):Int):Int).toNat IntKind.u64.bits)))),(7,.z (gg i x bP))]),(10,[(1,.b true)]),(11,[(1,.b true),(4,.b false)]),(13,[(2,.z (((i+1:Nat):Int)))])] 2000 [0] r (by kernel_rfl) (U h0 (U (ax ((i:Nat):Int)) (U (k6 di) (U h1 (U aI (U bd (U b6 (U cO (U ((by first | decide | omega):(0:Int)≤((7*i:Nat):Int)) (U cg (U h2 (U h3 (U h4 (U ((wi (by omega)):IntKind.i64.wrap ((((i:Nat):Int):Int)+1)=((i+1:Nat):Int)) trivial))))))))))))))
     | true=>
      have dT:=of_decide_eq_true h4
      refine aY (y:=.tu [.d (.v (.int .u64 0)),.z 0]) (N':=[.bx 108 [.d (.ro 1 (af l)),.d (.v (.bool false))]]) ((by first | exact (dM (ao.none (by omega))) | exact (dM (ao.wide di (by omega) (by omega))) | exact (dM (ao.zero di (by rintro ⟨_,_⟩;omega) (by omega) (by omega))) | exact (dM (ao.last di (by rintro ⟨_,_⟩;omega) (by omega) (by rintro ⟨_,_⟩;omega))))) (rfl) ?_
      exact aX tk mo hK rfl al [(5,[(0,.b true)]),(6,[(1,.ix (i) [.v (.int .u8 (((bP.toNat:Nat):Int)))])]),(7,[(1,.b false)]),(9,[(2,.z (IntKind.u8.wrap ((BitVec.ofInt IntKind.u8.bits (((bP.toNat:Nat):Int)) &&& BitVec.ofInt IntKind.u8.bits (127)).toNat:Int))),(3,.z (IntKind.u64.wrap (IntKind.u8.wrap ((BitVec.ofInt IntKind.u8.bits (((bP.toNat:Nat):Int)) &&& BitVec.ofInt IntKind.u8.bits (127)).toNat:Int)))),(5,.z (((7*i:Nat):Int))),(6,.z (IntKind.u64.wrap ((IntKind.u64.wrap (IntKind.u8.wrap ((BitVec.ofInt IntKind.u8.bits (((bP.toNat:Nat):Int)) &&& BitVec.ofInt IntKind.u8.bits (127)).toNat:Int)):Int)*2 ^ (min (((7*i:Nat):Int):Int).toNat IntKind.u64.bits)))),(7,.z (gg i x bP))]),(10,[(1,.b true)]),(11,[(1,.b true),(4,.b true)])] 2000 [0] r (by kernel_rfl) (U h0 (U (ax ((i:Nat):Int)) (U (k6 di) (U h1 (U aI (U bd (U b6 (U cO (U ((by first | decide | omega):(0:Int)≤((7*i:Nat):Int)) (U cg (U h2 (U h3 (U h4 trivial)))))))))))))
  | true=>
   have bR:=eq_of_beq h1
   cases h5:(decide ((1:Int)<((bP.toNat:Nat):Int))) with
   | false=>
    have du:=of_decide_eq_false h5
    have ek:=(rfl:IntKind.u8.wrap ((BitVec.ofInt IntKind.u8.bits (((bP.toNat:Nat):Int)) &&& BitVec.ofInt IntKind.u8.bits (127)).toNat:Int)=IntKind.u8.wrap ((BitVec.ofInt IntKind.u8.bits (((bP.toNat:Nat):Int)) &&& BitVec.ofInt IntKind.u8.bits (127)).toNat:Int))
    have df:=(rfl:IntKind.u64.wrap (IntKind.u8.wrap ((BitVec.ofInt IntKind.u8.bits (((bP.toNat:Nat):Int)) &&& BitVec.ofInt IntKind.u8.bits (127)).toNat:Int))=IntKind.u64.wrap (IntKind.u8.wrap ((BitVec.ofInt IntKind.u8.bits (((bP.toNat:Nat):Int)) &&& BitVec.ofInt IntKind.u8.bits (127)).toNat:Int)))
    have en:=((wi (by omega)):IntKind.i64.wrap ((7:Int)*((i:Nat):Int))=((7*i:Nat):Int))
    have gu:=(rfl:IntKind.u64.wrap ((IntKind.u64.wrap (IntKind.u8.wrap ((BitVec.ofInt IntKind.u8.bits (((bP.toNat:Nat):Int)) &&& BitVec.ofInt IntKind.u8.bits (127)).toNat:Int)):Int)*2 ^ (min (((7*i:Nat):Int):Int).toNat IntKind.u64.bits))=IntKind.u64.wrap ((IntKind.u64.wrap (IntKind.u8.wrap ((BitVec.ofInt IntKind.u8.bits (((bP.toNat:Nat):Int)) &&& BitVec.ofInt IntKind.u8.bits (127)).toNat:Int)):Int)*2 ^ (min (((7*i:Nat):Int):Int).toNat IntKind.u64.bits)))
    have jC:=(rfl:IntKind.u64.wrap ((BitVec.ofInt IntKind.u64.bits (x) ||| BitVec.ofInt IntKind.u64.bits (IntKind.u64.wrap ((IntKind.u64.wrap (IntKind.u8.wrap ((BitVec.ofInt IntKind.u8.bits (((bP.toNat:Nat):Int)) &&& BitVec.ofInt IntKind.u8.bits (127)).toNat:Int)):Int)*2 ^ (min (((7*i:Nat):Int):Int).toNat IntKind.u64.bits)))).toNat:Int)=gg i x bP)
    cases h6:(decide ((((bP.toNat:Nat):Int):Int)<128)) with
    | false=>
     have dx:=of_decide_eq_false h6
     exact bp (todo':=hd Tryz.f91 0) tk mo hK al [(5,[(0,.b true)]),(6,[(1,.ix (i) [.v (.int .u8 (((bP.toNat:Nat):Int)))])]),(7,[(1,.b true),(4,.b false)]),(9,[(2,.z (IntKind.u8.wrap ((BitVec.ofInt IntKind.u8.bits (((bP.toNat:Nat):Int)) &&& BitVec.ofInt IntKind.u8.bits (127)).toNat:Int))),(3,.z (IntKind.u64.wrap (IntKind.u8.wrap ((BitVec.ofInt IntKind.u8.bits (((bP.toNat:Nat):Int)) &&& BitVec.ofInt IntKind.u8.bits (127)).toNat:Int)))),(5,.z (((7*i:Nat):Int))),(6,.z (IntKind.u64.wrap ((IntKind.u64.wrap (IntKind.u8.wrap ((BitVec.ofInt IntKind.u8.bits (((bP.toNat:Nat):Int)) &&& BitVec.ofInt IntKind.u8.bits (127)).toNat:Int)):Int)*2 ^ (min (((7*i:Nat):Int):Int).toNat IntKind.u64.bits)))),(7,.z (gg i x bP))]),(10,[(1,.b false)]),(14,[(0,.z (((i+1:Nat):Int)))])] 2000 [0] [14,15,16,4] r (by kernel_rfl) (U h0 (U (ax ((i:Nat):Int)) (U (k6 di) (U h1 (U h5 (U ek (U df (U en (U gu (U ((by first | decide | omega):(0:Int)≤((7*i:Nat):Int)) (U jC (U h6 (U ((wi (by omega)):IntKind.i64.wrap ((((i:Nat):Int):Int)+1)=((i+1:Nat):Int)) trivial))))))))))))) fun ac wd r=>bj (by omega) ac wd ⟨gg i x bP,ao.next di (by rintro ⟨_,_⟩;omega) (by omega),r⟩
    | true=>
     have dx:=of_decide_eq_true h6
     cases h7:((((bP.toNat:Nat):Int):Int)==0) with
     | false=>
      have dL:=ne_of_beq_false h7
      refine aY (y:=.tu [.d (.v (.int .u64 (gg i x bP))),.n (i+1)]) (N':=[.bx 108 [.d (.ro 1 (af l)),.d (.v (.bool false))]]) ((by first | exact (dM (ao.none (by omega))) | exact (dM (ao.wide di (by omega) (by omega))) | exact (dM (ao.zero di (by rintro ⟨_,_⟩;omega) (by omega) (by omega))) | exact (dM (ao.last di (by rintro ⟨_,_⟩;omega) (by omega) (by rintro ⟨_,_⟩;omega))))) (rfl) ?_
      exact aX tk mo hK rfl al [(5,[(0,.b true)]),(6,[(1,.ix (i) [.v (.int .u8 (((bP.toNat:Nat):Int)))])]),(7,[(1,.b true),(4,.b false)]),(9,[(2,.z (IntKind.u8.wrap ((BitVec.ofInt IntKind.u8.bits (((bP.toNat:Nat):Int)) &&& BitVec.ofInt IntKind.u8.bits (127)).toNat:Int))),(3,.z (IntKind.u64.wrap (IntKind.u8.wrap ((BitVec.ofInt IntKind.u8.bits (((bP.toNat:Nat):Int)) &&& BitVec.ofInt IntKind.u8.bits (127)).toNat:Int)))),(5,.z (((7*i:Nat):Int))),(6,.z (IntKind.u64.wrap ((IntKind.u64.wrap (IntKind.u8.wrap ((BitVec.ofInt IntKind.u8.bits (((bP.toNat:Nat):Int)) &&& BitVec.ofInt IntKind.u8.bits (127)).toNat:Int)):Int)*2 ^ (min (((7*i:Nat):Int):Int).toNat IntKind.u64.bits)))),(7,.z (gg i x bP))]),(10,[(1,.b true)]),(11,[(1,.b false)]),(13,[(2,.z (((i+1:Nat):Int)))])] 2000 [0] r (by kernel_rfl) (U h0 (U (ax ((i:Nat):Int)) (U (k6 di) (U h1 (U h5 (U ek (U df (U en (U gu (U ((by first | decide | omega):(0:Int)≤((7*i:Nat):Int)) (U jC (U h6 (U h7 (U ((wi (by omega)):IntKind.i64.wrap ((((i:Nat):Int):Int)+1)=((i+1:Nat):Int)) trivial))))))))))))))
     | true=>
      have dL:=eq_of_beq h7
      cases h8:(decide ((0:Int)<((i:Nat):Int))) with
      | false=>
       have fg:=of_decide_eq_false h8
       refine aY (y:=.tu [.d (.v (.int .u64 (gg i x bP))),.n (i+1)]) (N':=[.bx 108 [.d (.ro 1 (af l)),.d (.v (.bool false))]]) ((by first | exact (dM (ao.none (by omega))) | exact (dM (ao.wide di (by omega) (by omega))) | exact (dM (ao.zero di (by rintro ⟨_,_⟩;omega) (by omega) (by omega))) | exact (dM (ao.last di (by rintro ⟨_,_⟩;omega) (by omega) (by rintro ⟨_,_⟩;omega))))) (rfl) ?_
       exact aX tk mo hK rfl al [(5,[(0,.b true)]),(6,[(1,.ix (i) [.v (.int .u8 (((bP.toNat:Nat):Int)))])]),(7,[(1,.b true),(4,.b false)]),(9,[(2,.z (IntKind.u8.wrap ((BitVec.ofInt IntKind.u8.bits (((bP.toNat:Nat):Int)) &&& BitVec.ofInt IntKind.u8.bits (127)).toNat:Int))),(3,.z (IntKind.u64.wrap (IntKind.u8.wrap ((BitVec.ofInt IntKind.u8.bits (((bP.toNat:Nat):Int)) &&& BitVec.ofInt IntKind.u8.bits (127)).toNat:Int)))),(5,.z (((7*i:Nat):Int))),(6,.z (IntKind.u64.wrap ((IntKind.u64.wrap (IntKind.u8.wrap ((BitVec.ofInt IntKind.u8.bits (((bP.toNat:Nat):Int)) &&& BitVec.ofInt IntKind.u8.bits (127)).toNat:Int)):Int)*2 ^ (min (((7*i:Nat):Int):Int).toNat IntKind.u64.bits)))),(7,.z (gg i x bP))]),(10,[(1,.b true)]),(11,[(1,.b true),(4,.b false)]),(13,[(2,.z (((i+1:Nat):Int)))])] 2000 [0] r (by kernel_rfl) (U h0 (U (ax ((i:Nat):Int)) (U (k6 di) (U h1 (U h5 (U ek (U df (U en (U gu (U ((by first | decide | omega):(0:Int)≤((7*i:Nat):Int)) (U jC (U h6 (U h7 (U h8 (U ((wi (by omega)):IntKind.i64.wrap ((((i:Nat):Int):Int)+1)=((i+1:Nat):Int)) trivial)))))))))))))))
      | true=>
       have fg:=of_decide_eq_true h8
       refine aY (y:=.tu [.d (.v (.int .u64 0)),.z 0]) (N':=[.bx 108 [.d (.ro 1 (af l)),.d (.v (.bool false))]]) ((by first | exact (dM (ao.none (by omega))) | exact (dM (ao.wide di (by omega) (by omega))) | exact (dM (ao.zero di (by rintro ⟨_,_⟩;omega) (by omega) (by omega))) | exact (dM (ao.last di (by rintro ⟨_,_⟩;omega) (by omega) (by rintro ⟨_,_⟩;omega))))) (rfl) ?_
       exact aX tk mo hK rfl al [(5,[(0,.b true)]),(6,[(1,.ix (i) [.v (.int .u8 (((bP.toNat:Nat):Int)))])]),(7,[(1,.b true),(4,.b false)]),(9,[(2,.z (IntKind.u8.wrap ((BitVec.ofInt IntKind.u8.bits (((bP.toNat:Nat):Int)) &&& BitVec.ofInt IntKind.u8.bits (127)).toNat:Int))),(3,.z (IntKind.u64.wrap (IntKind.u8.wrap ((BitVec.ofInt IntKind.u8.bits (((bP.toNat:Nat):Int)) &&& BitVec.ofInt IntKind.u8.bits (127)).toNat:Int)))),(5,.z (((7*i:Nat):Int))),(6,.z (IntKind.u64.wrap ((IntKind.u64.wrap (IntKind.u8.wrap ((BitVec.ofInt IntKind.u8.bits (((bP.toNat:Nat):Int)) &&& BitVec.ofInt IntKind.u8.bits (127)).toNat:Int)):Int)*2 ^ (min (((7*i:Nat):Int):Int).toNat IntKind.u64.bits)))),(7,.z (gg i x bP))]),(10,[(1,.b true)]),(11,[(1,.b true),(4,.b true)])] 2000 [0] r (by kernel_rfl) (U h0 (U (ax ((i:Nat):Int)) (U (k6 di) (U h1 (U h5 (U ek (U df (U en (U gu (U ((by first | decide | omega):(0:Int)≤((7*i:Nat):Int)) (U jC (U h6 (U h7 (U h8 trivial))))))))))))))
   | true=>
    have du:=of_decide_eq_true h5
    refine aY (y:=.tu [.d (.v (.int .u64 0)),.z 0]) (N':=[.bx 108 [.d (.ro 1 (af l)),.d (.v (.bool false))]]) ((by first | exact (dM (ao.none (by omega))) | exact (dM (ao.wide di (by omega) (by omega))) | exact (dM (ao.zero di (by rintro ⟨_,_⟩;omega) (by omega) (by omega))) | exact (dM (ao.last di (by rintro ⟨_,_⟩;omega) (by omega) (by rintro ⟨_,_⟩;omega))))) (rfl) ?_
    exact aX tk mo hK rfl al [(5,[(0,.b true)]),(6,[(1,.ix (i) [.v (.int .u8 (((bP.toNat:Nat):Int)))])]),(7,[(1,.b true),(4,.b true)])] 2000 [0] r (by kernel_rfl) (U h0 (U (ax ((i:Nat):Int)) (U (k6 di) (U h1 (U h5 trivial)))))
theorem aC.nil {P:Program} {f:FuncId} {args:List AV} {M M':List aj} {k:Nat} (h:aC P f args M (.d (.v (.slice none 0 0))) M'):aC P f args M (.d (.ro k [])) M':=by
 refine ⟨h.1,fun ys R hK hl hr=>(h.2 ys R hK hl hr).mono ?_⟩
 rintro e w' ⟨v,rfl,aE,F',I',R',e1,hI,ha⟩
 refine ⟨v,rfl,aE,F',I',R',e1,hI,?_⟩
 cases ha with
 | d hd=>
  cases hd with
  | v=>exact .d (.ro (fun _=>[]) (by simp) ⟨none,0,rfl,Nat.le_refl _⟩ (fun w hw=>⟨by simp [lay],Or.inl ⟨rfl,none,0,rfl⟩⟩) (by simp))
def ku (l:List UInt8) (b:Bool) (z:Int):Prop:=b=true∨z<0∨(l.length:Int)<z
instance {l:List UInt8} {b:Bool} {z:Int}:Decidable (ku l b z):=by unfold ku;infer_instance
def aR (l:List UInt8) (b:Bool) (z:Int):List UInt8:=if ku l b z then [] else l.take z.toNat
def fo (l:List UInt8) (b:Bool) (z:Int):List UInt8:=if ku l b z then l else l.drop z.toNat
def fz (l:List UInt8) (b:Bool) (z:Int):Bool:=if ku l b z then true else false
def jg (l:List UInt8) (b:Bool):List aj:=[.bx 108 [.d (.ro 1 (af l)),.d (.v (.bool b))]]
theorem od:dB Tryz.prog 61:=by unfold dB;kernel_rfl
theorem wH (l:List UInt8) (b:Bool) (z:Int):aC Tryz.prog 92 [.pt 0 0,.z z] (jg l b) (.d (.ro 1 (af (aR l b z)))) (jg (fo l b z) (fz l b z)):=by
 unfold aR fo fz
 by_cases h:ku l b z
 ·rw [if_pos h,if_pos h,if_pos h]
  cases b with
  | true=>exact (J0 l z).nil
  | false=>
   rcases h.resolve_left (by decide) with h1 | h1
   ·exact (JZ l z h1).nil
   ·obtain ⟨n,rfl⟩:=Int.eq_ofNat_of_zero_le (show 0≤z by omega)
    exact (Iu l n (by omega)).nil
 ·rw [if_neg h,if_neg h,if_neg h]
  unfold ku at h
  obtain ⟨n,rfl⟩:=Int.eq_ofNat_of_zero_le (show 0≤z by omega)
  cases b with
  | true=>exact absurd (Or.inl rfl) h
  | false=>exact JY l n (by omega)
def fJ (l:List UInt8) (b:Bool):Int×Nat:=if b=true then (0,0) else iE l 0 0
theorem CD (l:List UInt8) (b:Bool):aC Tryz.prog 91 [.pt 0 0] (jg l b) (.tu [.d (.v (.int .u64 (fJ l b).1)),.n (fJ l b).2]) (jg l b):=by
 cases b with
 | true=>exact Li l
 | false=>exact MB l
theorem CE {l:List UInt8} {b:Bool} {z:Int}:(fo l b z).length≤l.length:=by unfold fo;split<;>simp
def qs (l:List UInt8) (b:Bool):List UInt8:=if (fJ l b).2=0 then l else fo l b (fJ l b).2
def sw (l:List UInt8) (b:Bool):Bool:=if (fJ l b).2=0 then true else fz l b (fJ l b).2
def oX (l:List UInt8) (b:Bool):Int:=if (fJ l b).2=0 then 0 else (fJ l b).1
theorem Lj {l:List UInt8} {b:Bool}:(qs l b).length≤l.length:=by unfold qs;split<;>first | exact Nat.le_refl _ | exact CE
set_option maxRecDepth 100000 in
theorem J1 (l:List UInt8) (b:Bool):aC Tryz.prog 64 [.pt 0 0] [.bx 108 [.d (.ro 1 (af l)),.d (.v (.bool b))]] (.d (.v (.int .u64 (oX l b)))) (jg (qs l b) (sw l b)):=by
 refine aC.intro (by kernel_rfl) rfl rfl 26 rfl rfl fun D w0 K bs ac wd hK (al:bs.m=1) r=>?_
 cases h0:(((((fJ l b).2:Nat):Int):Int)==0) with
 | false=>
  have aT:=ne_of_beq_false h0
  refine aY (y:=.d (.v (.int .u64 ((fJ l b).1)))) (N':=[.bx 108 [.d (.ro 1 (af (fo l b (fJ l b).2))),.d (.v (.bool ((fz l b (fJ l b).2))))]]) ((by unfold oX;first | rw [if_pos (by omega)] | rw [if_neg (by omega)])) ((by unfold qs sw;first | (rw [if_pos (by omega),if_pos (by omega)];rfl) | (rw [if_neg (by omega),if_neg (by omega)];rfl))) ?_
  exact aX tk mo hK rfl al [(3,[(3,.mem [0] (.tu [.d (.v (.int .u64 ((fJ l b).1))),.n ((fJ l b).2)]) [.bx 108 [.d (.ro 1 (af l)),.d (.v (.bool b))]])]),(4,[(1,.b false)]),(7,[(4,.mem [0] (.d (.ro 1 (af (aR l b (fJ l b).2)))) [.bx 108 [.d (.ro 1 (af (fo l b (fJ l b).2))),.d (.v (.bool ((fz l b (fJ l b).2))))]])])] 2000 [0] r (by kernel_rfl) (U (od:dB Tryz.prog 61) (U (CD l b) (U h0 (U (wH l b (fJ l b).2) trivial))))
 | true=>
  have aT:=eq_of_beq h0
  refine aY (y:=.d (.v (.int .u64 0))) (N':=[.bx 108 [.d (.ro 1 (af l)),.d (.v (.bool true))]]) ((by unfold oX;first | rw [if_pos (by omega)] | rw [if_neg (by omega)])) ((by unfold qs sw;first | (rw [if_pos (by omega),if_pos (by omega)];rfl) | (rw [if_neg (by omega),if_neg (by omega)];rfl))) ?_
  exact aX tk mo hK rfl al [(3,[(3,.mem [0] (.tu [.d (.v (.int .u64 ((fJ l b).1))),.n ((fJ l b).2)]) [.bx 108 [.d (.ro 1 (af l)),.d (.v (.bool b))]])]),(4,[(1,.b true)])] 2000 [0] r (by kernel_rfl) (U (od:dB Tryz.prog 61) (U (CD l b) (U h0 trivial)))
set_option maxRecDepth 100000 in
theorem B5 (l:List UInt8) (b:Bool):aC Tryz.prog 35 [.pt 0 0] [.bx 108 [.d (.ro 1 (af l)),.d (.v (.bool b))]] (.n l.length) ([.bx 108 [.d (.ro 1 (af l)),.d (.v (.bool b))]]):=by
 refine aC.intro (by kernel_rfl) rfl rfl 11 rfl rfl fun D w0 K bs ac wd hK (al:bs.m=1) r=>?_
 refine aY (y:=.n l.length) (N':=[.bx 108 [.d (.ro 1 (af l)),.d (.v (.bool b))]]) (rfl) (rfl) ?_
 exact aX tk mo hK rfl al [(3,[(5,.z (((l.length:Nat):Int)))])] 2000 [0] r (by kernel_rfl) (U (od:dB Tryz.prog 61) (U ((by first | rfl | simp [af,ah,ints,steps,strs]):(((af l).length:Nat):Int)=((l.length:Nat):Int)) trivial))
set_option maxRecDepth 100000 in
theorem Iv (l:List UInt8):aC Tryz.prog 34 [.pt 0 0] [.bx 108 [.d (.ro 1 (af l)),.d (.v (.bool true))]] (.z 3) ([.bx 108 [.d (.ro 1 (af l)),.d (.v (.bool true))]]):=by
 refine aC.intro (by kernel_rfl) rfl rfl 12 rfl rfl fun D w0 K bs ac wd hK (al:bs.m=1) r=>?_
 refine aY (y:=.z 3) (N':=[.bx 108 [.d (.ro 1 (af l)),.d (.v (.bool true))]]) (rfl) (rfl) ?_
 exact aX tk mo hK rfl al [] 2000 [0] r (by kernel_rfl) (U (od:dB Tryz.prog 61) trivial)
set_option maxRecDepth 100000 in
theorem G7 (l:List UInt8):aC Tryz.prog 34 [.pt 0 0] [.bx 108 [.d (.ro 1 (af l)),.d (.v (.bool false))]] (.z 0) ([.bx 108 [.d (.ro 1 (af l)),.d (.v (.bool false))]]):=by
 refine aC.intro (by kernel_rfl) rfl rfl 12 rfl rfl fun D w0 K bs ac wd hK (al:bs.m=1) r=>?_
 refine aY (y:=.z 0) (N':=[.bx 108 [.d (.ro 1 (af l)),.d (.v (.bool false))]]) (rfl) (rfl) ?_
 exact aX tk mo hK rfl al [] 2000 [0] r (by kernel_rfl) (U (od:dB Tryz.prog 61) trivial)
theorem xq (l:List UInt8) (b:Bool):aC Tryz.prog 34 [.pt 0 0] (jg l b) (.z (if b=true then 3 else 0)) (jg l b):=by
 cases b with
 | true=>exact Iv l
 | false=>exact G7 l
set_option maxRecDepth 100000 in
theorem vw (l:List UInt8) (hb:l.length<2147483648):aC Tryz.prog 32 [.d (.ro 1 (af l))] [] (.pt 0 0) (jg l false):=by
 refine aC.intro (by kernel_rfl) rfl rfl 8 rfl rfl fun D w0 K bs ac wd hK (al:bs.m=0) r=>?_
 refine aY (y:=.pt 0 0) (N':=[.bx 108 [.d (.ro 1 (af l)),.d (.v (.bool false))]]) (rfl) (rfl) ?_
 exact aX tk mo hK rfl al [(1,[(1,.aG (.ro 1 (af l)))])] 2000 [0] r (by kernel_rfl) (U (AX l hb) trivial)
end Go.Proofs.YtcnpikbbmbombaaGreatDoor
namespace Go.Proofs.YtcnpikbbmbombaaGreatDoor
open Go.RowKit
def EK (i:Nat) (y x:Int):Int:=IntKind.u64.wrap ((BitVec.ofInt IntKind.u64.bits x ||| BitVec.ofInt IntKind.u64.bits (IntKind.u64.wrap (IntKind.u64.wrap y*2 ^ (min ((8*i:Nat):Int).toNat IntKind.u64.bits)))).toNat:Int)
theorem J2 {i:Nat} {y x:Nat} (hi:i<8) (hy:y<256) (hx:x<256 ^ i):EK i (y:Int) (x:Int)=((x+y*256 ^ i:Nat):Int):=by
 have p8:(256:Nat) ^ i=2 ^ (8*i):=by rw [Nat.pow_mul]
 have hle:y*256 ^ i+256 ^ i≤256 ^ (i+1):=by
  rw [Nat.pow_succ,Nat.mul_comm (256 ^ i) 256]
  have:=Nat.mul_le_mul_right (256 ^ i) (show y+1≤256 by omega)
  rw [Nat.add_mul,Nat.one_mul] at this;exact this
 have Qq:(256:Nat) ^ (i+1)≤256 ^ 8:=Nat.pow_le_pow_right (by decide) (by omega)
 have e8:(256:Nat) ^ 8=18446744073709551616:=by decide
 have w1:IntKind.u64.wrap (y:Int)=(y:Int):=by simp [IntKind.wrap,IntKind.signed,IntKind.bits];omega
 have p7:(min ((8*i:Nat):Int).toNat IntKind.u64.bits)=8*i:=by simp [IntKind.bits];omega
 have hm:((y:Int)*2 ^ (8*i))=((y*256 ^ i:Nat):Int):=by rw [p8];push_cast;rfl
 unfold EK
 rw [w1,p7,hm]
 have w2:IntKind.u64.wrap ((y*256 ^ i:Nat):Int)=((y*256 ^ i:Nat):Int):=by
  generalize y*256 ^ i=q at *
  simp [IntKind.wrap,IntKind.signed,IntKind.bits];omega
 rw [w2]
 have h1:(BitVec.ofInt 64 (x:Int) ||| BitVec.ofInt 64 ((y*256 ^ i:Nat):Int)).toNat=x+y*256 ^ i:=by
  rw [BitVec.toNat_or]
  have a1:(BitVec.ofInt 64 (x:Int)).toNat=x:=by
   have:x<18446744073709551616:=by omega
   rw [BitVec.ofInt_natCast,BitVec.toNat_ofNat];omega
  have a2:(BitVec.ofInt 64 ((y*256 ^ i:Nat):Int)).toNat=y*256 ^ i:=by
   have:y*256 ^ i<18446744073709551616:=by omega
   rw [BitVec.ofInt_natCast,BitVec.toNat_ofNat];omega
  rw [a1,a2,p8,Nat.mul_comm y,Nat.or_comm,← Nat.two_pow_add_eq_or_of_lt (by rw [← p8];exact hx)];omega
 show IntKind.u64.wrap ((BitVec.ofInt 64 (x:Int) ||| BitVec.ofInt 64 ((y*256 ^ i:Nat):Int)).toNat:Int)=_
 rw [h1]
 generalize x+y*256 ^ i=q at *
 simp [IntKind.wrap,IntKind.signed,IntKind.bits];omega
def fX (X:List UInt8):Nat→Nat
 | 0=>0
 | i+1=>fX X i+(X.getD i 0).toNat*256 ^ i
def bD (X:List UInt8) (i:Nat):DV:=.v (.int .u8 (((X.getD i 0).toNat:Nat):Int))
theorem CF (X:List UInt8):∀ i,fX X i<256 ^ i
 | 0=>Nat.one_pos
 | i+1=>by
  have h:=CF X i
  have hb:=(X.getD i 0).toNat_lt
  have:=Nat.mul_le_mul_right (256 ^ i) (show (X.getD i 0).toNat+1≤256 by omega)
  rw [fX,Nat.pow_succ];rw [Nat.add_mul,Nat.one_mul] at this;omega
theorem Bq {l:List UInt8} {k:Nat} (h:l.length≤k):l.getD k 0=0:=by rw [List.getD_eq_getElem?_getD,List.getElem?_eq_none h];rfl
theorem MC:∀ X:List UInt8,X.length≤8→List.take (min (af X).length 8*1) (List.map AV.d (List.flatten (af X)))++List.drop (List.take (min (af X).length 8*1) (List.map AV.d (List.flatten (af X)))).length ([.d (.v (.int .u8 0)),.d (.v (.int .u8 0)),.d (.v (.int .u8 0)),.d (.v (.int .u8 0)),.d (.v (.int .u8 0)),.d (.v (.int .u8 0)),.d (.v (.int .u8 0)),.d (.v (.int .u8 0))]:List AV)=List.map AV.d [bD X 0,bD X 1,bD X 2,bD X 3,bD X 4,bD X 5,bD X 6,bD X 7]
 | [],_=>rfl | [_],_=>rfl | [_,_],_=>rfl | [_,_,_],_=>rfl | [_,_,_,_],_=>rfl | [_,_,_,_,_],_=>rfl | [_,_,_,_,_,_],_=>rfl | [_,_,_,_,_,_,_],_=>rfl | [_,_,_,_,_,_,_,_],_=>rfl
 | _::_::_::_::_::_::_::_::_::_,h=>by simp at h
theorem MD (X:List UInt8):∀ {i:Nat},i<8→oN tb 5 ([bD X 0,bD X 1,bD X 2,bD X 3,bD X 4,bD X 5,bD X 6,bD X 7].map AV.d) (i*1)=some (.d (bD X i))
 | 0,_=>by kernel_rfl | 1,_=>by kernel_rfl | 2,_=>by kernel_rfl | 3,_=>by kernel_rfl | 4,_=>by kernel_rfl | 5,_=>by kernel_rfl | 6,_=>by kernel_rfl | 7,_=>by kernel_rfl
 | _+8,h=>by omega
theorem xr (l:List UInt8) (b:Bool) (n:Nat):(aR l b n).length≤n:=by unfold aR;split;exact Nat.zero_le _;simp;omega
set_option maxRecDepth 100000 in
theorem CG (l:List UInt8) (b:Bool) (n:Nat) (hn:n≤8):aC Tryz.prog 90 [.pt 0 0,.n n] [.bx 108 [.d (.ro 1 (af l)),.d (.v (.bool b))]] (.u (fX (aR l b n) 8)) (jg (fo l b n) (fz l b n)):=by
 refine aC.intro (by kernel_rfl) rfl rfl 32 rfl rfl fun D w0 K bs ac wd hK (al:bs.m=1) r=>?_
 refine bp (todo':=hd Tryz.f90 0) (E':=[(6,.u (fX (aR l b n) 0)),(18,.ag [.d (bD (aR l b n) 0),.d (bD (aR l b n) 1),.d (bD (aR l b n) 2),.d (bD (aR l b n) 3),.d (bD (aR l b n) 4),.d (bD (aR l b n) 5),.d (bD (aR l b n) 6),.d (bD (aR l b n) 7)]),(19,.n 0)]) (M':=[.bx 108 [.d (.ro 1 (af (fo l b n))),.d (.v (.bool ((fz l b n))))]]) tk mo hK al [(3,[(0,.b true)]),(4,[(5,.mem [0] (.d (.ro 1 (af (aR l b n)))) [.bx 108 [.d (.ro 1 (af (fo l b n))),.d (.v (.bool ((fz l b n))))]]),(6,.res (.ag [bD (aR l b n) 0,bD (aR l b n) 1,bD (aR l b n) 2,bD (aR l b n) 3,bD (aR l b n) 4,bD (aR l b n) 5,bD (aR l b n) 6,bD (aR l b n) 7]))])] 2000 [0] [6,18,19] r (by kernel_rfl) (U (od:dB Tryz.prog 61) (U (wH l b n) (U ((by simp [aW,AV.one,bQ,af]):aW (af (aR l b n))) (U ((MC (aR l b n) (Nat.le_trans (xr l b n) hn)):(List.take (min (af (aR l b n)).length 8*1) (List.map AV.d (List.flatten (af (aR l b n)))))++List.drop (List.take (min (af (aR l b n)).length 8*1) (List.map AV.d (List.flatten (af (aR l b n))))).length ([.d (.v (.int .u8 0)),.d (.v (.int .u8 0)),.d (.v (.int .u8 0)),.d (.v (.int .u8 0)),.d (.v (.int .u8 0)),.d (.v (.int .u8 0)),.d (.v (.int .u8 0)),.d (.v (.int .u8 0))]:List AV)=List.map AV.d [bD (aR l b n) 0,bD (aR l b n) 1,bD (aR l b n) 2,bD (aR l b n) 3,bD (aR l b n) 4,bD (aR l b n) 5,bD (aR l b n) 6,bD (aR l b n) 7]) trivial)))) fun ac wd r=>?_
 refine aF.rounds (Φ:=fun (i:Nat) ac wd=>(i≤8)∧RB D w0 K 32 bs [(6,.u (fX (aR l b n) i)),(18,.ag [.d (bD (aR l b n) 0),.d (bD (aR l b n) 1),.d (bD (aR l b n) 2),.d (bD (aR l b n) 3),.d (bD (aR l b n) 4),.d (bD (aR l b n) 5),.d (bD (aR l b n) 6),.d (bD (aR l b n) 7)]),(19,.n i)] [.bx 108 [.d (.ro 1 (af (fo l b n))),.d (.v (.bool ((fz l b n))))]] ac wd) (8) ?_ (Nat.zero_le _) ⟨(Nat.zero_le _),r⟩
 clear r
 rintro i dw bj ac wd ⟨ao,r⟩
 cases h0:(decide ((((i:Nat):Int):Int)<8)) with
 | false=>
  have aT:=of_decide_eq_false h0
  refine aY (y:=.u (fX (aR l b n) i)) (N':=[.bx 108 [.d (.ro 1 (af (fo l b n))),.d (.v (.bool ((fz l b n))))]]) ((by rw [show i=8 by omega])) (rfl) ?_
  exact aX tk mo hK rfl al [(7,[(0,.b false)])] 2000 [0] r (by kernel_rfl) (U h0 trivial)
 | true=>
  have aT:=of_decide_eq_true h0
  exact bp (todo':=hd Tryz.f90 0) tk mo hK al [(7,[(0,.b true)]),(8,[(1,.ix (i) [.v (.int .u8 (((((aR l b n).getD i 0).toNat:Nat):Int)))])]),(9,[(2,.z (IntKind.u64.wrap ((((aR l b n).getD i 0).toNat:Nat):Int))),(4,.z (((8*i:Nat):Int))),(5,.z (IntKind.u64.wrap (IntKind.u64.wrap ((((aR l b n).getD i 0).toNat:Nat):Int)*2 ^ (min ((8*i:Nat):Int).toNat IntKind.u64.bits)))),(6,.z (((fX (aR l b n) (i+1):Nat):Int)))]),(10,[(0,.z (((i+1:Nat):Int)))])] 2000 [0] [6,18,19] r (by kernel_rfl) (U h0 (U (ax ((i:Nat):Int)) (U ((by first | omega | decide | (simp;done) | (simp;omega)):(i)<8) (U ((MD (aR l b n) (by omega)):oN tb 5 [.d (bD (aR l b n) 0),.d (bD (aR l b n) 1),.d (bD (aR l b n) 2),.d (bD (aR l b n) 3),.d (bD (aR l b n) 4),.d (bD (aR l b n) 5),.d (bD (aR l b n) 6),.d (bD (aR l b n) 7)] ((i)*1)=some (.d (.v (.int .u8 (((((aR l b n).getD i 0).toNat:Nat):Int)))))) (U (rfl:IntKind.u64.wrap (((((aR l b n).getD i 0).toNat:Nat):Int))=IntKind.u64.wrap ((((aR l b n).getD i 0).toNat:Nat):Int)) (U ((wi (by omega)):IntKind.i64.wrap ((8:Int)*((i:Nat):Int))=((8*i:Nat):Int)) (U (rfl:IntKind.u64.wrap ((IntKind.u64.wrap ((((aR l b n).getD i 0).toNat:Nat):Int):Int)*2 ^ (min (((8*i:Nat):Int):Int).toNat IntKind.u64.bits))=IntKind.u64.wrap (IntKind.u64.wrap ((((aR l b n).getD i 0).toNat:Nat):Int)*2 ^ (min ((8*i:Nat):Int).toNat IntKind.u64.bits))) (U ((by first | decide | omega):(0:Int)≤((8*i:Nat):Int)) (U ((J2 (by omega) (UInt8.toNat_lt _) (CF _ _)):IntKind.u64.wrap ((BitVec.ofInt IntKind.u64.bits (((fX (aR l b n) i:Nat):Int)) ||| BitVec.ofInt IntKind.u64.bits (IntKind.u64.wrap (IntKind.u64.wrap ((((aR l b n).getD i 0).toNat:Nat):Int)*2 ^ (min ((8*i:Nat):Int).toNat IntKind.u64.bits)))).toNat:Int)=((fX (aR l b n) (i+1):Nat):Int)) (U ((wi (by omega)):IntKind.i64.wrap ((((i:Nat):Int):Int)+1)=((i+1:Nat):Int)) trivial)))))))))) fun ac wd r=>bj (by omega) ac wd ⟨(by omega),r⟩
theorem yo {X:List UInt8} {n:Nat} (h:X.length≤n):∀ k,fX X (n+k)=fX X n
 | 0=>rfl
 | k+1=>by rw [← Nat.add_assoc,fX,yo h k,Bq (by omega)];simp
theorem ME {X:List UInt8} (h:X.length≤1):fX X 8=(X.getD 0 0).toNat:=by rw [yo (n:=1) h 7];simp [fX]
theorem MF {X:List UInt8} (h:X.length≤2):fX X 8=(X.getD 0 0).toNat+(X.getD 1 0).toNat*256:=by rw [yo (n:=2) h 6];simp [fX]
theorem w8 {z:Int} (h:0≤z∧z≤255):IntKind.u8.wrap z=z:=by simp [IntKind.wrap,IntKind.signed,IntKind.bits];omega
theorem O7 {z:Int} (h:0≤z∧z≤65535):IntKind.u16.wrap z=z:=by simp [IntKind.wrap,IntKind.signed,IntKind.bits];omega
set_option maxRecDepth 100000 in
theorem EL (l:List UInt8) (b:Bool):aC Tryz.prog 62 [.pt 0 0] [.bx 108 [.d (.ro 1 (af l)),.d (.v (.bool b))]] (.d (.v (.int .u8 ((((aR l b 1).getD 0 0).toNat:Nat):Int)))) (jg (fo l b 1) (fz l b 1)):=by
 refine aC.intro (by kernel_rfl) rfl rfl 6 rfl rfl fun D w0 K bs ac wd hK (al:bs.m=1) r=>?_
 refine aY (y:=.d (.v (.int .u8 (((((aR l b 1).getD 0 0).toNat:Nat):Int))))) (N':=[.bx 108 [.d (.ro 1 (af (fo l b 1))),.d (.v (.bool ((fz l b 1))))]]) (rfl) (rfl) ?_
 exact aX tk mo hK rfl al [(1,[(1,.mem [0] (.u (fX (aR l b 1) 8)) [.bx 108 [.d (.ro 1 (af (fo l b 1))),.d (.v (.bool ((fz l b 1))))]]),(2,.z (((((aR l b 1).getD 0 0).toNat:Nat):Int)))])] 2000 [0] r (by kernel_rfl) (U (CG l b 1 (by decide)) (U ((by rw [ME (X:=aR l b 1) (xr l b 1)];exact w8 (by have:=((aR l b 1).getD 0 0).toNat_lt;have:=((aR l b 1).getD 1 0).toNat_lt;omega)):IntKind.u8.wrap (((fX (aR l b 1) 8:Nat):Int))=((((aR l b 1).getD 0 0).toNat:Nat):Int)) trivial))
set_option maxRecDepth 100000 in
theorem NW (l:List UInt8) (b:Bool):aC Tryz.prog 63 [.pt 0 0] [.bx 108 [.d (.ro 1 (af l)),.d (.v (.bool b))]] (.d (.v (.int .u16 (((((aR l b 2).getD 0 0).toNat+((aR l b 2).getD 1 0).toNat*256):Nat):Int)))) (jg (fo l b 2) (fz l b 2)):=by
 refine aC.intro (by kernel_rfl) rfl rfl 6 rfl rfl fun D w0 K bs ac wd hK (al:bs.m=1) r=>?_
 refine aY (y:=.d (.v (.int .u16 ((((((aR l b 2).getD 0 0).toNat+((aR l b 2).getD 1 0).toNat*256):Nat):Int))))) (N':=[.bx 108 [.d (.ro 1 (af (fo l b 2))),.d (.v (.bool ((fz l b 2))))]]) (rfl) (rfl) ?_
 exact aX tk mo hK rfl al [(1,[(1,.mem [0] (.u (fX (aR l b 2) 8)) [.bx 108 [.d (.ro 1 (af (fo l b 2))),.d (.v (.bool ((fz l b 2))))]]),(2,.z ((((((aR l b 2).getD 0 0).toNat+((aR l b 2).getD 1 0).toNat*256):Nat):Int)))])] 2000 [0] r (by kernel_rfl) (U (CG l b 2 (by decide)) (U ((by rw [MF (X:=aR l b 2) (xr l b 2)];exact O7 (by have:=((aR l b 2).getD 0 0).toNat_lt;have:=((aR l b 2).getD 1 0).toNat_lt;omega)):IntKind.u16.wrap (((fX (aR l b 2) 8:Nat):Int))=(((((aR l b 2).getD 0 0).toNat+((aR l b 2).getD 1 0).toNat*256):Nat):Int)) trivial))
end Go.Proofs.YtcnpikbbmbombaaGreatDoor
namespace Go.Proofs.YtcnpikbbmbombaaGreatDoor
open Go.RowKit
theorem oY {a b:List UInt8} (h:a=b) (r:List aj):(aj.rw 91 1 [[.em 5 1 (af a)]]::r)=aj.rw 91 1 [[.em 5 1 (af b)]]::r:=by rw [h]
def fT (l:List (Int×Int)):List UInt8:=l.flatMap fun x=>[bz x.1,bz x.2]
def db (c:bK):List UInt8:=[bz c.aD]++[bz ((c.ah.length:Nat):Int)]++fT c.ah++[bz ((c.homes.length:Nat):Int)]++c.homes.map bz
def rT (x:kt) (s:aB):List UInt8:=(if x.node then [bz s.node] else [])++(if x.peer then [bz s.peer] else [])++(if x.n then [bz s.n] else [])++(if x.bit then [bz s.bit,bz (s.bit / 256)] else [])++(if x.inc then e6 s.inc else [])++(if x.body then bz ((s.body.length:Nat):Int)::s.body else [])
def fF (s:aB):List UInt8:=bz s.kind::rT (ae s.kind.toNat) s
theorem rE {α:Type} {b:Bool} {l:List α} {n:Nat} (h:l.length≤n):(if b=true then l else []).length≤n:=by split;exact h;exact Nat.zero_le _
theorem iV (l:List (Int×Int)):(fT l).length=2*l.length:=by
 unfold fT;induction l with
 | nil=>rfl
 | cons x r ih=>rw [List.flatMap_cons,List.length_append,ih];simp;omega
theorem G8 {l:List (Int×Int)} {i:Nat} {x:Int×Int} (h:l[i]?=some x):fT (l.take (i+1))=fT (l.take i)++[bz x.1,bz x.2]:=by
 unfold fT;rw [List.take_add_one,h];simp
theorem Gd {l:List Int} {i:Nat} {x:Int} (h:l[i]?=some x):(l.take (i+1)).map bz=(l.take i).map bz++[bz x]:=by
 rw [List.take_add_one,h];simp
theorem Ay:∀ (k x:Nat),x<128 ^ (k+1)→(e6 x).length≤k+1
 | 0,x,h=>by rw [vu (by omega)];simp
 | k+1,x,h=>by
  by_cases hx:x<128
  ·rw [vu hx];simp
  ·rw [AW hx]
   have:=Ay k (x / 128) (by rw [Nat.div_lt_iff_lt_mul (by decide),← Nat.pow_succ];exact h)
   simp;omega
theorem fZ {x:Nat} (h:x<18446744073709551616):(e6 x).length≤10:=Ay 9 x (Nat.lt_of_lt_of_le h (by decide))
theorem NX {z:Int} (h:0≤z) (h2:z≤65535):IntKind.u16.wrap z=((z.toNat:Nat):Int):=by
 simp [IntKind.wrap,IntKind.signed,IntKind.bits];omega
set_option maxRecDepth 100000 in
theorem Lk (l:List UInt8) (c:bK) (hl:l.length≤16777216) (hc:c.ah.length≤1048576) (hh:c.homes.length≤1048576):aC Tryz.prog 23 [.ep 0 1 (0) 0,.ag [.z c.aD,.d (.ro 2 (ah c.ah)),.d (.ro 1 (ints c.homes))]] [.rw 91 1 ([[.em 5 1 (af l)]])] (.tu []) (jD (l++db c)):=by
 refine aC.intro (by kernel_rfl) rfl rfl 55 rfl rfl fun D w0 K bs ac wd hK (al:bs.m=1) r=>?_
 refine bp (todo':=hd Tryz.f23 0) (E':=[(0,.ep 0 1 (0) 0),(3,.pt 1 0),(20,.d (.ro 2 (ah c.ah))),(21,.n c.ah.length),(22,.z 0)]) (M':=[.rw 91 1 ([[.em 5 1 (af ((l++[(bz c.aD)])++[(bz ((c.ah.length:Nat):Int))]))]]),.bx 25 [.z c.aD,.d (.ro 2 (ah c.ah)),.d (.ro 1 (ints c.homes))]]) tk mo hK al [(1,[(3,.z ((((bz c.aD).toNat:Nat):Int))),(4,.mem [0] (.tu []) [.rw 91 1 ([[.em 5 1 (af (l++[(bz c.aD)]))]])])]),(2,[(3,.z (((c.ah.length:Nat):Int))),(4,.z ((((bz ((c.ah.length:Nat):Int)).toNat:Nat):Int))),(5,.mem [0] (.tu []) [.rw 91 1 ([[.em 5 1 (af ((l++[(bz c.aD)])++[(bz ((c.ah.length:Nat):Int))]))]])])]),(3,[(2,.z (((c.ah.length:Nat):Int)))])] 2000 [0,1] [0,3,20,21,22] r (by kernel_rfl) (U ((gW _):IntKind.u8.wrap (c.aD)=(((bz c.aD).toNat:Nat):Int)) (U (kY l (bz c.aD) (by first | omega | (simp [iV,fZ];omega))) (U ((by first | rfl | simp [af,ah,ints,steps,strs]):(((ah c.ah).length:Nat):Int)=((c.ah.length:Nat):Int)) (U ((gW _):IntKind.u8.wrap (((c.ah.length:Nat):Int))=(((bz ((c.ah.length:Nat):Int)).toNat:Nat):Int)) (U (kY (l++[(bz c.aD)]) (bz ((c.ah.length:Nat):Int)) (by first | omega | (simp [iV,fZ];omega))) (U ((by first | rfl | simp [af,ah,ints,steps,strs]):(((ah c.ah).length:Nat):Int)=((c.ah.length:Nat):Int)) trivial)))))) fun ac wd r=>?_
 refine aF.rounds (Φ:=fun (i:Nat) ac wd=>(True)∧RB D w0 K 55 bs [(0,.ep 0 1 (0) 0),(3,.pt 1 0),(20,.d (.ro 2 (ah c.ah))),(21,.n c.ah.length),(22,.n i)] [.rw 91 1 ([[.em 5 1 (af (l++[bz c.aD]++[bz ((c.ah.length:Nat):Int)]++fT (c.ah.take i)))]]),.bx 25 [.z c.aD,.d (.ro 2 (ah c.ah)),.d (.ro 1 (ints c.homes))]] ac wd) (c.ah.length) ?_ (Nat.zero_le _) ⟨trivial,(r).cast rfl (oY (by simp [fT]) _)⟩
 clear r
 rintro i dw bj ac wd ⟨ao,r⟩
 cases h0:(decide ((((i:Nat):Int):Int)<((c.ah.length:Nat):Int))) with
 | false=>
  have aT:=of_decide_eq_false h0
  refine bp (todo':=hd Tryz.f23 1) (E':=[(0,.ep 0 1 (0) 0),(3,.pt 1 0),(44,.d (.ro 1 (ints c.homes))),(45,.n c.homes.length),(46,.z 0)]) (M':=[.rw 91 1 ([[.em 5 1 (af ((l++[bz c.aD]++[bz ((c.ah.length:Nat):Int)]++fT (c.ah.take i))++[(bz ((c.homes.length:Nat):Int))]))]]),.bx 25 [.z c.aD,.d (.ro 2 (ah c.ah)),.d (.ro 1 (ints c.homes))]]) tk mo hK al [(4,[(0,.b false)]),(9,[(3,.z (((c.homes.length:Nat):Int))),(4,.z ((((bz ((c.homes.length:Nat):Int)).toNat:Nat):Int))),(5,.mem [0] (.tu []) [.rw 91 1 ([[.em 5 1 (af ((l++[bz c.aD]++[bz ((c.ah.length:Nat):Int)]++fT (c.ah.take i))++[(bz ((c.homes.length:Nat):Int))]))]])])]),(10,[(2,.z (((c.homes.length:Nat):Int)))])] 2000 [0,1] [0,3,44,45,46] r (by kernel_rfl) (U h0 (U ((by first | rfl | simp [af,ah,ints,steps,strs]):(((ints c.homes).length:Nat):Int)=((c.homes.length:Nat):Int)) (U ((gW _):IntKind.u8.wrap (((c.homes.length:Nat):Int))=(((bz ((c.homes.length:Nat):Int)).toNat:Nat):Int)) (U (kY (l++[bz c.aD]++[bz ((c.ah.length:Nat):Int)]++fT (c.ah.take i)) (bz ((c.homes.length:Nat):Int)) (by first | omega | (simp [iV,fZ];omega))) (U ((by first | rfl | simp [af,ah,ints,steps,strs]):(((ints c.homes).length:Nat):Int)=((c.homes.length:Nat):Int)) trivial))))) fun ac wd r=>?_
  refine aF.rounds (Φ:=fun (i:Nat) ac wd=>(True)∧RB D w0 K 55 bs [(0,.ep 0 1 (0) 0),(3,.pt 1 0),(44,.d (.ro 1 (ints c.homes))),(45,.n c.homes.length),(46,.n i)] [.rw 91 1 ([[.em 5 1 (af (l++[bz c.aD]++[bz ((c.ah.length:Nat):Int)]++fT c.ah++[bz ((c.homes.length:Nat):Int)]++(c.homes.take i).map bz))]]),.bx 25 [.z c.aD,.d (.ro 2 (ah c.ah)),.d (.ro 1 (ints c.homes))]] ac wd) (c.homes.length) ?_ (Nat.zero_le _) ⟨trivial,(r).cast rfl (oY (by rw [List.take_of_length_le (by omega)];simp) _)⟩
  clear r
  rintro i kX c9 ac wd ⟨bo,r⟩
  cases h1:(decide ((((i:Nat):Int):Int)<((c.homes.length:Nat):Int))) with
  | false=>
   have bR:=of_decide_eq_false h1
   refine aY (y:=.tu []) (N':=[.rw 91 1 ([[.em 5 1 (af (l++[bz c.aD]++[bz ((c.ah.length:Nat):Int)]++fT c.ah++[bz ((c.homes.length:Nat):Int)]++(c.homes.take i).map bz))]])]) (rfl) ((oY (by rw [List.take_of_length_le (by omega)];simp [db]) [])) ?_
   exact aX tk mo hK rfl al [(11,[(0,.b false)])] 2000 [0] r (by kernel_rfl) (U h1 trivial)
  | true=>
   have bR:=of_decide_eq_true h1
   obtain ⟨eu,cG⟩:∃ x_,c.homes[i]?=some x_:=⟨_,List.getElem?_eq_getElem (by omega)⟩
   exact bp (todo':=hd Tryz.f23 1) (E':=[(0,.ep 0 1 (0) 0),(3,.pt 1 0),(44,.d (.ro 1 (ints c.homes))),(45,.n c.homes.length),(46,.n (i+1))]) (M':=[.rw 91 1 ([[.em 5 1 (af ((l++[bz c.aD]++[bz ((c.ah.length:Nat):Int)]++fT c.ah++[bz ((c.homes.length:Nat):Int)]++(c.homes.take i).map bz)++[(bz eu)]))]]),.bx 25 [.z c.aD,.d (.ro 2 (ah c.ah)),.d (.ro 1 (ints c.homes))]]) tk mo hK al [(11,[(0,.b true)]),(12,[(0,.ix (i) [.z eu])]),(13,[(2,.z ((((bz eu).toNat:Nat):Int))),(3,.mem [0] (.tu []) [.rw 91 1 ([[.em 5 1 (af ((l++[bz c.aD]++[bz ((c.ah.length:Nat):Int)]++fT c.ah++[bz ((c.homes.length:Nat):Int)]++(c.homes.take i).map bz)++[(bz eu)]))]])])]),(14,[(0,.z (((i+1:Nat):Int)))])] 2000 [0,1] [0,3,44,45,46] r (by kernel_rfl) (U h1 (U (ax ((i:Nat):Int)) (U (ints_at cG) (U ((gW _):IntKind.u8.wrap (eu)=(((bz eu).toNat:Nat):Int)) (U (kY (l++[bz c.aD]++[bz ((c.ah.length:Nat):Int)]++fT c.ah++[bz ((c.homes.length:Nat):Int)]++(c.homes.take i).map bz) (bz eu) (by first | omega | (simp [iV,fZ];omega))) (U ((wi (by omega)):IntKind.i64.wrap ((((i:Nat):Int):Int)+1)=((i+1:Nat):Int)) trivial)))))) fun ac wd r=>c9 (by omega) ac wd ⟨trivial,r.cast rfl (oY (by rw [Gd cG];simp) _)⟩
 | true=>
  have aT:=of_decide_eq_true h0
  obtain ⟨aP,br⟩:∃ x_,c.ah[i]?=some x_:=⟨_,List.getElem?_eq_getElem (by omega)⟩
  exact bp (todo':=hd Tryz.f23 0) (E':=[(0,.ep 0 1 (0) 0),(3,.pt 1 0),(20,.d (.ro 2 (ah c.ah))),(21,.n c.ah.length),(22,.n (i+1))]) (M':=[.rw 91 1 ([[.em 5 1 (af (((l++[bz c.aD]++[bz ((c.ah.length:Nat):Int)]++fT (c.ah.take i))++[(bz aP.1)])++[(bz aP.2)]))]]),.bx 25 [.z c.aD,.d (.ro 2 (ah c.ah)),.d (.ro 1 (ints c.homes))]]) tk mo hK al [(4,[(0,.b true)]),(5,[(0,.ix (i) [.z aP.1,.z aP.2])]),(6,[(1,.n 0),(3,.z ((((bz aP.1).toNat:Nat):Int))),(4,.mem [0] (.tu []) [.rw 91 1 ([[.em 5 1 (af ((l++[bz c.aD]++[bz ((c.ah.length:Nat):Int)]++fT (c.ah.take i))++[(bz aP.1)]))]])])]),(7,[(1,.n 1),(3,.z ((((bz aP.2).toNat:Nat):Int))),(4,.mem [0] (.tu []) [.rw 91 1 ([[.em 5 1 (af (((l++[bz c.aD]++[bz ((c.ah.length:Nat):Int)]++fT (c.ah.take i))++[(bz aP.1)])++[(bz aP.2)]))]])])]),(8,[(0,.z (((i+1:Nat):Int)))])] 2000 [0,1] [0,3,20,21,22] r (by kernel_rfl) (U h0 (U (ax ((i:Nat):Int)) (U (c7 br) (U (rfl:(0)=((0:Nat):Int)) (U ((by omega):(0)<2) (U ((gW _):IntKind.u8.wrap (aP.1)=(((bz aP.1).toNat:Nat):Int)) (U (kY (l++[bz c.aD]++[bz ((c.ah.length:Nat):Int)]++fT (c.ah.take i)) (bz aP.1) (by first | omega | (simp [iV,fZ];omega))) (U (rfl:(1)=((1:Nat):Int)) (U ((by omega):(1)<2) (U ((gW _):IntKind.u8.wrap (aP.2)=(((bz aP.2).toNat:Nat):Int)) (U (kY ((l++[bz c.aD]++[bz ((c.ah.length:Nat):Int)]++fT (c.ah.take i))++[(bz aP.1)]) (bz aP.2) (by first | omega | (simp [iV,fZ];omega))) (U ((wi (by omega)):IntKind.i64.wrap ((((i:Nat):Int):Int)+1)=((i+1:Nat):Int)) trivial)))))))))))) fun ac wd r=>bj (by omega) ac wd ⟨trivial,r.cast rfl (oY (by rw [G8 br];simp) _)⟩
set_option maxRecDepth 100000 in
theorem G9 (l:List UInt8) (s:aB) (hl:l.length≤16777216) (hb:s.body.length≤255) (hi:s.inc<18446744073709551616) (ff:0≤s.bit) (gj:s.bit≤65535) (k0:0≤s.kind) (k1:s.kind<14):aC Tryz.prog 26 [.ep 0 1 (0) 0,.ag [.z s.kind,.z s.node,.z s.peer,.z s.n,.z s.bit,.u s.inc,.d (.ro 1 (af s.body))]] [.rw 91 1 ([[.em 5 1 (af l)]]),.gw 0 ai] (.tu []) ([.rw 91 1 [[.em 5 1 (af (l++fF s))]],.gw 0 ai]):=by
 refine aC.intro (by kernel_rfl) rfl rfl 60 rfl rfl fun D w0 K bs ac wd hK (al:bs.m=2) r=>?_
 refine bS (todo':=aft Tryz.f26 3) (E':=[(0,.ep 0 1 (0) 0),(3,.pt 2 0),(4,.pt 3 0),(15,.d (.v (.bool ((ae s.kind.toNat).node))))]) (M':=[.rw 91 1 ([[.em 5 1 (af (l++[(bz s.kind)]))]]),.gw 0 ai,.bx 42 [.z s.kind,.z s.node,.z s.peer,.z s.n,.z s.bit,.u s.inc,.d (.ro 1 (af s.body))],.bx 94 [.d (.v (.string ⟨((ae s.kind.toNat).word).toArray⟩)),.d (.v (.bool ((ae s.kind.toNat).node))),.d (.v (.bool ((ae s.kind.toNat).peer))),.d (.v (.bool ((ae s.kind.toNat).n))),.d (.v (.bool ((ae s.kind.toNat).bit))),.d (.v (.bool ((ae s.kind.toNat).inc))),.d (.v (.bool ((ae s.kind.toNat).body)))]]) tk mo hK al [(1,[(2,.ix (s.kind.toNat) [.v (.string ⟨((ae s.kind.toNat).word).toArray⟩),.v (.bool ((ae s.kind.toNat).node)),.v (.bool ((ae s.kind.toNat).peer)),.v (.bool ((ae s.kind.toNat).n)),.v (.bool ((ae s.kind.toNat).bit)),.v (.bool ((ae s.kind.toNat).inc)),.v (.bool ((ae s.kind.toNat).body))])]),(2,[(3,.z ((((bz s.kind).toNat:Nat):Int))),(4,.mem [0] (.tu []) [.rw 91 1 ([[.em 5 1 (af (l++[(bz s.kind)]))]])])])] 9 [0,1,2,3] [0,3,4,15] r (by kernel_rfl) (U ((by omega):(s.kind)=((s.kind.toNat:Nat):Int)) (U ((by omega):(s.kind.toNat)<14) (U (nZ (by omega):List.take 7 (List.drop ((s.kind.toNat)*7) (ai:List DV))=([.v (.string ⟨((ae s.kind.toNat).word).toArray⟩),.v (.bool ((ae s.kind.toNat).node)),.v (.bool ((ae s.kind.toNat).peer)),.v (.bool ((ae s.kind.toNat).n)),.v (.bool ((ae s.kind.toNat).bit)),.v (.bool ((ae s.kind.toNat).inc)),.v (.bool ((ae s.kind.toNat).body))]:List DV)) (U ((gW _):IntKind.u8.wrap (s.kind)=(((bz s.kind).toNat:Nat):Int)) (U (kY l (bz s.kind) (by first | omega | (simp [iV,fZ];omega))) trivial))))) fun ac wd r=>?_
 suffices J5:∀ ac wd,RB D w0 K 60 bs [(0,.ep 0 1 (0) 0),(3,.pt 2 0),(4,.pt 3 0),(22,.d (.v (.bool ((ae s.kind.toNat).peer))))] [.rw 91 1 ([[.em 5 1 (af (l++[bz s.kind]++(if (ae s.kind.toNat).node=true then [bz s.node] else [])))]]),.gw 0 ai,.bx 42 [.z s.kind,.z s.node,.z s.peer,.z s.n,.z s.bit,.u s.inc,.d (.ro 1 (af s.body))],.bx 94 [.d (.v (.string ⟨((ae s.kind.toNat).word).toArray⟩)),.d (.v (.bool ((ae s.kind.toNat).node))),.d (.v (.bool ((ae s.kind.toNat).peer))),.d (.v (.bool ((ae s.kind.toNat).n))),.d (.v (.bool ((ae s.kind.toNat).bit))),.d (.v (.bool ((ae s.kind.toNat).inc))),.d (.v (.bool ((ae s.kind.toNat).body)))]] ac wd→aF Tryz.prog 26 (aft Tryz.f26 5) (fE D w0 K bs (.tu []) ([.rw 91 1 [[.em 5 1 (af (l++fF s))]],.gw 0 ai])) ac wd by
  cases h0:((ae s.kind.toNat).node) with
  | false=>
   have r:=r.cast (E':=[(0,.ep 0 1 (0) 0),(3,.pt 2 0),(4,.pt 3 0),(15,.d (.v (.bool false)))]) (M':=[.rw 91 1 ([[.em 5 1 (af (l++[(bz s.kind)]))]]),.gw 0 ai,.bx 42 [.z s.kind,.z s.node,.z s.peer,.z s.n,.z s.bit,.u s.inc,.d (.ro 1 (af s.body))],.bx 94 [.d (.v (.string ⟨((ae s.kind.toNat).word).toArray⟩)),.d (.v (.bool false)),.d (.v (.bool ((ae s.kind.toNat).peer))),.d (.v (.bool ((ae s.kind.toNat).n))),.d (.v (.bool ((ae s.kind.toNat).bit))),.d (.v (.bool ((ae s.kind.toNat).inc))),.d (.v (.bool ((ae s.kind.toNat).body)))]]) (by rw [h0]) (by rw [h0])
   refine bS (todo':=aft Tryz.f26 5) (E':=[(0,.ep 0 1 (0) 0),(3,.pt 2 0),(4,.pt 3 0),(22,.d (.v (.bool ((ae s.kind.toNat).peer))))]) (M':=[.rw 91 1 ([[.em 5 1 (af (l++[(bz s.kind)]))]]),.gw 0 ai,.bx 42 [.z s.kind,.z s.node,.z s.peer,.z s.n,.z s.bit,.u s.inc,.d (.ro 1 (af s.body))],.bx 94 [.d (.v (.string ⟨((ae s.kind.toNat).word).toArray⟩)),.d (.v (.bool false)),.d (.v (.bool ((ae s.kind.toNat).peer))),.d (.v (.bool ((ae s.kind.toNat).n))),.d (.v (.bool ((ae s.kind.toNat).bit))),.d (.v (.bool ((ae s.kind.toNat).inc))),.d (.v (.bool ((ae s.kind.toNat).body)))]]) tk mo hK al [] 5 [0,1,2,3] [0,3,4,22] r (by kernel_rfl) trivial fun ac wd r=>?_
   exact J5 ac wd (r.cast rfl (by rw [if_neg (ne_true_of_eq_false h0),h0]<;>simp [Int.max_eq_left ff]))
  | true=>
   have r:=r.cast (E':=[(0,.ep 0 1 (0) 0),(3,.pt 2 0),(4,.pt 3 0),(15,.d (.v (.bool true)))]) (M':=[.rw 91 1 ([[.em 5 1 (af (l++[(bz s.kind)]))]]),.gw 0 ai,.bx 42 [.z s.kind,.z s.node,.z s.peer,.z s.n,.z s.bit,.u s.inc,.d (.ro 1 (af s.body))],.bx 94 [.d (.v (.string ⟨((ae s.kind.toNat).word).toArray⟩)),.d (.v (.bool true)),.d (.v (.bool ((ae s.kind.toNat).peer))),.d (.v (.bool ((ae s.kind.toNat).n))),.d (.v (.bool ((ae s.kind.toNat).bit))),.d (.v (.bool ((ae s.kind.toNat).inc))),.d (.v (.bool ((ae s.kind.toNat).body)))]]) (by rw [h0]) (by rw [h0])
   refine bS (todo':=aft Tryz.f26 5) (E':=[(0,.ep 0 1 (0) 0),(3,.pt 2 0),(4,.pt 3 0),(22,.d (.v (.bool ((ae s.kind.toNat).peer))))]) (M':=[.rw 91 1 ([[.em 5 1 (af ((l++[(bz s.kind)])++[(bz s.node)]))]]),.gw 0 ai,.bx 42 [.z s.kind,.z s.node,.z s.peer,.z s.n,.z s.bit,.u s.inc,.d (.ro 1 (af s.body))],.bx 94 [.d (.v (.string ⟨((ae s.kind.toNat).word).toArray⟩)),.d (.v (.bool true)),.d (.v (.bool ((ae s.kind.toNat).peer))),.d (.v (.bool ((ae s.kind.toNat).n))),.d (.v (.bool ((ae s.kind.toNat).bit))),.d (.v (.bool ((ae s.kind.toNat).inc))),.d (.v (.bool ((ae s.kind.toNat).body)))]]) tk mo hK al [(4,[(3,.z ((((bz s.node).toNat:Nat):Int))),(4,.mem [0] (.tu []) [.rw 91 1 ([[.em 5 1 (af ((l++[(bz s.kind)])++[(bz s.node)]))]])])])] 5 [0,1,2,3] [0,3,4,22] r (by kernel_rfl) (U ((gW _):IntKind.u8.wrap (s.node)=(((bz s.node).toNat:Nat):Int)) (U (kY (l++[(bz s.kind)]) (bz s.node) (by first | omega | (simp [iV,fZ];omega))) trivial)) fun ac wd r=>?_
   exact J5 ac wd (r.cast rfl (by rw [if_pos h0,h0]<;>simp [Int.max_eq_left ff]))
 intro ac wd r
 have O8:=rE (b:=(ae s.kind.toNat).node) (l:=[bz s.node]) (n:=2) (by first | (simp;done) | exact fZ hi)
 suffices J7:∀ ac wd,RB D w0 K 60 bs [(0,.ep 0 1 (0) 0),(3,.pt 2 0),(4,.pt 3 0),(29,.d (.v (.bool ((ae s.kind.toNat).n))))] [.rw 91 1 ([[.em 5 1 (af (l++[bz s.kind]++(if (ae s.kind.toNat).node=true then [bz s.node] else [])++(if (ae s.kind.toNat).peer=true then [bz s.peer] else [])))]]),.gw 0 ai,.bx 42 [.z s.kind,.z s.node,.z s.peer,.z s.n,.z s.bit,.u s.inc,.d (.ro 1 (af s.body))],.bx 94 [.d (.v (.string ⟨((ae s.kind.toNat).word).toArray⟩)),.d (.v (.bool ((ae s.kind.toNat).node))),.d (.v (.bool ((ae s.kind.toNat).peer))),.d (.v (.bool ((ae s.kind.toNat).n))),.d (.v (.bool ((ae s.kind.toNat).bit))),.d (.v (.bool ((ae s.kind.toNat).inc))),.d (.v (.bool ((ae s.kind.toNat).body)))]] ac wd→aF Tryz.prog 26 (aft Tryz.f26 7) (fE D w0 K bs (.tu []) ([.rw 91 1 [[.em 5 1 (af (l++fF s))]],.gw 0 ai])) ac wd by
  cases h1:((ae s.kind.toNat).peer) with
  | false=>
   have r:=r.cast (E':=[(0,.ep 0 1 (0) 0),(3,.pt 2 0),(4,.pt 3 0),(22,.d (.v (.bool false)))]) (M':=[.rw 91 1 ([[.em 5 1 (af (l++[bz s.kind]++(if (ae s.kind.toNat).node=true then [bz s.node] else [])))]]),.gw 0 ai,.bx 42 [.z s.kind,.z s.node,.z s.peer,.z s.n,.z s.bit,.u s.inc,.d (.ro 1 (af s.body))],.bx 94 [.d (.v (.string ⟨((ae s.kind.toNat).word).toArray⟩)),.d (.v (.bool ((ae s.kind.toNat).node))),.d (.v (.bool false)),.d (.v (.bool ((ae s.kind.toNat).n))),.d (.v (.bool ((ae s.kind.toNat).bit))),.d (.v (.bool ((ae s.kind.toNat).inc))),.d (.v (.bool ((ae s.kind.toNat).body)))]]) (by rw [h1]) (by rw [h1])
   refine bS (todo':=aft Tryz.f26 7) (E':=[(0,.ep 0 1 (0) 0),(3,.pt 2 0),(4,.pt 3 0),(29,.d (.v (.bool ((ae s.kind.toNat).n))))]) (M':=[.rw 91 1 ([[.em 5 1 (af (l++[bz s.kind]++(if (ae s.kind.toNat).node=true then [bz s.node] else [])))]]),.gw 0 ai,.bx 42 [.z s.kind,.z s.node,.z s.peer,.z s.n,.z s.bit,.u s.inc,.d (.ro 1 (af s.body))],.bx 94 [.d (.v (.string ⟨((ae s.kind.toNat).word).toArray⟩)),.d (.v (.bool ((ae s.kind.toNat).node))),.d (.v (.bool false)),.d (.v (.bool ((ae s.kind.toNat).n))),.d (.v (.bool ((ae s.kind.toNat).bit))),.d (.v (.bool ((ae s.kind.toNat).inc))),.d (.v (.bool ((ae s.kind.toNat).body)))]]) tk mo hK al [] 5 [0,1,2,3] [0,3,4,29] r (by kernel_rfl) trivial fun ac wd r=>?_
   exact J7 ac wd (r.cast rfl (by rw [if_neg (ne_true_of_eq_false h1),h1]<;>simp [Int.max_eq_left ff]))
  | true=>
   have r:=r.cast (E':=[(0,.ep 0 1 (0) 0),(3,.pt 2 0),(4,.pt 3 0),(22,.d (.v (.bool true)))]) (M':=[.rw 91 1 ([[.em 5 1 (af (l++[bz s.kind]++(if (ae s.kind.toNat).node=true then [bz s.node] else [])))]]),.gw 0 ai,.bx 42 [.z s.kind,.z s.node,.z s.peer,.z s.n,.z s.bit,.u s.inc,.d (.ro 1 (af s.body))],.bx 94 [.d (.v (.string ⟨((ae s.kind.toNat).word).toArray⟩)),.d (.v (.bool ((ae s.kind.toNat).node))),.d (.v (.bool true)),.d (.v (.bool ((ae s.kind.toNat).n))),.d (.v (.bool ((ae s.kind.toNat).bit))),.d (.v (.bool ((ae s.kind.toNat).inc))),.d (.v (.bool ((ae s.kind.toNat).body)))]]) (by rw [h1]) (by rw [h1])
   refine bS (todo':=aft Tryz.f26 7) (E':=[(0,.ep 0 1 (0) 0),(3,.pt 2 0),(4,.pt 3 0),(29,.d (.v (.bool ((ae s.kind.toNat).n))))]) (M':=[.rw 91 1 ([[.em 5 1 (af ((l++[bz s.kind]++(if (ae s.kind.toNat).node=true then [bz s.node] else []))++[(bz s.peer)]))]]),.gw 0 ai,.bx 42 [.z s.kind,.z s.node,.z s.peer,.z s.n,.z s.bit,.u s.inc,.d (.ro 1 (af s.body))],.bx 94 [.d (.v (.string ⟨((ae s.kind.toNat).word).toArray⟩)),.d (.v (.bool ((ae s.kind.toNat).node))),.d (.v (.bool true)),.d (.v (.bool ((ae s.kind.toNat).n))),.d (.v (.bool ((ae s.kind.toNat).bit))),.d (.v (.bool ((ae s.kind.toNat).inc))),.d (.v (.bool ((ae s.kind.toNat).body)))]]) tk mo hK al [(6,[(3,.z ((((bz s.peer).toNat:Nat):Int))),(4,.mem [0] (.tu []) [.rw 91 1 ([[.em 5 1 (af ((l++[bz s.kind]++(if (ae s.kind.toNat).node=true then [bz s.node] else []))++[(bz s.peer)]))]])])])] 5 [0,1,2,3] [0,3,4,29] r (by kernel_rfl) (U ((gW _):IntKind.u8.wrap (s.peer)=(((bz s.peer).toNat:Nat):Int)) (U (kY (l++[bz s.kind]++(if (ae s.kind.toNat).node=true then [bz s.node] else [])) (bz s.peer) (by first | omega | (simp [iV,fZ];omega))) trivial)) fun ac wd r=>?_
   exact J7 ac wd (r.cast rfl (by rw [if_pos h1,h1]<;>simp [Int.max_eq_left ff]))
 intro ac wd r
 have O9:=rE (b:=(ae s.kind.toNat).peer) (l:=[bz s.peer]) (n:=2) (by first | (simp;done) | exact fZ hi)
 suffices J9:∀ ac wd,RB D w0 K 60 bs [(0,.ep 0 1 (0) 0),(3,.pt 2 0),(4,.pt 3 0),(36,.d (.v (.bool ((ae s.kind.toNat).bit))))] [.rw 91 1 ([[.em 5 1 (af (l++[bz s.kind]++(if (ae s.kind.toNat).node=true then [bz s.node] else [])++(if (ae s.kind.toNat).peer=true then [bz s.peer] else [])++(if (ae s.kind.toNat).n=true then [bz s.n] else [])))]]),.gw 0 ai,.bx 42 [.z s.kind,.z s.node,.z s.peer,.z s.n,.z s.bit,.u s.inc,.d (.ro 1 (af s.body))],.bx 94 [.d (.v (.string ⟨((ae s.kind.toNat).word).toArray⟩)),.d (.v (.bool ((ae s.kind.toNat).node))),.d (.v (.bool ((ae s.kind.toNat).peer))),.d (.v (.bool ((ae s.kind.toNat).n))),.d (.v (.bool ((ae s.kind.toNat).bit))),.d (.v (.bool ((ae s.kind.toNat).inc))),.d (.v (.bool ((ae s.kind.toNat).body)))]] ac wd→aF Tryz.prog 26 (aft Tryz.f26 9) (fE D w0 K bs (.tu []) ([.rw 91 1 [[.em 5 1 (af (l++fF s))]],.gw 0 ai])) ac wd by
  cases h2:((ae s.kind.toNat).n) with
  | false=>
   have r:=r.cast (E':=[(0,.ep 0 1 (0) 0),(3,.pt 2 0),(4,.pt 3 0),(29,.d (.v (.bool false)))]) (M':=[.rw 91 1 ([[.em 5 1 (af (l++[bz s.kind]++(if (ae s.kind.toNat).node=true then [bz s.node] else [])++(if (ae s.kind.toNat).peer=true then [bz s.peer] else [])))]]),.gw 0 ai,.bx 42 [.z s.kind,.z s.node,.z s.peer,.z s.n,.z s.bit,.u s.inc,.d (.ro 1 (af s.body))],.bx 94 [.d (.v (.string ⟨((ae s.kind.toNat).word).toArray⟩)),.d (.v (.bool ((ae s.kind.toNat).node))),.d (.v (.bool ((ae s.kind.toNat).peer))),.d (.v (.bool false)),.d (.v (.bool ((ae s.kind.toNat).bit))),.d (.v (.bool ((ae s.kind.toNat).inc))),.d (.v (.bool ((ae s.kind.toNat).body)))]]) (by rw [h2]) (by rw [h2])
   refine bS (todo':=aft Tryz.f26 9) (E':=[(0,.ep 0 1 (0) 0),(3,.pt 2 0),(4,.pt 3 0),(36,.d (.v (.bool ((ae s.kind.toNat).bit))))]) (M':=[.rw 91 1 ([[.em 5 1 (af (l++[bz s.kind]++(if (ae s.kind.toNat).node=true then [bz s.node] else [])++(if (ae s.kind.toNat).peer=true then [bz s.peer] else [])))]]),.gw 0 ai,.bx 42 [.z s.kind,.z s.node,.z s.peer,.z s.n,.z s.bit,.u s.inc,.d (.ro 1 (af s.body))],.bx 94 [.d (.v (.string ⟨((ae s.kind.toNat).word).toArray⟩)),.d (.v (.bool ((ae s.kind.toNat).node))),.d (.v (.bool ((ae s.kind.toNat).peer))),.d (.v (.bool false)),.d (.v (.bool ((ae s.kind.toNat).bit))),.d (.v (.bool ((ae s.kind.toNat).inc))),.d (.v (.bool ((ae s.kind.toNat).body)))]]) tk mo hK al [] 5 [0,1,2,3] [0,3,4,36] r (by kernel_rfl) trivial fun ac wd r=>?_
   exact J9 ac wd (r.cast rfl (by rw [if_neg (ne_true_of_eq_false h2),h2]<;>simp [Int.max_eq_left ff]))
  | true=>
   have r:=r.cast (E':=[(0,.ep 0 1 (0) 0),(3,.pt 2 0),(4,.pt 3 0),(29,.d (.v (.bool true)))]) (M':=[.rw 91 1 ([[.em 5 1 (af (l++[bz s.kind]++(if (ae s.kind.toNat).node=true then [bz s.node] else [])++(if (ae s.kind.toNat).peer=true then [bz s.peer] else [])))]]),.gw 0 ai,.bx 42 [.z s.kind,.z s.node,.z s.peer,.z s.n,.z s.bit,.u s.inc,.d (.ro 1 (af s.body))],.bx 94 [.d (.v (.string ⟨((ae s.kind.toNat).word).toArray⟩)),.d (.v (.bool ((ae s.kind.toNat).node))),.d (.v (.bool ((ae s.kind.toNat).peer))),.d (.v (.bool true)),.d (.v (.bool ((ae s.kind.toNat).bit))),.d (.v (.bool ((ae s.kind.toNat).inc))),.d (.v (.bool ((ae s.kind.toNat).body)))]]) (by rw [h2]) (by rw [h2])
   refine bS (todo':=aft Tryz.f26 9) (E':=[(0,.ep 0 1 (0) 0),(3,.pt 2 0),(4,.pt 3 0),(36,.d (.v (.bool ((ae s.kind.toNat).bit))))]) (M':=[.rw 91 1 ([[.em 5 1 (af ((l++[bz s.kind]++(if (ae s.kind.toNat).node=true then [bz s.node] else [])++(if (ae s.kind.toNat).peer=true then [bz s.peer] else []))++[(bz s.n)]))]]),.gw 0 ai,.bx 42 [.z s.kind,.z s.node,.z s.peer,.z s.n,.z s.bit,.u s.inc,.d (.ro 1 (af s.body))],.bx 94 [.d (.v (.string ⟨((ae s.kind.toNat).word).toArray⟩)),.d (.v (.bool ((ae s.kind.toNat).node))),.d (.v (.bool ((ae s.kind.toNat).peer))),.d (.v (.bool true)),.d (.v (.bool ((ae s.kind.toNat).bit))),.d (.v (.bool ((ae s.kind.toNat).inc))),.d (.v (.bool ((ae s.kind.toNat).body)))]]) tk mo hK al [(8,[(3,.z ((((bz s.n).toNat:Nat):Int))),(4,.mem [0] (.tu []) [.rw 91 1 ([[.em 5 1 (af ((l++[bz s.kind]++(if (ae s.kind.toNat).node=true then [bz s.node] else [])++(if (ae s.kind.toNat).peer=true then [bz s.peer] else []))++[(bz s.n)]))]])])])] 5 [0,1,2,3] [0,3,4,36] r (by kernel_rfl) (U ((gW _):IntKind.u8.wrap (s.n)=(((bz s.n).toNat:Nat):Int)) (U (kY (l++[bz s.kind]++(if (ae s.kind.toNat).node=true then [bz s.node] else [])++(if (ae s.kind.toNat).peer=true then [bz s.peer] else [])) (bz s.n) (by first | omega | (simp [iV,fZ];omega))) trivial)) fun ac wd r=>?_
   exact J9 ac wd (r.cast rfl (by rw [if_pos h2,h2]<;>simp [Int.max_eq_left ff]))
 intro ac wd r
 have Pa:=rE (b:=(ae s.kind.toNat).n) (l:=[bz s.n]) (n:=2) (by first | (simp;done) | exact fZ hi)
 suffices sx:∀ ac wd,RB D w0 K 60 bs [(0,.ep 0 1 (0) 0),(3,.pt 2 0),(4,.pt 3 0),(43,.d (.v (.bool ((ae s.kind.toNat).inc))))] [.rw 91 1 ([[.em 5 1 (af (l++[bz s.kind]++(if (ae s.kind.toNat).node=true then [bz s.node] else [])++(if (ae s.kind.toNat).peer=true then [bz s.peer] else [])++(if (ae s.kind.toNat).n=true then [bz s.n] else [])++(if (ae s.kind.toNat).bit=true then [bz s.bit,bz (s.bit / 256)] else [])))]]),.gw 0 ai,.bx 42 [.z s.kind,.z s.node,.z s.peer,.z s.n,.z s.bit,.u s.inc,.d (.ro 1 (af s.body))],.bx 94 [.d (.v (.string ⟨((ae s.kind.toNat).word).toArray⟩)),.d (.v (.bool ((ae s.kind.toNat).node))),.d (.v (.bool ((ae s.kind.toNat).peer))),.d (.v (.bool ((ae s.kind.toNat).n))),.d (.v (.bool ((ae s.kind.toNat).bit))),.d (.v (.bool ((ae s.kind.toNat).inc))),.d (.v (.bool ((ae s.kind.toNat).body)))]] ac wd→aF Tryz.prog 26 (aft Tryz.f26 11) (fE D w0 K bs (.tu []) ([.rw 91 1 [[.em 5 1 (af (l++fF s))]],.gw 0 ai])) ac wd by
  cases h3:((ae s.kind.toNat).bit) with
  | false=>
   have r:=r.cast (E':=[(0,.ep 0 1 (0) 0),(3,.pt 2 0),(4,.pt 3 0),(36,.d (.v (.bool false)))]) (M':=[.rw 91 1 ([[.em 5 1 (af (l++[bz s.kind]++(if (ae s.kind.toNat).node=true then [bz s.node] else [])++(if (ae s.kind.toNat).peer=true then [bz s.peer] else [])++(if (ae s.kind.toNat).n=true then [bz s.n] else [])))]]),.gw 0 ai,.bx 42 [.z s.kind,.z s.node,.z s.peer,.z s.n,.z s.bit,.u s.inc,.d (.ro 1 (af s.body))],.bx 94 [.d (.v (.string ⟨((ae s.kind.toNat).word).toArray⟩)),.d (.v (.bool ((ae s.kind.toNat).node))),.d (.v (.bool ((ae s.kind.toNat).peer))),.d (.v (.bool ((ae s.kind.toNat).n))),.d (.v (.bool false)),.d (.v (.bool ((ae s.kind.toNat).inc))),.d (.v (.bool ((ae s.kind.toNat).body)))]]) (by rw [h3]) (by rw [h3])
   refine bS (todo':=aft Tryz.f26 11) (E':=[(0,.ep 0 1 (0) 0),(3,.pt 2 0),(4,.pt 3 0),(43,.d (.v (.bool ((ae s.kind.toNat).inc))))]) (M':=[.rw 91 1 ([[.em 5 1 (af (l++[bz s.kind]++(if (ae s.kind.toNat).node=true then [bz s.node] else [])++(if (ae s.kind.toNat).peer=true then [bz s.peer] else [])++(if (ae s.kind.toNat).n=true then [bz s.n] else [])))]]),.gw 0 ai,.bx 42 [.z s.kind,.z s.node,.z s.peer,.z s.n,.z s.bit,.u s.inc,.d (.ro 1 (af s.body))],.bx 94 [.d (.v (.string ⟨((ae s.kind.toNat).word).toArray⟩)),.d (.v (.bool ((ae s.kind.toNat).node))),.d (.v (.bool ((ae s.kind.toNat).peer))),.d (.v (.bool ((ae s.kind.toNat).n))),.d (.v (.bool false)),.d (.v (.bool ((ae s.kind.toNat).inc))),.d (.v (.bool ((ae s.kind.toNat).body)))]]) tk mo hK al [] 5 [0,1,2,3] [0,3,4,43] r (by kernel_rfl) trivial fun ac wd r=>?_
   exact sx ac wd (r.cast rfl (by rw [if_neg (ne_true_of_eq_false h3),h3]<;>simp [Int.max_eq_left ff]))
  | true=>
   have r:=r.cast (E':=[(0,.ep 0 1 (0) 0),(3,.pt 2 0),(4,.pt 3 0),(36,.d (.v (.bool true)))]) (M':=[.rw 91 1 ([[.em 5 1 (af (l++[bz s.kind]++(if (ae s.kind.toNat).node=true then [bz s.node] else [])++(if (ae s.kind.toNat).peer=true then [bz s.peer] else [])++(if (ae s.kind.toNat).n=true then [bz s.n] else [])))]]),.gw 0 ai,.bx 42 [.z s.kind,.z s.node,.z s.peer,.z s.n,.z s.bit,.u s.inc,.d (.ro 1 (af s.body))],.bx 94 [.d (.v (.string ⟨((ae s.kind.toNat).word).toArray⟩)),.d (.v (.bool ((ae s.kind.toNat).node))),.d (.v (.bool ((ae s.kind.toNat).peer))),.d (.v (.bool ((ae s.kind.toNat).n))),.d (.v (.bool true)),.d (.v (.bool ((ae s.kind.toNat).inc))),.d (.v (.bool ((ae s.kind.toNat).body)))]]) (by rw [h3]) (by rw [h3])
   refine bS (todo':=aft Tryz.f26 11) (E':=[(0,.ep 0 1 (0) 0),(3,.pt 2 0),(4,.pt 3 0),(43,.d (.v (.bool ((ae s.kind.toNat).inc))))]) (M':=[.rw 91 1 ([[.em 5 1 (af ((l++[bz s.kind]++(if (ae s.kind.toNat).node=true then [bz s.node] else [])++(if (ae s.kind.toNat).peer=true then [bz s.peer] else [])++(if (ae s.kind.toNat).n=true then [bz s.n] else []))++[bz ((s.bit.toNat:Nat):Int),bz ((s.bit.toNat / 256:Nat):Int)]))]]),.gw 0 ai,.bx 42 [.z s.kind,.z s.node,.z s.peer,.z s.n,.z s.bit,.u s.inc,.d (.ro 1 (af s.body))],.bx 94 [.d (.v (.string ⟨((ae s.kind.toNat).word).toArray⟩)),.d (.v (.bool ((ae s.kind.toNat).node))),.d (.v (.bool ((ae s.kind.toNat).peer))),.d (.v (.bool ((ae s.kind.toNat).n))),.d (.v (.bool true)),.d (.v (.bool ((ae s.kind.toNat).inc))),.d (.v (.bool ((ae s.kind.toNat).body)))]]) tk mo hK al [(10,[(3,.z (((s.bit.toNat:Nat):Int))),(4,.mem [0] (.tu []) [.rw 91 1 ([[.em 5 1 (af ((l++[bz s.kind]++(if (ae s.kind.toNat).node=true then [bz s.node] else [])++(if (ae s.kind.toNat).peer=true then [bz s.peer] else [])++(if (ae s.kind.toNat).n=true then [bz s.n] else []))++[bz ((s.bit.toNat:Nat):Int),bz ((s.bit.toNat / 256:Nat):Int)]))]])])])] 5 [0,1,2,3] [0,3,4,43] r (by kernel_rfl) (U ((NX (by omega) (by omega)):IntKind.u16.wrap (s.bit)=((s.bit.toNat:Nat):Int)) (U (NT (l++[bz s.kind]++(if (ae s.kind.toNat).node=true then [bz s.node] else [])++(if (ae s.kind.toNat).peer=true then [bz s.peer] else [])++(if (ae s.kind.toNat).n=true then [bz s.n] else [])) s.bit.toNat (by omega) (by first | omega | (simp [iV,fZ];omega))) trivial)) fun ac wd r=>?_
   exact sx ac wd (r.cast rfl (by rw [if_pos h3,h3]<;>simp [Int.max_eq_left ff]))
 intro ac wd r
 have Pb:=rE (b:=(ae s.kind.toNat).bit) (l:=[bz s.bit,bz (s.bit / 256)]) (n:=2) (by first | (simp;done) | exact fZ hi)
 suffices sy:∀ ac wd,RB D w0 K 60 bs [(0,.ep 0 1 (0) 0),(3,.pt 2 0),(4,.pt 3 0),(49,.d (.v (.bool ((ae s.kind.toNat).body))))] [.rw 91 1 ([[.em 5 1 (af (l++[bz s.kind]++(if (ae s.kind.toNat).node=true then [bz s.node] else [])++(if (ae s.kind.toNat).peer=true then [bz s.peer] else [])++(if (ae s.kind.toNat).n=true then [bz s.n] else [])++(if (ae s.kind.toNat).bit=true then [bz s.bit,bz (s.bit / 256)] else [])++(if (ae s.kind.toNat).inc=true then e6 s.inc else [])))]]),.gw 0 ai,.bx 42 [.z s.kind,.z s.node,.z s.peer,.z s.n,.z s.bit,.u s.inc,.d (.ro 1 (af s.body))],.bx 94 [.d (.v (.string ⟨((ae s.kind.toNat).word).toArray⟩)),.d (.v (.bool ((ae s.kind.toNat).node))),.d (.v (.bool ((ae s.kind.toNat).peer))),.d (.v (.bool ((ae s.kind.toNat).n))),.d (.v (.bool ((ae s.kind.toNat).bit))),.d (.v (.bool ((ae s.kind.toNat).inc))),.d (.v (.bool ((ae s.kind.toNat).body)))]] ac wd→aF Tryz.prog 26 (aft Tryz.f26 13) (fE D w0 K bs (.tu []) ([.rw 91 1 [[.em 5 1 (af (l++fF s))]],.gw 0 ai])) ac wd by
  cases h4:((ae s.kind.toNat).inc) with
  | false=>
   have r:=r.cast (E':=[(0,.ep 0 1 (0) 0),(3,.pt 2 0),(4,.pt 3 0),(43,.d (.v (.bool false)))]) (M':=[.rw 91 1 ([[.em 5 1 (af (l++[bz s.kind]++(if (ae s.kind.toNat).node=true then [bz s.node] else [])++(if (ae s.kind.toNat).peer=true then [bz s.peer] else [])++(if (ae s.kind.toNat).n=true then [bz s.n] else [])++(if (ae s.kind.toNat).bit=true then [bz s.bit,bz (s.bit / 256)] else [])))]]),.gw 0 ai,.bx 42 [.z s.kind,.z s.node,.z s.peer,.z s.n,.z s.bit,.u s.inc,.d (.ro 1 (af s.body))],.bx 94 [.d (.v (.string ⟨((ae s.kind.toNat).word).toArray⟩)),.d (.v (.bool ((ae s.kind.toNat).node))),.d (.v (.bool ((ae s.kind.toNat).peer))),.d (.v (.bool ((ae s.kind.toNat).n))),.d (.v (.bool ((ae s.kind.toNat).bit))),.d (.v (.bool false)),.d (.v (.bool ((ae s.kind.toNat).body)))]]) (by rw [h4]) (by rw [h4])
   refine bS (todo':=aft Tryz.f26 13) (E':=[(0,.ep 0 1 (0) 0),(3,.pt 2 0),(4,.pt 3 0),(49,.d (.v (.bool ((ae s.kind.toNat).body))))]) (M':=[.rw 91 1 ([[.em 5 1 (af (l++[bz s.kind]++(if (ae s.kind.toNat).node=true then [bz s.node] else [])++(if (ae s.kind.toNat).peer=true then [bz s.peer] else [])++(if (ae s.kind.toNat).n=true then [bz s.n] else [])++(if (ae s.kind.toNat).bit=true then [bz s.bit,bz (s.bit / 256)] else [])))]]),.gw 0 ai,.bx 42 [.z s.kind,.z s.node,.z s.peer,.z s.n,.z s.bit,.u s.inc,.d (.ro 1 (af s.body))],.bx 94 [.d (.v (.string ⟨((ae s.kind.toNat).word).toArray⟩)),.d (.v (.bool ((ae s.kind.toNat).node))),.d (.v (.bool ((ae s.kind.toNat).peer))),.d (.v (.bool ((ae s.kind.toNat).n))),.d (.v (.bool ((ae s.kind.toNat).bit))),.d (.v (.bool false)),.d (.v (.bool ((ae s.kind.toNat).body)))]]) tk mo hK al [] 4 [0,1,2,3] [0,3,4,49] r (by kernel_rfl) trivial fun ac wd r=>?_
   exact sy ac wd (r.cast rfl (by rw [if_neg (ne_true_of_eq_false h4),h4]<;>simp [Int.max_eq_left ff]))
  | true=>
   have r:=r.cast (E':=[(0,.ep 0 1 (0) 0),(3,.pt 2 0),(4,.pt 3 0),(43,.d (.v (.bool true)))]) (M':=[.rw 91 1 ([[.em 5 1 (af (l++[bz s.kind]++(if (ae s.kind.toNat).node=true then [bz s.node] else [])++(if (ae s.kind.toNat).peer=true then [bz s.peer] else [])++(if (ae s.kind.toNat).n=true then [bz s.n] else [])++(if (ae s.kind.toNat).bit=true then [bz s.bit,bz (s.bit / 256)] else [])))]]),.gw 0 ai,.bx 42 [.z s.kind,.z s.node,.z s.peer,.z s.n,.z s.bit,.u s.inc,.d (.ro 1 (af s.body))],.bx 94 [.d (.v (.string ⟨((ae s.kind.toNat).word).toArray⟩)),.d (.v (.bool ((ae s.kind.toNat).node))),.d (.v (.bool ((ae s.kind.toNat).peer))),.d (.v (.bool ((ae s.kind.toNat).n))),.d (.v (.bool ((ae s.kind.toNat).bit))),.d (.v (.bool true)),.d (.v (.bool ((ae s.kind.toNat).body)))]]) (by rw [h4]) (by rw [h4])
   refine bS (todo':=aft Tryz.f26 13) (E':=[(0,.ep 0 1 (0) 0),(3,.pt 2 0),(4,.pt 3 0),(49,.d (.v (.bool ((ae s.kind.toNat).body))))]) (M':=[.rw 91 1 ([[.em 5 1 (af ((l++[bz s.kind]++(if (ae s.kind.toNat).node=true then [bz s.node] else [])++(if (ae s.kind.toNat).peer=true then [bz s.peer] else [])++(if (ae s.kind.toNat).n=true then [bz s.n] else [])++(if (ae s.kind.toNat).bit=true then [bz s.bit,bz (s.bit / 256)] else []))++e6 s.inc))]]),.gw 0 ai,.bx 42 [.z s.kind,.z s.node,.z s.peer,.z s.n,.z s.bit,.u s.inc,.d (.ro 1 (af s.body))],.bx 94 [.d (.v (.string ⟨((ae s.kind.toNat).word).toArray⟩)),.d (.v (.bool ((ae s.kind.toNat).node))),.d (.v (.bool ((ae s.kind.toNat).peer))),.d (.v (.bool ((ae s.kind.toNat).n))),.d (.v (.bool ((ae s.kind.toNat).bit))),.d (.v (.bool true)),.d (.v (.bool ((ae s.kind.toNat).body)))]]) tk mo hK al [(12,[(3,.mem [0] (.tu []) [.rw 91 1 ([[.em 5 1 (af ((l++[bz s.kind]++(if (ae s.kind.toNat).node=true then [bz s.node] else [])++(if (ae s.kind.toNat).peer=true then [bz s.peer] else [])++(if (ae s.kind.toNat).n=true then [bz s.n] else [])++(if (ae s.kind.toNat).bit=true then [bz s.bit,bz (s.bit / 256)] else []))++e6 s.inc))]])])])] 4 [0,1,2,3] [0,3,4,49] r (by kernel_rfl) (U (Mz (l++[bz s.kind]++(if (ae s.kind.toNat).node=true then [bz s.node] else [])++(if (ae s.kind.toNat).peer=true then [bz s.peer] else [])++(if (ae s.kind.toNat).n=true then [bz s.n] else [])++(if (ae s.kind.toNat).bit=true then [bz s.bit,bz (s.bit / 256)] else [])) s.inc (by omega) (by first | omega | (simp [iV,fZ];omega))) trivial) fun ac wd r=>?_
   exact sy ac wd (r.cast rfl (by rw [if_pos h4,h4]<;>simp [Int.max_eq_left ff]))
 intro ac wd r
 have Qr:=rE (b:=(ae s.kind.toNat).inc) (l:=e6 s.inc) (n:=10) (by first | (simp;done) | exact fZ hi)
 cases h5:((ae s.kind.toNat).body) with
 | false=>
  have r:=r.cast (E':=[(0,.ep 0 1 (0) 0),(3,.pt 2 0),(4,.pt 3 0),(49,.d (.v (.bool false)))]) (M':=[.rw 91 1 ([[.em 5 1 (af (l++[bz s.kind]++(if (ae s.kind.toNat).node=true then [bz s.node] else [])++(if (ae s.kind.toNat).peer=true then [bz s.peer] else [])++(if (ae s.kind.toNat).n=true then [bz s.n] else [])++(if (ae s.kind.toNat).bit=true then [bz s.bit,bz (s.bit / 256)] else [])++(if (ae s.kind.toNat).inc=true then e6 s.inc else [])))]]),.gw 0 ai,.bx 42 [.z s.kind,.z s.node,.z s.peer,.z s.n,.z s.bit,.u s.inc,.d (.ro 1 (af s.body))],.bx 94 [.d (.v (.string ⟨((ae s.kind.toNat).word).toArray⟩)),.d (.v (.bool ((ae s.kind.toNat).node))),.d (.v (.bool ((ae s.kind.toNat).peer))),.d (.v (.bool ((ae s.kind.toNat).n))),.d (.v (.bool ((ae s.kind.toNat).bit))),.d (.v (.bool ((ae s.kind.toNat).inc))),.d (.v (.bool false))]]) (by rw [h5]) (by rw [h5])
  refine aY (y:=.tu []) (N':=[.rw 91 1 ([[.em 5 1 (af (l++[bz s.kind]++(if (ae s.kind.toNat).node=true then [bz s.node] else [])++(if (ae s.kind.toNat).peer=true then [bz s.peer] else [])++(if (ae s.kind.toNat).n=true then [bz s.n] else [])++(if (ae s.kind.toNat).bit=true then [bz s.bit,bz (s.bit / 256)] else [])++(if (ae s.kind.toNat).inc=true then e6 s.inc else [])))]]),.gw 0 ai]) (rfl) ((oY (by unfold fF rT;rw [if_neg (ne_true_of_eq_false h5)];simp) _)) ?_
  exact aX tk mo hK rfl al [] 2000 [0,1] r (by kernel_rfl) trivial
 | true=>
  have r:=r.cast (E':=[(0,.ep 0 1 (0) 0),(3,.pt 2 0),(4,.pt 3 0),(49,.d (.v (.bool true)))]) (M':=[.rw 91 1 ([[.em 5 1 (af (l++[bz s.kind]++(if (ae s.kind.toNat).node=true then [bz s.node] else [])++(if (ae s.kind.toNat).peer=true then [bz s.peer] else [])++(if (ae s.kind.toNat).n=true then [bz s.n] else [])++(if (ae s.kind.toNat).bit=true then [bz s.bit,bz (s.bit / 256)] else [])++(if (ae s.kind.toNat).inc=true then e6 s.inc else [])))]]),.gw 0 ai,.bx 42 [.z s.kind,.z s.node,.z s.peer,.z s.n,.z s.bit,.u s.inc,.d (.ro 1 (af s.body))],.bx 94 [.d (.v (.string ⟨((ae s.kind.toNat).word).toArray⟩)),.d (.v (.bool ((ae s.kind.toNat).node))),.d (.v (.bool ((ae s.kind.toNat).peer))),.d (.v (.bool ((ae s.kind.toNat).n))),.d (.v (.bool ((ae s.kind.toNat).bit))),.d (.v (.bool ((ae s.kind.toNat).inc))),.d (.v (.bool true))]]) (by rw [h5]) (by rw [h5])
  refine aY (y:=.tu []) (N':=[.rw 91 1 ([[.em 5 1 (af (((l++[bz s.kind]++(if (ae s.kind.toNat).node=true then [bz s.node] else [])++(if (ae s.kind.toNat).peer=true then [bz s.peer] else [])++(if (ae s.kind.toNat).n=true then [bz s.n] else [])++(if (ae s.kind.toNat).bit=true then [bz s.bit,bz (s.bit / 256)] else [])++(if (ae s.kind.toNat).inc=true then e6 s.inc else []))++[(bz ((s.body.length:Nat):Int))])++s.body))]]),.gw 0 ai]) (rfl) ((oY (by unfold fF rT;rw [if_pos h5];simp) _)) ?_
  exact aX tk mo hK rfl al [(14,[(3,.z (((s.body.length:Nat):Int))),(4,.z ((((bz ((s.body.length:Nat):Int)).toNat:Nat):Int))),(5,.mem [0] (.tu []) [.rw 91 1 ([[.em 5 1 (af ((l++[bz s.kind]++(if (ae s.kind.toNat).node=true then [bz s.node] else [])++(if (ae s.kind.toNat).peer=true then [bz s.peer] else [])++(if (ae s.kind.toNat).n=true then [bz s.n] else [])++(if (ae s.kind.toNat).bit=true then [bz s.bit,bz (s.bit / 256)] else [])++(if (ae s.kind.toNat).inc=true then e6 s.inc else []))++[(bz ((s.body.length:Nat):Int))]))]])])]),(15,[(3,.mem [0] (.tu []) [.rw 91 1 ([[.em 5 1 (af (((l++[bz s.kind]++(if (ae s.kind.toNat).node=true then [bz s.node] else [])++(if (ae s.kind.toNat).peer=true then [bz s.peer] else [])++(if (ae s.kind.toNat).n=true then [bz s.n] else [])++(if (ae s.kind.toNat).bit=true then [bz s.bit,bz (s.bit / 256)] else [])++(if (ae s.kind.toNat).inc=true then e6 s.inc else []))++[(bz ((s.body.length:Nat):Int))])++s.body))]])])])] 2000 [0,1] r (by kernel_rfl) (U ((by first | rfl | simp [af,ah,ints,steps,strs]):(((af s.body).length:Nat):Int)=((s.body.length:Nat):Int)) (U ((gW _):IntKind.u8.wrap (((s.body.length:Nat):Int))=(((bz ((s.body.length:Nat):Int)).toNat:Nat):Int)) (U (kY (l++[bz s.kind]++(if (ae s.kind.toNat).node=true then [bz s.node] else [])++(if (ae s.kind.toNat).peer=true then [bz s.peer] else [])++(if (ae s.kind.toNat).n=true then [bz s.n] else [])++(if (ae s.kind.toNat).bit=true then [bz s.bit,bz (s.bit / 256)] else [])++(if (ae s.kind.toNat).inc=true then e6 s.inc else [])) (bz ((s.body.length:Nat):Int)) (by first | omega | (simp [iV,fZ];omega))) (U (NU ((l++[bz s.kind]++(if (ae s.kind.toNat).node=true then [bz s.node] else [])++(if (ae s.kind.toNat).peer=true then [bz s.peer] else [])++(if (ae s.kind.toNat).n=true then [bz s.n] else [])++(if (ae s.kind.toNat).bit=true then [bz s.bit,bz (s.bit / 256)] else [])++(if (ae s.kind.toNat).inc=true then e6 s.inc else []))++[(bz ((s.body.length:Nat):Int))]) s.body (by omega) (by first | omega | (simp [iV,fZ];omega))) trivial))))
end Go.Proofs.YtcnpikbbmbombaaGreatDoor
namespace Go.Proofs.YtcnpikbbmbombaaGreatDoor
open Go.RowKit
def fu (c:bK) (l:List aB):List UInt8:=db c++l.flatMap fF
noncomputable def fv (c:bK) (l:List aB):Int:=bif bY c then (bif l.all hasB then (bif decide (65536<(fu c l).length) then 2 else 0) else 1) else 1
noncomputable def oE (c:bK) (l:List aB):AV:=bif decide (fv c l=0) then .tu [.sl 1 (fu c l).length,.z 0] else .tu [.d (.v (.slice none 0 0)),.z (fv c l)]
noncomputable def oF (c:bK) (l:List aB):List aj:=bif decide (fv c l=0) then [.gw 0 ai,.rw 5 1 (af (fu c l))] else [.gw 0 ai]
def cE (a:List UInt8):List aB→List UInt8
 | []=>a
 | s::r=>cE (if a.length≤65536 then a++fF s else a) r
theorem sM {l:List aB} {i:Nat} {s:aB} (a:List UInt8) (h:l[i]?=some s):cE a (l.take (i+1))=if (cE a (l.take i)).length≤65536 then cE a (l.take i)++fF s else cE a (l.take i):=by
 have key:∀ (l:List aB) (a:List UInt8) (s:aB),cE a (l++[s])=if (cE a l).length≤65536 then cE a l++fF s else cE a l:=by
  intro l
  induction l with
  | nil=>intro a s;rfl
  | cons x r ih=>intro a s;rw [List.cons_append,cE,cE,ih]
 rw [List.take_add_one,h];exact key _ _ _
theorem tl:∀ (l:List aB) (a:List UInt8),(if 65536<(cE a l).length then 65536<(a++l.flatMap fF).length else cE a l=a++l.flatMap fF)
 | [],a=>by simp [cE]
 | s::r,a=>by
  rw [cE]
  by_cases h:a.length≤65536
  ·rw [if_pos h]
   have:=tl r (a++fF s)
   rw [List.flatMap_cons,← List.append_assoc];exact this
  ·rw [if_neg h]
   have h1:65536<(cE a r).length:=by
    have:=tl r a
    rcases Nat.lt_or_ge 65536 (cE a r).length with h2 | h2
    ·exact h2
    ·rw [if_neg (by omega)] at this;rw [this,List.length_append] at h2;omega
   rw [if_pos h1,List.length_append];omega
theorem mW {c:bK} {l:List aB} {i:Nat} (hi:¬ (i:Int)<l.length) (h:65536<(cE (db c) (l.take i)).length):65536<(fu c l).length:=by rw [List.take_of_length_le (by omega)] at h;have:=tl l (db c);rw [if_pos h] at this;exact this
theorem iA {c:bK} {l:List aB} {i:Nat} (hi:¬ (i:Int)<l.length) (h:(cE (db c) (l.take i)).length≤65536):cE (db c) (l.take i)=fu c l:=by rw [List.take_of_length_le (by omega)] at h ⊢;have:=tl l (db c);rw [if_neg (by omega)] at this;exact this
theorem Df {s:aB} (h:hasB s=true):0≤s.kind∧s.kind<14∧s.body.length≤255∧0≤s.bit∧s.bit≤65535∧0≤s.node∧s.node≤255∧0≤s.peer∧s.peer≤255∧0≤s.n∧s.n≤255:=by
 unfold hasB gS dS at h
 simp only [Bool.and_eq_true,Bool.or_eq_true,decide_eq_true_eq] at h
 omega
theorem Iw {x:kt} {s:aB} (hb:s.body.length≤255) (hi:s.inc<18446744073709551616):(rT x s).length≤300:=by
 have:=fZ hi
 unfold rT
 simp only [List.length_append]
 have h1:∀ {b:Bool} {p:List UInt8} {n:Nat},p.length≤n→(if b=true then p else []).length≤n:=by
  intro b p n h;split
  ·exact h
  ·simp
 have a1:=h1 (b:=x.node) (p:=[bz s.node]) (n:=1) (by simp)
 have a2:=h1 (b:=x.peer) (p:=[bz s.peer]) (n:=1) (by simp)
 have a3:=h1 (b:=x.n) (p:=[bz s.n]) (n:=1) (by simp)
 have a4:=h1 (b:=x.bit) (p:=[bz s.bit,bz (s.bit / 256)]) (n:=2) (by simp)
 have a5:=h1 (b:=x.inc) (p:=e6 s.inc) (n:=10) this
 have a6:=h1 (b:=x.body) (p:=bz ((s.body.length:Nat):Int)::s.body) (n:=256) (by simp;omega)
 omega
theorem Ix {s:aB} (hb:s.body.length≤255) (hi:s.inc<18446744073709551616):(fF s).length≤301:=by
 have:=Iw (x:=ae s.kind.toNat) hb hi
 unfold fF;simp;omega
theorem Br (c:bK):(db c).length=3+2*c.ah.length+c.homes.length:=by unfold db;simp [iV];omega
def mq (l:List aB) (i:Nat):Prop:=∀ (j:Nat) s,j<i→l[j]?=some s→hasB s=true
theorem mq.none (l:List aB):mq l 0:=fun _ _ h=>absurd h (Nat.not_lt_zero _)
theorem mq.next {l:List aB} {i:Nat} {s:aB} (h:mq l i) (g:l[i]?=some s) (h1:hasB s=true):mq l (i+1):=fun j y hj gy=>by
 rcases Nat.lt_succ_iff_lt_or_eq.1 hj with h' | rfl
 ·exact h j y h' gy
 ·rw [g] at gy;cases gy;exact h1
theorem mq.all {l:List aB} {i:Nat} (h:mq l i) (hi:¬ (i:Int)<l.length):l.all hasB=true:=by
 rw [List.all_eq_true];intro s hs
 obtain ⟨j,hj,rfl⟩:=List.getElem_of_mem hs
 exact h j _ (by omega) (List.getElem?_eq_getElem hj)
theorem nb {l:List aB} {i:Nat} {s:aB} (g:l[i]?=some s) (h1:hasB s=false):l.all hasB=false:=by
 rw [List.all_eq_false];exact ⟨s,List.mem_of_getElem? g,by simp [h1]⟩
section
variable {c:bK} {l:List aB}
theorem iB (h:bY c=false∨l.all hasB=false):fv c l=1:=by
 unfold fv
 rcases h with h | h
 ·rw [h];rfl
 ·rw [h];cases bY c<;>rfl
theorem mS (h1:bY c=true) (h2:l.all hasB=true) (h:65536<(fu c l).length):fv c l=2:=by unfold fv;rw [h1,h2,decide_eq_true h];rfl
theorem lW (h1:bY c=true) (h2:l.all hasB=true) (h:(fu c l).length≤65536):fv c l=0:=by unfold fv;rw [h1,h2,decide_eq_false (by omega)];rfl
theorem j9 {z:Int} (h:fv c l=z) (hz:z≠0):oE c l=.tu [.d (.v (.slice none 0 0)),.z z]:=by unfold oE;rw [decide_eq_false (by omega),h];rfl
theorem ka {z:Int} (h:fv c l=z) (hz:z≠0):oF c l=[.gw 0 ai]:=by unfold oF;rw [decide_eq_false (by omega)];rfl
theorem Iy (h:fv c l=0):oE c l=.tu [.sl 1 (fu c l).length,.z 0]:=by unfold oE;rw [decide_eq_true h];rfl
theorem Iz (h:fv c l=0):oF c l=[.gw 0 ai,.rw 5 1 (af (fu c l))]:=by unfold oF;rw [decide_eq_true h];rfl
end
theorem sN {c:bK} {l:List aB} {b:List UInt8} (h:fv c l=0) (hb:b=fu c l):oE c l=.tu [.sl 1 b.length,.z 0]:=by rw [Iy h,hb]
theorem sO {c:bK} {l:List aB} {b:List UInt8} (h:fv c l=0) (hb:b=fu c l):oF c l=[.gw 0 ai,.rw 5 1 (af b)]:=by rw [Iz h,hb]
theorem MG:aC Tryz.prog 22 [] [] (.ep 0 1 0 0) (jD []):=by
 refine ⟨DQ.1,fun {D w0 K0 β F I w} ys R hK hl hr=>(DQ.2 ys R hK hl hr).mono ?_⟩
 rintro e w' ⟨v,rfl,aE,F',I',R',e1,hI,ha⟩
 have sG:β=[]:=List.eq_nil_of_length_eq_zero R.len
 subst sG
 cases ha with
 | @pt _ _ b cc hb=>
 have hB:=R'.blk 0 _ rfl
 generalize ql:F' 0=F0 at hB
 cases hB with
 | bx aQ ys nL kq=>
  rw [hb] at aQ;cases aQ
  obtain ⟨y,rfl⟩:∃ y,ys=[y]:=by
   cases ys with
   | nil=>simp at nL
   | cons y r=>cases r with
    | nil=>exact ⟨y,rfl⟩
    | cons _ _=>simp at nL
  have hy:y=.slice none 0 0:=by
   have h0:=kq 0 _ y rfl rfl
   cases h0 with | d h0=>cases h0;rfl
  subst hy
  refine ⟨_,rfl,[(some ⟨b,0,none⟩,1)],F',I',⟨rfl,fun u blk hu=>?_,R'.st⟩,fun u x hx=>by simp at hx,hI,.ep (u:=0) rfl⟩
  cases u with
  | succ u=>simp [jD] at hu
  | zero=>
   simp only [jD,List.getElem?_cons_zero,Option.some.injEq] at hu;subst hu
   rw [ql]
   have:=bB.rw (K:=fun w=>K0 w∧Holds w I') (β:=[(some ⟨b,0,none⟩,1)]) (u:=0) (T:=91) (k:=1) (rows:=[[DV.em 5 1 (af [])]]) (H0:=[(b,.cells #[.slice none 0 0] 91 (0,0))]) rfl (fun _=>[.slice none 0 0]) (fun _ _=>[]) (fun i r hi=>by
    cases i with
    | zero=>simp at hi;subst hi;exact ⟨rfl,rfl⟩
    | succ i=>simp at hi) ⟨rfl,Or.inr ⟨b,1,_,rfl,rfl,rfl,Nat.le_refl _,rfl⟩⟩ (fun i r j c x hi h1 h2=>by
    cases i with
    | succ i=>simp at hi
    | zero=>
     simp at hi;subst hi
     cases j with
     | succ j=>simp at h1
     | zero=>simp at h1 h2;subst h1;subst h2;exact Le.tR _ _ _ _ _ (.v _))
   simpa [bL] using this
set_option maxRecDepth 100000 in
theorem Ll (c:bK) (l:List aB) (hc:c.ah.length≤1048576) (hh:c.homes.length≤1048576) (hl:l.length≤9223372036854775807) (hr:∀ s ∈ l,s.Rd):aC Tryz.prog 11 [.ag [.z c.aD,.d (.ro 2 (ah c.ah)),.d (.ro 1 (ints c.homes))],.d (.ro 7 (steps l))] [.gw 0 ai] (oE c l) (oF c l):=by
 refine aC.intro (by kernel_rfl) rfl rfl 37 rfl rfl fun D w0 K bs ac wd hK (al:bs.m=1) r=>?_
 cases h0:(bY c) with
 | false=>
  refine aY (y:=.tu [.d (.v (.slice none 0 0)),.z 1]) (N':=[.gw 0 ai]) ((by first | exact j9 (iB (.inl (by assumption))) (by decide) | exact j9 (iB (.inr (nb fj (by assumption)))) (by decide) | exact j9 (mS (by assumption) (ao.1.all (by assumption)) (mW (by assumption) (by omega))) (by decide) | exact sN (lW (by assumption) (ao.1.all (by assumption)) (by rw [← iA (by assumption) (by omega)];omega)) (iA (by assumption) (by omega)))) ((by first | exact ka (iB (.inl (by assumption))) (by decide) | exact ka (iB (.inr (nb fj (by assumption)))) (by decide) | exact ka (mS (by assumption) (ao.1.all (by assumption)) (mW (by assumption) (by omega))) (by decide) | exact sO (lW (by assumption) (ao.1.all (by assumption)) (by rw [← iA (by assumption) (by omega)];omega)) (iA (by assumption) (by omega)))) ?_
  exact aX tk mo hK rfl al [(1,[(1,.aG (.v (.bool false)))])] 2000 [0] r (by kernel_rfl) (U ((by have k:=rD c (by omega) (by omega);rw [h0] at k;exact k):ay Tryz.prog 21 [.ag [.z c.aD,.d (.ro 2 (ah c.ah)),.d (.ro 1 (ints c.homes))]] (.v (.bool false))) trivial)
 | true=>
  refine bp (todo':=hd Tryz.f11 0) (E':=[(6,.ep 2 1 (0) 0),(16,.d (.ro 7 (steps l))),(17,.n l.length),(18,.z 0)]) (M':=[.gw 0 ai,.bx 25 [.z c.aD,.d (.ro 2 (ah c.ah)),.d (.ro 1 (ints c.homes))],.rw 91 1 ([[.em 5 1 (af (([])++db c))]])]) tk mo hK al [(1,[(1,.aG (.v (.bool true)))]),(3,[(0,.mem [] (.ep 0 1 (0) 0) [.rw 91 1 ([[.em 5 1 (af ([]))]])])]),(4,[(2,.mem [2] (.tu []) [.rw 91 1 ([[.em 5 1 (af (([])++db c))]])])]),(5,[(1,.z (((l.length:Nat):Int)))])] 2000 [0,1,2] [6,16,17,18] r (by kernel_rfl) (U ((by have k:=rD c (by omega) (by omega);rw [h0] at k;exact k):ay Tryz.prog 21 [.ag [.z c.aD,.d (.ro 2 (ah c.ah)),.d (.ro 1 (ints c.homes))]] (.v (.bool true))) (U (MG) (U (Lk ([]) c (by simp) hc hh) (U ((by first | rfl | simp [af,ah,ints,steps,strs]):(((steps l).length:Nat):Int)=((l.length:Nat):Int)) trivial)))) fun ac wd r=>?_
  refine aF.rounds (Φ:=fun (i:Nat) ac wd=>(mq l i∧(cE (db c) (l.take i)).length≤3200000)∧RB D w0 K 37 bs [(6,.ep 2 1 (0) 0),(16,.d (.ro 7 (steps l))),(17,.n l.length),(18,.n i)] [.gw 0 ai,.bx 25 [.z c.aD,.d (.ro 2 (ah c.ah)),.d (.ro 1 (ints c.homes))],.rw 91 1 ([[.em 5 1 (af (cE (db c) (l.take i)))]])] ac wd) (l.length) ?_ (Nat.zero_le _) ⟨⟨mq.none l,by rw [List.take_zero];simp only [cE];rw [Br];omega⟩,(r).cast rfl (by simp [cE])⟩
  clear r
  rintro i dw bj ac wd ⟨ao,r⟩
  have hlen:=ao.2
  cases h1:(decide ((((i:Nat):Int):Int)<((l.length:Nat):Int))) with
  | false=>
   have bR:=of_decide_eq_false h1
   cases h2:(decide ((65536:Int)<(((cE (db c) (l.take i)).length:Nat):Int))) with
   | false=>
    have cz:=of_decide_eq_false h2
    refine aY (y:=.tu [.sl 1 ((cE (db c) (l.take i)).length),.z 0]) (N':=[.gw 0 ai,.rw 5 1 (af (cE (db c) (l.take i)))]) ((by first | exact j9 (iB (.inl (by assumption))) (by decide) | exact j9 (iB (.inr (nb fj (by assumption)))) (by decide) | exact j9 (mS (by assumption) (ao.1.all (by assumption)) (mW (by assumption) (by omega))) (by decide) | exact sN (lW (by assumption) (ao.1.all (by assumption)) (by rw [← iA (by assumption) (by omega)];omega)) (iA (by assumption) (by omega)))) ((by first | exact ka (iB (.inl (by assumption))) (by decide) | exact ka (iB (.inr (nb fj (by assumption)))) (by decide) | exact ka (mS (by assumption) (ao.1.all (by assumption)) (mW (by assumption) (by omega))) (by decide) | exact sO (lW (by assumption) (ao.1.all (by assumption)) (by rw [← iA (by assumption) (by omega)];omega)) (iA (by assumption) (by omega)))) ?_
    exact aX tk mo hK rfl al [(6,[(0,.b false)]),(13,[(1,.mem [2] (.n ((cE (db c) (l.take i)).length)) [.rw 91 1 ([[.em 5 1 (af (cE (db c) (l.take i)))]])]),(2,.b false)]),(15,[(1,.mem [2] (.sl 1 ((cE (db c) (l.take i)).length)) [.rw 91 1 (List.set [[.em 5 1 (af (cE (db c) (l.take i)))]] 0 [.jk]),.rw 5 1 (af (cE (db c) (l.take i)))])])] 2000 [0,3] r (by kernel_rfl) (U h1 (U (uD (cE (db c) (l.take i))) (U h2 (U (Lh (cE (db c) (l.take i)) (by omega)) trivial))))
   | true=>
    have cz:=of_decide_eq_true h2
    refine aY (y:=.tu [.d (.v (.slice none 0 0)),.z 2]) (N':=[.gw 0 ai]) ((by first | exact j9 (iB (.inl (by assumption))) (by decide) | exact j9 (iB (.inr (nb fj (by assumption)))) (by decide) | exact j9 (mS (by assumption) (ao.1.all (by assumption)) (mW (by assumption) (by omega))) (by decide) | exact sN (lW (by assumption) (ao.1.all (by assumption)) (by rw [← iA (by assumption) (by omega)];omega)) (iA (by assumption) (by omega)))) ((by first | exact ka (iB (.inl (by assumption))) (by decide) | exact ka (iB (.inr (nb fj (by assumption)))) (by decide) | exact ka (mS (by assumption) (ao.1.all (by assumption)) (mW (by assumption) (by omega))) (by decide) | exact sO (lW (by assumption) (ao.1.all (by assumption)) (by rw [← iA (by assumption) (by omega)];omega)) (iA (by assumption) (by omega)))) ?_
    exact aX tk mo hK rfl al [(6,[(0,.b false)]),(13,[(1,.mem [2] (.n ((cE (db c) (l.take i)).length)) [.rw 91 1 ([[.em 5 1 (af (cE (db c) (l.take i)))]])]),(2,.b true)])] 2000 [0] r (by kernel_rfl) (U h1 (U (uD (cE (db c) (l.take i))) (U h2 trivial)))
  | true=>
   have bR:=of_decide_eq_true h1
   obtain ⟨cb,fj⟩:∃ x_,l[i]?=some x_:=⟨_,List.getElem?_eq_getElem (by omega)⟩
   have fV:=(hr _ (List.mem_of_getElem? fj)).inc
   cases h3:(hasB cb) with
   | false=>
    refine aY (y:=.tu [.d (.v (.slice none 0 0)),.z 1]) (N':=[.gw 0 ai]) ((by first | exact j9 (iB (.inl (by assumption))) (by decide) | exact j9 (iB (.inr (nb fj (by assumption)))) (by decide) | exact j9 (mS (by assumption) (ao.1.all (by assumption)) (mW (by assumption) (by omega))) (by decide) | exact sN (lW (by assumption) (ao.1.all (by assumption)) (by rw [← iA (by assumption) (by omega)];omega)) (iA (by assumption) (by omega)))) ((by first | exact ka (iB (.inl (by assumption))) (by decide) | exact ka (iB (.inr (nb fj (by assumption)))) (by decide) | exact ka (mS (by assumption) (ao.1.all (by assumption)) (mW (by assumption) (by omega))) (by decide) | exact sO (lW (by assumption) (ao.1.all (by assumption)) (by rw [← iA (by assumption) (by omega)];omega)) (iA (by assumption) (by omega)))) ?_
    exact aX tk mo hK rfl al [(6,[(0,.b true)]),(7,[(0,.ix (i) [.z cb.kind,.z cb.node,.z cb.peer,.z cb.n,.z cb.bit,.u cb.inc,.ro 1 (af cb.body)])]),(8,[(1,.mem [0] (.d (.v (.bool (hasB cb)))) [.gw 0 ai]),(2,.b true)])] 2000 [0] r (by kernel_rfl) (U h1 (U (ax ((i:Nat):Int)) (U (mV fj) (U (ym cb) (U ((by rw [h3];rfl):(!(hasB cb))=true) trivial)))))
   | true=>
    have Pc:=Df ‹hasB cb=true›
    have eU:=Ix (s:=cb) (by omega) (by omega)
    cases h4:(decide (((((cE (db c) (l.take i)).length:Nat):Int):Int)≤65536)) with
    | false=>
     have dT:=of_decide_eq_false h4
     exact bp (todo':=hd Tryz.f11 0) (E':=[(6,.ep 2 1 (0) 0),(16,.d (.ro 7 (steps l))),(17,.n l.length),(18,.n (i+1))]) (M':=[.gw 0 ai,.bx 25 [.z c.aD,.d (.ro 2 (ah c.ah)),.d (.ro 1 (ints c.homes))],.rw 91 1 ([[.em 5 1 (af (cE (db c) (l.take i)))]])]) tk mo hK al [(6,[(0,.b true)]),(7,[(0,.ix (i) [.z cb.kind,.z cb.node,.z cb.peer,.z cb.n,.z cb.bit,.u cb.inc,.ro 1 (af cb.body)])]),(8,[(1,.mem [0] (.d (.v (.bool (hasB cb)))) [.gw 0 ai]),(2,.b false)]),(10,[(1,.mem [2] (.n ((cE (db c) (l.take i)).length)) [.rw 91 1 ([[.em 5 1 (af (cE (db c) (l.take i)))]])]),(2,.b false)]),(12,[(0,.z (((i+1:Nat):Int)))])] 2000 [0,1,2] [6,16,17,18] r (by kernel_rfl) (U h1 (U (ax ((i:Nat):Int)) (U (mV fj) (U (ym cb) (U ((by rw [h3];rfl):(!(hasB cb))=false) (U (uD (cE (db c) (l.take i))) (U h4 (U ((wi (by omega)):IntKind.i64.wrap ((((i:Nat):Int):Int)+1)=((i+1:Nat):Int)) trivial)))))))) fun ac wd r=>bj (by omega) ac wd ⟨⟨ao.1.next fj (by assumption),by rw [sM _ fj];split<;>first | omega | (simp;omega)⟩,r.cast rfl (by rw [sM _ fj];first | rw [if_pos (by omega)] | rw [if_neg (by omega)])⟩
    | true=>
     have dT:=of_decide_eq_true h4
     exact bp (todo':=hd Tryz.f11 0) (E':=[(6,.ep 2 1 (0) 0),(16,.d (.ro 7 (steps l))),(17,.n l.length),(18,.n (i+1))]) (M':=[.gw 0 ai,.bx 25 [.z c.aD,.d (.ro 2 (ah c.ah)),.d (.ro 1 (ints c.homes))],.rw 91 1 ([[.em 5 1 (af ((cE (db c) (l.take i))++fF cb))]])]) tk mo hK al [(6,[(0,.b true)]),(7,[(0,.ix (i) [.z cb.kind,.z cb.node,.z cb.peer,.z cb.n,.z cb.bit,.u cb.inc,.ro 1 (af cb.body)])]),(8,[(1,.mem [0] (.d (.v (.bool (hasB cb)))) [.gw 0 ai]),(2,.b false)]),(10,[(1,.mem [2] (.n ((cE (db c) (l.take i)).length)) [.rw 91 1 ([[.em 5 1 (af (cE (db c) (l.take i)))]])]),(2,.b true)]),(11,[(2,.mem [2,0] (.tu []) [.rw 91 1 ([[.em 5 1 (af ((cE (db c) (l.take i))++fF cb))]]),.gw 0 ai])]),(12,[(0,.z (((i+1:Nat):Int)))])] 2000 [0,1,2] [6,16,17,18] r (by kernel_rfl) (U h1 (U (ax ((i:Nat):Int)) (U (mV fj) (U (ym cb) (U ((by rw [h3];rfl):(!(hasB cb))=false) (U (uD (cE (db c) (l.take i))) (U h4 (U (G9 (cE (db c) (l.take i)) cb (by omega) (by omega) (by omega) (by omega) (by omega) (by omega) (by omega)) (U ((wi (by omega)):IntKind.i64.wrap ((((i:Nat):Int):Int)+1)=((i+1:Nat):Int)) trivial))))))))) fun ac wd r=>bj (by omega) ac wd ⟨⟨ao.1.next fj (by assumption),by rw [sM _ fj];split<;>first | omega | (simp;omega)⟩,r.cast rfl (by rw [sM _ fj];first | rw [if_pos (by omega)] | rw [if_neg (by omega)])⟩
end Go.Proofs.YtcnpikbbmbombaaGreatDoor
namespace Go.Proofs.YtcnpikbbmbombaaGreatDoor
open Go.RowKit
theorem vz (c:bK) (hl:c.ah.length≤9223372036854775807) (hh:c.homes.length≤9223372036854775807):ay Tryz.prog 13 [.ag [.z c.aD,.d (.ro 2 (ah c.ah)),.d (.ro 1 (ints c.homes))],.ag [.z c.aD,.d (.ro 2 (ah c.ah)),.d (.ro 1 (ints c.homes))]] (.v (.bool true)):=by
 have q:=JW c c hl hh
 rw [show lB c c=true from decide_eq_true rfl] at q;exact q
theorem qN (l:List aB) (hl:l.length≤9223372036854775807):ay Tryz.prog 14 [.d (.ro 7 (steps l)),.d (.ro 7 (steps l))] (.v (.bool true)):=by
 have q:=JX l l hl
 rw [show jq l l=true from decide_eq_true rfl] at q;exact q
theorem IA {c:bK} {l:List aB} (h:decide (fv c l=0)=true):(fu c l).length≤65536:=by
 have h:=of_decide_eq_true h
 unfold fv at h
 cases h2:decide (65536<(fu c l).length) with
 | false=>exact Nat.not_lt.1 (of_decide_eq_false h2)
 | true=>
  rw [h2] at h
  generalize bY c=a at h;generalize l.all hasB=b at h
  cases a<;>cases b<;>cases h
theorem CH (c:bK) (l:List aB) (hc:c.ah.length≤1048576) (hh:c.homes.length≤1048576) (hl:l.length≤9223372036854775807) (hr:∀ s ∈ l,s.Rd) (h:decide (fv c l=0)=true):aC Tryz.prog 11 [.ag [.z c.aD,.d (.ro 2 (ah c.ah)),.d (.ro 1 (ints c.homes))],.d (.ro 7 (steps l))] [.gw 0 ai] (.tu [.sl 1 (fu c l).length,.z 0]) [.gw 0 ai,.rw 5 1 (af (fu c l))]:=by
 have q:=Ll c l hc hh hl hr
 unfold oE oF at q;rw [h] at q;exact q
end Go.Proofs.YtcnpikbbmbombaaGreatDoor
namespace Go.Proofs.YtcnpikbbmbombaaGreatDoor
open Go.RowKit
def zQ (l:List UInt8) (k:Nat):List aj:=jg (l.drop k) (decide (l.length<k))
theorem qt (l:List UInt8) (k:Nat):aC Tryz.prog 62 [.pt 0 0] (zQ l k) (.d (.v (.int .u8 (((l.getD k 0).toNat:Nat):Int)))) (zQ l (k+1)):=by
 have h:=EL (l.drop k) (decide (l.length<k))
 unfold aR fo fz at h
 unfold zQ
 rcases Nat.lt_or_ge k l.length with h1 | h1
 ·have e:¬ ku (l.drop k) (decide (l.length<k)) 1:=by rintro (q | q | q);exact absurd (of_decide_eq_true q) (by omega);exact absurd q (by decide);simp at q;omega
  rw [if_neg e,if_neg e,if_neg e] at h
  rw [decide_eq_false (show ¬ l.length<k+1 by omega)]
  simp [List.getD_eq_getElem?_getD,List.getElem?_take,Nat.add_comm] at h ⊢
  exact h
 ·have e:ku (l.drop k) (decide (l.length<k)) 1:=.inr (.inr (by simp;omega))
  rw [if_pos e,if_pos e,if_pos e] at h
  rw [decide_eq_true (show l.length<k+1 by omega),Bq h1]
  rw [List.drop_of_length_le (show l.length≤k+1 by omega)]
  rw [List.drop_of_length_le h1] at h ⊢
  exact h
theorem uZ (b:UInt8):IntKind.i64.wrap ((b.toNat:Nat):Int)=((b.toNat:Nat):Int):=wi (by have:=b.toNat_lt;omega)
def gV (l:List UInt8) (k:Nat):Int:=(((l.getD k 0).toNat:Nat):Int)
def gN (l:List UInt8):Nat:=(l.getD 1 0).toNat
def gL (l:List UInt8) (i:Nat):List (Int×Int):=(List.range i).map fun j=>(gV l (2+2*j),gV l (2+2*j+1))
def gM (l:List UInt8):Nat:=(l.getD (2+2*gN l) 0).toNat
def gH (l:List UInt8) (i:Nat):List Int:=(List.range i).map fun j=>gV l (2+2*gN l+1+j)
def gC (l:List UInt8):bK:=⟨gV l 0,gL l (gN l),gH l (gM l)⟩
def gE (l:List UInt8):Nat:=2+2*gN l+1+gM l
theorem J3 (l:List UInt8) (i:Nat):gL l (i+1)=gL l i++[(gV l (2+2*i),gV l (2+2*i+1))]:=by unfold gL;rw [List.range_succ,List.map_append];rfl
theorem Ka (l:List UInt8) (i:Nat):gH l (i+1)=gH l i++[gV l (2+2*gN l+1+i)]:=by unfold gH;rw [List.range_succ,List.map_append];rfl
theorem dY (l:List UInt8) (i:Nat):(gL l i).length=i:=by simp [gL]
theorem dZ (l:List UInt8) (i:Nat):(gH l i).length=i:=by simp [gH]
theorem yp (l:List UInt8):gN l<256:=(l.getD 1 0).toNat_lt
theorem yq (l:List UInt8):gM l<256:=(l.getD _ 0).toNat_lt
set_option maxRecDepth 100000 in
theorem Lm (l:List UInt8):aC Tryz.prog 33 [.pt 0 0] [.bx 108 [.d (.ro 1 (af (l.drop (0)))),.d (.v (.bool ((decide (l.length<(0))))))]] (.ag [.z (gV l 0),.sl 1 (gN l),.sl 2 (gM l)]) ([.bx 108 [.d (.ro 1 (af (l.drop (2+2*gN l+1+gM l)))),.d (.v (.bool ((decide (l.length<(2+2*gN l+1+gM l))))))],.rw 60 2 (ah (gL l (gN l))),.rw 3 1 (ints (gH l (gM l)))]):=by
 refine aC.intro (by kernel_rfl) rfl rfl 42 rfl rfl fun D w0 K bs ac wd hK (al:bs.m=1) r=>?_
 refine bp (todo':=hd Tryz.f33 0) (E':=[(0,.pt 0 0),(2,.pt 1 0),(3,.pt 2 0),(10,.d (.v (.int .u8 ((((l.getD (0+1) 0).toNat:Nat):Int))))),(11,.d (.v (.int .u8 0)))]) (M':=[.bx 108 [.d (.ro 1 (af (l.drop (0+1+1)))),.d (.v (.bool ((decide (l.length<(0+1+1))))))],.bx 25 [.z 0,.d (.v (.slice none 0 0)),.d (.v (.slice none 0 0))],.bx 25 [.n ((l.getD (0) 0).toNat),.d (.v (.slice none 0 0)),.d (.v (.slice none 0 0))]]) tk mo hK al [(1,[(1,.mem [0] (.d (.v (.int .u8 ((((l.getD (0) 0).toNat:Nat):Int))))) [.bx 108 [.d (.ro 1 (af (l.drop (0+1)))),.d (.v (.bool ((decide (l.length<(0+1))))))]]),(2,.z ((((l.getD (0) 0).toNat:Nat):Int)))]),(2,[(1,.mem [0] (.d (.v (.int .u8 ((((l.getD (0+1) 0).toNat:Nat):Int))))) [.bx 108 [.d (.ro 1 (af (l.drop (0+1+1)))),.d (.v (.bool ((decide (l.length<(0+1+1))))))]])])] 2000 [0,1,2] [0,2,3,10,11] r (by kernel_rfl) (U (qt l (0)) (U ((uZ _):IntKind.i64.wrap ((((l.getD (0) 0).toNat:Nat):Int))=(((l.getD (0) 0).toNat:Nat):Int)) (U (qt l (0+1)) trivial))) fun ac wd r=>?_
 refine aF.rounds (Φ:=fun (i:Nat) ac wd=>(i≤gN l)∧RB D w0 K 42 bs [(0,.pt 0 0),(2,.pt 1 0),(3,.pt 2 0),(10,.d (.v (.int .u8 (((gN l:Nat):Int))))),(11,.d (.v (.int .u8 (((i:Nat):Int)))))] [.bx 108 [.d (.ro 1 (af (l.drop (2+2*i)))),.d (.v (.bool ((decide (l.length<(2+2*i))))))],.bx 25 [.z 0,.d (.v (.slice none 0 0)),.d (.v (.slice none 0 0))],.bx 25 [.z (gV l 0),.sl 3 (i),.d (.v (.slice none 0 0))],.rw 60 2 (ah (gL l i))] ac wd) (gN l) ?_ (Nat.zero_le _) ⟨Nat.zero_le _,r.dA (M1:=[.bx 108 [.d (.ro 1 (af (l.drop (0+1+1)))),.d (.v (.bool ((decide (l.length<(0+1+1))))))],.bx 25 [.z 0,.d (.v (.slice none 0 0)),.d (.v (.slice none 0 0))],.bx 25 [.n ((l.getD (0) 0).toNat),.d (.v (.slice none 0 0)),.d (.v (.slice none 0 0))]]) [] [(2,1,60,2)] (by kernel_rfl) (by kernel_rfl)⟩
 clear r
 rintro i dw bj ac wd ⟨ao,r⟩
 have Qs:=yp l
 cases h0:(decide ((((i:Nat):Int):Int)<((gN l:Nat):Int))) with
 | false=>
  have aT:=of_decide_eq_false h0
  refine bp (todo':=hd Tryz.f33 1) (E':=[(0,.pt 0 0),(2,.pt 1 0),(3,.pt 2 0),(29,.d (.v (.int .u8 ((((l.getD (2+2*i) 0).toNat:Nat):Int))))),(30,.d (.v (.int .u8 0)))]) (M':=[.bx 108 [.d (.ro 1 (af (l.drop (2+2*i+1)))),.d (.v (.bool ((decide (l.length<(2+2*i+1))))))],.bx 25 [.z 0,.d (.v (.slice none 0 0)),.d (.v (.slice none 0 0))],.bx 25 [.z (gV l 0),.sl 3 (i),.d (.v (.slice none 0 0))],.rw 60 2 (ah (gL l i))]) tk mo hK al [(3,[(0,.b false)]),(9,[(1,.mem [0] (.d (.v (.int .u8 ((((l.getD (2+2*i) 0).toNat:Nat):Int))))) [.bx 108 [.d (.ro 1 (af (l.drop (2+2*i+1)))),.d (.v (.bool ((decide (l.length<(2+2*i+1))))))]])])] 2000 [0,1,2,3] [0,2,3,29,30] r (by kernel_rfl) (U h0 (U (qt l (2+2*i)) trivial)) fun ac wd r=>?_
  refine aF.rounds (Φ:=fun (i:Nat) ac wd=>(i≤gM l)∧RB D w0 K 42 bs [(0,.pt 0 0),(2,.pt 1 0),(3,.pt 2 0),(29,.d (.v (.int .u8 (((gM l:Nat):Int))))),(30,.d (.v (.int .u8 (((i:Nat):Int)))))] [.bx 108 [.d (.ro 1 (af (l.drop (2+2*gN l+1+i)))),.d (.v (.bool ((decide (l.length<(2+2*gN l+1+i))))))],.bx 25 [.z 0,.d (.v (.slice none 0 0)),.d (.v (.slice none 0 0))],.bx 25 [.z (gV l 0),.sl 3 ((gN l)),.sl 4 (i)],.rw 60 2 (ah (gL l (gN l))),.rw 3 1 (ints (gH l i))] ac wd) (gM l) ?_ (Nat.zero_le _) ⟨Nat.zero_le _,(r.dA (E1:=[(0,.pt 0 0),(2,.pt 1 0),(3,.pt 2 0),(29,.d (.v (.int .u8 ((((l.getD (2+2*i) 0).toNat:Nat):Int))))),(30,.d (.v (.int .u8 0)))]) (M2:=[.bx 108 [.d (.ro 1 (af (l.drop (2+2*i+1)))),.d (.v (.bool ((decide (l.length<(2+2*i+1))))))],.bx 25 [.z 0,.d (.v (.slice none 0 0)),.d (.v (.slice none 0 0))],.bx 25 [.z (gV l 0),.sl 3 (i),.sl 4 (0)],.rw 60 2 (ah (gL l i)),.rw 3 1 ([])]) (M1:=[.bx 108 [.d (.ro 1 (af (l.drop (2+2*i+1)))),.d (.v (.bool ((decide (l.length<(2+2*i+1))))))],.bx 25 [.z 0,.d (.v (.slice none 0 0)),.d (.v (.slice none 0 0))],.bx 25 [.z (gV l 0),.sl 3 (i),.d (.v (.slice none 0 0))],.rw 60 2 (ah (gL l i))]) [] [(2,2,3,1)] (by kernel_rfl) (by kernel_rfl)).cast (by rw [show i=gN l from by omega];rfl) (by rw [show i=gN l from by omega];rfl)⟩
  clear r
  rintro i kX c9 ac wd ⟨bo,r⟩
  have Qt:=yq l
  cases h1:(decide ((((i:Nat):Int):Int)<((gM l:Nat):Int))) with
  | false=>
   have bR:=of_decide_eq_false h1
   refine aY (y:=.ag [.z (gV l 0),.sl 1 ((gN l)),.sl 2 (i)]) (N':=[.bx 108 [.d (.ro 1 (af (l.drop (2+2*gN l+1+i)))),.d (.v (.bool ((decide (l.length<(2+2*gN l+1+i))))))],.rw 60 2 (ah (gL l (gN l))),.rw 3 1 (ints (gH l i))]) ((by rw [show i=gM l from by omega])) ((by rw [show i=gM l from by omega])) ?_
   exact aX tk mo hK rfl al [(10,[(0,.b false)])] 2000 [0,3,4] r (by kernel_rfl) (U h1 trivial)
  | true=>
   have bR:=of_decide_eq_true h1
   exact bp (todo':=hd Tryz.f33 1) (E':=[(0,.pt 0 0),(2,.pt 1 0),(3,.pt 2 0),(29,.d (.v (.int .u8 (((gM l:Nat):Int))))),(30,.d (.v (.int .u8 (((i+1:Nat):Int)))))]) (M':=[.bx 108 [.d (.ro 1 (af (l.drop (2+2*gN l+1+i+1)))),.d (.v (.bool ((decide (l.length<(2+2*gN l+1+i+1))))))],.bx 25 [.z 0,.d (.v (.slice none 0 0)),.d (.v (.slice none 0 0))],.bx 25 [.z (gV l 0),.sl 3 ((gN l)),.sl 4 (i+(1))],.rw 60 2 (ah (gL l (gN l))),.rw 3 1 (ints (gH l i)++[[.n ((l.getD (2+2*gN l+1+i) 0).toNat)]])]) tk mo hK al [(10,[(0,.b true)]),(11,[(3,.mem [0] (.d (.v (.int .u8 ((((l.getD (2+2*gN l+1+i) 0).toNat:Nat):Int))))) [.bx 108 [.d (.ro 1 (af (l.drop (2+2*gN l+1+i+1)))),.d (.v (.bool ((decide (l.length<(2+2*gN l+1+i+1))))))]]),(4,.z ((((l.getD (2+2*gN l+1+i) 0).toNat:Nat):Int)))]),(12,[(0,.z (((i+1:Nat):Int)))])] 2000 [0,1,2,3,4] [0,2,3,29,30] r (by kernel_rfl) (U h1 (U (qt l (2+2*gN l+1+i)) (U ((uZ _):IntKind.i64.wrap ((((l.getD (2+2*gN l+1+i) 0).toNat:Nat):Int))=(((l.getD (2+2*gN l+1+i) 0).toNat:Nat):Int)) (U ((by first | rfl | (simp [ah,ints,dY,dZ];done) | (simp [ah,ints,dY,dZ];omega)):(i)=(ints (gH l i)).length) (U ((by first | rfl | (simp [ah,ints,dY,dZ];done) | (simp [ah,ints,dY,dZ];omega)):(1)=([[.n ((l.getD (2+2*gN l+1+i) 0).toNat)]]:List (List DV)).length) (U ((by first | omega | (simp [ah,ints,dY,dZ];done) | (simp [ah,ints,dY,dZ];omega)):(2*((i)+(1))+192)*8≤281474976710656) (U ((by first | omega | (simp [ah,ints,dY,dZ];done) | (simp [ah,ints,dY,dZ];omega)):(i)+(1)<4611686018427387904) (U ((by simp [aW,AV.one,bQ,af,ah,ints,steps,strs]):aW ([[.n ((l.getD (2+2*gN l+1+i) 0).toNat)]])) (U ((w8 (by have:=yq l;omega)):IntKind.u8.wrap ((((i:Nat):Int):Int)+1)=((i+1:Nat):Int)) trivial))))))))) fun ac wd r=>c9 (by omega) ac wd ⟨(by omega),r.cast rfl (by rw [Ka,show 2+2*gN l+1+(i+1)=2+2*gN l+1+i+1 from by omega];simp [ints,gV])⟩
 | true=>
  have aT:=of_decide_eq_true h0
  exact bp (todo':=hd Tryz.f33 0) (E':=[(0,.pt 0 0),(2,.pt 1 0),(3,.pt 2 0),(10,.d (.v (.int .u8 (((gN l:Nat):Int))))),(11,.d (.v (.int .u8 (((i+1:Nat):Int)))))]) (M':=[.bx 108 [.d (.ro 1 (af (l.drop (2+2*i+1+1)))),.d (.v (.bool ((decide (l.length<(2+2*i+1+1))))))],.bx 25 [.z 0,.d (.v (.slice none 0 0)),.d (.v (.slice none 0 0))],.bx 25 [.z (gV l 0),.sl 3 (i+(1)),.d (.v (.slice none 0 0))],.rw 60 2 (ah (gL l i)++[[.n ((l.getD (2+2*i) 0).toNat),.n ((l.getD (2+2*i+1) 0).toNat)]])]) tk mo hK al [(3,[(0,.b true)]),(5,[(1,.mem [0] (.d (.v (.int .u8 ((((l.getD (2+2*i) 0).toNat:Nat):Int))))) [.bx 108 [.d (.ro 1 (af (l.drop (2+2*i+1)))),.d (.v (.bool ((decide (l.length<(2+2*i+1))))))]]),(2,.z ((((l.getD (2+2*i) 0).toNat:Nat):Int))),(3,.n 0)]),(6,[(1,.mem [0] (.d (.v (.int .u8 ((((l.getD (2+2*i+1) 0).toNat:Nat):Int))))) [.bx 108 [.d (.ro 1 (af (l.drop (2+2*i+1+1)))),.d (.v (.bool ((decide (l.length<(2+2*i+1+1))))))]]),(2,.z ((((l.getD (2+2*i+1) 0).toNat:Nat):Int))),(3,.n 1)]),(8,[(0,.z (((i+1:Nat):Int)))])] 2000 [0,1,2,3] [0,2,3,10,11] r (by kernel_rfl) (U h0 (U (qt l (2+2*i)) (U ((uZ _):IntKind.i64.wrap ((((l.getD (2+2*i) 0).toNat:Nat):Int))=(((l.getD (2+2*i) 0).toNat:Nat):Int)) (U (rfl:(0)=((0:Nat):Int)) (U ((by omega):(0)<2) (U (qt l (2+2*i+1)) (U ((uZ _):IntKind.i64.wrap ((((l.getD (2+2*i+1) 0).toNat:Nat):Int))=(((l.getD (2+2*i+1) 0).toNat:Nat):Int)) (U (rfl:(1)=((1:Nat):Int)) (U ((by omega):(1)<2) (U ((by first | rfl | (simp [ah,ints,dY,dZ];done) | (simp [ah,ints,dY,dZ];omega)):(i)=(ah (gL l i):List (List DV)).length) (U ((by first | rfl | (simp [ah,ints,dY,dZ];done) | (simp [ah,ints,dY,dZ];omega)):(1)=([[.n ((l.getD (2+2*i) 0).toNat),.n ((l.getD (2+2*i+1) 0).toNat)]]:List (List DV)).length) (U ((by first | omega | (simp [ah,ints,dY,dZ];done) | (simp [ah,ints,dY,dZ];omega)):(2*((i)+(1))+192)*16≤281474976710656) (U ((by first | omega | (simp [ah,ints,dY,dZ];done) | (simp [ah,ints,dY,dZ];omega)):(i)+(1)<4611686018427387904) (U ((by simp [aW,AV.one,bQ,af,ah,ints,steps,strs]):aW ([[.n ((l.getD (2+2*i) 0).toNat),.n ((l.getD (2+2*i+1) 0).toNat)]])) (U ((w8 (by have:=yp l;omega)):IntKind.u8.wrap ((((i:Nat):Int):Int)+1)=((i+1:Nat):Int)) trivial))))))))))))))) fun ac wd r=>bj (by omega) ac wd ⟨(by omega),r.cast rfl (by rw [J3,show 2+2*(i+1)=2+2*i+1+1 from by omega];simp [ah,gV])⟩
end Go.Proofs.YtcnpikbbmbombaaGreatDoor
namespace Go.Proofs.YtcnpikbbmbombaaGreatDoor
open Go.RowKit
theorem consts {K:World→Prop} {zs ys:List Value} (hl:ys.length=(zs.map fun z=>AV.d (.v z)).length) (hr:∀ (j:Nat) c y,(zs.map fun z=>AV.d (.v z))[j]?=some c→ys[j]?=some y→az K [] c y):ys=zs:=by
 apply List.ext_getElem (by simpa using hl)
 intro j h1 h2
 have key:∀ {a b:Value},az K [] (.d (.v a)) b→b=a:=fun h=>by cases h with | d h=>cases h;rfl
 exact key (hr j (.d (.v zs[j])) ys[j] (by rw [List.getElem?_map,List.getElem?_eq_getElem h2];rfl) (List.getElem?_eq_getElem h1))
theorem ay.qV {P:Program} {f:FuncId} (hc:iT P f=true) {zs:List Value} {v:Value} (h:∀ w,Calls P f zs.toArray w fun e w'=>e=.returned v∧Below w.heap.size w w'):ay P f (zs.map fun z=>AV.d (.v z)) (.v v):=by
 refine ⟨hc,fun w K ys _ hl hr=>?_⟩
 obtain rfl:=consts hl hr
 exact (h w).mono fun e w' ⟨he,g⟩=>⟨v,he,g,[],⟨[],[],rfl,.v _⟩,dW.nil _ _⟩
theorem Kb (l:List UInt8) (c:UInt8):ay Tryz.prog 112 [.d (.v (.string ⟨l.toArray⟩)),.d (.v (.string ⟨[c].toArray⟩))] (.z (Go.Lib.indexByte l c)):=
 ay.qV (by kernel_rfl) (zs:=[.string ⟨l.toArray⟩,.string ⟨[c].toArray⟩]) fun w=>(Tryz.strings_Index_one ⟨l.toArray⟩ c w).mono fun e w' ⟨he,hw⟩=>⟨he,hw▸Below.refl _ _⟩
theorem Ag (l:List UInt8) (c:UInt8):ay Tryz.prog 102 [.d (.v (.string ⟨l.toArray⟩)),.d (.v (.int .u8 ((c.toNat:Nat):Int)))] (.z (Go.Lib.indexByte l c)):=
 ay.qV (by kernel_rfl) (zs:=[.string ⟨l.toArray⟩,.int .u8 ((c.toNat:Nat):Int)]) fun w=>(Tryz.strings_IndexByte ⟨l.toArray⟩ ((c.toNat:Nat):Int) w).mono fun e w' ⟨he,hw⟩=>⟨by rw [he];simp,hw▸Below.refl _ _⟩
theorem Kc (l:List UInt8) (c:UInt8):ay Tryz.prog 111 [.d (.v (.string ⟨l.toArray⟩)),.d (.v (.string ⟨[c].toArray⟩))] (.z (Go.Lib.countByte l c)):=
 ay.qV (by kernel_rfl) (zs:=[.string ⟨l.toArray⟩,.string ⟨[c].toArray⟩]) fun w=>(Tryz.strings_Count_one ⟨l.toArray⟩ c w).mono fun e w' ⟨he,hw⟩=>⟨he,hw▸Below.refl _ _⟩
theorem yr:rB Tryz.prog 95:=⟨_,Tryz.func95,by kernel_rfl,by kernel_rfl,by kernel_rfl,by kernel_rfl⟩
theorem NY:uo Tryz.prog 114 5:=⟨_,_,Tryz.func114,by kernel_rfl,by kernel_rfl,by kernel_rfl,by kernel_rfl,rfl,Tryz.underlying31⟩
set_option maxRecDepth 100000 in
theorem Ln (n:Nat) (hn:n≤1099511627776):aC Tryz.prog 104 [.pt 0 0,.n n] [.bx 71 [.pt 0 0,.d (.v (.slice none 0 0))]] (.tu []) ([.bx 71 [.pt 0 0,.sl 1 0],.rw 5 1 []]):=by
 refine aC.intro (by kernel_rfl) rfl rfl 30 rfl rfl fun D w0 K bs ac wd hK (al:bs.m=1) r=>?_
 refine aY (y:=.tu []) (N':=[.bx 71 [.pt 0 0,.sl 1 (0)],.rw 5 1 ((([]:List (List DV))).take (0)++((List.replicate (n) [.jk]).take (0)).drop (0))]) (rfl) (rfl) ?_
 exact aX tk mo hK rfl al [(0,[(5,.z (0)),(7,.z (((n:Nat):Int))),(8,.n2 (n) 5),(14,.n (0))]),(1,[(5,.n (0))])] 2000 [0,1] r (by kernel_rfl) (U ((by decide):IntKind.i64.wrap ((2:Int)*0)=0) (U ((wi (by omega)):IntKind.i64.wrap ((0:Int)+((n:Nat):Int))=((n:Nat):Int)) (U (NY:uo Tryz.prog 114 5) (U (ax ((n:Nat):Int)) (U ((by first | omega | decide | (simp;done) | (simp;omega)):(n)≤281474976710656) (U (ax ((0:Nat):Int)) (U ((by first | omega | decide | (simp;done) | (simp;omega)):(0)≤(n)) (U ((by first | rfl | (simp;done) | (simp<;>omega)):(n)=(List.replicate (n) [.jk]:List (List DV)).length) (U ((by first | rfl | (simp;done) | (simp<;>omega)):(0)=((List.replicate (n) [.jk]).take (0):List (List DV)).length) (U (rfl:min (([]:List (List DV)):List (List DV)).length (0)=0) (U ((by simp [aW,AV.one,bQ,af,ah,ints,steps,strs]):aW (([]:List (List DV)))) trivial)))))))))))
end Go.Proofs.YtcnpikbbmbombaaGreatDoor
namespace Go.Proofs.YtcnpikbbmbombaaGreatDoor
open Go.RowKit
theorem Ah (l:List (List UInt8)):b5 (strs l)=strs l:=by rw [kx];unfold strs;rw [List.map_map];apply List.map_congr_left;intro b _;rfl
def au (c:UInt8):List UInt8→List UInt8
 | []=>[]
 | x::r=>if x=c then [] else x::au c r
def bq (c:UInt8) (s:List UInt8):List UInt8:=s.drop ((au c s).length+1)
def ak (c:UInt8):List UInt8→List (List UInt8)
 | []=>[[]]
 | x::r=>if x=c then []::ak c r else (match ak c r with | w::ws=>(x::w)::ws | []=>[[x]])
theorem o6 {c:UInt8}:∀ {s:List UInt8},0<s.count c→ak c s=au c s::ak c (bq c s)
 | [],h=>by simp at h
 | x::r,h=>by
  by_cases hx:x=c
  ·subst hx;simp [ak,au,bq]
  ·have h2:0<r.count c:=by rw [List.count_cons_of_ne hx] at h;exact h
   have ih:=o6 h2
   simp only [ak,au,if_neg hx,bq,List.length_cons,List.drop_succ_cons]
   rw [ih];rfl
theorem o5 {c:UInt8}:∀ {s:List UInt8},s.count c=0→ak c s=[s]
 | [],_=>rfl
 | x::r,h=>by
  by_cases hx:x=c
  ·subst hx;simp at h
  ·have h2:r.count c=0:=by rw [List.count_cons_of_ne hx] at h;exact h
   simp only [ak,if_neg hx];rw [o5 h2]
theorem wI {c:UInt8}:∀ {s:List UInt8},0<s.count c→Go.Lib.indexByte s c=(((au c s).length:Nat):Int)
 | [],h=>by simp at h
 | x::r,h=>by
  by_cases hx:x=c
  ·subst hx;simp [Go.Lib.indexByte,au]
  ·have h2:0<r.count c:=by rw [List.count_cons_of_ne hx] at h;exact h
   have ih:=wI h2
   have hb:(x==c)=false:=by simpa using hx
   unfold Go.Lib.indexByte
   rw [hb,ih]
   simp only [au,if_neg hx,List.length_cons,Bool.false_eq_true,if_false]
   rw [if_neg (by first | (simp;done) | (simp;omega))];simp
theorem Bs {c:UInt8}:∀ {s:List UInt8},s.count c=0→Go.Lib.indexByte s c = -1
 | [],_=>rfl
 | x::r,h=>by
  by_cases hx:x=c
  ·subst hx;simp at h
  ·have h2:r.count c=0:=by rw [List.count_cons_of_ne hx] at h;exact h
   have hb:(x==c)=false:=by simpa using hx
   unfold Go.Lib.indexByte
   rw [hb,Bs h2];rfl
theorem kb {c:UInt8}:∀ {s:List UInt8},0<s.count c→(au c s).length<s.length
 | [],h=>by simp at h
 | x::r,h=>by
  by_cases hx:x=c
  ·subst hx;simp [au]
  ·have h2:0<r.count c:=by rw [List.count_cons_of_ne hx] at h;exact h
   simp only [au,if_neg hx,List.length_cons];have:=kb h2;omega
theorem qO {c:UInt8}:∀ (s:List UInt8),s.take (au c s).length=au c s
 | []=>rfl
 | x::r=>by
  by_cases hx:x=c
  ·subst hx;simp [au]
  ·simp only [au,if_neg hx,List.length_cons,List.take_succ_cons];rw [qO r]
theorem qG {c:UInt8}:∀ {s:List UInt8},0<s.count c→s.count c=(bq c s).count c+1
 | [],h=>by simp at h
 | x::r,h=>by
  by_cases hx:x=c
  ·subst hx;simp [au,bq]
  ·have h2:0<r.count c:=by rw [List.count_cons_of_ne hx] at h;exact h
   have:=qG h2
   simp only [bq,au,if_neg hx,List.length_cons,List.drop_succ_cons] at *
   rw [List.count_cons_of_ne hx];exact this
theorem ga (c:UInt8) (s:List UInt8):(ak c s).length=s.count c+1:=by
 have key:∀ (n:Nat) (s:List UInt8),s.count c=n→(ak c s).length=n+1:=by
  intro n
  induction n with
  | zero=>intro s h;rw [o5 h];rfl
  | succ n ih=>intro s h;have h2:=qG (c:=c) (s:=s) (by omega);rw [o6 (by omega),List.length_cons,ih _ (by omega)]
 exact key _ s rfl
def e7 (c:UInt8) (l:List UInt8) (i:Nat):List (List UInt8):=(ak c l).take i++List.replicate (l.count c+1-i) []
theorem Bt (l:List (List UInt8)) (i:Nat) (x:List UInt8):(strs l).set i [.v (.string ⟨x.toArray⟩)]=strs (l.set i x):=by unfold strs;rw [List.map_set]
theorem Az {c:UInt8} {l w:List UInt8} {i:Nat} (h:(ak c l)[i]?=some w):(e7 c l i).set i w=e7 c l (i+1):=by
 obtain ⟨aO,rfl⟩:=List.getElem?_eq_some_iff.1 h
 have hl:=ga c l
 unfold e7
 have h1:((ak c l).take i).length=i:=by simp;omega
 rw [List.set_append_right _ _ (by omega),h1,Nat.sub_self,List.take_add_one,List.getElem?_eq_getElem aO,show l.count c+1-i=(l.count c+1-(i+1))+1 from by omega,List.replicate_succ,List.set_cons_zero,List.append_assoc]
 rfl
theorem AA {c:UInt8} {l:List UInt8} {i:Nat} (h:i≤l.count c):(e7 c l i)[i]?=some []:=by
 have hl:=ga c l
 have h1:((ak c l).take i).length=i:=by simp;omega
 unfold e7
 rw [List.getElem?_append_right (by omega),h1,Nat.sub_self,List.getElem?_replicate,if_pos (by omega)]
theorem Ha {c:UInt8} {l w:List UInt8} {i:Nat} (h:(ak c l)[i]?=some w) (hi:i=l.count c):strs (ak c l)=List.take (i+1) ((strs (e7 c l i)).set i [.v (.string ⟨w.toArray⟩)]):=by
 have hl:=ga c l
 rw [Bt,Az h]
 have e:(ak c l).take (i+1)=ak c l:=List.take_of_length_le (by omega)
 unfold e7 strs
 rw [show l.count c+1-(i+1)=0 from by omega,e,List.replicate_zero,List.append_nil,List.take_of_length_le (by simp;omega)]
theorem Bu {α:Type} {l r:List α} {x:α} {i:Nat} (h:l.drop i=x::r):l[i]?=some x∧l.drop (i+1)=r:=by
 constructor
 ·have:=congrArg (fun q=>q[0]?) h;simpa using this
 ·have:=congrArg (fun q=>q.drop 1) h;simpa [List.drop_drop] using this
set_option maxRecDepth 100000 in
theorem FP (c:UInt8) (l:List UInt8) (hl:l.length≤1048576) (cX:l.count c≤l.length):ay Tryz.prog 101 [.d (.v (.string ⟨l.toArray⟩)),.d (.v (.string ⟨([c]).toArray⟩)),.z 0,.z (-1)] (DV.em 9 1 (strs (ak c l))):=by
 refine ay.intro (by kernel_rfl) rfl rfl 66 rfl rfl fun w0 K ac hK r=>?_
 refine bX (todo':=hd Tryz.f101 0) (E':=[(0,.d (.v (.string ⟨l.toArray⟩))),(1,.d (.v (.string ⟨([c]).toArray⟩))),(2,.z 0),(3,.n (l.count c)),(9,.sl 0 (l.count c+1)),(10,.z 0)]) (M':=[.rw 9 1 (List.replicate (l.count c+1) [.v (.string .empty)])]) tk mo hK [(3,[(1,.b false)]),(6,[(2,.aG (.n ((l.count c)))),(3,.z ((((l.count c)+1:Nat):Int)))]),(7,[(3,.z (((l.length+1:Nat):Int))),(4,.z (((l.count c+1:Nat):Int)))]),(8,[(1,.n (l.count c+1))]),(9,[(1,.z (((l.count c:Nat):Int)))])] 2000 [0] [0,1,2,3,9,10] r (by kernel_rfl) (U ((by first | decide | simp):(([c]:List UInt8)==[])=false) (U (Kc l c) (U ((wi (by omega)):IntKind.i64.wrap (((((l.count c):Nat):Int):Int)+1)=(((l.count c)+1:Nat):Int)) (U ((wi (by omega)):IntKind.i64.wrap ((((l.length:Nat):Int):Int)+1)=((l.length+1:Nat):Int)) (U ((by omega):(min ((((l.count c)+1:Nat):Int)) (((l.length+1:Nat):Int)):Int)=((l.count c+1:Nat):Int)) (U (ax ((l.count c+1:Nat):Int)) (U (ax ((l.count c+1:Nat):Int)) (U ((by first | omega | (have:=kb kZ;omega)):16*(l.count c+1)≤281474976710656) (U ((by first | omega | (have:=kb kZ;omega)):(l.count c+1)<4611686018427387904) (U ((wi (by omega)):IntKind.i64.wrap ((((l.count c+1:Nat):Int):Int)-1)=((l.count c:Nat):Int)) trivial)))))))))) fun ac wd r=>?_
 refine aF.rounds (Φ:=fun (i:Nat) ac wd=>∃ s:List UInt8,(i≤l.count c∧(ak c l).drop i=ak c s∧l.count c=i+s.count c∧s.length≤1048576)∧dn [] w0 K 66 [(0,.d (.v (.string ⟨s.toArray⟩))),(1,.d (.v (.string ⟨([c]).toArray⟩))),(2,.z 0),(3,.n ((l.count c))),(9,.sl 0 ((l.count c+1))),(10,.n i)] [.rw 9 1 (strs (e7 c l i))] ac wd) ((l.count c)) ?_ (Nat.zero_le _) ⟨l,⟨Nat.zero_le _,rfl,by omega,hl⟩,(r).cast rfl (by simp [strs,e7];rfl)⟩
 clear r
 rintro i dw bj ac wd ⟨s,ao,r⟩
 cases h0:(decide ((((i:Nat):Int):Int)<(((l.count c):Nat):Int))) with
 | false=>
  have aT:=of_decide_eq_false h0
  rw [show (DV.em 9 1 (strs (ak c l)):DV)=.em 9 1 ((List.set (strs (e7 c l i)) (i) [.v (.string ⟨s.toArray⟩)]).take (i+1)) from (by rw [Ha (Bu (ao.2.1.trans (o5 (by omega)))).1 (by omega)])]
  exact aV tk mo hK rfl [(11,[(2,.b false)]),(17,[(3,.n (i)),(4,.ix 0 [.v (.string ⟨([]).toArray⟩)])]),(18,[(2,.z (((i+1:Nat):Int))),(3,.n (i+1))])] 2000 r (by kernel_rfl) (U h0 (U (ax ((i:Nat):Int)) (U ((by first | omega | (have:=kb kZ;omega)):(i)<((l.count c+1))) (U ((by first | rfl | (simp [strs,e7,ga];done) | (simp [strs,e7,ga];omega)):((l.count c+1))≤(strs (e7 c l i):List (List DV)).length) (U (eM (AA (by omega)):(strs (e7 c l i))[i]?=some [.v (.string ⟨([]).toArray⟩)]) (U ((wi (by omega)):IntKind.i64.wrap ((((i:Nat):Int):Int)+1)=((i+1:Nat):Int)) (U (ax ((i+1:Nat):Int)) (U ((by first | omega | (have:=kb kZ;omega)):(i+1)≤((l.count c+1))) (U ((by first | rfl | (simp [strs,e7,ga];done) | (simp [strs,e7,ga];omega)):((l.count c+1))=(List.set (strs (e7 c l i)) (i) [.v (.string ⟨s.toArray⟩)]:List (List DV)).length) (U ((by first | rfl | (simp [strs,e7,ga];done) | (simp [strs,e7,ga];omega)):(i+1)=((List.set (strs (e7 c l i)) (i) [.v (.string ⟨s.toArray⟩)]).take (i+1):List (List DV)).length) trivial))))))))))
 | true=>
  have aT:=of_decide_eq_true h0
  have kZ:0<s.count c:=by omega
  have aO:=kb kZ
  have ir:=qG kZ
  have EM:=Bu (ao.2.1.trans (o6 kZ))
  have aI:=((by have h:=Kb s c;rw [wI kZ] at h;exact h):ay Tryz.prog 112 [.d (.v (.string ⟨s.toArray⟩)),.d (.v (.string ⟨([c]).toArray⟩))] (.n ((au c s).length)))
  cases h1:(decide (((((au c s).length:Nat):Int):Int)<0)) with
  | false=>
   have bR:=of_decide_eq_false h1
   exact bX (todo':=hd Tryz.f101 0) (E':=[(0,.d (.v (.string ⟨(List.drop ((au c s).length+1) (s)).toArray⟩))),(1,.d (.v (.string ⟨([c]).toArray⟩))),(2,.z 0),(3,.n ((l.count c))),(9,.sl 0 ((l.count c+1))),(10,.n (i+1))]) (M':=[.rw 9 1 (List.set (strs (e7 c l i)) (i) [.v (.string ⟨(List.take ((au c s).length+0) (s)).toArray⟩)])]) tk mo hK [(11,[(2,.b true)]),(12,[(2,.aG (.n ((au c s).length)))]),(13,[(1,.b false)]),(14,[(5,.z ((((au c s).length+0:Nat):Int))),(6,.n2 ((au c s).length+0) (0)),(7,.n (i)),(8,.ix 0 [.v (.string ⟨([]).toArray⟩)])]),(15,[(3,.z (1)),(4,.z ((((au c s).length+1:Nat):Int))),(5,.n2 (0) ((au c s).length+1))]),(16,[(1,.z (((i+1:Nat):Int)))])] 2000 [0] [0,1,2,3,9,10] r (by kernel_rfl) (U h0 (U aI (U h1 (U ((wi (by omega)):IntKind.i64.wrap (((((au c s).length:Nat):Int):Int)+0)=(((au c s).length+0:Nat):Int)) (U (ax (((au c s).length+0:Nat):Int)) (U ((by have:=kb kZ;omega):((au c s).length+0)≤(s:List UInt8).length) (U (ax ((i:Nat):Int)) (U ((by first | omega | (have:=kb kZ;omega)):(i)<((l.count c+1))) (U ((by first | rfl | (simp [strs,e7,ga];done) | (simp [strs,e7,ga];omega)):((l.count c+1))≤(strs (e7 c l i):List (List DV)).length) (U (eM (AA (by omega)):(strs (e7 c l i))[i]?=some [.v (.string ⟨([]).toArray⟩)]) (U ((by first | rfl | simp):((([c]:List UInt8).length:Nat):Int)=1) (U ((wi (by omega)):IntKind.i64.wrap (((((au c s).length:Nat):Int):Int)+1)=(((au c s).length+1:Nat):Int)) (U (ax (((au c s).length+1:Nat):Int)) (U ((by have:=kb kZ;omega):((au c s).length+1)≤(s:List UInt8).length) (U ((wi (by omega)):IntKind.i64.wrap ((((i:Nat):Int):Int)+1)=((i+1:Nat):Int)) trivial))))))))))))))) fun ac wd r=>bj (by omega) ac wd ⟨(List.drop ((au c s).length+1) (s)),⟨by omega,EM.2,by unfold bq at ir;omega,by simp;omega⟩,r.cast rfl (by rw [Nat.add_zero,qO,Bt,Az EM.1])⟩
  | true=>
   have bR:=of_decide_eq_true h1
   exact absurd bR (by omega)
theorem Hb (c:UInt8) (l:List UInt8) (hl:l.length≤1048576):ay Tryz.prog 101 [.d (.v (.string ⟨l.toArray⟩)),.d (.v (.string ⟨[c].toArray⟩)),.z 0,.z (-1)] (.em 9 1 (strs (ak c l))):=FP c l hl List.count_le_length
set_option maxRecDepth 100000 in
theorem IB (c:UInt8) (l:List UInt8) (hl:l.length≤1048576):ay Tryz.prog 80 [.d (.v (.string ⟨l.toArray⟩)),.d (.v (.string ⟨([c]).toArray⟩))] (DV.em 9 1 (strs (ak c l))):=by
 refine ay.intro (by kernel_rfl) rfl rfl 8 rfl rfl fun w0 K ac hK r=>?_
 rw [show (DV.em 9 1 (strs (ak c l)):DV)=.em 9 1 (strs (ak c l)) from rfl]
 exact aV tk mo hK rfl [(1,[(2,.aG (.em 9 1 (strs (ak c l))))])] 2000 r (by kernel_rfl) (U (Hb c l hl) (U (cK ((strs (ak c l):List (List DV)).length)) trivial))
theorem tn (c:UInt8) (l:List UInt8) (hl:l.length≤1048576):ay Tryz.prog 80 [.d (.v (.string ⟨l.toArray⟩)),.d (.v (.string ⟨[c].toArray⟩))] (.ro 1 (strs (ak c l))):=by
 have h:=(IB c l hl).stays
 simp only [fa,Ah] at h
 exact h
theorem Bv (l:List UInt8) (c:UInt8):ay Tryz.prog 109 [.d (.v (.string ⟨l.toArray⟩)),.d (.v (.string ⟨[c].toArray⟩))] (.z (Go.Lib.indexByte l c)):=
 ay.qV (by kernel_rfl) (zs:=[.string ⟨l.toArray⟩,.string ⟨[c].toArray⟩]) fun w=>(Tryz.stringslite_Index_one ⟨l.toArray⟩ c w).mono fun e w' ⟨he,hw⟩=>⟨he,hw▸Below.refl _ _⟩
set_option maxRecDepth 100000 in
theorem IC (c:UInt8) (l:List UInt8) (hl:l.length≤1048576) (hc:0<l.count c):ay Tryz.prog 100 [.d (.v (.string ⟨l.toArray⟩)),.d (.v (.string ⟨([c]).toArray⟩))] (.tu [.v (.string ⟨(au c l).toArray⟩),.v (.string ⟨(bq c l).toArray⟩),.v (.bool true)]):=by
 refine ay.intro (by kernel_rfl) rfl rfl 23 rfl rfl fun w0 K ac hK r=>?_
 have aI:=((by have h:=Bv l c;rw [wI hc] at h;exact h):ay Tryz.prog 109 [.d (.v (.string ⟨l.toArray⟩)),.d (.v (.string ⟨([c]).toArray⟩))] (.n ((au c l).length)))
 cases h0:(decide ((0:Int)≤(((au c l).length:Nat):Int))) with
 | false=>
  have aT:=of_decide_eq_false h0
  exact absurd aT (by omega)
 | true=>
  have aT:=of_decide_eq_true h0
  rw [show (.tu [.v (.string ⟨(au c l).toArray⟩),.v (.string ⟨(bq c l).toArray⟩),.v (.bool true)]:DV)=.tu [.v (.string ⟨(List.take ((au c l).length) (l)).toArray⟩),.v (.string ⟨(List.drop ((au c l).length+1) (l)).toArray⟩),.v (.bool true)] from (by first | rfl | (rw [qO];rfl))]
  exact aV tk mo hK rfl [(1,[(2,.aG (.n ((au c l).length)))]),(2,[(1,.b true)]),(3,[(2,.n2 ((au c l).length) (0)),(6,.z (1)),(7,.z ((((au c l).length+1:Nat):Int))),(8,.n2 (0) ((au c l).length+1))])] 2000 r (by kernel_rfl) (U aI (U h0 (U (ax (((au c l).length:Nat):Int)) (U ((by have:=kb hc;omega):((au c l).length)≤(l:List UInt8).length) (U ((by first | rfl | simp):((([c]:List UInt8).length:Nat):Int)=1) (U ((wi (by have:=kb hc;omega)):IntKind.i64.wrap (((((au c l).length:Nat):Int):Int)+1)=(((au c l).length+1:Nat):Int)) (U (ax (((au c l).length+1:Nat):Int)) (U ((by have:=kb hc;omega):((au c l).length+1)≤(l:List UInt8).length) trivial))))))))
set_option maxRecDepth 100000 in
theorem px (c:UInt8) (l:List UInt8) (hl:l.length≤1048576) (hc:0<l.count c):ay Tryz.prog 79 [.d (.v (.string ⟨l.toArray⟩)),.d (.v (.string ⟨([c]).toArray⟩))] (.tu [.v (.string ⟨(au c l).toArray⟩),.v (.string ⟨(bq c l).toArray⟩),.v (.bool true)]):=by
 refine ay.intro (by kernel_rfl) rfl rfl 13 rfl rfl fun w0 K ac hK r=>?_
 rw [show (.tu [.v (.string ⟨(au c l).toArray⟩),.v (.string ⟨(bq c l).toArray⟩),.v (.bool true)]:DV)=.tu [.v (.string ⟨(au c l).toArray⟩),.v (.string ⟨(bq c l).toArray⟩),.v (.bool true)] from rfl]
 exact aV tk mo hK rfl [(1,[(2,.aG (.tu [.v (.string ⟨(au c l).toArray⟩),.v (.string ⟨(bq c l).toArray⟩),.v (.bool true)]))])] 2000 r (by kernel_rfl) (U (IC c l hl hc) trivial)
set_option maxRecDepth 100000 in
theorem Kd (c:UInt8) (l:List UInt8) (hl:l.length≤1048576) (hc:l.count c=0):ay Tryz.prog 100 [.d (.v (.string ⟨l.toArray⟩)),.d (.v (.string ⟨([c]).toArray⟩))] (.tu [.v (.string ⟨(l).toArray⟩),.v (.string ⟨([]).toArray⟩),.v (.bool false)]):=by
 refine ay.intro (by kernel_rfl) rfl rfl 23 rfl rfl fun w0 K ac hK r=>?_
 rw [show (.tu [.v (.string ⟨(l).toArray⟩),.v (.string ⟨([]).toArray⟩),.v (.bool false)]:DV)=.tu [.v (.string ⟨l.toArray⟩),.v (.string .empty),.v (.bool false)] from (by first | rfl | (rw [qO];rfl))]
 exact aV tk mo hK rfl [(1,[(2,.aG (.z (-1)))])] 2000 r (by kernel_rfl) (U ((by have h:=Bv l c;rw [Bs hc] at h;exact h):ay Tryz.prog 109 [.d (.v (.string ⟨l.toArray⟩)),.d (.v (.string ⟨([c]).toArray⟩))] (.z (-1))) trivial)
set_option maxRecDepth 100000 in
theorem CI (c:UInt8) (l:List UInt8) (hl:l.length≤1048576) (hc:l.count c=0):ay Tryz.prog 79 [.d (.v (.string ⟨l.toArray⟩)),.d (.v (.string ⟨([c]).toArray⟩))] (.tu [.v (.string ⟨(l).toArray⟩),.v (.string ⟨([]).toArray⟩),.v (.bool false)]):=by
 refine ay.intro (by kernel_rfl) rfl rfl 13 rfl rfl fun w0 K ac hK r=>?_
 rw [show (.tu [.v (.string ⟨(l).toArray⟩),.v (.string ⟨([]).toArray⟩),.v (.bool false)]:DV)=.tu [.v (.string ⟨l.toArray⟩),.v (.string ⟨([]).toArray⟩),.v (.bool false)] from rfl]
 exact aV tk mo hK rfl [(1,[(2,.aG (.tu [.v (.string ⟨l.toArray⟩),.v (.string ⟨([]).toArray⟩),.v (.bool false)]))])] 2000 r (by kernel_rfl) (U (Kd c l hl hc) trivial)
end Go.Proofs.YtcnpikbbmbombaaGreatDoor
namespace Go.Proofs.YtcnpikbbmbombaaGreatDoor
open Go.RowKit
theorem kd:dB Tryz.prog 69:=by unfold dB;kernel_rfl
theorem ID {n:Nat} (h0:1≤n) (h:n≤1048576):¬ (1:Int)≥((9223372036854775807 / n:Nat):Int):=by
 have:2≤9223372036854775807 / n:=by rw [Nat.le_div_iff_mul_le h0];omega
 omega
theorem NZ (a b:Nat):((a:Nat):Int).tdiv ((b:Nat):Int)=((a / b:Nat):Int):=(Int.ofNat_tdiv a b).symm
theorem N0 {n:Nat} (h:n≤1048576):IntKind.i64.wrap ((9223372036854775807:Int).tdiv ((n:Nat):Int))=((9223372036854775807 / n:Nat):Int):=by
 have e:=NZ 9223372036854775807 n
 rw [show (9223372036854775807:Int)=((9223372036854775807:Nat):Int) from rfl,e]
 have h2:=Nat.div_le_self 9223372036854775807 n
 generalize 9223372036854775807 / n=q at h2 ⊢
 exact wi (by omega)
def cR (r:List (List UInt8)):List UInt8:=r.flatMap fun w=>32::w
theorem Hc {r:List (List UInt8)} {i:Nat} {e:List UInt8} (h:r[i]?=some e):cR (r.take (i+1))=cR (r.take i)++[32]++e:=by
 unfold cR;rw [List.take_add_one,h];simp
theorem qW (r:List (List UInt8)):(cR r).length=r.length+r.flatten.length:=by
 unfold cR;induction r with
 | nil=>rfl
 | cons x r ih=>rw [List.flatMap_cons,List.length_append,ih];simp;omega
theorem AY {r:List (List UInt8)} {i:Nat} {e:List UInt8} (h:r[i]?=some e):(r.take (i+1)).flatten.length=(r.take i).flatten.length+e.length:=by
 rw [List.take_add_one,h];simp
theorem tp (r:List (List UInt8)) (i:Nat):(r.take i).flatten.length≤r.flatten.length:=by
 have:=congrArg (fun q=>q.flatten.length) (List.take_append_drop i r)
 simp only [List.flatten_append,List.length_append] at this
 omega
theorem B6 (r:List (List UInt8)) (i:Nat):(cR (r.take i)).length≤(cR r).length:=by
 rw [qW,qW];have h1:=tp r i;have h2:(r.take i).length≤r.length:=by simp;omega
 omega
theorem Ke {r:List (List UInt8)} {i:Nat} (h:i≤r.length):i≤(cR (r.take i)).length:=by
 rw [qW,List.length_take];omega
set_option maxRecDepth 100000 in
theorem IE (x:List UInt8) (q:List (List UInt8)) (hr:1≤q.length) (hl:q.length≤1000000) (hb:(x::q).flatten.length≤1073741824):ay Tryz.prog 71 [.d (.ro 1 (strs (x::q))),.d (.v (.string ⟨([32]).toArray⟩))] (.v (.string ⟨(x++cR q).toArray⟩)):=by
 refine ay.intro (by kernel_rfl) rfl rfl 75 rfl rfl fun w0 K ac hK r=>?_
 have aI:=((by first | rfl | (simp [strs];done) | (simp [strs];omega)):(((strs (x::q)).length:Nat):Int)=(((q.length+1):Nat):Int))
 cases h0:(((((q.length+1):Nat):Int):Int)==0) with
 | false=>
  have aT:=ne_of_beq_false h0
  cases h1:(((((q.length+1):Nat):Int):Int)==1) with
  | false=>
   have bR:=ne_of_beq_false h1
   have bd:=((by first | rfl | (simp [strs];done) | (simp [strs];omega)):((([32]:List UInt8).length:Nat):Int)=1)
   have b6:=((wi (by omega)):IntKind.i64.wrap (((((q.length+1):Nat):Int):Int)-1)=((q.length:Nat):Int))
   have cO:=((N0 (by omega)):IntKind.i64.wrap ((9223372036854775807:Int).tdiv ((q.length:Nat):Int))=((9223372036854775807 / q.length:Nat):Int))
   cases h2:(decide ((((9223372036854775807 / q.length:Nat):Int):Int)≤1)) with
   | false=>
    have cz:=of_decide_eq_false h2
    refine bX (todo':=hd Tryz.f71 0) (E':=[(0,.d (.ro 1 (strs (x::q)))),(1,.d (.v (.string ⟨([32]).toArray⟩))),(5,.n (q.length+((x::q).take 0).flatten.length)),(39,.d (.ro 1 (strs (x::q)))),(40,.n ((q.length+1))),(41,.n 0)]) (M':=[]) tk mo hK [(1,[(1,.z ((((q.length+1):Nat):Int)))]),(2,[(0,.b false)]),(4,[(0,.b false)]),(7,[(1,.z (1))]),(8,[(1,.z (1)),(3,.z ((((q.length+1):Nat):Int))),(4,.z (((q.length:Nat):Int))),(5,.z (((9223372036854775807 / q.length:Nat):Int))),(6,.b false)]),(10,[(2,.z (1)),(4,.z ((((q.length+1):Nat):Int))),(5,.z (((q.length:Nat):Int))),(6,.z (((q.length:Nat):Int))),(7,.z (((q.length:Nat):Int)))]),(11,[(1,.z ((((q.length+1):Nat):Int)))])] 2000 [] [0,1,5,39,40,41] r (by kernel_rfl) (U aI (U h0 (U h1 (U bd (U bd (U aI (U b6 (U cO (U ((by omega):(((q.length:Nat):Int):Int)≠0) (U h2 (U bd (U aI (U b6 (U ((wi (by omega)):IntKind.i64.wrap ((1:Int)*((q.length:Nat):Int))=((q.length:Nat):Int)) (U ((wi (by omega)):IntKind.i64.wrap ((0:Int)+((q.length:Nat):Int))=((q.length:Nat):Int)) (U aI trivial)))))))))))))))) fun ac wd r=>?_
    refine aF.rounds (Φ:=fun (i:Nat) ac wd=>(i≤q.length+1)∧dn [] w0 K 75 [(0,.d (.ro 1 (strs (x::q)))),(1,.d (.v (.string ⟨([32]).toArray⟩))),(5,.n (q.length+((x::q).take i).flatten.length)),(39,.d (.ro 1 (strs (x::q)))),(40,.n ((q.length+1))),(41,.n i)] [] ac wd) (q.length+1) ?_ (Nat.zero_le _) ⟨Nat.zero_le _,r⟩
    clear r
    rintro i dw bj ac wd ⟨ao,r⟩
    have Es:=tp (x::q) i
    have iu:x.length≤(x::q).flatten.length:=by simp
    have Qu:(cR q).length=q.length+q.flatten.length:=qW q
    have Qv:(x::q).flatten.length=x.length+q.flatten.length:=by simp
    cases h3:(decide ((((i:Nat):Int):Int)<(((q.length+1):Nat):Int))) with
    | false=>
     have cT:=of_decide_eq_false h3
     have cg:=((by kernel_rfl):(bif true then nv Tryz.prog 69 140 else nw Tryz.prog 69 140 71 2)=true)
     have ek:=((by kernel_rfl):(bif false then nv Tryz.prog 140 69 else nw Tryz.prog 140 69 71 2)=true)
     cases h4:(decide ((((q.length+((x::q).take i).flatten.length:Nat):Int):Int)<0)) with
     | false=>
      have dT:=of_decide_eq_false h4
      cases h5:(decide ((0:Int)<((q.length+((x::q).take i).flatten.length:Nat):Int))) with
      | false=>
       have du:=of_decide_eq_false h5
       exact absurd du (by omega)
      | true=>
       have du:=of_decide_eq_true h5
       refine bX (todo':=hd Tryz.f71 1) (E':=[(1,.d (.v (.string ⟨([32]).toArray⟩))),(8,.pt 0 0),(63,.d (.ro 1 (List.drop (1) (strs (x::q))))),(64,.n q.length),(65,.z 0)]) (M':=[.bx 71 [.pt 0 0,.sl 1 (0+(x).length)],.rw 5 1 ([]++af x)]) tk mo hK [(12,[(0,.b false)]),(19,[(1,.bw 200 [(0,[(1,.bw 200 [(1,[(2,.b true),(3,.b true),(4,.b false)])])]),(1,[(1,.b false)]),(3,[(10,.z (0)),(12,.b true)]),(4,[(2,.mem [0] (.tu []) [.bx 71 [.pt 0 0,.sl 1 (0)],.rw 5 1 ([])])])])]),(20,[(1,.ix (0) [.v (.string ⟨x.toArray⟩)]),(3,.bw 200 [(1,[(1,.bw 200 [])])])]),(21,[(1,.n2 (0) (1)),(2,.z (((q.length:Nat):Int)))])] 2000 [0,1] [1,8,63,64,65] r (by kernel_rfl) (U h3 (U (kd:dB Tryz.prog 69) (U cg (U ((by decide):0<2) (U (yr:rB Tryz.prog 95) (U ek (U ((by decide):0<2) (U h4 (U ((wi (by omega)):IntKind.i64.wrap ((0:Int)-0)=0) (U h5 (U (Ln (q.length+((x::q).take i).flatten.length) (by omega)) (U (rfl:(0)=((0:Nat):Int)) (U (rfl:(strs (x::q))[0]?=some [.v (.string ⟨x.toArray⟩)]) (U (kd:dB Tryz.prog 69) (U ((by kernel_rfl):jP Tryz.prog 69=true) (U ((by first | rfl | (simp [af,strs];done) | (simp [af,strs];omega)):(0)=([]:List (List DV)).length) (U ((by first | omega | (simp [af];omega)):(2*((0)+(x).length)+192)*1≤281474976710656) (U ((by first | omega | (simp [af];omega)):(0)+(x).length<4611686018427387904) (U (rfl:(1:Int)=((1:Nat):Int)) (U ((by first | omega | (simp [af,ah,ints,steps,strs];done) | (simp [af,ah,ints,steps,strs];omega)):(1)≤(strs (x::q):List (List DV)).length) (U ((by first | rfl | (simp [strs];done) | (simp [strs];omega)):(((List.drop (1) (strs (x::q))).length:Nat):Int)=((q.length:Nat):Int)) trivial))))))))))))))))))))) fun ac wd r=>?_
       refine aF.rounds (Φ:=fun (i:Nat) ac wd=>(i≤q.length)∧dn [] w0 K 75 [(1,.d (.v (.string ⟨([32]).toArray⟩))),(8,.pt 0 0),(63,.d (.ro 1 (List.drop 1 (strs (x::q))))),(64,.n q.length),(65,.n i)] [.bx 71 [.pt 0 0,.sl 1 ((x++cR (q.take i)).length)],.rw 5 1 (af (x++cR (q.take i)))] ac wd) (q.length) ?_ (Nat.zero_le _) ⟨Nat.zero_le _,(r).cast rfl (by simp [cR,af])⟩
       clear r
       rintro i kX c9 ac wd ⟨bo,r⟩
       have Qw:=Ke bo
       have Qx:(af (x++cR (q.take i))).length=x.length+(cR (q.take i)).length:=by simp [af]
       have Qy:=B6 q i
       have PU:=B6 q (i+1)
       have lG:(x++cR (q.take i)).length=x.length+(cR (q.take i)).length:=by simp
       cases h6:(decide ((((i:Nat):Int):Int)<((q.length:Nat):Int))) with
       | false=>
        have dx:=of_decide_eq_false h6
        rw [show (.v (.string ⟨(x++cR q).toArray⟩):DV)=.v (.string ⟨((x++cR (q.take i))).toArray⟩) from (by rw [List.take_of_length_le (by omega)])]
        exact aV tk mo hK rfl [(22,[(0,.b false)]),(27,[(0,.bw 200 [(1,[(10,.res (.v (.string ⟨((x++cR (q.take i))).toArray⟩)))])])])] 2000 r (by kernel_rfl) (U h6 (U ((by first | rfl | (simp [af,strs];done) | (simp [af,strs];omega)):((x++cR (q.take i)).length)=(af (x++cR (q.take i)):List (List DV)).length) (U ((by first | omega | decide | (simp;done) | (simp;omega)):0<((x++cR (q.take i)).length)) (U ((by simp [af]):((((x++cR (q.take i)).length:Nat):Int):Int)=(((af (x++cR (q.take i)):List (List DV)).length:Nat):Int)) (U ((by first | omega | (simp [af];omega)):0<(af (x++cR (q.take i)):List (List DV)).length) (U (rfl:af (x++cR (q.take i))=af ((x++cR (q.take i)))) (U ((by kernel_rfl):rO Tryz.prog 121 5=true) (U ((by first | omega | decide | (simp;done) | (simp;omega)):(af (x++cR (q.take i)):List (List DV)).length≤9223372036854775807) trivial))))))))
       | true=>
        have dx:=of_decide_eq_true h6
        obtain ⟨rF,xu⟩:∃ x_,q[i]?=some x_:=⟨_,List.getElem?_eq_getElem (by omega)⟩
        have nR:=AY xu
        have eX:=tp q (i+1)
        exact bX (todo':=hd Tryz.f71 1) (E':=[(1,.d (.v (.string ⟨([32]).toArray⟩))),(8,.pt 0 0),(63,.d (.ro 1 (List.drop 1 (strs (x::q))))),(64,.n q.length),(65,.n (i+1))]) (M':=[.bx 71 [.pt 0 0,.sl 1 ((x++cR (q.take i)).length+([32]:List UInt8).length+(rF).length)],.rw 5 1 (af (x++cR (q.take i))++af [32]++af rF)]) tk mo hK [(22,[(0,.b true)]),(23,[(0,.ix (i) [.v (.string ⟨rF.toArray⟩)])]),(24,[(1,.bw 200 [(1,[(1,.bw 200 [])]),(3,[(1,.z (1))])])]),(25,[(1,.bw 200 [(1,[(1,.bw 200 [])])])]),(26,[(0,.z (((i+1:Nat):Int)))])] 2000 [0,1] [1,8,63,64,65] r (by kernel_rfl) (U h6 (U (ax ((i:Nat):Int)) (U (eM xu) (U (kd:dB Tryz.prog 69) (U ((by kernel_rfl):jP Tryz.prog 69=true) (U ((by first | rfl | (simp [af,strs];done) | (simp [af,strs];omega)):((x++cR (q.take i)).length)=(af (x++cR (q.take i)):List (List DV)).length) (U ((by first | omega | (simp [af];omega)):(2*(((x++cR (q.take i)).length)+([32]:List UInt8).length)+192)*1≤281474976710656) (U ((by first | omega | (simp [af];omega)):((x++cR (q.take i)).length)+([32]:List UInt8).length<4611686018427387904) (U bd (U (kd:dB Tryz.prog 69) (U ((by kernel_rfl):jP Tryz.prog 69=true) (U ((by first | rfl | (simp [af,strs];done) | (simp [af,strs];omega)):((x++cR (q.take i)).length+([32]:List UInt8).length)=(af (x++cR (q.take i))++af [32]:List (List DV)).length) (U ((by first | omega | (simp [af];omega)):(2*(((x++cR (q.take i)).length+([32]:List UInt8).length)+(rF).length)+192)*1≤281474976710656) (U ((by first | omega | (simp [af];omega)):((x++cR (q.take i)).length+([32]:List UInt8).length)+(rF).length<4611686018427387904) (U ((wi (by omega)):IntKind.i64.wrap ((((i:Nat):Int):Int)+1)=((i+1:Nat):Int)) trivial))))))))))))))) fun ac wd r=>c9 (by omega) ac wd ⟨(by omega),r.cast rfl (by rw [Hc xu];simp [af,Nat.add_assoc];omega)⟩
     | true=>
      have dT:=of_decide_eq_true h4
      exact absurd dT (by omega)
    | true=>
     have cT:=of_decide_eq_true h3
     obtain ⟨vA,AB⟩:∃ y_,(x::q)[i]?=some y_:=⟨_,List.getElem?_eq_getElem (by simp;omega)⟩
     have nR:=AY AB
     have eX:=tp (x::q) (i+1)
     have df:=((wi (by omega)):IntKind.i64.wrap ((9223372036854775807:Int)-((q.length+((x::q).take i).flatten.length:Nat):Int))=9223372036854775807-((q.length+((x::q).take i).flatten.length:Nat):Int))
     cases h7:(decide ((9223372036854775807-((q.length+((x::q).take i).flatten.length:Nat):Int):Int)<((vA.length:Nat):Int))) with
     | false=>
      have dL:=of_decide_eq_false h7
      exact bX (todo':=hd Tryz.f71 0) tk mo hK [(12,[(0,.b true)]),(13,[(0,.ix (i) [.v (.string ⟨vA.toArray⟩)])]),(14,[(3,.z (9223372036854775807-((q.length+((x::q).take i).flatten.length:Nat):Int))),(4,.b false)]),(16,[(3,.z (((q.length+((x::q).take (i+1)).flatten.length:Nat):Int)))]),(17,[(0,.z (((i+1:Nat):Int)))])] 2000 [] [0,1,5,39,40,41] r (by kernel_rfl) (U h3 (U (ax ((i:Nat):Int)) (U (eM AB) (U df (U h7 (U ((wi (by omega)):IntKind.i64.wrap ((((q.length+((x::q).take i).flatten.length:Nat):Int):Int)+((vA.length:Nat):Int))=((q.length+((x::q).take (i+1)).flatten.length:Nat):Int)) (U ((wi (by omega)):IntKind.i64.wrap ((((i:Nat):Int):Int)+1)=((i+1:Nat):Int)) trivial))))))) fun ac wd r=>bj (by omega) ac wd ⟨(by omega),r⟩
     | true=>
      have dL:=of_decide_eq_true h7
      exact absurd dL (by omega)
   | true=>
    have cz:=of_decide_eq_true h2
    exact absurd cz (ID (by omega) (by omega))
  | true=>
   have bR:=eq_of_beq h1
   exact absurd bR (by omega)
 | true=>
  have aT:=eq_of_beq h0
  exact absurd aT (by omega)
set_option maxRecDepth 100000 in
theorem Kf (x:List UInt8):ay Tryz.prog 71 [.d (.ro 1 (strs [x])),.d (.v (.string ⟨([32]).toArray⟩))] (.v (.string ⟨x.toArray⟩)):=by
 refine ay.intro (by kernel_rfl) rfl rfl 75 rfl rfl fun w0 K ac hK r=>?_
 rw [show (.v (.string ⟨x.toArray⟩):DV)=.v (.string ⟨x.toArray⟩) from rfl]
 exact aV tk mo hK rfl [(1,[(1,.z (1))]),(5,[(1,.ix (0) [.v (.string ⟨x.toArray⟩)])])] 2000 r (by kernel_rfl) (U ((by simp [strs]):(((strs [x]).length:Nat):Int)=1) (U (rfl:(0)=((0:Nat):Int)) (U (rfl:(strs [x])[0]?=some [.v (.string ⟨x.toArray⟩)]) trivial)))
def bF:List (List UInt8)→List UInt8
 | []=>[]
 | x::r=>x++cR r
theorem xv (x:List UInt8) (r:List (List UInt8)) (hl:r.length≤1000000) (hb:(x::r).flatten.length≤1073741824):ay Tryz.prog 71 [.d (.ro 1 (strs (x::r))),.d (.v (.string ⟨[32].toArray⟩))] (.v (.string ⟨(bF (x::r)).toArray⟩)):=by
 cases r with
 | nil=>have h:=Kf x;rw [show bF [x]=x from by simp [bF,cR]];exact h
 | cons y r=>exact IE x (y::r) (by simp) hl hb
end Go.Proofs.YtcnpikbbmbombaaGreatDoor
namespace Go.Proofs.YtcnpikbbmbombaaGreatDoor
open Go.RowKit
theorem Ge (b j:Nat):(⟨b,0,none⟩:Addr).add j=⟨b,j,none⟩:=by rw [Go.Lib.add_plain];simp
def lC (w:World):Prop:=∀ i,i<20→w.cell? ⟨1,i,none⟩=some (.int .u64 ((10 ^ i:Nat):Int))
theorem lC.alloc {w:World} (h:lC w) (o:Obj):lC (w.alloc o):=fun i hi=>by
 have:=h i hi
 have g:Gr w (w.alloc o):=Gr.alloc w o
 exact g.tJ this
open Go.Lib in
set_option maxHeartbeats 6400000 in
set_option maxRecDepth 100000 in
theorem Lo (u:Nat) (h1:1≤u) (h2:u<18446744073709551616) (w:World) (nD:lC w):Calls Tryz.prog 106 #[.int .u64 u] w fun e w'=>e=.returned (.int .i64 (nDigits u))∧w'=w:=by
 have mixed:(Tryz.prog).follows .mixedOrders=true:=by kernel_rfl
 have t0:=Tryz.underlying0;have a0:=Tryz.isAgg0;have z0:=Tryz.sizeOf0;have v0:=Tryz.zeroValue0;have t3:=Tryz.underlying3;have a3:=Tryz.isAgg3;have z3:=Tryz.sizeOf3;have v3:=Tryz.zeroValue3;have t4:=Tryz.underlying4;have a4:=Tryz.isAgg4;have z4:=Tryz.sizeOf4;have v4:=Tryz.zeroValue4;have t40:=Tryz.underlying40;have a40:=Tryz.isAgg40;have z40:=Tryz.sizeOf40;have v40:=Tryz.zeroValue40;have t158:=Tryz.underlying158;have PV:=Tryz.isAgg158;have PW:=Tryz.sizeOf158;have PX:=Tryz.zeroValue158
 have eL:∀ args w,(callFunc 116 args).run Tryz.prog w=.ok (.enter 116 args) w:=enters_of Tryz.func116 (by kernel_rfl) rfl
 have eP:∀ args w,(callFunc 115 args).run Tryz.prog w=.ok (.enter 115 args) w:=enters_of Tryz.func115 (by kernel_rfl) rfl
 have e2:∀ args w,(callFunc 117 args).run Tryz.prog w=.ok (.enter 117 args) w:=enters_of Tryz.func117 (by kernel_rfl) rfl
 obtain ⟨iw,sA⟩:=numDigits_eq u h1 h2
 have hL:Go.Lib.bitLen u≤64:=bitLen_le u 64 (Nat.le_refl _) h2
 have kG:w.cell? ⟨1,l10 (Go.Lib.bitLen u),none⟩=some (.int .u64 ((10 ^ l10 (Go.Lib.bitLen u):Nat):Int)):=nD _ (by omega)
 have Pd:((u:Int)).toNat=u:=by omega
 generalize hq:l10 (Go.Lib.bitLen u)=q at iw sA kG
 generalize hT:10 ^ q=T at iw kG
 have Qz:q<20:=by omega
 have Pe:=Go.Lib.hid iw
 clear iw nD
 go_enter Tryz.func106,Tryz.ntmps106
 go_wp2_with (first
  | (go_at_fn 116;refine (Tryz.bits_Len64 _ _ (by omega) (by omega)).mono ?_;rintro e w' ⟨rfl,rfl⟩)
  | (go_at_fn 115;refine (Tryz.internal_strconv_log10Pow2 _ (by first | exact hL | (rw [Pd];exact hL)) _).mono ?_;rintro e w' ⟨rfl,rfl⟩)
  | (go_at_fn 117;refine (Tryz.internal_strconv_bool2_int _ _).mono ?_;rintro e w' ⟨rfl,rfl⟩))
 all_goals go_ret
 all_goals (
  refine ⟨?_,rfl⟩
  have iw:=Pe.out
  congr 2
  split at iw<;>simp_all<;>omega)
open Go.Lib Go.Sort in
set_option maxHeartbeats 6400000 in
set_option maxRecDepth 100000 in
theorem Kg (u:Nat) (ml:u<18446744073709551616) (w:World) (nD:lC w):
  Calls Tryz.prog 98 #[.int .u64 u,.int .i64 10] w fun e w'=>e=.returned (.string ⟨(decDigits u).toArray⟩)∧∃ k os,w'=grow (w.drewN k) os:=by
 have mixed:(Tryz.prog).follows .mixedOrders=true:=by kernel_rfl
 have t0:=Tryz.underlying0;have a0:=Tryz.isAgg0;have z0:=Tryz.sizeOf0;have v0:=Tryz.zeroValue0;have t3:=Tryz.underlying3;have a3:=Tryz.isAgg3;have z3:=Tryz.sizeOf3;have v3:=Tryz.zeroValue3;have t4:=Tryz.underlying4;have a4:=Tryz.isAgg4;have z4:=Tryz.sizeOf4;have v4:=Tryz.zeroValue4;have t5:=Tryz.underlying5;have a5:=Tryz.isAgg5;have z5:=Tryz.sizeOf5;have v5:=Tryz.zeroValue5;have t9:=Tryz.underlying9;have a9:=Tryz.isAgg9;have z9:=Tryz.sizeOf9;have v9:=Tryz.zeroValue9;have t31:=Tryz.underlying31;have a31:=Tryz.isAgg31;have z31:=Tryz.sizeOf31;have v31:=Tryz.zeroValue31;have t40:=Tryz.underlying40;have a40:=Tryz.isAgg40;have z40:=Tryz.sizeOf40;have v40:=Tryz.zeroValue40;have t149:=Tryz.underlying149;have PY:=Tryz.isAgg149;have PZ:=Tryz.sizeOf149;have P0:=Tryz.zeroValue149
 have eS:∀ args w,(callFunc 105 args).run Tryz.prog w=.ok (.enter 105 args) w:=enters_of Tryz.func105 (by kernel_rfl) rfl
 have eN:∀ args w,(callFunc 106 args).run Tryz.prog w=.ok (.enter 106 args) w:=enters_of Tryz.func106 (by kernel_rfl) rfl
 have eB:∀ args w,(callFunc 107 args).run Tryz.prog w=.ok (.enter 107 args) w:=enters_of Tryz.func107 (by kernel_rfl) rfl
 by_cases hs:u<100
 ·go_enter Tryz.func98,Tryz.ntmps98
  go_wp2_with (go_at_fn 105;refine (Tryz.internal_strconv_small u hs _).mono ?_;rintro e w' ⟨rfl,rfl⟩)
  go_ret
  exact ⟨rfl,0,#[],by simp [World.drewN_zero]⟩
 ·have EN:1≤u:=by omega
  have PM:nDigits u≤20:=by have:=numDigits_eq u EN ml;split at this<;>omega
  have zG:nDigits u≤23:=by omega
  have eC:(Tryz.prog).arrayLen 149=24:=by kernel_rfl
  have P1:∀ W,(Instr.sliceAt 149 (.pointer (some ⟨w.heap.size,0,none⟩)) none (some (.int .i64 (nDigits u:Int))) none).run Tryz.prog W=.ok (.slice (some ⟨w.heap.size,0,none⟩) (nDigits u) 24) W:=fun W=>by
   rw [run_sliceAt_array_h W 149 ⟨w.heap.size,0,none⟩ (by kernel_rfl) .i64 (nDigits u:Int) (by omega) (by rw [eC];omega)]
   go_simp
  have zR:Go.Sort.Holds (fun (b:UInt8)=>Value.int .u8 (b.toNat:Int)) (w.alloc (.cells zeros24 149)) w.heap.size 0 (Array.replicate (nDigits u) (0:UInt8)):=fun j hj=>by
   have jy:j<nDigits u:=by simpa using hj
   refine ⟨?_,World.frozen?_alloc_new _ _ _ _⟩
   rw [World.cell?_alloc_new,zeros24_at _ (by omega),getElem!_pos _ j hj]
   simp
  have DR:=Tryz.internal_strconv_formatBase10 w.heap.size 0 24 u (Array.replicate (nDigits u) 0) (w.alloc (.cells zeros24 149)) zR (by rw [Array.size_replicate];exact lt_pow_nDigits u) ml (by rw [Array.size_replicate];omega)
  rw [Array.size_replicate] at DR
  have Pf:=Go.Lib.hid zR
  clear zR eC
  go_enter Tryz.func98,Tryz.ntmps98
  go_wp2_with (go_at_fn 106;refine (Lo u EN ml _ (nD.alloc _)).mono ?_;rintro e w' ⟨rfl,rfl⟩)
  go_at_fn 107
  refine DR.mono ?_
  rintro e w' ⟨rfl,k,v',dk,rfl,hF⟩
  have QA:(convert 31 9 (.slice (some ⟨w.heap.size,0,none⟩) (nDigits u) 24)).run Tryz.prog ((putRow (fun (b:UInt8)=>Value.int .u8 (b.toNat:Int)) (w.alloc (.cells zeros24 149)) w.heap.size 0 dk).drewN k)=.ok (.string ⟨(decDigits u).toArray⟩) ((putRow (fun (b:UInt8)=>Value.int .u8 (b.toNat:Int)) (w.alloc (.cells zeros24 149)) w.heap.size 0 dk).drewN k):=by
   have h:=run_convert_bytes_back (P:=Tryz.prog) ((putRow (fun (b:UInt8)=>Value.int .u8 (b.toNat:Int)) (w.alloc (.cells zeros24 149)) w.heap.size 0 dk).drewN k) 31 9 5 ⟨w.heap.size,0,none⟩ 24 (decDigits u) t31 t5 t9 (fun j hj=>by
    rw [row_is_numeral hF j hj,add_plain,World.cell?_drewN]
    exact cell?_putRow (fun (b:UInt8)=>Value.int .u8 (b.toNat:Int)) _ w.heap.size 0 _ dk Pf.out (by rw [hF.size,Array.size_replicate]) j (by rw [hF.size];rw [decDigits_length] at hj;exact hj))
   rw [decDigits_length] at h
   exact h
  go_wp2
  go_ret
  refine ⟨rfl,k,?_⟩
  rw [alloc_eq_grow]
  obtain ⟨Pg,-,e⟩:=putRow_grow_new (fun (b:UInt8)=>Value.int .u8 (b.toNat:Int)) w #[.cells zeros24 149] w.heap.size 0 dk (Nat.le_refl _)
  exact ⟨Pg,by rw [e];rfl⟩
open Go.Lib Go.Sort in
set_option maxHeartbeats 6400000 in
set_option maxRecDepth 100000 in
theorem IF (u:Nat) (ml:u<18446744073709551616) (w:World) (nD:lC w):
  Calls Tryz.prog 73 #[.int .u64 u,.int .i64 10] w fun e w'=>e=.returned (.string ⟨(decDigits u).toArray⟩)∧Below w.heap.size w w':=by
 have mixed:(Tryz.prog).follows .mixedOrders=true:=by kernel_rfl
 have t9:=Tryz.underlying9;have a9:=Tryz.isAgg9;have z9:=Tryz.sizeOf9;have v9:=Tryz.zeroValue9
 have eF:∀ args w,(callFunc 98 args).run Tryz.prog w=.ok (.enter 98 args) w:=enters_of Tryz.func98 (by kernel_rfl) rfl
 go_enter Tryz.func73,Tryz.ntmps73
 go_wp2_with (go_at_fn 98;refine (Kg u ml _ nD).mono ?_;rintro e w' ⟨rfl,k,os,rfl⟩)
 go_ret
 exact ⟨rfl,rfl,rfl,rfl,by simp [grow],fun k hk=>heap_grow_old _ _ hk⟩
def aS:List DV:=(List.range 20).map fun i=>DV.u (10 ^ i)
theorem lC.of {K:World→Prop} {β:Beta} {u:Nat} {H:aq} (h:bB K β u (.gw 1 aS) H) {w:World} (hw:K w):lC w:=by
 cases h with
 | gw X hl hc hr=>
  intro i hi
  have h1:aS[i]?=some (DV.u (10 ^ i)):=by simp [aS,hi]
  have aO:i<X.length:=by rw [hl];simp [aS];omega
  have h2:=hr i _ X[i] h1 (List.getElem?_eq_getElem aO)
  have h3:=hc w hw i X[i] (List.getElem?_eq_getElem aO)
  rw [Ge] at h3
  have h4:X[i]=.int .u64 ((10 ^ i:Nat):Int):=by
   generalize X[i]=y at h2
   cases h2;rfl
  rw [h3,h4]
theorem rV (u:Nat) (ml:u<18446744073709551616):aC Tryz.prog 73 [.d (.v (.int .u64 u)),.d (.v (.int .i64 10))] [.gw 1 aS] (.d (.v (.string ⟨(Go.Lib.decDigits u).toArray⟩))) [.gw 1 aS]:=by
 refine ⟨by kernel_rfl,fun {D w0 K0 β F I w} ys R hK hl hr=>?_⟩
 have key:∀ {K:World→Prop} {β:Beta} {a b:Value},az K β (.d (.v a)) b→b=a:=fun h=>by cases h with | d h=>cases h;rfl
 obtain ⟨y0,y1,rfl⟩:∃ a b,ys=[a,b]:=by
  match ys,hl with
  | [a,b],_=>exact ⟨a,b,rfl⟩
 obtain rfl:=key (hr 0 _ y0 rfl rfl)
 obtain rfl:=key (hr 1 _ y1 rfl rfl)
 have nD:lC w:=lC.of (R.blk 0 _ rfl) ⟨hK w R.st.kp,(Holds.app.1 R.st.holds).2⟩
 refine (IF u ml w nD).mono ?_
 rintro e w' ⟨rfl,g⟩
 exact ⟨_,rfl,β,F,I,⟨R.len,R.blk,R.st.gr g⟩,Ext.refl _,bU.refl _,.d (.v _)⟩
theorem Lp (n:Nat) (h:n<100):ay Tryz.prog 70 [.d (.v (.int .i64 n))] (.v (.string ⟨(Go.Lib.decDigits n).toArray⟩)):=
 ay.qV (by kernel_rfl) (zs:=[.int .i64 n]) fun w=>(Tryz.strconv_Itoa_small n h w).mono fun e w' ⟨he,hw⟩=>⟨he,hw▸Below.refl _ _⟩
end Go.Proofs.YtcnpikbbmbombaaGreatDoor
namespace Go.Proofs.YtcnpikbbmbombaaGreatDoor
open Go.RowKit
def ef (n:Nat):UInt8:=if n<10 then UInt8.ofNat (48+n) else UInt8.ofNat (87+n)
theorem tA {n:Nat} (h:n<16):([48,49,50,51,52,53,54,55,56,57,97,98,99,100,101,102]:List UInt8)[n]?=some (ef n):=by
 have key:∀ k,k<16→([48,49,50,51,52,53,54,55,56,57,97,98,99,100,101,102]:List UInt8)[k]?=some (ef k):=by decide
 exact key n h
def dC (l:List UInt8):List UInt8:=l.flatMap fun b=>[ef (b.toNat / 16),ef (b.toNat%16)]
theorem IG {l:List UInt8} {i:Nat} {b:UInt8} (h:l[i]?=some b):dC (l.take (i+1))=dC (l.take i)++[ef (b.toNat / 16),ef (b.toNat%16)]:=by
 unfold dC;rw [List.take_add_one,h];simp
theorem dR (l:List UInt8):(dC l).length=2*l.length:=by
 unfold dC;induction l with
 | nil=>rfl
 | cons b r ih=>rw [List.flatMap_cons,List.length_append,ih];simp;omega
theorem DS (b:UInt8):((b.toNat:Nat):Int).fdiv (2 ^ (min (4:Int).toNat IntKind.u8.bits))=((b.toNat / 16:Nat):Int):=by
 show ((b.toNat:Nat):Int).fdiv 16=_
 rw [Int.fdiv_eq_ediv_of_nonneg _ (by omega)];omega
theorem Dg (b:UInt8):IntKind.u8.wrap ((BitVec.ofInt IntKind.u8.bits ((b.toNat:Nat):Int) &&& BitVec.ofInt IntKind.u8.bits 15).toNat:Int)=((b.toNat%16:Nat):Int):=by
 have hb:=b.toNat_lt
 have h1:(BitVec.ofInt 8 ((b.toNat:Nat):Int) &&& BitVec.ofInt 8 15).toNat=b.toNat%16:=by
  rw [BitVec.toNat_and]
  have e1:(BitVec.ofInt 8 ((b.toNat:Nat):Int)).toNat=b.toNat:=by simp [BitVec.toNat_ofInt]
  have e2:(BitVec.ofInt 8 15).toNat=2 ^ 4-1:=by decide
  rw [e1,e2,Nat.and_two_pow_sub_one_eq_mod]
 show IntKind.u8.wrap ((BitVec.ofInt 8 ((b.toNat:Nat):Int) &&& BitVec.ofInt 8 15).toNat:Int)=_
 rw [h1]
 simp [IntKind.wrap,IntKind.signed,IntKind.bits];omega
def jK (l:List UInt8):List UInt8:=if l=[] then [45] else dC l
set_option maxRecDepth 100000 in
theorem Fx (b:UInt8) (l:List UInt8) (hl:l.length≤16777216):ay Tryz.prog 74 [.d (.ro 1 (af (b::l)))] (.v (.string ⟨(dC (b::l)).toArray⟩)):=by
 refine ay.intro (by kernel_rfl) rfl rfl 25 rfl rfl fun w0 K ac hK r=>?_
 have aI:=((by first | rfl | (simp [af];done) | (simp [af];omega)):(((af (b::l)).length:Nat):Int)=(((l.length+1):Nat):Int))
 cases h0:(((((l.length+1):Nat):Int):Int)==0) with
 | false=>
  have aT:=ne_of_beq_false h0
  refine bX (todo':=hd Tryz.f74 0) (E':=[(0,.d (.ro 1 (af (b::l)))),(2,.d (.v (.string .empty))),(6,.d (.ro 1 (af (b::l)))),(7,.n ((l.length+1))),(8,.d (.v (.bool false))),(3,.pt 0 0),(9,.d (.ro 1 (af (b::l)))),(10,.n ((l.length+1))),(11,.z 0)]) (M':=[.bx 71 [.d (.v (.pointer none)),.d (.v (.slice none 0 0))]]) tk mo hK [(1,[(1,.z ((((l.length+1):Nat):Int))),(2,.b false)]),(4,[(1,.z ((((l.length+1):Nat):Int)))])] 2000 [0] [0,2,6,7,8,3,9,10,11] r (by kernel_rfl) (U aI (U h0 (U aI trivial))) fun ac wd r=>?_
  cases h1:(decide ((0:Int)<(((l.length+1):Nat):Int))) with
  | false=>
   have bR:=of_decide_eq_false h1
   exact absurd bR (by omega)
  | true=>
   have bR:=of_decide_eq_true h1
   refine bX (todo':=hd Tryz.f74 0) (E':=[(3,.pt 0 0),(9,.d (.ro 1 (af (b::l)))),(10,.n ((l.length+1))),(11,.z 1)]) (M':=[.bx 71 [.pt 0 0,.sl 1 ((1)+(1))],.rw 5 1 ([[.v (.int .u8 ((((ef (b.toNat / 16)).toNat:Nat):Int)))]]++[[.v (.int .u8 ((((ef (b.toNat%16)).toNat:Nat):Int)))]])]) tk mo hK [(5,[(0,.b true)]),(6,[(0,.ix (0) [.v (.int .u8 (((b.toNat:Nat):Int)))])]),(7,[(1,.z (((b.toNat / 16:Nat):Int))),(2,.ix (b.toNat / 16) [.v (.int .u8 ((((ef (b.toNat / 16)).toNat:Nat):Int)))]),(3,.bw 200 [(1,[(1,.bw 200 [(1,[(2,.b true),(3,.b true),(4,.b false)])])])])]),(8,[(1,.z (((b.toNat%16:Nat):Int))),(2,.ix (b.toNat%16) [.v (.int .u8 ((((ef (b.toNat%16)).toNat:Nat):Int)))]),(3,.bw 200 [(1,[(1,.bw 200 [])])])]),(9,[(0,.z (1))])] 2000 [0,2] [3,9,10,11] r (by kernel_rfl) (U h1 (U (rfl:(0)=((0:Nat):Int)) (U (rfl:(af (b::l))[0]?=some [.v (.int .u8 (((b.toNat:Nat):Int)))]) (U ((DS _):(((b.toNat:Nat):Int):Int).fdiv (2 ^ (min (4:Int).toNat IntKind.u8.bits))=((b.toNat / 16:Nat):Int)) (U ((by first | decide | omega):(0:Int)≤4) (U (ax ((b.toNat / 16:Nat):Int)) (U (⟨_,tA (by have:=(b).toNat_lt;omega),rfl⟩:∃ u:UInt8,([48,49,50,51,52,53,54,55,56,57,97,98,99,100,101,102]:List UInt8)[b.toNat / 16]?=some u∧(.v (.int .u8 ((((ef (b.toNat / 16)).toNat:Nat):Int))):DV)=.v (.int .u8 (u.toNat:Int))) (U (kd:dB Tryz.prog 69) (U ((by kernel_rfl):(bif true then nv Tryz.prog 69 140 else nw Tryz.prog 69 140 71 2)=true) (U ((by decide):0<2) (U (yr:rB Tryz.prog 95) (U ((by kernel_rfl):(bif false then nv Tryz.prog 140 69 else nw Tryz.prog 140 69 71 2)=true) (U ((by decide):0<2) (U ((by first | rfl | (simp [af,dR];done) | (simp [af,dR];omega)):(1)=([[.v (.int .u8 ((((ef (b.toNat / 16)).toNat:Nat):Int)))]]:List (List DV)).length) (U ((by first | omega | (simp [af,dR];omega)):(2*(0+(1))+192)*1≤281474976710656) (U ((by first | omega | (simp [af,dR];omega)):0+(1)<4611686018427387904) (U ((by simp [aW,AV.one,bQ,af,ah,ints,steps,strs]):aW ([[.v (.int .u8 ((((ef (b.toNat / 16)).toNat:Nat):Int)))]])) (U ((Dg _):IntKind.u8.wrap ((BitVec.ofInt IntKind.u8.bits (((b.toNat:Nat):Int)) &&& BitVec.ofInt IntKind.u8.bits (15)).toNat:Int)=((b.toNat%16:Nat):Int)) (U (ax ((b.toNat%16:Nat):Int)) (U (⟨_,tA (by have:=(b).toNat_lt;omega),rfl⟩:∃ u:UInt8,([48,49,50,51,52,53,54,55,56,57,97,98,99,100,101,102]:List UInt8)[b.toNat%16]?=some u∧(.v (.int .u8 ((((ef (b.toNat%16)).toNat:Nat):Int))):DV)=.v (.int .u8 (u.toNat:Int))) (U (kd:dB Tryz.prog 69) (U ((by kernel_rfl):jP Tryz.prog 69=true) (U ((by first | rfl | (simp [af,dR];done) | (simp [af,dR];omega)):((1))=([[.v (.int .u8 ((((ef (b.toNat / 16)).toNat:Nat):Int)))]]:List (List DV)).length) (U ((by first | rfl | (simp [af,dR];done) | (simp [af,dR];omega)):(1)=([[.v (.int .u8 ((((ef (b.toNat%16)).toNat:Nat):Int)))]]:List (List DV)).length) (U ((by first | omega | (simp [af,dR];omega)):(2*(((1))+(1))+192)*1≤281474976710656) (U ((by first | omega | (simp [af,dR];omega)):((1))+(1)<4611686018427387904) (U ((by simp [aW,AV.one,bQ,af,ah,ints,steps,strs]):aW ([[.v (.int .u8 ((((ef (b.toNat%16)).toNat:Nat):Int)))]])) (U ((wi (by omega)):IntKind.i64.wrap ((0:Int)+1)=1) trivial)))))))))))))))))))))))))))) fun ac wd r=>?_
   refine aF.rounds (Φ:=fun (i:Nat) ac wd=>(i≤l.length)∧dn [] w0 K 25 [(3,.pt 0 0),(9,.d (.ro 1 (af (b::l)))),(10,.n ((l.length+1))),(11,.n (i+1))] [.bx 71 [.pt 0 0,.sl 1 ((dC ((b::l).take (i+1))).length)],.rw 5 1 (af (dC ((b::l).take (i+1))))] ac wd) (l.length) ?_ (Nat.zero_le _) ⟨Nat.zero_le _,(r).cast rfl (by simp [dC,af])⟩
   clear r
   rintro i dw bj ac wd ⟨ao,r⟩
   cases h2:(decide ((((i+1:Nat):Int):Int)<(((l.length+1):Nat):Int))) with
   | false=>
    have cz:=of_decide_eq_false h2
    rw [show (.v (.string ⟨(dC (b::l)).toArray⟩):DV)=.v (.string ⟨((dC ((b::l).take (i+1)))).toArray⟩) from (by rw [List.take_of_length_le (by simp;omega)])]
    exact aV tk mo hK rfl [(5,[(0,.b false)]),(10,[(0,.bw 200 [(1,[(10,.res (.v (.string ⟨((dC ((b::l).take (i+1)))).toArray⟩)))])])])] 2000 r (by kernel_rfl) (U h2 (U ((by first | rfl | (simp [af,dR];done) | (simp [af,dR];omega)):((dC ((b::l).take (i+1))).length)=(af (dC ((b::l).take (i+1)))).length) (U ((by first | omega | decide | (simp [af,dR];done) | (simp [af,dR];omega)):0<((dC ((b::l).take (i+1))).length)) (U ((by simp [af]):((((dC ((b::l).take (i+1))).length:Nat):Int):Int)=(((af (dC ((b::l).take (i+1)))).length:Nat):Int)) (U ((by first | omega | (simp [af,dR];done) | (simp [af,dR];omega)):0<(af (dC ((b::l).take (i+1)))).length) (U (rfl:af (dC ((b::l).take (i+1)))=af ((dC ((b::l).take (i+1))))) (U ((by kernel_rfl):rO Tryz.prog 121 5=true) (U ((by first | omega | decide | (simp [af,dR];done) | (simp [af,dR];omega)):(af (dC ((b::l).take (i+1)))).length≤9223372036854775807) trivial))))))))
   | true=>
    have cz:=of_decide_eq_true h2
    obtain ⟨eW,Dh⟩:∃ y_,(b::l)[i+1]?=some y_:=⟨_,List.getElem?_eq_getElem (by simp;omega)⟩
    exact bX (todo':=hd Tryz.f74 0) (E':=[(3,.pt 0 0),(9,.d (.ro 1 (af (b::l)))),(10,.n ((l.length+1))),(11,.n (i+1+1))]) (M':=[.bx 71 [.pt 0 0,.sl 1 ((dC ((b::l).take (i+1))).length+(1)+(1))],.rw 5 1 (af (dC ((b::l).take (i+1)))++[[.v (.int .u8 ((((ef (eW.toNat / 16)).toNat:Nat):Int)))]]++[[.v (.int .u8 ((((ef (eW.toNat%16)).toNat:Nat):Int)))]])]) tk mo hK [(5,[(0,.b true)]),(6,[(0,.ix (i+1) [.v (.int .u8 (((eW.toNat:Nat):Int)))])]),(7,[(1,.z (((eW.toNat / 16:Nat):Int))),(2,.ix (eW.toNat / 16) [.v (.int .u8 ((((ef (eW.toNat / 16)).toNat:Nat):Int)))]),(3,.bw 200 [(1,[(1,.bw 200 [])])])]),(8,[(1,.z (((eW.toNat%16:Nat):Int))),(2,.ix (eW.toNat%16) [.v (.int .u8 ((((ef (eW.toNat%16)).toNat:Nat):Int)))]),(3,.bw 200 [(1,[(1,.bw 200 [])])])]),(9,[(0,.z (((i+1+1:Nat):Int)))])] 2000 [0,1] [3,9,10,11] r (by kernel_rfl) (U h2 (U (ax ((i+1:Nat):Int)) (U (k6 Dh) (U ((DS _):(((eW.toNat:Nat):Int):Int).fdiv (2 ^ (min (4:Int).toNat IntKind.u8.bits))=((eW.toNat / 16:Nat):Int)) (U ((by first | decide | omega):(0:Int)≤4) (U (ax ((eW.toNat / 16:Nat):Int)) (U (⟨_,tA (by have:=(eW).toNat_lt;omega),rfl⟩:∃ u:UInt8,([48,49,50,51,52,53,54,55,56,57,97,98,99,100,101,102]:List UInt8)[eW.toNat / 16]?=some u∧(.v (.int .u8 ((((ef (eW.toNat / 16)).toNat:Nat):Int))):DV)=.v (.int .u8 (u.toNat:Int))) (U (kd:dB Tryz.prog 69) (U ((by kernel_rfl):jP Tryz.prog 69=true) (U ((by first | rfl | (simp [af,dR];done) | (simp [af,dR];omega)):((dC ((b::l).take (i+1))).length)=(af (dC ((b::l).take (i+1)))).length) (U ((by first | rfl | (simp [af,dR];done) | (simp [af,dR];omega)):(1)=([[.v (.int .u8 ((((ef (eW.toNat / 16)).toNat:Nat):Int)))]]:List (List DV)).length) (U ((by first | omega | (simp [af,dR];omega)):(2*(((dC ((b::l).take (i+1))).length)+(1))+192)*1≤281474976710656) (U ((by first | omega | (simp [af,dR];omega)):((dC ((b::l).take (i+1))).length)+(1)<4611686018427387904) (U ((by simp [aW,AV.one,bQ,af,ah,ints,steps,strs]):aW ([[.v (.int .u8 ((((ef (eW.toNat / 16)).toNat:Nat):Int)))]])) (U ((Dg _):IntKind.u8.wrap ((BitVec.ofInt IntKind.u8.bits (((eW.toNat:Nat):Int)) &&& BitVec.ofInt IntKind.u8.bits (15)).toNat:Int)=((eW.toNat%16:Nat):Int)) (U (ax ((eW.toNat%16:Nat):Int)) (U (⟨_,tA (by have:=(eW).toNat_lt;omega),rfl⟩:∃ u:UInt8,([48,49,50,51,52,53,54,55,56,57,97,98,99,100,101,102]:List UInt8)[eW.toNat%16]?=some u∧(.v (.int .u8 ((((ef (eW.toNat%16)).toNat:Nat):Int))):DV)=.v (.int .u8 (u.toNat:Int))) (U (kd:dB Tryz.prog 69) (U ((by kernel_rfl):jP Tryz.prog 69=true) (U ((by first | rfl | (simp [af,dR];done) | (simp [af,dR];omega)):((dC ((b::l).take (i+1))).length+(1))=(af (dC ((b::l).take (i+1)))++[[.v (.int .u8 ((((ef (eW.toNat / 16)).toNat:Nat):Int)))]]:List (List DV)).length) (U ((by first | rfl | (simp [af,dR];done) | (simp [af,dR];omega)):(1)=([[.v (.int .u8 ((((ef (eW.toNat%16)).toNat:Nat):Int)))]]:List (List DV)).length) (U ((by first | omega | (simp [af,dR];omega)):(2*(((dC ((b::l).take (i+1))).length+(1))+(1))+192)*1≤281474976710656) (U ((by first | omega | (simp [af,dR];omega)):((dC ((b::l).take (i+1))).length+(1))+(1)<4611686018427387904) (U ((by simp [aW,AV.one,bQ,af,ah,ints,steps,strs]):aW ([[.v (.int .u8 ((((ef (eW.toNat%16)).toNat:Nat):Int)))]])) (U ((wi (by omega)):IntKind.i64.wrap ((((i+1:Nat):Int):Int)+1)=((i+1+1:Nat):Int)) trivial))))))))))))))))))))))))) fun ac wd r=>bj (by omega) ac wd ⟨(by omega),r.cast rfl (by rw [IG Dh];simp [af])⟩
 | true=>
  have aT:=eq_of_beq h0
  exact absurd aT (by omega)
set_option maxRecDepth 100000 in
theorem Fy (a:Option Addr) (n:Nat):ay Tryz.prog 74 [.d (.v (.slice a 0 n))] (.v (.string ⟨[45].toArray⟩)):=by
 refine ay.intro (by kernel_rfl) rfl rfl 25 rfl rfl fun w0 K ac hK r=>?_
 rw [show (.v (.string ⟨[45].toArray⟩):DV)=.v (.string ⟨([45]).toArray⟩) from rfl]
 exact aV tk mo hK rfl [] 2000 r (by kernel_rfl) trivial
theorem Gf (l:List UInt8) (hl:l.length≤16777216):ay Tryz.prog 74 [.d (.ro 1 (af l))] (.v (.string ⟨(jK l).toArray⟩)):=by
 cases l with
 | nil=>exact ay.empty (pre:=[]) (post:=[]) fun a c=>Fy a c
 | cons b l=>exact Fx b l (by simp at hl;omega)
theorem Gg (l:List (List UInt8)):b5 (strs l)=strs l:=by rw [kx];unfold strs;rw [List.map_map];apply List.map_congr_left;intro b _;rfl
def cn (z:Int):List UInt8:=Go.Lib.decDigits z.toNat
theorem s7 (u:Nat) (h:u<18446744073709551616):(Go.Lib.decDigits u).length≤20:=by
 rw [Go.Lib.decDigits_length]
 rcases Nat.eq_zero_or_pos u with rfl | h1
 ·rw [Go.Lib.nDigits_small (by omega)];omega
 ·have:=Go.Lib.numDigits_eq u h1 h;split at this<;>omega
theorem tU {z:Int} (h0:0≤z) (h:z<100):ay Tryz.prog 70 [.z z] (.v (.string ⟨(cn z).toArray⟩)):=by
 obtain ⟨n,rfl⟩:=Int.eq_ofNat_of_zero_le h0
 exact Lp n (by omega)
theorem pg {z:Int} (h:z<100):(cn z).length≤20:=s7 _ (by omega)
def jR (x:Int×Int):List UInt8:=cn x.1++[45]++cn x.2
def ch (c:bK):List (List UInt8):=[119,111,114,108,100]::([cn c.aD]++c.ah.map jR++[[58]]++c.homes.map cn)
theorem Bw {α:Type} {f:α→List UInt8} {l:List α} {i:Nat} {x:α} (h:l[i]?=some x):(l.take (i+1)).map f=(l.take i).map f++[f x]:=by
 rw [List.take_add_one,h];simp
theorem AD {l:List (List UInt8)} {n:Nat} (h:∀ x ∈ l,x.length≤n):l.flatten.length≤n*l.length:=by
 induction l with
 | nil=>simp
 | cons x r ih=>
  have h1:=h x (by simp)
  have h2:=ih (fun y hy=>h y (by simp [hy]))
  rw [List.flatten_cons,List.length_append,List.length_cons,Nat.mul_succ];omega
theorem Bx {c:bK} (h:bY c=true):(ch c).flatten.length≤41*(ch c).length:=by
 have m:=jJ h
 have hs:=m.head
 refine AD fun x hx=>?_
 unfold ch at hx
 simp only [List.mem_cons,List.mem_append,List.mem_map,List.not_mem_nil,or_false] at hx
 rcases hx with rfl | (((rfl | ⟨y,hy,rfl⟩) | rfl) | ⟨y,hy,rfl⟩)
 ·simp
 ·exact Nat.le_trans (pg (by omega)) (by omega)
 ·obtain ⟨j,hj,rfl⟩:=List.getElem_of_mem hy
  have hl:=m.link j _ (List.getElem?_eq_getElem hj)
  have h1:=pg (z:=(c.ah[j]).1) (by have:=hl.1.2;omega)
  have h2:=pg (z:=(c.ah[j]).2) (by have:=hl.2.1.2;omega)
  unfold jR;simp only [List.length_append,List.length_cons,List.length_nil];omega
 ·simp
 ·obtain ⟨j,hj,rfl⟩:=List.getElem_of_mem hy
  have hl:=m.home j _ (List.getElem?_eq_getElem hj)
  exact Nat.le_trans (pg (by have:=hl.2;omega)) (by omega)
theorem CJ (c:bK):(ch c).length=3+c.ah.length+c.homes.length:=by unfold ch;simp;omega
set_option maxRecDepth 100000 in
theorem Hd (c:bK) (hm:bY c=true) (hc:c.ah.length≤100000):ay Tryz.prog 40 [.ag [.z c.aD,.d (.ro 2 (ah c.ah)),.d (.ro 1 (ints c.homes))]] (.v (.string ⟨(bF (ch c)).toArray⟩)):=by
 refine ay.intro (by kernel_rfl) rfl rfl 49 rfl rfl fun w0 K ac hK r=>?_
 refine bX (todo':=hd Tryz.f40 0) (E':=[(1,.pt 0 0),(3,.sl 1 (2)),(13,.d (.ro 2 (ah c.ah))),(14,.n c.ah.length),(15,.z 0)]) (M':=[.bx 25 [.z c.aD,.d (.ro 2 (ah c.ah)),.d (.ro 1 (ints c.homes))],.rw 9 1 ([[.v (.string ⟨([119,111,114,108,100]).toArray⟩)],[.v (.string ⟨(cn c.aD).toArray⟩)]])]) tk mo hK [(1,[(2,.aG (.v (.string ⟨(cn c.aD).toArray⟩)))]),(2,[(2,.z (((c.ah.length:Nat):Int)))])] 2000 [0,1] [1,3,13,14,15] r (by kernel_rfl) (U (tU (z:=c.aD) (by first | omega | (have:=(jJ hm).head;omega)) (by first | omega | (have:=(jJ hm).head;omega))) (U ((by first | rfl | simp [af,ah,ints,steps,strs]):(((ah c.ah).length:Nat):Int)=((c.ah.length:Nat):Int)) trivial)) fun ac wd r=>?_
 refine aF.rounds (Φ:=fun (i:Nat) ac wd=>(i≤c.ah.length)∧dn [] w0 K 49 [(1,.pt 0 0),(3,.sl 1 ((2+i))),(13,.d (.ro 2 (ah c.ah))),(14,.n c.ah.length),(15,.n i)] [.bx 25 [.z c.aD,.d (.ro 2 (ah c.ah)),.d (.ro 1 (ints c.homes))],.rw 9 1 (strs ([[119,111,114,108,100]]++[cn c.aD]++(c.ah.take i).map jR))] ac wd) (c.ah.length) ?_ (Nat.zero_le _) ⟨Nat.zero_le _,(r).cast rfl (by simp [strs])⟩
 clear r
 rintro i dw bj ac wd ⟨ao,r⟩
 have QB:=(jJ hm).head
 cases h0:(decide ((((i:Nat):Int):Int)<((c.ah.length:Nat):Int))) with
 | false=>
  have aT:=of_decide_eq_false h0
  refine bX (todo':=hd Tryz.f40 1) (E':=[(3,.sl 0 ((2+i)+(1))),(35,.d (.ro 1 (ints c.homes))),(36,.n c.homes.length),(37,.z 0)]) (M':=[.rw 9 1 (strs ([[119,111,114,108,100]]++[cn c.aD]++(c.ah.take i).map jR)++[[.v (.string ⟨([58]).toArray⟩)]])]) tk mo hK [(3,[(0,.b false)]),(8,[(2,.z (((c.homes.length:Nat):Int)))])] 2000 [1] [3,35,36,37] r (by kernel_rfl) (U h0 (U ((by first | rfl | (simp [strs];done) | (simp [strs];omega)):((2+i))=(strs ([[119,111,114,108,100]]++[cn c.aD]++(c.ah.take i).map jR):List (List DV)).length) (U ((by first | rfl | (simp [strs];done) | (simp [strs];omega)):(1)=([[.v (.string ⟨([58]).toArray⟩)]]:List (List DV)).length) (U ((by first | omega | (simp [strs];done) | (simp [strs];omega)):(2*(((2+i))+(1))+192)*16≤281474976710656) (U ((by first | omega | (simp [strs];done) | (simp [strs];omega)):((2+i))+(1)<4611686018427387904) (U ((by simp [aW,AV.one,bQ,strs]):aW ([[.v (.string ⟨([58]).toArray⟩)]])) (U ((by first | rfl | simp [af,ah,ints,steps,strs]):(((ints c.homes).length:Nat):Int)=((c.homes.length:Nat):Int)) trivial))))))) fun ac wd r=>?_
  refine aF.rounds (Φ:=fun (i:Nat) ac wd=>(i≤c.homes.length)∧dn [] w0 K 49 [(3,.sl 0 ((3+c.ah.length+i))),(35,.d (.ro 1 (ints c.homes))),(36,.n c.homes.length),(37,.n i)] [.rw 9 1 (strs ([[119,111,114,108,100]]++[cn c.aD]++c.ah.map jR++[[58]]++(c.homes.take i).map cn))] ac wd) (c.homes.length) ?_ (Nat.zero_le _) ⟨Nat.zero_le _,(r).cast (by rw [show 2+i+1=3+c.ah.length+0 from by omega];rfl) (by rw [List.take_of_length_le (by omega)];simp [strs])⟩
  clear r
  rintro i kX c9 ac wd ⟨bo,r⟩
  cases h1:(decide ((((i:Nat):Int):Int)<((c.homes.length:Nat):Int))) with
  | false=>
   have bR:=of_decide_eq_false h1
   rw [show (.v (.string ⟨(bF (ch c)).toArray⟩):DV)=.v (.string ⟨(bF (ch c)).toArray⟩) from rfl]
   exact aV tk mo hK rfl [(9,[(0,.b false)]),(13,[(1,.call [.d (.ro 1 (strs (ch c))),.d (.v (.string ⟨([32]).toArray⟩))] (.v (.string ⟨(bF (ch c)).toArray⟩)))])] 2000 r (by kernel_rfl) (U h1 (U (xv _ _ (by simp;omega) (by have h1:=Bx hm;have h2:=CJ c;unfold ch at h1 h2;omega):ay Tryz.prog 71 [.d (.ro 1 (strs (ch c))),.d (.v (.string ⟨([32]).toArray⟩))] (.v (.string ⟨(bF (ch c)).toArray⟩))) (U ((ft _):fe (.v (.string ⟨(bF (ch c)).toArray⟩))) (U (cK (1)) (U ((by first | rfl | (simp [strs];done) | (simp [strs];omega)):((3+c.ah.length+i))=(strs ([[119,111,114,108,100]]++[cn c.aD]++c.ah.map jR++[[58]]++(c.homes.take i).map cn):List (List DV)).length) (U ((by rw [List.take_of_length_le (by omega)];exact Gg _):b5 (strs ([[119,111,114,108,100]]++[cn c.aD]++c.ah.map jR++[[58]]++(c.homes.take i).map cn))=strs (ch c)) (U (iK (.v (.string ⟨([32]).toArray⟩))) trivial)))))))
  | true=>
   have bR:=of_decide_eq_true h1
   obtain ⟨eu,cG⟩:∃ x_,c.homes[i]?=some x_:=⟨_,List.getElem?_eq_getElem (by omega)⟩
   have Ph:=(jJ hm).home i _ cG
   unfold jv at Ph
   exact bX (todo':=hd Tryz.f40 1) (E':=[(3,.sl 0 ((3+c.ah.length+i)+(1))),(35,.d (.ro 1 (ints c.homes))),(36,.n c.homes.length),(37,.n (i+1))]) (M':=[.rw 9 1 (strs ([[119,111,114,108,100]]++[cn c.aD]++c.ah.map jR++[[58]]++(c.homes.take i).map cn)++[[.v (.string ⟨(cn eu).toArray⟩)]])]) tk mo hK [(9,[(0,.b true)]),(10,[(0,.ix (i) [.z eu])]),(11,[(2,.aG (.v (.string ⟨(cn eu).toArray⟩)))]),(12,[(0,.z (((i+1:Nat):Int)))])] 2000 [0] [3,35,36,37] r (by kernel_rfl) (U h1 (U (ax ((i:Nat):Int)) (U (ints_at cG) (U (tU (z:=eu) (by first | omega | (have:=(jJ hm).head;omega)) (by first | omega | (have:=(jJ hm).head;omega))) (U ((by first | rfl | (simp [strs];done) | (simp [strs];omega)):((3+c.ah.length+i))=(strs ([[119,111,114,108,100]]++[cn c.aD]++c.ah.map jR++[[58]]++(c.homes.take i).map cn):List (List DV)).length) (U ((by first | rfl | (simp [strs];done) | (simp [strs];omega)):(1)=([[.v (.string ⟨(cn eu).toArray⟩)]]:List (List DV)).length) (U ((by first | omega | (simp [strs];done) | (simp [strs];omega)):(2*(((3+c.ah.length+i))+(1))+192)*16≤281474976710656) (U ((by first | omega | (simp [strs];done) | (simp [strs];omega)):((3+c.ah.length+i))+(1)<4611686018427387904) (U ((by simp [aW,AV.one,bQ,strs]):aW ([[.v (.string ⟨(cn eu).toArray⟩)]])) (U ((wi (by omega)):IntKind.i64.wrap ((((i:Nat):Int):Int)+1)=((i+1:Nat):Int)) trivial)))))))))) fun ac wd r=>c9 (by omega) ac wd ⟨(by omega),r.cast rfl (by rw [Bw cG];simp [strs])⟩
 | true=>
  have aT:=of_decide_eq_true h0
  obtain ⟨aP,br⟩:∃ x_,c.ah[i]?=some x_:=⟨_,List.getElem?_eq_getElem (by omega)⟩
  have j5:=(jJ hm).link i _ br
  unfold jv at j5
  have QC:=pg (z:=aP.1) (by omega)
  have uT:=pg (z:=aP.2) (by omega)
  exact bX (todo':=hd Tryz.f40 0) (E':=[(1,.pt 0 0),(3,.sl 1 ((2+i)+(1))),(13,.d (.ro 2 (ah c.ah))),(14,.n c.ah.length),(15,.n (i+1))]) (M':=[.bx 25 [.z c.aD,.d (.ro 2 (ah c.ah)),.d (.ro 1 (ints c.homes))],.rw 9 1 (strs ([[119,111,114,108,100]]++[cn c.aD]++(c.ah.take i).map jR)++[[.v (.string ⟨((cn aP.1)++[45]++(cn aP.2)).toArray⟩)]])]) tk mo hK [(3,[(0,.b true)]),(4,[(0,.ix (i) [.z aP.1,.z aP.2])]),(5,[(1,.n 0),(5,.n 1),(3,.aG (.v (.string ⟨(cn aP.1).toArray⟩))),(7,.aG (.v (.string ⟨(cn aP.2).toArray⟩)))]),(6,[(0,.z (((i+1:Nat):Int)))])] 2000 [0,1] [1,3,13,14,15] r (by kernel_rfl) (U h0 (U (ax ((i:Nat):Int)) (U (c7 br) (U (rfl:(0)=((0:Nat):Int)) (U ((by omega):(0)<2) (U (rfl:(1)=((1:Nat):Int)) (U ((by omega):(1)<2) (U (tU (z:=aP.1) (by first | omega | (have:=(jJ hm).head;omega)) (by first | omega | (have:=(jJ hm).head;omega))) (U ((by first | omega | decide | (simp;done) | (simp;omega)):((cn aP.1):List UInt8).length+([45]:List UInt8).length≤9223372036854775807) (U (tU (z:=aP.2) (by first | omega | (have:=(jJ hm).head;omega)) (by first | omega | (have:=(jJ hm).head;omega))) (U ((by first | omega | decide | (simp;done) | (simp;omega)):((cn aP.1)++[45]:List UInt8).length+((cn aP.2):List UInt8).length≤9223372036854775807) (U ((by first | rfl | (simp [strs];done) | (simp [strs];omega)):((2+i))=(strs ([[119,111,114,108,100]]++[cn c.aD]++(c.ah.take i).map jR):List (List DV)).length) (U ((by first | rfl | (simp [strs];done) | (simp [strs];omega)):(1)=([[.v (.string ⟨((cn aP.1)++[45]++(cn aP.2)).toArray⟩)]]:List (List DV)).length) (U ((by first | omega | (simp [strs];done) | (simp [strs];omega)):(2*(((2+i))+(1))+192)*16≤281474976710656) (U ((by first | omega | (simp [strs];done) | (simp [strs];omega)):((2+i))+(1)<4611686018427387904) (U ((by simp [aW,AV.one,bQ,strs]):aW ([[.v (.string ⟨((cn aP.1)++[45]++(cn aP.2)).toArray⟩)]])) (U ((wi (by omega)):IntKind.i64.wrap ((((i:Nat):Int):Int)+1)=((i+1:Nat):Int)) trivial))))))))))))))))) fun ac wd r=>bj (by omega) ac wd ⟨(by omega),r.cast rfl (by rw [Bw br];simp [strs,jR])⟩
end Go.Proofs.YtcnpikbbmbombaaGreatDoor
namespace Go.Proofs.YtcnpikbbmbombaaGreatDoor
open Go.RowKit
theorem tB {x:Nat} (h:x<18446744073709551616):IntKind.u64.wrap (((x:Nat):Int).tdiv 10)=((x / 10:Nat):Int):=by
 have e:((x:Nat):Int).tdiv 10=((x / 10:Nat):Int):=(Int.ofNat_tdiv x 10).symm
 rw [e];simp [IntKind.wrap,IntKind.signed,IntKind.bits];omega
def dD (most:Nat):List UInt8→Nat→Option Nat
 | [],n=>some n
 | b::r,n=>if b.toNat<48∨57<b.toNat then none else if (most-(b.toNat-48)) / 10<n then none else dD most r (10*n+(b.toNat-48))
def aL (w:List UInt8) (most:Nat):Nat×Bool:=if w=[]∨(w.head?=some 48∧w≠[48]) then (0,false) else (match dD most w 0 with | some n=>(n,true) | none=>(0,false))
theorem ky {w:List UInt8} {most:Nat} (h:w=[]∨(w.head?=some 48∧w≠[48])):aL w most=(0,false):=by unfold aL;rw [if_pos h]
theorem k7 {w:List UInt8} {most n:Nat} (h:¬ (w=[]∨(w.head?=some 48∧w≠[48]))) (e:dD most w 0=some n):aL w most=(n,true):=by unfold aL;rw [if_neg h,e]
theorem gb {w:List UInt8} {most:Nat} (h:¬ (w=[]∨(w.head?=some 48∧w≠[48]))) (e:dD most w 0=none):aL w most=(0,false):=by unfold aL;rw [if_neg h,e]
theorem mr {w:List UInt8} (h:(w==([48]:List UInt8))=false):w≠[48]:=by intro e;subst e;simp at h
theorem MH {w:List UInt8} (hw:w≠[]) (h:(w==([48]:List UInt8))=true):¬ (w=[]∨(w.head?=some 48∧w≠[48])):=by
 rintro (h1 | ⟨_,h1⟩)
 ·exact hw h1
 ·exact h1 (by simpa using h)
theorem MI {w:List UInt8} {e:UInt8} (hw:w≠[]) (g:w[0]?=some e) (h:¬ ((e.toNat:Nat):Int)=48):¬ (w=[]∨(w.head?=some 48∧w≠[48])):=by
 rintro (h1 | ⟨h1,_⟩)
 ·exact hw h1
 ·rw [List.head?_eq_getElem?,g] at h1;cases h1;exact h rfl
theorem dy {most n i:Nat} {w:List UInt8} {b:UInt8} (h:w[i]?=some b):dD most (w.drop i) n=if b.toNat<48∨57<b.toNat then none else if (most-(b.toNat-48)) / 10<n then none else dD most (w.drop (i+1)) (10*n+(b.toNat-48)):=by
 obtain ⟨aO,rfl⟩:=List.getElem?_eq_some_iff.1 h
 rw [List.drop_eq_getElem_cons aO];rfl
theorem wJ {most:Nat}:∀ {w:List UInt8} {n k:Nat},n≤most→9≤most→dD most w n=some k→k≤most
 | [],n,k,h,_,e=>by simp [dD] at e;omega
 | b::r,n,k,h,h9,e=>by
  unfold dD at e
  split at e
  ·cases e
  ·split at e
   ·cases e
   ·exact wJ (by omega) h9 e
theorem jh {p:Nat×Bool} {a:Nat} {b:Bool} (h:p=(a,b)):(DV.tu [.u p.1,.v (.bool p.2)]:DV)=.tu [.u a,.v (.bool b)]:=by rw [h]
theorem da {p:Nat×Bool} {b:Bool} (h:p=(0,b)):(DV.tu [.u p.1,.v (.bool p.2)]:DV)=.tu [.v (.int .u64 0),.v (.bool b)]:=by rw [h];rfl
theorem gF {w:List UInt8} {e:UInt8} (h:w[0]?=some e):w.head?=some e:=by rw [List.head?_eq_getElem?];exact h
theorem mL {e:UInt8} (h:((e.toNat:Nat):Int)=48):e=48:=by apply UInt8.toNat_inj.1;simp;omega
set_option maxRecDepth 100000 in
theorem Kh (w:List UInt8) (most:Nat) (e0:UInt8) (g0:w[0]?=some e0) (hw:w≠[]) (hl:w.length≤9223372036854775807) (h9:9≤most) (hm:most<18446744073709551616):ay Tryz.prog 82 [.d (.v (.string ⟨w.toArray⟩)),.u most] (.tu [.u (aL w most).1,.v (.bool (aL w most).2)]):=by
 refine ay.intro (by kernel_rfl) rfl rfl 52 rfl rfl fun w0 K ac hK r=>?_
 cases h0:(w==([]:List UInt8)) with
 | false=>
  have aI:=(⟨_,g0,rfl⟩:∃ u:UInt8,(w:List UInt8)[0]?=some u∧(.v (.int .u8 (((e0.toNat:Nat):Int))):DV)=.v (.int .u8 (u.toNat:Int)))
  cases h1:((((e0.toNat:Nat):Int):Int)==48) with
  | false=>
   have bR:=ne_of_beq_false h1
   have hR:=MI hw g0 (by assumption)
   refine bX (todo':=hd Tryz.f82 0) (E':=[(0,.d (.v (.string ⟨w.toArray⟩))),(1,.u most),(6,.u 0),(21,.n w.length),(22,.n 0)]) (M':=[]) tk mo hK [(1,[(1,.b false),(4,.ix (0) [.v (.int .u8 (((e0.toNat:Nat):Int)))]),(5,.b false)])] 2000 [] [0,1,6,21,22] r (by kernel_rfl) (U h0 (U (rfl:(0:Int)=((0:Nat):Int)) (U aI (U h1 trivial)))) fun ac wd r=>?_
   refine aF.rounds (Φ:=fun (i:Nat) ac wd=>∃ n:Nat,(dD most (w.drop i) n=dD most w 0∧n≤most)∧dn [] w0 K 52 [(0,.d (.v (.string ⟨w.toArray⟩))),(1,.u most),(6,.u n),(21,.n w.length),(22,.n i)] [] ac wd) (w.length) ?_ (Nat.zero_le _) ⟨0,⟨rfl,Nat.zero_le _⟩,r⟩
   clear r
   rintro i dw bj ac wd ⟨n,ao,r⟩
   have zH:=ao.2
   cases h2:(decide ((((i:Nat):Int):Int)<((w.length:Nat):Int))) with
   | false=>
    have cz:=of_decide_eq_false h2
    rw [show (.tu [.u (aL w most).1,.v (.bool (aL w most).2)]:DV)=.tu [.u n,.v (.bool true)] from (by first | exact da (ky (Or.inr ⟨(gF g0).trans (congrArg some (mL (by assumption))),mr (by assumption)⟩)) | exact da (gb hR (ao.1.symm.trans ((dy fq).trans (if_pos (by omega))))) | exact da (gb hR (ao.1.symm.trans ((dy fq).trans ((if_neg (by omega)).trans (if_pos (by omega)))))) | exact jh (k7 hR (ao.1.symm.trans (by rw [List.drop_of_length_le (by omega)];rfl))))]
    exact aV tk mo hK rfl [(5,[(0,.b false)])] 2000 r (by kernel_rfl) (U h2 trivial)
   | true=>
    have cz:=of_decide_eq_true h2
    obtain ⟨bM,fq⟩:∃ x_,w[i]?=some x_:=⟨_,List.getElem?_eq_getElem (by omega)⟩
    have mD:=bM.toNat_lt
    have bd:=(⟨_,fq,rfl⟩:∃ u:UInt8,(w:List UInt8)[i]?=some u∧(.v (.int .u8 (((bM.toNat:Nat):Int))):DV)=.v (.int .u8 (u.toNat:Int)))
    cases h3:(decide ((((bM.toNat:Nat):Int):Int)<48)) with
    | false=>
     have cT:=of_decide_eq_false h3
     cases h4:(decide ((57:Int)<((bM.toNat:Nat):Int))) with
     | false=>
      have dT:=of_decide_eq_false h4
      have b6:=((by rw [w8 (by omega)];omega):IntKind.u8.wrap ((((bM.toNat:Nat):Int):Int)-48)=((bM.toNat-48:Nat):Int))
      have cO:=((wu (by omega)):IntKind.u64.wrap (((bM.toNat-48:Nat):Int))=((bM.toNat-48:Nat):Int))
      have cg:=((wu (by omega)):IntKind.u64.wrap ((((most:Nat):Int):Int)-((bM.toNat-48:Nat):Int))=((most-(bM.toNat-48):Nat):Int))
      have ek:=((tB (by omega)):IntKind.u64.wrap ((((most-(bM.toNat-48):Nat):Int):Int).tdiv 10)=(((most-(bM.toNat-48)) / 10:Nat):Int))
      cases h5:(decide (((((most-(bM.toNat-48)) / 10:Nat):Int):Int)<((n:Nat):Int))) with
      | false=>
       have du:=of_decide_eq_false h5
       exact bX (todo':=hd Tryz.f82 0) tk mo hK [(5,[(0,.b true)]),(7,[(2,.ix (i) [.v (.int .u8 (((bM.toNat:Nat):Int)))]),(3,.b false),(7,.ix (i) [.v (.int .u8 (((bM.toNat:Nat):Int)))]),(8,.b false)]),(9,[(2,.ix (i) [.v (.int .u8 (((bM.toNat:Nat):Int)))]),(3,.z (((bM.toNat-48:Nat):Int))),(4,.z (((bM.toNat-48:Nat):Int)))]),(10,[(3,.z (((most-(bM.toNat-48):Nat):Int))),(4,.z ((((most-(bM.toNat-48)) / 10:Nat):Int))),(5,.b false)]),(12,[(1,.z (((10*n:Nat):Int))),(3,.z (((10*n+(bM.toNat-48):Nat):Int)))]),(13,[(0,.z (((i+1:Nat):Int)))])] 2000 [] [0,1,6,21,22] r (by kernel_rfl) (U h2 (U (ax ((i:Nat):Int)) (U bd (U h3 (U (ax ((i:Nat):Int)) (U bd (U h4 (U (ax ((i:Nat):Int)) (U bd (U b6 (U cO (U cg (U ek (U ((by decide):(10:Int)≠0) (U h5 (U ((wu (by omega)):IntKind.u64.wrap ((10:Int)*((n:Nat):Int))=((10*n:Nat):Int)) (U ((wu (by omega)):IntKind.u64.wrap ((((10*n:Nat):Int):Int)+((bM.toNat-48:Nat):Int))=((10*n+(bM.toNat-48):Nat):Int)) (U ((wi (by omega)):IntKind.i64.wrap ((((i:Nat):Int):Int)+1)=((i+1:Nat):Int)) trivial)))))))))))))))))) fun ac wd r=>bj (by omega) ac wd ⟨(10*n+(bM.toNat-48)),⟨by rw [← ao.1,dy fq,if_neg (by omega),if_neg (by omega)],by omega⟩,r⟩
      | true=>
       have du:=of_decide_eq_true h5
       rw [show (.tu [.u (aL w most).1,.v (.bool (aL w most).2)]:DV)=.tu [.v (.int .u64 0),.v (.bool false)] from (by first | exact da (ky (Or.inr ⟨(gF g0).trans (congrArg some (mL (by assumption))),mr (by assumption)⟩)) | exact da (gb hR (ao.1.symm.trans ((dy fq).trans (if_pos (by omega))))) | exact da (gb hR (ao.1.symm.trans ((dy fq).trans ((if_neg (by omega)).trans (if_pos (by omega)))))) | exact jh (k7 hR (ao.1.symm.trans (by rw [List.drop_of_length_le (by omega)];rfl))))]
       exact aV tk mo hK rfl [(5,[(0,.b true)]),(7,[(2,.ix (i) [.v (.int .u8 (((bM.toNat:Nat):Int)))]),(3,.b false),(7,.ix (i) [.v (.int .u8 (((bM.toNat:Nat):Int)))]),(8,.b false)]),(9,[(2,.ix (i) [.v (.int .u8 (((bM.toNat:Nat):Int)))]),(3,.z (((bM.toNat-48:Nat):Int))),(4,.z (((bM.toNat-48:Nat):Int)))]),(10,[(3,.z (((most-(bM.toNat-48):Nat):Int))),(4,.z ((((most-(bM.toNat-48)) / 10:Nat):Int))),(5,.b true)])] 2000 r (by kernel_rfl) (U h2 (U (ax ((i:Nat):Int)) (U bd (U h3 (U (ax ((i:Nat):Int)) (U bd (U h4 (U (ax ((i:Nat):Int)) (U bd (U b6 (U cO (U cg (U ek (U ((by decide):(10:Int)≠0) (U h5 trivial)))))))))))))))
     | true=>
      have dT:=of_decide_eq_true h4
      rw [show (.tu [.u (aL w most).1,.v (.bool (aL w most).2)]:DV)=.tu [.v (.int .u64 0),.v (.bool false)] from (by first | exact da (ky (Or.inr ⟨(gF g0).trans (congrArg some (mL (by assumption))),mr (by assumption)⟩)) | exact da (gb hR (ao.1.symm.trans ((dy fq).trans (if_pos (by omega))))) | exact da (gb hR (ao.1.symm.trans ((dy fq).trans ((if_neg (by omega)).trans (if_pos (by omega)))))) | exact jh (k7 hR (ao.1.symm.trans (by rw [List.drop_of_length_le (by omega)];rfl))))]
      exact aV tk mo hK rfl [(5,[(0,.b true)]),(7,[(2,.ix (i) [.v (.int .u8 (((bM.toNat:Nat):Int)))]),(3,.b false),(7,.ix (i) [.v (.int .u8 (((bM.toNat:Nat):Int)))]),(8,.b true)])] 2000 r (by kernel_rfl) (U h2 (U (ax ((i:Nat):Int)) (U bd (U h3 (U (ax ((i:Nat):Int)) (U bd (U h4 trivial)))))))
    | true=>
     have cT:=of_decide_eq_true h3
     rw [show (.tu [.u (aL w most).1,.v (.bool (aL w most).2)]:DV)=.tu [.v (.int .u64 0),.v (.bool false)] from (by first | exact da (ky (Or.inr ⟨(gF g0).trans (congrArg some (mL (by assumption))),mr (by assumption)⟩)) | exact da (gb hR (ao.1.symm.trans ((dy fq).trans (if_pos (by omega))))) | exact da (gb hR (ao.1.symm.trans ((dy fq).trans ((if_neg (by omega)).trans (if_pos (by omega)))))) | exact jh (k7 hR (ao.1.symm.trans (by rw [List.drop_of_length_le (by omega)];rfl))))]
     exact aV tk mo hK rfl [(5,[(0,.b true)]),(7,[(2,.ix (i) [.v (.int .u8 (((bM.toNat:Nat):Int)))]),(3,.b true)])] 2000 r (by kernel_rfl) (U h2 (U (ax ((i:Nat):Int)) (U bd (U h3 trivial))))
  | true=>
   have bR:=eq_of_beq h1
   cases h6:(w==([48]:List UInt8)) with
   | false=>
    rw [show (.tu [.u (aL w most).1,.v (.bool (aL w most).2)]:DV)=.tu [.v (.int .u64 0),.v (.bool false)] from (by first | exact da (ky (Or.inr ⟨(gF g0).trans (congrArg some (mL (by assumption))),mr (by assumption)⟩)) | exact da (gb hR (ao.1.symm.trans ((dy fq).trans (if_pos (by omega))))) | exact da (gb hR (ao.1.symm.trans ((dy fq).trans ((if_neg (by omega)).trans (if_pos (by omega)))))) | exact jh (k7 hR (ao.1.symm.trans (by rw [List.drop_of_length_le (by omega)];rfl))))]
    exact aV tk mo hK rfl [(1,[(1,.b false),(4,.ix (0) [.v (.int .u8 (((e0.toNat:Nat):Int)))]),(5,.b true),(8,.b true)])] 2000 r (by kernel_rfl) (U h0 (U (rfl:(0:Int)=((0:Nat):Int)) (U aI (U h1 (U ((by simpa [bne] using h6):(w != ([48]:List UInt8))=true) trivial)))))
   | true=>
    have hR:=MH hw (by assumption)
    refine bX (todo':=hd Tryz.f82 0) (E':=[(0,.d (.v (.string ⟨w.toArray⟩))),(1,.u most),(6,.u 0),(21,.n w.length),(22,.n 0)]) (M':=[]) tk mo hK [(1,[(1,.b false),(4,.ix (0) [.v (.int .u8 (((e0.toNat:Nat):Int)))]),(5,.b true),(8,.b false)])] 2000 [] [0,1,6,21,22] r (by kernel_rfl) (U h0 (U (rfl:(0:Int)=((0:Nat):Int)) (U aI (U h1 (U ((by simpa [bne] using h6):(w != ([48]:List UInt8))=false) trivial))))) fun ac wd r=>?_
    refine aF.rounds (Φ:=fun (i:Nat) ac wd=>∃ n:Nat,(dD most (w.drop i) n=dD most w 0∧n≤most)∧dn [] w0 K 52 [(0,.d (.v (.string ⟨w.toArray⟩))),(1,.u most),(6,.u n),(21,.n w.length),(22,.n i)] [] ac wd) (w.length) ?_ (Nat.zero_le _) ⟨0,⟨rfl,Nat.zero_le _⟩,r⟩
    clear r
    rintro i dw bj ac wd ⟨n,ao,r⟩
    have zH:=ao.2
    cases h7:(decide ((((i:Nat):Int):Int)<((w.length:Nat):Int))) with
    | false=>
     have dL:=of_decide_eq_false h7
     rw [show (.tu [.u (aL w most).1,.v (.bool (aL w most).2)]:DV)=.tu [.u n,.v (.bool true)] from (by first | exact da (ky (Or.inr ⟨(gF g0).trans (congrArg some (mL (by assumption))),mr (by assumption)⟩)) | exact da (gb hR (ao.1.symm.trans ((dy fq).trans (if_pos (by omega))))) | exact da (gb hR (ao.1.symm.trans ((dy fq).trans ((if_neg (by omega)).trans (if_pos (by omega)))))) | exact jh (k7 hR (ao.1.symm.trans (by rw [List.drop_of_length_le (by omega)];rfl))))]
     exact aV tk mo hK rfl [(5,[(0,.b false)])] 2000 r (by kernel_rfl) (U h7 trivial)
    | true=>
     have dL:=of_decide_eq_true h7
     obtain ⟨bM,fq⟩:∃ x_,w[i]?=some x_:=⟨_,List.getElem?_eq_getElem (by omega)⟩
     have mD:=bM.toNat_lt
     have df:=(⟨_,fq,rfl⟩:∃ u:UInt8,(w:List UInt8)[i]?=some u∧(.v (.int .u8 (((bM.toNat:Nat):Int))):DV)=.v (.int .u8 (u.toNat:Int)))
     cases h8:(decide ((((bM.toNat:Nat):Int):Int)<48)) with
     | false=>
      have fg:=of_decide_eq_false h8
      cases h9:(decide ((57:Int)<((bM.toNat:Nat):Int))) with
      | false=>
       have lL:=of_decide_eq_false h9
       have en:=((by rw [w8 (by omega)];omega):IntKind.u8.wrap ((((bM.toNat:Nat):Int):Int)-48)=((bM.toNat-48:Nat):Int))
       have gu:=((wu (by omega)):IntKind.u64.wrap (((bM.toNat-48:Nat):Int))=((bM.toNat-48:Nat):Int))
       have jC:=((wu (by omega)):IntKind.u64.wrap ((((most:Nat):Int):Int)-((bM.toNat-48:Nat):Int))=((most-(bM.toNat-48):Nat):Int))
       have nC:=((tB (by omega)):IntKind.u64.wrap ((((most-(bM.toNat-48):Nat):Int):Int).tdiv 10)=(((most-(bM.toNat-48)) / 10:Nat):Int))
       cases cW:(decide (((((most-(bM.toNat-48)) / 10:Nat):Int):Int)<((n:Nat):Int))) with
       | false=>
        have kO:=of_decide_eq_false cW
        exact bX (todo':=hd Tryz.f82 0) tk mo hK [(5,[(0,.b true)]),(7,[(2,.ix (i) [.v (.int .u8 (((bM.toNat:Nat):Int)))]),(3,.b false),(7,.ix (i) [.v (.int .u8 (((bM.toNat:Nat):Int)))]),(8,.b false)]),(9,[(2,.ix (i) [.v (.int .u8 (((bM.toNat:Nat):Int)))]),(3,.z (((bM.toNat-48:Nat):Int))),(4,.z (((bM.toNat-48:Nat):Int)))]),(10,[(3,.z (((most-(bM.toNat-48):Nat):Int))),(4,.z ((((most-(bM.toNat-48)) / 10:Nat):Int))),(5,.b false)]),(12,[(1,.z (((10*n:Nat):Int))),(3,.z (((10*n+(bM.toNat-48):Nat):Int)))]),(13,[(0,.z (((i+1:Nat):Int)))])] 2000 [] [0,1,6,21,22] r (by kernel_rfl) (U h7 (U (ax ((i:Nat):Int)) (U df (U h8 (U (ax ((i:Nat):Int)) (U df (U h9 (U (ax ((i:Nat):Int)) (U df (U en (U gu (U jC (U nC (U ((by decide):(10:Int)≠0) (U cW (U ((wu (by omega)):IntKind.u64.wrap ((10:Int)*((n:Nat):Int))=((10*n:Nat):Int)) (U ((wu (by omega)):IntKind.u64.wrap ((((10*n:Nat):Int):Int)+((bM.toNat-48:Nat):Int))=((10*n+(bM.toNat-48):Nat):Int)) (U ((wi (by omega)):IntKind.i64.wrap ((((i:Nat):Int):Int)+1)=((i+1:Nat):Int)) trivial)))))))))))))))))) fun ac wd r=>bj (by omega) ac wd ⟨(10*n+(bM.toNat-48)),⟨by rw [← ao.1,dy fq,if_neg (by omega),if_neg (by omega)],by omega⟩,r⟩
       | true=>
        have kO:=of_decide_eq_true cW
        rw [show (.tu [.u (aL w most).1,.v (.bool (aL w most).2)]:DV)=.tu [.v (.int .u64 0),.v (.bool false)] from (by first | exact da (ky (Or.inr ⟨(gF g0).trans (congrArg some (mL (by assumption))),mr (by assumption)⟩)) | exact da (gb hR (ao.1.symm.trans ((dy fq).trans (if_pos (by omega))))) | exact da (gb hR (ao.1.symm.trans ((dy fq).trans ((if_neg (by omega)).trans (if_pos (by omega)))))) | exact jh (k7 hR (ao.1.symm.trans (by rw [List.drop_of_length_le (by omega)];rfl))))]
        exact aV tk mo hK rfl [(5,[(0,.b true)]),(7,[(2,.ix (i) [.v (.int .u8 (((bM.toNat:Nat):Int)))]),(3,.b false),(7,.ix (i) [.v (.int .u8 (((bM.toNat:Nat):Int)))]),(8,.b false)]),(9,[(2,.ix (i) [.v (.int .u8 (((bM.toNat:Nat):Int)))]),(3,.z (((bM.toNat-48:Nat):Int))),(4,.z (((bM.toNat-48:Nat):Int)))]),(10,[(3,.z (((most-(bM.toNat-48):Nat):Int))),(4,.z ((((most-(bM.toNat-48)) / 10:Nat):Int))),(5,.b true)])] 2000 r (by kernel_rfl) (U h7 (U (ax ((i:Nat):Int)) (U df (U h8 (U (ax ((i:Nat):Int)) (U df (U h9 (U (ax ((i:Nat):Int)) (U df (U en (U gu (U jC (U nC (U ((by decide):(10:Int)≠0) (U cW trivial)))))))))))))))
      | true=>
       have lL:=of_decide_eq_true h9
       rw [show (.tu [.u (aL w most).1,.v (.bool (aL w most).2)]:DV)=.tu [.v (.int .u64 0),.v (.bool false)] from (by first | exact da (ky (Or.inr ⟨(gF g0).trans (congrArg some (mL (by assumption))),mr (by assumption)⟩)) | exact da (gb hR (ao.1.symm.trans ((dy fq).trans (if_pos (by omega))))) | exact da (gb hR (ao.1.symm.trans ((dy fq).trans ((if_neg (by omega)).trans (if_pos (by omega)))))) | exact jh (k7 hR (ao.1.symm.trans (by rw [List.drop_of_length_le (by omega)];rfl))))]
       exact aV tk mo hK rfl [(5,[(0,.b true)]),(7,[(2,.ix (i) [.v (.int .u8 (((bM.toNat:Nat):Int)))]),(3,.b false),(7,.ix (i) [.v (.int .u8 (((bM.toNat:Nat):Int)))]),(8,.b true)])] 2000 r (by kernel_rfl) (U h7 (U (ax ((i:Nat):Int)) (U df (U h8 (U (ax ((i:Nat):Int)) (U df (U h9 trivial)))))))
     | true=>
      have fg:=of_decide_eq_true h8
      rw [show (.tu [.u (aL w most).1,.v (.bool (aL w most).2)]:DV)=.tu [.v (.int .u64 0),.v (.bool false)] from (by first | exact da (ky (Or.inr ⟨(gF g0).trans (congrArg some (mL (by assumption))),mr (by assumption)⟩)) | exact da (gb hR (ao.1.symm.trans ((dy fq).trans (if_pos (by omega))))) | exact da (gb hR (ao.1.symm.trans ((dy fq).trans ((if_neg (by omega)).trans (if_pos (by omega)))))) | exact jh (k7 hR (ao.1.symm.trans (by rw [List.drop_of_length_le (by omega)];rfl))))]
      exact aV tk mo hK rfl [(5,[(0,.b true)]),(7,[(2,.ix (i) [.v (.int .u8 (((bM.toNat:Nat):Int)))]),(3,.b true)])] 2000 r (by kernel_rfl) (U h7 (U (ax ((i:Nat):Int)) (U df (U h8 trivial))))
 | true=>
  exact absurd (eq_of_beq h0) hw
set_option maxRecDepth 100000 in
theorem Lq (most:Nat):ay Tryz.prog 82 [.d (.v (.string ⟨([]).toArray⟩)),.u most] (.tu [.v (.int .u64 0),.v (.bool false)]):=by
 refine ay.intro (by kernel_rfl) rfl rfl 52 rfl rfl fun w0 K ac hK r=>?_
 rw [show (.tu [.v (.int .u64 0),.v (.bool false)]:DV)=.tu [.v (.int .u64 0),.v (.bool false)] from rfl]
 exact aV tk mo hK rfl [(1,[(1,.b true)])] 2000 r (by kernel_rfl) (U ((by first | decide | simp):(([]:List UInt8)==[])=true) trivial)
theorem s8 (w:List UInt8) (most:Nat) (hl:w.length≤9223372036854775807) (h9:9≤most) (hm:most<18446744073709551616):ay Tryz.prog 82 [.d (.v (.string ⟨w.toArray⟩)),.u most] (.tu [.u (aL w most).1,.v (.bool (aL w most).2)]):=by
 cases w with
 | nil=>exact Lq most
 | cons b r=>exact Kh (b::r) most b rfl (by simp) hl h9 hm
end Go.Proofs.YtcnpikbbmbombaaGreatDoor
