/-
  scriptDecodes_card, part 4 of 6: merged by program from the texts that it needs.
-/
import Derived.Test.YtcnpikbbmbombaaGreatDoorSdC
set_option linter.unusedSimpArgs false
set_option linter.unusedVariables false
set_option linter.unnecessarySimpa false
namespace Go.Proofs.YtcnpikbbmbombaaGreatDoor
open Go.RowKit
theorem qv:dm Tryz.prog 51:=by unfold dm;kernel_rfl
def bz (z:Int):UInt8:=UInt8.ofNat (z%256).toNat
theorem BH (z:Int):(((bz z).toNat:Nat):Int)=z%256:=by
 unfold bz;rw [UInt8.toNat_ofNat'];omega
theorem ir (z:Int):IntKind.u8.wrap z=(((bz z).toNat:Nat):Int):=by
 rw [BH];simp [IntKind.wrap,IntKind.signed,IntKind.bits]
theorem Hg (b:UInt8):bz ((b.toNat:Nat):Int)=b:=by
 apply UInt8.toNat_inj.1
 have h:=BH ((b.toNat:Nat):Int)
 have:=b.toNat_lt
 omega
theorem yj (x:Nat):((x:Nat):Int).fdiv (2 ^ (min (8:Int).toNat IntKind.u64.bits))=((x / 256:Nat):Int):=by
 show ((x:Nat):Int).fdiv 256=_
 rw [Int.fdiv_eq_ediv_of_nonneg _ (by omega)];omega
theorem MR (x:Nat):((x:Nat):Int).fdiv (2 ^ (min (7:Int).toNat IntKind.u64.bits))=((x / 128:Nat):Int):=by
 show ((x:Nat):Int).fdiv 128=_
 rw [Int.fdiv_eq_ediv_of_nonneg _ (by omega)];omega
theorem JT {x:Nat} (h:x<18446744073709551616):IntKind.u64.wrap ((BitVec.ofInt IntKind.u64.bits (x:Int) &&& BitVec.ofInt IntKind.u64.bits 127).toNat:Int)=((x%128:Nat):Int):=by
 have h1:(BitVec.ofInt 64 (x:Int) &&& BitVec.ofInt 64 127).toNat=x%128:=by
  rw [BitVec.toNat_and]
  have e1:(BitVec.ofInt 64 (x:Int)).toNat=x:=by simp [BitVec.toNat_ofInt];omega
  have e2:(BitVec.ofInt 64 127).toNat=2 ^ 7-1:=by decide
  rw [e1,e2,Nat.and_two_pow_sub_one_eq_mod]
 show IntKind.u64.wrap ((BitVec.ofInt 64 (x:Int) &&& BitVec.ofInt 64 127).toNat:Int)=_
 rw [h1]
 simp [IntKind.wrap,IntKind.signed,IntKind.bits];omega
theorem Lg {x:Nat} (h:x<128):IntKind.u64.wrap ((BitVec.ofInt IntKind.u64.bits (x:Int) ||| BitVec.ofInt IntKind.u64.bits 128).toNat:Int)=((x+128:Nat):Int):=by
 have h1:(BitVec.ofInt 64 (x:Int) ||| BitVec.ofInt 64 128).toNat=x+128:=by
  rw [BitVec.toNat_or]
  have e1:(BitVec.ofInt 64 (x:Int)).toNat=x:=by simp [BitVec.toNat_ofInt];omega
  have e2:(BitVec.ofInt 64 128).toNat=2 ^ 7*1:=by decide
  rw [e1,e2,Nat.or_comm,← Nat.two_pow_add_eq_or_of_lt (i:=7) (by omega)];omega
 show IntKind.u64.wrap ((BitVec.ofInt 64 (x:Int) ||| BitVec.ofInt 64 128).toNat:Int)=_
 rw [h1]
 simp [IntKind.wrap,IntKind.signed,IntKind.bits];omega
def je (l:List UInt8):List ai:=[.rw 91 1 [[.em 5 1 (ae l)]]]
theorem CS {l l':List UInt8} {rows:List (List DV)} (h:rows=ae l'):([ai.rw 91 1 (List.set (List.set [[.em 5 1 (ae l)]] 0 [.jk]) 0 [.em 5 1 rows])]:List ai)=je l':=by subst h;rfl
theorem Lh {l l':List UInt8} {r0 rows:List (List DV)} (h:rows=ae l'):([ai.rw 91 1 (List.set (List.set (List.set (List.set [[.em 5 1 (ae l)]] 0 [.jk]) 0 [.em 5 1 r0]) 0 [.jk]) 0 [.em 5 1 rows])]:List ai)=je l':=by subst h;rfl
def eE (x:Nat):List UInt8:=if h:x<128 then [bz x] else bz ((x%128+128:Nat):Int)::eE (x / 128)
termination_by x
theorem uI {x:Nat} (h:x<128):eE x=[bz x]:=by rw [eE,dif_pos h]
theorem z7 {x:Nat} (h:¬ x<128):eE x=bz ((x%128+128:Nat):Int)::eE (x / 128):=by rw [eE,dif_neg h]
theorem JU {x i:Nat} (hx:x<18446744073709551616) (h:128≤x / 128 ^ i):i+1≤9:=by
 rcases Nat.lt_or_ge i 9 with h1 | h1
 ·omega
 ·have h2:128 ^ 9≤128 ^ i:=Nat.pow_le_pow_right (by omega) h1
  have h3:x / 128 ^ i≤x / 128 ^ 9:=Nat.div_le_div_left h2 (by decide)
  have:x / 128 ^ 9<128:=by rw [Nat.div_lt_iff_lt_mul (by decide)];omega
  omega
theorem AA (x i:Nat):x / 128 ^ i / 128=x / 128 ^ (i+1):=by rw [Nat.div_div_eq_div_mul,Nat.pow_succ]
set_option maxRecDepth 100000 in
theorem xA (l:List UInt8) (x:Nat) (hl:l.length≤4294967296):aq Tryz.prog 88 [.ep 0 1 (0) 0,.u x,.z 1] [.rw 91 1 ([[.em 5 1 (ae l)]])] (.tu []) (je (l++[bz ((x:Nat):Int)])):=by
 refine aq.intro (by kernel_rfl) rfl rfl 25 rfl rfl fun D w0 K bs ac wd hK (ak:bs.m=1) r=>?_
 refine bT (todo':=hd Tryz.f88 0) (E':=[(0,.ep 0 1 (0) 0),(1,.u x),(8,.z 1),(9,.z 0)]) (M':=[.rw 91 1 ([[.em 5 1 (ae l)]])]) mo tq hK ak [] 2000 [0] [0,1,8,9] r (by kernel_rfl) (U (qv:dm Tryz.prog 51) trivial) fun ac wd r=>?_
 refine bT (todo':=hd Tryz.f88 0) (E':=[(0,.ep 0 1 (0) 0),(1,.u (x / 256)),(8,.z 1),(9,.z 1)]) (M':=[.rw 91 1 (List.set (List.set ([[.em 5 1 (ae l)]]) (0) [.jk]) (0) [.em 5 1 (ae l++[[.v (.int .u8 ((((bz (((x:Nat):Int))).toNat:Nat):Int)))]])]),.dead,.dead]) mo tq hK ak [(3,[(4,.ix 0 [.em 5 1 (ae l)]),(6,.z ((((bz (((x:Nat):Int))).toNat:Nat):Int))),(11,.ix 0 [.jk])]),(4,[(1,.z (((x / 256:Nat):Int)))]),(5,[(0,.z (1))])] 2000 [0,1,2] [0,1,8,9] r (by kernel_rfl) (U (rfl:([[.em 5 1 (ae l)]]:List (List DV))[0]?=some [.em 5 1 (ae l)]) (U ((ir _):IntKind.u8.wrap (((x:Nat):Int))=(((bz (((x:Nat):Int))).toNat:Nat):Int)) (U (cR ((ae l).length)) (U ((by first | rfl | (simp [ae];done) | (simp [ae];omega)):(1)=([[.v (.int .u8 ((((bz (((x:Nat):Int))).toNat:Nat):Int)))]]:List (List DV)).length) (U ((by first | omega | (simp [ae];done) | (simp [ae];omega)):(2*(((ae l).length)+(1))+192)*1≤281474976710656) (U ((by first | omega | (simp [ae];done) | (simp [ae];omega)):((ae l).length)+(1)<4611686018427387904) (U ((by simp [bd,AV.one,bW,ae,ah,ints,steps,strs]):bd ([[.v (.int .u8 ((((bz (((x:Nat):Int))).toNat:Nat):Int)))]])) (U (rfl:(List.set ([[.em 5 1 (ae l)]]) (0) [.jk]:List (List DV))[0]?=some [.jk]) (U ((by first | rfl | (simp [ae];done) | (simp [ae];omega)):((ae l).length+(1))=(ae l++[[.v (.int .u8 ((((bz (((x:Nat):Int))).toNat:Nat):Int)))]]:List (List DV)).length) (U ((yj _):(((x:Nat):Int):Int).fdiv (2 ^ (min (8:Int).toNat IntKind.u64.bits))=((x / 256:Nat):Int)) (U ((by first | decide | omega):(0:Int)≤8) (U ((wi (by omega)):IntKind.i64.wrap ((0:Int)+1)=1) trivial)))))))))))) fun ac wd r=>?_
 refine aQ (y:=.tu []) (N':=[.rw 91 1 (List.set (List.set ([[.em 5 1 (ae l)]]) (0) [.jk]) (0) [.em 5 1 (ae l++[[.v (.int .u8 ((((bz (((x:Nat):Int))).toNat:Nat):Int)))]])])]) (rfl) ((CS (by simp [ae])).symm) ?_
 exact aP mo tq hK rfl ak [] 2000 [0] r (by kernel_rfl) trivial
set_option maxRecDepth 100000 in
theorem Li (l:List UInt8) (x:Nat) (hl:l.length≤4294967296):aq Tryz.prog 88 [.ep 0 1 (0) 0,.u x,.z 2] [.rw 91 1 ([[.em 5 1 (ae l)]])] (.tu []) (je (l++[bz ((x:Nat):Int),bz ((x / 256:Nat):Int)])):=by
 refine aq.intro (by kernel_rfl) rfl rfl 25 rfl rfl fun D w0 K bs ac wd hK (ak:bs.m=1) r=>?_
 refine bT (todo':=hd Tryz.f88 0) (E':=[(0,.ep 0 1 (0) 0),(1,.u x),(8,.z 2),(9,.z 0)]) (M':=[.rw 91 1 ([[.em 5 1 (ae l)]])]) mo tq hK ak [] 2000 [0] [0,1,8,9] r (by kernel_rfl) (U (qv:dm Tryz.prog 51) trivial) fun ac wd r=>?_
 refine bT (todo':=hd Tryz.f88 0) (E':=[(0,.ep 0 1 (0) 0),(1,.u (x / 256)),(8,.z 2),(9,.z 1)]) (M':=[.rw 91 1 (List.set (List.set ([[.em 5 1 (ae l)]]) (0) [.jk]) (0) [.em 5 1 (ae l++[[.v (.int .u8 ((((bz (((x:Nat):Int))).toNat:Nat):Int)))]])]),.dead,.dead]) mo tq hK ak [(3,[(4,.ix 0 [.em 5 1 (ae l)]),(6,.z ((((bz (((x:Nat):Int))).toNat:Nat):Int))),(11,.ix 0 [.jk])]),(4,[(1,.z (((x / 256:Nat):Int)))]),(5,[(0,.z (1))])] 2000 [0,1,2] [0,1,8,9] r (by kernel_rfl) (U (rfl:([[.em 5 1 (ae l)]]:List (List DV))[0]?=some [.em 5 1 (ae l)]) (U ((ir _):IntKind.u8.wrap (((x:Nat):Int))=(((bz (((x:Nat):Int))).toNat:Nat):Int)) (U (cR ((ae l).length)) (U ((by first | rfl | (simp [ae];done) | (simp [ae];omega)):(1)=([[.v (.int .u8 ((((bz (((x:Nat):Int))).toNat:Nat):Int)))]]:List (List DV)).length) (U ((by first | omega | (simp [ae];done) | (simp [ae];omega)):(2*(((ae l).length)+(1))+192)*1≤281474976710656) (U ((by first | omega | (simp [ae];done) | (simp [ae];omega)):((ae l).length)+(1)<4611686018427387904) (U ((by simp [bd,AV.one,bW,ae,ah,ints,steps,strs]):bd ([[.v (.int .u8 ((((bz (((x:Nat):Int))).toNat:Nat):Int)))]])) (U (rfl:(List.set ([[.em 5 1 (ae l)]]) (0) [.jk]:List (List DV))[0]?=some [.jk]) (U ((by first | rfl | (simp [ae];done) | (simp [ae];omega)):((ae l).length+(1))=(ae l++[[.v (.int .u8 ((((bz (((x:Nat):Int))).toNat:Nat):Int)))]]:List (List DV)).length) (U ((yj _):(((x:Nat):Int):Int).fdiv (2 ^ (min (8:Int).toNat IntKind.u64.bits))=((x / 256:Nat):Int)) (U ((by first | decide | omega):(0:Int)≤8) (U ((wi (by omega)):IntKind.i64.wrap ((0:Int)+1)=1) trivial)))))))))))) fun ac wd r=>?_
 refine bT (todo':=hd Tryz.f88 0) (E':=[(0,.ep 0 1 (0) 0),(1,.u ((x / 256) / 256)),(8,.z 2),(9,.z 2)]) (M':=[.rw 91 1 (List.set (List.set (List.set (List.set ([[.em 5 1 (ae l)]]) (0) [.jk]) (0) [.em 5 1 (ae l++[[.v (.int .u8 ((((bz (((x:Nat):Int))).toNat:Nat):Int)))]])]) (0) [.jk]) (0) [.em 5 1 (ae l++[[.v (.int .u8 ((((bz (((x:Nat):Int))).toNat:Nat):Int)))]]++[[.v (.int .u8 ((((bz (((x / 256:Nat):Int))).toNat:Nat):Int)))]])]),.dead,.dead,.dead,.dead]) mo tq hK ak [(3,[(4,.ix 0 [.em 5 1 (ae l++[[.v (.int .u8 ((((bz (((x:Nat):Int))).toNat:Nat):Int)))]])]),(6,.z ((((bz (((x / 256:Nat):Int))).toNat:Nat):Int))),(11,.ix 0 [.jk])]),(4,[(1,.z ((((x / 256) / 256:Nat):Int)))]),(5,[(0,.z (2))])] 2000 [0,1,2,3,4] [0,1,8,9] r (by kernel_rfl) (U (rfl:(List.set (List.set ([[.em 5 1 (ae l)]]) (0) [.jk]) (0) [.em 5 1 (ae l++[[.v (.int .u8 ((((bz (((x:Nat):Int))).toNat:Nat):Int)))]])]:List (List DV))[0]?=some [.em 5 1 (ae l++[[.v (.int .u8 ((((bz (((x:Nat):Int))).toNat:Nat):Int)))]])]) (U ((ir _):IntKind.u8.wrap (((x / 256:Nat):Int))=(((bz (((x / 256:Nat):Int))).toNat:Nat):Int)) (U (cR ((ae l++[[.v (.int .u8 ((((bz (((x:Nat):Int))).toNat:Nat):Int)))]]:List (List DV)).length)) (U ((by first | rfl | (simp [ae];done) | (simp [ae];omega)):(1)=([[.v (.int .u8 ((((bz (((x / 256:Nat):Int))).toNat:Nat):Int)))]]:List (List DV)).length) (U ((by first | omega | (simp [ae];done) | (simp [ae];omega)):(2*(((ae l++[[.v (.int .u8 ((((bz (((x:Nat):Int))).toNat:Nat):Int)))]]:List (List DV)).length)+(1))+192)*1≤281474976710656) (U ((by first | omega | (simp [ae];done) | (simp [ae];omega)):((ae l++[[.v (.int .u8 ((((bz (((x:Nat):Int))).toNat:Nat):Int)))]]:List (List DV)).length)+(1)<4611686018427387904) (U ((by simp [bd,AV.one,bW,ae,ah,ints,steps,strs]):bd ([[.v (.int .u8 ((((bz (((x / 256:Nat):Int))).toNat:Nat):Int)))]])) (U (rfl:(List.set (List.set (List.set ([[.em 5 1 (ae l)]]) (0) [.jk]) (0) [.em 5 1 (ae l++[[.v (.int .u8 ((((bz (((x:Nat):Int))).toNat:Nat):Int)))]])]) (0) [.jk]:List (List DV))[0]?=some [.jk]) (U ((by first | rfl | (simp [ae];done) | (simp [ae];omega)):((ae l++[[.v (.int .u8 ((((bz (((x:Nat):Int))).toNat:Nat):Int)))]]:List (List DV)).length+(1))=(ae l++[[.v (.int .u8 ((((bz (((x:Nat):Int))).toNat:Nat):Int)))]]++[[.v (.int .u8 ((((bz (((x / 256:Nat):Int))).toNat:Nat):Int)))]]:List (List DV)).length) (U ((yj _):(((x / 256:Nat):Int):Int).fdiv (2 ^ (min (8:Int).toNat IntKind.u64.bits))=(((x / 256) / 256:Nat):Int)) (U ((by first | decide | omega):(0:Int)≤8) (U ((wi (by omega)):IntKind.i64.wrap ((1:Int)+1)=2) trivial)))))))))))) fun ac wd r=>?_
 refine aQ (y:=.tu []) (N':=[.rw 91 1 (List.set (List.set (List.set (List.set ([[.em 5 1 (ae l)]]) (0) [.jk]) (0) [.em 5 1 (ae l++[[.v (.int .u8 ((((bz (((x:Nat):Int))).toNat:Nat):Int)))]])]) (0) [.jk]) (0) [.em 5 1 (ae l++[[.v (.int .u8 ((((bz (((x:Nat):Int))).toNat:Nat):Int)))]]++[[.v (.int .u8 ((((bz (((x / 256:Nat):Int))).toNat:Nat):Int)))]])])]) (rfl) ((Lh (by simp [ae])).symm) ?_
 exact aP mo tq hK rfl ak [] 2000 [0] r (by kernel_rfl) trivial
set_option maxRecDepth 100000 in
theorem kh (l:List UInt8) (b:UInt8) (hl:l.length≤4294967296):aq Tryz.prog 53 [.ep 0 1 (0) 0,.d (.v (.int .u8 (((b.toNat:Nat):Int))))] [.rw 91 1 ([[.em 5 1 (ae l)]])] (.tu []) (je (l++[b])):=by
 refine aq.intro (by kernel_rfl) rfl rfl 8 rfl rfl fun D w0 K bs ac wd hK (ak:bs.m=1) r=>?_
 refine aQ (y:=.tu []) (N':=[.rw 91 1 ([[.em 5 1 (ae (l++[bz ((b.toNat:Nat):Int)]))]])]) (rfl) ((by rw [Hg];rfl)) ?_
 exact aP mo tq hK rfl ak [(0,[(2,.z (((b.toNat:Nat):Int))),(3,.mem [0] (.tu []) [.rw 91 1 ([[.em 5 1 (ae (l++[bz ((b.toNat:Nat):Int)]))]])])])] 2000 [0] r (by kernel_rfl) (U ((wu ⟨rfl,by omega,by have:=b.toNat_lt;omega⟩):IntKind.u64.wrap (((b.toNat:Nat):Int))=((b.toNat:Nat):Int)) (U (xA l b.toNat (by omega)) trivial))
set_option maxRecDepth 100000 in
theorem MS (l:List UInt8) (x:Nat) (hx:x<65536) (hl:l.length≤4294967296):aq Tryz.prog 55 [.ep 0 1 (0) 0,.d (.v (.int .u16 (((x:Nat):Int))))] [.rw 91 1 ([[.em 5 1 (ae l)]])] (.tu []) (je (l++[bz ((x:Nat):Int),bz ((x / 256:Nat):Int)])):=by
 refine aq.intro (by kernel_rfl) rfl rfl 8 rfl rfl fun D w0 K bs ac wd hK (ak:bs.m=1) r=>?_
 refine aQ (y:=.tu []) (N':=[.rw 91 1 ([[.em 5 1 (ae (l++[bz ((x:Nat):Int),bz ((x / 256:Nat):Int)]))]])]) (rfl) (rfl) ?_
 exact aP mo tq hK rfl ak [(0,[(2,.z (((x:Nat):Int))),(3,.mem [0] (.tu []) [.rw 91 1 ([[.em 5 1 (ae (l++[bz ((x:Nat):Int),bz ((x / 256:Nat):Int)]))]])])])] 2000 [0] r (by kernel_rfl) (U ((wu (by omega)):IntKind.u64.wrap (((x:Nat):Int))=((x:Nat):Int)) (U (Li l x (by omega)) trivial))
set_option maxRecDepth 100000 in
theorem Lj (l:List UInt8) (x:Nat) (hx:x<18446744073709551616) (hl:l.length≤4294967200):aq Tryz.prog 56 [.ep 0 1 (0) 0,.u x] [.rw 91 1 ([[.em 5 1 (ae l)]])] (.tu []) (je (l++eE x)):=by
 refine aq.intro (by kernel_rfl) rfl rfl 16 rfl rfl fun D w0 K bs ac wd hK (ak:bs.m=1) r=>?_
 refine bT (todo':=hd Tryz.f56 0) (E':=[(0,.ep 0 1 (0) 0),(1,.u x)]) (M':=[.rw 91 1 ([[.em 5 1 (ae l)]])]) mo tq hK ak [] 2000 [0] [0,1] r (by kernel_rfl) trivial fun ac wd r=>?_
 refine aC.rounds (Φ:=fun (i:Nat) ac wd=>∃ o:List UInt8,(o.length=l.length+i∧l++eE x=o++eE (x / 128 ^ i))∧RB D w0 K 16 bs [(0,.ep 0 1 (0) 0),(1,.u (x / 128 ^ i))] [.rw 91 1 ([[.em 5 1 (ae o)]])] ac wd) (9) ?_ (Nat.zero_le _) ⟨l,⟨rfl,by simp⟩,(r).cast (by simp) (by simp)⟩
 clear r
 rintro i dI bH ac wd ⟨o,ao,r⟩
 obtain ⟨Pj,ao⟩:=ao
 cases h0:(decide ((128:Int)≤((x / 128 ^ i:Nat):Int))) with
 | false=>
  have aK:=of_decide_eq_false h0
  refine aQ (y:=.tu []) (N':=[.rw 91 1 ([[.em 5 1 (ae (o++[bz ((x / 128 ^ i:Nat):Int)]))]])]) (rfl) ((by rw [ao,uI (by omega)];rfl)) ?_
  exact aP mo tq hK rfl ak [(0,[(1,.b false)]),(3,[(2,.mem [0] (.tu []) [.rw 91 1 ([[.em 5 1 (ae (o++[bz ((x / 128 ^ i:Nat):Int)]))]])])])] 2000 [0] r (by kernel_rfl) (U h0 (U (xA o (x / 128 ^ i) (by omega)) trivial))
 | true=>
  have aK:=of_decide_eq_true h0
  exact bT (todo':=hd Tryz.f56 0) mo tq hK ak [(0,[(1,.b true)]),(1,[(1,.z (((x / 128 ^ (i+1):Nat):Int)))]),(2,[(2,.z (((x / 128 ^ i%128:Nat):Int))),(3,.z (((x / 128 ^ i%128+128:Nat):Int))),(4,.mem [0] (.tu []) [.rw 91 1 ([[.em 5 1 (ae (o++[bz ((x / 128 ^ i%128+128:Nat):Int)]))]])])])] 2000 [0] [0,1] r (by kernel_rfl) (U h0 (U ((JT (by have:=Nat.div_le_self x (128 ^ i);omega)):IntKind.u64.wrap ((BitVec.ofInt IntKind.u64.bits (((x / 128 ^ i:Nat):Int)) &&& BitVec.ofInt IntKind.u64.bits (127)).toNat:Int)=((x / 128 ^ i%128:Nat):Int)) (U ((Lg (by omega)):IntKind.u64.wrap ((BitVec.ofInt IntKind.u64.bits (((x / 128 ^ i%128:Nat):Int)) ||| BitVec.ofInt IntKind.u64.bits (128)).toNat:Int)=((x / 128 ^ i%128+128:Nat):Int)) (U (xA o (x / 128 ^ i%128+128) (by omega)) (U ((by rw [MR,AA]):(((x / 128 ^ i:Nat):Int):Int).fdiv (2 ^ (min (7:Int).toNat IntKind.u64.bits))=((x / 128 ^ (i+1):Nat):Int)) (U ((by first | decide | omega):(0:Int)≤7) trivial)))))) fun ac wd r=>bH (by have:=JU (i:=i) hx (by omega);omega) ac wd ⟨(o++[bz ((x / 128 ^ i%128+128:Nat):Int)]),⟨by simp;omega,by rw [ao,z7 (by omega),AA,List.append_assoc];rfl⟩,r⟩
set_option maxRecDepth 100000 in
theorem MT (l b:List UInt8) (hb:b.length≤4294967296) (hl:l.length≤4294967296):aq Tryz.prog 57 [.ep 0 1 (0) 0,.d (.ro 1 (ae b))] [.rw 91 1 ([[.em 5 1 (ae l)]])] (.tu []) (je (l++b)):=by
 refine aq.intro (by kernel_rfl) rfl rfl 15 rfl rfl fun D w0 K bs ac wd hK (ak:bs.m=1) r=>?_
 refine aQ (y:=.tu []) (N':=[.rw 91 1 (List.set (List.set ([[.em 5 1 (ae l)]]) (0) [.jk]) (0) [.em 5 1 (ae l++(ae b))])]) (rfl) ((CS (by simp [ae])).symm) ?_
 exact aP mo tq hK rfl ak [(1,[(4,.ix 0 [.em 5 1 (ae l)]),(9,.ix 0 [.jk])])] 2000 [0] r (by kernel_rfl) (U (qv:dm Tryz.prog 51) (U (rfl:([[.em 5 1 (ae l)]]:List (List DV))[0]?=some [.em 5 1 (ae l)]) (U (cR ((ae l).length)) (U ((by first | omega | (simp [ae];done) | (simp [ae];omega)):(2*(((ae l).length)+(ae b).length)+192)*1≤281474976710656) (U ((by first | omega | (simp [ae];done) | (simp [ae];omega)):((ae l).length)+(ae b).length<4611686018427387904) (U ((by simp [bd,AV.one,bW,ae,ah,ints,steps,strs]):bd (ae b)) (U (rfl:(List.set ([[.em 5 1 (ae l)]]) (0) [.jk]:List (List DV))[0]?=some [.jk]) (U ((by first | rfl | (simp [ae];done) | (simp [ae];omega)):((ae l).length+(ae b).length)=(ae l++(ae b):List (List DV)).length) trivial))))))))
set_option maxRecDepth 100000 in
theorem D3 (l:List UInt8) (h0:0<l.length) (hb:l.length<2147483648):aB Tryz.prog 58 [.d (.ro 1 (ae l))] (DV.em 5 1 (ae l)):=by
 refine aB.intro (by kernel_rfl) rfl rfl 8 rfl rfl fun w0 K ac hK r=>?_
 rw [show (DV.em 5 1 (ae l):DV)=.em 5 1 ([]++(ae l)) from rfl]
 exact bj mo tq hK rfl [] 2000 r (by kernel_rfl) (U ((by simpa [ae] using h0):0<(ae l).length) (U ((by simp):(0)=([]:List (List DV)).length) (U ((by simp [ae];omega):(2*((0)+(ae l).length)+192)*1≤281474976710656) (U ((by simp [ae];omega):(0)+(ae l).length<4611686018427387904) (U ((by simp [bd,AV.one,bW,ae]):bd (ae l)) (U ((by simp):(0+(ae l).length)=([]++(ae l):List (List DV)).length) trivial))))))
set_option maxRecDepth 100000 in
theorem D4 (c:Nat):aB Tryz.prog 58 [.d (.v (.slice none 0 c))] (DV.v (.slice none 0 0)):=by
 refine aB.intro (by kernel_rfl) rfl rfl 8 rfl rfl fun w0 K ac hK r=>?_
 exact bj mo tq hK rfl [] 2000 r (by kernel_rfl) trivial
set_option maxRecDepth 100000 in
theorem Eb (a:Addr) (c:Nat):aB Tryz.prog 58 [.d (.v (.slice (some a) 0 c))] (DV.em 5 1 ([]++[])):=by
 refine aB.intro (by kernel_rfl) rfl rfl 8 rfl rfl fun w0 K ac hK r=>?_
 exact bj mo tq hK rfl [] 2000 r (by kernel_rfl) (U ((by simp):(0)=([]:List (List DV)).length) (U ((by simp):(2*((0)+0)+192)*1≤281474976710656) (U ((by simp):(0)+0<4611686018427387904) (U ((by simp [bd]):bd (([]:List (List DV)))) (U ((by simp):(0+0)=([]++([]:List (List DV)):List (List DV)).length) trivial)))))
theorem uz (l:List UInt8) (hb:l.length<2147483648):aB Tryz.prog 58 [.d (.ro 1 (ae l))] (.em 5 1 (ae l)):=by
 cases l with
 | nil=>
  refine aB.empty (pre:=[]) (post:=[]) fun a c=>?_
  cases a with
  | none=>exact aB.nil 5 1 (D4 c)
  | some a=>exact Eb a c
 | cons b l=>exact D3 (b::l) (by simp) hb
theorem z8 (l:List UInt8) (hb:l.length<2147483648):aB Tryz.prog 58 [.d (.ro 1 (ae l))] (.ro 1 (ae l)):=by
 have h:=(uz l hb).stays
 simp only [eR,ow] at h
 exact h
theorem fx (x:Value):eH (.v x):=by intro K K2 y H h;cases h;exact .v _
theorem JV {T:Nat} {rows:List (List DV)} (h:∀ (i:Nat) r (j:Nat) c,rows[i]?=some r→r[j]?=some c→eH c):eH (.em T 1 rows):=by
 intro K K' y H hd
 cases hd with
 | em X F hl hs hr=>exact .em X F hl hs fun i r j c x h1 h2 h3=>h i r j c h1 h2 _ _ _ _ (hr i r j c x h1 h2 h3)
theorem Aa (T:Nat) (l:List UInt8):eH (.em T 1 (ae l)):=JV fun i r j c h1 h2=>by
 simp only [ae,List.getElem?_map,Option.map_eq_some_iff] at h1
 obtain ⟨b,-,rfl⟩:=h1
 cases j with
 | zero=>simp at h2;subst h2;exact fx _
 | succ j=>simp at h2
set_option maxRecDepth 100000 in
theorem JW (l:List UInt8) (hl:l.length<2147483648):aq Tryz.prog 27 [.ep 0 1 (0) 0] [.rw 91 1 ([[.em 5 1 (ae l)]])] (.sl 1 l.length) ([.rw 91 1 (List.set [[.em 5 1 (ae l)]] 0 [.jk]),.rw 5 1 (ae l)]):=by
 refine aq.intro (by kernel_rfl) rfl rfl 10 rfl rfl fun D w0 K bs ac wd hK (ak:bs.m=1) r=>?_
 refine aQ (y:=.sl 1 ((ae l).length)) (N':=[.rw 91 1 (List.set ([[.em 5 1 (ae l)]]) (0) [.jk]),.rw 5 1 (ae l)]) ((by simp [ae])) (rfl) ?_
 exact aP mo tq hK rfl ak [(3,[(3,.ix 0 [.em 5 1 (ae l)]),(4,.call [.d (.ro 1 (ae l))] (.em 5 1 (ae l)))])] 2000 [0,2] r (by kernel_rfl) (U (qv:dm Tryz.prog 51) (U (rfl:([[.em 5 1 (ae l)]]:List (List DV))[0]?=some [.em 5 1 (ae l)]) (U (uz _ (by omega):aB Tryz.prog 58 [.d (.ro 1 (ae l))] (.em 5 1 (ae l))) (U ((Aa _ _):eH (.em 5 1 (ae l))) (U (cR (1)) (U (cR ((ae l).length)) (U ((ow _):cb (ae l)=ae l) trivial)))))))
set_option maxRecDepth 100000 in
theorem CT :aq Tryz.prog 22 [] [] (.pt 0 0) ([.bx 91 [.d (.v (.slice none 0 0))]]):=by
 refine aq.intro (by kernel_rfl) rfl rfl 3 rfl rfl fun D w0 K bs ac wd hK (ak:bs.m=0) r=>?_
 refine aQ (y:=.pt 0 0) (N':=[.bx 91 [.d (.v (.slice none 0 0))]]) (rfl) (rfl) ?_
 exact aP mo tq hK rfl ak [] 2000 [0] r (by kernel_rfl) trivial
set_option maxRecDepth 100000 in
theorem Lk (a:Option Addr) (n c:Nat):aB Tryz.prog 25 [.rp [.v (.slice a n c)] 0] (DV.n n):=by
 refine aB.intro (by kernel_rfl) rfl rfl 10 rfl rfl fun w0 K ac hK r=>?_
 rw [show (DV.n n:DV)=.n n from rfl]
 exact bj mo tq hK rfl [] 2000 r (by kernel_rfl) (U (qv:dm Tryz.prog 51) trivial)
theorem aq.MU {P:Program} {f:FuncId} {T T2:Nat} {rows:List (List DV)} {x:DV} (h:∀ (a:Option Addr) (c:Nat),aB P f [.rp [.v (.slice a rows.length c)] 0] x) (hx:eH x) (hs:∀ {K:World→Prop} {y:Value} {H:al},bP K x y H→bP K x y []):aq P f [.ep 0 1 0 0] [.rw T 1 [[.em T2 1 rows]]] (.d x) [.rw T 1 [[.em T2 1 rows]]]:=by
 refine ⟨(h none 0).1,fun {D w0 K0 β F I w} ys R hK hl hr=>?_⟩
 obtain ⟨y,rfl⟩:∃ y,ys=[y]:=by
  cases ys with
  | nil=>simp at hl
  | cons y r=>cases r with
   | nil=>exact ⟨y,rfl⟩
   | cons _ _=>simp at hl
 have hy:=hr 0 _ y rfl rfl
 cases hy with
 | @ep _ _ _ _ b cc hb=>
 obtain ⟨H,hF,hB,hH⟩:=R.at (u:=0) rfl
 cases hB with
 | rw aS X G kP jw jd=>
  rw [hb] at aS;cases aS
  obtain ⟨b',cap,cs,he,rfl,cG,dC,lL⟩:=jw.block (by simp)
  simp only [Value.slice.injEq,Option.some.injEq,Addr.mk.injEq] at he
  obtain ⟨⟨rfl,-⟩,-,rfl⟩:=he
  have hX:=(kP 0 _ rfl).2
  obtain ⟨v,hv⟩:∃ v,(X 0)[0]?=some v:=⟨(X 0)[0]'(by omega),List.getElem?_eq_getElem _⟩
  have hd:=jd 0 _ 0 _ v rfl rfl hv
  obtain ⟨a,n,c,rfl⟩:=hd.slice (.inr ⟨_,_,_,rfl⟩)
  have hn:n=rows.length:=by
   generalize G 0 0=GG at hd
   cases hd with
   | em X' F' cN eU mZ=>
    obtain ⟨a',c',e⟩:=eU.len
    simp only [Value.slice.injEq] at e
    exact e.2.1
  subst hn
  have hw:w.heap[b]?=some (.cells cs T (0,0)):=(Holds.app.1 hH).1.one
  have ib:w.cell? ⟨b,0,none⟩=some (.slice a rows.length c):=by
   rw [cell_of hw]
   have N7:lay 1 X=X 0:=by simp [lay,List.range_succ]
   have e1:(cs.toList.take (1*1))[0]?=cs[0]?:=by rw [List.getElem?_take,if_pos (by omega),Array.getElem?_toList]
   rw [← e1,show (cs.toList.take (1*1))=X 0 from lL.trans N7];exact hv
  refine ((h a c).2 w (fun w'=>w'.cell? ⟨b,0,none⟩=some (.slice a rows.length c)) [.pointer (some ⟨b,0*1+0,none⟩)] (fun w' g=>g.sT ib) rfl fun j q y h1 h2=>?_).mono ?_
  ·cases j with
   | succ j=>simp at h1
   | zero=>
    simp only [List.getElem?_cons_zero,Option.some.injEq] at h1 h2
    subst h1;subst h2
    have e0:(⟨b,0*1+0,none⟩:Addr)=(⟨b,0,none⟩:Addr).add 0:=by rw [add_zero']
    rw [e0]
    refine .rp _ [.slice a rows.length c] rfl (fun w' dX j z hj=>?_) (fun j q z h1 h2=>?_)
    ·cases j with
     | succ j=>simp at hj
     | zero=>simp at hj;subst hj;rw [add_zero'];exact dX
    ·cases j with
     | succ j=>simp at h1
     | zero=>simp at h1 h2;subst h1;subst h2;exact .v _
  ·rintro e w' ⟨v,rfl,g,H2,⟨Ho,Hi,rfl,tW⟩,n2⟩
   refine ⟨v,rfl,β,F,I,⟨R.len,R.blk,R.st.gr g⟩,Ext.refl _,bR.refl _,.d (hx _ _ _ _ (hs tW))⟩
theorem tG (l:List UInt8):aq Tryz.prog 25 [.ep 0 1 0 0] (je l) (.n l.length) (je l):=by
 have h:=aq.MU (T:=91) (T2:=5) (rows:=ae l) (fun a c=>Lk a (ae l).length c) (fx _) (fun hd=>by cases hd;exact .v _)
 rw [show (ae l).length=l.length by simp [ae]] at h
 exact h
end Go.Proofs.YtcnpikbbmbombaaGreatDoor
namespace Go.Proofs.YtcnpikbbmbombaaGreatDoor
open Go.RowKit
def fh (i:Nat) (x:Int) (c:UInt8):Int:=IntKind.u64.wrap ((BitVec.ofInt IntKind.u64.bits x ||| BitVec.ofInt IntKind.u64.bits (IntKind.u64.wrap (IntKind.u64.wrap (IntKind.u8.wrap ((BitVec.ofInt IntKind.u8.bits (c.toNat:Int) &&& BitVec.ofInt IntKind.u8.bits 127).toNat:Int))*2 ^ (min (((7*i:Nat):Int)).toNat IntKind.u64.bits)))).toNat:Int)
def fK:List UInt8→Nat→Int→Int×Nat
 | [],_,_=>(0,0)
 | c::r,i,x=>if i=9∧1<c.toNat then (0,0) else if c.toNat<128 then (if c.toNat=0∧0<i then (0,0) else (fh i x c,i+1)) else fK r (i+1) (fh i x c)
theorem rW {l:List UInt8} {i:Nat} {c:UInt8} (h:l[i]?=some c):l.drop i=c::l.drop (i+1):=by
 obtain ⟨aI,rfl⟩:=List.getElem?_eq_some_iff.1 h
 exact List.drop_eq_getElem_cons aI
structure gG (l:List UInt8) (i:Nat) (x:Int):Prop where
 le:i≤l.length
 nine:i≤9∨l.length≤i
 eq:fK (l.drop i) i x=fK l 0 0
theorem gG.start (l:List UInt8):gG l 0 0:=⟨Nat.zero_le _,Or.inl (by omega),by rw [List.drop_zero]⟩
section
variable {l:List UInt8} {i:Nat} {x:Int} {c:UInt8}
theorem gG.wide (h:gG l i x) (hc:l[i]?=some c) (h9:i=9) (h1:1<c.toNat):fK l 0 0=(0,0):=by
 rw [← h.eq,rW hc];unfold fK;rw [if_pos ⟨h9,h1⟩]
theorem gG.zero (h:gG l i x) (hc:l[i]?=some c) (h9:¬ (i=9∧1<c.toNat)) (h1:c.toNat=0) (h2:0<i):fK l 0 0=(0,0):=by
 rw [← h.eq,rW hc];unfold fK;rw [if_neg h9,if_pos (by omega),if_pos ⟨h1,h2⟩]
theorem gG.last (h:gG l i x) (hc:l[i]?=some c) (h9:¬ (i=9∧1<c.toNat)) (h1:c.toNat<128) (h2:¬ (c.toNat=0∧0<i)):fK l 0 0=(fh i x c,i+1):=by
 rw [← h.eq,rW hc];unfold fK;rw [if_neg h9,if_pos h1,if_neg h2]
theorem gG.next (h:gG l i x) (hc:l[i]?=some c) (h9:¬ (i=9∧1<c.toNat)) (h1:¬ c.toNat<128):gG l (i+1) (fh i x c) where
 le:=(List.getElem?_eq_some_iff.1 hc).1
 nine:=by
  rcases h.nine with h | h
  ·left;omega
  ·exact absurd (List.getElem?_eq_some_iff.1 hc).1 (by omega)
 eq:=by rw [← h.eq,rW hc];conv=>rhs;unfold fK;rw [if_neg h9,if_neg h1]
theorem gG.none (h:gG l i x) (hi:¬ i<l.length):fK l 0 0=(0,0):=by
 rw [← h.eq,List.drop_of_length_le (by omega)];rfl
theorem gG.i9 (h:gG l i x) (hc:l[i]?=some c):i≤9:=by
 rcases h.nine with h | h
 ·exact h
 ·exact absurd (List.getElem?_eq_some_iff.1 hc).1 (by omega)
end
theorem dw {p q:Int×Nat} (h:p=q):AV.tu [.d (.v (.int .u64 p.1)),.n p.2]=.tu [.d (.v (.int .u64 q.1)),.n q.2]:=by rw [h]
set_option maxRecDepth 100000 in
theorem II (l:List UInt8) (n:Nat) (hn:n≤l.length):aq Tryz.prog 92 [.pt 0 0,.n n] [.bx 108 [.d (.ro 1 (ae l)),.d (.v (.bool false))]] (.d (.ro 1 (ae (l.take n)))) ([.bx 108 [.d (.ro 1 (ae (l.drop n))),.d (.v (.bool false))]]):=by
 refine aq.intro (by kernel_rfl) rfl rfl 43 rfl rfl fun D w0 K bs ac wd hK (ak:bs.m=1) r=>?_
 cases h0:(decide ((((n:Nat):Int):Int)<0)) with
 | false=>
  have aK:=of_decide_eq_false h0
  have aE:=((by first | rfl | simp [ae,ah,ints,steps,strs]):(((ae l).length:Nat):Int)=((l.length:Nat):Int))
  cases h1:(decide ((((l.length:Nat):Int):Int)<((n:Nat):Int))) with
  | false=>
   have bF:=of_decide_eq_false h1
   refine aQ (y:=.d (.ro 1 (List.take (n) (ae l)))) (N':=[.bx 108 [.d (.ro 1 (List.drop (n) (ae l))),.d (.v (.bool false))]]) ((by rw [uo])) ((by rw [nk])) ?_
   exact aP mo tq hK rfl ak [(1,[(6,.b false),(14,.z (((l.length:Nat):Int))),(15,.b false)]),(4,[(6,.n2 (n) (0))]),(5,[(6,.n2 (0) (n))])] 2000 [0] r (by kernel_rfl) (U h0 (U aE (U h1 (U (aA ((n:Nat):Int)) (U (aA ((n:Nat):Int)) (U ((by first | omega | (simp [ae,ah,ints,steps,strs];done) | (simp [ae,ah,ints,steps,strs];omega)):(n)≤(ae l).length) (U (aA ((n:Nat):Int)) (U ((by first | omega | (simp [ae,ah,ints,steps,strs];done) | (simp [ae,ah,ints,steps,strs];omega)):(n)≤(ae l).length) trivial))))))))
  | true=>
   have bF:=of_decide_eq_true h1
   exact absurd bF (by omega)
 | true=>
  have aK:=of_decide_eq_true h0
  exact absurd aK (by omega)
set_option maxRecDepth 100000 in
theorem Hh (l:List UInt8) (n:Nat) (hn:l.length<n):aq Tryz.prog 92 [.pt 0 0,.n n] [.bx 108 [.d (.ro 1 (ae l)),.d (.v (.bool false))]] (.d (.v (.slice none 0 0))) ([.bx 108 [.d (.ro 1 (ae l)),.d (.v (.bool true))]]):=by
 refine aq.intro (by kernel_rfl) rfl rfl 43 rfl rfl fun D w0 K bs ac wd hK (ak:bs.m=1) r=>?_
 cases h0:(decide ((((n:Nat):Int):Int)<0)) with
 | false=>
  have aK:=of_decide_eq_false h0
  have aE:=((by first | rfl | simp [ae,ah,ints,steps,strs]):(((ae l).length:Nat):Int)=((l.length:Nat):Int))
  cases h1:(decide ((((l.length:Nat):Int):Int)<((n:Nat):Int))) with
  | false=>
   have bF:=of_decide_eq_false h1
   exact absurd bF (by omega)
  | true=>
   have bF:=of_decide_eq_true h1
   refine aQ (y:=.d (.v (.slice none 0 0))) (N':=[.bx 108 [.d (.ro 1 (ae l)),.d (.v (.bool true))]]) (rfl) (rfl) ?_
   exact aP mo tq hK rfl ak [(1,[(6,.b false),(14,.z (((l.length:Nat):Int))),(15,.b true)])] 2000 [0] r (by kernel_rfl) (U h0 (U aE (U h1 trivial)))
 | true=>
  have aK:=of_decide_eq_true h0
  exact absurd aK (by omega)
set_option maxRecDepth 100000 in
theorem IJ (l:List UInt8) (z:Int) (hz:z<0):aq Tryz.prog 92 [.pt 0 0,.z z] [.bx 108 [.d (.ro 1 (ae l)),.d (.v (.bool false))]] (.d (.v (.slice none 0 0))) ([.bx 108 [.d (.ro 1 (ae l)),.d (.v (.bool true))]]):=by
 refine aq.intro (by kernel_rfl) rfl rfl 43 rfl rfl fun D w0 K bs ac wd hK (ak:bs.m=1) r=>?_
 cases h0:(decide ((z:Int)<0)) with
 | false=>
  have aK:=of_decide_eq_false h0
  exact absurd aK (by omega)
 | true=>
  have aK:=of_decide_eq_true h0
  refine aQ (y:=.d (.v (.slice none 0 0))) (N':=[.bx 108 [.d (.ro 1 (ae l)),.d (.v (.bool true))]]) (rfl) (rfl) ?_
  exact aP mo tq hK rfl ak [(1,[(6,.b true)])] 2000 [0] r (by kernel_rfl) (U h0 trivial)
set_option maxRecDepth 100000 in
theorem IK (l:List UInt8) (z:Int):aq Tryz.prog 92 [.pt 0 0,.z z] [.bx 108 [.d (.ro 1 (ae l)),.d (.v (.bool true))]] (.d (.v (.slice none 0 0))) ([.bx 108 [.d (.ro 1 (ae l)),.d (.v (.bool true))]]):=by
 refine aq.intro (by kernel_rfl) rfl rfl 43 rfl rfl fun D w0 K bs ac wd hK (ak:bs.m=1) r=>?_
 refine aQ (y:=.d (.v (.slice none 0 0))) (N':=[.bx 108 [.d (.ro 1 (ae l)),.d (.v (.bool true))]]) (rfl) (rfl) ?_
 exact aP mo tq hK rfl ak [] 2000 [0] r (by kernel_rfl) trivial
set_option maxRecDepth 100000 in
theorem JX (l:List UInt8):aq Tryz.prog 91 [.pt 0 0] [.bx 108 [.d (.ro 1 (ae l)),.d (.v (.bool true))]] (.tu [.d (.v (.int .u64 0)),.d (.v (.int .i64 0))]) ([.bx 108 [.d (.ro 1 (ae l)),.d (.v (.bool true))]]):=by
 refine aq.intro (by kernel_rfl) rfl rfl 47 rfl rfl fun D w0 K bs ac wd hK (ak:bs.m=1) r=>?_
 refine aQ (y:=.tu [.d (.v (.int .u64 0)),.z 0]) (N':=[.bx 108 [.d (.ro 1 (ae l)),.d (.v (.bool true))]]) (rfl) (rfl) ?_
 exact aP mo tq hK rfl ak [] 2000 [0] r (by kernel_rfl) trivial
set_option maxRecDepth 100000 in
theorem Ll (l:List UInt8):aq Tryz.prog 91 [.pt 0 0] [.bx 108 [.d (.ro 1 (ae l)),.d (.v (.bool false))]] (.tu [.d (.v (.int .u64 (fK l 0 0).1)),.n (fK l 0 0).2]) ([.bx 108 [.d (.ro 1 (ae l)),.d (.v (.bool false))]]):=by
 refine aq.intro (by kernel_rfl) rfl rfl 47 rfl rfl fun D w0 K bs ac wd hK (ak:bs.m=1) r=>?_
 refine bT (todo':=hd Tryz.f91 0) (E':=[(14,.d (.ro 1 (ae l))),(15,.n l.length),(16,.n 0),(4,.d (.v (.int .u64 (0))))]) (M':=[.bx 108 [.d (.ro 1 (ae l)),.d (.v (.bool false))]]) mo tq hK ak [(4,[(4,.z (((l.length:Nat):Int)))])] 2000 [0] [14,15,16,4] r (by kernel_rfl) (U ((by first | rfl | simp [ae,ah,ints,steps,strs]):(((ae l).length:Nat):Int)=((l.length:Nat):Int)) trivial) fun ac wd r=>?_
 refine aC.rounds (Φ:=fun (i:Nat) ac wd=>∃ x:Int,(gG l i x)∧RB D w0 K 47 bs [(14,.d (.ro 1 (ae l))),(15,.n l.length),(16,.n i),(4,.d (.v (.int .u64 (x))))] [.bx 108 [.d (.ro 1 (ae l)),.d (.v (.bool false))]] ac wd) (l.length) ?_ (Nat.zero_le _) ⟨0,gG.start l,r⟩
 clear r
 rintro i dI bH ac wd ⟨x,ao,r⟩
 have Pk:=ao.le
 cases h0:(decide ((((i:Nat):Int):Int)<((l.length:Nat):Int))) with
 | false=>
  have aK:=of_decide_eq_false h0
  refine aQ (y:=.tu [.d (.v (.int .u64 0)),.z 0]) (N':=[.bx 108 [.d (.ro 1 (ae l)),.d (.v (.bool false))]]) ((by first | exact (dw (ao.none (by omega))) | exact (dw (ao.wide c9 (by omega) (by omega))) | exact (dw (ao.zero c9 (by rintro ⟨_,_⟩;omega) (by omega) (by omega))) | exact (dw (ao.last c9 (by rintro ⟨_,_⟩;omega) (by omega) (by rintro ⟨_,_⟩;omega))))) (rfl) ?_
  exact aP mo tq hK rfl ak [(5,[(0,.b false)])] 2000 [0] r (by kernel_rfl) (U h0 trivial)
 | true=>
  have aK:=of_decide_eq_true h0
  obtain ⟨bL,c9⟩:∃ x,l[i]?=some x:=⟨_,List.getElem?_eq_getElem (by omega)⟩
  have Pm:=ao.i9 c9
  cases h1:((((i:Nat):Int):Int)==9) with
  | false=>
   have bF:=ne_of_beq_false h1
   have aE:=(rfl:IntKind.u8.wrap ((BitVec.ofInt IntKind.u8.bits (((bL.toNat:Nat):Int)) &&& BitVec.ofInt IntKind.u8.bits (127)).toNat:Int)=IntKind.u8.wrap ((BitVec.ofInt IntKind.u8.bits (((bL.toNat:Nat):Int)) &&& BitVec.ofInt IntKind.u8.bits (127)).toNat:Int))
   have aZ:=(rfl:IntKind.u64.wrap (IntKind.u8.wrap ((BitVec.ofInt IntKind.u8.bits (((bL.toNat:Nat):Int)) &&& BitVec.ofInt IntKind.u8.bits (127)).toNat:Int))=IntKind.u64.wrap (IntKind.u8.wrap ((BitVec.ofInt IntKind.u8.bits (((bL.toNat:Nat):Int)) &&& BitVec.ofInt IntKind.u8.bits (127)).toNat:Int)))
   have cd:=((wi (by omega)):IntKind.i64.wrap ((7:Int)*((i:Nat):Int))=((7*i:Nat):Int))
   have c7:=(rfl:IntKind.u64.wrap ((IntKind.u64.wrap (IntKind.u8.wrap ((BitVec.ofInt IntKind.u8.bits (((bL.toNat:Nat):Int)) &&& BitVec.ofInt IntKind.u8.bits (127)).toNat:Int)):Int)*2 ^ (min (((7*i:Nat):Int):Int).toNat IntKind.u64.bits))=IntKind.u64.wrap ((IntKind.u64.wrap (IntKind.u8.wrap ((BitVec.ofInt IntKind.u8.bits (((bL.toNat:Nat):Int)) &&& BitVec.ofInt IntKind.u8.bits (127)).toNat:Int)):Int)*2 ^ (min (((7*i:Nat):Int):Int).toNat IntKind.u64.bits)))
   have e7:=(rfl:IntKind.u64.wrap ((BitVec.ofInt IntKind.u64.bits (x) ||| BitVec.ofInt IntKind.u64.bits (IntKind.u64.wrap ((IntKind.u64.wrap (IntKind.u8.wrap ((BitVec.ofInt IntKind.u8.bits (((bL.toNat:Nat):Int)) &&& BitVec.ofInt IntKind.u8.bits (127)).toNat:Int)):Int)*2 ^ (min (((7*i:Nat):Int):Int).toNat IntKind.u64.bits)))).toNat:Int)=fh i x bL)
   cases h2:(decide ((((bL.toNat:Nat):Int):Int)<128)) with
   | false=>
    have cW:=of_decide_eq_false h2
    exact bT (todo':=hd Tryz.f91 0) mo tq hK ak [(5,[(0,.b true)]),(6,[(1,.ix (i) [.v (.int .u8 (((bL.toNat:Nat):Int)))])]),(7,[(1,.b false)]),(9,[(2,.z (IntKind.u8.wrap ((BitVec.ofInt IntKind.u8.bits (((bL.toNat:Nat):Int)) &&& BitVec.ofInt IntKind.u8.bits (127)).toNat:Int))),(3,.z (IntKind.u64.wrap (IntKind.u8.wrap ((BitVec.ofInt IntKind.u8.bits (((bL.toNat:Nat):Int)) &&& BitVec.ofInt IntKind.u8.bits (127)).toNat:Int)))),(5,.z (((7*i:Nat):Int))),(6,.z (IntKind.u64.wrap ((IntKind.u64.wrap (IntKind.u8.wrap ((BitVec.ofInt IntKind.u8.bits (((bL.toNat:Nat):Int)) &&& BitVec.ofInt IntKind.u8.bits (127)).toNat:Int)):Int)*2 ^ (min (((7*i:Nat):Int):Int).toNat IntKind.u64.bits)))),(7,.z (fh i x bL))]),(10,[(1,.b false)]),(14,[(0,.z (((i+1:Nat):Int)))])] 2000 [0] [14,15,16,4] r (by kernel_rfl) (U h0 (U (aA ((i:Nat):Int)) (U (dM c9) (U h1 (U aE (U aZ (U cd (U c7 (U ((by first | decide | omega):(0:Int)≤((7*i:Nat):Int)) (U e7 (U h2 (U ((wi (by omega)):IntKind.i64.wrap ((((i:Nat):Int):Int)+1)=((i+1:Nat):Int)) trivial)))))))))))) fun ac wd r=>bH (by omega) ac wd ⟨fh i x bL,ao.next c9 (by rintro ⟨_,_⟩;omega) (by omega),r⟩
   | true=>
    have cW:=of_decide_eq_true h2
    cases h3:((((bL.toNat:Nat):Int):Int)==0) with
    | false=>
     have di:=ne_of_beq_false h3
     refine aQ (y:=.tu [.d (.v (.int .u64 (fh i x bL))),.n (i+1)]) (N':=[.bx 108 [.d (.ro 1 (ae l)),.d (.v (.bool false))]]) ((by first | exact (dw (ao.none (by omega))) | exact (dw (ao.wide c9 (by omega) (by omega))) | exact (dw (ao.zero c9 (by rintro ⟨_,_⟩;omega) (by omega) (by omega))) | exact (dw (ao.last c9 (by rintro ⟨_,_⟩;omega) (by omega) (by rintro ⟨_,_⟩;omega))))) (rfl) ?_
     exact aP mo tq hK rfl ak [(5,[(0,.b true)]),(6,[(1,.ix (i) [.v (.int .u8 (((bL.toNat:Nat):Int)))])]),(7,[(1,.b false)]),(9,[(2,.z (IntKind.u8.wrap ((BitVec.ofInt IntKind.u8.bits (((bL.toNat:Nat):Int)) &&& BitVec.ofInt IntKind.u8.bits (127)).toNat:Int))),(3,.z (IntKind.u64.wrap (IntKind.u8.wrap ((BitVec.ofInt IntKind.u8.bits (((bL.toNat:Nat):Int)) &&& BitVec.ofInt IntKind.u8.bits (127)).toNat:Int)))),(5,.z (((7*i:Nat):Int))),(6,.z (IntKind.u64.wrap ((IntKind.u64.wrap (IntKind.u8.wrap ((BitVec.ofInt IntKind.u8.bits (((bL.toNat:Nat):Int)) &&& BitVec.ofInt IntKind.u8.bits (127)).toNat:Int)):Int)*2 ^ (min (((7*i:Nat):Int):Int).toNat IntKind.u64.bits)))),(7,.z (fh i x bL))]),(10,[(1,.b true)]),(11,[(1,.b false)]),(13,[(2,.z (((i+1:Nat):Int)))])] 2000 [0] r (by kernel_rfl) (U h0 (U (aA ((i:Nat):Int)) (U (dM c9) (U h1 (U aE (U aZ (U cd (U c7 (U ((by first | decide | omega):(0:Int)≤((7*i:Nat):Int)) (U e7 (U h2 (U h3 (U ((wi (by omega)):IntKind.i64.wrap ((((i:Nat):Int):Int)+1)=((i+1:Nat):Int)) trivial)))))))))))))
    | true=>
     have di:=eq_of_beq h3
     cases h4:(decide ((0:Int)<((i:Nat):Int))) with
     | false=>
      have dD:=of_decide_eq_false h4
      refine aQ (y:=.tu [.d (.v (.int .u64 (fh i x bL))),.n (i+1)]) (N':=[.bx 108 [.d (.ro 1 (ae l)),.d (.v (.bool false))]]) ((by first | exact (dw (ao.none (by omega))) | exact (dw (ao.wide c9 (by omega) (by omega))) | exact (dw (ao.zero c9 (by rintro ⟨_,_⟩;omega) (by omega) (by omega))) | exact (dw (ao.last c9 (by rintro ⟨_,_⟩;omega) (by omega) (by rintro ⟨_,_⟩;omega))))) (rfl) ?_
      exact aP mo tq hK rfl ak [(5,[(0,.b true)]),(6,[(1,.ix (i) [.v (.int .u8 (((bL.toNat:Nat):Int)))])]),(7,[(1,.b false)]),(9,[(2,.z (IntKind.u8.wrap ((BitVec.ofInt IntKind.u8.bits (((bL.toNat:Nat):Int)) &&& BitVec.ofInt IntKind.u8.bits (127)).toNat:Int))),(3,.z (IntKind.u64.wrap (IntKind.u8.wrap ((BitVec.ofInt IntKind.u8.bits (((bL.toNat:Nat):Int)) &&& BitVec.ofInt IntKind.u8.bits (127)).toNat:Int)))),(5,.z (((7*i:Nat):Int))),(6,.z (IntKind.u64.wrap ((IntKind.u64.wrap (IntKind.u8.wrap ((BitVec.ofInt IntKind.u8.bits (((bL.toNat:Nat):Int)) &&& BitVec.ofInt IntKind.u8.bits (127)).toNat:Int)):Int)*2 ^ (min (((7*i:Nat):Int):Int).toNat IntKind.u64.bits)))),(7,.z (fh i x bL))]),(10,[(1,.b true)]),(11,[(1,.b true),(4,.b false)]),(13,[(2,.z (((i+1:Nat):Int)))])] 2000 [0] r (by kernel_rfl) (U h0 (U (aA ((i:Nat):Int)) (U (dM c9) (U h1 (U aE (U aZ (U cd (U c7 (U ((by first | decide | omega):(0:Int)≤((7*i:Nat):Int)) (U e7 (U h2 (U h3 (U h4 (U ((wi (by omega)):IntKind.i64.wrap ((((i:Nat):Int):Int)+1)=((i+1:Nat):Int)) trivial))))))))))))))
     | true=>
      have dD:=of_decide_eq_true h4
      refine aQ (y:=.tu [.d (.v (.int .u64 0)),.z 0]) (N':=[.bx 108 [.d (.ro 1 (ae l)),.d (.v (.bool false))]]) ((by first | exact (dw (ao.none (by omega))) | exact (dw (ao.wide c9 (by omega) (by omega))) | exact (dw (ao.zero c9 (by rintro ⟨_,_⟩;omega) (by omega) (by omega))) | exact (dw (ao.last c9 (by rintro ⟨_,_⟩;omega) (by omega) (by rintro ⟨_,_⟩;omega))))) (rfl) ?_
      exact aP mo tq hK rfl ak [(5,[(0,.b true)]),(6,[(1,.ix (i) [.v (.int .u8 (((bL.toNat:Nat):Int)))])]),(7,[(1,.b false)]),(9,[(2,.z (IntKind.u8.wrap ((BitVec.ofInt IntKind.u8.bits (((bL.toNat:Nat):Int)) &&& BitVec.ofInt IntKind.u8.bits (127)).toNat:Int))),(3,.z (IntKind.u64.wrap (IntKind.u8.wrap ((BitVec.ofInt IntKind.u8.bits (((bL.toNat:Nat):Int)) &&& BitVec.ofInt IntKind.u8.bits (127)).toNat:Int)))),(5,.z (((7*i:Nat):Int))),(6,.z (IntKind.u64.wrap ((IntKind.u64.wrap (IntKind.u8.wrap ((BitVec.ofInt IntKind.u8.bits (((bL.toNat:Nat):Int)) &&& BitVec.ofInt IntKind.u8.bits (127)).toNat:Int)):Int)*2 ^ (min (((7*i:Nat):Int):Int).toNat IntKind.u64.bits)))),(7,.z (fh i x bL))]),(10,[(1,.b true)]),(11,[(1,.b true),(4,.b true)])] 2000 [0] r (by kernel_rfl) (U h0 (U (aA ((i:Nat):Int)) (U (dM c9) (U h1 (U aE (U aZ (U cd (U c7 (U ((by first | decide | omega):(0:Int)≤((7*i:Nat):Int)) (U e7 (U h2 (U h3 (U h4 trivial)))))))))))))
  | true=>
   have bF:=eq_of_beq h1
   cases h5:(decide ((1:Int)<((bL.toNat:Nat):Int))) with
   | false=>
    have ew:=of_decide_eq_false h5
    have fO:=(rfl:IntKind.u8.wrap ((BitVec.ofInt IntKind.u8.bits (((bL.toNat:Nat):Int)) &&& BitVec.ofInt IntKind.u8.bits (127)).toNat:Int)=IntKind.u8.wrap ((BitVec.ofInt IntKind.u8.bits (((bL.toNat:Nat):Int)) &&& BitVec.ofInt IntKind.u8.bits (127)).toNat:Int))
    have ey:=(rfl:IntKind.u64.wrap (IntKind.u8.wrap ((BitVec.ofInt IntKind.u8.bits (((bL.toNat:Nat):Int)) &&& BitVec.ofInt IntKind.u8.bits (127)).toNat:Int))=IntKind.u64.wrap (IntKind.u8.wrap ((BitVec.ofInt IntKind.u8.bits (((bL.toNat:Nat):Int)) &&& BitVec.ofInt IntKind.u8.bits (127)).toNat:Int)))
    have fP:=((wi (by omega)):IntKind.i64.wrap ((7:Int)*((i:Nat):Int))=((7*i:Nat):Int))
    have gT:=(rfl:IntKind.u64.wrap ((IntKind.u64.wrap (IntKind.u8.wrap ((BitVec.ofInt IntKind.u8.bits (((bL.toNat:Nat):Int)) &&& BitVec.ofInt IntKind.u8.bits (127)).toNat:Int)):Int)*2 ^ (min (((7*i:Nat):Int):Int).toNat IntKind.u64.bits))=IntKind.u64.wrap ((IntKind.u64.wrap (IntKind.u8.wrap ((BitVec.ofInt IntKind.u8.bits (((bL.toNat:Nat):Int)) &&& BitVec.ofInt IntKind.u8.bits (127)).toNat:Int)):Int)*2 ^ (min (((7*i:Nat):Int):Int).toNat IntKind.u64.bits)))
    have jR:=(rfl:IntKind.u64.wrap ((BitVec.ofInt IntKind.u64.bits (x) ||| BitVec.ofInt IntKind.u64.bits (IntKind.u64.wrap ((IntKind.u64.wrap (IntKind.u8.wrap ((BitVec.ofInt IntKind.u8.bits (((bL.toNat:Nat):Int)) &&& BitVec.ofInt IntKind.u8.bits (127)).toNat:Int)):Int)*2 ^ (min (((7*i:Nat):Int):Int).toNat IntKind.u64.bits)))).toNat:Int)=fh i x bL)
    cases h6:(decide ((((bL.toNat:Nat):Int):Int)<128)) with
    | false=>
     have eV:=of_decide_eq_false h6
     exact bT (todo':=hd Tryz.f91 0) mo tq hK ak [(5,[(0,.b true)]),(6,[(1,.ix (i) [.v (.int .u8 (((bL.toNat:Nat):Int)))])]),(7,[(1,.b true),(4,.b false)]),(9,[(2,.z (IntKind.u8.wrap ((BitVec.ofInt IntKind.u8.bits (((bL.toNat:Nat):Int)) &&& BitVec.ofInt IntKind.u8.bits (127)).toNat:Int))),(3,.z (IntKind.u64.wrap (IntKind.u8.wrap ((BitVec.ofInt IntKind.u8.bits (((bL.toNat:Nat):Int)) &&& BitVec.ofInt IntKind.u8.bits (127)).toNat:Int)))),(5,.z (((7*i:Nat):Int))),(6,.z (IntKind.u64.wrap ((IntKind.u64.wrap (IntKind.u8.wrap ((BitVec.ofInt IntKind.u8.bits (((bL.toNat:Nat):Int)) &&& BitVec.ofInt IntKind.u8.bits (127)).toNat:Int)):Int)*2 ^ (min (((7*i:Nat):Int):Int).toNat IntKind.u64.bits)))),(7,.z (fh i x bL))]),(10,[(1,.b false)]),(14,[(0,.z (((i+1:Nat):Int)))])] 2000 [0] [14,15,16,4] r (by kernel_rfl) (U h0 (U (aA ((i:Nat):Int)) (U (dM c9) (U h1 (U h5 (U fO (U ey (U fP (U gT (U ((by first | decide | omega):(0:Int)≤((7*i:Nat):Int)) (U jR (U h6 (U ((wi (by omega)):IntKind.i64.wrap ((((i:Nat):Int):Int)+1)=((i+1:Nat):Int)) trivial))))))))))))) fun ac wd r=>bH (by omega) ac wd ⟨fh i x bL,ao.next c9 (by rintro ⟨_,_⟩;omega) (by omega),r⟩
    | true=>
     have eV:=of_decide_eq_true h6
     cases h7:((((bL.toNat:Nat):Int):Int)==0) with
     | false=>
      have dZ:=ne_of_beq_false h7
      refine aQ (y:=.tu [.d (.v (.int .u64 (fh i x bL))),.n (i+1)]) (N':=[.bx 108 [.d (.ro 1 (ae l)),.d (.v (.bool false))]]) ((by first | exact (dw (ao.none (by omega))) | exact (dw (ao.wide c9 (by omega) (by omega))) | exact (dw (ao.zero c9 (by rintro ⟨_,_⟩;omega) (by omega) (by omega))) | exact (dw (ao.last c9 (by rintro ⟨_,_⟩;omega) (by omega) (by rintro ⟨_,_⟩;omega))))) (rfl) ?_
      exact aP mo tq hK rfl ak [(5,[(0,.b true)]),(6,[(1,.ix (i) [.v (.int .u8 (((bL.toNat:Nat):Int)))])]),(7,[(1,.b true),(4,.b false)]),(9,[(2,.z (IntKind.u8.wrap ((BitVec.ofInt IntKind.u8.bits (((bL.toNat:Nat):Int)) &&& BitVec.ofInt IntKind.u8.bits (127)).toNat:Int))),(3,.z (IntKind.u64.wrap (IntKind.u8.wrap ((BitVec.ofInt IntKind.u8.bits (((bL.toNat:Nat):Int)) &&& BitVec.ofInt IntKind.u8.bits (127)).toNat:Int)))),(5,.z (((7*i:Nat):Int))),(6,.z (IntKind.u64.wrap ((IntKind.u64.wrap (IntKind.u8.wrap ((BitVec.ofInt IntKind.u8.bits (((bL.toNat:Nat):Int)) &&& BitVec.ofInt IntKind.u8.bits (127)).toNat:Int)):Int)*2 ^ (min (((7*i:Nat):Int):Int).toNat IntKind.u64.bits)))),(7,.z (fh i x bL))]),(10,[(1,.b true)]),(11,[(1,.b false)]),(13,[(2,.z (((i+1:Nat):Int)))])] 2000 [0] r (by kernel_rfl) (U h0 (U (aA ((i:Nat):Int)) (U (dM c9) (U h1 (U h5 (U fO (U ey (U fP (U gT (U ((by first | decide | omega):(0:Int)≤((7*i:Nat):Int)) (U jR (U h6 (U h7 (U ((wi (by omega)):IntKind.i64.wrap ((((i:Nat):Int):Int)+1)=((i+1:Nat):Int)) trivial))))))))))))))
     | true=>
      have dZ:=eq_of_beq h7
      cases h8:(decide ((0:Int)<((i:Nat):Int))) with
      | false=>
       have e6:=of_decide_eq_false h8
       refine aQ (y:=.tu [.d (.v (.int .u64 (fh i x bL))),.n (i+1)]) (N':=[.bx 108 [.d (.ro 1 (ae l)),.d (.v (.bool false))]]) ((by first | exact (dw (ao.none (by omega))) | exact (dw (ao.wide c9 (by omega) (by omega))) | exact (dw (ao.zero c9 (by rintro ⟨_,_⟩;omega) (by omega) (by omega))) | exact (dw (ao.last c9 (by rintro ⟨_,_⟩;omega) (by omega) (by rintro ⟨_,_⟩;omega))))) (rfl) ?_
       exact aP mo tq hK rfl ak [(5,[(0,.b true)]),(6,[(1,.ix (i) [.v (.int .u8 (((bL.toNat:Nat):Int)))])]),(7,[(1,.b true),(4,.b false)]),(9,[(2,.z (IntKind.u8.wrap ((BitVec.ofInt IntKind.u8.bits (((bL.toNat:Nat):Int)) &&& BitVec.ofInt IntKind.u8.bits (127)).toNat:Int))),(3,.z (IntKind.u64.wrap (IntKind.u8.wrap ((BitVec.ofInt IntKind.u8.bits (((bL.toNat:Nat):Int)) &&& BitVec.ofInt IntKind.u8.bits (127)).toNat:Int)))),(5,.z (((7*i:Nat):Int))),(6,.z (IntKind.u64.wrap ((IntKind.u64.wrap (IntKind.u8.wrap ((BitVec.ofInt IntKind.u8.bits (((bL.toNat:Nat):Int)) &&& BitVec.ofInt IntKind.u8.bits (127)).toNat:Int)):Int)*2 ^ (min (((7*i:Nat):Int):Int).toNat IntKind.u64.bits)))),(7,.z (fh i x bL))]),(10,[(1,.b true)]),(11,[(1,.b true),(4,.b false)]),(13,[(2,.z (((i+1:Nat):Int)))])] 2000 [0] r (by kernel_rfl) (U h0 (U (aA ((i:Nat):Int)) (U (dM c9) (U h1 (U h5 (U fO (U ey (U fP (U gT (U ((by first | decide | omega):(0:Int)≤((7*i:Nat):Int)) (U jR (U h6 (U h7 (U h8 (U ((wi (by omega)):IntKind.i64.wrap ((((i:Nat):Int):Int)+1)=((i+1:Nat):Int)) trivial)))))))))))))))
      | true=>
       have e6:=of_decide_eq_true h8
       refine aQ (y:=.tu [.d (.v (.int .u64 0)),.z 0]) (N':=[.bx 108 [.d (.ro 1 (ae l)),.d (.v (.bool false))]]) ((by first | exact (dw (ao.none (by omega))) | exact (dw (ao.wide c9 (by omega) (by omega))) | exact (dw (ao.zero c9 (by rintro ⟨_,_⟩;omega) (by omega) (by omega))) | exact (dw (ao.last c9 (by rintro ⟨_,_⟩;omega) (by omega) (by rintro ⟨_,_⟩;omega))))) (rfl) ?_
       exact aP mo tq hK rfl ak [(5,[(0,.b true)]),(6,[(1,.ix (i) [.v (.int .u8 (((bL.toNat:Nat):Int)))])]),(7,[(1,.b true),(4,.b false)]),(9,[(2,.z (IntKind.u8.wrap ((BitVec.ofInt IntKind.u8.bits (((bL.toNat:Nat):Int)) &&& BitVec.ofInt IntKind.u8.bits (127)).toNat:Int))),(3,.z (IntKind.u64.wrap (IntKind.u8.wrap ((BitVec.ofInt IntKind.u8.bits (((bL.toNat:Nat):Int)) &&& BitVec.ofInt IntKind.u8.bits (127)).toNat:Int)))),(5,.z (((7*i:Nat):Int))),(6,.z (IntKind.u64.wrap ((IntKind.u64.wrap (IntKind.u8.wrap ((BitVec.ofInt IntKind.u8.bits (((bL.toNat:Nat):Int)) &&& BitVec.ofInt IntKind.u8.bits (127)).toNat:Int)):Int)*2 ^ (min (((7*i:Nat):Int):Int).toNat IntKind.u64.bits)))),(7,.z (fh i x bL))]),(10,[(1,.b true)]),(11,[(1,.b true),(4,.b true)])] 2000 [0] r (by kernel_rfl) (U h0 (U (aA ((i:Nat):Int)) (U (dM c9) (U h1 (U h5 (U fO (U ey (U fP (U gT (U ((by first | decide | omega):(0:Int)≤((7*i:Nat):Int)) (U jR (U h6 (U h7 (U h8 trivial))))))))))))))
   | true=>
    have ew:=of_decide_eq_true h5
    refine aQ (y:=.tu [.d (.v (.int .u64 0)),.z 0]) (N':=[.bx 108 [.d (.ro 1 (ae l)),.d (.v (.bool false))]]) ((by first | exact (dw (ao.none (by omega))) | exact (dw (ao.wide c9 (by omega) (by omega))) | exact (dw (ao.zero c9 (by rintro ⟨_,_⟩;omega) (by omega) (by omega))) | exact (dw (ao.last c9 (by rintro ⟨_,_⟩;omega) (by omega) (by rintro ⟨_,_⟩;omega))))) (rfl) ?_
    exact aP mo tq hK rfl ak [(5,[(0,.b true)]),(6,[(1,.ix (i) [.v (.int .u8 (((bL.toNat:Nat):Int)))])]),(7,[(1,.b true),(4,.b true)])] 2000 [0] r (by kernel_rfl) (U h0 (U (aA ((i:Nat):Int)) (U (dM c9) (U h1 (U h5 trivial)))))
theorem aq.nil {P:Program} {f:FuncId} {args:List AV} {M M':List ai} {k:Nat} (h:aq P f args M (.d (.v (.slice none 0 0))) M'):aq P f args M (.d (.ro k [])) M':=by
 refine ⟨h.1,fun ys R hK hl hr=>(h.2 ys R hK hl hr).mono ?_⟩
 rintro e w' ⟨v,rfl,ay,F',I',R',e1,hI,ha⟩
 refine ⟨v,rfl,ay,F',I',R',e1,hI,?_⟩
 cases ha with
 | d hd=>
  cases hd with
  | v=>exact .d (.ro (fun _=>[]) (by simp) ⟨none,0,rfl,Nat.le_refl _⟩ (fun w hw=>⟨by simp [lay],Or.inl ⟨rfl,none,0,rfl⟩⟩) (by simp))
def e9 (l:List UInt8) (b:Bool) (z:Int):Prop:=b=true∨z<0∨(l.length:Int)<z
instance {l:List UInt8} {b:Bool} {z:Int}:Decidable (e9 l b z):=by unfold e9;infer_instance
def au (l:List UInt8) (b:Bool) (z:Int):List UInt8:=if e9 l b z then [] else l.take z.toNat
def dJ (l:List UInt8) (b:Bool) (z:Int):List UInt8:=if e9 l b z then l else l.drop z.toNat
def dR (l:List UInt8) (b:Bool) (z:Int):Bool:=if e9 l b z then true else false
def gU (l:List UInt8) (b:Bool):List ai:=[.bx 108 [.d (.ro 1 (ae l)),.d (.v (.bool b))]]
theorem nz:dm Tryz.prog 61:=by unfold dm;kernel_rfl
theorem vB (l:List UInt8) (b:Bool) (z:Int):aq Tryz.prog 92 [.pt 0 0,.z z] (gU l b) (.d (.ro 1 (ae (au l b z)))) (gU (dJ l b z) (dR l b z)):=by
 unfold au dJ dR
 by_cases h:e9 l b z
 ·rw [if_pos h,if_pos h,if_pos h]
  cases b with
  | true=>exact (IK l z).nil
  | false=>
   rcases h.resolve_left (by decide) with h1 | h1
   ·exact (IJ l z h1).nil
   ·obtain ⟨n,rfl⟩:=Int.eq_ofNat_of_zero_le (show 0≤z by omega)
    exact (Hh l n (by omega)).nil
 ·rw [if_neg h,if_neg h,if_neg h]
  unfold e9 at h
  obtain ⟨n,rfl⟩:=Int.eq_ofNat_of_zero_le (show 0≤z by omega)
  cases b with
  | true=>exact absurd (Or.inl rfl) h
  | false=>exact II l n (by omega)
def ez (l:List UInt8) (b:Bool):Int×Nat:=if b=true then (0,0) else fK l 0 0
theorem BI (l:List UInt8) (b:Bool):aq Tryz.prog 91 [.pt 0 0] (gU l b) (.tu [.d (.v (.int .u64 (ez l b).1)),.n (ez l b).2]) (gU l b):=by
 cases b with
 | true=>exact JX l
 | false=>exact Ll l
theorem BJ {l:List UInt8} {b:Bool} {z:Int}:(dJ l b z).length≤l.length:=by unfold dJ;split<;>simp
def ng (l:List UInt8) (b:Bool):List UInt8:=if (ez l b).2=0 then l else dJ l b (ez l b).2
def oa (l:List UInt8) (b:Bool):Bool:=if (ez l b).2=0 then true else dR l b (ez l b).2
def lW (l:List UInt8) (b:Bool):Int:=if (ez l b).2=0 then 0 else (ez l b).1
theorem JY {l:List UInt8} {b:Bool}:(ng l b).length≤l.length:=by unfold ng;split<;>first | exact Nat.le_refl _ | exact BJ
set_option maxRecDepth 100000 in
theorem IL (l:List UInt8) (b:Bool):aq Tryz.prog 64 [.pt 0 0] [.bx 108 [.d (.ro 1 (ae l)),.d (.v (.bool b))]] (.d (.v (.int .u64 (lW l b)))) (gU (ng l b) (oa l b)):=by
 refine aq.intro (by kernel_rfl) rfl rfl 26 rfl rfl fun D w0 K bs ac wd hK (ak:bs.m=1) r=>?_
 cases h0:(((((ez l b).2:Nat):Int):Int)==0) with
 | false=>
  have aK:=ne_of_beq_false h0
  refine aQ (y:=.d (.v (.int .u64 ((ez l b).1)))) (N':=[.bx 108 [.d (.ro 1 (ae (dJ l b (ez l b).2))),.d (.v (.bool ((dR l b (ez l b).2))))]]) ((by unfold lW;first | rw [if_pos (by omega)] | rw [if_neg (by omega)])) ((by unfold ng oa;first | (rw [if_pos (by omega),if_pos (by omega)];rfl) | (rw [if_neg (by omega),if_neg (by omega)];rfl))) ?_
  exact aP mo tq hK rfl ak [(3,[(3,.mem [0] (.tu [.d (.v (.int .u64 ((ez l b).1))),.n ((ez l b).2)]) [.bx 108 [.d (.ro 1 (ae l)),.d (.v (.bool b))]])]),(4,[(1,.b false)]),(7,[(4,.mem [0] (.d (.ro 1 (ae (au l b (ez l b).2)))) [.bx 108 [.d (.ro 1 (ae (dJ l b (ez l b).2))),.d (.v (.bool ((dR l b (ez l b).2))))]])])] 2000 [0] r (by kernel_rfl) (U (nz:dm Tryz.prog 61) (U (BI l b) (U h0 (U (vB l b (ez l b).2) trivial))))
 | true=>
  have aK:=eq_of_beq h0
  refine aQ (y:=.d (.v (.int .u64 0))) (N':=[.bx 108 [.d (.ro 1 (ae l)),.d (.v (.bool true))]]) ((by unfold lW;first | rw [if_pos (by omega)] | rw [if_neg (by omega)])) ((by unfold ng oa;first | (rw [if_pos (by omega),if_pos (by omega)];rfl) | (rw [if_neg (by omega),if_neg (by omega)];rfl))) ?_
  exact aP mo tq hK rfl ak [(3,[(3,.mem [0] (.tu [.d (.v (.int .u64 ((ez l b).1))),.n ((ez l b).2)]) [.bx 108 [.d (.ro 1 (ae l)),.d (.v (.bool b))]])]),(4,[(1,.b true)])] 2000 [0] r (by kernel_rfl) (U (nz:dm Tryz.prog 61) (U (BI l b) (U h0 trivial)))
set_option maxRecDepth 100000 in
theorem Be (l:List UInt8) (b:Bool):aq Tryz.prog 35 [.pt 0 0] [.bx 108 [.d (.ro 1 (ae l)),.d (.v (.bool b))]] (.n l.length) ([.bx 108 [.d (.ro 1 (ae l)),.d (.v (.bool b))]]):=by
 refine aq.intro (by kernel_rfl) rfl rfl 11 rfl rfl fun D w0 K bs ac wd hK (ak:bs.m=1) r=>?_
 refine aQ (y:=.n l.length) (N':=[.bx 108 [.d (.ro 1 (ae l)),.d (.v (.bool b))]]) (rfl) (rfl) ?_
 exact aP mo tq hK rfl ak [(3,[(5,.z (((l.length:Nat):Int)))])] 2000 [0] r (by kernel_rfl) (U (nz:dm Tryz.prog 61) (U ((by first | rfl | simp [ae,ah,ints,steps,strs]):(((ae l).length:Nat):Int)=((l.length:Nat):Int)) trivial))
set_option maxRecDepth 100000 in
theorem Hj (l:List UInt8):aq Tryz.prog 34 [.pt 0 0] [.bx 108 [.d (.ro 1 (ae l)),.d (.v (.bool true))]] (.z 3) ([.bx 108 [.d (.ro 1 (ae l)),.d (.v (.bool true))]]):=by
 refine aq.intro (by kernel_rfl) rfl rfl 12 rfl rfl fun D w0 K bs ac wd hK (ak:bs.m=1) r=>?_
 refine aQ (y:=.z 3) (N':=[.bx 108 [.d (.ro 1 (ae l)),.d (.v (.bool true))]]) (rfl) (rfl) ?_
 exact aP mo tq hK rfl ak [] 2000 [0] r (by kernel_rfl) (U (nz:dm Tryz.prog 61) trivial)
set_option maxRecDepth 100000 in
theorem FQ (l:List UInt8):aq Tryz.prog 34 [.pt 0 0] [.bx 108 [.d (.ro 1 (ae l)),.d (.v (.bool false))]] (.z 0) ([.bx 108 [.d (.ro 1 (ae l)),.d (.v (.bool false))]]):=by
 refine aq.intro (by kernel_rfl) rfl rfl 12 rfl rfl fun D w0 K bs ac wd hK (ak:bs.m=1) r=>?_
 refine aQ (y:=.z 0) (N':=[.bx 108 [.d (.ro 1 (ae l)),.d (.v (.bool false))]]) (rfl) (rfl) ?_
 exact aP mo tq hK rfl ak [] 2000 [0] r (by kernel_rfl) (U (nz:dm Tryz.prog 61) trivial)
theorem qw (l:List UInt8) (b:Bool):aq Tryz.prog 34 [.pt 0 0] (gU l b) (.z (if b=true then 3 else 0)) (gU l b):=by
 cases b with
 | true=>exact Hj l
 | false=>exact FQ l
set_option maxRecDepth 100000 in
theorem qc (l:List UInt8) (hb:l.length<2147483648):aq Tryz.prog 32 [.d (.ro 1 (ae l))] [] (.pt 0 0) (gU l false):=by
 refine aq.intro (by kernel_rfl) rfl rfl 8 rfl rfl fun D w0 K bs ac wd hK (ak:bs.m=0) r=>?_
 refine aQ (y:=.pt 0 0) (N':=[.bx 108 [.d (.ro 1 (ae l)),.d (.v (.bool false))]]) (rfl) (rfl) ?_
 exact aP mo tq hK rfl ak [(1,[(1,.aV (.ro 1 (ae l)))])] 2000 [0] r (by kernel_rfl) (U (z8 l hb) trivial)
end Go.Proofs.YtcnpikbbmbombaaGreatDoor
namespace Go.Proofs.YtcnpikbbmbombaaGreatDoor
open Go.RowKit
def DE (i:Nat) (y x:Int):Int:=IntKind.u64.wrap ((BitVec.ofInt IntKind.u64.bits x ||| BitVec.ofInt IntKind.u64.bits (IntKind.u64.wrap (IntKind.u64.wrap y*2 ^ (min ((8*i:Nat):Int).toNat IntKind.u64.bits)))).toNat:Int)
theorem IM {i:Nat} {y x:Nat} (hi:i<8) (hy:y<256) (hx:x<256 ^ i):DE i (y:Int) (x:Int)=((x+y*256 ^ i:Nat):Int):=by
 have p8:(256:Nat) ^ i=2 ^ (8*i):=by rw [Nat.pow_mul]
 have hle:y*256 ^ i+256 ^ i≤256 ^ (i+1):=by
  rw [Nat.pow_succ,Nat.mul_comm (256 ^ i) 256]
  have:=Nat.mul_le_mul_right (256 ^ i) (show y+1≤256 by omega)
  rw [Nat.add_mul,Nat.one_mul] at this;exact this
 have Pn:(256:Nat) ^ (i+1)≤256 ^ 8:=Nat.pow_le_pow_right (by decide) (by omega)
 have e8:(256:Nat) ^ 8=18446744073709551616:=by decide
 have w1:IntKind.u64.wrap (y:Int)=(y:Int):=by simp [IntKind.wrap,IntKind.signed,IntKind.bits];omega
 have mG:(min ((8*i:Nat):Int).toNat IntKind.u64.bits)=8*i:=by simp [IntKind.bits];omega
 have hm:((y:Int)*2 ^ (8*i))=((y*256 ^ i:Nat):Int):=by rw [p8];push_cast;rfl
 unfold DE
 rw [w1,mG,hm]
 have w2:IntKind.u64.wrap ((y*256 ^ i:Nat):Int)=((y*256 ^ i:Nat):Int):=by
  generalize y*256 ^ i=q at *
  simp [IntKind.wrap,IntKind.signed,IntKind.bits];omega
 rw [w2]
 have h1:(BitVec.ofInt 64 (x:Int) ||| BitVec.ofInt 64 ((y*256 ^ i:Nat):Int)).toNat=x+y*256 ^ i:=by
  rw [BitVec.toNat_or]
  have a1:(BitVec.ofInt 64 (x:Int)).toNat=x:=by
   have:x<18446744073709551616:=by omega
   rw [BitVec.ofInt_natCast,BitVec.toNat_ofNat];omega
  have a2:(BitVec.ofInt 64 ((y*256 ^ i:Nat):Int)).toNat=y*256 ^ i:=by
   have:y*256 ^ i<18446744073709551616:=by omega
   rw [BitVec.ofInt_natCast,BitVec.toNat_ofNat];omega
  rw [a1,a2,p8,Nat.mul_comm y,Nat.or_comm,← Nat.two_pow_add_eq_or_of_lt (by rw [← p8];exact hx)];omega
 show IntKind.u64.wrap ((BitVec.ofInt 64 (x:Int) ||| BitVec.ofInt 64 ((y*256 ^ i:Nat):Int)).toNat:Int)=_
 rw [h1]
 generalize x+y*256 ^ i=q at *
 simp [IntKind.wrap,IntKind.signed,IntKind.bits];omega
def fC (X:List UInt8):Nat→Nat
 | 0=>0
 | i+1=>fC X i+(X.getD i 0).toNat*256 ^ i
def bD (X:List UInt8) (i:Nat):DV:=.v (.int .u8 (((X.getD i 0).toNat:Nat):Int))
theorem BK (X:List UInt8):∀ i,fC X i<256 ^ i
 | 0=>Nat.one_pos
 | i+1=>by
  have h:=BK X i
  have hb:=(X.getD i 0).toNat_lt
  have:=Nat.mul_le_mul_right (256 ^ i) (show (X.getD i 0).toNat+1≤256 by omega)
  rw [fC,Nat.pow_succ];rw [Nat.add_mul,Nat.one_mul] at this;omega
theorem AB {l:List UInt8} {k:Nat} (h:l.length≤k):l.getD k 0=0:=by rw [List.getD_eq_getElem?_getD,List.getElem?_eq_none h];rfl
theorem Lm:∀ X:List UInt8,X.length≤8→List.take (min (ae X).length 8*1) (List.map AV.d (List.flatten (ae X)))++List.drop (List.take (min (ae X).length 8*1) (List.map AV.d (List.flatten (ae X)))).length ([.d (.v (.int .u8 0)),.d (.v (.int .u8 0)),.d (.v (.int .u8 0)),.d (.v (.int .u8 0)),.d (.v (.int .u8 0)),.d (.v (.int .u8 0)),.d (.v (.int .u8 0)),.d (.v (.int .u8 0))]:List AV)=List.map AV.d [bD X 0,bD X 1,bD X 2,bD X 3,bD X 4,bD X 5,bD X 6,bD X 7]
 | [],_=>rfl | [_],_=>rfl | [_,_],_=>rfl | [_,_,_],_=>rfl | [_,_,_,_],_=>rfl | [_,_,_,_,_],_=>rfl | [_,_,_,_,_,_],_=>rfl | [_,_,_,_,_,_,_],_=>rfl | [_,_,_,_,_,_,_,_],_=>rfl
 | _::_::_::_::_::_::_::_::_::_,h=>by simp at h
theorem Ln (X:List UInt8):∀ {i:Nat},i<8→nY tb 5 ([bD X 0,bD X 1,bD X 2,bD X 3,bD X 4,bD X 5,bD X 6,bD X 7].map AV.d) (i*1)=some (.d (bD X i))
 | 0,_=>by kernel_rfl | 1,_=>by kernel_rfl | 2,_=>by kernel_rfl | 3,_=>by kernel_rfl | 4,_=>by kernel_rfl | 5,_=>by kernel_rfl | 6,_=>by kernel_rfl | 7,_=>by kernel_rfl
 | _+8,h=>by omega
theorem mj (l:List UInt8) (b:Bool) (n:Nat):(au l b n).length≤n:=by unfold au;split;exact Nat.zero_le _;simp;omega
set_option maxRecDepth 100000 in
theorem BL (l:List UInt8) (b:Bool) (n:Nat) (hn:n≤8):aq Tryz.prog 90 [.pt 0 0,.n n] [.bx 108 [.d (.ro 1 (ae l)),.d (.v (.bool b))]] (.u (fC (au l b n) 8)) (gU (dJ l b n) (dR l b n)):=by
 refine aq.intro (by kernel_rfl) rfl rfl 32 rfl rfl fun D w0 K bs ac wd hK (ak:bs.m=1) r=>?_
 refine bT (todo':=hd Tryz.f90 0) (E':=[(6,.u (fC (au l b n) 0)),(18,.ag [.d (bD (au l b n) 0),.d (bD (au l b n) 1),.d (bD (au l b n) 2),.d (bD (au l b n) 3),.d (bD (au l b n) 4),.d (bD (au l b n) 5),.d (bD (au l b n) 6),.d (bD (au l b n) 7)]),(19,.n 0)]) (M':=[.bx 108 [.d (.ro 1 (ae (dJ l b n))),.d (.v (.bool ((dR l b n))))]]) mo tq hK ak [(3,[(0,.b true)]),(4,[(5,.mem [0] (.d (.ro 1 (ae (au l b n)))) [.bx 108 [.d (.ro 1 (ae (dJ l b n))),.d (.v (.bool ((dR l b n))))]]),(6,.res (.ag [bD (au l b n) 0,bD (au l b n) 1,bD (au l b n) 2,bD (au l b n) 3,bD (au l b n) 4,bD (au l b n) 5,bD (au l b n) 6,bD (au l b n) 7]))])] 2000 [0] [6,18,19] r (by kernel_rfl) (U (nz:dm Tryz.prog 61) (U (vB l b n) (U ((by simp [bd,AV.one,bW,ae]):bd (ae (au l b n))) (U ((Lm (au l b n) (Nat.le_trans (mj l b n) hn)):(List.take (min (ae (au l b n)).length 8*1) (List.map AV.d (List.flatten (ae (au l b n)))))++List.drop (List.take (min (ae (au l b n)).length 8*1) (List.map AV.d (List.flatten (ae (au l b n))))).length ([.d (.v (.int .u8 0)),.d (.v (.int .u8 0)),.d (.v (.int .u8 0)),.d (.v (.int .u8 0)),.d (.v (.int .u8 0)),.d (.v (.int .u8 0)),.d (.v (.int .u8 0)),.d (.v (.int .u8 0))]:List AV)=List.map AV.d [bD (au l b n) 0,bD (au l b n) 1,bD (au l b n) 2,bD (au l b n) 3,bD (au l b n) 4,bD (au l b n) 5,bD (au l b n) 6,bD (au l b n) 7]) trivial)))) fun ac wd r=>?_
 refine aC.rounds (Φ:=fun (i:Nat) ac wd=>(i≤8)∧RB D w0 K 32 bs [(6,.u (fC (au l b n) i)),(18,.ag [.d (bD (au l b n) 0),.d (bD (au l b n) 1),.d (bD (au l b n) 2),.d (bD (au l b n) 3),.d (bD (au l b n) 4),.d (bD (au l b n) 5),.d (bD (au l b n) 6),.d (bD (au l b n) 7)]),(19,.n i)] [.bx 108 [.d (.ro 1 (ae (dJ l b n))),.d (.v (.bool ((dR l b n))))]] ac wd) (8) ?_ (Nat.zero_le _) ⟨(Nat.zero_le _),r⟩
 clear r
 rintro i dI bH ac wd ⟨ao,r⟩
 cases h0:(decide ((((i:Nat):Int):Int)<8)) with
 | false=>
  have aK:=of_decide_eq_false h0
  refine aQ (y:=.u (fC (au l b n) i)) (N':=[.bx 108 [.d (.ro 1 (ae (dJ l b n))),.d (.v (.bool ((dR l b n))))]]) ((by rw [show i=8 by omega])) (rfl) ?_
  exact aP mo tq hK rfl ak [(7,[(0,.b false)])] 2000 [0] r (by kernel_rfl) (U h0 trivial)
 | true=>
  have aK:=of_decide_eq_true h0
  exact bT (todo':=hd Tryz.f90 0) mo tq hK ak [(7,[(0,.b true)]),(8,[(1,.ix (i) [.v (.int .u8 (((((au l b n).getD i 0).toNat:Nat):Int)))])]),(9,[(2,.z (IntKind.u64.wrap ((((au l b n).getD i 0).toNat:Nat):Int))),(4,.z (((8*i:Nat):Int))),(5,.z (IntKind.u64.wrap (IntKind.u64.wrap ((((au l b n).getD i 0).toNat:Nat):Int)*2 ^ (min ((8*i:Nat):Int).toNat IntKind.u64.bits)))),(6,.z (((fC (au l b n) (i+1):Nat):Int)))]),(10,[(0,.z (((i+1:Nat):Int)))])] 2000 [0] [6,18,19] r (by kernel_rfl) (U h0 (U (aA ((i:Nat):Int)) (U ((by first | omega | decide | (simp;done) | (simp;omega)):(i)<8) (U ((Ln (au l b n) (by omega)):nY tb 5 [.d (bD (au l b n) 0),.d (bD (au l b n) 1),.d (bD (au l b n) 2),.d (bD (au l b n) 3),.d (bD (au l b n) 4),.d (bD (au l b n) 5),.d (bD (au l b n) 6),.d (bD (au l b n) 7)] ((i)*1)=some (.d (.v (.int .u8 (((((au l b n).getD i 0).toNat:Nat):Int)))))) (U (rfl:IntKind.u64.wrap (((((au l b n).getD i 0).toNat:Nat):Int))=IntKind.u64.wrap ((((au l b n).getD i 0).toNat:Nat):Int)) (U ((wi (by omega)):IntKind.i64.wrap ((8:Int)*((i:Nat):Int))=((8*i:Nat):Int)) (U (rfl:IntKind.u64.wrap ((IntKind.u64.wrap ((((au l b n).getD i 0).toNat:Nat):Int):Int)*2 ^ (min (((8*i:Nat):Int):Int).toNat IntKind.u64.bits))=IntKind.u64.wrap (IntKind.u64.wrap ((((au l b n).getD i 0).toNat:Nat):Int)*2 ^ (min ((8*i:Nat):Int).toNat IntKind.u64.bits))) (U ((by first | decide | omega):(0:Int)≤((8*i:Nat):Int)) (U ((IM (by omega) (UInt8.toNat_lt _) (BK _ _)):IntKind.u64.wrap ((BitVec.ofInt IntKind.u64.bits (((fC (au l b n) i:Nat):Int)) ||| BitVec.ofInt IntKind.u64.bits (IntKind.u64.wrap (IntKind.u64.wrap ((((au l b n).getD i 0).toNat:Nat):Int)*2 ^ (min ((8*i:Nat):Int).toNat IntKind.u64.bits)))).toNat:Int)=((fC (au l b n) (i+1):Nat):Int)) (U ((wi (by omega)):IntKind.i64.wrap ((((i:Nat):Int):Int)+1)=((i+1:Nat):Int)) trivial)))))))))) fun ac wd r=>bH (by omega) ac wd ⟨(by omega),r⟩
theorem xB {X:List UInt8} {n:Nat} (h:X.length≤n):∀ k,fC X (n+k)=fC X n
 | 0=>rfl
 | k+1=>by rw [← Nat.add_assoc,fC,xB h k,AB (by omega)];simp
theorem Lo {X:List UInt8} (h:X.length≤1):fC X 8=(X.getD 0 0).toNat:=by rw [xB (n:=1) h 7];simp [fC]
theorem Lp {X:List UInt8} (h:X.length≤2):fC X 8=(X.getD 0 0).toNat+(X.getD 1 0).toNat*256:=by rw [xB (n:=2) h 6];simp [fC]
theorem w8 {z:Int} (h:0≤z∧z≤255):IntKind.u8.wrap z=z:=by simp [IntKind.wrap,IntKind.signed,IntKind.bits];omega
theorem N8 {z:Int} (h:0≤z∧z≤65535):IntKind.u16.wrap z=z:=by simp [IntKind.wrap,IntKind.signed,IntKind.bits];omega
set_option maxRecDepth 100000 in
theorem DF (l:List UInt8) (b:Bool):aq Tryz.prog 62 [.pt 0 0] [.bx 108 [.d (.ro 1 (ae l)),.d (.v (.bool b))]] (.d (.v (.int .u8 ((((au l b 1).getD 0 0).toNat:Nat):Int)))) (gU (dJ l b 1) (dR l b 1)):=by
 refine aq.intro (by kernel_rfl) rfl rfl 6 rfl rfl fun D w0 K bs ac wd hK (ak:bs.m=1) r=>?_
 refine aQ (y:=.d (.v (.int .u8 (((((au l b 1).getD 0 0).toNat:Nat):Int))))) (N':=[.bx 108 [.d (.ro 1 (ae (dJ l b 1))),.d (.v (.bool ((dR l b 1))))]]) (rfl) (rfl) ?_
 exact aP mo tq hK rfl ak [(1,[(1,.mem [0] (.u (fC (au l b 1) 8)) [.bx 108 [.d (.ro 1 (ae (dJ l b 1))),.d (.v (.bool ((dR l b 1))))]]),(2,.z (((((au l b 1).getD 0 0).toNat:Nat):Int)))])] 2000 [0] r (by kernel_rfl) (U (BL l b 1 (by decide)) (U ((by rw [Lo (X:=au l b 1) (mj l b 1)];exact w8 (by have:=((au l b 1).getD 0 0).toNat_lt;have:=((au l b 1).getD 1 0).toNat_lt;omega)):IntKind.u8.wrap (((fC (au l b 1) 8:Nat):Int))=((((au l b 1).getD 0 0).toNat:Nat):Int)) trivial))
set_option maxRecDepth 100000 in
theorem MV (l:List UInt8) (b:Bool):aq Tryz.prog 63 [.pt 0 0] [.bx 108 [.d (.ro 1 (ae l)),.d (.v (.bool b))]] (.d (.v (.int .u16 (((((au l b 2).getD 0 0).toNat+((au l b 2).getD 1 0).toNat*256):Nat):Int)))) (gU (dJ l b 2) (dR l b 2)):=by
 refine aq.intro (by kernel_rfl) rfl rfl 6 rfl rfl fun D w0 K bs ac wd hK (ak:bs.m=1) r=>?_
 refine aQ (y:=.d (.v (.int .u16 ((((((au l b 2).getD 0 0).toNat+((au l b 2).getD 1 0).toNat*256):Nat):Int))))) (N':=[.bx 108 [.d (.ro 1 (ae (dJ l b 2))),.d (.v (.bool ((dR l b 2))))]]) (rfl) (rfl) ?_
 exact aP mo tq hK rfl ak [(1,[(1,.mem [0] (.u (fC (au l b 2) 8)) [.bx 108 [.d (.ro 1 (ae (dJ l b 2))),.d (.v (.bool ((dR l b 2))))]]),(2,.z ((((((au l b 2).getD 0 0).toNat+((au l b 2).getD 1 0).toNat*256):Nat):Int)))])] 2000 [0] r (by kernel_rfl) (U (BL l b 2 (by decide)) (U ((by rw [Lp (X:=au l b 2) (mj l b 2)];exact N8 (by have:=((au l b 2).getD 0 0).toNat_lt;have:=((au l b 2).getD 1 0).toNat_lt;omega)):IntKind.u16.wrap (((fC (au l b 2) 8:Nat):Int))=(((((au l b 2).getD 0 0).toNat+((au l b 2).getD 1 0).toNat*256):Nat):Int)) trivial))
end Go.Proofs.YtcnpikbbmbombaaGreatDoor
namespace Go.Proofs.YtcnpikbbmbombaaGreatDoor
open Go.RowKit
theorem ob {a b:List UInt8} (h:a=b) (r:List ai):(ai.rw 91 1 [[.em 5 1 (ae a)]]::r)=ai.rw 91 1 [[.em 5 1 (ae b)]]::r:=by rw [h]
def fz (l:List (Int×Int)):List UInt8:=l.flatMap fun x=>[bz x.1,bz x.2]
def cY (c:cE):List UInt8:=[bz c.aL]++[bz ((c.ah.length:Nat):Int)]++fz c.ah++[bz ((c.homes.length:Nat):Int)]++c.homes.map bz
def qZ (x:jQ) (s:aM):List UInt8:=(if x.node then [bz s.node] else [])++(if x.peer then [bz s.peer] else [])++(if x.n then [bz s.n] else [])++(if x.bit then [bz s.bit,bz (s.bit / 256)] else [])++(if x.inc then eE s.inc else [])++(if x.body then bz ((s.body.length:Nat):Int)::s.body else [])
def fo (s:aM):List UInt8:=bz s.kind::qZ (af s.kind.toNat) s
theorem qJ {α:Type} {b:Bool} {l:List α} {n:Nat} (h:l.length≤n):(if b=true then l else []).length≤n:=by split;exact h;exact Nat.zero_le _
theorem iB (l:List (Int×Int)):(fz l).length=2*l.length:=by
 unfold fz;induction l with
 | nil=>rfl
 | cons x r ih=>rw [List.flatMap_cons,List.length_append,ih];simp;omega
theorem FR {l:List (Int×Int)} {i:Nat} {x:Int×Int} (h:l[i]?=some x):fz (l.take (i+1))=fz (l.take i)++[bz x.1,bz x.2]:=by
 unfold fz;rw [List.take_add_one,h];simp
theorem EU {l:List Int} {i:Nat} {x:Int} (h:l[i]?=some x):(l.take (i+1)).map bz=(l.take i).map bz++[bz x]:=by
 rw [List.take_add_one,h];simp
theorem zJ:∀ (k x:Nat),x<128 ^ (k+1)→(eE x).length≤k+1
 | 0,x,h=>by rw [uI (by omega)];simp
 | k+1,x,h=>by
  by_cases hx:x<128
  ·rw [uI hx];simp
  ·rw [z7 hx]
   have:=zJ k (x / 128) (by rw [Nat.div_lt_iff_lt_mul (by decide),← Nat.pow_succ];exact h)
   simp;omega
theorem fE {x:Nat} (h:x<18446744073709551616):(eE x).length≤10:=zJ 9 x (Nat.lt_of_lt_of_le h (by decide))
theorem MW {z:Int} (h:0≤z) (h2:z≤65535):IntKind.u16.wrap z=((z.toNat:Nat):Int):=by
 simp [IntKind.wrap,IntKind.signed,IntKind.bits];omega
set_option maxRecDepth 100000 in
theorem JZ (l:List UInt8) (c:cE) (hl:l.length≤16777216) (hc:c.ah.length≤1048576) (hh:c.homes.length≤1048576):aq Tryz.prog 23 [.ep 0 1 (0) 0,.ag [.z c.aL,.d (.ro 2 (ah c.ah)),.d (.ro 1 (ints c.homes))]] [.rw 91 1 ([[.em 5 1 (ae l)]])] (.tu []) (je (l++cY c)):=by
 refine aq.intro (by kernel_rfl) rfl rfl 55 rfl rfl fun D w0 K bs ac wd hK (ak:bs.m=1) r=>?_
 refine bT (todo':=hd Tryz.f23 0) (E':=[(0,.ep 0 1 (0) 0),(3,.pt 1 0),(20,.d (.ro 2 (ah c.ah))),(21,.n c.ah.length),(22,.z 0)]) (M':=[.rw 91 1 ([[.em 5 1 (ae ((l++[(bz c.aL)])++[(bz ((c.ah.length:Nat):Int))]))]]),.bx 25 [.z c.aL,.d (.ro 2 (ah c.ah)),.d (.ro 1 (ints c.homes))]]) mo tq hK ak [(1,[(3,.z ((((bz c.aL).toNat:Nat):Int))),(4,.mem [0] (.tu []) [.rw 91 1 ([[.em 5 1 (ae (l++[(bz c.aL)]))]])])]),(2,[(3,.z (((c.ah.length:Nat):Int))),(4,.z ((((bz ((c.ah.length:Nat):Int)).toNat:Nat):Int))),(5,.mem [0] (.tu []) [.rw 91 1 ([[.em 5 1 (ae ((l++[(bz c.aL)])++[(bz ((c.ah.length:Nat):Int))]))]])])]),(3,[(2,.z (((c.ah.length:Nat):Int)))])] 2000 [0,1] [0,3,20,21,22] r (by kernel_rfl) (U ((ir _):IntKind.u8.wrap (c.aL)=(((bz c.aL).toNat:Nat):Int)) (U (kh l (bz c.aL) (by first | omega | (simp [iB,fE];omega))) (U ((by first | rfl | simp [ae,ah,ints,steps,strs]):(((ah c.ah).length:Nat):Int)=((c.ah.length:Nat):Int)) (U ((ir _):IntKind.u8.wrap (((c.ah.length:Nat):Int))=(((bz ((c.ah.length:Nat):Int)).toNat:Nat):Int)) (U (kh (l++[(bz c.aL)]) (bz ((c.ah.length:Nat):Int)) (by first | omega | (simp [iB,fE];omega))) (U ((by first | rfl | simp [ae,ah,ints,steps,strs]):(((ah c.ah).length:Nat):Int)=((c.ah.length:Nat):Int)) trivial)))))) fun ac wd r=>?_
 refine aC.rounds (Φ:=fun (i:Nat) ac wd=>(True)∧RB D w0 K 55 bs [(0,.ep 0 1 (0) 0),(3,.pt 1 0),(20,.d (.ro 2 (ah c.ah))),(21,.n c.ah.length),(22,.n i)] [.rw 91 1 ([[.em 5 1 (ae (l++[bz c.aL]++[bz ((c.ah.length:Nat):Int)]++fz (c.ah.take i)))]]),.bx 25 [.z c.aL,.d (.ro 2 (ah c.ah)),.d (.ro 1 (ints c.homes))]] ac wd) (c.ah.length) ?_ (Nat.zero_le _) ⟨trivial,(r).cast rfl (ob (by simp [fz]) _)⟩
 clear r
 rintro i dI bH ac wd ⟨ao,r⟩
 cases h0:(decide ((((i:Nat):Int):Int)<((c.ah.length:Nat):Int))) with
 | false=>
  have aK:=of_decide_eq_false h0
  refine bT (todo':=hd Tryz.f23 1) (E':=[(0,.ep 0 1 (0) 0),(3,.pt 1 0),(44,.d (.ro 1 (ints c.homes))),(45,.n c.homes.length),(46,.z 0)]) (M':=[.rw 91 1 ([[.em 5 1 (ae ((l++[bz c.aL]++[bz ((c.ah.length:Nat):Int)]++fz (c.ah.take i))++[(bz ((c.homes.length:Nat):Int))]))]]),.bx 25 [.z c.aL,.d (.ro 2 (ah c.ah)),.d (.ro 1 (ints c.homes))]]) mo tq hK ak [(4,[(0,.b false)]),(9,[(3,.z (((c.homes.length:Nat):Int))),(4,.z ((((bz ((c.homes.length:Nat):Int)).toNat:Nat):Int))),(5,.mem [0] (.tu []) [.rw 91 1 ([[.em 5 1 (ae ((l++[bz c.aL]++[bz ((c.ah.length:Nat):Int)]++fz (c.ah.take i))++[(bz ((c.homes.length:Nat):Int))]))]])])]),(10,[(2,.z (((c.homes.length:Nat):Int)))])] 2000 [0,1] [0,3,44,45,46] r (by kernel_rfl) (U h0 (U ((by first | rfl | simp [ae,ah,ints,steps,strs]):(((ints c.homes).length:Nat):Int)=((c.homes.length:Nat):Int)) (U ((ir _):IntKind.u8.wrap (((c.homes.length:Nat):Int))=(((bz ((c.homes.length:Nat):Int)).toNat:Nat):Int)) (U (kh (l++[bz c.aL]++[bz ((c.ah.length:Nat):Int)]++fz (c.ah.take i)) (bz ((c.homes.length:Nat):Int)) (by first | omega | (simp [iB,fE];omega))) (U ((by first | rfl | simp [ae,ah,ints,steps,strs]):(((ints c.homes).length:Nat):Int)=((c.homes.length:Nat):Int)) trivial))))) fun ac wd r=>?_
  refine aC.rounds (Φ:=fun (i:Nat) ac wd=>(True)∧RB D w0 K 55 bs [(0,.ep 0 1 (0) 0),(3,.pt 1 0),(44,.d (.ro 1 (ints c.homes))),(45,.n c.homes.length),(46,.n i)] [.rw 91 1 ([[.em 5 1 (ae (l++[bz c.aL]++[bz ((c.ah.length:Nat):Int)]++fz c.ah++[bz ((c.homes.length:Nat):Int)]++(c.homes.take i).map bz))]]),.bx 25 [.z c.aL,.d (.ro 2 (ah c.ah)),.d (.ro 1 (ints c.homes))]] ac wd) (c.homes.length) ?_ (Nat.zero_le _) ⟨trivial,(r).cast rfl (ob (by rw [List.take_of_length_le (by omega)];simp) _)⟩
  clear r
  rintro i lV fG ac wd ⟨dt,r⟩
  cases h1:(decide ((((i:Nat):Int):Int)<((c.homes.length:Nat):Int))) with
  | false=>
   have bF:=of_decide_eq_false h1
   refine aQ (y:=.tu []) (N':=[.rw 91 1 ([[.em 5 1 (ae (l++[bz c.aL]++[bz ((c.ah.length:Nat):Int)]++fz c.ah++[bz ((c.homes.length:Nat):Int)]++(c.homes.take i).map bz))]])]) (rfl) ((ob (by rw [List.take_of_length_le (by omega)];simp [cY]) [])) ?_
   exact aP mo tq hK rfl ak [(11,[(0,.b false)])] 2000 [0] r (by kernel_rfl) (U h1 trivial)
  | true=>
   have bF:=of_decide_eq_true h1
   obtain ⟨dS,cA⟩:∃ x_,c.homes[i]?=some x_:=⟨_,List.getElem?_eq_getElem (by omega)⟩
   exact bT (todo':=hd Tryz.f23 1) (E':=[(0,.ep 0 1 (0) 0),(3,.pt 1 0),(44,.d (.ro 1 (ints c.homes))),(45,.n c.homes.length),(46,.n (i+1))]) (M':=[.rw 91 1 ([[.em 5 1 (ae ((l++[bz c.aL]++[bz ((c.ah.length:Nat):Int)]++fz c.ah++[bz ((c.homes.length:Nat):Int)]++(c.homes.take i).map bz)++[(bz dS)]))]]),.bx 25 [.z c.aL,.d (.ro 2 (ah c.ah)),.d (.ro 1 (ints c.homes))]]) mo tq hK ak [(11,[(0,.b true)]),(12,[(0,.ix (i) [.z dS])]),(13,[(2,.z ((((bz dS).toNat:Nat):Int))),(3,.mem [0] (.tu []) [.rw 91 1 ([[.em 5 1 (ae ((l++[bz c.aL]++[bz ((c.ah.length:Nat):Int)]++fz c.ah++[bz ((c.homes.length:Nat):Int)]++(c.homes.take i).map bz)++[(bz dS)]))]])])]),(14,[(0,.z (((i+1:Nat):Int)))])] 2000 [0,1] [0,3,44,45,46] r (by kernel_rfl) (U h1 (U (aA ((i:Nat):Int)) (U (ints_at cA) (U ((ir _):IntKind.u8.wrap (dS)=(((bz dS).toNat:Nat):Int)) (U (kh (l++[bz c.aL]++[bz ((c.ah.length:Nat):Int)]++fz c.ah++[bz ((c.homes.length:Nat):Int)]++(c.homes.take i).map bz) (bz dS) (by first | omega | (simp [iB,fE];omega))) (U ((wi (by omega)):IntKind.i64.wrap ((((i:Nat):Int):Int)+1)=((i+1:Nat):Int)) trivial)))))) fun ac wd r=>fG (by omega) ac wd ⟨trivial,r.cast rfl (ob (by rw [EU cA];simp) _)⟩
 | true=>
  have aK:=of_decide_eq_true h0
  obtain ⟨aR,bn⟩:∃ x_,c.ah[i]?=some x_:=⟨_,List.getElem?_eq_getElem (by omega)⟩
  exact bT (todo':=hd Tryz.f23 0) (E':=[(0,.ep 0 1 (0) 0),(3,.pt 1 0),(20,.d (.ro 2 (ah c.ah))),(21,.n c.ah.length),(22,.n (i+1))]) (M':=[.rw 91 1 ([[.em 5 1 (ae (((l++[bz c.aL]++[bz ((c.ah.length:Nat):Int)]++fz (c.ah.take i))++[(bz aR.1)])++[(bz aR.2)]))]]),.bx 25 [.z c.aL,.d (.ro 2 (ah c.ah)),.d (.ro 1 (ints c.homes))]]) mo tq hK ak [(4,[(0,.b true)]),(5,[(0,.ix (i) [.z aR.1,.z aR.2])]),(6,[(1,.n 0),(3,.z ((((bz aR.1).toNat:Nat):Int))),(4,.mem [0] (.tu []) [.rw 91 1 ([[.em 5 1 (ae ((l++[bz c.aL]++[bz ((c.ah.length:Nat):Int)]++fz (c.ah.take i))++[(bz aR.1)]))]])])]),(7,[(1,.n 1),(3,.z ((((bz aR.2).toNat:Nat):Int))),(4,.mem [0] (.tu []) [.rw 91 1 ([[.em 5 1 (ae (((l++[bz c.aL]++[bz ((c.ah.length:Nat):Int)]++fz (c.ah.take i))++[(bz aR.1)])++[(bz aR.2)]))]])])]),(8,[(0,.z (((i+1:Nat):Int)))])] 2000 [0,1] [0,3,20,21,22] r (by kernel_rfl) (U h0 (U (aA ((i:Nat):Int)) (U (cU bn) (U (rfl:(0)=((0:Nat):Int)) (U ((by omega):(0)<2) (U ((ir _):IntKind.u8.wrap (aR.1)=(((bz aR.1).toNat:Nat):Int)) (U (kh (l++[bz c.aL]++[bz ((c.ah.length:Nat):Int)]++fz (c.ah.take i)) (bz aR.1) (by first | omega | (simp [iB,fE];omega))) (U (rfl:(1)=((1:Nat):Int)) (U ((by omega):(1)<2) (U ((ir _):IntKind.u8.wrap (aR.2)=(((bz aR.2).toNat:Nat):Int)) (U (kh ((l++[bz c.aL]++[bz ((c.ah.length:Nat):Int)]++fz (c.ah.take i))++[(bz aR.1)]) (bz aR.2) (by first | omega | (simp [iB,fE];omega))) (U ((wi (by omega)):IntKind.i64.wrap ((((i:Nat):Int):Int)+1)=((i+1:Nat):Int)) trivial)))))))))))) fun ac wd r=>bH (by omega) ac wd ⟨trivial,r.cast rfl (ob (by rw [FR bn];simp) _)⟩
set_option maxRecDepth 100000 in
theorem FT (l:List UInt8) (s:aM) (hl:l.length≤16777216) (hb:s.body.length≤255) (hi:s.inc<18446744073709551616) (eK:0≤s.bit) (gn:s.bit≤65535) (k0:0≤s.kind) (k1:s.kind<14):aq Tryz.prog 26 [.ep 0 1 (0) 0,.ag [.z s.kind,.z s.node,.z s.peer,.z s.n,.z s.bit,.u s.inc,.d (.ro 1 (ae s.body))]] [.rw 91 1 ([[.em 5 1 (ae l)]]),.gw 0 aj] (.tu []) ([.rw 91 1 [[.em 5 1 (ae (l++fo s))]],.gw 0 aj]):=by
 refine aq.intro (by kernel_rfl) rfl rfl 60 rfl rfl fun D w0 K bs ac wd hK (ak:bs.m=2) r=>?_
 refine bC (todo':=aft Tryz.f26 3) (E':=[(0,.ep 0 1 (0) 0),(3,.pt 2 0),(4,.pt 3 0),(15,.d (.v (.bool ((af s.kind.toNat).node))))]) (M':=[.rw 91 1 ([[.em 5 1 (ae (l++[(bz s.kind)]))]]),.gw 0 aj,.bx 42 [.z s.kind,.z s.node,.z s.peer,.z s.n,.z s.bit,.u s.inc,.d (.ro 1 (ae s.body))],.bx 94 [.d (.v (.string ⟨((af s.kind.toNat).word).toArray⟩)),.d (.v (.bool ((af s.kind.toNat).node))),.d (.v (.bool ((af s.kind.toNat).peer))),.d (.v (.bool ((af s.kind.toNat).n))),.d (.v (.bool ((af s.kind.toNat).bit))),.d (.v (.bool ((af s.kind.toNat).inc))),.d (.v (.bool ((af s.kind.toNat).body)))]]) mo tq hK ak [(1,[(2,.ix (s.kind.toNat) [.v (.string ⟨((af s.kind.toNat).word).toArray⟩),.v (.bool ((af s.kind.toNat).node)),.v (.bool ((af s.kind.toNat).peer)),.v (.bool ((af s.kind.toNat).n)),.v (.bool ((af s.kind.toNat).bit)),.v (.bool ((af s.kind.toNat).inc)),.v (.bool ((af s.kind.toNat).body))])]),(2,[(3,.z ((((bz s.kind).toNat:Nat):Int))),(4,.mem [0] (.tu []) [.rw 91 1 ([[.em 5 1 (ae (l++[(bz s.kind)]))]])])])] 9 [0,1,2,3] [0,3,4,15] r (by kernel_rfl) (U ((by omega):(s.kind)=((s.kind.toNat:Nat):Int)) (U ((by omega):(s.kind.toNat)<14) (U (nn (by omega):List.take 7 (List.drop ((s.kind.toNat)*7) (aj:List DV))=([.v (.string ⟨((af s.kind.toNat).word).toArray⟩),.v (.bool ((af s.kind.toNat).node)),.v (.bool ((af s.kind.toNat).peer)),.v (.bool ((af s.kind.toNat).n)),.v (.bool ((af s.kind.toNat).bit)),.v (.bool ((af s.kind.toNat).inc)),.v (.bool ((af s.kind.toNat).body))]:List DV)) (U ((ir _):IntKind.u8.wrap (s.kind)=(((bz s.kind).toNat:Nat):Int)) (U (kh l (bz s.kind) (by first | omega | (simp [iB,fE];omega))) trivial))))) fun ac wd r=>?_
 suffices J5:∀ ac wd,RB D w0 K 60 bs [(0,.ep 0 1 (0) 0),(3,.pt 2 0),(4,.pt 3 0),(22,.d (.v (.bool ((af s.kind.toNat).peer))))] [.rw 91 1 ([[.em 5 1 (ae (l++[bz s.kind]++(if (af s.kind.toNat).node=true then [bz s.node] else [])))]]),.gw 0 aj,.bx 42 [.z s.kind,.z s.node,.z s.peer,.z s.n,.z s.bit,.u s.inc,.d (.ro 1 (ae s.body))],.bx 94 [.d (.v (.string ⟨((af s.kind.toNat).word).toArray⟩)),.d (.v (.bool ((af s.kind.toNat).node))),.d (.v (.bool ((af s.kind.toNat).peer))),.d (.v (.bool ((af s.kind.toNat).n))),.d (.v (.bool ((af s.kind.toNat).bit))),.d (.v (.bool ((af s.kind.toNat).inc))),.d (.v (.bool ((af s.kind.toNat).body)))]] ac wd→aC Tryz.prog 26 (aft Tryz.f26 5) (eX D w0 K bs (.tu []) ([.rw 91 1 [[.em 5 1 (ae (l++fo s))]],.gw 0 aj])) ac wd by
  cases h0:((af s.kind.toNat).node) with
  | false=>
   have r:=r.cast (E':=[(0,.ep 0 1 (0) 0),(3,.pt 2 0),(4,.pt 3 0),(15,.d (.v (.bool false)))]) (M':=[.rw 91 1 ([[.em 5 1 (ae (l++[(bz s.kind)]))]]),.gw 0 aj,.bx 42 [.z s.kind,.z s.node,.z s.peer,.z s.n,.z s.bit,.u s.inc,.d (.ro 1 (ae s.body))],.bx 94 [.d (.v (.string ⟨((af s.kind.toNat).word).toArray⟩)),.d (.v (.bool false)),.d (.v (.bool ((af s.kind.toNat).peer))),.d (.v (.bool ((af s.kind.toNat).n))),.d (.v (.bool ((af s.kind.toNat).bit))),.d (.v (.bool ((af s.kind.toNat).inc))),.d (.v (.bool ((af s.kind.toNat).body)))]]) (by rw [h0]) (by rw [h0])
   refine bC (todo':=aft Tryz.f26 5) (E':=[(0,.ep 0 1 (0) 0),(3,.pt 2 0),(4,.pt 3 0),(22,.d (.v (.bool ((af s.kind.toNat).peer))))]) (M':=[.rw 91 1 ([[.em 5 1 (ae (l++[(bz s.kind)]))]]),.gw 0 aj,.bx 42 [.z s.kind,.z s.node,.z s.peer,.z s.n,.z s.bit,.u s.inc,.d (.ro 1 (ae s.body))],.bx 94 [.d (.v (.string ⟨((af s.kind.toNat).word).toArray⟩)),.d (.v (.bool false)),.d (.v (.bool ((af s.kind.toNat).peer))),.d (.v (.bool ((af s.kind.toNat).n))),.d (.v (.bool ((af s.kind.toNat).bit))),.d (.v (.bool ((af s.kind.toNat).inc))),.d (.v (.bool ((af s.kind.toNat).body)))]]) mo tq hK ak [] 5 [0,1,2,3] [0,3,4,22] r (by kernel_rfl) trivial fun ac wd r=>?_
   exact J5 ac wd (r.cast rfl (by rw [if_neg (ne_true_of_eq_false h0),h0]<;>simp [Int.max_eq_left eK]))
  | true=>
   have r:=r.cast (E':=[(0,.ep 0 1 (0) 0),(3,.pt 2 0),(4,.pt 3 0),(15,.d (.v (.bool true)))]) (M':=[.rw 91 1 ([[.em 5 1 (ae (l++[(bz s.kind)]))]]),.gw 0 aj,.bx 42 [.z s.kind,.z s.node,.z s.peer,.z s.n,.z s.bit,.u s.inc,.d (.ro 1 (ae s.body))],.bx 94 [.d (.v (.string ⟨((af s.kind.toNat).word).toArray⟩)),.d (.v (.bool true)),.d (.v (.bool ((af s.kind.toNat).peer))),.d (.v (.bool ((af s.kind.toNat).n))),.d (.v (.bool ((af s.kind.toNat).bit))),.d (.v (.bool ((af s.kind.toNat).inc))),.d (.v (.bool ((af s.kind.toNat).body)))]]) (by rw [h0]) (by rw [h0])
   refine bC (todo':=aft Tryz.f26 5) (E':=[(0,.ep 0 1 (0) 0),(3,.pt 2 0),(4,.pt 3 0),(22,.d (.v (.bool ((af s.kind.toNat).peer))))]) (M':=[.rw 91 1 ([[.em 5 1 (ae ((l++[(bz s.kind)])++[(bz s.node)]))]]),.gw 0 aj,.bx 42 [.z s.kind,.z s.node,.z s.peer,.z s.n,.z s.bit,.u s.inc,.d (.ro 1 (ae s.body))],.bx 94 [.d (.v (.string ⟨((af s.kind.toNat).word).toArray⟩)),.d (.v (.bool true)),.d (.v (.bool ((af s.kind.toNat).peer))),.d (.v (.bool ((af s.kind.toNat).n))),.d (.v (.bool ((af s.kind.toNat).bit))),.d (.v (.bool ((af s.kind.toNat).inc))),.d (.v (.bool ((af s.kind.toNat).body)))]]) mo tq hK ak [(4,[(3,.z ((((bz s.node).toNat:Nat):Int))),(4,.mem [0] (.tu []) [.rw 91 1 ([[.em 5 1 (ae ((l++[(bz s.kind)])++[(bz s.node)]))]])])])] 5 [0,1,2,3] [0,3,4,22] r (by kernel_rfl) (U ((ir _):IntKind.u8.wrap (s.node)=(((bz s.node).toNat:Nat):Int)) (U (kh (l++[(bz s.kind)]) (bz s.node) (by first | omega | (simp [iB,fE];omega))) trivial)) fun ac wd r=>?_
   exact J5 ac wd (r.cast rfl (by rw [if_pos h0,h0]<;>simp [Int.max_eq_left eK]))
 intro ac wd r
 have N9:=qJ (b:=(af s.kind.toNat).node) (l:=[bz s.node]) (n:=2) (by first | (simp;done) | exact fE hi)
 suffices J7:∀ ac wd,RB D w0 K 60 bs [(0,.ep 0 1 (0) 0),(3,.pt 2 0),(4,.pt 3 0),(29,.d (.v (.bool ((af s.kind.toNat).n))))] [.rw 91 1 ([[.em 5 1 (ae (l++[bz s.kind]++(if (af s.kind.toNat).node=true then [bz s.node] else [])++(if (af s.kind.toNat).peer=true then [bz s.peer] else [])))]]),.gw 0 aj,.bx 42 [.z s.kind,.z s.node,.z s.peer,.z s.n,.z s.bit,.u s.inc,.d (.ro 1 (ae s.body))],.bx 94 [.d (.v (.string ⟨((af s.kind.toNat).word).toArray⟩)),.d (.v (.bool ((af s.kind.toNat).node))),.d (.v (.bool ((af s.kind.toNat).peer))),.d (.v (.bool ((af s.kind.toNat).n))),.d (.v (.bool ((af s.kind.toNat).bit))),.d (.v (.bool ((af s.kind.toNat).inc))),.d (.v (.bool ((af s.kind.toNat).body)))]] ac wd→aC Tryz.prog 26 (aft Tryz.f26 7) (eX D w0 K bs (.tu []) ([.rw 91 1 [[.em 5 1 (ae (l++fo s))]],.gw 0 aj])) ac wd by
  cases h1:((af s.kind.toNat).peer) with
  | false=>
   have r:=r.cast (E':=[(0,.ep 0 1 (0) 0),(3,.pt 2 0),(4,.pt 3 0),(22,.d (.v (.bool false)))]) (M':=[.rw 91 1 ([[.em 5 1 (ae (l++[bz s.kind]++(if (af s.kind.toNat).node=true then [bz s.node] else [])))]]),.gw 0 aj,.bx 42 [.z s.kind,.z s.node,.z s.peer,.z s.n,.z s.bit,.u s.inc,.d (.ro 1 (ae s.body))],.bx 94 [.d (.v (.string ⟨((af s.kind.toNat).word).toArray⟩)),.d (.v (.bool ((af s.kind.toNat).node))),.d (.v (.bool false)),.d (.v (.bool ((af s.kind.toNat).n))),.d (.v (.bool ((af s.kind.toNat).bit))),.d (.v (.bool ((af s.kind.toNat).inc))),.d (.v (.bool ((af s.kind.toNat).body)))]]) (by rw [h1]) (by rw [h1])
   refine bC (todo':=aft Tryz.f26 7) (E':=[(0,.ep 0 1 (0) 0),(3,.pt 2 0),(4,.pt 3 0),(29,.d (.v (.bool ((af s.kind.toNat).n))))]) (M':=[.rw 91 1 ([[.em 5 1 (ae (l++[bz s.kind]++(if (af s.kind.toNat).node=true then [bz s.node] else [])))]]),.gw 0 aj,.bx 42 [.z s.kind,.z s.node,.z s.peer,.z s.n,.z s.bit,.u s.inc,.d (.ro 1 (ae s.body))],.bx 94 [.d (.v (.string ⟨((af s.kind.toNat).word).toArray⟩)),.d (.v (.bool ((af s.kind.toNat).node))),.d (.v (.bool false)),.d (.v (.bool ((af s.kind.toNat).n))),.d (.v (.bool ((af s.kind.toNat).bit))),.d (.v (.bool ((af s.kind.toNat).inc))),.d (.v (.bool ((af s.kind.toNat).body)))]]) mo tq hK ak [] 5 [0,1,2,3] [0,3,4,29] r (by kernel_rfl) trivial fun ac wd r=>?_
   exact J7 ac wd (r.cast rfl (by rw [if_neg (ne_true_of_eq_false h1),h1]<;>simp [Int.max_eq_left eK]))
  | true=>
   have r:=r.cast (E':=[(0,.ep 0 1 (0) 0),(3,.pt 2 0),(4,.pt 3 0),(22,.d (.v (.bool true)))]) (M':=[.rw 91 1 ([[.em 5 1 (ae (l++[bz s.kind]++(if (af s.kind.toNat).node=true then [bz s.node] else [])))]]),.gw 0 aj,.bx 42 [.z s.kind,.z s.node,.z s.peer,.z s.n,.z s.bit,.u s.inc,.d (.ro 1 (ae s.body))],.bx 94 [.d (.v (.string ⟨((af s.kind.toNat).word).toArray⟩)),.d (.v (.bool ((af s.kind.toNat).node))),.d (.v (.bool true)),.d (.v (.bool ((af s.kind.toNat).n))),.d (.v (.bool ((af s.kind.toNat).bit))),.d (.v (.bool ((af s.kind.toNat).inc))),.d (.v (.bool ((af s.kind.toNat).body)))]]) (by rw [h1]) (by rw [h1])
   refine bC (todo':=aft Tryz.f26 7) (E':=[(0,.ep 0 1 (0) 0),(3,.pt 2 0),(4,.pt 3 0),(29,.d (.v (.bool ((af s.kind.toNat).n))))]) (M':=[.rw 91 1 ([[.em 5 1 (ae ((l++[bz s.kind]++(if (af s.kind.toNat).node=true then [bz s.node] else []))++[(bz s.peer)]))]]),.gw 0 aj,.bx 42 [.z s.kind,.z s.node,.z s.peer,.z s.n,.z s.bit,.u s.inc,.d (.ro 1 (ae s.body))],.bx 94 [.d (.v (.string ⟨((af s.kind.toNat).word).toArray⟩)),.d (.v (.bool ((af s.kind.toNat).node))),.d (.v (.bool true)),.d (.v (.bool ((af s.kind.toNat).n))),.d (.v (.bool ((af s.kind.toNat).bit))),.d (.v (.bool ((af s.kind.toNat).inc))),.d (.v (.bool ((af s.kind.toNat).body)))]]) mo tq hK ak [(6,[(3,.z ((((bz s.peer).toNat:Nat):Int))),(4,.mem [0] (.tu []) [.rw 91 1 ([[.em 5 1 (ae ((l++[bz s.kind]++(if (af s.kind.toNat).node=true then [bz s.node] else []))++[(bz s.peer)]))]])])])] 5 [0,1,2,3] [0,3,4,29] r (by kernel_rfl) (U ((ir _):IntKind.u8.wrap (s.peer)=(((bz s.peer).toNat:Nat):Int)) (U (kh (l++[bz s.kind]++(if (af s.kind.toNat).node=true then [bz s.node] else [])) (bz s.peer) (by first | omega | (simp [iB,fE];omega))) trivial)) fun ac wd r=>?_
   exact J7 ac wd (r.cast rfl (by rw [if_pos h1,h1]<;>simp [Int.max_eq_left eK]))
 intro ac wd r
 have y4:=qJ (b:=(af s.kind.toNat).peer) (l:=[bz s.peer]) (n:=2) (by first | (simp;done) | exact fE hi)
 suffices J9:∀ ac wd,RB D w0 K 60 bs [(0,.ep 0 1 (0) 0),(3,.pt 2 0),(4,.pt 3 0),(36,.d (.v (.bool ((af s.kind.toNat).bit))))] [.rw 91 1 ([[.em 5 1 (ae (l++[bz s.kind]++(if (af s.kind.toNat).node=true then [bz s.node] else [])++(if (af s.kind.toNat).peer=true then [bz s.peer] else [])++(if (af s.kind.toNat).n=true then [bz s.n] else [])))]]),.gw 0 aj,.bx 42 [.z s.kind,.z s.node,.z s.peer,.z s.n,.z s.bit,.u s.inc,.d (.ro 1 (ae s.body))],.bx 94 [.d (.v (.string ⟨((af s.kind.toNat).word).toArray⟩)),.d (.v (.bool ((af s.kind.toNat).node))),.d (.v (.bool ((af s.kind.toNat).peer))),.d (.v (.bool ((af s.kind.toNat).n))),.d (.v (.bool ((af s.kind.toNat).bit))),.d (.v (.bool ((af s.kind.toNat).inc))),.d (.v (.bool ((af s.kind.toNat).body)))]] ac wd→aC Tryz.prog 26 (aft Tryz.f26 9) (eX D w0 K bs (.tu []) ([.rw 91 1 [[.em 5 1 (ae (l++fo s))]],.gw 0 aj])) ac wd by
  cases h2:((af s.kind.toNat).n) with
  | false=>
   have r:=r.cast (E':=[(0,.ep 0 1 (0) 0),(3,.pt 2 0),(4,.pt 3 0),(29,.d (.v (.bool false)))]) (M':=[.rw 91 1 ([[.em 5 1 (ae (l++[bz s.kind]++(if (af s.kind.toNat).node=true then [bz s.node] else [])++(if (af s.kind.toNat).peer=true then [bz s.peer] else [])))]]),.gw 0 aj,.bx 42 [.z s.kind,.z s.node,.z s.peer,.z s.n,.z s.bit,.u s.inc,.d (.ro 1 (ae s.body))],.bx 94 [.d (.v (.string ⟨((af s.kind.toNat).word).toArray⟩)),.d (.v (.bool ((af s.kind.toNat).node))),.d (.v (.bool ((af s.kind.toNat).peer))),.d (.v (.bool false)),.d (.v (.bool ((af s.kind.toNat).bit))),.d (.v (.bool ((af s.kind.toNat).inc))),.d (.v (.bool ((af s.kind.toNat).body)))]]) (by rw [h2]) (by rw [h2])
   refine bC (todo':=aft Tryz.f26 9) (E':=[(0,.ep 0 1 (0) 0),(3,.pt 2 0),(4,.pt 3 0),(36,.d (.v (.bool ((af s.kind.toNat).bit))))]) (M':=[.rw 91 1 ([[.em 5 1 (ae (l++[bz s.kind]++(if (af s.kind.toNat).node=true then [bz s.node] else [])++(if (af s.kind.toNat).peer=true then [bz s.peer] else [])))]]),.gw 0 aj,.bx 42 [.z s.kind,.z s.node,.z s.peer,.z s.n,.z s.bit,.u s.inc,.d (.ro 1 (ae s.body))],.bx 94 [.d (.v (.string ⟨((af s.kind.toNat).word).toArray⟩)),.d (.v (.bool ((af s.kind.toNat).node))),.d (.v (.bool ((af s.kind.toNat).peer))),.d (.v (.bool false)),.d (.v (.bool ((af s.kind.toNat).bit))),.d (.v (.bool ((af s.kind.toNat).inc))),.d (.v (.bool ((af s.kind.toNat).body)))]]) mo tq hK ak [] 5 [0,1,2,3] [0,3,4,36] r (by kernel_rfl) trivial fun ac wd r=>?_
   exact J9 ac wd (r.cast rfl (by rw [if_neg (ne_true_of_eq_false h2),h2]<;>simp [Int.max_eq_left eK]))
  | true=>
   have r:=r.cast (E':=[(0,.ep 0 1 (0) 0),(3,.pt 2 0),(4,.pt 3 0),(29,.d (.v (.bool true)))]) (M':=[.rw 91 1 ([[.em 5 1 (ae (l++[bz s.kind]++(if (af s.kind.toNat).node=true then [bz s.node] else [])++(if (af s.kind.toNat).peer=true then [bz s.peer] else [])))]]),.gw 0 aj,.bx 42 [.z s.kind,.z s.node,.z s.peer,.z s.n,.z s.bit,.u s.inc,.d (.ro 1 (ae s.body))],.bx 94 [.d (.v (.string ⟨((af s.kind.toNat).word).toArray⟩)),.d (.v (.bool ((af s.kind.toNat).node))),.d (.v (.bool ((af s.kind.toNat).peer))),.d (.v (.bool true)),.d (.v (.bool ((af s.kind.toNat).bit))),.d (.v (.bool ((af s.kind.toNat).inc))),.d (.v (.bool ((af s.kind.toNat).body)))]]) (by rw [h2]) (by rw [h2])
   refine bC (todo':=aft Tryz.f26 9) (E':=[(0,.ep 0 1 (0) 0),(3,.pt 2 0),(4,.pt 3 0),(36,.d (.v (.bool ((af s.kind.toNat).bit))))]) (M':=[.rw 91 1 ([[.em 5 1 (ae ((l++[bz s.kind]++(if (af s.kind.toNat).node=true then [bz s.node] else [])++(if (af s.kind.toNat).peer=true then [bz s.peer] else []))++[(bz s.n)]))]]),.gw 0 aj,.bx 42 [.z s.kind,.z s.node,.z s.peer,.z s.n,.z s.bit,.u s.inc,.d (.ro 1 (ae s.body))],.bx 94 [.d (.v (.string ⟨((af s.kind.toNat).word).toArray⟩)),.d (.v (.bool ((af s.kind.toNat).node))),.d (.v (.bool ((af s.kind.toNat).peer))),.d (.v (.bool true)),.d (.v (.bool ((af s.kind.toNat).bit))),.d (.v (.bool ((af s.kind.toNat).inc))),.d (.v (.bool ((af s.kind.toNat).body)))]]) mo tq hK ak [(8,[(3,.z ((((bz s.n).toNat:Nat):Int))),(4,.mem [0] (.tu []) [.rw 91 1 ([[.em 5 1 (ae ((l++[bz s.kind]++(if (af s.kind.toNat).node=true then [bz s.node] else [])++(if (af s.kind.toNat).peer=true then [bz s.peer] else []))++[(bz s.n)]))]])])])] 5 [0,1,2,3] [0,3,4,36] r (by kernel_rfl) (U ((ir _):IntKind.u8.wrap (s.n)=(((bz s.n).toNat:Nat):Int)) (U (kh (l++[bz s.kind]++(if (af s.kind.toNat).node=true then [bz s.node] else [])++(if (af s.kind.toNat).peer=true then [bz s.peer] else [])) (bz s.n) (by first | omega | (simp [iB,fE];omega))) trivial)) fun ac wd r=>?_
   exact J9 ac wd (r.cast rfl (by rw [if_pos h2,h2]<;>simp [Int.max_eq_left eK]))
 intro ac wd r
 have Oa:=qJ (b:=(af s.kind.toNat).n) (l:=[bz s.n]) (n:=2) (by first | (simp;done) | exact fE hi)
 suffices rL:∀ ac wd,RB D w0 K 60 bs [(0,.ep 0 1 (0) 0),(3,.pt 2 0),(4,.pt 3 0),(43,.d (.v (.bool ((af s.kind.toNat).inc))))] [.rw 91 1 ([[.em 5 1 (ae (l++[bz s.kind]++(if (af s.kind.toNat).node=true then [bz s.node] else [])++(if (af s.kind.toNat).peer=true then [bz s.peer] else [])++(if (af s.kind.toNat).n=true then [bz s.n] else [])++(if (af s.kind.toNat).bit=true then [bz s.bit,bz (s.bit / 256)] else [])))]]),.gw 0 aj,.bx 42 [.z s.kind,.z s.node,.z s.peer,.z s.n,.z s.bit,.u s.inc,.d (.ro 1 (ae s.body))],.bx 94 [.d (.v (.string ⟨((af s.kind.toNat).word).toArray⟩)),.d (.v (.bool ((af s.kind.toNat).node))),.d (.v (.bool ((af s.kind.toNat).peer))),.d (.v (.bool ((af s.kind.toNat).n))),.d (.v (.bool ((af s.kind.toNat).bit))),.d (.v (.bool ((af s.kind.toNat).inc))),.d (.v (.bool ((af s.kind.toNat).body)))]] ac wd→aC Tryz.prog 26 (aft Tryz.f26 11) (eX D w0 K bs (.tu []) ([.rw 91 1 [[.em 5 1 (ae (l++fo s))]],.gw 0 aj])) ac wd by
  cases h3:((af s.kind.toNat).bit) with
  | false=>
   have r:=r.cast (E':=[(0,.ep 0 1 (0) 0),(3,.pt 2 0),(4,.pt 3 0),(36,.d (.v (.bool false)))]) (M':=[.rw 91 1 ([[.em 5 1 (ae (l++[bz s.kind]++(if (af s.kind.toNat).node=true then [bz s.node] else [])++(if (af s.kind.toNat).peer=true then [bz s.peer] else [])++(if (af s.kind.toNat).n=true then [bz s.n] else [])))]]),.gw 0 aj,.bx 42 [.z s.kind,.z s.node,.z s.peer,.z s.n,.z s.bit,.u s.inc,.d (.ro 1 (ae s.body))],.bx 94 [.d (.v (.string ⟨((af s.kind.toNat).word).toArray⟩)),.d (.v (.bool ((af s.kind.toNat).node))),.d (.v (.bool ((af s.kind.toNat).peer))),.d (.v (.bool ((af s.kind.toNat).n))),.d (.v (.bool false)),.d (.v (.bool ((af s.kind.toNat).inc))),.d (.v (.bool ((af s.kind.toNat).body)))]]) (by rw [h3]) (by rw [h3])
   refine bC (todo':=aft Tryz.f26 11) (E':=[(0,.ep 0 1 (0) 0),(3,.pt 2 0),(4,.pt 3 0),(43,.d (.v (.bool ((af s.kind.toNat).inc))))]) (M':=[.rw 91 1 ([[.em 5 1 (ae (l++[bz s.kind]++(if (af s.kind.toNat).node=true then [bz s.node] else [])++(if (af s.kind.toNat).peer=true then [bz s.peer] else [])++(if (af s.kind.toNat).n=true then [bz s.n] else [])))]]),.gw 0 aj,.bx 42 [.z s.kind,.z s.node,.z s.peer,.z s.n,.z s.bit,.u s.inc,.d (.ro 1 (ae s.body))],.bx 94 [.d (.v (.string ⟨((af s.kind.toNat).word).toArray⟩)),.d (.v (.bool ((af s.kind.toNat).node))),.d (.v (.bool ((af s.kind.toNat).peer))),.d (.v (.bool ((af s.kind.toNat).n))),.d (.v (.bool false)),.d (.v (.bool ((af s.kind.toNat).inc))),.d (.v (.bool ((af s.kind.toNat).body)))]]) mo tq hK ak [] 5 [0,1,2,3] [0,3,4,43] r (by kernel_rfl) trivial fun ac wd r=>?_
   exact rL ac wd (r.cast rfl (by rw [if_neg (ne_true_of_eq_false h3),h3]<;>simp [Int.max_eq_left eK]))
  | true=>
   have r:=r.cast (E':=[(0,.ep 0 1 (0) 0),(3,.pt 2 0),(4,.pt 3 0),(36,.d (.v (.bool true)))]) (M':=[.rw 91 1 ([[.em 5 1 (ae (l++[bz s.kind]++(if (af s.kind.toNat).node=true then [bz s.node] else [])++(if (af s.kind.toNat).peer=true then [bz s.peer] else [])++(if (af s.kind.toNat).n=true then [bz s.n] else [])))]]),.gw 0 aj,.bx 42 [.z s.kind,.z s.node,.z s.peer,.z s.n,.z s.bit,.u s.inc,.d (.ro 1 (ae s.body))],.bx 94 [.d (.v (.string ⟨((af s.kind.toNat).word).toArray⟩)),.d (.v (.bool ((af s.kind.toNat).node))),.d (.v (.bool ((af s.kind.toNat).peer))),.d (.v (.bool ((af s.kind.toNat).n))),.d (.v (.bool true)),.d (.v (.bool ((af s.kind.toNat).inc))),.d (.v (.bool ((af s.kind.toNat).body)))]]) (by rw [h3]) (by rw [h3])
   refine bC (todo':=aft Tryz.f26 11) (E':=[(0,.ep 0 1 (0) 0),(3,.pt 2 0),(4,.pt 3 0),(43,.d (.v (.bool ((af s.kind.toNat).inc))))]) (M':=[.rw 91 1 ([[.em 5 1 (ae ((l++[bz s.kind]++(if (af s.kind.toNat).node=true then [bz s.node] else [])++(if (af s.kind.toNat).peer=true then [bz s.peer] else [])++(if (af s.kind.toNat).n=true then [bz s.n] else []))++[bz ((s.bit.toNat:Nat):Int),bz ((s.bit.toNat / 256:Nat):Int)]))]]),.gw 0 aj,.bx 42 [.z s.kind,.z s.node,.z s.peer,.z s.n,.z s.bit,.u s.inc,.d (.ro 1 (ae s.body))],.bx 94 [.d (.v (.string ⟨((af s.kind.toNat).word).toArray⟩)),.d (.v (.bool ((af s.kind.toNat).node))),.d (.v (.bool ((af s.kind.toNat).peer))),.d (.v (.bool ((af s.kind.toNat).n))),.d (.v (.bool true)),.d (.v (.bool ((af s.kind.toNat).inc))),.d (.v (.bool ((af s.kind.toNat).body)))]]) mo tq hK ak [(10,[(3,.z (((s.bit.toNat:Nat):Int))),(4,.mem [0] (.tu []) [.rw 91 1 ([[.em 5 1 (ae ((l++[bz s.kind]++(if (af s.kind.toNat).node=true then [bz s.node] else [])++(if (af s.kind.toNat).peer=true then [bz s.peer] else [])++(if (af s.kind.toNat).n=true then [bz s.n] else []))++[bz ((s.bit.toNat:Nat):Int),bz ((s.bit.toNat / 256:Nat):Int)]))]])])])] 5 [0,1,2,3] [0,3,4,43] r (by kernel_rfl) (U ((MW (by omega) (by omega)):IntKind.u16.wrap (s.bit)=((s.bit.toNat:Nat):Int)) (U (MS (l++[bz s.kind]++(if (af s.kind.toNat).node=true then [bz s.node] else [])++(if (af s.kind.toNat).peer=true then [bz s.peer] else [])++(if (af s.kind.toNat).n=true then [bz s.n] else [])) s.bit.toNat (by omega) (by first | omega | (simp [iB,fE];omega))) trivial)) fun ac wd r=>?_
   exact rL ac wd (r.cast rfl (by rw [if_pos h3,h3]<;>simp [Int.max_eq_left eK]))
 intro ac wd r
 have Ob:=qJ (b:=(af s.kind.toNat).bit) (l:=[bz s.bit,bz (s.bit / 256)]) (n:=2) (by first | (simp;done) | exact fE hi)
 suffices rM:∀ ac wd,RB D w0 K 60 bs [(0,.ep 0 1 (0) 0),(3,.pt 2 0),(4,.pt 3 0),(49,.d (.v (.bool ((af s.kind.toNat).body))))] [.rw 91 1 ([[.em 5 1 (ae (l++[bz s.kind]++(if (af s.kind.toNat).node=true then [bz s.node] else [])++(if (af s.kind.toNat).peer=true then [bz s.peer] else [])++(if (af s.kind.toNat).n=true then [bz s.n] else [])++(if (af s.kind.toNat).bit=true then [bz s.bit,bz (s.bit / 256)] else [])++(if (af s.kind.toNat).inc=true then eE s.inc else [])))]]),.gw 0 aj,.bx 42 [.z s.kind,.z s.node,.z s.peer,.z s.n,.z s.bit,.u s.inc,.d (.ro 1 (ae s.body))],.bx 94 [.d (.v (.string ⟨((af s.kind.toNat).word).toArray⟩)),.d (.v (.bool ((af s.kind.toNat).node))),.d (.v (.bool ((af s.kind.toNat).peer))),.d (.v (.bool ((af s.kind.toNat).n))),.d (.v (.bool ((af s.kind.toNat).bit))),.d (.v (.bool ((af s.kind.toNat).inc))),.d (.v (.bool ((af s.kind.toNat).body)))]] ac wd→aC Tryz.prog 26 (aft Tryz.f26 13) (eX D w0 K bs (.tu []) ([.rw 91 1 [[.em 5 1 (ae (l++fo s))]],.gw 0 aj])) ac wd by
  cases h4:((af s.kind.toNat).inc) with
  | false=>
   have r:=r.cast (E':=[(0,.ep 0 1 (0) 0),(3,.pt 2 0),(4,.pt 3 0),(43,.d (.v (.bool false)))]) (M':=[.rw 91 1 ([[.em 5 1 (ae (l++[bz s.kind]++(if (af s.kind.toNat).node=true then [bz s.node] else [])++(if (af s.kind.toNat).peer=true then [bz s.peer] else [])++(if (af s.kind.toNat).n=true then [bz s.n] else [])++(if (af s.kind.toNat).bit=true then [bz s.bit,bz (s.bit / 256)] else [])))]]),.gw 0 aj,.bx 42 [.z s.kind,.z s.node,.z s.peer,.z s.n,.z s.bit,.u s.inc,.d (.ro 1 (ae s.body))],.bx 94 [.d (.v (.string ⟨((af s.kind.toNat).word).toArray⟩)),.d (.v (.bool ((af s.kind.toNat).node))),.d (.v (.bool ((af s.kind.toNat).peer))),.d (.v (.bool ((af s.kind.toNat).n))),.d (.v (.bool ((af s.kind.toNat).bit))),.d (.v (.bool false)),.d (.v (.bool ((af s.kind.toNat).body)))]]) (by rw [h4]) (by rw [h4])
   refine bC (todo':=aft Tryz.f26 13) (E':=[(0,.ep 0 1 (0) 0),(3,.pt 2 0),(4,.pt 3 0),(49,.d (.v (.bool ((af s.kind.toNat).body))))]) (M':=[.rw 91 1 ([[.em 5 1 (ae (l++[bz s.kind]++(if (af s.kind.toNat).node=true then [bz s.node] else [])++(if (af s.kind.toNat).peer=true then [bz s.peer] else [])++(if (af s.kind.toNat).n=true then [bz s.n] else [])++(if (af s.kind.toNat).bit=true then [bz s.bit,bz (s.bit / 256)] else [])))]]),.gw 0 aj,.bx 42 [.z s.kind,.z s.node,.z s.peer,.z s.n,.z s.bit,.u s.inc,.d (.ro 1 (ae s.body))],.bx 94 [.d (.v (.string ⟨((af s.kind.toNat).word).toArray⟩)),.d (.v (.bool ((af s.kind.toNat).node))),.d (.v (.bool ((af s.kind.toNat).peer))),.d (.v (.bool ((af s.kind.toNat).n))),.d (.v (.bool ((af s.kind.toNat).bit))),.d (.v (.bool false)),.d (.v (.bool ((af s.kind.toNat).body)))]]) mo tq hK ak [] 4 [0,1,2,3] [0,3,4,49] r (by kernel_rfl) trivial fun ac wd r=>?_
   exact rM ac wd (r.cast rfl (by rw [if_neg (ne_true_of_eq_false h4),h4]<;>simp [Int.max_eq_left eK]))
  | true=>
   have r:=r.cast (E':=[(0,.ep 0 1 (0) 0),(3,.pt 2 0),(4,.pt 3 0),(43,.d (.v (.bool true)))]) (M':=[.rw 91 1 ([[.em 5 1 (ae (l++[bz s.kind]++(if (af s.kind.toNat).node=true then [bz s.node] else [])++(if (af s.kind.toNat).peer=true then [bz s.peer] else [])++(if (af s.kind.toNat).n=true then [bz s.n] else [])++(if (af s.kind.toNat).bit=true then [bz s.bit,bz (s.bit / 256)] else [])))]]),.gw 0 aj,.bx 42 [.z s.kind,.z s.node,.z s.peer,.z s.n,.z s.bit,.u s.inc,.d (.ro 1 (ae s.body))],.bx 94 [.d (.v (.string ⟨((af s.kind.toNat).word).toArray⟩)),.d (.v (.bool ((af s.kind.toNat).node))),.d (.v (.bool ((af s.kind.toNat).peer))),.d (.v (.bool ((af s.kind.toNat).n))),.d (.v (.bool ((af s.kind.toNat).bit))),.d (.v (.bool true)),.d (.v (.bool ((af s.kind.toNat).body)))]]) (by rw [h4]) (by rw [h4])
   refine bC (todo':=aft Tryz.f26 13) (E':=[(0,.ep 0 1 (0) 0),(3,.pt 2 0),(4,.pt 3 0),(49,.d (.v (.bool ((af s.kind.toNat).body))))]) (M':=[.rw 91 1 ([[.em 5 1 (ae ((l++[bz s.kind]++(if (af s.kind.toNat).node=true then [bz s.node] else [])++(if (af s.kind.toNat).peer=true then [bz s.peer] else [])++(if (af s.kind.toNat).n=true then [bz s.n] else [])++(if (af s.kind.toNat).bit=true then [bz s.bit,bz (s.bit / 256)] else []))++eE s.inc))]]),.gw 0 aj,.bx 42 [.z s.kind,.z s.node,.z s.peer,.z s.n,.z s.bit,.u s.inc,.d (.ro 1 (ae s.body))],.bx 94 [.d (.v (.string ⟨((af s.kind.toNat).word).toArray⟩)),.d (.v (.bool ((af s.kind.toNat).node))),.d (.v (.bool ((af s.kind.toNat).peer))),.d (.v (.bool ((af s.kind.toNat).n))),.d (.v (.bool ((af s.kind.toNat).bit))),.d (.v (.bool true)),.d (.v (.bool ((af s.kind.toNat).body)))]]) mo tq hK ak [(12,[(3,.mem [0] (.tu []) [.rw 91 1 ([[.em 5 1 (ae ((l++[bz s.kind]++(if (af s.kind.toNat).node=true then [bz s.node] else [])++(if (af s.kind.toNat).peer=true then [bz s.peer] else [])++(if (af s.kind.toNat).n=true then [bz s.n] else [])++(if (af s.kind.toNat).bit=true then [bz s.bit,bz (s.bit / 256)] else []))++eE s.inc))]])])])] 4 [0,1,2,3] [0,3,4,49] r (by kernel_rfl) (U (Lj (l++[bz s.kind]++(if (af s.kind.toNat).node=true then [bz s.node] else [])++(if (af s.kind.toNat).peer=true then [bz s.peer] else [])++(if (af s.kind.toNat).n=true then [bz s.n] else [])++(if (af s.kind.toNat).bit=true then [bz s.bit,bz (s.bit / 256)] else [])) s.inc (by omega) (by first | omega | (simp [iB,fE];omega))) trivial) fun ac wd r=>?_
   exact rM ac wd (r.cast rfl (by rw [if_pos h4,h4]<;>simp [Int.max_eq_left eK]))
 intro ac wd r
 have Po:=qJ (b:=(af s.kind.toNat).inc) (l:=eE s.inc) (n:=10) (by first | (simp;done) | exact fE hi)
 cases h5:((af s.kind.toNat).body) with
 | false=>
  have r:=r.cast (E':=[(0,.ep 0 1 (0) 0),(3,.pt 2 0),(4,.pt 3 0),(49,.d (.v (.bool false)))]) (M':=[.rw 91 1 ([[.em 5 1 (ae (l++[bz s.kind]++(if (af s.kind.toNat).node=true then [bz s.node] else [])++(if (af s.kind.toNat).peer=true then [bz s.peer] else [])++(if (af s.kind.toNat).n=true then [bz s.n] else [])++(if (af s.kind.toNat).bit=true then [bz s.bit,bz (s.bit / 256)] else [])++(if (af s.kind.toNat).inc=true then eE s.inc else [])))]]),.gw 0 aj,.bx 42 [.z s.kind,.z s.node,.z s.peer,.z s.n,.z s.bit,.u s.inc,.d (.ro 1 (ae s.body))],.bx 94 [.d (.v (.string ⟨((af s.kind.toNat).word).toArray⟩)),.d (.v (.bool ((af s.kind.toNat).node))),.d (.v (.bool ((af s.kind.toNat).peer))),.d (.v (.bool ((af s.kind.toNat).n))),.d (.v (.bool ((af s.kind.toNat).bit))),.d (.v (.bool ((af s.kind.toNat).inc))),.d (.v (.bool false))]]) (by rw [h5]) (by rw [h5])
  refine aQ (y:=.tu []) (N':=[.rw 91 1 ([[.em 5 1 (ae (l++[bz s.kind]++(if (af s.kind.toNat).node=true then [bz s.node] else [])++(if (af s.kind.toNat).peer=true then [bz s.peer] else [])++(if (af s.kind.toNat).n=true then [bz s.n] else [])++(if (af s.kind.toNat).bit=true then [bz s.bit,bz (s.bit / 256)] else [])++(if (af s.kind.toNat).inc=true then eE s.inc else [])))]]),.gw 0 aj]) (rfl) ((ob (by unfold fo qZ;rw [if_neg (ne_true_of_eq_false h5)];simp) _)) ?_
  exact aP mo tq hK rfl ak [] 2000 [0,1] r (by kernel_rfl) trivial
 | true=>
  have r:=r.cast (E':=[(0,.ep 0 1 (0) 0),(3,.pt 2 0),(4,.pt 3 0),(49,.d (.v (.bool true)))]) (M':=[.rw 91 1 ([[.em 5 1 (ae (l++[bz s.kind]++(if (af s.kind.toNat).node=true then [bz s.node] else [])++(if (af s.kind.toNat).peer=true then [bz s.peer] else [])++(if (af s.kind.toNat).n=true then [bz s.n] else [])++(if (af s.kind.toNat).bit=true then [bz s.bit,bz (s.bit / 256)] else [])++(if (af s.kind.toNat).inc=true then eE s.inc else [])))]]),.gw 0 aj,.bx 42 [.z s.kind,.z s.node,.z s.peer,.z s.n,.z s.bit,.u s.inc,.d (.ro 1 (ae s.body))],.bx 94 [.d (.v (.string ⟨((af s.kind.toNat).word).toArray⟩)),.d (.v (.bool ((af s.kind.toNat).node))),.d (.v (.bool ((af s.kind.toNat).peer))),.d (.v (.bool ((af s.kind.toNat).n))),.d (.v (.bool ((af s.kind.toNat).bit))),.d (.v (.bool ((af s.kind.toNat).inc))),.d (.v (.bool true))]]) (by rw [h5]) (by rw [h5])
  refine aQ (y:=.tu []) (N':=[.rw 91 1 ([[.em 5 1 (ae (((l++[bz s.kind]++(if (af s.kind.toNat).node=true then [bz s.node] else [])++(if (af s.kind.toNat).peer=true then [bz s.peer] else [])++(if (af s.kind.toNat).n=true then [bz s.n] else [])++(if (af s.kind.toNat).bit=true then [bz s.bit,bz (s.bit / 256)] else [])++(if (af s.kind.toNat).inc=true then eE s.inc else []))++[(bz ((s.body.length:Nat):Int))])++s.body))]]),.gw 0 aj]) (rfl) ((ob (by unfold fo qZ;rw [if_pos h5];simp) _)) ?_
  exact aP mo tq hK rfl ak [(14,[(3,.z (((s.body.length:Nat):Int))),(4,.z ((((bz ((s.body.length:Nat):Int)).toNat:Nat):Int))),(5,.mem [0] (.tu []) [.rw 91 1 ([[.em 5 1 (ae ((l++[bz s.kind]++(if (af s.kind.toNat).node=true then [bz s.node] else [])++(if (af s.kind.toNat).peer=true then [bz s.peer] else [])++(if (af s.kind.toNat).n=true then [bz s.n] else [])++(if (af s.kind.toNat).bit=true then [bz s.bit,bz (s.bit / 256)] else [])++(if (af s.kind.toNat).inc=true then eE s.inc else []))++[(bz ((s.body.length:Nat):Int))]))]])])]),(15,[(3,.mem [0] (.tu []) [.rw 91 1 ([[.em 5 1 (ae (((l++[bz s.kind]++(if (af s.kind.toNat).node=true then [bz s.node] else [])++(if (af s.kind.toNat).peer=true then [bz s.peer] else [])++(if (af s.kind.toNat).n=true then [bz s.n] else [])++(if (af s.kind.toNat).bit=true then [bz s.bit,bz (s.bit / 256)] else [])++(if (af s.kind.toNat).inc=true then eE s.inc else []))++[(bz ((s.body.length:Nat):Int))])++s.body))]])])])] 2000 [0,1] r (by kernel_rfl) (U ((by first | rfl | simp [ae,ah,ints,steps,strs]):(((ae s.body).length:Nat):Int)=((s.body.length:Nat):Int)) (U ((ir _):IntKind.u8.wrap (((s.body.length:Nat):Int))=(((bz ((s.body.length:Nat):Int)).toNat:Nat):Int)) (U (kh (l++[bz s.kind]++(if (af s.kind.toNat).node=true then [bz s.node] else [])++(if (af s.kind.toNat).peer=true then [bz s.peer] else [])++(if (af s.kind.toNat).n=true then [bz s.n] else [])++(if (af s.kind.toNat).bit=true then [bz s.bit,bz (s.bit / 256)] else [])++(if (af s.kind.toNat).inc=true then eE s.inc else [])) (bz ((s.body.length:Nat):Int)) (by first | omega | (simp [iB,fE];omega))) (U (MT ((l++[bz s.kind]++(if (af s.kind.toNat).node=true then [bz s.node] else [])++(if (af s.kind.toNat).peer=true then [bz s.peer] else [])++(if (af s.kind.toNat).n=true then [bz s.n] else [])++(if (af s.kind.toNat).bit=true then [bz s.bit,bz (s.bit / 256)] else [])++(if (af s.kind.toNat).inc=true then eE s.inc else []))++[(bz ((s.body.length:Nat):Int))]) s.body (by omega) (by first | omega | (simp [iB,fE];omega))) trivial))))
end Go.Proofs.YtcnpikbbmbombaaGreatDoor
namespace Go.Proofs.YtcnpikbbmbombaaGreatDoor
open Go.RowKit
def eY (c:cE) (l:List aM):List UInt8:=cY c++l.flatMap fo
noncomputable def eZ (c:cE) (l:List aM):Int:=bif bI c then (bif l.all hasB then (bif decide (65536<(eY c l).length) then 2 else 0) else 1) else 1
noncomputable def nO (c:cE) (l:List aM):AV:=bif decide (eZ c l=0) then .tu [.sl 1 (eY c l).length,.z 0] else .tu [.d (.v (.slice none 0 0)),.z (eZ c l)]
noncomputable def nP (c:cE) (l:List aM):List ai:=bif decide (eZ c l=0) then [.gw 0 aj,.rw 5 1 (ae (eY c l))] else [.gw 0 aj]
def cr (a:List UInt8):List aM→List UInt8
 | []=>a
 | s::r=>cr (if a.length≤65536 then a++fo s else a) r
theorem rX {l:List aM} {i:Nat} {s:aM} (a:List UInt8) (h:l[i]?=some s):cr a (l.take (i+1))=if (cr a (l.take i)).length≤65536 then cr a (l.take i)++fo s else cr a (l.take i):=by
 have key:∀ (l:List aM) (a:List UInt8) (s:aM),cr a (l++[s])=if (cr a l).length≤65536 then cr a l++fo s else cr a l:=by
  intro l
  induction l with
  | nil=>intro a s;rfl
  | cons x r ih=>intro a s;rw [List.cons_append,cr,cr,ih]
 rw [List.take_add_one,h];exact key _ _ _
theorem sx:∀ (l:List aM) (a:List UInt8),(if 65536<(cr a l).length then 65536<(a++l.flatMap fo).length else cr a l=a++l.flatMap fo)
 | [],a=>by simp [cr]
 | s::r,a=>by
  rw [cr]
  by_cases h:a.length≤65536
  ·rw [if_pos h]
   have:=sx r (a++fo s)
   rw [List.flatMap_cons,← List.append_assoc];exact this
  ·rw [if_neg h]
   have h1:65536<(cr a r).length:=by
    have:=sx r a
    rcases Nat.lt_or_ge 65536 (cr a r).length with h2 | h2
    ·exact h2
    ·rw [if_neg (by omega)] at this;rw [this,List.length_append] at h2;omega
   rw [if_pos h1,List.length_append];omega
theorem ma {c:cE} {l:List aM} {i:Nat} (hi:¬ (i:Int)<l.length) (h:65536<(cr (cY c) (l.take i)).length):65536<(eY c l).length:=by rw [List.take_of_length_le (by omega)] at h;have:=sx l (cY c);rw [if_pos h] at this;exact this
theorem hU {c:cE} {l:List aM} {i:Nat} (hi:¬ (i:Int)<l.length) (h:(cr (cY c) (l.take i)).length≤65536):cr (cY c) (l.take i)=eY c l:=by rw [List.take_of_length_le (by omega)] at h ⊢;have:=sx l (cY c);rw [if_neg (by omega)] at this;exact this
theorem Cj {s:aM} (h:hasB s=true):0≤s.kind∧s.kind<14∧s.body.length≤255∧0≤s.bit∧s.bit≤65535∧0≤s.node∧s.node≤255∧0≤s.peer∧s.peer≤255∧0≤s.n∧s.n≤255:=by
 unfold hasB gl dA at h
 simp only [Bool.and_eq_true,Bool.or_eq_true,decide_eq_true_eq] at h
 omega
theorem Hk {x:jQ} {s:aM} (hb:s.body.length≤255) (hi:s.inc<18446744073709551616):(qZ x s).length≤300:=by
 have:=fE hi
 unfold qZ
 simp only [List.length_append]
 have h1:∀ {b:Bool} {p:List UInt8} {n:Nat},p.length≤n→(if b=true then p else []).length≤n:=by
  intro b p n h;split
  ·exact h
  ·simp
 have a1:=h1 (b:=x.node) (p:=[bz s.node]) (n:=1) (by simp)
 have a2:=h1 (b:=x.peer) (p:=[bz s.peer]) (n:=1) (by simp)
 have a3:=h1 (b:=x.n) (p:=[bz s.n]) (n:=1) (by simp)
 have a4:=h1 (b:=x.bit) (p:=[bz s.bit,bz (s.bit / 256)]) (n:=2) (by simp)
 have a5:=h1 (b:=x.inc) (p:=eE s.inc) (n:=10) this
 have a6:=h1 (b:=x.body) (p:=bz ((s.body.length:Nat):Int)::s.body) (n:=256) (by simp;omega)
 omega
theorem Hl {s:aM} (hb:s.body.length≤255) (hi:s.inc<18446744073709551616):(fo s).length≤301:=by
 have:=Hk (x:=af s.kind.toNat) hb hi
 unfold fo;simp;omega
theorem AD (c:cE):(cY c).length=3+2*c.ah.length+c.homes.length:=by unfold cY;simp [iB];omega
def lE (l:List aM) (i:Nat):Prop:=∀ (j:Nat) s,j<i→l[j]?=some s→hasB s=true
theorem lE.none (l:List aM):lE l 0:=fun _ _ h=>absurd h (Nat.not_lt_zero _)
theorem lE.next {l:List aM} {i:Nat} {s:aM} (h:lE l i) (g:l[i]?=some s) (h1:hasB s=true):lE l (i+1):=fun j y hj gy=>by
 rcases Nat.lt_succ_iff_lt_or_eq.1 hj with h' | rfl
 ·exact h j y h' gy
 ·rw [g] at gy;cases gy;exact h1
theorem lE.all {l:List aM} {i:Nat} (h:lE l i) (hi:¬ (i:Int)<l.length):l.all hasB=true:=by
 rw [List.all_eq_true];intro s hs
 obtain ⟨j,hj,rfl⟩:=List.getElem_of_mem hs
 exact h j _ (by omega) (List.getElem?_eq_getElem hj)
theorem ml {l:List aM} {i:Nat} {s:aM} (g:l[i]?=some s) (h1:hasB s=false):l.all hasB=false:=by
 rw [List.all_eq_false];exact ⟨s,List.mem_of_getElem? g,by simp [h1]⟩
section
variable {c:cE} {l:List aM}
theorem ia (h:bI c=false∨l.all hasB=false):eZ c l=1:=by
 unfold eZ
 rcases h with h | h
 ·rw [h];rfl
 ·rw [h];cases bI c<;>rfl
theorem l6 (h1:bI c=true) (h2:l.all hasB=true) (h:65536<(eY c l).length):eZ c l=2:=by unfold eZ;rw [h1,h2,decide_eq_true h];rfl
theorem k7 (h1:bI c=true) (h2:l.all hasB=true) (h:(eY c l).length≤65536):eZ c l=0:=by unfold eZ;rw [h1,h2,decide_eq_false (by omega)];rfl
theorem jz {z:Int} (h:eZ c l=z) (hz:z≠0):nO c l=.tu [.d (.v (.slice none 0 0)),.z z]:=by unfold nO;rw [decide_eq_false (by omega),h];rfl
theorem jA {z:Int} (h:eZ c l=z) (hz:z≠0):nP c l=[.gw 0 aj]:=by unfold nP;rw [decide_eq_false (by omega)];rfl
theorem Hm (h:eZ c l=0):nO c l=.tu [.sl 1 (eY c l).length,.z 0]:=by unfold nO;rw [decide_eq_true h];rfl
theorem Hn (h:eZ c l=0):nP c l=[.gw 0 aj,.rw 5 1 (ae (eY c l))]:=by unfold nP;rw [decide_eq_true h];rfl
end
theorem rY {c:cE} {l:List aM} {b:List UInt8} (h:eZ c l=0) (hb:b=eY c l):nO c l=.tu [.sl 1 b.length,.z 0]:=by rw [Hm h,hb]
theorem rZ {c:cE} {l:List aM} {b:List UInt8} (h:eZ c l=0) (hb:b=eY c l):nP c l=[.gw 0 aj,.rw 5 1 (ae b)]:=by rw [Hn h,hb]
theorem Lq:aq Tryz.prog 22 [] [] (.ep 0 1 0 0) (je []):=by
 refine ⟨CT.1,fun {D w0 K0 β F I w} ys R hK hl hr=>(CT.2 ys R hK hl hr).mono ?_⟩
 rintro e w' ⟨v,rfl,ay,F',I',R',e1,hI,ha⟩
 have rR:β=[]:=List.eq_nil_of_length_eq_zero R.len
 subst rR
 cases ha with
 | @pt _ _ b cc hb=>
 have hB:=R'.blk 0 _ rfl
 generalize pC:F' 0=F0 at hB
 cases hB with
 | bx aS ys kP jd=>
  rw [hb] at aS;cases aS
  obtain ⟨y,rfl⟩:∃ y,ys=[y]:=by
   cases ys with
   | nil=>simp at kP
   | cons y r=>cases r with
    | nil=>exact ⟨y,rfl⟩
    | cons _ _=>simp at kP
  have hy:y=.slice none 0 0:=by
   have h0:=jd 0 _ y rfl rfl
   cases h0 with | d h0=>cases h0;rfl
  subst hy
  refine ⟨_,rfl,[(some ⟨b,0,none⟩,1)],F',I',⟨rfl,fun u blk hu=>?_,R'.st⟩,fun u x hx=>by simp at hx,hI,.ep (u:=0) rfl⟩
  cases u with
  | succ u=>simp [je] at hu
  | zero=>
   simp only [je,List.getElem?_cons_zero,Option.some.injEq] at hu;subst hu
   rw [pC]
   have:=bq.rw (K:=fun w=>K0 w∧Holds w I') (β:=[(some ⟨b,0,none⟩,1)]) (u:=0) (T:=91) (k:=1) (rows:=[[DV.em 5 1 (ae [])]]) (H0:=[(b,.cells #[.slice none 0 0] 91 (0,0))]) rfl (fun _=>[.slice none 0 0]) (fun _ _=>[]) (fun i r hi=>by
    cases i with
    | zero=>simp at hi;subst hi;exact ⟨rfl,rfl⟩
    | succ i=>simp at hi) ⟨rfl,Or.inr ⟨b,1,_,rfl,rfl,rfl,Nat.le_refl _,rfl⟩⟩ (fun i r j c x hi h1 h2=>by
    cases i with
    | succ i=>simp at hi
    | zero=>
     simp at hi;subst hi
     cases j with
     | succ j=>simp at h1
     | zero=>simp at h1 h2;subst h1;subst h2;exact Le.Cf _ _ _ _ _ (.v _))
   simpa [bB] using this
set_option maxRecDepth 100000 in
theorem J0 (c:cE) (l:List aM) (hc:c.ah.length≤1048576) (hh:c.homes.length≤1048576) (hl:l.length≤9223372036854775807) (hr:∀ s ∈ l,s.Rd):aq Tryz.prog 11 [.ag [.z c.aL,.d (.ro 2 (ah c.ah)),.d (.ro 1 (ints c.homes))],.d (.ro 7 (steps l))] [.gw 0 aj] (nO c l) (nP c l):=by
 refine aq.intro (by kernel_rfl) rfl rfl 37 rfl rfl fun D w0 K bs ac wd hK (ak:bs.m=1) r=>?_
 cases h0:(bI c) with
 | false=>
  refine aQ (y:=.tu [.d (.v (.slice none 0 0)),.z 1]) (N':=[.gw 0 aj]) ((by first | exact jz (ia (.inl (by assumption))) (by decide) | exact jz (ia (.inr (ml bM (by assumption)))) (by decide) | exact jz (l6 (by assumption) (ao.1.all (by assumption)) (ma (by assumption) (by omega))) (by decide) | exact rY (k7 (by assumption) (ao.1.all (by assumption)) (by rw [← hU (by assumption) (by omega)];omega)) (hU (by assumption) (by omega)))) ((by first | exact jA (ia (.inl (by assumption))) (by decide) | exact jA (ia (.inr (ml bM (by assumption)))) (by decide) | exact jA (l6 (by assumption) (ao.1.all (by assumption)) (ma (by assumption) (by omega))) (by decide) | exact rZ (k7 (by assumption) (ao.1.all (by assumption)) (by rw [← hU (by assumption) (by omega)];omega)) (hU (by assumption) (by omega)))) ?_
  exact aP mo tq hK rfl ak [(1,[(1,.aV (.v (.bool false)))])] 2000 [0] r (by kernel_rfl) (U ((by have k:=o7 c (by omega) (by omega);rw [h0] at k;exact k):aB Tryz.prog 21 [.ag [.z c.aL,.d (.ro 2 (ah c.ah)),.d (.ro 1 (ints c.homes))]] (.v (.bool false))) trivial)
 | true=>
  refine bT (todo':=hd Tryz.f11 0) (E':=[(6,.ep 2 1 (0) 0),(16,.d (.ro 7 (steps l))),(17,.n l.length),(18,.z 0)]) (M':=[.gw 0 aj,.bx 25 [.z c.aL,.d (.ro 2 (ah c.ah)),.d (.ro 1 (ints c.homes))],.rw 91 1 ([[.em 5 1 (ae (([])++cY c))]])]) mo tq hK ak [(1,[(1,.aV (.v (.bool true)))]),(3,[(0,.mem [] (.ep 0 1 (0) 0) [.rw 91 1 ([[.em 5 1 (ae ([]))]])])]),(4,[(2,.mem [2] (.tu []) [.rw 91 1 ([[.em 5 1 (ae (([])++cY c))]])])]),(5,[(1,.z (((l.length:Nat):Int)))])] 2000 [0,1,2] [6,16,17,18] r (by kernel_rfl) (U ((by have k:=o7 c (by omega) (by omega);rw [h0] at k;exact k):aB Tryz.prog 21 [.ag [.z c.aL,.d (.ro 2 (ah c.ah)),.d (.ro 1 (ints c.homes))]] (.v (.bool true))) (U (Lq) (U (JZ ([]) c (by simp) hc hh) (U ((by first | rfl | simp [ae,ah,ints,steps,strs]):(((steps l).length:Nat):Int)=((l.length:Nat):Int)) trivial)))) fun ac wd r=>?_
  refine aC.rounds (Φ:=fun (i:Nat) ac wd=>(lE l i∧(cr (cY c) (l.take i)).length≤3200000)∧RB D w0 K 37 bs [(6,.ep 2 1 (0) 0),(16,.d (.ro 7 (steps l))),(17,.n l.length),(18,.n i)] [.gw 0 aj,.bx 25 [.z c.aL,.d (.ro 2 (ah c.ah)),.d (.ro 1 (ints c.homes))],.rw 91 1 ([[.em 5 1 (ae (cr (cY c) (l.take i)))]])] ac wd) (l.length) ?_ (Nat.zero_le _) ⟨⟨lE.none l,by rw [List.take_zero];simp only [cr];rw [AD];omega⟩,(r).cast rfl (by simp [cr])⟩
  clear r
  rintro i dI bH ac wd ⟨ao,r⟩
  have hlen:=ao.2
  cases h1:(decide ((((i:Nat):Int):Int)<((l.length:Nat):Int))) with
  | false=>
   have bF:=of_decide_eq_false h1
   cases h2:(decide ((65536:Int)<(((cr (cY c) (l.take i)).length:Nat):Int))) with
   | false=>
    have cW:=of_decide_eq_false h2
    refine aQ (y:=.tu [.sl 1 ((cr (cY c) (l.take i)).length),.z 0]) (N':=[.gw 0 aj,.rw 5 1 (ae (cr (cY c) (l.take i)))]) ((by first | exact jz (ia (.inl (by assumption))) (by decide) | exact jz (ia (.inr (ml bM (by assumption)))) (by decide) | exact jz (l6 (by assumption) (ao.1.all (by assumption)) (ma (by assumption) (by omega))) (by decide) | exact rY (k7 (by assumption) (ao.1.all (by assumption)) (by rw [← hU (by assumption) (by omega)];omega)) (hU (by assumption) (by omega)))) ((by first | exact jA (ia (.inl (by assumption))) (by decide) | exact jA (ia (.inr (ml bM (by assumption)))) (by decide) | exact jA (l6 (by assumption) (ao.1.all (by assumption)) (ma (by assumption) (by omega))) (by decide) | exact rZ (k7 (by assumption) (ao.1.all (by assumption)) (by rw [← hU (by assumption) (by omega)];omega)) (hU (by assumption) (by omega)))) ?_
    exact aP mo tq hK rfl ak [(6,[(0,.b false)]),(13,[(1,.mem [2] (.n ((cr (cY c) (l.take i)).length)) [.rw 91 1 ([[.em 5 1 (ae (cr (cY c) (l.take i)))]])]),(2,.b false)]),(15,[(1,.mem [2] (.sl 1 ((cr (cY c) (l.take i)).length)) [.rw 91 1 (List.set [[.em 5 1 (ae (cr (cY c) (l.take i)))]] 0 [.jk]),.rw 5 1 (ae (cr (cY c) (l.take i)))])])] 2000 [0,3] r (by kernel_rfl) (U h1 (U (tG (cr (cY c) (l.take i))) (U h2 (U (JW (cr (cY c) (l.take i)) (by omega)) trivial))))
   | true=>
    have cW:=of_decide_eq_true h2
    refine aQ (y:=.tu [.d (.v (.slice none 0 0)),.z 2]) (N':=[.gw 0 aj]) ((by first | exact jz (ia (.inl (by assumption))) (by decide) | exact jz (ia (.inr (ml bM (by assumption)))) (by decide) | exact jz (l6 (by assumption) (ao.1.all (by assumption)) (ma (by assumption) (by omega))) (by decide) | exact rY (k7 (by assumption) (ao.1.all (by assumption)) (by rw [← hU (by assumption) (by omega)];omega)) (hU (by assumption) (by omega)))) ((by first | exact jA (ia (.inl (by assumption))) (by decide) | exact jA (ia (.inr (ml bM (by assumption)))) (by decide) | exact jA (l6 (by assumption) (ao.1.all (by assumption)) (ma (by assumption) (by omega))) (by decide) | exact rZ (k7 (by assumption) (ao.1.all (by assumption)) (by rw [← hU (by assumption) (by omega)];omega)) (hU (by assumption) (by omega)))) ?_
    exact aP mo tq hK rfl ak [(6,[(0,.b false)]),(13,[(1,.mem [2] (.n ((cr (cY c) (l.take i)).length)) [.rw 91 1 ([[.em 5 1 (ae (cr (cY c) (l.take i)))]])]),(2,.b true)])] 2000 [0] r (by kernel_rfl) (U h1 (U (tG (cr (cY c) (l.take i))) (U h2 trivial)))
  | true=>
   have bF:=of_decide_eq_true h1
   obtain ⟨bp,bM⟩:∃ x_,l[i]?=some x_:=⟨_,List.getElem?_eq_getElem (by omega)⟩
   have fA:=(hr _ (List.mem_of_getElem? bM)).inc
   cases h3:(hasB bp) with
   | false=>
    refine aQ (y:=.tu [.d (.v (.slice none 0 0)),.z 1]) (N':=[.gw 0 aj]) ((by first | exact jz (ia (.inl (by assumption))) (by decide) | exact jz (ia (.inr (ml bM (by assumption)))) (by decide) | exact jz (l6 (by assumption) (ao.1.all (by assumption)) (ma (by assumption) (by omega))) (by decide) | exact rY (k7 (by assumption) (ao.1.all (by assumption)) (by rw [← hU (by assumption) (by omega)];omega)) (hU (by assumption) (by omega)))) ((by first | exact jA (ia (.inl (by assumption))) (by decide) | exact jA (ia (.inr (ml bM (by assumption)))) (by decide) | exact jA (l6 (by assumption) (ao.1.all (by assumption)) (ma (by assumption) (by omega))) (by decide) | exact rZ (k7 (by assumption) (ao.1.all (by assumption)) (by rw [← hU (by assumption) (by omega)];omega)) (hU (by assumption) (by omega)))) ?_
    exact aP mo tq hK rfl ak [(6,[(0,.b true)]),(7,[(0,.ix (i) [.z bp.kind,.z bp.node,.z bp.peer,.z bp.n,.z bp.bit,.u bp.inc,.ro 1 (ae bp.body)])]),(8,[(1,.mem [0] (.d (.v (.bool (hasB bp)))) [.gw 0 aj]),(2,.b true)])] 2000 [0] r (by kernel_rfl) (U h1 (U (aA ((i:Nat):Int)) (U (l9 bM) (U (xy bp) (U ((by rw [h3];rfl):(!(hasB bp))=true) trivial)))))
   | true=>
    have Oc:=Cj ‹hasB bp=true›
    have dY:=Hl (s:=bp) (by omega) (by omega)
    cases h4:(decide (((((cr (cY c) (l.take i)).length:Nat):Int):Int)≤65536)) with
    | false=>
     have dD:=of_decide_eq_false h4
     exact bT (todo':=hd Tryz.f11 0) (E':=[(6,.ep 2 1 (0) 0),(16,.d (.ro 7 (steps l))),(17,.n l.length),(18,.n (i+1))]) (M':=[.gw 0 aj,.bx 25 [.z c.aL,.d (.ro 2 (ah c.ah)),.d (.ro 1 (ints c.homes))],.rw 91 1 ([[.em 5 1 (ae (cr (cY c) (l.take i)))]])]) mo tq hK ak [(6,[(0,.b true)]),(7,[(0,.ix (i) [.z bp.kind,.z bp.node,.z bp.peer,.z bp.n,.z bp.bit,.u bp.inc,.ro 1 (ae bp.body)])]),(8,[(1,.mem [0] (.d (.v (.bool (hasB bp)))) [.gw 0 aj]),(2,.b false)]),(10,[(1,.mem [2] (.n ((cr (cY c) (l.take i)).length)) [.rw 91 1 ([[.em 5 1 (ae (cr (cY c) (l.take i)))]])]),(2,.b false)]),(12,[(0,.z (((i+1:Nat):Int)))])] 2000 [0,1,2] [6,16,17,18] r (by kernel_rfl) (U h1 (U (aA ((i:Nat):Int)) (U (l9 bM) (U (xy bp) (U ((by rw [h3];rfl):(!(hasB bp))=false) (U (tG (cr (cY c) (l.take i))) (U h4 (U ((wi (by omega)):IntKind.i64.wrap ((((i:Nat):Int):Int)+1)=((i+1:Nat):Int)) trivial)))))))) fun ac wd r=>bH (by omega) ac wd ⟨⟨ao.1.next bM (by assumption),by rw [rX _ bM];split<;>first | omega | (simp;omega)⟩,r.cast rfl (by rw [rX _ bM];first | rw [if_pos (by omega)] | rw [if_neg (by omega)])⟩
    | true=>
     have dD:=of_decide_eq_true h4
     exact bT (todo':=hd Tryz.f11 0) (E':=[(6,.ep 2 1 (0) 0),(16,.d (.ro 7 (steps l))),(17,.n l.length),(18,.n (i+1))]) (M':=[.gw 0 aj,.bx 25 [.z c.aL,.d (.ro 2 (ah c.ah)),.d (.ro 1 (ints c.homes))],.rw 91 1 ([[.em 5 1 (ae ((cr (cY c) (l.take i))++fo bp))]])]) mo tq hK ak [(6,[(0,.b true)]),(7,[(0,.ix (i) [.z bp.kind,.z bp.node,.z bp.peer,.z bp.n,.z bp.bit,.u bp.inc,.ro 1 (ae bp.body)])]),(8,[(1,.mem [0] (.d (.v (.bool (hasB bp)))) [.gw 0 aj]),(2,.b false)]),(10,[(1,.mem [2] (.n ((cr (cY c) (l.take i)).length)) [.rw 91 1 ([[.em 5 1 (ae (cr (cY c) (l.take i)))]])]),(2,.b true)]),(11,[(2,.mem [2,0] (.tu []) [.rw 91 1 ([[.em 5 1 (ae ((cr (cY c) (l.take i))++fo bp))]]),.gw 0 aj])]),(12,[(0,.z (((i+1:Nat):Int)))])] 2000 [0,1,2] [6,16,17,18] r (by kernel_rfl) (U h1 (U (aA ((i:Nat):Int)) (U (l9 bM) (U (xy bp) (U ((by rw [h3];rfl):(!(hasB bp))=false) (U (tG (cr (cY c) (l.take i))) (U h4 (U (FT (cr (cY c) (l.take i)) bp (by omega) (by omega) (by omega) (by omega) (by omega) (by omega) (by omega)) (U ((wi (by omega)):IntKind.i64.wrap ((((i:Nat):Int):Int)+1)=((i+1:Nat):Int)) trivial))))))))) fun ac wd r=>bH (by omega) ac wd ⟨⟨ao.1.next bM (by assumption),by rw [rX _ bM];split<;>first | omega | (simp;omega)⟩,r.cast rfl (by rw [rX _ bM];first | rw [if_pos (by omega)] | rw [if_neg (by omega)])⟩
end Go.Proofs.YtcnpikbbmbombaaGreatDoor
namespace Go.Proofs.YtcnpikbbmbombaaGreatDoor
open Go.RowKit
theorem FU (c:cE) (hl:c.ah.length≤9223372036854775807) (hh:c.homes.length≤9223372036854775807):aB Tryz.prog 13 [.ag [.z c.aL,.d (.ro 2 (ah c.ah)),.d (.ro 1 (ints c.homes))],.ag [.z c.aL,.d (.ro 2 (ah c.ah)),.d (.ro 1 (ints c.homes))]] (.v (.bool true)):=by
 have q:=IG c c hl hh
 rw [show kE c c=true from decide_eq_true rfl] at q;exact q
theorem uJ (l:List aM) (hl:l.length≤9223372036854775807):aB Tryz.prog 14 [.d (.ro 7 (steps l)),.d (.ro 7 (steps l))] (.v (.bool true)):=by
 have q:=IH l l hl
 rw [show iR l l=true from decide_eq_true rfl] at q;exact q
theorem Hq {c:cE} {l:List aM} (h:decide (eZ c l=0)=true):(eY c l).length≤65536:=by
 have h:=of_decide_eq_true h
 unfold eZ at h
 cases h2:decide (65536<(eY c l).length) with
 | false=>exact Nat.not_lt.1 (of_decide_eq_false h2)
 | true=>
  rw [h2] at h
  generalize bI c=a at h;generalize l.all hasB=b at h
  cases a<;>cases b<;>cases h
theorem y6 (x:UInt8):IntKind.u8.wrap (((x.toNat:Nat):Int)+1)=(((x+1).toNat:Nat):Int):=by
 have:=x.toNat_lt
 simp [IntKind.wrap,IntKind.signed,IntKind.bits,UInt8.toNat_add]
theorem FV (b:List UInt8) (i:Nat) (x:UInt8):(ae b).set i [.v (.int .u8 ((x.toNat:Nat):Int))]=ae (b.set i x):=by
 unfold ae;rw [List.map_set]
theorem BM (c:cE) (l:List aM) (hc:c.ah.length≤1048576) (hh:c.homes.length≤1048576) (hl:l.length≤9223372036854775807) (hr:∀ s ∈ l,s.Rd) (h:decide (eZ c l=0)=true):aq Tryz.prog 11 [.ag [.z c.aL,.d (.ro 2 (ah c.ah)),.d (.ro 1 (ints c.homes))],.d (.ro 7 (steps l))] [.gw 0 aj] (.tu [.sl 1 (eY c l).length,.z 0]) [.gw 0 aj,.rw 5 1 (ae (eY c l))]:=by
 have q:=J0 c l hc hh hl hr
 unfold nO nP at q;rw [h] at q;exact q
end Go.Proofs.YtcnpikbbmbombaaGreatDoor
namespace Go.Proofs.YtcnpikbbmbombaaGreatDoor
open Go.RowKit
def y7 (l:List UInt8) (k:Nat):List ai:=gU (l.drop k) (decide (l.length<k))
theorem pL (l:List UInt8) (k:Nat):aq Tryz.prog 62 [.pt 0 0] (y7 l k) (.d (.v (.int .u8 (((l.getD k 0).toNat:Nat):Int)))) (y7 l (k+1)):=by
 have h:=DF (l.drop k) (decide (l.length<k))
 unfold au dJ dR at h
 unfold y7
 rcases Nat.lt_or_ge k l.length with h1 | h1
 ·have e:¬ e9 (l.drop k) (decide (l.length<k)) 1:=by rintro (q | q | q);exact absurd (of_decide_eq_true q) (by omega);exact absurd q (by decide);simp at q;omega
  rw [if_neg e,if_neg e,if_neg e] at h
  rw [decide_eq_false (show ¬ l.length<k+1 by omega)]
  simp [List.getD_eq_getElem?_getD,List.getElem?_take,Nat.add_comm] at h ⊢
  exact h
 ·have e:e9 (l.drop k) (decide (l.length<k)) 1:=.inr (.inr (by simp;omega))
  rw [if_pos e,if_pos e,if_pos e] at h
  rw [decide_eq_true (show l.length<k+1 by omega),AB h1]
  rw [List.drop_of_length_le (show l.length≤k+1 by omega)]
  rw [List.drop_of_length_le h1] at h ⊢
  exact h
theorem fV (b:UInt8):IntKind.i64.wrap ((b.toNat:Nat):Int)=((b.toNat:Nat):Int):=wi (by have:=b.toNat_lt;omega)
def gV (l:List UInt8) (k:Nat):Int:=(((l.getD k 0).toNat:Nat):Int)
def gN (l:List UInt8):Nat:=(l.getD 1 0).toNat
def gL (l:List UInt8) (i:Nat):List (Int×Int):=(List.range i).map fun j=>(gV l (2+2*j),gV l (2+2*j+1))
def gM (l:List UInt8):Nat:=(l.getD (2+2*gN l) 0).toNat
def gH (l:List UInt8) (i:Nat):List Int:=(List.range i).map fun j=>gV l (2+2*gN l+1+j)
def gC (l:List UInt8):cE:=⟨gV l 0,gL l (gN l),gH l (gM l)⟩
def gE (l:List UInt8):Nat:=2+2*gN l+1+gM l
theorem sy (l:List UInt8) (i:Nat):gL l (i+1)=gL l i++[(gV l (2+2*i),gV l (2+2*i+1))]:=by unfold gL;rw [List.range_succ,List.map_append];rfl
theorem Bf (l:List UInt8) (i:Nat):gH l (i+1)=gH l i++[gV l (2+2*gN l+1+i)]:=by unfold gH;rw [List.range_succ,List.map_append];rfl
theorem a7 (l:List UInt8) (i:Nat):(gL l i).length=i:=by simp [gL]
theorem a8 (l:List UInt8) (i:Nat):(gH l i).length=i:=by simp [gH]
theorem kF (l:List UInt8):gN l<256:=(l.getD 1 0).toNat_lt
theorem mB (l:List UInt8):gM l<256:=(l.getD _ 0).toNat_lt
set_option maxRecDepth 100000 in
theorem wD (l:List UInt8):aq Tryz.prog 33 [.pt 0 0] [.bx 108 [.d (.ro 1 (ae (l.drop (0)))),.d (.v (.bool ((decide (l.length<(0))))))]] (.ag [.z (gV l 0),.sl 1 (gN l),.sl 2 (gM l)]) ([.bx 108 [.d (.ro 1 (ae (l.drop (2+2*gN l+1+gM l)))),.d (.v (.bool ((decide (l.length<(2+2*gN l+1+gM l))))))],.rw 60 2 (ah (gL l (gN l))),.rw 3 1 (ints (gH l (gM l)))]):=by
 refine aq.intro (by kernel_rfl) rfl rfl 42 rfl rfl fun D w0 K bs ac wd hK (ak:bs.m=1) r=>?_
 refine bT (todo':=hd Tryz.f33 0) (E':=[(0,.pt 0 0),(2,.pt 1 0),(3,.pt 2 0),(10,.d (.v (.int .u8 ((((l.getD (0+1) 0).toNat:Nat):Int))))),(11,.d (.v (.int .u8 0)))]) (M':=[.bx 108 [.d (.ro 1 (ae (l.drop (0+1+1)))),.d (.v (.bool ((decide (l.length<(0+1+1))))))],.bx 25 [.z 0,.d (.v (.slice none 0 0)),.d (.v (.slice none 0 0))],.bx 25 [.n ((l.getD (0) 0).toNat),.d (.v (.slice none 0 0)),.d (.v (.slice none 0 0))]]) mo tq hK ak [(1,[(1,.mem [0] (.d (.v (.int .u8 ((((l.getD (0) 0).toNat:Nat):Int))))) [.bx 108 [.d (.ro 1 (ae (l.drop (0+1)))),.d (.v (.bool ((decide (l.length<(0+1))))))]]),(2,.z ((((l.getD (0) 0).toNat:Nat):Int)))]),(2,[(1,.mem [0] (.d (.v (.int .u8 ((((l.getD (0+1) 0).toNat:Nat):Int))))) [.bx 108 [.d (.ro 1 (ae (l.drop (0+1+1)))),.d (.v (.bool ((decide (l.length<(0+1+1))))))]])])] 2000 [0,1,2] [0,2,3,10,11] r (by kernel_rfl) (U (pL l (0)) (U ((fV _):IntKind.i64.wrap ((((l.getD (0) 0).toNat:Nat):Int))=(((l.getD (0) 0).toNat:Nat):Int)) (U (pL l (0+1)) trivial))) fun ac wd r=>?_
 refine aC.rounds (Φ:=fun (i:Nat) ac wd=>(i≤gN l)∧RB D w0 K 42 bs [(0,.pt 0 0),(2,.pt 1 0),(3,.pt 2 0),(10,.d (.v (.int .u8 (((gN l:Nat):Int))))),(11,.d (.v (.int .u8 (((i:Nat):Int)))))] [.bx 108 [.d (.ro 1 (ae (l.drop (2+2*i)))),.d (.v (.bool ((decide (l.length<(2+2*i))))))],.bx 25 [.z 0,.d (.v (.slice none 0 0)),.d (.v (.slice none 0 0))],.bx 25 [.z (gV l 0),.sl 3 (i),.d (.v (.slice none 0 0))],.rw 60 2 (ah (gL l i))] ac wd) (gN l) ?_ (Nat.zero_le _) ⟨Nat.zero_le _,r.de (M1:=[.bx 108 [.d (.ro 1 (ae (l.drop (0+1+1)))),.d (.v (.bool ((decide (l.length<(0+1+1))))))],.bx 25 [.z 0,.d (.v (.slice none 0 0)),.d (.v (.slice none 0 0))],.bx 25 [.n ((l.getD (0) 0).toNat),.d (.v (.slice none 0 0)),.d (.v (.slice none 0 0))]]) [] [(2,1,60,2)] (by kernel_rfl) (by kernel_rfl)⟩
 clear r
 rintro i dI bH ac wd ⟨ao,r⟩
 have y8:=kF l
 cases h0:(decide ((((i:Nat):Int):Int)<((gN l:Nat):Int))) with
 | false=>
  have aK:=of_decide_eq_false h0
  refine bT (todo':=hd Tryz.f33 1) (E':=[(0,.pt 0 0),(2,.pt 1 0),(3,.pt 2 0),(29,.d (.v (.int .u8 ((((l.getD (2+2*i) 0).toNat:Nat):Int))))),(30,.d (.v (.int .u8 0)))]) (M':=[.bx 108 [.d (.ro 1 (ae (l.drop (2+2*i+1)))),.d (.v (.bool ((decide (l.length<(2+2*i+1))))))],.bx 25 [.z 0,.d (.v (.slice none 0 0)),.d (.v (.slice none 0 0))],.bx 25 [.z (gV l 0),.sl 3 (i),.d (.v (.slice none 0 0))],.rw 60 2 (ah (gL l i))]) mo tq hK ak [(3,[(0,.b false)]),(9,[(1,.mem [0] (.d (.v (.int .u8 ((((l.getD (2+2*i) 0).toNat:Nat):Int))))) [.bx 108 [.d (.ro 1 (ae (l.drop (2+2*i+1)))),.d (.v (.bool ((decide (l.length<(2+2*i+1))))))]])])] 2000 [0,1,2,3] [0,2,3,29,30] r (by kernel_rfl) (U h0 (U (pL l (2+2*i)) trivial)) fun ac wd r=>?_
  refine aC.rounds (Φ:=fun (i:Nat) ac wd=>(i≤gM l)∧RB D w0 K 42 bs [(0,.pt 0 0),(2,.pt 1 0),(3,.pt 2 0),(29,.d (.v (.int .u8 (((gM l:Nat):Int))))),(30,.d (.v (.int .u8 (((i:Nat):Int)))))] [.bx 108 [.d (.ro 1 (ae (l.drop (2+2*gN l+1+i)))),.d (.v (.bool ((decide (l.length<(2+2*gN l+1+i))))))],.bx 25 [.z 0,.d (.v (.slice none 0 0)),.d (.v (.slice none 0 0))],.bx 25 [.z (gV l 0),.sl 3 ((gN l)),.sl 4 (i)],.rw 60 2 (ah (gL l (gN l))),.rw 3 1 (ints (gH l i))] ac wd) (gM l) ?_ (Nat.zero_le _) ⟨Nat.zero_le _,(r.de (E1:=[(0,.pt 0 0),(2,.pt 1 0),(3,.pt 2 0),(29,.d (.v (.int .u8 ((((l.getD (2+2*i) 0).toNat:Nat):Int))))),(30,.d (.v (.int .u8 0)))]) (M2:=[.bx 108 [.d (.ro 1 (ae (l.drop (2+2*i+1)))),.d (.v (.bool ((decide (l.length<(2+2*i+1))))))],.bx 25 [.z 0,.d (.v (.slice none 0 0)),.d (.v (.slice none 0 0))],.bx 25 [.z (gV l 0),.sl 3 (i),.sl 4 (0)],.rw 60 2 (ah (gL l i)),.rw 3 1 ([])]) (M1:=[.bx 108 [.d (.ro 1 (ae (l.drop (2+2*i+1)))),.d (.v (.bool ((decide (l.length<(2+2*i+1))))))],.bx 25 [.z 0,.d (.v (.slice none 0 0)),.d (.v (.slice none 0 0))],.bx 25 [.z (gV l 0),.sl 3 (i),.d (.v (.slice none 0 0))],.rw 60 2 (ah (gL l i))]) [] [(2,2,3,1)] (by kernel_rfl) (by kernel_rfl)).cast (by rw [show i=gN l from by omega];rfl) (by rw [show i=gN l from by omega];rfl)⟩
  clear r
  rintro i lV fG ac wd ⟨dt,r⟩
  have Od:=mB l
  cases h1:(decide ((((i:Nat):Int):Int)<((gM l:Nat):Int))) with
  | false=>
   have bF:=of_decide_eq_false h1
   refine aQ (y:=.ag [.z (gV l 0),.sl 1 ((gN l)),.sl 2 (i)]) (N':=[.bx 108 [.d (.ro 1 (ae (l.drop (2+2*gN l+1+i)))),.d (.v (.bool ((decide (l.length<(2+2*gN l+1+i))))))],.rw 60 2 (ah (gL l (gN l))),.rw 3 1 (ints (gH l i))]) ((by rw [show i=gM l from by omega])) ((by rw [show i=gM l from by omega])) ?_
   exact aP mo tq hK rfl ak [(10,[(0,.b false)])] 2000 [0,3,4] r (by kernel_rfl) (U h1 trivial)
  | true=>
   have bF:=of_decide_eq_true h1
   exact bT (todo':=hd Tryz.f33 1) (E':=[(0,.pt 0 0),(2,.pt 1 0),(3,.pt 2 0),(29,.d (.v (.int .u8 (((gM l:Nat):Int))))),(30,.d (.v (.int .u8 (((i+1:Nat):Int)))))]) (M':=[.bx 108 [.d (.ro 1 (ae (l.drop (2+2*gN l+1+i+1)))),.d (.v (.bool ((decide (l.length<(2+2*gN l+1+i+1))))))],.bx 25 [.z 0,.d (.v (.slice none 0 0)),.d (.v (.slice none 0 0))],.bx 25 [.z (gV l 0),.sl 3 ((gN l)),.sl 4 (i+(1))],.rw 60 2 (ah (gL l (gN l))),.rw 3 1 (ints (gH l i)++[[.n ((l.getD (2+2*gN l+1+i) 0).toNat)]])]) mo tq hK ak [(10,[(0,.b true)]),(11,[(3,.mem [0] (.d (.v (.int .u8 ((((l.getD (2+2*gN l+1+i) 0).toNat:Nat):Int))))) [.bx 108 [.d (.ro 1 (ae (l.drop (2+2*gN l+1+i+1)))),.d (.v (.bool ((decide (l.length<(2+2*gN l+1+i+1))))))]]),(4,.z ((((l.getD (2+2*gN l+1+i) 0).toNat:Nat):Int)))]),(12,[(0,.z (((i+1:Nat):Int)))])] 2000 [0,1,2,3,4] [0,2,3,29,30] r (by kernel_rfl) (U h1 (U (pL l (2+2*gN l+1+i)) (U ((fV _):IntKind.i64.wrap ((((l.getD (2+2*gN l+1+i) 0).toNat:Nat):Int))=(((l.getD (2+2*gN l+1+i) 0).toNat:Nat):Int)) (U ((by first | rfl | (simp [ah,ints,a7,a8];done) | (simp [ah,ints,a7,a8];omega)):(i)=(ints (gH l i)).length) (U ((by first | rfl | (simp [ah,ints,a7,a8];done) | (simp [ah,ints,a7,a8];omega)):(1)=([[.n ((l.getD (2+2*gN l+1+i) 0).toNat)]]:List (List DV)).length) (U ((by first | omega | (simp [ah,ints,a7,a8];done) | (simp [ah,ints,a7,a8];omega)):(2*((i)+(1))+192)*8≤281474976710656) (U ((by first | omega | (simp [ah,ints,a7,a8];done) | (simp [ah,ints,a7,a8];omega)):(i)+(1)<4611686018427387904) (U ((by simp [bd,AV.one,bW,ae,ah,ints,steps,strs]):bd ([[.n ((l.getD (2+2*gN l+1+i) 0).toNat)]])) (U ((w8 (by have:=mB l;omega)):IntKind.u8.wrap ((((i:Nat):Int):Int)+1)=((i+1:Nat):Int)) trivial))))))))) fun ac wd r=>fG (by omega) ac wd ⟨(by omega),r.cast rfl (by rw [Bf,show 2+2*gN l+1+(i+1)=2+2*gN l+1+i+1 from by omega];simp [ints,gV])⟩
 | true=>
  have aK:=of_decide_eq_true h0
  exact bT (todo':=hd Tryz.f33 0) (E':=[(0,.pt 0 0),(2,.pt 1 0),(3,.pt 2 0),(10,.d (.v (.int .u8 (((gN l:Nat):Int))))),(11,.d (.v (.int .u8 (((i+1:Nat):Int)))))]) (M':=[.bx 108 [.d (.ro 1 (ae (l.drop (2+2*i+1+1)))),.d (.v (.bool ((decide (l.length<(2+2*i+1+1))))))],.bx 25 [.z 0,.d (.v (.slice none 0 0)),.d (.v (.slice none 0 0))],.bx 25 [.z (gV l 0),.sl 3 (i+(1)),.d (.v (.slice none 0 0))],.rw 60 2 (ah (gL l i)++[[.n ((l.getD (2+2*i) 0).toNat),.n ((l.getD (2+2*i+1) 0).toNat)]])]) mo tq hK ak [(3,[(0,.b true)]),(5,[(1,.mem [0] (.d (.v (.int .u8 ((((l.getD (2+2*i) 0).toNat:Nat):Int))))) [.bx 108 [.d (.ro 1 (ae (l.drop (2+2*i+1)))),.d (.v (.bool ((decide (l.length<(2+2*i+1))))))]]),(2,.z ((((l.getD (2+2*i) 0).toNat:Nat):Int))),(3,.n 0)]),(6,[(1,.mem [0] (.d (.v (.int .u8 ((((l.getD (2+2*i+1) 0).toNat:Nat):Int))))) [.bx 108 [.d (.ro 1 (ae (l.drop (2+2*i+1+1)))),.d (.v (.bool ((decide (l.length<(2+2*i+1+1))))))]]),(2,.z ((((l.getD (2+2*i+1) 0).toNat:Nat):Int))),(3,.n 1)]),(8,[(0,.z (((i+1:Nat):Int)))])] 2000 [0,1,2,3] [0,2,3,10,11] r (by kernel_rfl) (U h0 (U (pL l (2+2*i)) (U ((fV _):IntKind.i64.wrap ((((l.getD (2+2*i) 0).toNat:Nat):Int))=(((l.getD (2+2*i) 0).toNat:Nat):Int)) (U (rfl:(0)=((0:Nat):Int)) (U ((by omega):(0)<2) (U (pL l (2+2*i+1)) (U ((fV _):IntKind.i64.wrap ((((l.getD (2+2*i+1) 0).toNat:Nat):Int))=(((l.getD (2+2*i+1) 0).toNat:Nat):Int)) (U (rfl:(1)=((1:Nat):Int)) (U ((by omega):(1)<2) (U ((by first | rfl | (simp [ah,ints,a7,a8];done) | (simp [ah,ints,a7,a8];omega)):(i)=(ah (gL l i):List (List DV)).length) (U ((by first | rfl | (simp [ah,ints,a7,a8];done) | (simp [ah,ints,a7,a8];omega)):(1)=([[.n ((l.getD (2+2*i) 0).toNat),.n ((l.getD (2+2*i+1) 0).toNat)]]:List (List DV)).length) (U ((by first | omega | (simp [ah,ints,a7,a8];done) | (simp [ah,ints,a7,a8];omega)):(2*((i)+(1))+192)*16≤281474976710656) (U ((by first | omega | (simp [ah,ints,a7,a8];done) | (simp [ah,ints,a7,a8];omega)):(i)+(1)<4611686018427387904) (U ((by simp [bd,AV.one,bW,ae,ah,ints,steps,strs]):bd ([[.n ((l.getD (2+2*i) 0).toNat),.n ((l.getD (2+2*i+1) 0).toNat)]])) (U ((w8 (by have:=kF l;omega)):IntKind.u8.wrap ((((i:Nat):Int):Int)+1)=((i+1:Nat):Int)) trivial))))))))))))))) fun ac wd r=>bH (by omega) ac wd ⟨(by omega),r.cast rfl (by rw [sy,show 2+2*(i+1)=2+2*i+1+1 from by omega];simp [ah,gV])⟩
end Go.Proofs.YtcnpikbbmbombaaGreatDoor
namespace Go.Proofs.YtcnpikbbmbombaaGreatDoor
open Go.RowKit
set_option maxRecDepth 100000 in
theorem J1 (l:List UInt8) (b:Bool) (z:Int) (hb:l.length<2147483648):aq Tryz.prog 65 [.pt 0 0,.z z] [.bx 108 [.d (.ro 1 (ae l)),.d (.v (.bool b))]] (.d (.ro 1 (ae (au l b z)))) (gU (dJ l b z) (dR l b z)):=by
 refine aq.intro (by kernel_rfl) rfl rfl 13 rfl rfl fun D w0 K bs ac wd hK (ak:bs.m=1) r=>?_
 refine aQ (y:=.d (.ro 1 (ae (au l b z)))) (N':=[.bx 108 [.d (.ro 1 (ae (dJ l b z))),.d (.v (.bool ((dR l b z))))]]) (rfl) (rfl) ?_
 exact aP mo tq hK rfl ak [(3,[(4,.mem [0] (.d (.ro 1 (ae (au l b z)))) [.bx 108 [.d (.ro 1 (ae (dJ l b z))),.d (.v (.bool ((dR l b z))))]]),(5,.aV (.ro 1 (ae (au l b z))))])] 2000 [0] r (by kernel_rfl) (U (nz:dm Tryz.prog 61) (U (vB l b z) (U (z8 (au l b z) (by unfold au;split;simp;simp;omega)) trivial)))
abbrev b4:=List UInt8×Bool
def pM (r:b4):List ai:=gU r.1 r.2
def az (z:Int) (r:b4):b4:=(dJ r.1 r.2 z,dR r.1 r.2 z)
def v8 (r:b4):Nat:=((au r.1 r.2 1).getD 0 0).toNat
def eA (r:b4):Nat:=((au r.1 r.2 2).getD 0 0).toNat+((au r.1 r.2 2).getD 1 0).toNat*256
def vU (r:b4):Nat:=(lW r.1 r.2).toNat
def rU (r:b4):b4:=(ng r.1 r.2,oa r.1 r.2)
theorem xC (r:b4):v8 r<256:=UInt8.toNat_lt _
theorem J2 (r:b4):eA r<65536:=by
 have h1:=((au r.1 r.2 2).getD 0 0).toNat_lt
 have h2:=((au r.1 r.2 2).getD 1 0).toNat_lt
 unfold eA;omega
theorem kS (r:b4):IntKind.i64.wrap ((v8 r:Nat):Int)=((v8 r:Nat):Int):=wi (by have:=xC r;omega)
theorem CU (r:b4):IntKind.i64.wrap ((eA r:Nat):Int)=((eA r:Nat):Int):=wi (by have:=J2 r;omega)
theorem pO (r:b4):aq Tryz.prog 62 [.pt 0 0] (pM r) (.d (.v (.int .u8 ((v8 r:Nat):Int)))) (pM (az 1 r)):=DF r.1 r.2
theorem MX (r:b4):aq Tryz.prog 63 [.pt 0 0] (pM r) (.d (.v (.int .u16 ((eA r:Nat):Int)))) (pM (az 2 r)):=MV r.1 r.2
theorem Ck (z:Int):0≤IntKind.u64.wrap z:=by simp [IntKind.wrap,IntKind.signed,IntKind.bits];omega
theorem AE:∀ (l:List UInt8) (i:Nat) (x:Int),0≤x→0≤(fK l i x).1
 | [],_,_,_=>Int.le_refl _
 | c::r,i,x,h=>by
  unfold fK
  split
  ·exact Int.le_refl _
  ·split
   ·split
    ·exact Int.le_refl _
    ·exact Ck _
   ·exact AE r (i+1) _ (Ck _)
theorem IN (l:List UInt8) (b:Bool):0≤lW l b:=by
 unfold lW ez;split
 ·exact Int.le_refl _
 ·split
  ·exact Int.le_refl _
  ·exact AE _ _ _ (Int.le_refl _)
theorem Lr (r:b4):aq Tryz.prog 64 [.pt 0 0] (pM r) (.d (.v (.int .u64 ((vU r:Nat):Int)))) (pM (rU r)):=by
 have h:=IL r.1 r.2
 rw [show lW r.1 r.2=((vU r:Nat):Int) by have:=IN r.1 r.2;unfold vU;omega] at h;exact h
def gK (l:List UInt8):Nat:=v8 (l,false)
def bG (l:List UInt8):b4:=az 1 (l,false)
def cz (l:List UInt8):b4:=cond (af (gK l)).node (az 1 (bG l)) (bG l)
def cu (l:List UInt8):b4:=cond (af (gK l)).peer (az 1 (cz l)) (cz l)
def cv (l:List UInt8):b4:=cond (af (gK l)).n (az 1 (cu l)) (cu l)
def cH (l:List UInt8):b4:=cond (af (gK l)).bit (az 2 (cv l)) (cv l)
def aU (l:List UInt8):b4:=cond (af (gK l)).inc (rU (cH l)) (cH l)
def bN (l:List UInt8):b4:=cond (af (gK l)).body (az (v8 (aU l)) (az 1 (aU l))) (aU l)
def cg (l:List UInt8):Nat:=cond (af (gK l)).node (v8 (bG l)) 0
def cF (l:List UInt8):Nat:=cond (af (gK l)).peer (v8 (cz l)) 0
def cS (l:List UInt8):Nat:=cond (af (gK l)).n (v8 (cu l)) 0
def dc (l:List UInt8):Nat:=cond (af (gK l)).bit (eA (cv l)) 0
def dK (l:List UInt8):Nat:=cond (af (gK l)).inc (vU (cH l)) 0
def dx (l:List UInt8):List UInt8:=cond (af (gK l)).body (au (az 1 (aU l)).1 (az 1 (aU l)).2 (v8 (aU l))) []
def er (l:List UInt8):aM:=⟨gK l,cg l,cF l,cS l,dc l,dK l,dx l⟩
def gZ:aM:=⟨0,0,0,0,0,0,[]⟩
def bo (l:List UInt8):aM×Nat:=if 14≤gK l then (gZ,1) else cond (bN l).2 (gZ,1) (er l,l.length-(bN l).1.length)
theorem vC {l:List UInt8} (h:14≤gK l):bo l=(gZ,1):=by unfold bo;rw [if_pos h]
theorem vD {l:List UInt8} (h:gK l<14) (e:(bN l).2=true):bo l=(gZ,1):=by unfold bo;rw [if_neg (by omega),e];rfl
theorem vE {l:List UInt8} (h:gK l<14) (e:(bN l).2=false):bo l=(er l,l.length-(bN l).1.length):=by unfold bo;rw [if_neg (by omega),e];rfl
theorem dL {b c:Bool} {α:Type} {x y z:α} (h:b=c) (e:cond c x y=z):cond b x y=z:=h▸e
theorem dV (z:Int) (r:b4):(az z r).1.length≤r.1.length:=BJ
theorem xD (r:b4):(rU r).1.length≤r.1.length:=JY
theorem jB {b:Bool} {r s:b4} {n:Nat} (h:r.1.length≤n) (k:s.1.length≤n):(cond b r s).1.length≤n:=by cases b;exact k;exact h
theorem wE (l:List UInt8):(bG l).1.length≤l.length:=dV 1 (l,false)
theorem BN (l:List UInt8):(cz l).1.length≤l.length:=jB (Nat.le_trans (dV _ _) (wE l)) (wE l)
theorem BO (l:List UInt8):(cu l).1.length≤l.length:=jB (Nat.le_trans (dV _ _) (BN l)) (BN l)
theorem BP (l:List UInt8):(cv l).1.length≤l.length:=jB (Nat.le_trans (dV _ _) (BO l)) (BO l)
theorem BQ (l:List UInt8):(cH l).1.length≤l.length:=jB (Nat.le_trans (dV _ _) (BP l)) (BP l)
theorem sN (l:List UInt8):(aU l).1.length≤l.length:=jB (Nat.le_trans (xD _) (BQ l)) (BQ l)
theorem J3 (l:List UInt8):(bN l).1.length≤l.length:=jB (Nat.le_trans (dV _ _) (Nat.le_trans (dV _ _) (sN l))) (sN l)
def gX (q:aM×Nat):AV:=.tu [.ag [.z q.1.kind,.z q.1.node,.z q.1.peer,.z q.1.n,.z q.1.bit,.u q.1.inc,.sl 1 (ae q.1.body).length],.n q.2]
def od (q:aM×Nat):List ai:=[.gw 0 aj,.rw 5 1 (ae q.1.body)]
theorem Lt {l:List UInt8} (h:(af (gK l)).node=true):cz l=az 1 (bG l):=dL h rfl
theorem Lu {l:List UInt8} (h:(af (gK l)).node=true):cg l=v8 (bG l):=dL h rfl
theorem Lv {l:List UInt8} (h:(af (gK l)).node=false):cz l=bG l:=dL h rfl
theorem Lw {l:List UInt8} (h:(af (gK l)).node=false):cg l=0:=dL h rfl
theorem Lx {l:List UInt8} (h:(af (gK l)).peer=true):cu l=az 1 (cz l):=dL h rfl
theorem Ly {l:List UInt8} (h:(af (gK l)).peer=true):cF l=v8 (cz l):=dL h rfl
theorem Lz {l:List UInt8} (h:(af (gK l)).peer=false):cu l=cz l:=dL h rfl
theorem LA {l:List UInt8} (h:(af (gK l)).peer=false):cF l=0:=dL h rfl
theorem LB {l:List UInt8} (h:(af (gK l)).n=true):cv l=az 1 (cu l):=dL h rfl
theorem LC {l:List UInt8} (h:(af (gK l)).n=true):cS l=v8 (cu l):=dL h rfl
theorem LD {l:List UInt8} (h:(af (gK l)).n=false):cv l=cu l:=dL h rfl
theorem LF {l:List UInt8} (h:(af (gK l)).n=false):cS l=0:=dL h rfl
theorem LG {l:List UInt8} (h:(af (gK l)).bit=true):cH l=az 2 (cv l):=dL h rfl
theorem LH {l:List UInt8} (h:(af (gK l)).bit=true):dc l=eA (cv l):=dL h rfl
theorem LI {l:List UInt8} (h:(af (gK l)).bit=false):cH l=cv l:=dL h rfl
theorem LJ {l:List UInt8} (h:(af (gK l)).bit=false):dc l=0:=dL h rfl
theorem LK {l:List UInt8} (h:(af (gK l)).inc=true):aU l=rU (cH l):=dL h rfl
theorem LL {l:List UInt8} (h:(af (gK l)).inc=true):dK l=vU (cH l):=dL h rfl
theorem LM {l:List UInt8} (h:(af (gK l)).inc=false):aU l=cH l:=dL h rfl
theorem LN {l:List UInt8} (h:(af (gK l)).inc=false):dK l=0:=dL h rfl
theorem Cl {l:List UInt8} (h:(af (gK l)).body=true):bN l=az (v8 (aU l)) (az 1 (aU l)):=dL h rfl
theorem LO {l:List UInt8} (h:(af (gK l)).body=true):dx l=au (az 1 (aU l)).1 (az 1 (aU l)).2 (v8 (aU l)):=dL h rfl
theorem Cm {l:List UInt8} (h:(af (gK l)).body=false):bN l=aU l:=dL h rfl
theorem LP {l:List UInt8} (h:(af (gK l)).body=false):dx l=[]:=dL h rfl
theorem Cn {b:Bool} (h:¬ (if b=true then (3:Int) else 0)=0):b=true:=by cases b;exact absurd rfl h;rfl
theorem Co {b:Bool} (h:(if b=true then (3:Int) else 0)=0):b=false:=by cases b;rfl;exact absurd h (by decide)
set_option maxRecDepth 100000 in
theorem FW (l:List UInt8) (hl:l.length<2147483648):aq Tryz.prog 36 [.d (.ro 1 (ae l))] [.gw 0 aj] (gX (bo l)) (od (bo l)):=by
 refine aq.intro (by kernel_rfl) rfl rfl 69 rfl rfl fun D w0 K bs ac wd hK (ak:bs.m=1) r=>?_
 have aE:=((kS _):IntKind.i64.wrap (((gK l:Nat):Int))=((gK l:Nat):Int))
 cases h0:(decide ((14:Int)≤((gK l:Nat):Int))) with
 | false=>
  have aK:=of_decide_eq_false h0
  refine bC (todo':=aft Tryz.f36 6) (E':=[(0,.d (.ro 1 (ae l))),(2,.pt 1 0),(3,.z 0),(4,.pt 2 0),(6,.pt 3 0),(7,.pt 4 0)]) (M':=[.gw 0 aj,.bx 42 [.z 0,.z 0,.z 0,.z 0,.z 0,.d (.v (.int .u64 0)),.d (.v (.slice none 0 0))],.bx 108 [.d (.ro 1 (ae (bG l).1)),.d (.v (.bool ((bG l).2)))],.bx 94 [.d (.v (.string ⟨((af (gK l)).word).toArray⟩)),.d (.v (.bool ((af (gK l)).node))),.d (.v (.bool ((af (gK l)).peer))),.d (.v (.bool ((af (gK l)).n))),.d (.v (.bool ((af (gK l)).bit))),.d (.v (.bool ((af (gK l)).inc))),.d (.v (.bool ((af (gK l)).body)))],.bx 42 [.n (gK l),.z 0,.z 0,.z 0,.z 0,.d (.v (.int .u64 0)),.d (.v (.slice none 0 0))]]) mo tq hK ak [(1,[(1,.mem [] (.pt 0 0) [.bx 108 [.d (.ro 1 (ae ((l,false)).1)),.d (.v (.bool (((l,false)).2)))]])]),(2,[(1,.mem [2] (.d (.v (.int .u8 (((gK l:Nat):Int))))) [.bx 108 [.d (.ro 1 (ae (bG l).1)),.d (.v (.bool ((bG l).2)))]]),(2,.z (((gK l:Nat):Int)))]),(3,[(1,.b false)]),(5,[(1,.ix (gK l) [.v (.string ⟨((af (gK l)).word).toArray⟩),.v (.bool ((af (gK l)).node)),.v (.bool ((af (gK l)).peer)),.v (.bool ((af (gK l)).n)),.v (.bool ((af (gK l)).bit)),.v (.bool ((af (gK l)).inc)),.v (.bool ((af (gK l)).body))])])] 15 [0,1,2,3,4] [0,2,3,4,6,7] r (by kernel_rfl) (U (qc l hl) (U (pO ((l,false))) (U aE (U h0 (U (aA ((gK l:Nat):Int)) (U ((by omega):(gK l)<14) (U (nn (by omega):List.take 7 (List.drop ((gK l)*7) (aj:List DV))=([.v (.string ⟨((af (gK l)).word).toArray⟩),.v (.bool ((af (gK l)).node)),.v (.bool ((af (gK l)).peer)),.v (.bool ((af (gK l)).n)),.v (.bool ((af (gK l)).bit)),.v (.bool ((af (gK l)).inc)),.v (.bool ((af (gK l)).body))]:List DV)) trivial))))))) fun ac wd r=>?_
  have r:=r.de (E1:=[(0,.d (.ro 1 (ae l))),(2,.pt 1 0),(3,.z 0),(4,.pt 2 0),(6,.pt 3 0),(7,.pt 4 0)]) (M1:=[.gw 0 aj,.bx 42 [.z 0,.z 0,.z 0,.z 0,.z 0,.d (.v (.int .u64 0)),.d (.v (.slice none 0 0))],.bx 108 [.d (.ro 1 (ae (bG l).1)),.d (.v (.bool ((bG l).2)))],.bx 94 [.d (.v (.string ⟨((af (gK l)).word).toArray⟩)),.d (.v (.bool ((af (gK l)).node))),.d (.v (.bool ((af (gK l)).peer))),.d (.v (.bool ((af (gK l)).n))),.d (.v (.bool ((af (gK l)).bit))),.d (.v (.bool ((af (gK l)).inc))),.d (.v (.bool ((af (gK l)).body)))],.bx 42 [.n (gK l),.z 0,.z 0,.z 0,.z 0,.d (.v (.int .u64 0)),.d (.v (.slice none 0 0))]]) (M2:=[.gw 0 aj,.bx 42 [.z 0,.z 0,.z 0,.z 0,.z 0,.d (.v (.int .u64 0)),.d (.v (.slice none 0 0))],.bx 108 [.d (.ro 1 (ae (bG l).1)),.d (.v (.bool ((bG l).2)))],.bx 94 [.d (.v (.string ⟨((af (gK l)).word).toArray⟩)),.d (.v (.bool ((af (gK l)).node))),.d (.v (.bool ((af (gK l)).peer))),.d (.v (.bool ((af (gK l)).n))),.d (.v (.bool ((af (gK l)).bit))),.d (.v (.bool ((af (gK l)).inc))),.d (.v (.bool ((af (gK l)).body)))],.bx 42 [.n (gK l),.z 0,.z 0,.z 0,.z 0,.d (.v (.int .u64 0)),.sl 5 (0)],.rw 5 1 ([])]) [] [(4,6,5,1)] (by kernel_rfl) (by kernel_rfl)
  refine bC (todo':=aft Tryz.f36 7) (E':=[(0,.d (.ro 1 (ae l))),(2,.pt 1 0),(3,.z 0),(4,.pt 2 0),(6,.pt 3 0),(7,.pt 4 0),(22,.d (.v (.bool ((af (gK l)).node))))]) (M':=[.gw 0 aj,.bx 42 [.z 0,.z 0,.z 0,.z 0,.z 0,.d (.v (.int .u64 0)),.d (.v (.slice none 0 0))],.bx 108 [.d (.ro 1 (ae (bG l).1)),.d (.v (.bool ((bG l).2)))],.bx 94 [.d (.v (.string ⟨((af (gK l)).word).toArray⟩)),.d (.v (.bool ((af (gK l)).node))),.d (.v (.bool ((af (gK l)).peer))),.d (.v (.bool ((af (gK l)).n))),.d (.v (.bool ((af (gK l)).bit))),.d (.v (.bool ((af (gK l)).inc))),.d (.v (.bool ((af (gK l)).body)))],.bx 42 [.n (gK l),.z 0,.z 0,.z 0,.z 0,.d (.v (.int .u64 0)),.sl 5 (0)],.rw 5 1 ([])]) mo tq hK ak [] 3 [0,1,2,3,4,5] [0,2,3,4,6,7,22] r (by kernel_rfl) trivial fun ac wd r=>?_
  suffices J9:∀ ac wd,RB D w0 K 69 bs [(0,.d (.ro 1 (ae l))),(2,.pt 1 0),(4,.pt 2 0),(7,.pt 4 0),(6,.pt 3 0),(28,.d (.v (.bool ((af (gK l)).peer))))] [.gw 0 aj,.bx 42 [.z 0,.z 0,.z 0,.z 0,.z 0,.d (.v (.int .u64 0)),.d (.v (.slice none 0 0))],.bx 108 [.d (.ro 1 (ae (cz l).1)),.d (.v (.bool ((cz l).2)))],.bx 94 [.d (.v (.string ⟨((af (gK l)).word).toArray⟩)),.d (.v (.bool ((af (gK l)).node))),.d (.v (.bool ((af (gK l)).peer))),.d (.v (.bool ((af (gK l)).n))),.d (.v (.bool ((af (gK l)).bit))),.d (.v (.bool ((af (gK l)).inc))),.d (.v (.bool ((af (gK l)).body)))],.bx 42 [.n (gK l),.n (cg l),.z 0,.z 0,.z 0,.d (.v (.int .u64 0)),.sl 5 (0)],.rw 5 1 ([])] ac wd→aC Tryz.prog 36 (aft Tryz.f36 9) (eX D w0 K bs (gX (bo l)) (od (bo l))) ac wd by
   cases h1:((af (gK l)).node) with
   | false=>
    have r:=r.cast (E':=[(0,.d (.ro 1 (ae l))),(2,.pt 1 0),(3,.z 0),(4,.pt 2 0),(6,.pt 3 0),(7,.pt 4 0),(22,.d (.v (.bool false)))]) (M':=[.gw 0 aj,.bx 42 [.z 0,.z 0,.z 0,.z 0,.z 0,.d (.v (.int .u64 0)),.d (.v (.slice none 0 0))],.bx 108 [.d (.ro 1 (ae (bG l).1)),.d (.v (.bool ((bG l).2)))],.bx 94 [.d (.v (.string ⟨((af (gK l)).word).toArray⟩)),.d (.v (.bool false)),.d (.v (.bool ((af (gK l)).peer))),.d (.v (.bool ((af (gK l)).n))),.d (.v (.bool ((af (gK l)).bit))),.d (.v (.bool ((af (gK l)).inc))),.d (.v (.bool ((af (gK l)).body)))],.bx 42 [.n (gK l),.z 0,.z 0,.z 0,.z 0,.d (.v (.int .u64 0)),.sl 5 (0)],.rw 5 1 ([])]) (by rw [h1]) (by rw [h1])
    refine bC (todo':=aft Tryz.f36 9) (E':=[(0,.d (.ro 1 (ae l))),(2,.pt 1 0),(4,.pt 2 0),(7,.pt 4 0),(6,.pt 3 0),(28,.d (.v (.bool ((af (gK l)).peer))))]) (M':=[.gw 0 aj,.bx 42 [.z 0,.z 0,.z 0,.z 0,.z 0,.d (.v (.int .u64 0)),.d (.v (.slice none 0 0))],.bx 108 [.d (.ro 1 (ae (bG l).1)),.d (.v (.bool ((bG l).2)))],.bx 94 [.d (.v (.string ⟨((af (gK l)).word).toArray⟩)),.d (.v (.bool false)),.d (.v (.bool ((af (gK l)).peer))),.d (.v (.bool ((af (gK l)).n))),.d (.v (.bool ((af (gK l)).bit))),.d (.v (.bool ((af (gK l)).inc))),.d (.v (.bool ((af (gK l)).body)))],.bx 42 [.n (gK l),.z 0,.z 0,.z 0,.z 0,.d (.v (.int .u64 0)),.sl 5 (0)],.rw 5 1 ([])]) mo tq hK ak [] 5 [0,1,2,3,4,5] [0,2,4,7,6,28] r (by kernel_rfl) trivial fun ac wd r=>?_
    exact J9 ac wd (r.cast rfl (by rw [Lv h1,Lw h1,h1]<;>rfl))
   | true=>
    have r:=r.cast (E':=[(0,.d (.ro 1 (ae l))),(2,.pt 1 0),(3,.z 0),(4,.pt 2 0),(6,.pt 3 0),(7,.pt 4 0),(22,.d (.v (.bool true)))]) (M':=[.gw 0 aj,.bx 42 [.z 0,.z 0,.z 0,.z 0,.z 0,.d (.v (.int .u64 0)),.d (.v (.slice none 0 0))],.bx 108 [.d (.ro 1 (ae (bG l).1)),.d (.v (.bool ((bG l).2)))],.bx 94 [.d (.v (.string ⟨((af (gK l)).word).toArray⟩)),.d (.v (.bool true)),.d (.v (.bool ((af (gK l)).peer))),.d (.v (.bool ((af (gK l)).n))),.d (.v (.bool ((af (gK l)).bit))),.d (.v (.bool ((af (gK l)).inc))),.d (.v (.bool ((af (gK l)).body)))],.bx 42 [.n (gK l),.z 0,.z 0,.z 0,.z 0,.d (.v (.int .u64 0)),.sl 5 (0)],.rw 5 1 ([])]) (by rw [h1]) (by rw [h1])
    refine bC (todo':=aft Tryz.f36 9) (E':=[(0,.d (.ro 1 (ae l))),(2,.pt 1 0),(4,.pt 2 0),(7,.pt 4 0),(6,.pt 3 0),(28,.d (.v (.bool ((af (gK l)).peer))))]) (M':=[.gw 0 aj,.bx 42 [.z 0,.z 0,.z 0,.z 0,.z 0,.d (.v (.int .u64 0)),.d (.v (.slice none 0 0))],.bx 108 [.d (.ro 1 (ae (az 1 (bG l)).1)),.d (.v (.bool ((az 1 (bG l)).2)))],.bx 94 [.d (.v (.string ⟨((af (gK l)).word).toArray⟩)),.d (.v (.bool true)),.d (.v (.bool ((af (gK l)).peer))),.d (.v (.bool ((af (gK l)).n))),.d (.v (.bool ((af (gK l)).bit))),.d (.v (.bool ((af (gK l)).inc))),.d (.v (.bool ((af (gK l)).body)))],.bx 42 [.n (gK l),.n (v8 (bG l)),.z 0,.z 0,.z 0,.d (.v (.int .u64 0)),.sl 5 (0)],.rw 5 1 ([])]) mo tq hK ak [(8,[(1,.mem [2] (.d (.v (.int .u8 (((v8 (bG l):Nat):Int))))) [.bx 108 [.d (.ro 1 (ae (az 1 (bG l)).1)),.d (.v (.bool ((az 1 (bG l)).2)))]]),(2,.z (((v8 (bG l):Nat):Int)))])] 5 [0,1,2,3,4,5] [0,2,4,7,6,28] r (by kernel_rfl) (U (pO (bG l)) (U ((kS _):IntKind.i64.wrap (((v8 (bG l):Nat):Int))=((v8 (bG l):Nat):Int)) trivial)) fun ac wd r=>?_
    exact J9 ac wd (r.cast rfl (by rw [Lt h1,Lu h1,h1]<;>rfl))
  intro ac wd r
  suffices rL:∀ ac wd,RB D w0 K 69 bs [(0,.d (.ro 1 (ae l))),(2,.pt 1 0),(4,.pt 2 0),(7,.pt 4 0),(6,.pt 3 0),(34,.d (.v (.bool ((af (gK l)).n))))] [.gw 0 aj,.bx 42 [.z 0,.z 0,.z 0,.z 0,.z 0,.d (.v (.int .u64 0)),.d (.v (.slice none 0 0))],.bx 108 [.d (.ro 1 (ae (cu l).1)),.d (.v (.bool ((cu l).2)))],.bx 94 [.d (.v (.string ⟨((af (gK l)).word).toArray⟩)),.d (.v (.bool ((af (gK l)).node))),.d (.v (.bool ((af (gK l)).peer))),.d (.v (.bool ((af (gK l)).n))),.d (.v (.bool ((af (gK l)).bit))),.d (.v (.bool ((af (gK l)).inc))),.d (.v (.bool ((af (gK l)).body)))],.bx 42 [.n (gK l),.n (cg l),.n (cF l),.z 0,.z 0,.d (.v (.int .u64 0)),.sl 5 (0)],.rw 5 1 ([])] ac wd→aC Tryz.prog 36 (aft Tryz.f36 11) (eX D w0 K bs (gX (bo l)) (od (bo l))) ac wd by
   cases h2:((af (gK l)).peer) with
   | false=>
    have r:=r.cast (E':=[(0,.d (.ro 1 (ae l))),(2,.pt 1 0),(4,.pt 2 0),(7,.pt 4 0),(6,.pt 3 0),(28,.d (.v (.bool false)))]) (M':=[.gw 0 aj,.bx 42 [.z 0,.z 0,.z 0,.z 0,.z 0,.d (.v (.int .u64 0)),.d (.v (.slice none 0 0))],.bx 108 [.d (.ro 1 (ae (cz l).1)),.d (.v (.bool ((cz l).2)))],.bx 94 [.d (.v (.string ⟨((af (gK l)).word).toArray⟩)),.d (.v (.bool ((af (gK l)).node))),.d (.v (.bool false)),.d (.v (.bool ((af (gK l)).n))),.d (.v (.bool ((af (gK l)).bit))),.d (.v (.bool ((af (gK l)).inc))),.d (.v (.bool ((af (gK l)).body)))],.bx 42 [.n (gK l),.n (cg l),.z 0,.z 0,.z 0,.d (.v (.int .u64 0)),.sl 5 (0)],.rw 5 1 ([])]) (by rw [h2]) (by rw [h2])
    refine bC (todo':=aft Tryz.f36 11) (E':=[(0,.d (.ro 1 (ae l))),(2,.pt 1 0),(4,.pt 2 0),(7,.pt 4 0),(6,.pt 3 0),(34,.d (.v (.bool ((af (gK l)).n))))]) (M':=[.gw 0 aj,.bx 42 [.z 0,.z 0,.z 0,.z 0,.z 0,.d (.v (.int .u64 0)),.d (.v (.slice none 0 0))],.bx 108 [.d (.ro 1 (ae (cz l).1)),.d (.v (.bool ((cz l).2)))],.bx 94 [.d (.v (.string ⟨((af (gK l)).word).toArray⟩)),.d (.v (.bool ((af (gK l)).node))),.d (.v (.bool false)),.d (.v (.bool ((af (gK l)).n))),.d (.v (.bool ((af (gK l)).bit))),.d (.v (.bool ((af (gK l)).inc))),.d (.v (.bool ((af (gK l)).body)))],.bx 42 [.n (gK l),.n (cg l),.z 0,.z 0,.z 0,.d (.v (.int .u64 0)),.sl 5 (0)],.rw 5 1 ([])]) mo tq hK ak [] 5 [0,1,2,3,4,5] [0,2,4,7,6,34] r (by kernel_rfl) trivial fun ac wd r=>?_
    exact rL ac wd (r.cast rfl (by rw [Lz h2,LA h2,h2]<;>rfl))
   | true=>
    have r:=r.cast (E':=[(0,.d (.ro 1 (ae l))),(2,.pt 1 0),(4,.pt 2 0),(7,.pt 4 0),(6,.pt 3 0),(28,.d (.v (.bool true)))]) (M':=[.gw 0 aj,.bx 42 [.z 0,.z 0,.z 0,.z 0,.z 0,.d (.v (.int .u64 0)),.d (.v (.slice none 0 0))],.bx 108 [.d (.ro 1 (ae (cz l).1)),.d (.v (.bool ((cz l).2)))],.bx 94 [.d (.v (.string ⟨((af (gK l)).word).toArray⟩)),.d (.v (.bool ((af (gK l)).node))),.d (.v (.bool true)),.d (.v (.bool ((af (gK l)).n))),.d (.v (.bool ((af (gK l)).bit))),.d (.v (.bool ((af (gK l)).inc))),.d (.v (.bool ((af (gK l)).body)))],.bx 42 [.n (gK l),.n (cg l),.z 0,.z 0,.z 0,.d (.v (.int .u64 0)),.sl 5 (0)],.rw 5 1 ([])]) (by rw [h2]) (by rw [h2])
    refine bC (todo':=aft Tryz.f36 11) (E':=[(0,.d (.ro 1 (ae l))),(2,.pt 1 0),(4,.pt 2 0),(7,.pt 4 0),(6,.pt 3 0),(34,.d (.v (.bool ((af (gK l)).n))))]) (M':=[.gw 0 aj,.bx 42 [.z 0,.z 0,.z 0,.z 0,.z 0,.d (.v (.int .u64 0)),.d (.v (.slice none 0 0))],.bx 108 [.d (.ro 1 (ae (az 1 (cz l)).1)),.d (.v (.bool ((az 1 (cz l)).2)))],.bx 94 [.d (.v (.string ⟨((af (gK l)).word).toArray⟩)),.d (.v (.bool ((af (gK l)).node))),.d (.v (.bool true)),.d (.v (.bool ((af (gK l)).n))),.d (.v (.bool ((af (gK l)).bit))),.d (.v (.bool ((af (gK l)).inc))),.d (.v (.bool ((af (gK l)).body)))],.bx 42 [.n (gK l),.n (cg l),.n (v8 (cz l)),.z 0,.z 0,.d (.v (.int .u64 0)),.sl 5 (0)],.rw 5 1 ([])]) mo tq hK ak [(10,[(1,.mem [2] (.d (.v (.int .u8 (((v8 (cz l):Nat):Int))))) [.bx 108 [.d (.ro 1 (ae (az 1 (cz l)).1)),.d (.v (.bool ((az 1 (cz l)).2)))]]),(2,.z (((v8 (cz l):Nat):Int)))])] 5 [0,1,2,3,4,5] [0,2,4,7,6,34] r (by kernel_rfl) (U (pO (cz l)) (U ((kS _):IntKind.i64.wrap (((v8 (cz l):Nat):Int))=((v8 (cz l):Nat):Int)) trivial)) fun ac wd r=>?_
    exact rL ac wd (r.cast rfl (by rw [Lx h2,Ly h2,h2]<;>rfl))
  intro ac wd r
  suffices rM:∀ ac wd,RB D w0 K 69 bs [(0,.d (.ro 1 (ae l))),(2,.pt 1 0),(4,.pt 2 0),(7,.pt 4 0),(6,.pt 3 0),(40,.d (.v (.bool ((af (gK l)).bit))))] [.gw 0 aj,.bx 42 [.z 0,.z 0,.z 0,.z 0,.z 0,.d (.v (.int .u64 0)),.d (.v (.slice none 0 0))],.bx 108 [.d (.ro 1 (ae (cv l).1)),.d (.v (.bool ((cv l).2)))],.bx 94 [.d (.v (.string ⟨((af (gK l)).word).toArray⟩)),.d (.v (.bool ((af (gK l)).node))),.d (.v (.bool ((af (gK l)).peer))),.d (.v (.bool ((af (gK l)).n))),.d (.v (.bool ((af (gK l)).bit))),.d (.v (.bool ((af (gK l)).inc))),.d (.v (.bool ((af (gK l)).body)))],.bx 42 [.n (gK l),.n (cg l),.n (cF l),.n (cS l),.z 0,.d (.v (.int .u64 0)),.sl 5 (0)],.rw 5 1 ([])] ac wd→aC Tryz.prog 36 (aft Tryz.f36 13) (eX D w0 K bs (gX (bo l)) (od (bo l))) ac wd by
   cases h3:((af (gK l)).n) with
   | false=>
    have r:=r.cast (E':=[(0,.d (.ro 1 (ae l))),(2,.pt 1 0),(4,.pt 2 0),(7,.pt 4 0),(6,.pt 3 0),(34,.d (.v (.bool false)))]) (M':=[.gw 0 aj,.bx 42 [.z 0,.z 0,.z 0,.z 0,.z 0,.d (.v (.int .u64 0)),.d (.v (.slice none 0 0))],.bx 108 [.d (.ro 1 (ae (cu l).1)),.d (.v (.bool ((cu l).2)))],.bx 94 [.d (.v (.string ⟨((af (gK l)).word).toArray⟩)),.d (.v (.bool ((af (gK l)).node))),.d (.v (.bool ((af (gK l)).peer))),.d (.v (.bool false)),.d (.v (.bool ((af (gK l)).bit))),.d (.v (.bool ((af (gK l)).inc))),.d (.v (.bool ((af (gK l)).body)))],.bx 42 [.n (gK l),.n (cg l),.n (cF l),.z 0,.z 0,.d (.v (.int .u64 0)),.sl 5 (0)],.rw 5 1 ([])]) (by rw [h3]) (by rw [h3])
    refine bC (todo':=aft Tryz.f36 13) (E':=[(0,.d (.ro 1 (ae l))),(2,.pt 1 0),(4,.pt 2 0),(7,.pt 4 0),(6,.pt 3 0),(40,.d (.v (.bool ((af (gK l)).bit))))]) (M':=[.gw 0 aj,.bx 42 [.z 0,.z 0,.z 0,.z 0,.z 0,.d (.v (.int .u64 0)),.d (.v (.slice none 0 0))],.bx 108 [.d (.ro 1 (ae (cu l).1)),.d (.v (.bool ((cu l).2)))],.bx 94 [.d (.v (.string ⟨((af (gK l)).word).toArray⟩)),.d (.v (.bool ((af (gK l)).node))),.d (.v (.bool ((af (gK l)).peer))),.d (.v (.bool false)),.d (.v (.bool ((af (gK l)).bit))),.d (.v (.bool ((af (gK l)).inc))),.d (.v (.bool ((af (gK l)).body)))],.bx 42 [.n (gK l),.n (cg l),.n (cF l),.z 0,.z 0,.d (.v (.int .u64 0)),.sl 5 (0)],.rw 5 1 ([])]) mo tq hK ak [] 5 [0,1,2,3,4,5] [0,2,4,7,6,40] r (by kernel_rfl) trivial fun ac wd r=>?_
    exact rM ac wd (r.cast rfl (by rw [LD h3,LF h3,h3]<;>rfl))
   | true=>
    have r:=r.cast (E':=[(0,.d (.ro 1 (ae l))),(2,.pt 1 0),(4,.pt 2 0),(7,.pt 4 0),(6,.pt 3 0),(34,.d (.v (.bool true)))]) (M':=[.gw 0 aj,.bx 42 [.z 0,.z 0,.z 0,.z 0,.z 0,.d (.v (.int .u64 0)),.d (.v (.slice none 0 0))],.bx 108 [.d (.ro 1 (ae (cu l).1)),.d (.v (.bool ((cu l).2)))],.bx 94 [.d (.v (.string ⟨((af (gK l)).word).toArray⟩)),.d (.v (.bool ((af (gK l)).node))),.d (.v (.bool ((af (gK l)).peer))),.d (.v (.bool true)),.d (.v (.bool ((af (gK l)).bit))),.d (.v (.bool ((af (gK l)).inc))),.d (.v (.bool ((af (gK l)).body)))],.bx 42 [.n (gK l),.n (cg l),.n (cF l),.z 0,.z 0,.d (.v (.int .u64 0)),.sl 5 (0)],.rw 5 1 ([])]) (by rw [h3]) (by rw [h3])
    refine bC (todo':=aft Tryz.f36 13) (E':=[(0,.d (.ro 1 (ae l))),(2,.pt 1 0),(4,.pt 2 0),(7,.pt 4 0),(6,.pt 3 0),(40,.d (.v (.bool ((af (gK l)).bit))))]) (M':=[.gw 0 aj,.bx 42 [.z 0,.z 0,.z 0,.z 0,.z 0,.d (.v (.int .u64 0)),.d (.v (.slice none 0 0))],.bx 108 [.d (.ro 1 (ae (az 1 (cu l)).1)),.d (.v (.bool ((az 1 (cu l)).2)))],.bx 94 [.d (.v (.string ⟨((af (gK l)).word).toArray⟩)),.d (.v (.bool ((af (gK l)).node))),.d (.v (.bool ((af (gK l)).peer))),.d (.v (.bool true)),.d (.v (.bool ((af (gK l)).bit))),.d (.v (.bool ((af (gK l)).inc))),.d (.v (.bool ((af (gK l)).body)))],.bx 42 [.n (gK l),.n (cg l),.n (cF l),.n (v8 (cu l)),.z 0,.d (.v (.int .u64 0)),.sl 5 (0)],.rw 5 1 ([])]) mo tq hK ak [(12,[(1,.mem [2] (.d (.v (.int .u8 (((v8 (cu l):Nat):Int))))) [.bx 108 [.d (.ro 1 (ae (az 1 (cu l)).1)),.d (.v (.bool ((az 1 (cu l)).2)))]]),(2,.z (((v8 (cu l):Nat):Int)))])] 5 [0,1,2,3,4,5] [0,2,4,7,6,40] r (by kernel_rfl) (U (pO (cu l)) (U ((kS _):IntKind.i64.wrap (((v8 (cu l):Nat):Int))=((v8 (cu l):Nat):Int)) trivial)) fun ac wd r=>?_
    exact rM ac wd (r.cast rfl (by rw [LB h3,LC h3,h3]<;>rfl))
  intro ac wd r
  suffices DG:∀ ac wd,RB D w0 K 69 bs [(0,.d (.ro 1 (ae l))),(2,.pt 1 0),(4,.pt 2 0),(7,.pt 4 0),(6,.pt 3 0),(46,.d (.v (.bool ((af (gK l)).inc))))] [.gw 0 aj,.bx 42 [.z 0,.z 0,.z 0,.z 0,.z 0,.d (.v (.int .u64 0)),.d (.v (.slice none 0 0))],.bx 108 [.d (.ro 1 (ae (cH l).1)),.d (.v (.bool ((cH l).2)))],.bx 94 [.d (.v (.string ⟨((af (gK l)).word).toArray⟩)),.d (.v (.bool ((af (gK l)).node))),.d (.v (.bool ((af (gK l)).peer))),.d (.v (.bool ((af (gK l)).n))),.d (.v (.bool ((af (gK l)).bit))),.d (.v (.bool ((af (gK l)).inc))),.d (.v (.bool ((af (gK l)).body)))],.bx 42 [.n (gK l),.n (cg l),.n (cF l),.n (cS l),.n (dc l),.d (.v (.int .u64 0)),.sl 5 (0)],.rw 5 1 ([])] ac wd→aC Tryz.prog 36 (aft Tryz.f36 15) (eX D w0 K bs (gX (bo l)) (od (bo l))) ac wd by
   cases h4:((af (gK l)).bit) with
   | false=>
    have r:=r.cast (E':=[(0,.d (.ro 1 (ae l))),(2,.pt 1 0),(4,.pt 2 0),(7,.pt 4 0),(6,.pt 3 0),(40,.d (.v (.bool false)))]) (M':=[.gw 0 aj,.bx 42 [.z 0,.z 0,.z 0,.z 0,.z 0,.d (.v (.int .u64 0)),.d (.v (.slice none 0 0))],.bx 108 [.d (.ro 1 (ae (cv l).1)),.d (.v (.bool ((cv l).2)))],.bx 94 [.d (.v (.string ⟨((af (gK l)).word).toArray⟩)),.d (.v (.bool ((af (gK l)).node))),.d (.v (.bool ((af (gK l)).peer))),.d (.v (.bool ((af (gK l)).n))),.d (.v (.bool false)),.d (.v (.bool ((af (gK l)).inc))),.d (.v (.bool ((af (gK l)).body)))],.bx 42 [.n (gK l),.n (cg l),.n (cF l),.n (cS l),.z 0,.d (.v (.int .u64 0)),.sl 5 (0)],.rw 5 1 ([])]) (by rw [h4]) (by rw [h4])
    refine bC (todo':=aft Tryz.f36 15) (E':=[(0,.d (.ro 1 (ae l))),(2,.pt 1 0),(4,.pt 2 0),(7,.pt 4 0),(6,.pt 3 0),(46,.d (.v (.bool ((af (gK l)).inc))))]) (M':=[.gw 0 aj,.bx 42 [.z 0,.z 0,.z 0,.z 0,.z 0,.d (.v (.int .u64 0)),.d (.v (.slice none 0 0))],.bx 108 [.d (.ro 1 (ae (cv l).1)),.d (.v (.bool ((cv l).2)))],.bx 94 [.d (.v (.string ⟨((af (gK l)).word).toArray⟩)),.d (.v (.bool ((af (gK l)).node))),.d (.v (.bool ((af (gK l)).peer))),.d (.v (.bool ((af (gK l)).n))),.d (.v (.bool false)),.d (.v (.bool ((af (gK l)).inc))),.d (.v (.bool ((af (gK l)).body)))],.bx 42 [.n (gK l),.n (cg l),.n (cF l),.n (cS l),.z 0,.d (.v (.int .u64 0)),.sl 5 (0)],.rw 5 1 ([])]) mo tq hK ak [] 5 [0,1,2,3,4,5] [0,2,4,7,6,46] r (by kernel_rfl) trivial fun ac wd r=>?_
    exact DG ac wd (r.cast rfl (by rw [LI h4,LJ h4,h4]<;>rfl))
   | true=>
    have r:=r.cast (E':=[(0,.d (.ro 1 (ae l))),(2,.pt 1 0),(4,.pt 2 0),(7,.pt 4 0),(6,.pt 3 0),(40,.d (.v (.bool true)))]) (M':=[.gw 0 aj,.bx 42 [.z 0,.z 0,.z 0,.z 0,.z 0,.d (.v (.int .u64 0)),.d (.v (.slice none 0 0))],.bx 108 [.d (.ro 1 (ae (cv l).1)),.d (.v (.bool ((cv l).2)))],.bx 94 [.d (.v (.string ⟨((af (gK l)).word).toArray⟩)),.d (.v (.bool ((af (gK l)).node))),.d (.v (.bool ((af (gK l)).peer))),.d (.v (.bool ((af (gK l)).n))),.d (.v (.bool true)),.d (.v (.bool ((af (gK l)).inc))),.d (.v (.bool ((af (gK l)).body)))],.bx 42 [.n (gK l),.n (cg l),.n (cF l),.n (cS l),.z 0,.d (.v (.int .u64 0)),.sl 5 (0)],.rw 5 1 ([])]) (by rw [h4]) (by rw [h4])
    refine bC (todo':=aft Tryz.f36 15) (E':=[(0,.d (.ro 1 (ae l))),(2,.pt 1 0),(4,.pt 2 0),(7,.pt 4 0),(6,.pt 3 0),(46,.d (.v (.bool ((af (gK l)).inc))))]) (M':=[.gw 0 aj,.bx 42 [.z 0,.z 0,.z 0,.z 0,.z 0,.d (.v (.int .u64 0)),.d (.v (.slice none 0 0))],.bx 108 [.d (.ro 1 (ae (az 2 (cv l)).1)),.d (.v (.bool ((az 2 (cv l)).2)))],.bx 94 [.d (.v (.string ⟨((af (gK l)).word).toArray⟩)),.d (.v (.bool ((af (gK l)).node))),.d (.v (.bool ((af (gK l)).peer))),.d (.v (.bool ((af (gK l)).n))),.d (.v (.bool true)),.d (.v (.bool ((af (gK l)).inc))),.d (.v (.bool ((af (gK l)).body)))],.bx 42 [.n (gK l),.n (cg l),.n (cF l),.n (cS l),.n (eA (cv l)),.d (.v (.int .u64 0)),.sl 5 (0)],.rw 5 1 ([])]) mo tq hK ak [(14,[(1,.mem [2] (.d (.v (.int .u16 (((eA (cv l):Nat):Int))))) [.bx 108 [.d (.ro 1 (ae (az 2 (cv l)).1)),.d (.v (.bool ((az 2 (cv l)).2)))]]),(2,.z (((eA (cv l):Nat):Int)))])] 5 [0,1,2,3,4,5] [0,2,4,7,6,46] r (by kernel_rfl) (U (MX (cv l)) (U ((CU _):IntKind.i64.wrap (((eA (cv l):Nat):Int))=((eA (cv l):Nat):Int)) trivial)) fun ac wd r=>?_
    exact DG ac wd (r.cast rfl (by rw [LG h4,LH h4,h4]<;>rfl))
  intro ac wd r
  suffices DH:∀ ac wd,RB D w0 K 69 bs [(0,.d (.ro 1 (ae l))),(2,.pt 1 0),(4,.pt 2 0),(7,.pt 4 0),(51,.d (.v (.bool ((af (gK l)).body))))] [.gw 0 aj,.bx 42 [.z 0,.z 0,.z 0,.z 0,.z 0,.d (.v (.int .u64 0)),.d (.v (.slice none 0 0))],.bx 108 [.d (.ro 1 (ae (aU l).1)),.d (.v (.bool ((aU l).2)))],.bx 94 [.d (.v (.string ⟨((af (gK l)).word).toArray⟩)),.d (.v (.bool ((af (gK l)).node))),.d (.v (.bool ((af (gK l)).peer))),.d (.v (.bool ((af (gK l)).n))),.d (.v (.bool ((af (gK l)).bit))),.d (.v (.bool ((af (gK l)).inc))),.d (.v (.bool ((af (gK l)).body)))],.bx 42 [.n (gK l),.n (cg l),.n (cF l),.n (cS l),.n (dc l),.u (dK l),.sl 5 (0)],.rw 5 1 ([])] ac wd→aC Tryz.prog 36 (aft Tryz.f36 17) (eX D w0 K bs (gX (bo l)) (od (bo l))) ac wd by
   cases h5:((af (gK l)).inc) with
   | false=>
    have r:=r.cast (E':=[(0,.d (.ro 1 (ae l))),(2,.pt 1 0),(4,.pt 2 0),(7,.pt 4 0),(6,.pt 3 0),(46,.d (.v (.bool false)))]) (M':=[.gw 0 aj,.bx 42 [.z 0,.z 0,.z 0,.z 0,.z 0,.d (.v (.int .u64 0)),.d (.v (.slice none 0 0))],.bx 108 [.d (.ro 1 (ae (cH l).1)),.d (.v (.bool ((cH l).2)))],.bx 94 [.d (.v (.string ⟨((af (gK l)).word).toArray⟩)),.d (.v (.bool ((af (gK l)).node))),.d (.v (.bool ((af (gK l)).peer))),.d (.v (.bool ((af (gK l)).n))),.d (.v (.bool ((af (gK l)).bit))),.d (.v (.bool false)),.d (.v (.bool ((af (gK l)).body)))],.bx 42 [.n (gK l),.n (cg l),.n (cF l),.n (cS l),.n (dc l),.d (.v (.int .u64 0)),.sl 5 (0)],.rw 5 1 ([])]) (by rw [h5]) (by rw [h5])
    refine bC (todo':=aft Tryz.f36 17) (E':=[(0,.d (.ro 1 (ae l))),(2,.pt 1 0),(4,.pt 2 0),(7,.pt 4 0),(51,.d (.v (.bool ((af (gK l)).body))))]) (M':=[.gw 0 aj,.bx 42 [.z 0,.z 0,.z 0,.z 0,.z 0,.d (.v (.int .u64 0)),.d (.v (.slice none 0 0))],.bx 108 [.d (.ro 1 (ae (cH l).1)),.d (.v (.bool ((cH l).2)))],.bx 94 [.d (.v (.string ⟨((af (gK l)).word).toArray⟩)),.d (.v (.bool ((af (gK l)).node))),.d (.v (.bool ((af (gK l)).peer))),.d (.v (.bool ((af (gK l)).n))),.d (.v (.bool ((af (gK l)).bit))),.d (.v (.bool false)),.d (.v (.bool ((af (gK l)).body)))],.bx 42 [.n (gK l),.n (cg l),.n (cF l),.n (cS l),.n (dc l),.d (.v (.int .u64 0)),.sl 5 (0)],.rw 5 1 ([])]) mo tq hK ak [] 5 [0,1,2,3,4,5] [0,2,4,7,51] r (by kernel_rfl) trivial fun ac wd r=>?_
    exact DH ac wd (r.cast rfl (by rw [LM h5,LN h5,h5]<;>rfl))
   | true=>
    have r:=r.cast (E':=[(0,.d (.ro 1 (ae l))),(2,.pt 1 0),(4,.pt 2 0),(7,.pt 4 0),(6,.pt 3 0),(46,.d (.v (.bool true)))]) (M':=[.gw 0 aj,.bx 42 [.z 0,.z 0,.z 0,.z 0,.z 0,.d (.v (.int .u64 0)),.d (.v (.slice none 0 0))],.bx 108 [.d (.ro 1 (ae (cH l).1)),.d (.v (.bool ((cH l).2)))],.bx 94 [.d (.v (.string ⟨((af (gK l)).word).toArray⟩)),.d (.v (.bool ((af (gK l)).node))),.d (.v (.bool ((af (gK l)).peer))),.d (.v (.bool ((af (gK l)).n))),.d (.v (.bool ((af (gK l)).bit))),.d (.v (.bool true)),.d (.v (.bool ((af (gK l)).body)))],.bx 42 [.n (gK l),.n (cg l),.n (cF l),.n (cS l),.n (dc l),.d (.v (.int .u64 0)),.sl 5 (0)],.rw 5 1 ([])]) (by rw [h5]) (by rw [h5])
    refine bC (todo':=aft Tryz.f36 17) (E':=[(0,.d (.ro 1 (ae l))),(2,.pt 1 0),(4,.pt 2 0),(7,.pt 4 0),(51,.d (.v (.bool ((af (gK l)).body))))]) (M':=[.gw 0 aj,.bx 42 [.z 0,.z 0,.z 0,.z 0,.z 0,.d (.v (.int .u64 0)),.d (.v (.slice none 0 0))],.bx 108 [.d (.ro 1 (ae (rU (cH l)).1)),.d (.v (.bool ((rU (cH l)).2)))],.bx 94 [.d (.v (.string ⟨((af (gK l)).word).toArray⟩)),.d (.v (.bool ((af (gK l)).node))),.d (.v (.bool ((af (gK l)).peer))),.d (.v (.bool ((af (gK l)).n))),.d (.v (.bool ((af (gK l)).bit))),.d (.v (.bool true)),.d (.v (.bool ((af (gK l)).body)))],.bx 42 [.n (gK l),.n (cg l),.n (cF l),.n (cS l),.n (dc l),.u (vU (cH l)),.sl 5 (0)],.rw 5 1 ([])]) mo tq hK ak [(16,[(1,.mem [2] (.u (vU (cH l))) [.bx 108 [.d (.ro 1 (ae (rU (cH l)).1)),.d (.v (.bool ((rU (cH l)).2)))]])])] 5 [0,1,2,3,4,5] [0,2,4,7,51] r (by kernel_rfl) (U (Lr (cH l)) trivial) fun ac wd r=>?_
    exact DH ac wd (r.cast rfl (by rw [LK h5,LL h5,h5]<;>rfl))
  intro ac wd r
  suffices oe:∀ ac wd,RB D w0 K 69 bs [(0,.d (.ro 1 (ae l))),(2,.pt 1 0),(4,.pt 2 0),(7,.pt 4 0),(61,.d (.v (.bool ((((if (bN l).2=true then 3 else 0):Int) != 0)))))] [.gw 0 aj,.bx 42 [.z 0,.z 0,.z 0,.z 0,.z 0,.d (.v (.int .u64 0)),.d (.v (.slice none 0 0))],.bx 108 [.d (.ro 1 (ae (bN l).1)),.d (.v (.bool ((bN l).2)))],.bx 94 [.d (.v (.string ⟨((af (gK l)).word).toArray⟩)),.d (.v (.bool ((af (gK l)).node))),.d (.v (.bool ((af (gK l)).peer))),.d (.v (.bool ((af (gK l)).n))),.d (.v (.bool ((af (gK l)).bit))),.d (.v (.bool ((af (gK l)).inc))),.d (.v (.bool ((af (gK l)).body)))],.bx 42 [.n (gK l),.n (cg l),.n (cF l),.n (cS l),.n (dc l),.u (dK l),.sl 5 ((ae (dx l)).length)],.rw 5 1 (ae (dx l))] ac wd→aC Tryz.prog 36 (aft Tryz.f36 19) (eX D w0 K bs (gX (bo l)) (od (bo l))) ac wd by
   cases h6:((af (gK l)).body) with
   | false=>
    have r:=r.cast (E':=[(0,.d (.ro 1 (ae l))),(2,.pt 1 0),(4,.pt 2 0),(7,.pt 4 0),(51,.d (.v (.bool false)))]) (M':=[.gw 0 aj,.bx 42 [.z 0,.z 0,.z 0,.z 0,.z 0,.d (.v (.int .u64 0)),.d (.v (.slice none 0 0))],.bx 108 [.d (.ro 1 (ae (aU l).1)),.d (.v (.bool ((aU l).2)))],.bx 94 [.d (.v (.string ⟨((af (gK l)).word).toArray⟩)),.d (.v (.bool ((af (gK l)).node))),.d (.v (.bool ((af (gK l)).peer))),.d (.v (.bool ((af (gK l)).n))),.d (.v (.bool ((af (gK l)).bit))),.d (.v (.bool ((af (gK l)).inc))),.d (.v (.bool false))],.bx 42 [.n (gK l),.n (cg l),.n (cF l),.n (cS l),.n (dc l),.u (dK l),.sl 5 (0)],.rw 5 1 ([])]) (by rw [h6]) (by rw [h6])
    refine bC (todo':=aft Tryz.f36 19) (E':=[(0,.d (.ro 1 (ae l))),(2,.pt 1 0),(4,.pt 2 0),(7,.pt 4 0),(61,.d (.v (.bool ((((if (aU l).2=true then 3 else 0):Int) != 0)))))]) (M':=[.gw 0 aj,.bx 42 [.z 0,.z 0,.z 0,.z 0,.z 0,.d (.v (.int .u64 0)),.d (.v (.slice none 0 0))],.bx 108 [.d (.ro 1 (ae (aU l).1)),.d (.v (.bool ((aU l).2)))],.bx 94 [.d (.v (.string ⟨((af (gK l)).word).toArray⟩)),.d (.v (.bool ((af (gK l)).node))),.d (.v (.bool ((af (gK l)).peer))),.d (.v (.bool ((af (gK l)).n))),.d (.v (.bool ((af (gK l)).bit))),.d (.v (.bool ((af (gK l)).inc))),.d (.v (.bool false))],.bx 42 [.n (gK l),.n (cg l),.n (cF l),.n (cS l),.n (dc l),.u (dK l),.sl 5 (0)],.rw 5 1 ([])]) mo tq hK ak [(19,[(1,.mem [2] (.z ((if (aU l).2=true then 3 else 0))) [.bx 108 [.d (.ro 1 (ae (aU l).1)),.d (.v (.bool ((aU l).2)))]])])] 5 [0,1,2,3,4,5] [0,2,4,7,61] r (by kernel_rfl) (U (qw (aU l).1 (aU l).2) trivial) fun ac wd r=>?_
    exact oe ac wd (r.cast (by rw [Cm h6]) (by rw [Cm h6,LP h6,h6]<;>rfl))
   | true=>
    have r:=r.cast (E':=[(0,.d (.ro 1 (ae l))),(2,.pt 1 0),(4,.pt 2 0),(7,.pt 4 0),(51,.d (.v (.bool true)))]) (M':=[.gw 0 aj,.bx 42 [.z 0,.z 0,.z 0,.z 0,.z 0,.d (.v (.int .u64 0)),.d (.v (.slice none 0 0))],.bx 108 [.d (.ro 1 (ae (aU l).1)),.d (.v (.bool ((aU l).2)))],.bx 94 [.d (.v (.string ⟨((af (gK l)).word).toArray⟩)),.d (.v (.bool ((af (gK l)).node))),.d (.v (.bool ((af (gK l)).peer))),.d (.v (.bool ((af (gK l)).n))),.d (.v (.bool ((af (gK l)).bit))),.d (.v (.bool ((af (gK l)).inc))),.d (.v (.bool true))],.bx 42 [.n (gK l),.n (cg l),.n (cF l),.n (cS l),.n (dc l),.u (dK l),.sl 5 (0)],.rw 5 1 ([])]) (by rw [h6]) (by rw [h6])
    refine bC (todo':=aft Tryz.f36 19) (E':=[(0,.d (.ro 1 (ae l))),(2,.pt 1 0),(4,.pt 2 0),(7,.pt 4 0),(61,.d (.v (.bool ((((if (az ((v8 (aU l):Nat):Int) (az 1 (aU l))).2=true then 3 else 0):Int) != 0)))))]) (M':=[.gw 0 aj,.bx 42 [.z 0,.z 0,.z 0,.z 0,.z 0,.d (.v (.int .u64 0)),.d (.v (.slice none 0 0))],.bx 108 [.d (.ro 1 (ae (az ((v8 (aU l):Nat):Int) (az 1 (aU l))).1)),.d (.v (.bool ((az ((v8 (aU l):Nat):Int) (az 1 (aU l))).2)))],.bx 94 [.d (.v (.string ⟨((af (gK l)).word).toArray⟩)),.d (.v (.bool ((af (gK l)).node))),.d (.v (.bool ((af (gK l)).peer))),.d (.v (.bool ((af (gK l)).n))),.d (.v (.bool ((af (gK l)).bit))),.d (.v (.bool ((af (gK l)).inc))),.d (.v (.bool true))],.bx 42 [.n (gK l),.n (cg l),.n (cF l),.n (cS l),.n (dc l),.u (dK l),.sl 5 ((ae (au (az 1 (aU l)).1 (az 1 (aU l)).2 ((v8 (aU l):Nat):Int))).length)],.rw 5 1 (ae (au (az 1 (aU l)).1 (az 1 (aU l)).2 ((v8 (aU l):Nat):Int)))]) mo tq hK ak [(18,[(2,.mem [2] (.d (.v (.int .u8 (((v8 (aU l):Nat):Int))))) [.bx 108 [.d (.ro 1 (ae (az 1 (aU l)).1)),.d (.v (.bool ((az 1 (aU l)).2)))]]),(3,.z (((v8 (aU l):Nat):Int))),(4,.mem [2] (.d (.ro 1 (ae (au (az 1 (aU l)).1 (az 1 (aU l)).2 ((v8 (aU l):Nat):Int))))) [.bx 108 [.d (.ro 1 (ae (az ((v8 (aU l):Nat):Int) (az 1 (aU l))).1)),.d (.v (.bool ((az ((v8 (aU l):Nat):Int) (az 1 (aU l))).2)))]]),(5,.aV (.em 5 1 (ae (au (az 1 (aU l)).1 (az 1 (aU l)).2 ((v8 (aU l):Nat):Int)))))]),(19,[(1,.mem [2] (.z ((if (az ((v8 (aU l):Nat):Int) (az 1 (aU l))).2=true then 3 else 0))) [.bx 108 [.d (.ro 1 (ae (az ((v8 (aU l):Nat):Int) (az 1 (aU l))).1)),.d (.v (.bool ((az ((v8 (aU l):Nat):Int) (az 1 (aU l))).2)))]])])] 5 [0,1,2,3,4,6] [0,2,4,7,61] r (by kernel_rfl) (U (pO (aU l)) (U ((kS _):IntKind.i64.wrap (((v8 (aU l):Nat):Int))=((v8 (aU l):Nat):Int)) (U (J1 (az 1 (aU l)).1 (az 1 (aU l)).2 ((v8 (aU l):Nat):Int) (by have:=dV 1 (aU l);have:=sN l;omega)) (U (uz (au (az 1 (aU l)).1 (az 1 (aU l)).2 ((v8 (aU l):Nat):Int)) (by have:=dV 1 (aU l);have:=sN l;unfold au;split<;>simp<;>omega)) (U (qw (az ((v8 (aU l):Nat):Int) (az 1 (aU l))).1 (az ((v8 (aU l):Nat):Int) (az 1 (aU l))).2) trivial))))) fun ac wd r=>?_
    exact oe ac wd (r.cast (by rw [Cl h6]) (by rw [Cl h6,LO h6,h6]<;>rfl))
  intro ac wd r
  cases h7:((((if (bN l).2=true then 3 else 0):Int) != 0)) with
  | false=>
   have dZ:=fY h7
   have r:=r.cast (E':=[(0,.d (.ro 1 (ae l))),(2,.pt 1 0),(4,.pt 2 0),(7,.pt 4 0),(61,.d (.v (.bool false)))]) (by rw [h7]) rfl
   refine aQ (y:=.tu [.ag [.n (gK l),.n (cg l),.n (cF l),.n (cS l),.n (dc l),.u (dK l),.sl 1 ((ae (dx l)).length)],.n (l.length-(bN l).1.length)]) (N':=[.gw 0 aj,.rw 5 1 (ae (dx l))]) ((by rw [vE (by omega) (Co dZ)];rfl)) ((by rw [vE (by omega) (Co dZ)];rfl)) ?_
   exact aP mo tq hK rfl ak [(21,[(2,.z (((l.length:Nat):Int))),(4,.mem [2] (.n ((bN l).1.length)) [.bx 108 [.d (.ro 1 (ae (bN l).1)),.d (.v (.bool ((bN l).2)))]]),(5,.z (((l.length-(bN l).1.length:Nat):Int)))])] 2000 [0,5] r (by kernel_rfl) (U ((by first | rfl | simp [ae,ah,ints,steps,strs]):(((ae l).length:Nat):Int)=((l.length:Nat):Int)) (U (Be (bN l).1 (bN l).2) (U ((wi (by have:=J3 l;simp;omega)):IntKind.i64.wrap ((((l.length:Nat):Int):Int)-(((bN l).1.length:Nat):Int))=((l.length-(bN l).1.length:Nat):Int)) trivial)))
  | true=>
   have dZ:¬ _=_:=bne_iff_ne.1 h7
   have r:=r.cast (E':=[(0,.d (.ro 1 (ae l))),(2,.pt 1 0),(4,.pt 2 0),(7,.pt 4 0),(61,.d (.v (.bool true)))]) (by rw [h7]) rfl
   refine bC (todo':=aft Tryz.f36 20) (E':=[(0,.d (.ro 1 (ae l))),(2,.pt 1 0),(4,.pt 2 0),(7,.pt 4 0),(3,.z 1)]) (M':=[.gw 0 aj,.bx 42 [.z 0,.z 0,.z 0,.z 0,.z 0,.d (.v (.int .u64 0)),.d (.v (.slice none 0 0))],.bx 108 [.d (.ro 1 (ae (bN l).1)),.d (.v (.bool ((bN l).2)))],.bx 94 [.d (.v (.string ⟨((af (gK l)).word).toArray⟩)),.d (.v (.bool ((af (gK l)).node))),.d (.v (.bool ((af (gK l)).peer))),.d (.v (.bool ((af (gK l)).n))),.d (.v (.bool ((af (gK l)).bit))),.d (.v (.bool ((af (gK l)).inc))),.d (.v (.bool ((af (gK l)).body)))],.bx 42 [.n (gK l),.n (cg l),.n (cF l),.n (cS l),.n (dc l),.u (dK l),.sl 5 ((ae (dx l)).length)],.rw 5 1 (ae (dx l))]) mo tq hK ak [] 3 [0,1,2,3,4,5] [0,2,4,7,3] r (by kernel_rfl) trivial fun ac wd r=>?_
   have r:=r.de (E1:=[(0,.d (.ro 1 (ae l))),(2,.pt 1 0),(4,.pt 2 0),(7,.pt 4 0),(3,.z 1)]) (M1:=[.gw 0 aj,.bx 42 [.z 0,.z 0,.z 0,.z 0,.z 0,.d (.v (.int .u64 0)),.d (.v (.slice none 0 0))],.bx 108 [.d (.ro 1 (ae (bN l).1)),.d (.v (.bool ((bN l).2)))],.bx 94 [.d (.v (.string ⟨((af (gK l)).word).toArray⟩)),.d (.v (.bool ((af (gK l)).node))),.d (.v (.bool ((af (gK l)).peer))),.d (.v (.bool ((af (gK l)).n))),.d (.v (.bool ((af (gK l)).bit))),.d (.v (.bool ((af (gK l)).inc))),.d (.v (.bool ((af (gK l)).body)))],.bx 42 [.n (gK l),.n (cg l),.n (cF l),.n (cS l),.n (dc l),.u (dK l),.sl 5 ((ae (dx l)).length)],.rw 5 1 (ae (dx l))]) (M2:=[.gw 0 aj,.bx 42 [.z 0,.z 0,.z 0,.z 0,.z 0,.d (.v (.int .u64 0)),.sl 6 (0)],.bx 108 [.d (.ro 1 (ae (bN l).1)),.d (.v (.bool ((bN l).2)))],.bx 94 [.d (.v (.string ⟨((af (gK l)).word).toArray⟩)),.d (.v (.bool ((af (gK l)).node))),.d (.v (.bool ((af (gK l)).peer))),.d (.v (.bool ((af (gK l)).n))),.d (.v (.bool ((af (gK l)).bit))),.d (.v (.bool ((af (gK l)).inc))),.d (.v (.bool ((af (gK l)).body)))],.bx 42 [.n (gK l),.n (cg l),.n (cF l),.n (cS l),.n (dc l),.u (dK l),.sl 5 ((ae (dx l)).length)],.rw 5 1 (ae (dx l)),.rw 5 1 ([])]) [] [(1,6,5,1)] (by kernel_rfl) (by kernel_rfl)
   refine aQ (y:=.tu [.ag [.z 0,.z 0,.z 0,.z 0,.z 0,.d (.v (.int .u64 0)),.sl 1 (0)],.z 1]) (N':=[.gw 0 aj,.rw 5 1 ([])]) ((by rw [vD (by omega) (Cn dZ)];rfl)) ((by rw [vD (by omega) (Cn dZ)];rfl)) ?_
   exact aP mo tq hK rfl ak [] 2000 [0,6] r (by kernel_rfl) trivial
 | true=>
  have aK:=of_decide_eq_true h0
  refine bC (todo':=aft Tryz.f36 4) (E':=[(0,.d (.ro 1 (ae l))),(2,.pt 1 0),(3,.z 1),(4,.pt 2 0),(5,.n (gK l))]) (M':=[.gw 0 aj,.bx 42 [.z 0,.z 0,.z 0,.z 0,.z 0,.d (.v (.int .u64 0)),.d (.v (.slice none 0 0))],.bx 108 [.d (.ro 1 (ae (bG l).1)),.d (.v (.bool ((bG l).2)))]]) mo tq hK ak [(1,[(1,.mem [] (.pt 0 0) [.bx 108 [.d (.ro 1 (ae ((l,false)).1)),.d (.v (.bool (((l,false)).2)))]])]),(2,[(1,.mem [2] (.d (.v (.int .u8 (((gK l:Nat):Int))))) [.bx 108 [.d (.ro 1 (ae (bG l).1)),.d (.v (.bool ((bG l).2)))]]),(2,.z (((gK l:Nat):Int)))]),(3,[(1,.b true)])] 12 [0,1,2] [0,2,3,4,5] r (by kernel_rfl) (U (qc l hl) (U (pO ((l,false))) (U aE (U h0 trivial)))) fun ac wd r=>?_
  have r:=r.de (E1:=[(0,.d (.ro 1 (ae l))),(2,.pt 1 0),(3,.z 1),(4,.pt 2 0),(5,.n (gK l))]) (M1:=[.gw 0 aj,.bx 42 [.z 0,.z 0,.z 0,.z 0,.z 0,.d (.v (.int .u64 0)),.d (.v (.slice none 0 0))],.bx 108 [.d (.ro 1 (ae (bG l).1)),.d (.v (.bool ((bG l).2)))]]) (M2:=[.gw 0 aj,.bx 42 [.z 0,.z 0,.z 0,.z 0,.z 0,.d (.v (.int .u64 0)),.sl 3 (0)],.bx 108 [.d (.ro 1 (ae (bG l).1)),.d (.v (.bool ((bG l).2)))],.rw 5 1 ([])]) [] [(1,6,5,1)] (by kernel_rfl) (by kernel_rfl)
  refine aQ (y:=.tu [.ag [.z 0,.z 0,.z 0,.z 0,.z 0,.d (.v (.int .u64 0)),.sl 1 (0)],.z 1]) (N':=[.gw 0 aj,.rw 5 1 ([])]) ((by rw [vC (by omega)];rfl)) ((by rw [vC (by omega)];rfl)) ?_
  exact aP mo tq hK rfl ak [] 2000 [0,3] r (by kernel_rfl) trivial
end Go.Proofs.YtcnpikbbmbombaaGreatDoor
namespace Go.Proofs.YtcnpikbbmbombaaGreatDoor
open Go.RowKit
theorem oU {z:Int} {r:b4} (h:(az z r).2=false):r.2=false:=by
 obtain ⟨l,b⟩:=r
 cases b with
 | false=>rfl
 | true=>
  have e:e9 l true z:=.inl rfl
  unfold az dR at h;simp only [if_pos e] at h;cases h
theorem LQ {r:b4} (h:(rU r).2=false):r.2=false:=by
 obtain ⟨l,b⟩:=r
 cases b with
 | false=>rfl
 | true=>unfold rU oa ez at h;simp at h
theorem oO {c:Bool} {r s q:b4} (h:(cond c r s).2=false) (hr:r.2=false→q.2=false) (hs:s.2=false→q.2=false):q.2=false:=by cases c;exact hs h;exact hr h
theorem Cp {l:List UInt8} (h:(bN l).2=false):(bG l).2=false:=
 have h5:=oO (q:=aU l) h (fun h=>oU (oU h)) id
 have h4:=oO (q:=cH l) h5 LQ id
 have h3:=oO (q:=cv l) h4 oU id
 have h2:=oO (q:=cu l) h3 oU id
 have h1:=oO (q:=cz l) h2 oU id
 oO (q:=bG l) h1 oU id
theorem Bg {l:List UInt8} (h:(bG l).2=false):(bG l).1.length+1=l.length:=by
 by_cases e:e9 l false 1
 ·unfold bG az dR at h;simp only [if_pos e] at h;cases h
 ·unfold bG az dJ;simp only [if_neg e]
  unfold e9 at e;simp;omega
theorem Bh (l:List UInt8):(bN l).1.length≤(bG l).1.length:=
 have h1:(cz l).1.length≤(bG l).1.length:=jB (dV _ _) (Nat.le_refl _)
 have h2:(cu l).1.length≤(bG l).1.length:=jB (Nat.le_trans (dV _ _) h1) h1
 have h3:(cv l).1.length≤(bG l).1.length:=jB (Nat.le_trans (dV _ _) h2) h2
 have h4:(cH l).1.length≤(bG l).1.length:=jB (Nat.le_trans (dV _ _) h3) h3
 have h5:(aU l).1.length≤(bG l).1.length:=jB (Nat.le_trans (xD _) h4) h4
 jB (Nat.le_trans (dV _ _) (Nat.le_trans (dV _ _) h5)) h5
theorem sA (l:List UInt8):1≤(bo l).2:=by
 unfold bo;split
 ·exact Nat.le_refl _
 ·cases e:(bN l).2 with
  | true=>exact Nat.le_refl _
  | false=>
   have h1:=Bg (Cp e)
   have h2:=Bh l
   show 1≤l.length-(bN l).1.length
   omega
theorem Ka {l:List UInt8} (h:1≤l.length):(bo l).2≤l.length:=by
 unfold bo;split
 ·exact h
 ·cases (bN l).2 with
  | true=>exact h
  | false=>exact Nat.sub_le _ _
def cZ (b:List UInt8):List aM:=if h:b=[] then [] else (bo (b.take 258)).1::cZ (b.drop (bo (b.take 258)).2)
termination_by b.length
decreasing_by
 have h1:=sA (b.take 258)
 have h2:0<b.length:=List.length_pos_iff.2 h
 simp;omega
theorem k5:cZ []=[]:=by rw [cZ,dif_pos rfl]
theorem np {b:List UInt8} (h:0<b.length):cZ b=(bo (b.take 258)).1::cZ (b.drop (bo (b.take 258)).2):=by
 rw [cZ,dif_neg (List.length_pos_iff.1 h)]
theorem MY (l:List UInt8) (a:Nat) (ha:a≤l.length):List.drop a (List.take (min l.length (a+258)) (ae l))=ae ((l.drop a).take 258):=by
 rw [← uo,← nk]
 congr 1
 rw [List.drop_take]
 rcases Nat.le_total (a+258) l.length with h | h
 ·rw [Nat.min_eq_right h,Nat.add_sub_cancel_left]
 ·rw [Nat.min_eq_left h,List.take_of_length_le (by simp),List.take_of_length_le (by simp;omega)]
def aM.po (s:aM):List DV:=[.z s.kind,.z s.node,.z s.peer,.z s.n,.z s.bit,.u s.inc,.em 5 1 (ae s.body)]
def aW (l:List aM):List (List DV):=l.map aM.po
theorem eC (l:List aM):(aW l).length=l.length:=by simp [aW]
set_option maxRecDepth 100000 in
theorem wF (l:List UInt8) (hl:l.length≤65536) (hG:gE l≤l.length) (hM:bI (gC l)=true):aq Tryz.prog 15 [.d (.ro 1 (ae l))] [.gw 0 aj] (.tu [.ag [.z (gV l 0),.sl 1 (gN l),.sl 2 (gM l)],.sl 3 (cZ (l.drop (gE l))).length,.z 0]) ([.gw 0 aj,.rw 60 2 (ah (gL l (gN l))),.rw 3 1 (ints (gH l (gM l))),.rw 42 7 (aW (cZ (l.drop (gE l))))]):=by
 refine aq.intro (by kernel_rfl) rfl rfl 58 rfl rfl fun D w0 K bs ac wd hK (ak:bs.m=1) r=>?_
 have aE:=((by simp [ae]):(((ae l).length:Nat):Int)=((l.length:Nat):Int))
 cases h0:(decide ((65536:Int)<((l.length:Nat):Int))) with
 | false=>
  have aK:=of_decide_eq_false h0
  have aZ:=((by have h:=qc l (by omega);unfold gU at h;simpa using h):aq Tryz.prog 32 [.d (.ro 1 (ae l))] [] (.pt 0 0) [.bx 108 [.d (.ro 1 (ae (l.drop (0)))),.d (.v (.bool ((decide (l.length<(0))))))]])
  have cd:=(qw (l.drop (2+2*gN l+1+gM l)) (decide (l.length<(2+2*gN l+1+gM l))))
  cases h1:(((if (decide (l.length<(2+2*gN l+1+gM l)))=true then 3 else 0):Int) != 0) with
  | false=>
   have bF:=fY h1
   cases h2:(bI (gC l)) with
   | false=>
    exact absurd h2 (by rw [hM];decide)
   | true=>
    refine bT (todo':=hd Tryz.f15 0) (E':=[(0,.d (.ro 1 (ae l))),(2,.pt 1 0),(6,.pt 2 0),(7,.d (.v (.slice none 0 0))),(8,.n (gE l))]) (M':=[.gw 0 aj,.bx 25 [.z 0,.d (.v (.slice none 0 0)),.d (.v (.slice none 0 0))],.bx 25 [.z (gV l 0),.sl 3 ((gN l)),.sl 4 ((gM l))],.rw 60 2 (ah (gL l (gN l))),.rw 3 1 (ints (gH l (gM l)))]) mo tq hK ak [(1,[(1,.z (((l.length:Nat):Int))),(2,.b false)]),(3,[(1,.mem [] (.pt 0 0) [.bx 108 [.d (.ro 1 (ae (l.drop (0)))),.d (.v (.bool ((decide (l.length<(0))))))]])]),(4,[(1,.mem [2] (.ag [.z (gV l 0),.sl 1 ((gN l)),.sl 2 ((gM l))]) [.bx 108 [.d (.ro 1 (ae (l.drop (2+2*gN l+1+gM l)))),.d (.v (.bool ((decide (l.length<(2+2*gN l+1+gM l))))))],.rw 60 2 (ah (gL l (gN l))),.rw 3 1 (ints (gH l (gM l)))])]),(5,[(1,.mem [2] (.z ((if (decide (l.length<(2+2*gN l+1+gM l)))=true then 3 else 0))) [.bx 108 [.d (.ro 1 (ae (l.drop (2+2*gN l+1+gM l)))),.d (.v (.bool ((decide (l.length<(2+2*gN l+1+gM l))))))]]),(2,.b false),(5,.call [.ag [.z (gV l 0),.d (.ro 2 (ah (gL l (gN l)))),.d (.ro 1 (ints (gH l (gM l))))]] (.v (.bool true)))]),(8,[(1,.z (((l.length:Nat):Int))),(3,.mem [2] (.n ((l.drop (2+2*gN l+1+gM l)).length)) [.bx 108 [.d (.ro 1 (ae (l.drop (2+2*gN l+1+gM l)))),.d (.v (.bool ((decide (l.length<(2+2*gN l+1+gM l))))))]]),(4,.z (((gE l:Nat):Int)))])] 2000 [0,1,5,3,4] [0,2,6,7,8] r (by kernel_rfl) (U aE (U h0 (U aZ (U (wD l) (U cd (U h1 (U ((by have k:=o7 (gC l) (by show (gL l (gN l)).length≤_;rw [a7];have:=kF l;omega) (by show (gH l (gM l)).length≤_;rw [a8];have:=mB l;omega);rw [h2] at k;exact k):aB Tryz.prog 21 [.ag [.z (gV l 0),.d (.ro 2 (ah (gL l (gN l)))),.d (.ro 1 (ints (gH l (gM l))))]] (.v (.bool true))) (U ((fx _):eH (.v (.bool true))) (U (iq (.z (gV l 0))) (U (cR (2)) (U ((by first | rfl | (simp [ae,ah,ints,a7,a8,eC];done) | (simp [ae,ah,ints,a7,a8,eC];omega)):((gN l))=(ah (gL l (gN l)):List (List DV)).length) (U ((by first | exact fX _ | exact ff _):cb (ah (gL l (gN l)))=ah (gL l (gN l))) (U (cR (1)) (U ((by first | rfl | (simp [ae,ah,ints,a7,a8,eC];done) | (simp [ae,ah,ints,a7,a8,eC];omega)):((gM l))=(ints (gH l (gM l))).length) (U ((by first | exact fX _ | exact ff _):cb (ints (gH l (gM l)))=ints (gH l (gM l))) (U aE (U (Be (l.drop (2+2*gN l+1+gM l)) (decide (l.length<(2+2*gN l+1+gM l)))) (U ((wi (by simp;unfold gE at *;omega)):IntKind.i64.wrap ((((l.length:Nat):Int):Int)-(((l.drop (2+2*gN l+1+gM l)).length:Nat):Int))=((gE l:Nat):Int)) trivial)))))))))))))))))) fun ac wd r=>?_
    refine aC.rounds (Φ:=fun (i:Nat) ac wd=>∃ a:Nat,∃ S:List aM,(i≤a∧a≤l.length∧S.length=i∧S++cZ (l.drop a)=cZ (l.drop (gE l)))∧RB D w0 K 58 bs [(0,.d (.ro 1 (ae l))),(2,.pt 1 0),(6,.pt 2 0),(7,.sl 5 (i)),(8,.n a)] [.gw 0 aj,.bx 25 [.z 0,.d (.v (.slice none 0 0)),.d (.v (.slice none 0 0))],.bx 25 [.z (gV l 0),.sl 3 ((gN l)),.sl 4 ((gM l))],.rw 60 2 (ah (gL l (gN l))),.rw 3 1 (ints (gH l (gM l))),.rw 42 7 (aW S)] ac wd) (l.length) ?_ (Nat.zero_le _) ⟨(gE l),[],⟨Nat.zero_le _,hG,rfl,by simp⟩,r.de (M1:=[.gw 0 aj,.bx 25 [.z 0,.d (.v (.slice none 0 0)),.d (.v (.slice none 0 0))],.bx 25 [.z (gV l 0),.sl 3 ((gN l)),.sl 4 ((gM l))],.rw 60 2 (ah (gL l (gN l))),.rw 3 1 (ints (gH l (gM l))),.rw 42 7 []]) [(7,42,7)] [] (by kernel_rfl) (by kernel_rfl)⟩
    clear r
    rintro i dI bH ac wd ⟨a,S,ao,r⟩
    have Oe:=ao.1
    have dP:=ao.2.1
    have dY:=ao.2.2.1
    cases h3:(decide ((((a:Nat):Int):Int)<((l.length:Nat):Int))) with
    | false=>
     have di:=of_decide_eq_false h3
     refine aQ (y:=.tu [.ag [.z (gV l 0),.sl 1 ((gN l)),.sl 2 ((gM l))],.sl 3 (i),.z 0]) (N':=[.gw 0 aj,.rw 60 2 (ah (gL l (gN l))),.rw 3 1 (ints (gH l (gM l))),.rw 42 7 (aW S)]) ((by first | rfl | (rw [← ao.2.2.2,List.drop_of_length_le (by omega),k5,List.append_nil,ao.2.2.1]))) ((by first | rfl | (rw [← ao.2.2.2,List.drop_of_length_le (by omega),k5,List.append_nil]))) ?_
     exact aP mo tq hK rfl ak [(9,[(2,.z (((l.length:Nat):Int))),(3,.b false)])] 2000 [0,3,4,5] r (by kernel_rfl) (U aE (U h3 trivial))
    | true=>
     have di:=of_decide_eq_true h3
     have Of:1≤((l.drop a).take 258).length:=by simp;omega
     have Pp:=sA ((l.drop a).take 258)
     have eJ:=Ka Of
     have Pq:((l.drop a).take 258).length≤l.length-a:=by simp;omega
     have y9:=np (b:=l.drop a) (by simp;omega)
     exact bT (todo':=hd Tryz.f15 0) (E':=[(0,.d (.ro 1 (ae l))),(2,.pt 1 0),(6,.pt 2 0),(7,.sl 5 (i+(1))),(8,.n (a+(bo ((l.drop a).take 258)).2))]) (M':=[.gw 0 aj,.bx 25 [.z 0,.d (.v (.slice none 0 0)),.d (.v (.slice none 0 0))],.bx 25 [.z (gV l 0),.sl 3 ((gN l)),.sl 4 ((gM l))],.rw 60 2 (ah (gL l (gN l))),.rw 3 1 (ints (gH l (gM l))),.rw 42 7 (aW S++[[.z ((bo ((l.drop a).take 258)).1.kind),.z ((bo ((l.drop a).take 258)).1.node),.z ((bo ((l.drop a).take 258)).1.peer),.z ((bo ((l.drop a).take 258)).1.n),.z ((bo ((l.drop a).take 258)).1.bit),.u ((bo ((l.drop a).take 258)).1.inc),.em 5 1 (ae (bo ((l.drop a).take 258)).1.body)]])]) mo tq hK ak [(9,[(2,.z (((l.length:Nat):Int))),(3,.b true)]),(10,[(3,.z (((l.length:Nat):Int))),(5,.z (((a+258:Nat):Int))),(6,.z (((min (l.length) (a+258):Nat):Int))),(7,.n2 (min (l.length) (a+258)) (a)),(8,.mem [0] (.tu [.ag [.z ((bo ((l.drop a).take 258)).1.kind),.z ((bo ((l.drop a).take 258)).1.node),.z ((bo ((l.drop a).take 258)).1.peer),.z ((bo ((l.drop a).take 258)).1.n),.z ((bo ((l.drop a).take 258)).1.bit),.u ((bo ((l.drop a).take 258)).1.inc),.sl 1 ((ae (bo ((l.drop a).take 258)).1.body).length)],.n ((bo ((l.drop a).take 258)).2)]) [.gw 0 aj,.rw 5 1 (ae (bo ((l.drop a).take 258)).1.body)])]),(12,[(2,.z (((a+(bo ((l.drop a).take 258)).2:Nat):Int)))])] 2000 [0,1,2,3,4,5] [0,2,6,7,8] r (by kernel_rfl) (U aE (U h3 (U aE (U ((wi (by omega)):IntKind.i64.wrap ((((a:Nat):Int):Int)+258)=((a+258:Nat):Int)) (U ((by omega):(min (((l.length:Nat):Int)) (((a+258:Nat):Int)):Int)=((min (l.length) (a+258):Nat):Int)) (U (aA ((a:Nat):Int)) (U (aA ((min (l.length) (a+258):Nat):Int)) (U ((by first | omega | decide | (simp;done) | (simp;omega)):(a)≤(min (l.length) (a+258))) (U ((by simp [ae];omega):(min (l.length) (a+258))≤(ae l).length) (U ((by have h:=FW ((l.drop a).take 258) (by simp;omega);rw [MY l a (by omega)];exact h):aq Tryz.prog 36 [.d (.ro 1 (List.drop (a) (List.take (min (l.length) (a+258)) (ae l))))] [.gw 0 aj] (.tu [.ag [.z ((bo ((l.drop a).take 258)).1.kind),.z ((bo ((l.drop a).take 258)).1.node),.z ((bo ((l.drop a).take 258)).1.peer),.z ((bo ((l.drop a).take 258)).1.n),.z ((bo ((l.drop a).take 258)).1.bit),.u ((bo ((l.drop a).take 258)).1.inc),.sl 1 ((ae (bo ((l.drop a).take 258)).1.body).length)],.n ((bo ((l.drop a).take 258)).2)]) [.gw 0 aj,.rw 5 1 (ae (bo ((l.drop a).take 258)).1.body)]) (U (cR ((ae (bo ((l.drop a).take 258)).1.body).length)) (U ((by first | rfl | (simp [ae,ah,ints,a7,a8,eC];done) | (simp [ae,ah,ints,a7,a8,eC];omega)):(i)=(aW S:List (List DV)).length) (U ((by first | rfl | (simp [ae,ah,ints,a7,a8,eC];done) | (simp [ae,ah,ints,a7,a8,eC];omega)):(1)=([[.z ((bo ((l.drop a).take 258)).1.kind),.z ((bo ((l.drop a).take 258)).1.node),.z ((bo ((l.drop a).take 258)).1.peer),.z ((bo ((l.drop a).take 258)).1.n),.z ((bo ((l.drop a).take 258)).1.bit),.u ((bo ((l.drop a).take 258)).1.inc),.em 5 1 (ae (bo ((l.drop a).take 258)).1.body)]]:List (List DV)).length) (U ((by first | omega | (simp [ae,ah,ints,a7,a8,eC];done) | (simp [ae,ah,ints,a7,a8,eC];omega)):(2*((i)+(1))+192)*72≤281474976710656) (U ((by first | omega | (simp [ae,ah,ints,a7,a8,eC];done) | (simp [ae,ah,ints,a7,a8,eC];omega)):(i)+(1)<4611686018427387904) (U ((by simp [bd,AV.one,bW,ae,ah,ints,steps,strs]):bd ([[.z ((bo ((l.drop a).take 258)).1.kind),.z ((bo ((l.drop a).take 258)).1.node),.z ((bo ((l.drop a).take 258)).1.peer),.z ((bo ((l.drop a).take 258)).1.n),.z ((bo ((l.drop a).take 258)).1.bit),.u ((bo ((l.drop a).take 258)).1.inc),.em 5 1 (ae (bo ((l.drop a).take 258)).1.body)]])) (U ((wi (by omega)):IntKind.i64.wrap ((((a:Nat):Int):Int)+(((bo ((l.drop a).take 258)).2:Nat):Int))=((a+(bo ((l.drop a).take 258)).2:Nat):Int)) trivial))))))))))))))))) fun ac wd r=>bH (by omega) ac wd ⟨(a+(bo ((l.drop a).take 258)).2),(S++[(bo ((l.drop a).take 258)).1]),⟨by omega,by omega,by simp;omega,by rw [← ao.2.2.2,y9,List.drop_drop];simp⟩,r.cast rfl (by simp [aW,aM.po])⟩
  | true=>
   have bF:¬ _=_:=bne_iff_ne.1 h1
   exact absurd (if_neg (by rw [decide_eq_true_eq];unfold gE at hG;omega)) bF
 | true=>
  have aK:=of_decide_eq_true h0
  exact absurd aK (by omega)
set_option maxRecDepth 100000 in
theorem Bi (l:List UInt8) (hl:65536<l.length):aq Tryz.prog 15 [.d (.ro 1 (ae l))] [.gw 0 aj] (.tu [.ag [.z 0,.d (.v (.slice none 0 0)),.d (.v (.slice none 0 0))],.d (.v (.slice none 0 0)),.z 2]) ([.gw 0 aj]):=by
 refine aq.intro (by kernel_rfl) rfl rfl 58 rfl rfl fun D w0 K bs ac wd hK (ak:bs.m=1) r=>?_
 have aE:=((by simp [ae]):(((ae l).length:Nat):Int)=((l.length:Nat):Int))
 cases h0:(decide ((65536:Int)<((l.length:Nat):Int))) with
 | false=>
  have aK:=of_decide_eq_false h0
  exact absurd aK (by omega)
 | true=>
  have aK:=of_decide_eq_true h0
  refine aQ (y:=.tu [.ag [.z 0,.d (.v (.slice none 0 0)),.d (.v (.slice none 0 0))],.d (.v (.slice none 0 0)),.z 2]) (N':=[.gw 0 aj]) (rfl) (rfl) ?_
  exact aP mo tq hK rfl ak [(1,[(1,.z (((l.length:Nat):Int))),(2,.b true)])] 2000 [0] r (by kernel_rfl) (U aE (U h0 trivial))
set_option maxRecDepth 100000 in
theorem BR (l:List UInt8) (hl:l.length≤65536) (hG:l.length<gE l):aq Tryz.prog 15 [.d (.ro 1 (ae l))] [.gw 0 aj] (.tu [.ag [.z 0,.d (.v (.slice none 0 0)),.d (.v (.slice none 0 0))],.d (.v (.slice none 0 0)),.z 3]) ([.gw 0 aj]):=by
 refine aq.intro (by kernel_rfl) rfl rfl 58 rfl rfl fun D w0 K bs ac wd hK (ak:bs.m=1) r=>?_
 have aE:=((by simp [ae]):(((ae l).length:Nat):Int)=((l.length:Nat):Int))
 cases h0:(decide ((65536:Int)<((l.length:Nat):Int))) with
 | false=>
  have aK:=of_decide_eq_false h0
  have aZ:=((by have h:=qc l (by omega);unfold gU at h;simpa using h):aq Tryz.prog 32 [.d (.ro 1 (ae l))] [] (.pt 0 0) [.bx 108 [.d (.ro 1 (ae (l.drop (0)))),.d (.v (.bool ((decide (l.length<(0))))))]])
  have cd:=(qw (l.drop (2+2*gN l+1+gM l)) (decide (l.length<(2+2*gN l+1+gM l))))
  cases h1:(((if (decide (l.length<(2+2*gN l+1+gM l)))=true then 3 else 0):Int) != 0) with
  | false=>
   have bF:=fY h1
   exact absurd bF (by rw [if_pos (by rw [decide_eq_true_eq];unfold gE at hG;omega)];decide)
  | true=>
   have bF:¬ _=_:=bne_iff_ne.1 h1
   refine aQ (y:=.tu [.ag [.z 0,.d (.v (.slice none 0 0)),.d (.v (.slice none 0 0))],.d (.v (.slice none 0 0)),.z 3]) (N':=[.gw 0 aj]) (rfl) (rfl) ?_
   exact aP mo tq hK rfl ak [(1,[(1,.z (((l.length:Nat):Int))),(2,.b false)]),(3,[(1,.mem [] (.pt 0 0) [.bx 108 [.d (.ro 1 (ae (l.drop (0)))),.d (.v (.bool ((decide (l.length<(0))))))]])]),(4,[(1,.mem [2] (.ag [.z (gV l 0),.sl 1 ((gN l)),.sl 2 ((gM l))]) [.bx 108 [.d (.ro 1 (ae (l.drop (2+2*gN l+1+gM l)))),.d (.v (.bool ((decide (l.length<(2+2*gN l+1+gM l))))))],.rw 60 2 (ah (gL l (gN l))),.rw 3 1 (ints (gH l (gM l)))])]),(5,[(1,.mem [2] (.z ((if (decide (l.length<(2+2*gN l+1+gM l)))=true then 3 else 0))) [.bx 108 [.d (.ro 1 (ae (l.drop (2+2*gN l+1+gM l)))),.d (.v (.bool ((decide (l.length<(2+2*gN l+1+gM l))))))]]),(2,.b true)])] 2000 [0] r (by kernel_rfl) (U aE (U h0 (U aZ (U (wD l) (U cd (U h1 trivial))))))
 | true=>
  have aK:=of_decide_eq_true h0
  exact absurd aK (by omega)
set_option maxRecDepth 100000 in
theorem BS (l:List UInt8) (hl:l.length≤65536) (hG:gE l≤l.length) (hM:bI (gC l)=false):aq Tryz.prog 15 [.d (.ro 1 (ae l))] [.gw 0 aj] (.tu [.ag [.z 0,.d (.v (.slice none 0 0)),.d (.v (.slice none 0 0))],.d (.v (.slice none 0 0)),.z 3]) ([.gw 0 aj]):=by
 refine aq.intro (by kernel_rfl) rfl rfl 58 rfl rfl fun D w0 K bs ac wd hK (ak:bs.m=1) r=>?_
 have aE:=((by simp [ae]):(((ae l).length:Nat):Int)=((l.length:Nat):Int))
 cases h0:(decide ((65536:Int)<((l.length:Nat):Int))) with
 | false=>
  have aK:=of_decide_eq_false h0
  have aZ:=((by have h:=qc l (by omega);unfold gU at h;simpa using h):aq Tryz.prog 32 [.d (.ro 1 (ae l))] [] (.pt 0 0) [.bx 108 [.d (.ro 1 (ae (l.drop (0)))),.d (.v (.bool ((decide (l.length<(0))))))]])
  have cd:=(qw (l.drop (2+2*gN l+1+gM l)) (decide (l.length<(2+2*gN l+1+gM l))))
  cases h1:(((if (decide (l.length<(2+2*gN l+1+gM l)))=true then 3 else 0):Int) != 0) with
  | false=>
   have bF:=fY h1
   cases h2:(bI (gC l)) with
   | false=>
    refine aQ (y:=.tu [.ag [.z 0,.d (.v (.slice none 0 0)),.d (.v (.slice none 0 0))],.d (.v (.slice none 0 0)),.z 3]) (N':=[.gw 0 aj]) (rfl) (rfl) ?_
    exact aP mo tq hK rfl ak [(1,[(1,.z (((l.length:Nat):Int))),(2,.b false)]),(3,[(1,.mem [] (.pt 0 0) [.bx 108 [.d (.ro 1 (ae (l.drop (0)))),.d (.v (.bool ((decide (l.length<(0))))))]])]),(4,[(1,.mem [2] (.ag [.z (gV l 0),.sl 1 ((gN l)),.sl 2 ((gM l))]) [.bx 108 [.d (.ro 1 (ae (l.drop (2+2*gN l+1+gM l)))),.d (.v (.bool ((decide (l.length<(2+2*gN l+1+gM l))))))],.rw 60 2 (ah (gL l (gN l))),.rw 3 1 (ints (gH l (gM l)))])]),(5,[(1,.mem [2] (.z ((if (decide (l.length<(2+2*gN l+1+gM l)))=true then 3 else 0))) [.bx 108 [.d (.ro 1 (ae (l.drop (2+2*gN l+1+gM l)))),.d (.v (.bool ((decide (l.length<(2+2*gN l+1+gM l))))))]]),(2,.b false),(5,.call [.ag [.z (gV l 0),.d (.ro 2 (ah (gL l (gN l)))),.d (.ro 1 (ints (gH l (gM l))))]] (.v (.bool false)))])] 2000 [0] r (by kernel_rfl) (U aE (U h0 (U aZ (U (wD l) (U cd (U h1 (U ((by have k:=o7 (gC l) (by show (gL l (gN l)).length≤_;rw [a7];have:=kF l;omega) (by show (gH l (gM l)).length≤_;rw [a8];have:=mB l;omega);rw [h2] at k;exact k):aB Tryz.prog 21 [.ag [.z (gV l 0),.d (.ro 2 (ah (gL l (gN l)))),.d (.ro 1 (ints (gH l (gM l))))]] (.v (.bool false))) (U ((fx _):eH (.v (.bool false))) (U (iq (.z (gV l 0))) (U (cR (2)) (U ((by first | rfl | (simp [ae,ah,ints,a7,a8,eC];done) | (simp [ae,ah,ints,a7,a8,eC];omega)):((gN l))=(ah (gL l (gN l)):List (List DV)).length) (U ((by first | exact fX _ | exact ff _):cb (ah (gL l (gN l)))=ah (gL l (gN l))) (U (cR (1)) (U ((by first | rfl | (simp [ae,ah,ints,a7,a8,eC];done) | (simp [ae,ah,ints,a7,a8,eC];omega)):((gM l))=(ints (gH l (gM l))).length) (U ((by first | exact fX _ | exact ff _):cb (ints (gH l (gM l)))=ints (gH l (gM l))) trivial)))))))))))))))
   | true=>
    exact absurd h2 (by rw [hM];decide)
  | true=>
   have bF:¬ _=_:=bne_iff_ne.1 h1
   exact absurd (if_neg (by rw [decide_eq_true_eq];unfold gE at hG;omega)) bF
 | true=>
  have aK:=of_decide_eq_true h0
  exact absurd aK (by omega)
end Go.Proofs.YtcnpikbbmbombaaGreatDoor
namespace Go.Proofs.YtcnpikbbmbombaaGreatDoor
open Go.RowKit
def jS (l:List UInt8) (b:Bool):List ai:=[.bx 115 [.d (.ro 1 (ae l)),.d (.v (.bool b))]]
def mN (r:b4) (x:List UInt8):List ai:=[.bx 115 [.d (.ro 1 (ae r.1)),.d (.v (.bool r.2))],.rw 5 1 (ae x)]
def wN (k:Nat):List UInt8→Nat
 | []=>0
 | c::r=>wN k r*2 ^ k+c.toNat%2 ^ k
def ct:List UInt8→Nat→Nat
 | [],_=>0
 | c::r,n=>if 10<n then 0 else if c.toNat<128 then (if (1<n∧c.toNat=0)∨(n=10∧1<c.toNat) then 0 else n) else ct r (n+1)
theorem dT {l:List UInt8} {i:Nat} {c:UInt8} (h:l[i]?=some c) (n:Nat):ct (l.drop i) n=if 10<n then 0 else if c.toNat<128 then (if (1<n∧c.toNat=0)∨(n=10∧1<c.toNat) then 0 else n) else ct (l.drop (i+1)) (n+1):=by
 obtain ⟨aI,rfl⟩:=List.getElem?_eq_some_iff.1 h
 rw [List.drop_eq_getElem_cons aI];rfl
theorem qK {l:List UInt8} {i:Nat} {c:UInt8} (h:l[i]?=some c) (k:Nat):wN k (l.drop i)=wN k (l.drop (i+1))*2 ^ k+c.toNat%2 ^ k:=by
 obtain ⟨aI,rfl⟩:=List.getElem?_eq_some_iff.1 h
 rw [List.drop_eq_getElem_cons aI];rfl
theorem qo (k:Nat) (l:List UInt8):∀ i,wN k (l.drop i)≤wN k l
 | 0=>Nat.le_refl _
 | i+1=>by
  refine Nat.le_trans ?_ (qo k l i)
  rcases Nat.lt_or_ge i l.length with h | h
  ·rw [qK (List.getElem?_eq_getElem h)]
   exact Nat.le_trans (Nat.le_mul_of_pos_right _ (Nat.two_pow_pos k)) (Nat.le_add_right _ _)
  ·rw [List.drop_of_length_le (by omega),List.drop_of_length_le h];exact Nat.le_refl _
theorem Hr (l:List UInt8):bd (ae l):=by
 unfold bd;rw [List.all_eq_true];intro r hr
 unfold ae at hr;obtain ⟨b,-,rfl⟩:=List.mem_map.1 hr;rfl
theorem IP (l:List UInt8) (n:Nat):bd (List.take n (ae l)):=by rw [← uo];exact Hr _
theorem DI {k x y:Nat} (hk:k≤8) (hy:y<256) (h:x*2 ^ k+y%2 ^ k<18446744073709551616):IntKind.u64.wrap ((BitVec.ofInt IntKind.u64.bits ((x*2 ^ k:Nat):Int) ||| BitVec.ofInt IntKind.u64.bits ((y%2 ^ k:Nat):Int)).toNat:Int)=((x*2 ^ k+y%2 ^ k:Nat):Int):=by
 have hm:=Nat.mod_lt y (Nat.two_pow_pos k)
 have h1:(BitVec.ofInt 64 ((x*2 ^ k:Nat):Int) ||| BitVec.ofInt 64 ((y%2 ^ k:Nat):Int)).toNat=x*2 ^ k+y%2 ^ k:=by
  rw [BitVec.toNat_or,BitVec.ofInt_natCast,BitVec.ofInt_natCast,BitVec.toNat_ofNat,BitVec.toNat_ofNat,Nat.mod_eq_of_lt (by omega),Nat.mod_eq_of_lt (by omega),Nat.mul_comm x,← Nat.two_pow_add_eq_or_of_lt hm]
 show IntKind.u64.wrap ((BitVec.ofInt 64 ((x*2 ^ k:Nat):Int) ||| BitVec.ofInt 64 ((y%2 ^ k:Nat):Int)).toNat:Int)=_
 rw [h1];generalize x*2 ^ k+y%2 ^ k=q at *
 simp [IntKind.wrap,IntKind.signed,IntKind.bits];omega
theorem LR {x:Nat} (h:x*2 ^ 8<18446744073709551616):IntKind.u64.wrap ((x:Int)*2 ^ (min (8:Int).toNat IntKind.u64.bits))=((x*2 ^ 8:Nat):Int):=by
 show IntKind.u64.wrap ((x:Int)*2 ^ 8)=_
 simp [IntKind.wrap,IntKind.signed,IntKind.bits];omega
theorem LU {x:Nat} (h:x*2 ^ 7<18446744073709551616):IntKind.u64.wrap ((x:Int)*2 ^ (min (7:Int).toNat IntKind.u64.bits))=((x*2 ^ 7:Nat):Int):=by
 show IntKind.u64.wrap ((x:Int)*2 ^ 7)=_
 simp [IntKind.wrap,IntKind.signed,IntKind.bits];omega
theorem LV {y:Nat} (hy:y<256):IntKind.u64.wrap ((BitVec.ofInt IntKind.u64.bits (y:Int) &&& BitVec.ofInt IntKind.u64.bits 255).toNat:Int)=((y%2 ^ 8:Nat):Int):=by
 have h1:(BitVec.ofInt 64 (y:Int) &&& BitVec.ofInt 64 255).toNat=y%2 ^ 8:=by
  rw [BitVec.toNat_and]
  have e1:(BitVec.ofInt 64 (y:Int)).toNat=y:=by simp [BitVec.toNat_ofInt];omega
  have e2:(BitVec.ofInt 64 255).toNat=2 ^ 8-1:=by decide
  rw [e1,e2,Nat.and_two_pow_sub_one_eq_mod]
 show IntKind.u64.wrap ((BitVec.ofInt 64 (y:Int) &&& BitVec.ofInt 64 255).toNat:Int)=_
 rw [h1];simp [IntKind.wrap,IntKind.signed,IntKind.bits];omega
theorem LW {y:Nat} (hy:y<256):IntKind.u64.wrap ((BitVec.ofInt IntKind.u64.bits (y:Int) &&& BitVec.ofInt IntKind.u64.bits 127).toNat:Int)=((y%2 ^ 7:Nat):Int):=by
 have h1:(BitVec.ofInt 64 (y:Int) &&& BitVec.ofInt 64 127).toNat=y%2 ^ 7:=by
  rw [BitVec.toNat_and]
  have e1:(BitVec.ofInt 64 (y:Int)).toNat=y:=by simp [BitVec.toNat_ofInt];omega
  have e2:(BitVec.ofInt 64 127).toNat=2 ^ 7-1:=by decide
  rw [e1,e2,Nat.and_two_pow_sub_one_eq_mod]
 show IntKind.u64.wrap ((BitVec.ofInt 64 (y:Int) &&& BitVec.ofInt 64 127).toNat:Int)=_
 rw [h1];simp [IntKind.wrap,IntKind.signed,IntKind.bits];omega
set_option maxRecDepth 100000 in
theorem Kb (l:List UInt8) (hl:l.length≤1048576) (hw:wN 8 l<18446744073709551616):aB Tryz.prog 93 [.d (.ro 1 (ae l)),.z 8] (.u (wN 8 l)):=by
 refine aB.intro (by kernel_rfl) rfl rfl 28 rfl rfl fun w0 K ac hK r=>?_
 refine cy (todo':=hd Tryz.f93 0) (E':=[(0,.d (.ro 1 (ae l))),(1,.z 8),(5,.d (.v (.int .u64 0))),(6,.z ((l.length:Int)-1))]) (M':=[]) mo tq hK [(2,[(1,.z (((l.length:Nat):Int))),(2,.z ((l.length:Int)-1))])] 2000 [] [0,1,5,6] r (by kernel_rfl) (U ((by first | rfl | simp [ae,ah,ints,steps,strs]):(((ae l).length:Nat):Int)=((l.length:Nat):Int)) (U ((wi (by omega)):IntKind.i64.wrap ((((l.length:Nat):Int):Int)-1)=(l.length:Int)-1) trivial)) fun ac wd r=>?_
 refine aC.rounds (Φ:=fun (j:Nat) ac wd=>(j≤l.length)∧du [] w0 K 28 [(0,.d (.ro 1 (ae l))),(1,.z 8),(5,.u (wN 8 (l.drop (l.length-j)))),(6,.z ((l.length:Int)-1-(j:Int)))] [] ac wd) (l.length) ?_ (Nat.zero_le _) ⟨(Nat.zero_le _),(r).cast (by rw [Nat.sub_zero,List.drop_length];simp [wN]) rfl⟩
 clear r
 rintro j dI bH ac wd ⟨ao,r⟩
 cases h0:(decide ((0:Int)≤(l.length:Int)-1-(j:Int))) with
 | false=>
  have aK:=of_decide_eq_false h0
  rw [show (.u (wN 8 l):DV)=.u (wN 8 (l.drop (l.length-j))) from (by rw [show l.length-j=0 by omega,List.drop_zero])]
  exact bj mo tq hK rfl [(3,[(1,.b false)])] 2000 r (by kernel_rfl) (U h0 trivial)
 | true=>
  have aK:=of_decide_eq_true h0
  obtain ⟨eO,q4⟩:∃ x_,l[l.length-1-j]?=some x_:=⟨_,List.getElem?_eq_getElem (by omega)⟩
  have ej:l.length-(j+1)=l.length-1-j:=by omega
  have qL:l[l.length-(j+1)]?=some eO:=by rw [ej];exact q4
  have rN:l.length-(j+1)+1=l.length-j:=by omega
  exact cy (todo':=hd Tryz.f93 0) (E':=[(0,.d (.ro 1 (ae l))),(1,.z 8),(5,.u (wN 8 (l.drop (l.length-(j+1))))),(6,.z ((l.length:Int)-1-((j+1:Nat):Int)))]) (M':=[]) mo tq hK [(3,[(1,.b true)]),(4,[(1,.z ((l.length:Int)-1-((j+1:Nat):Int)))]),(5,[(2,.z (((wN 8 (l.drop (l.length-j))*2 ^ 8:Nat):Int))),(5,.ix (l.length-1-j) [.v (.int .u8 (((eO.toNat:Nat):Int)))]),(7,.z (((eO.toNat:Nat):Int))),(9,.z (256)),(10,.z (255)),(11,.z (((eO.toNat%2 ^ 8:Nat):Int))),(12,.z (((wN 8 (l.drop (l.length-(j+1))):Nat):Int)))])] 2000 [] [0,1,5,6] r (by kernel_rfl) (U h0 (U ((by have h1:=qo 8 l (l.length-(j+1));rw [qK qL,rN] at h1;exact LR (by omega)):IntKind.u64.wrap ((((wN 8 (l.drop (l.length-j)):Nat):Int):Int)*2 ^ (min (8:Int).toNat IntKind.u64.bits))=((wN 8 (l.drop (l.length-j))*2 ^ 8:Nat):Int)) (U ((by first | decide | omega):(0:Int)≤8) (U ((by omega):((l.length:Int)-1-(j:Int))=((l.length-1-j:Nat):Int)) (U (dM q4) (U ((wu (by have:=eO.toNat_lt;omega)):IntKind.u64.wrap (((eO.toNat:Nat):Int))=((eO.toNat:Nat):Int)) (U ((by decide):IntKind.u64.wrap ((1:Int)*2 ^ (min (8:Int).toNat IntKind.u64.bits))=256) (U ((by first | decide | omega):(0:Int)≤8) (U ((wu (by omega)):IntKind.u64.wrap ((256:Int)-1)=255) (U ((LV (by have:=eO.toNat_lt;omega)):IntKind.u64.wrap ((BitVec.ofInt IntKind.u64.bits (((eO.toNat:Nat):Int)) &&& BitVec.ofInt IntKind.u64.bits (255)).toNat:Int)=((eO.toNat%2 ^ 8:Nat):Int)) (U ((by have h1:=qo 8 l (l.length-(j+1));rw [qK qL,rN] at h1 ⊢;exact DI (by decide) (eO.toNat_lt) (by omega)):IntKind.u64.wrap ((BitVec.ofInt IntKind.u64.bits (((wN 8 (l.drop (l.length-j))*2 ^ 8:Nat):Int)) ||| BitVec.ofInt IntKind.u64.bits (((eO.toNat%2 ^ 8:Nat):Int))).toNat:Int)=((wN 8 (l.drop (l.length-(j+1))):Nat):Int)) (U ((wi (by omega)):IntKind.i64.wrap (((l.length:Int)-1-(j:Int):Int)-1)=(l.length:Int)-1-((j+1:Nat):Int)) trivial)))))))))))) fun ac wd r=>bH (by omega) ac wd ⟨(by omega),r.cast rfl rfl⟩
set_option maxRecDepth 100000 in
theorem BT (l:List UInt8) (hl:l.length≤1048576) (hw:wN 7 l<18446744073709551616):aB Tryz.prog 93 [.d (.ro 1 (ae l)),.z 7] (.u (wN 7 l)):=by
 refine aB.intro (by kernel_rfl) rfl rfl 28 rfl rfl fun w0 K ac hK r=>?_
 refine cy (todo':=hd Tryz.f93 0) (E':=[(0,.d (.ro 1 (ae l))),(1,.z 7),(5,.d (.v (.int .u64 0))),(6,.z ((l.length:Int)-1))]) (M':=[]) mo tq hK [(2,[(1,.z (((l.length:Nat):Int))),(2,.z ((l.length:Int)-1))])] 2000 [] [0,1,5,6] r (by kernel_rfl) (U ((by first | rfl | simp [ae,ah,ints,steps,strs]):(((ae l).length:Nat):Int)=((l.length:Nat):Int)) (U ((wi (by omega)):IntKind.i64.wrap ((((l.length:Nat):Int):Int)-1)=(l.length:Int)-1) trivial)) fun ac wd r=>?_
 refine aC.rounds (Φ:=fun (j:Nat) ac wd=>(j≤l.length)∧du [] w0 K 28 [(0,.d (.ro 1 (ae l))),(1,.z 7),(5,.u (wN 7 (l.drop (l.length-j)))),(6,.z ((l.length:Int)-1-(j:Int)))] [] ac wd) (l.length) ?_ (Nat.zero_le _) ⟨(Nat.zero_le _),(r).cast (by rw [Nat.sub_zero,List.drop_length];simp [wN]) rfl⟩
 clear r
 rintro j dI bH ac wd ⟨ao,r⟩
 cases h0:(decide ((0:Int)≤(l.length:Int)-1-(j:Int))) with
 | false=>
  have aK:=of_decide_eq_false h0
  rw [show (.u (wN 7 l):DV)=.u (wN 7 (l.drop (l.length-j))) from (by rw [show l.length-j=0 by omega,List.drop_zero])]
  exact bj mo tq hK rfl [(3,[(1,.b false)])] 2000 r (by kernel_rfl) (U h0 trivial)
 | true=>
  have aK:=of_decide_eq_true h0
  obtain ⟨eO,q4⟩:∃ x_,l[l.length-1-j]?=some x_:=⟨_,List.getElem?_eq_getElem (by omega)⟩
  have ej:l.length-(j+1)=l.length-1-j:=by omega
  have qL:l[l.length-(j+1)]?=some eO:=by rw [ej];exact q4
  have rN:l.length-(j+1)+1=l.length-j:=by omega
  exact cy (todo':=hd Tryz.f93 0) (E':=[(0,.d (.ro 1 (ae l))),(1,.z 7),(5,.u (wN 7 (l.drop (l.length-(j+1))))),(6,.z ((l.length:Int)-1-((j+1:Nat):Int)))]) (M':=[]) mo tq hK [(3,[(1,.b true)]),(4,[(1,.z ((l.length:Int)-1-((j+1:Nat):Int)))]),(5,[(2,.z (((wN 7 (l.drop (l.length-j))*2 ^ 7:Nat):Int))),(5,.ix (l.length-1-j) [.v (.int .u8 (((eO.toNat:Nat):Int)))]),(7,.z (((eO.toNat:Nat):Int))),(9,.z (128)),(10,.z (127)),(11,.z (((eO.toNat%2 ^ 7:Nat):Int))),(12,.z (((wN 7 (l.drop (l.length-(j+1))):Nat):Int)))])] 2000 [] [0,1,5,6] r (by kernel_rfl) (U h0 (U ((by have h1:=qo 7 l (l.length-(j+1));rw [qK qL,rN] at h1;exact LU (by omega)):IntKind.u64.wrap ((((wN 7 (l.drop (l.length-j)):Nat):Int):Int)*2 ^ (min (7:Int).toNat IntKind.u64.bits))=((wN 7 (l.drop (l.length-j))*2 ^ 7:Nat):Int)) (U ((by first | decide | omega):(0:Int)≤7) (U ((by omega):((l.length:Int)-1-(j:Int))=((l.length-1-j:Nat):Int)) (U (dM q4) (U ((wu (by have:=eO.toNat_lt;omega)):IntKind.u64.wrap (((eO.toNat:Nat):Int))=((eO.toNat:Nat):Int)) (U ((by decide):IntKind.u64.wrap ((1:Int)*2 ^ (min (7:Int).toNat IntKind.u64.bits))=128) (U ((by first | decide | omega):(0:Int)≤7) (U ((wu (by omega)):IntKind.u64.wrap ((128:Int)-1)=127) (U ((LW (by have:=eO.toNat_lt;omega)):IntKind.u64.wrap ((BitVec.ofInt IntKind.u64.bits (((eO.toNat:Nat):Int)) &&& BitVec.ofInt IntKind.u64.bits (127)).toNat:Int)=((eO.toNat%2 ^ 7:Nat):Int)) (U ((by have h1:=qo 7 l (l.length-(j+1));rw [qK qL,rN] at h1 ⊢;exact DI (by decide) (eO.toNat_lt) (by omega)):IntKind.u64.wrap ((BitVec.ofInt IntKind.u64.bits (((wN 7 (l.drop (l.length-j))*2 ^ 7:Nat):Int)) ||| BitVec.ofInt IntKind.u64.bits (((eO.toNat%2 ^ 7:Nat):Int))).toNat:Int)=((wN 7 (l.drop (l.length-(j+1))):Nat):Int)) (U ((wi (by omega)):IntKind.i64.wrap (((l.length:Int)-1-(j:Int):Int)-1)=(l.length:Int)-1-((j+1:Nat):Int)) trivial)))))))))))) fun ac wd r=>bH (by omega) ac wd ⟨(by omega),r.cast rfl rfl⟩
theorem u2 {l:List UInt8} {n:Nat} (h:10<n):ct l n=0:=by cases l with
 | nil=>rfl
 | cons c r=>unfold ct;rw [if_pos h]
theorem kX {l:List UInt8} {n:Nat} (h:10<n):(AV.n (ct l n))=.z 0:=by rw [u2 h];rfl
set_option maxRecDepth 100000 in
theorem AF (l:List UInt8) (b:Bool) (hl:l.length≤1048576):aq Tryz.prog 94 [.pt 0 0] [.bx 115 [.d (.ro 1 (ae l)),.d (.v (.bool b))]] (.n (ct l 1)) (jS l b):=by
 refine aq.intro (by kernel_rfl) rfl rfl 53 rfl rfl fun D w0 K bs ac wd hK (ak:bs.m=1) r=>?_
 refine bT (todo':=hd Tryz.f94 0) (E':=[(0,.pt 0 0),(3,.n (0+1))]) (M':=[.bx 115 [.d (.ro 1 (ae l)),.d (.v (.bool b))]]) mo tq hK ak [] 2000 [0] [0,3] r (by kernel_rfl) trivial fun ac wd r=>?_
 refine aC.rounds (Φ:=fun (i:Nat) ac wd=>(ct (l.drop i) (i+1)=ct l 1∧i≤l.length)∧RB D w0 K 53 bs [(0,.pt 0 0),(3,.n (i+1))] [.bx 115 [.d (.ro 1 (ae l)),.d (.v (.bool b))]] ac wd) (l.length) ?_ (Nat.zero_le _) ⟨⟨rfl,Nat.zero_le _⟩,r⟩
 clear r
 rintro i dI bH ac wd ⟨ao,r⟩
 obtain ⟨ao,za⟩:=ao
 have aE:=((by first | rfl | simp [ae,ah,ints,steps,strs]):(((ae l).length:Nat):Int)=((l.length:Nat):Int))
 cases h0:(decide ((((i+1:Nat):Int):Int)≤((l.length:Nat):Int))) with
 | false=>
  have aK:=of_decide_eq_false h0
  refine aQ (y:=.z 0) (N':=[.bx 115 [.d (.ro 1 (ae l)),.d (.v (.bool b))]]) ((by rw [← ao];first | rfl | (rw [List.drop_of_length_le (by omega)];rfl) | (rw [dT bM,if_pos (by omega)]<;>rfl) | (rw [dT bM,if_neg (by omega),if_pos (by omega),if_pos (by omega)]<;>rfl) | (rw [dT bM,if_neg (by omega),if_pos (by omega),if_neg (by omega)]<;>rfl) | exact kX (by omega))) (rfl) ?_
  exact aP mo tq hK rfl ak [(2,[(5,.z (((l.length:Nat):Int))),(6,.b false)])] 2000 [0] r (by kernel_rfl) (U aE (U h0 trivial))
 | true=>
  have aK:=of_decide_eq_true h0
  obtain ⟨bp,bM⟩:∃ x_,l[i]?=some x_:=⟨_,List.getElem?_eq_getElem (by omega)⟩
  have lO:=bp.toNat_lt
  cases h1:(decide ((((i+1:Nat):Int):Int)≤10)) with
  | false=>
   have bF:=of_decide_eq_false h1
   refine aQ (y:=.z 0) (N':=[.bx 115 [.d (.ro 1 (ae l)),.d (.v (.bool b))]]) ((by rw [← ao];first | rfl | (rw [List.drop_of_length_le (by omega)];rfl) | (rw [dT bM,if_pos (by omega)]<;>rfl) | (rw [dT bM,if_neg (by omega),if_pos (by omega),if_pos (by omega)]<;>rfl) | (rw [dT bM,if_neg (by omega),if_pos (by omega),if_neg (by omega)]<;>rfl) | exact kX (by omega))) (rfl) ?_
   exact aP mo tq hK rfl ak [(2,[(5,.z (((l.length:Nat):Int))),(6,.b true),(9,.b false)])] 2000 [0] r (by kernel_rfl) (U aE (U h0 (U h1 trivial)))
  | true=>
   have bF:=of_decide_eq_true h1
   have aZ:=((wi (by omega)):IntKind.i64.wrap ((((i+1:Nat):Int):Int)-1)=((i:Nat):Int))
   cases h2:(decide ((((bp.toNat:Nat):Int):Int)<128)) with
   | false=>
    have cW:=of_decide_eq_false h2
    exact bT (todo':=hd Tryz.f94 0) mo tq hK ak [(2,[(5,.z (((l.length:Nat):Int))),(6,.b true),(9,.b true)]),(3,[(1,.z (((i+1+1:Nat):Int)))]),(4,[(5,.z (((i:Nat):Int))),(6,.ix (i) [.v (.int .u8 (((bp.toNat:Nat):Int)))]),(8,.b false)])] 2000 [0] [0,3] r (by kernel_rfl) (U aE (U h0 (U h1 (U aZ (U (aA ((i:Nat):Int)) (U (dM bM) (U h2 (U ((wi (by omega)):IntKind.i64.wrap ((((i+1:Nat):Int):Int)+1)=((i+1+1:Nat):Int)) trivial)))))))) fun ac wd r=>bH (by omega) ac wd ⟨⟨by rw [← ao,dT bM,if_neg (by omega),if_neg (by omega)],by omega⟩,r⟩
   | true=>
    have cW:=of_decide_eq_true h2
    cases h3:(decide ((1:Int)<((i+1:Nat):Int))) with
    | false=>
     have di:=of_decide_eq_false h3
     cases h4:((((i+1:Nat):Int):Int)==10) with
     | false=>
      have dD:=ne_of_beq_false h4
      refine aQ (y:=.n (i+1)) (N':=[.bx 115 [.d (.ro 1 (ae l)),.d (.v (.bool b))]]) ((by rw [← ao];first | rfl | (rw [List.drop_of_length_le (by omega)];rfl) | (rw [dT bM,if_pos (by omega)]<;>rfl) | (rw [dT bM,if_neg (by omega),if_pos (by omega),if_pos (by omega)]<;>rfl) | (rw [dT bM,if_neg (by omega),if_pos (by omega),if_neg (by omega)]<;>rfl) | exact kX (by omega))) (rfl) ?_
      exact aP mo tq hK rfl ak [(2,[(5,.z (((l.length:Nat):Int))),(6,.b true),(9,.b true)]),(4,[(5,.z (((i:Nat):Int))),(6,.ix (i) [.v (.int .u8 (((bp.toNat:Nat):Int)))]),(8,.b true)]),(5,[(1,.b false),(15,.b false)])] 2000 [0] r (by kernel_rfl) (U aE (U h0 (U h1 (U aZ (U (aA ((i:Nat):Int)) (U (dM bM) (U h2 (U h3 (U h4 trivial)))))))))
     | true=>
      have dD:=eq_of_beq h4
      have cd:=(dM (by have h9:i=9:=(by omega);rw [← h9];exact bM):(ae l)[9]?=some [.v (.int .u8 (((bp.toNat:Nat):Int)))])
      cases h5:(decide ((1:Int)<((bp.toNat:Nat):Int))) with
      | false=>
       have ew:=of_decide_eq_false h5
       refine aQ (y:=.n (i+1)) (N':=[.bx 115 [.d (.ro 1 (ae l)),.d (.v (.bool b))]]) ((by rw [← ao];first | rfl | (rw [List.drop_of_length_le (by omega)];rfl) | (rw [dT bM,if_pos (by omega)]<;>rfl) | (rw [dT bM,if_neg (by omega),if_pos (by omega),if_pos (by omega)]<;>rfl) | (rw [dT bM,if_neg (by omega),if_pos (by omega),if_neg (by omega)]<;>rfl) | exact kX (by omega))) (rfl) ?_
       exact aP mo tq hK rfl ak [(2,[(5,.z (((l.length:Nat):Int))),(6,.b true),(9,.b true)]),(4,[(5,.z (((i:Nat):Int))),(6,.ix (i) [.v (.int .u8 (((bp.toNat:Nat):Int)))]),(8,.b true)]),(5,[(1,.b false),(15,.b true),(21,.ix (9) [.v (.int .u8 (((bp.toNat:Nat):Int)))]),(23,.b false)])] 2000 [0] r (by kernel_rfl) (U aE (U h0 (U h1 (U aZ (U (aA ((i:Nat):Int)) (U (dM bM) (U h2 (U h3 (U h4 (U (rfl:(9)=((9:Nat):Int)) (U cd (U h5 trivial))))))))))))
      | true=>
       have ew:=of_decide_eq_true h5
       refine aQ (y:=.z 0) (N':=[.bx 115 [.d (.ro 1 (ae l)),.d (.v (.bool b))]]) ((by rw [← ao];first | rfl | (rw [List.drop_of_length_le (by omega)];rfl) | (rw [dT bM,if_pos (by omega)]<;>rfl) | (rw [dT bM,if_neg (by omega),if_pos (by omega),if_pos (by omega)]<;>rfl) | (rw [dT bM,if_neg (by omega),if_pos (by omega),if_neg (by omega)]<;>rfl) | exact kX (by omega))) (rfl) ?_
       exact aP mo tq hK rfl ak [(2,[(5,.z (((l.length:Nat):Int))),(6,.b true),(9,.b true)]),(4,[(5,.z (((i:Nat):Int))),(6,.ix (i) [.v (.int .u8 (((bp.toNat:Nat):Int)))]),(8,.b true)]),(5,[(1,.b false),(15,.b true),(21,.ix (9) [.v (.int .u8 (((bp.toNat:Nat):Int)))]),(23,.b true)])] 2000 [0] r (by kernel_rfl) (U aE (U h0 (U h1 (U aZ (U (aA ((i:Nat):Int)) (U (dM bM) (U h2 (U h3 (U h4 (U (rfl:(9)=((9:Nat):Int)) (U cd (U h5 trivial))))))))))))
    | true=>
     have di:=of_decide_eq_true h3
     cases h6:((((bp.toNat:Nat):Int):Int)==0) with
     | false=>
      have eV:=ne_of_beq_false h6
      cases h7:((((i+1:Nat):Int):Int)==10) with
      | false=>
       have dZ:=ne_of_beq_false h7
       refine aQ (y:=.n (i+1)) (N':=[.bx 115 [.d (.ro 1 (ae l)),.d (.v (.bool b))]]) ((by rw [← ao];first | rfl | (rw [List.drop_of_length_le (by omega)];rfl) | (rw [dT bM,if_pos (by omega)]<;>rfl) | (rw [dT bM,if_neg (by omega),if_pos (by omega),if_pos (by omega)]<;>rfl) | (rw [dT bM,if_neg (by omega),if_pos (by omega),if_neg (by omega)]<;>rfl) | exact kX (by omega))) (rfl) ?_
       exact aP mo tq hK rfl ak [(2,[(5,.z (((l.length:Nat):Int))),(6,.b true),(9,.b true)]),(4,[(5,.z (((i:Nat):Int))),(6,.ix (i) [.v (.int .u8 (((bp.toNat:Nat):Int)))]),(8,.b true)]),(5,[(1,.b true),(8,.z (((i:Nat):Int))),(9,.ix (i) [.v (.int .u8 (((bp.toNat:Nat):Int)))]),(11,.b false),(15,.b false)])] 2000 [0] r (by kernel_rfl) (U aE (U h0 (U h1 (U aZ (U (aA ((i:Nat):Int)) (U (dM bM) (U h2 (U h3 (U aZ (U (aA ((i:Nat):Int)) (U (dM bM) (U h6 (U h7 trivial)))))))))))))
      | true=>
       have dZ:=eq_of_beq h7
       have c7:=(dM (by have h9:i=9:=(by omega);rw [← h9];exact bM):(ae l)[9]?=some [.v (.int .u8 (((bp.toNat:Nat):Int)))])
       cases h8:(decide ((1:Int)<((bp.toNat:Nat):Int))) with
       | false=>
        have e6:=of_decide_eq_false h8
        refine aQ (y:=.n (i+1)) (N':=[.bx 115 [.d (.ro 1 (ae l)),.d (.v (.bool b))]]) ((by rw [← ao];first | rfl | (rw [List.drop_of_length_le (by omega)];rfl) | (rw [dT bM,if_pos (by omega)]<;>rfl) | (rw [dT bM,if_neg (by omega),if_pos (by omega),if_pos (by omega)]<;>rfl) | (rw [dT bM,if_neg (by omega),if_pos (by omega),if_neg (by omega)]<;>rfl) | exact kX (by omega))) (rfl) ?_
        exact aP mo tq hK rfl ak [(2,[(5,.z (((l.length:Nat):Int))),(6,.b true),(9,.b true)]),(4,[(5,.z (((i:Nat):Int))),(6,.ix (i) [.v (.int .u8 (((bp.toNat:Nat):Int)))]),(8,.b true)]),(5,[(1,.b true),(8,.z (((i:Nat):Int))),(9,.ix (i) [.v (.int .u8 (((bp.toNat:Nat):Int)))]),(11,.b false),(15,.b true),(21,.ix (9) [.v (.int .u8 (((bp.toNat:Nat):Int)))]),(23,.b false)])] 2000 [0] r (by kernel_rfl) (U aE (U h0 (U h1 (U aZ (U (aA ((i:Nat):Int)) (U (dM bM) (U h2 (U h3 (U aZ (U (aA ((i:Nat):Int)) (U (dM bM) (U h6 (U h7 (U (rfl:(9)=((9:Nat):Int)) (U c7 (U h8 trivial))))))))))))))))
       | true=>
        have e6:=of_decide_eq_true h8
        refine aQ (y:=.z 0) (N':=[.bx 115 [.d (.ro 1 (ae l)),.d (.v (.bool b))]]) ((by rw [← ao];first | rfl | (rw [List.drop_of_length_le (by omega)];rfl) | (rw [dT bM,if_pos (by omega)]<;>rfl) | (rw [dT bM,if_neg (by omega),if_pos (by omega),if_pos (by omega)]<;>rfl) | (rw [dT bM,if_neg (by omega),if_pos (by omega),if_neg (by omega)]<;>rfl) | exact kX (by omega))) (rfl) ?_
        exact aP mo tq hK rfl ak [(2,[(5,.z (((l.length:Nat):Int))),(6,.b true),(9,.b true)]),(4,[(5,.z (((i:Nat):Int))),(6,.ix (i) [.v (.int .u8 (((bp.toNat:Nat):Int)))]),(8,.b true)]),(5,[(1,.b true),(8,.z (((i:Nat):Int))),(9,.ix (i) [.v (.int .u8 (((bp.toNat:Nat):Int)))]),(11,.b false),(15,.b true),(21,.ix (9) [.v (.int .u8 (((bp.toNat:Nat):Int)))]),(23,.b true)])] 2000 [0] r (by kernel_rfl) (U aE (U h0 (U h1 (U aZ (U (aA ((i:Nat):Int)) (U (dM bM) (U h2 (U h3 (U aZ (U (aA ((i:Nat):Int)) (U (dM bM) (U h6 (U h7 (U (rfl:(9)=((9:Nat):Int)) (U c7 (U h8 trivial))))))))))))))))
     | true=>
      have eV:=eq_of_beq h6
      refine aQ (y:=.z 0) (N':=[.bx 115 [.d (.ro 1 (ae l)),.d (.v (.bool b))]]) ((by rw [← ao];first | rfl | (rw [List.drop_of_length_le (by omega)];rfl) | (rw [dT bM,if_pos (by omega)]<;>rfl) | (rw [dT bM,if_neg (by omega),if_pos (by omega),if_pos (by omega)]<;>rfl) | (rw [dT bM,if_neg (by omega),if_pos (by omega),if_neg (by omega)]<;>rfl) | exact kX (by omega))) (rfl) ?_
      exact aP mo tq hK rfl ak [(2,[(5,.z (((l.length:Nat):Int))),(6,.b true),(9,.b true)]),(4,[(5,.z (((i:Nat):Int))),(6,.ix (i) [.v (.int .u8 (((bp.toNat:Nat):Int)))]),(8,.b true)]),(5,[(1,.b true),(8,.z (((i:Nat):Int))),(9,.ix (i) [.v (.int .u8 (((bp.toNat:Nat):Int)))]),(11,.b true)])] 2000 [0] r (by kernel_rfl) (U aE (U h0 (U h1 (U aZ (U (aA ((i:Nat):Int)) (U (dM bM) (U h2 (U h3 (U aZ (U (aA ((i:Nat):Int)) (U (dM bM) (U h6 trivial))))))))))))
set_option maxRecDepth 100000 in
theorem Kc (l:List UInt8) (z:Int):aq Tryz.prog 68 [.pt 0 0,.z z] [.bx 115 [.d (.ro 1 (ae l)),.d (.v (.bool true))]] (.sl 1 (ae []).length) (mN (l,true) []):=by
 refine aq.intro (by kernel_rfl) rfl rfl 44 rfl rfl fun D w0 K bs ac wd hK (ak:bs.m=1) r=>?_
 refine bC (todo':=aft Tryz.f68 3) (E':=[(0,.pt 0 0),(1,.z z),(4,.d (.v (.slice none 0 0)))]) (M':=[.bx 115 [.d (.ro 1 (ae l)),.d (.v (.bool true))]]) mo tq hK ak [] 10 [0] [0,1,4] r (by kernel_rfl) trivial fun ac wd r=>?_
 have r:=r.de (E1:=[(0,.pt 0 0),(1,.z z),(4,.sl 1 (0))]) (M1:=[.bx 115 [.d (.ro 1 (ae l)),.d (.v (.bool true))],.rw 5 1 ([])]) (M2:=[.bx 115 [.d (.ro 1 (ae l)),.d (.v (.bool true))],.rw 5 1 ([])]) [(4,5,1)] [] (by kernel_rfl) (by kernel_rfl)
 refine aQ (y:=.sl 1 (0)) (N':=[.bx 115 [.d (.ro 1 (ae l)),.d (.v (.bool true))],.rw 5 1 ([])]) (rfl) (rfl) ?_
 exact aP mo tq hK rfl ak [] 2000 [0,1] r (by kernel_rfl) trivial
set_option maxRecDepth 100000 in
theorem Kd (l:List UInt8) (z:Int) (hz:z<0):aq Tryz.prog 68 [.pt 0 0,.z z] [.bx 115 [.d (.ro 1 (ae l)),.d (.v (.bool false))]] (.sl 1 (ae []).length) (mN (l,true) []):=by
 refine aq.intro (by kernel_rfl) rfl rfl 44 rfl rfl fun D w0 K bs ac wd hK (ak:bs.m=1) r=>?_
 cases h0:(decide ((z:Int)<0)) with
 | false=>
  have aK:=of_decide_eq_false h0
  exact absurd aK (by omega)
 | true=>
  have aK:=of_decide_eq_true h0
  refine bC (todo':=aft Tryz.f68 3) (E':=[(0,.pt 0 0),(1,.z z),(4,.d (.v (.slice none 0 0)))]) (M':=[.bx 115 [.d (.ro 1 (ae l)),.d (.v (.bool true))]]) mo tq hK ak [(1,[(6,.b true)])] 10 [0] [0,1,4] r (by kernel_rfl) (U h0 trivial) fun ac wd r=>?_
  have r:=r.de (E1:=[(0,.pt 0 0),(1,.z z),(4,.sl 1 (0))]) (M1:=[.bx 115 [.d (.ro 1 (ae l)),.d (.v (.bool true))],.rw 5 1 ([])]) (M2:=[.bx 115 [.d (.ro 1 (ae l)),.d (.v (.bool true))],.rw 5 1 ([])]) [(4,5,1)] [] (by kernel_rfl) (by kernel_rfl)
  refine aQ (y:=.sl 1 (0)) (N':=[.bx 115 [.d (.ro 1 (ae l)),.d (.v (.bool true))],.rw 5 1 ([])]) (rfl) (rfl) ?_
  exact aP mo tq hK rfl ak [] 2000 [0,1] r (by kernel_rfl) trivial
set_option maxRecDepth 100000 in
theorem IQ (l:List UInt8) (n:Nat) (hn:l.length<n):aq Tryz.prog 68 [.pt 0 0,.n n] [.bx 115 [.d (.ro 1 (ae l)),.d (.v (.bool false))]] (.sl 1 (ae []).length) (mN (l,true) []):=by
 refine aq.intro (by kernel_rfl) rfl rfl 44 rfl rfl fun D w0 K bs ac wd hK (ak:bs.m=1) r=>?_
 cases h0:(decide ((((n:Nat):Int):Int)<0)) with
 | false=>
  have aK:=of_decide_eq_false h0
  have aE:=((by first | rfl | simp [ae,ah,ints,steps,strs]):(((ae l).length:Nat):Int)=((l.length:Nat):Int))
  cases h1:(decide ((((l.length:Nat):Int):Int)<((n:Nat):Int))) with
  | false=>
   have bF:=of_decide_eq_false h1
   exact absurd bF (by omega)
  | true=>
   have bF:=of_decide_eq_true h1
   refine bC (todo':=aft Tryz.f68 3) (E':=[(0,.pt 0 0),(1,.n n),(4,.d (.v (.slice none 0 0)))]) (M':=[.bx 115 [.d (.ro 1 (ae l)),.d (.v (.bool true))]]) mo tq hK ak [(1,[(6,.b false),(13,.z (((l.length:Nat):Int))),(15,.b true)])] 10 [0] [0,1,4] r (by kernel_rfl) (U h0 (U aE (U h1 trivial))) fun ac wd r=>?_
   have r:=r.de (E1:=[(0,.pt 0 0),(1,.n n),(4,.sl 1 (0))]) (M1:=[.bx 115 [.d (.ro 1 (ae l)),.d (.v (.bool true))],.rw 5 1 ([])]) (M2:=[.bx 115 [.d (.ro 1 (ae l)),.d (.v (.bool true))],.rw 5 1 ([])]) [(4,5,1)] [] (by kernel_rfl) (by kernel_rfl)
   refine aQ (y:=.sl 1 (0)) (N':=[.bx 115 [.d (.ro 1 (ae l)),.d (.v (.bool true))],.rw 5 1 ([])]) (rfl) (rfl) ?_
   exact aP mo tq hK rfl ak [] 2000 [0,1] r (by kernel_rfl) trivial
 | true=>
  have aK:=of_decide_eq_true h0
  exact absurd aK (by omega)
set_option maxRecDepth 100000 in
theorem Ke (l:List UInt8) (n:Nat) (hn:n≤l.length) (hl:l.length≤1048576):aq Tryz.prog 68 [.pt 0 0,.n n] [.bx 115 [.d (.ro 1 (ae l)),.d (.v (.bool false))]] (.sl 1 (ae (l.take n)).length) (mN (l.drop n,false) (l.take n)):=by
 refine aq.intro (by kernel_rfl) rfl rfl 44 rfl rfl fun D w0 K bs ac wd hK (ak:bs.m=1) r=>?_
 cases h0:(decide ((((n:Nat):Int):Int)<0)) with
 | false=>
  have aK:=of_decide_eq_false h0
  have aE:=((by first | rfl | simp [ae,ah,ints,steps,strs]):(((ae l).length:Nat):Int)=((l.length:Nat):Int))
  cases h1:(decide ((((l.length:Nat):Int):Int)<((n:Nat):Int))) with
  | false=>
   have bF:=of_decide_eq_false h1
   refine aQ (y:=.sl 1 (0+(List.take (n) (ae l):List (List DV)).length)) (N':=[.bx 115 [.d (.ro 1 (List.drop (n) (ae l))),.d (.v (.bool false))],.rw 5 1 ([]++(List.take (n) (ae l)))]) ((by simp [ae])) ((by simp [mN,ae])) ?_
   exact aP mo tq hK rfl ak [(1,[(6,.b false),(13,.z (((l.length:Nat):Int))),(15,.b false)]),(4,[(5,.n2 (n) (0))]),(5,[(6,.n2 (0) (n))])] 2000 [0,1] r (by kernel_rfl) (U h0 (U aE (U h1 (U (aA ((n:Nat):Int)) (U ((by simp [ae];omega):(n)≤(ae l).length) (U (aA ((n:Nat):Int)) (U ((by simp [ae];omega):(n)≤(ae l).length) (U ((by simp [ae]):(0)=([]:List (List DV)).length) (U ((by first | (simp [ae];done) | (simp [ae];omega)):(2*((0)+(List.take (n) (ae l):List (List DV)).length)+192)*1≤281474976710656) (U ((by first | (simp [ae];done) | (simp [ae];omega)):(0)+(List.take (n) (ae l):List (List DV)).length<4611686018427387904) (U ((by first | exact IP _ _ | simp [bd,AV.one,bW,ae]):bd (List.take (n) (ae l))) trivial)))))))))))
  | true=>
   have bF:=of_decide_eq_true h1
   exact absurd bF (by omega)
 | true=>
  have aK:=of_decide_eq_true h0
  exact absurd aK (by omega)
theorem s7 (r:b4) (z:Int) (hl:r.1.length≤1048576):aq Tryz.prog 68 [.pt 0 0,.z z] (jS r.1 r.2) (.sl 1 (ae (au r.1 r.2 z)).length) (mN (az z r) (au r.1 r.2 z)):=by
 obtain ⟨l,b⟩:=r
 by_cases h:e9 l b z
 ·have e1:az z (l,b)=(l,true):=by unfold az dJ dR;simp only [if_pos h]
  have e2:au l b z=[]:=by unfold au;rw [if_pos h]
  rw [e1];show aq _ _ _ (jS l b) (.sl 1 (ae (au l b z)).length) (mN (l,true) (au l b z));rw [e2]
  cases b with
  | true=>exact Kc l z
  | false=>
   rcases h.resolve_left (by decide) with h1 | h1
   ·exact Kd l z h1
   ·obtain ⟨n,rfl⟩:=Int.eq_ofNat_of_zero_le (show 0≤z by omega)
    exact IQ l n (by omega)
 ·have e1:az z (l,b)=(l.drop z.toNat,false):=by unfold az dJ dR;simp only [if_neg h]
  have e2:au l b z=l.take z.toNat:=by unfold au;rw [if_neg h]
  rw [e1];show aq _ _ _ (jS l b) (.sl 1 (ae (au l b z)).length) (mN (l.drop z.toNat,false) (au l b z));rw [e2]
  unfold e9 at h
  obtain ⟨n,rfl⟩:=Int.eq_ofNat_of_zero_le (show 0≤z by omega)
  cases b with
  | true=>exact absurd (Or.inl rfl) h
  | false=>exact Ke l n (by omega) hl
def dW (n:Nat) (r:b4):Nat:=wN 8 (au r.1 r.2 n)
def dG (r:b4):Int:=if ct r.1 1=0 then -1 else ct r.1 1
def dU (r:b4):Nat:=wN 7 (au r.1 r.2 (dG r))
theorem Bj (l:List UInt8) (b:Bool) (z:Int):(au l b z).length≤l.length:=by unfold au;split;exact Nat.zero_le _;simp;omega
theorem Cq (k:Nat):∀ l:List UInt8,wN k l<2 ^ (k*l.length)
 | []=>by simp [wN]
 | c::r=>by
  have h:=Cq k r
  have hm:=Nat.mod_lt c.toNat (Nat.two_pow_pos k)
  have h2:=Nat.mul_le_mul_right (2 ^ k) (show wN k r+1≤2 ^ (k*r.length) by omega)
  rw [Nat.add_mul,Nat.one_mul,← Nat.pow_add] at h2
  rw [wN,List.length_cons,Nat.mul_add,Nat.mul_one];omega
theorem MZ {l:List UInt8} (h:l.length≤8):wN 8 l<18446744073709551616:=Nat.lt_of_lt_of_le (Cq 8 l) (Nat.le_trans (Nat.pow_le_pow_right (by decide) (show 8*l.length≤64 by omega)) (by decide))
set_option maxRecDepth 100000 in
theorem Cr (q:b4) (n:Nat) (hn:n≤8) (hl:q.1.length≤1048576):aq Tryz.prog 66 [.pt 0 0,.n n] [.bx 115 [.d (.ro 1 (ae q.1)),.d (.v (.bool (q.2)))]] (.u (dW n q)) (jS (az n q).1 (az n q).2):=by
 refine aq.intro (by kernel_rfl) rfl rfl 9 rfl rfl fun D w0 K bs ac wd hK (ak:bs.m=1) r=>?_
 refine aQ (y:=.u (wN 8 (au q.1 q.2 ((n:Nat):Int)))) (N':=[.bx 115 [.d (.ro 1 (ae (az ((n:Nat):Int) q).1)),.d (.v (.bool ((az ((n:Nat):Int) q).2)))]]) (rfl) (rfl) ?_
 exact aP mo tq hK rfl ak [(1,[(2,.mem [0] (.sl 1 ((ae (au q.1 q.2 ((n:Nat):Int))).length)) [.bx 115 [.d (.ro 1 (ae (az ((n:Nat):Int) q).1)),.d (.v (.bool ((az ((n:Nat):Int) q).2)))],.rw 5 1 (ae (au q.1 q.2 ((n:Nat):Int)))]),(3,.call [.d (.ro 1 (ae (au q.1 q.2 ((n:Nat):Int)))),.z 8] (.u (wN 8 (au q.1 q.2 ((n:Nat):Int)))))])] 2000 [0] r (by kernel_rfl) (U (s7 q ((n:Nat):Int) hl) (U (Kb (au q.1 q.2 ((n:Nat):Int)) (by have:=mj q.1 q.2 n;omega) (by exact MZ (by have:=mj q.1 q.2 n;omega))) (U ((fx _):eH (.u (wN 8 (au q.1 q.2 ((n:Nat):Int))))) (U (cR (1)) (U (cR ((ae (au q.1 q.2 ((n:Nat):Int))).length)) (U ((by exact ow _):cb (ae (au q.1 q.2 ((n:Nat):Int)))=ae (au q.1 q.2 ((n:Nat):Int))) (U (iq (.z 8)) trivial)))))))
theorem qp:∀ (l:List UInt8) (n:Nat),0<n→ct l n≠0→n≤ct l n∧ct l n≤10∧ct l n≤l.length+n-1∧wN 7 (l.take (ct l n+1-n))<2 ^ (64-7*(n-1))
 | [],n,_,h=>absurd rfl h
 | c::r,n,hn,h=>by
  unfold ct at h ⊢
  split at h
  ·exact absurd rfl h
  ·rename_i cX
   rw [if_neg cX]
   split at h
   ·rename_i hc
    rw [if_pos hc]
    split at h
    ·exact absurd rfl h
    ·rename_i h3
     rw [if_neg h3]
     refine ⟨Nat.le_refl _,by omega,by rw [List.length_cons];omega,?_⟩
     rw [show n+1-n=1 by omega]
     show 0*2 ^ 7+c.toNat%2 ^ 7<_
     rcases Nat.lt_or_ge n 10 with h9 | h9
     ·exact Nat.lt_of_lt_of_le (show 0*2 ^ 7+c.toNat%2 ^ 7<2 ^ 8 by omega) (Nat.pow_le_pow_right (by decide) (by omega))
     ·obtain rfl:n=10:=by omega
      have:c.toNat≤1:=by
       rcases Nat.lt_or_ge 1 c.toNat with h | h
       ·exact absurd (.inr ⟨rfl,h⟩) h3
       ·exact h
      show 0*2 ^ 7+c.toNat%2 ^ 7<2;omega
   ·rename_i hc
    rw [if_neg hc]
    obtain ⟨h1,h2,h3,h4⟩:=qp r (n+1) (by omega) h
    refine ⟨by omega,h2,by rw [List.length_cons];omega,?_⟩
    rw [show ct r (n+1)+1-n=(ct r (n+1)+1-(n+1))+1 by omega,List.take_succ_cons,wN]
    have hm:=Nat.mod_lt c.toNat (Nat.two_pow_pos 7)
    have e:64-7*(n-1)=(64-7*(n+1-1))+7:=by omega
    rw [e,Nat.pow_add]
    have:=Nat.mul_le_mul_right (2 ^ 7) h4
    rw [Nat.succ_mul] at this;omega
theorem Kf {l:List UInt8} (h:ct l 1≠0):wN 7 (l.take (ct l 1))<18446744073709551616:=(qp l 1 (by decide) h).2.2.2
theorem BU (q:b4):wN 7 (au q.1 q.2 (dG q))<18446744073709551616:=by
 unfold au
 split
 ·decide
 ·rename_i h
  unfold dG
  by_cases e:ct q.1 1=0
  ·exfalso;apply h;right;left;unfold dG;rw [if_pos e];decide
  ·rw [if_neg e];exact Kf e
set_option maxRecDepth 100000 in
theorem LX (q:b4) (hl:q.1.length≤1048576):aq Tryz.prog 67 [.pt 0 0] [.bx 115 [.d (.ro 1 (ae q.1)),.d (.v (.bool (q.2)))]] (.u (dU q)) (jS (az (dG q) q).1 (az (dG q) q).2):=by
 refine aq.intro (by kernel_rfl) rfl rfl 12 rfl rfl fun D w0 K bs ac wd hK (ak:bs.m=1) r=>?_
 cases h0:((((ct q.1 1:Nat):Int):Int)==0) with
 | false=>
  have aK:=ne_of_beq_false h0
  refine aQ (y:=.u (wN 7 (au q.1 q.2 (dG q)))) (N':=[.bx 115 [.d (.ro 1 (ae (az (dG q) q).1)),.d (.v (.bool ((az (dG q) q).2)))]]) (rfl) (rfl) ?_
  exact aP mo tq hK rfl ak [(1,[(1,.mem [0] (.n (ct q.1 1)) [.bx 115 [.d (.ro 1 (ae q.1)),.d (.v (.bool (q.2)))]])]),(2,[(1,.b false)]),(4,[(2,.mem [0] (.sl 1 ((ae (au q.1 q.2 (dG q))).length)) [.bx 115 [.d (.ro 1 (ae (az (dG q) q).1)),.d (.v (.bool ((az (dG q) q).2)))],.rw 5 1 (ae (au q.1 q.2 (dG q)))]),(3,.call [.d (.ro 1 (ae (au q.1 q.2 (dG q)))),.z 7] (.u (wN 7 (au q.1 q.2 (dG q)))))])] 2000 [0] r (by kernel_rfl) (U (AF q.1 q.2 hl) (U h0 (U ((by have h:=s7 q (dG q) hl;rw [show dG q=((ct q.1 1:Nat):Int) by unfold dG;rw [if_neg (by omega)]] at h ⊢;exact h):aq Tryz.prog 68 [.pt 0 0,.n (ct q.1 1)] [.bx 115 [.d (.ro 1 (ae q.1)),.d (.v (.bool (q.2)))]] (.sl 1 ((ae (au q.1 q.2 (dG q))).length)) [.bx 115 [.d (.ro 1 (ae (az (dG q) q).1)),.d (.v (.bool ((az (dG q) q).2)))],.rw 5 1 (ae (au q.1 q.2 (dG q)))]) (U (BT (au q.1 q.2 (dG q)) (by have:=Bj q.1 q.2 (dG q);omega) (by exact BU q)) (U ((fx _):eH (.u (wN 7 (au q.1 q.2 (dG q))))) (U (cR (1)) (U (cR ((ae (au q.1 q.2 (dG q))).length)) (U ((by exact ow _):cb (ae (au q.1 q.2 (dG q)))=ae (au q.1 q.2 (dG q))) (U (iq (.z 7)) trivial)))))))))
 | true=>
  have aK:=eq_of_beq h0
  refine aQ (y:=.u (wN 7 (au q.1 q.2 (dG q)))) (N':=[.bx 115 [.d (.ro 1 (ae (az (dG q) q).1)),.d (.v (.bool ((az (dG q) q).2)))]]) (rfl) (rfl) ?_
  exact aP mo tq hK rfl ak [(1,[(1,.mem [0] (.n (ct q.1 1)) [.bx 115 [.d (.ro 1 (ae q.1)),.d (.v (.bool (q.2)))]])]),(2,[(1,.b true)]),(4,[(2,.mem [0] (.sl 1 ((ae (au q.1 q.2 (dG q))).length)) [.bx 115 [.d (.ro 1 (ae (az (dG q) q).1)),.d (.v (.bool ((az (dG q) q).2)))],.rw 5 1 (ae (au q.1 q.2 (dG q)))]),(3,.call [.d (.ro 1 (ae (au q.1 q.2 (dG q)))),.z 7] (.u (wN 7 (au q.1 q.2 (dG q)))))])] 2000 [0] r (by kernel_rfl) (U (AF q.1 q.2 hl) (U h0 (U ((by have h:=s7 q (dG q) hl;rw [show dG q=(-1:Int) by unfold dG;rw [if_pos (by omega)]] at h ⊢;exact h):aq Tryz.prog 68 [.pt 0 0,.z (-1)] [.bx 115 [.d (.ro 1 (ae q.1)),.d (.v (.bool (q.2)))]] (.sl 1 ((ae (au q.1 q.2 (dG q))).length)) [.bx 115 [.d (.ro 1 (ae (az (dG q) q).1)),.d (.v (.bool ((az (dG q) q).2)))],.rw 5 1 (ae (au q.1 q.2 (dG q)))]) (U (BT (au q.1 q.2 (dG q)) (by have:=Bj q.1 q.2 (dG q);omega) (by exact BU q)) (U ((fx _):eH (.u (wN 7 (au q.1 q.2 (dG q))))) (U (cR (1)) (U (cR ((ae (au q.1 q.2 (dG q))).length)) (U ((by exact ow _):cb (ae (au q.1 q.2 (dG q)))=ae (au q.1 q.2 (dG q))) (U (iq (.z 7)) trivial)))))))))
end Go.Proofs.YtcnpikbbmbombaaGreatDoor
