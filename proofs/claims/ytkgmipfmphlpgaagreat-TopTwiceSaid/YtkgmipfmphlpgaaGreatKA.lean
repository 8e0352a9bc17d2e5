/- A part of the proof of TopTwice. No condition but each statement's own. -/
import Derived.Test.YtkgmipfmphlpgaaGreatProg
import Derived.Test.YtkgmipfmphlpgaaGreatK00
open Go Go.RowKit Go.Proofs
set_option linter.all false
set_option maxRecDepth 100000
set_option maxHeartbeats 20000000
namespace Hk
def Z (x:BitVec 64):Int:=x.toInt
def N3 (x:BitVec 32):Int:=x.toNat
def Z3 (x:BitVec 32):Int:=x.toInt
theorem Q4f (i:Int):IntKind.i64.wrap i=Z (BitVec.ofInt 64 i):=by
 rw[show IntKind.i64.wrap i=(if 9223372036854775808≤i % 18446744073709551616 then i % 18446744073709551616 - 18446744073709551616 else i % 18446744073709551616) from Ygi];unfold Z;rw[BitVec.toInt_ofInt,Int.bmod_def];split<;>split<;>omega
theorem Q4g (i:Int):IntKind.i32.wrap i=Z3 (BitVec.ofInt 32 i):=by
 rw[show IntKind.i32.wrap i=(if 2147483648≤i % 4294967296 then i % 4294967296 - 4294967296 else i % 4294967296) from Ygi];unfold Z3;rw[BitVec.toInt_ofInt,Int.bmod_def];split<;>split<;>omega
theorem Q4e (i:Int):IntKind.u32.wrap i=N3 (BitVec.ofInt 32 i):=by
 rw[show IntKind.u32.wrap i=i % 4294967296 from Ygi];unfold N3;rw[BitVec.toNat_ofInt];omega
theorem Qbu (x:BitVec 64):BitVec.ofInt 64 (Z x)=x:=BitVec.ofInt_toInt
theorem Qql (x:BitVec 32):BitVec.ofInt 32 (N3 x)=x:=by
 unfold N3;rw[BitVec.ofInt_natCast,BitVec.ofNat_toNat,BitVec.setWidth_eq]
theorem Q3b (x:BitVec 64):BitVec.ofInt 32 (N x)=x.setWidth 32:=by
 unfold N;rw[BitVec.ofInt_natCast,BitVec.ofNat_toNat]
theorem Q5g (x:BitVec 32):BitVec.ofInt 64 (Z3 x)=x.signExtend 64:=rfl
theorem Q5h (x:BitVec 32):BitVec.ofInt 64 (N3 x)=x.setWidth 64:=by
 unfold N3;rw[BitVec.ofInt_natCast,BitVec.ofNat_toNat]
section
variable (x y : BitVec 64) (p q : BitVec 32)
@[go_sem ↓] theorem Q194:Conv.intToInt .i64 (N x)=pure (.int .i64 (Z x)):=by rw[Conv.intToInt,Q4f,Q81]
@[go_sem ↓] theorem Q192:Conv.intToInt .u64 (Z x)=pure (.int .u64 (N x)):=by rw[Conv.intToInt,Q3m,Qbu]
@[go_sem ↓] theorem Q195:Conv.intToInt .i32 (N x)=pure (.int .i32 (Z3 (x.setWidth 32))):=by rw[Conv.intToInt,Q4g,Q3b]
@[go_sem ↓] theorem Q193:Conv.intToInt .u32 (N x)=pure (.int .u32 (N3 (x.setWidth 32))):=by rw[Conv.intToInt,Q4e,Q3b]
@[go_sem ↓] theorem Q11k:Conv.intToInt .u64 (Z3 p)=pure (.int .u64 (N (p.signExtend 64))):=by rw[Conv.intToInt,Q3m,Q5g]
@[go_sem ↓] theorem Q11j:Conv.intToInt .u64 (N3 p)=pure (.int .u64 (N (p.setWidth 64))):=by rw[Conv.intToInt,Q3m,Q5h]
@[go_sem] theorem Q19v:wrap64 (N x)=Z x:=by rw[← IntWalk.i64_left,Q4f,Q81]
@[go_sem] theorem Q19w:wrap32 (N x)=Z3 (x.setWidth 32):=by rw[← IntWalk.i32_left,Q4g,Q3b]
@[go_sem] theorem Q1a8:N x % 4294967296=N3 (x.setWidth 32):=by rw[← IntKind.wrap_u32,Q4e,Q3b]
@[go_sem] theorem Q1a7:Z x % 18446744073709551616=N x:=by rw[← IntKind.wrap_u64,Q3m,Qbu]
@[go_sem] theorem Q18s:Z3 p % 18446744073709551616=N (p.signExtend 64):=by rw[← IntKind.wrap_u64,Q3m,Q5g]
@[go_sem] theorem Q18t:N3 p % 18446744073709551616=N (p.setWidth 64):=by rw[← IntKind.wrap_u64,Q3m,Q5h]
@[go_sem] theorem Q1al:IntKind.u64.wrap (N3 p)=N (p.setWidth 64):=by rw[Q3m,Q5h]
@[go_sem] theorem w_Z:IntKind.u64.wrap (Z x)=N x:=by rw[Q3m,Qbu]
@[go_sem] theorem Q1ak:IntKind.u64.wrap (Z3 p)=N (p.signExtend 64):=by rw[Q3m,Q5g]
@[go_sem] theorem Q16l:IntKind.i64.wrap (N x)=Z x:=by rw[Q4f,Q81]
@[go_sem] theorem Q16m:IntKind.i32.wrap (N x)=Z3 (x.setWidth 32):=by rw[Q4g,Q3b]
@[go_sem] theorem Q16k:IntKind.u32.wrap (N x)=N3 (x.setWidth 32):=by rw[Q4e,Q3b]
theorem Q158:Z x=Z y ↔ x=y:=BitVec.toInt_inj
theorem Qvc:Z3 p=Z3 q ↔ p=q:=BitVec.toInt_inj
theorem Qvg:N3 p=N3 q ↔ p=q:=by unfold N3;rw[Int.natCast_inj];exact BitVec.toNat_inj
@[go_sem] theorem Q17y:(Z x==Z y)=(x==y):=by rw[Bool.eq_iff_iff,beq_iff_eq,beq_iff_eq];exact Q158 x y
@[go_sem] theorem Q15a:(Z3 p==Z3 q)=(p==q):=by rw[Bool.eq_iff_iff,beq_iff_eq,beq_iff_eq];exact Qvc p q
@[go_sem] theorem Q15q:(N3 p==N3 q)=(p==q):=by rw[Bool.eq_iff_iff,beq_iff_eq,beq_iff_eq];exact Qvg p q
@[go_sem] theorem Q19d:(Z x==0)=(x==0#64):=by rw[← Q17y];rfl
@[go_sem] theorem Q17z:(Z3 p==0)=(p==0#32):=by rw[← Q15a];rfl
@[go_sem] theorem Q189:(N3 p==0)=(p==0#32):=by rw[← Q15q];rfl
theorem Q19c (h:y≠0#64):¬ Z y=0:=fun e=>h ((Q158 y 0#64).1 Y1c)
theorem Q159 (h:q≠0#32):¬ Z3 q=0:=fun e=>h ((Qvc q 0#32).1 Y1c)
theorem Q15p (h:q≠0#32):¬ N3 q=0:=fun e=>h ((Qvg q 0#32).1 Y1c)
@[go_sem ↓] theorem Q1aj (h:y≠0#64):Op.intDiv .quo .i64 (Z x) (Z y)=pure (.int .i64 (Z (x.sdiv y))):=by
 simp only[Op.intDiv,Q19c y h,if_false,Q4f]
 have:BitVec.ofInt 64 ((Z x).tdiv (Z y))=x.sdiv y:=by
  exact Ysm
 rw[this]
@[go_sem ↓] theorem Q1ai (h:y≠0#64):Op.intDiv .rem .i64 (Z x) (Z y)=pure (.int .i64 (Z (x.srem y))):=by
 simp only[Op.intDiv,Q19c y h,if_false];unfold Z;rw[BitVec.toInt_srem]
@[go_sem ↓] theorem Q19f (h:q≠0#32):Op.intDiv .quo .i32 (Z3 p) (Z3 q)=pure (.int .i32 (Z3 (p.sdiv q))):=by
 simp only[Op.intDiv,Q159 q h,if_false,Q4g]
 have:BitVec.ofInt 32 ((Z3 p).tdiv (Z3 q))=p.sdiv q:=by
  exact Ysm
 rw[this]
@[go_sem ↓] theorem Q19e (h:q≠0#32):Op.intDiv .rem .i32 (Z3 p) (Z3 q)=pure (.int .i32 (Z3 (p.srem q))):=by
 simp only[Op.intDiv,Q159 q h,if_false];unfold Z3;rw[BitVec.toInt_srem]
@[go_sem ↓] theorem Q19r (h:q≠0#32):Op.intDiv .quo .u32 (N3 p) (N3 q)=pure (.int .u32 (N3 (p / q))):=by
 simp only[Op.intDiv,Q15p q h,if_false,Q4e]
 have:BitVec.ofInt 32 ((N3 p).tdiv (N3 q))=p / q:=by
  rw[← Qql (p / q)];rw[show (N3 p).tdiv (N3 q)=N3 (p / q) from by unfold N3;rw[BitVec.toNat_udiv,← Int.ofNat_tdiv]]
 rw[this]
@[go_sem ↓] theorem Q19q (h:q≠0#32):Op.intDiv .rem .u32 (N3 p) (N3 q)=pure (.int .u32 (N3 (p % q))):=by
 simp only[Op.intDiv,Q15p q h,if_false];unfold N3;rw[BitVec.toNat_umod,← Int.ofNat_tmod]
theorem Qdn (i:Int)(k:Nat):i.fdiv (2 ^ k)=i >>> k:=by
 have hp:(2:Int) ^ k=((2 ^ k:Nat):Int):=Yeh;rw[hp,Int.fdiv_eq_ediv_of_nonneg _ (Int.natCast_nonneg _),Int.shiftRight_eq_div_pow]
theorem Qd7 {w:Nat}(z:BitVec w)(k:Nat):z.sshiftRight (min k w)=z.sshiftRight k:=by
 rcases Nat.le_total k w with h|h
 · rw[Nat.min_eq_left h]
 · rw[Nat.min_eq_right h]
   apply BitVec.eq_of_getLsbD_eq;intro i hi;rw[BitVec.getLsbD_sshiftRight,BitVec.getLsbD_sshiftRight];simp only[show ¬ w+i<w from Y1,show ¬ k+i<w from Y1,if_false]
@[go_sem ↓] theorem Q17x (yk:IntKind)(k:Int)(h:0≤k):Op.shift .shr .i64 (Z x) yk k=pure (.int .i64 (Z (x.sshiftRight k.toNat))):=by
 simp only[Op.shift,show ¬ k<0 from Y1,if_false,IntKind.bits];rw[← Qd7,Qdn];unfold Z;rw[BitVec.toInt_sshiftRight]
@[go_sem ↓] theorem Q17w (yk:IntKind):Op.shift .shr .i64 (Z x) yk (N y)=pure (.int .i64 (Z (x.sshiftRight y.toNat))):=by
 rw[Q17x x yk (N y) (Q2i y)];unfold N;rw[Int.toNat_natCast]
@[go_sem ↓] theorem Q167 (yk:IntKind):Op.shift .shr .i32 (Z3 p) yk (N y)=pure (.int .i32 (Z3 (p.sshiftRight y.toNat))):=by
 have h:=Q2i y;simp only[Op.shift,show ¬ N y<0 from Y1,if_false,IntKind.bits];rw[show (N y).toNat=y.toNat by unfold N;rw[Int.toNat_natCast],← Qd7,Qdn];unfold Z3;rw[BitVec.toInt_sshiftRight]
@[go_sem ↓] theorem Q16g (yk:IntKind):Op.shift .shr .u32 (N3 p) yk (N y)=pure (.int .u32 (N3 (p >>> y.toNat))):=by
 have h:=Q2i y;simp only[Op.shift,show ¬ N y<0 from Y1,if_false,IntKind.bits];rw[show (N y).toNat=y.toNat by unfold N;rw[Int.toNat_natCast]];have hp:(2:Int) ^ (min y.toNat 32)=((2 ^ (min y.toNat 32):Nat):Int):=Yeh;rw[hp,Int.fdiv_eq_ediv_of_nonneg _ (Int.natCast_nonneg _)];unfold N3;rw[BitVec.toNat_ushiftRight,Nat.shiftRight_eq_div_pow,← Int.natCast_ediv]
 rw[show p.toNat / 2 ^ (min y.toNat 32)=p.toNat / 2 ^ y.toNat from by
  rcases Nat.le_total y.toNat 32 with h|h
  · rw[Nat.min_eq_left h]
  · rw[Nat.min_eq_right h,Nat.div_eq_of_lt p.isLt]
    exact (Nat.div_eq_of_lt (Nat.lt_of_lt_of_le p.isLt (Nat.pow_le_pow_right Y1 h))).symm]
end
end Hk
namespace Hk
theorem Qsb (x y:BitVec 64)(h:(y==0#64)=true)(l:Bool)(w:World):Calls Tryz.prog 195 #[.int .i64 (Z x),.int .i64 (Z y),.bool l] w (RW.a w (.int .i64 (Z (if l then x else 0#64)))):=by
 exact Yre
theorem Qs7 (x y:BitVec 64)(h:(y==0#64)=false)(l:Bool)(w:World):Calls Tryz.prog 195 #[.int .i64 (Z x),.int .i64 (Z y),.bool l] w (RW.a w (.int .i64 (Z (if l then (x.srem y) else (x.sdiv y))))):=by
 have hy:y≠0#64:=Y5;exact Yre
theorem Qs9 (x y:BitVec 64)(h:(y==0#64)=true)(l:Bool)(w:World):Calls Tryz.prog 196 #[.int .u64 (N x),.int .u64 (N y),.bool l] w (RW.a w (.int .u64 (N (if l then x else 0#64)))):=by
 exact Yrf
theorem Qs5 (x y:BitVec 64)(h:(y==0#64)=false)(l:Bool)(w:World):Calls Tryz.prog 196 #[.int .u64 (N x),.int .u64 (N y),.bool l] w (RW.a w (.int .u64 (N (if l then (x % y) else (x / y))))):=by
 have hy:y≠0#64:=Y5;exact Yrf
theorem Qsc (x y:BitVec 32)(h:(y==0#32)=true)(l:Bool)(w:World):Calls Tryz.prog 197 #[.int .i32 (Z3 x),.int .i32 (Z3 y),.bool l] w (RW.a w (.int .i32 (Z3 (if l then x else 0#32)))):=by
 exact Yrg
theorem Qs8 (x y:BitVec 32)(h:(y==0#32)=false)(l:Bool)(w:World):Calls Tryz.prog 197 #[.int .i32 (Z3 x),.int .i32 (Z3 y),.bool l] w (RW.a w (.int .i32 (Z3 (if l then (x.srem y) else (x.sdiv y))))):=by
 have hy:y≠0#32:=Y5;exact Yrg
theorem Qsa (x y:BitVec 32)(h:(y==0#32)=true)(l:Bool)(w:World):Calls Tryz.prog 198 #[.int .u32 (N3 x),.int .u32 (N3 y),.bool l] w (RW.a w (.int .u32 (N3 (if l then x else 0#32)))):=by
 exact Yrh
theorem Qs6 (x y:BitVec 32)(h:(y==0#32)=false)(l:Bool)(w:World):Calls Tryz.prog 198 #[.int .u32 (N3 x),.int .u32 (N3 y),.bool l] w (RW.a w (.int .u32 (N3 (if l then (x % y) else (x / y))))):=by
 have hy:y≠0#32:=Y5;exact Yrh
theorem Qzc (x y:BitVec 64)(l:Bool)(w:World):Calls Tryz.prog 195 #[.int .i64 (Z x),.int .i64 (Z y),.bool l] w (RW.a w (.int .i64 (Z (if l then (x.srem y) else (x.sdiv y))))):=by
 cases h:(y==0#64)
 · exact Qs7 x y h l w
 · have e:y=0#64:=by simpa using h
   subst e;have:=Qsb x 0#64 h l w;exact Yrw
theorem Qza (x y:BitVec 64)(l:Bool)(w:World):Calls Tryz.prog 196 #[.int .u64 (N x),.int .u64 (N y),.bool l] w (RW.a w (.int .u64 (N (if l then (x % y) else (x / y))))):=by
 cases h:(y==0#64)
 · exact Qs5 x y h l w
 · have e:y=0#64:=by simpa using h
   subst e;have:=Qs9 x 0#64 h l w;exact Yrw
theorem Qzd (x y:BitVec 32)(l:Bool)(w:World):Calls Tryz.prog 197 #[.int .i32 (Z3 x),.int .i32 (Z3 y),.bool l] w (RW.a w (.int .i32 (Z3 (if l then (x.srem y) else (x.sdiv y))))):=by
 cases h:(y==0#32)
 · exact Qs8 x y h l w
 · have e:y=0#32:=by simpa using h
   subst e;have:=Qsc x 0#32 h l w;exact Yrx
theorem Qzb (x y:BitVec 32)(l:Bool)(w:World):Calls Tryz.prog 198 #[.int .u32 (N3 x),.int .u32 (N3 y),.bool l] w (RW.a w (.int .u32 (N3 (if l then (x % y) else (x / y))))):=by
 cases h:(y==0#32)
 · exact Qs6 x y h l w
 · have e:y=0#32:=by simpa using h
   subst e;have:=Qsa x 0#32 h l w;exact Yrx
end Hk
namespace Hk
theorem Qfc (a b:BitVec 64)(w:World):Calls Tryz.prog 177 #[.int .u8 0,.int .u64 (N a),.int .u64 (N b)] w (RW.a w (.tuple #[.int .u64 (N (a+b)),.bool true])):=by
 exact Ysp
theorem Qf8 (a b:BitVec 64)(w:World):Calls Tryz.prog 177 #[.int .u8 16,.int .u64 (N a),.int .u64 (N b)] w (RW.a w (.tuple #[.int .u64 (N (a - b)),.bool true])):=by
 exact Ysp
theorem Qfa (a b:BitVec 64)(w:World):Calls Tryz.prog 177 #[.int .u8 32,.int .u64 (N a),.int .u64 (N b)] w (RW.a w (.tuple #[.int .u64 (N (a*b)),.bool true])):=by
 exact Ysp
theorem Qim (a b:BitVec 64)(w:World):Calls Tryz.prog 177 #[.int .u8 64,.int .u64 (N a),.int .u64 (N b)] w (RW.a w (.tuple #[.int .u64 (N (a ||| b)),.bool true])):=by
 exact Ysp
theorem Qfb (a b:BitVec 64)(w:World):Calls Tryz.prog 177 #[.int .u8 80,.int .u64 (N a),.int .u64 (N b)] w (RW.a w (.tuple #[.int .u64 (N (a &&& b)),.bool true])):=by
 exact Ysp
theorem Qf7 (a b:BitVec 64)(w:World):Calls Tryz.prog 177 #[.int .u8 160,.int .u64 (N a),.int .u64 (N b)] w (RW.a w (.tuple #[.int .u64 (N (a ^^^ b)),.bool true])):=by
 exact Ysp
theorem Qf9 (a b:BitVec 64)(w:World):Calls Tryz.prog 177 #[.int .u8 128,.int .u64 (N a),.int .u64 (N b)] w (RW.a w (.tuple #[.int .u64 (N (-a)),.bool true])):=by
 exact Ysp
theorem Q7f (a b:BitVec 64)(w:World):Calls Tryz.prog 177 #[.int .u8 176,.int .u64 (N a),.int .u64 (N b)] w (RW.a w (.tuple #[.int .u64 (N b),.bool true])):=by
 exact Ysp
theorem Qw (op:Int)(s0:¬ op=0)(s16:¬ op=16)(s32:¬ op=32)(s64:¬ op=64)(s80:¬ op=80)(s160:¬ op=160)(s128:¬ op=128)(s176:¬ op=176)(a b:BitVec 64)(w:World):Calls Tryz.prog 177 #[.int .u8 op,.int .u64 (N a),.int .u64 (N b)] w (RW.a w (.tuple #[.int .u64 (N 0#64),.bool false])):=by
 exact Ysp
theorem Q6l (a b:BitVec 64)(w:World):Calls Tryz.prog 178 #[.int .u8 96,.bool (true),.int .u64 (N a),.int .u64 (N b)] w (RW.a w (.tuple #[.int .u64 (N (a <<< (b &&& 63#64).toNat)),.bool true])):=by
 exact Ysq
theorem Q6n (a b:BitVec 64)(w:World):Calls Tryz.prog 178 #[.int .u8 96,.bool (false),.int .u64 (N a),.int .u64 (N b)] w (RW.a w (.tuple #[.int .u64 (N (a <<< (b &&& 31#64).toNat)),.bool true])):=by
 exact Ysq
theorem Q6k (a b:BitVec 64)(w:World):Calls Tryz.prog 178 #[.int .u8 112,.bool (true),.int .u64 (N a),.int .u64 (N b)] w (RW.a w (.tuple #[.int .u64 (N (a >>> (b &&& 63#64).toNat)),.bool true])):=by
 exact Ysq
theorem Q6m (a b:BitVec 64)(w:World):Calls Tryz.prog 178 #[.int .u8 112,.bool (false),.int .u64 (N a),.int .u64 (N b)] w (RW.a w (.tuple #[.int .u64 (N ((a.setWidth 32 >>> (b &&& 31#64).toNat).setWidth 64)),.bool true])):=by
 exact Ysq
theorem Q5q (a b:BitVec 64)(w:World):Calls Tryz.prog 178 #[.int .u8 192,.bool (true),.int .u64 (N a),.int .u64 (N b)] w (RW.a w (.tuple #[.int .u64 (N (a.sshiftRight (b &&& 63#64).toNat)),.bool true])):=by
 exact Ysq
theorem Q5r (a b:BitVec 64)(w:World):Calls Tryz.prog 178 #[.int .u8 192,.bool (false),.int .u64 (N a),.int .u64 (N b)] w (RW.a w (.tuple #[.int .u64 (N (((a.setWidth 32).sshiftRight (b &&& 31#64).toNat).signExtend 64)),.bool true])):=by
 exact Ysq
theorem Q1u (op:Int)(m96:¬ op=96)(m112:¬ op=112)(m192:¬ op=192)(wd:Bool)(a b:BitVec 64)(w:World):Calls Tryz.prog 178 #[.int .u8 op,.bool (wd),.int .u64 (N a),.int .u64 (N b)] w (RW.a w (.tuple #[.int .u64 (N 0#64),.bool false])):=by
 cases wd
 all_goals
  go_enter Tryz.func178,Tryz.ntmps178;go_wp2;go_ret2;exact⟨rfl,rfl⟩
theorem Qc4 (a b:BitVec 64)(w:World):Calls Tryz.prog 179 #[.bool (true),.bool (true),.bool (true),.int .u64 (N a),.int .u64 (N b)] w (RW.a w (.int .u64 (N (a.srem b)))):=by
 exact Yro
theorem Qc5 (a b:BitVec 64)(w:World):Calls Tryz.prog 179 #[.bool (true),.bool (true),.bool (false),.int .u64 (N a),.int .u64 (N b)] w (RW.a w (.int .u64 (N (a.sdiv b)))):=by
 exact Yro
theorem Qc6 (a b:BitVec 64)(w:World):Calls Tryz.prog 179 #[.bool (true),.bool (false),.bool (true),.int .u64 (N a),.int .u64 (N b)] w (RW.a w (.int .u64 (N (a % b)))):=by
 exact Yro
theorem Qc7 (a b:BitVec 64)(w:World):Calls Tryz.prog 179 #[.bool (true),.bool (false),.bool (false),.int .u64 (N a),.int .u64 (N b)] w (RW.a w (.int .u64 (N (a / b)))):=by
 exact Yro
theorem Qc8 (a b:BitVec 64)(w:World):Calls Tryz.prog 179 #[.bool (false),.bool (true),.bool (true),.int .u64 (N a),.int .u64 (N b)] w (RW.a w (.int .u64 (N (((a.setWidth 32).srem (b.setWidth 32)).signExtend 64)))):=by
 exact Yro
theorem Qc9 (a b:BitVec 64)(w:World):Calls Tryz.prog 179 #[.bool (false),.bool (true),.bool (false),.int .u64 (N a),.int .u64 (N b)] w (RW.a w (.int .u64 (N (((a.setWidth 32).sdiv (b.setWidth 32)).signExtend 64)))):=by
 exact Yro
theorem Qca (a b:BitVec 64)(w:World):Calls Tryz.prog 179 #[.bool (false),.bool (false),.bool (true),.int .u64 (N a),.int .u64 (N b)] w (RW.a w (.int .u64 (N (((a.setWidth 32) % (b.setWidth 32)).setWidth 64)))):=by
 exact Yro
theorem Qcb (a b:BitVec 64)(w:World):Calls Tryz.prog 179 #[.bool (false),.bool (false),.bool (false),.int .u64 (N a),.int .u64 (N b)] w (RW.a w (.int .u64 (N (((a.setWidth 32) / (b.setWidth 32)).setWidth 64)))):=by
 exact Yro
end Hk
namespace Hk
theorem Qwy (a:BitVec 64)(k:Int)(h:k<1)(w:World):Calls Tryz.prog 122 #[.int .u64 (N a),.int .i64 k] w (RW.a w (.int .u64 (N (Alu.sgn a k)))):=by
 rw[Alu.sgn_out (.inl h)];go_enter Tryz.func122,Tryz.ntmps122;go_wp2;go_ret;exact⟨rfl,rfl⟩
theorem Qwx (a:BitVec 64)(k:Int)(h:64<k)(w:World):Calls Tryz.prog 122 #[.int .u64 (N a),.int .i64 k] w (RW.a w (.int .u64 (N (Alu.sgn a k)))):=by
 rw[Alu.sgn_out (.inr h)];have h1:¬ k<1:=Y1;go_enter Tryz.func122,Tryz.ntmps122;go_wp2;go_ret;exact⟨rfl,rfl⟩
theorem Qwz (a:BitVec 64)(k:Int)(h0:1≤k)(h1:k≤64)(w:World):Calls Tryz.prog 122 #[.int .u64 (N a),.int .i64 k] w (RW.a w (.int .u64 (N (Alu.sgn a k)))):=by
 rw[Alu.sgn_in h0 h1];have h2:¬ k<1:=Y1;have h3:¬ 64<k:=Y1;have h4:0≤64 - k:=Y1;have h5:wrap64 (64 - k)=64 - k:=by unfold wrap64;omega
 go_enter Tryz.func122,Tryz.ntmps122;go_wp2;go_ret;exact⟨rfl,rfl⟩
theorem Qin (a:BitVec 64)(k:Int)(w:World):Calls Tryz.prog 122 #[.int .u64 (N a),.int .i64 k] w (RW.a w (.int .u64 (N (Alu.sgn a k)))):=by
 by_cases h0:k<1
 · exact Qwy a k h0 w
 by_cases h1:64<k
 · exact Qwx a k h1 w
 exact Qwz a k Y1 Y1 w
end Hk
namespace Hk
theorem Qlu (a b:BitVec 64)(w:World):Calls Tryz.prog 149 #[.int .u8 0,.bool true,.int .i16 0,.int .u64 (N a),.int .u64 (N b)] w (RW.a w (.tuple #[.int .u64 (N (Alu.val (Alu.go (0) true (0) a b))),.int .i64 (Alu.err (Alu.go (0) true (0) a b))])):=by
 rw[show Alu.go 0 true 0 a b=some (a+b) from rfl];simp only[Alu.val_some,Alu.err_some,Alu.val_none,Alu.err_none];exact Yoc
theorem Qmg (a b:BitVec 64)(w:World):Calls Tryz.prog 149 #[.int .u8 0,.bool false,.int .i16 0,.int .u64 (N a),.int .u64 (N b)] w (RW.a w (.tuple #[.int .u64 (N (Alu.val (Alu.go (0) false (0) a b))),.int .i64 (Alu.err (Alu.go (0) false (0) a b))])):=by
 rw[Alu.nn_add a b];simp only[Alu.val_some,Alu.err_some,Alu.val_none,Alu.err_none];exact Yoc
theorem Qm4 (wd:Bool)(off:Int)(h:¬ off=0)(a b:BitVec 64)(w:World):Calls Tryz.prog 149 #[.int .u8 0,.bool wd,.int .i16 off,.int .u64 (N a),.int .u64 (N b)] w (RW.a w (.tuple #[.int .u64 (N (Alu.val (Alu.go (0) wd (off) a b))),.int .i64 (Alu.err (Alu.go (0) wd (off) a b))])):=by
 rw[Alu.go_off a b 0 wd off h Y0 Y0 Y0];simp only[Alu.val_some,Alu.err_some,Alu.val_none,Alu.err_none];refine Yvd ?_;intro b0 d0;cases wd
 all_goals
  go_enter Tryz.func149,Tryz.ntmps149;go_wp2_with (go_at_call 177;refine Y4z ?_);go_ret2
  first|exact⟨rfl,rfl⟩|exact⟨by simp,rfl⟩
theorem Qlj (a b:BitVec 64)(w:World):Calls Tryz.prog 149 #[.int .u8 16,.bool true,.int .i16 0,.int .u64 (N a),.int .u64 (N b)] w (RW.a w (.tuple #[.int .u64 (N (Alu.val (Alu.go (16) true (0) a b))),.int .i64 (Alu.err (Alu.go (16) true (0) a b))])):=by
 rw[show Alu.go 16 true 0 a b=some (a - b) from rfl];simp only[Alu.val_some,Alu.err_some,Alu.val_none,Alu.err_none];exact Yod
theorem Qm6 (a b:BitVec 64)(w:World):Calls Tryz.prog 149 #[.int .u8 16,.bool false,.int .i16 0,.int .u64 (N a),.int .u64 (N b)] w (RW.a w (.tuple #[.int .u64 (N (Alu.val (Alu.go (16) false (0) a b))),.int .i64 (Alu.err (Alu.go (16) false (0) a b))])):=by
 rw[Alu.nn_sub a b];simp only[Alu.val_some,Alu.err_some,Alu.val_none,Alu.err_none];exact Yod
theorem Qlw (wd:Bool)(off:Int)(h:¬ off=0)(a b:BitVec 64)(w:World):Calls Tryz.prog 149 #[.int .u8 16,.bool wd,.int .i16 off,.int .u64 (N a),.int .u64 (N b)] w (RW.a w (.tuple #[.int .u64 (N (Alu.val (Alu.go (16) wd (off) a b))),.int .i64 (Alu.err (Alu.go (16) wd (off) a b))])):=by
 rw[Alu.go_off a b 16 wd off h Y0 Y0 Y0];simp only[Alu.val_some,Alu.err_some,Alu.val_none,Alu.err_none];refine Yvd ?_;intro b0 d0;cases wd
 all_goals
  go_enter Tryz.func149,Tryz.ntmps149;go_wp2_with (go_at_call 177;refine Y50 ?_);go_ret2
  first|exact⟨rfl,rfl⟩|exact⟨by simp,rfl⟩
theorem Qlo (a b:BitVec 64)(w:World):Calls Tryz.prog 149 #[.int .u8 32,.bool true,.int .i16 0,.int .u64 (N a),.int .u64 (N b)] w (RW.a w (.tuple #[.int .u64 (N (Alu.val (Alu.go (32) true (0) a b))),.int .i64 (Alu.err (Alu.go (32) true (0) a b))])):=by
 rw[show Alu.go 32 true 0 a b=some (a*b) from rfl];simp only[Alu.val_some,Alu.err_some,Alu.val_none,Alu.err_none];exact Yoe
theorem Qma (a b:BitVec 64)(w:World):Calls Tryz.prog 149 #[.int .u8 32,.bool false,.int .i16 0,.int .u64 (N a),.int .u64 (N b)] w (RW.a w (.tuple #[.int .u64 (N (Alu.val (Alu.go (32) false (0) a b))),.int .i64 (Alu.err (Alu.go (32) false (0) a b))])):=by
 rw[Alu.nn_mul a b];simp only[Alu.val_some,Alu.err_some,Alu.val_none,Alu.err_none];exact Yoe
theorem Qlz (wd:Bool)(off:Int)(h:¬ off=0)(a b:BitVec 64)(w:World):Calls Tryz.prog 149 #[.int .u8 32,.bool wd,.int .i16 off,.int .u64 (N a),.int .u64 (N b)] w (RW.a w (.tuple #[.int .u64 (N (Alu.val (Alu.go (32) wd (off) a b))),.int .i64 (Alu.err (Alu.go (32) wd (off) a b))])):=by
 rw[Alu.go_off a b 32 wd off h Y0 Y0 Y0];simp only[Alu.val_some,Alu.err_some,Alu.val_none,Alu.err_none];refine Yvd ?_;intro b0 d0;cases wd
 all_goals
  go_enter Tryz.func149,Tryz.ntmps149;go_wp2_with (go_at_call 177;refine Y51 ?_);go_ret2
  first|exact⟨rfl,rfl⟩|exact⟨by simp,rfl⟩
theorem Qt6 (a b:BitVec 64)(w:World):Calls Tryz.prog 149 #[.int .u8 64,.bool true,.int .i16 0,.int .u64 (N a),.int .u64 (N b)] w (RW.a w (.tuple #[.int .u64 (N (Alu.val (Alu.go (64) true (0) a b))),.int .i64 (Alu.err (Alu.go (64) true (0) a b))])):=by
 rw[show Alu.go 64 true 0 a b=some (a ||| b) from rfl];simp only[Alu.val_some,Alu.err_some,Alu.val_none,Alu.err_none];exact Yof
theorem Qt9 (a b:BitVec 64)(w:World):Calls Tryz.prog 149 #[.int .u8 64,.bool false,.int .i16 0,.int .u64 (N a),.int .u64 (N b)] w (RW.a w (.tuple #[.int .u64 (N (Alu.val (Alu.go (64) false (0) a b))),.int .i64 (Alu.err (Alu.go (64) false (0) a b))])):=by
 rw[Alu.nn_or a b];simp only[Alu.val_some,Alu.err_some,Alu.val_none,Alu.err_none];exact Yof
theorem Qt7 (wd:Bool)(off:Int)(h:¬ off=0)(a b:BitVec 64)(w:World):Calls Tryz.prog 149 #[.int .u8 64,.bool wd,.int .i16 off,.int .u64 (N a),.int .u64 (N b)] w (RW.a w (.tuple #[.int .u64 (N (Alu.val (Alu.go (64) wd (off) a b))),.int .i64 (Alu.err (Alu.go (64) wd (off) a b))])):=by
 rw[Alu.go_off a b 64 wd off h Y0 Y0 Y0];simp only[Alu.val_some,Alu.err_some,Alu.val_none,Alu.err_none];refine Yvd ?_;intro b0 d0;cases wd
 all_goals
  go_enter Tryz.func149,Tryz.ntmps149;go_wp2_with (go_at_call 177;refine Y52 ?_);go_ret2
  first|exact⟨rfl,rfl⟩|exact⟨by simp,rfl⟩
theorem Qlt (a b:BitVec 64)(w:World):Calls Tryz.prog 149 #[.int .u8 80,.bool true,.int .i16 0,.int .u64 (N a),.int .u64 (N b)] w (RW.a w (.tuple #[.int .u64 (N (Alu.val (Alu.go (80) true (0) a b))),.int .i64 (Alu.err (Alu.go (80) true (0) a b))])):=by
 rw[show Alu.go 80 true 0 a b=some (a &&& b) from rfl];simp only[Alu.val_some,Alu.err_some,Alu.val_none,Alu.err_none];exact Yog
theorem Qmf (a b:BitVec 64)(w:World):Calls Tryz.prog 149 #[.int .u8 80,.bool false,.int .i16 0,.int .u64 (N a),.int .u64 (N b)] w (RW.a w (.tuple #[.int .u64 (N (Alu.val (Alu.go (80) false (0) a b))),.int .i64 (Alu.err (Alu.go (80) false (0) a b))])):=by
 rw[Alu.nn_and a b];simp only[Alu.val_some,Alu.err_some,Alu.val_none,Alu.err_none];exact Yog
theorem Qm3 (wd:Bool)(off:Int)(h:¬ off=0)(a b:BitVec 64)(w:World):Calls Tryz.prog 149 #[.int .u8 80,.bool wd,.int .i16 off,.int .u64 (N a),.int .u64 (N b)] w (RW.a w (.tuple #[.int .u64 (N (Alu.val (Alu.go (80) wd (off) a b))),.int .i64 (Alu.err (Alu.go (80) wd (off) a b))])):=by
 rw[Alu.go_off a b 80 wd off h Y0 Y0 Y0];simp only[Alu.val_some,Alu.err_some,Alu.val_none,Alu.err_none];refine Yvd ?_;intro b0 d0;cases wd
 all_goals
  go_enter Tryz.func149,Tryz.ntmps149;go_wp2_with (go_at_call 177;refine Y53 ?_);go_ret2
  first|exact⟨rfl,rfl⟩|exact⟨by simp,rfl⟩
theorem Qli (a b:BitVec 64)(w:World):Calls Tryz.prog 149 #[.int .u8 160,.bool true,.int .i16 0,.int .u64 (N a),.int .u64 (N b)] w (RW.a w (.tuple #[.int .u64 (N (Alu.val (Alu.go (160) true (0) a b))),.int .i64 (Alu.err (Alu.go (160) true (0) a b))])):=by
 rw[show Alu.go 160 true 0 a b=some (a ^^^ b) from rfl];simp only[Alu.val_some,Alu.err_some,Alu.val_none,Alu.err_none];exact Yoh
theorem Qm5 (a b:BitVec 64)(w:World):Calls Tryz.prog 149 #[.int .u8 160,.bool false,.int .i16 0,.int .u64 (N a),.int .u64 (N b)] w (RW.a w (.tuple #[.int .u64 (N (Alu.val (Alu.go (160) false (0) a b))),.int .i64 (Alu.err (Alu.go (160) false (0) a b))])):=by
 rw[Alu.nn_xor a b];simp only[Alu.val_some,Alu.err_some,Alu.val_none,Alu.err_none];exact Yoh
theorem Qlv (wd:Bool)(off:Int)(h:¬ off=0)(a b:BitVec 64)(w:World):Calls Tryz.prog 149 #[.int .u8 160,.bool wd,.int .i16 off,.int .u64 (N a),.int .u64 (N b)] w (RW.a w (.tuple #[.int .u64 (N (Alu.val (Alu.go (160) wd (off) a b))),.int .i64 (Alu.err (Alu.go (160) wd (off) a b))])):=by
 rw[Alu.go_off a b 160 wd off h Y0 Y0 Y0];simp only[Alu.val_some,Alu.err_some,Alu.val_none,Alu.err_none];refine Yvd ?_;intro b0 d0;cases wd
 all_goals
  go_enter Tryz.func149,Tryz.ntmps149;go_wp2_with (go_at_call 177;refine Y54 ?_);go_ret2
  first|exact⟨rfl,rfl⟩|exact⟨by simp,rfl⟩
theorem Qln (a b:BitVec 64)(w:World):Calls Tryz.prog 149 #[.int .u8 128,.bool true,.int .i16 0,.int .u64 (N a),.int .u64 (N b)] w (RW.a w (.tuple #[.int .u64 (N (Alu.val (Alu.go (128) true (0) a b))),.int .i64 (Alu.err (Alu.go (128) true (0) a b))])):=by
 rw[show Alu.go 128 true 0 a b=some (-a) from rfl];simp only[Alu.val_some,Alu.err_some,Alu.val_none,Alu.err_none];exact Yoi
theorem Qm9 (a b:BitVec 64)(w:World):Calls Tryz.prog 149 #[.int .u8 128,.bool false,.int .i16 0,.int .u64 (N a),.int .u64 (N b)] w (RW.a w (.tuple #[.int .u64 (N (Alu.val (Alu.go (128) false (0) a b))),.int .i64 (Alu.err (Alu.go (128) false (0) a b))])):=by
 rw[Alu.nn_neg a b];simp only[Alu.val_some,Alu.err_some,Alu.val_none,Alu.err_none];exact Yoi
theorem Qly (wd:Bool)(off:Int)(h:¬ off=0)(a b:BitVec 64)(w:World):Calls Tryz.prog 149 #[.int .u8 128,.bool wd,.int .i16 off,.int .u64 (N a),.int .u64 (N b)] w (RW.a w (.tuple #[.int .u64 (N (Alu.val (Alu.go (128) wd (off) a b))),.int .i64 (Alu.err (Alu.go (128) wd (off) a b))])):=by
 rw[Alu.go_off a b 128 wd off h Y0 Y0 Y0];simp only[Alu.val_some,Alu.err_some,Alu.val_none,Alu.err_none];refine Yvd ?_;intro b0 d0;cases wd
 all_goals
  go_enter Tryz.func149,Tryz.ntmps149;go_wp2_with (go_at_call 177;refine Y55 ?_);go_ret2
  first|exact⟨rfl,rfl⟩|exact⟨by simp,rfl⟩
theorem Qlp (a b:BitVec 64)(w:World):Calls Tryz.prog 149 #[.int .u8 176,.bool true,.int .i16 0,.int .u64 (N a),.int .u64 (N b)] w (RW.a w (.tuple #[.int .u64 (N (Alu.val (Alu.go (176) true (0) a b))),.int .i64 (Alu.err (Alu.go (176) true (0) a b))])):=by
 rw[show Alu.go 176 true 0 a b=some b from rfl];simp only[Alu.val_some,Alu.err_some,Alu.val_none,Alu.err_none];exact Yoj
theorem Qmb (a b:BitVec 64)(w:World):Calls Tryz.prog 149 #[.int .u8 176,.bool false,.int .i16 0,.int .u64 (N a),.int .u64 (N b)] w (RW.a w (.tuple #[.int .u64 (N (Alu.val (Alu.go (176) false (0) a b))),.int .i64 (Alu.err (Alu.go (176) false (0) a b))])):=by
 rw[Alu.nn_mov a b];simp only[Alu.val_some,Alu.err_some,Alu.val_none,Alu.err_none];exact Yoj
theorem Qlr (a b:BitVec 64)(w:World):Calls Tryz.prog 149 #[.int .u8 96,.bool true,.int .i16 0,.int .u64 (N a),.int .u64 (N b)] w (RW.a w (.tuple #[.int .u64 (N (Alu.val (Alu.go (96) true (0) a b))),.int .i64 (Alu.err (Alu.go (96) true (0) a b))])):=by
 rw[Alu.ww_lsh a b];simp only[Alu.val_some,Alu.err_some,Alu.val_none,Alu.err_none];refine Yvh ?_;go_wp2_with (refine Yba ?_);exact Yt2
theorem Qmd (a b:BitVec 64)(w:World):Calls Tryz.prog 149 #[.int .u8 96,.bool false,.int .i16 0,.int .u64 (N a),.int .u64 (N b)] w (RW.a w (.tuple #[.int .u64 (N (Alu.val (Alu.go (96) false (0) a b))),.int .i64 (Alu.err (Alu.go (96) false (0) a b))])):=by
 rw[Alu.nn_lsh a b];simp only[Alu.val_some,Alu.err_some,Alu.val_none,Alu.err_none];refine Yvh ?_;go_wp2_with (refine Ybb ?_);exact Yt2
theorem Qm1 (wd:Bool)(off:Int)(h:¬ off=0)(a b:BitVec 64)(w:World):Calls Tryz.prog 149 #[.int .u8 96,.bool wd,.int .i16 off,.int .u64 (N a),.int .u64 (N b)] w (RW.a w (.tuple #[.int .u64 (N (Alu.val (Alu.go (96) wd (off) a b))),.int .i64 (Alu.err (Alu.go (96) wd (off) a b))])):=by
 rw[Alu.go_off a b 96 wd off h Y0 Y0 Y0];simp only[Alu.val_some,Alu.err_some,Alu.val_none,Alu.err_none];refine Yvd ?_;intro b0 d0;cases wd
 all_goals
  go_enter Tryz.func149,Tryz.ntmps149;go_wp2_with (refine Ybc ?_);go_ret2
  first|exact⟨rfl,rfl⟩|exact⟨by simp,rfl⟩
theorem Qlm (a b:BitVec 64)(w:World):Calls Tryz.prog 149 #[.int .u8 112,.bool true,.int .i16 0,.int .u64 (N a),.int .u64 (N b)] w (RW.a w (.tuple #[.int .u64 (N (Alu.val (Alu.go (112) true (0) a b))),.int .i64 (Alu.err (Alu.go (112) true (0) a b))])):=by
 rw[Alu.ww_rsh a b];simp only[Alu.val_some,Alu.err_some,Alu.val_none,Alu.err_none];refine Yvh ?_;go_wp2_with (refine Ybd ?_);exact Yt2
theorem Qm8 (a b:BitVec 64)(w:World):Calls Tryz.prog 149 #[.int .u8 112,.bool false,.int .i16 0,.int .u64 (N a),.int .u64 (N b)] w (RW.a w (.tuple #[.int .u64 (N (Alu.val (Alu.go (112) false (0) a b))),.int .i64 (Alu.err (Alu.go (112) false (0) a b))])):=by
 rw[Alu.nn_rsh a b];simp only[Alu.val_some,Alu.err_some,Alu.val_none,Alu.err_none];refine Yvh ?_;go_wp2_with (refine Ybe ?_);exact Yt2
theorem Qlx (wd:Bool)(off:Int)(h:¬ off=0)(a b:BitVec 64)(w:World):Calls Tryz.prog 149 #[.int .u8 112,.bool wd,.int .i16 off,.int .u64 (N a),.int .u64 (N b)] w (RW.a w (.tuple #[.int .u64 (N (Alu.val (Alu.go (112) wd (off) a b))),.int .i64 (Alu.err (Alu.go (112) wd (off) a b))])):=by
 rw[Alu.go_off a b 112 wd off h Y0 Y0 Y0];simp only[Alu.val_some,Alu.err_some,Alu.val_none,Alu.err_none];refine Yvd ?_;intro b0 d0;cases wd
 all_goals
  go_enter Tryz.func149,Tryz.ntmps149;go_wp2_with (refine Ybf ?_);go_ret2
  first|exact⟨rfl,rfl⟩|exact⟨by simp,rfl⟩
theorem Qha (a b:BitVec 64)(w:World):Calls Tryz.prog 149 #[.int .u8 192,.bool true,.int .i16 0,.int .u64 (N a),.int .u64 (N b)] w (RW.a w (.tuple #[.int .u64 (N (Alu.val (Alu.go (192) true (0) a b))),.int .i64 (Alu.err (Alu.go (192) true (0) a b))])):=by
 rw[Alu.ww_arsh a b];simp only[Alu.val_some,Alu.err_some,Alu.val_none,Alu.err_none];refine Yvh ?_;go_wp2_with (refine Ybg ?_);exact Yt2
theorem Qhe (a b:BitVec 64)(w:World):Calls Tryz.prog 149 #[.int .u8 192,.bool false,.int .i16 0,.int .u64 (N a),.int .u64 (N b)] w (RW.a w (.tuple #[.int .u64 (N (Alu.val (Alu.go (192) false (0) a b))),.int .i64 (Alu.err (Alu.go (192) false (0) a b))])):=by
 rw[Alu.nn_arsh a b];simp only[Alu.val_some,Alu.err_some,Alu.val_none,Alu.err_none];refine Yvh ?_;go_wp2_with (refine Ybh ?_);exact Yt2
theorem Qhb (wd:Bool)(off:Int)(h:¬ off=0)(a b:BitVec 64)(w:World):Calls Tryz.prog 149 #[.int .u8 192,.bool wd,.int .i16 off,.int .u64 (N a),.int .u64 (N b)] w (RW.a w (.tuple #[.int .u64 (N (Alu.val (Alu.go (192) wd (off) a b))),.int .i64 (Alu.err (Alu.go (192) wd (off) a b))])):=by
 rw[Alu.go_off a b 192 wd off h Y0 Y0 Y0];simp only[Alu.val_some,Alu.err_some,Alu.val_none,Alu.err_none];refine Yvd ?_;intro b0 d0;cases wd
 all_goals
  go_enter Tryz.func149,Tryz.ntmps149;go_wp2_with (refine Ybi ?_);go_ret2
  first|exact⟨rfl,rfl⟩|exact⟨by simp,rfl⟩
theorem Qt5 (a b:BitVec 64)(w:World):Calls Tryz.prog 149 #[.int .u8 176,.bool true,.int .i16 8,.int .u64 (N a),.int .u64 (N b)] w (RW.a w (.tuple #[.int .u64 (N (Alu.val (Alu.go (176) true (8) a b))),.int .i64 (Alu.err (Alu.go (176) true (8) a b))])):=by
 rw[Alu.ww_s8 a b];simp only[Alu.val_some,Alu.err_some,Alu.val_none,Alu.err_none];exact Yox
theorem Qt8 (a b:BitVec 64)(w:World):Calls Tryz.prog 149 #[.int .u8 176,.bool false,.int .i16 8,.int .u64 (N a),.int .u64 (N b)] w (RW.a w (.tuple #[.int .u64 (N (Alu.val (Alu.go (176) false (8) a b))),.int .i64 (Alu.err (Alu.go (176) false (8) a b))])):=by
 rw[Alu.nn_s8 a b];simp only[Alu.val_some,Alu.err_some,Alu.val_none,Alu.err_none];exact Yox
theorem Qll (a b:BitVec 64)(w:World):Calls Tryz.prog 149 #[.int .u8 176,.bool true,.int .i16 16,.int .u64 (N a),.int .u64 (N b)] w (RW.a w (.tuple #[.int .u64 (N (Alu.val (Alu.go (176) true (16) a b))),.int .i64 (Alu.err (Alu.go (176) true (16) a b))])):=by
 rw[Alu.ww_s16 a b];simp only[Alu.val_some,Alu.err_some,Alu.val_none,Alu.err_none];exact Yox
theorem Qm7 (a b:BitVec 64)(w:World):Calls Tryz.prog 149 #[.int .u8 176,.bool false,.int .i16 16,.int .u64 (N a),.int .u64 (N b)] w (RW.a w (.tuple #[.int .u64 (N (Alu.val (Alu.go (176) false (16) a b))),.int .i64 (Alu.err (Alu.go (176) false (16) a b))])):=by
 rw[Alu.nn_s16 a b];simp only[Alu.val_some,Alu.err_some,Alu.val_none,Alu.err_none];exact Yox
theorem Qlk (a b:BitVec 64)(w:World):Calls Tryz.prog 149 #[.int .u8 176,.bool true,.int .i16 32,.int .u64 (N a),.int .u64 (N b)] w (RW.a w (.tuple #[.int .u64 (N (Alu.val (Alu.go (176) true (32) a b))),.int .i64 (Alu.err (Alu.go (176) true (32) a b))])):=by
 rw[Alu.ww_s32 a b];simp only[Alu.val_some,Alu.err_some,Alu.val_none,Alu.err_none];exact Yox
theorem Qcy (off:Int)(h:¬ off=0)(h8:¬ off=8)(h16:¬ off=16)(h32:¬ off=32)(a b:BitVec 64)(w:World):Calls Tryz.prog 149 #[.int .u8 176,.bool true,.int .i16 off,.int .u64 (N a),.int .u64 (N b)] w (RW.a w (.tuple #[.int .u64 (N (Alu.val (Alu.go (176) true (off) a b))),.int .i64 (Alu.err (Alu.go (176) true (off) a b))])):=by
 rw[Alu.go_mov_off a b true off h h8 h16 (fun q=>h32 q.1)];simp only[Alu.val_some,Alu.err_some,Alu.val_none,Alu.err_none];refine Yvd ?_;intro b0 d0;have b8:(off==8)=false:=by simpa using h8
 have d8:(off != 8)=true:=by simpa using h8
 have b16:(off==16)=false:=by simpa using h16
 have d16:(off != 16)=true:=by simpa using h16
 have b32:(off==32)=false:=by simpa using h32
 have d32:(off != 32)=true:=by simpa using h32
 exact Yoj
theorem Qcz (off:Int)(h:¬ off=0)(h8:¬ off=8)(h16:¬ off=16)(a b:BitVec 64)(w:World):Calls Tryz.prog 149 #[.int .u8 176,.bool false,.int .i16 off,.int .u64 (N a),.int .u64 (N b)] w (RW.a w (.tuple #[.int .u64 (N (Alu.val (Alu.go (176) false (off) a b))),.int .i64 (Alu.err (Alu.go (176) false (off) a b))])):=by
 rw[Alu.go_mov_off a b false off h h8 h16 (fun q=>nomatch q.2)];simp only[Alu.val_some,Alu.err_some,Alu.val_none,Alu.err_none];refine Yvd ?_;intro b0 d0;have b8:(off==8)=false:=by simpa using h8
 have d8:(off != 8)=true:=by simpa using h8
 have b16:(off==16)=false:=by simpa using h16
 have d16:(off != 16)=true:=by simpa using h16
 cases h32:(off==32)
 all_goals
  go_enter Tryz.func149,Tryz.ntmps149;go_wp2_with (go_at_call 177;refine Y56 ?_);go_ret2
  first|exact⟨rfl,rfl⟩|exact⟨by simp,rfl⟩
theorem Qls (a b:BitVec 64)(w:World):Calls Tryz.prog 149 #[.int .u8 48,.bool true,.int .i16 0,.int .u64 (N a),.int .u64 (N b)] w (RW.a w (.tuple #[.int .u64 (N (Alu.val (Alu.go (48) true (0) a b))),.int .i64 (Alu.err (Alu.go (48) true (0) a b))])):=by
 rw[Alu.wide_div a b];simp only[Alu.val_some,Alu.err_some,Alu.val_none,Alu.err_none];refine Yvh ?_;go_wp2_with (refine Ybk ?_);exact Yt2
theorem Qh9 (a b:BitVec 64)(w:World):Calls Tryz.prog 149 #[.int .u8 48,.bool true,.int .i16 1,.int .u64 (N a),.int .u64 (N b)] w (RW.a w (.tuple #[.int .u64 (N (Alu.val (Alu.go (48) true (1) a b))),.int .i64 (Alu.err (Alu.go (48) true (1) a b))])):=by
 rw[Alu.wide_sdiv a b];simp only[Alu.val_some,Alu.err_some,Alu.val_none,Alu.err_none];refine Yvh ?_;go_wp2_with (refine Ybl ?_);exact Yt2
theorem Qme (a b:BitVec 64)(w:World):Calls Tryz.prog 149 #[.int .u8 48,.bool false,.int .i16 0,.int .u64 (N a),.int .u64 (N b)] w (RW.a w (.tuple #[.int .u64 (N (Alu.val (Alu.go (48) false (0) a b))),.int .i64 (Alu.err (Alu.go (48) false (0) a b))])):=by
 rw[Alu.nn_div a b];simp only[Alu.val_some,Alu.err_some,Alu.val_none,Alu.err_none];refine Yvh ?_;go_wp2_with (refine Ybm ?_);exact Yt2
theorem Qhd (a b:BitVec 64)(w:World):Calls Tryz.prog 149 #[.int .u8 48,.bool false,.int .i16 1,.int .u64 (N a),.int .u64 (N b)] w (RW.a w (.tuple #[.int .u64 (N (Alu.val (Alu.go (48) false (1) a b))),.int .i64 (Alu.err (Alu.go (48) false (1) a b))])):=by
 rw[Alu.nn_sdiv a b];simp only[Alu.val_some,Alu.err_some,Alu.val_none,Alu.err_none];refine Yvh ?_;go_wp2_with (refine Ybn ?_);exact Yt2
theorem Qm2 (wd:Bool)(off:Int)(h:¬ off=0)(h1:¬ off=1)(a b:BitVec 64)(w:World):Calls Tryz.prog 149 #[.int .u8 48,.bool wd,.int .i16 off,.int .u64 (N a),.int .u64 (N b)] w (RW.a w (.tuple #[.int .u64 (N (Alu.val (Alu.go (48) wd (off) a b))),.int .i64 (Alu.err (Alu.go (48) wd (off) a b))])):=by
 rw[Alu.go_div_off a b wd off h h1];simp only[Alu.val_some,Alu.err_some,Alu.val_none,Alu.err_none];exact Yms
theorem Qlq (a b:BitVec 64)(w:World):Calls Tryz.prog 149 #[.int .u8 144,.bool true,.int .i16 0,.int .u64 (N a),.int .u64 (N b)] w (RW.a w (.tuple #[.int .u64 (N (Alu.val (Alu.go (144) true (0) a b))),.int .i64 (Alu.err (Alu.go (144) true (0) a b))])):=by
 rw[Alu.wide_mod a b];simp only[Alu.val_some,Alu.err_some,Alu.val_none,Alu.err_none];refine Yvh ?_;go_wp2_with (refine Ybp ?_);exact Yt2
theorem Qh8 (a b:BitVec 64)(w:World):Calls Tryz.prog 149 #[.int .u8 144,.bool true,.int .i16 1,.int .u64 (N a),.int .u64 (N b)] w (RW.a w (.tuple #[.int .u64 (N (Alu.val (Alu.go (144) true (1) a b))),.int .i64 (Alu.err (Alu.go (144) true (1) a b))])):=by
 rw[Alu.wide_smod a b];simp only[Alu.val_some,Alu.err_some,Alu.val_none,Alu.err_none];refine Yvh ?_;go_wp2_with (refine Ybq ?_);exact Yt2
theorem Qmc (a b:BitVec 64)(w:World):Calls Tryz.prog 149 #[.int .u8 144,.bool false,.int .i16 0,.int .u64 (N a),.int .u64 (N b)] w (RW.a w (.tuple #[.int .u64 (N (Alu.val (Alu.go (144) false (0) a b))),.int .i64 (Alu.err (Alu.go (144) false (0) a b))])):=by
 rw[Alu.nn_mod a b];simp only[Alu.val_some,Alu.err_some,Alu.val_none,Alu.err_none];refine Yvh ?_;go_wp2_with (refine Ybr ?_);exact Yt2
theorem Qhc (a b:BitVec 64)(w:World):Calls Tryz.prog 149 #[.int .u8 144,.bool false,.int .i16 1,.int .u64 (N a),.int .u64 (N b)] w (RW.a w (.tuple #[.int .u64 (N (Alu.val (Alu.go (144) false (1) a b))),.int .i64 (Alu.err (Alu.go (144) false (1) a b))])):=by
 rw[Alu.nn_smod a b];simp only[Alu.val_some,Alu.err_some,Alu.val_none,Alu.err_none];refine Yvh ?_;go_wp2_with (refine Ybs ?_);exact Yt2
theorem Qm0 (wd:Bool)(off:Int)(h:¬ off=0)(h1:¬ off=1)(a b:BitVec 64)(w:World):Calls Tryz.prog 149 #[.int .u8 144,.bool wd,.int .i16 off,.int .u64 (N a),.int .u64 (N b)] w (RW.a w (.tuple #[.int .u64 (N (Alu.val (Alu.go (144) wd (off) a b))),.int .i64 (Alu.err (Alu.go (144) wd (off) a b))])):=by
 rw[Alu.go_mod_off a b wd off h h1];simp only[Alu.val_some,Alu.err_some,Alu.val_none,Alu.err_none];exact Yms
theorem Qta (op:Int)(wd:Bool)(off:Int)(n0:¬ op=0)(n16:¬ op=16)(n32:¬ op=32)(n64:¬ op=64)(n80:¬ op=80)(n160:¬ op=160)(n128:¬ op=128)(n176:¬ op=176)(n96:¬ op=96)(n112:¬ op=112)(n192:¬ op=192)(n48:¬ op=48)(n144:¬ op=144)(a b:BitVec 64)(w:World):Calls Tryz.prog 149 #[.int .u8 op,.bool wd,.int .i16 off,.int .u64 (N a),.int .u64 (N b)] w (RW.a w (.tuple #[.int .u64 (N (Alu.val (Alu.go (op) wd (off) a b))),.int .i64 (Alu.err (Alu.go (op) wd (off) a b))])):=by
 rw[Alu.go_else a b op wd off n0 n16 n32 n64 n80 n160 n128 n176 n96 n112 n192 n48 n144];simp only[Alu.val_some,Alu.err_some,Alu.val_none,Alu.err_none];exact Yty
end Hk
namespace Hk
theorem Q55 (op:Int)(wd:Bool)(off:Int)(a b:BitVec 64)(w:World):Calls Tryz.prog 149 #[.int .u8 op,.bool wd,.int .i16 off,.int .u64 (N a),.int .u64 (N b)] w (RW.a w (.tuple #[.int .u64 (N (Alu.val (Alu.go op wd off a b))),.int .i64 (Alu.err (Alu.go op wd off a b))])):=by
 by_cases n0:op=0
 · subst n0
   by_cases h:off=0
   · subst h;cases wd
     · exact Qmg a b w
     · exact Qlu a b w
   · exact Qm4 wd off h a b w
 by_cases n16:op=16
 · subst n16
   by_cases h:off=0
   · subst h;cases wd
     · exact Qm6 a b w
     · exact Qlj a b w
   · exact Qlw wd off h a b w
 by_cases n32:op=32
 · subst n32
   by_cases h:off=0
   · subst h;cases wd
     · exact Qma a b w
     · exact Qlo a b w
   · exact Qlz wd off h a b w
 by_cases n64:op=64
 · subst n64
   by_cases h:off=0
   · subst h;cases wd
     · exact Qt9 a b w
     · exact Qt6 a b w
   · exact Qt7 wd off h a b w
 by_cases n80:op=80
 · subst n80
   by_cases h:off=0
   · subst h;cases wd
     · exact Qmf a b w
     · exact Qlt a b w
   · exact Qm3 wd off h a b w
 by_cases n160:op=160
 · subst n160
   by_cases h:off=0
   · subst h;cases wd
     · exact Qm5 a b w
     · exact Qli a b w
   · exact Qlv wd off h a b w
 by_cases n128:op=128
 · subst n128
   by_cases h:off=0
   · subst h;cases wd
     · exact Qm9 a b w
     · exact Qln a b w
   · exact Qly wd off h a b w
 by_cases n96:op=96
 · subst n96
   by_cases h:off=0
   · subst h;cases wd
     · exact Qmd a b w
     · exact Qlr a b w
   · exact Qm1 wd off h a b w
 by_cases n112:op=112
 · subst n112
   by_cases h:off=0
   · subst h;cases wd
     · exact Qm8 a b w
     · exact Qlm a b w
   · exact Qlx wd off h a b w
 by_cases n192:op=192
 · subst n192
   by_cases h:off=0
   · subst h;cases wd
     · exact Qhe a b w
     · exact Qha a b w
   · exact Qhb wd off h a b w
 by_cases n176:op=176
 · subst n176
   by_cases h:off=0
   · subst h;cases wd
     · exact Qmb a b w
     · exact Qlp a b w
   by_cases h8:off=8
   · subst h8;cases wd
     · exact Qt8 a b w
     · exact Qt5 a b w
   by_cases h16:off=16
   · subst h16;cases wd
     · exact Qm7 a b w
     · exact Qll a b w
   cases wd
   · exact Qcz off h h8 h16 a b w
   · by_cases h32:off=32
     · subst h32;exact Qlk a b w
     · exact Qcy off h h8 h16 h32 a b w
 by_cases n48:op=48
 · subst n48
   by_cases h:off=0
   · subst h;cases wd
     · exact Qme a b w
     · exact Qls a b w
   by_cases h1:off=1
   · subst h1;cases wd
     · exact Qhd a b w
     · exact Qh9 a b w
   exact Qm2 wd off h h1 a b w
 by_cases n144:op=144
 · subst n144
   by_cases h:off=0
   · subst h;cases wd
     · exact Qmc a b w
     · exact Qlq a b w
   by_cases h1:off=1
   · subst h1;cases wd
     · exact Qhc a b w
     · exact Qh8 a b w
   exact Qm0 wd off h h1 a b w
 exact Qta op wd off n0 n16 n32 n64 n80 n160 n128 n176 n96 n112 n192 n48 n144 a b w
end Hk
namespace Hk
theorem Qkg (op off:Int)(h:¬ off=0)(w:World):Calls Tryz.prog 180 #[.int .u8 op,.int .i16 off] w (RW.a w (.int .i64 0)):=by
 have d:(off != 0)=true:=Y5;exact Ysv
theorem Qkh  (w:World):Calls Tryz.prog 180 #[.int .u8 176,.int .i16 0] w (RW.a w (.int .i64 1)):=by
 exact Ysv
theorem Qyj  (w:World):Calls Tryz.prog 180 #[.int .u8 0,.int .i16 0] w (RW.a w (.int .i64 2)):=by
 exact Ysv
theorem Qry  (w:World):Calls Tryz.prog 180 #[.int .u8 16,.int .i16 0] w (RW.a w (.int .i64 2)):=by
 exact Ysv
theorem Qrx  (w:World):Calls Tryz.prog 180 #[.int .u8 32,.int .i16 0] w (RW.a w (.int .i64 2)):=by
 exact Ysv
theorem Qru  (w:World):Calls Tryz.prog 180 #[.int .u8 80,.int .i16 0] w (RW.a w (.int .i64 2)):=by
 exact Ysv
theorem Qrv  (w:World):Calls Tryz.prog 180 #[.int .u8 64,.int .i16 0] w (RW.a w (.int .i64 2)):=by
 exact Ysv
theorem Qki  (w:World):Calls Tryz.prog 180 #[.int .u8 160,.int .i16 0] w (RW.a w (.int .i64 2)):=by
 exact Ysv
theorem Qrt  (w:World):Calls Tryz.prog 180 #[.int .u8 96,.int .i16 0] w (RW.a w (.int .i64 3)):=by
 exact Ysv
theorem Qkk  (w:World):Calls Tryz.prog 180 #[.int .u8 112,.int .i16 0] w (RW.a w (.int .i64 3)):=by
 exact Ysv
theorem Qrw  (w:World):Calls Tryz.prog 180 #[.int .u8 48,.int .i16 0] w (RW.a w (.int .i64 4)):=by
 exact Ysv
theorem Qkj  (w:World):Calls Tryz.prog 180 #[.int .u8 144,.int .i16 0] w (RW.a w (.int .i64 4)):=by
 exact Ysv
theorem Qgl (op:Int)(n176:¬ op=176)(n0:¬ op=0)(n16:¬ op=16)(n32:¬ op=32)(n80:¬ op=80)(n64:¬ op=64)(n160:¬ op=160)(n96:¬ op=96)(n112:¬ op=112)(n48:¬ op=48)(n144:¬ op=144)(w:World):Calls Tryz.prog 180 #[.int .u8 op,.int .i16 0] w (RW.a w (.int .i64 0)):=by
 exact Ysv
end Hk
namespace Hk
attribute [go_sem] Cond.val_some Cond.err_some Cond.val_none Cond.err_none
theorem Q1a3 (x:BitVec 64)(w:World):Calls Tryz.prog 186 #[.int .u64 (N x)] w (RW.a w (.bool (false))):=by
 go_enter Tryz.func186,Tryz.ntmps186;go_wp2;go_ret;exact⟨rfl,rfl⟩
theorem Q1a4 (x:Int)(w:World):Calls Tryz.prog 187 #[.int .i64 x] w (RW.a w (.bool (false))):=by
 go_enter Tryz.func187,Tryz.ntmps187;go_wp2;go_ret;exact⟨rfl,rfl⟩
theorem Q1ad (x y:BitVec 64)(w:World):Calls Tryz.prog 160 #[.int .u64 (N x),.int .u64 (N y)] w (RW.a w (.int .i64 (Cond.ordU x y))):=by
 cases h1:decide (x<y)<;>cases h2:decide (y<x)
 all_goals
  go_enter Tryz.func160,Tryz.ntmps160;go_wp2_with (refine Ycf ?_);go_ret;exact⟨by unfold Cond.ordU;(first|rw[if_pos (of_decide_eq_true h1)]|rw[if_neg (of_decide_eq_false h1),if_pos (of_decide_eq_true h2)]|rw[if_neg (of_decide_eq_false h1),if_neg (of_decide_eq_false h2)]);rfl,rfl⟩
theorem Q1ae (x y:Int)(w:World):Calls Tryz.prog 161 #[.int .i64 x,.int .i64 y] w (RW.a w (.int .i64 (Cond.ordI x y))):=by
 cases h1:decide (x<y)<;>cases h2:decide (y<x)
 all_goals
  go_enter Tryz.func161,Tryz.ntmps161;go_wp2_with (refine Ycf ?_);go_ret;exact⟨by unfold Cond.ordI;(first|rw[if_pos (of_decide_eq_true h1)]|rw[if_neg (of_decide_eq_false h1),if_pos (of_decide_eq_true h2)]|rw[if_neg (of_decide_eq_false h1),if_neg (of_decide_eq_false h2)]);rfl,rfl⟩
theorem Qzu (o:Int)(ho:o = -1∨o=0∨o=1)(w:World):Calls Tryz.prog 162 #[.int .u8 16,.int .i64 o] w (RW.a w (.tuple #[.bool (Cond.cmpB 16 o),.bool (Cond.cmpOk 16)])):=by
 exact Yp2
theorem Qzr (o:Int)(ho:o = -1∨o=0∨o=1)(w:World):Calls Tryz.prog 162 #[.int .u8 80,.int .i64 o] w (RW.a w (.tuple #[.bool (Cond.cmpB 80 o),.bool (Cond.cmpOk 80)])):=by
 exact Yp2
theorem Qzs (o:Int)(ho:o = -1∨o=0∨o=1)(w:World):Calls Tryz.prog 162 #[.int .u8 48,.int .i64 o] w (RW.a w (.tuple #[.bool (Cond.cmpB 48 o),.bool (Cond.cmpOk 48)])):=by
 exact Yp2
theorem Qsr (o:Int)(ho:o = -1∨o=0∨o=1)(w:World):Calls Tryz.prog 162 #[.int .u8 112,.int .i64 o] w (RW.a w (.tuple #[.bool (Cond.cmpB 112 o),.bool (Cond.cmpOk 112)])):=by
 exact Yp2
theorem Qzt (o:Int)(ho:o = -1∨o=0∨o=1)(w:World):Calls Tryz.prog 162 #[.int .u8 32,.int .i64 o] w (RW.a w (.tuple #[.bool (Cond.cmpB 32 o),.bool (Cond.cmpOk 32)])):=by
 exact Yp2
theorem Qzq (o:Int)(ho:o = -1∨o=0∨o=1)(w:World):Calls Tryz.prog 162 #[.int .u8 96,.int .i64 o] w (RW.a w (.tuple #[.bool (Cond.cmpB 96 o),.bool (Cond.cmpOk 96)])):=by
 exact Yp2
theorem Qsp (o:Int)(ho:o = -1∨o=0∨o=1)(w:World):Calls Tryz.prog 162 #[.int .u8 176,.int .i64 o] w (RW.a w (.tuple #[.bool (Cond.cmpB 176 o),.bool (Cond.cmpOk 176)])):=by
 exact Yp2
theorem Qsn (o:Int)(ho:o = -1∨o=0∨o=1)(w:World):Calls Tryz.prog 162 #[.int .u8 208,.int .i64 o] w (RW.a w (.tuple #[.bool (Cond.cmpB 208 o),.bool (Cond.cmpOk 208)])):=by
 exact Yp2
theorem Qsq (o:Int)(ho:o = -1∨o=0∨o=1)(w:World):Calls Tryz.prog 162 #[.int .u8 160,.int .i64 o] w (RW.a w (.tuple #[.bool (Cond.cmpB 160 o),.bool (Cond.cmpOk 160)])):=by
 exact Yp2
theorem Qso (o:Int)(ho:o = -1∨o=0∨o=1)(w:World):Calls Tryz.prog 162 #[.int .u8 192,.int .i64 o] w (RW.a w (.tuple #[.bool (Cond.cmpB 192 o),.bool (Cond.cmpOk 192)])):=by
 exact Yp2
theorem Ql4 (op o:Int)(n16:¬ op=16)(n80:¬ op=80)(n48:¬ op=48)(n112:¬ op=112)(n32:¬ op=32)(n96:¬ op=96)(n176:¬ op=176)(n208:¬ op=208)(n160:¬ op=160)(n192:¬ op=192)(w:World):Calls Tryz.prog 162 #[.int .u8 op,.int .i64 o] w (RW.a w (.tuple #[.bool (Cond.cmpB op o),.bool (Cond.cmpOk op)])):=by
 have e1:Cond.cmpB op o=false:=by unfold Cond.cmpB;simp[n16,n80,n48,n112,n32,n96,n176,n208,n160,n192]
 have e2:Cond.cmpOk op=false:=by unfold Cond.cmpOk;simp[n16,n80,n48,n112,n32,n96,n176,n208,n160,n192]
 rw[e1,e2];clear e1 e2;go_enter Tryz.func162,Tryz.ntmps162;go_wp2;go_ret2;exact⟨rfl,rfl⟩
theorem Q1ac (op o:Int)(ho:o = -1∨o=0∨o=1)(w:World):Calls Tryz.prog 162 #[.int .u8 op,.int .i64 o] w (RW.a w (.tuple #[.bool (Cond.cmpB op o),.bool (Cond.cmpOk op)])):=by
 by_cases n16:op=16
 · subst n16;exact Qzu o ho w
 by_cases n80:op=80
 · subst n80;exact Qzr o ho w
 by_cases n48:op=48
 · subst n48;exact Qzs o ho w
 by_cases n112:op=112
 · subst n112;exact Qsr o ho w
 by_cases n32:op=32
 · subst n32;exact Qzt o ho w
 by_cases n96:op=96
 · subst n96;exact Qzq o ho w
 by_cases n176:op=176
 · subst n176;exact Qsp o ho w
 by_cases n208:op=208
 · subst n208;exact Qsn o ho w
 by_cases n160:op=160
 · subst n160;exact Qsq o ho w
 by_cases n192:op=192
 · subst n192;exact Qso o ho w
 exact Ql4 op o n16 n80 n48 n112 n32 n96 n176 n208 n160 n192 w
theorem Q14y (a b:BitVec 64)(w:World):Calls Tryz.prog 131 #[.int .u8 0,.bool (true),.int .u64 (N a),.int .u64 (N b)] w (RW.a w (.tuple #[.bool (Cond.val (Cond.is 0 true a b)),.int .i64 (Cond.err (Cond.is 0 true a b))])):=by
 rw[Cond.is_0 true a b];exact Yo4
theorem Q101 (a b:BitVec 64)(w:World):Calls Tryz.prog 131 #[.int .u8 64,.bool (true),.int .u64 (N a),.int .u64 (N b)] w (RW.a w (.tuple #[.bool (Cond.val (Cond.is 64 true a b)),.int .i64 (Cond.err (Cond.is 64 true a b))])):=by
 rw[Cond.is_64 true a b];exact Yo4
theorem Qzz (a b:BitVec 64)(w:World):Calls Tryz.prog 131 #[.int .u8 96,.bool (true),.int .u64 (N a),.int .u64 (N b)] w (RW.a w (.tuple #[.bool (Cond.val (Cond.is 96 true a b)),.int .i64 (Cond.err (Cond.is 96 true a b))])):=by
 rw[Cond.is_s (op:=96) rfl true a b];exact Ynq
theorem Qsy (a b:BitVec 64)(w:World):Calls Tryz.prog 131 #[.int .u8 112,.bool (true),.int .u64 (N a),.int .u64 (N b)] w (RW.a w (.tuple #[.bool (Cond.val (Cond.is 112 true a b)),.int .i64 (Cond.err (Cond.is 112 true a b))])):=by
 rw[Cond.is_s (op:=112) rfl true a b];exact Ynn
theorem Qsw (a b:BitVec 64)(w:World):Calls Tryz.prog 131 #[.int .u8 192,.bool (true),.int .u64 (N a),.int .u64 (N b)] w (RW.a w (.tuple #[.bool (Cond.val (Cond.is 192 true a b)),.int .i64 (Cond.err (Cond.is 192 true a b))])):=by
 rw[Cond.is_s (op:=192) rfl true a b];exact Yno
theorem Qsu (a b:BitVec 64)(w:World):Calls Tryz.prog 131 #[.int .u8 208,.bool (true),.int .u64 (N a),.int .u64 (N b)] w (RW.a w (.tuple #[.bool (Cond.val (Cond.is 208 true a b)),.int .i64 (Cond.err (Cond.is 208 true a b))])):=by
 rw[Cond.is_s (op:=208) rfl true a b];exact Ynp
theorem Qzv (op:Int)(n0:¬ op=0)(n64:¬ op=64)(n96:¬ op=96)(n112:¬ op=112)(n192:¬ op=192)(n208:¬ op=208)(hk:Cond.cmpOk op=true)(a b:BitVec 64)(w:World):Calls Tryz.prog 131 #[.int .u8 op,.bool (true),.int .u64 (N a),.int .u64 (N b)] w (RW.a w (.tuple #[.bool (Cond.val (Cond.is op true a b)),.int .i64 (Cond.err (Cond.is op true a b))])):=by
 rw[Cond.is_u n0 n64 Y1p true a b,hk,if_pos rfl];exact Yo4
theorem Qzw (op:Int)(n0:¬ op=0)(n64:¬ op=64)(n96:¬ op=96)(n112:¬ op=112)(n192:¬ op=192)(n208:¬ op=208)(hk:Cond.cmpOk op=false)(a b:BitVec 64)(w:World):Calls Tryz.prog 131 #[.int .u8 op,.bool (true),.int .u64 (N a),.int .u64 (N b)] w (RW.a w (.tuple #[.bool (Cond.val (Cond.is op true a b)),.int .i64 (Cond.err (Cond.is op true a b))])):=by
 rw[Cond.is_u n0 n64 Y1p true a b,hk,if_neg Y0];exact Yo4
theorem Q14z (a b:BitVec 64)(w:World):Calls Tryz.prog 131 #[.int .u8 0,.bool (false),.int .u64 (N a),.int .u64 (N b)] w (RW.a w (.tuple #[.bool (Cond.val (Cond.is 0 false a b)),.int .i64 (Cond.err (Cond.is 0 false a b))])):=by
 rw[Cond.is_0 false a b];exact Yo4
theorem Q102 (a b:BitVec 64)(w:World):Calls Tryz.prog 131 #[.int .u8 64,.bool (false),.int .u64 (N a),.int .u64 (N b)] w (RW.a w (.tuple #[.bool (Cond.val (Cond.is 64 false a b)),.int .i64 (Cond.err (Cond.is 64 false a b))])):=by
 rw[Cond.is_64 false a b];exact Yo4
theorem Q100 (a b:BitVec 64)(w:World):Calls Tryz.prog 131 #[.int .u8 96,.bool (false),.int .u64 (N a),.int .u64 (N b)] w (RW.a w (.tuple #[.bool (Cond.val (Cond.is 96 false a b)),.int .i64 (Cond.err (Cond.is 96 false a b))])):=by
 rw[Cond.is_s (op:=96) rfl false a b];exact Ynq
theorem Qsz (a b:BitVec 64)(w:World):Calls Tryz.prog 131 #[.int .u8 112,.bool (false),.int .u64 (N a),.int .u64 (N b)] w (RW.a w (.tuple #[.bool (Cond.val (Cond.is 112 false a b)),.int .i64 (Cond.err (Cond.is 112 false a b))])):=by
 rw[Cond.is_s (op:=112) rfl false a b];exact Ynn
theorem Qsx (a b:BitVec 64)(w:World):Calls Tryz.prog 131 #[.int .u8 192,.bool (false),.int .u64 (N a),.int .u64 (N b)] w (RW.a w (.tuple #[.bool (Cond.val (Cond.is 192 false a b)),.int .i64 (Cond.err (Cond.is 192 false a b))])):=by
 rw[Cond.is_s (op:=192) rfl false a b];exact Yno
theorem Qsv (a b:BitVec 64)(w:World):Calls Tryz.prog 131 #[.int .u8 208,.bool (false),.int .u64 (N a),.int .u64 (N b)] w (RW.a w (.tuple #[.bool (Cond.val (Cond.is 208 false a b)),.int .i64 (Cond.err (Cond.is 208 false a b))])):=by
 rw[Cond.is_s (op:=208) rfl false a b];exact Ynp
theorem Qzx (op:Int)(n0:¬ op=0)(n64:¬ op=64)(n96:¬ op=96)(n112:¬ op=112)(n192:¬ op=192)(n208:¬ op=208)(hk:Cond.cmpOk op=true)(a b:BitVec 64)(w:World):Calls Tryz.prog 131 #[.int .u8 op,.bool (false),.int .u64 (N a),.int .u64 (N b)] w (RW.a w (.tuple #[.bool (Cond.val (Cond.is op false a b)),.int .i64 (Cond.err (Cond.is op false a b))])):=by
 rw[Cond.is_u n0 n64 Y1p false a b,hk,if_pos rfl];exact Yo4
theorem Qzy (op:Int)(n0:¬ op=0)(n64:¬ op=64)(n96:¬ op=96)(n112:¬ op=112)(n192:¬ op=192)(n208:¬ op=208)(hk:Cond.cmpOk op=false)(a b:BitVec 64)(w:World):Calls Tryz.prog 131 #[.int .u8 op,.bool (false),.int .u64 (N a),.int .u64 (N b)] w (RW.a w (.tuple #[.bool (Cond.val (Cond.is op false a b)),.int .i64 (Cond.err (Cond.is op false a b))])):=by
 rw[Cond.is_u n0 n64 Y1p false a b,hk,if_neg Y0];exact Yo4
theorem Q14x (op:Int)(wd:Bool)(a b:BitVec 64)(w:World):Calls Tryz.prog 131 #[.int .u8 op,.bool (wd),.int .u64 (N a),.int .u64 (N b)] w (RW.a w (.tuple #[.bool (Cond.val (Cond.is op wd a b)),.int .i64 (Cond.err (Cond.is op wd a b))])):=by
 by_cases n0:op=0
 · subst n0;cases wd
   · exact Q14z a b w
   · exact Q14y a b w
 by_cases n64:op=64
 · subst n64;cases wd
   · exact Q102 a b w
   · exact Q101 a b w
 by_cases n96:op=96
 · subst n96;cases wd
   · exact Q100 a b w
   · exact Qzz a b w
 by_cases n112:op=112
 · subst n112;cases wd
   · exact Qsz a b w
   · exact Qsy a b w
 by_cases n192:op=192
 · subst n192;cases wd
   · exact Qsx a b w
   · exact Qsw a b w
 by_cases n208:op=208
 · subst n208;cases wd
   · exact Qsv a b w
   · exact Qsu a b w
 cases hk:Cond.cmpOk op<;>cases wd
 · exact Qzy op n0 n64 n96 n112 n192 n208 hk a b w
 · exact Qzw op n0 n64 n96 n112 n192 n208 hk a b w
 · exact Qzx op n0 n64 n96 n112 n192 n208 hk a b w
 · exact Qzv op n0 n64 n96 n112 n192 n208 hk a b w
end Hk
namespace Hk
theorem Qgv  (w:World):Calls Tryz.prog 185 #[.int .u8 16] w (RW.a w (.tuple #[.int .u8 ((Cond.turned 16).getD 0),.bool (Cond.turned 16).isSome])):=by
 exact Ysr
theorem Qgr  (w:World):Calls Tryz.prog 185 #[.int .u8 80] w (RW.a w (.tuple #[.int .u8 ((Cond.turned 80).getD 0),.bool (Cond.turned 80).isSome])):=by
 exact Ysr
theorem Qgs  (w:World):Calls Tryz.prog 185 #[.int .u8 64] w (RW.a w (.tuple #[.int .u8 ((Cond.turned 64).getD 0),.bool (Cond.turned 64).isSome])):=by
 exact Ysr
theorem Qgu  (w:World):Calls Tryz.prog 185 #[.int .u8 32] w (RW.a w (.tuple #[.int .u8 ((Cond.turned 32).getD 0),.bool (Cond.turned 32).isSome])):=by
 exact Ysr
theorem Qcf  (w:World):Calls Tryz.prog 185 #[.int .u8 160] w (RW.a w (.tuple #[.int .u8 ((Cond.turned 160).getD 0),.bool (Cond.turned 160).isSome])):=by
 exact Ysr
theorem Qgt  (w:World):Calls Tryz.prog 185 #[.int .u8 48] w (RW.a w (.tuple #[.int .u8 ((Cond.turned 48).getD 0),.bool (Cond.turned 48).isSome])):=by
 exact Ysr
theorem Qce  (w:World):Calls Tryz.prog 185 #[.int .u8 176] w (RW.a w (.tuple #[.int .u8 ((Cond.turned 176).getD 0),.bool (Cond.turned 176).isSome])):=by
 exact Ysr
theorem Qgq  (w:World):Calls Tryz.prog 185 #[.int .u8 96] w (RW.a w (.tuple #[.int .u8 ((Cond.turned 96).getD 0),.bool (Cond.turned 96).isSome])):=by
 exact Ysr
theorem Qcd  (w:World):Calls Tryz.prog 185 #[.int .u8 192] w (RW.a w (.tuple #[.int .u8 ((Cond.turned 192).getD 0),.bool (Cond.turned 192).isSome])):=by
 exact Ysr
theorem Qcg  (w:World):Calls Tryz.prog 185 #[.int .u8 112] w (RW.a w (.tuple #[.int .u8 ((Cond.turned 112).getD 0),.bool (Cond.turned 112).isSome])):=by
 exact Ysr
theorem Qcc  (w:World):Calls Tryz.prog 185 #[.int .u8 208] w (RW.a w (.tuple #[.int .u8 ((Cond.turned 208).getD 0),.bool (Cond.turned 208).isSome])):=by
 exact Ysr
theorem Q9q (op:Int)(n16:¬ op=16)(n80:¬ op=80)(n64:¬ op=64)(n32:¬ op=32)(n160:¬ op=160)(n48:¬ op=48)(n176:¬ op=176)(n96:¬ op=96)(n192:¬ op=192)(n112:¬ op=112)(n208:¬ op=208)(w:World):Calls Tryz.prog 185 #[.int .u8 op] w (RW.a w (.tuple #[.int .u8 ((Cond.turned op).getD 0),.bool (Cond.turned op).isSome])):=by
 have e:Cond.turned op=none:=by unfold Cond.turned;simp[n16,n80,n64,n32,n160,n48,n176,n96,n192,n112,n208]
 rw[e];clear e;exact Ysr
theorem Ql1 (op:Int)(w:World):Calls Tryz.prog 185 #[.int .u8 op] w (RW.a w (.tuple #[.int .u8 ((Cond.turned op).getD 0),.bool (Cond.turned op).isSome])):=by
 by_cases n16:op=16
 · subst n16;exact Qgv w
 by_cases n80:op=80
 · subst n80;exact Qgr w
 by_cases n64:op=64
 · subst n64;exact Qgs w
 by_cases n32:op=32
 · subst n32;exact Qgu w
 by_cases n160:op=160
 · subst n160;exact Qcf w
 by_cases n48:op=48
 · subst n48;exact Qgt w
 by_cases n176:op=176
 · subst n176;exact Qce w
 by_cases n96:op=96
 · subst n96;exact Qgq w
 by_cases n192:op=192
 · subst n192;exact Qcd w
 by_cases n112:op=112
 · subst n112;exact Qcg w
 by_cases n208:op=208
 · subst n208;exact Qcc w
 exact Q9q op n16 n80 n64 n32 n160 n48 n176 n96 n192 n112 n208 w
end Hk
namespace Hk
theorem Qzp  (w:World):Calls Tryz.prog 129 #[.int .u8 16] w (RW.a w (.tuple #[.int .u8 ((Cond.neg 16).getD 0),.bool (Cond.neg 16).isSome])):=by
 exact Yss
theorem Qzm  (w:World):Calls Tryz.prog 129 #[.int .u8 80] w (RW.a w (.tuple #[.int .u8 ((Cond.neg 80).getD 0),.bool (Cond.neg 80).isSome])):=by
 exact Yss
theorem Qzo  (w:World):Calls Tryz.prog 129 #[.int .u8 32] w (RW.a w (.tuple #[.int .u8 ((Cond.neg 32).getD 0),.bool (Cond.neg 32).isSome])):=by
 exact Yss
theorem Qsk  (w:World):Calls Tryz.prog 129 #[.int .u8 176] w (RW.a w (.tuple #[.int .u8 ((Cond.neg 176).getD 0),.bool (Cond.neg 176).isSome])):=by
 exact Yss
theorem Qzn  (w:World):Calls Tryz.prog 129 #[.int .u8 48] w (RW.a w (.tuple #[.int .u8 ((Cond.neg 48).getD 0),.bool (Cond.neg 48).isSome])):=by
 exact Yss
theorem Qsl  (w:World):Calls Tryz.prog 129 #[.int .u8 160] w (RW.a w (.tuple #[.int .u8 ((Cond.neg 160).getD 0),.bool (Cond.neg 160).isSome])):=by
 exact Yss
theorem Qzl  (w:World):Calls Tryz.prog 129 #[.int .u8 96] w (RW.a w (.tuple #[.int .u8 ((Cond.neg 96).getD 0),.bool (Cond.neg 96).isSome])):=by
 exact Yss
theorem Qsi  (w:World):Calls Tryz.prog 129 #[.int .u8 208] w (RW.a w (.tuple #[.int .u8 ((Cond.neg 208).getD 0),.bool (Cond.neg 208).isSome])):=by
 exact Yss
theorem Qsm  (w:World):Calls Tryz.prog 129 #[.int .u8 112] w (RW.a w (.tuple #[.int .u8 ((Cond.neg 112).getD 0),.bool (Cond.neg 112).isSome])):=by
 exact Yss
theorem Qsj  (w:World):Calls Tryz.prog 129 #[.int .u8 192] w (RW.a w (.tuple #[.int .u8 ((Cond.neg 192).getD 0),.bool (Cond.neg 192).isSome])):=by
 exact Yss
theorem Ql3 (op:Int)(n16:¬ op=16)(n80:¬ op=80)(n32:¬ op=32)(n176:¬ op=176)(n48:¬ op=48)(n160:¬ op=160)(n96:¬ op=96)(n208:¬ op=208)(n112:¬ op=112)(n192:¬ op=192)(w:World):Calls Tryz.prog 129 #[.int .u8 op] w (RW.a w (.tuple #[.int .u8 ((Cond.neg op).getD 0),.bool (Cond.neg op).isSome])):=by
 have e:Cond.neg op=none:=by unfold Cond.neg;simp[n16,n80,n32,n176,n48,n160,n96,n208,n112,n192]
 rw[e];clear e;exact Yss
theorem Qv8 (op:Int)(w:World):Calls Tryz.prog 129 #[.int .u8 op] w (RW.a w (.tuple #[.int .u8 ((Cond.neg op).getD 0),.bool (Cond.neg op).isSome])):=by
 by_cases n16:op=16
 · subst n16;exact Qzp w
 by_cases n80:op=80
 · subst n80;exact Qzm w
 by_cases n32:op=32
 · subst n32;exact Qzo w
 by_cases n176:op=176
 · subst n176;exact Qsk w
 by_cases n48:op=48
 · subst n48;exact Qzn w
 by_cases n160:op=160
 · subst n160;exact Qsl w
 by_cases n96:op=96
 · subst n96;exact Qzl w
 by_cases n208:op=208
 · subst n208;exact Qsi w
 by_cases n112:op=112
 · subst n112;exact Qsm w
 by_cases n192:op=192
 · subst n192;exact Qsj w
 exact Ql3 op n16 n80 n32 n176 n48 n160 n96 n208 n112 n192 w
end Hk
