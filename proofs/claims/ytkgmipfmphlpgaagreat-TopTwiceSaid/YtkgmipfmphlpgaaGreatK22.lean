/- A part of TopTwice's proof; no condition. -/
import Derived.Test.YtkgmipfmphlpgaaGreatK21
open Go Go.RowKit Go.Proofs
set_option linter.all false
set_option maxRecDepth 100000
set_option maxHeartbeats 20000000
namespace Hk
theorem Qqv (op off:Int)(wd:Bool)(x y:Fa)(p:BitVec 64)(hx:Fa.known x=some p)(hy:Fa.known y=none)(h:¬ off=0)(w:World):Calls Tryz.prog 150 #[.int .u8 op,.bool wd,.int .i16 off,x,y] w (RB.a w ((Fa.makes op wd off x y))):=by
 rw[Fa.mk_off (.inr hy) h];exact Ym4
theorem Qqy (wd:Bool)(x y:Fa)(p:BitVec 64)(hx:Fa.known x=some p)(hy:Fa.known y=none)(w:World):Calls Tryz.prog 150 #[.int .u8 176,.bool wd,.int .i16 0,x,y] w (RB.a w ((Fa.makes 176 wd 0 x y))):=by
 rw[Fa.mk_mov (.inr hy)];exact Ym5
theorem Qjo (op:Int)(wd:Bool)(x y:Fa)(p:BitVec 64)(hx:Fa.known x=some p)(hy:Fa.known y=none)(n176:¬ op=176)(n0:¬ op=0)(n16:¬ op=16)(n32:¬ op=32)(n80:¬ op=80)(n64:¬ op=64)(n160:¬ op=160)(n96:¬ op=96)(n112:¬ op=112)(n48:¬ op=48)(n144:¬ op=144)(w:World):Calls Tryz.prog 150 #[.int .u8 op,.bool wd,.int .i16 0,x,y] w (RB.a w ((Fa.makes op wd 0 x y))):=by
 rw[Fa.mk_else (.inr hy) n176 n0 n16 n32 n80 n64 n160 n96 n112 n48 n144];exact Ym6
theorem Qjv (wd:Bool)(x y:Fa)(t:Tn)(p:BitVec 64)(hx:Fa.known x=some p)(hy:Fa.known y=none)(hd:Tn.do_ 0 x.t (y).t=none)(w:World):Calls Tryz.prog 150 #[.int .u8 0,.bool wd,.int .i16 0,x,y] w (RB.a w ((Fa.makes 0 wd 0 x y))):=by
 rw[Fa.mk_add (.inr hy),Fa.plain_none hd];exact Yju
theorem Qju (wd:Bool)(x y:Fa)(t:Tn)(p:BitVec 64)(hx:Fa.known x=some p)(hy:Fa.known y=none)(hd:Tn.do_ 0 x.t (y).t=some t)(w:World):Calls Tryz.prog 150 #[.int .u8 0,.bool wd,.int .i16 0,x,y] w (RB.a w ((Fa.makes 0 wd 0 x y))):=by
 rw[Fa.mk_add (.inr hy),Fa.plain_some hd];exact Yk2
theorem Qjd (wd:Bool)(x y:Fa)(t:Tn)(p:BitVec 64)(hx:Fa.known x=some p)(hy:Fa.known y=none)(hd:Tn.do_ 16 x.t (y).t=none)(w:World):Calls Tryz.prog 150 #[.int .u8 16,.bool wd,.int .i16 0,x,y] w (RB.a w ((Fa.makes 16 wd 0 x y))):=by
 rw[Fa.mk_sub (.inr hy),Fa.plain_none hd];exact Yjv
theorem Qjc (wd:Bool)(x y:Fa)(t:Tn)(p:BitVec 64)(hx:Fa.known x=some p)(hy:Fa.known y=none)(hd:Tn.do_ 16 x.t (y).t=some t)(w:World):Calls Tryz.prog 150 #[.int .u8 16,.bool wd,.int .i16 0,x,y] w (RB.a w ((Fa.makes 16 wd 0 x y))):=by
 rw[Fa.mk_sub (.inr hy),Fa.plain_some hd];exact Yk3
theorem Qjj (wd:Bool)(x y:Fa)(t:Tn)(p:BitVec 64)(hx:Fa.known x=some p)(hy:Fa.known y=none)(hd:Tn.do_ 32 x.t (y).t=none)(w:World):Calls Tryz.prog 150 #[.int .u8 32,.bool wd,.int .i16 0,x,y] w (RB.a w ((Fa.makes 32 wd 0 x y))):=by
 rw[Fa.mk_mul (.inr hy),Fa.plain_none hd];exact Yjw
theorem Qji (wd:Bool)(x y:Fa)(t:Tn)(p:BitVec 64)(hx:Fa.known x=some p)(hy:Fa.known y=none)(hd:Tn.do_ 32 x.t (y).t=some t)(w:World):Calls Tryz.prog 150 #[.int .u8 32,.bool wd,.int .i16 0,x,y] w (RB.a w ((Fa.makes 32 wd 0 x y))):=by
 rw[Fa.mk_mul (.inr hy),Fa.plain_some hd];exact Yk4
theorem Qjr (wd:Bool)(x y:Fa)(t:Tn)(p:BitVec 64)(hx:Fa.known x=some p)(hy:Fa.known y=none)(hd:Tn.do_ 80 x.t (y).t=none)(w:World):Calls Tryz.prog 150 #[.int .u8 80,.bool wd,.int .i16 0,x,y] w (RB.a w ((Fa.makes 80 wd 0 x y))):=by
 rw[Fa.mk_and (.inr hy),Fa.plain_none hd];exact Yjx
theorem Qjq (wd:Bool)(x y:Fa)(t:Tn)(p:BitVec 64)(hx:Fa.known x=some p)(hy:Fa.known y=none)(hd:Tn.do_ 80 x.t (y).t=some t)(w:World):Calls Tryz.prog 150 #[.int .u8 80,.bool wd,.int .i16 0,x,y] w (RB.a w ((Fa.makes 80 wd 0 x y))):=by
 rw[Fa.mk_and (.inr hy),Fa.plain_some hd];exact Yk5
theorem Qqs (wd:Bool)(x y:Fa)(t:Tn)(p:BitVec 64)(hx:Fa.known x=some p)(hy:Fa.known y=none)(hd:Tn.do_ 64 x.t (y).t=none)(w:World):Calls Tryz.prog 150 #[.int .u8 64,.bool wd,.int .i16 0,x,y] w (RB.a w ((Fa.makes 64 wd 0 x y))):=by
 rw[Fa.mk_or (.inr hy),Fa.plain_none hd];exact Yjy
theorem Qqr (wd:Bool)(x y:Fa)(t:Tn)(p:BitVec 64)(hx:Fa.known x=some p)(hy:Fa.known y=none)(hd:Tn.do_ 64 x.t (y).t=some t)(w:World):Calls Tryz.prog 150 #[.int .u8 64,.bool wd,.int .i16 0,x,y] w (RB.a w ((Fa.makes 64 wd 0 x y))):=by
 rw[Fa.mk_or (.inr hy),Fa.plain_some hd];exact Yk6
theorem Qj9 (wd:Bool)(x y:Fa)(t:Tn)(p:BitVec 64)(hx:Fa.known x=some p)(hy:Fa.known y=none)(hd:Tn.do_ 160 x.t (y).t=none)(w:World):Calls Tryz.prog 150 #[.int .u8 160,.bool wd,.int .i16 0,x,y] w (RB.a w ((Fa.makes 160 wd 0 x y))):=by
 rw[Fa.mk_xor (.inr hy),Fa.plain_none hd];exact Yjz
theorem Qj8 (wd:Bool)(x y:Fa)(t:Tn)(p:BitVec 64)(hx:Fa.known x=some p)(hy:Fa.known y=none)(hd:Tn.do_ 160 x.t (y).t=some t)(w:World):Calls Tryz.prog 150 #[.int .u8 160,.bool wd,.int .i16 0,x,y] w (RB.a w ((Fa.makes 160 wd 0 x y))):=by
 rw[Fa.mk_xor (.inr hy),Fa.plain_some hd];exact Yk7
end Hk
