/- A part of TopTwice's proof; no condition. -/
import Derived.Test.YtkgmipfmphlpgaaGreatK21
open Go Go.RowKit Go.Proofs
set_option linter.all false
set_option maxRecDepth 100000
set_option maxHeartbeats 20000000
namespace Hk
theorem Qjn (wd:Bool)(x y:Fa)(hx:Fa.known x=none)(hy:Fa.known y=none)(w:World):Calls Tryz.prog 150 #[.int .u8 96,.bool wd,.int .i16 0,x,y] w (RB.a w ((Fa.makes 96 wd 0 x y))):=by
 rw[Fa.mk_lsh0 (.inl hx) hy];exact Ym7
theorem Qjm (wd:Bool)(x y:Fa)(p:BitVec 64)(hx:Fa.known x=some p)(hy:Fa.known y=none)(w:World):Calls Tryz.prog 150 #[.int .u8 96,.bool wd,.int .i16 0,x,y] w (RB.a w ((Fa.makes 96 wd 0 x y))):=by
 rw[Fa.mk_lsh0 (.inr hy) hy];exact Ym7
theorem Qg6 (x y:Fa)(t:Tn)(q:BitVec 64)(hx:Fa.known x=none)(hy:Fa.known y=some q)(hd:Tn.do_ 96 x.t (Fa.of (q &&& 63#64)).t=none)(w:World):Calls Tryz.prog 150 #[.int .u8 96,.bool true,.int .i16 0,x,y] w (RB.a w ((Fa.makes 96 true 0 x y))):=by
 rw[(show Fa.makes 96 true 0 x y=Fa.plainDo 96 x (Fa.of (q &&& 63#64)) from Fa.mk_lsh1 (.inl hx) hy),Fa.plain_none hd];refine Yvw ?_;go_wp2_with (first|(go_at_call 60;refine Y5p ?_;intro w1 hb1 hc1 hf1 hz1)|(refine Yc5 ?_)|((with_reducible apply ic);refine Ybv ?_;intro w1 hb1 hc1 hf1 hz1));exact Ykf
theorem Qg5 (x y:Fa)(t:Tn)(q:BitVec 64)(hx:Fa.known x=none)(hy:Fa.known y=some q)(hd:Tn.do_ 96 x.t (Fa.of (q &&& 63#64)).t=some t)(w:World):Calls Tryz.prog 150 #[.int .u8 96,.bool true,.int .i16 0,x,y] w (RB.a w ((Fa.makes 96 true 0 x y))):=by
 rw[(show Fa.makes 96 true 0 x y=Fa.plainDo 96 x (Fa.of (q &&& 63#64)) from Fa.mk_lsh1 (.inl hx) hy),Fa.plain_some hd];refine Yvw ?_;go_wp2_with (first|(go_at_call 60;refine Y5p ?_;intro w1 hb1 hc1 hf1 hz1)|(refine Yc5 ?_)|((with_reducible apply ic);refine Ybv ?_;intro w1 hb1 hc1 hf1 hz1));exact Yki
theorem Qg8 (x y:Fa)(t:Tn)(q:BitVec 64)(hx:Fa.known x=none)(hy:Fa.known y=some q)(hd:Tn.do_ 96 x.t (Fa.of (q &&& 31#64)).t=none)(w:World):Calls Tryz.prog 150 #[.int .u8 96,.bool false,.int .i16 0,x,y] w (RB.a w ((Fa.makes 96 false 0 x y))):=by
 rw[(show Fa.makes 96 false 0 x y=Fa.plainDo 96 x (Fa.of (q &&& 31#64)) from Fa.mk_lsh1 (.inl hx) hy),Fa.plain_none hd];refine Yvw ?_;go_wp2_with (first|(go_at_call 60;refine Y5p ?_;intro w1 hb1 hc1 hf1 hz1)|(refine Yc5 ?_)|((with_reducible apply ic);refine Ybv ?_;intro w1 hb1 hc1 hf1 hz1));exact Ykg
theorem Qg7 (x y:Fa)(t:Tn)(q:BitVec 64)(hx:Fa.known x=none)(hy:Fa.known y=some q)(hd:Tn.do_ 96 x.t (Fa.of (q &&& 31#64)).t=some t)(w:World):Calls Tryz.prog 150 #[.int .u8 96,.bool false,.int .i16 0,x,y] w (RB.a w ((Fa.makes 96 false 0 x y))):=by
 rw[(show Fa.makes 96 false 0 x y=Fa.plainDo 96 x (Fa.of (q &&& 31#64)) from Fa.mk_lsh1 (.inl hx) hy),Fa.plain_some hd];refine Yvw ?_;go_wp2_with (first|(go_at_call 60;refine Y5p ?_;intro w1 hb1 hc1 hf1 hz1)|(refine Yc5 ?_)|((with_reducible apply ic);refine Ybv ?_;intro w1 hb1 hc1 hf1 hz1));exact Ykj
theorem Qjh (wd:Bool)(x y:Fa)(hx:Fa.known x=none)(hy:Fa.known y=none)(w:World):Calls Tryz.prog 150 #[.int .u8 112,.bool wd,.int .i16 0,x,y] w (RB.a w ((Fa.makes 112 wd 0 x y))):=by
 rw[Fa.mk_rsh0 (.inl hx) hy];exact Ym8
theorem Qjg (wd:Bool)(x y:Fa)(p:BitVec 64)(hx:Fa.known x=some p)(hy:Fa.known y=none)(w:World):Calls Tryz.prog 150 #[.int .u8 112,.bool wd,.int .i16 0,x,y] w (RB.a w ((Fa.makes 112 wd 0 x y))):=by
 rw[Fa.mk_rsh0 (.inr hy) hy];exact Ym8
theorem Qfv (x y:Fa)(t:Tn)(q:BitVec 64)(hx:Fa.known x=none)(hy:Fa.known y=some q)(hd:Tn.do_ 112 x.t (Fa.of (q &&& 63#64)).t=none)(w:World):Calls Tryz.prog 150 #[.int .u8 112,.bool true,.int .i16 0,x,y] w (RB.a w ((Fa.makes 112 true 0 x y))):=by
 rw[(show Fa.makes 112 true 0 x y=Fa.plainDo 112 x (Fa.of (q &&& 63#64)) from Fa.mk_rsh1 (.inl hx) hy),Fa.plain_none hd];refine Yvw ?_;go_wp2_with (first|(go_at_call 60;refine Y5p ?_;intro w1 hb1 hc1 hf1 hz1)|(refine Yc6 ?_)|((with_reducible apply ic);refine Ybv ?_;intro w1 hb1 hc1 hf1 hz1));exact Ykf
theorem Qfu (x y:Fa)(t:Tn)(q:BitVec 64)(hx:Fa.known x=none)(hy:Fa.known y=some q)(hd:Tn.do_ 112 x.t (Fa.of (q &&& 63#64)).t=some t)(w:World):Calls Tryz.prog 150 #[.int .u8 112,.bool true,.int .i16 0,x,y] w (RB.a w ((Fa.makes 112 true 0 x y))):=by
 rw[(show Fa.makes 112 true 0 x y=Fa.plainDo 112 x (Fa.of (q &&& 63#64)) from Fa.mk_rsh1 (.inl hx) hy),Fa.plain_some hd];refine Yvw ?_;go_wp2_with (first|(go_at_call 60;refine Y5p ?_;intro w1 hb1 hc1 hf1 hz1)|(refine Yc6 ?_)|((with_reducible apply ic);refine Ybv ?_;intro w1 hb1 hc1 hf1 hz1));exact Yki
theorem Qfx (x y:Fa)(t:Tn)(q:BitVec 64)(hx:Fa.known x=none)(hy:Fa.known y=some q)(hd:Tn.do_ 112 x.t (Fa.of (q &&& 31#64)).t=none)(w:World):Calls Tryz.prog 150 #[.int .u8 112,.bool false,.int .i16 0,x,y] w (RB.a w ((Fa.makes 112 false 0 x y))):=by
 rw[(show Fa.makes 112 false 0 x y=Fa.plainDo 112 x (Fa.of (q &&& 31#64)) from Fa.mk_rsh1 (.inl hx) hy),Fa.plain_none hd];refine Yvw ?_;go_wp2_with (first|(go_at_call 60;refine Y5p ?_;intro w1 hb1 hc1 hf1 hz1)|(refine Yc6 ?_)|((with_reducible apply ic);refine Ybv ?_;intro w1 hb1 hc1 hf1 hz1));exact Ykg
theorem Qfw (x y:Fa)(t:Tn)(q:BitVec 64)(hx:Fa.known x=none)(hy:Fa.known y=some q)(hd:Tn.do_ 112 x.t (Fa.of (q &&& 31#64)).t=some t)(w:World):Calls Tryz.prog 150 #[.int .u8 112,.bool false,.int .i16 0,x,y] w (RB.a w ((Fa.makes 112 false 0 x y))):=by
 rw[(show Fa.makes 112 false 0 x y=Fa.plainDo 112 x (Fa.of (q &&& 31#64)) from Fa.mk_rsh1 (.inl hx) hy),Fa.plain_some hd];refine Yvw ?_;go_wp2_with (first|(go_at_call 60;refine Y5p ?_;intro w1 hb1 hc1 hf1 hz1)|(refine Yc6 ?_)|((with_reducible apply ic);refine Ybv ?_;intro w1 hb1 hc1 hf1 hz1));exact Ykj
end Hk
