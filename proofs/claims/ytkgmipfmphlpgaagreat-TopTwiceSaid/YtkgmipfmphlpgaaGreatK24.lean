/- A part of TopTwice's proof; no condition. -/
import Derived.Test.YtkgmipfmphlpgaaGreatK22
import Derived.Test.YtkgmipfmphlpgaaGreatK23
open Go Go.RowKit Go.Proofs
set_option linter.all false
set_option maxRecDepth 100000
set_option maxHeartbeats 20000000
namespace Hk
theorem Qge (wd:Bool)(x y:Fa)(t:Tn)(hx:Fa.known x=none)(hy:Fa.known y=none)(hd:Tn.do_ 48 x.t (y).t=none)(w:World):Calls Tryz.prog 150 #[.int .u8 48,.bool wd,.int .i16 0,x,y] w (RB.a w ((Fa.makes 48 wd 0 x y))):=by
 rw[Fa.mk_div0 (.inl hx) Y1e,Fa.plain_none hd];exact Yk0
theorem Qgd (wd:Bool)(x y:Fa)(t:Tn)(hx:Fa.known x=none)(hy:Fa.known y=none)(hd:Tn.do_ 48 x.t (y).t=some t)(w:World):Calls Tryz.prog 150 #[.int .u8 48,.bool wd,.int .i16 0,x,y] w (RB.a w ((Fa.makes 48 wd 0 x y))):=by
 rw[Fa.mk_div0 (.inl hx) Y1e,Fa.plain_some hd];exact Yk8
theorem Qgc (wd:Bool)(x y:Fa)(t:Tn)(p:BitVec 64)(hx:Fa.known x=some p)(hy:Fa.known y=none)(hd:Tn.do_ 48 x.t (y).t=none)(w:World):Calls Tryz.prog 150 #[.int .u8 48,.bool wd,.int .i16 0,x,y] w (RB.a w ((Fa.makes 48 wd 0 x y))):=by
 rw[Fa.mk_div0 (.inr hy) Y1e,Fa.plain_none hd];exact Yk0
theorem Qgb (wd:Bool)(x y:Fa)(t:Tn)(p:BitVec 64)(hx:Fa.known x=some p)(hy:Fa.known y=none)(hd:Tn.do_ 48 x.t (y).t=some t)(w:World):Calls Tryz.prog 150 #[.int .u8 48,.bool wd,.int .i16 0,x,y] w (RB.a w ((Fa.makes 48 wd 0 x y))):=by
 rw[Fa.mk_div0 (.inr hy) Y1e,Fa.plain_some hd];exact Yk8
theorem Qga (wd:Bool)(x y:Fa)(t:Tn)(q:BitVec 64)(hx:Fa.known x=none)(hy:Fa.known y=some q)(hq:(q==0#64)=false)(hd:Tn.do_ 48 x.t (y).t=none)(w:World):Calls Tryz.prog 150 #[.int .u8 48,.bool wd,.int .i16 0,x,y] w (RB.a w ((Fa.makes 48 wd 0 x y))):=by
 rw[Fa.mk_div0 (.inl hx) Y1f,Fa.plain_none hd];exact Yk0
theorem Qg9 (wd:Bool)(x y:Fa)(t:Tn)(q:BitVec 64)(hx:Fa.known x=none)(hy:Fa.known y=some q)(hq:(q==0#64)=false)(hd:Tn.do_ 48 x.t (y).t=some t)(w:World):Calls Tryz.prog 150 #[.int .u8 48,.bool wd,.int .i16 0,x,y] w (RB.a w ((Fa.makes 48 wd 0 x y))):=by
 rw[Fa.mk_div0 (.inl hx) Y1f,Fa.plain_some hd];exact Yk8
theorem mk_div1 (wd:Bool)(x y:Fa)(hx:Fa.known x=none)(hy:Fa.known y=some 0#64)(w:World):Calls Tryz.prog 150 #[.int .u8 48,.bool wd,.int .i16 0,x,y] w (RB.a w ((Fa.makes 48 wd 0 x y))):=by
 rw[Fa.mk_div1 (.inl hx) hy];refine Yvw ?_;go_wp2_with (first|(go_at_call 60;refine Y5p ?_;intro w1 hb1 hc1 hf1 hz1)|(refine Yc7 ?_)|((with_reducible apply ic);refine Ybv ?_;intro w1 hb1 hc1 hf1 hz1));exact Yo6
theorem Qg4 (wd:Bool)(x y:Fa)(t:Tn)(hx:Fa.known x=none)(hy:Fa.known y=none)(hd:Tn.do_ 144 x.t (y).t=none)(w:World):Calls Tryz.prog 150 #[.int .u8 144,.bool wd,.int .i16 0,x,y] w (RB.a w ((Fa.makes 144 wd 0 x y))):=by
 rw[Fa.mk_mod0 (.inl hx) Y1e,Fa.plain_none hd];exact Yk1
theorem Qg3 (wd:Bool)(x y:Fa)(t:Tn)(hx:Fa.known x=none)(hy:Fa.known y=none)(hd:Tn.do_ 144 x.t (y).t=some t)(w:World):Calls Tryz.prog 150 #[.int .u8 144,.bool wd,.int .i16 0,x,y] w (RB.a w ((Fa.makes 144 wd 0 x y))):=by
 rw[Fa.mk_mod0 (.inl hx) Y1e,Fa.plain_some hd];exact Yk9
theorem Qg2 (wd:Bool)(x y:Fa)(t:Tn)(p:BitVec 64)(hx:Fa.known x=some p)(hy:Fa.known y=none)(hd:Tn.do_ 144 x.t (y).t=none)(w:World):Calls Tryz.prog 150 #[.int .u8 144,.bool wd,.int .i16 0,x,y] w (RB.a w ((Fa.makes 144 wd 0 x y))):=by
 rw[Fa.mk_mod0 (.inr hy) Y1e,Fa.plain_none hd];exact Yk1
theorem Qg1 (wd:Bool)(x y:Fa)(t:Tn)(p:BitVec 64)(hx:Fa.known x=some p)(hy:Fa.known y=none)(hd:Tn.do_ 144 x.t (y).t=some t)(w:World):Calls Tryz.prog 150 #[.int .u8 144,.bool wd,.int .i16 0,x,y] w (RB.a w ((Fa.makes 144 wd 0 x y))):=by
 rw[Fa.mk_mod0 (.inr hy) Y1e,Fa.plain_some hd];exact Yk9
theorem Qg0 (wd:Bool)(x y:Fa)(t:Tn)(q:BitVec 64)(hx:Fa.known x=none)(hy:Fa.known y=some q)(hq:(q==0#64)=false)(hd:Tn.do_ 144 x.t (y).t=none)(w:World):Calls Tryz.prog 150 #[.int .u8 144,.bool wd,.int .i16 0,x,y] w (RB.a w ((Fa.makes 144 wd 0 x y))):=by
 rw[Fa.mk_mod0 (.inl hx) Y1f,Fa.plain_none hd];exact Yk1
theorem Qfz (wd:Bool)(x y:Fa)(t:Tn)(q:BitVec 64)(hx:Fa.known x=none)(hy:Fa.known y=some q)(hq:(q==0#64)=false)(hd:Tn.do_ 144 x.t (y).t=some t)(w:World):Calls Tryz.prog 150 #[.int .u8 144,.bool wd,.int .i16 0,x,y] w (RB.a w ((Fa.makes 144 wd 0 x y))):=by
 rw[Fa.mk_mod0 (.inl hx) Y1f,Fa.plain_some hd];exact Yk9
theorem mk_mod1 (wd:Bool)(x y:Fa)(hx:Fa.known x=none)(hy:Fa.known y=some 0#64)(w:World):Calls Tryz.prog 150 #[.int .u8 144,.bool wd,.int .i16 0,x,y] w (RB.a w ((Fa.makes 144 wd 0 x y))):=by
 rw[Fa.mk_mod1 (.inl hx) hy];refine Yvw ?_;go_wp2_with (first|(go_at_call 60;refine Y5p ?_;intro w1 hb1 hc1 hf1 hz1)|(refine Yc8 ?_)|((with_reducible apply ic);refine Ybv ?_;intro w1 hb1 hc1 hf1 hz1));exact Yo6
theorem Qr3 (op:Int)(wd:Bool)(off:Int)(x y:Fa)(hx:Fa.known x=none)(w:World):Calls Tryz.prog 150 #[.int .u8 op,.bool wd,.int .i16 off,x,y] w (RB.a w ((Fa.makes op wd off x y))):=by
 by_cases h:¬ off=0
 · exact Qqw op off wd x y hx h w
 obtain rfl:=Classical.not_not.1 h;clear h;by_cases n176:op=176
 · subst n176;exact Qqz wd x y hx w
 by_cases n0:op=0
 · subst n0
   rcases hd:Tn.do_ 0 x.t y.t with _|t
   · exact Qjx wd x y ⟨0,0⟩ hx hd w
   · exact Qjw wd x y t hx hd w
 by_cases n16:op=16
 · subst n16
   rcases hd:Tn.do_ 16 x.t y.t with _|t
   · exact Qjf wd x y ⟨0,0⟩ hx hd w
   · exact Qje wd x y t hx hd w
 by_cases n32:op=32
 · subst n32
   rcases hd:Tn.do_ 32 x.t y.t with _|t
   · exact Qjl wd x y ⟨0,0⟩ hx hd w
   · exact Qjk wd x y t hx hd w
 by_cases n80:op=80
 · subst n80
   rcases hd:Tn.do_ 80 x.t y.t with _|t
   · exact Qjt wd x y ⟨0,0⟩ hx hd w
   · exact Qjs wd x y t hx hd w
 by_cases n64:op=64
 · subst n64
   rcases hd:Tn.do_ 64 x.t y.t with _|t
   · exact Qqu wd x y ⟨0,0⟩ hx hd w
   · exact Qqt wd x y t hx hd w
 by_cases n160:op=160
 · subst n160
   rcases hd:Tn.do_ 160 x.t y.t with _|t
   · exact Qjb wd x y ⟨0,0⟩ hx hd w
   · exact Qja wd x y t hx hd w
 by_cases n96:op=96
 · subst n96
   rcases hy:Fa.known y with _|q
   · exact Qjn wd x y hx hy w
   · cases wd
     · rcases hd:Tn.do_ 96 x.t (Fa.of (q &&& 31#64)).t with _|t
       · exact Qg8 x y ⟨0,0⟩ q hx hy hd w
       · exact Qg7 x y t q hx hy hd w
     · rcases hd:Tn.do_ 96 x.t (Fa.of (q &&& 63#64)).t with _|t
       · exact Qg6 x y ⟨0,0⟩ q hx hy hd w
       · exact Qg5 x y t q hx hy hd w
 by_cases n112:op=112
 · subst n112
   rcases hy:Fa.known y with _|q
   · exact Qjh wd x y hx hy w
   · cases wd
     · rcases hd:Tn.do_ 112 x.t (Fa.of (q &&& 31#64)).t with _|t
       · exact Qfx x y ⟨0,0⟩ q hx hy hd w
       · exact Qfw x y t q hx hy hd w
     · rcases hd:Tn.do_ 112 x.t (Fa.of (q &&& 63#64)).t with _|t
       · exact Qfv x y ⟨0,0⟩ q hx hy hd w
       · exact Qfu x y t q hx hy hd w
 by_cases n48:op=48
 · subst n48
   rcases hy:Fa.known y with _|q
   · rcases hd:Tn.do_ 48 x.t y.t with _|t
     · exact Qge wd x y ⟨0,0⟩ hx hy hd w
     · exact Qgd wd x y t hx hy hd w
   · cases hq:(q==0#64)
     · rcases hd:Tn.do_ 48 x.t y.t with _|t
       · exact Qga wd x y ⟨0,0⟩ q hx hy hq hd w
       · exact Qg9 wd x y t q hx hy hq hd w
     · obtain rfl:q=0#64:=by simpa using hq
       exact mk_div1 wd x y hx hy w
 by_cases n144:op=144
 · subst n144
   rcases hy:Fa.known y with _|q
   · rcases hd:Tn.do_ 144 x.t y.t with _|t
     · exact Qg4 wd x y ⟨0,0⟩ hx hy hd w
     · exact Qg3 wd x y t hx hy hd w
   · cases hq:(q==0#64)
     · rcases hd:Tn.do_ 144 x.t y.t with _|t
       · exact Qg0 wd x y ⟨0,0⟩ q hx hy hq hd w
       · exact Qfz wd x y t q hx hy hq hd w
     · obtain rfl:q=0#64:=by simpa using hq
       exact mk_mod1 wd x y hx hy w
 exact Qjp op wd x y hx n176 n0 n16 n32 n80 n64 n160 n96 n112 n48 n144 w
theorem Qr2 (op:Int)(wd:Bool)(off:Int)(x y:Fa)(p:BitVec 64)(hx:Fa.known x=some p)(hy:Fa.known y=none)(w:World):Calls Tryz.prog 150 #[.int .u8 op,.bool wd,.int .i16 off,x,y] w (RB.a w ((Fa.makes op wd off x y))):=by
 by_cases h:¬ off=0
 · exact Qqv op off wd x y p hx hy h w
 obtain rfl:=Classical.not_not.1 h;clear h;by_cases n176:op=176
 · subst n176;exact Qqy wd x y p hx hy w
 by_cases n0:op=0
 · subst n0
   rcases hd:Tn.do_ 0 x.t y.t with _|t
   · exact Qjv wd x y ⟨0,0⟩ p hx hy hd w
   · exact Qju wd x y t p hx hy hd w
 by_cases n16:op=16
 · subst n16
   rcases hd:Tn.do_ 16 x.t y.t with _|t
   · exact Qjd wd x y ⟨0,0⟩ p hx hy hd w
   · exact Qjc wd x y t p hx hy hd w
 by_cases n32:op=32
 · subst n32
   rcases hd:Tn.do_ 32 x.t y.t with _|t
   · exact Qjj wd x y ⟨0,0⟩ p hx hy hd w
   · exact Qji wd x y t p hx hy hd w
 by_cases n80:op=80
 · subst n80
   rcases hd:Tn.do_ 80 x.t y.t with _|t
   · exact Qjr wd x y ⟨0,0⟩ p hx hy hd w
   · exact Qjq wd x y t p hx hy hd w
 by_cases n64:op=64
 · subst n64
   rcases hd:Tn.do_ 64 x.t y.t with _|t
   · exact Qqs wd x y ⟨0,0⟩ p hx hy hd w
   · exact Qqr wd x y t p hx hy hd w
 by_cases n160:op=160
 · subst n160
   rcases hd:Tn.do_ 160 x.t y.t with _|t
   · exact Qj9 wd x y ⟨0,0⟩ p hx hy hd w
   · exact Qj8 wd x y t p hx hy hd w
 by_cases n48:op=48
 · subst n48
   rcases hd:Tn.do_ 48 x.t y.t with _|t
   · exact Qgc wd x y ⟨0,0⟩ p hx hy hd w
   · exact Qgb wd x y t p hx hy hd w
 by_cases n144:op=144
 · subst n144
   rcases hd:Tn.do_ 144 x.t y.t with _|t
   · exact Qg2 wd x y ⟨0,0⟩ p hx hy hd w
   · exact Qg1 wd x y t p hx hy hd w
 by_cases n96:op=96
 · subst n96;exact Qjm wd x y p hx hy w
 by_cases n112:op=112
 · subst n112;exact Qjg wd x y p hx hy w
 exact Qjo op wd x y p hx hy n176 n0 n16 n32 n80 n64 n160 n96 n112 n48 n144 w
theorem Qxz (op:Int)(wd:Bool)(off:Int)(x y:Fa)(w:World):Calls Tryz.prog 150 #[.int .u8 op,.bool wd,.int .i16 off,x,y] w (RB.a w ((Fa.makes op wd off x y))):=by
 rcases hx:Fa.known x with _|p
 · exact Qr3 op wd off x y hx w
 · rcases hy:Fa.known y with _|q
   · exact Qr2 op wd off x y p hx hy w
   · exact Qxy op off wd x y p q hx hy w
theorem Qdg (x0:Int)(x1:Bool)(x2:Int)(x3 y3 z3 u3:BitVec 64)(x4 y4 z4 u4:BitVec 64)(w:World):Calls Tryz.prog 150 #[.int .u8 x0,.bool x1,.int .i16 x2,(F4.a x3 y3 z3 u3),(F4.a x4 y4 z4 u4)] w (RB.a w ((Fa.makes x0 x1 x2 (⟨⟨x3,y3⟩,⟨z3,u3⟩⟩:Fa) (⟨⟨x4,y4⟩,⟨z4,u4⟩⟩:Fa)))):=by
 exact Qxz x0 x1 x2 (⟨⟨x3,y3⟩,⟨z3,u3⟩⟩:Fa) (⟨⟨x4,y4⟩,⟨z4,u4⟩⟩:Fa) w
theorem fdo_no0 (op off:Int)(a b:Fa)(wd:Bool)(h0:Alu.go op wd off 0#64 0#64=none)(w:World):Calls Tryz.prog 117 #[.int .u8 op,.bool wd,.int .i16 off,a,b] w (RB.a w (.tuple #[((Fa.do_ op wd off a b).getD Fa.zero),.int .i64 (if (Fa.do_ op wd off a b).isSome then 0 else 1)])):=by
 have E:Fa.do_ op wd off a b=none:=Fa.fdo_no0 h0;rw[E];clear E;simp only[Option.getD_some,Option.getD_none,Option.isSome_some,Option.isSome_none,if_true,Bool.false_eq_true,if_false];go_enter Tryz.func117,Tryz.ntmps117;go_wp2_with (go_at_call 149;refine Y5r ?_);exact Yo2
theorem fdo_no1 (op off:Int)(a b:Fa)(wd:Bool)(z:BitVec 64)(h0:Alu.go op wd off 0#64 0#64=some z)(h1:Fa.ok a=false)(w:World):Calls Tryz.prog 117 #[.int .u8 op,.bool wd,.int .i16 off,a,b] w (RB.a w (.tuple #[((Fa.do_ op wd off a b).getD Fa.zero),.int .i64 (if (Fa.do_ op wd off a b).isSome then 0 else 1)])):=by
 have E:Fa.do_ op wd off a b=none:=Fa.fdo_no1 h1;exact Ylp
theorem fdo_no2 (op off:Int)(a b:Fa)(wd:Bool)(z:BitVec 64)(h0:Alu.go op wd off 0#64 0#64=some z)(h1:Fa.ok a=true)(h2:Fa.ok b=false)(w:World):Calls Tryz.prog 117 #[.int .u8 op,.bool wd,.int .i16 off,a,b] w (RB.a w (.tuple #[((Fa.do_ op wd off a b).getD Fa.zero),.int .i64 (if (Fa.do_ op wd off a b).isSome then 0 else 1)])):=by
 have E:Fa.do_ op wd off a b=none:=Fa.fdo_no2 h2;exact Ylp
theorem fdo_w (op off:Int)(a b:Fa)(z:BitVec 64)(h0:Alu.go op true off 0#64 0#64=some z)(h1:Fa.ok a=true)(h2:Fa.ok b=true)(w:World):Calls Tryz.prog 117 #[.int .u8 op,.bool true,.int .i16 off,a,b] w (RB.a w (.tuple #[((Fa.do_ op true off a b).getD Fa.zero),.int .i64 (if (Fa.do_ op true off a b).isSome then 0 else 1)])):=by
 have E:Fa.do_ op true off a b=some (Fa.makes op true off a b):=Fa.fdo_w h0 h1 h2;rw[E];clear E;simp only[Option.getD_some,Option.getD_none,Option.isSome_some,Option.isSome_none,if_true,Bool.false_eq_true,if_false];go_enter Tryz.func117,Tryz.ntmps117;go_wp2_with ((with_reducible apply ic);first|(refine Y5r ?_)|(refine Yc9 ?_;intro w1 hb1 hc1 hf1 hz1));exact Yo2
def Q19u (a b z:Fa)(w:World)(w':World):Prop:=CFa.a w' w.heap.size a (CFa.a w' (w.heap.size+1) b (CFa.a w' (w.heap.size+1+1) z ((∀ i,w'.frozen? ⟨w.heap.size+1+1,i,none⟩=false)∧Below w.heap.size w w')))
theorem Qnx {a b z:Fa}{w:World}:KC (Q19u a b z w):=by
 exact Ymc
theorem fdo_n (op off:Int)(a b:Fa)(z:BitVec 64)(h0:Alu.go op false off 0#64 0#64=some z)(h1:Fa.ok a=true)(h2:Fa.ok b=true)(w:World):Calls Tryz.prog 117 #[.int .u8 op,.bool false,.int .i16 off,a,b] w (RB.a w (.tuple #[((Fa.do_ op false off a b).getD Fa.zero),.int .i64 (if (Fa.do_ op false off a b).isSome then 0 else 1)])):=by
 have E:Fa.do_ op false off a b=some (Fa.cut (Fa.makes op false off (Fa.cut a) (Fa.cut b))):=Fa.fdo_n h0 h1 h2;rw[E];clear E;simp only[Option.getD_some,Option.getD_none,Option.isSome_some,Option.isSome_none,if_true,Bool.false_eq_true,if_false];go_enter Tryz.func117,Tryz.ntmps117;go_wp2_with ((with_reducible apply ic);first|(refine Y5r ?_)|(refine Y3c ?_;intro w1 hb1 hc1 hf1 hz1));refine Q4 (Q19u a b Fa.zero w) 9 Yc Yc ?_ ?_
 · exact Ynv
 refine Yv4 ?_;intro hN;simp only[List.take_succ_cons,List.take_zero,List.drop_succ_cons,List.drop_zero]
 repeat (first
  | go_big_quiet_skip
  | (go_big_quiet_want
     first
      | (refine Qz rfl rfl (fun w' hC=>Yfq) ?_
         simp only[Act.put,List.setIfInBounds_toArray,List.set_cons_succ,List.set_cons_zero]
         go_big_quiet_on)
      | (refine Q21 rfl rfl (fun w' hC=>Yfr) ?_
         simp only[Act.put,List.setIfInBounds_toArray,List.set_cons_succ,List.set_cons_zero]
         go_big_quiet_on)
      | (go_big_quiet_op
         first
          | go_big_quiet_on
          | (apply Exists.intro
             refine⟨fun w' hC=>?_,?_⟩
             · (refine Yca ?_;intro w1 hb1)
               (try simp only[Tn.eta,Sp.eta,Fa.eta]);exact⟨rfl,by first|exact hC|exact Qnx _ _ hC hb1⟩
             go_big_quiet_on))))
 refine wpQuiet_nil ?_;intro w9 hC;obtain⟨k0,k1,k2,k3,k4,k5,k6,k7,k8,k9,k10,k11,k12,k13⟩:=hC;have z0:=Q1 k0;have z4:=Q1 k4;have z8:=Q1 k8;go_wp2;refine Yve ?_;simp only[results,Tryz.results117];simp[*,go_sem,↓IntWalk.iteOmega,Fa.zero];try (first|rfl|exact⟨rfl,rfl⟩)
theorem Q17d (op:Int)(wd:Bool)(off:Int)(a b:Fa)(w:World):Calls Tryz.prog 117 #[.int .u8 op,.bool wd,.int .i16 off,a,b] w (RB.a w (.tuple #[((Fa.do_ op wd off a b).getD Fa.zero),.int .i64 (if (Fa.do_ op wd off a b).isSome then 0 else 1)])):=by
 rcases h0:Alu.go op wd off 0#64 0#64 with _|z
 · exact fdo_no0 op off a b wd h0 w
 cases h1:Fa.ok a
 · exact fdo_no1 op off a b wd z h0 h1 w
 cases h2:Fa.ok b
 · exact fdo_no2 op off a b wd z h0 h1 h2 w
 cases wd
 · exact fdo_n op off a b z h0 h1 h2 w
 · exact fdo_w op off a b z h0 h1 h2 w
end Hk
