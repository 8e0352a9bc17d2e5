/- A part of the proof of TopTwice. No condition but each statement's own. -/
import Derived.Test.YtkgmipfmphlpgaaGreatK12
import Derived.Test.YtkgmipfmphlpgaaGreatK02
open Go Go.RowKit Go.Proofs
set_option linter.all false
set_option maxRecDepth 100000
set_option maxHeartbeats 20000000
namespace Hk
theorem Qpw (f:Fa)(w:World):Calls Tryz.prog 100 #[f] w (RB.a w (.tuple #[((Fa.settle f).getD Fa.zero),.bool (Fa.settle f).isSome])):=by
 cases h1:f.t.right
 · exact settle_no1 f h1 w
 · cases h2:f.s.right
   · exact settle_no2 f h1 h2 w
   · exact Qfe f h1 h2 w
theorem Q2j (x0 y0 z0 u0:BitVec 64)(w:World):Calls Tryz.prog 100 #[(F4.a x0 y0 z0 u0)] w (RB.a w (.tuple #[((Fa.settle (⟨⟨x0,y0⟩,⟨z0,u0⟩⟩:Fa)).getD Fa.zero),.bool (Fa.settle (⟨⟨x0,y0⟩,⟨z0,u0⟩⟩:Fa)).isSome])):=by
 exact Qpw (⟨⟨x0,y0⟩,⟨z0,u0⟩⟩:Fa) w
theorem Qc2 (f:Fa)(h:Fa.settle f=none)(w:World):Calls Tryz.prog 75 #[f] w (RB.a w (.bool (false))):=by
 exact Yo5
theorem Qc1 (f:Fa)(h:Fa.settle f=some f)(w:World):Calls Tryz.prog 75 #[f] w (RB.a w (.bool (true))):=by
 exact Yo5
theorem Qrr (f:Fa)(g:Fa)(h:Fa.settle f=some g)(e0:(f.t.v==g.t.v)=false)(w:World):Calls Tryz.prog 75 #[f] w (RB.a w (.bool (false))):=by
 exact Yo5
theorem Qrq (f:Fa)(g:Fa)(h:Fa.settle f=some g)(e0:(f.t.v==g.t.v)=true)(e1:(f.t.m==g.t.m)=false)(w:World):Calls Tryz.prog 75 #[f] w (RB.a w (.bool (false))):=by
 exact Yo5
theorem Qrp (f:Fa)(g:Fa)(h:Fa.settle f=some g)(e0:(f.t.v==g.t.v)=true)(e1:(f.t.m==g.t.m)=true)(e2:(f.s.lo==g.s.lo)=false)(w:World):Calls Tryz.prog 75 #[f] w (RB.a w (.bool (false))):=by
 exact Yo5
theorem Qro (f:Fa)(g:Fa)(h:Fa.settle f=some g)(e0:(f.t.v==g.t.v)=true)(e1:(f.t.m==g.t.m)=true)(e2:(f.s.lo==g.s.lo)=true)(e3:(f.s.hi==g.s.hi)=false)(w:World):Calls Tryz.prog 75 #[f] w (RB.a w (.bool (false))):=by
 exact Yo5
theorem Qrn (f:Fa)(w:World):Calls Tryz.prog 75 #[f] w (RB.a w (.bool ((Fa.ok f)))):=by
 rcases h:Fa.settle f with _|g
 · rw[Fa.ok_none h];exact Qc2 f h w
 · by_cases e:g=f
   · subst e;rw[Fa.ok_same h];exact Qc1 g h w
   · rw[Fa.ok_ne h e]
     cases e0:(f.t.v==g.t.v)
     · exact Qrr f g h e0 w
     cases e1:(f.t.m==g.t.m)
     · exact Qrq f g h e0 e1 w
     cases e2:(f.s.lo==g.s.lo)
     · exact Qrp f g h e0 e1 e2 w
     cases e3:(f.s.hi==g.s.hi)
     · exact Qro f g h e0 e1 e2 e3 w
     exact absurd (Fa.fa_eq e0 e1 e2 e3) e
theorem Q9l (x0 y0 z0 u0:BitVec 64)(w:World):Calls Tryz.prog 75 #[(F4.a x0 y0 z0 u0)] w (RB.a w (.bool (Fa.ok (⟨⟨x0,y0⟩,⟨z0,u0⟩⟩:Fa)))):=by
 exact Qrn (⟨⟨x0,y0⟩,⟨z0,u0⟩⟩:Fa) w
end Hk
namespace Hk
theorem Qgg (t:Tn)(s:Sp)(w:World):Calls Tryz.prog 135 #[t,s] w (RB.a w ((Fa.settled t s))):=by
 go_enter Tryz.func135,Tryz.ntmps135;go_wp2_with (go_at_call 100;refine Y39 ?_;intro w1 hb1 hc1 hf1 hz1);refine Yve ?_;simp only[results,Tryz.results135];simp[*,go_sem,↓IntWalk.iteOmega,Fa.settled];try (first|rfl|exact⟨rfl,rfl⟩)
theorem Q49 (x0 y0:BitVec 64)(x1 y1:BitVec 64)(w:World):Calls Tryz.prog 135 #[(W2.a x0 y0),(W2.a x1 y1)] w (RB.a w ((Fa.settled (⟨x0,y0⟩:Tn) (⟨x1,y1⟩:Sp)))):=by
 exact Qgg (⟨x0,y0⟩:Tn) (⟨x1,y1⟩:Sp) w
theorem Q17a (n:BitVec 64)(w:World):Calls Tryz.prog 123 #[.int .u64 (N n)] w (RB.a w ((Fa.of n))):=by
 go_enter Tryz.func123,Tryz.ntmps123;go_wp2_with (go_at_call 154;refine Y3a ?_;intro w1 hb1 hc1 hf1 hz1);refine Yve ?_;simp only[results,Tryz.results123];simp[*,go_sem,↓IntWalk.iteOmega,Fa.of,Tn.of];try (first|rfl|exact⟨rfl,rfl⟩)
theorem Q149 (x0:BitVec 64)(w:World):Calls Tryz.prog 123 #[.int .u64 (N x0)] w (RB.a w ((Fa.of x0))):=by
 exact Q17a x0 w
theorem Q14j  (w:World):Calls Tryz.prog 121 #[] w (RB.a w (Fa.any)):=by
 go_enter Tryz.func121,Tryz.ntmps121;go_wp2_with (go_at_call 153;refine Y3b ?_;intro w1 hb1 hc1 hf1 hz1);refine Yve ?_;simp only[results,Tryz.results121];simp[*,go_sem,↓IntWalk.iteOmega,Fa.any,Sp.all];try (first|rfl|exact⟨rfl,rfl⟩)
theorem Qs0 (f:Fa)(w:World):Calls Tryz.prog 60 #[f] w (RB.a w (.tuple #[.int .u64 (N ((Fa.known f).getD 0#64)),.bool (Fa.known f).isSome])):=by
 cases h1:(f.t.m==0#64)<;>cases h2:Fa.ok f
 all_goals
  rw[Fa.known_is,h1,h2];simp only[Bool.and_self,Bool.and_true,Bool.true_and,Bool.and_false,Bool.false_and,Bool.false_eq_true,if_true,if_false,Option.getD_some,Option.getD_none,Option.isSome_some,Option.isSome_none];go_enter Tryz.func60,Tryz.ntmps60;go_wp2_with (go_at_call 75;refine Y3c ?_;intro w1 hb1 hc1 hf1 hz1);go_ret2;exact⟨rfl,Yb⟩
theorem Q3u (x0 y0 z0 u0:BitVec 64)(w:World):Calls Tryz.prog 60 #[(F4.a x0 y0 z0 u0)] w (RB.a w (.tuple #[.int .u64 (N ((Fa.known (⟨⟨x0,y0⟩,⟨z0,u0⟩⟩:Fa)).getD 0#64)),.bool (Fa.known (⟨⟨x0,y0⟩,⟨z0,u0⟩⟩:Fa)).isSome])):=by
 exact Qs0 (⟨⟨x0,y0⟩,⟨z0,u0⟩⟩:Fa) w
theorem Qkc (a b:Fa)(w:World):Calls Tryz.prog 85 #[a,b] w (RB.a w (.bool ((Fa.within a b)))):=by
 cases h1:Fa.ok a<;>cases h2:Fa.ok b<;>cases h3:a.t.within b.t<;>cases h4:a.s.within b.s
 all_goals
  go_enter Tryz.func85,Tryz.ntmps85;go_wp2_with ((with_reducible apply ic);refine Yb3 ?_;intro w1 hb1 hc1 hf1 hz1);go_ret;exact⟨by simp[Fa.within,h1,h2,h3,h4],Yb⟩
theorem Qgf (x0 y0 z0 u0:BitVec 64)(x1 y1 z1 u1:BitVec 64)(w:World):Calls Tryz.prog 85 #[(F4.a x0 y0 z0 u0),(F4.a x1 y1 z1 u1)] w (RB.a w (.bool ((Fa.within (⟨⟨x0,y0⟩,⟨z0,u0⟩⟩:Fa) (⟨⟨x1,y1⟩,⟨z1,u1⟩⟩:Fa))))):=by
 exact Qkc (⟨⟨x0,y0⟩,⟨z0,u0⟩⟩:Fa) (⟨⟨x1,y1⟩,⟨z1,u1⟩⟩:Fa) w
end Hk
namespace Hk
attribute [go_sem] Vl.eta
theorem Qxg (o:Int)(w:World):Calls Tryz.prog 107 #[.int .i64 o] w (RB.a w (.bool (Vl.reach o))):=by
 cases h1:decide (-1048576≤o)<;>cases h2:decide (o≤1048576)
 all_goals
  go_enter Tryz.func107,Tryz.ntmps107;go_wp2;go_ret;exact⟨by simp[Vl.reach, *],Yb⟩
def VlC (v:Vl)(w:World)(w':World):Prop:=CVl.a w' w.heap.size v (Below w.heap.size w w')
theorem Qoj (v:Vl)(h1:decide (v.i<0)=true)(w:World):Calls Tryz.prog 84 #[v] w (RB.a w (.bool (Vl.right v))):=by
 exact You
theorem Qoi (v:Vl)(h1:decide (v.i<0)=false)(h2:decide (8≤v.i)=true)(w:World):Calls Tryz.prog 84 #[v] w (RB.a w (.bool (Vl.right v))):=by
 exact You
theorem Qi7 (v:Vl)(h1:decide (v.i<0)=false)(h2:decide (8≤v.i)=false)(h3:Vl.reach v.off=false)(w:World):Calls Tryz.prog 84 #[v] w (RB.a w (.bool (Vl.right v))):=by
 exact You
theorem Qi6 (v:Vl)(h1:decide (v.i<0)=false)(h2:decide (8≤v.i)=false)(h3:Vl.reach v.off=true)(w:World):Calls Tryz.prog 84 #[v] w (RB.a w (.bool (Vl.right v))):=by
 go_enter Tryz.func84,Tryz.ntmps84
 go_upto_region 3 with (go_at_call 107;refine Y3f ?_;intro w1 hb1 hc1 hf1 hz1)
 go_cut [0,3] (fun s0 s wx=>s0=v∧s=.bool (Vl.isZ v.f)∧VlC v w wx)
 case first =>
  go_wp2_with fail
  all_goals (go_meet;refine⟨by simp[*],by simp[Vl.isZ, *],⟨?_,?_,?_,?_,?_,?_,?_,Yb⟩⟩<;>(simp[*,go_sem,↓IntWalk.iteOmega];done))
 case rest =>
  obtain⟨rfl,rfl,hC⟩:=hcut;obtain⟨k0,k1,k2,k3,k4,k5,k6,k7⟩:=hC;have z0:=Q1 k0;generalize hz:Vl.isZ v.f=z;by_cases e0:v.k=0
  · cases z<;>by_cases i0:v.i=0<;>by_cases o0:v.off=0<;>(go_wp2;(go_ret;exact⟨Yfo,Yb⟩))
  by_cases e1:v.k=1
  · by_cases i0:v.i=0<;>by_cases o0:v.off=0<;>(go_wp2_with (go_at_call 75;refine Y3c ?_;intro w1 hb1 hc1 hf1 hz1);(go_ret;exact⟨Yfo,Yb⟩))
  by_cases e2:v.k=2
  · exact Ysj
  by_cases e3:v.k=3
  · exact Ysj
  by_cases e4:v.k=4
  · exact Ysf
  by_cases e6:v.k=6
  · exact Ysf
  by_cases e5:v.k=5
  · cases z<;>(go_wp2;(go_ret;exact⟨Yfo,Yb⟩))
  · go_wp2
    (go_ret;exact⟨Yfo,Yb⟩)
theorem Qoh (v:Vl)(w:World):Calls Tryz.prog 84 #[v] w (RB.a w (.bool (Vl.right v))):=by
 cases h1:decide (v.i<0)
 · cases h2:decide (8≤v.i)
   · cases h3:Vl.reach v.off
     · exact Qi7 v h1 h2 h3 w
     · exact Qi6 v h1 h2 h3 w
   · exact Qoi v h1 h2 w
 · exact Qoj v h1 w
theorem Q8o (k0:Int)(x0 y0 z0 u0:BitVec 64)(i0 o0:Int)(w:World):Calls Tryz.prog 84 #[.agg #[.int .u8 k0,.int .u64 (N x0),.int .u64 (N y0),.int .u64 (N z0),.int .u64 (N u0),.int .i64 i0,.int .i64 o0]] w (RB.a w (.bool (Vl.right (⟨k0,⟨⟨x0,y0⟩,⟨z0,u0⟩⟩,i0,o0⟩:Vl)))):=by
 exact Qoh (⟨k0,⟨⟨x0,y0⟩,⟨z0,u0⟩⟩,i0,o0⟩:Vl) w
end Hk
namespace Hk
attribute [go_sem] Tn.eta Vl.eta
@[go_sem] theorem Q15u (x:BitVec 64):IntKind.i64.wrap (N x)=x.toInt:=by
 have h:=x.isLt;rw[BitVec.toInt_eq_toNat_cond];show (if (true && decide (N x % 18446744073709551616 ≥ 9223372036854775808))=true then N x % 18446744073709551616 - 18446744073709551616 else N x % 18446744073709551616)=_;unfold N;simp only[Bool.true_and,decide_eq_true_eq];have e3:(2:Nat) ^ 64=18446744073709551616:=Y0;rw[e3] at h ⊢;split<;>split<;>omega
attribute [go_sem low] Q3m
@[go_sem high] theorem Q183 (x:BitVec 64):N x / 4294967296=N (x >>> 32):=by
 unfold N;rw[BitVec.toNat_ushiftRight,Nat.shiftRight_eq_div_pow];rfl
@[go_sem high] theorem Qwc (x:BitVec 64):((x.toNat:Int) >>> 32)=N (x >>> 32):=by
 unfold N;rw[BitVec.toNat_ushiftRight];rfl
@[go_sem] theorem Q11f (x:BitVec 64):BitVec.ofInt 64 x.toInt=x:=BitVec.ofInt_toInt
end Hk
namespace Hk
def Qvh (a b z:Fa)(w:World)(w':World):Prop:=CFa.a w' w.heap.size a (CFa.a w' (w.heap.size+1) b (CFa.a w' (w.heap.size+1+1) z ((∀ i,w'.frozen? ⟨w.heap.size+1+1,i,none⟩=false)∧Below w.heap.size w w')))
theorem Qd2 {a b z:Fa}{w:World}:KC (Qvh a b z w):=by
 exact Ymc
theorem Qko (a b:Fa)(h1:Fa.ok a=false)(w:World):Calls Tryz.prog 98 #[a,b] w (RB.a w ((Fa.join a b))):=by
 rw[Fa.join_no1 h1];exact Yn3
theorem Qkn (a b:Fa)(h1:Fa.ok a=true)(h2:Fa.ok b=false)(w:World):Calls Tryz.prog 98 #[a,b] w (RB.a w ((Fa.join a b))):=by
 rw[Fa.join_no2 h1 h2];exact Yn3
theorem Qkm (a b:Fa)(h1:Fa.ok a=true)(h2:Fa.ok b=true)(w:World):Calls Tryz.prog 98 #[a,b] w (RB.a w ((Fa.join a b))):=by
 rw[Fa.join_yes h1 h2];go_enter Tryz.func98,Tryz.ntmps98;go_wp2_with (go_at_call 75;refine Y3c ?_;intro w1 hb1 hc1 hf1 hz1);refine Q4 (Qvh a b Fa.zero w) 11 Yc Yc ?_ ?_
 · exact Ynv
 refine Yv4 ?_;intro hN;simp only[List.take_succ_cons,List.take_zero,List.drop_succ_cons,List.drop_zero]
 repeat (first
  | go_big_quiet_skip
  | (go_big_quiet_want
     first
      | (refine Q3e rfl rfl (fun w' hC=>Yfp) ?_
         simp only[Act.put,List.setIfInBounds_toArray,List.set_cons_succ,List.set_cons_zero]
         go_big_quiet_on)
      | (refine Q3f rfl rfl (fun w' hC=>Yfp) ?_
         simp only[Act.put,List.setIfInBounds_toArray,List.set_cons_succ,List.set_cons_zero]
         go_big_quiet_on)
      | (refine Qz rfl rfl (fun w' hC=>Yfq) ?_
         simp only[Act.put,List.setIfInBounds_toArray,List.set_cons_succ,List.set_cons_zero]
         go_big_quiet_on)
      | (refine Q21 rfl rfl (fun w' hC=>Yfr) ?_
         simp only[Act.put,List.setIfInBounds_toArray,List.set_cons_succ,List.set_cons_zero]
         go_big_quiet_on)
      | (go_big_quiet_op
         first
          | go_big_quiet_on
          | (apply Exists.intro
             refine⟨fun w' hC=>?_,?_⟩
             · (refine Yb4 ?_;intro w1 hb1)
               (try simp only[Tn.eta,Sp.eta,Fa.eta]);exact⟨rfl,by first|exact hC|exact Qd2 _ _ hC hb1⟩
             go_big_quiet_on))))
 refine wpQuiet_nil ?_;intro w9 hC;obtain⟨k0,k1,k2,k3,k4,k5,k6,k7,k8,k9,k10,k11,k12,k13⟩:=hC;have z0:=Q1 k0;have z4:=Q1 k4;have z8:=Q1 k8;go_wp2;refine Yve ?_;simp only[results,Tryz.results98];simp[*,go_sem,↓IntWalk.iteOmega];try (first|rfl|exact⟨rfl,rfl⟩)
theorem Qyk (a b:Fa)(w:World):Calls Tryz.prog 98 #[a,b] w (RB.a w ((Fa.join a b))):=by
 cases h1:Fa.ok a
 · exact Qko a b h1 w
 cases h2:Fa.ok b
 · exact Qkn a b h1 h2 w
 exact Qkm a b h1 h2 w
theorem Qs1 (x0 y0 z0 u0:BitVec 64)(x1 y1 z1 u1:BitVec 64)(w:World):Calls Tryz.prog 98 #[(F4.a x0 y0 z0 u0),(F4.a x1 y1 z1 u1)] w (RB.a w ((Fa.join (⟨⟨x0,y0⟩,⟨z0,u0⟩⟩:Fa) (⟨⟨x1,y1⟩,⟨z1,u1⟩⟩:Fa)))):=by
 exact Qyk (⟨⟨x0,y0⟩,⟨z0,u0⟩⟩:Fa) (⟨⟨x1,y1⟩,⟨z1,u1⟩⟩:Fa) w
def Q113 (f z:Fa)(s:Sp)(w wR:World)(w':World):Prop:=CFa.a w' w.heap.size f (CFa.a w' (w.heap.size+1) z (CSp.a w' wR.heap.size s ((∀ i,w'.frozen? ⟨w.heap.size+1,i,none⟩=false)∧Below w.heap.size w w')))
theorem Qhi {f z:Fa}{s:Sp}{w wR:World}:KC (Q113 f z s w wR):=by
 intro w' w1 h hb;obtain⟨k0,k1,k2,k3,k4,k5,k6,k7,k8,k9,k10,k11⟩:=h;exact⟨Q0 hb k0,Q0 hb k1,Q0 hb k2,Q0 hb k3,Q0 hb k4,Q0 hb k5,Q0 hb k6,Q0 hb k7,Q0 hb k8,Q0 hb k9,Q7 hb k4 k10,Q8 k11 hb⟩
theorem Qz1 (f:Fa)(h1:Fa.ok f=false)(w:World):Calls Tryz.prog 151 #[f] w (RB.a w ((Fa.cut f))):=by
 rw[Fa.cut_no h1];go_enter Tryz.func151,Tryz.ntmps151;go_wp2_with (go_at_call 75;refine Y3c ?_;intro w1 hb1 hc1 hf1 hz1);refine Yve ?_;simp only[results,Tryz.results151];simp[*,go_sem,↓IntWalk.iteOmega,Fa.zero];try (first|rfl|exact⟨rfl,rfl⟩)
theorem Q14g (f:Fa)(h1:Fa.ok f=true)(h2:decide (4294967296#64≤f.s.hi)=true)(w:World):Calls Tryz.prog 151 #[f] w (RB.a w ((Fa.cut f))):=by
 rw[Fa.cut_t h1 h2];go_enter Tryz.func151,Tryz.ntmps151;go_wp2_with fail;refine Yuv ?_;rintro e wR ⟨rfl,hbwR⟩;obtain⟨hcwR,hfwR,hzwR⟩:=Q17 hbwR;(try simp only[World.size_alloc,World.size_setCell,World.size_drew] at hcwR hfwR hzwR);go_wp2_with fail;refine Q4 (Q113 f Fa.zero ⟨0#64,4294967295#64⟩ w wR) 5 Yc Yc ?_ ?_
 · exact Yny
 exact Ylj
theorem Q14h (f:Fa)(h1:Fa.ok f=true)(h2:decide (4294967296#64≤f.s.hi)=false)(w:World):Calls Tryz.prog 151 #[f] w (RB.a w ((Fa.cut f))):=by
 rw[Fa.cut_f h1 h2];go_enter Tryz.func151,Tryz.ntmps151;go_wp2_with fail;refine Yuv ?_;rintro e wR ⟨rfl,hbwR⟩;obtain⟨hcwR,hfwR,hzwR⟩:=Q17 hbwR;(try simp only[World.size_alloc,World.size_setCell,World.size_drew] at hcwR hfwR hzwR);go_wp2_with fail;refine Q4 (Q113 f Fa.zero f.s w wR) 5 Yc Yc ?_ ?_
 · exact Yny
 exact Ylj
theorem Q14i (f:Fa)(w:World):Calls Tryz.prog 151 #[f] w (RB.a w ((Fa.cut f))):=by
 cases h1:Fa.ok f
 · exact Qz1 f h1 w
 cases h2:decide (4294967296#64≤f.s.hi)
 · exact Q14h f h1 h2 w
 exact Q14g f h1 h2 w
theorem Qz2 (x0 y0 z0 u0:BitVec 64)(w:World):Calls Tryz.prog 151 #[(F4.a x0 y0 z0 u0)] w (RB.a w ((Fa.cut (⟨⟨x0,y0⟩,⟨z0,u0⟩⟩:Fa)))):=by
 exact Q14i (⟨⟨x0,y0⟩,⟨z0,u0⟩⟩:Fa) w
end Hk
namespace Hk
theorem Q12d (f:Fa)(w:World):Calls Tryz.prog 97 #[f] w (RB.a w ((Vl.num f))):=by
 cases h1:Fa.ok f
 all_goals
  go_enter Tryz.func97,Tryz.ntmps97;go_wp2_with (go_at_call 75;refine Y3c ?_;intro w1 hb1 hc1 hf1 hz1);refine bodyPost_ret ?_ rfl ⟨rfl,Yb⟩;simp only[results,Tryz.results97];simp[*,go_sem,↓IntWalk.iteOmega,Vl.num,Vl.zero,Vl.join,Vl.move,Fa.zero];try (first|rfl|exact⟨rfl,rfl⟩)
theorem Qaq (x0 y0 z0 u0:BitVec 64)(w:World):Calls Tryz.prog 97 #[(F4.a x0 y0 z0 u0)] w (RB.a w ((Vl.num (⟨⟨x0,y0⟩,⟨z0,u0⟩⟩:Fa)))):=by
 exact Q12d (⟨⟨x0,y0⟩,⟨z0,u0⟩⟩:Fa) w
theorem Q12c (f:Fa)(i off:Int)(w:World):Calls Tryz.prog 114 #[.agg #[.int .u8 2,.int .u64 (N f.t.v),.int .u64 (N f.t.m),.int .u64 (N f.s.lo),.int .u64 (N f.s.hi),.int .i64 i,.int .i64 off]] w (RB.a w (.bool (Vl.right ⟨2,f,i,off⟩))):=by
 exact Yov
theorem Q12b (f:Fa)(i off:Int)(w:World):Calls Tryz.prog 114 #[.agg #[.int .u8 3,.int .u64 (N f.t.v),.int .u64 (N f.t.m),.int .u64 (N f.s.lo),.int .u64 (N f.s.hi),.int .i64 i,.int .i64 off]] w (RB.a w (.bool (Vl.right ⟨3,f,i,off⟩))):=by
 exact Yov
theorem Q12a (f:Fa)(i off:Int)(w:World):Calls Tryz.prog 114 #[.agg #[.int .u8 5,.int .u64 (N f.t.v),.int .u64 (N f.t.m),.int .u64 (N f.s.lo),.int .u64 (N f.s.hi),.int .i64 i,.int .i64 off]] w (RB.a w (.bool (Vl.right ⟨5,f,i,off⟩))):=by
 exact Yov
theorem Qvz (k:Int)(f:Fa)(i off:Int)(e2:¬ k=2)(e3:¬ k=3)(e5:¬ k=5)(w:World):Calls Tryz.prog 114 #[.agg #[.int .u8 k,.int .u64 (N f.t.v),.int .u64 (N f.t.m),.int .u64 (N f.s.lo),.int .u64 (N f.s.hi),.int .i64 i,.int .i64 off]] w (RB.a w (.bool false)):=by
 exact Yov
theorem Qi8 (v:Vl)(w:World):Calls Tryz.prog 114 #[v] w (RB.a w (.bool (Vl.ptr v))):=by
 obtain⟨k,f,i,off⟩:=v;by_cases e2:k=2
 · subst e2;exact Q12c f i off w
 by_cases e3:k=3
 · subst e3;exact Q12b f i off w
 by_cases e5:k=5
 · subst e5;exact Q12a f i off w
 have e:Vl.ptr ⟨k,f,i,off⟩=false:=by simp[Vl.ptr,e2,e3,e5]
 rw[e];exact Qvz k f i off e2 e3 e5 w
theorem Qw0 (k0:Int)(x0 y0 z0 u0:BitVec 64)(i0 o0:Int)(w:World):Calls Tryz.prog 114 #[.agg #[.int .u8 k0,.int .u64 (N x0),.int .u64 (N y0),.int .u64 (N z0),.int .u64 (N u0),.int .i64 i0,.int .i64 o0]] w (RB.a w (.bool (Vl.ptr (⟨k0,⟨⟨x0,y0⟩,⟨z0,u0⟩⟩,i0,o0⟩:Vl)))):=by
 exact Qi8 (⟨k0,⟨⟨x0,y0⟩,⟨z0,u0⟩⟩,i0,o0⟩:Vl) w
end Hk
namespace Hk
theorem Q1t {fn:Func}{p:Tmp}(h:fn.results=#[.cell p 84])(tmps:Array Value)(w:World)(g:Nat)(y:Vl)(hp:tmps.getD p undef=.pointer (some ⟨g,0,none⟩))
 (a0:w.cell? ⟨g,0,none⟩=some (.int .u8 y.k)) (a1:w.cell? ⟨g,1,none⟩=some (.int .u64 (N y.f.t.v))) (a2:w.cell? ⟨g,2,none⟩=some (.int .u64 (N y.f.t.m))) (a3:w.cell? ⟨g,3,none⟩=some (.int .u64 (N y.f.s.lo))) (a4:w.cell? ⟨g,4,none⟩=some (.int .u64 (N y.f.s.hi))) (a5:w.cell? ⟨g,5,none⟩=some (.int .i64 y.i)) (a6:w.cell? ⟨g,6,none⟩=some (.int .i64 y.off)):Sem.run Tryz.prog (results fn tmps) w=.ok (y) w:=by
 have hp':tmps[p]?.getD undef=.pointer (some ⟨g,0,none⟩):=Yew;simp only[results,h];simp[hp',a0,a1,a2,a3,a4,a5,a6,go_sem]
theorem Q8l (v:Vl)(w:World):Calls Tryz.prog 116 #[v] w (RB.a w (.bool (v.k==1))):=by
 go_enter Tryz.func116,Tryz.ntmps116;go_wp2;go_ret;exact⟨rfl,Yb⟩
theorem Qht (v:Vl)(w:World):Calls Tryz.prog 113 #[v] w (RB.a w (.bool (v.k==0))):=by
 go_enter Tryz.func113,Tryz.ntmps113;go_wp2;go_ret;exact⟨rfl,Yb⟩
theorem Q62 (n:BitVec 64)(w:World):Calls Tryz.prog 90 #[.int .u64 (N n)] w (RB.a w ((Co.knownV n))):=by
 have EK:Co.knownV n=Vl.num ⟨⟨(Fa.of n).t.v,(Fa.of n).t.m⟩,⟨(Fa.of n).s.lo,(Fa.of n).s.hi⟩⟩:=rfl;rw[EK];clear EK;go_enter Tryz.func90,Tryz.ntmps90;go_wp2_with ((with_reducible apply ic);first|(refine Y3l ?_;intro w1 hb1 hc1 hf1 hz1)|(refine Y3m ?_;intro w2 hb2 hc2 hf2 hz2));refine bodyPost_ret (Q1t (fn:=Tryz.f90) rfl _ _ (w.heap.size) ((Vl.num ⟨⟨(Fa.of n).t.v,(Fa.of n).t.m⟩,⟨(Fa.of n).s.lo,(Fa.of n).s.hi⟩⟩)) rfl ?_ ?_ ?_ ?_ ?_ ?_ ?_) rfl ⟨rfl,Yb⟩
 all_goals (simp (maxDischargeDepth:=12) [*,go_sem,↓IntWalk.iteOmega];done)
@[local go_sem] theorem Q164 (a b c d:Value)(w:World):Sem.run Tryz.prog (Instr.field 82 (.agg #[a,b,c,d]) 0) w=.ok (.agg #[a,b]) w:=Yc
@[local go_sem] theorem Q182:N 0#64=0:=rfl
theorem Qd4 (n:BitVec 64)(w:World):Calls Tryz.prog 134 #[.int .u64 (N n)] w (RB.a w ((Co.belowV n))):=by
 have EK:Co.belowV n=Vl.num ⟨⟨(Co.belowF n).t.v,(Co.belowF n).t.m⟩,⟨(Co.belowF n).s.lo,(Co.belowF n).s.hi⟩⟩:=rfl;rw[EK];clear EK;generalize hB:Co.belowF n=r;have HB:=Lib.hid (show (Fa.settle ⟨⟨Fa.any.t.v,Fa.any.t.m⟩,⟨0#64,n⟩⟩).getD Fa.zero=r from hB);clear hB;go_enter Tryz.func134,Tryz.ntmps134;go_wp2_with ((with_reducible apply ic);first|(refine Y3n ?_;intro w1 hb1 hc1 hf1 hz1)|(go_at_call 100;(with_reducible refine (Q2j _ _ _ _ _).mono ?_);rw[HB.out];refine Y2c ?_;intro w2 hb2 hc2 hf2 hz2)|(refine Y3m ?_;intro w3 hb3 hc3 hf3 hz3));refine bodyPost_ret (Q1t (fn:=Tryz.f134) rfl _ _ (w.heap.size) ((Vl.num ⟨⟨r.t.v,r.t.m⟩,⟨r.s.lo,r.s.hi⟩⟩)) rfl ?_ ?_ ?_ ?_ ?_ ?_ ?_) rfl ⟨rfl,Yb⟩
 all_goals (simp (maxDischargeDepth:=12) [*,go_sem,↓IntWalk.iteOmega];done)
theorem Qo4  (w:World):Calls Tryz.prog 118 #[.int .i64 1] w (RB.a w ((Co.sizedV 1))):=by
 have EK:Co.sizedV 1=Co.belowV (Co.sizedM 1):=rfl;rw[EK];clear EK;have EM:Co.sizedM 1=255#64:=Y0;rw[EM];go_enter Tryz.func118,Tryz.ntmps118;go_wp2_with (go_at_call 134;refine Y3p ?_;intro w1 hb1 hc1 hf1 hz1);refine bodyPost_ret (Q1t (fn:=Tryz.f118) rfl _ _ (w.heap.size) ((Co.belowV 255#64)) rfl ?_ ?_ ?_ ?_ ?_ ?_ ?_) rfl ⟨rfl,Yb⟩
 all_goals (simp (maxDischargeDepth:=12) [*,go_sem,↓IntWalk.iteOmega];done)
theorem Qo3  (w:World):Calls Tryz.prog 118 #[.int .i64 2] w (RB.a w ((Co.sizedV 2))):=by
 have EK:Co.sizedV 2=Co.belowV (Co.sizedM 2):=rfl;rw[EK];clear EK;have EM:Co.sizedM 2=65535#64:=Y0;rw[EM];go_enter Tryz.func118,Tryz.ntmps118;go_wp2_with (go_at_call 134;refine Y3p ?_;intro w1 hb1 hc1 hf1 hz1);refine bodyPost_ret (Q1t (fn:=Tryz.f118) rfl _ _ (w.heap.size) ((Co.belowV 65535#64)) rfl ?_ ?_ ?_ ?_ ?_ ?_ ?_) rfl ⟨rfl,Yb⟩
 all_goals (simp (maxDischargeDepth:=12) [*,go_sem,↓IntWalk.iteOmega];done)
theorem Qo2  (w:World):Calls Tryz.prog 118 #[.int .i64 4] w (RB.a w ((Co.sizedV 4))):=by
 have EK:Co.sizedV 4=Co.belowV (Co.sizedM 4):=rfl;rw[EK];clear EK;have EM:Co.sizedM 4=4294967295#64:=Y0;rw[EM];go_enter Tryz.func118,Tryz.ntmps118;go_wp2_with (go_at_call 134;refine Y3p ?_;intro w1 hb1 hc1 hf1 hz1);refine bodyPost_ret (Q1t (fn:=Tryz.f118) rfl _ _ (w.heap.size) ((Co.belowV 4294967295#64)) rfl ?_ ?_ ?_ ?_ ?_ ?_ ?_) rfl ⟨rfl,Yb⟩
 all_goals (simp (maxDischargeDepth:=12) [*,go_sem,↓IntWalk.iteOmega];done)
theorem Qo1  (w:World):Calls Tryz.prog 118 #[.int .i64 8] w (RB.a w ((Co.sizedV 8))):=by
 have EK:Co.sizedV 8=Co.belowV (Co.sizedM 8):=rfl;rw[EK];clear EK;have EM:Co.sizedM 8=18446744073709551615#64:=Y0;rw[EM];go_enter Tryz.func118,Tryz.ntmps118;go_wp2_with (go_at_call 134;refine Y3p ?_;intro w1 hb1 hc1 hf1 hz1);refine bodyPost_ret (Q1t (fn:=Tryz.f118) rfl _ _ (w.heap.size) ((Co.belowV 18446744073709551615#64)) rfl ?_ ?_ ?_ ?_ ?_ ?_ ?_) rfl ⟨rfl,Yb⟩
 all_goals (simp (maxDischargeDepth:=12) [*,go_sem,↓IntWalk.iteOmega];done)
end Hk
