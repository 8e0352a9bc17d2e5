/- A part of TopTwice's proof; no condition. -/
import Derived.Test.YtkgmipfmphlpgaaGreatK32
open Go Go.RowKit Go.Proofs
set_option linter.all false
set_option maxRecDepth 100000
set_option maxHeartbeats 20000000
namespace Hk
theorem Qs {fn:Func}{p q r:Tmp}(h:fn.results=#[.cell p 82,.cell q 82,.tmp r])(tmps:Array Value)(w:World)(g k:Nat)(x y:Fa)(c:Bool)
 (hp:tmps.getD p undef=.pointer (some ⟨g,0,none⟩)) (hq:tmps.getD q undef=.pointer (some ⟨k,0,none⟩)) (hr:tmps.getD r undef=.bool c)
 (a0:w.cell? ⟨g,0,none⟩=some (.int .u64 (N x.t.v))) (a1:w.cell? ⟨g,1,none⟩=some (.int .u64 (N x.t.m))) (a2:w.cell? ⟨g,2,none⟩=some (.int .u64 (N x.s.lo))) (a3:w.cell? ⟨g,3,none⟩=some (.int .u64 (N x.s.hi)))
 (b0:w.cell? ⟨k,0,none⟩=some (.int .u64 (N y.t.v))) (b1:w.cell? ⟨k,1,none⟩=some (.int .u64 (N y.t.m))) (b2:w.cell? ⟨k,2,none⟩=some (.int .u64 (N y.s.lo))) (b3:w.cell? ⟨k,3,none⟩=some (.int .u64 (N y.s.hi))) :
 Sem.run Tryz.prog (results fn tmps) w=.ok (.tuple #[x,y,.bool c]) w:=by
 have hp':tmps[p]?.getD undef=.pointer (some ⟨g,0,none⟩):=Yew;have hq':tmps[q]?.getD undef=.pointer (some ⟨k,0,none⟩):=by simpa using hq
 have hr':tmps[r]?.getD undef=.bool c:=Yej;simp only[results,h];simp[hp',hq',hr',a0,a1,a2,a3,b0,b1,b2,b3,go_sem]
theorem Q147 (op:Int)(a b:Fa)(h1:Sp.if_ op a.s b.s=none)(w:World):Calls Tryz.prog 159 #[.int .u8 op,a,b] w (RB.a w (.tuple #[(((Fa.ranges op a b).getD (Fa.zero,Fa.zero)).1),(((Fa.ranges op a b).getD (Fa.zero,Fa.zero)).2),.bool (Fa.ranges op a b).isSome])):=by
 refine Yvb ?_;go_wp2_with fail;refine Yvs ?_;refine Y2c ?_;intro w1 hbw1 hcw1 hfw1 hzw1;refine Yut ?_;exact Ynf
theorem Q146 (op:Int)(a b:Fa)(r:Sp)(h1:Sp.if_ op a.s b.s=some r)(bk:Int)(hT:Cond.turned op=some bk)(h2:Sp.if_ bk b.s a.s=none)(w:World):Calls Tryz.prog 159 #[.int .u8 op,a,b] w (RB.a w (.tuple #[(((Fa.ranges op a b).getD (Fa.zero,Fa.zero)).1),(((Fa.ranges op a b).getD (Fa.zero,Fa.zero)).2),.bool (Fa.ranges op a b).isSome])):=by
 refine Yvb ?_;go_wp2_with fail;refine Yvs ?_;refine Y2c ?_;intro w1 hbw1 hcw1 hfw1 hzw1;refine Yut ?_;go_wp2_with fail;refine Yuq ?_;go_wp2_with fail;refine Yvs ?_;refine Y2c ?_;intro w2 hbw2 hcw2 hfw2 hzw2;refine Yv7 ?_;exact Ynf
theorem Qyg (op:Int)(a b:Fa)(r:Sp)(h1:Sp.if_ op a.s b.s=some r)(hT:Cond.turned op=none)(h3:Fa.settle ⟨a.t,r⟩=none)(w:World):Calls Tryz.prog 159 #[.int .u8 op,a,b] w (RB.a w (.tuple #[(((Fa.ranges op a b).getD (Fa.zero,Fa.zero)).1),(((Fa.ranges op a b).getD (Fa.zero,Fa.zero)).2),.bool (Fa.ranges op a b).isSome])):=by
 refine Yvb ?_;go_wp2_with fail;refine Yvs ?_;refine Y2c ?_;intro w1 hbw1 hcw1 hfw1 hzw1;refine Yut ?_;go_wp2_with fail;refine Yuq ?_;exact Ylc
theorem Qye (op:Int)(a b:Fa)(r:Sp)(h1:Sp.if_ op a.s b.s=some r)(hT:Cond.turned op=none)(x:Fa)(h3:Fa.settle ⟨a.t,r⟩=some x)(h4:Fa.settle ⟨b.t,b.s⟩=none)(w:World):Calls Tryz.prog 159 #[.int .u8 op,a,b] w (RB.a w (.tuple #[(((Fa.ranges op a b).getD (Fa.zero,Fa.zero)).1),(((Fa.ranges op a b).getD (Fa.zero,Fa.zero)).2),.bool (Fa.ranges op a b).isSome])):=by
 refine Yvb ?_;go_wp2_with fail;refine Yvs ?_;refine Y2c ?_;intro w1 hbw1 hcw1 hfw1 hzw1;refine Yut ?_;go_wp2_with fail;refine Yuq ?_;exact Ykm
theorem Q145 (op:Int)(a b:Fa)(r:Sp)(h1:Sp.if_ op a.s b.s=some r)(hT:Cond.turned op=none)(x y:Fa)(h3:Fa.settle ⟨a.t,r⟩=some x)(h4:Fa.settle ⟨b.t,b.s⟩=some y)(w:World):Calls Tryz.prog 159 #[.int .u8 op,a,b] w (RB.a w (.tuple #[(((Fa.ranges op a b).getD (Fa.zero,Fa.zero)).1),(((Fa.ranges op a b).getD (Fa.zero,Fa.zero)).2),.bool (Fa.ranges op a b).isSome])):=by
 have hR:Fa.ranges op a b=some (x,y):=Yh4;rw[hR];clear hR;go_enter Tryz.func159,Tryz.ntmps159;go_wp2_with fail;refine Yvs ?_;refine Y2c ?_;intro w1 hbw1 hcw1 hfw1 hzw1;refine Yut ?_;go_wp2_with fail;refine Yuq ?_;exact Ykl
theorem Qyf (op:Int)(a b:Fa)(r:Sp)(h1:Sp.if_ op a.s b.s=some r)(bk:Int)(hT:Cond.turned op=some bk)(s:Sp)(h2:Sp.if_ bk b.s a.s=some s)(h3:Fa.settle ⟨a.t,r⟩=none)(w:World):Calls Tryz.prog 159 #[.int .u8 op,a,b] w (RB.a w (.tuple #[(((Fa.ranges op a b).getD (Fa.zero,Fa.zero)).1),(((Fa.ranges op a b).getD (Fa.zero,Fa.zero)).2),.bool (Fa.ranges op a b).isSome])):=by
 refine Yvb ?_;go_wp2_with fail;refine Yvs ?_;refine Y2c ?_;intro w1 hbw1 hcw1 hfw1 hzw1;refine Yut ?_;go_wp2_with fail;refine Yuq ?_;go_wp2_with fail;refine Yvs ?_;refine Y2c ?_;intro w2 hbw2 hcw2 hfw2 hzw2;refine Yv7 ?_;exact Ylc
theorem Qyd (op:Int)(a b:Fa)(r:Sp)(h1:Sp.if_ op a.s b.s=some r)(bk:Int)(hT:Cond.turned op=some bk)(s:Sp)(h2:Sp.if_ bk b.s a.s=some s)(x:Fa)(h3:Fa.settle ⟨a.t,r⟩=some x)(h4:Fa.settle ⟨b.t,s⟩=none)(w:World):Calls Tryz.prog 159 #[.int .u8 op,a,b] w (RB.a w (.tuple #[(((Fa.ranges op a b).getD (Fa.zero,Fa.zero)).1),(((Fa.ranges op a b).getD (Fa.zero,Fa.zero)).2),.bool (Fa.ranges op a b).isSome])):=by
 refine Yvb ?_;go_wp2_with fail;refine Yvs ?_;refine Y2c ?_;intro w1 hbw1 hcw1 hfw1 hzw1;refine Yut ?_;go_wp2_with fail;refine Yuq ?_;go_wp2_with fail;refine Yvs ?_;refine Y2c ?_;intro w2 hbw2 hcw2 hfw2 hzw2;refine Yv7 ?_;exact Ykm
theorem Q144 (op:Int)(a b:Fa)(r:Sp)(h1:Sp.if_ op a.s b.s=some r)(bk:Int)(hT:Cond.turned op=some bk)(s:Sp)(h2:Sp.if_ bk b.s a.s=some s)(x y:Fa)(h3:Fa.settle ⟨a.t,r⟩=some x)(h4:Fa.settle ⟨b.t,s⟩=some y)(w:World):Calls Tryz.prog 159 #[.int .u8 op,a,b] w (RB.a w (.tuple #[(((Fa.ranges op a b).getD (Fa.zero,Fa.zero)).1),(((Fa.ranges op a b).getD (Fa.zero,Fa.zero)).2),.bool (Fa.ranges op a b).isSome])):=by
 have hR:Fa.ranges op a b=some (x,y):=Yh4;rw[hR];clear hR;go_enter Tryz.func159,Tryz.ntmps159;go_wp2_with fail;refine Yvs ?_;refine Y2c ?_;intro w1 hbw1 hcw1 hfw1 hzw1;refine Yut ?_;go_wp2_with fail;refine Yuq ?_;go_wp2_with fail;refine Yvs ?_;refine Y2c ?_;intro w2 hbw2 hcw2 hfw2 hzw2;refine Yv7 ?_;exact Ykl
theorem Qke (op:Int)(a b:Fa)(w:World):Calls Tryz.prog 159 #[.int .u8 op,a,b] w (RB.a w (.tuple #[(((Fa.ranges op a b).getD (Fa.zero,Fa.zero)).1),(((Fa.ranges op a b).getD (Fa.zero,Fa.zero)).2),.bool (Fa.ranges op a b).isSome])):=by
 rcases h1:Sp.if_ op a.s b.s with _|r
 · exact Q147 op a b h1 w
 rcases hT:Cond.turned op with _|bk
 · rcases h3:Fa.settle ⟨a.t,r⟩ with _|x
   · exact Qyg op a b r h1 hT h3 w
   rcases h4:Fa.settle ⟨b.t,b.s⟩ with _|y
   · exact Qye op a b r h1 hT x h3 h4 w
   exact Q145 op a b r h1 hT x y h3 h4 w
 · rcases h2:Sp.if_ bk b.s a.s with _|s
   · exact Q146 op a b r h1 bk hT h2 w
   rcases h3:Fa.settle ⟨a.t,r⟩ with _|x
   · exact Qyf op a b r h1 bk hT s h2 h3 w
   rcases h4:Fa.settle ⟨b.t,s⟩ with _|y
   · exact Qyd op a b r h1 bk hT s h2 x h3 h4 w
   exact Q144 op a b r h1 bk hT s h2 x y h3 h4 w
theorem Qgi (x0:Int)(x1 y1 z1 u1:BitVec 64)(x2 y2 z2 u2:BitVec 64)(w:World):Calls Tryz.prog 159 #[.int .u8 x0,(F4.a x1 y1 z1 u1),(F4.a x2 y2 z2 u2)] w (RB.a w (.tuple #[(((Fa.ranges x0 (⟨⟨x1,y1⟩,⟨z1,u1⟩⟩:Fa) (⟨⟨x2,y2⟩,⟨z2,u2⟩⟩:Fa)).getD (Fa.zero,Fa.zero)).1),(((Fa.ranges x0 (⟨⟨x1,y1⟩,⟨z1,u1⟩⟩:Fa) (⟨⟨x2,y2⟩,⟨z2,u2⟩⟩:Fa)).getD (Fa.zero,Fa.zero)).2),.bool (Fa.ranges x0 (⟨⟨x1,y1⟩,⟨z1,u1⟩⟩:Fa) (⟨⟨x2,y2⟩,⟨z2,u2⟩⟩:Fa)).isSome])):=by
 exact Qke x0 (⟨⟨x1,y1⟩,⟨z1,u1⟩⟩:Fa) (⟨⟨x2,y2⟩,⟨z2,u2⟩⟩:Fa) w
end Hk
