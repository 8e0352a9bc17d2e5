/- A part of TopTwice's proof; no condition. -/
import Derived.Test.YtkgmipfmphlpgaaGreatK33
open Go Go.RowKit Go.Proofs
set_option linter.all false
set_option maxRecDepth 100000
set_option maxHeartbeats 20000000
namespace Hk
theorem Q14b (op:Int)(wd:Bool)(a b:Fa)(oa:Fa.ok a=false)(w:World):Calls Tryz.prog 128 #[.int .u8 op,.bool wd,a,b] w (RB.a w (.tuple #[(((Fa.if_ op wd a b).getD (Fa.zero,Fa.zero)).1),(((Fa.if_ op wd a b).getD (Fa.zero,Fa.zero)).2),.bool (Fa.if_ op wd a b).isSome])):=by
 have hE:Fa.if_ op wd a b=none:=Fa.if_n1 oa;rw[hE];clear hE;refine Yvc ?_;go_wp2_with fail;refine Yw8 ?_;intro w1 hbw1 hcw1 hfw1 hzw1;exact Yng
theorem Q14a (op:Int)(wd:Bool)(a b:Fa)(oa:Fa.ok a=true)(ob:Fa.ok b=false)(w:World):Calls Tryz.prog 128 #[.int .u8 op,.bool wd,a,b] w (RB.a w (.tuple #[(((Fa.if_ op wd a b).getD (Fa.zero,Fa.zero)).1),(((Fa.if_ op wd a b).getD (Fa.zero,Fa.zero)).2),.bool (Fa.if_ op wd a b).isSome])):=by
 have hE:Fa.if_ op wd a b=none:=Fa.if_n2 oa ob;rw[hE];clear hE;refine Yvc ?_;go_wp2_with fail;refine Yw8 ?_;intro w1 hbw1 hcw1 hfw1 hzw1;go_wp2_with fail;refine Yw9 ?_;intro w2 hbw2 hcw2 hfw2 hzw2;exact Yng
theorem Q14d (op:Int)(wd:Bool)(a b:Fa)(oa:Fa.ok a=true)(ob:Fa.ok b=true)(p q:BitVec 64)(hka:Fa.known a=some p)(hkb:Fa.known b=some q)(hc:Cond.is op wd p q=none)(w:World):Calls Tryz.prog 128 #[.int .u8 op,.bool wd,a,b] w (RB.a w (.tuple #[(((Fa.if_ op wd a b).getD (Fa.zero,Fa.zero)).1),(((Fa.if_ op wd a b).getD (Fa.zero,Fa.zero)).2),.bool (Fa.if_ op wd a b).isSome])):=by
 exact Yjn
theorem Q14e (op:Int)(wd:Bool)(a b:Fa)(oa:Fa.ok a=true)(ob:Fa.ok b=true)(p q:BitVec 64)(hka:Fa.known a=some p)(hkb:Fa.known b=some q)(hc:Cond.is op wd p q=some false)(w:World):Calls Tryz.prog 128 #[.int .u8 op,.bool wd,a,b] w (RB.a w (.tuple #[(((Fa.if_ op wd a b).getD (Fa.zero,Fa.zero)).1),(((Fa.if_ op wd a b).getD (Fa.zero,Fa.zero)).2),.bool (Fa.if_ op wd a b).isSome])):=by
 exact Yjn
theorem Q14c (op:Int)(wd:Bool)(a b:Fa)(oa:Fa.ok a=true)(ob:Fa.ok b=true)(p q:BitVec 64)(hka:Fa.known a=some p)(hkb:Fa.known b=some q)(hc:Cond.is op wd p q=some true)(w:World):Calls Tryz.prog 128 #[.int .u8 op,.bool wd,a,b] w (RB.a w (.tuple #[(((Fa.if_ op wd a b).getD (Fa.zero,Fa.zero)).1),(((Fa.if_ op wd a b).getD (Fa.zero,Fa.zero)).2),.bool (Fa.if_ op wd a b).isSome])):=by
 have hE:Fa.if_ op wd a b=some (a,b):=Yh5;rw[hE];clear hE;refine Yvc ?_;go_wp2_with fail;refine Yw8 ?_;intro w1 hbw1 hcw1 hfw1 hzw1;go_wp2_with fail;refine Yw9 ?_;intro w2 hbw2 hcw2 hfw2 hzw2;go_wp2_with fail;refine Yw7 ?_;intro w3 hbw3 hcw3 hfw3 hzw3;go_wp2_with fail;refine Yux ?_;refine Y2c ?_;intro w4 hbw4 hcw4 hfw4 hzw4;refine Yur ?_;go_wp2_with fail;refine Yvp ?_;go_wp2_with fail
 go_region
 (try go_wp2);refine bodyPost_ret (Qs (fn:=Tryz.f128) rfl _ _ (w.heap.size+1+1) (w.heap.size+1+1+1) a b true rfl rfl rfl Y1q Y1q Y1q Y1q Y1q Y1q Y1q Y1q) rfl ⟨rfl,Yb⟩
theorem Qyw (op:Int)(a b:Fa)(oa:Fa.ok a=true)(ob:Fa.ok b=true)(hka:Fa.known a=none)(hl:decide (4294967296#64≤Sp.mx a.s.hi b.s.hi)=true)(w:World):Calls Tryz.prog 128 #[.int .u8 op,.bool false,a,b] w (RB.a w (.tuple #[(((Fa.if_ op false a b).getD (Fa.zero,Fa.zero)).1),(((Fa.if_ op false a b).getD (Fa.zero,Fa.zero)).2),.bool (Fa.if_ op false a b).isSome])):=by
 have hE:Fa.if_ op false a b=some (a,b):=by rw[Fa.if_k oa ob (.inl hka)];exact Fa.if_hi hl
 rw[hE];clear hE;refine Yvc ?_;go_wp2_with fail;refine Yw8 ?_;intro w1 hbw1 hcw1 hfw1 hzw1;go_wp2_with fail;refine Yw9 ?_;intro w2 hbw2 hcw2 hfw2 hzw2;go_wp2_with fail;refine Yw7 ?_;intro w3 hbw3 hcw3 hfw3 hzw3;go_wp2_with fail;refine Yw7 ?_;intro w4 hbw4 hcw4 hfw4 hzw4;go_wp2_with fail
 go_region
 (try go_wp2);refine bodyPost_ret (Qs (fn:=Tryz.f128) rfl _ _ (w.heap.size+1+1) (w.heap.size+1+1+1) a b true rfl rfl rfl Y1q Y1q Y1q Y1q Y1q Y1q Y1q Y1q) rfl ⟨rfl,Yb⟩
theorem Qyt (a b:Fa)(oa:Fa.ok a=true)(ob:Fa.ok b=true)(hka:Fa.known a=none)(hm:Tn.meetOk a.t b.t=false)(w:World):Calls Tryz.prog 128 #[.int .u8 16,.bool true,a,b] w (RB.a w (.tuple #[(((Fa.if_ 16 true a b).getD (Fa.zero,Fa.zero)).1),(((Fa.if_ 16 true a b).getD (Fa.zero,Fa.zero)).2),.bool (Fa.if_ 16 true a b).isSome])):=by
 have hE:Fa.if_ 16 true a b=none:=by rw[Fa.if_k oa ob (.inl hka),Fa.if_lo (.inl rfl),if_pos rfl,hm];rfl
 rw[hE];clear hE;refine Yvc ?_;go_wp2_with fail;refine Yw8 ?_;intro w1 hbw1 hcw1 hfw1 hzw1;go_wp2_with fail;refine Yw9 ?_;intro w2 hbw2 hcw2 hfw2 hzw2;go_wp2_with fail;refine Yw7 ?_;intro w3 hbw3 hcw3 hfw3 hzw3;go_wp2_with fail;refine Yw7 ?_;intro w4 hbw4 hcw4 hfw4 hzw4;go_wp2_with fail;refine Yw6 ?_;refine Y2c ?_;intro w5 hbw5 hcw5 hfw5 hzw5;refine Yv8 ?_;go_wp2_with fail
 go_region
 (try go_wp2);refine bodyPost_ret (Qs (fn:=Tryz.f128) rfl _ _ (w.heap.size+1+1) (w.heap.size+1+1+1) Fa.zero Fa.zero false rfl rfl rfl Y1q Y1q Y1q Y1q Y1q Y1q Y1q Y1q) rfl ⟨rfl,Yb⟩
theorem Qyz (a b:Fa)(oa:Fa.ok a=true)(ob:Fa.ok b=true)(hka:Fa.known a=none)(hm:Tn.meetOk a.t b.t=true)(R:Option (Fa × Fa))(hR:Fa.ranges 16 ⟨Tn.meet a.t b.t,a.s⟩ ⟨Tn.meet a.t b.t,b.s⟩=R)(w:World):Calls Tryz.prog 128 #[.int .u8 16,.bool true,a,b] w (RB.a w (.tuple #[(((Fa.if_ 16 true a b).getD (Fa.zero,Fa.zero)).1),(((Fa.if_ 16 true a b).getD (Fa.zero,Fa.zero)).2),.bool (Fa.if_ 16 true a b).isSome])):=by
 have hE:Fa.if_ 16 true a b=R:=by rw[Fa.if_k oa ob (.inl hka),Fa.if_lo (.inl rfl),if_pos rfl,hm];exact hR
 rw[hE];clear hE;refine Ywa ?_;intro t ht;rw[ht.out] at hR;have hRh:=Lib.hid hR;clear hR;go_wp2_with fail;refine Yw8 ?_;intro w1 hbw1 hcw1 hfw1 hzw1;go_wp2_with fail;refine Yw9 ?_;intro w2 hbw2 hcw2 hfw2 hzw2;go_wp2_with fail;refine Yw7 ?_;intro w3 hbw3 hcw3 hfw3 hzw3;go_wp2_with fail;refine Yw7 ?_;intro w4 hbw4 hcw4 hfw4 hzw4;go_wp2_with fail;refine Yw6 ?_;refine Y2c ?_;intro w5 hbw5 hcw5 hfw5 hzw5;refine Yv6 ?_;go_wp2_with fail
 go_region
 go_wp2_with fail;refine Yvv ?_;refine Y2c ?_;intro w6 hbw6 hcw6 hfw6 hzw6;refine Yus ?_;go_wp2;refine bodyPost_ret (Qs (fn:=Tryz.f128) rfl _ _ (w.heap.size+1+1) (w.heap.size+1+1+1) ((R.getD (Fa.zero,Fa.zero)).1) ((R.getD (Fa.zero,Fa.zero)).2) R.isSome rfl rfl rfl Y1q Y1q Y1q Y1q Y1q Y1q Y1q Y1q) rfl ⟨rfl,Yb⟩
theorem Qyp (op:Int)(a b:Fa)(oa:Fa.ok a=true)(ob:Fa.ok b=true)(hka:Fa.known a=none)(n16:¬ op=16)(R:Option (Fa × Fa))(hR:Fa.ranges op a b=R)(w:World):Calls Tryz.prog 128 #[.int .u8 op,.bool true,a,b] w (RB.a w (.tuple #[(((Fa.if_ op true a b).getD (Fa.zero,Fa.zero)).1),(((Fa.if_ op true a b).getD (Fa.zero,Fa.zero)).2),.bool (Fa.if_ op true a b).isSome])):=by
 have hE:Fa.if_ op true a b=R:=by rw[Fa.if_k oa ob (.inl hka),Fa.if_lo (.inl rfl),if_neg n16];exact hR
 rw[hE];clear hE;refine Yvc ?_;have hRh:=Lib.hid hR;clear hR;go_wp2_with fail;refine Yw8 ?_;intro w1 hbw1 hcw1 hfw1 hzw1;go_wp2_with fail;refine Yw9 ?_;intro w2 hbw2 hcw2 hfw2 hzw2;go_wp2_with fail;refine Yw7 ?_;intro w3 hbw3 hcw3 hfw3 hzw3;go_wp2_with fail;refine Yw7 ?_;intro w4 hbw4 hcw4 hfw4 hzw4;go_wp2_with fail;refine Yvv ?_;refine Y2c ?_;intro w6 hbw6 hcw6 hfw6 hzw6;refine Yus ?_;go_wp2;refine bodyPost_ret (Qs (fn:=Tryz.f128) rfl _ _ (w.heap.size+1+1) (w.heap.size+1+1+1) ((R.getD (Fa.zero,Fa.zero)).1) ((R.getD (Fa.zero,Fa.zero)).2) R.isSome rfl rfl rfl Y1q Y1q Y1q Y1q Y1q Y1q Y1q Y1q) rfl ⟨rfl,Yb⟩
theorem Qyu (a b:Fa)(oa:Fa.ok a=true)(ob:Fa.ok b=true)(hka:Fa.known a=none)(hl:decide (4294967296#64≤Sp.mx a.s.hi b.s.hi)=false)(hm:Tn.meetOk a.t b.t=false)(w:World):Calls Tryz.prog 128 #[.int .u8 16,.bool false,a,b] w (RB.a w (.tuple #[(((Fa.if_ 16 false a b).getD (Fa.zero,Fa.zero)).1),(((Fa.if_ 16 false a b).getD (Fa.zero,Fa.zero)).2),.bool (Fa.if_ 16 false a b).isSome])):=by
 have hE:Fa.if_ 16 false a b=none:=by rw[Fa.if_k oa ob (.inl hka),Fa.if_lo (.inr hl),if_pos rfl,hm];rfl
 rw[hE];clear hE;refine Yvc ?_;go_wp2_with fail;refine Yw8 ?_;intro w1 hbw1 hcw1 hfw1 hzw1;go_wp2_with fail;refine Yw9 ?_;intro w2 hbw2 hcw2 hfw2 hzw2;go_wp2_with fail;refine Yw7 ?_;intro w3 hbw3 hcw3 hfw3 hzw3;go_wp2_with fail;refine Yw7 ?_;intro w4 hbw4 hcw4 hfw4 hzw4;go_wp2_with fail;refine Yw6 ?_;refine Y2c ?_;intro w5 hbw5 hcw5 hfw5 hzw5;refine Yv8 ?_;go_wp2_with fail
 go_region
 (try go_wp2);refine bodyPost_ret (Qs (fn:=Tryz.f128) rfl _ _ (w.heap.size+1+1) (w.heap.size+1+1+1) Fa.zero Fa.zero false rfl rfl rfl Y1q Y1q Y1q Y1q Y1q Y1q Y1q Y1q) rfl ⟨rfl,Yb⟩
theorem Qz0 (a b:Fa)(oa:Fa.ok a=true)(ob:Fa.ok b=true)(hka:Fa.known a=none)(hl:decide (4294967296#64≤Sp.mx a.s.hi b.s.hi)=false)(hm:Tn.meetOk a.t b.t=true)(R:Option (Fa × Fa))(hR:Fa.ranges 16 ⟨Tn.meet a.t b.t,a.s⟩ ⟨Tn.meet a.t b.t,b.s⟩=R)(w:World):Calls Tryz.prog 128 #[.int .u8 16,.bool false,a,b] w (RB.a w (.tuple #[(((Fa.if_ 16 false a b).getD (Fa.zero,Fa.zero)).1),(((Fa.if_ 16 false a b).getD (Fa.zero,Fa.zero)).2),.bool (Fa.if_ 16 false a b).isSome])):=by
 have hE:Fa.if_ 16 false a b=R:=by rw[Fa.if_k oa ob (.inl hka),Fa.if_lo (.inr hl),if_pos rfl,hm];exact hR
 rw[hE];clear hE;refine Ywa ?_;intro t ht;rw[ht.out] at hR;have hRh:=Lib.hid hR;clear hR;go_wp2_with fail;refine Yw8 ?_;intro w1 hbw1 hcw1 hfw1 hzw1;go_wp2_with fail;refine Yw9 ?_;intro w2 hbw2 hcw2 hfw2 hzw2;go_wp2_with fail;refine Yw7 ?_;intro w3 hbw3 hcw3 hfw3 hzw3;go_wp2_with fail;refine Yw7 ?_;intro w4 hbw4 hcw4 hfw4 hzw4;go_wp2_with fail;refine Yw6 ?_;refine Y2c ?_;intro w5 hbw5 hcw5 hfw5 hzw5;refine Yv6 ?_;go_wp2_with fail
 go_region
 go_wp2_with fail;refine Yvv ?_;refine Y2c ?_;intro w6 hbw6 hcw6 hfw6 hzw6;refine Yus ?_;go_wp2;refine bodyPost_ret (Qs (fn:=Tryz.f128) rfl _ _ (w.heap.size+1+1) (w.heap.size+1+1+1) ((R.getD (Fa.zero,Fa.zero)).1) ((R.getD (Fa.zero,Fa.zero)).2) R.isSome rfl rfl rfl Y1q Y1q Y1q Y1q Y1q Y1q Y1q Y1q) rfl ⟨rfl,Yb⟩
theorem Qyq (op:Int)(a b:Fa)(oa:Fa.ok a=true)(ob:Fa.ok b=true)(hka:Fa.known a=none)(hl:decide (4294967296#64≤Sp.mx a.s.hi b.s.hi)=false)(n16:¬ op=16)(R:Option (Fa × Fa))(hR:Fa.ranges op a b=R)(w:World):Calls Tryz.prog 128 #[.int .u8 op,.bool false,a,b] w (RB.a w (.tuple #[(((Fa.if_ op false a b).getD (Fa.zero,Fa.zero)).1),(((Fa.if_ op false a b).getD (Fa.zero,Fa.zero)).2),.bool (Fa.if_ op false a b).isSome])):=by
 have hE:Fa.if_ op false a b=R:=by rw[Fa.if_k oa ob (.inl hka),Fa.if_lo (.inr hl),if_neg n16];exact hR
 rw[hE];clear hE;refine Yvc ?_;have hRh:=Lib.hid hR;clear hR;go_wp2_with fail;refine Yw8 ?_;intro w1 hbw1 hcw1 hfw1 hzw1;go_wp2_with fail;refine Yw9 ?_;intro w2 hbw2 hcw2 hfw2 hzw2;go_wp2_with fail;refine Yw7 ?_;intro w3 hbw3 hcw3 hfw3 hzw3;go_wp2_with fail;refine Yw7 ?_;intro w4 hbw4 hcw4 hfw4 hzw4;go_wp2_with fail;refine Yvv ?_;refine Y2c ?_;intro w6 hbw6 hcw6 hfw6 hzw6;refine Yus ?_;go_wp2;refine bodyPost_ret (Qs (fn:=Tryz.f128) rfl _ _ (w.heap.size+1+1) (w.heap.size+1+1+1) ((R.getD (Fa.zero,Fa.zero)).1) ((R.getD (Fa.zero,Fa.zero)).2) R.isSome rfl rfl rfl Y1q Y1q Y1q Y1q Y1q Y1q Y1q Y1q) rfl ⟨rfl,Yb⟩
theorem Qyv (op:Int)(a b:Fa)(oa:Fa.ok a=true)(ob:Fa.ok b=true)(p:BitVec 64)(hka:Fa.known a=some p)(hkb:Fa.known b=none)(hl:decide (4294967296#64≤Sp.mx a.s.hi b.s.hi)=true)(w:World):Calls Tryz.prog 128 #[.int .u8 op,.bool false,a,b] w (RB.a w (.tuple #[(((Fa.if_ op false a b).getD (Fa.zero,Fa.zero)).1),(((Fa.if_ op false a b).getD (Fa.zero,Fa.zero)).2),.bool (Fa.if_ op false a b).isSome])):=by
 have hE:Fa.if_ op false a b=some (a,b):=by rw[Fa.if_k oa ob (.inr hkb)];exact Fa.if_hi hl
 rw[hE];clear hE;refine Yvc ?_;go_wp2_with fail;refine Yw8 ?_;intro w1 hbw1 hcw1 hfw1 hzw1;go_wp2_with fail;refine Yw9 ?_;intro w2 hbw2 hcw2 hfw2 hzw2;go_wp2_with fail;refine Yw7 ?_;intro w3 hbw3 hcw3 hfw3 hzw3;go_wp2_with fail;refine Yux ?_;refine Y2c ?_;intro w4 hbw4 hcw4 hfw4 hzw4;refine Yur ?_;go_wp2_with fail
 go_region
 (try go_wp2);refine bodyPost_ret (Qs (fn:=Tryz.f128) rfl _ _ (w.heap.size+1+1) (w.heap.size+1+1+1) a b true rfl rfl rfl Y1q Y1q Y1q Y1q Y1q Y1q Y1q Y1q) rfl ⟨rfl,Yb⟩
theorem Qyr (a b:Fa)(oa:Fa.ok a=true)(ob:Fa.ok b=true)(p:BitVec 64)(hka:Fa.known a=some p)(hkb:Fa.known b=none)(hm:Tn.meetOk a.t b.t=false)(w:World):Calls Tryz.prog 128 #[.int .u8 16,.bool true,a,b] w (RB.a w (.tuple #[(((Fa.if_ 16 true a b).getD (Fa.zero,Fa.zero)).1),(((Fa.if_ 16 true a b).getD (Fa.zero,Fa.zero)).2),.bool (Fa.if_ 16 true a b).isSome])):=by
 have hE:Fa.if_ 16 true a b=none:=by rw[Fa.if_k oa ob (.inr hkb),Fa.if_lo (.inl rfl),if_pos rfl,hm];rfl
 rw[hE];clear hE;refine Yvc ?_;go_wp2_with fail;refine Yw8 ?_;intro w1 hbw1 hcw1 hfw1 hzw1;go_wp2_with fail;refine Yw9 ?_;intro w2 hbw2 hcw2 hfw2 hzw2;go_wp2_with fail;refine Yw7 ?_;intro w3 hbw3 hcw3 hfw3 hzw3;go_wp2_with fail;refine Yux ?_;refine Y2c ?_;intro w4 hbw4 hcw4 hfw4 hzw4;refine Yur ?_;go_wp2_with fail;refine Yw6 ?_;refine Y2c ?_;intro w5 hbw5 hcw5 hfw5 hzw5;refine Yv8 ?_;go_wp2_with fail
 go_region
 (try go_wp2);refine bodyPost_ret (Qs (fn:=Tryz.f128) rfl _ _ (w.heap.size+1+1) (w.heap.size+1+1+1) Fa.zero Fa.zero false rfl rfl rfl Y1q Y1q Y1q Y1q Y1q Y1q Y1q Y1q) rfl ⟨rfl,Yb⟩
theorem Qyx (a b:Fa)(oa:Fa.ok a=true)(ob:Fa.ok b=true)(p:BitVec 64)(hka:Fa.known a=some p)(hkb:Fa.known b=none)(hm:Tn.meetOk a.t b.t=true)(R:Option (Fa × Fa))(hR:Fa.ranges 16 ⟨Tn.meet a.t b.t,a.s⟩ ⟨Tn.meet a.t b.t,b.s⟩=R)(w:World):Calls Tryz.prog 128 #[.int .u8 16,.bool true,a,b] w (RB.a w (.tuple #[(((Fa.if_ 16 true a b).getD (Fa.zero,Fa.zero)).1),(((Fa.if_ 16 true a b).getD (Fa.zero,Fa.zero)).2),.bool (Fa.if_ 16 true a b).isSome])):=by
 have hE:Fa.if_ 16 true a b=R:=by rw[Fa.if_k oa ob (.inr hkb),Fa.if_lo (.inl rfl),if_pos rfl,hm];exact hR
 rw[hE];clear hE;refine Ywa ?_;intro t ht;rw[ht.out] at hR;have hRh:=Lib.hid hR;clear hR;go_wp2_with fail;refine Yw8 ?_;intro w1 hbw1 hcw1 hfw1 hzw1;go_wp2_with fail;refine Yw9 ?_;intro w2 hbw2 hcw2 hfw2 hzw2;go_wp2_with fail;refine Yw7 ?_;intro w3 hbw3 hcw3 hfw3 hzw3;go_wp2_with fail;refine Yux ?_;refine Y2c ?_;intro w4 hbw4 hcw4 hfw4 hzw4;refine Yur ?_;go_wp2_with fail;refine Yw6 ?_;refine Y2c ?_;intro w5 hbw5 hcw5 hfw5 hzw5;refine Yv6 ?_;go_wp2_with fail
 go_region
 go_wp2_with fail;refine Yvv ?_;refine Y2c ?_;intro w6 hbw6 hcw6 hfw6 hzw6;refine Yus ?_;go_wp2;refine bodyPost_ret (Qs (fn:=Tryz.f128) rfl _ _ (w.heap.size+1+1) (w.heap.size+1+1+1) ((R.getD (Fa.zero,Fa.zero)).1) ((R.getD (Fa.zero,Fa.zero)).2) R.isSome rfl rfl rfl Y1q Y1q Y1q Y1q Y1q Y1q Y1q Y1q) rfl ⟨rfl,Yb⟩
theorem Qyn (op:Int)(a b:Fa)(oa:Fa.ok a=true)(ob:Fa.ok b=true)(p:BitVec 64)(hka:Fa.known a=some p)(hkb:Fa.known b=none)(n16:¬ op=16)(R:Option (Fa × Fa))(hR:Fa.ranges op a b=R)(w:World):Calls Tryz.prog 128 #[.int .u8 op,.bool true,a,b] w (RB.a w (.tuple #[(((Fa.if_ op true a b).getD (Fa.zero,Fa.zero)).1),(((Fa.if_ op true a b).getD (Fa.zero,Fa.zero)).2),.bool (Fa.if_ op true a b).isSome])):=by
 have hE:Fa.if_ op true a b=R:=by rw[Fa.if_k oa ob (.inr hkb),Fa.if_lo (.inl rfl),if_neg n16];exact hR
 rw[hE];clear hE;refine Yvc ?_;have hRh:=Lib.hid hR;clear hR;go_wp2_with fail;refine Yw8 ?_;intro w1 hbw1 hcw1 hfw1 hzw1;go_wp2_with fail;refine Yw9 ?_;intro w2 hbw2 hcw2 hfw2 hzw2;go_wp2_with fail;refine Yw7 ?_;intro w3 hbw3 hcw3 hfw3 hzw3;go_wp2_with fail;refine Yux ?_;refine Y2c ?_;intro w4 hbw4 hcw4 hfw4 hzw4;refine Yur ?_;go_wp2_with fail;refine Yvv ?_;refine Y2c ?_;intro w6 hbw6 hcw6 hfw6 hzw6;refine Yus ?_;go_wp2;refine bodyPost_ret (Qs (fn:=Tryz.f128) rfl _ _ (w.heap.size+1+1) (w.heap.size+1+1+1) ((R.getD (Fa.zero,Fa.zero)).1) ((R.getD (Fa.zero,Fa.zero)).2) R.isSome rfl rfl rfl Y1q Y1q Y1q Y1q Y1q Y1q Y1q Y1q) rfl ⟨rfl,Yb⟩
theorem Qys (a b:Fa)(oa:Fa.ok a=true)(ob:Fa.ok b=true)(p:BitVec 64)(hka:Fa.known a=some p)(hkb:Fa.known b=none)(hl:decide (4294967296#64≤Sp.mx a.s.hi b.s.hi)=false)(hm:Tn.meetOk a.t b.t=false)(w:World):Calls Tryz.prog 128 #[.int .u8 16,.bool false,a,b] w (RB.a w (.tuple #[(((Fa.if_ 16 false a b).getD (Fa.zero,Fa.zero)).1),(((Fa.if_ 16 false a b).getD (Fa.zero,Fa.zero)).2),.bool (Fa.if_ 16 false a b).isSome])):=by
 have hE:Fa.if_ 16 false a b=none:=by rw[Fa.if_k oa ob (.inr hkb),Fa.if_lo (.inr hl),if_pos rfl,hm];rfl
 rw[hE];clear hE;refine Yvc ?_;go_wp2_with fail;refine Yw8 ?_;intro w1 hbw1 hcw1 hfw1 hzw1;go_wp2_with fail;refine Yw9 ?_;intro w2 hbw2 hcw2 hfw2 hzw2;go_wp2_with fail;refine Yw7 ?_;intro w3 hbw3 hcw3 hfw3 hzw3;go_wp2_with fail;refine Yux ?_;refine Y2c ?_;intro w4 hbw4 hcw4 hfw4 hzw4;refine Yur ?_;go_wp2_with fail;refine Yw6 ?_;refine Y2c ?_;intro w5 hbw5 hcw5 hfw5 hzw5;refine Yv8 ?_;go_wp2_with fail
 go_region
 (try go_wp2);refine bodyPost_ret (Qs (fn:=Tryz.f128) rfl _ _ (w.heap.size+1+1) (w.heap.size+1+1+1) Fa.zero Fa.zero false rfl rfl rfl Y1q Y1q Y1q Y1q Y1q Y1q Y1q Y1q) rfl ⟨rfl,Yb⟩
theorem Qyy (a b:Fa)(oa:Fa.ok a=true)(ob:Fa.ok b=true)(p:BitVec 64)(hka:Fa.known a=some p)(hkb:Fa.known b=none)(hl:decide (4294967296#64≤Sp.mx a.s.hi b.s.hi)=false)(hm:Tn.meetOk a.t b.t=true)(R:Option (Fa × Fa))(hR:Fa.ranges 16 ⟨Tn.meet a.t b.t,a.s⟩ ⟨Tn.meet a.t b.t,b.s⟩=R)(w:World):Calls Tryz.prog 128 #[.int .u8 16,.bool false,a,b] w (RB.a w (.tuple #[(((Fa.if_ 16 false a b).getD (Fa.zero,Fa.zero)).1),(((Fa.if_ 16 false a b).getD (Fa.zero,Fa.zero)).2),.bool (Fa.if_ 16 false a b).isSome])):=by
 have hE:Fa.if_ 16 false a b=R:=by rw[Fa.if_k oa ob (.inr hkb),Fa.if_lo (.inr hl),if_pos rfl,hm];exact hR
 rw[hE];clear hE;refine Ywa ?_;intro t ht;rw[ht.out] at hR;have hRh:=Lib.hid hR;clear hR;go_wp2_with fail;refine Yw8 ?_;intro w1 hbw1 hcw1 hfw1 hzw1;go_wp2_with fail;refine Yw9 ?_;intro w2 hbw2 hcw2 hfw2 hzw2;go_wp2_with fail;refine Yw7 ?_;intro w3 hbw3 hcw3 hfw3 hzw3;go_wp2_with fail;refine Yux ?_;refine Y2c ?_;intro w4 hbw4 hcw4 hfw4 hzw4;refine Yur ?_;go_wp2_with fail;refine Yw6 ?_;refine Y2c ?_;intro w5 hbw5 hcw5 hfw5 hzw5;refine Yv6 ?_;go_wp2_with fail
 go_region
 go_wp2_with fail;refine Yvv ?_;refine Y2c ?_;intro w6 hbw6 hcw6 hfw6 hzw6;refine Yus ?_;go_wp2;refine bodyPost_ret (Qs (fn:=Tryz.f128) rfl _ _ (w.heap.size+1+1) (w.heap.size+1+1+1) ((R.getD (Fa.zero,Fa.zero)).1) ((R.getD (Fa.zero,Fa.zero)).2) R.isSome rfl rfl rfl Y1q Y1q Y1q Y1q Y1q Y1q Y1q Y1q) rfl ⟨rfl,Yb⟩
theorem Qyo (op:Int)(a b:Fa)(oa:Fa.ok a=true)(ob:Fa.ok b=true)(p:BitVec 64)(hka:Fa.known a=some p)(hkb:Fa.known b=none)(hl:decide (4294967296#64≤Sp.mx a.s.hi b.s.hi)=false)(n16:¬ op=16)(R:Option (Fa × Fa))(hR:Fa.ranges op a b=R)(w:World):Calls Tryz.prog 128 #[.int .u8 op,.bool false,a,b] w (RB.a w (.tuple #[(((Fa.if_ op false a b).getD (Fa.zero,Fa.zero)).1),(((Fa.if_ op false a b).getD (Fa.zero,Fa.zero)).2),.bool (Fa.if_ op false a b).isSome])):=by
 have hE:Fa.if_ op false a b=R:=by rw[Fa.if_k oa ob (.inr hkb),Fa.if_lo (.inr hl),if_neg n16];exact hR
 rw[hE];clear hE;refine Yvc ?_;have hRh:=Lib.hid hR;clear hR;go_wp2_with fail;refine Yw8 ?_;intro w1 hbw1 hcw1 hfw1 hzw1;go_wp2_with fail;refine Yw9 ?_;intro w2 hbw2 hcw2 hfw2 hzw2;go_wp2_with fail;refine Yw7 ?_;intro w3 hbw3 hcw3 hfw3 hzw3;go_wp2_with fail;refine Yux ?_;refine Y2c ?_;intro w4 hbw4 hcw4 hfw4 hzw4;refine Yur ?_;go_wp2_with fail;refine Yvv ?_;refine Y2c ?_;intro w6 hbw6 hcw6 hfw6 hzw6;refine Yus ?_;go_wp2;refine bodyPost_ret (Qs (fn:=Tryz.f128) rfl _ _ (w.heap.size+1+1) (w.heap.size+1+1+1) ((R.getD (Fa.zero,Fa.zero)).1) ((R.getD (Fa.zero,Fa.zero)).2) R.isSome rfl rfl rfl Y1q Y1q Y1q Y1q Y1q Y1q Y1q Y1q) rfl ⟨rfl,Yb⟩
theorem Q14f (op:Int)(wd:Bool)(a b:Fa)(w:World):Calls Tryz.prog 128 #[.int .u8 op,.bool wd,a,b] w (RB.a w (.tuple #[(((Fa.if_ op wd a b).getD (Fa.zero,Fa.zero)).1),(((Fa.if_ op wd a b).getD (Fa.zero,Fa.zero)).2),.bool (Fa.if_ op wd a b).isSome])):=by
 cases oa:Fa.ok a
 · exact Q14b op wd a b oa w
 cases ob:Fa.ok b
 · exact Q14a op wd a b oa ob w
 rcases hka:Fa.known a with _|p
 · cases wd
   · cases hl:decide (4294967296#64≤Sp.mx a.s.hi b.s.hi)
     · by_cases n16:op=16
       · subst n16
         cases hm:Tn.meetOk a.t b.t
         · exact Qyu a b oa ob hka hl hm w
         · exact Qz0 a b oa ob hka hl hm _ rfl w
       · exact Qyq op a b oa ob hka hl n16 _ rfl w
     · exact Qyw op a b oa ob hka hl w
   · by_cases n16:op=16
     · subst n16
       cases hm:Tn.meetOk a.t b.t
       · exact Qyt a b oa ob hka hm w
       · exact Qyz a b oa ob hka hm _ rfl w
     · exact Qyp op a b oa ob hka n16 _ rfl w
 rcases hkb:Fa.known b with _|q
 · cases wd
   · cases hl:decide (4294967296#64≤Sp.mx a.s.hi b.s.hi)
     · by_cases n16:op=16
       · subst n16
         cases hm:Tn.meetOk a.t b.t
         · exact Qys a b oa ob p hka hkb hl hm w
         · exact Qyy a b oa ob p hka hkb hl hm _ rfl w
       · exact Qyo op a b oa ob p hka hkb hl n16 _ rfl w
     · exact Qyv op a b oa ob p hka hkb hl w
   · by_cases n16:op=16
     · subst n16
       cases hm:Tn.meetOk a.t b.t
       · exact Qyr a b oa ob p hka hkb hm w
       · exact Qyx a b oa ob p hka hkb hm _ rfl w
     · exact Qyn op a b oa ob p hka hkb n16 _ rfl w
 rcases hc:Cond.is op wd p q with _|x
 · exact Q14d op wd a b oa ob p q hka hkb hc w
 cases x
 · exact Q14e op wd a b oa ob p q hka hkb hc w
 · exact Q14c op wd a b oa ob p q hka hkb hc w
end Hk
