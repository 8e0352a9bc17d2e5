/- A part of TopTwice's proof; no condition. -/
import Derived.Test.YtkgmipfmphlpgaaGreatK18
open Go Go.RowKit Go.Proofs
set_option linter.all false
set_option maxRecDepth 100000
set_option maxHeartbeats 20000000
namespace Hk
theorem Qux (x:BitVec 64)(w:World):Calls Tryz.prog 152 #[.int .u64 (N x)] w (RW.a w (.int .u64 (N (Alu.rb x)))):=by
 go_enter Tryz.func152,Tryz.ntmps152;go_wp2;go_ret;exact⟨rfl,rfl⟩
theorem Qfn {f:FuncId}{args:Array Value}{w:World}{n:Nat}{v:Value}(h:Calls Tryz.prog f args (w.drewN n) fun e w'=>e=.returned v∧w.drewN n=w'):Calls Tryz.prog f args (w.drewN n) fun e w'=>e=.returned v∧∃ n',w'=w.drewN n':=h.mono fun _ _ ⟨a,b⟩=>⟨a,n,b.symm⟩
theorem Qpl (a:BitVec 64)(w:World):Calls Tryz.prog 119 #[.bool (true),.int .i64 16,.int .u64 (N a)] w (RB.a w (.tuple #[.int .u64 (N (Alu.val (Alu.swap true 16 a))),.int .i64 (Alu.err (Alu.swap true 16 a))])):=by
 have e:Alu.swap true 16 a=some (Alu.rb (a <<< 48) &&& (1#64 <<< 16 - 1#64)):=congrArg some (Alu.turn_rb 2 Y1 Y1 a);exact Ynb
theorem Qpo (a:BitVec 64)(w:World):Calls Tryz.prog 119 #[.bool (false),.int .i64 16,.int .u64 (N a)] w (RB.a w (.tuple #[.int .u64 (N (Alu.val (Alu.swap false 16 a))),.int .i64 (Alu.err (Alu.swap false 16 a))])):=by
 have e:Alu.swap false 16 a=some (a <<< 48 >>> 48):=rfl;exact Ynz
theorem Qpk (a:BitVec 64)(w:World):Calls Tryz.prog 119 #[.bool (true),.int .i64 32,.int .u64 (N a)] w (RB.a w (.tuple #[.int .u64 (N (Alu.val (Alu.swap true 32 a))),.int .i64 (Alu.err (Alu.swap true 32 a))])):=by
 have e:Alu.swap true 32 a=some (Alu.rb (a <<< 32) &&& (1#64 <<< 32 - 1#64)):=congrArg some (Alu.turn_rb 4 Y1 Y1 a);exact Ynb
theorem Qpn (a:BitVec 64)(w:World):Calls Tryz.prog 119 #[.bool (false),.int .i64 32,.int .u64 (N a)] w (RB.a w (.tuple #[.int .u64 (N (Alu.val (Alu.swap false 32 a))),.int .i64 (Alu.err (Alu.swap false 32 a))])):=by
 have e:Alu.swap false 32 a=some (a <<< 32 >>> 32):=rfl;exact Ynz
theorem Qpj (a:BitVec 64)(w:World):Calls Tryz.prog 119 #[.bool (true),.int .i64 64,.int .u64 (N a)] w (RB.a w (.tuple #[.int .u64 (N (Alu.val (Alu.swap true 64 a))),.int .i64 (Alu.err (Alu.swap true 64 a))])):=by
 have e:Alu.swap true 64 a=some (Alu.rb (a <<< 0) &&& (1#64 <<< 64 - 1#64)):=congrArg some (Alu.turn_rb 8 Y1 Y1 a);exact Ynb
theorem Qpm (a:BitVec 64)(w:World):Calls Tryz.prog 119 #[.bool (false),.int .i64 64,.int .u64 (N a)] w (RB.a w (.tuple #[.int .u64 (N (Alu.val (Alu.swap false 64 a))),.int .i64 (Alu.err (Alu.swap false 64 a))])):=by
 have e:Alu.swap false 64 a=some (a <<< 0 >>> 0):=rfl;exact Ynz
theorem swap_none (k:Int)(h1:¬ k=16)(h2:¬ k=32)(h3:¬ k=64)(t:Bool)(a:BitVec 64)(w:World):Calls Tryz.prog 119 #[.bool (t),.int .i64 k,.int .u64 (N a)] w (RB.a w (.tuple #[.int .u64 (N (Alu.val (Alu.swap t k a))),.int .i64 (Alu.err (Alu.swap t k a))])):=by
 rw[Alu.swap_none t k a h1 h2 h3,Alu.val_none,Alu.err_none];go_enter Tryz.func119,Tryz.ntmps119;go_wp2;exact Yuc
theorem Q12r (t:Bool)(k:Int)(a:BitVec 64)(w:World):Calls Tryz.prog 119 #[.bool (t),.int .i64 k,.int .u64 (N a)] w (RB.a w (.tuple #[.int .u64 (N (Alu.val (Alu.swap t k a))),.int .i64 (Alu.err (Alu.swap t k a))])):=by
 by_cases h1:k=16
 · subst h1;cases t
   · exact Qpo a w
   · exact Qpl a w
 by_cases h2:k=32
 · subst h2;cases t
   · exact Qpn a w
   · exact Qpk a w
 by_cases h3:k=64
 · subst h3;cases t
   · exact Qpm a w
   · exact Qpj a w
 exact swap_none k h1 h2 h3 t a w
attribute [-go_sem] Qm
attribute [go_sem] Q1v
def Q19i (g rb:Nat)(wd:Bool)(sz:Int)(w:World)(w':World):Prop:=w'.cell? ⟨g,11,none⟩=some (.bool wd)∧w'.cell? ⟨g,14,none⟩=some (.int .i64 sz)∧w'.cell? ⟨rb,0,none⟩=some (.int .u8 0)∧w'.cell? ⟨rb,1,none⟩=some (.int .u64 0)∧w'.cell? ⟨rb,2,none⟩=some (.int .u64 0)∧w'.cell? ⟨rb,3,none⟩=some (.int .u64 0)∧w'.cell? ⟨rb,4,none⟩=some (.int .u64 0)∧w'.cell? ⟨rb,5,none⟩=some (.int .i64 0)∧w'.cell? ⟨rb,6,none⟩=some (.int .i64 0)∧(∀ i,w'.frozen? ⟨rb,i,none⟩=false)∧Below w.heap.size w w'
theorem Qmp {g rb:Nat}{wd:Bool}{sz:Int}{w:World}:KC (Q19i g rb wd sz w):=by
 intro w' w1 h hb;obtain⟨k0,k1,k2,k3,k4,k5,k6,k7,k8,k9,k10⟩:=h;exact⟨Q0 hb k0,Q0 hb k1,Q0 hb k2,Q0 hb k3,Q0 hb k4,Q0 hb k5,Q0 hb k6,Q0 hb k7,Q0 hb k8,Q7 hb k2 k9,Q8 k10 hb⟩
theorem Qo0 (g:Nat)(X:Sx)(w:World)(hX:Q1e w g X)(hd:X.x.dst.toNat<11)(hsz:X.w.size=2∨X.w.size=4∨X.w.size=8):Calls Tryz.prog 88 #[.pointer (some ⟨g,0,none⟩)] w (RB.a w (.tuple #[(Co.swapsV X (Co.dV X)),.int .i64 (Co.swapsE X (Co.dV X))])):=by
 refine Yvt ?_;intro zg hXb;obtain⟨a0,a1,a2,a3,a4,a5,a6,a7,a8,a9,a10,a11,a12,a13,a14⟩:=hX.cells;obtain⟨a,ha⟩:∃ v,(X.s.r X.x.dst.toNat)=v:=⟨_,rfl⟩;have eD:=Lib.hid (show Co.dV X=a from ha);have ha:=Lib.hid ha;cases h0:(a.k==0)
 · cases h1:(a.k==1)
   · rcases hk:Fa.known a.f with _|n
     · have hs:True:=trivial
       have EE:=Lib.hid (show Co.swapsV X (Co.dV X)=Vl.zero∧Co.swapsE X (Co.dV X)=140 from Ygp);refine Yvj ?_;intro HK;exact Ylg
     · have hs:True:=trivial
       have EE:=Lib.hid (show Co.swapsV X (Co.dV X)=Vl.zero∧Co.swapsE X (Co.dV X)=140 from Ygp);have HK:=Lib.hid (show Fa.known ⟨⟨a.f.t.v,a.f.t.m⟩,⟨a.f.s.lo,a.f.s.hi⟩⟩=some n from hk);exact Ylg
   · rcases hk:Fa.known a.f with _|n
     · rcases hsz with hs|hs|hs
       · have EE:=Lib.hid (show Co.swapsV X (Co.dV X)=Co.sizedV 2∧Co.swapsE X (Co.dV X)=0 from Ygq)
         refine Yvj ?_;intro HK;clear hk;rw[hs] at a14;go_enter Tryz.func88,Tryz.ntmps88;go_wp2_with ((with_reducible apply ic);first|(refine Y6c ?_;intro w2 hb2 hc2 hf2 hz2)|(refine Y3w ?_;intro w5 hb5 hc5 hf5 hz5)|(refine Y3u ?_;intro w3 hb3 hc3 hf3 hz3)|(refine Y3v ?_;intro w4 hb4 hc4 hf4 hz4)|(refine Y6d ?_;intro w6 hb6 hc6 hf6 hz6));rw[EE.out.1,EE.out.2];refine bodyPost_ret (Qk (fn:=Tryz.f88) rfl _ _ (w.heap.size) ((Co.sizedV 2)) (.int .i64 0) rfl rfl ?_ ?_ ?_ ?_ ?_ ?_ ?_) rfl ⟨rfl,Yb⟩
         all_goals (simp (maxDischargeDepth:=12) [*,go_sem,↓IntWalk.iteOmega,Vl.zero,Fa.zero];done)
       · have EE:=Lib.hid (show Co.swapsV X (Co.dV X)=Co.sizedV 4∧Co.swapsE X (Co.dV X)=0 from Ygq)
         refine Yvj ?_;intro HK;clear hk;rw[hs] at a14;go_enter Tryz.func88,Tryz.ntmps88;go_wp2_with ((with_reducible apply ic);first|(refine Y6c ?_;intro w2 hb2 hc2 hf2 hz2)|(refine Y3w ?_;intro w5 hb5 hc5 hf5 hz5)|(refine Y3u ?_;intro w3 hb3 hc3 hf3 hz3)|(refine Y3v ?_;intro w4 hb4 hc4 hf4 hz4)|(refine Y6e ?_;intro w6 hb6 hc6 hf6 hz6));rw[EE.out.1,EE.out.2];refine bodyPost_ret (Qk (fn:=Tryz.f88) rfl _ _ (w.heap.size) ((Co.sizedV 4)) (.int .i64 0) rfl rfl ?_ ?_ ?_ ?_ ?_ ?_ ?_) rfl ⟨rfl,Yb⟩
         all_goals (simp (maxDischargeDepth:=12) [*,go_sem,↓IntWalk.iteOmega,Vl.zero,Fa.zero];done)
       · have EE:=Lib.hid (show Co.swapsV X (Co.dV X)=Co.sizedV 8∧Co.swapsE X (Co.dV X)=0 from Ygq)
         refine Yvj ?_;intro HK;clear hk;rw[hs] at a14;go_enter Tryz.func88,Tryz.ntmps88;go_wp2_with ((with_reducible apply ic);first|(refine Y6c ?_;intro w2 hb2 hc2 hf2 hz2)|(refine Y3w ?_;intro w5 hb5 hc5 hf5 hz5)|(refine Y3u ?_;intro w3 hb3 hc3 hf3 hz3)|(refine Y3v ?_;intro w4 hb4 hc4 hf4 hz4)|(refine Y6f ?_;intro w6 hb6 hc6 hf6 hz6));rw[EE.out.1,EE.out.2];refine bodyPost_ret (Qk (fn:=Tryz.f88) rfl _ _ (w.heap.size) ((Co.sizedV 8)) (.int .i64 0) rfl rfl ?_ ?_ ?_ ?_ ?_ ?_ ?_) rfl ⟨rfl,Yb⟩
         all_goals (simp (maxDischargeDepth:=12) [*,go_sem,↓IntWalk.iteOmega,Vl.zero,Fa.zero];done)
     · have EE:=Lib.hid (show Co.swapsV X (Co.dV X)=Co.knownV (Alu.val (Alu.swap X.w.wide (8*X.w.size) n))∧Co.swapsE X (Co.dV X)=Alu.err (Alu.swap X.w.wide (8*X.w.size) n) by unfold Co.swapsV Co.swapsE;rw[eD.out,h0,h1,hk];exact⟨rfl,rfl⟩)
       have HK:=Lib.hid (show Fa.known ⟨⟨a.f.t.v,a.f.t.m⟩,⟨a.f.s.lo,a.f.s.hi⟩⟩=some n from hk);clear hk;have hb8:2≤X.w.size∧X.w.size≤8:=Y1;go_enter Tryz.func88,Tryz.ntmps88;go_wp2_with ((with_reducible apply ic);first|(refine Y6c ?_;intro w2 hb2 hc2 hf2 hz2)|(refine Y3w ?_;intro w5 hb5 hc5 hf5 hz5)|(refine Y3u ?_;intro w3 hb3 hc3 hf3 hz3)|(refine Y3v ?_;intro w4 hb4 hc4 hf4 hz4));refine Ql (Q19i g w.heap.size X.w.wide X.w.size w) Yc Yc ?_ ?_
       · exact Yn0
       refine Yv4 ?_;intro hN
       repeat (first
        | go_big_quiet_skip
        | (go_big_quiet_want
           first
            | ((first|(refine Q6 rfl rfl (fun w' hC=>Ygr) ?_)|(refine Q3 rfl rfl (fun w' hC=>Ygr) ?_))
               simp only[Act.put,List.setIfInBounds_toArray,List.set_cons_succ,List.set_cons_zero]
               go_big_quiet_on)
            | (go_big_quiet_op
               first
                | go_big_quiet_on
                | (apply Exists.intro
                   refine⟨fun w' hC=>?_,?_⟩
                   · (go_at_call 119;refine Y6g ?_;intro w1 hb1)
                     (try simp only[id]);exact⟨rfl,by first|exact hC|exact Qmp _ _ hC hb1⟩
                   go_big_quiet_on))))
       refine wpQuiet_nil ?_;intro w9 hC;obtain⟨k0,k1,k2,k3,k4,k5,k6,k7,k8,k9,k10⟩:=hC;have z0:=Q1 k0;have z2:=Q1 k2;have hz9:=k10.size;obtain⟨hc9,hf9,hz9⟩:=Q17 k10;go_wp2_with (go_at_call 90;refine Y3t ?_;intro w7 hb7 hc7 hf7 hz7);rw[EE.out.1,EE.out.2];refine bodyPost_ret (Qk (fn:=Tryz.f88) rfl _ _ (w.heap.size) ((Co.knownV (Alu.val (Alu.swap X.w.wide (8*X.w.size) n)))) (.int .i64 (Alu.err (Alu.swap X.w.wide (8*X.w.size) n))) rfl rfl ?_ ?_ ?_ ?_ ?_ ?_ ?_) rfl ⟨rfl,Yb⟩
       all_goals (simp (maxDischargeDepth:=12) [*,go_sem,↓IntWalk.iteOmega];done)
 · rcases hk:Fa.known a.f with _|n
   · have EE:=Lib.hid (show Co.swapsV X (Co.dV X)=Vl.zero∧Co.swapsE X (Co.dV X)=110 from Ygs)
     refine Yvj ?_;intro HK;exact Ylh
   · have EE:=Lib.hid (show Co.swapsV X (Co.dV X)=Vl.zero∧Co.swapsE X (Co.dV X)=110 from Ygs)
     have HK:=Lib.hid (show Fa.known ⟨⟨a.f.t.v,a.f.t.m⟩,⟨a.f.s.lo,a.f.s.hi⟩⟩=some n from hk);exact Ylh
end Hk
namespace Hk
theorem Qvv (g:Nat)(X:Sx)(v:Vl)(off:Int)(w:World)(hX:Q1e w g X)(hvo:-2097152≤v.off∧v.off≤2097152)(hof:-100000≤off∧off≤100000)(hctx:0≤X.ctx∧X.ctx≤64)(hds:∀ d∈X.ds,0≤d.val∧d.val≤64)(hvi:0≤v.i∧v.i≤7)(h3:(v.k==3)=false):Calls Tryz.prog 120 #[.pointer (some ⟨g,0,none⟩),v,.int .i64 off,.int .i64 1] w (RB.a w (.tuple #[(Co.gotV X.s X.ds X.ctx v off 1),.int .i64 (Co.gotE X.s X.ds X.ctx v off 1)])):=by
 have zg:=hX.lt;cases hp:Vl.ptr v
 · have EE:=Lib.hid (show Co.gotE X.s X.ds X.ctx v off 1=140∧Co.gotV X.s X.ds X.ctx v off 1=Vl.zero from Ygt)
   exact Ym0
 · generalize hI:Co.insideE X.ds X.ctx v off 1=eI at *
   cases hn:(eI != 0)
   · have e0:eI=0:=by simpa using hn
     subst e0;have EE:=Lib.hid (show Co.gotE X.s X.ds X.ctx v off 1=0∧Co.gotV X.s X.ds X.ctx v off 1=Co.sizedV 1 from Ygu);refine Yvz ?_;go_wp2_with ((with_reducible apply ic);first|(refine Y4r ?_;intro w1 hb1 hc1 hf1 hz1)|(refine Y6h ?_;intro w2 hb2 hc2 hf2 hz2)|(go_at_call 118;(with_reducible refine (Qo4 _).mono ?_);refine Y2c ?_;intro w3 hb3 hc3 hf3 hz3));refine bodyPost_ret (Qk (fn:=Tryz.f120) rfl _ _ (w.heap.size+1) ((Co.sizedV 1)) (.int .i64 0) rfl rfl ?_ ?_ ?_ ?_ ?_ ?_ ?_) rfl ⟨rfl,Yb⟩
     all_goals (simp (maxDischargeDepth:=12) [*,go_sem,↓IntWalk.iteOmega];done)
   · have EE:=Lib.hid (show Co.gotE X.s X.ds X.ctx v off 1=eI∧Co.gotV X.s X.ds X.ctx v off 1=Vl.zero from Ygv)
     exact Ylr
theorem Qvu (g:Nat)(X:Sx)(v:Vl)(off:Int)(w:World)(hX:Q1e w g X)(hvo:-2097152≤v.off∧v.off≤2097152)(hof:-100000≤off∧off≤100000)(hctx:0≤X.ctx∧X.ctx≤64)(hds:∀ d∈X.ds,0≤d.val∧d.val≤64)(hvi:0≤v.i∧v.i≤7)(h3:(v.k==3)=false):Calls Tryz.prog 120 #[.pointer (some ⟨g,0,none⟩),v,.int .i64 off,.int .i64 2] w (RB.a w (.tuple #[(Co.gotV X.s X.ds X.ctx v off 2),.int .i64 (Co.gotE X.s X.ds X.ctx v off 2)])):=by
 have zg:=hX.lt;cases hp:Vl.ptr v
 · have EE:=Lib.hid (show Co.gotE X.s X.ds X.ctx v off 2=140∧Co.gotV X.s X.ds X.ctx v off 2=Vl.zero from Ygt)
   exact Ym0
 · generalize hI:Co.insideE X.ds X.ctx v off 2=eI at *
   cases hn:(eI != 0)
   · have e0:eI=0:=by simpa using hn
     subst e0;have EE:=Lib.hid (show Co.gotE X.s X.ds X.ctx v off 2=0∧Co.gotV X.s X.ds X.ctx v off 2=Co.sizedV 2 from Ygu);refine Yvz ?_;go_wp2_with ((with_reducible apply ic);first|(refine Y4r ?_;intro w1 hb1 hc1 hf1 hz1)|(refine Y6h ?_;intro w2 hb2 hc2 hf2 hz2)|(refine Y6d ?_;intro w3 hb3 hc3 hf3 hz3));refine bodyPost_ret (Qk (fn:=Tryz.f120) rfl _ _ (w.heap.size+1) ((Co.sizedV 2)) (.int .i64 0) rfl rfl ?_ ?_ ?_ ?_ ?_ ?_ ?_) rfl ⟨rfl,Yb⟩
     all_goals (simp (maxDischargeDepth:=12) [*,go_sem,↓IntWalk.iteOmega];done)
   · have EE:=Lib.hid (show Co.gotE X.s X.ds X.ctx v off 2=eI∧Co.gotV X.s X.ds X.ctx v off 2=Vl.zero from Ygv)
     exact Ylr
theorem Qvt (g:Nat)(X:Sx)(v:Vl)(off:Int)(w:World)(hX:Q1e w g X)(hvo:-2097152≤v.off∧v.off≤2097152)(hof:-100000≤off∧off≤100000)(hctx:0≤X.ctx∧X.ctx≤64)(hds:∀ d∈X.ds,0≤d.val∧d.val≤64)(hvi:0≤v.i∧v.i≤7)(h3:(v.k==3)=false):Calls Tryz.prog 120 #[.pointer (some ⟨g,0,none⟩),v,.int .i64 off,.int .i64 4] w (RB.a w (.tuple #[(Co.gotV X.s X.ds X.ctx v off 4),.int .i64 (Co.gotE X.s X.ds X.ctx v off 4)])):=by
 have zg:=hX.lt;cases hp:Vl.ptr v
 · have EE:=Lib.hid (show Co.gotE X.s X.ds X.ctx v off 4=140∧Co.gotV X.s X.ds X.ctx v off 4=Vl.zero from Ygt)
   exact Ym0
 · generalize hI:Co.insideE X.ds X.ctx v off 4=eI at *
   cases hn:(eI != 0)
   · have e0:eI=0:=by simpa using hn
     subst e0;have EE:=Lib.hid (show Co.gotE X.s X.ds X.ctx v off 4=0∧Co.gotV X.s X.ds X.ctx v off 4=Co.sizedV 4 from Ygu);refine Yvz ?_;go_wp2_with ((with_reducible apply ic);first|(refine Y4r ?_;intro w1 hb1 hc1 hf1 hz1)|(refine Y6h ?_;intro w2 hb2 hc2 hf2 hz2)|(refine Y6e ?_;intro w3 hb3 hc3 hf3 hz3));refine bodyPost_ret (Qk (fn:=Tryz.f120) rfl _ _ (w.heap.size+1) ((Co.sizedV 4)) (.int .i64 0) rfl rfl ?_ ?_ ?_ ?_ ?_ ?_ ?_) rfl ⟨rfl,Yb⟩
     all_goals (simp (maxDischargeDepth:=12) [*,go_sem,↓IntWalk.iteOmega];done)
   · have EE:=Lib.hid (show Co.gotE X.s X.ds X.ctx v off 4=eI∧Co.gotV X.s X.ds X.ctx v off 4=Vl.zero from Ygv)
     exact Ylr
theorem Qvs (g:Nat)(X:Sx)(v:Vl)(off:Int)(w:World)(hX:Q1e w g X)(hvo:-2097152≤v.off∧v.off≤2097152)(hof:-100000≤off∧off≤100000)(hctx:0≤X.ctx∧X.ctx≤64)(hds:∀ d∈X.ds,0≤d.val∧d.val≤64)(hvi:0≤v.i∧v.i≤7)(h3:(v.k==3)=false):Calls Tryz.prog 120 #[.pointer (some ⟨g,0,none⟩),v,.int .i64 off,.int .i64 8] w (RB.a w (.tuple #[(Co.gotV X.s X.ds X.ctx v off 8),.int .i64 (Co.gotE X.s X.ds X.ctx v off 8)])):=by
 have zg:=hX.lt;cases hp:Vl.ptr v
 · have EE:=Lib.hid (show Co.gotE X.s X.ds X.ctx v off 8=140∧Co.gotV X.s X.ds X.ctx v off 8=Vl.zero from Ygt)
   exact Ym0
 · generalize hI:Co.insideE X.ds X.ctx v off 8=eI at *
   cases hn:(eI != 0)
   · have e0:eI=0:=by simpa using hn
     subst e0;have EE:=Lib.hid (show Co.gotE X.s X.ds X.ctx v off 8=0∧Co.gotV X.s X.ds X.ctx v off 8=Co.sizedV 8 from Ygu);refine Yvz ?_;go_wp2_with ((with_reducible apply ic);first|(refine Y4r ?_;intro w1 hb1 hc1 hf1 hz1)|(refine Y6h ?_;intro w2 hb2 hc2 hf2 hz2)|(refine Y6f ?_;intro w3 hb3 hc3 hf3 hz3));refine bodyPost_ret (Qk (fn:=Tryz.f120) rfl _ _ (w.heap.size+1) ((Co.sizedV 8)) (.int .i64 0) rfl rfl ?_ ?_ ?_ ?_ ?_ ?_ ?_) rfl ⟨rfl,Yb⟩
     all_goals (simp (maxDischargeDepth:=12) [*,go_sem,↓IntWalk.iteOmega];done)
   · have EE:=Lib.hid (show Co.gotE X.s X.ds X.ctx v off 8=eI∧Co.gotV X.s X.ds X.ctx v off 8=Vl.zero from Ygv)
     exact Ylr
end Hk
