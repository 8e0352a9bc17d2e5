/- A part of TopTwice's proof; no condition. -/
import Derived.Test.YtkgmipfmphlpgaaGreatK27
import Derived.Test.YtkgmipfmphlpgaaGreatK20
import Derived.Test.YtkgmipfmphlpgaaGreatKA
open Go Go.RowKit Go.Proofs
set_option linter.all false
set_option maxRecDepth 100000
set_option maxHeartbeats 20000000
namespace Hk
attribute [-go_sem] Qm
attribute [go_sem] Q1v
theorem Q128 (g:Nat)(X:Sx)(v:Vl)(off n:Int)(w:World)(hX:Q1e w g X)(hvo:-2097152≤v.off∧v.off≤2097152)(hof:-100000≤off∧off≤100000)(hctx:0≤X.ctx∧X.ctx≤64)(hds:∀ d∈X.ds,0≤d.val∧d.val≤64)(hvi:0≤v.i∧v.i≤7)(hn:n=1∨n=2∨n=4∨n=8):Calls Tryz.prog 120 #[.pointer (some ⟨g,0,none⟩),v,.int .i64 off,.int .i64 n] w (RB.a w (.tuple #[(Co.gotV X.s X.ds X.ctx v off n),.int .i64 (Co.gotE X.s X.ds X.ctx v off n)])):=by
 cases h3:(v.k==3)
 · rcases hn with rfl|rfl|rfl|rfl
   · exact Qvv g X v off w hX hvo hof hctx hds hvi h3
   · exact Qvu g X v off w hX hvo hof hctx hds hvi h3
   · exact Qvt g X v off w hX hvo hof hctx hds hvi h3
   · exact Qvs g X v off w hX hvo hof hctx hds hvi h3
 · exact Q127 g X v off n w hX hvo hof h3
def Q10g (g rb qd:Nat)(X:Sx)(v:Vl)(w:World)(d:Nat→Bool)(ν:Nat→Nat × Nat)(w':World):Prop:=w'.cell? ⟨g,6,none⟩=some (.int .u8 (qd:Nat))∧w'.cell? ⟨g,15+qd*7,none⟩=some (.int .u8 v.k)∧w'.cell? ⟨g,15+qd*7+1,none⟩=some (.int .u64 (N v.f.t.v))∧w'.cell? ⟨g,15+qd*7+2,none⟩=some (.int .u64 (N v.f.t.m))∧w'.cell? ⟨g,15+qd*7+3,none⟩=some (.int .u64 (N v.f.s.lo))∧w'.cell? ⟨g,15+qd*7+4,none⟩=some (.int .u64 (N v.f.s.hi))∧w'.cell? ⟨g,15+qd*7+5,none⟩=some (.int .i64 v.i)∧w'.cell? ⟨g,15+qd*7+6,none⟩=some (.int .i64 v.off)∧w'.cell? ⟨rb,0,none⟩=some (.int .u8 0)∧w'.cell? ⟨rb,1,none⟩=some (.int .u64 0)∧w'.cell? ⟨rb,2,none⟩=some (.int .u64 0)∧w'.cell? ⟨rb,3,none⟩=some (.int .u64 0)∧w'.cell? ⟨rb,4,none⟩=some (.int .u64 0)∧w'.cell? ⟨rb,5,none⟩=some (.int .i64 0)∧w'.cell? ⟨rb,6,none⟩=some (.int .i64 0)∧(∀ i,w'.frozen? ⟨rb,i,none⟩=false)∧GVl.a d ν w' 11 12 v ((d 11=true→∀ i,w'.frozen? ⟨(ν 11).1,i,none⟩=false)∧(d 11=true→rb+1≤(ν 11).1)∧rb+1≤w'.heap.size∧Q1e w' g X∧Below w.heap.size w w')
theorem Q71 {g rb qd:Nat}{X:Sx}{v:Vl}{w:World}:KT (Q10g g rb qd X v w):=by
 exact Ykp
theorem Qa8 {g rb qd:Nat}{X:Sx}{v:Vl}{w:World}:MT (Q10g g rb qd X v w) [11,12]:=by
 intro d d' ν w' hd h;unfold Q10g at *;simpa only[← hd 11 Y3,← hd 12 Y3] using h
theorem Qe2 {g rb qd:Nat}{X:Sx}{v:Vl}{w:World}:NT (Q10g g rb qd X v w) [11]:=by
 intro i hi d ν c w' hd h;unfold Q10g at *;exact Ypy
def Q11q (g rb pb:Nat)(X:Sx)(v y:Vl)(w:World)(d:Nat→Bool)(ν:Nat→Nat × Nat)(w':World):Prop:=w'.cell? ⟨g,7,none⟩=some (.int .i16 (I16 X.x.off))∧w'.cell? ⟨g,14,none⟩=some (.int .i64 X.w.size)∧CVl.a w' pb v (w'.cell? ⟨rb,0,none⟩=some (.int .u8 0)∧w'.cell? ⟨rb,1,none⟩=some (.int .u64 0)∧w'.cell? ⟨rb,2,none⟩=some (.int .u64 0)∧w'.cell? ⟨rb,3,none⟩=some (.int .u64 0)∧w'.cell? ⟨rb,4,none⟩=some (.int .u64 0)∧w'.cell? ⟨rb,5,none⟩=some (.int .i64 0)∧w'.cell? ⟨rb,6,none⟩=some (.int .i64 0)∧(∀ i,w'.frozen? ⟨rb,i,none⟩=false)∧GVl.a d ν w' 17 18 y ((d 17=true→∀ i,w'.frozen? ⟨(ν 17).1,i,none⟩=false)∧(d 17=true→w.heap.size≤(ν 17).1)∧w.heap.size≤w'.heap.size∧Q1e w' g X∧Below w.heap.size w w'))
theorem Qa7 {g rb pb:Nat}{X:Sx}{v y:Vl}{w:World}:KT (Q11q g rb pb X v y w):=by
 intro d ν w' w1 h hb;obtain⟨k0,k1,k2,k3,k4,k5,k6,k7,k8,k9,k10,k11,k12,k13,k14,k15,k16,k17,k18,k19,k20,k21,k22,k23,k24,k25,k26,k27,k28⟩:=h;exact⟨Q0 hb k0,Q0 hb k1,Q0 hb k2,Q0 hb k3,Q0 hb k4,Q0 hb k5,Q0 hb k6,Q0 hb k7,Q0 hb k8,Q0 hb k9,Q0 hb k10,Q0 hb k11,Q0 hb k12,Q0 hb k13,Q0 hb k14,Q0 hb k15,Q7 hb k9 k16,fun h=>Q0 hb (k17 h),fun h=>Q0 hb (k18 h),fun h=>Q0 hb (k19 h),fun h=>Q0 hb (k20 h),fun h=>Q0 hb (k21 h),fun h=>Q0 hb (k22 h),fun h=>Q0 hb (k23 h),fun h=>Q7 hb (k17 h) (k24 h),k25,Nat.le_trans k26 hb.size,(k27).keep hb,Q8 k28 hb⟩
theorem Qmv {g rb pb:Nat}{X:Sx}{v y:Vl}{w:World}:MT (Q11q g rb pb X v y w) [17,18]:=by
 intro d d' ν w' hd h;unfold Q11q at *;simpa only[← hd 17 Y3,← hd 18 Y3] using h
theorem Qtj {g rb pb:Nat}{X:Sx}{v y:Vl}{w:World}:NT (Q11q g rb pb X v y w) [17]:=by
 intro i hi d ν c w' hd h;unfold Q11q at *;exact Ypy
theorem Qps {X:Sx}{y:Vl}(h:(y.k==1)=false):Co.signV X y=Vl.zero:=by unfold Co.signV;rw[h];rfl
theorem Qio {X:Sx}{y:Vl}(h:(y.k==1)=true)(hk:Fa.known y.f=none):Co.signV X y=Vl.num Fa.any:=by unfold Co.signV;rw[h,hk];rfl
theorem Qfd {X:Sx}{y:Vl}{n:BitVec 64}(h:(y.k==1)=true)(hk:Fa.known y.f=some n):Co.signV X y=Co.knownV (Alu.sgn n (8*X.w.size)):=by unfold Co.signV;rw[h,hk];rfl
theorem Qvr (g:Nat)(X:Sx)(w:World)(hX:Q1e w g X)(hq:X.x.src.toNat<11)(hvo:-2097152≤(X.s.r X.x.src.toNat).off∧(X.s.r X.x.src.toNat).off≤2097152)(hctx:0≤X.ctx∧X.ctx≤64)(hds:∀ d∈X.ds,0≤d.val∧d.val≤64)(hvi:0≤(X.s.r X.x.src.toNat).i∧(X.s.r X.x.src.toNat).i≤7)(hn:X.w.size=1∨X.w.size=2∨X.w.size=4∨X.w.size=8):Calls Tryz.prog 89 #[.pointer (some ⟨g,0,none⟩)] w (RB.a w (.tuple #[(Co.loadV X (X.s.r X.x.src.toNat)),.int .i64 (Co.loadE X (X.s.r X.x.src.toNat))])):=by
 refine Yvt ?_;intro zg hXb;obtain⟨a0,a1,a2,a3,a4,a5,a6,a7,a8,a9,a10,a11,a12,a13,a14⟩:=hX.cells;have hI:=Qee X.x.off;have eS:N8 X.x.src=((X.x.src.toNat:Nat):Int):=rfl;rw[eS] at a6;clear eS;obtain⟨b0,b1,b2,b3,b4,b5,b6⟩:=hX.regs hq;generalize X.x.src.toNat=qd at *;generalize X.s.r qd=v at *;obtain⟨y,hy⟩:∃ y,Co.loadV0 X v=y:=⟨_,rfl⟩;obtain⟨eg,heg⟩:∃ y,Co.loadE0 X v=y:=⟨_,rfl⟩;have hVE:=Lib.hid (show Co.gotV X.s X.ds X.ctx v (I16 X.x.off) X.w.size=y∧Co.gotE X.s X.ds X.ctx v (I16 X.x.off) X.w.size=eg from ⟨hy,heg⟩);have hVL:=Lib.hid (And.intro hy heg);clear hy heg;cases h0:(v.k==0)
 · go_enter Tryz.func89,Tryz.ntmps89
   go_wp2;refine Q2 (Q10g g w.heap.size qd X v w) [11,12] [11] (fun _ c=>.pointer (some ⟨c.1,0,none⟩)) rfl Yc ?_ (fun d d' ν w'=>Qa8 d d' ν w') (fun d ν w' w1=>Q71 d ν w' w1) (fun i hi d ν c w'=>Qe2 i hi d ν c w') ?_
   · exact Ylt
   apply Exists.intro;refine⟨fun ν=>?_,?_,?_⟩
   · exact Yrj
   · exact Yoo
   · intro ν w9 d hd hC
     obtain⟨k0,k1,k2,k3,k4,k5,k6,k7,k8,k9,k10,k11,k12,k13,k14,k15,k16,k17,k18,k19,k20,k21,k22,k23,k24,k25,k26,k27⟩:=hC;have q11:=hd 11 Y0;have q12:=hd 12 Y0;simp only[q11,q12,cond_true,cond_false,forall_const,true_implies] at k0 k1 k2 k3 k4 k5 k6 k7 k8 k9 k10 k11 k12 k13 k14 k15 k16 k17 k18 k19 k20 k21 k22 k23 k24 k25 k26 k27;clear q11 q12;clear hd;have z0:=Q1 k0;have z8:=Q1 k8;have z16:=Q1 k16;generalize (ν 11).1=pb at *;clear a0 a1 a2 a3 a4 a5 a6 a7 a8 a9 a10 a11 a12 a13 a14 b0 b1 b2 b3 b4 b5 b6;have hX9:Q1e w9 g X:=hX.keep Y14;obtain⟨e0,e1,e2,e3,e4,e5,e6,e7,e8,e9,e10,e11,e12,e13,e14⟩:=hX9.cells;go_wp2_with (go_at_call 113;refine Y3u ?_;intro w2 hb2 hc2 hf2 hz2);have hX2:Q1e w2 g X:=hX9.keep Y14;have zg2:=hX2.lt
     refine Q2 (Q11q g w.heap.size pb X v y w2) [17,18] [17] (fun _ c=>.pointer (some ⟨c.1,0,none⟩)) rfl Yc ?_ (fun d d' ν w'=>Qmv d d' ν w') (fun d ν w' w1=>Qa7 d ν w' w1) (fun i hi d ν c w'=>Qtj i hi d ν c w') ?_
     · intro d ν hd;refine⟨?_,?_,?_,?_,?_,?_,?_,?_,?_,?_,?_,?_,?_,?_,?_,?_,?_,?_,?_,?_,?_,?_,?_,?_,?_,?_,?_,?_,Yb⟩<;>first|(with_reducible exact hX2.keep Y1g)|(simp (maxDischargeDepth:=12) [*,hd,upd,Qo,go_sem,↓IntWalk.iteOmega];done)|(intro i;simp (maxDischargeDepth:=12) [*,upd,Qo,go_sem,↓IntWalk.iteOmega];done)|(intro h;rw[hd _ Y0] at h;cases h)|go_size|(simp;omega)
     apply Exists.intro;refine⟨fun ν=>?_,?_,?_⟩
     · (try simp only[List.append])
       iterate 17 refine Ydi ?_
       (refine Qq Y0 Yc (fun d w' hd hC=>?_) ?_
        · have r:=hd.open_
          have q18:d 18=false:=by
           exact Ys8
          refine Yuw ?_;have hz0:=hC;obtain⟨-,-,-,-,-,-,-,-,-,-,-,-,-,-,-,-,-,-,-,-,-,-,-,-,-,-,hz0,-,-⟩:=hz0;have hC:=Qa7 _ _ _ _ hC (Below.alloc (Below.refl _ w') (Nat.le_refl _) (.cells #[.int .u8 0,.int .u64 0,.int .u64 0,.int .u64 0,.int .u64 0,.int .i64 0,.int .i64 0] 84));obtain⟨k0,k1,k2,k3,k4,k5,k6,k7,k8,k9,k10,k11,k12,k13,k14,k15,k16,k17,k18,k19,k20,k21,k22,k23,k24,k25,k26,k27,k28⟩:=hC;refine⟨?_,?_,?_,?_,?_,?_,?_,?_,?_,?_,?_,?_,?_,?_,?_,?_,?_,?_,?_,?_,?_,?_,?_,?_,?_,?_,?_,?_,?_⟩<;>first|assumption|(intros;simp (maxDischargeDepth:=12) [*,upd,Qo,go_sem,↓IntWalk.iteOmega];done)
        simp only[Act.put,List.setIfInBounds_toArray,List.set_cons_succ,List.set_cons_zero,Nat.reduceAdd,Nat.zero_add])
       (refine Qh rfl rfl rfl rfl Yc (fun d w' hd hC=>?_) ?_
        · obtain⟨k0,k1,k2,k3,k4,k5,k6,k7,k8,k9,k10,k11,k12,k13,k14,k15,k16,k17,k18,k19,k20,k21,k22,k23,k24,k25,k26,k27,k28⟩:=hC
          have q17:=hd.ahead 17 Yd;simp only[q17,true_implies,forall_const] at k17 k18 k19 k20 k21 k22 k23 k24 k25;have r:=hd.open_;refine⟨_,Y11,?_⟩;refine⟨?_,?_,?_,?_,?_,?_,?_,?_,?_,?_,?_,?_,?_,?_,?_,?_,?_,?_,?_,?_,?_,?_,?_,?_,?_,?_,?_,?_,Y1g⟩
          · exact Yqf
          · exact Yqg
          · exact Yqh
          · exact Yqi
          · exact Yqj
          · exact Yqk
          · exact Yql
          · exact Yqm
          · exact Yqn
          · exact Yqo
          · exact Yq9
          · exact Yqa
          · exact Yqb
          · exact Yqc
          · exact Yqd
          · iterate 7 (rw[World.cell?_setCell_other _ _ _ _ (fun e=>absurd (congrArg Addr.block e) Y19)])
            exact k15
          · intro j9;simp only[World.frozen?_setCell];exact k16 j9
          · exact Yq5
          · exact Yq5
          · exact Yq5
          · exact Yq5
          · exact Yq5
          · exact Yq5
          · exact Yq5
          · intro h j9;simp only[World.frozen?_setCell];exact k24 j9
          · intro h;exact k25
          · simpa using k26
          · first|(with_reducible exact hX2.keep Y1g)|assumption)
       iterate 1 refine Ydi ?_
       exact rfl
     · exact Yoo
     · intro ν w8 d hd hC
       obtain⟨k0,k1,k2,k3,k4,k5,k6,k7,k8,k9,k10,k11,k12,k13,k14,k15,k16,k17,k18,k19,k20,k21,k22,k23,k24,k25,k26,k27,k28⟩:=hC;have q17:=hd 17 Y0;have q18:=hd 18 Y0;simp only[q17,q18,cond_true,cond_false,forall_const,true_implies] at k0 k1 k2 k3 k4 k5 k6 k7 k8 k9 k10 k11 k12 k13 k14 k15 k16 k17 k18 k19 k20 k21 k22 k23 k24 k25 k26 k27 k28;clear q17 q18;clear hd;have z0:=Q1 k0;have z2:=Q1 k2;have z9:=Q1 k9;have z17:=Q1 k17;have hX8:Q1e w8 g X:=hX2.keep Y14;have zg8:=hX8.lt;obtain⟨f0,f1,f2,f3,f4,f5,f6,f7,f8,f9,f10,f11,f12,f13,f14⟩:=hX8.cells;generalize (ν 17).1=yb at *;cases hE:(eg==0)
       · have hne:(eg != 0)=true:=by simp only[bne,hE];rfl
         have EE:=Lib.hid (show Co.loadV X v=y∧Co.loadE X v=eg by unfold Co.loadV Co.loadE;rw[hVL.out.1,hVL.out.2];rw[h0];rw[hE];exact⟨rfl,rfl⟩);go_wp2_with (first|fail);rw[EE.out.1,EE.out.2];refine bodyPost_ret (Qk (fn:=Tryz.f89) rfl _ _ (w.heap.size) (y) (.int .i64 eg) rfl rfl ?_ ?_ ?_ ?_ ?_ ?_ ?_) rfl ⟨rfl,Yb⟩
         all_goals (simp (maxDischargeDepth:=12) [*,go_sem,↓IntWalk.iteOmega,Vl.zero,Fa.zero];done)
       · have hne:(eg != 0)=false:=by simp only[bne,hE];rfl
         cases hs:X.w.signed
         · rw[hs] at f13
           have EE:=Lib.hid (show Co.loadV X v=y∧Co.loadE X v=eg by unfold Co.loadV Co.loadE;rw[hVL.out.1,hVL.out.2];rw[h0];rw[hE,hs];exact⟨rfl,rfl⟩);go_wp2_with (first|fail);rw[EE.out.1,EE.out.2];refine bodyPost_ret (Qk (fn:=Tryz.f89) rfl _ _ (w.heap.size) (y) (.int .i64 eg) rfl rfl ?_ ?_ ?_ ?_ ?_ ?_ ?_) rfl ⟨rfl,Yb⟩
           all_goals (simp (maxDischargeDepth:=12) [*,go_sem,↓IntWalk.iteOmega,Vl.zero,Fa.zero];done)
         · rw[hs] at f13
           cases h1:(y.k==1)
           · have EE:=Lib.hid (show Co.loadV X v=Vl.zero∧Co.loadE X v=140 by unfold Co.loadV Co.loadE;rw[hVL.out.1,hVL.out.2];rw[h0];rw[hE,hs];rw[Qps h1,h1];exact⟨rfl,rfl⟩)
             go_wp2_with (go_at_call 116;refine Y3v ?_;intro w4 hb4 hc4 hf4 hz4);rw[EE.out.1,EE.out.2];refine bodyPost_ret (Qk (fn:=Tryz.f89) rfl _ _ (w.heap.size) (Vl.zero) (.int .i64 140) rfl rfl ?_ ?_ ?_ ?_ ?_ ?_ ?_) rfl ⟨rfl,Yb⟩
             all_goals (simp (maxDischargeDepth:=12) [*,go_sem,↓IntWalk.iteOmega,Vl.zero,Fa.zero];done)
           · rcases hk:Fa.known y.f with _|n
             · have EE:=Lib.hid (show Co.loadV X v=(Vl.num Fa.any)∧Co.loadE X v=0 by unfold Co.loadV Co.loadE;rw[hVL.out.1,hVL.out.2];rw[h0];rw[hE,hs];rw[Qio h1 hk,h1];exact⟨rfl,rfl⟩)
               have HK:=Lib.hid (show Fa.known ⟨⟨y.f.t.v,y.f.t.m⟩,⟨y.f.s.lo,y.f.s.hi⟩⟩=none from hk);clear hk;go_wp2_with ((with_reducible apply ic);first|(refine Y3v ?_;intro w4 hb4 hc4 hf4 hz4)|(refine Y3w ?_;intro w5 hb5 hc5 hf5 hz5)|(refine Y3n ?_;intro w7 hb7 hc7 hf7 hz7)|(refine Y3m ?_;intro w8 hb8 hc8 hf8 hz8));rw[EE.out.1,EE.out.2];refine bodyPost_ret (Qk (fn:=Tryz.f89) rfl _ _ (w.heap.size) ((Vl.num Fa.any)) (.int .i64 0) rfl rfl ?_ ?_ ?_ ?_ ?_ ?_ ?_) rfl ⟨rfl,Yb⟩
               all_goals (simp (maxDischargeDepth:=12) [*,go_sem,↓IntWalk.iteOmega];done)
             · have EE:=Lib.hid (show Co.loadV X v=(Co.knownV (Alu.sgn n (8*X.w.size)))∧Co.loadE X v=0 by unfold Co.loadV Co.loadE;rw[hVL.out.1,hVL.out.2];rw[h0];rw[hE,hs];rw[Qfd h1 hk,h1];exact⟨rfl,rfl⟩)
               have HK:=Lib.hid (show Fa.known ⟨⟨y.f.t.v,y.f.t.m⟩,⟨y.f.s.lo,y.f.s.hi⟩⟩=some n from hk);clear hk;have hb8:1≤X.w.size∧X.w.size≤8:=Y1;go_wp2_with ((with_reducible apply ic);first|(refine Y3v ?_;intro w4 hb4 hc4 hf4 hz4)|(refine Y3w ?_;intro w5 hb5 hc5 hf5 hz5)|(go_at_call 122;(with_reducible refine (Qin _ _ _).mono ?_);refine Y32 ?_)|(refine Y3t ?_;intro w8 hb8 hc8 hf8 hz8));rw[EE.out.1,EE.out.2];refine bodyPost_ret (Qk (fn:=Tryz.f89) rfl _ _ (w.heap.size) ((Co.knownV (Alu.sgn n (8*X.w.size)))) (.int .i64 0) rfl rfl ?_ ?_ ?_ ?_ ?_ ?_ ?_) rfl ⟨rfl,Yb⟩
               all_goals (simp (maxDischargeDepth:=12) [*,go_sem,↓IntWalk.iteOmega];done)
 · have EE:=Lib.hid (show Co.loadV X v=Vl.zero∧Co.loadE X v=110 by unfold Co.loadV Co.loadE;rw[h0];exact⟨rfl,rfl⟩)
   go_enter Tryz.func89,Tryz.ntmps89;go_wp2;refine Q2 (Q10g g w.heap.size qd X v w) [11,12] [11] (fun _ c=>.pointer (some ⟨c.1,0,none⟩)) rfl Yc ?_ (fun d d' ν w'=>Qa8 d d' ν w') (fun d ν w' w1=>Q71 d ν w' w1) (fun i hi d ν c w'=>Qe2 i hi d ν c w') ?_
   · exact Ylt
   apply Exists.intro;refine⟨fun ν=>?_,?_,?_⟩
   · exact Yrj
   · exact Yoo
   · intro ν w9 d hd hC
     obtain⟨k0,k1,k2,k3,k4,k5,k6,k7,k8,k9,k10,k11,k12,k13,k14,k15,k16,k17,k18,k19,k20,k21,k22,k23,k24,k25,k26,k27⟩:=hC;have q11:=hd 11 Y0;have q12:=hd 12 Y0;simp only[q11,q12,cond_true,cond_false,forall_const,true_implies] at k0 k1 k2 k3 k4 k5 k6 k7 k8 k9 k10 k11 k12 k13 k14 k15 k16 k17 k18 k19 k20 k21 k22 k23 k24 k25 k26 k27;clear q11 q12;clear hd;have z0:=Q1 k0;have z8:=Q1 k8;have z16:=Q1 k16;go_wp2_with (go_at_call 113;refine Y3u ?_;intro w2 hb2 hc2 hf2 hz2);rw[EE.out.1,EE.out.2];refine bodyPost_ret (Qk (fn:=Tryz.f89) rfl _ _ (w.heap.size) (Vl.zero) (.int .i64 110) rfl rfl ?_ ?_ ?_ ?_ ?_ ?_ ?_) rfl ⟨rfl,Yb⟩
     all_goals (simp (maxDischargeDepth:=12) [*,go_sem,↓IntWalk.iteOmega,Vl.zero,Fa.zero];done)
end Hk
