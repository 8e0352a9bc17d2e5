/- A part of TopTwice's proof; no condition. -/
import Derived.Test.YtkgmipfmphlpgaaGreatK18
import Derived.Test.YtkgmipfmphlpgaaGreatK24
open Go Go.RowKit Go.Proofs
set_option linter.all false
set_option maxRecDepth 100000
set_option maxHeartbeats 20000000
namespace Hk
attribute [-go_sem] Qm
attribute [go_sem] Q1v
theorem Qo9 (w:World):Calls Tryz.prog 90 #[.int .u64 0] w (RB.a w ((Co.knownV 0#64))):=Q62 0#64 w
def Q11u (g rb:Nat)(X:Sx)(w:World)(d:Nat→Bool)(ν:Nat→Nat × Nat)(w':World):Prop:=Q15t.a w' g X.w (w'.cell? ⟨rb,0,none⟩=some (.int .u8 0)∧w'.cell? ⟨rb,1,none⟩=some (.int .u64 0)∧w'.cell? ⟨rb,2,none⟩=some (.int .u64 0)∧w'.cell? ⟨rb,3,none⟩=some (.int .u64 0)∧w'.cell? ⟨rb,4,none⟩=some (.int .u64 0)∧w'.cell? ⟨rb,5,none⟩=some (.int .i64 0)∧w'.cell? ⟨rb,6,none⟩=some (.int .i64 0)∧(∀ i,w'.frozen? ⟨rb,i,none⟩=false)∧GVl.a d ν w' 8 11 (X.s.r X.x.dst.toNat) ((d 8=true→∀ i,w'.frozen? ⟨(ν 8).1,i,none⟩=false)∧(d 8=true→rb+1≤(ν 8).1)∧GVl.a d ν w' 9 12 (Co.srcV X) ((d 9=true→∀ i,w'.frozen? ⟨(ν 9).1,i,none⟩=false)∧(d 9=true→rb+1≤(ν 9).1)∧(d 8=true→d 9=true→(ν 8).1≠(ν 9).1)∧GWh.a d ν w' 10 13 X.w ((d 10=true→∀ i,w'.frozen? ⟨(ν 10).1,i,none⟩=false)∧(d 10=true→rb+1≤(ν 10).1)∧(d 8=true→d 10=true→(ν 8).1≠(ν 10).1)∧(d 9=true→d 10=true→(ν 9).1≠(ν 10).1)∧rb+1≤w'.heap.size∧Q1e w' g X∧Below w.heap.size w w'))))
theorem Q5a {g rb:Nat}{X:Sx}{w:World}:KT (Q11u g rb X w):=by
 intro d ν w' w1 h hb;obtain⟨k0,k1,k2,k3,k4,k5,k6,k7,k8,k9,k10,k11,k12,k13,k14,k15,k16,k17,k18,k19,k20,k21,k22,k23,k24,k25,k26,k27,k28,k29,k30,k31,k32,k33,k34,k35,k36,k37,k38,k39,k40,k41,k42,k43,k44,k45⟩:=h
 exact⟨Q0 hb k0,Q0 hb k1,Q0 hb k2,Q0 hb k3,Q0 hb k4,Q0 hb k5,Q0 hb k6,Q0 hb k7,Q0 hb k8,Q0 hb k9,Q0 hb k10,Q0 hb k11,Q0 hb k12,Q7 hb k6 k13,fun h=>Q0 hb (k14 h),fun h=>Q0 hb (k15 h),fun h=>Q0 hb (k16 h),fun h=>Q0 hb (k17 h),fun h=>Q0 hb (k18 h),fun h=>Q0 hb (k19 h),fun h=>Q0 hb (k20 h),fun h=>Q7 hb (k14 h) (k21 h),k22,fun h=>Q0 hb (k23 h),fun h=>Q0 hb (k24 h),fun h=>Q0 hb (k25 h),fun h=>Q0 hb (k26 h),fun h=>Q0 hb (k27 h),fun h=>Q0 hb (k28 h),fun h=>Q0 hb (k29 h),fun h=>Q7 hb (k23 h) (k30 h),k31,k32,fun h=>Q0 hb (k33 h),fun h=>Q0 hb (k34 h),fun h=>Q0 hb (k35 h),fun h=>Q0 hb (k36 h),fun h=>Q0 hb (k37 h),fun h=>Q0 hb (k38 h),fun h=>Q7 hb (k33 h) (k39 h),k40,k41,k42,Nat.le_trans k43 hb.size,(k44).keep hb,Q8 k45 hb⟩
theorem Qn2 {g rb:Nat}{X:Sx}{w:World}:MT (Q11u g rb X w) [8,9,10,11,12,13]:=by
 intro d d' ν w' hd h;unfold Q11u at *;exact Yr8
theorem Qtw {g rb:Nat}{X:Sx}{w:World}:NT (Q11u g rb X w) [8,9,10]:=by
 intro i hi d ν c w' hd h;unfold Q11u at *;exact Yp0
def Q11t (ba bb g rb:Nat)(bw:Nat)(a b:Vl)(X:Sx)(w:World)(d:Nat→Bool)(ν:Nat→Nat × Nat)(w':World):Prop:=w'.cell? ⟨g,7,none⟩=some (.int .i16 (I16 X.x.off))∧w'.cell? ⟨bw,1,none⟩=some (.int .u8 (N8 X.w.op))∧w'.cell? ⟨bw,2,none⟩=some (.bool X.w.wide)∧w'.cell? ⟨ba,1,none⟩=some (.int .u64 (N a.f.t.v))∧w'.cell? ⟨ba,2,none⟩=some (.int .u64 (N a.f.t.m))∧w'.cell? ⟨ba,3,none⟩=some (.int .u64 (N a.f.s.lo))∧w'.cell? ⟨ba,4,none⟩=some (.int .u64 (N a.f.s.hi))∧w'.cell? ⟨bb,1,none⟩=some (.int .u64 (N b.f.t.v))∧w'.cell? ⟨bb,2,none⟩=some (.int .u64 (N b.f.t.m))∧w'.cell? ⟨bb,3,none⟩=some (.int .u64 (N b.f.s.lo))∧w'.cell? ⟨bb,4,none⟩=some (.int .u64 (N b.f.s.hi))∧w'.cell? ⟨rb,0,none⟩=some (.int .u8 0)∧w'.cell? ⟨rb,1,none⟩=some (.int .u64 0)∧w'.cell? ⟨rb,2,none⟩=some (.int .u64 0)∧w'.cell? ⟨rb,3,none⟩=some (.int .u64 0)∧w'.cell? ⟨rb,4,none⟩=some (.int .u64 0)∧w'.cell? ⟨rb,5,none⟩=some (.int .i64 0)∧w'.cell? ⟨rb,6,none⟩=some (.int .i64 0)∧(∀ i,w'.frozen? ⟨rb,i,none⟩=false)∧GFa.a d ν w' 17 18 ((Fa.do_ (N8 X.w.op) X.w.wide (I16 X.x.off) a.f b.f).getD Fa.zero) ((d 17=true→∀ i,w'.frozen? ⟨(ν 17).1,i,none⟩=false)∧(d 17=true→w.heap.size≤(ν 17).1)∧w.heap.size≤w'.heap.size∧Below w.heap.size w w')
theorem Qaa {ba bb g rb:Nat}{bw:Nat}{a b:Vl}{X:Sx}{w:World}:KT (Q11t ba bb g rb bw a b X w):=by
 intro d ν w' w1 h hb;obtain⟨k0,k1,k2,k3,k4,k5,k6,k7,k8,k9,k10,k11,k12,k13,k14,k15,k16,k17,k18,k19,k20,k21,k22,k23,k24,k25,k26⟩:=h;exact⟨Q0 hb k0,Q0 hb k1,Q0 hb k2,Q0 hb k3,Q0 hb k4,Q0 hb k5,Q0 hb k6,Q0 hb k7,Q0 hb k8,Q0 hb k9,Q0 hb k10,Q0 hb k11,Q0 hb k12,Q0 hb k13,Q0 hb k14,Q0 hb k15,Q0 hb k16,Q0 hb k17,Q7 hb k11 k18,fun h=>Q0 hb (k19 h),fun h=>Q0 hb (k20 h),fun h=>Q0 hb (k21 h),fun h=>Q0 hb (k22 h),fun h=>Q7 hb (k19 h) (k23 h),k24,Nat.le_trans k25 hb.size,Q8 k26 hb⟩
theorem Qn1 {ba bb g rb:Nat}{bw:Nat}{a b:Vl}{X:Sx}{w:World}:MT (Q11t ba bb g rb bw a b X w) [17,18]:=by
 intro d d' ν w' hd h;unfold Q11t at *;simpa only[← hd 17 Y3,← hd 18 Y3] using h
theorem Qtv {ba bb g rb:Nat}{bw:Nat}{a b:Vl}{X:Sx}{w:World}:NT (Q11t ba bb g rb bw a b X w) [17]:=by
 intro i hi d ν c w' hd h;unfold Q11t at *;exact Ypy
theorem Qof (g:Nat)(X:Sx)(w:World)(hX:Q1e w g X)(hd:X.x.dst.toNat<11)(hq:X.x.src.toNat<11):Calls Tryz.prog 87 #[.pointer (some ⟨g,0,none⟩)] w (RB.a w (.tuple #[(Co.arithV X (Co.dV X) (Co.sV X)),.int .i64 (Co.arithE X (Co.dV X) (Co.sV X))])):=by
 refine Yvt ?_;intro zg hXb;obtain⟨a0,a1,a2,a3,a4,a5,a6,a7,a8,a9,a10,a11,a12,a13,a14⟩:=hX.cells;go_enter Tryz.func87,Tryz.ntmps87;go_wp2;have hX1:Q1e (w.alloc (.cells #[.int .u8 0,.int .u64 0,.int .u64 0,.int .u64 0,.int .u64 0,.int .i64 0,.int .i64 0] 84)).drew g X:=hX.keep Y14;refine Q2 (Q11u g w.heap.size X w) [8,9,10,11,12,13] [8,9,10] (fun _ c=>.pointer (some ⟨c.1,0,none⟩)) rfl Yc ?_ (fun d d' ν w'=>Qn2 d d' ν w') (fun d ν w' w1=>Q5a d ν w' w1) (fun i hi d ν c w'=>Qtw i hi d ν c w') ?_
 · intro d ν hd;refine⟨?_,?_,?_,?_,?_,?_,?_,?_,?_,?_,?_,?_,?_,?_,?_,?_,?_,?_,?_,?_,?_,?_,?_,?_,?_,?_,?_,?_,?_,?_,?_,?_,?_,?_,?_,?_,?_,?_,?_,?_,?_,?_,?_,?_,?_,Yb⟩<;>first|(with_reducible exact hX.keep Y1g)|(simp (maxDischargeDepth:=12) [*,hd,upd,Qo,go_sem,↓IntWalk.iteOmega];done)|(intro i;simp (maxDischargeDepth:=12) [*,upd,Qo,go_sem,↓IntWalk.iteOmega];done)|(intro h;rw[hd _ Y0] at h;cases h)|go_size|(simp;omega)
 apply Exists.intro;refine⟨fun ν=>?_,?_,?_⟩
 · (try simp only[List.append])
   iterate 8
    (refine Qa Y0 ?_
     apply Exists.intro;refine⟨fun D hD hR hN K hK=>?_,Yc,?_⟩
     · first
       | (go_big_quiet_skip;exact hK)
       | (go_big_quiet_want
          first
           | ((first|(refine Qf rfl rfl (fun w' hC=>by obtain⟨d,hd,hC⟩:=hR w' hC;obtain⟨k0,k1,k2,k3,k4,k5,k6,k7,k8,k9,k10,k11,k12,k13,k14,k15,k16,k17,k18,k19,k20,k21,k22,k23,k24,k25,k26,k27,k28,k29,k30,k31,k32,k33,k34,k35,k36,k37,k38,k39,k40,k41,k42,k43,k44,k45⟩:=hC;(and_intros<;>assumption)) ?_)|(refine Qf rfl rfl (fun w' hC=>by obtain⟨d,hd,hC⟩:=hR w' hC;obtain⟨k0,k1,k2,k3,k4,k5,k6,k7,k8,k9,k10,k11,k12,k13,k14,k15,k16,k17,k18,k19,k20,k21,k22,k23,k24,k25,k26,k27,k28,k29,k30,k31,k32,k33,k34,k35,k36,k37,k38,k39,k40,k41,k42,k43,k44,k45⟩:=hC;(first|have q8:=hd.ahead 8 Yd|have q8:=hd.early (j:=8) Yd|skip);(first|have q9:=hd.ahead 9 Yd|have q9:=hd.early (j:=9) Yd|skip);(first|have q10:=hd.ahead 10 Yd|have q10:=hd.early (j:=10) Yd|skip);(first|have q11:=hd.ahead 11 Yd|have q11:=hd.early (j:=11) Yd|skip);(first|have q12:=hd.ahead 12 Yd|have q12:=hd.early (j:=12) Yd|skip);(first|have q13:=hd.ahead 13 Yd|have q13:=hd.early (j:=13) Yd|skip);(try simp only[q8,cond_true,cond_false,true_implies,forall_const] at k14 k15 k16 k17 k18 k19 k20 k21 k22 k23 k24 k25 k26 k27 k28 k29 k30 k31 k32 k33 k34 k35 k36 k37 k38 k39 k40 k41 k42);(try simp only[q9,cond_true,cond_false,true_implies,forall_const] at k14 k15 k16 k17 k18 k19 k20 k21 k22 k23 k24 k25 k26 k27 k28 k29 k30 k31 k32 k33 k34 k35 k36 k37 k38 k39 k40 k41 k42);(try simp only[q10,cond_true,cond_false,true_implies,forall_const] at k14 k15 k16 k17 k18 k19 k20 k21 k22 k23 k24 k25 k26 k27 k28 k29 k30 k31 k32 k33 k34 k35 k36 k37 k38 k39 k40 k41 k42);(try simp only[q11,cond_true,cond_false,true_implies,forall_const] at k14 k15 k16 k17 k18 k19 k20 k21 k22 k23 k24 k25 k26 k27 k28 k29 k30 k31 k32 k33 k34 k35 k36 k37 k38 k39 k40 k41 k42);(try simp only[q12,cond_true,cond_false,true_implies,forall_const] at k14 k15 k16 k17 k18 k19 k20 k21 k22 k23 k24 k25 k26 k27 k28 k29 k30 k31 k32 k33 k34 k35 k36 k37 k38 k39 k40 k41 k42);(try simp only[q13,cond_true,cond_false,true_implies,forall_const] at k14 k15 k16 k17 k18 k19 k20 k21 k22 k23 k24 k25 k26 k27 k28 k29 k30 k31 k32 k33 k34 k35 k36 k37 k38 k39 k40 k41 k42);(and_intros<;>assumption)) ?_))
              simp only[Act.put,List.setIfInBounds_toArray,List.set_cons_succ,List.set_cons_zero]
              go_big_quiet_on
              exact hK)
           | (go_big_quiet_op
              first
               | (go_big_quiet_on;exact hK)
               | (apply Exists.intro
                  refine⟨fun w' hC=>?_,?_⟩
                  · (first|(obtain⟨d9,hd9,hC9⟩:=hR w' hC;obtain⟨k0,k1,k2,k3,k4,k5,k6,k7,k8,k9,k10,k11,k12,k13,k14,k15,k16,k17,k18,k19,k20,k21,k22,k23,k24,k25,k26,k27,k28,k29,k30,k31,k32,k33,k34,k35,k36,k37,k38,k39,k40,k41,k42,k43,k44,k45⟩:=hC9;go_at_call 111;(with_reducible refine (Qhz _ _ _ Y2 Y2).mono ?_);rintro e w1 ⟨rfl,hb1⟩)|(obtain⟨d9,hd9,hC9⟩:=hR w' hC;obtain⟨k0,k1,k2,k3,k4,k5,k6,k7,k8,k9,k10,k11,k12,k13,k14,k15,k16,k17,k18,k19,k20,k21,k22,k23,k24,k25,k26,k27,k28,k29,k30,k31,k32,k33,k34,k35,k36,k37,k38,k39,k40,k41,k42,k43,k44,k45⟩:=hC9;go_at_call 112;(with_reducible refine (Qus _ _ _ Y2 Y2).mono ?_);rintro e w1 ⟨rfl,hb1⟩))
                    (try simp only[id]);exact⟨rfl,hD _ _ hC hb1⟩
                  go_big_quiet_on
                  exact hK))))
   (refine Qq Y0 Yc (fun d w' hd hC=>?_) ?_
    · have r:=hd.open_
      have q11:d 11=false:=by
       exact Ysa
      refine Yuw ?_;refine Yvo ?_;intro hz0 hq0;obtain⟨m0,m1,m2,m3,m4,m5,m6,m7,m8,m9,m10,m11,m12,m13,m14,m15,m16,m17,m18,m19,m20,m21,m22,m23,m24,m25,m26,m27,m28,m29,m30,m31,m32,m33,m34,m35,m36,m37,m38,m39,m40,m41,m42,m43,m44,m45⟩:=hq0;have lt9:d 9=true→(ν 9).1<w'.heap.size:=fun h=>Q1 (m23 h)
      have lt10:d 10=true→(ν 10).1<w'.heap.size:=fun h=>Q1 (m33 h)
      clear m0 m1 m2 m3 m4 m5 m6 m7 m8 m9 m10 m11 m12 m13 m14 m15 m16 m17 m18 m19 m20 m21 m22 m23 m24 m25 m26 m27 m28 m29 m30 m31 m32 m33 m34 m35 m36 m37 m38 m39 m40 m41 m42 m43 m44 m45;have hC:=Q5a _ _ _ _ hC (Below.alloc (Below.refl _ w') (Nat.le_refl _) (.cells #[.int .u8 0,.int .u64 0,.int .u64 0,.int .u64 0,.int .u64 0,.int .i64 0,.int .i64 0] 84));obtain⟨k0,k1,k2,k3,k4,k5,k6,k7,k8,k9,k10,k11,k12,k13,k14,k15,k16,k17,k18,k19,k20,k21,k22,k23,k24,k25,k26,k27,k28,k29,k30,k31,k32,k33,k34,k35,k36,k37,k38,k39,k40,k41,k42,k43,k44,k45⟩:=hC
      refine⟨?_,?_,?_,?_,?_,?_,?_,?_,?_,?_,?_,?_,?_,?_,?_,?_,?_,?_,?_,?_,?_,?_,?_,?_,?_,?_,?_,?_,?_,?_,?_,?_,?_,?_,?_,?_,?_,?_,?_,?_,?_,?_,?_,?_,?_,?_⟩<;>first|assumption|(intros;simp (maxDischargeDepth:=12) [*,upd,Qo,go_sem,↓IntWalk.iteOmega];done)|(intro h1 h2;have h3:=lt9 Y1h;simp[Qo];omega)|(intro h1 h2;have h3:=lt9 Y1i;simp[Qo];omega)|(intro h1 h2;have h3:=lt10 Y1h;simp[Qo];omega)|(intro h1 h2;have h3:=lt10 Y1i;simp[Qo];omega)
    simp only[Act.put,List.setIfInBounds_toArray,List.set_cons_succ,List.set_cons_zero,Nat.reduceAdd,Nat.zero_add])
   (refine Qq Y0 Yc (fun d w' hd hC=>?_) ?_
    · have r:=hd.open_
      have q12:d 12=false:=by
       exact Ysb
      refine Yuw ?_;refine Yvo ?_;intro hz0 hq0;obtain⟨m0,m1,m2,m3,m4,m5,m6,m7,m8,m9,m10,m11,m12,m13,m14,m15,m16,m17,m18,m19,m20,m21,m22,m23,m24,m25,m26,m27,m28,m29,m30,m31,m32,m33,m34,m35,m36,m37,m38,m39,m40,m41,m42,m43,m44,m45⟩:=hq0;have lt8:d 8=true→(ν 8).1<w'.heap.size:=fun h=>Q1 (m14 h)
      have lt10:d 10=true→(ν 10).1<w'.heap.size:=fun h=>Q1 (m33 h)
      clear m0 m1 m2 m3 m4 m5 m6 m7 m8 m9 m10 m11 m12 m13 m14 m15 m16 m17 m18 m19 m20 m21 m22 m23 m24 m25 m26 m27 m28 m29 m30 m31 m32 m33 m34 m35 m36 m37 m38 m39 m40 m41 m42 m43 m44 m45;have hC:=Q5a _ _ _ _ hC (Below.alloc (Below.refl _ w') (Nat.le_refl _) (.cells #[.int .u8 0,.int .u64 0,.int .u64 0,.int .u64 0,.int .u64 0,.int .i64 0,.int .i64 0] 84));obtain⟨k0,k1,k2,k3,k4,k5,k6,k7,k8,k9,k10,k11,k12,k13,k14,k15,k16,k17,k18,k19,k20,k21,k22,k23,k24,k25,k26,k27,k28,k29,k30,k31,k32,k33,k34,k35,k36,k37,k38,k39,k40,k41,k42,k43,k44,k45⟩:=hC
      refine⟨?_,?_,?_,?_,?_,?_,?_,?_,?_,?_,?_,?_,?_,?_,?_,?_,?_,?_,?_,?_,?_,?_,?_,?_,?_,?_,?_,?_,?_,?_,?_,?_,?_,?_,?_,?_,?_,?_,?_,?_,?_,?_,?_,?_,?_,?_⟩<;>first|assumption|(intros;simp (maxDischargeDepth:=12) [*,upd,Qo,go_sem,↓IntWalk.iteOmega];done)|(intro h1 h2;have h3:=lt8 Y1h;simp[Qo];omega)|(intro h1 h2;have h3:=lt8 Y1i;simp[Qo];omega)|(intro h1 h2;have h3:=lt10 Y1h;simp[Qo];omega)|(intro h1 h2;have h3:=lt10 Y1i;simp[Qo];omega)
    simp only[Act.put,List.setIfInBounds_toArray,List.set_cons_succ,List.set_cons_zero,Nat.reduceAdd,Nat.zero_add])
   (refine Qq Y0 Yc (fun d w' hd hC=>?_) ?_
    · have r:=hd.open_
      have q13:d 13=false:=by
       exact Ys7
      refine Yv5 ?_;refine Yvo ?_;intro hz0 hq0;obtain⟨m0,m1,m2,m3,m4,m5,m6,m7,m8,m9,m10,m11,m12,m13,m14,m15,m16,m17,m18,m19,m20,m21,m22,m23,m24,m25,m26,m27,m28,m29,m30,m31,m32,m33,m34,m35,m36,m37,m38,m39,m40,m41,m42,m43,m44,m45⟩:=hq0;have lt8:d 8=true→(ν 8).1<w'.heap.size:=fun h=>Q1 (m14 h)
      have lt9:d 9=true→(ν 9).1<w'.heap.size:=fun h=>Q1 (m23 h)
      clear m0 m1 m2 m3 m4 m5 m6 m7 m8 m9 m10 m11 m12 m13 m14 m15 m16 m17 m18 m19 m20 m21 m22 m23 m24 m25 m26 m27 m28 m29 m30 m31 m32 m33 m34 m35 m36 m37 m38 m39 m40 m41 m42 m43 m44 m45;have hC:=Q5a _ _ _ _ hC (Below.alloc (Below.refl _ w') (Nat.le_refl _) (.cells #[.int .u8 0,.int .u8 0,.bool false,.bool false,.bool false,.int .i64 0] 66));obtain⟨k0,k1,k2,k3,k4,k5,k6,k7,k8,k9,k10,k11,k12,k13,k14,k15,k16,k17,k18,k19,k20,k21,k22,k23,k24,k25,k26,k27,k28,k29,k30,k31,k32,k33,k34,k35,k36,k37,k38,k39,k40,k41,k42,k43,k44,k45⟩:=hC
      refine⟨?_,?_,?_,?_,?_,?_,?_,?_,?_,?_,?_,?_,?_,?_,?_,?_,?_,?_,?_,?_,?_,?_,?_,?_,?_,?_,?_,?_,?_,?_,?_,?_,?_,?_,?_,?_,?_,?_,?_,?_,?_,?_,?_,?_,?_,?_⟩<;>first|assumption|(intros;simp (maxDischargeDepth:=12) [*,upd,Qo,go_sem,↓IntWalk.iteOmega];done)|(intro h1 h2;have h3:=lt8 Y1h;simp[Qo];omega)|(intro h1 h2;have h3:=lt8 Y1i;simp[Qo];omega)|(intro h1 h2;have h3:=lt9 Y1h;simp[Qo];omega)|(intro h1 h2;have h3:=lt9 Y1i;simp[Qo];omega)
    simp only[Act.put,List.setIfInBounds_toArray,List.set_cons_succ,List.set_cons_zero,Nat.reduceAdd,Nat.zero_add])
   (refine Qh rfl rfl rfl rfl Yc (fun d w' hd hC=>?_) ?_
    · obtain⟨k0,k1,k2,k3,k4,k5,k6,k7,k8,k9,k10,k11,k12,k13,k14,k15,k16,k17,k18,k19,k20,k21,k22,k23,k24,k25,k26,k27,k28,k29,k30,k31,k32,k33,k34,k35,k36,k37,k38,k39,k40,k41,k42,k43,k44,k45⟩:=hC
      have pr9:=k32;have pr10:=k41;have q8:=hd.ahead 8 Yd;simp only[q8,true_implies,forall_const] at k14 k15 k16 k17 k18 k19 k20 k21 k22;have r:=hd.open_;refine⟨_,Y11,?_⟩;refine⟨?_,?_,?_,?_,?_,?_,?_,?_,?_,?_,?_,?_,?_,?_,?_,?_,?_,?_,?_,?_,?_,?_,?_,?_,?_,?_,?_,?_,?_,?_,?_,?_,?_,?_,?_,?_,?_,?_,?_,?_,?_,?_,?_,?_,?_,Y1g⟩
      · exact Yqf
      · exact Yqg
      · exact Yqh
      · exact Yqi
      · exact Yqj
      · exact Yqk
      · exact Yql
      · exact Yqm
      · exact Yqn
      · exact Yqo
      · exact Yq9
      · exact Yqa
      · exact Yqb
      · intro j9;simp only[World.frozen?_setCell];exact k13 j9
      · exact Yq3
      · exact Yq3
      · exact Yq3
      · exact Yq3
      · exact Yq3
      · exact Yq3
      · exact Yq3
      · intro h j9;simp only[World.frozen?_setCell];exact k21 j9
      · intro h;exact k22
      · intro h
        have h':d 9=true:=Y1j;have hne:(ν 9).1≠(ν 8).1:=fun e=>pr9 q8 h' e.symm
        iterate 7 (rw[World.cell?_setCell_other _ _ _ _ (fun e=>hne (congrArg Addr.block e).symm)])
        simpa[upd] using k23 h'
      · intro h
        have h':d 9=true:=Y1j;have hne:(ν 9).1≠(ν 8).1:=fun e=>pr9 q8 h' e.symm
        iterate 7 (rw[World.cell?_setCell_other _ _ _ _ (fun e=>hne (congrArg Addr.block e).symm)])
        simpa[upd] using k24 h'
      · refine Yvy ?_;intro h h' hne
        exact Yp6
      · refine Yvy ?_;intro h h' hne
        exact Yp7
      · refine Yvy ?_;intro h h' hne
        exact Yp8
      · refine Yvy ?_;intro h h' hne
        exact Yp9
      · refine Yvy ?_;intro h h' hne
        exact Ypa
      · intro h j9;simp only[World.frozen?_setCell];exact k30 Y1j j9
      · intro h;exact k31 Y1j
      · intro h h2;exact pr9 Y1j Y1i
      · refine Yvk ?_;intro h h' hne
        exact Ypb
      · refine Yvk ?_;intro h h' hne
        exact Ypc
      · refine Yvk ?_;intro h h' hne
        exact Ypd
      · refine Yvk ?_;intro h h' hne
        exact Ype
      · refine Yvk ?_;intro h h' hne
        exact Ypf
      · refine Yvk ?_;intro h h' hne
        exact Ypg
      · intro h j9;simp only[World.frozen?_setCell];exact k39 Y1j j9
      · intro h;exact k40 Y1j
      · intro h h2;exact pr10 Y1j Y1i
      · intro h h2;exact k42 Y1j Y1i
      · simpa using k43
      · first|(with_reducible exact hX.keep Y1g)|assumption)
   (refine Qh rfl rfl rfl rfl Yc (fun d w' hd hC=>?_) ?_
    · obtain⟨k0,k1,k2,k3,k4,k5,k6,k7,k8,k9,k10,k11,k12,k13,k14,k15,k16,k17,k18,k19,k20,k21,k22,k23,k24,k25,k26,k27,k28,k29,k30,k31,k32,k33,k34,k35,k36,k37,k38,k39,k40,k41,k42,k43,k44,k45⟩:=hC
      have pr8:=k32;have pr10:=k42;have q9:=hd.ahead 9 Yd;simp only[q9,true_implies,forall_const] at k23 k24 k25 k26 k27 k28 k29 k30 k31;have r:=hd.open_;refine⟨_,Y11,?_⟩;refine⟨?_,?_,?_,?_,?_,?_,?_,?_,?_,?_,?_,?_,?_,?_,?_,?_,?_,?_,?_,?_,?_,?_,?_,?_,?_,?_,?_,?_,?_,?_,?_,?_,?_,?_,?_,?_,?_,?_,?_,?_,?_,?_,?_,?_,?_,Y1g⟩
      · exact Yqf
      · exact Yqg
      · exact Yqh
      · exact Yqi
      · exact Yqj
      · exact Yqk
      · exact Yql
      · exact Yqm
      · exact Yqn
      · exact Yqo
      · exact Yq9
      · exact Yqa
      · exact Yqb
      · intro j9;simp only[World.frozen?_setCell];exact k13 j9
      · intro h
        have h':d 8=true:=Y1j;have hne:(ν 8).1≠(ν 9).1:=fun e=>pr8 h' q9 e
        iterate 7 (rw[World.cell?_setCell_other _ _ _ _ (fun e=>hne (congrArg Addr.block e).symm)])
        simpa[upd] using k14 h'
      · refine Yvu ?_;intro h h' hne
        exact Yph
      · refine Yvu ?_;intro h h' hne
        exact Ypi
      · refine Yvu ?_;intro h h' hne
        exact Ypj
      · refine Yvu ?_;intro h h' hne
        exact Ypk
      · refine Yvu ?_;intro h h' hne
        exact Ypl
      · refine Yvu ?_;intro h h' hne
        exact Ypm
      · intro h j9;simp only[World.frozen?_setCell];exact k21 Y1j j9
      · intro h;exact k22 Y1j
      · exact Yq4
      · exact Yq4
      · exact Yq4
      · exact Yq4
      · exact Yq4
      · exact Yq4
      · exact Yq4
      · intro h j9;simp only[World.frozen?_setCell];exact k30 j9
      · intro h;exact k31
      · intro h h2;exact pr8 Y1j Y1i
      · refine Yvl ?_;intro h h' hne
        exact Ypb
      · refine Yvl ?_;intro h h' hne
        exact Ypc
      · refine Yvl ?_;intro h h' hne
        exact Ypd
      · refine Yvl ?_;intro h h' hne
        exact Ype
      · refine Yvl ?_;intro h h' hne
        exact Ypf
      · refine Yvl ?_;intro h h' hne
        exact Ypg
      · intro h j9;simp only[World.frozen?_setCell];exact k39 Y1j j9
      · intro h;exact k40 Y1j
      · intro h h2;exact k41 Y1j Y1i
      · intro h h2;exact pr10 Y1j Y1i
      · simpa using k43
      · first|(with_reducible exact hX.keep Y1g)|assumption)
   (refine Qh rfl rfl rfl rfl Yc (fun d w' hd hC=>?_) ?_
    · obtain⟨k0,k1,k2,k3,k4,k5,k6,k7,k8,k9,k10,k11,k12,k13,k14,k15,k16,k17,k18,k19,k20,k21,k22,k23,k24,k25,k26,k27,k28,k29,k30,k31,k32,k33,k34,k35,k36,k37,k38,k39,k40,k41,k42,k43,k44,k45⟩:=hC
      have pr8:=k41;have pr9:=k42;have q10:=hd.ahead 10 Yd;simp only[q10,true_implies,forall_const] at k33 k34 k35 k36 k37 k38 k39 k40;have r:=hd.open_;refine⟨_,Y11,?_⟩;refine⟨?_,?_,?_,?_,?_,?_,?_,?_,?_,?_,?_,?_,?_,?_,?_,?_,?_,?_,?_,?_,?_,?_,?_,?_,?_,?_,?_,?_,?_,?_,?_,?_,?_,?_,?_,?_,?_,?_,?_,?_,?_,?_,?_,?_,?_,Y1g⟩
      · exact Yqp
      · exact Yqq
      · exact Yqr
      · exact Yqs
      · exact Yqt
      · exact Yqu
      · iterate 6 (rw[World.cell?_setCell_other _ _ _ _ (fun e=>absurd (congrArg Addr.block e) Y19)])
        exact k6
      · iterate 6 (rw[World.cell?_setCell_other _ _ _ _ (fun e=>absurd (congrArg Addr.block e) Y19)])
        exact k7
      · iterate 6 (rw[World.cell?_setCell_other _ _ _ _ (fun e=>absurd (congrArg Addr.block e) Y19)])
        exact k8
      · iterate 6 (rw[World.cell?_setCell_other _ _ _ _ (fun e=>absurd (congrArg Addr.block e) Y19)])
        exact k9
      · iterate 6 (rw[World.cell?_setCell_other _ _ _ _ (fun e=>absurd (congrArg Addr.block e) Y19)])
        exact k10
      · iterate 6 (rw[World.cell?_setCell_other _ _ _ _ (fun e=>absurd (congrArg Addr.block e) Y19)])
        exact k11
      · iterate 6 (rw[World.cell?_setCell_other _ _ _ _ (fun e=>absurd (congrArg Addr.block e) Y19)])
        exact k12
      · intro j9;simp only[World.frozen?_setCell];exact k13 j9
      · intro h
        have h':d 8=true:=Y1j;have hne:(ν 8).1≠(ν 10).1:=fun e=>pr8 h' q10 e
        iterate 6 (rw[World.cell?_setCell_other _ _ _ _ (fun e=>hne (congrArg Addr.block e).symm)])
        simpa[upd] using k14 h'
      · refine Yvr ?_;intro h h' hne
        exact Ypn
      · refine Yvr ?_;intro h h' hne
        exact Ypo
      · refine Yvr ?_;intro h h' hne
        exact Ypp
      · refine Yvr ?_;intro h h' hne
        exact Ypq
      · refine Yvr ?_;intro h h' hne
        exact Ypr
      · refine Yvr ?_;intro h h' hne
        exact Yps
      · intro h j9;simp only[World.frozen?_setCell];exact k21 Y1j j9
      · intro h;exact k22 Y1j
      · refine Yvg ?_;intro h h' hne
        iterate 6 (rw[World.cell?_setCell_other _ _ _ _ (fun e=>hne (congrArg Addr.block e).symm)])
        simpa[upd] using k23 h'
      · refine Yvg ?_;intro h h' hne
        iterate 6 (rw[World.cell?_setCell_other _ _ _ _ (fun e=>hne (congrArg Addr.block e).symm)])
        simpa[upd] using k24 h'
      · refine Yvg ?_;intro h h' hne
        iterate 6 (rw[World.cell?_setCell_other _ _ _ _ (fun e=>hne (congrArg Addr.block e).symm)])
        simpa[upd] using k25 h'
      · refine Yvg ?_;intro h h' hne
        iterate 6 (rw[World.cell?_setCell_other _ _ _ _ (fun e=>hne (congrArg Addr.block e).symm)])
        simpa[upd] using k26 h'
      · refine Yvg ?_;intro h h' hne
        iterate 6 (rw[World.cell?_setCell_other _ _ _ _ (fun e=>hne (congrArg Addr.block e).symm)])
        simpa[upd] using k27 h'
      · refine Yvg ?_;intro h h' hne
        iterate 6 (rw[World.cell?_setCell_other _ _ _ _ (fun e=>hne (congrArg Addr.block e).symm)])
        simpa[upd] using k28 h'
      · refine Yvg ?_;intro h h' hne
        iterate 6 (rw[World.cell?_setCell_other _ _ _ _ (fun e=>hne (congrArg Addr.block e).symm)])
        simpa[upd] using k29 h'
      · intro h j9;simp only[World.frozen?_setCell];exact k30 Y1j j9
      · intro h;exact k31 Y1j
      · intro h h2;exact k32 Y1j Y1i
      · exact Yr1
      · exact Yr1
      · exact Yr1
      · exact Yr1
      · exact Yr1
      · exact Yr1
      · intro h j9;simp only[World.frozen?_setCell];exact k39 j9
      · intro h;exact k40
      · intro h h2;exact pr8 Y1j Y1i
      · intro h h2;exact pr9 Y1j Y1i
      · simpa using k43
      · first|(with_reducible exact hX.keep Y1g)|assumption)
   exact rfl
 · exact Yo9
 · intro ν w9 d hd hC
   obtain⟨k0,k1,k2,k3,k4,k5,k6,k7,k8,k9,k10,k11,k12,k13,k14,k15,k16,k17,k18,k19,k20,k21,k22,k23,k24,k25,k26,k27,k28,k29,k30,k31,k32,k33,k34,k35,k36,k37,k38,k39,k40,k41,k42,k43,k44,k45⟩:=hC;have q8:=hd 8 Y0;have q9:=hd 9 Y0;have q10:=hd 10 Y0;have q11:=hd 11 Y0;have q12:=hd 12 Y0;have q13:=hd 13 Y0;simp only[q8,q9,q10,q11,q12,q13,cond_true,cond_false,forall_const,true_implies] at k0 k1 k2 k3 k4 k5 k6 k7 k8 k9 k10 k11 k12 k13 k14 k15 k16 k17 k18 k19 k20 k21 k22 k23 k24 k25 k26 k27 k28 k29 k30 k31 k32 k33 k34 k35 k36 k37 k38 k39 k40 k41 k42 k43 k44 k45;clear q8 q9 q10 q11 q12 q13;clear hd;have z0:=Q1 k0;have z6:=Q1 k6;have z14:=Q1 k14;have z23:=Q1 k23;have z33:=Q1 k33;generalize (ν 8).1=ba at *;generalize (ν 9).1=bb at *;generalize (ν 10).1=bw at *
   have eD:=Lib.hid (show Co.dV X=(X.s.r X.x.dst.toNat) from rfl);have eS:=Lib.hid (show Co.sV X=Co.srcV X from rfl);have hX9:Q1e w9 g X:=hX.keep Y14;have zg9:=hX9.lt;obtain⟨e0,e1,e2,e3,e4,e5,e6,e7,e8,-⟩:=hX9.cells
   go_upto_block 0 with fail
   go_cut [9] (fun s9 wx=>s9=.pointer (some ⟨g,0,none⟩)∧(Co.arUn X (X.s.r X.x.dst.toNat) (Co.srcV X)=false∧Co.arMv X=false∧Co.arPt X (X.s.r X.x.dst.toNat)=false)∧Below w9.heap.size w9 wx)
   case first =>
    cases hop:(X.w.op==176#8)
    · have hne:(X.w.op != 176#8)=true:=by simp only[bne,hop];rfl
      cases ha0:((X.s.r X.x.dst.toNat).k==0)
      · cases hb0:((Co.srcV X).k==0)
        · cases hw:X.w.wide
          · exact Yni
          · cases h0:(X.w.op==0#8)
            · cases h16:(X.w.op==16#8)
              · exact Yni
              · cases hp:Vl.ptr (X.s.r X.x.dst.toNat)
                · exact Yni
                · have EE:=Lib.hid (show Co.arithV X (Co.dV X) (Co.sV X)=Co.movedV true (X.s.r X.x.dst.toNat) (Co.srcV X)∧Co.arithE X (Co.dV X) (Co.sV X)=Co.movedE true (X.s.r X.x.dst.toNat) (Co.srcV X) from Ygm)
                  go_wp2_with ((with_reducible apply ic);first|(refine Y3u ?_;intro w2 hb2 hc2 hf2 hz2)|(refine Y4r ?_;intro w4 hb4 hc4 hf4 hz4)|(refine Y68 ?_;intro w5 hb5 hc5 hf5 hz5));rw[EE.out.1,EE.out.2];refine bodyPost_ret (Qk (fn:=Tryz.f87) rfl _ _ (w.heap.size) (Co.movedV true (X.s.r X.x.dst.toNat) (Co.srcV X)) (.int .i64 (Co.movedE true (X.s.r X.x.dst.toNat) (Co.srcV X))) rfl rfl ?_ ?_ ?_ ?_ ?_ ?_ ?_) rfl ⟨rfl,Yb⟩
                  all_goals (simp (maxDischargeDepth:=12) [*,go_sem,↓IntWalk.iteOmega,Vl.zero,Fa.zero];done)
            · cases hp:Vl.ptr (X.s.r X.x.dst.toNat)
              · exact Yni
              · have EE:=Lib.hid (show Co.arithV X (Co.dV X) (Co.sV X)=Co.movedV (X.w.op==16#8) (X.s.r X.x.dst.toNat) (Co.srcV X)∧Co.arithE X (Co.dV X) (Co.sV X)=Co.movedE (X.w.op==16#8) (X.s.r X.x.dst.toNat) (Co.srcV X) from Ygm)
                go_wp2_with ((with_reducible apply ic);first|(refine Y3u ?_;intro w2 hb2 hc2 hf2 hz2)|(refine Y4r ?_;intro w4 hb4 hc4 hf4 hz4)|(refine Y68 ?_;intro w5 hb5 hc5 hf5 hz5));rw[EE.out.1,EE.out.2];refine bodyPost_ret (Qk (fn:=Tryz.f87) rfl _ _ (w.heap.size) (Co.movedV (X.w.op==16#8) (X.s.r X.x.dst.toNat) (Co.srcV X)) (.int .i64 (Co.movedE (X.w.op==16#8) (X.s.r X.x.dst.toNat) (Co.srcV X))) rfl rfl ?_ ?_ ?_ ?_ ?_ ?_ ?_) rfl ⟨rfl,Yb⟩
                all_goals (simp (maxDischargeDepth:=12) [*,go_sem,↓IntWalk.iteOmega,Vl.zero,Fa.zero];done)
        · exact Yld
      · exact Yld
    · have hne:(X.w.op != 176#8)=false:=by simp only[bne,hop];rfl
      have h0:(X.w.op==0#8)=false:=by simp only[beq_iff_eq] at hop;rw[hop];rfl
      have h16:(X.w.op==16#8)=false:=by simp only[beq_iff_eq] at hop;rw[hop];rfl
      cases hb0:((Co.srcV X).k==0)
      · cases hw:X.w.wide<;>cases ho:(X.x.off==0#16)
        · exact Yni
        · exact Yni
        · exact Yni
        · have EE:=Lib.hid (show Co.arithV X (Co.dV X) (Co.sV X)=(Co.srcV X)∧Co.arithE X (Co.dV X) (Co.sV X)=0 from Ygm)
          go_wp2_with ((with_reducible apply ic);first|(refine Y3u ?_;intro w2 hb2 hc2 hf2 hz2)|(refine Y4r ?_;intro w4 hb4 hc4 hf4 hz4)|(refine Y68 ?_;intro w5 hb5 hc5 hf5 hz5));rw[EE.out.1,EE.out.2];refine bodyPost_ret (Qk (fn:=Tryz.f87) rfl _ _ (w.heap.size) ((Co.srcV X)) (.int .i64 (0)) rfl rfl ?_ ?_ ?_ ?_ ?_ ?_ ?_) rfl ⟨rfl,Yb⟩
          all_goals (simp (maxDischargeDepth:=12) [*,go_sem,↓IntWalk.iteOmega,Vl.zero,Fa.zero];done)
      · exact Yld
   case rest =>
    obtain⟨rfl,⟨hun,hmv,hpt⟩,hbc⟩:=hcut;obtain⟨hcc,hfc,hzc⟩:=Q17 hbc;have hXc:Q1e wc g X:=hX9.keep hbc
    go_upto_block 1 with fail
    go_cut [9] (fun s9 wx=>s9=.pointer (some ⟨g,0,none⟩)∧wx.cell? ⟨ba,0,none⟩=some (.int .u8 (Co.arA X (X.s.r X.x.dst.toNat)).k)∧wx.cell? ⟨ba,1,none⟩=some (.int .u64 (N (Co.arA X (X.s.r X.x.dst.toNat)).f.t.v))∧wx.cell? ⟨ba,2,none⟩=some (.int .u64 (N (Co.arA X (X.s.r X.x.dst.toNat)).f.t.m))∧wx.cell? ⟨ba,3,none⟩=some (.int .u64 (N (Co.arA X (X.s.r X.x.dst.toNat)).f.s.lo))∧wx.cell? ⟨ba,4,none⟩=some (.int .u64 (N (Co.arA X (X.s.r X.x.dst.toNat)).f.s.hi))∧wx.cell? ⟨ba,5,none⟩=some (.int .i64 (Co.arA X (X.s.r X.x.dst.toNat)).i)∧wx.cell? ⟨ba,6,none⟩=some (.int .i64 (Co.arA X (X.s.r X.x.dst.toNat)).off)∧wx.cell? ⟨bb,0,none⟩=some (.int .u8 (Co.arB X (Co.srcV X)).k)∧wx.cell? ⟨bb,1,none⟩=some (.int .u64 (N (Co.arB X (Co.srcV X)).f.t.v))∧wx.cell? ⟨bb,2,none⟩=some (.int .u64 (N (Co.arB X (Co.srcV X)).f.t.m))∧wx.cell? ⟨bb,3,none⟩=some (.int .u64 (N (Co.arB X (Co.srcV X)).f.s.lo))∧wx.cell? ⟨bb,4,none⟩=some (.int .u64 (N (Co.arB X (Co.srcV X)).f.s.hi))∧wx.cell? ⟨bb,5,none⟩=some (.int .i64 (Co.arB X (Co.srcV X)).i)∧wx.cell? ⟨bb,6,none⟩=some (.int .i64 (Co.arB X (Co.srcV X)).off)∧wx.cell? ⟨bw,0,none⟩=some (.int .u8 X.w.kind)∧wx.cell? ⟨bw,1,none⟩=some (.int .u8 (N8 X.w.op))∧wx.cell? ⟨bw,2,none⟩=some (.bool X.w.wide)∧wx.cell? ⟨bw,3,none⟩=some (.bool X.w.reg)∧wx.cell? ⟨bw,4,none⟩=some (.bool X.w.signed)∧wx.cell? ⟨bw,5,none⟩=some (.int .i64 X.w.size)∧wx.cell? ⟨w.heap.size,0,none⟩=some (.int .u8 0)∧wx.cell? ⟨w.heap.size,1,none⟩=some (.int .u64 0)∧wx.cell? ⟨w.heap.size,2,none⟩=some (.int .u64 0)∧wx.cell? ⟨w.heap.size,3,none⟩=some (.int .u64 0)∧wx.cell? ⟨w.heap.size,4,none⟩=some (.int .u64 0)∧wx.cell? ⟨w.heap.size,5,none⟩=some (.int .i64 0)∧wx.cell? ⟨w.heap.size,6,none⟩=some (.int .i64 0)∧(∀ i,wx.frozen? ⟨w.heap.size,i,none⟩=false)∧Below w.heap.size w wx)
    case first =>
     cases hop:(X.w.op==176#8)
     · cases h128:(X.w.op==128#8)
       · have eA:(Co.arA X (X.s.r X.x.dst.toNat))=(X.s.r X.x.dst.toNat):=by unfold Co.arA;rw[hop];rfl
         have eB:(Co.arB X (Co.srcV X))=(Co.srcV X):=Ygn;go_wp2_with ((with_reducible apply ic);refine Ycb ?_;intro w6 hb6 hc6 hf6 hz6)
         go_meet
         rw[eA,eB];refine⟨rfl,?_,?_,?_,?_,?_,?_,?_,?_,?_,?_,?_,?_,?_,?_,?_,?_,?_,?_,?_,?_,?_,?_,?_,?_,?_,?_,?_,?_,Y14⟩
         all_goals first|(simp[*,go_sem,↓IntWalk.iteOmega];done)|(intro i;simp[*,go_sem,↓IntWalk.iteOmega];done)
       · have eA:(Co.arA X (X.s.r X.x.dst.toNat))=(X.s.r X.x.dst.toNat):=by unfold Co.arA;rw[hop];rfl
         have eB:(Co.arB X (Co.srcV X))=(Co.knownV 0#64):=Ygn;go_wp2_with ((with_reducible apply ic);refine Ycb ?_;intro w6 hb6 hc6 hf6 hz6)
         go_meet
         rw[eA,eB];refine⟨rfl,?_,?_,?_,?_,?_,?_,?_,?_,?_,?_,?_,?_,?_,?_,?_,?_,?_,?_,?_,?_,?_,?_,?_,?_,?_,?_,?_,?_,Y14⟩
         all_goals first|(simp[*,go_sem,↓IntWalk.iteOmega];done)|(intro i;simp[*,go_sem,↓IntWalk.iteOmega];done)
     · have h128:(X.w.op==128#8)=false:=by simp only[beq_iff_eq] at hop;rw[hop];rfl
       have eA:(Co.arA X (X.s.r X.x.dst.toNat))=(Co.knownV 0#64):=by unfold Co.arA;rw[hop];rfl
       have eB:(Co.arB X (Co.srcV X))=(Co.srcV X):=Ygn;go_wp2_with ((with_reducible apply ic);refine Ycb ?_;intro w6 hb6 hc6 hf6 hz6)
       go_meet
       rw[eA,eB];refine⟨rfl,?_,?_,?_,?_,?_,?_,?_,?_,?_,?_,?_,?_,?_,?_,?_,?_,?_,?_,?_,?_,?_,?_,?_,?_,?_,?_,?_,?_,Y14⟩
       all_goals first|(simp[*,go_sem,↓IntWalk.iteOmega];done)|(intro i;simp[*,go_sem,↓IntWalk.iteOmega];done)
    case rest =>
     obtain⟨rfl,c0,c1,c2,c3,c4,c5,c6,c7,c8,c9,c10,c11,c12,c13,c14,c15,c16,c17,c18,c19,c20,c21,c22,c23,c24,c25,c26,hfr,hbd⟩:=hcut;have zA:=Q1 c0;have zB:=Q1 c7;have zW:=Q1 c14;have zR:=Q1 c20;have hXd:Q1e wc g X:=hX.keep hbd;obtain⟨f0,f1,f2,f3,f4,f5,f6,f7,f8,-⟩:=hXd.cells;obtain⟨hcd,hfd,hzd⟩:=Q17 hbd;obtain⟨a2,hA2⟩:∃ x,(Co.arA X (X.s.r X.x.dst.toNat))=x:=⟨_,rfl⟩;obtain⟨b2,hB2⟩:∃ x,(Co.arB X (Co.srcV X))=x:=⟨_,rfl⟩;rw[hA2] at c0 c1 c2 c3 c4 c5 c6;rw[hB2] at c7 c8 c9 c10 c11 c12 c13;have hA2:=Lib.hid hA2;have hB2:=Lib.hid hB2;clear hcc hfc hzc hbc hcd hfd e0 e1 e2 e3 e4 e5 e6 e7 e8 a0 a1 a3 a4 a5 a6 a7 a8 a9 a10 a11 a12 a13 a14
     clear k0 k1 k2 k3 k4 k5 k6 k7 k8 k9 k10 k11 k12 k13 k14 k15 k16 k17 k18 k19 k20 k21 k22 k23 k24 k25 k26 k27 k28 k29 k30 k31 k32 k33 k34 k35 k36 k37 k38 k39 k40 k41 k42 k43 k44 k45;cases hA1:(a2.k==1)
     · have EE:=Lib.hid (show Co.arithV X (Co.dV X) (Co.sV X)=Vl.zero∧Co.arithE X (Co.dV X) (Co.sV X)=140 by rw[eD.out,eS.out];unfold Co.arithV Co.arithE;rw[hun,hmv,hpt];simp only[Bool.false_eq_true,if_false];rw[hA2.out,hB2.out];unfold Co.numV Co.numE;rw[hA1];exact⟨rfl,rfl⟩)
       exact Ymf
     · cases hB1:(b2.k==1)
       · have EE:=Lib.hid (show Co.arithV X (Co.dV X) (Co.sV X)=Vl.zero∧Co.arithE X (Co.dV X) (Co.sV X)=140 from Ygo)
         exact Ymf
       · have EE:=Lib.hid (show Co.arithV X (Co.dV X) (Co.sV X)=Vl.num ((Fa.do_ (N8 X.w.op) X.w.wide (I16 X.x.off) a2.f b2.f).getD Fa.zero)∧Co.arithE X (Co.dV X) (Co.sV X)=(if (Fa.do_ (N8 X.w.op) X.w.wide (I16 X.x.off) a2.f b2.f).isSome then 0 else 1) from Ygo)
         clear hA2 hB2;go_wp2_with (go_at_call 116;refine Y3v ?_;intro w2 hb2 hc2 hf2 hz2);refine Q2 (Q11t ba bb g w.heap.size bw a2 b2 X w2) [17,18] [17] (fun _ c=>.pointer (some ⟨c.1,0,none⟩)) rfl Yc ?_ (fun d d' ν w'=>Qn1 d d' ν w') (fun d ν w' w1=>Qaa d ν w' w1) (fun i hi d ν c w'=>Qtv i hi d ν c w') ?_
         · intro d ν hd;refine⟨?_,?_,?_,?_,?_,?_,?_,?_,?_,?_,?_,?_,?_,?_,?_,?_,?_,?_,?_,?_,?_,?_,?_,?_,?_,?_,Yb⟩<;>first|(with_reducible exact hX.keep Y1g)|(simp (maxDischargeDepth:=12) [*,hd,upd,Qo,go_sem,↓IntWalk.iteOmega];done)|(intro i;simp (maxDischargeDepth:=12) [*,upd,Qo,go_sem,↓IntWalk.iteOmega];done)|(intro h;rw[hd _ Y0] at h;cases h)|go_size|(simp;omega)
         apply Exists.intro;refine⟨fun ν=>?_,?_,?_⟩
         · (try simp only[List.append])
           iterate 17 refine Ydd ?_
           (refine Qq Y0 Yc (fun d w' hd hC=>?_) ?_
            · have r:=hd.open_
              have q18:d 18=false:=by
               exact Ys8
              refine⟨(w'.heap.size,0),w'.alloc (.cells #[.int .u64 0,.int .u64 0,.int .u64 0,.int .u64 0] 82),Yez,?_⟩;have hz0:=hC;obtain⟨-,-,-,-,-,-,-,-,-,-,-,-,-,-,-,-,-,-,-,-,-,-,-,-,-,hz0,-⟩:=hz0;have hC:=Qaa _ _ _ _ hC (Below.alloc (Below.refl _ w') (Nat.le_refl _) (.cells #[.int .u64 0,.int .u64 0,.int .u64 0,.int .u64 0] 82));obtain⟨k0,k1,k2,k3,k4,k5,k6,k7,k8,k9,k10,k11,k12,k13,k14,k15,k16,k17,k18,k19,k20,k21,k22,k23,k24,k25,k26⟩:=hC;refine⟨?_,?_,?_,?_,?_,?_,?_,?_,?_,?_,?_,?_,?_,?_,?_,?_,?_,?_,?_,?_,?_,?_,?_,?_,?_,?_,?_⟩<;>first|assumption|(intros;simp (maxDischargeDepth:=12) [*,upd,Qo,go_sem,↓IntWalk.iteOmega];done)
            simp only[Act.put,List.setIfInBounds_toArray,List.set_cons_succ,List.set_cons_zero,Nat.reduceAdd,Nat.zero_add])
           (refine Qh rfl rfl rfl rfl Yc (fun d w' hd hC=>?_) ?_
            · obtain⟨k0,k1,k2,k3,k4,k5,k6,k7,k8,k9,k10,k11,k12,k13,k14,k15,k16,k17,k18,k19,k20,k21,k22,k23,k24,k25,k26⟩:=hC
              have q17:=hd.ahead 17 Yd;simp only[q17,true_implies,forall_const] at k19 k20 k21 k22 k23 k24;have r:=hd.open_;refine⟨_,Y11,?_⟩;refine⟨?_,?_,?_,?_,?_,?_,?_,?_,?_,?_,?_,?_,?_,?_,?_,?_,?_,?_,?_,?_,?_,?_,?_,?_,?_,?_,Y1g⟩
              · iterate 4 (rw[World.cell?_setCell_other _ _ _ _ (fun e=>absurd (congrArg Addr.block e) Y19)])
                exact k0
              · iterate 4 (rw[World.cell?_setCell_other _ _ _ _ (fun e=>absurd (congrArg Addr.block e) Y19)])
                exact k1
              · iterate 4 (rw[World.cell?_setCell_other _ _ _ _ (fun e=>absurd (congrArg Addr.block e) Y19)])
                exact k2
              · iterate 4 (rw[World.cell?_setCell_other _ _ _ _ (fun e=>absurd (congrArg Addr.block e) Y19)])
                exact k3
              · iterate 4 (rw[World.cell?_setCell_other _ _ _ _ (fun e=>absurd (congrArg Addr.block e) Y19)])
                exact k4
              · iterate 4 (rw[World.cell?_setCell_other _ _ _ _ (fun e=>absurd (congrArg Addr.block e) Y19)])
                exact k5
              · iterate 4 (rw[World.cell?_setCell_other _ _ _ _ (fun e=>absurd (congrArg Addr.block e) Y19)])
                exact k6
              · iterate 4 (rw[World.cell?_setCell_other _ _ _ _ (fun e=>absurd (congrArg Addr.block e) Y19)])
                exact k7
              · iterate 4 (rw[World.cell?_setCell_other _ _ _ _ (fun e=>absurd (congrArg Addr.block e) Y19)])
                exact k8
              · iterate 4 (rw[World.cell?_setCell_other _ _ _ _ (fun e=>absurd (congrArg Addr.block e) Y19)])
                exact k9
              · iterate 4 (rw[World.cell?_setCell_other _ _ _ _ (fun e=>absurd (congrArg Addr.block e) Y19)])
                exact k10
              · iterate 4 (rw[World.cell?_setCell_other _ _ _ _ (fun e=>absurd (congrArg Addr.block e) Y19)])
                exact k11
              · iterate 4 (rw[World.cell?_setCell_other _ _ _ _ (fun e=>absurd (congrArg Addr.block e) Y19)])
                exact k12
              · iterate 4 (rw[World.cell?_setCell_other _ _ _ _ (fun e=>absurd (congrArg Addr.block e) Y19)])
                exact k13
              · iterate 4 (rw[World.cell?_setCell_other _ _ _ _ (fun e=>absurd (congrArg Addr.block e) Y19)])
                exact k14
              · iterate 4 (rw[World.cell?_setCell_other _ _ _ _ (fun e=>absurd (congrArg Addr.block e) Y19)])
                exact k15
              · iterate 4 (rw[World.cell?_setCell_other _ _ _ _ (fun e=>absurd (congrArg Addr.block e) Y19)])
                exact k16
              · iterate 4 (rw[World.cell?_setCell_other _ _ _ _ (fun e=>absurd (congrArg Addr.block e) Y19)])
                exact k17
              · intro j9;simp only[World.frozen?_setCell];exact k18 j9
              · exact Yrm
              · exact Yrm
              · exact Yrm
              · exact Yrm
              · intro h j9;simp only[World.frozen?_setCell];exact k23 j9
              · intro h;exact k24
              · simpa using k25)
           iterate 1 refine Ydd ?_
           exact rfl
         · exact Yoo
         · intro ν w8 d hd hC
           obtain⟨k0,k1,k2,k3,k4,k5,k6,k7,k8,k9,k10,k11,k12,k13,k14,k15,k16,k17,k18,k19,k20,k21,k22,k23,k24,k25,k26⟩:=hC;have q17:=hd 17 Y0;have q18:=hd 18 Y0;simp only[q17,q18,cond_true,cond_false,forall_const,true_implies] at k0 k1 k2 k3 k4 k5 k6 k7 k8 k9 k10 k11 k12 k13 k14 k15 k16 k17 k18 k19 k20 k21 k22 k23 k24 k25 k26;clear q17 q18;clear hd;refine Yvn ?_;intro z0 z1;have z3:=Q1 k3;have z7:=Q1 k7;have z11:=Q1 k11;have z19:=Q1 k19;generalize (if (Fa.do_ (N8 X.w.op) X.w.wide (I16 X.x.off) a2.f b2.f).isSome then (0:Int) else 1)=er at *;generalize ((Fa.do_ (N8 X.w.op) X.w.wide (I16 X.x.off) a2.f b2.f)).getD Fa.zero=fr at *;have hz8:=Q1 k3;go_wp2_with (go_at_call 97;refine Y3m ?_;intro w7 hb7 hc7 hf7 hz7);rw[EE.out.1,EE.out.2]
           refine bodyPost_ret (Qk (fn:=Tryz.f87) rfl _ _ (w.heap.size) ((Vl.num fr)) (.int .i64 er) rfl rfl ?_ ?_ ?_ ?_ ?_ ?_ ?_) rfl ⟨rfl,Yb⟩
           all_goals (simp (maxDischargeDepth:=12) [*,go_sem,↓IntWalk.iteOmega];done)
end Hk
