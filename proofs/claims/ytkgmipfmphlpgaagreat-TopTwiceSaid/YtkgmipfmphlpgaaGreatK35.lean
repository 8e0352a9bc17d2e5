/- A part of TopTwice's proof; no condition. -/
import Derived.Test.YtkgmipfmphlpgaaGreatK27
import Derived.Test.YtkgmipfmphlpgaaGreatK34
open Go Go.RowKit Go.Proofs
set_option linter.all false
set_option maxRecDepth 100000
set_option maxHeartbeats 20000000
namespace Hk
attribute [-go_sem] Qm
def Q11s (g:Nat)(X:Sx)(w:World)(d:Nat→Bool)(ν:Nat→Nat × Nat)(w':World):Prop:=Q15t.a w' g X.w (GVl.a d ν w' 8 11 (X.s.r X.x.dst.toNat) ((d 8=true→∀ i,w'.frozen? ⟨(ν 8).1,i,none⟩=false)∧(d 8=true→w.heap.size≤(ν 8).1)∧GVl.a d ν w' 9 12 (Co.srcV X) ((d 9=true→∀ i,w'.frozen? ⟨(ν 9).1,i,none⟩=false)∧(d 9=true→w.heap.size≤(ν 9).1)∧(d 8=true→d 9=true→(ν 8).1≠(ν 9).1)∧GWh.a d ν w' 10 13 X.w ((d 10=true→∀ i,w'.frozen? ⟨(ν 10).1,i,none⟩=false)∧(d 10=true→w.heap.size≤(ν 10).1)∧(d 8=true→d 10=true→(ν 8).1≠(ν 10).1)∧(d 9=true→d 10=true→(ν 9).1≠(ν 10).1)∧w.heap.size≤w'.heap.size∧Q1e w' g X∧Below w.heap.size w w'))))
theorem Q58 {g:Nat}{X:Sx}{w:World}:KT (Q11s g X w):=by
 exact Ykd
theorem Qn0 {g:Nat}{X:Sx}{w:World}:MT (Q11s g X w) [8,9,10,11,12,13]:=by
 intro d d' ν w' hd h;unfold Q11s at *;exact Yr8
theorem Qtt {g:Nat}{X:Sx}{w:World}:NT (Q11s g X w) [8,9,10]:=by
 intro i hi d ν c w' hd h;unfold Q11s at *;exact Yp0
def Q16a (g sb xb yb:Nat)(X:Sx)(s:St)(x y:Fa)(w0:World)(w':World):Prop:=CFa.a w' xb x (CFa.a w' yb y (Q1e w' g X∧blk w' sb=(s).cells∧Below w0.heap.size w0 w'))
theorem Qmz {g sb xb yb:Nat}{X:Sx}{s:St}{x y:Fa}{w0:World}:KC (Q16a g sb xb yb X s x y w0):=by
 intro w' w1 h hb;obtain⟨k0,k1,k2,k3,k4,k5,k6,k7,k8,k9,k10⟩:=h;exact⟨Q0 hb k0,Q0 hb k1,Q0 hb k2,Q0 hb k3,Q0 hb k4,Q0 hb k5,Q0 hb k6,Q0 hb k7,(k8).keep hb,Q12 hb k9 Y13,Q8 k10 hb⟩
theorem Qi0 (g:Nat)(X:Sx)(w:World)(hX:Q1e w g X)(hlen:X.l.length≤100000)(hlt:X.at_<X.l.length)(hd:X.x.dst.toNat<11)(hq:X.x.src.toNat<11):Calls Tryz.prog 94 #[.pointer (some ⟨g,0,none⟩)] w (fun en w'=>∃ vv,en=.returned (.tuple #[vv,.int .i64 ((Co.branchE X (Co.dV X) (Co.sV X)))])∧w'.ownsRow w.heap.size 93 590 vv ((Co.branchW X (Co.dV X) (Co.sV X))).length (Q1p ((Co.branchW X (Co.dV X) (Co.sV X))))∧Below w.heap.size w w'):=by
 refine Yvt ?_;intro zg hXb;obtain⟨-,-,-,-,-,-,-,-,-,a9,a10,a11,a12,a13,a14⟩:=hX.cells;go_enter Tryz.func94,Tryz.ntmps94;go_wp2;have hX1:Q1e w.drew g X:=hX.keep Y14;refine Q2 (Q11s g X w) [8,9,10,11,12,13] [8,9,10] (fun _ c=>.pointer (some ⟨c.1,0,none⟩)) rfl Yc ?_ (fun d d' ν w'=>Qn0 d d' ν w') (fun d ν w' w1=>Q58 d ν w' w1) (fun i hi d ν c w'=>Qtt i hi d ν c w') ?_
 · exact Yll
 apply Exists.intro;refine⟨fun ν=>?_,?_,?_⟩
 · (try simp only[List.append])
   iterate 8 refine Ydn ?_
   (refine Qq Y0 Yc (fun d w' hd hC=>?_) ?_
    · have r:=hd.open_
      have q11:d 11=false:=by
       exact Ysa
      refine Yuw ?_;refine Yv0 ?_;intro hz0 hq0;obtain⟨-,-,-,-,-,-,-,-,-,-,-,-,-,-,-,a,-,-,-,-,-,-,-,-,-,b,-,-,-,-,-,-,-,-,-,-,-,-⟩:=hq0;have lt9:d 9=true→(ν 9).1<w'.heap.size:=fun h=>Q1 (a h);have lt10:d 10=true→(ν 10).1<w'.heap.size:=fun h=>Q1 (b h);clear a b;have hC:=Q58 _ _ _ _ hC (Below.alloc (Below.refl _ w') (Nat.le_refl _) (.cells #[.int .u8 0,.int .u64 0,.int .u64 0,.int .u64 0,.int .u64 0,.int .i64 0,.int .i64 0] 84));exact Ykr
    simp only[Act.put,List.setIfInBounds_toArray,List.set_cons_succ,List.set_cons_zero,Nat.reduceAdd,Nat.zero_add])
   (refine Qq Y0 Yc (fun d w' hd hC=>?_) ?_
    · have r:=hd.open_
      have q12:d 12=false:=by
       exact Ysb
      refine Yuw ?_;refine Yv0 ?_;intro hz0 hq0;obtain⟨-,-,-,-,-,-,a,-,-,-,-,-,-,-,-,-,-,-,-,-,-,-,-,-,-,b,-,-,-,-,-,-,-,-,-,-,-,-⟩:=hq0;have lt8:d 8=true→(ν 8).1<w'.heap.size:=fun h=>Q1 (a h);have lt10:d 10=true→(ν 10).1<w'.heap.size:=fun h=>Q1 (b h);clear a b;have hC:=Q58 _ _ _ _ hC (Below.alloc (Below.refl _ w') (Nat.le_refl _) (.cells #[.int .u8 0,.int .u64 0,.int .u64 0,.int .u64 0,.int .u64 0,.int .i64 0,.int .i64 0] 84));exact Yks
    simp only[Act.put,List.setIfInBounds_toArray,List.set_cons_succ,List.set_cons_zero,Nat.reduceAdd,Nat.zero_add])
   (refine Qq Y0 Yc (fun d w' hd hC=>?_) ?_
    · have r:=hd.open_
      have q13:d 13=false:=by
       exact Ys7
      refine Yuyb ?_;intro hz0 lt8 lt9;have hC:=Q58 _ _ _ _ hC (Below.alloc (Below.refl _ w') (Nat.le_refl _) (.cells #[.int .u8 0,.int .u8 0,.bool false,.bool false,.bool false,.int .i64 0] 66));exact Ykt
    simp only[Act.put,List.setIfInBounds_toArray,List.set_cons_succ,List.set_cons_zero,Nat.reduceAdd,Nat.zero_add])
   (refine Ydo ?_);(refine Ydp ?_);(refine Ydq ?_);exact rfl
 · exact Yo9
 · intro ν w9 d hd hC
   obtain⟨k0,k1,k2,k3,k4,k5,k6,k7,k8,k9,k10,k11,k12,k13,k14,k15,k16,k17,k18,k19,k20,k21,k22,k23,k24,k25,k26,k27,k28,k29,k30,k31,k32,k33,k34,k35,k36,k37⟩:=hC;have q8:=hd 8 Y0;have q9:=hd 9 Y0;have q10:=hd 10 Y0;have q11:=hd 11 Y0;have q12:=hd 12 Y0;have q13:=hd 13 Y0;simp only[q8,q9,q10,q11,q12,q13,cond_true,cond_false,forall_const,true_implies] at k0 k1 k2 k3 k4 k5 k6 k7 k8 k9 k10 k11 k12 k13 k14 k15 k16 k17 k18 k19 k20 k21 k22 k23 k24 k25 k26 k27 k28 k29 k30 k31 k32 k33 k34 k35 k36 k37;clear q8 q9 q10 q11 q12 q13;clear hd;have z0:=Q1 k0;have z6:=Q1 k6;have z15:=Q1 k15;have z25:=Q1 k25;clear a9 a10 a11 a12 a13 a14;generalize (ν 8).1=ab at *;generalize (ν 9).1=bb at *;generalize (ν 10).1=bw at *;have eD:=Lib.hid (show Co.dV X=(X.s.r X.x.dst.toNat) from rfl)
   have eS:=Lib.hid (show Co.sV X=Co.srcV X from rfl);generalize (X.s.r X.x.dst.toNat)=a at *;generalize Co.srcV X=b at *;have hX9:Q1e w9 g X:=hX.keep Y14;have zg9:=hX9.lt;have hXb9:blk w9 g=X.cells:=hX9.blk;have hz9:w.heap.size≤w9.heap.size:=Y15;cases ha0:(a.k==0)
   · cases hb0:(b.k==0)
     · obtain⟨ka,hka⟩:∃ k,Fa.known ⟨⟨a.f.t.v,a.f.t.m⟩,⟨a.f.s.lo,a.f.s.hi⟩⟩=k:=⟨_,rfl⟩
       obtain⟨kb,hkb⟩:∃ k,Fa.known ⟨⟨b.f.t.v,b.f.t.m⟩,⟨b.f.s.lo,b.f.s.hi⟩⟩=k:=⟨_,rfl⟩;have hka:=Lib.hid hka;have hkb:=Lib.hid hkb
       go_upto_region 6 with ((with_reducible apply ic);first|(refine Y6n ?_;intro w2 hb2 hc2 hf2 hz2 hk2)|(go_at_call 60;(with_reducible refine (Q3u a.f.t.v a.f.t.m a.f.s.lo a.f.s.hi _).mono ?_);rw[hka.out];refine Y4b ?_;intro w3 hb3 hc3 hf3 hz3 hk3)|(go_at_call 60;(with_reducible refine (Q3u b.f.t.v b.f.t.m b.f.s.lo b.f.s.hi _).mono ?_);rw[hkb.out];refine Y4b ?_;intro w4 hb4 hc4 hf4 hz4 hk4))
       go_cut [11] (fun s11 wx=>s11=.bool (Co.memB a)∧Below w9.heap.size w9 wx)
       case first =>
        cases hp:Vl.ptr a<;>cases h6:(a.k==6)
        all_goals go_wp2_with (go_at_call 114;refine Y6o ?_;intro w5 hb5 hc5 hf5 hz5 hk5)
        all_goals (go_meet;exact⟨by simp[Co.memB, *],Y14⟩)
       case rest =>
        obtain⟨rfl,hbc⟩:=hcut;obtain⟨hcc,hfc,hzc⟩:=Q17 hbc;have hkc:=Qh4 hbc
        go_upto_region 7 with fail
        go_cut [12] (fun s12 wx=>s12=.bool (Co.asksB X b)∧Below w9.heap.size w9 wx)
        case first =>
         cases hw:X.w.wide
         · exact Yqv
         · cases h16:(X.w.op==16#8)
           · cases h80:(X.w.op==80#8)
             · exact Yqv
             exact Yle
           exact Yle
        case rest =>
         obtain⟨rfl,hbd⟩:=hcut;obtain⟨hcd,hfd,hzd⟩:=Q17 hbd;have hkd:=Qh4 hbd;generalize hma0:Co.memB a=ma;generalize hask0:Co.asksB X b=ak;have hmk:=Lib.hid (And.intro hma0 hask0);clear hma0 hask0
         go_upto_region 8 with fail
         go_cut [81] (fun s81 wx=>s81=.bool (ma && ak)∧wx=wc)
         case first =>
          cases ma<;>cases ak
          all_goals go_wp2
          all_goals (go_meet;exact⟨by simp[*],rfl⟩)
         case rest =>
          obtain⟨rfl,rfl⟩:=hcut;cases hma1:(ma && ak)
          · have hma:(Co.memB a && Co.asksB X b)=false:=by rw[hmk.out.1,hmk.out.2];exact hma1
            cases ha1:(a.k==1)
            · have EE:=Lib.hid (show (Co.branchW X (Co.dV X) (Co.sV X))=[]∧(Co.branchE X (Co.dV X) (Co.sV X))=140 by unfold Co.branchW Co.branchE;rw[eD.out,eS.out];simp[ha0,hb0,hma,ha1])
              exact Yop
            · cases hb1:(b.k==1)
              · have EE:=Lib.hid (show (Co.branchW X (Co.dV X) (Co.sV X))=[]∧(Co.branchE X (Co.dV X) (Co.sV X))=140 by unfold Co.branchW Co.branchE;rw[eD.out,eS.out];simp[ha0,hb0,hma,ha1,hb1])
                exact Yop
              · obtain⟨r,hr⟩:∃ r,Fa.if_ (N8 X.w.op) X.w.wide a.f b.f=r:=⟨_,rfl⟩
                have hr:=Lib.hid hr;refine Yvf ?_;intro zst hzst hzc;cases hno:(Cond.neg (N8 X.w.op)).isSome
                · rcases ka with _|n
                  · exact Yjt
                  · rcases kb with _|m
                    · exact Yjt
                    · go_wp2_with (first|(go_at_call 116;refine Y6p ?_;intro w5 hb5 hc5 hf5 hz5 hk5)|(go_at_call 128;refine Y76 ?_;intro w6 hb6 hc6 hf6 hz6 hk6)|(refine Ych ?_))
                      have EE:=Lib.hid (show (Co.branchW X (Co.dV X) (Co.sV X))=Co.waysW X X.s (!Co.isB X n m) (Co.withS X (r.getD (Fa.zero,Fa.zero)).1 (r.getD (Fa.zero,Fa.zero)).2) r.isSome∧(Co.branchE X (Co.dV X) (Co.sV X))=0 by unfold Co.branchW Co.branchE;rw[eD.out,eS.out];simp[ha0,hb0,hma,ha1,hb1,Co.nextS,Co.goesB,Co.ifP,Co.ifB,hr.out,hkb.out,hka.out,Co.notOk,hno,Co.isB]);refine Q4 (Q16a g (w6.heap.size+1+1) w6.heap.size (w6.heap.size+1) X X.s (r.getD (Fa.zero,Fa.zero)).1 (r.getD (Fa.zero,Fa.zero)).2 w) 8 Yc Yc ?_ ?_
                      · exact Yn0
                      exact Ylk
                · obtain⟨r2,hr2⟩:∃ r,Fa.if_ ((Cond.neg (N8 X.w.op)).getD 0) X.w.wide a.f b.f=r:=⟨_,rfl⟩
                  have hr2:=Lib.hid hr2;go_wp2_with ((with_reducible apply ic);first|(refine Y6p ?_;intro w5 hb5 hc5 hf5 hz5 hk5)|(refine Y76 ?_;intro w6 hb6 hc6 hf6 hz6 hk6)|(refine Y77 ?_)|(go_at_call 128;(with_reducible refine (Q14f ((Cond.neg (N8 X.w.op)).getD 0) X.w.wide a.f b.f _).mono ?_);rw[hr2.out];refine Y4b ?_;intro w4 hb4 hc4 hf4 hz4 hk4)|(go_at_call 130;(with_reducible refine (Qhn _ _ _ _ _ (hX9.keep Y14) hd hq).mono ?_);refine Y4b ?_;intro w8 hb8 hc8 hf8 hz8 hk8))
                  have EE:=Lib.hid (show (Co.branchW X (Co.dV X) (Co.sV X))=Co.waysW X (Co.withS X (r2.getD (Fa.zero,Fa.zero)).1 (r2.getD (Fa.zero,Fa.zero)).2) r2.isSome (Co.withS X (r.getD (Fa.zero,Fa.zero)).1 (r.getD (Fa.zero,Fa.zero)).2) r.isSome∧(Co.branchE X (Co.dV X) (Co.sV X))=0 by unfold Co.branchW Co.branchE;rw[eD.out,eS.out];simp[ha0,hb0,hma,ha1,hb1,Co.nextS,Co.goesB,Co.ifP,Co.ifB,hr.out,hkb.out,Co.notOk,Co.notOp,hno,hr2.out]);refine Q4 (Q16a g (w6.heap.size+1+1) w6.heap.size (w6.heap.size+1) X (Co.withS X (r2.getD (Fa.zero,Fa.zero)).1 (r2.getD (Fa.zero,Fa.zero)).2) (r.getD (Fa.zero,Fa.zero)).1 (r.getD (Fa.zero,Fa.zero)).2 w) 8 Yc Yc ?_ ?_
                  · exact Yn0
                  exact Ylk
          · have hm2:Co.memB a=true∧Co.asksB X b=true:=by rw[hmk.out.1,hmk.out.2];simpa using hma1
            have EE:=Lib.hid (show (Co.branchW X (Co.dV X) (Co.sV X))=Co.zeroW X a∧(Co.branchE X (Co.dV X) (Co.sV X))=0 by unfold Co.branchW Co.branchE;rw[eD.out,eS.out];simp[ha0,hb0,hm2.1,hm2.2]);go_wp2_with (go_at_call 127;refine Y7b ?_;intro w6 v6 hown6 hb6 hc6 hf6 hz6 hk6);exact Yu4
     · have EE:=Lib.hid (show (Co.branchW X (Co.dV X) (Co.sV X))=[]∧(Co.branchE X (Co.dV X) (Co.sV X))=110 by unfold Co.branchW Co.branchE;rw[eD.out,eS.out];simp[ha0,hb0])
       exact Yoq
   · have EE:=Lib.hid (show (Co.branchW X (Co.dV X) (Co.sV X))=[]∧(Co.branchE X (Co.dV X) (Co.sV X))=110 by unfold Co.branchW Co.branchE;rw[eD.out,eS.out];simp[ha0])
     exact Yoq
end Hk
