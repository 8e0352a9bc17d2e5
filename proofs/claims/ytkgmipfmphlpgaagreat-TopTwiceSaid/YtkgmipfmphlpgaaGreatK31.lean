/- A part of TopTwice's proof; no condition. -/
import Derived.Test.YtkgmipfmphlpgaaGreatK30
import Derived.Test.YtkgmipfmphlpgaaGreatK27
open Go Go.RowKit Go.Proofs
set_option linter.all false
set_option maxRecDepth 100000
set_option maxHeartbeats 20000000
namespace Hk
attribute [-go_sem] Qm
def Q11p (g:Nat)(X:Sx)(w:World)(d:Nat→Bool)(ν:Nat→Nat × Nat)(w':World):Prop:=Q15t.a w' g X.w (GVl.a d ν w' 8 11 (X.s.r X.x.dst.toNat) ((d 8=true→∀ i,w'.frozen? ⟨(ν 8).1,i,none⟩=false)∧(d 8=true→w.heap.size≤(ν 8).1)∧GVl.a d ν w' 9 12 (Co.srcV X) ((d 9=true→∀ i,w'.frozen? ⟨(ν 9).1,i,none⟩=false)∧(d 9=true→w.heap.size≤(ν 9).1)∧(d 8=true→d 9=true→(ν 8).1≠(ν 9).1)∧GWh.a d ν w' 10 13 X.w ((d 10=true→∀ i,w'.frozen? ⟨(ν 10).1,i,none⟩=false)∧(d 10=true→w.heap.size≤(ν 10).1)∧(d 8=true→d 10=true→(ν 8).1≠(ν 10).1)∧(d 9=true→d 10=true→(ν 9).1≠(ν 10).1)∧w.heap.size≤w'.heap.size∧Q1e w' g X∧Below w.heap.size w w'))))
theorem Q56 {g:Nat}{X:Sx}{w:World}:KT (Q11p g X w):=by
 exact Ykd
theorem Qmr {g:Nat}{X:Sx}{w:World}:MT (Q11p g X w) [8,9,10,11,12,13]:=by
 intro d d' ν w' hd h;unfold Q11p at *;exact Yr8
theorem Qtf {g:Nat}{X:Sx}{w:World}:NT (Q11p g X w) [8,9,10]:=by
 intro i hi d ν c w' hd h;unfold Q11p at *;exact Yp0
def Q11o (g pb vb bw:Nat)(X:Sx)(p v y:Vl)(w:World)(d:Nat→Bool)(ν:Nat→Nat × Nat)(w':World):Prop:=w'.cell? ⟨bw,5,none⟩=some (.int .i64 X.w.size)∧CVl.a w' pb p (CVl.a w' vb v ((∀ i,w'.frozen? ⟨vb,i,none⟩=false)∧GVl.a d ν w' 14 15 y ((d 14=true→∀ i,w'.frozen? ⟨(ν 14).1,i,none⟩=false)∧(d 14=true→w.heap.size≤(ν 14).1)∧w.heap.size≤w'.heap.size∧Q1e w' g X∧Below w.heap.size w w')))
theorem Qa6 {g pb vb bw:Nat}{X:Sx}{p v y:Vl}{w:World}:KT (Q11o g pb vb bw X p v y w):=by
 exact Ykp
theorem Qmq {g pb vb bw:Nat}{X:Sx}{p v y:Vl}{w:World}:MT (Q11o g pb vb bw X p v y w) [14,15]:=by
 intro d d' ν w' hd h;unfold Q11o at *;simpa only[← hd 14 Y3,← hd 15 Y3] using h
theorem Qte {g pb vb bw:Nat}{X:Sx}{p v y:Vl}{w:World}:NT (Q11o g pb vb bw X p v y w) [14]:=by
 intro i hi d ν c w' hd h;unfold Q11o at *;exact Ypy
theorem Q7o (g:Nat)(X:Sx)(w:World)(hX:Q1e w g X)(hlen:X.l.length≤100000)(hlt:X.at_<X.l.length)(hd:X.x.dst.toNat<11)(hq:X.x.src.toNat<11)(hvo:-2097152≤(X.s.r X.x.dst.toNat).off∧(X.s.r X.x.dst.toNat).off≤2097152)(hctx:0≤X.ctx∧X.ctx≤64)(hds:∀ d∈X.ds,0≤d.val∧d.val≤64)(hvi:0≤(X.s.r X.x.dst.toNat).i∧(X.s.r X.x.dst.toNat).i≤7)(hn:X.w.size=1∨X.w.size=2∨X.w.size=4∨X.w.size=8):Calls Tryz.prog 92 #[.pointer (some ⟨g,0,none⟩)] w (fun en w'=>∃ vv,en=.returned (.tuple #[vv,.int .i64 ((Co.storeR X (Co.dV X) (Co.sV X)).2)])∧w'.ownsRow w.heap.size 93 590 vv ((Co.storeR X (Co.dV X) (Co.sV X)).1).length (Q1p ((Co.storeR X (Co.dV X) (Co.sV X)).1))∧Below w.heap.size w w'):=by
 refine Yvt ?_;intro zg hXb;obtain⟨-,-,-,-,-,-,-,-,-,a9,a10,a11,a12,a13,a14⟩:=hX.cells;have hI:=Qee X.x.off;go_enter Tryz.func92,Tryz.ntmps92;go_wp2;have hX1:Q1e w.drew g X:=hX.keep Y14;refine Q2 (Q11p g X w) [8,9,10,11,12,13] [8,9,10] (fun _ c=>.pointer (some ⟨c.1,0,none⟩)) rfl Yc ?_ (fun d d' ν w'=>Qmr d d' ν w') (fun d ν w' w1=>Q56 d ν w' w1) (fun i hi d ν c w'=>Qtf i hi d ν c w') ?_
 · exact Yll
 apply Exists.intro;refine⟨fun ν=>?_,?_,?_⟩
 · (try simp only[List.append])
   iterate 8 refine Ydn ?_
   (refine Qq Y0 Yc (fun d w' hd hC=>?_) ?_
    · have r:=hd.open_
      have q11:d 11=false:=by
       exact Ysa
      refine Yuw ?_;refine Yv0 ?_;intro hz0 hq0;obtain⟨-,-,-,-,-,-,-,-,-,-,-,-,-,-,-,a,-,-,-,-,-,-,-,-,-,b,-,-,-,-,-,-,-,-,-,-,-,-⟩:=hq0;have lt9:d 9=true→(ν 9).1<w'.heap.size:=fun h=>Q1 (a h);have lt10:d 10=true→(ν 10).1<w'.heap.size:=fun h=>Q1 (b h);clear a b;have hC:=Q56 _ _ _ _ hC (Below.alloc (Below.refl _ w') (Nat.le_refl _) (.cells #[.int .u8 0,.int .u64 0,.int .u64 0,.int .u64 0,.int .u64 0,.int .i64 0,.int .i64 0] 84));exact Ykr
    simp only[Act.put,List.setIfInBounds_toArray,List.set_cons_succ,List.set_cons_zero,Nat.reduceAdd,Nat.zero_add])
   (refine Qq Y0 Yc (fun d w' hd hC=>?_) ?_
    · have r:=hd.open_
      have q12:d 12=false:=by
       exact Ysb
      refine Yuw ?_;refine Yv0 ?_;intro hz0 hq0;obtain⟨-,-,-,-,-,-,a,-,-,-,-,-,-,-,-,-,-,-,-,-,-,-,-,-,-,b,-,-,-,-,-,-,-,-,-,-,-,-⟩:=hq0;have lt8:d 8=true→(ν 8).1<w'.heap.size:=fun h=>Q1 (a h);have lt10:d 10=true→(ν 10).1<w'.heap.size:=fun h=>Q1 (b h);clear a b;have hC:=Q56 _ _ _ _ hC (Below.alloc (Below.refl _ w') (Nat.le_refl _) (.cells #[.int .u8 0,.int .u64 0,.int .u64 0,.int .u64 0,.int .u64 0,.int .i64 0,.int .i64 0] 84));exact Yks
    simp only[Act.put,List.setIfInBounds_toArray,List.set_cons_succ,List.set_cons_zero,Nat.reduceAdd,Nat.zero_add])
   (refine Qq Y0 Yc (fun d w' hd hC=>?_) ?_
    · have r:=hd.open_
      have q13:d 13=false:=by
       exact Ys7
      refine Yuyb ?_;intro hz0 lt8 lt9;have hC:=Q56 _ _ _ _ hC (Below.alloc (Below.refl _ w') (Nat.le_refl _) (.cells #[.int .u8 0,.int .u8 0,.bool false,.bool false,.bool false,.int .i64 0] 66));exact Ykt
    simp only[Act.put,List.setIfInBounds_toArray,List.set_cons_succ,List.set_cons_zero,Nat.reduceAdd,Nat.zero_add])
   (refine Ydo ?_);(refine Ydp ?_);(refine Ydq ?_);exact rfl
 · exact Yo9
 · intro ν w9 d hd hC
   obtain⟨k0,k1,k2,k3,k4,k5,k6,k7,k8,k9,k10,k11,k12,k13,k14,k15,k16,k17,k18,k19,k20,k21,k22,k23,k24,k25,k26,k27,k28,k29,k30,k31,k32,k33,k34,k35,k36,k37⟩:=hC;have q8:=hd 8 Y0;have q9:=hd 9 Y0;have q10:=hd 10 Y0;have q11:=hd 11 Y0;have q12:=hd 12 Y0;have q13:=hd 13 Y0;simp only[q8,q9,q10,q11,q12,q13,cond_true,cond_false,forall_const,true_implies] at k0 k1 k2 k3 k4 k5 k6 k7 k8 k9 k10 k11 k12 k13 k14 k15 k16 k17 k18 k19 k20 k21 k22 k23 k24 k25 k26 k27 k28 k29 k30 k31 k32 k33 k34 k35 k36 k37;clear q8 q9 q10 q11 q12 q13;clear hd;have z0:=Q1 k0;have z6:=Q1 k6;have z15:=Q1 k15;have z25:=Q1 k25;clear a9 a10 a11 a12 a13 a14;generalize (ν 8).1=pb at *;generalize (ν 9).1=vb at *;generalize (ν 10).1=bw at *;have eD:=Lib.hid (show Co.dV X=(X.s.r X.x.dst.toNat) from rfl)
   have eS:=Lib.hid (show Co.sV X=Co.srcV X from rfl);generalize (X.s.r X.x.dst.toNat)=p at *;generalize Co.srcV X=v at *;have hX9:Q1e w9 g X:=hX.keep Y14;have zg9:=hX9.lt;have hXb9:blk w9 g=X.cells:=hX9.blk;obtain⟨e0,e1,e2,e3,e4,e5,e6,e7,e8,-⟩:=hX9.cells;cases hp0:(p.k==0)
   · cases hv0:(v.k==0)
     · cases hpp:Vl.ptr p
       · have EE:=Lib.hid (show (Co.storeR X (Co.dV X) (Co.sV X)).1=[]∧(Co.storeR X (Co.dV X) (Co.sV X)).2=140 by unfold Co.storeR;rw[eD.out,eS.out];simp[hp0,hv0,hpp])
         exact Ymp
       · cases hk8:(X.w.kind==8)
         · cases h2:(p.k==2)
           · cases h5:(p.k==5)
             · cases hv1:(v.k==1)
               · cases hs8:decide (X.w.size<8)
                 · exact Ylf
                 · have EE:=Lib.hid (show (Co.storeR X (Co.dV X) (Co.sV X)).1=[]∧(Co.storeR X (Co.dV X) (Co.sV X)).2=140 from Ygw)
                   exact Ymp
               · cases hs8:decide (X.w.size<8)
                 · exact Ylf
                 · exact Ylf
             · cases hv1:(v.k==1)
               · obtain⟨eI,heI⟩:∃ y,Co.insideE X.ds X.ctx p (I16 X.x.off) X.w.size=y:=⟨_,rfl⟩
                 have hIH:=Lib.hid heI;cases hE:(eI==0)
                 · exact Ytc
                 · have hne:(eI != 0)=false:=by simp only[bne,hE];rfl
                   have hi0:Co.stIn X p v=140:=Ygz;have EE:=Lib.hid (show (Co.storeR X (Co.dV X) (Co.sV X)).1=[]∧(Co.storeR X (Co.dV X) (Co.sV X)).2=140 from Yh0);clear heI;go_wp2_with ((with_reducible apply ic);first|(refine Y6n ?_;intro w2 hb2 hc2 hf2 hz2 hk2)|(refine Y6o ?_;intro w3 hb3 hc3 hf3 hz3 hk3)|(refine Y6p ?_;intro w4 hb4 hc4 hf4 hz4 hk4)|(refine Y6s ?_;intro w5 hb5 hc5 hf5 hz5 hk5));go_ret2;rw[EE.out.1,EE.out.2];exact⟨_,rfl,Qy,Y14⟩
               exact Yjs
           · have EE:=Lib.hid (show (Co.storeR X (Co.dV X) (Co.sV X)).1=[]∧(Co.storeR X (Co.dV X) (Co.sV X)).2=82 by unfold Co.storeR;rw[eD.out,eS.out];simp[hp0,hv0,hpp,hk8,h2])
             exact Ymp
         · cases hv1:(v.k==1)
           · have EE:=Lib.hid (show (Co.storeR X (Co.dV X) (Co.sV X)).1=[]∧(Co.storeR X (Co.dV X) (Co.sV X)).2=140 by unfold Co.storeR;rw[eD.out,eS.out];simp[hp0,hv0,hpp,hk8,hv1])
             exact Ymp
           · cases h2:(p.k==2)
             · cases h5:(p.k==5)
               · cases hs8:decide (X.w.size<8)
                 · exact Yjk
                 · exact Yjk
               exact Yjs
             · have EE:=Lib.hid (show (Co.storeR X (Co.dV X) (Co.sV X)).1=[]∧(Co.storeR X (Co.dV X) (Co.sV X)).2=82 by unfold Co.storeR;rw[eD.out,eS.out];simp[hp0,hv0,hpp,hk8,hv1,h2])
               exact Ymp
     · have EE:=Lib.hid (show (Co.storeR X (Co.dV X) (Co.sV X)).1=[]∧(Co.storeR X (Co.dV X) (Co.sV X)).2=110 by unfold Co.storeR;rw[eD.out,eS.out];simp[hp0,hv0])
       exact Ymp
   · have EE:=Lib.hid (show (Co.storeR X (Co.dV X) (Co.sV X)).1=[]∧(Co.storeR X (Co.dV X) (Co.sV X)).2=110 by unfold Co.storeR;rw[eD.out,eS.out];simp[hp0])
     exact Ymp
end Hk
