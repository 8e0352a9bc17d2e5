/- A part of TopTwice's proof; no condition. -/
import Derived.Test.YtkgmipfmphlpgaaGreatK29
open Go Go.RowKit Go.Proofs
set_option linter.all false
set_option maxRecDepth 100000
set_option maxHeartbeats 20000000
namespace Hk
attribute [-go_sem] Qm
attribute [go_sem] Q1v
theorem Q3d (w:World)(b:Nat)(c:St)(h:(blk w b).size=589)(hf:∀ k,w.frozen? ⟨b,k,none⟩=false):Sem.run Tryz.prog (Instr.storeAt 90 (.pointer (some ⟨b,0,none⟩)) (.agg c.cells)) w=.ok () (w.setRow b c.cells):=by
 have h1:=Qld w b c.cells h c.cells_size c.cells_one hf;simpa only[stS] using h1
def WpC (pb qb g:Nat)(zst:St)(X:Sx)(v1 v2:Vl)(w:World)(d:Nat→Bool)(ν:Nat→Nat × Nat)(w':World):Prop:=w'.cell? ⟨g,7,none⟩=some (.int .i16 (I16 X.x.off))∧w'.cell? ⟨g,14,none⟩=some (.int .i64 X.w.size)∧CVl.a w' pb v1 (CVl.a w' qb v2 ((d 23=true→blk w' (ν 23).1=(bif d 24 then (X.s.put (v1.off+I16 X.x.off) X.w.size v2).cells else (zst).cells))∧(d 23=true→∀ i,w'.frozen? ⟨(ν 23).1,i,none⟩=false)∧(d 23=true→pb+2≤(ν 23).1)∧pb+2≤w'.heap.size∧Q1e w' g X∧Below w.heap.size w w'))
theorem Q8c {pb qb g:Nat}{zst:St}{X:Sx}{v1 v2:Vl}{w:World}:KT (WpC pb qb g zst X v1 v2 w):=by
 intro d ν w' w1 h hb;obtain⟨k0,k1,k2,k3,k4,k5,k6,k7,k8,k9,k10,k11,k12,k13,k14,k15,k16,k17,k18,k19,k20,k21⟩:=h;exact⟨Q0 hb k0,Q0 hb k1,Q0 hb k2,Q0 hb k3,Q0 hb k4,Q0 hb k5,Q0 hb k6,Q0 hb k7,Q0 hb k8,Q0 hb k9,Q0 hb k10,Q0 hb k11,Q0 hb k12,Q0 hb k13,Q0 hb k14,Q0 hb k15,fun h=>Q12 hb (k16 h) (by cases d 24<;>simp[St.cells_size]),fun h j=>by rw[hb.frozen (p:=⟨(ν 23).1,j,none⟩) (Q1o (by rw[k16 h];cases d 24<;>simp[St.cells_size]))];exact k17 h j,k18,Nat.le_trans k19 hb.size,(k20).keep hb,Q8 k21 hb⟩
theorem Qe1 {pb qb g:Nat}{zst:St}{X:Sx}{v1 v2:Vl}{w:World}:MT (WpC pb qb g zst X v1 v2 w) [23,24]:=by
 intro d d' ν w' hd h;unfold WpC at *;simpa only[← hd 23 Y3,← hd 24 Y3] using h
theorem Qmu {pb qb g:Nat}{zst:St}{X:Sx}{v1 v2:Vl}{w:World}:NT (WpC pb qb g zst X v1 v2 w) [23]:=by
 intro i hi d ν c w' hd h;unfold WpC at *;exact Ypy
theorem Qhu (g:Nat)(X:Sx)(v1 v2:Vl)(w:World)(hX:Q1e w g X)(hlen:X.l.length≤100000)(hlt:X.at_<X.l.length)(hvo:-2097152≤v1.off∧v1.off≤2097152):Calls Tryz.prog 126 #[.pointer (some ⟨g,0,none⟩),v1,v2] w (fun en w'=>∃ vv,en=.returned (.tuple #[vv,.int .i64 (Co.putE X v1 v2)])∧w'.ownsRow w.heap.size 93 590 vv (Co.putW X v1 v2).length (Q1p (Co.putW X v1 v2))∧Below w.heap.size w w'):=by
 refine Yvt ?_;intro zg hXb;obtain⟨a0,a1,a2,a3,a4,a5,a6,a7,a8,a9,a10,a11,a12,a13,a14⟩:=hX.cells;have hI:=Qee X.x.off;cases he:(X.s.putE (v1.off+I16 X.x.off) X.w.size v2==0)
 · have hne:(X.s.putE (v1.off+I16 X.x.off) X.w.size v2 != 0)=true:=by simp only[bne,he];rfl
   have EE:=Lib.hid (show Co.putW X v1 v2=[] by unfold Co.putW Co.putE Co.putO;rw[he];rfl);have EF:=Lib.hid (show Co.putE X v1 v2=X.s.putE (v1.off+I16 X.x.off) X.w.size v2 from rfl);rw[EE.out,EF.out];clear EE EF;obtain⟨zst,hzst⟩:∃ z,Hid (St.zero=z):=⟨_,Lib.hid rfl⟩;have hzc:Tryz.zeroCells90=zst.cells:=Yfx;go_enter Tryz.func126,Tryz.ntmps126;go_wp2;refine Q2 (WpC w.heap.size (w.heap.size+1) g zst X v1 v2 w) [23,24] [23] (fun _ c=>.pointer (some ⟨c.1,0,none⟩)) rfl Yc ?_ (fun d d' ν w'=>Qe1 d d' ν w') (fun d ν w' w1=>Q8c d ν w' w1) (fun i hi d ν c w'=>Qmu i hi d ν c w') ?_
   · exact Yly
   apply Exists.intro;refine⟨fun ν=>?_,?_,?_⟩
   · exact Yp4
   · exact Yoo
   · intro ν w9 d hd hC
     obtain⟨k0,k1,k2,k3,k4,k5,k6,k7,k8,k9,k10,k11,k12,k13,k14,k15,k16,k17,k18,k19,k20,k21⟩:=hC;have q23:=hd 23 Y0;have q24:=hd 24 Y0;simp only[q23,q24,cond_true,cond_false,forall_const,true_implies] at k0 k1 k2 k3 k4 k5 k6 k7 k8 k9 k10 k11 k12 k13 k14 k15 k16 k17 k18 k19 k20 k21;clear q23 q24;clear hd;have z0:=Q1 k0;have z2:=Q1 k2;have z9:=Q1 k9;have z16:=Q1o (w:=w9) (by rw[k16,St.cells_size];decide);go_wp2;go_ret2;exact⟨_,rfl,Qy,Y14⟩
 · have hne:(X.s.putE (v1.off+I16 X.x.off) X.w.size v2 != 0)=false:=by simp only[bne,he];rfl
   have he0:=Lib.hid (show X.s.putE (v1.off+I16 X.x.off) X.w.size v2=0 by simpa using he);have EE:=Lib.hid (show Co.putW X v1 v2=[Co.onW X (X.s.put (v1.off+I16 X.x.off) X.w.size v2)] by unfold Co.putW Co.putE Co.putO;rw[he];rfl);have EF:=Lib.hid (show Co.putE X v1 v2=0 from he0.out);rw[EE.out,EF.out];clear EE EF;obtain⟨zst,hzst⟩:∃ z,Hid (St.zero=z):=⟨_,Lib.hid rfl⟩;have hzc:Tryz.zeroCells90=zst.cells:=Yfx;go_enter Tryz.func126,Tryz.ntmps126;go_wp2;refine Q2 (WpC w.heap.size (w.heap.size+1) g zst X v1 v2 w) [23,24] [23] (fun _ c=>.pointer (some ⟨c.1,0,none⟩)) rfl Yc ?_ (fun d d' ν w'=>Qe1 d d' ν w') (fun d ν w' w1=>Q8c d ν w' w1) (fun i hi d ν c w'=>Qmu i hi d ν c w') ?_
   · exact Yly
   apply Exists.intro;refine⟨fun ν=>?_,?_,?_⟩
   · exact Yp4
   · exact Yoo
   · intro ν w9 d hd hC
     obtain⟨k0,k1,k2,k3,k4,k5,k6,k7,k8,k9,k10,k11,k12,k13,k14,k15,k16,k17,k18,k19,k20,k21⟩:=hC;have q23:=hd 23 Y0;have q24:=hd 24 Y0;simp only[q23,q24,cond_true,cond_false,forall_const,true_implies] at k0 k1 k2 k3 k4 k5 k6 k7 k8 k9 k10 k11 k12 k13 k14 k15 k16 k17 k18 k19 k20 k21;clear q23 q24;clear hd;have z0:=Q1 k0;have z2:=Q1 k2;have z9:=Q1 k9;have z16:=Q1o (w:=w9) (by rw[k16,St.cells_size];decide);go_wp2_with (go_at_call 110;refine Y44 ?_;intro w3 v3 hown3 hb3 hc3 hf3 hz3 hk3);go_ret2;refine⟨v3,rfl,?_,?_⟩
     · exact Q1a hown3 Y15
     · exact Y14
end Hk
