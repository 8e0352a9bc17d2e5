/- A part of TopTwice; no condition. -/
import Derived.Test.YtkgmipfmphlpgaaGreatK25
import Derived.Test.YtkgmipfmphlpgaaGreatK28
import Derived.Test.YtkgmipfmphlpgaaGreatK31
import Derived.Test.YtkgmipfmphlpgaaGreatK35
import Derived.Test.YtkgmipfmphlpgaaGreatK36
open Go Go.RowKit Go.Proofs
set_option linter.all false
set_option maxRecDepth 100000
set_option maxHeartbeats 20000000
namespace Hk
attribute [-go_sem] Qm
attribute [local go_sem] Q2r
def Q11r (g:Nat)(X:Sx)(y:In)(w:World)(d:Nat→Bool)(ν:Nat→Nat×Nat)(w':World):Prop:=w'.cell? ⟨g,0,none⟩=some (.slice (some ⟨X.b,0,none⟩) X.l.length X.c)∧w'.cell? ⟨g,3,none⟩=some (.int .i64 X.at_)∧w'.cell? ⟨g,4,none⟩=some (.int .u8 (N8 X.x.op))∧w'.cell? ⟨g,5,none⟩=some (.int .u8 (N8 X.x.dst))∧w'.cell? ⟨g,6,none⟩=some (.int .u8 (N8 X.x.src))∧w'.cell? ⟨g,7,none⟩=some (.int .i16 (I16 X.x.off))∧w'.cell? ⟨g,8,none⟩=some (.int .i32 (I32 X.x.imm))∧w'.cell? ⟨X.b,(X.at_+1)*5,none⟩=some (.int .u8 (N8 y.op))∧w'.cell? ⟨X.b,(X.at_+1)*5+1,none⟩=some (.int .u8 (N8 y.dst))∧w'.cell? ⟨X.b,(X.at_+1)*5+2,none⟩=some (.int .u8 (N8 y.src))∧w'.cell? ⟨X.b,(X.at_+1)*5+3,none⟩=some (.int .i16 (I16 y.off))∧w'.cell? ⟨X.b,(X.at_+1)*5+4,none⟩=some (.int .i32 (I32 y.imm))∧(d 18=true→w'.ownsRow w.heap.size 93 590 (.slice (some ⟨(ν 18).1,0,none⟩) 1 (ν 18).2) 1 (Q1p [Co.onW X (X.s.setR X.x.dst.toNat (Co.knownV (Co.longW X.x y)))]))∧0≤w'.heap.size∧Q1e w' g X∧Below w.heap.size w w'
theorem Qa9 {g:Nat}{X:Sx}{y:In}{w:World}:KT (Q11r g X y w):=by
 intro d ν w' w1 h hb;obtain⟨k0,k1,k2,k3,k4,k5,k6,k7,k8,k9,k10,k11,k12,k13,k14,k15⟩:=h;exact⟨Q0 hb k0,Q0 hb k1,Q0 hb k2,Q0 hb k3,Q0 hb k4,Q0 hb k5,Q0 hb k6,Q0 hb k7,Q0 hb k8,Q0 hb k9,Q0 hb k10,Q0 hb k11,fun h=>Qd (k12 h) hb,Nat.le_trans k13 hb.size,(k14).keep hb,Q8 k15 hb⟩
theorem Qmy {g:Nat}{X:Sx}{y:In}{w:World}:MT (Q11r g X y w) [18]:=by
 intro d d' ν w' hd h;unfold Q11r at *;simpa only[← hd 18 Y3] using h
theorem Qtm {g:Nat}{X:Sx}{y:In}{w:World}:NT (Q11r g X y w) [18]:=by
 intro i hi d ν c w' hd h;unfold Q11r at *;exact Ypy
def Q181 (g:Nat)(X:Sx)(w:World)(w':World):Prop:=w'.cell? ⟨g,1,none⟩=some (.slice X.p X.ds.length X.dc)∧w'.cell? ⟨g,8,none⟩=some (.int .i32 (I32 X.x.imm))∧Q1e w' g X∧Below w.heap.size w w'
theorem Qmx {g:Nat}{X:Sx}{w:World}:KC (Q181 g X w):=by
 intro w' w1 h hb;obtain⟨k0,k1,k2,k3⟩:=h;exact⟨Q0 hb k0,Q0 hb k1,(k2).keep hb,Q8 k3 hb⟩
def Q19l (g:Nat)(X:Sx)(w:World)(w':World):Prop:=Q1e w' g X∧Below w.heap.size w w'
theorem Qmw {g:Nat}{X:Sx}{w:World}:KC (Q19l g X w):=by
 exact Ys2
theorem Qog (g:Nat)(X:Sx)(w:World)(hX:Q1e w g X)(hO:Q78 X):Calls Tryz.prog 68 #[.pointer (some ⟨g,0,none⟩)] w (fun en w'=>∃ vv,en=.returned (.tuple #[vv,.int .i64 ((Co.aheadR X).2)])∧w'.ownsRow w.heap.size 93 590 vv ((Co.aheadR X).1).length (Q1p ((Co.aheadR X).1))∧Below w.heap.size w w'):=by
 refine Yvt ?_;intro zg hXb;obtain⟨a0,a1,a2,a3,a4,a5,a6,a7,a8,a9,a10,a11,a12,a13,a14⟩:=hX.cells;have hlen:=hO.len5;have hlt:=hO.lt;have hd:=hO.dst;have hq:=hO.src;have hl5:=hO.len;cases h1:(X.w.kind==1)
 · cases h2:(X.w.kind==2)
   · cases h5:(X.w.kind==5)
     · cases h3:(X.w.kind==3)
       · cases h4:(X.w.kind==4)
         · cases h6:(X.w.kind==6)
           · cases h7:(X.w.kind==7)
             · cases h8:(X.w.kind==8)
               · cases h9:(X.w.kind==9)
                 · cases h10:(X.w.kind==10)
                   · cases h11:(X.w.kind==11)
                     · have EE:=Lib.hid (show (Co.aheadR X).1=[]∧(Co.aheadR X).2=Co.exitE (X.s.r 0) from Yha)
                       refine Yvq ?_;go_wp2_with (go_at_call 96;refine Y7f ?_;intro w7 hb7 hc7 hf7 hz7 hk7);exact Ysz
                     · have EE:=Lib.hid (show (Co.aheadR X).1=Co.callW X∧(Co.aheadR X).2=Co.toldA X from Yha)
                       refine Yvq ?_;go_wp2_with (go_at_call 95;refine Y7g ?_;intro w7 v7 hown7 hb7 hc7 hf7 hz7 hk7);exact Yr9
                   · have EE:=Lib.hid (show (Co.aheadR X).1=Co.branchW X (Co.dV X) (Co.sV X)∧(Co.aheadR X).2=Co.branchE X (Co.dV X) (Co.sV X) by unfold Co.aheadR;simp[h1,h2,h5,h3,h4,h6,h7,h8,h9,h10])
                     refine Yvq ?_;go_wp2_with (go_at_call 94;refine Y7h ?_;intro w7 v7 hown7 hb7 hc7 hf7 hz7 hk7);exact Yr9
                 · have EE:=Lib.hid (show (Co.aheadR X).1=Co.waysW X X.s false X.s true∧(Co.aheadR X).2=0 by unfold Co.aheadR;simp[h1,h2,h5,h3,h4,h6,h7,h8,h9])
                   refine Yvq ?_;go_wp2;refine Q4 (Q19l g X w) 9 Yc Yc ?_ ?_
                   · exact Ync
                   refine Yv4 ?_;intro hN;simp only[List.take_succ_cons,List.take_zero,List.drop_succ_cons,List.drop_zero]
                   repeat (first
                    | go_big_quiet_skip
                    | (go_big_quiet_want
                       first
                        | ((first|(refine Q10 rfl rfl (fun w' hC=>Yhb) ?_))
                           simp only[Act.put,List.setIfInBounds_toArray,List.set_cons_succ,List.set_cons_zero]
                           go_big_quiet_on)
                        | (go_big_quiet_op
                           first
                            | go_big_quiet_on
                            | (apply Exists.intro
                               refine⟨fun w' hC=>?_,?_⟩
                               · (first|fail)
                                 (try simp only[id]);exact⟨rfl,by first|exact hC|exact Qmw _ _ hC hb1⟩
                               go_big_quiet_on))))
                   refine wpQuiet_nil ?_;intro w9 hC;obtain⟨k0,k1⟩:=hC;have hz9:=k1.size;go_wp2_with (go_at_call 93;refine Y6w ?_;intro w7 v7 hown7 hb7 hc7 hf7 hz7 hk7);go_ret2;rw[EE.out.1,EE.out.2];refine⟨v7,rfl,?_,?_⟩
                   · exact Q1a hown7 Y15
                   · exact Y14
               · have EE:=Lib.hid (show (Co.aheadR X).1=(Co.storeR X (Co.dV X) (Co.sV X)).1∧(Co.aheadR X).2=(Co.storeR X (Co.dV X) (Co.sV X)).2 by unfold Co.aheadR;simp[h1,h2,h5,h3,h4,h6,h7,h8])
                 refine Yvq ?_;go_wp2_with (go_at_call 92;refine Y7i ?_;intro w7 v7 hown7 hb7 hc7 hf7 hz7 hk7);exact Yr9
             · have EE:=Lib.hid (show (Co.aheadR X).1=(Co.storeR X (Co.dV X) (Co.sV X)).1∧(Co.aheadR X).2=(Co.storeR X (Co.dV X) (Co.sV X)).2 by unfold Co.aheadR;simp[h1,h2,h5,h3,h4,h6,h7])
               refine Yvq ?_;go_wp2_with (go_at_call 92;refine Y7j ?_;intro w7 v7 hown7 hb7 hc7 hf7 hz7 hk7);exact Yr9
           · have EE:=Lib.hid (show (Co.aheadR X).1=(Co.storeR X (Co.dV X) (Co.sV X)).1∧(Co.aheadR X).2=(Co.storeR X (Co.dV X) (Co.sV X)).2 by unfold Co.aheadR;simp[h1,h2,h5,h3,h4,h6])
             refine Yvq ?_;go_wp2_with (go_at_call 92;refine Y7k ?_;intro w7 v7 hown7 hb7 hc7 hf7 hz7 hk7);exact Yr9
         · cases hge:decide ((X.ds.length:Int)≤I32 X.x.imm)
           · have hge2:¬ ((X.ds.length:Int)≤I32 X.x.imm):=of_decide_eq_false hge
             have EE:=Lib.hid (show (Co.aheadR X).1=Co.becW X ⟨4,⟨⟨0#64,0#64⟩,⟨0#64,0#64⟩⟩,I32 X.x.imm,0⟩ 0∧(Co.aheadR X).2=0 by unfold Co.aheadR;simp[h1,h2,h5,h3,h4,hge2,Fa.zero]);refine Yvq ?_;go_wp2;refine Ql (Q181 g X w) Yc Yc ?_ ?_
             · exact Yn9
             refine Yv4 ?_;intro hN
             repeat refine Ye5 ?_
             refine wpQuiet_nil ?_;intro w9 hC;obtain⟨k0,k1,k2,k3⟩:=hC;have z0:=Q1 k0;have hz9:=k3.size;go_wp2_with (go_at_call 86;refine Y7l ?_;intro w7 v7 hown7 hb7 hc7 hf7 hz7 hk7);exact Yr9
           · have hge2:((X.ds.length:Int)≤I32 X.x.imm):=of_decide_eq_true hge
             have EE:=Lib.hid (show (Co.aheadR X).1=[]∧(Co.aheadR X).2=113 by unfold Co.aheadR;simp[h1,h2,h5,h3,h4,hge2]);refine Yvq ?_;go_wp2;refine Ql (Q181 g X w) Yc Yc ?_ ?_
             · exact Yn9
             refine Yv4 ?_;intro hN
             repeat refine Ye5 ?_
             refine wpQuiet_nil ?_;intro w9 hC;obtain⟨k0,k1,k2,k3⟩:=hC;have z0:=Q1 k0;have hz9:=k3.size;go_wp2;exact Ysz
       · have hmore:=hO.more (by simpa using h3)
         have hy:X.l.getD (X.at_+1) In.zero=X.l[X.at_+1]:=by rw[List.getD_eq_getElem?_getD,List.getElem?_eq_getElem hmore];rfl
         have hbi:(0:Int)≤(X.at_:Int)+1∧(X.at_:Int)+1<(X.l.length:Int):=Y1;have hbn:((X.at_:Int)+1).toNat=X.at_+1:=Y1;have hwr:RowKit.wrap64 ((X.at_:Int)+1)=(X.at_:Int)+1:=IntWalk.wrap64_in _ Y1;have hbd:decide ((X.at_:Int)+1<0)=false:=Y4;have hbc:(0:Int)≤(X.at_:Int)+1:=Y1;have hbe:(X.at_:Int)+1<(X.l.length:Int):=Y1;have hln:X.l.length≠0:=Y1;obtain⟨m0,m1,m2,m3,m4⟩:=hX.ins (X.at_+1) hmore;have zm:=Q1 m0;have EE:=Lib.hid (show (Co.aheadR X).1=Co.becW X (Co.knownV (Co.longW X.x X.l[X.at_+1])) 0∧(Co.aheadR X).2=0 by unfold Co.aheadR Co.longV;rw[hy];simp[h1,h2,h5,h3]);generalize X.l[X.at_+1]=y at *;refine Yvq ?_;go_wp2;have hX1:Q1e w.drew g X:=hX.keep Y14
         refine Q2 (Q11r g X y w) [18] [18] (fun _ c=>.tuple #[.slice (some ⟨c.1,0,none⟩) 1 c.2,.int .i64 0]) rfl Yc ?_ (fun d d' ν w'=>Qmy d d' ν w') (fun d ν w' w1=>Qa9 d ν w' w1) (fun i hi d ν c w'=>Qtm i hi d ν c w') ?_
         · intro d ν hd;refine⟨?_,?_,?_,?_,?_,?_,?_,?_,?_,?_,?_,?_,?_,?_,?_,Yb⟩<;>first|(simp (maxDischargeDepth:=12) [*,hd,upd,Qo,go_sem,↓IntWalk.iteOmega];done)|(intro i;simp (maxDischargeDepth:=12) [*,upd,Qo,go_sem,↓IntWalk.iteOmega];done)|(intro h;rw[hd _ Y0] at h;cases h)|go_size|(simp;omega)
         apply Exists.intro;refine⟨fun ν=>?_,?_,?_⟩
         · (try simp only[List.append])
           iterate 18 refine Ye6 ?_
           (refine Q2k Y0 Yc (fun d w' hd hC=>?_) ?_
            · have hC0:=hC
              obtain⟨k0,k1,k2,k3,k4,k5,k6,k7,k8,k9,k10,k11,k12,k13,k14,k15⟩:=hC0;have r:=hd.open_;refine⟨86,_,Yez,?_⟩;refine (Qi1 g X (Co.knownV (Co.longW X.x y)) 0 w' Y2 hlen hlt hO.dst).mono ?_;rintro e w1 ⟨v1,rfl,hown1,hb1⟩;have hbw:Co.becW X (Co.knownV (Co.longW X.x y)) 0=[Co.onW X (X.s.setR X.x.dst.toNat (Co.knownV (Co.longW X.x y)))]:=rfl;rw[hbw] at hown1;obtain⟨gq,cap,rfl,-,-,-,-,-,-⟩:=Q1h hown1 Y3;refine⟨(gq,cap),rfl,?_⟩;have hsz:=k15.size;clear k0 k1 k2 k3 k4 k5 k6 k7 k8 k9 k10 k11 k12 k13 k14;have hC1:=Qa9 _ _ _ _ hC hb1;obtain⟨k0,k1,k2,k3,k4,k5,k6,k7,k8,k9,k10,k11,k12,k13,k14,k15⟩:=hC1;refine⟨?_,?_,?_,?_,?_,?_,?_,?_,?_,?_,?_,?_,?_,?_,?_,Y1g⟩
              · assumption
              · assumption
              · assumption
              · assumption
              · assumption
              · assumption
              · assumption
              · assumption
              · assumption
              · assumption
              · assumption
              · assumption
              · intro h
                simpa[Qo] using Q1a hown1 (by first|omega|go_size)
              · assumption
              · assumption
            simp only[Act.put,List.setIfInBounds_toArray,List.set_cons_succ,List.set_cons_zero,Nat.reduceAdd,Nat.zero_add])
           iterate 4 refine Ye6 ?_
           exact rfl
         · exact Yoo
         · intro ν w9 d hd hC
           obtain⟨k0,k1,k2,k3,k4,k5,k6,k7,k8,k9,k10,k11,k12,k13,k14,k15⟩:=hC;have q18:=hd 18 Y0;simp only[q18,cond_true,cond_false,forall_const,true_implies] at k0 k1 k2 k3 k4 k5 k6 k7 k8 k9 k10 k11 k12 k13 k14 k15;clear q18;clear hd;have z0:=Q1 k0;have z7:=Q1 k7;go_wp2;go_ret2;rw[EE.out.1,EE.out.2];refine⟨.slice (some ⟨(ν 18).1,0,none⟩) 1 (ν 18).2,rfl,?_,?_⟩
           · exact k12
           · exact Y14
     · have EE:=Lib.hid (show (Co.aheadR X).1=Co.becW X (Co.loadV X (X.s.r X.x.src.toNat)) (Co.loadE X (X.s.r X.x.src.toNat))∧(Co.aheadR X).2=Co.loadE X (X.s.r X.x.src.toNat) by unfold Co.aheadR;simp[h1,h2,h5])
       refine Yvq ?_;go_wp2_with ((with_reducible apply ic);first|(refine Y7n ?_;intro w4 hb4 hc4 hf4 hz4 hk4)|(refine Y7o ?_;intro w7 v7 hown7 hb7 hc7 hf7 hz7 hk7));exact Yr9
   · have EE:=Lib.hid (show (Co.aheadR X).1=Co.becW X (Co.swapsV X (Co.dV X)) (Co.swapsE X (Co.dV X))∧(Co.aheadR X).2=Co.swapsE X (Co.dV X) by unfold Co.aheadR;simp[h1,h2])
     refine Yvq ?_;go_wp2_with ((with_reducible apply ic);first|(refine Y7p ?_;intro w3 hb3 hc3 hf3 hz3 hk3)|(refine Y7o ?_;intro w7 v7 hown7 hb7 hc7 hf7 hz7 hk7));exact Yr9
 · have EE:=Lib.hid (show (Co.aheadR X).1=Co.becW X (Co.arithV X (Co.dV X) (Co.sV X)) (Co.arithE X (Co.dV X) (Co.sV X))∧(Co.aheadR X).2=Co.arithE X (Co.dV X) (Co.sV X) by unfold Co.aheadR;simp[h1])
   refine Yvq ?_;go_wp2_with ((with_reducible apply ic);first|(go_at_call 87;(with_reducible refine (Qof _ _ _ (hX.keep Y14) hd hq).mono ?_);refine Y4b ?_;intro w2 hb2 hc2 hf2 hz2 hk2)|(refine Y7p ?_;intro w3 hb3 hc3 hf3 hz3 hk3)|(refine Y7n ?_;intro w4 hb4 hc4 hf4 hz4 hk4)|(refine Y7o ?_;intro w7 v7 hown7 hb7 hc7 hf7 hz7 hk7));exact Yr9
end Hk
