/- A part of TopTwice; no condition. -/
import Derived.Test.YtkgmipfmphlpgaaGreatK37
open Go Go.RowKit Go.Proofs
set_option linter.all false
set_option maxRecDepth 100000
set_option maxHeartbeats 20000000
namespace Hk
attribute [-go_sem] Qm
theorem Qik:(Tryz.prog.info? 138).map (fun i=>(i.size,i.zero.map (·.cells.size)))=some (604,some 604):=Yc
theorem Qf4:∃ it z,Tryz.prog.info? 138=some it∧it.zero=some z∧z.cells.size=604:=by
 have h:=Qik;cases hi:Tryz.prog.info? 138 with
 | none=>rw[hi] at h;cases h
 | some it =>
   rw[hi] at h;simp only[Option.map_some,Option.some.injEq,Prod.mk.injEq] at h;obtain⟨h1,h3⟩:=h;cases hz:it.zero with
   | none=>rw[hz] at h3;cases h3
   | some z=>rw[hz] at h3;exact⟨it,z,rfl,hz,by simpa using h3⟩
theorem Qiz (c:Array Value)(o:Nat)(d:Array Value)(k:Nat):(Q23 c o d)[k]?=if k<c.size then some (if o≤k∧k<o+d.size then d.getD (k-o) undef else c.getD k undef) else none:=by
 unfold Q23;rw[Qj]
theorem Qgm (z:Array Value)(hz:z.size=604)(X:Sx):Instr.fill ([(0,1),(1,2),(3,1),(4,5),(9,6),(15,589)].toArray[·]?) z [(0,.slice (some ⟨X.b,0,none⟩) X.l.length X.c),(1,.agg #[.slice X.p X.ds.length X.dc,.int .i64 X.ctx]),(2,.int .i64 X.at_),(3,X.x),(4,X.w),(5,.agg X.s.cells)]=some X.cells:=by
 rw[Q1n (off:=0) (n:=1) rfl rfl Y1,Q1n (off:=1) (n:=2) rfl rfl (by rw[Qp];omega),Q1n (off:=3) (n:=1) rfl rfl (by rw[Qp,Qp];omega),
  Q1n (off:=4) (n:=5) rfl rfl (by rw[Qp,Qp,Qp];omega),Q1n (off:=9) (n:=6) rfl rfl (by rw[Qp,Qp,Qp,Qp];omega),
  Q1n (off:=15) (n:=589) rfl (by simp only[Value.cells];exact St.cells_size _) (by rw[Qp,Qp,Qp,Qp,Qp];omega)]
 unfold Instr.fill;refine congrArg some (Array.ext_getElem? fun k=>?_);by_cases hk:k<604
 · rw[X.cells_get hk]
   have e5:(Value.agg X.s.cells).cells=X.s.cells:=rfl;rw[e5];rw[Qiz,Qp,Qp,Qp,Qp,Qp,hz,if_pos hk,St.cells_size];by_cases h15:15≤k
   · rw[if_pos Y1]
     unfold Sx.cell;rw[if_pos h15];unfold St.cells;rw[Q13 Y1]
   · rw[if_neg Y1]
     have hlt:k<15:=Y1;simp only[Q23,Qr,hz];unfold Sx.cell;rw[if_neg h15];rcases k with _|_|_|_|_|_|_|_|_|_|_|_|_|_|_|k
     all_goals first|omega|(simp[Q13,Value.cells,Qr];done)|(simp[Q13,Value.cells,Qr];rfl)
 · rw[Array.getElem?_eq_none (by simp only[Qp,hz];omega),Array.getElem?_eq_none (by rw[X.cells_size];omega)]
theorem Qcn (X:Sx):Tryz.prog.built 138 [(0,.slice (some ⟨X.b,0,none⟩) X.l.length X.c),(1,.agg #[.slice X.p X.ds.length X.dc,.int .i64 X.ctx]),(2,.int .i64 X.at_),(3,X.x),(4,X.w),(5,.agg X.s.cells)]=some X.cells:=by
 obtain⟨it,z,h1,h3,h4⟩:=Qf4;rw[Q32 (places:=[(0,1),(1,2),(3,1),(4,5),(9,6),(15,589)]) h1 Tryz.underlying138 h3 Yc];exact Qgm _ h4 X
theorem Q60 {op:Oper}{a:Act}{C:World→Prop}{K:Act→Prop}{x0 x1 x2 x3 x4 x5:Operand}{X:Sx}(ho:op.op=.build 138 #[(0,x0),(1,x1),(2,x2),(3,x3),(4,x4),(5,x5)])
 (h0:a.eval x0=.slice (some ⟨X.b,0,none⟩) X.l.length X.c) (h1:a.eval x1=.agg #[.slice X.p X.ds.length X.dc,.int .i64 X.ctx]) (h2:a.eval x2=.int .i64 X.at_) (h3:a.eval x3=X.x) (h4:a.eval x4=X.w) (h5:a.eval x5=.agg X.s.cells)
 (hk:K (a.put op.dst (.agg X.cells))):op.quiet Tryz.prog a C K :=
 Qt (v:=.agg X.cells) (fun w hC=>by
  unfold Oper.quietAt
  have e:(execOp a.eval op).run Tryz.prog w=.ok (.value (.agg X.cells)) w:=by
   obtain⟨dst,op,type,pos,after,guard⟩:=op;simp only at ho;subst ho;have h:=run_build (P:=Tryz.prog) w 138 _ _ (Qcn X);simp only[List.toArray] at h;simp[execOp,h0,h1,h2,h3,h4,h5,h,Result.andThen]
  rw[e];exact⟨rfl,rfl⟩) hk
@[local go_sem] theorem Q11i (x:St)(w:World):Sem.run Tryz.prog (Instr.field 90 (.agg x.cells) 0) w=.ok (.agg x.regs) w:=by
 simp[Instr.field,run_underlying Tryz.underlying90,asAgg,part,Sem.run_bind,Result.andThen,Tryz.isAgg85 w,Tryz.sizeOf85 w,Nat.zero_add,x.cells_regs]
@[local go_sem] theorem Q13r (x:St)(w:World):Sem.run Tryz.prog (Instr.index 85 (.agg x.regs) (.int .i64 10)) w=.ok ((x.r 10)) w:=Q13p w x 10 Y1
@[local go_sem high] theorem Q17e (v u:Vl)(w:World):Sem.run Tryz.prog (Op.equalIn 10000 84 (v) (u)) w=.ok (decide (v=u)) w:=by
 have e:decide (v=u)=(decide (v.k=u.k)&&decide (v.f.t.v=u.f.t.v)&&decide (v.f.t.m=u.f.t.m)&&decide (v.f.s.lo=u.f.s.lo)&&decide (v.f.s.hi=u.f.s.hi)&&decide (v.i=u.i)&&decide (v.off=u.off)):=by
  rw[Bool.eq_iff_iff];simp only[Bool.and_eq_true,decide_eq_true_eq];constructor
  · rintro rfl;simp
  · rintro⟨⟨⟨⟨⟨⟨h1,h2⟩,h3⟩,h4⟩,h5⟩,h6⟩,h7⟩
    obtain⟨k,⟨⟨a,b⟩,⟨c,d⟩⟩,i,o⟩:=v;obtain⟨k',⟨⟨a',b'⟩,⟨c',d'⟩⟩,i',o'⟩:=u;simp only at h1 h2 h3 h4 h5 h6 h7;subst h1;subst h2;subst h3;subst h4;subst h5;subst h6;subst h7;rfl
 rw[e];simp[go_sem]
 repeat' split
 all_goals simp[*]
theorem Qbe (ρ:Operand→Value)(op:Oper)(x:Operand)(b o:Nat)(c0 c1:Value)(ho:op.op=.load 25 x)(hx:ρ x=.pointer (some ⟨b,o,none⟩))(w:World)(h0:w.cell? ⟨b,o,none⟩=some c0)(h1:w.cell? ⟨b,o+1,none⟩=some c1) :
 (execOp ρ op).run Tryz.prog w=.ok (.value (.agg #[c0,c1])) w:=by
 obtain⟨dst,op,type,pos,after,guard⟩:=op;simp only at ho;subst ho
 go_simp
theorem Q3g {op:Oper}{a:Act}{C:World→Prop}{K:Act→Prop}{x:Operand}{b o:Nat}{c0 c1:Value}(ho:op.op=.load 25 x)(hx:a.eval x=.pointer (some ⟨b,o,none⟩))
 (h:∀ w,C w→w.cell? ⟨b,o,none⟩=some c0∧w.cell? ⟨b,o+1,none⟩=some c1) (hk:K (a.put op.dst (.agg #[c0,c1]))):op.quiet Tryz.prog a C K :=
 Qt (v:=.agg #[c0,c1]) (fun w hC=>by unfold Oper.quietAt;obtain⟨h0,h1⟩:=h w hC;rw[Qbe _ op x b o c0 c1 ho hx w h0 h1];exact⟨rfl,rfl⟩) hk
def Qvd (sb at_:Nat)(st:Bool)(v:Vl)(w:World)(d:Nat→Bool)(ν:Nat→Nat×Nat)(w':World):Prop:=w'.cell? ⟨sb,70,none⟩=some (.int .u8 v.k)∧w'.cell? ⟨sb,71,none⟩=some (.int .u64 (N v.f.t.v))∧w'.cell? ⟨sb,72,none⟩=some (.int .u64 (N v.f.t.m))∧w'.cell? ⟨sb,73,none⟩=some (.int .u64 (N v.f.s.lo))∧w'.cell? ⟨sb,74,none⟩=some (.int .u64 (N v.f.s.hi))∧w'.cell? ⟨sb,75,none⟩=some (.int .i64 v.i)∧w'.cell? ⟨sb,76,none⟩=some (.int .i64 v.off)∧(d 1=true→w'.cell? ⟨(ν 1).1,at_,none⟩=some (.bool st))∧0≤w'.heap.size∧Below w.heap.size w w'
theorem Q57 {sb at_:Nat}{st:Bool}{v:Vl}{w:World}:KT (Qvd sb at_ st v w):=by
 intro d ν w' w1 h hb;obtain⟨k0,k1,k2,k3,k4,k5,k6,k7,k8,k9⟩:=h;exact⟨Q0 hb k0,Q0 hb k1,Q0 hb k2,Q0 hb k3,Q0 hb k4,Q0 hb k5,Q0 hb k6,fun h=>Q0 hb (k7 h),Nat.le_trans k8 hb.size,Q8 k9 hb⟩
theorem Q70 {sb at_:Nat}{st:Bool}{v:Vl}{w:World}:MT (Qvd sb at_ st v w) [1]:=by
 intro d d' ν w' hd h;unfold Qvd at *;simpa only[← hd 1 Y3] using h
theorem Q8b {sb at_:Nat}{st:Bool}{v:Vl}{w:World}:NT (Qvd sb at_ st v w) [1]:=by
 intro i hi d ν c w' hd h;unfold Qvd at *;exact Ypy
def Q19j (gb wb sb:Nat)(X:Sx)(w:World)(w':World):Prop:=w'.cell? ⟨gb,0,none⟩=some (.slice X.p X.ds.length X.dc)∧w'.cell? ⟨gb,1,none⟩=some (.int .i64 X.ctx)∧w'.cell? ⟨X.b,X.at_*5,none⟩=some (.int .u8 (N8 X.x.op))∧w'.cell? ⟨X.b,X.at_*5+1,none⟩=some (.int .u8 (N8 X.x.dst))∧w'.cell? ⟨X.b,X.at_*5+2,none⟩=some (.int .u8 (N8 X.x.src))∧w'.cell? ⟨X.b,X.at_*5+3,none⟩=some (.int .i16 (I16 X.x.off))∧w'.cell? ⟨X.b,X.at_*5+4,none⟩=some (.int .i32 (I32 X.x.imm))∧CWh.a w' wb X.w (blk w' sb=X.s.cells∧Below w.heap.size w w')
theorem Qms {gb wb sb:Nat}{X:Sx}{w:World}:KC (Q19j gb wb sb X w):=by
 intro w' w1 h hb;obtain⟨k0,k1,k2,k3,k4,k5,k6,k7,k8,k9,k10,k11,k12,k13,k14⟩:=h;exact⟨Q0 hb k0,Q0 hb k1,Q0 hb k2,Q0 hb k3,Q0 hb k4,Q0 hb k5,Q0 hb k6,Q0 hb k7,Q0 hb k8,Q0 hb k9,Q0 hb k10,Q0 hb k11,Q0 hb k12,Q12 hb k13 Y13,Q8 k14 hb⟩
theorem Qph (s0:St)(h:Hid (s0=St.first))(w:World):Calls Tryz.prog 29 #[] w (RB.a w (.agg s0.cells)):=by
 have e:=h.out;subst e;exact Qpi w
theorem Qvo (lb lc dc at_:Nat)(p:Option Addr)(l:List In)(ds:List Df)(ctx:Int)(s:St)(w:World)(hI:Q14 w lb l)(hD:Q1s w p ds)(hlen:l.length≤100000)(hn:ds.length≤1000000000):Calls Tryz.prog 47 #[.slice (some ⟨lb,0,none⟩) l.length lc,.agg #[.slice p ds.length dc,.int .i64 ctx],.int .i64 (at_:Nat),.agg s.cells] w (fun en w'=>∃ vv,en=.returned (.tuple #[vv,.int .i64 ((Co.stepR l ds ctx at_ s).2)])∧w'.ownsRow w.heap.size 93 590 vv ((Co.stepR l ds ctx at_ s).1).length (Q1p ((Co.stepR l ds ctx at_ s).1))∧Below w.heap.size w w'):=by
 obtain⟨c0,e0,hce⟩:∃ c e,Co.check l=(c,e):=⟨_,_,rfl⟩;have hge:Co.good l=(e0==0):=by unfold Co.good;rw[hce]
 have HE:=Lib.hid hce;clear hce;have hbd:decide ((at_:Int)<0)=false:=by simp
 cases hg:(e0==0)
 · have hgd:Co.good l=false:=hge.trans hg
   have EE:=Lib.hid (show Co.stepR l ds ctx at_ s=([],1) from Co.stepR_no Y1s);have hne:(e0 != 0)=true:=Yhc;clear hge hgd;go_enter Tryz.func47,Tryz.ntmps47;go_wp2_with (go_at_call 10;refine Y7r ?_;intro w1 hb1 hc1 hf1 hz1 hk1);go_ret2;rw[EE.out];exact⟨_,rfl,Qy,Y14⟩
 · have hgd:Co.good l=true:=hge.trans hg
   have hne:(e0 != 0)=false:=Yhc;clear hge;cases hv:Co.givenB ds ctx
   · have EE:=Lib.hid (show Co.stepR l ds ctx at_ s=([],1) from Co.stepR_no Y1s)
     have HV:=Lib.hid hv;clear hv hgd;go_enter Tryz.func47,Tryz.ntmps47;go_wp2_with ((with_reducible apply ic);first|(refine Y7r ?_;intro w1 hb1 hc1 hf1 hz1 hk1)|(refine Y7s ?_;intro w2 hb2 hc2 hf2 hz2 hk2));go_ret2;rw[EE.out];exact⟨_,rfl,Qy,Y14⟩
   · by_cases hlt:at_<l.length
     · have hle:decide ((l.length:Int)≤at_)=false:=by simp;omega
       have hle2:decide (l.length≤at_)=false:=Y4;cases hr:s.right
       · have EE:=Lib.hid (show Co.stepR l ds ctx at_ s=([],1) from Co.stepR_no Y1s)
         have HV:=Lib.hid hv;have HR:=Lib.hid hr;clear hv hr hgd;go_enter Tryz.func47,Tryz.ntmps47;go_wp2_with ((with_reducible apply ic);first|(refine Y7r ?_;intro w1 hb1 hc1 hf1 hz1 hk1)|(refine Y7s ?_;intro w2 hb2 hc2 hf2 hz2 hk2)|(refine Y7t ?_;intro w3 hb3 hc3 hf3 hz3 hk3));go_ret2;rw[EE.out];exact⟨_,rfl,Qy,Y14⟩
       · obtain⟨s0,hs0⟩:∃ s0:St,Hid (s0=St.first):=⟨_,Lib.hid rfl⟩
         have h10:s0.r 10=Co.frV:=by rw[hs0.out];rfl
         generalize hv10:s.r 10=v10;cases hst0:Co.start l at_
         · have EE:=Lib.hid (show Co.stepR l ds ctx at_ s=([],1) from Co.stepR_no Y1s)
           have HV:=Lib.hid hv;have HR:=Lib.hid hr;have hst:=Lib.hid hst0;clear hv hr hst0;go_enter Tryz.func47,Tryz.ntmps47;go_wp2_with ((with_reducible apply ic);first|(refine Y7r ?_;intro w1 hb1 hc1 hf1 hz1 hk1)|(refine Y7s ?_;intro w2 hb2 hc2 hf2 hz2 hk2)|(refine Y7t ?_;intro w3 hb3 hc3 hf3 hz3 hk3));refine Yv3 ?_;rintro W ⟨hsb,hg0,hg1,hzW,hBW⟩;clear hb1 hc1 hf1 hz1 hk1 hb2 hc2 hf2 hz2 hk2 hb3 hc3 hf3 hz3 hk3;refine Yuu ?_;intro c0 c1 c2 c3 c4 c5 c6;go_wp2;refine Q2 (Qvd (w.heap.size+1) at_ false v10 W) [1] [1] (fun _ c=>.slice (some ⟨c.1,0,none⟩) l.length l.length) rfl Yc ?_ (fun d d' ν w'=>Q70 d d' ν w') (fun d ν w' w1=>Q57 d ν w' w1) (fun i hi d ν c w'=>Q8b i hi d ν c w') ?_
           · exact Ymi
           apply Exists.intro;refine⟨fun ν=>?_,?_,?_⟩
           · exact Yr2
           · exact Yoo
           · exact Ymt
         · cases hf:decide (v10=Co.frV)
           · have hf2:decide (s.r 10=Co.frV)=false:=by rw[hv10];exact hf
             have EE:=Lib.hid (show Co.stepR l ds ctx at_ s=([],1) from Co.stepR_no (by unfold Co.stepB;rw[hf2];simp));have HV:=Lib.hid hv;have HR:=Lib.hid hr;have hst:=Lib.hid hst0;clear hv hr hst0;go_enter Tryz.func47,Tryz.ntmps47;go_wp2_with ((with_reducible apply ic);first|(refine Y7r ?_;intro w1 hb1 hc1 hf1 hz1 hk1)|(refine Y7s ?_;intro w2 hb2 hc2 hf2 hz2 hk2)|(refine Y7t ?_;intro w3 hb3 hc3 hf3 hz3 hk3));refine Yv3 ?_;rintro W ⟨hsb,hg0,hg1,hzW,hBW⟩;clear hb1 hc1 hf1 hz1 hk1 hb2 hc2 hf2 hz2 hk2 hb3 hc3 hf3 hz3 hk3;refine Yuu ?_;intro c0 c1 c2 c3 c4 c5 c6;go_wp2;refine Q2 (Qvd (w.heap.size+1) at_ true v10 W) [1] [1] (fun _ c=>.slice (some ⟨c.1,0,none⟩) l.length l.length) rfl Yc ?_ (fun d d' ν w'=>Q70 d d' ν w') (fun d ν w' w1=>Q57 d ν w' w1) (fun i hi d ν c w'=>Q8b i hi d ν c w') ?_
             · exact Ymi
             apply Exists.intro;refine⟨fun ν=>?_,?_,?_⟩
             · exact Yr2
             · exact Yoo
             · exact Ymt
           · have hO:Q78 ⟨lb,lc,l,p,dc,ds,ctx,at_,l.getD at_ In.zero,Co.what (l.getD at_ In.zero),s⟩:=⟨hgd,hlt,hst0,rfl,rfl,hv,hr⟩
             have EE:=Lib.hid (show Co.stepR l ds ctx at_ s=Co.aheadR ⟨lb,lc,l,p,dc,ds,ctx,at_,l.getD at_ In.zero,Co.what (l.getD at_ In.zero),s⟩ from Co.stepR_yes hO (by show s.r 10=Co.frV;rw[hv10];exact of_decide_eq_true hf));have ex:l.getD at_ In.zero=l[at_]:=Yf6;rw[ex] at EE hO;obtain⟨m0,m1,m2,m3,m4⟩:=hI at_ hlt;clear ex;generalize l[at_]=x at *;have HV:=Lib.hid hv;have HR:=Lib.hid hr;have hst:=Lib.hid hst0;clear hv hr hst0;go_enter Tryz.func47,Tryz.ntmps47;go_wp2_with ((with_reducible apply ic);first|(refine Y7r ?_;intro w1 hb1 hc1 hf1 hz1 hk1)|(refine Y7s ?_;intro w2 hb2 hc2 hf2 hz2 hk2)|(refine Y7t ?_;intro w3 hb3 hc3 hf3 hz3 hk3));refine Yv3 ?_;rintro W ⟨hsb,hg0,hg1,hzW,hBW⟩;clear hb1 hc1 hf1 hz1 hk1 hb2 hc2 hf2 hz2 hk2 hb3 hc3 hf3 hz3 hk3;refine Yuu ?_;intro c0 c1 c2 c3 c4 c5 c6;go_wp2
             refine Q2 (Qvd (w.heap.size+1) at_ true v10 W) [1] [1] (fun _ c=>.slice (some ⟨c.1,0,none⟩) l.length l.length) rfl Yc ?_ (fun d d' ν w'=>Q70 d d' ν w') (fun d ν w' w1=>Q57 d ν w' w1) (fun i hi d ν c w'=>Q8b i hi d ν c w') ?_
             · exact Ymi
             apply Exists.intro;refine⟨fun ν=>?_,?_,?_⟩
             · exact Yr2
             · exact Yoo
             · intro ν w9 d hd hC
               obtain⟨k0,k1,k2,k3,k4,k5,k6,k7,k8,k9⟩:=hC;have q1:=hd 1 Y0;simp only[q1,cond_true,cond_false,forall_const,true_implies] at k0 k1 k2 k3 k4 k5 k6 k7 k8 k9;clear q1;clear hd;have z0:=Q1 k0;have hB9:Below W.heap.size W w9:=k9;have hz9:=hB9.size;clear k0 k1 k2 k3 k4 k5 k6 k7 k8 k9 z0;have hBw9:Below w.heap.size w w9:=Y14;have n0:=Q0 hBw9 m0;have n1:=Q0 hBw9 m1;have n2:=Q0 hBw9 m2;have n3:=Q0 hBw9 m3;have n4:=Q0 hBw9 m4;have hs9:=Q12 hB9 hsb Y13;have zn:=Q1 n0;have g0:=Q0 hB9 hg0;have zg0:=Q1 g0;have g1:=Q0 hB9 hg1
               skip
               go_wp2_with (go_at_call 20;refine Y2p ?_;intro w1 hb1 hc1 hf1 hz1);have hs1:=Q12 hb1 hs9 Y13;refine Q4 (Q19j w.heap.size w1.heap.size (w.heap.size+1) ⟨lb,lc,l,p,dc,ds,ctx,at_,x,Co.what x,s⟩ w) 10 Yc Yc ?_ ?_
               · exact Ymr
               refine Yv4 ?_;intro hN;simp only[List.take_succ_cons,List.take_zero,List.drop_succ_cons,List.drop_zero]
               repeat (first
                | go_big_quiet_skip
                | (go_big_quiet_want
                   first
                    | ((first|(refine Q60 (X:=⟨lb,lc,l,p,dc,ds,ctx,at_,x,Co.what x,s⟩) rfl rfl rfl rfl rfl rfl rfl ?_)|(refine Q3g rfl rfl (fun w' hC=>Yg5) ?_)|(refine Qc rfl rfl (fun w' hC=>Yg5) ?_)|(refine Qf rfl rfl (fun w' hC=>Yg5) ?_)|(refine Q33 rfl rfl (fun w' hC=>Yhl) ?_))
                       simp only[Act.put,List.setIfInBounds_toArray,List.set_cons_succ,List.set_cons_zero]
                       go_big_quiet_on)
                    | (go_big_quiet_op
                       first
                        | go_big_quiet_on
                        | (apply Exists.intro
                           refine⟨fun w' hC=>?_,?_⟩
                           · (first|fail)
                             (try simp only[id]);exact⟨rfl,by first|exact hC|exact Qms _ _ hC hb1⟩
                           go_big_quiet_on))))
               refine wpQuiet_nil ?_;intro w9 hC;obtain⟨k0,k1,k2,k3,k4,k5,k6,k7,k8,k9,k10,k11,k12,k13,k14⟩:=hC;have z0:=Q1 k0;have z2:=Q1 k2;have z7:=Q1 k7;have hz9:=k14.size;go_wp2_with (go_at_call 68;refine Y7w ?_;intro w7 v7 hown7 hb7);go_ret2;rw[EE.out];refine⟨v7,rfl,?_,?_⟩
               · exact Q1a hown7 Y15
               · exact Y14
     · have hle:decide ((l.length:Int)≤at_)=true:=by simp;omega
       have hle2:decide (l.length≤at_)=true:=Y4;have EE:=Lib.hid (show Co.stepR l ds ctx at_ s=([],1) from Co.stepR_no Y1s);have HV:=Lib.hid hv;clear hv hgd;go_enter Tryz.func47,Tryz.ntmps47;go_wp2_with ((with_reducible apply ic);first|(refine Y7r ?_;intro w1 hb1 hc1 hf1 hz1 hk1)|(refine Y7s ?_;intro w2 hb2 hc2 hf2 hz2 hk2));go_ret2;rw[EE.out];exact⟨_,rfl,Qy,Y14⟩
end Hk
