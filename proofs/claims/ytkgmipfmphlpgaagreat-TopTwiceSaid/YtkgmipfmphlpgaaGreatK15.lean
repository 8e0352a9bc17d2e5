/- A part of the proof of TopTwice. No condition but each statement's own. -/
import Derived.Test.YtkgmipfmphlpgaaGreatK10
import Derived.Test.YtkgmipfmphlpgaaGreatK14
open Go Go.RowKit Go.Proofs
set_option linter.all false
set_option maxRecDepth 100000
set_option maxHeartbeats 20000000
namespace Hk
theorem Q12m (d:Df)(w:World):Calls Tryz.prog 36 #[.agg #[.bool d.hash,.int .i64 d.key,.int .i64 d.val,.int .i64 d.max]] w (RB.a w (.bool (Co.mayB d))):=by
 have hrem:RowKit.wrap64 (d.val.tmod 8)=d.val.tmod 8:=by
  have h1:=Int.tmod_lt_of_pos d.val (b:=8) Y1;have h2:-8<d.val.tmod 8:=by have:=Int.neg_tmod d.val 8;have h3:=Int.tmod_lt_of_pos (-d.val) (b:=8) Y1;omega
  exact IntWalk.wrap64_in _ Y1
 cases h:d.hash
 case' false=>cases k4:(d.key==4)
 case' false.true=>cases v1:decide (8≤d.val)
 case' false.true.true=>cases v2:decide (d.val≤64)
 case' false.true.true.true=>cases v3:(d.val.tmod 8==0)
 case' false.true.true.true.true=>cases m1:decide (1≤d.max)
 case' false.true.true.true.true.true=>cases m2:decide (d.max≤16)
 case' true=>cases k1:decide (1≤d.key)
 case' true.true=>cases k2:decide (d.key≤16)
 case' true.true.true=>cases v1:decide (8≤d.val)
 case' true.true.true.true=>cases v2:decide (d.val≤64)
 case' true.true.true.true.true=>cases v3:(d.val.tmod 8==0)
 case' true.true.true.true.true.true=>cases m1:decide (1≤d.max)
 case' true.true.true.true.true.true.true=>cases m2:decide (d.max≤16)
 all_goals
  go_enter Tryz.func36,Tryz.ntmps36;go_wp2;go_ret;exact⟨by simp[Co.mayB,Co.keyB, *],Yb⟩
theorem Q16p (d:Df)(w:World):Calls Tryz.prog 35 #[.agg #[.bool d.hash,.int .i64 d.key,.int .i64 d.val,.int .i64 d.max]] w (RB.a w (.bool (!Co.mayB d))):=by
 go_enter Tryz.func35,Tryz.ntmps35;go_wp2_with (go_at_call 36;refine Y3y ?_;intro w1 hb1);go_ret;exact⟨rfl,Yb⟩
theorem Q12n (p:Option Addr)(c:Nat)(ds:List Df)(w:World)(hD:Q1s w p ds)(hn:ds.length≤100000):Calls Tryz.prog 55 #[.slice p ds.length c,.func (.func 35) #[] #[]] w (RB.a w (.int .i64 (Co.idxD ds))):=by
 go_enter Tryz.func55,Tryz.ntmps55;go_wp2
 go_loopw [8] (fun s8 wr=>∃ k:Nat,k≤ds.length∧s8=.int .i64 k∧Hid (∀ j,j<k→Co.mayB (ds.getD j ⟨false,0,0,0⟩)=true)∧Below w.heap.size w wr) (fun s8 _=>ds.length - (intOf s8).toNat)
 case atStart =>
  exact⟨0,Y1,rfl,Lib.hid (fun j hj=>Y1),Below.refl _ _⟩
 case round =>
  obtain⟨k,hk,rfl,hup,hB⟩:=hrel;have hzB:=hB.size;by_cases hlt:k<ds.length
  · obtain⟨b,q,rfl,d0,d1,d2,d3⟩:=(hD.keep hB) k hlt
    have ex:ds.getD k ⟨false,0,0,0⟩=ds[k]:=Yf6;have EX:=Lib.hid ex;clear ex;generalize ds[k]=d at *;cases hm:Co.mayB d
    · have EI:=Lib.hid (Co.idxD_some hlt hup.out (by rw[EX.out];exact hm)).1
      have HM:=Lib.hid hm;clear hm;go_wp2_with (go_at_call 35;refine Y3z ?_;intro w1 hb1);go_ret;exact⟨by rw[EI.out];rfl,Yb⟩
    · have HM:=Lib.hid hm;clear hm
      go_wp2_with (go_at_call 35;refine Y3z ?_;intro w1 hb1)
      go_roundw
      case rel=>exact⟨k+1,Y1,Yf1,Lib.hid (fun j hj=>if e:j=k then (by subst e;rw[EX.out];exact HM.out) else hup.out j Y1),Yb⟩
      case measure=>simp[intOf];omega
  · obtain rfl:k=ds.length:=by omega
    have EI:=Lib.hid (Co.idxD_none hup.out).1;go_wp2;go_ret;exact⟨by rw[EI.out];rfl,hB⟩
theorem Qwp (p:Option Addr)(c:Nat)(ds:List Df)(w:World)(hD:Q1s w p ds)(hn:ds.length≤100000):Calls Tryz.prog 34 #[.slice p ds.length c,.func (.func 35) #[] #[]] w (RB.a w (.bool (!ds.all Co.mayB))):=by
 have EI:=Lib.hid (Co.idxD_all ds);generalize ds.all Co.mayB=r at EI ⊢;go_enter Tryz.func34,Tryz.ntmps34;go_wp2_with (go_at_call 55;refine Y40 ?_;intro w1 hb1);go_ret;exact⟨by rw[← EI.out];rfl,Yb⟩
theorem Qwo (p:Option Addr)(c:Nat)(ds:List Df)(w:World)(hD:Q1s w p ds)(hn:ds.length≤1000000000):Calls Tryz.prog 21 #[.slice p ds.length c] w (RB.a w (.bool (Co.defsB ds))):=by
 by_cases h8:ds.length≤8
 · have q:decide ((ds.length:Int)≤8)=true:=by simp;omega
   have EI:=Lib.hid (show Co.defsB ds=ds.all Co.mayB by unfold Co.defsB;simp[h8]);rw[EI.out];generalize hr:ds.all Co.mayB=r;have HR:=Lib.hid hr;clear hr;go_enter Tryz.func21,Tryz.ntmps21;go_wp2_with (go_at_call 34;refine Y41 ?_;intro w1 hb1);go_ret;exact⟨by simp,Yb⟩
 · have q:decide ((ds.length:Int)≤8)=false:=by simp;omega
   have EI:=Lib.hid (show Co.defsB ds=false by unfold Co.defsB;simp[h8]);rw[EI.out];clear h8;go_enter Tryz.func21,Tryz.ntmps21;go_wp2;go_ret;exact⟨rfl,Yb⟩
theorem Qd3 (p:Option Addr)(c:Nat)(ds:List Df)(ctx:Int)(w:World)(hD:Q1s w p ds)(hn:ds.length≤1000000000):Calls Tryz.prog 11 #[.agg #[.slice p ds.length c,.int .i64 ctx]] w (RB.a w (.bool (Co.givenB ds ctx))):=by
 have EG:Co.givenB ds ctx=(Co.defsB ds && decide (0≤ctx) && decide (ctx≤64)):=rfl;rw[EG];clear EG;generalize hr:Co.defsB ds=r;have HR:=Lib.hid hr;clear hr;cases r<;>cases h1:decide (0≤ctx)<;>cases h2:decide (ctx≤64)
 all_goals
  go_enter Tryz.func11,Tryz.ntmps11;go_wp2_with (go_at_call 21;refine Y42 ?_;intro w1 hb1 hc1 hf1 hz1);go_ret;exact⟨rfl,Yb⟩
end Hk
namespace Hk
theorem Qoc:(Tryz.prog.info? 93).map (fun i=>(i.size,i.bytes,i.zero.map (·.cells.size)))=some (590,4720,some 590):=Yc
theorem Q4k:∃ it z,Tryz.prog.info? 93=some it∧it.size=590∧it.bytes=4720∧it.zero=some z∧z.cells.size=590:=by
 have h:=Qoc;cases hi:Tryz.prog.info? 93 with
 | none=>rw[hi] at h;cases h
 | some it =>
   exact Yna
theorem Qlb (n:Int)(s:St):Tryz.prog.built 93 [(0,.int .i64 n),(1,.agg s.cells)]=some (Q2n n s):=by
 obtain⟨it,z,h1,h2,h3,h4,h5⟩:=Q4k;rw[Q32 (places:=[(0,1),(1,589)]) h1 Tryz.underlying93 h4 Yc];exact Qs2 _ h5 n s
theorem Q4m (w:World)(n:Int)(s:St):(Instr.build 93 #[(0,.int .i64 n),(1,.agg s.cells)]).run Tryz.prog w=.ok (.agg (Q2n n s)) w:=run_build w _ _ _ (Qlb n s)
theorem Q6g {op:Oper}{a:Act}{C:World→Prop}{K:Act→Prop}{x y:Operand}{n:Int}{s:St}(ho:op.op=.build 93 #[(0,x),(1,y)])(hx:a.eval x=.int .i64 n)(hy:a.eval y=.agg s.cells)
 (hk:K (a.put op.dst (.agg (Q2n n s)))):op.quiet Tryz.prog a C K :=
 Qt (v:=.agg (Q2n n s)) (fun w hC=>by
  unfold Oper.quietAt
  have e:(execOp a.eval op).run Tryz.prog w=.ok (.value (.agg (Q2n n s))) w:=by
   obtain⟨dst,op,type,pos,after,guard⟩:=op;simp only at ho;subst ho;simp[execOp,hx,hy,Q4m,Result.andThen]
  rw[e];exact⟨rfl,rfl⟩) hk
theorem Q5e {ops:Array Oper}{rest:List Oper}{o:Oper}{a:Act}{w:World}{Q:Exit→Act→World→Prop}(hg:o.guard=none)(x:Operand)(ho:o.op=.buildSlice 95 1 #[(0,x)])(n:Int)(s:St)(hx:a.eval x=.agg (Q2n n s))
 (h:wpList Tryz.prog ops Q rest (a.put o.dst (.slice (some ⟨w.heap.size,0,none⟩) 1 1)) (w.alloc (.cells (Q2n n s) 93))):wpList Tryz.prog ops Q (o :: rest) a w:=by
 obtain⟨it,z,h1,h2,h3,h4,h5⟩:=Q4k;refine wpList_buildSlice hg 95 93 1 _ ho (Q2n n s) it z Tryz.underlying95 h1 h4 Y12 Y12 ?_ h;have:=Great.fill_whole (s:=590) Y0 [Value.agg (Q2n n s)] ((Array.range (1*it.size)).map (z.cells[· % z.cells.size]!)) (fun v hv=>by simp only[List.mem_cons,List.not_mem_nil,or_false] at hv;subst hv;exact Q1y n s) (by simp[h2]);rw[h2] at this ⊢;simp only[List.zipIdx_cons,List.zipIdx_nil,List.map_cons,List.map_nil] at this;simp only[List.map_toArray,List.map_cons,List.map_nil,hx];rw[this];simp[Value.cells]
theorem Q95 (ρ:Operand→Value)(op:Oper)(x:Operand)(g:Nat)(s:St)(ho:op.op=.load 90 x)(hx:ρ x=.pointer (some ⟨g,0,none⟩))(w:World)(h0:blk w g=s.cells) :
 (execOp ρ op).run Tryz.prog w=.ok (.value (.agg s.cells)) w:=by
 obtain⟨dst,op,type,pos,after,guard⟩:=op;simp only at ho;subst ho;have h1:=Qu (P:=Tryz.prog) w 90 g 0 589 (Tryz.isAgg90 w) (Tryz.sizeOf90 w) (by rw[h0,s.cells_size];omega);rw[h0,Nat.zero_add,show s.cells.extract 0 589=s.cells by rw[← s.cells_size];simp] at h1;simp[execOp,hx,Sem.run_bind,Result.andThen,Instr.loadAt,Instr.sureAddr,h1]
theorem Q33 {op:Oper}{a:Act}{C:World→Prop}{K:Act→Prop}{x:Operand}{g:Nat}{s:St}(ho:op.op=.load 90 x)(hx:a.eval x=.pointer (some ⟨g,0,none⟩))
 (h:∀ w,C w→blk w g=s.cells) (hk:K (a.put op.dst (.agg s.cells))):op.quiet Tryz.prog a C K :=
 Qt (v:=.agg s.cells) (fun w hC=>by unfold Oper.quietAt;rw[Q95 _ op x g s ho hx w (h w hC)];exact⟨rfl,rfl⟩) hk
theorem Qbd (ρ:Operand→Value)(op:Oper)(x:Operand)(b o:Nat)(c0:Value)(ho:op.op=.load 29 x)(hx:ρ x=.pointer (some ⟨b,o,none⟩))(w:World)(h0:w.cell? ⟨b,o,none⟩=some c0) :
 (execOp ρ op).run Tryz.prog w=.ok (.value (c0)) w:=by
 obtain⟨dst,op,type,pos,after,guard⟩:=op;simp only at ho;subst ho
 go_simp
theorem Q16 {op:Oper}{a:Act}{C:World→Prop}{K:Act→Prop}{x:Operand}{b o:Nat}{c0:Value}(ho:op.op=.load 29 x)(hx:a.eval x=.pointer (some ⟨b,o,none⟩))
 (h:∀ w,C w→w.cell? ⟨b,o,none⟩=some c0) (hk:K (a.put op.dst (c0))):op.quiet Tryz.prog a C K :=
 Qt (v:=c0) (fun w hC=>by unfold Oper.quietAt;have h0:=h w hC;rw[Qbd _ op x b o c0 ho hx w h0];exact⟨rfl,rfl⟩) hk
def WoC (pb g:Nat)(X:Sx)(t:St)(w:World)(w':World):Prop:=w'.cell? ⟨g,0,none⟩=some (.slice (some ⟨X.b,0,none⟩) X.l.length X.c)∧w'.cell? ⟨g,3,none⟩=some (.int .i64 X.at_)∧Q1e w' g X∧blk w' pb=t.cells∧Below w.heap.size w w'
theorem Qti {pb g:Nat}{X:Sx}{t:St}{w:World}:KC (WoC pb g X t w):=by
 intro w' w1 h hb;obtain⟨k0,k1,k2,k3,k4⟩:=h;exact⟨Q0 hb k0,Q0 hb k1,(k2).keep hb,Q12 hb k3 Y13,Q8 k4 hb⟩
theorem Q126 (g:Nat)(X:Sx)(t:St)(w:World)(hX:Q1e w g X)(hlen:X.l.length≤100000)(hlt:X.at_<X.l.length):Calls Tryz.prog 110 #[.pointer (some ⟨g,0,none⟩),.agg t.cells] w (fun e w'=>∃ v,e=.returned v∧w'.ownsRow w.heap.size 93 590 v 1 (Q1p [Co.onW X t])∧Below w.heap.size w w'):=by
 obtain⟨a0,a1,a2,a3,-⟩:=hX.cells;have zg:=hX.lt;go_enter Tryz.func110,Tryz.ntmps110;go_wp2;refine Q4 (WoC w.heap.size g X t w) 11 Yc Yc ?_ ?_
 · exact Yn8
 refine Yv4 ?_;intro hN;simp only[List.take_succ_cons,List.take_zero,List.drop_succ_cons,List.drop_zero]
 repeat (first
  | go_big_quiet_skip
  | (go_big_quiet_want
     first
      | ((first|(refine Q6g rfl rfl rfl ?_)|(refine Q33 rfl rfl (fun w' hC=>Yfw) ?_)|(refine Q16 rfl rfl (fun w' hC=>Yfw) ?_)|(refine Q3 rfl rfl (fun w' hC=>Yfw) ?_))
         simp only[Act.put,List.setIfInBounds_toArray,List.set_cons_succ,List.set_cons_zero]
         go_big_quiet_on)
      | (go_big_quiet_op
         first
          | go_big_quiet_on
          | (apply Exists.intro
             refine⟨fun w' hC=>?_,?_⟩
             · (first|(have hC2:=hC;obtain⟨-,-,k2,-,-⟩:=hC2;go_at_call 31;(with_reducible refine (Q5k _ _ _ _ _ (k2:Q1e w' g X).ins hlen hlt).mono ?_);rintro e w1 ⟨rfl,hb1⟩))
               (try simp only[id]);exact⟨rfl,by first|exact hC|exact Qti _ _ hC hb1⟩
             go_big_quiet_on))))
 refine wpQuiet_nil ?_;intro w9 hC;obtain⟨k0,k1,k2,k3,k4⟩:=hC;have z0:=Q1 k0;have hz9:=k4.size;refine Q5e rfl (.tmp 15) rfl _ t rfl ?_;go_wp2;go_ret;refine⟨_,rfl,Q65 590 1 rfl ?_ ?_ ?_ Y0,Y14⟩
 · simp[Q1p,Co.onW]
 · have:=k4.size;omega
 · rw[Q5p];rfl
end Hk
namespace Hk
attribute [-go_sem] Qm
attribute [go_sem] Sx.cells_size Sx.cells_st
theorem Q16q (X:Sx):¬ X.cells=#[]:=by intro h;have:=X.cells_size;rw[h] at this;simp at this
attribute [go_sem] Q16q
@[go_sem] theorem Q1v (w:World)(b:Nat)(h:(blk w b).size=604):Sem.run Tryz.prog (ldS (.pointer (some ⟨b,15,none⟩))) w=.ok (.agg ((blk w b).extract 15 604)) w:=by
 simp only[ldS,Instr.loadAt,Instr.sureAddr,Sem.run_bind,Sem.run_pure,Result.andThen];exact Qu w _ b 15 589 (Tryz.isAgg90 w) (Tryz.sizeOf90 w) Y1
def WbC (pb sb g d:Nat)(X:Sx)(v:Vl)(w:World)(w':World):Prop:=w'.cell? ⟨g,5,none⟩=some (.int .u8 (d:Nat))∧CVl.a w' pb v (Q1e w' g X∧blk w' sb=X.s.cells∧(∀ i,w'.frozen? ⟨sb,i,none⟩=false)∧Below w.heap.size w w')
theorem Qtu {pb sb g d:Nat}{X:Sx}{v:Vl}{w:World}:KC (WbC pb sb g d X v w):=by
 intro w' w1 h hb;obtain⟨k0,k1,k2,k3,k4,k5,k6,k7,k8,k9,k10,k11⟩:=h;exact⟨Q0 hb k0,Q0 hb k1,Q0 hb k2,Q0 hb k3,Q0 hb k4,Q0 hb k5,Q0 hb k6,Q0 hb k7,(k8).keep hb,Q12 hb k9 Y13,fun i=>by rw[hb.frozen (p:=⟨sb,i,none⟩) (Q1o (by rw[k9,St.cells_size];decide))];exact k10 i,Q8 k11 hb⟩
theorem Qi1 (g:Nat)(X:Sx)(v:Vl)(e:Int)(w:World)(hX:Q1e w g X)(hlen:X.l.length≤100000)(hlt:X.at_<X.l.length)(hd:X.x.dst.toNat<11):Calls Tryz.prog 86 #[.pointer (some ⟨g,0,none⟩),v,.int .i64 e] w (fun en w'=>∃ vv,en=.returned (.tuple #[vv,.int .i64 (e)])∧w'.ownsRow w.heap.size 93 590 vv (Co.becW X v e).length (Q1p (Co.becW X v e))∧Below w.heap.size w w'):=by
 refine Yvt ?_;intro zg hXb;obtain⟨a0,a1,a2,a3,a4,a5,-⟩:=hX.cells;cases he:(e==0)
 · have hne:(e != 0)=true:=by simp only[bne,he];rfl
   have EE:=Lib.hid (show Co.becW X v e=[] by unfold Co.becW;rw[he];rfl);rw[EE.out];go_enter Tryz.func86,Tryz.ntmps86;go_wp2;go_ret2;exact⟨_,rfl,Qy,Y14⟩
 · have EE:=Lib.hid (show Co.becW X v e=[Co.onW X (X.s.setR X.x.dst.toNat v)] by unfold Co.becW;rw[he];rfl)
   rw[EE.out];clear EE;obtain rfl:e=0:=by simpa using he
   have eD:N8 X.x.dst=((X.x.dst.toNat:Nat):Int):=rfl;rw[eD] at a5;generalize X.x.dst.toNat=d at *;refine Yvf ?_;intro zst hzst hzc;go_enter Tryz.func86,Tryz.ntmps86;go_wp2;refine Q4 (WbC w.heap.size (w.heap.size+1) g d X v w) 8 Yc Yc ?_ ?_
   · exact Ymy
   refine Yv4 ?_;intro hN;simp only[List.take_succ_cons,List.take_zero,List.drop_succ_cons,List.drop_zero]
   repeat (first
    | go_big_quiet_skip
    | (go_big_quiet_want
       first
        | ((first|(refine Qn rfl rfl (fun w' hC=>Yfy) ?_)|(refine Q5 rfl rfl (fun w' hC=>Yfz) ?_))
           simp only[Act.put,List.setIfInBounds_toArray,List.set_cons_succ,List.set_cons_zero]
           go_big_quiet_on)
        | (go_big_quiet_op
           first
            | go_big_quiet_on
            | (apply Exists.intro
               refine⟨fun w' hC=>?_,?_⟩
               · (first|fail)
                 (try simp only[id]);exact⟨rfl,by first|exact hC|exact Qtu _ _ hC hb1⟩
               go_big_quiet_on))))
   refine wpQuiet_nil ?_;intro w9 hC;obtain⟨k0,k1,k2,k3,k4,k5,k6,k7,k8,k9,k10,k11⟩:=hC;refine Yvn ?_;intro z0 z1;go_wp2_with (go_at_call 110;refine Y44 ?_;intro w3 v3 hown3 hb3 hc3 hf3 hz3 hk3);go_ret2;exact⟨_,rfl,Q1a hown3 Y15,Y14⟩
end Hk
namespace Hk
attribute [-go_sem] Qm
attribute [go_sem] Q1v
def ldW (x:Value):Sem Value:=Instr.loadAt 93 x
@[go_sem ↓] theorem Q18u (x:Value):Instr.loadAt 93 x=ldW x:=rfl
def stW (x v:Value):Sem Unit:=Instr.storeAt 93 x v
@[go_sem ↓] theorem Q18d (x v:Value):Instr.storeAt 93 x v=stW x v:=rfl
theorem Qbn {w:World}{g o:Nat}{F:Nat→Value}(h:∀ j,j<590→w.cell? ⟨g,o+j,none⟩=some (F j)):Sem.run Tryz.prog (ldW (.pointer (some ⟨g,o,none⟩))) w=.ok (.agg (Q26 590 F)) w:=by
 simp only[ldW,Instr.loadAt,Instr.sureAddr,Sem.run_bind,Sem.run_pure,Result.andThen];exact Q2z Y1 (Tryz.isAgg93 w) (Tryz.sizeOf93 w) h
@[go_sem] theorem Q17p (w:World)(b:Nat)(c:Array Value)(h:(blk w b).size=590)(hc:c.size=590)(h1:Q22 c)(hf:∀ k,w.frozen? ⟨b,k,none⟩=false):Sem.run Tryz.prog (stW (.pointer (some ⟨b,0,none⟩)) (.agg c)) w=.ok () (w.setRow b c):=by
 simp only[stW,Instr.storeAt,Instr.sureAddr,Sem.run_bind,Sem.run_pure,Result.andThen];rw[Q1f w _ b 0 590 c (Tryz.sizeOf93 w) hc h1 Y1 hf]
 congr 2
 unfold Q23;rw[h,hc];apply Array.ext_getElem?;intro k;rw[Qj];by_cases hk:k<590
 · exact Yr4
 · rw[if_neg hk,Array.getElem?_eq_none Y1]
theorem Q7a:(Tryz.zeroCells93).size=590:=Yc
def ldF (x:Value):Sem Value:=Instr.loadAt 97 x
@[go_sem ↓] theorem Q190 (x:Value):Instr.loadAt 97 x=ldF x:=rfl
def stF (x v:Value):Sem Unit:=Instr.storeAt 97 x v
@[go_sem ↓] theorem Q18h (x v:Value):Instr.storeAt 97 x v=stF x v:=rfl
theorem Qbq {w:World}{g o:Nat}{F:Nat→Value}(h:∀ j,j<591→w.cell? ⟨g,o+j,none⟩=some (F j)):Sem.run Tryz.prog (ldF (.pointer (some ⟨g,o,none⟩))) w=.ok (.agg (Q26 591 F)) w:=by
 simp only[ldF,Instr.loadAt,Instr.sureAddr,Sem.run_bind,Sem.run_pure,Result.andThen];exact Q2z Y1 (Tryz.isAgg97 w) (Tryz.sizeOf97 w) h
@[go_sem] theorem Q17q (w:World)(b:Nat)(c:Array Value)(h:(blk w b).size=591)(hc:c.size=591)(h1:Q22 c)(hf:∀ k,w.frozen? ⟨b,k,none⟩=false):Sem.run Tryz.prog (stF (.pointer (some ⟨b,0,none⟩)) (.agg c)) w=.ok () (w.setRow b c):=by
 simp only[stF,Instr.storeAt,Instr.sureAddr,Sem.run_bind,Sem.run_pure,Result.andThen];rw[Q1f w _ b 0 591 c (Tryz.sizeOf97 w) hc h1 Y1 hf]
 congr 2
 unfold Q23;rw[h,hc];apply Array.ext_getElem?;intro k;rw[Qj];by_cases hk:k<591
 · exact Yr4
 · rw[if_neg hk,Array.getElem?_eq_none Y1]
theorem Qep:(Tryz.zeroCells97).size=591:=Yc
theorem Qoe (n:Int)(s:St):Q22 (Q2n n s):=by
 unfold Q22;rw[Array.all_eq_true];intro k hk;have h2:(Q2n n s)[k]?=some (Q7q n s k):=by unfold Q2n;rw[Qj,if_pos Yq]
 exact Yru
theorem Qvy (n:Int)(s:St):¬ Q2n n s=#[]:=Yg0
attribute [go_sem] Q1y Qoe Qvy Qap Qi4
theorem Qob (w:World)(zw:Array Value)(T:TypeId)(n:Int)(s:St)(hz:zw.size=590):((w.alloc (.cells zw T)).setRow w.heap.size (Q2n n s)).cell? ⟨w.heap.size,0,none⟩=some (.int .i64 n):=by
 have hb:blk (w.alloc (.cells zw T)) w.heap.size=zw:=Yg1;rw[Q2h,if_pos rfl,if_neg (by rw[hb,hz];decide)];exact Qap n s
theorem nat_beq (a b:Nat):((a:Int)==(b:Int))=(a==b):=by rw[Bool.eq_iff_iff,beq_iff_eq,beq_iff_eq];omega
theorem Qbo {w:World}{g o:Nat}{n:Int}{s:St}(h:∀ j,j<590→w.cell? ⟨g,o+j,none⟩=some (Q7q n s j)):Sem.run Tryz.prog (ldW (.pointer (some ⟨g,o,none⟩))) w=.ok (.agg (Q2n n s)) w:=Qbn h
theorem Qxj {w:World}{B:Nat}{e:TypeId}{v:Value}{ws:List Wy}(h:w.ownsRow B e 590 v ws.length (Q1p ws)){k:Nat}(hk:k<ws.length):∃ g cap,v=.slice (some ⟨g,0,none⟩) ws.length cap∧g<w.heap.size∧B≤g∧ws.length≤cap∧cap≤maxLen∧∀ j,j<590→w.cell? ⟨g,k*590+j,none⟩=some (Q7q ws[k].at_ ws[k].s j):=by
 obtain⟨g,cap,hv,hB,hg,hn,hm,hc,hf⟩:=Q1h h Y1;exact⟨g,cap,hv,hg,hB,hn,hm,fun j hj=>hc _ _ (Q4j ws k hk j hj)⟩
end Hk
namespace Hk
attribute [-go_sem] Qm
theorem Qf5:(Tryz.prog.info? 90).map (fun i=>(i.size,i.bytes,i.zero.map (·.cells.size)))=some (589,4712,some 589):=Yc
theorem Q6d:∃ it z,Tryz.prog.info? 90=some it∧it.size=589∧it.bytes=4712∧it.zero=some z∧z.cells.size=589:=by
 have h:=Qf5;cases hi:Tryz.prog.info? 90 with
 | none=>rw[hi] at h;cases h
 | some it =>
   exact Yna
theorem Qgo {o:Oper}{a:Act}(w:World)(x:Operand)(ho:o.op=.buildSlice 118 1 #[(0,x)])(t:St)(hx:a.eval x=.agg (t.cells)):(execOp a.eval o).run Tryz.prog w=.ok (.value (.slice (some ⟨w.heap.size,0,none⟩) 1 1)) (w.alloc (.cells (t.cells) 90)):=by
 obtain⟨it,z,h1,h2,h3,h4,h5⟩:=Q6d;have hf:=Great.fill_whole (s:=589) Y0 [Value.agg (t.cells)] ((Array.range (1*it.size)).map (z.cells[· % z.cells.size]!)) (fun v hv=>by simp only[List.mem_cons,List.not_mem_nil,or_false] at hv;subst hv;exact St.cells_size _) (by simp[h2]);have hrun:=run_buildSlice (P:=Tryz.prog) w 118 90 1 #[(0,.agg (t.cells))] (t.cells) it z Tryz.underlying118 h1 h4 Y12 Y12 Y16;simp[execOp,ho,hx,hrun,Result.andThen]
theorem Q5i {o:Oper}{a:Act}{R:Nat × Nat→World→Prop}{V:Nat × Nat→Value}(w:World)(s x:Operand)
 (ho:o.op=.call { callee:=.builtin .append,args:=#[s,x],argTypes:=#[118,118] }) (B n:Nat) (hV:∀ c,V c=.slice (some ⟨c.1,0,none⟩) (n+1) c.2) (xs:List Value) (v:Value) (hs:a.eval s=v) (hown:w.ownsRow B 90 589 v n xs) (gb:Nat) (t:St)
 (hx:a.eval x=.slice (some ⟨gb,0,none⟩) 1 1) (hb:blk w gb=t.cells) (h1':Q22 (t.cells)) (hl:n≤5000) (hB:B≤w.heap.size)
 (h:∀ g c w',w'.ownsRow B 90 589 (.slice (some ⟨g,0,none⟩) (n+1) c) (n+1) (xs++(t.cells).toList)→w.grownBy w' v.ownBlock→(some g=v.ownBlock∨w.heap.size≤g)→R (g,c) w') :
 ∃ c w',(execOp a.eval o).run Tryz.prog w=.ok (.value (V c)) w'∧R c w':=by
 obtain⟨it,z,h1,h2,h3,h4,h5⟩:=Q6d
 obtain⟨v',w',hrun,r1,r2,r3⟩:=Q2s (P:=Tryz.prog) w B 118 o.type 90 it z 589 4712 Tryz.underlying118 h1 h4 h2 h3 h5 Y0 v n xs hown ⟨gb,0,none⟩ 1 1 (t.cells).toList (by rw[Array.length_toList];exact St.cells_size _) (fun j u hu=>by rw[Q7k,Q1b,hb];simpa using hu) (fun u hu=>by
  unfold Q22 at h1';rw[Array.all_eq_true'] at h1'
  exact h1' u (by simpa using hu)) Yk Y1 hB
 obtain⟨g,c,rfl,-⟩:=Q1h r1 Y1;refine⟨(g,c),w',?_,h g c w' r1 r2 (r3 g rfl)⟩;rw[hV];simp only[execOp,ho,resolve,invoke,builtin,hs,hx,List.map_toArray,List.map_cons,List.map_nil,Sem.run_bind,Sem.run_pure,hrun,Result.andThen_ok]
theorem Qgk:(Tryz.prog.info? 97).map (fun i=>(i.size,i.bytes,i.zero.map (·.cells.size)))=some (591,4744,some 591):=Yc
theorem Q4b:∃ it z,Tryz.prog.info? 97=some it∧it.size=591∧it.bytes=4744∧it.zero=some z∧z.cells.size=591:=by
 have h:=Qgk;cases hi:Tryz.prog.info? 97 with
 | none=>rw[hi] at h;cases h
 | some it =>
   exact Yna
theorem Qgp {o:Oper}{a:Act}(w:World)(x:Operand)(ho:o.op=.buildSlice 58 1 #[(0,x)])(fm:Fm)(lv:Value)(hx:a.eval x=.agg (frC fm lv)):(execOp a.eval o).run Tryz.prog w=.ok (.value (.slice (some ⟨w.heap.size,0,none⟩) 1 1)) (w.alloc (.cells (frC fm lv) 97)):=by
 obtain⟨it,z,h1,h2,h3,h4,h5⟩:=Q4b;have hf:=Great.fill_whole (s:=591) Y0 [Value.agg (frC fm lv)] ((Array.range (1*it.size)).map (z.cells[· % z.cells.size]!)) (fun v hv=>by simp only[List.mem_cons,List.not_mem_nil,or_false] at hv;subst hv;exact Q2g _ _) (by simp[h2]);have hrun:=run_buildSlice (P:=Tryz.prog) w 58 97 1 #[(0,.agg (frC fm lv))] (frC fm lv) it z Tryz.underlying58 h1 h4 Y12 Y12 Y16;simp[execOp,ho,hx,hrun,Result.andThen]
theorem Q5j {o:Oper}{a:Act}{R:Nat × Nat→World→Prop}{V:Nat × Nat→Value}(w:World)(s x:Operand)
 (ho:o.op=.call { callee:=.builtin .append,args:=#[s,x],argTypes:=#[58,58] }) (B n:Nat) (hV:∀ c,V c=.slice (some ⟨c.1,0,none⟩) (n+1) c.2) (xs:List Value) (v:Value) (hs:a.eval s=v) (hown:w.ownsRow B 97 591 v n xs) (gb:Nat) (fm:Fm) (lv:Value)
 (hx:a.eval x=.slice (some ⟨gb,0,none⟩) 1 1) (hb:blk w gb=frC fm lv) (h1':Q22 (frC fm lv)) (hl:n≤5000) (hB:B≤w.heap.size)
 (h:∀ g c w',w'.ownsRow B 97 591 (.slice (some ⟨g,0,none⟩) (n+1) c) (n+1) (xs++(frC fm lv).toList)→w.grownBy w' v.ownBlock→(some g=v.ownBlock∨w.heap.size≤g)→R (g,c) w') :
 ∃ c w',(execOp a.eval o).run Tryz.prog w=.ok (.value (V c)) w'∧R c w':=by
 obtain⟨it,z,h1,h2,h3,h4,h5⟩:=Q4b
 obtain⟨v',w',hrun,r1,r2,r3⟩:=Q2s (P:=Tryz.prog) w B 58 o.type 97 it z 591 4744 Tryz.underlying58 h1 h4 h2 h3 h5 Y0 v n xs hown ⟨gb,0,none⟩ 1 1 (frC fm lv).toList (by rw[Array.length_toList];exact Q2g _ _) (fun j u hu=>by rw[Q7k,Q1b,hb];simpa using hu) (fun u hu=>by
  unfold Q22 at h1';rw[Array.all_eq_true'] at h1'
  exact h1' u (by simpa using hu)) Yk Y1 hB
 obtain⟨g,c,rfl,-⟩:=Q1h r1 Y1;refine⟨(g,c),w',?_,h g c w' r1 r2 (r3 g rfl)⟩;rw[hV];simp only[execOp,ho,resolve,invoke,builtin,hs,hx,List.map_toArray,List.map_cons,List.map_nil,Sem.run_bind,Sem.run_pure,hrun,Result.andThen_ok]
theorem Qyi (f:Fm)(v:Value)(hv:v.oneCell'=true)(k:Nat)(h:k<591):(frF f v k).oneCell'=true:=by
 unfold frF;split
 · rfl
 · split
   · exact f.s.cell_one _ Y1
   · exact hv
theorem Qkf (f:Fm)(v:Value)(hv:v.oneCell'=true):Q22 (frC f v):=by
 unfold Q22;rw[Array.all_eq_true];intro k hk;have h2:(frC f v)[k]?=some (frF f v k):=by unfold frC;rw[Qj,if_pos (by rw[Q2g] at hk;exact hk)]
 rw[Array.getElem?_eq_getElem hk] at h2;rw[Option.some.inj h2];exact Qyi _ _ hv _ (by rw[Q2g] at hk;exact hk)
theorem Qgn (z:Array Value)(hz:z.size=591)(fm:Fm)(v:Value)(hv:v.cells=#[v]):Instr.fill ([(0,1),(1,589),(590,1)].toArray[·]?) z [(0,.int .i64 (fm.at_:Nat)),(1,.agg fm.s.cells),(2,v)]=some (frC fm v):=by
 rw[Q1n (off:=0) (n:=1) rfl rfl Y1,Q1n (off:=1) (n:=589) rfl (by simp only[Value.cells];exact fm.s.cells_size) (by rw[Qp];omega),Q1n (off:=590) (n:=1) rfl (by rw[hv];rfl) (by rw[Qp,Qp];omega)];unfold Instr.fill;refine congrArg some ?_;unfold Q23 frC;rw[Qr,Qr,hz,hv];refine Qx fun k hk=>?_
 have e1:(Value.agg fm.s.cells).cells=fm.s.cells:=rfl;have e2:(Value.int .i64 (fm.at_:Nat)).cells=#[Value.int .i64 (fm.at_:Nat)]:=rfl;rw[e1,e2,fm.s.cells_size];unfold frF;by_cases h0:k=0
 · subst h0
   rw[if_neg Y3,Q13 Y1,if_neg Y1,Q13 Y1,if_pos rfl,if_pos Y3];rfl
 · by_cases h1:k<590
   · rw[if_neg Y4,Q13 Y1,if_pos Y1,if_neg h0,if_pos h1]
     unfold St.cells;rw[Q13 Y1]
   · obtain rfl:k=590:=by omega
     rw[if_pos Y3,if_neg Y1,if_neg Y1];rfl
theorem Qco (fm:Fm)(v:Value)(hv:v.cells=#[v]):Tryz.prog.built 97 [(0,.int .i64 (fm.at_:Nat)),(1,.agg fm.s.cells),(2,v)]=some (frC fm v):=by
 obtain⟨it,z,h1,h2,h3,h4,h5⟩:=Q4b;rw[Q32 (places:=[(0,1),(1,589),(590,1)]) h1 Tryz.underlying97 h4 Yc];exact Qgn _ h5 fm v hv
theorem Q3a {op:Oper}{a:Act}{C:World→Prop}{K:Act→Prop}{x y z:Operand}{fm:Fm}{v:Value}(ho:op.op=.build 97 #[(0,x),(1,y),(2,z)])(hx:a.eval x=.int .i64 (fm.at_:Nat))(hy:a.eval y=.agg fm.s.cells)(hz:a.eval z=v)(hv:v.cells=#[v])
 (hk:K (a.put op.dst (.agg (frC fm v)))):op.quiet Tryz.prog a C K :=
 Qt (v:=.agg (frC fm v)) (fun w hC=>by
  unfold Oper.quietAt
  have e:(execOp a.eval op).run Tryz.prog w=.ok (.value (.agg (frC fm v))) w:=by
   obtain⟨dst,op,type,pos,after,guard⟩:=op;simp only at ho;subst ho;have h:=run_build (P:=Tryz.prog) w 97 _ _ (Qco fm v hv);(try simp only[List.toArray] at h);simp[execOp,hx,hy,hz,h,Result.andThen]
  rw[e];exact⟨rfl,rfl⟩) hk
theorem Qxf {w:World}{g o:Nat}{f:Fm}{v:Value}(h:∀ j,j<591→w.cell? ⟨g,o+j,none⟩=some (frF f v j)):Sem.run Tryz.prog (ldF (.pointer (some ⟨g,o,none⟩))) w=.ok (.agg (frC f v)) w:=Qbq h
theorem Qgj (w:World)(zf:Array Value)(T:TypeId)(f:Fm)(v:Value)(hz:zf.size=591){j:Nat}(hj:j<591):((w.alloc (.cells zf T)).setRow w.heap.size (frC f v)).cell? ⟨w.heap.size,j,none⟩=some (frF f v j):=by
 have hb:blk (w.alloc (.cells zf T)) w.heap.size=zf:=Yg1;rw[Q2h,if_pos rfl,if_neg (by rw[hb,hz];decide)];unfold frC;rw[Qj,if_pos hj]
theorem Qal (w:World):(zeroValue 118).run Tryz.prog w=.ok (.slice none 0 0) w:=Yg1
theorem Q30 {op:Oper}{a:Act}{C:World→Prop}{K:Act→Prop}{x y:Operand}{mb m n:Nat}{f:Nat→Value}{v:Value}(ho:op.op=.lookup 57 x y false)(hx:a.eval x=.map (some mb))(hy:a.eval y=.int .i64 (n:Nat))(hn:n≤1000000)
 (h:∀ w,C w→Q5d w mb (.slice none 0 0) m f) (hv:f n=v) (hk:K (a.put op.dst v)):op.quiet Tryz.prog a C K :=
 Qt (v:=v) (fun w hC=>by
  unfold Oper.quietAt
  have e:(execOp a.eval op).run Tryz.prog w=.ok (.value v) w:=by
   obtain⟨dst,op,type,pos,after,guard⟩:=op;simp only at ho;subst ho;have h2:=(h w hC).run_lookup (P:=Tryz.prog) (t:=57) Tryz.underlying57 Tryz.underlying3 (Qal w) hn;simp[execOp,hx,hy,h2,hv,Result.andThen]
  rw[e];exact⟨rfl,rfl⟩) hk
theorem Q61 {o:Oper}{a:Act}{R:World→Prop}(w:World)(x y u:Operand)(ho:o.op=.mapUpdate 57 x y u)(mb m n:Nat)(f:Nat→Value)(v:Value)(hx:a.eval x=.map (some mb))(hy:a.eval y=.int .i64 (n:Nat))(hu:a.eval u=v)(hn:n≤1000000)
 (h0:Q5d w mb (.slice none 0 0) m f) (h:∀ ob,Q5d (ChangeMaps.setBlock w mb ob) mb (.slice none 0 0) (m+1) (fun j=>if j=n then v else f j)→R (ChangeMaps.setBlock w mb ob)):∃ w',(execOp a.eval o).run Tryz.prog w=.ok .skip w'∧R w':=by
 obtain⟨ob,hrun,h2⟩:=h0.run_update (P:=Tryz.prog) (t:=57) Tryz.underlying57 Tryz.underlying3 hn v;exact⟨_,by simp[execOp,ho,hx,hy,hu,hrun,Result.andThen],h ob h2⟩
theorem Q2e {op:Oper}{a:Act}{C:World→Prop}{K:Act→Prop}{x:Operand}{g p:Nat}{s:St}(ho:op.op=.load 90 x)(hx:a.eval x=.pointer (some ⟨g,p,none⟩))
 (h:∀ w,C w→∀ j,j<589→w.cell? ⟨g,p+j,none⟩=some (s.cell j)) (hk:K (a.put op.dst (.agg s.cells))):op.quiet Tryz.prog a C K :=
 Qt (v:=.agg s.cells) (fun w hC=>by
  unfold Oper.quietAt
  have e:(execOp a.eval op).run Tryz.prog w=.ok (.value (.agg s.cells)) w:=by
   obtain⟨dst,op,type,pos,after,guard⟩:=op;simp only at ho;subst ho;have h2:=Q2z (P:=Tryz.prog) (ty:=90) (F:=s.cell) (n:=589) Y1 (Tryz.isAgg90 w) (Tryz.sizeOf90 w) (h w hC);have h3:Q26 589 s.cell=s.cells:=rfl;rw[h3] at h2;simp[execOp,hx,Sem.run_bind,Result.andThen,Instr.loadAt,Instr.sureAddr,h2]
  rw[e];exact⟨rfl,rfl⟩) hk
end Hk
namespace Hk
namespace Co
def jointK (l:List In)(k i:Nat):Bool:=(List.range k).any fun j=>start l j && targetB l j && (target l j==i)
theorem Q6t (l:List In)(k i:Nat):jointK l (k+1) i=(jointK l k i || (start l k && targetB l k && (target l k==i))):=by
 unfold jointK;rw[List.range_succ,List.any_append];simp
theorem jointK_zero (l:List In)(i:Nat):jointK l 0 i=false:=rfl
theorem jointK_full (l:List In):jointK l l.length=jointB l:=rfl
theorem target_lt {l:List In}{k:Nat}(h:targetB l k=true):target l k<l.length:=by
 unfold target;rw[if_pos h];unfold targetB inB at h;simp only[Bool.and_eq_true,decide_eq_true_eq] at h;omega
theorem jointK_skip {l:List In}{k:Nat}(h:(start l k && targetB l k)=false)(i:Nat):jointK l (k+1) i=jointK l k i:=by rw[Q6t,h,Bool.false_and,Bool.or_false]
theorem jointK_put {l:List In}{k:Nat}(h:(start l k && targetB l k)=true)(i:Nat):jointK l (k+1) i=if i=target l k then true else jointK l k i:=by
 rw[Q6t,h,Bool.true_and];by_cases e:i=target l k
 · rw[if_pos e,e];simp
 · rw[if_neg e]
   have:(target l k==i)=false:=by simp;exact fun q=>e q.symm
   rw[this,Bool.or_false]
end Co
end Hk
namespace Hk
theorem Qk3 (b c:Nat)(l:List In)(w:World)(hI:Q14 w b l)(hL:l.length≤100000):Calls Tryz.prog 15 #[.slice (some ⟨b,0,none⟩) l.length c] w fun e w'=>e=.returned (.slice (some ⟨w.heap.size,0,none⟩) l.length l.length)∧Qi w' w.heap.size l.length (Co.jointB l)∧w.heap.size+1≤w'.heap.size∧Below w.heap.size w w':=by
 have hmk:=Q66 l.length Y1;have H0:=Lib.hid (show Qi (w.alloc (.cells (madeCells #[.bool false] l.length) 4)) w.heap.size l.length (Co.jointK l 0) from ⟨fun j hj=>by rw[Q3t hj];simp[Co.jointK_zero,Nat.mod_one],fun j=>Q2u j⟩);go_enter Tryz.func15,Tryz.ntmps15;go_wp2_with (go_at_call 17;refine Y46 ?_;intro ws hBs hzs hbs)
 go_loopw [14] (fun s14 wr=>∃ k:Nat,k≤l.length∧s14=.int .i64 k∧Hid (Qi wr w.heap.size l.length (Co.jointK l k))∧Hid (Qi wr (w.heap.size+1) l.length (Co.start l))∧w.heap.size+2≤wr.heap.size∧Below w.heap.size w wr) (fun s14 _=>l.length - (intOf s14).toNat)
 case atStart =>
  exact⟨0,Y1,rfl,Lib.hid (H0.out.keep Y3 (by simpa using hbs)),Lib.hid hBs,Y1,Yb⟩
 case round =>
  obtain⟨k,hk,rfl,hJ,hS,hz,hbl⟩:=hrel;clear hmk H0 hBs;by_cases hlt:k<l.length
  · have hck:=hS.out.1 k hlt
    cases hst:Co.start l k
    · cases ht:Co.targetB l k
      · exact Ylx
      · exact Ylx
    · cases ht:Co.targetB l k
      · exact Ylx
      · have HP:=Lib.hid (show (Co.start l k && Co.targetB l k)=true by rw[hst,ht];rfl)
        have HT:=Lib.hid ht;rw[hst] at hck;clear hst ht
        skip
        have htl:=Co.target_lt HT.out;have htc:=(hJ.out.keep Y1 (Below.refl _ _)).1 _ htl;have htf:=hJ.out.2 (Co.target l k);have hti:((Co.target l k:Nat):Int)<(l.length:Int):=Y1;have htd:decide (((Co.target l k:Nat):Int)<0)=false:=by simp
        generalize htg:Co.target l k=tg at *;have HG:=Lib.hid htg;clear htg;go_wp2_with (go_at_call 27;refine Y48 ?_;intro w1 hb1 hc1 hf1 hz1)
        go_roundw
        case rel=>exact⟨k+1,Y1,Yf1,Lib.hid ((hJ.out.keep Y1 hb1).set htl true fun j _=>by rw[Co.jointK_put HP.out,HG.out]),Lib.hid ((hS.out.keep Y1 hb1).other Y1),by simp;have:=hb1.size;omega,Yb⟩
        case measure=>simp[intOf];omega
  · obtain rfl:k=l.length:=by omega
    rw[Co.jointK_full] at hJ;go_wp2;go_ret;exact⟨rfl,hJ.out,Y1,hbl⟩
end Hk
