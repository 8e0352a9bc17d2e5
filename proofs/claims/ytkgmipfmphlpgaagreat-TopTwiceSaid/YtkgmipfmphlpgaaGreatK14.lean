/- A part of the proof of TopTwice. No condition but each statement's own. -/
import Derived.Test.YtkgmipfmphlpgaaGreatK13
import Derived.Test.YtkgmipfmphlpgaaGreatK04
open Go Go.RowKit Go.Proofs
set_option linter.all false
set_option maxRecDepth 100000
set_option maxHeartbeats 20000000
namespace Hk
theorem Vl.ptr_right {v:Vl}(h:Vl.ptr v=true):Vl.right v=true:=by
 unfold Vl.ptr at h;rw[Bool.and_eq_true] at h;exact h.2
theorem Qeu (a b:Vl)(ra:Vl.right a=false)(w:World):Calls Tryz.prog 66 #[a,b] w (RB.a w (.bool (Vl.within a b))):=by
 exact Yoa
theorem Qet (a b:Vl)(ra:Vl.right a=true)(rb:Vl.right b=false)(w:World):Calls Tryz.prog 66 #[a,b] w (RB.a w (.bool (Vl.within a b))):=by
 exact Yoa
theorem Qev (a b:Vl)(ra:Vl.right a=true)(rb:Vl.right b=true)(w:World):Calls Tryz.prog 66 #[a,b] w (RB.a w (.bool (Vl.within a b))):=by
 go_enter Tryz.func66,Tryz.ntmps66
 go_upto_region 3 with (go_at_call 84;refine Y3k ?_;intro w1 hb1 hc1 hf1 hz1)
 by_cases h1:a.k=1<;>by_cases h2:b.k=1
 · go_wp2_with (go_at_call 85;refine Y3q ?_;intro w1 hb1 hc1 hf1 hz1)
   (go_ret;exact⟨by simp[Vl.within,Vl.eq_iff, *],Yb⟩)
 all_goals (go_wp2;all_goals (go_ret;exact⟨by simp[Vl.within,Vl.eq_iff, *],Yb⟩))
theorem Qi5 (a b:Vl)(w:World):Calls Tryz.prog 66 #[a,b] w (RB.a w (.bool (Vl.within a b))):=by
 cases ra:Vl.right a
 · exact Qeu a b ra w
 cases rb:Vl.right b
 · exact Qet a b ra rb w
 exact Qev a b ra rb w
theorem Q7e (k0:Int)(x0 y0 z0 u0:BitVec 64)(i0 o0:Int)(k1:Int)(x1 y1 z1 u1:BitVec 64)(i1 o1:Int)(w:World):Calls Tryz.prog 66 #[.agg #[.int .u8 k0,.int .u64 (N x0),.int .u64 (N y0),.int .u64 (N z0),.int .u64 (N u0),.int .i64 i0,.int .i64 o0],.agg #[.int .u8 k1,.int .u64 (N x1),.int .u64 (N y1),.int .u64 (N z1),.int .u64 (N u1),.int .i64 i1,.int .i64 o1]] w (RB.a w (.bool (Vl.within (⟨k0,⟨⟨x0,y0⟩,⟨z0,u0⟩⟩,i0,o0⟩:Vl) (⟨k1,⟨⟨x1,y1⟩,⟨z1,u1⟩⟩,i1,o1⟩:Vl)))):=by
 exact Qi5 (⟨k0,⟨⟨x0,y0⟩,⟨z0,u0⟩⟩,i0,o0⟩:Vl) (⟨k1,⟨⟨x1,y1⟩,⟨z1,u1⟩⟩,i1,o1⟩:Vl) w
theorem Qom (a b:Vl)(ra:Vl.right a=false)(w:World):Calls Tryz.prog 70 #[a,b] w (RB.a w ((Vl.join a b))):=by
 exact Ym1
theorem Qol (a b:Vl)(ra:Vl.right a=true)(rb:Vl.right b=false)(w:World):Calls Tryz.prog 70 #[a,b] w (RB.a w ((Vl.join a b))):=by
 exact Ym1
theorem Qi9 (a b:Vl)(ra:Vl.right a=true)(rb:Vl.right b=true)(h1:a.k=1)(h2:b.k=1)(w:World):Calls Tryz.prog 70 #[a,b] w (RB.a w ((Vl.join a b))):=by
 have E:Vl.join a b=Vl.num (Fa.join a.f b.f):=by simp[Vl.join, *]
 rw[E];clear E;have h1':=Lib.hid h1;have h2':=Lib.hid h2;clear h1 h2;go_enter Tryz.func70,Tryz.ntmps70
 go_upto_region 2 with (go_at_call 84;refine Y3k ?_;intro w1 hb1 hc1 hf1 hz1)
 have h1:=h1'.out;have h2:=h2'.out;go_wp2_with ((with_reducible apply ic);refine Yb6 ?_;intro w1 hb1 hc1 hf1 hz1);exact Ynr
theorem Qew (a b:Vl)(ra:Vl.right a=true)(rb:Vl.right b=true)(hn:¬ (a.k=1∧b.k=1))(hab:a=b)(w:World):Calls Tryz.prog 70 #[a,b] w (RB.a w ((Vl.join a b))):=by
 have E:Vl.join a b=a:=by simp only[Vl.join,ra,rb,Bool.and_self,if_true];rw[if_neg hn];rw[if_pos hab]
 rw[E];clear E;subst hab;have hn':=Lib.hid hn;clear hn;go_enter Tryz.func70,Tryz.ntmps70
 go_upto_region 2 with (go_at_call 84;refine Y3k ?_;intro w1 hb1 hc1 hf1 hz1)
 have h1:¬ a.k=1:=fun e=>hn'.out ⟨e,e⟩
 go_wp2;exact Ynr
theorem Qok (a b:Vl)(ra:Vl.right a=true)(rb:Vl.right b=true)(hn:¬ (a.k=1∧b.k=1))(hab:¬ a=b)(w:World):Calls Tryz.prog 70 #[a,b] w (RB.a w ((Vl.join a b))):=by
 have E:Vl.join a b=Vl.zero:=by simp only[Vl.join,ra,rb,Bool.and_self,if_true];rw[if_neg hn];rw[if_neg hab]
 rw[E];clear E;have hn':=Lib.hid hn;clear hn;have hab':=Lib.hid hab;clear hab;go_enter Tryz.func70,Tryz.ntmps70
 go_upto_region 2 with (go_at_call 84;refine Y3k ?_;intro w1 hb1 hc1 hf1 hz1)
 have hab:=hab'.out;clear hab';by_cases h1:a.k=1<;>by_cases h2:b.k=1
 · exact absurd ⟨h1,h2⟩ hn'.out
 all_goals (go_wp2;all_goals (first|(exact absurd (Vl.eq_iff.2 ⟨Y2,Y2,Y2,Y2,Y2,Y2,Y2⟩) hab)|(refine bodyPost_ret ?_ rfl ⟨rfl,Yb⟩;simp only[results,Tryz.results70];simp[*,go_sem,↓IntWalk.iteOmega,Vl.num,Vl.zero,Vl.join,Vl.move,Fa.zero];try (first|rfl|exact⟨rfl,rfl⟩))))
theorem Qw6 (a b:Vl)(w:World):Calls Tryz.prog 70 #[a,b] w (RB.a w ((Vl.join a b))):=by
 cases ra:Vl.right a
 · exact Qom a b ra w
 cases rb:Vl.right b
 · exact Qol a b ra rb w
 by_cases hn:a.k=1∧b.k=1
 · exact Qi9 a b ra rb hn.1 hn.2 w
 by_cases hab:a=b
 · exact Qew a b ra rb hn hab w
 · exact Qok a b ra rb hn hab w
theorem Qw5 (v:Vl)(n:BitVec 64)(hp:Vl.ptr v=false)(w:World):Calls Tryz.prog 148 #[v,.int .u64 (N n)] w (RB.a w (.tuple #[(Vl.move v n),.bool (Vl.moveOk v n)])):=by
 exact Ylv
theorem Qw4 (v:Vl)(n:BitVec 64)(hp:Vl.ptr v=true)(hr:Vl.reach n.toInt=false)(w:World):Calls Tryz.prog 148 #[v,.int .u64 (N n)] w (RB.a w (.tuple #[(Vl.move v n),.bool (Vl.moveOk v n)])):=by
 exact Ylv
theorem Qw3 (v:Vl)(n:BitVec 64)(hp:Vl.ptr v=true)(hr:Vl.reach n.toInt=true)(hs:Vl.reach (v.off+n.toInt)=false)(w:World):Calls Tryz.prog 148 #[v,.int .u64 (N n)] w (RB.a w (.tuple #[(Vl.move v n),.bool (Vl.moveOk v n)])):=by
 have E2:Vl.moveOk v n=false:=Yfs;have E1:Vl.move v n=Vl.zero:=Yft;exact Ylm
theorem Qw2 (v:Vl)(n:BitVec 64)(hp:Vl.ptr v=true)(hr:Vl.reach n.toInt=true)(hs:Vl.reach (v.off+n.toInt)=true)(w:World):Calls Tryz.prog 148 #[v,.int .u64 (N n)] w (RB.a w (.tuple #[(Vl.move v n),.bool (Vl.moveOk v n)])):=by
 have E2:Vl.moveOk v n=true:=Yfs;have E1:Vl.move v n=⟨v.k,v.f,v.i,v.off+n.toInt⟩:=Yft;exact Ylm
theorem Qw1 (v:Vl)(n:BitVec 64)(w:World):Calls Tryz.prog 148 #[v,.int .u64 (N n)] w (RB.a w (.tuple #[(Vl.move v n),.bool (Vl.moveOk v n)])):=by
 cases hp:Vl.ptr v
 · exact Qw5 v n hp w
 cases hr:Vl.reach n.toInt
 · exact Qw4 v n hp hr w
 cases hs:Vl.reach (v.off+n.toInt)
 · exact Qw3 v n hp hr hs w
 · exact Qw2 v n hp hr hs w
end Hk
namespace Hk
theorem Q92 (ρ:Operand→Value)(op:Oper)(x:Operand)(b o:Nat)(c0 c1 c2 c3 c4 c5 c6:Value)(ho:op.op=.load 84 x)(hx:ρ x=.pointer (some ⟨b,o,none⟩))(w:World)(h0:w.cell? ⟨b,o,none⟩=some c0)(h1:w.cell? ⟨b,o+1,none⟩=some c1)(h2:w.cell? ⟨b,o+2,none⟩=some c2)(h3:w.cell? ⟨b,o+3,none⟩=some c3)(h4:w.cell? ⟨b,o+4,none⟩=some c4)(h5:w.cell? ⟨b,o+5,none⟩=some c5)(h6:w.cell? ⟨b,o+6,none⟩=some c6) :
 (execOp ρ op).run Tryz.prog w=.ok (.value (.agg #[c0,c1,c2,c3,c4,c5,c6])) w:=by
 obtain⟨dst,op,type,pos,after,guard⟩:=op;simp only at ho;subst ho
 go_simp
theorem Qn {op:Oper}{a:Act}{C:World→Prop}{K:Act→Prop}{x:Operand}{b o:Nat}{c0 c1 c2 c3 c4 c5 c6:Value}(ho:op.op=.load 84 x)(hx:a.eval x=.pointer (some ⟨b,o,none⟩))
 (h:∀ w,C w→w.cell? ⟨b,o,none⟩=some c0∧w.cell? ⟨b,o+1,none⟩=some c1∧w.cell? ⟨b,o+2,none⟩=some c2∧w.cell? ⟨b,o+3,none⟩=some c3∧w.cell? ⟨b,o+4,none⟩=some c4∧w.cell? ⟨b,o+5,none⟩=some c5∧w.cell? ⟨b,o+6,none⟩=some c6) (hk:K (a.put op.dst (.agg #[c0,c1,c2,c3,c4,c5,c6]))):op.quiet Tryz.prog a C K :=
 Qt (v:=.agg #[c0,c1,c2,c3,c4,c5,c6]) (fun w hC=>by unfold Oper.quietAt;obtain⟨h0,h1,h2,h3,h4,h5,h6⟩:=h w hC;rw[Q92 _ op x b o c0 c1 c2 c3 c4 c5 c6 ho hx w h0 h1 h2 h3 h4 h5 h6];exact⟨rfl,rfl⟩) hk
end Hk
namespace Hk
attribute [local go_sem] Q2r Q3c
def WdC (v:Vl)(g qd r:Nat)(w:World)(d:Nat→Bool)(ν:Nat→Nat × Nat)(w':World):Prop:=w'.cell? ⟨g,5,none⟩=some (.int .u8 (qd:Nat))∧w'.cell? ⟨g,15+qd*7,none⟩=some (.int .u8 v.k)∧w'.cell? ⟨g,15+qd*7+1,none⟩=some (.int .u64 (N v.f.t.v))∧w'.cell? ⟨g,15+qd*7+2,none⟩=some (.int .u64 (N v.f.t.m))∧w'.cell? ⟨g,15+qd*7+3,none⟩=some (.int .u64 (N v.f.s.lo))∧w'.cell? ⟨g,15+qd*7+4,none⟩=some (.int .u64 (N v.f.s.hi))∧w'.cell? ⟨g,15+qd*7+5,none⟩=some (.int .i64 v.i)∧w'.cell? ⟨g,15+qd*7+6,none⟩=some (.int .i64 v.off)∧w'.cell? ⟨r,0,none⟩=some (bif d 11 then .int .u8 v.k else .int .u8 0)∧w'.cell? ⟨r,1,none⟩=some (bif d 11 then .int .u64 (N v.f.t.v) else .int .u64 0)∧w'.cell? ⟨r,2,none⟩=some (bif d 11 then .int .u64 (N v.f.t.m) else .int .u64 0)∧w'.cell? ⟨r,3,none⟩=some (bif d 11 then .int .u64 (N v.f.s.lo) else .int .u64 0)∧w'.cell? ⟨r,4,none⟩=some (bif d 11 then .int .u64 (N v.f.s.hi) else .int .u64 0)∧w'.cell? ⟨r,5,none⟩=some (bif d 11 then .int .i64 v.i else .int .i64 0)∧w'.cell? ⟨r,6,none⟩=some (bif d 11 then .int .i64 v.off else .int .i64 0)∧(∀ i,w'.frozen? ⟨r,i,none⟩=false)∧0≤w'.heap.size∧Below w.heap.size w w'
theorem Qts {v:Vl}{g qd r:Nat}{w:World}:KT (WdC v g qd r w):=by
 exact Yln
theorem Qtr {v:Vl}{g qd r:Nat}{w:World}:MT (WdC v g qd r w) [11]:=by
 intro d d' ν w' hd h;unfold WdC at *;simpa only[← hd 11 Y3] using h
def WsC (v:Vl)(g qd r:Nat)(w:World)(d:Nat→Bool)(ν:Nat→Nat × Nat)(w':World):Prop:=w'.cell? ⟨g,6,none⟩=some (.int .u8 (qd:Nat))∧w'.cell? ⟨g,15+qd*7,none⟩=some (.int .u8 v.k)∧w'.cell? ⟨g,15+qd*7+1,none⟩=some (.int .u64 (N v.f.t.v))∧w'.cell? ⟨g,15+qd*7+2,none⟩=some (.int .u64 (N v.f.t.m))∧w'.cell? ⟨g,15+qd*7+3,none⟩=some (.int .u64 (N v.f.s.lo))∧w'.cell? ⟨g,15+qd*7+4,none⟩=some (.int .u64 (N v.f.s.hi))∧w'.cell? ⟨g,15+qd*7+5,none⟩=some (.int .i64 v.i)∧w'.cell? ⟨g,15+qd*7+6,none⟩=some (.int .i64 v.off)∧w'.cell? ⟨r,0,none⟩=some (bif d 11 then .int .u8 v.k else .int .u8 0)∧w'.cell? ⟨r,1,none⟩=some (bif d 11 then .int .u64 (N v.f.t.v) else .int .u64 0)∧w'.cell? ⟨r,2,none⟩=some (bif d 11 then .int .u64 (N v.f.t.m) else .int .u64 0)∧w'.cell? ⟨r,3,none⟩=some (bif d 11 then .int .u64 (N v.f.s.lo) else .int .u64 0)∧w'.cell? ⟨r,4,none⟩=some (bif d 11 then .int .u64 (N v.f.s.hi) else .int .u64 0)∧w'.cell? ⟨r,5,none⟩=some (bif d 11 then .int .i64 v.i else .int .i64 0)∧w'.cell? ⟨r,6,none⟩=some (bif d 11 then .int .i64 v.off else .int .i64 0)∧(∀ i,w'.frozen? ⟨r,i,none⟩=false)∧0≤w'.heap.size∧Below w.heap.size w w'
theorem Qth {v:Vl}{g qd r:Nat}{w:World}:KT (WsC v g qd r w):=by
 exact Yln
theorem Qtg {v:Vl}{g qd r:Nat}{w:World}:MT (WsC v g qd r w) [11]:=by
 intro d d' ν w' hd h;unfold WsC at *;simpa only[← hd 11 Y3] using h
theorem Qhz (g:Nat)(X:Sx)(w:World)(hX:Q1e w g X)(hd:X.x.dst.toNat<11):Calls Tryz.prog 111 #[.pointer (some ⟨g,0,none⟩)] w (RB.a w ((X.s.r X.x.dst.toNat))):=by
 obtain⟨a0,a1,a2,a3,a4,a5,a6,a7,a8,a9,a10,a11,a12,a13,a14⟩:=hX.cells;have zg:=hX.lt;have edst:N8 X.x.dst=((X.x.dst.toNat:Nat):Int):=rfl;obtain⟨b0,b1,b2,b3,b4,b5,b6⟩:=hX.regs hd;rw[edst] at a5;clear edst;generalize X.x.dst.toNat=d at *;generalize X.s.r d=v at *;go_enter Tryz.func111,Tryz.ntmps111;go_wp2;refine Q2 (WdC v g d w.heap.size w) [11] [] (fun _ c=>.pointer (some ⟨c.1,0,none⟩)) rfl Yc ?_ (fun d d' ν w'=>Qtr d d' ν w') (fun d ν w' w1=>Qts d ν w' w1) (fun i hi=>Yf0) ?_
 · exact Ymb
 apply Exists.intro;refine⟨fun ν=>?_,?_,?_⟩
 · exact Yse
 · intro i hi;cases hi
 · intro ν w9 d hd hC
   obtain⟨k0,k1,k2,k3,k4,k5,k6,k7,k8,k9,k10,k11,k12,k13,k14,k15,k16,k17⟩:=hC;have q11:=hd 11 Y0;simp only[q11,cond_true,cond_false,forall_const,true_implies] at k0 k1 k2 k3 k4 k5 k6 k7 k8 k9 k10 k11 k12 k13 k14 k15 k16 k17;clear q11;clear hd;have z0:=Q1 k0;have z8:=Q1 k8;go_wp2;refine bodyPost_ret (Q1t (fn:=Tryz.f111) rfl _ _ (w.heap.size) (v) rfl ?_ ?_ ?_ ?_ ?_ ?_ ?_) rfl ⟨rfl,Yb⟩
   all_goals (simp (maxDischargeDepth:=12) [*,go_sem,↓IntWalk.iteOmega];done)
namespace Co
def srcV (X:Sx):Vl:=if X.w.reg then X.s.r X.x.src.toNat else knownV (X.x.imm.signExtend 64)
end Co
theorem Qus (g:Nat)(X:Sx)(w:World)(hX:Q1e w g X)(hd:X.x.src.toNat<11):Calls Tryz.prog 112 #[.pointer (some ⟨g,0,none⟩)] w (RB.a w ((Co.srcV X))):=by
 obtain⟨a0,a1,a2,a3,a4,a5,a6,a7,a8,a9,a10,a11,a12,a13,a14⟩:=hX.cells;have zg:=hX.lt;have esrc:N8 X.x.src=((X.x.src.toNat:Nat):Int):=rfl;obtain⟨b0,b1,b2,b3,b4,b5,b6⟩:=hX.regs hd;rw[esrc] at a6;clear esrc;cases hr:X.w.reg
 all_goals rw[hr] at a12
 · have EV:=Lib.hid (show Co.srcV X=Co.knownV (X.x.imm.signExtend 64) by unfold Co.srcV;rw[hr];rfl)
   rw[EV.out];generalize X.x.imm=im at *;go_enter Tryz.func112,Tryz.ntmps112;go_wp2_with (go_at_call 90;refine Y3t ?_;intro w1 hb1 hc1 hf1 hz1);refine bodyPost_ret (Q1t (fn:=Tryz.f112) rfl _ _ (w.heap.size) ((Co.knownV (im.signExtend 64))) rfl ?_ ?_ ?_ ?_ ?_ ?_ ?_) rfl ⟨rfl,Yb⟩
   all_goals (simp (maxDischargeDepth:=12) [*,go_sem,↓IntWalk.iteOmega];done)
 · have EV:=Lib.hid (show Co.srcV X=X.s.r X.x.src.toNat by unfold Co.srcV;rw[hr];rfl)
   rw[EV.out];generalize X.x.src.toNat=d at *;generalize X.s.r d=v at *;go_enter Tryz.func112,Tryz.ntmps112;go_wp2;refine Q2 (WsC v g d w.heap.size w) [11] [] (fun _ c=>.pointer (some ⟨c.1,0,none⟩)) rfl Yc ?_ (fun d d' ν w'=>Qtg d d' ν w') (fun d ν w' w1=>Qth d ν w' w1) (fun i hi=>Yf0) ?_
   · exact Ymb
   apply Exists.intro;refine⟨fun ν=>?_,?_,?_⟩
   · exact Yse
   · intro i hi;cases hi
   · intro ν w9 d hd hC
     obtain⟨k0,k1,k2,k3,k4,k5,k6,k7,k8,k9,k10,k11,k12,k13,k14,k15,k16,k17⟩:=hC;have q11:=hd 11 Y0;simp only[q11,cond_true,cond_false,forall_const,true_implies] at k0 k1 k2 k3 k4 k5 k6 k7 k8 k9 k10 k11 k12 k13 k14 k15 k16 k17;clear q11;clear hd;have z0:=Q1 k0;have z8:=Q1 k8;go_wp2;refine bodyPost_ret (Q1t (fn:=Tryz.f112) rfl _ _ (w.heap.size) (v) rfl ?_ ?_ ?_ ?_ ?_ ?_ ?_) rfl ⟨rfl,Yb⟩
     all_goals (simp (maxDischargeDepth:=12) [*,go_sem,↓IntWalk.iteOmega];done)
end Hk
namespace Hk
theorem Qk {fn:Func}{p r:Tmp}(h:fn.results=#[.cell p 84,.tmp r])(tmps:Array Value)(w:World)(g:Nat)(y:Vl)(c:Value)(hp:tmps.getD p undef=.pointer (some ⟨g,0,none⟩))(hr:tmps.getD r undef=c)
 (a0:w.cell? ⟨g,0,none⟩=some (.int .u8 y.k)) (a1:w.cell? ⟨g,1,none⟩=some (.int .u64 (N y.f.t.v))) (a2:w.cell? ⟨g,2,none⟩=some (.int .u64 (N y.f.t.m))) (a3:w.cell? ⟨g,3,none⟩=some (.int .u64 (N y.f.s.lo))) (a4:w.cell? ⟨g,4,none⟩=some (.int .u64 (N y.f.s.hi))) (a5:w.cell? ⟨g,5,none⟩=some (.int .i64 y.i)) (a6:w.cell? ⟨g,6,none⟩=some (.int .i64 y.off)):Sem.run Tryz.prog (results fn tmps) w=.ok (.tuple #[y,c]) w:=by
 have hp':tmps[p]?.getD undef=.pointer (some ⟨g,0,none⟩):=Yew;have hr':tmps[r]?.getD undef=c:=Yej;simp only[results,h];simp[hp',hr',a0,a1,a2,a3,a4,a5,a6,go_sem]
theorem Qvw (g:Nat)(X:Sx)(w:World)(hX:Q1e w g X):Calls Tryz.prog 96 #[.pointer (some ⟨g,0,none⟩)] w (RB.a w (.int .i64 (Co.exitE (X.s.r 0)))):=by
 obtain⟨a0,a1,a2,a3,a4,a5,a6,a7,a8,a9,a10,a11,a12,a13,a14⟩:=hX.cells;have zg:=hX.lt;obtain⟨b0,b1,b2,b3,b4,b5,b6⟩:=hX.regs (i:=0) Y1;simp only[Nat.zero_mul,Nat.add_zero,Nat.reduceAdd] at b0 b1 b2 b3 b4 b5 b6;generalize X.s.r 0=v at *;cases h0:(v.k==0)<;>cases h1:(v.k==1)
 all_goals
  go_enter Tryz.func96,Tryz.ntmps96;go_wp2_with ((with_reducible apply ic);first|(refine Y3u ?_;intro w1 hb1 hc1 hf1 hz1)|(refine Y3v ?_;intro w2 hb2 hc2 hf2 hz2));go_ret;exact⟨by simp[Co.exitE, *],Yb⟩
theorem Qo8 (g:Nat)(X:Sx)(a b:Vl)(w:World)(hX:Q1e w g X):Calls Tryz.prog 115 #[.pointer (some ⟨g,0,none⟩),a,b] w (RB.a w (.tuple #[(Co.movedV (X.w.op==16#8) a b),.int .i64 (Co.movedE (X.w.op==16#8) a b)])):=by
 obtain⟨a0,a1,a2,a3,a4,a5,a6,a7,a8,a9,a10,a11,a12,a13,a14⟩:=hX.cells;have zg:=hX.lt;cases hk:Fa.known b.f with
 | none =>
   exact Ykw
 | some n =>
   cases h1:(b.k==1)
   · exact Ykw
   · generalize hmn:Co.movN (X.w.op==16#8) n=m
     cases hs:(X.w.op==16#8)
     · rw[hs] at hmn
       have hm2:m=n:=hmn.symm;clear hmn;cases hmo:Vl.moveOk a m
       all_goals subst hm2
       · exact Ykq
       · have EB:=Lib.hid (show Co.movedV (X.w.op==16#8) a b=(Vl.move a (m))∧Co.movedE (X.w.op==16#8) a b=0 from Yfv)
         rw[hs] at EB;rw[EB.out.1,EB.out.2];have HK:=Lib.hid (show Fa.known ⟨⟨b.f.t.v,b.f.t.m⟩,⟨b.f.s.lo,b.f.s.hi⟩⟩=_ from hk);clear hk;go_enter Tryz.func115,Tryz.ntmps115;go_wp2_with ((with_reducible apply ic);first|(refine Y3w ?_;intro w1 hb1 hc1 hf1 hz1)|(refine Y3v ?_;intro w2 hb2 hc2 hf2 hz2)|(refine Y3x ?_;intro w3 hb3 hc3 hf3 hz3));refine bodyPost_ret (Qk (fn:=Tryz.f115) rfl _ _ (w.heap.size+1+1) ((Vl.move a (m))) (.int .i64 0) rfl rfl ?_ ?_ ?_ ?_ ?_ ?_ ?_) rfl ⟨rfl,Yb⟩
         all_goals (simp (maxDischargeDepth:=12) [*,go_sem,↓IntWalk.iteOmega,Vl.zero,Fa.zero];done)
     · rw[hs] at hmn
       have hm2:m = -n:=hmn.symm;clear hmn;cases hmo:Vl.moveOk a m
       all_goals subst hm2
       · exact Ykq
       · have EB:=Lib.hid (show Co.movedV (X.w.op==16#8) a b=(Vl.move a (-n))∧Co.movedE (X.w.op==16#8) a b=0 from Yfv)
         rw[hs] at EB;rw[EB.out.1,EB.out.2];have HK:=Lib.hid (show Fa.known ⟨⟨b.f.t.v,b.f.t.m⟩,⟨b.f.s.lo,b.f.s.hi⟩⟩=_ from hk);clear hk;go_enter Tryz.func115,Tryz.ntmps115;go_wp2_with ((with_reducible apply ic);first|(refine Y3w ?_;intro w1 hb1 hc1 hf1 hz1)|(refine Y3v ?_;intro w2 hb2 hc2 hf2 hz2)|(refine Y3x ?_;intro w3 hb3 hc3 hf3 hz3));refine bodyPost_ret (Qk (fn:=Tryz.f115) rfl _ _ (w.heap.size+1+1) ((Vl.move a (-n))) (.int .i64 0) rfl rfl ?_ ?_ ?_ ?_ ?_ ?_ ?_) rfl ⟨rfl,Yb⟩
         all_goals (simp (maxDischargeDepth:=12) [*,go_sem,↓IntWalk.iteOmega,Vl.zero,Fa.zero];done)
end Hk
namespace Hk
attribute [go_sem] St.cells_size St.regs_size St.slots_size St.cells_ne St.regs_ne St.slots_ne St.cells_regs St.cells_slots Qp
@[go_sem] theorem Qm:Tryz.zeroCells90=St.cells St.zero:=Yc
@[go_sem high] theorem Q166 (b o n:Nat):Addr.add ⟨b,o,none⟩ n=⟨b,o+n,none⟩:=Yek
def Q22 (c:Array Value):Prop:=c.all (·.oneCell')=true
@[go_sem] theorem Qj5 (x:St):Q22 x.cells:=x.cells_one
@[go_sem] theorem Q160 (k a b c d i o:Int):Q22 #[.int .u8 k,.int .u64 a,.int .u64 b,.int .u64 c,.int .u64 d,.int .i64 i,.int .i64 o]:=by simp[Q22,Value.oneCell']
@[go_sem] theorem Q161 (k a b c d i o p:Int):Q22 #[.int .u8 k,.int .u64 a,.int .u64 b,.int .u64 c,.int .u64 d,.int .i64 i,.int .i64 o,.int .u8 p]:=by simp[Q22,Value.oneCell']
def ldS (x:Value):Sem Value:=Instr.loadAt 90 x
@[go_sem ↓] theorem Q18w (x:Value):Instr.loadAt 90 x=ldS x:=rfl
def ldR (x:Value):Sem Value:=Instr.loadAt 85 x
@[go_sem ↓] theorem Q18x (x:Value):Instr.loadAt 85 x=ldR x:=rfl
def ldG (x:Value):Sem Value:=Instr.loadAt 88 x
@[go_sem ↓] theorem Q18z (x:Value):Instr.loadAt 88 x=ldG x:=rfl
def ldV (x:Value):Sem Value:=Instr.loadAt 84 x
@[go_sem ↓] theorem Q18v (x:Value):Instr.loadAt 84 x=ldV x:=rfl
def ldL (x:Value):Sem Value:=Instr.loadAt 87 x
@[go_sem ↓] theorem Q18y (x:Value):Instr.loadAt 87 x=ldL x:=rfl
def stS (x v:Value):Sem Unit:=Instr.storeAt 90 x v
@[go_sem ↓] theorem Q18f (x v:Value):Instr.storeAt 90 x v=stS x v:=rfl
def stV (x v:Value):Sem Unit:=Instr.storeAt 84 x v
@[go_sem ↓] theorem Q18e (x v:Value):Instr.storeAt 84 x v=stV x v:=rfl
def stL (x v:Value):Sem Unit:=Instr.storeAt 87 x v
@[go_sem ↓] theorem Q18g (x v:Value):Instr.storeAt 87 x v=stL x v:=rfl
@[go_sem] theorem Q177 (w:World)(b n:Nat):Sem.run Tryz.prog (ldV (.pointer (some ⟨b,no_index (OfNat.ofNat n),none⟩))) w=Sem.run Tryz.prog (loadVar 84 ⟨b,OfNat.ofNat n,none⟩) w:=by
 simp only[ldV,Instr.loadAt,Instr.sureAddr,Sem.run_bind,Sem.run_pure,Result.andThen]
@[go_sem] theorem Q16r (w:World)(b n:Nat)(c:Array Value):Sem.run Tryz.prog (stV (.pointer (some ⟨b,no_index (OfNat.ofNat n),none⟩)) (.agg c)) w=Sem.run Tryz.prog (storeVar 84 ⟨b,OfNat.ofNat n,none⟩ (.agg c)) w:=by
 exact Yrs
@[go_sem] theorem Q178 (w:World)(b n:Nat):Sem.run Tryz.prog (ldL (.pointer (some ⟨b,no_index (OfNat.ofNat n),none⟩))) w=Sem.run Tryz.prog (loadVar 87 ⟨b,OfNat.ofNat n,none⟩) w:=by
 simp only[ldL,Instr.loadAt,Instr.sureAddr,Sem.run_bind,Sem.run_pure,Result.andThen]
@[go_sem] theorem Q16s (w:World)(b n:Nat)(c:Array Value):Sem.run Tryz.prog (stL (.pointer (some ⟨b,no_index (OfNat.ofNat n),none⟩)) (.agg c)) w=Sem.run Tryz.prog (storeVar 87 ⟨b,OfNat.ofNat n,none⟩ (.agg c)) w:=by
 simp only[stL,Instr.storeAt,Instr.sureAddr,Sem.run_bind,Sem.run_pure,Result.andThen]
theorem Q52 (w:World)(b:Nat)(h:(blk w b).size=589):Sem.run Tryz.prog (loadVar 90 ⟨b,0,none⟩) w=.ok (.agg (blk w b)) w:=by
 rw[Qu w _ b (0) 589 (Tryz.isAgg90 w) (Tryz.sizeOf90 w) Y1]
 congr 2
 apply Array.ext_getElem?;intro i;rw[Array.getElem?_extract];by_cases hi:i<589
 · rw[if_pos Y1,Nat.zero_add]
 · rw[if_neg Y1,Array.getElem?_eq_none Y1]
@[go_sem] theorem Q155 (w:World)(b:Nat)(h:(blk w b).size=589):Sem.run Tryz.prog (ldS (.pointer (some ⟨b,0,none⟩))) w=.ok (.agg (blk w b)) w:=by
 simp only[ldS,Instr.loadAt,Instr.sureAddr,Sem.run_bind,Sem.run_pure,Result.andThen];exact Q52 w b h
theorem Qcv (w:World)(b:Nat)(h:(blk w b).size=589):Sem.run Tryz.prog (loadVar 85 ⟨b,0,none⟩) w=.ok (.agg ((blk w b).extract 0 77)) w:=Qu w _ b (0) 77 (Tryz.isAgg85 w) (Tryz.sizeOf85 w) Y1
@[go_sem] theorem Q10c (w:World)(b:Nat)(h:(blk w b).size=589):Sem.run Tryz.prog (ldR (.pointer (some ⟨b,0,none⟩))) w=.ok (.agg ((blk w b).extract 0 77)) w:=by
 simp only[ldR,Instr.loadAt,Instr.sureAddr,Sem.run_bind,Sem.run_pure,Result.andThen];exact Qcv w b h
theorem Q9y (w:World)(b:Nat)(h:(blk w b).size=589):Sem.run Tryz.prog (loadVar 88 ⟨b,77,none⟩) w=.ok (.agg ((blk w b).extract 77 589)) w:=Qu w _ b (77) 512 (Tryz.isAgg88 w) (Tryz.sizeOf88 w) Y1
@[go_sem] theorem Qvb (w:World)(b:Nat)(h:(blk w b).size=589):Sem.run Tryz.prog (ldG (.pointer (some ⟨b,77,none⟩))) w=.ok (.agg ((blk w b).extract 77 589)) w:=by
 simp only[ldG,Instr.loadAt,Instr.sureAddr,Sem.run_bind,Sem.run_pure,Result.andThen];exact Q9y w b h
theorem Qh3 (w:World)(b i:Nat)(h:(blk w b).size=589)(hi:i<11):Sem.run Tryz.prog (loadVar 84 ⟨b,i*7,none⟩) w=.ok (.agg ((blk w b).extract (i*7) (i*7+7))) w:=Qu w _ b (i*7) 7 (Tryz.isAgg84 w) (Tryz.sizeOf84 w) Y1
@[go_sem] theorem Q11l (w:World)(b i:Nat)(h:(blk w b).size=589)(hi:i<11):Sem.run Tryz.prog (ldV (.pointer (some ⟨b,i*7,none⟩))) w=.ok (.agg ((blk w b).extract (i*7) (i*7+7))) w:=by
 simp only[ldV,Instr.loadAt,Instr.sureAddr,Sem.run_bind,Sem.run_pure,Result.andThen];exact Qh3 w b i h hi
theorem Qct (w:World)(b i:Nat)(h:(blk w b).size=589)(hi:i<64):Sem.run Tryz.prog (loadVar 84 ⟨b,77+i*8,none⟩) w=.ok (.agg ((blk w b).extract (77+i*8) (77+i*8+7))) w:=Qu w _ b (77+i*8) 7 (Tryz.isAgg84 w) (Tryz.sizeOf84 w) Y1
@[go_sem] theorem Q10a (w:World)(b i:Nat)(h:(blk w b).size=589)(hi:i<64):Sem.run Tryz.prog (ldV (.pointer (some ⟨b,77+i*8,none⟩))) w=.ok (.agg ((blk w b).extract (77+i*8) (77+i*8+7))) w:=by
 simp only[ldV,Instr.loadAt,Instr.sureAddr,Sem.run_bind,Sem.run_pure,Result.andThen];exact Qct w b i h hi
theorem Qcu (w:World)(b i:Nat)(h:(blk w b).size=589)(hi:i<64):Sem.run Tryz.prog (loadVar 87 ⟨b,77+i*8,none⟩) w=.ok (.agg ((blk w b).extract (77+i*8) (77+i*8+8))) w:=Qu w _ b (77+i*8) 8 (Tryz.isAgg87 w) (Tryz.sizeOf87 w) Y1
@[go_sem] theorem Q10b (w:World)(b i:Nat)(h:(blk w b).size=589)(hi:i<64):Sem.run Tryz.prog (ldL (.pointer (some ⟨b,77+i*8,none⟩))) w=.ok (.agg ((blk w b).extract (77+i*8) (77+i*8+8))) w:=by
 simp only[ldL,Instr.loadAt,Instr.sureAddr,Sem.run_bind,Sem.run_pure,Result.andThen];exact Qcu w b i h hi
@[go_sem] theorem Qld (w:World)(b:Nat)(c:Array Value)(h:(blk w b).size=589)(hc:c.size=589)(h1:Q22 c)(hf:∀ k,w.frozen? ⟨b,k,none⟩=false):Sem.run Tryz.prog (stS (.pointer (some ⟨b,0,none⟩)) (.agg c)) w=.ok () (w.setRow b c):=by
 simp only[stS,Instr.storeAt,Instr.sureAddr,Sem.run_bind,Sem.run_pure,Result.andThen];rw[Q1f w _ b 0 589 c (Tryz.sizeOf90 w) hc h1 Y1 hf]
 congr 2
 unfold Q23;rw[h,hc];apply Array.ext_getElem?;intro k;rw[Qj];by_cases hk:k<589
 · exact Yr4
 · rw[if_neg hk,Array.getElem?_eq_none Y1]
@[go_sem] theorem Qh2 (w:World)(b i:Nat)(c:Array Value)(h:(blk w b).size=589)(hc:c.size=7)(h1:Q22 c)(hf:∀ k,w.frozen? ⟨b,k,none⟩=false)(hi:i<11):Sem.run Tryz.prog (stV (.pointer (some ⟨b,i*7,none⟩)) (.agg c)) w=.ok () (w.setRow b (Q23 (blk w b) (i*7) c)):=by
 simp only[stV,Instr.storeAt,Instr.sureAddr,Sem.run_bind,Sem.run_pure,Result.andThen];exact Q1f w _ b (i*7) 7 _ (Tryz.sizeOf84 w) hc h1 Y1 hf
@[go_sem] theorem Q107 (w:World)(b i:Nat)(c:Array Value)(h:(blk w b).size=589)(hc:c.size=7)(h1:Q22 c)(hf:∀ k,w.frozen? ⟨b,k,none⟩=false)(hi:i<64):Sem.run Tryz.prog (stV (.pointer (some ⟨b,77+i*8,none⟩)) (.agg c)) w=.ok () (w.setRow b (Q23 (blk w b) (77+i*8) c)):=by
 simp only[stV,Instr.storeAt,Instr.sureAddr,Sem.run_bind,Sem.run_pure,Result.andThen];exact Q1f w _ b (77+i*8) 7 _ (Tryz.sizeOf84 w) hc h1 Y1 hf
@[go_sem] theorem Q108 (w:World)(b i:Nat)(c:Array Value)(h:(blk w b).size=589)(hc:c.size=8)(h1:Q22 c)(hf:∀ k,w.frozen? ⟨b,k,none⟩=false)(hi:i<64):Sem.run Tryz.prog (stL (.pointer (some ⟨b,77+i*8,none⟩)) (.agg c)) w=.ok () (w.setRow b (Q23 (blk w b) (77+i*8) c)):=by
 simp only[stL,Instr.storeAt,Instr.sureAddr,Sem.run_bind,Sem.run_pure,Result.andThen];exact Q1f w _ b (77+i*8) 8 _ (Tryz.sizeOf87 w) hc h1 Y1 hf
@[go_sem] theorem Q1af (x:St)(i:Nat):x.cells.extract (i*7) (i*7+7)=if i<11 then #[.int .u8 (x.r i).k,.int .u64 (N (x.r i).f.t.v),.int .u64 (N (x.r i).f.t.m),.int .u64 (N (x.r i).f.s.lo),.int .u64 (N (x.r i).f.s.hi),.int .i64 (x.r i).i,.int .i64 (x.r i).off] else Q115 x.cells (i*7) 7:=by
 split
 · exact x.cells_val Y2
 · rfl
@[go_sem] theorem Q19y (x:St)(i:Nat):x.regs.extract (i*7) (i*7+7)=if i<11 then #[.int .u8 (x.r i).k,.int .u64 (N (x.r i).f.t.v),.int .u64 (N (x.r i).f.t.m),.int .u64 (N (x.r i).f.s.lo),.int .u64 (N (x.r i).f.s.hi),.int .i64 (x.r i).i,.int .i64 (x.r i).off] else Q115 x.regs (i*7) 7:=by
 split
 · exact x.regs_val Y2
 · rfl
@[go_sem] theorem Q196 (x:St)(i:Nat):x.cells.extract (77+i*8) (77+i*8+8)=if i<64 then #[.int .u8 (x.s i).v.k,.int .u64 (N (x.s i).v.f.t.v),.int .u64 (N (x.s i).v.f.t.m),.int .u64 (N (x.s i).v.f.s.lo),.int .u64 (N (x.s i).v.f.s.hi),.int .i64 (x.s i).v.i,.int .i64 (x.s i).v.off,.int .u8 (N8 (x.s i).p)] else Q115 x.cells (77+i*8) 8:=by
 split
 · exact x.cells_slot Y2
 · rfl
@[go_sem] theorem Q17l (x:St)(i:Nat):x.cells.extract (77+i*8) (77+i*8+7)=if i<64 then #[.int .u8 (x.s i).v.k,.int .u64 (N (x.s i).v.f.t.v),.int .u64 (N (x.s i).v.f.t.m),.int .u64 (N (x.s i).v.f.s.lo),.int .u64 (N (x.s i).v.f.s.hi),.int .i64 (x.s i).v.i,.int .i64 (x.s i).v.off] else Q115 x.cells (77+i*8) 7:=by
 split
 · exact x.cells_slotv Y2
 · rfl
@[go_sem] theorem Q18i (x:St)(i:Nat):x.slots.extract (i*8) (i*8+8)=if i<64 then #[.int .u8 (x.s i).v.k,.int .u64 (N (x.s i).v.f.t.v),.int .u64 (N (x.s i).v.f.t.m),.int .u64 (N (x.s i).v.f.s.lo),.int .u64 (N (x.s i).v.f.s.hi),.int .i64 (x.s i).v.i,.int .i64 (x.s i).v.off,.int .u8 (N8 (x.s i).p)] else Q115 x.slots (i*8) 8:=by
 split
 · exact x.slots_slot Y2
 · rfl
@[go_sem] theorem Q1ag (x:St)(i:Nat):x.cells[77+i*8+7]?=if i<64 then some (.int .u8 (N8 (x.s i).p)) else Q18j x.cells (77+i*8+7):=by
 split
 · exact x.cells_put Y2
 · rfl
@[go_sem] theorem Q197 (x:St)(i:Nat):x.cells[77+i*8]?=if i<64 then some (.int .u8 (x.s i).v.k) else Q18j x.cells (77+i*8):=by
 split
 · exact x.cells_kind Y2
 · rfl
@[go_sem] theorem Q134 (x:St)(i:Nat)(hi:i<11)(k:Int)(a b c d:BitVec 64)(m o:Int):Q23 x.cells (i*7) #[.int .u8 k,.int .u64 (N a),.int .u64 (N b),.int .u64 (N c),.int .u64 (N d),.int .i64 m,.int .i64 o]=(x.setR i ⟨k,⟨⟨a,b⟩,⟨c,d⟩⟩,m,o⟩).cells:=x.put_reg hi ⟨k,⟨⟨a,b⟩,⟨c,d⟩⟩,m,o⟩
@[go_sem] theorem Q15w (x:St)(i:Nat)(hi:i<64)(k:Int)(a b c d:BitVec 64)(m o:Int):Q23 x.cells (77+i*8) #[.int .u8 k,.int .u64 (N a),.int .u64 (N b),.int .u64 (N c),.int .u64 (N d),.int .i64 m,.int .i64 o]=(x.setV i ⟨k,⟨⟨a,b⟩,⟨c,d⟩⟩,m,o⟩).cells:=x.put_slotv hi ⟨k,⟨⟨a,b⟩,⟨c,d⟩⟩,m,o⟩
@[go_sem] theorem Q116 (x:St)(i:Nat)(hi:i<64)(k:Int)(a b c d:BitVec 64)(m o:Int)(p:BitVec 8):Q23 x.cells (77+i*8) #[.int .u8 k,.int .u64 (N a),.int .u64 (N b),.int .u64 (N c),.int .u64 (N d),.int .i64 m,.int .i64 o,.int .u8 (N8 p)]=(x.setS i ⟨⟨k,⟨⟨a,b⟩,⟨c,d⟩⟩,m,o⟩,p⟩).cells:=x.put_slot hi ⟨⟨k,⟨⟨a,b⟩,⟨c,d⟩⟩,m,o⟩,p⟩
@[go_sem] theorem Q16x (x:St)(i:Nat)(hi:i<64)(p:BitVec 8):x.cells.setIfInBounds (77+i*8+7) (.int .u8 (N8 p))=(x.setP i p).cells:=x.put_slotp hi p
@[go_sem] theorem Q13p (w:World)(x:St)(i:Nat)(hi:i<11):Sem.run Tryz.prog (Instr.index 85 (.agg x.regs) (.int .i64 (i:Int))) w=.ok ((x.r i)) w:=by
 have h1:(0:Int)≤(i:Int)∧(i:Int)<((11:Nat):Int):=⟨Y1,Y1⟩;simp only[Instr.index,asIntOf,Sem.run_bind,Sem.run_pure,Result.andThen,run_underlying Tryz.underlying85,h1,and_self,if_true,Int.toNat_natCast,part,Tryz.isAgg84 w,Tryz.sizeOf84 w,x.regs_val hi];rfl
@[go_sem] theorem Q179 (w:World)(x:St)(i:Nat)(hi:i<64):Sem.run Tryz.prog (Instr.index 88 (.agg x.slots) (.int .i64 (i:Int))) w=.ok (.agg #[.int .u8 (x.s i).v.k,.int .u64 (N (x.s i).v.f.t.v),.int .u64 (N (x.s i).v.f.t.m),.int .u64 (N (x.s i).v.f.s.lo),.int .u64 (N (x.s i).v.f.s.hi),.int .i64 (x.s i).v.i,.int .i64 (x.s i).v.off,.int .u8 (N8 (x.s i).p)]) w:=by
 have h1:(0:Int)≤(i:Int)∧(i:Int)<((64:Nat):Int):=⟨Y1,Y1⟩;simp only[Instr.index,asIntOf,Sem.run_bind,Sem.run_pure,Result.andThen,run_underlying Tryz.underlying88,h1,and_self,if_true,Int.toNat_natCast,part,Tryz.isAgg87 w,Tryz.sizeOf87 w,x.slots_slot hi];rfl
end Hk
