/- A part of the proof of TopTwice. No condition but each statement's own. -/
import Derived.Shelf.Strconv.Itoa0
import Derived.Test.YtkgmipfmphlpgaaGreatK01
import Derived.Test.YtkgmipfmphlpgaaGreatK11
import Derived.Laws.Externs
import Derived.Shelf.Bits.Mul64
open Go Go.RowKit Go.Proofs
set_option linter.all false
set_option maxRecDepth 100000
set_option maxHeartbeats 20000000
namespace Hk
open Go Go.Shelf Go.Proofs
def Qy2:Go.Shelf.Ren:=⟨fun|129=>166|n=>n,fun|53=>76|3=>3|4=>4|46=>61|5=>5|9=>9|n=>n,fun|n=>n⟩
theorem Qr9:Go.Proofs.Lays.n129 Tryz.prog Qy2:={
 mixed:=Yc
 f129:=Tryz.func166.trans (congrArg some Yc)
 t3:=Tryz.underlying3
 a3:=Tryz.isAgg3
 z3:=Tryz.sizeOf3
 v3:=Tryz.zeroValue3
 t4:=Tryz.underlying4
 a4:=Tryz.isAgg4
 z4:=Tryz.sizeOf4
 v4:=Tryz.zeroValue4
 t5:=Tryz.underlying5
 a5:=Tryz.isAgg5
 z5:=Tryz.sizeOf5
 v5:=Tryz.zeroValue5
 t9:=Tryz.underlying9
 a9:=Tryz.isAgg9
 z9:=Tryz.sizeOf9
 v9:=Tryz.zeroValue9
 t46:=Tryz.underlying61
 a46:=Tryz.isAgg61
 z46:=Tryz.sizeOf61
 v46:=Tryz.zeroValue61
 t53:=Tryz.underlying76
 a53:=Tryz.isAgg76
 z53:=Tryz.sizeOf76
 v53:=Tryz.zeroValue76 }
theorem Q5w:∀ (f x:Nat),x<2 ^ f→Go.Lib.bitLenAux f x=ln x
 | 0,x,h=>by
   have:x=0:=Y5;subst this;rfl
 | f+1,x,h=>by
   unfold Go.Lib.bitLenAux;split
   · rename_i h0;subst h0;rfl
   · rename_i h0
     rw[Q5w f (x / 2) (by rw[Nat.pow_succ] at h;omega)];unfold ln;rw[if_neg h0];split
     · rename_i h1
       obtain rfl:x=1:=Y1;rfl
     · rename_i h1
       rw[Nat.log2_def x,if_pos Y1];omega
theorem Qlg (x:BitVec 64):Go.Lib.bitLen x.toNat=ln x.toNat:=Q5w 64 _ x.isLt
theorem Qy3 (x:BitVec 64)(w:World):Calls Tryz.prog 166 #[.int .u64 (N x)] w (RW.a w (.int .i64 (Fa.lnW x))):=by
 have h:=Any.bits_Len64 Qr9 (N x) w (Q2i x) (by have:=Q19p x;omega);refine h.mono fun e w' ⟨h1,h2⟩=>⟨?_,h2.symm⟩
 rw[h1,Q10j,Qlg];rfl
end Hk
namespace Hk
theorem Qqb (s:Sp)(w:World):Calls Tryz.prog 142 #[s] w (RB.a w ((Q2t s))):=by
 have h0:((Fa.lnW (s.lo ^^^ s.hi):Nat):Int).toNat=Fa.lnW (s.lo ^^^ s.hi):=Int.toNat_natCast _;have h1:0≤((Fa.lnW (s.lo ^^^ s.hi):Nat):Int):=Int.natCast_nonneg _;have h2:=Fa.msk_is (Fa.lnW (s.lo ^^^ s.hi)) (Fa.ln_64 _);go_enter Tryz.func142,Tryz.ntmps142;go_wp2_with (go_at_call 166;refine Y33 ?_);refine bodyPost_ret (v:=(Q2t s)) ?_ rfl ⟨rfl,Yb⟩;simp only[results,Tryz.results142];simp[*,go_sem,↓IntWalk.iteOmega,Fa.ranged_W];try (first|rfl|exact⟨rfl,rfl⟩)
theorem Qix (x0 y0:BitVec 64)(w:World):Calls Tryz.prog 142 #[(W2.a x0 y0)] w (RB.a w ((Q2t (⟨x0,y0⟩:Sp)))):=by
 exact Qqb (⟨x0,y0⟩:Sp) w
end Hk
namespace Hk
theorem Qb8 (ρ:Operand→Value)(op:Oper)(x:Operand)(b o:Nat)(c0 c1:Value)(ho:op.op=.load 78 x)(hx:ρ x=.pointer (some ⟨b,o,none⟩))(w:World)(h0:w.cell? ⟨b,o,none⟩=some c0)(h1:w.cell? ⟨b,o+1,none⟩=some c1) :
 (execOp ρ op).run Tryz.prog w=.ok (.value (.agg #[c0,c1])) w:=by
 obtain⟨dst,op,type,pos,after,guard⟩:=op;simp only at ho;subst ho
 go_simp
theorem Q3e {op:Oper}{a:Act}{C:World→Prop}{K:Act→Prop}{x:Operand}{b o:Nat}{c0 c1:Value}(ho:op.op=.load 78 x)(hx:a.eval x=.pointer (some ⟨b,o,none⟩))
 (h:∀ w,C w→w.cell? ⟨b,o,none⟩=some c0∧w.cell? ⟨b,o+1,none⟩=some c1) (hk:K (a.put op.dst (.agg #[c0,c1]))):op.quiet Tryz.prog a C K :=
 Qt (v:=.agg #[c0,c1]) (fun w hC=>by unfold Oper.quietAt;obtain⟨h0,h1⟩:=h w hC;rw[Qb8 _ op x b o c0 c1 ho hx w h0 h1];exact⟨rfl,rfl⟩) hk
theorem Qb9 (ρ:Operand→Value)(op:Oper)(x:Operand)(b o:Nat)(c0 c1:Value)(ho:op.op=.load 80 x)(hx:ρ x=.pointer (some ⟨b,o,none⟩))(w:World)(h0:w.cell? ⟨b,o,none⟩=some c0)(h1:w.cell? ⟨b,o+1,none⟩=some c1) :
 (execOp ρ op).run Tryz.prog w=.ok (.value (.agg #[c0,c1])) w:=by
 obtain⟨dst,op,type,pos,after,guard⟩:=op;simp only at ho;subst ho
 go_simp
theorem Q3f {op:Oper}{a:Act}{C:World→Prop}{K:Act→Prop}{x:Operand}{b o:Nat}{c0 c1:Value}(ho:op.op=.load 80 x)(hx:a.eval x=.pointer (some ⟨b,o,none⟩))
 (h:∀ w,C w→w.cell? ⟨b,o,none⟩=some c0∧w.cell? ⟨b,o+1,none⟩=some c1) (hk:K (a.put op.dst (.agg #[c0,c1]))):op.quiet Tryz.prog a C K :=
 Qt (v:=.agg #[c0,c1]) (fun w hC=>by unfold Oper.quietAt;obtain⟨h0,h1⟩:=h w hC;rw[Qb9 _ op x b o c0 c1 ho hx w h0 h1];exact⟨rfl,rfl⟩) hk
theorem Qbf (ρ:Operand→Value)(op:Oper)(x:Operand)(b o:Nat)(c0 c1 c2 c3:Value)(ho:op.op=.load 82 x)(hx:ρ x=.pointer (some ⟨b,o,none⟩))(w:World)(h0:w.cell? ⟨b,o,none⟩=some c0)(h1:w.cell? ⟨b,o+1,none⟩=some c1)(h2:w.cell? ⟨b,o+2,none⟩=some c2)(h3:w.cell? ⟨b,o+3,none⟩=some c3) :
 (execOp ρ op).run Tryz.prog w=.ok (.value (.agg #[c0,c1,c2,c3])) w:=by
 obtain⟨dst,op,type,pos,after,guard⟩:=op;simp only at ho;subst ho
 go_simp
theorem Qz {op:Oper}{a:Act}{C:World→Prop}{K:Act→Prop}{x:Operand}{b o:Nat}{c0 c1 c2 c3:Value}(ho:op.op=.load 82 x)(hx:a.eval x=.pointer (some ⟨b,o,none⟩))
 (h:∀ w,C w→w.cell? ⟨b,o,none⟩=some c0∧w.cell? ⟨b,o+1,none⟩=some c1∧w.cell? ⟨b,o+2,none⟩=some c2∧w.cell? ⟨b,o+3,none⟩=some c3) (hk:K (a.put op.dst (.agg #[c0,c1,c2,c3]))):op.quiet Tryz.prog a C K :=
 Qt (v:=.agg #[c0,c1,c2,c3]) (fun w hC=>by unfold Oper.quietAt;obtain⟨h0,h1,h2,h3⟩:=h w hC;rw[Qbf _ op x b o c0 c1 c2 c3 ho hx w h0 h1 h2 h3];exact⟨rfl,rfl⟩) hk
theorem Qfi (ρ:Operand→Value)(op:Oper)(x:Operand)(b o:Nat)(c0:Value)(ho:op.op=.load 76 x)(hx:ρ x=.pointer (some ⟨b,o,none⟩))(w:World)(h0:w.cell? ⟨b,o,none⟩=some c0) :
 (execOp ρ op).run Tryz.prog w=.ok (.value c0) w:=by
 obtain⟨dst,op,type,pos,after,guard⟩:=op;simp only at ho;subst ho
 go_simp
theorem Q21 {op:Oper}{a:Act}{C:World→Prop}{K:Act→Prop}{x:Operand}{b o:Nat}{c0:Value}(ho:op.op=.load 76 x)(hx:a.eval x=.pointer (some ⟨b,o,none⟩))
 (h:∀ w,C w→w.cell? ⟨b,o,none⟩=some c0) (hk:K (a.put op.dst c0)):op.quiet Tryz.prog a C K :=
 Qt (v:=c0) (fun w hC=>by unfold Oper.quietAt;rw[Qfi _ op x b o c0 ho hx w (h w hC)];exact⟨rfl,rfl⟩) hk
end Hk
namespace Hk
theorem Qpq (a:Sp)(w:World):Calls Tryz.prog 139 #[a] w (RB.a w (.bool (a.right))):=by
 go_enter Tryz.func139,Tryz.ntmps139;go_wp2;go_ret;exact⟨by simp[Sp.right],Yb⟩
theorem Qil (x0 y0:BitVec 64)(w:World):Calls Tryz.prog 139 #[(W2.a x0 y0)] w (RB.a w (.bool (Sp.right (⟨x0,y0⟩:Sp)))):=by
 exact Qpq (⟨x0,y0⟩:Sp) w
theorem Q132  (w:World):Calls Tryz.prog 153 #[] w (RB.a w (Sp.all)):=by
 go_enter Tryz.func153,Tryz.ntmps153;go_wp2;refine bodyPost_ret (v:=Sp.all) ?_ rfl ⟨?_,Yb⟩
 · simp only[results,Tryz.results153];simp[*,go_sem,↓IntWalk.iteOmega];try (first|rfl|exact⟨rfl,rfl⟩)
 · rfl
theorem Q12z (a:Sp)(n:BitVec 64)(w:World):Calls Tryz.prog 147 #[a,.int .u64 (N n)] w (RB.a w (.bool (a.has n))):=by
 cases h1:decide (a.lo≤n)<;>cases h2:decide (n≤a.hi)
 all_goals
  go_enter Tryz.func147,Tryz.ntmps147;go_wp2;go_ret;exact⟨by simp[Sp.has, *],Yb⟩
theorem Qx9 (x0 y0:BitVec 64)(x1:BitVec 64)(w:World):Calls Tryz.prog 147 #[(W2.a x0 y0),.int .u64 (N x1)] w (RB.a w (.bool (Sp.has (⟨x0,y0⟩:Sp) x1))):=by
 exact Q12z (⟨x0,y0⟩:Sp) x1 w
theorem Qii (a b:Sp)(w:World):Calls Tryz.prog 109 #[a,b] w (RB.a w (.bool (a.within b))):=by
 cases ha:a.right<;>cases hb:b.right<;>cases h1:b.has a.lo<;>cases h2:b.has a.hi
 all_goals
  go_enter Tryz.func109,Tryz.ntmps109;go_wp2_with ((first|go_at_call 139|go_at_call 147);refine Yb0 ?_;intro w1 hb1 hc1 hf1 hz1);go_ret;exact⟨by simp[Sp.within, *],Yb⟩
theorem Qf1 (x0 y0:BitVec 64)(x1 y1:BitVec 64)(w:World):Calls Tryz.prog 109 #[(W2.a x0 y0),(W2.a x1 y1)] w (RB.a w (.bool (Sp.within (⟨x0,y0⟩:Sp) (⟨x1,y1⟩:Sp)))):=by
 exact Qii (⟨x0,y0⟩:Sp) (⟨x1,y1⟩:Sp) w
theorem Qww (a b:Sp)(w:World):Calls Tryz.prog 137 #[a,b] w (RB.a w ((Sp.join a b))):=by
 cases ha:a.right<;>cases hb:b.right
 all_goals
  go_enter Tryz.func137,Tryz.ntmps137;go_wp2_with (go_at_call 139;refine Y34 ?_;intro w1 hb1 hc1 hf1 hz1);refine bodyPost_ret (v:=(Sp.join a b)) ?_ rfl ⟨?_,Yb⟩
  · simp only[results,Tryz.results137];simp[*,go_sem,↓IntWalk.iteOmega];simp[Sp.join,ha,hb];try (first|rfl|exact⟨rfl,rfl⟩)
  · rfl
theorem Qpr (x0 y0:BitVec 64)(x1 y1:BitVec 64)(w:World):Calls Tryz.prog 137 #[(W2.a x0 y0),(W2.a x1 y1)] w (RB.a w ((Sp.join (⟨x0,y0⟩:Sp) (⟨x1,y1⟩:Sp)))):=by
 exact Qww (⟨x0,y0⟩:Sp) (⟨x1,y1⟩:Sp) w
end Hk
namespace Hk
theorem Qwv (a b:Sp)(w:World):Calls Tryz.prog 140 #[a,b] w (RB.a w (.tuple #[(Sp.meet a b),.bool (Sp.meetOk a b)])):=by
 cases ha:a.right<;>cases hb:b.right<;>cases hs:(Sp.both a b).right
 all_goals
  have hs':Sp.right ⟨Sp.mx a.lo b.lo,Sp.mn a.hi b.hi⟩=_:=hs;go_enter Tryz.func140,Tryz.ntmps140;go_wp2_with (go_at_call 139;refine Y34 ?_;intro w1 hb1 hc1 hf1 hz1);refine bodyPost_ret (v:=.tuple #[(Sp.meet a b),.bool (Sp.meetOk a b)]) ?_ rfl ⟨rfl,Yb⟩;simp only[results,Tryz.results140];simp[*,go_sem,↓IntWalk.iteOmega];simp[Sp.meet,Sp.meetOk,ha,hb,hs,hs',Sp.both];try (first|rfl|exact⟨rfl,rfl⟩)
theorem Q4l (x0 y0:BitVec 64)(x1 y1:BitVec 64)(w:World):Calls Tryz.prog 140 #[(W2.a x0 y0),(W2.a x1 y1)] w (RB.a w (.tuple #[(Sp.meet (⟨x0,y0⟩:Sp) (⟨x1,y1⟩:Sp)),.bool (Sp.meetOk (⟨x0,y0⟩:Sp) (⟨x1,y1⟩:Sp))])):=by
 exact Qwv (⟨x0,y0⟩:Sp) (⟨x1,y1⟩:Sp) w
theorem Qf0 (a:Sp)(n:BitVec 64)(w:World):Calls Tryz.prog 203 #[a,.int .u64 (N n)] w (RB.a w (.tuple #[((Sp.without a n).getD ⟨0,0⟩),.bool (Sp.without a n).isSome])):=by
 cases h1:(a.lo==n)<;>cases h2:(a.hi==n)
 all_goals
  first|(rw[Sp.wo_none h1 h2])|(rw[Sp.wo_lo h1 h2])|(rw[Sp.wo_hi h1 h2])|(rw[Sp.wo_same h1 h2])
  go_enter Tryz.func203,Tryz.ntmps203;go_wp2;refine bodyPost_ret ?_ rfl ⟨rfl,Yb⟩;simp only[results,Tryz.results203];simp[*,go_sem,↓IntWalk.iteOmega];try (first|rfl|exact⟨rfl,rfl⟩)
theorem Qb3 (x0 y0:BitVec 64)(x1:BitVec 64)(w:World):Calls Tryz.prog 203 #[(W2.a x0 y0),.int .u64 (N x1)] w (RB.a w (.tuple #[((Sp.without (⟨x0,y0⟩:Sp) x1).getD ⟨0,0⟩),.bool (Sp.without (⟨x0,y0⟩:Sp) x1).isSome])):=by
 exact Qf0 (⟨x0,y0⟩:Sp) x1 w
theorem Qa1 (x y:BitVec 64)(w:World):(callFunc 201 #[.int .u64 (N x),.int .u64 (N y),.int .u64 0]).run Tryz.prog w=.ok (.value (.tuple #[.int .u64 (N (x+y)),.int .u64 (N (Sp.over x y))])) w:=by
 rw[run_callFunc_extern Tryz.func201 Yc Yc Yc (e:=add64Entry) Yc,run_add64 _ _ _ (Q2i x) (Q2i y) Y1 Y1]
 have e1:(N x+N y+0) % 18446744073709551616=N (x+y):=by
  unfold N;rw[BitVec.toNat_add];omega
 have e2:(N x+N y+0) / 18446744073709551616=N (Sp.over x y):=by
  have:=x.isLt;have:=y.isLt;unfold N Sp.over;split
  · show _=(0:Int);omega
  · show _=(1:Int);omega
 rw[e1,e2];rfl
@[go_sem ↓ high] theorem Q11m (x y:BitVec 64)(w:World):(callFunc 201 #[.int .u64 (N x),.int .u64 (N y),.int .u64 (N 0#64)]).run Tryz.prog w=.ok (.value (.tuple #[.int .u64 (N (x+y)),.int .u64 (N (Sp.over x y))])) w:=Qa1 x y w
attribute [go_sem ↓ high] Qa1
end Hk
namespace Hk
open Go Go.Shelf Go.Proofs
def Qxt:Go.Shelf.Ren:=⟨fun|264=>202|n=>n,fun|53=>76|46=>61|n=>n,fun|n=>n⟩
theorem Qqo:Go.Proofs.Lays.n264 Tryz.prog Qxt:={
 mixed:=Yc
 f264:=Tryz.func202.trans (congrArg some Yc)
 t46:=Tryz.underlying61
 a46:=Tryz.isAgg61
 z46:=Tryz.sizeOf61
 v46:=Tryz.zeroValue61
 t53:=Tryz.underlying76
 a53:=Tryz.isAgg76
 z53:=Tryz.sizeOf76
 v53:=Tryz.zeroValue76 }
theorem Qxv (x y:BitVec 64)(w:World):Calls Tryz.prog 202 #[.int .u64 (N x),.int .u64 (N y)] w (RW.a w (.tuple #[.int .u64 (N (Sp.mulHi x y)),.int .u64 (N (x*y))])):=by
 have h:=Any.bits_Mul64 Qqo x.toNat y.toNat x.isLt y.isLt w;refine h.mono fun e w' ⟨h1,h2⟩=>⟨?_,h2.symm⟩
 rw[h1,← Sp.mulHi_nat,← Sp.mul_nat];rfl
end Hk
namespace Hk
end Hk
namespace Hk
theorem settle_no1 (f:Fa)(h1:f.t.right=false)(w:World):Calls Tryz.prog 100 #[f] w (RB.a w (.tuple #[((Fa.settle f).getD Fa.zero),.bool (Fa.settle f).isSome])):=by
 rw[Fa.settle_no1 h1];exact Ymw
theorem settle_no2 (f:Fa)(h1:f.t.right=true)(h2:f.s.right=false)(w:World):Calls Tryz.prog 100 #[f] w (RB.a w (.tuple #[((Fa.settle f).getD Fa.zero),.bool (Fa.settle f).isSome])):=by
 rw[Fa.settle_no2 h1 h2];exact Ymw
def Q11y (g z:Fa)(s:Sp)(w wM:World)(w':World):Prop:=CFa.a w' w.heap.size g (CFa.a w' (w.heap.size+1) z (CSp.a w' wM.heap.size s ((∀ i,w'.frozen? ⟨w.heap.size,i,none⟩=false)∧(∀ i,w'.frozen? ⟨w.heap.size+1,i,none⟩=false)∧Below w.heap.size w w')))
theorem Qad {g z:Fa}{s:Sp}{w wM:World}:KC (Q11y g z s w wM):=by
 intro w' w1 h hb;obtain⟨k0,k1,k2,k3,k4,k5,k6,k7,k8,k9,k10,k11,k12⟩:=h;exact⟨Q0 hb k0,Q0 hb k1,Q0 hb k2,Q0 hb k3,Q0 hb k4,Q0 hb k5,Q0 hb k6,Q0 hb k7,Q0 hb k8,Q0 hb k9,Q7 hb k0 k10,Q7 hb k4 k11,Q8 k12 hb⟩
def Q10i (g:Fa)(w wr:World):Prop:=CFa.a wr w.heap.size g (CFa.a wr (w.heap.size+1) Fa.zero ((∀ o,wr.frozen? ⟨w.heap.size,o,none⟩=false)∧(∀ o,wr.frozen? ⟨w.heap.size+1,o,none⟩=false)∧w.heap.size+1<wr.heap.size∧Below w.heap.size w wr))
theorem Qfe (f:Fa)(h1:f.t.right=true)(h2:f.s.right=true)(w:World):Calls Tryz.prog 100 #[f] w (RB.a w (.tuple #[((Fa.settle f).getD Fa.zero),.bool (Fa.settle f).isSome])):=by
 have L0:=Lib.hid (Fa.left_start h1 h2);generalize hR:Fa.settle f=R at L0;have HR0:=Lib.hid hR;clear hR;go_enter Tryz.func100,Tryz.ntmps100;go_wp2_with ((with_reducible apply ic);refine Yb1 ?_;intro w1 hb1 hc1 hf1 hz1)
 go_loopg [] 65 (fun gk wr=>∃ g:Fa,Hid (Fa.Left R gk g)∧Q10i g w wr)
 case atStart =>
  refine⟨f,L0,?_⟩;unfold Q10i;refine⟨?_,?_,?_,?_,?_,?_,?_,?_,?_,?_,Y10,Yb⟩
  all_goals first|(intro o;simp[*,go_sem,↓IntWalk.iteOmega];done)|(simp[*,go_sem,↓IntWalk.iteOmega,Fa.zero];try rfl)
 case round =>
  obtain⟨g,HL,c0,c1,c2,c3,c4,c5,c6,c7,f0,f1,hz,hb⟩:=hrel;clear h1 h2 L0 HR0;obtain⟨m,rfl⟩:=Fa.left_pos HL.out;generalize hs:Sp.meet g.s ⟨g.t.v,g.t.v ||| g.t.m⟩=s;cases h1:Sp.meetOk g.s ⟨g.t.v,g.t.v ||| g.t.m⟩
  · have HR:=Lib.hid (Fa.left_none HL.out (Fa.round_n1 h1))
    clear HL;go_wp2_with fail;refine (Q4l _ _ _ _ _).mono ?_;refine Y2c ?_;intro wM hbwM hcwM hfwM hzwM;exact Ytr
  · generalize ht:Tn.meet g.t (Q2t s)=t
    cases h2:Tn.meetOk g.t (Q2t s)
    · have HR:=Lib.hid (Fa.left_none HL.out (Fa.round_n2 hs h1 h2))
      clear HL;go_wp2_with fail;refine (Q4l _ _ _ _ _).mono ?_;rintro e wM ⟨rfl,hbwM⟩;obtain⟨hcwM,hfwM,hzwM⟩:=Q17 hbwM;(try simp only[World.size_alloc,World.size_setCell,World.size_drew] at hcwM hfwM hzwM)
      go_upto_region 6 with fail
      go_cut [5,6] (fun s5 s6 wx=>∃ b:Nat,s5=.bool false∧s6=.pointer (some ⟨b,0,none⟩)∧Q11y g Fa.zero s w wM wx∧wx.cell? ⟨b,0,none⟩=some (.int .u64 (N t.v))∧wx.cell? ⟨b,1,none⟩=some (.int .u64 (N t.m)))
      case first =>
       exact Ykk
      case rest =>
       exact Ylo
    · have hr:=Lib.hid (Fa.round_s hs ht h1 h2)
      cases h3:(t.v==g.t.v)
      · have HL2:=Lib.hid (Fa.left_go HL.out hr.out (Fa.tn_ne (.inl h3)))
        exact Yjm
      · cases h4:(t.m==g.t.m)
        · have HL2:=Lib.hid (Fa.left_go HL.out hr.out (Fa.tn_ne (.inr h4)))
          exact Yjm
        · have HR:=Lib.hid (Fa.left_same HL.out hr.out (Fa.tn_eq h3 h4))
          clear HL hr;go_wp2_with fail;refine (Q4l _ _ _ _ _).mono ?_;rintro e wM ⟨rfl,hbwM⟩;obtain⟨hcwM,hfwM,hzwM⟩:=Q17 hbwM;(try simp only[World.size_alloc,World.size_setCell,World.size_drew] at hcwM hfwM hzwM)
          go_upto_region 6 with fail
          go_cut [5,6] (fun s5 s6 wx=>∃ b:Nat,s5=.bool true∧s6=.pointer (some ⟨b,0,none⟩)∧Q11y g Fa.zero s w wM wx∧wx.cell? ⟨b,0,none⟩=some (.int .u64 (N t.v))∧wx.cell? ⟨b,1,none⟩=some (.int .u64 (N t.m)))
          case first =>
           exact Ykk
          case rest =>
           exact Ylo
end Hk
