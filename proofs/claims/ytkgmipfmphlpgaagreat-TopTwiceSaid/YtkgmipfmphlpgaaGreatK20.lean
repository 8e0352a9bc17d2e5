/- A part of the proof of TopTwice. No condition but each statement's own. -/
import Derived.Test.YtkgmipfmphlpgaaGreatK19
open Go Go.RowKit Go.Proofs
set_option linter.all false
set_option maxRecDepth 100000
set_option maxHeartbeats 20000000
namespace Hk
theorem Q3n {ops:Array Oper}{rest:List Oper}{o:Oper}{a:Act}{w:World}{Q:Exit→Act→World→Prop}(hg:o.guard=none)(x y:Operand)(ho:o.op=.build 93 #[(0,x),(1,y)])(n:Int)(s:St)(hx:a.eval x=.int .i64 n)(hy:a.eval y=.agg s.cells)
 (h:wpList Tryz.prog ops Q rest (a.put o.dst (.agg (Q2n n s))) w):wpList Tryz.prog ops Q (o :: rest) a w :=
 wpList_plain hg fun K hK=>by
  unfold Oper.wp;simp[execOp,ho,hx,hy,Q4m,Result.andThen];exact hK _ _ h
theorem Q35 {ops:Array Oper}{rest:List Oper}{o:Oper}{a:Act}{w:World}{Q:Exit→Act→World→Prop}(hg:o.guard=none)(s x:Operand)
 (ho:o.op=.call { callee:=.builtin .append,args:=#[s,x],argTypes:=#[95,95] }) (ho2:o.type=95) (B:Nat) (ws:List Wy) (n:Nat) (hn:n=ws.length) (v:Value) (hs:a.eval s=v) (hown:w.ownsRow B 93 590 v n (Q1p ws)) (gb:Nat) (y:Wy)
 (hx:a.eval x=.slice (some ⟨gb,0,none⟩) 1 1) (hb:blk w gb=Q2n y.at_ y.s) (hl:ws.length≤1000) (hB:B≤w.heap.size)
 (h:∀ v' w',w'.ownsRow B 93 590 v' (ws++[y]).length (Q1p (ws++[y]))→w.grownBy w' v.ownBlock→wpList Tryz.prog ops Q rest (a.put o.dst v') w'):wpList Tryz.prog ops Q (o :: rest) a w:=by
 obtain⟨it,z,h1,h2,h3,h4,h5⟩:=Q4k;subst hn;have h6:Q1p [y]=(Q2n y.at_ y.s).toList:=by simp[Q1p]
 refine wpList_append_own w hg s x 95 ho B 93 it z 590 4720 Tryz.underlying95 h1 h4 h2 h3 h5 Y0 v ws.length (Q1p ws) hs hown ⟨gb,0,none⟩ 1 1 (Q1p [y]) hx (by rw[Q5p];rfl) (fun j u hu=>?_) (Qi2 _) Yk Y1 hB fun v' w' h7 h8 _=>h v' w' ?_ h8
 · rw[Q7k,Q1b,hb];rw[h6] at hu;simpa using hu
 · rw[Q8n,List.length_append];exact h7
attribute [-go_sem] Qm
def WyC (tb g n:Nat)(v:Value)(ws:List Wy)(X:Sx)(t:St)(w0 w:World)(w':World):Prop:=w'.cell? ⟨g,0,none⟩=some (.slice (some ⟨X.b,0,none⟩) X.l.length X.c)∧w'.cell? ⟨g,3,none⟩=some (.int .i64 X.at_)∧Q1e w' g X∧blk w' tb=(t).cells∧w'.ownsRow w0.heap.size 93 590 v n (Q1p ws)∧Below w.heap.size w w'
theorem Qtc {tb g n:Nat}{v:Value}{ws:List Wy}{X:Sx}{t:St}{w0 w:World}:KC (WyC tb g n v ws X t w0 w):=by
 intro w' w1 h hb;obtain⟨k0,k1,k2,k3,k4,k5⟩:=h;exact⟨Q0 hb k0,Q0 hb k1,(k2).keep hb,Q12 hb k3 Y13,Qd k4 hb,Q8 k5 hb⟩
theorem Qvk (g:Nat)(X:Sx)(next target:St)(goes hops:Bool)(w:World)(hX:Q1e w g X)(hlen:X.l.length≤100000)(hlt:X.at_<X.l.length):Calls Tryz.prog 93 #[.pointer (some ⟨g,0,none⟩),.agg next.cells,.bool goes,.agg target.cells,.bool hops] w (fun en w'=>∃ vv,en=.returned vv∧w'.ownsRow w.heap.size 93 590 vv (Co.waysW X next goes target hops).length (Q1p (Co.waysW X next goes target hops))∧Below w.heap.size w w'):=by
 refine Yvt ?_;intro zg hXb;obtain⟨a0,a1,a2,a3,-⟩:=hX.cells;cases goes<;>cases hops
 · have EE:=Lib.hid (show Co.waysW X next false target false=[] from rfl)
   rw[EE.out];go_enter Tryz.func93,Tryz.ntmps93;go_wp2;go_ret;exact⟨_,rfl,Qy,Y14⟩
 · have EE:=Lib.hid (show Co.waysW X next false target true=[⟨Co.target X.l X.at_,target⟩] from rfl)
   rw[EE.out];go_enter Tryz.func93,Tryz.ntmps93;go_wp2;refine Ql (WyC (w.heap.size+1) g 0 (.slice none 0 0) [] X target w w) Yc Yc ?_ ?_
   · refine⟨?_,?_,?_,?_,?_,Y14⟩
     all_goals first|assumption|(with_reducible exact hX.keep Y14)|(exact Qy)|(simp (maxDischargeDepth:=12) [*,go_sem,↓IntWalk.iteOmega];done)|(intro i;simp (maxDischargeDepth:=12) [*,go_sem,↓IntWalk.iteOmega];done)
   refine Yv4 ?_;intro hN
   repeat refine Ydb ?_
   refine wpQuiet_nil ?_;intro w9 hC;obtain⟨k0,k1,k2,k3,k4,k5⟩:=hC;have z0:=Q1 k0;have hz9:=k5.size;go_wp2_with (first|(refine Q3n rfl (.tmp 32) (.tmp 33) rfl _ target rfl rfl ?_)|(refine Q5e rfl (.tmp 34) rfl _ target rfl ?_)|(at_builtin;refine Q35 rfl (.tmp 31) (.tmp 35) rfl rfl w.heap.size [] 0 rfl (.slice none 0 0) rfl (k4.alloc _) w9.heap.size ⟨Co.target X.l X.at_,target⟩ rfl (by rw[Q9x,if_neg Y1,if_pos rfl]) Y3 Y4 ?_;intro v4 w4 hown4 hg4));exact Ynu
 · have EE:=Lib.hid (show Co.waysW X next true target false=[Co.onW X next] from rfl)
   rw[EE.out];go_enter Tryz.func93,Tryz.ntmps93;go_wp2_with (go_at_call 110;refine Y44 ?_;intro w3 v3 hown3 hb3 hc3 hf3 hz3 hk3);go_ret;exact⟨_,rfl,Q1a hown3 Y15,Y14⟩
 · have EE:=Lib.hid (show Co.waysW X next true target true=[Co.onW X next,⟨Co.target X.l X.at_,target⟩] from rfl)
   rw[EE.out];go_enter Tryz.func93,Tryz.ntmps93;go_wp2_with (go_at_call 110;refine Y44 ?_;intro w3 v3 hown3 hb3 hc3 hf3 hz3 hk3);refine Ql (WyC (w.heap.size+1) g 1 v3 [Co.onW X next] X target w w) Yc Yc ?_ ?_
   · refine⟨?_,?_,?_,?_,?_,Y14⟩
     all_goals first|assumption|(with_reducible exact hX.keep Y14)|(exact Qdd (Q1a hown3 Y15))|(simp (maxDischargeDepth:=12) [*,go_sem,↓IntWalk.iteOmega];done)|(intro i;simp (maxDischargeDepth:=12) [*,go_sem,↓IntWalk.iteOmega];done)
   refine Yv4 ?_;intro hN
   repeat refine Ydb ?_
   refine wpQuiet_nil ?_;intro w9 hC;obtain⟨k0,k1,k2,k3,k4,k5⟩:=hC;have z0:=Q1 k0;have hz9:=k5.size;go_wp2_with (first|(refine Q3n rfl (.tmp 32) (.tmp 33) rfl _ target rfl rfl ?_)|(refine Q5e rfl (.tmp 34) rfl _ target rfl ?_)|(at_builtin;refine Q35 rfl (.tmp 31) (.tmp 35) rfl rfl w.heap.size [Co.onW X next] 1 rfl v3 rfl (k4.alloc _) w9.heap.size ⟨Co.target X.l X.at_,target⟩ rfl (by rw[Q9x,if_neg Y1,if_pos rfl]) Y3 Y4 ?_;intro v4 w4 hown4 hg4));exact Ynu
end Hk
