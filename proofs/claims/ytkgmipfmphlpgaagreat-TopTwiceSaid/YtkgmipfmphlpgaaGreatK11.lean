/- A part of the proof of TopTwice. No condition but each statement's own. -/
import Derived.Test.YtkgmipfmphlpgaaGreatProg
import Derived.Test.YtkgmipfmphlpgaaGreatK00
open Go Go.RowKit Go.Proofs
set_option linter.all false
set_option maxRecDepth 100000
set_option maxHeartbeats 20000000
namespace Hk
attribute [go_sem] Tn.eta
theorem Qiw (a:Tn)(w:World):Calls Tryz.prog 138 #[a] w (RB.a w (.bool (a.right))):=by
 go_enter Tryz.func138,Tryz.ntmps138;go_wp2;go_ret;exact⟨rfl,Yb⟩
theorem Q152 (a b:Tn)(w:World):Calls Tryz.prog 146 #[a,b] w (RB.a w (.bool (a.right && b.right))):=by
 cases ha:a.right
 all_goals
  go_enter Tryz.func146,Tryz.ntmps146;go_wp2_with (go_at_call 138;refine Y2x ?_;intro w1 hb1 hc1 hf1 hz1);go_ret;exact⟨rfl,Yb⟩
theorem Q13k (v m:BitVec 64)(w:World):Calls Tryz.prog 165 #[.int .u64 (N v),.int .u64 (N m)] w (RB.a w ((Tn.made v m))):=by
 go_enter Tryz.func165,Tryz.ntmps165;go_wp2;refine bodyPost_ret (v:=(Tn.made v m)) ?_ rfl ⟨?_,Yb⟩
 · simp only[results,Tryz.results165];simp[*,go_sem,↓IntWalk.iteOmega];try (first|rfl|exact⟨rfl,rfl⟩)
 · rfl
theorem Q1a2 (n:BitVec 64)(w:World):Calls Tryz.prog 154 #[.int .u64 (N n)] w (RB.a w ((Tn.of n))):=by
 go_enter Tryz.func154,Tryz.ntmps154;go_wp2;refine bodyPost_ret (v:=(Tn.of n)) ?_ rfl ⟨?_,Yb⟩
 · simp only[results,Tryz.results154];simp[*,go_sem,↓IntWalk.iteOmega];try (first|rfl|exact⟨rfl,rfl⟩)
 · rfl
theorem Q17v (a b:Tn)(w:World):Calls Tryz.prog 199 #[a,b] w (RB.a w ((Tn.add a b))):=by
 go_enter Tryz.func199,Tryz.ntmps199;go_wp2_with (go_at_call 165;refine Y2y ?_;intro w1 hb1 hc1 hf1 hz1);refine bodyPost_ret (v:=(Tn.add a b)) ?_ rfl ⟨?_,Yb⟩
 · simp only[results,Tryz.results199];simp[*,go_sem,↓IntWalk.iteOmega];try (first|rfl|exact⟨rfl,rfl⟩)
 · rfl
end Hk
namespace Hk
theorem Qoa (a b:Tn)(w:World):Calls Tryz.prog 108 #[a,b] w (RB.a w (.bool (a.within b))):=by
 cases ha:a.right<;>cases hb:b.right<;>cases hm:(a.m &&& ~~~b.m==0#64)
 all_goals
  go_enter Tryz.func108,Tryz.ntmps108;go_wp2_with (go_at_call 146;refine Y2z ?_;intro w1 hb1 hc1 hf1 hz1);go_ret;exact⟨by simp[Tn.within,ha,hb,hm],Yb⟩
theorem Q13o (a b:Tn)(w:World):Calls Tryz.prog 136 #[a,b] w (RB.a w ((Tn.join a b))):=by
 cases ha:a.right<;>cases hb:b.right
 all_goals
  go_enter Tryz.func136,Tryz.ntmps136;go_wp2_with ((first|go_at_call 146|go_at_call 165);refine Yax ?_;intro w1 hb1 hc1 hf1 hz1);refine bodyPost_ret (v:=(Tn.join a b)) ?_ rfl ⟨?_,Yb⟩
  · simp only[results,Tryz.results136];simp[*,go_sem,↓IntWalk.iteOmega];simp[Tn.join,ha,hb];try (first|rfl|exact⟨rfl,rfl⟩)
  · rfl
theorem Q13j (a b:Tn)(w:World):Calls Tryz.prog 141 #[a,b] w (RB.a w (.tuple #[(Tn.meet a b),.bool (Tn.meetOk a b)])):=by
 cases ha:a.right<;>cases hb:b.right<;>cases hm:((a.v ^^^ b.v) &&& ~~~(a.m ||| b.m)==0#64)
 all_goals
  go_enter Tryz.func141,Tryz.ntmps141;go_wp2_with ((first|go_at_call 146|go_at_call 165);refine Yax ?_;intro w1 hb1 hc1 hf1 hz1);refine bodyPost_ret (v:=.tuple #[(Tn.meet a b),.bool (Tn.meetOk a b)]) ?_ rfl ⟨?_,Yb⟩
  · simp only[results,Tryz.results141];simp[*,go_sem,↓IntWalk.iteOmega];simp[Tn.meet,Tn.meetOk,ha,hb,hm];try (first|rfl|exact⟨rfl,rfl⟩)
  · rfl
theorem Qzi (t:Tn)(k:Int)(hr:t.right=false)(w:World):Calls Tryz.prog 183 #[t,.int .i64 k] w (RB.a w ((Tn.cutI t k))):=by
 go_enter Tryz.func183,Tryz.ntmps183;go_wp2_with (go_at_call 138;refine Y2x ?_;intro w1 hb1 hc1 hf1 hz1);refine bodyPost_ret (v:=(Tn.cutI t k)) ?_ rfl ⟨rfl,Yb⟩;rw[Tn.cutI_no hr];exact Ypw
theorem Qsg (t:Tn)(k:Int)(hr:t.right=true)(h:k<1)(w:World):Calls Tryz.prog 183 #[t,.int .i64 k] w (RB.a w ((Tn.cutI t k))):=by
 go_enter Tryz.func183,Tryz.ntmps183;go_wp2_with (go_at_call 138;refine Y2x ?_;intro w1 hb1 hc1 hf1 hz1);refine bodyPost_ret (v:=(Tn.cutI t k)) ?_ rfl ⟨rfl,Yb⟩;rw[Tn.cutI_out hr (.inl h)];exact Ypw
theorem Qsf (t:Tn)(k:Int)(hr:t.right=true)(h:63<k)(w:World):Calls Tryz.prog 183 #[t,.int .i64 k] w (RB.a w ((Tn.cutI t k))):=by
 have h2:¬ k<1:=Y1;go_enter Tryz.func183,Tryz.ntmps183;go_wp2_with (go_at_call 138;refine Y2x ?_;intro w1 hb1 hc1 hf1 hz1);refine bodyPost_ret (v:=(Tn.cutI t k)) ?_ rfl ⟨rfl,Yb⟩;rw[Tn.cutI_out hr (.inr h)];exact Ypw
theorem Q14r (t:Tn)(k:Int)(hr:t.right=true)(h0:1≤k)(h1:k≤63)(w:World):Calls Tryz.prog 183 #[t,.int .i64 k] w (RB.a w ((Tn.cutI t k))):=by
 have h2:¬ k<1:=Y1;have h3:¬ 63<k:=Y1;have h4:0≤k:=Y1;go_enter Tryz.func183,Tryz.ntmps183;go_wp2_with (go_at_call 138;refine Y2x ?_;intro w1 hb1 hc1 hf1 hz1);refine bodyPost_ret (v:=(Tn.cutI t k)) ?_ rfl ⟨rfl,Yb⟩;rw[Tn.cutI_in hr h0 h1];exact Ypw
theorem Q17j (t:Tn)(k:Int)(w:World):Calls Tryz.prog 183 #[t,.int .i64 k] w (RB.a w ((Tn.cutI t k))):=by
 cases hr:t.right
 · exact Qzi t k hr w
 by_cases h0:k<1
 · exact Qsg t k hr h0 w
 by_cases h1:63<k
 · exact Qsf t k hr h1 w
 exact Q14r t k hr Y1 Y1 w
end Hk
namespace Hk
theorem Qqp (a b:Tn)(j:Nat)(h:b.v >>> j ||| b.m >>> j=0#64):∀ k,Tn.mulTo a b (j+k)=Tn.mulTo a b j:=by
 intro k
 induction k with
 | zero=>rfl
 | succ k ih =>
   have h1:=Q89 h k;rw[Qcp,Q4y,Q4y,Q3l,Bool.or_eq_false_iff] at h1;rw[← Nat.add_assoc];rw[Tn.mulTo,h1.1,h1.2];exact ih
theorem Qxu (a b:Tn)(j:Nat)(hj:j≤64)(h:(b.v >>> j ||| b.m >>> j==0#64)=true):Tn.mulTo a b j=Tn.mul a b:=by
 have:=Qqp a b j Y5 (64 - j);rw[show j+(64 - j)=64 from Y1] at this;exact this.symm
theorem Qqn (b:Tn)(j:Nat)(hj:j≤64)(h:(b.v >>> j ||| b.m >>> j==0#64)=false):j<64:=by
 apply Classical.byContradiction;intro hn;have e:j=64:=Y1;subst e;have e1:∀ x:BitVec 64,x >>> 64=0#64:=fun x=>Q4z fun i hi=>by rw[Q4y,Q105 _ _ Y1,Q3l]
 rw[e1,e1] at h;simp at h
def Q10q (a b:Tn)(w:World)(j:Nat)(wr:World):Prop :=
 wr.cell? ⟨w.heap.size,0,none⟩=some (.int .u64 (N (a.v <<< j)))∧wr.cell? ⟨w.heap.size,1,none⟩=some (.int .u64 (N (a.m <<< j))) ∧
 wr.cell? ⟨w.heap.size+1,0,none⟩=some (.int .u64 (N (b.v >>> j)))∧wr.cell? ⟨w.heap.size+1,1,none⟩=some (.int .u64 (N (b.m >>> j))) ∧
 wr.cell? ⟨w.heap.size+1+1+1,0,none⟩=some (.int .u64 (N (Tn.mulTo a b j).v))∧wr.cell? ⟨w.heap.size+1+1+1,1,none⟩=some (.int .u64 (N (Tn.mulTo a b j).m)) ∧
 (wr.cell? ⟨w.heap.size+1+1,0,none⟩=some (.int .u64 (N 0#64)))∧(wr.cell? ⟨w.heap.size+1+1,1,none⟩=some (.int .u64 (N 0#64))) ∧
 (∀ o,wr.frozen? ⟨w.heap.size,o,none⟩=false)∧(∀ o,wr.frozen? ⟨w.heap.size+1,o,none⟩=false)∧(∀ o,wr.frozen? ⟨w.heap.size+1+1,o,none⟩=false)∧(∀ o,wr.frozen? ⟨w.heap.size+1+1+1,o,none⟩=false) ∧
 w.heap.size+1+1+1<wr.heap.size∧Below w.heap.size w wr
theorem Q173 (a b:Tn)(w:World):Calls Tryz.prog 200 #[a,b] w (RB.a w ((Tn.mul a b))):=by
 go_enter Tryz.func200,Tryz.ntmps200;go_wp2_with fail
 go_loopg [] 64 (fun g wr=>∃ j,j≤64∧g+j≤64∧64≤g+j∧Q10q a b w j wr)
 case atStart =>
  refine⟨0,Y1,Y1,Y1,?_⟩;unfold Q10q;refine⟨?_,?_,?_,?_,?_,?_,?_,?_,?_,?_,?_,?_,Yz,Yb⟩
  all_goals first|(intro o;simp[go_sem];done)|(simp[go_sem,Tn.mulTo];try rfl)
 case round =>
  obtain⟨j,hj0,hj1,hj2,c0,c1,c2,c3,c4,c5,c6,c7,f0,f1,f2,f3,hz,hb⟩:=hrel;cases h0:(b.v >>> j ||| b.m >>> j==0#64)
  · have hj:j<64:=Qqn b j hj0 h0
    have q1:=Qdx b.v j;have q2:=Qdx b.m j;cases hv:bt b.v j
    · cases hm:bt b.m j
      all_goals
       rw[hv] at q1;rw[hm] at q2;go_wp2_with (go_at_call 199;refine Y30 ?_;intro w1 hb1 hc1 hf1 hz1)
       go_roundg (gk - 1)
       case measure=>omega
       case rel =>
        exact Ymk
    · rw[hv] at q1
      go_wp2_with (go_at_call 199;refine Y30 ?_;intro w1 hb1 hc1 hf1 hz1)
      go_roundg (gk - 1)
      case measure=>omega
      case rel =>
       exact Ymk
  · have E:=Qxu a b j hj0 h0
    have HE:=Lib.hid E;clear E;go_wp2;refine bodyPost_ret (v:=(Tn.mul a b)) ?_ rfl ⟨rfl,Yb⟩;simp only[results,Tryz.results200];rw[← HE.out];simp[*,go_sem,↓IntWalk.iteOmega]
end Hk
namespace Hk
theorem Q14n (op:Int)(a b:Tn)(ha:a.right=false)(w:World):Calls Tryz.prog 181 #[.int .u8 op,a,b] w (RB.a w (.tuple #[((Tn.do_ (op) a b).getD ⟨0,0⟩),.bool (Tn.do_ (op) a b).isSome])):=by
 have E:Tn.do_ (op) a b=none:=by unfold Tn.do_;simp[ha]
 exact Ymz
theorem Q14m (op:Int)(a b:Tn)(ha:a.right=true)(hb:b.right=false)(w:World):Calls Tryz.prog 181 #[.int .u8 op,a,b] w (RB.a w (.tuple #[((Tn.do_ (op) a b).getD ⟨0,0⟩),.bool (Tn.do_ (op) a b).isSome])):=by
 have E:Tn.do_ (op) a b=none:=by unfold Tn.do_;simp[hb]
 exact Ymz
theorem Q14p (a b:Tn)(ha:a.right=true)(hb:b.right=true)(w:World):Calls Tryz.prog 181 #[.int .u8 0,a,b] w (RB.a w (.tuple #[((Tn.do_ (0) a b).getD ⟨0,0⟩),.bool (Tn.do_ (0) a b).isSome])):=by
 cases hk:(b.m==0#64)<;>cases hl:decide (b.v<64#64)
 all_goals
  have E:Tn.do_ (0) a b=some (Tn.add a b):=Yfm;rw[E];clear E;go_enter Tryz.func181,Tryz.ntmps181;go_wp2_with ((first|go_at_call 146|go_at_call 199);refine Yay ?_;intro w1 hb1 hc1 hf1 hz1);refine bodyPost_ret ?_ rfl ⟨rfl,Yb⟩;simp only[results,Tryz.results181];simp[*,go_sem,↓IntWalk.iteOmega];try (first|rfl|exact⟨rfl,rfl⟩)
theorem Q14l (a b:Tn)(ha:a.right=true)(hb:b.right=true)(w:World):Calls Tryz.prog 181 #[.int .u8 16,a,b] w (RB.a w (.tuple #[((Tn.do_ (16) a b).getD ⟨0,0⟩),.bool (Tn.do_ (16) a b).isSome])):=by
 cases hk:(b.m==0#64)<;>cases hl:decide (b.v<64#64)
 all_goals
  have E:Tn.do_ (16) a b=some (Tn.sub a b):=Yfm;rw[E];clear E;go_enter Tryz.func181,Tryz.ntmps181;go_wp2_with ((first|go_at_call 146|go_at_call 165);refine Yax ?_;intro w1 hb1 hc1 hf1 hz1);refine bodyPost_ret ?_ rfl ⟨rfl,Yb⟩;simp only[results,Tryz.results181];simp[*,go_sem,↓IntWalk.iteOmega];try (first|rfl|exact⟨rfl,rfl⟩)
theorem Q14o (a b:Tn)(ha:a.right=true)(hb:b.right=true)(w:World):Calls Tryz.prog 181 #[.int .u8 32,a,b] w (RB.a w (.tuple #[((Tn.do_ (32) a b).getD ⟨0,0⟩),.bool (Tn.do_ (32) a b).isSome])):=by
 cases hk:(b.m==0#64)<;>cases hl:decide (b.v<64#64)
 all_goals
  have E:Tn.do_ (32) a b=some (Tn.mul a b):=Yfm;rw[E];clear E;go_enter Tryz.func181,Tryz.ntmps181;go_wp2_with ((first|go_at_call 146|go_at_call 200);refine Yaz ?_;intro w1 hb1 hc1 hf1 hz1);refine bodyPost_ret ?_ rfl ⟨rfl,Yb⟩;simp only[results,Tryz.results181];simp[*,go_sem,↓IntWalk.iteOmega];try (first|rfl|exact⟨rfl,rfl⟩)
theorem do_and (a b:Tn)(ha:a.right=true)(hb:b.right=true)(w:World):Calls Tryz.prog 181 #[.int .u8 80,a,b] w (RB.a w (.tuple #[((Tn.do_ (80) a b).getD ⟨0,0⟩),.bool (Tn.do_ (80) a b).isSome])):=by
 cases hk:(b.m==0#64)<;>cases hl:decide (b.v<64#64)
 all_goals
  have E:Tn.do_ (80) a b=some (Tn.and a b):=Yfm;rw[E];clear E;go_enter Tryz.func181,Tryz.ntmps181;go_wp2_with (go_at_call 146;refine Y2z ?_;intro w1 hb1 hc1 hf1 hz1);refine bodyPost_ret ?_ rfl ⟨rfl,Yb⟩;simp only[results,Tryz.results181];simp[*,go_sem,↓IntWalk.iteOmega];try (first|rfl|exact⟨rfl,rfl⟩)
end Hk
namespace Hk
theorem Q17f (a b:Tn)(ha:a.right=true)(hb:b.right=true)(w:World):Calls Tryz.prog 181 #[.int .u8 64,a,b] w (RB.a w (.tuple #[((Tn.do_ (64) a b).getD ⟨0,0⟩),.bool (Tn.do_ (64) a b).isSome])):=by
 cases hk:(b.m==0#64)<;>cases hl:decide (b.v<64#64)
 all_goals
  have E:Tn.do_ (64) a b=some (Tn.or a b):=Yfm;rw[E];clear E;go_enter Tryz.func181,Tryz.ntmps181;go_wp2_with (go_at_call 146;refine Y2z ?_;intro w1 hb1 hc1 hf1 hz1);refine bodyPost_ret ?_ rfl ⟨rfl,Yb⟩;simp only[results,Tryz.results181];simp[*,go_sem,↓IntWalk.iteOmega];try (first|rfl|exact⟨rfl,rfl⟩)
theorem Q14k (a b:Tn)(ha:a.right=true)(hb:b.right=true)(w:World):Calls Tryz.prog 181 #[.int .u8 160,a,b] w (RB.a w (.tuple #[((Tn.do_ (160) a b).getD ⟨0,0⟩),.bool (Tn.do_ (160) a b).isSome])):=by
 cases hk:(b.m==0#64)<;>cases hl:decide (b.v<64#64)
 all_goals
  have E:Tn.do_ (160) a b=some (Tn.xor a b):=Yfm;rw[E];clear E;go_enter Tryz.func181,Tryz.ntmps181;go_wp2_with ((first|go_at_call 146|go_at_call 165);refine Yax ?_;intro w1 hb1 hc1 hf1 hz1);refine bodyPost_ret ?_ rfl ⟨rfl,Yb⟩;simp only[results,Tryz.results181];simp[*,go_sem,↓IntWalk.iteOmega];try (first|rfl|exact⟨rfl,rfl⟩)
theorem Qz8 (a b:Tn)(ha:a.right=true)(hb:b.right=true)(hk:(b.m==0#64)=true)(hl:decide (b.v<64#64)=true)(w:World):Calls Tryz.prog 181 #[.int .u8 96,a,b] w (RB.a w (.tuple #[((Tn.do_ (96) a b).getD ⟨0,0⟩),.bool (Tn.do_ (96) a b).isSome])):=by
 have E:Tn.do_ (96) a b=some ⟨a.v <<< b.v.toNat,a.m <<< b.v.toNat⟩:=Yfn;exact Ymz
theorem Qz7 (a b:Tn)(ha:a.right=true)(hb:b.right=true)(hk:(b.m==0#64)=true)(hl:decide (b.v<64#64)=false)(w:World):Calls Tryz.prog 181 #[.int .u8 96,a,b] w (RB.a w (.tuple #[((Tn.do_ (96) a b).getD ⟨0,0⟩),.bool (Tn.do_ (96) a b).isSome])):=by
 have E:Tn.do_ (96) a b=none:=Yfn;exact Ymz
theorem Qz6 (a b:Tn)(ha:a.right=true)(hb:b.right=true)(hk:(b.m==0#64)=false)(w:World):Calls Tryz.prog 181 #[.int .u8 96,a,b] w (RB.a w (.tuple #[((Tn.do_ (96) a b).getD ⟨0,0⟩),.bool (Tn.do_ (96) a b).isSome])):=by
 have E:Tn.do_ (96) a b=none:=by unfold Tn.do_;simp[ha,hb,Tn.moves,hk]
 exact Ymz
theorem do_rsh1 (a b:Tn)(ha:a.right=true)(hb:b.right=true)(hk:(b.m==0#64)=true)(hl:decide (b.v<64#64)=true)(w:World):Calls Tryz.prog 181 #[.int .u8 112,a,b] w (RB.a w (.tuple #[((Tn.do_ (112) a b).getD ⟨0,0⟩),.bool (Tn.do_ (112) a b).isSome])):=by
 have E:Tn.do_ (112) a b=some ⟨a.v >>> b.v.toNat,a.m >>> b.v.toNat⟩:=Yfn;exact Ymz
theorem do_rsh2 (a b:Tn)(ha:a.right=true)(hb:b.right=true)(hk:(b.m==0#64)=true)(hl:decide (b.v<64#64)=false)(w:World):Calls Tryz.prog 181 #[.int .u8 112,a,b] w (RB.a w (.tuple #[((Tn.do_ (112) a b).getD ⟨0,0⟩),.bool (Tn.do_ (112) a b).isSome])):=by
 have E:Tn.do_ (112) a b=none:=Yfn;exact Ymz
theorem Qz5 (a b:Tn)(ha:a.right=true)(hb:b.right=true)(hk:(b.m==0#64)=false)(w:World):Calls Tryz.prog 181 #[.int .u8 112,a,b] w (RB.a w (.tuple #[((Tn.do_ (112) a b).getD ⟨0,0⟩),.bool (Tn.do_ (112) a b).isSome])):=by
 have E:Tn.do_ (112) a b=none:=by unfold Tn.do_;simp[ha,hb,Tn.moves,hk]
 exact Ymz
theorem do_else (op:Int)(a b:Tn)(ha:a.right=true)(hb:b.right=true)(n0:¬ op=0)(n16:¬ op=16)(n32:¬ op=32)(n80:¬ op=80)(n64:¬ op=64)(n160:¬ op=160)(n96:¬ op=96)(n112:¬ op=112)(w:World):Calls Tryz.prog 181 #[.int .u8 op,a,b] w (RB.a w (.tuple #[((Tn.do_ (op) a b).getD ⟨0,0⟩),.bool (Tn.do_ (op) a b).isSome])):=by
 cases hk:(b.m==0#64)<;>cases hl:decide (b.v<64#64)
 all_goals
  have E:Tn.do_ (op) a b=none:=by unfold Tn.do_;simp[ha,hb,n0,n16,n32,n80,n64,n160,n96,n112]
  rw[E];clear E;go_enter Tryz.func181,Tryz.ntmps181;go_wp2_with (go_at_call 146;refine Y2z ?_;intro w1 hb1 hc1 hf1 hz1);refine bodyPost_ret ?_ rfl ⟨rfl,Yb⟩;simp only[results,Tryz.results181];simp[*,go_sem,↓IntWalk.iteOmega];try (first|rfl|exact⟨rfl,rfl⟩)
end Hk
namespace Hk
theorem Q1ab (op:Int)(a b:Tn)(w:World):Calls Tryz.prog 181 #[.int .u8 op,a,b] w (RB.a w (.tuple #[((Tn.do_ op a b).getD ⟨0,0⟩),.bool (Tn.do_ op a b).isSome])):=by
 cases ha:a.right
 · exact Q14n op a b ha w
 cases hb:b.right
 · exact Q14m op a b ha hb w
 by_cases n0:op=0
 · subst n0;exact Q14p a b ha hb w
 by_cases n16:op=16
 · subst n16;exact Q14l a b ha hb w
 by_cases n32:op=32
 · subst n32;exact Q14o a b ha hb w
 by_cases n80:op=80
 · subst n80;exact do_and a b ha hb w
 by_cases n64:op=64
 · subst n64;exact Q17f a b ha hb w
 by_cases n160:op=160
 · subst n160;exact Q14k a b ha hb w
 by_cases n96:op=96
 · subst n96
   cases hk:(b.m==0#64)
   · exact Qz6 a b ha hb hk w
   cases hl:decide (b.v<64#64)
   · exact Qz7 a b ha hb hk hl w
   exact Qz8 a b ha hb hk hl w
 by_cases n112:op=112
 · subst n112
   cases hk:(b.m==0#64)
   · exact Qz5 a b ha hb hk w
   cases hl:decide (b.v<64#64)
   · exact do_rsh2 a b ha hb hk hl w
   exact do_rsh1 a b ha hb hk hl w
 exact do_else op a b ha hb n0 n16 n32 n80 n64 n160 n96 n112 w
end Hk
namespace Hk
theorem Qqa (x0 y0:BitVec 64)(w:World):Calls Tryz.prog 138 #[(W2.a x0 y0)] w (RB.a w (.bool (Tn.right (⟨x0,y0⟩:Tn)))):=by
 exact Qiw (⟨x0,y0⟩:Tn) w
theorem Qhv (x0 y0:BitVec 64)(x1 y1:BitVec 64)(w:World):Calls Tryz.prog 108 #[(W2.a x0 y0),(W2.a x1 y1)] w (RB.a w (.bool (Tn.within (⟨x0,y0⟩:Tn) (⟨x1,y1⟩:Tn)))):=by
 exact Qoa (⟨x0,y0⟩:Tn) (⟨x1,y1⟩:Tn) w
theorem Qy7 (x0 y0:BitVec 64)(x1 y1:BitVec 64)(w:World):Calls Tryz.prog 136 #[(W2.a x0 y0),(W2.a x1 y1)] w (RB.a w ((Tn.join (⟨x0,y0⟩:Tn) (⟨x1,y1⟩:Tn)))):=by
 exact Q13o (⟨x0,y0⟩:Tn) (⟨x1,y1⟩:Tn) w
theorem Qk0 (x0 y0:BitVec 64)(x1 y1:BitVec 64)(w:World):Calls Tryz.prog 141 #[(W2.a x0 y0),(W2.a x1 y1)] w (RB.a w (.tuple #[(Tn.meet (⟨x0,y0⟩:Tn) (⟨x1,y1⟩:Tn)),.bool (Tn.meetOk (⟨x0,y0⟩:Tn) (⟨x1,y1⟩:Tn))])):=by
 exact Q13j (⟨x0,y0⟩:Tn) (⟨x1,y1⟩:Tn) w
theorem Q14s (x0 y0:BitVec 64)(x1:Int)(w:World):Calls Tryz.prog 183 #[(W2.a x0 y0),.int .i64 x1] w (RB.a w ((Tn.cutI (⟨x0,y0⟩:Tn) x1))):=by
 exact Q17j (⟨x0,y0⟩:Tn) x1 w
theorem Q17g (x0:Int)(x1 y1:BitVec 64)(x2 y2:BitVec 64)(w:World):Calls Tryz.prog 181 #[.int .u8 x0,(W2.a x1 y1),(W2.a x2 y2)] w (RB.a w (.tuple #[((Tn.do_ x0 (⟨x1,y1⟩:Tn) (⟨x2,y2⟩:Tn)).getD ⟨0,0⟩),.bool (Tn.do_ x0 (⟨x1,y1⟩:Tn) (⟨x2,y2⟩:Tn)).isSome])):=by
 exact Q1ab x0 (⟨x1,y1⟩:Tn) (⟨x2,y2⟩:Tn) w
end Hk
