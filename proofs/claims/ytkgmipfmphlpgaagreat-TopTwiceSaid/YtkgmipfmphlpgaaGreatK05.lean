/- A part of the proof of TopTwice. No condition but each statement's own. -/
import Derived.Test.YtkgmipfmphlpgaaGreatK04
open Go Go.RowKit Go.Proofs
set_option linter.all false
set_option maxRecDepth 100000
set_option maxHeartbeats 20000000
namespace Hk
def JmC (x:In)(b r:Nat)(w:World)(d:Nat→Bool)(ν:Nat→Nat × Nat)(w':World):Prop:=CIn.a w' b x (CWh.a w' r Wh.none ((∀ i,w'.frozen? ⟨r,i,none⟩=false)∧(d 11=true→w'.cell? ⟨(ν 11).1,0,none⟩=some (bif d 12 then .int .u8 10 else .int .u8 0))∧(d 11=true→w'.cell? ⟨(ν 11).1,1,none⟩=some (bif d 12 then .int .u8 (N8 (x.op &&& 240#8)) else .int .u8 0))∧(d 11=true→w'.cell? ⟨(ν 11).1,2,none⟩=some (bif d 12 then .bool (Co.cls x==5#8) else .bool false))∧(d 11=true→w'.cell? ⟨(ν 11).1,3,none⟩=some (bif d 12 then .bool (!(x.op &&& 8#8==0#8)) else .bool false))∧(d 11=true→w'.cell? ⟨(ν 11).1,4,none⟩=some (bif d 12 then .bool false else .bool false))∧(d 11=true→w'.cell? ⟨(ν 11).1,5,none⟩=some (bif d 12 then .int .i64 0 else .int .i64 0))∧(d 11=true→∀ i,w'.frozen? ⟨(ν 11).1,i,none⟩=false)∧(d 11=true→r+1≤(ν 11).1)∧r+1≤w'.heap.size∧Below w.heap.size w w'))
theorem Qed {x:In}{b r:Nat}{w:World}:KT (JmC x b r w):=by
 exact Yl5
theorem Qun {x:In}{b r:Nat}{w:World}:MT (JmC x b r w) [11,12]:=by
 intro d d' ν w' hd h;unfold JmC at *;simpa only[← hd 11 Y3,← hd 12 Y3] using h
theorem Q10s {x:In}{b r:Nat}{w:World}:NT (JmC x b r w) [11]:=by
 intro i hi d ν c w' hd h;unfold JmC at *;exact Ypy
def JmD (x:In)(b g r:Nat)(w:World)(d:Nat→Bool)(ν:Nat→Nat × Nat)(w':World):Prop:=CIn.a w' b x (w'.cell? ⟨g,0,none⟩=some (.int .u8 10)∧w'.cell? ⟨g,1,none⟩=some (.int .u8 (N8 (x.op &&& 240#8)))∧w'.cell? ⟨g,2,none⟩=some (.bool (Co.cls x==5#8))∧w'.cell? ⟨g,3,none⟩=some (.bool (!(x.op &&& 8#8==0#8)))∧w'.cell? ⟨g,4,none⟩=some (.bool false)∧w'.cell? ⟨g,5,none⟩=some (.int .i64 0)∧w'.cell? ⟨r,0,none⟩=some (bif d 8 then .int .u8 10 else .int .u8 Wh.none.kind)∧w'.cell? ⟨r,1,none⟩=some (bif d 8 then .int .u8 (N8 (x.op &&& 240#8)) else .int .u8 (N8 Wh.none.op))∧w'.cell? ⟨r,2,none⟩=some (bif d 8 then .bool (Co.cls x==5#8) else .bool Wh.none.wide)∧w'.cell? ⟨r,3,none⟩=some (bif d 8 then .bool (!(x.op &&& 8#8==0#8)) else .bool Wh.none.reg)∧w'.cell? ⟨r,4,none⟩=some (bif d 8 then .bool false else .bool Wh.none.signed)∧w'.cell? ⟨r,5,none⟩=some (bif d 8 then .int .i64 0 else .int .i64 Wh.none.size)∧(∀ i,w'.frozen? ⟨r,i,none⟩=false)∧r+1≤w'.heap.size∧Below w.heap.size w w')
theorem Qum {x:In}{b g r:Nat}{w:World}:KT (JmD x b g r w):=by
 exact Yli
theorem Qul {x:In}{b g r:Nat}{w:World}:MT (JmD x b g r w) [8]:=by
 intro d d' ν w' hd h;unfold JmD at *;simpa only[← hd 8 Y3] using h
theorem Qst (x:In)(w:World):Calls Tryz.prog 53 #[x] w (RB.a w (.tuple #[(Co.jumpsW x),.bool (Co.jumpsB x)])):=by
 go_enter Tryz.func53,Tryz.ntmps53;go_wp2_with (first|fail);refine Q2 (JmC x w.heap.size (w.heap.size+1) w) [11,12] [11] (fun _ c=>.pointer (some ⟨c.1,0,none⟩)) rfl Yc ?_ (fun d d' ν w'=>Qun d d' ν w') (fun d ν w' w1=>Qed d ν w' w1) (fun i hi d ν c w'=>Q10s i hi d ν c w') ?_
 · exact Ylu
 apply Exists.intro;refine⟨fun ν=>?_,?_,?_⟩
 · (try simp only[List.append])
   iterate 11 refine Ycn ?_
   (refine Qq Y0 Yc (fun d w' hd hC=>?_) ?_
    · have r:=hd.open_
      have q12:d 12=false:=by
       exact Ys5
      refine Yv5 ?_;have hz0:=hC;obtain⟨-,-,-,-,-,-,-,-,-,-,-,-,-,-,-,-,-,-,-,-,hz0,-⟩:=hz0;have hC:=Qed _ _ _ _ hC (Below.alloc (Below.refl _ w') (Nat.le_refl _) (.cells #[.int .u8 0,.int .u8 0,.bool false,.bool false,.bool false,.int .i64 0] 66));exact Yma
    simp only[Act.put,List.setIfInBounds_toArray,List.set_cons_succ,List.set_cons_zero,Nat.reduceAdd,Nat.zero_add])
   (refine Yco ?_);exact rfl
 · exact Yoo
 · intro ν w9 d hd hC
   obtain⟨k0,k1,k2,k3,k4,k5,k6,k7,k8,k9,k10,k11,k12,k13,k14,k15,k16,k17,k18,k19,k20,k21⟩:=hC;have q11:=hd 11 Y0;have q12:=hd 12 Y0;simp only[q11,q12,cond_true,cond_false,forall_const,true_implies] at k0 k1 k2 k3 k4 k5 k6 k7 k8 k9 k10 k11 k12 k13 k14 k15 k16 k17 k18 k19 k20 k21;clear q11 q12;clear hd;have z0:=Q1 k0;have z5:=Q1 k5;have z12:=Q1 k12;cases h1:(x.op==5#8)
   case' false=>cases h2:(x.op==6#8)
   case' false.false=>cases h3:(x.op==133#8)
   case' false.false.false=>cases h4:(x.op==149#8)
   all_goals
    go_upto_if 66 with (go_at_call 71;refine Y2d ?_;intro w1 hb1 hc1 hf1 hz1)
    all_goals
     first
      | (go_cut [66] (fun s66 wx=>s66=.bool (Co.branchOp (x.op &&& 240#8))∧wx=w9)
         case first =>
          go_wp2_with fail
          all_goals (go_meet;exact⟨by simp[*,Co.branchOp],rfl⟩)
         case rest =>
          obtain⟨rfl,rfl⟩:=hcut;cases hbr:Co.branchOp (x.op &&& 240#8)
          · go_wp2
            refine bodyPost_ret (Q1i (fn:=Tryz.f53) rfl _ _ (w.heap.size+1) (Co.jumpsW x) (Co.jumpsB x) rfl ?_ ?_ ?_ ?_ ?_ ?_ ?_) rfl ⟨rfl,Yb⟩
            all_goals simp (maxDischargeDepth:=12) [*,go_sem,↓IntWalk.iteOmega,Qb,Co.zeros,Co.jumpsW,Co.jumpsB,Co.brW,Co.kindW,Co.cls,Wh.none]
          · go_wp2_with fail
            refine Q2 (JmD x w.heap.size (ν 11).1 (w.heap.size+1) w) [8] [] (fun _ c=>.pointer (some ⟨c.1,0,none⟩)) rfl Yc ?_ (fun d d' ν w'=>Qul d d' ν w') (fun d ν w' w1=>Qum d ν w' w1) (fun i hi=>Yf0) ?_
            · exact Ylw
            apply Exists.intro;refine⟨fun ν=>?_,?_,?_⟩
            · (try simp only[List.append])
              iterate 8 refine Ycp ?_
              (refine Qh rfl rfl rfl rfl Yc (fun d w' hd hC=>?_) ?_
               · obtain⟨k0,k1,k2,k3,k4,k5,k6,k7,k8,k9,k10,k11,k12,k13,k14,k15,k16,k17,k18,k19⟩:=hC
                 (try have p8:=hd.ahead 8 Yd);have r:=hd.open_;refine⟨_,Yf,?_⟩
                 refine⟨?_,?_,?_,?_,?_,?_,?_,?_,?_,?_,?_,?_,?_,?_,?_,?_,?_,?_,?_,Yg⟩<;>first|(simp (maxDischargeDepth:=12) [*,upd,Qo,go_sem,↓IntWalk.iteOmega,Wh.none,Qb,Co.cls];done)|(intros;simp (maxDischargeDepth:=12) [*,upd,Qo,go_sem,↓IntWalk.iteOmega,Wh.none,Qb,Co.cls];done))
              iterate 1 refine Ycp ?_
              exact rfl
            · intro i hi;cases hi
            · intro ν w8 d hd hC
              obtain⟨k0,k1,k2,k3,k4,k5,k6,k7,k8,k9,k10,k11,k12,k13,k14,k15,k16,k17,k18,k19⟩:=hC;have q8:=hd 8 Y0;simp only[q8,cond_true,cond_false,forall_const,true_implies] at k0 k1 k2 k3 k4 k5 k6 k7 k8 k9 k10 k11 k12 k13 k14 k15 k16 k17 k18 k19;clear q8;clear hd;have z0:=Q1 k0;have z5:=Q1 k5;have z11:=Q1 k11;go_wp2;refine bodyPost_ret (Q1i (fn:=Tryz.f53) rfl _ _ (w.heap.size+1) (Co.jumpsW x) (Co.jumpsB x) rfl ?_ ?_ ?_ ?_ ?_ ?_ ?_) rfl ⟨rfl,Yb⟩
              all_goals simp (maxDischargeDepth:=12) [*,go_sem,↓IntWalk.iteOmega,Qb,Co.zeros,Co.jumpsW,Co.jumpsB,Co.brW,Co.kindW,Co.cls,Wh.none])
      | (refine bodyPost_ret (Q1i (fn:=Tryz.f53) rfl _ _ (w.heap.size+1) (Co.jumpsW x) (Co.jumpsB x) rfl ?_ ?_ ?_ ?_ ?_ ?_ ?_) rfl ⟨rfl,Yb⟩
         all_goals simp (maxDischargeDepth:=12) [*,go_sem,↓IntWalk.iteOmega,Qb,Co.zeros,Co.jumpsW,Co.jumpsB,Co.brW,Co.kindW,Co.branchOp,Co.cls,Wh.none])
end Hk
