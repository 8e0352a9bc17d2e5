/- A part of the proof of TopTwice. No condition but each statement's own. -/
import Derived.Test.YtkgmipfmphlpgaaGreatK05
import Derived.Test.YtkgmipfmphlpgaaGreatK07
open Go Go.RowKit Go.Proofs
set_option linter.all false
set_option maxRecDepth 100000
set_option maxHeartbeats 20000000
namespace Hk
def MoA (x:In)(b g r:Nat)(w:World)(d:Nat→Bool)(ν:Nat→Nat × Nat)(w':World):Prop:=CIn.a w' b x (w'.cell? ⟨g,0,none⟩=some (.int .u8 5)∧w'.cell? ⟨g,1,none⟩=some (.int .u8 (N8 0#8))∧w'.cell? ⟨g,2,none⟩=some (.bool false)∧w'.cell? ⟨g,3,none⟩=some (.bool false)∧w'.cell? ⟨g,4,none⟩=some (.bool (x.op &&& 224#8==128#8))∧w'.cell? ⟨g,5,none⟩=some (.int .i64 (Co.szOf x.op))∧w'.cell? ⟨r,0,none⟩=some (bif d 22 then .int .u8 5 else .int .u8 Wh.none.kind)∧w'.cell? ⟨r,1,none⟩=some (bif d 22 then .int .u8 (N8 0#8) else .int .u8 (N8 Wh.none.op))∧w'.cell? ⟨r,2,none⟩=some (bif d 22 then .bool false else .bool Wh.none.wide)∧w'.cell? ⟨r,3,none⟩=some (bif d 22 then .bool false else .bool Wh.none.reg)∧w'.cell? ⟨r,4,none⟩=some (bif d 22 then .bool (x.op &&& 224#8==128#8) else .bool Wh.none.signed)∧w'.cell? ⟨r,5,none⟩=some (bif d 22 then .int .i64 (Co.szOf x.op) else .int .i64 Wh.none.size)∧(∀ i,w'.frozen? ⟨r,i,none⟩=false)∧r+1≤w'.heap.size∧Below w.heap.size w w')
theorem Q8h {x:In}{b g r:Nat}{w:World}:KT (MoA x b g r w):=by
 exact Yli
theorem Q8g {x:In}{b g r:Nat}{w:World}:MT (MoA x b g r w) [22]:=by
 intro d d' ν w' hd h;unfold MoA at *;simpa only[← hd 22 Y3] using h
def MoB (x:In)(b g r:Nat)(w:World)(d:Nat→Bool)(ν:Nat→Nat × Nat)(w':World):Prop:=CIn.a w' b x (w'.cell? ⟨g,0,none⟩=some (.int .u8 6)∧w'.cell? ⟨g,1,none⟩=some (.int .u8 (N8 0#8))∧w'.cell? ⟨g,2,none⟩=some (.bool false)∧w'.cell? ⟨g,3,none⟩=some (.bool false)∧w'.cell? ⟨g,4,none⟩=some (.bool false)∧w'.cell? ⟨g,5,none⟩=some (.int .i64 (Co.szOf x.op))∧w'.cell? ⟨r,0,none⟩=some (bif d 8 then .int .u8 6 else .int .u8 Wh.none.kind)∧w'.cell? ⟨r,1,none⟩=some (bif d 8 then .int .u8 (N8 0#8) else .int .u8 (N8 Wh.none.op))∧w'.cell? ⟨r,2,none⟩=some (bif d 8 then .bool false else .bool Wh.none.wide)∧w'.cell? ⟨r,3,none⟩=some (bif d 8 then .bool false else .bool Wh.none.reg)∧w'.cell? ⟨r,4,none⟩=some (bif d 8 then .bool false else .bool Wh.none.signed)∧w'.cell? ⟨r,5,none⟩=some (bif d 8 then .int .i64 (Co.szOf x.op) else .int .i64 Wh.none.size)∧(∀ i,w'.frozen? ⟨r,i,none⟩=false)∧r+1≤w'.heap.size∧Below w.heap.size w w')
theorem Qud {x:In}{b g r:Nat}{w:World}:KT (MoB x b g r w):=by
 exact Yli
theorem Quc {x:In}{b g r:Nat}{w:World}:MT (MoB x b g r w) [8]:=by
 intro d d' ν w' hd h;unfold MoB at *;simpa only[← hd 8 Y3] using h
def MoC (x:In)(b g r:Nat)(w:World)(d:Nat→Bool)(ν:Nat→Nat × Nat)(w':World):Prop:=CIn.a w' b x (w'.cell? ⟨g,0,none⟩=some (.int .u8 7)∧w'.cell? ⟨g,1,none⟩=some (.int .u8 (N8 0#8))∧w'.cell? ⟨g,2,none⟩=some (.bool false)∧w'.cell? ⟨g,3,none⟩=some (.bool true)∧w'.cell? ⟨g,4,none⟩=some (.bool false)∧w'.cell? ⟨g,5,none⟩=some (.int .i64 (Co.szOf x.op))∧w'.cell? ⟨r,0,none⟩=some (bif d 4 then .int .u8 7 else .int .u8 Wh.none.kind)∧w'.cell? ⟨r,1,none⟩=some (bif d 4 then .int .u8 (N8 0#8) else .int .u8 (N8 Wh.none.op))∧w'.cell? ⟨r,2,none⟩=some (bif d 4 then .bool false else .bool Wh.none.wide)∧w'.cell? ⟨r,3,none⟩=some (bif d 4 then .bool true else .bool Wh.none.reg)∧w'.cell? ⟨r,4,none⟩=some (bif d 4 then .bool false else .bool Wh.none.signed)∧w'.cell? ⟨r,5,none⟩=some (bif d 4 then .int .i64 (Co.szOf x.op) else .int .i64 Wh.none.size)∧(∀ i,w'.frozen? ⟨r,i,none⟩=false)∧r+1≤w'.heap.size∧Below w.heap.size w w')
theorem Qub {x:In}{b g r:Nat}{w:World}:KT (MoC x b g r w):=by
 exact Yli
theorem Qua {x:In}{b g r:Nat}{w:World}:MT (MoC x b g r w) [4]:=by
 intro d d' ν w' hd h;unfold MoC at *;simpa only[← hd 4 Y3] using h
def MoD (x:In)(b g r:Nat)(w:World)(d:Nat→Bool)(ν:Nat→Nat × Nat)(w':World):Prop:=CIn.a w' b x (CWh.a w' r Wh.none (w'.cell? ⟨g,2,none⟩=some (.bool false)∧w'.cell? ⟨g,3,none⟩=some (.bool true)∧w'.cell? ⟨g,4,none⟩=some (.bool false)∧w'.cell? ⟨g,5,none⟩=some (.int .i64 (Co.szOf x.op))∧w'.cell? ⟨g,0,none⟩=some (bif d 4 then .int .u8 8 else .int .u8 0)∧w'.cell? ⟨g,1,none⟩=some (bif d 6 then .int .u8 (N8 (x.imm.setWidth 8)) else .int .u8 (N8 0#8))∧(∀ i,w'.frozen? ⟨r,i,none⟩=false)∧(∀ i,w'.frozen? ⟨g,i,none⟩=false)∧g+1≤w'.heap.size∧Below w.heap.size w w'))
theorem Qu9 {x:In}{b g r:Nat}{w:World}:KT (MoD x b g r w):=by
 intro d ν w' w1 h hb;obtain⟨k0,k1,k2,k3,k4,k5,k6,k7,k8,k9,k10,k11,k12,k13,k14,k15,k16,k17,k18,k19,k20⟩:=h;exact⟨Q0 hb k0,Q0 hb k1,Q0 hb k2,Q0 hb k3,Q0 hb k4,Q0 hb k5,Q0 hb k6,Q0 hb k7,Q0 hb k8,Q0 hb k9,Q0 hb k10,Q0 hb k11,Q0 hb k12,Q0 hb k13,Q0 hb k14,Q0 hb k15,Q0 hb k16,Q7 hb k5 k17,Q7 hb k11 k18,Nat.le_trans k19 hb.size,Q8 k20 hb⟩
theorem Qu8 {x:In}{b g r:Nat}{w:World}:MT (MoD x b g r w) [4,6]:=by
 intro d d' ν w' hd h;unfold MoD at *;simpa only[← hd 4 Y3,← hd 6 Y3] using h
def MoF (x:In)(b g r:Nat)(w:World)(d:Nat→Bool)(ν:Nat→Nat × Nat)(w':World):Prop:=CIn.a w' b x (w'.cell? ⟨g,0,none⟩=some (.int .u8 8)∧w'.cell? ⟨g,1,none⟩=some (.int .u8 (N8 (x.imm.setWidth 8)))∧w'.cell? ⟨g,2,none⟩=some (.bool false)∧w'.cell? ⟨g,3,none⟩=some (.bool true)∧w'.cell? ⟨g,4,none⟩=some (.bool false)∧w'.cell? ⟨g,5,none⟩=some (.int .i64 (Co.szOf x.op))∧w'.cell? ⟨r,0,none⟩=some (bif d 14 then .int .u8 8 else .int .u8 Wh.none.kind)∧w'.cell? ⟨r,1,none⟩=some (bif d 14 then .int .u8 (N8 (x.imm.setWidth 8)) else .int .u8 (N8 Wh.none.op))∧w'.cell? ⟨r,2,none⟩=some (bif d 14 then .bool false else .bool Wh.none.wide)∧w'.cell? ⟨r,3,none⟩=some (bif d 14 then .bool true else .bool Wh.none.reg)∧w'.cell? ⟨r,4,none⟩=some (bif d 14 then .bool false else .bool Wh.none.signed)∧w'.cell? ⟨r,5,none⟩=some (bif d 14 then .int .i64 (Co.szOf x.op) else .int .i64 Wh.none.size)∧(∀ i,w'.frozen? ⟨r,i,none⟩=false)∧(d 9=true→w'.cell? ⟨(ν 9).1,0,none⟩=some (.int .i32 (I32 (Co.tbl 0))))∧(d 9=true→w'.cell? ⟨(ν 9).1,1,none⟩=some (.int .i32 (I32 (Co.tbl 1))))∧(d 9=true→w'.cell? ⟨(ν 9).1,2,none⟩=some (.int .i32 (I32 (Co.tbl 2))))∧(d 9=true→w'.cell? ⟨(ν 9).1,3,none⟩=some (.int .i32 (I32 (Co.tbl 3))))∧(d 9=true→∀ i,w'.frozen? ⟨(ν 9).1,i,none⟩=false)∧(d 9=true→r+1≤(ν 9).1)∧r+1≤w'.heap.size∧Below w.heap.size w w')
theorem Qec {x:In}{b g r:Nat}{w:World}:KT (MoF x b g r w):=by
 intro d ν w' w1 h hb;obtain⟨k0,k1,k2,k3,k4,k5,k6,k7,k8,k9,k10,k11,k12,k13,k14,k15,k16,k17,k18,k19,k20,k21,k22,k23,k24,k25⟩:=h;exact⟨Q0 hb k0,Q0 hb k1,Q0 hb k2,Q0 hb k3,Q0 hb k4,Q0 hb k5,Q0 hb k6,Q0 hb k7,Q0 hb k8,Q0 hb k9,Q0 hb k10,Q0 hb k11,Q0 hb k12,Q0 hb k13,Q0 hb k14,Q0 hb k15,Q0 hb k16,Q7 hb k11 k17,fun h=>Q0 hb (k18 h),fun h=>Q0 hb (k19 h),fun h=>Q0 hb (k20 h),fun h=>Q0 hb (k21 h),fun h=>Q7 hb (k18 h) (k22 h),k23,Nat.le_trans k24 hb.size,Q8 k25 hb⟩
theorem Qu5 {x:In}{b g r:Nat}{w:World}:MT (MoF x b g r w) [9,14]:=by
 intro d d' ν w' hd h;unfold MoF at *;simpa only[← hd 9 Y3,← hd 14 Y3] using h
theorem Q10r {x:In}{b g r:Nat}{w:World}:NT (MoF x b g r w) [9]:=by
 intro i hi d ν c w' hd h;unfold MoF at *;exact Ypy
def MoE (x:In)(b g r:Nat)(w:World)(d:Nat→Bool)(ν:Nat→Nat × Nat)(w':World):Prop:=CIn.a w' b x (w'.cell? ⟨g,0,none⟩=some (.int .u8 8)∧w'.cell? ⟨g,1,none⟩=some (.int .u8 (N8 (x.imm.setWidth 8)))∧w'.cell? ⟨g,2,none⟩=some (.bool false)∧w'.cell? ⟨g,3,none⟩=some (.bool true)∧w'.cell? ⟨g,4,none⟩=some (.bool false)∧w'.cell? ⟨g,5,none⟩=some (.int .i64 (Co.szOf x.op))∧w'.cell? ⟨r,0,none⟩=some (bif d 14 then .int .u8 8 else .int .u8 Wh.none.kind)∧w'.cell? ⟨r,1,none⟩=some (bif d 14 then .int .u8 (N8 (x.imm.setWidth 8)) else .int .u8 (N8 Wh.none.op))∧w'.cell? ⟨r,2,none⟩=some (bif d 14 then .bool false else .bool Wh.none.wide)∧w'.cell? ⟨r,3,none⟩=some (bif d 14 then .bool true else .bool Wh.none.reg)∧w'.cell? ⟨r,4,none⟩=some (bif d 14 then .bool false else .bool Wh.none.signed)∧w'.cell? ⟨r,5,none⟩=some (bif d 14 then .int .i64 (Co.szOf x.op) else .int .i64 Wh.none.size)∧(∀ i,w'.frozen? ⟨r,i,none⟩=false)∧r+1≤w'.heap.size∧Below w.heap.size w w')
theorem Qu7 {x:In}{b g r:Nat}{w:World}:KT (MoE x b g r w):=by
 exact Yli
theorem Qu6 {x:In}{b g r:Nat}{w:World}:MT (MoE x b g r w) [14]:=by
 intro d d' ν w' hd h;unfold MoE at *;simpa only[← hd 14 Y3] using h
theorem Qss (x:In)(w:World):Calls Tryz.prog 54 #[x] w (RB.a w (.tuple #[(Co.movesW x),.bool (Co.movesB x)])):=by
 go_enter Tryz.func54,Tryz.ntmps54
 go_upto_if 15 with ((with_reducible apply ic);first|(go_at_call 72;(with_reducible refine (Qzj _ _).mono ?_);refine Y2c ?_;intro w1 hb1 hc1 hf1 hz1)|(refine Y2g ?_;intro w2 hb2 hc2 hf2 hz2))
 cases h1:(Co.cls x==1#8)
 · cases h2:(Co.cls x==2#8)
   · cases h3:(Co.cls x==3#8)
     · exact Yum
     · cases h6:(x.op &&& 224#8==96#8)
       · go_wp2_with fail
         refine Q2 (MoD x w.heap.size w1.heap.size (w.heap.size+1) w) [4,6] [] (fun _ c=>.pointer (some ⟨c.1,0,none⟩)) rfl Yc ?_ (fun d d' ν w'=>Qu8 d d' ν w') (fun d ν w' w1=>Qu9 d ν w' w1) (fun i hi=>Yf0) ?_
         · intro d ν hd;refine⟨?_,?_,?_,?_,?_,?_,?_,?_,?_,?_,?_,?_,?_,?_,?_,?_,?_,?_,?_,?_,Yb⟩<;>first|(simp (maxDischargeDepth:=12) [*,hd,upd,Qo,go_sem,↓IntWalk.iteOmega,Wh.none,Qb,Co.cls,Co.mode,Q2d];done)|(intro i;simp (maxDischargeDepth:=12) [*,upd,Qo,go_sem,↓IntWalk.iteOmega,Wh.none,Qb,Co.cls,Co.mode,Q2d];done)|(intro h;rw[hd _ Y0] at h;cases h)|go_size|(simp;omega)
         apply Exists.intro;refine⟨fun ν=>?_,?_,?_⟩
         · (try simp only[List.append])
           iterate 4 refine Ycv ?_
           (refine Ycw ?_)
           iterate 1 refine Ycv ?_
           (refine Ycw ?_);exact rfl
         · intro i hi;cases hi
         · intro ν w7 d hd hC
           obtain⟨k0,k1,k2,k3,k4,k5,k6,k7,k8,k9,k10,k11,k12,k13,k14,k15,k16,k17,k18,k19,k20⟩:=hC;have q4:=hd 4 Y0;have q6:=hd 6 Y0;simp only[q4,q6,cond_true,cond_false,forall_const,true_implies] at k0 k1 k2 k3 k4 k5 k6 k7 k8 k9 k10 k11 k12 k13 k14 k15 k16 k17 k18 k19 k20;clear q4 q6;clear hd;have z0:=Q1 k0;have z5:=Q1 k5;have z11:=Q1 k11;cases hq:(x.op &&& 224#8==192#8)
           · exact Yjr
           · cases hz:decide (4≤Co.szOf x.op)
             · exact Yjr
             · go_wp2_with fail
               refine Q2 (MoF x w.heap.size w1.heap.size (w.heap.size+1) w) [9,14] [9] (fun _ c=>.slice (some ⟨c.1,0,none⟩) 4 4) rfl Yc ?_ (fun d d' ν w'=>Qu5 d d' ν w') (fun d ν w' w1=>Qec d ν w' w1) (fun i hi d ν c w'=>Q10r i hi d ν c w') ?_
               · intro d ν hd;refine⟨?_,?_,?_,?_,?_,?_,?_,?_,?_,?_,?_,?_,?_,?_,?_,?_,?_,?_,?_,?_,?_,?_,?_,?_,?_,Yb⟩<;>first|(simp (maxDischargeDepth:=12) [*,hd,upd,Qo,go_sem,↓IntWalk.iteOmega,Wh.none,Qb,Co.cls,Co.mode];done)|(intro i;simp (maxDischargeDepth:=12) [*,upd,Qo,go_sem,↓IntWalk.iteOmega,Wh.none,Qb,Co.cls,Co.mode];done)|(intro h;rw[hd _ Y0] at h;cases h)|go_size|(simp;omega)
               apply Exists.intro;refine⟨fun ν=>?_,?_,?_⟩
               · (try simp only[List.append])
                 iterate 9 refine Ycz ?_
                 (refine Qq Y0 Yc (fun d w' hd hC=>?_) ?_
                  · have r:=hd.open_
                    skip
                    refine⟨(w'.heap.size,0),w'.alloc (.cells #[.int .i32 (I32 (Co.tbl 0)),.int .i32 (I32 (Co.tbl 1)),.int .i32 (I32 (Co.tbl 2)),.int .i32 (I32 (Co.tbl 3))] 21),Yez,?_⟩;have hz0:=hC;obtain⟨-,-,-,-,-,-,-,-,-,-,-,-,-,-,-,-,-,-,-,-,-,-,-,-,hz0,-⟩:=hz0;have hC:=Qec _ _ _ _ hC (Below.alloc (Below.refl _ w') (Nat.le_refl _) (.cells #[.int .i32 (I32 (Co.tbl 0)),.int .i32 (I32 (Co.tbl 1)),.int .i32 (I32 (Co.tbl 2)),.int .i32 (I32 (Co.tbl 3))] 21));obtain⟨k0,k1,k2,k3,k4,k5,k6,k7,k8,k9,k10,k11,k12,k13,k14,k15,k16,k17,k18,k19,k20,k21,k22,k23,k24,k25⟩:=hC
                    refine⟨?_,?_,?_,?_,?_,?_,?_,?_,?_,?_,?_,?_,?_,?_,?_,?_,?_,?_,?_,?_,?_,?_,?_,?_,?_,?_⟩<;>first|assumption|(intros;simp (maxDischargeDepth:=12) [*,upd,Qo,go_sem,↓IntWalk.iteOmega,Wh.none,Qb,Co.cls,Co.mode];done)
                  simp only[Act.put,List.setIfInBounds_toArray,List.set_cons_succ,List.set_cons_zero,Nat.reduceAdd,Nat.zero_add])
                 iterate 4 refine Ycz ?_
                 (refine Qh rfl rfl rfl rfl Yc (fun d w' hd hC=>?_) ?_
                  · obtain⟨k0,k1,k2,k3,k4,k5,k6,k7,k8,k9,k10,k11,k12,k13,k14,k15,k16,k17,k18,k19,k20,k21,k22,k23,k24,k25⟩:=hC
                    (try (have q9:=hd.ahead 9 Yd;simp only[q9,true_implies,forall_const] at k18 k19 k20 k21 k22 k23));(try have p14:=hd.ahead 14 Yd);have r:=hd.open_;refine⟨_,Yi,?_⟩
                    refine⟨?_,?_,?_,?_,?_,?_,?_,?_,?_,?_,?_,?_,?_,?_,?_,?_,?_,?_,?_,?_,?_,?_,?_,?_,?_,Yg⟩<;>first|(simp (maxDischargeDepth:=12) [*,upd,Qo,go_sem,↓IntWalk.iteOmega,Wh.none,Qb,Co.cls,Co.mode];done)|(intro h;have h':d 9=true:=h;have hx:=k23 h';simp (maxDischargeDepth:=12) [*,upd,Qo,go_sem,↓IntWalk.iteOmega,Wh.none,Qb,Co.cls,Co.mode];done)|(intro h i;have h':d 9=true:=h;have hx:=k23 h';simp (maxDischargeDepth:=12) [*,upd,Qo,go_sem,↓IntWalk.iteOmega,Wh.none,Qb,Co.cls,Co.mode];done)|(intros;simp (maxDischargeDepth:=12) [*,upd,Qo,go_sem,↓IntWalk.iteOmega,Wh.none,Qb,Co.cls,Co.mode];done))
                 iterate 1 refine Ycz ?_
                 exact rfl
               · exact Yoo
               · intro ν w8 d hd hC
                 obtain⟨k0,k1,k2,k3,k4,k5,k6,k7,k8,k9,k10,k11,k12,k13,k14,k15,k16,k17,k18,k19,k20,k21,k22,k23,k24,k25⟩:=hC;have q9:=hd 9 Y0;have q14:=hd 14 Y0;simp only[q9,q14,cond_true,cond_false,forall_const,true_implies] at k0 k1 k2 k3 k4 k5 k6 k7 k8 k9 k10 k11 k12 k13 k14 k15 k16 k17 k18 k19 k20 k21 k22 k23 k24 k25;clear q9 q14;clear hd;have z0:=Q1 k0;have z5:=Q1 k5;have z11:=Q1 k11;have z18:=Q1 k18;clear z18 k18 k19 k20 k21 k22 k23;go_wp2;refine bodyPost_ret (Q1i (fn:=Tryz.f54) rfl _ _ (w.heap.size+1) (Co.movesW x) (Co.movesB x) rfl ?_ ?_ ?_ ?_ ?_ ?_ ?_) rfl ⟨rfl,Yb⟩
                 · clear k0 k1 k2 k3 k4
                   show Value.bool (Co.has4 x.imm)=_;unfold Co.movesB Co.mode Co.has4;simp only[h1,h2,h3,h6,hq,hz];rfl
                 all_goals simp (maxDischargeDepth:=12) [*,go_sem,↓IntWalk.iteOmega,Qb,Co.movesW,Co.movesB,Co.mode,Wh.none,Co.has4]
       · go_wp2_with fail
         refine Q2 (MoC x w.heap.size w1.heap.size (w.heap.size+1) w) [4] [] (fun _ c=>.pointer (some ⟨c.1,0,none⟩)) rfl Yc ?_ (fun d d' ν w'=>Qua d d' ν w') (fun d ν w' w1=>Qub d ν w' w1) (fun i hi=>Yf0) ?_
         · exact Yls
         apply Exists.intro;refine⟨fun ν=>?_,?_,?_⟩
         · (try simp only[List.append])
           iterate 4 refine Yd0 ?_
           (refine Qh rfl rfl rfl rfl Yc (fun d w' hd hC=>?_) ?_
            · obtain⟨k0,k1,k2,k3,k4,k5,k6,k7,k8,k9,k10,k11,k12,k13,k14,k15,k16,k17,k18,k19⟩:=hC
              (try have p4:=hd.ahead 4 Yd);have r:=hd.open_;refine⟨_,Yi,?_⟩
              refine⟨?_,?_,?_,?_,?_,?_,?_,?_,?_,?_,?_,?_,?_,?_,?_,?_,?_,?_,?_,Yg⟩<;>first|(simp (maxDischargeDepth:=12) [*,upd,Qo,go_sem,↓IntWalk.iteOmega,Wh.none,Qb,Co.cls,Co.mode];done)|(intros;simp (maxDischargeDepth:=12) [*,upd,Qo,go_sem,↓IntWalk.iteOmega,Wh.none,Qb,Co.cls,Co.mode];done))
           iterate 1 refine Yd0 ?_
           exact rfl
         · intro i hi;cases hi
         · intro ν w8 d hd hC
           obtain⟨k0,k1,k2,k3,k4,k5,k6,k7,k8,k9,k10,k11,k12,k13,k14,k15,k16,k17,k18,k19⟩:=hC;have q4:=hd 4 Y0;simp only[q4,cond_true,cond_false,forall_const,true_implies] at k0 k1 k2 k3 k4 k5 k6 k7 k8 k9 k10 k11 k12 k13 k14 k15 k16 k17 k18 k19;clear q4;exact Ym9
   · cases h6:(x.op &&& 224#8==96#8)
     all_goals
      go_wp2_with fail;refine Q2 (MoB x w.heap.size w1.heap.size (w.heap.size+1) w) [8] [] (fun _ c=>.pointer (some ⟨c.1,0,none⟩)) rfl Yc ?_ (fun d d' ν w'=>Quc d d' ν w') (fun d ν w' w1=>Qud d ν w' w1) (fun i hi=>Yf0) ?_
      · exact Yls
      apply Exists.intro;refine⟨fun ν=>?_,?_,?_⟩
      · (try simp only[List.append])
        iterate 8 refine Yd1 ?_
        (refine Qh rfl rfl rfl rfl Yc (fun d w' hd hC=>?_) ?_
         · obtain⟨k0,k1,k2,k3,k4,k5,k6,k7,k8,k9,k10,k11,k12,k13,k14,k15,k16,k17,k18,k19⟩:=hC
           (try have p8:=hd.ahead 8 Yd);have r:=hd.open_;refine⟨_,Yi,?_⟩
           refine⟨?_,?_,?_,?_,?_,?_,?_,?_,?_,?_,?_,?_,?_,?_,?_,?_,?_,?_,?_,Yg⟩<;>first|(simp (maxDischargeDepth:=12) [*,upd,Qo,go_sem,↓IntWalk.iteOmega,Wh.none,Qb,Co.cls,Co.mode];done)|(intros;simp (maxDischargeDepth:=12) [*,upd,Qo,go_sem,↓IntWalk.iteOmega,Wh.none,Qb,Co.cls,Co.mode];done))
        iterate 1 refine Yd1 ?_
        exact rfl
      · intro i hi;cases hi
      · intro ν w8 d hd hC
        obtain⟨k0,k1,k2,k3,k4,k5,k6,k7,k8,k9,k10,k11,k12,k13,k14,k15,k16,k17,k18,k19⟩:=hC;have q8:=hd 8 Y0;simp only[q8,cond_true,cond_false,forall_const,true_implies] at k0 k1 k2 k3 k4 k5 k6 k7 k8 k9 k10 k11 k12 k13 k14 k15 k16 k17 k18 k19;clear q8;exact Ym9
 · cases hd:(x.dst==10#8)
   · cases hi:(x.imm==0#32)
     · go_wp2_with fail
       refine Q2 (MoA x w.heap.size w1.heap.size (w.heap.size+1) w) [22] [] (fun _ c=>.pointer (some ⟨c.1,0,none⟩)) rfl Yc ?_ (fun d d' ν w'=>Q8g d d' ν w') (fun d ν w' w1=>Q8h d ν w' w1) (fun i hi=>Yf0) ?_
       · exact Yls
       apply Exists.intro;refine⟨fun ν=>?_,?_,?_⟩
       · exact Yr0
       · intro i hi;cases hi
       · exact Yl0
     · cases h6:(x.op &&& 224#8==96#8)
       · cases h8:(x.op &&& 224#8==128#8)
         all_goals
          go_wp2_with fail;refine Q2 (MoA x w.heap.size w1.heap.size (w.heap.size+1) w) [22] [] (fun _ c=>.pointer (some ⟨c.1,0,none⟩)) rfl Yc ?_ (fun d d' ν w'=>Q8g d d' ν w') (fun d ν w' w1=>Q8h d ν w' w1) (fun i hi=>Yf0) ?_
          · exact Yls
          apply Exists.intro;refine⟨fun ν=>?_,?_,?_⟩
          · exact Yr0
          · intro i hi;cases hi
          · exact Yl0
       exact Yjp
   exact Yjp
end Hk
