/- A part of the proof of TopTwice. No condition but each statement's own. -/
import Derived.Test.YtkgmipfmphlpgaaGreatK05
open Go Go.RowKit Go.Proofs
set_option linter.all false
set_option maxRecDepth 100000
set_option maxHeartbeats 20000000
namespace Hk
def ArA (x:In)(b r:Nat)(w:World)(d:Nat→Bool)(ν:Nat→Nat × Nat)(w':World):Prop:=CIn.a w' b x (CWh.a w' r Wh.none ((∀ i,w'.frozen? ⟨r,i,none⟩=false)∧(d 11=true→w'.cell? ⟨(ν 11).1,0,none⟩=some (bif d 12 then .int .u8 1 else .int .u8 0))∧(d 11=true→w'.cell? ⟨(ν 11).1,1,none⟩=some (bif d 12 then .int .u8 (N8 (x.op &&& 240#8)) else .int .u8 0))∧(d 11=true→w'.cell? ⟨(ν 11).1,2,none⟩=some (bif d 12 then .bool (Co.cls x==7#8) else .bool false))∧(d 11=true→w'.cell? ⟨(ν 11).1,3,none⟩=some (bif d 12 then .bool (!(x.op &&& 8#8==0#8)) else .bool false))∧(d 11=true→w'.cell? ⟨(ν 11).1,4,none⟩=some (bif d 12 then .bool false else .bool false))∧(d 11=true→w'.cell? ⟨(ν 11).1,5,none⟩=some (bif d 12 then .int .i64 0 else .int .i64 0))∧(d 11=true→∀ i,w'.frozen? ⟨(ν 11).1,i,none⟩=false)∧(d 11=true→r+1≤(ν 11).1)∧r+1≤w'.heap.size∧Below w.heap.size w w'))
theorem Qeo {x:In}{b r:Nat}{w:World}:KT (ArA x b r w):=by
 exact Yl5
theorem Qur {x:In}{b r:Nat}{w:World}:MT (ArA x b r w) [11,12]:=by
 intro d d' ν w' hd h;unfold ArA at *;simpa only[← hd 11 Y3,← hd 12 Y3] using h
theorem Q114 {x:In}{b r:Nat}{w:World}:NT (ArA x b r w) [11]:=by
 intro i hi d ν c w' hd h;unfold ArA at *;exact Ypy
def ArB (x:In)(b g r:Nat)(w:World)(d:Nat→Bool)(ν:Nat→Nat × Nat)(w':World):Prop:=CIn.a w' b x (w'.cell? ⟨g,0,none⟩=some (.int .u8 1)∧w'.cell? ⟨g,1,none⟩=some (.int .u8 (N8 (x.op &&& 240#8)))∧w'.cell? ⟨g,2,none⟩=some (.bool (Co.cls x==7#8))∧w'.cell? ⟨g,3,none⟩=some (.bool (!(x.op &&& 8#8==0#8)))∧w'.cell? ⟨g,4,none⟩=some (.bool false)∧w'.cell? ⟨g,5,none⟩=some (.int .i64 0)∧w'.cell? ⟨r,0,none⟩=some (bif d 7 then .int .u8 1 else .int .u8 Wh.none.kind)∧w'.cell? ⟨r,1,none⟩=some (bif d 7 then .int .u8 (N8 (x.op &&& 240#8)) else .int .u8 (N8 Wh.none.op))∧w'.cell? ⟨r,2,none⟩=some (bif d 7 then .bool (Co.cls x==7#8) else .bool Wh.none.wide)∧w'.cell? ⟨r,3,none⟩=some (bif d 7 then .bool (!(x.op &&& 8#8==0#8)) else .bool Wh.none.reg)∧w'.cell? ⟨r,4,none⟩=some (bif d 7 then .bool false else .bool Wh.none.signed)∧w'.cell? ⟨r,5,none⟩=some (bif d 7 then .int .i64 0 else .int .i64 Wh.none.size)∧(∀ i,w'.frozen? ⟨r,i,none⟩=false)∧r+1≤w'.heap.size∧Below w.heap.size w w')
theorem Quq {x:In}{b g r:Nat}{w:World}:KT (ArB x b g r w):=by
 exact Yli
theorem Qup {x:In}{b g r:Nat}{w:World}:MT (ArB x b g r w) [7]:=by
 intro d d' ν w' hd h;unfold ArB at *;simpa only[← hd 7 Y3] using h
def ArC (x:In)(b g r:Nat)(w:World)(d:Nat→Bool)(ν:Nat→Nat × Nat)(w':World):Prop:=CIn.a w' b x (w'.cell? ⟨g,0,none⟩=some (.int .u8 1)∧w'.cell? ⟨g,1,none⟩=some (.int .u8 (N8 (x.op &&& 240#8)))∧w'.cell? ⟨g,2,none⟩=some (.bool (Co.cls x==7#8))∧w'.cell? ⟨g,3,none⟩=some (.bool (!(x.op &&& 8#8==0#8)))∧w'.cell? ⟨g,4,none⟩=some (.bool false)∧w'.cell? ⟨g,5,none⟩=some (.int .i64 0)∧w'.cell? ⟨r,0,none⟩=some (bif d 12 then .int .u8 1 else .int .u8 Wh.none.kind)∧w'.cell? ⟨r,1,none⟩=some (bif d 12 then .int .u8 (N8 (x.op &&& 240#8)) else .int .u8 (N8 Wh.none.op))∧w'.cell? ⟨r,2,none⟩=some (bif d 12 then .bool (Co.cls x==7#8) else .bool Wh.none.wide)∧w'.cell? ⟨r,3,none⟩=some (bif d 12 then .bool (!(x.op &&& 8#8==0#8)) else .bool Wh.none.reg)∧w'.cell? ⟨r,4,none⟩=some (bif d 12 then .bool false else .bool Wh.none.signed)∧w'.cell? ⟨r,5,none⟩=some (bif d 12 then .int .i64 0 else .int .i64 Wh.none.size)∧(∀ i,w'.frozen? ⟨r,i,none⟩=false)∧r+1≤w'.heap.size∧Below w.heap.size w w')
theorem Qen {x:In}{b g r:Nat}{w:World}:KT (ArC x b g r w):=by
 exact Yli
theorem Qem {x:In}{b g r:Nat}{w:World}:MT (ArC x b g r w) [12]:=by
 intro d d' ν w' hd h;unfold ArC at *;simpa only[← hd 12 Y3] using h
def ArD (x:In)(b g r:Nat)(w:World)(d:Nat→Bool)(ν:Nat→Nat × Nat)(w':World):Prop:=CIn.a w' b x (w'.cell? ⟨g,0,none⟩=some (.int .u8 1)∧w'.cell? ⟨g,1,none⟩=some (.int .u8 (N8 (x.op &&& 240#8)))∧w'.cell? ⟨g,2,none⟩=some (.bool (Co.cls x==7#8))∧w'.cell? ⟨g,3,none⟩=some (.bool (!(x.op &&& 8#8==0#8)))∧w'.cell? ⟨g,4,none⟩=some (.bool false)∧w'.cell? ⟨g,5,none⟩=some (.int .i64 0)∧w'.cell? ⟨r,0,none⟩=some (bif d 11 then .int .u8 1 else .int .u8 Wh.none.kind)∧w'.cell? ⟨r,1,none⟩=some (bif d 11 then .int .u8 (N8 (x.op &&& 240#8)) else .int .u8 (N8 Wh.none.op))∧w'.cell? ⟨r,2,none⟩=some (bif d 11 then .bool (Co.cls x==7#8) else .bool Wh.none.wide)∧w'.cell? ⟨r,3,none⟩=some (bif d 11 then .bool (!(x.op &&& 8#8==0#8)) else .bool Wh.none.reg)∧w'.cell? ⟨r,4,none⟩=some (bif d 11 then .bool false else .bool Wh.none.signed)∧w'.cell? ⟨r,5,none⟩=some (bif d 11 then .int .i64 0 else .int .i64 Wh.none.size)∧(∀ i,w'.frozen? ⟨r,i,none⟩=false)∧r+1≤w'.heap.size∧Below w.heap.size w w')
theorem Qel {x:In}{b g r:Nat}{w:World}:KT (ArD x b g r w):=by
 exact Yli
theorem Qek {x:In}{b g r:Nat}{w:World}:MT (ArD x b g r w) [11]:=by
 intro d d' ν w' hd h;unfold ArD at *;simpa only[← hd 11 Y3] using h
theorem Qt2 (x:In)(w:World):Calls Tryz.prog 52 #[x] w (RB.a w (.tuple #[(Co.arithW x),.bool (Co.arithB x)])):=by
 go_enter Tryz.func52,Tryz.ntmps52;go_wp2_with (first|fail);refine Q2 (ArA x w.heap.size (w.heap.size+1) w) [11,12] [11] (fun _ c=>.pointer (some ⟨c.1,0,none⟩)) rfl Yc ?_ (fun d d' ν w'=>Qur d d' ν w') (fun d ν w' w1=>Qeo d ν w' w1) (fun i hi d ν c w'=>Q114 i hi d ν c w') ?_
 · exact Ylu
 apply Exists.intro;refine⟨fun ν=>?_,?_,?_⟩
 · (try simp only[List.append])
   iterate 11 refine Ycn ?_
   (refine Qq Y0 Yc (fun d w' hd hC=>?_) ?_
    · have r:=hd.open_
      have q12:d 12=false:=by
       exact Ys5
      refine Yv5 ?_;have hz0:=hC;obtain⟨-,-,-,-,-,-,-,-,-,-,-,-,-,-,-,-,-,-,-,-,hz0,-⟩:=hz0;have hC:=Qeo _ _ _ _ hC (Below.alloc (Below.refl _ w') (Nat.le_refl _) (.cells #[.int .u8 0,.int .u8 0,.bool false,.bool false,.bool false,.int .i64 0] 66));exact Yma
    simp only[Act.put,List.setIfInBounds_toArray,List.set_cons_succ,List.set_cons_zero,Nat.reduceAdd,Nat.zero_add])
   (refine Yco ?_);exact rfl
 · exact Yoo
 · intro ν w9 d hd hC
   obtain⟨k0,k1,k2,k3,k4,k5,k6,k7,k8,k9,k10,k11,k12,k13,k14,k15,k16,k17,k18,k19,k20,k21⟩:=hC;have q11:=hd 11 Y0;have q12:=hd 12 Y0;simp only[q11,q12,cond_true,cond_false,forall_const,true_implies] at k0 k1 k2 k3 k4 k5 k6 k7 k8 k9 k10 k11 k12 k13 k14 k15 k16 k17 k18 k19 k20 k21;clear q11 q12;clear hd;have z0:=Q1 k0;have z5:=Q1 k5;have z12:=Q1 k12
   go_upto_region 2 with (fail)
   go_cut [5] (fun s5 wx=>s5=.bool (Co.arithOk x)∧wx.cell? ⟨w.heap.size,0,none⟩=some (.int .u8 (N8 x.op))∧wx.cell? ⟨w.heap.size,1,none⟩=some (.int .u8 (N8 x.dst))∧wx.cell? ⟨w.heap.size,2,none⟩=some (.int .u8 (N8 x.src))∧wx.cell? ⟨w.heap.size,3,none⟩=some (.int .i16 (I16 x.off))∧wx.cell? ⟨w.heap.size,4,none⟩=some (.int .i32 (I32 x.imm))∧wx.cell? ⟨(ν 11).1,0,none⟩=some (.int .u8 1)∧wx.cell? ⟨(ν 11).1,1,none⟩=some (.int .u8 (N8 (x.op &&& 240#8)))∧wx.cell? ⟨(ν 11).1,2,none⟩=some (.bool (Co.cls x==7#8))∧wx.cell? ⟨(ν 11).1,3,none⟩=some (.bool (!(x.op &&& 8#8==0#8)))∧wx.cell? ⟨(ν 11).1,4,none⟩=some (.bool false)∧wx.cell? ⟨(ν 11).1,5,none⟩=some (.int .i64 0)∧wx.cell? ⟨w.heap.size+1,0,none⟩=some (.int .u8 Wh.none.kind)∧wx.cell? ⟨w.heap.size+1,1,none⟩=some (.int .u8 (N8 Wh.none.op))∧wx.cell? ⟨w.heap.size+1,2,none⟩=some (.bool Wh.none.wide)∧wx.cell? ⟨w.heap.size+1,3,none⟩=some (.bool Wh.none.reg)∧wx.cell? ⟨w.heap.size+1,4,none⟩=some (.bool Wh.none.signed)∧wx.cell? ⟨w.heap.size+1,5,none⟩=some (.int .i64 Wh.none.size)∧(∀ i,wx.frozen? ⟨w.heap.size+1,i,none⟩=false)∧(w.heap.size+1+1≤(ν 11).1)∧(w.heap.size+1+1≤wx.heap.size)∧Below w.heap.size w wx)
   case first =>
    cases hd:(x.dst==10#8)
    all_goals go_wp2_with (go_at_call 71;refine Y2d ?_;intro w1 hb1 hc1 hf1 hz1)
    all_goals go_meet
    all_goals refine⟨?_,?_,?_,?_,?_,?_,?_,?_,?_,?_,?_,?_,?_,?_,?_,?_,?_,?_,?_,?_,?_,Yb⟩
    all_goals first|(simp[*,go_sem,↓IntWalk.iteOmega,Wh.none,Qb,Co.cls,Co.arithOk,Co.arithW,Co.zeros];done)|(intro i;simp[*,go_sem,↓IntWalk.iteOmega];done)|omega
   case rest =>
    obtain⟨rfl,e0,e1,e2,e3,e4,e5,e6,e7,e8,e9,e10,e11,e12,e13,e14,e15,e16,e17,e18,e19,e20⟩:=hcut;have hk:Below w.heap.size w wc:=e20;clear k0 k1 k2 k3 k4 k5 k6 k7 k8 k9 k10 k11 k12 k13 k14 k15 k16 k17 k18 k19 k20 k21;have z0:=Q1 e0;have z5:=Q1 e5;have z11:=Q1 e11
    go_upto_if 32 with (first|fail)
    go_cut [32] (fun s wx=>s=.bool (Co.plainOp (x.op &&& 240#8))∧wx=wc)
    case first =>
     exact Ysg
    case rest =>
     obtain⟨rfl,rfl⟩:=hcut;cases hp:Co.plainOp (x.op &&& 240#8)
     · go_upto_if 49 with (first|fail)
       go_cut [49] (fun s wx=>s=.bool (x.op &&& 240#8==48#8 || x.op &&& 240#8==144#8)∧wx=wc)
       case first =>
        exact Ysg
       case rest =>
        obtain⟨rfl,rfl⟩:=hcut;cases hq:(x.op &&& 240#8==48#8 || x.op &&& 240#8==144#8)
        · cases hn:(x.op &&& 240#8==128#8)
          · cases hm:(x.op &&& 240#8==176#8)
            · exact Ymv
            · go_upto_region 20 with (fail)
              go_cut [6] (fun s6 wx=>s6=.bool (x.off==8#16 || x.off==16#16 || (x.off==32#16 && Co.cls x==7#8))∧wx=wc)
              case first =>
               all_goals cases g8:(x.off==8#16)
               all_goals cases g16:(x.off==16#16)
               all_goals cases g32:(x.off==32#16)
               all_goals go_wp2_with (first|fail)
               all_goals (go_meet;exact⟨by simp[*,go_sem],rfl⟩)
              case rest =>
               obtain⟨rfl,rfl⟩:=hcut;cases ha:Co.arithOk x
               · exact Ymv
               · cases hf:(x.off==0#16)
                 · cases hr:(x.op &&& 8#8==0#8)
                   all_goals
                    go_wp2;refine bodyPost_ret (Q1i (fn:=Tryz.f52) rfl _ _ (w.heap.size+1) (Co.arithW x) (Co.arithB x) rfl ?_ ?_ ?_ ?_ ?_ ?_ ?_) rfl ⟨rfl,Yb⟩
                    all_goals simp (maxDischargeDepth:=12) [*,go_sem,↓IntWalk.iteOmega,Qb,Co.zeros,Co.arithW,Co.arithB,Co.cls,Wh.none]
                 · exact Ymv
          · cases ha:Co.arithOk x
            · go_wp2_with fail
              refine Q2 (ArD x w.heap.size (ν 11).1 (w.heap.size+1) w) [11] [] (fun _ c=>.pointer (some ⟨c.1,0,none⟩)) rfl Yc ?_ (fun d d' ν w'=>Qek d d' ν w') (fun d ν w' w1=>Qel d ν w' w1) (fun i hi=>Yf0) ?_
              · exact Ylw
              apply Exists.intro;refine⟨fun ν=>?_,?_,?_⟩
              · exact Yqy
              · intro i hi;cases hi
              · exact Yky
            · cases hr:(x.op &&& 8#8==0#8)
              all_goals
               go_wp2_with fail;refine Q2 (ArD x w.heap.size (ν 11).1 (w.heap.size+1) w) [11] [] (fun _ c=>.pointer (some ⟨c.1,0,none⟩)) rfl Yc ?_ (fun d d' ν w'=>Qek d d' ν w') (fun d ν w' w1=>Qel d ν w' w1) (fun i hi=>Yf0) ?_
               · exact Ylw
               apply Exists.intro;refine⟨fun ν=>?_,?_,?_⟩
               · exact Yqy
               · intro i hi;cases hi
               · exact Yky
        · cases ha:Co.arithOk x
          · go_wp2_with fail
            refine Q2 (ArC x w.heap.size (ν 11).1 (w.heap.size+1) w) [12] [] (fun _ c=>.pointer (some ⟨c.1,0,none⟩)) rfl Yc ?_ (fun d d' ν w'=>Qem d d' ν w') (fun d ν w' w1=>Qen d ν w' w1) (fun i hi=>Yf0) ?_
            · exact Ylw
            apply Exists.intro;refine⟨fun ν=>?_,?_,?_⟩
            · exact Yqz
            · intro i hi;cases hi
            · exact Ykz
          · cases hf:(x.off==0#16)
            all_goals
             go_wp2_with fail;refine Q2 (ArC x w.heap.size (ν 11).1 (w.heap.size+1) w) [12] [] (fun _ c=>.pointer (some ⟨c.1,0,none⟩)) rfl Yc ?_ (fun d d' ν w'=>Qem d d' ν w') (fun d ν w' w1=>Qen d ν w' w1) (fun i hi=>Yf0) ?_
             · exact Ylw
             apply Exists.intro;refine⟨fun ν=>?_,?_,?_⟩
             · exact Yqz
             · intro i hi;cases hi
             · exact Ykz
     · cases ha:Co.arithOk x
       all_goals
        go_wp2_with fail;refine Q2 (ArB x w.heap.size (ν 11).1 (w.heap.size+1) w) [7] [] (fun _ c=>.pointer (some ⟨c.1,0,none⟩)) rfl Yc ?_ (fun d d' ν w'=>Qup d d' ν w') (fun d ν w' w1=>Quq d ν w' w1) (fun i hi=>Yf0) ?_
        · exact Ylw
        apply Exists.intro;refine⟨fun ν=>?_,?_,?_⟩
        · (try simp only[List.append])
          iterate 7 refine Ycu ?_
          (refine Qh rfl rfl rfl rfl Yc (fun d w' hd hC=>?_) ?_
           · obtain⟨k0,k1,k2,k3,k4,k5,k6,k7,k8,k9,k10,k11,k12,k13,k14,k15,k16,k17,k18,k19⟩:=hC
             (try have p7:=hd.ahead 7 Yd);have r:=hd.open_;refine⟨_,Yf,?_⟩
             refine⟨?_,?_,?_,?_,?_,?_,?_,?_,?_,?_,?_,?_,?_,?_,?_,?_,?_,?_,?_,Yg⟩<;>first|(simp (maxDischargeDepth:=12) [*,upd,Qo,go_sem,↓IntWalk.iteOmega,Wh.none,Qb,Co.cls];done)|(intros;simp (maxDischargeDepth:=12) [*,upd,Qo,go_sem,↓IntWalk.iteOmega,Wh.none,Qb,Co.cls];done))
          iterate 1 refine Ycu ?_
          exact rfl
        · intro i hi;cases hi
        · intro ν w8 d hd hC
          obtain⟨k0,k1,k2,k3,k4,k5,k6,k7,k8,k9,k10,k11,k12,k13,k14,k15,k16,k17,k18,k19⟩:=hC;have q7:=hd 7 Y0;simp only[q7,cond_true,cond_false,forall_const,true_implies] at k0 k1 k2 k3 k4 k5 k6 k7 k8 k9 k10 k11 k12 k13 k14 k15 k16 k17 k18 k19;clear q7;clear hd;have z0:=Q1 k0;have z5:=Q1 k5;have z11:=Q1 k11;exact Ymv
end Hk
