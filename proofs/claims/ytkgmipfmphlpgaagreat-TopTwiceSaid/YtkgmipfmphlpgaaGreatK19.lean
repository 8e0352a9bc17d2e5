/- A part of the proof of TopTwice. No condition but each statement's own. -/
import Derived.Test.YtkgmipfmphlpgaaGreatK15
open Go Go.RowKit Go.Proofs
set_option linter.all false
set_option maxRecDepth 100000
set_option maxHeartbeats 20000000
namespace Hk
theorem Qbr {fn:Func}{p:Tmp}(h:fn.results=#[.cell p 90])(tmps:Array Value)(w:World)(g:Nat)(s:St)(hp:tmps.getD p undef=.pointer (some ⟨g,0,none⟩))(a0:blk w g=s.cells):Sem.run Tryz.prog (results fn tmps) w=.ok (.agg s.cells) w:=by
 have hp':tmps[p]?.getD undef=.pointer (some ⟨g,0,none⟩):=Yew;have h1:=Q52 w g (by rw[a0,s.cells_size]);rw[a0] at h1;simp only[results,h];simp[hp',asAddr,h1]
attribute [-go_sem] Qm
attribute [go_sem] Q1v
def WwC (pb qb rb sb g d q:Nat)(reg:Bool)(z0 s1:St)(X:Sx)(x y:Fa)(w:World)(w':World):Prop:=w'.cell? ⟨g,5,none⟩=some (.int .u8 (d:Nat))∧w'.cell? ⟨g,6,none⟩=some (.int .u8 (q:Nat))∧w'.cell? ⟨g,12,none⟩=some (.bool reg)∧CFa.a w' pb x (CFa.a w' qb y (Q1e w' g X∧blk w' sb=(s1).cells∧(∀ i,w'.frozen? ⟨sb,i,none⟩=false)∧blk w' rb=(z0).cells∧(∀ i,w'.frozen? ⟨rb,i,none⟩=false)∧Below w.heap.size w w'))
theorem Qtd {pb qb rb sb g d q:Nat}{reg:Bool}{z0 s1:St}{X:Sx}{x y:Fa}{w:World}:KC (WwC pb qb rb sb g d q reg z0 s1 X x y w):=by
 intro w' w1 h hb;obtain⟨k0,k1,k2,k3,k4,k5,k6,k7,k8,k9,k10,k11,k12,k13,k14,k15,k16⟩:=h;exact⟨Q0 hb k0,Q0 hb k1,Q0 hb k2,Q0 hb k3,Q0 hb k4,Q0 hb k5,Q0 hb k6,Q0 hb k7,Q0 hb k8,Q0 hb k9,Q0 hb k10,(k11).keep hb,Q12 hb k12 Y13,fun i=>by rw[hb.frozen (p:=⟨sb,i,none⟩) (Q1o (by rw[k12,St.cells_size];decide))];exact k13 i,Q12 hb k14 Y13,fun i=>by rw[hb.frozen (p:=⟨rb,i,none⟩) (Q1o (by rw[k14,St.cells_size];decide))];exact k15 i,Q8 k16 hb⟩
theorem Qhn (g:Nat)(X:Sx)(x y:Fa)(w:World)(hX:Q1e w g X)(hd:X.x.dst.toNat<11)(hq:X.x.src.toNat<11):Calls Tryz.prog 130 #[.pointer (some ⟨g,0,none⟩),x,y] w (RB.a w (.agg (Co.withS X x y).cells)):=by
 refine Yvt ?_;intro zg hXb;obtain⟨a0,a1,a2,a3,a4,a5,a6,a7,a8,a9,a10,a11,a12,-⟩:=hX.cells;have eD:N8 X.x.dst=((X.x.dst.toNat:Nat):Int):=rfl;have eS:N8 X.x.src=((X.x.src.toNat:Nat):Int):=rfl;rw[eD] at a5;rw[eS] at a6;clear eD eS;cases hr:X.w.reg
 all_goals rw[hr] at a12
 · have EE:=Lib.hid (show Co.withS X x y=X.s.setR X.x.dst.toNat (Vl.num x) by unfold Co.withS Co.sameB;rw[hr];rfl)
   rw[EE.out];clear EE;generalize X.x.dst.toNat=d at *;generalize X.x.src.toNat=q at *;refine Yvf ?_;intro zst hzst hzc;go_enter Tryz.func130,Tryz.ntmps130;go_wp2;refine Ql (WwC w.heap.size (w.heap.size+1) (w.heap.size+2) (w.heap.size+3) g d q false zst X.s X x y w) Yc Yc ?_ ?_
   · exact Ymo
   refine Yv4 ?_;intro hN
   repeat (first
    | go_big_quiet_skip
    | (go_big_quiet_want
       first
        | ((first|(refine Qz rfl rfl (fun w' hC=>Ygf) ?_)|(refine Q5 rfl rfl (fun w' hC=>Ygg) ?_)|(refine Q6 rfl rfl (fun w' hC=>Ygg) ?_))
           simp only[Act.put,List.setIfInBounds_toArray,List.set_cons_succ,List.set_cons_zero]
           go_big_quiet_on)
        | (go_big_quiet_op
           first
            | go_big_quiet_on
            | (apply Exists.intro
               refine⟨fun w' hC=>?_,?_⟩
               · (first|fail)
                 (try simp only[id]);exact⟨rfl,Ygh⟩
               go_big_quiet_on))))
   refine wpQuiet_nil ?_;intro w9 hC;obtain⟨k0,k1,k2,k3,k4,k5,k6,k7,k8,k9,k10,k11,k12,k13,k14,k15,k16⟩:=hC;have z0:=Q1 k0;have z3:=Q1 k3;have z7:=Q1 k7;go_wp2_with fail;refine Q4 (WwC w.heap.size (w.heap.size+1) (w.heap.size+2) (w.heap.size+3) g d q false zst X.s X x y w) 9 Yc Yc ?_ ?_
   · exact Ymo
   refine Yv4 ?_;intro hN;simp only[List.take_succ_cons,List.take_zero,List.drop_succ_cons,List.drop_zero]
   repeat (first
    | go_big_quiet_skip
    | (go_big_quiet_want
       first
        | ((first|(refine Qz rfl rfl (fun w' hC=>Ygf) ?_)|(refine Q5 rfl rfl (fun w' hC=>Ygg) ?_)|(refine Q6 rfl rfl (fun w' hC=>Ygg) ?_))
           simp only[Act.put,List.setIfInBounds_toArray,List.set_cons_succ,List.set_cons_zero]
           go_big_quiet_on)
        | (go_big_quiet_op
           first
            | go_big_quiet_on
            | (apply Exists.intro
               refine⟨fun w' hC=>?_,?_⟩
               · exact Yrv
               go_big_quiet_on))))
   refine wpQuiet_nil ?_;intro w9 hC;obtain⟨k0,k1,k2,k3,k4,k5,k6,k7,k8,k9,k10,k11,k12,k13,k14,k15,k16⟩:=hC;have z0:=Q1 k0;have z3:=Q1 k3;have z7:=Q1 k7;go_wp2;refine Yw0 ?_;simp[*,go_sem,↓IntWalk.iteOmega]
 · cases hs:(X.x.src.toNat==X.x.dst.toNat)
   · have EE:=Lib.hid (show Co.withS X x y=(X.s.setR X.x.dst.toNat (Vl.num x)).setR X.x.src.toNat (Vl.num y) by unfold Co.withS Co.sameB;rw[hr,hs];rfl)
     rw[EE.out];clear EE;generalize X.x.dst.toNat=d at *;generalize X.x.src.toNat=q at *;have hs2:((q:Int)==(d:Int))=false:=by simp only[beq_eq_false_iff_ne,ne_eq] at hs ⊢;omega
     refine Yvf ?_;intro zst hzst hzc;go_enter Tryz.func130,Tryz.ntmps130;go_wp2;refine Ql (WwC w.heap.size (w.heap.size+1) (w.heap.size+2) (w.heap.size+3) g d q true zst X.s X x y w) Yc Yc ?_ ?_
     · exact Ymo
     refine Yv4 ?_;intro hN
     repeat (first
      | go_big_quiet_skip
      | (go_big_quiet_want
         first
          | ((first|(refine Qz rfl rfl (fun w' hC=>Ygf) ?_)|(refine Q5 rfl rfl (fun w' hC=>Ygg) ?_)|(refine Q6 rfl rfl (fun w' hC=>Ygg) ?_))
             simp only[Act.put,List.setIfInBounds_toArray,List.set_cons_succ,List.set_cons_zero]
             go_big_quiet_on)
          | (go_big_quiet_op
             first
              | go_big_quiet_on
              | (apply Exists.intro
                 refine⟨fun w' hC=>?_,?_⟩
                 · (first|fail)
                   (try simp only[id]);exact⟨rfl,Ygh⟩
                 go_big_quiet_on))))
     refine wpQuiet_nil ?_;intro w9 hC;obtain⟨k0,k1,k2,k3,k4,k5,k6,k7,k8,k9,k10,k11,k12,k13,k14,k15,k16⟩:=hC;have z0:=Q1 k0;have z3:=Q1 k3;have z7:=Q1 k7;go_wp2_with fail;refine Q4 (WwC w.heap.size (w.heap.size+1) (w.heap.size+2) (w.heap.size+3) g d q true zst X.s X x y w) 9 Yc Yc ?_ ?_
     · exact Ymo
     refine Yv4 ?_;intro hN;simp only[List.take_succ_cons,List.take_zero,List.drop_succ_cons,List.drop_zero]
     repeat (first
      | go_big_quiet_skip
      | (go_big_quiet_want
         first
          | ((first|(refine Qz rfl rfl (fun w' hC=>Ygf) ?_)|(refine Q5 rfl rfl (fun w' hC=>Ygg) ?_)|(refine Q6 rfl rfl (fun w' hC=>Ygg) ?_))
             simp only[Act.put,List.setIfInBounds_toArray,List.set_cons_succ,List.set_cons_zero]
             go_big_quiet_on)
          | (go_big_quiet_op
             first
              | go_big_quiet_on
              | (apply Exists.intro
                 refine⟨fun w' hC=>?_,?_⟩
                 · exact Yrv
                 go_big_quiet_on))))
     refine wpQuiet_nil ?_;intro w9 hC;obtain⟨k0,k1,k2,k3,k4,k5,k6,k7,k8,k9,k10,k11,k12,k13,k14,k15,k16⟩:=hC;have z0:=Q1 k0;have z3:=Q1 k3;have z7:=Q1 k7;go_wp2;refine Q4 (WwC w.heap.size (w.heap.size+1) (w.heap.size+2) (w.heap.size+3) g d q true zst (X.s.setR d (Vl.num x)) X x y w) 9 Yc Yc ?_ ?_
     · exact Ymo
     refine Yv4 ?_;intro hN;simp only[List.take_succ_cons,List.take_zero,List.drop_succ_cons,List.drop_zero]
     repeat (first
      | go_big_quiet_skip
      | (go_big_quiet_want
         first
          | ((first|(refine Qz rfl rfl (fun w' hC=>Ygf) ?_)|(refine Q5 rfl rfl (fun w' hC=>Ygg) ?_)|(refine Q6 rfl rfl (fun w' hC=>Ygg) ?_))
             simp only[Act.put,List.setIfInBounds_toArray,List.set_cons_succ,List.set_cons_zero]
             go_big_quiet_on)
          | (go_big_quiet_op
             first
              | go_big_quiet_on
              | (apply Exists.intro
                 refine⟨fun w' hC=>?_,?_⟩
                 · exact Yrv
                 go_big_quiet_on))))
     refine wpQuiet_nil ?_;intro w9 hC;obtain⟨k0,k1,k2,k3,k4,k5,k6,k7,k8,k9,k10,k11,k12,k13,k14,k15,k16⟩:=hC;have z0:=Q1 k0;have z3:=Q1 k3;have z7:=Q1 k7;go_wp2;refine Yw0 ?_;simp[*,go_sem,↓IntWalk.iteOmega]
   · have EE:=Lib.hid (show Co.withS X x y=X.s by unfold Co.withS Co.sameB;rw[hr,hs];rfl)
     rw[EE.out];clear EE;generalize X.x.dst.toNat=d at *;generalize X.x.src.toNat=q at *;have hs2:((q:Int)==(d:Int))=true:=by simp only[beq_iff_eq] at hs ⊢;omega
     refine Yvf ?_;intro zst hzst hzc;go_enter Tryz.func130,Tryz.ntmps130;go_wp2;refine Ql (WwC w.heap.size (w.heap.size+1) (w.heap.size+2) (w.heap.size+3) g d q true zst X.s X x y w) Yc Yc ?_ ?_
     · exact Ymo
     refine Yv4 ?_;intro hN
     repeat (first
      | go_big_quiet_skip
      | (go_big_quiet_want
         first
          | ((first|(refine Qz rfl rfl (fun w' hC=>Ygf) ?_)|(refine Q5 rfl rfl (fun w' hC=>Ygg) ?_)|(refine Q6 rfl rfl (fun w' hC=>Ygg) ?_))
             simp only[Act.put,List.setIfInBounds_toArray,List.set_cons_succ,List.set_cons_zero]
             go_big_quiet_on)
          | (go_big_quiet_op
             first
              | go_big_quiet_on
              | (apply Exists.intro
                 refine⟨fun w' hC=>?_,?_⟩
                 · (first|fail)
                   (try simp only[id]);exact⟨rfl,Ygh⟩
                 go_big_quiet_on))))
     refine wpQuiet_nil ?_;intro w9 hC;obtain⟨k0,k1,k2,k3,k4,k5,k6,k7,k8,k9,k10,k11,k12,k13,k14,k15,k16⟩:=hC;have z0:=Q1 k0;have z3:=Q1 k3;have z7:=Q1 k7;go_wp2;refine Yw0 ?_;simp[*,go_sem,↓IntWalk.iteOmega]
end Hk
