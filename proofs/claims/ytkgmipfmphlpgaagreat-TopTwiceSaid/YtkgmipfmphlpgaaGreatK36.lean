/- A part of TopTwice; no condition. -/
import Derived.Test.YtkgmipfmphlpgaaGreatK18
open Go Go.RowKit Go.Proofs
set_option linter.all false
set_option maxRecDepth 100000
set_option maxHeartbeats 20000000
namespace Hk
def St.clr (x:St):St:=((((x.setR 1 Vl.zero).setR 2 Vl.zero).setR 3 Vl.zero).setR 4 Vl.zero).setR 5 Vl.zero
def Q68:List Value:=(List.range 35).map fun k=>Vl.zero.cell (k%7)
theorem Qhm {k:Nat}(h:k<35):Q68.getD k undef=Vl.zero.cell (k%7):=by
 unfold Q68;rw[List.getD_eq_getElem?_getD,List.getElem?_map,List.getElem?_range h];rfl
theorem Qhl:∀ v∈Q68,v.oneCell'=true:=by
 intro v hv;unfold Q68 at hv;rw[List.mem_map] at hv;obtain⟨k,_,rfl⟩:=hv;exact Yon
theorem Q14w (x:St)(i:Nat):x.clr.r i=if 1≤i∧i≤5 then Vl.zero else x.r i:=by
 unfold St.clr St.setR;simp only;by_cases h5:i=5
 · simp[h5]
 by_cases h4:i=4
 · simp[h4]
 by_cases h3:i=3
 · simp[h3]
 by_cases h2:i=2
 · simp[h2]
 by_cases h1:i=1
 · simp[h1]
 simp only[h1,h2,h3,h4,h5,if_false];rw[if_neg Y1]
theorem Ql5 (x:St):(Q26 589 fun k=>if 7+0≤k∧k<7+0+Q68.length then Q68.getD (k-(7+0)) undef else x.cells.getD k undef)=x.clr.cells:=by
 have hl:Q68.length=35:=by unfold Q68;simp
 rw[hl];unfold St.cells;refine Qx fun k hk=>?_
 rw[Q13 hk];by_cases h:7+0≤k∧k<7+0+35
 · rw[if_pos h,Qhm Y1]
   unfold St.cell;rw[if_pos Y1,Q14w,if_pos Y1,show (k-(7+0))%7=k%7 from Y1]
 · rw[if_neg h]
   unfold St.cell;by_cases h7:k<77
   · rw[if_pos h7,if_pos h7,Q14w,if_neg Y1]
   · rw[if_neg h7,if_neg h7];rfl
theorem Q7u {P:Program}(w:World)(b c:Nat)(t e ty:TypeId)(x:St)(ht:P.underlying t=some (.slice e))(hz:(zeroValue e).run P w=.ok (.agg (St.vals Vl.zero)) w)(h:blk w b=x.cells)(hf:∀ k,w.frozen? ⟨b,k,none⟩=false) :
 (Builtin.clear_ #[t] ty #[.slice (some ⟨b,7,none⟩) 5 c]).run P w=.ok (.tuple #[]) (w.setRow b x.clr.cells):=by
 have hs:=Q25 (P:=P) b 7 Q68 0 w Qhl (by rw[h,St.cells_size];decide) hf;rw[h,St.cells_size,Ql5] at hs
 have hzl:(Builtin.zeroCells (St.vals Vl.zero) 5).toList=Q68:=by
  unfold Builtin.zeroCells Q68;rw[Array.toList_map,Array.toList_range];show (List.range 35).map _=_;apply List.map_congr_left;intro k _;have h7:k%7<7:=Nat.mod_lt _ Y0;show (St.vals Vl.zero)[k%7]! =_;generalize k%7=j at h7
  match j,h7 with
  | 0,_|1,_|2,_|3,_|4,_|5,_|6,_=>rfl
 simp[Builtin.clear_,run_underlying ht,hz,Value.cells,hzl,hs]
def Q15b (p:Option Addr)(ln dc g pb:Nat)(v:Vl)(w:World)(d:Nat→Bool)(ν:Nat→Nat×Nat)(w':World):Prop:=w'.cell? ⟨g,1,none⟩=some (.slice p ln dc)∧CVl.a w' pb v (0≤w'.heap.size∧Below w.heap.size w w')
theorem Qa3 {p:Option Addr}{ln dc g pb:Nat}{v:Vl}{w:World}:KT (Q15b p ln dc g pb v w):=by
 exact Yn4
theorem Qa2 {p:Option Addr}{ln dc g pb:Nat}{v:Vl}{w:World}:MT (Q15b p ln dc g pb v w) []:=by
 intro d d' ν w' hd h;unfold Q15b at *;simpa only[true_and] using h
theorem Qny (g:Nat)(d:Option Addr)(X:Sx)(v:Vl)(w:World)(hX:Q1e w g X)(h0:(v.k==0)=false)(hno:(v.k==4)=false∨decide ((X.ds.length:Int)≤v.i)=true):Calls Tryz.prog 133 #[.pointer (some ⟨g,0,none⟩),.int .u8 1,v,.pointer d] w (RB.a w (.int .i64 113)):=by
 obtain⟨a0,a1,a2,a3,a4,a5,a6,a7,a8,a9,a10,a11,a12,a13,a14⟩:=hX.cells;have zg:=hX.lt;generalize X.ds.length=ln at *;generalize X.dc=dc at *;generalize X.p=p at *;cases h4:(v.k==4)
 · have h5:(v.k != 4)=true:=by simp only[bne,h4];rfl
   go_enter Tryz.func133,Tryz.ntmps133;go_wp2_with ((with_reducible apply ic);first|(refine Y3u ?_;intro w1 hb1 hc1 hf1 hz1)|(refine Y3v ?_;intro w2 hb2 hc2 hf2 hz2));refine Q2 (Q15b p ln dc g w.heap.size v w) [] [] (fun _ c=>.pointer (some ⟨c.1,0,none⟩)) rfl Yc ?_ (fun d d' ν w'=>Qa2 d d' ν w') (fun d ν w' w1=>Qa3 d ν w' w1) (fun i hi=>Yf0) ?_
   · exact Ymi
   apply Exists.intro;refine⟨fun ν=>?_,?_,?_⟩
   · exact Yt0
   · intro i hi;cases hi
   · exact Yo0
 · have q0:decide ((ln:Int)≤v.i)=true:=by rcases hno with h|h;(rw[h4] at h;cases h);exact h
   have h5:(v.k != 4)=false:=by simp only[bne,h4];rfl
   go_enter Tryz.func133,Tryz.ntmps133;go_wp2_with ((with_reducible apply ic);first|(refine Y3u ?_;intro w1 hb1 hc1 hf1 hz1)|(refine Y3v ?_;intro w2 hb2 hc2 hf2 hz2));refine Q2 (Q15b p ln dc g w.heap.size v w) [] [] (fun _ c=>.pointer (some ⟨c.1,0,none⟩)) rfl Yc ?_ (fun d d' ν w'=>Qa2 d d' ν w') (fun d ν w' w1=>Qa3 d ν w' w1) (fun i hi=>Yf0) ?_
   · exact Ymi
   apply Exists.intro;refine⟨fun ν=>?_,?_,?_⟩
   · exact Yt0
   · intro i hi;cases hi
   · exact Yo0
def Q17i (w:World)(dd:Nat)(d:Df):World:=(((w.setCell ⟨dd,0,none⟩ (.bool d.hash)).setCell ⟨dd,1,none⟩ (.int .i64 d.key)).setCell ⟨dd,2,none⟩ (.int .i64 d.val)).setCell ⟨dd,3,none⟩ (.int .i64 d.max)
theorem Qbi (ρ:Operand→Value)(op:Oper)(x:Operand)(b o:Nat)(c0 c1 c2 c3:Value)(ho:op.op=.load 102 x)(hx:ρ x=.pointer (some ⟨b,o,none⟩))(w:World)(h0:w.cell? ⟨b,o,none⟩=some c0)(h1:w.cell? ⟨b,o+1,none⟩=some c1)(h2:w.cell? ⟨b,o+2,none⟩=some c2)(h3:w.cell? ⟨b,o+3,none⟩=some c3) :
 (execOp ρ op).run Tryz.prog w=.ok (.value (.agg #[c0,c1,c2,c3])) w:=by
 obtain⟨dst,op,type,pos,after,guard⟩:=op;simp only at ho;subst ho
 go_simp
theorem Q7y {op:Oper}{a:Act}{C:World→Prop}{K:Act→Prop}{x:Operand}{b o:Nat}{c0 c1 c2 c3:Value}(ho:op.op=.load 102 x)(hx:a.eval x=.pointer (some ⟨b,o,none⟩))
 (h:∀ w,C w→w.cell? ⟨b,o,none⟩=some c0∧w.cell? ⟨b,o+1,none⟩=some c1∧w.cell? ⟨b,o+2,none⟩=some c2∧w.cell? ⟨b,o+3,none⟩=some c3) (hk:K (a.put op.dst (.agg #[c0,c1,c2,c3]))):op.quiet Tryz.prog a C K :=
 Qt (v:=.agg #[c0,c1,c2,c3]) (fun w hC=>by unfold Oper.quietAt;obtain⟨h0,h1,h2,h3⟩:=h w hC;rw[Qbi _ op x b o c0 c1 c2 c3 ho hx w h0 h1 h2 h3];exact⟨rfl,rfl⟩) hk
def Q168 (ln dc g pb bd od:Nat)(v:Vl)(w:World)(d:Nat→Bool)(ν:Nat→Nat×Nat)(w':World):Prop:=w'.cell? ⟨g,1,none⟩=some (.slice (some ⟨bd,od,none⟩) ln dc)∧CVl.a w' pb v (0≤w'.heap.size∧Below w.heap.size w w')
theorem Qmm {ln dc g pb bd od:Nat}{v:Vl}{w:World}:KT (Q168 ln dc g pb bd od v w):=by
 exact Yn4
theorem Qml {ln dc g pb bd od:Nat}{v:Vl}{w:World}:MT (Q168 ln dc g pb bd od v w) []:=by
 intro d d' ν w' hd h;unfold Q168 at *;simpa only[true_and] using h
def Q19h (ln dc g pb bd od qi dd:Nat)(d y:Df)(w:World)(w':World):Prop:=w'.cell? ⟨g,1,none⟩=some (.slice (some ⟨bd,od,none⟩) ln dc)∧w'.cell? ⟨pb,5,none⟩=some (.int .i64 (qi:Nat))∧w'.cell? ⟨bd,od+qi*4,none⟩=some (.bool d.hash)∧w'.cell? ⟨bd,od+qi*4+1,none⟩=some (.int .i64 d.key)∧w'.cell? ⟨bd,od+qi*4+2,none⟩=some (.int .i64 d.val)∧w'.cell? ⟨bd,od+qi*4+3,none⟩=some (.int .i64 d.max)∧w'.cell? ⟨dd,0,none⟩=some (.bool y.hash)∧w'.cell? ⟨dd,1,none⟩=some (.int .i64 y.key)∧w'.cell? ⟨dd,2,none⟩=some (.int .i64 y.val)∧w'.cell? ⟨dd,3,none⟩=some (.int .i64 y.max)∧(∀ i,w'.frozen? ⟨dd,i,none⟩=false)∧Below w.heap.size w w'
theorem Qmk {ln dc g pb bd od qi dd:Nat}{d y:Df}{w:World}:KC (Q19h ln dc g pb bd od qi dd d y w):=by
 intro w' w1 h hb;obtain⟨k0,k1,k2,k3,k4,k5,k6,k7,k8,k9,k10,k11⟩:=h;exact⟨Q0 hb k0,Q0 hb k1,Q0 hb k2,Q0 hb k3,Q0 hb k4,Q0 hb k5,Q0 hb k6,Q0 hb k7,Q0 hb k8,Q0 hb k9,Q7 hb k6 k10,Q8 k11 hb⟩
theorem Qho (g dd:Nat)(X:Sx)(v:Vl)(y:Df)(w:World)(hX:Q1e w g X)(h4:(v.k==4)=true)(hi:0≤v.i)(hi2:v.i<X.ds.length)(hl:X.ds.length≤1000)(d0:w.cell? ⟨dd,0,none⟩=some (.bool y.hash))(d1:w.cell? ⟨dd,1,none⟩=some (.int .i64 y.key))(d2:w.cell? ⟨dd,2,none⟩=some (.int .i64 y.val))(d3:w.cell? ⟨dd,3,none⟩=some (.int .i64 y.max))(hfd:∀ i,w.frozen? ⟨dd,i,none⟩=false):Calls Tryz.prog 133 #[.pointer (some ⟨g,0,none⟩),.int .u8 1,v,.pointer (some ⟨dd,0,none⟩)] w fun e w'=>e=.returned (.int .i64 0)∧∃ w1,Below w.heap.size w w1∧w'=Q17i w1 dd (X.ds.getD v.i.toNat ⟨false,0,0,0⟩):=by
 obtain⟨a0,a1,a2,a3,a4,a5,a6,a7,a8,a9,a10,a11,a12,a13,a14⟩:=hX.cells;have zg:=hX.lt;have zd:=Q1 d0;obtain⟨qi,hqi⟩:∃ n:Nat,v.i=(n:Int):=⟨v.i.toNat,Y1⟩;have hlt:qi<X.ds.length:=Y1;obtain⟨bd,od,hp,m0,m1,m2,m3⟩:=hX.defs qi hlt;rw[hp] at a1;have hy:X.ds.getD v.i.toNat ⟨false,0,0,0⟩=X.ds[qi]:=by rw[hqi,Int.toNat_natCast,List.getD_eq_getElem?_getD,List.getElem?_eq_getElem hlt];rfl
 rw[hy];generalize X.ds[qi]=df at *;have zm:=Q1 m0;clear hp hy;generalize X.ds.length=ln at *;generalize X.dc=dc at *;have h5:(v.k != 4)=false:=by simp only[bne,h4];rfl
 have h0:(v.k==0)=false:=by simp only[beq_iff_eq] at h4;rw[h4];rfl
 have hge:decide ((ln:Int)≤v.i)=false:=Y4;have HQ:=Lib.hid hqi;clear hqi;go_enter Tryz.func133,Tryz.ntmps133;go_wp2_with ((with_reducible apply ic);first|(refine Y3u ?_;intro w1 hb1 hc1 hf1 hz1)|(refine Y3v ?_;intro w2 hb2 hc2 hf2 hz2));refine Q2 (Q168 ln dc g w.heap.size bd od v w) [] [] (fun _ c=>.pointer (some ⟨c.1,0,none⟩)) rfl Yc ?_ (fun d d' ν w'=>Qml d d' ν w') (fun d ν w' w1=>Qmm d ν w' w1) (fun i hi=>Yf0) ?_
 · exact Ymi
 apply Exists.intro;refine⟨fun ν=>?_,?_,?_⟩
 · exact Yt0
 · intro i hi;cases hi
 · intro ν w9 d hd hC
   obtain⟨k0,k1,k2,k3,k4,k5,k6,k7,k8,k9⟩:=hC
   skip
   clear hd;refine Yvn ?_;intro z0 z1;have hq9:=HQ.out;have hqn:qi<ln:=Y1;have hB9:Below w.heap.size w w9:=Y2;have M0:=Q0 hB9 m0;have M1:=Q0 hB9 m1;have M2:=Q0 hB9 m2;have M3:=Q0 hB9 m3;have D0:=Q0 hB9 d0;have D1:=Q0 hB9 d1;have D2:=Q0 hB9 d2;have D3:=Q0 hB9 d3;have hF:=Q7 hB9 d0 hfd;go_wp2_with fail;refine Q4 (Q19h ln dc g w.heap.size bd od qi dd df y w) 11 Yc Yc ?_ ?_
   · exact Ymy
   refine Yv4 ?_;intro hN;simp only[List.take_succ_cons,List.take_zero,List.drop_succ_cons,List.drop_zero]
   repeat (first
    | go_big_quiet_skip
    | (go_big_quiet_want
       first
        | ((first|(refine Q1j rfl rfl (fun w' hC=>Yfz) ?_)|(refine Q3 rfl rfl (fun w' hC=>Yfz) ?_)|(refine Q7y rfl rfl (fun w' hC=>Yfy) ?_))
           simp only[Act.put,List.setIfInBounds_toArray,List.set_cons_succ,List.set_cons_zero]
           go_big_quiet_on)
        | (go_big_quiet_op
           first
            | go_big_quiet_on
            | (apply Exists.intro
               refine⟨fun w' hC=>?_,?_⟩
               · (first|fail)
                 (try simp only[id]);exact⟨rfl,by first|exact hC|exact Qmk _ _ hC hb1⟩
               go_big_quiet_on))))
   refine wpQuiet_nil ?_;intro w9 hC;obtain⟨k0,k1,k2,k3,k4,k5,k6,k7,k8,k9,k10,k11⟩:=hC;refine Yvn ?_;intro z0 z1;have z2:=Q1 k2;have z6:=Q1 k6;have hz9:=k11.size;go_wp2;go_ret;exact⟨rfl,w9,k11,rfl⟩
def Q15c (g pb dd:Nat)(X:Sx)(v:Vl)(kk:Int)(w:World)(d:Nat→Bool)(ν:Nat→Nat×Nat)(w':World):Prop:=CVl.a w' pb v (w'.cell? ⟨dd,1,none⟩=some (.int .i64 kk)∧0≤w'.heap.size∧Q1e w' g X∧Below w.heap.size w w')
theorem Qa5 {g pb dd:Nat}{X:Sx}{v:Vl}{kk:Int}{w:World}:KT (Q15c g pb dd X v kk w):=by
 exact Ymu
theorem Qa4 {g pb dd:Nat}{X:Sx}{v:Vl}{kk:Int}{w:World}:MT (Q15c g pb dd X v kk w) []:=by
 intro d d' ν w' hd h;unfold Q15c at *;simpa only[true_and] using h
def Q169 (g pb dd:Nat)(X:Sx)(v:Vl)(kk:Int)(w:World)(d:Nat→Bool)(ν:Nat→Nat×Nat)(w':World):Prop:=CVl.a w' pb v (w'.cell? ⟨dd,2,none⟩=some (.int .i64 kk)∧0≤w'.heap.size∧Q1e w' g X∧Below w.heap.size w w')
theorem Qmo {g pb dd:Nat}{X:Sx}{v:Vl}{kk:Int}{w:World}:KT (Q169 g pb dd X v kk w):=by
 exact Ymu
theorem Qmn {g pb dd:Nat}{X:Sx}{v:Vl}{kk:Int}{w:World}:MT (Q169 g pb dd X v kk w) []:=by
 intro d d' ν w' hd h;unfold Q169 at *;simpa only[true_and] using h
theorem Qvm (g dd:Nat)(X:Sx)(k:Int)(v:Vl)(y:Df)(w:World)(hX:Q1e w g X)(h1:(k==1)=false)(d0:w.cell? ⟨dd,0,none⟩=some (.bool y.hash))(d1:w.cell? ⟨dd,1,none⟩=some (.int .i64 y.key))(d2:w.cell? ⟨dd,2,none⟩=some (.int .i64 y.val))(hvo:-2097152≤v.off∧v.off≤2097152)(hs1:0≤y.key∧y.key≤100000)(hs2:0≤y.val∧y.val≤100000)(hctx:0≤X.ctx∧X.ctx≤64)(hds:∀ d∈X.ds,0≤d.val∧d.val≤64)(hvi:0≤v.i∧v.i≤7):Calls Tryz.prog 133 #[.pointer (some ⟨g,0,none⟩),.int .u8 k,v,.pointer (some ⟨dd,0,none⟩)] w (RB.a w (.int .i64 (Co.toldE X.s X.ds X.ctx k v y))):=by
 have zg:=hX.lt;have zd:=Q1 d0;cases h0:(v.k==0)
 · cases h2:(k==2)
   · cases h3:(k==3)
     · cases h4:(k==4)<;>cases hn:(v.k==1)
       all_goals
        have EE:=Lib.hid (show Co.toldE X.s X.ds X.ctx k v y=_ by unfold Co.toldE;rw[h0,h2,h3,h4,hn]);go_enter Tryz.func133,Tryz.ntmps133;go_wp2_with ((with_reducible apply ic);first|(refine Y3u ?_;intro w1 hb1 hc1 hf1 hz1)|(refine Y3v ?_;intro w2 hb2 hc2 hf2 hz2))
        first
         | (go_ret
            exact⟨Yg9,Yb⟩)
         | ((first|(have hX2:Q1e w2.drew g X:=hX.keep Yb)|(have hX2:Q1e w1.drew g X:=hX.keep Yb))
            refine Q2 (Q15c g w.heap.size dd X v y.key w) [] [] (fun _ c=>.pointer (some ⟨c.1,0,none⟩)) rfl Yc ?_ (fun d d' ν w'=>Qa4 d d' ν w') (fun d ν w' w1=>Qa5 d ν w' w1) (fun i hi=>Yf0) ?_
            · exact Ymh
            apply Exists.intro;refine⟨fun ν=>?_,?_,?_⟩
            · (try simp only[List.append])
              iterate 19
               (refine Qa Y0 ?_
                apply Exists.intro;refine⟨fun D hD hR hN K hK=>?_,Yc,?_⟩
                · first
                  | (go_big_quiet_skip;exact hK)
                  | (go_big_quiet_want
                     first
                      | ((first|(refine Qn rfl rfl (fun w' hC=>Yh8) ?_)|(refine Q3 rfl rfl (fun w' hC=>Yg7) ?_))
                         simp only[Act.put,List.setIfInBounds_toArray,List.set_cons_succ,List.set_cons_zero]
                         go_big_quiet_on
                         exact hK)
                      | (go_big_quiet_op
                         first
                          | (go_big_quiet_on;exact hK)
                          | (apply Exists.intro
                             refine⟨fun w' hC=>?_,?_⟩
                             · exact Ysx
                             go_big_quiet_on
                             exact hK))))
              exact rfl
            · intro i hi;cases hi
            · intro ν w9 d hd hC
              obtain⟨k0,k1,k2,k3,k4,k5,k6,k7,k8,k9,k10⟩:=hC
              skip
              clear hd;have z0:=Q1 k0;have z7:=Q1 k7;go_wp2;go_ret
              exact⟨Yg9,Yb⟩)
     · have EE:=Lib.hid (show Co.toldE X.s X.ds X.ctx k v y=Co.readE X.s X.ds X.ctx v y.val by unfold Co.toldE;rw[h0,h2,h3];rfl)
       go_enter Tryz.func133,Tryz.ntmps133;go_wp2_with ((with_reducible apply ic);first|(refine Y3u ?_;intro w1 hb1 hc1 hf1 hz1)|(refine Y3v ?_;intro w2 hb2 hc2 hf2 hz2));have hX2:Q1e w1.drew g X:=hX.keep Yb;refine Q2 (Q169 g w.heap.size dd X v y.val w) [] [] (fun _ c=>.pointer (some ⟨c.1,0,none⟩)) rfl Yc ?_ (fun d d' ν w'=>Qmn d d' ν w') (fun d ν w' w1=>Qmo d ν w' w1) (fun i hi=>Yf0) ?_
       · exact Ymh
       exact Yme
   · have EE:=Lib.hid (show Co.toldE X.s X.ds X.ctx k v y=Co.readE X.s X.ds X.ctx v y.key by unfold Co.toldE;rw[h0,h2];rfl)
     go_enter Tryz.func133,Tryz.ntmps133;go_wp2_with ((with_reducible apply ic);first|(refine Y3u ?_;intro w1 hb1 hc1 hf1 hz1)|(refine Y3v ?_;intro w2 hb2 hc2 hf2 hz2));have hX2:Q1e w1.drew g X:=hX.keep Yb;refine Q2 (Q15c g w.heap.size dd X v y.key w) [] [] (fun _ c=>.pointer (some ⟨c.1,0,none⟩)) rfl Yc ?_ (fun d d' ν w'=>Qa4 d d' ν w') (fun d ν w' w1=>Qa5 d ν w' w1) (fun i hi=>Yf0) ?_
     · exact Ymh
     exact Yme
 · have EE:=Lib.hid (show Co.toldE X.s X.ds X.ctx k v y=110 by unfold Co.toldE;rw[h0];rfl)
   go_enter Tryz.func133,Tryz.ntmps133;go_wp2_with ((with_reducible apply ic);first|(refine Y3u ?_;intro w1 hb1 hc1 hf1 hz1)|(refine Y3v ?_;intro w2 hb2 hc2 hf2 hz2));go_ret;exact⟨Yg9,Yb⟩
theorem Qvl (g:Nat)(d:Option Addr)(X:Sx)(v:Vl)(w:World)(h0:(v.k==0)=true):Calls Tryz.prog 133 #[.pointer (some ⟨g,0,none⟩),.int .u8 1,v,.pointer d] w (RB.a w (.int .i64 110)):=by
 go_enter Tryz.func133,Tryz.ntmps133;go_wp2_with (go_at_call 113;refine Y3u ?_;intro w1 hb1 hc1 hf1 hz1);go_ret;exact⟨rfl,Y14⟩
structure Q46 (dd:Nat) (d:Df) (w w':World):Prop where
 c0:w'.cell? ⟨dd,0,none⟩=some (.bool d.hash)
 c1:w'.cell? ⟨dd,1,none⟩=some (.int .i64 d.key)
 c2:w'.cell? ⟨dd,2,none⟩=some (.int .i64 d.val)
 c3:w'.cell? ⟨dd,3,none⟩=some (.int .i64 d.max)
 fz:∀ i,w'.frozen? ⟨dd,i,none⟩=false
 fr:Fr2 dd none w w'
theorem Q46.same {dd:Nat}{d:Df}{w w1 w':World}(h:Q46 dd d w w1)(hb:Below w1.heap.size w1 w'):Q46 dd d w w' :=
 ⟨Q0 hb h.c0,Q0 hb h.c1,Q0 hb h.c2,Q0 hb h.c3,Q7 hb h.c0 h.fz,h.fr.trans (Fr2.of_below (row:=none) hb) (fun k hk=>by cases hk)⟩
theorem Q46.laid {dd:Nat}{d y:Df}{w w1 w':World}(h:Q46 dd y w w1)(hb:Below w1.heap.size w1 w'):Q46 dd d w (Q17i w' dd d):=by
 have h2:=h.same hb;obtain⟨c0,c1,c2,c3,fz,fr⟩:=h2;unfold Q17i;refine⟨?_,?_,?_,?_,?_,((((fr.set).set).set).set)⟩
 all_goals first|(simp[*,go_sem];done)|(intro i;simp[*,go_sem])
theorem Qhp (g dd:Nat)(X:Sx)(k:Int)(v:Vl)(y:Df)(w0 w:World)(hX:Q1e w g X)(hT:Q46 dd y w0 w)(hvo:-2097152≤v.off∧v.off≤2097152)(hs1:0≤y.key∧y.key≤100000)(hs2:0≤y.val∧y.val≤100000)(hctx:0≤X.ctx∧X.ctx≤64)(hds:∀ d∈X.ds,0≤d.val∧d.val≤64)(hvi:0≤v.i∧v.i≤7)(hl:X.ds.length≤1000):Calls Tryz.prog 133 #[.pointer (some ⟨g,0,none⟩),.int .u8 k,v,.pointer (some ⟨dd,0,none⟩)] w fun e w'=>e=.returned (.int .i64 (Co.told1E X k v y))∧Q46 dd (Co.told1D X k v y) w0 w':=by
 cases h1:(k==1)
 · have eE:Co.told1E X k v y=Co.toldE X.s X.ds X.ctx k v y:=by unfold Co.told1E;rw[h1];rfl
   have eD:Co.told1D X k v y=y:=by unfold Co.told1D;rw[h1];rfl
   rw[eE,eD];refine (Qvm g dd X k v y w hX h1 hT.c0 hT.c1 hT.c2 hvo hs1 hs2 hctx hds hvi).mono ?_;rintro e w1 ⟨rfl,hb⟩;exact⟨rfl,hT.same hb⟩
 · obtain rfl:k=1:=by simpa using h1
   cases h0:(v.k==0)
   · cases h4:((v.k==4)&&decide (v.i<X.ds.length))
     · have eE:Co.told1E X 1 v y=113:=by unfold Co.told1E;rw[h1,h0,h4];rfl
       have eD:Co.told1D X 1 v y=y:=by unfold Co.told1D;rw[Bool.and_assoc,h4];simp
       rw[eE,eD]
       have hno:(v.k==4)=false∨decide ((X.ds.length:Int)≤v.i)=true:=by
        cases h:(v.k==4) with
        | false=>exact .inl rfl
        | true=>rw[h] at h4;simp at h4;exact .inr Y4
       refine (Qny g _ X v w hX h0 hno).mono ?_;rintro e w1 ⟨rfl,hb⟩;exact⟨rfl,hT.same hb⟩
     · have h4':(v.k==4)=true∧v.i<X.ds.length:=by simpa using h4
       have eE:Co.told1E X 1 v y=0:=by unfold Co.told1E;rw[h1,h0,h4];rfl
       have eD:Co.told1D X 1 v y=X.ds.getD v.i.toNat ⟨false,0,0,0⟩:=by unfold Co.told1D;rw[Bool.and_assoc,h4,h1,h0];rfl
       rw[eE,eD];refine (Qho g dd X v y w hX h4'.1 hvi.1 h4'.2 hl hT.c0 hT.c1 hT.c2 hT.c3 hT.fz).mono ?_;rintro e w1 ⟨rfl,w2,hb,rfl⟩;exact⟨rfl,hT.laid hb⟩
   · have eE:Co.told1E X 1 v y=110:=by unfold Co.told1E Co.toldE;rw[h1,h0];rfl
     have eD:Co.told1D X 1 v y=y:=by unfold Co.told1D;rw[h1,h0];rfl
     rw[eE,eD];refine (Qvl g _ X v w h0).mono ?_;rintro e w1 ⟨rfl,hb⟩;exact⟨rfl,hT.same hb⟩
theorem Q20 {fn:Func}{p r:Tmp}(h:fn.results=#[.cell p 208,.tmp r])(tmps:Array Value)(w:World)(g:Nat)(v:Value)(y:Sg)(c:Value)
 (hp:tmps.getD p undef=.pointer (some ⟨g,0,none⟩)) (hr:tmps.getD r undef=c)
 (a0:w.cell? ⟨g,0,none⟩=some v) (a1:w.cell? ⟨g,1,none⟩=some (.int .u8 y.tells)) (a2:w.cell? ⟨g,2,none⟩=some (.bool y.draws)) (a3:w.cell? ⟨g,3,none⟩=some (.int .u64 (N y.most))) :
 Sem.run Tryz.prog (results fn tmps) w=.ok (.tuple #[.agg #[v,.int .u8 y.tells,.bool y.draws,.int .u64 (N y.most)],c]) w:=by
 have hp':tmps[p]?.getD undef=.pointer (some ⟨g,0,none⟩):=Yew;have hr':tmps[r]?.getD undef=c:=Yej;simp only[results,h];simp[hp',hr',a0,a1,a2,a3,go_sem]
theorem Qrk (n:BitVec 64)(w:World):Calls Tryz.prog 163 #[.int .u64 (N n)] w (RB.a w (.agg #[.slice none 0 0,.int .u8 1,.bool true,.int .u64 (N n)])):=by
 go_enter Tryz.func163,Tryz.ntmps163;go_wp2;refine bodyPost_ret (v:=.agg #[.slice none 0 0,.int .u8 1,.bool true,.int .u64 (N n)]) ?_ rfl ⟨rfl,Yb⟩;simp only[results,Tryz.results163];simp[*,go_sem,↓IntWalk.iteOmega];try rfl
theorem Q141 (w:World):Calls Tryz.prog 132 #[.int .i64 1] w (fun e w'=>∃ v,e=.returned (.tuple #[.agg #[v,.int .u8 (Co.sigOf 1).tells,.bool (Co.sigOf 1).draws,.int .u64 (N (Co.sigOf 1).most)],.bool (Co.sigB 1)])∧w'.ownsRow w.heap.size 5 1 v (Co.sigOf 1).told.length (Co.u8V (Co.sigOf 1).told)∧Below w.heap.size w w'):=by
 show Calls _ _ _ _ (fun e w'=>∃ v,e=.returned (.tuple #[.agg #[v,.int .u8 (⟨[1,2],2,false,0#64⟩:Sg).tells,.bool (⟨[1,2],2,false,0#64⟩:Sg).draws,.int .u64 (N (⟨[1,2],2,false,0#64⟩:Sg).most)],.bool true])∧w'.ownsRow w.heap.size 5 1 v (⟨[1,2],2,false,0#64⟩:Sg).told.length (Co.u8V (⟨[1,2],2,false,0#64⟩:Sg).told)∧Below w.heap.size w w');refine Yw5 ?_;go_wp2_with (first|fail);refine bodyPost_ret (Q20 (fn:=Tryz.f132) rfl _ _ w.heap.size (.slice (some ⟨w.heap.size+1,0,none⟩) 2 2) (⟨[1,2],2,false,0#64⟩) (.bool true) rfl rfl ?_ ?_ ?_ ?_) rfl ⟨_,rfl,?_,Yb⟩
 all_goals first|(simp (maxDischargeDepth:=12) [*,go_sem,↓IntWalk.iteOmega,N,Co.all64];done)|(simp (maxDischargeDepth:=12) [*,go_sem,↓IntWalk.iteOmega];rfl)|skip
 all_goals (repeat' (first|exact Q65 1 2 Y3 rfl Y1r rfl Y0|refine Q3j ?_ Ya))
theorem Q13z (w:World):Calls Tryz.prog 132 #[.int .i64 3] w (fun e w'=>∃ v,e=.returned (.tuple #[.agg #[v,.int .u8 (Co.sigOf 3).tells,.bool (Co.sigOf 3).draws,.int .u64 (N (Co.sigOf 3).most)],.bool (Co.sigB 3)])∧w'.ownsRow w.heap.size 5 1 v (Co.sigOf 3).told.length (Co.u8V (Co.sigOf 3).told)∧Below w.heap.size w w'):=by
 show Calls _ _ _ _ (fun e w'=>∃ v,e=.returned (.tuple #[.agg #[v,.int .u8 (⟨[1,2],1,false,Co.all64⟩:Sg).tells,.bool (⟨[1,2],1,false,Co.all64⟩:Sg).draws,.int .u64 (N (⟨[1,2],1,false,Co.all64⟩:Sg).most)],.bool true])∧w'.ownsRow w.heap.size 5 1 v (⟨[1,2],1,false,Co.all64⟩:Sg).told.length (Co.u8V (⟨[1,2],1,false,Co.all64⟩:Sg).told)∧Below w.heap.size w w');refine Yw5 ?_;go_wp2_with (first|fail);refine bodyPost_ret (Q20 (fn:=Tryz.f132) rfl _ _ w.heap.size (.slice (some ⟨w.heap.size+1,0,none⟩) 2 2) (⟨[1,2],1,false,Co.all64⟩) (.bool true) rfl rfl ?_ ?_ ?_ ?_) rfl ⟨_,rfl,?_,Yb⟩
 all_goals first|(simp (maxDischargeDepth:=12) [*,go_sem,↓IntWalk.iteOmega,N,Co.all64];done)|(simp (maxDischargeDepth:=12) [*,go_sem,↓IntWalk.iteOmega];rfl)|skip
 all_goals (repeat' (first|exact Q65 1 2 Y3 rfl Y1r rfl Y0|refine Q3j ?_ Ya))
theorem Q13y (w:World):Calls Tryz.prog 132 #[.int .i64 5] w (fun e w'=>∃ v,e=.returned (.tuple #[.agg #[v,.int .u8 (Co.sigOf 5).tells,.bool (Co.sigOf 5).draws,.int .u64 (N (Co.sigOf 5).most)],.bool (Co.sigB 5)])∧w'.ownsRow w.heap.size 5 1 v (Co.sigOf 5).told.length (Co.u8V (Co.sigOf 5).told)∧Below w.heap.size w w'):=by
 show Calls _ _ _ _ (fun e w'=>∃ v,e=.returned (.tuple #[.agg #[v,.int .u8 (⟨[],1,true,Co.all64⟩:Sg).tells,.bool (⟨[],1,true,Co.all64⟩:Sg).draws,.int .u64 (N (⟨[],1,true,Co.all64⟩:Sg).most)],.bool true])∧w'.ownsRow w.heap.size 5 1 v (⟨[],1,true,Co.all64⟩:Sg).told.length (Co.u8V (⟨[],1,true,Co.all64⟩:Sg).told)∧Below w.heap.size w w');refine Yw5 ?_;go_wp2_with (go_at_call 163;refine Y7c ?_;intro w1 hb1 hc1 hf1 hz1);refine bodyPost_ret (Q20 (fn:=Tryz.f132) rfl _ _ w.heap.size (.slice none 0 0) (⟨[],1,true,Co.all64⟩) (.bool true) rfl rfl ?_ ?_ ?_ ?_) rfl ⟨_,rfl,?_,Yb⟩
 all_goals first|(simp (maxDischargeDepth:=12) [*,go_sem,↓IntWalk.iteOmega,N,Co.all64];done)|(simp (maxDischargeDepth:=12) [*,go_sem,↓IntWalk.iteOmega];rfl)|skip
 exact Qy
theorem Q13w (w:World):Calls Tryz.prog 132 #[.int .i64 7] w (fun e w'=>∃ v,e=.returned (.tuple #[.agg #[v,.int .u8 (Co.sigOf 7).tells,.bool (Co.sigOf 7).draws,.int .u64 (N (Co.sigOf 7).most)],.bool (Co.sigB 7)])∧w'.ownsRow w.heap.size 5 1 v (Co.sigOf 7).told.length (Co.u8V (Co.sigOf 7).told)∧Below w.heap.size w w'):=by
 show Calls _ _ _ _ (fun e w'=>∃ v,e=.returned (.tuple #[.agg #[v,.int .u8 (⟨[],1,true,4294967295#64⟩:Sg).tells,.bool (⟨[],1,true,4294967295#64⟩:Sg).draws,.int .u64 (N (⟨[],1,true,4294967295#64⟩:Sg).most)],.bool true])∧w'.ownsRow w.heap.size 5 1 v (⟨[],1,true,4294967295#64⟩:Sg).told.length (Co.u8V (⟨[],1,true,4294967295#64⟩:Sg).told)∧Below w.heap.size w w');refine Yw5 ?_;go_wp2_with (go_at_call 163;refine Y7c ?_;intro w1 hb1 hc1 hf1 hz1);refine bodyPost_ret (Q20 (fn:=Tryz.f132) rfl _ _ w.heap.size (.slice none 0 0) (⟨[],1,true,4294967295#64⟩) (.bool true) rfl rfl ?_ ?_ ?_ ?_) rfl ⟨_,rfl,?_,Yb⟩
 all_goals first|(simp (maxDischargeDepth:=12) [*,go_sem,↓IntWalk.iteOmega,N,Co.all64];done)|(simp (maxDischargeDepth:=12) [*,go_sem,↓IntWalk.iteOmega];rfl)|skip
 exact Qy
theorem Q13v (w:World):Calls Tryz.prog 132 #[.int .i64 8] w (fun e w'=>∃ v,e=.returned (.tuple #[.agg #[v,.int .u8 (Co.sigOf 8).tells,.bool (Co.sigOf 8).draws,.int .u64 (N (Co.sigOf 8).most)],.bool (Co.sigB 8)])∧w'.ownsRow w.heap.size 5 1 v (Co.sigOf 8).told.length (Co.u8V (Co.sigOf 8).told)∧Below w.heap.size w w'):=by
 show Calls _ _ _ _ (fun e w'=>∃ v,e=.returned (.tuple #[.agg #[v,.int .u8 (⟨[],1,true,63#64⟩:Sg).tells,.bool (⟨[],1,true,63#64⟩:Sg).draws,.int .u64 (N (⟨[],1,true,63#64⟩:Sg).most)],.bool true])∧w'.ownsRow w.heap.size 5 1 v (⟨[],1,true,63#64⟩:Sg).told.length (Co.u8V (⟨[],1,true,63#64⟩:Sg).told)∧Below w.heap.size w w');refine Yw5 ?_;go_wp2_with (go_at_call 163;refine Y7c ?_;intro w1 hb1 hc1 hf1 hz1);refine bodyPost_ret (Q20 (fn:=Tryz.f132) rfl _ _ w.heap.size (.slice none 0 0) (⟨[],1,true,63#64⟩) (.bool true) rfl rfl ?_ ?_ ?_ ?_) rfl ⟨_,rfl,?_,Yb⟩
 all_goals first|(simp (maxDischargeDepth:=12) [*,go_sem,↓IntWalk.iteOmega,N,Co.all64];done)|(simp (maxDischargeDepth:=12) [*,go_sem,↓IntWalk.iteOmega];rfl)|skip
 exact Qy
theorem Q13x (w:World):Calls Tryz.prog 132 #[.int .i64 6] w (fun e w'=>∃ v,e=.returned (.tuple #[.agg #[v,.int .u8 (Co.sigOf 6).tells,.bool (Co.sigOf 6).draws,.int .u64 (N (Co.sigOf 6).most)],.bool (Co.sigB 6)])∧w'.ownsRow w.heap.size 5 1 v (Co.sigOf 6).told.length (Co.u8V (Co.sigOf 6).told)∧Below w.heap.size w w'):=by
 show Calls _ _ _ _ (fun e w'=>∃ v,e=.returned (.tuple #[.agg #[v,.int .u8 (⟨[4,4],1,false,0#64⟩:Sg).tells,.bool (⟨[4,4],1,false,0#64⟩:Sg).draws,.int .u64 (N (⟨[4,4],1,false,0#64⟩:Sg).most)],.bool true])∧w'.ownsRow w.heap.size 5 1 v (⟨[4,4],1,false,0#64⟩:Sg).told.length (Co.u8V (⟨[4,4],1,false,0#64⟩:Sg).told)∧Below w.heap.size w w');refine Yw5 ?_;go_wp2_with (first|fail);refine bodyPost_ret (Q20 (fn:=Tryz.f132) rfl _ _ w.heap.size (.slice (some ⟨w.heap.size+1+1,0,none⟩) 2 2) (⟨[4,4],1,false,0#64⟩) (.bool true) rfl rfl ?_ ?_ ?_ ?_) rfl ⟨_,rfl,?_,Yb⟩
 all_goals first|(simp (maxDischargeDepth:=12) [*,go_sem,↓IntWalk.iteOmega,N,Co.all64];done)|(simp (maxDischargeDepth:=12) [*,go_sem,↓IntWalk.iteOmega];rfl)|skip
 all_goals (repeat' (first|exact Q65 1 2 Y3 rfl Y1r rfl Y0|refine Q3j ?_ Ya))
theorem Q140 (w:World):Calls Tryz.prog 132 #[.int .i64 2] w (fun e w'=>∃ v,e=.returned (.tuple #[.agg #[v,.int .u8 (Co.sigOf 2).tells,.bool (Co.sigOf 2).draws,.int .u64 (N (Co.sigOf 2).most)],.bool (Co.sigB 2)])∧w'.ownsRow w.heap.size 5 1 v (Co.sigOf 2).told.length (Co.u8V (Co.sigOf 2).told)∧Below w.heap.size w w'):=by
 have hg1:4≤((Question.appendCap 4 2 5).cut (w.tape w.drawn (Question.appendCap 4 2 5))):=grownCap_ge w 4 2 5;have hg2:((Question.appendCap 4 2 5).cut (w.tape w.drawn (Question.appendCap 4 2 5)))≤maxLen:=grownCap_le_maxLen w 4 2 5 Y0;show Calls _ _ _ _ (fun e w'=>∃ v,e=.returned (.tuple #[.agg #[v,.int .u8 (⟨[1,2,3,4],1,false,Co.all64⟩:Sg).tells,.bool (⟨[1,2,3,4],1,false,Co.all64⟩:Sg).draws,.int .u64 (N (⟨[1,2,3,4],1,false,Co.all64⟩:Sg).most)],.bool true])∧w'.ownsRow w.heap.size 5 1 v (⟨[1,2,3,4],1,false,Co.all64⟩:Sg).told.length (Co.u8V (⟨[1,2,3,4],1,false,Co.all64⟩:Sg).told)∧Below w.heap.size w w');refine Yw5 ?_;go_wp2;generalize ((Question.appendCap 4 2 5).cut (w.tape w.drawn (Question.appendCap 4 2 5)))=cap at *
 refine bodyPost_ret (Q20 (fn:=Tryz.f132) rfl _ _ w.heap.size (.slice (some ⟨w.heap.size+1+1+1,0,none⟩) 4 cap) (⟨[1,2,3,4],1,false,Co.all64⟩) (.bool true) rfl rfl ?_ ?_ ?_ ?_) rfl ⟨_,rfl,?_,Yb⟩
 all_goals first|(simp (maxDischargeDepth:=12) [*,go_sem,↓IntWalk.iteOmega,N,Co.all64];done)|(simp (maxDischargeDepth:=12) [*,go_sem,↓IntWalk.iteOmega];rfl)|skip
 exact Qdd (Qqg Y3 Y4 (by simp[Builtin.zeroCells];omega) hg1 hg2 (by simp[Co.u8V]) rfl)
theorem Qk8 (id:Int)(w:World)(h1:(id==1)=false)(h2:(id==2)=false)(h3:(id==3)=false)(h6:(id==6)=false)(h5:(id==5)=false)(h7:(id==7)=false)(h8:(id==8)=false):Calls Tryz.prog 132 #[.int .i64 id] w (fun e w'=>∃ v,e=.returned (.tuple #[.agg #[v,.int .u8 (Co.sigOf id).tells,.bool (Co.sigOf id).draws,.int .u64 (N (Co.sigOf id).most)],.bool (Co.sigB id)])∧w'.ownsRow w.heap.size 5 1 v (Co.sigOf id).told.length (Co.u8V (Co.sigOf id).told)∧Below w.heap.size w w'):=by
 have ES:=Lib.hid (Co.sig_else h1 h2 h3 h6 h5 h7 h8);rw[ES.out.1,ES.out.2];show Calls _ _ _ _ (fun e w'=>∃ v,e=.returned (.tuple #[.agg #[v,.int .u8 Sg.none.tells,.bool Sg.none.draws,.int .u64 (N Sg.none.most)],.bool false])∧w'.ownsRow w.heap.size 5 1 v 0 []∧Below w.heap.size w w');refine Yw5 ?_;go_wp2_with (first|fail);refine bodyPost_ret (Q20 (fn:=Tryz.f132) rfl _ _ w.heap.size (.slice none 0 0) (Sg.none) (.bool false) rfl rfl ?_ ?_ ?_ ?_) rfl ⟨_,rfl,?_,Yb⟩
 all_goals first|(simp (maxDischargeDepth:=12) [*,go_sem,↓IntWalk.iteOmega,N,Co.all64];done)|(simp (maxDischargeDepth:=12) [*,go_sem,↓IntWalk.iteOmega];rfl)|skip
 exact Qy
theorem Qk9 (id:Int)(w:World):Calls Tryz.prog 132 #[.int .i64 id] w (fun e w'=>∃ v,e=.returned (.tuple #[.agg #[v,.int .u8 (Co.sigOf id).tells,.bool (Co.sigOf id).draws,.int .u64 (N (Co.sigOf id).most)],.bool (Co.sigB id)])∧w'.ownsRow w.heap.size 5 1 v (Co.sigOf id).told.length (Co.u8V (Co.sigOf id).told)∧Below w.heap.size w w'):=by
 rcases hb1:(id==1) with _|_
 rotate_left
 · obtain rfl:id=1:=by simpa using hb1
   exact Q141 w
 rcases hb2:(id==2) with _|_
 rotate_left
 · obtain rfl:id=2:=by simpa using hb2
   exact Q140 w
 rcases hb3:(id==3) with _|_
 rotate_left
 · obtain rfl:id=3:=by simpa using hb3
   exact Q13z w
 rcases hb6:(id==6) with _|_
 rotate_left
 · obtain rfl:id=6:=by simpa using hb6
   exact Q13x w
 rcases hb5:(id==5) with _|_
 rotate_left
 · obtain rfl:id=5:=by simpa using hb5
   exact Q13y w
 rcases hb7:(id==7) with _|_
 rotate_left
 · obtain rfl:id=7:=by simpa using hb7
   exact Q13w w
 rcases hb8:(id==8) with _|_
 rotate_left
 · obtain rfl:id=8:=by simpa using hb8
   exact Q13v w
 exact Qk8 id w hb1 hb2 hb3 hb6 hb5 hb7 hb8
attribute [-go_sem] Qm
attribute [go_sem] Q1v
@[local go_sem high] theorem Q17o (w:World)(b:Nat)(c:Array Value)(h:(blk w b).size=589)(hc:c.size=7)(h1:Q22 c)(hf:∀ k,w.frozen? ⟨b,k,none⟩=false):Sem.run Tryz.prog (stV (.pointer (some ⟨b,0,none⟩)) (.agg c)) w=.ok () (w.setRow b (Q23 (blk w b) 0 c)):=by
 have:=Qh2 w b 0 c h hc h1 hf Y1;simpa using this
@[local go_sem] theorem Q135 (x:St)(k:Int)(a b c d:BitVec 64)(m o:Int):Q23 x.cells 0 #[.int .u8 k,.int .u64 (N a),.int .u64 (N b),.int .u64 (N c),.int .u64 (N d),.int .i64 m,.int .i64 o]=(x.setR 0 ⟨k,⟨⟨a,b⟩,⟨c,d⟩⟩,m,o⟩).cells:=by
 have:=x.put_reg (i:=0) Y1 ⟨k,⟨⟨a,b⟩,⟨c,d⟩⟩,m,o⟩;rw[Nat.zero_mul] at this;exact this
theorem Q103 (x:St):x.cells[12]?=some (.int .i64 (x.r 1).i):=by unfold St.cells;rw[Qj,if_pos Y1];rfl
theorem Qxb (x:St)(v:Vl):(x.setR 0 v).r 1=x.r 1:=by unfold St.setR;simp
theorem Q3q {ops:Array Oper}{rest:List Oper}{o:Oper}{a:Act}{w:World}{Q:Exit→Act→World→Prop}(hg:o.guard=none)(x:Operand)(ho:o.op=.call { callee:=.builtin .clear,args:=#[x],argTypes:=#[213] })(b c:Nat)(s:St)(hx:a.eval x=.slice (some ⟨b,7,none⟩) 5 c)(hb:blk w b=s.cells)(hf:∀ k,w.frozen? ⟨b,k,none⟩=false)
 (h:wpList Tryz.prog ops Q rest (a.put o.dst (.tuple #[])) (w.setRow b s.clr.cells)):wpList Tryz.prog ops Q (o::rest) a w :=
 wpList_plain hg fun K hK=>by
  have hrun:=Q7u (P:=Tryz.prog) w b c 213 84 o.type s Tryz.underlying213 (Tryz.zeroValue84 w) hb hf;unfold Oper.wp;simp[execOp,ho,resolve,invoke,builtin,hx,hrun,Result.andThen];exact hK _ _ h
theorem Qfg (x:St)(i:Nat)(a b:Vl):(x.setR i a).setR i b=x.setR i b:=by
 unfold St.setR
 congr 1
 funext k
 by_cases h:k=i
 · simp[h]
 · simp[h]
@[local go_sem] theorem Q17r (w:World)(b i:Nat)(h:(blk w b).size=604)(hi:i<11):Sem.run Tryz.prog (ldV (.pointer (some ⟨b,15+i*7,none⟩))) w=.ok (.agg ((blk w b).extract (15+i*7) (15+i*7+7))) w:=by
 simp only[ldV,Instr.loadAt,Instr.sureAddr,Sem.run_bind,Sem.run_pure,Result.andThen];exact Qu w _ b (15+i*7) 7 (Tryz.isAgg84 w) (Tryz.sizeOf84 w) Y1
@[local go_sem] theorem Q198 (X:Sx)(i:Nat):X.cells.extract (15+i*7) (15+i*7+7)=if i<11 then #[.int .u8 (X.s.r i).k,.int .u64 (N (X.s.r i).f.t.v),.int .u64 (N (X.s.r i).f.t.m),.int .u64 (N (X.s.r i).f.s.lo),.int .u64 (N (X.s.r i).f.s.hi),.int .i64 (X.s.r i).i,.int .i64 (X.s.r i).off] else Q115 X.cells (15+i*7) 7:=by
 split
 · exact X.cells_val Y2
 · rfl
theorem Qih {X:Sx}{k:Int}{v:Vl}{y:Df}(hi:0≤v.i)(hds:∀ d∈X.ds,0≤d.val∧d.val≤64)(hdk:∀ d∈X.ds,0≤d.key∧d.key≤16)(h1:0≤y.key∧y.key≤100000)(h2:0≤y.val∧y.val≤100000) :
 (0≤(Co.told1D X k v y).key∧(Co.told1D X k v y).key≤100000)∧(0≤(Co.told1D X k v y).val∧(Co.told1D X k v y).val≤100000):=by
 unfold Co.told1D;split
 · rename_i h
   simp only[Bool.and_eq_true,decide_eq_true_eq] at h;have hlt:v.i.toNat<X.ds.length:=Y1;have e:X.ds.getD v.i.toNat ⟨false,0,0,0⟩=X.ds[v.i.toNat]:=Yf6;rw[e];have a:=hds _ (List.getElem_mem hlt);have b:=hdk _ (List.getElem_mem hlt);omega
 · exact⟨h1,h2⟩
theorem Qx0 (id:Int):(Co.sigOf id).told.length≤4:=by
 unfold Co.sigOf
 repeat' split
 all_goals decide
theorem Qvx (g:Nat)(X:Sx)(w:World)(hX:Q1e w g X)(hlen:X.l.length≤100000)(hlt:X.at_<X.l.length)(hR:∀ i,i<11→(0≤(X.s.r i).i∧(X.s.r i).i≤7)∧(-2097152≤(X.s.r i).off∧(X.s.r i).off≤2097152))(hctx:0≤X.ctx∧X.ctx≤64)(hds:∀ d∈X.ds,0≤d.val∧d.val≤64)(hdk:∀ d∈X.ds,0≤d.key∧d.key≤16)(hl:X.ds.length≤8):Calls Tryz.prog 95 #[.pointer (some ⟨g,0,none⟩)] w (fun en w'=>∃ vv,en=.returned (.tuple #[vv,.int .i64 (Co.toldA X)])∧w'.ownsRow w.heap.size 93 590 vv (Co.callW X).length (Q1p (Co.callW X))∧Below w.heap.size w w'):=by
 refine Yvt ?_;intro zg hXb;obtain⟨a0,a1,a2,a3,a4,a5,a6,a7,a8,-⟩:=hX.cells;generalize hid0:I32 X.x.imm=id at *;have hbI:=Q7n X.x.imm;rw[hid0] at hbI;have HID:=Lib.hid hid0;clear hid0;cases hs:Co.sigB id
 · have EE:=Lib.hid (show Co.callW X=[]∧Co.toldA X=112 by unfold Co.callW Co.toldA;rw[HID.out,hs];exact⟨rfl,rfl⟩)
   rw[EE.out.1,EE.out.2];go_enter Tryz.func95,Tryz.ntmps95;go_wp2_with (first|(go_at_call 132;(with_reducible refine (Qk9 _ _).mono ?_);rintro e w1 ⟨v1,rfl,hown1,hb1⟩;obtain⟨p1,c1,rfl⟩:=Q15 hown1;obtain⟨hc1,hf1,hz1⟩:=Q17 hb1;have hk1:=Qh4 hb1;(try simp only[World.size_alloc,World.size_setCell,World.size_drew,setRow_size] at hc1 hf1 hz1 hk1)));go_ret2;exact⟨_,rfl,Qy,Y14⟩
 · have hA:Co.toldA X=Co.toldL X (Co.sigOf id).told 0 ⟨false,0,0,0⟩:=by unfold Co.toldA Co.sgX;rw[HID.out,hs];rfl
   have HA:=Lib.hid hA;clear hA;go_enter Tryz.func95,Tryz.ntmps95;go_wp2_with (first|(go_at_call 132;(with_reducible refine (Qk9 _ _).mono ?_);rintro e w1 ⟨v1,rfl,hown1,hb1⟩;obtain⟨p1,c1,rfl⟩:=Q15 hown1;obtain⟨hc1,hf1,hz1⟩:=Q17 hb1;have hk1:=Qh4 hb1;(try simp only[World.size_alloc,World.size_setCell,World.size_drew,setRow_size] at hc1 hf1 hz1 hk1)));have hn4:(Co.sigOf id).told.length≤4:=Qx0 id;generalize hTL:(Co.sigOf id).told=TL at *;generalize hTE:(Co.sigOf id).tells=te at *;generalize hMO:(Co.sigOf id).most=mo at *;have HT:=Lib.hid (And.intro hTL (And.intro hTE hMO));clear hTL hTE hMO
   refine Q1g (fun W=>Q1e W g X∧W.cell? ⟨w1.heap.size,0,none⟩=some (.slice p1 TL.length c1)∧W.cell? ⟨w1.heap.size,1,none⟩=some (.int .u8 te)∧W.cell? ⟨w1.heap.size,2,none⟩=some (.bool (Co.sigOf id).draws)∧W.cell? ⟨w1.heap.size,3,none⟩=some (.int .u64 (N mo))∧W.cell? ⟨w1.heap.size+1,0,none⟩=some (.bool false)∧W.cell? ⟨w1.heap.size+1,1,none⟩=some (.int .i64 0)∧W.cell? ⟨w1.heap.size+1,2,none⟩=some (.int .i64 0)∧W.cell? ⟨w1.heap.size+1,3,none⟩=some (.int .i64 0)∧(∀ i,W.frozen? ⟨w1.heap.size+1,i,none⟩=false)∧W.ownsRow w.heap.size 5 1 (.slice p1 TL.length c1) TL.length (Co.u8V TL)∧w1.heap.size+2≤W.heap.size∧Below w.heap.size w W) ⟨hX.keep Y14,?_,?_,?_,?_,?_,?_,?_,?_,?_,(hown1.alloc _).alloc _,by simp,Y14⟩ ?_
   all_goals try (first|(simp[*,go_sem,↓IntWalk.iteOmega];done)|(intro i;simp[*,go_sem,↓IntWalk.iteOmega];done))
   rintro W ⟨hXW,s0,s1,s2,s3,d0,d1,d2,d3,hfd,hown,hzW,hBW⟩;have hT0:Q46 (w1.heap.size+1) ⟨false,0,0,0⟩ W W:=⟨d0,d1,d2,d3,hfd,Fr2.refl _ _ _⟩
   go_loopw [26] (fun s26 wr=>∃ (k:Nat) (y:Df),k≤TL.length∧s26=.int .i64 k∧Q46 (w1.heap.size+1) y W wr∧(0≤y.key∧y.key≤100000)∧(0≤y.val∧y.val≤100000)∧Hid (Co.toldL X (TL.drop k) k y=Co.toldA X)) (fun s26 _=>TL.length-(intOf s26).toNat)
   case atStart =>
    exact⟨0,⟨false,0,0,0⟩,Y1,rfl,hT0,by simp,by simp,Lib.hid (by rw[HA.out];rfl)⟩
   case round =>
    obtain⟨k,y,hk,rfl,hT,hy1,hy2,hL⟩:=hrel;have hBr:Below w.heap.size w wr:=hBW.trans (hT.fr.below hBW.size Y1 (fun q hq=>by cases hq));have hXr:Q1e wr g X:=hX.keep hBr;by_cases hkl:k<TL.length
    · obtain⟨gq,cap,hpe,hgB,hgs,hcap,hmx,hcell,hfg⟩:=Q1h hown Y1
      injection hpe with e1 e2 e3
      subst e1;subst e3;have hgl:=(hown1.lt gq (by rfl)).2;have hck:=hT.fr.cell (hcell k (.int .u8 TL[k]) (by unfold Co.u8V;simp[hkl])) Y1 Y3;have hXbr:blk wr g=X.cells:=hXr.blk;have hk11:1+k<11:=Y1;have hreg:=hR (1+k) Y1;generalize hq:TL[k]=kd at *;have hdr:TL.drop k=kd::TL.drop (k+1):=by rw[List.drop_eq_getElem_cons hkl,hq]
      rw[hdr] at hL;clear hq hdr;obtain⟨eT,heT⟩:∃ e,Co.told1E X kd (X.s.r (1+k)) y=e:=⟨_,rfl⟩;have heT:=Lib.hid heT;have hbd:=Qih (X:=X) (k:=kd) (v:=X.s.r (1+k)) hreg.1.1 hds hdk hy1 hy2;clear hcell hfg hown hown1;cases he:(eT==0)
      · have hne:(eT != 0)=true:=by simp only[bne,he];rfl
        have hA2:Co.toldA X=eT:=by rw[← hL.out];unfold Co.toldL;rw[heT.out,he];rfl
        have EE:=Lib.hid (show Co.callW X=[]∧Co.toldA X=eT by unfold Co.callW;rw[hA2,he];exact⟨rfl,rfl⟩);clear hA2;go_wp2_with (go_at_call 133;refine Y7d ?_;intro w5 hT5);go_ret2;rw[EE.out.1,EE.out.2];exact⟨_,rfl,Qy,hBW.trans (hT5.fr.below hBW.size Y1 (fun q hq=>by cases hq))⟩
      · have hne:(eT != 0)=false:=by simp only[bne,he];rfl
        have hA2:Co.toldL X (TL.drop (k+1)) (k+1) (Co.told1D X kd (X.s.r (1+k)) y)=Co.toldA X:=by
         have h:=hL.out;unfold Co.toldL at h;rw[heT.out,he] at h;exact h
        have hA2:=Lib.hid hA2;go_wp2_with (go_at_call 133;refine Y7d ?_;intro w5 hT5)
        go_roundw
        case rel=>exact⟨k+1,_,Y1,Yf1,hT5,hbd.1,hbd.2,hA2⟩
        case measure=>simp[intOf];omega
    · obtain rfl:k=TL.length:=by omega
      have hA0:Co.toldA X=0:=by
       have h:=hL.out;rw[List.drop_length] at h;exact h.symm
      have hXbr:blk wr g=X.cells:=hXr.blk;have r1:=hT.fr.cell s1 Y1 Y3;have r3:=hT.fr.cell s3 Y1 Y3;have zs:=Q1 r3;refine Yvf ?_;intro zst hzst hzc;clear hown hown1 hT0 hT s0 s1 s2 s3 d0 d1 d2 d3 hfd hXW;cases ht:(te==2)
      · have EE:=Lib.hid (show Co.callW X=[Co.onW X (X.s.setR 0 (Co.belowV mo)).clr]∧Co.toldA X=0 by refine⟨?_,hA0⟩;unfold Co.callW Co.callS Co.retV Co.sgX;rw[hA0,HID.out,HT.out.2.1,HT.out.2.2,ht];rfl)
        go_upto_region 16 with (go_at_call 134;refine Y7e ?_;intro w5 hb5 hc5 hf5 hz5 hk5)
        have hzr:=hBr.size;refine Q1g (fun W3=>Q1e W3 g X∧blk W3 wr.heap.size=(X.s.setR 0 (Co.belowV mo)).cells∧(∀ k,W3.frozen? ⟨wr.heap.size,k,none⟩=false)∧Below w.heap.size w W3) ⟨hX.keep Y14,by simp[*,go_sem,↓IntWalk.iteOmega,Fa.zero],Yh9,Y14⟩ ?_;rintro W3 ⟨hX3,hB3,hF3,hBW3⟩;have zg3:=hX3.lt;have hz3:=hBW3.size;have hz4:=Q1o (w:=W3) (b:=wr.heap.size) (by rw[hB3,St.cells_size];decide);go_wp2_with (first|(refine Q3q rfl (.tmp 66) rfl wr.heap.size 10 (X.s.setR 0 (Co.belowV mo)) rfl hB3 hF3 ?_)|(refine Y44 ?_;intro w7 v7 hown7 hb7 hc7 hf7 hz7 hk7));exact Yr9
      · have EE:=Lib.hid (show Co.callW X=[Co.onW X ((X.s.setR 0 (Co.belowV mo)).setR 0 ⟨6,Fa.zero,(X.s.r 1).i,0⟩).clr]∧Co.toldA X=0 by refine⟨?_,hA0⟩;unfold Co.callW Co.callS Co.retV Co.sgX;rw[hA0,HID.out,HT.out.2.1,HT.out.2.2,ht];rw[Qfg];rfl)
        go_upto_region 15 with (go_at_call 134;refine Y7e ?_;intro w5 hb5 hc5 hf5 hz5 hk5)
        refine Q1g (fun W2=>Q1e W2 g X∧blk W2 wr.heap.size=(X.s.setR 0 (Co.belowV mo)).cells∧(∀ k,W2.frozen? ⟨wr.heap.size,k,none⟩=false)∧wr.heap.size<W2.heap.size∧Below w.heap.size w W2) ⟨hX.keep Y14,Yg3,Yh9,by simp[*,go_sem];omega,Y14⟩ ?_;rintro W2 ⟨hX2,hB2,hF2,hz2,hBW2⟩
        have h12:W2.cell? ⟨wr.heap.size,12,none⟩=some (.int .i64 (X.s.r 1).i):=by
         have h:=Q103 (X.s.setR 0 (Co.belowV mo));rw[Qxb] at h;rw[Q1b,hB2];exact h
        clear hc5 hf5 hk5 hb5 hz5
        go_upto_region 16 with fail
        have hzr:=hBr.size;refine Q1g (fun W3=>Q1e W3 g X∧blk W3 wr.heap.size=((X.s.setR 0 (Co.belowV mo)).setR 0 ⟨6,Fa.zero,(X.s.r 1).i,0⟩).cells∧(∀ k,W3.frozen? ⟨wr.heap.size,k,none⟩=false)∧Below w.heap.size w W3) ⟨hX.keep Y14,by simp[*,go_sem,↓IntWalk.iteOmega,Fa.zero],Yh9,Y14⟩ ?_;rintro W3 ⟨hX3,hB3,hF3,hBW3⟩;have zg3:=hX3.lt;have hz3:=hBW3.size;have hz4:=Q1o (w:=W3) (b:=wr.heap.size) (by rw[hB3,St.cells_size];decide);go_wp2_with (first|(refine Q3q rfl (.tmp 66) rfl wr.heap.size 10 ((X.s.setR 0 (Co.belowV mo)).setR 0 ⟨6,Fa.zero,(X.s.r 1).i,0⟩) rfl hB3 hF3 ?_)|(refine Y44 ?_;intro w7 v7 hown7 hb7 hc7 hf7 hz7 hk7));exact Yr9
end Hk
