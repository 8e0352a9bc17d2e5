/- A part of TopTwice's proof; no condition. -/
import Derived.Test.YtkgmipfmphlpgaaGreatK16
open Go Go.RowKit Go.Proofs
set_option linter.all false
set_option maxRecDepth 100000
set_option maxHeartbeats 20000000
namespace Hk
theorem Yv1b {P Q:Prop}(q:Q)(h:HO Q→P:=by
 intro hQ;refine wpQuiet_nil ?_;intro a0 a1;obtain⟨a2,a3,a4,a5,a6⟩:=a1;have a7:=Q1 a2;have a8:=Q1 a3;have a9:=Q1 a4;have a10:=a6.size;have a11:Below W3.heap.size W3 a0:=Y2;have a12:=hK3.keep a11;have a13:=a12.notes.2;have a14:=Q0 a11 p2;have a15:=a12.ln;have a16:Fr2 M.nb none w a0:=hFr.trans (row':=none) (Fr2.of_below Y14) (fun _ e=>Yfk);revert a16;revert a15;revert a14;revert a13;revert a12;revert a11;revert a10;revert a9;revert a8;revert a7;revert a6;revert a5;revert a4;revert a3;revert a2;revert a0
 exact hQ.o):P:=h ⟨q⟩
attribute [-go_sem] Qm
@[local go_sem] theorem Q15v (w:World)(b n:Nat)(c:Array Value):Sem.run Tryz.prog (stV (.pointer (some ⟨b,n*10+3,none⟩)) (.agg c)) w=Sem.run Tryz.prog (storeVar 84 ⟨b,n*10+3,none⟩ (.agg c)) w:=by
 exact Yrs
def Q19s (rb nb at_:Nat)(v rv:Vl)(w:World)(w':World):Prop:=w'.cell? ⟨nb,at_*10+3,none⟩=some (.int .u8 v.k)∧w'.cell? ⟨nb,at_*10+4,none⟩=some (.int .u64 (N v.f.t.v))∧w'.cell? ⟨nb,at_*10+5,none⟩=some (.int .u64 (N v.f.t.m))∧w'.cell? ⟨nb,at_*10+6,none⟩=some (.int .u64 (N v.f.s.lo))∧w'.cell? ⟨nb,at_*10+7,none⟩=some (.int .u64 (N v.f.s.hi))∧w'.cell? ⟨nb,at_*10+8,none⟩=some (.int .i64 v.i)∧w'.cell? ⟨nb,at_*10+9,none⟩=some (.int .i64 v.off)∧CVl.a w' rb rv (Below w.heap.size w w')
theorem Qng {rb nb at_:Nat}{v rv:Vl}{w:World}:KC (Q19s rb nb at_ v rv w):=by
 exact Ym3
def Q15r (yb g nb lb lc at_ ya:Nat)(l:List In)(b:Bool)(w:World)(w':World):Prop:=w'.cell? ⟨yb,0,none⟩=some (.int .i64 (ya:Nat))∧w'.cell? ⟨g,0,none⟩=some (.slice (some ⟨lb,0,none⟩) l.length lc)∧w'.cell? ⟨nb,at_*10+1,none⟩=some (.bool b)∧Q14 w' lb l∧Below w.heap.size w w'
theorem Qnf {yb g nb lb lc at_ ya:Nat}{l:List In}{b:Bool}{w:World}:KC (Q15r yb g nb lb lc at_ ya l b w):=by
 intro w' w1 h hb;obtain⟨k0,k1,k2,k3,k4⟩:=h;exact⟨Q0 hb k0,Q0 hb k1,Q0 hb k2,(k3).keep hb,Q8 k4 hb⟩
theorem Qy5 (B at_:Nat)(w0:World)(M:Mb)(l:List In)(ds:List Df)(ctx:Int)(ρ:Nat→Nat)(f:Nat→Value)(mm:Nat)(fv:Value)(fs:List (Fm × Value))(k:Lk)(v:Value)(ws:List Wy)(w:World)(hK:Q1x w0 w M l ds ctx k ρ f mm fv fs)(hg:Co.good l=true)(hlt:at_<l.length)(hst:Co.start l at_=true)(hW:w.ownsRow B 93 590 v ws.length (Q1p ws))(hne:∀ b,v.ownBlock=some b→b≠M.nb)(hwl:ws.length≤1000):Calls Tryz.prog 48 #[.pointer (some ⟨M.g,0,none⟩),.int .i64 (at_:Nat),v] w (fun e w'=>e=.returned (.tuple #[])∧Q1x w0 w' M l ds ctx { k with notes:=Q45 k.notes at_ (Co.noteN l at_ ws (k.notes at_)) } ρ f mm fv fs∧Fr2 M.nb none w w'):=by
 have hlen:l.length≤100000:=Y20;have hI:=hK.insW;have hK0:=hK.note0 at_;have zg:=hK.lg;have zn:=hK.ln
 have hd:(l.getD at_ In.zero).dst.toNat<11:=by
  have:=(Co.whatB_regs (Co.start_what hg hst)).1;rw[BitVec.le_def] at this;exact Nat.lt_of_le_of_lt this Y0
 have hgn:M.g≠M.nb:=fun e=>by have h1:=hK.rg;rw[e,hK.rn] at h1;simp at h1
 have ex:l.getD at_ In.zero=l[at_]:=Yf6;obtain⟨m0,m1,m2,m3,m4⟩:=hI at_ hlt;have zm:=Q1 m0;obtain⟨g0,-,-,-,-,-,-,-,-,g9⟩:=hK.gs;obtain⟨n0,n1,n2,n3,n4,n5,n6,n7,n8,n9⟩:=hK0.noteCs hlt;generalize hx:k.notes at_=x at *;obtain⟨V,hV⟩:∃ V,(Co.noteN l at_ ws x).v=V:=⟨_,rfl⟩;have hV2:=hV;unfold Co.noteN at hV2;simp only at hV2;obtain⟨rv,hrv⟩:∃ v,Co.resultV l at_ ws=v:=⟨_,rfl⟩;obtain⟨rb,hrb⟩:∃ v,Co.resultB l at_ ws=v:=⟨_,rfl⟩;rw[hrv,hrb] at hV2;have HR:=Lib.hid (And.intro hrv hrb);have HV:=Lib.hid hV;clear hrv hrb hV;obtain⟨pv,cv,rfl⟩:=Q15 hW;have hbd:decide ((at_:Int)<0)=false:=by simp
 have hbl:(at_:Int)<(l.length:Int):=Y1;have hfz:=hK.notes.2
 have hor:(rb=false∧x.v=V)∨(rb=true∧x.been=false∧rv=V)∨(rb=true∧x.been=true∧Vl.join x.v rv=V):=by
  cases rb<;>cases hb:x.been<;>simp_all
 clear hV2;rcases hor with ⟨rfl,hv⟩|⟨rfl,hbe,hv⟩|⟨rfl,hbe,hj⟩
 focus
   go_enter Tryz.func48,Tryz.ntmps48
   go_upto_region 6 with (go_at_call 69;refine Y4i ?_;intro w1 hb1 hc1 hf1 hz1)
   refine Q1g (fun W=>Q1x w0 W M l ds ctx { k with notes:=Q45 k.notes at_ ⟨x.been,x.goes,x.hops,V⟩ } ρ f mm fv fs∧Fr2 M.nb none w W) ⟨by rw[← hv];exact hK0.keep Y14,Fr2.of_below Y14⟩ ?_;rintro W ⟨hKW,hFW⟩
 rotate_left
 focus
   rw[hbe] at n0;go_enter Tryz.func48,Tryz.ntmps48
   go_upto_region 6 with (go_at_call 69;refine Y4i ?_;intro w1 hb1 hc1 hf1 hz1)
   skip
   refine Q1g (fun W=>Q1x w0 W M l ds ctx { k with notes:=Q45 k.notes at_ ⟨x.been,x.goes,x.hops,V⟩ } ρ f mm fv fs∧Fr2 M.nb none w W) ⟨by rw[← hv];exact (hK0.keep Y14).noteVal hlt rv,by repeat' (first|(with_reducible refine Fr2.set ?_)|exact Fr2.of_below Y14)⟩ ?_;rintro W ⟨hKW,hFW⟩
 rotate_left
 focus
   rw[hbe] at n0;have HJ:=Lib.hid hj;clear hj;go_enter Tryz.func48,Tryz.ntmps48
   go_upto_region 3 with (go_at_call 69;refine Y4i ?_;intro w1 hb1 hc1 hf1 hz1)
   refine Q4 (Q19s w1.heap.size M.nb at_ x.v rv w) 9 Yc Yc ?_ ?_
   · exact Ymr
   intro hN;(try simp only[List.append]);simp only[List.take_succ_cons,List.take_zero,List.drop_succ_cons,List.drop_zero]
   repeat (first
    | go_big_quiet_skip
    | (go_big_quiet_want
       first
        | ((first|(refine Qn rfl rfl (fun w' hC=>Yg5) ?_))
           simp only[Act.put,List.setIfInBounds_toArray,List.set_cons_succ,List.set_cons_zero]
           go_big_quiet_on)
        | (go_big_quiet_op
           first
            | go_big_quiet_on
            | (apply Exists.intro
               refine⟨fun w' hC=>?_,?_⟩
               · (go_at_call 70;refine Y4j ?_;intro w1 hb1)
                 (try simp only[id]);exact⟨rfl,by first|exact hC|exact Qng _ _ hC hb1⟩
               go_big_quiet_on))))
   refine wpQuiet_nil ?_;intro w9 hC;obtain⟨k0,k1,k2,k3,k4,k5,k6,k7,k8,k9,k10,k11,k12,k13,k14⟩:=hC;have z0:=Q1 k0;have z7:=Q1 k7;have hz9:=k14.size;have hK9:=hK0.keep (by assumption:Below w.heap.size w w9);have hfz9:=hK9.notes.2
   go_upto_region 6 with (first|fail)
   refine Q1g (fun W=>Q1x w0 W M l ds ctx { k with notes:=Q45 k.notes at_ ⟨x.been,x.goes,x.hops,V⟩ } ρ f mm fv fs∧Fr2 M.nb none w W) ⟨hK9.noteVal hlt V,by repeat' (first|(with_reducible refine Fr2.set ?_)|exact Fr2.of_below Y2)⟩ ?_;rintro W ⟨hKW,hFW⟩
 rotate_left
 all_goals
  obtain⟨q0,-,-,-,-,-,-,-,-,q9⟩:=hKW.gs;obtain⟨p0,-⟩:=hKW.noteCs hlt;have hfW:=hKW.notes.2;have znW:=hKW.ln
  go_upto_region 7 with (first|fail)
  refine Q1g (fun W=>Q1x w0 W M l ds ctx { k with notes:=Q45 k.notes at_ ⟨true,x.goes,x.hops,V⟩ } ρ f mm fv fs∧Fr2 M.nb none w W) ⟨hKW.noteBeen hlt true,Fr2.set hFW⟩ ?_;clear q0 q9 p0 hfW znW hKW hFW;rintro W2 ⟨hK2,hF2⟩;clear g0 g9 n0 n1 n2 n3 n4 n5 n6 n7 n8 n9 hfz hK0 m0 m1 m2 m3 m4 zm;obtain⟨q0,-,-,-,-,-,-,-,-,q9⟩:=hK2.gs;have hI2:=hK2.insW;obtain⟨m0,m1,m2,m3,m4⟩:=hI2 at_ hlt;have zm:=Q1 m0;have zg2:=hK2.lg;have zn2:=hK2.ln;clear hI;have hI:=hI2;generalize hxi:l[at_]=xi at *;cases h10:((Co.what xi).kind==10)
  · have hn10:((Co.what xi).kind != 10)=true:=by simp only[bne,h10];rfl
    go_wp2_with (go_at_call 20;refine Y2p ?_;intro w2 hb2 hc2 hf2 hz2);refine bodyPost_ret (results_none rfl _ _ _) rfl ⟨rfl,?_,(hF2.trans (row':=none) (Fr2.of_below Y14) (fun _ e=>Yfk))⟩;have EN:=Co.noteN_no (l:=l) (a:=at_) (ws:=ws) (n:=x) (by rw[ex];exact h10);rw[EN,HV.out];exact hK2.keep Y14
  · obtain⟨nx,hnx⟩:∃ n,Co.nextK l at_=n:=⟨_,rfl⟩
    have HX:=Lib.hid hnx;obtain⟨tg,htg⟩:∃ n,Co.target l at_=n:=⟨_,rfl⟩;have HT:=Lib.hid htg;have hn10:((Co.what xi).kind != 10)=false:=by simp only[bne,h10];rfl
    go_wp2_with ((with_reducible apply ic);first|(refine Y2p ?_;intro w2 hb2 hc2 hf2 hz2)|(go_at_call 27;(with_reducible refine (Q2w _ _ _ _ _ (hI.keep Y14) hlen hlt).mono ?_);rw[HT.out];refine Y2t ?_;intro w3 hb3 hc3 hf3 hz3))
    go_loopw [81] (fun s81 wr=>∃ j:Nat,j≤ws.length∧s81=.int .i64 j∧Q1x w0 wr M l ds ctx { k with notes:=Q45 k.notes at_ ⟨true,Co.goesK l at_ ws x.goes j,Co.hopsK l at_ ws x.hops j,V⟩ } ρ f mm fv fs∧Fr2 M.nb none w wr) (fun s81 _=>ws.length - (intOf s81).toNat)
    case atStart =>
     refine⟨0,Y1,rfl,?_,hF2.trans (row':=none) (Fr2.of_below Y14) (fun _ e=>Yfk)⟩;have e1:Co.goesK l at_ ws x.goes 0=x.goes:=by simp[Co.goesK]
     have e2:Co.hopsK l at_ ws x.hops 0=x.hops:=by simp[Co.hopsK]
     rw[e1,e2];exact hK2.keep Y14
    case round =>
     obtain⟨j,hj,rfl,hKr,hFr⟩:=hrel;by_cases hjl:j<ws.length
     · have hWr:=Qv hW (w':=wr) (fun b hb=>hFr.block b ((hW.lt b hb).2) (hne b hb) Y3)
       obtain⟨gq,cap,hpe,hgq,-,-,-,hc⟩:=Qxj hWr hjl
       injection hpe with e1 e2 e3
       subst e1;subst e3;have hld:=Qbo hc;clear hc;have EG':=Co.goesK_succ (l:=l) (a:=at_) (g:=x.goes) hjl;have EH':=Co.hopsK_succ (l:=l) (a:=at_) (g:=x.hops) hjl;generalize ws[j]=y at *;obtain⟨zw,hzw⟩:∃ z,Hid (Tryz.zeroCells93=z):=⟨_,Lib.hid rfl⟩;have hzwc:Tryz.zeroCells93=zw:=hzw.out;have hzws:zw.size=590:=by rw[← hzwc];exact Q7a
       have hzwn:¬ zw=#[]:=by intro h;rw[h] at hzws;simp at hzws
       cases hgo:Co.goesK l at_ ws x.goes j
       · cases hho:Co.hopsK l at_ ws x.hops j
         · rw[hgo,hho] at hKr
           rw[hgo] at EG';rw[hho] at EH'
           go_upto_region 13 with fail
           refine Yv2 ?_;rintro W3 ⟨hB3,hy3,hz3⟩;have hK3:=hKr.keep hB3;clear hKr hld;refine Yw1 ?_;intro q0 q9 p0 p1 p2 hI3 zgr znr;refine Q4 (Q15r wr.heap.size M.g M.nb M.lb M.lc at_ y.at_ l false W3) 18 Yc Yc ?_ ?_
           · exact Yn8
           refine Yv4 ?_;intro hN;simp only[List.take_succ_cons,List.take_zero,List.drop_succ_cons,List.drop_zero]
           repeat (first
            | go_big_quiet_skip
            | (go_big_quiet_want
               first
                | ((first|(refine Q3 rfl rfl (fun w' hC=>Yfw) ?_)|(refine Q16 rfl rfl (fun w' hC=>Yfw) ?_)|(refine Q6 rfl rfl (fun w' hC=>Yfw) ?_))
                   simp only[Act.put,List.setIfInBounds_toArray,List.set_cons_succ,List.set_cons_zero]
                   go_big_quiet_on)
                | (go_big_quiet_op
                   first
                    | go_big_quiet_on
                    | (apply Exists.intro
                       refine⟨fun w' hC=>?_,?_⟩
                       · exact Ynj
                       go_big_quiet_on))))
           refine Yv1b ?_;intro w9 k0 k1 k2 k3 k4 z0 z1 z2 hz9 hB9 hK9 hf9 p29 zg9 hF9;go_wp2
           go_roundw
           case measure=>simp[intOf];omega
           case rel =>
            refine⟨j+1,Y1,Yf1,?_,Fr2.set (Fr2.set hF9)⟩;rw[EG',EH',HX.out,Bool.false_or,← nat_beq,HT.out,← nat_beq];exact (hK9.noteGoes hlt _).noteHops hlt _
         · rw[hgo,hho] at hKr
           rw[hgo] at EG';rw[hho] at EH'
           go_upto_region 13 with fail
           refine Yv2 ?_;rintro W3 ⟨hB3,hy3,hz3⟩;have hK3:=hKr.keep hB3;clear hKr hld;refine Yw1 ?_;intro q0 q9 p0 p1 p2 hI3 zgr znr;refine Q4 (Q15r wr.heap.size M.g M.nb M.lb M.lc at_ y.at_ l false W3) 18 Yc Yc ?_ ?_
           · exact Yn8
           refine Yv4 ?_;intro hN;simp only[List.take_succ_cons,List.take_zero,List.drop_succ_cons,List.drop_zero]
           repeat (first
            | go_big_quiet_skip
            | (go_big_quiet_want
               first
                | ((first|(refine Q3 rfl rfl (fun w' hC=>Yfw) ?_)|(refine Q16 rfl rfl (fun w' hC=>Yfw) ?_)|(refine Q6 rfl rfl (fun w' hC=>Yfw) ?_))
                   simp only[Act.put,List.setIfInBounds_toArray,List.set_cons_succ,List.set_cons_zero]
                   go_big_quiet_on)
                | (go_big_quiet_op
                   first
                    | go_big_quiet_on
                    | (apply Exists.intro
                       refine⟨fun w' hC=>?_,?_⟩
                       · exact Ynj
                       go_big_quiet_on))))
           refine Yv1b ?_;intro w9 k0 k1 k2 k3 k4 z0 z1 z2 hz9 hB9 hK9 hf9 p29 zg9 hF9;go_wp2
           go_roundw
           case measure=>simp[intOf];omega
           case rel =>
            refine⟨j+1,Y1,Yf1,?_,Fr2.set (Fr2.set hF9)⟩;rw[EG',EH',HX.out,Bool.false_or,← nat_beq,Bool.true_or];exact (hK9.noteGoes hlt _).noteHops hlt _
       · cases hho:Co.hopsK l at_ ws x.hops j
         · rw[hgo,hho] at hKr
           rw[hgo] at EG';rw[hho] at EH'
           go_upto_region 13 with fail
           refine Yv2 ?_;rintro W3 ⟨hB3,hy3,hz3⟩;have hK3:=hKr.keep hB3;clear hKr hld;refine Yw1 ?_;intro q0 q9 p0 p1 p2 hI3 zgr znr;refine Q4 (Q15r wr.heap.size M.g M.nb M.lb M.lc at_ y.at_ l true W3) 18 Yc Yc ?_ ?_
           · exact Yn8
           refine Yv4 ?_;intro hN;simp only[List.take_succ_cons,List.take_zero,List.drop_succ_cons,List.drop_zero]
           repeat (first
            | go_big_quiet_skip
            | (go_big_quiet_want
               first
                | ((first|(refine Q3 rfl rfl (fun w' hC=>Yfw) ?_)|(refine Q16 rfl rfl (fun w' hC=>Yfw) ?_)|(refine Q6 rfl rfl (fun w' hC=>Yfw) ?_))
                   simp only[Act.put,List.setIfInBounds_toArray,List.set_cons_succ,List.set_cons_zero]
                   go_big_quiet_on)
                | (go_big_quiet_op
                   first
                    | go_big_quiet_on
                    | (apply Exists.intro
                       refine⟨fun w' hC=>?_,?_⟩
                       · exact Ynj
                       go_big_quiet_on))))
           refine Yv1b ?_;intro w9 k0 k1 k2 k3 k4 z0 z1 z2 hz9 hB9 hK9 hf9 p29 zg9 hF9;go_wp2
           go_roundw
           case measure=>simp[intOf];omega
           case rel =>
            refine⟨j+1,Y1,Yf1,?_,Fr2.set (Fr2.set hF9)⟩;rw[EG',EH',Bool.true_or,HT.out,Bool.false_or,← nat_beq];exact (hK9.noteGoes hlt _).noteHops hlt _
         · rw[hgo,hho] at hKr
           rw[hgo] at EG';rw[hho] at EH'
           go_upto_region 13 with fail
           refine Yv2 ?_;rintro W3 ⟨hB3,hy3,hz3⟩;have hK3:=hKr.keep hB3;clear hKr hld;refine Yw1 ?_;intro q0 q9 p0 p1 p2 hI3 zgr znr;refine Q4 (Q15r wr.heap.size M.g M.nb M.lb M.lc at_ y.at_ l true W3) 18 Yc Yc ?_ ?_
           · exact Yn8
           refine Yv4 ?_;intro hN;simp only[List.take_succ_cons,List.take_zero,List.drop_succ_cons,List.drop_zero]
           repeat (first
            | go_big_quiet_skip
            | (go_big_quiet_want
               first
                | ((first|(refine Q3 rfl rfl (fun w' hC=>Yfw) ?_)|(refine Q16 rfl rfl (fun w' hC=>Yfw) ?_)|(refine Q6 rfl rfl (fun w' hC=>Yfw) ?_))
                   simp only[Act.put,List.setIfInBounds_toArray,List.set_cons_succ,List.set_cons_zero]
                   go_big_quiet_on)
                | (go_big_quiet_op
                   first
                    | go_big_quiet_on
                    | (apply Exists.intro
                       refine⟨fun w' hC=>?_,?_⟩
                       · exact Ynj
                       go_big_quiet_on))))
           refine Yv1b ?_;intro w9 k0 k1 k2 k3 k4 z0 z1 z2 hz9 hB9 hK9 hf9 p29 zg9 hF9;go_wp2
           go_roundw
           case measure=>simp[intOf];omega
           case rel =>
            refine⟨j+1,Y1,Yf1,?_,Fr2.set (Fr2.set hF9)⟩;rw[EG',EH',Bool.true_or];exact (hK9.noteGoes hlt _).noteHops hlt _
     · obtain rfl:j=ws.length:=by omega
       go_wp2
       go_end0
       refine⟨rfl,?_,hFr⟩;have EN:=Co.noteN_yes (l:=l) (a:=at_) (ws:=ws) (n:=x) (by rw[ex];exact h10);rw[EN,HV.out];unfold Co.goesK Co.hopsK at hKr;rw[List.take_of_length_le (Nat.le_refl _)] at hKr;exact hKr
end Hk
namespace Hk
attribute [-go_sem] Qm
theorem Qbl (ρ:Operand→Value)(op:Oper)(x:Operand)(b o:Nat)(c0:Value)(ho:op.op=.load 55 x)(hx:ρ x=.pointer (some ⟨b,o,none⟩))(w:World)(h0:w.cell? ⟨b,o,none⟩=some c0) :
 (execOp ρ op).run Tryz.prog w=.ok (.value (c0)) w:=by
 obtain⟨dst,op,type,pos,after,guard⟩:=op;simp only at ho;subst ho
 go_simp
theorem Q3i {op:Oper}{a:Act}{C:World→Prop}{K:Act→Prop}{x:Operand}{b o:Nat}{c0:Value}(ho:op.op=.load 55 x)(hx:a.eval x=.pointer (some ⟨b,o,none⟩))
 (h:∀ w,C w→w.cell? ⟨b,o,none⟩=some c0) (hk:K (a.put op.dst (c0))):op.quiet Tryz.prog a C K :=
 Qt (v:=c0) (fun w hC=>by unfold Oper.quietAt;have h0:=h w hC;rw[Qbl _ op x b o c0 ho hx w h0];exact⟨rfl,rfl⟩) hk
theorem Qbb (ρ:Operand→Value)(op:Oper)(x:Operand)(b o:Nat)(c0:Value)(ho:op.op=.load 57 x)(hx:ρ x=.pointer (some ⟨b,o,none⟩))(w:World)(h0:w.cell? ⟨b,o,none⟩=some c0) :
 (execOp ρ op).run Tryz.prog w=.ok (.value (c0)) w:=by
 obtain⟨dst,op,type,pos,after,guard⟩:=op;simp only at ho;subst ho
 go_simp
theorem Q2o {op:Oper}{a:Act}{C:World→Prop}{K:Act→Prop}{x:Operand}{b o:Nat}{c0:Value}(ho:op.op=.load 57 x)(hx:a.eval x=.pointer (some ⟨b,o,none⟩))
 (h:∀ w,C w→w.cell? ⟨b,o,none⟩=some c0) (hk:K (a.put op.dst (c0))):op.quiet Tryz.prog a C K :=
 Qt (v:=c0) (fun w hC=>by unfold Oper.quietAt;have h0:=h w hC;rw[Qbb _ op x b o c0 ho hx w h0];exact⟨rfl,rfl⟩) hk
attribute [local go_sem] Q2g Qkf
theorem Q148 (f:Fm)(v:Value):¬ frC f v=#[]:=by intro h;have:=Q2g f v;rw[h] at this;simp at this
attribute [local go_sem] Q148
def Q16h (tb g jb mb at_ ln jc m:Nat)(f:Nat→Value)(b:Bool)(w:World)(w':World):Prop:=w'.cell? ⟨tb,0,none⟩=some (.int .i64 (at_:Nat))∧w'.cell? ⟨g,3,none⟩=some (.slice (some ⟨jb,0,none⟩) ln jc)∧w'.cell? ⟨g,4,none⟩=some (.map (some mb))∧w'.cell? ⟨jb,at_,none⟩=some (.bool b)∧Q5d w' mb (.slice none 0 0) m f∧Below w.heap.size w w'
theorem Qni {tb g jb mb at_ ln jc m:Nat}{f:Nat→Value}{b:Bool}{w:World}:KC (Q16h tb g jb mb at_ ln jc m f b w):=by
 intro w' w1 h hb;obtain⟨k0,k1,k2,k3,k4,k5⟩:=h;exact⟨Q0 hb k0,Q0 hb k1,Q0 hb k2,Q0 hb k3,(k4).keep hb,Q8 k5 hb⟩
def Q122 (tb g mb at_ m B nk:Nat)(f:Nat→Value)(s:St)(xs:List Value)(W:World)(d:Nat→Bool)(ν:Nat→Nat × Nat)(w':World):Prop:=w'.cell? ⟨tb,0,none⟩=some (.int .i64 (at_:Nat))∧w'.cell? ⟨g,4,none⟩=some (.map (some mb))∧(∀ j,j<589→w'.cell? ⟨tb,1+j,none⟩=some (s.cell j))∧(d 15=true→blk w' (ν 15).1=s.cells)∧(d 15=true→W.heap.size≤(ν 15).1)∧(d 16=false→w'.ownsRow B 90 589 (f at_) nk xs)∧(d 16=true→w'.ownsRow B 90 589 (.slice (some ⟨(ν 16).1,0,none⟩) (nk+1) (ν 16).2) (nk+1) (xs++s.cells.toList))∧(d 16=true→some (ν 16).1=(f at_).ownBlock∨W.heap.size≤(ν 16).1)∧(d 17=false→Q5d w' mb (.slice none 0 0) m f)∧(d 16=true→d 17=true→Q5d w' mb (.slice none 0 0) (m+1) (fun j=>if j=at_ then .slice (some ⟨(ν 16).1,0,none⟩) (nk+1) (ν 16).2 else f j))∧Fr2 mb (f at_).ownBlock W w'
theorem Qah {tb g mb at_ m B nk:Nat}{f:Nat→Value}{s:St}{xs:List Value}{W:World}:KT (Q122 tb g mb at_ m B nk f s xs W):=by
 intro d ν w' w1 h hb;obtain⟨k0,k1,k2,k3,k4,k5,k6,k7,k8,k9,k10⟩:=h;exact⟨Q0 hb k0,Q0 hb k1,fun j hj=>Q0 hb (k2 j hj),fun h=>Q12 hb (k3 h) (by simp[St.cells_size]),k4,fun h=>Qd (k5 h) hb,fun h=>Qd (k6 h) hb,k7,fun h=>(k8 h).keep hb,fun h h2=>(k9 h h2).keep hb,k10.trans (row':=none) (Fr2.of_below hb) (fun _ e=>Yfk)⟩
theorem Qnh {tb g mb at_ m B nk:Nat}{f:Nat→Value}{s:St}{xs:List Value}{W:World}:MT (Q122 tb g mb at_ m B nk f s xs W) [15,16,17]:=by
 intro d d' ν w' hd h;unfold Q122 at *;simpa only[← hd 15 Y3,← hd 16 Y3,← hd 17 Y3] using h
theorem Qui {tb g mb at_ m B nk:Nat}{f:Nat→Value}{s:St}{xs:List Value}{W:World}:NT (Q122 tb g mb at_ m B nk f s xs W) [15,16]:=by
 intro i hi d ν c w' hd h;unfold Q122 at *;exact Yp5
theorem Qrb (w0:World)(M:Mb)(l:List In)(ds:List Df)(ctx:Int)(ρ:Nat→Nat)(f:Nat→Value)(mm:Nat)(fv:Value)(fs:List (Fm × Value))(k:Lk)(fm:Fm)(lv:Value)(w:World)(hK:Q1x w0 w M l ds ctx k ρ f mm fv (fs++[(fm,lv)]))(hg:Co.good l=true)(hlt:fm.at_<l.length)(hST0:M.ST=90):Calls Tryz.prog 30 #[.pointer (some ⟨M.g,0,none⟩)] w (fun e w'=>e=.returned (.tuple #[])∧∃ ρ' f' mm' fv',Q1x w0 w' M l ds ctx (Co.leaveK l k fm (fs.map (·.1)).reverse) ρ' f' mm' fv' fs):=by
 have hlen:l.length≤100000:=Y20;have hrow:=hK.row;have hrm:=hK.room;have hst:=hK.steps;rw[List.length_append,List.length_singleton] at hrow;rw[List.length_append,List.length_singleton] at hrm;have hmm:mm+fs.length+1≤1024:=Y1;obtain⟨gq,cap,rfl,hgB,hgs,hnc,hmx,hcell,hfz⟩:=Q1h hrow Y1;have hfc:∀ j,j<591→w.cell? ⟨gq,fs.length*591+j,none⟩=some (frF fm lv j):=fun j hj=>hcell _ _ (by have h:=Q4a (fs++[(fm,lv)]) fs.length Y3 j hj;rw[h];simp)
 have hld:=Qxf hfc
 have hlo:lv.oneCell'=true:=by
  obtain⟨p,c,h1,-⟩:=(hK.left (fm,lv) Y3).val;rw[show lv=_ from h1];rfl
 clear hcell hfc;obtain⟨g0,g1,g2,g3,g4,g5,-⟩:=hK.gs;have zg:=hK.lg;have zq:gq<w.heap.size:=hgs;have hfg:=hK.cells.2;obtain⟨zf,hzf⟩:∃ z,Hid (Tryz.zeroCells97=z):=⟨_,Lib.hid rfl⟩;have hzfc:Tryz.zeroCells97=zf:=hzf.out;have hzfs:zf.size=591:=by rw[← hzfc];exact Qep
 have hzfn:¬ zf=#[]:=by intro h;rw[h] at hzfs;simp at hzfs
 have hw1:RowKit.wrap64 (((fs.length+1:Nat):Int) - 1)=(fs.length:Int):=by rw[show ((fs.length+1:Nat):Int) - 1=(fs.length:Int) from Y1];exact IntWalk.wrap64_in _ Y1
 go_enter Tryz.func30,Tryz.ntmps30
 go_upto_region 3 with fail
 refine Q1g (fun W=>Q1x w0 W M l ds ctx { k with stk:=(fs.map (·.1)).reverse } ρ f mm (.slice (some ⟨gq,0,none⟩) fs.length cap) fs∧(∀ j,j<591→W.cell? ⟨w.heap.size,j,none⟩=some (frF fm lv j))∧w.heap.size<W.heap.size) ⟨(hK.keep Y14).pop,fun j hj=>(World.cell?_setCell_other _ _ _ _ (show (⟨M.g,5,none⟩:Addr)≠⟨w.heap.size,j,none⟩ from fun e=>absurd (congrArg Addr.block e) Y19)).trans (Qgj _ _ _ _ _ hzfs hj),by simp⟩ ?_;clear g0 g1 g2 g3 g4 g5 hfg hld hrow hfz hzfn hzfs hzfc hzf zf;rintro W ⟨hKW,hfr,hzW⟩;have hat:fm.at_≤1000000:=Y1;obtain⟨pk,ck,hkv⟩:=Q15 (hKW.rows fm.at_);have hlk:=hKW.len fm.at_;obtain⟨-,-,-,g3,g4,-⟩:=hKW.gs;have hjt:=hKW.joints.1 fm.at_ hlt;have zg:=hKW.lg;have zj:=hKW.lj;have zm:=hKW.kept.lt;have f0:W.cell? ⟨w.heap.size,0,none⟩=some (.int .i64 (fm.at_:Nat)):=hfr 0 Y1
 have hMk:=hKW.kept;obtain⟨nk,hnk⟩:∃ n,(k.kept fm.at_).length=n:=⟨_,rfl⟩;simp only[hnk] at hkv hlk;have hbd:decide ((fm.at_:Int)<0)=false:=by simp
 have hbl:(fm.at_:Int)<(l.length:Int):=Y1;cases hj:Co.jointB l fm.at_
 all_goals rw[hj] at hjt
 · refine Ql (Q16h w.heap.size M.g M.jb M.mb fm.at_ l.length M.jc mm f false W) Yc Yc ?_ ?_
   · exact Yn6
   refine Yv4 ?_;intro hN
   repeat (first
    | go_big_quiet_skip
    | (go_big_quiet_want
       first
        | ((first|(refine Q30 rfl rfl rfl hat (fun w' hC=>Yhm) hkv ?_)|(refine Q3 rfl rfl (fun w' hC=>Yj0) ?_)|(refine Q3i rfl rfl (fun w' hC=>Yj0) ?_)|(refine Q2o rfl rfl (fun w' hC=>Yj0) ?_)|(refine Q6 rfl rfl (fun w' hC=>Yj0) ?_))
           simp only[Act.put,List.setIfInBounds_toArray,List.set_cons_succ,List.set_cons_zero]
           go_big_quiet_on)
        | (go_big_quiet_op
           first
            | go_big_quiet_on
            | (apply Exists.intro
               refine⟨fun w' hC=>?_,?_⟩
               · (first|fail)
                 (try simp only[id]);exact⟨rfl,by first|exact hC|exact Qni _ _ hC hb1⟩
               go_big_quiet_on))))
   refine wpQuiet_nil ?_;intro w9 hC;obtain⟨k0,k1,k2,k3,k4,k5⟩:=hC;refine Yvn ?_;intro z0 z1;have z3:=Q1 k3;have hz9:=k5.size;go_wp2
   go_end0
   refine⟨rfl,ρ,f,mm,.slice (some ⟨gq,0,none⟩) fs.length cap,?_⟩;rw[Co.leaveK_no (by rw[hj];simp)];exact hKW.keep Y2
 · by_cases h16:nk<16
   · have hd16:decide ((nk:Int)<16)=true:=by simp;omega
     have hd17:decide (nk<16)=true:=Y4;refine Ql (Q16h w.heap.size M.g M.jb M.mb fm.at_ l.length M.jc mm f true W) Yc Yc ?_ ?_
     · exact Yn6
     refine Yv4 ?_;intro hN
     repeat (first
      | go_big_quiet_skip
      | (go_big_quiet_want
         first
          | ((first|(refine Q30 rfl rfl rfl hat (fun w' hC=>Yhm) hkv ?_)|(refine Q3 rfl rfl (fun w' hC=>Yj0) ?_)|(refine Q3i rfl rfl (fun w' hC=>Yj0) ?_)|(refine Q2o rfl rfl (fun w' hC=>Yj0) ?_)|(refine Q6 rfl rfl (fun w' hC=>Yj0) ?_))
             simp only[Act.put,List.setIfInBounds_toArray,List.set_cons_succ,List.set_cons_zero]
             go_big_quiet_on)
          | (go_big_quiet_op
             first
              | go_big_quiet_on
              | (apply Exists.intro
                 refine⟨fun w' hC=>?_,?_⟩
                 · (first|fail)
                   (try simp only[id]);exact⟨rfl,by first|exact hC|exact Qni _ _ hC hb1⟩
                 go_big_quiet_on))))
     refine wpQuiet_nil ?_;intro w9 hC;obtain⟨k0,k1,k2,k3,k4,k5⟩:=hC;refine Yvn ?_;intro z0 z1;have z3:=Q1 k3;have hz9:=k5.size;go_wp2;have hB9:Below W.heap.size W w9:=Y2;have hK9:=hKW.keep hB9;clear hKW g3 g4 hjt f0 hMk;obtain⟨-,-,-,g3,g4,-⟩:=hK9.gs;have hr9:∀ j,j<589→w9.cell? ⟨w.heap.size,1+j,none⟩=some (fm.s.cell j):=fun j hj=>by rw[Q0 hB9 (hfr (1+j) Y1)];unfold frF;rw[if_neg Y1,if_pos Y1,show 1+j - 1=j from Y1]
     have f0:w9.cell? ⟨w.heap.size,0,none⟩=some (.int .i64 (fm.at_:Nat)):=Q0 hB9 (hfr 0 Y1);have hMk:=hK9.kept;have zw9:=hB9.size;have hST:M.ST=90:=hST0;have hne1:some w.heap.size≠(f fm.at_).ownBlock:=fun e=>by have h1:=hK.rows fm.at_;have h2:=(h1.lt _ e.symm).2;omega
     have hne2:some M.g≠(f fm.at_).ownBlock:=fun e=>by have h1:=hK9.rk _ _ e.symm;rw[hK9.rg] at h1;omega
     have hne3:some M.mb≠(f fm.at_).ownBlock:=fun e=>by have h1:=hK9.rk _ _ e.symm;rw[hK9.rm] at h1;omega
     have hmW0:M.mb<w9.heap.size:=hK9.kept.lt;have hn1:w.heap.size≠M.mb:=fun e=>by have:=hK.kept.lt;omega
     have hn2:M.g≠M.mb:=fun e=>by have h1:=hK9.rg;rw[e,hK9.rm] at h1;omega
     have hrw:=hK9.rows fm.at_;rw[hST,hnk] at hrw;refine Q2 (Q122 w.heap.size M.g M.mb fm.at_ mm w0.heap.size nk f fm.s (Q1q (k.kept fm.at_)) w9) [15,16,17] [15,16] (fun i c=>bif i==15 then .slice (some ⟨c.1,0,none⟩) 1 1 else .slice (some ⟨c.1,0,none⟩) (nk+1) c.2) rfl Yc ?_ (fun d d' ν w'=>Qnh d d' ν w') (fun d ν w' w1=>Qah d ν w' w1) (fun i hi d ν c w'=>Qui i hi d ν c w') ?_
     · intro d ν hd
       refine⟨f0,g4,hr9,?_,?_,fun _=>hrw,?_,?_,fun _=>hMk,?_,Fr2.drew (Fr2.refl _ _ _)⟩
       all_goals (intro h;rw[hd _ Y0] at h;cases h)
     apply Exists.intro;refine⟨fun ν=>?_,?_,?_⟩
     · (try simp only[List.append])
       iterate 15
        (refine Qa Y0 ?_
         apply Exists.intro;refine⟨fun D hD hR hN K hK=>?_,Yc,?_⟩
         · first
           | (go_big_quiet_skip;exact hK)
           | (go_big_quiet_want
              first
               | ((first|(refine Q3 rfl rfl (fun w' hC=>Yg7) ?_)|(refine Q2o rfl rfl (fun w' hC=>Yg7) ?_)|(refine Q30 rfl rfl rfl hat (fun w' hC=>by obtain⟨d,hd,hC⟩:=hR w' hC;obtain⟨k0,k1,k2,k3,k4,k5,k6,k7,k8,k9,k10⟩:=hC;exact k8 (by cases hq:d 17 with|false=>rfl|true=>exact absurd (hd.shut 16 12 Yd (hd.shut 17 16 Yd hq)) Y1a)) hkv ?_)|(refine Q2e rfl rfl (fun w' hC=>by obtain⟨d,hd,hC⟩:=hR w' hC;obtain⟨k0,k1,k2,k3,k4,k5,k6,k7,k8,k9,k10⟩:=hC;exact k2) ?_))
                  simp only[Act.put,List.setIfInBounds_toArray,List.set_cons_succ,List.set_cons_zero]
                  go_big_quiet_on
                  exact hK)
               | (go_big_quiet_op
                  go_big_quiet_on
                  exact hK)))
       (refine Qq Y0 Yc (fun d w' hd hC=>?_) ?_
        · have n16:d 16=false:=(by cases hq:d 16 with|false=>rfl|true=>exact absurd (hd.shut 16 15 Yd hq) Y1a)
          have hb:=Below.alloc (Below.refl _ w') (Nat.le_refl _) (.cells fm.s.cells 90);refine⟨(w'.heap.size,0),_,Qgo w' (.tmp 59) rfl fm.s rfl,?_⟩;have hC1:=Qah _ _ _ _ hC hb;obtain⟨k0,k1,k2,k3,k4,k5,k6,k7,k8,k9,k10⟩:=hC1;have hsz:=k10.size;obtain⟨-,-,-,-,-,-,-,-,-,-,j10⟩:=hC;have hsz2:=j10.size;refine⟨k0,k1,k2,fun _=>Yg8,fun _=>by simpa[Qo] using hsz2,k5,fun h=>?_,fun h=>?_,k8,fun h=>?_,k10⟩
          all_goals (have h':d 16=true:=h;rw[n16] at h';cases h')
        simp only[Act.put,List.setIfInBounds_toArray,List.set_cons_succ,List.set_cons_zero,Nat.reduceAdd,Nat.zero_add,Nat.reduceBEq,beq_self_eq_true,cond_true,cond_false])
       (refine Qq Y0 Yc (fun d w' hd hC=>?_) ?_
        · have n17:d 17=false:=(by cases hq:d 17 with|false=>rfl|true=>exact absurd (hd.shut 17 16 Yd hq) Y1a)
          have n16:=hd.open_;have q15:=hd.ahead 15 Yd;obtain⟨k0,k1,k2,k3,k4,k5,k6,k7,k8,k9,k10⟩:=hC;have hsz:=k10.size;have hzx:=Q1o (w:=w') (b:=(ν 15).1) (by rw[k3 q15,St.cells_size];decide);refine Q5i w' (.tmp 57) (.tmp 60) rfl w0.heap.size nk (fun _=>rfl) _ _ hkv.symm (k5 n16) (ν 15).1 fm.s rfl (k3 q15) (Qj5 _) Y1 (by have:=hK9.below.size;omega) (fun g1 c1 w2 r1 r2 r3=>?_);have hrg:∀ b,some b≠(f fm.at_).ownBlock→b<w'.heap.size→w2.heap[b]?=w'.heap[b]?:=fun b h1 h2=>r2.block b h2 h1
          have ck:∀ b o u,some b≠(f fm.at_).ownBlock→w'.cell? ⟨b,o,none⟩=some u→w2.cell? ⟨b,o,none⟩=some u:=fun b o u h1 h2=>(World.cell?_of_block (w:=w') (a:=⟨b,o,none⟩) (hrg b h1 (Q1 h2))).trans h2
          refine⟨ck _ _ _ hne1 k0,ck _ _ _ hne2 k1,fun j hj=>ck _ _ _ hne1 (k2 j hj),fun h=>?_,?_,fun h=>?_,fun _=>by simpa[Qo] using r1,fun _=>?_,fun h=>?_,fun h h2=>?_,?_⟩
          · have h3:(Qo ν 16 (g1,c1) 15)=ν 15:=rfl
            rw[h3,← k3 q15];unfold blk;rw[hrg _ (fun e=>by have h4:=k4 q15;have h5:=(hK9.rows fm.at_).lt _ e.symm;omega) hzx]
          · exact k4
          · have h':upd d 16 16=false:=h
            simp[upd] at h'
          · exact Ys9
          · exact (k8 n17).of_block (hrg _ hne3 (k8 n17).lt)
          · have h':d 17=true:=h2
            rw[n17] at h';cases h'
          · exact k10.trans (Fr2.grown r2) (fun q e=>.inl e.symm)
        simp only[Act.put,List.setIfInBounds_toArray,List.set_cons_succ,List.set_cons_zero,Nat.reduceAdd,Nat.zero_add,Nat.reduceBEq,beq_self_eq_true,cond_true,cond_false])
       (refine⟨_,Move.store Yc rfl (fun d w' hd hC=>?_),?_⟩
        · have q16:=hd.ahead 16 Yd
          have n17:=hd.open_;obtain⟨k0,k1,k2,k3,k4,k5,k6,k7,k8,k9,k10⟩:=hC;refine Q61 w' (.tmp 48) (.tmp 50) (.tmp 61) rfl M.mb mm fm.at_ f _ rfl rfl rfl hat (k8 n17) (fun ob hM=>?_);have hmb:=(k8 n17).lt;have hsb:∀ b,b≠M.mb→(ChangeMaps.setBlock w' M.mb ob).heap[b]?=w'.heap[b]?:=fun b hb=>by unfold ChangeMaps.setBlock;simp only[Array.getElem?_setIfInBounds,if_neg (Ne.symm hb)]
          have ck:∀ b o u,b≠M.mb→w'.cell? ⟨b,o,none⟩=some u→(ChangeMaps.setBlock w' M.mb ob).cell? ⟨b,o,none⟩=some u:=fun b o u h1 h2=>(World.cell?_of_block (w:=w') (a:=⟨b,o,none⟩) (hsb b h1)).trans h2
          have hz2:W.heap.size≤(ν 15).1∨True:=.inr trivial;have hmW:=hmW0;refine⟨ck _ _ _ hn1 k0,ck _ _ _ hn2 k1,fun j hj=>ck _ _ _ hn1 (k2 j hj),fun h=>?_,k4,fun h=>?_,fun h=>Qv (k6 h) (fun b hb=>hsb b ?_),k7,fun h=>?_,fun h h2=>hM,?_⟩
          · have h1:=k4 h
            rw[← k3 h];unfold blk;rw[hsb _ Y1]
          · have h':d 16=false:=h
            rw[q16] at h';cases h'
          · have e:(ν 16).1=b:=Option.some.inj hb
            rcases k7 h with h1|h1
            · rw[e] at h1
              exact fun e2=>hne3 (by rw[← e2];exact h1)
            · omega
          · have h':upd d 17 17=false:=h
            simp[upd] at h'
          · exact k10.trans (row':=none) ⟨rfl,rfl,rfl,by unfold ChangeMaps.setBlock;simp,fun b hb hne _=>hsb b hne⟩ (fun _ e=>Yfk)
        simp only[Act.put])
       exact rfl
     · exact Yob
     · intro ν w8 d hd hC
       obtain⟨k0,k1,k2,k3,k4,k5,k6,k7,k8,k9,k10⟩:=hC;have q15:=hd 15 Y0;have q16:=hd 16 Y0;have q17:=hd 17 Y0;have hown:=k6 q16;rw[← hST,← Co.statesL_snoc,← hnk] at hown;obtain⟨ρ',hKf⟩:=hK9.keepS2 (i:=fm.at_) (s:=fm.s) (show (k.kept fm.at_).length<16 from Y1) (v':=.slice (some ⟨(ν 16).1,0,none⟩) ((k.kept fm.at_).length+1) (ν 16).2) hown k10 (fun b hb=>by have e:(ν 16).1=b:=Option.some.inj hb;rw[← e];exact k7 q16) (by rw[hnk];exact k9 q16 q17) (by show mm+fs.length+1≤k.steps;omega);go_wp2
       go_end0
       rw[Co.leaveK_yes hj (show (k.kept fm.at_).length<16 from Y1)];exact⟨rfl,ρ',_,_,_,hKf⟩
   · have hd16:decide ((nk:Int)<16)=false:=by simp;omega
     have hd17:decide (nk<16)=false:=Y4;refine Ql (Q16h w.heap.size M.g M.jb M.mb fm.at_ l.length M.jc mm f true W) Yc Yc ?_ ?_
     · exact Yn6
     refine Yv4 ?_;intro hN
     repeat (first
      | go_big_quiet_skip
      | (go_big_quiet_want
         first
          | ((first|(refine Q30 rfl rfl rfl hat (fun w' hC=>Yhm) hkv ?_)|(refine Q3 rfl rfl (fun w' hC=>Yj0) ?_)|(refine Q3i rfl rfl (fun w' hC=>Yj0) ?_)|(refine Q2o rfl rfl (fun w' hC=>Yj0) ?_)|(refine Q6 rfl rfl (fun w' hC=>Yj0) ?_))
             simp only[Act.put,List.setIfInBounds_toArray,List.set_cons_succ,List.set_cons_zero]
             go_big_quiet_on)
          | (go_big_quiet_op
             first
              | go_big_quiet_on
              | (apply Exists.intro
                 refine⟨fun w' hC=>?_,?_⟩
                 · (first|fail)
                   (try simp only[id]);exact⟨rfl,by first|exact hC|exact Qni _ _ hC hb1⟩
                 go_big_quiet_on))))
     refine wpQuiet_nil ?_;intro w9 hC;obtain⟨k0,k1,k2,k3,k4,k5⟩:=hC;refine Yvn ?_;intro z0 z1;have z3:=Q1 k3;have hz9:=k5.size;go_wp2
     go_end0
     refine⟨rfl,ρ,f,mm,.slice (some ⟨gq,0,none⟩) fs.length cap,?_⟩;rw[Co.leaveK_no (by rw[hnk];intro e;omega)];exact hKW.keep Y2
end Hk
namespace Hk
theorem Qbj (ρ:Operand→Value)(op:Oper)(x:Operand)(b o:Nat)(c0:Value)(ho:op.op=.load 23 x)(hx:ρ x=.pointer (some ⟨b,o,none⟩))(w:World)(h0:w.cell? ⟨b,o,none⟩=some c0) :
 (execOp ρ op).run Tryz.prog w=.ok (.value (c0)) w:=by
 obtain⟨dst,op,type,pos,after,guard⟩:=op;simp only at ho;subst ho
 go_simp
theorem Q1j {op:Oper}{a:Act}{C:World→Prop}{K:Act→Prop}{x:Operand}{b o:Nat}{c0:Value}(ho:op.op=.load 23 x)(hx:a.eval x=.pointer (some ⟨b,o,none⟩))
 (h:∀ w,C w→w.cell? ⟨b,o,none⟩=some c0) (hk:K (a.put op.dst (c0))):op.quiet Tryz.prog a C K :=
 Qt (v:=c0) (fun w hC=>by unfold Oper.quietAt;have h0:=h w hC;rw[Qbj _ op x b o c0 ho hx w h0];exact⟨rfl,rfl⟩) hk
def WjC (p:Option Addr)(ln dc g pb:Nat)(vi vo:Int)(w:World)(d:Nat→Bool)(ν:Nat→Nat × Nat)(w':World):Prop:=w'.cell? ⟨g,1,none⟩=some (.slice p ln dc)∧w'.cell? ⟨pb,5,none⟩=some (.int .i64 vi)∧w'.cell? ⟨pb,6,none⟩=some (.int .i64 vo)∧0≤w'.heap.size∧Below w.heap.size w w'
theorem Qe4 {p:Option Addr}{ln dc g pb:Nat}{vi vo:Int}{w:World}:KT (WjC p ln dc g pb vi vo w):=by
 intro d ν w' w1 h hb;obtain⟨k0,k1,k2,k3,k4⟩:=h;exact⟨Q0 hb k0,Q0 hb k1,Q0 hb k2,Nat.le_trans k3 hb.size,Q8 k4 hb⟩
theorem Qe3 {p:Option Addr}{ln dc g pb:Nat}{vi vo:Int}{w:World}:MT (WjC p ln dc g pb vi vo w) []:=by
 intro d d' ν w' hd h;unfold WjC at *;simpa only[true_and] using h
def WiC (ln dc g pb qi bd od:Nat)(vo vv:Int)(w:World)(d:Nat→Bool)(ν:Nat→Nat × Nat)(w':World):Prop:=w'.cell? ⟨g,1,none⟩=some (.slice (some ⟨bd,od,none⟩) ln dc)∧w'.cell? ⟨pb,5,none⟩=some (.int .i64 (qi:Nat))∧w'.cell? ⟨pb,6,none⟩=some (.int .i64 vo)∧w'.cell? ⟨bd,od+qi*4+2,none⟩=some (.int .i64 vv)∧0≤w'.heap.size∧Below w.heap.size w w'
theorem Qtl {ln dc g pb qi bd od:Nat}{vo vv:Int}{w:World}:KT (WiC ln dc g pb qi bd od vo vv w):=by
 intro d ν w' w1 h hb;obtain⟨k0,k1,k2,k3,k4,k5⟩:=h;exact⟨Q0 hb k0,Q0 hb k1,Q0 hb k2,Q0 hb k3,Nat.le_trans k4 hb.size,Q8 k5 hb⟩
theorem Qtk {ln dc g pb qi bd od:Nat}{vo vv:Int}{w:World}:MT (WiC ln dc g pb qi bd od vo vv w) []:=by
 intro d d' ν w' hd h;unfold WiC at *;simpa only[true_and] using h
theorem Q4i (g:Nat)(X:Sx)(v:Vl)(off size:Int)(w:World)(hX:Q1e w g X)(hvo:-2097152≤v.off∧v.off≤2097152)(hof:-100000≤off∧off≤100000)(hsz:0≤size∧size≤100000)(hctx:0≤X.ctx∧X.ctx≤64)(hds:∀ d∈X.ds,0≤d.val∧d.val≤64)(hvi:0≤v.i∧v.i≤7):Calls Tryz.prog 124 #[.pointer (some ⟨g,0,none⟩),v,.int .i64 off,.int .i64 size] w (RB.a w (.int .i64 (Co.insideE X.ds X.ctx v off size))):=by
 obtain⟨a0,a1,a2,a3,a4,a5,a6,a7,a8,a9,a10,a11,a12,a13,a14⟩:=hX.cells;have zg:=hX.lt;cases h5:(v.k==5)
 · have e0:Co.insideE X.ds X.ctx v off size=Co.boundE (v.off+off) X.ctx size:=by unfold Co.insideE;rw[h5];rfl
   rw[e0];clear e0;generalize X.ctx=ctx at *;cases q1:decide (v.off+off<0)<;>cases q2:decide (ctx - size<v.off+off)
   all_goals
    have EE:=Lib.hid (show Co.boundE (v.off+off) ctx size=_ by unfold Co.boundE;rw[q1,q2]);go_enter Tryz.func124,Tryz.ntmps124;go_wp2;go_ret;exact⟨Yg9,Yb⟩
 · cases q0:decide ((X.ds.length:Int)≤v.i)
   · have hlt:v.i.toNat<X.ds.length:=by have:=of_decide_eq_false q0;omega
     obtain⟨bd,od,hp,d0,d1,d2,d3⟩:=hX.defs v.i.toNat hlt;have hvv:=hds _ (List.getElem_mem hlt);have ex:X.ds.getD v.i.toNat ⟨false,0,0,0⟩=X.ds[v.i.toNat]:=Yf6;have e0:Co.insideE X.ds X.ctx v off size=Co.boundE (v.off+off) X.ds[v.i.toNat].val size:=by unfold Co.insideE;rw[h5,q0,ex];rfl
     rw[e0];clear e0 ex;generalize X.ds[v.i.toNat].val=vv at *;have hn:v.i=((v.i.toNat:Nat):Int):=Y1;rw[hp] at a1;clear d0 d1 d3 hp hX;generalize X.ds.length=ln at *;generalize X.dc=dc at *;generalize X.ctx=ctx at *;generalize v.i=vi at *;obtain⟨qi,hqi⟩:∃ n:Nat,vi=(n:Int):=⟨vi.toNat,hn⟩;subst hqi;simp only[Int.toNat_natCast] at *;clear hn;cases q1:decide (v.off+off<0)<;>cases q2:decide (vv - size<v.off+off)
     all_goals
      have EE:=Lib.hid (show Co.boundE (v.off+off) vv size=_ by unfold Co.boundE;rw[q1,q2]);go_enter Tryz.func124,Tryz.ntmps124;go_wp2;refine Q2 (WjC (some ⟨bd,od,none⟩) ln dc g w.heap.size qi v.off w) [] [] (fun _ c=>.pointer (some ⟨c.1,0,none⟩)) rfl Yc ?_ (fun d d' ν w'=>Qe3 d d' ν w') (fun d ν w' w1=>Qe4 d ν w' w1) (fun i hi=>Yf0) ?_
      · exact Ymm
      apply Exists.intro;refine⟨fun ν=>?_,?_,?_⟩
      · (try simp only[List.append])
        iterate 9 refine Yda ?_
        exact rfl
      · intro i hi;cases hi
      · intro ν w9 d hd hC
        obtain⟨k0,k1,k2,k3,k4⟩:=hC
        skip
        clear hd;refine Yvn ?_;intro z0 z1;have d3:=Q0 (show Below w.heap.size w w9 from Y2) d2;go_wp2;refine Q2 (WiC ln dc g w.heap.size qi bd od v.off vv w) [] [] (fun _ c=>.pointer (some ⟨c.1,0,none⟩)) rfl Yc ?_ (fun d d' ν w'=>Qtk d d' ν w') (fun d ν w' w1=>Qtl d ν w' w1) (fun i hi=>Yf0) ?_
        · intro d ν hd;refine⟨?_,?_,?_,?_,?_,Yb⟩<;>first|(simp (maxDischargeDepth:=12) [*,hd,upd,Qo,go_sem,↓IntWalk.iteOmega];done)|(intro i;simp (maxDischargeDepth:=12) [*,upd,Qo,go_sem,↓IntWalk.iteOmega];done)|(intro h;rw[hd _ Y0] at h;cases h)|go_size|(simp;omega)
        apply Exists.intro;refine⟨fun ν=>?_,?_,?_⟩
        · (try simp only[List.append])
          iterate 11
           (refine Qa Y0 ?_
            apply Exists.intro;refine⟨fun D hD hR hN K hK=>?_,Yc,?_⟩
            · first
              | (go_big_quiet_skip;exact hK)
              | (go_big_quiet_want
                 first
                  | ((first|(refine Q1j rfl rfl (fun w' hC=>Yga) ?_)|(refine Q3 rfl rfl (fun w' hC=>Yga) ?_))
                     simp only[Act.put,List.setIfInBounds_toArray,List.set_cons_succ,List.set_cons_zero]
                     go_big_quiet_on
                     exact hK)
                  | (go_big_quiet_op
                     first
                      | (go_big_quiet_on;exact hK)
                      | (apply Exists.intro
                         refine⟨fun w' hC=>?_,?_⟩
                         · exact Ysx
                         go_big_quiet_on
                         exact hK))))
          exact rfl
        · intro i hi;cases hi
        · intro ν w8 d hd hC
          obtain⟨k0,k1,k2,k3,k4,k5⟩:=hC
          skip
          clear hd;refine Yvn ?_;intro z0 z1;have z3:=Q1 k3;go_wp2;go_ret;exact⟨Yg9,Yb⟩
   · have EE:=Lib.hid (show Co.insideE X.ds X.ctx v off size=80 by unfold Co.insideE;rw[h5,q0];rfl)
     rw[EE.out];clear hX;generalize X.ds.length=ln at *;generalize X.dc=dc at *;generalize X.p=p at *;generalize X.ctx=ctx at *;go_enter Tryz.func124,Tryz.ntmps124;go_wp2;refine Q2 (WjC p ln dc g w.heap.size v.i v.off w) [] [] (fun _ c=>.pointer (some ⟨c.1,0,none⟩)) rfl Yc ?_ (fun d d' ν w'=>Qe3 d d' ν w') (fun d ν w' w1=>Qe4 d ν w' w1) (fun i hi=>Yf0) ?_
     · exact Ymm
     apply Exists.intro;refine⟨fun ν=>?_,?_,?_⟩
     · (try simp only[List.append])
       iterate 9 refine Yda ?_
       exact rfl
     · intro i hi;cases hi
     · intro ν w9 d hd hC
       obtain⟨k0,k1,k2,k3,k4⟩:=hC;exact Yu7
end Hk
