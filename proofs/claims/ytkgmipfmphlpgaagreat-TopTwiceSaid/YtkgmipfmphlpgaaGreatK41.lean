/- A part of TopTwice; no condition. -/
import Derived.Test.YtkgmipfmphlpgaaGreatK40
open Go Go.RowKit Go.Proofs
set_option linter.all false
set_option maxRecDepth 100000
set_option maxHeartbeats 20000000
namespace Hk
attribute [-go_sem] Qm
theorem Qb6 (ρ:Operand→Value)(op:Oper)(x:Operand)(b o:Nat)(c0 c1 c2 c3:Value)(ho:op.op=.load 36 x)(hx:ρ x=.pointer (some ⟨b,o,none⟩))(w:World)(h0:w.cell? ⟨b,o,none⟩=some c0)(h1:w.cell? ⟨b,o+1,none⟩=some c1)(h2:w.cell? ⟨b,o+2,none⟩=some c2)(h3:w.cell? ⟨b,o+3,none⟩=some c3) :
 (execOp ρ op).run Tryz.prog w=.ok (.value (.agg #[c0,c1,c2,c3])) w:=by
 obtain⟨dst,op,type,pos,after,guard⟩:=op;simp only at ho;subst ho
 go_simp
theorem Q7v {op:Oper}{a:Act}{C:World→Prop}{K:Act→Prop}{x:Operand}{b o:Nat}{c0 c1 c2 c3:Value}(ho:op.op=.load 36 x)(hx:a.eval x=.pointer (some ⟨b,o,none⟩))
 (h:∀ w,C w→w.cell? ⟨b,o,none⟩=some c0∧w.cell? ⟨b,o+1,none⟩=some c1∧w.cell? ⟨b,o+2,none⟩=some c2∧w.cell? ⟨b,o+3,none⟩=some c3) (hk:K (a.put op.dst (.agg #[c0,c1,c2,c3]))):op.quiet Tryz.prog a C K :=
 Qt (v:=.agg #[c0,c1,c2,c3]) (fun w hC=>by unfold Oper.quietAt;obtain⟨h0,h1,h2,h3⟩:=h w hC;rw[Qb6 _ op x b o c0 c1 c2 c3 ho hx w h0 h1 h2 h3];exact⟨rfl,rfl⟩) hk
def Q16b (vb tg g1 ml cap1:Nat)(c0 c3 c4 c5 c6:Value)(V:Co.Vd)(pn:Option Addr)(ln cn:Nat)(W:World)(d:Nat→Bool)(ν:Nat→Nat×Nat)(w':World):Prop:=w'.cell? ⟨vb,0,none⟩=some (.int .i64 V.code)∧w'.cell? ⟨vb,1,none⟩=some (.int .i64 V.at_)∧w'.cell? ⟨vb,2,none⟩=some (.int .i64 V.steps)∧w'.cell? ⟨vb,3,none⟩=some ((.slice pn ln cn))∧w'.cell? ⟨tg,0,none⟩=some (bif d 6 then .slice (some ⟨g1,0,none⟩) ml cap1 else c0)∧w'.cell? ⟨tg,3,none⟩=some (bif d 9 then .int .i64 V.code else c3)∧w'.cell? ⟨tg,4,none⟩=some (bif d 9 then .int .i64 V.at_ else c4)∧w'.cell? ⟨tg,5,none⟩=some (bif d 9 then .int .i64 V.steps else c5)∧w'.cell? ⟨tg,6,none⟩=some (bif d 9 then (.slice pn ln cn) else c6)∧(∀ i,w'.frozen? ⟨tg,i,none⟩=false)∧w'.cell? ⟨tg,1,none⟩=W.cell? ⟨tg,1,none⟩∧w'.cell? ⟨tg,2,none⟩=W.cell? ⟨tg,2,none⟩∧Fr2 tg none W w'
theorem Qn4 {vb tg g1 ml cap1:Nat}{c0 c3 c4 c5 c6:Value}{V:Co.Vd}{pn:Option Addr}{ln cn:Nat}{W:World}:KT (Q16b vb tg g1 ml cap1 c0 c3 c4 c5 c6 V pn ln cn W):=by
 intro d ν w' w1 h hb;obtain⟨k0,k1,k2,k3,k4,k5,k6,k7,k8,k9,k10,k11,k12⟩:=h;exact⟨Q0 hb k0,Q0 hb k1,Q0 hb k2,Q0 hb k3,Q0 hb k4,Q0 hb k5,Q0 hb k6,Q0 hb k7,Q0 hb k8,fun i=>(hb.frozen (p:=⟨tg,i,none⟩) (Q1 k4)).trans (k9 i),(hb.cell (p:=⟨tg,1,none⟩) (Q1 k4)).trans k10,(hb.cell (p:=⟨tg,2,none⟩) (Q1 k4)).trans k11,k12.trans (row':=none) (Fr2.of_below hb) (fun _ e=>Yfk)⟩
theorem Qn3 {vb tg g1 ml cap1:Nat}{c0 c3 c4 c5 c6:Value}{V:Co.Vd}{pn:Option Addr}{ln cn:Nat}{W:World}:MT (Q16b vb tg g1 ml cap1 c0 c3 c4 c5 c6 V pn ln cn W) [6,9]:=by
 intro d d' ν w' hd h;unfold Q16b at *;simpa only[← hd 6 Y3,← hd 9 Y3] using h
theorem Qw7 (w0:World)(tg:Nat)(p:Option Addr)(dc:Nat)(ds:List Df)(ctx:Int)(n:Nat)(t:Co.Tn2)(lb lc:Nat)(nv:Value)(be ce:Nat)(es:List Ed)(w:World)(hT:Q7m w0 w tg p dc ds ctx n t lb lc nv)(hE:Q3z w be es)(hel:es.length=t.l.length)(hn:ds.length≤1000000000):Calls Tryz.prog 22 #[.pointer (some ⟨tg,0,none⟩),.slice (some ⟨be,0,none⟩) es.length ce] w (fun e w'=>e=.returned (.tuple #[])∧Fr2 tg none w w'∧∃ lb' lc' nv',Q7m w0 w' tg p dc ds ctx n (Co.takeT ds ctx t es) lb' lc' nv'):=by
 have HEL:=Lib.hid hel;clear hel;obtain⟨a0,a1,a2,a3,a4,a5,a6⟩:=hT.cs;have zt:=hT.lg;have zl:=hT.ins.lt Yhx;cases hr:Co.rewrite t.l es with
 | none =>
   have EE:=Lib.hid (Co.takeT_none (ds:=ds) (ctx:=ctx) hr);have HR:=Lib.hid hr;clear hr;go_enter Tryz.func22,Tryz.ntmps22;go_wp2_with (first|(go_at_call 37;(with_reducible refine (Q42 _ _ _ _ _ _ _ (hT.ins.keep Y14) hT.ok.good hT.cap (hE.keep Y14) HEL.out).mono ?_);rintro e w1 h1;rcases h1 with ⟨v1,m1,rfl,hm,hown,hb1⟩|⟨rfl,hm,hb1⟩;· exact absurd (hm.symm.trans HR.out) Y3));exact Ypz
 | some m =>
   have hgm:=Co.rewrite_good hr;have hm0:0<m.length:=by have:=(Co.good_facts hgm).1;omega
   have HR:=Lib.hid hr;by_cases hlen:t.l.length<m.length
   · have EE:=Lib.hid (Co.takeT_long (ds:=ds) (ctx:=ctx) hr hlen)
     have hld:decide ((t.l.length:Int)<(m.length:Int))=true:=Y4;have hld2:decide (t.l.length<m.length)=true:=Y4;clear hr;go_enter Tryz.func22,Tryz.ntmps22;go_wp2_with (first|(go_at_call 37;(with_reducible refine (Q42 _ _ _ _ _ _ _ (hT.ins.keep Y14) hT.ok.good hT.cap (hE.keep Y14) HEL.out).mono ?_);rintro e w1 h1;rcases h1 with ⟨v1,m1,rfl,hm,hown,hb1⟩|⟨rfl,hm,hb1⟩;rotate_left;(exact absurd (hm.symm.trans HR.out) Y3);obtain rfl:m=m1:=(Option.some.inj (hm.symm.trans HR.out)).symm;clear hm;obtain⟨g1,cap1,rfl,hgB,hgs,hcap1,hIm,-⟩:=Q2b hown hm0;clear hown;obtain⟨hc1,hf1,hz1⟩:=Q17 hb1));exact Ypz
   · obtain⟨V,hV⟩:∃ V,Co.programV m ds ctx=V:=⟨_,rfl⟩
     have hld:decide ((t.l.length:Int)<(m.length:Int))=false:=Y4;have hld2:decide (t.l.length<m.length)=false:=Y4;have hlm:m.length≤100000:=by have:=(Co.good_facts hgm).1;omega
     cases hc:(V.code==0)
     · have EE:=Lib.hid (Co.takeT_bad (ds:=ds) (ctx:=ctx) hr Y23)
       have HV:=Lib.hid hV;clear hV hr;go_enter Tryz.func22,Tryz.ntmps22;go_wp2_with (first|(go_at_call 37;(with_reducible refine (Q42 _ _ _ _ _ _ _ (hT.ins.keep Y14) hT.ok.good hT.cap (hE.keep Y14) HEL.out).mono ?_);rintro e w1 h1;rcases h1 with ⟨v1,m1,rfl,hm,hown,hb1⟩|⟨rfl,hm,hb1⟩;rotate_left;(exact absurd (hm.symm.trans HR.out) Y3);obtain rfl:m=m1:=(Option.some.inj (hm.symm.trans HR.out)).symm;clear hm;obtain⟨g1,cap1,rfl,hgB,hgs,hcap1,hIm,-⟩:=Q2b hown hm0;clear hown;obtain⟨hc1,hf1,hz1⟩:=Q17 hb1)|(go_at_call 8;(with_reducible refine (Q82 _ _ _ _ m ds ctx _ (hIm.keep Y14) (hT.defsW.keep Y14) hlm hn).mono ?_);rw[HV.out];rintro e w2 ⟨nv2,rfl,hvd2,hnv2,hb2⟩;obtain⟨pn,ln,cn,rfl⟩:=hvd2.slice;obtain⟨hc2,hf2,hz2⟩:=Q17 hb2))
       go_end0
       rw[EE.out];exact⟨rfl,Fr2.of_below Y14,lb,lc,nv,hT.keep Y14⟩
     · have EE:=Lib.hid (Co.takeT_yes (ds:=ds) (ctx:=ctx) hr hlen Y23)
       have hok:Co.OkT ds ctx n ⟨m,Co.programV m ds ctx⟩:=⟨hgm,rfl,by rw[hV];simpa using hc,by have:=hT.ok.len;show m.length≤n;omega⟩;rw[hV] at hok;have EV:=Lib.hid hV;have HV:=Lib.hid hV;clear hV hr;go_enter Tryz.func22,Tryz.ntmps22
       go_upto_region 4 with (first|(go_at_call 37;(with_reducible refine (Q42 _ _ _ _ _ _ _ (hT.ins.keep Y14) hT.ok.good hT.cap (hE.keep Y14) HEL.out).mono ?_);rintro e w1 h1;rcases h1 with ⟨v1,m1,rfl,hm,hown,hb1⟩|⟨rfl,hm,hb1⟩;rotate_left;(exact absurd (hm.symm.trans HR.out) Y3);obtain rfl:m=m1:=(Option.some.inj (hm.symm.trans HR.out)).symm;clear hm;obtain⟨g1,cap1,rfl,hgB,hgs,hcap1,hIm,-⟩:=Q2b hown hm0;clear hown;obtain⟨hc1,hf1,hz1⟩:=Q17 hb1)|(go_at_call 8;(with_reducible refine (Q82 _ _ _ _ m ds ctx _ (hIm.keep Y14) (hT.defsW.keep Y14) hlm hn).mono ?_);rw[HV.out];rintro e w2 ⟨nv2,rfl,hvd2,hnv2,hb2⟩;obtain⟨pn,ln,cn,rfl⟩:=hvd2.slice;obtain⟨hc2,hf2,hz2⟩:=Q17 hb2))
       refine Q1g (fun W=>Q7m w0 W tg p dc ds ctx n t lb lc nv∧W.cell? ⟨w2.heap.size,0,none⟩=some (.int .i64 V.code)∧W.cell? ⟨w2.heap.size,1,none⟩=some (.int .i64 V.at_)∧W.cell? ⟨w2.heap.size,2,none⟩=some (.int .i64 V.steps)∧W.cell? ⟨w2.heap.size,3,none⟩=some (.slice pn ln cn)∧Q14 W g1 m∧Q8d W (.slice pn ln cn) m.length V∧g1<W.heap.size∧(∀ b,Value.ownBlock (.slice pn ln cn)=some b→b≠tg)∧w2.heap.size<W.heap.size∧Below w.heap.size w W) ⟨hT.keep Y14,Yg1,Yg1,Yg1,Yg1,hIm.keep Y14,hvd2.keep Y14,Y4,?_,by simp,Y14⟩ ?_
       · intro b hb e
         have h1:=hnv2 b hb;omega
       rintro W ⟨hTW,v0,v1,v2,v3,hIW,hvW,hgW,hnW,hzW,hBW⟩;clear a0 a1 a2 a3 a4 a5 a6;obtain⟨a0,a1,a2,a3,a4,a5,a6⟩:=hTW.cs;have hfz:=hTW.cells.2;have zg:=hTW.lg;have hvt:w2.heap.size≠tg:=Y1;refine Q2 (Q16b w2.heap.size tg g1 m.length cap1 (.slice (some ⟨lb,0,none⟩) t.l.length lc) (.int .i64 t.v.code) (.int .i64 t.v.at_) (.int .i64 t.v.steps) nv V pn ln cn W) [6,9] [] (fun _ _=>undef) rfl Yc ?_ (fun d d' ν w'=>Qn3 d d' ν w') (fun d ν w' w1=>Qn4 d ν w' w1) (fun i hi=>Yf0) ?_
       · intro d ν hd
         refine⟨v0,v1,v2,v3,?_,?_,?_,?_,?_,hfz,rfl,rfl,Fr2.drew (Fr2.refl _ _ _)⟩
         all_goals (rw[hd _ Y0];assumption)
       apply Exists.intro;refine⟨fun ν=>?_,?_,?_⟩
       · (try simp only[List.append])
         iterate 6
          (refine Qa Y0 ?_
           apply Exists.intro;refine⟨fun D hD hR hN K hK=>?_,Yc,?_⟩
           · first
             | (go_big_quiet_skip;exact hK)
             | (go_big_quiet_want
                first
                 | ((first|(refine Q7v rfl rfl (fun w' hC=>by obtain⟨d,hd,hC⟩:=hR w' hC;obtain⟨k0,k1,k2,k3,k4,k5,k6,k7,k8,k9,k10,k11,k12⟩:=hC;exact⟨k0,k1,k2,k3⟩) ?_))
                    simp only[Act.put,List.setIfInBounds_toArray,List.set_cons_succ,List.set_cons_zero]
                    go_big_quiet_on
                    exact hK)
                 | (go_big_quiet_op
                    go_big_quiet_on
                    exact hK)))
         (refine Qh rfl rfl rfl rfl Yc (fun d w' hd hC=>?_) ?_
          · obtain⟨k0,k1,k2,k3,k4,k5,k6,k7,k8,k9,k10,k11,k12⟩:=hC
            refine⟨_,(by simp[k4,k9,go_sem];exact rfl),?_⟩;refine⟨?_,?_,?_,?_,?_,?_,?_,?_,?_,fun i=>by simp only[World.frozen?_setCell];exact k9 i,?_,?_,by repeat' (first|exact k12|refine Fr2.set ?_)⟩
            all_goals (simp (maxDischargeDepth:=12) [k0,k1,k2,k3,k4,k5,k6,k7,k8,k10,k11,hvt,hvt.symm,upd,go_sem];done))
         iterate 2 refine Yea ?_
         (refine Qh rfl rfl rfl rfl Yc (fun d w' hd hC=>?_) ?_
          · obtain⟨k0,k1,k2,k3,k4,k5,k6,k7,k8,k9,k10,k11,k12⟩:=hC
            refine⟨_,(by simp[k5,k6,k7,k8,k9,go_sem];exact rfl),?_⟩;refine⟨?_,?_,?_,?_,?_,?_,?_,?_,?_,fun i=>by simp only[World.frozen?_setCell];exact k9 i,?_,?_,by repeat' (first|exact k12|refine Fr2.set ?_)⟩
            all_goals (simp (maxDischargeDepth:=12) [k0,k1,k2,k3,k4,k5,k6,k7,k8,k10,k11,hvt,hvt.symm,upd,go_sem];done))
         exact rfl
       · intro i hi;cases hi
       · intro ν w8 d hd hC
         obtain⟨k0,k1,k2,k3,k4,k5,k6,k7,k8,k9,k10,k11,k12⟩:=hC;have q6:=hd 6 Y0;have q9:=hd 9 Y0;simp only[q6,q9,cond_true] at k4 k5 k6 k7 k8
         have hTf:=hTW.turn (t':=⟨m,V⟩) (lb':=g1) (lc':=cap1) (nv':=.slice pn ln cn) k12 ⟨fun j hj=>by
          rcases j with _|_|_|_|_|_|_|j<;>first|omega|assumption|exact k10.trans a1|exact k11.trans a2,k9⟩ hIW hcap1 Y1 hgW hvW hnW hok
         go_wp2
         go_end0
         rw[EE.out,EV.out];exact⟨rfl,(Fr2.of_below hBW).trans k12 (fun _ e=>Yfk),_,_,_,hTf⟩
end Hk
namespace Hk
theorem Q13g (b n c:Nat)(W:World):(binOp .eql 29 (.slice (some ⟨b,0,none⟩) n c) (.slice none 0 0)).run Tryz.prog W=.ok (.bool false) W:=by
 have h:∀ d:Nat,(Op.equalIn (d+1) 29 (.slice (some ⟨b,0,none⟩) n c) (.slice none 0 0)).run Tryz.prog W=.ok false W:=fun d=>by
  simp[Op.equalIn,run_underlying Tryz.underlying29]
 simp only[binOp];simp[Op.equal,Op.maxDepth,h 9999]
theorem Q85 (b c:Nat)(l:List In)(w:World)(hI:Q14 w b l)(hL:l.length≤100000)(hl0:0<l.length):Calls Tryz.prog 12 #[.slice (some ⟨b,0,none⟩) l.length c] w fun e w'=>∃ v,e=.returned v∧w'.ownsRow w.heap.size 41 5 v l.length (Q2a l)∧Below w.heap.size w w':=by
 obtain⟨i0,hi0,hj0,hj1,hj2⟩:=info_parts Q4t;have hnil:=Q13g b l.length c;go_enter Tryz.func12,Tryz.ntmps12;go_wp2_with (at_builtin;(refine wpList_append_own _ rfl (.tmp 5) (.tmp 6) _ rfl w.heap.size 41 i0 _ 5 12 Tryz.underlying29 hi0 hj0 hj1 hj2 rfl Y1 _ 0 [] rfl (Qbt (cs:=[]) 5 0 (Nat.le_refl _) rfl Y0) ⟨b,0,none⟩ l.length c (Q2a l) rfl (Q2v l) (fun j u hu=>by rw[Q7k];exact Q9h (hI.keep Yb) j u hu) (Q84 l) Yk Y1 Yl ?_;intro v1 w1 hown1 hg1 hat1));go_ret;refine⟨_,rfl,?_,Below.grown Yb hg1 Yl (fun k e=>by have e2:(some w.heap.size:Option Nat)=some k:=e;injection e2 with h;omega)⟩;rw[Nat.zero_add,List.nil_append] at hown1;exact hown1
theorem Qv3 (x y:In)(W:World):(binOp .neq 41 (x) (y)).run Tryz.prog W=.ok (.bool (!In.eqB x y)) W:=by
 unfold In.eqB;cases h0:(x.op==y.op)<;>cases h1:(x.dst==y.dst)<;>cases h2:(x.src==y.src)<;>cases h3:(x.off==y.off)<;>cases h4:(x.imm==y.imm)<;>(simp at h0 h1 h2 h3 h4;simp[go_sem, *])
def EqC (x y:In)(b g k:Nat)(w:World)(d:Nat→Bool)(ν:Nat→Nat×Nat)(w':World):Prop:=w'.cell? ⟨b,k*5,none⟩=some (.int .u8 (N8 x.op))∧w'.cell? ⟨b,k*5+1,none⟩=some (.int .u8 (N8 x.dst))∧w'.cell? ⟨b,k*5+2,none⟩=some (.int .u8 (N8 x.src))∧w'.cell? ⟨b,k*5+3,none⟩=some (.int .i16 (I16 x.off))∧w'.cell? ⟨b,k*5+4,none⟩=some (.int .i32 (I32 x.imm))∧w'.cell? ⟨g,k*5,none⟩=some (.int .u8 (N8 y.op))∧w'.cell? ⟨g,k*5+1,none⟩=some (.int .u8 (N8 y.dst))∧w'.cell? ⟨g,k*5+2,none⟩=some (.int .u8 (N8 y.src))∧w'.cell? ⟨g,k*5+3,none⟩=some (.int .i16 (I16 y.off))∧w'.cell? ⟨g,k*5+4,none⟩=some (.int .i32 (I32 y.imm))∧0≤w'.heap.size∧Below w.heap.size w w'
theorem Qej {x y:In}{b g k:Nat}{w:World}:KT (EqC x y b g k w):=by
 exact Yml
theorem Qei {x y:In}{b g k:Nat}{w:World}:MT (EqC x y b g k w) []:=by
 intro d d' ν w' hd h;unfold EqC at *;simpa only[true_and] using h
theorem Qrh (b c g d:Nat)(l m:List In)(w:World)(hI:Q14 w b l)(hL:l.length≤100000)(hI2:Q14 w g m)(hL2:m.length≤100000):Calls Tryz.prog 26 #[.slice (some ⟨b,0,none⟩) l.length c,.slice (some ⟨g,0,none⟩) m.length d] w (RB.a w (.bool (Co.sameL l m))):=by
 by_cases hlen:l.length=m.length
 · have HN:=Lib.hid hlen
   have hle:l.length≤m.length:=Y1;have hge:m.length≤l.length:=Y1;have hb0:((l.length:Int) != m.length)=false:=by rw[hlen];simp
   clear hlen;go_enter Tryz.func26,Tryz.ntmps26;go_wp2
   go_loopw [13] (fun s13 wr=>∃ k:Nat,k≤l.length∧s13=.int .i64 k∧Hid (∀ j,j<k→In.eqB (l.getD j In.zero) (m.getD j In.zero)=true)∧Below w.heap.size w wr) (fun s13 _=>l.length-(intOf s13).toNat)
   case atStart =>
    exact⟨0,Y1,rfl,fun j h=>Y1,Yb⟩
   case round =>
    obtain⟨k,hk,rfl,hup,hB⟩:=hrel;by_cases hlt:k<l.length
    · obtain⟨c0,c1,c2,c3,c4⟩:=(hI.keep hB) k hlt
      obtain⟨d0,d1,d2,d3,d4⟩:=(hI2.keep hB) k Y1;have ex:l.getD k In.zero=l[k]:=Yf6;have ey:m.getD k In.zero=m[k]'Y1:=by rw[List.getD_eq_getElem?_getD,List.getElem?_eq_getElem Y1];rfl
      generalize l[k]=x at *;generalize m[k]'Y1=y at *;have EX:=Lib.hid ex;have EY:=Lib.hid ey;clear ex ey;have hnq:=Qv3 x y;cases hq:In.eqB x y
      · simp only[hq,Bool.not_false] at hnq
        have EW:=Lib.hid (show Co.sameL l m=false by rw[Bool.eq_false_iff];intro h;unfold Co.sameL at h;simp only[Bool.and_eq_true,List.all_eq_true,List.mem_range] at h;have:=h.2 k hlt;rw[EX.out,EY.out,hq] at this;cases this);go_wp2_with fail;refine Q2 (EqC x y b g k w) [] [] (fun _ c=>.pointer (some ⟨c.1,0,none⟩)) rfl Yc ?_ (fun d d' ν w'=>Qei d d' ν w') (fun d ν w' w1=>Qej d ν w' w1) (fun i hi=>Yf0) ?_
        · exact Ymg
        apply Exists.intro;refine⟨fun ν=>?_,?_,?_⟩
        · exact Yt3
        · intro i hi;cases hi
        · intro ν w9 d hd hC
          obtain⟨k0,k1,k2,k3,k4,k5,k6,k7,k8,k9,k10,k11⟩:=hC
          skip
          clear hd;have z0:=Q1 k0;have z5:=Q1 k5;go_wp2;go_ret;exact⟨Yf5,Yb⟩
      · simp only[hq,Bool.not_true] at hnq
        go_wp2_with fail;refine Q2 (EqC x y b g k w) [] [] (fun _ c=>.pointer (some ⟨c.1,0,none⟩)) rfl Yc ?_ (fun d d' ν w'=>Qei d d' ν w') (fun d ν w' w1=>Qej d ν w' w1) (fun i hi=>Yf0) ?_
        · exact Ymg
        apply Exists.intro;refine⟨fun ν=>?_,?_,?_⟩
        · exact Yt3
        · intro i hi;cases hi
        · intro ν w9 d hd hC
          obtain⟨k0,k1,k2,k3,k4,k5,k6,k7,k8,k9,k10,k11⟩:=hC
          skip
          clear hd;have z0:=Q1 k0;have z5:=Q1 k5;go_wp2
          go_roundw
          case rel=>exact⟨k+1,Y1,Yf1,fun j hj=>if e:j=k then (by subst e;rw[EX.out,EY.out];exact hq) else hup.out j Y1,Yb⟩
          case measure=>simp[intOf];omega
    · obtain rfl:k=l.length:=by omega
      have EW:=Lib.hid (show Co.sameL l m=true by unfold Co.sameL;rw[HN.out];simp only[decide_true,Bool.true_and,List.all_eq_true,List.mem_range];intro j hj;exact hup.out j (by rw[HN.out];exact hj));go_wp2;go_ret;exact⟨Yf5,hB⟩
 · have EW:=Lib.hid (show Co.sameL l m=false by unfold Co.sameL;simp[hlen])
   have hb1:((l.length:Int) != m.length)=true:=Y4;clear hlen;go_enter Tryz.func26,Tryz.ntmps26;go_wp2;go_ret;exact⟨Yf5,Yb⟩
end Hk
