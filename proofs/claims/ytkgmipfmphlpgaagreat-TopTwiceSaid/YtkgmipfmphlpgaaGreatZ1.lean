/- Texts of tactics that stand in many proofs, each once: a lemma that asks for what the text shows. No condition but those in each statement. -/
import Derived.Test.YtkgmipfmphlpgaaGreatZ0
namespace Hk
open Go Go.RowKit
variable {P Q : Prop}
theorem Ymn (h:P:=by go_enter Tryz.func182,Tryz.ntmps182;go_wp2_with ((with_reducible apply ic);first|(refine Ybt ?_;intro w1 hb1 hc1 hf1 hz1)|(go_at_call 202;(with_reducible refine (Qxv _ _ _).mono ?_);refine Y32 ?_));exact Ytx):P:=h
theorem Yc9 (q:Q)(h:HO Q→P:=by intro hQ;first|exact Y3c hQ.o|(go_at_call 150;(with_reducible refine (Qdg _ _ _ _ _ _ _ _ _ _ _ _).mono ?_);exact Y2c hQ.o)):P:=h ⟨q⟩
theorem Ycb (q:Q)(h:HO Q→P:=by intro hQ;first|exact Y3t hQ.o|(go_at_call 90;(with_reducible refine (Qo9 _).mono ?_);exact Y2c hQ.o)):P:=h ⟨q⟩
theorem Ycd (q:Q)(h:HO Q→P:=by intro hQ;first|(go_at_call 100;(with_reducible refine (Q2j _ _ _ _ _).mono ?_);exact Y4b hQ.o)|(go_at_call 97;(with_reducible refine (Qaq _ _ _ _ _).mono ?_);exact Y4b hQ.o)):P:=h ⟨q⟩
theorem Ylf (h:P:=by have EE:=Lib.hid (show (Co.storeR X (Co.dV X) (Co.sV X)).1=Co.putW X p v∧(Co.storeR X (Co.dV X) (Co.sV X)).2=Co.putE X p v from Ygw);go_wp2_with ((with_reducible apply ic);first|(go_at_call 126;(with_reducible refine (Qhu _ _ _ _ _ (hX9.keep Y14) hlen hlt hvo).mono ?_);refine Y43 ?_;intro w6 v6 hown6 hb6 hc6 hf6 hz6 hk6)|(refine Y6n ?_;intro w2 hb2 hc2 hf2 hz2 hk2)|(refine Y6o ?_;intro w3 hb3 hc3 hf3 hz3 hk3)|(refine Y6p ?_;intro w4 hb4 hc4 hf4 hz4 hk4)|(refine Y6q ?_;intro w5 hb5 hc5 hf5 hz5 hk5));exact Yu4):P:=h
theorem Yjs (h:P:=by
 · obtain⟨eI,heI⟩:∃ y,Co.insideE X.ds X.ctx p (I16 X.x.off) X.w.size=y:=⟨_,rfl⟩
   have hIH:=Lib.hid heI;cases hE:(eI==0)
   · exact Ytc
   · have hne:(eI != 0)=false:=by simp only[bne,hE];rfl
     have hi0:Co.stIn X p v=0:=Ygz;have EE:=Lib.hid (show (Co.storeR X (Co.dV X) (Co.sV X)).1=[Co.onW X X.s]∧(Co.storeR X (Co.dV X) (Co.sV X)).2=0 from Yh0);clear heI;go_wp2_with ((with_reducible apply ic);first|(go_at_call 110;(with_reducible refine (Q126 _ _ _ _ (hX9.keep Y14) hlen hlt).mono ?_);refine Y43 ?_;intro w7 v7 hown7 hb7 hc7 hf7 hz7 hk7)|(refine Y6n ?_;intro w2 hb2 hc2 hf2 hz2 hk2)|(refine Y6o ?_;intro w3 hb3 hc3 hf3 hz3 hk3)|(refine Y6p ?_;intro w4 hb4 hc4 hf4 hz4 hk4)|(refine Y6s ?_;intro w5 hb5 hc5 hf5 hz5 hk5));go_ret2;rw[EE.out.1,EE.out.2];refine⟨v7,rfl,?_,?_⟩
     · exact Q1a hown7 Y15
     · exact Y14):P:=h
theorem Yce (q:Q)(h:HO Q→P:=by intro hQ;first|exact Y34 hQ.o|exact Y3b hQ.o|(go_at_call 140;(with_reducible refine (Q4l _ _ _ _ _).mono ?_);exact Y2c hQ.o)|(go_at_call 203;(with_reducible refine (Qb3 _ _ _ _).mono ?_);exact Y2c hQ.o)):P:=h ⟨q⟩
theorem Y80 (q:Q)(h:HO Q→P:=by intro hQ;go_at_call 30;(with_reducible refine (Qrb w0 M l ds ctx _ _ _ _ _ k fm _ _ (hK9.keep Y14) hg hfl hST).mono ?_);(rintro e a0 ⟨rfl,a1,a2,a3,a4,a5⟩;revert a5;revert a4;revert a3;revert a2;revert a1;revert a0;exact hQ.o)):P:=h ⟨q⟩
theorem Y8z (q:Q)(h:HO Q→P:=by intro hQ;go_at_call 31;(with_reducible refine (Q5k _ _ _ _ _ (hI.keep Yb) hL hlt).mono ?_);(rintro e a0 ⟨rfl,a1⟩;have a2:=a1.size;(try simp only[World.size_alloc,World.size_setCell,World.size_drew] at a2);revert a2;revert a1;revert a0;exact hQ.o)):P:=h ⟨q⟩
theorem Y99 (q:Q)(h:HO Q→P:=by intro hQ;go_at_call 173;(with_reducible refine (Qy1 _ _ _).mono ?_);(rintro e w1 ⟨rfl,rfl⟩;have a0:=Below.refl w1.heap.size w1;revert a0;exact hQ.o)):P:=h ⟨q⟩
theorem Y9e (q:Q)(h:HO Q→P:=by intro hQ;go_at_call 144;(with_reducible refine (Q153 _ _).mono ?_);(rintro e w1 ⟨a0,rfl,rfl⟩;revert a0;exact hQ.o)):P:=h ⟨q⟩
theorem Y9l (q:Q)(h:HO Q→P:=by intro hQ;go_at_call 101;(with_reducible refine (Qws _ _ w.heap.size _ _ _ Y15 hgB2 hown2).mono ?_);(rintro e a0 ⟨rfl,a1,a2⟩;rw[hsr.out] at a1;have a3:=a2.size;revert a3;revert a2;revert a1;revert a0;exact hQ.o)):P:=h ⟨q⟩
theorem Y9v (q:Q)(h:HO Q→P:=by intro hQ;go_at_call 77;(with_reducible refine (Q9k _ _ _ _ _ (hI.keep Yb) hL hg.out hkl).mono ?_);rw[HS.out];(rintro e a0 ⟨rfl,a1⟩;have a2:=a1.size;(try simp only[World.size_alloc] at a2);revert a2;revert a1;revert a0;exact hQ.o)):P:=h ⟨q⟩
theorem Y9x (q:Q)(h:HO Q→P:=by intro hQ;go_at_call 80;(with_reducible refine (Qdl _ _ _ _ _ (hI.keep hbs) hg.out hs.out).mono ?_);rw[HNS.out];(rintro e a0 ⟨a1,rfl,a2,a3⟩;(try simp only[World.size_setCell] at a2);revert a3;revert a2;revert a1;revert a0;exact hQ.o)):P:=h ⟨q⟩
theorem Ynd (h:P:=by rw[EV.out];clear EW;have HS:=Lib.hid hs;clear hs;go_enter Tryz.func83,Tryz.ntmps83;go_wp2_with ((with_reducible apply ic);first|(go_at_call 106;(with_reducible refine (Qk1 _ _ _ _ _ (hI.keep Yb) hL hG.out hk).mono ?_);rw[HS.out];refine Y2t ?_;intro w1 hb1 hc1 hf1 hz1)|(go_at_call 105;(with_reducible refine (Q9e _ _).mono ?_);refine Y8i ?_;intro w2 hb2 hz2));go_ret;exact⟨rfl,Yb⟩):P:=h
theorem Yaf (q:Q)(h:HO Q→P:=by intro hQ;go_at_call 43;(with_reducible refine (Qze _ _ _ _ (hI.keep Yb) hG.out).mono ?_);(rintro e a0 ⟨a1,rfl,a2,a3,a4,a5⟩;revert a5;revert a4;revert a3;revert a2;revert a1;revert a0;exact hQ.o)):P:=h ⟨q⟩
theorem Ynx (h:P:=by have EV:=Lib.hid (show (Co.target l k:Int)=0 from (by unfold Co.target;rw[ET.out];rfl));exact Yu2):P:=h
theorem Yu2 (h:P:=by go_enter Tryz.func27,Tryz.ntmps27;go_wp2_with (go_at_call 19;refine Y2q ?_;intro w1 hb1);go_ret2;exact⟨(by rw[ET.out,EV.out];rfl),Yb⟩):P:=h
theorem Ynl (h:P:=by
 go_enter Tryz.func18,Tryz.ntmps18;go_wp2_with ((with_reducible apply ic);first|(refine Y2p ?_;intro w1 hb1 hc1 hf1 hz1)|(refine Y2n ?_;intro w2 hb2 hc2 hf2 hz2))
 all_goals go_ret
 all_goals exact⟨(by rw[EW.out];simp[In.eqB,In.zero,Qb,go_sem, *];done),Yb⟩):P:=h
theorem Ykw (h:P:=by have EB:=Lib.hid (show Co.movedV (X.w.op==16#8) a b=Vl.zero∧Co.movedE (X.w.op==16#8) a b=140 from (by unfold Co.movedV Co.movedE Co.movedB2 Co.movN;rw[hk];simp[*]));rw[EB.out.1,EB.out.2];have HK:=Lib.hid (show Fa.known ⟨⟨b.f.t.v,b.f.t.m⟩,⟨b.f.s.lo,b.f.s.hi⟩⟩=_ from hk);clear hk;go_enter Tryz.func115,Tryz.ntmps115;go_wp2_with ((with_reducible apply ic);first|(refine Y3w ?_;intro w1 hb1 hc1 hf1 hz1)|(refine Y3v ?_;intro w2 hb2 hc2 hf2 hz2));exact Ytl):P:=h
theorem Ylx (h:P:=by
 have HP:=Lib.hid (show (Co.start l k && Co.targetB l k)=false by rw[hst,ht];rfl);have HT:=Lib.hid ht;rw[hst] at hck;clear hst ht
 skip
 go_wp2_with (go_at_call 27;refine Y47 ?_;intro w1 hb1 hc1 hf1 hz1)
 go_roundw
 case rel=>exact⟨k+1,Y1,Yf1,Lib.hid ⟨fun j hj=>(by rw[Co.jointK_skip HP.out];exact (hJ.out.keep Y1 hb1).1 j hj),(hJ.out.keep Y1 hb1).2⟩,Lib.hid (hS.out.keep Y1 hb1),by have:=hb1.size;omega,Yb⟩
 case measure=>simp[intOf];omega):P:=h
theorem Ynj (h:P:=by
 (first|(have hC2:=hC;obtain⟨-,-,-,kI,-⟩:=hC2;go_at_call 31;(with_reducible refine (Q5k _ _ _ _ _ kI hlen hlt).mono ?_);rw[HX.out];rintro e w1 ⟨rfl,hb1⟩))
 (try simp only[id])
 exact⟨rfl,(by first|exact hC|exact Qnf _ _ hC hb1)⟩):P:=h
theorem Ynw (h:P:=by have E:s.full o n=false:=(by unfold St.full St.fullArg;simp[*]);rw[E];clear E;go_enter Tryz.func188,Tryz.ntmps188;exact Yu5):P:=h
theorem Yni (h:P:=by go_wp2_with ((with_reducible apply ic);first|(refine Y3u ?_;intro w2 hb2 hc2 hf2 hz2)|(refine Y4r ?_;intro w4 hb4 hc4 hf4 hz4)|(refine Y68 ?_;intro w5 hb5 hc5 hf5 hz5));go_meet;exact⟨rfl,⟨(by simp[Co.arUn, *]),(by simp[Co.arMv, *]),(by simp[Co.arPt, *])⟩,Y14⟩):P:=h
theorem Ytc (h:P:=by
 have hne:(eI != 0)=true:=by simp only[bne,hE];rfl
 have hi0:Co.stIn X p v=eI:=(by unfold Co.stIn;rw[heI,hE];rfl);have EE:=Lib.hid (show (Co.storeR X (Co.dV X) (Co.sV X)).1=[]∧(Co.storeR X (Co.dV X) (Co.sV X)).2=eI from (by unfold Co.storeR;rw[eD.out,eS.out];simp[hi0,hE,hp0,hv0,hpp,hk8,h2,h5,hv1]));clear heI;go_wp2_with ((with_reducible apply ic);first|(refine Y6n ?_;intro w2 hb2 hc2 hf2 hz2 hk2)|(refine Y6o ?_;intro w3 hb3 hc3 hf3 hz3 hk3)|(refine Y6p ?_;intro w4 hb4 hc4 hf4 hz4 hk4)|(refine Y6s ?_;intro w5 hb5 hc5 hf5 hz5 hk5));go_ret2;rw[EE.out.1,EE.out.2]
 exact⟨_,rfl,Qy,Y14⟩):P:=h
theorem Yjk (h:P:=by
 obtain⟨eg,heg⟩:∃ y,X.s.getE (p.off+I16 X.x.off) X.w.size=y:=⟨_,rfl⟩;obtain⟨y,hyv⟩:∃ y,X.s.get (p.off+I16 X.x.off) X.w.size=y:=⟨_,rfl⟩;have hge:=Lib.hid (And.intro hyv heg);go_wp2_with ((with_reducible apply ic);first|(refine Y6n ?_;intro w2 hb2 hc2 hf2 hz2 hk2)|(refine Y6o ?_;intro w3 hb3 hc3 hf3 hz3 hk3)|(refine Y6p ?_;intro w4 hb4 hc4 hf4 hz4 hk4));have hX2:Q1e w4 g X:=hX9.keep Y14;have zg2:=hX2.lt;refine Q2 (Q11o g pb vb bw X p v y w4) [14,15] [14] (fun _ c=>.pointer (some ⟨c.1,0,none⟩)) rfl Yc ?_ (fun d d' ν w'=>Qmq d d' ν w') (fun d ν w' w1=>Qa6 d ν w' w1) (fun i hi d ν c w'=>Qte i hi d ν c w') ?_
 · intro d ν hd;refine⟨?_,?_,?_,?_,?_,?_,?_,?_,?_,?_,?_,?_,?_,?_,?_,?_,?_,?_,?_,?_,?_,?_,?_,?_,?_,?_,?_,Yb⟩<;>first|(with_reducible exact hX2.keep Y1g)|(simp (maxDischargeDepth:=12) [*,hd,upd,Qo,go_sem,↓IntWalk.iteOmega];done)|(intro i;simp (maxDischargeDepth:=12) [*,upd,Qo,go_sem,↓IntWalk.iteOmega];done)|(intro h;rw[hd _ Y0] at h;cases h)|go_size|(simp;omega)
 apply Exists.intro;refine⟨fun ν=>?_,?_,?_⟩
 · (try simp only[List.append])
   iterate 14 refine Ydr ?_
   (refine Yds ?_);(refine Ydt ?_)
   iterate 1 refine Ydr ?_
   exact rfl
 · intro i hi
   exact Yu0
 · intro ν w8 d hd hC
   obtain⟨k0,k1,k2,k3,k4,k5,k6,k7,k8,k9,k10,k11,k12,k13,k14,k15,k16,k17,k18,k19,k20,k21,k22,k23,k24,k25,k26,k27⟩:=hC;have q14:=hd 14 Y0;have q15:=hd 15 Y0;simp only[q14,q15,cond_true,cond_false,forall_const,true_implies] at k0 k1 k2 k3 k4 k5 k6 k7 k8 k9 k10 k11 k12 k13 k14 k15 k16 k17 k18 k19 k20 k21 k22 k23 k24 k25 k26 k27;clear q14 q15;clear hd;refine Yvn ?_;intro z0 z1;have z8:=Q1 k8;have z16:=Q1 k16;generalize (ν 14).1=yb at *;have hX8:Q1e w8 g X:=hX9.keep Y14;have zg8:=hX8.lt;cases hE:(eg==0)
   · have hne:(eg != 0)=true:=by simp only[bne,hE];rfl
     have hi0:Co.stOld X p=eg:=by unfold Co.stOld Co.putO;rw[heg,hE];rfl
     have EE:=Lib.hid (show (Co.storeR X (Co.dV X) (Co.sV X)).1=[]∧(Co.storeR X (Co.dV X) (Co.sV X)).2=eg from (by unfold Co.storeR;rw[eD.out,eS.out];simp[hi0,hE,hp0,hv0,hpp,hk8,h2,h5,hv1,hs8]));clear heg hyv;go_wp2_with (go_at_call 116;refine Y6p ?_;intro w5 hb5 hc5 hf5 hz5 hk5);go_ret2;rw[EE.out.1,EE.out.2];exact⟨_,rfl,Qy,Y14⟩
   · have hne:(eg != 0)=false:=by simp only[bne,hE];rfl
     cases hy1:(y.k==1)
     · have hi0:Co.stOld X p=140:=by unfold Co.stOld Co.putO;rw[heg,hE,hyv,hy1];rfl
       have EE:=Lib.hid (show (Co.storeR X (Co.dV X) (Co.sV X)).1=[]∧(Co.storeR X (Co.dV X) (Co.sV X)).2=140 from Yh2);clear heg hyv;go_wp2_with (go_at_call 116;refine Y6p ?_;intro w5 hb5 hc5 hf5 hz5 hk5);go_ret2;rw[EE.out.1,EE.out.2];exact⟨_,rfl,Qy,Y14⟩
     · have hi0:Co.stOld X p=0:=by unfold Co.stOld Co.putO;rw[heg,hE,hyv,hy1];rfl
       have EE:=Lib.hid (show (Co.storeR X (Co.dV X) (Co.sV X)).1=Co.putW X p (Vl.num Fa.any)∧(Co.storeR X (Co.dV X) (Co.sV X)).2=Co.putE X p (Vl.num Fa.any) from Yh2);clear heg hyv;go_wp2_with ((with_reducible apply ic);first|(refine Y6p ?_;intro w5 hb5 hc5 hf5 hz5 hk5)|(refine Y3n ?_;intro w7 hb7 hc7 hf7 hz7)|(refine Y3m ?_;intro w8 hb8 hc8 hf8 hz8)|(go_at_call 126;(with_reducible refine (Qhu _ _ _ _ _ (hX.keep Y14) hlen hlt hvo).mono ?_);refine Y43 ?_;intro w6 v6 hown6 hb6 hc6 hf6 hz6 hk6));go_ret2;rw[EE.out.1,EE.out.2];refine⟨v6,rfl,?_,?_⟩
       · exact Q1a hown6 Y15
       · exact Y14):P:=h
theorem Yqv (h:P:=by go_wp2_with (go_at_call 116;refine Y6p ?_;intro w5 hb5 hc5 hf5 hz5 hk5);(go_meet;exact⟨(by have hk:=hkb.out;simp[Co.asksB,hk, *]),Y14⟩)):P:=h
theorem Yjt (h:P:=by
 go_wp2_with ((with_reducible apply ic);first|(refine Y6p ?_;intro w5 hb5 hc5 hf5 hz5 hk5)|(refine Y76 ?_;intro w6 hb6 hc6 hf6 hz6 hk6)|(refine Y77 ?_));have EE:=Lib.hid (show (Co.branchW X (Co.dV X) (Co.sV X))=Co.waysW X X.s true (Co.withS X (r.getD (Fa.zero,Fa.zero)).1 (r.getD (Fa.zero,Fa.zero)).2) r.isSome∧(Co.branchE X (Co.dV X) (Co.sV X))=0 from (by unfold Co.branchW Co.branchE;rw[eD.out,eS.out];simp[ha0,hb0,hma,ha1,hb1,Co.nextS,Co.goesB,Co.ifP,Co.ifB,hr.out,hkb.out,hka.out,Co.notOk,hno]));refine Q4 (Q16a g (w6.heap.size+1+1) w6.heap.size (w6.heap.size+1) X X.s (r.getD (Fa.zero,Fa.zero)).1 (r.getD (Fa.zero,Fa.zero)).2 w) 8 Yc Yc ?_ ?_
 · refine⟨?_,?_,?_,?_,?_,?_,?_,?_,?_,?_,Y14⟩
   all_goals first|assumption|(with_reducible exact hX.keep Y14)|(simp (maxDischargeDepth:=12) [*,go_sem,↓IntWalk.iteOmega];done)|(intro i;simp (maxDischargeDepth:=12) [*,go_sem,↓IntWalk.iteOmega];done)
 intro hN
 exact Ytd):P:=h
theorem Ykc (h:P:=by
 have hcell:∀ j,j<8→wr.cell? ⟨b,o+8*k+j,none⟩=some (.int .u8 (N8 ((fun j=>f (8*k+j)) j))):=fun j hj=>by have:=Q0 hB (HC.out (8*k+j) Y1);rwa [← Nat.add_assoc] at this
 have hcp:8≤c - 8*k:=Y1;go_wp2_with (first|(go_at_call 9;refine Y2w ?_;intro wt hbt hct hft hzt)|(at_builtin;(refine wpList_append_own _ rfl (.tmp 35) (.tmp 37) _ rfl w.heap.size 41 i0 _ 5 12 Tryz.underlying29 hi0 hj0 hj1 hj2 rfl Y1 _ k (Q2a (Co.decL f k)) rfl (Qd hown Yb) ⟨wt.heap.size+1,0,none⟩ 1 1 (Co.takeOf fun j=>f (8*k+j)).cells.toList rfl (by simp[In.cells]) (fun j u hu=>by rw[Q7k];match j,hu with|0,hu=>(simp[In.cells] at hu;subst hu;simp[go_sem])|1,hu=>(simp[In.cells] at hu;subst hu;simp[go_sem])|2,hu=>(simp[In.cells] at hu;subst hu;simp[go_sem])|3,hu=>(simp[In.cells] at hu;subst hu;simp[go_sem])|4,hu=>(simp[In.cells] at hu;subst hu;simp[go_sem])|j+5,hu=>simp[In.cells] at hu) Yo Yk Y1 Yl ?_;intro v1 w1 hown1 hg1 hat1)))
 refine⟨⟨k+1,Y1,(by rw[show (8*(k:Int)+8)=((8*(k+1):Nat):Int) from Y1]),by rw[Co.decL_succ,Qk7];exact hown1,Below.grown Yb hg1 Yn (fun j e=>(hown.lt j e).1)⟩,Yfd⟩):P:=h
theorem Yla (h:P:=by go_enter Tryz.func125,Tryz.ntmps125;exact (by go_wp2_with (first|((with_reducible apply ic);refine Ycc ?_;intro w1 hb1 hc1 hf1 hz1 hk1)|(first|(refine Y4m ?_;intro w1 hb1 hc1 hf1 hz1 hk1)|(refine Y4n ?_;intro w1 hb1 hc1 hf1 hz1 hk1)|(refine Y4o ?_;intro w1 hb1 hc1 hf1 hz1 hk1)|(refine Y4p ?_;intro w1 hb1 hc1 hf1 hz1 hk1))|(go_at_call 157;refine Y4q ?_)|((with_reducible apply ic);refine Ycd ?_;intro w1 hb1 hc1 hf1 hz1 hk1));refine bodyPost_ret ?_ rfl ⟨rfl,Y14⟩;simp only[results,Tryz.results125];simp[*,go_sem,↓IntWalk.iteOmega,Vl.zero,Fa.zero];try (first|rfl|exact⟨rfl,rfl⟩))):P:=h
theorem Yn2 (h:P:=by go_enter Tryz.func184,Tryz.ntmps184;exact (by go_wp2_with ((with_reducible apply ic);refine Yce ?_;intro w1 hb1 hc1 hf1 hz1);refine bodyPost_ret ?_ rfl ⟨rfl,Yb⟩;simp only[results,Tryz.results184];exact Ywe)):P:=h
theorem Yo4 (h:P:=by simp only[Cond.val_some,Cond.err_some,Cond.val_none,Cond.err_none];exact (by go_enter Tryz.func131,Tryz.ntmps131;go_wp2_with (refine Ycg ?_);go_ret2;exact⟨rfl,rfl⟩)):P:=h
theorem Ycg (q:Q)(h:HO Q→P:=by intro hQ;first|(go_at_call 160;(with_reducible refine (Q1ad _ _ _).mono ?_);exact Y32 hQ.o)|(go_at_call 161;(with_reducible refine (Q1ae _ _ _).mono ?_);exact Y32 hQ.o)|(go_at_call 162;(with_reducible refine (Q1ac _ _ (by first|exact Cond.ordU_3 _ _|exact Cond.ordI_3 _ _) _).mono ?_);exact Y32 hQ.o)|(go_at_call 122;(with_reducible refine (Qin _ _ _).mono ?_);exact Y32 hQ.o)):P:=h ⟨q⟩
theorem Yuu (q:Q)(h:HO Q→P:=by
 intro hQ;have a0:W.cell? ⟨w.heap.size+1,70,none⟩=some (.int .u8 v10.k):=(by rw[Q1b,hsb,← hv10];exact (by unfold St.cells;rw[Qj,if_pos Y1];exact congrArg some (s.cell_reg (i:=10) (j:=0) Y1 Y1)));have a1:W.cell? ⟨w.heap.size+1,71,none⟩=some (.int .u64 (N v10.f.t.v)):=(by rw[Q1b,hsb,← hv10];exact (by unfold St.cells;rw[Qj,if_pos Y1];exact congrArg some (s.cell_reg (i:=10) (j:=1) Y1 Y1)));have a2:W.cell? ⟨w.heap.size+1,72,none⟩=some (.int .u64 (N v10.f.t.m)):=(by rw[Q1b,hsb,← hv10];exact (by unfold St.cells;rw[Qj,if_pos Y1];exact congrArg some (s.cell_reg (i:=10) (j:=2) Y1 Y1)))
 have a3:W.cell? ⟨w.heap.size+1,73,none⟩=some (.int .u64 (N v10.f.s.lo)):=(by rw[Q1b,hsb,← hv10];exact (by unfold St.cells;rw[Qj,if_pos Y1];exact congrArg some (s.cell_reg (i:=10) (j:=3) Y1 Y1)));have a4:W.cell? ⟨w.heap.size+1,74,none⟩=some (.int .u64 (N v10.f.s.hi)):=(by rw[Q1b,hsb,← hv10];exact (by unfold St.cells;rw[Qj,if_pos Y1];exact congrArg some (s.cell_reg (i:=10) (j:=4) Y1 Y1)));have a5:W.cell? ⟨w.heap.size+1,75,none⟩=some (.int .i64 v10.i):=(by rw[Q1b,hsb,← hv10];exact (by unfold St.cells;rw[Qj,if_pos Y1];exact congrArg some (s.cell_reg (i:=10) (j:=5) Y1 Y1)))
 have a6:W.cell? ⟨w.heap.size+1,76,none⟩=some (.int .i64 v10.off):=(by rw[Q1b,hsb,← hv10];exact (by unfold St.cells;rw[Qj,if_pos Y1];exact congrArg some (s.cell_reg (i:=10) (j:=6) Y1 Y1)));revert a6;revert a5;revert a4;revert a3;revert a2;revert a1;revert a0
 exact hQ.o):P:=h ⟨q⟩
end Hk
