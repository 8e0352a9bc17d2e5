/- A part of TopTwice; no condition. -/
import Derived.Test.YtkgmipfmphlpgaaGreatK43
open Go Go.RowKit Go.Proofs
set_option linter.all false
set_option maxRecDepth 100000
set_option maxHeartbeats 20000000
namespace Hk
theorem Qr7 (y:BitVec 8)(g:Nat)(w:World)(hc:w.cell? ⟨g,0,none⟩=some (.int .u8 (N8 y))):Calls Tryz.prog 145 #[.slice (some ⟨g,0,none⟩) 1 1] w fun e w'=>e=.returned (.int .u16 (N16 (Co.bitR y)))∧w'=w:=by
 have EB:Co.bitR y=1#16 <<< y.toNat:=rfl;go_enter Tryz.func145,Tryz.ntmps145;go_wp2
 go_loop [3,8] (fun s3 s8=>(s3=.int .u16 0∧s8=.int .i64 0)∨(s3=.int .u16 (N16 (Co.bitR y))∧s8=.int .i64 1)) (fun _ s8=>1-(intOf s8).toNat)
 case atStart=>exact .inl ⟨rfl,rfl⟩
 case round =>
  rcases hrel with ⟨rfl,rfl⟩|⟨rfl,rfl⟩
  · go_wp2
    go_round
    case rel=>exact .inr ⟨by rw[EB],rfl⟩
    case measure=>simp[intOf]
  · go_wp2
    go_ret;exact⟨rfl,rfl⟩
theorem Q9e (x:In)(w:World):Calls Tryz.prog 105 #[x] w (RB.a w (.int .u16 (N16 (Co.writesB x)))):=by
 cases k1:((Co.what x).kind==1)
 case' false=>cases k2:((Co.what x).kind==2)
 case' false.false=>cases k3:((Co.what x).kind==3)
 case' false.false.false=>cases k4:((Co.what x).kind==4)
 case' false.false.false.false=>cases k5:((Co.what x).kind==5)
 case' false.false.false.false.false=>cases k11:((Co.what x).kind==11)
 all_goals
  go_enter Tryz.func105,Tryz.ntmps105;go_wp2_with ((with_reducible apply ic);first|(refine Y2p ?_;intro w1 hb1 hc1 hf1 hz1)|(go_at_call 145;(with_reducible refine (Qr7 x.dst _ _ Y26).mono ?_);refine Y32 ?_));go_ret;exact⟨by simp[Co.writesB,Co.putsB, *,Qeb];try rfl,Yb⟩
theorem Qr5 (x:In)(w:World):Calls Tryz.prog 104 #[x] w (RB.a w (.int .u16 (N16 (Co.readsB x)))):=by
 have hw64:RowKit.wrap64 (I32 x.imm)=I32 x.imm:=by have:=Q7n x.imm;exact IntWalk.wrap64_in _ Y1
 have hcr:Co.callR x=(1#16 <<< (1+(Co.sigOf (I32 x.imm)).told.length))-2#16:=rfl;have htl:(Co.sigOf (I32 x.imm)).told.length≤4:=by unfold Co.sigOf;(repeat' split)<;>simp[Sg.none]
 have nr:(Co.what x).reg=(Co.what x).reg:=rfl;cases r:(Co.what x).reg
 case' false=>cases k1:((Co.what x).kind==1)
 case' false.false=>cases k2:((Co.what x).kind==2)
 case' false.false.false=>cases k6:((Co.what x).kind==6)
 case' false.false.false.false=>cases k7:((Co.what x).kind==7)
 case' false.false.false.false.false=>cases k8:((Co.what x).kind==8)
 case' false.false.false.false.false.false=>cases k10:((Co.what x).kind==10)
 case' false.false.false.false.false.false.false=>cases k5:((Co.what x).kind==5)
 case' false.false.false.false.false.false.false.false=>cases k12:((Co.what x).kind==12)
 case' false.false.false.false.false.false.false.false.false=>cases k11:((Co.what x).kind==11)
 case' false.true=>cases op:((Co.what x).op==176#8)
 case' true=>cases k1:((Co.what x).kind==1)
 case' true.false=>cases k2:((Co.what x).kind==2)
 case' true.false.false=>cases k6:((Co.what x).kind==6)
 case' true.false.false.false=>cases k7:((Co.what x).kind==7)
 case' true.false.false.false.false=>cases k8:((Co.what x).kind==8)
 case' true.false.false.false.false.false=>cases k10:((Co.what x).kind==10)
 case' true.false.false.false.false.false.false=>cases k5:((Co.what x).kind==5)
 case' true.false.false.false.false.false.false.false=>cases k12:((Co.what x).kind==12)
 case' true.false.false.false.false.false.false.false.false=>cases k11:((Co.what x).kind==11)
 case' true.true=>cases op:((Co.what x).op==176#8)
 all_goals
  clear nr;go_enter Tryz.func104,Tryz.ntmps104;go_wp2_with (first|(go_at_call 20;refine Y2p ?_;intro w1 hb1 hc1 hf1 hz1)|(refine Ycl ?_)|(go_at_call 132;(with_reducible refine (Qk9 _ _).mono ?_);rintro e w2 ⟨v2,rfl,hown2,hb2⟩;obtain⟨p2,c2,rfl⟩:=Q15 hown2;obtain⟨hc2,hf2,hz2⟩:=Q17 hb2;(try simp only[World.size_alloc,World.size_setCell,World.size_drew] at hc2 hf2 hz2)));go_ret;exact⟨by simp[Co.readsB, *,Qeb];try rfl,Yb⟩
theorem Q13i (n:Nat)(hn:n≤1000000):∀ w:World,(Instr.makeSlice 156 (.int .i64 (n:Int)) (.int .i64 (n:Int))).run Tryz.prog w=.ok (.slice (some ⟨w.heap.size,0,none⟩) n n) (w.alloc (.cells (madeCells #[.int .u16 0] n) 159)):=fun w=>by
 have:=Qfy (P:=Tryz.prog) (t:=156) (e:=159) (sz:=1) (by_:=2) (zc:=#[.int .u16 0]) Yc Yc n hn Y1 w
 rwa [Nat.mul_one] at this
theorem Qxw (n:Nat)(hn:n≤1000000):∀ w:World,(Instr.makeSlice 178 (.int .i64 (n:Int)) (.int .i64 (n:Int))).run Tryz.prog w=.ok (.slice (some ⟨w.heap.size,0,none⟩) n n) (w.alloc (.cells (madeCells #[.slice none 0 0] n) 125)):=fun w=>by
 have:=Qfy (P:=Tryz.prog) (t:=178) (e:=125) (sz:=1) (by_:=24) (zc:=#[.slice none 0 0]) Yc Yc n hn Y1 w
 rwa [Nat.mul_one] at this
theorem Q93 (ρ:Operand→Value)(op:Oper)(x:Operand)(b o:Nat)(c0:Value)(ho:op.op=.load 159 x)(hx:ρ x=.pointer (some ⟨b,o,none⟩))(w:World)(h0:w.cell? ⟨b,o,none⟩=some c0) :
 (execOp ρ op).run Tryz.prog w=.ok (.value (c0)) w:=by
 obtain⟨dst,op,type,pos,after,guard⟩:=op;simp only at ho;subst ho
 go_simp
theorem Q76 {op:Oper}{a:Act}{C:World→Prop}{K:Act→Prop}{x:Operand}{b o:Nat}{c0:Value}(ho:op.op=.load 159 x)(hx:a.eval x=.pointer (some ⟨b,o,none⟩))
 (h:∀ w,C w→w.cell? ⟨b,o,none⟩=some c0) (hk:K (a.put op.dst (c0))):op.quiet Tryz.prog a C K :=
 Qt (v:=c0) (fun w hC=>by unfold Oper.quietAt;have h0:=h w hC;rw[Q93 _ op x b o c0 ho hx w h0];exact⟨rfl,rfl⟩) hk
def LbC (x:In)(b gB k:Nat)(bk:BitVec 16)(w:World)(d:Nat→Bool)(ν:Nat→Nat×Nat)(w':World):Prop:=w'.cell? ⟨b,k*5,none⟩=some (.int .u8 (N8 x.op))∧w'.cell? ⟨b,k*5+1,none⟩=some (.int .u8 (N8 x.dst))∧w'.cell? ⟨b,k*5+2,none⟩=some (.int .u8 (N8 x.src))∧w'.cell? ⟨b,k*5+3,none⟩=some (.int .i16 (I16 x.off))∧w'.cell? ⟨b,k*5+4,none⟩=some (.int .i32 (I32 x.imm))∧w'.cell? ⟨gB,k,none⟩=some (.int .u16 (N16 bk))∧0≤w'.heap.size∧Below w.heap.size w w'
theorem Qug {x:In}{b gB k:Nat}{bk:BitVec 16}{w:World}:KT (LbC x b gB k bk w):=by
 intro d ν w' w1 h hb;obtain⟨k0,k1,k2,k3,k4,k5,k6,k7⟩:=h;exact⟨Q0 hb k0,Q0 hb k1,Q0 hb k2,Q0 hb k3,Q0 hb k4,Q0 hb k5,Nat.le_trans k6 hb.size,Q8 k7 hb⟩
theorem Quf {x:In}{b gB k:Nat}{bk:BitVec 16}{w:World}:MT (LbC x b gB k bk w) []:=by
 intro d d' ν w' hd h;unfold LbC at *;simpa only[true_and] using h
theorem Qy4 (b c:Nat)(l:List In)(w:World)(hI:Q14 w b l)(hg:Co.good l=true):Calls Tryz.prog 82 #[.slice (some ⟨b,0,none⟩) l.length c] w fun e w'=>∃ gA gB:Nat,e=.returned (.tuple #[.slice (some ⟨gA,0,none⟩) l.length l.length,.slice (some ⟨gB,0,none⟩) l.length l.length])∧Qg w' gA l.length (fun j=>.int .u16 (N16 ((Co.bothL l).1 j)))∧Qg w' gB l.length (fun j=>.int .u16 (N16 ((Co.bothL l).2 j)))∧gA<w'.heap.size∧gB<w'.heap.size∧Below w.heap.size w w':=by
 refine Yvm ?_;intro hL hbw;have hmu:=Q13i l.length Y1;have hmr:=Qxw l.length Y1;obtain⟨i0,hi0,hj0,hj1,hj2⟩:=info_parts Q83;obtain⟨⟨_,hL2⟩,_,_,_,hck⟩:=Co.good_facts hg;have hG:=Lib.hid hg;clear hg;have HK:=Lib.hid hck;clear hck;go_enter Tryz.func82,Tryz.ntmps82
 go_upto_region 4 with (go_at_call 10;refine Y8j ?_;intro wC hbC hzC)
 go_cut [2,3,25,28] (fun s2 s3 s25 s28 wx=>∃ gA gB:Nat,s2=.slice (some ⟨gA,0,none⟩) l.length l.length∧s3=.slice (some ⟨gB,0,none⟩) l.length l.length∧s25=.slice (some ⟨gA,0,none⟩) l.length l.length∧s28=.slice (some ⟨gB,0,none⟩) l.length l.length∧Hid (Qg wx gA l.length (fun _=>.int .u16 0))∧Hid (Qg wx gB l.length (fun _=>.int .u16 0))∧gA≠gB∧gA<wx.heap.size∧gB<wx.heap.size∧wC.heap.size≤gA∧wC.heap.size≤gB∧Below wC.heap.size wC wx)
 case first =>
  go_region
  · go_wp2
    go_meet
    exact⟨_,_,rfl,rfl,rfl,rfl,Lib.hid Q63.1,Lib.hid Q63.2,Y1,Y15,Y15,Nat.le_refl _,Y1,Yb⟩
  · go_wp2
    go_meet
    exact⟨_,_,rfl,rfl,rfl,rfl,Lib.hid Q63.2,Lib.hid Q63.1,Y1,Y15,Y15,Y1,Nat.le_refl _,Yb⟩
 case rest =>
  obtain⟨gA,gB,rfl,rfl,rfl,rfl,hA,hB,hAB,hzA,hzB,hA0,hB0,hbw⟩:=hcut;have hzc:=hbw.size;have hbw0:Below w.heap.size w wc:=Yb;have hzw:=hbw0.size;have hwA:w.heap.size≤gA:=Y1;have hwB:w.heap.size≤gB:=Y1;go_wp2_with (go_at_call 17;refine Y8l ?_;intro ws gS hBs hgS hzs hbs);refine Q1g (fun W=>Hid (Qg W gA l.length (fun _=>.int .u16 0))∧Hid (Qg W gB l.length (fun _=>.int .u16 0))∧Hid (Qg W wc.heap.size l.length (fun _=>.slice none 0 0))∧Hid (Qi W gS l.length (Co.start l))∧gS<W.heap.size∧Below w.heap.size w W) ⟨Lib.hid (hA.out.keep hzA Yb),Lib.hid (hB.out.keep hzB Yb),Lib.hid (Qg.made.keep Y3 hbs),Lib.hid hBs,Y1,Yb⟩ ?_;rintro W ⟨kA,kB,kF,kS,kz,kW⟩;clear hA hB hmu hmr hbs hBs hzs hbw hbw0 hbC hzC;have hAF:gA<wc.heap.size:=hzA;have hBF:gB<wc.heap.size:=hzB
  generalize wc.heap.size=gF at *;generalize hBB:W.heap.size=BB;have hgB:gS<BB:=Y1
  go_loopw [7,35] (fun s7 s35 wr=>∃ (k:Nat) (vt:Value) (vs:Nat→Value),k≤l.length∧s35=.int .i64 k∧s7=vt∧Q2y 3 wr gF BB l.length vs (Co.fromL l k) vt∧wr.ownsRow BB 3 1 vt (Co.beginL l k).length (Co.intsV (Co.beginL l k))∧Hid (Qg wr gA l.length (fun _=>.int .u16 0))∧Hid (Qg wr gB l.length (fun _=>.int .u16 0))∧Hid (Qi wr gS l.length (Co.start l))∧BB≤wr.heap.size∧Below w.heap.size w wr) (fun _ s35 _=>l.length-(intOf s35).toNat)
  case atStart =>
   exact⟨0,_,fun _=>.slice none 0 0,Y1,rfl,rfl,(Q2y.nil kF.out Y1 _).congr (fun t ht=>rfl),Qy,kA,kB,kS,Y1,kW⟩
  case round =>
   clear kA kB kF kS kz kW;obtain⟨k,vt,vs,hk,rfl,rfl,hR,hoT,kA,kB,kS,hzr,hbr⟩:=hrel;have hzz:=hbr.size;by_cases hlt:k<l.length
   · have hck:=kS.out.1 k hlt
     have hbl:=Co.beginL_le l k;cases hs:Co.start l k
     all_goals rw[hs] at hck
     · have hoT2:=Q1k (ys:=Co.intsV (Co.beginL l (k+1))) (m:=(Co.beginL l (k+1)).length) hoT (by rw[Co.beginL_succ,hs];rfl) (by rw[Co.beginL_succ,hs];rfl)
       clear hoT
       go_upto_region 12 with fail
       go_wp2_with (go_at_call 103;(with_reducible refine (Qdm _ _ _ _ _ (hI.keep Yb) hG.out hlt).mono ?_);rintro e w6 ⟨va,rfl,hoA,hb6⟩;obtain⟨pA,cA,rfl⟩:=Q15 hoA);have hs6:=hb6.size;have hRA:=(hR.apart (.slice pA (Co.aheadS l k).length cA) (fun q hq=>(hoA.lt q hq).1)).keep Y1 hb6;have hCC:gF<wr.heap.size:=Y1;generalize hcc:wr.heap.size=CC at hoA;have hCC2:gF<CC:=Y1;have hR6:=hR.keep Y1 hb6;have hoQ0:=Qd hoT2 hb6;have qA:=Lib.hid (kA.out.keep Y1 hb6);have qB:=Lib.hid (kB.out.keep Y1 hb6);have qS:=Lib.hid (kS.out.keep Y1 hb6);have hbr6:Below w.heap.size w w6:=Yb;have hn2:=Co.aheadS_le l k;clear hR hoT2 kA kB kS hbr hb6
       go_loopw [49] (fun s49 wq=>∃ (j:Nat) (vq:Nat→Value),j≤(Co.aheadS l k).length∧s49=.int .i64 j∧Q2y 3 wq gF BB l.length vq (Co.midL l k j) u7∧Q2y 3 wq gF BB l.length vq (Co.midL l k j) (.slice pA (Co.aheadS l k).length cA)∧wq.ownsRow CC 3 1 (.slice pA (Co.aheadS l k).length cA) (Co.aheadS l k).length (Co.intsV (Co.aheadS l k))∧wq.ownsRow BB 3 1 u7 (Co.beginL l (k+1)).length (Co.intsV (Co.beginL l (k+1)))∧Hid (Qg wq gA l.length (fun _=>.int .u16 0))∧Hid (Qg wq gB l.length (fun _=>.int .u16 0))∧Hid (Qi wq gS l.length (Co.start l))∧BB≤wq.heap.size∧Below w.heap.size w wq) (fun s49 _=>(Co.aheadS l k).length-(intOf s49).toNat)
       case atStart =>
        exact Yok
       case round =>
        exact Yjl
     · go_upto_region 12 with (first|(at_builtin;(refine Q18 _ rfl (.tmp 41) (.tmp 43) _ rfl BB 3 i0 _ 1 8 Tryz.underlying125 hi0 hj0 hj1 hj2 rfl Y1 _ (Co.beginL l k).length (Co.intsV (Co.beginL l k)) rfl (Qd hoT Yb) _ 1 1 [.int .i64 (k:Nat)] rfl rfl (fun j u hu=>by rw[Q7k];match j,hu with|0,hu=>(simp at hu;subst hu;simp[*,go_sem])|j+1,hu=>simp at hu) Yj Yk Y1 Y15 ?_;intro v2 w4 hown2 hg2 hr2)))
       have hoT2:=Q1k (ys:=Co.intsV (Co.beginL l (k+1))) (m:=(Co.beginL l (k+1)).length) hown2 (by rw[Co.beginL_succ,hs];simp) (by rw[Co.beginL_succ,hs,if_pos rfl,Q2p]);clear hown2
       refine Q1g (fun W=>Q2y 3 W gF BB l.length vs (Co.fromL l k) v2∧W.ownsRow BB 3 1 v2 (Co.beginL l (k+1)).length (Co.intsV (Co.beginL l (k+1)))∧Hid (Qg W gA l.length (fun _=>.int .u16 0))∧Hid (Qg W gB l.length (fun _=>.int .u16 0))∧Hid (Qi W gS l.length (Co.start l))∧BB≤W.heap.size∧Below w.heap.size w W) ⟨(hR.keep Y1 Yb).grown Y15 hg2 (fun q hq=>(hoT.lt q hq).1) (fun q hq=>hr2 q hq),hoT2,Lib.hid (Q2c hg2 (kA.out.keep Y1 Yb) (by omega:gA<BB) Y15 (fun q hq=>(hoT.lt q hq).1)),Lib.hid (Q2c hg2 (kB.out.keep Y1 Yb) (by omega:gB<BB) Y15 (fun q hq=>(hoT.lt q hq).1)),Lib.hid (Qi.cells.2 (Q2c hg2 (Qi.cells.1 (kS.out.keep Y1 Yb)) (by omega:gS<BB) Y15 (fun q hq=>(hoT.lt q hq).1))),by have:=hg2.size;simp at this;omega,Below.grown Yb hg2 Y15 (fun q hq=>by have:=(hoT.lt q hq).1;omega)⟩ ?_
       clear hR hoT kA kB kS hzr hbr hzz hck hoT2 hg2 hr2;rintro W1 ⟨hR,hoT2,kA,kB,kS,hzr,hbr⟩;have hzz:=hbr.size;go_wp2_with (go_at_call 103;(with_reducible refine (Qdm _ _ _ _ _ (hI.keep Yb) hG.out hlt).mono ?_);rintro e w6 ⟨va,rfl,hoA,hb6⟩;obtain⟨pA,cA,rfl⟩:=Q15 hoA);have hs6:=hb6.size;have hRA:=(hR.apart (.slice pA (Co.aheadS l k).length cA) (fun q hq=>(hoA.lt q hq).1)).keep Y1 hb6;have hCC:gF<W1.heap.size:=Y1;generalize hcc:W1.heap.size=CC at hoA;have hCC2:gF<CC:=Y1;have hR6:=hR.keep Y1 hb6;have hoQ0:=Qd hoT2 hb6;have qA:=Lib.hid (kA.out.keep Y1 hb6);have qB:=Lib.hid (kB.out.keep Y1 hb6);have qS:=Lib.hid (kS.out.keep Y1 hb6);have hbr6:Below w.heap.size w w6:=Yb;have hn2:=Co.aheadS_le l k;clear hR hoT2 kA kB kS hbr hb6
       go_loopw [49] (fun s49 wq=>∃ (j:Nat) (vq:Nat→Value),j≤(Co.aheadS l k).length∧s49=.int .i64 j∧Q2y 3 wq gF BB l.length vq (Co.midL l k j) v2∧Q2y 3 wq gF BB l.length vq (Co.midL l k j) (.slice pA (Co.aheadS l k).length cA)∧wq.ownsRow CC 3 1 (.slice pA (Co.aheadS l k).length cA) (Co.aheadS l k).length (Co.intsV (Co.aheadS l k))∧wq.ownsRow BB 3 1 v2 (Co.beginL l (k+1)).length (Co.intsV (Co.beginL l (k+1)))∧Hid (Qg wq gA l.length (fun _=>.int .u16 0))∧Hid (Qg wq gB l.length (fun _=>.int .u16 0))∧Hid (Qi wq gS l.length (Co.start l))∧BB≤wq.heap.size∧Below w.heap.size w wq) (fun s49 _=>(Co.aheadS l k).length-(intOf s49).toNat)
       case atStart =>
        exact Yok
       case round =>
        exact Yjl
   · obtain rfl:k=l.length:=by omega
     clear hlt;go_wp2
     go_loopg [7] (Co.begin0 l) (fun n s7 wr=>∃ (todo:List Nat) (A Bh:Nat→BitVec 16) (vt:Value),s7=vt∧Q2y 3 wr gF BB l.length vs (Co.fromL l l.length) vt∧wr.ownsRow BB 3 1 vt todo.length (Co.intsV todo)∧Hid (Qg wr gA l.length (fun j=>.int .u16 (N16 (A j))))∧Hid (Qg wr gB l.length (fun j=>.int .u16 (N16 (Bh j))))∧BB≤wr.heap.size∧Below w.heap.size w wr∧Hid (Co.Under l A Bh)∧Hid (Co.liveF l (Co.fromL l l.length) n todo A Bh=Co.bothL l)∧Hid (∀ m∈todo,m<l.length)∧Hid (Co.cost l.length A*(l.length+1)+todo.length≤n)∧todo.length≤n∧n≤Co.begin0 l)
     case atStart =>
      exact⟨Co.beginL l l.length,fun _=>0#16,fun _=>0#16,_,rfl,hR,hoT,kA,kB,hzr,hbr,Lib.hid (fun q=>by simp),Lib.hid rfl,Lib.hid (fun m hm=>Co.beginL_lt hm),Lib.hid (Co.cost_zero_le l),by have:=Co.cost_zero_le l;omega,Nat.le_refl _⟩
     case round =>
      clear hR hoT kA kB kS hzr hbr hzz;obtain⟨todo,A,Bh,vt,rfl,hR,hoT,kA,kB,hzr,hbr,hU,hL9,htd,hco,htl,hn0⟩:=hrel;have hzz:=hbr.size;have hbn:Co.begin0 l≤17221222400:=by unfold Co.begin0;have h1:l.length*(l.length+1)≤512*513:=Nat.mul_le_mul hL2 Y1;have h2:=Nat.mul_le_mul_left 65535 h1;rw[← Nat.mul_assoc] at h2;omega
      rcases List.eq_nil_or_concat todo with rfl|⟨ys,k,rfl⟩
      · have hE:=Lib.hid ((Co.liveF_nil l (Co.fromL l l.length) gk A Bh).symm.trans hL9.out)
        clear hL9;simp only[List.length_nil] at hoT;obtain⟨p7,c7,rfl⟩:=Q15 hoT;go_wp2;go_ret2;exact⟨gA,gB,rfl,by rw[← hE.out];exact kA.out,by rw[← hE.out];exact kB.out,Y1,Y1,hbr⟩
      · rw[List.concat_eq_append] at *
        have hlen:(ys++[k]).length=ys.length+1:=by simp
        rw[hlen] at hoT htl;obtain⟨n,rfl⟩:∃ n',gk=n'+1:=⟨gk-1,Y1⟩;have hkl:=htd.out k Y3;obtain⟨gt,ct,rfl,hgt1,hgt2,hct,hmt,hcell,hft⟩:=Q1h hoT Y1;have hcl:=hcell ys.length (.int .i64 (k:Nat)) Y24;clear hcell hft;have hqa:=kA.out.1 k hkl;have hqb:=kB.out.1 k hkl;have hqf:=kA.out.2;obtain⟨c0,c1,c2,c3,c4⟩:=(hI.keep hbr) k hkl;have hndd:Co.needs l k (Bh k)=Co.readsB l[k] ||| (Bh k &&& ~~~(Co.writesB l[k])):=by unfold Co.needs;rw[List.getD_eq_getElem?_getD,List.getElem?_eq_getElem hkl];rfl
        have HND:=Lib.hid hndd;clear hndd;generalize l[k]=x at *;have hstep:=Lib.hid ((Co.liveF_step l (Co.fromL l l.length) n k ys A Bh).symm.trans hL9.out);clear hL9;have zb:=Q1 c0;go_wp2_with fail;refine Q2 (LbC x b gB k (Bh k) wr) [] [] (fun _ c=>.pointer (some ⟨c.1,0,none⟩)) rfl Yc ?_ (fun d d' ν w'=>Quf d d' ν w') (fun d ν w' w1=>Qug d ν w' w1) (fun i hi=>Yf0) ?_
        · exact Ymj
        apply Exists.intro;refine⟨fun ν=>?_,?_,?_⟩
        · (try simp only[List.append])
          iterate 17
           (refine Qa Y0 ?_
            apply Exists.intro;refine⟨fun D hD hR hN K hK=>?_,Yc,?_⟩
            · first
              | (go_big_quiet_skip;exact hK)
              | (go_big_quiet_want
                 first
                  | ((first|(refine Qc rfl rfl (fun w' hC=>by obtain⟨d,hd,hC⟩:=hR w' hC;obtain⟨k0,k1,k2,k3,k4,k5,k6,k7⟩:=hC;(and_intros<;>assumption)) ?_)|(refine Q76 rfl rfl (fun w' hC=>Yi4) ?_))
                     simp only[Act.put,List.setIfInBounds_toArray,List.set_cons_succ,List.set_cons_zero]
                     go_big_quiet_on
                     exact hK)
                  | (go_big_quiet_op
                     first
                      | (go_big_quiet_on;exact hK)
                      | (apply Exists.intro
                         refine⟨fun w' hC=>?_,?_⟩
                         · (refine Ycm ?_;intro w1 hb1)
                           (try simp only[id]);exact⟨rfl,hD _ _ hC hb1⟩
                         go_big_quiet_on
                         exact hK))))
          exact rfl
        · intro i hi;cases hi
        · intro ν w9 d hd hC
          obtain⟨k0,k1,k2,k3,k4,k5,k6,k7⟩:=hC
          skip
          clear hd;have z0:=Q1 k0;have z5:=Q1 k5;have hb9:=k7;have hz9:=hb9.size;have hoT9:=Q1k (ys:=Co.intsV ys) (Q64 (m:=ys.length) (Qd hoT hb9) Y1) rfl Y25;have hR9:=(hR.keep Y1 hb9).retag (vt':=.slice (some ⟨gt,0,none⟩) ys.length ct) rfl;have kA9:=Lib.hid (kA.out.keep Y1 hb9);have kB9:=Lib.hid (kB.out.keep Y1 hb9);have hbr9:Below w.heap.size w w9:=Yb;have hqa9:=kA9.out.1 k hkl;have hqf9:=kA9.out.2;have hst2:=hstep.out;rw[HND.out] at hst2;clear hR hoT kA kB hbr hqa hqb hqf hcl hstep hb9;have htd2:=Lib.hid (fun m hm=>htd.out m (List.mem_append.2 (.inl hm)):∀ m∈ys,m<l.length);have hcs:=hco.out;rw[hlen] at hcs;have HCS:=Lib.hid hcs;clear hcs;generalize hnd:(Co.readsB x ||| (Bh k &&& ~~~(Co.writesB x)))=nd at *;have HNW:=Lib.hid hnd;clear hnd;cases hq:(nd==A k)
          · rw[hq] at hst2
            simp only[Bool.false_eq_true,if_false] at hst2;have HL:=Lib.hid hst2;clear hst2;have hltn:=Lib.hid (Co.under_lt (hU.out k) (by rw[HND.out];exact hq));have hU2:=Lib.hid (hU.out.step k (fun q=>q∈(Co.fromL l l.length) k));obtain⟨pk,ck,hvk⟩:=Q15 (hR9.own k hkl);have hck9:=hR9.cell k hkl;rw[hvk] at hck9;have HVK:=Lib.hid hvk;clear hvk;have hfl:=Co.fromL_le l l.length k;have hRw:=hR9.setOther (b:=gA) (o:=k) (u:=.int .u16 (N16 nd)) Y1 Y1;have hoTw:=Q3j (g:=gA) (o:=k) (u:=.int .u16 (N16 nd)) hoT9 (fun e=>by have:=(hoT9.lt gA e).1;omega);have kAw:=Lib.hid (kA9.out.set (f':=(fun j=>.int .u16 (N16 ((if j=k then nd else A j))))) hkl (.int .u16 (N16 nd)) (fun j hj=>by by_cases e:j=k<;>simp[e]));have kBw:=Lib.hid (kB9.out.other (b:=gA) (o:=k) (v:=.int .u16 (N16 nd)) Y1)
            have hbw2:Below w.heap.size w (w9.setCell ⟨gA,k,none⟩ (.int .u16 (N16 nd))):=Yg;go_wp2
            go_loopw [7,110] (fun s7 s110 wq=>∃ (j:Nat) (vq:Value),j≤((Co.fromL l l.length) k).length∧s110=.int .i64 j∧s7=vq∧Q2y 3 wq gF BB l.length vs (Co.fromL l l.length) vq∧wq.ownsRow BB 3 1 vq (ys++((Co.fromL l l.length) k).take j).length (Co.intsV (ys++((Co.fromL l l.length) k).take j))∧Hid (Qg wq gA l.length (fun j=>.int .u16 (N16 ((if j=k then nd else A j)))))∧Hid (Qg wq gB l.length (fun q=>.int .u16 (N16 (Co.orTake ((Co.fromL l l.length) k) nd Bh j q))))∧BB≤wq.heap.size∧Below w.heap.size w wq) (fun _ s110 _=>((Co.fromL l l.length) k).length-(intOf s110).toNat)
            case atStart =>
             exact⟨0,_,Y1,rfl,rfl,hRw,Q1k hoTw Y3 Y3,kAw,Lib.hid (kBw.out.congr (fun q hq=>by simp[Co.orTake])),Y15,hbw2⟩
            case round =>
             clear hRw hoTw kAw kBw hbw2 hR9 hoT9 kA9 kB9 hbr9 hck9 hqa9 hqf9;obtain⟨j,vq,hj,rfl,rfl,hRq,hoQ,kA,kB,hzq,hbq⟩:=hrel;have hzq2:=hbq.size;by_cases hjl:j<((Co.fromL l l.length) k).length
             · obtain⟨gk,ck',hv',hk1,hk2,_,_,hcell,_⟩:=Q1h (hRq.own k hkl) Y1
               rw[HVK.out] at hv'
               injection hv' with e1 _ e2
               subst e1;subst e2;have hcj:=hcell j (.int .i64 (((Co.fromL l l.length) k)[j]:Nat)) Y27;have hi:=Co.fromL_lt (List.getElem_mem hjl);have hst:=Co.orTake_step (n:=nd) (Bh:=Bh) hjl;have htk:((Co.fromL l l.length) k).take (j+1)=((Co.fromL l l.length) k).take j++[((Co.fromL l l.length) k)[j]]:=List.take_succ_eq_append_getElem hjl;have HJC:=Lib.hid (show j+1≤((Co.fromL l l.length) k).length from hjl);generalize ((Co.fromL l l.length) k)[j]=i at *;have HST:=Lib.hid hst;have HTK:=Lib.hid htk;clear hst htk hcell;have hqb:=kB.out.1 i hi;have hqbf:=kB.out.2;have hoS:=Q3j (g:=gB) (o:=i) (u:=.int .u16 (N16 (Co.orTake ((Co.fromL l l.length) k) nd Bh j i ||| nd))) hoQ (fun e=>by have:=(hoQ.lt gB e).1;omega)
               have hRS:=hRq.setOther (b:=gB) (o:=i) (u:=.int .u16 (N16 (Co.orTake ((Co.fromL l l.length) k) nd Bh j i ||| nd))) Y1 Y1;have kAS:=Lib.hid (kA.out.other (b:=gB) (o:=i) (v:=.int .u16 (N16 (Co.orTake ((Co.fromL l l.length) k) nd Bh j i ||| nd))) hAB);have kBS:=Lib.hid (kB.out.set (f':=fun q=>.int .u16 (N16 (if q=i then Co.orTake ((Co.fromL l l.length) k) nd Bh j i ||| nd else Co.orTake ((Co.fromL l l.length) k) nd Bh j q))) hi (.int .u16 (N16 (Co.orTake ((Co.fromL l l.length) k) nd Bh j i ||| nd))) (fun q hq=>by by_cases e:q=i<;>simp[e]));have hlk:(ys++((Co.fromL l l.length) k).take j).length≤ys.length+((Co.fromL l l.length) k).length:=Y4;generalize hTD:ys++((Co.fromL l l.length) k).take j=td at hoQ hoS hlk;have HTD:=Lib.hid hTD;clear hTD
               go_wp2_with (at_builtin;(refine Q18 _ rfl (.tmp 121) (.tmp 123) _ rfl BB 3 i0 _ 1 8 Tryz.underlying125 hi0 hj0 hj1 hj2 rfl Y1 _ td.length (Co.intsV td) rfl (Qd hoS Yb) _ 1 1 [.int .i64 (i:Nat)] rfl rfl (fun j u hu=>by rw[Q7k];match j,hu with|0,hu=>(simp at hu;subst hu;simp[*,go_sem])|j+1,hu=>simp at hu) Yj Yk Y1 Y15 ?_;intro v8 w8 hown8 hg8 hr8);obtain⟨p8,c8,rfl⟩:=Q15 hown8;have hz8:=hg8.size;(try simp only[World.size_alloc,World.size_drew,World.size_setCell] at hz8))
               go_roundw
               case rel=>exact⟨j+1,_,HJC.out,Yf1,rfl,Q2y.grown (hRS.keep Y15 Yb) Y15 hg8 (fun q hq=>(hoQ.lt q hq).1) hr8,Q1k hown8 (by rw[HTK.out,← List.append_assoc,HTD.out];simp) (by rw[HTK.out,← List.append_assoc,HTD.out,Q2p]),Lib.hid (Q2c hg8 (kAS.out.keep Y15 Yb) (by omega:gA<BB) Y15 (fun q hq=>(hoQ.lt q hq).1)),Lib.hid ((Q2c hg8 (kBS.out.keep Y15 Yb) (by omega:gB<BB) Y15 (fun q hq=>(hoQ.lt q hq).1)).congr (fun q hq=>by show Value.int .u16 (N16 _)=_;rw[← HST.out q])),Y1,Below.grown Yg hg8 Y15 (fun q hq=>by have:=(hoQ.lt q hq).1;omega)⟩
               case measure=>have hjd:=HJC.out;simp[intOf];omega
             · obtain rfl:j=((Co.fromL l l.length) k).length:=by omega
               rw[List.take_length] at hoQ;go_wp2
               go_roundg n
               case measure=>omega
               case rel=>exact⟨ys++((Co.fromL l l.length) k),_,_,_,rfl,hRq,hoQ,kA,Lib.hid (kB.out.congr (fun q hq=>by show Value.int .u16 (N16 (Co.orTake _ _ _ _ _))=_;unfold Co.orTake;rw[List.take_length])),hzq,hbq,Lib.hid (by have h:=hU2.out;rw[HND.out] at h;exact h),HL,Lib.hid (fun m hm=>(List.mem_append.1 hm).elim (htd2.out m) (fun h=>Co.fromL_lt h)),Lib.hid (by have h:=Co.cost_step hkl (by have:=hltn.out;rw[HND.out] at this;exact this) hfl HCS.out;rw[List.length_append];exact h),by have h:=Co.cost_step hkl (by have:=hltn.out;rw[HND.out] at this;exact this) hfl HCS.out;rw[List.length_append];omega,Y1⟩
          · rw[hq] at hst2
            simp only[if_true] at hst2;have HL:=Lib.hid hst2;clear hst2;go_wp2
            go_roundg n
            case measure=>omega
            case rel=>exact⟨ys,A,Bh,_,rfl,hR9,hoT9,kA9,kB9,Y1,hbr9,hU,HL,htd2,Lib.hid (by have:=HCS.out;omega),Y1,Y1⟩
end Hk
