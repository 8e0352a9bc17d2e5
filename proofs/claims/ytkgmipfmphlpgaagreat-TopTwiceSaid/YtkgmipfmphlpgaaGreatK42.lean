/- A part of TopTwice; no condition. -/
import Derived.Test.YtkgmipfmphlpgaaGreatK41
open Go Go.RowKit Go.Proofs
set_option linter.all false
set_option maxRecDepth 100000
set_option maxHeartbeats 20000000
namespace Hk
attribute [local go_sem] Q8i Q2r Q3c
theorem Qrz (x:In)(v:Vl)(w:World):Calls Tryz.prog 39 #[x,v] w (RB.a w (.tuple #[(Co.movedX x v),.bool (Co.movedB v)])):=by
 cases hk:Fa.known v.f with
 | none =>
   exact Ykv
 | some n =>
   have nk:(v.k != 1) = !(v.k==1):=rfl;cases h1:(v.k==1)
   · rw[h1] at nk
     exact Ykv
   · rw[h1] at nk
     cases h2:Co.short n
     · have h3:Co.shortB n=false:=by rw[← h2];rfl
       have EB:=Lib.hid (show Co.movedB v=false from Yhy);have EX:=Lib.hid (show Co.movedX x v=In.zero from Yhz);refine Yw4 ?_;intro HK;clear hk;go_enter Tryz.func39,Tryz.ntmps39;go_wp2_with ((with_reducible apply ic);first|(refine Y3w ?_;intro w1 hb1 hc1 hf1 hz1)|(refine Y94 ?_;intro w2 hb2 hc2 hf2 hz2));refine bodyPost_ret (Q39 (fn:=Tryz.f39) rfl _ _ (w.heap.size+1+1) (In.zero) (.bool false) rfl ?_ ?_ ?_ ?_ ?_ ?_) rfl ⟨rfl,Yb⟩
       all_goals simp (maxDischargeDepth:=12) [*,go_sem,↓IntWalk.iteOmega,Qb,In.zero,Co.movX]
       all_goals (intros;rfl)
     · have h3:Co.shortB n=true:=by rw[← h2];rfl
       have EB:=Lib.hid (show Co.movedB v=true from Yhy);have EX:=Lib.hid (show Co.movedX x v=(Co.movX x n) by unfold Co.movedX;rw[EB.out];rw[hk];rfl);refine Yw4 ?_;intro HK;clear hk;go_enter Tryz.func39,Tryz.ntmps39;go_wp2_with ((with_reducible apply ic);first|(refine Y3w ?_;intro w1 hb1 hc1 hf1 hz1)|(refine Y94 ?_;intro w2 hb2 hc2 hf2 hz2));refine bodyPost_ret (Q39 (fn:=Tryz.f39) rfl _ _ (w.heap.size+1+1) ((Co.movX x n)) (.bool true) rfl ?_ ?_ ?_ ?_ ?_ ?_) rfl ⟨rfl,Yb⟩
       all_goals simp (maxDischargeDepth:=12) [*,go_sem,↓IntWalk.iteOmega,Qb,In.zero,Co.movX]
       all_goals (intros;rfl)
theorem Qks (b c:Nat)(l:List In)(i:Nat)(n:Nt)(w:World)(hI:Q14 w b l)(hg:Co.good l=true)(hk:Co.start l i=true):Calls Tryz.prog 38 #[.slice (some ⟨b,0,none⟩) l.length c,.int .i64 i,.agg #[.bool n.been,.bool n.goes,.bool n.hops,.int .u8 n.v.k,.int .u64 (N n.v.f.t.v),.int .u64 (N n.v.f.t.m),.int .u64 (N n.v.f.s.lo),.int .u64 (N n.v.f.s.hi),.int .i64 n.v.i,.int .i64 n.v.off]] w (RB.a w (.agg #[.int .u8 (N8 (Co.brEd l i n).kind),.int .u8 (N8 (Co.brEd l i n).x.op),.int .u8 (N8 (Co.brEd l i n).x.dst),.int .u8 (N8 (Co.brEd l i n).x.src),.int .i16 (I16 (Co.brEd l i n).x.off),.int .i32 (I32 (Co.brEd l i n).x.imm),.int .i64 (Co.brEd l i n).tw])):=by
 refine Yvm ?_;intro hL hbw;have hG:=Lib.hid hg;clear hg;have hkl:=Co.start_lt hk;cases h1:n.goes<;>cases h2:n.hops
 · have EE:=Lib.hid (show Co.brEd l i n=⟨2#8,Co.jumpX,i⟩ from Yi0)
   rw[EE.out];go_enter Tryz.func38,Tryz.ntmps38;go_wp2_with (go_at_call 27;refine Y8a ?_;intro w2 hb2 hc2 hf2 hz2);refine bodyPost_ret (Q1d (fn:=Tryz.f38) rfl _ _ (w.heap.size+1) (⟨2#8,Co.jumpX,i⟩) rfl ?_ ?_ ?_ ?_ ?_ ?_ ?_) rfl ⟨rfl,Yb⟩
   all_goals simp (maxDischargeDepth:=12) [*,go_sem,↓IntWalk.iteOmega,Qb,Ed.none,In.zero]
   all_goals rfl
 · have EE:=Lib.hid (show Co.brEd l i n=⟨2#8,Co.jumpX,(Co.target l i:Nat)⟩ from Yi0)
   rw[EE.out];go_enter Tryz.func38,Tryz.ntmps38;go_wp2_with (go_at_call 27;refine Y8a ?_;intro w2 hb2 hc2 hf2 hz2);refine bodyPost_ret (Q1d (fn:=Tryz.f38) rfl _ _ (w.heap.size+1) (⟨2#8,Co.jumpX,(Co.target l i:Nat)⟩) rfl ?_ ?_ ?_ ?_ ?_ ?_ ?_) rfl ⟨rfl,Yb⟩
   all_goals simp (maxDischargeDepth:=12) [*,go_sem,↓IntWalk.iteOmega,Qb,Ed.none,In.zero]
   all_goals rfl
 · have EE:=Lib.hid (show Co.brEd l i n=⟨1#8,In.zero,0⟩ from Yi0)
   rw[EE.out];go_enter Tryz.func38,Tryz.ntmps38;go_wp2_with (go_at_call 27;refine Y8a ?_;intro w2 hb2 hc2 hf2 hz2);refine bodyPost_ret (Q1d (fn:=Tryz.f38) rfl _ _ (w.heap.size+1) (⟨1#8,In.zero,0⟩) rfl ?_ ?_ ?_ ?_ ?_ ?_ ?_) rfl ⟨rfl,Yb⟩
   all_goals simp (maxDischargeDepth:=12) [*,go_sem,↓IntWalk.iteOmega,Qb,Ed.none,In.zero]
   all_goals rfl
 · have EE:=Lib.hid (show Co.brEd l i n=Ed.none from Yi0)
   rw[EE.out];go_enter Tryz.func38,Tryz.ntmps38;go_wp2_with (go_at_call 27;refine Y8a ?_;intro w2 hb2 hc2 hf2 hz2);refine bodyPost_ret (Q1d (fn:=Tryz.f38) rfl _ _ (w.heap.size+1) (Ed.none) rfl ?_ ?_ ?_ ?_ ?_ ?_ ?_) rfl ⟨rfl,Yb⟩
   all_goals simp (maxDischargeDepth:=12) [*,go_sem,↓IntWalk.iteOmega,Qb,Ed.none,In.zero]
   all_goals rfl
def FoC (x:In)(v:Vl)(b bn k:Nat)(w:World)(d:Nat→Bool)(ν:Nat→Nat×Nat)(w':World):Prop:=w'.cell? ⟨b,k*5,none⟩=some (.int .u8 (N8 x.op))∧w'.cell? ⟨b,k*5+1,none⟩=some (.int .u8 (N8 x.dst))∧w'.cell? ⟨b,k*5+2,none⟩=some (.int .u8 (N8 x.src))∧w'.cell? ⟨b,k*5+3,none⟩=some (.int .i16 (I16 x.off))∧w'.cell? ⟨b,k*5+4,none⟩=some (.int .i32 (I32 x.imm))∧w'.cell? ⟨bn,k*10+3,none⟩=some (.int .u8 v.k)∧w'.cell? ⟨bn,k*10+3+1,none⟩=some (.int .u64 (N v.f.t.v))∧w'.cell? ⟨bn,k*10+3+2,none⟩=some (.int .u64 (N v.f.t.m))∧w'.cell? ⟨bn,k*10+3+3,none⟩=some (.int .u64 (N v.f.s.lo))∧w'.cell? ⟨bn,k*10+3+4,none⟩=some (.int .u64 (N v.f.s.hi))∧w'.cell? ⟨bn,k*10+3+5,none⟩=some (.int .i64 v.i)∧w'.cell? ⟨bn,k*10+3+6,none⟩=some (.int .i64 v.off)∧GIn.a d ν w' 13 14 (Co.movedX x v) ((d 13=true→∀ i,w'.frozen? ⟨(ν 13).1,i,none⟩=false)∧(d 13=true→w.heap.size≤(ν 13).1)∧w.heap.size≤w'.heap.size∧Below w.heap.size w w')
theorem Qeh {x:In}{v:Vl}{b bn k:Nat}{w:World}:KT (FoC x v b bn k w):=by
 intro d ν w' w1 h hb;obtain⟨k0,k1,k2,k3,k4,k5,k6,k7,k8,k9,k10,k11,k12,k13,k14,k15,k16,k17,k18,k19,k20⟩:=h;exact⟨Q0 hb k0,Q0 hb k1,Q0 hb k2,Q0 hb k3,Q0 hb k4,Q0 hb k5,Q0 hb k6,Q0 hb k7,Q0 hb k8,Q0 hb k9,Q0 hb k10,Q0 hb k11,fun h=>Q0 hb (k12 h),fun h=>Q0 hb (k13 h),fun h=>Q0 hb (k14 h),fun h=>Q0 hb (k15 h),fun h=>Q0 hb (k16 h),fun h=>Q7 hb (k12 h) (k17 h),k18,Nat.le_trans k19 hb.size,Q8 k20 hb⟩
theorem Quo {x:In}{v:Vl}{b bn k:Nat}{w:World}:MT (FoC x v b bn k w) [13,14]:=by
 intro d d' ν w' hd h;unfold FoC at *;simpa only[← hd 13 Y3,← hd 14 Y3] using h
theorem Q112 {x:In}{v:Vl}{b bn k:Nat}{w:World}:NT (FoC x v b bn k w) [13]:=by
 intro i hi d ν c w' hd h;unfold FoC at *;exact Ypy
def FpC (y x:In)(g b k:Nat)(w:World)(d:Nat→Bool)(ν:Nat→Nat×Nat)(w':World):Prop:=CIn.a w' g y (w'.cell? ⟨b,k*5,none⟩=some (.int .u8 (N8 x.op))∧w'.cell? ⟨b,k*5+1,none⟩=some (.int .u8 (N8 x.dst))∧w'.cell? ⟨b,k*5+2,none⟩=some (.int .u8 (N8 x.src))∧w'.cell? ⟨b,k*5+3,none⟩=some (.int .i16 (I16 x.off))∧w'.cell? ⟨b,k*5+4,none⟩=some (.int .i32 (I32 x.imm))∧0≤w'.heap.size∧Below w.heap.size w w')
theorem Qeg {y x:In}{g b k:Nat}{w:World}:KT (FpC y x g b k w):=by
 exact Yml
theorem Qef {y x:In}{g b k:Nat}{w:World}:MT (FpC y x g b k w) []:=by
 intro d d' ν w' hd h;unfold FpC at *;simpa only[true_and] using h
theorem Qs3 (b c bn cn:Nat)(l:List In)(ns:List Nt)(w:World)(hI:Q14 w b l)(hg:Co.good l=true)(hN:Q3y w bn ns)(hnl:ns.length=l.length):Calls Tryz.prog 23 #[.slice (some ⟨b,0,none⟩) l.length c,.slice (some ⟨bn,0,none⟩) ns.length cn] w fun e w'=>∃ g,e=.returned (.slice (some ⟨g,0,none⟩) l.length l.length)∧Q3z w' g (Co.foldEds l ns)∧Below w.heap.size w w':=by
 refine Yvm ?_;intro hL hbw;have hmk:=Qv1 l.length Y1;obtain⟨_,_,_,_,hck⟩:=Co.good_facts hg;have hG:=Lib.hid hg;clear hg;have HK:=Lib.hid hck;clear hck;have HNL:=Lib.hid hnl;have hq:((ns.length:Int) != (l.length:Int))=false:=by rw[hnl];simp
 clear hnl;go_enter Tryz.func23,Tryz.ntmps23;go_wp2_with ((with_reducible apply ic);first|(refine Y8j ?_;intro wC hbC hzC)|(refine Y8l ?_;intro ws gS hBs hgS hzs hbs));have hE0:Q44 ws wC.heap.size l.length (Co.upto (Co.foldEd l ns) 0):=((Q44.made (w:=wC) (n:=l.length) (e:=109)).congr fun j hj=>rfl).keep Y3 hbs;have HE:=Lib.hid hE0;clear hE0;have HS:=Lib.hid hBs;clear hBs;generalize hgE:wC.heap.size=gE at *;have hzE:gE<ws.heap.size:=Yhv;have hB0:Below w.heap.size w ws:=Yb;clear hbC hbs hmk
 go_loopw [34] (fun s34 wr=>∃ k:Nat,k≤l.length∧s34=.int .i64 k∧Hid (Q44 wr gE l.length (Co.upto (Co.foldEd l ns) k))∧Hid (Qi wr gS l.length (Co.start l))∧gE<wr.heap.size∧gS<wr.heap.size∧Below w.heap.size w wr) (fun s34 _=>l.length-(intOf s34).toNat)
 case atStart =>
  exact⟨0,Y1,rfl,HE,HS,hzE,hzs,hB0⟩
 case round =>
  clear HE HS hzE hzs hB0;obtain⟨k,hk,rfl,hE,hS,hzE,hzS,hB⟩:=hrel;have hzB:=hB.size;by_cases hlt:k<l.length
  · have hck:=hS.out.1 k hlt
    cases hs:Co.start l k
    all_goals rw[hs] at hck
    · have hnone:=Lib.hid (show Co.foldEd l ns k=Ed.none by unfold Co.foldEd;rw[hs];rfl)
      exact Yol
    · have hkn:k<ns.length:=by rw[HNL.out];exact hlt
      obtain⟨a0,a1,a2,a3,a4,a5,a6,a7,a8,a9⟩:=(hN.keep hB).at hkn;have en:ns.getD k ⟨false,false,false,Vl.zero⟩=ns[k]:=by rw[List.getD_eq_getElem?_getD,List.getElem?_eq_getElem hkn];rfl
      obtain⟨c0,c1,c2,c3,c4⟩:=(hI.keep hB) k hlt;have ex:l.getD k In.zero=l[k]:=Yf6;have ee:Co.foldEd l ns k=if ns[k].been=true then (if ((Co.what l[k]).kind==10)=true then Co.brEd l k ns[k] else if Co.putsK (Co.what l[k]).kind=true then (if (Co.movedB ns[k].v&&!(In.eqB (Co.movedX l[k] ns[k].v) l[k]))=true then ⟨2#8,Co.movedX l[k] ns[k].v,0⟩ else Ed.none) else Ed.none) else ⟨1#8,In.zero,0⟩:=by unfold Co.foldEd Co.kindAt;rw[hs,en,ex];rfl
      clear en ex;generalize hnn:ns[k]=n at *;generalize hx:l[k]=x at *;clear hnn hx;obtain⟨d0,d1,d2,d3,d4,d5,d6⟩:=hE.out.1 k hlt;have hfr:=hE.out.2;have zbn:=Q1 a0;cases hb:n.been
      · rw[hb] at ee a0
        have hee:=Lib.hid (ee.trans rfl:Co.foldEd l ns k=⟨1#8,In.zero,0⟩);clear ee;go_wp2
        go_roundw
        case rel=>exact⟨k+1,Y1,Yf1,Lib.hid (hE.out.kind hlt hee.out),Lib.hid (hS.out.other Y1),Y15,Y15,Yb⟩
        case measure=>simp[intOf];omega
      · rw[hb] at ee a0
        simp only[if_true] at ee;cases h10:((Co.what x).kind==10)
        · rw[h10] at ee
          simp only[Bool.false_eq_true,if_false] at ee;have ep:Co.putsK (Co.what x).kind=((Co.what x).kind==1||(Co.what x).kind==2||(Co.what x).kind==3||(Co.what x).kind==5):=rfl;cases hp:Co.putsK (Co.what x).kind
          · rw[hp] at ee
            simp only[Bool.false_eq_true,if_false] at ee;have hee:=Lib.hid ee;clear ee;rw[hp] at ep;simp only[eq_comm (a:=false),Bool.or_eq_false_iff] at ep;obtain⟨⟨⟨p1,p2⟩,p3⟩,p5⟩:=ep;clear hp;go_wp2_with (go_at_call 20;refine Y2p ?_;intro w1 hb1 hc1 hf1 hz1)
            go_roundw
            case rel=>exact⟨k+1,Y1,Yf1,Lib.hid ((hE.out.keep hzE Yb).skip hee.out),Lib.hid (hS.out.keep hzS Yb),Y15,Y15,Yb⟩
            case measure=>simp[intOf];omega
          · rw[hp] at ee ep
            simp only[if_true] at ee;have PC:(Co.what x).kind=1∨(Co.what x).kind=2∨(Co.what x).kind=3∨(Co.what x).kind=5:=by simp only[eq_comm (a:=true),Bool.or_eq_true,beq_iff_eq] at ep;omega
            clear ep;have hee:=Lib.hid ee;clear ee;have hcut:∀ (p:Prop),p→p:=fun _ h=>h
            skip
            rcases PC with pk|pk|pk|pk
            all_goals
             clear hcut;have q1:((Co.what x).kind==1)=_:=congrArg (·==1) pk;have q2:((Co.what x).kind==2)=_:=congrArg (·==2) pk;have q3:((Co.what x).kind==3)=_:=congrArg (·==3) pk;have q5:((Co.what x).kind==5)=_:=congrArg (·==5) pk;simp only[Int.reduceBEq] at q1 q2 q3 q5;clear pk hp;go_wp2_with (go_at_call 20;refine Y2p ?_;intro w1 hb1 hc1 hf1 hz1);refine Q1g (fun W=>Below wr.heap.size wr W∧wr.heap.size≤W.heap.size) ⟨Yb,Y15⟩ ?_;rintro W ⟨hbW,hzW⟩;have e0:=Q0 hbW c0;have e1:=Q0 hbW c1;have e2:=Q0 hbW c2;have e3:=Q0 hbW c3;have e4:=Q0 hbW c4;have f3:=Q0 hbW a3;have f4:=Q0 hbW a4;have f5:=Q0 hbW a5;have f6:=Q0 hbW a6;have f7:=Q0 hbW a7;have f8:=Q0 hbW a8;have f9:=Q0 hbW a9;clear hb1 hc1 hf1 hz1
             refine Q2 (FoC x n.v b bn k W) [13,14] [13] (fun _ c=>.pointer (some ⟨c.1,0,none⟩)) rfl Yc ?_ (fun d d' ν w'=>Quo d d' ν w') (fun d ν w' w1=>Qeh d ν w' w1) (fun i hi d ν c w'=>Q112 i hi d ν c w') ?_
             · intro d ν hd;refine⟨?_,?_,?_,?_,?_,?_,?_,?_,?_,?_,?_,?_,?_,?_,?_,?_,?_,?_,?_,?_,Yb⟩<;>first|(simp (maxDischargeDepth:=12) [*,hd,upd,Qo,go_sem,↓IntWalk.iteOmega];done)|(intro i;simp (maxDischargeDepth:=12) [*,upd,Qo,go_sem,↓IntWalk.iteOmega];done)|(intro h;rw[hd _ Y0] at h;cases h)|go_size|(simp;omega)
             apply Exists.intro;refine⟨fun ν=>?_,?_,?_⟩
             · (try simp only[List.append])
               iterate 13 refine Yed ?_
               (refine Qq Y0 Yc (fun d w' hd hC=>?_) ?_
                · have r:=hd.open_
                  have q14:d 14=false:=by
                   cases hq:d 14 with
                   | false=>rfl
                   | true=>exact absurd (hd.shut 14 13 Yd hq) Ye
                  refine⟨(w'.heap.size,0),w'.alloc (.cells #[.int .u8 0,.int .u8 0,.int .u8 0,.int .i16 0,.int .i32 0] 41),Yez,?_⟩;have hz0:=hC;obtain⟨-,-,-,-,-,-,-,-,-,-,-,-,-,-,-,-,-,-,-,hz0,-⟩:=hz0;have hC:=Qeh _ _ _ _ hC (Below.alloc (Below.refl _ w') (Nat.le_refl _) (.cells #[.int .u8 0,.int .u8 0,.int .u8 0,.int .i16 0,.int .i32 0] 41));obtain⟨k0,k1,k2,k3,k4,k5,k6,k7,k8,k9,k10,k11,k12,k13,k14,k15,k16,k17,k18,k19,k20⟩:=hC;refine⟨?_,?_,?_,?_,?_,?_,?_,?_,?_,?_,?_,?_,?_,?_,?_,?_,?_,?_,?_,?_,?_⟩<;>first|assumption|(intros;simp (maxDischargeDepth:=12) [*,upd,Qo,go_sem,↓IntWalk.iteOmega];done)
                simp only[Act.put,List.setIfInBounds_toArray,List.set_cons_succ,List.set_cons_zero,Nat.reduceAdd,Nat.zero_add])
               (refine Qh rfl rfl rfl rfl Yc (fun d w' hd hC=>?_) ?_
                · obtain⟨k0,k1,k2,k3,k4,k5,k6,k7,k8,k9,k10,k11,k12,k13,k14,k15,k16,k17,k18,k19,k20⟩:=hC
                  (try (have q13:=hd.ahead 13 Yd;simp only[q13,true_implies,forall_const] at k12 k13 k14 k15 k16 k17 k18));(try have p14:=hd.ahead 14 Yd);have r:=hd.open_;refine⟨_,Y11,?_⟩
                  refine⟨?_,?_,?_,?_,?_,?_,?_,?_,?_,?_,?_,?_,?_,?_,?_,?_,?_,?_,?_,?_,Yg⟩<;>first|(simp (maxDischargeDepth:=12) [*,upd,Qo,go_sem,↓IntWalk.iteOmega];done)|(intro h;have h':d 13=true:=h;have hx:=k18 h';simp (maxDischargeDepth:=12) [*,upd,Qo,go_sem,↓IntWalk.iteOmega];done)|(intro h i;have h':d 13=true:=h;have hx:=k18 h';simp (maxDischargeDepth:=12) [*,upd,Qo,go_sem,↓IntWalk.iteOmega];done)|(intros;simp (maxDischargeDepth:=12) [*,upd,Qo,go_sem,↓IntWalk.iteOmega];done))
               iterate 1 refine Yed ?_
               exact rfl
             · exact Yoo
             · intro ν w9 d hd hC
               obtain⟨k0,k1,k2,k3,k4,k5,k6,k7,k8,k9,k10,k11,k12,k13,k14,k15,k16,k17,k18,k19,k20⟩:=hC;have q13:=hd 13 Y0;have q14:=hd 14 Y0;simp only[q13,q14,cond_true,cond_false,forall_const,true_implies] at k0 k1 k2 k3 k4 k5 k6 k7 k8 k9 k10 k11 k12 k13 k14 k15 k16 k17 k18 k19 k20;clear q13 q14;clear hd;have z0:=Q1 k0;have z5:=Q1 k5;have z12:=Q1 k12;have hz9:=k20.size;have hnq:=Qv3 (Co.movedX x n.v) x;generalize Co.movedX x n.v=y at *;have HEE:=hee.out;clear hee;cases hm:Co.movedB n.v
               · rw[hm] at HEE
                 exact Yke
               · rw[hm] at HEE
                 cases hqe:In.eqB y x
                 · rw[hqe] at HEE hnq
                   have hee:=Lib.hid (HEE.trans rfl:Co.foldEd l ns k=⟨2#8,y,0⟩);clear HEE;go_wp2;refine Q2 (FpC y x (ν 13).1 b k w9) [] [] (fun _ c=>.pointer (some ⟨c.1,0,none⟩)) rfl Yc ?_ (fun d d' ν w'=>Qef d d' ν w') (fun d ν w' w1=>Qeg d ν w' w1) (fun i hi=>Yf0) ?_
                   · exact Ymg
                   apply Exists.intro;refine⟨fun ν=>?_,?_,?_⟩
                   · exact Yt3
                   · intro i hi;cases hi
                   · intro ν w10 d hd hC
                     obtain⟨k0,k1,k2,k3,k4,k5,k6,k7,k8,k9,k10,k11⟩:=hC
                     skip
                     clear hd;have z0:=Q1 k0;have z5:=Q1 k5;have hz10:=k11.size;have hbX:Below wr.heap.size wr w10:=Yb;have g0:=Q0 hbX d0;have g1:=Q0 hbX d1;have g2:=Q0 hbX d2;have g3:=Q0 hbX d3;have g4:=Q0 hbX d4;have g5:=Q0 hbX d5;have g6:=Q0 hbX d6;have gf:=Q7 hbX d0 hfr;go_wp2
                     go_roundw
                     case rel=>exact⟨k+1,Y1,Yf1,Lib.hid ((hE.out.keep hzE hbX).putX hlt y hee.out),Lib.hid ((hS.out.keep hzS hbX).putX y Y1),Y15,Y15,Yb⟩
                     case measure=>simp[intOf];omega
                 · rw[hqe] at HEE hnq
                   exact Yke
        · rw[h10] at ee
          simp only[if_true] at ee;have hee:=Lib.hid ee;clear ee;go_wp2_with ((with_reducible apply ic);first|(refine Y2p ?_;intro w1 hb1 hc1 hf1 hz1)|(go_at_call 38;(with_reducible refine (Qks _ _ _ _ ⟨true,n.goes,n.hops,n.v⟩ _ (hI.keep Yb) hG.out hs).mono ?_);refine Y2c ?_;intro w7 hb7 hc7 hf7 hz7))
          go_roundw
          case rel=>exact⟨k+1,Y1,Yf1,Lib.hid ((hE.out.keep hzE Yb).put hlt (Co.brEd l k ⟨true,n.goes,n.hops,n.v⟩) (hee.out.trans rfl)),Lib.hid ((hS.out.keep hzS Yb).setEd _ Y1),Y15,Y15,Yb⟩
          case measure=>simp[intOf];omega
  exact Yri
end Hk
