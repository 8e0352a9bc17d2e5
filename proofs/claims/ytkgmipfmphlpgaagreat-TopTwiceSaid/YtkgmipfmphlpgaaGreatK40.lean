/- A part of TopTwice; no condition. -/
import Derived.Test.YtkgmipfmphlpgaaGreatK39
open Go Go.RowKit Go.Proofs
set_option linter.all false
set_option maxRecDepth 100000
set_option maxHeartbeats 20000000
namespace Hk
theorem Q1d {fn:Func}{p:Tmp}(h:fn.results=#[.cell p 109])(tmps:Array Value)(w:World)(g:Nat)(y:Ed)(hp:tmps.getD p undef=.pointer (some ⟨g,0,none⟩))
 (a0:w.cell? ⟨g,0,none⟩=some (.int .u8 (N8 y.kind))) (a1:w.cell? ⟨g,1,none⟩=some (.int .u8 (N8 y.x.op))) (a2:w.cell? ⟨g,2,none⟩=some (.int .u8 (N8 y.x.dst))) (a3:w.cell? ⟨g,3,none⟩=some (.int .u8 (N8 y.x.src))) (a4:w.cell? ⟨g,4,none⟩=some (.int .i16 (I16 y.x.off))) (a5:w.cell? ⟨g,5,none⟩=some (.int .i32 (I32 y.x.imm))) (a6:w.cell? ⟨g,6,none⟩=some (.int .i64 y.tw)):Sem.run Tryz.prog (results fn tmps) w=.ok (.agg #[.int .u8 (N8 y.kind),.int .u8 (N8 y.x.op),.int .u8 (N8 y.x.dst),.int .u8 (N8 y.x.src),.int .i16 (I16 y.x.off),.int .i32 (I32 y.x.imm),.int .i64 y.tw]) w:=by
 have hp':tmps[p]?.getD undef=.pointer (some ⟨g,0,none⟩):=Yew;simp only[results,h];simp[hp',a0,a1,a2,a3,a4,a5,a6,go_sem]
theorem Qxh (be ce:Nat)(es:List Ed)(k:Nat)(w:World)(hE:Q3z w be es)(hEL:es.length≤100000)(hk:k<es.length):Calls Tryz.prog 74 #[.slice (some ⟨be,0,none⟩) es.length ce,.int .i64 k] w (RB.a w (.agg #[.int .u8 (N8 (Co.edit es k).kind),.int .u8 (N8 (Co.edit es k).x.op),.int .u8 (N8 (Co.edit es k).x.dst),.int .u8 (N8 (Co.edit es k).x.src),.int .i16 (I16 (Co.edit es k).x.off),.int .i32 (I32 (Co.edit es k).x.imm),.int .i64 (Co.edit es k).tw])):=by
 obtain⟨d0,d1,d2,d3,d4,d5,d6⟩:=hE k hk;have ex:es.getD k Ed.none=es[k]:=Yf2;have e1:Co.edit es k=if decide (es[k].kind≤2#8)=true then es[k] else Ed.none:=by unfold Co.edit;simp only[ex];simp[hk]
 generalize es[k]=y at *;have zb:=Q1 d0;cases hq:decide (y.kind≤2#8)
 all_goals rw[hq] at e1;simp only[Bool.false_eq_true,if_false,if_true] at e1;rw[e1];clear e1 ex
 all_goals
  go_enter Tryz.func74,Tryz.ntmps74;go_wp2
 · refine bodyPost_ret (Q1d (fn:=Tryz.f74) rfl _ _ (w.heap.size) (Ed.none) rfl ?_ ?_ ?_ ?_ ?_ ?_ ?_) rfl ⟨rfl,Yb⟩
   all_goals simp (maxDischargeDepth:=12) [*,go_sem,↓IntWalk.iteOmega,Qb,Ed.none,In.zero]
   all_goals rfl
 · refine bodyPost_ret (Q1d (fn:=Tryz.f74) rfl _ _ (w.heap.size) (y) rfl ?_ ?_ ?_ ?_ ?_ ?_ ?_) rfl ⟨rfl,Yb⟩
   all_goals simp (maxDischargeDepth:=12) [*,go_sem,↓IntWalk.iteOmega,Qb,Ed.none,In.zero]
   all_goals rfl
theorem Q9a (b c be ce:Nat)(l:List In)(es:List Ed)(k:Nat)(w:World)(hI:Q14 w b l)(hg:Co.good l=true)(hk:Co.start l k=true)(hE:Q3z w be es)(hEL:es.length≤100000)(hke:k<es.length)(hd:((Co.edit es k).kind==1#8)=true):Calls Tryz.prog 58 #[.slice (some ⟨b,0,none⟩) l.length c,.slice (some ⟨be,0,none⟩) es.length ce,.int .i64 k] w (RB.a w (.tuple #[.slice none 0 0,.int .i64 0])):=by
 have hkl:=Co.start_lt hk;have hL:l.length≤100000:=Y20;have hbw:=hI.lt Y1;generalize hdd:Co.edit es k=d at *;have HD:=Lib.hid hdd;clear hdd;go_enter Tryz.func58,Tryz.ntmps58;go_wp2_with (go_at_call 74;refine Y89 ?_;intro w1 hb1 hc1 hf1 hz1);go_ret2;exact⟨rfl,Yb⟩
theorem Qdc (b c be ce:Nat)(l:List In)(es:List Ed)(k:Nat)(w:World)(hI:Q14 w b l)(hg:Co.good l=true)(hk:Co.start l k=true)(hE:Q3z w be es)(hEL:es.length≤100000)(hke:k<es.length)(hlc:l.length≤c)(hd:((Co.edit es k).kind==1#8)=false):Calls Tryz.prog 58 #[.slice (some ⟨b,0,none⟩) l.length c,.slice (some ⟨be,0,none⟩) es.length ce,.int .i64 k] w fun e w'=>∃ g o cap,e=.returned (.tuple #[.slice (some ⟨g,o,none⟩) (Co.becX l es k).length cap,.int .i64 (Co.becT l es k)])∧(Co.becX l es k).length≤cap∧(g=b∨w.heap.size≤g)∧Q3x w' g o (Q2a (Co.becX l es k))∧Below w.heap.size w w':=by
 have hkl:=Co.start_lt hk;have hL:l.length≤100000:=Y20;have hbw:=hI.lt Y1;cases h2:(Co.edit es k).kind==2#8
 · obtain⟨e1,e2⟩:=Co.becX_keep (l:=l) hd h2
   have e3:=Co.keep_length hg hk;have e4:=Co.next_le hg hk;have e5:=Co.nextK_gt l k;rw[e1,e2,e3];clear e1 e2;have hrow:=Lib.hid (Q3x.of_ins hI k (Co.nextK l k-k));generalize hdd:Co.edit es k=d at *;have HD:=Lib.hid hdd;clear hdd;go_enter Tryz.func58,Tryz.ntmps58;go_wp2_with ((with_reducible apply ic);first|(refine Y89 ?_;intro w1 hb1 hc1 hf1 hz1)|(refine Y8a ?_;intro w2 hb2 hc2 hf2 hz2)|(refine Y8b ?_;intro w3 hb3 hc3 hf3 hz3));go_ret2;refine⟨b,k*5,c-k,?_,Y1,.inl rfl,hrow.out.keep Yb,Yb⟩;rfl
 · obtain⟨e1,e2⟩:=Co.becX_other (l:=l) hd h2
   rw[e1,e2];clear e1 e2;generalize hdd:Co.edit es k=d at *;have HD:=Lib.hid hdd;clear hdd;go_enter Tryz.func58,Tryz.ntmps58;go_wp2_with (go_at_call 74;refine Y89 ?_;intro w1 hb1 hc1 hf1 hz1)
   go_region
   all_goals (go_wp2;go_ret2;refine⟨_,0,1,rfl,by simp,.inr Y15,?_,Yb⟩)
   all_goals (intro j u hu;rw[Nat.zero_add];match j,hu with|0,hu=>(simp[Q2a,In.cells] at hu;subst hu;simp[go_sem])|1,hu=>(simp[Q2a,In.cells] at hu;subst hu;simp[go_sem])|2,hu=>(simp[Q2a,In.cells] at hu;subst hu;simp[go_sem])|3,hu=>(simp[Q2a,In.cells] at hu;subst hu;simp[go_sem])|4,hu=>(simp[Q2a,In.cells] at hu;subst hu;simp[go_sem])|j+5,hu=>simp[Q2a,In.cells] at hu)
theorem Q9i (b c:Nat)(l:List In)(k:Nat)(w:World)(hI:Q14 w b l)(hg:Co.good l=true)(hk:Co.start l k=true):Calls Tryz.prog 62 #[.slice (some ⟨b,0,none⟩) l.length c,.int .i64 k] w (RB.a w (.int .i64 (Co.follow l l.length k:Nat))):=by
 refine Yvm ?_;intro hL hbw;have hG:=Lib.hid hg;clear hg;have hS:=Lib.hid hk;clear hk;have K:=Lib.hid (rfl:Co.follow l l.length k=Co.follow l l.length k);go_enter Tryz.func62,Tryz.ntmps62;go_wp2_with fail;go_step3;go_wp2_with fail;go_step3;go_wp2_with fail
 go_loopw [1,7] (fun s1 s7 wr=>∃ i j:Nat,i≤l.length∧s7=.int .i64 i∧s1=.int .i64 j∧Hid (Co.start l j=true)∧Hid (Co.follow l (l.length-i) j=Co.follow l l.length k)∧Below w.heap.size w wr) (fun _ s7 _=>l.length-(intOf s7).toNat)
 case atStart =>
  exact⟨0,k,Y1,rfl,rfl,hS,Lib.hid rfl,Yb⟩
 case round =>
  obtain⟨i,j,hi,rfl,rfl,hs,he,hB⟩:=hrel;have hj:=Co.start_lt hs.out;have hzB:=hB.size;by_cases hlt:i<l.length
  · cases h9:Co.kindAt l j==9
    · have EW:=Lib.hid (show Co.follow l l.length k=j by rw[← he.out];exact Co.follow_stop h9 _)
      go_wp2_with (go_at_call 40;refine Y8c ?_;intro w1 hb1 hc1 hf1 hz1);(try rw[Exit.noGoto_ret]);go_ret;exact⟨Yf5,Yb⟩
    · have ES:=Lib.hid (Co.jump_target hG.out hs.out h9)
      have EF:=Lib.hid (show Co.follow l (l.length-(i+1)) (Co.target l j)=Co.follow l l.length k by rw[← he.out,show l.length-i=(l.length-(i+1))+1 from Y1];exact (Co.follow_step h9 _).symm);go_wp2_with ((with_reducible apply ic);first|(refine Y8c ?_;intro w1 hb1 hc1 hf1 hz1)|(go_at_call 27;(with_reducible refine (Q2w _ _ _ _ _ (hI.keep Yb) hL hj).mono ?_);refine Y2t ?_;intro w2 hb2 hc2 hf2 hz2))
      go_roundw
      case rel=>exact⟨i+1,Co.target l j,Y1,Yf1,rfl,ES,EF,Yb⟩
      case measure=>simp[intOf];omega
  · obtain rfl:i=l.length:=by omega
    have EW:=Lib.hid (show Co.follow l l.length k=j by rw[← he.out,Nat.sub_self];rfl);go_wp2;(try rw[Exit.noGoto_ret]);go_ret;exact⟨Yf5,Yb⟩
theorem Qj7 (a b:Nat):((a:Int) != (b:Int)) = !(a==b):=by unfold bne;rw[nat_beq]
theorem Qri (b c:Nat)(l:List In)(i t:Nat)(w:World)(hI:Q14 w b l)(hg:Co.good l=true)(hk:Co.start l i=true)(ht:Co.start l t=true):Calls Tryz.prog 41 #[.slice (some ⟨b,0,none⟩) l.length c,.int .i64 i,.int .i64 t] w (RB.a w (.agg #[.int .u8 (N8 (Co.hopJ l i t).kind),.int .u8 (N8 (Co.hopJ l i t).x.op),.int .u8 (N8 (Co.hopJ l i t).x.dst),.int .u8 (N8 (Co.hopJ l i t).x.src),.int .i16 (I16 (Co.hopJ l i t).x.off),.int .i32 (I32 (Co.hopJ l i t).x.imm),.int .i64 (Co.hopJ l i t).tw])):=by
 refine Yvm ?_;intro hL hbw;have hki:=Co.start_lt hk;have hkt:=Co.start_lt ht;have hsf:=Co.follow_start hg l.length t ht;have hkf:=Co.start_lt hsf;have hG:=Lib.hid hg;clear hg;have e0:Co.hopJ l i t=if (Co.follow l l.length t==Co.nextK l i)=true then ⟨1#8,In.zero,0⟩ else if (Co.kindAt l (Co.follow l l.length t)==12)=true then ⟨2#8,Co.exitX,0⟩ else if (!(Co.follow l l.length t==t))=true then ⟨2#8,Co.jumpX,(Co.follow l l.length t:Nat)⟩ else Ed.none:=rfl
 have q1:=nat_beq (Co.follow l l.length t) (Co.nextK l i);have q3:=Qj7 (Co.follow l l.length t) t;cases h1:(Co.follow l l.length t==Co.nextK l i)
 all_goals rw[h1] at q1 e0
 · cases h2:(Co.kindAt l (Co.follow l l.length t)==12)
   all_goals rw[h2] at e0
   · cases h3:(Co.follow l l.length t==t)
     all_goals rw[h3] at q3 e0
     all_goals simp only[if_true,if_false,Bool.false_eq_true,Bool.not_true,Bool.not_false] at e0
     · rw[e0]
       clear e0;go_enter Tryz.func41,Tryz.ntmps41;go_wp2_with ((with_reducible apply ic);first|(refine Y8e ?_;intro w4 hb4 hc4 hf4 hz4)|(refine Y8f ?_;intro w3 hb3 hc3 hf3 hz3)|(refine Y8g ?_;intro w5 hb5 hc5 hf5 hz5));refine bodyPost_ret (Q1d (fn:=Tryz.f41) rfl _ _ (w.heap.size) (⟨2#8,Co.jumpX,(Co.follow l l.length t:Nat)⟩) rfl ?_ ?_ ?_ ?_ ?_ ?_ ?_) rfl ⟨rfl,Yb⟩
       all_goals simp (maxDischargeDepth:=12) [*,go_sem,↓IntWalk.iteOmega,Qb,Ed.none,In.zero]
       all_goals rfl
     · rw[e0]
       clear e0;go_enter Tryz.func41,Tryz.ntmps41;go_wp2_with ((with_reducible apply ic);first|(refine Y8e ?_;intro w4 hb4 hc4 hf4 hz4)|(refine Y8f ?_;intro w3 hb3 hc3 hf3 hz3)|(refine Y8g ?_;intro w5 hb5 hc5 hf5 hz5));refine bodyPost_ret (Q1d (fn:=Tryz.f41) rfl _ _ (w.heap.size) (Ed.none) rfl ?_ ?_ ?_ ?_ ?_ ?_ ?_) rfl ⟨rfl,Yb⟩
       all_goals simp (maxDischargeDepth:=12) [*,go_sem,↓IntWalk.iteOmega,Qb,Ed.none,In.zero]
       all_goals rfl
   · simp only[if_true,if_false,Bool.false_eq_true,Bool.not_true,Bool.not_false] at e0
     rw[e0];clear e0;go_enter Tryz.func41,Tryz.ntmps41;go_wp2_with ((with_reducible apply ic);first|(refine Y8e ?_;intro w4 hb4 hc4 hf4 hz4)|(refine Y8f ?_;intro w3 hb3 hc3 hf3 hz3)|(refine Y8g ?_;intro w5 hb5 hc5 hf5 hz5));refine bodyPost_ret (Q1d (fn:=Tryz.f41) rfl _ _ (w.heap.size) (⟨2#8,Co.exitX,0⟩) rfl ?_ ?_ ?_ ?_ ?_ ?_ ?_) rfl ⟨rfl,Yb⟩
     all_goals simp (maxDischargeDepth:=12) [*,go_sem,↓IntWalk.iteOmega,Qb,Ed.none,In.zero]
     all_goals rfl
 · simp only[if_true,if_false,Bool.false_eq_true,Bool.not_true,Bool.not_false] at e0
   rw[e0];clear e0;go_enter Tryz.func41,Tryz.ntmps41;go_wp2_with ((with_reducible apply ic);first|(refine Y8e ?_;intro w4 hb4 hc4 hf4 hz4)|(refine Y8f ?_;intro w3 hb3 hc3 hf3 hz3));refine bodyPost_ret (Q1d (fn:=Tryz.f41) rfl _ _ (w.heap.size) (⟨1#8,In.zero,0⟩) rfl ?_ ?_ ?_ ?_ ?_ ?_ ?_) rfl ⟨rfl,Yb⟩
   all_goals simp (maxDischargeDepth:=12) [*,go_sem,↓IntWalk.iteOmega,Qb,Ed.none,In.zero]
   all_goals rfl
theorem Qc0 (b c:Nat)(l:List In)(i t:Nat)(w:World)(hI:Q14 w b l)(hg:Co.good l=true)(hk:Co.start l i=true)(ht:Co.start l t=true)(h9:(Co.kindAt l i==9)=false)(h12:(Co.kindAt l i==12)=false):Calls Tryz.prog 42 #[.slice (some ⟨b,0,none⟩) l.length c,.int .i64 i,.int .i64 t] w (RB.a w (.agg #[.int .u8 (N8 (Co.hopR l i t).kind),.int .u8 (N8 (Co.hopR l i t).x.op),.int .u8 (N8 (Co.hopR l i t).x.dst),.int .u8 (N8 (Co.hopR l i t).x.src),.int .i16 (I16 (Co.hopR l i t).x.off),.int .i32 (I32 (Co.hopR l i t).x.imm),.int .i64 (Co.hopR l i t).tw])):=by
 refine Yvm ?_;intro hL hbw;have hki:=Co.start_lt hk;have hkt:=Co.start_lt ht;have hsf:=Co.follow_start hg l.length t ht;have hkf:=Co.start_lt hsf;have hG:=Lib.hid hg;clear hg;have hG2:=hG.out;obtain⟨hnl,hns⟩:=Co.next_lt hG.out hk h9 h12;clear hG2 h9 h12;obtain⟨c0,c1,c2,c3,c4⟩:=hI i hki;have e0:Co.hopR l i t=if (Co.follow l l.length t==Co.follow l l.length (Co.nextK l i))=true then ⟨1#8,In.zero,0⟩ else if (!(Co.follow l l.length t==t))=true then ⟨2#8,l.getD i In.zero,(Co.follow l l.length t:Nat)⟩ else Ed.none:=rfl
 have ex:l.getD i In.zero=l[i]:=by rw[List.getD_eq_getElem?_getD,List.getElem?_eq_getElem hki];rfl
 rw[ex] at e0;clear ex;have q1:=nat_beq (Co.follow l l.length t) (Co.follow l l.length (Co.nextK l i));have q3:=Qj7 (Co.follow l l.length t) t;cases h1:(Co.follow l l.length t==Co.follow l l.length (Co.nextK l i))
 all_goals rw[h1] at q1 e0
 · cases h3:(Co.follow l l.length t==t)
   all_goals rw[h3] at q3 e0
   all_goals simp only[if_true,if_false,Bool.false_eq_true,Bool.not_true,Bool.not_false] at e0
   · rw[e0]
     clear e0;go_enter Tryz.func42,Tryz.ntmps42;go_wp2_with ((with_reducible apply ic);first|(refine Y8e ?_;intro w4 hb4 hc4 hf4 hz4)|(refine Y8f ?_;intro w3 hb3 hc3 hf3 hz3)|(refine Y8h ?_;intro w6 hb6 hc6 hf6 hz6));refine bodyPost_ret (Q1d (fn:=Tryz.f42) rfl _ _ (w.heap.size) (⟨2#8,l[i],(Co.follow l l.length t:Nat)⟩) rfl ?_ ?_ ?_ ?_ ?_ ?_ ?_) rfl ⟨rfl,Yb⟩
     all_goals simp (maxDischargeDepth:=12) [*,go_sem,↓IntWalk.iteOmega,Qb,Ed.none,In.zero]
     all_goals rfl
   · rw[e0]
     clear e0;go_enter Tryz.func42,Tryz.ntmps42;go_wp2_with ((with_reducible apply ic);first|(refine Y8e ?_;intro w4 hb4 hc4 hf4 hz4)|(refine Y8f ?_;intro w3 hb3 hc3 hf3 hz3)|(refine Y8h ?_;intro w6 hb6 hc6 hf6 hz6));refine bodyPost_ret (Q1d (fn:=Tryz.f42) rfl _ _ (w.heap.size) (Ed.none) rfl ?_ ?_ ?_ ?_ ?_ ?_ ?_) rfl ⟨rfl,Yb⟩
     all_goals simp (maxDischargeDepth:=12) [*,go_sem,↓IntWalk.iteOmega,Qb,Ed.none,In.zero]
     all_goals rfl
 · simp only[if_true,if_false,Bool.false_eq_true,Bool.not_true,Bool.not_false] at e0
   rw[e0];clear e0;go_enter Tryz.func42,Tryz.ntmps42;go_wp2_with ((with_reducible apply ic);first|(refine Y8e ?_;intro w4 hb4 hc4 hf4 hz4)|(refine Y8f ?_;intro w3 hb3 hc3 hf3 hz3)|(refine Y8h ?_;intro w6 hb6 hc6 hf6 hz6));refine bodyPost_ret (Q1d (fn:=Tryz.f42) rfl _ _ (w.heap.size) (⟨1#8,In.zero,0⟩) rfl ?_ ?_ ?_ ?_ ?_ ?_ ?_) rfl ⟨rfl,Yb⟩
   all_goals simp (maxDischargeDepth:=12) [*,go_sem,↓IntWalk.iteOmega,Qb,Ed.none,In.zero]
   all_goals rfl
theorem Qv1 (n:Nat)(hn:n≤1000000):∀ w:World,(Instr.makeSlice 71 (.int .i64 (n:Int)) (.int .i64 (n:Int))).run Tryz.prog w=.ok (.slice (some ⟨w.heap.size,0,none⟩) n n) (w.alloc (.cells (madeCells #[.int .u8 0,.int .u8 0,.int .u8 0,.int .u8 0,.int .i16 0,.int .i32 0,.int .i64 0] (n*7)) 109)):=fun w=>Qfy (P:=Tryz.prog) (t:=71) (e:=109) (sz:=7) (by_:=24) (zc:=#[.int .u8 0,.int .u8 0,.int .u8 0,.int .u8 0,.int .i16 0,.int .i32 0,.int .i64 0]) Yc Yc n hn Y1 w
theorem Q9r (b c:Nat)(l:List In)(w:World)(hI:Q14 w b l)(hL:l.length≤100000):Calls Tryz.prog 17 #[.slice (some ⟨b,0,none⟩) l.length c] w fun e w'=>∃ g,e=.returned (.slice (some ⟨g,0,none⟩) l.length l.length)∧Qi w' g l.length (Co.start l)∧w.heap.size≤g∧g<w'.heap.size∧Below w.heap.size w w':=by
 refine (Q3v b c l w hI hL).mono ?_;rintro e w1 ⟨rfl,h1,h2,h3⟩;exact⟨_,rfl,h1,Nat.le_refl _,Y1,h3⟩
theorem Qrj (b c:Nat)(l:List In)(w:World)(hI:Q14 w b l)(hg:Co.good l=true):Calls Tryz.prog 24 #[.slice (some ⟨b,0,none⟩) l.length c] w fun e w'=>∃ g,e=.returned (.slice (some ⟨g,0,none⟩) l.length l.length)∧Q3z w' g (Co.hopEds l)∧Below w.heap.size w w':=by
 refine Yvm ?_;intro hL hbw;have hmk:=Qv1 l.length Y1;obtain⟨_,_,_,_,hck⟩:=Co.good_facts hg;have hG:=Lib.hid hg;clear hg;have HK:=Lib.hid hck;clear hck;go_enter Tryz.func24,Tryz.ntmps24;go_wp2_with ((with_reducible apply ic);first|(refine Y8j ?_;intro wC hbC hzC)|(refine Y8l ?_;intro ws gS hBs hgS hzs hbs));have hE0:Q44 ws wC.heap.size l.length (Co.upto (Co.hopEd l) 0):=((Q44.made (w:=wC) (n:=l.length) (e:=109)).congr fun j hj=>rfl).keep Y3 hbs;have HE:=Lib.hid hE0;clear hE0;have HS:=Lib.hid hBs;clear hBs;generalize hgE:wC.heap.size=gE at *;have hzE:gE<ws.heap.size:=Yhv;have hB0:Below w.heap.size w ws:=Yb;clear hbC hbs hmk
 skip
 go_loopw [23] (fun s23 wr=>∃ k:Nat,k≤l.length∧s23=.int .i64 k∧Hid (Q44 wr gE l.length (Co.upto (Co.hopEd l) k))∧Hid (Qi wr gS l.length (Co.start l))∧gE<wr.heap.size∧gS<wr.heap.size∧Below w.heap.size w wr) (fun s23 _=>l.length-(intOf s23).toNat)
 case atStart =>
  exact⟨0,Y1,rfl,HE,HS,hzE,hzs,hB0⟩
 case round =>
  clear HE HS hzE hzs hB0;obtain⟨k,hk,rfl,hE,hS,hzE,hzS,hB⟩:=hrel;have hzB:=hB.size;by_cases hlt:k<l.length
  · have hck:=hS.out.1 k hlt
    cases hs:Co.start l k
    all_goals rw[hs] at hck
    · have hnone:=Lib.hid (show Co.hopEd l k=Ed.none by unfold Co.hopEd;rw[hs];rfl)
      exact Yol
    · cases h9:Co.kindAt l k==9
      · have H9:=Lib.hid h9
        cases h10:Co.kindAt l k==10
        · have hnone:=Lib.hid (show Co.hopEd l k=Ed.none by unfold Co.hopEd;rw[hs,h9,h10];rfl)
          have KE:Co.kindAt l k=Co.kindAt l k:=rfl;go_wp2_with ((with_reducible apply ic);first|(refine Y8m ?_;intro w2 hb2 hc2 hf2 hz2)|(refine Y8n ?_;intro w1 hb1 hc1 hf1 hz1))
          go_roundw
          case rel=>exact⟨k+1,Y1,Yf1,Lib.hid ((hE.out.keep hzE Yb).skip hnone.out),Lib.hid (hS.out.keep hzS Yb),Y15,Y15,Yb⟩
          case measure=>simp[intOf];omega
        · have hnone:=Lib.hid (show Co.hopEd l k=Co.hopR l k (Co.target l k) by unfold Co.hopEd;rw[hs,h9,h10];rfl)
          have hts:=Lib.hid (Co.hop_target hG.out hs (by rw[Co.kindAt_hop,h9,h10];rfl)).2;have h12:=Lib.hid (show (Co.kindAt l k==12)=false by rw[(beq_iff_eq.1 h10:Co.kindAt l k=10)];rfl);obtain⟨d0,d1,d2,d3,d4,d5,d6⟩:=hE.out.1 k hlt;have hfr:=hE.out.2;go_wp2_with ((with_reducible apply ic);first|(refine Y8m ?_;intro w2 hb2 hc2 hf2 hz2)|(refine Y8n ?_;intro w1 hb1 hc1 hf1 hz1)|(go_at_call 42;(with_reducible refine (Qc0 _ _ _ _ _ _ (hI.keep Yb) hG.out hs hts.out H9.out h12.out).mono ?_);refine Y2t ?_;intro w7 hb7 hc7 hf7 hz7))
          go_roundw
          case rel=>exact⟨k+1,Y1,Yf1,Lib.hid ((hE.out.keep hzE Yb).put hlt (Co.hopR l k (Co.target l k)) hnone.out),Lib.hid ((hS.out.keep hzS Yb).setEd _ Y1),Y15,Y15,Yb⟩
          case measure=>simp[intOf];omega
      · have hnone:=Lib.hid (show Co.hopEd l k=Co.hopJ l k (Co.target l k) by unfold Co.hopEd;rw[hs,h9];rfl)
        have hts:=Lib.hid (Co.jump_target hG.out hs h9);obtain⟨d0,d1,d2,d3,d4,d5,d6⟩:=hE.out.1 k hlt;have hfr:=hE.out.2;go_wp2_with ((with_reducible apply ic);first|(refine Y8m ?_;intro w2 hb2 hc2 hf2 hz2)|(refine Y8n ?_;intro w1 hb1 hc1 hf1 hz1)|(go_at_call 41;(with_reducible refine (Qri _ _ _ _ _ _ (hI.keep Yb) hG.out hs hts.out).mono ?_);refine Y2t ?_;intro w7 hb7 hc7 hf7 hz7))
        go_roundw
        case rel=>exact⟨k+1,Y1,Yf1,Lib.hid ((hE.out.keep hzE Yb).put hlt (Co.hopJ l k (Co.target l k)) hnone.out),Lib.hid ((hS.out.keep hzS Yb).setEd _ Y1),Y15,Y15,Yb⟩
        case measure=>simp[intOf];omega
  exact Yri
theorem Qxx (n:Nat)(hn:n≤1000000):∀ w:World,(Instr.makeSlice 125 (.int .i64 (n:Int)) (.int .i64 (n:Int))).run Tryz.prog w=.ok (.slice (some ⟨w.heap.size,0,none⟩) n n) (w.alloc (.cells (madeCells #[.int .i64 0] n) 3)):=fun w=>by
 have:=Qfy (P:=Tryz.prog) (t:=125) (e:=3) (sz:=1) (by_:=8) (zc:=#[.int .i64 0]) Yc Yc n hn Y1 w
 rwa [Nat.mul_one] at this
theorem Qj0 (b c be ce:Nat)(l:List In)(es:List Ed)(w:World)(hI:Q14 w b l)(hg:Co.good l=true)(hlc:l.length≤c)(hE:Q3z w be es)(hel:es.length=l.length):Calls Tryz.prog 57 #[.slice (some ⟨b,0,none⟩) l.length c,.slice (some ⟨be,0,none⟩) es.length ce] w fun e w'=>∃ g,e=.returned (.slice (some ⟨g,0,none⟩) (l.length+1:Nat) (l.length+1:Nat))∧Qg w' g (l.length+1) (Co.placeV l es)∧g<w'.heap.size∧Below w.heap.size w w':=by
 have hL2:=(Co.good_facts hg).1.2;have hL1:=(Co.good_facts hg).1.1;have hL:l.length≤100000:=Y1;have hEL:es.length≤100000:=Y1;have hbw:=hI.lt Y1;have hG:=Lib.hid hg;clear hg;have HEL:=Lib.hid hel;clear hel;have hmk:=Qxx (l.length+1) Y1;rw[show ((l.length+1:Nat):Int)=(l.length:Int)+1 from rfl] at hmk;go_enter Tryz.func57,Tryz.ntmps57;go_wp2_with (go_at_call 17;refine Y8l ?_;intro ws gS hBs hgS hzs hbs);have hP0:Qg ws w.heap.size (l.length+1) (Q7r (Co.placeV l es) (.int .i64 0) 0):=((Qg.made (w:=w) (n:=l.length+1) (e:=3) (z:=.int .i64 0)).congr fun j hj=>rfl).keep Y3 hbs;have HP:=Lib.hid hP0;clear hP0;have HS:=Lib.hid hBs;clear hBs;generalize hgP:w.heap.size=gP at HP hgS;have hzP:gP<ws.heap.size:=Yhv;have hB0:Below w.heap.size w ws:=Yb;clear hbs hmk
 go_loopw [7,20] (fun s7 s20 wr=>∃ k:Nat,k≤l.length∧s20=.int .i64 k∧s7=.int .i64 (Co.placeN l es k:Nat)∧Hid (Qg wr gP (l.length+1) (Q7r (Co.placeV l es) (.int .i64 0) k))∧Hid (Qi wr gS l.length (Co.start l))∧gP<wr.heap.size∧gS<wr.heap.size∧Below w.heap.size w wr) (fun _ s20 _=>l.length-(intOf s20).toNat)
 case atStart =>
  exact⟨0,Y1,rfl,rfl,HP,HS,hzP,hzs,hB0⟩
 case round =>
  clear HP HS hzP hzs hB0;obtain⟨k,hk,rfl,rfl,hP,hS,hzP,hzS,hB⟩:=hrel;have hzB:=hB.size;have hpl:=Co.placeN_le hG.out es k;by_cases hlt:k<l.length
  · have hck:=hS.out.1 k hlt
    have hcp:=hP.out.1 k Y1;have hfp:=hP.out.2;have hW:Below w.heap.size w (wr.setCell ⟨gP,k,none⟩ (.int .i64 (Co.placeN l es k))):=Yb;have HEQ:=Lib.hid (show (Co.placeN l es (k+1):Int)=Co.placeN l es k+((if Co.start l k then (Co.becX l es k).length else 0:Nat):Int) by rw[Co.placeN_next];rfl);cases hs:Co.start l k
    all_goals rw[hs] at hck HEQ
    · go_wp2
      go_roundw
      case rel=>exact⟨k+1,Y1,Yf1,by rw[HEQ.out];simp,Lib.hid (hP.out.put Y1 _ rfl),Lib.hid (hS.out.other Y1),Y15,Y15,Yb⟩
      case measure=>simp[intOf];omega
    · have hke:k<es.length:=by rw[HEL.out];exact hlt
      cases hd:(Co.edit es k).kind==1#8
      · have HL:=Lib.hid (Co.becX_le hG.out (e:=es) hs)
        have hxl:=HL.out;go_wp2_with (go_at_call 58;refine Y8r ?_;intro w1 gx ox cx hcx hgx hrow hb1 hc1 hf1 hz1)
        go_roundw
        case rel=>exact⟨k+1,Y1,Yf1,by rw[HEQ.out];rfl,Lib.hid ((hP.out.put Y1 _ rfl).keep Y15 hb1),Lib.hid ((hS.out.other Y1).keep Y15 hb1),Y15,Y15,Yb⟩
        case measure=>simp[intOf];omega
      · have HX:=Lib.hid (Co.becX_drop (l:=l) hd).1
        go_wp2_with (go_at_call 58;refine Y8t ?_;intro w1 hb1 hc1 hf1 hz1)
        go_roundw
        case rel=>exact⟨k+1,Y1,Yf1,by rw[HEQ.out,HX.out];rfl,Lib.hid ((hP.out.put Y1 _ rfl).keep Y15 hb1),Lib.hid ((hS.out.other Y1).keep Y15 hb1),Y15,Y15,Yb⟩
        case measure=>simp[intOf];omega
  · obtain rfl:k=l.length:=by omega
    have hcp:=hP.out.1 l.length Y1;have hfp:=hP.out.2;go_wp2;go_ret;exact⟨gP,rfl,(hP.out.put Y1 _ rfl).full,Y15,Yb⟩
theorem Qt1 (p:Option Addr)(c:Nat)(w:World):Calls Tryz.prog 10 #[.slice p 0 c] w (RB.a w (.tuple #[.int .i64 0,.int .i64 70])):=by
 go_enter Tryz.func10,Tryz.ntmps10;go_wp2_with (first|fail);go_ret2;exact⟨rfl,Yb⟩
theorem Qqe (p:Option Addr)(c:Nat)(w:World):Calls Tryz.prog 56 #[.slice p 0 c] w (RB.a w (.bool false)):=by
 go_enter Tryz.func56,Tryz.ntmps56;go_wp2_with (go_at_call 10;refine Y8u ?_;intro w1 hb1 hc1 hf1 hz1);go_ret;exact⟨rfl,Yb⟩
theorem Q1aa (k:Int):((k==9)=false∧(k==10)=false)∨((k==9)=false∧(k==10)=true)∨((k==9)=true∧(k==10)=false):=by
 cases h:(k==9)<;>cases g:(k==10)<;>simp_all
def RwC (x:In)(tb gp tn p:Nat)(dd:Int)(w:World)(d:Nat→Bool)(ν:Nat→Nat×Nat)(w':World):Prop:=w'.cell? ⟨gp,tn,none⟩=some (.int .i64 p)∧w'.cell? ⟨tb,0,none⟩=some (bif d 13 then .int .u8 (N8 (Co.hopX x dd).op) else .int .u8 (N8 x.op))∧w'.cell? ⟨tb,1,none⟩=some (bif d 13 then .int .u8 (N8 (Co.hopX x dd).dst) else .int .u8 (N8 x.dst))∧w'.cell? ⟨tb,2,none⟩=some (bif d 13 then .int .u8 (N8 (Co.hopX x dd).src) else .int .u8 (N8 x.src))∧w'.cell? ⟨tb,3,none⟩=some (bif d 13 then .int .i16 (I16 (Co.hopX x dd).off) else .int .i16 (I16 x.off))∧w'.cell? ⟨tb,4,none⟩=some (bif d 13 then .int .i32 (I32 (Co.hopX x dd).imm) else .int .i32 (I32 x.imm))∧(∀ i,w'.frozen? ⟨tb,i,none⟩=false)∧0≤w'.heap.size∧Below w.heap.size w w'
theorem Qu4 {x:In}{tb gp tn p:Nat}{dd:Int}{w:World}:KT (RwC x tb gp tn p dd w):=by
 intro d ν w' w1 h hb;obtain⟨k0,k1,k2,k3,k4,k5,k6,k7,k8⟩:=h;exact⟨Q0 hb k0,Q0 hb k1,Q0 hb k2,Q0 hb k3,Q0 hb k4,Q0 hb k5,Q7 hb k1 k6,Nat.le_trans k7 hb.size,Q8 k8 hb⟩
theorem Qu3 {x:In}{tb gp tn p:Nat}{dd:Int}{w:World}:MT (RwC x tb gp tn p dd w) [13]:=by
 intro d d' ν w' hd h;unfold RwC at *;simpa only[← hd 13 Y3] using h
theorem Q42 (b c be ce:Nat)(l:List In)(es:List Ed)(w:World)(hI:Q14 w b l)(hg:Co.good l=true)(hlc:l.length≤c)(hE:Q3z w be es)(hel:es.length=l.length):Calls Tryz.prog 37 #[.slice (some ⟨b,0,none⟩) l.length c,.slice (some ⟨be,0,none⟩) es.length ce] w fun e w'=>(∃ v m,e=.returned (.tuple #[v,.bool true])∧Co.rewrite l es=some m∧w'.ownsRow w.heap.size 41 5 v m.length (Q2a m)∧Below w.heap.size w w')∨(e=.returned (.tuple #[.slice none 0 0,.bool false])∧Co.rewrite l es=none∧Below w.heap.size w w'):=by
 have hL2:=(Co.good_facts hg).1.2;have hL1:=(Co.good_facts hg).1.1;have hL:l.length≤100000:=Y1;have hEL:es.length≤100000:=Y1;have hbw:=hI.lt Y1;have hG:=Lib.hid hg;clear hg;have HEL:=Lib.hid hel;clear hel;obtain⟨i0,hi0,hj0,hj1,hj2⟩:=info_parts Q4t;go_enter Tryz.func37,Tryz.ntmps37;go_wp2_with ((with_reducible apply ic);first|(go_at_call 56;(with_reducible refine (Qdb _ _ _ _ hI hL).mono ?_);rw[hG.out];refine Y8i ?_;intro wg hbg hzg)|(go_at_call 57;(with_reducible refine (Qj0 _ _ _ _ _ _ _ (hI.keep Yb) hG.out hlc (hE.keep Yb) HEL.out).mono ?_);refine Y8w ?_;intro wp gP hP0 hzP hbp));have HP:=Lib.hid hP0;clear hP0;have hBp:Below w.heap.size w wp:=Yb;have hzB0:=hBp.size;generalize hBB:wp.heap.size=BB;rw[hBB] at hzP;clear hbg hbp
 go_loopw [7,8] (fun s7 s8 wr=>∃ (f i:Nat) (out:List In),s8=.int .i64 i∧i≤l.length∧Hid (i<l.length→Co.start l i=true)∧l.length-i≤f∧Hid (Co.rwGo l es f i out=Co.rwGo l es l.length 0 [])∧wr.ownsRow BB 41 5 s7 out.length (Q2a out)∧out.length≤2*i∧BB≤wr.heap.size∧Below BB wp wr∧Below w.heap.size w wr) (fun _ s8 _=>l.length-(intOf s8).toNat)
 case atStart =>
  exact⟨l.length,0,[],rfl,Y1,Lib.hid fun _=>Co.start_zero Y1,Y1,Lib.hid rfl,Qy,by simp,Y1,Below.refl _ _,hBp⟩
 case round =>
  obtain⟨f,i,out,rfl,hil,hst,hf,hR,hown,hol,hzr,hbr,hB⟩:=hrel;have hzB:=hB.size;obtain⟨pO,cO,rfl⟩:=Q15 hown;by_cases hlt:i<l.length
  · have hs:=hst.out hlt
    have hke:i<es.length:=by rw[HEL.out];exact hlt
    obtain⟨f,rfl⟩:∃ f',f=f'+1:=⟨f-1,Y1⟩;have hnl:=Co.next_le hG.out hs;have hng:=Co.nextK_gt l i;have hns:=Lib.hid (fun h=>Co.next_start hs h);cases hd:(Co.edit es i).kind==1#8
    · obtain⟨x,r,hx⟩:∃ x r,Co.becX l es i=x::r:=by have h0:=Co.becX_pos hG.out (e:=es) hs hd;cases hq:Co.becX l es i with|nil=>rw[hq] at h0;simp at h0|cons x r=>exact⟨x,r,rfl⟩
      have hrl:r.length≤1:=by have h0:=Co.becX_le hG.out (e:=es) hs;rw[hx] at h0;simpa using h0
      have HX:=Lib.hid hx;clear hx;generalize hbt:Co.becT l es i=t;have HBT:=Lib.hid hbt;clear hbt;have hlo:=hown.lt;have NE:∀ g:Nat,(g=b∨wr.heap.size≤g)→some g≠(Value.slice pO out.length cO).ownBlock:=fun g hg e=>by have:=hlo g e.symm;omega
      have HNE:=Lib.hid NE;clear NE hlo;rcases Q1aa (Co.what x).kind with ⟨h9,h10⟩|⟨h9,h10⟩|⟨h9,h10⟩
      · have hR2:=Lib.hid ((Co.rwGo_keep hlt HX.out (show Co.isHop x=false by unfold Co.isHop;rw[h9,h10];rfl)).symm.trans hR.out)
        clear hR
        go_wp2_with (first|(go_at_call 58;(with_reducible refine (Qdc _ _ _ _ _ _ _ _ (hI.keep hB) hG.out hs (hE.keep hB) hEL hke hlc hd).mono ?_);rw[HBT.out,HX.out,List.length_cons];rintro e w1 ⟨gx,ox,cx,rfl,hcx,hgx,hrow,hb1⟩;(have hz1:=hb1.size);(obtain⟨c0,c1,c2,c3,c4⟩:=hrow.head);(have zx:=Q1 c0);(have hROW:=Lib.hid hrow);(clear hrow);(have hob:=Qd hown hb1);(have hOWN:=Lib.hid hob);(clear hob))|(go_at_call 20;(with_reducible refine (Q88 _ _).mono ?_);rintro e w2 ⟨rfl,hb2⟩;obtain⟨hc2,hf2,hz2⟩:=Q17 hb2;(try simp only[World.size_alloc,World.size_setCell,World.size_drew] at hc2 hf2 hz2);(have uc0:w2.cell? ⟨w1.heap.size,0,none⟩=some (.int .u8 (N8 x.op)):=Yhd);(have uc1:w2.cell? ⟨w1.heap.size,1,none⟩=some (.int .u8 (N8 x.dst)):=Yhd);(have uc2:w2.cell? ⟨w1.heap.size,2,none⟩=some (.int .u8 (N8 x.src)):=Yhd);(have uc3:w2.cell? ⟨w1.heap.size,3,none⟩=some (.int .i16 (I16 x.off)):=Yhd);(have uc4:w2.cell? ⟨w1.heap.size,4,none⟩=some (.int .i32 (I32 x.imm)):=Yhd);(have uf:∀ i,w2.frozen? ⟨w1.heap.size,i,none⟩=false:=Yhw);clear hc2 hf2))
        have hNE:=Lib.hid (HNE.out gx hgx);clear HNE;refine Q1g (fun W=>(W.cell? ⟨w1.heap.size,0,none⟩=some (.int .u8 (N8 x.op))∧W.cell? ⟨w1.heap.size,1,none⟩=some (.int .u8 (N8 x.dst))∧W.cell? ⟨w1.heap.size,2,none⟩=some (.int .u8 (N8 x.src))∧W.cell? ⟨w1.heap.size,3,none⟩=some (.int .i16 (I16 x.off))∧W.cell? ⟨w1.heap.size,4,none⟩=some (.int .i32 (I32 x.imm)))∧(∀ i,W.frozen? ⟨w1.heap.size,i,none⟩=false)∧Hid (Q3x W gx ox (Q2a (x::r)))∧Hid (W.ownsRow BB 41 5 (.slice pO out.length cO) out.length (Q2a out))∧w1.heap.size<W.heap.size∧Below BB wp W∧Below w.heap.size w W) ⟨⟨Yhd,Yhd,Yhd,Yhd,Yhd⟩,Yhw,Lib.hid (hROW.out.keep Yb),Lib.hid (Qd hOWN.out Yb),Y15,Yb,Yb⟩ ?_;clear hROW hOWN;rintro W ⟨⟨k0,k1,k2,k3,k4⟩,kf,hROW,hOWN,hzW,hbW,hBW⟩;have hq:(1:Int)≤(r.length:Int)+1:=Y1
        go_region_law (first|(refine Q24 rfl (.tmp 78) (.tmp 80) _ rfl BB 41 i0 _ 5 12 Tryz.underlying29 hi0 hj0 hj1 hj2 rfl Y1 (.slice pO out.length cO) out.length (Q2a out) rfl (Qd hOWN.out Yb) _ 1 1 (In.cells x).toList rfl rfl (fun j u hu=>by rw[Q7k];match j,hu with|0,hu=>(simp[In.cells] at hu;subst hu;simp[*,go_sem])|1,hu=>(simp[In.cells] at hu;subst hu;simp[*,go_sem])|2,hu=>(simp[In.cells] at hu;subst hu;simp[*,go_sem])|3,hu=>(simp[In.cells] at hu;subst hu;simp[*,go_sem])|4,hu=>(simp[In.cells] at hu;subst hu;simp[*,go_sem])|j+5,hu=>simp[In.cells] at hu) Yo Yk Y1 Y15 ?_;intro v1 w4 hown1 hg1 hat1;have hz4:=hg1.size;(try simp only[World.size_alloc,World.size_drew,World.size_setCell] at hz4);have hb4:Below BB wp w4:=Below.grown Yb hg1 Y15 (fun k e=>(hOWN.out.lt k e).1))|(refine Q24 rfl (.tmp 81) (.tmp 83) _ rfl BB 41 i0 _ 5 12 Tryz.underlying29 hi0 hj0 hj1 hj2 rfl Y1 v1 (out.length+1) _ rfl hown1 (if cx=1 then (⟨gx,ox,none⟩:Addr) else ⟨gx,ox+5,none⟩) r.length (cx-1) (Q2a r) Y21 (Q2v r) (Q3x.tailC (hROW.out.keep Yb) hg1 hNE.out hcx) (Q84 r) Yk Y1 Y1 ?_;intro v2 w5 hown2 hg2 hat2;have hz5:=hg2.size;have hb5:Below BB wp w5:=Below.grown hb4 hg2 Y1 (fun k e=>(hown1.lt k e).1)))
        go_wp2_with (go_at_call 31;refine Y8z ?_;intro w3 hb3 hz3)
        go_roundw
        case rel=>exact⟨f,_,out++x::r,rfl,hnl,hns,Y1,hR2,Qd (Q1k (ys:=Q2a (out++x::r)) (m:=(out++x::r).length) hown2 Y4 Y22) Yb,Y4,Y15,Yb,hBp.trans ((Yb:Below BB wp _).mono Y1)⟩
        case measure=>simp[intOf];omega
      all_goals
       have hR1:=(Co.rwGo_hop (f:=f) (out:=out) hlt HX.out (show Co.isHop x=true by unfold Co.isHop;rw[h9,h10];rfl)).symm.trans hR.out;clear hR;rw[HBT.out] at hR1;by_cases ht:0≤t∧t<l.length+1
       · obtain⟨ht0,ht1⟩:=ht
         have q0:decide (0≤t)=true:=decide_eq_true ht0;have q1:decide (t<(l.length:Int)+1)=true:=decide_eq_true ht1;rw[decide_eq_true ht0,decide_eq_true ht1] at hR1;simp only[Bool.and_self,if_true] at hR1;have hpl:=Co.placeN_le hG.out es t.toNat;have hp0:=(HP.out.1 t.toNat Y1);generalize hpp:Co.placeN l es t.toNat=p at hR1 hpl;have HPP:=Lib.hid hpp;clear hpp;unfold Co.placeV at hp0;rw[HPP.out] at hp0;clear hp0;have hR2:=Lib.hid hR1;clear hR1
         go_wp2_with (first|(go_at_call 58;(with_reducible refine (Qdc _ _ _ _ _ _ _ _ (hI.keep hB) hG.out hs (hE.keep hB) hEL hke hlc hd).mono ?_);rw[HBT.out,HX.out,List.length_cons];rintro e w1 ⟨gx,ox,cx,rfl,hcx,hgx,hrow,hb1⟩;(have hz1:=hb1.size);(obtain⟨c0,c1,c2,c3,c4⟩:=hrow.head);(have zx:=Q1 c0);(have hROW:=Lib.hid hrow);(clear hrow);(have hob:=Qd hown hb1);(have hOWN:=Lib.hid hob);(clear hob))|(go_at_call 20;(with_reducible refine (Q88 _ _).mono ?_);rintro e w2 ⟨rfl,hb2⟩;obtain⟨hc2,hf2,hz2⟩:=Q17 hb2;(try simp only[World.size_alloc,World.size_setCell,World.size_drew] at hc2 hf2 hz2);(have uc0:w2.cell? ⟨w1.heap.size,0,none⟩=some (.int .u8 (N8 x.op)):=Yhd);(have uc1:w2.cell? ⟨w1.heap.size,1,none⟩=some (.int .u8 (N8 x.dst)):=Yhd);(have uc2:w2.cell? ⟨w1.heap.size,2,none⟩=some (.int .u8 (N8 x.src)):=Yhd);(have uc3:w2.cell? ⟨w1.heap.size,3,none⟩=some (.int .i16 (I16 x.off)):=Yhd);(have uc4:w2.cell? ⟨w1.heap.size,4,none⟩=some (.int .i32 (I32 x.imm)):=Yhd);(have uf:∀ i,w2.frozen? ⟨w1.heap.size,i,none⟩=false:=Yhw);clear hc2 hf2))
         have hNE:=Lib.hid (HNE.out gx hgx);clear HNE;refine Q1g (fun W=>(W.cell? ⟨w1.heap.size,0,none⟩=some (.int .u8 (N8 x.op))∧W.cell? ⟨w1.heap.size,1,none⟩=some (.int .u8 (N8 x.dst))∧W.cell? ⟨w1.heap.size,2,none⟩=some (.int .u8 (N8 x.src))∧W.cell? ⟨w1.heap.size,3,none⟩=some (.int .i16 (I16 x.off))∧W.cell? ⟨w1.heap.size,4,none⟩=some (.int .i32 (I32 x.imm)))∧(∀ i,W.frozen? ⟨w1.heap.size,i,none⟩=false)∧w1.heap.size<W.heap.size∧Below w1.heap.size w1 W∧W.cell? ⟨gP,t.toNat,none⟩=some (.int .i64 p)) ⟨⟨Yhd,Yhd,Yhd,Yhd,Yhd⟩,Yhw,Y15,Yb,by rw[((HP.out.below hzP Yb).1 t.toNat Y1)];show some (Value.int .i64 (Co.placeN l es t.toNat))=_;rw[HPP.out]⟩ ?_;rintro W0 ⟨⟨k0,k1,k2,k3,k4⟩,kf,hzW,hbW,hpc⟩;have hd1:(-1000000:Int)≤(p:Int)-out.length-1:=Y1;have hd2:(p:Int)-out.length-1≤1000000:=Y1
         refine Q2 (RwC x w1.heap.size gP t.toNat p ((p:Int)-out.length-1) w1) [13] [] (fun _ c=>.pointer (some ⟨c.1,0,none⟩)) rfl Yc ?_ (fun d d' ν w'=>Qu3 d d' ν w') (fun d ν w' w1=>Qu4 d ν w' w1) (fun i hi=>Yf0) ?_
         · intro d ν hd;refine⟨?_,?_,?_,?_,?_,?_,?_,?_,Yb⟩<;>first|(simp (maxDischargeDepth:=12) [*,hd,upd,Qo,go_sem,↓IntWalk.iteOmega];done)|(intro i;simp (maxDischargeDepth:=12) [*,upd,Qo,go_sem,↓IntWalk.iteOmega];done)|(intro h;rw[hd _ Y0] at h;cases h)|go_size|(simp;omega)
         apply Exists.intro;refine⟨fun ν=>?_,?_,?_⟩
         · (try simp only[List.append])
           iterate 13 refine Yeb ?_
           (refine Qh rfl rfl rfl rfl Yc (fun d w' hd hC=>?_) ?_
            · obtain⟨k0,k1,k2,k3,k4,k5,k6,k7,k8⟩:=hC
              (try have p13:=hd.ahead 13 Yd);have r:=hd.open_;refine⟨_,Y11,?_⟩
              refine⟨?_,?_,?_,?_,?_,?_,?_,?_,Yg⟩<;>first|(simp (maxDischargeDepth:=12) [*,upd,Qo,go_sem,↓IntWalk.iteOmega];done)|(intros;simp (maxDischargeDepth:=12) [*,upd,Qo,go_sem,↓IntWalk.iteOmega];done))
           iterate 1 refine Yeb ?_
           exact rfl
         · intro i hi;cases hi
         · intro ν w9 d hd hC
           obtain⟨k0,k1,k2,k3,k4,k5,k6,k7,k8⟩:=hC;have q13:=hd 13 Y0;simp only[q13,cond_true,cond_false,forall_const,true_implies] at k0 k1 k2 k3 k4 k5 k6 k7 k8;clear q13;clear hd;refine Yvn ?_;intro z0 z1;cases hhb:Co.hopB x ((p:Int)-out.length-1)
           · have hR3:=Lib.hid (show Co.rewrite l es=none from Co.rewrite_none (by have:=hR2.out;rw[hhb] at this;exact this.symm))
             clear hR2;go_wp2;go_ret2;exact .inr ⟨rfl,hR3.out,Yb⟩
           · have hR3:=hR2.out
             clear hR2;rw[hhb] at hR3;simp only[if_true] at hR3;have hR2:=Lib.hid hR3;clear hR3;go_wp2
             refine Q1g (fun W=>(W.cell? ⟨w1.heap.size,0,none⟩=some (.int .u8 (N8 (Co.hopX x ((p:Int)-out.length-1)).op))∧W.cell? ⟨w1.heap.size,1,none⟩=some (.int .u8 (N8 (Co.hopX x ((p:Int)-out.length-1)).dst))∧W.cell? ⟨w1.heap.size,2,none⟩=some (.int .u8 (N8 (Co.hopX x ((p:Int)-out.length-1)).src))∧W.cell? ⟨w1.heap.size,3,none⟩=some (.int .i16 (I16 (Co.hopX x ((p:Int)-out.length-1)).off))∧W.cell? ⟨w1.heap.size,4,none⟩=some (.int .i32 (I32 (Co.hopX x ((p:Int)-out.length-1)).imm)))∧(∀ i,W.frozen? ⟨w1.heap.size,i,none⟩=false)∧Hid (Q3x W gx ox (Q2a (x::r)))∧Hid (W.ownsRow BB 41 5 (.slice pO out.length cO) out.length (Q2a out))∧w1.heap.size<W.heap.size∧Below BB wp W∧Below w.heap.size w W) ⟨⟨Yhd,Yhd,Yhd,Yhd,Yhd⟩,Yhw,Lib.hid (hROW.out.keep Yb),Lib.hid (Qd hOWN.out Yb),Y15,Yb,Yb⟩ ?_
             clear hROW hOWN;rintro W ⟨⟨k0,k1,k2,k3,k4⟩,kf,hROW,hOWN,hzW,hbW,hBW⟩;have hq:(1:Int)≤(r.length:Int)+1:=Y1
             go_region_law (first|(refine Q24 rfl (.tmp 78) (.tmp 80) _ rfl BB 41 i0 _ 5 12 Tryz.underlying29 hi0 hj0 hj1 hj2 rfl Y1 (.slice pO out.length cO) out.length (Q2a out) rfl (Qd hOWN.out Yb) _ 1 1 (In.cells (Co.hopX x ((p:Int)-out.length-1))).toList rfl rfl (fun j u hu=>by rw[Q7k];match j,hu with|0,hu=>(simp[In.cells] at hu;subst hu;simp[*,go_sem])|1,hu=>(simp[In.cells] at hu;subst hu;simp[*,go_sem])|2,hu=>(simp[In.cells] at hu;subst hu;simp[*,go_sem])|3,hu=>(simp[In.cells] at hu;subst hu;simp[*,go_sem])|4,hu=>(simp[In.cells] at hu;subst hu;simp[*,go_sem])|j+5,hu=>simp[In.cells] at hu) Yo Yk Y1 Y15 ?_;intro v1 w4 hown1 hg1 hat1;have hz4:=hg1.size;(try simp only[World.size_alloc,World.size_drew,World.size_setCell] at hz4);have hb4:Below BB wp w4:=Below.grown Yb hg1 Y15 (fun k e=>(hOWN.out.lt k e).1))|(refine Q24 rfl (.tmp 81) (.tmp 83) _ rfl BB 41 i0 _ 5 12 Tryz.underlying29 hi0 hj0 hj1 hj2 rfl Y1 v1 (out.length+1) _ rfl hown1 (if cx=1 then (⟨gx,ox,none⟩:Addr) else ⟨gx,ox+5,none⟩) r.length (cx-1) (Q2a r) Y21 (Q2v r) (Q3x.tailC (hROW.out.keep Yb) hg1 hNE.out hcx) (Q84 r) Yk Y1 Y1 ?_;intro v2 w5 hown2 hg2 hat2;have hz5:=hg2.size;have hb5:Below BB wp w5:=Below.grown hb4 hg2 Y1 (fun k e=>(hown1.lt k e).1)))
             go_wp2_with (go_at_call 31;refine Y8z ?_;intro w3 hb3 hz3)
             go_roundw
             case rel=>exact⟨f,_,out++(Co.hopX x ((p:Int)-out.length-1))::r,rfl,hnl,hns,Y1,hR2,Qd (Q1k (ys:=Q2a (out++(Co.hopX x ((p:Int)-out.length-1))::r)) (m:=(out++(Co.hopX x ((p:Int)-out.length-1))::r).length) hown2 Y4 Y22) Yb,Y4,Y15,Yb,hBp.trans ((Yb:Below BB wp _).mono Y1)⟩
             case measure=>simp[intOf];omega
       · have hR2:=Lib.hid (show Co.rewrite l es=none from Co.rewrite_none (by rw[← hR1,if_neg (by simpa using ht)]))
         clear hR1;by_cases ht0:0≤t
         · have ht1:¬ t<(l.length:Int)+1:=fun h=>ht ⟨ht0,h⟩
           clear ht;have q0:decide (0≤t)=true:=decide_eq_true ht0;have q1:decide (t<(l.length:Int)+1)=false:=decide_eq_false ht1;clear ht0 ht1;exact Ykb
         · clear ht
           have q0:decide (0≤t)=false:=decide_eq_false ht0;clear ht0;exact Ykb
    · have HX:=(Co.becX_drop (l:=l) hd).1
      have hR2:=Lib.hid ((Co.rwGo_drop hlt HX).symm.trans hR.out);clear hR HX;go_wp2_with ((with_reducible apply ic);first|(go_at_call 58;(with_reducible refine (Q9a _ _ _ _ _ _ _ _ (hI.keep hB) hG.out hs (hE.keep hB) hEL hke hd).mono ?_);refine Y8i ?_;intro w1 hb1 hz1)|(refine Y8z ?_;intro w3 hb3 hz3))
      go_roundw
      case rel=>exact⟨f,_,out,rfl,hnl,hns,Y1,hR2,Qd hown Yb,Y1,Y15,Yb,Yb⟩
      case measure=>simp[intOf];omega
  · have hRR:=Co.rewrite_some (hR.out.symm.trans (Co.rwGo_end hlt f))
    have hol2:out.length≤1024:=Y1;have hOWN:=Lib.hid hown;cases hgo:Co.good out
    · rw[hgo] at hRR
      have hR2:=Lib.hid hRR;clear hRR hR;rcases Nat.eq_zero_or_pos out.length with h0|h0
      · obtain rfl:=List.length_eq_zero_iff.1 h0
        simp only[List.length_nil];clear hown h0;go_wp2_with (go_at_call 56;refine Y92 ?_;intro wz hbz hzz);go_ret2;exact .inr ⟨rfl,hR2.out,Yb⟩
      · obtain⟨go,co,hvo,hgo1,hgo2,hgo3,hIo,hfo⟩:=Q2b hown h0
        injection hvo with e1 _ e2
        subst e1;subst e2;have HGO:=Lib.hid hgo;clear hgo hfo;go_wp2_with (go_at_call 56;refine Y93 ?_;intro wz hbz hzz);go_ret2;exact .inr ⟨rfl,hR2.out,Yb⟩
    · rw[hgo] at hRR
      have hR2:=Lib.hid hRR;clear hRR hR;have h0:0<out.length:=by have:=(Co.good_facts hgo).1;omega
      obtain⟨go,co,hvo,hgo1,hgo2,hgo3,hIo,hfo⟩:=Q2b hown h0
      injection hvo with e1 _ e2
      subst e1;subst e2;have HGO:=Lib.hid hgo;clear hgo hfo;go_wp2_with (go_at_call 56;refine Y93 ?_;intro wz hbz hzz);go_ret2;exact .inl ⟨_,out,rfl,hR2.out,Q1a (Qd hOWN.out Yb) Y1,Yb⟩
end Hk
