/- A part of the proof of TopTwice. No condition but each statement's own. -/
import Derived.Test.YtkgmipfmphlpgaaGreatK06
import Derived.Test.YtkgmipfmphlpgaaGreatK08
open Go Go.RowKit Go.Proofs
set_option linter.all false
set_option maxRecDepth 100000
set_option maxHeartbeats 20000000
namespace Hk
theorem Qzh (x:In)(w:World):Calls Tryz.prog 33 #[x] w (RB.a w (.tuple #[(Co.whatW x),.bool (Co.whatB x)])):=by
 cases hd:decide (10#8<x.dst)
 case' false=>cases hs:decide (10#8<x.src)
 case' false.false=>cases h24:(x.op==24#8)
 case' false.false.false=>cases h1:(x.op==212#8)
 case' false.false.false.false=>cases h2:(x.op==220#8)
 case' false.false.false.false.false=>cases h3:(x.op==215#8)
 case' false.false.false.false.false.false=>cases c4:(Co.cls x==4#8)
 case' false.false.false.false.false.false.false=>cases c7:(Co.cls x==7#8)
 case' false.false.false.false.false.false.false.false=>cases c5:(Co.cls x==5#8)
 case' false.false.false.false.false.false.false.false.false=>cases c6:(Co.cls x==6#8)
 case' false.false.false.false.false.false.false.false.false.false=>cases c0:(Co.cls x==0#8)
 all_goals
  go_enter Tryz.func33,Tryz.ntmps33;go_wp2_with ((with_reducible apply ic);first|(refine Yaw ?_;intro w1 hb1 hc1 hf1 hz1)|(refine Y2g ?_;intro w2 hb2 hc2 hf2 hz2));refine bodyPost_ret (Q1i (fn:=Tryz.f33) rfl _ _ (w.heap.size+1) (Co.whatW x) (Co.whatB x) rfl ?_ ?_ ?_ ?_ ?_ ?_ ?_) rfl ⟨rfl,Yb⟩
  all_goals simp (maxDischargeDepth:=12) [*,go_sem,↓IntWalk.iteOmega,Qb,Co.whatW,Co.whatB,Wh.none]
theorem Q88 (x:In)(w:World):Calls Tryz.prog 20 #[x] w (RB.a w (.tuple #[(Co.what x),.bool (Co.whatB x)])):=by
 cases h:Co.whatB x
 all_goals
  go_enter Tryz.func20,Tryz.ntmps20;go_wp2_with (go_at_call 33;refine Y2m ?_;intro w1 hb1 hc1 hf1 hz1);refine bodyPost_ret (Q1i (fn:=Tryz.f20) rfl _ _ (w.heap.size+1) (Co.what x) (_) rfl ?_ ?_ ?_ ?_ ?_ ?_ ?_) rfl ⟨rfl,Yb⟩
  all_goals simp (maxDischargeDepth:=12) [*,go_sem,↓IntWalk.iteOmega,Qb,Co.what,Wh.none]
end Hk
namespace Hk
theorem Q5k (b c:Nat)(l:List In)(k:Nat)(w:World)(hI:Q14 w b l)(hL:l.length≤100000)(hk:k<l.length):Calls Tryz.prog 31 #[.slice (some ⟨b,0,none⟩) l.length c,.int .i64 k] w (RB.a w (.int .i64 (Co.nextK l k:Nat))):=by
 obtain⟨c0,c1,c2,c3,c4⟩:=hI k hk;rw[Co.nextK_at hk];generalize l[k]=x at *;cases hw:Co.wide2 x
 all_goals
  go_enter Tryz.func31,Tryz.ntmps31;go_wp2_with (go_at_call 32;refine Y2n ?_;intro w1 hb1 hc1 hf1 hz1);go_ret;exact⟨by (first|rfl|(simp[*,go_sem];done)),Yb⟩
theorem Q66 (n:Nat)(hn:n≤1000000):∀ w:World,(Instr.makeSlice 55 (.int .i64 (n:Int)) (.int .i64 (n:Int))).run Tryz.prog w=.ok (.slice (some ⟨w.heap.size,0,none⟩) n n) (w.alloc (.cells (madeCells #[.bool false] n) 4)):=fun w=>by
 have:=Qfy (P:=Tryz.prog) (t:=55) (e:=4) (sz:=1) (by_:=1) (zc:=#[.bool false]) Yc Yc n hn Y1 w
 rwa [Nat.mul_one] at this
theorem Qf6 {l:List In}{w0 w1:World}{g k:Nat}(hk:k<l.length)(hup:∀ j,Co.metAll l k j=true→Co.start l j=true)(hB:Qi w0 g l.length (fun j=>Co.start l j && !Co.metAll l k j))(hg:g<w0.heap.size)
 (hb:Below (w0.setCell ⟨g,k,none⟩ (.bool true)).heap.size (w0.setCell ⟨g,k,none⟩ (.bool true)) w1):Qi w1 g l.length (fun j=>Co.start l j && !Co.metAll l (Co.nextK l k) j) :=
 (hB.set hk true fun j _=>Co.starts_at hk hup j).keep (by simpa using hg) hb
theorem Q3v (b c:Nat)(l:List In)(w:World)(hI:Q14 w b l)(hL:l.length≤100000):Calls Tryz.prog 17 #[.slice (some ⟨b,0,none⟩) l.length c] w fun e w'=>e=.returned (.slice (some ⟨w.heap.size,0,none⟩) l.length l.length)∧Qi w' w.heap.size l.length (Co.start l)∧w.heap.size+1≤w'.heap.size∧Below w.heap.size w w':=by
 have hmk:=Q66 l.length Y1;have h0:Qi (w.alloc (.cells (madeCells #[.bool false] l.length) 4)) w.heap.size l.length (fun j=>Co.start l j && !Co.metAll l 0 j):=⟨fun j hj=>by rw[Q3t hj];simp[Co.start,Co.metAll,Nat.mod_one],fun j=>Q2u j⟩;have H0:=Lib.hid h0;clear h0;go_enter Tryz.func17,Tryz.ntmps17;go_wp2
 go_loopw [4] (fun s4 wr=>∃ k:Nat,k≤l.length+1∧s4=.int .i64 k∧Hid (∀ j,Co.metAll l k j=true→Co.start l j=true)∧Hid (Qi wr w.heap.size l.length (fun j=>Co.start l j && !Co.metAll l k j))∧w.heap.size+1≤wr.heap.size∧Below w.heap.size w wr) (fun s4 _=>l.length+1 - (intOf s4).toNat)
 case atStart =>
  exact⟨0,Y1,rfl,fun j h=>h,H0,by simp,Yb⟩
 case round =>
  obtain⟨k,hk,rfl,hup,hB,hz,hbl⟩:=hrel;clear hmk H0;by_cases hlt:k<l.length
  · have hck:=hB.out.1 k hlt
    have hfk:=hB.out.2 k;go_wp2_with (go_at_call 31;refine Y2o ?_;intro w1 hb1)
    go_roundw
    case rel=>exact⟨Co.nextK l k,by have:=Co.nextK_le l k;omega,rfl,Co.starts_up hlt hup.out,Lib.hid (Qf6 hlt hup.out hB.out Y1 hb1),by have:=hb1.size;simp at this;omega,Yb⟩
    case measure=>simp[intOf];have:=Co.nextK_gt l k;omega
  · go_wp2
    go_ret;refine⟨rfl,?_,hz,hbl⟩;exact⟨fun j hj=>by have e:=Co.metAll_end (l:=l) (k:=k) Y1 j;rw[hB.out.1 j hj];simp only[e,Bool.not_false,Bool.and_true],hB.out.2⟩
theorem Q14t (b c:Nat)(l:List In)(k:Nat)(w:World)(hI:Q14 w b l)(hL:l.length≤100000)(hk:k<l.length):Calls Tryz.prog 19 #[.slice (some ⟨b,0,none⟩) l.length c,.int .i64 k] w (RB.a w (.tuple #[.int .i64 (Co.toI l k),.bool (Co.toB l k)])):=by
 obtain⟨c0,c1,c2,c3,c4⟩:=hI k hk;have hbw:=hI.lt (Nat.lt_of_le_of_lt (Nat.zero_le _) hk);have ex:l.getD k In.zero=l[k]:=Yf2;have eI:Co.toI l k=if (Co.isHop l[k])=true then (if (l[k].op==6#8)=true then k+1+I32 l[k].imm else k+1+I16 l[k].off) else 0:=by unfold Co.toI;rw[ex]
 have eB:Co.toB l k=Co.isHop l[k]:=by unfold Co.toB;rw[ex]
 unfold Co.isHop at eI eB;have b1:=Q7n l[k].imm;have b2:=Qee l[k].off;obtain⟨b1,b1'⟩:=b1;obtain⟨b2,b2'⟩:=b2;generalize l[k]=x at *;have n9:((Co.what x).kind != 9) = !((Co.what x).kind==9):=rfl;have n10:((Co.what x).kind != 10) = !((Co.what x).kind==10):=rfl;cases h9:((Co.what x).kind==9)
 all_goals cases h10:((Co.what x).kind==10)
 all_goals cases h6:(x.op==6#8)
 all_goals
  rw[h9] at n9 eI eB;rw[h10] at n10 eI eB;rw[h6] at eI;simp only[Bool.true_or,Bool.false_or,Bool.or_true,Bool.or_false,if_true,if_false,Bool.false_eq_true] at eI eB;have EI:=Lib.hid eI;have EB:=Lib.hid eB;clear eI eB ex;go_enter Tryz.func19,Tryz.ntmps19;go_wp2_with (go_at_call 20;refine Y2p ?_;intro w1 hb1 hc1 hf1 hz1);go_ret2;exact⟨by rw[EI.out,EB.out];first|rfl|(simp[*,go_sem];done),Yb⟩
theorem Q2w (b c:Nat)(l:List In)(k:Nat)(w:World)(hI:Q14 w b l)(hL:l.length≤100000)(hk:k<l.length):Calls Tryz.prog 27 #[.slice (some ⟨b,0,none⟩) l.length c,.int .i64 k] w (RB.a w (.tuple #[.int .i64 (Co.target l k),.bool (Co.targetB l k)])):=by
 cases ht:Co.toB l k
 · have ET:=Lib.hid (show Co.targetB l k=false by unfold Co.targetB;rw[ht];rfl)
   exact Ynx
 · by_cases h0:0≤Co.toI l k
   · by_cases h1:Co.toI l k<l.length
     · have ET:=Lib.hid (show Co.targetB l k=true by unfold Co.targetB Co.inB;rw[ht];simp[h0,h1])
       have EV:=Lib.hid (show (Co.target l k:Int)=Co.toI l k by unfold Co.target;rw[ET.out,if_pos rfl];exact Int.toNat_of_nonneg h0);exact Yu2
     · have ET:=Lib.hid (show Co.targetB l k=false by unfold Co.targetB Co.inB;rw[ht];simp[h0,h1])
       exact Ynx
   · have ET:=Lib.hid (show Co.targetB l k=false by unfold Co.targetB Co.inB;rw[ht];simp[h0])
     exact Ynx
theorem Qse (b c:Nat)(l:List In)(k:Nat)(w:World)(hI:Q14 w b l)(hL:l.length≤100000)(hk:k<l.length):Calls Tryz.prog 18 #[.slice (some ⟨b,0,none⟩) l.length c,.int .i64 k] w (RB.a w (.bool (Co.whole l k))):=by
 obtain⟨c0,c1,c2,c3,c4⟩:=hI k hk;have hbw:=hI.lt (Nat.lt_of_le_of_lt (Nat.zero_le _) hk);have ex:l.getD k In.zero=l[k]:=Yf2;cases hw:Co.whatB l[k]
 · generalize hx:l[k]=x at *
   have EW:=Lib.hid (show Co.whole l k=false by unfold Co.whole;simp only[ex];rw[hw];rfl);exact Ynk
 · cases h2:Co.wide2 l[k]
   · generalize hx:l[k]=x at *
     have EW:=Lib.hid (show Co.whole l k=true by unfold Co.whole;simp only[ex];rw[hw,h2];rfl);exact Ynk
   · by_cases hlt:k+1<l.length
     · obtain⟨d0,d1,d2,d3,d4⟩:=hI (k+1) hlt
       have ey:l.getD (k+1) In.zero=l[k+1]:=Yf6;generalize hx:l[k]=x at *;generalize hy:l[k+1]=y at *;clear hx hy;cases h3:((Co.what x).kind==3)
       · have EW:=Lib.hid (show Co.whole l k=In.eqB y In.zero from Yf7)
         exact Ynl
       · have EW:=Lib.hid (show Co.whole l k=In.eqB { y with imm:=0#32 } In.zero from Yf7)
         exact Ynl
     · generalize hx:l[k]=x at *
       have EW:=Lib.hid (show Co.whole l k=false by unfold Co.whole;simp only[ex];rw[hw,h2];simp[hlt]);exact Ynk
theorem Q31 (b c:Nat)(l:List In)(w:World)(hI:Q14 w b l)(hL:l.length≤100000):Calls Tryz.prog 10 #[.slice (some ⟨b,0,none⟩) l.length c] w (RB.a w (.tuple #[.int .i64 (Co.check l).1,.int .i64 (Co.check l).2])):=by
 by_cases h0:l.length<1∨512<l.length
 · have EC:=Lib.hid (Co.check_size h0)
   rcases h0 with h0|h0
   · have z:l.length=0:=by omega
     have z':=Lib.hid z;have q:decide ((l.length:Int)<1)=true:=Y4;clear z;exact Yr5
   · exact Yr5
 · have h1:1≤l.length:=by omega
   have h2:l.length≤512:=Y1;have h0:=Lib.hid h0;have hbw:=hI.lt Y1;go_enter Tryz.func10,Tryz.ntmps10;go_wp2_with (go_at_call 17;refine Y2s ?_;intro w1 hB1 hz1 hb1 hc1 hf1 hzz1)
   go_loopw [5,26] (fun s5 s26 wr=>∃ k:Nat,k≤l.length∧s26=.int .i64 k∧s5=.int .i64 (Co.endOf l k:Nat)∧Hid (∀ j,j<k→Co.bad1 l j=false)∧Hid (Qi wr w.heap.size l.length (Co.start l))∧w.heap.size+1≤wr.heap.size∧Below w.heap.size w wr) (fun _ s26 _=>l.length - (intOf s26).toNat)
   case atStart =>
    exact⟨0,Y1,rfl,rfl,fun j h=>Y1,Lib.hid hB1,hz1,hb1⟩
   case round =>
    obtain⟨k,hk,rfl,rfl,hn1,hB,hz,hbl⟩:=hrel;clear hB1 hz1 hb1 hc1 hf1 hzz1;by_cases hlt:k<l.length
    · have hck:=hB.out.1 k hlt
      cases hs:Co.start l k
      all_goals rw[hs] at hck
      · go_wp2_with (go_at_call 18;refine Y2u ?_;intro w1 hb1 hc1 hf1 hz1)
        go_roundw
        case rel=>exact⟨k+1,Y1,Yf1,Yfa,fun j hj=>if e:j=k then (by subst e;unfold Co.bad1;rw[hs];rfl) else hn1.out j Y1,Yfb,Yfc,Yb⟩
        case measure=>simp[intOf];omega
      · cases hw:Co.whole l k
        · have EC:=Lib.hid (Co.check_1 h0.out hlt hn1.out (show Co.bad1 l k=true by unfold Co.bad1;rw[hs,hw];rfl))
          go_wp2_with (go_at_call 18;refine Y2u ?_;intro w1 hb1 hc1 hf1 hz1);go_ret2;exact⟨Yf9,Yb⟩
        · go_wp2_with (go_at_call 18;refine Y2u ?_;intro w1 hb1 hc1 hf1 hz1)
          go_roundw
          case rel=>exact⟨k+1,Y1,Yf1,Yfa,fun j hj=>if e:j=k then (by subst e;unfold Co.bad1;rw[hs,hw];rfl) else hn1.out j Y1,Yfb,Yfc,Yb⟩
          case measure=>simp[intOf];omega
    · obtain rfl:k=l.length:=by omega
      go_wp2;clear hlt hk
      go_loopw [44] (fun s44 wr=>∃ k:Nat,k≤l.length∧s44=.int .i64 k∧Hid (∀ j,j<k→Co.bad2 l j=false)∧Hid (Qi wr w.heap.size l.length (Co.start l))∧w.heap.size+1≤wr.heap.size∧Below w.heap.size w wr) (fun s44 _=>l.length - (intOf s44).toNat)
      case atStart =>
       exact⟨0,Y1,rfl,fun j h=>Y1,hB,hz,hbl⟩
      case round =>
       clear hB hz hbl;obtain⟨k,hk,rfl,hn2,hB,hz,hbl⟩:=hrel;by_cases hlt:k<l.length
       · have hck:=hB.out.1 k hlt
         cases hs:Co.start l k
         all_goals rw[hs] at hck
         · go_wp2_with (go_at_call 19;refine Y2v ?_;intro w1 hb1 hc1 hf1 hz1)
           go_roundw
           case rel=>exact⟨k+1,Y1,Yf1,fun j hj=>if e:j=k then (by subst e;unfold Co.bad2 Co.inB;simp[hs, *]) else hn2.out j Y1,Yfb,Yfc,Yb⟩
           case measure=>simp[intOf];omega
         · cases ht:Co.toB l k
           · go_wp2_with (go_at_call 19;refine Y2v ?_;intro w1 hb1 hc1 hf1 hz1)
             go_roundw
             case rel=>exact⟨k+1,Y1,Yf1,fun j hj=>if e:j=k then (by subst e;unfold Co.bad2 Co.inB;simp[hs,ht, *]) else hn2.out j Y1,Yfb,Yfc,Yb⟩
             case measure=>simp[intOf];omega
           · by_cases q0:0≤Co.toI l k
             · by_cases q1:Co.toI l k<l.length
               · have hck2:=hB.out.1 (Co.toI l k).toNat Y1
                 cases hm:Co.start l (Co.toI l k).toNat
                 all_goals rw[hm] at hck2
                 · have EC:=Lib.hid (Co.check_2 h0.out hn1.out hlt hn2.out (show Co.bad2 l k=true by unfold Co.bad2 Co.inB;simp[hs,ht,hm, *]))
                   exact Yu6
                 · go_wp2_with (go_at_call 19;refine Y2v ?_;intro w1 hb1 hc1 hf1 hz1)
                   go_roundw
                   case rel=>exact⟨k+1,Y1,Yf1,fun j hj=>if e:j=k then (by subst e;unfold Co.bad2 Co.inB;simp[hs,ht,hm, *]) else hn2.out j Y1,Yfb,Yfc,Yb⟩
                   case measure=>simp[intOf];omega
               exact Yne
             exact Yne
       · obtain rfl:k=l.length:=by omega
         have he:=Co.endOf_lt' (l:=l) Y1;obtain⟨c0,c1,c2,c3,c4⟩:=(hI.keep hbl) _ he;have ex:l.getD (Co.endOf l l.length) In.zero=l[Co.endOf l l.length]:=by rw[List.getD_eq_getElem?_getD,List.getElem?_eq_getElem he];rfl
         have ec:=Co.check_3 h0.out hn1.out hn2.out;rw[ex] at ec;unfold Co.stops at ec;generalize hx:l[Co.endOf l l.length]=x at *;have nE:(Co.endOf l l.length:Int)=(Co.endOf l l.length:Int):=rfl;have n9:((Co.what x).kind != 9) = !((Co.what x).kind==9):=rfl;have n12:((Co.what x).kind != 12) = !((Co.what x).kind==12):=rfl;cases h9:((Co.what x).kind==9)
         all_goals cases h12:((Co.what x).kind==12)
         all_goals
          rw[h9] at n9 ec;rw[h12] at n12 ec;simp only[Bool.true_or,Bool.false_or,Bool.or_true,Bool.or_false,if_true,if_false,Bool.false_eq_true] at ec;have EC:=Lib.hid ec;clear ec ex hx nE;go_wp2_with (go_at_call 20;refine Y2p ?_;intro w1 hb1 hc1 hf1 hz1);go_ret2;exact⟨Yf9,Yb⟩
end Hk
namespace Hk
attribute [go_sem] Qex Q7p
theorem Qyc (x y:In)(w:World):Calls Tryz.prog 91 #[x,y] w (RB.a w (.int .u64 (N (Co.longW x y)))):=by
 go_enter Tryz.func91,Tryz.ntmps91;go_wp2;go_ret;exact⟨by simp[Co.longW,go_sem],Yb⟩
theorem Q9w:(Tryz.prog.info? 5).map (fun i=>(i.zero,i.size,i.bytes))=some (some (.int .u8 0),1,1):=Yc
theorem Q13q (x:In)(hd:x.dst≤15#8)(hs:x.src≤15#8)(w:World):Calls Tryz.prog 14 #[x] w fun e w'=>∃ v,e=.returned (.tuple #[v,.int .i64 0])∧w'.ownsRow (w.heap.size+1) 5 1 v 8 (Co.bytesC x 8)∧Below w.heap.size w w':=by
 obtain⟨i0,hi0,hz0,hz1,hz2⟩:=info_parts Q9w;have g1:decide (15#8<x.dst)=false:=by simpa using BitVec.not_lt.2 hd
 have g2:decide (15#8<x.src)=false:=by simpa using BitVec.not_lt.2 hs
 clear hd hs;have b0:=Q7n x.imm;have HO:((w.alloc (.cells #[.int .u8 (N8 x.op),.int .u8 (N8 x.dst),.int .u8 (N8 x.src),.int .i16 (I16 x.off),.int .i32 (I32 x.imm)] 41)).alloc (.cells #[.int .u8 (N8 x.op),.int .u8 (N8 (x.dst ||| x.src <<< 4)),.int .u8 (N8 (x.off.setWidth 8)),.int .u8 (N8 ((x.off.sshiftRight 8).setWidth 8))] 5)).ownsRow (w.heap.size+1) 5 1 (.slice (some ⟨w.heap.size+1,0,none⟩) 4 4) 4 (Co.bytesC x 4):=by have:=Qbt (w:=(w.alloc (.cells #[.int .u8 (N8 x.op),.int .u8 (N8 x.dst),.int .u8 (N8 x.src),.int .i16 (I16 x.off),.int .i32 (I32 x.imm)] 41))) (B:=w.heap.size+1) (e:=5) (cs:=Co.bytesC x 4) 1 4 Y3 (by simp[Co.bytesC_length]) Y0;rw[World.size_alloc] at this;exact this
 have HO:=Lib.hid HO;go_enter Tryz.func14,Tryz.ntmps14;go_wp2;simp only[Qhh]
 go_loopw [4,5] (fun s4 s5 wr=>∃ k:Nat,k≤4∧s5=.int .i64 (8*k:Nat)∧wr.ownsRow (w.heap.size+1) 5 1 s4 (4+k) (Co.bytesC x (4+k))∧Below (w.heap.size+1) (w.alloc (.cells #[.int .u8 (N8 x.op),.int .u8 (N8 x.dst),.int .u8 (N8 x.src),.int .i16 (I16 x.off),.int .i32 (I32 x.imm)] 41)) wr) (fun _ s5 _=>32 - (intOf s5).toNat)
 case atStart =>
  exact⟨0,Y1,rfl,HO.out,Yb⟩
 case round =>
  obtain⟨k,hk,rfl,hown,hB⟩:=hrel;clear HO;have hz:=hB.size;simp only[World.size_alloc] at hz;have c4:wr.cell? ⟨w.heap.size,4,none⟩=some (.int .i32 (I32 x.imm)):=by rw[hB.cell (p:=⟨w.heap.size,4,none⟩) Y3];simp[go_sem]
  by_cases hlt:k<4
  · have hb:=Co.byteAt_imm x k hlt
    have HB:=Lib.hid hb;clear hb;have e2:=Q10t x.imm (8*k) Y1;go_wp2_with (at_builtin;(refine wpList_append_own _ rfl (.tmp 34) (.tmp 40) _ rfl (w.heap.size+1) 5 i0 _ 1 1 Tryz.underlying22 hi0 hz0 hz1 hz2 rfl Y1 _ (4+k) (Co.bytesC x (4+k)) rfl (Qd hown Yb) ⟨wr.heap.size,0,none⟩ 1 1 [.int .u8 (N8 ((x.imm.sshiftRight (8*k)).setWidth 8))] rfl Y3 (fun j u hu=>by cases j with|zero=>(simp at hu;subst hu;simp[go_sem])|succ j=>simp at hu) Yj Yk Y1 Yl ?_;intro v1 w1 hown1 hg1 hat1));refine⟨⟨k+1,Y1,by show Value.int .i64 (8*(k:Int)+8)=Value.int .i64 ((8*(k+1):Nat):Int);rw[show (8*(k:Int)+8)=((8*(k+1):Nat):Int) from Y1],by rw[show 4+(k+1)=4+k+1 from Y1,Co.bytesC_succ,HB.out];exact hown1,Below.grown Yb hg1 Y4 (fun j e=>(hown.lt j e).1)⟩,Yfd⟩
  · obtain rfl:k=4:=by omega
    go_wp2;go_ret2;exact⟨_,rfl,hown,Yb⟩
theorem Q39 {fn:Func}{p r:Tmp}(h:fn.results=#[.cell p 41,.tmp r])(tmps:Array Value)(w:World)(g:Nat)(y:In)(c:Value)
 (hp:tmps.getD p undef=.pointer (some ⟨g,0,none⟩)) (hr:tmps.getD r undef=c)
 (a0:w.cell? ⟨g,0,none⟩=some (.int .u8 (N8 y.op))) (a1:w.cell? ⟨g,1,none⟩=some (.int .u8 (N8 y.dst))) (a2:w.cell? ⟨g,2,none⟩=some (.int .u8 (N8 y.src))) (a3:w.cell? ⟨g,3,none⟩=some (.int .i16 (I16 y.off))) (a4:w.cell? ⟨g,4,none⟩=some (.int .i32 (I32 y.imm))) :
 Sem.run Tryz.prog (results fn tmps) w=.ok (.tuple #[y,c]) w:=by
 have hp':tmps[p]?.getD undef=.pointer (some ⟨g,0,none⟩):=Yew;have hr':tmps[r]?.getD undef=c:=Yej;simp only[results,h];simp[hp',hr',a0,a1,a2,a3,a4,go_sem]
def TkA (f:Nat→BitVec 8)(b o r:Nat)(w:World)(d:Nat→Bool)(ν:Nat→Nat × Nat)(w':World):Prop:=w'.cell? ⟨b,o,none⟩=some (.int .u8 (N8 (f 0)))∧w'.cell? ⟨b,o+1,none⟩=some (.int .u8 (N8 (f 1)))∧w'.cell? ⟨b,o+2,none⟩=some (.int .u8 (N8 (f 2)))∧w'.cell? ⟨b,o+3,none⟩=some (.int .u8 (N8 (f 3)))∧w'.cell? ⟨b,o+4,none⟩=some (.int .u8 (N8 (f 4)))∧w'.cell? ⟨b,o+5,none⟩=some (.int .u8 (N8 (f 5)))∧w'.cell? ⟨b,o+6,none⟩=some (.int .u8 (N8 (f 6)))∧w'.cell? ⟨b,o+7,none⟩=some (.int .u8 (N8 (f 7)))∧w'.cell? ⟨r,0,none⟩=some (.int .u8 0)∧w'.cell? ⟨r,1,none⟩=some (.int .u8 0)∧w'.cell? ⟨r,2,none⟩=some (.int .u8 0)∧w'.cell? ⟨r,3,none⟩=some (.int .i16 0)∧w'.cell? ⟨r,4,none⟩=some (.int .i32 0)∧(∀ i,w'.frozen? ⟨r,i,none⟩=false)∧(d 22=true→w'.cell? ⟨(ν 22).1,0,none⟩=some (bif d 23 then .int .u8 (N8 (f 0)) else .int .u8 0))∧(d 22=true→w'.cell? ⟨(ν 22).1,1,none⟩=some (bif d 23 then .int .u8 (N8 (f 1 &&& 15#8)) else .int .u8 0))∧(d 22=true→w'.cell? ⟨(ν 22).1,2,none⟩=some (bif d 23 then .int .u8 (N8 (f 1 >>> 4)) else .int .u8 0))∧(d 22=true→w'.cell? ⟨(ν 22).1,3,none⟩=some (bif d 23 then .int .i16 (I16 ((f 2).setWidth 16 ||| (f 3).setWidth 16 <<< 8)) else .int .i16 0))∧(d 22=true→w'.cell? ⟨(ν 22).1,4,none⟩=some (bif d 23 then .int .i32 0 else .int .i32 0))∧(d 22=true→∀ i,w'.frozen? ⟨(ν 22).1,i,none⟩=false)∧(d 22=true→r+1≤(ν 22).1)∧r+1≤w'.heap.size∧Below w.heap.size w w'
theorem Qe5 {f:Nat→BitVec 8}{b o r:Nat}{w:World}:KT (TkA f b o r w):=by
 intro d ν w' w1 h hb;obtain⟨k0,k1,k2,k3,k4,k5,k6,k7,k8,k9,k10,k11,k12,k13,k14,k15,k16,k17,k18,k19,k20,k21,k22⟩:=h;exact⟨Q0 hb k0,Q0 hb k1,Q0 hb k2,Q0 hb k3,Q0 hb k4,Q0 hb k5,Q0 hb k6,Q0 hb k7,Q0 hb k8,Q0 hb k9,Q0 hb k10,Q0 hb k11,Q0 hb k12,Q7 hb k8 k13,fun h=>Q0 hb (k14 h),fun h=>Q0 hb (k15 h),fun h=>Q0 hb (k16 h),fun h=>Q0 hb (k17 h),fun h=>Q0 hb (k18 h),fun h=>Q7 hb (k14 h) (k19 h),k20,Nat.le_trans k21 hb.size,Q8 k22 hb⟩
theorem Qu2 {f:Nat→BitVec 8}{b o r:Nat}{w:World}:MT (TkA f b o r w) [22,23]:=by
 intro d d' ν w' hd h;unfold TkA at *;simpa only[← hd 22 Y3,← hd 23 Y3] using h
theorem Q10h {f:Nat→BitVec 8}{b o r:Nat}{w:World}:NT (TkA f b o r w) [22]:=by
 intro i hi d ν c w' hd h;unfold TkA at *;exact Ypy
def TkB (f:Nat→BitVec 8)(k g r:Nat)(w:World)(d:Nat→Bool)(ν:Nat→Nat × Nat)(w':World):Prop:=w'.cell? ⟨g,0,none⟩=some (.int .u8 (N8 (f 0)))∧w'.cell? ⟨g,1,none⟩=some (.int .u8 (N8 (f 1 &&& 15#8)))∧w'.cell? ⟨g,2,none⟩=some (.int .u8 (N8 (f 1 >>> 4)))∧w'.cell? ⟨g,3,none⟩=some (.int .i16 (I16 ((f 2).setWidth 16 ||| (f 3).setWidth 16 <<< 8)))∧w'.cell? ⟨r,0,none⟩=some (.int .u8 0)∧w'.cell? ⟨r,1,none⟩=some (.int .u8 0)∧w'.cell? ⟨r,2,none⟩=some (.int .u8 0)∧w'.cell? ⟨r,3,none⟩=some (.int .i16 0)∧w'.cell? ⟨r,4,none⟩=some (.int .i32 0)∧w'.cell? ⟨g,4,none⟩=some (bif d 9 then .int .i32 (I32 (Co.immOf f k ||| (f (4+k)).setWidth 32 <<< (8*k))) else .int .i32 (I32 (Co.immOf f k)))∧(∀ i,w'.frozen? ⟨r,i,none⟩=false)∧(∀ i,w'.frozen? ⟨g,i,none⟩=false)∧r+1≤w'.heap.size∧r+1≤g∧Below w.heap.size w w'
theorem Qu1 {f:Nat→BitVec 8}{k g r:Nat}{w:World}:KT (TkB f k g r w):=by
 intro d ν w' w1 h hb;obtain⟨k0,k1,k2,k3,k4,k5,k6,k7,k8,k9,k10,k11,k12,k13,k14⟩:=h;exact⟨Q0 hb k0,Q0 hb k1,Q0 hb k2,Q0 hb k3,Q0 hb k4,Q0 hb k5,Q0 hb k6,Q0 hb k7,Q0 hb k8,Q0 hb k9,Q7 hb k4 k10,Q7 hb k0 k11,Nat.le_trans k12 hb.size,k13,Q8 k14 hb⟩
theorem Qu0 {f:Nat→BitVec 8}{k g r:Nat}{w:World}:MT (TkB f k g r w) [9]:=by
 intro d d' ν w' hd h;unfold TkB at *;simpa only[← hd 9 Y3] using h
def TkR (f:Nat→BitVec 8)(g r:Nat)(w:World)(m:BitVec 32)(wr:World):Prop:=wr.cell? ⟨g,0,none⟩=some (.int .u8 (N8 (f 0)))∧wr.cell? ⟨g,1,none⟩=some (.int .u8 (N8 (f 1 &&& 15#8)))∧wr.cell? ⟨g,2,none⟩=some (.int .u8 (N8 (f 1 >>> 4)))∧wr.cell? ⟨g,3,none⟩=some (.int .i16 (I16 ((f 2).setWidth 16 ||| (f 3).setWidth 16 <<< 8)))∧wr.cell? ⟨g,4,none⟩=some (.int .i32 (I32 m))∧wr.cell? ⟨r,0,none⟩=some (.int .u8 0)∧wr.cell? ⟨r,1,none⟩=some (.int .u8 0)∧wr.cell? ⟨r,2,none⟩=some (.int .u8 0)∧wr.cell? ⟨r,3,none⟩=some (.int .i16 0)∧wr.cell? ⟨r,4,none⟩=some (.int .i32 0)∧(∀ i,wr.frozen? ⟨r,i,none⟩=false)∧(∀ i,wr.frozen? ⟨g,i,none⟩=false)∧r+1≤g∧Below w.heap.size w wr
theorem Qya (b o c:Nat)(f:Nat→BitVec 8)(w:World)(hcap:8≤c)(hc:∀ j,j<8→w.cell? ⟨b,o+j,none⟩=some (.int .u8 (N8 (f j)))):Calls Tryz.prog 9 #[.slice (some ⟨b,o,none⟩) 8 c] w (RB.a w (.tuple #[(Co.takeOf f),.int .i64 0])):=by
 have h0:=hc 0 Y1;have h1:=hc 1 Y1;have h2:=hc 2 Y1;have h3:=hc 3 Y1;have h4:=hc 4 Y1;have h5:=hc 5 Y1;have h6:=hc 6 Y1;have h7:=hc 7 Y1;rw[Nat.add_zero] at h0;have HC:=Lib.hid hc;clear hc;have zb:=Q1 h0;go_enter Tryz.func9,Tryz.ntmps9;go_wp2_with fail;refine Q2 (TkA f b o w.heap.size w) [22,23] [22] (fun _ c=>.pointer (some ⟨c.1,0,none⟩)) rfl Yc ?_ (fun d d' ν w'=>Qu2 d d' ν w') (fun d ν w' w1=>Qe5 d ν w' w1) (fun i hi d ν c w'=>Q10h i hi d ν c w') ?_
 · intro d ν hd;refine⟨?_,?_,?_,?_,?_,?_,?_,?_,?_,?_,?_,?_,?_,?_,?_,?_,?_,?_,?_,?_,?_,?_,Yb⟩<;>first|(simp (maxDischargeDepth:=12) [*,hd,upd,Qo,go_sem,↓IntWalk.iteOmega,Qb];done)|(intro i;simp (maxDischargeDepth:=12) [*,upd,Qo,go_sem,↓IntWalk.iteOmega,Qb];done)|(intro h;rw[hd _ Y0] at h;cases h)|go_size|(simp;omega)
 apply Exists.intro;refine⟨fun ν=>?_,?_,?_⟩
 · (try simp only[List.append])
   iterate 22
    (refine Qa Y0 ?_
     apply Exists.intro;refine⟨fun D hD hR hN K hK=>?_,Yc,?_⟩
     · first
       | (go_big_quiet_skip;exact hK)
       | (go_big_quiet_want
          first
           | ((first|(refine Q5 rfl rfl (fun w' hC=>Yfe) ?_)|(refine Q5 rfl rfl (fun w' hC=>Yff) ?_)|(refine Q9 rfl rfl (fun w' hC=>Yfe) ?_)|(refine Q9 rfl rfl (fun w' hC=>Yff) ?_))
              simp only[Act.put,List.setIfInBounds_toArray,List.set_cons_succ,List.set_cons_zero]
              go_big_quiet_on
              exact hK)
           | (go_big_quiet_op
              first
               | (go_big_quiet_on;exact hK)
               | (apply Exists.intro
                  refine⟨fun w' hC=>?_,?_⟩
                  · exact Ysx
                  go_big_quiet_on
                  exact hK))))
   (refine Qq Y0 Yc (fun d w' hd hC=>?_) ?_
    · have r:=hd.open_
      have q23:d 23=false:=by
       cases hq:d 23 with
       | false=>rfl
       | true=>exact absurd (hd.shut 23 22 Yd hq) Ye
      refine⟨(w'.heap.size,0),w'.alloc (.cells #[.int .u8 0,.int .u8 0,.int .u8 0,.int .i16 0,.int .i32 0] 41),Yez,?_⟩;have hz0:=hC;obtain⟨-,-,-,-,-,-,-,-,-,-,-,-,-,-,-,-,-,-,-,-,-,hz0,-⟩:=hz0;have hC:=Qe5 _ _ _ _ hC (Below.alloc (Below.refl _ w') (Nat.le_refl _) (.cells #[.int .u8 0,.int .u8 0,.int .u8 0,.int .i16 0,.int .i32 0] 41));obtain⟨k0,k1,k2,k3,k4,k5,k6,k7,k8,k9,k10,k11,k12,k13,k14,k15,k16,k17,k18,k19,k20,k21,k22⟩:=hC;refine⟨?_,?_,?_,?_,?_,?_,?_,?_,?_,?_,?_,?_,?_,?_,?_,?_,?_,?_,?_,?_,?_,?_,?_⟩<;>first|assumption|(intros;simp (maxDischargeDepth:=12) [*,upd,Qo,go_sem,↓IntWalk.iteOmega,Qb];done)
    simp only[Act.put,List.setIfInBounds_toArray,List.set_cons_succ,List.set_cons_zero,Nat.reduceAdd,Nat.zero_add])
   (refine Qh rfl rfl rfl rfl Yc (fun d w' hd hC=>?_) ?_
    · obtain⟨k0,k1,k2,k3,k4,k5,k6,k7,k8,k9,k10,k11,k12,k13,k14,k15,k16,k17,k18,k19,k20,k21,k22⟩:=hC
      (try (have q22:=hd.ahead 22 Yd;simp only[q22,true_implies,forall_const] at k14 k15 k16 k17 k18 k19 k20));(try have p23:=hd.ahead 23 Yd);have r:=hd.open_;refine⟨_,Ym,?_⟩
      refine⟨?_,?_,?_,?_,?_,?_,?_,?_,?_,?_,?_,?_,?_,?_,?_,?_,?_,?_,?_,?_,?_,?_,Yg⟩<;>first|(simp (maxDischargeDepth:=12) [*,upd,Qo,go_sem,↓IntWalk.iteOmega,Qb];done)|(intro h;have h':d 22=true:=h;have hx:=k20 h';simp (maxDischargeDepth:=12) [*,upd,Qo,go_sem,↓IntWalk.iteOmega,Qb];done)|(intro h i;have h':d 22=true:=h;have hx:=k20 h';simp (maxDischargeDepth:=12) [*,upd,Qo,go_sem,↓IntWalk.iteOmega,Qb];done)|(intros;simp (maxDischargeDepth:=12) [*,upd,Qo,go_sem,↓IntWalk.iteOmega,Qb];done))
   exact rfl
 · exact Yoo
 · intro ν w9 d hd hC
   obtain⟨k0,k1,k2,k3,k4,k5,k6,k7,k8,k9,k10,k11,k12,k13,k14,k15,k16,k17,k18,k19,k20,k21,k22⟩:=hC;have q22:=hd 22 Y0;have q23:=hd 23 Y0;simp only[q22,q23,cond_true,cond_false,forall_const,true_implies] at k0 k1 k2 k3 k4 k5 k6 k7 k8 k9 k10 k11 k12 k13 k14 k15 k16 k17 k18 k19 k20 k21 k22;clear q22 q23;clear hd;have z0:=Q1 k0;have z8:=Q1 k8;have z14:=Q1 k14;have hR0:TkR f (ν 22).1 w.heap.size w 0#32 w9:=⟨k14,k15,k16,k17,k18,k8,k9,k10,k11,k12,k13,k19,k20,k22⟩;clear k0 k1 k2 k3 k4 k5 k6 k7 k8 k9 k10 k11 k12 k13 k14 k15 k16 k17 k18 k19 k21 k22;clear z0 z8 z14;generalize (ν 22).1=g at *;go_wp2_with fail
   go_loopw [36] (fun s36 wr=>∃ k:Nat,k≤4∧s36=.int .i64 k∧TkR f g w.heap.size w (Co.immOf f k) wr) (fun s36 _=>4 - (intOf s36).toNat)
   case atStart =>
    exact⟨0,Y1,rfl,hR0⟩
   case round =>
    obtain⟨k,hk,rfl,hR⟩:=hrel;clear hR0;have HR:=Lib.hid hR;obtain⟨e0,e1,e2,e3,e4,r0,r1,r2,r3,r4,fr,fg,hg,hb⟩:=hR;have zg:=Q1 e0;have zs:=hb.size;by_cases hlt:k<4
    · have hck:=HC.out (4+k) Y1
      rw[← Nat.add_assoc] at hck;have hck:=Q0 hb hck;have e32:bits .or .i32 (I32 (Co.immOf f k)) (RowKit.wrap32 (RowKit.wrap32 (N8 (f (4+k)))*2 ^ (8*k)))=I32 (Co.immOf f k ||| (f (4+k)).setWidth 32 <<< (8*k)):=Q16y _ _ _ hlt;go_wp2_with fail;refine Q2 (TkB f k g w.heap.size w) [9] [] (fun _ c=>.pointer (some ⟨c.1,0,none⟩)) rfl Yc ?_ (fun d d' ν w'=>Qu0 d d' ν w') (fun d ν w' w1=>Qu1 d ν w' w1) (fun i hi=>Yf0) ?_
      · intro d ν hd;refine⟨?_,?_,?_,?_,?_,?_,?_,?_,?_,?_,?_,?_,?_,?_,Yb⟩<;>first|(simp (maxDischargeDepth:=12) [*,hd,upd,Qo,go_sem,↓IntWalk.iteOmega,Qb];done)|(intro i;simp (maxDischargeDepth:=12) [*,upd,Qo,go_sem,↓IntWalk.iteOmega,Qb];done)|(intro h;rw[hd _ Y0] at h;cases h)|go_size|(simp;omega)
      apply Exists.intro;refine⟨fun ν=>?_,?_,?_⟩
      · (try simp only[List.append])
        iterate 9
         (refine Qa Y0 ?_
          apply Exists.intro;refine⟨fun D hD hR hN K hK=>?_,Yc,?_⟩
          · first
            | (go_big_quiet_skip;exact hK)
            | (go_big_quiet_want
               first
                | ((first|(refine Q5 rfl rfl (fun w' hC=>Yfg) ?_)|(refine Q5 rfl rfl (fun w' hC=>Yfh) ?_)|(refine Q9 rfl rfl (fun w' hC=>Yfg) ?_)|(refine Q9 rfl rfl (fun w' hC=>Yfh) ?_)|(refine Qe rfl rfl (fun w' hC=>Yfg) ?_)|(refine Qe rfl rfl (fun w' hC=>Yfh) ?_))
                   simp only[Act.put,List.setIfInBounds_toArray,List.set_cons_succ,List.set_cons_zero]
                   go_big_quiet_on
                   exact hK)
                | (go_big_quiet_op
                   first
                    | (go_big_quiet_on;exact hK)
                    | (apply Exists.intro
                       refine⟨fun w' hC=>?_,?_⟩
                       · exact Ysx
                       go_big_quiet_on
                       exact hK))))
        (refine Qh rfl rfl rfl rfl Yc (fun d w' hd hC=>?_) ?_
         · obtain⟨k0,k1,k2,k3,k4,k5,k6,k7,k8,k9,k10,k11,k12,k13,k14⟩:=hC
           (try have p9:=hd.ahead 9 Yd);have r:=hd.open_;refine⟨_,Ym,?_⟩
           refine⟨?_,?_,?_,?_,?_,?_,?_,?_,?_,?_,?_,?_,?_,?_,Yg⟩<;>first|(simp (maxDischargeDepth:=12) [*,upd,Qo,go_sem,↓IntWalk.iteOmega,Qb];done)|(intros;simp (maxDischargeDepth:=12) [*,upd,Qo,go_sem,↓IntWalk.iteOmega,Qb];done))
        exact rfl
      · intro i hi;cases hi
      · intro ν w8 d hd hC
        obtain⟨k0,k1,k2,k3,k4,k5,k6,k7,k8,k9,k10,k11,k12,k13,k14⟩:=hC;have q9:=hd 9 Y0;simp only[q9,cond_true,cond_false,forall_const,true_implies] at k0 k1 k2 k3 k4 k5 k6 k7 k8 k9 k10 k11 k12 k13 k14;clear q9;clear hd;have z0:=Q1 k0;have z4:=Q1 k4;have z9:=Q1 k9;go_wp2;refine⟨⟨k+1,Y1,Yf1,⟨k0,k1,k2,k3,k9,k4,k5,k6,k7,k8,k10,k11,k13,k14⟩⟩,Yfd⟩
    · obtain rfl:k=4:=by omega
      rw[show ((4:Nat):Int)=4 from rfl];go_wp2;refine bodyPost_ret (Q39 (fn:=Tryz.f9) rfl _ _ (w.heap.size) ((Co.takeOf f)) (.int .i64 0) rfl ?_ ?_ ?_ ?_ ?_ ?_) rfl ⟨rfl,Yb⟩
      all_goals simp (maxDischargeDepth:=12) [*,go_sem,↓IntWalk.iteOmega,Qb,Co.takeOf]
end Hk
