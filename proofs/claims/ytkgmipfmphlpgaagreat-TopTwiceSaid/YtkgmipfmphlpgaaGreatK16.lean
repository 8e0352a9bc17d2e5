/- A part of the proof of TopTwice. No condition but each statement's own. -/
import Derived.Test.YtkgmipfmphlpgaaGreatK15
open Go Go.RowKit Go.Proofs
set_option linter.all false
set_option maxRecDepth 100000
set_option maxHeartbeats 20000000
namespace Hk
@[go_sem] theorem Qym:((((((((((((((St.zero.cells.setIfInBounds 7 (Value.int .u8 2)).setIfInBounds 8 (Value.int .u64 (N 0#64))).setIfInBounds 9 (Value.int .u64 (N 0#64))).setIfInBounds 10 (Value.int .u64 (N 0#64))).setIfInBounds 11 (Value.int .u64 (N 0#64))).setIfInBounds 12 (Value.int .i64 0)).setIfInBounds 13 (Value.int .i64 0)).setIfInBounds 70 (Value.int .u8 3)).setIfInBounds 71 (Value.int .u64 (N 0#64))).setIfInBounds 72 (Value.int .u64 (N 0#64))).setIfInBounds 73 (Value.int .u64 (N 0#64))).setIfInBounds 74 (Value.int .u64 (N 0#64))).setIfInBounds 75 (Value.int .i64 0)).setIfInBounds 76 (Value.int .i64 512))=St.cells St.first:=Yc
theorem Qfl {fn:Func}{p:Tmp}(h:fn.results=#[.cell p 90])(tmps:Array Value)(w:World)(g:Nat)(c:Array Value)(hp:tmps.getD p undef=.pointer (some ⟨g,0,none⟩))(hs:(blk w g).size=589)(hc:blk w g=c) :
 (results fn tmps).run Tryz.prog w=.ok (.agg c) w:=by
 have hp':tmps[p]?.getD undef=.pointer (some ⟨g,0,none⟩):=Yew;subst hc;simp[results,h,hp',asAddr,Q52 w g hs]
theorem Qpi  (w:World):Calls Tryz.prog 29 #[] w (RB.a w (.agg (St.cells St.first))):=by
 go_enter Tryz.func29,Tryz.ntmps29;go_wp2;refine bodyPost_ret (v:=.agg (St.cells St.first)) ?_ rfl ⟨rfl,Y14⟩;exact Qfl (fn:=Tryz.f29) rfl _ _ _ _ rfl Yg3 Yg3
end Hk
namespace Hk
theorem Qd6 (s:St)(w:World):Calls Tryz.prog 65 #[.agg (St.cells s)] w (RB.a w (.bool (s.right))):=by
 go_enter Tryz.func65,Tryz.ntmps65;go_wp2
 go_loopw [9] (fun c wr=>∃ k:Nat,k≤11∧c=.int .i64 (k:Int)∧Hid (s.upR k=true)∧Below (w.heap.size+1) (w.alloc (.cells s.cells 90)) wr) (fun c _=>11 - (intOf c).toNat)
 case atStart=>exact⟨0,Y1,rfl,Lib.hid (s.upR_zero),Y14⟩
 case round =>
  obtain⟨k,hk,rfl,hup,hB⟩:=hrel;refine Yvi ?_;intro hcB hfB hzB hkB;by_cases hlt:k<11
  · cases hq:Vl.right (s.r k)
    · go_wp2_with (go_at_call 84;refine Y4a ?_;intro w1 hb1 hc1 hf1 hz1 hk1)
      go_ret;exact⟨Eq.trans (b:=Ending.returned (.bool false)) rfl (by rw[St.right_noR hlt hq]),Y14⟩
    · go_wp2_with (go_at_call 84;refine Y4a ?_;intro w1 hb1 hc1 hf1 hz1 hk1)
      go_roundw
      case rel=>exact⟨k+1,Y1,Yf1,Lib.hid (St.upR_succ hup.out hq),Y14⟩
      case measure=>simp[intOf];omega
  · obtain rfl:k=11:=by omega
    have h11:=hup.out;have h11':=Lib.hid h11;clear h11 hup;rw[show ((11:Nat):Int)=11 from rfl];go_wp2;clear hcB hfB hzB hkB
    go_loopw [18] (fun c wr=>∃ k:Nat,k≤64∧c=.int .i64 (k:Int)∧Hid (s.upS k=true)∧Below (w.heap.size+1) (w.alloc (.cells s.cells 90)) wr) (fun c _=>64 - (intOf c).toNat)
    case atStart=>exact⟨0,Y1,rfl,Lib.hid (s.upS_zero),Y14⟩
    case round =>
     clear hB;obtain⟨k,hk,rfl,hup,hB⟩:=hrel;refine Yvi ?_;intro hcB hfB hzB hkB;by_cases hlt2:k<64
     · by_cases hk0':(s.s k).v.k=0
       · have hk0:=Lib.hid hk0'
         have hk1b:((s.s k).v.k==0)=true:=by simp[hk0']
         have hk2b:((s.s k).v.k != 0)=false:=by simp[hk0']
         clear hk0';cases hq:Vl.right (s.s k).v
         · exact Yo8
         · go_wp2_with (go_at_call 84;refine Y4a ?_;intro w1 hb1 hc1 hf1 hz1 hk1)
           go_roundw
           case rel=>exact⟨k+1,Y1,Yf1,Lib.hid (St.upS_succ hup.out (by unfold Sl.ok;rw[hq];simp[hk0.out])),Y14⟩
           case measure=>simp[intOf];omega
       · have hk0:=Lib.hid hk0'
         have hk1b:((s.s k).v.k==0)=false:=by simp[hk0']
         have hk2b:((s.s k).v.k != 0)=true:=by simp[hk0']
         clear hk0';cases hp:((s.s k).p==255#8)
         · go_wp2_with (go_at_call 84;refine Y4a ?_;intro w1 hb1 hc1 hf1 hz1 hk1)
           all_goals (go_ret;exact⟨Eq.trans (b:=Ending.returned (.bool false)) rfl (by rw[St.right_noS hlt2 (by unfold Sl.ok;rw[hp];simp[hk0.out])]),Y14⟩)
         · cases hq:Vl.right (s.s k).v
           · exact Yo8
           · go_wp2_with (go_at_call 84;refine Y4a ?_;intro w1 hb1 hc1 hf1 hz1 hk1)
             go_roundw
             case rel=>exact⟨k+1,Y1,Yf1,Lib.hid (St.upS_succ hup.out (by unfold Sl.ok;rw[hq,hp];simp)),Y14⟩
             case measure=>simp[intOf];omega
     · obtain rfl:k=64:=by omega
       have h64:=Lib.hid hup.out;clear hup;go_wp2;go_ret;exact⟨Eq.trans (b:=Ending.returned (.bool true)) rfl (by rw[St.right_yes h11'.out h64.out]),Y14⟩
end Hk
namespace Hk
@[go_sem] theorem Q1az (x:St)(i:Nat)(hi:i<11):x.cells[i*7]?=some (.int .u8 (x.r i).k):=by
 refine Yw3 ?_;have:=x.cell_reg hi (j:=0) Y1;(try simp only[Nat.add_zero] at this);rw[this];rfl
@[go_sem] theorem Q1ay (x:St)(i:Nat)(hi:i<11):x.cells[i*7+1]?=some (.int .u64 (N (x.r i).f.t.v)):=by
 refine Yw3 ?_;have:=x.cell_reg hi (j:=1) Y1;(try simp only[Nat.add_zero] at this);rw[this];rfl
@[go_sem] theorem Q1ax (x:St)(i:Nat)(hi:i<11):x.cells[i*7+2]?=some (.int .u64 (N (x.r i).f.t.m)):=by
 refine Yw3 ?_;have:=x.cell_reg hi (j:=2) Y1;(try simp only[Nat.add_zero] at this);rw[this];rfl
@[go_sem] theorem Q1aw (x:St)(i:Nat)(hi:i<11):x.cells[i*7+3]?=some (.int .u64 (N (x.r i).f.s.lo)):=by
 refine Yw3 ?_;have:=x.cell_reg hi (j:=3) Y1;(try simp only[Nat.add_zero] at this);rw[this];rfl
@[go_sem] theorem Q1av (x:St)(i:Nat)(hi:i<11):x.cells[i*7+4]?=some (.int .u64 (N (x.r i).f.s.hi)):=by
 refine Yw3 ?_;have:=x.cell_reg hi (j:=4) Y1;(try simp only[Nat.add_zero] at this);rw[this];rfl
@[go_sem] theorem Q1au (x:St)(i:Nat)(hi:i<11):x.cells[i*7+5]?=some (.int .i64 (x.r i).i):=by
 refine Yw3 ?_;have:=x.cell_reg hi (j:=5) Y1;(try simp only[Nat.add_zero] at this);rw[this];rfl
@[go_sem] theorem Q1at (x:St)(i:Nat)(hi:i<11):x.cells[i*7+6]?=some (.int .i64 (x.r i).off):=by
 refine Yw3 ?_;have:=x.cell_reg hi (j:=6) Y1;(try simp only[Nat.add_zero] at this);rw[this];rfl
@[go_sem] theorem Q1as (x:St)(i:Nat)(hi:i<64):x.cells[77+i*8+1]?=some (.int .u64 (N (x.s i).v.f.t.v)):=by
 unfold St.cells;rw[Qj,if_pos Y1,Nat.add_assoc,x.cell_slot (j:=1) Y1];rfl
@[go_sem] theorem Q1ar (x:St)(i:Nat)(hi:i<64):x.cells[77+i*8+2]?=some (.int .u64 (N (x.s i).v.f.t.m)):=by
 unfold St.cells;rw[Qj,if_pos Y1,Nat.add_assoc,x.cell_slot (j:=2) Y1];rfl
@[go_sem] theorem Q1aq (x:St)(i:Nat)(hi:i<64):x.cells[77+i*8+3]?=some (.int .u64 (N (x.s i).v.f.s.lo)):=by
 unfold St.cells;rw[Qj,if_pos Y1,Nat.add_assoc,x.cell_slot (j:=3) Y1];rfl
@[go_sem] theorem Q1ap (x:St)(i:Nat)(hi:i<64):x.cells[77+i*8+4]?=some (.int .u64 (N (x.s i).v.f.s.hi)):=by
 unfold St.cells;rw[Qj,if_pos Y1,Nat.add_assoc,x.cell_slot (j:=4) Y1];rfl
@[go_sem] theorem Q1ao (x:St)(i:Nat)(hi:i<64):x.cells[77+i*8+5]?=some (.int .i64 (x.s i).v.i):=by
 unfold St.cells;rw[Qj,if_pos Y1,Nat.add_assoc,x.cell_slot (j:=5) Y1];rfl
@[go_sem] theorem Q1an (x:St)(i:Nat)(hi:i<64):x.cells[77+i*8+6]?=some (.int .i64 (x.s i).v.off):=by
 unfold St.cells;rw[Qj,if_pos Y1,Nat.add_assoc,x.cell_slot (j:=6) Y1];rfl
end Hk
namespace Hk
def Q72 (p q k:Nat)(x y:Vl)(w:World)(w':World):Prop:=w'.cell? ⟨p,k*7,none⟩=some (.int .u8 x.k)∧w'.cell? ⟨p,k*7+1,none⟩=some (.int .u64 (N x.f.t.v))∧w'.cell? ⟨p,k*7+2,none⟩=some (.int .u64 (N x.f.t.m))∧w'.cell? ⟨p,k*7+3,none⟩=some (.int .u64 (N x.f.s.lo))∧w'.cell? ⟨p,k*7+4,none⟩=some (.int .u64 (N x.f.s.hi))∧w'.cell? ⟨p,k*7+5,none⟩=some (.int .i64 x.i)∧w'.cell? ⟨p,k*7+6,none⟩=some (.int .i64 x.off)∧CVl.a w' q y (Below w.heap.size w w')
theorem Q79 {p q k:Nat}{x y:Vl}{w:World}:KC (Q72 p q k x y w):=by
 exact Ym3
theorem Qez (a b:St)(ha:a.right=false)(w:World):Calls Tryz.prog 45 #[.agg (St.cells a),.agg (St.cells b)] w (RB.a w (.bool (a.within b))):=by
 exact Ynm
theorem Qey (a b:St)(ha:a.right=true)(hb:b.right=false)(w:World):Calls Tryz.prog 45 #[.agg (St.cells a),.agg (St.cells b)] w (RB.a w (.bool (a.within b))):=by
 exact Ynm
theorem Qie (a b:St)(ha:a.right=true)(hb:b.right=true)(w:World):Calls Tryz.prog 45 #[.agg (St.cells a),.agg (St.cells b)] w (RB.a w (.bool (a.within b))):=by
 go_enter Tryz.func45,Tryz.ntmps45;go_wp2_with (go_at_call 65;refine Y4c ?_;intro w1 hb1 hc1 hf1 hz1 hk1);have HB:Below (w.heap.size+1+1) ((w.alloc (.cells a.cells 90)).alloc (.cells b.cells 90)) w1:=Y14;clear hb1 hc1 hf1 hz1 hk1
 go_loopw [20] (fun c wr=>∃ k:Nat,k≤11∧c=.int .i64 (k:Int)∧Hid (a.inR b k=true)∧Below (w.heap.size+1+1) ((w.alloc (.cells a.cells 90)).alloc (.cells b.cells 90)) wr) (fun c _=>11 - (intOf c).toNat)
 case atStart=>exact⟨0,Y1,rfl,Lib.hid (a.inR_zero b),HB⟩
 case round =>
  obtain⟨k,hk,rfl,hup,hB⟩:=hrel;refine Yw2 ?_;intro hcB hfB hzB hkB;by_cases hlt:k<11
  · cases hq:Vl.within (a.r k) (b.r k)
    · go_wp2_with fail
      refine Ql (Q72 w.heap.size wr.heap.size k (a.r k) (b.r k) (wr.alloc (.cells #[.int .u8 (b.r k).k,.int .u64 (N (b.r k).f.t.v),.int .u64 (N (b.r k).f.t.m),.int .u64 (N (b.r k).f.s.lo),.int .u64 (N (b.r k).f.s.hi),.int .i64 (b.r k).i,.int .i64 (b.r k).off] 84))) Yc Yc ?_ ?_
      · exact Ynt
      refine Yv4 ?_;intro hN
      repeat refine Yd7 ?_
      refine wpQuiet_nil ?_;intro w9 hC;obtain⟨k0,k1,k2,k3,k4,k5,k6,k7,k8,k9,k10,k11,k12,k13,k14⟩:=hC;obtain⟨hc9,hf9,hz9⟩:=Q17 k14;have hk9:=Qh4 k14;(try simp only[World.size_alloc] at hc9 hf9 hz9 hk9);go_wp2;go_ret;exact⟨Eq.trans (b:=Ending.returned (.bool false)) rfl (by rw[St.within_noR hlt hq]),Y14⟩
    · go_wp2_with fail
      refine Ql (Q72 w.heap.size wr.heap.size k (a.r k) (b.r k) (wr.alloc (.cells #[.int .u8 (b.r k).k,.int .u64 (N (b.r k).f.t.v),.int .u64 (N (b.r k).f.t.m),.int .u64 (N (b.r k).f.s.lo),.int .u64 (N (b.r k).f.s.hi),.int .i64 (b.r k).i,.int .i64 (b.r k).off] 84))) Yc Yc ?_ ?_
      · exact Ynt
      refine Yv4 ?_;intro hN
      repeat refine Yd7 ?_
      refine wpQuiet_nil ?_;intro w9 hC;obtain⟨k0,k1,k2,k3,k4,k5,k6,k7,k8,k9,k10,k11,k12,k13,k14⟩:=hC;obtain⟨hc9,hf9,hz9⟩:=Q17 k14;have hk9:=Qh4 k14;(try simp only[World.size_alloc] at hc9 hf9 hz9 hk9);go_wp2
      go_roundw
      case rel=>exact⟨k+1,Y1,Yf1,Lib.hid (St.inR_succ hup.out hq),Y14⟩
      case measure=>simp[intOf];omega
  · obtain rfl:k=11:=by omega
    have h11:=Lib.hid hup.out;clear hup;rw[show ((11:Nat):Int)=11 from rfl];go_wp2;clear hcB hfB hzB hkB
    go_loopw [34] (fun c wr=>∃ k:Nat,k≤64∧c=.int .i64 (k:Int)∧Hid (a.inS b k=true)∧Below (w.heap.size+1+1) ((w.alloc (.cells a.cells 90)).alloc (.cells b.cells 90)) wr) (fun c _=>64 - (intOf c).toNat)
    case atStart=>exact⟨0,Y1,rfl,Lib.hid (a.inS_zero b),hB⟩
    case round =>
     clear hB;obtain⟨k,hk,rfl,hup,hB⟩:=hrel;refine Yw2 ?_;intro hcB hfB hzB hkB;by_cases hlt2:k<64
     · by_cases hy':(b.s k).v.k=0
       · have hy:=Lib.hid hy'
         have hyb1:((b.s k).v.k==0)=true:=by simp[hy.out]
         have hyb2:((b.s k).v.k != 0)=false:=by simp[hy.out]
         have hs:St.slotIn (a.s k) (b.s k)=((b.s k).p &&& ~~~(a.s k).p==0#8):=by unfold St.slotIn;rw[if_pos hy']
         have hsl:=Lib.hid hs;clear hy' hs;cases hq:((b.s k).p &&& ~~~(a.s k).p==0#8)
         · go_wp2_with (go_at_call 66;refine Y4e ?_;intro w1 hb1 hc1 hf1 hz1 hk1)
           go_ret;exact⟨Eq.trans (b:=Ending.returned (.bool false)) rfl (by rw[St.within_noS hlt2 (by rw[hsl.out,hq])]),Y14⟩
         · go_wp2_with (go_at_call 66;refine Y4e ?_;intro w1 hb1 hc1 hf1 hz1 hk1)
           go_roundw
           case rel=>exact⟨k+1,Y1,Yf1,Lib.hid (St.inS_succ hup.out (by rw[hsl.out,hq])),Y14⟩
           case measure=>simp[intOf];omega
       · have hy:=Lib.hid hy'
         have hyb1:((b.s k).v.k==0)=false:=by simp[hy.out]
         have hyb2:((b.s k).v.k != 0)=true:=by simp[hy.out]
         have hs:St.slotIn (a.s k) (b.s k)=(!decide ((a.s k).v.k=0) && Vl.within (a.s k).v (b.s k).v):=by unfold St.slotIn;rw[if_neg hy']
         have hsl:=Lib.hid hs;clear hy' hs;by_cases hx':(a.s k).v.k=0
         · have hx:=Lib.hid hx'
           have hxb1:((a.s k).v.k==0)=true:=by simp[hx.out]
           have hxb2:((a.s k).v.k != 0)=false:=by simp[hx.out]
           clear hx';go_wp2_with (go_at_call 66;refine Y4e ?_;intro w1 hb1 hc1 hf1 hz1 hk1);go_ret;exact⟨Eq.trans (b:=Ending.returned (.bool false)) rfl (by rw[St.within_noS hlt2 (by rw[hsl.out];simp[hx.out])]),Y14⟩
         · have hx:=Lib.hid hx'
           have hxb1:((a.s k).v.k==0)=false:=by simp[hx.out]
           have hxb2:((a.s k).v.k != 0)=true:=by simp[hx.out]
           clear hx';cases hq:Vl.within (a.s k).v (b.s k).v
           · go_wp2_with (go_at_call 66;refine Y4e ?_;intro w1 hb1 hc1 hf1 hz1 hk1)
             go_ret;exact⟨Eq.trans (b:=Ending.returned (.bool false)) rfl (by rw[St.within_noS hlt2 (by rw[hsl.out,hq];simp)]),Y14⟩
           · go_wp2_with (go_at_call 66;refine Y4e ?_;intro w1 hb1 hc1 hf1 hz1 hk1)
             go_roundw
             case rel=>exact⟨k+1,Y1,Yf1,Lib.hid (St.inS_succ hup.out (by rw[hsl.out,hq];simp[hx.out])),Y14⟩
             case measure=>simp[intOf];omega
     · obtain rfl:k=64:=by omega
       have h64:=Lib.hid hup.out;clear hup;go_wp2;go_ret;exact⟨Eq.trans (b:=Ending.returned (.bool true)) rfl (by rw[show a.within b=true by unfold St.within;rw[ha,hb,h11.out,h64.out];rfl]),Y14⟩
theorem Qif (a b:St)(w:World):Calls Tryz.prog 45 #[.agg (St.cells a),.agg (St.cells b)] w (RB.a w (.bool (a.within b))):=by
 cases ha:a.right
 · exact Qez a b ha w
 cases hb:b.right
 · exact Qey a b ha hb w
 exact Qie a b ha hb w
end Hk
namespace Hk
attribute [-go_sem] Qm
attribute [go_sem] Q1v
@[local go_sem] theorem Q154 (w:World)(b:Nat)(h:(blk w b).size=590):Sem.run Tryz.prog (ldS (.pointer (some ⟨b,1,none⟩))) w=.ok (.agg ((blk w b).extract 1 590)) w:=by
 simp only[ldS,Instr.loadAt,Instr.sureAddr,Sem.run_bind,Sem.run_pure,Result.andThen];exact Qu w _ b 1 589 (Tryz.isAgg90 w) (Tryz.sizeOf90 w) Y1
theorem Qbp {w:World}{g o:Nat}{s:St}(h:∀ j,j<589→w.cell? ⟨g,o+j,none⟩=some (s.cell j)):Sem.run Tryz.prog (ldS (.pointer (some ⟨g,o,none⟩))) w=.ok (.agg s.cells) w:=by
 simp only[ldS,Instr.loadAt,Instr.sureAddr,Sem.run_bind,Sem.run_pure,Result.andThen];exact Q2z Y1 (Tryz.isAgg90 w) (Tryz.sizeOf90 w) h
attribute [local go_sem] Q1y Qi4
theorem Q129 (n:Int)(s:St):¬ Q2n n s=#[]:=Yg0
attribute [local go_sem] Q129
theorem Q13l (yb:Nat)(at_:Int)(s t:St)(w:World)(hy:blk w yb=Q2n at_ s):Calls Tryz.prog 44 #[.agg t.cells,.pointer (some ⟨yb,0,none⟩)] w (RB.a w (.bool (s.within t))):=by
 have zy:=Q1o (w:=w) (b:=yb) (by rw[hy,Q1y];decide);go_enter Tryz.func44,Tryz.ntmps44;go_wp2_with (go_at_call 45;refine Y4f ?_;intro w1 hb1);go_ret;exact⟨rfl,Y14⟩
theorem Q13m (yb B:Nat)(at_:Int)(s:St)(v:Value)(ss:List St)(w:World)(hS:w.ownsRow B 90 589 v ss.length (Q1q ss))(hn:ss.length≤1000)(hy:blk w yb=Q2n at_ s):Calls Tryz.prog 67 #[v,.func (.func 44) #[] #[.pointer (some ⟨yb,0,none⟩)]] w (RB.a w (.int .i64 (Co.idxF (Co.wiB s ss) ss.length))):=by
 have HS:=Lib.hid hS;obtain⟨p,c,rfl⟩:=Q15 hS;clear hS;go_enter Tryz.func67,Tryz.ntmps67;go_wp2
 go_loopw [8] (fun s8 wr=>∃ k:Nat,k≤ss.length∧s8=.int .i64 k∧Hid (∀ j,j<k→Co.wiB s ss j=false)∧Below w.heap.size w wr) (fun s8 _=>ss.length - (intOf s8).toNat)
 case atStart =>
  exact⟨0,Y1,rfl,Lib.hid (fun j hj=>Y1),Below.refl _ _⟩
 case round =>
  obtain⟨k,hk,rfl,hup,hB⟩:=hrel;have hzB:=hB.size;have hyr:blk wr yb=Q2n at_ s:=Q12 hB hy Y18;by_cases hlt:k<ss.length
  · obtain⟨g,cap,hpe,hg,-,-,-,hc⟩:=Qj1 (Qd HS.out hB) hlt
    injection hpe with e1 e2 e3
    subst e1;subst e3;have hld:=Qbp hc;clear hc;have ex:Co.wiB s ss k=s.within ss[k]:=by unfold Co.wiB;rw[List.getD_eq_getElem?_getD,List.getElem?_eq_getElem hlt];rfl
    have EX:=Lib.hid ex;clear ex;generalize ss[k]=t at *;cases hm:s.within t
    · have HM:=Lib.hid hm;clear hm
      go_wp2_with (go_at_call 44;refine Y4g ?_;intro w1 hb1)
      go_roundw
      case rel=>exact⟨k+1,Y1,Yf1,Lib.hid (fun j hj=>if e:j=k then (by subst e;rw[EX.out];exact HM.out) else hup.out j Y1),Y14⟩
      case measure=>simp[intOf];omega
    · have EI:=Lib.hid (Co.idxF_some hlt hup.out (by rw[EX.out];exact hm))
      have HM:=Lib.hid hm;clear hm;go_wp2_with (go_at_call 44;refine Y4g ?_;intro w1 hb1);go_ret;exact⟨by rw[EI.out];rfl,Y14⟩
  · obtain rfl:k=ss.length:=by omega
    have EI:=Lib.hid (Co.idxF_none hup.out);go_wp2;go_ret;exact⟨by rw[EI.out];rfl,hB⟩
theorem Qy6 (yb B:Nat)(at_:Int)(s:St)(v:Value)(ss:List St)(w:World)(hS:w.ownsRow B 90 589 v ss.length (Q1q ss))(hn:ss.length≤1000)(hy:blk w yb=Q2n at_ s):Calls Tryz.prog 46 #[v,.func (.func 44) #[] #[.pointer (some ⟨yb,0,none⟩)]] w (RB.a w (.bool (ss.any fun t=>s.within t))):=by
 have EI:=Lib.hid (Co.idxF_any s ss);generalize (ss.any fun t=>s.within t)=r at EI ⊢;go_enter Tryz.func46,Tryz.ntmps46;go_wp2_with (go_at_call 67;refine Y4h ?_;intro w1 hb1);go_ret;exact⟨by rw[← EI.out];rfl,Y14⟩
end Hk
namespace Hk
attribute [-go_sem] Qm
attribute [go_sem] Q1v
def Q19k (gw b d at_ rb:Nat)(v:Vl)(w:World)(w':World):Prop:=w'.cell? ⟨b,at_*5+1,none⟩=some (.int .u8 (d:Nat))∧w'.cell? ⟨gw,1+d*7,none⟩=some (.int .u8 v.k)∧w'.cell? ⟨gw,1+d*7+1,none⟩=some (.int .u64 (N v.f.t.v))∧w'.cell? ⟨gw,1+d*7+2,none⟩=some (.int .u64 (N v.f.t.m))∧w'.cell? ⟨gw,1+d*7+3,none⟩=some (.int .u64 (N v.f.s.lo))∧w'.cell? ⟨gw,1+d*7+4,none⟩=some (.int .u64 (N v.f.s.hi))∧w'.cell? ⟨gw,1+d*7+5,none⟩=some (.int .i64 v.i)∧w'.cell? ⟨gw,1+d*7+6,none⟩=some (.int .i64 v.off)∧w'.cell? ⟨rb,0,none⟩=some (.int .u8 0)∧w'.cell? ⟨rb,1,none⟩=some (.int .u64 0)∧w'.cell? ⟨rb,2,none⟩=some (.int .u64 0)∧w'.cell? ⟨rb,3,none⟩=some (.int .u64 0)∧w'.cell? ⟨rb,4,none⟩=some (.int .u64 0)∧w'.cell? ⟨rb,5,none⟩=some (.int .i64 0)∧w'.cell? ⟨rb,6,none⟩=some (.int .i64 0)∧(∀ i,w'.frozen? ⟨rb,i,none⟩=false)∧Below w.heap.size w w'
theorem Qmt {gw b d at_ rb:Nat}{v:Vl}{w:World}:KC (Q19k gw b d at_ rb v w):=by
 intro w' w1 h hb;obtain⟨k0,k1,k2,k3,k4,k5,k6,k7,k8,k9,k10,k11,k12,k13,k14,k15,k16⟩:=h;exact⟨Q0 hb k0,Q0 hb k1,Q0 hb k2,Q0 hb k3,Q0 hb k4,Q0 hb k5,Q0 hb k6,Q0 hb k7,Q0 hb k8,Q0 hb k9,Q0 hb k10,Q0 hb k11,Q0 hb k12,Q0 hb k13,Q0 hb k14,Q7 hb k8 k15,Q8 k16 hb⟩
theorem Qhq (lb lc B at_:Nat)(l:List In)(v:Value)(ws:List Wy)(w:World)(hI:Q14 w lb l)(hlen:l.length≤100000)(hlt:at_<l.length)(hd:(l.getD at_ In.zero).dst.toNat<11)(hW:w.ownsRow B 93 590 v ws.length (Q1p ws)):Calls Tryz.prog 69 #[.slice (some ⟨lb,0,none⟩) l.length lc,.int .i64 (at_:Nat),v] w (RB.a w (.tuple #[(Co.resultV l at_ ws),.bool (Co.resultB l at_ ws)])):=by
 obtain⟨pw,cw,rfl⟩:=Q15 hW;have hbd:decide ((at_:Int)<0)=false:=by simp
 have hge:decide ((l.length:Int)≤at_)=false:=Y4;obtain⟨m0,m1,m2,m3,m4⟩:=hI at_ hlt;have zm:=Q1 m0;have hx:l.getD at_ In.zero=l[at_]:=Yf6;rw[hx] at hd;generalize hxx:l[at_]=x at *;clear hxx;cases ws with
 | nil =>
   have EE:=Lib.hid (show Co.resultV l at_ []=Vl.zero∧Co.resultB l at_ []=false by unfold Co.resultV Co.resultB Co.tellsB;rw[hx];simp[hlt]);clear hx;go_enter Tryz.func69,Tryz.ntmps69;go_wp2
   skip
   exact Yn5
 | cons y r =>
   obtain⟨gq,cap,hpe,-,hgs,-,-,hcell,-⟩:=Q1h hW Y3
   injection hpe with e1 e2 e3
   subst e1;subst e3;have hv:∀ j,j<7→w.cell? ⟨gq,1+x.dst.toNat*7+j,none⟩=some ((y.s.r x.dst.toNat).cell j):=fun j hj=>hcell _ _ (by have h:=Q4j (y :: r) 0 Y3 (1+x.dst.toNat*7+j) Y1;rw[Nat.zero_mul,Nat.zero_add] at h;rw[h];simp only[List.getElem_cons_zero];unfold Q7q;rw[if_neg Y1,show 1+x.dst.toNat*7+j - 1=x.dst.toNat*7+j from Y1,y.s.cell_reg hd hj])
   have v0:=hv 0 Y1;have v1:=hv 1 Y1;have v2:=hv 2 Y1;have v3:=hv 3 Y1;have v4:=hv 4 Y1;have v5:=hv 5 Y1;have v6:=hv 6 Y1;rw[Nat.add_zero] at v0;simp only[Vl.cell] at v0 v1 v2 v3 v4 v5 v6;have zq:=Q1 v0;clear hv hcell hW;obtain⟨nw,hnw⟩:∃ n,(y :: r).length=n+1:=⟨r.length,rfl⟩;rw[hnw];have hl1:(((nw+1:Nat):Int)==0)=false:=Y4;have hl2:(0:Int)<((nw+1:Nat):Int):=Y1;clear hnw;generalize nw+1=nn at *;cases h1:((Co.what x).kind==1)
   · cases h2:((Co.what x).kind==2)
     · cases h3:((Co.what x).kind==3)
       · cases h4:((Co.what x).kind==4)
         · cases h5:((Co.what x).kind==5)
           · have EE:=Lib.hid (show Co.resultV l at_ (y :: r)=Vl.zero∧Co.resultB l at_ (y :: r)=false from Yg4)
             clear hx;go_enter Tryz.func69,Tryz.ntmps69;go_wp2_with (go_at_call 20;refine Y2p ?_;intro w1 hb1 hc1 hf1 hz1);exact Yn5
           · have EE:=Lib.hid (show Co.resultV l at_ (y :: r)=(y.s.r x.dst.toNat)∧Co.resultB l at_ (y :: r)=true from Yg4)
             exact Yka
         · have EE:=Lib.hid (show Co.resultV l at_ (y :: r)=(y.s.r x.dst.toNat)∧Co.resultB l at_ (y :: r)=true by unfold Co.resultV Co.resultB Co.tellsB;rw[hx];simp[hlt,h1,h2,h3,h4])
           exact Yka
       · have EE:=Lib.hid (show Co.resultV l at_ (y :: r)=(y.s.r x.dst.toNat)∧Co.resultB l at_ (y :: r)=true by unfold Co.resultV Co.resultB Co.tellsB;rw[hx];simp[hlt,h1,h2,h3])
         exact Yka
     · have EE:=Lib.hid (show Co.resultV l at_ (y :: r)=(y.s.r x.dst.toNat)∧Co.resultB l at_ (y :: r)=true by unfold Co.resultV Co.resultB Co.tellsB;rw[hx];simp[hlt,h1,h2])
       exact Yka
   · have EE:=Lib.hid (show Co.resultV l at_ (y :: r)=(y.s.r x.dst.toNat)∧Co.resultB l at_ (y :: r)=true by unfold Co.resultV Co.resultB Co.tellsB;rw[hx];simp[hlt,h1])
     exact Yka
end Hk
