/- A part of TopTwice's proof; no condition. -/
import Derived.Test.YtkgmipfmphlpgaaGreatK26
open Go Go.RowKit Go.Proofs
set_option linter.all false
set_option maxRecDepth 100000
set_option maxHeartbeats 20000000
namespace Hk
theorem Yuyb {P Q:Prop}(q:Q)(h:HO Q→P:=by
 intro hQ;refine⟨(w'.heap.size,0),w'.alloc (.cells #[.int .u8 0,.int .u8 0,.bool false,.bool false,.bool false,.int .i64 0] 66),Yez,?_⟩;have a0:=hC;obtain⟨-,-,-,-,-,-,-,-,-,-,-,-,-,-,-,-,-,-,-,-,-,-,-,-,-,-,-,-,-,-,-,-,-,-,-,a1,-,-⟩:=a0;have a2:=hC;obtain⟨a3,a4,a5,a6,a7,a8,a9,a10,a11,a12,a13,a14,a15,a16,a17,a18,a19,a20,a21,a22,a23,a24,a25,a26,a27,a28,a29,a30,a31,a32,a33,a34,a35,a36,a37,a38,a39,a40⟩:=a2;have lt8:d 8=true→(ν 8).1<w'.heap.size:=fun h=>Q1 (a9 h)
 have lt9:d 9=true→(ν 9).1<w'.heap.size:=fun h=>Q1 (a18 h)
 clear a3 a4 a5 a6 a7 a8 a9 a10 a11 a12 a13 a14 a15 a16 a17 a18 a19 a20 a21 a22 a23 a24 a25 a26 a27 a28 a29 a30 a31 a32 a33 a34 a35 a36 a37 a38 a39 a40;revert lt9;revert lt8;revert a1
 exact hQ.o):P:=h ⟨q⟩
theorem Q12p (s:St)(o n:Int)(h:St.sized n=false)(w:World):Calls Tryz.prog 125 #[.agg (St.cells s),.int .i64 o,.int .i64 n] w (RB.a w (.tuple #[Vl.zero,.int .i64 1])):=by
 exact Yla
theorem Q12o (s:St)(o n:Int)(h:St.sized n=true)(hs:s.right=false)(w:World):Calls Tryz.prog 125 #[.agg (St.cells s),.int .i64 o,.int .i64 n] w (RB.a w (.tuple #[Vl.zero,.int .i64 1])):=by
 exact Yla
theorem Qb1 (s:St)(o:Int)(hs:s.right=true)(hf:St.fitsE o 1=80)(w:World):Calls Tryz.prog 125 #[.agg (St.cells s),.int .i64 o,.int .i64 1] w (RB.a w (.tuple #[Vl.zero,.int .i64 80])):=by
 exact Yl1
theorem Q8z (s:St)(o:Int)(hs:s.right=true)(hf:St.fitsE o 1=130)(w:World):Calls Tryz.prog 125 #[.agg (St.cells s),.int .i64 o,.int .i64 1] w (RB.a w (.tuple #[Vl.zero,.int .i64 130])):=by
 exact Yl1
theorem Qb0 (s:St)(o:Int)(hs:s.right=true)(hf:St.fitsE o 2=80)(w:World):Calls Tryz.prog 125 #[.agg (St.cells s),.int .i64 o,.int .i64 2] w (RB.a w (.tuple #[Vl.zero,.int .i64 80])):=by
 exact Yl2
theorem Q8y (s:St)(o:Int)(hs:s.right=true)(hf:St.fitsE o 2=130)(w:World):Calls Tryz.prog 125 #[.agg (St.cells s),.int .i64 o,.int .i64 2] w (RB.a w (.tuple #[Vl.zero,.int .i64 130])):=by
 exact Yl2
theorem Qaz (s:St)(o:Int)(hs:s.right=true)(hf:St.fitsE o 4=80)(w:World):Calls Tryz.prog 125 #[.agg (St.cells s),.int .i64 o,.int .i64 4] w (RB.a w (.tuple #[Vl.zero,.int .i64 80])):=by
 exact Yl3
theorem Q8x (s:St)(o:Int)(hs:s.right=true)(hf:St.fitsE o 4=130)(w:World):Calls Tryz.prog 125 #[.agg (St.cells s),.int .i64 o,.int .i64 4] w (RB.a w (.tuple #[Vl.zero,.int .i64 130])):=by
 exact Yl3
theorem Qay (s:St)(o:Int)(hs:s.right=true)(hf:St.fitsE o 8=80)(w:World):Calls Tryz.prog 125 #[.agg (St.cells s),.int .i64 o,.int .i64 8] w (RB.a w (.tuple #[Vl.zero,.int .i64 80])):=by
 exact Yl4
theorem Q8w (s:St)(o:Int)(hs:s.right=true)(hf:St.fitsE o 8=130)(w:World):Calls Tryz.prog 125 #[.agg (St.cells s),.int .i64 o,.int .i64 8] w (RB.a w (.tuple #[Vl.zero,.int .i64 130])):=by
 exact Yl4
theorem Qp0 (s:St)(o:Int)(j:Nat)(hs:s.right=true)(h0:0≤o)(h1:o≤512)(hq:o / 8=(j:Int))(hj:j<64)(hf:St.fitsE o 1=0)(hb:(((s.s j).p &&& St.bits o 1)==St.bits o 1)=false)(w:World):Calls Tryz.prog 125 #[.agg (St.cells s),.int .i64 o,.int .i64 1] w (RB.a w (.tuple #[Vl.zero,.int .i64 81])):=by
 exact Yl1
theorem Qow (s:St)(o:Int)(j:Nat)(hs:s.right=true)(h0:0≤o)(h1:o≤512)(hq:o / 8=(j:Int))(hj:j<64)(hf:St.fitsE o 1=0)(hb:(((s.s j).p &&& St.bits o 1)==St.bits o 1)=true)(w:World):Calls Tryz.prog 125 #[.agg (St.cells s),.int .i64 o,.int .i64 1] w (RB.a w (.tuple #[(Vl.num ((Fa.settle ⟨⟨0#64,18446744073709551615#64⟩,⟨0#64,255#64⟩⟩).getD Fa.zero)),.int .i64 0])):=by
 exact Yl1
theorem Qoz (s:St)(o:Int)(j:Nat)(hs:s.right=true)(h0:0≤o)(h1:o≤512)(hq:o / 8=(j:Int))(hj:j<64)(hf:St.fitsE o 2=0)(hb:(((s.s j).p &&& St.bits o 2)==St.bits o 2)=false)(w:World):Calls Tryz.prog 125 #[.agg (St.cells s),.int .i64 o,.int .i64 2] w (RB.a w (.tuple #[Vl.zero,.int .i64 81])):=by
 exact Yl2
theorem Qov (s:St)(o:Int)(j:Nat)(hs:s.right=true)(h0:0≤o)(h1:o≤512)(hq:o / 8=(j:Int))(hj:j<64)(hf:St.fitsE o 2=0)(hb:(((s.s j).p &&& St.bits o 2)==St.bits o 2)=true)(w:World):Calls Tryz.prog 125 #[.agg (St.cells s),.int .i64 o,.int .i64 2] w (RB.a w (.tuple #[(Vl.num ((Fa.settle ⟨⟨0#64,18446744073709551615#64⟩,⟨0#64,65535#64⟩⟩).getD Fa.zero)),.int .i64 0])):=by
 exact Yl2
theorem Qoy (s:St)(o:Int)(j:Nat)(hs:s.right=true)(h0:0≤o)(h1:o≤512)(hq:o / 8=(j:Int))(hj:j<64)(hf:St.fitsE o 4=0)(hb:(((s.s j).p &&& St.bits o 4)==St.bits o 4)=false)(w:World):Calls Tryz.prog 125 #[.agg (St.cells s),.int .i64 o,.int .i64 4] w (RB.a w (.tuple #[Vl.zero,.int .i64 81])):=by
 exact Yl3
theorem Qou (s:St)(o:Int)(j:Nat)(hs:s.right=true)(h0:0≤o)(h1:o≤512)(hq:o / 8=(j:Int))(hj:j<64)(hf:St.fitsE o 4=0)(hb:(((s.s j).p &&& St.bits o 4)==St.bits o 4)=true)(w:World):Calls Tryz.prog 125 #[.agg (St.cells s),.int .i64 o,.int .i64 4] w (RB.a w (.tuple #[(Vl.num ((Fa.settle ⟨⟨0#64,18446744073709551615#64⟩,⟨0#64,4294967295#64⟩⟩).getD Fa.zero)),.int .i64 0])):=by
 exact Yl3
theorem Qox (s:St)(o:Int)(j:Nat)(hs:s.right=true)(h0:0≤o)(h1:o≤512)(hq:o / 8=(j:Int))(hj:j<64)(hf:St.fitsE o 8=0)(hb:(((s.s j).p &&& St.bits o 8)==St.bits o 8)=false)(w:World):Calls Tryz.prog 125 #[.agg (St.cells s),.int .i64 o,.int .i64 8] w (RB.a w (.tuple #[Vl.zero,.int .i64 81])):=by
 exact Yl4
theorem Qot (s:St)(o:Int)(j:Nat)(hs:s.right=true)(h0:0≤o)(h1:o≤512)(hq:o / 8=(j:Int))(hj:j<64)(hf:St.fitsE o 8=0)(hb:(((s.s j).p &&& St.bits o 8)==St.bits o 8)=true)(hk1:((s.s j).v.k==0)=true)(hk2:((s.s j).v.k != 0)=false)(w:World):Calls Tryz.prog 125 #[.agg (St.cells s),.int .i64 o,.int .i64 8] w (RB.a w (.tuple #[(Vl.num ((Fa.settle ⟨⟨0#64,18446744073709551615#64⟩,⟨0#64,18446744073709551615#64⟩⟩).getD Fa.zero)),.int .i64 0])):=by
 exact Yl4
theorem Qwd (s:St)(o:Int)(j:Nat)(hs:s.right=true)(h0:0≤o)(h1:o≤512)(hq:o / 8=(j:Int))(hj:j<64)(hf:St.fitsE o 8=0)(hb:(((s.s j).p &&& St.bits o 8)==St.bits o 8)=true)(hk1:((s.s j).v.k==0)=false)(hk2:((s.s j).v.k != 0)=true)(w:World):Calls Tryz.prog 125 #[.agg (St.cells s),.int .i64 o,.int .i64 8] w (RB.a w (.tuple #[.agg #[.int .u8 (s.s j).v.k,.int .u64 (N (s.s j).v.f.t.v),.int .u64 (N (s.s j).v.f.t.m),.int .u64 (N (s.s j).v.f.s.lo),.int .u64 (N (s.s j).v.f.s.hi),.int .i64 (s.s j).v.i,.int .i64 (s.s j).v.off],.int .i64 0])):=by
 exact Yl4
theorem Quv (s:St)(o n:Int)(w:World):Calls Tryz.prog 125 #[.agg (St.cells s),.int .i64 o,.int .i64 n] w (RB.a w (.tuple #[(s.get o n),.int .i64 (s.getE o n)])):=by
 cases h:St.sized n
 · obtain⟨E1,E2⟩:=St.get_arg (s:=s) (o:=o) (n:=n) (by rw[h];rfl)
   rw[E1,E2];exact Q12p s o n h w
 cases hs:s.right
 · obtain⟨E1,E2⟩:=St.get_arg (s:=s) (o:=o) (n:=n) (by rw[hs];simp)
   rw[E1,E2];exact Q12o s o n h hs w
 rcases St.sized_is h with rfl|rfl|rfl|rfl
 · rcases St.fits_3 o 1 with hf|hf|hf
   · obtain⟨j,hq,hj,h0,h1⟩:=St.fits_j hf Y0
     have hfl:=St.full_slot h hs hf hq;cases hb:(((s.s j).p &&& St.bits o 1)==St.bits o 1)
     · rw[hb] at hfl
       obtain⟨E1,E2⟩:=St.get_blank h hs hf hfl;rw[E1,E2];exact Qp0 s o j hs h0 h1 hq hj hf hb w
     · rw[hb] at hfl
       obtain⟨E1,E2⟩:=St.get_ok h hs hf hfl hq;rw[if_neg Y1k] at E2;rw[E1,E2];exact Qow s o j hs h0 h1 hq hj hf hb w
   · obtain⟨E1,E2⟩:=St.get_fit h hs Y1l
     rw[E1,E2,hf];exact Qb1 s o hs hf w
   · obtain⟨E1,E2⟩:=St.get_fit h hs Y1l
     rw[E1,E2,hf];exact Q8z s o hs hf w
 · rcases St.fits_3 o 2 with hf|hf|hf
   · obtain⟨j,hq,hj,h0,h1⟩:=St.fits_j hf Y0
     have hfl:=St.full_slot h hs hf hq;cases hb:(((s.s j).p &&& St.bits o 2)==St.bits o 2)
     · rw[hb] at hfl
       obtain⟨E1,E2⟩:=St.get_blank h hs hf hfl;rw[E1,E2];exact Qoz s o j hs h0 h1 hq hj hf hb w
     · rw[hb] at hfl
       obtain⟨E1,E2⟩:=St.get_ok h hs hf hfl hq;rw[if_neg Y1k] at E2;rw[E1,E2];exact Qov s o j hs h0 h1 hq hj hf hb w
   · obtain⟨E1,E2⟩:=St.get_fit h hs Y1l
     rw[E1,E2,hf];exact Qb0 s o hs hf w
   · obtain⟨E1,E2⟩:=St.get_fit h hs Y1l
     rw[E1,E2,hf];exact Q8y s o hs hf w
 · rcases St.fits_3 o 4 with hf|hf|hf
   · obtain⟨j,hq,hj,h0,h1⟩:=St.fits_j hf Y0
     have hfl:=St.full_slot h hs hf hq;cases hb:(((s.s j).p &&& St.bits o 4)==St.bits o 4)
     · rw[hb] at hfl
       obtain⟨E1,E2⟩:=St.get_blank h hs hf hfl;rw[E1,E2];exact Qoy s o j hs h0 h1 hq hj hf hb w
     · rw[hb] at hfl
       obtain⟨E1,E2⟩:=St.get_ok h hs hf hfl hq;rw[if_neg Y1k] at E2;rw[E1,E2];exact Qou s o j hs h0 h1 hq hj hf hb w
   · obtain⟨E1,E2⟩:=St.get_fit h hs Y1l
     rw[E1,E2,hf];exact Qaz s o hs hf w
   · obtain⟨E1,E2⟩:=St.get_fit h hs Y1l
     rw[E1,E2,hf];exact Q8x s o hs hf w
 · rcases St.fits_3 o 8 with hf|hf|hf
   · obtain⟨j,hq,hj,h0,h1⟩:=St.fits_j hf Y0
     have hfl:=St.full_slot h hs hf hq;cases hb:(((s.s j).p &&& St.bits o 8)==St.bits o 8)
     · rw[hb] at hfl
       obtain⟨E1,E2⟩:=St.get_blank h hs hf hfl;rw[E1,E2];exact Qox s o j hs h0 h1 hq hj hf hb w
     · rw[hb] at hfl
       obtain⟨E1,E2⟩:=St.get_ok h hs hf hfl hq;by_cases hk:(s.s j).v.k=0
       · rw[if_neg (by simp[hk])] at E2
         rw[E1,E2];exact Qot s o j hs h0 h1 hq hj hf hb (by simp[hk]) (by simp[hk]) w
       · rw[if_pos ⟨rfl,hk⟩] at E2
         rw[E1,E2];exact Qwd s o j hs h0 h1 hq hj hf hb (by simp[hk]) (by simp[hk]) w
   · obtain⟨E1,E2⟩:=St.get_fit h hs Y1l
     rw[E1,E2,hf];exact Qay s o hs hf w
   · obtain⟨E1,E2⟩:=St.get_fit h hs Y1l
     rw[E1,E2,hf];exact Q8w s o hs hf w
def WgC (pb r g:Nat)(X:Sx)(vo:Int)(y:Vl)(w:World)(d:Nat→Bool)(ν:Nat→Nat × Nat)(w':World):Prop:=w'.cell? ⟨pb,6,none⟩=some (.int .i64 vo)∧w'.cell? ⟨r,0,none⟩=some (bif d 12 then .int .u8 y.k else .int .u8 0)∧w'.cell? ⟨r,1,none⟩=some (bif d 12 then .int .u64 (N y.f.t.v) else .int .u64 0)∧w'.cell? ⟨r,2,none⟩=some (bif d 12 then .int .u64 (N y.f.t.m) else .int .u64 0)∧w'.cell? ⟨r,3,none⟩=some (bif d 12 then .int .u64 (N y.f.s.lo) else .int .u64 0)∧w'.cell? ⟨r,4,none⟩=some (bif d 12 then .int .u64 (N y.f.s.hi) else .int .u64 0)∧w'.cell? ⟨r,5,none⟩=some (bif d 12 then .int .i64 y.i else .int .i64 0)∧w'.cell? ⟨r,6,none⟩=some (bif d 12 then .int .i64 y.off else .int .i64 0)∧(∀ i,w'.frozen? ⟨r,i,none⟩=false)∧0≤w'.heap.size∧Q1e w' g X∧Below w.heap.size w w'
theorem Qto {pb r g:Nat}{X:Sx}{vo:Int}{y:Vl}{w:World}:KT (WgC pb r g X vo y w):=by
 intro d ν w' w1 h hb;obtain⟨k0,k1,k2,k3,k4,k5,k6,k7,k8,k9,k10,k11⟩:=h;exact⟨Q0 hb k0,Q0 hb k1,Q0 hb k2,Q0 hb k3,Q0 hb k4,Q0 hb k5,Q0 hb k6,Q0 hb k7,Q7 hb k1 k8,Nat.le_trans k9 hb.size,(k10).keep hb,Q8 k11 hb⟩
theorem Qtn {pb r g:Nat}{X:Sx}{vo:Int}{y:Vl}{w:World}:MT (WgC pb r g X vo y w) [12]:=by
 intro d d' ν w' hd h;unfold WgC at *;simpa only[← hd 12 Y3] using h
theorem Q127 (g:Nat)(X:Sx)(v:Vl)(off n:Int)(w:World)(hX:Q1e w g X)(hvo:-2097152≤v.off∧v.off≤2097152)(hof:-100000≤off∧off≤100000)(h3:(v.k==3)=true):Calls Tryz.prog 120 #[.pointer (some ⟨g,0,none⟩),v,.int .i64 off,.int .i64 n] w (RB.a w (.tuple #[(Co.gotV X.s X.ds X.ctx v off n),.int .i64 (Co.gotE X.s X.ds X.ctx v off n)])):=by
 have zg:=hX.lt;cases hp:Vl.ptr v
 · have EE:=Lib.hid (show Co.gotE X.s X.ds X.ctx v off n=140∧Co.gotV X.s X.ds X.ctx v off n=Vl.zero from Ygt)
   exact Ym0
 · have EE:=Lib.hid (show Co.gotE X.s X.ds X.ctx v off n=X.s.getE (v.off+off) n∧Co.gotV X.s X.ds X.ctx v off n=X.s.get (v.off+off) n by unfold Co.gotE Co.gotV;rw[hp,h3];exact⟨rfl,rfl⟩)
   refine Yvz ?_;go_wp2_with (go_at_call 114;refine Y4r ?_;intro w1 hb1 hc1 hf1 hz1);have hX2:Q1e w1.drew g X:=hX.keep Yb;refine Q2 (WgC w.heap.size (w.heap.size+1) g X v.off (X.s.get (v.off+off) n) w) [12] [] (fun _ c=>.pointer (some ⟨c.1,0,none⟩)) rfl Yc ?_ (fun d d' ν w'=>Qtn d d' ν w') (fun d ν w' w1=>Qto d ν w' w1) (fun i hi=>Yf0) ?_
   · intro d ν hd;refine⟨?_,?_,?_,?_,?_,?_,?_,?_,?_,?_,?_,Yb⟩<;>first|(with_reducible exact hX.keep Yg)|(simp (maxDischargeDepth:=12) [*,hd,upd,Qo,go_sem,↓IntWalk.iteOmega];done)|(intro i;simp (maxDischargeDepth:=12) [*,upd,Qo,go_sem,↓IntWalk.iteOmega];done)|(intro h;rw[hd _ Y0] at h;cases h)|go_size|(simp;omega)
   apply Exists.intro;refine⟨fun ν=>?_,?_,?_⟩
   · (try simp only[List.append])
     iterate 12 refine Yde ?_
     (refine Qh rfl rfl rfl rfl Yc (fun d w' hd hC=>?_) ?_
      · obtain⟨k0,k1,k2,k3,k4,k5,k6,k7,k8,k9,k10,k11⟩:=hC
        (try have p12:=hd.ahead 12 Yd);have r:=hd.open_;refine⟨_,Y11,?_⟩
        refine⟨?_,?_,?_,?_,?_,?_,?_,?_,?_,?_,?_,Yg⟩<;>first|(with_reducible exact hX.keep Yg)|(simp (maxDischargeDepth:=12) [*,upd,Qo,go_sem,↓IntWalk.iteOmega];done)|(intros;simp (maxDischargeDepth:=12) [*,upd,Qo,go_sem,↓IntWalk.iteOmega];done))
     iterate 1 refine Yde ?_
     exact rfl
   · intro i hi;cases hi
   · intro ν w9 d hd hC
     obtain⟨k0,k1,k2,k3,k4,k5,k6,k7,k8,k9,k10,k11⟩:=hC;have q12:=hd 12 Y0;simp only[q12,cond_true,cond_false,forall_const,true_implies] at k0 k1 k2 k3 k4 k5 k6 k7 k8 k9 k10 k11;clear q12;clear hd;refine Yvn ?_;intro z0 z1;go_wp2;refine bodyPost_ret (Qk (fn:=Tryz.f120) rfl _ _ (w.heap.size+1) ((X.s.get (v.off+off) n)) (.int .i64 (X.s.getE (v.off+off) n)) rfl rfl ?_ ?_ ?_ ?_ ?_ ?_ ?_) rfl ⟨rfl,Yb⟩
     all_goals (simp (maxDischargeDepth:=12) [*,go_sem,↓IntWalk.iteOmega];done)
end Hk
