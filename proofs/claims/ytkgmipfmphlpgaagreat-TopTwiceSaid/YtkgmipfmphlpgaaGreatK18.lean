/- A part of TopTwice's proof; no condition. -/
import Derived.Test.YtkgmipfmphlpgaaGreatK17
open Go Go.RowKit Go.Proofs
set_option linter.all false
set_option maxRecDepth 100000
set_option maxHeartbeats 20000000
namespace Hk
theorem Qoo (n:Int)(w:World):Calls Tryz.prog 155 #[.int .i64 n] w (RB.a w (.bool (St.sized n))):=by
 by_cases e1:n=1
 · subst e1
   exact Ysu
 by_cases e2:n=2
 · subst e2
   exact Ysu
 by_cases e4:n=4
 · subst e4
   exact Ysu
 by_cases e8:n=8
 · subst e8
   exact Ysu
 go_enter Tryz.func155,Tryz.ntmps155;go_wp2;go_ret;exact⟨by simp[St.sized, *],Y14⟩
theorem Qpg (o:Int)(h:o<0)(w:World):Calls Tryz.prog 156 #[.int .i64 o,.int .i64 1] w (RB.a w (.int .i64 80)):=by
 exact Ys1
theorem Qpf (o:Int)(h0:0≤o)(h1:512 - 1<o)(w:World):Calls Tryz.prog 156 #[.int .i64 o,.int .i64 1] w (RB.a w (.int .i64 80)):=by
 exact Ypx
theorem Qpe (o:Int)(h0:0≤o)(h1:o≤512 - 1)(h2:o % 1=0)(w:World):Calls Tryz.prog 156 #[.int .i64 o,.int .i64 1] w (RB.a w (.int .i64 0)):=by
 simp only[Int.reduceSub] at h1;have h3:=Int.emod_one o;exact Ys1
theorem Qwn (o:Int)(w:World):Calls Tryz.prog 156 #[.int .i64 o,.int .i64 1] w (RB.a w (.int .i64 (St.fitsE o 1))):=by
 by_cases h:o<0
 · have e:St.fitsE o 1=80:=by unfold St.fitsE;rw[if_pos (.inl h)]
   rw[e];exact Qpg o h w
 have h0:0≤o:=Y1;by_cases h1:512 - 1<o
 · have e:St.fitsE o 1=80:=by unfold St.fitsE;rw[if_pos (.inr h1)]
   rw[e];exact Qpf o h0 h1 w
 have h1:o≤512 - 1:=Y1;by_cases h2:o % 1=0
 · have e:St.fitsE o 1=0:=by unfold St.fitsE;rw[if_neg Y1,if_pos h2]
   rw[e];exact Qpe o h0 h1 h2 w
 · exact absurd Y1 h2
theorem Qpd (o:Int)(h:o<0)(w:World):Calls Tryz.prog 156 #[.int .i64 o,.int .i64 2] w (RB.a w (.int .i64 80)):=by
 exact Ys1
theorem Qpc (o:Int)(h0:0≤o)(h1:512 - 2<o)(w:World):Calls Tryz.prog 156 #[.int .i64 o,.int .i64 2] w (RB.a w (.int .i64 80)):=by
 exact Ypx
theorem Qpb (o:Int)(h0:0≤o)(h1:o≤512 - 2)(h2:o % 2=0)(w:World):Calls Tryz.prog 156 #[.int .i64 o,.int .i64 2] w (RB.a w (.int .i64 0)):=by
 exact Ypx
theorem Qpa (o:Int)(h0:0≤o)(h1:o≤512 - 2)(h2:¬ o % 2=0)(w:World):Calls Tryz.prog 156 #[.int .i64 o,.int .i64 2] w (RB.a w (.int .i64 130)):=by
 exact Ypx
theorem Qwm (o:Int)(w:World):Calls Tryz.prog 156 #[.int .i64 o,.int .i64 2] w (RB.a w (.int .i64 (St.fitsE o 2))):=by
 by_cases h:o<0
 · have e:St.fitsE o 2=80:=by unfold St.fitsE;rw[if_pos (.inl h)]
   rw[e];exact Qpd o h w
 have h0:0≤o:=Y1;by_cases h1:512 - 2<o
 · have e:St.fitsE o 2=80:=by unfold St.fitsE;rw[if_pos (.inr h1)]
   rw[e];exact Qpc o h0 h1 w
 have h1:o≤512 - 2:=Y1;by_cases h2:o % 2=0
 · have e:St.fitsE o 2=0:=by unfold St.fitsE;rw[if_neg Y1,if_pos h2]
   rw[e];exact Qpb o h0 h1 h2 w
 · have e:St.fitsE o 2=130:=by unfold St.fitsE;rw[if_neg Y1,if_neg h2]
   rw[e];exact Qpa o h0 h1 h2 w
theorem Qp9 (o:Int)(h:o<0)(w:World):Calls Tryz.prog 156 #[.int .i64 o,.int .i64 4] w (RB.a w (.int .i64 80)):=by
 exact Ys1
theorem Qp8 (o:Int)(h0:0≤o)(h1:512 - 4<o)(w:World):Calls Tryz.prog 156 #[.int .i64 o,.int .i64 4] w (RB.a w (.int .i64 80)):=by
 exact Ypx
theorem Qp7 (o:Int)(h0:0≤o)(h1:o≤512 - 4)(h2:o % 4=0)(w:World):Calls Tryz.prog 156 #[.int .i64 o,.int .i64 4] w (RB.a w (.int .i64 0)):=by
 exact Ypx
theorem Qp6 (o:Int)(h0:0≤o)(h1:o≤512 - 4)(h2:¬ o % 4=0)(w:World):Calls Tryz.prog 156 #[.int .i64 o,.int .i64 4] w (RB.a w (.int .i64 130)):=by
 exact Ypx
theorem Qwl (o:Int)(w:World):Calls Tryz.prog 156 #[.int .i64 o,.int .i64 4] w (RB.a w (.int .i64 (St.fitsE o 4))):=by
 by_cases h:o<0
 · have e:St.fitsE o 4=80:=by unfold St.fitsE;rw[if_pos (.inl h)]
   rw[e];exact Qp9 o h w
 have h0:0≤o:=Y1;by_cases h1:512 - 4<o
 · have e:St.fitsE o 4=80:=by unfold St.fitsE;rw[if_pos (.inr h1)]
   rw[e];exact Qp8 o h0 h1 w
 have h1:o≤512 - 4:=Y1;by_cases h2:o % 4=0
 · have e:St.fitsE o 4=0:=by unfold St.fitsE;rw[if_neg Y1,if_pos h2]
   rw[e];exact Qp7 o h0 h1 h2 w
 · have e:St.fitsE o 4=130:=by unfold St.fitsE;rw[if_neg Y1,if_neg h2]
   rw[e];exact Qp6 o h0 h1 h2 w
theorem Qp5 (o:Int)(h:o<0)(w:World):Calls Tryz.prog 156 #[.int .i64 o,.int .i64 8] w (RB.a w (.int .i64 80)):=by
 exact Ys1
theorem Qp4 (o:Int)(h0:0≤o)(h1:512 - 8<o)(w:World):Calls Tryz.prog 156 #[.int .i64 o,.int .i64 8] w (RB.a w (.int .i64 80)):=by
 exact Ypx
theorem Qp3 (o:Int)(h0:0≤o)(h1:o≤512 - 8)(h2:o % 8=0)(w:World):Calls Tryz.prog 156 #[.int .i64 o,.int .i64 8] w (RB.a w (.int .i64 0)):=by
 exact Ypx
theorem Qp2 (o:Int)(h0:0≤o)(h1:o≤512 - 8)(h2:¬ o % 8=0)(w:World):Calls Tryz.prog 156 #[.int .i64 o,.int .i64 8] w (RB.a w (.int .i64 130)):=by
 exact Ypx
theorem Qwk (o:Int)(w:World):Calls Tryz.prog 156 #[.int .i64 o,.int .i64 8] w (RB.a w (.int .i64 (St.fitsE o 8))):=by
 by_cases h:o<0
 · have e:St.fitsE o 8=80:=by unfold St.fitsE;rw[if_pos (.inl h)]
   rw[e];exact Qp5 o h w
 have h0:0≤o:=Y1;by_cases h1:512 - 8<o
 · have e:St.fitsE o 8=80:=by unfold St.fitsE;rw[if_pos (.inr h1)]
   rw[e];exact Qp4 o h0 h1 w
 have h1:o≤512 - 8:=Y1;by_cases h2:o % 8=0
 · have e:St.fitsE o 8=0:=by unfold St.fitsE;rw[if_neg Y1,if_pos h2]
   rw[e];exact Qp3 o h0 h1 h2 w
 · have e:St.fitsE o 8=130:=by unfold St.fitsE;rw[if_neg Y1,if_neg h2]
   rw[e];exact Qp2 o h0 h1 h2 w
end Hk
namespace Hk
theorem Qbs {fn:Func}{p q:Tmp}(h:fn.results=#[.cell p 90,.tmp q])(tmps:Array Value)(w:World)(g:Nat)(c:Array Value)(v:Value)(hp:tmps.getD p undef=.pointer (some ⟨g,0,none⟩))(hq:tmps.getD q undef=v)(hs:(blk w g).size=589)(hc:blk w g=c) :
 (results fn tmps).run Tryz.prog w=.ok (.tuple #[.agg c,v]) w:=by
 have hp':tmps[p]?.getD undef=.pointer (some ⟨g,0,none⟩):=Yew;have hq':tmps[q]?.getD undef=v:=by simpa using hq
 subst hc;simp[results,h,hp',hq',asAddr,Q52 w g hs]
end Hk
namespace Hk
theorem Qwq (o n:Int)(h0:0≤o)(h1:0≤n)(h2:o≤512)(w:World):Calls Tryz.prog 157 #[.int .i64 o,.int .i64 n] w (RW.a w (.int .u8 (N8 (St.bits o n)))):=by
 go_enter Tryz.func157,Tryz.ntmps157;go_wp2;go_ret;exact⟨Eq.trans rfl (congrArg (fun z=>Ending.returned (Value.int .u8 z)) (Q10k _ (o % 8).toNat Y1)),rfl⟩
theorem Q12l (s:St)(o n:Int)(v:Vl)(h:St.sized n=false)(w:World):Calls Tryz.prog 158 #[.agg (St.cells s),.int .i64 o,.int .i64 n,v] w (RB.a w (.tuple #[.agg (St.cells (s.put o n v)),.int .i64 (s.putE o n v)])):=by
 exact Yku
theorem Quu (s:St)(o n:Int)(v:Vl)(h:St.sized n=true)(hv:Vl.right v=false)(w:World):Calls Tryz.prog 158 #[.agg (St.cells s),.int .i64 o,.int .i64 n,v] w (RB.a w (.tuple #[.agg (St.cells (s.put o n v)),.int .i64 (s.putE o n v)])):=by
 exact Yku
theorem Qwb (s:St)(o n:Int)(f:Fa)(i off:Int)(h:St.sized n=true)(hv:Vl.right ⟨0,f,i,off⟩=true)(w:World):Calls Tryz.prog 158 #[.agg (St.cells s),.int .i64 o,.int .i64 n,.agg #[.int .u8 0,.int .u64 (N f.t.v),.int .u64 (N f.t.m),.int .u64 (N f.s.lo),.int .u64 (N f.s.hi),.int .i64 i,.int .i64 off]] w (RB.a w (.tuple #[.agg (St.cells (s.put o n ⟨0,f,i,off⟩)),.int .i64 (s.putE o n ⟨0,f,i,off⟩)])):=by
 have E:s.putE o n ⟨0,f,i,off⟩=1:=Ygb;have E2:s.put o n ⟨0,f,i,off⟩=St.zero:=Ygc;exact Yl9
theorem Q12j (s:St)(o n:Int)(v:Vl)(h:St.sized n=true)(hv:Vl.right v=true)(hk:¬ v.k=0)(h8:n<8)(hk1:¬ v.k=1)(w:World):Calls Tryz.prog 158 #[.agg (St.cells s),.int .i64 o,.int .i64 n,v] w (RB.a w (.tuple #[.agg (St.cells (s.put o n v)),.int .i64 (s.putE o n v)])):=by
 have E:s.putE o n v=1:=Ygb;have E2:s.put o n v=St.zero:=Ygc;rw[E2,E];clear E E2;have hb0:(v.k==0)=false:=Y6;have hb1:(v.k != 1)=true:=by simpa using hk1
 have hb2:(v.k==1)=false:=by simpa using hk1
 exact Ylb
theorem Q12i (s:St)(o n:Int)(v:Vl)(h:St.sized n=true)(hv:Vl.right v=true)(hk:¬ v.k=0)(h8:¬ n<8)(hs:s.right=false)(w:World):Calls Tryz.prog 158 #[.agg (St.cells s),.int .i64 o,.int .i64 n,v] w (RB.a w (.tuple #[.agg (St.cells (s.put o n v)),.int .i64 (s.putE o n v)])):=by
 have E:s.putE o n v=1:=Ygb;have E2:s.put o n v=St.zero:=Ygc;rw[E2,E];clear E E2;have hb0:(v.k==0)=false:=Y6;exact Ylb
theorem Q12h (s:St)(o n:Int)(f:Fa)(i off:Int)(h:St.sized n=true)(hv:Vl.right ⟨1,f,i,off⟩=true)(h8:n<8)(hs:s.right=false)(w:World):Calls Tryz.prog 158 #[.agg (St.cells s),.int .i64 o,.int .i64 n,.agg #[.int .u8 1,.int .u64 (N f.t.v),.int .u64 (N f.t.m),.int .u64 (N f.s.lo),.int .u64 (N f.s.hi),.int .i64 i,.int .i64 off]] w (RB.a w (.tuple #[.agg (St.cells (s.put o n ⟨1,f,i,off⟩)),.int .i64 (s.putE o n ⟨1,f,i,off⟩)])):=by
 have E:s.putE o n ⟨1,f,i,off⟩=1:=Ygb;have E2:s.put o n ⟨1,f,i,off⟩=St.zero:=Ygc;exact Yl9
end Hk
namespace Hk
theorem Qwj (s:St)(o n:Int)(h:o<0)(w:World):Calls Tryz.prog 188 #[.agg (St.cells s),.int .i64 o,.int .i64 n] w (RB.a w (.bool (s.full o n))):=by
 exact Ynw
theorem Qwi (s:St)(o n:Int)(h0:0≤o)(h:n<0)(w:World):Calls Tryz.prog 188 #[.agg (St.cells s),.int .i64 o,.int .i64 n] w (RB.a w (.bool (s.full o n))):=by
 exact Ynw
theorem Qp1 (s:St)(o n:Int)(h0:0≤o)(h1:0≤n)(h:512<n)(w:World):Calls Tryz.prog 188 #[.agg (St.cells s),.int .i64 o,.int .i64 n] w (RB.a w (.bool (s.full o n))):=by
 exact Ynw
theorem Qwg (s:St)(o n:Int)(h0:0≤o)(h1:0≤n)(h2:n≤512)(h:512 - n<o)(w:World):Calls Tryz.prog 188 #[.agg (St.cells s),.int .i64 o,.int .i64 n] w (RB.a w (.bool (s.full o n))):=by
 exact Ynw
theorem Qwf (s:St)(o n:Int)(h0:0≤o)(h1:0≤n)(h2:n≤512)(h3:o≤512 - n)(hs:s.right=false)(w:World):Calls Tryz.prog 188 #[.agg (St.cells s),.int .i64 o,.int .i64 n] w (RB.a w (.bool (s.full o n))):=by
 exact Ynw
theorem Qwe (s:St)(o n:Nat)(h2:n≤512)(h3:o+n≤512)(hs:s.right=true)(w:World):Calls Tryz.prog 188 #[.agg (St.cells s),.int .i64 (o:Int),.int .i64 (n:Int)] w (RB.a w (.bool (s.full (o:Int) (n:Int)))):=by
 have h3':(o:Int)≤512 - (n:Int):=Y1;have h2':(n:Int)≤512:=Y1;go_enter Tryz.func188,Tryz.ntmps188;go_wp2_with (go_at_call 65;refine Y4c ?_;intro w1 hb1 hc1 hf1 hz1 hk1);have HB:Below (w.heap.size+1) (w.alloc (.cells s.cells 90)) w1:=Y14;clear hb1 hc1 hf1 hz1 hk1
 go_loopw [1,7] (fun c d wr=>∃ k:Nat,k≤n∧c=.int .i64 ((o+k:Nat):Int)∧d=.int .i64 ((n - k:Nat):Int)∧Hid (s.upB o k=true)∧Below (w.heap.size+1) (w.alloc (.cells s.cells 90)) wr) (fun _ d _=>(intOf d).toNat)
 case atStart=>exact⟨0,Y1,rfl,rfl,Lib.hid (s.upB_zero o),HB⟩
 case round =>
  clear HB;obtain⟨k,hk,rfl,rfl,hup,hB⟩:=hrel;refine Yvi ?_;intro hcB hfB hzB hkB;generalize ha:o+k=a;generalize hl:n - k=l;have hal:a+l≤512:=Y1;by_cases hl0:0<l
  · obtain⟨r,hrr⟩:∃ r,r=a % 8:=⟨_,rfl⟩
    obtain⟨q,hqq⟩:∃ q,q=a / 8:=⟨_,rfl⟩;obtain⟨e,hee⟩:∃ e,e=8 - r:=⟨_,rfl⟩;have hr:(a:Int) % 8=(r:Int):=Y1;have hq:(a:Int) / 8=(q:Int):=Y1;have h8:(8:Int) - (r:Int)=(e:Int):=Y1;have hq64:q<64:=Y1;have hr8:r<8:=Y1;obtain⟨m,hmm⟩:∃ m,m=min l e:=⟨_,rfl⟩;have hmin:min (l:Int) (e:Int)=(m:Int):=Y1;have hm0:0<m:=Y1;have hml:m≤l:=Y1;have ham:a % 8+m≤8:=Y1;have hfact:=Lib.hid (And.intro (And.intro hrr hqq) (And.intro ham (And.intro ha hl)));clear hrr hqq hee ha hl hmm ham;cases hb:(((s.s q).p &&& St.bits (a:Int) (m:Int))==St.bits (a:Int) (m:Int))
    · go_wp2_with (go_at_call 157;refine Y4q ?_)
      obtain⟨⟨_,rfl⟩,ham,rfl,rfl⟩:=hfact.out;obtain⟨i,hi,h9⟩:=St.run_not ham hb;have h10:s.full (o:Int) (n:Int)=false:=St.full_no (k:=k+i) Y1 (by rw[← Nat.add_assoc];exact h9);go_ret;exact⟨Eq.trans (b:=Ending.returned (.bool false)) rfl (by rw[h10]),Y14⟩
    · go_wp2_with (go_at_call 157;refine Y4q ?_)
      obtain⟨⟨_,rfl⟩,ham,rfl,rfl⟩:=hfact.out
      go_roundw
      case rel=>exact⟨k+m,Y1,Yf1,Yf1,Lib.hid (St.upB_add hup.out ((St.run_set ham).1 hb)),Y14⟩
      case measure=>simp[intOf];omega
  · obtain rfl:l=0:=by omega
    have hkn:k=n:=Y1;have h10:s.full (o:Int) (n:Int)=true:=St.full_yes h3 hs (by rw[← hkn];exact hup.out);have h11:=Lib.hid h10;clear h10 hkn hl;go_wp2;go_ret;exact⟨Eq.trans (b:=Ending.returned (.bool true)) rfl (by rw[h11.out]),Y14⟩
theorem Qwh (s:St)(o n:Int)(w:World):Calls Tryz.prog 188 #[.agg (St.cells s),.int .i64 o,.int .i64 n] w (RB.a w (.bool (s.full o n))):=by
 by_cases h:o<0
 · exact Qwj s o n h w
 have h0:0≤o:=Y1;by_cases h:n<0
 · exact Qwi s o n h0 h w
 have h1:0≤n:=Y1;by_cases h:512<n
 · exact Qp1 s o n h0 h1 h w
 have h2:n≤512:=Y1;by_cases h:512 - n<o
 · exact Qwg s o n h0 h1 h2 h w
 have h3:o≤512 - n:=Y1;cases hs:s.right
 · exact Qwf s o n h0 h1 h2 h3 hs w
 obtain⟨a,rfl⟩:=Int.eq_ofNat_of_zero_le h0;obtain⟨m,rfl⟩:=Int.eq_ofNat_of_zero_le h1;exact Qwe s a m Y1 Y1 hs w
end Hk
namespace Hk
theorem Q94 (ρ:Operand→Value)(op:Oper)(x:Operand)(g:Nat)(X:Sx)(ho:op.op=.load 90 x)(hx:ρ x=.pointer (some ⟨g,15,none⟩))(w:World)(h0:Q1e w g X) :
 (execOp ρ op).run Tryz.prog w=.ok (.value (.agg X.s.cells)) w:=by
 obtain⟨dst,op,type,pos,after,guard⟩:=op;simp only at ho;subst ho;have h1:=Q75 (P:=Tryz.prog) w 90 g X (Tryz.isAgg90 w) (Tryz.sizeOf90 w) h0.blk;simp[execOp,hx,Sem.run_bind,Result.andThen,Instr.loadAt,Instr.sureAddr,h1]
theorem Q10 {op:Oper}{a:Act}{C:World→Prop}{K:Act→Prop}{x:Operand}{g:Nat}{X:Sx}(ho:op.op=.load 90 x)(hx:a.eval x=.pointer (some ⟨g,15,none⟩))
 (h:∀ w,C w→Q1e w g X) (hk:K (a.put op.dst (.agg X.s.cells))):op.quiet Tryz.prog a C K :=
 Qt (v:=.agg X.s.cells) (fun w hC=>by unfold Oper.quietAt;rw[Q94 _ op x g X ho hx w (h w hC)];exact⟨rfl,rfl⟩) hk
def WfC (g pb:Nat)(X:Sx)(vo:Int)(w:World)(d:Nat→Bool)(ν:Nat→Nat × Nat)(w':World):Prop:=w'.cell? ⟨pb,6,none⟩=some (.int .i64 vo)∧0≤w'.heap.size∧Q1e w' g X∧Below w.heap.size w w'
theorem Qtq {g pb:Nat}{X:Sx}{vo:Int}{w:World}:KT (WfC g pb X vo w):=by
 intro d ν w' w1 h hb;obtain⟨k0,k1,k2,k3⟩:=h;exact⟨Q0 hb k0,Nat.le_trans k1 hb.size,(k2).keep hb,Q8 k3 hb⟩
theorem Qtp {g pb:Nat}{X:Sx}{vo:Int}{w:World}:MT (WfC g pb X vo w) []:=by
 intro d d' ν w' hd h;unfold WfC at *;simpa only[true_and] using h
theorem Qvp (g:Nat)(X:Sx)(v:Vl)(n:Int)(w:World)(hX:Q1e w g X)(hvo:-2097152≤v.off∧v.off≤2097152)(hsz:0≤n∧n≤100000)(hctx:0≤X.ctx∧X.ctx≤64)(hds:∀ d∈X.ds,0≤d.val∧d.val≤64)(hvi:0≤v.i∧v.i≤7):Calls Tryz.prog 164 #[.pointer (some ⟨g,0,none⟩),v,.int .i64 n] w (RB.a w (.int .i64 (Co.readE X.s X.ds X.ctx v n))):=by
 have zg:=hX.lt;cases h0:(v.k==0)
 · cases hp:Vl.ptr v
   · have EE:=Lib.hid (show Co.readE X.s X.ds X.ctx v n=140 by unfold Co.readE;rw[h0,hp];rfl)
     exact Yns
   · cases h3:(v.k==3)
     · have EE:=Lib.hid (show Co.readE X.s X.ds X.ctx v n=Co.insideE X.ds X.ctx v 0 n by unfold Co.readE;rw[h0,hp,h3];rfl)
       go_enter Tryz.func164,Tryz.ntmps164;go_wp2_with ((with_reducible apply ic);first|(refine Y3u ?_;intro w1 hb1 hc1 hf1 hz1)|(refine Y4r ?_;intro w2 hb2 hc2 hf2 hz2)|(go_at_call 124;(with_reducible refine (Q4i _ _ _ _ _ _ (hX.keep Yb) Y2 Y1 Y2 Y2 Y2 Y2).mono ?_);refine Y2c ?_;intro w3 hb3 hc3 hf3 hz3));go_ret;exact⟨Yg9,Yb⟩
     · cases q1:decide (v.off<0)<;>cases q2:decide (512 - n<v.off)
       all_goals first
        | (have EE:=Lib.hid (show Co.readE X.s X.ds X.ctx v n=80 by unfold Co.readE;rw[h0,hp,h3,q1,q2];rfl)
           go_enter Tryz.func164,Tryz.ntmps164;go_wp2_with ((with_reducible apply ic);first|(refine Y3u ?_;intro w1 hb1 hc1 hf1 hz1)|(refine Y4r ?_;intro w2 hb2 hc2 hf2 hz2));go_ret;exact⟨Yg9,Yb⟩
           done)
        | skip
       cases hf:X.s.full v.off n
       all_goals
        have EE:=Lib.hid (show Co.readE X.s X.ds X.ctx v n=_ by unfold Co.readE;rw[h0,hp,h3,q1,q2,hf]);go_enter Tryz.func164,Tryz.ntmps164;go_wp2_with ((with_reducible apply ic);first|(refine Y3u ?_;intro w1 hb1 hc1 hf1 hz1)|(refine Y4r ?_;intro w2 hb2 hc2 hf2 hz2));have hX2:Q1e w2.drew g X:=hX.keep Yb;refine Q2 (WfC g w.heap.size X v.off w) [] [] (fun _ c=>.pointer (some ⟨c.1,0,none⟩)) rfl Yc ?_ (fun d d' ν w'=>Qtp d d' ν w') (fun d ν w' w1=>Qtq d ν w' w1) (fun i hi=>Yf0) ?_
        · intro d ν hd;refine⟨?_,?_,?_,Yb⟩<;>first|(simp (maxDischargeDepth:=12) [*,hd,upd,Qo,go_sem,↓IntWalk.iteOmega];done)|(intro i;simp (maxDischargeDepth:=12) [*,upd,Qo,go_sem,↓IntWalk.iteOmega];done)|(intro h;rw[hd _ Y0] at h;cases h)|go_size|(simp;omega)
        apply Exists.intro;refine⟨fun ν=>?_,?_,?_⟩
        · (try simp only[List.append])
          iterate 10
           (refine Qa Y0 ?_
            apply Exists.intro;refine⟨fun D hD hR hN K hK=>?_,Yc,?_⟩
            · first
              | (go_big_quiet_skip;exact hK)
              | (go_big_quiet_want
                 first
                  | ((first|(refine Q10 rfl rfl (fun w' hC=>Yge) ?_)|(refine Q3 rfl rfl (fun w' hC=>Yge) ?_))
                     simp only[Act.put,List.setIfInBounds_toArray,List.set_cons_succ,List.set_cons_zero]
                     go_big_quiet_on
                     exact hK)
                  | (go_big_quiet_op
                     first
                      | (go_big_quiet_on;exact hK)
                      | (apply Exists.intro
                         refine⟨fun w' hC=>?_,?_⟩
                         · (go_at_call 188;refine Y4t ?_;intro w1 hb1)
                           (try simp only[id]);exact⟨rfl,hD _ _ hC hb1⟩
                         go_big_quiet_on
                         exact hK))))
          exact rfl
        · intro i hi;cases hi
        · intro ν w9 d hd hC
          obtain⟨k0,k1,k2,k3⟩:=hC
          skip
          clear hd;have z0:=Q1 k0;go_wp2;go_ret;exact⟨Yg9,Yb⟩
 · have EE:=Lib.hid (show Co.readE X.s X.ds X.ctx v n=110 by unfold Co.readE;rw[h0];rfl)
   exact Yns
end Hk
