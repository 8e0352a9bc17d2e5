/- A part of TopTwice's proof; no condition. -/
import Derived.Test.YtkgmipfmphlpgaaGreatK18
open Go Go.RowKit Go.Proofs
set_option linter.all false
set_option maxRecDepth 100000
set_option maxHeartbeats 20000000
namespace Hk
attribute [go_sem] St.setV_setV
theorem Qbm (ρ:Operand→Value)(op:Oper)(x:Operand)(b o:Nat)(c0:Value)(ho:op.op=.load 5 x)(hx:ρ x=.pointer (some ⟨b,o,none⟩))(w:World)(h0:w.cell? ⟨b,o,none⟩=some c0) :
 (execOp ρ op).run Tryz.prog w=.ok (.value (c0)) w:=by
 obtain⟨dst,op,type,pos,after,guard⟩:=op;simp only at ho;subst ho
 go_simp
theorem Q7z {op:Oper}{a:Act}{C:World→Prop}{K:Act→Prop}{x:Operand}{b o:Nat}{c0:Value}(ho:op.op=.load 5 x)(hx:a.eval x=.pointer (some ⟨b,o,none⟩))
 (h:∀ w,C w→w.cell? ⟨b,o,none⟩=some c0) (hk:K (a.put op.dst (c0))):op.quiet Tryz.prog a C K :=
 Qt (v:=c0) (fun w hC=>by unfold Oper.quietAt;have h0:=h w hC;rw[Qbm _ op x b o c0 ho hx w h0];exact⟨rfl,rfl⟩) hk
def Q19o (b j:Nat)(x:St)(w:World)(w':World):Prop:=w'.cell? ⟨b,77+j*8+7,none⟩=some (.int .u8 (N8 (x.s j).p))∧blk w' b=x.cells∧(∀ i,w'.frozen? ⟨b,i,none⟩=false)∧Below w.heap.size w w'
theorem Qn9 {b j:Nat}{x:St}{w:World}:KC (Q19o b j x w):=by
 intro w' w1 h hb;obtain⟨k0,k1,k2,k3⟩:=h;exact⟨Q0 hb k0,Q12 hb k1 (by rw[x.cells_size];decide),Q7 hb k0 k2,Q8 k3 hb⟩
theorem Qos (s:St)(o:Int)(j:Nat)(f:Fa)(i off:Int)(hv:Vl.right ⟨1,f,i,off⟩=true)(hs:s.right=true)(h0:0≤o)(h1:o≤512)(hq:o / 8=(j:Int))(hj:j<64)(hf:St.fitsE o 1=0)(w:World):Calls Tryz.prog 158 #[.agg (St.cells s),.int .i64 o,.int .i64 1,.agg #[.int .u8 1,.int .u64 (N f.t.v),.int .u64 (N f.t.m),.int .u64 (N f.s.lo),.int .u64 (N f.s.hi),.int .i64 i,.int .i64 off]] w (RB.a w (.tuple #[.agg (St.cells ((s.setP j ((s.s j).p ||| St.bits o 1)).setV j Vl.zero)),.int .i64 0])):=by
 have hsz:St.sized 1=true:=rfl;exact Ykh
theorem Qor (s:St)(o:Int)(j:Nat)(f:Fa)(i off:Int)(hv:Vl.right ⟨1,f,i,off⟩=true)(hs:s.right=true)(h0:0≤o)(h1:o≤512)(hq:o / 8=(j:Int))(hj:j<64)(hf:St.fitsE o 2=0)(w:World):Calls Tryz.prog 158 #[.agg (St.cells s),.int .i64 o,.int .i64 2,.agg #[.int .u8 1,.int .u64 (N f.t.v),.int .u64 (N f.t.m),.int .u64 (N f.s.lo),.int .u64 (N f.s.hi),.int .i64 i,.int .i64 off]] w (RB.a w (.tuple #[.agg (St.cells ((s.setP j ((s.s j).p ||| St.bits o 2)).setV j Vl.zero)),.int .i64 0])):=by
 have hsz:St.sized 2=true:=rfl;exact Ykh
theorem Qoq (s:St)(o:Int)(j:Nat)(f:Fa)(i off:Int)(hv:Vl.right ⟨1,f,i,off⟩=true)(hs:s.right=true)(h0:0≤o)(h1:o≤512)(hq:o / 8=(j:Int))(hj:j<64)(hf:St.fitsE o 4=0)(w:World):Calls Tryz.prog 158 #[.agg (St.cells s),.int .i64 o,.int .i64 4,.agg #[.int .u8 1,.int .u64 (N f.t.v),.int .u64 (N f.t.m),.int .u64 (N f.s.lo),.int .u64 (N f.s.hi),.int .i64 i,.int .i64 off]] w (RB.a w (.tuple #[.agg (St.cells ((s.setP j ((s.s j).p ||| St.bits o 4)).setV j Vl.zero)),.int .i64 0])):=by
 have hsz:St.sized 4=true:=rfl;exact Ykh
theorem Qop (s:St)(o:Int)(j:Nat)(v:Vl)(hk:¬ v.k=0)(hv:Vl.right v=true)(hs:s.right=true)(h0:0≤o)(h1:o≤512)(hq:o / 8=(j:Int))(hj:j<64)(hf:St.fitsE o 8=0)(w:World):Calls Tryz.prog 158 #[.agg (St.cells s),.int .i64 o,.int .i64 8,v] w (RB.a w (.tuple #[.agg (St.cells ((s.setP j ((s.s j).p ||| St.bits o 8)).setV j v)),.int .i64 0])):=by
 have hsz:St.sized 8=true:=rfl;have hb0:(v.k==0)=false:=Y6;exact Ykh
end Hk
namespace Hk
theorem Qax (s:St)(o:Int)(f:Fa)(i off:Int)(hv:Vl.right ⟨1,f,i,off⟩=true)(hs:s.right=true)(hf:St.fitsE o 1=80)(w:World):Calls Tryz.prog 158 #[.agg (St.cells s),.int .i64 o,.int .i64 1,.agg #[.int .u8 1,.int .u64 (N f.t.v),.int .u64 (N f.t.m),.int .u64 (N f.s.lo),.int .u64 (N f.s.hi),.int .i64 i,.int .i64 off]] w (RB.a w (.tuple #[.agg (St.cells St.zero),.int .i64 80])):=by
 exact Yl6
theorem Q8t (s:St)(o:Int)(f:Fa)(i off:Int)(hv:Vl.right ⟨1,f,i,off⟩=true)(hs:s.right=true)(hf:St.fitsE o 1=130)(w:World):Calls Tryz.prog 158 #[.agg (St.cells s),.int .i64 o,.int .i64 1,.agg #[.int .u8 1,.int .u64 (N f.t.v),.int .u64 (N f.t.m),.int .u64 (N f.s.lo),.int .u64 (N f.s.hi),.int .i64 i,.int .i64 off]] w (RB.a w (.tuple #[.agg (St.cells St.zero),.int .i64 130])):=by
 exact Yl6
theorem Qaw (s:St)(o:Int)(f:Fa)(i off:Int)(hv:Vl.right ⟨1,f,i,off⟩=true)(hs:s.right=true)(hf:St.fitsE o 2=80)(w:World):Calls Tryz.prog 158 #[.agg (St.cells s),.int .i64 o,.int .i64 2,.agg #[.int .u8 1,.int .u64 (N f.t.v),.int .u64 (N f.t.m),.int .u64 (N f.s.lo),.int .u64 (N f.s.hi),.int .i64 i,.int .i64 off]] w (RB.a w (.tuple #[.agg (St.cells St.zero),.int .i64 80])):=by
 exact Yl7
theorem Q8s (s:St)(o:Int)(f:Fa)(i off:Int)(hv:Vl.right ⟨1,f,i,off⟩=true)(hs:s.right=true)(hf:St.fitsE o 2=130)(w:World):Calls Tryz.prog 158 #[.agg (St.cells s),.int .i64 o,.int .i64 2,.agg #[.int .u8 1,.int .u64 (N f.t.v),.int .u64 (N f.t.m),.int .u64 (N f.s.lo),.int .u64 (N f.s.hi),.int .i64 i,.int .i64 off]] w (RB.a w (.tuple #[.agg (St.cells St.zero),.int .i64 130])):=by
 exact Yl7
theorem Qav (s:St)(o:Int)(f:Fa)(i off:Int)(hv:Vl.right ⟨1,f,i,off⟩=true)(hs:s.right=true)(hf:St.fitsE o 4=80)(w:World):Calls Tryz.prog 158 #[.agg (St.cells s),.int .i64 o,.int .i64 4,.agg #[.int .u8 1,.int .u64 (N f.t.v),.int .u64 (N f.t.m),.int .u64 (N f.s.lo),.int .u64 (N f.s.hi),.int .i64 i,.int .i64 off]] w (RB.a w (.tuple #[.agg (St.cells St.zero),.int .i64 80])):=by
 exact Yl8
theorem Q8r (s:St)(o:Int)(f:Fa)(i off:Int)(hv:Vl.right ⟨1,f,i,off⟩=true)(hs:s.right=true)(hf:St.fitsE o 4=130)(w:World):Calls Tryz.prog 158 #[.agg (St.cells s),.int .i64 o,.int .i64 4,.agg #[.int .u8 1,.int .u64 (N f.t.v),.int .u64 (N f.t.m),.int .u64 (N f.s.lo),.int .u64 (N f.s.hi),.int .i64 i,.int .i64 off]] w (RB.a w (.tuple #[.agg (St.cells St.zero),.int .i64 130])):=by
 exact Yl8
theorem Qau (s:St)(o:Int)(v:Vl)(hk:¬ v.k=0)(hv:Vl.right v=true)(hs:s.right=true)(hf:St.fitsE o 8=80)(w:World):Calls Tryz.prog 158 #[.agg (St.cells s),.int .i64 o,.int .i64 8,v] w (RB.a w (.tuple #[.agg (St.cells St.zero),.int .i64 80])):=by
 exact Ykx
theorem Q8q (s:St)(o:Int)(v:Vl)(hk:¬ v.k=0)(hv:Vl.right v=true)(hs:s.right=true)(hf:St.fitsE o 8=130)(w:World):Calls Tryz.prog 158 #[.agg (St.cells s),.int .i64 o,.int .i64 8,v] w (RB.a w (.tuple #[.agg (St.cells St.zero),.int .i64 130])):=by
 exact Ykx
theorem Q12k (s:St)(o n:Int)(v:Vl)(w:World):Calls Tryz.prog 158 #[.agg (St.cells s),.int .i64 o,.int .i64 n,v] w (RB.a w (.tuple #[.agg (St.cells (s.put o n v)),.int .i64 (s.putE o n v)])):=by
 cases h:St.sized n
 · exact Q12l s o n v h w
 by_cases hk:v.k=0
 · obtain⟨k,f,i,off⟩:=v
   obtain rfl:k=0:=hk;cases hv:Vl.right ⟨0,f,i,off⟩
   · exact Quu s o n _ h hv w
   exact Qwb s o n f i off h hv w
 cases hv:Vl.right v
 · exact Quu s o n v h hv w
 by_cases h8:n<8
 · by_cases hk1:v.k=1
   · obtain⟨k,f,i,off⟩:=v
     obtain rfl:k=1:=hk1;cases hs:s.right
     · exact Q12h s o n f i off h hv h8 hs w
     have hn:n=1∨n=2∨n=4:=by have:=St.sized_is h;omega
     clear h8 h hk;rcases hn with rfl|rfl|rfl
     · have hA:s.putArg 1 ⟨1,f,i,off⟩=true:=by simp[St.putArg,St.sized, *]
       have E1:=St.putE_ok (o:=o) hA;rcases St.fits_3 o 1 with hf|hf|hf
       · obtain⟨j,hq,hj,h0,h1⟩:=St.fits_j hf Y0
         rw[E1,hf,St.put_ok hA hf hq];exact Qos s o j f i off hv hs h0 h1 hq hj hf w
       · rw[E1,hf,St.put_no hA Y1l];exact Qax s o f i off hv hs hf w
       · rw[E1,hf,St.put_no hA Y1l];exact Q8t s o f i off hv hs hf w
     · have hA:s.putArg 2 ⟨1,f,i,off⟩=true:=by simp[St.putArg,St.sized, *]
       have E1:=St.putE_ok (o:=o) hA;rcases St.fits_3 o 2 with hf|hf|hf
       · obtain⟨j,hq,hj,h0,h1⟩:=St.fits_j hf Y0
         rw[E1,hf,St.put_ok hA hf hq];exact Qor s o j f i off hv hs h0 h1 hq hj hf w
       · rw[E1,hf,St.put_no hA Y1l];exact Qaw s o f i off hv hs hf w
       · rw[E1,hf,St.put_no hA Y1l];exact Q8s s o f i off hv hs hf w
     · have hA:s.putArg 4 ⟨1,f,i,off⟩=true:=by simp[St.putArg,St.sized, *]
       have E1:=St.putE_ok (o:=o) hA;rcases St.fits_3 o 4 with hf|hf|hf
       · obtain⟨j,hq,hj,h0,h1⟩:=St.fits_j hf Y0
         rw[E1,hf,St.put_ok hA hf hq];exact Qoq s o j f i off hv hs h0 h1 hq hj hf w
       · rw[E1,hf,St.put_no hA Y1l];exact Qav s o f i off hv hs hf w
       · rw[E1,hf,St.put_no hA Y1l];exact Q8r s o f i off hv hs hf w
   · exact Q12j s o n v h hv hk h8 hk1 w
 · cases hs:s.right
   · exact Q12i s o n v h hv hk h8 hs w
   have hn8:n=8:=by have:=St.sized_is h;omega
   subst hn8;have hA:s.putArg 8 v=true:=by simp[St.putArg,St.sized, *]
   have E1:=St.putE_ok (o:=o) hA;rcases St.fits_3 o 8 with hf|hf|hf
   · obtain⟨j,hq,hj,h0,h1⟩:=St.fits_j hf Y0
     rw[E1,hf,St.put_ok hA hf hq];exact Qop s o j v hk hv hs h0 h1 hq hj hf w
   · rw[E1,hf,St.put_no hA Y1l];exact Qau s o v hk hv hs hf w
   · rw[E1,hf,St.put_no hA Y1l];exact Q8q s o v hk hv hs hf w
end Hk
