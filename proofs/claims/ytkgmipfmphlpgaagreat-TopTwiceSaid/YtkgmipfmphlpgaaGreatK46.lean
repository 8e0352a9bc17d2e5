/- A part of TopTwice; no condition. -/
import Derived.Test.YtkgmipfmphlpgaaGreatK45
import Derived.Test.YtkgmipfmphlpgaaGreatRows
import Derived.Lib.SmallJoins
open Go Go.RowKit Go.Proofs
set_option linter.all false
set_option maxRecDepth 100000
set_option maxHeartbeats 20000000
namespace Hk
attribute [-go_sem] Qm
theorem Qla {c:Value}(h:Qv6 (some .u8) c):∃ x:BitVec 8,c=.int .u8 (N8 x):=by
 obtain⟨x,rfl,hx⟩:=Qyl h;exact⟨BitVec.ofInt 8 x,by simp[N8];omega⟩
theorem Qt3 {w:World}{p:Option Addr}{len C:Nat}(hC:C=1)(h:∀ i,i<len→∃ b o,p=some ⟨b,o,none⟩∧∃ cs:List Value,cs.length=C∧(∀ j,j<C→w.cell? ⟨b,o+i*C+j,none⟩=cs[j]?)∧∀ j lf,Q5s Tryz.prog 9 5 j=some lf→∃ c,cs[j]?=some c∧Qv6 lf c):∃ f,Q2m w p len f:=by
 subst hC
 have h2:∀ i,∃ x:BitVec 8,i<len→∃ b o,p=some ⟨b,o,none⟩∧w.cell? ⟨b,o+i,none⟩=some (.int .u8 (N8 x)):=fun i=>by
  by_cases hi:i<len
  · obtain⟨b,o,hp,cs,_,hc,hf⟩:=h i hi
    obtain⟨c,h3,h4⟩:=hf 0 (some .u8) Yc;obtain⟨x,rfl⟩:=Qla h4;exact⟨x,fun _=>⟨b,o,hp,by have:=hc 0 Y1;rw[h3] at this;simpa using this⟩⟩
  · exact⟨0,fun h=>absurd h hi⟩
 refine⟨fun i=>Classical.choose (h2 i),?_⟩;by_cases h0:len=0
 · exact .inl h0
 · obtain⟨b,o,hp,-⟩:=Classical.choose_spec (h2 0) Y1
   refine .inr ⟨b,o,hp,fun j hj=>?_⟩;obtain⟨b',o',hp',hc⟩:=Classical.choose_spec (h2 j) hj;rw[hp] at hp';cases hp';exact hc
theorem Qzf {w:World}{p:Option Addr}{len C:Nat}(hC:C=4)(h:∀ i,i<len→∃ b o,p=some ⟨b,o,none⟩∧∃ cs:List Value,cs.length=C∧(∀ j,j<C→w.cell? ⟨b,o+i*C+j,none⟩=cs[j]?)∧∀ j lf,Q5s Tryz.prog 9 102 j=some lf→∃ c,cs[j]?=some c∧Qv6 lf c):∃ ds:List Df,ds.length=len∧Q1s w p ds:=by
 subst hC
 have h2:∀ i,∃ x:Df,i<len→∃ b o,p=some ⟨b,o,none⟩∧w.cell? ⟨b,o+i*4,none⟩=some (.bool x.hash)∧w.cell? ⟨b,o+i*4+1,none⟩=some (.int .i64 x.key)∧w.cell? ⟨b,o+i*4+2,none⟩=some (.int .i64 x.val)∧w.cell? ⟨b,o+i*4+3,none⟩=some (.int .i64 x.max):=fun i=>by
  by_cases hi:i<len
  · obtain⟨b,o,hp,cs,_,hc,hf⟩:=h i hi
    obtain⟨c0,e0,f0⟩:=hf 0 none Yc;obtain⟨c1,e1,f1⟩:=hf 1 (some .i64) Yc;obtain⟨c2,e2,f2⟩:=hf 2 (some .i64) Yc;obtain⟨c3,e3,f3⟩:=hf 3 (some .i64) Yc;obtain⟨x0,rfl⟩:=Qkr f0;obtain⟨x1,rfl,_⟩:=Q86 f1;obtain⟨x2,rfl,_⟩:=Q86 f2;obtain⟨x3,rfl,_⟩:=Q86 f3;exact⟨⟨x0,x1,x2,x3⟩,fun _=>⟨b,o,hp,(hc 0 Y1).trans e0,(hc 1 Y1).trans e1,(hc 2 Y1).trans e2,(hc 3 Y1).trans e3⟩⟩
  · exact⟨⟨false,0,0,0⟩,fun h=>absurd h hi⟩
 refine⟨(List.range len).map fun i=>Classical.choose (h2 i),by simp,fun k hk=>?_⟩;have hk':k<len:=Y6;have:=Classical.choose_spec (h2 k) hk';simpa using this
open Go.ChangeShapes Go.WideShapes Go.RowKit Go.Deep
theorem Qat {H:Type}{enc:TypeId×Value→H}{P:Program}{w:World}{b0:Nat}{sp:Nat→Bool}{held:Bool}{n:Nat}{t:TypeId}{k:IntKind}(ht:P.underlying t=some (.int k)){y:Value}{z:DataW H×List MemPlace}(h:DataW.trod enc P w b0 sp held n t [y]=some z) :
 ∃ x,y=.int k x∧z=(.lit (.int k x),[])∧(Lit.int k x).wf=true:=by
 cases n with
 | zero=>simp[DataW.trod] at h
 | succ n =>
   unfold DataW.trod at h;rw[ht] at h;split at h<;>simp_all
   all_goals first|(obtain⟨h1,h2⟩:=h;exact⟨_,⟨rfl,rfl⟩,h2.symm,h1⟩)|skip
theorem Qfs {H:Type}{enc:TypeId×Value→H}{w:World}{b0:Nat}{r:Reach}{v:Value}{d:DataW H}{ps:List MemPlace}(hv:Value.okWide Tryz.prog w r b0 25 v)
 (h:DataW.Trod enc Tryz.prog w 0 (fun _=>true) true 25 v d ps) (hlt:∀ p∈ps,p.block<w.heap.size) :
 ∃ (lp:Option Addr) (dc:Nat) (ds:List Df) (ctx:Int),v=.agg #[.slice lp ds.length dc,.int .i64 ctx]∧ds.length≤dc∧Q1s w lp ds ∧
  ∀ (w':World) (sp':Nat→Bool),Below w.heap.size w w'→(∀ p∈ps,sp' p.block=true)→DataW.Trod enc Tryz.prog w' 0 sp' true 25 v d ps:=by
 obtain⟨cs,rfl,hsz⟩:=okWide_struct Tryz.underlying25 hv;have h2:cs.size=2:=hsz.trans Yc;obtain⟨x,y,rfl⟩:∃ x y,cs=#[x,y]:=⟨cs[0],cs[1],by apply Array.ext<;>simp[h2];intro i hi;match i,hi with|0,_=>intro _;rfl|1,_=>intro _;rfl⟩;obtain⟨fuel,hx⟩:=h;obtain⟨y0,y1,n,hxy,hl,t0,t1⟩:=trod_struct2 Tryz.underlying25 hx;have e0:Tryz.prog.cellsOf 23=1:=Yc;have e1:Tryz.prog.cellsOf 3=1:=Yc;have eg:Tryz.prog.cellsOf 25=2:=Yc;simp only[e0,e1,Value.cells,List.drop_zero,List.take_succ_cons,List.take_zero,List.drop_succ_cons] at t0 t1;simp only[Prod.mk.injEq] at hxy;obtain⟨rfl,rfl⟩:=hxy;obtain⟨⟨a,len,cap,rfl⟩,hT⟩:=Qfp Tryz.underlying23 t0
 obtain⟨lp,ln,dc,heq,h64,hlc,hcells,hshut⟩:=Q3s (n:=9) Tryz.underlying23 Yc (Nat.lt_of_lt_of_eq (by decide:(0:Nat)<4) Yc) ⟨_,_,_,rfl⟩ hT (fun x hx=>hlt x (by simp[hx]));obtain⟨rfl,rfl,rfl⟩:a=lp∧len=ln∧cap=dc:=by simpa using heq
 obtain⟨ds,rfl,hD⟩:=Qzf Yc hcells;obtain⟨ctx,rfl,rfl,wf⟩:=Qat Tryz.underlying3 t1;refine⟨_,_,ds,ctx,rfl,hlc,hD,fun w' sp' hb hsp=>?_⟩;obtain⟨m,hm⟩:=hshut w' sp' hb (fun p hp=>hsp p (by simp[hp]));cases m with
 | zero=>simp[DataW.trod] at hm
 | succ m=>exact⟨m+1+1,trod_struct2_mk Tryz.underlying25 (by simp[eg,Value.cells]) (by simpa[e0,Value.cells] using hm) (by simpa[e1,Value.cells] using trod_int_mk m Tryz.underlying3 wf)⟩
end Hk
namespace Go.Proofs.YtkgmipfmphlpgaaGreat.topTwice
open Go.ChangeShapes Go.WideShapes Go.ChangeAt Go.RowKit Go.Joins Hk
theorem own:ownKnob Tryz.prog.godebug=none:=Yc
theorem lifted (os:Os)(started:os.Started)(H:Type)(enc:TypeId×Value→H) :
 ReturnsInHanded {} Tryz.checked os 3 .any (Rows.topTwiceSpec.pre6 enc Tryz.prog Tryz.f3 Rows.topTwiceRow.domain false) (Rows.topTwiceSpec.post enc Tryz.prog Tryz.f3 false true false false):=by
 refine returnsInHanded_of_change (C := Tryz.checked) own started Yc Tryz.func3
   (ChangeSpec.witness6 (enc:=enc) (C:=Tryz.checked) false ⟨#[],#[.slice none 0 0,.agg #[.slice none 0 0,.int .i64 0]],[]⟩ 8 Yc Yc Yc Yc) ?_
 intro W base args ds gs before hval0 hW hcnd _;have hval:∀ (j:Nat) t v,Tryz.f3.params[j]?=some t→args[j]?=some v→Value.okWide Tryz.prog W .any base t v:=hval0;have hW':=hW;obtain⟨p,q,hA0,hV,rfl,hfz,hnd⟩:=hW;have hA:DataW.TrodAll enc Tryz.prog W 0 (fun _=>true) true Tryz.f3.params.toList args.toList ds p:=hA0;rw[Tryz.params3] at hA hval;obtain⟨v0,vs0,d0,ds0,p0,q0,hargs,rfl,rfl,h0,r0⟩:=trodAll_cons hA;obtain⟨v1,vs1,d1,ds1,p1,q1,rfl,rfl,rfl,h1,r1⟩:=trodAll_cons r0;obtain⟨rfl,rfl,rfl⟩:=trodAll_nil r1;obtain rfl:args=#[v0,v1]:=by cases args;simp_all
 obtain⟨rfl,rfl⟩:=trodVars_none hV;obtain⟨pp0,len0,cap0,rfl,hl0,hc0,ha0,rd0⟩:=Q3s (n:=9) Tryz.underlying22 Yc (Nat.lt_of_lt_of_eq (by decide:(0:Nat)<1) Yc) (okWide_slice Tryz.underlying22 (hval 0 22 v0 rfl rfl)) h0 (fun x hx=>hW'.lt x (by simp[hx]));obtain⟨f0,hB0⟩:=Qt3 Yc ha0;obtain⟨lp1,dc1,ds1_,ctx1,rfl,hd1,hD1,rd1⟩:=Qfs (hval 1 25 v1 rfl rfl) h1 (fun x hx=>hW'.lt x (by simp[hx]));clear hA0 hval0;simp only[List.append_nil] at hW';refine (Q12g pp0 len0 cap0 f0 lp1 dc1 ds1_ ctx1 W hB0 hc0 hD1 hd1).mono fun e W' ⟨he,hb⟩=>?_
 subst he
 exact ⟨_, rfl, Qfo (pa := p0++(p1++[])) (pv := []) hW' (fun _ _ _ => (trodAll_cons_mk (shut_bool Tryz.underlying4 _) trodAll_mk0)) (fun sp hsp => (trodAll_cons_mk (rd0 _ sp hb (fun x hx => hsp x (by simp [hx]))) (trodAll_cons_mk (rd1 _ sp hb (fun x hx => hsp x (by simp [hx]))) trodAll_mk0))) (fun _ _ => rfl) Y3
   hb (ok_one Yc rfl (okWide_bool_mk Tryz.underlying4 _))⟩
theorem proved:Rows.TopTwiceSaid :=
 OpenClaim.holds_of_wide 3 Tryz.f3 rfl rfl rfl rfl rfl rfl rfl ⟨rfl, rfl, rfl, rfl, rfl⟩ rfl rfl rfl rfl rfl Yc Tryz.func3 Yc
   (of_decide_eq_true Yc) (by unfold Func.isWrapper;first|(rw[if_pos Yd];kernel_rfl)|(rw[if_neg Yd];exact⟨rfl,rfl⟩))
   (fun os started H enc _=>lifted os started H enc)
#print axioms proved
end Go.Proofs.YtkgmipfmphlpgaaGreat.topTwice
