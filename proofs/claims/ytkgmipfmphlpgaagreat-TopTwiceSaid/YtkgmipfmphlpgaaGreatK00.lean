/- A part of the proof of TopTwice. No condition but each statement's own. -/
import Derived.Test.YtkgmipfmphlpgaaGreatZ1
import Derived.Below
import Derived.ChangeSame
import Derived.OpenShut
import Derived.Deep.Quiet
import Derived.Deep.Slices
import Derived.ChangeSlices
open Go Go.RowKit Go.Proofs
set_option linter.all false
set_option maxRecDepth 100000
set_option maxHeartbeats 20000000
namespace Hk
def N (x:BitVec 64):Int:=x.toNat
structure F4 where a :: (x y z u:BitVec 64)
instance (x y z u):CoeDep F4 (F4.a x y z u) Value:=⟨.agg #[.int .u64 (N x),.int .u64 (N y),.int .u64 (N z),.int .u64 (N u)]⟩
structure W2 where a :: (x y:BitVec 64)
instance (x y):CoeDep W2 (W2.a x y) Value:=⟨.agg #[.int .u64 (N x),.int .u64 (N y)]⟩
structure RB where a :: (w:World) (v:Value)
instance (w v):CoeDep RB (RB.a w v) (Ending→World→Prop):=⟨fun e w'=>e=.returned v∧Below w.heap.size w w'⟩
structure RW where a :: (w:World) (v:Value)
instance (w v):CoeDep RW (RW.a w v) (Ending→World→Prop):=⟨fun e w'=>e=.returned v∧w=w'⟩
abbrev KT (C:(Nat→Bool)→(Nat→Nat × Nat)→World→Prop):Prop:=∀ d ν w' w1,C d ν w'→Below w'.heap.size w' w1→C d ν w1
abbrev KC (C:World→Prop):Prop:=∀ w' w1,C w'→Below w'.heap.size w' w1→C w1
abbrev MT (C:(Nat→Bool)→(Nat→Nat × Nat)→World→Prop)(S:List Nat):Prop:=∀ d d' ν w',(∀ s∈S,d s=d' s)→C d ν w'→C d' ν w'
theorem Q2i (x:BitVec 64):0≤N x:=Int.natCast_nonneg _
theorem Q19p (x:BitVec 64):N x<18446744073709551616:=by unfold N;have:=x.isLt;omega
theorem Q15e (x y:BitVec 64):N x=N y ↔ x=y:=by
 unfold N;rw[Int.natCast_inj];exact BitVec.toNat_inj
theorem Qna (n:Nat)(h:n<18446744073709551616):N (BitVec.ofNat 64 n)=(n:Int):=by
 unfold N;rw[BitVec.toNat_ofNat,Nat.mod_eq_of_lt h]
theorem Q3m (i:Int):IntKind.u64.wrap i=N (BitVec.ofInt 64 i):=by
 rw[IntKind.wrap_u64];unfold N;rw[BitVec.toNat_ofInt];have:(0:Int)≤i % ((2 ^ 64:Nat):Int):=Int.emod_nonneg _ Y0;rw[Int.toNat_of_nonneg this];rfl
theorem Q81 (x:BitVec 64):BitVec.ofInt 64 (N x)=x:=by
 unfold N;rw[BitVec.ofInt_natCast,BitVec.ofNat_toNat,BitVec.setWidth_eq]
section
variable (x y : BitVec 64) (n : Nat)
theorem Qo7:IntKind.u64.wrap (N x+N y)=N (x+y):=by
 rw[IntKind.wrap_u64];unfold N;rw[BitVec.toNat_add];rfl
theorem Qo5:IntKind.u64.wrap (N x - N y)=N (x - y):=by
 rw[IntKind.wrap_u64];unfold N;rw[BitVec.toNat_sub];have:=x.isLt;have:=y.isLt;omega
theorem Qo6:IntKind.u64.wrap (N x*N y)=N (x*y):=by
 rw[IntKind.wrap_u64];unfold N;rw[BitVec.toNat_mul];rfl
@[go_sem ↓] theorem Q18r:Op.intArith .add .u64 (N x) (N y)=pure (.int .u64 (N (x+y))):=by
 simp only[Op.intArith,Qo7]
@[go_sem ↓] theorem Q18l:Op.intArith .sub .u64 (N x) (N y)=pure (.int .u64 (N (x - y))):=by
 simp only[Op.intArith,Qo5]
@[go_sem ↓] theorem Q18p:Op.intArith .mul .u64 (N x) (N y)=pure (.int .u64 (N (x*y))):=by
 simp only[Op.intArith,Qo6]
theorem Qeq:IntKind.u64.wrap (x.toNat:Int)=N x:=by
 rw[IntKind.wrap_u64];unfold N;have:=x.isLt;omega
@[go_sem ↓] theorem Q18q:Op.intBits .and .u64 (N x) (N y)=pure (.int .u64 (N (x &&& y))):=by
 exact Yt4
@[go_sem ↓] theorem Q1a1:Op.intBits .or .u64 (N x) (N y)=pure (.int .u64 (N (x ||| y))):=by
 exact Yt4
@[go_sem ↓] theorem Q18k:Op.intBits .xor .u64 (N x) (N y)=pure (.int .u64 (N (x ^^^ y))):=by
 exact Yt4
@[go_sem ↓] theorem Q13e:Op.intBits .andNot .u64 (N x) (N y)=pure (.int .u64 (N (x &&& ~~~y))):=by
 exact Yt4
@[go_sem] theorem Q15h:(N x==N y)=(x==y):=by rw[Bool.eq_iff_iff,beq_iff_eq,beq_iff_eq];exact Q15e x y
@[go_sem] theorem Q188:(N x != N y) = !(x==y):=by unfold bne;rw[Q15h]
@[go_sem] theorem Qe8:(N x<N y)=(x<y):=by unfold N;rw[BitVec.lt_def];apply propext;omega
@[go_sem] theorem Qe9:(N x≤N y)=(x≤y):=by unfold N;rw[BitVec.le_def];apply propext;omega
theorem Qd0 (h:n<18446744073709551616):N (BitVec.ofNat 64 n)=(OfNat.ofNat n:Int):=Qna n h
@[go_sem] theorem Q15g (h:n<18446744073709551616):(N x==(no_index (OfNat.ofNat n)))=(x==BitVec.ofNat 64 n):=by rw[← Qd0 n h,Q15h]
@[go_sem] theorem Q15f (h:n<18446744073709551616):(N x != (no_index (OfNat.ofNat n))) = !(x==BitVec.ofNat 64 n):=by rw[← Qd0 n h,Q188]
@[go_sem] theorem Q16c (h:n<18446744073709551616):(N x<(no_index (OfNat.ofNat n)))=(x<BitVec.ofNat 64 n):=by rw[← Qd0 n h,Qe8]
@[go_sem] theorem Q16f (h:n<18446744073709551616):(N x≤(no_index (OfNat.ofNat n)))=(x≤BitVec.ofNat 64 n):=by rw[← Qd0 n h,Qe9]
@[go_sem] theorem Q16d (h:n<18446744073709551616):((no_index (OfNat.ofNat n))<N x)=(BitVec.ofNat 64 n<x):=by rw[← Qd0 n h,Qe8]
@[go_sem] theorem Q16e (h:n<18446744073709551616):((no_index (OfNat.ofNat n))≤N x)=(BitVec.ofNat 64 n≤x):=by rw[← Qd0 n h,Qe9]
theorem Q187:(N x).tdiv (N y)=N (x / y):=by
 unfold N;rw[BitVec.toNat_udiv,← Int.ofNat_tdiv]
theorem Q186:(N x).tmod (N y)=N (x % y):=by
 unfold N;rw[BitVec.toNat_umod,← Int.ofNat_tmod]
theorem Qvq:IntKind.u64.wrap (N x)=N x:=by
 rw[IntKind.wrap_u64];have:=Q2i x;have:=Q19p x;omega
theorem Qae (h:y≠0#64):¬ N y=0:=by
 intro e;apply h;rw[← Q15e];rw[e];rfl
@[go_sem ↓] theorem Q18n (h:y≠0#64):Op.intDiv .quo .u64 (N x) (N y)=pure (.int .u64 (N (x / y))):=by
 simp only[Op.intDiv,Qae y h,if_false,Q187,Qvq]
@[go_sem ↓] theorem Q18m (h:y≠0#64):Op.intDiv .rem .u64 (N x) (N y)=pure (.int .u64 (N (x % y))):=by
 simp only[Op.intDiv,Qae y h,if_false,Q186]
theorem Q185 (k:Nat):IntKind.u64.wrap (N x*2 ^ (min k 64))=N (x <<< k):=by
 rw[IntKind.wrap_u64];unfold N;rw[BitVec.toNat_shiftLeft,Nat.shiftLeft_eq];have e:((x.toNat:Int)*2 ^ (min k 64))=((x.toNat*2 ^ (min k 64):Nat):Int):=Yeg;rw[e]
 have:x.toNat*2 ^ (min k 64) % 2 ^ 64=x.toNat*2 ^ k % 2 ^ 64:=by
  rcases Nat.le_total k 64 with h|h
  · rw[Nat.min_eq_left h]
  · exact Yo3
 rw[← this];omega
theorem Q184 (k:Nat):(N x).fdiv (2 ^ (min k 64))=N (x >>> k):=by
 have hp:(2:Int) ^ (min k 64)=((2 ^ (min k 64):Nat):Int):=Yeh;rw[hp,Int.fdiv_eq_ediv_of_nonneg _ (Int.natCast_nonneg _)];unfold N;rw[BitVec.toNat_ushiftRight,Nat.shiftRight_eq_div_pow,← Int.natCast_ediv]
 congr 1
 rcases Nat.le_total k 64 with h|h
 · rw[Nat.min_eq_left h]
 · exact Yot
@[go_sem ↓] theorem Qv0 (yk:IntKind)(k:Int)(h:0≤k):Op.shift .shl .u64 (N x) yk k=pure (.int .u64 (N (x <<< k.toNat))):=by
 simp only[Op.shift,show ¬ k<0 from Y1,if_false,IntKind.bits,Q185]
@[go_sem ↓] theorem Q13a (yk:IntKind)(k:Int)(h:0≤k):Op.shift .shr .u64 (N x) yk k=pure (.int .u64 (N (x >>> k.toNat))):=by
 simp only[Op.shift,show ¬ k<0 from Y1,if_false,IntKind.bits,Q184]
@[go_sem ↓] theorem Q119 (yk:IntKind)(k:Int)(h:0≤k)(hn:n<18446744073709551616):Op.shift .shl .u64 (no_index (OfNat.ofNat n)) yk k=pure (.int .u64 (N (BitVec.ofNat 64 n <<< k.toNat))):=by
 rw[← Qv0 (BitVec.ofNat 64 n) yk k h,Qna n hn];rfl
@[go_sem ↓] theorem Q15y (yk:IntKind):Op.shift .shl .u64 (N x) yk (N y)=pure (.int .u64 (N (x <<< y.toNat))):=by
 rw[Qv0 x yk (N y) (Q2i y)];unfold N;rw[Int.toNat_natCast]
@[go_sem ↓] theorem Q15x (yk:IntKind):Op.shift .shr .u64 (N x) yk (N y)=pure (.int .u64 (N (x >>> y.toNat))):=by
 rw[Q13a x yk (N y) (Q2i y)];unfold N;rw[Int.toNat_natCast]
@[go_sem] theorem Q10j:(N x).toNat=x.toNat:=by unfold N;omega
@[go_sem] theorem Q15d:(0≤N x)=True:=eq_true (Q2i x)
@[go_sem] theorem Q1a9 (h:n<18446744073709551616):Value.int .u64 (no_index (OfNat.ofNat n))=Value.int .u64 (N (BitVec.ofNat 64 n)):=Yei
@[go_sem ↓] theorem Q19b (op:BinOp)(h:n<18446744073709551616):Op.intArith op .u64 (N x) (no_index (OfNat.ofNat n))=Op.intArith op .u64 (N x) (N (BitVec.ofNat 64 n)):=Yei
@[go_sem ↓] theorem Q17u (op:BinOp)(h:n<18446744073709551616):Op.intArith op .u64 (no_index (OfNat.ofNat n)) (N x)=Op.intArith op .u64 (N (BitVec.ofNat 64 n)) (N x):=Yei
@[go_sem ↓] theorem Q199 (op:BinOp)(h:n<18446744073709551616):Op.intBits op .u64 (N x) (no_index (OfNat.ofNat n))=Op.intBits op .u64 (N x) (N (BitVec.ofNat 64 n)):=Yei
@[go_sem ↓] theorem Q17s (op:BinOp)(h:n<18446744073709551616):Op.intBits op .u64 (no_index (OfNat.ofNat n)) (N x)=Op.intBits op .u64 (N (BitVec.ofNat 64 n)) (N x):=Yei
@[go_sem ↓] theorem Q191 (op:BinOp)(h:n<18446744073709551616):Op.intDiv op .u64 (N x) (no_index (OfNat.ofNat n))=Op.intDiv op .u64 (N x) (N (BitVec.ofNat 64 n)):=Yei
@[go_sem ↓] theorem Q17h (op:BinOp)(h:n<18446744073709551616):Op.intDiv op .u64 (no_index (OfNat.ofNat n)) (N x)=Op.intDiv op .u64 (N (BitVec.ofNat 64 n)) (N x):=Yei
end
def raw (w:World)(b o:Nat):Option Value:=w.cell? ⟨b,o,none⟩
def Q19x (w:World)(b o:Nat):Bool:=w.frozen? ⟨b,o,none⟩
@[go_sem] theorem Qt0 (w:World)(c:Array Value)(t:TypeId)(n i:Nat):(w.alloc (.cells c t)).cell? ⟨n,i,none⟩=if n<w.heap.size then w.cell? ⟨n,i,none⟩ else if n=w.heap.size then c[i]? else raw (w.alloc (.cells c t)) n i:=by
 split
 · exact World.cell?_alloc_lt w _ _ Y2
 · split
   · rename_i h1 h2;exact World.cell?_alloc_at c t n i h2
   · rfl
@[go_sem] theorem Qkd (w:World)(c:Array Value)(t:TypeId)(n i:Nat):(w.alloc (.cells c t)).frozen? ⟨n,i,none⟩=if n<w.heap.size then w.frozen? ⟨n,i,none⟩ else false:=by
 rw[frozen?_alloc_cells];split
 · rfl
 · rename_i h
   have e:w.heap[n]?=none:=Y4;simp[World.frozen?,e]
theorem Q17 {W w1:World}(hb:Below W.heap.size W w1):(∀ b o,w1.cell? ⟨b,o,none⟩=if b<W.heap.size then W.cell? ⟨b,o,none⟩ else raw w1 b o)∧(∀ b o,w1.frozen? ⟨b,o,none⟩=if b<W.heap.size then W.frozen? ⟨b,o,none⟩ else Q19x w1 b o)∧W.heap.size≤w1.heap.size :=
 ⟨fun b o=>by split;exact hb.cell (p:=⟨b,o,none⟩) Y2;rfl,fun b o=>by split;exact hb.frozen (p:=⟨b,o,none⟩) Y2;rfl,hb.size⟩
theorem Q53 {B:Nat}{a w:World}(h:Below B a w)(n:Nat):Below B a (w.drewN n):=h.trans ⟨rfl,rfl,rfl,Nat.le_refl _,fun _ _=>rfl⟩
end Hk
namespace Hk
open Go Go.RowKit Go.WideShapes Go.ChangeShapes
section
variable {H : Type} {enc : TypeId × Value → H} {P : Program}
theorem Qfo {f:Func}{s:ChangeSpec}{apart fresh handsOn again:Bool}{W W':World}{args:Array Value}{v:Value}{ds gs:List (DataW H)}{before pa pv:List MemPlace}
 (hW:DataW.Whole enc P f.params.toList s.vars apart W args.toList ds gs before)
 (hres:∀ (b:Nat) (sp:Nat→Bool) (hd:Bool),DataW.TrodAll enc P W' b sp hd f.resultTypes.toList (v.resultList f.resultTypes.size) (s.fn H (ds++gs)).results [])
 (hargs:∀ sp:Nat→Bool,(∀ p∈before,sp p.block=true)→DataW.TrodAll enc P W' 0 sp true f.params.toList args.toList (s.fn H (ds++gs)).args pa)
 (hvars:∀ sp:Nat→Bool,(∀ p∈before,sp p.block=true)→DataW.TrodVars enc P W' sp s.vars (s.fn H (ds++gs)).vars pv)
 (hps:before=pa++pv) (hb:Below W.heap.size W W')
 (hok:∀ (j:Nat) (t:TypeId) (r:Value),f.resultTypes[j]?=some t→(v.resultList f.resultTypes.size)[j]?=some r→Value.okWide P W' .any 0 t r) :
 s.post enc P f apart fresh handsOn again W args v W':=by
 have old:∀ p∈before,p.block<W.heap.size:=fun p hp=>hW.lt p hp
 have all:∀ p∈before,(fun b=>decide (b<W.heap.size)) p.block=true:=fun p hp=>decide_eq_true (old p hp)
 refine⟨ds,gs,before,[],pa,pv,hW,hres _ _ _,hargs _ all,hvars _ all,World.keptBut_mono (fun p hp=>⟨hp,?_⟩) (hb.frame (·∈before)),fun _=>?_⟩
 · rw[hps,List.mem_append] at hp;exact .inr hp
 · obtain⟨_,_,_,_,_,hz,hn⟩:=hW
   refine⟨hok,_,_,([]++pa)++pv,⟨[]++pa,pv,trodAll_append (hargs _ (fun _ _=>rfl)) (hres _ _ _),hvars _ (fun _ _=>rfl),rfl,?_,?_⟩,?_⟩
   · intro b off hp
     have hin:MemPlace.cell b off∈before:=by rw[hps];simpa using hp
     rw[hb.frozen (old _ hin)];exact hz b off hin
   · intro ha
     have:=hn ha;rw[hps] at this;simpa using this
   · intro p hp _
     rw[hps];simpa using hp
end
theorem Q16o {x:Int}(h:(Lit.int .u8 x).wf=true):0≤x∧x≤255:=by
 exact Ysc
theorem Q13u {x:Int}(h:(Lit.int .i64 x).wf=true):-9223372036854775808≤x∧x≤9223372036854775807:=by
 exact Ysc
end Hk
namespace Hk
open Go Go.ChangeShapes Go.WideShapes
section
variable {H : Type} {enc : TypeId × Value → H} {P : Program}
def Q11h (P:Program):Nat→TypeId→Bool
 | 0,_=>false
 | n+1,t =>
   match P.underlying t with
   | some .bool=>true
   | some (.int _)=>true
   | some (.struct fs)=>fs.toList.all fun f=>Q11h P n f.type
   | some (.array _ e)=>Q11h P n e
   | _=>false
def Q5s (P:Program):Nat→TypeId→Nat→Option (Option IntKind)
 | 0,_,_=>none
 | n+1,t,i =>
   match P.underlying t with
   | some .bool=>if i=0 then some none else none
   | some (.int k)=>if i=0 then some (some k) else none
   | some (.struct fs)=>(fs.toList.find? fun f=>decide (f.offset≤i) && decide (i<f.offset+P.cellsOf f.type)).bind fun f=>Q5s P n f.type (i - f.offset)
   | some (.array m e)=>if i<m*P.cellsOf e then Q5s P n e (i % P.cellsOf e) else none
   | _=>none
def Qv6:Option IntKind→Value→Prop
 | some k,v=>∃ x,v=.int k x∧(Lit.int k x).wf=true
 | none,v=>∃ b,v=.bool b
theorem Q47 {α β:Type}{g:α→Option β}:∀ (L:List α) (xs:List β),xs.length=L.length→(∀ (i:Nat) (f:α),L[i]?=some f→g f=xs[i]?)→L.mapM g=some xs
 | [],xs,hl,_=>by
   obtain rfl:xs=[]:=List.eq_nil_of_length_eq_zero hl;rfl
 | a :: L,xs,hl,h=>by
   cases xs with
   | nil=>simp at hl
   | cons x xs =>
     have h0:=h 0 a rfl;have ih:=Q47 L xs (by simpa using hl) fun i f hi=>by simpa using h (i+1) f (by simpa using hi)
     rw[List.mapM_cons,h0,ih];rfl
theorem Q8p:∀ (n:Nat) (t:TypeId),Q11h P n t=true→∀ (fuel:Nat) (w:World) (base:Nat) (sp:Nat→Bool) (held:Bool) (cs:List Value) (x:DataW H × List MemPlace),DataW.trod enc P w base sp held fuel t cs=some x →
 x.2=[]∧∀ (w':World) (base':Nat) (sp':Nat→Bool) (held':Bool),DataW.trod enc P w' base' sp' held' fuel t cs=some x:=by
 intro n
 induction n with
 | zero=>intro t h;simp[Q11h] at h
 | succ n ih =>
   intro t hf fuel w base sp held cs x hx;unfold Q11h at hf;cases fuel with
   | zero=>simp[DataW.trod] at hx
   | succ m =>
   split at hf
   · rename_i hu
     obtain⟨b,rfl,rfl⟩:=DataW.trod_bool hu hx;exact⟨rfl,fun w' base' sp' held'=>by simp[DataW.trod,hu]⟩
   · rename_i k hu
     obtain⟨b,rfl,rfl,wf⟩:=DataW.trod_int hu hx;exact⟨rfl,fun w' base' sp' held'=>by simp[DataW.trod,hu,wf]⟩
   · rename_i fs hu
     obtain⟨xs,m',hm,rfl,hl,hlen,hat⟩:=DataW.trod_struct hu hx;obtain rfl:m=m':=Y1;rw[List.all_eq_true] at hf
     have key:∀ (i:Nat) (f:Field),fs[i]?=some f→∃ y,xs[i]?=some y∧y.2=[]∧∀ (w':World) (base':Nat) (sp':Nat→Bool) (held':Bool),DataW.trod enc P w' base' sp' held' m f.type ((cs.drop f.offset).take (P.cellsOf f.type))=some y:=by
      intro i f hi;have hil:i<fs.size:=(Array.getElem?_eq_some_iff.1 hi).1;have hy:xs[i]?=some (xs[i]'Y1):=List.getElem?_eq_getElem Y1;have h1:=hat i f hi;rw[hy] at h1
      have hmem:f∈fs.toList:=by
       obtain⟨h2,h3⟩:=Array.getElem?_eq_some_iff.1 hi;rw[← h3];simp
      obtain⟨a,b⟩:=ih f.type (hf f hmem) m w base sp held _ _ h1;exact⟨_,hy,a,b⟩
     refine⟨?_,fun w' base' sp' held'=>?_⟩
     · show xs.flatMap (·.2)=[]
       rw[List.flatMap_eq_nil_iff];intro y hy;obtain⟨i,hi,rfl⟩:=List.getElem_of_mem hy;obtain⟨y',h1,h2,_⟩:=key i (fs[i]'Y1) (by rw[Array.getElem?_eq_getElem Y1]);rw[List.getElem?_eq_getElem hi] at h1;cases h1;exact h2
     · rw[DataW.trod_step]
       unfold DataW.trodStep;simp only[hu]
       rw[if_pos hl,Q47 fs.toList xs (by simpa using hlen) fun i f hi=>by
        obtain⟨y,h1,_,h3⟩:=key i f (by simpa using hi)
        rw[h1];exact h3 w' base' sp' held']
       rfl
   · rename_i k e hu
     obtain⟨xs,m',hm,rfl,hl,hlen,hat⟩:=DataW.trod_array hu hx;obtain rfl:m=m':=Y1
     have key:∀ (i:Nat),i<k→∃ y,xs[i]?=some y∧y.2=[]∧∀ (w':World) (base':Nat) (sp':Nat→Bool) (held':Bool),DataW.trod enc P w' base' sp' held' m e ((cs.drop (i*P.cellsOf e)).take (P.cellsOf e))=some y:=by
      intro i hi;have hy:xs[i]?=some (xs[i]'Y1):=List.getElem?_eq_getElem Y1;have h1:=hat i hi;rw[hy] at h1;obtain⟨a,b⟩:=ih e hf m w base sp held _ _ h1;exact⟨_,hy,a,b⟩
     refine⟨?_,fun w' base' sp' held'=>?_⟩
     · show xs.flatMap (·.2)=[]
       rw[List.flatMap_eq_nil_iff];intro y hy;obtain⟨i,hi,rfl⟩:=List.getElem_of_mem hy;obtain⟨y',h1,h2,_⟩:=key i Y1;rw[List.getElem?_eq_getElem hi] at h1;cases h1;exact h2
     · rw[DataW.trod_step]
       unfold DataW.trodStep;simp only[hu]
       rw[if_pos hl,Q47 (List.range k) xs (by simpa using hlen) fun i f hi=>by
        obtain⟨hi1,hi2⟩:=List.getElem?_eq_some_iff.1 hi;simp at hi1 hi2;subst hi2;obtain⟨y,h1,_,h3⟩:=key i hi1
        rw[h1];exact h3 w' base' sp' held']
       rfl
   · exact absurd hf Y0
theorem Qij {α:Type}{cs:List α}{o c i:Nat}{v:α}(h:((cs.drop o).take c)[i]?=some v):cs[o+i]?=some v:=by
 rw[List.getElem?_take] at h;split at h
 · rw[List.getElem?_drop] at h;exact h
 · cases h
theorem Qig:∀ (n:Nat) (t:TypeId) (i:Nat) (lf:Option IntKind),Q5s P n t i=some lf→∀ (fuel:Nat) (w:World) (base:Nat) (sp:Nat→Bool) (held:Bool) (cs:List Value) (x:DataW H × List MemPlace),DataW.trod enc P w base sp held fuel t cs=some x →
 ∃ v,cs[i]?=some v∧Qv6 lf v:=by
 intro n
 induction n with
 | zero=>intro t i lf h;simp[Q5s] at h
 | succ n ih =>
   intro t i lf hf fuel w base sp held cs x hx;unfold Q5s at hf;split at hf
   · rename_i hu
     obtain⟨b,rfl,rfl⟩:=DataW.trod_bool hu hx;split at hf
     · rename_i h0;subst h0;cases hf;exact⟨_,rfl,b,rfl⟩
     · cases hf
   · rename_i k hu
     obtain⟨b,rfl,rfl,wf⟩:=DataW.trod_int hu hx;split at hf
     · rename_i h0;subst h0;cases hf;exact⟨_,rfl,b,rfl,wf⟩
     · cases hf
   · rename_i fs hu
     obtain⟨xs,m',hm,rfl,hl,hlen,hat⟩:=DataW.trod_struct hu hx;simp only[Option.bind_eq_some_iff] at hf;obtain⟨f,hfind,hleaf⟩:=hf;have hmem:=List.mem_of_find?_eq_some hfind;have hp:=List.find?_some hfind;simp only[Bool.and_eq_true,decide_eq_true_iff] at hp;obtain⟨j,hj,hjf⟩:=List.getElem_of_mem hmem;have hjs:j<fs.size:=by simpa using hj
     have hat':=hat j f (by rw[Array.getElem?_eq_getElem hjs];simpa using hjf);rw[List.getElem?_eq_getElem (show j<xs.length from Y1)] at hat';obtain⟨v,h1,h2⟩:=ih f.type _ lf hleaf _ _ _ _ _ _ _ hat';refine⟨v,?_,h2⟩;have:=Qij h1
     rwa [show f.offset+(i - f.offset)=i from Y1] at this
   · rename_i k e hu
     obtain⟨xs,m',hm,rfl,hl,hlen,hat⟩:=DataW.trod_array hu hx;split at hf
     · rename_i hi
       have hc:0<P.cellsOf e:=by
        apply Nat.pos_of_ne_zero;intro h0;rw[h0] at hi;omega
       have hq:i / P.cellsOf e<k:=by rw[Nat.div_lt_iff_lt_mul hc];exact hi
       have hat':=hat (i / P.cellsOf e) hq;rw[List.getElem?_eq_getElem (show i / P.cellsOf e<xs.length from Y1)] at hat';obtain⟨v,h1,h2⟩:=ih e _ lf hf _ _ _ _ _ _ _ hat';refine⟨v,?_,h2⟩;have:=Qij h1
       rwa [show i / P.cellsOf e*P.cellsOf e+i % P.cellsOf e=i by rw[Nat.mul_comm];exact Nat.div_add_mod i _] at this
     · cases hf
   · cases hf
end
theorem Qyl {c:Value}(h:Qv6 (some .u8) c):∃ x:Int,c=.int .u8 x∧0≤x∧x≤255:=by
 obtain⟨x,rfl,wf⟩:=h;exact⟨x,rfl,Q16o wf⟩
theorem Q86 {c:Value}(h:Qv6 (some .i64) c):∃ x:Int,c=.int .i64 x∧-9223372036854775808≤x∧x≤9223372036854775807:=by
 obtain⟨x,rfl,wf⟩:=h;exact⟨x,rfl,Q13u wf⟩
theorem Qkr {c:Value}(h:Qv6 none c):∃ b:Bool,c=.bool b:=h
end Hk
namespace Hk
theorem Q0 {w w1:World}{b o:Nat}{v:Value}(hb:Below w.heap.size w w1)(h:w.cell? ⟨b,o,none⟩=some v):w1.cell? ⟨b,o,none⟩=some v:=by
 have hlt:b<w.heap.size:=by
  exact Yra
 rw[hb.cell (p:=⟨b,o,none⟩) hlt];exact h
theorem Q1 {w:World}{b o:Nat}{v:Value}(h:w.cell? ⟨b,o,none⟩=some v):b<w.heap.size:=by
 exact Yra
theorem Q8 {W w w1:World}(h:Below W.heap.size W w)(hb:Below w.heap.size w w1):Below W.heap.size W w1:=h.trans (hb.mono h.size)
theorem Q7 {w w1:World}{b o:Nat}{v:Value}(hb:Below w.heap.size w w1)(h:w.cell? ⟨b,o,none⟩=some v)(hf:∀ i,w.frozen? ⟨b,i,none⟩=false):∀ i,w1.frozen? ⟨b,i,none⟩=false:=by
 have hlt:b<w.heap.size:=by
  exact Yra
 intro i;rw[hb.frozen (p:=⟨b,i,none⟩) hlt];exact hf i
section
variable {P : Program}
theorem Ql {id:Nat}{Q:Exit→Act→World→Prop}{a:Act}{w:World}{l:List Oper}(C:World→Prop)(hm:P.follows .mixedOrders=true)(hB:Region.lexB .any l.toArray=true)
 (hC:C w.drew) (h:(∀ p:Prop,(∀ w',C w'→p)=p)→wpQuiet P l.toArray C (fun a'=>∀ w',C w'→Q .normal a' w') l a):(Code.region id l.toArray true).wp P Q a w :=
 wp_region_quiet (C:=C) hm hB hC (by simpa using h fun p=>propext ⟨fun k=>k _ hC,fun k _ _=>k⟩)
theorem Qt {o:Oper}{a:Act}{C:World→Prop}{K:Act→Prop}{v:Value}(h:∀ w,C w→o.quietAt P a C w v)(hk:K (a.put o.dst v)):o.quiet P a C K:=⟨v,h,hk⟩
end
end Hk
namespace Hk
open Go
section
variable {P : Program} {ops : Array Oper} {md : Region.Mode} {C : World → Prop}
def Q6a (P:Program)(md:Region.Mode)(ops:Array Oper)(C:World→Prop)(n:Nat)(L:Array Bool→Act→Prop):Nat→Array Bool→Act→Prop
 | 0,listed,a=>L listed a
 | f+1,listed,a=>Region.ready md ops listed≠[]∧∀ i∈Region.ready md ops listed,i<n∧qOp P ops C i (Q6a P md ops C n L f (listed.setIfInBounds i true)) a
theorem Q5y {n g:Nat}{L:Array Bool→Act→Prop}{Q':Exit→Act→World→Prop}(hL:∀ listed a w,C w→L listed a→wpAny P md ops Q' g listed a w) :
 ∀ (f:Nat) (listed:Array Bool) (a:Act) (w:World),C w→Q6a P md ops C n L f listed a→wpAny P md ops Q' (f+g) listed a w
 | 0,listed,a,w,hw,h=>by rw[Nat.zero_add];exact hL _ _ _ hw h
 | f+1,listed,a,w,hw,h=>by
   rw[show f+1+g=(f+g)+1 from Y1];exact⟨fun h0=>absurd h0 h.1,fun i hi=>wpOp_of_qOp hw (fun a' w' hw' h'=>Q5y hL f _ a' w' hw' h') (h.2 i hi).2⟩
theorem Qbz {n i:Nat}{oi:Oper}{v:Value}{L:Array Bool→Act→Prop}(hi:ops[i]?=some oi)(hsel:∀ (j:Nat) (o:Oper) cs b,ops[j]?=some o→o.op≠.select cs b)
 (hs:Region.sinkB md ops n=true) (hc:Region.chainB md ops n=true) (hn:n<ops.size) (hin:i<n)
 (hdone:∀ listed a,L listed a→∀ j∈Region.ready md ops listed,n≤j) :
 ∀ (f:Nat) (listed:Array Bool) (a:Act),HeadInv md ops n listed →
  (∀ j oj,ops[j]?=some oj→j≠i→listed.getD j true=false→(∀ e∈oj.after,Region.binds md e=true→e.on≠i)→oi.apart ops oj=true) →
  i∈Region.ready md ops listed→YieldsIn P ops C oi v a →
  Q6a P md ops C n L f (listed.setIfInBounds i true) (a.put oi.dst v)→Q6a P md ops C n L (f+1) listed a:=by
 intro f
 induction f with
 | zero =>
   intro listed a inv _ hr hy H;have hun:=(mem_ready.1 hr).1;refine⟨fun h=>(by rw[h] at hr;cases hr),fun j hj=>?_⟩
   have hjn:j<n:=by
    exact Yq2
   refine⟨hjn,?_⟩;by_cases hji:j=i
   · subst hji;exact hy.qOp hi H
   · have:=hdone _ _ H j (ready_mono hj hji)
     omega
 | succ f ih =>
   intro listed a inv hfree hr hy H;have hun:=(mem_ready.1 hr).1;refine⟨fun h=>(by rw[h] at hr;cases hr),fun j hj=>?_⟩
   have hjn:j<n:=by
    exact Yq2
   refine⟨hjn,?_⟩;by_cases hji:j=i
   · subst hji;exact hy.qOp hi H
   · have h1:=(H.2 j (ready_mono hj hji)).2
     obtain⟨hjun,oj,hoj,hall⟩:=mem_ready.1 hj
     have hnot:∀ e∈oj.after,Region.binds md e=true→e.on≠i:=fun e he hb heq=>by
      have h1:=hall e he hb;rw[heq,getD_both hun] at h1;cases h1
     have h2:=qOp_put hoj (hfree j oj hoj hji hjun hnot) (fun cs b=>hsel i oi cs b hi) (fun cs b=>hsel j oj cs b hoj) hy h1
     have hfree':∀ k ok,ops[k]?=some ok→k≠i→(listed.setIfInBounds j true).getD k true=false →
      (∀ e∈ok.after,Region.binds md e=true→e.on≠i)→oi.apart ops ok=true:=fun k ok hk hki hun hno=>by
      refine hfree k ok hk hki ?_ hno;by_cases hjk:j=k
      · subst hjk;exact hjun
      · rw[getD_set_ne true hjk] at hun;exact hun
     refine qOp_mono (fun a' h3=>ih (listed.setIfInBounds j true) a' (inv.set hj hjn) hfree' (ready_mono hr (Ne.symm hji)) h3.1 ?_) h2;rw[Array.setIfInBounds_comm _ _ hji];exact h3.2
theorem Q9j {n g:Nat}{Lq:Act→Prop}(hsel:Region.noSelect ops=true)(hs:Region.sinkB md ops n=true)(hc:Region.chainB md ops n=true)(hn:n<ops.size) :
 ∀ (l:List Oper) (k:Nat) (listed:Array Bool) (a:Act),(∀ j,j<l.length→l[j]?=ops[k+j]?)→k+l.length=n→HeadInv md ops n listed →
 Region.lexHead md ops g l.length k listed=true→wpQuiet P ops C Lq l a →
 Q6a P md ops C n (fun listed' a'=>Region.seqB md ops g n listed'=true∧Lq a') l.length listed a
 | [],k,listed,a,_,hk,_,hB,h=>by
   have:k=n:=Y6;subst this;exact⟨by simpa[Region.lexHead] using hB,h⟩
 | o :: l,k,listed,a,hl,hk,inv,hB,h=>by
   have h0:ops[k]?=some o:=by simpa using (hl 0 Y3).symm
   simp only[List.length_cons,Region.lexHead,Bool.and_eq_true] at hB;obtain⟨⟨hr,hf⟩,hB'⟩:=hB;have hkn:k<n:=by simp only[List.length_cons] at hk;omega
   have hr':k∈Region.ready md ops listed:=Yej;have hst:qOp P ops C k (wpQuiet P ops C Lq l) a:=by unfold qOp;simp only[h0];exact h
   obtain⟨v,hy,hK⟩:=yieldsIn_of_qOp h0 hst
   exact Qbz h0 (Region.noSelect_spec hsel) hs hc hn hkn (fun listed' a' hL => seqB_ready hL.1) l.length listed a inv (Region.free_spec h0 hf) hr' hy
     (Q9j hsel hs hc hn l (k+1) _ _ (fun j hj=>by have:=hl (j+1) Y4;simpa[Nat.add_assoc,Nat.add_comm 1 j] using this) (by simp only[List.length_cons] at hk;omega) (inv.set hr' hkn) hB' hK)
theorem Q4 {id:Nat}{Q:Exit→Act→World→Prop}{a:Act}{w:World}{l:List Oper}(C:World→Prop)(n:Nat)(hm:P.follows .mixedOrders=true)(hB:Region.lexTailB .any l.toArray n=true)(hC:C w.drew)
 (h:(∀ p:Prop,(∀ w',C w'→p)=p)→wpQuiet P l.toArray C (fun a'=>∀ w',C w'→wpList P l.toArray Q (l.drop n) a' w') (l.take n) a):(Code.region id l.toArray true).wp P Q a w:=by
 have h:=h fun p=>propext ⟨fun k=>k _ hC,fun k _ _=>k⟩
 simp only[Region.lexTailB,Bool.and_eq_true,decide_eq_true_eq] at hB;obtain⟨⟨⟨⟨hsel,hn⟩,hs⟩,hc⟩,hlex⟩:=hB;have hn':n<l.length:=by simpa using hn
 have htl:(l.take n).length=n:=Y4;have hdl:(l.drop n).length=l.toArray.size - n:=by simp
 have inv0:HeadInv .any l.toArray n (Array.replicate l.toArray.size false) :=
  ⟨by simp,fun j oj _ hl=>(by rw[getD_replicate_false] at hl;cases hl),fun t _ ht=>getD_in (by simpa using ht) (getD_replicate_false _ _)⟩
 have H:=Q9j (md:=.any) (g:=l.toArray.size - n) hsel hs hc hn (l.take n) 0 _ a (fun j hj=>by
  have hj':j<n:=by rw[htl] at hj;exact hj
  simp[hj']) (by simpa using htl) inv0 (by rw[htl];exact hlex) h
 refine wp_region_any hm ?_
 have:=Q5y (Q':=Q) (g:=l.toArray.size - n) (fun listed a' w' hw' hL=>by
  have:=wpAny_of_seq (md:=.any) (Q':=Q) (l.drop n) n listed a' w' (fun j=>by simp[List.getElem?_drop]) (by rw[hdl];exact hL.1) (hL.2 w' hw')
  rwa [hdl] at this) _ _ _ _ hC H
 rw[htl,show n+(l.toArray.size - n)=l.toArray.size from Y1] at this;exact this
end
end Hk
namespace Hk
open Go Go.ChangeShapes Go.WideShapes Go.RowKit Go.Deep
section
variable {H : Type} {enc : TypeId × Value → H} {P : Program}
theorem Qcj {w w':World}{a:Addr}{n base:Nat}(hb:Below w.heap.size w w')(h:a.block<w.heap.size):w'.cells? base a n=w.cells? base a n:=by
 unfold World.cells?
 have e:(fun i=>w'.cell? (a.add i))=fun i=>w.cell? (a.add i):=by
  funext i
  refine hb.cell ?_;unfold Addr.add;split
  · exact h
  · exact h
 rw[e]
theorem Qa0 (b o n:Nat):(⟨b,o,none⟩:Addr).add n=⟨b,o+n,none⟩:=Yek
theorem Q3s {n:Nat}{t e:TypeId}(ht:P.underlying t=some (.slice e))(hf:Q11h P n e=true)(hC:0<P.cellsOf e){w:World}{v:Value}{d:DataW H}{ps:List MemPlace}
 (hs:∃ a len cap,v=.slice a len cap) (h:DataW.Trod enc P w 0 (fun _=>true) true t v d ps) (hlt:∀ p∈ps,p.block<w.heap.size) :
 ∃ (p:Option Addr) (len cap:Nat),v=.slice p len cap∧len≤9223372036854775807∧len≤cap ∧
  (∀ i,i<len→∃ b o,p=some ⟨b,o,none⟩∧∃ cs:List Value,cs.length=P.cellsOf e∧(∀ j,j<P.cellsOf e→w.cell? ⟨b,o+i*P.cellsOf e+j,none⟩=cs[j]?)∧∀ j lf,Q5s P n e j=some lf→∃ c,cs[j]?=some c∧Qv6 lf c) ∧
  ∀ (w':World) (sp':Nat→Bool),Below w.heap.size w w'→(∀ p∈ps,sp' p.block=true)→DataW.Trod enc P w' 0 sp' true t v d ps:=by
 obtain⟨a,len,cap,rfl⟩:=hs;obtain⟨fuel,hx⟩:=h;rcases open_slice ht hx with ⟨h0,h1⟩|⟨a',len',cap',m,n',D,Pl,hcs,hb,hl,hm,hmm,hxx,hi⟩
 · obtain⟨rfl,rfl,rfl⟩:a=none∧len=0∧cap=0:=by simpa[Value.cells] using h0
   simp only[Prod.mk.injEq] at h1;obtain⟨rfl,rfl⟩:=h1;exact⟨none,0,0,rfl,Y0,Nat.le_refl 0,fun i hi=>absurd hi Y1,fun w' sp' _ _=>shut_slice_nil ht⟩
 · obtain⟨rfl,rfl,rfl⟩:a=some a'∧len=len'∧cap=cap':=by simpa[Value.cells] using hcs
   simp only[if_true] at hmm;subst hmm;simp only[Prod.mk.injEq] at hxx;obtain⟨rfl,rfl⟩:=hxx
   have hPl:∀ i,i<m→Pl i=[]∧∃ cs',w.cells? 0 (a'.add (i*P.cellsOf e)) (P.cellsOf e)=some cs'∧DataW.trod enc P w 0 (fun _=>true) true n' e cs'=some (D i,Pl i):=fun i him=>by
    obtain⟨cs',h1,h2⟩:=hi i him;exact⟨(Q8p n e hf _ _ _ _ _ _ _ h2).1,cs',h1,h2⟩
   have hblk:0<m→MemPlace.cell a'.block (a'.off+0)∈MemPlace.row a' (m*P.cellsOf e)++List.flatMap Pl (List.range m):=fun hm0=>by
    rw[List.mem_append]
    left
    unfold MemPlace.row;rw[List.mem_map];exact⟨0,by simpa using Nat.mul_pos hm0 hC,rfl⟩
   refine⟨some a',len,m,rfl,by unfold maxLen at hm;omega,Y1,fun i hil=>?_,fun w' sp' hB hsp=>?_⟩
   · have hsn:a'.spot=none:=by
      obtain⟨_,cs',h1,_⟩:=hPl 0 Y1;obtain⟨_,h2,h3⟩:=World.cells?_some h1;have h4:=h3 0 hC;rw[List.getElem?_eq_getElem Y1] at h4;simp only[Nat.zero_mul] at h4;have h5:(a'.add 0).add 0=a':=rfl;rw[h5] at h4;cases hs:a'.spot with
      | none=>rfl
      | some x =>
        unfold World.cell? at h4;simp only[hs,Option.isSome_some,if_true] at h4;split at h4<;>cases h4
     obtain⟨b,o,s⟩:=a';simp only at hsn;subst hsn;obtain⟨_,cs',h1,h2⟩:=hPl i Y1;obtain⟨_,h3,h4⟩:=World.cells?_some h1;refine⟨b,o,rfl,cs',h3,fun j hj=>?_,fun j lf hlf=>Qig n e j lf hlf _ _ _ _ _ _ _ h2⟩;have:=h4 j hj
     rwa [Qa0,Qa0] at this
   · by_cases hm0:0<m
     · have hmem:=hblk hm0
       have hlt':=hlt _ hmem;have hsp':=hsp _ hmem;refine shut_slice_whole ht (Nat.zero_le _) hl hm hsp' D Pl fun i him=>?_
       obtain⟨_,cs',h1,h2⟩:=hPl i him;refine⟨cs',n',?_,(Q8p n e hf _ _ _ _ _ _ _ h2).2 _ _ _ _⟩;rw[Qcj hB ?_]
       · exact h1
       · unfold Addr.add
         split
         · exact hlt'
         · exact hlt'
     · obtain rfl:m=0:=by omega
       obtain rfl:len=0:=Y1;cases hs:sp' a'.block
       · have:=shut_slice (enc:=enc) (w:=w') (base:=0) (spare:=sp') (held:=true) (a:=a') (len:=0) (cap:=0) ht (Nat.zero_le _) (Nat.le_refl _) hm hs D Pl (fun i hi=>absurd hi Y1)
         exact this
       · exact shut_slice_whole ht (Nat.zero_le _) (Nat.le_refl _) hm hs D Pl fun i hi=>absurd hi Y1
theorem Qfp {t e:TypeId}(ht:P.underlying t=some (.slice e)){w:World}{b0:Nat}{sp:Nat→Bool}{held:Bool}{fuel:Nat}{x:Value}{y:DataW H × List MemPlace}(h:DataW.trod enc P w b0 sp held fuel t [x]=some y) :
 (∃ a len cap,x=.slice a len cap)∧DataW.Trod enc P w b0 sp held t x y.1 y.2:=by
 have hs:∃ a len cap,x=.slice a len cap:=by
  rcases open_slice ht h with ⟨h0,h1⟩|⟨a',len',cap',m,n',D,Pl,hcs,_⟩
  · exact⟨none,0,0,by simpa using h0⟩
  · exact⟨_,_,_,by simpa using hcs⟩
 obtain⟨a,len,cap,rfl⟩:=hs;exact⟨⟨a,len,cap,rfl⟩,fuel,h⟩
end
end Hk
namespace Hk
def bt (x:BitVec 64)(i:Nat):Bool:=x.getLsbD i
theorem Q29 (x y:BitVec 64)(i:Nat):bt (x &&& y) i=(bt x i && bt y i):=Yel
theorem Qcp (x y:BitVec 64)(i:Nat):bt (x ||| y) i=(bt x i || bt y i):=Yel
theorem Q151 (x y:BitVec 64)(i:Nat):bt (x ^^^ y) i=(bt x i ^^ bt y i):=Yel
theorem Q5v (x:BitVec 64)(i:Nat)(hi:i<64):bt (~~~x) i = !bt x i:=by simp only[bt,BitVec.getLsbD_not,hi,decide_true,Bool.true_and]
theorem Q3l (i:Nat):bt 0#64 i=false:=by simp[bt]
theorem Q7j (x:BitVec 64)(n i:Nat)(hi:i<64):bt (x <<< n) i=(!decide (i<n) && bt x (i - n)):=by
 simp only[bt,BitVec.getLsbD_shiftLeft,hi,decide_true,Bool.true_and]
theorem Q4y (x:BitVec 64)(n i:Nat):bt (x >>> n) i=bt x (n+i):=by simp only[bt,BitVec.getLsbD_ushiftRight]
theorem Q4z {x y:BitVec 64}(h:∀ i,i<64→bt x i=bt y i):x=y:=BitVec.eq_of_getLsbD_eq h
theorem Q105 (x:BitVec 64)(i:Nat)(hi:¬ i<64):bt x i=false:=BitVec.getLsbD_of_ge _ _ Y1
theorem Q89 {x y:BitVec 64}(h:x=y)(i:Nat):bt x i=bt y i:=by rw[h]
theorem Q4v {x y:BitVec 64}:x=y ↔ ∀ i,i<64→bt x i=bt y i:=⟨fun h i _=>Q89 h i,Q4z⟩
theorem Qdx (x:BitVec 64)(k:Nat):(x >>> k &&& 1#64==1#64)=bt x k:=by
 have e:(x >>> k &&& 1#64)=if bt x k then 1#64 else 0#64:=by
  apply Q4z;intro i hi;rw[Q29,Q4y];have h1:bt 1#64 i=decide (i=0):=by simp[bt,BitVec.getLsbD_one]
  rw[h1];by_cases h:i=0
  · subst h;simp;cases bt x k<;>simp[bt]
  · simp[h];cases bt x k
    · simp[bt]
    · simp[h1,h]
 rw[e];cases bt x k<;>rfl
def Q18c (x:BitVec 64):Nat→BitVec 64
 | 0=>0#64
 | k+1=>if bt x k then Q18c x k+1#64 <<< k else Q18c x k
structure Tn where
 v:BitVec 64
 m:BitVec 64
deriving DecidableEq
instance:Coe Tn Value:=⟨fun a=>.agg #[.int .u64 (N a.v),.int .u64 (N a.m)]⟩
structure CTn where a :: (w:World) (b:Nat) (x:Tn) (r:Prop)
instance (w b x r):CoeDep CTn (CTn.a w b x r) Prop:=⟨w.cell? ⟨b,0,none⟩=some (.int .u64 (N x.v))∧w.cell? ⟨b,1,none⟩=some (.int .u64 (N x.m))∧r⟩
namespace Tn
theorem eta (t:Tn):(⟨t.v,t.m⟩:Tn)=t:=rfl
def right (t:Tn):Bool:=t.v &&& t.m==0#64
def made (v m:BitVec 64):Tn:=⟨v &&& ~~~m,m⟩
def has (t:Tn)(n:BitVec 64):Bool:=t.right && (n &&& ~~~t.m==t.v)
def within (a b:Tn):Bool:=a.right && b.right && (a.m &&& ~~~b.m==0#64) && (a.v &&& ~~~b.m==b.v)
def join (a b:Tn):Tn:=if a.right && b.right then made a.v (a.m ||| b.m ||| (a.v ^^^ b.v)) else ⟨0,0⟩
def meetOk (a b:Tn):Bool:=a.right && b.right && ((a.v ^^^ b.v) &&& ~~~(a.m ||| b.m)==0#64)
def meet (a b:Tn):Tn:=if meetOk a b then made (a.v ||| b.v) (a.m &&& b.m) else ⟨0,0⟩
def add (a b:Tn):Tn:=made (a.v+b.v) (((a.v+b.v+a.m+b.m) ^^^ (a.v+b.v)) ||| a.m ||| b.m)
def sub (a b:Tn):Tn:=made (a.v - b.v) (((a.v - b.v+a.m) ^^^ (a.v - b.v - b.m)) ||| a.m ||| b.m)
def mulTo (a b:Tn):Nat→Tn
 | 0=>⟨0,0⟩
 | k+1 =>
   if bt b.v k then add (mulTo a b k) ⟨a.v <<< k,a.m <<< k⟩
   else if bt b.m k then add (mulTo a b k) ⟨0,(a.v ||| a.m) <<< k⟩
   else mulTo a b k
def mul (a b:Tn):Tn:=mulTo a b 64
def and (a b:Tn):Tn:=⟨a.v &&& b.v,(a.v ||| a.m) &&& (b.v ||| b.m) &&& ~~~(a.v &&& b.v)⟩
def or (a b:Tn):Tn:=⟨a.v ||| b.v,(a.m ||| b.m) &&& ~~~(a.v ||| b.v)⟩
def xor (a b:Tn):Tn:=made (a.v ^^^ b.v) (a.m ||| b.m)
theorem right_iff (t:Tn):t.right=true ↔ ∀ i:Nat,i<64→(bt t.v i && bt t.m i)=false:=by
 unfold right;rw[beq_iff_eq,Q4v];simp only[Q29,Q3l]
theorem has_iff (t:Tn)(n:BitVec 64):t.has n=true ↔ (∀ i:Nat,i<64→bt t.v i=(bt n i && !bt t.m i)):=by
 unfold has;rw[Bool.and_eq_true,right_iff,beq_iff_eq,Q4v];constructor
 · rintro⟨h1,h2⟩ i hi
   rw[← h2 i hi,Q29,Q5v _ _ hi]
 · intro h
   refine⟨fun i hi=>?_,fun i hi=>?_⟩
   · rw[h i hi];cases bt t.m i<;>simp
   · rw[h i hi,Q29,Q5v _ _ hi]
theorem Qfk (v m:BitVec 64):(made v m).right=true:=by
 rw[right_iff];unfold made;intro i hi;simp only[Q29,Q5v _ _ hi];cases bt v i<;>cases bt m i<;>rfl
theorem within_iff (a b:Tn):a.within b=true ↔ a.right=true∧b.right=true∧∀ i:Nat,i<64→bt b.m i=false→bt a.m i=false∧bt a.v i=bt b.v i:=by
 unfold within;simp only[Bool.and_eq_true,beq_iff_eq,Q4v];constructor
 · rintro⟨⟨⟨ha,hb⟩,h1⟩,h2⟩
   refine⟨ha,hb,fun i hi hm=>?_⟩;have h1:=h1 i hi;have h2:=h2 i hi;rw[Q29,Q5v _ _ hi,hm] at h1 h2;rw[Q3l] at h1;exact⟨Yem,Yen⟩
 · rintro⟨ha,hb,h⟩
   refine⟨⟨⟨ha,hb⟩,fun i hi=>?_⟩,fun i hi=>?_⟩
   · rw[Q29,Q5v _ _ hi,Q3l]
     cases hm:bt b.m i
     · rw[(h i hi hm).1];rfl
     · simp
   · rw[Q29,Q5v _ _ hi]
     cases hm:bt b.m i
     · rw[(h i hi hm).2];simp
     · have:=(right_iff b).1 hb i hi
       rw[hm] at this;simp at this;rw[this];simp
theorem tn_ext {a b:Tn}(h1:∀ i,i<64→bt a.v i=bt b.v i)(h2:∀ i,i<64→bt a.m i=bt b.m i):a=b:=by
 cases a;cases b;simp only[Tn.mk.injEq];exact⟨Q4z h1,Q4z h2⟩
theorem right_bit {a:Tn}(ha:a.right=true)(i:Nat)(hi:i<64):bt a.m i=true→bt a.v i=false:=by
 intro h;have:=(right_iff a).1 ha i hi;rw[h] at this;simpa using this
theorem Q11g {a b:Tn}{x:BitVec 64}(h:a.within b=true)(hx:a.has x=true):b.has x=true:=by
 rw[within_iff] at h;obtain⟨_,hb,h⟩:=h;rw[has_iff] at hx ⊢;intro i hi;have h1:=h i hi;have h2:=hx i hi;have h3:=right_bit hb i hi;cases hm:bt b.m i
 · have ⟨h4,h5⟩:=h1 hm
   rw[← h5,h2,h4]
 · rw[h3 hm];simp
theorem within_trans {a b c:Tn}(h1:a.within b=true)(h2:b.within c=true):a.within c=true:=by
 rw[within_iff] at *;refine⟨h1.1,h2.2.1,fun i hi hm=>?_⟩;have ⟨h3,h4⟩:=h2.2.2 i hi hm;have ⟨h5,h6⟩:=h1.2.2 i hi h3;exact⟨h5,by rw[h6,h4]⟩
theorem meetOk_iff (a b:Tn):meetOk a b=true ↔ a.right=true∧b.right=true∧∀ i,i<64→bt a.m i=false→bt b.m i=false→bt a.v i=bt b.v i:=by
 unfold meetOk;simp only[Bool.and_eq_true,beq_iff_eq,Q4v,and_assoc];refine and_congr Iff.rfl (and_congr Iff.rfl (forall_congr' fun i=>?_));refine forall_congr' fun hi=>?_
 rw[Q29,Q5v _ _ hi,Qcp,Q151,Q3l];cases bt a.v i<;>cases bt b.v i<;>cases bt a.m i<;>cases bt b.m i<;>simp
theorem meet_m {a b:Tn}(h:meetOk a b=true)(i:Nat):bt (meet a b).m i=(bt a.m i && bt b.m i):=by
 unfold meet;rw[if_pos h];simp only[made,Q29]
theorem meet_v {a b:Tn}(h:meetOk a b=true)(i:Nat)(hi:i<64):bt (meet a b).v i=(bt a.v i || bt b.v i):=by
 unfold meet;rw[if_pos h];simp only[made,Q29,Qcp,Q5v _ _ hi];rw[meetOk_iff] at h;have h1:=right_bit h.1 i hi;have h2:=right_bit h.2.1 i hi;cases hm:bt a.m i
 · simp
 · cases hn:bt b.m i
   · simp
   · rw[h1 hm,h2 hn];rfl
theorem Qfj {a b:Tn}(h:meetOk a b=true):(meet a b).right=true:=by
 unfold meet;rw[if_pos h];exact Qfk _ _
theorem meet_within_l {a b:Tn}(ok:meetOk a b=true):(meet a b).within a=true:=by
 have ok':=(meetOk_iff a b).1 ok;rw[within_iff];refine⟨Qfj ok,ok'.1,fun i hi hm=>?_⟩;rw[meet_v ok i hi,meet_m ok i,hm];refine⟨rfl,?_⟩;have h3:=ok'.2.2 i hi hm;have h5:=right_bit ok'.2.1 i hi;revert h3 h5;cases bt b.m i<;>cases bt a.v i<;>cases bt b.v i<;>decide
theorem Q6q (a b:Tn):meetOk a b=meetOk b a:=by
 rw[Bool.eq_iff_iff,meetOk_iff,meetOk_iff];exact⟨fun h=>⟨h.2.1,h.1,fun i hi h1 h2=>(h.2.2 i hi h2 h1).symm⟩,fun h=>⟨h.2.1,h.1,fun i hi h1 h2=>(h.2.2 i hi h2 h1).symm⟩⟩
theorem Qjz (a b:Tn):meet a b=meet b a:=by
 unfold meet;rw[Q6q];rw[BitVec.or_comm,BitVec.and_comm]
theorem meet_within_r {a b:Tn}(ok:meetOk a b=true):(meet a b).within b=true:=by
 rw[Qjz];exact meet_within_l (by rw[Q6q];exact ok)
def of (n:BitVec 64):Tn:=⟨n,0⟩
def num (v m n:BitVec 64):BitVec 64:=(v &&& ~~~m) ||| (n &&& m)
def low (w:Nat):BitVec 64:=1#64 <<< w - 1#64
def cut (t:Tn)(w:Nat):Tn:=⟨t.v &&& low w,t.m &&& low w⟩
def cutI (t:Tn)(k:Int):Tn:=if t.right then (if 1≤k∧k≤63 then cut t k.toNat else t) else ⟨0,0⟩
theorem cutI_in {t:Tn}{k:Int}(h:t.right=true)(h0:1≤k)(h1:k≤63):cutI t k=cut t k.toNat:=by unfold cutI;rw[if_pos h,if_pos ⟨h0,h1⟩]
theorem cutI_out {t:Tn}{k:Int}(h:t.right=true)(h0:k<1∨63<k):cutI t k=t:=by unfold cutI;rw[if_pos h,if_neg Y1]
theorem cutI_no {t:Tn}{k:Int}(h:t.right=false):cutI t k=⟨0,0⟩:=by unfold cutI;rw[h];rfl
end Tn
end Hk
namespace Hk
namespace Alu
def gen (w:Nat)(op off:Int)(x y:BitVec w):Option (BitVec w) :=
 if op=176 then (if off=8 then some ((y.setWidth 8).signExtend w) else if off=16 then some ((y.setWidth 16).signExtend w) else if off=32∧w=64 then some ((y.setWidth 32).signExtend w) else if off=0 then some y else none)
 else if op=48 then (if off=0 then some (x / y) else if off=1 then some (x.sdiv y) else none)
 else if op=144 then (if off=0 then some (x % y) else if off=1 then some (x.srem y) else none)
 else if off=0 then
  if op=0 then some (x+y)
  else if op=16 then some (x - y)
  else if op=32 then some (x*y)
  else if op=64 then some (x ||| y)
  else if op=80 then some (x &&& y)
  else if op=160 then some (x ^^^ y)
  else if op=128 then some (-x)
  else if op=96 then some (x <<< (y.toNat % w))
  else if op=112 then some (x >>> (y.toNat % w))
  else if op=192 then some (x.sshiftRight (y.toNat % w))
  else none
 else none
def go (op:Int)(wide:Bool)(off:Int)(a b:BitVec 64):Option (BitVec 64) :=
 if wide then gen 64 op off a b else (gen 32 op off (a.setWidth 32) (b.setWidth 32)).map (BitVec.setWidth 64)
theorem Q91 (w:Nat)(x y:BitVec w):x.sdiv y*y+x.srem y=x:=by
 have h:∀ p q:BitVec w,p / q*q+p % q=p:=by
  intro p q;apply BitVec.eq_of_toNat_eq;simp only[BitVec.toNat_add,BitVec.toNat_mul,BitVec.toNat_udiv,BitVec.toNat_umod];rw[Nat.mul_comm (p.toNat / q.toNat),Nat.mod_add_mod,Nat.div_add_mod,Nat.mod_eq_of_lt p.isLt]
 rw[BitVec.sdiv_eq,BitVec.srem_eq];cases hx:x.msb<;>cases hy:y.msb
 · exact h x y
 · have:=h x (-y)
   simp only[BitVec.neg_mul];rw[BitVec.mul_neg] at this;exact this
 · have:=congrArg (fun z=>-z) (h (-x) y)
   simp only[BitVec.neg_add,BitVec.neg_neg] at this;simp only[BitVec.neg_mul];rw[← BitVec.sub_eq_add_neg];exact this
 · have:=congrArg (fun z=>-z) (h (-x) (-y))
   simp only[BitVec.neg_add,BitVec.neg_neg,BitVec.mul_neg] at this;rw[← BitVec.sub_eq_add_neg];exact this
end Alu
end Hk
namespace Hk
namespace Cond
def gen (w:Nat)(op:Int)(x y:BitVec w):Option Bool :=
 if op=0 then some true
 else if op=16 then some (x==y)
 else if op=32 then some (decide (y<x))
 else if op=48 then some (decide (y≤x))
 else if op=64 then some (x &&& y != 0#w)
 else if op=80 then some (x != y)
 else if op=96 then some (y.slt x)
 else if op=112 then some (y.sle x)
 else if op=160 then some (decide (x<y))
 else if op=176 then some (decide (x≤y))
 else if op=192 then some (x.slt y)
 else if op=208 then some (x.sle y)
 else none
def is (op:Int)(wide:Bool)(a b:BitVec 64):Option Bool :=
 if wide then gen 64 op a b else gen 32 op (a.setWidth 32) (b.setWidth 32)
def neg (op:Int):Option Int :=
 if op=16 then some 80 else if op=80 then some 16 else if op=32 then some 176 else if op=176 then some 32
 else if op=48 then some 160 else if op=160 then some 48 else if op=96 then some 208 else if op=208 then some 96
 else if op=112 then some 192 else if op=192 then some 112 else none
def turned (op:Int):Option Int :=
 if op=16 then some 16 else if op=80 then some 80 else if op=64 then some 64 else if op=32 then some 160 else if op=160 then some 32
 else if op=48 then some 176 else if op=176 then some 48 else if op=96 then some 192 else if op=192 then some 96
 else if op=112 then some 208 else if op=208 then some 112 else none
end Cond
structure Sp where
 lo:BitVec 64
 hi:BitVec 64
deriving DecidableEq
instance:Coe Sp Value:=⟨fun a=>.agg #[.int .u64 (N a.lo),.int .u64 (N a.hi)]⟩
structure CSp where a :: (w:World) (b:Nat) (x:Sp) (r:Prop)
instance (w b x r):CoeDep CSp (CSp.a w b x r) Prop:=⟨w.cell? ⟨b,0,none⟩=some (.int .u64 (N x.lo))∧w.cell? ⟨b,1,none⟩=some (.int .u64 (N x.hi))∧r⟩
namespace Sp
def right (s:Sp):Bool:=decide (s.lo≤s.hi)
def has (s:Sp)(n:BitVec 64):Bool:=decide (s.lo≤n) && decide (n≤s.hi)
def within (a b:Sp):Bool:=a.right && b.right && b.has a.lo && b.has a.hi
def mn (a b:BitVec 64):BitVec 64:=if a≤b then a else b
def mx (a b:BitVec 64):BitVec 64:=if a≤b then b else a
def join (a b:Sp):Sp:=if a.right && b.right then ⟨mn a.lo b.lo,mx a.hi b.hi⟩ else ⟨0,0⟩
def both (a b:Sp):Sp:=⟨mx a.lo b.lo,mn a.hi b.hi⟩
def meetOk (a b:Sp):Bool:=a.right && b.right && (both a b).right
def meet (a b:Sp):Sp:=if meetOk a b then both a b else ⟨0,0⟩
def all:Sp:=⟨0,18446744073709551615#64⟩
def do_ (op:Int)(a b:Sp):Sp :=
 if a.right && b.right then
  if op=0 then (if a.hi.toNat+b.hi.toNat<18446744073709551616 then ⟨a.lo+b.lo,a.hi+b.hi⟩ else all)
  else if op=32 then (if a.hi.toNat*b.hi.toNat<18446744073709551616 then ⟨a.lo*b.lo,a.hi*b.hi⟩ else all)
  else if op=16 then (if b.hi≤a.lo then ⟨a.lo - b.hi,a.hi - b.lo⟩ else all)
  else if op=80 then ⟨0,mn a.hi b.hi⟩
  else if op=48 then (if 0#64<b.lo then ⟨a.lo / b.hi,a.hi / b.lo⟩ else all)
  else if op=144 then (if 0#64<b.lo then ⟨0,mn a.hi (b.hi - 1#64)⟩ else all)
  else if op=112 then (if b.hi<64#64 then ⟨a.lo >>> b.hi.toNat,a.hi >>> b.lo.toNat⟩ else all)
  else all
 else ⟨0,0⟩
def without (a:Sp)(n:BitVec 64):Option Sp :=
 if a.lo=n∧a.hi=n then none else if a.lo=n then some ⟨a.lo+1#64,a.hi⟩ else if a.hi=n then some ⟨a.lo,a.hi - 1#64⟩ else some a
def meet? (a b:Sp):Option Sp:=if meetOk a b then some (both a b) else none
def if_ (op:Int)(a b:Sp):Option Sp :=
 if a.right && b.right then
  if op=16 then meet? a b
  else if op=32 then (if b.lo=18446744073709551615#64 then none else meet? a ⟨b.lo+1#64,18446744073709551615#64⟩)
  else if op=48 then meet? a ⟨b.lo,18446744073709551615#64⟩
  else if op=160 then (if b.hi=0#64 then none else meet? a ⟨0,b.hi - 1#64⟩)
  else if op=176 then meet? a ⟨0,b.hi⟩
  else if op=80 then (if b.lo=b.hi then without a b.lo else some a)
  else if op=64 then (if a.hi=0#64∨b.hi=0#64 then none else some a)
  else some a
 else none
theorem right_iff (s:Sp):s.right=true ↔ s.lo.toNat≤s.hi.toNat:=by unfold right;rw[decide_eq_true_iff];exact BitVec.le_def
theorem has_iff (s:Sp)(n:BitVec 64):s.has n=true ↔ s.lo.toNat≤n.toNat∧n.toNat≤s.hi.toNat:=by
 unfold has;rw[Bool.and_eq_true,decide_eq_true_iff,decide_eq_true_iff];exact Iff.rfl
theorem within_iff (a b:Sp):a.within b=true ↔ a.lo.toNat≤a.hi.toNat∧b.lo.toNat≤a.lo.toNat∧a.hi.toNat≤b.hi.toNat:=by
 unfold within;simp only[Bool.and_eq_true,right_iff,has_iff];omega
theorem mn_nat (a b:BitVec 64):(mn a b).toNat=min a.toNat b.toNat:=by
 unfold mn;split<;>rename_i h<;>rw[BitVec.le_def] at h<;>omega
theorem mx_nat (a b:BitVec 64):(mx a b).toNat=max a.toNat b.toNat:=by
 unfold mx;split<;>rename_i h<;>rw[BitVec.le_def] at h<;>omega
theorem Q156:all.lo.toNat=0:=rfl
theorem Q157:all.hi.toNat=18446744073709551615:=rfl
theorem meetOk_iff (a b:Sp):meetOk a b=true ↔ a.lo.toNat≤a.hi.toNat∧b.lo.toNat≤b.hi.toNat∧max a.lo.toNat b.lo.toNat≤min a.hi.toNat b.hi.toNat:=by
 unfold meetOk;simp only[Bool.and_eq_true,right_iff,both,mx_nat,mn_nat,and_assoc]
theorem meet?_within {a b u:Sp}(h:meet? a b=some u):u.within a=true:=by
 unfold meet? at h;split at h
 · rename_i ok
   rw[meetOk_iff] at ok;simp only[Option.some.injEq] at h;subst h;rw[within_iff];simp only[both,mx_nat,mn_nat];omega
 · cases h
end Sp
end Hk
namespace Hk
namespace Tn
def moves (b:Tn):Bool:=b.m==0#64 && decide (b.v<64#64)
def do_ (op:Int)(a b:Tn):Option Tn :=
 if a.right && b.right then
  if op=0 then some (add a b)
  else if op=16 then some (sub a b)
  else if op=32 then some (mul a b)
  else if op=80 then some (and a b)
  else if op=64 then some (or a b)
  else if op=160 then some (xor a b)
  else if op=96∧moves b=true then some ⟨a.v <<< b.v.toNat,a.m <<< b.v.toNat⟩
  else if op=112∧moves b=true then some ⟨a.v >>> b.v.toNat,a.m >>> b.v.toNat⟩
  else none
 else none
end Tn
end Hk
namespace Hk
open Go
namespace Sp
theorem eta (s:Sp):Sp.mk s.lo s.hi=s:=rfl
def mulHi (x y:BitVec 64):BitVec 64:=BitVec.ofNat 64 (x.toNat*y.toNat / 18446744073709551616)
theorem mulHi_nat (x y:BitVec 64):(mulHi x y).toNat=x.toNat*y.toNat / 18446744073709551616:=by
 unfold mulHi;rw[BitVec.toNat_ofNat,Nat.mod_eq_of_lt];have h1:=x.isLt;have h2:=y.isLt;rw[Nat.div_lt_iff_lt_mul Y1];exact Nat.mul_lt_mul'' h1 h2
theorem mul_nat (x y:BitVec 64):(x*y).toNat=x.toNat*y.toNat % 18446744073709551616:=by rw[BitVec.toNat_mul]
theorem Q7h (x y:BitVec 64):(mulHi x y==0#64)=decide (x.toNat*y.toNat<18446744073709551616):=by
 rw[Bool.eq_iff_iff,beq_iff_eq,decide_eq_true_iff,← BitVec.toNat_inj,mulHi_nat,show (0#64).toNat=0 from rfl,Nat.div_eq_zero_iff];omega
def over (x y:BitVec 64):BitVec 64:=if x.toNat+y.toNat<18446744073709551616 then 0#64 else 1#64
theorem Q9b (x y:BitVec 64):(over x y==0#64)=decide (x.toNat+y.toNat<18446744073709551616):=by
 unfold over;by_cases h:x.toNat+y.toNat<18446744073709551616<;>simp[h]
theorem meet_all {a:Sp}(h:a.right=true):meetOk a all=true∧meet a all=a:=by
 have h1:both a all=a:=by
  unfold both;have e1:mx a.lo all.lo=a.lo:=by apply BitVec.eq_of_toNat_eq;rw[mx_nat,Q156];omega
  have e2:mn a.hi all.hi=a.hi:=by apply BitVec.eq_of_toNat_eq;rw[mn_nat,Q157];have:=a.hi.isLt;omega
  rw[e1,e2]
 have h2:meetOk a all=true:=by unfold meetOk;rw[h1,h];rfl
 exact⟨h2,by unfold meet;rw[if_pos h2,h1]⟩
theorem meet?_get (a b:Sp):(meet? a b).getD ⟨0,0⟩=meet a b∧(meet? a b).isSome=meetOk a b:=by
 unfold meet? meet;split<;>rename_i h
 · exact⟨rfl,h.symm⟩
 · exact⟨rfl,Y5⟩
section
variable {a b : Sp} (ha : a.right = true) (hb : b.right = true)
include ha hb
theorem do_add1 (h:(over a.hi b.hi==0#64)=true):do_ 0 a b=⟨a.lo+b.lo,a.hi+b.hi⟩:=by
 rw[Q9b] at h;unfold do_;rw[ha,hb];simp[of_decide_eq_true h]
theorem do_add2 (h:(over a.hi b.hi==0#64)=false):do_ 0 a b=all:=by
 rw[Q9b] at h;exact Ysi
theorem do_mul1 (h:(mulHi a.hi b.hi==0#64)=true):do_ 32 a b=⟨a.lo*b.lo,a.hi*b.hi⟩:=by
 rw[Q7h] at h;unfold do_;rw[ha,hb];simp[of_decide_eq_true h]
theorem do_mul2 (h:(mulHi a.hi b.hi==0#64)=false):do_ 32 a b=all:=by
 rw[Q7h] at h;exact Ysi
theorem do_sub1 (h:decide (b.hi≤a.lo)=true):do_ 16 a b=⟨a.lo - b.hi,a.hi - b.lo⟩:=by
 unfold do_;rw[ha,hb];simp[of_decide_eq_true h]
theorem do_sub2 (h:decide (b.hi≤a.lo)=false):do_ 16 a b=all:=by
 exact Yoy
theorem do_and:do_ 80 a b=⟨0,mn a.hi b.hi⟩:=by
 unfold do_;rw[ha,hb];rfl
theorem do_div1 (h:decide (0#64<b.lo)=true):do_ 48 a b=⟨a.lo / b.hi,a.hi / b.lo⟩:=by
 exact Yoz
theorem do_div2 (h:decide (0#64<b.lo)=false):do_ 48 a b=all:=by
 exact Yoy
theorem do_mod1 (h:decide (0#64<b.lo)=true):do_ 144 a b=⟨0,mn a.hi (b.hi - 1#64)⟩:=by
 exact Yoz
theorem do_mod2 (h:decide (0#64<b.lo)=false):do_ 144 a b=all:=by
 exact Yoy
theorem do_rsh1 (h:decide (b.hi<64#64)=true):do_ 112 a b=⟨a.lo >>> b.hi.toNat,a.hi >>> b.lo.toNat⟩:=by
 exact Yoz
theorem do_rsh2 (h:decide (b.hi<64#64)=false):do_ 112 a b=all:=by
 exact Yoy
theorem do_else (op:Int)(n0:¬ op=0)(n32:¬ op=32)(n16:¬ op=16)(n80:¬ op=80)(n48:¬ op=48)(n144:¬ op=144)(n112:¬ op=112):do_ op a b=all:=by
 unfold do_;rw[ha,hb];simp[n0,n32,n16,n80,n48,n144,n112]
omit ha in
theorem div_pos (h:decide (0#64<b.lo)=true):b.lo≠0#64∧b.hi≠0#64:=by
 have h1:=of_decide_eq_true h;rw[right_iff] at hb;rw[BitVec.lt_def] at h1;have e:(0#64).toNat=0:=rfl;rw[e] at h1;constructor
 · intro q;rw[q,e] at h1;omega
 · intro q;rw[q,e] at hb;omega
theorem if_eq:if_ 16 a b=meet? a b:=Yeo
theorem if_gt1 (h:(18446744073709551615#64==b.lo)=true):if_ 32 a b=none:=by
 have:b.lo=18446744073709551615#64:=(by simpa using h:_=b.lo).symm;unfold if_;rw[ha,hb,this];rfl
theorem if_gt2 (h:(18446744073709551615#64==b.lo)=false):if_ 32 a b=meet? a ⟨b.lo+1#64,18446744073709551615#64⟩:=by
 have:¬ b.lo=18446744073709551615#64:=fun e=>by rw[e] at h;simp at h
 unfold if_;rw[ha,hb];simp[this]
theorem if_ge:if_ 48 a b=meet? a ⟨b.lo,18446744073709551615#64⟩:=Yeo
theorem if_lt1 (h:(0#64==b.hi)=true):if_ 160 a b=none:=by
 have:b.hi=0#64:=(by simpa using h:_=b.hi).symm;unfold if_;rw[ha,hb,this];rfl
theorem if_lt2 (h:(0#64==b.hi)=false):if_ 160 a b=meet? a ⟨0,b.hi - 1#64⟩:=by
 have:¬ b.hi=0#64:=fun e=>by rw[e] at h;simp at h
 unfold if_;rw[ha,hb];simp[this]
theorem if_le:if_ 176 a b=meet? a ⟨0,b.hi⟩:=Yeo
theorem if_ne1 (h:(b.lo==b.hi)=true):if_ 80 a b=without a b.lo:=by
 have h':b.lo=b.hi:=Y5;exact Yrn
theorem if_ne2 (h:(b.lo==b.hi)=false):if_ 80 a b=some a:=by
 have h':¬ b.lo=b.hi:=Y5;exact Yrn
theorem if_set1 (h:(a.hi==0#64 || b.hi==0#64)=true):if_ 64 a b=none:=by
 have:a.hi=0#64∨b.hi=0#64:=Y5;exact Yrl
theorem if_set2 (h:(a.hi==0#64 || b.hi==0#64)=false):if_ 64 a b=some a:=by
 have:¬ (a.hi=0#64∨b.hi=0#64):=Y5;exact Yrl
theorem if_else (op:Int)(n16:¬ op=16)(n32:¬ op=32)(n48:¬ op=48)(n160:¬ op=160)(n176:¬ op=176)(n80:¬ op=80)(n64:¬ op=64):if_ op a b=some a:=by
 unfold if_;rw[ha,hb];simp[n16,n32,n48,n160,n176,n80,n64]
end
theorem wo_none {a:Sp}{n:BitVec 64}(h1:(a.lo==n)=true)(h2:(a.hi==n)=true):without a n=none:=by
 unfold without;rw[if_pos ⟨Yem,Yen⟩]
theorem wo_lo {a:Sp}{n:BitVec 64}(h1:(a.lo==n)=true)(h2:(a.hi==n)=false):without a n=some ⟨a.lo+1#64,a.hi⟩:=by
 have:=show ¬ a.hi=n by simpa using h2
 unfold without;rw[if_neg (fun q=>this q.2),if_pos Yem]
theorem wo_hi {a:Sp}{n:BitVec 64}(h1:(a.lo==n)=false)(h2:(a.hi==n)=true):without a n=some ⟨a.lo,a.hi - 1#64⟩:=by
 have:=show ¬ a.lo=n by simpa using h1
 unfold without;rw[if_neg (fun q=>this q.1),if_neg this,if_pos Yen]
theorem wo_same {a:Sp}{n:BitVec 64}(h1:(a.lo==n)=false)(h2:(a.hi==n)=false):without a n=some a:=by
 have:=show ¬ a.lo=n by simpa using h1
 have h:=show ¬ a.hi=n by simpa using h2
 unfold without;rw[if_neg (fun q=>this q.1),if_neg this,if_neg h]
theorem all_lo':all.lo=0#64:=rfl
theorem all_hi':all.hi=18446744073709551615#64:=rfl
theorem N_min (x y:BitVec 64):min (N x) (N y)=N (mn x y):=by
 unfold N mn;by_cases h:x≤y
 · rw[if_pos h];rw[BitVec.le_def] at h;omega
 · rw[if_neg h];rw[BitVec.le_def] at h;omega
theorem N_max (x y:BitVec 64):max (N x) (N y)=N (mx x y):=by
 unfold N mx;by_cases h:x≤y
 · rw[if_pos h];rw[BitVec.le_def] at h;omega
 · rw[if_neg h];rw[BitVec.le_def] at h;omega
theorem Q13s (x y:BitVec 64):(if N y<N x then N y else N x)=N (mn x y):=by
 rw[← N_min];split<;>omega
theorem Q13t (x y:BitVec 64):(if N y > N x then N y else N x)=N (mx x y):=by
 rw[← N_max];split<;>omega
@[go_sem ↓ high] theorem Q1a5 (ats:Array TypeId)(ty:TypeId)(x y:BitVec 64):Builtin.min_ ats ty #[.int .u64 (N x),.int .u64 (N y)]=pure (.int .u64 (N (mn x y))):=by
 rw[← Q13s];rfl
@[go_sem ↓ high] theorem Q1a6 (ats:Array TypeId)(ty:TypeId)(x y:BitVec 64):Builtin.max_ ats ty #[.int .u64 (N x),.int .u64 (N y)]=pure (.int .u64 (N (mx x y))):=by
 rw[← Q13t];rfl
end Sp
attribute [go_sem] Sp.all_lo' Sp.all_hi' Sp.eta Sp.N_min Sp.N_max
end Hk
namespace Hk
namespace Alu
def val (o:Option (BitVec 64)):BitVec 64:=o.getD 0#64
def err (o:Option (BitVec 64)):Int:=if o.isSome then 0 else 1
theorem val_some (z:BitVec 64):val (some z)=z:=rfl
theorem err_some (z:BitVec 64):err (some z)=0:=rfl
theorem val_none:val none=0#64:=rfl
theorem err_none:err none=1:=rfl
theorem Qis (x y:BitVec 64):(x - y).setWidth 32=x.setWidth 32 - y.setWidth 32:=by
 apply BitVec.eq_of_toNat_eq;simp only[BitVec.toNat_setWidth,BitVec.toNat_sub];have:=x.isLt;have:=y.isLt;omega
section
variable (a b : BitVec 64)
theorem wide_div:go 48 true 0 a b=some (a / b):=rfl
theorem wide_mod:go 144 true 0 a b=some (a % b):=rfl
theorem wide_sdiv:go 48 true 1 a b=some (a.sdiv b):=rfl
theorem wide_smod:go 144 true 1 a b=some (a.srem b):=rfl
end
end Alu
end Hk
namespace Hk
namespace Alu
def sgn (a:BitVec 64)(k:Int):BitVec 64:=if k<1∨64<k then a else (a <<< (64 - k).toNat).sshiftRight (64 - k).toNat
theorem sgn_out {a:BitVec 64}{k:Int}(h:k<1∨64<k):sgn a k=a:=by unfold sgn;rw[if_pos h]
theorem sgn_in {a:BitVec 64}{k:Int}(h0:1≤k)(h1:k≤64):sgn a k=(a <<< (64 - k).toNat).sshiftRight (64 - k).toNat:=by unfold sgn;rw[if_neg Y1]
theorem Q19 (p:BitVec 32):(p.setWidth 64).setWidth 32=p:=by
 apply BitVec.eq_of_toNat_eq;have:=p.isLt;simp only[BitVec.toNat_setWidth];omega
theorem Q6f (p:BitVec 32):(p.signExtend 64).setWidth 32=p:=by
 apply BitVec.eq_of_getLsbD_eq;intro i hi;rw[BitVec.getLsbD_setWidth,BitVec.getLsbD_signExtend];simp[hi,show i<64 from Y1]
theorem Q37 (x:BitVec 64)(k:Nat)(h0:1≤k)(h1:k≤64):(x <<< (64 - k)).sshiftRight (64 - k)=(x.setWidth k).signExtend 64:=by
 apply BitVec.eq_of_getLsbD_eq;intro i hi;rw[BitVec.getLsbD_sshiftRight,BitVec.getLsbD_signExtend,BitVec.msb_eq_getLsbD_last,BitVec.msb_eq_getLsbD_last,BitVec.getLsbD_shiftLeft,BitVec.getLsbD_shiftLeft,BitVec.getLsbD_setWidth,BitVec.getLsbD_setWidth];simp only[show ¬ 64≤i from Y1,hi,decide_true,decide_false,Bool.not_false,Bool.true_and];rcases Nat.lt_or_ge i k with h|h
 · rw[if_pos Y1,if_pos h]
   simp only[show 64 - k+i<64 from Y1,show ¬ 64 - k+i<64 - k from Y1,h,decide_true,decide_false,Bool.not_false,Bool.true_and]
   congr 1;omega
 · rw[if_neg Y1,if_neg Y1]
   simp only[show 64 - 1<64 from Y1,show ¬ 64 - 1<64 - k from Y1,show k - 1<k from Y1,decide_true,decide_false,Bool.not_false,Bool.true_and]
   congr 1;omega
theorem Qd8 (x:BitVec 64)(k:Nat)(h0:1≤k)(h1:k≤32):((x.setWidth k).signExtend 64).setWidth 32=((x.setWidth 32).setWidth k).signExtend 32:=by
 apply BitVec.eq_of_getLsbD_eq;intro i hi;rw[BitVec.getLsbD_setWidth,BitVec.getLsbD_signExtend,BitVec.getLsbD_signExtend,BitVec.msb_eq_getLsbD_last,BitVec.msb_eq_getLsbD_last,BitVec.getLsbD_setWidth,BitVec.getLsbD_setWidth,BitVec.getLsbD_setWidth,BitVec.getLsbD_setWidth,BitVec.getLsbD_setWidth,BitVec.getLsbD_setWidth];simp only[hi,show i<64 from Y1,show k - 1<32 from Y1,show k - 1<k from Y1,decide_true,Bool.true_and]
theorem Q10d (b:BitVec 64):(b &&& 63#64).toNat=b.toNat % 64:=by
 rw[BitVec.toNat_and];exact Nat.and_two_pow_sub_one_eq_mod b.toNat 6
theorem Q10e (b:BitVec 64):(b &&& 31#64).toNat=(b.setWidth 32).toNat % 32:=by
 rw[BitVec.toNat_and,BitVec.toNat_setWidth];have:=Nat.and_two_pow_sub_one_eq_mod b.toNat 5;rw[show (31#64).toNat=2 ^ 5 - 1 from rfl,this];omega
theorem Qxa (a:BitVec 64):(-a).setWidth 32 = -(a.setWidth 32):=by
 have h:=Qis 0#64 a;rw[BitVec.zero_sub] at h;rw[h];simp
section
variable (a b : BitVec 64)
theorem ww_lsh:go 96 true 0 a b=some (a <<< (b &&& 63#64).toNat):=by rw[Q10d];rfl
theorem ww_rsh:go 112 true 0 a b=some (a >>> (b &&& 63#64).toNat):=by rw[Q10d];rfl
theorem ww_arsh:go 192 true 0 a b=some (a.sshiftRight (b &&& 63#64).toNat):=by rw[Q10d];rfl
theorem nn_add:go 0 false 0 a b=some (((a+b).setWidth 32).setWidth 64):=by rw[BitVec.setWidth_add _ _ Y1];rfl
theorem nn_sub:go 16 false 0 a b=some (((a - b).setWidth 32).setWidth 64):=by rw[Qis];rfl
theorem nn_mul:go 32 false 0 a b=some (((a*b).setWidth 32).setWidth 64):=by rw[BitVec.setWidth_mul _ _ Y1];rfl
theorem nn_or:go 64 false 0 a b=some (((a ||| b).setWidth 32).setWidth 64):=by rw[BitVec.setWidth_or];rfl
theorem nn_and:go 80 false 0 a b=some (((a &&& b).setWidth 32).setWidth 64):=by rw[BitVec.setWidth_and];rfl
theorem nn_xor:go 160 false 0 a b=some (((a ^^^ b).setWidth 32).setWidth 64):=by rw[BitVec.setWidth_xor];rfl
theorem nn_neg:go 128 false 0 a b=some (((-a).setWidth 32).setWidth 64):=by rw[Qxa];rfl
theorem nn_mov:go 176 false 0 a b=some ((b.setWidth 32).setWidth 64):=rfl
theorem nn_lsh:go 96 false 0 a b=some (((a <<< (b &&& 31#64).toNat).setWidth 32).setWidth 64):=by rw[BitVec.setWidth_shiftLeft_of_le Y1,Q10e];rfl
theorem nn_rsh:go 112 false 0 a b=some (((((a.setWidth 32) >>> (b &&& 31#64).toNat).setWidth 64).setWidth 32).setWidth 64):=by rw[Q19,Q10e];rfl
theorem nn_arsh:go 192 false 0 a b=some (((((a.setWidth 32).sshiftRight (b &&& 31#64).toNat).signExtend 64).setWidth 32).setWidth 64):=by rw[Q6f,Q10e];rfl
theorem nn_div:go 48 false 0 a b=some (((((a.setWidth 32) / (b.setWidth 32)).setWidth 64).setWidth 32).setWidth 64):=by rw[Q19];rfl
theorem nn_mod:go 144 false 0 a b=some (((((a.setWidth 32) % (b.setWidth 32)).setWidth 64).setWidth 32).setWidth 64):=by rw[Q19];rfl
theorem nn_sdiv:go 48 false 1 a b=some (((((a.setWidth 32).sdiv (b.setWidth 32)).signExtend 64).setWidth 32).setWidth 64):=by rw[Q6f];rfl
theorem nn_smod:go 144 false 1 a b=some (((((a.setWidth 32).srem (b.setWidth 32)).signExtend 64).setWidth 32).setWidth 64):=by rw[Q6f];rfl
theorem ww_s8:go 176 true 8 a b=some (sgn b 8):=by rw[sgn_in Y1 Y1,show (64 - (8:Int)).toNat=64 - 8 from rfl,Q37 _ 8 Y1 Y1];rfl
theorem ww_s16:go 176 true 16 a b=some (sgn b 16):=by rw[sgn_in Y1 Y1,show (64 - (16:Int)).toNat=64 - 16 from rfl,Q37 _ 16 Y1 Y1];rfl
theorem ww_s32:go 176 true 32 a b=some (sgn b 32):=by rw[sgn_in Y1 Y1,show (64 - (32:Int)).toNat=64 - 32 from rfl,Q37 _ 32 Y1 Y1];rfl
theorem nn_s8:go 176 false 8 a b=some (((sgn b 8).setWidth 32).setWidth 64):=by rw[sgn_in Y1 Y1,show (64 - (8:Int)).toNat=64 - 8 from rfl,Q37 _ 8 Y1 Y1,Qd8 _ 8 Y1 Y1];rfl
theorem nn_s16:go 176 false 16 a b=some (((sgn b 16).setWidth 32).setWidth 64):=by rw[sgn_in Y1 Y1,show (64 - (16:Int)).toNat=64 - 16 from rfl,Q37 _ 16 Y1 Y1,Qd8 _ 16 Y1 Y1];rfl
theorem go_off (op:Int)(wide:Bool)(off:Int)(h:¬ off=0)(h1:¬ op=176)(h2:¬ op=48)(h3:¬ op=144):go op wide off a b=none:=by
 unfold go gen;cases wide<;>simp[h,h1,h2,h3]
theorem go_mov_off (wide:Bool)(off:Int)(h:¬ off=0)(h1:¬ off=8)(h2:¬ off=16)(h3:¬ (off=32∧wide=true)):go 176 wide off a b=none:=by
 unfold go gen;cases wide<;>simp[h,h1,h2] at h3 ⊢;exact h3
theorem go_div_off (wide:Bool)(off:Int)(h:¬ off=0)(h1:¬ off=1):go 48 wide off a b=none:=by
 unfold go gen;cases wide<;>simp[h,h1]
theorem go_mod_off (wide:Bool)(off:Int)(h:¬ off=0)(h1:¬ off=1):go 144 wide off a b=none:=by
 unfold go gen;cases wide<;>simp[h,h1]
theorem go_else (op:Int)(wide:Bool)(off:Int)(h0:¬ op=0)(h1:¬ op=16)(h2:¬ op=32)(h3:¬ op=64)(h4:¬ op=80)(h5:¬ op=160)(h6:¬ op=128)(h7:¬ op=176)(h8:¬ op=96)(h9:¬ op=112)(h10:¬ op=192)(h11:¬ op=48)(h12:¬ op=144):go op wide off a b=none:=by
 unfold go gen;cases wide<;>simp[h0,h1,h2,h3,h4,h5,h6,h7,h8,h9,h10,h11,h12]
theorem div_zero (w:Nat)(x:BitVec w):x / 0#w=0#w∧x % 0#w=x∧x.sdiv 0#w=0#w∧x.srem 0#w=x:=by
 refine⟨by simp,by simp,by simp,by simp⟩
end
end Alu
end Hk
namespace Hk
namespace Alu
def up (X:BitVec 32):BitVec 64:=X.setWidth 64
def dn (x:BitVec 64):BitVec 32:=x.setWidth 32
theorem Qz9 (X:BitVec 32):dn (up X)=X:=Q19 X
theorem Q12e (X:BitVec 32):(up X).toNat=X.toNat:=by
 unfold up;rw[BitVec.toNat_setWidth];have:=X.isLt;omega
theorem Qut (X Y:BitVec 32):(up X==up Y)=(X==Y):=by
 rw[Bool.eq_iff_iff,beq_iff_eq,beq_iff_eq];exact⟨fun h=>by rw[← Qz9 X,h,Qz9],fun h=>by rw[h]⟩
theorem Qw9:up 0#32=0#64:=rfl
theorem Qas (X:BitVec 32):(up X==0#64)=(X==0#32):=by rw[← Qw9,Qut]
end Alu
end Hk
namespace Hk
namespace Alu
theorem Q133 {k:Nat}(h:k≤63):(1#64 <<< k).toNat=2 ^ k:=by
 rw[BitVec.toNat_shiftLeft,Nat.shiftLeft_eq];have:(2:Nat) ^ k<2 ^ 64:=Nat.pow_lt_pow_right Y1 Y1;have e1:(1#64).toNat=1:=rfl;rw[e1,Nat.one_mul,Nat.mod_eq_of_lt this]
theorem Q130 (a:BitVec 64):sgn a 64=a:=by
 rw[sgn_in Y1 Y1,show ((64:Int) - 64).toNat=0 from rfl];apply BitVec.eq_of_getLsbD_eq;intro i hi;rw[BitVec.getLsbD_sshiftRight,BitVec.shiftLeft_zero];simp[hi]
end Alu
end Hk
namespace Hk
namespace Cond
def val (o:Option Bool):Bool:=o.getD false
def err (o:Option Bool):Int:=if o.isSome then 0 else 1
theorem val_some (z:Bool):val (some z)=z:=rfl
theorem err_some (z:Bool):err (some z)=0:=rfl
theorem val_none:val none=false:=rfl
theorem err_none:err none=1:=rfl
def ordU (x y:BitVec 64):Int:=if x<y then -1 else if y<x then 1 else 0
def ordI (x y:Int):Int:=if x<y then -1 else if y<x then 1 else 0
theorem ordU_3 (x y:BitVec 64):ordU x y = -1∨ordU x y=0∨ordU x y=1:=by
 unfold ordU;split;exact .inl rfl;split;exact .inr (.inr rfl);exact .inr (.inl rfl)
theorem ordI_3 (x y:Int):ordI x y = -1∨ordI x y=0∨ordI x y=1:=by
 unfold ordI;split;exact .inl rfl;split;exact .inr (.inr rfl);exact .inr (.inl rfl)
def cmpOk (op:Int):Bool:=op==16 || op==80 || op==48 || op==112 || op==32 || op==96 || op==176 || op==208 || op==160 || op==192
def cmpB (op o:Int):Bool :=
 if op=16 then o==0 else if op=80 then o != 0 else if op=48∨op=112 then (if o=0 then true else decide (0<o)) else if op=32∨op=96 then decide (0<o)
 else if op=176∨op=208 then (if o=0 then true else decide (o<0)) else if op=160∨op=192 then decide (o<0) else false
def Q162 (op:Int)(lt eq:Bool):Bool :=
 if op=16 then eq else if op=80 then !eq else if op=48∨op=112 then !lt else if op=32∨op=96 then !lt && !eq
 else if op=176∨op=208 then lt || eq else if op=160∨op=192 then lt else false
theorem Q4w {op o:Int}{lt eq:Bool}(h:(o = -1∧lt=true∧eq=false)∨(o=0∧lt=false∧eq=true)∨(o=1∧lt=false∧eq=false)):cmpB op o=Q162 op lt eq:=by
 unfold cmpB Q162;rcases h with ⟨rfl,rfl,rfl⟩|⟨rfl,rfl,rfl⟩|⟨rfl,rfl,rfl⟩<;>simp
theorem Qj3 (x y:BitVec 64):(ordU x y = -1∧decide (x<y)=true∧(x==y)=false)∨(ordU x y=0∧decide (x<y)=false∧(x==y)=true)∨(ordU x y=1∧decide (x<y)=false∧(x==y)=false):=by
 unfold ordU;simp only[BitVec.lt_def,beq_eq_false_iff_ne,ne_eq,beq_iff_eq,← BitVec.toNat_inj,decide_eq_true_iff,decide_eq_false_iff_not];exact Yow
theorem Qj4 (i j:Int):(ordI i j = -1∧decide (i<j)=true∧(i==j)=false)∨(ordI i j=0∧decide (i<j)=false∧(i==j)=true)∨(ordI i j=1∧decide (i<j)=false∧(i==j)=false):=by
 unfold ordI;simp only[beq_eq_false_iff_ne,ne_eq,beq_iff_eq,decide_eq_true_iff,decide_eq_false_iff_not];exact Yow
def signed (op:Int):Bool:=op==96 || op==112 || op==192 || op==208
theorem Q142 {w:Nat}{op:Int}(h0:¬ op=0)(h64:¬ op=64)(hs:signed op=false)(x y:BitVec w):gen w op x y=if cmpOk op then some (Q162 op (decide (x<y)) (x==y)) else none:=by
 have l1:decide (y<x)=(!decide (x<y) && !(x==y)):=by
  rw[Bool.eq_iff_iff];simp only[Bool.and_eq_true,Bool.not_eq_true',decide_eq_true_iff,decide_eq_false_iff_not,beq_eq_false_iff_ne,ne_eq,BitVec.lt_def,← BitVec.toNat_inj];omega
 have l2:decide (y≤x) = !decide (x<y):=by
  rw[Bool.eq_iff_iff];simp only[Bool.not_eq_true',decide_eq_true_iff,decide_eq_false_iff_not,BitVec.lt_def,BitVec.le_def];omega
 have l3:decide (x≤y)=(decide (x<y) || (x==y)):=by
  rw[Bool.eq_iff_iff];simp only[Bool.or_eq_true,decide_eq_true_iff,beq_iff_eq,BitVec.lt_def,BitVec.le_def,← BitVec.toNat_inj];omega
 unfold signed at hs;simp only[Bool.or_eq_false_iff,beq_eq_false_iff_ne,ne_eq] at hs;obtain⟨⟨⟨s1,s2⟩,s3⟩,s4⟩:=hs;by_cases a1:op=16
 · subst a1;rfl
 by_cases a2:op=80
 · subst a2;rfl
 by_cases a3:op=48
 · subst a3;exact congrArg some l2
 by_cases a4:op=32
 · subst a4;exact congrArg some l1
 by_cases a5:op=176
 · subst a5;exact congrArg some l3
 by_cases a6:op=160
 · subst a6;rfl
 simp[gen,cmpOk,h0,h64,s1,s2,s3,s4,a1,a2,a3,a4,a5,a6]
theorem Q143 {w:Nat}{op:Int}(hs:signed op=true)(x y:BitVec w):gen w op x y=some (Q162 op (decide (x.toInt<y.toInt)) (x.toInt==y.toInt)):=by
 unfold signed at hs;simp only[Bool.or_eq_true,beq_iff_eq] at hs;rcases hs with ((rfl|rfl)|rfl)|rfl
 · refine congrArg some ?_
   show decide (y.toInt<x.toInt)=(!decide (x.toInt<y.toInt) && !(x.toInt==y.toInt));rw[Bool.eq_iff_iff];simp only[Bool.and_eq_true,Bool.not_eq_true',decide_eq_true_iff,decide_eq_false_iff_not,beq_eq_false_iff_ne,ne_eq];omega
 · refine congrArg some ?_
   show decide (y.toInt≤x.toInt) = !decide (x.toInt<y.toInt);rw[Bool.eq_iff_iff];simp only[Bool.not_eq_true',decide_eq_true_iff,decide_eq_false_iff_not];omega
 · exact rfl
 · refine congrArg some ?_
   show decide (x.toInt≤y.toInt)=(decide (x.toInt<y.toInt) || (x.toInt==y.toInt));rw[Bool.eq_iff_iff];simp only[Bool.or_eq_true,decide_eq_true_iff,beq_iff_eq];omega
open Alu in
theorem Q16n (X Y:BitVec 32):decide (up X<up Y)=decide (X<Y):=by simp only[BitVec.lt_def,Q12e]
open Alu in
open Alu in
theorem Qpv (X:BitVec 32):sgn (up X) 32=X.signExtend 64:=by
 rw[sgn_in Y1 Y1,show ((64:Int) - 32).toNat=64 - 32 from rfl,Q37 _ 32 Y1 Y1]
 congr 1;exact Qz9 X
theorem Q12q (X:BitVec 32):(X.signExtend 64).toInt=X.toInt:=BitVec.toInt_signExtend_of_le Y1
open Alu in
theorem is_u {op:Int}(h0:¬ op=0)(h64:¬ op=64)(hs:signed op=false)(wd:Bool)(a b:BitVec 64) :
 is op wd a b=if cmpOk op then some (cmpB op (ordU (if wd then a else up (dn a)) (if wd then b else up (dn b)))) else none:=by
 cases wd
 · show gen 32 op (dn a) (dn b)=_
   rw[Q142 h0 h64 hs,Q4w (Qj3 _ _)];simp only[Bool.false_eq_true,if_false,Q16n,Qut]
 · show gen 64 op a b=_
   rw[Q142 h0 h64 hs,Q4w (Qj3 _ _)];simp only[if_true]
open Alu in
theorem is_s {op:Int}(hs:signed op=true)(wd:Bool)(a b:BitVec 64) :
 is op wd a b=some (cmpB op (ordI (if wd then (sgn a 64).toInt else (sgn (up (dn a)) 32).toInt) (if wd then (sgn b 64).toInt else (sgn (up (dn b)) 32).toInt))):=by
 cases wd
 · show gen 32 op (dn a) (dn b)=_
   rw[Q143 hs,Q4w (Qj4 _ _)];simp only[Bool.false_eq_true,if_false,Qpv,Q12q]
 · show gen 64 op a b=_
   rw[Q143 hs,Q4w (Qj4 _ _)];simp only[if_true,Q130]
open Alu in
theorem is_0 (wd:Bool)(a b:BitVec 64):is 0 wd a b=some true:=by cases wd<;>rfl
open Alu in
theorem is_64 (wd:Bool)(a b:BitVec 64):is 64 wd a b=some (!((if wd then a else up (dn a)) &&& (if wd then b else up (dn b))==0#64)):=by
 cases wd
 · show some (dn a &&& dn b != 0#32)=_
   simp only[Bool.false_eq_true,if_false]
   have:(up (dn a) &&& up (dn b)==0#64)=(dn a &&& dn b==0#32):=by
    rw[← Qas]
    congr 1
   rw[this];rfl
 · rfl
open Alu
def lo (wd:Bool)(a:BitVec 64):BitVec 64:=if wd then a else a % 4294967296#64
end Cond
end Hk
namespace Hk
namespace Alu
theorem Qkw (w:Nat)(x y:BitVec w):x / y*y+x % y=x:=by
 apply BitVec.eq_of_toNat_eq;simp only[BitVec.toNat_add,BitVec.toNat_mul,BitVec.toNat_udiv,BitVec.toNat_umod];rw[Nat.mul_comm (x.toNat / y.toNat),Nat.mod_add_mod,Nat.div_add_mod,Nat.mod_eq_of_lt x.isLt]
theorem Q3p (op off:Int)(a b:BitVec 64)(z:BitVec 32)(h:gen 32 op off (a.setWidth 32) (b.setWidth 32)=some z):go op false off a b=some (z.setWidth 64):=by
 unfold go;rw[h];rfl
theorem Qxi (wd sg:Bool)(a b:BitVec 64):∃ q r m s,go 48 wd (if sg then 1 else 0) a b=some q∧go 144 wd (if sg then 1 else 0) a b=some r∧go 32 wd 0 q b=some m∧go 0 wd 0 m r=some s∧go 176 wd 0 0#64 a=some s:=by
 cases wd<;>cases sg
 · refine⟨_,_,_,_,rfl,rfl,rfl,Q3p 0 0 _ _ (a.setWidth 32) ?_,rfl⟩
   show some _=some _;rw[Q19,Q19,Q19,Qkw]
 · refine⟨_,_,_,_,rfl,rfl,rfl,Q3p 0 0 _ _ (a.setWidth 32) ?_,rfl⟩
   show some _=some _;rw[Q19,Q19,Q19,Q91]
 · refine⟨_,_,_,a,rfl,rfl,rfl,?_,rfl⟩
   show some _=some _;rw[Qkw]
 · refine⟨_,_,_,a,rfl,rfl,rfl,?_,rfl⟩
   show some _=some _;rw[Q91]
theorem Q19z (op:Int)(h:op=0∨op=32∨op=64∨op=80∨op=160)(wd:Bool)(a b c:BitVec 64) :
 ∃ x p q,go op wd 0 a b=some x∧go op wd 0 b a=some x∧go op wd 0 x c=some p∧go op wd 0 b c=some q∧go op wd 0 a q=some p:=by
 rcases h with rfl|rfl|rfl|rfl|rfl<;>cases wd
 · refine⟨_,_,_,rfl,Q3p _ _ _ _ _ (congrArg some (BitVec.add_comm _ _)),rfl,rfl,Q3p _ _ _ _ _ (congrArg some ?_)⟩
   rw[Q19,Q19,BitVec.add_assoc]
 · exact⟨_,_,_,rfl,congrArg some (BitVec.add_comm _ _),rfl,rfl,congrArg some (BitVec.add_assoc _ _ _).symm⟩
 · refine⟨_,_,_,rfl,Q3p _ _ _ _ _ (congrArg some (BitVec.mul_comm _ _)),rfl,rfl,Q3p _ _ _ _ _ (congrArg some ?_)⟩
   rw[Q19,Q19,BitVec.mul_assoc]
 · exact⟨_,_,_,rfl,congrArg some (BitVec.mul_comm _ _),rfl,rfl,congrArg some (BitVec.mul_assoc _ _ _).symm⟩
 · refine⟨_,_,_,rfl,Q3p _ _ _ _ _ (congrArg some (BitVec.or_comm _ _)),rfl,rfl,Q3p _ _ _ _ _ (congrArg some ?_)⟩
   rw[Q19,Q19,BitVec.or_assoc]
 · exact⟨_,_,_,rfl,congrArg some (BitVec.or_comm _ _),rfl,rfl,congrArg some (BitVec.or_assoc _ _ _).symm⟩
 · refine⟨_,_,_,rfl,Q3p _ _ _ _ _ (congrArg some (BitVec.and_comm _ _)),rfl,rfl,Q3p _ _ _ _ _ (congrArg some ?_)⟩
   rw[Q19,Q19,BitVec.and_assoc]
 · exact⟨_,_,_,rfl,congrArg some (BitVec.and_comm _ _),rfl,rfl,congrArg some (BitVec.and_assoc _ _ _).symm⟩
 · refine⟨_,_,_,rfl,Q3p _ _ _ _ _ (congrArg some (BitVec.xor_comm _ _)),rfl,rfl,Q3p _ _ _ _ _ (congrArg some ?_)⟩
   rw[Q19,Q19,BitVec.xor_assoc]
 · exact⟨_,_,_,rfl,congrArg some (BitVec.xor_comm _ _),rfl,rfl,congrArg some (BitVec.xor_assoc _ _ _).symm⟩
end Alu
end Hk
namespace Hk
namespace Cond
open Alu
end Cond
end Hk
namespace Hk
namespace Sp
def len (a b:BitVec 64):BitVec 64:=mx a b - mn a b+1#64
def num (a b n:BitVec 64):BitVec 64:=if len a b==0#64 then n else mn a b+n % len a b
theorem within_trans {a b c:Sp}(h1:a.within b=true)(h2:b.within c=true):a.within c=true:=by
 rw[within_iff] at *;omega
end Sp
end Hk
