/- A part of the proof of TopTwice. No condition but each statement's own. -/
import Derived.Test.YtkgmipfmphlpgaaGreatK01
import Derived.Laws.AppendOwn
import Derived.Laws.MakeOwn
import Derived.Laws.OwnMore
import Derived.ArgAppend
open Go Go.RowKit Go.Proofs
set_option linter.all false
set_option maxRecDepth 100000
set_option maxHeartbeats 20000000
namespace Hk
def In.zero:In:=⟨0#8,0#8,0#8,0#16,0#32⟩
def In.eqB (x y:In):Bool:=x.op==y.op && x.dst==y.dst && x.src==y.src && x.off==y.off && x.imm==y.imm
theorem In.eqB_iff (x y:In):In.eqB x y=true ↔ x=y:=by
 cases x;cases y;simp[In.eqB,and_assoc]
def Q14 (w:World)(b:Nat)(l:List In):Prop:=∀ k (h:k<l.length),w.cell? ⟨b,k*5,none⟩=some (.int .u8 (N8 l[k].op))∧w.cell? ⟨b,k*5+1,none⟩=some (.int .u8 (N8 l[k].dst)) ∧
 w.cell? ⟨b,k*5+2,none⟩=some (.int .u8 (N8 l[k].src))∧w.cell? ⟨b,k*5+3,none⟩=some (.int .i16 (I16 l[k].off))∧w.cell? ⟨b,k*5+4,none⟩=some (.int .i32 (I32 l[k].imm))
theorem Q14.keep {w w1:World}{b:Nat}{l:List In}(h:Q14 w b l)(hb:Below w.heap.size w w1):Q14 w1 b l:=fun k hk=>by
 obtain⟨h0,h1,h2,h3,h4⟩:=h k hk;exact⟨Q0 hb h0,Q0 hb h1,Q0 hb h2,Q0 hb h3,Q0 hb h4⟩
theorem Q14.lt {w:World}{b:Nat}{l:List In}(h:Q14 w b l)(hl:0<l.length):b<w.heap.size:=Q1 (h 0 hl).1
def Qi (w:World)(g n:Nat)(f:Nat→Bool):Prop:=(∀ j,j<n→w.cell? ⟨g,j,none⟩=some (.bool (f j)))∧(∀ j,w.frozen? ⟨g,j,none⟩=false)
theorem Qi.keep {w w1:World}{g n:Nat}{f:Nat→Bool}(h:Qi w g n f)(hg:g<w.heap.size)(hb:Below w.heap.size w w1):Qi w1 g n f :=
 ⟨fun j hj=>Q0 hb (h.1 j hj),fun j=>Yes⟩
theorem Q11 {w:World}{g k j:Nat}{v u:Value}(h:w.cell? ⟨g,k,none⟩=some u):(w.setCell ⟨g,k,none⟩ v).cell? ⟨g,j,none⟩=if j=k then some v else w.cell? ⟨g,j,none⟩:=by
 by_cases e:j=k
 · subst e;rw[if_pos rfl];exact World.cell?_setCell_same _ _ _ h
 · rw[if_neg e];exact World.cell?_setCell_other _ _ _ _ (show (⟨g,k,none⟩:Addr)≠⟨g,j,none⟩ from fun h=>e (congrArg Addr.off h).symm)
theorem Qi.set {w:World}{g n:Nat}{f f':Nat→Bool}{k:Nat}(h:Qi w g n f)(hk:k<n)(b:Bool)(hf:∀ j,j<n→f' j=if j=k then b else f j):Qi (w.setCell ⟨g,k,none⟩ (.bool b)) g n f' :=
 ⟨fun j hj => by rw [Q11 (h.1 k hk), hf j hj]; split; · rfl
                 · exact h.1 j hj,fun j=>Yet⟩
namespace Co
def nextK (l:List In)(k:Nat):Nat:=if wide2 (l.getD k In.zero) then k+2 else k+1
theorem nextK_gt (l:List In)(k:Nat):k<nextK l k:=by unfold nextK;split<;>omega
theorem nextK_le (l:List In)(k:Nat):nextK l k≤k+2:=by unfold nextK;split<;>omega
theorem nextK_at {l:List In}{k:Nat}(h:k<l.length):nextK l k=if wide2 l[k] then k+2 else k+1:=by
 unfold nextK;rw[List.getD_eq_getElem?_getD,List.getElem?_eq_getElem h];rfl
def met (l:List In):Nat→Nat→Nat→Bool
 | 0,_,_=>false
 | f+1,k,i=>if k<l.length then (k==i) || met l f (nextK l k) i else false
def start (l:List In)(i:Nat):Bool:=met l l.length 0 i
theorem Qde (l:List In)(i:Nat):∀ (f k:Nat),l.length - k≤f→met l f k i=met l (f+1) k i
 | 0,k,h=>by
   unfold met;rw[if_neg Y1]
 | f+1,k,h=>by
   unfold met;by_cases hk:k<l.length
   · rw[if_pos hk,if_pos hk,Qde l i f (nextK l k) Y9]
   · rw[if_neg hk,if_neg hk]
def metAll (l:List In)(k i:Nat):Bool:=met l l.length k i
theorem Q1l {l:List In}{k:Nat}(h:k<l.length)(i:Nat):metAll l k i=((k==i) || metAll l (nextK l k) i):=by
 unfold metAll;rw[Qde l i l.length k Y1];show (if k<l.length then (k==i) || met l l.length (nextK l k) i else false)=_;rw[if_pos h]
theorem metAll_end {l:List In}{k:Nat}(h:l.length≤k)(i:Nat):metAll l k i=false:=by
 unfold metAll;cases hl:l.length with
 | zero=>rfl
 | succ n=>show (if k<l.length then _ else false)=false;rw[if_neg Y1]
theorem Q6p {l:List In}:∀ (f k i:Nat),l.length - k≤f→i<k→metAll l k i=false
 | f,k,i,hf,h=>by
   by_cases hk:k<l.length
   · rw[Q1l hk]
     have:(k==i)=false:=Y4;rw[this,Bool.false_or];cases f with
     | zero=>omega
     | succ f=>exact Q6p f (nextK l k) i Y9 Y9
   · exact metAll_end Y1 i
theorem start_lt {l:List In}{i:Nat}(h:start l i=true):i<l.length:=by
 apply Classical.byContradiction;intro hn
 have key:∀ f k,met l f k i=false:=by
  intro f
  induction f with
  | zero=>intro k;rfl
  | succ f ih =>
    intro k;unfold met;by_cases hk:k<l.length
    · rw[if_pos hk,ih,Bool.or_false];simp;omega
    · rw[if_neg hk]
 unfold start at h;rw[key] at h;cases h
theorem starts_up {l:List In}{k:Nat}(h:k<l.length)(hup:∀ j,metAll l k j=true→start l j=true):∀ j,metAll l (nextK l k) j=true→start l j=true :=
 fun j hj=>hup j (by rw[Q1l h,hj,Bool.or_true])
theorem starts_at {l:List In}{k:Nat}(h:k<l.length)(hup:∀ j,metAll l k j=true→start l j=true)(j:Nat):(start l j && !metAll l (nextK l k) j)=if j=k then true else (start l j && !metAll l k j):=by
 by_cases e:j=k
 · subst e
   rw[if_pos rfl,Q6p l.length _ _ Y1 (nextK_gt l j),hup j (by rw[Q1l h];simp)];rfl
 · rw[if_neg e,Q1l h]
   have:(k==j)=false:=by simp;exact fun h=>e h.symm
   rw[this,Bool.false_or]
def isHop (x:In):Bool:=(what x).kind==9 || (what x).kind==10
def toI (l:List In)(k:Nat):Int:=let x:=l.getD k In.zero;if isHop x then (if x.op==6#8 then k+1+I32 x.imm else k+1+I16 x.off) else 0
def toB (l:List In)(k:Nat):Bool:=isHop (l.getD k In.zero)
def inB (l:List In)(n:Int):Bool:=decide (0≤n) && decide (n<l.length)
def targetB (l:List In)(k:Nat):Bool:=toB l k && inB l (toI l k)
def target (l:List In)(k:Nat):Nat:=if targetB l k then (toI l k).toNat else 0
def whole (l:List In)(k:Nat):Bool :=
 let x:=l.getD k In.zero
 whatB x && (!wide2 x || (decide (k+1<l.length) && (let y:=l.getD (k+1) In.zero;In.eqB (if (what x).kind==3 then { y with imm:=0#32 } else y) In.zero)))
def bad1 (l:List In)(i:Nat):Bool:=start l i && !whole l i
def bad2 (l:List In)(i:Nat):Bool:=start l i && (toB l i && (!inB l (toI l i) || !start l (toI l i).toNat))
def endOf (l:List In):Nat→Nat
 | 0=>0
 | k+1=>if start l k then k else endOf l k
def stops (x:In):Bool:=(what x).kind==12 || (what x).kind==9
def check (l:List In):Nat × Int :=
 if decide (l.length<1) || decide (512<l.length) then (0,70) else
 match (List.range l.length).find? (bad1 l) with
 | some i=>(i,71)
 | none=>match (List.range l.length).find? (bad2 l) with
   | some i=>(i,72)
   | none=>if stops (l.getD (endOf l l.length) In.zero) then (0,0) else (endOf l l.length,73)
theorem check_size {l:List In}(h:l.length<1∨512<l.length):check l=(0,70):=by
 unfold check;rw[if_pos Y5]
theorem Qc3 {p:Nat→Bool}{n k:Nat}(hk:k<n)(h:∀ j,j<k→p j=false)(hp:p k=true):(List.range n).find? p=some k:=by
 rw[List.find?_range_eq_some];exact⟨hp,List.mem_range.2 hk,fun j hj=>by rw[h j hj];rfl⟩
theorem Q87 {p:Nat→Bool}{n:Nat}(h:∀ j,j<n→p j=false):(List.range n).find? p=none:=by
 rw[List.find?_eq_none];intro j hj;rw[h j (List.mem_range.1 hj)];simp
theorem check_1 {l:List In}{k:Nat}(h:¬ (l.length<1∨512<l.length))(hk:k<l.length)(h1:∀ j,j<k→bad1 l j=false)(hp:bad1 l k=true):check l=(k,71):=by
 unfold check;rw[if_neg Y5,Qc3 hk h1 hp]
theorem check_2 {l:List In}{k:Nat}(h:¬ (l.length<1∨512<l.length))(h1:∀ j,j<l.length→bad1 l j=false)(hk:k<l.length)(h2:∀ j,j<k→bad2 l j=false)(hp:bad2 l k=true):check l=(k,72):=by
 unfold check;rw[if_neg Y5,Q87 h1,Qc3 hk h2 hp]
theorem check_3 {l:List In}(h:¬ (l.length<1∨512<l.length))(h1:∀ j,j<l.length→bad1 l j=false)(h2:∀ j,j<l.length→bad2 l j=false):check l=if stops (l.getD (endOf l l.length) In.zero) then (0,0) else (endOf l l.length,73):=by
 unfold check;rw[if_neg Y5,Q87 h1,Q87 h2]
theorem Qdp (l:List In):∀ k,endOf l k≤k
 | 0=>Nat.le_refl _
 | k + 1 => by unfold endOf; split; · omega
               · exact Nat.le_succ_of_le (Qdp l k)
theorem endOf_lt' {l:List In}(h:0<l.length):endOf l l.length<l.length:=by
 have key:∀ k,0<k→endOf l k<k:=by
  intro k hk;cases k with
  | zero=>omega
  | succ k => unfold endOf; split; · omega
              · exact Nat.lt_succ_of_le (Qdp l k)
 exact key _ h
def good (l:List In):Bool:=(check l).2==0
theorem good_facts {l:List In}(h:good l=true):(1≤l.length∧l.length≤512)∧(∀ j,j<l.length→bad1 l j=false)∧(∀ j,j<l.length→bad2 l j=false)∧stops (l.getD (endOf l l.length) In.zero)=true∧check l=(0,0):=by
 unfold good at h;by_cases h0:l.length<1∨512<l.length
 · rw[check_size h0] at h;cases h
 · unfold check at h ⊢
   rw[if_neg (by simpa using h0)] at h ⊢;cases h1:(List.range l.length).find? (bad1 l) with
   | some i=>rw[h1] at h;cases h
   | none =>
     rw[h1] at h;cases h2:(List.range l.length).find? (bad2 l) with
     | some i=>rw[h2] at h;cases h
     | none =>
       rw[h2] at h;cases h3:stops (l.getD (endOf l l.length) In.zero) with
       | false =>
         rw[h3] at h;exact absurd h Y3
       | true =>
         rw[List.find?_eq_none] at h1 h2;exact⟨Y1,fun j hj=>by have:=h1 j (List.mem_range.2 hj);simpa using this,fun j hj=>by have:=h2 j (List.mem_range.2 hj);simpa using this,rfl,by simp⟩
end Co
end Hk
namespace Hk
open Go Go.RowKit in
@[go_sem] theorem Qhh (x:BitVec 16):I16 x % 256=N8 (x.setWidth 8):=Qcm x
theorem Q10t (x:BitVec 32)(j:Nat)(h:j≤32):I32 x / 2 ^ j % 256=N8 ((x.sshiftRight j).setWidth 8):=by
 have:=Qdo x j h;rw[Int.fdiv_eq_ediv_of_nonneg _ (Int.le_of_lt (Int.pow_pos Y0))] at this;rw[this,Qhg]
open Go Go.RowKit in
theorem Qlf (p q:BitVec 16):bits .or .i16 (I16 p) (I16 q)=I16 (p ||| q):=by
 show IntKind.wrap .i16 ((BitVec.ofInt 16 (I16 p) ||| BitVec.ofInt 16 (I16 q)).toNat:Int)=_;rw[Q4q,Q4q,Q5n]
open Go Go.RowKit in
@[go_sem] theorem Q1am (a c:BitVec 8):bits .or .i16 (IntKind.wrap .i16 (N8 a)) (IntKind.wrap .i16 (IntKind.wrap .i16 (N8 c)*256))=I16 (a.setWidth 16 ||| c.setWidth 16 <<< 8):=by
 rw[Q73,Q73,Q4h,show I16 (c.setWidth 16)*256=I16 (c.setWidth 16)*2 ^ (min 8 16) from rfl,Q4o,Qlf]
open Go Go.RowKit in
theorem Qle (p q:BitVec 32):bits .or .i32 (I32 p) (I32 q)=I32 (p ||| q):=by
 show IntKind.wrap .i32 ((BitVec.ofInt 32 (I32 p) ||| BitVec.ofInt 32 (I32 q)).toNat:Int)=_;rw[Q4p,Q4p,Q5m]
open Go Go.RowKit in
theorem Q1a0 (m:BitVec 32)(c:BitVec 8)(k:Nat)(h:k<4):bits .or .i32 (I32 m) (IntKind.wrap .i32 (IntKind.wrap .i32 (N8 c)*2 ^ (8*k)))=I32 (m ||| c.setWidth 32 <<< (8*k)):=by
 rw[Qd1,Q40,show I32 (c.setWidth 32)*2 ^ (8*k)=I32 (c.setWidth 32)*2 ^ (min (8*k) 32) by rw[Nat.min_eq_left Y1],Q4n,Qle]
open Go Go.RowKit in
theorem Q16y (m:BitVec 32)(c:BitVec 8)(k:Nat)(h:k<4):bits .or .i32 (I32 m) (RowKit.wrap32 (RowKit.wrap32 (N8 c)*2 ^ (8*k)))=I32 (m ||| c.setWidth 32 <<< (8*k)):=by
 have:=Q1a0 m c k h;simp only[IntWalk.i32_left] at this;exact this
namespace Co
theorem byteAt_imm (x:In)(k:Nat)(h:k<4):Q6y x (4+k)=(x.imm.sshiftRight (8*k)).setWidth 8:=by
 match k,h with
 | 0,_=>show x.imm.setWidth 8=_;congr 1;apply BitVec.eq_of_getLsbD_eq;intro i hi;simp[BitVec.getElem_sshiftRight]
 | 1,_=>rfl
 | 2,_=>rfl
 | 3,_=>rfl
def longW (x y:In):BitVec 64:=x.imm.setWidth 64 ||| y.imm.setWidth 64 <<< 32
def bytesC (x:In)(n:Nat):List Go.Value:=(List.range n).map fun j=>.int .u8 (N8 (Q6y x j))
theorem bytesC_succ (x:In)(n:Nat):bytesC x (n+1)=bytesC x n++[.int .u8 (N8 (Q6y x n))]:=by
 unfold bytesC;rw[List.range_succ,List.map_append];rfl
theorem bytesC_length (x:In)(n:Nat):(bytesC x n).length=n:=by simp[bytesC]
end Co
end Hk
namespace Hk
namespace Co
theorem Q6o {l:List In}:∀ (f m k:Nat),l.length - m≤f→metAll l m k=true→nextK l k<l.length→metAll l m (nextK l k)=true
 | f,m,k,hf,h,hn=>by
   by_cases hm:m<l.length
   · rw[Q1l hm] at h ⊢
     rw[Bool.or_eq_true,beq_iff_eq] at h;rw[Bool.or_eq_true]
     right
     rcases h with h|h
     · subst h
       rw[Q1l hn];simp
     · cases f with
       | zero=>omega
       | succ f=>exact Q6o f (nextK l m) k (by have:=nextK_gt l m;omega) h hn
   · rw[metAll_end Y1] at h;cases h
theorem Q41 {l:List In}{k:Nat}(h:start l k=true)(hn:nextK l k<l.length):start l (nextK l k)=true:=Q6o l.length 0 k Y1 h hn
theorem start_zero {l:List In}(h:0<l.length):start l 0=true:=by
 show metAll l 0 0=true;rw[Q1l h];simp
theorem Qzk {l:List In}:∀ (f k:Nat),l.length - k≤f→start l k=true→∀ j,k≤j→j<l.length→start l j=true∨(1≤j∧start l (j - 1)=true∧wide2 (l.getD (j - 1) In.zero)=true)
 | f,k,hf,hs,j,hk,hj=>by
   by_cases e:j=k
   · subst e;exact .inl hs
   · cases hw:wide2 (l.getD k In.zero) with
     | true =>
       by_cases e2:j=k+1
       · subst e2;exact .inr ⟨Y1,by simpa using hs,by simpa using hw⟩
       · have hx:nextK l k=k+2:=by unfold nextK;rw[hw];rfl
         cases f with
         | zero=>omega
         | succ f=>exact Qzk f (nextK l k) Y1 (Q41 hs Y1) j Y1 hj
     | false =>
       have hx:nextK l k=k+1:=by unfold nextK;rw[hw];rfl
       cases f with
       | zero=>omega
       | succ f=>exact Qzk f (nextK l k) Y1 (Q41 hs Y1) j Y1 hj
theorem good_regs {l:List In}(h:good l=true){j:Nat}(hj:j<l.length):l[j].dst≤15#8∧l[j].src≤15#8:=by
 obtain⟨⟨h1,h2⟩,h3,_⟩:=good_facts h
 have hw:∀ i,i<l.length→start l i=true→whole l i=true:=fun i hi hs=>by
  have:=h3 i hi;unfold bad1 at this;rw[hs] at this;simpa using this
 have ej:l.getD j In.zero=l[j]:=by rw[List.getD_eq_getElem?_getD,List.getElem?_eq_getElem hj];rfl
 rcases Qzk l.length 0 Y1 (start_zero Y1) j Y1 hj with hs|⟨hp,hs,h2w⟩
 · have:=hw j hj hs
   unfold whole at this;simp only[Bool.and_eq_true] at this;have:=whatB_regs this.1;rw[ej] at this;simp only[BitVec.le_def] at this ⊢;have a1:(10#8).toNat=10:=rfl;have a2:(15#8).toNat=15:=rfl;omega
 · have hi:j - 1<l.length:=by omega
   have:=hw (j - 1) hi hs;unfold whole at this;rw[show j - 1+1=j from Y1,ej] at this;simp only[Bool.and_eq_true,Bool.or_eq_true,Bool.not_eq_true'] at this;rw[h2w] at this;rcases this.2 with h|⟨_,h⟩
   · cases h
   · have h':=(In.eqB_iff _ _).1 h
     have hd:l[j].dst=0#8∧l[j].src=0#8:=by
      split at h'<;>(rw[In.mk.injEq] at h'<;>first|exact⟨h'.2.1,h'.2.2.1⟩|(rw[← h'];exact⟨rfl,rfl⟩))<;>skip
     rw[hd.1,hd.2];decide
def encC (l:List In):List Go.Value:=l.flatMap fun x=>bytesC x 8
theorem encC_snoc (l:List In)(k:Nat)(h:k<l.length):encC (l.take (k+1))=encC (l.take k)++bytesC l[k] 8:=by
 unfold encC;rw[List.take_succ_eq_append_getElem h,List.flatMap_append];simp
end Co
end Hk
namespace Hk
theorem Qd {w w':World}{B e k n:Nat}{v:Value}{xs:List Value}(h:w.ownsRow B e k v n xs)(hb:Below w.heap.size w w'):w'.ownsRow B e k v n xs:=by
 obtain⟨h1,h2⟩:=h;refine⟨h1,?_⟩;rcases h2 with h|⟨g,cap,cur,hv,hB,hh,rest⟩
 · exact .inl h
 · refine .inr ⟨g,cap,cur,hv,hB,(hb.block g ?_).trans hh,rest⟩
   exact Yqx
theorem Q1a {w:World}{B B' e k n:Nat}{v:Value}{xs:List Value}(h:w.ownsRow B e k v n xs)(hB:B'≤B):w.ownsRow B' e k v n xs:=by
 obtain⟨h1,h2⟩:=h;refine⟨h1,?_⟩;rcases h2 with h|⟨g,cap,cur,hv,hg,rest⟩
 · exact .inl h
 · exact .inr ⟨g,cap,cur,hv,Nat.le_trans hB hg,rest⟩
theorem Q1h {w:World}{B e k n:Nat}{v:Value}{xs:List Value}(h:w.ownsRow B e k v n xs)(hn:0<n) :
 ∃ g cap,v=.slice (some ⟨g,0,none⟩) n cap∧B≤g∧g<w.heap.size∧n≤cap∧cap≤maxLen∧(∀ j u,xs[j]?=some u→w.cell? ⟨g,j,none⟩=some u)∧∀ j,w.frozen? ⟨g,j,none⟩=false:=by
 obtain⟨h1,h2⟩:=h;rcases h2 with ⟨_,h⟩|⟨g,cap,cur,hv,hB,hh,hc,hm,hs,ht⟩
 · omega
 · refine⟨g,cap,hv,hB,?_,hc,hm,fun j u hu=>?_,fun j=>?_⟩
   · exact Yqx
   · rw[← ht] at hu
     have hlt:j<n*k:=by
      have:=(List.getElem?_eq_some_iff.1 hu).1;simp only[List.length_take] at this;omega
     rw[List.getElem?_take_of_lt hlt] at hu;unfold World.cell?;rw[hh];simpa using hu
   · unfold World.frozen?
     rw[hh];simp
theorem Qbt {w:World}{B e:Nat}{cs:List Value}(k n:Nat)(hB:B≤w.heap.size)(hl:cs.length=n*k)(hn:n≤maxLen):(w.alloc (.cells cs.toArray e)).ownsRow B e k (.slice (some ⟨w.heap.size,0,none⟩) n n) n cs :=
 ⟨hl,.inr ⟨w.heap.size,n,cs.toArray,rfl,hB,heap_alloc_new w _,Nat.le_refl _,hn,by simpa using hl,by simp[← hl]⟩⟩
theorem Q7k (g j:Nat):(⟨g,0,none⟩:Addr).add j=⟨g,j,none⟩:=Yek
theorem Qy {w:World}{B e k:Nat}:w.ownsRow B e k (.slice none 0 0) 0 []:=⟨by simp,.inl ⟨rfl,rfl⟩⟩
end Hk
namespace Hk
def Q2a (l:List In):List Value:=l.flatMap fun x=>x.cells.toList
theorem Q2v (l:List In):(Q2a l).length=l.length*5:=by
 unfold Q2a
 induction l with
 | nil=>rfl
 | cons x r ih=>rw[List.flatMap_cons,List.length_append,ih,List.length_cons];simp[In.cells];omega
theorem Qk7 (l:List In)(x:In):Q2a (l++[x])=Q2a l++x.cells.toList:=by unfold Q2a;rw[List.flatMap_append];simp
theorem Q4u:∀ (l:List In) (k j:Nat) (h:k<l.length),j<5→(Q2a l)[k*5+j]?=l[k].cells.toList[j]?
 | x :: r,0,j,h,hj=>by
   show (x.cells.toList++Q2a r)[0*5+j]?=_;rw[List.getElem?_append_left (by simp[In.cells];omega)];simp
 | x :: r,k+1,j,h,hj=>by
   show (x.cells.toList++Q2a r)[(k+1)*5+j]?=_;rw[List.getElem?_append_right (by simp[In.cells];omega)];have e:(k+1)*5+j - x.cells.toList.length=k*5+j:=by simp[In.cells];omega
   rw[e,Q4u r k j Y5 hj];simp
theorem Q2b {w:World}{B e:Nat}{v:Value}{l:List In}(h:w.ownsRow B e 5 v l.length (Q2a l))(hl:0<l.length) :
 ∃ g cap,v=.slice (some ⟨g,0,none⟩) l.length cap∧B≤g∧g<w.heap.size∧l.length≤cap∧Q14 w g l∧∀ j,w.frozen? ⟨g,j,none⟩=false:=by
 obtain⟨g,cap,hv,hB,hg,hc,_,hcell,hf⟩:=Q1h h hl;refine⟨g,cap,hv,hB,hg,hc,fun k hk=>?_,hf⟩;have key:∀ j u,j<5→l[k].cells.toList[j]?=some u→w.cell? ⟨g,k*5+j,none⟩=some u:=fun j u hj hu=>hcell _ _ (by rw[Q4u l k j hk hj];exact hu)
 exact⟨key 0 _ Y1 rfl,key 1 _ Y1 rfl,key 2 _ Y1 rfl,key 3 _ Y1 rfl,key 4 _ Y1 rfl⟩
namespace Co
def decL (f:Nat→BitVec 8)(m:Nat):List In:=(List.range m).map fun k=>takeOf fun j=>f (8*k+j)
theorem decL_succ (f:Nat→BitVec 8)(m:Nat):decL f (m+1)=decL f m++[takeOf fun j=>f (8*m+j)]:=by unfold decL;rw[List.range_succ,List.map_append];rfl
theorem decL_length (f:Nat→BitVec 8)(m:Nat):(decL f m).length=m:=by simp[decL]
end Co
end Hk
namespace Hk
structure Df where
 hash:Bool
 key:Int
 val:Int
 max:Int
namespace Co
def keyB (d:Df):Bool:=if d.hash then decide (1≤d.key) && decide (d.key≤16) else d.key==4
def mayB (d:Df):Bool:=keyB d && decide (8≤d.val) && decide (d.val≤64) && (d.val.tmod 8==0) && decide (1≤d.max) && decide (d.max≤16)
def defsB (ds:List Df):Bool:=decide (ds.length≤8) && ds.all mayB
def givenB (ds:List Df)(ctx:Int):Bool:=defsB ds && decide (0≤ctx) && decide (ctx≤64)
def idxD (ds:List Df):Int:=match (List.range ds.length).find? (fun k=>!mayB (ds.getD k ⟨false,0,0,0⟩)) with|some k=>(k:Nat)|none=>-1
theorem idxD_none {ds:List Df}(h:∀ k,k<ds.length→mayB (ds.getD k ⟨false,0,0,0⟩)=true):idxD ds = -1∧ds.all mayB=true:=by
 constructor
 · unfold idxD
   rw[List.find?_eq_none.2 (fun k hk=>by rw[h k (List.mem_range.1 hk)];simp)]
 · rw[List.all_eq_true]
   intro d hd;obtain⟨k,hk,rfl⟩:=List.getElem_of_mem hd;have:=h k hk
   rwa [List.getD_eq_getElem?_getD,List.getElem?_eq_getElem hk] at this
theorem idxD_some {ds:List Df}{k:Nat}(hk:k<ds.length)(h:∀ j,j<k→mayB (ds.getD j ⟨false,0,0,0⟩)=true)(hm:mayB (ds.getD k ⟨false,0,0,0⟩)=false):idxD ds=k∧ds.all mayB=false:=by
 constructor
 · unfold idxD
   rw[List.find?_range_eq_some.2 ⟨by rw[hm];rfl,List.mem_range.2 hk,fun j hj=>by rw[h j hj];rfl⟩]
 · rw[List.all_eq_false]
   refine⟨ds[k],List.getElem_mem hk,?_⟩;rw[List.getD_eq_getElem?_getD,List.getElem?_eq_getElem hk] at hm;simpa using hm
theorem idxD_all (ds:List Df):decide (0≤idxD ds) = !ds.all mayB:=by
 by_cases h:∀ k,k<ds.length→mayB (ds.getD k ⟨false,0,0,0⟩)=true
 · rw[(idxD_none h).1,(idxD_none h).2];rfl
 · have hex:∃ k,k<ds.length∧mayB (ds.getD k ⟨false,0,0,0⟩)=false:=by
    apply Classical.byContradiction;intro hn
    exact h fun k hk=>by
     cases hq:mayB (ds.getD k ⟨false,0,0,0⟩) with
     | true=>rfl
     | false=>exact absurd ⟨k,hk,hq⟩ hn
   cases hf:(List.range ds.length).find? (fun k=>!mayB (ds.getD k ⟨false,0,0,0⟩)) with
   | none =>
     obtain⟨k,hk,hq⟩:=hex;have:=List.find?_eq_none.1 hf k (List.mem_range.2 hk);rw[hq] at this;simp at this
   | some k =>
     have h2:=List.find?_range_eq_some.1 hf;have h3:=idxD_some (List.mem_range.1 h2.2.1) (fun j hj=>by have:=h2.2.2 j hj;simpa using this) (by simpa using h2.1);rw[h3.1,h3.2];simp
end Co
def Q1s (w:World)(p:Option Addr)(ds:List Df):Prop:=∀ k (h:k<ds.length),∃ b o,p=some ⟨b,o,none⟩∧w.cell? ⟨b,o+k*4,none⟩=some (.bool ds[k].hash)∧w.cell? ⟨b,o+k*4+1,none⟩=some (.int .i64 ds[k].key) ∧
 w.cell? ⟨b,o+k*4+2,none⟩=some (.int .i64 ds[k].val)∧w.cell? ⟨b,o+k*4+3,none⟩=some (.int .i64 ds[k].max)
theorem Q1s.keep {w w1:World}{p:Option Addr}{ds:List Df}(h:Q1s w p ds)(hb:Below w.heap.size w w1):Q1s w1 p ds:=fun k hk=>by
 obtain⟨b,o,e,h0,h1,h2,h3⟩:=h k hk;exact⟨b,o,e,Q0 hb h0,Q0 hb h1,Q0 hb h2,Q0 hb h3⟩
end Hk
namespace Hk
structure Sx where
 b:Nat
 c:Nat
 l:List In
 p:Option Addr
 dc:Nat
 ds:List Df
 ctx:Int
 at_:Nat
 x:In
 w:Wh
 s:St
namespace Sx
def cell (X:Sx)(k:Nat):Value :=
 if 15≤k then X.s.cell (k - 15) else
 match k with
 | 0=>.slice (some ⟨X.b,0,none⟩) X.l.length X.c
 | 1=>.slice X.p X.ds.length X.dc
 | 2=>.int .i64 X.ctx
 | 3=>.int .i64 X.at_
 | 4=>.int .u8 (N8 X.x.op)
 | 5=>.int .u8 (N8 X.x.dst)
 | 6=>.int .u8 (N8 X.x.src)
 | 7=>.int .i16 (I16 X.x.off)
 | 8=>.int .i32 (I32 X.x.imm)
 | 9=>.int .u8 X.w.kind
 | 10=>.int .u8 (N8 X.w.op)
 | 11=>.bool X.w.wide
 | 12=>.bool X.w.reg
 | 13=>.bool X.w.signed
 | _=>.int .i64 X.w.size
def cells (X:Sx):Array Value:=Q26 604 X.cell
theorem cells_size (X:Sx):X.cells.size=604:=Qr ..
theorem cells_get (X:Sx){k:Nat}(h:k<604):X.cells[k]?=some (X.cell k):=by unfold cells;rw[Qj,if_pos h]
theorem cells_st (X:Sx):X.cells.extract 15 604=X.s.cells:=by
 have:=Q1c 604 X.cell 15 589 Y1;unfold cells St.cells;rw[show 604=15+589 from rfl,this];exact Qx fun k _=>by unfold cell;rw[if_pos Y1,show 15+k - 15=k from Y1]
theorem cells_val (X:Sx){i:Nat}(hi:i<11):X.cells.extract (15+i*7) (15+i*7+7)=St.vals (X.s.r i):=by
 unfold cells;rw[Q1c _ _ _ _ Y1,← St.vals_row];exact Qx fun k hk=>by unfold cell;rw[if_pos Y1,show 15+i*7+k - 15=i*7+k from Y1];exact X.s.cell_reg hi hk
end Sx
structure Q1e (w:World) (g:Nat) (X:Sx):Prop where
 blk:blk w g=X.cells
 ins:Q14 w X.b X.l
 defs:Q1s w X.p X.ds
theorem Q1e.lt {w:World}{g:Nat}{X:Sx}(h:Q1e w g X):g<w.heap.size:=Q1o (by rw[h.blk,X.cells_size];omega)
theorem Q1e.keep {w w1:World}{g:Nat}{X:Sx}(h:Q1e w g X)(hb:Below w.heap.size w w1):Q1e w1 g X :=
 ⟨Q12 hb h.blk (by rw[X.cells_size];omega),h.ins.keep hb,h.defs.keep hb⟩
theorem Q1e.get {w:World}{g:Nat}{X:Sx}(h:Q1e w g X){k:Nat}(hk:k<604):w.cell? ⟨g,k,none⟩=some (X.cell k):=by rw[Q1b,h.blk,X.cells_get hk]
theorem Q1e.cells {w:World}{g:Nat}{X:Sx}(h:Q1e w g X):w.cell? ⟨g,0,none⟩=some (.slice (some ⟨X.b,0,none⟩) X.l.length X.c)∧w.cell? ⟨g,1,none⟩=some (.slice X.p X.ds.length X.dc)∧w.cell? ⟨g,2,none⟩=some (.int .i64 X.ctx)∧w.cell? ⟨g,3,none⟩=some (.int .i64 X.at_) ∧
 w.cell? ⟨g,4,none⟩=some (.int .u8 (N8 X.x.op))∧w.cell? ⟨g,5,none⟩=some (.int .u8 (N8 X.x.dst))∧w.cell? ⟨g,6,none⟩=some (.int .u8 (N8 X.x.src))∧w.cell? ⟨g,7,none⟩=some (.int .i16 (I16 X.x.off))∧w.cell? ⟨g,8,none⟩=some (.int .i32 (I32 X.x.imm)) ∧
 w.cell? ⟨g,9,none⟩=some (.int .u8 X.w.kind)∧w.cell? ⟨g,10,none⟩=some (.int .u8 (N8 X.w.op))∧w.cell? ⟨g,11,none⟩=some (.bool X.w.wide)∧w.cell? ⟨g,12,none⟩=some (.bool X.w.reg)∧w.cell? ⟨g,13,none⟩=some (.bool X.w.signed)∧w.cell? ⟨g,14,none⟩=some (.int .i64 X.w.size) :=
 ⟨h.get Y1,h.get Y1,h.get Y1,h.get Y1,h.get Y1,h.get Y1,h.get Y1,h.get Y1,h.get Y1,h.get Y1,h.get Y1,h.get Y1,h.get Y1,h.get Y1,h.get Y1⟩
theorem Q1e.reg {w:World}{g:Nat}{X:Sx}(h:Q1e w g X){i j:Nat}(hi:i<11)(hj:j<7):w.cell? ⟨g,15+i*7+j,none⟩=some ((X.s.r i).cell j):=by
 rw[h.get Y1];unfold Sx.cell;rw[if_pos Y1,show 15+i*7+j - 15=i*7+j from Y1,X.s.cell_reg hi hj]
theorem Q1e.regs {w:World}{g:Nat}{X:Sx}(h:Q1e w g X){i:Nat}(hi:i<11):w.cell? ⟨g,15+i*7,none⟩=some (.int .u8 (X.s.r i).k)∧w.cell? ⟨g,15+i*7+1,none⟩=some (.int .u64 (N (X.s.r i).f.t.v))∧w.cell? ⟨g,15+i*7+2,none⟩=some (.int .u64 (N (X.s.r i).f.t.m)) ∧
 w.cell? ⟨g,15+i*7+3,none⟩=some (.int .u64 (N (X.s.r i).f.s.lo))∧w.cell? ⟨g,15+i*7+4,none⟩=some (.int .u64 (N (X.s.r i).f.s.hi))∧w.cell? ⟨g,15+i*7+5,none⟩=some (.int .i64 (X.s.r i).i)∧w.cell? ⟨g,15+i*7+6,none⟩=some (.int .i64 (X.s.r i).off) :=
 ⟨h.reg (j:=0) hi Y1,h.reg (j:=1) hi Y1,h.reg (j:=2) hi Y1,h.reg (j:=3) hi Y1,h.reg (j:=4) hi Y1,h.reg (j:=5) hi Y1,h.reg (j:=6) hi Y1⟩
section
variable {P : Program}
theorem Q75 (w:World)(ty:TypeId)(g:Nat)(X:Sx)(hagg:(isAgg ty).run P w=.ok true w)(hn:(Go.sizeOf ty).run P w=.ok 589 w)(h:blk w g=X.cells):(loadVar ty ⟨g,15,none⟩).run P w=.ok (.agg X.s.cells) w:=by
 have:=Qu w ty g 15 589 hagg hn (by rw[h,X.cells_size];omega);rw[this,h,show 15+589=604 from rfl,X.cells_st]
end
end Hk
namespace Hk
namespace Co
def knownV (n:BitVec 64):Vl:=Vl.num (Fa.of n)
def belowF (m:BitVec 64):Fa:=(Fa.settle ⟨Fa.any.t,⟨0#64,m⟩⟩).getD Fa.zero
def belowV (m:BitVec 64):Vl:=Vl.num (belowF m)
def sizedM (n:Int):BitVec 64:=(1#64 <<< (8*n).toNat) - 1#64
def sizedV (n:Int):Vl:=belowV (sizedM n)
def exitE (v:Vl):Int:=if v.k==0 then 110 else if v.k==1 then 0 else 140
def movN (sub:Bool)(n:BitVec 64):BitVec 64:=if sub then -n else n
def movedB2 (sub:Bool)(a b:Vl):Bool:=(Fa.known b.f).isSome && b.k==1 && Vl.moveOk a (movN sub ((Fa.known b.f).getD 0#64))
def movedV (sub:Bool)(a b:Vl):Vl:=if movedB2 sub a b then Vl.move a (movN sub ((Fa.known b.f).getD 0#64)) else Vl.zero
def movedE (sub:Bool)(a b:Vl):Int:=if movedB2 sub a b then 0 else 140
def boundE (o most size:Int):Int:=if decide (o<0) || decide (most - size<o) then 80 else 0
def insideE (ds:List Df)(ctx:Int)(v:Vl)(off size:Int):Int :=
 if v.k==5 then (if decide ((ds.length:Int)≤v.i) then 80 else boundE (v.off+off) (ds.getD v.i.toNat ⟨false,0,0,0⟩).val size) else boundE (v.off+off) ctx size
end Co
end Hk
namespace Hk
namespace Co
def readE (s:St)(ds:List Df)(ctx:Int)(v:Vl)(n:Int):Int :=
 if v.k==0 then 110 else if !Vl.ptr v then 140 else if !(v.k==3) then insideE ds ctx v 0 n else if decide (v.off<0) || decide (512 - n<v.off) then 80 else if s.full v.off n then 0 else 81
end Co
namespace Co
def toldE (s:St)(ds:List Df)(ctx k:Int)(v:Vl)(y:Df):Int :=
 if v.k==0 then 110 else if k==2 then readE s ds ctx v y.key else if k==3 then readE s ds ctx v y.val else if (k==4) && !(v.k==1) then 140 else 0
end Co
namespace Co
def gotE (s:St)(ds:List Df)(ctx:Int)(v:Vl)(off n:Int):Int :=
 if !Vl.ptr v then 140 else if v.k==3 then s.getE (v.off+off) n else insideE ds ctx v off n
def gotV (s:St)(ds:List Df)(ctx:Int)(v:Vl)(off n:Int):Vl :=
 if !Vl.ptr v then Vl.zero else if v.k==3 then s.get (v.off+off) n else if insideE ds ctx v off n != 0 then Vl.zero else sizedV n
end Co
end Hk
namespace Hk
theorem Q9h {w:World}{b:Nat}{l:List In}(h:Q14 w b l)(j:Nat)(u:Value)(hu:(Q2a l)[j]?=some u):w.cell? ⟨b,j,none⟩=some u:=by
 have hlt:j<l.length*5:=Yeu;have hk:j / 5<l.length:=Y1;have hr:j % 5<5:=Nat.mod_lt _ Y0;have e:j=j / 5*5+j % 5:=Y1;rw[e] at hu ⊢;rw[Q4u l (j / 5) (j % 5) hk hr] at hu;obtain⟨h0,h1,h2,h3,h4⟩:=h (j / 5) hk;generalize j % 5=r at *
 match r,hr with
 | 0,_=>simp[In.cells] at hu;rw[← hu];exact h0
 | 1,_=>simp[In.cells] at hu;rw[← hu];exact h1
 | 2,_=>simp[In.cells] at hu;rw[← hu];exact h2
 | 3,_=>simp[In.cells] at hu;rw[← hu];exact h3
 | 4,_=>simp[In.cells] at hu;rw[← hu];exact h4
theorem Q84 (l:List In):∀ u∈Q2a l,u.oneCell'=true:=by
 intro u hu;unfold Q2a at hu;obtain⟨x,_,hx⟩:=List.mem_flatMap.1 hu;simp[In.cells] at hx;rcases hx with rfl|rfl|rfl|rfl|rfl<;>rfl
def Co.sameL (l m:List In):Bool:=decide (l.length=m.length) && (List.range l.length).all fun j=>In.eqB (l.getD j In.zero) (m.getD j In.zero)
end Hk
namespace Hk
structure Ed where
 kind:BitVec 8
 x:In
 tw:Int
def Ed.none:Ed:=⟨0#8,In.zero,0⟩
def Q3z (w:World)(b:Nat)(e:List Ed):Prop:=∀ k (h:k<e.length),w.cell? ⟨b,k*7,none⟩=some (.int .u8 (N8 e[k].kind))∧w.cell? ⟨b,k*7+1,none⟩=some (.int .u8 (N8 e[k].x.op))∧w.cell? ⟨b,k*7+2,none⟩=some (.int .u8 (N8 e[k].x.dst)) ∧
 w.cell? ⟨b,k*7+3,none⟩=some (.int .u8 (N8 e[k].x.src))∧w.cell? ⟨b,k*7+4,none⟩=some (.int .i16 (I16 e[k].x.off))∧w.cell? ⟨b,k*7+5,none⟩=some (.int .i32 (I32 e[k].x.imm))∧w.cell? ⟨b,k*7+6,none⟩=some (.int .i64 e[k].tw)
theorem Q3z.keep {w w1:World}{b:Nat}{e:List Ed}(h:Q3z w b e)(hb:Below w.heap.size w w1):Q3z w1 b e:=fun k hk=>by
 obtain⟨h0,h1,h2,h3,h4,h5,h6⟩:=h k hk;exact⟨Q0 hb h0,Q0 hb h1,Q0 hb h2,Q0 hb h3,Q0 hb h4,Q0 hb h5,Q0 hb h6⟩
namespace Co
def edit (e:List Ed)(k:Nat):Ed:=let d:=e.getD k Ed.none;if decide (k<e.length) && decide (d.kind≤2#8) then d else Ed.none
def becX (l:List In)(e:List Ed)(k:Nat):List In :=
 let d:=edit e k
 if d.kind==1#8 then [] else if d.kind==2#8 then [d.x] else (l.drop k).take (nextK l k - k)
def becT (l:List In)(e:List Ed)(k:Nat):Int :=
 let d:=edit e k
 if d.kind==1#8 then 0 else if d.kind==2#8 then d.tw else target l k
def placeN (l:List In)(e:List Ed):Nat→Nat
 | 0=>0
 | k+1=>placeN l e k+if start l k then (becX l e k).length else 0
end Co
end Hk
namespace Hk
def Q3x (w:World)(g o:Nat)(cs:List Value):Prop:=∀ j u,cs[j]?=some u→w.cell? ⟨g,o+j,none⟩=some u
theorem Q3x.keep {w w1:World}{g o:Nat}{cs:List Value}(h:Q3x w g o cs)(hb:Below w.heap.size w w1):Q3x w1 g o cs:=fun j u hu=>Q0 hb (h j u hu)
theorem Q3x.of_ins {w:World}{b:Nat}{l:List In}(h:Q14 w b l)(k n:Nat):Q3x w b (k*5) (Q2a ((l.drop k).take n)):=fun j u hu=>by
 have hlt:j<((l.drop k).take n).length*5:=Yeu;have hk:j / 5<((l.drop k).take n).length:=Y1;have hr:j % 5<5:=Nat.mod_lt _ Y0;have e:j=j / 5*5+j % 5:=Y1;rw[e,Q4u _ (j / 5) (j % 5) hk hr] at hu;have hk2:k+j / 5<l.length:=by simp only[List.length_take,List.length_drop] at hk;omega
 have hx:((l.drop k).take n)[j / 5]=l[k+j / 5]:=by simp
 rw[hx] at hu;have:=Q9h h ((k+j / 5)*5+j % 5) u (by rw[Q4u l _ _ hk2 hr];exact hu)
 rwa [show (k+j / 5)*5+j % 5=k*5+j from Y1] at this
namespace Co
theorem Q6e {l:List In}(hg:good l=true){k:Nat}(hs:start l k=true):whole l k=true:=by
 have:=(good_facts hg).2.1 k (start_lt hs);unfold bad1 at this;rw[hs] at this;simpa using this
theorem next_le {l:List In}(hg:good l=true){k:Nat}(hs:start l k=true):nextK l k≤l.length:=by
 have hk:=start_lt hs;have hw:=Q6e hg hs;unfold whole at hw;simp only[Bool.and_eq_true,Bool.or_eq_true,Bool.not_eq_true',decide_eq_true_eq] at hw;unfold nextK;rcases hw.2 with h|⟨h,_⟩
 · rw[h];simp;omega
 · split<;>omega
theorem start_what {l:List In}(hg:good l=true){k:Nat}(hs:start l k=true):whatB (l.getD k In.zero)=true:=by
 have hw:=Q6e hg hs;unfold whole at hw;simp only[Bool.and_eq_true] at hw;exact hw.1
theorem hop_target {l:List In}(hg:good l=true){k:Nat}(hs:start l k=true)(ht:toB l k=true):targetB l k=true∧start l (target l k)=true:=by
 have:=(good_facts hg).2.2.1 k (start_lt hs);unfold bad2 at this;rw[hs,ht] at this;simp only[Bool.true_and,Bool.or_eq_false_iff,Bool.not_eq_false'] at this;have hb:targetB l k=true:=by unfold targetB;rw[ht,this.1];rfl
 refine⟨hb,?_⟩;unfold target;rw[hb];exact this.2
theorem becX_drop {l:List In}{e:List Ed}{k:Nat}(h:((edit e k).kind==1#8)=true):becX l e k=[]∧becT l e k=0:=by
 unfold becX becT;simp[h]
theorem becX_other {l:List In}{e:List Ed}{k:Nat}(h:((edit e k).kind==1#8)=false)(h2:((edit e k).kind==2#8)=true):becX l e k=[(edit e k).x]∧becT l e k=(edit e k).tw:=by
 unfold becX becT;simp[h,h2]
theorem becX_keep {l:List In}{e:List Ed}{k:Nat}(h:((edit e k).kind==1#8)=false)(h2:((edit e k).kind==2#8)=false):becX l e k=(l.drop k).take (nextK l k - k)∧becT l e k=target l k:=by
 unfold becX becT;simp[h,h2]
theorem keep_length {l:List In}(hg:good l=true){k:Nat}(hs:start l k=true):((l.drop k).take (nextK l k - k)).length=nextK l k - k:=by
 have:=next_le hg hs;simp;omega
theorem becX_le {l:List In}(hg:good l=true){e:List Ed}{k:Nat}(hs:start l k=true):(becX l e k).length≤2:=by
 cases h:(edit e k).kind==1#8 with
 | true=>rw[(becX_drop h).1];simp
 | false=>cases h2:(edit e k).kind==2#8 with
   | true=>rw[(becX_other h h2).1];simp
   | false=>rw[(becX_keep h h2).1,keep_length hg hs];have:=nextK_le l k;omega
theorem becX_pos {l:List In}(hg:good l=true){e:List Ed}{k:Nat}(hs:start l k=true)(h:((edit e k).kind==1#8)=false):0<(becX l e k).length:=by
 cases h2:(edit e k).kind==2#8 with
 | true=>rw[(becX_other h h2).1];simp
 | false=>rw[(becX_keep h h2).1,keep_length hg hs];have:=nextK_gt l k;omega
theorem placeN_le {l:List In}(hg:good l=true)(e:List Ed):∀ k,placeN l e k≤2*k
 | 0=>Nat.le_refl _
 | k+1=>by
   have:=placeN_le hg e k;unfold placeN;cases hs:start l k with
   | true=>have:=becX_le hg (e:=e) hs;simp only[if_true];omega
   | false=>simp;omega
end Co
end Hk
namespace Hk
theorem Qfy {P:Program}{t e:TypeId}{sz by_:Nat}{zc:Array Value}(ht:P.underlying t=some (.slice e))(hi:(P.info? e).map (fun i=>(i.size,i.bytes,i.zero.map Value.cells))=some (sz,by_,some zc))(n:Nat)(hn:n≤1000000)(hb:by_≤100000) :
 ∀ w:World,(Instr.makeSlice t (.int .i64 (n:Int)) (.int .i64 (n:Int))).run P w=.ok (.slice (some ⟨w.heap.size,0,none⟩) n n) (w.alloc (.cells (madeCells zc (n*sz)) e)):=fun w=>by
 obtain⟨i,hi',he⟩:=Option.map_eq_some_iff.1 hi;simp only[Prod.mk.injEq] at he;obtain⟨e1,e2,e3⟩:=he;obtain⟨z,hz,e4⟩:=Option.map_eq_some_iff.1 e3
 have hlt:i.bytes*n≤281474976710656:=by
  have h1:i.bytes*n≤100000*1000000:=Nat.mul_le_mul Y1 hn;omega
 have:=run_make (P:=P) w t e i z ht hi' hz .i64 .i64 n n Y1 Y1 (by rw[← Int.natCast_mul];omega) Y1;simp only[Int.toNat_natCast] at this;rw[this,e4,e1]
theorem Qr4 (z:Array Value)(n j:Nat):(madeCells z n)[j]?=if j<n then some (z[j % z.size]!) else none:=by
 unfold madeCells;by_cases h:j<n
 · simp[h]
 · simp[h]
theorem Q3t {w:World}{z:Array Value}{n j:Nat}{e:TypeId}(h:j<n):(w.alloc (.cells (madeCells z n) e)).cell? ⟨w.heap.size,j,none⟩=some (z[j % z.size]!):=by
 unfold World.cell?;rw[heap_alloc_new];simp only[Option.isSome_none,Bool.false_eq_true,if_false];rw[Qr4,if_pos h]
theorem Q2u {w:World}{z:Array Value}{n:Nat}{e:TypeId}(j:Nat):(w.alloc (.cells (madeCells z n) e)).frozen? ⟨w.heap.size,j,none⟩=false:=by
 unfold World.frozen?;rw[heap_alloc_new];simp
end Hk
namespace Hk
namespace Co
def kindAt (l:List In)(k:Nat):Int:=(what (l.getD k In.zero)).kind
theorem kindAt_hop {l:List In}{k:Nat}:toB l k=((kindAt l k==9) || (kindAt l k==10)):=rfl
def follow (l:List In):Nat→Nat→Nat
 | 0,k=>k
 | f+1,k=>if kindAt l k==9 then follow l f (target l k) else k
theorem follow_stop {l:List In}{k:Nat}(h:(kindAt l k==9)=false):∀ f,follow l f k=k
 | 0=>rfl
 | f+1=>by unfold follow;rw[h];rfl
theorem follow_step {l:List In}{k:Nat}(h:(kindAt l k==9)=true)(f:Nat):follow l (f+1) k=follow l f (target l k):=by
 show (if kindAt l k==9 then _ else _)=_;rw[h];rfl
theorem jump_target {l:List In}(hg:good l=true){k:Nat}(hs:start l k=true)(h:(kindAt l k==9)=true):start l (target l k)=true :=
 (hop_target hg hs (by rw[kindAt_hop,h];rfl)).2
theorem follow_start {l:List In}(hg:good l=true):∀ (f k:Nat),start l k=true→start l (follow l f k)=true
 | 0,k,hs=>hs
 | f+1,k,hs=>by
   cases h:kindAt l k==9 with
   | true=>rw[follow_step h];exact follow_start hg f _ (jump_target hg hs h)
   | false=>rw[follow_stop h];exact hs
theorem Qdq {l:List In}{k:Nat}(hs:start l k=true):∀ n,k<n→(∀ j,k<j→j<n→start l j=false)→endOf l n=k
 | 0,h,_=>by omega
 | n+1,h,hn=>by
   unfold endOf;by_cases e:n=k
   · subst e;rw[if_pos hs]
   · rw[if_neg (by rw[hn n Y1 Y1];simp)]
     exact Qdq hs n Y1 fun j h1 h2=>hn j h1 Y1
theorem next_lt {l:List In}(hg:good l=true){k:Nat}(hs:start l k=true)(h9:(kindAt l k==9)=false)(h12:(kindAt l k==12)=false):nextK l k<l.length∧start l (nextK l k)=true:=by
 have hle:=next_le hg hs;have hk:=start_lt hs;by_cases e:nextK l k<l.length
 · exact⟨e,Q41 hs e⟩
 · have hend:endOf l l.length=k:=Qdq hs l.length hk (fun j h1 h2=>by
    cases hj:start l j with
    | false=>rfl
    | true =>
      exfalso
      have hm:metAll l k j=true:=by
       have key:∀ f m,l.length - m≤f→m≤k→metAll l m k=true→metAll l m j=true→metAll l k j=true:=by
        intro f
        induction f with
        | zero=>intro m hm1 hm2;omega
        | succ f ih =>
          intro m hf hmk h1' h2';by_cases hmk':m=k
          · subst hmk';exact h2'
          · rw[Q1l Y1] at h1' h2'
            have e1:(m==k)=false:=by simp;exact hmk'
            have e2:(m==j)=false:=Y4;rw[e1,Bool.false_or] at h1';rw[e2,Bool.false_or] at h2';have hgt:=nextK_gt l m;by_cases hmk2:nextK l m≤k
            · exact ih (nextK l m) Y1 hmk2 h1' h2'
            · rw[Q6p l.length _ _ Y1 Y1] at h1';cases h1'
       exact key l.length 0 Y1 Y1 hs hj
      rw[Q1l hk] at hm;have e1:(k==j)=false:=Y4
      rw[e1,Bool.false_or,metAll_end Y1] at hm;cases hm)
   have hst:=(good_facts hg).2.2.2.1;rw[hend] at hst;unfold stops at hst;have a1:((what (l.getD k In.zero)).kind==9)=false:=h9;have a2:((what (l.getD k In.zero)).kind==12)=false:=h12;rw[a1,a2] at hst;cases hst
def exitX:In:=⟨149#8,0#8,0#8,0#16,0#32⟩
def jumpX:In:=⟨5#8,0#8,0#8,0#16,0#32⟩
def hopJ (l:List In)(i t:Nat):Ed :=
 let f:=follow l l.length t
 if f==nextK l i then ⟨1#8,In.zero,0⟩ else if kindAt l f==12 then ⟨2#8,exitX,0⟩ else if f != t then ⟨2#8,jumpX,f⟩ else Ed.none
def hopR (l:List In)(i t:Nat):Ed :=
 let f:=follow l l.length t
 if f==follow l l.length (nextK l i) then ⟨1#8,In.zero,0⟩ else if f != t then ⟨2#8,l.getD i In.zero,f⟩ else Ed.none
def hopEd (l:List In)(i:Nat):Ed:=if start l i then (if kindAt l i==9 then hopJ l i (target l i) else if kindAt l i==10 then hopR l i (target l i) else Ed.none) else Ed.none
def hopEds (l:List In):List Ed:=(List.range l.length).map (hopEd l)
end Co
def Q44 (w:World)(b n:Nat)(f:Nat→Ed):Prop:=(∀ k,k<n→w.cell? ⟨b,k*7,none⟩=some (.int .u8 (N8 (f k).kind))∧w.cell? ⟨b,k*7+1,none⟩=some (.int .u8 (N8 (f k).x.op))∧w.cell? ⟨b,k*7+2,none⟩=some (.int .u8 (N8 (f k).x.dst)) ∧
 w.cell? ⟨b,k*7+3,none⟩=some (.int .u8 (N8 (f k).x.src))∧w.cell? ⟨b,k*7+4,none⟩=some (.int .i16 (I16 (f k).x.off))∧w.cell? ⟨b,k*7+5,none⟩=some (.int .i32 (I32 (f k).x.imm))∧w.cell? ⟨b,k*7+6,none⟩=some (.int .i64 (f k).tw))∧∀ j,w.frozen? ⟨b,j,none⟩=false
theorem Q44.keep {w w1:World}{b n:Nat}{f:Nat→Ed}(h:Q44 w b n f)(hg:b<w.heap.size)(hb:Below w.heap.size w w1):Q44 w1 b n f :=
 ⟨fun k hk=>by
  obtain⟨h0,h1,h2,h3,h4,h5,h6⟩:=h.1 k hk
  exact⟨Q0 hb h0,Q0 hb h1,Q0 hb h2,Q0 hb h3,Q0 hb h4,Q0 hb h5,Q0 hb h6⟩,fun j=>by rw[hb.frozen (p:=⟨b,j,none⟩) hg];exact h.2 j⟩
theorem Q44.eds {w:World}{b:Nat}{n:Nat}{f:Nat→Ed}(h:Q44 w b n f):Q3z w b ((List.range n).map f):=fun k hk=>by
 have hk':k<n:=Y6;simpa using h.1 k hk'
theorem Q44.congr {w:World}{b n:Nat}{f g:Nat→Ed}(h:Q44 w b n f)(e:∀ k,k<n→f k=g k):Q44 w b n g:=⟨fun k hk=>by rw[← e k hk];exact h.1 k hk,h.2⟩
def setEd (w:World)(b o:Nat)(y:Ed):World:=((((((w.setCell ⟨b,o,none⟩ (.int .u8 (N8 y.kind))).setCell ⟨b,o+1,none⟩ (.int .u8 (N8 y.x.op))).setCell ⟨b,o+2,none⟩ (.int .u8 (N8 y.x.dst))).setCell ⟨b,o+3,none⟩ (.int .u8 (N8 y.x.src))).setCell ⟨b,o+4,none⟩ (.int .i16 (I16 y.x.off))).setCell ⟨b,o+5,none⟩ (.int .i32 (I32 y.x.imm))).setCell ⟨b,o+6,none⟩ (.int .i64 y.tw)
theorem Q44.set {w:World}{b n:Nat}{f:Nat→Ed}{k:Nat}(h:Q44 w b n f)(hk:k<n)(y:Ed):Q44 (setEd w b (k*7) y) b n (fun j=>if j=k then y else f j):=by
 obtain⟨h0,h1,h2,h3,h4,h5,h6⟩:=h.1 k hk;have s0:=fun q=>Q11 (w:=w) (g:=b) (k:=k*7) (j:=q) (v:=.int .u8 (N8 y.kind)) h0
 have k1:(w.setCell ⟨b,k*7,none⟩ (.int .u8 (N8 y.kind))).cell? ⟨b,k*7+1,none⟩=some (.int .u8 (N8 (f k).x.op)):=by rw[s0,if_neg Y1];exact h1
 have s1:=fun q=>Q11 (w:=(w.setCell ⟨b,k*7,none⟩ (.int .u8 (N8 y.kind)))) (g:=b) (k:=k*7+1) (j:=q) (v:=.int .u8 (N8 y.x.op)) k1
 have k2:((w.setCell ⟨b,k*7,none⟩ (.int .u8 (N8 y.kind))).setCell ⟨b,k*7+1,none⟩ (.int .u8 (N8 y.x.op))).cell? ⟨b,k*7+2,none⟩=some (.int .u8 (N8 (f k).x.dst)):=by rw[s1,if_neg Y1,s0,if_neg Y1];exact h2
 have s2:=fun q=>Q11 (w:=((w.setCell ⟨b,k*7,none⟩ (.int .u8 (N8 y.kind))).setCell ⟨b,k*7+1,none⟩ (.int .u8 (N8 y.x.op)))) (g:=b) (k:=k*7+2) (j:=q) (v:=.int .u8 (N8 y.x.dst)) k2
 have k3:(((w.setCell ⟨b,k*7,none⟩ (.int .u8 (N8 y.kind))).setCell ⟨b,k*7+1,none⟩ (.int .u8 (N8 y.x.op))).setCell ⟨b,k*7+2,none⟩ (.int .u8 (N8 y.x.dst))).cell? ⟨b,k*7+3,none⟩=some (.int .u8 (N8 (f k).x.src)):=by rw[s2,if_neg Y1,s1,if_neg Y1,s0,if_neg Y1];exact h3
 have s3:=fun q=>Q11 (w:=(((w.setCell ⟨b,k*7,none⟩ (.int .u8 (N8 y.kind))).setCell ⟨b,k*7+1,none⟩ (.int .u8 (N8 y.x.op))).setCell ⟨b,k*7+2,none⟩ (.int .u8 (N8 y.x.dst)))) (g:=b) (k:=k*7+3) (j:=q) (v:=.int .u8 (N8 y.x.src)) k3
 have k4:((((w.setCell ⟨b,k*7,none⟩ (.int .u8 (N8 y.kind))).setCell ⟨b,k*7+1,none⟩ (.int .u8 (N8 y.x.op))).setCell ⟨b,k*7+2,none⟩ (.int .u8 (N8 y.x.dst))).setCell ⟨b,k*7+3,none⟩ (.int .u8 (N8 y.x.src))).cell? ⟨b,k*7+4,none⟩=some (.int .i16 (I16 (f k).x.off)):=by rw[s3,if_neg Y1,s2,if_neg Y1,s1,if_neg Y1,s0,if_neg Y1];exact h4
 have s4:=fun q=>Q11 (w:=((((w.setCell ⟨b,k*7,none⟩ (.int .u8 (N8 y.kind))).setCell ⟨b,k*7+1,none⟩ (.int .u8 (N8 y.x.op))).setCell ⟨b,k*7+2,none⟩ (.int .u8 (N8 y.x.dst))).setCell ⟨b,k*7+3,none⟩ (.int .u8 (N8 y.x.src)))) (g:=b) (k:=k*7+4) (j:=q) (v:=.int .i16 (I16 y.x.off)) k4
 have k5:(((((w.setCell ⟨b,k*7,none⟩ (.int .u8 (N8 y.kind))).setCell ⟨b,k*7+1,none⟩ (.int .u8 (N8 y.x.op))).setCell ⟨b,k*7+2,none⟩ (.int .u8 (N8 y.x.dst))).setCell ⟨b,k*7+3,none⟩ (.int .u8 (N8 y.x.src))).setCell ⟨b,k*7+4,none⟩ (.int .i16 (I16 y.x.off))).cell? ⟨b,k*7+5,none⟩=some (.int .i32 (I32 (f k).x.imm)):=by rw[s4,if_neg Y1,s3,if_neg Y1,s2,if_neg Y1,s1,if_neg Y1,s0,if_neg Y1];exact h5
 have s5:=fun q=>Q11 (w:=(((((w.setCell ⟨b,k*7,none⟩ (.int .u8 (N8 y.kind))).setCell ⟨b,k*7+1,none⟩ (.int .u8 (N8 y.x.op))).setCell ⟨b,k*7+2,none⟩ (.int .u8 (N8 y.x.dst))).setCell ⟨b,k*7+3,none⟩ (.int .u8 (N8 y.x.src))).setCell ⟨b,k*7+4,none⟩ (.int .i16 (I16 y.x.off)))) (g:=b) (k:=k*7+5) (j:=q) (v:=.int .i32 (I32 y.x.imm)) k5
 have k6:((((((w.setCell ⟨b,k*7,none⟩ (.int .u8 (N8 y.kind))).setCell ⟨b,k*7+1,none⟩ (.int .u8 (N8 y.x.op))).setCell ⟨b,k*7+2,none⟩ (.int .u8 (N8 y.x.dst))).setCell ⟨b,k*7+3,none⟩ (.int .u8 (N8 y.x.src))).setCell ⟨b,k*7+4,none⟩ (.int .i16 (I16 y.x.off))).setCell ⟨b,k*7+5,none⟩ (.int .i32 (I32 y.x.imm))).cell? ⟨b,k*7+6,none⟩=some (.int .i64 (f k).tw):=by rw[s5,if_neg Y1,s4,if_neg Y1,s3,if_neg Y1,s2,if_neg Y1,s1,if_neg Y1,s0,if_neg Y1];exact h6
 have s6:=fun q=>Q11 (w:=((((((w.setCell ⟨b,k*7,none⟩ (.int .u8 (N8 y.kind))).setCell ⟨b,k*7+1,none⟩ (.int .u8 (N8 y.x.op))).setCell ⟨b,k*7+2,none⟩ (.int .u8 (N8 y.x.dst))).setCell ⟨b,k*7+3,none⟩ (.int .u8 (N8 y.x.src))).setCell ⟨b,k*7+4,none⟩ (.int .i16 (I16 y.x.off))).setCell ⟨b,k*7+5,none⟩ (.int .i32 (I32 y.x.imm)))) (g:=b) (k:=k*7+6) (j:=q) (v:=.int .i64 y.tw) k6
 refine⟨fun j hj=>?_,fun j=>?_⟩
 · unfold setEd
   by_cases e:j=k
   · subst e
     simp only[s6,s5,s4,s3,s2,s1,s0,if_true];refine⟨?_,?_,?_,?_,?_,?_,?_⟩<;>(repeat (first|rw[if_pos Y1]|rw[if_neg Y1]))<;>trivial
   · obtain⟨g0,g1,g2,g3,g4,g5,g6⟩:=h.1 j hj
     simp only[s6,s5,s4,s3,s2,s1,s0,if_neg e];refine⟨?_,?_,?_,?_,?_,?_,?_⟩<;>(repeat rw[if_neg Y1])<;>assumption
 · unfold setEd
   simp only[World.frozen?_setCell];exact h.2 j
theorem Q44.made {w:World}{n:Nat}{e:TypeId}:Q44 (w.alloc (.cells (madeCells #[.int .u8 0,.int .u8 0,.int .u8 0,.int .u8 0,.int .i16 0,.int .i32 0,.int .i64 0] (n*7)) e)) w.heap.size n (fun _=>Ed.none):=by
 refine⟨fun k hk=>?_,fun j=>Q2u j⟩
 have key:∀ i,i<7→(w.alloc (.cells (madeCells #[.int .u8 0,.int .u8 0,.int .u8 0,.int .u8 0,.int .i16 0,.int .i32 0,.int .i64 0] (n*7)) e)).cell? ⟨w.heap.size,k*7+i,none⟩=some ((#[.int .u8 0,.int .u8 0,.int .u8 0,.int .u8 0,.int .i16 0,.int .i32 0,.int .i64 0]:Array Value)[i]!):=fun i hi=>by
  rw[Q3t Y1];have:(k*7+i) % 7=i:=Y1;show some ((#[_,_,_,_,_,_,_]:Array Value)[(k*7+i) % 7]!)=_;rw[this]
 exact⟨key 0 Y1,key 1 Y1,key 2 Y1,key 3 Y1,key 4 Y1,key 5 Y1,key 6 Y1⟩
def Co.upto (f:Nat→Ed)(k j:Nat):Ed:=if j<k then f j else Ed.none
theorem Q44.skip {w:World}{b n k:Nat}{f:Nat→Ed}(h:Q44 w b n (Co.upto f k))(e:f k=Ed.none):Q44 w b n (Co.upto f (k+1)):=h.congr fun j hj=>by
 unfold Co.upto;by_cases h1:j<k
 · rw[if_pos h1,if_pos Y1]
 · by_cases h2:j=k
   · subst h2;rw[if_neg h1,if_pos Y1,e]
   · rw[if_neg h1,if_neg Y1]
theorem Q44.put {w:World}{b n k:Nat}{f:Nat→Ed}(h:Q44 w b n (Co.upto f k))(hk:k<n)(y:Ed)(hy:f k=y):Q44 (setEd w b (k*7) y) b n (Co.upto f (k+1)):=(h.set hk y).congr fun j hj=>by
 unfold Co.upto;by_cases h2:j=k
 · subst h2;rw[if_pos rfl,if_pos Y1,hy]
 exact Yr6
theorem Q44.full {w:World}{b n:Nat}{f:Nat→Ed}(h:Q44 w b n (Co.upto f n)):Q3z w b ((List.range n).map f):=(h.congr (g:=f) fun j hj=>by unfold Co.upto;rw[if_pos hj]).eds
theorem Qfh {w:World}{b o g j:Nat}(y:Ed)(h:g≠b):(setEd w b o y).cell? ⟨g,j,none⟩=w.cell? ⟨g,j,none⟩:=by
 unfold setEd;simp only[World.cell?_setCell_other _ _ _ _ (show (⟨b,_,none⟩:Addr)≠⟨g,j,none⟩ from fun e=>h (congrArg Addr.block e).symm)]
theorem Qi.setEd {w:World}{b o g n:Nat}{f:Nat→Bool}(h:Qi w g n f)(y:Ed)(hne:g≠b):Qi (setEd w b o y) g n f :=
 ⟨fun j hj=>by rw[Qfh y hne];exact h.1 j hj,fun j=>by unfold Hk.setEd;simp only[World.frozen?_setCell];exact h.2 j⟩
end Hk
namespace Hk
def Qg (w:World)(g n:Nat)(f:Nat→Value):Prop:=(∀ j,j<n→w.cell? ⟨g,j,none⟩=some (f j))∧∀ j,w.frozen? ⟨g,j,none⟩=false
theorem Qg.keep {w w1:World}{g n:Nat}{f:Nat→Value}(h:Qg w g n f)(hg:g<w.heap.size)(hb:Below w.heap.size w w1):Qg w1 g n f :=
 ⟨fun j hj=>Q0 hb (h.1 j hj),fun j=>Yes⟩
theorem Qg.set {w:World}{g n:Nat}{f f':Nat→Value}{k:Nat}(h:Qg w g n f)(hk:k<n)(v:Value)(hf:∀ j,j<n→f' j=if j=k then v else f j):Qg (w.setCell ⟨g,k,none⟩ v) g n f' :=
 ⟨fun j hj=>by
  rw[Q11 (h.1 k hk),hf j hj];by_cases e:j=k
  · rw[if_pos e,if_pos e]
  · rw[if_neg e,if_neg e];exact h.1 j hj,fun j=>Yet⟩
theorem Qg.other {w:World}{b o g n:Nat}{f:Nat→Value}{v:Value}(h:Qg w g n f)(hne:g≠b):Qg (w.setCell ⟨b,o,none⟩ v) g n f :=
 ⟨fun j hj=>by rw[World.cell?_setCell_other _ _ _ _ (show (⟨b,o,none⟩:Addr)≠⟨g,j,none⟩ from fun e=>hne (congrArg Addr.block e).symm)];exact h.1 j hj,fun j=>Yet⟩
theorem Qg.congr {w:World}{g n:Nat}{f f':Nat→Value}(h:Qg w g n f)(e:∀ j,j<n→f j=f' j):Qg w g n f':=⟨fun j hj=>by rw[← e j hj];exact h.1 j hj,h.2⟩
theorem Qg.made {w:World}{n:Nat}{e:TypeId}{z:Value}:Qg (w.alloc (.cells (madeCells #[z] n) e)) w.heap.size n (fun _=>z) :=
 ⟨fun j hj=>by rw[Q3t hj];simp[Nat.mod_one],fun j=>Q2u j⟩
theorem Qi.cells {w:World}{g n:Nat}{f:Nat→Bool}:Qi w g n f ↔ Qg w g n (fun j=>.bool (f j)):=Iff.rfl
theorem Qi.other {w:World}{b o g n:Nat}{f:Nat→Bool}{v:Value}(h:Qi w g n f)(hne:g≠b):Qi (w.setCell ⟨b,o,none⟩ v) g n f:=Qi.cells.2 ((Qi.cells.1 h).other hne)
def Q7r (f:Nat→Value)(z:Value)(k j:Nat):Value:=if j<k then f j else z
theorem Qg.put {w:World}{g n k:Nat}{f:Nat→Value}{z:Value}(h:Qg w g n (Q7r f z k))(hk:k<n)(v:Value)(hv:f k=v):Qg (w.setCell ⟨g,k,none⟩ v) g n (Q7r f z (k+1)) :=
 h.set hk v fun j hj=>by
  unfold Q7r;by_cases h2:j=k
  · subst h2;rw[if_pos Y1,if_pos rfl,hv]
  exact Yr6
theorem Qg.full {w:World}{g n:Nat}{f:Nat→Value}{z:Value}(h:Qg w g n (Q7r f z n)):Qg w g n f:=h.congr fun j hj=>by unfold Q7r;rw[if_pos hj]
theorem Q24 {P:Program}{o:Oper}{a:Act}{w:World}{K:Act→World→Prop}{Q:Exit→Act→World→Prop}{E:Prop}(hgd:o.guard=none)(s x:Operand)(t:TypeId)
 (ho:o.op=.call { callee:=.builtin .append,args:=#[s,x],argTypes:=#[t,t] })
 (base:Nat) (e:TypeId) (i:TypeInfo) (z:Value) (size bytes:Nat) (ht:P.underlying t=some (.slice e)) (hi:P.info? e=some i) (hz:i.zero=some z)
 (hsize:i.size=size) (hby:i.bytes=bytes) (hzs:z.cells.size=size) (hsz:0<size)
 (v:Value) (n:Nat) (xs:List Value) (hs:a.eval s=v) (hown:w.ownsRow base e size v n xs)
 (ad:Addr) (m c:Nat) (news:List Value) (hx:a.eval x=.slice (some ad) m c) (hl:news.length=m*size) (hnews:∀ j u,news[j]?=some u→w.cell? (ad.add j)=some u) (h1:∀ u∈news,u.oneCell'=true)
 (h63:n+m≤maxLen) (hbytes:(n+m)*bytes≤140737488355328) (hbase:base≤w.heap.size)
 (h:∀ v' w',w'.ownsRow base e size v' (n+m) (xs++news)→w.grownBy w' v.ownBlock→(v'=.slice none 0 0 ↔ v=.slice none 0 0∧m=0)→K (a.put o.dst v') w') {ops:Array Oper} :
 if Region.wanted o (yielded ops a.tmps)=true then Oper.wp P o a w K Q else E:=by
 rw[if_pos (by simp[Region.wanted,hgd])];exact wp_append_own w s x t ho base e i z size bytes ht hi hz hsize hby hzs hsz v n xs hs hown ad m c news hx hl hnews h1 h63 hbytes hbase h
namespace Co
theorem placeN_next (l:List In)(e:List Ed)(k:Nat):placeN l e (k+1)=placeN l e k+if start l k then (becX l e k).length else 0:=rfl
def placeV (l:List In)(e:List Ed)(j:Nat):Value:=.int .i64 (placeN l e j)
def hopX (x:In)(d:Int):In:=if (x.op==6#8)=true then { x with imm:=BitVec.ofInt 32 d } else { x with off:=BitVec.ofInt 16 d }
def hopB (x:In)(d:Int):Bool:=x.op==6#8 || (decide (-32768≤d) && decide (d<32768))
def rwGo (l:List In)(e:List Ed):Nat→Nat→List In→Option (List In)
 | 0,_,out=>some out
 | f+1,i,out=>if i<l.length then
    (match becX l e i with
    | []=>rwGo l e f (nextK l i) out
    | x :: r=>if isHop x then
       (if decide (0≤becT l e i) && decide (becT l e i<l.length+1) then
         (if hopB x ((placeN l e (becT l e i).toNat:Int) - out.length - 1) then rwGo l e f (nextK l i) (out++hopX x ((placeN l e (becT l e i).toNat:Int) - out.length - 1) :: r) else none) else none)
      else rwGo l e f (nextK l i) (out++x :: r))
   else some out
def rewrite (l:List In)(e:List Ed):Option (List In):=match rwGo l e l.length 0 [] with
 | some out=>if good out then some out else none
 | none=>none
theorem rwGo_end {l:List In}{e:List Ed}{i:Nat}{out:List In}(h:¬ i<l.length):∀ f,rwGo l e f i out=some out
 | 0=>rfl
 | f+1=>by unfold rwGo;rw[if_neg h]
theorem rwGo_drop {l:List In}{e:List Ed}{f i:Nat}{out:List In}(h:i<l.length)(hx:becX l e i=[]):rwGo l e (f+1) i out=rwGo l e f (nextK l i) out:=by
 conv=>lhs;unfold rwGo
 rw[if_pos h,hx]
theorem rwGo_keep {l:List In}{e:List Ed}{f i:Nat}{out:List In}{x:In}{r:List In}(h:i<l.length)(hx:becX l e i=x :: r)(hh:isHop x=false):rwGo l e (f+1) i out=rwGo l e f (nextK l i) (out++x :: r):=by
 conv=>lhs;unfold rwGo
 rw[if_pos h,hx];simp only[hh,Bool.false_eq_true,if_false]
theorem rwGo_hop {l:List In}{e:List Ed}{f i:Nat}{out:List In}{x:In}{r:List In}(h:i<l.length)(hx:becX l e i=x :: r)(hh:isHop x=true):rwGo l e (f+1) i out =
 if decide (0≤becT l e i) && decide (becT l e i<l.length+1) then
  (if hopB x ((placeN l e (becT l e i).toNat:Int) - out.length - 1) then rwGo l e f (nextK l i) (out++hopX x ((placeN l e (becT l e i).toNat:Int) - out.length - 1) :: r) else none) else none:=by
 conv=>lhs;unfold rwGo
 rw[if_pos h,hx];simp only[hh,if_true]
theorem insC_cons (x:In)(r:List In):Q2a (x :: r)=x.cells.toList++Q2a r:=rfl
theorem insC_append (l m:List In):Q2a (l++m)=Q2a l++Q2a m:=by unfold Q2a;rw[List.flatMap_append]
theorem next_start {l:List In}{k:Nat}(hs:start l k=true)(h:nextK l k<l.length):start l (nextK l k)=true:=Q41 hs h
theorem rewrite_none {l:List In}{e:List Ed}(h:rwGo l e l.length 0 []=none):rewrite l e=none:=by unfold rewrite;rw[h]
theorem rewrite_some {l:List In}{e:List Ed}{out:List In}(h:rwGo l e l.length 0 []=some out):rewrite l e=if good out then some out else none:=by unfold rewrite;rw[h]
end Co
theorem Qg.below {w w1:World}{g n B:Nat}{f:Nat→Value}(h:Qg w g n f)(hg:g<B)(hb:Below B w w1):Qg w1 g n f :=
 ⟨fun j hj=>by rw[hb.cell (p:=⟨g,j,none⟩) hg];exact h.1 j hj,fun j=>Yes⟩
theorem Q1ah (g o j:Nat):(⟨g,o,none⟩:Addr).add j=⟨g,o+j,none⟩:=Yek
theorem Q1k {w:World}{B e k n m:Nat}{v:Value}{xs ys:List Value}(h:w.ownsRow B e k v n xs)(hn:n=m)(hx:xs=ys):w.ownsRow B e k v m ys:=by subst hn;subst hx;exact h
theorem Q3x.tail {w w1:World}{g o:Nat}{x:In}{r:List In}{row:Option Nat}(h:Q3x w g o (Q2a (x :: r)))(hg:w.grownBy w1 row)(hne:some g≠row)(j:Nat)(u:Value)(hu:(Q2a r)[j]?=some u):w1.cell? ((⟨g,o+5,none⟩:Addr).add j)=some u:=by
 rw[Q1ah,Nat.add_assoc];refine hg.cell (h (5+j) u ?_) hne;rw[Co.insC_cons,List.getElem?_append_right (by simp[In.cells])];simpa[In.cells] using hu
theorem Q3x.head {w:World}{g o:Nat}{x:In}{r:List In}(h:Q3x w g o (Q2a (x :: r))):w.cell? ⟨g,o,none⟩=some (.int .u8 (N8 x.op))∧w.cell? ⟨g,o+1,none⟩=some (.int .u8 (N8 x.dst)) ∧
 w.cell? ⟨g,o+2,none⟩=some (.int .u8 (N8 x.src))∧w.cell? ⟨g,o+3,none⟩=some (.int .i16 (I16 x.off))∧w.cell? ⟨g,o+4,none⟩=some (.int .i32 (I32 x.imm)) :=
 ⟨h 0 _ rfl,h 1 _ rfl,h 2 _ rfl,h 3 _ rfl,h 4 _ rfl⟩
theorem Q1g {P:Program}{c:Code}{Q:Exit→Act→World→Prop}{a:Act}{w:World}(C:World→Prop)(hC:C w)(h:∀ w',C w'→c.wp P Q a w'):c.wp P Q a w:=h w hC
theorem Q3x.tailC {w w1:World}{g o cx:Nat}{x:In}{r:List In}{row:Option Nat}(h:Q3x w g o (Q2a (x :: r)))(hg:w.grownBy w1 row)(hne:some g≠row)(hc:r.length+1≤cx)(j:Nat)(u:Value)(hu:(Q2a r)[j]?=some u) :
 w1.cell? ((if cx=1 then (⟨g,o,none⟩:Addr) else ⟨g,o+5,none⟩).add j)=some u:=by
 split
 · have h0:=(List.getElem?_eq_some_iff.1 hu).1
   rw[Q2v] at h0;omega
 · exact h.tail hg hne j u hu
end Hk
namespace Hk
theorem Q64 {w:World}{B e size g n m cap:Nat}{xs:List Value}(h:w.ownsRow B e size (.slice (some ⟨g,0,none⟩) n cap) n xs)(hm:m≤n):w.ownsRow B e size (.slice (some ⟨g,0,none⟩) m cap) m (xs.take (m*size)):=by
 obtain⟨h1,h2⟩:=h;have hle:m*size≤n*size:=Nat.mul_le_mul_right _ hm;refine⟨by rw[List.length_take,h1];omega,?_⟩;rcases h2 with ⟨h',_⟩|⟨g',cap',cur,h',hb,hg,hnc,hcm,hcs,htake⟩
 · simp at h'
 · simp only[Value.slice.injEq,Option.some.injEq,Addr.mk.injEq,and_true,true_and] at h'
   obtain⟨rfl,rfl⟩:=h';exact .inr ⟨g,cap,cur,rfl,hb,hg,Y1,hcm,hcs,by rw[← htake,List.take_take,Nat.min_eq_left hle]⟩
namespace Co
def two (a b:Nat):List Nat:=if a=b then [a] else if b<a then [b,a] else [a,b]
def ends (l:List In)(k:Nat):Bool:=kindAt l k==12 || kindAt l k==9
def aheadL (l:List In)(k:Nat):List Nat :=
 if ends l k then (if targetB l k then [target l k] else []) else if targetB l k then two (nextK l k) (target l k) else [nextK l k]
def intsV (l:List Nat):List Value:=l.map fun (n:Nat)=>Value.int .i64 (n:Int)
theorem intsV_length (l:List Nat):(intsV l).length=l.length:=by simp[intsV]
theorem aheadL_le (l:List In)(k:Nat):(aheadL l k).length≤2:=by
 unfold aheadL two
 repeat' split
 all_goals simp
theorem Qwa {a b n:Nat}(h:n∈two a b):n=a∨n=b:=by
 unfold two at h;split at h
 · simp at h;exact .inl h
 · split at h<;>(simp at h;omega)
theorem ahead_start {l:List In}(hg:good l=true){k n:Nat}(hs:start l k=true)(hn:n∈aheadL l k):start l n=true:=by
 have ht:targetB l k=true→start l (target l k)=true:=fun h=>by
  have:toB l k=true:=by unfold targetB at h;simp only[Bool.and_eq_true] at h;exact h.1
  exact (hop_target hg hs this).2
 have hx:ends l k=false→start l (nextK l k)=true:=fun h=>by
  unfold ends at h;simp only[Bool.or_eq_false_iff] at h;exact (next_lt hg hs h.2 h.1).2
 unfold aheadL at hn;split at hn
 · split at hn
   · simp at hn;subst hn;exact ht Y2
   · cases hn
 · rename_i he
   have he':ends l k=false:=by simpa using he
   split at hn
   · rcases Qwa hn with rfl|rfl
     · exact hx he'
     · exact ht Y2
   · simp at hn;subst hn;exact hx he'
def reachF (l:List In):Nat→Nat→List Nat→(Nat→Bool)→(Nat→Bool)
 | 0,_,_,out=>out
 | f+1,k,todo,out =>
   let p:List Nat × (Nat→Bool):=if out k then (todo,out) else (todo++aheadL l k,fun j=>j==k || out j)
   match p.1.getLast? with
   | some n=>reachF l f n p.1.dropLast p.2
   | none=>p.2
def reach (l:List In)(k:Nat):Nat→Bool:=reachF l (3*l.length+1) k [] fun _=>false
end Co
end Hk
namespace Hk
section
variable {P : Program} (w : World)
theorem Q2s (base:Nat)(t ty e:TypeId)(i:TypeInfo)(z:Value)(size bytes:Nat)(ht:P.underlying t=some (.slice e))(hi:P.info? e=some i)(hz:i.zero=some z)
 (hsize:i.size=size) (hby:i.bytes=bytes) (hzs:z.cells.size=size) (hsz:0<size)
 (v:Value) (n:Nat) (xs:List Value) (hown:w.ownsRow base e size v n xs)
 (ad:Addr) (m c:Nat) (news:List Value) (hl:news.length=m*size) (hnews:∀ j u,news[j]?=some u→w.cell? (ad.add j)=some u) (h1:∀ u∈news,u.oneCell'=true)
 (h63:n+m≤maxLen) (hbytes:(n+m)*bytes≤140737488355328) (hbase:base≤w.heap.size) :
 ∃ v' w',(Builtin.append_ #[t,t] ty #[v,.slice (some ad) m c]).run P w=.ok v' w'∧w'.ownsRow base e size v' (n+m) (xs++news)∧w.grownBy w' v.ownBlock ∧
  (∀ k,v'.ownBlock=some k→some k=v.ownBlock∨w.heap.size≤k):=by
 obtain⟨v',w',hrun,hown',hg,_⟩:=run_append_own w base t ty e i z size bytes ht hi hz hsize hby hzs hsz v n xs hown ad m c news hl hnews h1 h63 hbytes hbase;refine⟨v',w',hrun,hown',hg,?_⟩;rcases hown.2 with ⟨hv,hn⟩|⟨g,cap,cur,hv,hB,hh,hc,hm,hs,htk⟩
 · subst hv
   subst hn;obtain⟨v2,w2,hrun2,hown2,_,_⟩:=run_append_own w w.heap.size t ty e i z size bytes ht hi hz hsize hby hzs hsz _ 0 xs ⟨hown.1,.inl ⟨rfl,rfl⟩⟩ ad m c news hl hnews h1 h63 hbytes (Nat.le_refl _);exact Yqe
 · subst hv
   by_cases hr:n+m≤cap
   · have hcl:∀ j,j<cap*size→(w.cell? ⟨g,j,none⟩).isSome=true∧w.frozen? ⟨g,j,none⟩=false:=fun j hj=>by
      unfold World.cell? World.frozen?;rw[hh];simp;omega
     have hrun2:=run_append_room_cells (P:=P) w t ty e i ht hi g 0 n cap ad m c news (by rw[hl,hsize]) hnews h1 hr (fun j hj=>by
      have:n*size+j<cap*size:=by
       exact Yrc
      rw[hsize,Nat.zero_add];exact (hcl _ this).1) (fun j hj=>by
      have:n*size+j<cap*size:=by
       exact Yrc
      rw[hsize,Nat.zero_add];exact (hcl _ this).2)
     rw[hrun] at hrun2
     injection hrun2 with e1 e2
     subst e1;exact fun k hk=>.inl (by simpa[Value.ownBlock] using hk.symm)
   · obtain⟨v2,w2,hrun2,hown2,_⟩:=run_append_arg_grows (P:=P) w t ty e i z size bytes ht hi hz hsize hby hzs hsz ⟨g,0,none⟩ n cap xs hown.1 (fun j u hu=>hown.cells (g:=g) Ya j u hu) ad m c news hl hnews Y1 h63 hbytes
     exact Yqe
end
theorem Q18 {P:Program}(w:World){ops:Array Oper}{rest:List Oper}{o:Oper}{a:Act}{Q:Exit→Act→World→Prop}(hgd:o.guard=none)(s x:Operand)(t:TypeId)
 (ho:o.op=.call { callee:=.builtin .append,args:=#[s,x],argTypes:=#[t,t] })
 (base:Nat) (e:TypeId) (i:TypeInfo) (z:Value) (size bytes:Nat) (ht:P.underlying t=some (.slice e)) (hi:P.info? e=some i) (hz:i.zero=some z)
 (hsize:i.size=size) (hby:i.bytes=bytes) (hzs:z.cells.size=size) (hsz:0<size)
 (v:Value) (n:Nat) (xs:List Value) (hs:a.eval s=v) (hown:w.ownsRow base e size v n xs)
 (ad:Addr) (m c:Nat) (news:List Value) (hx:a.eval x=.slice (some ad) m c) (hl:news.length=m*size) (hnews:∀ j u,news[j]?=some u→w.cell? (ad.add j)=some u) (h1:∀ u∈news,u.oneCell'=true)
 (h63:n+m≤maxLen) (hbytes:(n+m)*bytes≤140737488355328) (hbase:base≤w.heap.size)
 (h:∀ v' w',w'.ownsRow base e size v' (n+m) (xs++news)→w.grownBy w' v.ownBlock→(∀ k,v'.ownBlock=some k→some k=v.ownBlock∨w.heap.size≤k)→wpList P ops Q rest (a.put o.dst v') w'):wpList P ops Q (o :: rest) a w :=
 wpList_plain hgd fun K hK=>by
  obtain⟨v',w',hrun,r1,r2,r3⟩:=Q2s (P:=P) w base t o.type e i z size bytes ht hi hz hsize hby hzs hsz v n xs hown ad m c news hl hnews h1 h63 hbytes hbase;unfold Oper.wp;simp[execOp,ho,resolve,invoke,builtin,hs,hx,hrun,Result.andThen];exact hK _ _ (h v' w' r1 r2 r3)
structure Fr2 (g:Nat) (row:Option Nat) (w w':World):Prop where
 os:w'.os=w.os
 tape:w'.tape=w.tape
 output:w'.output=w.output
 size:w.heap.size≤w'.heap.size
 block:∀ k,k<w.heap.size→k≠g→some k≠row→w'.heap[k]?=w.heap[k]?
theorem Fr2.refl (g:Nat)(row:Option Nat)(w:World):Fr2 g row w w:=⟨rfl,rfl,rfl,Nat.le_refl _,fun _ _ _ _=>rfl⟩
theorem Fr2.of_below {g:Nat}{row:Option Nat}{w w':World}(h:Below w.heap.size w w'):Fr2 g row w w':=⟨h.os,h.tape,h.output,h.size,fun k hk _ _=>h.block k hk⟩
theorem Fr2.trans {g:Nat}{row row':Option Nat}{w w1 w2:World}(h:Fr2 g row w w1)(h2:Fr2 g row' w1 w2)(hr:∀ k,row'=some k→some k=row∨w.heap.size≤k):Fr2 g row w w2 :=
 ⟨h2.os.trans h.os,h2.tape.trans h.tape,h2.output.trans h.output,Nat.le_trans h.size h2.size,fun k hk hg hne=>by
  rw [h2.block k (Nat.lt_of_lt_of_le hk h.size) hg (fun e => by rcases hr k e.symm with h3 | h3; · exact hne h3
                                                                · omega),h.block k hk hg hne]⟩
theorem Fr2.grown {g:Nat}{row:Option Nat}{w w':World}(h:w.grownBy w' row):Fr2 g row w w':=⟨h.os,h.tape,h.output,h.size,fun k hk _ hne=>h.block k hk hne⟩
theorem Fr2.set {g o:Nat}{row:Option Nat}{w w':World}{v:Value}(h:Fr2 g row w w'):Fr2 g row w (w'.setCell ⟨g,o,none⟩ v) :=
 ⟨h.os,h.tape,h.output,by simpa using h.size,fun k hk hg hne=>by rw[heap_setCell_other w' ⟨g,o,none⟩ k v (fun e=>hg (by simp[e]))];exact h.block k hk hg hne⟩
theorem Fr2.below {g B:Nat}{row:Option Nat}{w w':World}(h:Fr2 g row w w')(hB:B≤w.heap.size)(hg:B≤g)(hr:∀ k,row=some k→B≤k):Below B w w' :=
 ⟨h.os,h.tape,h.output,h.size,fun k hk=>h.block k Y1 Y1 (fun e=>by have:=hr k e.symm;omega)⟩
theorem Fr2.cell {g:Nat}{row:Option Nat}{w w':World}(h:Fr2 g row w w'){b o:Nat}{v:Value}(hc:w.cell? ⟨b,o,none⟩=some v)(hg:b≠g)(hr:some b≠row):w'.cell? ⟨b,o,none⟩=some v:=by
 have:=h.block b (Q1 hc) hg hr;unfold World.cell? at hc ⊢;simp only at hc ⊢;rw[this];exact hc
theorem Fr2.frozen {g:Nat}{row:Option Nat}{w w':World}(h:Fr2 g row w w'){b o:Nat}(hb:b<w.heap.size)(hg:b≠g)(hr:some b≠row):w'.frozen? ⟨b,o,none⟩=w.frozen? ⟨b,o,none⟩:=by
 have:=h.block b hb hg hr;unfold World.frozen?;simp only;rw[this]
theorem Fr2.cells {g:Nat}{row:Option Nat}{w w':World}(h:Fr2 g row w w'){b n:Nat}{f:Nat→Value}(hc:Qg w b n f)(hb:b<w.heap.size)(hg:b≠g)(hr:some b≠row):Qg w' b n f :=
 ⟨fun j hj=>h.cell (hc.1 j hj) hg hr,fun j=>by rw[h.frozen hb hg hr];exact hc.2 j⟩
structure Q7l (e:TypeId) (w:World) (gw B:Nat) (v:Value) (xs:List Nat):Prop where
 cell:w.cell? ⟨gw,0,none⟩=some v
 fz:∀ j,w.frozen? ⟨gw,j,none⟩=false
 own:w.ownsRow B e 1 v xs.length (Co.intsV xs)
 ne:v.ownBlock≠some gw
 base:B≤w.heap.size
theorem Qv {w w':World}{B e k n:Nat}{v:Value}{xs:List Value}(h:w.ownsRow B e k v n xs)(hb:∀ g,v.ownBlock=some g→w'.heap[g]?=w.heap[g]?):w'.ownsRow B e k v n xs:=by
 obtain⟨h1,h2⟩:=h;refine⟨h1,?_⟩;rcases h2 with h|⟨g,cap,cur,hv,hB,hh,rest⟩
 · exact .inl h
 · exact .inr ⟨g,cap,cur,hv,hB,(hb g (by rw[hv];rfl)).trans hh,rest⟩
theorem Q7l.keep {e:TypeId}{w w':World}{gw B:Nat}{v:Value}{xs:List Nat}(h:Q7l e w gw B v xs)(hb:Below w.heap.size w w'):Q7l e w' gw B v xs :=
 ⟨Q0 hb h.cell,fun j=>Q7 hb h.cell h.fz j,Qd h.own hb,h.ne,Nat.le_trans h.base hb.size⟩
theorem Q5t {w w':World}{row:Option Nat}(h:w.grownBy w' row){b:Nat}(hb:b<w.heap.size)(hr:some b≠row)(j:Nat):w'.frozen? ⟨b,j,none⟩=w.frozen? ⟨b,j,none⟩:=by
 have:=h.block b hb hr;unfold World.frozen?;simp only;rw[this]
theorem Q2p (xs:List Nat)(x:Nat):Co.intsV (xs++[x])=Co.intsV xs++[.int .i64 (x:Int)]:=by unfold Co.intsV;simp
theorem Fr2.drew {g:Nat}{row:Option Nat}{w w':World}(h:Fr2 g row w w'):Fr2 g row w w'.drew:=⟨h.os,h.tape,h.output,h.size,h.block⟩
namespace Co
def aheadS (l:List In)(k:Nat):List Nat:=if start l k then aheadL l k else []
def unv (n:Nat)(out:Nat→Bool):Nat:=(List.range n).countP fun j=>!out j
theorem Qd5 (n:Nat)(out:Nat→Bool):unv (n+1) out=unv n out+if out n then 0 else 1:=by
 unfold unv;rw[List.range_succ,List.countP_append];cases h:out n<;>simp[h]
theorem unv_le (n:Nat)(out:Nat→Bool):unv n out≤n:=by
 unfold unv;have:=List.countP_le_length (p:=fun j=>!out j) (l:=List.range n);simpa using this
theorem unv_set {out:Nat→Bool}{k:Nat}(hk:out k=false):∀ n,unv n (fun j=>j==k || out j)+(if k<n then 1 else 0)=unv n out
 | 0=>rfl
 | n+1=>by
   rw[Qd5,Qd5];have ih:=unv_set hk n;by_cases e:n=k
   · subst e
     have h1:¬ n<n:=Y1;have h2:n<n+1:=Y1;simp only[if_neg h1,if_pos h2,hk,beq_self_eq_true,Bool.true_or,if_true,Bool.false_eq_true,if_false] at ih ⊢;omega
   · have e1:((n==k) || out n)=out n:=by
      have:(n==k)=false:=by simpa using e
      rw[this,Bool.false_or]
     by_cases hlt:k<n
     · have h2:k<n+1:=by omega
       simp only[if_pos hlt] at ih;simp only[if_pos h2,e1];omega
     · have h2:¬ k<n+1:=by omega
       simp only[if_neg hlt] at ih;simp only[if_neg h2,e1];omega
theorem reachF_step (l:List In)(f k:Nat)(todo:List Nat)(out:Nat→Bool):reachF l (f+1) k todo out =
 match (if out k then todo else todo++aheadL l k).getLast? with
 | some n=>reachF l f n (if out k then todo else todo++aheadL l k).dropLast (if out k then out else fun j=>j==k || out j)
 | none=>(if out k then out else fun j=>j==k || out j):=by
 conv=>lhs;unfold reachF
 cases out k<;>rfl
end Co
theorem Q15 {w:World}{B e k n:Nat}{v:Value}{xs:List Value}(h:w.ownsRow B e k v n xs):∃ p c,v=.slice p n c:=by
 rcases h.2 with ⟨h1,h2⟩|⟨g,cap,cur,hv,_⟩
 · subst h2;exact⟨none,0,h1⟩
 · exact⟨_,_,hv⟩
theorem Q7l.set {e:TypeId}{w:World}{gw B g o:Nat}{v u:Value}{xs:List Nat}(h:Q7l e w gw B v xs)(hg:g≠gw)(hr:some g≠v.ownBlock):Q7l e (w.setCell ⟨g,o,none⟩ u) gw B v xs :=
 ⟨by rw[World.cell?_setCell_other _ _ _ _ (show (⟨g,o,none⟩:Addr)≠⟨gw,0,none⟩ from fun e=>hg (congrArg Addr.block e))];exact h.cell,fun j=>by rw[World.frozen?_setCell];exact h.fz j,
  Qv h.own (fun k hk=>heap_setCell_other w ⟨g,o,none⟩ k u (fun e=>hr (by rw[hk];exact congrArg some e.symm))),h.ne,by simpa using h.base⟩
theorem Fr2.bools {g:Nat}{row:Option Nat}{w w':World}(h:Fr2 g row w w'){b n:Nat}{f:Nat→Bool}(hc:Qi w b n f)(hb:b<w.heap.size)(hg:b≠g)(hr:some b≠row):Qi w' b n f:=Qi.cells.2 (h.cells (Qi.cells.1 hc) hb hg hr)
end Hk
namespace Hk
structure Sg where
 told:List Int
 tells:Int
 draws:Bool
 most:BitVec 64
def Sg.none:Sg:=⟨[],0,false,0#64⟩
namespace Co
def all64:BitVec 64:=18446744073709551615#64
def sigOf (id:Int):Sg :=
 if id=1 then ⟨[1,2],2,false,0#64⟩ else if id=2 then ⟨[1,2,3,4],1,false,all64⟩ else if id=3 then ⟨[1,2],1,false,all64⟩
 else if id=6 then ⟨[4,4],1,false,0#64⟩ else if id=5 then ⟨[],1,true,all64⟩ else if id=7 then ⟨[],1,true,4294967295#64⟩ else if id=8 then ⟨[],1,true,63#64⟩ else Sg.none
def sigB (id:Int):Bool:=id==1 || id==2 || id==3 || id==6 || id==5 || id==7 || id==8
def u8V (l:List Int):List Value:=l.map fun t=>Value.int .u8 t
theorem sig_else {id:Int}(h1:(id==1)=false)(h2:(id==2)=false)(h3:(id==3)=false)(h6:(id==6)=false)(h5:(id==5)=false)(h7:(id==7)=false)(h8:(id==8)=false):sigOf id=Sg.none∧sigB id=false:=by
 unfold sigOf sigB;simp only[beq_eq_false_iff_ne,ne_eq] at h1 h2 h3 h6 h5 h7 h8;simp[h1,h2,h3,h6,h5,h7,h8]
end Co
theorem Q3j {w:World}{B e k n g o:Nat}{v u:Value}{xs:List Value}(h:w.ownsRow B e k v n xs)(hne:v.ownBlock≠some g):(w.setCell ⟨g,o,none⟩ u).ownsRow B e k v n xs :=
 Qv h fun q hq=>heap_setCell_other w ⟨g,o,none⟩ q u (fun e=>hne (by rw[hq];exact congrArg some e))
theorem Q65 {w:World}{B e g:Nat}{c:Array Value}{cs:List Value}(k n:Nat)(hg:g=w.heap.size)(hc:c.toList=cs)(hB:B≤w.heap.size)(hl:cs.length=n*k)(hn:n≤maxLen):(w.alloc (.cells c e)).ownsRow B e k (.slice (some ⟨g,0,none⟩) n n) n cs:=by
 subst hg;subst hc;exact Qbt (cs:=c.toList) k n hB hl hn
theorem Qqg {w:World}{B e g cap n k:Nat}{c:Array Value}{cs:List Value}(hg:g=w.heap.size)(hB:B≤w.heap.size)(hs:c.size=cap*k)(hnc:n≤cap)(hcm:cap≤maxLen)(ht:c.toList.take (n*k)=cs)(hl:cs.length=n*k):(w.alloc (.cells c e)).ownsRow B e k (.slice (some ⟨g,0,none⟩) n cap) n cs:=by
 subst hg;exact⟨hl,.inr ⟨w.heap.size,cap,c,rfl,hB,heap_alloc_new w _,hnc,hcm,hs,ht⟩⟩
theorem Qdd {w:World}{B e k n:Nat}{v:Value}{xs:List Value}(h:w.ownsRow B e k v n xs):w.drew.ownsRow B e k v n xs:=Qv h fun _ _=>rfl
end Hk
namespace Hk
namespace Alu
def rv:Nat→BitVec 64→BitVec 64→BitVec 64
 | 0,o,_=>o
 | n+1,o,x=>rv n (o*256#64+x % 256#64) (x / 256#64)
theorem Qlc (x:BitVec 64)(i:Nat):bt (x / 256#64) i=bt x (i+8):=by
 have e:x / 256#64=x >>> 8:=by
  apply BitVec.eq_of_toNat_eq;rw[BitVec.toNat_udiv,BitVec.toNat_ushiftRight,Nat.shiftRight_eq_div_pow];rfl
 rw[e,Q4y,Nat.add_comm]
theorem Q106 (o x:BitVec 64)(i:Nat)(hi:i<64):bt (o*256#64+x % 256#64) i=if i<8 then bt x i else bt o (i - 8):=by
 have e1:o*256#64=o <<< 8:=by
  apply BitVec.eq_of_toNat_eq;rw[BitVec.toNat_mul,BitVec.toNat_shiftLeft,Nat.shiftLeft_eq];rfl
 have e2:x % 256#64=x &&& 255#64:=by
  apply BitVec.eq_of_toNat_eq;rw[BitVec.toNat_umod,BitVec.toNat_and];show x.toNat % 256=x.toNat &&& (2 ^ 8 - 1);rw[Nat.and_two_pow_sub_one_eq_mod]
 have m:∀ j,j<64→bt 255#64 j=decide (j<8):=Y0
 have e3:o <<< 8 &&& (x &&& 255#64)=0#64:=by
  apply Q4z;intro j hj;rw[Q29,Q29,Q7j _ _ _ hj,m j hj,Q3l];by_cases h:j<8<;>simp[h]
 rw[e1,e2,BitVec.add_eq_or_of_and_eq_zero _ _ e3,Qcp,Q29,Q7j _ _ _ hi,m i hi];by_cases h:i<8<;>simp[h]
theorem Q17m (n:Nat):∀ (o x:BitVec 64) (i:Nat),i<64→bt (rv n o x) i=if i<8*n then bt x (8*(n - 1 - i / 8)+i % 8) else bt o (i - 8*n):=by
 induction n with
 | zero=>intro o x i _;simp[rv]
 | succ n ih =>
   intro o x i hi;rw[rv,ih _ _ i hi];by_cases h:i<8*n
   · rw[if_pos h,if_pos Y1,Qlc];congr 1<;>omega
   · rw[if_neg h,Q106 _ _ _ Y1]
     by_cases h2:i<8*(n+1)
     · rw[if_pos h2,if_pos Y1];congr 1<;>omega
     · rw[if_neg h2,if_neg Y1];congr 1<;>omega
def rb1 (x:BitVec 64):BitVec 64:=x >>> 8 &&& 71777214294589695#64 ||| (x &&& 71777214294589695#64) <<< 8
def rb2 (x:BitVec 64):BitVec 64:=x >>> 16 &&& 281470681808895#64 ||| (x &&& 281470681808895#64) <<< 16
def rb (x:BitVec 64):BitVec 64:=rb2 (rb1 x) >>> 32 ||| rb2 (rb1 x) <<< 32
theorem Qdu (x:BitVec 64)(i:Nat)(hi:i<64):bt (rb1 x) i=if i % 16<8 then bt x (i+8) else bt x (i - 8):=by
 have m:∀ j,j<64→bt 71777214294589695#64 j=decide (j % 16<8):=Y0;unfold rb1;rw[Qcp,Q29,Q4y,m i hi,Q7j _ _ _ hi,Q29];by_cases h:i % 16<8
 · rw[if_pos h]
   by_cases h2:i<8
   · simp[h,h2,Nat.add_comm]
   · rw[m (i - 8) Y1];simp[h,h2,Nat.add_comm,show ¬ (i - 8) % 16<8 from Y1]
 · rw[if_neg h,m (i - 8) Y1];simp[h,show ¬ i<8 from Y1,show (i - 8) % 16<8 from Y1]
theorem Qv9 (x:BitVec 64)(i:Nat)(hi:i<64):bt (rb2 x) i=if i % 32<16 then bt x (i+16) else bt x (i - 16):=by
 have m:∀ j,j<64→bt 281470681808895#64 j=decide (j % 32<16):=Y0;unfold rb2;rw[Qcp,Q29,Q4y,m i hi,Q7j _ _ _ hi,Q29];by_cases h:i % 32<16
 · rw[if_pos h]
   by_cases h2:i<16
   · simp[h,h2,Nat.add_comm]
   · rw[m (i - 16) Y1];simp[h,h2,Nat.add_comm,show ¬ (i - 16) % 32<16 from Y1]
 · rw[if_neg h,m (i - 16) Y1];simp[h,show ¬ i<16 from Y1,show (i - 16) % 32<16 from Y1]
theorem Q17n (x:BitVec 64)(i:Nat)(hi:i<64):bt (rb x) i=bt x (8*(7 - i / 8)+i % 8):=by
 have e:bt (rb x) i=if i<32 then bt (rb2 (rb1 x)) (i+32) else bt (rb2 (rb1 x)) (i - 32):=by
  unfold rb;rw[Qcp,Q4y,Q7j _ _ _ hi];by_cases h:i<32
  · simp[h,Nat.add_comm]
  · rw[Q105 _ (32+i) Y1];simp[h]
 rw[e];by_cases h:i<32
 · rw[if_pos h,Qv9 _ _ Y1]
   by_cases h2:(i+32) % 32<16
   · rw[if_pos h2,Qdu _ _ Y1]
     by_cases h3:(i+32+16) % 16<8
     · rw[if_pos h3];congr 1<;>omega
     · rw[if_neg h3];congr 1<;>omega
   · rw[if_neg h2,Qdu _ _ Y1]
     by_cases h3:(i+32 - 16) % 16<8
     · rw[if_pos h3];congr 1<;>omega
     · rw[if_neg h3];congr 1<;>omega
 · rw[if_neg h,Qv9 _ _ Y1]
   by_cases h2:(i - 32) % 32<16
   · rw[if_pos h2,Qdu _ _ Y1]
     by_cases h3:(i - 32+16) % 16<8
     · rw[if_pos h3];congr 1<;>omega
     · rw[if_neg h3];congr 1<;>omega
   · rw[if_neg h2,Qdu _ _ Y1]
     by_cases h3:(i - 32 - 16) % 16<8
     · rw[if_pos h3];congr 1<;>omega
     · rw[if_neg h3];congr 1<;>omega
def turn (n:Nat)(a:BitVec 64):BitVec 64:=rv n 0#64 a
def Q174 (n:Nat)(a:BitVec 64):BitVec 64:=a <<< (64 - 8*n) >>> (64 - 8*n)
theorem Q104 (n:Nat)(a:BitVec 64)(i:Nat)(hi:i<64):bt (turn n a) i=(decide (i<8*n) && bt a (8*(n - 1 - i / 8)+i % 8)):=by
 unfold turn;rw[Q17m _ _ _ _ hi,Q3l];by_cases h:i<8*n<;>simp[h]
theorem turn_rb (n:Nat)(h0:1≤n)(h8:n≤8)(a:BitVec 64):turn n a=rb (a <<< (64 - 8*n)) &&& (1#64 <<< (8*n) - 1#64):=by
 apply Q4z;intro i hi
 have hm:bt (1#64 <<< (8*n) - 1#64) i=decide (i<8*n):=by
  unfold bt
  have e:(1#64 <<< (8*n) - 1#64).toNat=2 ^ (8*n) - 1:=by
   rcases Nat.lt_or_ge n 8 with h|h
   · rw[BitVec.toNat_sub,Q133 Y1]
     have:=Nat.two_pow_pos (8*n);have:(2:Nat) ^ (8*n)<2 ^ 64:=Nat.pow_lt_pow_right Y1 Y1;have e1:(1#64).toNat=1:=rfl;rw[e1];omega
   · obtain rfl:n=8:=by omega
     rfl
  show (1#64 <<< (8*n) - 1#64).toNat.testBit i=_;rw[e,Nat.testBit_two_pow_sub_one]
 rw[Q104 _ _ _ hi,Q29,hm,Q17n _ _ hi,Bool.and_comm];by_cases h:i<8*n
 · rw[Q7j _ _ _ Y1]
   have:8*(7 - i / 8)+i % 8 - (64 - 8*n)=8*(n - 1 - i / 8)+i % 8:=Y1;rw[this];simp[show ¬ 8*(7 - i / 8)+i % 8<64 - 8*n from Y1]
 · simp[h]
def swap (tn:Bool)(k:Int)(a:BitVec 64):Option (BitVec 64) :=
 if k=16 then some (if tn then turn 2 a else Q174 2 a) else if k=32 then some (if tn then turn 4 a else Q174 4 a) else if k=64 then some (if tn then turn 8 a else Q174 8 a) else none
theorem swap_none (tn:Bool)(k:Int)(a:BitVec 64)(h1:¬ k=16)(h2:¬ k=32)(h3:¬ k=64):swap tn k a=none:=by
 unfold swap;rw[if_neg h1,if_neg h2,if_neg h3]
end Alu
end Hk
namespace Hk
structure Wy where
 at_:Nat
 s:St
namespace Co
def dV (X:Sx):Vl:=X.s.r X.x.dst.toNat
def sV (X:Sx):Vl:=if X.w.reg then X.s.r X.x.src.toNat else knownV (X.x.imm.signExtend 64)
def onW (X:Sx)(t:St):Wy:=⟨nextK X.l X.at_,t⟩
def becW (X:Sx)(v:Vl)(e:Int):List Wy:=if e==0 then [onW X (X.s.setR X.x.dst.toNat v)] else []
def numV (X:Sx)(a b:Vl):Vl:=if !(a.k==1) || !(b.k==1) then Vl.zero else Vl.num ((Fa.do_ (N8 X.w.op) X.w.wide (I16 X.x.off) a.f b.f).getD Fa.zero)
def numE (X:Sx)(a b:Vl):Int:=if !(a.k==1) || !(b.k==1) then 140 else if (Fa.do_ (N8 X.w.op) X.w.wide (I16 X.x.off) a.f b.f).isSome then 0 else 1
def arUn (X:Sx)(a b:Vl):Bool:=if X.w.op==176#8 then b.k==0 else a.k==0 || b.k==0
def arMv (X:Sx):Bool:=X.w.op==176#8 && X.w.wide && X.x.off==0#16
def arPt (X:Sx)(a:Vl):Bool:=X.w.wide && (X.w.op==0#8 || X.w.op==16#8) && Vl.ptr a
def arA (X:Sx)(a:Vl):Vl:=if X.w.op==176#8 then knownV 0#64 else a
def arB (X:Sx)(b:Vl):Vl:=if X.w.op==128#8 then knownV 0#64 else b
def arithV (X:Sx)(a b:Vl):Vl:=if arUn X a b then Vl.zero else if arMv X then b else if arPt X a then movedV (X.w.op==16#8) a b else numV X (arA X a) (arB X b)
def arithE (X:Sx)(a b:Vl):Int:=if arUn X a b then 110 else if arMv X then 0 else if arPt X a then movedE (X.w.op==16#8) a b else numE X (arA X a) (arB X b)
def swapsV (X:Sx)(a:Vl):Vl:=if a.k==0 then Vl.zero else if a.k==1 then (match Fa.known a.f with|none=>sizedV X.w.size|some n=>knownV (Alu.val (Alu.swap X.w.wide (8*X.w.size) n))) else Vl.zero
def swapsE (X:Sx)(a:Vl):Int:=if a.k==0 then 110 else if a.k==1 then (match Fa.known a.f with|none=>0|some n=>Alu.err (Alu.swap X.w.wide (8*X.w.size) n)) else 140
def loadV0 (X:Sx)(p:Vl):Vl:=gotV X.s X.ds X.ctx p (I16 X.x.off) X.w.size
def loadE0 (X:Sx)(p:Vl):Int:=gotE X.s X.ds X.ctx p (I16 X.x.off) X.w.size
def signV (X:Sx)(v:Vl):Vl:=if v.k==1 then (match Fa.known v.f with|none=>Vl.num Fa.any|some n=>knownV (Alu.sgn n (8*X.w.size))) else Vl.zero
def loadV (X:Sx)(p:Vl):Vl:=if p.k==0 then Vl.zero else if !(loadE0 X p==0) || !X.w.signed then loadV0 X p else signV X (loadV0 X p)
def loadE (X:Sx)(p:Vl):Int:=if p.k==0 then 110 else if !(loadE0 X p==0) || !X.w.signed then loadE0 X p else if (loadV0 X p).k==1 then 0 else 140
def putO (X:Sx)(p:Vl):Int:=p.off+I16 X.x.off
def putE (X:Sx)(p v:Vl):Int:=X.s.putE (putO X p) X.w.size v
def putW (X:Sx)(p v:Vl):List Wy:=if putE X p v==0 then [onW X (X.s.put (putO X p) X.w.size v)] else []
def stIn (X:Sx)(p v:Vl):Int:=if !(insideE X.ds X.ctx p (I16 X.x.off) X.w.size==0) then insideE X.ds X.ctx p (I16 X.x.off) X.w.size else if v.k==1 then 0 else 140
def stOld (X:Sx)(p:Vl):Int:=if !(X.s.getE (putO X p) X.w.size==0) then X.s.getE (putO X p) X.w.size else if (X.s.get (putO X p) X.w.size).k==1 then 0 else 140
def storeR (X:Sx)(p v:Vl):List Wy × Int :=
 if p.k==0 || v.k==0 then ([],110)
 else if !Vl.ptr p || (X.w.kind==8 && !(v.k==1)) then ([],140)
 else if p.k==2 then ([],82)
 else if p.k==5 then (if stIn X p v==0 then ([onW X X.s],0) else ([],stIn X p v))
 else if decide (X.w.size<8) && !(v.k==1) then ([],140)
 else if X.w.kind==8 then (if stOld X p==0 then (putW X p (Vl.num Fa.any),putE X p (Vl.num Fa.any)) else ([],stOld X p))
 else (putW X p v,putE X p v)
def waysW (X:Sx)(next:St)(goes:Bool)(target:St)(hops:Bool):List Wy:=(if goes then [onW X next] else [])++(if hops then [⟨Co.target X.l X.at_,target⟩] else [])
def thereS (X:Sx)(a:Vl):St:=X.s.setR X.x.dst.toNat ⟨5,Fa.zero,a.i,0⟩
def notS (X:Sx):St:=X.s.setR X.x.dst.toNat (knownV 0#64)
def isJne (X:Sx):Bool:=X.w.op==80#8
def zeroW (X:Sx)(a:Vl):List Wy :=
 if Vl.ptr a then waysW X X.s (!isJne X) X.s (isJne X)
 else if isJne X then waysW X (notS X) true (thereS X a) true else waysW X (thereS X a) true (notS X) true
def sameB (X:Sx):Bool:=X.w.reg && X.x.src.toNat==X.x.dst.toNat
def withS (X:Sx)(x y:Fa):St:=if sameB X then X.s else if X.w.reg then (X.s.setR X.x.dst.toNat (Vl.num x)).setR X.x.src.toNat (Vl.num y) else X.s.setR X.x.dst.toNat (Vl.num x)
def ifP (X:Sx)(op:Int)(a b:Vl):Fa × Fa:=(Fa.if_ op X.w.wide a.f b.f).getD (Fa.zero,Fa.zero)
def ifB (X:Sx)(op:Int)(a b:Vl):Bool:=(Fa.if_ op X.w.wide a.f b.f).isSome
def notOp (X:Sx):Int:=(Cond.neg (N8 X.w.op)).getD 0
def notOk (X:Sx):Bool:=(Cond.neg (N8 X.w.op)).isSome
def nextS (X:Sx)(a b:Vl):St:=if notOk X then withS X (ifP X (notOp X) a b).1 (ifP X (notOp X) a b).2 else X.s
def isB (X:Sx)(n m:BitVec 64):Bool:=Cond.val (Cond.is (N8 X.w.op) X.w.wide n m)
def goesB (X:Sx)(a b:Vl):Bool:=if notOk X then ifB X (notOp X) a b else match Fa.known a.f,Fa.known b.f with|some n,some m=>!isB X n m|_,_=>true
def memB (a:Vl):Bool:=Vl.ptr a || a.k==6
def asksB (X:Sx)(b:Vl):Bool:=X.w.wide && (X.w.op==16#8 || X.w.op==80#8) && b.k==1 && (match Fa.known b.f with|some m=>m==0#64|none=>false)
def branchW (X:Sx)(a b:Vl):List Wy :=
 if a.k==0 || b.k==0 then [] else if memB a && asksB X b then zeroW X a else if !(a.k==1) || !(b.k==1) then []
 else waysW X (nextS X a b) (goesB X a b) (withS X (ifP X (N8 X.w.op) a b).1 (ifP X (N8 X.w.op) a b).2) (ifB X (N8 X.w.op) a b)
def branchE (X:Sx)(a b:Vl):Int:=if a.k==0 || b.k==0 then 110 else if memB a && asksB X b then 0 else if !(a.k==1) || !(b.k==1) then 140 else 0
def told1E (X:Sx)(k:Int)(v:Vl)(y:Df):Int:=if (k==1) && !(v.k==0) then (if (v.k==4) && decide (v.i<X.ds.length) then 0 else 113) else toldE X.s X.ds X.ctx k v y
def told1D (X:Sx)(k:Int)(v:Vl)(y:Df):Df:=if (k==1) && !(v.k==0) && (v.k==4) && decide (v.i<X.ds.length) then X.ds.getD v.i.toNat ⟨false,0,0,0⟩ else y
def toldL (X:Sx):List Int→Nat→Df→Int
 | [],_,_=>0
 | k :: r,i,y=>if told1E X k (X.s.r (1+i)) y==0 then toldL X r (i+1) (told1D X k (X.s.r (1+i)) y) else told1E X k (X.s.r (1+i)) y
def sgX (X:Sx):Sg:=sigOf (I32 X.x.imm)
def toldA (X:Sx):Int:=if sigB (I32 X.x.imm) then toldL X (sgX X).told 0 ⟨false,0,0,0⟩ else 112
def retV (X:Sx):Vl:=if (sgX X).tells==2 then ⟨6,Fa.zero,(X.s.r 1).i,0⟩ else belowV (sgX X).most
def callS (X:Sx):St:=(((((X.s.setR 0 (retV X)).setR 1 Vl.zero).setR 2 Vl.zero).setR 3 Vl.zero).setR 4 Vl.zero).setR 5 Vl.zero
def callW (X:Sx):List Wy:=if toldA X==0 then [onW X (callS X)] else []
def longV (X:Sx):Vl:=knownV (longW X.x (X.l.getD (X.at_+1) In.zero))
def aheadR (X:Sx):List Wy × Int :=
 if X.w.kind==1 then (becW X (arithV X (dV X) (sV X)) (arithE X (dV X) (sV X)),arithE X (dV X) (sV X))
 else if X.w.kind==2 then (becW X (swapsV X (dV X)) (swapsE X (dV X)),swapsE X (dV X))
 else if X.w.kind==5 then (becW X (loadV X (X.s.r X.x.src.toNat)) (loadE X (X.s.r X.x.src.toNat)),loadE X (X.s.r X.x.src.toNat))
 else if X.w.kind==3 then (becW X (longV X) 0,0)
 else if X.w.kind==4 then (if decide ((X.ds.length:Int)≤I32 X.x.imm) then ([],113) else (becW X ⟨4,Fa.zero,I32 X.x.imm,0⟩ 0,0))
 else if X.w.kind==6 || X.w.kind==7 || X.w.kind==8 then storeR X (dV X) (sV X)
 else if X.w.kind==9 then (waysW X X.s false X.s true,0)
 else if X.w.kind==10 then (branchW X (dV X) (sV X),branchE X (dV X) (sV X))
 else if X.w.kind==11 then (callW X,toldA X)
 else ([],exitE (X.s.r 0))
def mkX (l:List In)(ds:List Df)(ctx:Int)(at_:Nat)(s:St):Sx:=⟨0,0,l,none,0,ds,ctx,at_,l.getD at_ In.zero,what (l.getD at_ In.zero),s⟩
def frV:Vl:=⟨3,Fa.zero,0,512⟩
def stepB (l:List In)(ds:List Df)(ctx:Int)(at_:Nat)(s:St):Bool:=good l && givenB ds ctx && decide (at_<l.length) && s.right && start l at_ && decide (s.r 10=frV)
def stepR (l:List In)(ds:List Df)(ctx:Int)(at_:Nat)(s:St):List Wy × Int:=if stepB l ds ctx at_ s then aheadR (mkX l ds ctx at_ s) else ([],1)
def tellsB (x:In):Bool:=let k:=(what x).kind;k==1 || k==2 || k==3 || k==4 || k==5
def resultB (l:List In)(at_:Nat)(ws:List Wy):Bool:=decide (at_<l.length) && !ws.isEmpty && tellsB (l.getD at_ In.zero)
def resultV (l:List In)(at_:Nat)(ws:List Wy):Vl:=if resultB l at_ ws then (match ws with|y :: _=>y.s.r (l.getD at_ In.zero).dst.toNat|[]=>Vl.zero) else Vl.zero
end Co
end Hk
