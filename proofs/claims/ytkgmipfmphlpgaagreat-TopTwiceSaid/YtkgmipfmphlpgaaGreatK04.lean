/- A part of the proof of TopTwice. No condition but each statement's own. -/
import Derived.Test.YtkgmipfmphlpgaaGreatK03
open Go Go.RowKit Go.Proofs
set_option linter.all false
set_option maxRecDepth 100000
set_option maxHeartbeats 20000000
namespace Hk
def Q15s (x:In)(y z:Wh)(b d r:Nat)(w:World)(w':World):Prop:=CIn.a w' b x (CWh.a w' d y (CWh.a w' r z ((∀ i,w'.frozen? ⟨r,i,none⟩=false)∧Below w.heap.size w w')))
theorem Qhf {x:In}{y z:Wh}{b d r:Nat}{w:World}:KC (Q15s x y z b d r w):=by
 intro w' w1 h hb;obtain⟨k0,k1,k2,k3,k4,k5,k6,k7,k8,k9,k10,k11,k12,k13,k14,k15,k16,k17,k18⟩:=h;exact⟨Q0 hb k0,Q0 hb k1,Q0 hb k2,Q0 hb k3,Q0 hb k4,Q0 hb k5,Q0 hb k6,Q0 hb k7,Q0 hb k8,Q0 hb k9,Q0 hb k10,Q0 hb k11,Q0 hb k12,Q0 hb k13,Q0 hb k14,Q0 hb k15,Q0 hb k16,Q7 hb k11 k17,Q8 k18 hb⟩
theorem Qzg (x:In)(w:World):Calls Tryz.prog 49 #[x] w (RB.a w (.tuple #[(Co.wideW x),.bool (Co.wideB x)])):=by
 cases h1:(x.dst==10#8)
 case' false=>cases h2:(x.off==0#16)
 all_goals
  go_enter Tryz.func49,Tryz.ntmps49;go_wp2_with (first|fail)
  all_goals
   (try (go_region;go_wp2))
   all_goals
    refine bodyPost_ret (Q1i (fn:=Tryz.f49) rfl _ _ (w.heap.size+1) (Co.wideW x) (Co.wideB x) rfl ?_ ?_ ?_ ?_ ?_ ?_ ?_) rfl ⟨rfl,Yb⟩
    all_goals simp (maxDischargeDepth:=12) [*,go_sem,↓IntWalk.iteOmega,Qb,Co.wideW,Co.wideB,Wh.none]
theorem Qsh (x:In)(w:World):Calls Tryz.prog 50 #[x] w (RB.a w (.tuple #[(Co.swapsW x),.bool (Co.swapsB x)])):=by
 cases h1:(x.dst==10#8)
 case' false=>cases hz:Co.zeros x true true false
 case' false.true=>cases h2:(x.imm==16#32)
 case' false.true.false=>cases h3:(x.imm==32#32)
 case' false.true.false.false=>cases h4:(x.imm==64#32)
 all_goals
  go_enter Tryz.func50,Tryz.ntmps50;go_wp2_with (first|fail)
  all_goals
   refine Q69 (fun f=>Q15s x (Co.swapsW x) (bif f then Co.swapsW x else Wh.none) w.heap.size (w.heap.size+1+1) (w.heap.size+1) w) 23 rfl rfl rfl rfl rfl Yc Yc ?_ ?_
   · refine⟨?_,?_,?_,?_,?_,?_,?_,?_,?_,?_,?_,?_,?_,?_,?_,?_,?_,?_,Yb⟩
     all_goals first|(simp (maxDischargeDepth:=12) [*,go_sem,↓IntWalk.iteOmega,Co.swapsW,Wh.none,Qb];done)|(intro i;simp (maxDischargeDepth:=12) [*,go_sem,↓IntWalk.iteOmega,Co.swapsW,Wh.none,Qb];done)
   apply Exists.intro;refine⟨fun fb=>?_,fun wz hz=>?_,fun w9 hC=>?_⟩
   · refine Yv4 ?_;intro hN
     simp only[List.eraseIdx_cons_succ,List.eraseIdx_cons_zero]
     repeat (first
      | go_big_quiet_skip
      | (go_big_quiet_want
         first
          | ((first|(refine Q5 rfl rfl (fun w' hC=>Yex) ?_)|(refine Q9 rfl rfl (fun w' hC=>Yex) ?_)|(refine Qe rfl rfl (fun w' hC=>Yex) ?_)|(refine Qc rfl rfl (fun w' hC=>Yey) ?_)|(refine Qf rfl rfl (fun w' hC=>Yey) ?_)|(refine Q6 rfl rfl (fun w' hC=>Yex) ?_)|(refine Q3 rfl rfl (fun w' hC=>Yex) ?_))
             simp only[Act.put,List.setIfInBounds_toArray,List.set_cons_succ,List.set_cons_zero]
             go_big_quiet_on)
          | (go_big_quiet_op
             first
              | go_big_quiet_on
              | (apply Exists.intro
                 refine⟨fun w' hC=>?_,?_⟩
                 · (go_at_call 71;refine Y2a ?_;intro w1 hb1)
                   (try simp only[id]);exact⟨rfl,by first|exact hC|exact Qhf _ _ hC hb1⟩
                 go_big_quiet_on))))
     exact wpQuiet_nil rfl
   · obtain⟨k0,k1,k2,k3,k4,k5,k6,k7,k8,k9,k10,k11,k12,k13,k14,k15,k16,k17,k18⟩:=hz
     have z0:=Q1 k0;have z5:=Q1 k5;have z11:=Q1 k11;apply Exists.intro;refine⟨?_,?_⟩
     · simp (maxDischargeDepth:=12) [*,go_sem,↓IntWalk.iteOmega,Co.swapsW,Wh.none,Qb]
       exact rfl
     refine⟨?_,?_,?_,?_,?_,?_,?_,?_,?_,?_,?_,?_,?_,?_,?_,?_,?_,?_,Yb⟩
     all_goals first|(simp (maxDischargeDepth:=12) [*,go_sem,↓IntWalk.iteOmega,Co.swapsW,Wh.none,Qb];done)|(intro i;simp (maxDischargeDepth:=12) [*,go_sem,↓IntWalk.iteOmega,Co.swapsW,Wh.none,Qb];done)
   · obtain⟨k0,k1,k2,k3,k4,k5,k6,k7,k8,k9,k10,k11,k12,k13,k14,k15,k16,k17,k18⟩:=hC
     have z0:=Q1 k0;have z5:=Q1 k5;have z11:=Q1 k11;go_wp2;refine bodyPost_ret (Q1i (fn:=Tryz.f50) rfl _ _ (w.heap.size+1) (Co.swapsW x) (Co.swapsB x) rfl ?_ ?_ ?_ ?_ ?_ ?_ ?_) rfl ⟨rfl,Yb⟩
     all_goals simp (maxDischargeDepth:=12) [*,go_sem,↓IntWalk.iteOmega,Qb,Co.swapsW,Co.swapsB,Wh.none]
end Hk
namespace Hk
def upd (d:Nat→Bool)(i:Nat):Nat→Bool:=fun j=>j==i || d j
def Qo (ν:Nat→Nat × Nat)(i:Nat)(c:Nat × Nat):Nat→Nat × Nat:=fun j=>if j=i then c else ν j
abbrev NT (C:(Nat→Bool)→(Nat→Nat × Nat)→World→Prop)(A:List Nat):Prop:=∀ i,i∈A→∀ d ν c w',d i=false→C d ν w'→C d (Qo ν i c) w'
def Q2l (ops:Array Oper)(j:Nat):Option Tmp:=(ops[j]?).bind (·.dst)
def Quw (a:Act)(t:Option Tmp):Value:=match t with|some t=>a.tmps.getD t undef|none=>undef
section
variable {P : Program} {ops : Array Oper}
structure Rdy (ops:Array Oper) (i:Nat) (d:Nat→Bool):Prop where
 ahead:∀ j,Region.waitsFor .any ops i j=true→d j=true
 shut:∀ j k,Region.waitsFor .any ops j k=true→d j=true→d k=true
 open_ : d i = false
theorem Rdy.early {i j:Nat}{d:Nat→Bool}(h:Rdy ops i d)(hw:Region.waitsFor .any ops j i=true):d j=false:=by
 cases hq:d j with
 | false=>rfl
 | true=>have:=h.shut j i hw hq;rw[h.open_] at this;cases this
def Q19n (D:World→Prop):Prop:=∀ w w',D w→Below w.heap.size w w'→D w'
abbrev Cls:=(Nat→Bool)→(Nat→Nat × Nat)→World→Prop
inductive Move (P:Program) (ops:Array Oper) (C:Cls) (S A:List Nat) (val:Nat→Nat × Nat→Value) (ν:Nat→Nat × Nat) (i:Nat) (o:Oper) (a a':Act):Prop
 | quiet (hS:i ∉ S) (ha:a'=a.put o.dst (Quw a' o.dst)) (h:∀ D:World→Prop,Q19n D→(∀ w,D w→∃ d,Rdy ops i d∧C d ν w)→(∀ p:Prop,(∀ w',D w'→p)=p)→∀ K:Act→Prop,K a'→wpQuiet P ops D K [o] a)
 | skip (hw:Region.wanted o (yielded ops a.tmps)=false) (ha:a'=a.put o.dst undef) (h:∀ d w,Rdy ops i d→C d ν w→C (upd d i) ν w)
 | store (hw:Region.wanted o (yielded ops a.tmps)=true) (ha:a'=a.put o.dst undef) (h:∀ d w,Rdy ops i d→C d ν w→∃ w',(execOp a.eval o).run P w=.ok .skip w'∧C (upd d i) ν w')
 | make (hA : i ∈ A) (hw : Region.wanted o (yielded ops a.tmps) = true) (ha : a' = a.put o.dst (val i (ν i)))
     (h:∀ d w,Rdy ops i d→C d ν w→∃ c w',(execOp a.eval o).run P w=.ok (.value (val i c)) w'∧C (upd d i) (Qo ν i c) w')
 | call (hA : i ∈ A) (hw : Region.wanted o (yielded ops a.tmps) = true) (ha : a' = a.put o.dst (val i (ν i)))
     (h:∀ d w,Rdy ops i d→C d ν w→∃ f args,(execOp a.eval o).run P w=.ok (.enter f args) w∧Calls P f args w fun e w'=>∃ c,e=.returned (val i c)∧C (upd d i) (Qo ν i c) w')
def Q3o (P:Program)(ops:Array Oper)(C:Cls)(S A:List Nat)(val:Nat→Nat × Nat→Value)(ν:Nat→Nat × Nat)(Q:Act→Prop):Nat→List Oper→Act→Prop
 | _,[],a=>Q a
 | i,o :: r,a=>∃ a',Move P ops C S A val ν i o a a'∧Q3o P ops C S A val ν Q (i+1) r a'
variable {C : Cls} {S A : List Nat} {val : Nat → Nat × Nat → Value} {ν : Nat → Nat × Nat}
theorem Move.put {i:Nat}{o:Oper}{a a':Act}(h:Move P ops C S A val ν i o a a'):∃ v,a'=a.put o.dst v:=by
 cases h with
 | quiet hS ha h=>exact⟨_,ha⟩
 | skip hw ha h=>exact⟨_,ha⟩
 | store hw ha h=>exact⟨_,ha⟩
 | make hA hw ha h=>exact⟨_,ha⟩
 | call hA hw ha h=>exact⟨_,ha⟩
theorem Q150 {aend:Act}:∀ (l:List Oper) (i:Nat) (a:Act),(∀ j,l[j]?=ops[i+j]?)→Q3o P ops C S A val ν (fun a'=>a'=aend) i l a →
 ∃ bs:Nat→Act,bs i=a∧bs (i+l.length)=aend∧∀ j,i≤j→j<i+l.length→∃ o,ops[j]?=some o∧Move P ops C S A val ν j o (bs j) (bs (j+1))
 | [],i,a,_,h=>⟨fun _=>a,rfl,h,fun j h1 h2=>by simp at h2;omega⟩
 | o :: r,i,a,hl,h=>by
   obtain⟨a',hm,hr⟩:=h;obtain⟨bs,h1,h2,h3⟩:=Q150 r (i+1) a' (fun j=>by have:=hl (j+1);simpa[Nat.add_assoc,Nat.add_comm 1 j] using this) hr;refine⟨fun j=>if j=i then a else bs j,by simp,?_,fun j hj1 hj2=>?_⟩
   · simp only[List.length_cons]
     rw[if_neg Y1,show i+(r.length+1)=i+1+r.length from Y1];exact h2
   · by_cases hji:j=i
     · subst hji
       refine⟨o,by simpa using (hl 0).symm,?_⟩;simp only[if_true];rw[if_neg Y1,h1];exact hm
     · obtain⟨o',ho,hm'⟩:=h3 j Y1 (by simp only[List.length_cons] at hj2;omega)
       refine⟨o',ho,?_⟩;simp only;rw[if_neg hji,if_neg Y1];exact hm'
def wrB (ops:Array Oper)(d:Nat→Bool)(t:Tmp):Bool:=(List.range ops.size).any fun j=>d j && (Q2l ops j==some t)
structure Agr (ops:Array Oper) (a0 aend:Act) (d:Nat→Bool) (a:Act):Prop where
 defers:a.defers=a0.defers
 size:a.tmps.size=a0.tmps.size
 slot:∀ t,a.tmps[t]?=if wrB ops d t then aend.tmps[t]? else a0.tmps[t]?
theorem Qda (a:Act)(t:Tmp)(v:Value)(u:Tmp):(a.put (some t) v).tmps[u]?=if t=u∧t<a.tmps.size then some v else a.tmps[u]?:=by
 show (a.tmps.setIfInBounds t v)[u]?=_;rw[Array.getElem?_setIfInBounds];by_cases h:t=u
 · subst h
   by_cases h2:t<a.tmps.size
   · simp[h2]
   · simp[h2]
 · simp[h]
theorem Qd9 (a:Act)(t:Option Tmp)(v:Value):(a.put t v).tmps.size=a.tmps.size:=by cases t<;>simp[Act.put]
theorem Q7g (a:Act)(t:Option Tmp)(v:Value):(a.put t v).defers=a.defers:=by cases t<;>simp[Act.put]
def Qkv (ops:Array Oper):Bool:=(List.range ops.size).all fun i=>(List.range ops.size).all fun j=>i==j || (Q2l ops i).isNone || (Q2l ops i != Q2l ops j)
theorem Q6v (h:Qkv ops=true){i j:Nat}(hi:i<ops.size)(hj:j<ops.size)(hij:i≠j){t:Tmp}(ht:Q2l ops i=some t):Q2l ops j≠some t:=by
 have h1:=List.all_eq_true.1 (List.all_eq_true.1 h i (List.mem_range.2 hi)) j (List.mem_range.2 hj);simp[hij,ht] at h1;exact fun e=>h1 e.symm
theorem Q2q {d:Nat→Bool}{t:Tmp}:wrB ops d t=true ↔ ∃ j,j<ops.size∧d j=true∧Q2l ops j=some t:=by
 unfold wrB;rw[List.any_eq_true];constructor
 · rintro⟨j,hj,h⟩
   simp only[Bool.and_eq_true,beq_iff_eq] at h;exact⟨j,List.mem_range.1 hj,h.1,h.2⟩
 · rintro⟨j,hj,h1,h2⟩
   exact⟨j,List.mem_range.2 hj,by simp[h1,h2]⟩
theorem Agr.put {a0 aend a:Act}{d:Nat→Bool}{i:Nat}{o:Oper}{v:Value}(h:Agr ops a0 aend d a)(hi:ops[i]?=some o)(hv:∀ t,o.dst=some t→t<a0.tmps.size→aend.tmps[t]?=some v)(hs:aend.tmps.size=a0.tmps.size) :
 Agr ops a0 aend (upd d i) (a.put o.dst v):=by
 have hin:i<ops.size:=(Array.getElem?_eq_some_iff.1 hi).1;refine⟨(Q7g _ _ _).trans h.defers,(Qd9 _ _ _).trans h.size,fun t=>?_⟩
 have hW:wrB ops (upd d i) t=(decide (o.dst=some t) || wrB ops d t):=by
  rw[Bool.eq_iff_iff,Q2q,Bool.or_eq_true,Q2q,decide_eq_true_eq];have hdi:Q2l ops i=o.dst:=by unfold Q2l;rw[hi];rfl
  constructor
  · rintro⟨j,hj,h1,h2⟩
    unfold upd at h1;simp only[Bool.or_eq_true,beq_iff_eq] at h1;rcases h1 with h1|h1
    · subst h1;exact .inl (hdi ▸ h2)
    · exact .inr ⟨j,hj,h1,h2⟩
  · rintro (h1|⟨j,hj,h1,h2⟩)
    · exact⟨i,hin,by simp[upd],hdi.trans h1⟩
    · exact⟨j,hj,by simp[upd,h1],h2⟩
 rw[hW];cases hd:o.dst with
 | none=>simp only[reduceCtorEq,decide_false,Bool.false_or];exact h.slot t
 | some u =>
   rw[Qda];by_cases hu:u=t
   · subst hu
     simp only[decide_true,Bool.true_or,if_true,true_and];by_cases hlt:u<a.tmps.size
     · rw[if_pos hlt];exact (hv u hd (by rw[← h.size];exact hlt)).symm
     · rw[if_neg hlt,Array.getElem?_eq_none (show a.tmps.size≤u from Nat.le_of_not_lt hlt),Array.getElem?_eq_none (show aend.tmps.size≤u by rw[hs,← h.size];exact Nat.le_of_not_lt hlt)]
   · have hne:¬ (some u=some t):=fun e=>hu (Option.some.inj e)
     rw[if_neg (fun e=>hu e.1),h.slot t];simp[hne,hu]
theorem Agr.exec {a0 aend a b:Act}{d d':Nat→Bool}{o:Oper}(ha:Agr ops a0 aend d a)(hb:Agr ops a0 aend d' b)(hsel:∀ cs b,o.op≠.select cs b)(h:∀ t∈o.looksAt ops,wrB ops d t=wrB ops d' t) :
 execOp a.eval o=execOp b.eval o∧Region.wanted o (yielded ops a.tmps)=Region.wanted o (yielded ops b.tmps):=by
 have hs:∀ t∈o.looksAt ops,a.tmps[t]?=b.tmps[t]?:=fun t ht=>by rw[ha.slot,hb.slot,h t ht]
 constructor
 · refine execOp_congr o hsel fun x hx=>?_
   cases x with
   | tmp t =>
     have:=hs t (List.mem_append_left _ (List.mem_filterMap.2 ⟨.tmp t,by simpa using hx,rfl⟩));simp only[Act.eval,Array.getD_eq_getD_getElem?,this]
   | _=>rfl
 · unfold Region.wanted
   cases hg:o.guard with
   | none=>rfl
   | some gw =>
     obtain⟨g,want⟩:=gw
     have hy:yielded ops a.tmps g=yielded ops b.tmps g:=by
      unfold yielded;cases ht:(ops[g]?).bind (·.dst) with
      | none=>rfl
      | some t=>have e:=hs t (List.mem_append_right _ (by simp[hg,ht]));simp[e]
     simp only[hy]
def Q10f (ops:Array Oper):Bool:=(List.range ops.size).all fun k=>match ops[k]? with|some o=>o.after.all fun e=>!Region.binds .any e || decide (e.on<k)|none=>true
def Q138 (ops:Array Oper):Bool:=(List.range ops.size).all fun i=>match ops[i]? with
 | some o=>(List.range ops.size).all fun j=>match Q2l ops j with
   | some t=>!(o.looksAt ops).contains t || (decide (j<i) && Region.waitsFor .any ops i j) || (decide (i<j) && Region.waitsFor .any ops j i)
   | none=>true
 | none=>true
def Q14q (ops:Array Oper)(i:Nat):List Nat:=(List.range ops.size).foldl (fun acc k=>if k==i || acc.any (fun k'=>Region.waitsFor .any ops k k') then k :: acc else acc) []
def Qv7 (ops:Array Oper)(i:Nat):Bool:=(Q14q ops i).all fun k=>k==i || (Q14q ops i).any fun k'=>decide (k'<k) && Region.waitsFor .any ops k k'
def Q9p (ops:Array Oper)(i:Nat):List Tmp:=(Q14q ops i).filterMap (Q2l ops)
def Q77 (D:List Tmp):Nat→List Value→List Value
 | _,[]=>[]
 | k,v :: r=>(bif D.contains k then undef else v) :: Q77 D (k+1) r
theorem Qdw {D:List Tmp}:∀ (L1 L2:List Value) (k t:Nat),Q77 D k L1=Q77 D k L2→D.contains (k+t)=false→L1[t]?=L2[t]?
 | [],[],_,_,_,_=>rfl
 | [],_ :: _,_,_,h,_=>by simp[Q77] at h
 | _ :: _,[],_,_,h,_=>by simp[Q77] at h
 | a :: l,b :: m,k,t,h,hd=>by
   simp only[Q77,List.cons.injEq] at h;cases t with
   | zero=>rw[Nat.add_zero] at hd;rw[hd] at h;simpa using h.1
   | succ t=>simpa using Qdw l m (k+1) t h.2 (by rw[show k+1+t=k+(t+1) from Y1];exact hd)
def Qyh (ops:Array Oper)(A:List Nat):Bool:=Region.noSelect ops && Q10f ops && Qkv ops && Q138 ops && A.all (Qv7 ops)
theorem Q6w {i:Nat}{d:Nat→Bool}(h:Qv7 ops i=true)(hd:∀ j k,Region.waitsFor .any ops j k=true→d j=true→d k=true)(hi:d i=false):∀ m k,k<m→k∈Q14q ops i→d k=false
 | 0,k,hk,_=>by omega
 | m+1,k,hk,hm=>by
   have h1:=List.all_eq_true.1 h k hm;simp only[Bool.or_eq_true,beq_iff_eq,List.any_eq_true,Bool.and_eq_true,decide_eq_true_eq] at h1;rcases h1 with h1|⟨k',hk',hlt,hw⟩
   · subst h1;exact hi
   · have h2:=Q6w h hd hi m k' Y1 hk'
     cases hdk:d k with
     | false=>rfl
     | true=>rw[hd k k' hw hdk] at h2;cases h2
def Q1r (listed:Array Bool):Nat→Bool:=fun i=>listed.getD i false
theorem Qkl {listed:Array Bool}{i:Nat}(hi:i<listed.size):Q1r (listed.setIfInBounds i true)=upd (Q1r listed) i:=by
 funext j
 unfold Q1r upd;by_cases h:i=j
 · subst h;simp[hi]
 · have h':(j==i)=false:=by simp;exact fun e=>h e.symm
   rw[getD_set_ne false h,h',Bool.false_or]
theorem Q9s (d:Nat→Bool)(i:Nat):∀ n,i<n→d i=false→((List.range n).filter fun j=>!upd d i j).length<((List.range n).filter fun j=>!d j).length
 | 0,h,_=>by omega
 | n+1,h,hd=>by
   rw[List.range_succ,List.filter_append,List.filter_append,List.length_append,List.length_append];by_cases hn:i=n
   · subst hn
     have e:∀ m,m≤i→((List.range m).filter fun j=>!upd d i j)=((List.range m).filter fun j=>!d j):=fun m hm=>by
      apply List.filter_congr;intro j hj;have:(j==i)=false:=by simp;have:=List.mem_range.1 hj;omega
      simp[upd,this]
     rw[e i (Nat.le_refl _)];simp[upd,hd]
   · have ih:=Q9s d i n Y1 hd
     have:(n==i)=false:=Y4;have e:([n].filter fun j=>!upd d i j)=[n].filter fun j=>!d j:=by apply List.filter_congr;intro j hj;simp only[List.mem_singleton] at hj;subst hj;simp[upd,this]
     rw[e];omega
theorem Ql6 {a0 aend:Act}{bs:Nat→Act}(hD:Qkv ops=true)(h0:bs 0=a0)(hn:bs ops.size=aend)(h:∀ j,j<ops.size→∃ o,ops[j]?=some o∧∃ v,bs (j+1)=(bs j).put o.dst v) :
 (aend.tmps.size=a0.tmps.size∧aend.defers=a0.defers)∧∀ k,k≤ops.size→Agr ops a0 aend (fun j=>decide (j<k)) (bs k):=by
 have fwd:∀ k,k≤ops.size→(bs k).tmps.size=a0.tmps.size∧(bs k).defers=a0.defers∧∀ t,(∀ j,j<k→Q2l ops j≠some t)→(bs k).tmps[t]?=a0.tmps[t]?:=by
  intro k
  induction k with
  | zero=>intro _;rw[h0];exact⟨rfl,rfl,fun _ _=>rfl⟩
  | succ k ih =>
    intro hk;obtain⟨o,ho,v,hv⟩:=h k Y1;obtain⟨i1,i2,i3⟩:=ih Y1;rw[hv];refine⟨(Qd9 _ _ _).trans i1,(Q7g _ _ _).trans i2,fun t ht=>?_⟩;have hk2:=ht k Y1;have hdk:Q2l ops k=o.dst:=by unfold Q2l;rw[ho];rfl
    rw[← i3 t (fun j hj=>ht j Y1)];cases hd:o.dst with
    | none=>rfl
    | some u =>
      rw[Qda,if_neg];rintro⟨e,_⟩;exact hk2 (by rw[hdk,hd,e])
 have bwd:∀ m k t j,k+m=ops.size→j<k→Q2l ops j=some t→(bs k).tmps[t]?=aend.tmps[t]?:=by
  intro m
  induction m with
  | zero=>intro k t j hk _ _;rw[← hn];simp only[Nat.add_zero] at hk;rw[hk]
  | succ m ih =>
    intro k t j hk hj ht;rw[← ih (k+1) t j Y1 Y1 ht];obtain⟨o,ho,v,hv⟩:=h k Y1;have hdk:Q2l ops k=o.dst:=by unfold Q2l;rw[ho];rfl
    rw[hv];cases hd:o.dst with
    | none=>rfl
    | some u =>
      rw[Qda,if_neg];rintro⟨e,_⟩;exact Q6v hD Y1 Y1 (show j≠k from Y1) ht (by rw[hdk,hd,e])
 have he:=fwd ops.size (Nat.le_refl _);rw[hn] at he;refine⟨⟨he.1,he.2.1⟩,fun k hk=>?_⟩;obtain⟨f1,f2,f3⟩:=fwd k hk;refine⟨f2,f1,fun t=>?_⟩;cases hW:wrB ops (fun j=>decide (j<k)) t with
 | true =>
   obtain⟨j,hj,hjk,ht⟩:=Q2q.1 hW;simp only[decide_eq_true_eq] at hjk;rw[if_pos rfl];exact bwd (ops.size - k) k t j Y1 hjk ht
 | false =>
   rw[if_neg Y3];refine f3 t fun j hj e=>?_
   have:wrB ops (fun j=>decide (j<k)) t=true:=Q2q.2 ⟨j,Y1,by simpa using hj,e⟩;rw[hW] at this;cases this
theorem Qrs {Q':Exit→Act→World→Prop}{a0:Act}{aend:(Nat→Nat × Nat)→Act}(hB:Qyh ops A=true)
 (hmono:∀ d d' ν w,(∀ s∈S,d s=d' s)→C d ν w→C d' ν w) (hshut:∀ d ν,Q19n (C d ν))
 (hν:∀ i∈A,∀ d ν c w,d i=false→C d ν w→C d (Qo ν i c) w)
 (H:∀ ν,Q3o P ops C S A val ν (fun a'=>a'=aend ν) 0 ops.toList a0)
 (hA:∀ i∈A,∀ ν c,Q77 (Q9p ops i) 0 (aend (Qo ν i c)).tmps.toList=Q77 (Q9p ops i) 0 (aend ν).tmps.toList)
 (hV:∀ i∈A,∀ ν t,Q2l ops i=some t→(aend ν).tmps[t]?=some (val i (ν i)))
 (hQ:∀ ν w d,(∀ i,i<ops.size→d i=true)→C d ν w→Q' .normal (aend ν) w) :
 ∀ (f:Nat) (listed:Array Bool) (ν:Nat→Nat × Nat) (a:Act) (w:World),listed.size=ops.size →
  ((List.range ops.size).filter fun j=>!Q1r listed j).length≤f→(∀ j k,Region.waitsFor .any ops j k=true→Q1r listed j=true→Q1r listed k=true) →
  Agr ops a0 (aend ν) (Q1r listed) a→C (Q1r listed) ν w→wpAny P .any ops Q' f listed a w:=by
 simp only[Qyh,Bool.and_eq_true] at hB;obtain⟨⟨⟨⟨hsel,hA0⟩,hD⟩,hO⟩,hdesc⟩:=hB
 have hch:∀ ν,∃ bs:Nat→Act,bs 0=a0∧bs ops.size=aend ν∧∀ j,j<ops.size→∃ o,ops[j]?=some o∧Move P ops C S A val ν j o (bs j) (bs (j+1)):=fun ν=>by
  obtain⟨bs,h1,h2,h3⟩:=Q150 ops.toList 0 a0 (fun j=>by simp) (H ν);refine⟨bs,h1,Yen,fun j hj=>h3 j Y1 (by simpa using hj)⟩
 have hag:=fun ν (bs:Nat→Act) (h0:bs 0=a0) (hn:bs ops.size=aend ν) (h:∀ j,j<ops.size→∃ o,ops[j]?=some o∧Move P ops C S A val ν j o (bs j) (bs (j+1))) =>
  Ql6 hD h0 hn fun j hj=>(h j hj).elim fun o ho=>⟨o,ho.1,ho.2.put⟩
 have hsz:∀ ν,(aend ν).tmps.size=a0.tmps.size:=fun ν=>by
  obtain⟨bs,h1,h2,h3⟩:=hch ν;exact (hag ν bs h1 h2 h3).1.1
 have fin:∀ (listed:Array Bool) (ν:Nat→Nat × Nat) (a:Act) (w:World),(∀ j,j<ops.size→Q1r listed j=true)→Agr ops a0 (aend ν) (Q1r listed) a→C (Q1r listed) ν w→Q' .normal a w:=fun listed ν a w hall hagr hC=>by
  obtain⟨bs,h1,h2,h3⟩:=hch ν;have h4:=(hag ν bs h1 h2 h3);have h5:=h4.2 ops.size (Nat.le_refl _);rw[h2] at h5
  have e:a=aend ν:=by
   have e1:∀ t,wrB ops (Q1r listed) t=wrB ops (fun j=>decide (j<ops.size)) t:=fun t=>by
    rw[Bool.eq_iff_iff,Q2q,Q2q];constructor
    · rintro⟨j,hj,_,ht⟩;exact⟨j,hj,by simpa using hj,ht⟩
    · rintro⟨j,hj,_,ht⟩;exact⟨j,hj,hall j hj,ht⟩
   have e2:a.tmps=(aend ν).tmps:=by
    apply Array.ext_getElem?;intro t;rw[hagr.slot,e1,← h5.slot]
   have e3:a.defers=(aend ν).defers:=hagr.defers.trans h5.defers.symm;cases a;cases h:aend ν;rw[h] at e2 e3;simp only at e2 e3;rw[e2,e3]
  rw[e];exact hQ ν w _ hall hC
 intro f
 induction f with
 | zero =>
   intro listed ν a w hls hcnt hshut' hagr hC
   have hall:∀ j,j<ops.size→Q1r listed j=true:=fun j hj=>by
    cases hf:Q1r listed j with
    | true=>rfl
    | false =>
      have:j∈(List.range ops.size).filter fun j=>!Q1r listed j:=List.mem_filter.2 ⟨List.mem_range.2 hj,by simp[hf]⟩
      rw[List.eq_nil_of_length_eq_zero (Nat.le_zero.1 hcnt)] at this;cases this
   refine⟨?_,fin listed ν a w hall hagr hC⟩;cases hr:Region.ready .any ops listed with
   | nil=>rfl
   | cons i r =>
     have hi:i∈Region.ready .any ops listed:=by rw[hr];simp
     obtain⟨hun,oi,hoi,_⟩:=mem_ready.1 hi;have:=hall i (Array.getElem?_eq_some_iff.1 hoi).1;unfold Q1r at this;rw[getD_both hun] at this;cases this
 | succ f ih =>
   intro listed ν a w hls hcnt hshut' hagr hC;constructor
   · intro hr
     refine fin listed ν a w (fun j hj=>?_) hagr hC
     have key:∀ m j,j<m→j<ops.size→Q1r listed j=true:=by
      intro m
      induction m with
      | zero=>intro j hj _;omega
      | succ m ihm =>
        intro j hj hjs;cases hf:Q1r listed j with
        | true=>rfl
        | false =>
          have ho:ops[j]?=some ops[j]:=Array.getElem?_eq_getElem hjs;have h1:=List.all_eq_true.1 hA0 j (List.mem_range.2 hjs);simp only[ho,Array.all_eq_true_iff_forall_mem] at h1
          have:j∈Region.ready .any ops listed:=mem_ready.2 ⟨getD_in Y1 hf,_,ho,fun e he hb=>by
           have h2:=h1 e he;simp only[hb,Bool.not_true,Bool.false_or,decide_eq_true_eq] at h2
           exact ihm e.on Y1 Y1⟩
          rw[hr] at this;cases this
     exact key (j+1) j Y1 hj
   · intro i hi
     obtain⟨hun,oi,hoi,hall⟩:=mem_ready.1 hi;have hin:i<ops.size:=(Array.getElem?_eq_some_iff.1 hoi).1;have hfi:Q1r listed i=false:=getD_both hun
     have hrdy:Rdy ops i (Q1r listed):=⟨fun j hj=>by
      obtain⟨o',ho',e,he,hb,hon⟩:=Region.waitsFor_spec hj;have:o'=oi:=Option.some.inj (ho'.symm.trans hoi);subst this;rw[← hon]
      exact hall e he hb,hshut',hfi⟩
     obtain⟨bs,h1,h2,h3⟩:=hch ν;obtain⟨⟨hs1,hs2⟩,hagb⟩:=hag ν bs h1 h2 h3;obtain⟨o',ho',hmv⟩:=h3 i hin;have:o'=oi:=Option.some.inj (ho'.symm.trans hoi);subst this;have hsl:∀ cs b,o'.op≠.select cs b:=fun cs b=>Region.noSelect_spec hsel i o' cs b hoi
     have hlook:∀ t∈o'.looksAt ops,wrB ops (Q1r listed) t=wrB ops (fun j=>decide (j<i)) t:=fun t ht=>by
      have h4:=List.all_eq_true.1 hO i (List.mem_range.2 hin);simp only[hoi,List.all_eq_true,List.mem_range] at h4
      have h5:∀ j,j<ops.size→Q2l ops j=some t→(j<i∧Region.waitsFor .any ops i j=true)∨(i<j∧Region.waitsFor .any ops j i=true):=fun j hj hd=>by
       have h6:=h4 j hj;simp only[hd,List.contains_iff_mem.2 ht,Bool.not_true,Bool.false_or,Bool.or_eq_true,Bool.and_eq_true,decide_eq_true_eq] at h6;exact h6
      rw[Bool.eq_iff_iff,Q2q,Q2q];constructor
      · rintro⟨j,hj,hf,hd⟩
        rcases h5 j hj hd with h|h
        · exact⟨j,hj,by simpa using h.1,hd⟩
        · have:=hrdy.shut j i h.2 hf
          rw[hfi] at this;cases this
      · rintro⟨j,hj,hf,hd⟩
        simp only[decide_eq_true_eq] at hf;rcases h5 j hj hd with h|h
        · exact⟨j,hj,hrdy.ahead j h.2,hd⟩
        · omega
     obtain⟨hex,hwt⟩:=hagr.exec (hagb i Y1) hsl hlook;have hset:=Qkl (i:=i) (listed:=listed) Y1;have hls':(listed.setIfInBounds i true).size=ops.size:=by simpa using hls
     have hcnt':((List.range ops.size).filter fun j=>!Q1r (listed.setIfInBounds i true) j).length≤f:=by
      rw[hset];have:=Q9s (Q1r listed) i ops.size hin hfi;omega
     have hcl':∀ j k,Region.waitsFor .any ops j k=true→Q1r (listed.setIfInBounds i true) j=true→Q1r (listed.setIfInBounds i true) k=true:=fun j k hw hj=>by
      rw[hset] at hj ⊢;unfold upd at hj ⊢;simp only[Bool.or_eq_true,beq_iff_eq] at hj ⊢;rcases hj with hj|hj
      · subst hj;exact .inr (hrdy.ahead k hw)
      · exact .inr (hshut' j k hw hj)
     have hlast:∀ v,bs (i+1)=(bs i).put o'.dst v→∀ t,o'.dst=some t→t<a0.tmps.size→(aend ν).tmps[t]?=some v:=fun v hv t ht hlt=>by
      have h6:=(hagb (i+1) Y1).slot t;rw[if_pos (Q2q.2 ⟨i,hin,by simp,by unfold Q2l;rw[hoi];exact ht⟩),hv,ht,Qda,if_pos ⟨rfl,by rw[(hagb i Y1).size];exact hlt⟩] at h6;exact h6.symm
     have step:∀ v w',bs (i+1)=(bs i).put o'.dst v→C (upd (Q1r listed) i) ν w'→wpAny P .any ops Q' f (listed.setIfInBounds i true) (a.put o'.dst v) w':=fun v w' hv hC' =>
      ih _ ν _ w' hls' hcnt' hcl' (by rw[hset];exact hagr.put hoi (hlast v hv) (hsz ν)) (by rw[hset];exact hC')
     have made:i∈A→∀ c w',C (upd (Q1r listed) i) (Qo ν i c) w'→wpAny P .any ops Q' f (listed.setIfInBounds i true) (a.put o'.dst (val i c)) w':=fun hA' c w' hC'=>by
      obtain⟨bs',g1,g2,g3⟩:=hch (Qo ν i c);obtain⟨_,hagb'⟩:=hag _ bs' g1 g2 g3
      have hsame:∀ j t,Q1r listed j=true→j<ops.size→Q2l ops j=some t→(aend (Qo ν i c)).tmps[t]?=(aend ν).tmps[t]?:=fun j t hj hjs hd=>by
       have hnd:¬ j∈Q14q ops i:=fun hm=>by
        have:=Q6w (List.all_eq_true.1 hdesc i hA') hshut' hfi (j+1) j Y1 hm;rw[hj] at this;cases this
       have hmem:(Q9p ops i).contains (0+t)=false:=by
        rw[Bool.eq_false_iff,Nat.zero_add];intro hc;obtain⟨j',hj',hd'⟩:=List.mem_filterMap.1 (List.contains_iff_mem.1 hc)
        have hl':j'<ops.size:=by
         unfold Q2l at hd';rcases Nat.lt_or_ge j' ops.size with h|h
         · exact h
         · rw[Array.getElem?_eq_none h] at hd';cases hd'
        by_cases e:j=j'
        · subst e;exact hnd hj'
        · exact Q6v hD hjs hl' e hd hd'
       have:=Qdw _ _ 0 t (hA i hA' ν c) hmem;simpa using this
      have hself:∀ t,o'.dst=some t→t<a0.tmps.size→(aend (Qo ν i c)).tmps[t]?=some (val i c):=fun t ht hlt=>by
       have hd:Q2l ops i=some t:=by unfold Q2l;rw[hoi];exact ht
       have:=hV i hA' (Qo ν i c) t hd;rw[this];unfold Qo;rw[if_pos rfl]
      have hag':Agr ops a0 (aend (Qo ν i c)) (Q1r listed) a:=⟨hagr.defers,hagr.size,fun t=>by
       rw[hagr.slot];cases hW:wrB ops (Q1r listed) t with
       | true =>
         obtain⟨j,hj,hf,hd⟩:=Q2q.1 hW;simp only[if_true];exact (hsame j t hf hj hd).symm
       | false=>simp⟩
      exact ih _ (Qo ν i c) _ w' hls' hcnt' hcl' (by rw[hset];exact hag'.put hoi hself (hsz _)) (by rw[hset];exact hC')
     unfold wpOp;simp only[hoi,hwt];cases hmv with
     | quiet hS ha h =>
       have hmon:∀ w',C (Q1r listed) ν w'→C (upd (Q1r listed) i) ν w':=fun w' h'=>hmono _ _ _ _ (fun s hs=>by
        have:(s==i)=false:=by simp;rintro rfl;exact hS hs
        unfold upd;rw[this,Bool.false_or]) h'
       have h:=h (C (Q1r listed) ν) (hshut _ _) (fun w' h'=>⟨_,hrdy,h'⟩) (fun p=>propext ⟨fun k=>k _ hC,fun k _ _=>k⟩) (fun x=>x=bs (i+1)) rfl;simp only[wpQuiet] at h;split
       · rename_i hw
         rw[if_pos hw] at h;obtain⟨v,hv,e⟩:=h;refine .inl (Oper.wp_of_quiet (K:=fun x=>x=a.put o'.dst v) hC (fun a' w' hw' e'=>?_) ⟨v,fun w' hw'=>?_,rfl⟩)
         · rw[e'];exact step v w' e.symm (hmon _ hw')
         · have:=hv w' hw'
           unfold Oper.quietAt at *;rw[hex];exact this
       · rename_i hw
         rw[if_neg hw] at h;exact step _ w h.symm (hmon _ hC)
     | skip hw ha h =>
       rw[hw,if_neg Y3];exact step _ w ha (h _ _ hrdy hC)
     | store hw ha h =>
       rw[hw,if_pos rfl];obtain⟨w',hr,hC'⟩:=h _ _ hrdy hC;refine .inl ?_;unfold Oper.wp;rw[hex,hr];simp only[Oper.upon];exact step _ w' ha hC'
     | make hA' hw ha h =>
       rw[hw,if_pos rfl];obtain⟨c,w',hr,hC'⟩:=h _ _ hrdy hC;refine .inl ?_;unfold Oper.wp;rw[hex,hr];simp only[Oper.upon];exact made hA' c w' hC'
     | call hA' hw ha h =>
       rw[hw,if_pos rfl];obtain⟨fn,args,hr,hcl⟩:=h _ _ hrdy hC;refine .inl ?_;unfold Oper.wp;rw[hex,hr];simp only[Oper.upon];refine hcl.mono ?_;rintro e w' ⟨c,rfl,hC'⟩;exact made hA' c w' hC'
theorem Q2 {id:Nat}{Q:Exit→Act→World→Prop}{a:Act}{w:World}{l:List Oper}(C:Cls)(S A:List Nat)(val:Nat→Nat × Nat→Value)(hm:P.follows .mixedOrders=true)(hB:Qyh l.toArray A=true)
 (hC:∀ d ν,(∀ i,i<l.length→d i=false)→C d ν w.drew) (hmono:∀ d d' ν w,(∀ s∈S,d s=d' s)→C d ν w→C d' ν w) (hshut:∀ d ν w w',C d ν w→Below w.heap.size w w'→C d ν w')
 (hν:∀ i∈A,∀ d ν c w,d i=false→C d ν w→C d (Qo ν i c) w)
 (H:∃ aend:(Nat→Nat × Nat)→Act,(∀ ν,Q3o P l.toArray C S A val ν (fun a'=>a'=aend ν) 0 l a) ∧
   (∀ i∈A,(∀ ν c,Q77 (Q9p l.toArray i) 0 (aend (Qo ν i c)).tmps.toList=Q77 (Q9p l.toArray i) 0 (aend ν).tmps.toList)∧∀ ν,(aend ν).tmps[(Q2l l.toArray i).getD 0]?=some (val i (ν i))) ∧
   ∀ ν w d,(∀ i,i<l.length→d i=true)→C d ν w→Q .normal (aend ν) w):(Code.region id l.toArray true).wp P Q a w:=by
 obtain⟨aend,H,hA,hQ⟩:=H;refine wp_region_any hm ?_;have hf0:∀ i,Q1r (Array.replicate l.toArray.size false) i=false:=fun i=>getD_replicate_false _ _
 have hW0:∀ t,wrB l.toArray (Q1r (Array.replicate l.toArray.size false)) t=false:=fun t=>by
  rw[Bool.eq_false_iff];intro h;obtain⟨j,_,h2,_⟩:=Q2q.1 h;rw[hf0] at h2;cases h2
 refine Qrs (S := S) (val := val) hB hmono (fun d ν w w' => hshut d ν w w') hν (aend := aend) (fun ν => by simpa using H ν) (fun i hi => (hA i hi).1) (fun i hi ν t ht => by have := (hA i hi).2 ν; rw [ht] at this; exact this)
   (fun ν w d hd=>hQ ν w d (by simpa using hd)) _ _ (fun _=>(0,0)) a _ Y3 ?_ ?_ ⟨rfl,rfl,fun t=>by rw[hW0];simp⟩ (hC _ _ fun i _=>hf0 i)
 · exact Nat.le_trans (List.length_filter_le _ _) Y3
 · intro j k _ h;rw[hf0] at h;cases h
section
variable {val : Nat → Nat × Nat → Value} {Q : Act → Prop} {i : Nat} {o : Oper} {r : List Oper} {a : Act}
theorem Qa (hS:i ∉ S)(h:∃ a',(∀ D:World→Prop,(∀ w w',D w→Below w.heap.size w w'→D w')→(∀ w,D w→∃ d,Rdy ops i d∧C d ν w)→(∀ p:Prop,(∀ w',D w'→p)=p)→∀ K:Act→Prop,K a'→wpQuiet P ops D K [o] a) ∧
 a'=a.put o.dst (Quw a' o.dst)∧Q3o P ops C S A val ν Q (i+1) r a'):Q3o P ops C S A val ν Q i (o :: r) a :=
 let ⟨a',h1,h2,h3⟩:=h
 ⟨a',.quiet hS h2 h1,h3⟩
theorem Qh {T:TypeId}{x y:Operand}{p v:Value}(hd:o.dst=none)(hop:o.op=.store T x y)(hx:a.eval x=p)(hy:a.eval y=v)(hw:Region.wanted o (yielded ops a.tmps)=true)
 (h:∀ d w,Rdy ops i d→C d ν w→∃ w',(Instr.storeAt T p v).run P w=.ok () w'∧C (upd d i) ν w') (hr:Q3o P ops C S A val ν Q (i+1) r a):Q3o P ops C S A val ν Q i (o :: r) a:=by
 refine⟨a.put o.dst undef,.store hw rfl fun d w h1 h2=>?_,by rw[hd];exact hr⟩;obtain⟨w',h3,h4⟩:=h d w h1 h2;refine⟨w',?_,h4⟩;obtain⟨dst,op,type,pos,after,guard⟩:=o;simp only at hop;subst hop;simp only[execOp,Sem.run_bind,hx,hy,h3,Result.andThen,Sem.run_pure]
theorem Qq (hA:i∈A)(hw:Region.wanted o (yielded ops a.tmps)=true)
 (h:∀ d w,Rdy ops i d→C d ν w→∃ c w',(execOp a.eval o).run P w=.ok (.value (val i c)) w'∧C (upd d i) (Qo ν i c) w') (hr:Q3o P ops C S A val ν Q (i+1) r (a.put o.dst (val i (ν i)))):Q3o P ops C S A val ν Q i (o :: r) a :=
 ⟨_,.make hA hw rfl h,hr⟩
theorem Q2k (hA:i∈A)(hw:Region.wanted o (yielded ops a.tmps)=true)
 (h:∀ d w,Rdy ops i d→C d ν w→∃ f args,(execOp a.eval o).run P w=.ok (.enter f args) w∧Calls P f args w fun e w'=>∃ c,e=.returned (val i c)∧C (upd d i) (Qo ν i c) w') (hr:Q3o P ops C S A val ν Q (i+1) r (a.put o.dst (val i (ν i)))):Q3o P ops C S A val ν Q i (o :: r) a :=
 ⟨_,.call hA hw rfl h,hr⟩
end
end
end Hk
