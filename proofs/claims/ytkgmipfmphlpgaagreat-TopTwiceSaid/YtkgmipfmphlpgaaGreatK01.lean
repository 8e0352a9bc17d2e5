/- A part of the proof of TopTwice. No condition but each statement's own. -/
import Derived.Test.YtkgmipfmphlpgaaGreatK00
import Derived.Laws.Rows
import Derived.Laws.Tables
import Derived.IntWalk
open Go Go.RowKit Go.Proofs
set_option linter.all false
set_option maxRecDepth 100000
set_option maxHeartbeats 20000000
namespace Hk
def ln (x:Nat):Nat:=if x=0 then 0 else x.log2+1
theorem Q175 {x k:Nat}(h:x<2 ^ k):ln x≤k:=by
 unfold ln;split
 · omega
 · rename_i h0;have:=(Nat.log2_lt h0).2 h;omega
def msk (k:Nat):BitVec 64:=BitVec.ofNat 64 (2 ^ k - 1)
def Q2t (s:Sp):Tn:=Tn.made s.lo (msk (ln (s.lo ^^^ s.hi).toNat))
structure Fa where
 t:Tn
 s:Sp
deriving DecidableEq
instance:Coe Fa Value:=⟨fun a=>.agg #[.int .u64 (N a.t.v),.int .u64 (N a.t.m),.int .u64 (N a.s.lo),.int .u64 (N a.s.hi)]⟩
structure CFa where a :: (w:World) (b:Nat) (x:Fa) (r:Prop)
instance (w b x r):CoeDep CFa (CFa.a w b x r) Prop:=⟨w.cell? ⟨b,0,none⟩=some (.int .u64 (N x.t.v))∧w.cell? ⟨b,1,none⟩=some (.int .u64 (N x.t.m))∧w.cell? ⟨b,2,none⟩=some (.int .u64 (N x.s.lo))∧w.cell? ⟨b,3,none⟩=some (.int .u64 (N x.s.hi))∧r⟩
structure GFa where a :: (d:Nat→Bool) (ν:Nat→Nat × Nat) (w:World) (i s:Nat) (x:Fa) (r:Prop)
instance (d ν w i s x r):CoeDep GFa (GFa.a d ν w i s x r) Prop:=⟨(d i=true→w.cell? ⟨(ν i).1,0,none⟩=some (bif d s then .int .u64 (N x.t.v) else .int .u64 0))∧(d i=true→w.cell? ⟨(ν i).1,1,none⟩=some (bif d s then .int .u64 (N x.t.m) else .int .u64 0))∧(d i=true→w.cell? ⟨(ν i).1,2,none⟩=some (bif d s then .int .u64 (N x.s.lo) else .int .u64 0))∧(d i=true→w.cell? ⟨(ν i).1,3,none⟩=some (bif d s then .int .u64 (N x.s.hi) else .int .u64 0))∧r⟩
namespace Fa
def Qak (t:Tn):Sp:=⟨t.v,t.v ||| t.m⟩
def round (f:Fa):Option Fa :=
 if Sp.meetOk f.s (Qak f.t) then
  if Tn.meetOk f.t (Q2t (Sp.both f.s (Qak f.t))) then some ⟨Tn.meet f.t (Q2t (Sp.both f.s (Qak f.t))),Sp.both f.s (Qak f.t)⟩ else none
 else none
def Qdi:Nat→Fa→Option Fa
 | 0,f=>some f
 | n+1,f=>match round f with
   | none=>none
   | some g=>if g.t=f.t then some g else Qdi n g
def settle (f:Fa):Option Fa:=if f.t.right && f.s.right then Qdi 65 f else none
def ok (f:Fa):Bool:=settle f==some f
def zero:Fa:=⟨⟨0,0⟩,⟨0,0⟩⟩
def of (n:BitVec 64):Fa:=⟨Tn.of n,⟨n,n⟩⟩
def any:Fa:=⟨⟨0,18446744073709551615#64⟩,Sp.all⟩
def may (f:Fa)(n:BitVec 64):Prop:=f.t.has n=true∧f.s.has n=true
def sub (f g:Fa):Prop:=f.t.within g.t=true∧f.s.within g.s=true
theorem sub_trans {f g h:Fa}(a:sub f g)(b:sub g h):sub f h :=
 ⟨Tn.within_trans a.1 b.1,by have h1:=a.2;have h2:=b.2;rw[Sp.within_iff] at *;omega⟩
def cnt (m:BitVec 64):Nat→Nat
 | 0=>0
 | k+1=>cnt m k+(bt m k).toNat
theorem Q14v {a b:BitVec 64}(h:∀ i,bt a i=true→bt b i=true)(k:Nat):cnt a k≤cnt b k:=by
 induction k with
 | zero=>exact Nat.le_refl _
 | succ k ih =>
   unfold cnt;have:=h k;cases ha:bt a k
   · simp;omega
   · rw[this ha];omega
theorem Q14u {a b:BitVec 64}(h:∀ i,bt a i=true→bt b i=true)(j:Nat)(ha:bt a j=false)(hb:bt b j=true):∀ k,j<k→cnt a k<cnt b k:=by
 intro k
 induction k with
 | zero=>intro h;omega
 | succ k ih =>
   intro hk;unfold cnt;by_cases e:j=k
   · subst e
     have:=Q14v h j;rw[ha,hb];simp;omega
   · have:=ih Y1
     have h':=h k;cases ha:bt a k
     · simp;omega
     · rw[h' ha];omega
theorem Q9t (m:BitVec 64)(k:Nat):cnt m k≤k:=by
 induction k with
 | zero=>exact Nat.le_refl _
 | succ k ih=>unfold cnt;cases bt m k<;>simp<;>omega
theorem Qjy {a b:Tn}(ok:Tn.meetOk a b=true)(h:(Tn.meet a b).m=a.m):Tn.meet a b=a:=by
 have ok':=(Tn.meetOk_iff a b).1 ok;refine Tn.tn_ext (fun i hi=>?_) (fun i _=>by rw[h]);rw[Tn.meet_v ok i hi];have h1:=Q89 h i;rw[Tn.meet_m ok i] at h1;have h2:=ok'.2.2 i hi;have h3:=Tn.right_bit ok'.1 i hi;have h4:=Tn.right_bit ok'.2.1 i hi;revert h1 h2 h3 h4;cases bt a.m i<;>cases bt b.m i<;>cases bt a.v i<;>cases bt b.v i<;>decide
theorem Qdf {a b:Tn}(ok:Tn.meetOk a b=true)(h:Tn.meet a b≠a):cnt (Tn.meet a b).m 64<cnt a.m 64:=by
 have sub:∀ i,bt (Tn.meet a b).m i=true→bt a.m i=true:=by
  intro i hi;rw[Tn.meet_m ok i] at hi;cases ha:bt a.m i
  · rw[ha] at hi;simp at hi
  · rfl
 have ne:(Tn.meet a b).m≠a.m:=fun e=>h (Qjy ok e)
 have:∃ i,i<64∧bt (Tn.meet a b).m i≠bt a.m i:=by
  apply Classical.byContradiction;intro hn;apply ne;apply Q4z;intro i hi;apply Classical.byContradiction;intro hc;exact hn ⟨i,hi,hc⟩
 obtain⟨j,hj,hd⟩:=this;have h1:=sub j;refine Q14u sub j ?_ ?_ 64 hj
 · cases hb:bt (Tn.meet a b).m j
   · rfl
   · rw[h1 hb,hb] at hd;exact (hd rfl).elim
 · cases hb:bt a.m j
   · cases hc:bt (Tn.meet a b).m j
     · rw[hb,hc] at hd;exact (hd rfl).elim
     · rw[hb] at h1;exact absurd (h1 hc) Y3
   · rfl
theorem Q38 {f g:Fa}(h:round f=some g):Sp.meetOk f.s (Qak f.t)=true∧Tn.meetOk f.t (Q2t (Sp.both f.s (Qak f.t)))=true∧g=⟨Tn.meet f.t (Q2t (Sp.both f.s (Qak f.t))),Sp.both f.s (Qak f.t)⟩:=by
 unfold round at h;split at h
 · rename_i h1
   split at h
   · rename_i h2
     exact⟨h1,h2,by simpa using h.symm⟩
   · cases h
 · cases h
theorem Q8a {a b:Sp}(h:Sp.meetOk a b=true):(Sp.both a b).within a=true :=
 Sp.meet?_within (b:=b) (by unfold Sp.meet?;rw[if_pos h])
theorem Q50 {a b:Sp}(h:Sp.meetOk a b=true):(Sp.both a b).within b=true:=by
 rw[Sp.meetOk_iff] at h;rw[Sp.within_iff];simp only[Sp.both,Sp.mx_nat,Sp.mn_nat];omega
theorem Q99 {f g:Fa}(h:round f=some g):sub g f:=by
 obtain⟨h1,h2,rfl⟩:=Q38 h;exact⟨Tn.meet_within_l h2,Q8a h1⟩
theorem Q12u {a b:Sp}(h1:a.lo.toNat=b.lo.toNat)(h2:a.hi.toNat=b.hi.toNat):a=b:=by
 cases a;cases b;simp only[Sp.mk.injEq];exact⟨BitVec.eq_of_toNat_eq h1,BitVec.eq_of_toNat_eq h2⟩
theorem Q109 {a b:Sp}(h:a.within b=true):Sp.both a b=a∧Sp.meetOk a b=true:=by
 rw[Sp.within_iff] at h;refine⟨Q12u ?_ ?_,?_⟩
 · simp only[Sp.both,Sp.mx_nat];omega
 · simp only[Sp.both,Sp.mn_nat];omega
 · rw[Sp.meetOk_iff];omega
theorem Qiu {f g:Fa}(h:round f=some g)(e:g.t=f.t):round g=some g:=by
 obtain⟨h1,h2,rfl⟩:=Q38 h;have hw:=Q50 h1;simp only at e;have e1:=Q109 hw;unfold round;simp only[e];rw[e1.1,if_pos e1.2,if_pos h2,e]
theorem Qkp (f:Fa)(h:round f=some f):f.t.right=true∧f.s.right=true∧f.s.within (Qak f.t)=true∧f.t.within (Q2t f.s)=true:=by
 obtain⟨h1,h2,h3⟩:=Q38 h;have h4:=(Tn.meetOk_iff _ _).1 h2;have h5:=(Sp.meetOk_iff _ _).1 h1;have hs:Sp.both f.s (Qak f.t)=f.s:=(congrArg Fa.s h3).symm;have ht:Tn.meet f.t (Q2t (Sp.both f.s (Qak f.t)))=f.t:=(congrArg Fa.t h3).symm;refine⟨h4.1,by rw[Sp.right_iff];exact h5.1,?_,?_⟩
 · have:=Q50 h1;rwa [hs] at this
 · have:=Tn.meet_within_r h2;rwa [ht,hs] at this
theorem Qk4:∀ (n:Nat) (f g:Fa),cnt f.t.m 64<n→Qdi n f=some g→round g=some g∧sub g f:=by
 intro n
 induction n with
 | zero=>intro f g h;omega
 | succ n ih =>
   intro f g hc h;unfold Qdi at h;cases hr:round f with
   | none=>rw[hr] at h;cases h
   | some k =>
     rw[hr] at h;simp only at h;split at h
     · rename_i he
       simp only[Option.some.injEq] at h;subst h;exact⟨Qiu hr he,Q99 hr⟩
     · rename_i he
       obtain⟨h1,h2,e⟩:=Q38 hr
       have:cnt k.t.m 64<cnt f.t.m 64:=by
        rw[e];refine Qdf h2 ?_;intro h3;apply he;rw[e];exact h3
       have:=ih k g Y1 h;exact⟨this.1,sub_trans this.2 (Q99 hr)⟩
theorem Qrd {f:Fa}(h:round f=some f)(n:Nat):Qdi n f=some f:=by
 cases n with
 | zero=>rfl
 | succ n=>unfold Qdi;rw[h];simp
theorem Qb4 {f g:Fa}(h:settle f=some g):round g=some g∧sub g f:=by
 unfold settle at h;split at h
 · exact Qk4 65 f g (by have:=Q9t f.t.m 64;omega) h
 · cases h
theorem Qff {f:Fa}(h:round f=some f):settle f=some f:=by
 have:=Qkp f h;unfold settle;rw[this.1,this.2.1];exact Qrd h 65
theorem Q13f (f:Fa):ok f=true ↔ round f=some f:=by
 unfold ok;rw[beq_iff_eq];exact⟨fun h=>(Qb4 h).1,Qff⟩
theorem Qqi {f:Fa}(h:ok f=true):f.t.right=true∧f.s.right=true:=by
 rw[Q13f] at h;exact⟨(Qkp f h).1,(Qkp f h).2.1⟩
end Fa
end Hk
namespace Hk
namespace Fa
def known (f:Fa):Option (BitVec 64):=if f.t.m=0∧ok f=true then some f.t.v else none
def has (f:Fa)(n:BitVec 64):Bool:=ok f && f.t.has n && f.s.has n
def within (a b:Fa):Bool:=ok a && ok b && a.t.within b.t && a.s.within b.s
def settled (t:Tn)(s:Sp):Fa:=(settle ⟨t,s⟩).getD zero
def join (a b:Fa):Fa:=if ok a && ok b then settled (Tn.join a.t b.t) (Sp.join a.s b.s) else zero
def Q17k (s:Sp):Sp:=if 4294967296#64≤s.hi then ⟨0,4294967295#64⟩ else s
def cut (f:Fa):Fa:=if ok f then settled (Tn.cut f.t 32) (Q17k f.s) else zero
def plainDo (op:Int)(x y:Fa):Fa:=settled ((Tn.do_ op x.t y.t).getD any.t) (Sp.do_ op x.s y.s)
def Q176 (wide:Bool):BitVec 64:=if wide then 63#64 else 31#64
def Q7i (op:Int)(wide:Bool)(off:Int)(x y:Fa):Fa :=
 if off≠0 then any
 else if op=176 then y
 else if op=0∨op=16∨op=32∨op=80∨op=64∨op=160 then plainDo op x y
 else if op=96∨op=112 then
  match known y with
  | none=>any
  | some q=>plainDo op x (of (q &&& Q176 wide))
 else if op=48∨op=144 then
  if known y=some 0#64 then (if op=48 then of 0#64 else x) else plainDo op x y
 else any
def makes (op:Int)(wide:Bool)(off:Int)(x y:Fa):Fa :=
 match known x,known y with
 | some p,some q=>of ((Alu.go op wide off p q).getD 0#64)
 | _,_=>Q7i op wide off x y
def do_ (op:Int)(wide:Bool)(off:Int)(a b:Fa):Option Fa :=
 if (Alu.go op wide off 0#64 0#64).isSome && ok a && ok b then some (if wide then makes op wide off a b else cut (makes op wide off (cut a) (cut b))) else none
def ranges (op:Int)(a b:Fa):Option (Fa × Fa) :=
 match Sp.if_ op a.s b.s with
 | none=>none
 | some r =>
   match (match Cond.turned op with|none=>some b.s|some Q19a=>Sp.if_ Q19a b.s a.s) with
   | none=>none
   | some s=>match settle ⟨a.t,r⟩ with
     | none=>none
     | some x=>match settle ⟨b.t,s⟩ with
       | none=>none
       | some y=>some (x,y)
def if' (op:Int)(wide:Bool)(a b:Fa):Option (Fa × Fa) :=
 if wide=false∧(4294967296#64≤a.s.hi∨4294967296#64≤b.s.hi) then some (a,b)
 else if op=16 then (if Tn.meetOk a.t b.t then ranges op ⟨Tn.meet a.t b.t,a.s⟩ ⟨Tn.meet a.t b.t,b.s⟩ else none)
 else ranges op a b
def if_ (op:Int)(wide:Bool)(a b:Fa):Option (Fa × Fa) :=
 if ok a && ok b then
  match known a,known b with
  | some p,some q=>if Cond.is op wide p q=some true then some (a,b) else none
  | _,_=>if' op wide a b
 else none
theorem has_iff {f:Fa}{n:BitVec 64}:has f n=true ↔ ok f=true∧may f n:=by
 unfold has may;simp only[Bool.and_eq_true,and_assoc]
theorem within_iff {f g:Fa}:within f g=true ↔ ok f=true∧ok g=true∧sub f g:=by
 unfold within sub;simp only[Bool.and_eq_true,and_assoc]
end Fa
end Hk
namespace Hk
open Go
namespace Fa
theorem eta (f:Fa):Fa.mk f.t f.s=f:=rfl
theorem msk_is (k:Nat)(h:k≤64):1#64 <<< k - 1#64=msk k:=by
 apply BitVec.eq_of_toNat_eq;unfold msk;have e1:(1#64).toNat=1:=rfl;have e2:(BitVec.ofNat 64 (2 ^ k - 1)).toNat=(2 ^ k - 1) % 2 ^ 64:=BitVec.toNat_ofNat ..;rw[BitVec.toNat_sub,BitVec.toNat_shiftLeft,Nat.shiftLeft_eq,e1,e2,Nat.one_mul];have hp:=Nat.two_pow_pos k;rcases Nat.lt_or_ge k 64 with h1|h1
 · have:(2:Nat) ^ k<2 ^ 64:=Nat.pow_lt_pow_right Y1 h1
   omega
 · obtain rfl:k=64:=by omega
   rfl
def lnW (x:BitVec 64):Nat:=ln x.toNat
theorem ranged_W (s:Sp):Q2t s=⟨s.lo &&& ~~~msk (lnW (s.lo ^^^ s.hi)),msk (lnW (s.lo ^^^ s.hi))⟩:=rfl
theorem ln_64 (x:BitVec 64):ln x.toNat≤64:=Q175 x.isLt
theorem Q9d {a b:Sp}(h:Sp.meetOk a b=true):Sp.meet a b=Sp.both a b:=by unfold Sp.meet;rw[if_pos h]
section
variable {g : Fa} {s : Sp} {t : Tn} (hs : Sp.meet g.s ⟨g.t.v, g.t.v ||| g.t.m⟩ = s) (ht : Tn.meet g.t (Q2t s) = t)
theorem round_n1 (h:Sp.meetOk g.s ⟨g.t.v,g.t.v ||| g.t.m⟩=false):round g=none:=by
 unfold round;rw[if_neg (by unfold Qak;rw[h];decide)]
include hs in
theorem round_n2 (h:Sp.meetOk g.s ⟨g.t.v,g.t.v ||| g.t.m⟩=true)(h2:Tn.meetOk g.t (Q2t s)=false):round g=none:=by
 rw[Q9d h] at hs;subst hs;unfold round;rw[if_pos (by unfold Qak;exact h),if_neg (by unfold Qak;rw[h2];decide)]
include hs ht in
theorem round_s (h:Sp.meetOk g.s ⟨g.t.v,g.t.v ||| g.t.m⟩=true)(h2:Tn.meetOk g.t (Q2t s)=true):round g=some ⟨t,s⟩:=by
 rw[Q9d h] at hs;subst hs;subst ht;unfold round;rw[if_pos (by unfold Qak;exact h),if_pos (by unfold Qak;exact h2)];rfl
end
theorem Qk6 {g:Fa}(n:Nat)(h:round g=none):Qdi (n+1) g=none:=by simp only[Qdi,h]
theorem Qk5 {g g':Fa}(n:Nat)(h:round g=some g')(e:g'.t=g.t):Qdi (n+1) g=some g':=by simp only[Qdi,h];rw[if_pos e]
theorem Qy9 {g g':Fa}(n:Nat)(h:round g=some g')(e:¬ g'.t=g.t):Qdi (n+1) g=Qdi n g':=by simp only[Qdi,h];rw[if_neg e]
theorem Qiv {g g':Fa}(h:round g=some g')(e:¬ g'.t=g.t):cnt g'.t.m 64<cnt g.t.m 64:=by
 obtain⟨_,h2,rfl⟩:=Q38 h;exact Qdf h2 e
def Left (R:Option Fa)(n:Nat)(g:Fa):Prop:=Qdi n g=R∧cnt g.t.m 64<n
theorem left_start {f:Fa}(h1:f.t.right=true)(h2:f.s.right=true):Left (settle f) 65 f:=by
 refine⟨?_,?_⟩
 · unfold settle;rw[h1,h2];rfl
 · have:=Q9t f.t.m 64;omega
theorem settle_no1 {f:Fa}(h1:f.t.right=false):settle f=none:=by unfold settle;rw[h1];rfl
theorem settle_no2 {f:Fa}(h1:f.t.right=true)(h2:f.s.right=false):settle f=none:=by unfold settle;rw[h1,h2];rfl
theorem left_pos {R:Option Fa}{n:Nat}{g:Fa}(h:Left R n g):∃ m,n=m+1:=⟨n - 1,by have:=h.2;omega⟩
theorem left_none {R:Option Fa}{n:Nat}{g:Fa}(h:Left R (n+1) g)(hr:round g=none):R=none:=by rw[← h.1,Qk6 n hr]
theorem left_same {R:Option Fa}{n:Nat}{g g':Fa}(h:Left R (n+1) g)(hr:round g=some g')(e:g'.t=g.t):R=some g':=by rw[← h.1,Qk5 n hr e]
theorem left_go {R:Option Fa}{n:Nat}{g g':Fa}(h:Left R (n+1) g)(hr:round g=some g')(e:¬ g'.t=g.t):Left R n g':=by
 have:=Qiv hr e;have h2:=h.2;exact⟨by rw[← h.1,Qy9 n hr e],Y1⟩
theorem tn_ne {a b:Tn}(h:(a.v==b.v)=false∨(a.m==b.m)=false):¬ a=b:=by
 intro e;subst e;simp at h
theorem tn_eq {a b:Tn}(h1:(a.v==b.v)=true)(h2:(a.m==b.m)=true):a=b:=by
 cases a;cases b;simp at h1 h2;rw[h1,h2]
end Fa
attribute [go_sem] Fa.eta
end Hk
namespace Hk
open Go
namespace Fa
theorem ok_none {f:Fa}(h:settle f=none):ok f=false:=by unfold ok;rw[h];rfl
theorem ok_same {f:Fa}(h:settle f=some f):ok f=true:=by unfold ok;rw[h];simp
theorem ok_ne {f g:Fa}(h:settle f=some g)(e:¬ g=f):ok f=false:=by unfold ok;rw[h];simpa using e
theorem fa_eq {f g:Fa}(e0:(f.t.v==g.t.v)=true)(e1:(f.t.m==g.t.m)=true)(e2:(f.s.lo==g.s.lo)=true)(e3:(f.s.hi==g.s.hi)=true):g=f:=by
 obtain⟨⟨a,b⟩,⟨c,d⟩⟩:=f;obtain⟨⟨a',b'⟩,⟨c',d'⟩⟩:=g;simp at e0 e1 e2 e3;rw[e0,e1,e2,e3]
theorem known_is (f:Fa):known f=if (f.t.m==0#64) && ok f then some f.t.v else none:=by
 unfold known;by_cases h:f.t.m=0#64
 · cases h2:ok f<;>simp[h]
 · have:(f.t.m==0#64)=false:=by simpa using h
   rw[this,if_neg (fun q=>h q.1)];rfl
theorem join_no1 {a b:Fa}(h:ok a=false):join a b=zero:=by unfold join;rw[h];rfl
theorem join_no2 {a b:Fa}(h:ok a=true)(h2:ok b=false):join a b=zero:=by unfold join;rw[h,h2];rfl
theorem join_yes {a b:Fa}(h:ok a=true)(h2:ok b=true):join a b=settled (Tn.join a.t b.t) (Sp.join a.s b.s):=by unfold join;rw[h,h2];rfl
theorem cut_no {f:Fa}(h:ok f=false):cut f=zero:=by unfold cut;rw[h];rfl
theorem Ql0 {f:Fa}(h:ok f=true):Tn.cutI f.t 32=Tn.cut f.t 32:=Tn.cutI_in (Qqi h).1 Y1 Y1
theorem cut_t {f:Fa}(h:ok f=true)(h2:decide (4294967296#64≤f.s.hi)=true):cut f=settled (Tn.cutI f.t 32) ⟨0#64,4294967295#64⟩:=by
 rw[Ql0 h];unfold cut Q17k;rw[h,if_pos rfl,if_pos (of_decide_eq_true h2)];rfl
theorem cut_f {f:Fa}(h:ok f=true)(h2:decide (4294967296#64≤f.s.hi)=false):cut f=settled (Tn.cutI f.t 32) f.s:=by
 rw[Ql0 h];unfold cut Q17k;rw[h,if_pos rfl,if_neg (of_decide_eq_false h2)]
theorem zero_tv:zero.t.v=0#64:=rfl
theorem zero_tm:zero.t.m=0#64:=rfl
theorem zero_slo:zero.s.lo=0#64:=rfl
theorem zero_shi:zero.s.hi=0#64:=rfl
end Fa
attribute [go_sem] Fa.zero_tv Fa.zero_tm Fa.zero_slo Fa.zero_shi
end Hk
namespace Hk
namespace Fa
def mkf (n k l m:BitVec 64):Fa:=⟨⟨n &&& k,~~~k⟩,⟨n - Sp.mn n l,n+Sp.mn (~~~n) m⟩⟩
def made (n k l m:BitVec 64):Fa:=(settle (mkf n k l m)).getD zero
end Fa
end Hk
namespace Hk
open Go
namespace Fa
theorem makes_both {op off:Int}{wd:Bool}{x y:Fa}{p q:BitVec 64}(hx:known x=some p)(hy:known y=some q):makes op wd off x y=of (Alu.val (Alu.go op wd off p q)):=by
 unfold makes;rw[hx,hy];rfl
def NB (x y:Fa):Prop:=known x=none∨known y=none
theorem Q4r {op off:Int}{wd:Bool}{x y:Fa}(h:NB x y):makes op wd off x y=Q7i op wd off x y:=by
 unfold makes;rcases h with h|h
 · rw[h]
 · rw[h];cases known x<;>rfl
section
variable {wd : Bool} {x y : Fa} (h : NB x y)
include h
theorem mk_off {op off:Int}(h0:¬ off=0):makes op wd off x y=any:=by rw[Q4r h];unfold Q7i;rw[if_pos h0]
theorem mk_mov:makes 176 wd 0 x y=y:=Yep
theorem mk_add:makes 0 wd 0 x y=plainDo 0 x y:=Yep
theorem mk_sub:makes 16 wd 0 x y=plainDo 16 x y:=Yep
theorem mk_mul:makes 32 wd 0 x y=plainDo 32 x y:=Yep
theorem mk_and:makes 80 wd 0 x y=plainDo 80 x y:=Yep
theorem mk_or:makes 64 wd 0 x y=plainDo 64 x y:=Yep
theorem mk_xor:makes 160 wd 0 x y=plainDo 160 x y:=Yep
theorem mk_lsh0 (hy:known y=none):makes 96 wd 0 x y=any:=Yeq
theorem mk_rsh0 (hy:known y=none):makes 112 wd 0 x y=any:=Yeq
theorem mk_lsh1 {q:BitVec 64}(hy:known y=some q):makes 96 wd 0 x y=plainDo 96 x (of (q &&& Q176 wd)):=Yeq
theorem mk_rsh1 {q:BitVec 64}(hy:known y=some q):makes 112 wd 0 x y=plainDo 112 x (of (q &&& Q176 wd)):=Yeq
theorem mk_div0 (hy:¬ known y=some 0#64):makes 48 wd 0 x y=plainDo 48 x y:=Yer
theorem mk_mod0 (hy:¬ known y=some 0#64):makes 144 wd 0 x y=plainDo 144 x y:=Yer
theorem mk_div1 (hy:known y=some 0#64):makes 48 wd 0 x y=of 0#64:=Yer
theorem mk_mod1 (hy:known y=some 0#64):makes 144 wd 0 x y=x:=Yer
theorem mk_else {op:Int}(n176:¬ op=176)(n0:¬ op=0)(n16:¬ op=16)(n32:¬ op=32)(n80:¬ op=80)(n64:¬ op=64)(n160:¬ op=160)(n96:¬ op=96)(n112:¬ op=112)(n48:¬ op=48)(n144:¬ op=144):makes op wd 0 x y=any:=by
 rw[Q4r h];unfold Q7i;simp[n176,n0,n16,n32,n80,n64,n160,n96,n112,n48,n144]
end
theorem plain_none {op:Int}{x y:Fa}(h:Tn.do_ op x.t y.t=none):plainDo op x y=settled any.t (Sp.do_ op x.s y.s):=by unfold plainDo;rw[h];rfl
theorem plain_some {op:Int}{x y:Fa}{t:Tn}(h:Tn.do_ op x.t y.t=some t):plainDo op x y=settled t (Sp.do_ op x.s y.s):=by unfold plainDo;rw[h];rfl
end Fa
end Hk
namespace Hk
namespace Fa
theorem fdo_no0 {op off:Int}{wd:Bool}{a b:Fa}(h:Alu.go op wd off 0#64 0#64=none):do_ op wd off a b=none:=by unfold do_;rw[h];rfl
theorem fdo_no1 {op off:Int}{wd:Bool}{a b:Fa}(h:ok a=false):do_ op wd off a b=none:=by unfold do_;rw[h];simp
theorem fdo_no2 {op off:Int}{wd:Bool}{a b:Fa}(h:ok b=false):do_ op wd off a b=none:=by unfold do_;rw[h];simp
theorem fdo_w {op off:Int}{a b:Fa}{z:BitVec 64}(h:Alu.go op true off 0#64 0#64=some z)(h1:ok a=true)(h2:ok b=true):do_ op true off a b=some (makes op true off a b):=by unfold do_;rw[h,h1,h2];rfl
theorem fdo_n {op off:Int}{a b:Fa}{z:BitVec 64}(h:Alu.go op false off 0#64 0#64=some z)(h1:ok a=true)(h2:ok b=true):do_ op false off a b=some (cut (makes op false off (cut a) (cut b))):=by unfold do_;rw[h,h1,h2];rfl
end Fa
end Hk
namespace Hk
open Go
namespace Fa
def rL (s:Sp):Nat:=lnW (s.lo ^^^ s.hi)
def rV (s:Sp):BitVec 64:=s.lo &&& ~~~msk (rL s)
def rM (s:Sp):BitVec 64:=msk (rL s)
theorem Q16w (s:Sp):rL s≤64:=ln_64 _
theorem Qir (x:BitVec 64):x >>> 64=0#64:=Q4z fun i hi=>by rw[Q4y,Q105 _ _ Y1,Q3l]
theorem start0 (s:Sp):rV s >>> 64=0#64∧rM s >>> 64=0#64∧decide (64<rL s)=false:=⟨Qir _,Qir _,by have:=Q16w s;simp;omega⟩
end Fa
end Hk
namespace Hk
structure Vl where
 k:Int
 f:Fa
 i:Int
 off:Int
deriving DecidableEq
instance:Coe Vl Value:=⟨fun a=>.agg #[.int .u8 a.k,.int .u64 (N a.f.t.v),.int .u64 (N a.f.t.m),.int .u64 (N a.f.s.lo),.int .u64 (N a.f.s.hi),.int .i64 a.i,.int .i64 a.off]⟩
structure CVl where a :: (w:World) (b:Nat) (x:Vl) (r:Prop)
instance (w b x r):CoeDep CVl (CVl.a w b x r) Prop:=⟨w.cell? ⟨b,0,none⟩=some (.int .u8 x.k)∧w.cell? ⟨b,1,none⟩=some (.int .u64 (N x.f.t.v))∧w.cell? ⟨b,2,none⟩=some (.int .u64 (N x.f.t.m))∧w.cell? ⟨b,3,none⟩=some (.int .u64 (N x.f.s.lo))∧w.cell? ⟨b,4,none⟩=some (.int .u64 (N x.f.s.hi))∧w.cell? ⟨b,5,none⟩=some (.int .i64 x.i)∧w.cell? ⟨b,6,none⟩=some (.int .i64 x.off)∧r⟩
structure GVl where a :: (d:Nat→Bool) (ν:Nat→Nat × Nat) (w:World) (i s:Nat) (x:Vl) (r:Prop)
instance (d ν w i s x r):CoeDep GVl (GVl.a d ν w i s x r) Prop:=⟨(d i=true→w.cell? ⟨(ν i).1,0,none⟩=some (bif d s then .int .u8 x.k else .int .u8 0))∧(d i=true→w.cell? ⟨(ν i).1,1,none⟩=some (bif d s then .int .u64 (N x.f.t.v) else .int .u64 0))∧(d i=true→w.cell? ⟨(ν i).1,2,none⟩=some (bif d s then .int .u64 (N x.f.t.m) else .int .u64 0))∧(d i=true→w.cell? ⟨(ν i).1,3,none⟩=some (bif d s then .int .u64 (N x.f.s.lo) else .int .u64 0))∧(d i=true→w.cell? ⟨(ν i).1,4,none⟩=some (bif d s then .int .u64 (N x.f.s.hi) else .int .u64 0))∧(d i=true→w.cell? ⟨(ν i).1,5,none⟩=some (bif d s then .int .i64 x.i else .int .i64 0))∧(d i=true→w.cell? ⟨(ν i).1,6,none⟩=some (bif d s then .int .i64 x.off else .int .i64 0))∧r⟩
namespace Vl
def zero:Vl:=⟨0,Fa.zero,0,0⟩
def reach (o:Int):Bool:=decide (-1048576≤o) && decide (o≤1048576)
def isZ (f:Fa):Bool:=(f.t.v==0#64) && (f.t.m==0#64) && (f.s.lo==0#64) && (f.s.hi==0#64)
def right (v:Vl):Bool :=
 !decide (v.i<0) && !decide (8≤v.i) && reach v.off &&
 (if v.k=0 then isZ v.f && decide (v.i=0) && decide (v.off=0)
  else if v.k=1 then decide (v.i=0) && decide (v.off=0) && Fa.ok v.f
  else if v.k=2∨v.k=3 then isZ v.f && decide (v.i=0)
  else if v.k=4∨v.k=6 then isZ v.f && decide (v.off=0)
  else if v.k=5 then isZ v.f else false)
theorem eta (v:Vl):Vl.mk v.k v.f v.i v.off=v:=rfl
def at_ (a o:Int):BitVec 64:=BitVec.ofInt 64 a <<< 32+BitVec.ofInt 64 o
def num (f:Fa):Vl:=if Fa.ok f then ⟨1,f,0,0⟩ else zero
def ptr (v:Vl):Bool:=(decide (v.k=2) || decide (v.k=3) || decide (v.k=5)) && right v
def within (a b:Vl):Bool:=right a && right b && (if a.k=1∧b.k=1 then Fa.within a.f b.f else decide (b.k=0) || decide (a=b))
def join (a b:Vl):Vl:=if (right a && right b)=true then (if a.k=1∧b.k=1 then num (Fa.join a.f b.f) else if a=b then a else zero) else zero
def moveOk (v:Vl)(n:BitVec 64):Bool:=ptr v && reach n.toInt && reach (v.off+n.toInt)
def move (v:Vl)(n:BitVec 64):Vl:=if moveOk v n=true then ⟨v.k,v.f,v.i,v.off+n.toInt⟩ else zero
theorem eq_iff {a b:Vl}:a=b ↔ a.k=b.k∧a.f.t.v=b.f.t.v∧a.f.t.m=b.f.t.m∧a.f.s.lo=b.f.s.lo∧a.f.s.hi=b.f.s.hi∧a.i=b.i∧a.off=b.off:=by
 constructor
 · rintro rfl;exact⟨rfl,rfl,rfl,rfl,rfl,rfl,rfl⟩
 · obtain⟨k,⟨⟨x,y⟩,⟨z,u⟩⟩,i,o⟩:=a
   obtain⟨k',⟨⟨x',y'⟩,⟨z',u'⟩⟩,i',o'⟩:=b;rintro⟨h1,h2,h3,h4,h5,h6,h7⟩;simp only at h1 h2 h3 h4 h5 h6 h7;subst h1 h2 h3 h4 h5 h6 h7;rfl
theorem reach_iff {o:Int}:reach o=true ↔ -1048576≤o∧o≤1048576:=by
 unfold reach;rw[Bool.and_eq_true,decide_eq_true_eq,decide_eq_true_eq]
theorem right_bounds {v:Vl}(h:right v=true):0≤v.i∧v.i<8∧-1048576≤v.off∧v.off≤1048576:=by
 unfold right at h;simp only[Bool.and_eq_true,Bool.not_eq_true',decide_eq_false_iff_not,reach_iff] at h;omega
end Vl
end Hk
namespace Hk
namespace Vl
theorem Q5o {a b:Vl}(h:within a b=true):right a=true∧right b=true:=by
 unfold within at h;simp only[Bool.and_eq_true] at h;exact h.1
theorem Q7b {a b:Vl}(h:within a b=true)(ha:a.k=1)(hb:b.k=1):Fa.within a.f b.f=true:=by
 unfold within at h;rw[if_pos ⟨ha,hb⟩] at h;simp only[Bool.and_eq_true] at h;exact h.2
theorem Q7c {a b:Vl}(h:within a b=true)(hn:¬ (a.k=1∧b.k=1)):b.k=0∨a=b:=by
 unfold within at h;rw[if_neg hn] at h;simp only[Bool.and_eq_true,Bool.or_eq_true,decide_eq_true_eq] at h;exact h.2
theorem Qan {a b:Vl}(ha:right a=true)(hb:right b=true)(h:b.k=0):within a b=true:=by
 unfold within;rw[ha,hb,if_neg Y1,h];rfl
theorem Q6u {a b c:Fa}(h:Fa.within a b=true)(h':Fa.within b c=true):Fa.within a c=true:=by
 obtain⟨h1,h2,h3⟩:=Fa.within_iff.1 h;obtain⟨h4,h5,h6⟩:=Fa.within_iff.1 h';exact Fa.within_iff.2 ⟨h1,h5,Fa.sub_trans h3 h6⟩
theorem within_trans {a b c:Vl}(h:within a b=true)(h':within b c=true):within a c=true:=by
 obtain⟨ra,rb⟩:=Q5o h;obtain⟨_,rc⟩:=Q5o h';by_cases hc:c.k=0
 · exact Qan ra rc hc
 by_cases hbc:b.k=1∧c.k=1
 · by_cases ha:a.k=1
   · unfold within
     rw[ra,rc,if_pos ⟨ha,hbc.2⟩];exact Q6u (Q7b h ha hbc.1) (Q7b h' hbc.1 hbc.2)
   · rcases Q7c h (by intro e;exact ha e.1) with e|e
     · omega
     · rw[e];exact h'
 · rcases Q7c h' hbc with e|e
   · exact absurd e hc
   · rw[← e];exact h
end Vl
end Hk
namespace Hk
namespace Vl
def Qqf (k:Int)(n:BitVec 64):Prop:=(k=2∧n.toNat / 4294967296=1)∨(k=3∧n.toNat / 4294967296=2)∨(k=4∧n.toNat / 4294967296=3)∨(k=5∧4096≤n.toNat / 4294967296)
end Vl
end Hk
namespace Hk
open Go
def N8 (x:BitVec 8):Int:=x.toNat
theorem Q15m (x y:BitVec 8):N8 x=N8 y ↔ x=y:=by
 unfold N8;rw[Int.natCast_inj];exact BitVec.toNat_inj
structure Sl where
 v:Vl
 p:BitVec 8
structure St where
 r:Nat→Vl
 s:Nat→Sl
def Vl.cell (v:Vl):Nat→Value
 | 0=>.int .u8 v.k
 | 1=>.int .u64 (N v.f.t.v)
 | 2=>.int .u64 (N v.f.t.m)
 | 3=>.int .u64 (N v.f.s.lo)
 | 4=>.int .u64 (N v.f.s.hi)
 | 5=>.int .i64 v.i
 | 6=>.int .i64 v.off
 | _=>undef
def Sl.cell (x:Sl)(k:Nat):Value:=if k=7 then .int .u8 (N8 x.p) else x.v.cell k
def Q26 (n:Nat)(f:Nat→Value):Array Value:=((List.range n).map f).toArray
theorem Qr (n:Nat)(f:Nat→Value):(Q26 n f).size=n:=by simp[Q26]
theorem Qj (n:Nat)(f:Nat→Value)(k:Nat):(Q26 n f)[k]?=if k<n then some (f k) else none:=by
 unfold Q26;rw[List.getElem?_toArray,List.getElem?_map];by_cases h:k<n
 · rw[if_pos h,List.getElem?_range h];rfl
 · rw[if_neg h,List.getElem?_eq_none Y5];rfl
theorem Q1c (n:Nat)(f:Nat→Value)(o m:Nat)(h:o+m≤n):(Q26 n f).extract o (o+m)=Q26 m (fun j=>f (o+j)):=by
 apply Array.ext_getElem?;intro i;rw[Array.getElem?_extract,Qj,Qr,Qj,show min (o+m) n - o=m from Y1];by_cases hi:i<m
 · rw[if_pos hi,if_pos hi,if_pos Y1]
 · rw[if_neg hi,if_neg hi]
theorem Qx {n:Nat}{f g:Nat→Value}(h:∀ k,k<n→f k=g k):Q26 n f=Q26 n g:=by
 unfold Q26
 congr 1
 apply List.map_congr_left;intro k hk;exact h k Y6
def Q23 (c:Array Value)(o:Nat)(d:Array Value):Array Value:=Q26 c.size fun k=>if o≤k∧k<o+d.size then d.getD (k - o) undef else c.getD k undef
theorem Qp (c:Array Value)(o:Nat)(d:Array Value):(Q23 c o d).size=c.size:=Qr ..
theorem Q13 {n:Nat}{f:Nat→Value}{k:Nat}(h:k<n):(Q26 n f).getD k undef=f k:=by
 rw[Array.getD_eq_getD_getElem?,Qj,if_pos h];rfl
namespace St
def cell (x:St)(k:Nat):Value:=if k<77 then (x.r (k / 7)).cell (k % 7) else (x.s ((k - 77) / 8)).cell ((k - 77) % 8)
def cells (x:St):Array Value:=Q26 589 x.cell
def regs (x:St):Array Value:=Q26 77 x.cell
def slots (x:St):Array Value:=Q26 512 fun j=>x.cell (77+j)
def vals (v:Vl):Array Value:=#[.int .u8 v.k,.int .u64 (N v.f.t.v),.int .u64 (N v.f.t.m),.int .u64 (N v.f.s.lo),.int .u64 (N v.f.s.hi),.int .i64 v.i,.int .i64 v.off]
def slot (x:Sl):Array Value:=#[.int .u8 x.v.k,.int .u64 (N x.v.f.t.v),.int .u64 (N x.v.f.t.m),.int .u64 (N x.v.f.s.lo),.int .u64 (N x.v.f.s.hi),.int .i64 x.v.i,.int .i64 x.v.off,.int .u8 (N8 x.p)]
theorem cells_size (x:St):x.cells.size=589:=Qr ..
theorem regs_size (x:St):x.regs.size=77:=Qr ..
theorem slots_size (x:St):x.slots.size=512:=Qr ..
theorem cells_ne (x:St):¬ x.cells=#[]:=by intro h;have:=x.cells_size;rw[h] at this;simp at this
theorem regs_ne (x:St):¬ x.regs=#[]:=by intro h;have:=x.regs_size;rw[h] at this;simp at this
theorem slots_ne (x:St):¬ x.slots=#[]:=by intro h;have:=x.slots_size;rw[h] at this;simp at this
theorem vals_row (v:Vl):Q26 7 v.cell=vals v:=rfl
theorem Q7t (x:Sl):Q26 8 x.cell=slot x:=rfl
theorem cell_reg (x:St){i j:Nat}(hi:i<11)(hj:j<7):x.cell (i*7+j)=(x.r i).cell j:=by
 unfold cell;rw[if_pos Y1,show (i*7+j) / 7=i from Y1,show (i*7+j) % 7=j from Y1]
theorem cell_slot (x:St){i j:Nat}(hj:j<8):x.cell (77+(i*8+j))=(x.s i).cell j:=by
 unfold cell;rw[if_neg Y1,show (77+(i*8+j) - 77) / 8=i from Y1,show (77+(i*8+j) - 77) % 8=j from Y1]
theorem cells_regs (x:St):x.cells.extract 0 77=x.regs:=by
 have:=Q1c 589 x.cell 0 77 Y1;rw[show 0+77=77 from rfl] at this;unfold cells;rw[this];exact Qx fun k _=>by rw[Nat.zero_add]
theorem cells_slots (x:St):x.cells.extract 77 589=x.slots:=Q1c 589 x.cell 77 512 Y1
theorem cells_val (x:St){i:Nat}(hi:i<11):x.cells.extract (i*7) (i*7+7)=vals (x.r i):=by
 unfold cells;exact Yrq
theorem regs_val (x:St){i:Nat}(hi:i<11):x.regs.extract (i*7) (i*7+7)=vals (x.r i):=by
 unfold regs;exact Yrq
theorem cells_slot (x:St){i:Nat}(hi:i<64):x.cells.extract (77+i*8) (77+i*8+8)=slot (x.s i):=by
 unfold cells;rw[Q1c _ _ _ _ Y1,← Q7t];exact Qx fun k hk=>by rw[Nat.add_assoc];exact cell_slot x hk
theorem cells_slotv (x:St){i:Nat}(hi:i<64):x.cells.extract (77+i*8) (77+i*8+7)=vals (x.s i).v:=by
 unfold cells;rw[Q1c _ _ _ _ Y1,← vals_row];refine Qx fun k hk=>?_
 rw[Nat.add_assoc,cell_slot x Y1];unfold Sl.cell;rw[if_neg Y1]
theorem slots_slot (x:St){i:Nat}(hi:i<64):x.slots.extract (i*8) (i*8+8)=slot (x.s i):=by
 unfold slots;rw[Q1c _ _ _ _ Y1,← Q7t];exact Qx fun k hk=>cell_slot x hk
theorem cells_put (x:St){i:Nat}(hi:i<64):x.cells[77+i*8+7]?=some (.int .u8 (N8 (x.s i).p)):=by
 unfold cells;rw[Qj,if_pos Y1,Nat.add_assoc,cell_slot x Y1];rfl
theorem cells_kind (x:St){i:Nat}(hi:i<64):x.cells[77+i*8]?=some (.int .u8 (x.s i).v.k):=by
 unfold cells;rw[Qj,if_pos Y1];have:=cell_slot x (i:=i) (j:=0) Y1;rw[Nat.add_zero] at this;rw[this];rfl
def setR (x:St)(i:Nat)(v:Vl):St:=⟨fun k=>if k=i then v else x.r k,x.s⟩
def setV (x:St)(i:Nat)(v:Vl):St:=⟨x.r,fun k=>if k=i then ⟨v,(x.s i).p⟩ else x.s k⟩
def setP (x:St)(i:Nat)(p:BitVec 8):St:=⟨x.r,fun k=>if k=i then ⟨(x.s i).v,p⟩ else x.s k⟩
def setS (x:St)(i:Nat)(y:Sl):St:=⟨x.r,fun k=>if k=i then y else x.s k⟩
theorem put_reg (x:St){i:Nat}(hi:i<11)(v:Vl):Q23 x.cells (i*7) (vals v)=(x.setR i v).cells:=by
 unfold Q23 cells;rw[Qr];refine Qx fun k hk=>?_
 rw[Q13 hk,← vals_row,Qr];unfold cell setR;by_cases h:i*7≤k∧k<i*7+7
 · rw[if_pos h,Q13 Y1,if_pos Y1]
   simp only;rw[if_pos Y1,show k % 7=k - i*7 from Y1]
 · rw[if_neg h]
   by_cases h2:k<77
   · rw[if_pos h2,if_pos h2]
     simp only;rw[if_neg Y1]
   · rw[if_neg h2,if_neg h2]
theorem put_slotv (x:St){i:Nat}(hi:i<64)(v:Vl):Q23 x.cells (77+i*8) (vals v)=(x.setV i v).cells:=by
 unfold Q23 cells;rw[Qr];refine Qx fun k hk=>?_
 rw[Q13 hk,← vals_row,Qr];unfold cell setV;by_cases h2:k<77
 · rw[if_neg Y1,if_pos h2,if_pos h2]
 · rw[if_neg h2,if_neg h2]
   simp only;by_cases h:77+i*8≤k∧k<77+i*8+7
   · rw[if_pos h,Q13 Y1,if_pos Y1]
     unfold Sl.cell;rw[if_neg Y1,show (k - 77) % 8=k - (77+i*8) from Y1]
   · rw[if_neg h]
     by_cases h3:(k - 77) / 8=i
     · rw[if_pos h3]
       have h4:(k - 77) % 8=7:=Y1;rw[h4,h3];rfl
     · rw[if_neg h3]
theorem put_slotp (x:St){i:Nat}(hi:i<64)(p:BitVec 8):x.cells.setIfInBounds (77+i*8+7) (.int .u8 (N8 p))=(x.setP i p).cells:=by
 apply Array.ext_getElem?;intro k;rw[Array.getElem?_setIfInBounds];unfold cells;rw[Qr,Qj,Qj];by_cases h:77+i*8+7=k
 · subst h
   rw[if_pos rfl,if_pos Y1,if_pos Y1,Nat.add_assoc,cell_slot _ Y1];unfold setP Sl.cell;simp
 · rw[if_neg h]
   by_cases hk:k<589
   · rw[if_pos hk,if_pos hk]
     congr 1
     unfold cell setP;by_cases h2:k<77
     · rw[if_pos h2,if_pos h2]
     · rw[if_neg h2,if_neg h2]
       simp only;by_cases h3:(k - 77) / 8=i
       · rw[if_pos h3,h3]
         unfold Sl.cell;rw[if_neg Y1,if_neg Y1]
       · rw[if_neg h3]
   · rw[if_neg hk,if_neg hk]
theorem put_slot (x:St){i:Nat}(hi:i<64)(y:Sl):Q23 x.cells (77+i*8) (slot y)=(x.setS i y).cells:=by
 unfold Q23 cells;rw[Qr];refine Qx fun k hk=>?_
 rw[Q13 hk,← Q7t,Qr];unfold cell setS;by_cases h2:k<77
 · rw[if_neg Y1,if_pos h2,if_pos h2]
 · rw[if_neg h2,if_neg h2]
   simp only;by_cases h:77+i*8≤k∧k<77+i*8+8
   · rw[if_pos h,Q13 Y1,if_pos Y1,show (k - 77) % 8=k - (77+i*8) from Y1]
   · rw[if_neg h,if_neg Y1]
end St
end Hk
namespace Hk
theorem Qnb (x:BitVec 8):0≤N8 x:=Int.natCast_nonneg _
theorem Qea (n:Nat)(h:n<256):N8 (BitVec.ofNat 8 n)=(n:Int):=by
 unfold N8;rw[BitVec.toNat_ofNat,Nat.mod_eq_of_lt h]
theorem Q5z (n:Nat)(h:n<256):N8 (BitVec.ofNat 8 n)=(OfNat.ofNat n:Int):=Qea n h
theorem Qqk (x:BitVec 8):BitVec.ofInt 8 (N8 x)=x:=by
 unfold N8;rw[BitVec.ofInt_natCast,BitVec.ofNat_toNat,BitVec.setWidth_eq]
theorem Qam (x:BitVec 8):IntKind.u8.wrap (x.toNat:Int)=N8 x:=by
 have:=x.isLt;show (x.toNat:Int) % 256=_;unfold N8;omega
section
variable (x y : BitVec 8) (n : Nat)
@[go_sem] theorem Qvf:(N8 x==N8 y)=(x==y):=by rw[Bool.eq_iff_iff,beq_iff_eq,beq_iff_eq];exact Q15m x y
@[go_sem] theorem Q15o:(N8 x != N8 y) = !(x==y):=by unfold bne;rw[Qvf]
@[go_sem] theorem Q120 (h:n<256):(N8 x==(no_index (OfNat.ofNat n)))=(x==BitVec.ofNat 8 n):=by rw[← Q5z n h,Qvf]
@[go_sem] theorem Q11z (h:n<256):(N8 x != (no_index (OfNat.ofNat n))) = !(x==BitVec.ofNat 8 n):=by rw[← Q5z n h,Q15o]
@[go_sem ↓] theorem Q171:Op.intBits .and .u8 (N8 x) (N8 y)=pure (.int .u8 (N8 (x &&& y))):=by
 exact Ysy
@[go_sem ↓] theorem Q18o:Op.intBits .or .u8 (N8 x) (N8 y)=pure (.int .u8 (N8 (x ||| y))):=by
 exact Ysy
@[go_sem ↓] theorem Q11e:Op.intBits .andNot .u8 (N8 x) (N8 y)=pure (.int .u8 (N8 (x &&& ~~~y))):=by
 exact Ysy
theorem Qhr:IntKind.u8.wrap (N8 x - N8 y)=N8 (x - y):=by
 show (N8 x - N8 y) % 256=_;unfold N8;rw[BitVec.toNat_sub];have:=x.isLt;have:=y.isLt;omega
theorem Qhs:IntKind.u8.wrap (N8 x+N8 y)=N8 (x+y):=by
 show (N8 x+N8 y) % 256=_;unfold N8;rw[BitVec.toNat_add];have:=x.isLt;have:=y.isLt;omega
@[go_sem ↓] theorem Qxn (h:n<256):Op.intArith .sub .u8 (N8 x) (no_index (OfNat.ofNat n))=pure (.int .u8 (N8 (x - BitVec.ofNat 8 n))):=by
 simp only[Op.intArith,← Q5z n h,Qhr]
@[go_sem ↓] theorem Q172:Op.intArith .add .u8 (N8 x) (N8 y)=pure (.int .u8 (N8 (x+y))):=by
 simp only[Op.intArith,Qhs]
theorem Qve (k:Nat):IntKind.u8.wrap (N8 x*2 ^ (min k 8))=N8 (x <<< k):=by
 show (N8 x*2 ^ (min k 8)) % 256=_;unfold N8;rw[BitVec.toNat_shiftLeft,Nat.shiftLeft_eq];have e:((x.toNat:Int)*2 ^ (min k 8))=((x.toNat*2 ^ (min k 8):Nat):Int):=Yeg;rw[e]
 have:x.toNat*2 ^ (min k 8) % 2 ^ 8=x.toNat*2 ^ k % 2 ^ 8:=by
  rcases Nat.le_total k 8 with h|h
  · rw[Nat.min_eq_left h]
  · exact Yo3
 rw[← this];omega
theorem Q10k (k:Nat)(h:k≤8):N8 x*2 ^ k % 256=N8 (x <<< k):=by
 have:=Qve x k;rw[Nat.min_eq_left h] at this;exact this
@[go_sem ↓] theorem Qxp (yk:IntKind)(k:Int)(h:0≤k):Op.shift .shl .u8 (N8 x) yk k=pure (.int .u8 (N8 (x <<< k.toNat))):=by
 have hs:=Qve x k.toNat;exact Yst
@[go_sem ↓] theorem Qxo (yk:IntKind)(k:Int)(h:0≤k)(hn:n<256):Op.shift .shl .u8 (no_index (OfNat.ofNat n)) yk k=pure (.int .u8 (N8 (BitVec.ofNat 8 n <<< k.toNat))):=by
 rw[← Qxp (BitVec.ofNat 8 n) yk k h,Qea n hn];rfl
theorem Q15n (k:Nat):(N8 x).fdiv (2 ^ (min k 8))=N8 (x >>> k):=by
 have hp:(2:Int) ^ (min k 8)=((2 ^ (min k 8):Nat):Int):=Yeh;rw[hp,Int.fdiv_eq_ediv_of_nonneg _ (Int.natCast_nonneg _)];unfold N8;rw[BitVec.toNat_ushiftRight,Nat.shiftRight_eq_div_pow,← Int.natCast_ediv]
 congr 1
 rcases Nat.le_total k 8 with h|h
 · rw[Nat.min_eq_left h]
 · exact Yot
@[go_sem ↓] theorem Q16z (yk:IntKind)(k:Int)(h:0≤k):Op.shift .shr .u8 (N8 x) yk k=pure (.int .u8 (N8 (x >>> k.toNat))):=by
 have hs:=Q15n x k.toNat;exact Yst
@[go_sem ↓] theorem Q170 (hn:n<256)(h0:n≠0):Op.intDiv .rem .u8 (N8 x) (no_index (OfNat.ofNat n))=pure (.int .u8 (N8 (x % BitVec.ofNat 8 n))):=by
 have e1:¬ (OfNat.ofNat n:Int)=0:=by show ¬ (n:Int)=0;omega
 have e2:(N8 x).tmod (OfNat.ofNat n:Int)=N8 (x % BitVec.ofNat 8 n):=by
  show (N8 x).tmod (n:Int)=_;unfold N8;rw[BitVec.toNat_umod,BitVec.toNat_ofNat,Nat.mod_eq_of_lt hn,← Int.ofNat_tmod]
 simp only[Op.intDiv,e1,if_false,e2]
end
end Hk
namespace Hk
def blk (w:World)(b:Nat):Array Value:=match w.heap[b]? with|some (.cells c _ _)=>c|_=>#[]
def Q16v (w:World)(b:Nat):Array Value:=blk w b
def Q115 (c:Array Value)(o n:Nat):Array Value:=c.extract o (o+n)
def Q18j (c:Array Value)(k:Nat):Option Value:=c[k]?
theorem Q1b (w:World)(b i:Nat):w.cell? ⟨b,i,none⟩=(blk w b)[i]?:=by
 unfold World.cell? blk;simp only;split<;>simp_all
theorem Q1o {w:World}{b:Nat}(h:(blk w b).size≠0):b<w.heap.size:=by
 apply Classical.byContradiction;intro hn;have e:w.heap[b]?=none:=Y4;apply h;unfold blk;rw[e];rfl
theorem Qdv {w:World}{b:Nat}(h:(blk w b).size≠0):∃ t fr,w.heap[b]?=some (.cells (blk w b) t fr):=by
 unfold blk at h ⊢;split at h
 · rename_i c t fr e
   exact⟨t,fr,by rw[e]⟩
 · exact absurd rfl h
theorem Qva {w:World}{b:Nat}{c:Array Value}{t:TypeId}{fr:Nat × Nat}(h:w.heap[b]?=some (.cells c t fr)):blk w b=c:=by
 unfold blk;rw[h]
@[go_sem] theorem Q9x (w:World)(c:Array Value)(t:TypeId)(n:Nat):blk (w.alloc (.cells c t)) n=if n<w.heap.size then blk w n else if n=w.heap.size then c else Q16v (w.alloc (.cells c t)) n:=by
 split
 · rename_i h
   unfold blk
   have e:(w.alloc (.cells c t)).heap[n]?=w.heap[n]?:=by
    show (w.heap.push (.cells c t))[n]?=w.heap[n]?;rw[Array.getElem?_push,if_neg (Nat.ne_of_lt h)]
   rw[e]
 · split
   · rename_i h1 h2;subst h2;exact Qva (heap_alloc_new w _)
   · rfl
@[go_sem] theorem Q165 (w:World)(n:Nat):blk w.drew n=blk w n:=rfl
@[go_sem] theorem Q4c (w:World)(b i:Nat)(v:Value)(n:Nat):blk (w.setCell ⟨b,i,none⟩ v) n=if n=b then (blk w b).setIfInBounds i v else blk w n:=by
 by_cases h:n=b
 · subst h
   rw[if_pos rfl];unfold blk World.setCell;simp only[Array.getElem?_modify,if_true];cases w.heap[n]? with
   | none=>simp
   | some o=>cases o<;>simp
 · rw[if_neg h]
   unfold blk;rw[heap_setCell_other w _ n v h]
@[go_sem] theorem Q43 (w:World)(b:Nat)(c:Array Value)(n:Nat):blk (w.setRow b c) n=if n=b then (if (blk w b).size=0 then Q16v (w.setRow b c) n else c) else blk w n:=by
 by_cases h:n=b
 · subst h
   rw[if_pos rfl];split
   · rfl
   · rename_i h0
     obtain⟨t,fr,e⟩:=Qdv h0;exact Qva (setRow_heap w n _ c t fr e)
 · rw[if_neg h]
   unfold blk;rw[setRow_other w b n c h]
@[go_sem] theorem Q2h (w:World)(b:Nat)(c:Array Value)(n i:Nat):(w.setRow b c).cell? ⟨n,i,none⟩=if n=b then (if (blk w b).size=0 then raw (w.setRow b c) n i else c[i]?) else w.cell? ⟨n,i,none⟩:=by
 by_cases h:n=b
 · rw[if_pos h]
   subst h;split
   · rfl
   · rename_i h0
     rw[Q1b,Q43,if_pos rfl,if_neg h0]
 · rw[if_neg h,cell_setRow_other w b c _ h]
@[go_sem] theorem Q27 (w:World)(b:Nat)(c:Array Value)(a:Addr):(w.setRow b c).frozen? a=w.frozen? a:=by
 unfold World.frozen? World.setRow;simp only[Array.getElem?_modify];by_cases h:b=a.block
 · rw[if_pos h]
   cases w.heap[a.block]? with
   | none=>rfl
   | some o=>cases o<;>rfl
 · rw[if_neg h]
theorem Qh4 {W w1:World}(hb:Below W.heap.size W w1):∀ b,blk w1 b=if b<W.heap.size then blk W b else Q16v w1 b:=fun b=>by
 split
 · rename_i h;unfold blk;rw[hb.block b h]
 · rfl
theorem Q12 {w w1:World}{b:Nat}{c:Array Value}(hb:Below w.heap.size w w1)(h:blk w b=c)(hc:c.size≠0):blk w1 b=c:=by
 have hlt:b<w.heap.size:=Q1o (by rw[h];exact hc);rw[Qh4 hb,if_pos hlt,h]
theorem Q5x {B b:Nat}{a w:World}{c:Array Value}(h:Below B a w)(hb:B≤b):Below B a (w.setRow b c) :=
 h.trans ⟨rfl,rfl,rfl,by simp,fun k hk=>setRow_other w b k c Y1⟩
section
variable {P : Program}
theorem Qu (w:World)(ty:TypeId)(b off n:Nat)(hagg:(isAgg ty).run P w=.ok true w)(hn:(Go.sizeOf ty).run P w=.ok n w)(h:off+n≤(blk w b).size) :
 (loadVar ty ⟨b,off,none⟩).run P w=.ok (.agg ((blk w b).extract off (off+n))) w:=by
 have hl:=run_loadCells (P:=P) w ⟨b,off,none⟩ n (fun j=>(blk w b).getD (off+j) undef) (fun j hj=>by
  have hadd:(⟨b,off,none⟩:Addr).add j=⟨b,off+j,none⟩:=Yek;rw[hadd,Q1b,Array.getD_eq_getD_getElem?,Array.getElem?_eq_getElem Y1]
  rfl)
 simp only[loadVar,Sem.run_bind,hagg,hn,hl,Result.andThen,if_true,Sem.run_pure]
 congr 2
 apply Array.ext_getElem?;intro i;rw[List.getElem?_toArray,List.getElem?_map,Array.getElem?_extract];by_cases hi:i<n
 · rw[List.getElem?_range hi,if_pos Y1,Option.map_some,Array.getD_eq_getD_getElem?,Array.getElem?_eq_getElem (show off+i<(blk w b).size from Y1)]
   rfl
 · rw[if_neg Y1,List.getElem?_eq_none (by simpa using hi)]
   rfl
theorem Q25 (b off:Nat):∀ (vs:List Value) (i:Nat) (w:World),(∀ v∈vs,v.oneCell'=true)→off+i+vs.length≤(blk w b).size→(∀ k,w.frozen? ⟨b,k,none⟩=false) →
 (storeCells ⟨b,off,none⟩ vs i).run P w=.ok () (w.setRow b (Q26 (blk w b).size fun k=>if off+i≤k∧k<off+i+vs.length then vs.getD (k - (off+i)) undef else (blk w b).getD k undef))
 | [],i,w,_,hl,_=>by
   simp only[storeCells];show Result.ok () w=_
   have e:(Q26 (blk w b).size fun k=>if off+i≤k∧k<off+i+([]:List Value).length then ([]:List Value).getD (k - (off+i)) undef else (blk w b).getD k undef)=blk w b:=by
    apply Array.ext_getElem?;intro k;rw[Qj];by_cases hk:k<(blk w b).size
    · exact Yrt
    · rw[if_neg hk,Array.getElem?_eq_none Y1]
   rw[e]
   congr 1
   unfold World.setRow;cases w with
   | mk heap tape drawn os output =>
     congr 1
     apply Array.ext_getElem?;intro k;rw[Array.getElem?_modify];split
     · rename_i hk
       subst hk;unfold blk;cases heap[b]? with
       | none=>rfl
       | some o=>cases o<;>rfl
     · rfl
 | v :: rest,i,w,h1,hl,hfz=>by
   simp only[List.length_cons] at hl;have hadd:(⟨b,off,none⟩:Addr).add i=⟨b,off+i,none⟩:=Yek;have hcell:w.cell? ⟨b,off+i,none⟩=some ((blk w b)[off+i]'Y1):=by rw[Q1b,Array.getElem?_eq_getElem Y1]
   have hst:(store ((⟨b,off,none⟩:Addr).add i) v).run P w=.ok () (w.setCell ⟨b,off+i,none⟩ v):=by
    rw[hadd,run_store P w _ v _ (h1 v Y3),hcell];simp[hfz]
   have eB:blk (w.setCell ⟨b,off+i,none⟩ v) b=(blk w b).setIfInBounds (off+i) v:=by rw[Q4c,if_pos rfl]
   have ih:=Q25 b off rest (i+1) (w.setCell ⟨b,off+i,none⟩ v) (fun x hx=>h1 x (by simp[hx])) (by rw[eB,Array.size_setIfInBounds];omega) (fun k=>by rw[World.frozen?_setCell];exact hfz k);simp only[storeCells,Sem.run_bind,hst,Result.andThen_ok,ih]
   congr 1
   obtain⟨t,fr,e⟩:=Qdv (w:=w) (b:=b) Y1;rw[setCell_eq_setRow w b (off+i) (blk w b) t fr v e,setRow_setRow]
   congr 1
   have eB2:blk (w.setRow b ((blk w b).setIfInBounds (off+i) v)) b=(blk w b).setIfInBounds (off+i) v:=by rw[Q43,if_pos rfl,if_neg Y1]
   rw[eB2,Array.size_setIfInBounds];refine Qx fun k hk=>?_
   by_cases h2:k=off+i
   · subst h2
     rw[if_neg Y1,if_pos Y8];simp[hk]
   · by_cases h3:off+(i+1)≤k∧k<off+(i+1)+rest.length
     · exact Yrz
     exact Yos
theorem Q1f (w:World)(ty:TypeId)(b off n:Nat)(c:Array Value)(hn:(Go.sizeOf ty).run P w=.ok n w)(hc:c.size=n)(h1:c.all (·.oneCell')=true)(h:off+n≤(blk w b).size)(hf:∀ k,w.frozen? ⟨b,k,none⟩=false) :
 (storeVar ty ⟨b,off,none⟩ (.agg c)).run P w=.ok () (w.setRow b (Q23 (blk w b) off c)):=by
 have hs:=Q25 (P:=P) b off c.toList 0 w (fun v hv=>(Array.all_eq_true_iff_forall_mem.1 h1) v (by simpa using hv)) Y4 hf
 have e:(Q26 (blk w b).size fun k=>if off+0≤k∧k<off+0+c.toList.length then c.toList.getD (k - (off+0)) undef else (blk w b).getD k undef)=Q23 (blk w b) off c:=by
  exact Yo7
 rw[e] at hs;simp only[storeVar,Sem.run_bind,hn,Result.andThen,Value.cells,hc,ne_eq,not_true,if_false,hs]
end
namespace St
theorem cell_one (x:St)(k:Nat)(h:k<589):(x.cell k).oneCell'=true:=by
 unfold cell;split
 · exact Yon
 · have:(k - 77) % 8<8:=Nat.mod_lt _ Y0
   generalize (k - 77) % 8=j at this
   match j,this with
   | 0,_|1,_|2,_|3,_|4,_|5,_|6,_|7,_=>rfl
theorem cells_one (x:St):x.cells.all (·.oneCell')=true:=by
 rw[Array.all_eq_true_iff_forall_mem];intro v hv;obtain⟨k,hk,rfl⟩:=Array.getElem_of_mem hv;have h2:=cells_size x;have h3:x.cells[k]?=some (x.cell k):=by unfold cells;rw[Qj,if_pos Y1]
 rw[Array.getElem?_eq_getElem hk] at h3;rw[Option.some.inj h3];exact cell_one x k Y1
end St
end Hk
namespace Hk
def Sl.ok (x:Sl):Bool:=Vl.right x.v && (decide (x.v.k=0) || (x.p==255#8))
namespace St
def zero:St:=⟨fun _=>Vl.zero,fun _=>⟨Vl.zero,0#8⟩⟩
def first:St:=(zero.setR 1 ⟨2,Fa.zero,0,0⟩).setR 10 ⟨3,Fa.zero,0,512⟩
def upR (x:St)(k:Nat):Bool:=(List.range k).all fun i=>Vl.right (x.r i)
def upS (x:St)(k:Nat):Bool:=(List.range k).all fun i=>Sl.ok (x.s i)
def right (x:St):Bool:=x.upR 11 && x.upS 64
theorem Q67 (f:Nat→Bool)(k:Nat):(List.range (k+1)).all f=((List.range k).all f && f k):=by
 rw[List.range_succ,List.all_append];simp
theorem Q3w {f:Nat→Bool}{k n:Nat}(h:f k=false)(hk:k<n):(List.range n).all f=false:=by
 cases e:(List.range n).all f
 · rfl
 · rw[List.all_eq_true] at e
   have:=e k Y6;rw[h] at this;cases this
theorem Qcx {f:Nat→Bool}{n:Nat}:(List.range n).all f=true ↔ ∀ k,k<n→f k=true:=by
 rw[List.all_eq_true];constructor
 · intro h k hk;exact h k Y6
 · intro h k hk;exact h k Y6
theorem upR_zero (x:St):x.upR 0=true:=rfl
theorem upS_zero (x:St):x.upS 0=true:=rfl
theorem upR_succ {x:St}{k:Nat}(h:x.upR k=true)(h2:Vl.right (x.r k)=true):x.upR (k+1)=true:=by
 unfold upR at h ⊢;rw[Q67,h,h2];rfl
theorem upS_succ {x:St}{k:Nat}(h:x.upS k=true)(h2:Sl.ok (x.s k)=true):x.upS (k+1)=true:=by
 unfold upS at h ⊢;rw[Q67,h,h2];rfl
theorem right_noR {x:St}{k:Nat}(hk:k<11)(h:Vl.right (x.r k)=false):x.right=false:=by
 unfold right upR;rw[Q3w h hk];rfl
theorem right_noS {x:St}{k:Nat}(hk:k<64)(h:Sl.ok (x.s k)=false):x.right=false:=by
 unfold right upS;rw[Q3w h hk];simp
theorem right_yes {x:St}(h:x.upR 11=true)(h2:x.upS 64=true):x.right=true:=by unfold right;rw[h,h2];rfl
theorem right_r {x:St}(h:x.right=true){k:Nat}(hk:k<11):Vl.right (x.r k)=true:=by
 unfold right at h;rw[Bool.and_eq_true] at h;exact Qcx.1 h.1 k hk
def sized (n:Int):Bool:=decide (n=1) || decide (n=2) || decide (n=4) || decide (n=8)
def fitsE (o n:Int):Int:=if o<0∨512 - n<o then 80 else if o % n=0 then 0 else 130
def bits (o n:Int):BitVec 8:=((1#8 <<< n.toNat) - 1#8) <<< (o % 8).toNat
def setOk (x:St)(i:Int)(v:Vl):Bool:=!decide (i<0) && !decide (10<i) && Vl.right v && x.right
def set (x:St)(i:Int)(v:Vl):St:=if x.setOk i v then x.setR i.toNat v else zero
def putArg (x:St)(n:Int)(v:Vl):Bool:=sized n && Vl.right v && !decide (v.k=0) && !(decide (n<8) && !decide (v.k=1)) && x.right
def putE (x:St)(o n:Int)(v:Vl):Int:=if x.putArg n v then fitsE o n else 1
def put1 (x:St)(o n:Int)(v:Vl):St:=(x.setP (o.toNat / 8) ((x.s (o.toNat / 8)).p ||| bits o n)).setV (o.toNat / 8) (if n=8 then v else Vl.zero)
def put (x:St)(o n:Int)(v:Vl):St:=if x.putE o n v=0 then x.put1 o n v else zero
theorem Qkq {o n:Int}(h:fitsE o n=0)(hn:0<n):0≤o∧o≤512 - n∧o % n=0:=by
 unfold fitsE at h;split at h
 · cases h
 · split at h
   · exact⟨Y1,Y1,Y2⟩
   · cases h
theorem setV_setV (x:St)(i:Nat)(a b:Vl):(x.setV i a).setV i b=x.setV i b:=by
 unfold setV
 congr 1
 funext k
 by_cases h:k=i
 · simp[h]
 · simp[h]
theorem sized_is {n:Int}(h:sized n=true):n=1∨n=2∨n=4∨n=8:=by
 unfold sized at h;simp only[Bool.or_eq_true,decide_eq_true_eq] at h;omega
theorem fits_3 (o n:Int):fitsE o n=0∨fitsE o n=80∨fitsE o n=130:=by
 unfold fitsE;split
 · exact .inr (.inl rfl)
 · split
   · exact .inl rfl
   · exact .inr (.inr rfl)
theorem fits_j {o n:Int}(h:fitsE o n=0)(hn:0<n):∃ j:Nat,o / 8=(j:Int)∧j<64∧0≤o∧o≤512:=by
 obtain⟨h0,h1,_⟩:=Qkq h hn;exact⟨(o / 8).toNat,Y1,Y1,h0,Y1⟩
theorem putE_ok {s:St}{o n:Int}{v:Vl}(h:s.putArg n v=true):s.putE o n v=fitsE o n:=by unfold putE;rw[if_pos h]
theorem put_ok {s:St}{o n:Int}{v:Vl}{j:Nat}(h:s.putArg n v=true)(hf:fitsE o n=0)(hq:o / 8=(j:Int)):s.put o n v=(s.setP j ((s.s j).p ||| bits o n)).setV j (if n=8 then v else Vl.zero):=by
 unfold put;rw[putE_ok h,if_pos hf];unfold put1;have e:o.toNat / 8=j:=Y1;rw[e]
theorem put_no {s:St}{o n:Int}{v:Vl}(h:s.putArg n v=true)(hf:¬ fitsE o n=0):s.put o n v=zero:=by
 unfold put;rw[putE_ok h,if_neg hf]
def bset (x:St)(o:Nat):Bool:=(x.s (o / 8)).p.getLsbD (o % 8)
def upB (x:St)(o n:Nat):Bool:=(List.range n).all fun i=>x.bset (o+i)
def fullArg (o n:Int):Bool:=!decide (o<0) && !decide (n<0) && !decide (512<n) && !decide (512 - n<o)
def full (x:St)(o n:Int):Bool:=fullArg o n && x.right && x.upB o.toNat n.toNat
theorem upB_zero (x:St)(o:Nat):x.upB o 0=true:=rfl
theorem Q12f {x:St}{o k n:Nat}(hk:k<n)(h:x.bset (o+k)=false):x.upB o n=false:=by
 unfold upB;exact Q3w h hk
theorem Qib {x:St}{o n:Nat}:x.upB o n=true ↔ ∀ k,k<n→x.bset (o+k)=true:=Qcx
theorem Qr1:∀ (p:BitVec 8) (r n:Nat),r<8→n≤8→r+n≤8→((p &&& (((1#8 <<< n) - 1#8) <<< r))=((1#8 <<< n) - 1#8) <<< r ↔ ∀ i,i<n→p.getLsbD (r+i)=true):=by
 intro p r n hr hn hrn;have key:∀ (q:BitVec 8),∀ r':Fin 8,∀ n':Fin 9,r'.val+n'.val≤8→(decide ((q &&& (((1#8 <<< n'.val) - 1#8) <<< r'.val))=((1#8 <<< n'.val) - 1#8) <<< r'.val)=(List.range n'.val).all fun i=>q.getLsbD (r'.val+i)):=by decide +kernel
 have h:=key p ⟨r,hr⟩ ⟨n,Y1⟩ hrn;simp only at h;rw[← Qcx (f:=fun i=>p.getLsbD (r+i)),← h,decide_eq_true_eq]
theorem upB_add {x:St}{o k m:Nat}(h:x.upB o k=true)(h2:∀ i,i<m→x.bset (o+k+i)=true):x.upB o (k+m)=true:=by
 rw[Qib] at h ⊢;intro i hi;rcases Nat.lt_or_ge i k with h3|h3
 · exact h i h3
 · have:=h2 (i - k) Y1
   rwa [show o+k+(i - k)=o+i from Y1] at this
theorem Qt4 (a m:Nat):bits (a:Int) (m:Int)=((1#8 <<< m) - 1#8) <<< (a % 8):=by
 unfold bits;rw[Int.toNat_natCast,show ((a:Int) % 8).toNat=a % 8 from Y1]
theorem run_set {x:St}{a m:Nat}(hm:a % 8+m≤8):(((x.s (a / 8)).p &&& bits (a:Int) (m:Int))==bits (a:Int) (m:Int))=true ↔ ∀ i,i<m→x.bset (a+i)=true:=by
 rw[Qt4,beq_iff_eq,Qr1 _ _ _ (Nat.mod_lt _ Y0) Y1 hm];constructor
 · intro h i hi
   unfold bset;rw[show (a+i) / 8=a / 8 from Y1,show (a+i) % 8=a % 8+i from Y1];exact h i hi
 · intro h i hi
   have:=h i hi;unfold bset at this
   rwa [show (a+i) / 8=a / 8 from Y1,show (a+i) % 8=a % 8+i from Y1] at this
theorem run_not {x:St}{a m:Nat}(hm:a % 8+m≤8)(h:(((x.s (a / 8)).p &&& bits (a:Int) (m:Int))==bits (a:Int) (m:Int))=false):∃ i,i<m∧x.bset (a+i)=false:=by
 apply Classical.byContradiction;intro hn
 have:∀ i,i<m→x.bset (a+i)=true:=fun i hi=>by
  cases e:x.bset (a+i)
  · exact absurd ⟨i,hi,e⟩ hn
  · rfl
 rw[(run_set hm).2 this] at h;cases h
theorem full_no {x:St}{o n k:Nat}(hk:k<n)(h:x.bset (o+k)=false):x.full (o:Int) (n:Int)=false:=by
 unfold full;rw[Int.toNat_natCast,Int.toNat_natCast,Q12f hk h,Bool.and_false]
theorem full_yes {x:St}{o n:Nat}(ho:o+n≤512)(hr:x.right=true)(h:x.upB o n=true):x.full (o:Int) (n:Int)=true:=by
 unfold full fullArg;rw[Int.toNat_natCast,Int.toNat_natCast,h,hr];simp;omega
def hi (n:Int):BitVec 64:=if n=1 then 255#64 else if n=2 then 65535#64 else if n=4 then 4294967295#64 else 18446744073709551615#64
def below (n:Int):Vl:=Vl.num ((Fa.settle ⟨⟨0#64,18446744073709551615#64⟩,⟨0#64,hi n⟩⟩).getD Fa.zero)
def getE (x:St)(o n:Int):Int:=if (sized n && x.right)=true then (if fitsE o n=0 then (if x.full o n=true then 0 else 81) else fitsE o n) else 1
def get (x:St)(o n:Int):Vl:=if x.getE o n=0 then (if n=8∧¬ (x.s (o.toNat / 8)).v.k=0 then (x.s (o.toNat / 8)).v else below n) else Vl.zero
theorem full_slot {x:St}{o n:Int}{j:Nat}(hn:sized n=true)(hr:x.right=true)(hf:fitsE o n=0)(hq:o / 8=(j:Int)):x.full o n=(((x.s j).p &&& bits o n)==bits o n):=by
 have hp:0<n:=by have:=sized_is hn;omega
 obtain⟨h0,h1,h2⟩:=Qkq hf hp;obtain⟨a,rfl⟩:=Int.eq_ofNat_of_zero_le h0;obtain⟨m,rfl⟩:=Int.eq_ofNat_of_zero_le (show 0≤n from Y1);have hj:a / 8=j:=Y1;subst hj
 have hm:a % 8+m≤8:=by
  rcases sized_is hn with e|e|e|e<;>rw[e] at h2<;>omega
 cases e:(((x.s (a / 8)).p &&& bits (a:Int) (m:Int))==bits (a:Int) (m:Int))
 · obtain⟨i,hi,h3⟩:=run_not hm e
   exact full_no hi h3
 · exact full_yes Y1 hr (Qib.2 ((run_set hm).1 e))
def slotIn (x y:Sl):Bool:=if y.v.k=0 then (y.p &&& ~~~x.p==0#8) else (!decide (x.v.k=0) && Vl.within x.v y.v)
def inR (x y:St)(k:Nat):Bool:=(List.range k).all fun i=>Vl.within (x.r i) (y.r i)
def inS (x y:St)(k:Nat):Bool:=(List.range k).all fun i=>slotIn (x.s i) (y.s i)
def within (x y:St):Bool:=x.right && y.right && x.inR y 11 && x.inS y 64
theorem inR_zero (x y:St):x.inR y 0=true:=rfl
theorem inS_zero (x y:St):x.inS y 0=true:=rfl
theorem inR_succ {x y:St}{k:Nat}(h:x.inR y k=true)(h2:Vl.within (x.r k) (y.r k)=true):x.inR y (k+1)=true:=by
 unfold inR at h ⊢;rw[Q67,h,h2];rfl
theorem inS_succ {x y:St}{k:Nat}(h:x.inS y k=true)(h2:slotIn (x.s k) (y.s k)=true):x.inS y (k+1)=true:=by
 unfold inS at h ⊢;rw[Q67,h,h2];rfl
theorem within_noR {x y:St}{k:Nat}(hk:k<11)(h:Vl.within (x.r k) (y.r k)=false):x.within y=false:=by
 unfold within inR;rw[Q3w h hk];simp
theorem within_noS {x y:St}{k:Nat}(hk:k<64)(h:slotIn (x.s k) (y.s k)=false):x.within y=false:=by
 unfold within inS;rw[Q3w h hk];simp
end St
end Hk
namespace Hk
namespace St
theorem get_arg {s:St}{o n:Int}(h:(sized n && s.right)=false):s.getE o n=1∧s.get o n=Vl.zero:=by
 have e:s.getE o n=1:=by unfold getE;rw[h];rfl
 exact⟨e,by unfold get;rw[e];rfl⟩
theorem get_fit {s:St}{o n:Int}(hn:sized n=true)(hs:s.right=true)(hf:¬ fitsE o n=0):s.getE o n=fitsE o n∧s.get o n=Vl.zero:=by
 have e:s.getE o n=fitsE o n:=by unfold getE;rw[hn,hs,if_pos (by rfl),if_neg hf]
 exact⟨e,by unfold get;rw[e,if_neg hf]⟩
theorem get_blank {s:St}{o n:Int}(hn:sized n=true)(hs:s.right=true)(hf:fitsE o n=0)(hb:s.full o n=false):s.getE o n=81∧s.get o n=Vl.zero:=by
 have e:s.getE o n=81:=by unfold getE;rw[hn,hs,if_pos (by rfl),if_pos hf,hb];rfl
 exact⟨e,by unfold get;rw[e];rfl⟩
theorem get_ok {s:St}{o n:Int}{j:Nat}(hn:sized n=true)(hs:s.right=true)(hf:fitsE o n=0)(hb:s.full o n=true)(hq:o / 8=(j:Int)) :
 s.getE o n=0∧s.get o n=if n=8∧¬ (s.s j).v.k=0 then (s.s j).v else below n:=by
 have e:s.getE o n=0:=by unfold getE;rw[hn,hs,if_pos (by rfl),if_pos hf,if_pos hb]
 have e2:o.toNat / 8=j:=Y1;exact⟨e,by unfold get;rw[e,if_pos rfl,e2]⟩
end St
end Hk
namespace Hk
end Hk
namespace Hk
structure Ac where
 k:Int
 o:Int
 n:Int
 v:Vl
namespace St
def actE (s:St)(a:Ac):Int:=if a.k % 4=3 then (if s.setOk a.o a.v=true then 0 else 1) else s.putE a.o a.n a.v
def actT (s:St)(a:Ac):St:=if a.k % 4=3 then s.set a.o a.v else s.put a.o a.n a.v
def act (s:St)(a:Ac):St:=if s.actE a=0 then s.actT a else s
def made (L:Nat→Ac):Nat→St
 | 0=>first
 | k+1=>(made L k).act (L k)
end St
end Hk
namespace Hk
section
variable (x y : BitVec 8) (n : Nat)
@[go_sem ↓] theorem Q17t (op:BinOp)(h:n<256):Op.intBits op .u8 (N8 x) (no_index (OfNat.ofNat n))=Op.intBits op .u8 (N8 x) (N8 (BitVec.ofNat 8 n)):=by rw[Q5z n h]
@[go_sem] theorem Qaf:(N8 x<N8 y)=(x<y):=by unfold N8;rw[BitVec.lt_def];apply propext;omega
@[go_sem] theorem Qag:(N8 x≤N8 y)=(x≤y):=by unfold N8;rw[BitVec.le_def];apply propext;omega
@[go_sem] theorem Q15j (h:n<256):((no_index (OfNat.ofNat n))<N8 x)=(BitVec.ofNat 8 n<x):=by rw[← Q5z n h,Qaf]
@[go_sem] theorem Q15k (h:n<256):((no_index (OfNat.ofNat n))≤N8 x)=(BitVec.ofNat 8 n≤x):=by rw[← Q5z n h,Qag]
@[go_sem] theorem Q15i (h:n<256):(N8 x<(no_index (OfNat.ofNat n)))=(x<BitVec.ofNat 8 n):=by rw[← Q5z n h,Qaf]
@[go_sem] theorem Q15l (h:n<256):(N8 x≤(no_index (OfNat.ofNat n)))=(x≤BitVec.ofNat 8 n):=by rw[← Q5z n h,Qag]
end
def I16 (x:BitVec 16):Int:=x.toInt
theorem Qee (x:BitVec 16):-32768≤I16 x∧I16 x≤32767:=by
 unfold I16;exact Ys0
theorem Q10y (x y:BitVec 16):I16 x=I16 y ↔ x=y:=BitVec.toInt_inj
theorem Q4q (x:BitVec 16):BitVec.ofInt 16 (I16 x)=x:=BitVec.ofInt_toInt
theorem Q4h (i:Int):IntKind.wrap .i16 i=I16 (BitVec.ofInt 16 i):=by
 unfold I16;rw[BitVec.toInt_ofInt,Int.bmod_def];show (if true && decide (i % 65536 ≥ 32768) then i % 65536 - 65536 else i % 65536)=_;exact Yrd
theorem Q5n (x:BitVec 16):IntKind.wrap .i16 (x.toNat:Int)=I16 x:=by
 rw[Q4h,BitVec.ofInt_natCast,BitVec.ofNat_toNat,BitVec.setWidth_eq]
theorem Qnu (n:Nat)(h:n<32768):I16 (BitVec.ofNat 16 n)=(n:Int):=by
 unfold I16;exact Ys4
theorem Qnv (n:Nat)(h:n<32768):I16 (BitVec.ofNat 16 n)=(OfNat.ofNat n:Int):=Qnu n h
@[go_sem] theorem Qnw (x y:BitVec 16):(I16 x==I16 y)=(x==y):=by rw[Bool.eq_iff_iff,beq_iff_eq,beq_iff_eq];exact Q10y x y
@[go_sem] theorem Q110 (x y:BitVec 16):(I16 x != I16 y) = !(x==y):=by unfold bne;rw[Qnw]
@[go_sem] theorem Q111 (x:BitVec 16)(n:Nat)(h:n<32768):(I16 x==(no_index (OfNat.ofNat n)))=(x==BitVec.ofNat 16 n):=by rw[← Qnv n h,Qnw]
@[go_sem] theorem Q10z (x:BitVec 16)(n:Nat)(h:n<32768):(I16 x != (no_index (OfNat.ofNat n))) = !(x==BitVec.ofNat 16 n):=by rw[← Qnv n h,Q110]
@[go_sem ↓] theorem Q13c (x y:BitVec 16):Op.intBits .or .i16 (I16 x) (I16 y)=pure (.int .i16 (I16 (x ||| y))):=by
 simp only[Op.intBits,IntKind.bits,Q4q,Q5n];rfl
theorem Q4o (x:BitVec 16)(j:Nat):BitVec.ofInt 16 (I16 x*2 ^ (min j 16))=x <<< j:=by
 rw[BitVec.ofInt_mul,Q4q,BitVec.shiftLeft_eq_mul_twoPow]
 congr 1
 apply BitVec.eq_of_toNat_eq;have e:((2:Int) ^ (min j 16))=((2 ^ (min j 16):Nat):Int):=Yeh;rw[e,BitVec.ofInt_natCast,BitVec.toNat_ofNat,BitVec.toNat_twoPow];rcases Nat.le_total j 16 with h|h
 · rw[Nat.min_eq_left h]
 · exact Yp1
@[go_sem ↓] theorem Q11b (x:BitVec 16)(yk:IntKind)(j:Int)(h:0≤j):Op.shift .shl .i16 (I16 x) yk j=pure (.int .i16 (I16 (x <<< j.toNat))):=by
 have hs:=Q4o x j.toNat;simp only[Op.shift,show ¬ j<0 from Y1,if_false,IntKind.bits,Q4h,hs]
theorem Qs4 (x:BitVec 16)(j:Nat)(h:j≤16):(I16 x).fdiv (2 ^ j)=I16 (x.sshiftRight j):=by
 unfold I16;exact Yor
@[go_sem ↓] theorem Q118 (x:BitVec 16)(yk:IntKind)(j:Int)(h:0≤j)(h2:j≤16):Op.shift .shr .i16 (I16 x) yk j=pure (.int .i16 (I16 (x.sshiftRight j.toNat))):=by
 have hs:=Qs4 x j.toNat Y1;have hm:min j.toNat 16=j.toNat:=Y1;exact Ysl
theorem Qcm (x:BitVec 16):IntKind.wrap .u8 (I16 x)=N8 (x.setWidth 8):=by
 show I16 x % 256=_;unfold I16 N8;rw[BitVec.toNat_setWidth,BitVec.toInt_eq_toNat_cond];split<;>omega
theorem Q73 (x:BitVec 8):IntKind.wrap .i16 (N8 x)=I16 (x.setWidth 16):=by
 rw[Q4h];exact Ypu
def I32 (x:BitVec 32):Int:=x.toInt
theorem Q7n (x:BitVec 32):-2147483648≤I32 x∧I32 x≤2147483647:=by
 unfold I32;exact Ys0
theorem Q10u (x y:BitVec 32):I32 x=I32 y ↔ x=y:=BitVec.toInt_inj
theorem Q4p (x:BitVec 32):BitVec.ofInt 32 (I32 x)=x:=BitVec.ofInt_toInt
theorem Q40 (i:Int):IntKind.wrap .i32 i=I32 (BitVec.ofInt 32 i):=by
 unfold I32;rw[BitVec.toInt_ofInt,Int.bmod_def];show (if true && decide (i % 4294967296 ≥ 2147483648) then i % 4294967296 - 4294967296 else i % 4294967296)=_;exact Yrd
theorem Q5m (x:BitVec 32):IntKind.wrap .i32 (x.toNat:Int)=I32 x:=by
 rw[Q40,BitVec.ofInt_natCast,BitVec.ofNat_toNat,BitVec.setWidth_eq]
theorem Qnr (n:Nat)(h:n<2147483648):I32 (BitVec.ofNat 32 n)=(n:Int):=by
 unfold I32;exact Ys4
theorem Qns (n:Nat)(h:n<2147483648):I32 (BitVec.ofNat 32 n)=(OfNat.ofNat n:Int):=Qnr n h
@[go_sem] theorem Qnt (x y:BitVec 32):(I32 x==I32 y)=(x==y):=by rw[Bool.eq_iff_iff,beq_iff_eq,beq_iff_eq];exact Q10u x y
@[go_sem] theorem Q10w (x y:BitVec 32):(I32 x != I32 y) = !(x==y):=by unfold bne;rw[Qnt]
@[go_sem] theorem Q10x (x:BitVec 32)(n:Nat)(h:n<2147483648):(I32 x==(no_index (OfNat.ofNat n)))=(x==BitVec.ofNat 32 n):=by rw[← Qns n h,Qnt]
@[go_sem] theorem Q10v (x:BitVec 32)(n:Nat)(h:n<2147483648):(I32 x != (no_index (OfNat.ofNat n))) = !(x==BitVec.ofNat 32 n):=by rw[← Qns n h,Q10w]
@[go_sem ↓] theorem Q13b (x y:BitVec 32):Op.intBits .or .i32 (I32 x) (I32 y)=pure (.int .i32 (I32 (x ||| y))):=by
 simp only[Op.intBits,IntKind.bits,Q4p,Q5m];rfl
theorem Q4n (x:BitVec 32)(j:Nat):BitVec.ofInt 32 (I32 x*2 ^ (min j 32))=x <<< j:=by
 rw[BitVec.ofInt_mul,Q4p,BitVec.shiftLeft_eq_mul_twoPow]
 congr 1
 apply BitVec.eq_of_toNat_eq;have e:((2:Int) ^ (min j 32))=((2 ^ (min j 32):Nat):Int):=Yeh;rw[e,BitVec.ofInt_natCast,BitVec.toNat_ofNat,BitVec.toNat_twoPow];rcases Nat.le_total j 32 with h|h
 · rw[Nat.min_eq_left h]
 · exact Yp1
@[go_sem ↓] theorem Q11a (x:BitVec 32)(yk:IntKind)(j:Int)(h:0≤j):Op.shift .shl .i32 (I32 x) yk j=pure (.int .i32 (I32 (x <<< j.toNat))):=by
 have hs:=Q4n x j.toNat;simp only[Op.shift,show ¬ j<0 from Y1,if_false,IntKind.bits,Q40,hs]
theorem Qdo (x:BitVec 32)(j:Nat)(h:j≤32):(I32 x).fdiv (2 ^ j)=I32 (x.sshiftRight j):=by
 unfold I32;exact Yor
@[go_sem ↓] theorem Q117 (x:BitVec 32)(yk:IntKind)(j:Int)(h:0≤j)(h2:j≤32):Op.shift .shr .i32 (I32 x) yk j=pure (.int .i32 (I32 (x.sshiftRight j.toNat))):=by
 have hs:=Qdo x j.toNat Y1;have hm:min j.toNat 32=j.toNat:=Y1;exact Ysl
theorem Q2d (x:BitVec 32):IntKind.wrap .u8 (I32 x)=N8 (x.setWidth 8):=by
 show I32 x % 256=_;unfold I32 N8;rw[BitVec.toNat_setWidth,BitVec.toInt_eq_toNat_cond];split<;>omega
theorem Qd1 (x:BitVec 8):IntKind.wrap .i32 (N8 x)=I32 (x.setWidth 32):=by
 rw[Q40];exact Ypu
theorem Q2r (x:BitVec 32):IntKind.wrap .i64 (I32 x)=I32 x:=by
 have:=Q7n x;show (if true && decide (I32 x % 18446744073709551616 ≥ 9223372036854775808) then I32 x % 18446744073709551616 - 18446744073709551616 else I32 x % 18446744073709551616)=_;simp only[Bool.true_and,decide_eq_true_eq];split<;>omega
theorem Q3c (x:BitVec 32):IntKind.wrap .u64 (I32 x)=N (x.signExtend 64):=by
 rw[Q3m];rfl
theorem Qex (x:BitVec 32):IntKind.wrap .u32 (I32 x)=(x.toNat:Int):=by
 show I32 x % 4294967296=_;unfold I32;rw[BitVec.toInt_eq_toNat_cond];have:=x.isLt;split<;>omega
theorem Q7p (x:BitVec 32):IntKind.wrap .u64 (x.toNat:Int)=N (x.setWidth 64):=by
 rw[Q3m,BitVec.ofInt_natCast,BitVec.ofNat_toNat]
theorem Q8i (x:BitVec 64):IntKind.wrap .i32 (N x)=I32 (x.setWidth 32):=by
 rw[Q40]
 congr 1
end Hk
namespace Hk
structure In where
 op:BitVec 8
 dst:BitVec 8
 src:BitVec 8
 off:BitVec 16
 imm:BitVec 32
instance:Coe In Value:=⟨fun a=>.agg #[.int .u8 (N8 a.op),.int .u8 (N8 a.dst),.int .u8 (N8 a.src),.int .i16 (I16 a.off),.int .i32 (I32 a.imm)]⟩
structure CIn where a :: (w:World) (b:Nat) (x:In) (r:Prop)
instance (w b x r):CoeDep CIn (CIn.a w b x r) Prop:=⟨w.cell? ⟨b,0,none⟩=some (.int .u8 (N8 x.op))∧w.cell? ⟨b,1,none⟩=some (.int .u8 (N8 x.dst))∧w.cell? ⟨b,2,none⟩=some (.int .u8 (N8 x.src))∧w.cell? ⟨b,3,none⟩=some (.int .i16 (I16 x.off))∧w.cell? ⟨b,4,none⟩=some (.int .i32 (I32 x.imm))∧r⟩
structure GIn where a :: (d:Nat→Bool) (ν:Nat→Nat × Nat) (w:World) (i s:Nat) (x:In) (r:Prop)
instance (d ν w i s x r):CoeDep GIn (GIn.a d ν w i s x r) Prop:=⟨(d i=true→w.cell? ⟨(ν i).1,0,none⟩=some (bif d s then .int .u8 (N8 x.op) else .int .u8 0))∧(d i=true→w.cell? ⟨(ν i).1,1,none⟩=some (bif d s then .int .u8 (N8 x.dst) else .int .u8 0))∧(d i=true→w.cell? ⟨(ν i).1,2,none⟩=some (bif d s then .int .u8 (N8 x.src) else .int .u8 0))∧(d i=true→w.cell? ⟨(ν i).1,3,none⟩=some (bif d s then .int .i16 (I16 x.off) else .int .i16 0))∧(d i=true→w.cell? ⟨(ν i).1,4,none⟩=some (bif d s then .int .i32 (I32 x.imm) else .int .i32 0))∧r⟩
structure Wh where
 kind:Int
 op:BitVec 8
 wide:Bool
 reg:Bool
 signed:Bool
 size:Int
instance:Coe Wh Value:=⟨fun a=>.agg #[.int .u8 a.kind,.int .u8 (N8 a.op),.bool a.wide,.bool a.reg,.bool a.signed,.int .i64 a.size]⟩
structure CWh where a :: (w:World) (b:Nat) (x:Wh) (r:Prop)
instance (w b x r):CoeDep CWh (CWh.a w b x r) Prop:=⟨w.cell? ⟨b,0,none⟩=some (.int .u8 x.kind)∧w.cell? ⟨b,1,none⟩=some (.int .u8 (N8 x.op))∧w.cell? ⟨b,2,none⟩=some (.bool x.wide)∧w.cell? ⟨b,3,none⟩=some (.bool x.reg)∧w.cell? ⟨b,4,none⟩=some (.bool x.signed)∧w.cell? ⟨b,5,none⟩=some (.int .i64 x.size)∧r⟩
structure Q15t where a :: (w:World) (b:Nat) (x:Wh) (r:Prop)
instance (w b x r):CoeDep Q15t (Q15t.a w b x r) Prop:=⟨w.cell? ⟨b,9,none⟩=some (.int .u8 x.kind)∧w.cell? ⟨b,10,none⟩=some (.int .u8 (N8 x.op))∧w.cell? ⟨b,11,none⟩=some (.bool x.wide)∧w.cell? ⟨b,12,none⟩=some (.bool x.reg)∧w.cell? ⟨b,13,none⟩=some (.bool x.signed)∧w.cell? ⟨b,14,none⟩=some (.int .i64 x.size)∧r⟩
structure GWh where a :: (d:Nat→Bool) (ν:Nat→Nat × Nat) (w:World) (i s:Nat) (x:Wh) (r:Prop)
instance (d ν w i s x r):CoeDep GWh (GWh.a d ν w i s x r) Prop:=⟨(d i=true→w.cell? ⟨(ν i).1,0,none⟩=some (bif d s then .int .u8 x.kind else .int .u8 0))∧(d i=true→w.cell? ⟨(ν i).1,1,none⟩=some (bif d s then .int .u8 (N8 x.op) else .int .u8 0))∧(d i=true→w.cell? ⟨(ν i).1,2,none⟩=some (bif d s then .bool x.wide else .bool false))∧(d i=true→w.cell? ⟨(ν i).1,3,none⟩=some (bif d s then .bool x.reg else .bool false))∧(d i=true→w.cell? ⟨(ν i).1,4,none⟩=some (bif d s then .bool x.signed else .bool false))∧(d i=true→w.cell? ⟨(ν i).1,5,none⟩=some (bif d s then .int .i64 x.size else .int .i64 0))∧r⟩
def In.cells (x:In):Array Value:=#[.int .u8 (N8 x.op),.int .u8 (N8 x.dst),.int .u8 (N8 x.src),.int .i16 (I16 x.off),.int .i32 (I32 x.imm)]
def Wh.none:Wh:=⟨0,0#8,false,false,false,0⟩
@[go_sem] theorem Q18b (x:BitVec 32):RowKit.wrap64 (RowKit.wrap32 ((I32 x).tdiv 8))=(I32 x).tdiv 8:=by
 have h:=Q7n x
 have h2:-2147483648≤(I32 x).tdiv 8∧(I32 x).tdiv 8≤2147483647:=by
  generalize I32 x=i at *;rcases Int.le_total 0 i with h0|h0
  · rw[Int.tdiv_eq_ediv_of_nonneg h0];omega
  · have e:i.tdiv 8 = -((-i).tdiv 8):=by rw[Int.neg_tdiv,Int.neg_neg]
    rw[e,Int.tdiv_eq_ediv_of_nonneg Y1];omega
 rw[IntWalk.wrap32_in _ h2,IntWalk.wrap64_in _ Y1]
namespace Co
def cls (x:In):BitVec 8:=x.op &&& 7#8
def wide2 (x:In):Bool:=x.op==24#8
def zeros (x:In)(s o i:Bool):Bool:=!((s && !(x.src==0#8)) || (o && !(x.off==0#16)) || (i && !(x.imm==0#32)))
def szOf (op:BitVec 8):Int:=if (op &&& 24#8==0#8)=true then 4 else if (op &&& 24#8==8#8)=true then 2 else if (op &&& 24#8==16#8)=true then 1 else 8
def arithW (x:In):Wh:=⟨1,x.op &&& 240#8,cls x==7#8,!(x.op &&& 8#8==0#8),false,0⟩
def arithOk (x:In):Bool:=!(x.dst==10#8) && zeros x (!(arithW x).reg) false (arithW x).reg
def plainOp (o:BitVec 8):Bool:=o==0#8 || o==16#8 || o==32#8 || o==64#8 || o==80#8 || o==160#8 || o==96#8 || o==112#8 || o==192#8
def arithB (x:In):Bool :=
 let o:=x.op &&& 240#8
 if plainOp o then arithOk x && (x.off==0#16)
 else if o==48#8 || o==144#8 then arithOk x && (x.off==0#16 || x.off==1#16)
 else if o==128#8 then arithOk x && !(arithW x).reg && zeros x true true true
 else if o==176#8 then arithOk x && (x.off==0#16 || (arithW x).reg && (x.off==8#16 || x.off==16#16 || (x.off==32#16 && (arithW x).wide)))
 else false
def swapsW (x:In):Wh:=⟨2,0#8,!(x.op==212#8),false,false,(I32 x.imm).tdiv 8⟩
def swapsB (x:In):Bool:=!(x.dst==10#8) && zeros x true true false && (x.imm==16#32 || x.imm==32#32 || x.imm==64#32)
def wideW (x:In):Wh:=if (x.src==0#8)=true then ⟨3,0#8,true,false,false,0⟩ else if (x.src==1#8)=true then ⟨4,0#8,true,false,false,0⟩ else Wh.none
def wideB (x:In):Bool:=if (x.src==0#8)=true then !(x.dst==10#8) && x.off==0#16 else if (x.src==1#8)=true then !(x.dst==10#8) && x.off==0#16 && decide (0≤I32 x.imm) else false
def mode (x:In):BitVec 8:=x.op &&& 224#8
def movesW (x:In):Wh :=
 if (cls x==1#8)=true then ⟨5,0#8,false,false,mode x==128#8,szOf x.op⟩
 else if (cls x==2#8)=true then ⟨6,0#8,false,false,false,szOf x.op⟩
 else if (cls x==3#8)=true then (if (mode x==96#8)=true then ⟨7,0#8,false,true,false,szOf x.op⟩ else ⟨8,x.imm.setWidth 8,false,true,false,szOf x.op⟩)
 else ⟨0,0#8,false,false,false,szOf x.op⟩
def movesB (x:In):Bool :=
 if (cls x==1#8)=true then !(x.dst==10#8) && x.imm==0#32 && (mode x==96#8 || (mode x==128#8 && decide (szOf x.op<8)))
 else if (cls x==2#8)=true then mode x==96#8 && x.src==0#8
 else if (cls x==3#8)=true then (if (mode x==96#8)=true then x.imm==0#32 else mode x==192#8 && decide (4≤szOf x.op) && (x.imm==0#32 || x.imm==64#32 || x.imm==80#32 || x.imm==160#32))
 else false
def branchOp (o:BitVec 8):Bool:=o==16#8 || o==32#8 || o==48#8 || o==64#8 || o==80#8 || o==96#8 || o==112#8 || o==160#8 || o==176#8 || o==192#8 || o==208#8
def brW (x:In):Wh:=⟨10,x.op &&& 240#8,cls x==5#8,!(x.op &&& 8#8==0#8),false,0⟩
def kindW (k:Int):Wh:=⟨k,0#8,false,false,false,0⟩
def jumpsW (x:In):Wh:=if (x.op==5#8)=true then kindW 9 else if (x.op==6#8)=true then kindW 9 else if (x.op==133#8)=true then kindW 11 else if (x.op==149#8)=true then kindW 12 else brW x
def jumpsB (x:In):Bool :=
 if (x.op==5#8)=true then x.dst==0#8 && zeros x true false true
 else if (x.op==6#8)=true then x.dst==0#8 && zeros x true true false
 else if (x.op==133#8)=true then x.dst==0#8 && zeros x true true false
 else if (x.op==149#8)=true then x.dst==0#8 && zeros x true true true
 else if branchOp (x.op &&& 240#8)=true then zeros x (!(brW x).reg) false (brW x).reg else false
def whatW (x:In):Wh :=
 if (decide (10#8<x.dst) || decide (10#8<x.src))=true then Wh.none
 else if (x.op==24#8)=true then wideW x
 else if (x.op==212#8 || x.op==220#8 || x.op==215#8)=true then swapsW x
 else if (cls x==4#8 || cls x==7#8)=true then arithW x
 else if (cls x==5#8 || cls x==6#8)=true then jumpsW x
 else if (cls x==0#8)=true then Wh.none
 else movesW x
def whatB (x:In):Bool :=
 if (decide (10#8<x.dst) || decide (10#8<x.src))=true then false
 else if (x.op==24#8)=true then wideB x
 else if (x.op==212#8 || x.op==220#8 || x.op==215#8)=true then swapsB x
 else if (cls x==4#8 || cls x==7#8)=true then arithB x
 else if (cls x==5#8 || cls x==6#8)=true then jumpsB x
 else if (cls x==0#8)=true then false
 else movesB x
def what (x:In):Wh:=if whatB x then whatW x else Wh.none
theorem whatB_regs {x:In}(h:whatB x=true):x.dst≤10#8∧x.src≤10#8:=by
 unfold whatB at h;split at h
 · cases h
 · rename_i h1
   simp only[Bool.or_eq_true,decide_eq_true_eq,not_or] at h1;exact⟨BitVec.not_lt.1 h1.1,BitVec.not_lt.1 h1.2⟩
end Co
end Hk
namespace Hk
open Go Go.RowKit in
@[go_sem] theorem Qhg (x:BitVec 32):I32 x % 256=N8 (x.setWidth 8):=Q2d x
namespace Co
def Q6y (x:In):Nat→BitVec 8
 | 0=>x.op
 | 1=>x.dst ||| x.src <<< 4
 | 2=>x.off.setWidth 8
 | 3=>(x.off.sshiftRight 8).setWidth 8
 | 4=>x.imm.setWidth 8
 | 5=>(x.imm.sshiftRight 8).setWidth 8
 | 6=>(x.imm.sshiftRight 16).setWidth 8
 | _=>(x.imm.sshiftRight 24).setWidth 8
def tbl:Nat→BitVec 32
 | 0=>0#32
 | 1=>64#32
 | 2=>80#32
 | _=>160#32
def idx (x:BitVec 32):Int:=if (x==0#32)=true then 0 else if (x==64#32)=true then 1 else if (x==80#32)=true then 2 else if (x==160#32)=true then 3 else -1
def has4 (x:BitVec 32):Bool:=x==0#32 || x==64#32 || x==80#32 || x==160#32
theorem idx_at {x:BitVec 32}{k:Nat}(hk:k<4)(h:∀ j,j<k→(x==tbl j)=false)(he:(x==tbl k)=true):idx x=k:=by
 have h0:=h 0;have h1:=h 1;have h2:=h 2
 match k,hk with
 | 0,_=>simp[tbl] at he;subst he;rfl
 | 1,_=>simp[tbl] at he;subst he;rfl
 | 2,_=>simp[tbl] at he;subst he;rfl
 | 3,_=>simp[tbl] at he;subst he;rfl
theorem idx_none {x:BitVec 32}(h:∀ j,j<4→(x==tbl j)=false):idx x = -1:=by
 have h0:=h 0 Y1;have h1:=h 1 Y1;have h2:=h 2 Y1;have h3:=h 3 Y1;simp only[tbl] at h0 h1 h2 h3;unfold idx;rw[h0,h1,h2,h3];rfl
theorem has4_eq (x:BitVec 32):decide (0≤idx x)=has4 x:=by
 unfold idx has4;cases h0:(x==0#32)<;>cases h1:(x==64#32)<;>cases h2:(x==80#32)<;>cases h3:(x==160#32)<;>rfl
def immOf (b:Nat→BitVec 8):Nat→BitVec 32
 | 0=>0#32
 | k+1=>immOf b k ||| (b (4+k)).setWidth 32 <<< (8*k)
def takeOf (b:Nat→BitVec 8):In:=⟨b 0,b 1 &&& 15#8,b 1 >>> 4,(b 2).setWidth 16 ||| (b 3).setWidth 16 <<< 8,immOf b 4⟩
theorem Qqj (x:BitVec 16):(x.setWidth 8).setWidth 16 ||| ((x.sshiftRight 8).setWidth 8).setWidth 16 <<< 8=x:=by
 apply BitVec.eq_of_getLsbD_eq;intro i hi
 match i,hi with
 | 0,_|1,_|2,_|3,_|4,_|5,_|6,_|7,_|8,_|9,_|10,_|11,_|12,_|13,_|14,_|15,_=>simp[BitVec.getElem_sshiftRight]
 | k+16,h=>omega
theorem Qrg (x:BitVec 32):(((0#32 ||| (x.setWidth 8).setWidth 32 <<< 0) ||| ((x.sshiftRight 8).setWidth 8).setWidth 32 <<< 8) ||| ((x.sshiftRight 16).setWidth 8).setWidth 32 <<< 16) ||| ((x.sshiftRight 24).setWidth 8).setWidth 32 <<< 24=x:=by
 apply BitVec.eq_of_getLsbD_eq;intro i hi
 match i,hi with
 | 0,_|1,_|2,_|3,_|4,_|5,_|6,_|7,_|8,_|9,_|10,_|11,_|12,_|13,_|14,_|15,_|16,_|17,_|18,_|19,_|20,_|21,_|22,_|23,_|24,_|25,_|26,_|27,_|28,_|29,_|30,_|31,_=>simp[BitVec.getElem_sshiftRight]
 | k+32,h=>omega
theorem Qr6 (d s:BitVec 8)(h:d≤15#8):(d ||| s <<< 4) &&& 15#8=d:=by
 have h2:∀ a:BitVec 8,a≤15#8→∀ b:BitVec 8,(a ||| b <<< 4) &&& 15#8=a:=Y0;exact h2 d h s
theorem Qka (d s:BitVec 8)(h:d≤15#8)(h':s≤15#8):(d ||| s <<< 4) >>> 4=s:=by
 have h2:∀ a:BitVec 8,a≤15#8→∀ b:BitVec 8,b≤15#8→(a ||| b <<< 4) >>> 4=b:=Y0;exact h2 d h s h'
theorem Qb2 (x:In)(h1:x.dst≤15#8)(h2:x.src≤15#8):takeOf (Q6y x)=x:=by
 obtain⟨o,d,s,f,m⟩:=x;simp only at h1 h2;have e1:=Qqj f;have e2:=Qrg m;have e3:=Qr6 d s h1;have e4:=Qka d s h1 h2;simp only[takeOf,Q6y,immOf,e1,e3,e4];rw[In.mk.injEq];exact⟨rfl,rfl,rfl,rfl,e2⟩
end Co
end Hk
