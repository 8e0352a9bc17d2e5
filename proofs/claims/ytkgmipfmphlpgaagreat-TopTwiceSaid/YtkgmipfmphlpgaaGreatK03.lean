/- A part of the proof of TopTwice. No condition but each statement's own. -/
import Derived.Test.YtkgmipfmphlpgaaGreatK02
import Derived.Test.YtkgmipfmphlpgaaGreatProg
open Go Go.RowKit Go.Proofs
set_option linter.all false
set_option maxRecDepth 100000
set_option maxHeartbeats 20000000
namespace Hk
structure Nt where
 been:Bool
 goes:Bool
 hops:Bool
 v:Vl
def Nt.cell (x:Nt):Nat→Value
 | 0=>.bool x.been
 | 1=>.bool x.goes
 | 2=>.bool x.hops
 | j=>x.v.cell (j - 3)
def Q3y (w:World)(b:Nat)(ns:List Nt):Prop:=∀ k (h:k<ns.length),∀ j,j<10→w.cell? ⟨b,k*10+j,none⟩=some (ns[k].cell j)
theorem Q3y.keep {w w1:World}{b:Nat}{ns:List Nt}(h:Q3y w b ns)(hb:Below w.heap.size w w1):Q3y w1 b ns:=fun k hk j hj=>Q0 hb (h k hk j hj)
theorem Q3y.at {w:World}{b:Nat}{ns:List Nt}(h:Q3y w b ns){k:Nat}(hk:k<ns.length):w.cell? ⟨b,k*10,none⟩=some (.bool ns[k].been)∧w.cell? ⟨b,k*10+1,none⟩=some (.bool ns[k].goes)∧w.cell? ⟨b,k*10+2,none⟩=some (.bool ns[k].hops) ∧
 w.cell? ⟨b,k*10+3,none⟩=some (.int .u8 ns[k].v.k)∧w.cell? ⟨b,k*10+4,none⟩=some (.int .u64 (N ns[k].v.f.t.v))∧w.cell? ⟨b,k*10+5,none⟩=some (.int .u64 (N ns[k].v.f.t.m)) ∧
 w.cell? ⟨b,k*10+6,none⟩=some (.int .u64 (N ns[k].v.f.s.lo))∧w.cell? ⟨b,k*10+7,none⟩=some (.int .u64 (N ns[k].v.f.s.hi))∧w.cell? ⟨b,k*10+8,none⟩=some (.int .i64 ns[k].v.i)∧w.cell? ⟨b,k*10+9,none⟩=some (.int .i64 ns[k].v.off) :=
 ⟨h k hk 0 Y1,h k hk 1 Y1,h k hk 2 Y1,h k hk 3 Y1,h k hk 4 Y1,h k hk 5 Y1,h k hk 6 Y1,h k hk 7 Y1,h k hk 8 Y1,h k hk 9 Y1⟩
theorem Q44.kind {w:World}{b n k:Nat}{f:Nat→Ed}(h:Q44 w b n (Co.upto f k))(hk:k<n)(hy:f k=⟨1#8,In.zero,0⟩):Q44 (w.setCell ⟨b,k*7,none⟩ (.int .u8 1)) b n (Co.upto f (k+1)):=by
 obtain⟨h0,h1,h2,h3,h4,h5,h6⟩:=h.1 k hk;have s0:=fun q=>Q11 (w:=w) (g:=b) (k:=k*7) (j:=q) (v:=.int .u8 1) h0
 have e0:Co.upto f k k=Ed.none:=by unfold Co.upto;rw[if_neg Y1]
 rw[e0] at h1 h2 h3 h4 h5 h6;refine⟨fun j hj=>?_,fun j=>Yet⟩;by_cases e:j=k
 · subst e
   have e1:Co.upto f (j+1) j=⟨1#8,In.zero,0⟩:=by unfold Co.upto;rw[if_pos Y1,hy]
   rw[e1];simp only[s0];refine⟨by rw[if_pos trivial];rfl,?_,?_,?_,?_,?_,?_⟩<;>rw[if_neg Y1]<;>assumption
 · obtain⟨g0,g1,g2,g3,g4,g5,g6⟩:=h.1 j hj
   have e1:Co.upto f (k+1) j=Co.upto f k j:=by
    unfold Co.upto;exact Yu8
   rw[e1];simp only[s0];refine⟨?_,?_,?_,?_,?_,?_,?_⟩<;>rw[if_neg Y1]<;>assumption
theorem Q44.putX {w:World}{b n k:Nat}{f:Nat→Ed}(h:Q44 w b n (Co.upto f k))(hk:k<n)(y:In)(hy:f k=⟨2#8,y,0⟩):Q44 (((((((w.setCell ⟨b,k*7,none⟩ (.int .u8 2)).setCell ⟨b,k*7+1,none⟩ (.int .u8 (N8 y.op))).setCell ⟨b,k*7+2,none⟩ (.int .u8 (N8 y.dst))).setCell ⟨b,k*7+3,none⟩ (.int .u8 (N8 y.src))).setCell ⟨b,k*7+4,none⟩ (.int .i16 (I16 y.off))).setCell ⟨b,k*7+5,none⟩ (.int .i32 (I32 y.imm))).setCell ⟨b,k*7+6,none⟩ (.int .i64 0)) b n (Co.upto f (k+1)):=h.put hk ⟨2#8,y,0⟩ hy
theorem Qi.putX {w:World}{b k g n:Nat}{f:Nat→Bool}(h:Qi w g n f)(y:In)(hne:g≠b):Qi (((((((w.setCell ⟨b,k*7,none⟩ (.int .u8 2)).setCell ⟨b,k*7+1,none⟩ (.int .u8 (N8 y.op))).setCell ⟨b,k*7+2,none⟩ (.int .u8 (N8 y.dst))).setCell ⟨b,k*7+3,none⟩ (.int .u8 (N8 y.src))).setCell ⟨b,k*7+4,none⟩ (.int .i16 (I16 y.off))).setCell ⟨b,k*7+5,none⟩ (.int .i32 (I32 y.imm))).setCell ⟨b,k*7+6,none⟩ (.int .i64 0)) g n f:=h.setEd (o:=k*7) ⟨2#8,y,0⟩ hne
namespace Co
def movX (x:In)(n:BitVec 64):In:=⟨183#8,x.dst,0#8,0#16,n.setWidth 32⟩
def shortB (n:BitVec 64):Bool:=n==(n.setWidth 32).signExtend 64
def movedB (v:Vl):Bool:=(Fa.known v.f).isSome && v.k==1 && shortB ((Fa.known v.f).getD 0#64)
def movedX (x:In)(v:Vl):In:=if movedB v then movX x ((Fa.known v.f).getD 0#64) else In.zero
def brEd (l:List In)(i:Nat)(n:Nt):Ed:=if n.goes then (if n.hops then Ed.none else ⟨1#8,In.zero,0⟩) else if n.hops then ⟨2#8,jumpX,(target l i:Nat)⟩ else ⟨2#8,jumpX,i⟩
def putsK (k:Int):Bool:=k==1 || k==2 || k==3 || k==5
def foldEd (l:List In)(ns:List Nt)(i:Nat):Ed :=
 if start l i then
  (let n:=ns.getD i ⟨false,false,false,Vl.zero⟩
   if n.been then
    (if kindAt l i==10 then brEd l i n
     else if putsK (kindAt l i) then (if movedB n.v && !(In.eqB (movedX (l.getD i In.zero) n.v) (l.getD i In.zero)) then ⟨2#8,movedX (l.getD i In.zero) n.v,0⟩ else Ed.none) else Ed.none)
   else ⟨1#8,In.zero,0⟩)
 else Ed.none
def foldEds (l:List In)(ns:List Nt):List Ed:=(List.range l.length).map (foldEd l ns)
end Co
end Hk
namespace Hk
def Nt.zero:Nt:=⟨false,false,false,Vl.zero⟩
structure Fm where
 at_:Nat
 s:St
 left:List Wy
structure Lk where
 kept:Nat→List St
 stk:List Fm
 code:Int
 vat:Nat
 steps:Nat
 notes:Nat→Nt
namespace Co
def jointB (l:List In)(i:Nat):Bool:=(List.range l.length).any fun k=>start l k && targetB l k && (target l k==i)
def noteN (l:List In)(at_:Nat)(ws:List Wy)(n:Nt):Nt :=
 ⟨true,
  if (what (l.getD at_ In.zero)).kind==10 then n.goes || ws.any (fun y=>y.at_==nextK l at_) else n.goes,
  if (what (l.getD at_ In.zero)).kind==10 then n.hops || ws.any (fun y=>y.at_==target l at_) else n.hops,
  if resultB l at_ ws then (if n.been then Vl.join n.v (resultV l at_ ws) else resultV l at_ ws) else n.v⟩
def knownB (k:Lk)(l:List In)(y:Wy):Bool:=jointB l y.at_ && (k.kept y.at_).any (fun t=>y.s.within t)
def enterK (l:List In)(ds:List Df)(ctx:Int)(k:Lk)(y:Wy):Bool × Lk :=
 if knownB k l y then (true,k)
 else if decide (1024≤k.steps) then (false,{ k with code:=150,vat:=y.at_ })
 else if !((stepR l ds ctx y.at_ y.s).2==0) then (false,{ k with steps:=k.steps+1,code:=(stepR l ds ctx y.at_ y.s).2,vat:=y.at_ })
 else (true,{ k with steps:=k.steps+1,stk:=⟨y.at_,y.s,(stepR l ds ctx y.at_ y.s).1⟩ :: k.stk,notes:=fun j=>if j=y.at_ then noteN l y.at_ (stepR l ds ctx y.at_ y.s).1 (k.notes j) else k.notes j })
def leaveK (l:List In)(k:Lk)(f:Fm)(r:List Fm):Lk :=
 { k with stk:=r,kept:=fun j=>if j=f.at_∧jointB l f.at_=true∧(k.kept f.at_).length<16 then k.kept j++[f.s] else k.kept j }
def allK (l:List In)(ds:List Df)(ctx:Int):Nat→Lk→Bool × Lk
 | 0,k=>(true,k)
 | n+1,k=>match k.stk with
   | []=>(true,k)
   | f :: r=>match f.left with
     | []=>allK l ds ctx n (leaveK l k f r)
     | y :: ys=>match enterK l ds ctx { k with stk:={ f with left:=ys } :: r } y with
       | (true,k')=>allK l ds ctx n k'
       | (false,k')=>(false,k')
def k0:Lk:=⟨fun _=>[],[],0,0,0,fun _=>Nt.zero⟩
def lookK (l:List In)(ds:List Df)(ctx:Int):Bool × Lk:=match enterK l ds ctx k0 ⟨0,St.first⟩ with
 | (true,k)=>allK l ds ctx 5000 k
 | (false,k)=>(false,k)
structure Vd where
 code:Int
 at_:Nat
 steps:Nat
 has:Bool
 notes:Nat→Nt
def programV (l:List In)(ds:List Df)(ctx:Int):Vd :=
 if good l && givenB ds ctx then ⟨(lookK l ds ctx).2.code,(lookK l ds ctx).2.vat,(lookK l ds ctx).2.steps,(lookK l ds ctx).1,(lookK l ds ctx).2.notes⟩
 else ⟨1,0,0,false,fun _=>Nt.zero⟩
def Q9f (k:Lk):Nat:=(k.stk.map fun f=>1+f.left.length).sum
def muK (k:Lk):Nat:=Q9f k+4*(1024 - k.steps)
theorem Q6b (X:Sx)(n:St)(g:Bool)(t:St)(h:Bool):(waysW X n g t h).length≤2:=by
 unfold waysW;cases g<;>cases h<;>simp
theorem Qdy (X:Sx)(v:Vl)(e:Int):(becW X v e).length≤2:=by unfold becW;split<;>simp
theorem Qqd (X:Sx)(p v:Vl):(putW X p v).length≤2:=by unfold putW;split<;>simp
theorem Qf3 (X:Sx)(p v:Vl):(storeR X p v).1.length≤2:=by
 unfold storeR
 repeat' split
 all_goals first|exact Qqd _ _ _|simp
theorem Qhk (X:Sx)(a:Vl):(zeroW X a).length≤2:=by
 unfold zeroW
 repeat' split
 all_goals exact Q6b _ _ _ _ _
theorem Qcr (X:Sx)(a b:Vl):(branchW X a b).length≤2:=by
 unfold branchW
 repeat' split
 all_goals first|exact Qhk _ _|exact Q6b _ _ _ _ _|simp
theorem Ql9 (X:Sx):(callW X).length≤2:=by unfold callW;split<;>simp
theorem Qh7 (X:Sx):(aheadR X).1.length≤2:=by
 unfold aheadR
 repeat' split
 all_goals first|exact Qdy _ _ _|exact Qf3 _ _ _|exact Q6b _ _ _ _ _|exact Qcr _ _ _|exact Ql9 _|(show (becW X _ 0).length≤2;exact Qdy X _ 0)|simp
theorem stepR_len (l:List In)(ds:List Df)(ctx:Int)(at_:Nat)(s:St):(stepR l ds ctx at_ s).1.length≤2:=by
 unfold stepR;split
 · exact Qh7 _
 · simp
theorem mu_leave {l:List In}{k:Lk}{f:Fm}{r:List Fm}(h:k.stk=f :: r):muK (leaveK l k f r)<muK k:=by
 unfold muK leaveK Q9f;rw[h];simp only[List.map_cons,List.sum_cons];omega
theorem Qqq {l:List In}{ds:List Df}{ctx:Int}{k k':Lk}{f:Fm}{r:List Fm}{y:Wy}{ys:List Wy}(h:k.stk=f :: r)(hl:f.left=y :: ys)(he:enterK l ds ctx { k with stk:={ f with left:=ys } :: r } y=(true,k')):muK k'<muK k:=by
 have hlen:=stepR_len l ds ctx y.at_ y.s;unfold enterK at he;split at he
 · exact Yp3
 · split at he
   · injection he with e1 _;cases e1
   · rename_i hs
     simp only[decide_eq_true_eq] at hs;split at he
     · injection he with e1 _;cases e1
     · exact Yp3
end Co
end Hk
namespace Hk
def N16 (x:BitVec 16):Int:=x.toNat
theorem Q10m (x y:BitVec 16):N16 x=N16 y ↔ x=y:=by
 unfold N16;rw[Int.natCast_inj];exact BitVec.toNat_inj
theorem Qnc (n:Nat)(h:n<65536):N16 (BitVec.ofNat 16 n)=(n:Int):=by
 unfold N16;rw[BitVec.toNat_ofNat,Nat.mod_eq_of_lt h]
theorem Q4d (n:Nat)(h:n<65536):N16 (BitVec.ofNat 16 n)=(OfNat.ofNat n:Int):=Qnc n h
theorem Qeb:N16 0#16=0:=rfl
theorem Qj6 (x:BitVec 16):BitVec.ofInt 16 (N16 x)=x:=by
 unfold N16;rw[BitVec.ofInt_natCast,BitVec.ofNat_toNat,BitVec.setWidth_eq]
theorem Q8k (x:BitVec 16):IntKind.u16.wrap (x.toNat:Int)=N16 x:=by
 have:=x.isLt;show (x.toNat:Int) % 65536=_;unfold N16;omega
section
variable (x y : BitVec 16) (n : Nat)
@[go_sem] theorem Qnd:(N16 x==N16 y)=(x==y):=by rw[Bool.eq_iff_iff,beq_iff_eq,beq_iff_eq];exact Q10m x y
@[go_sem] theorem Q10o:(N16 x != N16 y) = !(x==y):=by unfold bne;rw[Qnd]
@[go_sem] theorem Q10p (h:n<65536):(N16 x==(no_index (OfNat.ofNat n)))=(x==BitVec.ofNat 16 n):=by rw[← Q4d n h,Qnd]
@[go_sem] theorem Q10n (h:n<65536):(N16 x != (no_index (OfNat.ofNat n))) = !(x==BitVec.ofNat 16 n):=by rw[← Q4d n h,Q10o]
@[go_sem ↓] theorem Q15z:Op.intBits .and .u16 (N16 x) (N16 y)=pure (.int .u16 (N16 (x &&& y))):=by
 exact Ysw
@[go_sem ↓] theorem Qxr:Op.intBits .or .u16 (N16 x) (N16 y)=pure (.int .u16 (N16 (x ||| y))):=by
 exact Ysw
@[go_sem ↓] theorem Q13d (h:n<65536):Op.intBits .or .u16 (no_index (OfNat.ofNat n)) (N16 y)=pure (.int .u16 (N16 (BitVec.ofNat 16 n ||| y))):=by
 rw[← Q4d n h,Qxr]
@[go_sem ↓] theorem Qxs:Op.intBits .andNot .u16 (N16 x) (N16 y)=pure (.int .u16 (N16 (x &&& ~~~y))):=by
 exact Ysw
theorem Qer:IntKind.u16.wrap (N16 x - N16 y)=N16 (x - y):=by
 show (N16 x - N16 y) % 65536=_;unfold N16;rw[BitVec.toNat_sub];have:=x.isLt;have:=y.isLt;omega
@[go_sem ↓] theorem Quz (h:n<65536):Op.intArith .sub .u16 (N16 x) (no_index (OfNat.ofNat n))=pure (.int .u16 (N16 (x - BitVec.ofNat 16 n))):=by
 simp only[Op.intArith,← Q4d n h,Qer]
theorem Q10l (k:Nat):IntKind.u16.wrap (N16 x*2 ^ (min k 16))=N16 (x <<< k):=by
 show (N16 x*2 ^ (min k 16)) % 65536=_;unfold N16;rw[BitVec.toNat_shiftLeft,Nat.shiftLeft_eq];have e:((x.toNat:Int)*2 ^ (min k 16))=((x.toNat*2 ^ (min k 16):Nat):Int):=Yeg;rw[e]
 have:x.toNat*2 ^ (min k 16) % 2 ^ 16=x.toNat*2 ^ k % 2 ^ 16:=by
  rcases Nat.le_total k 16 with h|h
  · rw[Nat.min_eq_left h]
  · exact Yo3
 rw[← this];omega
theorem Q80 (yk:IntKind)(k:Int)(h:0≤k):Op.shift .shl .u16 (N16 x) yk k=pure (.int .u16 (N16 (x <<< k.toNat))):=by
 have hs:=Q10l x k.toNat;exact Yst
@[go_sem ↓] theorem Qxq (yk:IntKind)(z:BitVec 8)(hn:n<65536):Op.shift .shl .u16 (no_index (OfNat.ofNat n)) yk (N8 z)=pure (.int .u16 (N16 (BitVec.ofNat 16 n <<< z.toNat))):=by
 rw[← Q4d n hn,Q80 _ _ _ (Qnb z)];rfl
@[go_sem ↓] theorem Q11d (yk:IntKind)(k:Nat)(hn:n<65536):Op.shift .shl .u16 (no_index (OfNat.ofNat n)) yk (1+(k:Int))=pure (.int .u16 (N16 (BitVec.ofNat 16 n <<< (1+k)))):=by
 rw[← Q4d n hn,Q80 _ _ _ Y1];rw[show (1+(k:Int)).toNat=1+k from Y1]
@[go_sem ↓] theorem Q11c (yk:IntKind)(k:Nat)(hn:n<65536):Op.shift .shl .u16 (no_index (OfNat.ofNat n)) yk ((k:Int)+1)=pure (.int .u16 (N16 (BitVec.ofNat 16 n <<< (1+k)))):=by
 rw[← Q4d n hn,Q80 _ _ _ Y1];rw[show ((k:Int)+1).toNat=1+k from Y1]
end
end Hk
namespace Hk
namespace Co
def bitR (x:BitVec 8):BitVec 16:=1#16 <<< x.toNat
def callR (x:In):BitVec 16:=(1#16 <<< (1+(sigOf (I32 x.imm)).told.length)) - 2#16
def readsB (x:In):BitVec 16 :=
 let w:=what x
 let s:BitVec 16:=if w.reg then bitR x.src else 0#16
 if w.kind==1 then (if w.op==176#8 then s else s ||| bitR x.dst)
 else if w.kind==2 || w.kind==6 || w.kind==7 || w.kind==8 || w.kind==10 then s ||| bitR x.dst
 else if w.kind==5 then bitR x.src
 else if w.kind==12 then bitR 0#8
 else if w.kind==11 then callR x
 else s
def putsB (k:Int):Bool:=k==1 || k==2 || k==3 || k==4 || k==5
def writesB (x:In):BitVec 16:=if putsB (what x).kind then bitR x.dst else if (what x).kind==11 then 63#16 else 0#16
end Co
end Hk
namespace Hk
structure Q2y (e:TypeId) (w:World) (gF B n:Nat) (vs:Nat→Value) (fs:Nat→List Nat) (vt:Value):Prop where
 cell:∀ t,t<n→w.cell? ⟨gF,t,none⟩=some (vs t)
 fz:∀ j,w.frozen? ⟨gF,j,none⟩=false
 lt:gF<B
 own:∀ t,t<n→w.ownsRow B e 1 (vs t) (fs t).length (Co.intsV (fs t))
 dis:∀ s t,s<n→t<n→s≠t→∀ g,(vs s).ownBlock=some g→(vs t).ownBlock≠some g
 dit:∀ t,t<n→∀ g,(vs t).ownBlock=some g→vt.ownBlock≠some g
structure Fr3 (row:Option Nat) (w w':World):Prop where
 os:w'.os=w.os
 tape:w'.tape=w.tape
 output:w'.output=w.output
 size:w.heap.size≤w'.heap.size
 block:∀ k,k<w.heap.size→some k≠row→w'.heap[k]?=w.heap[k]?
theorem Q2y.keep {e:TypeId}{w w':World}{gF B n:Nat}{vs:Nat→Value}{fs:Nat→List Nat}{vt:Value}(h:Q2y e w gF B n vs fs vt)(hs:gF<w.heap.size)(hb:Below w.heap.size w w'):Q2y e w' gF B n vs fs vt :=
 ⟨fun t ht=>Q0 hb (h.cell t ht),fun j=>by rw[hb.frozen (p:=⟨gF,j,none⟩) hs];exact h.fz j,h.lt,fun t ht=>Qd (h.own t ht) hb,h.dis,h.dit⟩
theorem Q3k {w w':World}{b o:Nat}(h:w'.heap[b]?=w.heap[b]?):w'.cell? ⟨b,o,none⟩=w.cell? ⟨b,o,none⟩:=by unfold World.cell?;simp only;rw[h]
theorem Q28 {w w':World}{b o:Nat}(h:w'.heap[b]?=w.heap[b]?):w'.frozen? ⟨b,o,none⟩=w.frozen? ⟨b,o,none⟩:=by unfold World.frozen?;simp only;rw[h]
theorem Q2y.grown {e:TypeId}{w w':World}{gF B n:Nat}{vs:Nat→Value}{fs:Nat→List Nat}{vt vt':Value}(h:Q2y e w gF B n vs fs vt)(hB:B≤w.heap.size)(hg:w.grownBy w' vt.ownBlock)(hl:∀ k,vt.ownBlock=some k→B≤k)(hr:∀ k,vt'.ownBlock=some k→some k=vt.ownBlock∨w.heap.size≤k):Q2y e w' gF B n vs fs vt':=by
 have hlt:=h.lt;have hne:some gF≠vt.ownBlock:=fun e=>by have:=hl gF e.symm;omega
 refine⟨fun t ht=>by rw[Q3k (hg.block gF Y1 hne)];exact h.cell t ht,fun j=>by rw[Q28 (hg.block gF Y1 hne)];exact h.fz j,h.lt,fun t ht=>Qv (h.own t ht) (fun g hgg=>?_),h.dis,fun t ht g hgg e=>?_⟩
 · exact hg.block g ((h.own t ht).lt g hgg).2 (fun e=>h.dit t ht g hgg e.symm)
 · rcases hr g e with h2|h2
   · exact h.dit t ht g hgg h2.symm
   · have:=((h.own t ht).lt g hgg).2;omega
theorem Q2y.push {e:TypeId}{w w4:World}{gF B n:Nat}{vs:Nat→Value}{fs:Nat→List Nat}{vt v':Value}{t x:Nat}(h:Q2y e w gF B n vs fs vt)(hB:B≤w.heap.size)(ht:t<n)(hvt:∀ k,vt.ownBlock=some k→k<w.heap.size)
 (hg:w.grownBy w4 (vs t).ownBlock) (ho:w4.ownsRow B e 1 v' ((fs t).length+1) (Co.intsV (fs t)++[.int .i64 (x:Int)])) (hr:∀ k,v'.ownBlock=some k→some k=(vs t).ownBlock∨w.heap.size≤k) :
 Q2y e (w4.setCell ⟨gF,t,none⟩ v') gF B n (fun j=>if j=t then v' else vs j) (fun j=>if j=t then fs t++[x] else fs j) vt:=by
 have hlt:=h.lt;have hne:some gF≠(vs t).ownBlock:=fun e=>by have:=((h.own t ht).lt gF e.symm).1;omega
 have hv':v'.ownBlock≠some gF:=fun e=>by have:=(ho.lt gF e).1;omega
 have hc:∀ j,j<n→w4.cell? ⟨gF,j,none⟩=some (vs j):=fun j hj=>by rw[Q3k (hg.block gF Y1 hne)];exact h.cell j hj
 refine⟨fun j hj=>?_,fun j=>?_,h.lt,fun j hj=>?_,fun a b ha hb hab g hga=>?_,fun j hj g hgj=>?_⟩
 · rw[Q11 (hc t ht)]
   by_cases e:j=t
   · simp only[if_pos e]
   · simp only[if_neg e];exact hc j hj
 · rw[World.frozen?_setCell,Q28 (hg.block gF Y1 hne)];exact h.fz j
 · by_cases e:j=t
   · subst e
     simp only[if_true];exact Q3j (Q1k ho Y3 (Q2p (fs j) x).symm) hv'
   · simp only[if_neg e]
     exact Q3j (Qv (h.own j hj) (fun g hgg=>hg.block g ((h.own j hj).lt g hgg).2 (fun e2=>h.dis j t hj ht e g hgg e2.symm))) (fun e2=>by have:=((h.own j hj).lt gF e2).1;omega)
 · by_cases ea:a=t
   · have eb:b≠t:=fun e=>hab (ea.trans e.symm)
     simp only[if_pos ea] at hga;simp only[if_neg eb];intro e;rcases hr g hga with h2|h2
     · exact h.dis b t hb ht eb g e h2.symm
     · have:=((h.own b hb).lt g e).2;omega
   · simp only[if_neg ea] at hga
     by_cases eb:b=t
     · simp only[if_pos eb]
       intro e;rcases hr g e with h2|h2
       · exact h.dis a t ha ht ea g hga h2.symm
       · have:=((h.own a ha).lt g hga).2;omega
     · simp only[if_neg eb];exact h.dis a b ha hb hab g hga
 · by_cases e:j=t
   · simp only[if_pos e] at hgj
     intro e2;rcases hr g hgj with h2|h2
     · exact h.dit t ht g h2.symm e2
     · have:=hvt g e2;omega
   · simp only[if_neg e] at hgj;exact h.dit j hj g hgj
theorem Q2y.otherRow {e e2:TypeId}{w w4:World}{gF B C n m k:Nat}{vs:Nat→Value}{fs:Nat→List Nat}{vt v':Value}{ys:List Value}{t:Nat}(h:Q2y e w gF B n vs fs vt)(ht:t<n)(hg:w.grownBy w4 (vs t).ownBlock)(ho:w.ownsRow C e2 k vt m ys)(hC:gF<C):(w4.setCell ⟨gF,t,none⟩ v').ownsRow C e2 k vt m ys :=
 Q3j (Qv ho (fun g hgg=>hg.block g (ho.lt g hgg).2 (fun e=>h.dit t ht g e.symm hgg))) (fun e=>by have:=(ho.lt gF e).1;omega)
theorem Q2y.otherCells {e:TypeId}{w w4:World}{gF B n m b:Nat}{vs:Nat→Value}{fs:Nat→List Nat}{vt v':Value}{f:Nat→Value}{t:Nat}(h:Q2y e w gF B n vs fs vt)(ht:t<n)(hB:B≤w.heap.size)(hg:w.grownBy w4 (vs t).ownBlock)(hc:Qg w b m f)(hb:b<B)(hne:b≠gF):Qg (w4.setCell ⟨gF,t,none⟩ v') b m f:=by
 have hn:some b≠(vs t).ownBlock:=fun e=>by have:=((h.own t ht).lt b e.symm).1;omega
 refine Qg.other ⟨fun j hj=>Yev,fun j=>by rw[Q28 (hg.block b Y1 hn)];exact hc.2 j⟩ hne
theorem Q2y.below {e:TypeId}{w0 w w4:World}{gF B C n:Nat}{vs:Nat→Value}{fs:Nat→List Nat}{vt v':Value}{t:Nat}(h:Q2y e w gF B n vs fs vt)(ht:t<n)(hg:w.grownBy w4 (vs t).ownBlock)(hC:C≤gF)(hB:B≤w.heap.size)(hb:Below C w0 w):Below C w0 (w4.setCell ⟨gF,t,none⟩ v'):=by
 have hlt:=h.lt;exact Below.setCell (Below.grown hb hg Y1 (fun k hk=>by have:=((h.own t ht).lt k hk).1;omega)) hC _
theorem Q2c {w w':World}{row:Option Nat}(hg:w.grownBy w' row){b m B:Nat}{f:Nat→Value}(hc:Qg w b m f)(hb:b<B)(hB:B≤w.heap.size)(hr:∀ k,row=some k→B≤k):Qg w' b m f:=by
 have hn:some b≠row:=fun e=>by have:=hr b e.symm;omega
 exact⟨fun j hj=>Yev,fun j=>by rw[Q28 (hg.block b Y1 hn)];exact hc.2 j⟩
theorem Q63 {w:World}{n:Nat}{e:TypeId}{z:Value}:Qg ((w.alloc (.cells (madeCells #[z] n) e)).alloc (.cells (madeCells #[z] n) e)).drew w.heap.size n (fun _=>z)∧Qg ((w.alloc (.cells (madeCells #[z] n) e)).alloc (.cells (madeCells #[z] n) e)).drew (w.heap.size+1) n (fun _=>z):=by
 constructor
 · have h:=(Qg.made (w:=w) (n:=n) (e:=e) (z:=z)).keep Y3 (Below.alloc (Below.refl _ _) (Nat.le_refl _) (.cells (madeCells #[z] n) e))
   exact⟨h.1,h.2⟩
 · have h:=Qg.made (w:=w.alloc (.cells (madeCells #[z] n) e)) (n:=n) (e:=e) (z:=z)
   rw[World.size_alloc] at h;exact⟨h.1,h.2⟩
theorem Q2y.nil {e:TypeId}{w:World}{gF B n:Nat}(h:Qg w gF n (fun _=>.slice none 0 0))(hl:gF<B)(vt:Value):Q2y e w gF B n (fun _=>.slice none 0 0) (fun _=>[]) vt :=
 ⟨h.1,h.2,hl,fun t ht=>Qy,fun s t hs ht hst g hg=>(by cases hg),fun t ht g hg=>(by cases hg)⟩
theorem Q2y.congr {e:TypeId}{w:World}{gF B n:Nat}{vs:Nat→Value}{fs fs':Nat→List Nat}{vt:Value}(h:Q2y e w gF B n vs fs vt)(he:∀ t,t<n→fs t=fs' t):Q2y e w gF B n vs fs' vt :=
 ⟨h.cell,h.fz,h.lt,fun t ht=>by rw[← he t ht];exact h.own t ht,h.dis,h.dit⟩
theorem Q2y.apart {e:TypeId}{w:World}{gF B n:Nat}{vs:Nat→Value}{fs:Nat→List Nat}{vt:Value}(h:Q2y e w gF B n vs fs vt)(va:Value)(hd:∀ k,va.ownBlock=some k→w.heap.size≤k):Q2y e w gF B n vs fs va :=
 ⟨h.cell,h.fz,h.lt,h.own,h.dis,fun t ht g hg e=>by have:=((h.own t ht).lt g hg).2;have:=hd g e;omega⟩
theorem Q2y.setOther {e:TypeId}{w:World}{gF B n b o:Nat}{vs:Nat→Value}{fs:Nat→List Nat}{vt u:Value}(h:Q2y e w gF B n vs fs vt)(hb:b<B)(hne:b≠gF):Q2y e (w.setCell ⟨b,o,none⟩ u) gF B n vs fs vt :=
 ⟨fun t ht=>by rw[World.cell?_setCell_other _ _ _ _ (show (⟨b,o,none⟩:Addr)≠⟨gF,t,none⟩ from fun e=>hne (congrArg Addr.block e))];exact h.cell t ht,fun j=>by rw[World.frozen?_setCell];exact h.fz j,h.lt,
  fun t ht=>Q3j (h.own t ht) (fun e=>by have:=((h.own t ht).lt b e).1;omega),h.dis,h.dit⟩
theorem Q2y.retag {e:TypeId}{w:World}{gF B n:Nat}{vs:Nat→Value}{fs:Nat→List Nat}{vt vt':Value}(h:Q2y e w gF B n vs fs vt)(he:vt'.ownBlock=vt.ownBlock):Q2y e w gF B n vs fs vt' :=
 ⟨h.cell,h.fz,h.lt,h.own,h.dis,fun t ht g hg=>by rw[he];exact h.dit t ht g hg⟩
namespace Co
def fromL (l:List In)(k t:Nat):List Nat:=(List.range k).filter fun i=>decide (t∈aheadS l i)
def beginL (l:List In)(k:Nat):List Nat:=(List.range k).filter (start l)
theorem beginL_succ (l:List In)(k:Nat):beginL l (k+1)=if start l k then beginL l k++[k] else beginL l k:=by
 unfold beginL;rw[List.range_succ,List.filter_append];cases h:start l k<;>simp[h]
theorem Qgh (l:List In)(k t:Nat):fromL l (k+1) t=if t∈aheadS l k then fromL l k t++[k] else fromL l k t:=by
 unfold fromL;rw[List.range_succ,List.filter_append];by_cases h:t∈aheadS l k<;>simp[h]
theorem fromL_le (l:List In)(k t:Nat):(fromL l k t).length≤k:=by
 have:=List.length_filter_le (fun i=>decide (t∈aheadS l i)) (List.range k);simpa[fromL] using this
theorem Qid (a b:Nat):(two a b).Nodup:=by
 unfold two;split
 · simp
 · split<;>(simp;omega)
theorem Q9z (l:List In)(k:Nat):(aheadS l k).Nodup:=by
 unfold aheadS aheadL
 repeat' split
 all_goals first|exact Qid _ _|simp
theorem aheadS_le (l:List In)(k:Nat):(aheadS l k).length≤2:=by
 unfold aheadS;split
 · exact aheadL_le l k
 · simp
theorem Qbv {ns:List Nat}(h:ns.Nodup){j:Nat}(hj:j<ns.length):ns[j] ∉ ns.take j:=by
 intro hm;obtain⟨i,hi,he⟩:=List.getElem_of_mem hm;rw[List.getElem_take] at he;have h1:i<j:=by rw[List.length_take] at hi;omega
 have:=(List.getElem_inj h).1 he;omega
theorem aheadS_lt {l:List In}(hg:good l=true){k t:Nat}(ht:t∈aheadS l k):t<l.length:=by
 unfold aheadS at ht;split at ht
 · exact start_lt (ahead_start hg Y2 ht)
 · cases ht
def midL (l:List In)(k j t:Nat):List Nat:=if t∈(aheadS l k).take j then fromL l k t++[k] else fromL l k t
theorem midL_step {l:List In}{k j:Nat}(hj:j<(aheadS l k).length)(q:Nat):(if q=(aheadS l k)[j] then midL l k j (aheadS l k)[j]++[k] else midL l k j q)=midL l k (j+1) q:=by
 have hn:=Qbv (Q9z l k) hj;unfold midL;rw[List.take_succ_eq_append_getElem hj];by_cases e:q=(aheadS l k)[j]
 · subst e
   rw[if_pos rfl,if_neg hn,if_pos (List.mem_append.2 (.inr (List.mem_singleton.2 rfl)))]
 · rw[if_neg e]
   by_cases h:q∈(aheadS l k).take j
   · rw[if_pos h,if_pos (List.mem_append.2 (.inl h))]
   exact Yq8
theorem midL_end (l:List In)(k t:Nat):midL l k (aheadS l k).length t=fromL l (k+1) t:=by
 unfold midL;rw[List.take_length,Qgh]
theorem midL_le (l:List In)(k j t:Nat):(midL l k j t).length≤k+1:=by
 have:=fromL_le l k t;unfold midL;split
 · simp;omega
 · omega
theorem beginL_le (l:List In)(k:Nat):(beginL l k).length≤k:=by
 have:=List.length_filter_le (start l) (List.range k);simpa[beginL] using this
def needs (l:List In)(k:Nat)(b:BitVec 16):BitVec 16:=readsB (l.getD k In.zero) ||| (b &&& ~~~(writesB (l.getD k In.zero)))
def liveF (l:List In)(fr:Nat→List Nat):Nat→List Nat→(Nat→BitVec 16)→(Nat→BitVec 16)→(Nat→BitVec 16) × (Nat→BitVec 16)
 | 0,_,A,Bh=>(A,Bh)
 | f+1,todo,A,Bh =>
   match todo.getLast? with
   | none=>(A,Bh)
   | some k =>
     let n:=needs l k (Bh k)
     if n==A k then liveF l fr f todo.dropLast A Bh
     else liveF l fr f (todo.dropLast++fr k) (fun j=>if j=k then n else A j) (fun j=>if j∈fr k then Bh j ||| n else Bh j)
def cost (n:Nat)(A:Nat→BitVec 16):Nat:=((List.range n).map fun i=>65535 - (A i).toNat).sum
theorem Q6x (n:Nat)(A:Nat→BitVec 16):cost (n+1) A=cost n A+(65535 - (A n).toNat):=by
 unfold cost;rw[List.range_succ,List.map_append,List.sum_append];simp
theorem Ql2 (A:Nat→BitVec 16):∀ n,cost n A≤65535*n
 | 0=>Nat.le_refl _
 | n+1=>by rw[Q6x];have:=Ql2 A n;omega
theorem Qdt {A:Nat→BitVec 16}{k:Nat}{v:BitVec 16}(hv:(A k).toNat<v.toNat):∀ n,cost n (fun j=>if j=k then v else A j)+(if k<n then 1 else 0)≤cost n A
 | 0=>by simp[cost]
 | n+1=>by
   rw[Q6x,Q6x];have ih:=Qdt hv n;have h16:=v.isLt;by_cases e:n=k
   · subst e
     have h1:¬ n<n:=Y1;have h2:n<n+1:=Y1;simp only[if_neg h1,if_pos h2,if_true] at ih ⊢;omega
   · by_cases hlt:k<n
     · have h2:k<n+1:=by omega
       simp only[if_pos hlt] at ih;simp only[if_pos h2,if_neg e];omega
     · have h2:¬ k<n+1:=by omega
       simp only[if_neg hlt] at ih;simp only[if_neg h2,if_neg e];omega
def Under (l:List In)(A Bh:Nat→BitVec 16):Prop:=∀ k,A k &&& needs l k (Bh k)=A k
theorem Qqm (l:List In)(k:Nat)(b n:BitVec 16):needs l k b &&& needs l k (b ||| n)=needs l k b:=by
 unfold needs;apply BitVec.eq_of_getLsbD_eq;intro i hi;simp only[BitVec.getLsbD_and,BitVec.getLsbD_or,BitVec.getLsbD_not];cases (readsB (l.getD k In.zero)).getLsbD i<;>cases b.getLsbD i<;>cases n.getLsbD i<;>cases (writesB (l.getD k In.zero)).getLsbD i<;>simp[hi]
theorem Qcw {a b c:BitVec 16}(h1:a &&& b=a)(h2:b &&& c=b):a &&& c=a:=by rw[← h1,BitVec.and_assoc,h2]
theorem Under.step {l:List In}{A Bh:Nat→BitVec 16}(h:Under l A Bh)(k:Nat)(S:Nat→Prop)[DecidablePred S]:Under l (fun j=>if j=k then needs l k (Bh k) else A j) (fun j=>if S j then Bh j ||| needs l k (Bh k) else Bh j):=fun j=>by
 have h1:needs l j (Bh j) &&& needs l j (if S j then Bh j ||| needs l k (Bh k) else Bh j)=needs l j (Bh j):=by
  split
  · exact Qqm l j (Bh j) _
  · rw[BitVec.and_self]
 by_cases e:j=k
 · subst e;simp only[if_true];exact h1
 · simp only[if_neg e];exact Qcw (h j) h1
theorem under_lt {a b:BitVec 16}(h:a &&& b=a)(hne:(b==a)=false):a.toNat<b.toNat:=by
 have h1:a.toNat≤b.toNat:=by rw[← h,BitVec.toNat_and];exact Nat.and_le_right
 rcases Nat.lt_or_ge a.toNat b.toNat with h2|h2
 · exact h2
 · have:a=b:=BitVec.eq_of_toNat_eq Y1
   subst this;simp at hne
def begin0 (l:List In):Nat:=65535*l.length*(l.length+1)+l.length
def bothL (l:List In):(Nat→BitVec 16) × (Nat→BitVec 16):=liveF l (fromL l l.length) (begin0 l) (beginL l l.length) (fun _=>0#16) (fun _=>0#16)
theorem liveF_nil (l:List In)(fr:Nat→List Nat)(f:Nat)(A Bh:Nat→BitVec 16):liveF l fr f [] A Bh=(A,Bh):=by
 cases f<;>rfl
theorem liveF_step (l:List In)(fr:Nat→List Nat)(f k:Nat)(ys:List Nat)(A Bh:Nat→BitVec 16):liveF l fr (f+1) (ys++[k]) A Bh =
 if needs l k (Bh k)==A k then liveF l fr f ys A Bh else liveF l fr f (ys++fr k) (fun j=>if j=k then needs l k (Bh k) else A j) (fun j=>if j∈fr k then Bh j ||| needs l k (Bh k) else Bh j):=by
 conv=>lhs;unfold liveF
 simp only[List.getLast?_append,List.getLast?_singleton,Option.some_or,List.dropLast_concat]
def orTake (fr:List Nat)(n:BitVec 16)(Bh:Nat→BitVec 16)(j q:Nat):BitVec 16:=if q∈fr.take j then Bh q ||| n else Bh q
theorem orTake_step {fr:List Nat}{n:BitVec 16}{Bh:Nat→BitVec 16}{j:Nat}(hj:j<fr.length)(q:Nat):(if q=fr[j] then orTake fr n Bh j fr[j] ||| n else orTake fr n Bh j q)=orTake fr n Bh (j+1) q:=by
 unfold orTake;rw[List.take_succ_eq_append_getElem hj];by_cases e:q=fr[j]
 · subst e
   rw[if_pos rfl,if_pos (List.mem_append.2 (.inr (List.mem_singleton.2 rfl)))];split
   · rw[BitVec.or_assoc,BitVec.or_self]
   · rfl
 · rw[if_neg e]
   by_cases h:q∈fr.take j
   · rw[if_pos h,if_pos (List.mem_append.2 (.inl h))]
   exact Yq8
theorem fromL_lt {l:List In}{k t i:Nat}(h:i∈fromL l k t):i<k:=by
 unfold fromL at h;exact List.mem_range.1 (List.mem_filter.1 h).1
theorem beginL_lt {l:List In}{k i:Nat}(h:i∈beginL l k):i<k:=by
 unfold beginL at h;exact List.mem_range.1 (List.mem_filter.1 h).1
theorem cost_zero_le (l:List In):cost l.length (fun _=>0#16)*(l.length+1)+(beginL l l.length).length≤begin0 l:=by
 have h1:=Nat.mul_le_mul_right (l.length+1) (Ql2 (fun _=>0#16) l.length);have h2:=beginL_le l l.length;unfold begin0;omega
theorem cost_step {n k a b d:Nat}{A:Nat→BitVec 16}{v:BitVec 16}(hk:k<n)(hv:(A k).toNat<v.toNat)(hd:d≤n)(h:cost n A*(n+1)+(a+1)≤b+1):cost n (fun j=>if j=k then v else A j)*(n+1)+(a+d)≤b:=by
 have h1:=Qdt hv n;rw[if_pos hk] at h1;have h2:=Nat.mul_le_mul_right (n+1) h1;rw[Nat.add_mul,Nat.one_mul] at h2;omega
end Co
end Hk
namespace Hk
def Ed.cells (y:Ed):List Value:=[.int .u8 (N8 y.kind),.int .u8 (N8 y.x.op),.int .u8 (N8 y.x.dst),.int .u8 (N8 y.x.src),.int .i16 (I16 y.x.off),.int .i32 (I32 y.x.imm),.int .i64 y.tw]
def Qhj (es:List Ed):List Value:=es.flatMap Ed.cells
theorem Qkt (es:List Ed)(y:Ed):Qhj (es++[y])=Qhj es++y.cells:=by unfold Qhj;rw[List.flatMap_append];simp
theorem Qdr:∀ (es:List Ed) (k j:Nat) (h:k<es.length),j<7→(Qhj es)[k*7+j]?=es[k].cells[j]?
 | x :: r,0,j,h,hj=>by
   show (x.cells++Qhj r)[0*7+j]?=_;rw[List.getElem?_append_left (by simp[Ed.cells];omega)];simp
 | x :: r,k+1,j,h,hj=>by
   show (x.cells++Qhj r)[(k+1)*7+j]?=_;rw[List.getElem?_append_right (by simp[Ed.cells];omega)];have e:(k+1)*7+j - x.cells.length=k*7+j:=by simp[Ed.cells];omega
   rw[e,Qdr r k j Y5 hj];simp
theorem Qxm {w:World}{B e:Nat}{v:Value}{es:List Ed}(h:w.ownsRow B e 7 v es.length (Qhj es))(hl:0<es.length) :
 ∃ g cap,v=.slice (some ⟨g,0,none⟩) es.length cap∧B≤g∧g<w.heap.size∧Q3z w g es:=by
 obtain⟨g,cap,hv,hB,hg,hc,_,hcell,hf⟩:=Q1h h hl;refine⟨g,cap,hv,hB,hg,fun k hk=>?_⟩;have key:∀ j u,j<7→es[k].cells[j]?=some u→w.cell? ⟨g,k*7+j,none⟩=some u:=fun j u hj hu=>hcell _ _ (by rw[Qdr es k j hk hj];exact hu)
 exact⟨key 0 _ Y1 rfl,key 1 _ Y1 rfl,key 2 _ Y1 rfl,key 3 _ Y1 rfl,key 4 _ Y1 rfl,key 5 _ Y1 rfl,key 6 _ Y1 rfl⟩
namespace Co
def wrS (l:List In)(k:Nat):BitVec 16:=if start l k then writesB (l.getD k In.zero) else 0#16
def idleB (l:List In)(k:Nat):Bool:=!((what (l.getD k In.zero)).kind==11) && !(wrS l k==0#16) && (wrS l k &&& (bothL l).2 k==0#16)
def goB (l:List In)(k:Nat):Bool:=start l k && (idleB l k || !reach l 0 k)
def deadEd (l:List In)(k:Nat):Ed:=if goB l k then ⟨1#8,In.zero,0⟩ else Ed.none
def deadEds (l:List In)(n:Nat):List Ed:=(List.range n).map (deadEd l)
theorem deadEds_succ (l:List In)(n:Nat):deadEds l (n+1)=deadEds l n++[deadEd l n]:=by unfold deadEds;rw[List.range_succ,List.map_append];rfl
theorem deadEds_length (l:List In)(n:Nat):(deadEds l n).length=n:=by simp[deadEds]
end Co
end Hk
namespace Hk
namespace Co
structure Tn2 where
 l:List In
 v:Vd
def notesL (l:List In)(v:Vd):List Nt:=if v.has then (List.range l.length).map v.notes else []
def takeT (ds:List Df)(ctx:Int)(t:Tn2)(es:List Ed):Tn2:=match rewrite t.l es with
 | none=>t
 | some y=>if decide (t.l.length<y.length) then t else if (programV y ds ctx).code==0 then ⟨y,programV y ds ctx⟩ else t
def roundT (ds:List Df)(ctx:Int)(t:Tn2):Tn2 :=
 let t1:=takeT ds ctx t (foldEds t.l (notesL t.l t.v))
 let t2:=takeT ds ctx t1 (hopEds t1.l)
 takeT ds ctx t2 (deadEds t2.l t2.l.length)
def roundsT (ds:List Df)(ctx:Int):Nat→Tn2→Tn2
 | 0,t=>t
 | n+1,t=>if sameL t.l (roundT ds ctx t).l then roundT ds ctx t else roundsT ds ctx n (roundT ds ctx t)
def insnsT (l:List In)(ds:List Df)(ctx:Int):List In × Nat × Int :=
 if !(good l) then ([],(check l).1,(check l).2)
 else if !(givenB ds ctx) then ([],0,1)
 else if (programV l ds ctx).code==0 then ((roundsT ds ctx 8 ⟨l,programV l ds ctx⟩).l,0,0)
 else ([],(programV l ds ctx).at_,(programV l ds ctx).code)
structure OkT (ds:List Df) (ctx:Int) (n:Nat) (t:Tn2):Prop where
 good:Co.good t.l=true
 v:t.v=programV t.l ds ctx
 ok:t.v.code=0
 len:t.l.length≤n
theorem rewrite_good {l y:List In}{e:List Ed}(h:rewrite l e=some y):good y=true:=by
 unfold rewrite at h;split at h
 · split at h
   · rename_i hg;simp only[Option.some.injEq] at h;rw[← h];exact hg
   · cases h
 · cases h
theorem OkT.take {ds:List Df}{ctx:Int}{n:Nat}{t:Tn2}(h:OkT ds ctx n t)(es:List Ed):OkT ds ctx n (takeT ds ctx t es):=by
 unfold takeT;split
 · exact h
 · rename_i y hy
   split
   · exact h
   · rename_i hl
     simp only[decide_eq_true_eq] at hl;split
     · rename_i hc
       exact⟨rewrite_good hy,rfl,by simpa using hc,by have:=h.len;simp only;omega⟩
     · exact h
theorem OkT.round {ds:List Df}{ctx:Int}{n:Nat}{t:Tn2}(h:OkT ds ctx n t):OkT ds ctx n (roundT ds ctx t):=((h.take _).take _).take _
theorem OkT.rounds {ds:List Df}{ctx:Int}{n:Nat}:∀ (k:Nat) {t:Tn2},OkT ds ctx n t→OkT ds ctx n (roundsT ds ctx k t)
 | 0,_,h=>h
 | k+1,t,h=>by
   unfold roundsT;split
   · exact h.round
   · exact OkT.rounds k h.round
theorem insnsT_ok {l:List In}{ds:List Df}{ctx:Int}(h:(insnsT l ds ctx).2.2=0):good l=true∧givenB ds ctx=true∧good (insnsT l ds ctx).1=true∧(insnsT l ds ctx).1.length≤l.length∧(programV (insnsT l ds ctx).1 ds ctx).code=0∧(insnsT l ds ctx).2=(0,0):=by
 unfold insnsT at h ⊢;cases hg:good l with
 | false =>
   rw[hg] at h;simp only[Bool.not_false,if_true] at h;unfold good at hg;rw[h] at hg;simp at hg
 | true =>
   rw[hg] at h;cases hv:givenB ds ctx with
   | false=>rw[hv] at h;simp at h
   | true =>
     rw[hv] at h;simp only[Bool.not_true,Bool.false_eq_true,if_false] at h ⊢;cases hc:((programV l ds ctx).code==0) with
     | false =>
       rw[hc] at h;simp only[Bool.false_eq_true,if_false] at h;rw[h] at hc;simp at hc
     | true =>
       simp only[if_true];have h0:OkT ds ctx l.length ⟨l,programV l ds ctx⟩:=⟨hg,rfl,by simpa using hc,Nat.le_refl _⟩;have h1:=h0.rounds 8;exact⟨trivial,trivial,h1.good,h1.len,by rw[← h1.v];exact h1.ok,trivial⟩
theorem Q9g {l:List In}{ds:List Df}{ctx:Int}(hg:good l=true)(hv:givenB ds ctx=true)(hc:(programV l ds ctx).code=0):(insnsT l ds ctx).2.2=0:=by
 unfold insnsT;rw[hg,hv,hc];rfl
end Co
end Hk
namespace Hk
namespace Co
theorem decT_one {n:Nat}(h:¬ (n=0∨¬ (n:Int) % 8=0∨(4096:Int)<n)):n=8*(n / 8)∧0<n / 8∧n / 8≤512:=Y1
def decT (f:Nat→BitVec 8)(n:Nat):List In × Nat × Int :=
 if n=0∨¬ (n:Int) % 8=0∨(4096:Int)<n then ([],0,70) else if good (decL f (n / 8))=true then (decL f (n / 8),0,0) else ([],(check (decL f (n / 8))).1,(check (decL f (n / 8))).2)
theorem decT_size {f:Nat→BitVec 8}{n:Nat}(h:n=0∨¬ (n:Int) % 8=0∨(4096:Int)<n):decT f n=([],0,70):=if_pos h
theorem decT_ok {f:Nat→BitVec 8}{n:Nat}(h:¬ (n=0∨¬ (n:Int) % 8=0∨(4096:Int)<n))(hg:good (decL f (n / 8))=true):decT f n=(decL f (n / 8),0,0):=by unfold decT;rw[if_neg h,if_pos hg]
theorem decT_bad {f:Nat→BitVec 8}{n:Nat}(h:¬ (n=0∨¬ (n:Int) % 8=0∨(4096:Int)<n))(hg:good (decL f (n / 8))=false):decT f n=([],(check (decL f (n / 8))).1,(check (decL f (n / 8))).2):=by unfold decT;rw[if_neg h,if_neg (by rw[hg];simp)]
theorem decT_good {f:Nat→BitVec 8}{n:Nat}(h:(decT f n).2.2=0):good (decT f n).1=true∧n=8*(decT f n).1.length:=by
 by_cases hs:n=0∨¬ (n:Int) % 8=0∨(4096:Int)<n
 · rw[decT_size hs] at h;simp at h
 · cases hg:good (decL f (n / 8)) with
   | true=>rw[decT_ok hs hg];exact⟨hg,by rw[decL_length];exact (decT_one hs).1⟩
   | false=>rw[decT_bad hs hg] at h;unfold good at hg;simp only at h;rw[h] at hg;simp at hg
def encF (l:List In)(j:Nat):BitVec 8:=Q6y (l.getD (j / 8) In.zero) (j % 8)
theorem encC_get (l:List In):∀ j,j<8*l.length→(encC l)[j]?=some (.int .u8 (N8 (encF l j))):=by
 unfold encC encF
 induction l with
 | nil=>intro j hj;simp at hj
 | cons x r ih =>
   intro j hj;rw[List.flatMap_cons];by_cases h8:j<8
   · rw[List.getElem?_append_left (by rw[bytesC_length];exact h8),show j / 8=0 from Y1,show j % 8=j from Y1]
     simp[bytesC,h8]
   · rw[List.getElem?_append_right (by rw[bytesC_length];omega),bytesC_length,ih (j - 8) (by simp at hj;omega),show j / 8=(j - 8) / 8+1 from Y1,show (j - 8) % 8=j % 8 from Y1]
     simp
theorem Q90 {f g:Nat→BitVec 8}(h:∀ j,j<8→f j=g j):takeOf f=takeOf g:=by
 have h4:immOf f 4=immOf g 4:=by
  show immOf f (0+1+1+1+1)=_;simp only[immOf,h 4 Y1,h 5 Y1,h 6 Y1,h 7 Y1,Nat.reduceAdd]
 unfold takeOf;rw[h 0 Y1,h 1 Y1,h 2 Y1,h 3 Y1,h4]
theorem Qky {l:List In}(hg:good l=true):decL (encF l) l.length=l:=by
 apply List.ext_getElem
 · exact decL_length _ _
 · intro k h1 h2
   obtain⟨hd,hs⟩:=good_regs hg h2;have e:(decL (encF l) l.length)[k]=takeOf fun j=>encF l (8*k+j):=by simp[decL]
   rw[e,Q90 (g:=Q6y l[k]) (fun j hj=>by
    unfold encF;rw[show (8*k+j) / 8=k from Y1,show (8*k+j) % 8=j from Y1]
    simp[List.getD,h2])]
   exact Qb2 _ hd hs
theorem Qkx {l:List In}(hg:good l=true):decT (encF l) (8*l.length)=(l,0,0):=by
 have hl:=(good_facts hg).1;have hd:=Qky hg;have e:8*l.length / 8=l.length:=Y1;rw[decT_ok Y1 (by rw[e,hd];exact hg),e,hd]
def optT (f:Nat→BitVec 8)(n:Nat)(ds:List Df)(ctx:Int):List In × Nat × Int :=
 if (decT f n).2.2=0 then insnsT (decT f n).1 ds ctx else ([],(decT f n).2.1,(decT f n).2.2)
theorem optT_yes {f:Nat→BitVec 8}{n:Nat}{ds:List Df}{ctx:Int}(h:(decT f n).2.2=0):optT f n ds ctx=insnsT (decT f n).1 ds ctx:=if_pos h
theorem optT_no {f:Nat→BitVec 8}{n:Nat}{ds:List Df}{ctx:Int}(h:¬ (decT f n).2.2=0):optT f n ds ctx=([],(decT f n).2.1,(decT f n).2.2):=if_neg h
theorem optT_ok {f:Nat→BitVec 8}{n:Nat}{ds:List Df}{ctx:Int}(h:(optT f n ds ctx).2.2=0) :
 givenB ds ctx=true∧good (optT f n ds ctx).1=true∧8*(optT f n ds ctx).1.length≤n∧(programV (optT f n ds ctx).1 ds ctx).code=0∧(optT f n ds ctx).2=(0,0):=by
 by_cases hd:(decT f n).2.2=0
 · rw[optT_yes hd] at h ⊢
   obtain⟨h1,h2,h3,h4,h5,h6⟩:=insnsT_ok h;have:=(decT_good hd).2;exact⟨h2,h3,Y1,h5,h6⟩
 · rw[optT_no hd] at h;exact absurd h hd
theorem optT_twice {f:Nat→BitVec 8}{n:Nat}{ds:List Df}{ctx:Int}(h:(optT f n ds ctx).2.2=0){A:List In}(hA:(optT f n ds ctx).1=A) :
 decT (encF A) (8*A.length)=(A,0,0)∧optT (encF A) (8*A.length) ds ctx=insnsT A ds ctx∧(insnsT A ds ctx).2.2=0∧good (insnsT A ds ctx).1=true∧(insnsT A ds ctx).1.length≤A.length:=by
 subst hA;obtain⟨h1,h2,h3,h4,h5⟩:=optT_ok h;have hd:=Qkx h2;have ha:=Q9g h2 h1 h4;obtain⟨k1,k2,k3,k4,k5,k6⟩:=insnsT_ok ha;refine⟨hd,?_,ha,k3,k4⟩;rw[optT_yes (by rw[hd]),hd]
end Co
end Hk
namespace Hk
open Go
section
variable {P : Program} {ops : Array Oper} {md : Region.Mode}
def Q6r (md:Region.Mode)(ops:Array Oper):List Nat→Array Bool→Bool
 | [],listed=>(Region.ready md ops listed).isEmpty
 | i :: is,listed=>(Region.ready md ops listed).contains i && Region.free md ops listed i && Q6r md ops is (listed.setIfInBounds i true)
theorem Qe0 {C:World→Prop}{Q:Act→Prop}(hs:Region.noSelect ops=true):∀ (is:List Nat) (l:List Oper) (listed:Array Bool) (a:Act),l.length=is.length→(∀ (j i:Nat),is[j]?=some i→l[j]?=ops[i]?) →
 Q6r md ops is listed=true→wpQuiet P ops C Q l a→wpAnyQ P md ops C Q l.length listed a
 | [],l,listed,a,hl,_,hB,h=>by
   have:l=[]:=List.eq_nil_of_length_eq_zero hl;subst this;exact⟨by simpa[Q6r] using hB,h⟩
 | i :: is,l,listed,a,hl,hi,hB,h=>by
   cases l with
   | nil=>simp at hl
   | cons o l =>
     have h0:ops[i]?=some o:=by simpa using (hi 0 i rfl).symm
     simp only[Q6r,Bool.and_eq_true] at hB;obtain⟨⟨hr,hf⟩,hB'⟩:=hB;have hst:qOp P ops C i (wpQuiet P ops C Q l) a:=by unfold qOp;simp only[h0];exact h
     obtain⟨v,hy,hK⟩:=yieldsIn_of_qOp h0 hst
     exact wpAnyQ_first h0 (Region.noSelect_spec hs) l.length listed a (Region.free_spec h0 hf) Yej hy
       (Qe0 hs is l _ _ (by simpa using hl) (fun j k hk=>by have:=hi (j+1) k Y6;simpa using this) hB' hK)
theorem put_slot (a:Act)(dst:Option Tmp)(v:Value)(d:Tmp)(h:dst≠some d):(a.put dst v).tmps[d]?=a.tmps[d]?:=by
 cases dst with
 | none=>rfl
 | some e =>
   have hne:e≠d:=fun h'=>h (by rw[h'])
   show (a.tmps.setIfInBounds e v)[d]?=_;rw[Array.getElem?_setIfInBounds,if_neg hne]
theorem Q4s {C:World→Prop}{aend:Act}{d:Tmp}:∀ (f:Nat) (listed:Array Bool) (a:Act),wpAnyQ P md ops C (fun a'=>a'=aend) f listed a →
 (∀ (j:Nat) (oj:Oper),ops[j]?=some oj→listed.getD j true=false→oj.dst≠some d)→a.tmps[d]?=aend.tmps[d]?
 | 0,listed,a,h,_=>by rw[h.2]
 | f+1,listed,a,h,hd=>by
   cases hr:Region.ready md ops listed with
   | nil=>rw[h.1 hr]
   | cons i r =>
     have hi:i∈Region.ready md ops listed:=by rw[hr];simp
     obtain⟨hun,oi,hoi,_⟩:=mem_ready.1 hi;obtain⟨v,_,hK⟩:=yieldsIn_of_qOp hoi (h.2 i hi)
     have:=Q4s f _ _ hK (fun j oj hj hu=>by
      by_cases hij:i=j
      · subst hij
        have hlt:i<listed.size:=by
         rcases Nat.lt_or_ge i listed.size with h'|h'
         · exact h'
         · simp[Array.getElem?_eq_none h'] at hun
        simp[hlt] at hu
      · rw[getD_set_ne true hij] at hu;exact hd j oj hj hu)
     rw[← this,put_slot _ _ _ _ (hd i oi hoi hun)]
def Qlh (md:Region.Mode)(ops:Array Oper):Bool :=
 (List.range ops.size).all fun k=>match ops[k]? with|some o=>o.after.all fun e=>!Region.binds md e || decide (e.on<k)|none=>true
theorem Qfm {listed:Array Bool}(hB:Qlh md ops=true)(hsz:listed.size=ops.size):∀ (d k:Nat),k=d→k<ops.size→listed.getD k true=false→Region.ready md ops listed≠[]:=by
 intro d
 induction d using Nat.strongRecOn with
 | _ d ih =>
   intro k hk hlt hun hnil;subst hk;have h1:=List.all_eq_true.1 hB k (List.mem_range.2 hlt);have ho:ops[k]?=some ops[k]:=Array.getElem?_eq_getElem hlt;simp only[ho,Array.all_eq_true_iff_forall_mem] at h1
   have hall:∀ e∈(ops[k]).after,Region.binds md e=true→listed.getD e.on false=true:=fun e he hb=>by
    have h2:=h1 e he;simp only[hb,Bool.not_true,Bool.false_or,decide_eq_true_eq] at h2;cases hl:listed.getD e.on false with
    | true=>rfl
    | false=>exact absurd hnil (ih e.on h2 e.on rfl Y1 (getD_in Y1 hl))
   have:k∈Region.ready md ops listed:=mem_ready.2 ⟨hun,_,ho,hall⟩;rw[hnil] at this;cases this
def Qz4 (ops:Array Oper):Bool :=
 (List.range ops.size).all fun i=>(List.range ops.size).all fun j=>i==j || match ops[i]?,ops[j]? with|some a,some b=>(match a.dst,b.dst with|some d,some e=>decide (d≠e)|_,_=>true)|_,_=>true
theorem Qku (hB:Qz4 ops=true){i j:Nat}{a b:Oper}(hi:ops[i]?=some a)(hj:ops[j]?=some b)(hij:i≠j){d:Tmp}(hd:a.dst=some d):b.dst≠some d:=fun hb=>by
 have hil:=(Array.getElem?_eq_some_iff.1 hi).1;have hjl:=(Array.getElem?_eq_some_iff.1 hj).1;have h1:=List.all_eq_true.1 (List.all_eq_true.1 hB i (List.mem_range.2 hil)) j (List.mem_range.2 hjl);simp[hi,hj,hd,hb,hij] at h1
def Q139 (md:Region.Mode)(ops:Array Oper)(s:Nat)(ds:List Tmp):Bool :=
 (List.range ops.size).all fun j=>match ops[j]? with|some o=>(match o.dst with|some d=>!ds.contains d || Region.waitsFor md ops s j|none=>true)|none=>true
theorem Q9o {D:Bool→World→Prop}{aend:Act}{s:Nat}{os:Oper}{ds:List Tmp}{Q':Exit→Act→World→Prop}(hos:ops[s]?=some os)(hdst:os.dst=none)
 (hA:Qlh md ops=true) (hD:Qz4 ops=true) (hO:Q139 md ops s ds=true)
 (hst:∀ (a:Act) (w:World) (K:Act→World→Prop),D false w→(∀ d∈ds,a.tmps[d]?=aend.tmps[d]?)→(∀ w',D true w'→K a w')→wpOp P ops Q' s K a w)
 (hQ:∀ w,D true w→Q' .normal aend w) :
 ∀ (f:Nat) (listed:Array Bool) (a:Act) (w:World),listed.size=ops.size→listed.getD s true=false→D false w →
  wpAnyQ P md ops (D false) (fun a'=>a'=aend) f (listed.setIfInBounds s true) a→wpAnyQ P md ops (D true) (fun a'=>a'=aend) f (listed.setIfInBounds s true) a →
  wpAny P md ops Q' (f+1) listed a w
 | f,listed,a,w,hsz,hun,hw,h0,h1=>by
   have hslt:s<ops.size:=(Array.getElem?_eq_some_iff.1 hos).1;refine⟨fun hr=>absurd hr (Qfm hA hsz s s rfl hslt hun),fun i hi=>?_⟩;by_cases his:i=s
   · subst his
     obtain⟨_,o',ho',hall⟩:=mem_ready.1 hi;refine hst a w _ hw (fun d hd=>?_) (fun w' hw'=>wpAny_of_quiet (C:=D true) (Q:=fun a'=>a'=aend) (fun a' w'' hw'' e=>by rw[e];exact hQ w'' hw'') f _ _ _ hw' h1);refine Q4s f _ a h0 (fun j oj hj hu hdj=>?_);have hjl:=(Array.getElem?_eq_some_iff.1 hj).1;have h2:=List.all_eq_true.1 hO j (List.mem_range.2 hjl);simp only[hj,hdj,List.contains_iff_mem.2 hd,Bool.not_true,Bool.false_or] at h2;obtain⟨o2,ho2,e,he,hb,hon⟩:=Region.waitsFor_spec h2;have:o2=o':=Option.some.inj (ho2.symm.trans ho');subst this;have h3:=hall e he hb;rw[hon] at h3;by_cases hij:i=j
     · subst hij
       have:oj=os:=Option.some.inj (hj.symm.trans hos);rw[this,hdst] at hdj;cases hdj
     · rw[getD_set_ne true hij] at hu
       rw[getD_both hu] at h3;cases h3
   · have hi':=ready_mono hi his
     cases f with
     | zero=>rw[h0.1] at hi';cases hi'
     | succ f =>
       obtain⟨hiun,oi,hoi,_⟩:=mem_ready.1 hi';have q0:=h0.2 i hi';have q1:=h1.2 i hi';obtain⟨v0,y0,k0⟩:=yieldsIn_of_qOp hoi q0;obtain⟨v1,y1,k1⟩:=yieldsIn_of_qOp hoi q1
       have hlt:i<(listed.setIfInBounds s true).size:=by
        rcases Nat.lt_or_ge i (listed.setIfInBounds s true).size with h'|h'
        · exact h'
        · simp[Array.getElem?_eq_none h'] at hiun
       have heq:a.put oi.dst v1=a.put oi.dst v0:=by
        cases hd:oi.dst with
        | none=>rfl
        | some d =>
          have nd:∀ (j:Nat) (oj:Oper),ops[j]?=some oj→((listed.setIfInBounds s true).setIfInBounds i true).getD j true=false→oj.dst≠some d:=fun j oj hj hu=>by
           by_cases hij:i=j
           · subst hij
             simp[hlt] at hu
           · exact Qku hD hoi hj hij hd
          have e0:=Q4s f _ _ k0 nd;have e1:=Q4s f _ _ k1 nd;rw[hd] at e0 e1;have e2:=e0.trans e1.symm;show ({ a with tmps:=a.tmps.setIfInBounds d v1 }:Act)={ a with tmps:=a.tmps.setIfInBounds d v0 };have e3:(a.tmps.setIfInBounds d v0)[d]?=(a.tmps.setIfInBounds d v1)[d]?:=e2;by_cases hds:d<a.tmps.size
          · simp[hds] at e3
            rw[e3]
          · rw[Array.setIfInBounds_eq_of_size_le (Nat.le_of_not_lt hds),Array.setIfInBounds_eq_of_size_le (Nat.le_of_not_lt hds)]
       rw[heq] at k1;have q:qOp P ops (D false) i (fun a'=>wpAnyQ P md ops (D false) (fun a'=>a'=aend) f ((listed.setIfInBounds s true).setIfInBounds i true) a'∧wpAnyQ P md ops (D true) (fun a'=>a'=aend) f ((listed.setIfInBounds s true).setIfInBounds i true) a') a:=y0.qOp hoi ⟨k0,k1⟩;refine wpOp_of_qOp hw (fun a' w' hw' hk=>?_) q;rw[Array.setIfInBounds_comm _ _ (Ne.symm his)] at hk;exact Q9o hos hdst hA hD hO hst hQ f _ a' w' (by simpa using hsz) (by rw[getD_set_ne true his];exact hun) hw' hk.1 hk.2
def Qv5 (md:Region.Mode)(ops:Array Oper)(s:Nat)(ds:List Tmp):Bool :=
 Region.noSelect ops && decide (s<ops.size) && Qlh md ops && Qz4 ops && Q139 md ops s ds && Q6r md ops (List.range s++List.range' (s+1) (ops.size - s - 1)) ((Array.replicate ops.size false).setIfInBounds s true)
theorem Q69 {id:Nat}{Q:Exit→Act→World→Prop}{a:Act}{w:World}{l l0:List Oper}{os:Oper}(D:Bool→World→Prop)(s:Nat){T:TypeId}{d1 d2:Tmp}(hs:l[s]?=some os)(hop:os.op=.store T (.tmp d1) (.tmp d2))(hdst:os.dst=none)(hgd:os.guard=none)(hl0:l.eraseIdx s=l0)
 (hm:P.follows .mixedOrders=true) (hB:Qv5 .any l.toArray s [d1,d2]=true) (hC:D false w.drew) 
 (H:∃ aend:Act,(∀ b,(∀ p:Prop,(∀ w',D b w'→p)=p)→wpQuiet P l.toArray (D b) (fun a'=>a'=aend) l0 a) ∧
   (∀ w,D false w→∃ w',(Instr.storeAt T (aend.eval (.tmp d1)) (aend.eval (.tmp d2))).run P w=.ok () w'∧D true w')∧∀ w,D true w→Q .normal aend w):(Code.region id l.toArray true).wp P Q a w:=by
 obtain⟨aend,h,hst,hQ⟩:=H
 have hne:∀ b,∃ w',D b w':=fun b=>by
  cases b
  · exact⟨_,hC⟩
  · obtain⟨w',_,h'⟩:=hst _ hC
    exact⟨w',h'⟩
 have h:=fun b=>h b fun p=>propext ⟨fun k=>(hne b).elim fun w' hw'=>k w' hw',fun k _ _=>k⟩
 simp only[Qv5,Bool.and_eq_true,decide_eq_true_eq] at hB;obtain⟨⟨⟨⟨⟨hsel,hlt⟩,hA⟩,hD⟩,hO⟩,hlex⟩:=hB;have hltl:s<l.length:=by simpa using hlt
 have hos:l.toArray[s]?=some os:=by simpa using hs
 subst hl0
 have hlen:(l.eraseIdx s).length=(List.range s++List.range' (s+1) (l.toArray.size - s - 1)).length:=by
  rw[List.length_eraseIdx_of_lt hltl];simp;omega
 have hidx:∀ (j i:Nat),(List.range s++List.range' (s+1) (l.toArray.size - s - 1))[j]?=some i→(l.eraseIdx s)[j]?=l.toArray[i]?:=fun j i hj=>by
  rw[List.getElem?_eraseIdx,List.getElem?_toArray];by_cases hjs:j<s
  · rw[List.getElem?_append_left (by simpa using hjs),List.getElem?_range hjs] at hj
    rw[if_pos hjs,Option.some.inj hj]
  · rw[List.getElem?_append_right (by simpa using hjs)] at hj
    have hj2:=(List.getElem?_eq_some_iff.1 hj);obtain⟨hl2,e2⟩:=hj2;rw[List.getElem_range'] at e2;rw[if_neg hjs]
    congr 1
    simp at e2;omega
 have q:∀ b,wpAnyQ P .any l.toArray (D b) (fun a'=>a'=aend) (l.eraseIdx s).length ((Array.replicate l.toArray.size false).setIfInBounds s true) a:=fun b=>Qe0 hsel _ _ _ a hlen hidx hlex (h b)
 refine wp_region_any hm ?_
 have hf:=Q9o (P:=P) (md:=.any) (D:=D) (aend:=aend) (s:=s) (os:=os) (ds:=[d1,d2]) (Q':=Q) hos hdst hA hD hO (fun a w K hw hds hK=>by
  have ev:∀ d∈[d1,d2],a.eval (.tmp d)=aend.eval (.tmp d):=fun d hd=>by
   have:=hds d hd;simp only[Act.eval,Array.getD_eq_getD_getElem?,this]
  obtain⟨w',hr,hD'⟩:=hst w hw;have hwant:Region.wanted os (yielded l.toArray a.tmps)=true:=by unfold Region.wanted;rw[hgd]
  have hx:(execOp a.eval os).run P w=.ok .skip w':=by
   obtain⟨dst,op,type,pos,after,guard⟩:=os;simp only at hop;subst hop;have hr':=hr;rw[← ev d1 Y3,← ev d2 Y3] at hr';simp only[execOp,Sem.run_bind,hr',Result.andThen,Sem.run_pure]
  unfold wpOp;simp only[hos,hwant,if_true];refine .inl ?_;unfold Oper.wp;rw[hx];simp only[Oper.upon,hdst]
  exact hK w' hD') hQ (l.eraseIdx s).length (Array.replicate l.toArray.size false) a w.drew Y3 (by simp[hltl]) hC (q false) (q true)
 have e:(l.eraseIdx s).length+1=l.toArray.size:=by rw[List.length_eraseIdx_of_lt hltl];simp;omega
 rw[e] at hf;exact hf
end
end Hk
namespace Hk
theorem Qbc (ρ:Operand→Value)(op:Oper)(x:Operand)(b o:Nat)(c0 c1 c2 c3 c4:Value)(ho:op.op=.load 41 x)(hx:ρ x=.pointer (some ⟨b,o,none⟩))(w:World)(h0:w.cell? ⟨b,o,none⟩=some c0)(h1:w.cell? ⟨b,o+1,none⟩=some c1)(h2:w.cell? ⟨b,o+2,none⟩=some c2)(h3:w.cell? ⟨b,o+3,none⟩=some c3)(h4:w.cell? ⟨b,o+4,none⟩=some c4) :
 (execOp ρ op).run Tryz.prog w=.ok (.value (.agg #[c0,c1,c2,c3,c4])) w:=by
 obtain⟨dst,op,type,pos,after,guard⟩:=op;simp only at ho;subst ho
 go_simp
theorem Qc {op:Oper}{a:Act}{C:World→Prop}{K:Act→Prop}{x:Operand}{b o:Nat}{c0 c1 c2 c3 c4:Value}(ho:op.op=.load 41 x)(hx:a.eval x=.pointer (some ⟨b,o,none⟩))
 (h:∀ w,C w→w.cell? ⟨b,o,none⟩=some c0∧w.cell? ⟨b,o+1,none⟩=some c1∧w.cell? ⟨b,o+2,none⟩=some c2∧w.cell? ⟨b,o+3,none⟩=some c3∧w.cell? ⟨b,o+4,none⟩=some c4) (hk:K (a.put op.dst (.agg #[c0,c1,c2,c3,c4]))):op.quiet Tryz.prog a C K :=
 Qt (v:=.agg #[c0,c1,c2,c3,c4]) (fun w hC=>by unfold Oper.quietAt;obtain⟨h0,h1,h2,h3,h4⟩:=h w hC;rw[Qbc _ op x b o c0 c1 c2 c3 c4 ho hx w h0 h1 h2 h3 h4];exact⟨rfl,rfl⟩) hk
theorem Qb5 (ρ:Operand→Value)(op:Oper)(x:Operand)(b o:Nat)(c0 c1 c2 c3 c4 c5:Value)(ho:op.op=.load 66 x)(hx:ρ x=.pointer (some ⟨b,o,none⟩))(w:World)(h0:w.cell? ⟨b,o,none⟩=some c0)(h1:w.cell? ⟨b,o+1,none⟩=some c1)(h2:w.cell? ⟨b,o+2,none⟩=some c2)(h3:w.cell? ⟨b,o+3,none⟩=some c3)(h4:w.cell? ⟨b,o+4,none⟩=some c4)(h5:w.cell? ⟨b,o+5,none⟩=some c5) :
 (execOp ρ op).run Tryz.prog w=.ok (.value (.agg #[c0,c1,c2,c3,c4,c5])) w:=by
 obtain⟨dst,op,type,pos,after,guard⟩:=op;simp only at ho;subst ho
 go_simp
theorem Qf {op:Oper}{a:Act}{C:World→Prop}{K:Act→Prop}{x:Operand}{b o:Nat}{c0 c1 c2 c3 c4 c5:Value}(ho:op.op=.load 66 x)(hx:a.eval x=.pointer (some ⟨b,o,none⟩))
 (h:∀ w,C w→w.cell? ⟨b,o,none⟩=some c0∧w.cell? ⟨b,o+1,none⟩=some c1∧w.cell? ⟨b,o+2,none⟩=some c2∧w.cell? ⟨b,o+3,none⟩=some c3∧w.cell? ⟨b,o+4,none⟩=some c4∧w.cell? ⟨b,o+5,none⟩=some c5) (hk:K (a.put op.dst (.agg #[c0,c1,c2,c3,c4,c5]))):op.quiet Tryz.prog a C K :=
 Qt (v:=.agg #[c0,c1,c2,c3,c4,c5]) (fun w hC=>by unfold Oper.quietAt;obtain⟨h0,h1,h2,h3,h4,h5⟩:=h w hC;rw[Qb5 _ op x b o c0 c1 c2 c3 c4 c5 ho hx w h0 h1 h2 h3 h4 h5];exact⟨rfl,rfl⟩) hk
theorem Qb7 (ρ:Operand→Value)(op:Oper)(x:Operand)(b o:Nat)(c0:Value)(ho:op.op=.load 5 x)(hx:ρ x=.pointer (some ⟨b,o,none⟩))(w:World)(h0:w.cell? ⟨b,o,none⟩=some c0) :
 (execOp ρ op).run Tryz.prog w=.ok (.value (c0)) w:=by
 obtain⟨dst,op,type,pos,after,guard⟩:=op;simp only at ho;subst ho
 go_simp
theorem Q5 {op:Oper}{a:Act}{C:World→Prop}{K:Act→Prop}{x:Operand}{b o:Nat}{c0:Value}(ho:op.op=.load 5 x)(hx:a.eval x=.pointer (some ⟨b,o,none⟩))
 (h:∀ w,C w→w.cell? ⟨b,o,none⟩=some c0) (hk:K (a.put op.dst (c0))):op.quiet Tryz.prog a C K :=
 Qt (v:=c0) (fun w hC=>by unfold Oper.quietAt;have h0:=h w hC;rw[Qb7 _ op x b o c0 ho hx w h0];exact⟨rfl,rfl⟩) hk
theorem Qbk (ρ:Operand→Value)(op:Oper)(x:Operand)(b o:Nat)(c0:Value)(ho:op.op=.load 4 x)(hx:ρ x=.pointer (some ⟨b,o,none⟩))(w:World)(h0:w.cell? ⟨b,o,none⟩=some c0) :
 (execOp ρ op).run Tryz.prog w=.ok (.value (c0)) w:=by
 obtain⟨dst,op,type,pos,after,guard⟩:=op;simp only at ho;subst ho
 go_simp
theorem Q6 {op:Oper}{a:Act}{C:World→Prop}{K:Act→Prop}{x:Operand}{b o:Nat}{c0:Value}(ho:op.op=.load 4 x)(hx:a.eval x=.pointer (some ⟨b,o,none⟩))
 (h:∀ w,C w→w.cell? ⟨b,o,none⟩=some c0) (hk:K (a.put op.dst (c0))):op.quiet Tryz.prog a C K :=
 Qt (v:=c0) (fun w hC=>by unfold Oper.quietAt;have h0:=h w hC;rw[Qbk _ op x b o c0 ho hx w h0];exact⟨rfl,rfl⟩) hk
theorem Q98 (ρ:Operand→Value)(op:Oper)(x:Operand)(b o:Nat)(c0:Value)(ho:op.op=.load 39 x)(hx:ρ x=.pointer (some ⟨b,o,none⟩))(w:World)(h0:w.cell? ⟨b,o,none⟩=some c0) :
 (execOp ρ op).run Tryz.prog w=.ok (.value (c0)) w:=by
 obtain⟨dst,op,type,pos,after,guard⟩:=op;simp only at ho;subst ho
 go_simp
theorem Q9 {op:Oper}{a:Act}{C:World→Prop}{K:Act→Prop}{x:Operand}{b o:Nat}{c0:Value}(ho:op.op=.load 39 x)(hx:a.eval x=.pointer (some ⟨b,o,none⟩))
 (h:∀ w,C w→w.cell? ⟨b,o,none⟩=some c0) (hk:K (a.put op.dst (c0))):op.quiet Tryz.prog a C K :=
 Qt (v:=c0) (fun w hC=>by unfold Oper.quietAt;have h0:=h w hC;rw[Q98 _ op x b o c0 ho hx w h0];exact⟨rfl,rfl⟩) hk
theorem Q97 (ρ:Operand→Value)(op:Oper)(x:Operand)(b o:Nat)(c0:Value)(ho:op.op=.load 21 x)(hx:ρ x=.pointer (some ⟨b,o,none⟩))(w:World)(h0:w.cell? ⟨b,o,none⟩=some c0) :
 (execOp ρ op).run Tryz.prog w=.ok (.value (c0)) w:=by
 obtain⟨dst,op,type,pos,after,guard⟩:=op;simp only at ho;subst ho
 go_simp
theorem Qe {op:Oper}{a:Act}{C:World→Prop}{K:Act→Prop}{x:Operand}{b o:Nat}{c0:Value}(ho:op.op=.load 21 x)(hx:a.eval x=.pointer (some ⟨b,o,none⟩))
 (h:∀ w,C w→w.cell? ⟨b,o,none⟩=some c0) (hk:K (a.put op.dst (c0))):op.quiet Tryz.prog a C K :=
 Qt (v:=c0) (fun w hC=>by unfold Oper.quietAt;have h0:=h w hC;rw[Q97 _ op x b o c0 ho hx w h0];exact⟨rfl,rfl⟩) hk
theorem Q96 (ρ:Operand→Value)(op:Oper)(x:Operand)(b o:Nat)(c0:Value)(ho:op.op=.load 3 x)(hx:ρ x=.pointer (some ⟨b,o,none⟩))(w:World)(h0:w.cell? ⟨b,o,none⟩=some c0) :
 (execOp ρ op).run Tryz.prog w=.ok (.value (c0)) w:=by
 obtain⟨dst,op,type,pos,after,guard⟩:=op;simp only at ho;subst ho
 go_simp
theorem Q3 {op:Oper}{a:Act}{C:World→Prop}{K:Act→Prop}{x:Operand}{b o:Nat}{c0:Value}(ho:op.op=.load 3 x)(hx:a.eval x=.pointer (some ⟨b,o,none⟩))
 (h:∀ w,C w→w.cell? ⟨b,o,none⟩=some c0) (hk:K (a.put op.dst (c0))):op.quiet Tryz.prog a C K :=
 Qt (v:=c0) (fun w hC=>by unfold Oper.quietAt;have h0:=h w hC;rw[Q96 _ op x b o c0 ho hx w h0];exact⟨rfl,rfl⟩) hk
theorem Qb:N8 0#8=0:=rfl
theorem Q1i {fn:Func}{p r:Tmp}(h:fn.results=#[.cell p 66,.tmp r])(tmps:Array Value)(w:World)(g:Nat)(y:Wh)(c:Bool)
 (hp:tmps.getD p undef=.pointer (some ⟨g,0,none⟩)) (hr:tmps.getD r undef=.bool c)
 (a0:w.cell? ⟨g,0,none⟩=some (.int .u8 y.kind)) (a1:w.cell? ⟨g,1,none⟩=some (.int .u8 (N8 y.op))) (a2:w.cell? ⟨g,2,none⟩=some (.bool y.wide)) (a3:w.cell? ⟨g,3,none⟩=some (.bool y.reg)) (a4:w.cell? ⟨g,4,none⟩=some (.bool y.signed)) (a5:w.cell? ⟨g,5,none⟩=some (.int .i64 y.size)) :
 Sem.run Tryz.prog (results fn tmps) w=.ok (.tuple #[y,.bool c]) w:=by
 have hp':tmps[p]?.getD undef=.pointer (some ⟨g,0,none⟩):=Yew;have hr':tmps[r]?.getD undef=.bool c:=Yej;simp only[results,h];simp[hp',hr',a0,a1,a2,a3,a4,a5,go_sem]
end Hk
namespace Hk
theorem Qdj (x:In)(w:World):Calls Tryz.prog 51 #[x] w (RB.a w (.int .u8 (N8 (Co.cls x)))):=by
 go_enter Tryz.func51,Tryz.ntmps51;go_wp2;go_ret;exact⟨rfl,Yb⟩
theorem Qy8 (x:In)(w:World):Calls Tryz.prog 32 #[x] w (RB.a w (.bool (Co.wide2 x))):=by
 go_enter Tryz.func32,Tryz.ntmps32;go_wp2;go_ret;exact⟨rfl,Yb⟩
theorem Qds (x:In)(s o i:Bool)(w:World):Calls Tryz.prog 71 #[x,.bool s,.bool o,.bool i] w (RB.a w (.bool (Co.zeros x s o i))):=by
 cases s<;>cases o<;>cases i
 all_goals
  go_enter Tryz.func71,Tryz.ntmps71;go_wp2
 all_goals
  go_ret;refine⟨?_,Yb⟩;(try (simp[*,go_sem,Co.zeros];done))
theorem Qkz (o d s:BitVec 8)(f:BitVec 16)(m:BitVec 32)(a b c:Bool)(w:World):Calls Tryz.prog 71 #[.agg #[.int .u8 (N8 o),.int .u8 (N8 d),.int .u8 (N8 s),.int .i16 (I16 f),.int .i32 (I32 m)],.bool a,.bool b,.bool c] w (RB.a w (.bool (Co.zeros ⟨o,d,s,f,m⟩ a b c))):=by
 exact Qds ⟨o,d,s,f,m⟩ a b c w
theorem Qzj (op:BitVec 8)(w:World):Calls Tryz.prog 72 #[.int .u8 (N8 op)] w (RB.a w (.int .i64 (Co.szOf op))):=by
 go_enter Tryz.func72,Tryz.ntmps72;go_wp2
 all_goals
  go_ret;refine⟨?_,Yb⟩;(try (simp[*,go_sem,Co.szOf];done))
end Hk
