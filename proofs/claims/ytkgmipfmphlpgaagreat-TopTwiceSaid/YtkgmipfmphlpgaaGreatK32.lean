/- A part of TopTwice's proof; no condition. -/
import Derived.Test.YtkgmipfmphlpgaaGreatK20
import Derived.Test.YtkgmipfmphlpgaaGreatKA
import Derived.Test.YtkgmipfmphlpgaaGreatK30
open Go Go.RowKit Go.Proofs
set_option linter.all false
set_option maxRecDepth 100000
set_option maxHeartbeats 20000000
namespace Hk
attribute [-go_sem] Qm
theorem Qiy (x:St)(i:Nat)(hi:i<11)(k m o:Int):Q23 x.cells (i*7) #[.int .u8 k,.int .u64 0,.int .u64 0,.int .u64 0,.int .u64 0,.int .i64 m,.int .i64 o]=(x.setR i ⟨k,Fa.zero,m,o⟩).cells:=x.put_reg hi ⟨k,Fa.zero,m,o⟩
attribute [local go_sem] Qiy
def Q19g (g:Nat)(X:Sx)(w:World)(w':World):Prop:=Q1e w' g X∧Below w.heap.size w w'
theorem Qmi {g:Nat}{X:Sx}{w:World}:KC (Q19g g X w):=by
 exact Ys2
def Q11n (g pb dr:Nat)(zst:St)(X:Sx)(v:Vl)(w:World)(d:Nat→Bool)(ν:Nat→Nat × Nat)(w':World):Prop:=w'.cell? ⟨g,5,none⟩=some (.int .u8 (dr:Nat))∧CVl.a w' pb v ((d 8=true→blk w' (ν 8).1=(bif d 10 then (X.s).cells else (zst).cells))∧(d 8=true→∀ i,w'.frozen? ⟨(ν 8).1,i,none⟩=false)∧(d 8=true→pb+1≤(ν 8).1)∧(d 9=true→blk w' (ν 9).1=(bif d 11 then (X.s).cells else (zst).cells))∧(d 9=true→∀ i,w'.frozen? ⟨(ν 9).1,i,none⟩=false)∧(d 9=true→pb+1≤(ν 9).1)∧(d 8=true→d 9=true→(ν 8).1≠(ν 9).1)∧pb+1≤w'.heap.size∧Q1e w' g X∧Below w.heap.size w w')
theorem Q6z {g pb dr:Nat}{zst:St}{X:Sx}{v:Vl}{w:World}:KT (Q11n g pb dr zst X v w):=by
 intro d ν w' w1 h hb;obtain⟨k0,k1,k2,k3,k4,k5,k6,k7,k8,k9,k10,k11,k12,k13,k14,k15,k16,k17⟩:=h;exact⟨Q0 hb k0,Q0 hb k1,Q0 hb k2,Q0 hb k3,Q0 hb k4,Q0 hb k5,Q0 hb k6,Q0 hb k7,fun h=>Q12 hb (k8 h) (by cases d 10<;>simp[St.cells_size]),fun h j=>by rw[hb.frozen (p:=⟨(ν 8).1,j,none⟩) (Q1o (by rw[k8 h];cases d 10<;>simp[St.cells_size]))];exact k9 h j,k10,fun h=>Q12 hb (k11 h) (by cases d 11<;>simp[St.cells_size]),fun h j=>by rw[hb.frozen (p:=⟨(ν 9).1,j,none⟩) (Q1o (by rw[k11 h];cases d 11<;>simp[St.cells_size]))];exact k12 h j,k13,k14,Nat.le_trans k15 hb.size,(k16).keep hb,Q8 k17 hb⟩
theorem Qmj {g pb dr:Nat}{zst:St}{X:Sx}{v:Vl}{w:World}:MT (Q11n g pb dr zst X v w) [8,9,10,11]:=by
 intro d d' ν w' hd h;unfold Q11n at *;simpa only[← hd 8 Y3,← hd 9 Y3,← hd 10 Y3,← hd 11 Y3] using h
theorem Qtb {g pb dr:Nat}{zst:St}{X:Sx}{v:Vl}{w:World}:NT (Q11n g pb dr zst X v w) [8,9]:=by
 intro i hi d ν c w' hd h;unfold Q11n at *;exact Yp5
def Q180 (g pb b6 b7 d:Nat)(s6 s7:St)(X:Sx)(v:Vl)(w:World)(w':World):Prop:=w'.cell? ⟨g,5,none⟩=some (.int .u8 (d:Nat))∧CVl.a w' pb v (Q1e w' g X∧blk w' b6=(s6).cells∧(∀ i,w'.frozen? ⟨b6,i,none⟩=false)∧blk w' b7=(s7).cells∧(∀ i,w'.frozen? ⟨b7,i,none⟩=false)∧Below w.heap.size w w')
theorem Qmh {g pb b6 b7 d:Nat}{s6 s7:St}{X:Sx}{v:Vl}{w:World}:KC (Q180 g pb b6 b7 d s6 s7 X v w):=by
 intro w' w1 h hb;obtain⟨k0,k1,k2,k3,k4,k5,k6,k7,k8,k9,k10,k11,k12,k13⟩:=h;exact⟨Q0 hb k0,Q0 hb k1,Q0 hb k2,Q0 hb k3,Q0 hb k4,Q0 hb k5,Q0 hb k6,Q0 hb k7,(k8).keep hb,Q12 hb k9 Y13,fun i=>by rw[hb.frozen (p:=⟨b6,i,none⟩) (Q1o (by rw[k9,St.cells_size];decide))];exact k10 i,Q12 hb k11 Y13,fun i=>by rw[hb.frozen (p:=⟨b7,i,none⟩) (Q1o Y1n)];exact k12 i,Q8 k13 hb⟩
theorem Qvj (g:Nat)(X:Sx)(v:Vl)(w:World)(hX:Q1e w g X)(hlen:X.l.length≤100000)(hlt:X.at_<X.l.length)(hd:X.x.dst.toNat<11):Calls Tryz.prog 127 #[.pointer (some ⟨g,0,none⟩),v] w (fun en w'=>∃ vv,en=.returned vv∧w'.ownsRow w.heap.size 93 590 vv (Co.zeroW X v).length (Q1p (Co.zeroW X v))∧Below w.heap.size w w'):=by
 refine Yvt ?_;intro zg hXb;obtain⟨a0,a1,a2,a3,a4,a5,a6,a7,a8,a9,a10,a11,a12,a13,a14⟩:=hX.cells;have eD:N8 X.x.dst=((X.x.dst.toNat:Nat):Int):=rfl;rw[eD] at a5;clear eD;cases hp:Vl.ptr v
 · cases hj:(X.w.op==80#8)
   · have EE:=Lib.hid (show Co.zeroW X v=Co.waysW X (Co.thereS X v) true (Co.notS X) true from Yh3)
     exact Yjj
   · have EE:=Lib.hid (show Co.zeroW X v=Co.waysW X (Co.notS X) true (Co.thereS X v) true from Yh3)
     exact Yjj
 · cases hj:(X.w.op==80#8)
   · have EE:=Lib.hid (show Co.zeroW X v=Co.waysW X X.s true X.s false from Yh3)
     exact Yko
   · have EE:=Lib.hid (show Co.zeroW X v=Co.waysW X X.s false X.s true from Yh3)
     exact Yko
end Hk
namespace Hk
namespace Fa
theorem if_n1 {op:Int}{wd:Bool}{a b:Fa}(h:ok a=false):if_ op wd a b=none:=by unfold if_;rw[h];rfl
theorem if_n2 {op:Int}{wd:Bool}{a b:Fa}(h1:ok a=true)(h:ok b=false):if_ op wd a b=none:=by unfold if_;rw[h1,h];rfl
theorem if_kk {op:Int}{wd:Bool}{a b:Fa}{p q:BitVec 64}(h1:ok a=true)(h2:ok b=true)(h3:known a=some p)(h4:known b=some q) :
 if_ op wd a b=if Cond.is op wd p q=some true then some (a,b) else none:=by
 unfold if_;rw[h1,h2,h3,h4];rfl
theorem if_k {op:Int}{wd:Bool}{a b:Fa}(h1:ok a=true)(h2:ok b=true)(h:known a=none∨known b=none):if_ op wd a b=if' op wd a b:=by
 unfold if_;rw[h1,h2];rcases h with h|h
 · rw[h];rfl
 · rw[h];cases known a<;>rfl
theorem if_hi {op:Int}{a b:Fa}(h:decide (4294967296#64≤Sp.mx a.s.hi b.s.hi)=true):if' op false a b=some (a,b):=by
 have h:=of_decide_eq_true h;rw[BitVec.le_def,Sp.mx_nat] at h
 have hc:4294967296#64≤a.s.hi∨4294967296#64≤b.s.hi:=by
  rw[BitVec.le_def,BitVec.le_def];omega
 unfold if';exact if_pos ⟨rfl,hc⟩
theorem if_lo {op:Int}{wd:Bool}{a b:Fa}(h:wd=true∨decide (4294967296#64≤Sp.mx a.s.hi b.s.hi)=false) :
 if' op wd a b=if op=16 then (if Tn.meetOk a.t b.t then ranges op ⟨Tn.meet a.t b.t,a.s⟩ ⟨Tn.meet a.t b.t,b.s⟩ else none) else ranges op a b:=by
 unfold if';rw[if_neg];rintro⟨h1,h2⟩;rcases h with h|h
 · rw[h] at h1;cases h1
 · have h:=of_decide_eq_false h
   rw[BitVec.le_def,Sp.mx_nat] at h;rw[BitVec.le_def,BitVec.le_def] at h2;omega
def Q19a (op:Int)(a b:Fa):Option Sp:=match Cond.turned op with|none=>some b.s|some k=>Sp.if_ k b.s a.s
end Fa
theorem Qx2 (op:Int)(a b:Sp)(h:a.right=false)(w:World):Calls Tryz.prog 184 #[.int .u8 op,a,b] w (RB.a w (.tuple #[((Sp.if_ (op) a b).getD ⟨0,0⟩),.bool (Sp.if_ (op) a b).isSome])):=by
 have E:Sp.if_ op a b=none:=by unfold Sp.if_;rw[h];rfl
 rw[E];clear E;go_enter Tryz.func184,Tryz.ntmps184;go_wp2_with (go_at_call 139;refine Y34 ?_;intro w1 hb1 hc1 hf1 hz1);refine Yve ?_;simp only[results,Tryz.results184];simp[*,go_sem,↓IntWalk.iteOmega];try (first|rfl|exact⟨rfl,rfl⟩)
theorem Qx1 (op:Int)(a b:Sp)(ha:a.right=true)(h:b.right=false)(w:World):Calls Tryz.prog 184 #[.int .u8 op,a,b] w (RB.a w (.tuple #[((Sp.if_ (op) a b).getD ⟨0,0⟩),.bool (Sp.if_ (op) a b).isSome])):=by
 have E:Sp.if_ op a b=none:=by unfold Sp.if_;rw[ha,h];rfl
 rw[E];clear E;go_enter Tryz.func184,Tryz.ntmps184;go_wp2_with (go_at_call 139;refine Y34 ?_;intro w1 hb1 hc1 hf1 hz1);refine Yve ?_;simp only[results,Tryz.results184];simp[*,go_sem,↓IntWalk.iteOmega];try (first|rfl|exact⟨rfl,rfl⟩)
theorem Q12x (a b:Sp)(ha:a.right=true)(hb:b.right=true)  (w:World):Calls Tryz.prog 184 #[.int .u8 16,a,b] w (RB.a w (.tuple #[((Sp.if_ (16) a b).getD ⟨0,0⟩),.bool (Sp.if_ (16) a b).isSome])):=by
 rw[Sp.if_eq ha hb];rw[(Sp.meet?_get a b).1,(Sp.meet?_get a b).2];exact Yn2
theorem Qx8 (a b:Sp)(ha:a.right=true)(hb:b.right=true)(h:(18446744073709551615#64==b.lo)=true)(w:World):Calls Tryz.prog 184 #[.int .u8 32,a,b] w (RB.a w (.tuple #[((Sp.if_ (32) a b).getD ⟨0,0⟩),.bool (Sp.if_ (32) a b).isSome])):=by
 rw[Sp.if_gt1 ha hb h];have e:Sp.without ⟨b.lo,18446744073709551615#64⟩ b.lo=none:=Sp.wo_none Y3 h;exact Ymx
theorem Qx7 (a b:Sp)(ha:a.right=true)(hb:b.right=true)(h:(18446744073709551615#64==b.lo)=false)(w:World):Calls Tryz.prog 184 #[.int .u8 32,a,b] w (RB.a w (.tuple #[((Sp.if_ (32) a b).getD ⟨0,0⟩),.bool (Sp.if_ (32) a b).isSome])):=by
 rw[Sp.if_gt2 ha hb h];rw[(Sp.meet?_get a ⟨b.lo+1#64,18446744073709551615#64⟩).1,(Sp.meet?_get a ⟨b.lo+1#64,18446744073709551615#64⟩).2];have e:Sp.without ⟨b.lo,18446744073709551615#64⟩ b.lo=some ⟨b.lo+1#64,18446744073709551615#64⟩:=Sp.wo_lo Y3 h;exact Ymx
theorem Q12w (a b:Sp)(ha:a.right=true)(hb:b.right=true)  (w:World):Calls Tryz.prog 184 #[.int .u8 48,a,b] w (RB.a w (.tuple #[((Sp.if_ (48) a b).getD ⟨0,0⟩),.bool (Sp.if_ (48) a b).isSome])):=by
 rw[Sp.if_ge ha hb];rw[(Sp.meet?_get a ⟨b.lo,18446744073709551615#64⟩).1,(Sp.meet?_get a ⟨b.lo,18446744073709551615#64⟩).2];exact Yn2
theorem Qx6 (a b:Sp)(ha:a.right=true)(hb:b.right=true)(h:(0#64==b.hi)=true)(w:World):Calls Tryz.prog 184 #[.int .u8 160,a,b] w (RB.a w (.tuple #[((Sp.if_ (160) a b).getD ⟨0,0⟩),.bool (Sp.if_ (160) a b).isSome])):=by
 rw[Sp.if_lt1 ha hb h];have e:Sp.without ⟨0#64,b.hi⟩ b.hi=none:=Sp.wo_none h Y3;exact Ymx
theorem Qx5 (a b:Sp)(ha:a.right=true)(hb:b.right=true)(h:(0#64==b.hi)=false)(w:World):Calls Tryz.prog 184 #[.int .u8 160,a,b] w (RB.a w (.tuple #[((Sp.if_ (160) a b).getD ⟨0,0⟩),.bool (Sp.if_ (160) a b).isSome])):=by
 rw[Sp.if_lt2 ha hb h];rw[(Sp.meet?_get a ⟨0,b.hi - 1#64⟩).1,(Sp.meet?_get a ⟨0,b.hi - 1#64⟩).2];have e:Sp.without ⟨0#64,b.hi⟩ b.hi=some ⟨0#64,b.hi - 1#64⟩:=Sp.wo_hi h Y3;exact Ymx
theorem Q12v (a b:Sp)(ha:a.right=true)(hb:b.right=true)  (w:World):Calls Tryz.prog 184 #[.int .u8 176,a,b] w (RB.a w (.tuple #[((Sp.if_ (176) a b).getD ⟨0,0⟩),.bool (Sp.if_ (176) a b).isSome])):=by
 rw[Sp.if_le ha hb];rw[(Sp.meet?_get a ⟨0,b.hi⟩).1,(Sp.meet?_get a ⟨0,b.hi⟩).2];exact Yn2
theorem Qx4 (a b:Sp)(ha:a.right=true)(hb:b.right=true)(h:(b.lo==b.hi)=true)(w:World):Calls Tryz.prog 184 #[.int .u8 80,a,b] w (RB.a w (.tuple #[((Sp.if_ (80) a b).getD ⟨0,0⟩),.bool (Sp.if_ (80) a b).isSome])):=by
 rw[Sp.if_ne1 ha hb h];exact Yn2
theorem Qx3 (a b:Sp)(ha:a.right=true)(hb:b.right=true)(h:(b.lo==b.hi)=false)(w:World):Calls Tryz.prog 184 #[.int .u8 80,a,b] w (RB.a w (.tuple #[((Sp.if_ (80) a b).getD ⟨0,0⟩),.bool (Sp.if_ (80) a b).isSome])):=by
 rw[Sp.if_ne2 ha hb h];exact Ylq
theorem Qiq (a b:Sp)(ha:a.right=true)(hb:b.right=true)(h:(a.hi==0#64)=true)(w:World):Calls Tryz.prog 184 #[.int .u8 64,a,b] w (RB.a w (.tuple #[((Sp.if_ (64) a b).getD ⟨0,0⟩),.bool (Sp.if_ (64) a b).isSome])):=by
 rw[Sp.if_set1 ha hb (by rw[h];rfl)];exact Yn2
theorem Qip (a b:Sp)(ha:a.right=true)(hb:b.right=true)(h:(a.hi==0#64)=false)(h':(b.hi==0#64)=true)(w:World):Calls Tryz.prog 184 #[.int .u8 64,a,b] w (RB.a w (.tuple #[((Sp.if_ (64) a b).getD ⟨0,0⟩),.bool (Sp.if_ (64) a b).isSome])):=by
 rw[Sp.if_set1 ha hb (by rw[h,h'];rfl)];exact Yn2
theorem Qpt (a b:Sp)(ha:a.right=true)(hb:b.right=true)(h:(a.hi==0#64)=false)(h':(b.hi==0#64)=false)(w:World):Calls Tryz.prog 184 #[.int .u8 64,a,b] w (RB.a w (.tuple #[((Sp.if_ (64) a b).getD ⟨0,0⟩),.bool (Sp.if_ (64) a b).isSome])):=by
 rw[Sp.if_set2 ha hb (by rw[h,h'];rfl)];exact Ylq
theorem Qpu (op:Int)(a b:Sp)(ha:a.right=true)(hb:b.right=true)(n16:¬ op=16)(n32:¬ op=32)(n48:¬ op=48)(n160:¬ op=160)(n176:¬ op=176)(n80:¬ op=80)(n64:¬ op=64)(w:World):Calls Tryz.prog 184 #[.int .u8 op,a,b] w (RB.a w (.tuple #[((Sp.if_ (op) a b).getD ⟨0,0⟩),.bool (Sp.if_ (op) a b).isSome])):=by
 rw[Sp.if_else ha hb op n16 n32 n48 n160 n176 n80 n64];exact Ylq
theorem Q16t (op:Int)(a b:Sp)(w:World):Calls Tryz.prog 184 #[.int .u8 op,a,b] w (RB.a w (.tuple #[((Sp.if_ (op) a b).getD ⟨0,0⟩),.bool (Sp.if_ (op) a b).isSome])):=by
 cases ha:a.right
 · exact Qx2 op a b ha w
 cases hb:b.right
 · exact Qx1 op a b ha hb w
 by_cases n16:op=16
 · subst n16;exact Q12x a b ha hb w
 by_cases n48:op=48
 · subst n48;exact Q12w a b ha hb w
 by_cases n176:op=176
 · subst n176;exact Q12v a b ha hb w
 by_cases n32:op=32
 · subst n32
   cases h:(18446744073709551615#64==b.lo)
   · exact Qx7 a b ha hb h w
   · exact Qx8 a b ha hb h w
 by_cases n160:op=160
 · subst n160
   cases h:(0#64==b.hi)
   · exact Qx5 a b ha hb h w
   · exact Qx6 a b ha hb h w
 by_cases n80:op=80
 · subst n80
   cases h:(b.lo==b.hi)
   · exact Qx3 a b ha hb h w
   · exact Qx4 a b ha hb h w
 by_cases n64:op=64
 · subst n64
   cases h:(a.hi==0#64)
   · cases h':(b.hi==0#64)
     · exact Qpt a b ha hb h h' w
     · exact Qip a b ha hb h h' w
   · exact Qiq a b ha hb h w
 exact Qpu op a b ha hb n16 n32 n48 n160 n176 n80 n64 w
theorem Q12y (x0:Int)(x1 y1:BitVec 64)(x2 y2:BitVec 64)(w:World):Calls Tryz.prog 184 #[.int .u8 x0,(W2.a x1 y1),(W2.a x2 y2)] w (RB.a w (.tuple #[((Sp.if_ x0 (⟨x1,y1⟩:Sp) (⟨x2,y2⟩:Sp)).getD ⟨0,0⟩),.bool (Sp.if_ x0 (⟨x1,y1⟩:Sp) (⟨x2,y2⟩:Sp)).isSome])):=by
 exact Q16t x0 (⟨x1,y1⟩:Sp) (⟨x2,y2⟩:Sp) w
end Hk
