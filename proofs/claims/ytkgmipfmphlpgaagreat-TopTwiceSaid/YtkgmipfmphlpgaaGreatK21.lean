/- A part of TopTwice's proof; no condition. -/
import Derived.Test.YtkgmipfmphlpgaaGreatK13
import Derived.Test.YtkgmipfmphlpgaaGreatKA
open Go Go.RowKit Go.Proofs
set_option linter.all false
set_option maxRecDepth 100000
set_option maxHeartbeats 20000000
namespace Hk
theorem Qxd (op:Int)(a b:Sp)(h:a.right=false)(w:World):Calls Tryz.prog 182 #[.int .u8 op,a,b] w (RB.a w ((Sp.do_ (op) a b))):=by
 have E:Sp.do_ op a b=⟨0,0⟩:=by unfold Sp.do_;rw[h];rfl
 rw[E];clear E;go_enter Tryz.func182,Tryz.ntmps182;go_wp2_with (go_at_call 139;refine Y34 ?_;intro w1 hb1 hc1 hf1 hz1);refine Yve ?_;simp only[results,Tryz.results182];simp[*,go_sem,↓IntWalk.iteOmega];try (first|rfl|exact⟨rfl,rfl⟩)
theorem Qxc (op:Int)(a b:Sp)(ha:a.right=true)(h:b.right=false)(w:World):Calls Tryz.prog 182 #[.int .u8 op,a,b] w (RB.a w ((Sp.do_ (op) a b))):=by
 have E:Sp.do_ op a b=⟨0,0⟩:=by unfold Sp.do_;rw[ha,h];rfl
 rw[E];clear E;go_enter Tryz.func182,Tryz.ntmps182;go_wp2_with (go_at_call 139;refine Y34 ?_;intro w1 hb1 hc1 hf1 hz1);refine Yve ?_;simp only[results,Tryz.results182];simp[*,go_sem,↓IntWalk.iteOmega];try (first|rfl|exact⟨rfl,rfl⟩)
theorem Qq9 (a b:Sp)(ha:a.right=true)(hb:b.right=true)(h:(Sp.over a.hi b.hi==0#64)=true)(w:World):Calls Tryz.prog 182 #[.int .u8 0,a,b] w (RB.a w ((Sp.do_ (0) a b))):=by
 rw[Sp.do_add1 ha hb h];exact Yn1
theorem Qq8 (a b:Sp)(ha:a.right=true)(hb:b.right=true)(h:(Sp.over a.hi b.hi==0#64)=false)(w:World):Calls Tryz.prog 182 #[.int .u8 0,a,b] w (RB.a w ((Sp.do_ (0) a b))):=by
 rw[Sp.do_add2 ha hb h];exact Yn1
theorem Qq2 (a b:Sp)(ha:a.right=true)(hb:b.right=true)(h:(Sp.mulHi a.hi b.hi==0#64)=true)(w:World):Calls Tryz.prog 182 #[.int .u8 32,a,b] w (RB.a w ((Sp.do_ (32) a b))):=by
 rw[Sp.do_mul1 ha hb h];exact Ymn
theorem Qq1 (a b:Sp)(ha:a.right=true)(hb:b.right=true)(h:(Sp.mulHi a.hi b.hi==0#64)=false)(w:World):Calls Tryz.prog 182 #[.int .u8 32,a,b] w (RB.a w ((Sp.do_ (32) a b))):=by
 rw[Sp.do_mul2 ha hb h];exact Ymn
theorem Qpy (a b:Sp)(ha:a.right=true)(hb:b.right=true)(h:decide (b.hi≤a.lo)=true)(w:World):Calls Tryz.prog 182 #[.int .u8 16,a,b] w (RB.a w ((Sp.do_ (16) a b))):=by
 rw[Sp.do_sub1 ha hb h];exact Yn1
theorem Qpx (a b:Sp)(ha:a.right=true)(hb:b.right=true)(h:decide (b.hi≤a.lo)=false)(w:World):Calls Tryz.prog 182 #[.int .u8 16,a,b] w (RB.a w ((Sp.do_ (16) a b))):=by
 rw[Sp.do_sub2 ha hb h];exact Yn1
theorem Qxe (a b:Sp)(ha:a.right=true)(hb:b.right=true)  (w:World):Calls Tryz.prog 182 #[.int .u8 80,a,b] w (RB.a w ((Sp.do_ (80) a b))):=by
 rw[Sp.do_and ha hb];exact Yn1
theorem Qq7 (a b:Sp)(ha:a.right=true)(hb:b.right=true)(h:decide (0#64<b.lo)=true)(w:World):Calls Tryz.prog 182 #[.int .u8 48,a,b] w (RB.a w ((Sp.do_ (48) a b))):=by
 rw[Sp.do_div1 ha hb h];obtain⟨d1,d2⟩:=Sp.div_pos hb h;go_enter Tryz.func182,Tryz.ntmps182;go_wp2_with ((with_reducible apply ic);refine Ybt ?_;intro w1 hb1 hc1 hf1 hz1)
 go_region
 go_wp2;refine Yve ?_;simp only[results,Tryz.results182];simp[*,go_sem,↓IntWalk.iteOmega];try (first|rfl|exact⟨rfl,rfl⟩)
theorem Qq6 (a b:Sp)(ha:a.right=true)(hb:b.right=true)(h:decide (0#64<b.lo)=false)(w:World):Calls Tryz.prog 182 #[.int .u8 48,a,b] w (RB.a w ((Sp.do_ (48) a b))):=by
 rw[Sp.do_div2 ha hb h];exact Yn1
theorem Qq4 (a b:Sp)(ha:a.right=true)(hb:b.right=true)(h:decide (0#64<b.lo)=true)(w:World):Calls Tryz.prog 182 #[.int .u8 144,a,b] w (RB.a w ((Sp.do_ (144) a b))):=by
 rw[Sp.do_mod1 ha hb h];exact Yn1
theorem Qq3 (a b:Sp)(ha:a.right=true)(hb:b.right=true)(h:decide (0#64<b.lo)=false)(w:World):Calls Tryz.prog 182 #[.int .u8 144,a,b] w (RB.a w ((Sp.do_ (144) a b))):=by
 rw[Sp.do_mod2 ha hb h];exact Yn1
theorem Qq0 (a b:Sp)(ha:a.right=true)(hb:b.right=true)(h:decide (b.hi<64#64)=true)(w:World):Calls Tryz.prog 182 #[.int .u8 112,a,b] w (RB.a w ((Sp.do_ (112) a b))):=by
 rw[Sp.do_rsh1 ha hb h];exact Yn1
theorem Qpz (a b:Sp)(ha:a.right=true)(hb:b.right=true)(h:decide (b.hi<64#64)=false)(w:World):Calls Tryz.prog 182 #[.int .u8 112,a,b] w (RB.a w ((Sp.do_ (112) a b))):=by
 rw[Sp.do_rsh2 ha hb h];exact Yn1
theorem Qq5 (op:Int)(a b:Sp)(ha:a.right=true)(hb:b.right=true)(n0:¬ op=0)(n32:¬ op=32)(n16:¬ op=16)(n80:¬ op=80)(n48:¬ op=48)(n144:¬ op=144)(n112:¬ op=112)(w:World):Calls Tryz.prog 182 #[.int .u8 op,a,b] w (RB.a w ((Sp.do_ (op) a b))):=by
 rw[Sp.do_else ha hb op n0 n32 n16 n80 n48 n144 n112];exact Yn1
theorem Q16u (op:Int)(a b:Sp)(w:World):Calls Tryz.prog 182 #[.int .u8 op,a,b] w (RB.a w ((Sp.do_ (op) a b))):=by
 cases ha:a.right
 · exact Qxd op a b ha w
 cases hb:b.right
 · exact Qxc op a b ha hb w
 by_cases n0:op=0
 · subst n0
   cases h:(Sp.over a.hi b.hi==0#64)
   · exact Qq8 a b ha hb h w
   · exact Qq9 a b ha hb h w
 by_cases n32:op=32
 · subst n32
   cases h:(Sp.mulHi a.hi b.hi==0#64)
   · exact Qq1 a b ha hb h w
   · exact Qq2 a b ha hb h w
 by_cases n16:op=16
 · subst n16
   cases h:decide (b.hi≤a.lo)
   · exact Qpx a b ha hb h w
   · exact Qpy a b ha hb h w
 by_cases n48:op=48
 · subst n48
   cases h:decide (0#64<b.lo)
   · exact Qq6 a b ha hb h w
   · exact Qq7 a b ha hb h w
 by_cases n144:op=144
 · subst n144
   cases h:decide (0#64<b.lo)
   · exact Qq3 a b ha hb h w
   · exact Qq4 a b ha hb h w
 by_cases n112:op=112
 · subst n112
   cases h:decide (b.hi<64#64)
   · exact Qpz a b ha hb h w
   · exact Qq0 a b ha hb h w
 by_cases n80:op=80
 · subst n80;exact Qxe a b ha hb w
 exact Qq5 op a b ha hb n0 n32 n16 n80 n48 n144 n112 w
theorem Q131 (x0:Int)(x1 y1:BitVec 64)(x2 y2:BitVec 64)(w:World):Calls Tryz.prog 182 #[.int .u8 x0,(W2.a x1 y1),(W2.a x2 y2)] w (RB.a w ((Sp.do_ x0 (⟨x1,y1⟩:Sp) (⟨x2,y2⟩:Sp)))):=by
 exact Q16u x0 (⟨x1,y1⟩:Sp) (⟨x2,y2⟩:Sp) w
attribute [go_sem] Alu.val_some Alu.err_some Alu.val_none Alu.err_none
@[go_sem] theorem Q17b (a b c d:Value)(w:World):Sem.run Tryz.prog (Instr.field 82 (.agg #[a,b,c,d]) 0) w=.ok (.agg #[a,b]) w:=Yc
@[go_sem] theorem Q17c (a b c d:Value)(w:World):Sem.run Tryz.prog (Instr.field 82 (.agg #[a,b,c,d]) 1) w=.ok (.agg #[c,d]) w:=Yc
def MkC (x y z:Fa)(t:Tn)(w wT:World)(w':World):Prop:=CFa.a w' w.heap.size x (CFa.a w' (w.heap.size+1) y (CFa.a w' (w.heap.size+1+1) z (CTn.a w' wT.heap.size t ((∀ i,w'.frozen? ⟨w.heap.size+1+1,i,none⟩=false)∧Below w.heap.size w w'))))
theorem Que {x y z:Fa}{t:Tn}{w wT:World}:KC (MkC x y z t w wT):=by
 intro w' w1 h hb;obtain⟨k0,k1,k2,k3,k4,k5,k6,k7,k8,k9,k10,k11,k12,k13,k14,k15⟩:=h;exact⟨Q0 hb k0,Q0 hb k1,Q0 hb k2,Q0 hb k3,Q0 hb k4,Q0 hb k5,Q0 hb k6,Q0 hb k7,Q0 hb k8,Q0 hb k9,Q0 hb k10,Q0 hb k11,Q0 hb k12,Q0 hb k13,Q7 hb k8 k14,Q8 k15 hb⟩
theorem Qxy (op off:Int)(wd:Bool)(x y:Fa)(p q:BitVec 64)(hx:Fa.known x=some p)(hy:Fa.known y=some q)(w:World):Calls Tryz.prog 150 #[.int .u8 op,.bool wd,.int .i16 off,x,y] w (RB.a w ((Fa.makes op wd off x y))):=by
 rw[Fa.makes_both hx hy];exact Ym4
theorem Qqw (op off:Int)(wd:Bool)(x y:Fa)(hx:Fa.known x=none)(h:¬ off=0)(w:World):Calls Tryz.prog 150 #[.int .u8 op,.bool wd,.int .i16 off,x,y] w (RB.a w ((Fa.makes op wd off x y))):=by
 rw[Fa.mk_off (.inl hx) h];exact Ym4
theorem Qqz (wd:Bool)(x y:Fa)(hx:Fa.known x=none)(w:World):Calls Tryz.prog 150 #[.int .u8 176,.bool wd,.int .i16 0,x,y] w (RB.a w ((Fa.makes 176 wd 0 x y))):=by
 rw[Fa.mk_mov (.inl hx)];exact Ym5
theorem Qjp (op:Int)(wd:Bool)(x y:Fa)(hx:Fa.known x=none)(n176:¬ op=176)(n0:¬ op=0)(n16:¬ op=16)(n32:¬ op=32)(n80:¬ op=80)(n64:¬ op=64)(n160:¬ op=160)(n96:¬ op=96)(n112:¬ op=112)(n48:¬ op=48)(n144:¬ op=144)(w:World):Calls Tryz.prog 150 #[.int .u8 op,.bool wd,.int .i16 0,x,y] w (RB.a w ((Fa.makes op wd 0 x y))):=by
 rw[Fa.mk_else (.inl hx) n176 n0 n16 n32 n80 n64 n160 n96 n112 n48 n144];exact Ym6
theorem Qjx (wd:Bool)(x y:Fa)(t:Tn)(hx:Fa.known x=none)(hd:Tn.do_ 0 x.t (y).t=none)(w:World):Calls Tryz.prog 150 #[.int .u8 0,.bool wd,.int .i16 0,x,y] w (RB.a w ((Fa.makes 0 wd 0 x y))):=by
 rw[Fa.mk_add (.inl hx),Fa.plain_none hd];exact Yju
theorem Qjw (wd:Bool)(x y:Fa)(t:Tn)(hx:Fa.known x=none)(hd:Tn.do_ 0 x.t (y).t=some t)(w:World):Calls Tryz.prog 150 #[.int .u8 0,.bool wd,.int .i16 0,x,y] w (RB.a w ((Fa.makes 0 wd 0 x y))):=by
 rw[Fa.mk_add (.inl hx),Fa.plain_some hd];exact Yk2
theorem Qjf (wd:Bool)(x y:Fa)(t:Tn)(hx:Fa.known x=none)(hd:Tn.do_ 16 x.t (y).t=none)(w:World):Calls Tryz.prog 150 #[.int .u8 16,.bool wd,.int .i16 0,x,y] w (RB.a w ((Fa.makes 16 wd 0 x y))):=by
 rw[Fa.mk_sub (.inl hx),Fa.plain_none hd];exact Yjv
theorem Qje (wd:Bool)(x y:Fa)(t:Tn)(hx:Fa.known x=none)(hd:Tn.do_ 16 x.t (y).t=some t)(w:World):Calls Tryz.prog 150 #[.int .u8 16,.bool wd,.int .i16 0,x,y] w (RB.a w ((Fa.makes 16 wd 0 x y))):=by
 rw[Fa.mk_sub (.inl hx),Fa.plain_some hd];exact Yk3
theorem Qjl (wd:Bool)(x y:Fa)(t:Tn)(hx:Fa.known x=none)(hd:Tn.do_ 32 x.t (y).t=none)(w:World):Calls Tryz.prog 150 #[.int .u8 32,.bool wd,.int .i16 0,x,y] w (RB.a w ((Fa.makes 32 wd 0 x y))):=by
 rw[Fa.mk_mul (.inl hx),Fa.plain_none hd];exact Yjw
theorem Qjk (wd:Bool)(x y:Fa)(t:Tn)(hx:Fa.known x=none)(hd:Tn.do_ 32 x.t (y).t=some t)(w:World):Calls Tryz.prog 150 #[.int .u8 32,.bool wd,.int .i16 0,x,y] w (RB.a w ((Fa.makes 32 wd 0 x y))):=by
 rw[Fa.mk_mul (.inl hx),Fa.plain_some hd];exact Yk4
theorem Qjt (wd:Bool)(x y:Fa)(t:Tn)(hx:Fa.known x=none)(hd:Tn.do_ 80 x.t (y).t=none)(w:World):Calls Tryz.prog 150 #[.int .u8 80,.bool wd,.int .i16 0,x,y] w (RB.a w ((Fa.makes 80 wd 0 x y))):=by
 rw[Fa.mk_and (.inl hx),Fa.plain_none hd];exact Yjx
theorem Qjs (wd:Bool)(x y:Fa)(t:Tn)(hx:Fa.known x=none)(hd:Tn.do_ 80 x.t (y).t=some t)(w:World):Calls Tryz.prog 150 #[.int .u8 80,.bool wd,.int .i16 0,x,y] w (RB.a w ((Fa.makes 80 wd 0 x y))):=by
 rw[Fa.mk_and (.inl hx),Fa.plain_some hd];exact Yk5
theorem Qqu (wd:Bool)(x y:Fa)(t:Tn)(hx:Fa.known x=none)(hd:Tn.do_ 64 x.t (y).t=none)(w:World):Calls Tryz.prog 150 #[.int .u8 64,.bool wd,.int .i16 0,x,y] w (RB.a w ((Fa.makes 64 wd 0 x y))):=by
 rw[Fa.mk_or (.inl hx),Fa.plain_none hd];exact Yjy
theorem Qqt (wd:Bool)(x y:Fa)(t:Tn)(hx:Fa.known x=none)(hd:Tn.do_ 64 x.t (y).t=some t)(w:World):Calls Tryz.prog 150 #[.int .u8 64,.bool wd,.int .i16 0,x,y] w (RB.a w ((Fa.makes 64 wd 0 x y))):=by
 rw[Fa.mk_or (.inl hx),Fa.plain_some hd];exact Yk6
theorem Qjb (wd:Bool)(x y:Fa)(t:Tn)(hx:Fa.known x=none)(hd:Tn.do_ 160 x.t (y).t=none)(w:World):Calls Tryz.prog 150 #[.int .u8 160,.bool wd,.int .i16 0,x,y] w (RB.a w ((Fa.makes 160 wd 0 x y))):=by
 rw[Fa.mk_xor (.inl hx),Fa.plain_none hd];exact Yjz
theorem Qja (wd:Bool)(x y:Fa)(t:Tn)(hx:Fa.known x=none)(hd:Tn.do_ 160 x.t (y).t=some t)(w:World):Calls Tryz.prog 150 #[.int .u8 160,.bool wd,.int .i16 0,x,y] w (RB.a w ((Fa.makes 160 wd 0 x y))):=by
 rw[Fa.mk_xor (.inl hx),Fa.plain_some hd];exact Yk7
end Hk
