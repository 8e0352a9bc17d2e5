/- Package fact: makes; old memory is as it was. No condition. -/
import Derived.Test.YtmhkngblpojeaaaProg
import Derived.Test.YtmhkngblpojeaaaGp
import Derived.Test.YtmhkngblpojeaaaGf
import Derived.Test.YtmhkngblpojeaaaFa7
import Derived.Test.YtmhkngblpojeaaaFa8
import Derived.Test.YtmhkngblpojeaaaFa9
import Derived.Test.YtmhkngblpojeaaaFa10
namespace Hk
open Go Go.RowKit Go.Proofs
set_option linter.unusedSimpArgs false
set_option linter.unusedVariables false
set_option maxRecDepth 100000
attribute [go_sem] Tn.eta Alu.val_some Alu.err_some Alu.val_none Alu.err_none
theorem makes_nx (op : Int) (wd : Bool) (off : Int) (x y : Fa) (hx : Fa.known x = none) (w : World) : Calls Try.prog 42 #[.int .u8 op, .bool wd, .int .i16 off, .agg #[.int .u64 (N x.t.v), .int .u64 (N x.t.m), .int .u64 (N x.s.lo), .int .u64 (N x.s.hi)], .agg #[.int .u64 (N y.t.v), .int .u64 (N y.t.m), .int .u64 (N y.s.lo), .int .u64 (N y.s.hi)]] w fun e w' => e = .returned (.agg #[.int .u64 (N (Fa.makes op wd off x y).t.v), .int .u64 (N (Fa.makes op wd off x y).t.m), .int .u64 (N (Fa.makes op wd off x y).s.lo), .int .u64 (N (Fa.makes op wd off x y).s.hi)]) ∧ Below w.heap.size w w' := by
  by_cases h : ¬ off = 0
  · exact mk_off_a op off wd x y hx h w
  obtain rfl := Classical.not_not.1 h
  clear h
  by_cases n176 : op = 176
  · subst n176; exact mk_mov_a wd x y hx w
  by_cases n0 : op = 0
  · subst n0
    rcases hd : Tn.do_ 0 x.t y.t with _ | t
    · exact mk_add_a0 wd x y ⟨0, 0⟩ hx hd w
    · exact mk_add_a1 wd x y t hx hd w
  by_cases n16 : op = 16
  · subst n16
    rcases hd : Tn.do_ 16 x.t y.t with _ | t
    · exact mk_sub_a0 wd x y ⟨0, 0⟩ hx hd w
    · exact mk_sub_a1 wd x y t hx hd w
  by_cases n32 : op = 32
  · subst n32
    rcases hd : Tn.do_ 32 x.t y.t with _ | t
    · exact mk_mul_a0 wd x y ⟨0, 0⟩ hx hd w
    · exact mk_mul_a1 wd x y t hx hd w
  by_cases n80 : op = 80
  · subst n80
    rcases hd : Tn.do_ 80 x.t y.t with _ | t
    · exact mk_and_a0 wd x y ⟨0, 0⟩ hx hd w
    · exact mk_and_a1 wd x y t hx hd w
  by_cases n64 : op = 64
  · subst n64
    rcases hd : Tn.do_ 64 x.t y.t with _ | t
    · exact mk_or_a0 wd x y ⟨0, 0⟩ hx hd w
    · exact mk_or_a1 wd x y t hx hd w
  by_cases n160 : op = 160
  · subst n160
    rcases hd : Tn.do_ 160 x.t y.t with _ | t
    · exact mk_xor_a0 wd x y ⟨0, 0⟩ hx hd w
    · exact mk_xor_a1 wd x y t hx hd w
  by_cases n96 : op = 96
  · subst n96
    rcases hy : Fa.known y with _ | q
    · exact mk_lsh0_a wd x y hx hy w
    · cases wd
      · rcases hd : Tn.do_ 96 x.t (Fa.of (q &&& 31#64)).t with _ | t
        · exact mk_lsh1_f0 x y ⟨0, 0⟩ q hx hy hd w
        · exact mk_lsh1_f1 x y t q hx hy hd w
      · rcases hd : Tn.do_ 96 x.t (Fa.of (q &&& 63#64)).t with _ | t
        · exact mk_lsh1_t0 x y ⟨0, 0⟩ q hx hy hd w
        · exact mk_lsh1_t1 x y t q hx hy hd w
  by_cases n112 : op = 112
  · subst n112
    rcases hy : Fa.known y with _ | q
    · exact mk_rsh0_a wd x y hx hy w
    · cases wd
      · rcases hd : Tn.do_ 112 x.t (Fa.of (q &&& 31#64)).t with _ | t
        · exact mk_rsh1_f0 x y ⟨0, 0⟩ q hx hy hd w
        · exact mk_rsh1_f1 x y t q hx hy hd w
      · rcases hd : Tn.do_ 112 x.t (Fa.of (q &&& 63#64)).t with _ | t
        · exact mk_rsh1_t0 x y ⟨0, 0⟩ q hx hy hd w
        · exact mk_rsh1_t1 x y t q hx hy hd w
  by_cases n48 : op = 48
  · subst n48
    rcases hy : Fa.known y with _ | q
    · rcases hd : Tn.do_ 48 x.t y.t with _ | t
      · exact mk_div0_a0 wd x y ⟨0, 0⟩ hx hy hd w
      · exact mk_div0_a1 wd x y t hx hy hd w
    · cases hq : (q == 0#64)
      · rcases hd : Tn.do_ 48 x.t y.t with _ | t
        · exact mk_div0_c0 wd x y ⟨0, 0⟩ q hx hy hq hd w
        · exact mk_div0_c1 wd x y t q hx hy hq hd w
      · obtain rfl : q = 0#64 := by simpa using hq
        exact mk_div1 wd x y hx hy w
  by_cases n144 : op = 144
  · subst n144
    rcases hy : Fa.known y with _ | q
    · rcases hd : Tn.do_ 144 x.t y.t with _ | t
      · exact mk_mod0_a0 wd x y ⟨0, 0⟩ hx hy hd w
      · exact mk_mod0_a1 wd x y t hx hy hd w
    · cases hq : (q == 0#64)
      · rcases hd : Tn.do_ 144 x.t y.t with _ | t
        · exact mk_mod0_c0 wd x y ⟨0, 0⟩ q hx hy hq hd w
        · exact mk_mod0_c1 wd x y t q hx hy hq hd w
      · obtain rfl : q = 0#64 := by simpa using hq
        exact mk_mod1 wd x y hx hy w
  exact mk_else_a op wd x y hx n176 n0 n16 n32 n80 n64 n160 n96 n112 n48 n144 w

theorem makes_ny (op : Int) (wd : Bool) (off : Int) (x y : Fa) (p : BitVec 64) (hx : Fa.known x = some p) (hy : Fa.known y = none) (w : World) : Calls Try.prog 42 #[.int .u8 op, .bool wd, .int .i16 off, .agg #[.int .u64 (N x.t.v), .int .u64 (N x.t.m), .int .u64 (N x.s.lo), .int .u64 (N x.s.hi)], .agg #[.int .u64 (N y.t.v), .int .u64 (N y.t.m), .int .u64 (N y.s.lo), .int .u64 (N y.s.hi)]] w fun e w' => e = .returned (.agg #[.int .u64 (N (Fa.makes op wd off x y).t.v), .int .u64 (N (Fa.makes op wd off x y).t.m), .int .u64 (N (Fa.makes op wd off x y).s.lo), .int .u64 (N (Fa.makes op wd off x y).s.hi)]) ∧ Below w.heap.size w w' := by
  by_cases h : ¬ off = 0
  · exact mk_off_b op off wd x y p hx hy h w
  obtain rfl := Classical.not_not.1 h
  clear h
  by_cases n176 : op = 176
  · subst n176; exact mk_mov_b wd x y p hx hy w
  by_cases n0 : op = 0
  · subst n0
    rcases hd : Tn.do_ 0 x.t y.t with _ | t
    · exact mk_add_b0 wd x y ⟨0, 0⟩ p hx hy hd w
    · exact mk_add_b1 wd x y t p hx hy hd w
  by_cases n16 : op = 16
  · subst n16
    rcases hd : Tn.do_ 16 x.t y.t with _ | t
    · exact mk_sub_b0 wd x y ⟨0, 0⟩ p hx hy hd w
    · exact mk_sub_b1 wd x y t p hx hy hd w
  by_cases n32 : op = 32
  · subst n32
    rcases hd : Tn.do_ 32 x.t y.t with _ | t
    · exact mk_mul_b0 wd x y ⟨0, 0⟩ p hx hy hd w
    · exact mk_mul_b1 wd x y t p hx hy hd w
  by_cases n80 : op = 80
  · subst n80
    rcases hd : Tn.do_ 80 x.t y.t with _ | t
    · exact mk_and_b0 wd x y ⟨0, 0⟩ p hx hy hd w
    · exact mk_and_b1 wd x y t p hx hy hd w
  by_cases n64 : op = 64
  · subst n64
    rcases hd : Tn.do_ 64 x.t y.t with _ | t
    · exact mk_or_b0 wd x y ⟨0, 0⟩ p hx hy hd w
    · exact mk_or_b1 wd x y t p hx hy hd w
  by_cases n160 : op = 160
  · subst n160
    rcases hd : Tn.do_ 160 x.t y.t with _ | t
    · exact mk_xor_b0 wd x y ⟨0, 0⟩ p hx hy hd w
    · exact mk_xor_b1 wd x y t p hx hy hd w
  by_cases n48 : op = 48
  · subst n48
    rcases hd : Tn.do_ 48 x.t y.t with _ | t
    · exact mk_div0_b0 wd x y ⟨0, 0⟩ p hx hy hd w
    · exact mk_div0_b1 wd x y t p hx hy hd w
  by_cases n144 : op = 144
  · subst n144
    rcases hd : Tn.do_ 144 x.t y.t with _ | t
    · exact mk_mod0_b0 wd x y ⟨0, 0⟩ p hx hy hd w
    · exact mk_mod0_b1 wd x y t p hx hy hd w
  by_cases n96 : op = 96
  · subst n96; exact mk_lsh0_b wd x y p hx hy w
  by_cases n112 : op = 112
  · subst n112; exact mk_rsh0_b wd x y p hx hy w
  exact mk_else_b op wd x y p hx hy n176 n0 n16 n32 n80 n64 n160 n96 n112 n48 n144 w

theorem makes_c (op : Int) (wd : Bool) (off : Int) (x y : Fa) (w : World) : Calls Try.prog 42 #[.int .u8 op, .bool wd, .int .i16 off, .agg #[.int .u64 (N x.t.v), .int .u64 (N x.t.m), .int .u64 (N x.s.lo), .int .u64 (N x.s.hi)], .agg #[.int .u64 (N y.t.v), .int .u64 (N y.t.m), .int .u64 (N y.s.lo), .int .u64 (N y.s.hi)]] w fun e w' => e = .returned (.agg #[.int .u64 (N (Fa.makes op wd off x y).t.v), .int .u64 (N (Fa.makes op wd off x y).t.m), .int .u64 (N (Fa.makes op wd off x y).s.lo), .int .u64 (N (Fa.makes op wd off x y).s.hi)]) ∧ Below w.heap.size w w' := by
  rcases hx : Fa.known x with _ | p
  · exact makes_nx op wd off x y hx w
  · rcases hy : Fa.known y with _ | q
    · exact makes_ny op wd off x y p hx hy w
    · exact mk_both op off wd x y p q hx hy w

theorem makes_c' (x0 : Int) (x1 : Bool) (x2 : Int) (x3 y3 z3 u3 : BitVec 64) (x4 y4 z4 u4 : BitVec 64) (w : World) : Calls Try.prog 42 #[.int .u8 x0, .bool x1, .int .i16 x2, .agg #[.int .u64 (N x3), .int .u64 (N y3), .int .u64 (N z3), .int .u64 (N u3)], .agg #[.int .u64 (N x4), .int .u64 (N y4), .int .u64 (N z4), .int .u64 (N u4)]] w fun e w' => e = .returned (.agg #[.int .u64 (N (Fa.makes x0 x1 x2 (⟨⟨x3, y3⟩, ⟨z3, u3⟩⟩ : Fa) (⟨⟨x4, y4⟩, ⟨z4, u4⟩⟩ : Fa)).t.v), .int .u64 (N (Fa.makes x0 x1 x2 (⟨⟨x3, y3⟩, ⟨z3, u3⟩⟩ : Fa) (⟨⟨x4, y4⟩, ⟨z4, u4⟩⟩ : Fa)).t.m), .int .u64 (N (Fa.makes x0 x1 x2 (⟨⟨x3, y3⟩, ⟨z3, u3⟩⟩ : Fa) (⟨⟨x4, y4⟩, ⟨z4, u4⟩⟩ : Fa)).s.lo), .int .u64 (N (Fa.makes x0 x1 x2 (⟨⟨x3, y3⟩, ⟨z3, u3⟩⟩ : Fa) (⟨⟨x4, y4⟩, ⟨z4, u4⟩⟩ : Fa)).s.hi)]) ∧ Below w.heap.size w w' := by
  exact makes_c x0 x1 x2 (⟨⟨x3, y3⟩, ⟨z3, u3⟩⟩ : Fa) (⟨⟨x4, y4⟩, ⟨z4, u4⟩⟩ : Fa) w

end Hk
