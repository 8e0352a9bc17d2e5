/- The reference of facts: wide, Do; old memory is as it was. No condition but those in each statement. -/
import Derived.Test.YtmhkngblpojeaaaProg
import Derived.Test.YtmhkngblpojeaaaGp
import Derived.Test.YtmhkngblpojeaaaGf
import Derived.Test.YtmhkngblpojeaaaFa7
import Derived.Test.YtmhkngblpojeaaaFr5
import Derived.Test.YtmhkngblpojeaaaSr2
import Derived.Test.YtmhkngblpojeaaaRc5
import Derived.Test.YtmhkngblpojeaaaGl
import Derived.Deep.DeepCutAuto
import Derived.Test.YtmhkngblpojeaaaFr7
import Derived.Test.YtmhkngblpojeaaaFr8
import Derived.Test.YtmhkngblpojeaaaFr9
import Derived.Test.YtmhkngblpojeaaaFr10
import Derived.Test.YtmhkngblpojeaaaFr11
namespace Hk
open Go Go.RowKit Go.Proofs
set_option linter.unusedSimpArgs false
set_option linter.unusedVariables false
set_option maxRecDepth 100000
attribute [go_sem] Tn.eta Alu.val_some Alu.err_some Alu.val_none Alu.err_none
theorem wide_n (op : Int) (nw : Bool) (off : Int) (x y : Fa) (hx : Fa.known x = none) (hy : Fa.known y = none) (hof : off = 0 ∨ op = 176 ∨ op = 48 ∨ op = 144) (w : World) : Calls Try.prog 43 #[.int .u8 op, .bool nw, .int .i16 off, .agg #[.int .u64 (N x.t.v), .int .u64 (N x.t.m), .int .u64 (N x.s.lo), .int .u64 (N x.s.hi)], .agg #[.int .u64 (N y.t.v), .int .u64 (N y.t.m), .int .u64 (N y.s.lo), .int .u64 (N y.s.hi)]] w fun e w' => e = .returned (.agg #[.int .u64 (N (Fa.makes op (!nw) off x y).t.v), .int .u64 (N (Fa.makes op (!nw) off x y).t.m), .int .u64 (N (Fa.makes op (!nw) off x y).s.lo), .int .u64 (N (Fa.makes op (!nw) off x y).s.hi)]) ∧ Below w.heap.size w w' := by
  by_cases h : ¬ off = 0
  · obtain h' | rfl | rfl | rfl := hof
    · exact absurd h' h
    · exact wd_off176_n off nw x y hx hy h w
    · exact wd_off48_n off nw x y hx hy h w
    · exact wd_off144_n off nw x y hx hy h w
  obtain rfl := Classical.not_not.1 h
  clear h hof
  by_cases n176 : op = 176
  · subst n176; exact wd_mov_n nw x y hx hy w
  by_cases n0 : op = 0
  · subst n0
    rcases hd : Tn.do_ 0 x.t y.t with _ | t
    · exact wd_add_n0 nw x y ⟨0, 0⟩ hx hy hd w
    · exact wd_add_n1 nw x y t hx hy hd w
  by_cases n16 : op = 16
  · subst n16
    rcases hd : Tn.do_ 16 x.t y.t with _ | t
    · exact wd_sub_n0 nw x y ⟨0, 0⟩ hx hy hd w
    · exact wd_sub_n1 nw x y t hx hy hd w
  by_cases n32 : op = 32
  · subst n32
    rcases hd : Tn.do_ 32 x.t y.t with _ | t
    · exact wd_mul_n0 nw x y ⟨0, 0⟩ hx hy hd w
    · exact wd_mul_n1 nw x y t hx hy hd w
  by_cases n80 : op = 80
  · subst n80
    rcases hd : Tn.do_ 80 x.t y.t with _ | t
    · exact wd_and_n0 nw x y ⟨0, 0⟩ hx hy hd w
    · exact wd_and_n1 nw x y t hx hy hd w
  by_cases n64 : op = 64
  · subst n64
    rcases hd : Tn.do_ 64 x.t y.t with _ | t
    · exact wd_or_n0 nw x y ⟨0, 0⟩ hx hy hd w
    · exact wd_or_n1 nw x y t hx hy hd w
  by_cases n160 : op = 160
  · subst n160
    rcases hd : Tn.do_ 160 x.t y.t with _ | t
    · exact wd_xor_n0 nw x y ⟨0, 0⟩ hx hy hd w
    · exact wd_xor_n1 nw x y t hx hy hd w
  by_cases n96 : op = 96
  · subst n96
    exact wd_lsh0_n nw x y hx hy w
  by_cases n112 : op = 112
  · subst n112
    exact wd_rsh0_n nw x y hx hy w
  by_cases n48 : op = 48
  · subst n48
    rcases hd : Tn.do_ 48 x.t y.t with _ | t
    · exact wd_div0_a0 nw x y ⟨0, 0⟩ hx hy hd w
    · exact wd_div0_a1 nw x y t hx hy hd w
  by_cases n144 : op = 144
  · subst n144
    rcases hd : Tn.do_ 144 x.t y.t with _ | t
    · exact wd_mod0_a0 nw x y ⟨0, 0⟩ hx hy hd w
    · exact wd_mod0_a1 nw x y t hx hy hd w
  exact wd_else_n op nw x y hx hy n176 n0 n16 n32 n80 n64 n160 n96 n112 n48 n144 w

theorem wide_b (op : Int) (nw : Bool) (off : Int) (x y : Fa) (p : BitVec 64) (hx : Fa.known x = some p) (hy : Fa.known y = none) (hof : off = 0 ∨ op = 176 ∨ op = 48 ∨ op = 144) (w : World) : Calls Try.prog 43 #[.int .u8 op, .bool nw, .int .i16 off, .agg #[.int .u64 (N x.t.v), .int .u64 (N x.t.m), .int .u64 (N x.s.lo), .int .u64 (N x.s.hi)], .agg #[.int .u64 (N y.t.v), .int .u64 (N y.t.m), .int .u64 (N y.s.lo), .int .u64 (N y.s.hi)]] w fun e w' => e = .returned (.agg #[.int .u64 (N (Fa.makes op (!nw) off x y).t.v), .int .u64 (N (Fa.makes op (!nw) off x y).t.m), .int .u64 (N (Fa.makes op (!nw) off x y).s.lo), .int .u64 (N (Fa.makes op (!nw) off x y).s.hi)]) ∧ Below w.heap.size w w' := by
  by_cases h : ¬ off = 0
  · obtain h' | rfl | rfl | rfl := hof
    · exact absurd h' h
    · exact wd_off176_b off nw x y p hx hy h w
    · exact wd_off48_b off nw x y p hx hy h w
    · exact wd_off144_b off nw x y p hx hy h w
  obtain rfl := Classical.not_not.1 h
  clear h hof
  by_cases n176 : op = 176
  · subst n176; exact wd_mov_b nw x y p hx hy w
  by_cases n0 : op = 0
  · subst n0
    rcases hd : Tn.do_ 0 x.t y.t with _ | t
    · exact wd_add_b0 nw x y ⟨0, 0⟩ p hx hy hd w
    · exact wd_add_b1 nw x y t p hx hy hd w
  by_cases n16 : op = 16
  · subst n16
    rcases hd : Tn.do_ 16 x.t y.t with _ | t
    · exact wd_sub_b0 nw x y ⟨0, 0⟩ p hx hy hd w
    · exact wd_sub_b1 nw x y t p hx hy hd w
  by_cases n32 : op = 32
  · subst n32
    rcases hd : Tn.do_ 32 x.t y.t with _ | t
    · exact wd_mul_b0 nw x y ⟨0, 0⟩ p hx hy hd w
    · exact wd_mul_b1 nw x y t p hx hy hd w
  by_cases n80 : op = 80
  · subst n80
    rcases hd : Tn.do_ 80 x.t y.t with _ | t
    · exact wd_and_b0 nw x y ⟨0, 0⟩ p hx hy hd w
    · exact wd_and_b1 nw x y t p hx hy hd w
  by_cases n64 : op = 64
  · subst n64
    rcases hd : Tn.do_ 64 x.t y.t with _ | t
    · exact wd_or_b0 nw x y ⟨0, 0⟩ p hx hy hd w
    · exact wd_or_b1 nw x y t p hx hy hd w
  by_cases n160 : op = 160
  · subst n160
    rcases hd : Tn.do_ 160 x.t y.t with _ | t
    · exact wd_xor_b0 nw x y ⟨0, 0⟩ p hx hy hd w
    · exact wd_xor_b1 nw x y t p hx hy hd w
  by_cases n96 : op = 96
  · subst n96
    exact wd_lsh0_b nw x y p hx hy w
  by_cases n112 : op = 112
  · subst n112
    exact wd_rsh0_b nw x y p hx hy w
  by_cases n48 : op = 48
  · subst n48
    rcases hd : Tn.do_ 48 x.t y.t with _ | t
    · exact wd_div0_b0 nw x y ⟨0, 0⟩ p hx hy hd w
    · exact wd_div0_b1 nw x y t p hx hy hd w
  by_cases n144 : op = 144
  · subst n144
    rcases hd : Tn.do_ 144 x.t y.t with _ | t
    · exact wd_mod0_b0 nw x y ⟨0, 0⟩ p hx hy hd w
    · exact wd_mod0_b1 nw x y t p hx hy hd w
  exact wd_else_b op nw x y p hx hy n176 n0 n16 n32 n80 n64 n160 n96 n112 n48 n144 w

theorem wide_s (op : Int) (nw : Bool) (off : Int) (x y : Fa) (q : BitVec 64) (hx : Fa.known x = none) (hy : Fa.known y = some q) (hof : off = 0 ∨ op = 176 ∨ op = 48 ∨ op = 144) (w : World) : Calls Try.prog 43 #[.int .u8 op, .bool nw, .int .i16 off, .agg #[.int .u64 (N x.t.v), .int .u64 (N x.t.m), .int .u64 (N x.s.lo), .int .u64 (N x.s.hi)], .agg #[.int .u64 (N y.t.v), .int .u64 (N y.t.m), .int .u64 (N y.s.lo), .int .u64 (N y.s.hi)]] w fun e w' => e = .returned (.agg #[.int .u64 (N (Fa.makes op (!nw) off x y).t.v), .int .u64 (N (Fa.makes op (!nw) off x y).t.m), .int .u64 (N (Fa.makes op (!nw) off x y).s.lo), .int .u64 (N (Fa.makes op (!nw) off x y).s.hi)]) ∧ Below w.heap.size w w' := by
  by_cases h : ¬ off = 0
  · obtain h' | rfl | rfl | rfl := hof
    · exact absurd h' h
    · exact wd_off176_s off nw x y q hx hy h w
    · exact wd_off48_s off nw x y q hx hy h w
    · exact wd_off144_s off nw x y q hx hy h w
  obtain rfl := Classical.not_not.1 h
  clear h hof
  by_cases n176 : op = 176
  · subst n176; exact wd_mov_s nw x y q hx hy w
  by_cases n0 : op = 0
  · subst n0
    rcases hd : Tn.do_ 0 x.t y.t with _ | t
    · exact wd_add_s0 nw x y ⟨0, 0⟩ q hx hy hd w
    · exact wd_add_s1 nw x y t q hx hy hd w
  by_cases n16 : op = 16
  · subst n16
    rcases hd : Tn.do_ 16 x.t y.t with _ | t
    · exact wd_sub_s0 nw x y ⟨0, 0⟩ q hx hy hd w
    · exact wd_sub_s1 nw x y t q hx hy hd w
  by_cases n32 : op = 32
  · subst n32
    rcases hd : Tn.do_ 32 x.t y.t with _ | t
    · exact wd_mul_s0 nw x y ⟨0, 0⟩ q hx hy hd w
    · exact wd_mul_s1 nw x y t q hx hy hd w
  by_cases n80 : op = 80
  · subst n80
    rcases hd : Tn.do_ 80 x.t y.t with _ | t
    · exact wd_and_s0 nw x y ⟨0, 0⟩ q hx hy hd w
    · exact wd_and_s1 nw x y t q hx hy hd w
  by_cases n64 : op = 64
  · subst n64
    rcases hd : Tn.do_ 64 x.t y.t with _ | t
    · exact wd_or_s0 nw x y ⟨0, 0⟩ q hx hy hd w
    · exact wd_or_s1 nw x y t q hx hy hd w
  by_cases n160 : op = 160
  · subst n160
    rcases hd : Tn.do_ 160 x.t y.t with _ | t
    · exact wd_xor_s0 nw x y ⟨0, 0⟩ q hx hy hd w
    · exact wd_xor_s1 nw x y t q hx hy hd w
  by_cases n96 : op = 96
  · subst n96
    cases nw
    · rcases hd : Tn.do_ 96 x.t (Fa.of (q % 64#64)).t with _ | t
      · exact wd_lsh1_f0 x y ⟨0, 0⟩ q hx hy hd w
      · exact wd_lsh1_f1 x y t q hx hy hd w
    · rcases hd : Tn.do_ 96 x.t (Fa.of (q % 32#64)).t with _ | t
      · exact wd_lsh1_t0 x y ⟨0, 0⟩ q hx hy hd w
      · exact wd_lsh1_t1 x y t q hx hy hd w
  by_cases n112 : op = 112
  · subst n112
    cases nw
    · rcases hd : Tn.do_ 112 x.t (Fa.of (q % 64#64)).t with _ | t
      · exact wd_rsh1_f0 x y ⟨0, 0⟩ q hx hy hd w
      · exact wd_rsh1_f1 x y t q hx hy hd w
    · rcases hd : Tn.do_ 112 x.t (Fa.of (q % 32#64)).t with _ | t
      · exact wd_rsh1_t0 x y ⟨0, 0⟩ q hx hy hd w
      · exact wd_rsh1_t1 x y t q hx hy hd w
  by_cases n48 : op = 48
  · subst n48
    cases hq : (q == 0#64)
    · rcases hd : Tn.do_ 48 x.t y.t with _ | t
      · exact wd_div0_c0 nw x y ⟨0, 0⟩ q hx hy hq hd w
      · exact wd_div0_c1 nw x y t q hx hy hq hd w
    · obtain rfl : q = 0#64 := by simpa using hq
      exact wd_div1 nw x y hx hy w
  by_cases n144 : op = 144
  · subst n144
    cases hq : (q == 0#64)
    · rcases hd : Tn.do_ 144 x.t y.t with _ | t
      · exact wd_mod0_c0 nw x y ⟨0, 0⟩ q hx hy hq hd w
      · exact wd_mod0_c1 nw x y t q hx hy hq hd w
    · obtain rfl : q = 0#64 := by simpa using hq
      exact wd_mod1 nw x y hx hy w
  exact wd_else_s op nw x y q hx hy n176 n0 n16 n32 n80 n64 n160 n96 n112 n48 n144 w

theorem rfwide_c (op : Int) (nw : Bool) (off : Int) (x y : Fa) (hof : off = 0 ∨ op = 176 ∨ op = 48 ∨ op = 144) (w : World) : Calls Try.prog 43 #[.int .u8 op, .bool nw, .int .i16 off, .agg #[.int .u64 (N x.t.v), .int .u64 (N x.t.m), .int .u64 (N x.s.lo), .int .u64 (N x.s.hi)], .agg #[.int .u64 (N y.t.v), .int .u64 (N y.t.m), .int .u64 (N y.s.lo), .int .u64 (N y.s.hi)]] w fun e w' => e = .returned (.agg #[.int .u64 (N (Fa.makes op (!nw) off x y).t.v), .int .u64 (N (Fa.makes op (!nw) off x y).t.m), .int .u64 (N (Fa.makes op (!nw) off x y).s.lo), .int .u64 (N (Fa.makes op (!nw) off x y).s.hi)]) ∧ Below w.heap.size w w' := by
  rcases hx : Fa.known x with _ | p
  · rcases hy : Fa.known y with _ | q
    · exact wide_n op nw off x y hx hy hof w
    · exact wide_s op nw off x y q hx hy hof w
  · rcases hy : Fa.known y with _ | q
    · exact wide_b op nw off x y p hx hy hof w
    · exact wd_both op off nw x y p q hx hy w

theorem rfwide_c' (x0 : Int) (x1 : Bool) (x2 : Int) (x3 y3 z3 u3 x4 y4 z4 u4 : BitVec 64) (hof : x2 = 0 ∨ x0 = 176 ∨ x0 = 48 ∨ x0 = 144) (w : World) : Calls Try.prog 43 #[.int .u8 x0, .bool x1, .int .i16 x2, .agg #[.int .u64 (N x3), .int .u64 (N y3), .int .u64 (N z3), .int .u64 (N u3)], .agg #[.int .u64 (N x4), .int .u64 (N y4), .int .u64 (N z4), .int .u64 (N u4)]] w fun e w' => e = .returned (.agg #[.int .u64 (N (Fa.makes x0 (!x1) x2 (⟨⟨x3, y3⟩, ⟨z3, u3⟩⟩ : Fa) (⟨⟨x4, y4⟩, ⟨z4, u4⟩⟩ : Fa)).t.v), .int .u64 (N (Fa.makes x0 (!x1) x2 (⟨⟨x3, y3⟩, ⟨z3, u3⟩⟩ : Fa) (⟨⟨x4, y4⟩, ⟨z4, u4⟩⟩ : Fa)).t.m), .int .u64 (N (Fa.makes x0 (!x1) x2 (⟨⟨x3, y3⟩, ⟨z3, u3⟩⟩ : Fa) (⟨⟨x4, y4⟩, ⟨z4, u4⟩⟩ : Fa)).s.lo), .int .u64 (N (Fa.makes x0 (!x1) x2 (⟨⟨x3, y3⟩, ⟨z3, u3⟩⟩ : Fa) (⟨⟨x4, y4⟩, ⟨z4, u4⟩⟩ : Fa)).s.hi)]) ∧ Below w.heap.size w w' := by
  exact rfwide_c x0 x1 x2 (⟨⟨x3, y3⟩, ⟨z3, u3⟩⟩ : Fa) (⟨⟨x4, y4⟩, ⟨z4, u4⟩⟩ : Fa) hof w

theorem Alu.gen_hof {n : Nat} {op off : Int} {x y z : BitVec n} (h : Alu.gen n op off x y = some z) : off = 0 ∨ op = 176 ∨ op = 48 ∨ op = 144 := by
  unfold Alu.gen at h
  by_cases h0 : off = 0
  · exact .inl h0
  by_cases h1 : op = 176
  · exact .inr (.inl h1)
  by_cases h2 : op = 48
  · exact .inr (.inr (.inl h2))
  by_cases h3 : op = 144
  · exact .inr (.inr (.inr h3))
  simp [h0, h1, h2, h3] at h
theorem Alu.go_hof {op off : Int} {wd : Bool} {x y z : BitVec 64} (h : Alu.go op wd off x y = some z) : off = 0 ∨ op = 176 ∨ op = 48 ∨ op = 144 := by
  unfold Alu.go at h
  cases wd
  · simp only [Bool.false_eq_true, if_false, Option.map_eq_some_iff] at h
    obtain ⟨a, h, _⟩ := h
    exact Alu.gen_hof h
  · exact Alu.gen_hof h

set_option maxHeartbeats 1000000 in
theorem rfdo_no0 (op off : Int) (a b : Fa) (wd : Bool) (h0 : Alu.go op wd off 0#64 0#64 = none) (w : World) : Calls Try.prog 15 #[.int .u8 op, .bool wd, .int .i16 off, .agg #[.int .u64 (N a.t.v), .int .u64 (N a.t.m), .int .u64 (N a.s.lo), .int .u64 (N a.s.hi)], .agg #[.int .u64 (N b.t.v), .int .u64 (N b.t.m), .int .u64 (N b.s.lo), .int .u64 (N b.s.hi)]] w fun e w' => e = .returned (.tuple #[.agg #[.int .u64 (N ((Fa.do_ op wd off a b).getD Fa.zero).t.v), .int .u64 (N ((Fa.do_ op wd off a b).getD Fa.zero).t.m), .int .u64 (N ((Fa.do_ op wd off a b).getD Fa.zero).s.lo), .int .u64 (N ((Fa.do_ op wd off a b).getD Fa.zero).s.hi)], .int .i64 (if (Fa.do_ op wd off a b).isSome then 0 else 1)]) ∧ Below w.heap.size w w' := by
  have E : Fa.do_ op wd off a b = none := Fa.fdo_no0 h0
  rw [E]; clear E
  simp only [Option.getD_some, Option.getD_none, Option.isSome_some, Option.isSome_none, if_true, Bool.false_eq_true, if_false]
  go_enter Try.func15, Try.ntmps15
  go_wp2_with (first | (go_at_call 18; (with_reducible refine (rdo_c _ _ _ _ _ _).mono ?_); rintro e w1 ⟨rfl, hb1⟩; obtain ⟨hc1, hf1, hz1⟩ := bcell hb1; (try simp only [World.size_alloc, World.size_setCell, World.size_drew] at hc1 hf1 hz1)))
  refine bodyPost_ret ?_ rfl ⟨rfl, (by repeat' (first | (with_reducible exact Below.refl _ _) | (with_reducible assumption) | (with_reducible refine Below.alloc ?_ ?_ _) | (with_reducible refine Below.setCell ?_ ?_ _) | (with_reducible refine Below.drew ?_) | (with_reducible refine below_dn ?_ _) | (with_reducible refine Below.trans ?_ (Below.mono (by assumption) ?_)) | go_size))⟩
  simp only [results, Try.results15]; simp [*, go_sem, ↓IntWalk.iteOmega, Fa.zero]; try (first | rfl | exact ⟨rfl, rfl⟩)

set_option maxHeartbeats 1000000 in
theorem rfdo_no1 (op off : Int) (a b : Fa) (wd : Bool) (z : BitVec 64) (h0 : Alu.go op wd off 0#64 0#64 = some z) (h1 : Fa.ok a = false) (w : World) : Calls Try.prog 15 #[.int .u8 op, .bool wd, .int .i16 off, .agg #[.int .u64 (N a.t.v), .int .u64 (N a.t.m), .int .u64 (N a.s.lo), .int .u64 (N a.s.hi)], .agg #[.int .u64 (N b.t.v), .int .u64 (N b.t.m), .int .u64 (N b.s.lo), .int .u64 (N b.s.hi)]] w fun e w' => e = .returned (.tuple #[.agg #[.int .u64 (N ((Fa.do_ op wd off a b).getD Fa.zero).t.v), .int .u64 (N ((Fa.do_ op wd off a b).getD Fa.zero).t.m), .int .u64 (N ((Fa.do_ op wd off a b).getD Fa.zero).s.lo), .int .u64 (N ((Fa.do_ op wd off a b).getD Fa.zero).s.hi)], .int .i64 (if (Fa.do_ op wd off a b).isSome then 0 else 1)]) ∧ Below w.heap.size w w' := by
  have E : Fa.do_ op wd off a b = none := Fa.fdo_no1 h1
  rw [E]; clear E
  simp only [Option.getD_some, Option.getD_none, Option.isSome_some, Option.isSome_none, if_true, Bool.false_eq_true, if_false]
  go_enter Try.func15, Try.ntmps15
  go_wp2_with (first | (go_at_call 18; (with_reducible refine (rdo_c _ _ _ _ _ _).mono ?_); rintro e w1 ⟨rfl, hb1⟩; obtain ⟨hc1, hf1, hz1⟩ := bcell hb1; (try simp only [World.size_alloc, World.size_setCell, World.size_drew] at hc1 hf1 hz1)) | (go_at_call 23; (with_reducible refine (rfright_c' _ _ _ _ _).mono ?_); rintro e w1 ⟨rfl, hb1⟩; obtain ⟨hc1, hf1, hz1⟩ := bcell hb1; (try simp only [World.size_alloc, World.size_setCell, World.size_drew] at hc1 hf1 hz1)))
  refine bodyPost_ret ?_ rfl ⟨rfl, (by repeat' (first | (with_reducible exact Below.refl _ _) | (with_reducible assumption) | (with_reducible refine Below.alloc ?_ ?_ _) | (with_reducible refine Below.setCell ?_ ?_ _) | (with_reducible refine Below.drew ?_) | (with_reducible refine below_dn ?_ _) | (with_reducible refine Below.trans ?_ (Below.mono (by assumption) ?_)) | go_size))⟩
  simp only [results, Try.results15]; simp [*, go_sem, ↓IntWalk.iteOmega, Fa.zero]; try (first | rfl | exact ⟨rfl, rfl⟩)

set_option maxHeartbeats 1000000 in
theorem rfdo_no2 (op off : Int) (a b : Fa) (wd : Bool) (z : BitVec 64) (h0 : Alu.go op wd off 0#64 0#64 = some z) (h1 : Fa.ok a = true) (h2 : Fa.ok b = false) (w : World) : Calls Try.prog 15 #[.int .u8 op, .bool wd, .int .i16 off, .agg #[.int .u64 (N a.t.v), .int .u64 (N a.t.m), .int .u64 (N a.s.lo), .int .u64 (N a.s.hi)], .agg #[.int .u64 (N b.t.v), .int .u64 (N b.t.m), .int .u64 (N b.s.lo), .int .u64 (N b.s.hi)]] w fun e w' => e = .returned (.tuple #[.agg #[.int .u64 (N ((Fa.do_ op wd off a b).getD Fa.zero).t.v), .int .u64 (N ((Fa.do_ op wd off a b).getD Fa.zero).t.m), .int .u64 (N ((Fa.do_ op wd off a b).getD Fa.zero).s.lo), .int .u64 (N ((Fa.do_ op wd off a b).getD Fa.zero).s.hi)], .int .i64 (if (Fa.do_ op wd off a b).isSome then 0 else 1)]) ∧ Below w.heap.size w w' := by
  have E : Fa.do_ op wd off a b = none := Fa.fdo_no2 h2
  rw [E]; clear E
  simp only [Option.getD_some, Option.getD_none, Option.isSome_some, Option.isSome_none, if_true, Bool.false_eq_true, if_false]
  go_enter Try.func15, Try.ntmps15
  go_wp2_with (first | (go_at_call 18; (with_reducible refine (rdo_c _ _ _ _ _ _).mono ?_); rintro e w1 ⟨rfl, hb1⟩; obtain ⟨hc1, hf1, hz1⟩ := bcell hb1; (try simp only [World.size_alloc, World.size_setCell, World.size_drew] at hc1 hf1 hz1)) | (go_at_call 23; (with_reducible refine (rfright_c' _ _ _ _ _).mono ?_); rintro e w1 ⟨rfl, hb1⟩; obtain ⟨hc1, hf1, hz1⟩ := bcell hb1; (try simp only [World.size_alloc, World.size_setCell, World.size_drew] at hc1 hf1 hz1)))
  refine bodyPost_ret ?_ rfl ⟨rfl, (by repeat' (first | (with_reducible exact Below.refl _ _) | (with_reducible assumption) | (with_reducible refine Below.alloc ?_ ?_ _) | (with_reducible refine Below.setCell ?_ ?_ _) | (with_reducible refine Below.drew ?_) | (with_reducible refine below_dn ?_ _) | (with_reducible refine Below.trans ?_ (Below.mono (by assumption) ?_)) | go_size))⟩
  simp only [results, Try.results15]; simp [*, go_sem, ↓IntWalk.iteOmega, Fa.zero]; try (first | rfl | exact ⟨rfl, rfl⟩)

set_option maxHeartbeats 1000000 in
theorem rfdo_w (op off : Int) (a b : Fa) (z : BitVec 64) (h0 : Alu.go op true off 0#64 0#64 = some z) (h1 : Fa.ok a = true) (h2 : Fa.ok b = true) (w : World) : Calls Try.prog 15 #[.int .u8 op, .bool true, .int .i16 off, .agg #[.int .u64 (N a.t.v), .int .u64 (N a.t.m), .int .u64 (N a.s.lo), .int .u64 (N a.s.hi)], .agg #[.int .u64 (N b.t.v), .int .u64 (N b.t.m), .int .u64 (N b.s.lo), .int .u64 (N b.s.hi)]] w fun e w' => e = .returned (.tuple #[.agg #[.int .u64 (N ((Fa.do_ op true off a b).getD Fa.zero).t.v), .int .u64 (N ((Fa.do_ op true off a b).getD Fa.zero).t.m), .int .u64 (N ((Fa.do_ op true off a b).getD Fa.zero).s.lo), .int .u64 (N ((Fa.do_ op true off a b).getD Fa.zero).s.hi)], .int .i64 (if (Fa.do_ op true off a b).isSome then 0 else 1)]) ∧ Below w.heap.size w w' := by
  have E : Fa.do_ op true off a b = some (Fa.makes op true off a b) := Fa.fdo_w h0 h1 h2
  rw [E]; clear E
  simp only [Option.getD_some, Option.getD_none, Option.isSome_some, Option.isSome_none, if_true, Bool.false_eq_true, if_false]
  have hof := Alu.go_hof h0
  go_enter Try.func15, Try.ntmps15
  go_wp2_with (first | (go_at_call 18; (with_reducible refine (rdo_c _ _ _ _ _ _).mono ?_); rintro e w1 ⟨rfl, hb1⟩; obtain ⟨hc1, hf1, hz1⟩ := bcell hb1; (try simp only [World.size_alloc, World.size_setCell, World.size_drew] at hc1 hf1 hz1)) | (go_at_call 23; (with_reducible refine (rfright_c' _ _ _ _ _).mono ?_); rintro e w1 ⟨rfl, hb1⟩; obtain ⟨hc1, hf1, hz1⟩ := bcell hb1; (try simp only [World.size_alloc, World.size_setCell, World.size_drew] at hc1 hf1 hz1)) | (go_at_call 43; (with_reducible refine (rfwide_c' _ _ _ _ _ _ _ _ _ _ _ (by assumption) _).mono ?_); rintro e w1 ⟨rfl, hb1⟩; obtain ⟨hc1, hf1, hz1⟩ := bcell hb1; (try simp only [World.size_alloc, World.size_setCell, World.size_drew] at hc1 hf1 hz1)))
  refine bodyPost_ret ?_ rfl ⟨rfl, (by repeat' (first | (with_reducible exact Below.refl _ _) | (with_reducible assumption) | (with_reducible refine Below.alloc ?_ ?_ _) | (with_reducible refine Below.setCell ?_ ?_ _) | (with_reducible refine Below.drew ?_) | (with_reducible refine below_dn ?_ _) | (with_reducible refine Below.trans ?_ (Below.mono (by assumption) ?_)) | go_size))⟩
  simp only [results, Try.results15]; simp [*, go_sem, ↓IntWalk.iteOmega, Fa.zero]; try (first | rfl | exact ⟨rfl, rfl⟩)

def RFDoC (a b z : Fa) (w : World) (w' : World) : Prop := w'.cell? ⟨w.heap.size, 0, none⟩ = some (.int .u64 (N a.t.v)) ∧ w'.cell? ⟨w.heap.size, 1, none⟩ = some (.int .u64 (N a.t.m)) ∧ w'.cell? ⟨w.heap.size, 2, none⟩ = some (.int .u64 (N a.s.lo)) ∧ w'.cell? ⟨w.heap.size, 3, none⟩ = some (.int .u64 (N a.s.hi)) ∧ w'.cell? ⟨w.heap.size + 1, 0, none⟩ = some (.int .u64 (N b.t.v)) ∧ w'.cell? ⟨w.heap.size + 1, 1, none⟩ = some (.int .u64 (N b.t.m)) ∧ w'.cell? ⟨w.heap.size + 1, 2, none⟩ = some (.int .u64 (N b.s.lo)) ∧ w'.cell? ⟨w.heap.size + 1, 3, none⟩ = some (.int .u64 (N b.s.hi)) ∧ w'.cell? ⟨w.heap.size + 1 + 1, 0, none⟩ = some (.int .u64 (N z.t.v)) ∧ w'.cell? ⟨w.heap.size + 1 + 1, 1, none⟩ = some (.int .u64 (N z.t.m)) ∧ w'.cell? ⟨w.heap.size + 1 + 1, 2, none⟩ = some (.int .u64 (N z.s.lo)) ∧ w'.cell? ⟨w.heap.size + 1 + 1, 3, none⟩ = some (.int .u64 (N z.s.hi)) ∧ (∀ i, w'.frozen? ⟨w.heap.size + 1 + 1, i, none⟩ = false) ∧ Below w.heap.size w w'
theorem RFDoC_keep {a b z : Fa} {w : World} (w' w1 : World) (h : RFDoC a b z w w') (hb : Below w'.heap.size w' w1) : RFDoC a b z w w1 := by
  obtain ⟨k0, k1, k2, k3, k4, k5, k6, k7, k8, k9, k10, k11, k12, k13⟩ := h
  exact ⟨cell_keep hb k0, cell_keep hb k1, cell_keep hb k2, cell_keep hb k3, cell_keep hb k4, cell_keep hb k5, cell_keep hb k6, cell_keep hb k7, cell_keep hb k8, cell_keep hb k9, cell_keep hb k10, cell_keep hb k11, frozen_keep hb k8 k12, below_next k13 hb⟩

set_option maxHeartbeats 1000000 in
theorem rfdo_n (op off : Int) (a b : Fa) (z : BitVec 64) (h0 : Alu.go op false off 0#64 0#64 = some z) (h1 : Fa.ok a = true) (h2 : Fa.ok b = true) (w : World) : Calls Try.prog 15 #[.int .u8 op, .bool false, .int .i16 off, .agg #[.int .u64 (N a.t.v), .int .u64 (N a.t.m), .int .u64 (N a.s.lo), .int .u64 (N a.s.hi)], .agg #[.int .u64 (N b.t.v), .int .u64 (N b.t.m), .int .u64 (N b.s.lo), .int .u64 (N b.s.hi)]] w fun e w' => e = .returned (.tuple #[.agg #[.int .u64 (N ((Fa.do_ op false off a b).getD Fa.zero).t.v), .int .u64 (N ((Fa.do_ op false off a b).getD Fa.zero).t.m), .int .u64 (N ((Fa.do_ op false off a b).getD Fa.zero).s.lo), .int .u64 (N ((Fa.do_ op false off a b).getD Fa.zero).s.hi)], .int .i64 (if (Fa.do_ op false off a b).isSome then 0 else 1)]) ∧ Below w.heap.size w w' := by
  have E : Fa.do_ op false off a b = some (Fa.cut (Fa.makes op false off (Fa.cut a) (Fa.cut b))) := Fa.fdo_n h0 h1 h2
  rw [E]; clear E
  simp only [Option.getD_some, Option.getD_none, Option.isSome_some, Option.isSome_none, if_true, Bool.false_eq_true, if_false]
  have hof := Alu.go_hof h0
  go_enter Try.func15, Try.ntmps15
  go_wp2_with (first | (go_at_call 18; (with_reducible refine (rdo_c _ _ _ _ _ _).mono ?_); rintro e w1 ⟨rfl, hb1⟩; obtain ⟨hc1, hf1, hz1⟩ := bcell hb1; (try simp only [World.size_alloc, World.size_setCell, World.size_drew] at hc1 hf1 hz1)) | (go_at_call 23; (with_reducible refine (rfright_c' _ _ _ _ _).mono ?_); rintro e w1 ⟨rfl, hb1⟩; obtain ⟨hc1, hf1, hz1⟩ := bcell hb1; (try simp only [World.size_alloc, World.size_setCell, World.size_drew] at hc1 hf1 hz1)))
  refine wp_region_class_tail (RFDoC a b Fa.zero w) 8 (by kernel_rfl) (by kernel_rfl) ?_ ?_
  · refine ⟨?_, ?_, ?_, ?_, ?_, ?_, ?_, ?_, ?_, ?_, ?_, ?_, ?_, (by repeat' (first | (with_reducible exact Below.refl _ _) | (with_reducible assumption) | (with_reducible refine Below.alloc ?_ ?_ _) | (with_reducible refine Below.setCell ?_ ?_ _) | (with_reducible refine Below.drew ?_) | (with_reducible refine below_dn ?_ _) | (with_reducible refine Below.trans ?_ (Below.mono (by assumption) ?_)) | go_size))⟩
    all_goals first | (intro i; simp [*, go_sem, ↓IntWalk.iteOmega]; done) | (simp [*, go_sem, ↓IntWalk.iteOmega]; done)
  intro hN
  (try simp only [List.append])
  simp only [List.take_succ_cons, List.take_zero, List.drop_succ_cons, List.drop_zero]
  repeat (first
    | go_big_quiet_skip
    | (go_big_quiet_want
       first
         | (refine quiet_load_Fa rfl rfl (fun w' hC => by obtain ⟨k0, k1, k2, k3, k4, k5, k6, k7, k8, k9, k10, k11, k12, k13⟩ := hC; first | exact ⟨k0, k1, k2, k3⟩ | exact ⟨k1, k2, k3, k4⟩ | exact ⟨k2, k3, k4, k5⟩ | exact ⟨k3, k4, k5, k6⟩ | exact ⟨k4, k5, k6, k7⟩ | exact ⟨k5, k6, k7, k8⟩ | exact ⟨k6, k7, k8, k9⟩ | exact ⟨k7, k8, k9, k10⟩ | exact ⟨k8, k9, k10, k11⟩) ?_
            simp only [Act.put, List.setIfInBounds_toArray, List.set_cons_succ, List.set_cons_zero]
            go_big_quiet_on)
         | (refine quiet_load_W rfl rfl (fun w' hC => by obtain ⟨k0, k1, k2, k3, k4, k5, k6, k7, k8, k9, k10, k11, k12, k13⟩ := hC; first | exact k0 | exact k1 | exact k2 | exact k3 | exact k4 | exact k5 | exact k6 | exact k7 | exact k8 | exact k9 | exact k10 | exact k11) ?_
            simp only [Act.put, List.setIfInBounds_toArray, List.set_cons_succ, List.set_cons_zero]
            go_big_quiet_on)
         | (go_big_quiet_op
            first
              | go_big_quiet_on
              | (apply Exists.intro
                 refine ⟨fun w' hC => ?_, ?_⟩
                 · (first | (go_at_call 34; (with_reducible refine (rfcut_c' _ _ _ _ _).mono ?_); rintro e w1 ⟨rfl, hb1⟩) | (go_at_call 43; (with_reducible refine (rfwide_c' _ _ _ _ _ _ _ _ _ _ _ (by assumption) _).mono ?_); rintro e w1 ⟨rfl, hb1⟩))
                   (try simp only [Tn.eta, Sp.eta, Fa.eta, Bool.not_true])
                   exact ⟨rfl, by first | exact hC | exact RFDoC_keep _ _ hC hb1⟩
                 go_big_quiet_on))))
  refine wpQuiet_nil ?_
  intro w9 hC
  obtain ⟨k0, k1, k2, k3, k4, k5, k6, k7, k8, k9, k10, k11, k12, k13⟩ := hC
  have z0 := cell_lt k0
  have z4 := cell_lt k4
  have z8 := cell_lt k8
  go_wp2
  refine bodyPost_ret ?_ rfl ⟨rfl, (by repeat' (first | (with_reducible exact Below.refl _ _) | (with_reducible assumption) | (with_reducible refine Below.alloc ?_ ?_ _) | (with_reducible refine Below.setCell ?_ ?_ _) | (with_reducible refine Below.drew ?_) | (with_reducible refine below_dn ?_ _) | (with_reducible refine Below.trans ?_ (Below.mono (by assumption) ?_)) | go_size))⟩
  simp only [results, Try.results15]; simp [*, go_sem, ↓IntWalk.iteOmega, Fa.zero]; try (first | rfl | exact ⟨rfl, rfl⟩)

theorem rfdo_c (op : Int) (wd : Bool) (off : Int) (a b : Fa) (w : World) : Calls Try.prog 15 #[.int .u8 op, .bool wd, .int .i16 off, .agg #[.int .u64 (N a.t.v), .int .u64 (N a.t.m), .int .u64 (N a.s.lo), .int .u64 (N a.s.hi)], .agg #[.int .u64 (N b.t.v), .int .u64 (N b.t.m), .int .u64 (N b.s.lo), .int .u64 (N b.s.hi)]] w fun e w' => e = .returned (.tuple #[.agg #[.int .u64 (N ((Fa.do_ op wd off a b).getD Fa.zero).t.v), .int .u64 (N ((Fa.do_ op wd off a b).getD Fa.zero).t.m), .int .u64 (N ((Fa.do_ op wd off a b).getD Fa.zero).s.lo), .int .u64 (N ((Fa.do_ op wd off a b).getD Fa.zero).s.hi)], .int .i64 (if (Fa.do_ op wd off a b).isSome then 0 else 1)]) ∧ Below w.heap.size w w' := by
  rcases h0 : Alu.go op wd off 0#64 0#64 with _ | z
  · exact rfdo_no0 op off a b wd h0 w
  cases h1 : Fa.ok a
  · exact rfdo_no1 op off a b wd z h0 h1 w
  cases h2 : Fa.ok b
  · exact rfdo_no2 op off a b wd z h0 h1 h2 w
  cases wd
  · exact rfdo_n op off a b z h0 h1 h2 w
  · exact rfdo_w op off a b z h0 h1 h2 w

theorem rfdo_c' (x0 : Int) (x1 : Bool) (x2 : Int) (x3 y3 z3 u3 : BitVec 64) (x4 y4 z4 u4 : BitVec 64) (w : World) : Calls Try.prog 15 #[.int .u8 x0, .bool x1, .int .i16 x2, .agg #[.int .u64 (N x3), .int .u64 (N y3), .int .u64 (N z3), .int .u64 (N u3)], .agg #[.int .u64 (N x4), .int .u64 (N y4), .int .u64 (N z4), .int .u64 (N u4)]] w fun e w' => e = .returned (.tuple #[.agg #[.int .u64 (N ((Fa.do_ x0 x1 x2 (⟨⟨x3, y3⟩, ⟨z3, u3⟩⟩ : Fa) (⟨⟨x4, y4⟩, ⟨z4, u4⟩⟩ : Fa)).getD Fa.zero).t.v), .int .u64 (N ((Fa.do_ x0 x1 x2 (⟨⟨x3, y3⟩, ⟨z3, u3⟩⟩ : Fa) (⟨⟨x4, y4⟩, ⟨z4, u4⟩⟩ : Fa)).getD Fa.zero).t.m), .int .u64 (N ((Fa.do_ x0 x1 x2 (⟨⟨x3, y3⟩, ⟨z3, u3⟩⟩ : Fa) (⟨⟨x4, y4⟩, ⟨z4, u4⟩⟩ : Fa)).getD Fa.zero).s.lo), .int .u64 (N ((Fa.do_ x0 x1 x2 (⟨⟨x3, y3⟩, ⟨z3, u3⟩⟩ : Fa) (⟨⟨x4, y4⟩, ⟨z4, u4⟩⟩ : Fa)).getD Fa.zero).s.hi)], .int .i64 (if (Fa.do_ x0 x1 x2 (⟨⟨x3, y3⟩, ⟨z3, u3⟩⟩ : Fa) (⟨⟨x4, y4⟩, ⟨z4, u4⟩⟩ : Fa)).isSome then 0 else 1)]) ∧ Below w.heap.size w w' := by
  exact rfdo_c x0 x1 x2 (⟨⟨x3, y3⟩, ⟨z3, u3⟩⟩ : Fa) (⟨⟨x4, y4⟩, ⟨z4, u4⟩⟩ : Fa) w

end Hk
