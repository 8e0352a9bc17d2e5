/- The reference of arithmetic: cut, negative, size, of both widths. No condition. -/
import Derived.Test.YtkpmhnfgldchaaaProg
import Derived.Test.YtkpmhnfgldchaaaWd
import Derived.Test.YtkpmhnfgldchaaaAluUp
import Derived.Test.YtkpmhnfgldchaaaRb1
namespace Hk
open Go Go.RowKit Go.Proofs
set_option linter.unusedSimpArgs false
set_option linter.unusedVariables false
set_option maxRecDepth 100000
theorem cut32_c (z : BitVec 64) (w : World) : Calls Try.prog 27 #[.int .u64 (N z), .int .i64 32] w fun e w' => e = .returned (.int .u64 (N (Alu.up (Alu.dn z)))) ∧ w = w' := by
  rw [← Alu.cut_up]
  exact cut_c' z 32 (by omega) (by omega) w

theorem neg64_c (x : BitVec 64) (w : World) : Calls Try.prog 30 #[.int .u64 (N x), .int .i64 64] w fun e w' => e = .returned (.bool (x.msb)) ∧ w = w' := by
  rw [← Alu.neg_w]
  go_enter Try.func30, Try.ntmps30
  go_wp2
  go_ret
  exact ⟨rfl, rfl⟩

theorem neg32_c (X : BitVec 32) (w : World) : Calls Try.prog 30 #[.int .u64 (N (Alu.up X)), .int .i64 32] w fun e w' => e = .returned (.bool (X.msb)) ∧ w = w' := by
  rw [← Alu.neg_n]
  go_enter Try.func30, Try.ntmps30
  go_wp2
  go_ret
  exact ⟨rfl, rfl⟩

theorem size64_c (x : BitVec 64) (w : World) : Calls Try.prog 36 #[.int .u64 (N x), .int .i64 64] w fun e w' => e = .returned (.int .u64 (N (Alu.mag x))) ∧ w = w' := by
  cases h : x.msb
  all_goals
    go_enter Try.func36, Try.ntmps36
    go_wp2_with (first | (go_at_call 27; (with_reducible refine (cut64_c _ _).mono ?_); rintro e w1 ⟨rfl, rfl⟩) | (go_at_call 30; (with_reducible refine (neg64_c _ _).mono ?_); rintro e w1 ⟨rfl, rfl⟩))
    go_ret
    exact ⟨by simp [Alu.mag, h], rfl⟩

theorem size32_c (X : BitVec 32) (w : World) : Calls Try.prog 36 #[.int .u64 (N (Alu.up X)), .int .i64 32] w fun e w' => e = .returned (.int .u64 (N (Alu.up (Alu.mag X)))) ∧ w = w' := by
  cases h : X.msb
  all_goals
    go_enter Try.func36, Try.ntmps36
    go_wp2_with (first | (go_at_call 27; (with_reducible refine (cut32_c _ _).mono ?_); rintro e w1 ⟨rfl, rfl⟩) | (go_at_call 30; (with_reducible refine (neg32_c _ _).mono ?_); rintro e w1 ⟨rfl, rfl⟩))
    go_ret
    exact ⟨by simp [Alu.mag, h, Alu.dn_neg'], rfl⟩

end Hk
