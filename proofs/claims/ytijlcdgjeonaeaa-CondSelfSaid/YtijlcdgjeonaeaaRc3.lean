/- The reference of arithmetic: Sign. No condition but those in each statement. -/
import Derived.Test.YtijlcdgjeonaeaaProg
import Derived.Test.YtijlcdgjeonaeaaWd
import Derived.Test.YtijlcdgjeonaeaaAluRn
import Derived.Test.YtijlcdgjeonaeaaRb1
namespace Hk
open Go Go.RowKit Go.Proofs
set_option linter.unusedSimpArgs false
set_option linter.unusedVariables false
set_option maxRecDepth 100000
theorem rsign_o1 (a : BitVec 64) (k : Int) (h : k < 1) (w : World) : Calls Try.prog 20 #[.int .u64 (N a), .int .i64 k] w fun e w' => e = .returned (.int .u64 (N (Alu.sgn a k))) ∧ w = w' := by
  rw [Alu.sgn_out (.inl h)]
  go_enter Try.func20, Try.ntmps20
  go_wp2
  go_ret
  exact ⟨rfl, rfl⟩

theorem rsign_o2 (a : BitVec 64) (k : Int) (h : 64 < k) (w : World) : Calls Try.prog 20 #[.int .u64 (N a), .int .i64 k] w fun e w' => e = .returned (.int .u64 (N (Alu.sgn a k))) ∧ w = w' := by
  have h1 : ¬ k < 1 := by omega
  rw [Alu.sgn_out (.inr h)]
  go_enter Try.func20, Try.ntmps20
  go_wp2
  go_ret
  exact ⟨rfl, rfl⟩

theorem rsign_64 (a : BitVec 64) (w : World) : Calls Try.prog 20 #[.int .u64 (N a), .int .i64 64] w fun e w' => e = .returned (.int .u64 (N (Alu.sgn a 64))) ∧ w = w' := by
  rw [Alu.sgn_64]
  cases hz : (a >>> 63 == 0#64)
  all_goals
    go_enter Try.func20, Try.ntmps20
    go_wp2_with (first | (go_at_call 24; (with_reducible refine (cut64_c _ _).mono ?_); rintro e w1 ⟨rfl, rfl⟩))
    go_ret
    exact ⟨rfl, rfl⟩

theorem rsign_in (a : BitVec 64) (k : Nat) (h0 : 1 ≤ k) (h1 : k ≤ 63) (w : World) : Calls Try.prog 20 #[.int .u64 (N a), .int .i64 k] w fun e w' => e = .returned (.int .u64 (N (Alu.sgn a k))) ∧ w = w' := by
  rw [Alu.sgn_ref a k h0 h1]
  have hn : ((k : Int)).toNat = k := by omega
  have hm : ((k : Int) - 1).toNat = k - 1 := by omega
  have h2 : 0 ≤ (k : Int) - 1 := by omega
  have h3 : ¬ (k : Int) < 1 := by omega
  have h4 : ¬ 64 < (k : Int) := by omega
  have h5 : wrap64 ((k : Int) - 1) = (k : Int) - 1 := by unfold wrap64; omega
  have h6 : ((k : Int) == 64) = false := by simp; omega
  have h7 : 0 ≤ (k : Int) := by omega
  cases hz : ((a % 1#64 <<< k) >>> (k - 1) == 0#64)
  all_goals
    go_enter Try.func20, Try.ntmps20
    go_wp2_with (first | (go_at_call 24; (with_reducible refine (rcut2_c _ _ (by omega) (by omega) _).mono ?_); rintro e w1 ⟨rfl, rfl⟩))
    go_ret
    exact ⟨by simp [hz], rfl⟩

theorem rsign_c (a : BitVec 64) (k : Int) (w : World) : Calls Try.prog 20 #[.int .u64 (N a), .int .i64 k] w fun e w' => e = .returned (.int .u64 (N (Alu.sgn a k))) ∧ w = w' := by
  by_cases h0 : k < 1
  · exact rsign_o1 a k h0 w
  by_cases h1 : 64 < k
  · exact rsign_o2 a k h1 w
  by_cases h2 : k = 64
  · subst h2; exact rsign_64 a w
  have := rsign_in a k.toNat (by omega) (by omega) w
  rwa [show ((k.toNat : Nat) : Int) = k by omega] at this

end Hk
