/- Package alu: Sign; memory is as it was. No condition but those in each statement. -/
import Derived.Test.YtijlcdgjeonaeaaProg
import Derived.Test.YtijlcdgjeonaeaaWd
import Derived.Test.YtijlcdgjeonaeaaAluDo
import Derived.Test.YtijlcdgjeonaeaaWa
namespace Hk
open Go Go.RowKit Go.Proofs
set_option linter.unusedSimpArgs false
set_option linter.unusedVariables false
set_option maxRecDepth 100000
theorem sign_o1 (a : BitVec 64) (k : Int) (h : k < 1) (w : World) : Calls Try.prog 18 #[.int .u64 (N a), .int .i64 k] w fun e w' => e = .returned (.int .u64 (N (Alu.sgn a k))) ∧ w = w' := by
  rw [Alu.sgn_out (.inl h)]
  go_enter Try.func18, Try.ntmps18
  go_wp2
  go_ret
  exact ⟨rfl, rfl⟩

theorem sign_o2 (a : BitVec 64) (k : Int) (h : 64 < k) (w : World) : Calls Try.prog 18 #[.int .u64 (N a), .int .i64 k] w fun e w' => e = .returned (.int .u64 (N (Alu.sgn a k))) ∧ w = w' := by
  rw [Alu.sgn_out (.inr h)]
  have h1 : ¬ k < 1 := by omega
  go_enter Try.func18, Try.ntmps18
  go_wp2
  go_ret
  exact ⟨rfl, rfl⟩

theorem sign_in (a : BitVec 64) (k : Int) (h0 : 1 ≤ k) (h1 : k ≤ 64) (w : World) : Calls Try.prog 18 #[.int .u64 (N a), .int .i64 k] w fun e w' => e = .returned (.int .u64 (N (Alu.sgn a k))) ∧ w = w' := by
  rw [Alu.sgn_in h0 h1]
  have h2 : ¬ k < 1 := by omega
  have h3 : ¬ 64 < k := by omega
  have h4 : 0 ≤ 64 - k := by omega
  have h5 : wrap64 (64 - k) = 64 - k := by unfold wrap64; omega
  go_enter Try.func18, Try.ntmps18
  go_wp2
  go_ret
  exact ⟨rfl, rfl⟩

theorem sign_c (a : BitVec 64) (k : Int) (w : World) : Calls Try.prog 18 #[.int .u64 (N a), .int .i64 k] w fun e w' => e = .returned (.int .u64 (N (Alu.sgn a k))) ∧ w = w' := by
  by_cases h0 : k < 1
  · exact sign_o1 a k h0 w
  by_cases h1 : 64 < k
  · exact sign_o2 a k h1 w
  exact sign_in a k (by omega) (by omega) w

end Hk
