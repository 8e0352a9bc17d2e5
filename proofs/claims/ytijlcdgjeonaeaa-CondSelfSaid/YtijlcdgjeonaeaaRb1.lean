/- The reference of arithmetic: its cut. No condition but those in each statement. -/
import Derived.Test.YtijlcdgjeonaeaaProg
import Derived.Test.YtijlcdgjeonaeaaWd
import Derived.Test.YtijlcdgjeonaeaaAluRef
namespace Hk
open Go Go.RowKit Go.Proofs
set_option linter.unusedSimpArgs false
set_option linter.unusedVariables false
set_option maxRecDepth 100000
theorem cut64_c (a : BitVec 64) (w : World) : Calls Try.prog 24 #[.int .u64 (N a), .int .i64 64] w fun e w' => e = .returned (.int .u64 (N a)) ∧ w = w' := by
  go_enter Try.func24, Try.ntmps24
  go_wp2
  go_ret
  exact ⟨rfl, rfl⟩

theorem shl_ne (k : Int) (h0 : 0 ≤ k) (h1 : k ≤ 63) : 1#64 <<< k.toNat ≠ 0#64 := by
  intro h
  have := congrArg BitVec.toNat h
  rw [BitVec.toNat_shiftLeft, Nat.shiftLeft_eq] at this
  have e : (2 : Nat) ^ k.toNat < 2 ^ 64 := Nat.pow_lt_pow_right (by omega) (by omega)
  have e1 : (1#64).toNat = 1 := rfl
  rw [e1, Nat.one_mul, Nat.mod_eq_of_lt e] at this
  have := Nat.two_pow_pos k.toNat
  simp at *

theorem rcut2_c (a : BitVec 64) (k : Int) (h0 : 1 ≤ k) (h1 : k ≤ 63) (w : World) : Calls Try.prog 24 #[.int .u64 (N a), .int .i64 k] w fun e w' => e = .returned (.int .u64 (N (a % 1#64 <<< k.toNat))) ∧ w = w' := by
  have h2 : (k == 64) = false := by simp; omega
  have h3 : 0 ≤ k := by omega
  have h4 := shl_ne k h3 h1
  go_enter Try.func24, Try.ntmps24
  go_wp2
  go_ret
  exact ⟨rfl, rfl⟩

end Hk
