/- Words as signed numbers, and of 32 bits: how the walk reckons with them. No condition. Package alu: divide; it returns what the machine's words say, and memory is as it was. No condition but that in each statement. Package alu: simple, moved, divided, Sign; memory is as it was. No condition but those in each statement. Package alu: Sign; memory is as it was. No condition but those in each statement. Package alu: Do, way by way; memory is as it was. No condition but those in each statement. Package alu: Do returns what the machine's words say; memory is as it was. No condition. -/
import Derived.Test.YtmhkngblpojeaaaGp
import Derived.Test.YtmhkngblpojeaaaProg
import Derived.Test.YtmhkngblpojeaaaGq
namespace Hk
open Go Go.RowKit
/-- A word as a signed number; a word of 32 bits, as it is and signed. (Plain definitions: no rule of simp goes behind them.) -/
def Z (x : BitVec 64) : Int := x.toInt
def N3 (x : BitVec 32) : Int := x.toNat
def Z3 (x : BitVec 32) : Int := x.toInt
theorem wrap_i64' (i : Int) : IntKind.i64.wrap i = Z (BitVec.ofInt 64 i) := by
  rw [show IntKind.i64.wrap i = (if 9223372036854775808 ≤ i % 18446744073709551616 then i % 18446744073709551616 - 18446744073709551616 else i % 18446744073709551616) from by simp [IntKind.wrap, IntKind.bits, IntKind.signed]]
  unfold Z; rw [BitVec.toInt_ofInt, Int.bmod_def]
  split <;> split <;> omega
theorem wrap_i32' (i : Int) : IntKind.i32.wrap i = Z3 (BitVec.ofInt 32 i) := by
  rw [show IntKind.i32.wrap i = (if 2147483648 ≤ i % 4294967296 then i % 4294967296 - 4294967296 else i % 4294967296) from by simp [IntKind.wrap, IntKind.bits, IntKind.signed]]
  unfold Z3; rw [BitVec.toInt_ofInt, Int.bmod_def]
  split <;> split <;> omega
theorem wrap_u32' (i : Int) : IntKind.u32.wrap i = N3 (BitVec.ofInt 32 i) := by
  rw [show IntKind.u32.wrap i = i % 4294967296 from by simp [IntKind.wrap, IntKind.bits, IntKind.signed]]
  unfold N3; rw [BitVec.toNat_ofInt]; omega
theorem ofInt_Z (x : BitVec 64) : BitVec.ofInt 64 (Z x) = x := BitVec.ofInt_toInt
theorem ofInt_Z3 (x : BitVec 32) : BitVec.ofInt 32 (Z3 x) = x := BitVec.ofInt_toInt
theorem ofInt_N3 (x : BitVec 32) : BitVec.ofInt 32 (N3 x) = x := by
  unfold N3; rw [BitVec.ofInt_natCast, BitVec.ofNat_toNat, BitVec.setWidth_eq]
theorem ofInt32_N (x : BitVec 64) : BitVec.ofInt 32 (N x) = x.setWidth 32 := by
  unfold N; rw [BitVec.ofInt_natCast, BitVec.ofNat_toNat]
theorem ofInt64_Z3 (x : BitVec 32) : BitVec.ofInt 64 (Z3 x) = x.signExtend 64 := rfl
theorem ofInt64_N3 (x : BitVec 32) : BitVec.ofInt 64 (N3 x) = x.setWidth 64 := by
  unfold N3; rw [BitVec.ofInt_natCast, BitVec.ofNat_toNat]
section
variable (x y : BitVec 64) (p q : BitVec 32)
@[go_sem ↓] theorem cv_i64 : Conv.intToInt .i64 (N x) = pure (.int .i64 (Z x)) := by rw [Conv.intToInt, wrap_i64', ofInt_N]
@[go_sem ↓] theorem cv_u64 : Conv.intToInt .u64 (Z x) = pure (.int .u64 (N x)) := by rw [Conv.intToInt, wrap_N, ofInt_Z]
@[go_sem ↓] theorem cv_i32 : Conv.intToInt .i32 (N x) = pure (.int .i32 (Z3 (x.setWidth 32))) := by rw [Conv.intToInt, wrap_i32', ofInt32_N]
@[go_sem ↓] theorem cv_u32 : Conv.intToInt .u32 (N x) = pure (.int .u32 (N3 (x.setWidth 32))) := by rw [Conv.intToInt, wrap_u32', ofInt32_N]
@[go_sem ↓] theorem cv_u64_i32 : Conv.intToInt .u64 (Z3 p) = pure (.int .u64 (N (p.signExtend 64))) := by rw [Conv.intToInt, wrap_N, ofInt64_Z3]
@[go_sem ↓] theorem cv_u64_u32 : Conv.intToInt .u64 (N3 p) = pure (.int .u64 (N (p.setWidth 64))) := by rw [Conv.intToInt, wrap_N, ofInt64_N3]
@[go_sem] theorem w64_N : wrap64 (N x) = Z x := by rw [← IntWalk.i64_left, wrap_i64', ofInt_N]
@[go_sem] theorem w32_N : wrap32 (N x) = Z3 (x.setWidth 32) := by rw [← IntWalk.i32_left, wrap_i32', ofInt32_N]
@[go_sem] theorem m32_N : N x % 4294967296 = N3 (x.setWidth 32) := by rw [← IntKind.wrap_u32, wrap_u32', ofInt32_N]
@[go_sem] theorem m64_Z : Z x % 18446744073709551616 = N x := by rw [← IntKind.wrap_u64, wrap_N, ofInt_Z]
@[go_sem] theorem m64_Z3 : Z3 p % 18446744073709551616 = N (p.signExtend 64) := by rw [← IntKind.wrap_u64, wrap_N, ofInt64_Z3]
@[go_sem] theorem m64_N3 : N3 p % 18446744073709551616 = N (p.setWidth 64) := by rw [← IntKind.wrap_u64, wrap_N, ofInt64_N3]
@[go_sem] theorem w_N3 : IntKind.u64.wrap (N3 p) = N (p.setWidth 64) := by rw [wrap_N, ofInt64_N3]
@[go_sem] theorem w_Z : IntKind.u64.wrap (Z x) = N x := by rw [wrap_N, ofInt_Z]
@[go_sem] theorem w_Z3 : IntKind.u64.wrap (Z3 p) = N (p.signExtend 64) := by rw [wrap_N, ofInt64_Z3]
@[go_sem] theorem w_N_i64 : IntKind.i64.wrap (N x) = Z x := by rw [wrap_i64', ofInt_N]
@[go_sem] theorem w_N_i32 : IntKind.i32.wrap (N x) = Z3 (x.setWidth 32) := by rw [wrap_i32', ofInt32_N]
@[go_sem] theorem w_N_u32 : IntKind.u32.wrap (N x) = N3 (x.setWidth 32) := by rw [wrap_u32', ofInt32_N]
theorem Z_inj : Z x = Z y ↔ x = y := BitVec.toInt_inj
theorem Z3_inj : Z3 p = Z3 q ↔ p = q := BitVec.toInt_inj
theorem N3_inj : N3 p = N3 q ↔ p = q := by unfold N3; rw [Int.natCast_inj]; exact BitVec.toNat_inj
@[go_sem] theorem Z_beq : (Z x == Z y) = (x == y) := by rw [Bool.eq_iff_iff, beq_iff_eq, beq_iff_eq]; exact Z_inj x y
@[go_sem] theorem Z3_beq : (Z3 p == Z3 q) = (p == q) := by rw [Bool.eq_iff_iff, beq_iff_eq, beq_iff_eq]; exact Z3_inj p q
@[go_sem] theorem N3_beq : (N3 p == N3 q) = (p == q) := by rw [Bool.eq_iff_iff, beq_iff_eq, beq_iff_eq]; exact N3_inj p q
@[go_sem] theorem Z_beq0 : (Z x == 0) = (x == 0#64) := by rw [← Z_beq]; rfl
@[go_sem] theorem Z3_beq0 : (Z3 p == 0) = (p == 0#32) := by rw [← Z3_beq]; rfl
@[go_sem] theorem N3_beq0 : (N3 p == 0) = (p == 0#32) := by rw [← N3_beq]; rfl
theorem Z_ne (h : y ≠ 0#64) : ¬ Z y = 0 := fun e => h ((Z_inj y 0#64).1 (by rw [e]; rfl))
theorem Z3_ne (h : q ≠ 0#32) : ¬ Z3 q = 0 := fun e => h ((Z3_inj q 0#32).1 (by rw [e]; rfl))
theorem N3_ne (h : q ≠ 0#32) : ¬ N3 q = 0 := fun e => h ((N3_inj q 0#32).1 (by rw [e]; rfl))
@[go_sem ↓] theorem Z_quo (h : y ≠ 0#64) : Op.intDiv .quo .i64 (Z x) (Z y) = pure (.int .i64 (Z (x.sdiv y))) := by
  simp only [Op.intDiv, Z_ne y h, if_false, wrap_i64']
  have : BitVec.ofInt 64 ((Z x).tdiv (Z y)) = x.sdiv y := by
    apply BitVec.eq_of_toInt_eq
    rw [BitVec.toInt_ofInt, BitVec.toInt_sdiv]; rfl
  rw [this]
@[go_sem ↓] theorem Z_rem (h : y ≠ 0#64) : Op.intDiv .rem .i64 (Z x) (Z y) = pure (.int .i64 (Z (x.srem y))) := by
  simp only [Op.intDiv, Z_ne y h, if_false]
  unfold Z; rw [BitVec.toInt_srem]
@[go_sem ↓] theorem Z3_quo (h : q ≠ 0#32) : Op.intDiv .quo .i32 (Z3 p) (Z3 q) = pure (.int .i32 (Z3 (p.sdiv q))) := by
  simp only [Op.intDiv, Z3_ne q h, if_false, wrap_i32']
  have : BitVec.ofInt 32 ((Z3 p).tdiv (Z3 q)) = p.sdiv q := by
    apply BitVec.eq_of_toInt_eq
    rw [BitVec.toInt_ofInt, BitVec.toInt_sdiv]; rfl
  rw [this]
@[go_sem ↓] theorem Z3_rem (h : q ≠ 0#32) : Op.intDiv .rem .i32 (Z3 p) (Z3 q) = pure (.int .i32 (Z3 (p.srem q))) := by
  simp only [Op.intDiv, Z3_ne q h, if_false]
  unfold Z3; rw [BitVec.toInt_srem]
@[go_sem ↓] theorem N3_quo (h : q ≠ 0#32) : Op.intDiv .quo .u32 (N3 p) (N3 q) = pure (.int .u32 (N3 (p / q))) := by
  simp only [Op.intDiv, N3_ne q h, if_false, wrap_u32']
  have : BitVec.ofInt 32 ((N3 p).tdiv (N3 q)) = p / q := by
    rw [← ofInt_N3 (p / q)]
    rw [show (N3 p).tdiv (N3 q) = N3 (p / q) from by unfold N3; rw [BitVec.toNat_udiv, ← Int.ofNat_tdiv]]
  rw [this]
@[go_sem ↓] theorem N3_rem (h : q ≠ 0#32) : Op.intDiv .rem .u32 (N3 p) (N3 q) = pure (.int .u32 (N3 (p % q))) := by
  simp only [Op.intDiv, N3_ne q h, if_false]
  unfold N3; rw [BitVec.toNat_umod, ← Int.ofNat_tmod]
theorem fdiv_pow (i : Int) (k : Nat) : i.fdiv (2 ^ k) = i >>> k := by
  have hp : (2 : Int) ^ k = ((2 ^ k : Nat) : Int) := by rw [Int.natCast_pow]; rfl
  rw [hp, Int.fdiv_eq_ediv_of_nonneg _ (Int.natCast_nonneg _), Int.shiftRight_eq_div_pow]
theorem sshr_min {w : Nat} (z : BitVec w) (k : Nat) : z.sshiftRight (min k w) = z.sshiftRight k := by
  rcases Nat.le_total k w with h | h
  · rw [Nat.min_eq_left h]
  · rw [Nat.min_eq_right h]
    apply BitVec.eq_of_getLsbD_eq
    intro i hi
    rw [BitVec.getLsbD_sshiftRight, BitVec.getLsbD_sshiftRight]
    simp only [show ¬ w + i < w by omega, show ¬ k + i < w by omega, if_false]
@[go_sem ↓] theorem Z_shr (yk : IntKind) (k : Int) (h : 0 ≤ k) : Op.shift .shr .i64 (Z x) yk k = pure (.int .i64 (Z (x.sshiftRight k.toNat))) := by
  simp only [Op.shift, show ¬ k < 0 by omega, if_false, IntKind.bits]
  rw [← sshr_min, fdiv_pow]
  unfold Z; rw [BitVec.toInt_sshiftRight]
@[go_sem ↓] theorem Z_shr_N (yk : IntKind) : Op.shift .shr .i64 (Z x) yk (N y) = pure (.int .i64 (Z (x.sshiftRight y.toNat))) := by
  rw [Z_shr x yk (N y) (N_nonneg y)]; unfold N; rw [Int.toNat_natCast]
@[go_sem ↓] theorem Z3_shr_N (yk : IntKind) : Op.shift .shr .i32 (Z3 p) yk (N y) = pure (.int .i32 (Z3 (p.sshiftRight y.toNat))) := by
  have h := N_nonneg y
  simp only [Op.shift, show ¬ N y < 0 by omega, if_false, IntKind.bits]
  rw [show (N y).toNat = y.toNat by unfold N; rw [Int.toNat_natCast], ← sshr_min, fdiv_pow]
  unfold Z3; rw [BitVec.toInt_sshiftRight]
@[go_sem ↓] theorem N3_shr_N (yk : IntKind) : Op.shift .shr .u32 (N3 p) yk (N y) = pure (.int .u32 (N3 (p >>> y.toNat))) := by
  have h := N_nonneg y
  simp only [Op.shift, show ¬ N y < 0 by omega, if_false, IntKind.bits]
  rw [show (N y).toNat = y.toNat by unfold N; rw [Int.toNat_natCast]]
  have hp : (2 : Int) ^ (min y.toNat 32) = ((2 ^ (min y.toNat 32) : Nat) : Int) := by rw [Int.natCast_pow]; rfl
  rw [hp, Int.fdiv_eq_ediv_of_nonneg _ (Int.natCast_nonneg _)]
  unfold N3
  rw [BitVec.toNat_ushiftRight, Nat.shiftRight_eq_div_pow, ← Int.natCast_ediv]
  rw [show p.toNat / 2 ^ (min y.toNat 32) = p.toNat / 2 ^ y.toNat from by
    rcases Nat.le_total y.toNat 32 with h | h
    · rw [Nat.min_eq_left h]
    · rw [Nat.min_eq_right h, Nat.div_eq_of_lt p.isLt]
      exact (Nat.div_eq_of_lt (Nat.lt_of_lt_of_le p.isLt (Nat.pow_le_pow_right (by omega) h))).symm]
end
end Hk

namespace Hk
open Go Go.RowKit Go.Proofs
set_option linter.unusedSimpArgs false
set_option linter.unusedVariables false
set_option maxRecDepth 100000
theorem div0_i64 (x y : BitVec 64) (h : (y == 0#64) = true) (l : Bool) (w : World) : Calls Try.prog 103 #[.int .i64 (Z x), .int .i64 (Z y), .bool l] w fun e w' => e = .returned (.int .i64 (Z (if l then x else 0#64))) ∧ w = w' := by
  cases l
  all_goals
    go_enter Try.func103, Try.ntmps103
    go_wp2
    go_ret
    exact ⟨rfl, rfl⟩

theorem div1_i64 (x y : BitVec 64) (h : (y == 0#64) = false) (l : Bool) (w : World) : Calls Try.prog 103 #[.int .i64 (Z x), .int .i64 (Z y), .bool l] w fun e w' => e = .returned (.int .i64 (Z (if l then (x.srem y) else (x.sdiv y)))) ∧ w = w' := by
  have hy : y ≠ 0#64 := by simpa using h
  cases l
  all_goals
    go_enter Try.func103, Try.ntmps103
    go_wp2
    go_ret
    exact ⟨rfl, rfl⟩

theorem div0_u64 (x y : BitVec 64) (h : (y == 0#64) = true) (l : Bool) (w : World) : Calls Try.prog 104 #[.int .u64 (N x), .int .u64 (N y), .bool l] w fun e w' => e = .returned (.int .u64 (N (if l then x else 0#64))) ∧ w = w' := by
  cases l
  all_goals
    go_enter Try.func104, Try.ntmps104
    go_wp2
    go_ret
    exact ⟨rfl, rfl⟩

theorem div1_u64 (x y : BitVec 64) (h : (y == 0#64) = false) (l : Bool) (w : World) : Calls Try.prog 104 #[.int .u64 (N x), .int .u64 (N y), .bool l] w fun e w' => e = .returned (.int .u64 (N (if l then (x % y) else (x / y)))) ∧ w = w' := by
  have hy : y ≠ 0#64 := by simpa using h
  cases l
  all_goals
    go_enter Try.func104, Try.ntmps104
    go_wp2
    go_ret
    exact ⟨rfl, rfl⟩

theorem div0_i32 (x y : BitVec 32) (h : (y == 0#32) = true) (l : Bool) (w : World) : Calls Try.prog 105 #[.int .i32 (Z3 x), .int .i32 (Z3 y), .bool l] w fun e w' => e = .returned (.int .i32 (Z3 (if l then x else 0#32))) ∧ w = w' := by
  cases l
  all_goals
    go_enter Try.func105, Try.ntmps105
    go_wp2
    go_ret
    exact ⟨rfl, rfl⟩

theorem div1_i32 (x y : BitVec 32) (h : (y == 0#32) = false) (l : Bool) (w : World) : Calls Try.prog 105 #[.int .i32 (Z3 x), .int .i32 (Z3 y), .bool l] w fun e w' => e = .returned (.int .i32 (Z3 (if l then (x.srem y) else (x.sdiv y)))) ∧ w = w' := by
  have hy : y ≠ 0#32 := by simpa using h
  cases l
  all_goals
    go_enter Try.func105, Try.ntmps105
    go_wp2
    go_ret
    exact ⟨rfl, rfl⟩

theorem div0_u32 (x y : BitVec 32) (h : (y == 0#32) = true) (l : Bool) (w : World) : Calls Try.prog 106 #[.int .u32 (N3 x), .int .u32 (N3 y), .bool l] w fun e w' => e = .returned (.int .u32 (N3 (if l then x else 0#32))) ∧ w = w' := by
  cases l
  all_goals
    go_enter Try.func106, Try.ntmps106
    go_wp2
    go_ret
    exact ⟨rfl, rfl⟩

theorem div1_u32 (x y : BitVec 32) (h : (y == 0#32) = false) (l : Bool) (w : World) : Calls Try.prog 106 #[.int .u32 (N3 x), .int .u32 (N3 y), .bool l] w fun e w' => e = .returned (.int .u32 (N3 (if l then (x % y) else (x / y)))) ∧ w = w' := by
  have hy : y ≠ 0#32 := by simpa using h
  cases l
  all_goals
    go_enter Try.func106, Try.ntmps106
    go_wp2
    go_ret
    exact ⟨rfl, rfl⟩

theorem div_i64 (x y : BitVec 64) (l : Bool) (w : World) : Calls Try.prog 103 #[.int .i64 (Z x), .int .i64 (Z y), .bool l] w fun e w' => e = .returned (.int .i64 (Z (if l then (x.srem y) else (x.sdiv y)))) ∧ w = w' := by
  cases h : (y == 0#64)
  · exact div1_i64 x y h l w
  · have e : y = 0#64 := by simpa using h
    subst e
    have := div0_i64 x 0#64 h l w
    obtain ⟨e1, e2, e3, e4⟩ := Alu.div_zero 64 x
    simp only [e1, e2, e3, e4]
    exact this

theorem div_u64 (x y : BitVec 64) (l : Bool) (w : World) : Calls Try.prog 104 #[.int .u64 (N x), .int .u64 (N y), .bool l] w fun e w' => e = .returned (.int .u64 (N (if l then (x % y) else (x / y)))) ∧ w = w' := by
  cases h : (y == 0#64)
  · exact div1_u64 x y h l w
  · have e : y = 0#64 := by simpa using h
    subst e
    have := div0_u64 x 0#64 h l w
    obtain ⟨e1, e2, e3, e4⟩ := Alu.div_zero 64 x
    simp only [e1, e2, e3, e4]
    exact this

theorem div_i32 (x y : BitVec 32) (l : Bool) (w : World) : Calls Try.prog 105 #[.int .i32 (Z3 x), .int .i32 (Z3 y), .bool l] w fun e w' => e = .returned (.int .i32 (Z3 (if l then (x.srem y) else (x.sdiv y)))) ∧ w = w' := by
  cases h : (y == 0#32)
  · exact div1_i32 x y h l w
  · have e : y = 0#32 := by simpa using h
    subst e
    have := div0_i32 x 0#32 h l w
    obtain ⟨e1, e2, e3, e4⟩ := Alu.div_zero 32 x
    simp only [e1, e2, e3, e4]
    exact this

theorem div_u32 (x y : BitVec 32) (l : Bool) (w : World) : Calls Try.prog 106 #[.int .u32 (N3 x), .int .u32 (N3 y), .bool l] w fun e w' => e = .returned (.int .u32 (N3 (if l then (x % y) else (x / y)))) ∧ w = w' := by
  cases h : (y == 0#32)
  · exact div1_u32 x y h l w
  · have e : y = 0#32 := by simpa using h
    subst e
    have := div0_u32 x 0#32 h l w
    obtain ⟨e1, e2, e3, e4⟩ := Alu.div_zero 32 x
    simp only [e1, e2, e3, e4]
    exact this

end Hk

namespace Hk
open Go Go.RowKit Go.Proofs
set_option linter.unusedSimpArgs false
set_option linter.unusedVariables false
set_option maxRecDepth 100000
theorem simple_add (a b : BitVec 64) (w : World) : Calls Try.prog 81 #[.int .u8 0, .int .u64 (N a), .int .u64 (N b)] w fun e w' => e = .returned (.tuple #[.int .u64 (N (a + b)), .bool true]) ∧ w = w' := by
  go_enter Try.func81, Try.ntmps81
  go_wp2
  go_ret2
  exact ⟨rfl, rfl⟩

theorem simple_sub (a b : BitVec 64) (w : World) : Calls Try.prog 81 #[.int .u8 16, .int .u64 (N a), .int .u64 (N b)] w fun e w' => e = .returned (.tuple #[.int .u64 (N (a - b)), .bool true]) ∧ w = w' := by
  go_enter Try.func81, Try.ntmps81
  go_wp2
  go_ret2
  exact ⟨rfl, rfl⟩

theorem simple_mul (a b : BitVec 64) (w : World) : Calls Try.prog 81 #[.int .u8 32, .int .u64 (N a), .int .u64 (N b)] w fun e w' => e = .returned (.tuple #[.int .u64 (N (a * b)), .bool true]) ∧ w = w' := by
  go_enter Try.func81, Try.ntmps81
  go_wp2
  go_ret2
  exact ⟨rfl, rfl⟩

theorem simple_or (a b : BitVec 64) (w : World) : Calls Try.prog 81 #[.int .u8 64, .int .u64 (N a), .int .u64 (N b)] w fun e w' => e = .returned (.tuple #[.int .u64 (N (a ||| b)), .bool true]) ∧ w = w' := by
  go_enter Try.func81, Try.ntmps81
  go_wp2
  go_ret2
  exact ⟨rfl, rfl⟩

theorem simple_and (a b : BitVec 64) (w : World) : Calls Try.prog 81 #[.int .u8 80, .int .u64 (N a), .int .u64 (N b)] w fun e w' => e = .returned (.tuple #[.int .u64 (N (a &&& b)), .bool true]) ∧ w = w' := by
  go_enter Try.func81, Try.ntmps81
  go_wp2
  go_ret2
  exact ⟨rfl, rfl⟩

theorem simple_xor (a b : BitVec 64) (w : World) : Calls Try.prog 81 #[.int .u8 160, .int .u64 (N a), .int .u64 (N b)] w fun e w' => e = .returned (.tuple #[.int .u64 (N (a ^^^ b)), .bool true]) ∧ w = w' := by
  go_enter Try.func81, Try.ntmps81
  go_wp2
  go_ret2
  exact ⟨rfl, rfl⟩

theorem simple_neg (a b : BitVec 64) (w : World) : Calls Try.prog 81 #[.int .u8 128, .int .u64 (N a), .int .u64 (N b)] w fun e w' => e = .returned (.tuple #[.int .u64 (N (-a)), .bool true]) ∧ w = w' := by
  go_enter Try.func81, Try.ntmps81
  go_wp2
  go_ret2
  exact ⟨rfl, rfl⟩

theorem simple_mov (a b : BitVec 64) (w : World) : Calls Try.prog 81 #[.int .u8 176, .int .u64 (N a), .int .u64 (N b)] w fun e w' => e = .returned (.tuple #[.int .u64 (N b), .bool true]) ∧ w = w' := by
  go_enter Try.func81, Try.ntmps81
  go_wp2
  go_ret2
  exact ⟨rfl, rfl⟩

theorem simple_else (op : Int) (s0 : ¬ op = 0) (s16 : ¬ op = 16) (s32 : ¬ op = 32) (s64 : ¬ op = 64) (s80 : ¬ op = 80) (s160 : ¬ op = 160) (s128 : ¬ op = 128) (s176 : ¬ op = 176) (a b : BitVec 64) (w : World) : Calls Try.prog 81 #[.int .u8 op, .int .u64 (N a), .int .u64 (N b)] w fun e w' => e = .returned (.tuple #[.int .u64 (N 0#64), .bool false]) ∧ w = w' := by
  go_enter Try.func81, Try.ntmps81
  go_wp2
  go_ret2
  exact ⟨rfl, rfl⟩

theorem moved_w_lsh (a b : BitVec 64) (w : World) : Calls Try.prog 82 #[.int .u8 96, .bool (true), .int .u64 (N a), .int .u64 (N b)] w fun e w' => e = .returned (.tuple #[.int .u64 (N (a <<< (b &&& 63#64).toNat)), .bool true]) ∧ w = w' := by
  go_enter Try.func82, Try.ntmps82
  go_wp2
  go_ret2
  exact ⟨rfl, rfl⟩

theorem moved_n_lsh (a b : BitVec 64) (w : World) : Calls Try.prog 82 #[.int .u8 96, .bool (false), .int .u64 (N a), .int .u64 (N b)] w fun e w' => e = .returned (.tuple #[.int .u64 (N (a <<< (b &&& 31#64).toNat)), .bool true]) ∧ w = w' := by
  go_enter Try.func82, Try.ntmps82
  go_wp2
  go_ret2
  exact ⟨rfl, rfl⟩

theorem moved_w_rsh (a b : BitVec 64) (w : World) : Calls Try.prog 82 #[.int .u8 112, .bool (true), .int .u64 (N a), .int .u64 (N b)] w fun e w' => e = .returned (.tuple #[.int .u64 (N (a >>> (b &&& 63#64).toNat)), .bool true]) ∧ w = w' := by
  go_enter Try.func82, Try.ntmps82
  go_wp2
  go_ret2
  exact ⟨rfl, rfl⟩

theorem moved_n_rsh (a b : BitVec 64) (w : World) : Calls Try.prog 82 #[.int .u8 112, .bool (false), .int .u64 (N a), .int .u64 (N b)] w fun e w' => e = .returned (.tuple #[.int .u64 (N ((a.setWidth 32 >>> (b &&& 31#64).toNat).setWidth 64)), .bool true]) ∧ w = w' := by
  go_enter Try.func82, Try.ntmps82
  go_wp2
  go_ret2
  exact ⟨rfl, rfl⟩

theorem moved_w_arsh (a b : BitVec 64) (w : World) : Calls Try.prog 82 #[.int .u8 192, .bool (true), .int .u64 (N a), .int .u64 (N b)] w fun e w' => e = .returned (.tuple #[.int .u64 (N (a.sshiftRight (b &&& 63#64).toNat)), .bool true]) ∧ w = w' := by
  go_enter Try.func82, Try.ntmps82
  go_wp2
  go_ret2
  exact ⟨rfl, rfl⟩

theorem moved_n_arsh (a b : BitVec 64) (w : World) : Calls Try.prog 82 #[.int .u8 192, .bool (false), .int .u64 (N a), .int .u64 (N b)] w fun e w' => e = .returned (.tuple #[.int .u64 (N (((a.setWidth 32).sshiftRight (b &&& 31#64).toNat).signExtend 64)), .bool true]) ∧ w = w' := by
  go_enter Try.func82, Try.ntmps82
  go_wp2
  go_ret2
  exact ⟨rfl, rfl⟩

theorem moved_else (op : Int) (m96 : ¬ op = 96) (m112 : ¬ op = 112) (m192 : ¬ op = 192) (wd : Bool) (a b : BitVec 64) (w : World) : Calls Try.prog 82 #[.int .u8 op, .bool (wd), .int .u64 (N a), .int .u64 (N b)] w fun e w' => e = .returned (.tuple #[.int .u64 (N 0#64), .bool false]) ∧ w = w' := by
  cases wd
  all_goals
    go_enter Try.func82, Try.ntmps82
    go_wp2
    go_ret2
    exact ⟨rfl, rfl⟩

theorem divided_ttt (a b : BitVec 64) (w : World) : Calls Try.prog 84 #[.bool (true), .bool (true), .bool (true), .int .u64 (N a), .int .u64 (N b)] w fun e w' => e = .returned (.int .u64 (N (a.srem b))) ∧ w = w' := by
  go_enter Try.func84, Try.ntmps84
  go_wp2_with (first | (go_at_call 103; (with_reducible refine (div_i64 _ _ _ _).mono ?_); rintro e w1 ⟨rfl, rfl⟩) | (go_at_call 104; (with_reducible refine (div_u64 _ _ _ _).mono ?_); rintro e w1 ⟨rfl, rfl⟩) | (go_at_call 105; (with_reducible refine (div_i32 _ _ _ _).mono ?_); rintro e w1 ⟨rfl, rfl⟩) | (go_at_call 106; (with_reducible refine (div_u32 _ _ _ _).mono ?_); rintro e w1 ⟨rfl, rfl⟩))
  go_ret
  exact ⟨rfl, rfl⟩

theorem divided_ttf (a b : BitVec 64) (w : World) : Calls Try.prog 84 #[.bool (true), .bool (true), .bool (false), .int .u64 (N a), .int .u64 (N b)] w fun e w' => e = .returned (.int .u64 (N (a.sdiv b))) ∧ w = w' := by
  go_enter Try.func84, Try.ntmps84
  go_wp2_with (first | (go_at_call 103; (with_reducible refine (div_i64 _ _ _ _).mono ?_); rintro e w1 ⟨rfl, rfl⟩) | (go_at_call 104; (with_reducible refine (div_u64 _ _ _ _).mono ?_); rintro e w1 ⟨rfl, rfl⟩) | (go_at_call 105; (with_reducible refine (div_i32 _ _ _ _).mono ?_); rintro e w1 ⟨rfl, rfl⟩) | (go_at_call 106; (with_reducible refine (div_u32 _ _ _ _).mono ?_); rintro e w1 ⟨rfl, rfl⟩))
  go_ret
  exact ⟨rfl, rfl⟩

theorem divided_tft (a b : BitVec 64) (w : World) : Calls Try.prog 84 #[.bool (true), .bool (false), .bool (true), .int .u64 (N a), .int .u64 (N b)] w fun e w' => e = .returned (.int .u64 (N (a % b))) ∧ w = w' := by
  go_enter Try.func84, Try.ntmps84
  go_wp2_with (first | (go_at_call 103; (with_reducible refine (div_i64 _ _ _ _).mono ?_); rintro e w1 ⟨rfl, rfl⟩) | (go_at_call 104; (with_reducible refine (div_u64 _ _ _ _).mono ?_); rintro e w1 ⟨rfl, rfl⟩) | (go_at_call 105; (with_reducible refine (div_i32 _ _ _ _).mono ?_); rintro e w1 ⟨rfl, rfl⟩) | (go_at_call 106; (with_reducible refine (div_u32 _ _ _ _).mono ?_); rintro e w1 ⟨rfl, rfl⟩))
  go_ret
  exact ⟨rfl, rfl⟩

theorem divided_tff (a b : BitVec 64) (w : World) : Calls Try.prog 84 #[.bool (true), .bool (false), .bool (false), .int .u64 (N a), .int .u64 (N b)] w fun e w' => e = .returned (.int .u64 (N (a / b))) ∧ w = w' := by
  go_enter Try.func84, Try.ntmps84
  go_wp2_with (first | (go_at_call 103; (with_reducible refine (div_i64 _ _ _ _).mono ?_); rintro e w1 ⟨rfl, rfl⟩) | (go_at_call 104; (with_reducible refine (div_u64 _ _ _ _).mono ?_); rintro e w1 ⟨rfl, rfl⟩) | (go_at_call 105; (with_reducible refine (div_i32 _ _ _ _).mono ?_); rintro e w1 ⟨rfl, rfl⟩) | (go_at_call 106; (with_reducible refine (div_u32 _ _ _ _).mono ?_); rintro e w1 ⟨rfl, rfl⟩))
  go_ret
  exact ⟨rfl, rfl⟩

theorem divided_ftt (a b : BitVec 64) (w : World) : Calls Try.prog 84 #[.bool (false), .bool (true), .bool (true), .int .u64 (N a), .int .u64 (N b)] w fun e w' => e = .returned (.int .u64 (N (((a.setWidth 32).srem (b.setWidth 32)).signExtend 64))) ∧ w = w' := by
  go_enter Try.func84, Try.ntmps84
  go_wp2_with (first | (go_at_call 103; (with_reducible refine (div_i64 _ _ _ _).mono ?_); rintro e w1 ⟨rfl, rfl⟩) | (go_at_call 104; (with_reducible refine (div_u64 _ _ _ _).mono ?_); rintro e w1 ⟨rfl, rfl⟩) | (go_at_call 105; (with_reducible refine (div_i32 _ _ _ _).mono ?_); rintro e w1 ⟨rfl, rfl⟩) | (go_at_call 106; (with_reducible refine (div_u32 _ _ _ _).mono ?_); rintro e w1 ⟨rfl, rfl⟩))
  go_ret
  exact ⟨rfl, rfl⟩

theorem divided_ftf (a b : BitVec 64) (w : World) : Calls Try.prog 84 #[.bool (false), .bool (true), .bool (false), .int .u64 (N a), .int .u64 (N b)] w fun e w' => e = .returned (.int .u64 (N (((a.setWidth 32).sdiv (b.setWidth 32)).signExtend 64))) ∧ w = w' := by
  go_enter Try.func84, Try.ntmps84
  go_wp2_with (first | (go_at_call 103; (with_reducible refine (div_i64 _ _ _ _).mono ?_); rintro e w1 ⟨rfl, rfl⟩) | (go_at_call 104; (with_reducible refine (div_u64 _ _ _ _).mono ?_); rintro e w1 ⟨rfl, rfl⟩) | (go_at_call 105; (with_reducible refine (div_i32 _ _ _ _).mono ?_); rintro e w1 ⟨rfl, rfl⟩) | (go_at_call 106; (with_reducible refine (div_u32 _ _ _ _).mono ?_); rintro e w1 ⟨rfl, rfl⟩))
  go_ret
  exact ⟨rfl, rfl⟩

theorem divided_fft (a b : BitVec 64) (w : World) : Calls Try.prog 84 #[.bool (false), .bool (false), .bool (true), .int .u64 (N a), .int .u64 (N b)] w fun e w' => e = .returned (.int .u64 (N (((a.setWidth 32) % (b.setWidth 32)).setWidth 64))) ∧ w = w' := by
  go_enter Try.func84, Try.ntmps84
  go_wp2_with (first | (go_at_call 103; (with_reducible refine (div_i64 _ _ _ _).mono ?_); rintro e w1 ⟨rfl, rfl⟩) | (go_at_call 104; (with_reducible refine (div_u64 _ _ _ _).mono ?_); rintro e w1 ⟨rfl, rfl⟩) | (go_at_call 105; (with_reducible refine (div_i32 _ _ _ _).mono ?_); rintro e w1 ⟨rfl, rfl⟩) | (go_at_call 106; (with_reducible refine (div_u32 _ _ _ _).mono ?_); rintro e w1 ⟨rfl, rfl⟩))
  go_ret
  exact ⟨rfl, rfl⟩

theorem divided_fff (a b : BitVec 64) (w : World) : Calls Try.prog 84 #[.bool (false), .bool (false), .bool (false), .int .u64 (N a), .int .u64 (N b)] w fun e w' => e = .returned (.int .u64 (N (((a.setWidth 32) / (b.setWidth 32)).setWidth 64))) ∧ w = w' := by
  go_enter Try.func84, Try.ntmps84
  go_wp2_with (first | (go_at_call 103; (with_reducible refine (div_i64 _ _ _ _).mono ?_); rintro e w1 ⟨rfl, rfl⟩) | (go_at_call 104; (with_reducible refine (div_u64 _ _ _ _).mono ?_); rintro e w1 ⟨rfl, rfl⟩) | (go_at_call 105; (with_reducible refine (div_i32 _ _ _ _).mono ?_); rintro e w1 ⟨rfl, rfl⟩) | (go_at_call 106; (with_reducible refine (div_u32 _ _ _ _).mono ?_); rintro e w1 ⟨rfl, rfl⟩))
  go_ret
  exact ⟨rfl, rfl⟩

end Hk

namespace Hk
open Go Go.RowKit Go.Proofs
set_option linter.unusedSimpArgs false
set_option linter.unusedVariables false
set_option maxRecDepth 100000
theorem sign_o1 (a : BitVec 64) (k : Int) (h : k < 1) (w : World) : Calls Try.prog 83 #[.int .u64 (N a), .int .i64 k] w fun e w' => e = .returned (.int .u64 (N (Alu.sgn a k))) ∧ w = w' := by
  rw [Alu.sgn_out (.inl h)]
  go_enter Try.func83, Try.ntmps83
  go_wp2
  go_ret
  exact ⟨rfl, rfl⟩

theorem sign_o2 (a : BitVec 64) (k : Int) (h : 64 < k) (w : World) : Calls Try.prog 83 #[.int .u64 (N a), .int .i64 k] w fun e w' => e = .returned (.int .u64 (N (Alu.sgn a k))) ∧ w = w' := by
  rw [Alu.sgn_out (.inr h)]
  have h1 : ¬ k < 1 := by omega
  go_enter Try.func83, Try.ntmps83
  go_wp2
  go_ret
  exact ⟨rfl, rfl⟩

theorem sign_in (a : BitVec 64) (k : Int) (h0 : 1 ≤ k) (h1 : k ≤ 64) (w : World) : Calls Try.prog 83 #[.int .u64 (N a), .int .i64 k] w fun e w' => e = .returned (.int .u64 (N (Alu.sgn a k))) ∧ w = w' := by
  rw [Alu.sgn_in h0 h1]
  have h2 : ¬ k < 1 := by omega
  have h3 : ¬ 64 < k := by omega
  have h4 : 0 ≤ 64 - k := by omega
  have h5 : wrap64 (64 - k) = 64 - k := by unfold wrap64; omega
  go_enter Try.func83, Try.ntmps83
  go_wp2
  go_ret
  exact ⟨rfl, rfl⟩

theorem sign_c (a : BitVec 64) (k : Int) (w : World) : Calls Try.prog 83 #[.int .u64 (N a), .int .i64 k] w fun e w' => e = .returned (.int .u64 (N (Alu.sgn a k))) ∧ w = w' := by
  by_cases h0 : k < 1
  · exact sign_o1 a k h0 w
  by_cases h1 : 64 < k
  · exact sign_o2 a k h1 w
  exact sign_in a k (by omega) (by omega) w

end Hk

namespace Hk
open Go Go.RowKit Go.Proofs
set_option linter.unusedSimpArgs false
set_option linter.unusedVariables false
set_option maxRecDepth 100000
theorem ado_w_add (a b : BitVec 64) (w : World) : Calls Try.prog 41 #[.int .u8 0, .bool true, .int .i16 0, .int .u64 (N a), .int .u64 (N b)] w fun e w' => e = .returned (.tuple #[.int .u64 (N (Alu.val (Alu.go (0) true (0) a b))), .int .i64 (Alu.err (Alu.go (0) true (0) a b))]) ∧ w = w' := by
  rw [show Alu.go 0 true 0 a b = some (a + b) from rfl]; simp only [Alu.val_some, Alu.err_some, Alu.val_none, Alu.err_none]
  go_enter Try.func41, Try.ntmps41
  go_wp2_with (first | (go_at_call 81; (with_reducible refine (simple_add _ _ _).mono ?_); rintro e w1 ⟨rfl, rfl⟩))
  go_ret2
  first | exact ⟨rfl, rfl⟩ | exact ⟨by simp, rfl⟩

theorem ado_n_add (a b : BitVec 64) (w : World) : Calls Try.prog 41 #[.int .u8 0, .bool false, .int .i16 0, .int .u64 (N a), .int .u64 (N b)] w fun e w' => e = .returned (.tuple #[.int .u64 (N (Alu.val (Alu.go (0) false (0) a b))), .int .i64 (Alu.err (Alu.go (0) false (0) a b))]) ∧ w = w' := by
  rw [Alu.nn_add a b]; simp only [Alu.val_some, Alu.err_some, Alu.val_none, Alu.err_none]
  go_enter Try.func41, Try.ntmps41
  go_wp2_with (first | (go_at_call 81; (with_reducible refine (simple_add _ _ _).mono ?_); rintro e w1 ⟨rfl, rfl⟩))
  go_ret2
  first | exact ⟨rfl, rfl⟩ | exact ⟨by simp, rfl⟩

theorem ado_o_add (wd : Bool) (off : Int) (h : ¬ off = 0) (a b : BitVec 64) (w : World) : Calls Try.prog 41 #[.int .u8 0, .bool wd, .int .i16 off, .int .u64 (N a), .int .u64 (N b)] w fun e w' => e = .returned (.tuple #[.int .u64 (N (Alu.val (Alu.go (0) wd (off) a b))), .int .i64 (Alu.err (Alu.go (0) wd (off) a b))]) ∧ w = w' := by
  rw [Alu.go_off a b 0 wd off h (by decide) (by decide) (by decide)]; simp only [Alu.val_some, Alu.err_some, Alu.val_none, Alu.err_none]
  have b0 : (off == 0) = false := by simpa using h
  have d0 : (off != 0) = true := by simpa using h
  cases wd
  all_goals
    go_enter Try.func41, Try.ntmps41
    go_wp2_with (first | (go_at_call 81; (with_reducible refine (simple_add _ _ _).mono ?_); rintro e w1 ⟨rfl, rfl⟩))
    go_ret2
    first | exact ⟨rfl, rfl⟩ | exact ⟨by simp, rfl⟩

theorem ado_w_sub (a b : BitVec 64) (w : World) : Calls Try.prog 41 #[.int .u8 16, .bool true, .int .i16 0, .int .u64 (N a), .int .u64 (N b)] w fun e w' => e = .returned (.tuple #[.int .u64 (N (Alu.val (Alu.go (16) true (0) a b))), .int .i64 (Alu.err (Alu.go (16) true (0) a b))]) ∧ w = w' := by
  rw [show Alu.go 16 true 0 a b = some (a - b) from rfl]; simp only [Alu.val_some, Alu.err_some, Alu.val_none, Alu.err_none]
  go_enter Try.func41, Try.ntmps41
  go_wp2_with (first | (go_at_call 81; (with_reducible refine (simple_sub _ _ _).mono ?_); rintro e w1 ⟨rfl, rfl⟩))
  go_ret2
  first | exact ⟨rfl, rfl⟩ | exact ⟨by simp, rfl⟩

theorem ado_n_sub (a b : BitVec 64) (w : World) : Calls Try.prog 41 #[.int .u8 16, .bool false, .int .i16 0, .int .u64 (N a), .int .u64 (N b)] w fun e w' => e = .returned (.tuple #[.int .u64 (N (Alu.val (Alu.go (16) false (0) a b))), .int .i64 (Alu.err (Alu.go (16) false (0) a b))]) ∧ w = w' := by
  rw [Alu.nn_sub a b]; simp only [Alu.val_some, Alu.err_some, Alu.val_none, Alu.err_none]
  go_enter Try.func41, Try.ntmps41
  go_wp2_with (first | (go_at_call 81; (with_reducible refine (simple_sub _ _ _).mono ?_); rintro e w1 ⟨rfl, rfl⟩))
  go_ret2
  first | exact ⟨rfl, rfl⟩ | exact ⟨by simp, rfl⟩

theorem ado_o_sub (wd : Bool) (off : Int) (h : ¬ off = 0) (a b : BitVec 64) (w : World) : Calls Try.prog 41 #[.int .u8 16, .bool wd, .int .i16 off, .int .u64 (N a), .int .u64 (N b)] w fun e w' => e = .returned (.tuple #[.int .u64 (N (Alu.val (Alu.go (16) wd (off) a b))), .int .i64 (Alu.err (Alu.go (16) wd (off) a b))]) ∧ w = w' := by
  rw [Alu.go_off a b 16 wd off h (by decide) (by decide) (by decide)]; simp only [Alu.val_some, Alu.err_some, Alu.val_none, Alu.err_none]
  have b0 : (off == 0) = false := by simpa using h
  have d0 : (off != 0) = true := by simpa using h
  cases wd
  all_goals
    go_enter Try.func41, Try.ntmps41
    go_wp2_with (first | (go_at_call 81; (with_reducible refine (simple_sub _ _ _).mono ?_); rintro e w1 ⟨rfl, rfl⟩))
    go_ret2
    first | exact ⟨rfl, rfl⟩ | exact ⟨by simp, rfl⟩

theorem ado_w_mul (a b : BitVec 64) (w : World) : Calls Try.prog 41 #[.int .u8 32, .bool true, .int .i16 0, .int .u64 (N a), .int .u64 (N b)] w fun e w' => e = .returned (.tuple #[.int .u64 (N (Alu.val (Alu.go (32) true (0) a b))), .int .i64 (Alu.err (Alu.go (32) true (0) a b))]) ∧ w = w' := by
  rw [show Alu.go 32 true 0 a b = some (a * b) from rfl]; simp only [Alu.val_some, Alu.err_some, Alu.val_none, Alu.err_none]
  go_enter Try.func41, Try.ntmps41
  go_wp2_with (first | (go_at_call 81; (with_reducible refine (simple_mul _ _ _).mono ?_); rintro e w1 ⟨rfl, rfl⟩))
  go_ret2
  first | exact ⟨rfl, rfl⟩ | exact ⟨by simp, rfl⟩

theorem ado_n_mul (a b : BitVec 64) (w : World) : Calls Try.prog 41 #[.int .u8 32, .bool false, .int .i16 0, .int .u64 (N a), .int .u64 (N b)] w fun e w' => e = .returned (.tuple #[.int .u64 (N (Alu.val (Alu.go (32) false (0) a b))), .int .i64 (Alu.err (Alu.go (32) false (0) a b))]) ∧ w = w' := by
  rw [Alu.nn_mul a b]; simp only [Alu.val_some, Alu.err_some, Alu.val_none, Alu.err_none]
  go_enter Try.func41, Try.ntmps41
  go_wp2_with (first | (go_at_call 81; (with_reducible refine (simple_mul _ _ _).mono ?_); rintro e w1 ⟨rfl, rfl⟩))
  go_ret2
  first | exact ⟨rfl, rfl⟩ | exact ⟨by simp, rfl⟩

theorem ado_o_mul (wd : Bool) (off : Int) (h : ¬ off = 0) (a b : BitVec 64) (w : World) : Calls Try.prog 41 #[.int .u8 32, .bool wd, .int .i16 off, .int .u64 (N a), .int .u64 (N b)] w fun e w' => e = .returned (.tuple #[.int .u64 (N (Alu.val (Alu.go (32) wd (off) a b))), .int .i64 (Alu.err (Alu.go (32) wd (off) a b))]) ∧ w = w' := by
  rw [Alu.go_off a b 32 wd off h (by decide) (by decide) (by decide)]; simp only [Alu.val_some, Alu.err_some, Alu.val_none, Alu.err_none]
  have b0 : (off == 0) = false := by simpa using h
  have d0 : (off != 0) = true := by simpa using h
  cases wd
  all_goals
    go_enter Try.func41, Try.ntmps41
    go_wp2_with (first | (go_at_call 81; (with_reducible refine (simple_mul _ _ _).mono ?_); rintro e w1 ⟨rfl, rfl⟩))
    go_ret2
    first | exact ⟨rfl, rfl⟩ | exact ⟨by simp, rfl⟩

theorem ado_w_or (a b : BitVec 64) (w : World) : Calls Try.prog 41 #[.int .u8 64, .bool true, .int .i16 0, .int .u64 (N a), .int .u64 (N b)] w fun e w' => e = .returned (.tuple #[.int .u64 (N (Alu.val (Alu.go (64) true (0) a b))), .int .i64 (Alu.err (Alu.go (64) true (0) a b))]) ∧ w = w' := by
  rw [show Alu.go 64 true 0 a b = some (a ||| b) from rfl]; simp only [Alu.val_some, Alu.err_some, Alu.val_none, Alu.err_none]
  go_enter Try.func41, Try.ntmps41
  go_wp2_with (first | (go_at_call 81; (with_reducible refine (simple_or _ _ _).mono ?_); rintro e w1 ⟨rfl, rfl⟩))
  go_ret2
  first | exact ⟨rfl, rfl⟩ | exact ⟨by simp, rfl⟩

theorem ado_n_or (a b : BitVec 64) (w : World) : Calls Try.prog 41 #[.int .u8 64, .bool false, .int .i16 0, .int .u64 (N a), .int .u64 (N b)] w fun e w' => e = .returned (.tuple #[.int .u64 (N (Alu.val (Alu.go (64) false (0) a b))), .int .i64 (Alu.err (Alu.go (64) false (0) a b))]) ∧ w = w' := by
  rw [Alu.nn_or a b]; simp only [Alu.val_some, Alu.err_some, Alu.val_none, Alu.err_none]
  go_enter Try.func41, Try.ntmps41
  go_wp2_with (first | (go_at_call 81; (with_reducible refine (simple_or _ _ _).mono ?_); rintro e w1 ⟨rfl, rfl⟩))
  go_ret2
  first | exact ⟨rfl, rfl⟩ | exact ⟨by simp, rfl⟩

theorem ado_o_or (wd : Bool) (off : Int) (h : ¬ off = 0) (a b : BitVec 64) (w : World) : Calls Try.prog 41 #[.int .u8 64, .bool wd, .int .i16 off, .int .u64 (N a), .int .u64 (N b)] w fun e w' => e = .returned (.tuple #[.int .u64 (N (Alu.val (Alu.go (64) wd (off) a b))), .int .i64 (Alu.err (Alu.go (64) wd (off) a b))]) ∧ w = w' := by
  rw [Alu.go_off a b 64 wd off h (by decide) (by decide) (by decide)]; simp only [Alu.val_some, Alu.err_some, Alu.val_none, Alu.err_none]
  have b0 : (off == 0) = false := by simpa using h
  have d0 : (off != 0) = true := by simpa using h
  cases wd
  all_goals
    go_enter Try.func41, Try.ntmps41
    go_wp2_with (first | (go_at_call 81; (with_reducible refine (simple_or _ _ _).mono ?_); rintro e w1 ⟨rfl, rfl⟩))
    go_ret2
    first | exact ⟨rfl, rfl⟩ | exact ⟨by simp, rfl⟩

theorem ado_w_and (a b : BitVec 64) (w : World) : Calls Try.prog 41 #[.int .u8 80, .bool true, .int .i16 0, .int .u64 (N a), .int .u64 (N b)] w fun e w' => e = .returned (.tuple #[.int .u64 (N (Alu.val (Alu.go (80) true (0) a b))), .int .i64 (Alu.err (Alu.go (80) true (0) a b))]) ∧ w = w' := by
  rw [show Alu.go 80 true 0 a b = some (a &&& b) from rfl]; simp only [Alu.val_some, Alu.err_some, Alu.val_none, Alu.err_none]
  go_enter Try.func41, Try.ntmps41
  go_wp2_with (first | (go_at_call 81; (with_reducible refine (simple_and _ _ _).mono ?_); rintro e w1 ⟨rfl, rfl⟩))
  go_ret2
  first | exact ⟨rfl, rfl⟩ | exact ⟨by simp, rfl⟩

theorem ado_n_and (a b : BitVec 64) (w : World) : Calls Try.prog 41 #[.int .u8 80, .bool false, .int .i16 0, .int .u64 (N a), .int .u64 (N b)] w fun e w' => e = .returned (.tuple #[.int .u64 (N (Alu.val (Alu.go (80) false (0) a b))), .int .i64 (Alu.err (Alu.go (80) false (0) a b))]) ∧ w = w' := by
  rw [Alu.nn_and a b]; simp only [Alu.val_some, Alu.err_some, Alu.val_none, Alu.err_none]
  go_enter Try.func41, Try.ntmps41
  go_wp2_with (first | (go_at_call 81; (with_reducible refine (simple_and _ _ _).mono ?_); rintro e w1 ⟨rfl, rfl⟩))
  go_ret2
  first | exact ⟨rfl, rfl⟩ | exact ⟨by simp, rfl⟩

theorem ado_o_and (wd : Bool) (off : Int) (h : ¬ off = 0) (a b : BitVec 64) (w : World) : Calls Try.prog 41 #[.int .u8 80, .bool wd, .int .i16 off, .int .u64 (N a), .int .u64 (N b)] w fun e w' => e = .returned (.tuple #[.int .u64 (N (Alu.val (Alu.go (80) wd (off) a b))), .int .i64 (Alu.err (Alu.go (80) wd (off) a b))]) ∧ w = w' := by
  rw [Alu.go_off a b 80 wd off h (by decide) (by decide) (by decide)]; simp only [Alu.val_some, Alu.err_some, Alu.val_none, Alu.err_none]
  have b0 : (off == 0) = false := by simpa using h
  have d0 : (off != 0) = true := by simpa using h
  cases wd
  all_goals
    go_enter Try.func41, Try.ntmps41
    go_wp2_with (first | (go_at_call 81; (with_reducible refine (simple_and _ _ _).mono ?_); rintro e w1 ⟨rfl, rfl⟩))
    go_ret2
    first | exact ⟨rfl, rfl⟩ | exact ⟨by simp, rfl⟩

theorem ado_w_xor (a b : BitVec 64) (w : World) : Calls Try.prog 41 #[.int .u8 160, .bool true, .int .i16 0, .int .u64 (N a), .int .u64 (N b)] w fun e w' => e = .returned (.tuple #[.int .u64 (N (Alu.val (Alu.go (160) true (0) a b))), .int .i64 (Alu.err (Alu.go (160) true (0) a b))]) ∧ w = w' := by
  rw [show Alu.go 160 true 0 a b = some (a ^^^ b) from rfl]; simp only [Alu.val_some, Alu.err_some, Alu.val_none, Alu.err_none]
  go_enter Try.func41, Try.ntmps41
  go_wp2_with (first | (go_at_call 81; (with_reducible refine (simple_xor _ _ _).mono ?_); rintro e w1 ⟨rfl, rfl⟩))
  go_ret2
  first | exact ⟨rfl, rfl⟩ | exact ⟨by simp, rfl⟩

theorem ado_n_xor (a b : BitVec 64) (w : World) : Calls Try.prog 41 #[.int .u8 160, .bool false, .int .i16 0, .int .u64 (N a), .int .u64 (N b)] w fun e w' => e = .returned (.tuple #[.int .u64 (N (Alu.val (Alu.go (160) false (0) a b))), .int .i64 (Alu.err (Alu.go (160) false (0) a b))]) ∧ w = w' := by
  rw [Alu.nn_xor a b]; simp only [Alu.val_some, Alu.err_some, Alu.val_none, Alu.err_none]
  go_enter Try.func41, Try.ntmps41
  go_wp2_with (first | (go_at_call 81; (with_reducible refine (simple_xor _ _ _).mono ?_); rintro e w1 ⟨rfl, rfl⟩))
  go_ret2
  first | exact ⟨rfl, rfl⟩ | exact ⟨by simp, rfl⟩

theorem ado_o_xor (wd : Bool) (off : Int) (h : ¬ off = 0) (a b : BitVec 64) (w : World) : Calls Try.prog 41 #[.int .u8 160, .bool wd, .int .i16 off, .int .u64 (N a), .int .u64 (N b)] w fun e w' => e = .returned (.tuple #[.int .u64 (N (Alu.val (Alu.go (160) wd (off) a b))), .int .i64 (Alu.err (Alu.go (160) wd (off) a b))]) ∧ w = w' := by
  rw [Alu.go_off a b 160 wd off h (by decide) (by decide) (by decide)]; simp only [Alu.val_some, Alu.err_some, Alu.val_none, Alu.err_none]
  have b0 : (off == 0) = false := by simpa using h
  have d0 : (off != 0) = true := by simpa using h
  cases wd
  all_goals
    go_enter Try.func41, Try.ntmps41
    go_wp2_with (first | (go_at_call 81; (with_reducible refine (simple_xor _ _ _).mono ?_); rintro e w1 ⟨rfl, rfl⟩))
    go_ret2
    first | exact ⟨rfl, rfl⟩ | exact ⟨by simp, rfl⟩

theorem ado_w_neg (a b : BitVec 64) (w : World) : Calls Try.prog 41 #[.int .u8 128, .bool true, .int .i16 0, .int .u64 (N a), .int .u64 (N b)] w fun e w' => e = .returned (.tuple #[.int .u64 (N (Alu.val (Alu.go (128) true (0) a b))), .int .i64 (Alu.err (Alu.go (128) true (0) a b))]) ∧ w = w' := by
  rw [show Alu.go 128 true 0 a b = some (-a) from rfl]; simp only [Alu.val_some, Alu.err_some, Alu.val_none, Alu.err_none]
  go_enter Try.func41, Try.ntmps41
  go_wp2_with (first | (go_at_call 81; (with_reducible refine (simple_neg _ _ _).mono ?_); rintro e w1 ⟨rfl, rfl⟩))
  go_ret2
  first | exact ⟨rfl, rfl⟩ | exact ⟨by simp, rfl⟩

theorem ado_n_neg (a b : BitVec 64) (w : World) : Calls Try.prog 41 #[.int .u8 128, .bool false, .int .i16 0, .int .u64 (N a), .int .u64 (N b)] w fun e w' => e = .returned (.tuple #[.int .u64 (N (Alu.val (Alu.go (128) false (0) a b))), .int .i64 (Alu.err (Alu.go (128) false (0) a b))]) ∧ w = w' := by
  rw [Alu.nn_neg a b]; simp only [Alu.val_some, Alu.err_some, Alu.val_none, Alu.err_none]
  go_enter Try.func41, Try.ntmps41
  go_wp2_with (first | (go_at_call 81; (with_reducible refine (simple_neg _ _ _).mono ?_); rintro e w1 ⟨rfl, rfl⟩))
  go_ret2
  first | exact ⟨rfl, rfl⟩ | exact ⟨by simp, rfl⟩

theorem ado_o_neg (wd : Bool) (off : Int) (h : ¬ off = 0) (a b : BitVec 64) (w : World) : Calls Try.prog 41 #[.int .u8 128, .bool wd, .int .i16 off, .int .u64 (N a), .int .u64 (N b)] w fun e w' => e = .returned (.tuple #[.int .u64 (N (Alu.val (Alu.go (128) wd (off) a b))), .int .i64 (Alu.err (Alu.go (128) wd (off) a b))]) ∧ w = w' := by
  rw [Alu.go_off a b 128 wd off h (by decide) (by decide) (by decide)]; simp only [Alu.val_some, Alu.err_some, Alu.val_none, Alu.err_none]
  have b0 : (off == 0) = false := by simpa using h
  have d0 : (off != 0) = true := by simpa using h
  cases wd
  all_goals
    go_enter Try.func41, Try.ntmps41
    go_wp2_with (first | (go_at_call 81; (with_reducible refine (simple_neg _ _ _).mono ?_); rintro e w1 ⟨rfl, rfl⟩))
    go_ret2
    first | exact ⟨rfl, rfl⟩ | exact ⟨by simp, rfl⟩

theorem ado_w_mov (a b : BitVec 64) (w : World) : Calls Try.prog 41 #[.int .u8 176, .bool true, .int .i16 0, .int .u64 (N a), .int .u64 (N b)] w fun e w' => e = .returned (.tuple #[.int .u64 (N (Alu.val (Alu.go (176) true (0) a b))), .int .i64 (Alu.err (Alu.go (176) true (0) a b))]) ∧ w = w' := by
  rw [show Alu.go 176 true 0 a b = some b from rfl]; simp only [Alu.val_some, Alu.err_some, Alu.val_none, Alu.err_none]
  go_enter Try.func41, Try.ntmps41
  go_wp2_with (first | (go_at_call 81; (with_reducible refine (simple_mov _ _ _).mono ?_); rintro e w1 ⟨rfl, rfl⟩))
  go_ret2
  first | exact ⟨rfl, rfl⟩ | exact ⟨by simp, rfl⟩

theorem ado_n_mov (a b : BitVec 64) (w : World) : Calls Try.prog 41 #[.int .u8 176, .bool false, .int .i16 0, .int .u64 (N a), .int .u64 (N b)] w fun e w' => e = .returned (.tuple #[.int .u64 (N (Alu.val (Alu.go (176) false (0) a b))), .int .i64 (Alu.err (Alu.go (176) false (0) a b))]) ∧ w = w' := by
  rw [Alu.nn_mov a b]; simp only [Alu.val_some, Alu.err_some, Alu.val_none, Alu.err_none]
  go_enter Try.func41, Try.ntmps41
  go_wp2_with (first | (go_at_call 81; (with_reducible refine (simple_mov _ _ _).mono ?_); rintro e w1 ⟨rfl, rfl⟩))
  go_ret2
  first | exact ⟨rfl, rfl⟩ | exact ⟨by simp, rfl⟩

theorem ado_w_lsh (a b : BitVec 64) (w : World) : Calls Try.prog 41 #[.int .u8 96, .bool true, .int .i16 0, .int .u64 (N a), .int .u64 (N b)] w fun e w' => e = .returned (.tuple #[.int .u64 (N (Alu.val (Alu.go (96) true (0) a b))), .int .i64 (Alu.err (Alu.go (96) true (0) a b))]) ∧ w = w' := by
  rw [Alu.ww_lsh a b]; simp only [Alu.val_some, Alu.err_some, Alu.val_none, Alu.err_none]
  go_enter Try.func41, Try.ntmps41
  go_wp2_with (first | (go_at_call 81; (with_reducible refine (simple_else _ (by first | assumption | decide) (by first | assumption | decide) (by first | assumption | decide) (by first | assumption | decide) (by first | assumption | decide) (by first | assumption | decide) (by first | assumption | decide) (by first | assumption | decide) _ _ _).mono ?_); rintro e w1 ⟨rfl, rfl⟩) | (go_at_call 82; (with_reducible refine (moved_w_lsh _ _ _).mono ?_); rintro e w1 ⟨rfl, rfl⟩))
  go_ret2
  first | exact ⟨rfl, rfl⟩ | exact ⟨by simp, rfl⟩

theorem ado_n_lsh (a b : BitVec 64) (w : World) : Calls Try.prog 41 #[.int .u8 96, .bool false, .int .i16 0, .int .u64 (N a), .int .u64 (N b)] w fun e w' => e = .returned (.tuple #[.int .u64 (N (Alu.val (Alu.go (96) false (0) a b))), .int .i64 (Alu.err (Alu.go (96) false (0) a b))]) ∧ w = w' := by
  rw [Alu.nn_lsh a b]; simp only [Alu.val_some, Alu.err_some, Alu.val_none, Alu.err_none]
  go_enter Try.func41, Try.ntmps41
  go_wp2_with (first | (go_at_call 81; (with_reducible refine (simple_else _ (by first | assumption | decide) (by first | assumption | decide) (by first | assumption | decide) (by first | assumption | decide) (by first | assumption | decide) (by first | assumption | decide) (by first | assumption | decide) (by first | assumption | decide) _ _ _).mono ?_); rintro e w1 ⟨rfl, rfl⟩) | (go_at_call 82; (with_reducible refine (moved_n_lsh _ _ _).mono ?_); rintro e w1 ⟨rfl, rfl⟩))
  go_ret2
  first | exact ⟨rfl, rfl⟩ | exact ⟨by simp, rfl⟩

theorem ado_o_lsh (wd : Bool) (off : Int) (h : ¬ off = 0) (a b : BitVec 64) (w : World) : Calls Try.prog 41 #[.int .u8 96, .bool wd, .int .i16 off, .int .u64 (N a), .int .u64 (N b)] w fun e w' => e = .returned (.tuple #[.int .u64 (N (Alu.val (Alu.go (96) wd (off) a b))), .int .i64 (Alu.err (Alu.go (96) wd (off) a b))]) ∧ w = w' := by
  rw [Alu.go_off a b 96 wd off h (by decide) (by decide) (by decide)]; simp only [Alu.val_some, Alu.err_some, Alu.val_none, Alu.err_none]
  have b0 : (off == 0) = false := by simpa using h
  have d0 : (off != 0) = true := by simpa using h
  cases wd
  all_goals
    go_enter Try.func41, Try.ntmps41
    go_wp2_with (first | (go_at_call 81; (with_reducible refine (simple_else _ (by first | assumption | decide) (by first | assumption | decide) (by first | assumption | decide) (by first | assumption | decide) (by first | assumption | decide) (by first | assumption | decide) (by first | assumption | decide) (by first | assumption | decide) _ _ _).mono ?_); rintro e w1 ⟨rfl, rfl⟩) | (go_at_call 82; (with_reducible refine (moved_w_lsh _ _ _).mono ?_); rintro e w1 ⟨rfl, rfl⟩) | (go_at_call 82; (with_reducible refine (moved_n_lsh _ _ _).mono ?_); rintro e w1 ⟨rfl, rfl⟩))
    go_ret2
    first | exact ⟨rfl, rfl⟩ | exact ⟨by simp, rfl⟩

theorem ado_w_rsh (a b : BitVec 64) (w : World) : Calls Try.prog 41 #[.int .u8 112, .bool true, .int .i16 0, .int .u64 (N a), .int .u64 (N b)] w fun e w' => e = .returned (.tuple #[.int .u64 (N (Alu.val (Alu.go (112) true (0) a b))), .int .i64 (Alu.err (Alu.go (112) true (0) a b))]) ∧ w = w' := by
  rw [Alu.ww_rsh a b]; simp only [Alu.val_some, Alu.err_some, Alu.val_none, Alu.err_none]
  go_enter Try.func41, Try.ntmps41
  go_wp2_with (first | (go_at_call 81; (with_reducible refine (simple_else _ (by first | assumption | decide) (by first | assumption | decide) (by first | assumption | decide) (by first | assumption | decide) (by first | assumption | decide) (by first | assumption | decide) (by first | assumption | decide) (by first | assumption | decide) _ _ _).mono ?_); rintro e w1 ⟨rfl, rfl⟩) | (go_at_call 82; (with_reducible refine (moved_w_rsh _ _ _).mono ?_); rintro e w1 ⟨rfl, rfl⟩))
  go_ret2
  first | exact ⟨rfl, rfl⟩ | exact ⟨by simp, rfl⟩

theorem ado_n_rsh (a b : BitVec 64) (w : World) : Calls Try.prog 41 #[.int .u8 112, .bool false, .int .i16 0, .int .u64 (N a), .int .u64 (N b)] w fun e w' => e = .returned (.tuple #[.int .u64 (N (Alu.val (Alu.go (112) false (0) a b))), .int .i64 (Alu.err (Alu.go (112) false (0) a b))]) ∧ w = w' := by
  rw [Alu.nn_rsh a b]; simp only [Alu.val_some, Alu.err_some, Alu.val_none, Alu.err_none]
  go_enter Try.func41, Try.ntmps41
  go_wp2_with (first | (go_at_call 81; (with_reducible refine (simple_else _ (by first | assumption | decide) (by first | assumption | decide) (by first | assumption | decide) (by first | assumption | decide) (by first | assumption | decide) (by first | assumption | decide) (by first | assumption | decide) (by first | assumption | decide) _ _ _).mono ?_); rintro e w1 ⟨rfl, rfl⟩) | (go_at_call 82; (with_reducible refine (moved_n_rsh _ _ _).mono ?_); rintro e w1 ⟨rfl, rfl⟩))
  go_ret2
  first | exact ⟨rfl, rfl⟩ | exact ⟨by simp, rfl⟩

theorem ado_o_rsh (wd : Bool) (off : Int) (h : ¬ off = 0) (a b : BitVec 64) (w : World) : Calls Try.prog 41 #[.int .u8 112, .bool wd, .int .i16 off, .int .u64 (N a), .int .u64 (N b)] w fun e w' => e = .returned (.tuple #[.int .u64 (N (Alu.val (Alu.go (112) wd (off) a b))), .int .i64 (Alu.err (Alu.go (112) wd (off) a b))]) ∧ w = w' := by
  rw [Alu.go_off a b 112 wd off h (by decide) (by decide) (by decide)]; simp only [Alu.val_some, Alu.err_some, Alu.val_none, Alu.err_none]
  have b0 : (off == 0) = false := by simpa using h
  have d0 : (off != 0) = true := by simpa using h
  cases wd
  all_goals
    go_enter Try.func41, Try.ntmps41
    go_wp2_with (first | (go_at_call 81; (with_reducible refine (simple_else _ (by first | assumption | decide) (by first | assumption | decide) (by first | assumption | decide) (by first | assumption | decide) (by first | assumption | decide) (by first | assumption | decide) (by first | assumption | decide) (by first | assumption | decide) _ _ _).mono ?_); rintro e w1 ⟨rfl, rfl⟩) | (go_at_call 82; (with_reducible refine (moved_w_rsh _ _ _).mono ?_); rintro e w1 ⟨rfl, rfl⟩) | (go_at_call 82; (with_reducible refine (moved_n_rsh _ _ _).mono ?_); rintro e w1 ⟨rfl, rfl⟩))
    go_ret2
    first | exact ⟨rfl, rfl⟩ | exact ⟨by simp, rfl⟩

theorem ado_w_arsh (a b : BitVec 64) (w : World) : Calls Try.prog 41 #[.int .u8 192, .bool true, .int .i16 0, .int .u64 (N a), .int .u64 (N b)] w fun e w' => e = .returned (.tuple #[.int .u64 (N (Alu.val (Alu.go (192) true (0) a b))), .int .i64 (Alu.err (Alu.go (192) true (0) a b))]) ∧ w = w' := by
  rw [Alu.ww_arsh a b]; simp only [Alu.val_some, Alu.err_some, Alu.val_none, Alu.err_none]
  go_enter Try.func41, Try.ntmps41
  go_wp2_with (first | (go_at_call 81; (with_reducible refine (simple_else _ (by first | assumption | decide) (by first | assumption | decide) (by first | assumption | decide) (by first | assumption | decide) (by first | assumption | decide) (by first | assumption | decide) (by first | assumption | decide) (by first | assumption | decide) _ _ _).mono ?_); rintro e w1 ⟨rfl, rfl⟩) | (go_at_call 82; (with_reducible refine (moved_w_arsh _ _ _).mono ?_); rintro e w1 ⟨rfl, rfl⟩))
  go_ret2
  first | exact ⟨rfl, rfl⟩ | exact ⟨by simp, rfl⟩

theorem ado_n_arsh (a b : BitVec 64) (w : World) : Calls Try.prog 41 #[.int .u8 192, .bool false, .int .i16 0, .int .u64 (N a), .int .u64 (N b)] w fun e w' => e = .returned (.tuple #[.int .u64 (N (Alu.val (Alu.go (192) false (0) a b))), .int .i64 (Alu.err (Alu.go (192) false (0) a b))]) ∧ w = w' := by
  rw [Alu.nn_arsh a b]; simp only [Alu.val_some, Alu.err_some, Alu.val_none, Alu.err_none]
  go_enter Try.func41, Try.ntmps41
  go_wp2_with (first | (go_at_call 81; (with_reducible refine (simple_else _ (by first | assumption | decide) (by first | assumption | decide) (by first | assumption | decide) (by first | assumption | decide) (by first | assumption | decide) (by first | assumption | decide) (by first | assumption | decide) (by first | assumption | decide) _ _ _).mono ?_); rintro e w1 ⟨rfl, rfl⟩) | (go_at_call 82; (with_reducible refine (moved_n_arsh _ _ _).mono ?_); rintro e w1 ⟨rfl, rfl⟩))
  go_ret2
  first | exact ⟨rfl, rfl⟩ | exact ⟨by simp, rfl⟩

theorem ado_o_arsh (wd : Bool) (off : Int) (h : ¬ off = 0) (a b : BitVec 64) (w : World) : Calls Try.prog 41 #[.int .u8 192, .bool wd, .int .i16 off, .int .u64 (N a), .int .u64 (N b)] w fun e w' => e = .returned (.tuple #[.int .u64 (N (Alu.val (Alu.go (192) wd (off) a b))), .int .i64 (Alu.err (Alu.go (192) wd (off) a b))]) ∧ w = w' := by
  rw [Alu.go_off a b 192 wd off h (by decide) (by decide) (by decide)]; simp only [Alu.val_some, Alu.err_some, Alu.val_none, Alu.err_none]
  have b0 : (off == 0) = false := by simpa using h
  have d0 : (off != 0) = true := by simpa using h
  cases wd
  all_goals
    go_enter Try.func41, Try.ntmps41
    go_wp2_with (first | (go_at_call 81; (with_reducible refine (simple_else _ (by first | assumption | decide) (by first | assumption | decide) (by first | assumption | decide) (by first | assumption | decide) (by first | assumption | decide) (by first | assumption | decide) (by first | assumption | decide) (by first | assumption | decide) _ _ _).mono ?_); rintro e w1 ⟨rfl, rfl⟩) | (go_at_call 82; (with_reducible refine (moved_w_arsh _ _ _).mono ?_); rintro e w1 ⟨rfl, rfl⟩) | (go_at_call 82; (with_reducible refine (moved_n_arsh _ _ _).mono ?_); rintro e w1 ⟨rfl, rfl⟩))
    go_ret2
    first | exact ⟨rfl, rfl⟩ | exact ⟨by simp, rfl⟩

theorem ado_w_s8 (a b : BitVec 64) (w : World) : Calls Try.prog 41 #[.int .u8 176, .bool true, .int .i16 8, .int .u64 (N a), .int .u64 (N b)] w fun e w' => e = .returned (.tuple #[.int .u64 (N (Alu.val (Alu.go (176) true (8) a b))), .int .i64 (Alu.err (Alu.go (176) true (8) a b))]) ∧ w = w' := by
  rw [Alu.ww_s8 a b]; simp only [Alu.val_some, Alu.err_some, Alu.val_none, Alu.err_none]
  go_enter Try.func41, Try.ntmps41
  go_wp2_with (first | (go_at_call 81; (with_reducible refine (simple_mov _ _ _).mono ?_); rintro e w1 ⟨rfl, rfl⟩) | (go_at_call 83; (with_reducible refine (sign_c _ _ _).mono ?_); rintro e w1 ⟨rfl, rfl⟩))
  go_ret2
  first | exact ⟨rfl, rfl⟩ | exact ⟨by simp, rfl⟩

theorem ado_n_s8 (a b : BitVec 64) (w : World) : Calls Try.prog 41 #[.int .u8 176, .bool false, .int .i16 8, .int .u64 (N a), .int .u64 (N b)] w fun e w' => e = .returned (.tuple #[.int .u64 (N (Alu.val (Alu.go (176) false (8) a b))), .int .i64 (Alu.err (Alu.go (176) false (8) a b))]) ∧ w = w' := by
  rw [Alu.nn_s8 a b]; simp only [Alu.val_some, Alu.err_some, Alu.val_none, Alu.err_none]
  go_enter Try.func41, Try.ntmps41
  go_wp2_with (first | (go_at_call 81; (with_reducible refine (simple_mov _ _ _).mono ?_); rintro e w1 ⟨rfl, rfl⟩) | (go_at_call 83; (with_reducible refine (sign_c _ _ _).mono ?_); rintro e w1 ⟨rfl, rfl⟩))
  go_ret2
  first | exact ⟨rfl, rfl⟩ | exact ⟨by simp, rfl⟩

theorem ado_w_s16 (a b : BitVec 64) (w : World) : Calls Try.prog 41 #[.int .u8 176, .bool true, .int .i16 16, .int .u64 (N a), .int .u64 (N b)] w fun e w' => e = .returned (.tuple #[.int .u64 (N (Alu.val (Alu.go (176) true (16) a b))), .int .i64 (Alu.err (Alu.go (176) true (16) a b))]) ∧ w = w' := by
  rw [Alu.ww_s16 a b]; simp only [Alu.val_some, Alu.err_some, Alu.val_none, Alu.err_none]
  go_enter Try.func41, Try.ntmps41
  go_wp2_with (first | (go_at_call 81; (with_reducible refine (simple_mov _ _ _).mono ?_); rintro e w1 ⟨rfl, rfl⟩) | (go_at_call 83; (with_reducible refine (sign_c _ _ _).mono ?_); rintro e w1 ⟨rfl, rfl⟩))
  go_ret2
  first | exact ⟨rfl, rfl⟩ | exact ⟨by simp, rfl⟩

theorem ado_n_s16 (a b : BitVec 64) (w : World) : Calls Try.prog 41 #[.int .u8 176, .bool false, .int .i16 16, .int .u64 (N a), .int .u64 (N b)] w fun e w' => e = .returned (.tuple #[.int .u64 (N (Alu.val (Alu.go (176) false (16) a b))), .int .i64 (Alu.err (Alu.go (176) false (16) a b))]) ∧ w = w' := by
  rw [Alu.nn_s16 a b]; simp only [Alu.val_some, Alu.err_some, Alu.val_none, Alu.err_none]
  go_enter Try.func41, Try.ntmps41
  go_wp2_with (first | (go_at_call 81; (with_reducible refine (simple_mov _ _ _).mono ?_); rintro e w1 ⟨rfl, rfl⟩) | (go_at_call 83; (with_reducible refine (sign_c _ _ _).mono ?_); rintro e w1 ⟨rfl, rfl⟩))
  go_ret2
  first | exact ⟨rfl, rfl⟩ | exact ⟨by simp, rfl⟩

theorem ado_w_s32 (a b : BitVec 64) (w : World) : Calls Try.prog 41 #[.int .u8 176, .bool true, .int .i16 32, .int .u64 (N a), .int .u64 (N b)] w fun e w' => e = .returned (.tuple #[.int .u64 (N (Alu.val (Alu.go (176) true (32) a b))), .int .i64 (Alu.err (Alu.go (176) true (32) a b))]) ∧ w = w' := by
  rw [Alu.ww_s32 a b]; simp only [Alu.val_some, Alu.err_some, Alu.val_none, Alu.err_none]
  go_enter Try.func41, Try.ntmps41
  go_wp2_with (first | (go_at_call 81; (with_reducible refine (simple_mov _ _ _).mono ?_); rintro e w1 ⟨rfl, rfl⟩) | (go_at_call 83; (with_reducible refine (sign_c _ _ _).mono ?_); rintro e w1 ⟨rfl, rfl⟩))
  go_ret2
  first | exact ⟨rfl, rfl⟩ | exact ⟨by simp, rfl⟩

theorem ado_o_mov_w (off : Int) (h : ¬ off = 0) (h8 : ¬ off = 8) (h16 : ¬ off = 16) (h32 : ¬ off = 32) (a b : BitVec 64) (w : World) : Calls Try.prog 41 #[.int .u8 176, .bool true, .int .i16 off, .int .u64 (N a), .int .u64 (N b)] w fun e w' => e = .returned (.tuple #[.int .u64 (N (Alu.val (Alu.go (176) true (off) a b))), .int .i64 (Alu.err (Alu.go (176) true (off) a b))]) ∧ w = w' := by
  rw [Alu.go_mov_off a b true off h h8 h16 (fun q => h32 q.1)]; simp only [Alu.val_some, Alu.err_some, Alu.val_none, Alu.err_none]
  have b0 : (off == 0) = false := by simpa using h
  have d0 : (off != 0) = true := by simpa using h
  have b8 : (off == 8) = false := by simpa using h8
  have d8 : (off != 8) = true := by simpa using h8
  have b16 : (off == 16) = false := by simpa using h16
  have d16 : (off != 16) = true := by simpa using h16
  have b32 : (off == 32) = false := by simpa using h32
  have d32 : (off != 32) = true := by simpa using h32
  go_enter Try.func41, Try.ntmps41
  go_wp2_with (first | (go_at_call 81; (with_reducible refine (simple_mov _ _ _).mono ?_); rintro e w1 ⟨rfl, rfl⟩))
  go_ret2
  first | exact ⟨rfl, rfl⟩ | exact ⟨by simp, rfl⟩

theorem ado_o_mov_n (off : Int) (h : ¬ off = 0) (h8 : ¬ off = 8) (h16 : ¬ off = 16) (a b : BitVec 64) (w : World) : Calls Try.prog 41 #[.int .u8 176, .bool false, .int .i16 off, .int .u64 (N a), .int .u64 (N b)] w fun e w' => e = .returned (.tuple #[.int .u64 (N (Alu.val (Alu.go (176) false (off) a b))), .int .i64 (Alu.err (Alu.go (176) false (off) a b))]) ∧ w = w' := by
  rw [Alu.go_mov_off a b false off h h8 h16 (fun q => nomatch q.2)]; simp only [Alu.val_some, Alu.err_some, Alu.val_none, Alu.err_none]
  have b0 : (off == 0) = false := by simpa using h
  have d0 : (off != 0) = true := by simpa using h
  have b8 : (off == 8) = false := by simpa using h8
  have d8 : (off != 8) = true := by simpa using h8
  have b16 : (off == 16) = false := by simpa using h16
  have d16 : (off != 16) = true := by simpa using h16
  cases h32 : (off == 32)
  all_goals
    go_enter Try.func41, Try.ntmps41
    go_wp2_with (first | (go_at_call 81; (with_reducible refine (simple_mov _ _ _).mono ?_); rintro e w1 ⟨rfl, rfl⟩))
    go_ret2
    first | exact ⟨rfl, rfl⟩ | exact ⟨by simp, rfl⟩

theorem ado_w_div (a b : BitVec 64) (w : World) : Calls Try.prog 41 #[.int .u8 48, .bool true, .int .i16 0, .int .u64 (N a), .int .u64 (N b)] w fun e w' => e = .returned (.tuple #[.int .u64 (N (Alu.val (Alu.go (48) true (0) a b))), .int .i64 (Alu.err (Alu.go (48) true (0) a b))]) ∧ w = w' := by
  rw [Alu.wide_div a b]; simp only [Alu.val_some, Alu.err_some, Alu.val_none, Alu.err_none]
  go_enter Try.func41, Try.ntmps41
  go_wp2_with (first | (go_at_call 81; (with_reducible refine (simple_else _ (by first | assumption | decide) (by first | assumption | decide) (by first | assumption | decide) (by first | assumption | decide) (by first | assumption | decide) (by first | assumption | decide) (by first | assumption | decide) (by first | assumption | decide) _ _ _).mono ?_); rintro e w1 ⟨rfl, rfl⟩) | (go_at_call 82; (with_reducible refine (moved_else _ (by first | assumption | decide) (by first | assumption | decide) (by first | assumption | decide) _ _ _ _).mono ?_); rintro e w1 ⟨rfl, rfl⟩) | (go_at_call 84; (with_reducible refine (divided_tff _ _ _).mono ?_); rintro e w1 ⟨rfl, rfl⟩))
  go_ret2
  first | exact ⟨rfl, rfl⟩ | exact ⟨by simp, rfl⟩

theorem ado_w_sdiv (a b : BitVec 64) (w : World) : Calls Try.prog 41 #[.int .u8 48, .bool true, .int .i16 1, .int .u64 (N a), .int .u64 (N b)] w fun e w' => e = .returned (.tuple #[.int .u64 (N (Alu.val (Alu.go (48) true (1) a b))), .int .i64 (Alu.err (Alu.go (48) true (1) a b))]) ∧ w = w' := by
  rw [Alu.wide_sdiv a b]; simp only [Alu.val_some, Alu.err_some, Alu.val_none, Alu.err_none]
  go_enter Try.func41, Try.ntmps41
  go_wp2_with (first | (go_at_call 81; (with_reducible refine (simple_else _ (by first | assumption | decide) (by first | assumption | decide) (by first | assumption | decide) (by first | assumption | decide) (by first | assumption | decide) (by first | assumption | decide) (by first | assumption | decide) (by first | assumption | decide) _ _ _).mono ?_); rintro e w1 ⟨rfl, rfl⟩) | (go_at_call 82; (with_reducible refine (moved_else _ (by first | assumption | decide) (by first | assumption | decide) (by first | assumption | decide) _ _ _ _).mono ?_); rintro e w1 ⟨rfl, rfl⟩) | (go_at_call 84; (with_reducible refine (divided_ttf _ _ _).mono ?_); rintro e w1 ⟨rfl, rfl⟩))
  go_ret2
  first | exact ⟨rfl, rfl⟩ | exact ⟨by simp, rfl⟩

theorem ado_n_div (a b : BitVec 64) (w : World) : Calls Try.prog 41 #[.int .u8 48, .bool false, .int .i16 0, .int .u64 (N a), .int .u64 (N b)] w fun e w' => e = .returned (.tuple #[.int .u64 (N (Alu.val (Alu.go (48) false (0) a b))), .int .i64 (Alu.err (Alu.go (48) false (0) a b))]) ∧ w = w' := by
  rw [Alu.nn_div a b]; simp only [Alu.val_some, Alu.err_some, Alu.val_none, Alu.err_none]
  go_enter Try.func41, Try.ntmps41
  go_wp2_with (first | (go_at_call 81; (with_reducible refine (simple_else _ (by first | assumption | decide) (by first | assumption | decide) (by first | assumption | decide) (by first | assumption | decide) (by first | assumption | decide) (by first | assumption | decide) (by first | assumption | decide) (by first | assumption | decide) _ _ _).mono ?_); rintro e w1 ⟨rfl, rfl⟩) | (go_at_call 82; (with_reducible refine (moved_else _ (by first | assumption | decide) (by first | assumption | decide) (by first | assumption | decide) _ _ _ _).mono ?_); rintro e w1 ⟨rfl, rfl⟩) | (go_at_call 84; (with_reducible refine (divided_fff _ _ _).mono ?_); rintro e w1 ⟨rfl, rfl⟩))
  go_ret2
  first | exact ⟨rfl, rfl⟩ | exact ⟨by simp, rfl⟩

theorem ado_n_sdiv (a b : BitVec 64) (w : World) : Calls Try.prog 41 #[.int .u8 48, .bool false, .int .i16 1, .int .u64 (N a), .int .u64 (N b)] w fun e w' => e = .returned (.tuple #[.int .u64 (N (Alu.val (Alu.go (48) false (1) a b))), .int .i64 (Alu.err (Alu.go (48) false (1) a b))]) ∧ w = w' := by
  rw [Alu.nn_sdiv a b]; simp only [Alu.val_some, Alu.err_some, Alu.val_none, Alu.err_none]
  go_enter Try.func41, Try.ntmps41
  go_wp2_with (first | (go_at_call 81; (with_reducible refine (simple_else _ (by first | assumption | decide) (by first | assumption | decide) (by first | assumption | decide) (by first | assumption | decide) (by first | assumption | decide) (by first | assumption | decide) (by first | assumption | decide) (by first | assumption | decide) _ _ _).mono ?_); rintro e w1 ⟨rfl, rfl⟩) | (go_at_call 82; (with_reducible refine (moved_else _ (by first | assumption | decide) (by first | assumption | decide) (by first | assumption | decide) _ _ _ _).mono ?_); rintro e w1 ⟨rfl, rfl⟩) | (go_at_call 84; (with_reducible refine (divided_ftf _ _ _).mono ?_); rintro e w1 ⟨rfl, rfl⟩))
  go_ret2
  first | exact ⟨rfl, rfl⟩ | exact ⟨by simp, rfl⟩

theorem ado_o_div (wd : Bool) (off : Int) (h : ¬ off = 0) (h1 : ¬ off = 1) (a b : BitVec 64) (w : World) : Calls Try.prog 41 #[.int .u8 48, .bool wd, .int .i16 off, .int .u64 (N a), .int .u64 (N b)] w fun e w' => e = .returned (.tuple #[.int .u64 (N (Alu.val (Alu.go (48) wd (off) a b))), .int .i64 (Alu.err (Alu.go (48) wd (off) a b))]) ∧ w = w' := by
  rw [Alu.go_div_off a b wd off h h1]; simp only [Alu.val_some, Alu.err_some, Alu.val_none, Alu.err_none]
  have b0 : (off == 0) = false := by simpa using h
  have d0 : (off != 0) = true := by simpa using h
  have b1 : (off == 1) = false := by simpa using h1
  have d1 : (off != 1) = true := by simpa using h1
  cases wd
  all_goals
    go_enter Try.func41, Try.ntmps41
    go_wp2_with (first | (go_at_call 81; (with_reducible refine (simple_else _ (by first | assumption | decide) (by first | assumption | decide) (by first | assumption | decide) (by first | assumption | decide) (by first | assumption | decide) (by first | assumption | decide) (by first | assumption | decide) (by first | assumption | decide) _ _ _).mono ?_); rintro e w1 ⟨rfl, rfl⟩) | (go_at_call 82; (with_reducible refine (moved_else _ (by first | assumption | decide) (by first | assumption | decide) (by first | assumption | decide) _ _ _ _).mono ?_); rintro e w1 ⟨rfl, rfl⟩))
    go_ret2
    first | exact ⟨rfl, rfl⟩ | exact ⟨by simp, rfl⟩

theorem ado_w_mod (a b : BitVec 64) (w : World) : Calls Try.prog 41 #[.int .u8 144, .bool true, .int .i16 0, .int .u64 (N a), .int .u64 (N b)] w fun e w' => e = .returned (.tuple #[.int .u64 (N (Alu.val (Alu.go (144) true (0) a b))), .int .i64 (Alu.err (Alu.go (144) true (0) a b))]) ∧ w = w' := by
  rw [Alu.wide_mod a b]; simp only [Alu.val_some, Alu.err_some, Alu.val_none, Alu.err_none]
  go_enter Try.func41, Try.ntmps41
  go_wp2_with (first | (go_at_call 81; (with_reducible refine (simple_else _ (by first | assumption | decide) (by first | assumption | decide) (by first | assumption | decide) (by first | assumption | decide) (by first | assumption | decide) (by first | assumption | decide) (by first | assumption | decide) (by first | assumption | decide) _ _ _).mono ?_); rintro e w1 ⟨rfl, rfl⟩) | (go_at_call 82; (with_reducible refine (moved_else _ (by first | assumption | decide) (by first | assumption | decide) (by first | assumption | decide) _ _ _ _).mono ?_); rintro e w1 ⟨rfl, rfl⟩) | (go_at_call 84; (with_reducible refine (divided_tft _ _ _).mono ?_); rintro e w1 ⟨rfl, rfl⟩))
  go_ret2
  first | exact ⟨rfl, rfl⟩ | exact ⟨by simp, rfl⟩

theorem ado_w_smod (a b : BitVec 64) (w : World) : Calls Try.prog 41 #[.int .u8 144, .bool true, .int .i16 1, .int .u64 (N a), .int .u64 (N b)] w fun e w' => e = .returned (.tuple #[.int .u64 (N (Alu.val (Alu.go (144) true (1) a b))), .int .i64 (Alu.err (Alu.go (144) true (1) a b))]) ∧ w = w' := by
  rw [Alu.wide_smod a b]; simp only [Alu.val_some, Alu.err_some, Alu.val_none, Alu.err_none]
  go_enter Try.func41, Try.ntmps41
  go_wp2_with (first | (go_at_call 81; (with_reducible refine (simple_else _ (by first | assumption | decide) (by first | assumption | decide) (by first | assumption | decide) (by first | assumption | decide) (by first | assumption | decide) (by first | assumption | decide) (by first | assumption | decide) (by first | assumption | decide) _ _ _).mono ?_); rintro e w1 ⟨rfl, rfl⟩) | (go_at_call 82; (with_reducible refine (moved_else _ (by first | assumption | decide) (by first | assumption | decide) (by first | assumption | decide) _ _ _ _).mono ?_); rintro e w1 ⟨rfl, rfl⟩) | (go_at_call 84; (with_reducible refine (divided_ttt _ _ _).mono ?_); rintro e w1 ⟨rfl, rfl⟩))
  go_ret2
  first | exact ⟨rfl, rfl⟩ | exact ⟨by simp, rfl⟩

theorem ado_n_mod (a b : BitVec 64) (w : World) : Calls Try.prog 41 #[.int .u8 144, .bool false, .int .i16 0, .int .u64 (N a), .int .u64 (N b)] w fun e w' => e = .returned (.tuple #[.int .u64 (N (Alu.val (Alu.go (144) false (0) a b))), .int .i64 (Alu.err (Alu.go (144) false (0) a b))]) ∧ w = w' := by
  rw [Alu.nn_mod a b]; simp only [Alu.val_some, Alu.err_some, Alu.val_none, Alu.err_none]
  go_enter Try.func41, Try.ntmps41
  go_wp2_with (first | (go_at_call 81; (with_reducible refine (simple_else _ (by first | assumption | decide) (by first | assumption | decide) (by first | assumption | decide) (by first | assumption | decide) (by first | assumption | decide) (by first | assumption | decide) (by first | assumption | decide) (by first | assumption | decide) _ _ _).mono ?_); rintro e w1 ⟨rfl, rfl⟩) | (go_at_call 82; (with_reducible refine (moved_else _ (by first | assumption | decide) (by first | assumption | decide) (by first | assumption | decide) _ _ _ _).mono ?_); rintro e w1 ⟨rfl, rfl⟩) | (go_at_call 84; (with_reducible refine (divided_fft _ _ _).mono ?_); rintro e w1 ⟨rfl, rfl⟩))
  go_ret2
  first | exact ⟨rfl, rfl⟩ | exact ⟨by simp, rfl⟩

theorem ado_n_smod (a b : BitVec 64) (w : World) : Calls Try.prog 41 #[.int .u8 144, .bool false, .int .i16 1, .int .u64 (N a), .int .u64 (N b)] w fun e w' => e = .returned (.tuple #[.int .u64 (N (Alu.val (Alu.go (144) false (1) a b))), .int .i64 (Alu.err (Alu.go (144) false (1) a b))]) ∧ w = w' := by
  rw [Alu.nn_smod a b]; simp only [Alu.val_some, Alu.err_some, Alu.val_none, Alu.err_none]
  go_enter Try.func41, Try.ntmps41
  go_wp2_with (first | (go_at_call 81; (with_reducible refine (simple_else _ (by first | assumption | decide) (by first | assumption | decide) (by first | assumption | decide) (by first | assumption | decide) (by first | assumption | decide) (by first | assumption | decide) (by first | assumption | decide) (by first | assumption | decide) _ _ _).mono ?_); rintro e w1 ⟨rfl, rfl⟩) | (go_at_call 82; (with_reducible refine (moved_else _ (by first | assumption | decide) (by first | assumption | decide) (by first | assumption | decide) _ _ _ _).mono ?_); rintro e w1 ⟨rfl, rfl⟩) | (go_at_call 84; (with_reducible refine (divided_ftt _ _ _).mono ?_); rintro e w1 ⟨rfl, rfl⟩))
  go_ret2
  first | exact ⟨rfl, rfl⟩ | exact ⟨by simp, rfl⟩

theorem ado_o_mod (wd : Bool) (off : Int) (h : ¬ off = 0) (h1 : ¬ off = 1) (a b : BitVec 64) (w : World) : Calls Try.prog 41 #[.int .u8 144, .bool wd, .int .i16 off, .int .u64 (N a), .int .u64 (N b)] w fun e w' => e = .returned (.tuple #[.int .u64 (N (Alu.val (Alu.go (144) wd (off) a b))), .int .i64 (Alu.err (Alu.go (144) wd (off) a b))]) ∧ w = w' := by
  rw [Alu.go_mod_off a b wd off h h1]; simp only [Alu.val_some, Alu.err_some, Alu.val_none, Alu.err_none]
  have b0 : (off == 0) = false := by simpa using h
  have d0 : (off != 0) = true := by simpa using h
  have b1 : (off == 1) = false := by simpa using h1
  have d1 : (off != 1) = true := by simpa using h1
  cases wd
  all_goals
    go_enter Try.func41, Try.ntmps41
    go_wp2_with (first | (go_at_call 81; (with_reducible refine (simple_else _ (by first | assumption | decide) (by first | assumption | decide) (by first | assumption | decide) (by first | assumption | decide) (by first | assumption | decide) (by first | assumption | decide) (by first | assumption | decide) (by first | assumption | decide) _ _ _).mono ?_); rintro e w1 ⟨rfl, rfl⟩) | (go_at_call 82; (with_reducible refine (moved_else _ (by first | assumption | decide) (by first | assumption | decide) (by first | assumption | decide) _ _ _ _).mono ?_); rintro e w1 ⟨rfl, rfl⟩))
    go_ret2
    first | exact ⟨rfl, rfl⟩ | exact ⟨by simp, rfl⟩

theorem ado_else (op : Int) (wd : Bool) (off : Int) (n0 : ¬ op = 0) (n16 : ¬ op = 16) (n32 : ¬ op = 32) (n64 : ¬ op = 64) (n80 : ¬ op = 80) (n160 : ¬ op = 160) (n128 : ¬ op = 128) (n176 : ¬ op = 176) (n96 : ¬ op = 96) (n112 : ¬ op = 112) (n192 : ¬ op = 192) (n48 : ¬ op = 48) (n144 : ¬ op = 144) (a b : BitVec 64) (w : World) : Calls Try.prog 41 #[.int .u8 op, .bool wd, .int .i16 off, .int .u64 (N a), .int .u64 (N b)] w fun e w' => e = .returned (.tuple #[.int .u64 (N (Alu.val (Alu.go (op) wd (off) a b))), .int .i64 (Alu.err (Alu.go (op) wd (off) a b))]) ∧ w = w' := by
  rw [Alu.go_else a b op wd off n0 n16 n32 n64 n80 n160 n128 n176 n96 n112 n192 n48 n144]; simp only [Alu.val_some, Alu.err_some, Alu.val_none, Alu.err_none]
  cases wd
  all_goals
    go_enter Try.func41, Try.ntmps41
    go_wp2_with (first | (go_at_call 81; (with_reducible refine (simple_else _ (by first | assumption | decide) (by first | assumption | decide) (by first | assumption | decide) (by first | assumption | decide) (by first | assumption | decide) (by first | assumption | decide) (by first | assumption | decide) (by first | assumption | decide) _ _ _).mono ?_); rintro e w1 ⟨rfl, rfl⟩) | (go_at_call 82; (with_reducible refine (moved_else _ (by first | assumption | decide) (by first | assumption | decide) (by first | assumption | decide) _ _ _ _).mono ?_); rintro e w1 ⟨rfl, rfl⟩))
    go_ret2
    first | exact ⟨rfl, rfl⟩ | exact ⟨by simp, rfl⟩

end Hk

namespace Hk
open Go Go.RowKit Go.Proofs
set_option linter.unusedSimpArgs false
set_option linter.unusedVariables false
set_option maxRecDepth 100000
theorem ado_c (op : Int) (wd : Bool) (off : Int) (a b : BitVec 64) (w : World) : Calls Try.prog 41 #[.int .u8 op, .bool wd, .int .i16 off, .int .u64 (N a), .int .u64 (N b)] w fun e w' => e = .returned (.tuple #[.int .u64 (N (Alu.val (Alu.go op wd off a b))), .int .i64 (Alu.err (Alu.go op wd off a b))]) ∧ w = w' := by
  by_cases n0 : op = 0
  · subst n0
    by_cases h : off = 0
    · subst h; cases wd
      · exact ado_n_add a b w
      · exact ado_w_add a b w
    · exact ado_o_add wd off h a b w
  by_cases n16 : op = 16
  · subst n16
    by_cases h : off = 0
    · subst h; cases wd
      · exact ado_n_sub a b w
      · exact ado_w_sub a b w
    · exact ado_o_sub wd off h a b w
  by_cases n32 : op = 32
  · subst n32
    by_cases h : off = 0
    · subst h; cases wd
      · exact ado_n_mul a b w
      · exact ado_w_mul a b w
    · exact ado_o_mul wd off h a b w
  by_cases n64 : op = 64
  · subst n64
    by_cases h : off = 0
    · subst h; cases wd
      · exact ado_n_or a b w
      · exact ado_w_or a b w
    · exact ado_o_or wd off h a b w
  by_cases n80 : op = 80
  · subst n80
    by_cases h : off = 0
    · subst h; cases wd
      · exact ado_n_and a b w
      · exact ado_w_and a b w
    · exact ado_o_and wd off h a b w
  by_cases n160 : op = 160
  · subst n160
    by_cases h : off = 0
    · subst h; cases wd
      · exact ado_n_xor a b w
      · exact ado_w_xor a b w
    · exact ado_o_xor wd off h a b w
  by_cases n128 : op = 128
  · subst n128
    by_cases h : off = 0
    · subst h; cases wd
      · exact ado_n_neg a b w
      · exact ado_w_neg a b w
    · exact ado_o_neg wd off h a b w
  by_cases n96 : op = 96
  · subst n96
    by_cases h : off = 0
    · subst h; cases wd
      · exact ado_n_lsh a b w
      · exact ado_w_lsh a b w
    · exact ado_o_lsh wd off h a b w
  by_cases n112 : op = 112
  · subst n112
    by_cases h : off = 0
    · subst h; cases wd
      · exact ado_n_rsh a b w
      · exact ado_w_rsh a b w
    · exact ado_o_rsh wd off h a b w
  by_cases n192 : op = 192
  · subst n192
    by_cases h : off = 0
    · subst h; cases wd
      · exact ado_n_arsh a b w
      · exact ado_w_arsh a b w
    · exact ado_o_arsh wd off h a b w
  by_cases n176 : op = 176
  · subst n176
    by_cases h : off = 0
    · subst h; cases wd
      · exact ado_n_mov a b w
      · exact ado_w_mov a b w
    by_cases h8 : off = 8
    · subst h8; cases wd
      · exact ado_n_s8 a b w
      · exact ado_w_s8 a b w
    by_cases h16 : off = 16
    · subst h16; cases wd
      · exact ado_n_s16 a b w
      · exact ado_w_s16 a b w
    cases wd
    · exact ado_o_mov_n off h h8 h16 a b w
    · by_cases h32 : off = 32
      · subst h32; exact ado_w_s32 a b w
      · exact ado_o_mov_w off h h8 h16 h32 a b w
  by_cases n48 : op = 48
  · subst n48
    by_cases h : off = 0
    · subst h; cases wd
      · exact ado_n_div a b w
      · exact ado_w_div a b w
    by_cases h1 : off = 1
    · subst h1; cases wd
      · exact ado_n_sdiv a b w
      · exact ado_w_sdiv a b w
    exact ado_o_div wd off h h1 a b w
  by_cases n144 : op = 144
  · subst n144
    by_cases h : off = 0
    · subst h; cases wd
      · exact ado_n_mod a b w
      · exact ado_w_mod a b w
    by_cases h1 : off = 1
    · subst h1; cases wd
      · exact ado_n_smod a b w
      · exact ado_w_smod a b w
    exact ado_o_mod wd off h h1 a b w
  exact ado_else op wd off n0 n16 n32 n64 n80 n160 n128 n176 n96 n112 n192 n48 n144 a b w

end Hk

