/- Words as signed numbers, and of 32 bits: how the walk reckons with them. No condition. -/
import Derived.Test.YtijlcdgjeonaeaaWd
namespace Hk
open Go Go.RowKit
/-- A word as a signed number; a word of 32 bits, as it is and signed. (Plain definitions: no rule of simp goes behind them.) -/
def Z (x : BitVec 64) : Int := x.toInt
def N3 (x : BitVec 32) : Int := x.toNat
def Z3 (x : BitVec 32) : Int := x.toInt
theorem wrap_i64' (i : Int) : IntKind.i64.wrap i = Z (BitVec.ofInt 64 i) := by
  rw [show IntKind.i64.wrap i = (if 9223372036854775808 ≤ i % 18446744073709551616 then i % 18446744073709551616 - 18446744073709551616 else i % 18446744073709551616) from by simp [IntKind.wrap, IntKind.bits, IntKind.signed]]
  unfold Z; rw [BitVec.toInt_ofInt, Int.bmod_def]
  split <;> split <;> omega
theorem wrap_i32' (i : Int) : IntKind.i32.wrap i = Z3 (BitVec.ofInt 32 i) := by
  rw [show IntKind.i32.wrap i = (if 2147483648 ≤ i % 4294967296 then i % 4294967296 - 4294967296 else i % 4294967296) from by simp [IntKind.wrap, IntKind.bits, IntKind.signed]]
  unfold Z3; rw [BitVec.toInt_ofInt, Int.bmod_def]
  split <;> split <;> omega
theorem wrap_u32' (i : Int) : IntKind.u32.wrap i = N3 (BitVec.ofInt 32 i) := by
  rw [show IntKind.u32.wrap i = i % 4294967296 from by simp [IntKind.wrap, IntKind.bits, IntKind.signed]]
  unfold N3; rw [BitVec.toNat_ofInt]; omega
theorem ofInt_Z (x : BitVec 64) : BitVec.ofInt 64 (Z x) = x := BitVec.ofInt_toInt
theorem ofInt_Z3 (x : BitVec 32) : BitVec.ofInt 32 (Z3 x) = x := BitVec.ofInt_toInt
theorem ofInt_N3 (x : BitVec 32) : BitVec.ofInt 32 (N3 x) = x := by
  unfold N3; rw [BitVec.ofInt_natCast, BitVec.ofNat_toNat, BitVec.setWidth_eq]
theorem ofInt32_N (x : BitVec 64) : BitVec.ofInt 32 (N x) = x.setWidth 32 := by
  unfold N; rw [BitVec.ofInt_natCast, BitVec.ofNat_toNat]
theorem ofInt64_Z3 (x : BitVec 32) : BitVec.ofInt 64 (Z3 x) = x.signExtend 64 := rfl
theorem ofInt64_N3 (x : BitVec 32) : BitVec.ofInt 64 (N3 x) = x.setWidth 64 := by
  unfold N3; rw [BitVec.ofInt_natCast, BitVec.ofNat_toNat]
section
variable (x y : BitVec 64) (p q : BitVec 32)
@[go_sem ↓] theorem cv_i64 : Conv.intToInt .i64 (N x) = pure (.int .i64 (Z x)) := by rw [Conv.intToInt, wrap_i64', ofInt_N]
@[go_sem ↓] theorem cv_u64 : Conv.intToInt .u64 (Z x) = pure (.int .u64 (N x)) := by rw [Conv.intToInt, wrap_N, ofInt_Z]
@[go_sem ↓] theorem cv_i32 : Conv.intToInt .i32 (N x) = pure (.int .i32 (Z3 (x.setWidth 32))) := by rw [Conv.intToInt, wrap_i32', ofInt32_N]
@[go_sem ↓] theorem cv_u32 : Conv.intToInt .u32 (N x) = pure (.int .u32 (N3 (x.setWidth 32))) := by rw [Conv.intToInt, wrap_u32', ofInt32_N]
@[go_sem ↓] theorem cv_u64_i32 : Conv.intToInt .u64 (Z3 p) = pure (.int .u64 (N (p.signExtend 64))) := by rw [Conv.intToInt, wrap_N, ofInt64_Z3]
@[go_sem ↓] theorem cv_u64_u32 : Conv.intToInt .u64 (N3 p) = pure (.int .u64 (N (p.setWidth 64))) := by rw [Conv.intToInt, wrap_N, ofInt64_N3]
@[go_sem] theorem w64_N : wrap64 (N x) = Z x := by rw [← IntWalk.i64_left, wrap_i64', ofInt_N]
@[go_sem] theorem w32_N : wrap32 (N x) = Z3 (x.setWidth 32) := by rw [← IntWalk.i32_left, wrap_i32', ofInt32_N]
@[go_sem] theorem m32_N : N x % 4294967296 = N3 (x.setWidth 32) := by rw [← IntKind.wrap_u32, wrap_u32', ofInt32_N]
@[go_sem] theorem m64_Z : Z x % 18446744073709551616 = N x := by rw [← IntKind.wrap_u64, wrap_N, ofInt_Z]
@[go_sem] theorem m64_Z3 : Z3 p % 18446744073709551616 = N (p.signExtend 64) := by rw [← IntKind.wrap_u64, wrap_N, ofInt64_Z3]
@[go_sem] theorem m64_N3 : N3 p % 18446744073709551616 = N (p.setWidth 64) := by rw [← IntKind.wrap_u64, wrap_N, ofInt64_N3]
@[go_sem] theorem w_N3 : IntKind.u64.wrap (N3 p) = N (p.setWidth 64) := by rw [wrap_N, ofInt64_N3]
@[go_sem] theorem w_Z : IntKind.u64.wrap (Z x) = N x := by rw [wrap_N, ofInt_Z]
@[go_sem] theorem w_Z3 : IntKind.u64.wrap (Z3 p) = N (p.signExtend 64) := by rw [wrap_N, ofInt64_Z3]
@[go_sem] theorem w_N_i64 : IntKind.i64.wrap (N x) = Z x := by rw [wrap_i64', ofInt_N]
@[go_sem] theorem w_N_i32 : IntKind.i32.wrap (N x) = Z3 (x.setWidth 32) := by rw [wrap_i32', ofInt32_N]
@[go_sem] theorem w_N_u32 : IntKind.u32.wrap (N x) = N3 (x.setWidth 32) := by rw [wrap_u32', ofInt32_N]
theorem Z_inj : Z x = Z y ↔ x = y := BitVec.toInt_inj
theorem Z3_inj : Z3 p = Z3 q ↔ p = q := BitVec.toInt_inj
theorem N3_inj : N3 p = N3 q ↔ p = q := by unfold N3; rw [Int.natCast_inj]; exact BitVec.toNat_inj
@[go_sem] theorem Z_beq : (Z x == Z y) = (x == y) := by rw [Bool.eq_iff_iff, beq_iff_eq, beq_iff_eq]; exact Z_inj x y
@[go_sem] theorem Z3_beq : (Z3 p == Z3 q) = (p == q) := by rw [Bool.eq_iff_iff, beq_iff_eq, beq_iff_eq]; exact Z3_inj p q
@[go_sem] theorem N3_beq : (N3 p == N3 q) = (p == q) := by rw [Bool.eq_iff_iff, beq_iff_eq, beq_iff_eq]; exact N3_inj p q
@[go_sem] theorem Z_beq0 : (Z x == 0) = (x == 0#64) := by rw [← Z_beq]; rfl
@[go_sem] theorem Z3_beq0 : (Z3 p == 0) = (p == 0#32) := by rw [← Z3_beq]; rfl
@[go_sem] theorem N3_beq0 : (N3 p == 0) = (p == 0#32) := by rw [← N3_beq]; rfl
theorem Z_ne (h : y ≠ 0#64) : ¬ Z y = 0 := fun e => h ((Z_inj y 0#64).1 (by rw [e]; rfl))
theorem Z3_ne (h : q ≠ 0#32) : ¬ Z3 q = 0 := fun e => h ((Z3_inj q 0#32).1 (by rw [e]; rfl))
theorem N3_ne (h : q ≠ 0#32) : ¬ N3 q = 0 := fun e => h ((N3_inj q 0#32).1 (by rw [e]; rfl))
@[go_sem ↓] theorem Z_quo (h : y ≠ 0#64) : Op.intDiv .quo .i64 (Z x) (Z y) = pure (.int .i64 (Z (x.sdiv y))) := by
  simp only [Op.intDiv, Z_ne y h, if_false, wrap_i64']
  have : BitVec.ofInt 64 ((Z x).tdiv (Z y)) = x.sdiv y := by
    apply BitVec.eq_of_toInt_eq
    rw [BitVec.toInt_ofInt, BitVec.toInt_sdiv]; rfl
  rw [this]
@[go_sem ↓] theorem Z_rem (h : y ≠ 0#64) : Op.intDiv .rem .i64 (Z x) (Z y) = pure (.int .i64 (Z (x.srem y))) := by
  simp only [Op.intDiv, Z_ne y h, if_false]
  unfold Z; rw [BitVec.toInt_srem]
@[go_sem ↓] theorem Z3_quo (h : q ≠ 0#32) : Op.intDiv .quo .i32 (Z3 p) (Z3 q) = pure (.int .i32 (Z3 (p.sdiv q))) := by
  simp only [Op.intDiv, Z3_ne q h, if_false, wrap_i32']
  have : BitVec.ofInt 32 ((Z3 p).tdiv (Z3 q)) = p.sdiv q := by
    apply BitVec.eq_of_toInt_eq
    rw [BitVec.toInt_ofInt, BitVec.toInt_sdiv]; rfl
  rw [this]
@[go_sem ↓] theorem Z3_rem (h : q ≠ 0#32) : Op.intDiv .rem .i32 (Z3 p) (Z3 q) = pure (.int .i32 (Z3 (p.srem q))) := by
  simp only [Op.intDiv, Z3_ne q h, if_false]
  unfold Z3; rw [BitVec.toInt_srem]
@[go_sem ↓] theorem N3_quo (h : q ≠ 0#32) : Op.intDiv .quo .u32 (N3 p) (N3 q) = pure (.int .u32 (N3 (p / q))) := by
  simp only [Op.intDiv, N3_ne q h, if_false, wrap_u32']
  have : BitVec.ofInt 32 ((N3 p).tdiv (N3 q)) = p / q := by
    rw [← ofInt_N3 (p / q)]
    rw [show (N3 p).tdiv (N3 q) = N3 (p / q) from by unfold N3; rw [BitVec.toNat_udiv, ← Int.ofNat_tdiv]]
  rw [this]
@[go_sem ↓] theorem N3_rem (h : q ≠ 0#32) : Op.intDiv .rem .u32 (N3 p) (N3 q) = pure (.int .u32 (N3 (p % q))) := by
  simp only [Op.intDiv, N3_ne q h, if_false]
  unfold N3; rw [BitVec.toNat_umod, ← Int.ofNat_tmod]
theorem fdiv_pow (i : Int) (k : Nat) : i.fdiv (2 ^ k) = i >>> k := by
  have hp : (2 : Int) ^ k = ((2 ^ k : Nat) : Int) := by rw [Int.natCast_pow]; rfl
  rw [hp, Int.fdiv_eq_ediv_of_nonneg _ (Int.natCast_nonneg _), Int.shiftRight_eq_div_pow]
theorem sshr_min {w : Nat} (z : BitVec w) (k : Nat) : z.sshiftRight (min k w) = z.sshiftRight k := by
  rcases Nat.le_total k w with h | h
  · rw [Nat.min_eq_left h]
  · rw [Nat.min_eq_right h]
    apply BitVec.eq_of_getLsbD_eq
    intro i hi
    rw [BitVec.getLsbD_sshiftRight, BitVec.getLsbD_sshiftRight]
    simp only [show ¬ w + i < w by omega, show ¬ k + i < w by omega, if_false]
@[go_sem ↓] theorem Z_shr (yk : IntKind) (k : Int) (h : 0 ≤ k) : Op.shift .shr .i64 (Z x) yk k = pure (.int .i64 (Z (x.sshiftRight k.toNat))) := by
  simp only [Op.shift, show ¬ k < 0 by omega, if_false, IntKind.bits]
  rw [← sshr_min, fdiv_pow]
  unfold Z; rw [BitVec.toInt_sshiftRight]
@[go_sem ↓] theorem Z_shr_N (yk : IntKind) : Op.shift .shr .i64 (Z x) yk (N y) = pure (.int .i64 (Z (x.sshiftRight y.toNat))) := by
  rw [Z_shr x yk (N y) (N_nonneg y)]; unfold N; rw [Int.toNat_natCast]
@[go_sem ↓] theorem Z3_shr_N (yk : IntKind) : Op.shift .shr .i32 (Z3 p) yk (N y) = pure (.int .i32 (Z3 (p.sshiftRight y.toNat))) := by
  have h := N_nonneg y
  simp only [Op.shift, show ¬ N y < 0 by omega, if_false, IntKind.bits]
  rw [show (N y).toNat = y.toNat by unfold N; rw [Int.toNat_natCast], ← sshr_min, fdiv_pow]
  unfold Z3; rw [BitVec.toInt_sshiftRight]
@[go_sem ↓] theorem N3_shr_N (yk : IntKind) : Op.shift .shr .u32 (N3 p) yk (N y) = pure (.int .u32 (N3 (p >>> y.toNat))) := by
  have h := N_nonneg y
  simp only [Op.shift, show ¬ N y < 0 by omega, if_false, IntKind.bits]
  rw [show (N y).toNat = y.toNat by unfold N; rw [Int.toNat_natCast]]
  have hp : (2 : Int) ^ (min y.toNat 32) = ((2 ^ (min y.toNat 32) : Nat) : Int) := by rw [Int.natCast_pow]; rfl
  rw [hp, Int.fdiv_eq_ediv_of_nonneg _ (Int.natCast_nonneg _)]
  unfold N3
  rw [BitVec.toNat_ushiftRight, Nat.shiftRight_eq_div_pow, ← Int.natCast_ediv]
  rw [show p.toNat / 2 ^ (min y.toNat 32) = p.toNat / 2 ^ y.toNat from by
    rcases Nat.le_total y.toNat 32 with h | h
    · rw [Nat.min_eq_left h]
    · rw [Nat.min_eq_right h, Nat.div_eq_of_lt p.isLt]
      exact (Nat.div_eq_of_lt (Nat.lt_of_lt_of_le p.isLt (Nat.pow_le_pow_right (by omega) h))).symm]
end
end Hk
