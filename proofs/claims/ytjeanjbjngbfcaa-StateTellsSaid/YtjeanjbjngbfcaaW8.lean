/- Bytes as the model has them: how the walk reckons with 8-bit numbers that are kept as bit vectors. No condition. -/
import Derived.Test.YtjeanjbjngbfcaaSt
namespace Hk
set_option linter.unusedVariables false
open Go Go.RowKit
theorem N8_lt (x : BitVec 8) : N8 x < 256 := by unfold N8; have := x.isLt; omega
theorem N8_nonneg (x : BitVec 8) : 0 ≤ N8 x := Int.natCast_nonneg _
theorem N8_ofNat (n : Nat) (h : n < 256) : N8 (BitVec.ofNat 8 n) = (n : Int) := by
  unfold N8; rw [BitVec.toNat_ofNat, Nat.mod_eq_of_lt h]
theorem N8_lit (n : Nat) (h : n < 256) : N8 (BitVec.ofNat 8 n) = (OfNat.ofNat n : Int) := N8_ofNat n h
theorem ofInt_N8 (x : BitVec 8) : BitVec.ofInt 8 (N8 x) = x := by
  unfold N8; rw [BitVec.ofInt_natCast, BitVec.ofNat_toNat, BitVec.setWidth_eq]
theorem wrap_toNat8 (x : BitVec 8) : IntKind.u8.wrap (x.toNat : Int) = N8 x := by
  have := x.isLt
  show (x.toNat : Int) % 256 = _
  unfold N8; omega
section
variable (x y : BitVec 8) (n : Nat)
@[go_sem] theorem N8_beq : (N8 x == N8 y) = (x == y) := by rw [Bool.eq_iff_iff, beq_iff_eq, beq_iff_eq]; exact N8_inj x y
@[go_sem] theorem N8_bne : (N8 x != N8 y) = !(x == y) := by unfold bne; rw [N8_beq]
@[go_sem] theorem N8_beq_lit (h : n < 256) : (N8 x == (no_index (OfNat.ofNat n))) = (x == BitVec.ofNat 8 n) := by rw [← N8_lit n h, N8_beq]
@[go_sem] theorem N8_bne_lit (h : n < 256) : (N8 x != (no_index (OfNat.ofNat n))) = !(x == BitVec.ofNat 8 n) := by rw [← N8_lit n h, N8_bne]
@[go_sem ↓] theorem op_and8 : Op.intBits .and .u8 (N8 x) (N8 y) = pure (.int .u8 (N8 (x &&& y))) := by
  simp only [Op.intBits, IntKind.bits, ofInt_N8, wrap_toNat8]; rfl
@[go_sem ↓] theorem op_or8 : Op.intBits .or .u8 (N8 x) (N8 y) = pure (.int .u8 (N8 (x ||| y))) := by
  simp only [Op.intBits, IntKind.bits, ofInt_N8, wrap_toNat8]; rfl
@[go_sem ↓] theorem op_andNot8 : Op.intBits .andNot .u8 (N8 x) (N8 y) = pure (.int .u8 (N8 (x &&& ~~~y))) := by
  simp only [Op.intBits, IntKind.bits, ofInt_N8, wrap_toNat8]; rfl
theorem wrap_sub8 : IntKind.u8.wrap (N8 x - N8 y) = N8 (x - y) := by
  show (N8 x - N8 y) % 256 = _
  unfold N8; rw [BitVec.toNat_sub]
  have := x.isLt; have := y.isLt
  omega
theorem wrap_add8 : IntKind.u8.wrap (N8 x + N8 y) = N8 (x + y) := by
  show (N8 x + N8 y) % 256 = _
  unfold N8; rw [BitVec.toNat_add]
  have := x.isLt; have := y.isLt
  omega
@[go_sem ↓] theorem op_sub8_lit (h : n < 256) : Op.intArith .sub .u8 (N8 x) (no_index (OfNat.ofNat n)) = pure (.int .u8 (N8 (x - BitVec.ofNat 8 n))) := by
  simp only [Op.intArith, ← N8_lit n h, wrap_sub8]
@[go_sem ↓] theorem op_add8 : Op.intArith .add .u8 (N8 x) (N8 y) = pure (.int .u8 (N8 (x + y))) := by
  simp only [Op.intArith, wrap_add8]
theorem N8_shl (k : Nat) : IntKind.u8.wrap (N8 x * 2 ^ (min k 8)) = N8 (x <<< k) := by
  show (N8 x * 2 ^ (min k 8)) % 256 = _
  unfold N8
  rw [BitVec.toNat_shiftLeft, Nat.shiftLeft_eq]
  have e : ((x.toNat : Int) * 2 ^ (min k 8)) = ((x.toNat * 2 ^ (min k 8) : Nat) : Int) := by rw [Int.natCast_mul, Int.natCast_pow]; rfl
  rw [e]
  have : x.toNat * 2 ^ (min k 8) % 2 ^ 8 = x.toNat * 2 ^ k % 2 ^ 8 := by
    rcases Nat.le_total k 8 with h | h
    · rw [Nat.min_eq_left h]
    · rw [Nat.min_eq_right h]
      obtain ⟨j, rfl⟩ := Nat.exists_eq_add_of_le h
      rw [Nat.pow_add, ← Nat.mul_assoc, Nat.mul_mod_left, Nat.mul_right_comm, Nat.mul_mod_left]
  rw [← this]; omega
theorem N8_shl' (k : Nat) (h : k ≤ 8) : N8 x * 2 ^ k % 256 = N8 (x <<< k) := by
  have := N8_shl x k
  rw [Nat.min_eq_left h] at this
  exact this
@[go_sem ↓] theorem op_shl8 (yk : IntKind) (k : Int) (h : 0 ≤ k) : Op.shift .shl .u8 (N8 x) yk k = pure (.int .u8 (N8 (x <<< k.toNat))) := by
  have hs := N8_shl x k.toNat
  simp only [Op.shift, show ¬ k < 0 by omega, if_false, IntKind.bits, hs]
@[go_sem ↓] theorem op_shl8_lit (yk : IntKind) (k : Int) (h : 0 ≤ k) (hn : n < 256) : Op.shift .shl .u8 (no_index (OfNat.ofNat n)) yk k = pure (.int .u8 (N8 (BitVec.ofNat 8 n <<< k.toNat))) := by
  rw [← op_shl8 (BitVec.ofNat 8 n) yk k h, N8_ofNat n hn]; rfl
theorem N8_div (k : Nat) : (N8 x).fdiv (2 ^ (min k 8)) = N8 (x >>> k) := by
  have hp : (2 : Int) ^ (min k 8) = ((2 ^ (min k 8) : Nat) : Int) := by rw [Int.natCast_pow]; rfl
  rw [hp, Int.fdiv_eq_ediv_of_nonneg _ (Int.natCast_nonneg _)]
  unfold N8
  rw [BitVec.toNat_ushiftRight, Nat.shiftRight_eq_div_pow, ← Int.natCast_ediv]
  congr 1
  rcases Nat.le_total k 8 with h | h
  · rw [Nat.min_eq_left h]
  · rw [Nat.min_eq_right h, Nat.div_eq_of_lt x.isLt]
    exact (Nat.div_eq_of_lt (Nat.lt_of_lt_of_le x.isLt (Nat.pow_le_pow_right (by omega) h))).symm
@[go_sem ↓] theorem op_shr8 (yk : IntKind) (k : Int) (h : 0 ≤ k) : Op.shift .shr .u8 (N8 x) yk k = pure (.int .u8 (N8 (x >>> k.toNat))) := by
  have hs := N8_div x k.toNat
  simp only [Op.shift, show ¬ k < 0 by omega, if_false, IntKind.bits, hs]
@[go_sem ↓] theorem op_rem8 (hn : n < 256) (h0 : n ≠ 0) : Op.intDiv .rem .u8 (N8 x) (no_index (OfNat.ofNat n)) = pure (.int .u8 (N8 (x % BitVec.ofNat 8 n))) := by
  have e1 : ¬ (OfNat.ofNat n : Int) = 0 := by show ¬ (n : Int) = 0; omega
  have e2 : (N8 x).tmod (OfNat.ofNat n : Int) = N8 (x % BitVec.ofNat 8 n) := by
    show (N8 x).tmod (n : Int) = _
    unfold N8
    rw [BitVec.toNat_umod, BitVec.toNat_ofNat, Nat.mod_eq_of_lt hn, ← Int.ofNat_tmod]
  simp only [Op.intDiv, e1, if_false, e2]
end
end Hk
