/- Plain laws: what the reference of arithmetic reckons is what arithmetic makes; no program in sight. No condition but those in each statement. -/
import Derived.Test.YtijlcdgjeonaeaaAlu
import Derived.Test.YtijlcdgjeonaeaaTn
namespace Hk
namespace Alu
def val (o : Option (BitVec 64)) : BitVec 64 := o.getD 0#64
def err (o : Option (BitVec 64)) : Int := if o.isSome then 0 else 1
theorem val_some (z : BitVec 64) : val (some z) = z := rfl
theorem err_some (z : BitVec 64) : err (some z) = 0 := rfl
theorem val_none : val none = 0#64 := rfl
theorem err_none : err none = 1 := rfl
theorem L_nat : (4294967296#64).toNat = 4294967296 := rfl
theorem cutL (z : BitVec 64) : z % 4294967296#64 = (z.setWidth 32).setWidth 64 := by
  apply BitVec.eq_of_toNat_eq
  simp only [BitVec.toNat_umod, BitVec.toNat_setWidth, L_nat]
  omega
theorem set_cut (z : BitVec 64) : (z % 4294967296#64).setWidth 32 = z.setWidth 32 := by
  apply BitVec.eq_of_toNat_eq
  simp only [BitVec.toNat_umod, BitVec.toNat_setWidth, L_nat]
  omega
theorem set_sub (x y : BitVec 64) : (x - y).setWidth 32 = x.setWidth 32 - y.setWidth 32 := by
  apply BitVec.eq_of_toNat_eq
  simp only [BitVec.toNat_setWidth, BitVec.toNat_sub]
  have := x.isLt; have := y.isLt
  omega
theorem cut_lt (z : BitVec 64) : (z % 4294967296#64).toNat < 4294967296 := by
  simp only [BitVec.toNat_umod, L_nat]; omega
theorem cut_nat (z : BitVec 64) : (z % 4294967296#64).toNat = z.toNat % 4294967296 := by
  simp only [BitVec.toNat_umod, L_nat]
theorem low_small (z : BitVec 64) (h : z.toNat < 4294967296) : (z.setWidth 32).setWidth 64 = z := by
  apply BitVec.eq_of_toNat_eq
  simp only [BitVec.toNat_setWidth]; omega

section
variable (a b : BitVec 64)
theorem wide_add : go 0 true 0 a b = some (a + b) := rfl
theorem wide_sub : go 16 true 0 a b = some (a - b) := rfl
theorem wide_mul : go 32 true 0 a b = some (a * b) := rfl
theorem wide_or : go 64 true 0 a b = some (a ||| b) := rfl
theorem wide_and : go 80 true 0 a b = some (a &&& b) := rfl
theorem wide_xor : go 160 true 0 a b = some (a ^^^ b) := rfl
theorem wide_neg : go 128 true 0 a b = some (0#64 - a) := by unfold go gen; simp
theorem wide_lsh : go 96 true 0 a b = some (a <<< (b % 64#64).toNat) := by unfold go gen; simp [BitVec.toNat_umod]
theorem wide_rsh : go 112 true 0 a b = some (a >>> (b % 64#64).toNat) := by unfold go gen; simp [BitVec.toNat_umod]
theorem wide_mov : go 176 true 0 a b = some b := rfl
theorem wide_div : go 48 true 0 a b = some (a / b) := rfl
theorem wide_mod : go 144 true 0 a b = some (a % b) := rfl
theorem wide_sdiv : go 48 true 1 a b = some (a.sdiv b) := rfl
theorem wide_smod : go 144 true 1 a b = some (a.srem b) := rfl
theorem nar_add : go 0 false 0 a b = some ((a % 4294967296#64 + b % 4294967296#64) % 4294967296#64) := by
  rw [cutL (_ + _), BitVec.setWidth_add _ _ (by omega), set_cut, set_cut]; rfl
theorem nar_sub : go 16 false 0 a b = some ((a % 4294967296#64 - b % 4294967296#64) % 4294967296#64) := by
  rw [cutL (_ - _), set_sub, set_cut, set_cut]; rfl
theorem nar_mul : go 32 false 0 a b = some ((a % 4294967296#64 * (b % 4294967296#64)) % 4294967296#64) := by
  rw [cutL (_ * _), BitVec.setWidth_mul _ _ (by omega), set_cut, set_cut]; rfl
theorem nar_or : go 64 false 0 a b = some ((a % 4294967296#64 ||| b % 4294967296#64) % 4294967296#64) := by
  rw [cutL (_ ||| _), BitVec.setWidth_or, set_cut, set_cut]; rfl
theorem nar_and : go 80 false 0 a b = some ((a % 4294967296#64 &&& b % 4294967296#64) % 4294967296#64) := by
  rw [cutL (_ &&& _), BitVec.setWidth_and, set_cut, set_cut]; rfl
theorem nar_xor : go 160 false 0 a b = some ((a % 4294967296#64 ^^^ b % 4294967296#64) % 4294967296#64) := by
  rw [cutL (_ ^^^ _), BitVec.setWidth_xor, set_cut, set_cut]; rfl
theorem nar_neg : go 128 false 0 a b = some ((0#64 - a % 4294967296#64) % 4294967296#64) := by
  rw [cutL (_ - _), set_sub, set_cut]; unfold go gen; simp
theorem nar_mov : go 176 false 0 a b = some ((b % 4294967296#64) % 4294967296#64) := by
  rw [cutL (_ % _), set_cut]; rfl
theorem by_small (b : BitVec 64) : (b % 4294967296#64 % 32#64).toNat = (b.setWidth 32).toNat % 32 := by
  simp only [BitVec.toNat_umod, L_nat, BitVec.toNat_setWidth]
  rfl
theorem nar_lsh : go 96 false 0 a b = some (((a % 4294967296#64) <<< (b % 4294967296#64 % 32#64).toNat) % 4294967296#64) := by
  rw [cutL (_ <<< _), BitVec.setWidth_shiftLeft_of_le (by omega), set_cut, by_small]; rfl
theorem nar_rsh : go 112 false 0 a b = some (((a % 4294967296#64) >>> (b % 4294967296#64 % 32#64).toNat) % 4294967296#64) := by
  rw [by_small]
  unfold go gen
  simp
  apply BitVec.eq_of_toNat_eq
  simp only [BitVec.toNat_umod, BitVec.toNat_setWidth, L_nat, BitVec.toNat_ushiftRight, Nat.shiftRight_eq_div_pow]
  generalize 2 ^ (b.toNat % 32) = p
  have e : a.toNat % 2 ^ 32 % 2 ^ 64 = a.toNat % 4294967296 := by omega
  rw [e]
  have := Nat.div_le_self (a.toNat % 4294967296) p
  generalize a.toNat % 4294967296 / p = q at *
  have : a.toNat % 4294967296 < 4294967296 := by omega
  omega
theorem nar_div : go 48 false 0 a b = some (a % 4294967296#64 / (b % 4294967296#64)) := by
  unfold go gen
  simp
  apply BitVec.eq_of_toNat_eq
  simp only [BitVec.toNat_umod, BitVec.toNat_setWidth, L_nat, BitVec.toNat_udiv]
  have e : a.toNat % 2 ^ 32 = a.toNat % 4294967296 := rfl
  have f : b.toNat % 2 ^ 32 = b.toNat % 4294967296 := rfl
  rw [e, f]
  have := Nat.div_le_self (a.toNat % 4294967296) (b.toNat % 4294967296)
  generalize a.toNat % 4294967296 / (b.toNat % 4294967296) = q at *
  have : a.toNat % 4294967296 < 4294967296 := by omega
  omega
theorem nar_mod : go 144 false 0 a b = some (a % 4294967296#64 % (b % 4294967296#64)) := by
  unfold go gen
  simp
  apply BitVec.eq_of_toNat_eq
  simp only [BitVec.toNat_umod, BitVec.toNat_setWidth, L_nat]
  have e : a.toNat % 2 ^ 32 = a.toNat % 4294967296 := rfl
  have f : b.toNat % 2 ^ 32 = b.toNat % 4294967296 := rfl
  rw [e, f]
  have := Nat.mod_le (a.toNat % 4294967296) (b.toNat % 4294967296)
  generalize a.toNat % 4294967296 % (b.toNat % 4294967296) = q at *
  have : a.toNat % 4294967296 < 4294967296 := by omega
  omega
end
end Alu
end Hk
