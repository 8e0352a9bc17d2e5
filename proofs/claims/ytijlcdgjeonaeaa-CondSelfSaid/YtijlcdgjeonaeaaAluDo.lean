/- Plain laws: what the program's arithmetic reckons is what arithmetic makes; no program in sight. No condition but those in each statement. -/
import Derived.Test.YtijlcdgjeonaeaaAluRef
namespace Hk
namespace Alu
/-- a number's lowest bits, as one that may be below 0 -/
def sgn (a : BitVec 64) (k : Int) : BitVec 64 := if k < 1 ∨ 64 < k then a else (a <<< (64 - k).toNat).sshiftRight (64 - k).toNat
theorem sgn_out {a : BitVec 64} {k : Int} (h : k < 1 ∨ 64 < k) : sgn a k = a := by unfold sgn; rw [if_pos h]
theorem sgn_in {a : BitVec 64} {k : Int} (h0 : 1 ≤ k) (h1 : k ≤ 64) : sgn a k = (a <<< (64 - k).toNat).sshiftRight (64 - k).toNat := by unfold sgn; rw [if_neg (by omega)]
theorem set_back (p : BitVec 32) : (p.setWidth 64).setWidth 32 = p := by
  apply BitVec.eq_of_toNat_eq
  have := p.isLt
  simp only [BitVec.toNat_setWidth]; omega
theorem sign_back (p : BitVec 32) : (p.signExtend 64).setWidth 32 = p := by
  apply BitVec.eq_of_getLsbD_eq
  intro i hi
  rw [BitVec.getLsbD_setWidth, BitVec.getLsbD_signExtend]
  simp [hi, show i < 64 by omega]
theorem sign_bits (x : BitVec 64) (k : Nat) (h0 : 1 ≤ k) (h1 : k ≤ 64) : (x <<< (64 - k)).sshiftRight (64 - k) = (x.setWidth k).signExtend 64 := by
  apply BitVec.eq_of_getLsbD_eq
  intro i hi
  rw [BitVec.getLsbD_sshiftRight, BitVec.getLsbD_signExtend, BitVec.msb_eq_getLsbD_last, BitVec.msb_eq_getLsbD_last, BitVec.getLsbD_shiftLeft, BitVec.getLsbD_shiftLeft, BitVec.getLsbD_setWidth, BitVec.getLsbD_setWidth]
  simp only [show ¬ 64 ≤ i by omega, hi, decide_true, decide_false, Bool.not_false, Bool.true_and]
  rcases Nat.lt_or_ge i k with h | h
  · rw [if_pos (by omega), if_pos h]
    simp only [show 64 - k + i < 64 by omega, show ¬ 64 - k + i < 64 - k by omega, h, decide_true, decide_false, Bool.not_false, Bool.true_and]
    congr 1; omega
  · rw [if_neg (by omega), if_neg (by omega)]
    simp only [show 64 - 1 < 64 by omega, show ¬ 64 - 1 < 64 - k by omega, show k - 1 < k by omega, decide_true, decide_false, Bool.not_false, Bool.true_and]
    congr 1; omega
theorem sign_nar (x : BitVec 64) (k : Nat) (h0 : 1 ≤ k) (h1 : k ≤ 32) : ((x.setWidth k).signExtend 64).setWidth 32 = ((x.setWidth 32).setWidth k).signExtend 32 := by
  apply BitVec.eq_of_getLsbD_eq
  intro i hi
  rw [BitVec.getLsbD_setWidth, BitVec.getLsbD_signExtend, BitVec.getLsbD_signExtend, BitVec.msb_eq_getLsbD_last, BitVec.msb_eq_getLsbD_last, BitVec.getLsbD_setWidth, BitVec.getLsbD_setWidth, BitVec.getLsbD_setWidth, BitVec.getLsbD_setWidth, BitVec.getLsbD_setWidth, BitVec.getLsbD_setWidth]
  simp only [hi, show i < 64 by omega, show k - 1 < 32 by omega, show k - 1 < k by omega, decide_true, Bool.true_and]
theorem and63 (b : BitVec 64) : (b &&& 63#64).toNat = b.toNat % 64 := by
  rw [BitVec.toNat_and]; exact Nat.and_two_pow_sub_one_eq_mod b.toNat 6
theorem and31 (b : BitVec 64) : (b &&& 31#64).toNat = (b.setWidth 32).toNat % 32 := by
  rw [BitVec.toNat_and, BitVec.toNat_setWidth]
  have := Nat.and_two_pow_sub_one_eq_mod b.toNat 5
  rw [show (31#64).toNat = 2 ^ 5 - 1 from rfl, this]
  omega
theorem set_neg (a : BitVec 64) : (-a).setWidth 32 = -(a.setWidth 32) := by
  have h := set_sub 0#64 a
  rw [BitVec.zero_sub] at h
  rw [h]
  simp
section
variable (a b : BitVec 64)
theorem ww_neg : go 128 true 0 a b = some (-a) := rfl
theorem ww_lsh : go 96 true 0 a b = some (a <<< (b &&& 63#64).toNat) := by rw [and63]; rfl
theorem ww_rsh : go 112 true 0 a b = some (a >>> (b &&& 63#64).toNat) := by rw [and63]; rfl
theorem ww_arsh : go 192 true 0 a b = some (a.sshiftRight (b &&& 63#64).toNat) := by rw [and63]; rfl
theorem nn_add : go 0 false 0 a b = some (((a + b).setWidth 32).setWidth 64) := by rw [BitVec.setWidth_add _ _ (by omega)]; rfl
theorem nn_sub : go 16 false 0 a b = some (((a - b).setWidth 32).setWidth 64) := by rw [set_sub]; rfl
theorem nn_mul : go 32 false 0 a b = some (((a * b).setWidth 32).setWidth 64) := by rw [BitVec.setWidth_mul _ _ (by omega)]; rfl
theorem nn_or : go 64 false 0 a b = some (((a ||| b).setWidth 32).setWidth 64) := by rw [BitVec.setWidth_or]; rfl
theorem nn_and : go 80 false 0 a b = some (((a &&& b).setWidth 32).setWidth 64) := by rw [BitVec.setWidth_and]; rfl
theorem nn_xor : go 160 false 0 a b = some (((a ^^^ b).setWidth 32).setWidth 64) := by rw [BitVec.setWidth_xor]; rfl
theorem nn_neg : go 128 false 0 a b = some (((-a).setWidth 32).setWidth 64) := by rw [set_neg]; rfl
theorem nn_mov : go 176 false 0 a b = some ((b.setWidth 32).setWidth 64) := rfl
theorem nn_lsh : go 96 false 0 a b = some (((a <<< (b &&& 31#64).toNat).setWidth 32).setWidth 64) := by rw [BitVec.setWidth_shiftLeft_of_le (by omega), and31]; rfl
theorem nn_rsh : go 112 false 0 a b = some (((((a.setWidth 32) >>> (b &&& 31#64).toNat).setWidth 64).setWidth 32).setWidth 64) := by rw [set_back, and31]; rfl
theorem nn_arsh : go 192 false 0 a b = some (((((a.setWidth 32).sshiftRight (b &&& 31#64).toNat).signExtend 64).setWidth 32).setWidth 64) := by rw [sign_back, and31]; rfl
theorem nn_div : go 48 false 0 a b = some (((((a.setWidth 32) / (b.setWidth 32)).setWidth 64).setWidth 32).setWidth 64) := by rw [set_back]; rfl
theorem nn_mod : go 144 false 0 a b = some (((((a.setWidth 32) % (b.setWidth 32)).setWidth 64).setWidth 32).setWidth 64) := by rw [set_back]; rfl
theorem nn_sdiv : go 48 false 1 a b = some (((((a.setWidth 32).sdiv (b.setWidth 32)).signExtend 64).setWidth 32).setWidth 64) := by rw [sign_back]; rfl
theorem nn_smod : go 144 false 1 a b = some (((((a.setWidth 32).srem (b.setWidth 32)).signExtend 64).setWidth 32).setWidth 64) := by rw [sign_back]; rfl
theorem ww_s8 : go 176 true 8 a b = some (sgn b 8) := by rw [sgn_in (by omega) (by omega), show (64 - (8 : Int)).toNat = 64 - 8 from rfl, sign_bits _ 8 (by omega) (by omega)]; rfl
theorem ww_s16 : go 176 true 16 a b = some (sgn b 16) := by rw [sgn_in (by omega) (by omega), show (64 - (16 : Int)).toNat = 64 - 16 from rfl, sign_bits _ 16 (by omega) (by omega)]; rfl
theorem ww_s32 : go 176 true 32 a b = some (sgn b 32) := by rw [sgn_in (by omega) (by omega), show (64 - (32 : Int)).toNat = 64 - 32 from rfl, sign_bits _ 32 (by omega) (by omega)]; rfl
theorem nn_s8 : go 176 false 8 a b = some (((sgn b 8).setWidth 32).setWidth 64) := by rw [sgn_in (by omega) (by omega), show (64 - (8 : Int)).toNat = 64 - 8 from rfl, sign_bits _ 8 (by omega) (by omega), sign_nar _ 8 (by omega) (by omega)]; rfl
theorem nn_s16 : go 176 false 16 a b = some (((sgn b 16).setWidth 32).setWidth 64) := by rw [sgn_in (by omega) (by omega), show (64 - (16 : Int)).toNat = 64 - 16 from rfl, sign_bits _ 16 (by omega) (by omega), sign_nar _ 16 (by omega) (by omega)]; rfl
theorem go_off (op : Int) (wide : Bool) (off : Int) (h : ¬ off = 0) (h1 : ¬ op = 176) (h2 : ¬ op = 48) (h3 : ¬ op = 144) : go op wide off a b = none := by
  unfold go gen; cases wide <;> simp [h, h1, h2, h3]
theorem go_mov_off (wide : Bool) (off : Int) (h : ¬ off = 0) (h1 : ¬ off = 8) (h2 : ¬ off = 16) (h3 : ¬ (off = 32 ∧ wide = true)) : go 176 wide off a b = none := by
  unfold go gen; cases wide <;> simp [h, h1, h2] at h3 ⊢; exact h3
theorem go_div_off (wide : Bool) (off : Int) (h : ¬ off = 0) (h1 : ¬ off = 1) : go 48 wide off a b = none := by
  unfold go gen; cases wide <;> simp [h, h1]
theorem go_mod_off (wide : Bool) (off : Int) (h : ¬ off = 0) (h1 : ¬ off = 1) : go 144 wide off a b = none := by
  unfold go gen; cases wide <;> simp [h, h1]
theorem go_else (op : Int) (wide : Bool) (off : Int) (h0 : ¬ op = 0) (h1 : ¬ op = 16) (h2 : ¬ op = 32) (h3 : ¬ op = 64) (h4 : ¬ op = 80) (h5 : ¬ op = 160) (h6 : ¬ op = 128) (h7 : ¬ op = 176) (h8 : ¬ op = 96) (h9 : ¬ op = 112) (h10 : ¬ op = 192) (h11 : ¬ op = 48) (h12 : ¬ op = 144) : go op wide off a b = none := by
  unfold go gen; cases wide <;> simp [h0, h1, h2, h3, h4, h5, h6, h7, h8, h9, h10, h11, h12]
theorem div_zero (w : Nat) (x : BitVec w) : x / 0#w = 0#w ∧ x % 0#w = x ∧ x.sdiv 0#w = 0#w ∧ x.srem 0#w = x := by
  refine ⟨by simp, by simp, by simp, by simp⟩
end
end Alu
end Hk
