/- Plain laws: the narrow ways of the reference of arithmetic, and its Sign; no program in sight. No condition but those in each statement. -/
import Derived.Test.YtijlcdgjeonaeaaAluUp
namespace Hk
namespace Alu
section
variable (a b : BitVec 64)
theorem rn_add : go 0 false 0 a b = some (up (dn (up (dn a) + up (dn b)))) := by rw [dn_add, dn_up, dn_up]; rfl
theorem rn_sub : go 16 false 0 a b = some (up (dn (up (dn a) - up (dn b)))) := by rw [dn_sub, dn_up, dn_up]; rfl
theorem rn_mul : go 32 false 0 a b = some (up (dn (up (dn a) * up (dn b)))) := by rw [dn_mul, dn_up, dn_up]; rfl
theorem rn_or : go 64 false 0 a b = some (up (dn (up (dn a) ||| up (dn b)))) := by rw [dn_or, dn_up, dn_up]; rfl
theorem rn_and : go 80 false 0 a b = some (up (dn (up (dn a) &&& up (dn b)))) := by rw [dn_and, dn_up, dn_up]; rfl
theorem rn_xor : go 160 false 0 a b = some (up (dn (up (dn a) ^^^ up (dn b)))) := by rw [dn_xor, dn_up, dn_up]; rfl
theorem rn_neg : go 128 false 0 a b = some (up (dn (0#64 - up (dn a)))) := by rw [dn_neg]; rfl
theorem rn_mov : go 176 false 0 a b = some (up (dn (up (dn b)))) := by rw [dn_up]; rfl
theorem rn_lsh : go 96 false 0 a b = some (up (dn (up (dn a) <<< (up (dn b) % 32#64).toNat))) := by rw [dn_shl, by_up]; rfl
theorem rn_rsh : go 112 false 0 a b = some (up (dn (up (dn a) >>> (up (dn b) % 32#64).toNat))) := by rw [up_shr, dn_up, by_up]; rfl
theorem rn_arsh0 (h : (dn a).msb = false) : go 192 false 0 a b = some (up (dn (up (dn a) >>> (up (dn b) % 32#64).toNat))) := by
  rw [up_shr, dn_up, by_up, ← BitVec.sshiftRight_eq_of_msb_false h]; rfl
theorem dn_ones : dn 18446744073709551615#64 = BitVec.allOnes 32 := by decide
theorem rn_arsh1 (h : (dn a).msb = true) : go 192 false 0 a b = some (up (dn (up (dn 18446744073709551615#64) - up (dn 18446744073709551615#64) >>> (up (dn b) % 32#64).toNat + up (dn a) >>> (up (dn b) % 32#64).toNat))) := by
  rw [dn_add, dn_sub, dn_up, up_shr, up_shr, dn_up, dn_up, by_up, dn_ones, ones_shr _ h _ (Nat.mod_lt _ (by omega))]; rfl
theorem wide_arsh0 (h : a.msb = false) : go 192 true 0 a b = some (a >>> (b % 64#64).toNat) := by
  rw [← BitVec.sshiftRight_eq_of_msb_false h, BitVec.toNat_umod]; rfl
theorem wide_arsh1 (h : a.msb = true) : go 192 true 0 a b = some (18446744073709551615#64 - 18446744073709551615#64 >>> (b % 64#64).toNat + a >>> (b % 64#64).toNat) := by
  have e : (b % 64#64).toNat < 64 := by rw [BitVec.toNat_umod]; exact Nat.mod_lt _ (by decide)
  have := ones_shr a h _ e
  rw [show (18446744073709551615#64) = BitVec.allOnes 64 from by decide, this, BitVec.toNat_umod]; rfl
theorem rn_div : go 48 false 0 a b = some (up (dn a / dn b)) := rfl
theorem rn_mod : go 144 false 0 a b = some (up (dn a % dn b)) := rfl
theorem rn_sdiv : go 48 false 1 a b = some (up ((dn a).sdiv (dn b))) := rfl
theorem rn_smod : go 144 false 1 a b = some (up ((dn a).srem (dn b))) := rfl
end
theorem sgn_up (b : BitVec 64) (k : Nat) (h0 : 1 ≤ k) (h1 : k ≤ 32) : sgn (up (dn b)) (k : Int) = sgn b (k : Int) := by
  rw [sgn_in (by omega) (by omega), sgn_in (by omega) (by omega), show (64 - (k : Int)).toNat = 64 - k by omega, sign_bits _ k h0 (by omega), sign_bits _ k h0 (by omega)]
  congr 1
  apply BitVec.eq_of_getLsbD_eq
  intro i hi
  unfold up dn
  rw [BitVec.getLsbD_setWidth, BitVec.getLsbD_setWidth, BitVec.getLsbD_setWidth, BitVec.getLsbD_setWidth]
  simp [hi, show i < 64 by omega, show i < 32 by omega]
theorem rn_s8 (a b : BitVec 64) : go 176 false 8 a b = some (up (dn (sgn (up (dn b)) 8))) := by rw [nn_s8]; exact congrArg (fun z => some (up (dn z))) (sgn_up b 8 (by omega) (by omega)).symm
theorem rn_s16 (a b : BitVec 64) : go 176 false 16 a b = some (up (dn (sgn (up (dn b)) 16))) := by rw [nn_s16]; exact congrArg (fun z => some (up (dn z))) (sgn_up b 16 (by omega) (by omega)).symm
/-- the power of two, as the walk has it -/
theorem pw_nat {k : Nat} (h : k ≤ 63) : (1#64 <<< k).toNat = 2 ^ k := by
  rw [BitVec.toNat_shiftLeft, Nat.shiftLeft_eq]
  have : (2 : Nat) ^ k < 2 ^ 64 := Nat.pow_lt_pow_right (by omega) (by omega)
  have e1 : (1#64).toNat = 1 := rfl
  rw [e1, Nat.one_mul, Nat.mod_eq_of_lt this]
/-- a number's lowest bits, signed, as the reference has them -/
theorem sgn_ref (a : BitVec 64) (k : Nat) (h0 : 1 ≤ k) (h1 : k ≤ 63) :
    sgn a (k : Int) = if (a % 1#64 <<< k) >>> (k - 1) == 0#64 then a % 1#64 <<< k else a % 1#64 <<< k - 1#64 <<< k := by
  rw [sgn_in (by omega) (by omega), show (64 - (k : Int)).toNat = 64 - k by omega, sign_bits a k h0 (by omega)]
  have hp := pw_nat h1
  have hw : (2 : Nat) ^ k = 2 ^ (k - 1) * 2 := by rw [← Nat.pow_succ]; congr 1; omega
  have hq := Nat.two_pow_pos (k - 1)
  have h64 : (2 : Nat) ^ k < 2 ^ 64 := Nat.pow_lt_pow_right (by omega) (by omega)
  have em : (a % 1#64 <<< k).toNat = a.toNat % 2 ^ k := by rw [BitVec.toNat_umod, hp]
  have hm : a.toNat % 2 ^ k < 2 ^ k := Nat.mod_lt _ (by omega)
  have hmsb : (a.setWidth k).msb = decide (2 ^ (k - 1) ≤ a.toNat % 2 ^ k) := by
    rw [BitVec.msb_eq_decide, BitVec.toNat_setWidth]
  have hz : ((a % 1#64 <<< k) >>> (k - 1) == 0#64) = decide (a.toNat % 2 ^ k < 2 ^ (k - 1)) := by
    rw [Bool.eq_iff_iff, beq_iff_eq, decide_eq_true_iff, ← BitVec.toNat_inj, BitVec.toNat_ushiftRight, em, Nat.shiftRight_eq_div_pow]
    rw [show (0#64).toNat = 0 from rfl, Nat.div_eq_zero_iff]
    omega
  rw [hz]
  have hl : a.toNat % 2 ^ k % 2 ^ 64 = a.toNat % 2 ^ k := Nat.mod_eq_of_lt (by omega)
  by_cases c : a.toNat % 2 ^ k < 2 ^ (k - 1)
  · rw [if_pos (by simpa using c)]
    apply BitVec.eq_of_toNat_eq
    rw [BitVec.toNat_signExtend, BitVec.toNat_setWidth, BitVec.toNat_setWidth, em, hmsb, hl, if_neg (by simp; omega)]
    rfl
  · rw [if_neg (by simpa using c)]
    apply BitVec.eq_of_toNat_eq
    rw [BitVec.toNat_signExtend, BitVec.toNat_setWidth, BitVec.toNat_setWidth, BitVec.toNat_sub, em, hp, hmsb, hl, if_pos (by simp; omega)]
    generalize a.toNat % 2 ^ k = x at *
    generalize (2 : Nat) ^ k = p at *
    omega
theorem sgn_64 (a : BitVec 64) : sgn a 64 = a := by
  rw [sgn_in (by omega) (by omega), show ((64 : Int) - 64).toNat = 0 from rfl]
  apply BitVec.eq_of_getLsbD_eq
  intro i hi
  rw [BitVec.getLsbD_sshiftRight, BitVec.shiftLeft_zero]
  simp [hi]
end Alu
end Hk
