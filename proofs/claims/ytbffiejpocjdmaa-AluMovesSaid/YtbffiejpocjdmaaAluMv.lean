/- Plain laws of moved bits; no program in sight. No condition but those in each statement. -/
import Derived.Test.YtbffiejpocjdmaaAluLaw
namespace Hk
namespace Alu
theorem gen_lsh (w : Nat) (x y : BitVec w) : gen w 96 0 x y = some (x <<< (y.toNat % w)) := rfl
theorem gen_rsh (w : Nat) (x y : BitVec w) : gen w 112 0 x y = some (x >>> (y.toNat % w)) := rfl
theorem gen_arsh (w : Nat) (x y : BitVec w) : gen w 192 0 x y = some (x.sshiftRight (y.toNat % w)) := rfl
/-- up and down again: the lowest bits -/
theorem up_down (w : Nat) (x : BitVec w) (n : Nat) : (x <<< n >>> n).toNat = x.toNat % 2 ^ (w - n) := by
  rw [BitVec.toNat_ushiftRight, BitVec.toNat_shiftLeft, Nat.shiftRight_eq_div_pow, Nat.shiftLeft_eq]
  rcases Nat.le_total n w with h | h
  · rw [show (2 : Nat) ^ w = 2 ^ (w - n) * 2 ^ n by rw [← Nat.pow_add]; congr 1; omega, Nat.mul_mod_mul_right, Nat.mul_div_cancel _ (Nat.two_pow_pos n)]
  · rw [show w - n = 0 by omega, Nat.pow_zero, Nat.mod_one]
    have : x.toNat * 2 ^ n % 2 ^ w = 0 := by
      obtain ⟨d, rfl⟩ := Nat.exists_eq_add_of_le h
      rw [Nat.pow_add, Nat.mul_comm (2 ^ w), ← Nat.mul_assoc, Nat.mul_mod_left]
    rw [this, Nat.zero_div]
/-- down with the sign, and up again: what is left is small -/
theorem left_small (w : Nat) (x : BitVec w) (n : Nat) (h : n < w) : (x - (x.sshiftRight n) <<< n).toNat < 2 ^ n := by
  have e : x - (x.sshiftRight n) <<< n = x &&& BitVec.ofNat w (2 ^ n - 1) := by
    have hb : (x.sshiftRight n) <<< n = x &&& ~~~(BitVec.ofNat w (2 ^ n - 1)) := by
      apply BitVec.eq_of_getLsbD_eq
      intro i hi
      rw [BitVec.getLsbD_shiftLeft, BitVec.getLsbD_and, BitVec.getLsbD_not, BitVec.getLsbD_ofNat, Nat.testBit_two_pow_sub_one, BitVec.getLsbD_sshiftRight]
      rcases Nat.lt_or_ge i n with q | q
      · simp [q, hi]
      · simp only [hi, show ¬ i < n by omega, show ¬ w ≤ i - n by omega, decide_true, decide_false, Bool.not_false, Bool.true_and, Bool.and_true, if_true, show n + (i - n) = i by omega]
    have hs : x = (x &&& ~~~(BitVec.ofNat w (2 ^ n - 1))) + (x &&& BitVec.ofNat w (2 ^ n - 1)) := by
      rw [BitVec.add_eq_or_of_and_eq_zero]
      · apply BitVec.eq_of_getLsbD_eq
        intro i hi
        simp only [BitVec.getLsbD_or, BitVec.getLsbD_and, BitVec.getLsbD_not, hi, decide_true, Bool.true_and]
        cases x.getLsbD i <;> cases (BitVec.ofNat w (2 ^ n - 1)).getLsbD i <;> rfl
      · apply BitVec.eq_of_getLsbD_eq
        intro i hi
        simp only [BitVec.getLsbD_and, BitVec.getLsbD_not, BitVec.getLsbD_zero, hi, decide_true, Bool.true_and]
        cases x.getLsbD i <;> cases (BitVec.ofNat w (2 ^ n - 1)).getLsbD i <;> rfl
    rw [hb]
    have hs' := congrArg (fun z => z - (x &&& ~~~(BitVec.ofNat w (2 ^ n - 1)))) hs
    simp only [BitVec.add_comm (x &&& ~~~(BitVec.ofNat w (2 ^ n - 1))), BitVec.add_sub_cancel] at hs'
    exact hs'
  rw [e, BitVec.toNat_and, BitVec.toNat_ofNat]
  have hp := Nat.two_pow_pos n
  have hq : 2 ^ n - 1 < 2 ^ w := Nat.lt_of_lt_of_le (by omega) (Nat.pow_le_pow_right (by omega) (Nat.le_of_lt h))
  rw [Nat.mod_eq_of_lt hq]
  exact Nat.lt_of_le_of_lt Nat.and_le_right (by omega)
theorem low_nat (k : Nat) (hk : k ≤ 64) : (1#64 <<< k - 1#64).toNat = 2 ^ k - 1 := by
  rcases Nat.lt_or_ge k 64 with h | h
  · have hq : (2 : Nat) ^ k < 2 ^ 64 := Nat.pow_lt_pow_right (by omega) h
    have hp := Nat.two_pow_pos k
    have e : (1#64 <<< k).toNat = 2 ^ k := by
      rw [BitVec.toNat_shiftLeft, Nat.shiftLeft_eq]
      have e1 : (1#64).toNat = 1 := rfl
      rw [e1, Nat.one_mul, Nat.mod_eq_of_lt hq]
    rw [BitVec.toNat_sub, e]
    have e1 : (1#64).toNat = 1 := rfl
    rw [e1]; omega
  · have : k = 64 := by omega
    subst this
    rfl
theorem pow_nat (k : Nat) (hk : k < 64) : (1#64 <<< k).toNat = 2 ^ k := by
  have hq : (2 : Nat) ^ k < 2 ^ 64 := Nat.pow_lt_pow_right (by omega) hk
  rw [BitVec.toNat_shiftLeft, Nat.shiftLeft_eq]
  have e1 : (1#64).toNat = 1 := rfl
  rw [e1, Nat.one_mul, Nat.mod_eq_of_lt hq]
/-- wide: bits that are moved up and down again -/
theorem moves_w (a n : BitVec 64) (h : n.toNat < 64) : ∃ x y s up left, go 96 true 0 a n = some x ∧ go 112 true 0 x n = some y ∧ y = a &&& (1#64 <<< (64 - n.toNat) - 1#64) ∧ go 192 true 0 a n = some s ∧ go 96 true 0 s n = some up ∧ go 16 true 0 a up = some left ∧ left < 1#64 <<< n.toNat ∧ go 96 true 0 a (n + 64#64) = some x := by
  have e : n.toNat % 64 = n.toNat := Nat.mod_eq_of_lt h
  refine ⟨_, _, _, _, _, congrArg some rfl, congrArg some rfl, ?_, congrArg some rfl, congrArg some rfl, congrArg some rfl, ?_, congrArg some ?_⟩
  · apply BitVec.eq_of_toNat_eq
    rw [e, up_down, BitVec.toNat_and, low_nat _ (by omega), Nat.and_two_pow_sub_one_eq_mod]
  · rw [BitVec.lt_def, pow_nat _ h, e]
    exact left_small 64 a n.toNat h
  · congr 1
    rw [BitVec.toNat_add, show (64#64).toNat = 64 from rfl]
    omega
theorem moves_n (a n : BitVec 64) (h : n.toNat < 32) : ∃ x y s up left, go 96 false 0 a n = some x ∧ go 112 false 0 x n = some y ∧ y = a &&& (1#64 <<< (32 - n.toNat) - 1#64) ∧ go 192 false 0 a n = some s ∧ go 96 false 0 s n = some up ∧ go 16 false 0 a up = some left ∧ left < 1#64 <<< n.toNat ∧ go 96 false 0 a (n + 32#64) = some x := by
  have e0 : (n.setWidth 32).toNat = n.toNat := by rw [BitVec.toNat_setWidth]; omega
  have e : (n.setWidth 32).toNat % 32 = n.toNat := by omega
  refine ⟨_, _, _, _, _, rfl, go_nar _ _ _ _ ((a.setWidth 32) <<< n.toNat >>> n.toNat) ?_, ?_, rfl, go_nar _ _ _ _ (((a.setWidth 32).sshiftRight n.toNat) <<< n.toNat) ?_, go_nar _ _ _ _ (a.setWidth 32 - ((a.setWidth 32).sshiftRight n.toNat) <<< n.toNat) ?_, ?_, ?_⟩
  · rw [gen_rsh, set_back, e]
  · apply BitVec.eq_of_toNat_eq
    rw [BitVec.toNat_setWidth, up_down, BitVec.toNat_and, low_nat _ (by omega), Nat.and_two_pow_sub_one_eq_mod, BitVec.toNat_setWidth]
    have h1 : (2 : Nat) ^ 32 = 2 ^ (32 - n.toNat) * 2 ^ n.toNat := by rw [← Nat.pow_add]; congr 1; omega
    have h2 : a.toNat % 2 ^ 32 % 2 ^ (32 - n.toNat) = a.toNat % 2 ^ (32 - n.toNat) := Nat.mod_mod_of_dvd _ (by rw [h1]; exact Nat.dvd_mul_right _ _)
    rw [h2]
    have h3 : a.toNat % 2 ^ (32 - n.toNat) < 2 ^ (32 - n.toNat) := Nat.mod_lt _ (Nat.two_pow_pos _)
    have h4 : (2 : Nat) ^ (32 - n.toNat) ≤ 2 ^ 64 := Nat.pow_le_pow_right (by omega) (by omega)
    exact Nat.mod_eq_of_lt (by omega)
  · rw [gen_lsh, set_back, e]
  · show some _ = some _
    rw [set_back]
  · rw [BitVec.lt_def, pow_nat _ (by omega), BitVec.toNat_setWidth]
    have h1 := left_small 32 (a.setWidth 32) n.toNat h
    have h4 : (2 : Nat) ^ n.toNat ≤ 2 ^ 64 := Nat.pow_le_pow_right (by omega) (by omega)
    rw [Nat.mod_eq_of_lt (by omega)]
    exact h1
  · refine go_nar _ _ _ _ _ ?_
    rw [gen_lsh]
    congr 2
    rw [BitVec.toNat_setWidth, BitVec.toNat_add, show (32#64).toNat = 32 from rfl, BitVec.toNat_setWidth]
    omega
end Alu
end Hk
