/- Plain laws for the statements on tnums; no program in sight. No condition but those in each statement. -/
import Derived.Test.YtigpljbfdkpopaaTnDo
import Derived.Test.YtigpljbfdkpopaaAluRef
namespace Hk
namespace Tn
/-- the kinds of arithmetic of which something is told -/
def Told (op : Int) : Prop := op = 0 ∨ op = 16 ∨ op = 32 ∨ op = 80 ∨ op = 64 ∨ op = 160 ∨ op = 96 ∨ op = 112
theorem told_of {op : Int} {a b t : Tn} (h : do_ op a b = some t) : Told op := by
  unfold do_ at h
  unfold Told
  split at h
  · by_cases h1 : op = 0
    · simp [h1]
    rw [if_neg h1] at h
    by_cases h2 : op = 16
    · simp [h2]
    rw [if_neg h2] at h
    by_cases h3 : op = 32
    · simp [h3]
    rw [if_neg h3] at h
    by_cases h4 : op = 80
    · simp [h4]
    rw [if_neg h4] at h
    by_cases h5 : op = 64
    · simp [h5]
    rw [if_neg h5] at h
    by_cases h6 : op = 160
    · simp [h6]
    rw [if_neg h6] at h
    by_cases h7 : op = 96 ∧ moves b = true
    · simp [h7.1]
    rw [if_neg h7] at h
    by_cases h8 : op = 112 ∧ moves b = true
    · simp [h8.1]
    rw [if_neg h8] at h
    cases h
  · cases h
theorem told_go {op : Int} (h : Told op) (x y : BitVec 64) : ∃ z, Alu.go op true 0 x y = some z := by
  rcases h with rfl | rfl | rfl | rfl | rfl | rfl | rfl | rfl <;> exact ⟨_, rfl⟩
theorem mask_do {op : Int} {a b t : Tn} (ha : a.m = 0) (hb : b.m = 0) (h : do_ op a b = some t) : t.m = 0 := by
  unfold do_ at h
  rw [right_of_mask ha, right_of_mask hb] at h
  simp only [Bool.and_self, if_true] at h
  by_cases h1 : op = 0
  · rw [if_pos h1] at h; simp only [Option.some.injEq] at h; subst h; exact mask_add ha hb
  rw [if_neg h1] at h
  by_cases h2 : op = 16
  · rw [if_pos h2] at h; simp only [Option.some.injEq] at h; subst h; exact mask_sub ha hb
  rw [if_neg h2] at h
  by_cases h3 : op = 32
  · rw [if_pos h3] at h; simp only [Option.some.injEq] at h; subst h; exact mask_mulTo ha hb 64
  rw [if_neg h3] at h
  by_cases h4 : op = 80
  · rw [if_pos h4] at h; simp only [Option.some.injEq] at h; subst h; exact mask_and ha hb
  rw [if_neg h4] at h
  by_cases h5 : op = 64
  · rw [if_pos h5] at h; simp only [Option.some.injEq] at h; subst h; exact mask_or ha hb
  rw [if_neg h5] at h
  by_cases h6 : op = 160
  · rw [if_pos h6] at h; simp only [Option.some.injEq] at h; subst h; exact mask_xor ha hb
  rw [if_neg h6] at h
  by_cases h7 : op = 96 ∧ moves b = true
  · rw [if_pos h7] at h; simp only [Option.some.injEq] at h; subst h; simp [ha]
  rw [if_neg h7] at h
  by_cases h8 : op = 112 ∧ moves b = true
  · rw [if_pos h8] at h; simp only [Option.some.injEq] at h; subst h; simp [ha]
  rw [if_neg h8] at h
  cases h
theorem has_of (n : BitVec 64) : (of n).has n = true := by
  rw [has_iff]; intro i hi; simp [of, bt]
theorem do_of {op : Int} {a b : BitVec 64} {t : Tn} (h : do_ op (of a) (of b) = some t) : ∃ z, Alu.go op true 0 a b = some z ∧ t = of z := by
  obtain ⟨z, hz⟩ := told_go (told_of h) a b
  exact ⟨z, hz, known_of_has (do_sound (has_of a) (has_of b) h hz) (mask_do rfl rfl h)⟩
theorem mod_low (n : BitVec 64) (w : Nat) (hw : w ≤ 63) : n % 1#64 <<< w = n &&& low w := by
  apply BitVec.eq_of_toNat_eq
  have e : (2 : Nat) ^ w < 2 ^ 64 := Nat.pow_lt_pow_right (by omega) (by omega)
  have p := Nat.two_pow_pos w
  have e1 : (1#64 <<< w).toNat = 2 ^ w := by
    rw [BitVec.toNat_shiftLeft, Nat.shiftLeft_eq]
    show 1 * 2 ^ w % 2 ^ 64 = _
    rw [Nat.one_mul, Nat.mod_eq_of_lt e]
  have e2 : (low w).toNat = 2 ^ w - 1 := by
    unfold low
    rw [BitVec.toNat_sub_of_le (by rw [BitVec.le_def, e1]; show 1 ≤ _; omega), e1]; rfl
  rw [BitVec.toNat_umod, BitVec.toNat_and, e1, e2, Nat.and_two_pow_sub_one_eq_mod]
theorem known_cut (a : BitVec 64) (k : Int) (h0 : 1 ≤ k) (h1 : k ≤ 63) : cutI (of a) k = of (a % 1#64 <<< k.toNat) := by
  rw [cutI_in (right_of a) h0 h1, cut_of, mod_low _ _ (by omega)]
end Tn
end Hk
