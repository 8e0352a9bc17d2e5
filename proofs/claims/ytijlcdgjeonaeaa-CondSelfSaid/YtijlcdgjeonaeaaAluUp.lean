/- Plain laws: what the reference of arithmetic reckons, wide and narrow, is what arithmetic makes; no program in sight. No condition but those in each statement. -/
import Derived.Test.YtijlcdgjeonaeaaAluDo
namespace Hk
namespace Alu
def up (X : BitVec 32) : BitVec 64 := X.setWidth 64
def dn (x : BitVec 64) : BitVec 32 := x.setWidth 32
def mag {w : Nat} (x : BitVec w) : BitVec w := if x.msb then -x else x
def quoS {w : Nat} (x y : BitVec w) : BitVec w := if x.msb != y.msb then -(mag x / mag y) else mag x / mag y
def remS {w : Nat} (x y : BitVec w) : BitVec w := if x.msb then -(mag x % mag y) else mag x % mag y
theorem quoS_eq {w : Nat} (x y : BitVec w) : quoS x y = x.sdiv y := by
  unfold quoS mag
  rw [BitVec.sdiv_eq]
  cases hx : x.msb <;> cases hy : y.msb <;> rfl
theorem remS_eq {w : Nat} (x y : BitVec w) : remS x y = x.srem y := by
  unfold remS mag
  rw [BitVec.srem_eq]
  cases hx : x.msb <;> cases hy : y.msb <;> rfl
theorem dn_up (X : BitVec 32) : dn (up X) = X := set_back X
theorem cut_up (x : BitVec 64) : x % 4294967296#64 = up (dn x) := cutL x
theorem up_nat (X : BitVec 32) : (up X).toNat = X.toNat := by
  unfold up; rw [BitVec.toNat_setWidth]; have := X.isLt; omega
theorem up_inj (X Y : BitVec 32) : (up X == up Y) = (X == Y) := by
  rw [Bool.eq_iff_iff, beq_iff_eq, beq_iff_eq]
  exact ⟨fun h => by rw [← dn_up X, h, dn_up], fun h => by rw [h]⟩
theorem up_zero : up 0#32 = 0#64 := rfl
theorem up_zero_beq (X : BitVec 32) : (up X == 0#64) = (X == 0#32) := by rw [← up_zero, up_inj]
theorem neg_w (x : BitVec 64) : (x >>> 63 == 1#64) = x.msb := by
  rw [BitVec.msb_eq_decide, Bool.eq_iff_iff, beq_iff_eq, decide_eq_true_iff, ← BitVec.toNat_inj, BitVec.toNat_ushiftRight, Nat.shiftRight_eq_div_pow]
  have := x.isLt
  have e : (1#64).toNat = 1 := rfl
  rw [e]
  omega
theorem neg_n (X : BitVec 32) : (up X >>> 31 == 1#64) = X.msb := by
  rw [BitVec.msb_eq_decide, Bool.eq_iff_iff, beq_iff_eq, decide_eq_true_iff, ← BitVec.toNat_inj, BitVec.toNat_ushiftRight, Nat.shiftRight_eq_div_pow, up_nat]
  have := X.isLt
  have e : (1#64).toNat = 1 := rfl
  rw [e]
  omega
theorem dn_sub (x y : BitVec 64) : dn (x - y) = dn x - dn y := set_sub x y
theorem dn_neg (X : BitVec 32) : dn (0#64 - up X) = -X := by rw [dn_sub, dn_up]; show 0#32 - X = -X; simp
theorem dn_neg' (X : BitVec 32) : dn (-(up X)) = -X := by rw [← dn_neg X, BitVec.zero_sub]
theorem mag_ne {w : Nat} {y : BitVec w} (h : (y == 0#w) = false) : mag y ≠ 0#w := by
  have h0 : y ≠ 0#w := by simpa using h
  unfold mag
  split
  · intro e
    apply h0
    have := congrArg (fun z => -z) e
    simpa using this
  · exact h0
theorem up_ne {Y : BitVec 32} (h : Y ≠ 0#32) : up Y ≠ 0#64 := fun e => h (by rw [← dn_up Y, e]; rfl)
theorem up_div (X Y : BitVec 32) : up X / up Y = up (X / Y) := by
  apply BitVec.eq_of_toNat_eq
  rw [BitVec.toNat_udiv, up_nat, up_nat, up_nat, BitVec.toNat_udiv]
theorem up_mod (X Y : BitVec 32) : up X % up Y = up (X % Y) := by
  apply BitVec.eq_of_toNat_eq
  rw [BitVec.toNat_umod, up_nat, up_nat, up_nat, BitVec.toNat_umod]
theorem dn_add (x y : BitVec 64) : dn (x + y) = dn x + dn y := BitVec.setWidth_add _ _ (by omega)
theorem dn_mul (x y : BitVec 64) : dn (x * y) = dn x * dn y := BitVec.setWidth_mul _ _ (by omega)
theorem dn_or (x y : BitVec 64) : dn (x ||| y) = dn x ||| dn y := BitVec.setWidth_or
theorem dn_and (x y : BitVec 64) : dn (x &&& y) = dn x &&& dn y := BitVec.setWidth_and
theorem dn_xor (x y : BitVec 64) : dn (x ^^^ y) = dn x ^^^ dn y := BitVec.setWidth_xor
theorem dn_shl (X : BitVec 32) (n : Nat) : dn (up X <<< n) = X <<< n := by
  show (up X <<< n).setWidth 32 = _
  rw [BitVec.setWidth_shiftLeft_of_le (by omega)]; exact congrArg (fun Y : BitVec 32 => Y <<< n) (dn_up X)
theorem up_shr (X : BitVec 32) (n : Nat) : up X >>> n = up (X >>> n) := by
  apply BitVec.eq_of_toNat_eq
  rw [BitVec.toNat_ushiftRight, up_nat, up_nat, BitVec.toNat_ushiftRight]
theorem by_up (X : BitVec 32) : (up X % 32#64).toNat = X.toNat % 32 := by
  rw [BitVec.toNat_umod, up_nat]; rfl
/-- a shift with the sign, as the reference reckons it -/
theorem sub_div (m q r p : Nat) (hp : 0 < p) (hr : r < p) : (m * p + (p - 1) - (q * p + r)) / p = m - q := by
  rcases Nat.le_total q m with h | h
  · obtain ⟨d, rfl⟩ := Nat.exists_eq_add_of_le h
    have e : (q + d) * p + (p - 1) - (q * p + r) = d * p + (p - 1 - r) := by rw [Nat.add_mul]; omega
    rw [e, Nat.mul_comm d p, Nat.mul_add_div hp, Nat.div_eq_of_lt (by omega)]; omega
  · rcases Nat.eq_or_lt_of_le h with h' | h'
    · subst h'
      rw [show m * p + (p - 1) - (m * p + r) = p - 1 - r by omega, Nat.div_eq_of_lt (by omega)]; omega
    · have : m * p + (p - 1) - (q * p + r) = 0 := by
        have : (m + 1) * p ≤ q * p := Nat.mul_le_mul_right p h'
        rw [Nat.add_mul] at this; omega
      rw [this, Nat.zero_div]; omega
theorem ones_shr {w : Nat} (x : BitVec w) (h : x.msb = true) (n : Nat) (hn : n < w) : BitVec.allOnes w - BitVec.allOnes w >>> n + x >>> n = x.sshiftRight n := by
  rw [BitVec.sshiftRight_eq_of_msb_true h]
  apply BitVec.eq_of_toNat_eq
  have hp := Nat.two_pow_pos n
  have hw : (2 : Nat) ^ w = 2 ^ (w - n) * 2 ^ n := by rw [← Nat.pow_add]; congr 1; omega
  have hm := Nat.two_pow_pos (w - n)
  obtain ⟨m, em⟩ : ∃ m, 2 ^ (w - n) = m + 1 := ⟨2 ^ (w - n) - 1, by omega⟩
  rw [em] at hw
  have e1 : (2 : Nat) ^ w - 1 = m * 2 ^ n + (2 ^ n - 1) := by rw [hw, Nat.add_mul]; omega
  have hx := x.isLt
  have d := Nat.div_add_mod x.toNat (2 ^ n)
  have r := Nat.mod_lt x.toNat hp
  rw [Nat.mul_comm] at d
  have q1 : (2 ^ w - 1 - x.toNat) / 2 ^ n = m - x.toNat / 2 ^ n := by
    rw [e1]
    conv => lhs; rw [← d]
    exact sub_div _ _ _ _ hp r
  have q2 : (2 ^ w - 1) / 2 ^ n = m := by
    rw [e1, Nat.mul_comm m, Nat.mul_add_div hp, Nat.div_eq_of_lt (by omega)]; omega
  have q3 : x.toNat / 2 ^ n ≤ m := by
    have : x.toNat / 2 ^ n ≤ (2 ^ w - 1) / 2 ^ n := Nat.div_le_div_right (by omega)
    omega
  have q4 : m < 2 ^ w := by
    rw [hw, Nat.add_mul]
    have := Nat.le_mul_of_pos_right m hp
    omega
  rw [BitVec.toNat_add, BitVec.toNat_sub, BitVec.toNat_not, BitVec.toNat_ushiftRight, BitVec.toNat_ushiftRight, BitVec.toNat_ushiftRight, BitVec.toNat_not, BitVec.toNat_allOnes]
  simp only [Nat.shiftRight_eq_div_pow]
  rw [q1, q2]
  generalize x.toNat / 2 ^ n = q at *
  generalize (2 : Nat) ^ w = W at *
  rw [show W - m + (W - 1) = (W - 1 - m) + W by omega, Nat.add_mod_right, Nat.mod_eq_of_lt (show W - 1 - m < W by omega), Nat.mod_eq_of_lt (by omega)]
  omega
end Alu
end Hk
