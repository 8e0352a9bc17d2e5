/- Plain laws: bytes that are turned about; no program in sight. No condition but those in each statement. -/
import Derived.Test.YtbffiejpocjdmaaAluRn
namespace Hk
namespace Alu
/-- bytes turned about, one by one, as the reference has it -/
def rv : Nat → BitVec 64 → BitVec 64 → BitVec 64
  | 0, o, _ => o
  | n + 1, o, x => rv n (o * 256#64 + x % 256#64) (x / 256#64)
theorem bt_div256 (x : BitVec 64) (i : Nat) : bt (x / 256#64) i = bt x (i + 8) := by
  have e : x / 256#64 = x >>> 8 := by
    apply BitVec.eq_of_toNat_eq
    rw [BitVec.toNat_udiv, BitVec.toNat_ushiftRight, Nat.shiftRight_eq_div_pow]; rfl
  rw [e, bt_shr, Nat.add_comm]
theorem bt_byte (o x : BitVec 64) (i : Nat) (hi : i < 64) : bt (o * 256#64 + x % 256#64) i = if i < 8 then bt x i else bt o (i - 8) := by
  have e1 : o * 256#64 = o <<< 8 := by
    apply BitVec.eq_of_toNat_eq
    rw [BitVec.toNat_mul, BitVec.toNat_shiftLeft, Nat.shiftLeft_eq]; rfl
  have e2 : x % 256#64 = x &&& 255#64 := by
    apply BitVec.eq_of_toNat_eq
    rw [BitVec.toNat_umod, BitVec.toNat_and]
    show x.toNat % 256 = x.toNat &&& (2 ^ 8 - 1)
    rw [Nat.and_two_pow_sub_one_eq_mod]
  have m : ∀ j, j < 64 → bt 255#64 j = decide (j < 8) := by decide
  have e3 : o <<< 8 &&& (x &&& 255#64) = 0#64 := by
    apply bt_ext; intro j hj
    rw [bt_and, bt_and, bt_shl _ _ _ hj, m j hj, bt_zero]
    by_cases h : j < 8 <;> simp [h]
  rw [e1, e2, BitVec.add_eq_or_of_and_eq_zero _ _ e3, bt_or, bt_and, bt_shl _ _ _ hi, m i hi]
  by_cases h : i < 8 <;> simp [h]
theorem bt_rv (n : Nat) : ∀ (o x : BitVec 64) (i : Nat), i < 64 → bt (rv n o x) i = if i < 8 * n then bt x (8 * (n - 1 - i / 8) + i % 8) else bt o (i - 8 * n) := by
  induction n with
  | zero => intro o x i _; simp [rv]
  | succ n ih =>
    intro o x i hi
    rw [rv, ih _ _ i hi]
    by_cases h : i < 8 * n
    · rw [if_pos h, if_pos (by omega), bt_div256]; congr 1 <;> omega
    · rw [if_neg h, bt_byte _ _ _ (by omega)]
      by_cases h2 : i < 8 * (n + 1)
      · rw [if_pos h2, if_pos (by omega)]; congr 1 <;> omega
      · rw [if_neg h2, if_neg (by omega)]; congr 1 <;> omega
/-- bytes turned about, as the library has it -/
def rb1 (x : BitVec 64) : BitVec 64 := x >>> 8 &&& 71777214294589695#64 ||| (x &&& 71777214294589695#64) <<< 8
def rb2 (x : BitVec 64) : BitVec 64 := x >>> 16 &&& 281470681808895#64 ||| (x &&& 281470681808895#64) <<< 16
def rb (x : BitVec 64) : BitVec 64 := rb2 (rb1 x) >>> 32 ||| rb2 (rb1 x) <<< 32
theorem bt_rb1 (x : BitVec 64) (i : Nat) (hi : i < 64) : bt (rb1 x) i = if i % 16 < 8 then bt x (i + 8) else bt x (i - 8) := by
  have m : ∀ j, j < 64 → bt 71777214294589695#64 j = decide (j % 16 < 8) := by decide
  unfold rb1
  rw [bt_or, bt_and, bt_shr, m i hi, bt_shl _ _ _ hi, bt_and]
  by_cases h : i % 16 < 8
  · rw [if_pos h]
    by_cases h2 : i < 8
    · simp [h, h2, Nat.add_comm]
    · rw [m (i - 8) (by omega)]; simp [h, h2, Nat.add_comm, show ¬ (i - 8) % 16 < 8 by omega]
  · rw [if_neg h, m (i - 8) (by omega)]; simp [h, show ¬ i < 8 by omega, show (i - 8) % 16 < 8 by omega]
theorem bt_rb2 (x : BitVec 64) (i : Nat) (hi : i < 64) : bt (rb2 x) i = if i % 32 < 16 then bt x (i + 16) else bt x (i - 16) := by
  have m : ∀ j, j < 64 → bt 281470681808895#64 j = decide (j % 32 < 16) := by decide
  unfold rb2
  rw [bt_or, bt_and, bt_shr, m i hi, bt_shl _ _ _ hi, bt_and]
  by_cases h : i % 32 < 16
  · rw [if_pos h]
    by_cases h2 : i < 16
    · simp [h, h2, Nat.add_comm]
    · rw [m (i - 16) (by omega)]; simp [h, h2, Nat.add_comm, show ¬ (i - 16) % 32 < 16 by omega]
  · rw [if_neg h, m (i - 16) (by omega)]; simp [h, show ¬ i < 16 by omega, show (i - 16) % 32 < 16 by omega]
theorem bt_rb (x : BitVec 64) (i : Nat) (hi : i < 64) : bt (rb x) i = bt x (8 * (7 - i / 8) + i % 8) := by
  have e : bt (rb x) i = if i < 32 then bt (rb2 (rb1 x)) (i + 32) else bt (rb2 (rb1 x)) (i - 32) := by
    unfold rb
    rw [bt_or, bt_shr, bt_shl _ _ _ hi]
    by_cases h : i < 32
    · simp [h, Nat.add_comm]
    · rw [bt_ge _ (32 + i) (by omega)]; simp [h]
  rw [e]
  by_cases h : i < 32
  · rw [if_pos h, bt_rb2 _ _ (by omega)]
    by_cases h2 : (i + 32) % 32 < 16
    · rw [if_pos h2, bt_rb1 _ _ (by omega)]
      by_cases h3 : (i + 32 + 16) % 16 < 8
      · rw [if_pos h3]; congr 1 <;> omega
      · rw [if_neg h3]; congr 1 <;> omega
    · rw [if_neg h2, bt_rb1 _ _ (by omega)]
      by_cases h3 : (i + 32 - 16) % 16 < 8
      · rw [if_pos h3]; congr 1 <;> omega
      · rw [if_neg h3]; congr 1 <;> omega
  · rw [if_neg h, bt_rb2 _ _ (by omega)]
    by_cases h2 : (i - 32) % 32 < 16
    · rw [if_pos h2, bt_rb1 _ _ (by omega)]
      by_cases h3 : (i - 32 + 16) % 16 < 8
      · rw [if_pos h3]; congr 1 <;> omega
      · rw [if_neg h3]; congr 1 <;> omega
    · rw [if_neg h2, bt_rb1 _ _ (by omega)]
      by_cases h3 : (i - 32 - 16) % 16 < 8
      · rw [if_pos h3]; congr 1 <;> omega
      · rw [if_neg h3]; congr 1 <;> omega
/-- the lowest n bytes, turned about -/
def turn (n : Nat) (a : BitVec 64) : BitVec 64 := rv n 0#64 a
def lowb (n : Nat) (a : BitVec 64) : BitVec 64 := a <<< (64 - 8 * n) >>> (64 - 8 * n)
theorem bt_turn (n : Nat) (a : BitVec 64) (i : Nat) (hi : i < 64) : bt (turn n a) i = (decide (i < 8 * n) && bt a (8 * (n - 1 - i / 8) + i % 8)) := by
  unfold turn
  rw [bt_rv _ _ _ _ hi, bt_zero]
  by_cases h : i < 8 * n <;> simp [h]
theorem bt_lowb (n : Nat) (_h0 : 1 ≤ n) (h8 : n ≤ 8) (a : BitVec 64) (i : Nat) (_hi : i < 64) : bt (lowb n a) i = (decide (i < 8 * n) && bt a i) := by
  unfold lowb
  rw [bt_shr]
  by_cases h : i < 8 * n
  · rw [bt_shl _ _ _ (by omega)]; simp [h]
  · rw [bt_ge _ _ (by omega)]; simp [h]
theorem turn_rb (n : Nat) (h0 : 1 ≤ n) (h8 : n ≤ 8) (a : BitVec 64) : turn n a = rb (a <<< (64 - 8 * n)) &&& (1#64 <<< (8 * n) - 1#64) := by
  apply bt_ext; intro i hi
  have hm : bt (1#64 <<< (8 * n) - 1#64) i = decide (i < 8 * n) := by
    unfold bt
    have e : (1#64 <<< (8 * n) - 1#64).toNat = 2 ^ (8 * n) - 1 := by
      rcases Nat.lt_or_ge n 8 with h | h
      · rw [BitVec.toNat_sub, pw_nat (by omega)]
        have := Nat.two_pow_pos (8 * n)
        have : (2 : Nat) ^ (8 * n) < 2 ^ 64 := Nat.pow_lt_pow_right (by omega) (by omega)
        have e1 : (1#64).toNat = 1 := rfl
        rw [e1]; omega
      · obtain rfl : n = 8 := by omega
        rfl
    show (1#64 <<< (8 * n) - 1#64).toNat.testBit i = _
    rw [e, Nat.testBit_two_pow_sub_one]
  rw [bt_turn _ _ _ hi, bt_and, hm, bt_rb _ _ hi, Bool.and_comm]
  by_cases h : i < 8 * n
  · rw [bt_shl _ _ _ (by omega)]
    have : 8 * (7 - i / 8) + i % 8 - (64 - 8 * n) = 8 * (n - 1 - i / 8) + i % 8 := by omega
    rw [this]
    simp [show ¬ 8 * (7 - i / 8) + i % 8 < 64 - 8 * n by omega]
  · simp [h]
theorem turn_low (n : Nat) (h0 : 1 ≤ n) (h8 : n ≤ 8) (a : BitVec 64) : turn n (lowb n a) = turn n a := by
  apply bt_ext; intro i hi
  rw [bt_turn _ _ _ hi, bt_turn _ _ _ hi]
  by_cases h : i < 8 * n
  · rw [bt_lowb n h0 h8 _ _ (by omega)]; simp [h, show 8 * (n - 1 - i / 8) + i % 8 < 8 * n by omega]
  · simp [h]
theorem low_mod (n : Nat) (h0 : 1 ≤ n) (h8 : n ≤ 7) (a : BitVec 64) : lowb n a = a % 1#64 <<< (8 * n) := by
  apply bt_ext; intro i hi
  have : a % 1#64 <<< (8 * n) = BitVec.ofNat 64 (a.toNat % 2 ^ (8 * n)) := by
    apply BitVec.eq_of_toNat_eq
    rw [BitVec.toNat_umod, pw_nat (by omega), BitVec.toNat_ofNat]
    refine (Nat.mod_eq_of_lt ?_).symm
    have := Nat.mod_le a.toNat (2 ^ (8 * n)); have := a.isLt; omega
  rw [bt_lowb n h0 (by omega) _ _ hi, this]
  show _ = (BitVec.ofNat 64 (a.toNat % 2 ^ (8 * n))).getLsbD i
  rw [BitVec.getLsbD_ofNat, Nat.testBit_mod_two_pow]
  simp [hi, bt]
  rfl
theorem low_8 (a : BitVec 64) : lowb 8 a = a := by
  unfold lowb; simp
/-- turned about twice: as it was -/
theorem turn_turn (n : Nat) (h0 : 1 ≤ n) (h8 : n ≤ 8) (a : BitVec 64) : turn n (turn n a) = lowb n a := by
  apply bt_ext; intro i hi
  rw [bt_turn _ _ _ hi, bt_lowb n h0 h8 _ _ hi]
  by_cases h : i < 8 * n
  · rw [bt_turn _ _ _ (by omega)]
    have : 8 * (n - 1 - (8 * (n - 1 - i / 8) + i % 8) / 8) + (8 * (n - 1 - i / 8) + i % 8) % 8 = i := by omega
    rw [this]
    simp [h, show 8 * (n - 1 - i / 8) + i % 8 < 8 * n by omega]
  · simp [h]
/-- what Swap makes; none: no such width -/
def swap (tn : Bool) (k : Int) (a : BitVec 64) : Option (BitVec 64) :=
  if k = 16 then some (if tn then turn 2 a else lowb 2 a) else if k = 32 then some (if tn then turn 4 a else lowb 4 a) else if k = 64 then some (if tn then turn 8 a else lowb 8 a) else none
theorem swap_none (tn : Bool) (k : Int) (a : BitVec 64) (h1 : ¬ k = 16) (h2 : ¬ k = 32) (h3 : ¬ k = 64) : swap tn k a = none := by
  unfold swap; rw [if_neg h1, if_neg h2, if_neg h3]
end Alu
end Hk
