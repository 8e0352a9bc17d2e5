/- Plain laws: what the program's spans reckon is what the plain functions say; no program in sight. No condition but those in each statement. -/
import Derived.Test.YtkpmhnfgldchaaaSp
import Derived.Test.YtkpmhnfgldchaaaWd
namespace Hk
open Go
set_option linter.unusedSimpArgs false
namespace Sp
theorem eta (s : Sp) : Sp.mk s.lo s.hi = s := rfl
def mulHi (x y : BitVec 64) : BitVec 64 := BitVec.ofNat 64 (x.toNat * y.toNat / 18446744073709551616)
theorem mulHi_nat (x y : BitVec 64) : (mulHi x y).toNat = x.toNat * y.toNat / 18446744073709551616 := by
  unfold mulHi
  rw [BitVec.toNat_ofNat, Nat.mod_eq_of_lt]
  have h1 := x.isLt; have h2 := y.isLt
  rw [Nat.div_lt_iff_lt_mul (by omega)]
  exact Nat.mul_lt_mul'' h1 h2
theorem mul_nat (x y : BitVec 64) : (x * y).toNat = x.toNat * y.toNat % 18446744073709551616 := by rw [BitVec.toNat_mul]
theorem mulHi_zero (x y : BitVec 64) : (mulHi x y == 0#64) = decide (x.toNat * y.toNat < 18446744073709551616) := by
  rw [Bool.eq_iff_iff, beq_iff_eq, decide_eq_true_iff, ← BitVec.toNat_inj, mulHi_nat, show (0#64).toNat = 0 from rfl, Nat.div_eq_zero_iff]
  omega
/-- the carry of a sum -/
def over (x y : BitVec 64) : BitVec 64 := if x.toNat + y.toNat < 18446744073709551616 then 0#64 else 1#64
theorem over_zero (x y : BitVec 64) : (over x y == 0#64) = decide (x.toNat + y.toNat < 18446744073709551616) := by
  unfold over
  by_cases h : x.toNat + y.toNat < 18446744073709551616 <;> simp [h]
theorem hi_bit (z : BitVec 64) : z >>> 63 = if z.msb then 1#64 else 0#64 := by
  rw [BitVec.msb_eq_decide]
  apply BitVec.eq_of_toNat_eq
  rw [BitVec.toNat_ushiftRight, Nat.shiftRight_eq_div_pow]
  have := z.isLt
  by_cases h : 2 ^ (64 - 1) ≤ z.toNat
  · rw [if_pos (by simpa using h)]
    show z.toNat / 2 ^ 63 = 1
    omega
  · rw [if_neg (by simpa using h)]
    show z.toNat / 2 ^ 63 = 0
    omega
theorem carry_is (x y : BitVec 64) : ((x &&& y) ||| ((x ||| y) &&& ~~~(x + y))) >>> 63 = over x y := by
  rw [hi_bit, BitVec.msb_or, BitVec.msb_and, BitVec.msb_and, BitVec.msb_or, BitVec.msb_not]
  have e : ∀ z : BitVec 64, z.msb = decide (9223372036854775808 ≤ z.toNat) := fun z => BitVec.msb_eq_decide z
  rw [e x, e y, e (x + y), BitVec.toNat_add]
  unfold over
  have h1 := x.isLt; have h2 := y.isLt
  by_cases a : 9223372036854775808 ≤ x.toNat <;> by_cases b : 9223372036854775808 ≤ y.toNat
  · simp [a, b]; first | omega | (rw [if_neg (by omega)]) | (rw [if_pos (by omega)])
  · by_cases c : 9223372036854775808 ≤ (x.toNat + y.toNat) % 2 ^ 64
    · simp [a, b, c]; first | omega | (rw [if_neg (by omega)]) | (rw [if_pos (by omega)])
    · simp [a, b, c]; first | omega | (rw [if_neg (by omega)]) | (rw [if_pos (by omega)])
  · by_cases c : 9223372036854775808 ≤ (x.toNat + y.toNat) % 2 ^ 64
    · simp [a, b, c]; first | omega | (rw [if_neg (by omega)]) | (rw [if_pos (by omega)])
    · simp [a, b, c]; first | omega | (rw [if_neg (by omega)]) | (rw [if_pos (by omega)])
  · simp [a, b]; first | omega | (rw [if_neg (by omega)]) | (rw [if_pos (by omega)])
theorem meet_all {a : Sp} (h : a.right = true) : meetOk a all = true ∧ meet a all = a := by
  have h1 : both a all = a := by
    unfold both
    have e1 : mx a.lo all.lo = a.lo := by apply BitVec.eq_of_toNat_eq; rw [mx_nat, all_lo]; omega
    have e2 : mn a.hi all.hi = a.hi := by apply BitVec.eq_of_toNat_eq; rw [mn_nat, all_hi]; have := a.hi.isLt; omega
    rw [e1, e2]
  have h2 : meetOk a all = true := by unfold meetOk; rw [h1, h]; rfl
  exact ⟨h2, by unfold meet; rw [if_pos h2, h1]⟩
theorem meet?_get (a b : Sp) : (meet? a b).getD ⟨0, 0⟩ = meet a b ∧ (meet? a b).isSome = meetOk a b := by
  unfold meet? meet; split <;> rename_i h
  · exact ⟨rfl, h.symm⟩
  · exact ⟨rfl, by simpa using h⟩
def top : BitVec 64 := 18446744073709551615#64
section
variable {a b : Sp} (ha : a.right = true) (hb : b.right = true)
include ha hb
theorem do_add1 (h : (over a.hi b.hi == 0#64) = true) : do_ 0 a b = ⟨a.lo + b.lo, a.hi + b.hi⟩ := by
  rw [over_zero] at h
  unfold do_; rw [ha, hb]; simp [of_decide_eq_true h]
theorem do_add2 (h : (over a.hi b.hi == 0#64) = false) : do_ 0 a b = all := by
  rw [over_zero] at h
  have h' := of_decide_eq_false h
  unfold do_; rw [ha, hb]; simp; intro h; omega
theorem do_mul1 (h : (mulHi a.hi b.hi == 0#64) = true) : do_ 32 a b = ⟨a.lo * b.lo, a.hi * b.hi⟩ := by
  rw [mulHi_zero] at h
  unfold do_; rw [ha, hb]; simp [of_decide_eq_true h]
theorem do_mul2 (h : (mulHi a.hi b.hi == 0#64) = false) : do_ 32 a b = all := by
  rw [mulHi_zero] at h
  have h' := of_decide_eq_false h
  unfold do_; rw [ha, hb]; simp; intro h; omega
theorem do_sub1 (h : decide (b.hi ≤ a.lo) = true) : do_ 16 a b = ⟨a.lo - b.hi, a.hi - b.lo⟩ := by
  unfold do_; rw [ha, hb]; simp [of_decide_eq_true h]
theorem do_sub2 (h : decide (b.hi ≤ a.lo) = false) : do_ 16 a b = all := by
  have h' := of_decide_eq_false h; unfold do_; simp only [ha, hb, Bool.and_self, if_true, if_false, Int.reduceEq, reduceIte, h']
theorem do_and : do_ 80 a b = ⟨0, mn a.hi b.hi⟩ := by
  unfold do_; rw [ha, hb]; rfl
theorem do_div1 (h : decide (0#64 < b.lo) = true) : do_ 48 a b = ⟨a.lo / b.hi, a.hi / b.lo⟩ := by
  have h' := of_decide_eq_true h; unfold do_; simp only [ha, hb, Bool.and_self, if_true, if_false, Int.reduceEq, reduceIte, h']
theorem do_div2 (h : decide (0#64 < b.lo) = false) : do_ 48 a b = all := by
  have h' := of_decide_eq_false h; unfold do_; simp only [ha, hb, Bool.and_self, if_true, if_false, Int.reduceEq, reduceIte, h']
theorem do_mod1 (h : decide (0#64 < b.lo) = true) : do_ 144 a b = ⟨0, mn a.hi (b.hi - 1#64)⟩ := by
  have h' := of_decide_eq_true h; unfold do_; simp only [ha, hb, Bool.and_self, if_true, if_false, Int.reduceEq, reduceIte, h']
theorem do_mod2 (h : decide (0#64 < b.lo) = false) : do_ 144 a b = all := by
  have h' := of_decide_eq_false h; unfold do_; simp only [ha, hb, Bool.and_self, if_true, if_false, Int.reduceEq, reduceIte, h']
theorem do_rsh1 (h : decide (b.hi < 64#64) = true) : do_ 112 a b = ⟨a.lo >>> b.hi.toNat, a.hi >>> b.lo.toNat⟩ := by
  have h' := of_decide_eq_true h; unfold do_; simp only [ha, hb, Bool.and_self, if_true, if_false, Int.reduceEq, reduceIte, h']
theorem do_rsh2 (h : decide (b.hi < 64#64) = false) : do_ 112 a b = all := by
  have h' := of_decide_eq_false h; unfold do_; simp only [ha, hb, Bool.and_self, if_true, if_false, Int.reduceEq, reduceIte, h']
theorem do_else (op : Int) (n0 : ¬ op = 0) (n32 : ¬ op = 32) (n16 : ¬ op = 16) (n80 : ¬ op = 80) (n48 : ¬ op = 48) (n144 : ¬ op = 144) (n112 : ¬ op = 112) : do_ op a b = all := by
  unfold do_; rw [ha, hb]; simp [n0, n32, n16, n80, n48, n144, n112]
omit ha in
theorem div_pos (h : decide (0#64 < b.lo) = true) : b.lo ≠ 0#64 ∧ b.hi ≠ 0#64 := by
  have h1 := of_decide_eq_true h
  rw [right_iff] at hb
  rw [BitVec.lt_def] at h1
  have e : (0#64).toNat = 0 := rfl
  rw [e] at h1
  constructor
  · intro q; rw [q, e] at h1; omega
  · intro q; rw [q, e] at hb; omega
theorem if_eq : if_ 16 a b = meet? a b := by unfold if_; rw [ha, hb]; rfl
theorem if_gt1 (h : (18446744073709551615#64 == b.lo) = true) : if_ 32 a b = none := by
  have : b.lo = 18446744073709551615#64 := (by simpa using h : _ = b.lo).symm
  unfold if_; rw [ha, hb, this]; rfl
theorem if_gt2 (h : (18446744073709551615#64 == b.lo) = false) : if_ 32 a b = meet? a ⟨b.lo + 1#64, 18446744073709551615#64⟩ := by
  have : ¬ b.lo = 18446744073709551615#64 := fun e => by rw [e] at h; simp at h
  unfold if_; rw [ha, hb]; simp [this]
theorem if_ge : if_ 48 a b = meet? a ⟨b.lo, 18446744073709551615#64⟩ := by unfold if_; rw [ha, hb]; rfl
theorem if_lt1 (h : (0#64 == b.hi) = true) : if_ 160 a b = none := by
  have : b.hi = 0#64 := (by simpa using h : _ = b.hi).symm
  unfold if_; rw [ha, hb, this]; rfl
theorem if_lt2 (h : (0#64 == b.hi) = false) : if_ 160 a b = meet? a ⟨0, b.hi - 1#64⟩ := by
  have : ¬ b.hi = 0#64 := fun e => by rw [e] at h; simp at h
  unfold if_; rw [ha, hb]; simp [this]
theorem if_le : if_ 176 a b = meet? a ⟨0, b.hi⟩ := by unfold if_; rw [ha, hb]; rfl
theorem if_ne1 (h : (b.lo == b.hi) = true) : if_ 80 a b = without a b.lo := by
  have h' : b.lo = b.hi := by simpa using h
  unfold if_; simp only [ha, hb, Bool.and_self, if_true, if_false, Int.reduceEq, reduceIte, h']
theorem if_ne2 (h : (b.lo == b.hi) = false) : if_ 80 a b = some a := by
  have h' : ¬ b.lo = b.hi := by simpa using h
  unfold if_; simp only [ha, hb, Bool.and_self, if_true, if_false, Int.reduceEq, reduceIte, h']
theorem if_set1 (h : (a.hi == 0#64 || b.hi == 0#64) = true) : if_ 64 a b = none := by
  have : a.hi = 0#64 ∨ b.hi = 0#64 := by simpa using h
  unfold if_; simp only [ha, hb, Bool.and_self, if_true, if_false, Int.reduceEq, reduceIte, this]
theorem if_set2 (h : (a.hi == 0#64 || b.hi == 0#64) = false) : if_ 64 a b = some a := by
  have : ¬ (a.hi = 0#64 ∨ b.hi = 0#64) := by simpa using h
  unfold if_; simp only [ha, hb, Bool.and_self, if_true, if_false, Int.reduceEq, reduceIte, this]
theorem if_else (op : Int) (n16 : ¬ op = 16) (n32 : ¬ op = 32) (n48 : ¬ op = 48) (n160 : ¬ op = 160) (n176 : ¬ op = 176) (n80 : ¬ op = 80) (n64 : ¬ op = 64) : if_ op a b = some a := by
  unfold if_; rw [ha, hb]; simp [n16, n32, n48, n160, n176, n80, n64]
end
theorem wo_none {a : Sp} {n : BitVec 64} (h1 : (a.lo == n) = true) (h2 : (a.hi == n) = true) : without a n = none := by
  unfold without; rw [if_pos ⟨by simpa using h1, by simpa using h2⟩]
theorem wo_lo {a : Sp} {n : BitVec 64} (h1 : (a.lo == n) = true) (h2 : (a.hi == n) = false) : without a n = some ⟨a.lo + 1#64, a.hi⟩ := by
  have := show ¬ a.hi = n by simpa using h2
  unfold without; rw [if_neg (fun q => this q.2), if_pos (by simpa using h1)]
theorem wo_hi {a : Sp} {n : BitVec 64} (h1 : (a.lo == n) = false) (h2 : (a.hi == n) = true) : without a n = some ⟨a.lo, a.hi - 1#64⟩ := by
  have := show ¬ a.lo = n by simpa using h1
  unfold without; rw [if_neg (fun q => this q.1), if_neg this, if_pos (by simpa using h2)]
theorem wo_same {a : Sp} {n : BitVec 64} (h1 : (a.lo == n) = false) (h2 : (a.hi == n) = false) : without a n = some a := by
  have := show ¬ a.lo = n by simpa using h1
  have h := show ¬ a.hi = n by simpa using h2
  unfold without; rw [if_neg (fun q => this q.1), if_neg this, if_neg h]
theorem all_lo' : all.lo = 0#64 := rfl
theorem all_hi' : all.hi = 18446744073709551615#64 := rfl
theorem within_ref (a b : Sp) : a.within b = (a.right && b.right && (decide (b.lo ≤ a.lo) && decide (a.hi ≤ b.hi))) := by
  rw [Bool.eq_iff_iff, within_iff]
  simp only [Bool.and_eq_true, right_iff, decide_eq_true_iff, BitVec.le_def]
  omega
theorem N_min (x y : BitVec 64) : min (N x) (N y) = N (mn x y) := by
  unfold N mn; by_cases h : x ≤ y
  · rw [if_pos h]; rw [BitVec.le_def] at h; omega
  · rw [if_neg h]; rw [BitVec.le_def] at h; omega
theorem N_max (x y : BitVec 64) : max (N x) (N y) = N (mx x y) := by
  unfold N mx; by_cases h : x ≤ y
  · rw [if_pos h]; rw [BitVec.le_def] at h; omega
  · rw [if_neg h]; rw [BitVec.le_def] at h; omega
theorem if_min (x y : BitVec 64) : (if N y < N x then N y else N x) = N (mn x y) := by
  rw [← N_min]; split <;> omega
theorem if_max (x y : BitVec 64) : (if N y > N x then N y else N x) = N (mx x y) := by
  rw [← N_max]; split <;> omega
@[go_sem ↓ high] theorem min_N (ats : Array TypeId) (ty : TypeId) (x y : BitVec 64) : Builtin.min_ ats ty #[.int .u64 (N x), .int .u64 (N y)] = pure (.int .u64 (N (mn x y))) := by
  rw [← if_min]; rfl
@[go_sem ↓ high] theorem max_N (ats : Array TypeId) (ty : TypeId) (x y : BitVec 64) : Builtin.max_ ats ty #[.int .u64 (N x), .int .u64 (N y)] = pure (.int .u64 (N (mx x y))) := by
  rw [← if_max]; rfl
end Sp
attribute [go_sem] Sp.all_lo' Sp.all_hi' Sp.eta Sp.N_min Sp.N_max
end Hk
