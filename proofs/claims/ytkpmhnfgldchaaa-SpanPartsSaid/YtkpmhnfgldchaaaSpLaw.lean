/- Plain laws of spans that the statements ask for; no program in sight. No condition but those in each statement. -/
import Derived.Test.YtkpmhnfgldchaaaSpDo
import Derived.Test.YtkpmhnfgldchaaaCondDo
namespace Hk
namespace Sp
/-- a span of two numbers, and a number of it -/
def mk2 (a b : BitVec 64) : Sp := ⟨mn a b, mx a b⟩
def len (a b : BitVec 64) : BitVec 64 := mx a b - mn a b + 1#64
def num (a b n : BitVec 64) : BitVec 64 := if len a b == 0#64 then n else mn a b + n % len a b
theorem mk2_right (a b : BitVec 64) : (mk2 a b).right = true := by
  rw [right_iff]
  show (mn a b).toNat ≤ (mx a b).toNat
  rw [mn_nat, mx_nat]; omega
theorem mk2_has (a b n : BitVec 64) : (mk2 a b).has (num a b n) = true := by
  have hr : (mn a b).toNat ≤ (mx a b).toNat := (right_iff _).1 (mk2_right a b)
  rw [has_iff]
  show (mn a b).toNat ≤ (num a b n).toNat ∧ (num a b n).toNat ≤ (mx a b).toNat
  have h1 := (mn a b).isLt; have h2 := (mx a b).isLt
  have hl : (len a b).toNat = ((mx a b).toNat - (mn a b).toNat + 1) % 18446744073709551616 := by
    unfold len
    rw [BitVec.toNat_add, BitVec.toNat_sub]
    have e : (1#64).toNat = 1 := rfl
    rw [e]; omega
  unfold num
  cases hz : (len a b == 0#64)
  · rw [if_neg (by decide)]
    have hz' : ¬ len a b = 0#64 := by simpa using hz
    have hn : (len a b).toNat ≠ 0 := fun e => hz' (BitVec.eq_of_toNat_eq e)
    have hm := Nat.mod_lt n.toNat (show 0 < (len a b).toNat by omega)
    rw [BitVec.toNat_add, BitVec.toNat_umod]
    omega
  · rw [if_pos rfl]
    have hz' : len a b = 0#64 := by simpa using hz
    rw [hz'] at hl
    have e : (0#64).toNat = 0 := rfl
    rw [e] at hl
    have := n.isLt
    omega
theorem within_join {a b : Sp} (ha : a.right = true) (hb : b.right = true) : a.within (join a b) = true ∧ b.within (join a b) = true := by
  rw [within_iff, within_iff, join_lo ha hb, join_hi ha hb]
  rw [right_iff] at ha hb
  omega
theorem within_trans {a b c : Sp} (h1 : a.within b = true) (h2 : b.within c = true) : a.within c = true := by
  rw [within_iff] at *; omega
theorem within_all {a : Sp} (ha : a.right = true) : a.within all = true := by
  rw [within_iff, all_lo, all_hi]; rw [right_iff] at ha; have := a.hi.isLt; omega
theorem meet_within {a b : Sp} (h : meetOk a b = true) : (meet a b).within a = true ∧ (meet a b).within b = true := by
  have e : meet a b = both a b := by unfold meet; rw [if_pos h]
  rw [e, within_iff, within_iff]
  rw [meetOk_iff] at h
  have e1 : (both a b).lo.toNat = max a.lo.toNat b.lo.toNat := mx_nat _ _
  have e2 : (both a b).hi.toNat = min a.hi.toNat b.hi.toNat := mn_nat _ _
  rw [e1, e2]; omega
end Sp
end Hk
