/- Plain law: a number is where a map's value is just if it is there in one of its slots; no program in sight. No condition but those in each statement. -/
import Derived.Test.YtjeanjbjngbfcaaVlKd
namespace Hk
namespace Vl
theorem at_sub {a o : Int} {n : BitVec 64} : n = at_ a o ↔ n - BitVec.ofInt 64 o = BitVec.ofInt 64 a <<< 32 := by
  unfold at_
  constructor
  · rintro rfl; rw [BitVec.add_sub_cancel]
  · intro h; rw [← h, BitVec.sub_add_cancel]
theorem shl_shr {a : BitVec 64} (h : a.toNat < 4294967296) : (a <<< 32) >>> 32 = a := by
  apply BitVec.eq_of_toNat_eq
  rw [BitVec.toNat_ushiftRight, BitVec.toNat_shiftLeft, Nat.shiftRight_eq_div_pow, Nat.shiftLeft_eq]
  have e : (2 : Nat) ^ 32 = 4294967296 := by decide
  have e' : (2 : Nat) ^ 64 = 18446744073709551616 := by decide
  rw [e, e']
  omega
theorem inA_at {i o : Int} {n : BitVec 64} (hi : 0 ≤ i) (hi' : i < 8) : inA i o n = true ↔ ∃ s : Nat, s < 1024 ∧ n = at_ (area i s) o := by
  unfold inA
  simp only [at_sub]
  generalize n - BitVec.ofInt 64 o = y
  simp only [Bool.and_eq_true, decide_eq_true_eq, beq_iff_eq]
  have hl : (BitVec.ofInt 64 (area i 0)).toNat = (area i 0).toNat := ofInt_nat (by unfold area; omega) (by unfold area; omega)
  have hu : (BitVec.ofInt 64 (area i 1023)).toNat = (area i 1023).toNat := ofInt_nat (by unfold area; omega) (by unfold area; omega)
  constructor
  · rintro ⟨⟨h1, h2⟩, h3⟩
    rw [BitVec.le_def, hl] at h2
    rw [BitVec.le_def, hu] at h3
    unfold area at h2 h3
    refine ⟨(y >>> 32).toNat - (4096 + 1024 * i).toNat, by omega, ?_⟩
    have e : BitVec.ofInt 64 (area i (((y >>> 32).toNat - (4096 + 1024 * i).toNat : Nat) : Int)) = y >>> 32 := by
      apply BitVec.eq_of_toNat_eq
      rw [ofInt_nat (by unfold area; omega) (by unfold area; omega)]
      unfold area; omega
    rw [e]; exact h1
  · rintro ⟨s, hs, rfl⟩
    have e := ofInt_nat (show (0 : Int) ≤ area i s by unfold area; omega) (show area i s < 4294967296 by unfold area; omega)
    rw [shl_shr (by rw [e]; unfold area; omega)]
    refine ⟨⟨rfl, ?_⟩, ?_⟩
    · rw [BitVec.le_def, hl, e]; unfold area; omega
    · rw [BitVec.le_def, hu, e]; unfold area; omega
end Vl
end Hk
