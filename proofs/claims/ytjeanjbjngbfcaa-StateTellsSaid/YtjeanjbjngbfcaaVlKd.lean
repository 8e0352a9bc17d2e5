/- Plain laws: registers of unlike kinds have no number in common; no program in sight. No condition but those in each statement. -/
import Derived.Test.YtjeanjbjngbfcaaVlMv
namespace Hk
namespace Vl
theorem ofInt_nat {o : Int} (h0 : 0 ≤ o) (h1 : o < 4294967296) : (BitVec.ofInt 64 o).toNat = o.toNat := by
  rw [BitVec.toNat_ofInt]
  have p : ((2 ^ 64 : Nat) : Int) = 18446744073709551616 := by decide
  have e : o % ((2 ^ 64 : Nat) : Int) = o := Int.emod_eq_of_lt h0 (by rw [p]; omega)
  rw [e]
theorem at_nat {a o : Int} (ha0 : 0 ≤ a) (ha1 : a < 65536) (h0 : 0 ≤ o) (h1 : o < 4294967296) : (at_ a o).toNat = a.toNat * 4294967296 + o.toNat := by
  unfold at_
  rw [BitVec.toNat_add, BitVec.toNat_shiftLeft, ofInt_nat h0 h1, ofInt_nat ha0 (by omega), Nat.shiftLeft_eq]
  have e : (2 : Nat) ^ 32 = 4294967296 := by decide
  have e' : (2 : Nat) ^ 64 = 18446744073709551616 := by decide
  rw [e, e']
  omega
theorem inA_nat {i o : Int} {n : BitVec 64} (hi : 0 ≤ i) (hi' : i < 8) (h0 : 0 ≤ o) (h1 : o ≤ 65536) (h : inA i o n = true) : 4096 * 4294967296 ≤ n.toNat := by
  unfold inA at h
  generalize hy : n - BitVec.ofInt 64 o = y at h
  simp only [Bool.and_eq_true, decide_eq_true_eq, beq_iff_eq] at h
  obtain ⟨⟨_, hl⟩, hu⟩ := h
  rw [BitVec.le_def, ofInt_nat (by unfold area; omega) (by unfold area; omega), BitVec.toNat_ushiftRight, Nat.shiftRight_eq_div_pow] at hl
  rw [BitVec.le_def, ofInt_nat (by unfold area; omega) (by unfold area; omega), BitVec.toNat_ushiftRight, Nat.shiftRight_eq_div_pow] at hu
  have e : (2 : Nat) ^ 32 = 4294967296 := by decide
  rw [e] at hl hu
  have hn : n = y + BitVec.ofInt 64 o := by rw [← hy, BitVec.sub_add_cancel]
  have ho := ofInt_nat h0 (show o < 4294967296 by omega)
  have e' : (2 : Nat) ^ 64 = 18446744073709551616 := by decide
  rw [hn, BitVec.toNat_add, ho, e']
  unfold area at hl hu
  omega
/-- where a register's number lies, by its kind -/
def place (k : Int) (n : BitVec 64) : Prop := (k = 2 ∧ n.toNat / 4294967296 = 1) ∨ (k = 3 ∧ n.toNat / 4294967296 = 2) ∨ (k = 4 ∧ n.toNat / 4294967296 = 3) ∨ (k = 5 ∧ 4096 ≤ n.toNat / 4294967296)
theorem is_place {v : Vl} {n : BitVec 64} (h : is_ v n true = true) (h2 : ¬ v.k < 2) (h6 : ¬ v.k = 6) (h0 : ¬ v.off < 0) (h1 : ¬ v.off > 65536) : place v.k n := by
  have hr : right v = true := by
    cases e : right v
    · unfold is_ at h; rw [e] at h; cases h
    · rfl
  obtain ⟨b0, b1, _, _⟩ := right_bounds hr
  unfold is_ at h
  rw [hr] at h
  obtain e | e | e | e | e | e | e := right_kind hr
  · omega
  · omega
  · refine .inl ⟨e, ?_⟩
    rw [e] at h
    simp at h
    rw [h, at_nat (by omega) (by omega) (by omega) (by omega)]
    omega
  · refine .inr (.inl ⟨e, ?_⟩)
    rw [e] at h
    simp at h
    rw [h, at_nat (by omega) (by omega) (by omega) (by omega)]
    omega
  · refine .inr (.inr (.inl ⟨e, ?_⟩))
    rw [e] at h
    simp at h
    rw [h, at_nat (by omega) (by omega) (by omega) (by omega)]
    omega
  · refine .inr (.inr (.inr ⟨e, ?_⟩))
    rw [e] at h
    simp at h
    have := inA_nat b0 b1 (by omega) (by omega) h
    omega
  · omega
theorem kinds_no {a b : Vl} {n : BitVec 64} (ha : is_ a n true = true) (hb : is_ b n true = true) (hab : ¬ a.k = b.k) (a2 : ¬ a.k < 2) (b2 : ¬ b.k < 2) (a6 : ¬ a.k = 6) (b6 : ¬ b.k = 6)
    (o1 : ¬ a.off < 0) (o2 : ¬ b.off < 0) (o3 : ¬ a.off > 65536) (o4 : ¬ b.off > 65536) : False := by
  have h1 := is_place ha a2 a6 o1 o3
  have h2 := is_place hb b2 b6 o2 o4
  unfold place at h1 h2
  omega
end Vl
end Hk
