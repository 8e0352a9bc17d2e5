/- What was put to the stack, in parts: plain laws, no program in sight. No condition but those in each statement. -/
import Derived.Test.YtjeanjbjngbfcaaGu
namespace Hk
set_option linter.unusedVariables false
namespace St
theorem full_nat (x : St) (o n : Nat) : x.full (o : Int) (n : Int) = (decide (o + n ≤ 512) && x.right && x.upB o n) := by
  unfold full fullArg
  rw [Int.toNat_natCast, Int.toNat_natCast]
  congr 2
  by_cases h : o + n ≤ 512
  · simp [h]; omega
  · simp [h]; omega
theorem full_out {x : St} {o n : Nat} (h : ¬ o + n ≤ 512) : x.full (o : Int) (n : Int) = false := by rw [full_nat]; simp [h]
theorem full_parts {x : St} {o n k : Nat} (h : o + n ≤ 512) (hk : k ≤ n) : x.full (o : Int) (n : Int) = (x.full (o : Int) (k : Int) && x.full ((o : Int) + (k : Int)) ((n : Int) - (k : Int))) := by
  have e1 : (o : Int) + (k : Int) = ((o + k : Nat) : Int) := by omega
  have e2 : (n : Int) - (k : Int) = ((n - k : Nat) : Int) := by omega
  rw [e1, e2, full_nat, full_nat, full_nat]
  have e3 : x.upB o n = (x.upB o k && x.upB (o + k) (n - k)) := by
    rw [Bool.eq_iff_iff, Bool.and_eq_true, upB_iff, upB_iff, upB_iff]
    constructor
    · intro h2
      refine ⟨fun i hi => h2 i (by omega), fun i hi => ?_⟩
      have := h2 (k + i) (by omega)
      rwa [← Nat.add_assoc] at this
    · rintro ⟨h2, h3⟩ i hi
      rcases Nat.lt_or_ge i k with h4 | h4
      · exact h2 i h4
      · have := h3 (i - k) (by omega)
        rwa [show o + k + (i - k) = o + i by omega] at this
  rw [e3]
  simp only [show o + n ≤ 512 from h, show o + k ≤ 512 by omega, show o + k + (n - k) ≤ 512 by omega, decide_true, Bool.true_and]
  cases x.right <;> simp
end St
end Hk
