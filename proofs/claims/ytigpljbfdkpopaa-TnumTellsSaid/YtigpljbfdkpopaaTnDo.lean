/- Plain laws of arithmetic with tnums; no program in sight. No condition but those in each statement. -/
import Derived.Test.YtigpljbfdkpopaaTn
import Derived.Test.YtigpljbfdkpopaaAlu
namespace Hk
namespace Tn
/-- is it a number that tells how far bits move? -/
def moves (b : Tn) : Bool := b.m == 0#64 && decide (b.v < 64#64)
theorem moves_iff (b : Tn) : moves b = true ↔ b.m = 0 ∧ b.v.toNat < 64 := by
  unfold moves; rw [Bool.and_eq_true, beq_iff_eq, decide_eq_true_iff, BitVec.lt_def]; exact Iff.rfl
/-- what is known of what arithmetic makes; none: nothing is told -/
def do_ (op : Int) (a b : Tn) : Option Tn :=
  if a.right && b.right then
    if op = 0 then some (add a b)
    else if op = 16 then some (sub a b)
    else if op = 32 then some (mul a b)
    else if op = 80 then some (and a b)
    else if op = 64 then some (or a b)
    else if op = 160 then some (xor a b)
    else if op = 96 ∧ moves b = true then some ⟨a.v <<< b.v.toNat, a.m <<< b.v.toNat⟩
    else if op = 112 ∧ moves b = true then some ⟨a.v >>> b.v.toNat, a.m >>> b.v.toNat⟩
    else none
  else none
theorem has_known {b : Tn} {y : BitVec 64} (h : b.has y = true) (hm : b.m = 0) : b.v = y := by
  have := known_of_has h hm; rw [this]; rfl
theorem do_sound {op : Int} {a b t : Tn} {x y z : BitVec 64} (hx : a.has x = true) (hy : b.has y = true) (ht : do_ op a b = some t) (hz : Alu.go op true 0 x y = some z) : t.has z = true := by
  unfold do_ at ht
  rw [has_right hx, has_right hy] at ht
  simp only [Bool.and_self, if_true] at ht
  unfold Alu.go Alu.gen at hz
  simp only [if_true] at hz
  by_cases h1 : op = 0
  · subst h1; simp at hz ht; subst hz; subst ht; exact add_sound _ _ _ _ hx hy
  rw [if_neg h1] at ht
  by_cases h2 : op = 16
  · subst h2; simp at hz ht; subst hz; subst ht; exact sub_sound _ _ _ _ hx hy
  rw [if_neg h2] at ht
  by_cases h3 : op = 32
  · subst h3; simp at hz ht; subst hz; subst ht; exact mul_sound _ _ _ _ hx hy
  rw [if_neg h3] at ht
  by_cases h4 : op = 80
  · subst h4; simp at hz ht; subst hz; subst ht; exact and_sound _ _ _ _ hx hy
  rw [if_neg h4] at ht
  by_cases h5 : op = 64
  · subst h5; simp at hz ht; subst hz; subst ht; exact or_sound _ _ _ _ hx hy
  rw [if_neg h5] at ht
  by_cases h6 : op = 160
  · subst h6; simp at hz ht; subst hz; subst ht; exact xor_sound _ _ _ _ hx hy
  rw [if_neg h6] at ht
  by_cases h7 : op = 96 ∧ moves b = true
  · rw [if_pos h7] at ht
    obtain ⟨h7, h89⟩ := h7
    obtain ⟨h8, h9⟩ := (moves_iff b).1 h89
    subst h7
    have e := has_known hy h8
    simp at hz ht; subst hz; subst ht
    rw [← e, Nat.mod_eq_of_lt h9]
    exact has_shl _ _ _ hx
  rw [if_neg h7] at ht
  by_cases h10 : op = 112 ∧ moves b = true
  · rw [if_pos h10] at ht
    obtain ⟨h7, h89⟩ := h10
    obtain ⟨h8, h9⟩ := (moves_iff b).1 h89
    subst h7
    have e := has_known hy h8
    simp at hz ht; subst hz; subst ht
    rw [← e, Nat.mod_eq_of_lt h9]
    exact has_shr _ _ _ hx
  rw [if_neg h10] at ht
  cases ht
end Tn
end Hk
