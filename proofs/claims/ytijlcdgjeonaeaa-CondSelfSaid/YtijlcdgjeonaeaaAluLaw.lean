/- Plain laws of arithmetic that the statements ask for; no program in sight. No condition but those in each statement. -/
import Derived.Test.YtijlcdgjeonaeaaAluDo
namespace Hk
namespace Alu
theorem low_xor (a c : BitVec 64) : (a ^^^ c <<< 32).setWidth 32 = a.setWidth 32 := by
  apply BitVec.eq_of_getLsbD_eq
  intro i hi
  rw [BitVec.getLsbD_setWidth, BitVec.getLsbD_setWidth, BitVec.getLsbD_xor, BitVec.getLsbD_shiftLeft]
  simp [hi]
/-- what is narrow hangs on the lowest bits alone -/
theorem go_low (op off : Int) (a b c : BitVec 64) : go op false off (a ^^^ c <<< 32) (b ^^^ c >>> 32 <<< 32) = go op false off a b := by
  unfold go
  rw [low_xor, low_xor]
  rfl
theorem val_low (op off : Int) (a b : BitVec 64) : val (go op false off a b) < 4294967296#64 := by
  unfold go val
  simp only [Bool.false_eq_true, if_false]
  cases gen 32 op off (a.setWidth 32) (b.setWidth 32) with
  | none => decide
  | some z =>
    simp only [Option.map_some, Option.getD_some]
    rw [BitVec.lt_def, BitVec.toNat_setWidth]
    have := z.isLt
    have e : (4294967296#64).toNat = 4294967296 := rfl
    rw [e]; omega
/-- what x by y comes to, times y, and what is left, are x -/
theorem div_mod (w : Nat) (x y : BitVec w) : x / y * y + x % y = x := by
  apply BitVec.eq_of_toNat_eq
  simp only [BitVec.toNat_add, BitVec.toNat_mul, BitVec.toNat_udiv, BitVec.toNat_umod]
  rw [Nat.mul_comm (x.toNat / y.toNat), Nat.mod_add_mod, Nat.div_add_mod, Nat.mod_eq_of_lt x.isLt]
theorem go_nar (op off : Int) (a b : BitVec 64) (z : BitVec 32) (h : gen 32 op off (a.setWidth 32) (b.setWidth 32) = some z) : go op false off a b = some (z.setWidth 64) := by
  unfold go; rw [h]; rfl
theorem parts (wd sg : Bool) (a b : BitVec 64) : ∃ q r m s, go 48 wd (if sg then 1 else 0) a b = some q ∧ go 144 wd (if sg then 1 else 0) a b = some r ∧ go 32 wd 0 q b = some m ∧ go 0 wd 0 m r = some s ∧ go 176 wd 0 0#64 a = some s := by
  cases wd <;> cases sg
  · refine ⟨_, _, _, _, rfl, rfl, rfl, go_nar 0 0 _ _ (a.setWidth 32) ?_, rfl⟩
    show some _ = some _
    rw [set_back, set_back, set_back, div_mod]
  · refine ⟨_, _, _, _, rfl, rfl, rfl, go_nar 0 0 _ _ (a.setWidth 32) ?_, rfl⟩
    show some _ = some _
    rw [set_back, set_back, set_back, sdiv_srem]
  · refine ⟨_, _, _, a, rfl, rfl, rfl, ?_, rfl⟩
    show some _ = some _
    rw [div_mod]
  · refine ⟨_, _, _, a, rfl, rfl, rfl, ?_, rfl⟩
    show some _ = some _
    rw [sdiv_srem]
/-- the order of numbers does not count, nor how three are put together -/
theorem order (op : Int) (h : op = 0 ∨ op = 32 ∨ op = 64 ∨ op = 80 ∨ op = 160) (wd : Bool) (a b c : BitVec 64) :
    ∃ x p q, go op wd 0 a b = some x ∧ go op wd 0 b a = some x ∧ go op wd 0 x c = some p ∧ go op wd 0 b c = some q ∧ go op wd 0 a q = some p := by
  rcases h with rfl | rfl | rfl | rfl | rfl <;> cases wd
  · refine ⟨_, _, _, rfl, go_nar _ _ _ _ _ (congrArg some (BitVec.add_comm _ _)), rfl, rfl, go_nar _ _ _ _ _ (congrArg some ?_)⟩
    rw [set_back, set_back, BitVec.add_assoc]
  · exact ⟨_, _, _, rfl, congrArg some (BitVec.add_comm _ _), rfl, rfl, congrArg some (BitVec.add_assoc _ _ _).symm⟩
  · refine ⟨_, _, _, rfl, go_nar _ _ _ _ _ (congrArg some (BitVec.mul_comm _ _)), rfl, rfl, go_nar _ _ _ _ _ (congrArg some ?_)⟩
    rw [set_back, set_back, BitVec.mul_assoc]
  · exact ⟨_, _, _, rfl, congrArg some (BitVec.mul_comm _ _), rfl, rfl, congrArg some (BitVec.mul_assoc _ _ _).symm⟩
  · refine ⟨_, _, _, rfl, go_nar _ _ _ _ _ (congrArg some (BitVec.or_comm _ _)), rfl, rfl, go_nar _ _ _ _ _ (congrArg some ?_)⟩
    rw [set_back, set_back, BitVec.or_assoc]
  · exact ⟨_, _, _, rfl, congrArg some (BitVec.or_comm _ _), rfl, rfl, congrArg some (BitVec.or_assoc _ _ _).symm⟩
  · refine ⟨_, _, _, rfl, go_nar _ _ _ _ _ (congrArg some (BitVec.and_comm _ _)), rfl, rfl, go_nar _ _ _ _ _ (congrArg some ?_)⟩
    rw [set_back, set_back, BitVec.and_assoc]
  · exact ⟨_, _, _, rfl, congrArg some (BitVec.and_comm _ _), rfl, rfl, congrArg some (BitVec.and_assoc _ _ _).symm⟩
  · refine ⟨_, _, _, rfl, go_nar _ _ _ _ _ (congrArg some (BitVec.xor_comm _ _)), rfl, rfl, go_nar _ _ _ _ _ (congrArg some ?_)⟩
    rw [set_back, set_back, BitVec.xor_assoc]
  · exact ⟨_, _, _, rfl, congrArg some (BitVec.xor_comm _ _), rfl, rfl, congrArg some (BitVec.xor_assoc _ _ _).symm⟩
end Alu
end Hk
