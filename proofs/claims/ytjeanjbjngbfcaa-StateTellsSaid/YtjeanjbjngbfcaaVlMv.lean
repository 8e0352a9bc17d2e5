/- Plain laws of where a register is moved; no program in sight. No condition but those in each statement. -/
import Derived.Test.YtjeanjbjngbfcaaVl
namespace Hk
namespace Vl
theorem ptr_kind {v : Vl} (h : ptr v = true) : (v.k = 2 ∨ v.k = 3 ∨ v.k = 5) ∧ right v = true := by
  unfold ptr at h
  simp only [Bool.and_eq_true, Bool.or_eq_true, decide_eq_true_eq] at h
  exact ⟨by omega, h.2⟩
theorem moved_ptr {v : Vl} {o : Int} (h : ptr v = true) (ho : reach o = true) : ptr ⟨v.k, v.f, v.i, o⟩ = true := by
  obtain ⟨hk, hr⟩ := ptr_kind h
  unfold right at hr
  unfold ptr right
  rcases hk with e | e | e <;> (rw [e] at hr; simp at hr; simp [e, ho, hr])
theorem neg_toInt {by_ : BitVec 64} (h : reach by_.toInt = true) : (-by_).toInt = -by_.toInt := by
  have h := reach_iff.1 h
  rw [BitVec.toInt_neg, Int.bmod_eq_of_le] <;> omega
theorem ofInt_plus (a b : Int) : BitVec.ofInt 64 (a + b) = BitVec.ofInt 64 a + BitVec.ofInt 64 b := BitVec.ofInt_add a b
theorem at_plus (a o : Int) (b : BitVec 64) : at_ a (o + b.toInt) = at_ a o + b := by
  unfold at_
  rw [ofInt_plus, BitVec.ofInt_toInt, BitVec.add_assoc]
theorem inA_plus (i o : Int) (n b : BitVec 64) : inA i (o + b.toInt) (n + b) = inA i o n := by
  unfold inA
  have e : n + b - BitVec.ofInt 64 (o + b.toInt) = n - BitVec.ofInt 64 o := by
    rw [ofInt_plus, BitVec.ofInt_toInt]
    bv_omega
  rw [e]
theorem move_spec {v : Vl} {b : BitVec 64} (h : moveOk v b = true) : move v b = ⟨v.k, v.f, v.i, v.off + b.toInt⟩ ∧ ptr v = true ∧ ptr ⟨v.k, v.f, v.i, v.off + b.toInt⟩ = true ∧
    moveOk ⟨v.k, v.f, v.i, v.off + b.toInt⟩ (-b) = true ∧ move ⟨v.k, v.f, v.i, v.off + b.toInt⟩ (-b) = v := by
  have h0 := h
  unfold moveOk at h
  simp only [Bool.and_eq_true] at h
  obtain ⟨⟨hp, hr⟩, hs⟩ := h
  have hp2 := moved_ptr hp hs
  have hv := right_bounds (ptr_kind hp).2
  have hr' := reach_iff.1 hr
  have e := neg_toInt hr
  have hm : moveOk ⟨v.k, v.f, v.i, v.off + b.toInt⟩ (-b) = true := by
    unfold moveOk
    rw [hp2, e]
    simp only [Bool.true_and, Bool.and_eq_true]
    exact ⟨reach_iff.2 (by omega), reach_iff.2 (by omega)⟩
  refine ⟨by unfold move; rw [if_pos h0], hp, hp2, hm, ?_⟩
  unfold move
  rw [if_pos hm]
  refine eq_iff.2 ⟨rfl, rfl, rfl, rfl, rfl, rfl, ?_⟩
  show v.off + b.toInt + (-b).toInt = v.off
  omega
theorem move_is {v : Vl} {b n : BitVec 64} (hp : ptr v = true) (hp2 : ptr ⟨v.k, v.f, v.i, v.off + b.toInt⟩ = true) (hi : is_ v n true = true) : is_ ⟨v.k, v.f, v.i, v.off + b.toInt⟩ (n + b) true = true := by
  obtain ⟨hk, hr⟩ := ptr_kind hp
  obtain ⟨_, hr2⟩ := ptr_kind hp2
  unfold is_ at hi ⊢
  rw [hr] at hi
  rw [hr2]
  rcases hk with e | e | e
  · simp only [e] at hi ⊢
    simp at hi ⊢
    rw [hi, at_plus]
  · simp only [e] at hi ⊢
    simp at hi ⊢
    rw [hi, at_plus]
  · simp only [e] at hi ⊢
    simp at hi ⊢
    rw [inA_plus]
    exact hi
theorem move_no {v : Vl} {b : BitVec 64} (h : moveOk v b = false) : move v b = zero := by unfold move; rw [if_neg (by rw [h]; decide)]
end Vl
end Hk
