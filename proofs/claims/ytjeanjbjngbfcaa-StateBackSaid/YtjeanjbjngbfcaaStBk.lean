/- What was put is got: plain laws, no program in sight. No condition but those in each statement. -/
import Derived.Test.YtjeanjbjngbfcaaStLw
namespace Hk
set_option linter.unusedVariables false
namespace St
theorem put_bad {x : St} {o n : Int} {v : Vl} (h : ¬ x.putE o n v = 0) : x.put o n v = zero := by unfold put; rw [if_neg h]
theorem put_good {x : St} {o n : Int} {v : Vl} (h : x.putE o n v = 0) : x.put o n v = x.put1 o n v := by unfold put; rw [if_pos h]
theorem or_and (p b : BitVec 8) : (p ||| b) &&& b = b := by
  apply BitVec.eq_of_getLsbD_eq
  intro i hi
  simp
  intro h
  exact .inr h
theorem and_not_or (p b : BitVec 8) : p &&& ~~~(p ||| b) = 0#8 := by
  apply BitVec.eq_of_getLsbD_eq
  intro i hi
  simp
  cases p.getLsbD i <;> simp
theorem put_full {x : St} {o n : Int} {v : Vl} (h : x.putE o n v = 0) : (x.put o n v).full o n = true := by
  obtain ⟨h1, h2⟩ := putE_r h
  obtain ⟨hn, hv, hk, h8, hx⟩ := putArg_r h1
  have hp : 0 < n := by have := sized_is hn; omega
  obtain ⟨j, hj, _, h0, _⟩ := fits_j h2 hp
  have hr := right_put h
  rw [full_slot hn hr h2 hj, put_good h]
  have e : o.toNat / 8 = j := by omega
  rw [← e, put1_s, beq_iff_eq]
  exact or_and _ _
theorem put_getE {x : St} {o n : Int} {v : Vl} (h : x.putE o n v = 0) : (x.put o n v).getE o n = 0 := by
  obtain ⟨h1, h2⟩ := putE_r h
  obtain ⟨hn, _⟩ := putArg_r h1
  unfold getE
  rw [right_put h, hn, if_pos (by rfl), if_pos h2, put_full h, if_pos rfl]
theorem below_kind {n : Int} (h : sized n = true) : (below n).k = 1 := by
  rcases sized_is h with e | e | e | e <;> subst e <;> decide +kernel
theorem put_get {x : St} {o n : Int} {v : Vl} (h : x.putE o n v = 0) : (n = 8 → (x.put o n v).get o n = v) ∧ (n < 8 → ((x.put o n v).get o n).k = 1) := by
  obtain ⟨h1, h2⟩ := putE_r h
  obtain ⟨hn, hv, hk, h8, hx⟩ := putArg_r h1
  have hg := put_getE h
  constructor
  · intro e
    unfold get
    rw [if_pos hg, put_good h, put1_s]
    subst e
    rw [if_pos ⟨rfl, by simpa using hk⟩]
    simp
  · intro e
    unfold get
    rw [if_pos hg, if_neg (by omega)]
    exact below_kind hn
theorem put_sized {x : St} {o n : Int} {v : Vl} (h : x.putE o n v = 0) : (n = 1 ∨ n = 2 ∨ n = 4 ∨ n = 8) ∧ 0 ≤ o ∧ o ≤ 512 - n ∧ (n < 8 → v.k = 1) := by
  obtain ⟨h1, h2⟩ := putE_r h
  obtain ⟨hn, hv, hk, h8, hx⟩ := putArg_r h1
  have h3 := sized_is hn
  obtain ⟨h4, h5, _⟩ := fits_in h2 (by omega)
  exact ⟨h3, h4, h5, h8⟩
theorem put_else {x : St} {o n : Int} {v : Vl} (h : x.putE o n v = 0) {i : Nat} (hi : (i : Int) ≠ o / 8) : (x.put o n v).s i = x.s i := by
  rw [put_good h]
  obtain ⟨_, h0, _⟩ := put_sized h
  exact put1_other (by omega)
theorem put_bits {x : St} {o n : Int} {v : Vl} (h : x.putE o n v = 0) (i : Nat) : (x.s i).p &&& ~~~((x.put o n v).s i).p = 0#8 := by
  rw [put_good h]
  by_cases e : i = o.toNat / 8
  · subst e
    rw [put1_s]
    exact and_not_or _ _
  · rw [put1_other e]
    exact BitVec.and_not_self _
end St
end Hk
