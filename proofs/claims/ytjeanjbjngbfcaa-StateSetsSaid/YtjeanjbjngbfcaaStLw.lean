/- States that come of acts: plain laws, no program in sight. No condition but those in each statement. -/
import Derived.Test.YtjeanjbjngbfcaaStSp
namespace Hk
set_option linter.unusedVariables false
namespace St
theorem right_iff {x : St} : x.right = true ↔ (∀ k, k < 11 → Vl.right (x.r k) = true) ∧ ∀ k, k < 64 → Sl.ok (x.s k) = true := by
  unfold right upR upS
  rw [Bool.and_eq_true, all_iff, all_iff]
theorem right_first : first.right = true := by decide +kernel
theorem right_setR {x : St} {k : Nat} {v : Vl} (h : x.right = true) (hv : Vl.right v = true) : (x.setR k v).right = true := by
  rw [right_iff] at h ⊢
  refine ⟨fun i hi => ?_, h.2⟩
  unfold setR
  simp only
  split
  · exact hv
  · exact h.1 i hi
theorem right_slots {x y : St} {j : Nat} (h : x.right = true) (hr : y.r = x.r) (hs : ∀ k, k ≠ j → y.s k = x.s k) (hj : Sl.ok (y.s j) = true) : y.right = true := by
  rw [right_iff] at h ⊢
  refine ⟨fun i hi => by rw [hr]; exact h.1 i hi, fun i hi => ?_⟩
  by_cases e : i = j
  · subst e; exact hj
  · rw [hs i e]; exact h.2 i hi
theorem put1_r (x : St) (o n : Int) (v : Vl) : (x.put1 o n v).r = x.r := rfl
theorem put1_other {x : St} {o n : Int} {v : Vl} {k : Nat} (h : k ≠ o.toNat / 8) : (x.put1 o n v).s k = x.s k := by
  unfold put1 setV setP
  simp [h]
theorem put1_s (x : St) (o n : Int) (v : Vl) : (x.put1 o n v).s (o.toNat / 8) = ⟨if n = 8 then v else Vl.zero, (x.s (o.toNat / 8)).p ||| bits o n⟩ := by
  unfold put1
  rw [setV_s, setP_s]
theorem putArg_r {x : St} {n : Int} {v : Vl} (h : x.putArg n v = true) : sized n = true ∧ Vl.right v = true ∧ ¬ v.k = 0 ∧ (n < 8 → v.k = 1) ∧ x.right = true := by
  unfold putArg at h
  simp only [Bool.and_eq_true, Bool.not_eq_true', decide_eq_false_iff_not, Bool.and_eq_false_iff, Bool.not_eq_false'] at h
  obtain ⟨⟨⟨⟨h1, h2⟩, h3⟩, h4⟩, h5⟩ := h
  refine ⟨h1, h2, h3, fun h8 => ?_, h5⟩
  rcases h4 with h4 | h4
  · exact absurd h8 h4
  · simpa using h4
theorem putE_r {x : St} {o n : Int} {v : Vl} (h : x.putE o n v = 0) : x.putArg n v = true ∧ fitsE o n = 0 := by
  unfold putE at h
  split at h
  · exact ⟨by assumption, h⟩
  · cases h
theorem right_zero_v : Vl.right Vl.zero = true := by decide +kernel
theorem right_put {x : St} {o n : Int} {v : Vl} (h : x.putE o n v = 0) : (x.put o n v).right = true := by
  obtain ⟨h1, h2⟩ := putE_r h
  obtain ⟨hn, hv, hk, h8, hx⟩ := putArg_r h1
  unfold put
  rw [if_pos h]
  refine right_slots hx (put1_r x o n v) (fun k hk => put1_other hk) ?_
  rw [put1_s]
  unfold Sl.ok
  simp only
  by_cases e : n = 8
  · subst e
    have h3 := fits_in h2 (by decide)
    have e2 : (x.s (o.toNat / 8)).p ||| bits o 8 = 255#8 := by
      unfold bits
      rw [h3.2.2]
      have key : ∀ q : BitVec 8, q ||| 255#8 = 255#8 := by decide +kernel
      exact key _
    rw [e2]
    simp [hv]
  · rw [if_neg e, right_zero_v]
    have : Vl.zero.k = 0 := rfl
    simp [this]
theorem right_set {x : St} {i : Int} {v : Vl} (h : x.setOk i v = true) : (x.set i v).right = true := by
  obtain ⟨_, _, h3, h4⟩ := setOk_r h
  unfold set
  rw [if_pos h]
  exact right_setR h4 h3
theorem right_act {x : St} {a : Ac} (h : x.right = true) : (x.act a).right = true := by
  unfold act
  split
  · rename_i he
    unfold actE at he
    unfold actT
    split
    · rename_i h3
      rw [if_pos h3] at he
      apply right_set
      cases e : x.setOk a.o a.v
      · rw [e] at he; simp at he
      · rfl
    · rename_i h3
      rw [if_neg h3] at he
      exact right_put he
  · exact h
theorem right_made (L : Nat → Ac) : ∀ n, (made L n).right = true
  | 0 => right_first
  | n + 1 => right_act (right_made L n)
theorem right_madeN (L : Nat → Ac) (n : Nat) : (madeN L n).right = true := right_made L _
/-- set, and set back -/
theorem setR_back (x : St) (k : Nat) (v : Vl) : (x.setR k v).setR k (x.r k) = x := by
  unfold setR
  congr 1
  funext i
  by_cases h : i = k
  · simp [h]
  · simp [h]
theorem setR_same (x : St) (k : Nat) (v : Vl) : (x.setR k v).r k = v := by unfold setR; simp
theorem setR_other {x : St} {k i : Nat} {v : Vl} (h : ¬ i = k) : (x.setR k v).r i = x.r i := by unfold setR; simp [h]
theorem set_back {x : St} {k : Nat} {v : Vl} (hx : x.right = true) (hv : Vl.right v = true) (hk : k < 11) : (x.setR k v).set (k : Int) (x.r k) = x ∧ (x.setR k v).setOk (k : Int) (x.r k) = true := by
  have h1 : (x.setR k v).setOk (k : Int) (x.r k) = true := by
    unfold setOk
    rw [right_setR hx hv, right_r hx hk]
    simp
    omega
  refine ⟨?_, h1⟩
  unfold set
  rw [if_pos h1]
  exact setR_back x k v
theorem setOk_not {x : St} {i : Int} {v : Vl} (hx : x.right = true) (h : x.setOk i v = false) : i < 0 ∨ 10 < i ∨ Vl.right v = false := by
  unfold setOk at h
  rw [hx] at h
  cases hv : Vl.right v
  · exact .inr (.inr rfl)
  · rw [hv] at h
    simp at h
    omega
end St
end Hk
