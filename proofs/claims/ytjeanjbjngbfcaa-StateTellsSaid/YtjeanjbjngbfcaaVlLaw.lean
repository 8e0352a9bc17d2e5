/- Plain laws of what is known of a register; no program in sight. No condition but those in each statement. -/
import Derived.Test.YtjeanjbjngbfcaaVl
namespace Hk
namespace Vl
theorem right_zero : right zero = true := by decide +kernel
theorem right_ok {v : Vl} (h : right v = true) (hk : v.k = 1) : Fa.ok v.f = true := by
  unfold right at h
  rw [if_neg (by omega), if_pos hk] at h
  simp only [Bool.and_eq_true] at h
  exact h.2.2
theorem fa_within_self {f : Fa} (h : Fa.ok f = true) : Fa.within f f = true := by
  obtain ⟨r1, r2⟩ := Fa.ok_right h
  exact Fa.within_iff.2 ⟨h, h, Fa.sub_refl r1 r2⟩
theorem within_self (a : Vl) : within a a = right a := by
  unfold within
  cases h : right a
  · rfl
  · by_cases hk : a.k = 1
    · rw [if_pos ⟨hk, hk⟩, fa_within_self (right_ok h hk)]; rfl
    · rw [if_neg (by intro e; exact hk e.1)]; simp
theorem within_zero (a : Vl) : within a zero = right a := by
  unfold within
  rw [right_zero, if_neg (by intro e; exact absurd e.2 (by decide))]
  simp [zero]
theorem within_right {a b : Vl} (h : within a b = true) : right a = true ∧ right b = true := by
  unfold within at h; simp only [Bool.and_eq_true] at h; exact h.1
theorem within_num {a b : Vl} (h : within a b = true) (ha : a.k = 1) (hb : b.k = 1) : Fa.within a.f b.f = true := by
  unfold within at h; rw [if_pos ⟨ha, hb⟩] at h; simp only [Bool.and_eq_true] at h; exact h.2
theorem within_not {a b : Vl} (h : within a b = true) (hn : ¬ (a.k = 1 ∧ b.k = 1)) : b.k = 0 ∨ a = b := by
  unfold within at h; rw [if_neg hn] at h; simp only [Bool.and_eq_true, Bool.or_eq_true, decide_eq_true_eq] at h; exact h.2
theorem within_none {a b : Vl} (ha : right a = true) (hb : right b = true) (h : b.k = 0) : within a b = true := by
  unfold within; rw [ha, hb, if_neg (by omega), h]; rfl
theorem fa_within_trans {a b c : Fa} (h : Fa.within a b = true) (h' : Fa.within b c = true) : Fa.within a c = true := by
  obtain ⟨h1, h2, h3⟩ := Fa.within_iff.1 h
  obtain ⟨h4, h5, h6⟩ := Fa.within_iff.1 h'
  exact Fa.within_iff.2 ⟨h1, h5, Fa.sub_trans h3 h6⟩
theorem within_trans {a b c : Vl} (h : within a b = true) (h' : within b c = true) : within a c = true := by
  obtain ⟨ra, rb⟩ := within_right h
  obtain ⟨_, rc⟩ := within_right h'
  by_cases hc : c.k = 0
  · exact within_none ra rc hc
  by_cases hbc : b.k = 1 ∧ c.k = 1
  · by_cases ha : a.k = 1
    · unfold within
      rw [ra, rc, if_pos ⟨ha, hbc.2⟩]
      exact fa_within_trans (within_num h ha hbc.1) (within_num h' hbc.1 hbc.2)
    · rcases within_not h (by intro e; exact ha e.1) with e | e
      · omega
      · rw [e]; exact h'
  · rcases within_not h' hbc with e | e
    · exact absurd e hc
    · rw [← e]; exact h
/-- what a register may be: a wider one may be it too -/
theorem is_within {a b : Vl} {n : BitVec 64} {set : Bool} (h : within a b = true) (hi : is_ a n set = true) : is_ b n set = true := by
  obtain ⟨ra, rb⟩ := within_right h
  by_cases hab : a.k = 1 ∧ b.k = 1
  · have hf := within_num h hab.1 hab.2
    unfold is_ at hi ⊢
    rw [ra, if_pos hab.1, hab.1] at hi
    rw [rb, if_pos hab.2, hab.2]
    simp only [Bool.true_and, Bool.or_eq_true, Bool.and_eq_true, decide_eq_true_eq] at hi ⊢
    rcases hi with e | ⟨h1, h2⟩
    · exact absurd e (by decide)
    · obtain ⟨o1, m1⟩ := Fa.has_iff.1 h2
      obtain ⟨_, o2, hs⟩ := Fa.within_iff.1 hf
      exact .inr ⟨h1, Fa.has_iff.2 ⟨o2, Fa.sub_may hs m1⟩⟩
  · rcases within_not h hab with e | e
    · unfold is_; rw [rb, e]; rfl
    · rw [← e]; exact hi
theorem num_within {f g : Fa} (h : Fa.within f g = true) : ∀ {a : Vl}, right a = true → a.k = 1 → a.f = f → within a (num g) = true := by
  intro a ra ha hf
  obtain ⟨_, og, _⟩ := Fa.within_iff.1 h
  unfold num
  rw [if_pos og]
  unfold within
  have rg : right ⟨1, g, 0, 0⟩ = true := by simp [right, og, reach]
  rw [ra, rg, if_pos ⟨ha, rfl⟩, hf]
  exact h
theorem within_join {a b : Vl} (ra : right a = true) (rb : right b = true) : within a (join a b) = true ∧ within b (join a b) = true := by
  unfold join
  rw [ra, rb]
  by_cases hn : a.k = 1 ∧ b.k = 1
  · rw [Bool.and_self, if_pos rfl, if_pos hn]
    have oa := right_ok ra hn.1
    have ob := right_ok rb hn.2
    obtain ⟨oj, s1, s2⟩ := Fa.join_spec oa ob
    exact ⟨num_within (Fa.within_iff.2 ⟨oa, oj, s1⟩) ra hn.1 rfl, num_within (Fa.within_iff.2 ⟨ob, oj, s2⟩) rb hn.2 rfl⟩
  · rw [Bool.and_self, if_pos rfl, if_neg hn]
    by_cases e : a = b
    · rw [if_pos e, ← e, within_self, ra]; exact ⟨rfl, rfl⟩
    · rw [if_neg e, within_zero, within_zero, ra, rb]; exact ⟨rfl, rfl⟩
end Vl
end Hk
