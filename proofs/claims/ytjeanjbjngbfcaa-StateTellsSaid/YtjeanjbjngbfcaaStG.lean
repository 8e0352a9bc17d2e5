/- What is got of the stack: plain laws, no program in sight. No condition but those in each statement. -/
import Derived.Test.YtjeanjbjngbfcaaStD
namespace Hk
namespace St
theorem get_arg {s : St} {o n : Int} (h : (sized n && s.right) = false) : s.getE o n = 1 ∧ s.get o n = Vl.zero := by
  have e : s.getE o n = 1 := by unfold getE; rw [h]; rfl
  exact ⟨e, by unfold get; rw [e]; rfl⟩
theorem get_fit {s : St} {o n : Int} (hn : sized n = true) (hs : s.right = true) (hf : ¬ fitsE o n = 0) : s.getE o n = fitsE o n ∧ s.get o n = Vl.zero := by
  have e : s.getE o n = fitsE o n := by unfold getE; rw [hn, hs, if_pos (by rfl), if_neg hf]
  exact ⟨e, by unfold get; rw [e, if_neg hf]⟩
theorem get_blank {s : St} {o n : Int} (hn : sized n = true) (hs : s.right = true) (hf : fitsE o n = 0) (hb : s.full o n = false) : s.getE o n = 81 ∧ s.get o n = Vl.zero := by
  have e : s.getE o n = 81 := by unfold getE; rw [hn, hs, if_pos (by rfl), if_pos hf, hb]; rfl
  exact ⟨e, by unfold get; rw [e]; rfl⟩
theorem get_ok {s : St} {o n : Int} {j : Nat} (hn : sized n = true) (hs : s.right = true) (hf : fitsE o n = 0) (hb : s.full o n = true) (hq : o / 8 = (j : Int)) :
    s.getE o n = 0 ∧ s.get o n = if n = 8 ∧ ¬ (s.s j).v.k = 0 then (s.s j).v else below n := by
  have e : s.getE o n = 0 := by unfold getE; rw [hn, hs, if_pos (by rfl), if_pos hf, if_pos hb]
  have e2 : o.toNat / 8 = j := by omega
  exact ⟨e, by unfold get; rw [e, if_pos rfl, e2]⟩
end St
end Hk
